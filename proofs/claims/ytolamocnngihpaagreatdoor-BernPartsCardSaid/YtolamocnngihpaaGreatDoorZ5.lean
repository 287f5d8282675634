/- Lemmas for bernParts, part 5. -/
import Derived.LaidMore
import Derived.Lay
import Derived.Deep.Slices
import Derived.Stop.Joined
import Derived.Deep.Strs
import Derived.Lib.SliceRun
import Derived.RangeFuncFrom
import Derived.RangeFuncCalls
import Derived.RangeFuncLeaves
import Derived.Shelf.Abstract
import Derived.Test.YtolamocnngihpaaGreatDoorZ4
namespace Go.Proofs.YtolamocnngihpaaGreatDoor
variable {b n:Nat}
open Go.RowKit
theorem om:bG n=0↔n=0:=by
 constructor
 ·intro h;have:=db n;rw [h] at this;omega
 ·intro h;rw [h];exact lC
theorem nN {a:Nat} (h:a≤b):bG a≤bG b:=dL (Xi h (db b))
theorem Ii (a b:Nat):bG (a+b)≤bG a+bG b+1:=by
 apply dL;have h1:=db a;have h2:=db b;have h3:2^bG a≤2^(bG a+bG b):=WS VZ VZ;have h4:2^bG b≤2^(bG a+bG b):=WS VZ VZ;rw [W0];omega
theorem dh (s:Bool) (m:ByteArray) (w:World) (hm:m.size≤1000000000):
  Calls Tryz.prog 152 #[.agg #[.bool s,.string m]] w fun e w'=>e=.returned (.agg #[.bool (iN (iv s m)),.string (iM (iv s m))])∧Below w.heap.size w w':=by
 have hh:=Hp.start w;have h1:=fS m;rw [OX,FB]
 cases s with
 |false=>
  refine aj (N:=16) (l:=[.agg #[.bool false,.string m]]) Tryz.func152 rfl rfl (by simp) ?_;refine sr ?_;refine bV hh [_,_] ?_;intro b1 w1 hh;refine bJ hh ?_;intro b2 w2 hh;refine aa (sr (bC ?_));refine bA hh 1 ?_;refine aE (hZ m _ hm) au.out rfl V0 ?_;rintro e_ w6 ⟨A6,c6,rfl,hown_,hb_⟩;refine ⟨_,rfl, ?_⟩;replace hh:=hh.aO (x:=.row _ _ _ _ _ _) hb_ hown_;refine Iy ?_;intro w7 hh;rw [gF];refine aS (aa (sr (bC ?_)));refine bA hh 2 ?_;refine mB ?_;refine gS (gS ?_);refine dR ?_;refine mS ?_;refine fe [_,_] ?_;exact J4
 |true=>
  by_cases h0:sN (bN m)=ByteArray.mk #[]
  ·refine aj (N:=16) (l:=[.agg #[.bool true,.string m]]) Tryz.func152 rfl rfl (by simp) ?_;refine sr ?_;refine bV hh [_,_] ?_;intro b1 w1 hh;refine bJ hh ?_;intro b2 w2 hh;refine aa (sr (bC ?_));refine bA hh 1 ?_;refine aE (hZ m _ hm) au.out rfl V0 ?_;rintro e_ w6 ⟨A6,c6,rfl,hown_,hb_⟩;refine ⟨_,rfl, ?_⟩;replace hh:=hh.aO (x:=.row _ _ _ _ _ _) hb_ hown_;refine Iy ?_;intro w7 hh;rw [gF];refine aS (aa (sr (bC ?_)));refine bA hh 2 ?_;refine mB (gT (mS (gT ?_)))
   (first|refine kA rfl rfl (by first|rfl|assumption|decide) V0 ?_|refine kG rfl rfl (by first|assumption|decide) V0 ?_)
   refine fi ?_;refine mS ?_;refine fe [_,_] ?_;refine bL hh 1 [_,_] ?_;intro ws hh;replace hh:Hp _ (_::.blk _ _ [_,_] _::_) _:=hh;refine aa (av ?_);refine xc ?_;exact OM
  ·refine aj (N:=16) (l:=[.agg #[.bool true,.string m]]) Tryz.func152 rfl rfl (by simp) ?_;refine sr ?_;refine bV hh [_,_] ?_;intro b1 w1 hh;refine bJ hh ?_;intro b2 w2 hh;refine aa (sr (bC ?_));refine bA hh 1 ?_;refine aE (hZ m _ hm) au.out rfl V0 ?_;rintro e_ w6 ⟨A6,c6,rfl,hown_,hb_⟩;refine ⟨_,rfl, ?_⟩;replace hh:=hh.aO (x:=.row _ _ _ _ _ _) hb_ hown_;refine Iy ?_;intro w7 hh;rw [gF];refine aS (aa (sr (bC ?_)));refine bA hh 2 ?_;refine mB (gT (mS (gT ?_)))
   (first|refine kA rfl rfl (by first|rfl|assumption|decide) V0 ?_|refine kG rfl rfl (by first|assumption|decide) V0 ?_)
   refine fi ?_;refine mS ?_;refine fe [_,_] ?_;refine bL hh 1 [_,_] ?_;intro ws hh;replace hh:Hp _ (_::.blk _ _ [_,_] _::_) _:=hh;refine aa (av ?_);refine xc ?_;exact P2
theorem CV (s:Bool) (m:ByteArray) (w:World) (hm:m.size≤1000000000):
  Calls Tryz.prog 170 #[.agg #[.bool s,.string m]] w fun e w'=>e=.returned (.agg #[.bool (iN (-(iv s m))),.string (iM (-(iv s m)))])∧Below w.heap.size w w':=by
 have hh:=Hp.start w;have e1:iv (!s) m= -(iv s m):=by unfold iv;cases s<;>simp
 refine aj (N:=10) (l:=[.agg #[.bool s,.string m]]) Tryz.func170 rfl rfl (by simp) ?_;refine sr ?_;refine bV hh [_,_] ?_;intro b1 w1 hh;refine bJ hh ?_;intro b2 w2 hh;refine aa (sr (bC ?_));refine bA hh 1 ?_;refine gj ?_;refine bC ?_;refine bA hh 1 ?_;refine fe [_,_] ?_;refine bq hh (dh (!s) m _ hm) rfl ?_;intro w9 hh;rw [e1];exact LM
theorem jn (s:Bool) (m:ByteArray) (w:World) (hm:m.size≤1000000000):
  Calls Tryz.prog 182 #[.agg #[.bool s,.string m]] w fun e w'=>e=.returned (.int .i64 (iv s m).sign)∧Below w.heap.size w w':=by
 have hh:=Hp.start w;by_cases h0:bN m=0
 ·have hb:bG (bN m)=0:=om.2 h0;refine aj (N:=9) (l:=[.agg #[.bool s,.string m]]) Tryz.func182 rfl rfl (by simp) ?_;refine sr ?_;refine bV hh [_,_] ?_;intro b1 w1 hh;refine aI (aa (ah (sr (bC ?_))));refine bA hh 0 ?_;refine bq hh (o8 m _ hm) rfl ?_;intro w5 hh;refine Eo ?_;refine cW ?_;have hz:iv s m=0:=by unfold iv;split<;>omega
  exact ⟨by rw [hz];rfl,hh.below⟩
 ·have hb:bG (bN m)≠0:=fun h=>h0 (om.1 h)
  cases s with
  |true=>
   refine aj (N:=9) (l:=[.agg #[.bool true,.string m]]) Tryz.func182 rfl rfl (by simp) ?_;refine sr ?_;refine bV hh [_,_] ?_;intro b1 w1 hh;refine aI (aa (ah (sr (bC ?_))));refine bA hh 0 ?_;refine bq hh (o8 m _ hm) rfl ?_;intro w5 hh;refine EO ?_;refine bA hh 0 ?_;refine Aq ?_;refine cW ?_;have hz:iv true m<0:=by unfold iv;rw [V5 rfl];omega
   exact ⟨by rw [XO hz],hh.below⟩
  |false=>
   refine aj (N:=9) (l:=[.agg #[.bool false,.string m]]) Tryz.func182 rfl rfl (by simp) ?_;refine sr ?_;refine bV hh [_,_] ?_;intro b1 w1 hh;refine aI (aa (ah (sr (bC ?_))));refine bA hh 0 ?_;refine bq hh (o8 m _ hm) rfl ?_;intro w5 hh;refine EO ?_;refine bA hh 0 ?_;refine EM ?_;refine cW ?_;have hz:0<iv false m:=by unfold iv;rw [V6 (by simp)];omega
   exact ⟨by rw [XL hz],hh.below⟩
theorem rf (n:Int) (w:World) (h1: -9223372036854775808≤n) (h2:n≤9223372036854775807):
  Calls Tryz.prog 103 #[.int .i64 n] w fun e w'=>e=.returned (.agg #[.bool (iN n),.string (iM n)])∧Below w.heap.size w w':=by
 have hh:=Hp.start w;by_cases h0:n<0
 ·have hn:iN n=true:=Wr h0;obtain ⟨m,hm⟩:=Zs (by omega:0≤ -(n+1));have ha:n.natAbs=m+1:=VZ;have hw:(m+1) % 18446744073709551616=m+1:=WU VZ;refine aj (N:=16) (l:=[.int .i64 n]) Tryz.func103 rfl rfl (by simp) ?_;refine sr ?_;refine bJ hh ?_;intro b2 w2 hh;refine aa (ah (sr (mI ?_)));refine a0 (aa (cT (sr (mI ?_))));refine bj ?_;refine ye rfl VZ VZ V0 ?_;rw [show -(n+1)=(m:Int) from hm];refine kV ?_;refine gW (b:=1) rfl rfl V0 ?_;rw [hw];refine bq hh (xb (m+1) _ VZ) rfl ?_;intro w10 hh;rw [←ha];refine fe [_,_] ?_;refine bL hh 0 [_,_] ?_;intro ws hh;replace hh:Hp _ (.blk _ _ [_,_] _::_) _:=hh;refine aa (av (aK ?_));refine pw ?_;rw [hn];exact ⟨rfl,hh.below⟩
 ·obtain ⟨m,rfl⟩:=Zs (by omega:0≤n);have hn:iN (m:Int)=false:=WG VZ;have hm:m<18446744073709551616:=VZ;have e1:iM (m:Int)=sN m:=rfl;refine aj (N:=16) (l:=[.int .i64 (m:Int)]) Tryz.func103 rfl rfl (by simp) ?_;refine sr ?_;refine bJ hh ?_;intro b2 w2 hh;refine aa (ah (sr (mI ?_)));refine a0 (aa (cF (ao (ai (sr (mI ?_))))));refine kV ?_;refine bq hh (xb m _ hm) rfl ?_;intro w14 hh;refine fe [_,_] ?_;refine bL hh 0 [_,_] ?_;intro ws hh;replace hh:Hp _ (.blk _ _ [_,_] _::_) _:=hh;refine aa (av ?_);refine pw ?_;rw [hn,e1];exact ⟨rfl,hh.below⟩
theorem mK (s t:Bool) (a b:ByteArray) (w:World) (ha:a.size≤100000000) (hb:b.size≤100000000):
  Calls Tryz.prog 150 #[.agg #[.bool s,.string a],.agg #[.bool t,.string b]] w fun e w'=>e=.returned (.agg #[.bool (iN (iv s a+iv t b)),.string (iM (iv s a+iv t b))])∧Below w.heap.size w w':=by
 have hh:=Hp.start w;have hba:=fq a;have hbb:=fq b;by_cases hst:s=t
 ·subst hst;have e1:iv s (sN (bN a+bN b))=iv s a+iv s b:=by unfold iv;rw [eY];split<;>omega
  have hsz:(sN (bN a+bN b)).size≤1000000000:=by rw [jP];have:=Ii (bN a) (bN b);omega
  rw [←e1];refine aj (N:=49) (l:=[.agg #[.bool s,.string a],.agg #[.bool s,.string b]]) Tryz.func150 rfl rfl (by simp) ?_;refine sr ?_;refine bV hh [_,_] ?_;intro b2 w2 hh;refine bV hh [_,_] ?_;intro b3 w3 hh;refine bJ hh ?_;intro b4 w4 hh;refine aa (ah (sr (bC ?_)));refine bA hh 2 ?_;refine bC ?_;refine bA hh 1 ?_;refine EN a9.out rfl rfl (by first|rfl|assumption) V0 ?_;refine aa (cT (ah ?_));refine aN 8 [[(2,none)],[(12,some 0)],[(2,none)],[(14,some 2)],[(3,none)],[(16,some 4)],[(15,some 3),(17,some 5)],[(18,some 6)]] [(7,19),(6,18),(5,17),(4,16),(3,15),(2,14),(1,13),(0,12)] hh mixed V2 ?_;refine da ?_;refine dN 2 ?_;refine da ?_;refine dN 2 ?_;refine da ?_;refine dN 1 ?_;refine rh [_,_] ?_;refine aP (i:=7) (Is (.string (sN (bN a+bN b)))) Is.ext ?_ ?_
  ·intro ρ1 w1 hj hR;obtain ⟨A18,c18,h18,s18⟩:=hR.1;exact bf rfl (aQ au.out (aw h18 a8)) (Dj A18 2 c18 [a,b] _ s18 VZ (by simp;omega)) (fun _ _ hq=>⟨_,hq.1,hq.2,rfl⟩)
  refine aG ?_;intro f W hJ hV;have hb_2:=hJ.bl;obtain ⟨v19,v18,v17,v16,v15,v14,v13,v12,_⟩:=hV;obtain ⟨A18,c18,e18,f18⟩:Rows _ _ _ (f 6) W:=v18;replace hh:=hJ.hp;refine aU (bg (ae v19 (ae e18 (ae v17 (ae v16 (ae v15 (ae v14 (ae v13 (ae v12 aT))))))))) ?_;dsimp only [bI];clear e18 hJ;refine fe [_,_] ?_;refine bq hh (dh s (sN (bN a+bN b)) _ hsz) rfl ?_;intro w21 hh;exact Ak
 ·by_cases hle:bN b≤bN a
  ·have e1:iv s (sN (bN a-bN b))=iv s a+iv t b:=by unfold iv;rw [eY];cases s<;>cases t<;>simp at hst ⊢ <;>omega
   have hsz:(sN (bN a-bN b)).size≤1000000000:=by rw [jP];have:=nN (show bN a-bN b≤bN a by omega);omega
   rw [←e1];refine aj (N:=49) (l:=[.agg #[.bool s,.string a],.agg #[.bool t,.string b]]) Tryz.func150 rfl rfl (by simp) ?_;refine sr ?_;refine bV hh [_,_] ?_;intro b2 w2 hh;refine bV hh [_,_] ?_;intro b3 w3 hh;refine bJ hh ?_;intro b4 w4 hh;refine aa (ah (sr (bC ?_)));refine bA hh 2 ?_;refine bC ?_;refine bA hh 1 ?_;refine Gb ?_;refine rV ?_;refine bA hh 2 ?_;refine bC ?_;refine bA hh 1 ?_;refine bq hh (ph a b _ VZ VZ) rfl ?_;intro w27 hh;rw [Wr hle];refine mT ?_;refine dE ?_;refine dE ?_;refine aS (aB (aa (ah (sr (mB (aa (cT (sr (bC ?_)))))))));refine bA hh 2 ?_;refine mS ?_;refine fe [_,_] ?_;refine bq hh (dh s (sN (bN a-bN b)) _ hsz) rfl ?_;intro w35 hh;exact Ak
  ·have e1:iv t (sN (bN b-bN a))=iv s a+iv t b:=by unfold iv;rw [eY];cases s<;>cases t<;>simp at hst ⊢ <;>omega
   have hsz:(sN (bN b-bN a)).size≤1000000000:=by rw [jP];have:=nN (show bN b-bN a≤bN b by omega);omega
   rw [←e1];refine aj (N:=49) (l:=[.agg #[.bool s,.string a],.agg #[.bool t,.string b]]) Tryz.func150 rfl rfl (by simp) ?_;refine sr ?_;refine bV hh [_,_] ?_;intro b2 w2 hh;refine bV hh [_,_] ?_;intro b3 w3 hh;refine bJ hh ?_;intro b4 w4 hh;refine aa (ah (sr (bC ?_)));refine bA hh 2 ?_;refine bC ?_;refine bA hh 1 ?_;refine Gb ?_;refine rV ?_;refine bA hh 2 ?_;refine bC ?_;refine bA hh 1 ?_;refine bq hh (ph a b _ VZ VZ) rfl ?_;intro w27 hh;rw [WG hle];refine mT ?_;refine dE ?_;refine dE ?_;refine aS (aB (aa (ah (sr (mB (aa (cF (ao (ai (sr (bC ?_)))))))))));refine bA hh 1 ?_;refine bC ?_;refine bA hh 2 ?_;refine bq hh (ph b a _ VZ VZ) rfl ?_;intro w41 hh;refine mT ?_;refine dE ?_;refine dE ?_;refine aS (aa (sr (bC ?_)));refine bA hh 1 ?_;refine mS ?_;refine fe [_,_] ?_;refine bq hh (dh t (sN (bN b-bN a)) _ hsz) rfl ?_;intro w48 hh;exact LM
theorem yq (s t:Bool) (a b:ByteArray) (w:World) (ha:a.size≤100000000) (hb:b.size≤100000000):
  Calls Tryz.prog 123 #[.agg #[.bool s,.string a],.agg #[.bool t,.string b]] w fun e w'=>e=.returned (.agg #[.bool (iN (iv s a*iv t b)),.string (iM (iv s a*iv t b))])∧Below w.heap.size w w':=by
 have hh:=Hp.start w;have hba:=fq a;have hbb:=fq b;have e0:(iv s a*iv t b).natAbs=bN a*bN b:=by rw [X9,iK,iK]
 have e1:iM (iv s a*iv t b)=sN (bN a*bN b):=by rw [iM,e0]
 have e2:iv (s !=t) (sN (bN a*bN b))=iv s a*iv t b:=by rw [←e1,vj]
 have hsz:(sN (bN a*bN b)).size≤1000000000:=by rw [jP];have:=AU (bN a) (bN b);omega
 rw [←e2];refine aj (N:=17) (l:=[.agg #[.bool s,.string a],.agg #[.bool t,.string b]]) Tryz.func123 rfl rfl (by simp) ?_;refine sr ?_;refine bV hh [_,_] ?_;intro b2 w2 hh;refine bV hh [_,_] ?_;intro b3 w3 hh;refine bJ hh ?_;intro b4 w4 hh;refine aa (ah ?_);refine I8 ?_;refine da ?_;refine dN 2 ?_;refine da ?_;refine dN 1 ?_;refine a6 (i:=4) (fun ρ1 w1 hj hR=>l6 a9.out (show ρ1 6=Value.bool _ from hR.1) (show ρ1 8=Value.bool _ from hR.2.1)) ?_;refine da ?_;refine dN 2 ?_;refine da ?_;refine dN 1 ?_;refine dC (fun _ hj=>Dw a b _ VZ VZ) ?_;refine aG ?_;intro f W hJ hV;have hb_1:=hJ.bl;obtain ⟨v14,v13,v12,v11,v10,v9,v8,v7,v6,v5,_⟩:=hV;replace hh:=hJ.hp;refine F3 ?_;dsimp only [bI];clear hJ;refine fe [_,_] ?_;refine bq hh (dh (s !=t) (sN (bN a*bN b)) _ hsz) rfl ?_;intro w16 hh;exact LM
theorem CW (s:Bool) (a:ByteArray) (k:Nat) (w:World) (ha:a.size≤100000000) (hk:k≤1000000000):
  Calls Tryz.prog 151 #[.agg #[.bool s,.string a],.int .i64 (k:Int)] w fun e w'=>e=.returned (.agg #[.bool (iN (iv s a*2^k)),.string (iM (iv s a*2^k))])∧Below w.heap.size w w':=by
 have hh:=Hp.start w;have hba:=fq a;have e2:iv s (sN (bN a*2^k))=iv s a*2^k:=by unfold iv;rw [eY];split<;>simp [Int.neg_mul]
 have hsz:(sN (bN a*2^k)).size≤1000000000:=by rw [jP];have:=iE (bN a) k;omega
 rw [←e2];refine aj (N:=43) (l:=[.agg #[.bool s,.string a],.int .i64 (k:Int)]) Tryz.func151 rfl rfl (by simp) ?_;refine sr ?_;refine bV hh [_,_] ?_;intro b2 w2 hh;refine bJ hh ?_;intro b4 w4 hh;refine aa (ah (sr (mI ?_)));refine dP (aa (cT (ah ?_)));refine aN 6 [[(2,none)],[(12,some 0)],[(2,none)],[(14,some 2)],[(1,none)],[(15,some 3),(16,some 4)]] [(5,17),(4,16),(3,15),(2,14),(1,13),(0,12)] hh mixed V2 ?_;refine da ?_;refine dN 1 ?_;refine da ?_;refine dN 1 ?_;refine dn ?_;refine dC (fun _ hj=>CG a k _ VZ VZ) ?_;refine aG ?_;intro f W hJ hV;have hb_2:=hJ.bl;obtain ⟨v17,v16,v15,v14,v13,v12,_⟩:=hV;replace hh:=hJ.hp;refine aU (bg (ae v17 (ae v16 (ae v15 (ae v14 (ae v13 (ae v12 aT))))))) ?_;dsimp only [bI];clear hJ;refine fe [_,_] ?_;refine bq hh (dh s (sN (bN a*2^k)) _ hsz) rfl ?_;intro w19 hh;exact Ak
theorem pj (z:Int) (B:Nat) (q r:Int) (h:r+B*q=z) (h0:0≤r) (h1:r<B):z/B=q∧z % B=r:=
 (Int.ediv_emod_unique VZ).2 ⟨h,h0,h1⟩
theorem Co (s:Bool) (a b:ByteArray) (w:World) (ha:a.size≤10000000) (hb:b.size≤10000000) (hb0:bN b≠0):
  Calls Tryz.prog 153 #[.agg #[.bool s,.string a],.agg #[.bool false,.string b]] w fun e w'=>e=.returned (.tuple #[.agg #[.bool (iN (iv s a/bN b)),.string (iM (iv s a/bN b))],.agg #[.bool (iN (iv s a % bN b)),.string (iM (iv s a % bN b))],.bool true])∧Below w.heap.size w w':=by
 have hh:=Hp.start w;have hba:=fq a;have hbb:=fq b;have hmod:bN a % bN b<bN b:=WB _ VZ;have hdm:bN b*(bN a/bN b)+bN a % bN b=bN a:=XT _ _;have hdm':(bN b:Int)*((bN a/bN b:Nat):Int)+((bN a % bN b:Nat):Int)=(bN a:Int):=by rw [←Xk,←X7,hdm]
 have hqs:(sN (bN a/bN b)).size≤10000000:=by rw [jP];have:=nN (Yw (bN a) (bN b));omega
 have hrs:(sN (bN a % bN b)).size≤10000000:=by rw [jP];have:=nN (show bN a % bN b≤bN b by omega);omega
 have hqz:∀u,(iM (iv u (sN (bN a/bN b)))).size≤10000000:=fun u=>by rw [FB,eY];exact hqs
 have hrz:∀u,(iM (iv u (sN (bN a % bN b)))).size≤10000000:=fun u=>by rw [FB,eY];exact hrs
 by_cases hneg:s=true∧bN a % bN b≠0
 ·obtain ⟨rfl,hne⟩:=hneg;have e1:iv true (sN (bN a/bN b))= -((bN a/bN b:Nat):Int):=by unfold iv;rw [eY,V5 rfl]
  have e2:iv true (sN (bN a % bN b))= -((bN a % bN b:Nat):Int):=by unfold iv;rw [eY,V5 rfl]
  have hlt:(iv true (sN (bN a % bN b))).sign<0:=by rw [e2,XO VZ];omega
  have e3:iv true a= -(bN a:Int):=by unfold iv;rw [V5 rfl]
  obtain ⟨q1,q2⟩:=pj (iv true a) (bN b) (-((bN a/bN b:Nat):Int)+ -1) ((bN b:Int)-((bN a % bN b:Nat):Int)) (by rw [e3,←hdm',Int.mul_add,Int.mul_neg];omega) VZ VZ;have e4:iv false b=(bN b:Int):=by unfold iv;rw [V6 (by simp)]
  have hp2:(bN b:Int).sign=1:=XL VZ;refine aj (N:=57) (l:=[.agg #[.bool true,.string a],.agg #[.bool false,.string b]]) Tryz.func153 rfl rfl (by simp) ?_;refine sr ?_;refine bV hh [_,_] ?_;intro b2 w2 hh;refine bV hh [_,_] ?_;intro b3 w3 hh;refine bJ hh ?_;intro b4 w4 hh;refine bJ hh ?_;intro b5 w5 hh;refine aB (aa (sr (bC ?_)));refine bA hh 3 ?_;refine bC ?_;refine bA hh 2 ?_;refine bq hh (o7 a b _ VZ VZ hb0) rfl ?_;intro w18 hh;refine mT ?_;refine dE ?_;refine dE ?_;refine dE ?_;refine aS (aS (aB (aa (ah (sr (mB ?_))))));refine gj ?_;refine rV ?_;refine bA hh 3 ?_;refine bC ?_;refine bA hh 2 ?_;refine Gr a9.out rfl rfl (by first|assumption|decide) V0 ?_;refine mS ?_;refine fe [_,_] ?_;refine bq hh (dh true (sN (bN a/bN b)) _ VZ) rfl ?_;intro w33 hh;refine bJ hh ?_;intro b10 w10 hh;refine bL hh 0 [_,_] ?_;intro ws hh;replace hh:Hp _ (.blk _ _ [_,_] _::_) _:=hh;refine aa (sr (bC ?_));refine bA hh 4 ?_;refine mS ?_;refine fe [_,_] ?_;refine bq hh (dh true (sN (bN a % bN b)) _ VZ) rfl ?_;intro w38 hh;refine bJ hh ?_;intro b11 w11 hh;refine bL hh 0 [_,_] ?_;intro ws hh;replace hh:Hp _ (.blk _ _ [_,_] _::_) _:=hh
  refine aa (ah (sr ?_));refine bY hh 0 [_,_] ?_;refine bq hh (jn (iN (iv true (sN (bN a % bN b)))) (iM (iv true (sN (bN a % bN b)))) _ (by have:=hrz true;omega)) rfl ?_;intro w40 hh;rw [ff];refine a0 (aa (cT (sr ?_)));refine bY hh 0 [_,_] (bC ?_);refine bA hh 4 ?_;refine fe [_,_] ?_;refine bq hh (mK (iN (iv true (sN (bN a % bN b)))) false (iM (iv true (sN (bN a % bN b)))) b _ (by have:=hrz true;omega) VZ) rfl ?_;intro w46 hh;rw [ff,e2,e4,show -((bN a % bN b:Nat):Int)+(bN b:Int)=(bN b:Int)-((bN a % bN b:Nat):Int) by omega,←q2];refine bL hh 0 [_,_] ?_;intro ws hh;replace hh:Hp _ (.blk _ _ [_,_] _::_) _:=hh;refine aa (sr ?_);refine bq hh (rf (-1) _ VZ VZ) rfl ?_;intro w47 hh;refine bJ hh ?_;intro b12 w12 hh;refine bL hh 0 [_,_] ?_;intro ws hh;replace hh:Hp _ (.blk _ _ [_,_] _::_) _:=hh;refine aa (ah (sr ?_));refine bY hh 5 [_,_] ?_;refine bq hh (jn false b _ VZ) rfl ?_;intro w49 hh;rw [e4,hp2];refine a0 (aa (cF (ao (ai (ak ?_)))));refine bY hh 2 [_,_] ?_;refine bY hh 0 [_,_] ?_;refine bq hh (mK (iN (iv true (sN (bN a/bN b)))) (iN (-1)) (iM (iv true (sN (bN a/bN b)))) (iM (-1)) _ (by have:=hqz true;omega) V0) rfl ?_;intro w54 hh
  rw [ff,ff,e1,←q1];refine bL hh 2 [_,_] ?_;intro ws hh;replace hh:Hp _ (_::_::.blk _ _ [_,_] _::_) _:=hh;refine aa (ah ?_);refine qz hh mixed fun w_ hj_=> ?_;replace hh:=hj_.hp;clear hj_;refine tf (i:=0) (i2:=1) V2 rfl rfl ?_ ?_
  ·refine bY hh 2 [_,_] ?_;refine fw ?_;refine tf (i:=1) (i2:=2) V2 rfl rfl ?_ ?_
   ·refine bY hh 1 [_,_] ?_;exact Oy
   ·refine bL hh 4 [_,_] ?_;intro ws hh;replace hh:Hp _ (_::_::_::_::.blk _ _ [_,_] _::_) _:=hh;refine fw ?_;refine fV (i:=1) V2 rfl ?_;refine bY hh 1 [_,_] ?_;exact Sr
  ·refine bY hh 1 [_,_] ?_;refine fw ?_;refine fV (i:=0) V2 rfl ?_;refine bY hh 2 [_,_] ?_;exact Oy
 ·have e4:iv s a/bN b=iv s (sN (bN a/bN b))∧iv s a % bN b=iv s (sN (bN a % bN b)):=by
   cases s with
   |false=>
    have f0:∀x,iv false x=(bN x:Int):=fun x=>by unfold iv;rw [V6 (by simp)]
    rw [f0,f0,f0,eY,eY];exact pj _ _ _ _ VZ VZ VZ
   |true=>
    have r0:bN a % bN b=0:=by
     rcases XM (bN a % bN b) with h|h
     ·exact h
     ·exact absurd ⟨rfl,VZ⟩ hneg
    have f0:∀x,iv true x= -(bN x:Int):=fun x=>by unfold iv;rw [V5 rfl]
    rw [f0,f0,f0,eY,eY,r0];rw [r0] at hdm';exact pj _ _ _ _ (by rw [Int.mul_neg];omega) VZ VZ
  have h5:¬(iv s (sN (bN a % bN b))).sign<0:=by
   have h6:0≤iv s (sN (bN a % bN b)):=by rw [←e4.2];exact Int.emod_nonneg _ VZ
   have:=Int.sign_nonneg_iff.2 h6;omega
  rw [e4.1,e4.2]
  cases s with
  |false=>
   refine aj (N:=57) (l:=[.agg #[.bool false,.string a],.agg #[.bool false,.string b]]) Tryz.func153 rfl rfl (by simp) ?_;refine sr ?_;refine bV hh [_,_] ?_;intro b2 w2 hh;refine bV hh [_,_] ?_;intro b3 w3 hh;refine bJ hh ?_;intro b4 w4 hh;refine bJ hh ?_;intro b5 w5 hh;refine aB (aa (sr (bC ?_)));refine bA hh 3 ?_;refine bC ?_;refine bA hh 2 ?_;refine bq hh (o7 a b _ VZ VZ hb0) rfl ?_;intro w18 hh;refine mT ?_;refine dE ?_;refine dE ?_;refine dE ?_;refine aS (aS (aB (aa (ah (sr (mB ?_))))));refine gj ?_;refine rV ?_;refine bA hh 3 ?_;refine bC ?_;refine bA hh 2 ?_;refine MG a9.out rfl rfl (by first|rfl|assumption) V0 ?_;refine mS ?_;refine fe [_,_] ?_;refine bq hh (dh false (sN (bN a/bN b)) _ VZ) rfl ?_;intro w33 hh;refine bJ hh ?_;intro b10 w10 hh;refine bL hh 0 [_,_] ?_;intro ws hh;replace hh:Hp _ (.blk _ _ [_,_] _::_) _:=hh;refine aa (sr (bC ?_));refine bA hh 4 ?_;refine mS ?_;refine fe [_,_] ?_;refine bq hh (dh false (sN (bN a % bN b)) _ VZ) rfl ?_;intro w38 hh;refine bJ hh ?_;intro b11 w11 hh;refine bL hh 0 [_,_] ?_;intro ws hh;replace hh:Hp _ (.blk _ _ [_,_] _::_) _:=hh;refine aa (ah (sr ?_));refine bY hh 0 [_,_] ?_
   refine bq hh (jn (iN (iv false (sN (bN a % bN b)))) (iM (iv false (sN (bN a % bN b)))) _ (by have:=hrz false;omega)) rfl ?_;exact UN
  |true=>
   refine aj (N:=57) (l:=[.agg #[.bool true,.string a],.agg #[.bool false,.string b]]) Tryz.func153 rfl rfl (by simp) ?_;refine sr ?_;refine bV hh [_,_] ?_;intro b2 w2 hh;refine bV hh [_,_] ?_;intro b3 w3 hh;refine bJ hh ?_;intro b4 w4 hh;refine bJ hh ?_;intro b5 w5 hh;refine aB (aa (sr (bC ?_)));refine bA hh 3 ?_;refine bC ?_;refine bA hh 2 ?_;refine bq hh (o7 a b _ VZ VZ hb0) rfl ?_;intro w18 hh;refine mT ?_;refine dE ?_;refine dE ?_;refine dE ?_;refine aS (aS (aB (aa (ah (sr (mB ?_))))));refine gj ?_;refine rV ?_;refine bA hh 3 ?_;refine bC ?_;refine bA hh 2 ?_;refine Gr a9.out rfl rfl (by first|assumption|decide) V0 ?_;refine mS ?_;refine fe [_,_] ?_;refine bq hh (dh true (sN (bN a/bN b)) _ VZ) rfl ?_;intro w33 hh;refine bJ hh ?_;intro b10 w10 hh;refine bL hh 0 [_,_] ?_;intro ws hh;replace hh:Hp _ (.blk _ _ [_,_] _::_) _:=hh;refine aa (sr (bC ?_));refine bA hh 4 ?_;refine mS ?_;refine fe [_,_] ?_;refine bq hh (dh true (sN (bN a % bN b)) _ VZ) rfl ?_;intro w38 hh;refine bJ hh ?_;intro b11 w11 hh;refine bL hh 0 [_,_] ?_;intro ws hh;replace hh:Hp _ (.blk _ _ [_,_] _::_) _:=hh;refine aa (ah (sr ?_));refine bY hh 0 [_,_] ?_
   refine bq hh (jn (iN (iv true (sN (bN a % bN b)))) (iM (iv true (sN (bN a % bN b)))) _ (by have:=hrz true;omega)) rfl ?_;exact UN
variable {j k m:Nat}{z:Int}
theorem Gh (h:n≠0):sb n=sb (n/256)++[UInt8.ofNat (n % 256)]:=by
 rw [sb,GP VZ h,Wv,Zg]
 rfl
theorem EI (h:n≠0):1≤(sN n).size∧∃c:UInt8,(sN n).data.toList[(((sN n).size:Int)-1).toNat]?=some c∧c.toNat=n % 256:=by
 have hl:(sN n).data.toList=sb (n/256)++[UInt8.ofNat (n % 256)]:=by rw [sN,dV,Gh h]
 have hs:(sN n).size=(sb (n/256)).length+1:=by rw [eh,hl,We];rfl
 refine ⟨VZ,UInt8.ofNat (n % 256), ?_, ?_⟩
 ·rw [hl,hs,Xt VZ];have:(((sb (n/256)).length+1:Nat)-1:Int).toNat-(sb (n/256)).length=0:=VZ;rw [this]
  rfl
 ·simp
theorem QQ (h:n≠0):(sN n).extract 0 ((sN n).size-1)=sN (n/256):=by
 have hl:(sN n).data=(sb (n/256)++[UInt8.ofNat (n % 256)]).toArray:=by rw [sN,←Gh h];rfl
 have hs:(sN n).size=(sb (n/256)).length+1:=by rw [eh,hl,We];rfl
 apply ByteArray.ext;rw [ByteArray.data_extract,hl,hs];show _=(sb (n/256)).toArray;simp
theorem Qu {k:Int} (h:0<k) (y:Int):iN (y*k)=iN y:=by
 unfold iN;rw [decide_eq_decide];constructor
 ·intro h1
  rcases Zb y 0 with h2|h2|h2
  ·exact h2
  ·rw [h2] at h1;simp at h1
  ·have:=Int.mul_pos h2 h;omega
 ·intro h1;exact Int.mul_neg_of_neg_of_pos h1 h
theorem QS (h:n % 2=1):tz n=0:=by
 have:=FE 0 (n/2);rwa [show 2^0*(2*(n/2)+1)=n by omega] at this
theorem IQ {y e:Int} (hy:y.natAbs % 2=1) (hz:y*2^j=z):nR (Dyadic.ofIntWithPrec z (-e))=⟨iN y,iM y,e+j⟩:=by
 have h1:=rj (s:=iN y) (a:=iM y) (e:=e+j) (by rw [ff];omega);rw [ff,iM,eY,QS hy] at h1;have h2:=nP y (-(e+j)) j;rw [hz,show -(e+(j:Int))+j= -e by omega] at h2;rw [h2,h1];simp
theorem sS {y:Int} (hy:y≠0) (hz:y*2^j=z) (hm:z.natAbs<2^m):j<m:=by
 have h1:z.natAbs=y.natAbs*2^j:=by rw [←hz,X9,YH];rfl
 have h2:1*2^j≤y.natAbs*2^j:=Xr _ VZ;have h3:2^j<2^m:=VZ;exact (Nat.pow_lt_pow_iff_right VZ).1 h3
theorem mV (s:Bool) (a:ByteArray) (e:Int) (w:World) (ha:a.size≤10000000) (h1: -1000000000000≤e) (h2:e≤1000000000000):
  Calls Tryz.prog 102 #[.agg #[.bool s,.string a],.int .i64 e] w fun r w'=>r=.returned (.agg #[.bool (nR (Dyadic.ofIntWithPrec (iv s a) (-e))).neg,.string (nR (Dyadic.ofIntWithPrec (iv s a) (-e))).bk,.int .i64 (nR (Dyadic.ofIntWithPrec (iv s a) (-e))).e])∧Below w.heap.size w w':=by
 have hh:=Hp.start w;by_cases h0:iv s a=0
 ·have hm:=sT.2 h0;rw [h0] at hm;refine aj (N:=50) (l:=[.agg #[.bool s,.string a],.int .i64 e]) Tryz.func102 rfl rfl (by simp) ?_;refine sr ?_;refine bV hh [_,_] ?_;intro b2 w2 hh;refine bJ hh ?_;intro b4 w4 hh;refine aa (sr ?_);refine bY hh 1 [_,_] ?_;refine bq hh (dh s a _ VZ) rfl ?_;intro w6 hh;rw [h0];refine bL hh 1 [_,_] ?_;intro ws hh;replace hh:Hp _ (_::.blk _ _ [_,_] _::_) _:=hh;refine aa (ah (sr (bC ?_)));refine bA hh 1 ?_;refine ky rfl rfl (by first|rfl|assumption|decide) V0 ?_;refine aa (cT (sr ?_));refine fe [_,_,_] ?_;refine bL hh 0 [_,_,_] ?_;intro ws hh;replace hh:Hp _ (.blk _ _ [_,_,_] _::_) _:=hh;refine aa (av (aK ?_));refine z8 ?_;rw [j9,lH];exact ⟨rfl,hh.below⟩
 ·have hm:¬iM (iv s a)=ByteArray.mk #[]:=fun h=>h0 (sT.1 h);have hzb:(iv s a).natAbs<2^(8*a.size):=by
   rw [iK,W5];exact wG a
  refine aj (N:=50) (l:=[.agg #[.bool s,.string a],.int .i64 e]) Tryz.func102 rfl rfl (by simp) ?_;refine sr ?_;refine bV hh [_,_] ?_;intro b2 w2 hh;refine bJ hh ?_;intro b4 w4 hh;refine aa (sr ?_);refine bY hh 1 [_,_] ?_;refine bq hh (dh s a _ VZ) rfl ?_;intro w6 hh;refine bL hh 1 [_,_] ?_;intro ws hh;replace hh:Hp _ (_::.blk _ _ [_,_] _::_) _:=hh;refine aa (ah (sr (bC ?_)));refine bA hh 1 ?_;refine kz rfl rfl (by first|assumption|decide) V0 ?_;refine aa (cF (ao (ai (ah (aq ?_)))));generalize hz:iv s a=z at*;refine aW [1,11,12,13,14,15,16,17,18,19,20,21,22,23,24,25,26,27,28] 1
   (fun v w'=>∃(y:Int) (j:Nat),y≠0∧y*2^j=z∧v=.int .i64 (e+j)∧Hp w [.blk b4 40 [.bool false,.string (ByteArray.mk #[]),.int .i64 0] (0,0),.blk b2 38 [.bool (iN y),.string (iM y)] (0,0)] w')
   (fun v _=>(e+8*a.size+1-intOf v).toNat) ?_ ?_
  ·exact ⟨z,0,h0,by simp,by show Value.int _ _=Value.int _ _;congr 1;omega,hh⟩
  ·clear hh;rintro ρ' v w' ⟨y,j,hy,hyz,rfl,hh⟩;have hj:=sS hy hyz hzb;obtain ⟨hs1,c,hc,hcn⟩:=EI (n:=y.natAbs) VZ;have hcut:=QQ (n:=y.natAbs) VZ;have hsz:(sN y.natAbs).size≤10000000:=by
    exact TA
   change (iM y).data.toList[(((iM y).size:Int)-1).toNat]?=some c at hc
   change 1≤(iM y).size at hs1
   change (iM y).extract 0 ((iM y).size-1)=_ at hcut
   change (iM y).size≤_ at hsz
   by_cases hb:y.natAbs % 256=0
   ·obtain ⟨x,rfl⟩:∃x,y=x*256:=⟨y/256,VZ⟩;have hx:x≠0:=fun h=>hy (by rw [h];rfl);have e1:iN (x*256)=iN x:=Qu VZ x;have e2:sN ((x*256).natAbs/256)=iM x:=by rw [iM];congr 1;omega
    have hxz:x*2^(j+8)=z:=by rw [←hyz,Int.pow_add,Int.mul_assoc,Ze (2^j)];rfl
    have hj2:=sS hx hxz hzb;refine ah (sr (bC ?_));refine bA hh 1 ?_;refine bC ?_;refine bA hh 1 ?_;refine cg a9.out rfl V0 ?_;refine dQ ?_;refine kW ?_;refine ct (aa (cT (ao (ai (aq (sr (bC ?_)))))));refine bA hh 1 ?_;refine bC ?_;refine bA hh 1 ?_;refine cg a9.out rfl V0 ?_;refine dQ ?_;refine rX (l:=0) (h:=((iM (x*256)).size-1)) a9.out rfl rfl ⟨_,_,rfl,VZ⟩ VZ VZ V0 ?_;refine bC ?_;refine bL hh 1 [_] ?_;intro ws hh;replace hh:Hp _ (_::.blk _ _ [_,_] _::_) _:=hh;refine aa (ak (mI ?_));refine bj (aI (az (bF (ai ?_))));rw [hcut,e2,e1] at hh;refine ⟨⟨x,j+8,hx,hxz,by show Value.int _ _=Value.int _ _;congr 1;omega,hh⟩,by show (e+8*a.size+1-(e+j+8)).toNat<(e+8*a.size+1-(e+j)).toNat;omega, ?_⟩;exact dF
   ·refine ah (sr (bC ?_));refine bA hh 1 ?_;refine bC ?_;refine bA hh 1 ?_;refine cg a9.out rfl V0 ?_;refine dQ ?_;refine kW ?_;refine ct (aa (cF (aZ (aC (aC (br (ai (ah (aq ?_)))))))));refine aW [1,29,30,31,32,33,34,35,36,37,38,39,40,41,42,43,44,45,46] 1
     (fun v w'=>∃(y:Int) (j:Nat),y≠0∧y*2^j=z∧v=.int .i64 (e+j)∧Hp w [.blk b4 40 [.bool false,.string (ByteArray.mk #[]),.int .i64 0] (0,0),.blk b2 38 [.bool (iN y),.string (iM y)] (0,0)] w')
     (fun v _=>(e+8*a.size+1-intOf v).toNat) ?_ ?_
    ·exact ⟨y,j,hy,hyz,rfl,hh⟩
    ·clear hh hb hcut hcn hc hs1 hsz hj hy hyz;rintro ρ2 v w2 ⟨y,j,hy,hyz,rfl,hh⟩;have hj:=sS hy hyz hzb;obtain ⟨hs1,c,hc,hcn⟩:=EI (n:=y.natAbs) VZ;have hsz:(sN y.natAbs).size≤10000000:=by
      exact TA
     change (iM y).data.toList[(((iM y).size:Int)-1).toNat]?=some c at hc
     change 1≤(iM y).size at hs1
     change (iM y).size≤_ at hsz
     by_cases hb:y.natAbs % 2=0
     ·obtain ⟨x,rfl⟩:∃x,y=x*2:=⟨y/2,VZ⟩;have hx:x≠0:=fun h=>hy (by rw [h];rfl);have hxz:x*2^(j+1)=z:=by rw [←hyz,Int.pow_add,Int.mul_assoc,Ze (2^j)];rfl
      have hj2:=sS hx hxz hzb;have hof:∀w1,Calls Tryz.prog 103 #[.int .i64 2] w1 fun e w'=>e=.returned (.agg #[.bool false,.string (iM 2)])∧Below w1.heap.size w1 w':=fun w1=>rf 2 w1 VZ VZ;have hdv:∀w1,Calls Tryz.prog 153 #[.agg #[.bool (iN (x*2)),.string (iM (x*2))],.agg #[.bool false,.string (iM 2)]] w1 fun e w'=>e=.returned (.tuple #[.agg #[.bool (iN x),.string (iM x)],.agg #[.bool (iN 0),.string (iM 0)],.bool true])∧Below w1.heap.size w1 w':=fun w1=>by
       have h2:bN (iM 2)=2:=eY 2;have h3:(iM 2).size≤10000000:=by rw [dI];decide
       have:=Co (iN (x*2)) (iM (x*2)) (iM 2) w1 hsz h3 VZ;rw [ff,h2,show x*2/((2:Nat):Int)=x by omega,show x*2 % ((2:Nat):Int)=0 by omega] at this;exact this
      refine ah (sr (bC ?_));refine bA hh 1 ?_;refine bC ?_;refine bA hh 1 ?_;refine cg a9.out rfl V0 ?_;refine dQ ?_;refine kW ?_;refine Cu (b:=2) rfl rfl VZ V0 ?_;refine ct (aa (cT (ao (ai (aq (ah ?_))))));refine eC [] [5,6] [0,0,3,7,15,15,15,31] 7 [[(2,none)],[],[(39,some 0),(40,some 1)],[(41,some 2)],[(38,some 3)],[(38,some 3)],[(38,some 3)]] [(6,44),(5,43),(4,42),(3,38),(2,41),(1,40),(0,39)] hh mixed V2 eX rfl (by repeat (first|exact cD|refine bT ?_|refine cE ?_)) ?_;refine eJ 1 [_,_] ?_;refine dC (fun _ hj=>hof _) ?_;refine dC (fun _ hj=>hdv _) ?_;refine UH ?_;refine SZ ?_;refine SZ ?_;refine SZ ?_;refine aG ?_;intro f W hJ hV _;have hb_8:=hJ.bl;obtain ⟨v44,v43,v42,v38,v41,v40,v39,_⟩:=hV;replace hh:=hJ.hp;refine aU (bg (ae v44 (ae v43 (ae v42 (ae v38 (ae v41 (ae v40 (ae v39 aT)))))))) ?_;dsimp only [bI];clear hJ;refine bL hh 1 [_,_] ?_;intro ws hh;replace hh:Hp _ (_::.blk _ _ [_,_] _::_) _:=hh;refine aa (ak (mI ?_));refine bj (aI (az (bF (ai ?_))))
      refine ⟨⟨x,j+1,hx,hxz,by show Value.int _ _=Value.int _ _;congr 1;omega,hh⟩,by show (e+8*a.size+1-(e+j+1)).toNat<(e+8*a.size+1-(e+j)).toNat;omega, ?_⟩;exact dF
     ·have hfin:=IQ (e:=e) (show y.natAbs % 2=1 by omega) hyz;refine ah (sr (bC ?_));refine bA hh 1 ?_;refine bC ?_;refine bA hh 1 ?_;refine cg a9.out rfl V0 ?_;refine dQ ?_;refine kW ?_;refine Cu (b:=2) rfl rfl VZ V0 ?_;refine ct (aa (cF (aZ (aC (aC (br (ai (sr ?_))))))));refine bY hh 1 [_,_] (mI ?_);refine fe [_,_,_] ?_;refine bL hh 0 [_,_,_] ?_;intro ws hh;replace hh:Hp _ (.blk _ _ [_,_,_] _::_) _:=hh;refine aa (av ?_);refine z8 ?_;rw [hfin];exact ⟨rfl,hh.below⟩
theorem p6 {e:Int}{x:Dyadic} (w:World) (hx:Dyadic.ofIntWithPrec z (-e)=x) (hz:(iM z).size≤10000000) (h1: -1000000000000≤e) (h2:e≤1000000000000):
  Calls Tryz.prog 102 #[.agg #[.bool (iN z),.string (iM z)],.int .i64 e] w fun r w'=>r=.returned (.agg #[.bool (nR x).neg,.string (nR x).bk,.int .i64 (nR x).e])∧Below w.heap.size w w':=by
 have:=mV (iN z) (iM z) e w hz h1 h2;rw [ff,hx] at this;exact this
theorem gD (n:Int) (w:World) (h1: -9223372036854775808≤n) (h2:n≤9223372036854775807):
  Calls Tryz.prog 39 #[.int .i64 n] w fun r w'=>r=.returned (.agg #[.bool (nR (n:Dyadic)).neg,.string (nR (n:Dyadic)).bk,.int .i64 (nR (n:Dyadic)).e])∧Below w.heap.size w w':=by
 have hh:=Hp.start w;have hsz:(iM n).size≤10000000:=by
  rw [dI];have:bG n.natAbs≤64:=dL VZ;omega
 have hc:=fun w1=>p6 (z:=n) (e:=0) (x:=(n:Dyadic)) w1 rfl hsz VZ VZ;refine aj (N:=6) (l:=[.int .i64 n]) Tryz.func39 rfl rfl (by simp) ?_;refine sr ?_;refine bJ hh ?_;intro b2 w2 hh;refine aa (sr (mI ?_));refine bq hh (rf n _ h1 h2) rfl ?_;intro w4 hh;refine bq hh (hc _) rfl ?_;intro w5 hh;exact Dd
theorem nc (a:NR) (w:World) (ha:a.bk.size≤10000000) (h1: -1000000000000≤a.e) (h2:a.e≤1000000000000):
  Calls Tryz.prog 100 #[.agg #[.bool a.neg,.string a.bk,.int .i64 a.e]] w fun r w'=>r=.returned (.agg #[.bool (nR a.d).neg,.string (nR a.d).bk,.int .i64 (nR a.d).e])∧Below w.heap.size w w':=by
 have hh:=Hp.start w;refine aj (N:=8) (l:=[.agg #[.bool a.neg,.string a.bk,.int .i64 a.e]]) Tryz.func100 rfl rfl (by simp) ?_;refine sr ?_;refine bV hh [_,_,_] ?_;intro b1 w1 hh;refine bJ hh ?_;intro b2 w2 hh;refine aa (sr (bC ?_));refine bY hh 1 [_,_] (bC ?_);refine bA hh 1 ?_;refine bq hh (mV a.neg a.bk a.e _ ha h1 h2) rfl ?_;intro w7 hh;exact Dd
theorem fU (a:NR) (w:World) (ha:a.bk.size≤10000000):
  Calls Tryz.prog 149 #[.agg #[.bool a.neg,.string a.bk,.int .i64 a.e]] w fun r w'=>r=.returned (.int .i64 a.i.sign)∧Below w.heap.size w w':=by
 have hh:=Hp.start w;refine aj (N:=6) (l:=[.agg #[.bool a.neg,.string a.bk,.int .i64 a.e]]) Tryz.func149 rfl rfl (by simp) ?_;refine sr ?_;refine bV hh [_,_,_] ?_;intro b1 w1 hh;refine aI (aa (sr (bC ?_)));refine bY hh 0 [_,_] ?_;refine bq hh (jn a.neg a.bk _ VZ) rfl ?_;intro w5 hh;exact yG
theorem Dz (a:NR) (w:World) (ha:a.bk.size≤10000000) (h1: -1000000000000≤a.e) (h2:a.e≤1000000000000):
  Calls Tryz.prog 124 #[.agg #[.bool a.neg,.string a.bk,.int .i64 a.e]] w fun r w'=>r=.returned (.agg #[.bool (nR (-a.d)).neg,.string (nR (-a.d)).bk,.int .i64 (nR (-a.d)).e])∧Below w.heap.size w w':=by
 have hh:=Hp.start w;have hs:=mQ a.neg a.bk;have hc:=fun w1=>p6 (z:= -(iv a.neg a.bk)) (e:=a.e) (x:= -a.d) w1 (yz _ _).symm VZ h1 h2;refine aj (N:=9) (l:=[.agg #[.bool a.neg,.string a.bk,.int .i64 a.e]]) Tryz.func124 rfl rfl (by simp) ?_;refine sr ?_;refine bV hh [_,_,_] ?_;intro b1 w1 hh;refine bJ hh ?_;intro b2 w2 hh;refine aa (ah ?_);refine Ou ?_;refine da ?_;refine eJ 1 [_,_] ?_;refine dC (fun _ hj=>CV a.neg a.bk _ VZ) ?_;refine da ?_;refine dN 1 ?_;refine aG ?_;intro f W hJ hV;have hb_1:=hJ.bl;obtain ⟨v7,v6,v5,v4,v3,_⟩:=hV;replace hh:=hJ.hp;refine aU (bg (ae v7 (ae v6 (ae v5 (ae v4 (ae v3 aT)))))) ?_;dsimp only [bI];clear hJ;refine bq hh (hc _) rfl ?_;intro w8 hh;exact Dd
theorem yk (a:NR) (n:Int) (w:World) (ha:a.bk.size≤10000000) (h1: -100000000000≤a.e) (h2:a.e≤100000000000) (h3: -100000000000≤n) (h4:n≤100000000000):
  Calls Tryz.prog 38 #[.agg #[.bool a.neg,.string a.bk,.int .i64 a.e],.int .i64 n] w fun r w'=>r=.returned (.agg #[.bool (nR (a.d*p5 n)).neg,.string (nR (a.d*p5 n)).bk,.int .i64 (nR (a.d*p5 n)).e])∧Below w.heap.size w w':=by
 have hh:=Hp.start w;have e1:Dyadic.ofIntWithPrec (iv a.neg a.bk) (-(a.e+n))=a.d*p5 n:=by
  rw [Int.neg_add];exact N0 _ _ _
 have hc:=fun w1=>mV a.neg a.bk (a.e+n) w1 ha VZ VZ;rw [e1] at hc;refine aj (N:=12) (l:=[.agg #[.bool a.neg,.string a.bk,.int .i64 a.e],.int .i64 n]) Tryz.func38 rfl rfl (by simp) ?_;refine sr ?_;refine bV hh [_,_,_] ?_;intro b2 w2 hh;refine bJ hh ?_;intro b4 w4 hh;refine aa (sr (bC ?_));refine bY hh 1 [_,_] (bC ?_);refine bA hh 1 ?_;refine mI ?_;refine bj ?_;refine bq hh (hc _) rfl ?_;intro w11 hh;exact Dd
theorem Uv (x:Dyadic):Dyadic.ofIntWithPrec (nR x).i (-(nR x).e)=x:=cj x
theorem ql (a b:NR) (w:World) (ha:a.bk.size≤4000000) (hb:b.bk.size≤4000000) (h1: -100000000000≤a.e) (h2:a.e≤100000000000) (h3: -100000000000≤b.e) (h4:b.e≤100000000000):
  Calls Tryz.prog 75 #[.agg #[.bool a.neg,.string a.bk,.int .i64 a.e],.agg #[.bool b.neg,.string b.bk,.int .i64 b.e]] w fun r w'=>r=.returned (.agg #[.bool (nR (a.d*b.d)).neg,.string (nR (a.d*b.d)).bk,.int .i64 (nR (a.d*b.d)).e])∧Below w.heap.size w w':=by
 have hh:=Hp.start w;have e2:Dyadic.ofIntWithPrec (iv a.neg a.bk*iv b.neg b.bk) (-(a.e+b.e))=a.d*b.d:=by
  rw [Int.neg_add];exact (qx _ _ _ _).symm
 have hb1:=gQ a.neg a.bk;have hb2:=gQ b.neg b.bk;have hb3:=jM (iv a.neg a.bk) (iv b.neg b.bk);have hc:=fun w1=>p6 (z:=iv a.neg a.bk*iv b.neg b.bk) (e:=a.e+b.e) w1 e2 (by rw [dI];omega) VZ VZ;refine aj (N:=16) (l:=[.agg #[.bool a.neg,.string a.bk,.int .i64 a.e],.agg #[.bool b.neg,.string b.bk,.int .i64 b.e]]) Tryz.func75 rfl rfl (by simp) ?_;refine sr ?_;refine bV hh [_,_,_] ?_;intro b2 w2 hh;refine bV hh [_,_,_] ?_;intro b3 w3 hh;refine bJ hh ?_;intro b4 w4 hh;refine aa (ah ?_);refine I8 ?_;refine da ?_;refine eJ 2 [_,_] ?_;refine da ?_;refine eJ 1 [_,_] ?_;refine dC (fun _ hj=>yq a.neg b.neg a.bk b.bk _ VZ VZ) ?_;refine da ?_;refine dN 2 ?_;refine da ?_;refine dN 1 ?_;refine nX ?_;refine aG ?_;intro f W hJ hV;have hb_1:=hJ.bl;obtain ⟨v14,v13,v12,v11,v10,v9,v8,v7,v6,v5,_⟩:=hV;replace hh:=hJ.hp;refine F3 ?_;dsimp only [bI];clear hJ;refine bq hh (hc _) rfl ?_;intro w15 hh;exact Dd
theorem MI {u v:NR} (h:u.e=v.e+k):Dyadic.ofIntWithPrec (u.i*2^k+v.i) (-v.e)=u.d+v.d:=by
 rw [←sx];congr 1;have:=nP u.i (-u.e) k;rw [show -u.e+(k:Int)= -v.e by omega] at this;exact this
theorem vp {u v:NR} (hk:u.e=v.e+k) (hu:u.bk.size≤1000000) (hv:v.bk.size≤1000000) (hk2:k≤40000000) (h1: -100000000000≤v.e) (h2:v.e≤100000000000):
  (∀w,Calls Tryz.prog 151 #[.agg #[.bool u.neg,.string u.bk],.int .i64 (u.e-v.e)] w fun e w'=>e=.returned (.agg #[.bool (iN (u.i*2^k)),.string (iM (u.i*2^k))])∧Below w.heap.size w w')∧
  (∀w,Calls Tryz.prog 150 #[.agg #[.bool (iN (u.i*2^k)),.string (iM (u.i*2^k))],.agg #[.bool v.neg,.string v.bk]] w fun e w'=>e=.returned (.agg #[.bool (iN (u.i*2^k+v.i)),.string (iM (u.i*2^k+v.i))])∧Below w.heap.size w w')∧
  ∀w,Calls Tryz.prog 102 #[.agg #[.bool (iN (u.i*2^k+v.i)),.string (iM (u.i*2^k+v.i))],.int .i64 v.e] w fun r w'=>r=.returned (.agg #[.bool (nR (u.d+v.d)).neg,.string (nR (u.d+v.d)).bk,.int .i64 (nR (u.d+v.d)).e])∧Below w.heap.size w w':=by
 have hb1:bG (u.i*2^k).natAbs≤8000000+k:=by
  rw [X9,YH];have:=iE u.i.natAbs k;have h3:=gQ u.neg u.bk;unfold NR.i at this ⊢;exact WK this VZ
 have hb2:=gQ v.neg v.bk;have hb3:=lU (u.i*2^k) v.i;refine ⟨fun w=> ?_,fun w=> ?_,fun w=> ?_⟩
 ·rw [show u.e-v.e=k by omega];exact CW u.neg u.bk k w VZ VZ
 ·have:=mK (iN (u.i*2^k)) v.neg (iM (u.i*2^k)) v.bk w (by rw [dI];omega) VZ;rw [ff] at this;exact this
 ·exact p6 w (MI hk) (by rw [dI];unfold NR.i at hb1 hb3 ⊢;omega) VZ VZ
theorem rW (a b:NR) (w:World) (ha:a.ok) (hb:b.ok):
  Calls Tryz.prog 99 #[.agg #[.bool a.neg,.string a.bk,.int .i64 a.e],.agg #[.bool b.neg,.string b.bk,.int .i64 b.e]] w fun r w'=>r=.returned (.agg #[.bool (nR (a.d+b.d)).neg,.string (nR (a.d+b.d)).bk,.int .i64 (nR (a.d+b.d)).e])∧Below w.heap.size w w':=by
 have hh:=Hp.start w;obtain ⟨ha1,ha2,ha3⟩:=ha;obtain ⟨hb1,hb2,hb3⟩:=hb;obtain ⟨_,fa1,fa2,fa3⟩:=ka (a:=a) ⟨ha1,ha2,ha3⟩;obtain ⟨_,fb1,fb2,fb3⟩:=ka (a:=b) ⟨hb1,hb2,hb3⟩;have hsg:∀x:Dyadic,(nR x).i.sign=0↔x=0:=fun x=>by
  rw [ZB];constructor
  ·intro h;rw [←Uv x,h,j9]
  ·intro h;rw [h];rfl
 by_cases h0:a.d=0
 ·have hs0:=(hsg a.d).2 h0;refine Ep ?_;refine sr ?_;refine bV hh [_,_,_] ?_;intro b2 w2 hh;refine bV hh [_,_,_] ?_;intro b3 w3 hh;refine bJ hh ?_;intro b4 w4 hh;refine aa (ah ?_);refine F4 ?_;refine eJ 2 [_,_,_] ?_;refine El ?_;refine eJ 1 [_,_,_] ?_;refine aG ?_;intro f W hJ hV;have hb_1:=hJ.bl;obtain ⟨v7,v6,v5,_⟩:=hV;replace hh:=hJ.hp;refine tK ?_;dsimp only [bI];clear hJ;refine Fz ?_;intro w8 hh;refine bL hh 2 [_,_,_] ?_;intro ws hh;replace hh:Hp _ (_::_::.blk _ _ [_,_,_] _::_) _:=hh;refine bL hh 1 [_,_,_] ?_;intro ws hh;replace hh:Hp _ (_::.blk _ _ [_,_,_] _::_) _:=hh;refine aa (ah (sr ?_));refine bY hh 2 [_,_,_] ?_;refine bq hh (fU (nR a.d) _ VZ) rfl ?_;intro w10 hh;refine ct (aa (cT (sr ?_)));refine bY hh 1 [_,_,_] ?_;refine bL hh 0 [_,_,_] ?_;intro ws hh;replace hh:Hp _ (.blk _ _ [_,_,_] _::_) _:=hh;refine aa (av (aK ?_));refine z8 ?_;rw [h0,Yk];exact ⟨rfl,hh.below⟩
 ·have hs0:¬(nR a.d).i.sign=0:=fun h=>h0 ((hsg a.d).1 h);by_cases h1:b.d=0
  ·have hs1:=(hsg b.d).2 h1;refine Ep ?_;refine sr ?_;refine bV hh [_,_,_] ?_;intro b2 w2 hh;refine bV hh [_,_,_] ?_;intro b3 w3 hh;refine bJ hh ?_;intro b4 w4 hh;refine aa (ah ?_);refine F4 ?_;refine eJ 2 [_,_,_] ?_;refine El ?_;refine eJ 1 [_,_,_] ?_;refine aG ?_;intro f W hJ hV;have hb_1:=hJ.bl;obtain ⟨v7,v6,v5,_⟩:=hV;replace hh:=hJ.hp;refine tK ?_;dsimp only [bI];clear hJ;refine Fz ?_;intro w8 hh;refine bL hh 2 [_,_,_] ?_;intro ws hh;replace hh:Hp _ (_::_::.blk _ _ [_,_,_] _::_) _:=hh;refine bL hh 1 [_,_,_] ?_;intro ws hh;replace hh:Hp _ (_::.blk _ _ [_,_,_] _::_) _:=hh;refine aa (ah (sr ?_));refine bY hh 2 [_,_,_] ?_;refine bq hh (fU (nR a.d) _ VZ) rfl ?_;intro w10 hh;refine ct (aa (cF (ao (ai (ah (sr ?_))))));refine bY hh 1 [_,_,_] ?_;refine bq hh (fU (nR b.d) _ VZ) rfl ?_;intro w14 hh;refine ct (aa (cT (sr ?_)));refine bY hh 2 [_,_,_] ?_;refine bL hh 0 [_,_,_] ?_;intro ws hh;replace hh:Hp _ (.blk _ _ [_,_,_] _::_) _:=hh;refine aa (av (aK ?_));refine z8 ?_;rw [h1,Yx];exact ⟨rfl,hh.below⟩
  ·have hs1:¬(nR b.d).i.sign=0:=fun h=>h1 ((hsg b.d).1 h);by_cases hlt:(nR a.d).e<(nR b.d).e
   ·obtain ⟨k,hk⟩:∃k:Nat,(nR b.d).e=(nR a.d).e+k:=⟨((nR b.d).e-(nR a.d).e).toNat,VZ⟩;obtain ⟨hshl,hpl,hmk⟩:=vp hk fb1 fa1 VZ VZ VZ;rw [cj,cj,Dyadic.add_comm] at hmk;refine Ep ?_;refine sr ?_;refine bV hh [_,_,_] ?_;intro b2 w2 hh;refine bV hh [_,_,_] ?_;intro b3 w3 hh;refine bJ hh ?_;intro b4 w4 hh;refine aa (ah ?_);refine F4 ?_;refine eJ 2 [_,_,_] ?_;refine El ?_;refine eJ 1 [_,_,_] ?_;refine aG ?_;intro f W hJ hV;have hb_1:=hJ.bl;obtain ⟨v7,v6,v5,_⟩:=hV;replace hh:=hJ.hp;refine tK ?_;dsimp only [bI];clear hJ;refine Fz ?_;intro w8 hh;refine bL hh 2 [_,_,_] ?_;intro ws hh;replace hh:Hp _ (_::_::.blk _ _ [_,_,_] _::_) _:=hh;refine bL hh 1 [_,_,_] ?_;intro ws hh;replace hh:Hp _ (_::.blk _ _ [_,_,_] _::_) _:=hh;refine aa (ah (sr ?_));refine bY hh 2 [_,_,_] ?_;refine bq hh (fU (nR a.d) _ VZ) rfl ?_;intro w10 hh;refine ct (aa (cF (ao (ai (ah (sr ?_))))));refine bY hh 1 [_,_,_] ?_;refine bq hh (fU (nR b.d) _ VZ) rfl ?_;intro w14 hh;refine EO ?_;refine bA hh 2 ?_;refine bC ?_;refine bA hh 1 ?_;refine a0 (aa (cT (ak ?_)));refine bY hh 1 [_,_,_] ?_;refine bY hh 2 [_,_,_] ?_;refine bL hh 2 [_,_,_] ?_;intro ws hh
    replace hh:Hp _ (_::_::.blk _ _ [_,_,_] _::_) _:=hh;refine bL hh 1 [_,_,_] ?_;intro ws hh;replace hh:Hp _ (_::.blk _ _ [_,_,_] _::_) _:=hh;refine aa (ah ?_);exact Pw
   ·obtain ⟨k,hk⟩:∃k:Nat,(nR a.d).e=(nR b.d).e+k:=⟨((nR a.d).e-(nR b.d).e).toNat,VZ⟩;obtain ⟨hshl,hpl,hmk⟩:=vp hk fa1 fb1 VZ VZ VZ;rw [cj,cj] at hmk;refine Ep ?_;refine sr ?_;refine bV hh [_,_,_] ?_;intro b2 w2 hh;refine bV hh [_,_,_] ?_;intro b3 w3 hh;refine bJ hh ?_;intro b4 w4 hh;refine aa (ah ?_);refine F4 ?_;refine eJ 2 [_,_,_] ?_;refine El ?_;refine eJ 1 [_,_,_] ?_;refine aG ?_;intro f W hJ hV;have hb_1:=hJ.bl;obtain ⟨v7,v6,v5,_⟩:=hV;replace hh:=hJ.hp;refine tK ?_;dsimp only [bI];clear hJ;refine Fz ?_;intro w8 hh;refine bL hh 2 [_,_,_] ?_;intro ws hh;replace hh:Hp _ (_::_::.blk _ _ [_,_,_] _::_) _:=hh;refine bL hh 1 [_,_,_] ?_;intro ws hh;replace hh:Hp _ (_::.blk _ _ [_,_,_] _::_) _:=hh;refine aa (ah (sr ?_));refine bY hh 2 [_,_,_] ?_;refine bq hh (fU (nR a.d) _ VZ) rfl ?_;intro w10 hh;refine ct (aa (cF (ao (ai (ah (sr ?_))))));refine bY hh 1 [_,_,_] ?_;refine bq hh (fU (nR b.d) _ VZ) rfl ?_;intro w14 hh;refine EO ?_;refine bA hh 2 ?_;refine bC ?_;refine bA hh 1 ?_;refine a0 (aa (cF (ao (ai (ah ?_)))));exact Pw
theorem CF (a b:NR) (w:World) (ha:a.ok) (hb:b.ok) (hb':(nR b.d).ok):
  Calls Tryz.prog 76 #[.agg #[.bool a.neg,.string a.bk,.int .i64 a.e],.agg #[.bool b.neg,.string b.bk,.int .i64 b.e]] w fun r w'=>r=.returned (.agg #[.bool (nR (a.d-b.d)).neg,.string (nR (a.d-b.d)).bk,.int .i64 (nR (a.d-b.d)).e])∧Below w.heap.size w w':=by
 have hh:=Hp.start w;obtain ⟨hb1,hb2,hb3⟩:=hb;obtain ⟨n1,n2⟩:=RJ b.d;obtain ⟨o1,o2,o3⟩:=hb';have hp:=fun w1=>rW a (nR (-b.d)) w1 ha ⟨by rw [n1];exact o1,by rw [n2];exact o2,by rw [n2];exact o3⟩;rw [cj] at hp;refine aj (N:=9) (l:=[.agg #[.bool a.neg,.string a.bk,.int .i64 a.e],.agg #[.bool b.neg,.string b.bk,.int .i64 b.e]]) Tryz.func76 rfl rfl (by simp) ?_;refine sr ?_;refine bV hh [_,_,_] ?_;intro b2 w2 hh;refine bV hh [_,_,_] ?_;intro b3 w3 hh;refine bJ hh ?_;intro b4 w4 hh;refine aa (ah ?_);refine Jc ?_;refine eJ 2 [_,_,_] ?_;refine eJ 1 [_,_,_] ?_;refine dC (fun _ hj=>Dz b _ VZ VZ VZ) ?_;refine aG ?_;intro f W hJ hV;have hb_1:=hJ.bl;obtain ⟨v7,v6,v5,_⟩:=hV;replace hh:=hJ.hp;refine tK ?_;dsimp only [bI];clear hJ;refine bq hh (hp _) rfl ?_;intro w8 hh;exact Dd
theorem Sz.pow {x:Dyadic} (h:Sz k x) (n:Nat):Sz (1+k*n) (x^n):=by
 induction n with
 |zero=>rw [Dyadic.pow_zero];exact Sz.one
 |succ n ih=>rw [Dyadic.pow_succ];exact (ih.mul h).mono (by rw [XC];omega)
def D (m e:Int):Dyadic:=Dyadic.ofIntWithPrec m (-e)
theorem JK {m e:Int} (hm:m.natAbs<256) (h1: -16≤e) (h2:e≤16):Sz 24 (D m e):=by
 have:=Sz.raw (a:=⟨iN m,iM m,e⟩) (m:=8) (E:=16) (by show 8*(iM m).size≤8;rw [dI];have:bG m.natAbs≤8:=dL hm;omega) h1 h2;rw [NR.d,NR.i,ff] at this;exact this
def UZ (most far:Int) (l:List NR):Bool:=l.any fun a=>decide (most<a.bk.size∨a.e< -far∨far<a.e)
variable {W:World}{base fuel:Nat}{cs:List Value}{held:Bool}{sp:Nat→Bool}
open Go.ChangeShapes Go.WideShapes Go.ChangeAt Go.RowKit Go.ChangeMaps
set_option maxRecDepth 100000 in
theorem Hb {H:Type}{enc:TypeId×Value→H}{x:DataW H×List MemPlace} (h:DataW.trod enc Tryz.prog W base sp held fuel 40 cs=some x):
  ∃a:NR,cs=a.cells∧(Lit.int .i64 a.e).wf=true:=by
 have c1:Tryz.prog.cellsOf 40=3:=by kernel_rfl
 have c2:Tryz.prog.cellsOf 38=2:=by kernel_rfl
 have c3:Tryz.prog.cellsOf 4=1:=by kernel_rfl
 have c4:Tryz.prog.cellsOf 9=1:=by kernel_rfl
 have c5:Tryz.prog.cellsOf 3=1:=by kernel_rfl
 obtain ⟨y0,y1,n,_,hl,h0,h1⟩:=trod_struct2 Tryz.underlying40 h;obtain ⟨z0,z1,n2,_,hl2,h00,h01⟩:=trod_struct2 Tryz.underlying38 h0;obtain ⟨b,e0,_⟩:=DataW.trod_bool Tryz.underlying4 h00;obtain ⟨s,e1,_,hs⟩:=DataW.trod_string Tryz.underlying9 h01;obtain ⟨z,e2,_,hz⟩:=DataW.trod_int Tryz.underlying3 h1;rw [c1] at hl
 match cs,hl with
 |[x0,x1,x2],_=>
  simp only [c2,c3,c4,c5] at e0 e1 e2;simp at e0 e1 e2;subst e0 e1 e2;exact ⟨⟨b,s,z⟩,rfl,hz⟩
theorem zF (h:laidMetH Tryz.prog Rows.bernValuesRow.laid W):er W:=by
 rw [MakeChecks.laidMetH_plain _ _ _ V2] at h;obtain ⟨ps,⟨g,t,cs,fuel,p,q,hg,ht,hv,hd,_,_⟩,_,_⟩:=h;obtain rfl:=WT ((show Tryz.prog.globalNamed "math/bits.deBruijn64tab" =some 0 by kernel_rfl).symm.trans hg);obtain rfl:=WT ((show (Tryz.prog.globals[0]?).map (·.type)=some 204 by kernel_rfl).symm.trans ht);obtain ⟨xs,m,_,ex,_,hl,hel⟩:=DataW.trod_array Tryz.underlying204 hd;have c5:Tryz.prog.cellsOf 5=1:=by kernel_rfl
 have e3:(xs.map (·.1))=Cp.map fun n=>.lit (.int .u8 n):=(DataW.agg.inj (Prod.mk.inj ex).1).symm;have hlen:Cp.length=64:=by decide
 intro r u hu;have hr:r<64:=by
  have:=(Wk.1 hu).1;rw [cU] at this;omega
 have hE:=hel r hr;rw [c5,Wn,Xz VZ] at hE;obtain ⟨z,e1,e2,_⟩:=DataW.trod_int Tryz.underlying5 hE;have e4:(xs.map (·.1))[r]?=(Cp.map fun (n:Nat)=>(DataW.lit (.int .u8 n):DataW Unit))[r]?:=by rw [e3]
 rw [Wg,Wg,Xz (by omega:r<xs.length),Xz (by omega:r<Cp.length),e2] at e4;have hz:u=.int .u8 z:=by
  rw [gE,Wg,Xz (by omega:r<Cp.length)] at hu;simp only [Xx,XN,DataW.lit.injEq,Lit.int.injEq,true_and] at e4 hu;rw [←hu,e4]
 rw [eW,Ws,World.var?_cell hg hv r,hz];have:cs.toList[r]?=some (.int .u8 z):=by
  have h0:((cs.toList.drop r).take 1)[0]?=some (.int .u8 z):=by rw [e1];rfl
  simpa using h0
 simpa using this
theorem Bl {α:Type}{p:Nat→α→Prop}:∀(n:Nat),(∀i,i<n→∃a,p i a)→∃l:List α,l.length=n∧∀i a,l[i]?=some a→p i a
 |0,_=>⟨[],rfl,fun i a h=>by simp at h⟩
 |n+1,h=>by
  obtain ⟨l,h1,h2⟩:=Bl n fun i hi=>h i VZ;obtain ⟨a,ha⟩:=h n VZ;refine ⟨l++[a],by simp [h1],fun i b hb=> ?_⟩
  rcases WW i l.length with hi|hi
  ·rw [Yh hi] at hb;exact h2 i b hb
  ·rw [Xt hi] at hb;have h3:i-l.length=0:=by
    rcases XM (i-l.length) with h|h
    ·exact h
    ·rw [WN (by simp;omega)] at hb;cases hb
   rw [h3] at hb;simp only [YI,XN] at hb;subst hb;rw [show i=n by omega];exact ha
variable {P:Program}{c:Nat}{α:Type}
def IC (z:Int):List Value:=[.int .i64 z]
theorem IC.len (z:Int):(IC z).length=1:=rfl
theorem LQ (l:List Int):aA IC l=a7 l:=by
 induction l with
 |nil=>rfl
 |cons z l ih=>rw [iS,ih];rfl
set_option maxRecDepth 100000 in
theorem HI {H:Type}{enc:TypeId×Value→H}{x:DataW H×List MemPlace} (h:DataW.trod enc Tryz.prog W base sp held fuel 3 cs=some x):
  ∃z:Int,cs=IC z∧(Lit.int .i64 z).wf=true:=by
 have c1:Tryz.prog.cellsOf 3=1:=by kernel_rfl
 obtain ⟨z,e2,_,hz⟩:=DataW.trod_int Tryz.underlying3 h;exact ⟨z,e2,hz⟩
theorem uj {f:α→List Value}{p:α→Prop}{sz:Nat}{t e:TypeId}{H:Type}{enc:TypeId×Value→H}{x:DataW H×List MemPlace}
  (hf:∀x,(f x).length=sz) (h0:0<sz) (ht:P.underlying t=some (.slice e)) (hc:P.cellsOf e=sz) (one:∀fuel cs x,DataW.trod enc P W base sp held fuel e cs=some x→∃a,cs=f a∧p a)
  (hfu:DataW.trod enc P W base sp held fuel t cs=some x):∃(A:Option Addr) (n c:Nat) (l:List α),cs=[.slice A n c]∧Sl W A n sz (aA f l)∧∀a∈l,p a:=by
 rcases Go.Deep.open_slice ht hfu with ⟨h1,_⟩|⟨ad,n,cp,m,k,D,Pl,h1,_,h2,h3,hm,_,h5⟩
 ·exact ⟨none,0,0,[],h1,Sl.nil W none sz,fun _ h=>by simp at h⟩
 ·have hnm:n≤m:=by rw [hm];split<;>omega
  obtain ⟨l,hl,hp⟩:=Bl (p:=fun i a=>W.cells? base (ad.add (i*sz)) sz=some (f a)∧p a) n fun i hi=>by
   obtain ⟨cs,h6,h7⟩:=h5 i VZ;rw [hc] at h6;obtain ⟨a,rfl,h8⟩:=one _ _ _ h7;exact ⟨a,h6,h8⟩
  refine ⟨some ad,n,cp,l,h1,⟨by rw [fy hf,hl],fun _=>⟨ad,rfl,fun j u hu=> ?_⟩⟩,fun a ha=> ?_⟩
  ·have hdm:j/sz*sz+j % sz=j:=by rw [Wz];exact XT j sz
   have hmod:j % sz<sz:=WB _ h0;have hj:j/sz<l.length:=by
    have:=(Wk.1 hu).1;rw [fy hf] at this;exact Nat.div_lt_of_lt_mul (by rw [Wz];exact this)
   obtain ⟨x,hx⟩:=al hj;have h6:=tu hf hx;have h7:(f x)[j % sz]?=some u:=by
    rw [←h6,XF,V5 hmod,XY,hdm];exact hu
   have h8:=(World.cells?_some (hp _ _ hx).1).2.2 (j % sz) hmod;rw [h7,lI,hdm] at h8;exact h8
  ·obtain ⟨i,hi⟩:=Yc.1 ha;exact (hp i a hi).2
theorem xl {t e:TypeId}{H:Type}{enc:TypeId×Value→H}{A:Option Addr}{x:DataW H×List MemPlace}
  (ht:P.underlying t=some (.slice e)) (hfu:DataW.trod enc P W base sp held fuel t [.slice A n c]=some x):n≤c:=by
 rcases Go.Deep.open_slice ht hfu with ⟨h1,_⟩|⟨ad,n',cp,m,k,D,Pl,h1,_,h2,_⟩
 ·injection h1 with h1
  injection h1 with _ e2 e3
  omega
 ·injection h1 with h1
  injection h1 with _ e2 e3
  omega
variable {ag:Bool}{by' c':Nat}{fz:Nat×Nat}{o:Oper}{t':TypeId}{w w' w0 w1:World}{xs zc:List Value}
section
variable {ro:Mode}
theorem oO {b':Nat}{t:TypeId}{sz:Nat}{A:Option Addr} (h:w.ownsRow b t sz (.slice A n c) n xs) (hb:b'≤b):w.ownsRow b' t sz (.slice A n c) n xs:=
 ⟨h.1,h.2.imp id fun ⟨g,cap,cur,h1,h2,h3⟩=>⟨g,cap,cur,h1,WK hb h2,h3⟩⟩
theorem mO {b':Nat}{x:HE} (h:x.holds b w) (hb:b'≤b):x.holds b' w:=by
 cases x with
 |blk b t cs fz=>exact ⟨WK hb h.1,h.2⟩
 |row A n c t sz xs=>exact oO h hb
 |ob b o=>exact ⟨WK hb h.1,h.2⟩
theorem Hp.perm {H H':List HE} (h:Hp w0 H w) (hp:H.Perm H'):Hp w0 H' w:=
 ⟨h.below,fun x hx=>h.own x (hp.mem_iff.2 hx),(hp.filterMap _).nodup_iff.1 h.nd⟩
theorem Hp.eZ {H:List HE} (h:Hp w0 H w) {i sz:Nat}{A:Option Addr}{t:TypeId} (hi:H[i]?=some (.row A n c t sz xs)):n≤c:=by
 have h1:w.ownsRow w0.heap.size t sz (.slice A n c) n xs:=h.at_ hi
 rcases h1.2 with ⟨_,h3⟩|⟨g,cap,cur,h2,_,_,h5,_⟩
 ·omega
 ·injection h2 with _ _ e3
  omega
theorem Hp.join {H H2:List HE} (h:Hp w0 H w) (h2:Hp w H2 w'):Hp w0 (H2++H) w':=by
 have h':=h.ext h2.below;refine ⟨h'.below,fun x hx=> ?_, ?_⟩
 ·rcases W3.1 hx with hx|hx
  ·exact mO (h2.own x hx) h.size
  ·exact h'.own x hx
 ·rw [Yz,Zc];refine ⟨h2.nd,h.nd,fun a ha b hb hab=> ?_⟩;subst hab;obtain ⟨x,hx,hxa⟩:=Xp.1 ha;obtain ⟨y,hy,hya⟩:=Xp.1 hb;have h3:=ea (h2.own x hx) hxa;have h4:=ea (h.own y hy) hya;omega
section
variable {P:Program}{N:Nat}{ops:Array Oper}{Q:Kq}{ρ:Rf}{w w0:World}{rest:List Oper}{H:List HE}{ty:TypeId}{pos:String}{af:Array Edge}
theorem yc {v:Value} (hg:o.guard=none) (hd:o.dst=none)
  (hr:(execOp (ev ρ) o).run P w=.ok (.value v) w') (k:WL ro P N ops Q rest ρ w'):WL ro P N ops Q (o::rest) ρ w:=
 ⟨fun hm a hf=>wpList_plain hg fun K hK=>by
  unfold Oper.wp;rw [hf.eval,hr];show K (a.put o.dst v) w';rw [hd];exact hK _ _ (k.ml hm _ hf),
 fun a hf n=>wpListIn_plain hg fun K hK=>by
  refine ⟨fun _ _=>trivial, ?_⟩;rw [hf.eval,kU _ hr (fun _ h=>by cases h)];show K (a.put o.dst v) w';rw [hd];exact hK _ _ (k.jQ _ hf n)⟩
theorem tE {l:List α}{i:Nat}{x:α} (h:l[i]?=some x):l.set i x=l:=by
 obtain ⟨h1,rfl⟩:=Wk.1 h;exact List.set_getElem_self h1
theorem uN (hh:Hp w0 H w) {t e:TypeId}{x:Operand}{i sz:Nat}{A:Option Addr} (hi:H[i]?=some (.row A n c e sz xs)) (hx:ev ρ x=.slice A n c)
  (ht:P.underlying t=some (.slice e)) (hte:cQ P e=some (sz,ag,by',zc)) (hzl:zc.length=sz) (h1:(zc.all Value.oneCell')=true)
  (k:∀w',Hp w0 (H.set i (.row A n c e sz (eI n zc))) w'→WL ro P N ops Q rest ρ w'):WL ro P N ops Q (⟨none,.call ⟨.builtin .clear, #[x], #[t]⟩,ty,pos,af,none⟩::rest) ρ w:=by
 obtain ⟨z,hz,hzc⟩:=dy (w:=w) hte;have hrow:=hh.at_ hi;obtain ⟨hlen,h2⟩:=hrow;by_cases h0:n=0
 ·subst h0;have hxs:xs=eI 0 zc:=by
   have:xs.length=0:=VZ;rw [XA this];rfl
  subst hxs;rw [tE hi] at k;refine yc rfl rfl (v:=.tuple #[]) ?_ (k w hh);simp only [execOp,resolve,invoke,hx,Yn,Wv,WV]
  cases A<;>simp [builtin,Builtin.clear_,run_underlying ht]
 ·rcases h2 with ⟨h2,_⟩|⟨g,cap,cur,hv,hg,hheap,hmc,hcm,hcur,htake⟩
  ·injection h2 with h2 h3;omega
  ·injection hv with hA hn hcap
   subst hA;subst hcap;have hcl:cur.size=cur.toList.length:=by simp
   have hle:n*sz≤c*sz:=Xr _ hmc;have hzr:(eI n zc).length=n*sz:=by rw [ju,hzl]
   have hall:∀v∈eI n zc,v.oneCell'=true:=fun v hv=>by
    obtain ⟨j,hj⟩:=Yc.1 hv;have hj2:=(Wk.1 hj).1;rw [ju] at hj2;rw [sw n zc j hj2] at hj;exact Wq.1 h1 v (Wb hj)
   obtain ⟨w',hr,hb',hgr,hs⟩:=fJ (P:=P) (b:=g) (t:=e) (fz:=(0,0)) 0 (eI n zc) 0 cur.toList w (by simpa using hheap) (.inr (V9 _)) (by rw [←hcl,hzr];omega) hall;refine yc rfl rfl (w':=w') (v:=.tuple #[]) ?_ (k w' (hh.grown hi hgr (.inl rfl) ⟨hzr,.inr ⟨g,c,(cd cur.toList 0 (eI n zc)).toArray,rfl,hg,by simpa using hb',hmc,hcm, ?_, ?_⟩⟩))
   ·simp only [execOp,resolve,invoke,hx,Yn,Wv,WV];have hzz:Builtin.zeroCells z.cells n=(eI n zc).toArray:=by
     rw [Builtin.zeroCells,hzc,Yj];exact pD n zc
    obtain ⟨m,rfl⟩:∃m,n=m+1:=⟨n-1,VZ⟩;simp [builtin,Builtin.clear_,run_underlying ht,hz,hzz,hr]
   ·simp only [Yj];rw [eM (by rw [←hcl,hzr];omega),←hcl,hcur]
   ·simp only [cd];rw [XS,Wd,List.take_left' hzr]
end
abbrev Hp.sz {w0 w:World}{H:List HE} (_:Hp w0 H w):Nat:=w.heap.size
theorem J0 {A:Option Addr}{sz:Nat}{t:TypeId}{cs:Array Value} (h:HE.holds base W (.row A n c t' sz xs)) (h3:W.heap[b]?=some (.cells cs t fz)) (hne:t'≠t):(HE.row A n c t' sz xs).id≠some b:=by
 intro hid
 rcases h.2 with ⟨h1,_⟩|⟨g,cap,cur,h1,_,h4,_⟩
 ·injection h1 with e1
  subst e1
  cases hid
 ·injection h1 with e1
  subst e1;obtain rfl:g=b:=WT hid;rw [h3] at h4;injection h4 with h4
  injection h4 with _ h5
  exact hne h5.symm
theorem JJ.rb {H L:List HE}{t:TypeId} (hJ:JJ w0 H w W) (hs:Hp w0 H w) (h2:w.heap.size≤b) (h3:W.heap[b]?=some (.cells cs.toArray t (0,0))) (hb:w.heap.size≤w1.heap.size) (hL:Hp w1 L W) (hne:∀x∈L,x.id≠some b):Hp w0 (.blk b t cs (0,0)::(L++H)) W:=by
 have h1:=hs.join (⟨hJ.bl,fun x hx=>mO (hL.own x hx) hb,hL.nd⟩:Hp w L W);refine ⟨h1.below,fun x hx=> ?_, ?_⟩
 ·rcases Wp.1 hx with rfl|hx
  ·exact ⟨WK hs.size h2,h3,.inr (V9 _)⟩
  ·exact h1.own x hx
 ·rw [XE];show (b::(L++H).filterMap HE.id).Nodup;refine XR.2 ⟨fun hm=> ?_,h1.nd⟩;obtain ⟨y,hy,hyb⟩:=Xp.1 hm
  rcases W3.1 hy with hy|hy
  ·exact hne y hy hyb
  ·have:=(ea (hs.own y hy) hyb).2;omega
theorem Mz {A A':Option Addr}{sz n' sz':Nat}{t:TypeId}{xs':List Value} (h:HE.holds base W (.row A n c t sz xs)) (h':HE.holds base W (.row A' n' c' t' sz' xs')) (hne:t≠t') (b:Nat) (h1:(HE.row A n c t sz xs).id=some b):(HE.row A' n' c' t' sz' xs').id≠some b:=by
 rcases h.2 with ⟨h2,_⟩|⟨g,cap,cur,h2,_,h4,_⟩
 ·injection h2 with e1
  subst e1
  cases h1
 ·injection h2 with e1
  subst e1;obtain rfl:g=b:=WT h1;exact J0 h' h4 (fun e=>hne e.symm)
def GW (base:Nat) (t:TypeId) (n sz:Nat) (cs:List Value):VP:=fun v W=>∃A c,v=.slice A n c∧W.ownsRow base t sz (.slice A n c) n cs
theorem GW.ext {t:TypeId}{sz:Nat} (v:Value) (w w':World) (h:GW base t n sz cs v w) (hb:Below w.heap.size w w'):GW base t n sz cs v w':=let ⟨A,c,h1,h2⟩:=h;⟨A,c,h1,lP h2 hb⟩
def UX (base:Nat) (t1 t2:TypeId) (n1 s1 n2 s2:Nat) (xs1 xs2:List Value):VP:=fun v W=>∃A c B k,v=.agg #[.slice A n1 c,.slice B n2 k]∧W.ownsRow base t1 s1 (.slice A n1 c) n1 xs1∧W.ownsRow base t2 s2 (.slice B n2 k) n2 xs2
end
variable {news:List Value}
section
variable {ro:Mode}
section
variable {P:Program}{N:Nat}{ops:Array Oper}{Q:Kq}{ρ:Rf}{w w0:World}{rest:List Oper}{d:Nat}{ty:TypeId}{pos:String}{af:Array Edge}
theorem pS {t e:TypeId}{s x:Operand}{sz:Nat}{A B:Option Addr} (hs:ev ρ s=.slice A 0 0) (hx:ev ρ x=.slice B m c') (hsl:Sl w B m sz news)
  (ht:P.underlying t=some (.slice e)) (hte:cQ P e=some (sz,ag,by',zc)) (hzl:zc.length=sz) (hsz:0<sz) (h1:(news.all Value.oneCell')=true) (h63:m≤maxLen) (hbytes:m*by'≤140737488355328) (hN:d<N)
  (k0:m=0→WL ro P N ops Q rest (cH ρ d (.slice A 0 0)) w)
  (k:∀A' c2 w',0<m→Below w.heap.size w w'→w'.ownsRow w.heap.size e sz (.slice A' m c2) m news→WL ro P N ops Q rest (cH ρ d (.slice A' m c2)) w'):
  WL ro P N ops Q (⟨some d,.call ⟨.builtin .append, #[s,x], #[t,t]⟩,ty,pos,af,none⟩::rest) ρ w:=by
 obtain ⟨i,z,dd,hi,hd,hz,hs2,hby,hzc,_⟩:=dx hte;have h1':∀u∈news,u.oneCell'=true:=fun u hu=>Wq.1 h1 u hu
 rcases XM m with h0|h0
 ·subst h0;have hnews:news=[]:=XA (by simpa using hsl.1);subst hnews;have hr:(Builtin.append_ #[t,t] ty #[.slice A 0 0,.slice B 0 c']).run P w=.ok (.slice A 0 0) w:=by
   exact SN
  refine aR rfl rfl hN ?_ (k0 rfl);exact Tj
 ·obtain ⟨ad,rfl,hr⟩:=hsl.2 h0;have hsrc:Src P i.size t (.slice (some ad) m c') m news w:=Src.ofSlice w ht ad m c' news (by rw [hs2];exact hsl.1) hr h1';have hfit:Builtin.nextslicecap (0+m) 0*i.bytes≤281474976710656:=growslice_fits VZ (by rw [hby,Ws];exact hbytes);have hb63:((0+m:Nat):Int)≤9223372036854775807:=by unfold maxLen at h63;omega
  have hone:∀base2:Option Addr,(Builtin.firstCells i.size 0 (.slice base2 0 0)).run P w.drew=.ok ([]:List Value).toArray w.drew:=fun base2=>by
   exact Tz
  have hA:=run_append_grow_src w t t ty e i z ht hi hz A 0 0 [] (hone _) _ m news hsrc VZ hb63 hfit;have hB:=run_append_grow_src w t t ty e i z ht hi hz none 0 0 [] (hone _) _ m news hsrc VZ hb63 hfit;obtain ⟨A',c2,w',r1,r2,r3,_⟩:=jd (P:=P) (w:=w) w.heap.size t ty e sz by' ag zc ht hte hzl hsz none 0 0 [] (World.ownsRow_nil w w.heap.size e sz) (some ad) m c' news ⟨hsl.1,fun _=>⟨ad,rfl,hr⟩⟩ h1' VZ (by rw [Ws];exact hbytes) (V9 _);rw [hB,←hA] at r1;rw [Ws] at r1 r2;rw [Wd] at r2;refine aR rfl rfl hN ?_ (k A' c2 w' h0 ⟨r3.os,r3.tape,r3.output,r3.size,fun k hk=>r3.block k hk (by simp)⟩ r2);simp only [execOp,resolve,invoke,builtin,Sem.run_bind,Sem.run_pure,Result.andThen_ok,Yn,Wv,WV,hs,hx,r1]
theorem sF {t e u:TypeId}{x y:Operand}{A:Option Addr}{n':Nat} (ht:P.underlying t=some (.slice e)) (hx:ev ρ x=.slice A n c) (hy:ev ρ y=.slice none n' c') (hN:d<N)
  (kk:WL ro P N ops Q rest (cH ρ d (.bool A.isNone)) w):WL ro P N ops Q (⟨some d,.binOp .eql t x y u,ty,pos,af,none⟩::rest) ρ w:=
 aR rfl rfl hN (by
  have h1:=Go.Lib.run_eql_slice_nil (P:=P) w t e A n c n' c' ht;simp only [execOp,hx,hy];simp [eqGuard,h1]) kk
end
end
variable {N:Nat}
def sm {α:Type}:List α→(α→Dyadic)→Dyadic
 |[],_=>0
 |a::l,f=>f a+sm l f
section
variable {α β:Type}
theorem xo (l m:List α) (f:α→Dyadic):sm (l++m) f=sm l f+sm m f:=by
 induction l with
 |nil=>simp [sm,Yk]
 |cons a l ih=>simp only [Wf,sm,ih];grind
theorem nw (l:List α) (a:α) (f:α→Dyadic):sm (l++[a]) f=sm l f+f a:=by
 rw [xo];simp only [sm];grind
theorem fB {l:List α}{f g:α→Dyadic} (h:∀a∈l,f a=g a):sm l f=sm l g:=by
 induction l with
 |nil=>rfl
 |cons a l ih=>rw [sm,sm,h a Wj,ih fun b hb=>h b (Wl _ hb)]
theorem Ey {l:List α}{f:α→Dyadic} (h:∀a∈l,f a=0):sm l f=0:=by
 induction l with
 |nil=>rfl
 |cons a l ih=>rw [sm,h a Wj,ih fun b hb=>h b (Wl _ hb)];grind
theorem RZ (l:List α) (f g:α→Dyadic):sm l (fun a=>f a+g a)=sm l f+sm l g:=by
 induction l with
 |nil=>simp [sm]
 |cons a l ih=>simp only [sm,ih];grind
theorem IB (l:List α) (f:α→Dyadic) (c:Dyadic):sm l (fun a=>f a*c)=sm l f*c:=by
 induction l with
 |nil=>simp only [sm];grind
 |cons a l ih=>simp only [sm,ih];grind
theorem AX (l:List α) (f:α→Dyadic) (c:Dyadic):sm l (fun a=>c*f a)=c*sm l f:=by
 induction l with
 |nil=>simp only [sm];grind
 |cons a l ih=>simp only [sm,ih];grind
theorem yT (l:List α) (g:α→β) (f:β→Dyadic):sm (l.map g) f=sm l fun a=>f (g a):=by
 induction l with
 |nil=>rfl
 |cons a l ih=>rw [Wv,sm,sm,ih]
theorem MP (l:List α) (m:List β) (f:α→β→Dyadic):sm l (fun a=>sm m (f a))=sm m fun b=>sm l fun a=>f a b:=by
 induction l with
 |nil=>exact (Ey fun b _=>rfl).symm
 |cons a l ih=>simp only [sm];rw [ih,←RZ]
theorem ya (n p:Nat) (c:Dyadic):sm (List.range n) (fun q=>if q=p then c else 0)=if p<n then c else 0:=by
 induction n with
 |zero=>rw [V6 VZ];rfl
 |succ n ih=>
  rw [YJ,nw,ih]
  rcases Nat.lt_trichotomy p n with h|h|h
  ·rw [V5 h,V6 (show ¬n=p by omega),V5 (show p<n+1 by omega)];grind
  ·rw [V6 (show ¬p<n by omega),V5 h.symm,V5 (show p<n+1 by omega)];grind
  ·rw [V6 (show ¬p<n by omega),V6 (show ¬n=p by omega),V6 (show ¬p<n+1 by omega)];grind
end
def nW (N:Nat) (L:List (Nat×Dyadic)):List Dyadic:=(List.range N).map fun p=>sm L fun q=>if q.1=p then q.2 else 0
theorem lv (N:Nat) (L:List (Nat×Dyadic)):(nW N L).length=N:=by simp [nW]
theorem uE (N:Nat):nW N []=List.replicate N 0:=by
 refine List.ext_getElem (by simp [nW]) fun i h1 h2=> ?_;simp [nW,sm]
theorem nJ {p:Nat} (L:List (Nat×Dyadic)) (h:p<N):(nW N L)[p]?=some (sm L fun q=>if q.1=p then q.2 else 0):=by
 unfold nW;rw [Wg,W8 h]
 rfl
theorem HM {p:Nat}{L:List (Nat×Dyadic)}{x v:Dyadic} (h:(nW N L)[p]?=some x):(nW N L).set p (x+v)=nW N (L++[(p,v)]):=by
 have hp:p<N:=by have:=(Wk.1 h).1;rwa [lv] at this
 rw [nJ L hp] at h;refine XK fun i=> ?_;rw [XB];by_cases hi:p=i
 ·subst hi;rw [V5 rfl,lv,V5 hp,nJ _ hp,nw,←WT h,V5 rfl]
 ·rw [V6 hi];by_cases hin:i<N
  ·rw [nJ _ hin,nJ _ hin,nw,V6 hi];congr 1;grind
  ·rw [WN (by rw [lv];omega),WN (by rw [lv];omega)]
theorem BW {l:List α}{f:α→Dyadic} (h:∀a∈l,Sz k (f a)):Sz (k+l.length) (sm l f):=by
 induction l with
 |nil=>exact Sz.zero _
 |cons a l ih=>
  have h1:=ih fun b hb=>h b (Wl _ hb);have h2:=((h a Wj).mono (show k≤k+l.length by omega)).add h1;rw [sm,WH];exact h2.mono VZ
theorem MS {L:List (Nat×Dyadic)} (h:∀a∈L,Sz k a.2):∀x∈nW N L,Sz (k+L.length) x:=fun x hx=>by
 obtain ⟨p,_,rfl⟩:=Wo.1 hx;refine BW fun a ha=> ?_;split
 ·exact h a ha
 ·exact Sz.zero _
def ar:List Nat→Nat
 |[]=>1
 |d::ds=>(d+1)*ar ds
def cq:List Nat→Nat→List Nat
 |[],_=>[]
 |d::ds,p=>p % (d+1)::cq ds (p/(d+1))
def eu:List Nat→List Nat→Nat
 |d::ds,r::rs=>r+(d+1)*eu ds rs
 |_,_=>0
def mh:List Nat→List Nat→Prop
 |[],[]=>True
 |d::ds,r::rs=>r≤d∧mh ds rs
 |_,_=>False
theorem cn (ds:List Nat):0<ar ds:=by
 induction ds with
 |nil=>exact Nat.one_pos
 |cons d ds ih=>exact Nat.mul_pos VZ ih
theorem kd:∀(ds:List Nat) (p:Nat),(cq ds p).length=ds.length
 |[],_=>rfl
 |d::ds,p=>by rw [cq,WH,kd ds,WH]
theorem kC:∀(ds:List Nat) (p:Nat),mh ds (cq ds p)
 |[],_=>trivial
 |d::ds,p=>⟨by have:=WB p (show 0<d+1 by omega);omega,kC ds _⟩
theorem pW:∀{ds:List Nat}{p:Nat},p<ar ds→eu ds (cq ds p)=p
 |[],p,h=>by
  have:p<1:=h;show 0=p;omega
 |d::ds,p,h=>by
  have h1:p/(d+1)<ar ds:=by rw [XH VZ,Wz];exact h
  rw [cq,eu,pW h1,YP]
theorem lX:∀{ds rs:List Nat},mh ds rs→eu ds rs<ar ds
 |[],[],_=>Nat.one_pos
 |d::ds,r::rs,h=>by
  have h1:=lX h.2;have h2:=h.1;rw [eu,ar];have h3:(d+1)*eu ds rs+(d+1)≤(d+1)*ar ds:=by
   have:=WM (d+1) (show eu ds rs+1≤ar ds by omega);rw [W7,Wn] at this;exact this
  omega
theorem kj:∀{ds rs:List Nat},mh ds rs→cq ds (eu ds rs)=rs
 |[],[],_=>rfl
 |d::ds,r::rs,h=>by
  have h2:=h.1;rw [eu,cq,XV,WU VZ,Xw _ _ VZ,Xa VZ,Ws,kj h.2]
theorem ML (d:Nat) (ds:List Nat) (f:Nat→Dyadic):sm (List.range (ar (d::ds))) f=sm (List.range (ar ds)) fun q=>sm (List.range (d+1)) fun r=>f (r+(d+1)*q):=by
 have key:∀n,sm (List.range ((d+1)*n)) f=sm (List.range n) fun q=>sm (List.range (d+1)) fun r=>f (r+(d+1)*q):=fun n=>by
  induction n with
  |zero=>rfl
  |succ n ih=>
   rw [YJ,nw,←ih,XC,List.range_add,xo,yT];congr 1;exact fB fun a _=>by rw [X6]
 exact key _
variable {ds ls:List Int}{q:Nat}
def j1 (d:Int):List Int:=(List.range (d.toNat+1)).map fun (k:Nat)=>(k:Int)
def dp:List Int→List (List Int)
 |[]=>[[]]
 |d::ds=>(j1 d).flatMap fun k=>(dp ds).map (k:: ·)
def fW (n:Nat):List Int:=List.replicate n 0
def qM:List Int→List Int→Option (List Int)
 |d::ds,k::l=>match qM ds l with
  |some l'=>some (k::l')
  |none=>if k<d then some ((k+1)::fW l.length) else none
 |_,_=>none
def nY {α:Type} (f:α→Option α):α→List α→Prop
 |a,[b]=>b=a∧f a=none
 |a,b::L=>b=a∧∃c,f a=some c∧nY f c L
 |_,[]=>False
theorem I0 {f:α→Option α}{a:α} (h:f a=none):nY f a [a]:=⟨rfl,h⟩
theorem nt {f:α→Option α}{a c:α}{L:List α} (h:f a=some c) (hL:nY f c L):nY f a (a::L):=by
 cases L with
 |nil=>exact hL.elim
 |cons b L=>exact ⟨rfl,c,h,hL⟩
theorem wq {f:α→Option α}{a:α}{L:List α} (h:nY f a L):(L=[a]∧f a=none)∨∃c L',L=a::L'∧f a=some c∧nY f c L':=by
 match L,h with
 |[b],h=>exact .inl ⟨by rw [h.1],h.2⟩
 |b::c::L,h=>obtain ⟨h1,x,h2,h3⟩:=h;exact .inr ⟨x,c::L,by rw [h1],h2,h3⟩
theorem BO {α β:Type}{f:α→Option α}{g:β→Option β}{e:α→β}{b:List β}{z:Option β} (hs:∀a c,f a=some c→g (e a)=some (e c)) (hn:∀a,f a=none→g (e a)=z)
  (hz:match z with|some c=>nY g c b|none=>b=[]):∀(L:List α) (a:α),nY f a L→nY g (e a) (L.map e++b)
 |[c],a,h=>by
  obtain ⟨h1,h2⟩:=h;subst h1
  cases z with
  |none=>simp only at hz;subst hz;exact I0 (hn _ h2)
  |some x=>exact nt (hn _ h2) hz
 |c::d::L,a,h=>by
  obtain ⟨h1,x,h2,h3⟩:=h;subst h1;exact nt (hs _ _ h2) (BO hs hn hz (d::L) x h3)
theorem LD (a:Int):∀n:Nat,((List.range (n+1)).map fun (k:Nat)=>a+(k:Int))=a::((List.range n).map fun (k:Nat)=>(a+1)+(k:Int))
 |n=>by
  rw [List.range_succ_eq_map,Wv,W6];congr 1
  ·simp
  ·apply XW;intro k _;simp only [Function.comp];omega
theorem BE {ds:List Int}{k d:Int}{R:List (List Int)} (hk:k<d) (ih:nY (qM (d::ds)) ((k+1)::fW ds.length) R):∀(L':List (List Int)) (a:List Int),(∀l∈L',l.length=ds.length)→nY (qM ds) a L'→nY (qM (d::ds)) (k::a) (L'.map (k:: ·)++R)
 |[c],a,hl,h=>by
  obtain ⟨h1,h2⟩:=h;subst h1;refine nt (c:=(k+1)::fW ds.length) ?_ ih;have:c.length=ds.length:=hl c (by simp);simp [qM,h2,this,hk]
 |c::e::L',a,hl,h=>by
  obtain ⟨h1,x,h2,h3⟩:=h;subst h1;exact nt (c:=k::x) (by simp [qM,h2]) (BE hk ih (e::L') x (fun l hm=>hl l (Wl _ hm)) h3)
theorem xx {ds:List Int} (L:List (List Int)) (hL:nY (qM ds) (fW ds.length) L) (hlen:∀l∈L,l.length=ds.length) (d:Int):∀(n:Nat) (k:Int),k+n=d→
  nY (qM (d::ds)) (k::fW ds.length) (((List.range (n+1)).map fun (j:Nat)=>k+(j:Int)).flatMap fun k=>L.map (k:: ·))
 |0,k,hk=>by
  have hk':k=d:=VZ;subst hk';have:=BO (g:=qM (k::ds)) (e:=fun l=>k::l) (b:=[]) (z:=none) (fun a c h=>by simp [qM,h]) (fun a h=>by simp [qM,h]) rfl L _ hL;simpa using this
 |n+1,k,hk=>by
  rw [LD,YB];have ih:=xx L hL hlen d n (k+1) VZ;exact BE VZ ih L _ hlen hL
theorem jO:∀(ds:List Int) (l:List Int),l∈dp ds→l.length=ds.length
 |[],l,h=>by simp [dp] at h;simp [h]
 |d::ds,l,h=>by
  simp only [dp,Yq,Wo] at h;obtain ⟨k,_,l',h2,rfl⟩:=h;simp [jO ds l' h2]
theorem Bu:∀ds:List Int,(∀d∈ds,0≤d)→nY (qM ds) (fW ds.length) (dp ds)
 |[],_=>⟨rfl,rfl⟩
 |d::ds,h=>by
  have h0:=h d Wj;have:=xx (dp ds) (Bu ds fun x hx=>h x (Wl _ hx)) (jO ds) d d.toNat 0 VZ;simpa [dp,j1,fW,Yp] using this
theorem nV (d:Int):∀ds:List Int,dp (ds++[d])=(dp ds).flatMap fun p=>(j1 d).map fun k=>p++[k]
 |[]=>by simp only [Wd,dp,YB,List.flatMap_nil,WJ,Wv,WV];induction j1 d with
  |nil=>rfl
  |cons a l ih=>simp [ih]
 |e::ds=>by
  simp only [Wf,dp,nV d ds,List.map_flatMap,List.flatMap_assoc,List.flatMap_map,W6,Function.comp_def]
theorem rC:∀(ds:List Int),(∀d∈ds,0≤d∧d≤127)→∀l∈dp ds,l.all ck=true
 |[],_,l,h=>by simp [dp] at h;simp [h]
 |d::ds,hd,l,h=>by
  simp only [dp,j1,Yq,Wo,Xn] at h;obtain ⟨_,⟨k,hk,rfl⟩,l',h2,rfl⟩:=h;have:=hd d Wj;rw [List.all_cons,rC ds (fun x hx=>hd x (Wl _ hx)) l' h2];simp [ck];omega
theorem r7 (d:Int):(j1 d).length=d.toNat+1:=by simp [j1]
theorem rv (d:Int) (ds:List Int):(dp (ds++[d])).length=(dp ds).length*(d.toNat+1):=by
 rw [nV,List.length_flatMap];simp only [Wi,r7]
 induction dp ds with
 |nil=>simp
 |cons a l ih=>simp [ih,Yl];omega
def rD:Int→List Int→Bool
 |_,[]=>true
 |n,d::ds=>decide (0≤d) && (decide (d≤127) && (decide (n*(d+1)≤65536) && rD (n*(d+1)) ds))
def fX (l:List Int):ByteArray:=str (l.map qR)
def mj (ds:List Int):List ByteArray:=if rD 1 ds then (dp ds).map fX else []
theorem vf:∀ds:List Int,0<(dp ds).length
 |[]=>by simp [dp]
 |d::ds=>by
  simp only [dp,j1,List.length_flatMap];rw [List.range_succ_eq_map];have:=vf ds;simp;omega
theorem zv:∀(ds:List Int) (n:Int),rD n ds=true→∀d∈ds,0≤d∧d≤127
 |[],_,_,d,h=>by simp at h
 |e::ds,n,h,d,hd=>by
  simp only [rD,Wm,Wt] at h
  rcases Wp.1 hd with rfl|hd
  ·exact ⟨h.1,h.2.1⟩
  ·exact zv ds _ h.2.2.2 d hd
theorem tI {d n:Int} (hk:ds[k]?=some d) (h:rD 1 ds=rD n (ds.drop k)) (hb:(0≤d∧d≤127)∧n*(d+1)≤65536):
  rD 1 ds=rD (n*(d+1)) (ds.drop (k+1)):=by
 obtain ⟨hlt,he⟩:=Wk.1 hk;rw [h,Xv hlt,he];simp [rD,hb.1.1,hb.1.2,hb.2]
theorem m9 {d n:Int} (hk:ds[k]?=some d) (h:rD 1 ds=rD n (ds.drop k)) (hb:¬((0≤d∧d≤127)∧n*(d+1)≤65536)):rD 1 ds=false:=by
 obtain ⟨hlt,he⟩:=Wk.1 hk;rw [h,Xv hlt,he];simp only [rD,Zn,Yo]
 rcases Classical.em (0≤d) with h1|h1<;>rcases Classical.em (d≤127) with h2|h2
 ·exact .inr (.inr (.inl VZ))
 ·exact .inr (.inl h2)
 ·exact .inl h1
 ·exact .inl h1
theorem eU {d:Int} (hk:ds[k]?=some d) (h0:0≤d):((dp (ds.take (k+1))).length:Int)=(dp (ds.take k)).length*(d+1):=by
 rw [ay hk,rv,Xk];congr 1;omega
theorem tM {ds:List Int} (h:rD 1 ds=true):∀k,k≤ds.length→rD 1 ds=rD (dp (ds.take k)).length (ds.drop k)∧(dp (ds.take k)).length≤65536
 |0,_=>⟨by simp [dp],by simp [dp]⟩
 |k+1,hk=>by
  obtain ⟨h1,h2⟩:=tM h k VZ;obtain ⟨d,hd⟩:=al (l:=ds) (k:=k) VZ;have hb:=zv ds 1 h d (Wb hd);by_cases hc:((dp (ds.take k)).length:Int)*(d+1)≤65536
  ·have h3:=tI hd h1 ⟨hb,hc⟩;have h4:=eU hd hb.1;rw [←h4] at h3 hc;exact ⟨h3,VZ⟩
  ·have:=m9 hd h1 fun x=>hc x.2;rw [h] at this;cases this
def gX (d:Int) (s:ByteArray):List ByteArray:=(j1 d).map fun q=>s++str [qR q]
theorem MH {d:Int} (hk:ds[k]?=some d):(dp (ds.take (k+1))).map fX=((dp (ds.take k)).map fX).flatMap (gX d):=by
 rw [ay hk,nV,List.map_flatMap,List.flatMap_map];congr 1;funext p;simp only [gX,W6];apply XW;intro q _;simp only [Function.comp,fX,WX,Ct,Wv,WV]
theorem OV {d:Int}{s:ByteArray} (hq:(q:Int)≤d):(gX d s)[q]?=some (s++str [qR q]):=by
 simp only [gX,j1,W6,Wg,W8 (show q<d.toNat+1 by omega),Xx,Function.comp]
theorem G4 (d:Int) (s:ByteArray):(gX d s).length=d.toNat+1:=by simp [gX,j1]
theorem TK {d:Int}{S:List ByteArray}{s:ByteArray} (hs:S[j]?=some s) (q:Nat):((S.take j).flatMap (gX d)++(gX d s).take q).length≤(S.flatMap (gX d)).length:=by
 have e:S.flatMap (gX d)=(S.take j).flatMap (gX d)++(gX d s++(S.drop (j+1)).flatMap (gX d)):=by
  obtain ⟨h1,h2⟩:=Wk.1 hs
  conv=>lhs;rw [←W9 j S,Xv h1,h2]
  rw [Yu,YB]
 rw [e];simp only [We,Ww];omega
theorem Ob {s:ByteArray} (hs:((dp (ds.take k)).map fX)[j]?=some s):s.size≤k:=by
 have:=Wb hs;obtain ⟨l,hl,rfl⟩:=Wo.1 this;have:=jO _ l hl;simp only [fX,jr,Wi];simp at this;omega
theorem JP (d k:Int):∀(ps es:List Int) (ds ls:List Int),ps.length=es.length→qM ds ls=none→qM (es++d::ds) (ps++k::ls)=if k<d then some (ps++(k+1)::fW ls.length) else qM (es++d::ds) (ps++k::ls)
 |[],[],ds,ls,_,h=>by
  simp only [Wd,qM,h];split<;>rfl
 |p::ps,e::es,ds,ls,hl,h=>by
  have ih:=JP d k ps es ds ls (by simpa using hl) h;split
  ·rename_i hk;rw [V5 hk] at ih;simp only [Wf,qM,ih]
  ·rfl
 |[],_::_,_,_,hl,_=>by simp at hl
 |_::_,[],_,_,hl,_=>by simp at hl
theorem KJ {d k:Int} (h:qM ds ls=none) (hk:¬k<d):qM (d::ds) (k::ls)=none:=by
 simp [qM,h,hk]
theorem Hp.swap {x y:HE}{H:List HE} (h:Hp w0 (x::y::H) w):Hp w0 (y::x::H) w:=h.perm (.swap y x H)
def n8 (ls:List Int) (k n:Nat):List Int:=ls.take k++fW (n-k)
theorem Ld (h:ls.length=n):n8 ls n n=ls:=by
 unfold n8;rw [Wc VZ,Xc];simp [fW]
theorem MF (h:ls.length=n) (hk:k≤n):(n8 ls k n).length=n:=by
 simp [n8,fW];omega
theorem RN {x:Int} (hx:ls[k]?=some x):(n8 ls (k+1) n)[k]?=some x:=by
 have hlt:=(Wk.1 hx).1;unfold n8;rw [Yh (by simp;omega),XF];simp [hx]
theorem FP (y:Int) (h:ls.length=n) (hk:k<n):cd (a7 (n8 ls (k+1) n)) k [.int .i64 y]=a7 (ls.take k++y::fW (n-(k+1))):=by
 have e1:(n8 ls (k+1) n).take k=ls.take k:=by
  unfold n8;rw [Zw (by simp;omega),Zd];congr 1;omega
 have e2:(n8 ls (k+1) n).drop (k+1)=fW (n-(k+1)):=by
  unfold n8;have hl:(ls.take (k+1)).length=k+1:=by simp;omega
  rw [List.drop_append,hl,XX VZ];simp
 simp only [cd,a7,←YV,←Yy,WH,YZ,Ws,e1,e2];simp
theorem Jh (hk:k<n):ls.take k++0::fW (n-(k+1))=n8 ls k n:=by
 unfold n8 fW;rw [show n-k=(n-(k+1))+1 by omega,Yp]
theorem KV {d x:Int} (hd:ds.length=n) (hl:ls.length=n) (hdk:ds[k]?=some d) (hlk:ls[k]?=some x) (h:qM (ds.drop (k+1)) (ls.drop (k+1))=none) (hx:x<d):
  qM ds ls=some (ls.take k++(x+1)::fW (n-(k+1))):=by
 obtain ⟨h1,h2⟩:=Wk.1 hdk;obtain ⟨h3,h4⟩:=Wk.1 hlk;have:=JP d x (ls.take k) (ds.take k) _ _ (by simp;omega) h;rw [V5 hx] at this;have e1:ds.take k++d::ds.drop (k+1)=ds:=by rw [←h2,←Xv h1,W9]
 have e2:ls.take k++x::ls.drop (k+1)=ls:=by rw [←h4,←Xv h3,W9]
 rw [e1,e2] at this;rw [this,Xu,hl]
theorem JV {d x:Int} (hdk:ds[k]?=some d) (hlk:ls[k]?=some x) (h:qM (ds.drop (k+1)) (ls.drop (k+1))=none) (hx:¬x<d):qM (ds.drop k) (ls.drop k)=none:=by
 obtain ⟨h1,h2⟩:=Wk.1 hdk;obtain ⟨h3,h4⟩:=Wk.1 hlk;rw [Xv h1,Xv h3,h2,h4];exact KJ h hx
theorem BJ (h:ls.all ck=true) {x:Int} (hx:ls[k]?=some x):0≤x∧x≤127:=by
 have:=Wq.1 h x (Wb hx);simpa [ck] using this
variable {rs:List Nat}
def bin:Nat→Nat→Nat
 |_,0=>1
 |0,_+1=>0
 |n+1,k+1=>bin n k+bin n (k+1)
theorem tS (n:Nat):bin n 0=1:=by cases n<;>rfl
theorem xW:∀{n k:Nat},n<k→bin n k=0
 |0,k+1,_=>rfl
 |n+1,k+1,h=>by rw [bin,xW (show n<k by omega),xW (show n<k+1 by omega)]
theorem tp:∀n,bin n n=1
 |0=>rfl
 |n+1=>by rw [bin,tp n,xW (show n<n+1 by omega)]
theorem sX:∀n k:Nat,bin n k≤2^n
 |n,0=>by rw [tS];exact WQ V0
 |0,k+1=>V8 _
 |n+1,k+1=>by
  have h1:=sX n k;have h2:=sX n (k+1);rw [bin,W0];omega
def sk (n:Nat):List Nat:=(List.range (n+1)).map (bin n)
theorem tN (n:Nat):(sk n).length=n+1:=by simp [sk]
theorem yY (h:k≤n):(sk n)[k]?=some (bin n k):=by
 unfold sk;exact Li
def nD (n:Nat):Dyadic:=((n:Int):Dyadic)
theorem N5:nD 0=0:=rfl
theorem QX:nD 1=1:=rfl
theorem yW (a b:Nat):nD (a+b)=nD a+nD b:=by
 show Dyadic.ofIntWithPrec ((a+b:Nat):Int) 0=Dyadic.ofIntWithPrec (a:Int) 0+Dyadic.ofIntWithPrec (b:Int) 0;rw [sx,X7]
theorem JD (a b:Nat):nD (a*b)=nD a*nD b:=by
 induction a with
 |zero=>rw [YW,N5];grind
 |succ a ih=>rw [Xs,yW,yW,ih,QX];grind
theorem KC (h:n<2^k):Sz k (nD n):=by
 refine ⟨(n:Int)*2^k, ?_, ?_⟩
 ·have:=nP (n:Int) 0 k;rw [show (0:Int)+(k:Int)=k by omega] at this;rw [this]
  rfl
 ·rw [X9,YH,Int.natAbs_natCast,show 2*k=k+k by omega,Wy];exact YE h (WQ V0)
theorem o9 {α β:Type}{m:Nat} (hm:0<m) (g:α→List β):∀(l:List α) (p:Nat),(∀a∈l,(g a).length=m)→(l.flatMap g)[p]?=(l[p/m]?).bind fun a=>(g a)[p % m]?
 |[],p,_=>by simp
 |a::l,p,h=>by
  have ha:=h a Wj;rw [YB];by_cases hp:p<m
  ·rw [Yh VZ,Xa hp,WU hp]
   rfl
  ·obtain ⟨q,rfl⟩:∃q,p=q+m:=⟨p-m,VZ⟩;rw [Xt VZ,ha,Nat.add_sub_cancel,o9 hm g l q fun b hb=>h b (Wl _ hb),Nat.add_div_right _ hm,Nat.add_mod_right,YT]
theorem rM {α β:Type}{m:Nat} (g:α→List β):∀(l:List α),(∀a∈l,(g a).length=m)→(l.flatMap g).length=l.length*m
 |[],_=>by simp
 |a::l,h=>by
  rw [YB,We,h a Wj,rM g l fun b hb=>h b (Wl _ hb),WH,Xs,X6]
def bp (l:List Nat):List Int:=l.map fun (n:Nat)=>(n:Int)
theorem gJ (l:List Nat):(bp l).length=l.length:=by simp [bp]
theorem ez {l:List Nat}{i:Nat} (h:l[i]?=some n):(bp l)[i]?=some (n:Int):=by simp [bp,h]
theorem u7:∀(rs:List Nat),(dp (bp rs.reverse)).length=ar rs∧∀p,p<ar rs→(dp (bp rs.reverse))[p]?=some (bp (cq rs p).reverse)
 |[]=>⟨rfl,fun p h=>by obtain rfl:p=0:=(by have h2:p<1:=h;omega);rfl⟩
 |d::rs=>by
  obtain ⟨h1,h2⟩:=u7 rs;have e1:bp (d::rs).reverse=bp rs.reverse++[(d:Int)]:=by simp [bp]
  have hu:(j1 (d:Int)).length=d+1:=by rw [r7];simp
  have hg:∀a∈dp (bp rs.reverse),((j1 (d:Int)).map fun k=>a++[k]).length=d+1:=fun a _=>by rw [Wi,hu]
  rw [e1,nV];refine ⟨by rw [rM _ _ hg,h1,ar,Wz],fun p hp=> ?_⟩;have hq:p/(d+1)<ar rs:=by rw [XH VZ,Wz];exact hp
  have hr:p % (d+1)<d+1:=WB _ VZ;rw [o9 VZ _ _ _ hg,h2 _ hq];show ((j1 (d:Int)).map fun k=>bp (cq rs (p/(d+1))).reverse++[k])[p % (d+1)]?=_;rw [Wg,j1,Wg,W8 (by simpa using hr)];simp [cq,bp]
theorem Ky (ds:List Nat):(dp (bp ds)).length=ar ds.reverse:=by
 have:=(u7 ds.reverse).1;rwa [YM] at this
theorem Nm {ds:List Nat}{p:Nat} (h:p<ar ds.reverse):(dp (bp ds))[p]?=some (bp (cq ds.reverse p).reverse):=by
 have:=(u7 ds.reverse).2 p h;rwa [YM] at this
theorem yN:∀{ds rs:List Nat},mh ds rs→rs.length=ds.length
 |[],[],_=>rfl
 |_::_,_::_,h=>by rw [WH,WH,yN h.2]
theorem vk {ds:List Nat}{i d r:Nat} (hd:ds[i]?=some d) (hr:rs[i]?=some r):eu (ds.take (i+1)).reverse (rs.take (i+1)).reverse=r+(d+1)*eu (ds.take i).reverse (rs.take i).reverse:=by
 rw [ay hd,ay hr];simp [eu]
theorem uZ {ds:List Nat}{i d:Nat} (hd:ds[i]?=some d):ar (ds.take (i+1)).reverse=(d+1)*ar (ds.take i).reverse:=by
 rw [ay hd];simp [ar]
theorem dD (a b:List Nat):ar (a++b)=ar a*ar b:=by
 induction a with
 |nil=>simp [ar]
 |cons d a ih=>rw [Wf,ar,ar,ih,Xb]
theorem bM (ds:List Nat):ar ds.reverse=ar ds:=by
 induction ds with
 |nil=>rfl
 |cons d ds ih=>rw [Zg,dD,ih,ar,ar,ar,Wn,Wz]
theorem gg (ds:List Nat) (i:Nat):ar (ds.take i)≤ar ds:=by
 have:ds=ds.take i++ds.drop i:=(W9 i ds).symm
 calc ar (ds.take i)=ar (ds.take i)*1:=(Wn _).symm
  _≤ar (ds.take i)*ar (ds.drop i):=WM _ (cn _)
  _=ar ds:=by rw [←dD,W9]
theorem jK (A:Option Addr) (n c:Nat) (ds:List Int) (w:World) (hS:Sl w A n 1 (a7 ds)) (hn:n≤1000000):
  Calls Tryz.prog 45 #[.slice A n c] w fun r w'=>∃B c',r=.returned (.slice B n c')∧w'.ownsRow w.heap.size 3 1 (.slice B n c') n (a7 ds)∧Below w.heap.size w w':=by
 have hh:=Hp.start w
 rcases A with _|ad
 ·have hn0:n=0:=by
   exact R7
  subst hn0;have hl:ds=[]:=XA (by simpa [a7] using hS.1);subst hl;refine aj (N:=8) (l:=[.slice none 0 c]) Tryz.func45 rfl rfl (by simp) ?_;exact RH
 ·refine aj (N:=8) (l:=[.slice (some ad) n c]) Tryz.func45 rfl rfl (by simp) ?_;refine sr (aL (aa (ah (sr (mL ?_)))));refine sF a9.out rfl rfl V0 ?_;refine uk ?_;refine iG hh a9.out aJ.out V0 ?_;intro b5 w5 hh;refine mL ?_;refine cv hh (i:=0) rfl rfl rfl (hS.ext hh.below) a9.out aJ.out rfl V0 ?one3 VZ VZ V0 ?kk3
  case one3=>first|rfl|assumption|exact bB _|exact oneCells_u8s _
  exact Sb
theorem zg (A:Option Addr) (n c:Nat) (xs:List NR) (w:World) (hS:Sl w A n 3 (aA NR.cells xs)) (hn:n≤1000000):
  Calls Tryz.prog 106 #[.slice A n c] w fun r w'=>∃B c',r=.returned (.slice B n c')∧w'.ownsRow w.heap.size 40 3 (.slice B n c') n (aA NR.cells xs)∧Below w.heap.size w w':=by
 have hh:=Hp.start w
 rcases A with _|ad
 ·have hn0:n=0:=by
   exact R7
  subst hn0;have hl:xs=[]:=XA (by have:=hS.bE NR.len V0;omega);subst hl;refine aj (N:=8) (l:=[.slice none 0 c]) Tryz.func106 rfl rfl (by simp) ?_;exact RH
 ·have hone:((aA NR.cells xs).all Value.oneCell')=true:=bU NR.one _;refine aj (N:=8) (l:=[.slice (some ad) n c]) Tryz.func106 rfl rfl (by simp) ?_;refine sr (aL (aa (ah (sr (mL ?_)))));refine sF a9.out rfl rfl V0 ?_;refine uk ?_;refine iG hh a9.out aJ.out V0 ?_;intro b5 w5 hh;refine mL ?_;refine cv hh (i:=0) rfl rfl rfl (hS.ext hh.below) a9.out aJ.out rfl V0 ?one4 VZ VZ V0 ?kk4
  case one4=>first|rfl|assumption|exact bB _|exact oneCells_u8s _
  exact Sb
theorem DV (A:Option Addr) (n c:Nat) (l:List Int) (g:FuncId) (cap:List Value) (p:Int→Bool) (w:World) (hS:Sl w A n 1 (a7 l)) (hn:n≤1000000) [au Tryz.prog g]
  (hg:∀(z:Int) (w1:World),z∈l→Below w.heap.size w w1→Calls Tryz.prog g (.int .i64 z::cap).toArray w1 fun r w'=>r=.returned (.bool (p z))∧Below w1.heap.size w1 w'):
  Calls Tryz.prog 115 #[.slice A n c,.func (.func g) #[] cap.toArray] w fun r w'=>∃v,r=.returned (.int .i64 v)∧(0≤v↔l.any p=true)∧Below w.heap.size w w':=by
 have hh:=Hp.start w;have hln:l.length=n:=by have:=hS.1;simpa [a7] using this
 refine aj (N:=19) (l:=[.slice A n c,.func (.func g) #[] cap.toArray]) Tryz.func115 rfl rfl (by simp) ?_;refine Bq ?_;refine aW [4,5,8,9,10,11,12,13,14,15,16,17,18] 8
  (fun v w'=>∃i:Nat,i≤n∧v=.int .i64 i∧(l.take i).any p=false∧Hp w [] w')
  (fun v _=>n-(intOf v).toNat) ?_ ?_
 ·exact ⟨0,V8 _,rfl,rfl,hh⟩
 ·clear hh;rintro ρ' v w' ⟨i,hi,rfl,hall,hh⟩;by_cases hlt:i<n
  ·obtain ⟨z,hz⟩:=al (l:=l) (k:=i) VZ;have hgi:=bR hz;obtain ⟨ad,rfl,hr⟩:=hS.at_ VZ;have hc:=fun w1=>hg z w1 (Wb hz)
   cases gz:p z with
   |true=>
    rw [gz] at hc;refine sr ?_;refine rG ?_;refine iJ ?_;refine mL (mI ?_);refine cA ?_;refine s9 ?_;exact QE
   |false=>
    rw [gz] at hc;refine sr ?_;refine rG ?_;refine iJ ?_;refine mL (mI ?_);refine cA ?_;refine s9 ?_;exact Gf
  ·exact QC
theorem C0 (A:Option Addr) (n c:Nat) (l:List Int) (g:FuncId) (cap:List Value) (p:Int→Bool) (w:World) (hS:Sl w A n 1 (a7 l)) (hn:n≤1000000) [au Tryz.prog g]
  (hg:∀(z:Int) (w1:World),z∈l→Below w.heap.size w w1→Calls Tryz.prog g (.int .i64 z::cap).toArray w1 fun r w'=>r=.returned (.bool (p z))∧Below w1.heap.size w1 w'):
  Calls Tryz.prog 60 #[.slice A n c,.func (.func g) #[] cap.toArray] w fun r w'=>r=.returned (.bool (l.any p))∧Below w.heap.size w w':=by
 have hh:=Hp.start w;refine aj (N:=9) (l:=[.slice A n c,.func (.func g) #[] cap.toArray]) Tryz.func60 rfl rfl (by simp) ?_;refine sr (aB (aa (sr (mL ?_))));refine iJ ?_;refine aE (DV A n c l g cap p _ (hS.ext hh.below) hn hg) au.out rfl V0 ?_;exact QD
theorem D4 (A:Option Addr) (n c:Nat) (l:List NR) (g:FuncId) (cap:List Value) (p:NR→Bool) (w:World) (hS:Sl w A n 3 (aA NR.cells l)) (hn:n≤1000000) [au Tryz.prog g]
  (hg:∀(z:NR) (w1:World),z∈l→Below w.heap.size w w1→Calls Tryz.prog g (.agg #[.bool z.neg,.string z.bk,.int .i64 z.e]::cap).toArray w1 fun r w'=>r=.returned (.bool (p z))∧Below w1.heap.size w1 w'):
  Calls Tryz.prog 116 #[.slice A n c,.func (.func g) #[] cap.toArray] w fun r w'=>∃v,r=.returned (.int .i64 v)∧(0≤v↔l.any p=true)∧Below w.heap.size w w':=by
 have hh:=Hp.start w;have hln:=hS.bE NR.len V0;refine aj (N:=19) (l:=[.slice A n c,.func (.func g) #[] cap.toArray]) Tryz.func116 rfl rfl (by simp) ?_;refine Bq ?_;refine aW [4,5,8,9,10,11,12,13,14,15,16,17,18] 8
  (fun v w'=>∃i:Nat,i≤n∧v=.int .i64 i∧(l.take i).any p=false∧Hp w [] w')
  (fun v _=>n-(intOf v).toNat) ?_ ?_
 ·exact ⟨0,V8 _,rfl,rfl,hh⟩
 ·clear hh;rintro ρ' v w' ⟨i,hi,rfl,hall,hh⟩;by_cases hlt:i<n
  ·obtain ⟨z,hz⟩:=al (l:=l) (k:=i) VZ;obtain ⟨ad,rfl,hr⟩:=hS.at_ VZ;have hc:=fun w1=>hg z w1 (Wb hz)
   cases gz:p z with
   |true=>
    rw [gz] at hc;refine sr ?_;refine rG ?_;refine iJ ?_;refine mL (mI ?_);refine cA ?_;refine cz (vs:=[_,_,_]) aJ.out rfl ((hr.ext hh.below).recAt NR.len hz) rfl V0 ?_;exact QE
   |false=>
    rw [gz] at hc;refine sr ?_;refine rG ?_;refine iJ ?_;refine mL (mI ?_);refine cA ?_;refine cz (vs:=[_,_,_]) aJ.out rfl ((hr.ext hh.below).recAt NR.len hz) rfl V0 ?_;exact Gf
  ·exact QC
theorem D2 (A:Option Addr) (n c:Nat) (l:List NR) (g:FuncId) (cap:List Value) (p:NR→Bool) (w:World) (hS:Sl w A n 3 (aA NR.cells l)) (hn:n≤1000000) [au Tryz.prog g]
  (hg:∀(z:NR) (w1:World),z∈l→Below w.heap.size w w1→Calls Tryz.prog g (.agg #[.bool z.neg,.string z.bk,.int .i64 z.e]::cap).toArray w1 fun r w'=>r=.returned (.bool (p z))∧Below w1.heap.size w1 w'):
  Calls Tryz.prog 62 #[.slice A n c,.func (.func g) #[] cap.toArray] w fun r w'=>r=.returned (.bool (l.any p))∧Below w.heap.size w w':=by
 have hh:=Hp.start w;refine aj (N:=9) (l:=[.slice A n c,.func (.func g) #[] cap.toArray]) Tryz.func62 rfl rfl (by simp) ?_;refine sr (aB (aa (sr (mL ?_))));refine iJ ?_;refine aE (D4 A n c l g cap p _ (hS.ext hh.below) hn hg) au.out rfl V0 ?_;exact QD
def eR:Int→List Int→Int
 |n,[]=>n
 |n,d::ds=>if d<0∨127<d∨4096<n*(d+1) then 0 else eR (n*(d+1)) ds
def sl:Int→List Int→Int
 |n,[]=>n
 |n,d::ds=>sl (min (n*(d+1)) 4097) ds
def kn (ds:List Int):Int:=if ds.any (fun d=> !ck d) then -1 else sl 1 ds
def tP (a:NR):Bool:= !(((nR a.d).neg==a.neg && (nR a.d).bk==a.bk) && (nR a.d).e==a.e)
theorem mW {a:NR}:tP a=false↔nR a.d=a:=by
 unfold tP;rw [Bool.not_eq_false',nK]
def fE (ds:List Int) (cs:List NR):Int:=
 if 12<ds.length∨ds.any (fun d=> !ck d)=true then 1 else if eR 1 ds=0 then 3 else if (cs.length:Int)≠eR 1 ds then 1 else if cs.any tP=true then 1 else 0
theorem lz (h:ds.any (fun d=> !ck d)=false):∃ns:List Nat,ds=bp ns∧∀n∈ns,n≤127:=by
 refine ⟨ds.map Int.toNat, ?_,fun n hn=> ?_⟩
 ·unfold bp;rw [W6];refine (List.map_id' ds).symm.trans (XW fun d hd=> ?_);have:=Ya.1 h d hd;simp [ck] at this;show d=((d.toNat:Nat):Int);omega
 ·obtain ⟨d,hd,rfl⟩:=Wo.1 hn;have:=Ya.1 h d hd;simp [ck] at this;omega
theorem ir:∀(ns:List Nat) (n:Nat),1≤n→n≤4096→(∀d∈ns,d≤127)→eR n (bp ns)=if n*ar ns≤4096 then ((n*ar ns:Nat):Int) else 0
 |[],n,_,h,_=>by show (n:Int)=_;rw [ar,Wn,V5 h]
 |d::ns,n,h1,h2,h3=>by
  show (if (d:Int)<0∨127<(d:Int)∨4096<(n:Int)*((d:Int)+1) then 0 else eR ((n:Int)*((d:Int)+1)) (bp ns))=_;have hd:=h3 d Wj;have e1:(n:Int)*((d:Int)+1)=((n*(d+1):Nat):Int):=by rw [Xk,X7];rfl
  rw [e1];by_cases hg:n*(d+1)≤4096
  ·rw [V6 VZ,ir ns (n*(d+1)) (Nat.mul_pos h1 VZ) hg fun x hx=>h3 x (Wl _ hx),ar,Xb]
  ·have h4:n*(d+1)*1≤n*(d+1)*ar ns:=WM _ (cn ns);rw [V5 VZ,V6];rw [ar,←Xb];omega
theorem qi:∀(ns:List Nat) (n:Nat),1≤n→n≤4097→sl n (bp ns)=((min (n*ar ns) 4097:Nat):Int)
 |[],n,_,h=>by show (n:Int)=_;rw [ar,Wn,Xg h]
 |d::ns,n,h1,h2=>by
  show sl (min ((n:Int)*((d:Int)+1)) 4097) (bp ns)=_;have e1:min ((n:Int)*((d:Int)+1)) 4097=((min (n*(d+1)) 4097:Nat):Int):=by
   have:(n:Int)*((d:Int)+1)=((n*(d+1):Nat):Int):=by rw [Xk,X7];rfl
   rw [this];omega
  have hp:=Nat.mul_pos h1 (show 0<d+1 by omega);rw [e1,qi ns _ VZ VZ,ar,←Xb];by_cases hg:n*(d+1)≤4097
  ·rw [Xg hg]
  ·have h4:n*(d+1)*1≤n*(d+1)*ar ns:=WM _ (cn ns);have h5:4097*1≤4097*ar ns:=WM _ (cn ns);rw [Nat.min_eq_right (by omega:4097≤n*(d+1)),Nat.min_eq_right VZ,Nat.min_eq_right VZ]
theorem Eu:∀(ds:List Int) (n:Int),1≤n→n≤4096→0≤eR n ds∧eR n ds≤4096
 |[],n,_,h=>by show 0≤n∧n≤4096;omega
 |d::ds,n,h1,h2=>by
  rw [eR];split
  ·omega
  ·rename_i hg;have:1*1≤n*(d+1):=YR h1 VZ V0 VZ;exact Eu ds _ VZ VZ
theorem BX:∀(ds:List Int) (n:Int),ds.any (fun d=> !ck d)=true→eR n ds=0
 |[],_,h=>by cases h
 |d::ds,n,h=>by
  rw [eR];split
  ·rfl
  ·rename_i hg;rw [YF,X4] at h
   rcases h with h|h
   ·simp [ck] at h;omega
   ·exact BX ds _ h
structure FV (ds:List Int) (cs:List NR) (ns:List Nat) (xs:List Dyadic):Prop where
 VU:ds=bp ns
 num:cs=xs.map nR
 Rq:ns.length≤12
 low:∀n∈ns,n≤127
 len:xs.length=ar ns
 max:ar ns≤4096
theorem TO {cs:List NR} (h:fE ds cs=0):∃ns xs,FV ds cs ns xs∧xs=cs.map NR.d:=by
 unfold fE at h;split at h
 ·cases h
 rename_i h1;split at h
 ·cases h
 rename_i h2;split at h
 ·cases h
 rename_i h3;split at h
 ·cases h
 rename_i h4;have hb:ds.any (fun d=> !ck d)=false:=by
  cases hx:ds.any (fun d=> !ck d) with
  |false=>rfl
  |true=>exact absurd (.inr hx) h1
 obtain ⟨ns,rfl,hl⟩:=lz hb;have hc:=ir ns 1 V0 V0 hl;rw [XP] at hc;have hc1:eR ((1:Nat):Int) (bp ns)=eR 1 (bp ns):=rfl;rw [hc1] at hc;have hmax:ar ns≤4096:=by
  apply YD;intro hg;rw [V6 hg] at hc;exact h2 hc
 rw [V5 hmax] at hc;have hlen:cs.length=ar ns:=by
  have:(cs.length:Int)=eR 1 (bp ns):=Yg.1 h3;rw [hc] at this;omega
 refine ⟨ns,cs.map NR.d,⟨rfl, ?_,(by have h2:¬12<(bp ns).length:=fun h=>h1 (.inl h);rw [gJ] at h2;omega),hl,by rw [Wi,hlen],hmax⟩,rfl⟩;rw [W6];refine (List.map_id' cs).symm.trans (XW fun a ha=> ?_);have h5:tP a=false:=by
  cases hx:tP a with
  |false=>rfl
  |true=>exact absurd (Yb.2 ⟨a,ha,hx⟩) h4
 exact (mW.1 h5).symm
theorem ef (A:Option Addr) (n c:Nat) (ds:List Int) (w:World) (hS:Sl w A n 1 (a7 ds)) (hn:n≤1000000):
  Calls Tryz.prog 46 #[.slice A n c] w fun r w'=>r=.returned (.int .i64 (eR 1 ds))∧Below w.heap.size w w':=by
 have hh:=Hp.start w;have hln:ds.length=n:=by have:=hS.1;simpa [a7] using this
 refine aj (N:=31) (l:=[.slice A n c]) Tryz.func46 rfl rfl (by simp) ?_;refine sr (aI (aa (sr (aI (aa (ah (sr (mL (aF (mI (aa (aq ?_))))))))))));refine bz [2,3,5,8,9,10,11,12,13,14,15,16,17,18,19,20,21,22,23,24,25,26,27,28,29] 3 8
  (fun v3 v w'=>∃(i:Nat) (q:Int),i≤n∧v=.int .i64 i∧v3=.int .i64 q∧1≤q∧q≤4096∧eR 1 ds=eR q (ds.drop i)∧Hp w [] w')
  (fun _ v _=>n-(intOf v).toNat) ?_ ?_
 ·exact ⟨0,1,V8 _,rfl,rfl,VZ,VZ,rfl,hh⟩
 ·clear hh;rintro ρ' v3 v w' ⟨i,q,hi,rfl,rfl,hq1,hq2,hc,hh⟩;by_cases hlt:i<n
  ·obtain ⟨d,hd⟩:=al (l:=ds) (k:=i) VZ;have hgi:=bR hd;obtain ⟨ad,rfl,hr⟩:=hS.at_ VZ;rw [ix hd,eR] at hc;by_cases h1:d<0
   ·rw [V5 (.inl h1)] at hc;refine sr ?_;refine eb ?_;refine cA ?_;refine s9 ?_;refine aI (aa (ah (sr (mI ?_))));refine a0 (mB ?_);refine gS (gS ?_);refine fi ?_;refine mB ?_;refine gS (gS (gS (gS (gS ?_))));refine fi ?_;exact Ri
   ·by_cases h2:127<d
    ·rw [V5 (.inr (.inl h2))] at hc;refine sr ?_;refine eb ?_;refine cA ?_;refine s9 ?_;refine aI (aa (ah (sr (mI ?_))));refine a0 (mB (gT (mI (gT ?_))));refine bH ?_;refine dR ?_;refine mB ?_;refine gS (gS (gS (gS (gS ?_))));refine fi ?_;exact Ri
    ·have hm1:1*1≤q*(d+1):=YR hq1 VZ V0 VZ;have hm2:q*(d+1)≤4096*128:=YR hq2 VZ VZ V0;by_cases h3:4096<q*(d+1)
     ·rw [V5 (.inr (.inr h3))] at hc;refine sr ?_;refine eb ?_;refine cA ?_;refine s9 ?_;refine aI (aa (ah (sr (mI ?_))));refine a0 (mB (gT (mI (gT ?_))));refine bH ?_;refine dR ?_;refine mB (gT (mI (gT (mI (gT ?_)))));refine bj (gT ?_);refine mulC (gT ?_);refine bH ?_;refine dR ?_;exact Ri
     ·rw [V6 VZ] at hc;refine sr ?_;refine eb ?_;refine cA ?_;refine s9 ?_;refine aI (aa (ah (sr (mI ?_))));refine a0 (mB (gT (mI (gT ?_))));refine bH ?_;refine dR ?_;refine mB (gT (mI (gT (mI (gT ?_)))));refine bj (gT ?_);refine mulC (gT ?_);refine bH ?_;refine dR ?_;refine aa (cF (ao (ai (ak (mI (mI ?_))))));refine bj ?_;refine mulC (aI (az (bF (ai (ak ?_)))));refine bj (mI (az (ai ?_)));refine ⟨⟨i+1,_,VZ,rfl,rfl,VZ,VZ,hc,hh⟩,by show n-(i+1)<n-i;omega, ?_⟩;exact dF
  ·rw [XX VZ] at hc;refine sr ?_;refine a0 (aa (ah (cF (aZ (aC (aC (br (ai (sr (mI (aI (aa (av ?_)))))))))))));refine cW ?_;exact ⟨by rw [hc];rfl,hh.below⟩
theorem D0 (d:Int) (w:World):
  Calls Tryz.prog 61 #[.int .i64 d] w fun r w'=>r=.returned (.bool (!ck d))∧Below w.heap.size w w':=by
 have hh:=Hp.start w;by_cases h1:d<0
 ·refine aj (N:=9) (l:=[.int .i64 d]) Tryz.func61 rfl rfl (by simp) ?_;refine sr (aB (aa (sr (mI ?_))));refine a0 (mB ?_);refine gS (gS ?_);refine fi ?_;refine aB (aa (av ?_));refine cW ?_;refine ⟨?_,hh.below⟩;unfold ck;rw [WG (show ¬0≤d by omega)]
  rfl
 ·by_cases h2:127<d
  ·refine aj (N:=9) (l:=[.int .i64 d]) Tryz.func61 rfl rfl (by simp) ?_;refine sr (aB (aa (sr (mI ?_))));refine a0 (mB (gT (mI (gT ?_))));refine bH ?_;refine dR ?_;refine aB (aa (av ?_));refine cW ?_;refine ⟨?_,hh.below⟩;unfold ck;rw [WG (show ¬d≤127 by omega),Bool.and_false]
   rfl
  ·refine aj (N:=9) (l:=[.int .i64 d]) Tryz.func61 rfl rfl (by simp) ?_;refine sr (aB (aa (sr (mI ?_))));refine a0 (mB (gT (mI (gT ?_))));refine bH ?_;refine dR ?_;refine aB (aa (av ?_));refine cW ?_;refine ⟨?_,hh.below⟩;unfold ck;rw [Wr (show 0≤d by omega),Wr (show d≤127 by omega)]
   rfl
theorem Cz (a:NR) (w:World) (hT:er w) (ha:a.ok):
  Calls Tryz.prog 63 #[.agg #[.bool a.neg,.string a.bk,.int .i64 a.e]] w fun r w'=>r=.returned (.bool (tP a))∧Below w.heap.size w w':=by
 have hh:=Hp.start w;have hf:=fun w1 hT1=>eF a w1 hT1 (by have:=ha.1;omega) (by have:=ha.2;omega) (by have:=ha.2;omega)
 cases hx:tP a with
 |false=>
  have he:=mW.1 hx;refine aj (N:=7) (l:=[.agg #[.bool a.neg,.string a.bk,.int .i64 a.e]]) Tryz.func63 rfl rfl (by simp) ?_;refine sr ?_;refine bV hh [_,_,_] ?_;intro b1 w1 hh;refine aB (aa (ah ?_));refine aN 3 [[(1,none)],[(3,some 0)],[(1,none)]] [(2,5),(1,4),(0,3)] hh mixed V2 ?_;refine eJ 0 [_,_,_] ?_;refine dC (fun _ hj=>hf _ (hT.hp hj.hp)) ?_;refine eJ 0 [_,_,_] ?_;refine aG ?_;intro f W hJ hV;have hb_1:=hJ.bl;obtain ⟨v5,v4,v3,_⟩:=hV;replace hh:=hJ.hp;refine aU (bg (ae v5 (ae v4 (ae v3 aT)))) ?_;dsimp only [bI];clear hJ;refine EU ?_;exact vP
 |true=>
  have he:¬nR a.d=a:=fun h=>by rw [mW.2 h] at hx;cases hx
  refine aj (N:=7) (l:=[.agg #[.bool a.neg,.string a.bk,.int .i64 a.e]]) Tryz.func63 rfl rfl (by simp) ?_;refine sr ?_;refine bV hh [_,_,_] ?_;intro b1 w1 hh;refine aB (aa (ah ?_));refine aN 3 [[(1,none)],[(3,some 0)],[(1,none)]] [(2,5),(1,4),(0,3)] hh mixed V2 ?_;refine eJ 0 [_,_,_] ?_;refine dC (fun _ hj=>hf _ (hT.hp hj.hp)) ?_;refine eJ 0 [_,_,_] ?_;refine aG ?_;intro f W hJ hV;have hb_1:=hJ.bl;obtain ⟨v5,v4,v3,_⟩:=hV;replace hh:=hJ.hp;refine aU (bg (ae v5 (ae v4 (ae v3 aT)))) ?_;dsimp only [bI];clear hJ;refine Fl rfl rfl (by assumption) V0 ?_;exact vP
theorem vK (A B:Option Addr) (n c m c2:Nat) (ds:List Int) (cs:List NR) (w:World) (hT:er w) (hS:Sl w A n 1 (a7 ds)) (hS2:Sl w B m 3 (aA NR.cells cs)) (hn:n≤1000000) (hm:m≤1000000) (hc:∀a∈cs,a.ok):
  Calls Tryz.prog 13 #[.agg #[.slice A n c,.slice B m c2]] w fun r w'=>r=.returned (.int .i64 (fE ds cs))∧Below w.heap.size w w':=by
 have hh:=Hp.start w;have hln:ds.length=n:=by have:=hS.1;simpa [a7] using this
 have hlm:=hS2.bE NR.len V0;have h1:=fun w1 hS1=>C0 A n c ds 61 [] (fun d=> !ck d) w1 hS1 hn (fun z w2 _ hb=>D0 z w2);have h2:=fun w1 (hT1:er w1) hS1=>D2 B m c2 cs 63 [] tP w1 hS1 hm (fun z w2 hz hb=>Cz z w2 (hT1.ext hb) (hc z hz));have h3:=Eu ds 1 VZ VZ;unfold fE;by_cases g1:12<n
 ·refine xj ?_;refine sr ?_;refine bV hh [_,_] ?_;intro b1 w1 hh;refine uM ?_;refine bA hh 0 ?_;refine aF ?_;refine bH (mB ?_);refine gS (gS ?_);refine jg ?_;refine fi ?_;refine EP ?_;refine cW ?_;exact ⟨by rw [V5 (.inl VZ)],hh.below⟩
 ·cases g2:ds.any (fun d=> !ck d) with
  |true=>
   refine xj ?_;refine sr ?_;refine bV hh [_,_] ?_;intro b1 w1 hh;refine uM ?_;refine bA hh 0 ?_;refine aF ?_;refine bH (mB (gT (bC (gT ?_))));refine bA hh 0 ?_;refine aH rfl rfl ?_;refine bq hh (h1 _ (hS.ext hh.below)) rfl ?_;intro w11 hh;rw [g2];refine dR ?_;refine EP ?_;refine cW ?_;exact ⟨by rw [V5 (.inr rfl)],hh.below⟩
  |false=>
   rw [V6 (fun h=>h.elim (fun h=>by omega) (fun h=>by cases h))];by_cases g3:eR 1 ds=0
   ·refine xj ?_;refine sr ?_;refine bV hh [_,_] ?_;intro b1 w1 hh;refine uM ?_;refine bA hh 0 ?_;refine aF ?_;refine bH (mB (gT (bC (gT ?_))));refine bA hh 0 ?_;refine aH rfl rfl ?_;refine bq hh (h1 _ (hS.ext hh.below)) rfl ?_;intro w11 hh;rw [g2];refine dR ?_;refine aB (aa (cF (sr (bC ?_))));refine bA hh 0 ?_;refine FI ?_;intro w16 hh;refine ct (aB (aa (cT (sr (aI (aa (av (cm (aK ?_)))))))));refine cW ?_;exact ⟨by rw [V5 g3],hh.below⟩
   ·rw [V6 g3];by_cases g4:(m:Int)=eR 1 ds
    ·rw [V6 (show ¬(cs.length:Int)≠eR 1 ds by omega)]
     cases g5:cs.any tP with
     |true=>
      refine xj ?_;refine sr ?_;refine bV hh [_,_] ?_;intro b1 w1 hh;refine uM ?_;refine bA hh 0 ?_;refine aF ?_;refine bH (mB (gT (bC (gT ?_))));refine bA hh 0 ?_;refine aH rfl rfl ?_;refine bq hh (h1 _ (hS.ext hh.below)) rfl ?_;intro w11 hh;rw [g2];refine dR ?_;refine aB (aa (cF (sr (bC ?_))));refine bA hh 0 ?_;refine FI ?_;intro w16 hh;refine ct (aB (aa (cF (ah ?_))));refine KQ ?_;refine da ?_;refine dN 0 ?_;refine C9 ?_;refine da ?_;refine dN 0 ?_;refine dC (fun _ hj=>ef A n c ds _ (hS.ext hj.hp.below) hn) ?_;refine aG ?_;intro f W hJ hV;have hb_5:=hJ.bl;obtain ⟨v24,v23,v22,v21,v20,v19,_⟩:=hV;replace hh:=hJ.hp;refine Lt ?_;dsimp only [bI];clear hJ;refine cY (aB (aa (cF (ao (bF (ai (ah (sr (bC ?_)))))))));refine bA hh 0 ?_;refine bq hh (h2 _ (hT.hp hh) (hS2.ext hh.below)) rfl ?_;intro w28 hh;rw [g5];refine Aq ?_;refine cW ?_;exact ⟨by rw [V5 rfl],hh.below⟩
     |false=>
      refine xj ?_;refine sr ?_;refine bV hh [_,_] ?_;intro b1 w1 hh;refine uM ?_;refine bA hh 0 ?_;refine aF ?_;refine bH (mB (gT (bC (gT ?_))));refine bA hh 0 ?_;refine aH rfl rfl ?_;refine bq hh (h1 _ (hS.ext hh.below)) rfl ?_;intro w11 hh;rw [g2];refine dR ?_;refine aB (aa (cF (sr (bC ?_))));refine bA hh 0 ?_;refine FI ?_;intro w16 hh;refine ct (aB (aa (cF (ah ?_))));refine KQ ?_;refine da ?_;refine dN 0 ?_;refine C9 ?_;refine da ?_;refine dN 0 ?_;refine dC (fun _ hj=>ef A n c ds _ (hS.ext hj.hp.below) hn) ?_;refine aG ?_;intro f W hJ hV;have hb_5:=hJ.bl;obtain ⟨v24,v23,v22,v21,v20,v19,_⟩:=hV;replace hh:=hJ.hp;refine Lt ?_;dsimp only [bI];clear hJ;refine cY (aB (aa (cF (ao (bF (ai (ah (sr (bC ?_)))))))));refine bA hh 0 ?_;refine bq hh (h2 _ (hT.hp hh) (hS2.ext hh.below)) rfl ?_;intro w28 hh;rw [g5];refine EM ?_;refine cW ?_;exact ⟨by rw [V6 V0],hh.below⟩
    ·rw [V5 (show (cs.length:Int)≠eR 1 ds by omega)];refine xj ?_;refine sr ?_;refine bV hh [_,_] ?_;intro b1 w1 hh;refine uM ?_;refine bA hh 0 ?_;refine aF ?_;refine bH (mB (gT (bC (gT ?_))));refine bA hh 0 ?_;refine aH rfl rfl ?_;refine bq hh (h1 _ (hS.ext hh.below)) rfl ?_;intro w11 hh;rw [g2];refine dR ?_;refine aB (aa (cF (sr (bC ?_))));refine bA hh 0 ?_;refine FI ?_;intro w16 hh;refine ct (aB (aa (cF (ah ?_))));refine KQ ?_;refine da ?_;refine dN 0 ?_;refine C9 ?_;refine da ?_;refine dN 0 ?_;refine dC (fun _ hj=>ef A n c ds _ (hS.ext hj.hp.below) hn) ?_;refine aG ?_;intro f W hJ hV;have hb_5:=hJ.bl;obtain ⟨v24,v23,v22,v21,v20,v19,_⟩:=hV;replace hh:=hJ.hp;refine Lt ?_;dsimp only [bI];clear hJ;refine cY (aB (aa (cT (sr (aI (aa (av (cm (aK ?_)))))))));refine cW ?_;exact ⟨rfl,hh.below⟩
def Q7:List Nat→List Nat→Bool
 |[],[]=>true
 |d::ds,r::rs=>decide (r≤d) && Q7 ds rs
 |_,_=>false
theorem Gj:∀(ds rs:List Nat),Q7 ds rs=true↔mh ds rs
 |[],[]=>by simp [Q7,mh]
 |[],_::_=>by simp [Q7,mh]
 |_::_,[]=>by simp [Q7,mh]
 |d::ds,r::rs=>by rw [Q7,mh,Wm,Wt,Gj ds rs]
def co (ds:List Nat) (xs:List Dyadic) (row:List Nat):Dyadic:=if Q7 ds row then (xs[eu ds row]?).getD 0 else 0
theorem ES {ds:List Nat}{xs:List Dyadic}{row:List Nat} (h:mh ds row):co ds xs row=(xs[eu ds row]?).getD 0:=by
 unfold co;rw [V5 ((Gj _ _).2 h)]
theorem CM {ds:List Nat}{xs:List Dyadic}{p:Nat} (h:p<ar ds):co ds xs (cq ds p)=(xs[p]?).getD 0:=by
 rw [ES (kC ds p),pW h]
theorem QF {ds:List Nat}{xs ys:List Dyadic} (hx:xs.length=ar ds) (hy:ys.length=ar ds) (h:∀row,mh ds row→co ds xs row=co ds ys row):xs=ys:=by
 refine List.ext_getElem (by rw [hx,hy]) fun p h1 h2=> ?_;have h3:=h (cq ds p) (kC ds p);rw [CM VZ,CM VZ,Xz h1,Xz h2] at h3;exact h3
def DC:List Nat→List Nat→List Nat
 |a::l,b::m=>(a+b)::DC l m
 |_,_=>[]
def Ut:(List Nat→Dyadic)→List Nat→List Nat→Dyadic
 |F,r::rs,j::js=>if j≤r then Ut (fun t=>F ((r-j)::t)) rs js else 0
 |F,[],[]=>F []
 |_,_,_=>0
def Ah:List Nat→List Nat→Nat
 |m::ms,j::js=>bin m j*Ah ms js
 |_,_=>1
def UJ:List Nat→(List Nat→Dyadic)→List Nat→Dyadic
 |m::ms,F,r::rs=>sm (List.range (m+1)) fun j=>if j≤r then nD (bin m j)*UJ ms (fun t=>F ((r-j)::t)) rs else 0
 |_,F,row=>F row
def U2 (ds es:List Nat) (xs ys:List Dyadic):List (Nat×Dyadic):=
 (List.range (ar es)).flatMap fun k=>(List.range (ar ds)).map fun i=>(eu (DC ds es) (DC (cq ds i) (cq es k)),(xs[i]?).getD 0*(ys[k]?).getD 0)
def T8 (row:List Nat) (a:Nat):List Nat:=row.set a (row.getD a 0-1)
def lk (n:Nat):List NR:=(sk n).map fun k=>nR (nD k)
theorem IH (n:Nat):(lk n).length=n+1:=by simp [lk,tN]
theorem kE (h:k≤n):(lk n)[k]?=some (nR (nD (bin n k))):=by
 unfold lk;rw [Wg,yY h]
 rfl
theorem qQ (n k:Nat) (h:n≤127):Sz 128 (nD (bin n k)):=KC (Xi (sX n k) (Nat.pow_lt_pow_right V0 VZ))
theorem kR (n:Nat) (w:World) (hT:er w) (hn:n≤127):
  Calls Tryz.prog 78 #[.int .i64 n] w fun r w'=>∃A c',r=.returned (.slice A (n+1) c')∧w'.ownsRow w.heap.size 40 3 (.slice A (n+1) c') (n+1) (aA NR.cells (lk n))∧Below w.heap.size w w':=by
 have hh:=Hp.start w;refine aj (N:=39) (l:=[.int .i64 n]) Tryz.func78 rfl rfl (by simp) ?_;refine sr (aL (aa (sr ?_)));refine Cd ?_;intro w6 hh;refine mG ?_;intro b7 w7 hh;refine aL (aa (ah (sr (mI (mI (aa (aq ?_)))))));refine bz [3,4,5,9,10,11,12,13,14,15,16,17,18,19,20,21,22,23,24,25,26,27,28,29,30,31,32,33,34,35,36,37] 3 9
  (fun v3 v w'=>∃(i c3:Nat) (A:Option Addr),i≤n∧v=.int .i64 i∧v3=.slice A (i+1) c3∧Hp w [.row A (i+1) c3 40 3 (aA NR.cells (lk i))] w')
  (fun _ v _=>n-(intOf v).toNat) ?_ ?_
 ·exact ⟨0,_,_,V8 _,rfl,rfl,hh⟩
 ·clear hh;rintro ρ' v3 v w' ⟨i,c3,A,hi,rfl,rfl,hh⟩;by_cases hlt:i<n
  ·refine sr ?_;refine eb ?_;refine Cd ?_;intro w11 hh;refine mG ?_;intro b12 w12 hh;refine xi ?_;refine bz [4,5,13,14,15,16,17,18,19,20,21,22,23,24,25,26,27,28,29,30,31,32] 4 5
    (fun v4 v w'=>∃(k c4:Nat) (B:Option Addr),k≤i∧v=.int .i64 ((k+1:Nat):Int)∧v4=.slice B (k+1) c4∧Hp w [.row B (k+1) c4 40 3 (aA NR.cells ((lk (i+1)).take (k+1))),.row A (i+1) c3 40 3 (aA NR.cells (lk i))] w')
    (fun _ v _=>i+1-(intOf v).toNat) ?_ ?_
   ·refine ⟨0,_,_,V8 _,rfl,rfl, ?_⟩;rw [show (lk (i+1)).take (0+1)=[nR (nD 1)] by rw [ay (kE (V8 _)),tS];rfl];exact hh
   ·clear hh;rintro ρ2 v4 v w2 ⟨k,c4,B,hk,rfl,rfl,hh⟩;by_cases hlk:k<i
    ·have e1:=kE (n:=i) (k:=k) VZ;have e2:=kE (n:=i) (k:=k+1) VZ;have e3:=kE (n:=i+1) (k:=k+1) VZ;have z1:=qQ i k VZ;have z2:=qQ i (k+1) VZ;have hadd:=fun A cc w1 hT1 hS1=>iW A 2 cc [nR (nD (bin i k)),nR (nD (bin i (k+1)))] w1 hT1 hS1 (by simpa using ⟨z1.ok VZ,z2.ok VZ⟩) 128 (by simpa [cj] using ⟨z1,z2⟩) VZ;rw [show mv ([nR (nD (bin i k)),nR (nD (bin i (k+1)))].map NR.d)=nD (bin (i+1) (k+1)) by simp only [Wv,WV,cj,k8,bin,yW]] at hadd;obtain ⟨go,rfl⟩:=hh.bZ (i:=1) rfl VZ;refine ah (sr (mI (mL (aF ?_))));refine EB ?_;refine aN 13 [[(4,none)],[(3,none)],[(5,none)],[(21,some 2)],[(20,some 1),(22,some 3)],[(23,some 4)],[(3,none)],[(5,none)],[(25,some 6),(26,some 7)],[(27,some 8)],[(24,some 5),(28,some 9)],[(29,some 10)],[(30,some 11)]] [(12,31),(11,30),(10,29),(9,28),(8,27),(7,26),(6,25),(5,24),(4,23),(3,22),(2,21),(1,20),(0,19)] hh mixed V2 ?_;refine fD ?_;refine fD ?_;refine dn ?_;refine so ?_;refine Gn (k) ?_;refine qK [_,_,_] (fun _ hj=>hj.hp.iF (f:=NR.cells) (x:=nR (nD (bin i k))) (l:=lk i) (i:=1) rfl NR.len V0 e1) ?_;refine fD ?_
     refine dn ?_;refine Gn ((k+1)) ?_;refine qK [_,_,_] (fun _ hj=>hj.hp.iF (f:=NR.cells) (x:=nR (nD (bin i (k+1)))) (l:=lk i) (i:=1) rfl NR.len V0 e2) ?_;refine rh [_,_,_,_,_,_] ?_;refine aP (i:=11) (Is (.agg #[.bool (nR (nD (bin (i+1) (k+1)))).neg,.string (nR (nD (bin (i+1) (k+1)))).bk,.int .i64 (nR (nD (bin (i+1) (k+1)))).e])) Is.ext ?_ ?_
     ·intro ρ1 w1 hj hR;obtain ⟨A29,c29,h29,s29⟩:=hR.1;exact bf rfl (aQ au.out (aw h29 a8)) (hadd A29 c29 _ (hT.hp hj.hp) s29) (fun _ _ hq=>⟨_,hq.1,hq.2,rfl⟩)
     refine rh [_,_,_] ?_;refine aG ?_;intro f W hJ hV;have hb_8:=hJ.bl;obtain ⟨v31,v30,v29,v28,v27,v26,v25,v24,v23,v22,v21,v20,v19,_⟩:=hV;obtain ⟨A29,c29,e29,f29⟩:Rows _ _ _ (f 10) W:=v29;obtain ⟨A31,c31,e31,f31⟩:Rows _ _ _ (f 12) W:=v31;replace hh:=hJ.hp;refine aU (bg (ae e31 (ae v30 (ae e29 (ae v28 (ae v27 (ae v26 (ae v25 (ae v24 (ae v23 (ae v22 (ae v21 (ae v20 (ae v19 aT)))))))))))))) ?_;dsimp only [bI];clear e29 e31 hJ;refine cv hh (i:=0) rfl rfl rfl (f31) a9.out aJ.out rfl V0 (by first|rfl|exact dz _|exact cX _|exact bB _|exact bU NR.one _) VZ VZ V0 ?_;intro A32 c32 w32 hh;simp only [Wh] at hh;refine pQ ?_;refine bj (aI (az (ai ?_)));replace hh:=hh.sub (V7 _ (V7 _ Wx));refine ⟨⟨k+1,c32,A32,VZ,rfl,rfl, ?_⟩,by show i+1-(k+1+1)<i+1-(k+1);omega, ?_⟩
     ·rw [ay e3,bK];exact hh
     ·exact dF
    ·obtain rfl:k=i:=VZ;have e3:=kE (n:=k+1) (k:=k+1) (V9 _);refine ah (sr (mI (mL (aF ?_))));refine a0 (aa (cF (aZ (aC (aC (br (ai (ak (mL ?_)))))))));refine Cd ?_;intro w34 hh;refine mG ?_;intro b35 w35 hh;refine nj ?_;intro A36 c36 w36 hh;simp only [Wh,WI] at hh;replace hh:=hh.sub (WO _ _);refine lf ?_;refine bj (mI (az (ai ?_)));replace hh:=hh.sub (V7 _ (Wa _ Wx));refine ⟨⟨k+1,c36,A36,VZ,rfl,rfl, ?_⟩,by show n-(k+1)<n-k;omega, ?_⟩
     ·have e4:lk (k+1)=(lk (k+1)).take (k+1)++[nR (nD (bin (k+1) (k+1)))]:=by
       rw [←ay e3,Wc (by rw [IH];omega)]
      rw [e4,bK,tp];exact hh
     ·exact dF
  ·obtain rfl:i=n:=VZ;exact Rj
def zz (ds:List Nat):List Nat:=(List.range (ar ds.reverse)).map fun p=>Ah ds.reverse (cq ds.reverse p)
theorem JG (ds:List Nat) (d:Nat):zz (ds++[d])=(zz ds).flatMap fun x=>(sk d).map (x* ·):=by
 have hl:∀a∈zz ds,((sk d).map (a* ·)).length=d+1:=fun a _=>by rw [Wi,tN]
 refine XK fun p=> ?_;rw [o9 VZ _ _ _ hl];unfold zz;rw [Y8,List.reverse_singleton,List.singleton_append];by_cases hp:p<ar (d::ds.reverse)
 ·have hq:p/(d+1)<ar ds.reverse:=by rw [XH VZ,Wz];exact hp
  have hr:p % (d+1)≤d:=by have:=WB p (show 0<d+1 by omega);omega
  rw [Wg,W8 hp,Wg,W8 hq];simp only [Xx,X2,Wg,yY hr,cq,Ah,Wz]
 ·have hq:¬p/(d+1)<ar ds.reverse:=by rw [XH VZ,Wz];exact hp
  rw [WN (by simp;omega),WN (l:=List.map _ _) (by simp;omega)]
  rfl
theorem Et (ds:List Nat):(zz ds).length=ar ds:=by simp [zz,bM]
def xY (ds:List Nat):List NR:=(zz ds).map fun k=>nR (nD k)
theorem JN:∀(ds row:List Nat),(∀d∈ds,d≤127)→Ah ds row≤2^(127*ds.length)
 |[],_,_=>by show 1≤1;exact V9 _
 |d::ds,[],_=>by show 1≤_;exact WQ V0
 |d::ds,r::rs,h=>by
  have h1:bin d r≤2^127:=WK (sX d r) (WS V0 (h d Wj));have h2:=JN ds rs fun x hx=>h x (Wl _ hx);rw [Ah,WH,XC,X6,Wy];exact Yr h1 h2
theorem Qz (h:n≤2^m) (hk:m<k):Sz k (nD n):=KC (Xi h (Nat.pow_lt_pow_right V0 hk))
theorem TC {ds:List Nat}{x:Nat} (h:x∈zz ds) (h1:ds.length≤12) (h2:∀d∈ds,d≤127):Sz 1600 (nD x):=by
 obtain ⟨p,_,rfl⟩:=Wo.1 h;have h3:=JN ds.reverse (cq ds.reverse p) fun d hd=>h2 d (YX.1 hd);exact Qz h3 (by rw [WE];omega)
def Og (ds:List Nat) (d j:Nat):List Nat:=((zz ds).take j).flatMap fun x=>(sk d).map (x* ·)
theorem Ih {ds:List Nat}{d x:Nat} (h:(zz ds)[j]?=some x):Og ds d (j+1)=Og ds d j++(sk d).map (x* ·):=by
 unfold Og;rw [ay h,Yu,List.flatMap_singleton]
theorem mN (A:Option Addr) (n c:Nat) (ns:List Nat) (w:World) (hT:er w) (hS:Sl w A n 1 (a7 (bp ns))) (h12:ns.length≤12) (hlow:∀d∈ns,d≤127) (hmax:ar ns≤4096):
  Calls Tryz.prog 26 #[.slice A n c] w fun r w'=>∃B c',r=.returned (.slice B (ar ns) c')∧w'.ownsRow w.heap.size 40 3 (.slice B (ar ns) c') (ar ns) (aA NR.cells (xY ns))∧Below w.heap.size w w':=by
 have hh:=Hp.start w;have hln:ns.length=n:=by have:=hS.1;simpa [a7,bp] using this
 have hc:=ir ns 1 V0 V0 hlow;rw [XP,V5 hmax] at hc;have hc1:eR ((1:Nat):Int) (bp ns)=eR 1 (bp ns):=rfl;rw [hc1] at hc;have hpos:=cn ns;have hcnt:=fun w1 hS1=>ef A n c (bp ns) w1 hS1 VZ;rw [hc] at hcnt;refine aj (N:=52) (l:=[.slice A n c]) Tryz.func26 rfl rfl (by simp) ?_;refine wA ?_;refine bH (mB (gT (mL ?_)));refine aH rfl rfl ?_;refine bq hh (hcnt _ (hS.ext hh.below)) rfl ?_;intro w16 hh;refine gT ?_;refine ct ?_;refine dR ?_;refine uk ?_;refine Cd ?_;intro w19 hh;refine mG ?_;intro b20 w20 hh;refine sa ?_;refine bz [3,5,6,8,10,23,24,25,26,27,28,29,30,31,32,33,34,35,36,37,38,39,40,41,42,43,44,45,46,47,48,49,50] 3 23
  (fun v3 v w'=>∃(i c3:Nat) (B:Option Addr),i≤n∧v=.int .i64 i∧v3=.slice B (ar (ns.take i)) c3∧Hp w [.row B (ar (ns.take i)) c3 40 3 (aA NR.cells (xY (ns.take i)))] w')
  (fun _ v _=>n-(intOf v).toNat) ?_ ?_
 ·exact ⟨0,_,_,V8 _,rfl,rfl,hh⟩
 ·clear hh;rintro ρ' v3 v w' ⟨i,c3,B,hi,rfl,rfl,hh⟩;by_cases hlt:i<n
  ·obtain ⟨d,hd⟩:=al (l:=ns) (k:=i) VZ;have hgi:=bR (ez hd);have hd127:=hlow d (Wb hd);have htl:(ns.take i).length≤12:=by rw [Ww];omega
   have htw:∀d∈ns.take i,d≤127:=fun d hd=>hlow d (Yd hd);have hct:=gg ns (i+1);have hct2:=gg ns i;have hstep:ar (ns.take (i+1))=ar (ns.take i)*(d+1):=by rw [ay hd,dD];simp [ar]
   have hsnoc:xY (ns.take (i+1))=(Og (ns.take i) d (ar (ns.take i))).map fun k=>nR (nD k):=by
    unfold xY Og;rw [ay hd,JG,Wc (l:=zz (ns.take i)) (by rw [Et];exact V9 _)]
   generalize hds:ns.take i=ds at*;generalize hN:ar ds=N at*;obtain ⟨ad,rfl,hr⟩:=hS.at_ VZ;refine sr ?_;refine eb ?_;refine cA ?_;refine s9 ?_;refine aI (aa (sr (aL (aa (ah (sr (mL (aF (mI (aa (aq ?_)))))))))));replace hh:=hh.cx 40 3;refine bz [6,8,10,29,30,31,32,33,34,35,36,37,38,39,40,41,42,43,44,45,46,47,48] 6 29
    (fun v6 v w'=>∃(j c6:Nat) (C:Option Addr),j≤N∧v=.int .i64 j∧v6=.slice C (j*(d+1)) c6∧Hp w [.row C (j*(d+1)) c6 40 3 (aA NR.cells ((Og ds d j).map fun k=>nR (nD k))),.row B N c3 40 3 (aA NR.cells (xY ds))] w')
    (fun _ v _=>N-(intOf v).toNat) ?_ ?_
   ·refine ⟨0,0,none,V8 _,rfl, ?_, ?_⟩
    ·rw [YW];rfl
    ·rw [YW];exact hh
   ·clear hh;rintro ρ2 v6 v w2 ⟨j,c6,C,hj,rfl,rfl,hh⟩;by_cases hjN:j<N
    ·obtain ⟨x,hx⟩:=al (l:=zz ds) (k:=j) (by rw [Et];omega);have hx2:(xY ds)[j]?=some (nR (nD x)):=by unfold xY;rw [Wg,hx];rfl
     have zx:=TC (Wb hx) htl htw;have hj1:(j+1)*(d+1)≤N*(d+1):=Xr _ hjN;rw [Xs] at hj1;obtain ⟨go,rfl⟩:=hh.bZ (i:=1) rfl VZ;refine sr ?_;refine eb ?_;refine rL ?_;refine cz (vs:=[_,_,_]) aJ.out rfl (hh.iF (f:=NR.cells) (x:=nR (nD x)) (l:=xY ds) (i:=1) rfl NR.len V0 hx2) rfl V0 ?_;refine bJ hh ?_;intro b8 w8 hh;refine bL hh 0 [_,_,_] ?_;intro ws hh;replace hh:Hp _ (.blk _ _ [_,_,_] _::_) _:=hh;refine aa (sr (mI ?_));refine aE (kR d _ (hT.hp hh) hd127) au.out rfl V0 ?_;rintro e_ w34 ⟨A34,c34,rfl,hown_,hb_⟩;refine ⟨_,rfl, ?_⟩;replace hh:=hh.aO (x:=.row _ _ _ _ _ _) hb_ hown_;refine aF (mI (aa (aq ?_)));refine bz [6,10,36,37,38,39,40,41,42,43,44,45,46,47] 6 36
      (fun v6 v w'=>∃(k c6:Nat) (C:Option Addr),k≤d+1∧v=.int .i64 k∧v6=.slice C (j*(d+1)+k) c6∧Hp w [.row A34 (d+1) c34 40 3 (aA NR.cells (lk d)),.blk b8 40 [.bool (nR (nD x)).neg,.string (nR (nD x)).bk,.int .i64 (nR (nD x)).e] (0,0),.row C (j*(d+1)+k) c6 40 3 (aA NR.cells ((Og ds d j++((sk d).take k).map (x* ·)).map fun k=>nR (nD k))),.row (some ⟨go,0,none⟩) N c3 40 3 (aA NR.cells (xY ds))] w')
      (fun _ v _=>d+1-(intOf v).toNat) ?_ ?_
     ·refine ⟨0,c6,C,V8 _,rfl,rfl, ?_⟩;rw [XS,WV,WJ];exact hh
     ·clear hh;rintro ρ3 v6 v w3 ⟨k,c6,C,hk,rfl,rfl,hh⟩;by_cases hkd:k<d+1
      ·have hb1:=yY (n:=d) (k:=k) VZ;have hb2:=kE (n:=d) (k:=k) VZ;have zb:=qQ d k hd127;have hmul:=fun A cc w1 hT1 hS1=>fk A 2 cc [nR (nD x),nR (nD (bin d k))] w1 hT1 hS1 (by simpa using ⟨zx.ok VZ,zb.ok VZ⟩) 1600 (by simpa [cj] using ⟨zx,zb.mono VZ⟩) VZ VZ;rw [show ik ([nR (nD x),nR (nD (bin d k))].map NR.d)=nD (x*bin d k) by rw [JD];show 1*(nR (nD x)).d*(nR (nD (bin d k))).d=_;rw [cj,cj,Yt]] at hmul;obtain ⟨ga,rfl⟩:=hh.bZ (i:=0) rfl VZ;refine sr ?_;refine eb ?_;refine dq (k:=k) a9.out aJ.size rfl rfl VZ VZ V0 ?_;refine cz (vs:=[_,_,_]) aJ.out rfl (hh.iF (f:=NR.cells) (x:=nR (nD (bin d k))) (l:=lk d) (i:=0) rfl NR.len V0 hb2) rfl V0 ?_;refine bJ hh ?_;intro b10 w10 hh;refine bL hh 0 [_,_,_] ?_;intro ws hh;replace hh:Hp _ (.blk _ _ [_,_,_] _::_) _:=hh;refine aa (ak (mL ?_));refine bY hh 2 [_,_,_] ?_;refine bY hh 0 [_,_,_] ?_;refine xI ?_;intro b43 w43 hh;refine bq hh (hmul _ _ _ (hT.hp hh) (hh.aD (i:=0) rfl)) rfl ?_;intro w44 hh;refine mG ?_;intro b45 w45 hh
       refine cv hh (i:=5) rfl rfl rfl (hh.aD (i:=0) rfl) a9.out aJ.out rfl V0 (by first|rfl|exact dz _|exact cX _|exact bB _|exact bU NR.one _) VZ VZ V0 ?_;intro A46 c46 w46 hh;simp only [Wh,WI] at hh;replace hh:=hh.sub (WO _ _);refine lf ?_;refine bj (mI (az (ai ?_)));replace hh:=hh.sub (Wa _ (Wa _ (V7 _ (V7 _ (V7 _ (V7 _ Wx))))));refine ⟨⟨k+1,c46,A46,VZ,rfl,rfl, ?_⟩,by show d+1-(k+1)<d+1-k;omega, ?_⟩
       ·have e:(Og ds d j++((sk d).take (k+1)).map (x* ·)).map (fun k=>nR (nD k))=(Og ds d j++((sk d).take k).map (x* ·)).map (fun k=>nR (nD k))++[nR (nD (x*bin d k))]:=by rw [ay hb1];simp
        rw [e,bK];exact hh
       ·exact dF
      ·obtain rfl:k=d+1:=VZ;rw [Wc (by rw [tN];omega),←Ih hx] at hh;refine sr ?_;refine Al ?_;refine bj (mI (az (ai ?_)));replace hh:=hh.sub (Wa _ (Wa _ (V7 _ (V7 _ Wx))));refine ⟨⟨j+1,c6,C,VZ,rfl, ?_, ?_⟩,by show N-(j+1)<N-j;omega, ?_⟩
       ·rw [Xs];rfl
       ·rw [Xs];exact hh
       ·exact dF
    ·obtain rfl:j=N:=VZ;rw [←hsnoc,←hstep] at hh;rw [←hstep];refine sr ?_;refine a0 (aa (ah (cF (aZ (aC (aC (br (ai (ak (mL (aL (az (bF (ai (ak ?_)))))))))))))));refine bj (mI (az (ai ?_)));replace hh:=hh.sub (V7 _ (Wa _ Wx));refine ⟨⟨i+1,c6,C,VZ,rfl,rfl,hh⟩,by show n-(i+1)<n-i;omega, ?_⟩;exact dF
  ·obtain rfl:i=n:=VZ;rw [Wc VZ] at hh ⊢;exact Rj
def vz (d r:Nat) (t:Dyadic):Dyadic:=t^r*(1-t)^(d-r)
def Np:List Nat→List Nat→List Dyadic→Dyadic
 |d::ds,r::rs,t::ts=>vz d r t*Np ds rs ts
 |_,_,_=>1
def xV (ds:List Nat) (xs:List Dyadic) (ts:List Dyadic):Dyadic:=sm (List.range (ar ds)) fun p=>(xs[p]?).getD 0*Np ds (cq ds p) ts
def lB (d:Nat) (t:Dyadic) (m:Nat) (xs:List Dyadic):List Dyadic:=(List.range m).map fun q=>sm (List.range (d+1)) fun r=>(xs[r+(d+1)*q]?).getD 0*vz d r t
def oF:List Nat→List Dyadic→List Dyadic→List Dyadic
 |d::ds,t::ts,xs=>oF ds ts (lB d t (ar ds) xs)
 |_,_,xs=>xs
theorem rz (d:Nat) (t:Dyadic) (m:Nat) (xs:List Dyadic):(lB d t m xs).length=m:=by simp [lB]
theorem vT:∀(ds:List Nat) (ts xs:List Dyadic),ts.length=ds.length→xs.length=ar ds→oF ds ts xs=[xV ds xs ts]
 |[],[],xs,_,h=>by
  match xs,h with
  |[x],_=>
   show [x]=[x*1+0];congr 1;grind
 |d::ds,t::ts,xs,h1,h2=>by
  rw [oF,vT ds ts _ (by simpa using h1) (rz _ _ _ _)];unfold xV;rw [ML];congr 1;refine fB fun q hq=> ?_;have hq2:=Xn.1 hq;have:(lB d t (ar ds) xs)[q]?=some (sm (List.range (d+1)) fun r=>(xs[r+(d+1)*q]?).getD 0*vz d r t):=by
   unfold lB;rw [Wg,W8 hq2]
   rfl
  rw [this,Xj,←IB];refine fB fun r hr=> ?_;have hr2:=Xn.1 hr;rw [cq,XV,WU hr2,Xw _ _ VZ,Xa hr2,Ws,Np];grind
def sR:List Nat→(List Nat→Dyadic)→Dyadic
 |[],F=>F []
 |d::ds,F=>sm (List.range (d+1)) fun r=>sR ds fun row=>F (r::row)
def gR (ds:List Nat) (a:Nat) (M:Nat→Nat→Dyadic) (xs:List Dyadic):List Dyadic:=
 (List.range (ar ds)).map fun p=>sm (List.range (ds.getD a 0+1)) fun i=>co ds xs ((cq ds p).set a i)*M i ((cq ds p).getD a 0)
theorem oL (ds:List Nat) (a:Nat) (M:Nat→Nat→Dyadic) (xs:List Dyadic):(gR ds a M xs).length=ar ds:=by simp [gR]
theorem He {ds row:List Nat} (a:Nat) (M:Nat→Nat→Dyadic) (xs:List Dyadic) (h:mh ds row):co ds (gR ds a M xs) row=sm (List.range (ds.getD a 0+1)) fun i=>co ds xs (row.set a i)*M i (row.getD a 0):=by
 rw [ES h];unfold gR;rw [Wg,W8 (lX h)];simp only [Xx,Xj,kj h]
theorem Ej:∀{ds row:List Nat}{a i:Nat},mh ds row→i≤ds.getD a 0→mh ds (row.set a i)
 |[],[],_,_,_,_=>trivial
 |d::ds,r::rs,0,i,h,hi=>⟨hi,h.2⟩
 |d::ds,r::rs,a+1,i,h,hi=>⟨h.1,Ej (a:=a) h.2 (by simpa using hi)⟩
def Un (d:Nat) (s:Dyadic) (i k:Nat):Dyadic:=if k<i then 0 else nD (bin (d-i) (k-i))*s^i*(1-s)^(k-i)
def Ui (d:Nat) (s:Dyadic) (i k:Nat):Dyadic:=if i<k then 0 else nD (bin i (i-k))*s^(i-k)*(1-s)^(d-i)
theorem rJ:∀{A B x y:List Nat},x.length=A.length→eu (A++B) (x++y)=eu A x+ar A*eu B y
 |[],B,[],y,_=>by rw [Wd,Wd,ar,XP];show _=0+_;rw [Ws]
 |d::A,B,r::x,y,h=>by
  rw [Wf,Wf,eu,eu,ar,rJ (by simpa using h),W7,Xb,Y7]
theorem rF:∀(A B:List Nat) (p:Nat),cq (A++B) p=cq A p++cq B (p/ar A)
 |[],B,p=>by rw [Wd,ar,YG];rfl
 |d::A,B,p=>by rw [Wf,cq,cq,rF A B,ar,XG];rfl
theorem z5:∀(A:List Nat) (f q:Nat),cq A (f+ar A*q)=cq A f
 |[],_,_=>rfl
 |d::A,f,q=>by
  rw [cq,cq,ar,Xb,XV,Xw _ _ VZ,z5 A]
section
variable {A B:List Nat}{d:Nat}
def cI (A:List Nat) (d f k q:Nat):Nat:=f+ar A*(k+(d+1)*q)
theorem mu {f:Nat} (hf:f<ar A) (hk:k≤d) (hq:q<ar B):cI A d f k q<ar (A++d::B):=by
 rw [dD,ar,cI];have h1:k+(d+1)*q+1≤(d+1)*ar B:=by
  have:(d+1)*(q+1)≤(d+1)*ar B:=WM _ hq;rw [XC] at this;omega
 have h2:=WM (ar A) h1;rw [XC] at h2;omega
theorem rq {f:Nat} (hf:f<ar A) (hk:k≤d):cq (A++d::B) (cI A d f k q)=cq A f++k::cq B q:=by
 unfold cI;rw [rF,z5,Xw _ _ (cn A),Xa hf,Ws,cq,XV,WU VZ,Xw _ _ VZ,Xa VZ,Ws]
theorem tx {p:Nat} (h:p<ar (A++d::B)):∃f k q,f<ar A∧k≤d∧q<ar B∧p=cI A d f k q:=by
 rw [dD,ar] at h;have hA:=cn A;refine ⟨p % ar A,p/ar A % (d+1),p/ar A/(d+1),WB _ hA,by have:=WB (p/ar A) (show 0<d+1 by omega);omega, ?_, ?_⟩
 ·rw [XH VZ,XH hA,Wz,Wz (ar B)];exact h
 ·unfold cI;rw [YP,YP]
theorem AO (x y:List Nat) (k:Nat):(x++k::y).getD x.length 0=k:=by
 rw [Xl,Xt (V9 _),Xc]
 rfl
theorem Dh (x y:List Nat) (k i:Nat):(x++k::y).set x.length i=x++i::y:=by
 rw [Yf _ _ (V9 _),Xc,Wh]
def fg (A:List Nat) (d:Nat) (xs:List Dyadic) (f q:Nat):List Dyadic:=(List.range (d+1)).map fun i=>(xs[cI A d f i q]?).getD 0
theorem Ib {f:Nat} (M:Nat→Nat→Dyadic) (xs:List Dyadic) (hf:f<ar A) (hk:k≤d) (hq:q<ar B):
  (gR (A++d::B) A.length M xs)[cI A d f k q]?=some (sm (List.range (d+1)) fun i=>(xs[cI A d f i q]?).getD 0*M i k):=by
 have hp:=mu (B:=B) hf hk hq;unfold gR;rw [Wg,W8 hp];simp only [Xx];rw [rq hf hk,AO];have hl:=kd A f;rw [show ((cq A f++k::cq B q).getD A.length 0)=k by rw [←hl];exact AO _ _ _];congr 1;refine fB fun i hi=> ?_;have hi2:i≤d:=by have:=Xn.1 hi;omega
 rw [show (cq A f++k::cq B q).set A.length i=cq A f++i::cq B q by rw [←hl];exact Dh _ _ _ _,←rq (B:=B) hf hi2,CM (mu hf hi2 hq)]
end
def T9 (ns:List Nat):Bool:=ns.any (fun d=>decide (127<d))||decide (4096<ar ns)
theorem ED:∀{R:List Nat}{k d:Nat} (p:Nat),R[k]?=some d→(cq R p)[k]?=some (p/ar (R.take k) % (d+1))
 |[],_,_,_,h=>by simp at h
 |e::R,0,d,p,h=>by
  obtain rfl:e=d:=by simpa using h
  show some (p % (e+1))=_;rw [XS,ar,YG]
 |e::R,k+1,d,p,h=>by
  show (cq R (p/(e+1)))[k]?=_;rw [ED (p/(e+1)) (by simpa using h),Zr,ar,XG]
theorem Ly:∀{ds rs:List Nat}{k d r:Nat},mh ds rs→ds[k]?=some d→rs[k]?=some r→r≤d
 |[],_,_,_,_,_,h,_=>by simp at h
 |_::_,[],_,_,_,_,_,h=>by simp at h
 |d::ds,r::rs,0,_,_,h,h1,h2=>by
  simp only [YI,XN] at h1 h2;subst h1 h2;exact h.1
 |d::ds,r::rs,k+1,_,_,h,h1,h2=>Ly (k:=k) h.2 (by simpa using h1) (by simpa using h2)
def RU (a b:List Nat):List Nat:=List.zipWith (· + ·) a b
theorem LC (N:Nat):eI N [.bool false,.string (ByteArray.mk #[]),.int .i64 0]=aA NR.cells ((nW N []).map nR):=by
 rw [uE,List.map_replicate]
 induction N with
 |zero=>rfl
 |succ n ih=>rw [Yp,iS,←ih];rfl
def Vw (ds es:List Nat) (xs ys:List Dyadic) (k:Nat):List (Nat×Dyadic):=
 (List.range k).flatMap fun k=>(List.range (ar ds)).map fun i=>(eu (DC ds es) (DC (cq ds i) (cq es k)),(xs[i]?).getD 0*(ys[k]?).getD 0)
def SK (ns ms:List Nat) (xs ys:List Dyadic):List Dyadic:=nW (ar (RU ns ms)) (Vw ns.reverse ms.reverse xs ys (ar ms))
structure FX where
 A:Option Addr
 n:Nat
 a:Nat
 B:Option Addr
 m:Nat
 b:Nat
 ds:List Int
 cs:List NR
def FX.cells (f:FX):List Value:=[.slice f.A f.n f.a,.slice f.B f.m f.b]
def FX.v (f:FX):Value:=.agg #[.slice f.A f.n f.a,.slice f.B f.m f.b]
structure FX.at_ (f:FX) (w:World):Prop where
 dg:Sl w f.A f.n 1 (a7 f.ds)
 nm:Sl w f.B f.m 3 (aA NR.cells f.cs)
theorem FX.at_.ext {f:FX} (h:f.at_ w) (hb:Below w.heap.size w w'):f.at_ w':=⟨h.dg.ext hb,h.nm.ext hb⟩
structure FX.km (f:FX) (k:Nat):Prop where
 Qx:f.n≤1000
 Vu:f.m≤100000
 num:∀c∈f.cs,c.ok∧Sz k c.d
def FX.e (f:FX):Int:=fE f.ds f.cs
theorem sE (f:FX) (k:Nat) (w:World) (hT:er w) (h:f.at_ w) (hl:f.km k):
  Calls Tryz.prog 13 #[.agg #[.slice f.A f.n f.a,.slice f.B f.m f.b]] w fun r w'=>r=.returned (.int .i64 f.e)∧Below w.heap.size w w':=
 vK f.A f.B f.n f.a f.m f.b f.ds f.cs w hT h.dg h.nm (by have:=hl.Qx;omega) (by have:=hl.Vu;omega) fun a ha=>(hl.num a ha).1
def Uy (fs:List FX):Bool:=fs.any fun f=>decide (f.n≠(fs.map FX.n).headD 0)
def Gu (fs:List FX):Int:=match fs.find? (fun f=>decide (f.e≠0)) with|some f=>f.e|none=>if fs.length=0∨Uy fs=true then 1 else 0
set_option maxRecDepth 100000 in
theorem Ax {H:Type}{enc:TypeId×Value→H}{x:DataW H×List MemPlace} (h:DataW.trod enc Tryz.prog W base sp held fuel 33 cs=some x):
  ∃f:FX,cs=f.cells∧f.at_ W∧f.n≤f.a∧f.m≤f.b:=by
 have c0:Tryz.prog.cellsOf 33=2:=by kernel_rfl
 have c1:Tryz.prog.cellsOf 31=1:=by kernel_rfl
 have c2:Tryz.prog.cellsOf 27=1:=by kernel_rfl
 obtain ⟨y0,y1,n,_,hl,h0,h1⟩:=trod_struct2 Tryz.underlying33 h;obtain ⟨A,n,a,l,e0,s0,_⟩:=uj IC.len V0 Tryz.underlying31 V2 (fun _ _ _ h=>HI h) h0;rw [e0] at h0;have hroom:=xl Tryz.underlying31 h0;obtain ⟨B,m,b,k,e1,s1,_⟩:=uj NR.len V0 Tryz.underlying27 V2 (fun _ _ _ h=>Hb h) h1;rw [e1] at h1;have hroom2:=xl Tryz.underlying27 h1;rw [LQ] at s0;rw [c0] at hl
 match cs,hl with
 |[x0,x1],_=>
  simp only [c1,c2] at e0 e1;simp at e0 e1;subst e0 e1;exact ⟨⟨A,n,a,B,m,b,l,k⟩,rfl,⟨s0,s1⟩,hroom,hroom2⟩
set_option maxRecDepth 100000 in
theorem CO {H:Type}{enc:TypeId×Value→H}{r:Reach}{b0:Nat}{v:Value}{d:DataW H}{ps:List MemPlace}
  (hval:Value.okWide Tryz.prog W r b0 33 v) (hd:DataW.Trod enc Tryz.prog W base sp held 33 v d ps):∃f:FX,v=.agg #[.slice f.A f.n f.a,.slice f.B f.m f.b]∧f.at_ W∧f.n≤f.a:=by
 obtain ⟨cs,rfl,_⟩:=okWide_struct Tryz.underlying33 hval;obtain ⟨fuel,hf⟩:=hd;obtain ⟨f,h1,h2,h4,_⟩:=Ax hf;refine ⟨f, ?_,h2,h4⟩;have h3:cs.toList=f.cells:=h1;rw [←Array.toList_inj.1 (show cs.toList=(#[.slice f.A f.n f.a,.slice f.B f.m f.b]:Array Value).toList from h3)]
def su:List Dyadic→Dyadic→Dyadic
 |[],_=>0
 |c::cs,t=>c+t*su cs t
def TE:List Nat→List Dyadic→Dyadic
 |a::s,x::xs=>x^a*TE s xs
 |_,_=>1
theorem qU (n:Nat):(1:Dyadic)^n=1:=by
 induction n with
 |zero=>grind
 |succ n ih=>grind
def QZ (f:Dyadic→Dyadic):Prop:=∃l:List Dyadic,∀t,f t=su l t
def So:List Dyadic→List Dyadic→List Dyadic
 |[],b=>b
 |x::a,[]=>x::a
 |x::a,y::b=>(x+y)::So a b
def UF:List Dyadic→List Dyadic→List Dyadic
 |[],_=>[]
 |x::a,b=>So (b.map fun y=>x*y) (0::UF a b)
def D1 (F:Dyadic→Dyadic) (a b:Dyadic):Prop:=∃R,QZ R∧∀h,F h=a+h*b+h*h*R h
def eV (d:Nat) (a b:Dyadic) (i k:Nat):Dyadic:=if k<i then 0 else nD (bin (d-i) (k-i))*a^i*b^(k-i)
def iX (xs:List Dyadic) (i:Nat):Dyadic:=(xs[i]?).getD 0
def kK (d:Nat) (M:Nat→Nat→Dyadic) (xs:List Dyadic):List Dyadic:=(List.range (d+1)).map fun k=>sm (List.range (d+1)) fun i=>iX xs i*M i k
def iz (d:Nat) (a b:Dyadic) (xs:List Dyadic) (i j:Nat):List Dyadic:=(List.range (d+1)).map fun k=>sm (List.range i) (fun m=>iX xs m*eV d a b m k)+if i≤k∧k<i+j then iX xs i*eV d a b i k else 0
theorem ke (d:Nat) (a b:Dyadic) (xs:List Dyadic) (i j:Nat):(iz d a b xs i j).length=d+1:=by simp [iz]
theorem uC (d:Nat) (a b:Dyadic) (xs:List Dyadic):iz d a b xs 0 0=List.replicate (d+1) 0:=by
 unfold iz;refine List.eq_replicate_iff.2 ⟨by simp,fun x hx=> ?_⟩;obtain ⟨k,_,rfl⟩:=Wo.1 hx;rw [V6 VZ,Yx]
 rfl
theorem yA {d i:Nat}{a b:Dyadic}{xs:List Dyadic} (h:k≤d):(iz d a b xs i j)[k]?=some (sm (List.range i) (fun m=>iX xs m*eV d a b m k)+if i≤k∧k<i+j then iX xs i*eV d a b i k else 0):=by
 unfold iz;exact Li
theorem zA {d i:Nat}{a b:Dyadic}{xs:List Dyadic}{o:Dyadic} (h:i+j≤d) (ho:(iz d a b xs i j)[i+j]?=some o):(iz d a b xs i j).set (i+j) (o+iX xs i*eV d a b i (i+j))=iz d a b xs i (j+1):=by
 rw [yA h,V6 VZ,Yx] at ho;have ho:=WT ho;subst ho;refine XK fun k=> ?_;rw [XB,ke];by_cases hk:k≤d
 ·rw [yA hk,yA hk];by_cases e:i+j=k
  ·subst e;rw [V5 rfl,V5 VZ,V5 VZ]
  ·rw [V6 e];by_cases h2:i≤k∧k<i+j
   ·rw [V5 h2,V5 VZ]
   ·rw [V6 h2,V6 VZ]
 ·rw [V6 VZ,WN (by rw [ke];omega),WN (by rw [ke];omega)]
theorem G7 {d i:Nat}{a b:Dyadic}{xs:List Dyadic} (h:i≤d):iz d a b xs i (d-i+1)=iz d a b xs (i+1) 0:=by
 unfold iz;refine XW fun k hk=> ?_;have hk:=Xn.1 hk;rw [V6 (show ¬(i+1≤k∧k<i+1+0) by omega),Yx,YJ,nw];by_cases h2:i≤k
 ·rw [V5 VZ]
 ·rw [V6 VZ];unfold eV;rw [V5 (show k<i by omega),Dyadic.mul_zero]
theorem xd (d:Nat) (a b:Dyadic) (xs:List Dyadic):iz d a b xs (d+1) 0=kK d (eV d a b) xs:=by
 unfold iz kK;refine XW fun k _=> ?_;rw [V6 VZ,Yx]
theorem Sz.BK {a:Dyadic} (h:Sz q a) {i d:Nat} (hi:i≤d):Sz (1+q*d) (a^i):=(Sz.pow h i).mono (by have:=WM q hi;omega)
theorem y3 {d i:Nat}{a b:Dyadic} (ha:Sz q a) (hb:Sz q b) (hd:d≤127) (hk:k≤d):Sz (130+2*(q*d)) (eV d a b i k):=by
 unfold eV;split
 ·exact Sz.zero _
 ·refine (((qQ (d-i) (k-i) VZ).mul (ha.BK (show i≤d by omega))).mul (hb.BK (show k-i≤d by omega))).mono VZ
theorem yJ {xs:List Dyadic} (h:∀x∈xs,Sz k x) (i:Nat):Sz k (iX xs i):=by
 unfold iX
 cases hx:xs[i]? with
 |none=>exact Sz.zero _
 |some x=>exact h x (Wb hx)
theorem FY {d i K:Nat}{a b:Dyadic}{xs:List Dyadic} (hx:∀x∈xs,Sz K x) (ha:Sz q a) (hb:Sz q b) (hd:d≤127) (hi:i≤d+1):∀x∈iz d a b xs i j,Sz (K+130+2*(q*d)+130) x:=fun x hx2=>by
 obtain ⟨k,hk,rfl⟩:=Wo.1 hx2;have hk:=Xn.1 hk;have h1:∀m,Sz (K+(130+2*(q*d))) (iX xs m*eV d a b m k):=fun m=>(yJ hx m).mul (y3 ha hb hd VZ);have h2:=BW (l:=List.range i) (f:=fun m=>iX xs m*eV d a b m k) (k:=K+(130+2*(q*d))) fun m _=>h1 m;rw [Ye] at h2;refine (h2.add (y:=if i≤k∧k<i+j then iX xs i*eV d a b i k else 0) ?_).mono VZ;split
 ·exact (h1 i).mono VZ
 ·exact Sz.zero _
section
variable (A:List Nat) (d:Nat) (φ:List Dyadic→List Dyadic)
def Vh (X:List Dyadic) (q f i:Nat):List Dyadic:=(List.range X.length).map fun p=>
 if p/ar A/(d+1)=q∧(p % ar A<f∨p % ar A=f∧p/ar A % (d+1)<i) then iX (φ (fg A d X (p % ar A) q)) (p/ar A % (d+1)) else iX X p
def Vy (X:List Dyadic) (q:Nat):List Dyadic:=Vh A d φ X q (ar A) 0
end
section
variable {A:List Nat}{d:Nat}{φ:List Dyadic→List Dyadic}{X:List Dyadic}
theorem np {f:Nat} (hf:f<ar A) (hk:k≤d):cI A d f k q % ar A=f∧cI A d f k q/ar A % (d+1)=k∧cI A d f k q/ar A/(d+1)=q:=by
 unfold cI;have hA:=cn A;rw [XV,WU hf,Xw _ _ hA,Xa hf,Ws,XV,WU VZ,Xw _ _ VZ,Xa VZ,Ws];exact ⟨rfl,rfl,rfl⟩
theorem yu (p:Nat):cI A d (p % ar A) (p/ar A % (d+1)) (p/ar A/(d+1))=p:=by
 unfold cI;rw [YP,YP]
theorem Br {l:List Dyadic} (h:k<l.length):l[k]?=some (iX l k):=by
 unfold iX;rw [Xz h]
 rfl
def VY (A:List Nat) (d:Nat) (B:List Nat) (M:Nat→Nat→Dyadic) (xs:List Dyadic) (j:Nat):List Dyadic:=(List.range xs.length).map fun p=>if p/ar A/(d+1)<j then iX (gR (A++d::B) A.length M xs) p else iX xs p
end
variable {F:Nat}
section
variable (A:List Nat) (d L:Nat) (φ:List Dyadic→List Dyadic)
def kN (p:Nat):Nat:=cI A d (p % ar A) 0 (p/ar A/(d+1))
def iO (X:List Dyadic) (F i:Nat):List Dyadic:=(List.range X.length).map fun p=>
 if p/ar A % (d+1)<L∧(kN A d p<F∨kN A d p=F∧p/ar A % (d+1)<i) then iX (φ (fg A d X (p % ar A) (p/ar A/(d+1)))) (p/ar A % (d+1)) else iX X p
end
section
variable {A:List Nat}{d L:Nat}{φ:List Dyadic→List Dyadic}{X:List Dyadic}
theorem gN (F i:Nat):(iO A d L φ X F i).length=X.length:=by simp [iO]
theorem nF {i p:Nat} (h:p<X.length):(iO A d L φ X F i)[p]?=some (if p/ar A % (d+1)<L∧(kN A d p<F∨kN A d p=F∧p/ar A % (d+1)<i) then iX (φ (fg A d X (p % ar A) (p/ar A/(d+1)))) (p/ar A % (d+1)) else iX X p):=by
 unfold iO;rw [Wg,W8 h]
 rfl
theorem AM {i G:Nat} (h:∀p,p<X.length→p/ar A % (d+1)<L→((kN A d p<F∨kN A d p=F∧p/ar A % (d+1)<i)↔(kN A d p<G∨kN A d p=G∧p/ar A % (d+1)<j))):iO A d L φ X F i=iO A d L φ X G j:=by
 refine XK fun p=> ?_;by_cases hp:p<X.length
 ·rw [nF hp,nF hp];congr 1;by_cases hL:p/ar A % (d+1)<L
  ·by_cases h1:kN A d p<F∨kN A d p=F∧p/ar A % (d+1)<i
   ·rw [V5 ⟨hL,h1⟩,V5 ⟨hL,(h p hp hL).1 h1⟩]
   ·rw [V6 (fun h=>h1 h.2),V6 (fun h2=>h1 ((h p hp hL).2 h2.2))]
  ·rw [V6 (fun h=>hL h.1),V6 (fun h=>hL h.1)]
 ·rw [WN (by rw [gN];omega),WN (by rw [gN];omega)]
theorem H6:iO A d L φ X 0 0=X:=by
 refine XK fun p=> ?_;by_cases h:p<X.length
 ·rw [nF h,V6 VZ,Br h]
 ·rw [WN (by rw [gN];omega),WN VZ]
theorem DU {f:Nat} (hf:f<ar A):cI A d f 0 q % ar A=f∧cI A d f 0 q/ar A % (d+1)=0∧cI A d f 0 q/ar A/(d+1)=q:=np hf (V8 _)
theorem HV {f:Nat} (hf:f<ar A) (hk:k≤d):kN A d (cI A d f k q)=cI A d f 0 q:=by
 obtain ⟨h1,_,h3⟩:=np (q:=q) hf hk;unfold kN;rw [h1,h3]
theorem HD (h:F/ar A % (d+1)≠0):iO A d L φ X F 0=iO A d L φ X (F+1) 0:=AM fun p _ _=>by
 have hne:kN A d p≠F:=fun e=>by
  have:=(DU (d:=d) (q:=p/ar A/(d+1)) (WB p (cn A))).2.1;unfold kN at e;rw [e] at this;exact h this
 omega
theorem GB {i:Nat} (h:L≤i):iO A d L φ X F i=iO A d L φ X (F+1) 0:=AM fun p _ hL=>by omega
theorem Jb {f i:Nat} (hf:f<ar A) (hiL:i<L) (hi:i≤d):(iO A d L φ X (cI A d f 0 q) i).set (cI A d f i q) (iX (φ (fg A d X f q)) i)=iO A d L φ X (cI A d f 0 q) (i+1):=by
 obtain ⟨h1,h2,h3⟩:=np (q:=q) hf hi;refine XK fun p=> ?_;rw [XB,gN];by_cases hp:p<X.length
 ·rw [nF hp,nF hp];by_cases e:cI A d f i q=p
  ·subst e;rw [V5 rfl,V5 hp,h1,h2,h3,HV hf hi,V5 ⟨hiL,.inr ⟨rfl,Nat.lt_succ_self i⟩⟩]
  ·rw [V6 e];have hne:¬(kN A d p=cI A d f 0 q∧p/ar A % (d+1)=i):=fun ⟨a,b⟩=>by
    have e1:=DU (d:=d) (q:=p/ar A/(d+1)) (WB p (cn A));have e2:=DU (d:=d) (q:=q) hf;unfold kN at a;rw [a] at e1;have:=yu (A:=A) (d:=d) p;rw [b,←e1.1,←e1.2.2,e2.1,e2.2.2] at this;exact e this
   congr 1;by_cases hL:p/ar A % (d+1)<L∧(kN A d p<cI A d f 0 q∨kN A d p=cI A d f 0 q∧p/ar A % (d+1)<i)
   ·rw [V5 hL,V5 ⟨hL.1,VZ⟩]
   ·rw [V6 hL,V6 (fun h=>hL ⟨h.1,VZ⟩)]
 ·rw [WN (by rw [gN];omega)];by_cases e:cI A d f i q=p
  ·rw [V5 e,e,V6 hp,WN (by rw [gN];omega)]
  ·rw [V6 e,WN (by rw [gN];omega)]
theorem vS {B:List Nat}{p:Nat} (hX:X.length=ar (A++d::B)) (hp:p<X.length):(iO A d L φ X X.length 0)[p]?=some (if p/ar A % (d+1)<L then iX (φ (fg A d X (p % ar A) (p/ar A/(d+1)))) (p/ar A % (d+1)) else iX X p):=by
 rw [nF hp];have hlt:kN A d p<X.length:=by
  have h1:=yu (A:=A) (d:=d) p;have h2:kN A d p≤p:=by
   conv=>rhs;rw [←h1]
   unfold kN cI;have:=WM (ar A) (show 0+(d+1)*(p/ar A/(d+1))≤p/ar A % (d+1)+(d+1)*(p/ar A/(d+1)) by omega);omega
  omega
 congr 1;by_cases h:p/ar A % (d+1)<L
 ·rw [V5 ⟨h,.inl hlt⟩,V5 h]
 ·rw [V6 (fun h2=>h h2.1),V6 h]
theorem H9 {B:List Nat}{M:Nat→Nat→Dyadic} (hX:X.length=ar (A++d::B)):iO A d (d+1) (kK d M) X X.length 0=gR (A++d::B) A.length M X:=by
 refine XK fun p=> ?_;by_cases hp:p<X.length
 ·obtain ⟨f,k,q,hf,hk,hq,rfl⟩:=tx (A:=A) (d:=d) (B:=B) (by rw [←hX];exact hp);obtain ⟨h1,h2,h3⟩:=np (q:=q) hf hk;rw [vS hX hp,h1,h2,h3,V5 VZ];have e1:(kK d M (fg A d X f q))[k]?=some (sm (List.range (d+1)) fun i=>iX (fg A d X f q) i*M i k):=by
   unfold kK;exact Li
  rw [Ib M X hf hk hq];congr 1;show ((kK d M (fg A d X f q))[k]?).getD 0=_;rw [e1];refine fB fun i hi=> ?_;have hi:=Xn.1 hi;show ((fg A d X f q)[i]?).getD 0*_=_;unfold fg;rw [Wg,W8 hi]
  rfl
 ·rw [WN (by rw [gN];omega),WN (by rw [oL,←hX];omega)]
end
variable {M:List Nat}{R:Ending→World→Prop}{args:Array Operand}{assign body:Code}{ops:Array Oper}{pos:String}{vs:List Value}{ρ:Rf}
abbrev pe (D:Nat):Deferred:={ target:=.collected D,args:= #[] }
abbrev qe (M:List Nat):List HE:=M.map fun D=>.ob D (.deferred (some []))
theorem Ik {D:List Deferred}{a b:Act} (h:eA N D a ρ) (k:eA N D b ρ):a=b:=by
 obtain ⟨t,d⟩:=a;obtain ⟨t',d'⟩:=b;obtain ⟨h1,h2,h3⟩:=h;obtain ⟨k1,k2,k3⟩:=k;obtain rfl:d=d':=h1.trans k1.symm;congr 1;refine Array.ext (h2.trans k2.symm) fun i hi hi'=> ?_;have e1:=h3 i;have e2:=k3 i;rw [Xo,Yv hi] at e1;rw [Xo,Yv hi'] at e2;exact e1.trans e2.symm
abbrev Kd:=Exit→List Nat→Rf→World→Prop
structure WD (P:Program) (N:Nat) (c:Code) (Q:Kd) (ρ:Rf) (w:World):Prop where
 out:∀(M:List Nat) a,eA N (M.map pe) a ρ→∀n,c.wpIn Fence.wide n P (fun e a' w'=>∃M' ρ',eA N ((M'++M).map pe) a' ρ'∧Q e M' ρ' w') a w
def za (next:List Nat→Rf→World→Prop) (Q:Kd):Kd
 |.normal,M,ρ,w=>next M ρ w
 |e,M,ρ,w=>Q e M ρ w
def ug (M:List Nat) (Q:Kd):Kd:=fun e M2 ρ w=>Q e (M2++M) ρ w
def KU (id:Nat) (Q:Kd):Kd
 |.exit id',M,ρ,w=>if id'=id then Q .normal M ρ w else Q (.exit id') M ρ w
 |e,M,ρ,w=>Q e M ρ w
def KL (Q:Kd):Kq:=fun e ρ w=>Q e [] ρ w
section
variable {P:Program}{N:Nat}{Q:Kd}{ρ:Rf}{w:World}
theorem Gt {c:Code} (h:∀D,WC ⟨none,D,true⟩ P N c (KL Q) ρ w):WD P N c Q ρ w:=
 ⟨fun M a hf n=>wpIn_mono ((h (M.map pe)).jQ a hf n) fun e a' w' ⟨ρ',hf',hq⟩=>⟨[],ρ',hf',hq⟩⟩
theorem yU {x y:Code} (h:WD P N x (za (fun M ρ w=>WD P N y (ug M Q) ρ w) Q) ρ w):WD P N (.seq x y) Q ρ w:=
 ⟨fun M a hf n=>wpIn_seq (wpIn_mono (h.out M a hf n) fun e a' w' ⟨M',ρ',hf',hq⟩=>by
  cases e with
  |normal=>
   refine wpIn_mono ((hq:WD P N y (ug M' Q) ρ' w').out (M'++M) a' hf' n) fun e a2 w2 ⟨M2,ρ2,hf2,hq2⟩=> ?_;exact ⟨M2++M',ρ2,by rw [WY];exact hf2,hq2⟩
  |_=>exact ⟨M',ρ',hf',hq⟩)⟩
theorem jF {x y:Code} (h:∀D,WC ⟨none,D,true⟩ P N x (cG (fun ρ w=>WD P N y Q ρ w) (KL Q)) ρ w):WD P N (.seq x y) Q ρ w:=
 yU (Gt fun D=>(h D).mono fun e ρ w hq=>by
  cases e with
  |normal=>
   show WD P N y (ug [] Q) ρ w;have e0:ug [] Q=Q:=by funext e M ρ w;unfold ug;rw [WJ]
   rw [e0];exact hq
  |_=>exact hq)
theorem vn {id:Nat}{c:Code} (h:WD P N c (KU id Q) ρ w):WD P N (.block id c) Q ρ w:=
 ⟨fun M a hf n=>wpIn_block (wpIn_mono (h.out M a hf n) fun e a' w' ⟨M',ρ',hf',hq⟩=>by
  cases e with
  |exit id'=>
   by_cases hid:id'=id
   ·simp only [KU,hid,if_true] at hq;simp only [Exit.inBlock,hid,if_true];exact ⟨M',ρ',hf',hq⟩
   ·simp only [KU,hid,if_false] at hq;simp only [Exit.inBlock,hid,if_false];exact ⟨M',ρ',hf',hq⟩
  |_=>exact ⟨M',ρ',hf',hq⟩)⟩
theorem M6 {c:Code} (I:List Nat→Rf→World→Prop) (μ:Rf→World→Nat) (h0:I [] ρ w)
  (round:∀M ρ w,I M ρ w→WD P N c (fun e M2 ρ' w'=>za (fun M2 ρ' w'=>I M2 ρ' w'∧μ ρ' w'<μ ρ w) Q e (M2++M) ρ' w') ρ w):WD P N (.loop c) Q ρ w:=by
 refine ⟨fun M0 a hf n=> ?_⟩;refine wpIn_loop (fun a w=>∃M ρ,eA N ((M++M0).map pe) a ρ∧I M ρ w) (fun a w=>μ (fun i=>a.tmps.getD i undef) w) ⟨[],ρ,hf,h0⟩ ?_;rintro a w ⟨M,ρ,hf,hi⟩;refine wpIn_mono ((round M ρ w hi).out (M++M0) a hf n) ?_;rintro e a' w' ⟨M',ρ',hf',hq⟩;rw [←WY] at hf';have e1:(fun i=>a.tmps.getD i undef)=ρ:=funext hf.at_;have e2:(fun i=>a'.tmps.getD i undef)=ρ':=funext hf'.at_
 cases e with
 |normal=>exact ⟨⟨_,ρ',hf',hq.1⟩,by rw [e1,e2];exact hq.2⟩
 |_=>exact ⟨_,ρ',hf',hq⟩
def OO {α:Type} (Kp:World→World→Prop) (I:List α→World→Prop) (pre:List α) (x:α) (W:World):Kq
 |.normal,_,W'=>KeepsOthers W W'∧Kp W W'∧I (pre++[x]) W'
 |_,_,_=>False
def qo:Kq:=fun _ _ _=>False
theorem wu {ps:Tmp}{v:Value}{a:Array Value}:((#[ps]:Array Tmp).zip #[v]).foldl (fun t (p,v)=>t.setIfInBounds p v) a=a.setIfInBounds ps v:=by simp
theorem Kt {g:Operand}{p:Tmp}{gf:Nat}{lb:Array Value} (hp:p<N) (hg:ev ρ g=.func (.func gf) #[] lb) (eg:∀args w,(callFunc gf args).run P w=.ok (.enter gf args) w)
  {enc:α→Value}{Kp:World→World→Prop}{S:List α→Prop}{Nn:Nat} (hseq:∀n,SeqStopsK Fence.wide n P gf lb (fun x=> #[enc x]) Kp S (fun _=>True) Nn w)
  (hKt:∀{A B C:World},Kp A B→Kp B C→Kp A C) (hKb:∀(W:World) (l:Nat) (o o':Obj),w.heap.size≤l→W.heap[l]?=some o→o.isCells=false→o.isWalk=false→Kp W (W.putObj l o'))
  (I:List α→World→Prop) (hI:OwnFrom w.heap.size I) (h0:I [] w) (ρ1:α→Rf) (hρ:∀x i,N≤i→ρ1 x i=ρ i)
  (hassign:∀l x W,WC ⟨some l,[],true⟩ P N assign (cG (fun ρ' W'=>ρ'=ρ1 x∧W'=W) qo) (cH ρ p (enc x)) W)
  (hbody:∀l pre x W,I pre W→pre.length<Nn→WC ⟨some l,[],true⟩ P N body (OO Kp I pre x W) (ρ1 x) W)
  (hdone:∀(D:Nat) (xs:List α) (W:World),w.heap.size≤D→S xs→I xs W→W.heap[D]?=some (.deferred (some []))→Q .normal [D] ρ W):WD P N (.rangeFunc g #[p] assign body) Q ρ w:=by
 refine ⟨fun M a hf n=> ?_⟩;have hfit:∀x,eA N [] { tmps:=Array.ofFn fun i:Fin N=>ρ1 x i,defers:=[] } (ρ1 x):=fun x=>by
  refine ⟨rfl,by simp,fun i=> ?_⟩;rw [Xo];by_cases hi:i<N
  ·rw [Yv (by simpa using hi)];simp
  ·rw [YO (by simp;omega),hρ x i VZ,←hf.at_ i,Xo,YO (by rw [hf.sz];omega)]
 have main:(Code.rangeFunc g #[p] assign body).wpIn Fence.wide (n+1) P (fun e a' w'=>∃M' ρ',eA N ((M'++M).map pe) a' ρ'∧Q e M' ρ' w') a w:=by
  refine wpIn_rangeFunc_ownF (F:=Fence.wide) (n:=n+1) rfl VZ (gf:=gf) (lb:=lb) (by rw [hf.eval];exact hg) trivial eg (hseq _) hKt hKb (Below.refl _ _) (fun _=>rfl) I (fun _ _ _=>False) hI
   (fun _ _ _ _ _ hs _ _=>hs) h0 (fun x=>{ tmps:=Array.ofFn fun i:Fin N=>ρ1 x i,defers:=[] }) (fun l x W K hK=> ?_) (fun l pre x W hi hl=> ?_) (fun D xs W hD hS hi hW=> ?_) (fun _ _ _ _ _ _ h _=>h.elim)
  ·refine wpIn_mono ((hassign l x W).jQ _ ⟨rfl, ?_,fun i=> ?_⟩ _) fun e a' w' ⟨ρ',hf',hq⟩=> ?_
   ·rw [wu];simp [hf.sz]
   ·rw [wu,←(hf.put hp (enc x)).at_ i]
    rfl
   ·cases e with
    |normal=>
     obtain ⟨rfl,rfl⟩:=hq;rw [Ik hf' (hfit x)];exact hK
    |_=>exact hq.elim
  ·refine wpIn_mono ((hbody l pre x W hi hl).jQ _ (hfit x) _) fun e a' w' ⟨ρ',hf',hq⟩=> ?_
   cases e with
   |normal=>exact hq
   |_=>exact hq.elim
  ·exact ⟨[D],ρ,⟨by rw [hf.nd];rfl,hf.sz,hf.at_⟩,hdone D xs W hD hS hi hW⟩
 intro b k cs hro hb _;exact main b k cs hro hb (room_wide _)
end
def S4 (P:Program) (fn:Func) (R:Ending→World→Prop):Kd:=fun e M ρ w=>
 (e=.normal∨e=.ret)∧∀tmps:Array Value,(∀i,tmps.getD i undef=ρ i)→∀n,LeavesInM Fence.wide n P fn tmps R (M.map pe) .returning w
theorem GK {f:FuncId}{fn:Func}{c:Code}{l:List Value}
  (hf:P.funcs[f]?=some fn) (hb:fn.body=some c) (hn:fn.ntmps=N) (ha:l.length≤N)
  (h:WD P N c (S4 P fn R) (FQ l) w):Calls P f l.toArray w R:=by
 refine (callsIn_wide (n:=0)).1 (callsIn_of_wp_marks hf hb trivial ?_ rfl);refine wpIn_mono (h.out [] _ ⟨rfl,by simp [hn];omega,fun i=> ?_⟩ 0) ?_
 ·exact Rl
 ·rintro e a w' ⟨M,ρ',hf',he,hl⟩;rw [WJ] at hf'
  rcases he with rfl|rfl
  ·show LeavesInM _ _ _ _ a.tmps _ a.defers _ _;rw [hf'.nd];exact hl _ hf'.at_ 0
  ·show LeavesInM _ _ _ _ a.tmps _ a.defers _ _;rw [hf'.nd];exact hl _ hf'.at_ 0
theorem CA {f:FuncId}{fn:Func}{c:Code}{l:List Value}
  (hf:P.funcs[f]?=some fn) (hb:fn.body=some c) (hn:fn.ntmps=N) (ha:l.length≤N)
  (h:WC ⟨none,[],true⟩ P N c (m7 P fn R) (FQ l) w):Calls P f l.toArray w R:=by
 refine (callsIn_wide (n:=0)).1 (callsIn_of_wp hf hb trivial ?_ rfl);refine wpIn_mono (h.jQ _ ⟨rfl,by simp [hn];omega,fun i=> ?_⟩ 0) ?_
 ·exact Rl
 ·rintro e a w' ⟨ρ',hf',he,v,hr,hR⟩
  rcases he with rfl|rfl
  ·exact ⟨hf'.nd,v,hr _ hf'.at_,hR⟩
  ·exact ⟨hf'.nd,v,hr _ hf'.at_,hR⟩
def HE.Sg:HE→Bool
 |.ob _ _=>false
 |_=>true
theorem uo {x:HE} (h:x.holds base w) (hc:x.Sg=true) (hid:x.id=some b):∃o,w.heap[b]?=some o∧o.isCells=true:=by
 cases x with
 |blk b' t cs fz=>
  obtain rfl:b'=b:=WT hid;exact ⟨_,h.2.1,rfl⟩
 |row A n c t sz xs=>
  rcases h.2 with ⟨h1,_⟩|⟨g,cap,cur,h1,_,h3,_⟩
  ·injection h1 with e1
   subst e1
   cases hid
  ·injection h1 with e1
   subst e1;obtain rfl:g=b:=WT hid;exact ⟨_,h3,rfl⟩
 |ob _ _=>cases hc
theorem Hp.R6 {H:List HE} (h:Hp w0 H w) (hc:∀x∈H,x.Sg=true) {row:Option Nat} (hg:w.grownBy w' row) (hr:∀r,row=some r→w0.heap.size≤r∧∃o:Obj,w.heap[r]?=some o∧o.isCells=false):Hp w0 H w':=by
 refine ⟨⟨hg.os.trans h.below.os,hg.tape.trans h.below.tape,hg.output.trans h.below.output,WK h.size hg.size,fun k hk=> ?_⟩,fun x hx=> ?_,h.nd⟩
 ·refine (hg.block k (Xe hk h.size) fun e=> ?_).trans (h.below.block k hk);have:=(hr k e.symm).1;omega
 ·refine pb (h.own x hx) fun b hid=>hg.block b (ea (h.own x hx) hid).2 fun e=> ?_;obtain ⟨o,h1,h2⟩:=uo (h.own x hx) (hc x hx) hid;obtain ⟨_,o',h3,h4⟩:=hr b e.symm;rw [h1] at h3
  cases h3
  rw [h2] at h4
  cases h4
def MO (base:Nat) (ids:List Nat) (w:World) (k:Nat):Option HE:=if base≤k∧ids.contains k=false then (w.heap[k]?).map fun o=>.ob k o else none
def Cl (base:Nat) (ids:List Nat) (w:World):List HE:=(List.range w.heap.size).filterMap (MO base ids w)
theorem sy {ids:List Nat}{x:HE} (h:MO base ids w k=some x):∃o,x=.ob k o∧base≤k∧k∉ids∧w.heap[k]?=some o:=by
 unfold MO at h;split at h
 ·rename_i h1;obtain ⟨o,h2,h3⟩:=Ym.1 h;exact ⟨o,h3.symm,h1.1,by simpa using h1.2,h2⟩
 ·cases h
theorem Hp.Md {H:List HE} (h:Hp w0 H w):Hp w0 (H++Cl w0.heap.size (H.filterMap HE.id) w) w:=by
 refine ⟨h.below,fun x hx=> ?_, ?_⟩
 ·rcases W3.1 hx with hx|hx
  ·exact h.own x hx
  ·obtain ⟨k,_,hk⟩:=Xp.1 hx;obtain ⟨o,rfl,h1,_,h3⟩:=sy hk;exact ⟨h1,h3⟩
 ·rw [Yz];refine Zc.2 ⟨h.nd, ?_,fun a ha b hb e=> ?_⟩
  ·unfold Cl;rw [List.filterMap_filterMap];refine List.Pairwise.filterMap _ (fun a a' hne b hb b' hb' e=> ?_) List.nodup_range;obtain ⟨x,hx,hx2⟩:=Option.bind_eq_some_iff.1 hb;obtain ⟨y,hy,hy2⟩:=Option.bind_eq_some_iff.1 hb';obtain ⟨o,rfl,_⟩:=sy hx;obtain ⟨o',rfl,_⟩:=sy hy;obtain rfl:a=b:=WT hx2;obtain rfl:a'=b':=WT hy2;exact hne e
  ·obtain ⟨x,hx,hx2⟩:=Xp.1 hb;obtain ⟨k,_,hk⟩:=Xp.1 hx;obtain ⟨o,rfl,_,h2,_⟩:=sy hk;obtain rfl:k=b:=WT hx2;exact h2 (e ▸ ha)
theorem pB {P:Program}{fn:Func}{tmps:Array Value}{R:Ending→World→Prop}{n:Nat}{w0:World}{H:List HE}:∀(M:List Nat) (w:World),Hp w0 (qe M++H) w→(∀w2,Hp w0 H w2→∃v,(results fn tmps).run P w2=.ok v w2∧R (.returned v) w2)→
  LeavesInM Fence.wide n P fn tmps R (M.map pe) .returning w
 |[],w,hh,h=>h w hh
 |D::M,w,hh,h=>by
  have hD:w.heap[D]?=some (.deferred (some [])):=(hh.own _ Wj).2;refine ⟨by simp,.inl ⟨D,w.putObj D (.deferred none),rfl,run_takeDeferred hD,pB M _ ?_ h⟩⟩;have hb:=(hh.own _ Wj).1;have h2:=hh.Mb (i:=0) (x:=.ob D (.deferred (some []))) (y:=.ob D (.deferred none)) (w':=w.putObj D (.deferred none)) rfl (fun b e=>.inl e) ?_ (fun b hlt hne=>World.putObj_heap_other (fun e=>hne (by rw [e];rfl))) ⟨hb, ?_⟩
  ·exact h2.sub (WO _ _)
  ·have hg:=grownBy_putObj' w D (.deferred none);refine ⟨hg.os.trans hh.below.os,hg.tape.trans hh.below.tape,hg.output.trans hh.below.output,WK hh.size hg.size,fun k hk=>(hg.block k (Xe hk hh.size) fun e=> ?_).trans (hh.below.block k hk)⟩
   cases e
   omega
  ·exact World.putObj_heap_same (YY.1 hD).1
theorem qZ {fn:Func}{e:Exit}{H:List HE}{rs:List ResultVar} (hh:Hp w0 (qe M++H) w) (he:e=.normal∨e=.ret) (hr:fn.results=rs.toArray)
  (h:∀w2,Hp w0 H w2→gY P ρ w2 rs vs∧R (.returned (vZ vs)) w2):S4 P fn R e M ρ w:=by
 refine ⟨he,fun tmps ht n=>pB M w hh fun w2 hh2=> ?_⟩;obtain ⟨h1,h2⟩:=h w2 hh2;obtain ⟨_,v,h3,h4⟩:=kJ (e:=e) he hr h1 h2;exact ⟨v,h3 tmps ht,h4⟩
theorem M9 {d:Option Nat}{ty:TypeId}{af:Array Edge}{g:Option (Nat×Bool)}{x:Operand}{ts:Array TypeId}{l:Nat}{fn:FuncId}{tmps:Array Value}
  (hx:ev ρ x=.func (.yield l) #[] #[]) (ha:wR ρ args.toList=vs) (hy:(Instr.yield l vs.toArray).run P w=.ok (.round l fn tmps assign body) w):(execOp (ev ρ) ⟨d,.call ⟨.value x,args,ts⟩,ty,pos,af,g⟩).run P w=.ok (.round l fn tmps assign body) w:=by
 have h2:args.map (ev ρ)=vs.toArray:=nq args ha;simp [execOp,resolve,Deferred.ofValue,hx,h2,invoke,callFunc,program,Sem.run,hy]
theorem Kr {Q:Kq}{rest:List Oper}{d:Nat}{ty:TypeId}{af:Array Edge}{x:Operand}{ts:Array TypeId}{l:Nat}
  (hx:ev ρ x=.func (.yield l) #[] #[]) (ha:wR ρ args.toList=vs) (hy:YieldAt Fence.wide m P l vs.toArray w R) (hN:d<N) (kk:∀e w',R e w'→∃v,e=.returned v∧WL ⟨none,[],true⟩ P N ops Q rest (cH ρ d v) w'):
  WL ⟨none,[],true⟩ P N ops Q (⟨some d,.call ⟨.value x,args,ts⟩,ty,pos,af,none⟩::rest) ρ w:=by
 obtain ⟨fn,tmps,as_,bd,h1,h2⟩:=hy;refine ⟨fun h=>(by cases h),fun a hf n=>wpListIn_plain rfl fun K hK=>⟨fun _ _=>trivial, ?_⟩⟩;rw [hf.eval,kU _ (M9 hx ha h1) (fun _ h=>by cases h)];refine ⟨fun h=>(by cases h), ?_⟩;refine ⟨trivial,fun c cs _=> ?_⟩;obtain ⟨e,w',hR,hs⟩:=h2.2 c cs (room_wide _);refine ⟨e,w', ?_,hs⟩;obtain ⟨v,rfl,hk⟩:=kk e w' hR;exact hK _ _ (hk.jQ _ (hf.put hN v) n)
variable {W':World}{ad:Addr}
theorem Ia {d:Option Nat}{ty:TypeId}{af:Array Edge}{g:Option (Nat×Bool)}{t e:TypeId}{x lo hi mx:Operand}{l h sz:Nat}{k1 k2 k3:IntKind}{m1 m2 m3:Int}
  (ht:P.underlying t=some (.slice e)) (hsz:(P.info? e).map (·.size)=some sz) (hx:ev ρ x=.slice (some ad) n c) (hlo:ev ρ lo=.int k1 m1) (hhi:ev ρ hi=.int k2 m2) (hmx:ev ρ mx=.int k3 m3) (e1:m1=(l:Int)) (e2:m2=(h:Int)) (e3:m3=(q:Int))
  (h1:l≤h) (h2:h≤q) (h3:q≤c) (h4:l<q):(execOp (ev ρ) ⟨d,.slice t x (some lo) (some hi) (some mx),ty,pos,af,g⟩).run P w=.ok (.value (.slice (some (ad.add (l*sz))) (h-l) (q-l))) w:=by
 obtain ⟨i,hi1,hi2⟩:=Ym.1 hsz;subst e1 e2 e3 hi2;have a1:(l:Int)≤h:=VZ;have a2:(h:Int)≤q:=VZ;have a3:(q:Int)≤c:=VZ;have a4:¬q=l:=VZ;have a5:¬q-l=0:=VZ;simp [execOp,hx,Instr.sliceAt,Instr.slice,run_underlying ht,Instr.sliceBounds,Instr.sliceBound,asIntOf,hlo,hhi,hmx,h1,h2,h3,a4,a5,sizeOf,typeInfo,hi1]
theorem Cb (A:Option Addr) (n c K:Nat) (w:World) (hK:1≤K):
  Calls Tryz.prog 52 #[.slice A n c,.int .i64 K] w fun r w'=>∃b2 b3,r=.returned (.func (.func 108) #[] #[.pointer (some ⟨b2,0,none⟩),.pointer (some ⟨b3,0,none⟩)])∧Hp w [.blk b3 3 [.int .i64 K] (0,0),.blk b2 27 [.slice A n c] (0,0)] w':=by
 have hh:=Hp.start w;refine aj (N:=9) (l:=[.slice A n c,.int .i64 K]) Tryz.func52 rfl rfl (by simp) ?_;refine sr ?_;refine bV hh [_] ?_;intro b2 w2 hh;refine bV hh [_] ?_;intro b3 w3 hh;refine ki (by first|exact sP rfl|exact sH rfl) V0 ?_;refine aa (ah (sr ?_));refine bA hh 0 ?_;refine a0 (aa (cF (ao (ai (sr ?_)))));exact TQ
def zI (b2 b3:Nat) (W W':World):Prop:=W'.cell? ⟨b2,0,none⟩=W.cell? ⟨b2,0,none⟩∧W'.cell? ⟨b3,0,none⟩=W.cell? ⟨b3,0,none⟩
theorem tR (h:Below W.heap.size W W'):W.grownBy W' none:=⟨h.os,h.tape,h.output,h.size,fun k hk _=>h.block k hk⟩
theorem MT {b2 b3:Nat}{A B C:World} (h:zI b2 b3 A B) (k:zI b2 b3 B C):zI b2 b3 A C:=⟨k.1.trans h.1,k.2.trans h.2⟩
theorem Nb {b2 b3:Nat} (h2:b2<w.heap.size) (h3:b3<w.heap.size) (W:World) (l:Nat) (o o':Obj) (hl:w.heap.size≤l):zI b2 b3 W (W.putObj l o'):=
 ⟨World.cell?_of_block (World.putObj_heap_other (fun e=>by simp at e;omega)),World.cell?_of_block (World.putObj_heap_other (fun e=>by simp at e;omega))⟩
theorem HX (b2 b3:Nat) (ad:Addr) (n c K m:Nat) (w:World) (h2:w.cell? ⟨b2,0,none⟩=some (.slice (some ad) n c)) (h3:w.cell? ⟨b3,0,none⟩=some (.int .i64 K)) (hn:n=m*K) (hK:0<K) (hc:n≤c) (hb:n≤1000000) (hKb:K≤1000000):
  ∀N1,SeqStopsK Fence.wide N1 Tryz.prog 108 #[.pointer (some ⟨b2,0,none⟩),.pointer (some ⟨b3,0,none⟩)] (fun j:Fin m=> #[.slice (some (ad.add (j.val*K*3))) K K]) (zI b2 b3) (fun xs=>xs=List.finRange m) (fun _=>True) m w:=by
 intro N1 l J Jx W hW hAb hAbx hY h0;refine callsIn_wide.2 ?_;show Calls _ _ #[.func (.yield l) #[] #[],.pointer (some ⟨b2,0,none⟩),.pointer (some ⟨b3,0,none⟩)] W _;have hAbd:∀xs W1 W2,J xs W1→Below W1.heap.size W1 W2→J xs W2:=fun xs W1 W2 h hb=>hAb xs W1 W2 none h (tR hb) (fun r e=>nomatch e);have c2:=cO hW h2;have c3:=cO hW h3;refine CA (N:=31) (l:=[.func (.yield l) #[] #[],.pointer (some ⟨b2,0,none⟩),.pointer (some ⟨b3,0,none⟩)]) Tryz.func108 rfl rfl (by simp) ?_;refine sr (aI (aa (aq ?_)));refine aW [4,5,6,7,8,9,10,11,12,13,14,15,16,17,18,19,20,21,22,23,24,25,26,27,28,29,30] 4
  (fun v w'=>∃j:Nat,j≤m∧v=.int .i64 ((j*K:Nat):Int)∧J ((List.finRange m).take j) w'∧w'.cell? ⟨b2,0,none⟩=some (.slice (some ad) n c)∧w'.cell? ⟨b3,0,none⟩=some (.int .i64 K))
  (fun v _=>n+1-(intOf v).toNat) ?_ ?_
 ·exact ⟨0,V8 _,by rw [YW];rfl,h0,c2,c3⟩
 ·clear c2 c3 h0;rintro ρ' v w' ⟨j,hj,rfl,hJj,c2,c3⟩;have hh:=Hp.start w';by_cases hlt:j<m
  ·have h5:(j+1)*K≤m*K:=Xr _ hlt;have h6:(j+1)*K=j*K+K:=Xs j K;refine ah (sr (mI ?_));refine bX aJ.out rfl (c2) V0 ?_;refine aF ?_;refine oH ?_;refine R8 ?_;refine aN 5 [[(2,none)],[(1,none)],[(4,none)],[(14,some 1),(15,some 2)],[(16,some 3)]] [(4,17),(3,16),(2,15),(1,14),(0,13)] hh mixed V2 ?_;refine uF (fun _ hj=>cO hj.bl c3) ?_;refine uF (fun _ hj=>cO hj.bl c2) ?_;refine dn ?_;refine a6 (i:=3) (fun ρ1 w1 hj hR=>gK (l:=(j*K)) a9.out aJ.size (show ρ1 14=Value.slice _ _ _ from hR.1) (show ρ1 15=Value.int _ _ from hR.2.1) VZ VZ VZ) ?_;refine C9 ?_;refine aG ?_;intro f W hJ hV;have hb_3:=hJ.bl;obtain ⟨v17,v16,v15,v14,v13,_⟩:=hV;replace hh:=hJ.hp;refine aU (bg (ae v17 (ae v16 (ae v15 (ae v14 (ae v13 aT)))))) ?_;dsimp only [bI];clear hJ;have hmin:(if ((n-j*K:Nat):Int)<(K:Int) then ((n-j*K:Nat):Int) else (K:Int))=(K:Int):=V6 VZ;refine vY rfl rfl V0 ?_;rw [hmin];have c2':=cO hh.below c2;have c3':=cO hh.below c3;have hJ2:=hAbd _ _ _ hJj hh.below
   have hfr:(List.finRange m)[j]?=some ⟨j,hlt⟩:=by rw [Xz (by rw [Y9];exact hlt),List.getElem_finRange];rfl
   have hy:=hY ((List.finRange m).take j) ⟨j,hlt⟩ _ hJ2 (by rw [Ww,Y9];omega);refine aI (aa (sr ?_));refine iJ ?_;refine bX aJ.out rfl (c2') V0 ?_;refine mI (mI (mI ?_));refine bj (mI (mI ?_));refine bj ?_;refine aR rfl rfl V0 (Ia a9.out aJ.size (En rfl) rfl rfl rfl (l:=j*K) (h:=j*K+K) (q:=j*K+K) rfl VZ VZ VZ VZ VZ VZ) ?_;have e28:j*K+K-j*K=K:=VZ;rw [e28];refine Kr rfl (aw (En rfl) a8) hy V0 ?_;rintro e_ w29 (⟨rfl,hJ3,hk⟩|⟨rfl,hJx⟩)
   ·refine ⟨_,rfl, ?_⟩;have c2'':=hk.1.trans c2';have c3'':=hk.2.trans c3';refine gj ?_;refine pH ?_;refine bX aJ.out rfl (c3'') V0 ?_;refine bj (aI (az (ai ?_)));refine ⟨⟨j+1,hlt, ?_,by rw [ay hfr];exact hJ3,c2'',c3''⟩, ?_, ?_⟩
    ·show Value.int _ (((j*K:Nat):Int)+(K:Int))=_;rw [h6]
     rfl
    ·show n+1-(((j*K:Nat):Int)+(K:Int)).toNat<n+1-((j*K:Nat):Int).toNat;omega
    ·exact dF
   ·refine ⟨_,rfl, ?_⟩;refine gj ?_;refine aa (cT (av (cm (aK (aK (cm ?_))))));refine Rn (by first|exact .inr rfl|exact .inl rfl) rfl ?_;exact ⟨⟨_,rfl⟩,.inr ⟨_,trivial,hJx⟩⟩
  ·obtain rfl:j=m:=VZ;refine ah (sr (mI ?_));refine bX aJ.out rfl (c2) V0 ?_;refine aF ?_;refine a0 (aa (cF (aZ (aC (aC (br ?_))))));refine Rn (by first|exact .inr rfl|exact .inl rfl) rfl ?_;rw [Wc (by rw [Y9];omega)] at hJj;exact ⟨⟨_,rfl⟩,.inl ⟨_,rfl,hJj⟩⟩
theorem nu (N:Nat):eI N [.bool false,.string (ByteArray.mk #[]),.int .i64 0]=aA NR.cells ((List.replicate N (0:Dyadic)).map nR):=by
 rw [LC,uE]
theorem Sz.bk {x:Dyadic} (h:Sz k x):(nR x).bk.size≤k+1:=by have:=h.nr.1;omega
structure Ol (q:Nat) (s:NR) (x:Dyadic):Prop where
 ok:s.ok
 bk:s.bk.size≤2001
 d:s.d=x
 sz:Sz q x
theorem Ol.of {x:Dyadic} (h:Sz q x) (hq:q≤2000):Ol q (nR x) x:=⟨h.ok VZ,by have:=h.bk;omega,cj x,h⟩
def U8 (l:List Dyadic) (i:Nat):List Dyadic:=(List.range l.length).map fun k=>if k<i∨l.length≤k+i then iX l (l.length-1-k) else iX l k
def Uk (p:Int×Int):Bool:=decide (p.2<p.1∨127<p.2)
def VG (ds es:List Int):Int:=if es.length≠ds.length then 1 else if (ds.zip es).any Uk=true then 1 else if 4096<ar (es.map Int.toNat) then 3 else 0
def RY (a b:List Nat):List Nat:=List.zipWith (· - ·) a b
def QW (ns ts:List Nat) (xs:List Dyadic):List Dyadic:=SK ns (RY ts ns) xs ((zz (RY ts ns)).map nD)
theorem we:∀{a b:List Nat},a.length=b.length→(∀(i x y:Nat),a[i]?=some x→b[i]?=some y→x≤y)→ar a≤ar b
 |[],[],_,_=>V9 _
 |[],_::_,h,_=>by simp at h
 |_::_,[],h,_=>by simp at h
 |x::a,y::b,h,h2=>by
  have h0:=h2 0 x y rfl rfl;rw [ar,ar];exact Yr VZ (we (by simpa using h) fun i p q hp hq=>h2 (i+1) p q hp hq)
def VM (es ds:List Int):List Int:=List.zipWith (· - ·) es ds
theorem wm (ts:List Nat):(bp ts).map Int.toNat=ts:=by
 unfold bp;rw [W6];exact List.map_id' ts
def Vj (e:Int):Ending:=.returned (.tuple #[.agg #[.slice none 0 0,.slice none 0 0],.int .i64 e])
def FX.mP (f:FX):HE:=.row f.B f.m f.b 40 3 (aA NR.cells f.cs)
def FX.mi (f:FX):HE:=.row f.A f.n f.a 3 1 (a7 f.ds)
def SH:List FX→List HE
 |[]=>[]
 |f::fs=>f.mP::f.mi::SH fs
theorem Hp.iX {H:List HE} (h:Hp w0 H w) {f:FX} (h1:f.mP∈H) (h2:f.mi∈H):f.at_ w:=⟨iw (h.own _ h2),iw (h.own _ h1)⟩
def SX (a b:List Nat):List Nat:=List.zipWith max a b
def maxD (fs:List FX):List Nat:=fs.foldl (fun a f=>SX a (f.ds.map Int.toNat)) ((fs.map fun f=>f.ds.map Int.toNat).headD [])
def T4 (fs:List FX):Int:=if Gu fs≠0 then Gu fs else if 4096<ar (maxD fs) then 3 else 0
def FX.ns (f:FX):List Nat:=f.ds.map Int.toNat
theorem FX.fv {f:FX} (h:f.e=0):f.ds=bp f.ns∧f.cs=(f.cs.map NR.d).map nR∧f.ns.length≤12∧(∀d∈f.ns,d≤127)∧f.cs.length=ar f.ns∧ar f.ns≤4096:=by
 obtain ⟨ns,xs,hv,hxs⟩:=TO h;obtain ⟨h1,h2,h3,h4,h5,h6⟩:=hv;have e:f.ns=ns:=by unfold FX.ns;rw [h1];exact wm ns
 subst hxs;rw [e];exact ⟨h1,h2,h3,h4,by simpa using h5,h6⟩
structure VN (D:List Nat) (ys:List Dyadic) (g:FX):Prop where
 ds:g.ds=bp D
 cs:g.cs=ys.map nR
 n:g.n=D.length
 m:g.m=ar D
def VO (D:List Nat) (f:FX):List Dyadic:=QW f.ns D (f.cs.map NR.d)
def Vb (a b:List Nat) (j:Nat):List Nat:=(SX a b).take j++a.drop j
def Qs (a b:List Dyadic):List Dyadic:=List.zipWith (· + ·) a b
def Vx:List (List Dyadic)→List Dyadic
 |[]=>[]
 |x::l=>l.foldl Qs x
def Vz (a b:List Dyadic) (j:Nat):List Dyadic:=(Qs a b).take j++a.drop j
def U6 (f g:FX):Int:=if Gu [f,g]≠0 then Gu [f,g] else if T9 (RU f.ns g.ns)=true then 3 else 0
def VA (a b:List Nat) (j:Nat):List Nat:=(RU a b).take j++a.drop j
theorem lg (s:ByteArray) (n:Int) (w:World) (hs:s.size≤9223372036854775807):
  Calls Tryz.prog 105 #[.string s,.int .i64 n] w fun e w'=>e=.returned (.bool (eS s.data.toList && decide ((s.size:Int)=n)))∧Below w.heap.size w w':=by
 refine aj (N:=20) (l:=[.string s,.int .i64 n]) Tryz.func105 rfl rfl (by simp) ?_;refine sr (aB (aa (ah (sr (mS ?_)))));refine cg a9.out rfl V0 ?_;refine mI (aa (aq ?_));refine aW [4,5,8,9,10,11,12,13,14,15] 8
  (fun v w'=>∃k:Nat,k≤s.size∧v=.int .i64 k∧eS (s.data.toList.take k)=true∧w'=w)
  (fun v _=>s.size-(intOf v).toNat) ?_ ?_
 ·exact ⟨0,V8 _,rfl,rfl,rfl⟩
 ·rintro ρ' v w' ⟨k,hk,rfl,hm,rfl⟩;by_cases hlt:k<s.size
  ·obtain ⟨c,hc⟩:=al (l:=s.data.toList) (k:=k) (by rw [←eh];exact hlt);have hb:=c.toNat_lt;by_cases h8:c.toNat<128
   ·refine sr ?_;refine a0 (aa (ah (cT (ao (ai (ah (aq (sr (mI (aI (aa (sr (mS (mI ?_))))))))))))));refine kW ?_;refine bH (aa (cF (ao (bF (ai (ak ?_))))));refine bj (mI (az (ai ?_)));refine ⟨⟨k+1,VZ,rfl,by rw [ay hc,Hy,hm];simpa using h8,rfl⟩,by show s.size-(k+1)<s.size-k;omega, ?_⟩;exact dF
   ·refine sr ?_;refine a0 (aa (ah (cT (ao (ai (ah (aq (sr (mI (aI (aa (sr (mS (mI ?_))))))))))))));refine kW ?_;refine bH (aa (cT (sr (aB (aa (av (cm (aK (aK (cm (aK ?_)))))))))));refine cW ?_;rw [LJ hc h8];exact ⟨rfl,Below.refl _ _⟩
  ·refine sr ?_;refine a0 (aa (ah (cF (aZ (aC (aC (br (ai (sr (mS ?_))))))))));refine cg a9.out rfl V0 ?_;refine mI ?_;refine EX rfl rfl V0 ?_;refine aB (aa (av ?_));refine cW ?_;rw [Wc (by rw [←eh];omega)] at hm;rw [hm];exact ⟨rfl,Below.refl _ _⟩
theorem nh (s:ByteArray) (w:World) (hs:s.size≤9223372036854775807):
  Calls Tryz.prog 105 #[.string s,.int .i64 s.size] w fun e w'=>e=.returned (.bool (eS s.data.toList))∧Below w.heap.size w w':=by
 have h:=lg s s.size w hs;simpa using h
theorem zQ (A:Option Addr) (n c:Nat) (xs:List Int) (w:World) (hsl:Sl w A n 1 (a7 xs)) (hn:n≤100000):
  Calls Tryz.prog 134 #[.slice A n c] w fun e w'=>e=.returned (.tuple #[.string (str (Jv xs)),.int .i64 (Oh xs)])∧Below w.heap.size w w':=by
 have hlen:xs.length=n:=by have:=hsl.1;rw [bQ] at this;omega
 have hh:=Hp.start w;refine aj (N:=27) (l:=[.slice A n c]) Tryz.func134 rfl rfl (by simp) ?_;refine sr (aS (aI (aa (sr (aL (aa (ah (sr (mL (aF (mI (aa (aq ?_)))))))))))));refine bz [2,3,4,6,9,10,11,12,13,14,15,16,17,18,19,20,21,22,23,24] 4 9
  (fun b i w'=>∃(k c':Nat) (A':Option Addr),k≤n∧i=.int .i64 k∧b=.slice A' k c'∧(xs.take k).all ck=true∧Hp w [.row A' k c' 5 1 (jB ((xs.take k).map qR))] w')
  (fun _ v _=>n-(intOf v).toNat) ?_ ?_
 ·exact ⟨0,0,none,V8 _,rfl,rfl,rfl,hh.cx _ _⟩
 ·clear hh;rintro ρ' b i w' ⟨k,c',A',hk,rfl,rfl,hall,hh⟩;by_cases hlt:k<n
  ·obtain ⟨x,hx⟩:=al (l:=xs) (k:=k) VZ;obtain ⟨ad,rfl,hr⟩:=(hsl.ext hh.below).at_ VZ;by_cases h0:x<0
   ·refine sr ?_;refine eb ?_;refine jt ?_;refine bX aJ.out rfl (gh hr (bR hx) rfl) V0 ?_;refine aI (aa (ah (sr (mI ?_))));refine a0 (mB ?_);refine gS (gS ?_);refine fi ?_;exact TL
   ·by_cases h1:127<x
    ·refine sr ?_;refine eb ?_;refine jt ?_;refine bX aJ.out rfl (gh hr (bR hx) rfl) V0 ?_;refine aI (aa (ah (sr (mI ?_))));refine a0 (mB (gT (mI (gT ?_))));refine bH ?_;refine dR ?_;exact TL
    ·have hok:ck x=true:=by simp [ck];omega
     refine sr ?_;refine eb ?_;refine jt ?_;refine bX aJ.out rfl (gh hr (bR hx) rfl) V0 ?_;refine aI (aa (ah (sr (mI ?_))));refine a0 (mB (gT (mI (gT ?_))));refine bH ?_;refine dR ?_;refine aa (cF (ao (ai (ak (mL (mI ?_))))));refine uK a9.out a9.out rfl V0 ?_;refine ub ?_;intro b22 w22 hh;refine cv hh (i:=1) rfl rfl rfl (hh.aD (i:=0) rfl) a9.out aJ.out rfl V0 rfl VZ VZ V0 ?_;intro A23 c23 w23 hh;simp only [Wh,WI] at hh;replace hh:=hh.sub (WO _ _);refine lf ?_;refine bj (mI (az (ai ?_)));refine ⟨⟨k+1,c23,A23,VZ,rfl,rfl,Le hx hall hok, ?_⟩,by show n-(k+1)<n-k;omega, ?_⟩
     ·rw [EF VZ VZ,Kh hx hok] at hh;exact hh
     ·exact dF
  ·obtain rfl:k=n:=VZ;rw [Wc VZ] at hall hh;obtain ⟨e1,e2⟩:=p7 hall;refine sr ?_;refine oE ?_;refine rK a9.out a9.out a9.out rfl (hh.aD (i:=0) rfl) V0 ?_;refine aS (aI (aa (av ?_)));refine LP ?_;rw [e1,e2];exact ⟨rfl,hh.below⟩
theorem g8 (s:ByteArray) (w:World) (hs:s.size≤100000):
  Calls Tryz.prog 47 #[.string s] w fun e w'=>∃A c,e=.returned (.slice A (il s.data.toList).length c)∧w'.ownsRow w.heap.size 3 1 (.slice A (il s.data.toList).length c) (il s.data.toList).length (a7 (il s.data.toList))∧Below w.heap.size w w':=by
 have hh:=Hp.start w;have hsz:=eh s
 cases hm:eS s.data.toList with
 |false=>
  refine aj (N:=22) (l:=[.string s]) Tryz.func47 rfl rfl (by simp) ?_;refine sr (aL (aa (ah (sr (mS (mS ?_))))));refine cg a9.out rfl V0 ?_;refine bq hh (nh s _ VZ) rfl ?_;intro w9 hh;rw [hm];refine gj ?_;refine aa (cT (sr (aL (aa (av (aK ?_))))));refine cW ?_;rw [IA hm];exact Rh
 |true=>
  refine aj (N:=22) (l:=[.string s]) Tryz.func47 rfl rfl (by simp) ?_;refine sr (aL (aa (ah (sr (mS (mS ?_))))));refine cg a9.out rfl V0 ?_;refine bq hh (nh s _ VZ) rfl ?_;intro w9 hh;rw [hm];refine gj ?_;refine aa (cF (ao (ai (sr (aL (aa (ah (sr (mS ?_)))))))));refine y6 hh a9.out rfl V0 ?_;intro b12 w12 hh;skip;refine aa (aq ?_);refine aW [3,5,13,14,15,16,17,18,19,20] 3
   (fun v w'=>∃(k c':Nat) (A':Option Addr),k≤s.size∧v=.slice A' k c'∧Hp w [.row A' k c' 3 1 (a7 (ints (s.data.toList.take k))),.it b12 s k] w')
   (fun v _=>s.size-lenOf v) ?_ ?_
  ·exact ⟨0,0,none,V8 _,rfl,hh.cx _ _⟩
  ·clear hh;rintro ρ' v w' ⟨k,c',A',hk,rfl,hh⟩;by_cases hlt:k<s.size
   ·obtain ⟨c,hc⟩:=al (l:=s.data.toList) (k:=k) VZ;have h8:=sK hm hc;refine sr ?_;refine yn hh (i:=1) rfl rfl hc h8 V0 ?_;intro w13 hh;simp only [Wh,WI] at hh;skip;refine dE ?_;refine aa (ah (cT (ao (ai (aq (sr ?_))))));refine dE ?_;refine aI (aa (ak (mL (mI ?_))));refine wH ?_;refine ub ?_;intro b19 w19 hh;refine cv hh (i:=1) rfl rfl rfl (hh.aD (i:=0) rfl) a9.out aJ.out rfl V0 rfl VZ VZ V0 ?_;intro A20 c20 w20 hh;simp only [Wh,WI] at hh;replace hh:=hh.sub (WO _ _);refine aL (az (bF (ai ?_)));rw [uD hc] at hh;refine ⟨⟨k+1,c20,A20,VZ,rfl,hh⟩,by show s.size-(k+1)<s.size-k;omega, ?_⟩;exact dF
   ·refine sr ?_;refine yr hh (i:=1) rfl rfl hlt V0 ?_;skip;refine dE ?_;refine aa (ah (cF (aZ (aC (aC (br (ai (sr (mL (aL (aa (av ?_))))))))))));refine cW ?_;obtain rfl:k=s.size:=VZ;rw [Wc VZ] at hh;have h1:=hh.at_ (i:=0) rfl;rw [jS hm,di,←hsz];exact ⟨A',c',rfl,h1,hh.below⟩
theorem sV (a b:ByteArray) (g:FuncId) (f:Int→Int→Int) (w:World) (ha:a.size≤100000) (hb:b.size≤100000) [au Tryz.prog g]
  (hg:∀(x y:Int) (w:World),0≤x→x≤127→0≤y→y≤127→Calls Tryz.prog g #[.int .i64 x,.int .i64 y] w fun e w'=>e=.returned (.int .i64 (f x y))∧Below w.heap.size w w'):
  Calls Tryz.prog 231 #[.string a,.string b,.func (.func g) #[] #[]] w fun e w'=>
   (jA f a.data.toList b.data.toList=none∧e=.returned (.tuple #[.slice none 0 0,.bool false])∧Below w.heap.size w w')∨
   ∃l,jA f a.data.toList b.data.toList=some l∧l.length=b.size∧∃A c,e=.returned (.tuple #[.slice A l.length c,.bool true])∧w'.ownsRow w.heap.size 3 1 (.slice A l.length c) l.length (a7 l)∧Below w.heap.size w w':=by
 have hh:=Hp.start w;have hsa:=eh a;have hsb:=eh b
 cases hma:eS a.data.toList with
 |false=>
  refine JU ?_;refine sr (aL (aB (aa (sr (mS ?_)))));refine aE (g8 b _ hb) au.out rfl V0 ?_;rintro e_ w12 ⟨A12,c12,rfl,hown_,hb_⟩;refine ⟨_,rfl, ?_⟩;replace hh:=hh.aO (x:=.row _ _ _ _ _ _) hb_ hown_;refine aL (aa (ah (sr (mS (mS ?_)))));refine cg a9.out rfl V0 ?_;refine bq hh (nh a _ VZ) rfl ?_;intro w16 hh;rw [hma];refine gj ?_;refine mB ?_;refine gS (gS (gS ?_));refine jg ?_;refine gS ?_;refine fi ?_;refine aa (cT (sr (aL (aB (aa (av (aK ?_)))))));refine LP ?_;exact .inl ⟨by simp [jA,hma],rfl,hh.below⟩
 |true=>
  cases hmb:(eS b.data.toList && decide ((b.size:Int)=a.size)) with
  |false=>
   refine JU ?_;refine sr (aL (aB (aa (sr (mS ?_)))));refine aE (g8 b _ hb) au.out rfl V0 ?_;rintro e_ w12 ⟨A12,c12,rfl,hown_,hb_⟩;refine ⟨_,rfl, ?_⟩;replace hh:=hh.aO (x:=.row _ _ _ _ _ _) hb_ hown_;refine aL (aa (ah (sr (mS (mS ?_)))));refine cg a9.out rfl V0 ?_;refine bq hh (nh a _ VZ) rfl ?_;intro w16 hh;rw [hma];refine gj ?_;refine mB (gT (mS (gT (mS (gT ?_)))));refine cg a9.out rfl V0 ?_;refine aH rfl rfl ?_;refine bq hh (lg b _ _ VZ) rfl ?_;intro w22 hh;rw [hmb];refine gT ?_;refine gj ?_;refine dR ?_;refine aa (cT (sr (aL (aB (aa (av (aK ?_)))))));refine LP ?_;have:(eS b.data.toList && decide ((b.data.toList.length:Int)=a.data.toList.length))=false:=by rw [←hsa,←hsb];exact hmb
   exact .inl ⟨by simp only [jA,hma,this];rfl,rfl,hh.below⟩
  |true=>
   have hmb2:=hmb;simp only [Wm,Wt] at hmb2;have hbl:jA f a.data.toList b.data.toList=some (List.zipWith f (ints a.data.toList) (ints b.data.toList)):=by
    have:(eS b.data.toList && decide ((b.data.toList.length:Int)=a.data.toList.length))=true:=by rw [←hsa,←hsb];exact hmb
    simp only [jA,hma,this];rfl
   have hea:=jS hma;have heb:=jS hmb2.1;have hlab:(ints a.data.toList).length=(ints b.data.toList).length:=by rw [di,di];omega
   have hlb:=di b.data.toList;have hla:=di a.data.toList;have hA:=g8 a;have hB:=g8 b;rw [hea] at hA;rw [heb] at hB;generalize hia:ints a.data.toList=ia at*;generalize hib:ints b.data.toList=ib at*;have bda:∀(k:Nat) (x:Int),ia[k]?=some x→0≤x∧x≤127:=fun k x h=>F2 (l:=a.data.toList) (by rw [hea];exact h);have bdb:∀(k:Nat) (x:Int),ib[k]?=some x→0≤x∧x≤127:=fun k x h=>F2 (l:=b.data.toList) (by rw [heb];exact h);clear hea heb;refine JU ?_;refine sr (aL (aB (aa (sr (mS ?_)))));refine aE (hB _ hb) au.out rfl V0 ?_;rintro e_ w12 ⟨A12,c12,rfl,hown_,hb_⟩;refine ⟨_,rfl, ?_⟩;replace hh:=hh.aO (x:=.row _ _ _ _ _ _) hb_ hown_;refine aL (aa (ah (sr (mS (mS ?_)))));refine cg a9.out rfl V0 ?_;refine bq hh (nh a _ VZ) rfl ?_;intro w16 hh;rw [hma];refine gj ?_;refine mB (gT (mS (gT (mS (gT ?_)))));refine cg a9.out rfl V0 ?_;refine aH rfl rfl ?_;refine bq hh (lg b _ _ VZ) rfl ?_;intro w22 hh;rw [hmb];refine gT ?_;refine gj ?_;refine dR ?_;refine aa (cF (ao (ai (ah (sr (mS ?_))))));refine aE (hA _ ha) au.out rfl V0 ?_;rintro e_ w26 ⟨A26,c26,rfl,hown_,hb_⟩;refine ⟨_,rfl, ?_⟩
   replace hh:=hh.aO (x:=.row _ _ _ _ _ _) hb_ hown_;refine aF (mI (aa (aq ?_)));refine aW [9,10,28,29,30,31,32,33,34,35,36,37,38,39,40,41,42,43] 28
    (fun i w'=>∃k:Nat,k≤ib.length∧i=.int .i64 k∧Hp w [.row A26 ia.length c26 3 1 (a7 ia),.row A12 ib.length c12 3 1 (a7 (ni f ia ib k))] w')
    (fun i _=>ib.length-(intOf i).toNat) ?_ ?_
   ·exact ⟨0,V8 _,rfl,by rw [Kf];exact hh⟩
   ·clear hh hown_ hb_;rintro ρ' i w' ⟨k,hk,rfl,hh⟩;by_cases hlt:k<ib.length
    ·obtain ⟨x,hx⟩:=al (l:=ia) (k:=k) VZ;obtain ⟨y,hy⟩:=al hlt;have bx:=bda k x hx;have byy:=bdb k y hy;have hx2:=bR hx;have hy2:=bR (QJ (f:=f) hlab hy);have hml:=NQ (f:=f) hlab hk;have hml2:=bQ (ni f ia ib k);obtain ⟨ga,rfl⟩:=hh.bZ (i:=0) rfl VZ;obtain ⟨gb,rfl⟩:=hh.bZ (i:=1) rfl VZ;refine sr ?_;refine dY ?_;refine rH ?_;refine ji ?_;refine aI (aI (aa (ak (mL (mI ?_)))));refine iJ ?_;refine mI (mL (mI ?_));refine rH ?_;refine Lz ?_;refine gy (hg x y _ bx.1 bx.2 byy.1 byy.2) au.out rfl rfl V0 ?_;rintro e_ w41 ⟨rfl,hb_⟩;refine ⟨_,rfl, ?_⟩;replace hh:=hh.ext hb_;refine rH ?_;refine KN ?_;intro ws hh;simp only [Wh,WI] at hh;refine fN ?_;refine bj (mI (az (ai ?_)));rw [Wn,L3 hlab hx hy] at hh;refine ⟨⟨k+1,VZ,rfl,hh⟩,by show _-(k+1)<_-k;omega, ?_⟩;exact dF
    ·refine sr ?_;refine a0 (aa (ah (cF (aZ (aC (aC (br (ai (sr (mL (aL (aB (aa (av ?_))))))))))))));refine LP ?_;obtain rfl:k=ib.length:=VZ;rw [IV hlab] at hh;have h1:=hh.at_ (i:=1) rfl;have hzl:(List.zipWith f ia ib).length=ib.length:=by simp [hlab]
     refine .inr ⟨_,hbl,VZ,A12,c12, ?_⟩;rw [hzl];exact ⟨rfl,h1,hh.below⟩
theorem G1 (a b:ByteArray) (g:FuncId) (f:Int→Int→Int) (w:World) (ha:a.size≤100000) (hb:b.size≤100000) [au Tryz.prog g]
  (hg:∀(x y:Int) (w:World),0≤x→x≤127→0≤y→y≤127→Calls Tryz.prog g #[.int .i64 x,.int .i64 y] w fun e w'=>e=.returned (.int .i64 (f x y))∧Below w.heap.size w w')
  (h:jA f a.data.toList b.data.toList=none):
  Calls Tryz.prog 231 #[.string a,.string b,.func (.func g) #[] #[]] w fun e w'=>e=.returned (.tuple #[.slice none 0 0,.bool false])∧Below w.heap.size w w':=
 (sV a b g f w ha hb hg).mono fun e w' hq=>by
  rcases hq with hq|⟨l,hl,_⟩
  ·exact hq.2
  ·rw [h] at hl;cases hl
theorem Hh (a b:ByteArray) (g:FuncId) (f:Int→Int→Int) (w:World) (ha:a.size≤100000) (hb:b.size≤100000) [au Tryz.prog g]
  (hg:∀(x y:Int) (w:World),0≤x→x≤127→0≤y→y≤127→Calls Tryz.prog g #[.int .i64 x,.int .i64 y] w fun e w'=>e=.returned (.int .i64 (f x y))∧Below w.heap.size w w')
  {l:List Int} (h:jA f a.data.toList b.data.toList=some l):
  Calls Tryz.prog 231 #[.string a,.string b,.func (.func g) #[] #[]] w fun e w'=>∃A c,e=.returned (.tuple #[.slice A l.length c,.bool true])∧w'.ownsRow w.heap.size 3 1 (.slice A l.length c) l.length (a7 l)∧Below w.heap.size w w':=
 (sV a b g f w ha hb hg).mono fun e w' hq=>by
  rcases hq with ⟨hn,_⟩|⟨l',hl,_,hq⟩
  ·rw [h] at hn;cases hn
  ·rw [h] at hl;injection hl with hl;subst hl;exact hq
theorem H7 {f:Int→Int→Int}{a b:List UInt8}{l:List Int} (h:jA f a b=some l):l.length≤b.length:=by
 unfold jA at h;split at h
 ·injection h with h;subst h;simp [ints];omega
 ·cases h
theorem tF (x y:Int) (w:World) (h1:0≤x) (h2:x≤127) (h3:0≤y) (h4:y≤127):
  Calls Tryz.prog 232 #[.int .i64 x,.int .i64 y] w fun e w'=>e=.returned (.int .i64 (x+y))∧Below w.heap.size w w':=by
 refine aj (N:=8) (l:=[.int .i64 x,.int .i64 y]) Tryz.func232 rfl rfl (by simp) ?_;refine sr (aI (aa (sr (mI (mI ?_)))));refine bj (aI (aa (av ?_)));refine cW ?_;exact ⟨rfl,Below.refl _ _⟩
theorem G5 (a b:ByteArray) (w:World) (ha:a.size≤100000) (hb:b.size≤100000):
  Calls Tryz.prog 223 #[.string a,.string b] w fun e w'=>e=.returned (.tuple #[.string (str (mulL a.data.toList b.data.toList).1),.int .i64 (mulL a.data.toList b.data.toList).2])∧Below w.heap.size w w':=by
 have hh:=Hp.start w;have hsb:=eh b
 cases hbo:jA (· + ·) a.data.toList b.data.toList with
 |none=>
  refine aj (N:=20) (l:=[.string a,.string b]) Tryz.func223 rfl rfl (by simp) ?_;refine sr (aS (aI (aa (sr (mS (mS ?_))))));refine bq hh (G1 a b _ _ _ ha hb tF hbo) rfl ?_;intro w11 hh;refine mT ?_;refine dE ?_;refine dE ?_;refine aL (aB (aa (ah (sr (mB ?_)))));refine gj ?_;refine aa (cT (sr (aS (aI (aa (av (aK ?_)))))));refine LP ?_;simp only [mulL,hbo];exact ⟨rfl,hh.below⟩
 |some l=>
  have hl:=H7 hbo;refine aj (N:=20) (l:=[.string a,.string b]) Tryz.func223 rfl rfl (by simp) ?_;refine sr (aS (aI (aa (sr (mS (mS ?_))))));refine aE (Hh a b _ _ _ ha hb tF hbo) au.out rfl V0 ?_;rintro e_ w11 ⟨A11,c11,rfl,hown_,hb_⟩;refine ⟨_,rfl, ?_⟩;replace hh:=hh.aO (x:=.row _ _ _ _ _ _) hb_ hown_;refine mT ?_;refine dE ?_;refine dE ?_;refine aL (aB (aa (ah (sr (mB ?_)))));refine gj ?_;refine aa (cF (ao (ai (sr (mL ?_)))));refine bq hh (zQ _ _ _ _ _ (hh.aD (i:=0) rfl) VZ) rfl ?_;intro w17 hh;refine dE ?_;refine dE ?_;refine aS (aI (aa (av ?_)));refine LP ?_;simp only [mulL,hbo];exact ⟨trivial,hh.below⟩
theorem vO (A B:Option Addr) (n m c c':Nat) (xs ys:List Int) (w:World) (hx:Sl w A n 1 (a7 xs)) (hy:Sl w B m 1 (a7 ys)) (hn:n≤100000) (hm:m≤100000):
  Calls Tryz.prog 77 #[.slice A n c,.slice B m c'] w fun e w'=>e=.returned (.bool (decide (xs=ys)))∧Below w.heap.size w w':=by
 have hxl:xs.length=n:=by have:=hx.1;rw [bQ] at this;omega
 have hyl:ys.length=m:=by have:=hy.1;rw [bQ] at this;omega
 have hh:=Hp.start w;by_cases hnm:n=m
 ·subst hnm;refine aj (N:=26) (l:=[.slice A n c,.slice B n c']) Tryz.func77 rfl rfl (by simp) ?_;refine Au ?_;refine Fp ?_;refine aW [4,5,11,12,13,14,15,16,17,18,19,20,21,22,23,24,25] 5
   (fun i w'=>∃k:Nat,k≤n∧i=.int .i64 k∧xs.take k=ys.take k∧Hp w [] w')
   (fun i _=>n-(intOf i).toNat) ?_ ?_
  ·exact ⟨0,V8 _,rfl,rfl,hh⟩
  ·clear hh;rintro ρ' i w' ⟨k,hk,rfl,he,hh⟩;replace hx:=hx.ext hh.below;replace hy:=hy.ext hh.below;by_cases hlt:k<n
   ·obtain ⟨x,hxk⟩:=al (l:=xs) (k:=k) VZ;obtain ⟨y,hyk⟩:=al (l:=ys) (k:=k) VZ;obtain ⟨ad,rfl,hr⟩:=hx.at_ VZ;obtain ⟨bd,rfl,hs⟩:=hy.at_ VZ;by_cases hxy:x=y
    ·subst hxy;refine ah (sr (mI (mL (aF ?_))));refine oH ?_;refine BL ?_;refine fD ?_;refine dn ?_;refine O1 ?_;refine uF (fun _ hj=>gh (hr.ext hj.bl) (bR hxk) rfl) ?_;refine fD ?_;refine dn ?_;refine Qf ?_;refine uF (fun _ hj=>gh (hs.ext hj.bl) (bR hyk) rfl) ?_;refine aG ?_;intro f W hJ hV;have hb_6:=hJ.bl;obtain ⟨v24,v23,v22,v21,v20,v19,v18,v17,_⟩:=hV;replace hh:=hJ.hp;refine zY ?_;dsimp only [bI];clear hJ;refine cY (aa (cF (ao (bF (ai (ak (mI ?_)))))));refine bj (aI (az (ai ?_)));refine ⟨⟨k+1,VZ,rfl,by rw [ay hxk,ay hyk,he],hh⟩,by show n-(k+1)<n-k;omega, ?_⟩;exact dF
    ·refine ah (sr (mI (mL (aF ?_))));refine oH ?_;refine BL ?_;refine fD ?_;refine dn ?_;refine O1 ?_;refine uF (fun _ hj=>gh (hr.ext hj.bl) (bR hxk) rfl) ?_;refine fD ?_;refine dn ?_;refine Qf ?_;refine uF (fun _ hj=>gh (hs.ext hj.bl) (bR hyk) rfl) ?_;refine aG ?_;intro f W hJ hV;have hb_6:=hJ.bl;obtain ⟨v24,v23,v22,v21,v20,v19,v18,v17,_⟩:=hV;replace hh:=hJ.hp;refine zY ?_;dsimp only [bI];clear hJ;refine cY (aa (cT (sr (aB (aa (av (cm (aK (aK (cm (aK ?_)))))))))));refine cW ?_;have:¬xs=ys:=fun h=>hxy (by rw [h,hyk] at hxk;exact (WT hxk).symm);simp only [this,decide_false];exact ⟨trivial,hh.below⟩
   ·refine ah (sr (mI (mL (aF ?_))));refine Ft ?_;refine cW ?_;rw [Wc VZ,Wc VZ] at he;simp only [he,decide_true];exact ⟨trivial,hh.below⟩
 ·refine aj (N:=26) (l:=[.slice A n c,.slice B m c']) Tryz.func77 rfl rfl (by simp) ?_;refine Au ?_;refine cY (aa (cT (sr (aB (aa (av (aK ?_)))))));refine cW ?_;have:¬xs=ys:=fun h=>hnm (by rw [←hxl,←hyl,h]);simp only [this,decide_false];exact ⟨trivial,hh.below⟩
theorem BD {H:List HE}{L D:Option Addr} (w:World) (hh:Hp w0 (.row L n c 3 1 (a7 ls)::H) w) (hD:Sl w0 D n 1 (a7 ds)) (hn:n≤100000)
  (hl:ls.all ck=true) (hd:ds.all ck=true) (hll:ls.length=n):
  Calls Tryz.prog 133 #[.slice L n c,.slice D n c'] w fun e w'=>
   match qM ds ls with
   |some l'=>e=.returned (.bool true)∧Hp w0 (.row L n c 3 1 (a7 l')::H) w'
   |none=>e=.returned (.bool false)∧Hp w0 (.row L n c 3 1 (a7 (fW n))::H) w':=by
 have hdl:ds.length=n:=by have:=hD.1;rw [bQ] at this;omega
 refine aj (N:=31) (l:=[.slice L n c,.slice D n c']) Tryz.func133 rfl rfl (by simp) ?_;refine uH ?_;refine dQ (aI (aa (aq ?_)));refine aW [4,5,9,10,11,12,13,14,15,16,17,18,19,20,21,22,23,24,25,26,27,28,29,30] 5
  (fun i w'=>∃(k:Nat) (z:Int),k≤n∧i=.int .i64 z∧z=(k:Int)-1∧qM (ds.drop k) (ls.drop k)=none∧Hp w0 (.row L n c 3 1 (a7 (n8 ls k n))::H) w')
  (fun i _=>(intOf i+1).toNat) ?_ ?_
 ·exact ⟨n,_,V9 _,rfl,rfl,by rw [XX VZ];rfl,by rw [Ld hll];exact hh⟩
 ·clear hh;rintro ρ' i w' ⟨k,z,hk,rfl,hz,hnx,hh⟩
  cases k with
  |zero=>
   refine ah (sr (mI ?_));refine dP (aa (cF (aZ (aC (aC (br (ai (sr (aB (aa (av ?_)))))))))));refine cW ?_;rw [List.drop_zero,List.drop_zero] at hnx;rw [hnx];exact ⟨rfl,by simpa [n8] using hh⟩
  |succ k=>
   obtain rfl:z=(k:Int):=VZ;obtain ⟨x,hx⟩:=al (l:=ls) (k:=k) VZ;obtain ⟨d,hdk⟩:=al (l:=ds) (k:=k) VZ;have bx:=BJ hl hx;have bd:=BJ hd hdk;have hx2:=bR (RN (n:=n) hx);have hol:=MF hll hk;have hol2:=bQ (n8 ls (k+1) n);obtain ⟨g,rfl⟩:=hh.bZ (i:=0) rfl VZ;have hD':=hD.ext hh.below;obtain ⟨ad,rfl,hr⟩:=hD'.at_ VZ;by_cases hlt:x<d
   ·refine ah (sr (mI ?_));refine dP (aa (cT (ao (ai (ah (aq (ah (ah ?_))))))));refine O4 ?_;refine fD ?_;refine dn ?_;refine PZ ?_;refine Pt ?_;refine fD ?_;refine dn ?_;refine OA ?_;refine uF (fun _ hj=>gh (hr.ext hj.bl) (bR hdk) rfl) ?_;refine aG ?_;intro f W hJ hV;have hb_4:=hJ.bl;obtain ⟨v20,v19,v18,v17,v16,v15,v14,v13,_⟩:=hV;replace hh:=hJ.hp;refine Qn ?_;dsimp only [bI];clear hJ;refine a0 (aa (cT (sr (mL (mI ?_)))));refine rH ?_;refine ji ?_;refine bj ?_;refine rH ?_;refine cf hh (i:=0) (vs:=[_]) rfl rfl (cP rfl) rfl aJ.out rfl VZ rfl ?_;intro ws hh;simp only [Wh] at hh;refine aa (sr (aB (aa (av (aK (cm (aK (aK (cm (aK ?_))))))))));refine cW ?_;rw [Wn,FP _ hll VZ] at hh;rw [KV hdl hll hdk hx hnx hlt];exact ⟨rfl,hh⟩
   ·refine ah (sr (mI ?_));refine dP (aa (cT (ao (ai (ah (aq (ah (ah ?_))))))));refine O4 ?_;refine fD ?_;refine dn ?_;refine PZ ?_;refine Pt ?_;refine fD ?_;refine dn ?_;refine OA ?_;refine uF (fun _ hj=>gh (hr.ext hj.bl) (bR hdk) rfl) ?_;refine aG ?_;intro f W hJ hV;have hb_4:=hJ.bl;obtain ⟨v20,v19,v18,v17,v16,v15,v14,v13,_⟩:=hV;replace hh:=hJ.hp;refine Qn ?_;dsimp only [bI];clear hJ;refine a0 (aa (cF (ao (ai (ak (mL (mI ?_)))))));refine rH ?_;refine cf hh (i:=0) (vs:=[_]) rfl rfl (cP rfl) rfl aJ.out rfl VZ rfl ?_;intro ws hh;simp only [Wh] at hh;refine xB ?_;refine dQ (aI (az (ai ?_)));rw [Wn,FP _ hll VZ,Jh VZ] at hh;refine ⟨⟨k,_,VZ,rfl,rfl,JV hdk hx hnx hlt,hh⟩,by show ((k:Int)-1+1).toNat<((k:Int)+1).toNat;omega, ?_⟩;exact dF
theorem I7 (n:Nat):eI n [Value.int .i64 0]=a7 (fW n):=by rw [u1];simp [a7,fW]
theorem vW (l:List ByteArray) (x:ByteArray):gM l++[.string x]=gM (l++[x]):=by simp [gM]
theorem Hi (D:Option Addr) (n c:Nat) (ds:List Int) (w:World) (hD:Sl w D n 1 (a7 ds)) (hn:n≤100000):
  Calls Tryz.prog 87 #[.slice D n c] w fun e w'=>∃A c,e=.returned (.slice A (mj ds).length c)∧w'.ownsRow w.heap.size 9 1 (.slice A (mj ds).length c) (mj ds).length (gM (mj ds))∧Below w.heap.size w w':=by
 have hdl:ds.length=n:=by have:=hD.1;rw [bQ] at this;omega
 have hh:=Hp.start w;refine aj (N:=52) (l:=[.slice D n c]) Tryz.func87 rfl rfl (by simp) ?_;refine sr (aL (aa (sr (aI (aa (ah (sr (mL (aF (mI (aa (aq ?_))))))))))));refine bz [2,3,5,13,14,15,16,17,18,19,20,21,22,23,24,25,26,27,28,29,30,31,32,33,34] 3 13
  (fun p i w'=>∃(k:Nat),k≤n∧i=.int .i64 k∧p=.int .i64 (dp (ds.take k)).length∧(dp (ds.take k)).length≤65536∧rD 1 ds=rD (dp (ds.take k)).length (ds.drop k)∧w=w')
  (fun _ i _=>n-(intOf i).toNat) ?_ ?_
 ·exact ⟨0,V8 _,rfl,rfl,by simp [dp],rfl,rfl⟩
 ·rintro ρ' p i w' ⟨k,hk,rfl,rfl,hsz,hok,rfl⟩;by_cases hlt:k<n
  ·obtain ⟨d,hdk⟩:=al (l:=ds) (k:=k) VZ;obtain ⟨ad,rfl,hr⟩:=hD.at_ VZ;have hpos:=vf (ds.take k);by_cases hb1:0≤d∧d≤127
   ·have hm1:(0:Int)≤(dp (ds.take k)).length*(d+1):=Int.mul_nonneg VZ VZ;have hm2:((dp (ds.take k)).length:Int)*(d+1)≤65536*128:=YR VZ VZ VZ VZ;by_cases hb2:((dp (ds.take k)).length:Int)*(d+1)≤65536
    ·have hstep:=tI hdk hok ⟨hb1,hb2⟩;rw [←eU hdk hb1.1] at hstep;have hl2:=eU hdk hb1.1;refine sr ?_;refine eb ?_;refine jt ?_;refine oa ?_;refine aI (aa (ah (sr (mI ?_))));refine a0 (mB (gT (mI (gT ?_))));refine bH ?_;refine dR ?_;refine mB (gT (mI (gT (mI (gT ?_)))));refine bj (gT ?_);refine mulC (gT ?_);refine bH ?_;refine dR ?_;refine aa (cF (ao (ai (ak (mI (mI ?_))))));refine bj ?_;refine mulC (aI (az (bF (ai (ak ?_)))));refine bj (mI (az (ai ?_)));exact OQ
    ·have hf:=m9 hdk hok fun h=>hb2 h.2;refine sr ?_;refine eb ?_;refine jt ?_;refine oa ?_;refine aI (aa (ah (sr (mI ?_))));refine a0 (mB (gT (mI (gT ?_))));refine bH ?_;refine dR ?_;refine mB (gT (mI (gT (mI (gT ?_)))));refine bj (gT ?_);refine mulC (gT ?_);refine bH ?_;refine dR ?_;exact IW
   ·have hf:=m9 hdk hok fun h=>hb1 h.1;refine sr ?_;refine eb ?_;refine jt ?_;refine oa ?_;by_cases h0:d<0
    ·refine aI (aa (ah (sr (mI ?_))));refine a0 (mB ?_);refine gS (gS ?_);refine fi ?_;refine mB ?_;refine gS (gS (gS (gS (gS ?_))));refine fi ?_;exact IW
    ·refine aI (aa (ah (sr (mI ?_))));refine a0 (mB (gT (mI (gT ?_))));refine bH ?_;refine dR ?_;refine mB ?_;refine gS (gS (gS (gS (gS ?_))));refine fi ?_;exact IW
  ·obtain rfl:n=k:=VZ;rw [Wc VZ] at hsz;rw [XX VZ] at hok;have hok:rD 1 ds=true:=hok;have hbd:=zv ds 1 hok;have hen:=Bu ds fun d hd=>(hbd d hd).1;have hall:=rC ds hbd;have hdok:ds.all ck=true:=by
    rw [Wq];intro d hd;have:=hbd d hd;simp [ck,this]
   have hAl:mj ds=(dp ds).map fX:=by simp only [mj,hok,if_true]
   refine sr ?_;refine a0 (aa (ah (cF (aZ (aC (aC (br (ai (sr (mL (aF ?_)))))))))));refine gB hh rfl rfl rfl rfl a9.out aJ.out rfl VZ VZ V0 ?_;intro b37 w37 hh;refine aL (aa (sr (aL (aa (ah (sr (aB (aa (aq ?_)))))))));rw [I7] at hh;rw [hdl] at hen;refine bz [7,8,9,10,38,39,40,41,42,43,44,45,46,47,48,49,50] 7 8
    (fun v b w'=>∃(done rest:List (List Int)) (a:List Int) (A:Option Addr) (c':Nat),v=.slice A done.length c'∧Hp w [.row (some ⟨b37,0,none⟩) n n 3 1 (a7 a),.row A done.length c' 9 1 (gM (done.map fX))] w'∧dp ds=done++rest∧((b=.bool true∧nY (qM ds) a rest)∨(b=.bool false∧rest=[])))
    (fun v _ _=>65537-lenOf v) ?_ ?_
   ·exact ⟨[],_,_,none,0,rfl,(hh.cx _ _).swap,rfl,.inl ⟨rfl,hen⟩⟩
   ·clear hh;rintro ρ' v b w' ⟨done,rest,a,A,c',rfl,hh,hap,hc⟩
    rcases hc with ⟨rfl,hE⟩|⟨rfl,rfl⟩
    ·have hlen:(dp ds).length=done.length+rest.length:=by rw [hap,We]
     have hre:rest=a::rest.tail:=by
      rcases wq hE with ⟨h,_⟩|⟨c,L,h,_⟩<;>simp [h]
     have hrl:rest.length=rest.tail.length+1:=by rw [hre];simp
     have ha:a∈dp ds:=by rw [hap,hre];simp
     have hao:=hall a ha;have hal:=jO ds a ha;obtain ⟨eo1,eo2⟩:=p7 hao;have e1:gM (done.map fX)++[.string (str (Jv a))]=gM ((done++[a]).map fX):=by rw [vW,eo1,WX];rfl
     refine ah (sr (mB (aa (cT (ao (ai (ah (aq (sr (mL ?_))))))))));refine bq hh (zQ _ _ _ _ _ (hh.aD (i:=0) rfl) VZ) rfl ?_;intro w44 hh;refine mT ?_;refine dE ?_;refine dE ?_;refine aS (aI (aa (ak (mL (mS ?_)))));refine cV hh (cs:=[_]) a9.out aJ.out (aV (DJ rfl) bW) rfl rfl V0 V0 V0 rfl V0 ?_;intro b49 w49 hh;refine cv hh (i:=2) rfl rfl rfl (hh.aD (i:=0) rfl) a9.out aJ.out rfl V0 rfl VZ VZ V0 ?_;intro A50 c50 w50 hh;simp only [Wh,WI] at hh;replace hh:=hh.sub (WO _ _);refine aL (az (bF (ai (ak (mL (mL ?_))))));rw [e1] at hh;have hcc:=BD (D:=D) (c':=c) (ds:=ds) _ hh hD VZ hao hdok VZ
     rcases wq hE with ⟨h1,h2⟩|⟨c2,L,h1,h2,h3⟩
     ·rw [h2] at hcc;refine aE (hcc) au.out rfl V0 ?_;rintro e_ w_ ⟨rfl,hh⟩;refine ⟨_,rfl, ?_⟩;refine aB (az (ai ?_));refine ⟨⟨done++[a],[],_,A50,c50,by rw [We];rfl,by rw [We];exact hh,by rw [hap,h1];simp,.inr ⟨rfl,rfl⟩⟩,by show 65537-(done.length+1)<65537-done.length;omega, ?_⟩;exact dF
     ·rw [h2] at hcc;refine aE (hcc) au.out rfl V0 ?_;rintro e_ w_ ⟨rfl,hh⟩;refine ⟨_,rfl, ?_⟩;refine aB (az (ai ?_));refine ⟨⟨done++[a],L,c2,A50,c50,by rw [We];rfl,by rw [We];exact hh,by rw [hap,h1];simp,.inl ⟨rfl,h3⟩⟩,by show 65537-(done.length+1)<65537-done.length;omega, ?_⟩;exact dF
    ·refine ah (sr (mB (aa (cF (aZ (aC (aC (br (ai (sr (mL (aL (aa (av ?_))))))))))))));refine cW ?_;have h1:=hh.at_ (i:=1) rfl;have hdn:dp ds=done:=by rw [hap];simp
     rw [hAl,hdn,Wi];exact ⟨A,c',rfl,h1,hh.below⟩
theorem CB (D:Option Addr) (n c:Nat) (ds:List Int) (w:World) (hD:Sl w D n 1 (a7 ds)) (hn:n≤100000):
  Calls Tryz.prog 122 #[.slice D n c] w fun e w'=>∃A c,e=.returned (.slice A (mj ds).length c)∧w'.ownsRow w.heap.size 9 1 (.slice A (mj ds).length c) (mj ds).length (gM (mj ds))∧Below w.heap.size w w':=by
 have hdl:ds.length=n:=by have:=hD.1;rw [bQ] at this;omega
 have hh:=Hp.start w;refine aj (N:=72) (l:=[.slice D n c]) Tryz.func122 rfl rfl (by simp) ?_;refine sr (aL (aa (sr (aI (aa (ah (sr (aI (aa (aq ?_))))))))));refine bz [2,3,4,10,11,12,13,14,15,16,17,18,19,20,21,22,23,24,25,26,27,28,29,30,31,32,33,34,35,36] 3 4
  (fun p i w'=>∃(k:Nat),k≤n∧i=.int .i64 k∧p=.int .i64 (dp (ds.take k)).length∧(dp (ds.take k)).length≤65536∧rD 1 ds=rD (dp (ds.take k)).length (ds.drop k)∧w=w')
  (fun _ i _=>n-(intOf i).toNat) ?_ ?_
 ·exact ⟨0,V8 _,rfl,rfl,by simp [dp],rfl,rfl⟩
 ·rintro ρ' p i w' ⟨k,hk,rfl,rfl,hsz,hok,rfl⟩;by_cases hlt:k<n
  ·obtain ⟨d,hdk⟩:=al (l:=ds) (k:=k) VZ;obtain ⟨ad,rfl,hr⟩:=hD.at_ VZ;have hpos:=vf (ds.take k);by_cases hb1:0≤d∧d≤127
   ·have hm1:(0:Int)≤(dp (ds.take k)).length*(d+1):=Int.mul_nonneg VZ VZ;have hm2:((dp (ds.take k)).length:Int)*(d+1)≤65536*128:=YR VZ VZ VZ VZ;by_cases hb2:((dp (ds.take k)).length:Int)*(d+1)≤65536
    ·have hstep:=tI hdk hok ⟨hb1,hb2⟩;rw [←eU hdk hb1.1] at hstep;have hl2:=eU hdk hb1.1;refine ah (sr (mI (mL (aF ?_))));refine J7 ?_;refine jt ?_;refine oa ?_;refine a0 (mB (gT (mL (gT (mI (gT ?_))))));refine jt ?_;refine Lk ?_;refine gT ?_;refine bH ?_;refine dR ?_;refine aa (cF (ao (ai (sr (mI (mL (mI ?_)))))));refine jt ?_;refine oa ?_;refine bj ?_;refine mulC (aI (aa (sr (mI ?_))));refine bH (aa (cF (ao (bF (ai (ak (mI ?_)))))));refine bj (aI (az (ai ?_)));exact OQ
    ·have hf:=m9 hdk hok fun h=>hb2 h.2;refine ah (sr (mI (mL (aF ?_))));refine J7 ?_;refine jt ?_;refine oa ?_;refine a0 (mB (gT (mL (gT (mI (gT ?_))))));refine jt ?_;refine Lk ?_;refine gT ?_;refine bH ?_;refine dR ?_;refine aa (cF (ao (ai (sr (mI (mL (mI ?_)))))));refine jt ?_;refine oa ?_;refine bj ?_;refine mulC (aI (aa (sr (mI ?_))));refine bH (aa (cT (sr (aL (aa (av (cm (aK (aK (cm (aK ?_)))))))))));refine cW ?_;simp only [mj,hf];exact Rh
   ·have hf:=m9 hdk hok fun h=>hb1 h.1;refine ah (sr (mI (mL (aF ?_))));refine J7 ?_;refine jt ?_;refine oa ?_;by_cases h0:d<0
    ·refine a0 (mB ?_);refine gS (gS (gS ?_));refine jg ?_;refine gS ?_;refine fi ?_;exact IW
    ·refine a0 (mB (gT (mL (gT (mI (gT ?_))))));refine jt ?_;refine Lk ?_;refine gT ?_;refine bH ?_;refine dR ?_;exact IW
  ·obtain rfl:n=k:=VZ;rw [XX VZ] at hok;have hok:rD 1 ds=true:=hok;have hbd:=zv ds 1 hok;have hAl:mj ds=(dp ds).map fX:=by simp only [mj,hok,if_true]
   refine ah (sr (mI (mL (aF ?_))));refine a0 (aa (cF (aZ (aC (aC (br (ai (sr ?_))))))));refine IF ?_;intro b37 w37 hh;refine xi ?_;refine bz [5,6,7,8,9,38,39,40,41,42,43,44,45,46,47,48,49,50,51,52,53,54,55,56,57,58,59,60,61,62,63,64,65,66,67,68,69,70] 5 6
    (fun v i w'=>∃(k:Nat) (A:Option Addr) (c':Nat),k≤n∧i=.int .i64 k∧v=.slice A ((dp (ds.take k)).map fX).length c'∧Hp w [.row A ((dp (ds.take k)).map fX).length c' 9 1 (gM ((dp (ds.take k)).map fX))] w')
    (fun _ i _=>n-(intOf i).toNat) ?_ ?_
   ·exact ⟨0,_,_,V8 _,rfl,rfl,hh⟩
   ·clear hh hsz hk;rintro ρ2 v i w' ⟨k,A,c',hk,rfl,rfl,hh⟩;by_cases hlt:k<n
    ·obtain ⟨d,hdk⟩:=al (l:=ds) (k:=k) VZ;have bd:=hbd d (Wb hdk);have hst:=MH hdk;have hbig:=(tM hok (k+1) VZ).2;have hbig2:(((dp (ds.take k)).map fX).flatMap (gX d)).length≤65536:=by rw [←hst,Wi];exact hbig
     have hsm:∀(j:Nat) (s:ByteArray),((dp (ds.take k)).map fX)[j]?=some s→s.size≤k:=fun j s h=>Ob h;have hS:=(tM hok k VZ).2;rw [←Wi (f:=fX)] at hS;generalize (dp (ds.take k)).map fX=S at*;refine ah (sr (mI (mL (aF ?_))));refine a0 (aa (cT (ao (ai (ah (aq (sr (aL (aa (ah (ah (ak (aI (aa (aq ?_)))))))))))))));replace hh:=hh.cx 9 1;refine bz [7,8,9,44,45,46,47,48,49,50,51,52,53,54,55,56,57,58,59,60,61,62,63,64,65,66,67,68,69] 7 8
      (fun v j w'=>∃(j':Nat) (B:Option Addr) (c2:Nat),j'≤S.length∧j=.int .i64 j'∧v=.slice B ((S.take j').flatMap (gX d)).length c2∧Hp w [.row B ((S.take j').flatMap (gX d)).length c2 9 1 (gM ((S.take j').flatMap (gX d))),.row A S.length c' 9 1 (gM S)] w')
      (fun _ j _=>S.length-(intOf j).toNat) ?_ ?_
     ·exact ⟨0,none,0,V8 _,rfl,rfl,hh⟩
     ·clear hh;rintro ρ3 v j w' ⟨j,B,c2,hj,rfl,rfl,hh⟩;by_cases hlj:j<S.length
      ·obtain ⟨s,hs⟩:=al hlj;have hss:=hsm j s hs;have hs2:=nQ hs;have hlS:=mE S;refine ah (sr (mI (mL (aF ?_))));refine a0 (aa (cT (ao (ai (ah (aq (sr (aI (aa (aq ?_))))))))));refine bz [7,9,50,51,52,53,54,55,56,57,58,59,60,61,62,63,64,65,66,67,68,69] 7 9
        (fun v q w'=>∃(q':Nat) (B:Option Addr) (c2:Nat),q'≤d.toNat+1∧q=.int .i64 q'∧v=.slice B ((S.take j).flatMap (gX d)++(gX d s).take q').length c2∧Hp w [.row B ((S.take j).flatMap (gX d)++(gX d s).take q').length c2 9 1 (gM ((S.take j).flatMap (gX d)++(gX d s).take q')),.row A S.length c' 9 1 (gM S)] w')
        (fun _ q _=>d.toNat+1-(intOf q).toNat) ?_ ?_
       ·exact ⟨0,B,c2,V8 _,rfl,by rw [XS,WJ];rfl,by rw [XS,WJ];exact hh⟩
       ·clear hh;rintro ρ4 v q w' ⟨q,B,c2,hq,rfl,rfl,hh⟩;obtain ⟨ad,rfl,hr⟩:=(hD.ext hh.below).at_ VZ;by_cases hlq:q<d.toNat+1
        ·have hq2:(q:Int)≤d:=VZ;have hqo:ck (q:Int)=true:=by simp [ck];omega
         have hgb:=TK (d:=d) hs q;have hcat:s.size+(ByteArray.mk [qR (q:Int)].toArray).size≤9223372036854775807:=by show s.size+1≤_;omega
         obtain ⟨go,rfl⟩:=hh.bZ (i:=1) rfl VZ;refine ah (sr (mI (mL (mI ?_))));refine jt ?_;refine oa ?_;refine RB (aa (cT (ao (ai (ah (aq ?_))))));refine aN 11 [[(7,none)],[(5,none)],[(8,none)],[(59,some 1),(60,some 2)],[(61,some 3)],[(9,none)],[(63,some 5)],[(64,some 6)],[(65,some 7)],[(62,some 4),(66,some 8)],[(67,some 9)]] [(10,68),(9,67),(8,66),(7,65),(6,64),(5,63),(4,62),(3,61),(2,60),(1,59),(0,58)] hh mixed V2 ?_;refine fD ?_;refine fD ?_;refine dn ?_;refine a6 (i:=3) (fun ρ1 w1 hj hR=>lW a9.out aJ.size (show ρ1 59=Value.slice _ _ _ from hR.1) (show ρ1 60=Value.int _ _ from hR.2.1) rfl VZ) ?_;refine a6 (i:=4) (fun ρ1 w1 hj hR=>fj aJ.out (show ρ1 61=Value.pointer _ from hR.1) (hj.hp.eK (i:=1) rfl (by rw [Wn];exact hs2))) ?_;refine dn ?_;refine a6 (i:=6) (fun ρ1 w1 hj hR=>j4 a9.out a9.out (show ρ1 63=Value.int _ _ from hR.1)) ?_;refine rh [_] ?_;refine aP (i:=8) (Is (.string ⟨([qR (q:Int)]).toArray⟩)) Is.ext ?_ ?_
         ·intro ρ1 w1 hj hR;obtain ⟨A65,c65,h65,s65⟩:=hR.1;exact dv rfl (gi (l:=[qR (q:Int)]) a9.out a9.out a9.out h65 (by rw [EF VZ VZ,qa hqo] at s65;exact s65)) ⟨Below.refl _ _,rfl⟩
         refine a6 (i:=9) (fun ρ1 w1 hj hR=>SE (show ρ1 62=Value.string _ from hR.1) (show ρ1 66=Value.string _ from hR.2.1) (by first|omega|assumption|(simp only [jr,eh];omega))) ?_;refine rh [_] ?_;refine aG ?_;intro f W hJ hV;have hb_21:=hJ.bl;obtain ⟨v68,v67,v66,v65,v64,v63,v62,v61,v60,v59,v58,_⟩:=hV;obtain ⟨A65,c65,e65,f65⟩:Rows _ _ _ (f 7) W:=v65;obtain ⟨A68,c68,e68,f68⟩:Rows _ _ _ (f 10) W:=v68;replace hh:=hJ.hp;refine aU (bg (ae e68 (ae v67 (ae v66 (ae e65 (ae v64 (ae v63 (ae v62 (ae v61 (ae v60 (ae v59 (ae v58 aT)))))))))))) ?_;dsimp only [bI];clear e65 e68 hJ;refine cv hh (i:=0) rfl rfl rfl (f68) a9.out aJ.out rfl V0 rfl VZ VZ V0 ?_;intro A69 c69 w69 hh;simp only [Wh] at hh;refine pQ ?_;refine bj (aI (az (ai ?_)));have e1:gM ((S.take j).flatMap (gX d)++(gX d s).take q)++[.string (s++ByteArray.mk [qR (q:Int)].toArray)]=gM ((S.take j).flatMap (gX d)++(gX d s).take (q+1)):=by
          rw [vW,ay (OV hq2),WY];rfl
         have e2:((S.take j).flatMap (gX d)++(gX d s).take q).length+1=((S.take j).flatMap (gX d)++(gX d s).take (q+1)).length:=by
          rw [ay (OV (s:=s) hq2)];simp;omega
         rw [e1,e2] at hh;refine ⟨⟨q+1,A69,c69,VZ,rfl,by rw [←e2];rfl,hh⟩,by show d.toNat+1-(q+1)<d.toNat+1-q;omega, ?_⟩;exact dF
        ·refine ah (sr (mI (mL (mI ?_))));refine jt ?_;refine oa ?_;refine RB (aa (cF (aZ (aC (aC (br (bF (ai (ak (mI ?_))))))))));refine bj (aI (az (ai ?_)));obtain rfl:q=d.toNat+1:=VZ;have e3:(S.take j).flatMap (gX d)++(gX d s).take (d.toNat+1)=(S.take (j+1)).flatMap (gX d):=by
          rw [Wc (l:=gX d s) (by rw [G4];omega),ay hs,Yu];simp
         rw [e3] at hh ⊢;refine ⟨⟨j+1,B,c2,VZ,rfl,rfl,hh⟩,by show S.length-(j+1)<S.length-j;omega, ?_⟩;exact dF
      ·refine ah (sr (mI (mL (aF ?_))));refine a0 (aa (cF (aZ (aC (aC (br (ai (ak (mL (aL (az (bF (ai (ak (mI ?_)))))))))))))));refine bj (aI (az (ai ?_)));rw [Wc (l:=S) VZ,←hst] at hh ⊢;refine ⟨⟨k+1,B,c2,VZ,rfl,rfl,hh.sub (.cons_cons _ (Xq _))⟩,by show n-(k+1)<n-k;omega, ?_⟩;exact dF
    ·refine ah (sr (mI (mL (aF ?_))));refine F9 ?_;refine cW ?_;have hds:dp (ds.take k)=dp ds:=by rw [Wc (l:=ds) VZ]
     have h1:=hh.at_ (i:=0) rfl;rw [hAl,←hds];exact ⟨A,c',rfl,h1,hh.below⟩
theorem jb (A:Option Addr) (n c:Nat) (ds:List Int) (w:World) (hS:Sl w A n 1 (a7 ds)) (hn:n≤1000000):
  Calls Tryz.prog 34 #[.slice A n c] w fun r w'=>r=.returned (.int .i64 (kn ds))∧Below w.heap.size w w':=by
 have hh:=Hp.start w;have hln:ds.length=n:=by have:=hS.1;simpa [a7] using this
 unfold kn;refine aj (N:=39) (l:=[.slice A n c]) Tryz.func34 rfl rfl (by simp) ?_;refine sr (aI (aa (sr (aI (aa (ah (sr (aI (aa (aq ?_))))))))));refine aW [2,4,6,7,8,9,10,11,12,13,14,15,16,17,18,19,20,21,22,23] 4
  (fun v w'=>∃i:Nat,i≤n∧v=.int .i64 i∧(ds.take i).any (fun d=> !ck d)=false∧Hp w [] w')
  (fun v _=>n-(intOf v).toNat) ?_ ?_
 ·exact ⟨0,V8 _,rfl,rfl,hh⟩
 ·clear hh;rintro ρ' v w' ⟨i,hi,rfl,hall,hh⟩;by_cases hlt:i<n
  ·obtain ⟨d,hd⟩:=al (l:=ds) (k:=i) VZ;have hgi:=bR hd;obtain ⟨ad,rfl,hr⟩:=hS.at_ VZ;have hbad:(!ck d)=true→ds.any (fun d=> !ck d)=true:=fun h=>Yb.2 ⟨d,Wb hd,h⟩;by_cases h1:d<0
   ·refine ah (sr (mI (mL (aF ?_))));refine kT ?_;refine cA ?_;refine gP ?_;refine a0 (mB ?_);refine gS (gS (gS (gS (gS ?_))));refine fi ?_;exact TH
   ·by_cases h2:127<d
    ·refine ah (sr (mI (mL (aF ?_))));refine kT ?_;refine cA ?_;refine gP ?_;refine a0 (mB (gT (mL (gT (mI (gT ?_))))));refine cA ?_;refine gT ?_;refine gP ?_;refine gT ?_;refine bH ?_;refine dR ?_;exact TH
    ·refine ah (sr (mI (mL (aF ?_))));refine kT ?_;refine cA ?_;refine gP ?_;refine a0 (mB (gT (mL (gT (mI (gT ?_))))));refine cA ?_;refine gT ?_;refine gP ?_;refine gT ?_;refine bH ?_;refine dR ?_;refine pH ?_;refine bj (aI (az (ai ?_)));refine ⟨⟨i+1,VZ,rfl, ?_,hh⟩,by show n-(i+1)<n-i;omega, ?_⟩
     ·rw [ay hd,YN,hall,YF,YS,ck,Wr VZ,Wr VZ];rfl
     ·exact dF
  ·rw [Wc VZ] at hall;rw [hall,V6 V0];obtain ⟨ns,hns,hlow⟩:=lz hall;have hds:∀(j:Nat) (d:Int),ds[j]?=some d→0≤d∧d≤127:=fun j d hd=>by
    have:=Ya.1 hall d (Wb hd);simp [ck] at this;omega
   refine ah (sr (mI (mL (aF ?_))));refine a0 (aa (cF (aZ (aC (aC (br (ai (ah (sr (aI (aa (aq ?_))))))))))));refine bz [3,5,24,25,26,27,28,29,30,31,32,33,34,35,36,37] 3 5
    (fun v3 v w'=>∃(i:Nat) (q:Int),i≤n∧v=.int .i64 i∧v3=.int .i64 q∧0≤q∧q≤4097∧sl 1 ds=sl q (ds.drop i)∧Hp w [] w')
    (fun _ v _=>n-(intOf v).toNat) ?_ ?_
   ·exact ⟨0,1,V8 _,rfl,rfl,VZ,VZ,rfl,hh⟩
   ·clear hh;rintro ρ2 v3 v w2 ⟨j,q,hj,rfl,rfl,hq1,hq2,hc,hh⟩;by_cases hjn:j<n
    ·obtain ⟨d,hd⟩:=al (l:=ds) (k:=j) VZ;have hgi:=bR hd;have hdb:=hds j d hd;obtain ⟨ad,rfl,hr⟩:=hS.at_ VZ;rw [ix hd,sl] at hc;have hm1:0*0≤q*(d+1):=YR hq1 VZ V0 VZ;have hm2:q*(d+1)≤4097*128:=YR hq2 VZ VZ V0;refine ah (sr (mI (mL (aF ?_))));refine a0 (aa (cT (ao (ai (ah (aq (ak (mI (mL (mI ?_))))))))));refine kx ?_;refine gP ?_;refine bj ?_;refine mulC ?_;refine vY rfl rfl V0 ?_;refine Ai ?_;refine bj (aI (az (ai ?_)));refine ⟨⟨j+1,_,VZ,rfl,rfl,by split<;>omega,by split<;>omega,by rw [hc,show min (q*(d+1)) 4097=if 4097<q*(d+1) then 4097 else q*(d+1) by split<;>omega],hh⟩,by show n-(j+1)<n-j;omega, ?_⟩;exact dF
    ·rw [XX VZ] at hc;refine ah (sr (mI (mL (aF ?_))));refine a0 (aa (cF (aZ (aC (aC (br (ai (sr (mI (aI (aa (av ?_))))))))))));refine cW ?_;exact ⟨by rw [hc];rfl,hh.below⟩
theorem La (h:ds.any (fun d=> !ck d)=false):(eR 1 ds=0↔4096<kn ds)∧(eR 1 ds≠0→eR 1 ds=kn ds)∧1≤kn ds:=by
 obtain ⟨ns,rfl,hlow⟩:=lz h;have h1:=ir ns 1 V0 V0 hlow;have h2:=qi ns 1 V0 V0;have hp:=cn ns;rw [XP] at h1 h2;unfold kn;rw [h,V6 V0];have e1:eR ((1:Nat):Int) (bp ns)=eR 1 (bp ns):=rfl;have e2:sl ((1:Nat):Int) (bp ns)=sl 1 (bp ns):=rfl;rw [e1] at h1;rw [e2] at h2;rw [h1,h2];split<;>omega
theorem vE (A B:Option Addr) (n c m c2:Nat) (ds:List Int) (cs:List NR) (w:World) (hS:Sl w A n 1 (a7 ds)) (hS2:Sl w B m 3 (aA NR.cells cs)) (hn:n≤1000000) (hc:∀a∈cs,a.ok):
  Calls Tryz.prog 31 #[.agg #[.slice A n c,.slice B m c2]] w fun r w'=>r=.returned (.int .i64 (fE ds cs))∧Below w.heap.size w w':=by
 have hh:=Hp.start w;have hln:ds.length=n:=by have:=hS.1;simpa [a7] using this
 have hlm:=hS2.bE NR.len V0;unfold fE;by_cases g1:12<n
 ·refine B0 ?_;refine sr ?_;refine bV hh [_,_] ?_;intro b1 w1 hh;refine aI (aa (sr (bC ?_)));refine bA hh 0 ?_;refine As ?_;intro w7 hh;refine aI (aa (ah (sr (bC ?_))));refine bA hh 0 ?_;refine aF ?_;refine bH (mB ?_);refine gS (gS ?_);exact Py
 ·cases g2:ds.any (fun d=> !ck d) with
  |true=>
   have hcd:kn ds= -1:=by unfold kn;rw [g2,V5 rfl]
   refine B0 ?_;refine sr ?_;refine bV hh [_,_] ?_;intro b1 w1 hh;refine aI (aa (sr (bC ?_)));refine bA hh 0 ?_;refine As ?_;intro w7 hh;rw [hcd];refine aI (aa (ah (sr (bC ?_))));refine bA hh 0 ?_;refine aF ?_;refine bH (mB (gT (mI (gT ?_))));refine a0 ?_;exact Ot
  |false=>
   rw [V6 (fun h=>h.elim (fun h=>by omega) (fun h=>by cases h))];obtain ⟨k1,k2,k3⟩:=La g2;by_cases g3:eR 1 ds=0
   ·have k4:=k1.1 g3;refine B0 ?_;refine sr ?_;refine bV hh [_,_] ?_;intro b1 w1 hh;refine aI (aa (sr (bC ?_)));refine bA hh 0 ?_;refine As ?_;intro w7 hh;refine aI (aa (ah (sr (bC ?_))));refine bA hh 0 ?_;refine aF ?_;refine bH (mB (gT (mI (gT ?_))));refine a0 ?_;refine dR ?_;refine vU ?_;refine bH (aa (cT (sr (aI (aa (av (aK ?_)))))));refine cW ?_;exact ⟨by rw [V5 g3],hh.below⟩
   ·have k4:¬4096<kn ds:=fun h=>g3 (k1.2 h);rw [V6 g3,k2 g3];by_cases g4:(m:Int)=kn ds
    ·rw [V6 (show ¬(cs.length:Int)≠kn ds by omega)];refine B0 ?_;refine sr ?_;refine bV hh [_,_] ?_;intro b1 w1 hh;refine aI (aa (sr (bC ?_)));refine bA hh 0 ?_;refine As ?_;intro w7 hh;refine aI (aa (ah (sr (bC ?_))));refine bA hh 0 ?_;refine aF ?_;refine bH (mB (gT (mI (gT ?_))));refine a0 ?_;refine dR ?_;refine vU ?_;refine bH (aa (cF (ao (ai (ah (sr (bC ?_)))))));refine bA hh 0 ?_;refine aF (mI ?_);refine Fp ?_;refine aW [2,4,23,24,25,26,27,28,29,30,31,32,33,34,35,36,37,38,39] 4
      (fun v w'=>∃i:Nat,i≤m∧v=.int .i64 i∧(cs.take i).any tP=false∧Hp w [.blk b1 33 [.slice A n c,.slice B m c2] (0,0)] w')
      (fun v _=>m-(intOf v).toNat) ?_ ?_
     ·exact ⟨0,V8 _,rfl,rfl,hh⟩
     ·clear hh;rintro ρ' v w' ⟨i,hi,rfl,hall,hh⟩;by_cases hlt:i<m
      ·obtain ⟨x,hx⟩:=al (l:=cs) (k:=i) VZ;have hxo:=hc x (Wb hx);have hf:=fun w1=>nc x w1 (by have:=hxo.1;omega) (by have:=hxo.2;omega) (by have:=hxo.2;omega);obtain ⟨ad,rfl,hr⟩:=hS2.at_ VZ
       cases g5:tP x with
       |true=>
        have he:¬nR x.d=x:=fun h=>by rw [mW.2 h] at g5;cases g5
        refine ah (sr (mI (mI ?_)));refine oH ?_;refine PV ?_;refine da ?_;refine dN 0 ?_;refine dn ?_;refine PN ?_;refine Em ?_;refine dC (fun _ hj=>hf _) ?_;refine da ?_;refine dN 0 ?_;refine dn ?_;refine OT ?_;refine Em ?_;refine aG ?_;intro f W hJ hV;have hb_11:=hJ.bl;obtain ⟨v38,v37,v36,v35,v34,v33,v32,v31,v30,v29,v28,_⟩:=hV;replace hh:=hJ.hp;refine Pn ?_;dsimp only [bI];clear hJ;refine Fl rfl rfl (by assumption) V0 ?_;refine B2 ?_;refine cW ?_;exact ⟨by rw [V5 (Yb.2 ⟨x,Wb hx,g5⟩)],hh.below⟩
       |false=>
        have he:=mW.1 g5;refine ah (sr (mI (mI ?_)));refine oH ?_;refine PV ?_;refine da ?_;refine dN 0 ?_;refine dn ?_;refine PN ?_;refine Em ?_;refine dC (fun _ hj=>hf _) ?_;refine da ?_;refine dN 0 ?_;refine dn ?_;refine OT ?_;refine Em ?_;refine aG ?_;intro f W hJ hV;have hb_11:=hJ.bl;obtain ⟨v38,v37,v36,v35,v34,v33,v32,v31,v30,v29,v28,_⟩:=hV;replace hh:=hJ.hp;refine Pn ?_;dsimp only [bI];clear hJ;refine EU ?_;refine pH ?_;refine bj (aI (az (ai ?_)));refine ⟨⟨i+1,VZ,rfl,by rw [ay hx,YN,hall,YF,YS,g5];rfl,hh⟩,by show m-(i+1)<m-i;omega, ?_⟩;exact dF
      ·rw [Wc VZ] at hall;refine ah (sr (mI (mI ?_)));refine a0 (aa (cF (aZ (aC (aC (br (ai (sr (aI (aa (av ?_)))))))))));refine cW ?_;exact ⟨by rw [hall,V6 V0],hh.below⟩
    ·rw [V5 (show (cs.length:Int)≠kn ds by omega)];refine B0 ?_;refine sr ?_;refine bV hh [_,_] ?_;intro b1 w1 hh;refine aI (aa (sr (bC ?_)));refine bA hh 0 ?_;refine As ?_;intro w7 hh;refine aI (aa (ah (sr (bC ?_))));refine bA hh 0 ?_;refine aF ?_;refine bH (mB (gT (mI (gT ?_))));refine a0 ?_;refine dR ?_;refine vU ?_;refine bH (aa (cF (ao (ai (ah (sr (bC ?_)))))));refine bA hh 0 ?_;refine aF (mI ?_);refine cY (aa (cT (sr (aI (aa (av (aK ?_)))))));refine cW ?_;exact ⟨rfl,hh.below⟩
end Go.Proofs.YtolamocnngihpaaGreatDoor
