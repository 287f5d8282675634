/- Lemmas for ratioHolds, part 5. -/
import Derived.LaidMore
import Derived.Lay
import Derived.Deep.Slices
import Derived.Stop.Joined
import Derived.Deep.Strs
import Derived.Lib.SliceRun
import Derived.Test.YtmchncaiffbpaaaGreatDoorZ4
namespace Go.Proofs.YtmchncaiffbpaaaGreatDoor
variable {b n:Nat}
open Go.RowKit
theorem pG:bE n=0↔n=0:=by
 constructor
 ·intro h;have:=cR n;rw [h] at this;omega
 ·intro h;rw [h];exact mn
theorem oL {a:Nat} (h:a≤b):bE a≤bE b:=dy (Zr h (cR b))
theorem Nl (a b:Nat):bE (a+b)≤bE a+bE b+1:=by
 apply dy;have h1:=cR a;have h2:=cR b;have h3:2^bE a≤2^(bE a+bE b):=Zf Yo Yo;have h4:2^bE b≤2^(bE a+bE b):=Zf Yo Yo;rw [Zh];omega
theorem ek (s:Bool) (m:ByteArray) (w:World) (hm:m.size≤1000000000):
  Calls Tryz.prog 118 #[.agg #[.bool s,.string m]] w fun e w'=>e=.returned (.agg #[.bool (iN (iv s m)),.string (iM (iv s m))])∧Below w.heap.size w w':=by
 have hh:=Hp.start w;have h1:=jQ m;rw [SV,Hv]
 cases s with
 |false=>
  refine aj (N:=16) (l:=[.agg #[.bool false,.string m]]) Tryz.func118 rfl rfl (by simp) ?_;refine sr ?_;refine bO hh [_,_] ?_;intro b1 w1 hh;refine bC hh ?_;intro b2 w2 hh;refine aa (sr (bo ?_));refine bp hh 1 ?_;refine ay (gK m _ hm) au.out rfl Yp ?_;rintro e_ w6 ⟨A6,c6,rfl,hown_,hb_⟩;refine ⟨_,rfl, ?_⟩;replace hh:=hh.aP (x:=.row _ _ _ _ _ _) hb_ hown_;refine OD ?_;intro w7 hh;rw [jv];refine aS (aa (sr (bo ?_)));refine bp hh 2 ?_;refine mB ?_;refine gS (gS ?_);refine fK ?_;refine mS ?_;refine fe [_,_] ?_;exact M6
 |true=>
  by_cases h0:sN (bN m)=ByteArray.mk #[]
  ·refine aj (N:=16) (l:=[.agg #[.bool true,.string m]]) Tryz.func118 rfl rfl (by simp) ?_;refine sr ?_;refine bO hh [_,_] ?_;intro b1 w1 hh;refine bC hh ?_;intro b2 w2 hh;refine aa (sr (bo ?_));refine bp hh 1 ?_;refine ay (gK m _ hm) au.out rfl Yp ?_;rintro e_ w6 ⟨A6,c6,rfl,hown_,hb_⟩;refine ⟨_,rfl, ?_⟩;replace hh:=hh.aP (x:=.row _ _ _ _ _ _) hb_ hown_;refine OD ?_;intro w7 hh;rw [jv];refine aS (aa (sr (bo ?_)));refine bp hh 2 ?_;refine mB (gT (mS (gT ?_)))
   (first|refine jD rfl rfl (by first|rfl|assumption|decide) Yp ?_|refine jz rfl rfl (by first|assumption|decide) Yp ?_)
   refine gi ?_;refine mS ?_;refine fe [_,_] ?_;refine bg hh 1 [_,_] ?_;intro ws hh;replace hh:Hp _ (_::.blk _ _ [_,_] _::_) _:=hh;refine aa (av ?_);refine Ja ?_;exact RW
  ·refine aj (N:=16) (l:=[.agg #[.bool true,.string m]]) Tryz.func118 rfl rfl (by simp) ?_;refine sr ?_;refine bO hh [_,_] ?_;intro b1 w1 hh;refine bC hh ?_;intro b2 w2 hh;refine aa (sr (bo ?_));refine bp hh 1 ?_;refine ay (gK m _ hm) au.out rfl Yp ?_;rintro e_ w6 ⟨A6,c6,rfl,hown_,hb_⟩;refine ⟨_,rfl, ?_⟩;replace hh:=hh.aP (x:=.row _ _ _ _ _ _) hb_ hown_;refine OD ?_;intro w7 hh;rw [jv];refine aS (aa (sr (bo ?_)));refine bp hh 2 ?_;refine mB (gT (mS (gT ?_)))
   (first|refine jD rfl rfl (by first|rfl|assumption|decide) Yp ?_|refine jz rfl rfl (by first|assumption|decide) Yp ?_)
   refine gi ?_;refine mS ?_;refine fe [_,_] ?_;refine bg hh 1 [_,_] ?_;intro ws hh;replace hh:Hp _ (_::.blk _ _ [_,_] _::_) _:=hh;refine aa (av ?_);refine Ja ?_;exact SW
theorem kp (s:Bool) (m:ByteArray) (w:World) (hm:m.size≤1000000000):
  Calls Tryz.prog 99 #[.agg #[.bool s,.string m]] w fun e w'=>e=.returned (.int .i64 (iv s m).sign)∧Below w.heap.size w w':=by
 have hh:=Hp.start w;by_cases h0:bN m=0
 ·have hb:bE (bN m)=0:=pG.2 h0;refine aj (N:=9) (l:=[.agg #[.bool s,.string m]]) Tryz.func99 rfl rfl (by simp) ?_;refine sr ?_;refine bO hh [_,_] ?_;intro b1 w1 hh;refine aI (aa (ah (sr (bo ?_))));refine bp hh 0 ?_;refine bj hh (pM m _ hm) rfl ?_;intro w5 hh;refine Hz ?_;refine dH ?_;have hz:iv s m=0:=by unfold iv;split<;>omega
  exact ⟨by rw [hz];rfl,hh.below⟩
 ·have hb:bE (bN m)≠0:=fun h=>h0 (pG.1 h)
  cases s with
  |true=>
   refine aj (N:=9) (l:=[.agg #[.bool true,.string m]]) Tryz.func99 rfl rfl (by simp) ?_;refine sr ?_;refine bO hh [_,_] ?_;intro b1 w1 hh;refine aI (aa (ah (sr (bo ?_))));refine bp hh 0 ?_;refine bj hh (pM m _ hm) rfl ?_;intro w5 hh;refine Dn ?_;refine bp hh 0 ?_;refine BK ?_;refine dH ?_;have hz:iv true m<0:=by unfold iv;rw [Yt rfl];omega
   exact ⟨by rw [Z1 hz],hh.below⟩
  |false=>
   refine aj (N:=9) (l:=[.agg #[.bool false,.string m]]) Tryz.func99 rfl rfl (by simp) ?_;refine sr ?_;refine bO hh [_,_] ?_;intro b1 w1 hh;refine aI (aa (ah (sr (bo ?_))));refine bp hh 0 ?_;refine bj hh (pM m _ hm) rfl ?_;intro w5 hh;refine Dn ?_;refine bp hh 0 ?_;refine aa (cF (aq (ai (sr (aI (aa (av ?_)))))));refine dH ?_;have hz:0<iv false m:=by unfold iv;rw [Yu (by simp)];omega
   exact ⟨by rw [Z8 hz],hh.below⟩
theorem sJ (n:Int) (w:World) (h1: -9223372036854775808≤n) (h2:n≤9223372036854775807):
  Calls Tryz.prog 101 #[.int .i64 n] w fun e w'=>e=.returned (.agg #[.bool (iN n),.string (iM n)])∧Below w.heap.size w w':=by
 have hh:=Hp.start w;by_cases h0:n<0
 ·have hn:iN n=true:=YN h0;obtain ⟨m,hm⟩:=abK (by omega:0≤ -(n+1));have ha:n.natAbs=m+1:=Yo;have hw:(m+1) % 18446744073709551616=m+1:=Za Yo;refine aj (N:=16) (l:=[.int .i64 n]) Tryz.func101 rfl rfl (by simp) ?_;refine sr ?_;refine bC hh ?_;intro b2 w2 hh;refine aa (ah (sr (mI ?_)));refine a9 (aa (cT (sr (mI ?_))));refine a8 ?_;refine zi ?_;rw [show -(n+1)=(m:Int) from hm];refine md ?_;refine fM (b:=1) rfl rfl Yp ?_;rw [hw];refine bj hh (y4 (m+1) _ Yo) rfl ?_;intro w10 hh;rw [←ha];refine fe [_,_] ?_;refine bg hh 0 [_,_] ?_;intro ws hh;replace hh:Hp _ (.blk _ _ [_,_] _::_) _:=hh;refine aa (av (aF ?_));refine qz ?_;rw [hn];exact ⟨rfl,hh.below⟩
 ·obtain ⟨m,rfl⟩:=abK (by omega:0≤n);have hn:iN (m:Int)=false:=YS Yo;have hm:m<18446744073709551616:=Yo;have e1:iM (m:Int)=sN m:=rfl;refine aj (N:=16) (l:=[.int .i64 (m:Int)]) Tryz.func101 rfl rfl (by simp) ?_;refine sr ?_;refine bC hh ?_;intro b2 w2 hh;refine aa (ah (sr (mI ?_)));refine a9 (aa (cF (aq (ai (sr (mI ?_))))));refine md ?_;refine bj hh (y4 m _ hm) rfl ?_;intro w14 hh;refine fe [_,_] ?_;refine bg hh 0 [_,_] ?_;intro ws hh;replace hh:Hp _ (.blk _ _ [_,_] _::_) _:=hh;refine aa (av ?_);refine qz ?_;rw [hn,e1];exact ⟨rfl,hh.below⟩
theorem oa (s t:Bool) (a b:ByteArray) (w:World) (ha:a.size≤100000000) (hb:b.size≤100000000):
  Calls Tryz.prog 100 #[.agg #[.bool s,.string a],.agg #[.bool t,.string b]] w fun e w'=>e=.returned (.agg #[.bool (iN (iv s a+iv t b)),.string (iM (iv s a+iv t b))])∧Below w.heap.size w w':=by
 have hh:=Hp.start w;have hba:=ik a;have hbb:=ik b;by_cases hst:s=t
 ·subst hst;have e1:iv s (sN (bN a+bN b))=iv s a+iv s b:=by unfold iv;rw [gg];split<;>omega
  have hsz:(sN (bN a+bN b)).size≤1000000000:=by rw [kf];have:=Nl (bN a) (bN b);omega
  rw [←e1];refine aj (N:=49) (l:=[.agg #[.bool s,.string a],.agg #[.bool s,.string b]]) Tryz.func100 rfl rfl (by simp) ?_;refine sr ?_;refine bO hh [_,_] ?_;intro b2 w2 hh;refine bO hh [_,_] ?_;intro b3 w3 hh;refine bC hh ?_;intro b4 w4 hh;refine aa (ah (sr (bo ?_)));refine bp hh 2 ?_;refine bo ?_;refine bp hh 1 ?_;refine Jb bG.out rfl rfl (by first|rfl|assumption) Yp ?_;refine aa (cT (ah ?_));refine aK 8 [[(2,none)],[(12,some 0)],[(2,none)],[(14,some 2)],[(3,none)],[(16,some 4)],[(15,some 3),(17,some 5)],[(18,some 6)]] [(7,19),(6,18),(5,17),(4,16),(3,15),(2,14),(1,13),(0,12)] hh mixed Yq ?_;refine dR ?_;refine fW 2 ?_;refine dR ?_;refine fW 2 ?_;refine dR ?_;refine fW 1 ?_;refine x3 [_,_] ?_;refine a7 (i:=7) (Is (.string (sN (bN a+bN b)))) Is.ext ?_ ?_
  ·intro ρ1 w1 hj hR;obtain ⟨A18,c18,h18,s18⟩:=hR.1;exact bV rfl (bf au.out (aC h18 bh)) (FJ A18 2 c18 [a,b] _ s18 Yo (by simp;omega)) (fun _ _ hq=>⟨_,hq.1,hq.2,rfl⟩)
  refine aH ?_;intro f W hJ hV;have hb_2:=hJ.bl;obtain ⟨v19,v18,v17,v16,v15,v14,v13,v12,_⟩:=hV;obtain ⟨A18,c18,e18,f18⟩:Rows _ _ _ (f 6) W:=v18;replace hh:=hJ.hp;refine aN (a6 (ae v19 (ae e18 (ae v17 (ae v16 (ae v15 (ae v14 (ae v13 (ae v12 aO))))))))) ?_;dsimp only [bP];clear e18 hJ;refine fe [_,_] ?_;refine bj hh (ek s (sN (bN a+bN b)) _ hsz) rfl ?_;intro w21 hh;exact DG
 ·by_cases hle:bN b≤bN a
  ·have e1:iv s (sN (bN a-bN b))=iv s a+iv t b:=by unfold iv;rw [gg];cases s<;>cases t<;>simp at hst ⊢ <;>omega
   have hsz:(sN (bN a-bN b)).size≤1000000000:=by rw [kf];have:=oL (show bN a-bN b≤bN a by omega);omega
   rw [←e1];refine aj (N:=49) (l:=[.agg #[.bool s,.string a],.agg #[.bool t,.string b]]) Tryz.func100 rfl rfl (by simp) ?_;refine sr ?_;refine bO hh [_,_] ?_;intro b2 w2 hh;refine bO hh [_,_] ?_;intro b3 w3 hh;refine bC hh ?_;intro b4 w4 hh;refine aa (ah (sr (bo ?_)));refine bp hh 2 ?_;refine bo ?_;refine bp hh 1 ?_;refine I9 ?_;refine qX ?_;refine bp hh 2 ?_;refine bo ?_;refine bp hh 1 ?_;refine bj hh (pP a b _ Yo Yo) rfl ?_;intro w27 hh;rw [YN hle];refine mT ?_;refine cx ?_;refine cx ?_;refine aS (aB (aa (ah (sr (mB (aa (cT (sr (bo ?_)))))))));refine bp hh 2 ?_;refine mS ?_;refine fe [_,_] ?_;refine bj hh (ek s (sN (bN a-bN b)) _ hsz) rfl ?_;intro w35 hh;exact DG
  ·have e1:iv t (sN (bN b-bN a))=iv s a+iv t b:=by unfold iv;rw [gg];cases s<;>cases t<;>simp at hst ⊢ <;>omega
   have hsz:(sN (bN b-bN a)).size≤1000000000:=by rw [kf];have:=oL (show bN b-bN a≤bN b by omega);omega
   rw [←e1];refine aj (N:=49) (l:=[.agg #[.bool s,.string a],.agg #[.bool t,.string b]]) Tryz.func100 rfl rfl (by simp) ?_;refine sr ?_;refine bO hh [_,_] ?_;intro b2 w2 hh;refine bO hh [_,_] ?_;intro b3 w3 hh;refine bC hh ?_;intro b4 w4 hh;refine aa (ah (sr (bo ?_)));refine bp hh 2 ?_;refine bo ?_;refine bp hh 1 ?_;refine I9 ?_;refine qX ?_;refine bp hh 2 ?_;refine bo ?_;refine bp hh 1 ?_;refine bj hh (pP a b _ Yo Yo) rfl ?_;intro w27 hh;rw [YS hle];refine mT ?_;refine cx ?_;refine cx ?_;refine aS (aB (aa (ah (sr (mB (aa (cF (aq (ai (sr (bo ?_)))))))))));refine bp hh 1 ?_;refine bo ?_;refine bp hh 2 ?_;refine bj hh (pP b a _ Yo Yo) rfl ?_;intro w41 hh;refine mT ?_;refine cx ?_;refine cx ?_;refine aS (aa (sr (bo ?_)));refine bp hh 1 ?_;refine mS ?_;refine fe [_,_] ?_;refine bj hh (ek t (sN (bN b-bN a)) _ hsz) rfl ?_;intro w48 hh;exact Ej
theorem GA (s:Bool) (a:ByteArray) (k:Nat) (w:World) (ha:a.size≤100000000) (hk:k≤1000000000):
  Calls Tryz.prog 98 #[.agg #[.bool s,.string a],.int .i64 (k:Int)] w fun e w'=>e=.returned (.agg #[.bool (iN (iv s a*2^k)),.string (iM (iv s a*2^k))])∧Below w.heap.size w w':=by
 have hh:=Hp.start w;have hba:=ik a;have e2:iv s (sN (bN a*2^k))=iv s a*2^k:=by unfold iv;rw [gg];split<;>simp [Int.neg_mul]
 have hsz:(sN (bN a*2^k)).size≤1000000000:=by rw [kf];have:=iQ (bN a) k;omega
 rw [←e2];refine aj (N:=43) (l:=[.agg #[.bool s,.string a],.int .i64 (k:Int)]) Tryz.func98 rfl rfl (by simp) ?_;refine sr ?_;refine bO hh [_,_] ?_;intro b2 w2 hh;refine bC hh ?_;intro b4 w4 hh;refine aa (ah (sr (mI ?_)));refine dF (aa (cT (ah ?_)));refine aK 6 [[(2,none)],[(12,some 0)],[(2,none)],[(14,some 2)],[(1,none)],[(15,some 3),(16,some 4)]] [(5,17),(4,16),(3,15),(2,14),(1,13),(0,12)] hh mixed Yq ?_;refine dR ?_;refine fW 1 ?_;refine dR ?_;refine fW 1 ?_;refine dJ ?_;refine dC (fun _ hj=>EH a k _ Yo Yo) ?_;refine aH ?_;intro f W hJ hV;have hb_2:=hJ.bl;obtain ⟨v17,v16,v15,v14,v13,v12,_⟩:=hV;replace hh:=hJ.hp;refine aN (a6 (ae v17 (ae v16 (ae v15 (ae v14 (ae v13 (ae v12 aO))))))) ?_;dsimp only [bP];clear hJ;refine fe [_,_] ?_;refine bj hh (ek s (sN (bN a*2^k)) _ hsz) rfl ?_;intro w19 hh;exact DG
theorem qm (z:Int) (B:Nat) (q r:Int) (h:r+B*q=z) (h0:0≤r) (h1:r<B):z/B=q∧z % B=r:=
 (Int.ediv_emod_unique Yo).2 ⟨h,h0,h1⟩
theorem E3 (s:Bool) (a b:ByteArray) (w:World) (ha:a.size≤10000000) (hb:b.size≤10000000) (hb0:bN b≠0):
  Calls Tryz.prog 97 #[.agg #[.bool s,.string a],.agg #[.bool false,.string b]] w fun e w'=>e=.returned (.tuple #[.agg #[.bool (iN (iv s a/bN b)),.string (iM (iv s a/bN b))],.agg #[.bool (iN (iv s a % bN b)),.string (iM (iv s a % bN b))],.bool true])∧Below w.heap.size w w':=by
 have hh:=Hp.start w;have hba:=ik a;have hbb:=ik b;have hmod:bN a % bN b<bN b:=YU _ Yo;have hdm:bN b*(bN a/bN b)+bN a % bN b=bN a:=ZJ _ _;have hdm':(bN b:Int)*((bN a/bN b:Nat):Int)+((bN a % bN b:Nat):Int)=(bN a:Int):=by rw [←ZB,←ZQ,hdm]
 have hqs:(sN (bN a/bN b)).size≤10000000:=by rw [kf];have:=oL (aaF (bN a) (bN b));omega
 have hrs:(sN (bN a % bN b)).size≤10000000:=by rw [kf];have:=oL (show bN a % bN b≤bN b by omega);omega
 have hqz:∀u,(iM (iv u (sN (bN a/bN b)))).size≤10000000:=fun u=>by rw [Hv,gg];exact hqs
 have hrz:∀u,(iM (iv u (sN (bN a % bN b)))).size≤10000000:=fun u=>by rw [Hv,gg];exact hrs
 by_cases hneg:s=true∧bN a % bN b≠0
 ·obtain ⟨rfl,hne⟩:=hneg;have e1:iv true (sN (bN a/bN b))= -((bN a/bN b:Nat):Int):=by unfold iv;rw [gg,Yt rfl]
  have e2:iv true (sN (bN a % bN b))= -((bN a % bN b:Nat):Int):=by unfold iv;rw [gg,Yt rfl]
  have hlt:(iv true (sN (bN a % bN b))).sign<0:=by rw [e2,Z1 Yo];omega
  have e3:iv true a= -(bN a:Int):=by unfold iv;rw [Yt rfl]
  obtain ⟨q1,q2⟩:=qm (iv true a) (bN b) (-((bN a/bN b:Nat):Int)+ -1) ((bN b:Int)-((bN a % bN b:Nat):Int)) (by rw [e3,←hdm',Int.mul_add,abi];omega) Yo Yo;have e4:iv false b=(bN b:Int):=by unfold iv;rw [Yu (by simp)]
  have hp2:(bN b:Int).sign=1:=Z8 Yo;refine aj (N:=57) (l:=[.agg #[.bool true,.string a],.agg #[.bool false,.string b]]) Tryz.func97 rfl rfl (by simp) ?_;refine sr ?_;refine bO hh [_,_] ?_;intro b2 w2 hh;refine bO hh [_,_] ?_;intro b3 w3 hh;refine bC hh ?_;intro b4 w4 hh;refine bC hh ?_;intro b5 w5 hh;refine aB (aa (sr (bo ?_)));refine bp hh 3 ?_;refine bo ?_;refine bp hh 2 ?_;refine bj hh (qu a b _ Yo Yo hb0) rfl ?_;intro w18 hh;refine mT ?_;refine cx ?_;refine cx ?_;refine cx ?_;refine zj ?_;refine ig ?_;refine qX ?_;refine bp hh 3 ?_;refine bo ?_;refine bp hh 2 ?_;refine GO bG.out rfl rfl (by first|assumption|decide) Yp ?_;refine mS ?_;refine fe [_,_] ?_;refine bj hh (ek true (sN (bN a/bN b)) _ Yo) rfl ?_;intro w33 hh;refine bC hh ?_;intro b10 w10 hh;refine bg hh 0 [_,_] ?_;intro ws hh;replace hh:Hp _ (.blk _ _ [_,_] _::_) _:=hh;refine aa (sr (bo ?_));refine bp hh 4 ?_;refine mS ?_;refine fe [_,_] ?_;refine bj hh (ek true (sN (bN a % bN b)) _ Yo) rfl ?_;intro w38 hh;refine bC hh ?_;intro b11 w11 hh;refine bg hh 0 [_,_] ?_;intro ws hh;replace hh:Hp _ (.blk _ _ [_,_] _::_) _:=hh;refine aa (ah (sr ?_));refine bJ hh 0 [_,_] ?_
  refine bj hh (kp (iN (iv true (sN (bN a % bN b)))) (iM (iv true (sN (bN a % bN b)))) _ (by have:=hrz true;omega)) rfl ?_;intro w40 hh;rw [eY];refine a9 (aa (cT (sr ?_)));refine bJ hh 0 [_,_] (bo ?_);refine bp hh 4 ?_;refine fe [_,_] ?_;refine bj hh (oa (iN (iv true (sN (bN a % bN b)))) false (iM (iv true (sN (bN a % bN b)))) b _ (by have:=hrz true;omega) Yo) rfl ?_;intro w46 hh;rw [eY,e2,e4,show -((bN a % bN b:Nat):Int)+(bN b:Int)=(bN b:Int)-((bN a % bN b:Nat):Int) by omega,←q2];refine bg hh 0 [_,_] ?_;intro ws hh;replace hh:Hp _ (.blk _ _ [_,_] _::_) _:=hh;refine aa (sr ?_);refine bj hh (sJ (-1) _ Yo Yo) rfl ?_;intro w47 hh;refine bC hh ?_;intro b12 w12 hh;refine bg hh 0 [_,_] ?_;intro ws hh;replace hh:Hp _ (.blk _ _ [_,_] _::_) _:=hh;refine aa (ah (sr ?_));refine bJ hh 5 [_,_] ?_;refine bj hh (kp false b _ Yo) rfl ?_;intro w49 hh;rw [e4,hp2];refine a9 (aa (cF (aq (ai (ak ?_)))));refine bJ hh 2 [_,_] ?_;refine bJ hh 0 [_,_] ?_;refine bj hh (oa (iN (iv true (sN (bN a/bN b)))) (iN (-1)) (iM (iv true (sN (bN a/bN b)))) (iM (-1)) _ (by have:=hqz true;omega) Yp) rfl ?_;intro w54 hh;rw [eY,eY,e1,←q1];refine bg hh 2 [_,_] ?_
  intro ws hh;replace hh:Hp _ (_::_::.blk _ _ [_,_] _::_) _:=hh;refine aa (ah ?_);refine rU hh mixed fun w_ hj_=> ?_;replace hh:=hj_.hp;clear hj_;refine xg (i:=0) (i2:=1) Yq rfl rfl ?_ ?_
  ·refine bJ hh 2 [_,_] ?_;refine eA ?_;refine xg (i:=1) (i2:=2) Yq rfl rfl ?_ ?_
   ·refine bJ hh 1 [_,_] ?_;exact Rj
   ·refine bg hh 4 [_,_] ?_;intro ws hh;replace hh:Hp _ (_::_::_::_::.blk _ _ [_,_] _::_) _:=hh;refine eA ?_;refine fC (i:=1) Yq rfl ?_;refine bJ hh 1 [_,_] ?_;exact U9
  ·refine bJ hh 1 [_,_] ?_;refine eA ?_;refine fC (i:=0) Yq rfl ?_;refine bJ hh 2 [_,_] ?_;exact Rj
 ·have e4:iv s a/bN b=iv s (sN (bN a/bN b))∧iv s a % bN b=iv s (sN (bN a % bN b)):=by
   cases s with
   |false=>
    have f0:∀x,iv false x=(bN x:Int):=fun x=>by unfold iv;rw [Yu (by simp)]
    rw [f0,f0,f0,gg,gg];exact qm _ _ _ _ Yo Yo Yo
   |true=>
    have r0:bN a % bN b=0:=by
     rcases aac (bN a % bN b) with h|h
     ·exact h
     ·exact absurd ⟨rfl,Yo⟩ hneg
    have f0:∀x,iv true x= -(bN x:Int):=fun x=>by unfold iv;rw [Yt rfl]
    rw [f0,f0,f0,gg,gg,r0];rw [r0] at hdm';exact qm _ _ _ _ (by rw [abi];omega) Yo Yo
  have h5:¬(iv s (sN (bN a % bN b))).sign<0:=by
   have h6:0≤iv s (sN (bN a % bN b)):=by rw [←e4.2];exact Int.emod_nonneg _ Yo
   have:=Int.sign_nonneg_iff.2 h6;omega
  rw [e4.1,e4.2]
  cases s with
  |false=>
   refine aj (N:=57) (l:=[.agg #[.bool false,.string a],.agg #[.bool false,.string b]]) Tryz.func97 rfl rfl (by simp) ?_;refine sr ?_;refine bO hh [_,_] ?_;intro b2 w2 hh;refine bO hh [_,_] ?_;intro b3 w3 hh;refine bC hh ?_;intro b4 w4 hh;refine bC hh ?_;intro b5 w5 hh;refine aB (aa (sr (bo ?_)));refine bp hh 3 ?_;refine bo ?_;refine bp hh 2 ?_;refine bj hh (qu a b _ Yo Yo hb0) rfl ?_;intro w18 hh;refine mT ?_;refine cx ?_;refine cx ?_;refine cx ?_;refine zj ?_;refine ig ?_;refine qX ?_;refine bp hh 3 ?_;refine bo ?_;refine bp hh 2 ?_;refine PE bG.out rfl rfl (by first|rfl|assumption) Yp ?_;refine mS ?_;refine fe [_,_] ?_;refine bj hh (ek false (sN (bN a/bN b)) _ Yo) rfl ?_;intro w33 hh;refine bC hh ?_;intro b10 w10 hh;refine bg hh 0 [_,_] ?_;intro ws hh;replace hh:Hp _ (.blk _ _ [_,_] _::_) _:=hh;refine aa (sr (bo ?_));refine bp hh 4 ?_;refine mS ?_;refine fe [_,_] ?_;refine bj hh (ek false (sN (bN a % bN b)) _ Yo) rfl ?_;intro w38 hh;refine bC hh ?_;intro b11 w11 hh;refine bg hh 0 [_,_] ?_;intro ws hh;replace hh:Hp _ (.blk _ _ [_,_] _::_) _:=hh;refine aa (ah (sr ?_));refine bJ hh 0 [_,_] ?_
   refine bj hh (kp (iN (iv false (sN (bN a % bN b)))) (iM (iv false (sN (bN a % bN b)))) _ (by have:=hrz false;omega)) rfl ?_;exact XK
  |true=>
   refine aj (N:=57) (l:=[.agg #[.bool true,.string a],.agg #[.bool false,.string b]]) Tryz.func97 rfl rfl (by simp) ?_;refine sr ?_;refine bO hh [_,_] ?_;intro b2 w2 hh;refine bO hh [_,_] ?_;intro b3 w3 hh;refine bC hh ?_;intro b4 w4 hh;refine bC hh ?_;intro b5 w5 hh;refine aB (aa (sr (bo ?_)));refine bp hh 3 ?_;refine bo ?_;refine bp hh 2 ?_;refine bj hh (qu a b _ Yo Yo hb0) rfl ?_;intro w18 hh;refine mT ?_;refine cx ?_;refine cx ?_;refine cx ?_;refine zj ?_;refine ig ?_;refine qX ?_;refine bp hh 3 ?_;refine bo ?_;refine bp hh 2 ?_;refine GO bG.out rfl rfl (by first|assumption|decide) Yp ?_;refine mS ?_;refine fe [_,_] ?_;refine bj hh (ek true (sN (bN a/bN b)) _ Yo) rfl ?_;intro w33 hh;refine bC hh ?_;intro b10 w10 hh;refine bg hh 0 [_,_] ?_;intro ws hh;replace hh:Hp _ (.blk _ _ [_,_] _::_) _:=hh;refine aa (sr (bo ?_));refine bp hh 4 ?_;refine mS ?_;refine fe [_,_] ?_;refine bj hh (ek true (sN (bN a % bN b)) _ Yo) rfl ?_;intro w38 hh;refine bC hh ?_;intro b11 w11 hh;refine bg hh 0 [_,_] ?_;intro ws hh;replace hh:Hp _ (.blk _ _ [_,_] _::_) _:=hh;refine aa (ah (sr ?_));refine bJ hh 0 [_,_] ?_
   refine bj hh (kp (iN (iv true (sN (bN a % bN b)))) (iM (iv true (sN (bN a % bN b)))) _ (by have:=hrz true;omega)) rfl ?_;exact XK
variable {j k m:Nat}{z:Int}
theorem HC (h:n≠0):sb n=sb (n/256)++[UInt8.ofNat (n % 256)]:=by
 rw [sb,J4 Yo h,Y6,aaS]
 rfl
theorem HB (h:n≠0):1≤(sN n).size∧∃c:UInt8,(sN n).data.toList[(((sN n).size:Int)-1).toNat]?=some c∧c.toNat=n % 256:=by
 have hl:(sN n).data.toList=sb (n/256)++[UInt8.ofNat (n % 256)]:=by rw [sN,eL,HC h]
 have hs:(sN n).size=(sb (n/256)).length+1:=by rw [fJ,hl,YE];rfl
 refine ⟨Yo,UInt8.ofNat (n % 256), ?_, ?_⟩
 ·rw [hl,hs,ZC Yo];have:(((sb (n/256)).length+1:Nat)-1:Int).toNat-(sb (n/256)).length=0:=Yo;rw [this]
  rfl
 ·simp
theorem Uj (h:n≠0):(sN n).extract 0 ((sN n).size-1)=sN (n/256):=by
 have hl:(sN n).data=(sb (n/256)++[UInt8.ofNat (n % 256)]).toArray:=by rw [sN,←HC h];rfl
 have hs:(sN n).size=(sb (n/256)).length+1:=by rw [fJ,hl,YE];rfl
 apply ByteArray.ext;rw [ByteArray.data_extract,hl,hs];show _=(sb (n/256)).toArray;simp
theorem Tg {k:Int} (h:0<k) (y:Int):iN (y*k)=iN y:=by
 unfold iN;rw [decide_eq_decide];constructor
 ·intro h1
  rcases abp y 0 with h2|h2|h2
  ·exact h2
  ·rw [h2] at h1;simp at h1
  ·have:=Int.mul_pos h2 h;omega
 ·intro h1;exact Int.mul_neg_of_neg_of_pos h1 h
theorem UF (h:n % 2=1):tz n=0:=by
 have:=GZ 0 (n/2);rwa [show 2^0*(2*(n/2)+1)=n by omega] at this
theorem ML {y e:Int} (hy:y.natAbs % 2=1) (hz:y*2^j=z):nR (Dyadic.ofIntWithPrec z (-e))=⟨iN y,iM y,e+j⟩:=by
 have h1:=sv (s:=iN y) (a:=iM y) (e:=e+j) (by rw [eY];omega);rw [eY,iM,gg,UF hy] at h1;have h2:=pf y (-(e+j)) j;rw [hz,show -(e+(j:Int))+j= -e by omega] at h2;rw [h2,h1];simp
theorem ue {y:Int} (hy:y≠0) (hz:y*2^j=z) (hm:z.natAbs<2^m):j<m:=by
 have h1:z.natAbs=y.natAbs*2^j:=by rw [←hz,aan,aaN];rfl
 have h2:1*2^j≤y.natAbs*2^j:=Zo _ Yo;have h3:2^j<2^m:=Yo;exact (Nat.pow_lt_pow_iff_right Yo).1 h3
theorem nC (s:Bool) (a:ByteArray) (e:Int) (w:World) (ha:a.size≤10000000) (h1: -1000000000000≤e) (h2:e≤1000000000000):
  Calls Tryz.prog 72 #[.agg #[.bool s,.string a],.int .i64 e] w fun r w'=>r=.returned (.agg #[.bool (nR (Dyadic.ofIntWithPrec (iv s a) (-e))).neg,.string (nR (Dyadic.ofIntWithPrec (iv s a) (-e))).aY,.int .i64 (nR (Dyadic.ofIntWithPrec (iv s a) (-e))).e])∧Below w.heap.size w w':=by
 have hh:=Hp.start w;by_cases h0:iv s a=0
 ·have hm:=uR.2 h0;rw [h0] at hm;refine aj (N:=50) (l:=[.agg #[.bool s,.string a],.int .i64 e]) Tryz.func72 rfl rfl (by simp) ?_;refine sr ?_;refine bO hh [_,_] ?_;intro b2 w2 hh;refine bC hh ?_;intro b4 w4 hh;refine aa (sr ?_);refine bJ hh 1 [_,_] ?_;refine bj hh (ek s a _ Yo) rfl ?_;intro w6 hh;rw [h0];refine bg hh 1 [_,_] ?_;intro ws hh;replace hh:Hp _ (_::.blk _ _ [_,_] _::_) _:=hh;refine aa (ah (sr (bo ?_)));refine bp hh 1 ?_;refine jE rfl rfl (by first|rfl|assumption|decide) Yp ?_;refine aa (cT (sr ?_));refine fe [_,_,_] ?_;refine bg hh 0 [_,_,_] ?_;intro ws hh;replace hh:Hp _ (.blk _ _ [_,_,_] _::_) _:=hh;refine aa (av (aF ?_));refine B6 ?_;rw [iF,m7];exact ⟨rfl,hh.below⟩
 ·have hm:¬iM (iv s a)=ByteArray.mk #[]:=fun h=>h0 (uR.1 h);have hzb:(iv s a).natAbs<2^(8*a.size):=by
   rw [k5,Zk];exact yR a
  refine aj (N:=50) (l:=[.agg #[.bool s,.string a],.int .i64 e]) Tryz.func72 rfl rfl (by simp) ?_;refine sr ?_;refine bO hh [_,_] ?_;intro b2 w2 hh;refine bC hh ?_;intro b4 w4 hh;refine aa (sr ?_);refine bJ hh 1 [_,_] ?_;refine bj hh (ek s a _ Yo) rfl ?_;intro w6 hh;refine bg hh 1 [_,_] ?_;intro ws hh;replace hh:Hp _ (_::.blk _ _ [_,_] _::_) _:=hh;refine aa (ah (sr (bo ?_)));refine bp hh 1 ?_;refine jG rfl rfl (by first|assumption|decide) Yp ?_;refine aa (cF (aq (ai (ah (ar ?_)))));generalize hz:iv s a=z at*;refine aT [1,11,12,13,14,15,16,17,18,19,20,21,22,23,24,25,26,27,28] 1
   (fun v w'=>∃(y:Int) (j:Nat),y≠0∧y*2^j=z∧v=.int .i64 (e+j)∧Hp w [.blk b4 33 [.bool false,.string (ByteArray.mk #[]),.int .i64 0] (0,0),.blk b2 31 [.bool (iN y),.string (iM y)] (0,0)] w')
   (fun v _=>(e+8*a.size+1-intOf v).toNat) ?_ ?_
  ·exact ⟨z,0,h0,by simp,by show Value.int _ _=Value.int _ _;congr 1;omega,hh⟩
  ·clear hh;rintro ρ' v w' ⟨y,j,hy,hyz,rfl,hh⟩;have hj:=ue hy hyz hzb;obtain ⟨hs1,c,hc,hcn⟩:=HB (n:=y.natAbs) Yo;have hcut:=Uj (n:=y.natAbs) Yo;have hsz:(sN y.natAbs).size≤10000000:=by
    exact Wo
   change (iM y).data.toList[(((iM y).size:Int)-1).toNat]?=some c at hc
   change 1≤(iM y).size at hs1
   change (iM y).extract 0 ((iM y).size-1)=_ at hcut
   change (iM y).size≤_ at hsz
   by_cases hb:y.natAbs % 256=0
   ·obtain ⟨x,rfl⟩:∃x,y=x*256:=⟨y/256,Yo⟩;have hx:x≠0:=fun h=>hy (by rw [h];rfl);have e1:iN (x*256)=iN x:=Tg Yo x;have e2:sN ((x*256).natAbs/256)=iM x:=by rw [iM];congr 1;omega
    have hxz:x*2^(j+8)=z:=by rw [←hyz,Int.pow_add,Int.mul_assoc,Int.mul_comm (2^j)];rfl
    have hj2:=ue hx hxz hzb;refine ah (sr (bo ?_));refine bp hh 1 ?_;refine bo ?_;refine bp hh 1 ?_;refine ck bG.out rfl Yp ?_;refine ee ?_;refine k4 ?_;refine cH (aa (cT (aq (ai (ar (sr (bo ?_)))))));refine bp hh 1 ?_;refine bo ?_;refine bp hh 1 ?_;refine ck bG.out rfl Yp ?_;refine ee ?_;refine tT (l:=0) (h:=((iM (x*256)).size-1)) bG.out rfl rfl ⟨_,_,rfl,Yo⟩ Yo Yo Yp ?_;refine bo ?_;refine bg hh 1 [_] ?_;intro ws hh;replace hh:Hp _ (_::.blk _ _ [_,_] _::_) _:=hh;refine aa (ak (mI ?_));refine a8 (aI (aD (bz (ai ?_))));rw [hcut,e2,e1] at hh;refine ⟨⟨x,j+8,hx,hxz,by show Value.int _ _=Value.int _ _;congr 1;omega,hh⟩,by show (e+8*a.size+1-(e+j+8)).toNat<(e+8*a.size+1-(e+j)).toNat;omega, ?_⟩;exact er
   ·refine ah (sr (bo ?_));refine bp hh 1 ?_;refine bo ?_;refine bp hh 1 ?_;refine ck bG.out rfl Yp ?_;refine ee ?_;refine k4 ?_;refine cH (aa (cF (aX (aE (aE (bA (ai (ah (ar ?_)))))))));refine aT [1,29,30,31,32,33,34,35,36,37,38,39,40,41,42,43,44,45,46] 1
     (fun v w'=>∃(y:Int) (j:Nat),y≠0∧y*2^j=z∧v=.int .i64 (e+j)∧Hp w [.blk b4 33 [.bool false,.string (ByteArray.mk #[]),.int .i64 0] (0,0),.blk b2 31 [.bool (iN y),.string (iM y)] (0,0)] w')
     (fun v _=>(e+8*a.size+1-intOf v).toNat) ?_ ?_
    ·exact ⟨y,j,hy,hyz,rfl,hh⟩
    ·clear hh hb hcut hcn hc hs1 hsz hj hy hyz;rintro ρ2 v w2 ⟨y,j,hy,hyz,rfl,hh⟩;have hj:=ue hy hyz hzb;obtain ⟨hs1,c,hc,hcn⟩:=HB (n:=y.natAbs) Yo;have hsz:(sN y.natAbs).size≤10000000:=by
      exact Wo
     change (iM y).data.toList[(((iM y).size:Int)-1).toNat]?=some c at hc
     change 1≤(iM y).size at hs1
     change (iM y).size≤_ at hsz
     by_cases hb:y.natAbs % 2=0
     ·obtain ⟨x,rfl⟩:∃x,y=x*2:=⟨y/2,Yo⟩;have hx:x≠0:=fun h=>hy (by rw [h];rfl);have hxz:x*2^(j+1)=z:=by rw [←hyz,Int.pow_add,Int.mul_assoc,Int.mul_comm (2^j)];rfl
      have hj2:=ue hx hxz hzb;have hof:∀w1,Calls Tryz.prog 101 #[.int .i64 2] w1 fun e w'=>e=.returned (.agg #[.bool false,.string (iM 2)])∧Below w1.heap.size w1 w':=fun w1=>sJ 2 w1 Yo Yo;have hdv:∀w1,Calls Tryz.prog 97 #[.agg #[.bool (iN (x*2)),.string (iM (x*2))],.agg #[.bool false,.string (iM 2)]] w1 fun e w'=>e=.returned (.tuple #[.agg #[.bool (iN x),.string (iM x)],.agg #[.bool (iN 0),.string (iM 0)],.bool true])∧Below w1.heap.size w1 w':=fun w1=>by
       have h2:bN (iM 2)=2:=gg 2;have h3:(iM 2).size≤10000000:=by rw [dL];decide
       have:=E3 (iN (x*2)) (iM (x*2)) (iM 2) w1 hsz h3 Yo;rw [eY,h2,show x*2/((2:Nat):Int)=x by omega,show x*2 % ((2:Nat):Int)=0 by omega] at this;exact this
      refine ah (sr (bo ?_));refine bp hh 1 ?_;refine bo ?_;refine bp hh 1 ?_;refine ck bG.out rfl Yp ?_;refine ee ?_;refine k4 ?_;refine Fi (b:=2) rfl rfl Yo Yp ?_;refine cH (aa (cT (aq (ai (ar (ah ?_))))));refine ej [] [5,6] [0,0,3,7,15,15,15,31] 7 [[(2,none)],[],[(39,some 0),(40,some 1)],[(41,some 2)],[(38,some 3)],[(38,some 3)],[(38,some 3)]] [(6,44),(5,43),(4,42),(3,38),(2,41),(1,40),(0,39)] hh mixed Yq eI rfl (by repeat (first|exact cz|refine bR ?_|refine cG ?_)) ?_;refine dK 1 [_,_] ?_;refine dC (fun _ hj=>hof _) ?_;refine dC (fun _ hj=>hdv _) ?_;refine WH ?_;refine UE ?_;refine UE ?_;refine UE ?_;refine aH ?_;intro f W hJ hV _;have hb_8:=hJ.bl;obtain ⟨v44,v43,v42,v38,v41,v40,v39,_⟩:=hV;replace hh:=hJ.hp;refine aN (a6 (ae v44 (ae v43 (ae v42 (ae v38 (ae v41 (ae v40 (ae v39 aO)))))))) ?_;dsimp only [bP];clear hJ;refine bg hh 1 [_,_] ?_;intro ws hh;replace hh:Hp _ (_::.blk _ _ [_,_] _::_) _:=hh;refine aa (ak (mI ?_));refine a8 (aI (aD (bz (ai ?_))))
      refine ⟨⟨x,j+1,hx,hxz,by show Value.int _ _=Value.int _ _;congr 1;omega,hh⟩,by show (e+8*a.size+1-(e+j+1)).toNat<(e+8*a.size+1-(e+j)).toNat;omega, ?_⟩;exact er
     ·have hfin:=ML (e:=e) (show y.natAbs % 2=1 by omega) hyz;refine ah (sr (bo ?_));refine bp hh 1 ?_;refine bo ?_;refine bp hh 1 ?_;refine ck bG.out rfl Yp ?_;refine ee ?_;refine k4 ?_;refine Fi (b:=2) rfl rfl Yo Yp ?_;refine cH (aa (cF (aX (aE (aE (bA (ai (sr ?_))))))));refine bJ hh 1 [_,_] (mI ?_);refine fe [_,_,_] ?_;refine bg hh 0 [_,_,_] ?_;intro ws hh;replace hh:Hp _ (.blk _ _ [_,_,_] _::_) _:=hh;refine aa (av ?_);refine B6 ?_;rw [hfin];exact ⟨rfl,hh.below⟩
theorem EA {e:Int}{x:Dyadic} (w:World) (hx:Dyadic.ofIntWithPrec z (-e)=x) (hz:(iM z).size≤10000000) (h1: -1000000000000≤e) (h2:e≤1000000000000):
  Calls Tryz.prog 72 #[.agg #[.bool (iN z),.string (iM z)],.int .i64 e] w fun r w'=>r=.returned (.agg #[.bool (nR x).neg,.string (nR x).aY,.int .i64 (nR x).e])∧Below w.heap.size w w':=by
 have:=nC (iN z) (iM z) e w hz h1 h2;rw [eY,hx] at this;exact this
theorem Kc (n:Int) (w:World) (h1: -9223372036854775808≤n) (h2:n≤9223372036854775807):
  Calls Tryz.prog 71 #[.int .i64 n] w fun r w'=>r=.returned (.agg #[.bool (nR (n:Dyadic)).neg,.string (nR (n:Dyadic)).aY,.int .i64 (nR (n:Dyadic)).e])∧Below w.heap.size w w':=by
 have hh:=Hp.start w;have hsz:(iM n).size≤10000000:=by
  rw [dL];have:bE n.natAbs≤64:=dy Yo;omega
 have hc:=fun w1=>EA (z:=n) (e:=0) (x:=(n:Dyadic)) w1 rfl hsz Yo Yo;refine aj (N:=6) (l:=[.int .i64 n]) Tryz.func71 rfl rfl (by simp) ?_;refine sr ?_;refine bC hh ?_;intro b2 w2 hh;refine aa (sr (mI ?_));refine bj hh (sJ n _ h1 h2) rfl ?_;intro w4 hh;refine bj hh (hc _) rfl ?_;intro w5 hh;exact DF
theorem oG (a:NR) (w:World) (ha:a.aY.size≤10000000) (h1: -1000000000000≤a.e) (h2:a.e≤1000000000000):
  Calls Tryz.prog 95 #[.agg #[.bool a.neg,.string a.aY,.int .i64 a.e]] w fun r w'=>r=.returned (.agg #[.bool (nR a.d).neg,.string (nR a.d).aY,.int .i64 (nR a.d).e])∧Below w.heap.size w w':=by
 have hh:=Hp.start w;refine aj (N:=8) (l:=[.agg #[.bool a.neg,.string a.aY,.int .i64 a.e]]) Tryz.func95 rfl rfl (by simp) ?_;refine sr ?_;refine bO hh [_,_,_] ?_;intro b1 w1 hh;refine bC hh ?_;intro b2 w2 hh;refine aa (sr (bo ?_));refine bJ hh 1 [_,_] (bo ?_);refine bp hh 1 ?_;refine bj hh (nC a.neg a.aY a.e _ ha h1 h2) rfl ?_;intro w7 hh;exact DF
theorem gJ (a:NR) (w:World) (ha:a.aY.size≤10000000):
  Calls Tryz.prog 94 #[.agg #[.bool a.neg,.string a.aY,.int .i64 a.e]] w fun r w'=>r=.returned (.int .i64 a.i.sign)∧Below w.heap.size w w':=by
 have hh:=Hp.start w;refine aj (N:=6) (l:=[.agg #[.bool a.neg,.string a.aY,.int .i64 a.e]]) Tryz.func94 rfl rfl (by simp) ?_;refine sr ?_;refine bO hh [_,_,_] ?_;intro b1 w1 hh;refine aI (aa (sr (bo ?_)));refine bJ hh 0 [_,_] ?_;refine bj hh (kp a.neg a.aY _ Yo) rfl ?_;intro w5 hh;exact BF
theorem rq (a:NR) (n:Int) (w:World) (ha:a.aY.size≤10000000) (h1: -100000000000≤a.e) (h2:a.e≤100000000000) (h3: -100000000000≤n) (h4:n≤100000000000):
  Calls Tryz.prog 30 #[.agg #[.bool a.neg,.string a.aY,.int .i64 a.e],.int .i64 n] w fun r w'=>r=.returned (.agg #[.bool (nR (a.d*ir n)).neg,.string (nR (a.d*ir n)).aY,.int .i64 (nR (a.d*ir n)).e])∧Below w.heap.size w w':=by
 have hh:=Hp.start w;have e1:Dyadic.ofIntWithPrec (iv a.neg a.aY) (-(a.e+n))=a.d*ir n:=by
  rw [Int.neg_add];exact Ab _ _ _
 have hc:=fun w1=>nC a.neg a.aY (a.e+n) w1 ha Yo Yo;rw [e1] at hc;refine aj (N:=12) (l:=[.agg #[.bool a.neg,.string a.aY,.int .i64 a.e],.int .i64 n]) Tryz.func30 rfl rfl (by simp) ?_;refine sr ?_;refine bO hh [_,_,_] ?_;intro b2 w2 hh;refine bC hh ?_;intro b4 w4 hh;refine aa (sr (bo ?_));refine bJ hh 1 [_,_] (bo ?_);refine bp hh 1 ?_;refine mI ?_;refine a8 ?_;refine bj hh (hc _) rfl ?_;intro w11 hh;exact DF
theorem Xa (x:Dyadic):Dyadic.ofIntWithPrec (nR x).i (-(nR x).e)=x:=bL x
theorem PB {u v:NR} (h:u.e=v.e+k):Dyadic.ofIntWithPrec (u.i*2^k+v.i) (-v.e)=u.d+v.d:=by
 rw [←rS];congr 1;have:=pf u.i (-u.e) k;rw [show -u.e+(k:Int)= -v.e by omega] at this;exact this
theorem vS {u v:NR} (hk:u.e=v.e+k) (hu:u.aY.size≤1000000) (hv:v.aY.size≤1000000) (hk2:k≤40000000) (h1: -100000000000≤v.e) (h2:v.e≤100000000000):
  (∀w,Calls Tryz.prog 98 #[.agg #[.bool u.neg,.string u.aY],.int .i64 (u.e-v.e)] w fun e w'=>e=.returned (.agg #[.bool (iN (u.i*2^k)),.string (iM (u.i*2^k))])∧Below w.heap.size w w')∧
  (∀w,Calls Tryz.prog 100 #[.agg #[.bool (iN (u.i*2^k)),.string (iM (u.i*2^k))],.agg #[.bool v.neg,.string v.aY]] w fun e w'=>e=.returned (.agg #[.bool (iN (u.i*2^k+v.i)),.string (iM (u.i*2^k+v.i))])∧Below w.heap.size w w')∧
  ∀w,Calls Tryz.prog 72 #[.agg #[.bool (iN (u.i*2^k+v.i)),.string (iM (u.i*2^k+v.i))],.int .i64 v.e] w fun r w'=>r=.returned (.agg #[.bool (nR (u.d+v.d)).neg,.string (nR (u.d+v.d)).aY,.int .i64 (nR (u.d+v.d)).e])∧Below w.heap.size w w':=by
 have hb1:bE (u.i*2^k).natAbs≤8000000+k:=by
  rw [aan,aaN];have:=iQ u.i.natAbs k;have h3:=ij u.neg u.aY;unfold NR.i at this ⊢;exact Y1 this Yo
 have hb2:=ij v.neg v.aY;have hb3:=mZ (u.i*2^k) v.i;refine ⟨fun w=> ?_,fun w=> ?_,fun w=> ?_⟩
 ·rw [show u.e-v.e=k by omega];exact GA u.neg u.aY k w Yo Yo
 ·have:=oa (iN (u.i*2^k)) v.neg (iM (u.i*2^k)) v.aY w (by rw [dL];omega) Yo;rw [eY] at this;exact this
 ·exact EA w (PB hk) (by rw [dL];unfold NR.i at hb1 hb3 ⊢;omega) Yo Yo
theorem Cb (a b:NR) (w:World) (ha:a.ok) (hb:b.ok):
  Calls Tryz.prog 149 #[.agg #[.bool a.neg,.string a.aY,.int .i64 a.e],.agg #[.bool b.neg,.string b.aY,.int .i64 b.e]] w fun r w'=>r=.returned (.agg #[.bool (nR (a.d+b.d)).neg,.string (nR (a.d+b.d)).aY,.int .i64 (nR (a.d+b.d)).e])∧Below w.heap.size w w':=by
 have hh:=Hp.start w;obtain ⟨ha1,ha2,ha3⟩:=ha;obtain ⟨hb1,hb2,hb3⟩:=hb;obtain ⟨_,fa1,fa2,fa3⟩:=ld (a:=a) ⟨ha1,ha2,ha3⟩;obtain ⟨_,fb1,fb2,fb3⟩:=ld (a:=b) ⟨hb1,hb2,hb3⟩;have hsg:∀x:Dyadic,(nR x).i.sign=0↔x=0:=fun x=>by
  rw [Int.sign_eq_zero_iff_zero];constructor
  ·intro h;rw [←Xa x,h,iF]
  ·intro h;rw [h];rfl
 by_cases h0:a.d=0
 ·have hs0:=(hsg a.d).2 h0;refine Hw ?_;refine sr ?_;refine bO hh [_,_,_] ?_;intro b2 w2 hh;refine bO hh [_,_,_] ?_;intro b3 w3 hh;refine bC hh ?_;intro b4 w4 hh;refine aa (ah ?_);refine IL ?_;refine dK 2 [_,_,_] ?_;refine G3 ?_;refine dK 1 [_,_,_] ?_;refine aH ?_;intro f W hJ hV;have hb_1:=hJ.bl;obtain ⟨v7,v6,v5,_⟩:=hV;replace hh:=hJ.hp;refine yX ?_;dsimp only [bP];clear hJ;refine I3 ?_;intro w8 hh;refine bg hh 2 [_,_,_] ?_;intro ws hh;replace hh:Hp _ (_::_::.blk _ _ [_,_,_] _::_) _:=hh;refine bg hh 1 [_,_,_] ?_;intro ws hh;replace hh:Hp _ (_::.blk _ _ [_,_,_] _::_) _:=hh;refine aa (ah (sr ?_));refine bJ hh 2 [_,_,_] ?_;refine bj hh (gJ (nR a.d) _ Yo) rfl ?_;intro w10 hh;refine cH (aa (cT (sr ?_)));refine bJ hh 1 [_,_,_] ?_;refine bg hh 0 [_,_,_] ?_;intro ws hh;replace hh:Hp _ (.blk _ _ [_,_,_] _::_) _:=hh;refine aa (av (aF ?_));refine B6 ?_;rw [h0,aaI];exact ⟨rfl,hh.below⟩
 ·have hs0:¬(nR a.d).i.sign=0:=fun h=>h0 ((hsg a.d).1 h);by_cases h1:b.d=0
  ·have hs1:=(hsg b.d).2 h1;refine Hw ?_;refine sr ?_;refine bO hh [_,_,_] ?_;intro b2 w2 hh;refine bO hh [_,_,_] ?_;intro b3 w3 hh;refine bC hh ?_;intro b4 w4 hh;refine aa (ah ?_);refine IL ?_;refine dK 2 [_,_,_] ?_;refine G3 ?_;refine dK 1 [_,_,_] ?_;refine aH ?_;intro f W hJ hV;have hb_1:=hJ.bl;obtain ⟨v7,v6,v5,_⟩:=hV;replace hh:=hJ.hp;refine yX ?_;dsimp only [bP];clear hJ;refine I3 ?_;intro w8 hh;refine bg hh 2 [_,_,_] ?_;intro ws hh;replace hh:Hp _ (_::_::.blk _ _ [_,_,_] _::_) _:=hh;refine bg hh 1 [_,_,_] ?_;intro ws hh;replace hh:Hp _ (_::.blk _ _ [_,_,_] _::_) _:=hh;refine aa (ah (sr ?_));refine bJ hh 2 [_,_,_] ?_;refine bj hh (gJ (nR a.d) _ Yo) rfl ?_;intro w10 hh;refine cH (aa (cF (aq (ai (ah (sr ?_))))));refine bJ hh 1 [_,_,_] ?_;refine bj hh (gJ (nR b.d) _ Yo) rfl ?_;intro w14 hh;refine cH (aa (cT (sr ?_)));refine bJ hh 2 [_,_,_] ?_;refine bg hh 0 [_,_,_] ?_;intro ws hh;replace hh:Hp _ (.blk _ _ [_,_,_] _::_) _:=hh;refine aa (av (aF ?_));refine B6 ?_;rw [h1,aaQ];exact ⟨rfl,hh.below⟩
  ·have hs1:¬(nR b.d).i.sign=0:=fun h=>h1 ((hsg b.d).1 h);by_cases hlt:(nR a.d).e<(nR b.d).e
   ·obtain ⟨k,hk⟩:∃k:Nat,(nR b.d).e=(nR a.d).e+k:=⟨((nR b.d).e-(nR a.d).e).toNat,Yo⟩;obtain ⟨hshl,hpl,hmk⟩:=vS hk fb1 fa1 Yo Yo Yo;rw [bL,bL,Dyadic.add_comm] at hmk;refine Hw ?_;refine sr ?_;refine bO hh [_,_,_] ?_;intro b2 w2 hh;refine bO hh [_,_,_] ?_;intro b3 w3 hh;refine bC hh ?_;intro b4 w4 hh;refine aa (ah ?_);refine IL ?_;refine dK 2 [_,_,_] ?_;refine G3 ?_;refine dK 1 [_,_,_] ?_;refine aH ?_;intro f W hJ hV;have hb_1:=hJ.bl;obtain ⟨v7,v6,v5,_⟩:=hV;replace hh:=hJ.hp;refine yX ?_;dsimp only [bP];clear hJ;refine I3 ?_;intro w8 hh;refine bg hh 2 [_,_,_] ?_;intro ws hh;replace hh:Hp _ (_::_::.blk _ _ [_,_,_] _::_) _:=hh;refine bg hh 1 [_,_,_] ?_;intro ws hh;replace hh:Hp _ (_::.blk _ _ [_,_,_] _::_) _:=hh;refine aa (ah (sr ?_));refine bJ hh 2 [_,_,_] ?_;refine bj hh (gJ (nR a.d) _ Yo) rfl ?_;intro w10 hh;refine cH (aa (cF (aq (ai (ah (sr ?_))))));refine bJ hh 1 [_,_,_] ?_;refine bj hh (gJ (nR b.d) _ Yo) rfl ?_;intro w14 hh;refine Dn ?_;refine bp hh 2 ?_;refine bo ?_;refine bp hh 1 ?_;refine a9 (aa (cT (ak ?_)));refine bJ hh 1 [_,_,_] ?_;refine bJ hh 2 [_,_,_] ?_;refine bg hh 2 [_,_,_] ?_;intro ws hh
    replace hh:Hp _ (_::_::.blk _ _ [_,_,_] _::_) _:=hh;refine bg hh 1 [_,_,_] ?_;intro ws hh;replace hh:Hp _ (_::.blk _ _ [_,_,_] _::_) _:=hh;refine aa (ah ?_);exact RZ
   ·obtain ⟨k,hk⟩:∃k:Nat,(nR a.d).e=(nR b.d).e+k:=⟨((nR a.d).e-(nR b.d).e).toNat,Yo⟩;obtain ⟨hshl,hpl,hmk⟩:=vS hk fa1 fb1 Yo Yo Yo;rw [bL,bL] at hmk;refine Hw ?_;refine sr ?_;refine bO hh [_,_,_] ?_;intro b2 w2 hh;refine bO hh [_,_,_] ?_;intro b3 w3 hh;refine bC hh ?_;intro b4 w4 hh;refine aa (ah ?_);refine IL ?_;refine dK 2 [_,_,_] ?_;refine G3 ?_;refine dK 1 [_,_,_] ?_;refine aH ?_;intro f W hJ hV;have hb_1:=hJ.bl;obtain ⟨v7,v6,v5,_⟩:=hV;replace hh:=hJ.hp;refine yX ?_;dsimp only [bP];clear hJ;refine I3 ?_;intro w8 hh;refine bg hh 2 [_,_,_] ?_;intro ws hh;replace hh:Hp _ (_::_::.blk _ _ [_,_,_] _::_) _:=hh;refine bg hh 1 [_,_,_] ?_;intro ws hh;replace hh:Hp _ (_::.blk _ _ [_,_,_] _::_) _:=hh;refine aa (ah (sr ?_));refine bJ hh 2 [_,_,_] ?_;refine bj hh (gJ (nR a.d) _ Yo) rfl ?_;intro w10 hh;refine cH (aa (cF (aq (ai (ah (sr ?_))))));refine bJ hh 1 [_,_,_] ?_;refine bj hh (gJ (nR b.d) _ Yo) rfl ?_;intro w14 hh;refine Dn ?_;refine bp hh 2 ?_;refine bo ?_;refine bp hh 1 ?_;refine a9 (aa (cF (aq (ai (ah ?_)))));exact RZ
theorem Sz.pow {x:Dyadic} (h:Sz k x) (n:Nat):Sz (1+k*n) (x^n):=by
 induction n with
 |zero=>rw [abC];exact Sz.one
 |succ n ih=>rw [Dyadic.pow_succ];exact (ih.mul h).mono (by rw [ZZ];omega)
def D (m e:Int):Dyadic:=Dyadic.ofIntWithPrec m (-e)
theorem Vj {m e:Int} (hm:m.natAbs<256) (h1: -16≤e) (h2:e≤16):Sz 24 (D m e):=by
 have:=Sz.raw (a:=⟨iN m,iM m,e⟩) (m:=8) (E:=16) (by show 8*(iM m).size≤8;rw [dL];have:bE m.natAbs≤8:=dy hm;omega) h1 h2;rw [NR.d,NR.i,eY] at this;exact this
def XN (most far:Int) (l:List NR):Bool:=l.any fun a=>decide (most<a.aY.size∨a.e< -far∨far<a.e)
variable {W:World}{base fuel:Nat}{cs:List Value}{sp:Nat→Bool}
open Go.ChangeShapes Go.WideShapes Go.ChangeAt Go.RowKit Go.ChangeMaps
set_option maxRecDepth 100000 in
theorem Jw {H:Type}{enc:TypeId×Value→H}{held:Bool}{x:DataW H×List MemPlace} (h:DataW.trod enc Tryz.prog W base sp held fuel 33 cs=some x):
  ∃a:NR,cs=a.cells∧(Lit.int .i64 a.e).wf=true:=by
 have c1:Tryz.prog.cellsOf 33=3:=by kernel_rfl
 have c2:Tryz.prog.cellsOf 31=2:=by kernel_rfl
 have c3:Tryz.prog.cellsOf 4=1:=by kernel_rfl
 have c4:Tryz.prog.cellsOf 9=1:=by kernel_rfl
 have c5:Tryz.prog.cellsOf 3=1:=by kernel_rfl
 obtain ⟨y0,y1,n,_,hl,h0,h1⟩:=trod_struct2 Tryz.underlying33 h;obtain ⟨z0,z1,n2,_,hl2,h00,h01⟩:=trod_struct2 Tryz.underlying31 h0;obtain ⟨b,e0,_⟩:=DataW.trod_bool Tryz.underlying4 h00;obtain ⟨s,e1,_,hs⟩:=DataW.trod_string Tryz.underlying9 h01;obtain ⟨z,e2,_,hz⟩:=DataW.trod_int Tryz.underlying3 h1;rw [c1] at hl
 match cs,hl with
 |[x0,x1,x2],_=>
  simp only [c2,c3,c4,c5] at e0 e1 e2;simp at e0 e1 e2;subst e0 e1 e2;exact ⟨⟨b,s,z⟩,rfl,hz⟩
theorem DN (h:laidMetH Tryz.prog Rows.ratioHoldsRow.laid W):dP W:=by
 rw [MakeChecks.laidMetH_plain _ _ _ Yq] at h;obtain ⟨ps,⟨g,t,cs,fuel,p,q,hg,ht,hv,hd,_,_⟩,_,_⟩:=h;obtain rfl:=Zg ((show Tryz.prog.globalNamed "math/bits.deBruijn64tab" =some 0 by kernel_rfl).symm.trans hg);obtain rfl:=Zg ((show (Tryz.prog.globals[0]?).map (·.type)=some 237 by kernel_rfl).symm.trans ht);obtain ⟨xs,m,_,ex,_,hl,hel⟩:=DataW.trod_array Tryz.underlying237 hd;have c5:Tryz.prog.cellsOf 5=1:=by kernel_rfl
 have e3:(xs.map (·.1))=Fw.map fun n=>.lit (.int .u8 n):=(DataW.agg.inj (Prod.mk.inj ex).1).symm;have hlen:Fw.length=64:=by decide
 intro r u hu;have hr:r<64:=by
  have:=(YL.1 hu).1;rw [dq] at this;omega
 have hE:=hel r hr;rw [c5,YV,ZP Yo] at hE;obtain ⟨z,e1,e2,_⟩:=DataW.trod_int Tryz.underlying5 hE;have e4:(xs.map (·.1))[r]?=(Fw.map fun (n:Nat)=>(DataW.lit (.int .u8 n):DataW Unit))[r]?:=by rw [e3]
 rw [YJ,YJ,ZP (by omega:r<xs.length),ZP (by omega:r<Fw.length),e2] at e4;have hz:u=.int .u8 z:=by
  rw [iE,YJ,ZP (by omega:r<Fw.length)] at hu;simp only [aaj,aag,DataW.lit.injEq,Lit.int.injEq,true_and] at e4 hu;rw [←hu,e4]
 rw [fw,YZ,World.var?_cell hg hv r,hz];have:cs.toList[r]?=some (.int .u8 z):=by
  have h0:((cs.toList.drop r).take 1)[0]?=some (.int .u8 z):=by rw [e1];rfl
  simpa using h0
 simpa using this
theorem Cz {α:Type}{p:Nat→α→Prop}:∀(n:Nat),(∀i,i<n→∃a,p i a)→∃l:List α,l.length=n∧∀i a,l[i]?=some a→p i a
 |0,_=>⟨[],rfl,fun i a h=>by simp at h⟩
 |n+1,h=>by
  obtain ⟨l,h1,h2⟩:=Cz n fun i hi=>h i Yo;obtain ⟨a,ha⟩:=h n Yo;refine ⟨l++[a],by simp [h1],fun i b hb=> ?_⟩
  rcases Zb i l.length with hi|hi
  ·rw [aav hi] at hb;exact h2 i b hb
  ·rw [ZC hi] at hb;have h3:i-l.length=0:=by
    rcases aac (i-l.length) with h|h
    ·exact h
    ·rw [YQ (by simp;omega)] at hb;cases hb
   rw [h3] at hb;simp only [abh,aag] at hb;subst hb;rw [show i=n by omega];exact ha
variable {P:Program}{c:Nat}{α:Type}
def IC (z:Int):List Value:=[.int .i64 z]
theorem IC.len (z:Int):(IC z).length=1:=rfl
theorem QA (l:List Int):aA IC l=bD l:=by
 induction l with
 |nil=>rfl
 |cons z l ih=>rw [iV,ih];rfl
set_option maxRecDepth 100000 in
theorem KQ {H:Type}{enc:TypeId×Value→H}{held:Bool}{x:DataW H×List MemPlace} (h:DataW.trod enc Tryz.prog W base sp held fuel 3 cs=some x):
  ∃z:Int,cs=IC z∧(Lit.int .i64 z).wf=true:=by
 have c1:Tryz.prog.cellsOf 3=1:=by kernel_rfl
 obtain ⟨z,e2,_,hz⟩:=DataW.trod_int Tryz.underlying3 h;exact ⟨z,e2,hz⟩
theorem xn {f:α→List Value}{p:α→Prop}{sz:Nat}{t e:TypeId}{H:Type}{enc:TypeId×Value→H}{held:Bool}{x:DataW H×List MemPlace}
  (hf:∀x,(f x).length=sz) (h0:0<sz) (ht:P.underlying t=some (.slice e)) (hc:P.cellsOf e=sz) (one:∀fuel cs x,DataW.trod enc P W base sp held fuel e cs=some x→∃a,cs=f a∧p a)
  (hfu:DataW.trod enc P W base sp held fuel t cs=some x):∃(A:Option Addr) (n c:Nat) (l:List α),cs=[.slice A n c]∧Sl W A n sz (aA f l)∧∀a∈l,p a:=by
 rcases Go.Deep.open_slice ht hfu with ⟨h1,_⟩|⟨ad,n,cp,m,k,D,Pl,h1,_,h2,h3,hm,_,h5⟩
 ·exact ⟨none,0,0,[],h1,Sl.nil W none sz,fun _ h=>by simp at h⟩
 ·have hnm:n≤m:=by rw [hm];split<;>omega
  obtain ⟨l,hl,hp⟩:=Cz (p:=fun i a=>W.cells? base (ad.add (i*sz)) sz=some (f a)∧p a) n fun i hi=>by
   obtain ⟨cs,h6,h7⟩:=h5 i Yo;rw [hc] at h6;obtain ⟨a,rfl,h8⟩:=one _ _ _ h7;exact ⟨a,h6,h8⟩
  refine ⟨some ad,n,cp,l,h1,⟨by rw [fj hf,hl],fun _=>⟨ad,rfl,fun j u hu=> ?_⟩⟩,fun a ha=> ?_⟩
  ·have hdm:j/sz*sz+j % sz=j:=by rw [YO];exact ZJ j sz
   have hmod:j % sz<sz:=YU _ h0;have hj:j/sz<l.length:=by
    have:=(YL.1 hu).1;rw [fj hf] at this;exact Nat.div_lt_of_lt_mul (by rw [YO];exact this)
   obtain ⟨x,hx⟩:=ao hj;have h6:=vN hf hx;have h7:(f x)[j % sz]?=some u:=by
    rw [←h6,ZX,Yt hmod,ZW,hdm];exact hu
   have h8:=(World.cells?_some (hp _ _ hx).1).2.2 (j % sz) hmod;rw [h7,mP,hdm] at h8;exact h8
  ·obtain ⟨i,hi⟩:=ZU.1 ha;exact (hp i a hi).2
theorem yA {t e:TypeId}{H:Type}{enc:TypeId×Value→H}{held:Bool}{A:Option Addr}{x:DataW H×List MemPlace}
  (ht:P.underlying t=some (.slice e)) (hfu:DataW.trod enc P W base sp held fuel t [.slice A n c]=some x):n≤c:=by
 rcases Go.Deep.open_slice ht hfu with ⟨h1,_⟩|⟨ad,n',cp,m,k,D,Pl,h1,_,h2,_⟩
 ·injection h1 with h1
  injection h1 with _ e2 e3
  omega
 ·injection h1 with h1
  injection h1 with _ e2 e3
  omega
variable {b' c' c1 n1 n2 s1 s2:Nat}{fz:Nat×Nat}{t' t1 t2:TypeId}{w w' w0 w1:World}{xs1 xs2:List Value}
section
variable {ro:Mode}
theorem iB {t:TypeId}{sz:Nat}{A:Option Addr}{xs:List Value} (h:w.ownsRow b t sz (.slice A n c) n xs) (hb:b'≤b):w.ownsRow b' t sz (.slice A n c) n xs:=
 ⟨h.1,h.2.imp id fun ⟨g,cap,cur,h1,h2,h3⟩=>⟨g,cap,cur,h1,Y1 hb h2,h3⟩⟩
theorem oE {x:HE} (h:x.holds b w) (hb:b'≤b):x.holds b' w:=by
 cases x with
 |blk b t cs fz=>exact ⟨Y1 hb h.1,h.2⟩
 |row A n c t sz xs=>exact iB h hb
 |ob b o=>exact ⟨Y1 hb h.1,h.2⟩
theorem Hp.perm {H H':List HE} (h:Hp w0 H w) (hp:H.Perm H'):Hp w0 H' w:=
 ⟨h.below,fun x hx=>h.own x (hp.mem_iff.2 hx),(hp.filterMap _).nodup_iff.1 h.nd⟩
theorem Hp.gG {H:List HE} (h:Hp w0 H w) {i sz:Nat}{A:Option Addr}{t:TypeId}{xs:List Value} (hi:H[i]?=some (.row A n c t sz xs)):n≤c:=by
 have h1:w.ownsRow w0.heap.size t sz (.slice A n c) n xs:=h.at_ hi
 rcases h1.2 with ⟨_,h3⟩|⟨g,cap,cur,h2,_,_,h5,_⟩
 ·omega
 ·injection h2 with _ _ e3
  omega
theorem Hp.join {H H2:List HE} (h:Hp w0 H w) (h2:Hp w H2 w'):Hp w0 (H2++H) w':=by
 have h':=h.ext h2.below;refine ⟨h'.below,fun x hx=> ?_, ?_⟩
 ·rcases Zm.1 hx with hx|hx
  ·exact oE (h2.own x hx) h.size
  ·exact h'.own x hx
 ·rw [aaZ,abv];refine ⟨h2.nd,h.nd,fun a ha b hb hab=> ?_⟩;subst hab;obtain ⟨x,hx,hxa⟩:=ZE.1 ha;obtain ⟨y,hy,hya⟩:=ZE.1 hb;have h3:=eU (h2.own x hx) hxa;have h4:=eU (h.own y hy) hya;omega
section
variable {P:Program}{N:Nat}{ops:Array Oper}{Q:Kq}{ρ:Rf}{w w0:World}{rest:List Oper}{H:List HE}{ty:TypeId}{pos:String}{af:Array Edge}
theorem Qe {o:Oper}{v:Value} (hg:o.guard=none) (hd:o.dst=none)
  (hr:(execOp (ev ρ) o).run P w=.ok (.value v) w') (k:WL ro P N ops Q rest ρ w'):WL ro P N ops Q (o::rest) ρ w:=
 ⟨fun hm a hf=>wpList_plain hg fun K hK=>by
  unfold Oper.wp;rw [hf.eval,hr];show K (a.put o.dst v) w';rw [hd];exact hK _ _ (k.nu hm _ hf),
 fun a hf n=>wpListIn_plain hg fun K hK=>by
  refine ⟨fun _ _=>trivial, ?_⟩;rw [hf.eval,me _ hr (fun _ h=>by cases h)];show K (a.put o.dst v) w';rw [hd];exact hK _ _ (k.kA _ hf n)⟩
theorem MT {l:List α}{i:Nat}{x:α} (h:l[i]?=some x):l.set i x=l:=by
 obtain ⟨h1,rfl⟩:=YL.1 h;exact List.set_getElem_self h1
end
abbrev Hp.sz {w0 w:World}{H:List HE} (_:Hp w0 H w):Nat:=w.heap.size
theorem vY {A:Option Addr}{sz:Nat}{t:TypeId}{xs:List Value}{cs:Array Value} (h:HE.holds base W (.row A n c t' sz xs)) (h3:W.heap[b]?=some (.cells cs t fz)) (hne:t'≠t):(HE.row A n c t' sz xs).id≠some b:=by
 intro hid
 rcases h.2 with ⟨h1,_⟩|⟨g,cap,cur,h1,_,h4,_⟩
 ·injection h1 with e1
  subst e1
  cases hid
 ·injection h1 with e1
  subst e1;obtain rfl:g=b:=Zg hid;rw [h3] at h4;injection h4 with h4
  injection h4 with _ h5
  exact hne h5.symm
theorem JJ.kK {H L:List HE}{t:TypeId} (hJ:JJ w0 H w W) (hs:Hp w0 H w) (h2:w.heap.size≤b) (h3:W.heap[b]?=some (.cells cs.toArray t (0,0))) (hb:w.heap.size≤w1.heap.size) (hL:Hp w1 L W) (hne:∀x∈L,x.id≠some b):Hp w0 (.blk b t cs (0,0)::(L++H)) W:=by
 have h1:=hs.join (⟨hJ.bl,fun x hx=>oE (hL.own x hx) hb,hL.nd⟩:Hp w L W);refine ⟨h1.below,fun x hx=> ?_, ?_⟩
 ·rcases YH.1 hx with rfl|hx
  ·exact ⟨Y1 hs.size h2,h3,.inr (YA _)⟩
  ·exact h1.own x hx
 ·rw [Z4];show (b::(L++H).filterMap HE.id).Nodup;refine aaa.2 ⟨fun hm=> ?_,h1.nd⟩;obtain ⟨y,hy,hyb⟩:=ZE.1 hm
  rcases Zm.1 hy with hy|hy
  ·exact hne y hy hyb
  ·have:=(eU (hs.own y hy) hyb).2;omega
theorem O2 {A A':Option Addr}{sz n' sz':Nat}{t:TypeId}{xs xs':List Value} (h:HE.holds base W (.row A n c t sz xs)) (h':HE.holds base W (.row A' n' c' t' sz' xs')) (hne:t≠t') (b:Nat) (h1:(HE.row A n c t sz xs).id=some b):(HE.row A' n' c' t' sz' xs').id≠some b:=by
 rcases h.2 with ⟨h2,_⟩|⟨g,cap,cur,h2,_,h4,_⟩
 ·injection h2 with e1
  subst e1
  cases h1
 ·injection h2 with e1
  subst e1;obtain rfl:g=b:=Zg h1;exact vY h' h4 (fun e=>hne e.symm)
theorem JJ.Gm {H:List HE}{t:TypeId}{c2:Nat}{A1 A2:Option Addr} (hJ:JJ w0 H w W) (hs:Hp w0 H w) (h2:w.heap.size≤b) (h3:W.heap[b]?=some (.cells cs.toArray t (0,0)))
  (o1:W.ownsRow w.heap.size t1 s1 (.slice A1 n1 c1) n1 xs1) (o2:W.ownsRow w.heap.size t2 s2 (.slice A2 n2 c2) n2 xs2) (h12:t1≠t2) (ht1:t1≠t) (ht2:t2≠t):Hp w0 (.blk b t cs (0,0)::.row A1 n1 c1 t1 s1 xs1::.row A2 n2 c2 t2 s2 xs2::H) W:=by
 have hL:Hp w [.row A1 n1 c1 t1 s1 xs1,.row A2 n2 c2 t2 s2 xs2] W:=by
  exact Wb
 refine JJ.kK hJ hs h2 h3 (YA _) hL fun x hx=> ?_
 rcases YH.1 hx with rfl|hx
 ·exact vY o1 h3 ht1
 ·obtain rfl:=YT.1 hx;exact vY o2 h3 ht2
def E7 (base:Nat) (t:TypeId) (n sz:Nat) (cs:List Value):VP:=fun v W=>∃A c,v=.slice A n c∧W.ownsRow base t sz (.slice A n c) n cs
theorem E7.ext {t:TypeId}{sz:Nat} (v:Value) (w w':World) (h:E7 base t n sz cs v w) (hb:Below w.heap.size w w'):E7 base t n sz cs v w':=let ⟨A,c,h1,h2⟩:=h;⟨A,c,h1,k8 h2 hb⟩
def vX (base:Nat) (t1 t2:TypeId) (n1 s1 n2 s2:Nat) (xs1 xs2:List Value):VP:=fun v W=>∃A c B k,v=.agg #[.slice A n1 c,.slice B n2 k]∧W.ownsRow base t1 s1 (.slice A n1 c) n1 xs1∧W.ownsRow base t2 s2 (.slice B n2 k) n2 xs2
theorem vX.ext (v:Value) (w w':World) (h:vX base t1 t2 n1 s1 n2 s2 xs1 xs2 v w) (hb:Below w.heap.size w w'):vX base t1 t2 n1 s1 n2 s2 xs1 xs2 v w':=let ⟨A,c,B,k,h1,h2,h3⟩:=h;⟨A,c,B,k,h1,k8 h2 hb,k8 h3 hb⟩
end
section
variable {ro:Mode}
section
variable {P:Program}{N:Nat}{ops:Array Oper}{Q:Kq}{ρ:Rf}{w w0:World}{rest:List Oper}{d:Nat}{ty:TypeId}{pos:String}{af:Array Edge}
theorem uk {t e u:TypeId}{x y:Operand}{A:Option Addr}{n':Nat} (ht:P.underlying t=some (.slice e)) (hx:ev ρ x=.slice A n c) (hy:ev ρ y=.slice none n' c') (hN:d<N)
  (kk:WL ro P N ops Q rest (cP ρ d (.bool A.isNone)) w):WL ro P N ops Q (⟨some d,.binOp .eql t x y u,ty,pos,af,none⟩::rest) ρ w:=
 aV rfl rfl hN (by
  have h1:=Go.Lib.run_eql_slice_nil (P:=P) w t e A n c n' c' ht;simp only [execOp,hx,hy];simp [eqGuard,h1]) kk
end
end
variable {N:Nat}
def sm {α:Type}:List α→(α→Dyadic)→Dyadic
 |[],_=>0
 |a::l,f=>f a+sm l f
section
variable {α β:Type}
theorem pe (l m:List α) (f:α→Dyadic):sm (l++m) f=sm l f+sm m f:=by
 induction l with
 |nil=>simp [sm,aaI]
 |cons a l ih=>simp only [YB,sm,ih];grind
theorem kd (l:List α) (a:α) (f:α→Dyadic):sm (l++[a]) f=sm l f+f a:=by
 rw [pe];simp only [sm];grind
theorem cU {l:List α}{f g:α→Dyadic} (h:∀a∈l,f a=g a):sm l f=sm l g:=by
 induction l with
 |nil=>rfl
 |cons a l ih=>rw [sm,sm,h a YD,ih fun b hb=>h b (YK _ hb)]
theorem uG {l:List α}{f:α→Dyadic} (h:∀a∈l,f a=0):sm l f=0:=by
 induction l with
 |nil=>rfl
 |cons a l ih=>rw [sm,h a YD,ih fun b hb=>h b (YK _ hb)];grind
theorem Oa (l:List α) (f g:α→Dyadic):sm l (fun a=>f a+g a)=sm l f+sm l g:=by
 induction l with
 |nil=>simp [sm]
 |cons a l ih=>simp only [sm,ih];grind
theorem ql (l:List α) (f:α→Dyadic) (c:Dyadic):sm l (fun a=>f a*c)=sm l f*c:=by
 induction l with
 |nil=>simp only [sm];grind
 |cons a l ih=>simp only [sm,ih];grind
theorem k7 (l:List α) (f:α→Dyadic) (c:Dyadic):sm l (fun a=>c*f a)=c*sm l f:=by
 induction l with
 |nil=>simp only [sm];grind
 |cons a l ih=>simp only [sm,ih];grind
theorem wE (l:List α) (g:α→β) (f:β→Dyadic):sm (l.map g) f=sm l fun a=>f (g a):=by
 induction l with
 |nil=>rfl
 |cons a l ih=>rw [Y6,sm,sm,ih]
theorem Gl (l:List α) (g:α→List β) (f:β→Dyadic):sm (l.flatMap g) f=sm l fun a=>sm (g a) f:=by
 induction l with
 |nil=>rfl
 |cons a l ih=>rw [abu,pe,sm,ih]
theorem I0 (l:List α) (m:List β) (f:α→β→Dyadic):sm l (fun a=>sm m (f a))=sm m fun b=>sm l fun a=>f a b:=by
 induction l with
 |nil=>exact (uG fun b _=>rfl).symm
 |cons a l ih=>simp only [sm];rw [ih,←Oa]
theorem rJ (n p:Nat) (c:Dyadic):sm (List.range n) (fun q=>if q=p then c else 0)=if p<n then c else 0:=by
 induction n with
 |zero=>rw [Yu Yo];rfl
 |succ n ih=>
  rw [aah,kd,ih]
  rcases Nat.lt_trichotomy p n with h|h|h
  ·rw [Yt h,Yu (show ¬n=p by omega),Yt (show p<n+1 by omega)];grind
  ·rw [Yu (show ¬p<n by omega),Yt h.symm,Yt (show p<n+1 by omega)];grind
  ·rw [Yu (show ¬p<n by omega),Yu (show ¬n=p by omega),Yu (show ¬p<n+1 by omega)];grind
end
def ji (N:Nat) (L:List (Nat×Dyadic)):List Dyadic:=(List.range N).map fun p=>sm L fun q=>if q.1=p then q.2 else 0
theorem jS (N:Nat) (L:List (Nat×Dyadic)):(ji N L).length=N:=by simp [ji]
theorem vc (N:Nat):ji N []=List.replicate N 0:=by
 refine List.ext_getElem (by simp [ji]) fun i h1 h2=> ?_;simp [ji,sm]
theorem mO {p:Nat} (L:List (Nat×Dyadic)) (h:p<N):(ji N L)[p]?=some (sm L fun q=>if q.1=p then q.2 else 0):=by
 unfold ji;rw [YJ,ZF h]
 rfl
theorem zG {p:Nat}{L:List (Nat×Dyadic)}{x v:Dyadic} (h:(ji N L)[p]?=some x):(ji N L).set p (x+v)=ji N (L++[(p,v)]):=by
 have hp:p<N:=by have:=(YL.1 h).1;rwa [jS] at this
 rw [mO L hp] at h;refine ZI fun i=> ?_;rw [aaf];by_cases hi:p=i
 ·subst hi;rw [Yt rfl,jS,Yt hp,mO _ hp,kd,←Zg h,Yt rfl]
 ·rw [Yu hi];by_cases hin:i<N
  ·rw [mO _ hin,mO _ hin,kd,Yu hi];congr 1;grind
  ·rw [YQ (by rw [jS];omega),YQ (by rw [jS];omega)]
theorem DY {l:List α}{f:α→Dyadic} (h:∀a∈l,Sz k (f a)):Sz (k+l.length) (sm l f):=by
 induction l with
 |nil=>exact Sz.zero _
 |cons a l ih=>
  have h1:=ih fun b hb=>h b (YK _ hb);have h2:=((h a YD).mono (show k≤k+l.length by omega)).add h1;rw [sm,Y3];exact h2.mono Yo
theorem AY {L:List (Nat×Dyadic)} (h:∀a∈L,Sz k a.2):∀x∈ji N L,Sz (k+L.length) x:=fun x hx=>by
 obtain ⟨p,_,rfl⟩:=YF.1 hx;refine DY fun a ha=> ?_;split
 ·exact h a ha
 ·exact Sz.zero _
def al:List Nat→Nat
 |[]=>1
 |d::ds=>(d+1)*al ds
def bW:List Nat→Nat→List Nat
 |[],_=>[]
 |d::ds,p=>p % (d+1)::bW ds (p/(d+1))
def dV:List Nat→List Nat→Nat
 |d::ds,r::rs=>r+(d+1)*dV ds rs
 |_,_=>0
def l5:List Nat→List Nat→Prop
 |[],[]=>True
 |d::ds,r::rs=>r≤d∧l5 ds rs
 |_,_=>False
theorem di (ds:List Nat):0<al ds:=by
 induction ds with
 |nil=>exact Nat.one_pos
 |cons d ds ih=>exact Nat.mul_pos Yo ih
theorem nG:∀(ds:List Nat) (p:Nat),(bW ds p).length=ds.length
 |[],_=>rfl
 |d::ds,p=>by rw [bW,Y3,nG ds,Y3]
theorem iU:∀(ds:List Nat) (p:Nat),l5 ds (bW ds p)
 |[],_=>trivial
 |d::ds,p=>⟨by have:=YU p (show 0<d+1 by omega);omega,iU ds _⟩
theorem C5:∀{ds:List Nat}{p:Nat},p<al ds→dV ds (bW ds p)=p
 |[],p,h=>by
  have:p<1:=h;show 0=p;omega
 |d::ds,p,h=>by
  have h1:p/(d+1)<al ds:=by rw [ZH Yo,YO];exact h
  rw [bW,dV,C5 h1,aba]
theorem lB:∀{ds rs:List Nat},l5 ds rs→dV ds rs<al ds
 |[],[],_=>Nat.one_pos
 |d::ds,r::rs,h=>by
  have h1:=lB h.2;have h2:=h.1;rw [dV,al];have h3:(d+1)*dV ds rs+(d+1)≤(d+1)*al ds:=by
   have:=Y4 (d+1) (show dV ds rs+1≤al ds by omega);rw [Zj,YV] at this;exact this
  omega
theorem kj:∀{ds rs:List Nat},l5 ds rs→bW ds (dV ds rs)=rs
 |[],[],_=>rfl
 |d::ds,r::rs,h=>by
  have h2:=h.1;rw [dV,bW,aaA,Za Yo,ZR _ _ Yo,Zt Yo,YZ,kj h.2]
theorem HM (d:Nat) (ds:List Nat) (f:Nat→Dyadic):sm (List.range (al (d::ds))) f=sm (List.range (al ds)) fun q=>sm (List.range (d+1)) fun r=>f (r+(d+1)*q):=by
 have key:∀n,sm (List.range ((d+1)*n)) f=sm (List.range n) fun q=>sm (List.range (d+1)) fun r=>f (r+(d+1)*q):=fun n=>by
  induction n with
  |zero=>rfl
  |succ n ih=>
   rw [aah,kd,←ih,ZZ,List.range_add,pe,wE];congr 1;exact cU fun a _=>by rw [aat]
 exact key _
def So (d:Int):List Int:=(List.range (d.toNat+1)).map fun (k:Nat)=>(k:Int)
def Tf:List Int→List (List Int)
 |[]=>[[]]
 |d::ds=>(So d).flatMap fun k=>(Tf ds).map (k:: ·)
def fi (n:Nat):List Int:=List.replicate n 0
def Ye:List Int→List Int→Option (List Int)
 |d::ds,k::l=>match Ye ds l with
  |some l'=>some (k::l')
  |none=>if k<d then some ((k+1)::fi l.length) else none
 |_,_=>none
def WI {α:Type} (f:α→Option α):α→List α→Prop
 |a,[b]=>b=a∧f a=none
 |a,b::L=>b=a∧∃c,f a=some c∧WI f c L
 |_,[]=>False
theorem rN (n:Nat):(fi n).length=n:=by simp [fi]
def Xx:Int→List Int→Bool
 |_,[]=>true
 |n,d::ds=>decide (0≤d) && (decide (d≤127) && (decide (n*(d+1)≤65536) && Xx (n*(d+1)) ds))
def fX (l:List Int):ByteArray:=str (l.map z5)
def X6 (ds:List Int):List ByteArray:=if Xx 1 ds then (Tf ds).map fX else []
def gX (d:Int) (s:ByteArray):List ByteArray:=(So d).map fun q=>s++str [z5 q]
def X3 (ls:List Int) (k n:Nat):List Int:=ls.take k++fi (n-k)
variable {ds rs:List Nat}
def bin:Nat→Nat→Nat
 |_,0=>1
 |0,_+1=>0
 |n+1,k+1=>bin n k+bin n (k+1)
theorem qP (n:Nat):bin n 0=1:=by cases n<;>rfl
theorem ui:∀{n k:Nat},n<k→bin n k=0
 |0,k+1,_=>rfl
 |n+1,k+1,h=>by rw [bin,ui (show n<k by omega),ui (show n<k+1 by omega)]
theorem Ed:∀n,bin n n=1
 |0=>rfl
 |n+1=>by rw [bin,Ed n,ui (show n<n+1 by omega)]
theorem BB:∀n k:Nat,bin n k≤2^n
 |n,0=>by rw [qP];exact YY Yp
 |0,k+1=>Yx _
 |n+1,k+1=>by
  have h1:=BB n k;have h2:=BB n (k+1);rw [bin,Zh];omega
def nA (n:Nat):List Nat:=(List.range (n+1)).map (bin n)
theorem wj (n:Nat):(nA n).length=n+1:=by simp [nA]
theorem uM (h:k≤n):(nA n)[k]?=some (bin n k):=by
 unfold nA;exact Nj
def nD (n:Nat):Dyadic:=((n:Int):Dyadic)
theorem IZ:nD 0=0:=rfl
theorem Ag:nD 1=1:=rfl
theorem BA (a b:Nat):nD (a+b)=nD a+nD b:=by
 show Dyadic.ofIntWithPrec ((a+b:Nat):Int) 0=Dyadic.ofIntWithPrec (a:Int) 0+Dyadic.ofIntWithPrec (b:Int) 0;rw [rS,ZQ]
theorem Nq (a b:Nat):nD (a*b)=nD a*nD b:=by
 induction a with
 |zero=>rw [aaP,IZ];grind
 |succ a ih=>rw [ZA,BA,BA,ih,Ag];grind
theorem Rt (h:n<2^k):Sz k (nD n):=by
 refine ⟨(n:Int)*2^k, ?_, ?_⟩
 ·have:=pf (n:Int) 0 k;rw [show (0:Int)+(k:Int)=k by omega] at this;rw [this]
  rfl
 ·rw [aan,aaN,Int.natAbs_natCast,show 2*k=k+k by omega,YW];exact aaH h (YY Yp)
theorem vE {α β:Type}{m:Nat} (hm:0<m) (g:α→List β):∀(l:List α) (p:Nat),(∀a∈l,(g a).length=m)→(l.flatMap g)[p]?=(l[p/m]?).bind fun a=>(g a)[p % m]?
 |[],p,_=>by simp
 |a::l,p,h=>by
  have ha:=h a YD;rw [abu];by_cases hp:p<m
  ·rw [aav Yo,Zt hp,Za hp]
   rfl
  ·obtain ⟨q,rfl⟩:∃q,p=q+m:=⟨p-m,Yo⟩;rw [ZC Yo,ha,Nat.add_sub_cancel,vE hm g l q fun b hb=>h b (YK _ hb),Nat.add_div_right _ hm,Nat.add_mod_right,abe]
theorem ti {α β:Type}{m:Nat} (g:α→List β):∀(l:List α),(∀a∈l,(g a).length=m)→(l.flatMap g).length=l.length*m
 |[],_=>by simp
 |a::l,h=>by
  rw [abu,YE,h a YD,ti g l fun b hb=>h b (YK _ hb),Y3,ZA,aat]
def bq (l:List Nat):List Int:=l.map fun (n:Nat)=>(n:Int)
theorem dr (l:List Nat):(bq l).length=l.length:=by simp [bq]
theorem eO {l:List Nat}{i:Nat} (h:l[i]?=some n):(bq l)[i]?=some (n:Int):=by simp [bq,h]
theorem DZ {i d r:Nat} (hd:ds[i]?=some d) (hr:rs[i]?=some r):dV (ds.take (i+1)).reverse (rs.take (i+1)).reverse=r+(d+1)*dV (ds.take i).reverse (rs.take i).reverse:=by
 rw [aw hd,aw hr];simp [dV]
theorem Es {i d:Nat} (hd:ds[i]?=some d):al (ds.take (i+1)).reverse=(d+1)*al (ds.take i).reverse:=by
 rw [aw hd];simp [al]
theorem dA (a b:List Nat):al (a++b)=al a*al b:=by
 induction a with
 |nil=>simp [al]
 |cons d a ih=>rw [YB,al,al,ih,Zw]
theorem cI (ds:List Nat):al ds.reverse=al ds:=by
 induction ds with
 |nil=>rfl
 |cons d ds ih=>rw [aaS,dA,ih,al,al,al,YV,YO]
theorem ez (ds:List Nat) (i:Nat):al (ds.take i)≤al ds:=by
 have:ds=ds.take i++ds.drop i:=(Zy i ds).symm
 calc al (ds.take i)=al (ds.take i)*1:=(YV _).symm
  _≤al (ds.take i)*al (ds.drop i):=Y4 _ (di _)
  _=al ds:=by rw [←dA,Zy]
theorem m6 (A:Option Addr) (n c:Nat) (ds:List Int) (w:World) (hS:Sl w A n 1 (bD ds)) (hn:n≤1000000):
  Calls Tryz.prog 122 #[.slice A n c] w fun r w'=>∃B c',r=.returned (.slice B n c')∧w'.ownsRow w.heap.size 3 1 (.slice B n c') n (bD ds)∧Below w.heap.size w w':=by
 have hh:=Hp.start w
 rcases A with _|ad
 ·have hn0:n=0:=by
   exact Us
  subst hn0;have hl:ds=[]:=aai (by simpa [bD] using hS.1);subst hl;refine aj (N:=8) (l:=[.slice none 0 c]) Tryz.func122 rfl rfl (by simp) ?_;exact UI
 ·refine aj (N:=8) (l:=[.slice (some ad) n c]) Tryz.func122 rfl rfl (by simp) ?_;refine sr (aL (aa (ah (sr (mL ?_)))));refine uk bG.out rfl rfl Yp ?_;refine wO ?_;refine C6 ?_;intro b5 w5 hh;refine mL ?_;refine cu hh (i:=0) rfl rfl rfl (hS.ext hh.below) bG.out aJ.out rfl Yp ?one1 Yo Yo Yp ?kk1
  case one1=>first|rfl|assumption|exact bI _|exact oneCells_u8s _
  exact K7
theorem mN (A:Option Addr) (n c:Nat) (xs:List NR) (w:World) (hS:Sl w A n 3 (aA NR.cells xs)) (hn:n≤1000000):
  Calls Tryz.prog 194 #[.slice A n c] w fun r w'=>∃B c',r=.returned (.slice B n c')∧w'.ownsRow w.heap.size 33 3 (.slice B n c') n (aA NR.cells xs)∧Below w.heap.size w w':=by
 have hh:=Hp.start w
 rcases A with _|ad
 ·have hn0:n=0:=by
   exact Us
  subst hn0;have hl:xs=[]:=aai (by have:=hS.bk NR.len Yp;omega);subst hl;refine aj (N:=8) (l:=[.slice none 0 c]) Tryz.func194 rfl rfl (by simp) ?_;exact UI
 ·have hone:((aA NR.cells xs).all Value.oneCell')=true:=bK NR.one _;refine aj (N:=8) (l:=[.slice (some ad) n c]) Tryz.func194 rfl rfl (by simp) ?_;refine sr (aL (aa (ah (sr (mL ?_)))));refine uk bG.out rfl rfl Yp ?_;refine wO ?_;refine C6 ?_;intro b5 w5 hh;refine mL ?_;refine cu hh (i:=0) rfl rfl rfl (hS.ext hh.below) bG.out aJ.out rfl Yp ?one2 Yo Yo Yp ?kk2
  case one2=>first|rfl|assumption|exact bI _|exact oneCells_u8s _
  exact K7
theorem Gs (A:Option Addr) (n c:Nat) (l:List Int) (g:FuncId) (cap:List Value) (p:Int→Bool) (w:World) (hS:Sl w A n 1 (bD l)) (hn:n≤1000000) [au Tryz.prog g]
  (hg:∀(z:Int) (w1:World),z∈l→Below w.heap.size w w1→Calls Tryz.prog g (.int .i64 z::cap).toArray w1 fun r w'=>r=.returned (.bool (p z))∧Below w1.heap.size w1 w'):
  Calls Tryz.prog 131 #[.slice A n c,.func (.func g) #[] cap.toArray] w fun r w'=>∃v,r=.returned (.int .i64 v)∧(0≤v↔l.any p=true)∧Below w.heap.size w w':=by
 have hh:=Hp.start w;have hln:l.length=n:=by have:=hS.1;simpa [bD] using this
 refine aj (N:=19) (l:=[.slice A n c,.func (.func g) #[] cap.toArray]) Tryz.func131 rfl rfl (by simp) ?_;refine zJ ?_;refine aT [4,5,8,9,10,11,12,13,14,15,16,17,18] 8
  (fun v w'=>∃i:Nat,i≤n∧v=.int .i64 i∧(l.take i).any p=false∧Hp w [] w')
  (fun v _=>n-(intOf v).toNat) ?_ ?_
 ·exact ⟨0,Yx _,rfl,rfl,hh⟩
 ·clear hh;rintro ρ' v w' ⟨i,hi,rfl,hall,hh⟩;by_cases hlt:i<n
  ·obtain ⟨z,hz⟩:=ao (l:=l) (k:=i) Yo;have hgi:=cK hz;obtain ⟨ad,rfl,hr⟩:=hS.at_ Yo;have hc:=fun w1=>hg z w1 (Yy hz)
   cases gz:p z with
   |true=>
    rw [gz] at hc;refine sr ?_;refine nq ?_;refine iY ?_;refine mL (mI ?_);refine bZ ?_;refine nZ ?_;exact Qs
   |false=>
    rw [gz] at hc;refine sr ?_;refine nq ?_;refine iY ?_;refine mL (mI ?_);refine bZ ?_;refine nZ ?_;exact Cl
  ·exact Pn
theorem Fu (A:Option Addr) (n c:Nat) (l:List Int) (g:FuncId) (cap:List Value) (p:Int→Bool) (w:World) (hS:Sl w A n 1 (bD l)) (hn:n≤1000000) [au Tryz.prog g]
  (hg:∀(z:Int) (w1:World),z∈l→Below w.heap.size w w1→Calls Tryz.prog g (.int .i64 z::cap).toArray w1 fun r w'=>r=.returned (.bool (p z))∧Below w1.heap.size w1 w'):
  Calls Tryz.prog 80 #[.slice A n c,.func (.func g) #[] cap.toArray] w fun r w'=>r=.returned (.bool (l.any p))∧Below w.heap.size w w':=by
 have hh:=Hp.start w;refine aj (N:=9) (l:=[.slice A n c,.func (.func g) #[] cap.toArray]) Tryz.func80 rfl rfl (by simp) ?_;refine sr (aB (aa (sr (mL ?_))));refine iY ?_;refine ay (Gs A n c l g cap p _ (hS.ext hh.below) hn hg) au.out rfl Yp ?_;exact QN
theorem FQ (A:Option Addr) (n c:Nat) (l:List NR) (g:FuncId) (cap:List Value) (p:NR→Bool) (w:World) (hS:Sl w A n 3 (aA NR.cells l)) (hn:n≤1000000) [au Tryz.prog g]
  (hg:∀(z:NR) (w1:World),z∈l→Below w.heap.size w w1→Calls Tryz.prog g (.agg #[.bool z.neg,.string z.aY,.int .i64 z.e]::cap).toArray w1 fun r w'=>r=.returned (.bool (p z))∧Below w1.heap.size w1 w'):
  Calls Tryz.prog 132 #[.slice A n c,.func (.func g) #[] cap.toArray] w fun r w'=>∃v,r=.returned (.int .i64 v)∧(0≤v↔l.any p=true)∧Below w.heap.size w w':=by
 have hh:=Hp.start w;have hln:=hS.bk NR.len Yp;refine aj (N:=19) (l:=[.slice A n c,.func (.func g) #[] cap.toArray]) Tryz.func132 rfl rfl (by simp) ?_;refine zJ ?_;refine aT [4,5,8,9,10,11,12,13,14,15,16,17,18] 8
  (fun v w'=>∃i:Nat,i≤n∧v=.int .i64 i∧(l.take i).any p=false∧Hp w [] w')
  (fun v _=>n-(intOf v).toNat) ?_ ?_
 ·exact ⟨0,Yx _,rfl,rfl,hh⟩
 ·clear hh;rintro ρ' v w' ⟨i,hi,rfl,hall,hh⟩;by_cases hlt:i<n
  ·obtain ⟨z,hz⟩:=ao (l:=l) (k:=i) Yo;obtain ⟨ad,rfl,hr⟩:=hS.at_ Yo;have hc:=fun w1=>hg z w1 (Yy hz)
   cases gz:p z with
   |true=>
    rw [gz] at hc;refine sr ?_;refine nq ?_;refine iY ?_;refine mL (mI ?_);refine bZ ?_;refine cg (vs:=[_,_,_]) aJ.out rfl ((hr.ext hh.below).recAt NR.len hz) rfl Yp ?_;exact Qs
   |false=>
    rw [gz] at hc;refine sr ?_;refine nq ?_;refine iY ?_;refine mL (mI ?_);refine bZ ?_;refine cg (vs:=[_,_,_]) aJ.out rfl ((hr.ext hh.below).recAt NR.len hz) rfl Yp ?_;exact Cl
  ·exact Pn
theorem Fv (A:Option Addr) (n c:Nat) (l:List NR) (g:FuncId) (cap:List Value) (p:NR→Bool) (w:World) (hS:Sl w A n 3 (aA NR.cells l)) (hn:n≤1000000) [au Tryz.prog g]
  (hg:∀(z:NR) (w1:World),z∈l→Below w.heap.size w w1→Calls Tryz.prog g (.agg #[.bool z.neg,.string z.aY,.int .i64 z.e]::cap).toArray w1 fun r w'=>r=.returned (.bool (p z))∧Below w1.heap.size w1 w'):
  Calls Tryz.prog 83 #[.slice A n c,.func (.func g) #[] cap.toArray] w fun r w'=>r=.returned (.bool (l.any p))∧Below w.heap.size w w':=by
 have hh:=Hp.start w;refine aj (N:=9) (l:=[.slice A n c,.func (.func g) #[] cap.toArray]) Tryz.func83 rfl rfl (by simp) ?_;refine sr (aB (aa (sr (mL ?_))));refine iY ?_;refine ay (FQ A n c l g cap p _ (hS.ext hh.below) hn hg) au.out rfl Yp ?_;exact QN
variable {xs:List Dyadic}
def jq:Int→List Int→Int
 |n,[]=>n
 |n,d::ds=>if d<0∨127<d∨4096<n*(d+1) then 0 else jq (n*(d+1)) ds
def VE:Int→List Int→Int
 |n,[]=>n
 |n,d::ds=>VE (min (n*(d+1)) 4097) ds
def XS (ds:List Int):Int:=if ds.any (fun d=> !eC d) then -1 else VE 1 ds
def xN (a:NR):Bool:= !(((nR a.d).neg==a.neg && (nR a.d).aY==a.aY) && (nR a.d).e==a.e)
theorem rR {a:NR}:xN a=false↔nR a.d=a:=by
 unfold xN;rw [Bool.not_eq_false',mM]
def fE (ds:List Int) (cs:List NR):Int:=
 if 12<ds.length∨ds.any (fun d=> !eC d)=true then 1 else if jq 1 ds=0 then 3 else if (cs.length:Int)≠jq 1 ds then 1 else if cs.any xN=true then 1 else 0
theorem KR {ds:List Int} (h:ds.any (fun d=> !eC d)=false):∃ns:List Nat,ds=bq ns∧∀n∈ns,n≤127:=by
 refine ⟨ds.map Int.toNat, ?_,fun n hn=> ?_⟩
 ·unfold bq;rw [Zs];refine (abr ds).symm.trans (ZV fun d hd=> ?_);have:=aab.1 h d hd;simp [eC] at this;show d=((d.toNat:Nat):Int);omega
 ·obtain ⟨d,hd,rfl⟩:=YF.1 hn;have:=aab.1 h d hd;simp [eC] at this;omega
theorem FH {ns:List Nat} (h:∀n∈ns,n≤127):(bq ns).any (fun d=> !eC d)=false:=by
 rw [aab];intro d hd;obtain ⟨n,hn,rfl⟩:=YF.1 hd;have:=h n hn;simp [eC];omega
theorem kY:∀(ns:List Nat) (n:Nat),1≤n→n≤4096→(∀d∈ns,d≤127)→jq n (bq ns)=if n*al ns≤4096 then ((n*al ns:Nat):Int) else 0
 |[],n,_,h,_=>by show (n:Int)=_;rw [al,YV,Yt h]
 |d::ns,n,h1,h2,h3=>by
  show (if (d:Int)<0∨127<(d:Int)∨4096<(n:Int)*((d:Int)+1) then 0 else jq ((n:Int)*((d:Int)+1)) (bq ns))=_;have hd:=h3 d YD;have e1:(n:Int)*((d:Int)+1)=((n*(d+1):Nat):Int):=by rw [ZB,ZQ];rfl
  rw [e1];by_cases hg:n*(d+1)≤4096
  ·rw [Yu Yo,kY ns (n*(d+1)) (Nat.mul_pos h1 Yo) hg fun x hx=>h3 x (YK _ hx),al,Zw]
  ·have h4:n*(d+1)*1≤n*(d+1)*al ns:=Y4 _ (di ns);rw [Yt Yo,Yu];rw [al,←Zw];omega
theorem Hb:∀(ds:List Int) (n:Int),1≤n→n≤4096→0≤jq n ds∧jq n ds≤4096
 |[],n,_,h=>by show 0≤n∧n≤4096;omega
 |d::ds,n,h1,h2=>by
  rw [jq];split
  ·omega
  ·rename_i hg;have:1*1≤n*(d+1):=Int.mul_le_mul h1 Yo Yp Yo;exact Hb ds _ Yo Yo
structure FV (ds:List Int) (cs:List NR) (ns:List Nat) (xs:List Dyadic):Prop where
 Xw:ds=bq ns
 num:cs=xs.map nR
 Wy:ns.length≤12
 low:∀n∈ns,n≤127
 len:xs.length=al ns
 max:al ns≤4096
theorem SX {ds:List Int}{cs:List NR} (h:fE ds cs=0):∃ns xs,FV ds cs ns xs∧xs=cs.map NR.d:=by
 unfold fE at h;split at h
 ·cases h
 rename_i h1;split at h
 ·cases h
 rename_i h2;split at h
 ·cases h
 rename_i h3;split at h
 ·cases h
 rename_i h4;have hb:ds.any (fun d=> !eC d)=false:=by
  cases hx:ds.any (fun d=> !eC d) with
  |false=>rfl
  |true=>exact absurd (.inr hx) h1
 obtain ⟨ns,rfl,hl⟩:=KR hb;have hc:=kY ns 1 Yp Yp hl;rw [aaC] at hc;have hc1:jq ((1:Nat):Int) (bq ns)=jq 1 (bq ns):=rfl;rw [hc1] at hc;have hmax:al ns≤4096:=by
  apply aa1;intro hg;rw [Yu hg] at hc;exact h2 hc
 rw [Yt hmax] at hc;have hlen:cs.length=al ns:=by
  have:(cs.length:Int)=jq 1 (bq ns):=Z9.1 h3;rw [hc] at this;omega
 refine ⟨ns,cs.map NR.d,⟨rfl, ?_,(by have h2:¬12<(bq ns).length:=fun h=>h1 (.inl h);rw [dr] at h2;omega),hl,by rw [YI,hlen],hmax⟩,rfl⟩;rw [Zs];refine (abr cs).symm.trans (ZV fun a ha=> ?_);have h5:xN a=false:=by
  cases hx:xN a with
  |false=>rfl
  |true=>exact absurd (aae.2 ⟨a,ha,hx⟩) h4
 exact (rR.1 h5).symm
theorem FV.ok {ds:List Int}{cs:List NR}{ns:List Nat} (h:FV ds cs ns xs):fE ds cs=0:=by
 obtain ⟨rfl,rfl,h1,h2,h3,h4⟩:=h;have hc:=kY ns 1 Yp Yp h2;rw [aaC,Yt h4] at hc;have hc1:jq ((1:Nat):Int) (bq ns)=jq 1 (bq ns):=rfl;rw [hc1] at hc;have hp:=di ns;unfold fE;rw [Yu,Yu Yo,Yu (by rw [YI];omega),Yu]
 ·rw [aae];rintro ⟨a,ha,hx⟩;obtain ⟨x,_,rfl⟩:=YF.1 ha;have:xN (nR x)=false:=rR.2 (by rw [bL]);rw [this] at hx
  cases hx
 ·rw [dr,FH h2];rintro (h|h)
  ·omega
  ·cases h
theorem fP (A:Option Addr) (n c:Nat) (ds:List Int) (w:World) (hS:Sl w A n 1 (bD ds)) (hn:n≤1000000):
  Calls Tryz.prog 82 #[.slice A n c] w fun r w'=>r=.returned (.int .i64 (jq 1 ds))∧Below w.heap.size w w':=by
 have hh:=Hp.start w;have hln:ds.length=n:=by have:=hS.1;simpa [bD] using this
 refine aj (N:=31) (l:=[.slice A n c]) Tryz.func82 rfl rfl (by simp) ?_;refine G6 ?_;refine bH [2,3,5,8,9,10,11,12,13,14,15,16,17,18,19,20,21,22,23,24,25,26,27,28,29] 3 8
  (fun v3 v w'=>∃(i:Nat) (q:Int),i≤n∧v=.int .i64 i∧v3=.int .i64 q∧1≤q∧q≤4096∧jq 1 ds=jq q (ds.drop i)∧Hp w [] w')
  (fun _ v _=>n-(intOf v).toNat) ?_ ?_
 ·exact ⟨0,1,Yx _,rfl,rfl,Yo,Yo,rfl,hh⟩
 ·clear hh;rintro ρ' v3 v w' ⟨i,q,hi,rfl,rfl,hq1,hq2,hc,hh⟩;by_cases hlt:i<n
  ·obtain ⟨d,hd⟩:=ao (l:=ds) (k:=i) Yo;have hgi:=cK hd;obtain ⟨ad,rfl,hr⟩:=hS.at_ Yo;rw [im hd,jq] at hc;by_cases h1:d<0
   ·rw [Yt (.inl h1)] at hc;refine sr ?_;refine dI ?_;refine bZ ?_;refine nZ ?_;refine aI (aa (ah (sr (mI ?_))));refine a9 (mB ?_);refine gS (gS ?_);refine gi ?_;refine mB ?_;refine gS (gS (gS (gS (gS ?_))));refine gi ?_;exact Tw
   ·by_cases h2:127<d
    ·rw [Yt (.inr (.inl h2))] at hc;refine sr ?_;refine dI ?_;refine bZ ?_;refine nZ ?_;refine aI (aa (ah (sr (mI ?_))));refine a9 (mB (gT (mI (gT ?_))));refine bT ?_;refine fK ?_;refine mB ?_;refine gS (gS (gS (gS (gS ?_))));refine gi ?_;exact Tw
    ·have hm1:1*1≤q*(d+1):=Int.mul_le_mul hq1 Yo Yp Yo;have hm2:q*(d+1)≤4096*128:=Int.mul_le_mul hq2 Yo Yo Yp;by_cases h3:4096<q*(d+1)
     ·rw [Yt (.inr (.inr h3))] at hc;refine sr ?_;refine dI ?_;refine bZ ?_;refine nZ ?_;refine aI (aa (ah (sr (mI ?_))));refine a9 (mB (gT (mI (gT ?_))));refine bT ?_;refine fK ?_;refine mB (gT (mI (gT (mI (gT ?_)))));refine a8 (gT ?_);refine mulC (gT ?_);refine bT ?_;refine fK ?_;exact Tw
     ·rw [Yu Yo] at hc;refine sr ?_;refine dI ?_;refine bZ ?_;refine nZ ?_;refine aI (aa (ah (sr (mI ?_))));refine a9 (mB (gT (mI (gT ?_))));refine bT ?_;refine fK ?_;refine mB (gT (mI (gT (mI (gT ?_)))));refine a8 (gT ?_);refine mulC (gT ?_);refine bT ?_;refine fK ?_;refine aa (cF (aq (ai (ak (mI (mI ?_))))));refine a8 ?_;refine mulC (aI (aD (bz (ai (ak ?_)))));refine a8 (mI (aD (ai ?_)));refine ⟨⟨i+1,_,Yo,rfl,rfl,Yo,Yo,hc,hh⟩,by show n-(i+1)<n-i;omega, ?_⟩;exact er
  ·rw [aaw Yo] at hc;refine sr ?_;refine G4 ?_;refine dH ?_;exact ⟨by rw [hc];rfl,hh.below⟩
theorem F2 (d:Int) (w:World):
  Calls Tryz.prog 81 #[.int .i64 d] w fun r w'=>r=.returned (.bool (!eC d))∧Below w.heap.size w w':=by
 have hh:=Hp.start w;by_cases h1:d<0
 ·refine aj (N:=9) (l:=[.int .i64 d]) Tryz.func81 rfl rfl (by simp) ?_;refine sr (aB (aa (sr (mI ?_))));refine a9 (mB ?_);refine gS (gS ?_);refine gi ?_;refine aB (aa (av ?_));refine dH ?_;refine ⟨?_,hh.below⟩;unfold eC;rw [YS (show ¬0≤d by omega)]
  rfl
 ·by_cases h2:127<d
  ·refine aj (N:=9) (l:=[.int .i64 d]) Tryz.func81 rfl rfl (by simp) ?_;refine sr (aB (aa (sr (mI ?_))));refine a9 (mB (gT (mI (gT ?_))));refine bT ?_;refine fK ?_;refine aB (aa (av ?_));refine dH ?_;refine ⟨?_,hh.below⟩;unfold eC;rw [YS (show ¬d≤127 by omega),Bool.and_false]
   rfl
  ·refine aj (N:=9) (l:=[.int .i64 d]) Tryz.func81 rfl rfl (by simp) ?_;refine sr (aB (aa (sr (mI ?_))));refine a9 (mB (gT (mI (gT ?_))));refine bT ?_;refine fK ?_;refine aB (aa (av ?_));refine dH ?_;refine ⟨?_,hh.below⟩;unfold eC;rw [YN (show 0≤d by omega),YN (show d≤127 by omega)]
   rfl
theorem Gy (a:NR) (w:World) (hT:dP w) (ha:a.ok):
  Calls Tryz.prog 84 #[.agg #[.bool a.neg,.string a.aY,.int .i64 a.e]] w fun r w'=>r=.returned (.bool (xN a))∧Below w.heap.size w w':=by
 have hh:=Hp.start w;have hf:=fun w1 hT1=>eo a w1 hT1 (by have:=ha.1;omega) (by have:=ha.2;omega) (by have:=ha.2;omega)
 cases hx:xN a with
 |false=>
  have he:=rR.1 hx;refine aj (N:=7) (l:=[.agg #[.bool a.neg,.string a.aY,.int .i64 a.e]]) Tryz.func84 rfl rfl (by simp) ?_;refine sr ?_;refine bO hh [_,_,_] ?_;intro b1 w1 hh;refine aB (aa (ah ?_));refine aK 3 [[(1,none)],[(3,some 0)],[(1,none)]] [(2,5),(1,4),(0,3)] hh mixed Yq ?_;refine dK 0 [_,_,_] ?_;refine dC (fun _ hj=>hf _ (hT.hp hj.hp)) ?_;refine dK 0 [_,_,_] ?_;refine aH ?_;intro f W hJ hV;have hb_1:=hJ.bl;obtain ⟨v5,v4,v3,_⟩:=hV;replace hh:=hJ.hp;refine aN (a6 (ae v5 (ae v4 (ae v3 aO)))) ?_;dsimp only [bP];clear hJ;refine HN rfl rfl (by first|assumption|rfl) Yp ?_;exact xW
 |true=>
  have he:¬nR a.d=a:=fun h=>by rw [rR.2 h] at hx;cases hx
  refine aj (N:=7) (l:=[.agg #[.bool a.neg,.string a.aY,.int .i64 a.e]]) Tryz.func84 rfl rfl (by simp) ?_;refine sr ?_;refine bO hh [_,_,_] ?_;intro b1 w1 hh;refine aB (aa (ah ?_));refine aK 3 [[(1,none)],[(3,some 0)],[(1,none)]] [(2,5),(1,4),(0,3)] hh mixed Yq ?_;refine dK 0 [_,_,_] ?_;refine dC (fun _ hj=>hf _ (hT.hp hj.hp)) ?_;refine dK 0 [_,_,_] ?_;refine aH ?_;intro f W hJ hV;have hb_1:=hJ.bl;obtain ⟨v5,v4,v3,_⟩:=hV;replace hh:=hJ.hp;refine aN (a6 (ae v5 (ae v4 (ae v3 aO)))) ?_;dsimp only [bP];clear hJ;refine Pz rfl rfl (by assumption) Yp ?_;exact xW
theorem xS (A B:Option Addr) (n c m c2:Nat) (ds:List Int) (cs:List NR) (w:World) (hT:dP w) (hS:Sl w A n 1 (bD ds)) (hS2:Sl w B m 3 (aA NR.cells cs)) (hn:n≤1000000) (hm:m≤1000000) (hc:∀a∈cs,a.ok):
  Calls Tryz.prog 39 #[.agg #[.slice A n c,.slice B m c2]] w fun r w'=>r=.returned (.int .i64 (fE ds cs))∧Below w.heap.size w w':=by
 have hh:=Hp.start w;have hln:ds.length=n:=by have:=hS.1;simpa [bD] using this
 have hlm:=hS2.bk NR.len Yp;have h1:=fun w1 hS1=>Fu A n c ds 81 [] (fun d=> !eC d) w1 hS1 hn (fun z w2 _ hb=>F2 z w2);have h2:=fun w1 (hT1:dP w1) hS1=>Fv B m c2 cs 84 [] xN w1 hS1 hm (fun z w2 hz hb=>Gy z w2 (hT1.ext hb) (hc z hz));have h3:=Hb ds 1 Yo Yo;unfold fE;by_cases g1:12<n
 ·refine y8 ?_;refine sr ?_;refine bO hh [_,_] ?_;intro b1 w1 hh;refine wy ?_;refine bp hh 0 ?_;refine aM ?_;refine bT (mB ?_);refine gS (gS ?_);refine jR ?_;refine gi ?_;refine GR ?_;refine dH ?_;exact ⟨by rw [Yt (.inl Yo)],hh.below⟩
 ·cases g2:ds.any (fun d=> !eC d) with
  |true=>
   refine y8 ?_;refine sr ?_;refine bO hh [_,_] ?_;intro b1 w1 hh;refine wy ?_;refine bp hh 0 ?_;refine aM ?_;refine bT (mB (gT (bo (gT ?_))));refine bp hh 0 ?_;refine aG rfl rfl ?_;refine bj hh (h1 _ (hS.ext hh.below)) rfl ?_;intro w11 hh;rw [g2];refine fK ?_;refine GR ?_;refine dH ?_;exact ⟨by rw [Yt (.inr rfl)],hh.below⟩
  |false=>
   rw [Yu (fun h=>h.elim (fun h=>by omega) (fun h=>by cases h))];by_cases g3:jq 1 ds=0
   ·refine y8 ?_;refine sr ?_;refine bO hh [_,_] ?_;intro b1 w1 hh;refine wy ?_;refine bp hh 0 ?_;refine aM ?_;refine bT (mB (gT (bo (gT ?_))));refine bp hh 0 ?_;refine aG rfl rfl ?_;refine bj hh (h1 _ (hS.ext hh.below)) rfl ?_;intro w11 hh;rw [g2];refine fK ?_;refine aB (aa (cF (sr (bo ?_))));refine bp hh 0 ?_;refine Io ?_;intro w16 hh;refine cH (aB (aa (cT (sr (aI (aa (av (bU (aF ?_)))))))));refine dH ?_;exact ⟨by rw [Yt g3],hh.below⟩
   ·rw [Yu g3];by_cases g4:(m:Int)=jq 1 ds
    ·rw [Yu (show ¬(cs.length:Int)≠jq 1 ds by omega)]
     cases g5:cs.any xN with
     |true=>
      refine y8 ?_;refine sr ?_;refine bO hh [_,_] ?_;intro b1 w1 hh;refine wy ?_;refine bp hh 0 ?_;refine aM ?_;refine bT (mB (gT (bo (gT ?_))));refine bp hh 0 ?_;refine aG rfl rfl ?_;refine bj hh (h1 _ (hS.ext hh.below)) rfl ?_;intro w11 hh;rw [g2];refine fK ?_;refine aB (aa (cF (sr (bo ?_))));refine bp hh 0 ?_;refine Io ?_;intro w16 hh;refine cH (aB (aa (cF (ah ?_))));refine Na ?_;refine dR ?_;refine fW 0 ?_;refine qe ?_;refine dR ?_;refine fW 0 ?_;refine dC (fun _ hj=>fP A n c ds _ (hS.ext hj.hp.below) hn) ?_;refine aH ?_;intro f W hJ hV;have hb_5:=hJ.bl;obtain ⟨v24,v23,v22,v21,v20,v19,_⟩:=hV;replace hh:=hJ.hp;refine Lc ?_;dsimp only [bP];clear hJ;refine dn (aB (aa (cF (aq (bz (ai (ah (sr (bo ?_)))))))));refine bp hh 0 ?_;refine bj hh (h2 _ (hT.hp hh) (hS2.ext hh.below)) rfl ?_;intro w28 hh;rw [g5];refine BK ?_;refine dH ?_;exact ⟨by rw [Yt rfl],hh.below⟩
     |false=>
      refine y8 ?_;refine sr ?_;refine bO hh [_,_] ?_;intro b1 w1 hh;refine wy ?_;refine bp hh 0 ?_;refine aM ?_;refine bT (mB (gT (bo (gT ?_))));refine bp hh 0 ?_;refine aG rfl rfl ?_;refine bj hh (h1 _ (hS.ext hh.below)) rfl ?_;intro w11 hh;rw [g2];refine fK ?_;refine aB (aa (cF (sr (bo ?_))));refine bp hh 0 ?_;refine Io ?_;intro w16 hh;refine cH (aB (aa (cF (ah ?_))));refine Na ?_;refine dR ?_;refine fW 0 ?_;refine qe ?_;refine dR ?_;refine fW 0 ?_;refine dC (fun _ hj=>fP A n c ds _ (hS.ext hj.hp.below) hn) ?_;refine aH ?_;intro f W hJ hV;have hb_5:=hJ.bl;obtain ⟨v24,v23,v22,v21,v20,v19,_⟩:=hV;replace hh:=hJ.hp;refine Lc ?_;dsimp only [bP];clear hJ;refine dn (aB (aa (cF (aq (bz (ai (ah (sr (bo ?_)))))))));refine bp hh 0 ?_;refine bj hh (h2 _ (hT.hp hh) (hS2.ext hh.below)) rfl ?_;intro w28 hh;rw [g5];refine aa (cF (aq (ai (sr (aI (aa (av ?_)))))));refine dH ?_;exact ⟨by rw [Yu Yp],hh.below⟩
    ·rw [Yt (show (cs.length:Int)≠jq 1 ds by omega)];refine y8 ?_;refine sr ?_;refine bO hh [_,_] ?_;intro b1 w1 hh;refine wy ?_;refine bp hh 0 ?_;refine aM ?_;refine bT (mB (gT (bo (gT ?_))));refine bp hh 0 ?_;refine aG rfl rfl ?_;refine bj hh (h1 _ (hS.ext hh.below)) rfl ?_;intro w11 hh;rw [g2];refine fK ?_;refine aB (aa (cF (sr (bo ?_))));refine bp hh 0 ?_;refine Io ?_;intro w16 hh;refine cH (aB (aa (cF (ah ?_))));refine Na ?_;refine dR ?_;refine fW 0 ?_;refine qe ?_;refine dR ?_;refine fW 0 ?_;refine dC (fun _ hj=>fP A n c ds _ (hS.ext hj.hp.below) hn) ?_;refine aH ?_;intro f W hJ hV;have hb_5:=hJ.bl;obtain ⟨v24,v23,v22,v21,v20,v19,_⟩:=hV;replace hh:=hJ.hp;refine Lc ?_;dsimp only [bP];clear hJ;refine dn (aB (aa (cT (sr (aI (aa (av (bU (aF ?_)))))))));refine dH ?_;exact ⟨rfl,hh.below⟩
def Uy:List Nat→List Nat→Bool
 |[],[]=>true
 |d::ds,r::rs=>decide (r≤d) && Uy ds rs
 |_,_=>false
theorem G7:∀(ds rs:List Nat),Uy ds rs=true↔l5 ds rs
 |[],[]=>by simp [Uy,l5]
 |[],_::_=>by simp [Uy,l5]
 |_::_,[]=>by simp [Uy,l5]
 |d::ds,r::rs=>by rw [Uy,l5,YP,YX,G7 ds rs]
def co (ds:List Nat) (xs:List Dyadic) (row:List Nat):Dyadic:=if Uy ds row then (xs[dV ds row]?).getD 0 else 0
theorem Iu {row:List Nat} (h:l5 ds row):co ds xs row=(xs[dV ds row]?).getD 0:=by
 unfold co;rw [Yt ((G7 _ _).2 h)]
theorem GD {p:Nat} (h:p<al ds):co ds xs (bW ds p)=(xs[p]?).getD 0:=by
 rw [Iu (iU ds p),C5 h]
theorem Ux {ys:List Dyadic} (hx:xs.length=al ds) (hy:ys.length=al ds) (h:∀row,l5 ds row→co ds xs row=co ds ys row):xs=ys:=by
 refine List.ext_getElem (by rw [hx,hy]) fun p h1 h2=> ?_;have h3:=h (bW ds p) (iU ds p);rw [GD Yo,GD Yo,ZP h1,ZP h2] at h3;exact h3
def dW:List Nat→List Nat→List Nat
 |a::l,b::m=>(a+b)::dW l m
 |_,_=>[]
theorem ud:∀{ds es rs js:List Nat},l5 ds rs→l5 es js→ds.length=es.length→l5 (dW ds es) (dW rs js)
 |[],[],[],[],_,_,_=>trivial
 |[],_::_,_,_,_,_,h=>by simp at h
 |_::_,[],_,_,_,_,h=>by simp at h
 |d::ds,e::es,r::rs,j::js,h1,h2,h3=>⟨by have:=h1.1;have:=h2.1;omega,ud h1.2 h2.2 (by simpa using h3)⟩
theorem D5:∀{a b:List Nat},a.length=b.length→(dW a b).length=a.length
 |[],[],_=>rfl
 |_::a,_::b,h=>by rw [dW,Y3,Y3,D5 (by simpa using h)]
def Xl:(List Nat→Dyadic)→List Nat→List Nat→Dyadic
 |F,r::rs,j::js=>if j≤r then Xl (fun t=>F ((r-j)::t)) rs js else 0
 |F,[],[]=>F []
 |_,_,_=>0
def RM:List Nat→List Nat→Nat
 |m::ms,j::js=>bin m j*RM ms js
 |_,_=>1
def Xu:List Nat→(List Nat→Dyadic)→List Nat→Dyadic
 |m::ms,F,r::rs=>sm (List.range (m+1)) fun j=>if j≤r then nD (bin m j)*Xu ms (fun t=>F ((r-j)::t)) rs else 0
 |_,F,row=>F row
def DR (ds es:List Nat) (xs ys:List Dyadic):List (Nat×Dyadic):=
 (List.range (al es)).flatMap fun k=>(List.range (al ds)).map fun i=>(dV (dW ds es) (dW (bW ds i) (bW es k)),(xs[i]?).getD 0*(ys[k]?).getD 0)
theorem vZ (n:Nat) (f:Nat→Dyadic):sm (List.range (n+1)) f=f 0+sm (List.range n) fun j=>f (j+1):=by
 induction n with
 |zero=>simp only [aah,List.range_zero,Yz,sm]
 |succ n ih=>rw [aah,kd,ih,aah (n:=n),kd];grind
def WX (row:List Nat) (a:Nat):List Nat:=row.set a (row.getD a 0-1)
def nx (n:Nat):List NR:=(nA n).map fun k=>nR (nD k)
theorem Oz (n:Nat):(nx n).length=n+1:=by simp [nx,wj]
theorem mK (h:k≤n):(nx n)[k]?=some (nR (nD (bin n k))):=by
 unfold nx;rw [YJ,uM h]
 rfl
theorem sY (n k:Nat) (h:n≤127):Sz 128 (nD (bin n k)):=Rt (Zr (BB n k) (Nat.pow_lt_pow_right Yp Yo))
theorem pK (n:Nat) (w:World) (hT:dP w) (hn:n≤127):
  Calls Tryz.prog 195 #[.int .i64 n] w fun r w'=>∃A c',r=.returned (.slice A (n+1) c')∧w'.ownsRow w.heap.size 33 3 (.slice A (n+1) c') (n+1) (aA NR.cells (nx n))∧Below w.heap.size w w':=by
 have hh:=Hp.start w;refine aj (N:=39) (l:=[.int .i64 n]) Tryz.func195 rfl rfl (by simp) ?_;refine sr (aL (aa (sr ?_)));refine Cq ?_;intro w6 hh;refine rW ?_;intro b7 w7 hh;refine aL (aa (ah (sr (mI (mI (aa (ar ?_)))))));refine bH [3,4,5,9,10,11,12,13,14,15,16,17,18,19,20,21,22,23,24,25,26,27,28,29,30,31,32,33,34,35,36,37] 3 9
  (fun v3 v w'=>∃(i c3:Nat) (A:Option Addr),i≤n∧v=.int .i64 i∧v3=.slice A (i+1) c3∧Hp w [.row A (i+1) c3 33 3 (aA NR.cells (nx i))] w')
  (fun _ v _=>n-(intOf v).toNat) ?_ ?_
 ·exact ⟨0,_,_,Yx _,rfl,rfl,hh⟩
 ·clear hh;rintro ρ' v3 v w' ⟨i,c3,A,hi,rfl,rfl,hh⟩;by_cases hlt:i<n
  ·refine sr ?_;refine dI ?_;refine Cq ?_;intro w11 hh;refine rW ?_;intro b12 w12 hh;refine aL (aa (ah (sr (aI (aa (ar ?_))))));refine bH [4,5,13,14,15,16,17,18,19,20,21,22,23,24,25,26,27,28,29,30,31,32] 4 5
    (fun v4 v w'=>∃(k c4:Nat) (B:Option Addr),k≤i∧v=.int .i64 ((k+1:Nat):Int)∧v4=.slice B (k+1) c4∧Hp w [.row B (k+1) c4 33 3 (aA NR.cells ((nx (i+1)).take (k+1))),.row A (i+1) c3 33 3 (aA NR.cells (nx i))] w')
    (fun _ v _=>i+1-(intOf v).toNat) ?_ ?_
   ·refine ⟨0,_,_,Yx _,rfl,rfl, ?_⟩;rw [show (nx (i+1)).take (0+1)=[nR (nD 1)] by rw [aw (mK (Yx _)),qP];rfl];exact hh
   ·clear hh;rintro ρ2 v4 v w2 ⟨k,c4,B,hk,rfl,rfl,hh⟩;by_cases hlk:k<i
    ·have e1:=mK (n:=i) (k:=k) Yo;have e2:=mK (n:=i) (k:=k+1) Yo;have e3:=mK (n:=i+1) (k:=k+1) Yo;have z1:=sY i k Yo;have z2:=sY i (k+1) Yo;have hadd:=fun A cc w1 hT1 hS1=>iH A 2 cc [nR (nD (bin i k)),nR (nD (bin i (k+1)))] w1 hT1 hS1 (by simpa using ⟨z1.ok Yo,z2.ok Yo⟩) 128 (by simpa [bL] using ⟨z1,z2⟩) Yo;rw [show nt ([nR (nD (bin i k)),nR (nD (bin i (k+1)))].map NR.d)=nD (bin (i+1) (k+1)) by simp only [Y6,Zv,bL,ki,bin,BA]] at hadd;obtain ⟨go,rfl⟩:=hh.cq (i:=1) rfl Yo;refine ah (sr (mI (mL (aM ?_))));refine Iy ?_;refine aK 13 [[(4,none)],[(3,none)],[(5,none)],[(21,some 2)],[(20,some 1),(22,some 3)],[(23,some 4)],[(3,none)],[(5,none)],[(25,some 6),(26,some 7)],[(27,some 8)],[(24,some 5),(28,some 9)],[(29,some 10)],[(30,some 11)]] [(12,31),(11,30),(10,29),(9,28),(8,27),(7,26),(6,25),(5,24),(4,23),(3,22),(2,21),(1,20),(0,19)] hh mixed Yq ?_;refine gI ?_;refine gI ?_;refine dJ ?_;refine tZ ?_;refine EG (k) ?_;refine pW [_,_,_] (fun _ hj=>hj.hp.dT (f:=NR.cells) (x:=nR (nD (bin i k))) (l:=nx i) (i:=1) rfl NR.len Yp e1) ?_;refine gI ?_
     refine dJ ?_;refine EG ((k+1)) ?_;refine pW [_,_,_] (fun _ hj=>hj.hp.dT (f:=NR.cells) (x:=nR (nD (bin i (k+1)))) (l:=nx i) (i:=1) rfl NR.len Yp e2) ?_;refine x3 [_,_,_,_,_,_] ?_;refine a7 (i:=11) (Is (.agg #[.bool (nR (nD (bin (i+1) (k+1)))).neg,.string (nR (nD (bin (i+1) (k+1)))).aY,.int .i64 (nR (nD (bin (i+1) (k+1)))).e])) Is.ext ?_ ?_
     ·intro ρ1 w1 hj hR;obtain ⟨A29,c29,h29,s29⟩:=hR.1;exact bV rfl (bf au.out (aC h29 bh)) (hadd A29 c29 _ (hT.hp hj.hp) s29) (fun _ _ hq=>⟨_,hq.1,hq.2,rfl⟩)
     refine x3 [_,_,_] ?_;refine aH ?_;intro f W hJ hV;have hb_8:=hJ.bl;obtain ⟨v31,v30,v29,v28,v27,v26,v25,v24,v23,v22,v21,v20,v19,_⟩:=hV;obtain ⟨A29,c29,e29,f29⟩:Rows _ _ _ (f 10) W:=v29;obtain ⟨A31,c31,e31,f31⟩:Rows _ _ _ (f 12) W:=v31;replace hh:=hJ.hp;refine aN (a6 (ae e31 (ae v30 (ae e29 (ae v28 (ae v27 (ae v26 (ae v25 (ae v24 (ae v23 (ae v22 (ae v21 (ae v20 (ae v19 aO)))))))))))))) ?_;dsimp only [bP];clear e29 e31 hJ;refine cu hh (i:=0) rfl rfl rfl (f31) bG.out aJ.out rfl Yp (by first|rfl|exact ea _|exact dv _|exact bI _|exact bK NR.one _) Yo Yo Yp ?_;intro A32 c32 w32 hh;simp only [YG] at hh;refine tg ?_;refine a8 (aI (aD (ai ?_)));replace hh:=hh.sub (Yv _ (Yv _ YR));refine ⟨⟨k+1,c32,A32,Yo,rfl,rfl, ?_⟩,by show i+1-(k+1+1)<i+1-(k+1);omega, ?_⟩
     ·rw [aw e3,bM];exact hh
     ·exact er
    ·obtain rfl:k=i:=Yo;have e3:=mK (n:=k+1) (k:=k+1) (YA _);refine ah (sr (mI (mL (aM ?_))));refine a9 (aa (cF (aX (aE (aE (bA (ai (ak (mL ?_)))))))));refine Cq ?_;intro w34 hh;refine rW ?_;intro b35 w35 hh;refine pB ?_;intro A36 c36 w36 hh;simp only [YG,Y8] at hh;replace hh:=hh.sub (Zc _ _);refine lE ?_;refine a8 (mI (aD (ai ?_)));replace hh:=hh.sub (Yv _ (Yw _ YR));refine ⟨⟨k+1,c36,A36,Yo,rfl,rfl, ?_⟩,by show n-(k+1)<n-k;omega, ?_⟩
     ·have e4:nx (k+1)=(nx (k+1)).take (k+1)++[nR (nD (bin (k+1) (k+1)))]:=by
       rw [←aw e3,YC (by rw [Oz];omega)]
      rw [e4,bM,Ed];exact hh
     ·exact er
  ·obtain rfl:i=n:=Yo;exact NH
def xK (ds:List Nat):List Nat:=(List.range (al ds.reverse)).map fun p=>RM ds.reverse (bW ds.reverse p)
theorem Dr (ds:List Nat) (d:Nat):xK (ds++[d])=(xK ds).flatMap fun x=>(nA d).map (x* ·):=by
 have hl:∀a∈xK ds,((nA d).map (a* ·)).length=d+1:=fun a _=>by rw [YI,wj]
 refine ZI fun p=> ?_;rw [vE Yo _ _ _ hl];unfold xK;rw [aa8,List.reverse_singleton,List.singleton_append];by_cases hp:p<al (d::ds.reverse)
 ·have hq:p/(d+1)<al ds.reverse:=by rw [ZH Yo,YO];exact hp
  have hr:p % (d+1)≤d:=by have:=YU p (show 0<d+1 by omega);omega
  rw [YJ,ZF hp,YJ,ZF hq];simp only [aaj,aaE,YJ,uM hr,bW,RM,YO]
 ·have hq:¬p/(d+1)<al ds.reverse:=by rw [ZH Yo,YO];exact hp
  rw [YQ (by simp;omega),YQ (l:=List.map _ _) (by simp;omega)]
  rfl
theorem Hj (ds:List Nat):(xK ds).length=al ds:=by simp [xK,cI]
def KB (ds:List Nat):List NR:=(xK ds).map fun k=>nR (nD k)
theorem Ou:∀(ds row:List Nat),(∀d∈ds,d≤127)→RM ds row≤2^(127*ds.length)
 |[],_,_=>by show 1≤1;exact YA _
 |d::ds,[],_=>by show 1≤_;exact YY Yp
 |d::ds,r::rs,h=>by
  have h1:bin d r≤2^127:=Y1 (BB d r) (Zf Yp (h d YD));have h2:=Ou ds rs fun x hx=>h x (YK _ hx);rw [RM,Y3,ZZ,aat,YW];exact Z5 h1 h2
theorem UC (h:n≤2^m) (hk:m<k):Sz k (nD n):=Rt (Zr h (Nat.pow_lt_pow_right Yp hk))
theorem L6 {x:Nat} (h:x∈xK ds) (h1:ds.length≤12) (h2:∀d∈ds,d≤127):Sz 1600 (nD x):=by
 obtain ⟨p,_,rfl⟩:=YF.1 h;have h3:=Ou ds.reverse (bW ds.reverse p) fun d hd=>h2 d (aau.1 hd);exact UC h3 (by rw [Y9];omega)
def PH (ds:List Nat) (d j:Nat):List Nat:=((xK ds).take j).flatMap fun x=>(nA d).map (x* ·)
theorem OM {d x:Nat} (h:(xK ds)[j]?=some x):PH ds d (j+1)=PH ds d j++(nA d).map (x* ·):=by
 unfold PH;rw [aw h,aa5,List.flatMap_singleton]
theorem oe (A:Option Addr) (n c:Nat) (ns:List Nat) (w:World) (hT:dP w) (hS:Sl w A n 1 (bD (bq ns))) (h12:ns.length≤12) (hlow:∀d∈ns,d≤127) (hmax:al ns≤4096):
  Calls Tryz.prog 168 #[.slice A n c] w fun r w'=>∃B c',r=.returned (.slice B (al ns) c')∧w'.ownsRow w.heap.size 33 3 (.slice B (al ns) c') (al ns) (aA NR.cells (KB ns))∧Below w.heap.size w w':=by
 have hh:=Hp.start w;have hln:ns.length=n:=by have:=hS.1;simpa [bD,bq] using this
 have hc:=kY ns 1 Yp Yp hlow;rw [aaC,Yt hmax] at hc;have hc1:jq ((1:Nat):Int) (bq ns)=jq 1 (bq ns):=rfl;rw [hc1] at hc;have hpos:=di ns;have hcnt:=fun w1 hS1=>fP A n c (bq ns) w1 hS1 Yo;rw [hc] at hcnt;refine aj (N:=52) (l:=[.slice A n c]) Tryz.func168 rfl rfl (by simp) ?_;refine sr (aL (aa (ah (sr (mL (aM ?_))))));refine bT (mB (gT (mL ?_)));refine aG rfl rfl ?_;refine bj hh (hcnt _ (hS.ext hh.below)) rfl ?_;intro w16 hh;refine gT ?_;refine cH ?_;refine fK ?_;refine wO ?_;refine Cq ?_;intro w19 hh;refine rW ?_;intro UR w20 hh;refine qI ?_;refine bH [3,5,6,8,10,23,24,25,26,27,28,29,30,31,32,33,34,35,36,37,38,39,40,41,42,43,44,45,46,47,48,49,50] 3 23
  (fun v3 v w'=>∃(i c3:Nat) (B:Option Addr),i≤n∧v=.int .i64 i∧v3=.slice B (al (ns.take i)) c3∧Hp w [.row B (al (ns.take i)) c3 33 3 (aA NR.cells (KB (ns.take i)))] w')
  (fun _ v _=>n-(intOf v).toNat) ?_ ?_
 ·exact ⟨0,_,_,Yx _,rfl,rfl,hh⟩
 ·clear hh;rintro ρ' v3 v w' ⟨i,c3,B,hi,rfl,rfl,hh⟩;by_cases hlt:i<n
  ·obtain ⟨d,hd⟩:=ao (l:=ns) (k:=i) Yo;have hgi:=cK (eO hd);have hd127:=hlow d (Yy hd);have htl:(ns.take i).length≤12:=by rw [YM];omega
   have htw:∀d∈ns.take i,d≤127:=fun d hd=>hlow d (aad hd);have hct:=ez ns (i+1);have hct2:=ez ns i;have hstep:al (ns.take (i+1))=al (ns.take i)*(d+1):=by rw [aw hd,dA];simp [al]
   have hsnoc:KB (ns.take (i+1))=(PH (ns.take i) d (al (ns.take i))).map fun k=>nR (nD k):=by
    unfold KB PH;rw [aw hd,Dr,YC (l:=xK (ns.take i)) (by rw [Hj];exact YA _)]
   generalize hds:ns.take i=ds at*;generalize hN:al ds=N at*;obtain ⟨ad,rfl,hr⟩:=hS.at_ Yo;refine sr ?_;refine dI ?_;refine bZ ?_;refine nZ ?_;refine aI (aa (sr (aL (aa (ah (sr (mL (aM (mI (aa (ar ?_)))))))))));replace hh:=hh.dm 33 3;refine bH [6,8,10,29,30,31,32,33,34,35,36,37,38,39,40,41,42,43,44,45,46,47,48] 6 29
    (fun v6 v w'=>∃(j c6:Nat) (C:Option Addr),j≤N∧v=.int .i64 j∧v6=.slice C (j*(d+1)) c6∧Hp w [.row C (j*(d+1)) c6 33 3 (aA NR.cells ((PH ds d j).map fun k=>nR (nD k))),.row B N c3 33 3 (aA NR.cells (KB ds))] w')
    (fun _ v _=>N-(intOf v).toNat) ?_ ?_
   ·refine ⟨0,0,none,Yx _,rfl, ?_, ?_⟩
    ·rw [aaP];rfl
    ·rw [aaP];exact hh
   ·clear hh;rintro ρ2 v6 v w2 ⟨j,c6,C,hj,rfl,rfl,hh⟩;by_cases hjN:j<N
    ·obtain ⟨x,hx⟩:=ao (l:=xK ds) (k:=j) (by rw [Hj];omega);have hx2:(KB ds)[j]?=some (nR (nD x)):=by unfold KB;rw [YJ,hx];rfl
     have zx:=L6 (Yy hx) htl htw;have hj1:(j+1)*(d+1)≤N*(d+1):=Zo _ hjN;rw [ZA] at hj1;obtain ⟨go,rfl⟩:=hh.cq (i:=1) rfl Yo;refine sr ?_;refine dI ?_;refine ni ?_;refine cg (vs:=[_,_,_]) aJ.out rfl (hh.dT (f:=NR.cells) (x:=nR (nD x)) (l:=KB ds) (i:=1) rfl NR.len Yp hx2) rfl Yp ?_;refine bC hh ?_;intro b8 w8 hh;refine bg hh 0 [_,_,_] ?_;intro ws hh;replace hh:Hp _ (.blk _ _ [_,_,_] _::_) _:=hh;refine aa (sr (mI ?_));refine ay (pK d _ (hT.hp hh) hd127) au.out rfl Yp ?_;rintro e_ w34 ⟨A34,c34,rfl,hown_,hb_⟩;refine ⟨_,rfl, ?_⟩;replace hh:=hh.aP (x:=.row _ _ _ _ _ _) hb_ hown_;refine aM (mI (aa (ar ?_)));refine bH [6,10,36,37,38,39,40,41,42,43,44,45,46,47] 6 36
      (fun v6 v w'=>∃(k c6:Nat) (C:Option Addr),k≤d+1∧v=.int .i64 k∧v6=.slice C (j*(d+1)+k) c6∧Hp w [.row A34 (d+1) c34 33 3 (aA NR.cells (nx d)),.blk b8 33 [.bool (nR (nD x)).neg,.string (nR (nD x)).aY,.int .i64 (nR (nD x)).e] (0,0),.row C (j*(d+1)+k) c6 33 3 (aA NR.cells ((PH ds d j++((nA d).take k).map (x* ·)).map fun k=>nR (nD k))),.row (some ⟨go,0,none⟩) N c3 33 3 (aA NR.cells (KB ds))] w')
      (fun _ v _=>d+1-(intOf v).toNat) ?_ ?_
     ·refine ⟨0,c6,C,Yx _,rfl,rfl, ?_⟩;rw [Z7,Zv,Y7];exact hh
     ·clear hh;rintro ρ3 v6 v w3 ⟨k,c6,C,hk,rfl,rfl,hh⟩;by_cases hkd:k<d+1
      ·have hb1:=uM (n:=d) (k:=k) Yo;have hb2:=mK (n:=d) (k:=k) Yo;have zb:=sY d k hd127;have hmul:=fun A cc w1 hT1 hS1=>fZ A 2 cc [nR (nD x),nR (nD (bin d k))] w1 hT1 hS1 (by simpa using ⟨zx.ok Yo,zb.ok Yo⟩) 1600 (by simpa [bL] using ⟨zx,zb.mono Yo⟩) Yo Yo;rw [show iw ([nR (nD x),nR (nD (bin d k))].map NR.d)=nD (x*bin d k) by rw [Nq];show 1*(nR (nD x)).d*(nR (nD (bin d k))).d=_;rw [bL,bL,aap]] at hmul;obtain ⟨ga,rfl⟩:=hh.cq (i:=0) rfl Yo;refine sr ?_;refine dI ?_;refine cJ (k:=k) bG.out aJ.size rfl rfl Yo Yo Yp ?_;refine cg (vs:=[_,_,_]) aJ.out rfl (hh.dT (f:=NR.cells) (x:=nR (nD (bin d k))) (l:=nx d) (i:=0) rfl NR.len Yp hb2) rfl Yp ?_;refine bC hh ?_;intro b10 w10 hh;refine bg hh 0 [_,_,_] ?_;intro ws hh;replace hh:Hp _ (.blk _ _ [_,_,_] _::_) _:=hh;refine aa (ak (mL ?_));refine bJ hh 2 [_,_,_] ?_;refine bJ hh 0 [_,_,_] ?_;refine rF ?_;intro b43 w43 hh;refine bj hh (hmul _ _ _ (hT.hp hh) (hh.az (i:=0) rfl)) rfl ?_;intro w44 hh;refine rW ?_;intro b45 w45 hh;refine SA ?_;intro A46 c46 w46 hh;simp only [YG,Y8] at hh;replace hh:=hh.sub (Zc _ _)
       refine lE ?_;refine a8 (mI (aD (ai ?_)));replace hh:=hh.sub (Yw _ (Yw _ (Yv _ (Yv _ (Yv _ (Yv _ YR))))));refine ⟨⟨k+1,c46,A46,Yo,rfl,rfl, ?_⟩,by show d+1-(k+1)<d+1-k;omega, ?_⟩
       ·have e:(PH ds d j++((nA d).take (k+1)).map (x* ·)).map (fun k=>nR (nD k))=(PH ds d j++((nA d).take k).map (x* ·)).map (fun k=>nR (nD k))++[nR (nD (x*bin d k))]:=by rw [aw hb1];simp
        rw [e,bM];exact hh
       ·exact er
      ·obtain rfl:k=d+1:=Yo;rw [YC (by rw [wj];omega),←OM hx] at hh;refine sr ?_;refine rQ ?_;refine a8 (mI (aD (ai ?_)));replace hh:=hh.sub (Yw _ (Yw _ (Yv _ (Yv _ YR))));refine ⟨⟨j+1,c6,C,Yo,rfl, ?_, ?_⟩,by show N-(j+1)<N-j;omega, ?_⟩
       ·rw [ZA];rfl
       ·rw [ZA];exact hh
       ·exact er
    ·obtain rfl:j=N:=Yo;rw [←hsnoc,←hstep] at hh;rw [←hstep];refine sr ?_;refine a9 (aa (ah (cF (aX (aE (aE (bA (ai (ak (mL (aL (aD (bz (ai (ak ?_)))))))))))))));refine a8 (mI (aD (ai ?_)));replace hh:=hh.sub (Yv _ (Yw _ YR));refine ⟨⟨i+1,c6,C,Yo,rfl,rfl,hh⟩,by show n-(i+1)<n-i;omega, ?_⟩;exact er
  ·obtain rfl:i=n:=Yo;rw [YC Yo] at hh ⊢;exact NH
variable {es:List Nat}
def nN (d r:Nat) (t:Dyadic):Dyadic:=t^r*(1-t)^(d-r)
def lV:List Nat→List Nat→List Dyadic→Dyadic
 |d::ds,r::rs,t::ts=>nN d r t*lV ds rs ts
 |_,_,_=>1
def gC (ds:List Nat) (xs:List Dyadic) (ts:List Dyadic):Dyadic:=sm (List.range (al ds)) fun p=>(xs[p]?).getD 0*lV ds (bW ds p) ts
def mi (d:Nat) (t:Dyadic) (m:Nat) (xs:List Dyadic):List Dyadic:=(List.range m).map fun q=>sm (List.range (d+1)) fun r=>(xs[r+(d+1)*q]?).getD 0*nN d r t
def px:List Nat→List Dyadic→List Dyadic→List Dyadic
 |d::ds,t::ts,xs=>px ds ts (mi d t (al ds) xs)
 |_,_,xs=>xs
theorem so (d:Nat) (t:Dyadic) (m:Nat) (xs:List Dyadic):(mi d t m xs).length=m:=by simp [mi]
theorem x9:∀(ds:List Nat) (ts xs:List Dyadic),ts.length=ds.length→xs.length=al ds→px ds ts xs=[gC ds xs ts]
 |[],[],xs,_,h=>by
  match xs,h with
  |[x],_=>
   show [x]=[x*1+0];congr 1;grind
 |d::ds,t::ts,xs,h1,h2=>by
  rw [px,x9 ds ts _ (by simpa using h1) (so _ _ _ _)];unfold gC;rw [HM];congr 1;refine cU fun q hq=> ?_;have hq2:=Zi.1 hq;have:(mi d t (al ds) xs)[q]?=some (sm (List.range (d+1)) fun r=>(xs[r+(d+1)*q]?).getD 0*nN d r t):=by
   unfold mi;rw [YJ,ZF hq2]
   rfl
  rw [this,ZO,←ql];refine cU fun r hr=> ?_;have hr2:=Zi.1 hr;rw [bW,aaA,Za hr2,ZR _ _ Yo,Zt hr2,YZ,lV];grind
theorem yo (t:Dyadic) (a b:Nat):t^(a+b)=t^a*t^b:=by
 induction b with
 |zero=>rw [ZM];grind
 |succ b ih=>rw [←abc];grind
theorem OC {d e a:Nat} (t:Dyadic) (h1:a≤d) (h2:b≤e):nN (d+e) (a+b) t=nN d a t*nN e b t:=by
 unfold nN;rw [show d+e-(a+b)=(d-a)+(e-b) by omega,yo,yo];grind
theorem CF:∀{ds es rs js:List Nat} (ts:List Dyadic),l5 ds rs→l5 es js→ds.length=es.length→lV (dW ds es) (dW rs js) ts=lV ds rs ts*lV es js ts
 |[],[],[],[],_,_,_,_=>by show (1:Dyadic)=1*1;grind
 |[],_::_,_,_,_,_,_,h=>by simp at h
 |_::_,[],_,_,_,_,_,h=>by simp at h
 |d::ds,e::es,r::rs,j::js,[],_,_,_=>by show (1:Dyadic)=1*1;grind
 |d::ds,e::es,r::rs,j::js,t::ts,h1,h2,h3=>by
  rw [dW,dW,lV,lV,lV,OC t h1.1 h2.1,CF ts h1.2 h2.2 (by simpa using h3)];grind
theorem O3 (L:List (Nat×Dyadic)) (g:Nat→Dyadic) (h:∀q∈L,q.1<N):sm (List.range N) (fun p=>((ji N L)[p]?).getD 0*g p)=sm L fun q=>q.2*g q.1:=by
 have e1:sm (List.range N) (fun p=>((ji N L)[p]?).getD 0*g p)=sm (List.range N) fun p=>sm L fun q=>if p=q.1 then q.2*g q.1 else 0:=by
  refine cU fun p hp=> ?_;rw [mO _ (Zi.1 hp),ZO,←ql];refine cU fun q _=> ?_;by_cases hq:q.1=p
  ·subst hq;rw [Yt rfl,Yt rfl]
  ·rw [Yu hq,Yu fun e=>hq e.symm];grind
 rw [e1,I0];refine cU fun q hq=> ?_;rw [rJ,Yt (h q hq)]
theorem Lf {ys:List Dyadic} (hl:ds.length=es.length):∀q∈DR ds es xs ys,q.1<al (dW ds es):=fun q hq=>by
 unfold DR at hq;obtain ⟨k,_,hq⟩:=aak.1 hq;obtain ⟨i,_,rfl⟩:=YF.1 hq;exact lB (ud (iU _ _) (iU _ _) hl)
theorem MU {ys ts:List Dyadic} (hl:ds.length=es.length):gC (dW ds es) (ji (al (dW ds es)) (DR ds es xs ys)) ts=gC ds xs ts*gC es ys ts:=by
 unfold gC;rw [O3 _ (fun p=>lV (dW ds es) (bW (dW ds es) p) ts) (Lf hl)];unfold DR;rw [Gl,←k7];refine cU fun k _=> ?_;rw [wE,←ql];refine cU fun i _=> ?_;rw [kj (ud (iU _ _) (iU _ _) hl),CF ts (iU _ _) (iU _ _) hl];grind
theorem Vd (n:Nat) (a b:Dyadic):sm (List.range (n+1)) (fun k=>nD (bin n k)*a^k*b^(n-k))=(a+b)^n:=by
 induction n with
 |zero=>show nD 1*a^0*b^0+0=(a+b)^0;rw [Ag];grind
 |succ n ih=>
  have e2:∀k,nD (bin (n+1) (k+1))*a^(k+1)*b^(n+1-(k+1))=nD (bin n k)*a^k*b^(n-k)*a+nD (bin n (k+1))*a^(k+1)*b^(n-k):=fun k=>by
   rw [bin,BA,show n+1-(k+1)=n-k by omega];grind
  rw [vZ,cU (g:=fun k=>nD (bin n k)*a^k*b^(n-k)*a+nD (bin n (k+1))*a^(k+1)*b^(n-k)) fun k _=>e2 k,Oa,ql,ih,qP];have e3:sm (List.range (n+1)) (fun k=>nD (bin n (k+1))*a^(k+1)*b^(n-k))=sm (List.range n) (fun k=>nD (bin n (k+1))*a^(k+1)*b^(n-(k+1)))*b:=by
   rw [aah,kd,ui (show n<n+1 by omega),IZ,←ql];have:∀x y:Dyadic,x+0*y*b^(n-n)=x:=fun x y=>by grind
   rw [this];refine cU fun k hk=> ?_;have hk2:=Zi.1 hk;rw [show n-k=(n-(k+1))+1 by omega];grind
  have e4:(a+b)^n=nD 1*a^0*b^(n-0)+sm (List.range n) (fun k=>nD (bin n (k+1))*a^(k+1)*b^(n-(k+1))):=by
   rw [←ih,vZ,qP]
  rw [e3];have e5:(a+b)^(n+1)=(a+b)^n*a+(a+b)^n*b:=by grind
  rw [e5];generalize hS:sm (List.range n) (fun k=>nD (bin n (k+1))*a^(k+1)*b^(n-(k+1)))=S at*;rw [e4,show n+1-0=n+1 by omega,show n-0=n by omega,Ag];grind
theorem HQ:∀(ds:List Nat) (ts:List Dyadic),ts.length=ds.length→sm (List.range (al ds)) (fun p=>nD (RM ds (bW ds p))*lV ds (bW ds p) ts)=1
 |[],[],_=>by show nD 1*1+0=1;rw [Ag];grind
 |d::ds,t::ts,h=>by
  have ih:=HQ ds ts (by simpa using h);rw [HM,cU (g:=fun q=>(nD (RM ds (bW ds q))*lV ds (bW ds q) ts)*1) fun q _=> ?_]
  ·rw [ql,ih];grind
  ·have hb:=Vd d t (1-t);rw [show t+(1-t)=(1:Dyadic) by grind] at hb;have h1:(1:Dyadic)^d=1:=by
    clear hb ih
    induction d with
    |zero=>grind
    |succ d ih=>grind
   rw [h1] at hb;rw [←hb,←k7];refine cU fun r hr=> ?_;have hr2:=Zi.1 hr;rw [bW,aaA,Za hr2,ZR _ _ Yo,Zt hr2,YZ,lV,RM,Nq,nN];grind
def sR:List Nat→(List Nat→Dyadic)→Dyadic
 |[],F=>F []
 |d::ds,F=>sm (List.range (d+1)) fun r=>sR ds fun row=>F (r::row)
def fH (ds:List Nat) (a:Nat) (M:Nat→Nat→Dyadic) (xs:List Dyadic):List Dyadic:=
 (List.range (al ds)).map fun p=>sm (List.range (ds.getD a 0+1)) fun i=>co ds xs ((bW ds p).set a i)*M i ((bW ds p).getD a 0)
theorem m9 (ds:List Nat) (a:Nat) (M:Nat→Nat→Dyadic) (xs:List Dyadic):(fH ds a M xs).length=al ds:=by simp [fH]
theorem J1 {row:List Nat} (a:Nat) (M:Nat→Nat→Dyadic) (xs:List Dyadic) (h:l5 ds row):co ds (fH ds a M xs) row=sm (List.range (ds.getD a 0+1)) fun i=>co ds xs (row.set a i)*M i (row.getD a 0):=by
 rw [Iu h];unfold fH;rw [YJ,ZF (lB h)];simp only [aaj,ZO,kj h]
theorem Hf:∀{ds row:List Nat}{a i:Nat},l5 ds row→i≤ds.getD a 0→l5 ds (row.set a i)
 |[],[],_,_,_,_=>trivial
 |d::ds,r::rs,0,i,h,hi=>⟨hi,h.2⟩
 |d::ds,r::rs,a+1,i,h,hi=>⟨h.1,Hf (a:=a) h.2 (by simpa using hi)⟩
def Gz (d:Nat) (s:Dyadic) (i k:Nat):Dyadic:=if k<i then 0 else nD (bin (d-i) (k-i))*s^i*(1-s)^(k-i)
def EZ (d:Nat) (s:Dyadic) (i k:Nat):Dyadic:=if i<k then 0 else nD (bin i (i-k))*s^(i-k)*(1-s)^(d-i)
theorem Ur (n:Nat):∀f:Nat→Dyadic,sm (List.range (n+1)) f=sm (List.range (n+1)) fun k=>f (n-k):=by
 induction n with
 |zero=>intro f;rfl
 |succ n ih=>
  intro f;have e:sm (List.range (n+1+1)) (fun k=>f (n+1-k))=f (n+1)+sm (List.range (n+1)) fun k=>f (n-k):=by
   rw [vZ];congr 1;exact cU fun k _=>by rw [show n+1-(k+1)=n-k by omega]
  rw [aah,kd,ih f,←aah,e];grind
variable {q:Nat}
theorem te:∀{A B x y:List Nat},x.length=A.length→dV (A++B) (x++y)=dV A x+al A*dV B y
 |[],B,[],y,_=>by rw [Yz,Yz,al,aaC];show _=0+_;rw [YZ]
 |d::A,B,r::x,y,h=>by
  rw [YB,YB,dV,dV,al,te (by simpa using h),Zj,Zw,abc]
theorem tf:∀(A B:List Nat) (p:Nat),bW (A++B) p=bW A p++bW B (p/al A)
 |[],B,p=>by rw [Yz,al,aaG];rfl
 |d::A,B,p=>by rw [YB,bW,bW,tf A B,al,ZS];rfl
theorem D2:∀(A:List Nat) (f q:Nat),bW A (f+al A*q)=bW A f
 |[],_,_=>rfl
 |d::A,f,q=>by
  rw [bW,bW,al,Zw,aaA,ZR _ _ Yo,D2 A]
section
variable {A B:List Nat}{d:Nat}
def cv (A:List Nat) (d f k q:Nat):Nat:=f+al A*(k+(d+1)*q)
theorem nW {f:Nat} (hf:f<al A) (hk:k≤d) (hq:q<al B):cv A d f k q<al (A++d::B):=by
 rw [dA,al,cv];have h1:k+(d+1)*q+1≤(d+1)*al B:=by
  have:(d+1)*(q+1)≤(d+1)*al B:=Y4 _ hq;rw [ZZ] at this;omega
 have h2:=Y4 (al A) h1;rw [ZZ] at h2;omega
theorem zI {f:Nat} (hf:f<al A) (hk:k≤d):bW (A++d::B) (cv A d f k q)=bW A f++k::bW B q:=by
 unfold cv;rw [tf,D2,ZR _ _ (di A),Zt hf,YZ,bW,aaA,Za Yo,ZR _ _ Yo,Zt Yo,YZ]
theorem qk {p:Nat} (h:p<al (A++d::B)):∃f k q,f<al A∧k≤d∧q<al B∧p=cv A d f k q:=by
 rw [dA,al] at h;have hA:=di A;refine ⟨p % al A,p/al A % (d+1),p/al A/(d+1),YU _ hA,by have:=YU (p/al A) (show 0<d+1 by omega);omega, ?_, ?_⟩
 ·rw [ZH Yo,ZH hA,YO,YO (al B)];exact h
 ·unfold cv;rw [aba,aba]
theorem Ci (x y:List Nat) (k:Nat):(x++k::y).getD x.length 0=k:=by
 rw [aao,ZC (YA _),Zn]
 rfl
theorem E4 (x y:List Nat) (k i:Nat):(x++k::y).set x.length i=x++i::y:=by
 rw [aaz _ _ (YA _),Zn,YG]
def da (A:List Nat) (d:Nat) (xs:List Dyadic) (f q:Nat):List Dyadic:=(List.range (d+1)).map fun i=>(xs[cv A d f i q]?).getD 0
theorem Dx {f:Nat} (M:Nat→Nat→Dyadic) (xs:List Dyadic) (hf:f<al A) (hk:k≤d) (hq:q<al B):
  (fH (A++d::B) A.length M xs)[cv A d f k q]?=some (sm (List.range (d+1)) fun i=>(xs[cv A d f i q]?).getD 0*M i k):=by
 have hp:=nW (B:=B) hf hk hq;unfold fH;rw [YJ,ZF hp];simp only [aaj];rw [zI hf hk,Ci];have hl:=nG A f;rw [show ((bW A f++k::bW B q).getD A.length 0)=k by rw [←hl];exact Ci _ _ _];congr 1;refine cU fun i hi=> ?_;have hi2:i≤d:=by have:=Zi.1 hi;omega
 rw [show (bW A f++k::bW B q).set A.length i=bW A f++i::bW B q by rw [←hl];exact E4 _ _ _ _,←zI (B:=B) hf hi2,GD (nW hf hi2 hq)]
end
theorem Ch (A:Option Addr) (n c:Nat) (ns:List Nat) (w:World) (hS:Sl w A n 1 (bD (bq ns))) (hn:n≤1000) (hlow:∀d∈ns,d≤255) (hmax:al ns≤1000000):
  Calls Tryz.prog 203 #[.slice A n c] w fun r w'=>r=.returned (.int .i64 (al ns:Nat))∧Below w.heap.size w w':=by
 have hh:=Hp.start w;have hln:ns.length=n:=by have:=hS.1;simpa [bD,bq] using this
 refine aj (N:=18) (l:=[.slice A n c]) Tryz.func203 rfl rfl (by simp) ?_;refine G6 ?_;refine bH [3,5,8,9,10,11,12,13,14,15,16] 3 8
  (fun v3 v w'=>∃i:Nat,i≤n∧v=.int .i64 i∧v3=.int .i64 (al (ns.take i):Nat)∧Hp w [] w')
  (fun _ v _=>n-(intOf v).toNat) ?_ ?_
 ·exact ⟨0,Yx _,rfl,rfl,hh⟩
 ·clear hh;rintro ρ' v3 v w' ⟨i,hi,rfl,rfl,hh⟩;by_cases hlt:i<n
  ·obtain ⟨d,hd⟩:=ao (l:=ns) (k:=i) Yo;have hgi:=cK (eO hd);have hd2:=hlow d (Yy hd);obtain ⟨ad,rfl,hr⟩:=hS.at_ Yo;have hct:=ez ns (i+1);have hct2:=ez ns i;have hstep:al (ns.take (i+1))=al (ns.take i)*(d+1):=by rw [aw hd,dA];simp [al]
   have e1:((al (ns.take i):Nat):Int)*((d:Int)+1)=((al (ns.take (i+1)):Nat):Int):=by rw [hstep,ZB,ZQ];rfl
   refine sr ?_;refine dI ?_;refine bZ ?_;refine nZ ?_;refine aI (aa (ak (mI (mI ?_))));refine a8 ?_;refine mulC (aI (aD (bz (ai (ak ?_)))));refine a8 (mI (aD (ai ?_)));rw [e1];refine ⟨⟨i+1,Yo,rfl,rfl,hh⟩,by show n-(i+1)<n-i;omega, ?_⟩;exact er
  ·refine sr ?_;refine G4 ?_;refine dH ?_;rw [YC Yo];exact ⟨rfl,hh.below⟩
def AF (ns:List Nat):Bool:=ns.any (fun d=>decide (127<d))||decide (4096<al ns)
theorem F0 (A:Option Addr) (n c:Nat) (ns:List Nat) (w:World) (hS:Sl w A n 1 (bD (bq ns))) (hn:n≤1000) (hlow:∀d∈ns,d≤1000):
  Calls Tryz.prog 167 #[.slice A n c] w fun r w'=>r=.returned (.bool (AF ns))∧Below w.heap.size w w':=by
 have hh:=Hp.start w;have hln:ns.length=n:=by have:=hS.1;simpa [bD,bq] using this
 refine aj (N:=26) (l:=[.slice A n c]) Tryz.func167 rfl rfl (by simp) ?_;refine sr (aB (aa (sr (aI (aa (ah (sr (mL (aM (mI (aa (ar ?_))))))))))));refine bH [2,3,5,8,9,10,11,12,13,14,15,16,17,18,19,20,21,22,23,24,25] 3 8
  (fun v3 v w'=>∃i:Nat,i≤n∧v=.int .i64 i∧v3=.int .i64 (al (ns.take i):Nat)∧al (ns.take i)≤4096∧(ns.take i).any (fun d=>decide (127<d))=false∧Hp w [] w')
  (fun _ v _=>n-(intOf v).toNat) ?_ ?_
 ·exact ⟨0,Yx _,rfl,rfl,by show 1≤4096;decide,rfl,hh⟩
 ·clear hh;rintro ρ' v3 v w' ⟨i,hi,rfl,rfl,hmx,hall,hh⟩;by_cases hlt:i<n
  ·obtain ⟨d,hd⟩:=ao (l:=ns) (k:=i) Yo;have hgi:=cK (eO hd);have hd2:=hlow d (Yy hd);obtain ⟨ad,rfl,hr⟩:=hS.at_ Yo;have hct:=ez ns (i+1);have hstep:al (ns.take (i+1))=al (ns.take i)*(d+1):=by rw [aw hd,dA];simp [al]
   have hpb:al (ns.take i)*(d+1)≤4096*1001:=Z5 hmx Yo;have e1:((al (ns.take i):Nat):Int)*((d:Int)+1)=((al (ns.take (i+1)):Nat):Int):=by rw [hstep,ZB,ZQ];rfl
   by_cases h1:127<d
   ·refine sr ?_;refine dI ?_;refine bZ ?_;refine nZ ?_;refine aI (aa (ah (sr (mI ?_))));refine bT (mB ?_);refine gS (gS (gS (gS (gS ?_))));refine gi ?_;refine aa (cT (sr (aB (aa (av (aF (bU (aF (aF (bU (aF ?_)))))))))));refine dH ?_;refine ⟨?_,hh.below⟩;unfold AF;rw [aae.2 ⟨d,Yy hd,YN h1⟩]
    rfl
   ·by_cases h2:4096<al (ns.take (i+1))
    ·refine sr ?_;refine dI ?_;refine bZ ?_;refine nZ ?_;refine aI (aa (ah (sr (mI ?_))));refine bT (mB (gT (mI (gT (mI (gT ?_))))));refine a8 (gT ?_);refine mulC (gT ?_);refine bT ?_;refine fK ?_;refine aa (cT (sr (aB (aa (av (aF (bU (aF (aF (bU (aF ?_)))))))))));refine dH ?_;refine ⟨?_,hh.below⟩;unfold AF;rw [YN (show 4096<al ns by omega),Bool.or_true]
    ·refine sr ?_;refine dI ?_;refine bZ ?_;refine nZ ?_;refine aI (aa (ah (sr (mI ?_))));refine bT (mB (gT (mI (gT (mI (gT ?_))))));refine a8 (gT ?_);refine mulC (gT ?_);refine bT ?_;refine fK ?_;refine aa (cF (aq (ai (ak (mI (mI ?_))))));refine a8 ?_;refine mulC (aI (aD (bz (ai (ak ?_)))));refine a8 (mI (aD (ai ?_)));rw [e1];refine ⟨⟨i+1,Yo,rfl,rfl,Yo, ?_,hh⟩,by show n-(i+1)<n-i;omega, ?_⟩
     ·rw [aw hd,aaU,hall,aa0,aa3,YS h1];rfl
     ·exact er
  ·rw [YC Yo] at hmx hall;refine sr ?_;refine a9 (aa (ah (cF (aX (aE (aE (bA (ai (sr (aB (aa (av ?_))))))))))));refine dH ?_;refine ⟨?_,hh.below⟩;unfold AF;rw [hall,YS Yo]
   rfl
theorem z7 {l:List α} (hl:l.length=n) (hk:k<n):l[n-1-k]?=l.reverse[k]?:=by rw [aam Yo,hl]
theorem JU:∀{X Y:List Nat}{d r:Nat},X.length=Y.length→dV (X++[d]) (Y++[r])=dV X Y+al X*r:=fun {X Y d r} h=>by
 rw [te h.symm];simp [dV]
theorem mm (X:List Nat) (d:Nat):al (X++[d])=al X*(d+1):=by rw [dA];simp [al]
theorem z6:∀{R:List Nat}{k d:Nat} (p:Nat),R[k]?=some d→(bW R p)[k]?=some (p/al (R.take k) % (d+1))
 |[],_,_,_,h=>by simp at h
 |e::R,0,d,p,h=>by
  obtain rfl:e=d:=by simpa using h
  show some (p % (e+1))=_;rw [Z7,al,aaG]
 |e::R,k+1,d,p,h=>by
  show (bW R (p/(e+1)))[k]?=_;rw [z6 (p/(e+1)) (by simpa using h),abq,al,ZS]
theorem GL:∀{a b:List Nat}{k x y:Nat},a[k]?=some x→b[k]?=some y→(dW a b)[k]?=some (x+y)
 |[],_,_,_,_,h,_=>by simp at h
 |_::_,[],_,_,_,_,h=>by simp at h
 |p::a,q::b,0,x,y,h1,h2=>by
  obtain rfl:p=x:=by simpa using h1
  obtain rfl:q=y:=by simpa using h2
  rfl
 |p::a,q::b,k+1,x,y,h1,h2=>by
  show (dW a b)[k]?=_;exact GL (by simpa using h1) (by simpa using h2)
theorem D8:∀{ds rs:List Nat} (k:Nat),l5 ds rs→l5 (ds.take k) (rs.take k)
 |[],[],_,_=>by simp [l5]
 |_::_,_::_,0,_=>trivial
 |d::ds,r::rs,k+1,h=>⟨h.1,D8 k h.2⟩
theorem N4:∀{ds rs:List Nat}{k d r:Nat},l5 ds rs→ds[k]?=some d→rs[k]?=some r→r≤d
 |[],_,_,_,_,_,h,_=>by simp at h
 |_::_,[],_,_,_,_,_,h=>by simp at h
 |d::ds,r::rs,0,_,_,h,h1,h2=>by
  simp only [abh,aag] at h1 h2;subst h1 h2;exact h.1
 |d::ds,r::rs,k+1,_,_,h,h1,h2=>N4 (k:=k) h.2 (by simpa using h1) (by simpa using h2)
theorem AU (F T Y:Option Addr) (n c1 c2 c3:Nat) (ns ts js:List Nat) (p:Nat) (w:World) (hF:Sl w F n 1 (bD (bq ns))) (hT:Sl w T n 1 (bD (bq ts))) (hY:Sl w Y n 1 (bD (bq js)))
  (hn:n≤1000) (hok:l5 ts.reverse (dW (bW ns.reverse p) js.reverse)) (hmax:al ts≤1000000) (hns:∀d∈ns,d≤1000) (hts:∀d∈ts,d≤1000) (hp:p≤1000000):
  Calls Tryz.prog 205 #[.slice F n c1,.slice T n c2,.slice Y n c3,.int .i64 p] w fun r w'=>r=.returned (.int .i64 (dV ts.reverse (dW (bW ns.reverse p) js.reverse):Nat))∧Below w.heap.size w w':=by
 have hh:=Hp.start w;have hl1:ns.length=n:=by have:=hF.1;simpa [bD,bq] using this
 have hl2:ts.length=n:=by have:=hT.1;simpa [bD,bq] using this
 have hl3:js.length=n:=by have:=hY.1;simpa [bD,bq] using this
 generalize hrow:dW (bW ns.reverse p) js.reverse=row at*;have hrl:row.length=n:=by rw [←hrow,D5 (by rw [nG,Y9,Y9,hl1,hl3]),nG,Y9,hl1]
 refine aj (N:=52) (l:=[.slice F n c1,.slice T n c2,.slice Y n c3,.int .i64 p]) Tryz.func205 rfl rfl (by simp) ?_;refine sr (aI (aa (sr (aI (aI (aa (ah (sr (mL (aM ?_))))))))));refine ee (aI (aa (ar ?_)));refine Od [3,9,10,11,12,16,17,18,19,20,21,22,23,24,25,26,27,28,29,30,31,32,33,34,35,36,37,38,39,40,41,42,43,44,45,46,47,48,49,50] 3 9 10 11
  (fun v3 v9 v10 v w'=>∃k:Nat,k≤n∧v=.int .i64 ((n:Int)-1-k)∧v3=.int .i64 (p/al (ns.reverse.take k):Nat)∧v9=.int .i64 (dV (ts.reverse.take k) (row.take k):Nat)∧v10=.int .i64 (al (ts.reverse.take k):Nat)∧Hp w [] w')
  (fun _ _ _ v _=>(intOf v+1).toNat) ?_ ?_
 ·refine ⟨0,Yx _, ?_, ?_,rfl,rfl,hh⟩
  ·exact S7
  ·rw [Z7,al,aaG];rfl
 ·clear hh;rintro ρ' v3 v9 v10 v w' ⟨k,hk,rfl,rfl,rfl,rfl,hh⟩;by_cases hlt:k<n
  ·obtain ⟨d,hd⟩:=ao (l:=ns.reverse) (k:=k) (by rw [Y9];omega);obtain ⟨t,ht⟩:=ao (l:=ts.reverse) (k:=k) (by rw [Y9];omega);obtain ⟨j,hj⟩:=ao (l:=js.reverse) (k:=k) (by rw [Y9];omega);have hd':=z7 hl1 hlt;have ht':=z7 hl2 hlt;have hj':=z7 hl3 hlt;rw [hd] at hd';rw [ht] at ht';rw [hj] at hj';have hgd:=cK (eO hd');have hgt:=cK (eO ht');have hgj:=cK (eO hj');have hd2:=hns d (Yy hd');have ht2:=hts t (Yy ht');have hr:row[k]?=some (p/al (ns.reverse.take k) % (d+1)+j):=by rw [←hrow];exact GL (z6 p hd) hj
   have hrt:=N4 hok ht hr;have hcp:=di (ns.reverse.take k);have hq:p/al (ns.reverse.take k)≤p:=aaF _ _;have hct:=ez ts.reverse (k+1);rw [cI,aw ht,mm] at hct;have hck:al (ts.reverse.take k)*1≤al (ts.reverse.take k)*(t+1):=Y4 _ Yo;have hhl:dV (ts.reverse.take k) (row.take k)<al (ts.reverse.take k):=lB (D8 k hok);have e1:((p/al (ns.reverse.take k):Nat):Int) % ((d:Int)+1)=((p/al (ns.reverse.take k) % (d+1):Nat):Int):=by rw [Int.natCast_emod];rfl
   have e2:((p/al (ns.reverse.take k):Nat):Int)/((d:Int)+1)=((p/al (ns.reverse.take (k+1)):Nat):Int):=by rw [aw hd,mm,←ZS,Int.natCast_ediv];rfl
   have hst:dV (ts.reverse.take (k+1)) (row.take (k+1))=dV (ts.reverse.take k) (row.take k)+al (ts.reverse.take k)*(p/al (ns.reverse.take k) % (d+1)+j):=by rw [aw ht,aw hr,JU (by rw [YM,YM,Y9,hl2,hrl])]
   have e3:(((p/al (ns.reverse.take k) % (d+1):Nat):Int)+(j:Int))*((al (ts.reverse.take k):Nat):Int)=((al (ts.reverse.take k)*(p/al (ns.reverse.take k) % (d+1)+j):Nat):Int):=by rw [YO,ZB,ZQ]
   have e4:((al (ts.reverse.take k):Nat):Int)*((t:Int)+1)=((al (ts.reverse.take (k+1)):Nat):Int):=by rw [aw ht,mm,ZB,ZQ];rfl
   have hb3:al (ts.reverse.take k)*(p/al (ns.reverse.take k) % (d+1)+j)≤al (ts.reverse.take k)*(t+1):=Y4 _ Yo;have hc5:al (ts.reverse.take (k+1))=al (ts.reverse.take k)*(t+1):=by rw [aw ht,mm]
   generalize p/al (ns.reverse.take k)=q at*;generalize q % (d+1)=m at*;generalize al (ts.reverse.take k)=C at*;generalize dV (ts.reverse.take k) (row.take k)=Hh at*;obtain ⟨a1,rfl,s1⟩:=hF.at_ Yo;obtain ⟨a2,rfl,s2⟩:=hT.at_ Yo;obtain ⟨a3,rfl,s3⟩:=hY.at_ Yo;refine ah (sr (mI ?_));refine dF (aa (cT (aq (ai (ah (ar (ah ?_)))))));refine aK 11 [[(3,none)],[(0,none)],[(11,none)],[(21,some 1),(22,some 2)],[(23,some 3)],[(24,some 4)],[(20,some 0),(25,some 5)],[(2,none)],[(11,none)],[(27,some 7),(28,some 8)],[(29,some 9)]] [(10,30),(9,29),(8,28),(7,27),(6,26),(5,25),(4,24),(3,23),(2,22),(1,21),(0,20)] hh mixed Yq ?_;refine dJ ?_;refine gI ?_;refine dJ ?_;refine np ((n-1-k)) ?_;refine bB (i:=4) (fun ρ1 w1 hj hR=>iL aJ.out (show ρ1 23=Value.pointer _ from hR.1) ((s1.ext hj.hp.below).tN (by assumption))) ?_;refine qT ?_;refine bB (i:=6) (fun ρ1 w1 hj hR=>pX (show ρ1 20=Value.int _ _ from hR.1) (show ρ1 25=Value.int _ _ from hR.2.1) Yo Yo) ?_;refine gI ?_;refine dJ ?_;refine np ((n-1-k)) ?_
   refine bB (i:=10) (fun ρ1 w1 hj hR=>iL aJ.out (show ρ1 29=Value.pointer _ from hR.1) ((s3.ext hj.hp.below).tN (by assumption))) ?_;refine aH ?_;intro f W hJ hV;have hb_5:=hJ.bl;obtain ⟨v30,v29,v28,v27,v26,v25,v24,v23,v22,v21,v20,_⟩:=hV;replace hh:=hJ.hp;refine aN (a6 (ae v30 (ae v29 (ae v28 (ae v27 (ae v26 (ae v25 (ae v24 (ae v23 (ae v22 (ae v21 (ae v20 aO)))))))))))) ?_;dsimp only [bP];clear hJ;rw [e1];refine a8 (aI (aa (sr (mI (mL (mI ?_))))));refine IB ?_;refine x8 ?_;refine a8 ?_;refine nk ?_;refine aI (aa (sr (mI (mI (mI ?_)))));refine mulC ?_;refine a8 (aI (aa (ak (mI (mL (mI ?_))))));refine IB ?_;refine H6 ?_;refine a8 ?_;refine mulC (aI (aD (bz (ai (ak (mI ?_))))));refine ee (aI (aD (ai ?_)));refine ⟨⟨k+1,Yo, ?_, ?_, ?_, ?_,hh⟩,by show ((n:Int)-1-(k:Int)-1+1).toNat<((n:Int)-1-(k:Int)+1).toNat;omega, ?_⟩
   ·exact Sy
   ·exact Ze (Value.int IntKind.i64) e2
   ·exact Ze (Value.int IntKind.i64) (show (Hh:Int)+((m:Int)+(j:Int))*(C:Int)=_ by rw [e3,hst,ZQ])
   ·exact Ze (Value.int IntKind.i64) e4
   ·exact er
  ·obtain rfl:k=n:=Yo;refine ah (sr (mI ?_));refine dF (aa (cF (aX (aE (aE (bA (ai (sr (mI (aI (aa (av ?_))))))))))));refine dH ?_;rw [YC (by rw [Y9];omega),YC Yo];exact ⟨rfl,hh.below⟩
theorem wx (a:List Int) (x y:Int) (b:List Int) (n:Nat) (h:a.length=n):(a++x::b).set n y=a++y::b:=by
 subst h;rw [aaz _ _ (YA _),Zn,YG]
theorem wH (F:Option Addr) (n c1:Nat) (ns:List Nat) (p:Nat) (w:World) (hF:Sl w F n 1 (bD (bq ns))) (hn:n≤1000) (hns:∀d∈ns,d≤1000) (hp:p≤1000000):
  Calls Tryz.prog 204 #[.slice F n c1,.int .i64 p] w fun r w'=>∃A c',r=.returned (.slice A n c')∧w'.ownsRow w.heap.size 3 1 (.slice A n c') n (bD (bq (bW ns.reverse p).reverse))∧Below w.heap.size w w':=by
 have hh:=Hp.start w;have hl1:ns.length=n:=by have:=hF.1;simpa [bD,bq] using this
 have hdl:(bW ns.reverse p).length=n:=by rw [nG,Y9,hl1]
 refine aj (N:=35) (l:=[.slice F n c1,.int .i64 p]) Tryz.func204 rfl rfl (by simp) ?_;refine sr (aL (aa (sr (mL (aM ?_)))));refine yQ ?_;intro b9 w9 hh;refine yF ?_;refine ee (aI (aa (ar ?_)));rw [show Value.int IntKind.i64 0=Value.int IntKind.i64 0 from rfl] at hh;have hzr:iK n [Value.int .i64 0]=bD (fi n):=by rw [rm];simp [bD,fi]
 rw [hzr] at hh;refine bH [1,6,13,14,15,16,17,18,19,20,21,22,23,24,25,26,27,28,29,30,31,32,33] 1 6
  (fun v1 v w'=>∃k:Nat,k≤n∧v=.int .i64 ((n:Int)-1-k)∧v1=.int .i64 (p/al (ns.reverse.take k):Nat)∧Hp w [.row (some ⟨b9,0,none⟩) n n 3 1 (bD (fi (n-k)++bq ((bW ns.reverse p).take k).reverse))] w')
  (fun _ v _=>(intOf v+1).toNat) ?_ ?_
 ·refine ⟨0,Yx _, ?_, ?_, ?_⟩
  ·exact S7
  ·rw [Z7,al,aaG];rfl
  ·rw [Z7];simpa [bq] using hh
 ·clear hh;rintro ρ' v1 v w' ⟨k,hk,rfl,rfl,hh⟩;by_cases hlt:k<n
  ·obtain ⟨d,hd⟩:=ao (l:=ns.reverse) (k:=k) (by rw [Y9];omega);have hd':=z7 hl1 hlt;rw [hd] at hd';have hgd:=cK (eO hd');have hd2:=hns d (Yy hd');have hdk:=z6 p hd;have hq:p/al (ns.reverse.take k)≤p:=aaF _ _;have e1:((p/al (ns.reverse.take k):Nat):Int) % ((d:Int)+1)=((p/al (ns.reverse.take k) % (d+1):Nat):Int):=by rw [Int.natCast_emod];rfl
   have e2:((p/al (ns.reverse.take k):Nat):Int)/((d:Int)+1)=((p/al (ns.reverse.take (k+1)):Nat):Int):=by rw [aw hd,mm,←ZS,Int.natCast_ediv];rfl
   have hlen:(fi (n-k)++bq ((bW ns.reverse p).take k).reverse).length=n:=by simp [fi,bq,hdl];omega
   have hil:(bD (fi (n-k)++bq ((bW ns.reverse p).take k).reverse)).length=n:=by rw [cQ,hlen]
   generalize p/al (ns.reverse.take k)=q at*;obtain ⟨a1,rfl,s1⟩:=hF.at_ Yo;refine ah (sr (mI ?_));refine dF (aa (cT (aq (ai (ah (ar (sr (mL (mI (mI (mL (mI ?_))))))))))));refine IB ?_;refine x8 ?_;refine a8 ?_;refine q8 ?_;refine cJ (k:=(n-1-k)) bG.out aJ.size rfl rfl Yo Yo Yp ?_;rw [e1];refine ct hh (i:=0) (vs:=[_]) rfl rfl (dt rfl) rfl aJ.out rfl Yo rfl ?_;intro ws hh;simp only [YG] at hh;rw [lv _ Yo] at hh;refine aa (ak (mI (mL (mI ?_))));refine IB ?_;refine x8 ?_;refine a8 ?_;refine nk ?_;refine aI (aD (bz (ai (ak (mI ?_)))));refine ee (aI (aD (ai ?_)));refine ⟨⟨k+1,Yo, ?_, ?_, ?_⟩,by show ((n:Int)-1-(k:Int)-1+1).toNat<((n:Int)-1-(k:Int)+1).toNat;omega, ?_⟩
   ·exact Sy
   ·exact Ze (Value.int IntKind.i64) e2
   ·have e5:(fi (n-k)++bq ((bW ns.reverse p).take k).reverse).set (n-1-k) ((q % (d+1):Nat):Int)=fi (n-(k+1))++bq ((bW ns.reverse p).take (k+1)).reverse:=by
     have hz:fi (n-k)=fi (n-(k+1))++[0]:=by
      unfold fi;rw [show n-k=n-(k+1)+1 by omega,List.replicate_succ']
     rw [hz,Y5,List.singleton_append,wx _ _ _ _ _ (by rw [rN];omega),aw hdk];simp [bq]
    rw [e5] at hh;exact hh
   ·exact er
  ·obtain rfl:k=n:=Yo;rw [YC Yo,Zn] at hh;refine ah (sr (mI ?_));refine dF (aa (cF (aX (aE (aE (bA (ai (sr (mL (aL (aa (av ?_))))))))))));exact MS
variable {k1 k2:Nat}{ms:List Nat}
def eS (a b:List Nat):List Nat:=List.zipWith (· + ·) a b
theorem Oe {a b:List Nat} (h:a.length=b.length):(eS a b).length=a.length:=by simp [eS,h]
theorem IJ {a b:List Nat}{i x y:Nat} (h1:a[i]?=some x) (h2:b[i]?=some y):(eS a b)[i]?=some (x+y):=by
 unfold eS;rw [aaY,h1,h2]
theorem G5:∀(a b:List Nat),dW a b=eS a b
 |[],[]=>rfl
 |[],_::_=>rfl
 |_::_,[]=>rfl
 |x::a,y::b=>by rw [dW,G5 a b];rfl
theorem rg {a b:List Nat} (h:a.length=b.length):dW a.reverse b.reverse=(eS a b).reverse:=by
 rw [G5];exact (List.reverse_zipWith h).symm
theorem J5 {L M:List (Nat×Dyadic)} (h:∀q∈M,q.2=0):ji N (L++M)=ji N L:=by
 unfold ji;refine ZV fun p _=> ?_;rw [pe,uG (l:=M) fun q hq=>by rw [h q hq];split<;>rfl];grind
theorem EC (N:Nat):iK N [.bool false,.string (ByteArray.mk #[]),.int .i64 0]=aA NR.cells ((ji N []).map nR):=by
 rw [vc,List.map_replicate]
 induction N with
 |zero=>rfl
 |succ n ih=>rw [aaT,iV,←ih];rfl
def xA (ds es:List Nat) (xs ys:List Dyadic) (k:Nat):List (Nat×Dyadic):=
 (List.range k).flatMap fun k=>(List.range (al ds)).map fun i=>(dV (dW ds es) (dW (bW ds i) (bW es k)),(xs[i]?).getD 0*(ys[k]?).getD 0)
theorem xb (ds es:List Nat) (xs ys:List Dyadic) (k:Nat):xA ds es xs ys (k+1)=xA ds es xs ys k++(List.range (al ds)).map fun i=>(dV (dW ds es) (dW (bW ds i) (bW es k)),(xs[i]?).getD 0*(ys[k]?).getD 0):=by
 unfold xA;rw [aah,aa5,List.flatMap_singleton]
theorem IX (ds es:List Nat) (xs ys:List Dyadic) (k:Nat):(xA ds es xs ys k).length=k*al ds:=by
 unfold xA;rw [ti (m:=al ds) _ _ fun a _=>by simp,aaO]
theorem EI {ys:List Dyadic} (hx:∀x∈xs,Sz k1 x) (hy:∀y∈ys,Sz k2 y) (k:Nat):∀q∈xA ds es xs ys k,Sz (k1+k2) q.2:=fun q hq=>by
 unfold xA at hq;obtain ⟨j,_,hq⟩:=aak.1 hq;obtain ⟨i,_,rfl⟩:=YF.1 hq;refine Sz.mul ?_ ?_
 ·cases h:xs[i]? with
  |none=>exact Sz.zero _
  |some x=>exact hx x (Yy h)
 ·cases h:ys[j]? with
  |none=>exact Sz.zero _
  |some y=>exact hy y (Yy h)
theorem Cw {ns:List Nat} (hl:ns.length=ms.length) (i k:Nat):l5 (eS ns ms).reverse (dW (bW ns.reverse i) (bW ms.reverse k)):=by
 rw [←rg hl];exact ud (iU _ _) (iU _ _) (by rw [Y9,Y9,hl])
def xt (ns ms:List Nat) (xs ys:List Dyadic):List Dyadic:=ji (al (eS ns ms)) (xA ns.reverse ms.reverse xs ys (al ms))
theorem Bk (F FC G GC:Option Addr) (n c1 c2 c3 c4:Nat) (ns ms:List Nat) (xs ys:List Dyadic) (k1 k2:Nat) (w:World) (hT:dP w)
  (hF:Sl w F n 1 (bD (bq ns))) (hFC:Sl w FC (al ns) 3 (aA NR.cells (xs.map nR))) (hG:Sl w G n 1 (bD (bq ms))) (hGC:Sl w GC (al ms) 3 (aA NR.cells (ys.map nR)))
  (hn:n≤12) (hns:∀d∈ns,d≤127) (hms:∀d∈ms,d≤127) (hN:al (eS ns ms)≤4096) (hM:al ms*al ns≤1000000) (hx:∀x∈xs,Sz k1 x) (hy:∀y∈ys,Sz k2 y) (hk:k1+k2≤100000):
  Calls Tryz.prog 169 #[.agg #[.slice F n c1,.slice FC (al ns) c2],.agg #[.slice G n c3,.slice GC (al ms) c4]] w fun r w'=>∃A a B b,r=.returned (.agg #[.slice A n a,.slice B (al (eS ns ms)) b])∧Hp w [.row B (al (eS ns ms)) b 33 3 (aA NR.cells ((xt ns ms xs ys).map nR)),.row A n a 3 1 (bD (bq (eS ns ms)))] w':=by
 have hh:=Hp.start w;have hl1:ns.length=n:=by have:=hF.1;simpa [bD,bq] using this
 have hl2:ms.length=n:=by have:=hG.1;simpa [bD,bq] using this
 have hlx:xs.length=al ns:=by have:=hFC.bk NR.len Yp;simpa using this
 have hly:ys.length=al ms:=by have:=hGC.bk NR.len Yp;simpa using this
 have hpn:=di ns;have hpm:=di ms;have hMn:1*al ns≤al ms*al ns:=Zo _ hpm;have hMm:al ms*1≤al ms*al ns:=Y4 _ hpn;obtain ⟨a4,rfl,s4⟩:=hGC.at_ hpm;obtain ⟨a5,rfl,s5⟩:=hFC.at_ hpn;have hla:(eS ns ms).length=n:=by rw [Oe Yo,hl1]
 have hadd:∀d∈eS ns ms,d≤254:=fun d hd=>by
  obtain ⟨i,hi⟩:=ZU.1 hd;have hi2:=(YL.1 hi).1;obtain ⟨x,hx1⟩:=ao (l:=ns) (k:=i) Yo;obtain ⟨y,hy1⟩:=ao (l:=ms) (k:=i) Yo;rw [IJ hx1 hy1] at hi;have:=hns x (Yy hx1);have:=hms y (Yy hy1);have:=Zg hi;omega
 have hzr:iK n [Value.int .i64 0]=bD (fi n):=by rw [rm];simp [bD,fi]
 refine aj (N:=93) (l:=[.agg #[.slice F n c1,.slice (some a5) (al ns) c2],.agg #[.slice G n c3,.slice (some a4) (al ms) c4]]) Tryz.func169 rfl rfl (by simp) ?_;refine sr ?_;refine bO hh [_,_] ?_;intro b2 w2 hh;refine bO hh [_,_] ?_;intro b3 w3 hh;refine bC hh ?_;intro b4 w4 hh;refine aa (sr (bo ?_));refine bp hh 2 ?_;refine aM ?_;refine yQ ?_;intro b16 w16 hh;refine fe [_,_] ?_;refine bC hh ?_;intro b5 w5 hh;refine bg hh 0 [_,_] ?_;intro ws hh;replace hh:Hp _ (.blk _ _ [_,_] _::_) _:=hh;refine aa (ah (sr (bo ?_)));refine bp hh 0 ?_;refine aM (mI (aa (ar ?_)));rw [hzr] at hh;refine aT [6,21,22,23,24,25,26,27,28,29,30,31,32,33,34,35,36,37,38,39] 21
  (fun v w'=>∃i:Nat,i≤n∧v=.int .i64 i∧Hp w [.blk b5 25 [.slice (some ⟨b16,0,none⟩) n n,.slice none 0 0] (0,0),.row (some ⟨b16,0,none⟩) n n 3 1 (bD (bq ((eS ns ms).take i)++fi (n-i))),.blk b4 25 [.slice none 0 0,.slice none 0 0] (0,0),.blk b3 25 [.slice G n c3,.slice (some a4) (al ms) c4] (0,0),.blk b2 25 [.slice F n c1,.slice (some a5) (al ns) c2] (0,0)] w')
  (fun v _=>n-(intOf v).toNat) ?_ ?_
 ·exact ⟨0,Yx _,rfl,hh⟩
 ·clear hh;rintro ρ' v w' ⟨i,hi,rfl,hh⟩;by_cases hlt:i<n
  ·obtain ⟨x,hx1⟩:=ao (l:=ns) (k:=i) Yo;obtain ⟨y,hy1⟩:=ao (l:=ms) (k:=i) Yo;have hgx:=cK (eO hx1);have hgy:=cK (eO hy1);have hxy:=IJ hx1 hy1;have hx2:=hns x (Yy hx1);have hy2:=hms y (Yy hy1);have htl:(bq ((eS ns ms).take i)).length=i:=by rw [dr,YM];omega
   have hil:(bD (bq ((eS ns ms).take i)++fi (n-i))).length=n:=by rw [cQ,YE,htl,rN];omega
   obtain ⟨a1,rfl,s1⟩:=hF.at_ Yo;obtain ⟨a2,rfl,s2⟩:=hG.at_ Yo;refine sr ?_;refine LF ?_;refine aK 14 [[(5,none)],[(24,some 0)],[(6,none)],[(2,none)],[(27,some 3)],[(6,none)],[(28,some 4),(29,some 5)],[(30,some 6)],[(3,none)],[(32,some 8)],[(6,none)],[(33,some 9),(34,some 10)],[(35,some 11)],[(31,some 7),(36,some 12)]] [(13,37),(12,36),(11,35),(10,34),(9,33),(8,32),(7,31),(6,30),(5,29),(4,28),(3,27),(2,26),(1,25),(0,24)] hh mixed Yq ?_;refine dR ?_;refine fW 0 ?_;refine dJ ?_;refine dR ?_;refine fW 4 ?_;refine dJ ?_;refine np (i) ?_;refine bB (i:=7) (fun ρ1 w1 hj hR=>iL aJ.out (show ρ1 30=Value.pointer _ from hR.1) ((s1.ext hj.hp.below).tN (by assumption))) ?_;refine dR ?_;refine fW 3 ?_;refine dJ ?_;refine np (i) ?_;refine bB (i:=12) (fun ρ1 w1 hj hR=>iL aJ.out (show ρ1 35=Value.pointer _ from hR.1) ((s2.ext hj.hp.below).tN (by assumption))) ?_;refine qT ?_;refine aH ?_;intro f W hJ hV;have hb_5:=hJ.bl;obtain ⟨v37,v36,v35,v34,v33,v32,v31,v30,v29,v28,v27,v26,v25,v24,_⟩:=hV;replace hh:=hJ.hp
   refine aN (a6 (ae v37 (ae v36 (ae v35 (ae v34 (ae v33 (ae v32 (ae v31 (ae v30 (ae v29 (ae v28 (ae v27 (ae v26 (ae v25 (ae v24 aO))))))))))))))) ?_;dsimp only [bP];clear hJ;refine il ?_;refine MF ?_;intro ws hh;simp only [YG,Y8] at hh;rw [lv _ (by rw [←cQ,hil];exact hlt)] at hh;have e5:(bq ((eS ns ms).take i)++fi (n-i)).set i ((x:Int)+(y:Int))=bq ((eS ns ms).take (i+1))++fi (n-(i+1)):=by
    have hz:fi (n-i)=0::fi (n-(i+1)):=by
     unfold fi;rw [show n-i=n-(i+1)+1 by omega,aaT]
    rw [hz,wx _ _ _ _ _ htl,aw hxy];simp [bq]
   rw [e5] at hh;exact RJ
  ·obtain rfl:i=n:=Yo;rw [YC Yo,Zn] at hh;replace hh:Hp w [.blk b5 25 [.slice (some ⟨b16,0,none⟩) i i,.slice none 0 0] (0,0),.row (some ⟨b16,0,none⟩) i i 3 1 (bD (bq (eS ns ms))),.blk b4 25 [.slice none 0 0,.slice none 0 0] (0,0),.blk b3 25 [.slice G i c3,.slice (some a4) (al ms) c4] (0,0),.blk b2 25 [.slice F i c1,.slice (some a5) (al ns) c2] (0,0)] w':=by
    have:bq (eS ns ms)++fi 0=bq (eS ns ms):=Y7 _;rw [this] at hh;exact hh
   have hsz:=fun w1 hS1=>Ch (some ⟨b16,0,none⟩) i i (eS ns ms) w1 hS1 Yo (fun d hd=>by have:=hadd d hd;omega) Yo;have hzr2:=EC (al (eS ns ms));refine sr ?_;refine G9 ?_;refine bp hh 0 ?_;refine bj hh (hsz _ (hh.az (i:=1) rfl)) rfl ?_;intro w42 hh;refine gj (n:=(al (eS ns ms))) hh rfl rfl Yo Yo bG.out aJ.out rfl Yo Yo Yp ?_;intro b43 w43 hh;refine bo ?_;refine bg hh 1 [_] ?_;intro ws hh;replace hh:Hp _ (_::.blk _ _ [_,_] _::_) _:=hh;refine aa (ah (sr (bo ?_)));refine bp hh 4 ?_;refine aM (mI (aa (ar ?_)));rw [hzr2] at hh;clear hsz hzr2 hzr;have hpr0:ji (al (eS ns ms)) []=ji (al (eS ns ms)) (xA ns.reverse ms.reverse xs ys 0):=rfl;rw [hpr0] at hh;unfold xt;have hk12:=hk;clear hk;refine aT [7,8,9,10,11,12,48,49,50,51,52,53,54,55,56,57,58,59,60,61,62,63,64,65,66,67,68,69,70,71,72,73,74,75,76,77,78,79,80,81,82,83,84,85,86,87,88,89,90,91] 48
    (fun v w'=>∃k:Nat,k≤al ms∧v=.int .i64 k∧Hp w [.row (some ⟨b43,0,none⟩) (al (eS ns ms)) (al (eS ns ms)) 33 3 (aA NR.cells ((ji (al (eS ns ms)) (xA ns.reverse ms.reverse xs ys k)).map nR)),.blk b5 25 [.slice (some ⟨b16,0,none⟩) i i,.slice (some ⟨b43,0,none⟩) (al (eS ns ms)) (al (eS ns ms))] (0,0),.row (some ⟨b16,0,none⟩) i i 3 1 (bD (bq (eS ns ms))),.blk b4 25 [.slice none 0 0,.slice none 0 0] (0,0),.blk b3 25 [.slice G i c3,.slice (some a4) (al ms) c4] (0,0),.blk b2 25 [.slice F i c1,.slice (some a5) (al ns) c2] (0,0)] w')
    (fun v _=>al ms-(intOf v).toNat) ?_ ?_
   ·exact ⟨0,Yx _,rfl,hh⟩
   ·clear hh hpr0;rintro ρ2 v w2 ⟨k,hk,rfl,hh⟩;by_cases hkm:k<al ms
    ·obtain ⟨yk,hyk⟩:=ao (l:=ys) (k:=k) Yo;have hyn:(ys.map nR)[k]?=some (nR yk):=by rw [YJ,hyk];rfl
     have zy:=hy yk (Yy hyk);have hsg:=fun w1=>cL (nR yk) w1;rw [NR.sign,bL] at hsg;by_cases hy0:yk=0
     ·subst hy0;rw [yx] at hsg;refine sr ?_;refine dY ?_;refine cN (k:=k) bG.out aJ.size rfl rfl Yo Yo Yp ?_;refine cg (vs:=[_,_,_]) aJ.out rfl ((s4.ext hh.below).recAt NR.len hyn) rfl Yp ?_;refine bC hh ?_;intro b8 w8 hh;refine aI ?_;refine bg hh 0 [_,_,_] ?_;intro ws hh;replace hh:Hp _ (.blk _ _ [_,_,_] _::_) _:=hh;refine aa (ah (sr ?_));refine bJ hh 0 [_,_,_] ?_;refine bj hh (hsg _) rfl ?_;intro w54 hh;refine cH (aa (cT (aX (aE (bA (ai (ak ?_)))))));refine a8 (mI (aD (ai ?_)));replace hh:=hh.sub (Yw _ (Yv _ (Yv _ (Yv _ (Yv _ (Yv _ (Yv _ YR)))))));refine ⟨⟨k+1,Yo,rfl, ?_⟩,by show al ms-(k+1)<al ms-k;omega, ?_⟩
      ·rw [xb,J5 fun q hq=> ?_]
       ·exact hh
       ·obtain ⟨i,_,rfl⟩:=YF.1 hq;show (xs[i]?).getD 0*(ys[k]?).getD 0=0;rw [hyk];show (xs[i]?).getD 0*0=0;grind
      ·exact er
     ·have hne:gE yk 0≠0:=by
       rcases Q5 yk 0 with h|h|h
       ·rw [wJ h];decide
       ·exact absurd h hy0
       ·rw [xm h];decide
      generalize gE yk 0=sg at*;refine sr ?_;refine dY ?_;refine cN (k:=k) bG.out aJ.size rfl rfl Yo Yo Yp ?_;refine cg (vs:=[_,_,_]) aJ.out rfl ((s4.ext hh.below).recAt NR.len hyn) rfl Yp ?_;refine bC hh ?_;intro b8 w8 hh;refine aI ?_;refine bg hh 0 [_,_,_] ?_;intro ws hh;replace hh:Hp _ (.blk _ _ [_,_,_] _::_) _:=hh;refine aa (ah (sr ?_));refine bJ hh 0 [_,_,_] ?_;refine bj hh (hsg _) rfl ?_;intro w54 hh;refine cH (aa (cF (aq (ai (sr (bo ?_))))));refine bp hh 5 ?_;refine mI ?_;refine ay (wH G i c3 ms k _ (hG.ext hh.below) Yo (fun d hd=>by have:=hms d hd;omega) Yo) au.out rfl Yp ?_;rintro e_ w59 ⟨A59,c59,rfl,hown_,hb_⟩;refine ⟨_,rfl, ?_⟩;replace hh:=hh.aP (x:=.row _ _ _ _ _ _) hb_ hown_;refine aL (aa (sr (bo ?_)));refine bp hh 7 ?_;refine aM (mI (aa (ar ?_)));refine aT [10,11,12,63,64,65,66,67,68,69,70,71,72,73,74,75,76,77,78,79,80,81,82,83,84,85,86,87,88,89,90] 63
       (fun v w'=>∃j:Nat,j≤al ns∧v=.int .i64 j∧Hp w [.row A59 i c59 3 1 (bD (bq (bW ms.reverse k).reverse)),.blk b8 33 [.bool (nR yk).neg,.string (nR yk).aY,.int .i64 (nR yk).e] (0,0),.row (some ⟨b43,0,none⟩) (al (eS ns ms)) (al (eS ns ms)) 33 3 (aA NR.cells ((ji (al (eS ns ms)) (xA ns.reverse ms.reverse xs ys k++(List.range j).map (fun i=>(dV (dW ns.reverse ms.reverse) (dW (bW ns.reverse i) (bW ms.reverse k)),(xs[i]?).getD 0*(ys[k]?).getD 0)))).map nR)),.blk b5 25 [.slice (some ⟨b16,0,none⟩) i i,.slice (some ⟨b43,0,none⟩) (al (eS ns ms)) (al (eS ns ms))] (0,0),.row (some ⟨b16,0,none⟩) i i 3 1 (bD (bq (eS ns ms))),.blk b4 25 [.slice none 0 0,.slice none 0 0] (0,0),.blk b3 25 [.slice G i c3,.slice (some a4) (al ms) c4] (0,0),.blk b2 25 [.slice F i c1,.slice (some a5) (al ns) c2] (0,0)] w')
       (fun v _=>al ns-(intOf v).toNat) ?_ ?_
      ·refine ⟨0,Yx _,rfl, ?_⟩;rw [List.range_zero,Zv,Y7];exact hh
      ·clear hh;rintro ρ3 v w3 ⟨j,hj,rfl,hh⟩;by_cases hjn:j<al ns
       ·obtain ⟨xj,hxj⟩:=ao (l:=xs) (k:=j) Yo;have hxn:(xs.map nR)[j]?=some (nR xj):=by rw [YJ,hxj];rfl
        have zx:=hx xj (Yy hxj);have hpl:=fun w1 h1 h2 h3=>AU F (some ⟨b16,0,none⟩) A59 i c1 i c59 ns (eS ns ms) (bW ms.reverse k).reverse j w1 h1 h2 h3 Yo (by rw [abW];exact Cw Yo _ _) Yo (fun d hd=>by have:=hns d hd;omega) (fun d hd=>by have:=hadd d hd;omega) Yo;simp only [abW,←rg (show ns.length=ms.length by omega)] at hpl;have hplt:dV (dW ns.reverse ms.reverse) (dW (bW ns.reverse j) (bW ms.reverse k))<al (eS ns ms):=by
         have:=lB (Cw (show ns.length=ms.length by omega) j k);rwa [cI,←rg (show ns.length=ms.length by omega)] at this
        obtain ⟨old,hold⟩:=ao (l:=ji (al (eS ns ms)) (xA ns.reverse ms.reverse xs ys k++(List.range j).map (fun i=>(dV (dW ns.reverse ms.reverse) (dW (bW ns.reverse i) (bW ms.reverse k)),(xs[i]?).getD 0*(ys[k]?).getD 0)))) (by rw [jS];exact hplt);have hlen:(xA ns.reverse ms.reverse xs ys k++(List.range j).map (fun i=>(dV (dW ns.reverse ms.reverse) (dW (bW ns.reverse i) (bW ms.reverse k)),(xs[i]?).getD 0*(ys[k]?).getD 0))).length≤1000000:=by
         rw [YE,IX,YI,aaO,cI];have:k*al ns+al ns≤al ms*al ns:=by rw [←ZA];exact Zo _ hkm
         omega
        have zold:Sz 1200000 old:=by
         refine (AY (k:=k1+k2) (fun q hq=> ?_) old (Yy hold)).mono Yo
         rcases Zm.1 hq with hq|hq
         ·exact EI hx hy k q hq
         ·refine EI (ds:=ns.reverse) (es:=ms.reverse) hx hy (k+1) q ?_;rw [xb];obtain ⟨u,hu,rfl⟩:=YF.1 hq;exact Zu _ (YF.2 ⟨u,Zi.2 (by have:=Zi.1 hu;rw [cI];omega),rfl⟩)
        have hon:((ji (al (eS ns ms)) (xA ns.reverse ms.reverse xs ys k++(List.range j).map (fun i=>(dV (dW ns.reverse ms.reverse) (dW (bW ns.reverse i) (bW ms.reverse k)),(xs[i]?).getD 0*(ys[k]?).getD 0)))).map nR)[dV (dW ns.reverse ms.reverse) (dW (bW ns.reverse j) (bW ms.reverse k))]?=some (nR old):=by rw [YJ,hold];rfl
        have zxy:Sz 100000 (xj*yk):=(zx.mul zy).mono hk12;have hmul:=fun A cc w1 hT1 hS1=>fZ A 2 cc [nR xj,nR yk] w1 hT1 hS1 (by simpa using ⟨zx.ok Yo,zy.ok Yo⟩) 100000 (by simpa [bL] using ⟨zx.mono Yo,zy.mono Yo⟩) Yo Yo;rw [show iw ([nR xj,nR yk].map NR.d)=xj*yk by show 1*(nR xj).d*(nR yk).d=_;rw [bL,bL,aap]] at hmul;have hsum:=fun A cc w1 hT1 hS1=>iH A 2 cc [nR old,nR (xj*yk)] w1 hT1 hS1 (by simpa using ⟨zold.ok Yo,zxy.ok Yo⟩) 1200000 (by simpa [bL] using ⟨zold,zxy.mono Yo⟩) Yo;rw [show nt ([nR old,nR (xj*yk)].map NR.d)=old+xj*yk by simp only [Y6,Zv,bL,ki]] at hsum;have hset:=zG (v:=xj*yk) hold;have hstep:xA ns.reverse ms.reverse xs ys k++(List.range (j+1)).map (fun i=>(dV (dW ns.reverse ms.reverse) (dW (bW ns.reverse i) (bW ms.reverse k)),(xs[i]?).getD 0*(ys[k]?).getD 0))=xA ns.reverse ms.reverse xs ys k++(List.range j).map (fun i=>(dV (dW ns.reverse ms.reverse) (dW (bW ns.reverse i) (bW ms.reverse k)),(xs[i]?).getD 0*(ys[k]?).getD 0))++[(dV (dW ns.reverse ms.reverse) (dW (bW ns.reverse j) (bW ms.reverse k)),xj*yk)]:=by
         rw [aah,ZD,←Y5];simp only [Y6,Zv,hxj,hyk,ZO]
        have hfin:ji (al (eS ns ms)) (xA ns.reverse ms.reverse xs ys k++(List.range (j+1)).map (fun i=>(dV (dW ns.reverse ms.reverse) (dW (bW ns.reverse i) (bW ms.reverse k)),(xs[i]?).getD 0*(ys[k]?).getD 0)))=_:=(Ze _ hstep).trans hset.symm;clear hset hstep zold;have hll:((ji (al (eS ns ms)) (xA ns.reverse ms.reverse xs ys k++(List.range j).map (fun i=>(dV (dW ns.reverse ms.reverse) (dW (bW ns.reverse i) (bW ms.reverse k)),(xs[i]?).getD 0*(ys[k]?).getD 0)))).map nR).length=al (eS ns ms):=by rw [YI,jS]
        generalize dV (dW ns.reverse ms.reverse) (dW (bW ns.reverse j) (bW ms.reverse k))=pl at*;generalize ji (al (eS ns ms)) (xA ns.reverse ms.reverse xs ys k++(List.range j).map (fun i=>(dV (dW ns.reverse ms.reverse) (dW (bW ns.reverse i) (bW ms.reverse k)),(xs[i]?).getD 0*(ys[k]?).getD 0)))=X at*;have hrl:=fj NR.len (X.map nR);refine sr ?_;refine dY ?_;refine tO ?_;refine cg (vs:=[_,_,_]) aJ.out rfl ((s5.ext hh.below).recAt NR.len hxn) rfl Yp ?_;refine bC hh ?_;intro b11 w11 hh;refine aI ?_;refine bg hh 0 [_,_,_] ?_;intro ws hh;replace hh:Hp _ (.blk _ _ [_,_,_] _::_) _:=hh;refine aa (sr (bo ?_));refine bp hh 8 ?_;refine bo ?_;refine bp hh 4 ?_;refine mL (mI ?_);refine bj hh (hpl _ (hF.ext hh.below) (hh.az (i:=5) rfl) (hh.az (i:=1) rfl)) rfl ?_;intro w74 hh;refine aI (aa ?_)
        refine aK 14 [[(5,none)],[(75,some 0)],[(12,none)],[(5,none)],[(78,some 3)],[(12,none)],[(79,some 4),(80,some 5)],[(81,some 6)],[(11,none)],[(8,none)],[(83,some 8),(84,some 9)],[(85,some 10)],[(82,some 7),(86,some 11)],[(87,some 12)]] [(13,88),(12,87),(11,86),(10,85),(9,84),(8,83),(7,82),(6,81),(5,80),(4,79),(3,78),(2,77),(1,76),(0,75)] hh mixed Yq ?_;refine dR ?_;refine fW 4 ?_;refine dJ ?_;refine dR ?_;refine fW 4 ?_;refine dJ ?_;refine EG (pl) ?_;refine pW [_,_,_] (fun _ hj=>hj.hp.dT (f:=NR.cells) (x:=nR old) (l:=X.map nR) (i:=3) rfl NR.len Yp hon) ?_;refine dK 0 [_,_,_] ?_;refine dK 2 [_,_,_] ?_;refine x3 [_,_,_,_,_,_] ?_;refine a7 (i:=11) (Is (.agg #[.bool (nR (xj*yk)).neg,.string (nR (xj*yk)).aY,.int .i64 (nR (xj*yk)).e])) Is.ext ?_ ?_
        ·intro ρ1 w1 hj hR;obtain ⟨A85,c85,h85,s85⟩:=hR.1;exact bV rfl (bf au.out (aC h85 bh)) (hmul A85 c85 _ (hT.hp hj.hp) s85) (fun _ _ hq=>⟨_,hq.1,hq.2,rfl⟩)
        refine x3 [_,_,_,_,_,_] ?_;refine a7 (i:=13) (Is (.agg #[.bool (nR (old+xj*yk)).neg,.string (nR (old+xj*yk)).aY,.int .i64 (nR (old+xj*yk)).e])) Is.ext ?_ ?_
        ·intro ρ1 w1 hj hR;obtain ⟨A87,c87,h87,s87⟩:=hR.1;exact bV rfl (bf au.out (aC h87 bh)) (hsum A87 c87 _ (hT.hp hj.hp) s87) (fun _ _ hq=>⟨_,hq.1,hq.2,rfl⟩)
        refine aH ?_;intro f W hJ hV;have hb_17:=hJ.bl;obtain ⟨v88,v87,v86,v85,v84,v83,v82,v81,v80,v79,v78,v77,v76,v75,_⟩:=hV;obtain ⟨A85,c85,e85,f85⟩:Rows _ _ _ (f 10) W:=v85;obtain ⟨A87,c87,e87,f87⟩:Rows _ _ _ (f 12) W:=v87;replace hh:=hJ.hp;refine aN (a6 (ae v88 (ae e87 (ae v86 (ae e85 (ae v84 (ae v83 (ae v82 (ae v81 (ae v80 (ae v79 (ae v78 (ae v77 (ae v76 (ae v75 aO))))))))))))))) ?_;dsimp only [bP];clear e85 e87 hJ;refine cJ (k:=pl) bG.out aJ.size rfl rfl Yo Yo Yp ?_;refine Ic ?_;intro ws hh;simp only [YG,Y8] at hh;rw [show cm (aA NR.cells (X.map nR)) (pl*3) [.bool (nR (old+xj*yk)).neg,.string (nR (old+xj*yk)).aY,.int .i64 (nR (old+xj*yk)).e]=aA NR.cells ((X.map nR).set pl (nR (old+xj*yk))) from eX NR.len Yo,←aaB] at hh;refine gu ?_;refine a8 (mI (aD (ai ?_)));replace hh:=hh.sub (Yw _ (Yv _ (Yv _ (Yv _ (Yv _ (Yv _ (Yv _ (Yv _ (Yv _ YR)))))))))
        refine ⟨⟨j+1,Yo,rfl,by rw [hfin];exact hh⟩,by show al ns-(j+1)<al ns-j;omega, ?_⟩;exact er
       ·obtain rfl:j=al ns:=Yo;rw [show xA ns.reverse ms.reverse xs ys k++(List.range (al ns)).map (fun i=>(dV (dW ns.reverse ms.reverse) (dW (bW ns.reverse i) (bW ms.reverse k)),(xs[i]?).getD 0*(ys[k]?).getD 0))=xA ns.reverse ms.reverse xs ys (k+1) by rw [xb,cI]] at hh;refine sr ?_;refine rQ ?_;refine a8 (mI (aD (ai ?_)));replace hh:=hh.sub (Yw _ (Yw _ (Yv _ (Yv _ (Yv _ (Yv _ (Yv _ (Yv _ YR))))))));refine ⟨⟨k+1,Yo,rfl,hh⟩,by show al ms-(k+1)<al ms-k;omega, ?_⟩;exact er
    ·obtain rfl:k=al ms:=Yo;refine sr ?_;refine nj ?_;refine bJ hh 1 [_,_] ?_;refine bg hh 3 [_,_] ?_;intro ws hh;replace hh:Hp _ (_::_::_::.blk _ _ [_,_] _::_) _:=hh;refine aa (av ?_);replace hh:=hh.sub (Yv _ (Yw _ (Yv _ (Yv _ (Yw _ (Yw _ YR))))));refine JN (cj rfl (cf (vs:=[_,_]) aJ.out (hh.aQ (i:=2) (n:=2) rfl rfl) rfl) dw) ?_;exact ⟨_,_,_,_,rfl,hh.sub (Yv _ (Yv _ (Zx _)))⟩
structure FX where
 A:Option Addr
 n:Nat
 a:Nat
 B:Option Addr
 m:Nat
 b:Nat
 ds:List Int
 cs:List NR
def FX.cells (f:FX):List Value:=[.slice f.A f.n f.a,.slice f.B f.m f.b]
theorem FX.len (f:FX):(FX.cells f).length=2:=rfl
def FX.v (f:FX):Value:=.agg #[.slice f.A f.n f.a,.slice f.B f.m f.b]
structure FX.at_ (f:FX) (w:World):Prop where
 dg:Sl w f.A f.n 1 (bD f.ds)
 nm:Sl w f.B f.m 3 (aA NR.cells f.cs)
theorem FX.at_.ext {f:FX} (h:f.at_ w) (hb:Below w.heap.size w w'):f.at_ w':=⟨h.dg.ext hb,h.nm.ext hb⟩
structure FX.jX (f:FX) (k:Nat):Prop where
 Vo:f.n≤1000
 XC:f.m≤100000
 num:∀c∈f.cs,c.ok∧Sz k c.d
def FX.e (f:FX):Int:=fE f.ds f.cs
theorem mv (f:FX) (k:Nat) (w:World) (hT:dP w) (h:f.at_ w) (hl:f.jX k):
  Calls Tryz.prog 39 #[.agg #[.slice f.A f.n f.a,.slice f.B f.m f.b]] w fun r w'=>r=.returned (.int .i64 f.e)∧Below w.heap.size w w':=
 xS f.A f.B f.n f.a f.m f.b f.ds f.cs w hT h.dg h.nm (by have:=hl.Vo;omega) (by have:=hl.XC;omega) fun a ha=>(hl.num a ha).1
def JH (fs:List FX):Bool:=fs.any fun f=>decide (f.n≠(fs.map FX.n).headD 0)
def jT (fs:List FX):Int:=match fs.find? (fun f=>decide (f.e≠0)) with|some f=>f.e|none=>if fs.length=0∨JH fs=true then 1 else 0
theorem Fk (L:Option Addr) (n c:Nat) (fs:List FX) (f:FX) (p:Addr) (w:World) (hL:Sl w L n 2 (aA FX.cells fs)) (hp:w.cell? p=some (.slice L n c)) (hn:0<n):
  Calls Tryz.prog 166 #[.agg #[.slice f.A f.n f.a,.slice f.B f.m f.b],.pointer (some p)] w fun r w'=>r=.returned (.bool (decide (f.n≠(fs.map FX.n).headD 0)))∧Below w.heap.size w w':=by
 have hh:=Hp.start w;have hln:=hL.bk FX.len Yp;obtain ⟨g,fs,rfl⟩:∃g l,fs=g::l:=by
  cases fs with
  |nil=>exact absurd hln (by show ¬0=n;omega)
  |cons g l=>exact ⟨g,l,rfl⟩
 obtain ⟨ad,rfl,hr⟩:=hL.at_ hn;have hd:(((g::fs).map FX.n).headD 0)=g.n:=rfl;rw [hd];have h0:(g::fs)[0]?=some g:=rfl;by_cases hg:f.n=g.n
 ·refine aj (N:=13) (l:=[.agg #[.slice f.A f.n f.a,.slice f.B f.m f.b],.pointer (some p)]) Tryz.func166 rfl rfl (by simp) ?_;refine sr ?_;refine bO hh [_,_] ?_;intro b2 w2 hh;refine aB (aa (ah ?_));refine Rv ?_;refine dR ?_;refine fW 0 ?_;refine qe ?_;refine Hx ?_;refine bB (i:=4) (fun ρ1 w1 hj hR=>ew bG.out aJ.size (show ρ1 7=Value.slice _ _ _ from hR.1) rfl Yo Yo) ?_;refine Jz ?_;refine x7 (fun _ hj=>cn hj.hp.below (((hr.recAt FX.len h0)) 0 _ rfl)) ?_;refine qe ?_;refine aH ?_;intro f W hJ hV;have hb_1:=hJ.bl;obtain ⟨v11,v10,v9,v8,v7,v6,v5,v4,_⟩:=hV;replace hh:=hJ.hp;refine aN (a6 (ae v11 (ae v10 (ae v9 (ae v8 (ae v7 (ae v6 (ae v5 (ae v4 aO))))))))) ?_;dsimp only [bP];clear hJ;exact Uu
 ·refine aj (N:=13) (l:=[.agg #[.slice f.A f.n f.a,.slice f.B f.m f.b],.pointer (some p)]) Tryz.func166 rfl rfl (by simp) ?_;refine sr ?_;refine bO hh [_,_] ?_;intro b2 w2 hh;refine aB (aa (ah ?_));refine Rv ?_;refine dR ?_;refine fW 0 ?_;refine qe ?_;refine Hx ?_;refine bB (i:=4) (fun ρ1 w1 hj hR=>ew bG.out aJ.size (show ρ1 7=Value.slice _ _ _ from hR.1) rfl Yo Yo) ?_;refine Jz ?_;refine x7 (fun _ hj=>cn hj.hp.below (((hr.recAt FX.len h0)) 0 _ rfl)) ?_;refine qe ?_;refine aH ?_;intro f W hJ hV;have hb_1:=hJ.bl;obtain ⟨v11,v10,v9,v8,v7,v6,v5,v4,_⟩:=hV;replace hh:=hJ.hp;refine aN (a6 (ae v11 (ae v10 (ae v9 (ae v8 (ae v7 (ae v6 (ae v5 (ae v4 aO))))))))) ?_;dsimp only [bP];clear hJ;exact TV
theorem EP (A:Option Addr) (n c:Nat) (l:List FX) (g:FuncId) (cap:List Value) (p:FX→Bool) (w:World) (hS:Sl w A n 2 (aA FX.cells l)) (hn:n≤1000000) [au Tryz.prog g]
  (hg:∀(z:FX) (w1:World),z∈l→Below w.heap.size w w1→Calls Tryz.prog g (.agg #[.slice z.A z.n z.a,.slice z.B z.m z.b]::cap).toArray w1 fun r w'=>r=.returned (.bool (p z))∧Below w1.heap.size w1 w'):
  Calls Tryz.prog 202 #[.slice A n c,.func (.func g) #[] cap.toArray] w fun r w'=>∃v,r=.returned (.int .i64 v)∧(0≤v↔l.any p=true)∧Below w.heap.size w w':=by
 have hh:=Hp.start w;have hln:=hS.bk FX.len Yp;refine aj (N:=19) (l:=[.slice A n c,.func (.func g) #[] cap.toArray]) Tryz.func202 rfl rfl (by simp) ?_;refine zJ ?_;refine aT [4,5,8,9,10,11,12,13,14,15,16,17,18] 8
  (fun v w'=>∃i:Nat,i≤n∧v=.int .i64 i∧(l.take i).any p=false∧Hp w [] w')
  (fun v _=>n-(intOf v).toNat) ?_ ?_
 ·exact ⟨0,Yx _,rfl,rfl,hh⟩
 ·clear hh;rintro ρ' v w' ⟨i,hi,rfl,hall,hh⟩;by_cases hlt:i<n
  ·obtain ⟨z,hz⟩:=ao (l:=l) (k:=i) Yo;obtain ⟨ad,rfl,hr⟩:=hS.at_ Yo;have hc:=fun w1=>hg z w1 (Yy hz)
   cases gz:p z with
   |true=>
    rw [gz] at hc;refine sr ?_;refine nq ?_;refine iY ?_;refine mL (mI ?_);refine bZ ?_;refine cg (vs:=[_,_]) aJ.out rfl ((hr.ext hh.below).recAt FX.len hz) rfl Yp ?_;exact Qs
   |false=>
    rw [gz] at hc;refine sr ?_;refine nq ?_;refine iY ?_;refine mL (mI ?_);refine bZ ?_;refine cg (vs:=[_,_]) aJ.out rfl ((hr.ext hh.below).recAt FX.len hz) rfl Yp ?_;exact Cl
  ·exact Pn
theorem ES (A:Option Addr) (n c:Nat) (l:List FX) (g:FuncId) (cap:List Value) (p:FX→Bool) (w:World) (hS:Sl w A n 2 (aA FX.cells l)) (hn:n≤1000000) [au Tryz.prog g]
  (hg:∀(z:FX) (w1:World),z∈l→Below w.heap.size w w1→Calls Tryz.prog g (.agg #[.slice z.A z.n z.a,.slice z.B z.m z.b]::cap).toArray w1 fun r w'=>r=.returned (.bool (p z))∧Below w1.heap.size w1 w'):
  Calls Tryz.prog 165 #[.slice A n c,.func (.func g) #[] cap.toArray] w fun r w'=>r=.returned (.bool (l.any p))∧Below w.heap.size w w':=by
 have hh:=Hp.start w;refine aj (N:=9) (l:=[.slice A n c,.func (.func g) #[] cap.toArray]) Tryz.func165 rfl rfl (by simp) ?_;refine sr (aB (aa (sr (mL ?_))));refine iY ?_;refine ay (EP A n c l g cap p _ (hS.ext hh.below) hn hg) au.out rfl Yp ?_;exact QN
theorem BP (L:Option Addr) (n c:Nat) (fs:List FX) (k:Nat) (w:World) (hT:dP w) (hL:Sl w L n 2 (aA FX.cells fs)) (hn:n≤1000000) (hf:∀f∈fs,f.at_ w) (hl:∀f∈fs,f.jX k):
  Calls Tryz.prog 121 #[.slice L n c] w fun r w'=>r=.returned (.int .i64 (jT fs))∧Below w.heap.size w w':=by
 have hh:=Hp.start w;have hln:=hL.bk FX.len Yp;refine aj (N:=26) (l:=[.slice L n c]) Tryz.func121 rfl rfl (by simp) ?_;refine sr ?_;refine bO hh [_] ?_;intro b1 w1 hh;refine aI (aa (ah (sr ?_)));refine bp hh 0 ?_;refine aM (mI (aa (ar ?_)));refine aT [2,4,5,8,9,10,11,12,13,14,15,16,17] 8
  (fun v w'=>∃i:Nat,i≤n∧v=.int .i64 i∧(fs.take i).any (fun f=>decide (f.e≠0))=false∧Hp w [.blk b1 85 [.slice L n c] (0,0)] w')
  (fun v _=>n-(intOf v).toNat) ?_ ?_
 ·exact ⟨0,Yx _,rfl,rfl,hh⟩
 ·clear hh;rintro ρ' v w' ⟨i,hi,rfl,hall,hh⟩;by_cases hlt:i<n
  ·obtain ⟨f,hx⟩:=ao (l:=fs) (k:=i) Yo;have hmem:=Yy hx;have hc:=fun w1 hT1 hb=>mv f k w1 hT1 ((hf f hmem).ext hb) (hl f hmem);obtain ⟨ad,rfl,hr⟩:=hL.at_ Yo;by_cases he:f.e=0
   ·refine sr ?_;refine dI ?_;refine bZ ?_;refine H9 ?_;exact R7
   ·refine sr ?_;refine dI ?_;refine bZ ?_;refine H9 ?_;refine bC hh ?_;intro b4 w4 hh;refine bg hh 0 [_,_] ?_;intro ws hh;replace hh:Hp _ (.blk _ _ [_,_] _::_) _:=hh;refine aa (sr ?_);refine bJ hh 0 [_,_] ?_;refine yh ?_;intro w13 hh;refine aI (aa (sr (mI ?_)));refine dn (aa (cT (sr (mI (aI (aa (av (bU (aF (aF (bU (aF ?_))))))))))));refine dH ?_;refine ⟨?_,hh.below⟩;unfold jT;rw [r6 hall hx (YN he)]
  ·rw [YC Yo] at hall;have hlk:jT fs=if fs.length=0∨JH fs=true then 1 else 0:=by unfold jT;rw [j6 hall]
   rw [hlk];by_cases h0:n=0
   ·exact Vu
   ·have hcell:w'.cell? ⟨b1,0,none⟩=some (.slice L n c):=hh.dk (i:=0) rfl rfl;have ho:=fun w1 hb=>ES L n c fs 166 [.pointer (some ⟨b1,0,none⟩)] (fun f=>decide (f.n≠(fs.map FX.n).headD 0)) w1 (hL.ext (hh.below.trans (hb.mono hh.below.size))) hn (fun z w2 hz hb2=>Fk L n c fs z ⟨b1,0,none⟩ w2 ((hL.ext (hh.below.trans (hb.mono hh.below.size))).ext hb2) (cn hb2 (cn hb hcell)) Yo)
    cases hod:JH fs with
    |true=>
     have hod2:fs.any (fun f=>decide (f.n≠(fs.map FX.n).headD 0))=true:=hod;exact VN
    |false=>
     have hod2:fs.any (fun f=>decide (f.n≠(fs.map FX.n).headD 0))=false:=hod;exact V0
variable {b0:Nat}
set_option maxRecDepth 100000 in
theorem D4 {H:Type}{enc:TypeId×Value→H}{held:Bool}{x:DataW H×List MemPlace} (h:DataW.trod enc Tryz.prog W base sp held fuel 25 cs=some x):
  ∃f:FX,cs=f.cells∧f.at_ W∧f.n≤f.a∧f.m≤f.b:=by
 have c0:Tryz.prog.cellsOf 25=2:=by kernel_rfl
 have c1:Tryz.prog.cellsOf 22=1:=by kernel_rfl
 have c2:Tryz.prog.cellsOf 23=1:=by kernel_rfl
 obtain ⟨y0,y1,n,_,hl,h0,h1⟩:=trod_struct2 Tryz.underlying25 h;obtain ⟨A,n,a,l,e0,s0,_⟩:=xn IC.len Yp Tryz.underlying22 Yq (fun _ _ _ h=>KQ h) h0;rw [e0] at h0;have hroom:=yA Tryz.underlying22 h0;obtain ⟨B,m,b,k,e1,s1,_⟩:=xn NR.len Yp Tryz.underlying23 Yq (fun _ _ _ h=>Jw h) h1;rw [e1] at h1;have hroom2:=yA Tryz.underlying23 h1;rw [QA] at s0;rw [c0] at hl
 match cs,hl with
 |[x0,x1],_=>
  simp only [c1,c2] at e0 e1;simp at e0 e1;subst e0 e1;exact ⟨⟨A,n,a,B,m,b,l,k⟩,rfl,⟨s0,s1⟩,hroom,hroom2⟩
set_option maxRecDepth 100000 in
theorem xc {H:Type}{enc:TypeId×Value→H}{r:Reach}{held:Bool}{v:Value}{d:DataW H}{ps:List MemPlace}
  (hval:Value.okWide Tryz.prog W r b0 25 v) (hd:DataW.Trod enc Tryz.prog W base sp held 25 v d ps):∃f:FX,v=.agg #[.slice f.A f.n f.a,.slice f.B f.m f.b]∧f.at_ W∧f.m≤f.b:=by
 obtain ⟨cs,rfl,_⟩:=okWide_struct Tryz.underlying25 hval;obtain ⟨fuel,hf⟩:=hd;obtain ⟨f,h1,h2,_,h4⟩:=D4 hf;refine ⟨f, ?_,h2,h4⟩;have h3:cs.toList=f.cells:=h1;rw [←Array.toList_inj.1 (show cs.toList=(#[.slice f.A f.n f.a,.slice f.B f.m f.b]:Array Value).toList from h3)]
theorem KI {H:Type}{enc:TypeId×Value→H}{t e:TypeId}{r:Reach}{held:Bool}{v:Value}{d:DataW H}{ps:List MemPlace}{k:IntKind} (ht:P.underlying t=some (.slice e)) (he:P.underlying e=some (.int k)) (hc:P.cellsOf e=1)
  (hval:Value.okWide P W r b0 t v) (hd:DataW.Trod enc P W base sp held t v d ps):∃(A:Option Addr) (n c:Nat) (xs:List Int),v=.slice A n c∧Sl W A n 1 (xs.map (Value.int k))∧n≤maxLen∧∀x∈xs,(Lit.int k x).wf=true:=by
 obtain ⟨a,len,cap,rfl⟩:=okWide_slice ht hval;obtain ⟨fuel,hf⟩:=hd
 rcases open_ints ht he hc hf with ⟨h1,_⟩|⟨ad,n,cp,zs,h1,_,h2,h3,h4,_,h5,h6⟩
 ·simp only [Value.cells,List.cons.injEq,Value.slice.injEq,and_true] at h1;obtain ⟨rfl,rfl,rfl⟩:=h1;exact ⟨none,0,0,[],rfl,Sl.nil W none 1,by simp,fun _ h=>by simp at h⟩
 ·simp only [Value.cells,List.cons.injEq,Value.slice.injEq,and_true] at h1;obtain ⟨rfl,rfl,rfl⟩:=h1;have hzl:len≤zs.length:=by rw [h4];split<;>omega
  refine ⟨some ad,len,cap,zs.take len,rfl,⟨by rw [YI,YM];omega,fun _=>⟨ad,rfl,fun j u hu=> ?_⟩⟩,Yo,fun x hx=>h6 x (aad hx)⟩;simp only [YJ,aay] at hu;obtain ⟨x,hx,rfl⟩:=hu;rw [ZX] at hx;split at hx
  ·obtain ⟨h7,h8⟩:=YL.1 hx;have:=h5 j h7;rw [aao,hx] at this;exact this
  ·cases hx
theorem Ok {H:Type}{enc:TypeId×Value→H}{t e:TypeId}{r:Reach}{held:Bool}{v:Value}{d:DataW H}{ps:List MemPlace} (ht:P.underlying t=some (.slice e)) (he:P.underlying e=some (.int .u8)) (hc:P.cellsOf e=1)
  (hval:Value.okWide P W r b0 t v) (hd:DataW.Trod enc P W base sp held t v d ps):∃A n c bs,v=.slice A n c∧Sl W A n 1 (nB bs)∧n≤maxLen:=by
 obtain ⟨A,n,c,xs,h1,h2,h3,h4⟩:=KI ht he hc hval hd;refine ⟨A,n,c,xs.map z5,h1, ?_,h3⟩;have:nB (xs.map z5)=xs.map (Value.int .u8):=by
  rw [nB,Zs];apply ZV;intro x hx;have h5:=h4 x hx;have h6:0≤x∧x≤255:=by
   simp only [Lit.wf,YP,YX] at h5;have e1:IntKind.u8.min=0:=by decide
   have e2:IntKind.u8.max=255:=by decide
   omega
  simp only [Function.comp,z5,abz];congr 1;omega
 rw [this];exact h2
set_option maxRecDepth 100000 in
theorem Fx {H:Type}{enc:TypeId×Value→H}{r:Reach}{held:Bool}{v:Value}{d:DataW H}{ps:List MemPlace}
  (hval:Value.okWide Tryz.prog W r b0 26 v) (hd:DataW.Trod enc Tryz.prog W base sp held 26 v d ps):∃(A:Option Addr) (n c:Nat) (l:List Nat),v=.slice A n c∧Sl W A n 1 (iE l)∧∀c∈l,c<256:=by
 obtain ⟨A,n,c,bs,h1,h2,_⟩:=Ok Tryz.underlying26 Tryz.underlying5 Yq hval hd;refine ⟨A,n,c,bs.map UInt8.toNat,h1, ?_,fun c hc=> ?_⟩
 ·rw [show iE (bs.map UInt8.toNat)=nB bs by unfold iE nB;rw [Zs];rfl];exact h2
 ·obtain ⟨b,_,rfl⟩:=YF.1 hc;exact b.toNat_lt
variable {rh y0 y1:Nat}
theorem Vr {P Y v K T:Nat} (hv:0<v) (hK:0<K) (hT:P/K=T) (hY:v*K≤Y):P/Y≤T/v:=by
 rw [←hT,ZS,YO K v];exact Nat.div_le_div_left hY (Nat.mul_pos hv hK)
theorem Ob {P Y:Nat} (hY:0<Y) (h:P/Y≤q) (hq:q*Y≤P):q=P/Y:=Nat.le_antisymm ((Nat.le_div_iff_mul_le hY).2 hq) h
theorem Re {P Y:Nat} (hY:0<Y) (hq:P<q*Y):P/Y≤q-1:=by
 have:=(ZH hY).2 hq;omega
structure wA (u c y1 y0 q rh:Nat):Prop where
 e:q*y1+rh=u
 le:(4294967296*u+c)/(4294967296*y1+y0)≤q
 sm:q≤4294967297
theorem ve {u:Nat} (h1:2147483648≤y1) (h0:y0<4294967296) (hc:c<4294967296) (hu:u<4294967296*y1+y0):wA u c y1 y0 (u/y1) (u % y1):=by
 have hd:=ZJ u y1;refine ⟨by rw [YO];exact hd, ?_, ?_⟩
 ·refine Vr (K:=4294967296) Yo Yp (T:=u) ?_ Yo;omega
 ·have:u/y1<4294967298:=by
   rw [ZH Yo];omega
  omega
theorem J9 {u:Nat} (h1:2147483648≤y1) (hu:u<4294967296*y1+y0) (hc:c<4294967296) (h:wA u c y1 y0 q rh) (hb:4294967296≤q∨4294967296*rh+c<q*y0):1≤q∧wA u c y1 y0 (q-1) (rh+y1):=by
 obtain ⟨e,hle,hsm⟩:=h;have hq:1≤q:=by
  rcases hb with hb|hb
  ·omega
  ·rcases aac q with h0|h0
   ·rw [h0,aaP] at hb;omega
   ·exact h0
 obtain ⟨p,rfl⟩:∃p,q=p+1:=⟨q-1,Yo⟩;rw [ZA] at e;refine ⟨hq,⟨by rw [Nat.add_sub_cancel];omega, ?_,Yo⟩⟩;have hY:0<4294967296*y1+y0:=Yo
 rcases hb with hb|hb
 ·have:(4294967296*u+c)/(4294967296*y1+y0)<4294967296:=by
   rw [ZH hY];omega
  omega
 ·refine Re hY ?_;have e2:(p+1)*(4294967296*y1+y0)=4294967296*((p+1)*y1)+(p+1)*y0:=by rw [Zj,aa2]
  rw [e2,ZA p y1];omega
theorem yu {u:Nat} (h1:2147483648≤y1) (h0:y0<4294967296) (h:wA u c y1 y0 q rh) (hb:q*y0≤4294967296*rh+c):q=(4294967296*u+c)/(4294967296*y1+y0):=by
 obtain ⟨e,hle,hsm⟩:=h;refine Ob Yo hle ?_;have e2:q*(4294967296*y1+y0)=4294967296*(q*y1)+q*y0:=by rw [Zj,aa2]
 rw [e2];omega
theorem Fs {u:Nat} (h1:2147483648≤y1) (h0:y0<4294967296) (h:wA u c y1 y0 q rh) (hq:q≤4294967296) (hb:4294967296≤rh):q=(4294967296*u+c)/(4294967296*y1+y0):=by
 refine yu h1 h0 h ?_;have h2:q*y0≤4294967295*q:=by rw [YO 4294967295];exact Y4 q Yo
 omega
theorem BZ {a r:Nat} (h:a+c=m+r) (hr:r<18446744073709551616):((a % 18446744073709551616+c) % 18446744073709551616+18446744073709551616-m % 18446744073709551616) % 18446744073709551616=r:=by omega
theorem FG {hi c0 y:Nat} (hy:0<y) (h1:c1<4294967296) (h0:c0<4294967296):4294967296*((4294967296*hi+c1)/y)+(4294967296*((4294967296*hi+c1) % y)+c0)/y=(18446744073709551616*hi+(4294967296*c1+c0))/y∧(4294967296*((4294967296*hi+c1) % y)+c0) % y=(18446744073709551616*hi+(4294967296*c1+c0)) % y:=by
 have hd:=ZJ (4294967296*hi+c1) y;generalize (4294967296*hi+c1)/y=q at*;generalize (4294967296*hi+c1) % y=r at*;have e:18446744073709551616*hi+(4294967296*c1+c0)=y*(4294967296*q)+(4294967296*r+c0):=by
  rw [aa2];omega
 rw [e,Nat.mul_add_div hy,Nat.mul_add_mod];exact ⟨rfl,rfl⟩
variable {x0 x1:Nat}{ys:List Nat}
section
variable {B:Nat}
theorem Fc {xs:List Nat}{a:Nat} (h1:xs[a+m]?=some x0) (h2:xs[a+(m+1)]?=some x1):(xs.drop a).take (m+2)=(xs.drop a).take m++[x0,x1]:=by
 have e1:(xs.drop a)[m]?=some x0:=by rw [ZW];exact h1
 have e2:(xs.drop a)[m+1]?=some x1:=by rw [ZW];exact h2
 rw [aw e2,aw e1,Y5]
 rfl
theorem OA {xs:List Nat}{a:Nat} (hx:Dg B xs) (hB:0<B) (h1:xs[a+m]?=some x0) (h2:xs[a+(m+1)]?=some x1):aZ B ((xs.drop a).take (m+2))/B^m=B*x1+x0:=by
 have hl:=(YL.1 h2).1;have hlen:((xs.drop a).take m).length=m:=by rw [YM,Zz];omega
 have hlt:=gQ ((hx.drop a).take m);rw [hlen] at hlt;rw [Fc h1 h2,db,hlen,ZR _ _ (YY hB),Zt hlt];show 0+(x0+B*(x1+B*0))=_;rw [aaK,ZM,YZ,aat]
theorem Fo {v:Nat} (h:ys[m]?=some v) (hl:ys.length=m+1):v*B^m≤aZ B ys:=by
 have e:ys=ys.take m++[v]:=by rw [←aw h,YC Yo]
 rw [e,db,YM,ZK Yo];show v*B^m≤_+B^m*(v+B*0);rw [aaK,ZM,YO];exact Nat.le_add_left _ _
def FK (B x1 x0 v:Nat):Nat:=if x1<v then (B*x1+x0)/v else B-1
theorem Te {xs:List Nat}{a v:Nat} (hx:Dg B xs) (hB:1<B) (h1:xs[a+m]?=some x0) (h2:xs[a+(m+1)]?=some x1) (hv:ys[m]?=some v) (hl:ys.length=m+1) (hv0:0<v) (hP:aZ B ((xs.drop a).take (m+2))/aZ B ys<B):aZ B ((xs.drop a).take (m+2))/aZ B ys≤FK B x1 x0 v∧FK B x1 x0 v<B:=by
 have h0:=hx.at_ h1;unfold FK;by_cases hlt:x1<v
 ·rw [Yt hlt];refine ⟨Vr hv0 (YY (n:=m) Yo) (OA hx Yo h1 h2) (Fo hv hl), ?_⟩;rw [ZH hv0];have:B*(x1+1)≤B*v:=Y4 B hlt;rw [ZZ] at this;omega
 ·rw [Yu hlt];omega
theorem M8 {xs:List Nat}{a r:Nat} (ha:a+n≤xs.length) (hr:r<B^n):aZ B (xs.take a++bX B n r++xs.drop (a+n))+B^a*aZ B ((xs.drop a).take n)=aZ B xs+B^a*r:=by
 have h1:xs=xs.take a++(xs.drop a).take n++xs.drop (a+n):=by
  rw [Y5,←aaM,Zy,Zy]
 have hla:(xs.take a).length=a:=by rw [YM];omega
 have hln:((xs.drop a).take n).length=n:=by rw [YM,Zz];omega
 have hlk:(bX B n r).length=n:=aW _ _;have e1:aZ B xs=aZ B (xs.take a)+B^a*(aZ B ((xs.drop a).take n)+B^n*aZ B (xs.drop (a+n))):=by
  conv=>lhs;rw [h1]
  rw [Y5,db,db,hla,hln]
 rw [e1,Y5,db,db,hla,hlk,cX hr];simp only [Zj];omega
end
variable {ops:Array Oper}{pos:String}{ρ:Rf}
theorem dh {Q:Kq}{L:Array Bool}{i d:Nat}{op:Op}{ty:TypeId}{af:Array Edge}{v:Value} (hq:NP Q) (hi:ops[i]?=some ⟨some d,op,ty,pos,af,none⟩) (hs:Region.noSelect ops=true) (hf:Region.free .any ops L i=true) (hr:(Region.ready .any ops L).contains i=true)
  (hv:∀w,(execOp (ev ρ) ⟨some d,op,ty,pos,af,none⟩).run P w=.ok (.value v) w) (hN:d<N) (h:WA P N ops Q fuel (L.setIfInBounds i true) (cP ρ d v) w):WA P N ops Q (fuel+1) L ρ w:=
 ⟨fun a hfit=>wpAny_first hi (Region.noSelect_spec hs) (fun c a w ⟨ρ',_,hq'⟩=>(hq c ρ' w hq').elim) fuel L a w (Region.free_spec hi hf) (by simpa using hr) (.inl ⟨by simp [Region.wanted],fun w=>by rw [hfit.eval];exact hv w⟩) (h.out _ (hfit.put hN v))⟩
variable {next:Rf→World→Prop}
section
variable {ro:Mode}{P:Program}{N:Nat}{Q:Kq}{ρ:Rf}{w:World}
theorem u9 {c:Code}{id:Nat} (mods:List Nat) (s0:Nat) (J:Value→World→Prop) (hc:WC ro P N c (qo id (cM (fun ρ2 w2=>J (ρ2 s0) w2∧iI mods ρ2 ρ) Q)) ρ w)
  (hn:∀ρ' v0 w',J v0 w'→next (cP (mask mods ρ' ρ) s0 v0) w'):WC ro P N c (qo id (cM next Q)) ρ w:=
 hc.mono fun e ρ2 w2 hq=>by
  have key:J (ρ2 s0) w2∧iI mods ρ2 ρ→next ρ2 w2:=fun h=>by
   have:=hn ρ2 (ρ2 s0) w2 h.1;rwa [iO h.2,fy] at this
  cases e with
  |normal=>exact key hq
  |exit i=>
   by_cases h:i=id
   ·subst h;simp only [qo,cM,if_true] at hq ⊢;exact key hq
   ·simp only [qo,cM,Yu h] at hq ⊢;exact hq
  |_=>exact hq
theorem oQ {a c:Code} (mods:List Nat) (J:World→Prop) (hc:WC ro P N a (cM (fun ρ2 w2=>J w2∧iI mods ρ2 ρ) Q) ρ w) (hn:∀ρ' w',J w'→WC ro P N c Q (mask mods ρ' ρ) w'):WC ro P N (.seq a c) Q ρ w:=
 ah (hc.mono fun e ρ2 w2 hq=>by
  cases e with
  |normal=>
   have:=hn ρ2 w2 hq.1;rwa [iO hq.2] at this
  |_=>exact hq)
end
theorem C9 (hi lo y:Nat) (w:World) (hy:9223372036854775808≤y) (hy2:y<18446744073709551616) (hh1:hi<y) (hl:lo<18446744073709551616):
  Calls Tryz.prog 233 #[.int .u64 hi,.int .u64 lo,.int .u64 y] w fun r w'=>r=.returned (.tuple #[.int .u64 ((18446744073709551616*hi+lo)/y:Nat),.int .u64 ((18446744073709551616*hi+lo) % y:Nat)])∧Below w.heap.size w w':=by
 have hh:=Hp.start w;by_cases h0:hi=0
 ·subst h0;rw [aaK,YZ];refine aj (N:=135) (l:=[.int .u64 ((0:Nat):Int),.int .u64 lo,.int .u64 y]) Tryz.func233 rfl rfl (by simp) ?_;refine sr (aI (aI (aa (ah (sr (mI ?_))))));refine cH (aa (cF (aq (ai (ah (sr (mI (mI ?_))))))));refine EB (aa (cF (aq (ai (ah (sr (mI ?_)))))));refine cH (aa (cT (ah ?_)));refine aK 7 [[(1,none)],[(2,none)],[(28,some 0),(29,some 1)],[(1,none)],[(2,none)],[(31,some 3),(32,some 4)],[(30,some 2)]] [(6,6),(5,33),(4,32),(3,31),(2,30),(1,29),(0,28)] hh mixed Yq ?_;refine dJ ?_;refine dJ ?_;refine bB (i:=2) (fun ρ1 w1 hj hR=>LB (show ρ1 28=Value.int _ _ from hR.1) (show ρ1 29=Value.int _ _ from hR.2.1) Yo (by first|assumption|omega)) ?_;refine dJ ?_;refine dJ ?_;refine bB (i:=5) (fun ρ1 w1 hj hR=>MV (show ρ1 31=Value.int _ _ from hR.1) (show ρ1 32=Value.int _ _ from hR.2.1) Yo) ?_;refine XG ?_;refine aH ?_;intro f W hJ hV;have hb_6:=hJ.bl;obtain ⟨v6,v33,v32,v31,v30,v29,v28,_⟩:=hV;replace hh:=hJ.hp;refine aN (a6 (ae v6 (ae v33 (ae v32 (ae v31 (ae v30 (ae v29 (ae v28 aO)))))))) ?_;dsimp only [bP];clear hJ;refine aI (aa (av (aF ?_)));refine yf ?_;exact ⟨rfl,hh.below⟩
 ·have hb:(64:Int)-(bE y:Int)=((0:Nat):Int):=by
   have:=Ak (n:=y) (k:=64) hy2 hy;omega
  have hlz:=fun w1=>qd y w1 hy2;rw [hb] at hlz;refine aj (N:=135) (l:=[.int .u64 hi,.int .u64 lo,.int .u64 y]) Tryz.func233 rfl rfl (by simp) ?_;refine sr (aI (aI (aa (ah (sr (mI ?_))))));refine cH (aa (cF (aq (ai (ah (sr (mI (mI ?_))))))));refine EB (aa (cF (aq (ai (ah (sr (mI ?_)))))));refine cH (aa (cF (aq (ai (sr (mI ?_))))));refine bj hh (hlz _) rfl ?_;intro w35 hh;have em:∀z:Nat,z &&& 4294967295=z % 4294967296:=fun z=>Nat.and_two_pow_sub_one_eq_mod z 32;have s0:∀z:Nat,z<18446744073709551616→z*2^((0:Nat):Int).toNat % 18446744073709551616=z:=fun z hz=>by
   show z*1 % _=z;rw [YV];exact Za hz
  have z64:lo/2^(((64+18446744073709551616-0) % 18446744073709551616:Nat):Int).toNat=0:=Zt hl;have z65:lo/2^(((64+18446744073709551616-0) % 18446744073709551616:Nat):Int).toNat<18446744073709551616:=by rw [z64];decide
  obtain ⟨y1,hy1⟩:∃y1,y/4294967296=y1:=⟨_,rfl⟩;obtain ⟨y0,hy0⟩:∃y0,y % 4294967296=y0:=⟨_,rfl⟩;obtain ⟨c1,hc1⟩:∃c1,lo/4294967296=c1:=⟨_,rfl⟩;obtain ⟨c0,hc0⟩:∃c0,lo % 4294967296=c0:=⟨_,rfl⟩;have hyy:y=4294967296*y1+y0:=Yo;have hll:lo=4294967296*c1+c0:=Yo;have b1:2147483648≤y1:=Yo;have b0:y0<4294967296:=Yo;have d1:c1<4294967296:=Yo;have d0:c0<4294967296:=Yo;refine md ?_;refine aI (aa (sr (mI (mI ?_))));refine FD rfl rfl Yo Yp ?_;refine aI (aa ?_);rw [s0 y hy2];refine sr (mI ?_);refine tj ?_;refine aI (aa (sr (mI ?_)));refine BO ?_;refine aI (aa (sr (mI (mI ?_))));refine FD rfl rfl Yo Yp ?_;refine mI (mI ?_);refine sW (a:=64) rfl rfl Yo Yp ?_;refine wD rfl rfl Yo Yp ?_;refine CP ?_;refine aI (aa (sr (mI (mI ?_))));refine FD rfl rfl Yo Yp ?_;refine aI (aa ?_);rw [s0 hi Yo,s0 lo hl,z64,Nat.or_zero,em y,hy1,hy0];refine sr (mI ?_);refine tj ?_;refine aI (aa (sr (mI ?_)));refine BO ?_;refine aI (aa ?_);rw [em lo,hc1,hc0];clear em s0 z64 z65 hb hlz;have hst:=ve (u:=hi) b1 b0 d1 Yo;refine sr (mI (mI ?_));refine Gj rfl rfl Yo (by first|assumption|omega) Yp ?_
  refine aI (aa (sr (mI (mI (mI ?_)))));refine gO rfl rfl Yp ?_;refine yw ?_;refine aI (aa (ah (ar ?_)));have hrh:(hi+18446744073709551616-hi/y1*y1 % 18446744073709551616) % 18446744073709551616=hi % y1:=by
   have h1:=ZJ hi y1;rw [YO] at h1;omega
  rw [hrh];clear hrh;refine u9 zL0 15
   (fun v w'=>v=.int .u64 ((4294967296*hi+c1)/y:Nat)∧Hp w [] w') ?_ ?_
  ·refine bH zL0 15 16
    (fun a b w'=>∃q rh:Nat,a=.int .u64 q∧b=.int .u64 rh∧wA hi c1 y1 y0 q rh∧rh<4294967296∧Hp w [] w')
    (fun a _ _=>(intOf a).toNat) ?_ ?_
   ·exact ⟨_,_,rfl,rfl,hst,by have:=YU hi (show 0<y1 by omega);omega,hh⟩
   ·clear hh hst;rintro ρ' a_ b_ w' ⟨q,rh,rfl,rfl,hI,hr,hh⟩;have hsm:=hI.sm;have hqy:q<4294967296→q*y0<18446744073709551616:=fun h=>by
     have h2:q*y0≤q*4294967295:=Y4 q Yo;omega
    by_cases hb:4294967296≤q∨4294967296*rh+c1<q*y0
    ·exact Sd
    ·exact Q6
  ·skip;clear hh hst;rintro ρ' v w' ⟨rfl,hh⟩;obtain ⟨t1,t2⟩:=FG (hi:=hi) (by omega:0<y) d1 d0;have hdm:=ZJ (4294967296*hi+c1) y;have hr1:=YU (4294967296*hi+c1) (by omega:0<y);have hqs:(4294967296*hi+c1)/y<4294967296:=by
    rw [ZH Yo];omega
   generalize (4294967296*hi+c1)/y=q1 at*;generalize (4294967296*hi+c1) % y=r1 at*;have hst:=ve (u:=r1) b1 b0 d0 Yo;refine sr (mI ?_);refine gO (b:=4294967296) rfl rfl Yp ?_;refine mI ?_;refine fM rfl rfl Yp ?_;refine mI (mI ?_);refine gO rfl rfl Yp ?_;refine yw ?_;refine aI (aa ?_);rw [BZ (a:=hi*4294967296) (m:=q1*y) (r:=r1) (by rw [YO hi,YO q1];omega) Yo];refine sr (mI (mI ?_));refine Gj rfl rfl Yo (by first|assumption|omega) Yp ?_;refine aI (aa (sr (mI (mI (mI ?_)))));refine gO rfl rfl Yp ?_;refine yw ?_;refine aI (aa (ah (ar ?_)));have hrh:(r1+18446744073709551616-r1/y1*y1 % 18446744073709551616) % 18446744073709551616=r1 % y1:=by
    have h1:=ZJ r1 y1;rw [YO] at h1;omega
   rw [hrh];clear hrh;refine u9 zL1 18
    (fun v w'=>v=.int .u64 ((4294967296*r1+c0)/y:Nat)∧Hp w [] w') ?_ ?_
   ·refine bH zL1 18 16
     (fun a b w'=>∃q rh:Nat,a=.int .u64 q∧b=.int .u64 rh∧wA r1 c0 y1 y0 q rh∧rh<4294967296∧Hp w [] w')
     (fun a _ _=>(intOf a).toNat) ?_ ?_
    ·exact ⟨_,_,rfl,rfl,hst,by have:=YU r1 (show 0<y1 by omega);omega,hh⟩
    ·clear hh hst;rintro ρ' a_ b_ w' ⟨q,rh,rfl,rfl,hI,hr,hh⟩;have hsm:=hI.sm;have hqy:q<4294967296→q*y0<18446744073709551616:=fun h=>by
      have h2:q*y0≤q*4294967295:=Y4 q Yo;omega
     by_cases hb:4294967296≤q∨4294967296*rh+c0<q*y0
     ·exact Sd
     ·exact Q6
   ·skip;clear hh hst;rintro ρ' v w' ⟨rfl,hh⟩;have hdm2:=ZJ (4294967296*r1+c0) y;have hr2:=YU (4294967296*r1+c0) (by omega:0<y);have hq2:(4294967296*r1+c0)/y<4294967296:=by
     rw [ZH Yo];omega
    generalize (4294967296*r1+c0)/y=q2 at*;generalize (4294967296*r1+c0) % y=r2 at*;rw [←hll] at t1 t2;have e1:(q1*4294967296 % 18446744073709551616+q2) % 18446744073709551616=(18446744073709551616*hi+lo)/y:=by rw [YO q1];omega
    have e2:=BZ (a:=r1*4294967296) (c:=c0) (m:=q2*y) (r:=r2) (by rw [YO r1,YO q2];omega) Yo;have e3:r2/2^((0:Nat):Int).toNat=(18446744073709551616*hi+lo) % y:=by
     show r2/1=_;rw [aaG];exact t2
    refine sr (mI ?_);refine gO (b:=4294967296) rfl rfl Yp ?_;refine mI ?_;refine fM rfl rfl Yp ?_;refine mI ?_;refine gO (b:=4294967296) rfl rfl Yp ?_;refine mI ?_;refine fM rfl rfl Yp ?_;refine mI (mI ?_);refine gO rfl rfl Yp ?_;refine yw ?_;refine mI ?_;refine wD rfl rfl Yo Yp ?_;refine aI (aI (aa (av ?_)));refine yf ?_;rw [e1,e2,e3];exact ⟨rfl,hh.below⟩
section
variable {ro:Mode}{P:Program}{N:Nat}{Q:Kq}{ρ:Rf}{w:World}
theorem yq {a c:Code} (mods:List Nat) (s0:Nat) (J:Value→World→Prop) (hc:WC ro P N a (cM (fun ρ2 w2=>J (ρ2 s0) w2∧iI mods ρ2 ρ) Q) ρ w) (hn:∀ρ' v0 w',J v0 w'→WC ro P N c Q (cP (mask mods ρ' ρ) s0 v0) w'):WC ro P N (.seq a c) Q ρ w:=
 ah (hc.mono fun e ρ2 w2 hq=>by
  cases e with
  |normal=>
   have:=hn ρ2 (ρ2 s0) w2 hq.1;rwa [iO hq.2,fy] at this
  |_=>exact hq)
end
variable {C cy o:Nat}{lo:Operand}
theorem OI {d:Option Nat}{ty:TypeId}{af:Array Edge}{g:Option (Nat×Bool)}{t e:TypeId}{x hi:Operand}{l h sz:Nat}{k k2:IntKind}{m m2:Int} (ht:P.underlying t=some (.slice e)) (hsz:(P.info? e).map (·.size)=some sz) (hx:ev ρ x=.slice (some ⟨b,o,none⟩) n c) (hlo:ev ρ lo=.int k m) (hhi:ev ρ hi=.int k2 m2)
  (hm:m=(l:Int)) (hm2:m2=(h:Int)) (h1:l≤h) (h2:h≤c) (h3:l<c):(execOp (ev ρ) ⟨d,.slice t x (some lo) (some hi) none,ty,pos,af,g⟩).run P w=.ok (.value (.slice (some ⟨b,o+l*sz,none⟩) (h-l) (c-l))) w:=by
 rw [jn (lo:=some lo) (hi:=some hi) (l:=l) (h:=h) ht hsz hx ⟨k,m,hlo,hm⟩ ⟨k2,m2,hhi,hm2⟩ h1 h2,Yu Yo];simp only [aaj,fw]
theorem Cn {mods:List Nat}{ρ1:Rf}{d:Nat}{v:Value} (hd:mods.contains d=true) (h:iI mods ρ1 ρ):iI mods ρ1 (cP ρ d v):=fun i hi=>by
 rw [bF ρ (fun e=>by rw [e,hd] at hi;cases hi)];exact h i hi
def jO (ys:List Nat) (q:Nat):List Nat:=iz 18446744073709551616 (List.replicate (ys.length+1) 0) ys q 0
theorem r8 (ys:List Nat) (q:Nat):(jO ys q).length=ys.length+1:=by
 unfold jO;rw [mH,ZG]
theorem wg (ys:List Nat) (q:Nat):Dg 18446744073709551616 (jO ys q):=wG Yo _ _ _ _
theorem sI (hy:Dg 18446744073709551616 ys) (hq:q<18446744073709551616):aZ 18446744073709551616 (jO ys q)=aZ 18446744073709551616 ys*q:=by
 have h1:=gQ hy;have h2:aZ 18446744073709551616 ys*q<18446744073709551616^(ys.length+1):=by
  rw [Zh];exact abB h1 hq
 unfold jO;rw [sA Yo _ _ _ _ (by rw [kb,ZG];omega),kb];omega
theorem Dd (X Yb A:Option Addr) (N C n cy c q:Nat) (ys ps:List Nat) (w:World) (hY:Sl w Yb n 1 (cO ys)) (hP:Sl w A (n+1) 1 (cO ps)) (hyd:Dg 18446744073709551616 ys) (hpd:Dg 18446744073709551616 ps) (hkc:n+1≤c) (hn:n≤100000000) (hY0:0<aZ 18446744073709551616 ys) (hq:aZ 18446744073709551616 ps<q*aZ 18446744073709551616 ys) (hqw:q<18446744073709551616):
  Calls Tryz.prog 234 #[.agg #[.slice X N C,.slice Yb n cy],.slice A (n+1) c,.int .u64 (q:Int)] w fun e w'=>∃b,e=.returned (.tuple #[.int .u64 ((aZ 18446744073709551616 ps/aZ 18446744073709551616 ys:Nat):Int),.slice (some ⟨b,0,none⟩) (n+1) (n+1)])∧Hp w [.row (some ⟨b,0,none⟩) (n+1) (n+1) 160 1 (cO (jO ys (aZ 18446744073709551616 ps/aZ 18446744073709551616 ys)))] w':=by
 have hh:=Hp.start w;have hyl:ys.length=n:=by have:=hY.1;rw [a0] at this;omega
 have hpl:ps.length=n+1:=by have:=hP.1;rw [a0] at this;omega
 refine aj (N:=28) (l:=[.agg #[.slice X N C,.slice Yb n cy],.slice A (n+1) c,.int .u64 (q:Int)]) Tryz.func234 rfl rfl (by simp) ?_;refine sr ?_;refine bO hh [_,_] ?_;intro b3 w3 hh;refine aI (aL (aa (ar ?_)));refine aT [2,6,7,8,9,10,11,12,13,14,15,16,17,18,19,20,21,22,23,24,25,26,27] 2
  (fun v w'=>∃q:Nat,v=.int .u64 q∧aZ 18446744073709551616 ps<q*aZ 18446744073709551616 ys∧q<18446744073709551616∧Hp w [.blk b3 234 [.slice X N C,.slice Yb n cy] (0,0)] w')
  (fun v _=>(intOf v).toNat) ?_ ?_
 ·exact ⟨q,rfl,hq,hqw,hh⟩
 ·clear hh hq hqw;rintro ρ' v w' ⟨q,rfl,hq,hqw,hh⟩;have hq1:1≤q:=by
   rcases aac q with h|h
   ·rw [h,aaP] at hq;omega
   ·exact h
  have hqd:(q+18446744073709551616-1) % 18446744073709551616=q-1:=Yo;have hbig:=Re hY0 hq;refine ar (sr (mI ?_));refine sW (b:=1) rfl rfl Yo Yp ?_;refine aI (aa ?_);rw [hqd];have hmd:=sI hyd (q:=q-1) Yo;refine sr (bo ?_);refine bp hh 0 ?_;refine aM ?_;refine a8 ?_;refine gj (n:=n+1) hh rfl rfl Yo Yo bG.out aJ.out rfl Yo Yo Yp ?_;intro b15 w15 hh;refine aL (aa (sr (mL (bo ?_))));refine bp hh 1 ?_;refine mI ?_;rw [kT] at hh;have hc:=nY (c':=n+1) (ny:=n) (cy:=cy) (m:=q-1) (Y:=Yb) [] (List.replicate (n+1) 0) [] ys _ (by rw [Yz,Y7];exact hh) (fun w1 cs h=>hY.ext h.below) (Dg.fi Yo _) hyd Yo (by rw [ZG];omega) Yo;have hmL:iz 18446744073709551616 (List.replicate (n+1) 0) ys (q-1) 0=jO ys (q-1):=by unfold jO;rw [hyl]
  rw [Yz,Y7,ZG,hmL] at hc;have hml:=r8 ys (q-1);rw [hyl] at hml;have hmg:=wg ys (q-1);refine ay (hc) au.out rfl Yp ?_;rintro e_ w_ ⟨rfl,hh⟩;refine ⟨_,rfl, ?_⟩;generalize hmu:jO ys (q-1)=muc at*;have hsl:=hh.az (i:=0) rfl;have hcl:=fh muc;refine aa (sr (mL ?_));refine bj hh (gB _ _ _ muc _ (hh.az (i:=0) rfl) (YA _) Yo) rfl ?_;intro w22 hh;refine mL ?_;refine bj hh (p6 _ _ _ _ _ _ (eJ muc) ps _ (Sl.pQ (hh.az (i:=0) rfl)) (hP.ext hh.below) hmg.cut hpd Yo hkc Yo Yo) rfl ?_;intro w24 hh;rw [jP,hmd];rw [YO] at hmd ⊢;by_cases hfit:(q-1)*aZ 18446744073709551616 ys≤aZ 18446744073709551616 ps
  ·have hqe:=Ob hY0 hbig hfit;have hcmp:jH ((q-1)*aZ 18446744073709551616 ys) (aZ 18446744073709551616 ps)≤0:=by
    unfold jH;split
    ·decide
    ·rw [Yu Yo];decide
   generalize jH ((q-1)*aZ 18446744073709551616 ys) (aZ 18446744073709551616 ps)=z at*;rw [←hqe,hmu];refine EB (aa (cT (sr (mI (mL (aI (aL (aa (av (bU (aF (bU ?_))))))))))));refine yf ?_;exact ⟨b15,rfl,hh.sub (.cons_cons _ (Zx _))⟩
  ·have hcmp:jH ((q-1)*aZ 18446744073709551616 ys) (aZ 18446744073709551616 ps)=1:=qD Yo;rw [hcmp];refine EB (aa (cF (aq (bz (ai ?_)))));replace hh:=hh.sub (Yw _ (Yv _ YR));refine ⟨⟨q-1,rfl,Yo,Yo,hh⟩,by show ((q-1:Nat):Int).toNat<(q:Int).toNat;omega, ?_⟩;exact er
def cY (xs:List Nat) (a n:Nat):List Nat:=(xs.drop a).take (n+1)
theorem Ap {H:List HE}{v:Nat}{Yb:Option Addr} (a:Nat) (xs ys:List Nat) (w:World) (hh:Hp w0 (.row (some ⟨b,0,none⟩) N C 160 1 (cO xs)::H) w)
  (hy:∀w1 cs,Hp w0 (.row (some ⟨b,0,none⟩) N C 160 1 cs::H) w1→Sl w1 Yb n 1 (cO ys)) (hxd:Dg 18446744073709551616 xs) (hyd:Dg 18446744073709551616 ys) (hnm:n=m+1) (hv:ys[m]?=some v) (hv2:9223372036854775808≤v) (ha:a+n<N) (hN:N≤100000000) (hP:aZ 18446744073709551616 (cY xs a n)/aZ 18446744073709551616 ys<18446744073709551616):
  Calls Tryz.prog 212 #[.agg #[.slice (some ⟨b,0,none⟩) N C,.slice Yb n cy],.int .i64 (a:Int)] w fun e w'=>e=.returned (.int .u64 ((aZ 18446744073709551616 (cY xs a n)/aZ 18446744073709551616 ys:Nat):Int))∧Hp w0 (.row (some ⟨b,0,none⟩) N C 160 1 (cO (xs.take a++bX 18446744073709551616 (n+1) (aZ 18446744073709551616 (cY xs a n) % aZ 18446744073709551616 ys)++xs.drop (a+(n+1))))::H) w':=by
 have hyl:ys.length=n:=by have:=(hy _ _ hh).1;rw [a0] at this;omega
 have hxl:xs.length=N:=by have:=(hh.az (i:=0) rfl).1;rw [a0] at this;omega
 have hcap:=hh.fQ (i:=0) rfl;obtain ⟨x1,hx1⟩:=ao (l:=xs) (k:=a+n) Yo;obtain ⟨x0,hx0⟩:=ao (l:=xs) (k:=a+m) Yo;have gx1:=eT hx1;have gx0:=eT hx0;have gv:=eT hv;have bx1:=hxd.at_ hx1;have bx0:=hxd.at_ hx0;have bv:=hyd.at_ hv;obtain ⟨e1,e2⟩:=Te (a:=a) (m:=m) hxd Yp hx0 (by rw [←hnm];exact hx1) hv Yo Yo (by unfold cY at hP;rw [hnm] at hP;exact hP);rw [show (xs.drop a).take (m+2)=cY xs a n by unfold cY;rw [hnm]] at e1;obtain ⟨adY,hYa,hYr⟩:=(hy _ _ hh).at_ Yo;subst hYa;refine aj (N:=79) (l:=[.agg #[.slice (some ⟨b,0,none⟩) N C,.slice (some adY) n cy],.int .i64 (a:Int)]) Tryz.func212 rfl rfl (by simp) ?_;have hsub:∀(e:HE) w1,Hp w0 (e::.row (some ⟨b,0,none⟩) N C 160 1 (cO xs)::H) w1→Sl w1 (some adY) n 1 (cO ys):=fun e w1 h=>hy w1 _ (h.sub (Yw _ (Zq _)));refine sr ?_;refine bO hh [_,_] ?_;intro b2 w2 hh;refine aI (aa (sr (bo ?_)));refine bp hh 0 ?_;refine aM (aI (aa (sr (bo ?_))));refine bp hh 0 ?_;refine mI (mI ?_);refine a8 ?_;refine cN (k:=a+n) bG.out aJ.size rfl rfl Yo Yo Yp ?_;refine bY aJ.out rfl ((hh.az (i:=1) rfl).Aw hx1) Yp ?_;refine aI (aa (sr (aI (aa ?_))))
 refine yq [7,20,21,22,23,24,25,26,27,28,29,30,31,32,33,34,35,36,37,38,39,40,41,42,43,44,45,46] 7
  (fun e w'=>e=.int .u64 (FK 18446744073709551616 x1 x0 v:Nat)∧Hp w0 (.blk b2 234 [.slice (some ⟨b,0,none⟩) N C,.slice (some adY) n cy] (0,0)::.row (some ⟨b,0,none⟩) N C 160 1 (cO xs)::H) w') ?_ ?_
 ·by_cases hlt:x1<v
  ·have hdv:=fun w1=>C9 x1 x0 v w1 hv2 bv hlt bx0;have hq:(18446744073709551616*x1+x0)/v=FK 18446744073709551616 x1 x0 v:=(Yt hlt).symm;rw [hq] at hdv;refine sr (mI (bo ?_));refine bp hh 0 ?_;refine mI ?_;refine ee ?_;refine MI ?_;refine bY aJ.out rfl ((hsub _ _ hh).Aw hv) Yp ?_;refine a9 (aa (cT ?_));refine aK 20 [[(6,none)],[(2,none)],[(30,some 1)],[(1,none)],[(5,none)],[(32,some 3),(33,some 4)],[(34,some 5)],[(31,some 2),(35,some 6)],[(36,some 7)],[(2,none)],[(38,some 9)],[(5,none)],[(40,some 11)],[(39,some 10),(41,some 12)],[(42,some 13)],[(29,some 0),(37,some 8),(43,some 14)],[(44,some 15)],[(28,some 16)],[(28,some 16)],[(45,some 17)]] [(19,7),(18,46),(17,45),(16,28),(15,44),(14,43),(13,42),(12,41),(11,40),(10,39),(9,38),(8,37),(7,36),(6,35),(5,34),(4,33),(3,32),(2,31),(1,30),(0,29)] hh mixed Yq ?_;refine dJ ?_;refine dR ?_;refine fW 0 ?_;refine dJ ?_;refine dJ ?_;refine qT ?_;refine tZ ?_;refine a7 (i:=7) (Is (.pointer (some (Addr.add ⟨b,0,none⟩ ((a+m)*1))))) (Is.ext) ?_ ?_
   ·intro ρ1 w1 hj hR;exact fI rfl (ju (k:=a+m) bG.out aJ.size (show ρ1 31=Value.slice _ _ _ from hR.1) (show ρ1 35=Value.int _ _ from hR.2.1) Yo Yo) ⟨Below.refl _ _,rfl⟩
   refine x7 (fun _ hj=>(hj.hp.az (i:=1) rfl).Aw hx0) ?_;refine dR ?_;refine fW 0 ?_;refine dJ ?_;refine tZ ?_;refine a7 (i:=13) (Is (.pointer (some (adY.add (m*1))))) (Is.ext) ?_ ?_
   ·intro ρ1 w1 hj hR;exact fI rfl (ju (k:=m) bG.out aJ.size (show ρ1 39=Value.slice _ _ _ from hR.1) (show ρ1 41=Value.int _ _ from hR.2.1) Yo Yo) ⟨Below.refl _ _,rfl⟩
   refine x7 (fun _ hj=>(hsub _ _ hj.hp).Aw hv) ?_;refine dC (fun _ hj=>hdv _) ?_;refine WH ?_;refine UE ?_;refine UE ?_;refine XG ?_;refine aH ?_;intro f W hJ hV;have hb_5:=hJ.bl;obtain ⟨v7,v46,v45,v28,v44,v43,v42,v41,v40,v39,v38,v37,v36,v35,v34,v33,v32,v31,v30,v29,_⟩:=hV;replace hh:=hJ.hp;refine aN (a6 (ae v7 (ae v46 (ae v45 (ae v28 (ae v44 (ae v43 (ae v42 (ae v41 (ae v40 (ae v39 (ae v38 (ae v37 (ae v36 (ae v35 (ae v34 (ae v33 (ae v32 (ae v31 (ae v30 (ae v29 aO))))))))))))))))))))) ?_;dsimp only [bP];clear hJ;refine aa ?_;refine ⟨⟨rfl,hh⟩, ?_⟩;repeat refine dx rfl ?_
   exact Cn rfl fun _ _=>rfl
  ·have hq:18446744073709551616-1=FK 18446744073709551616 x1 x0 v:=(Yu hlt).symm;refine sr (mI (bo ?_));refine bp hh 0 ?_;refine mI ?_;refine ee ?_;refine MI ?_;refine bY aJ.out rfl ((hsub _ _ hh).Aw hv) Yp ?_;refine a9 (aa (cF (aq (ai ?_))));refine ⟨⟨?_,hh⟩, ?_⟩
   ·rw [←hq]
    rfl
   ·repeat refine dx rfl ?_
    exact Cn rfl fun _ _=>rfl
 ·skip;clear hh;rintro ρ' e_ w' ⟨rfl,hh⟩;generalize FK 18446744073709551616 x1 x0 v=q at*;have hqw:q<18446744073709551616:=Yo;have hmd:=sI hyd hqw;have hml:=r8 ys q;rw [hyl] at hml;have hmg:=wg ys q;have hmL:iz 18446744073709551616 (List.replicate (n+1) 0) ys q 0=jO ys q:=by unfold jO;rw [hyl]
  have hpt:(cY xs a n).length=n+1:=by unfold cY;rw [YM,Zz];omega
  have hpd:Dg 18446744073709551616 (cY xs a n):=(hxd.drop a).take (n+1);have hY0:0<aZ 18446744073709551616 ys:=by
   have h1:=Fo (B:=18446744073709551616) hv Yo;have h2:0<v*18446744073709551616^m:=Nat.mul_pos Yo (YY Yp);omega
  refine sr (bo ?_);refine bp hh 0 ?_;refine mI (mI (mI ?_));refine a8 ?_;refine a8 ?_;refine aV rfl rfl Yp (OI (l:=a) (h:=a+(n+1)) bG.out aJ.size rfl rfl rfl rfl Yo Yo Yo Yo) ?_;refine aL (aa (sr (mI ?_)));refine a8 ?_;refine gj (n:=n+1) hh rfl rfl Yo Yo bG.out aJ.out rfl Yo Yo Yp ?_;intro b57 w57 hh;refine aL (aa (sr (mL (bo ?_))));refine bp hh 1 ?_;refine mI ?_;rw [kT] at hh;rw [show 0+a*1=a by omega,show a+(n+1)-a=n+1 by omega];have hps:∀w1,Sl w1 (some ⟨b,0,none⟩) N 1 (cO xs)→Sl w1 (some ⟨b,a,none⟩) (n+1) 1 (cO (cY xs a n)):=fun w1 h=>by
   have h2:=(h.Lo (k:=a) Yo).N0 (k:=n+1) Yo;rw [fw,YZ,YV] at h2;exact h2
  have hsp:xs.take a++cY xs a n++xs.drop (a+(n+1))=xs:=by unfold cY;rw [Y5,←aaM,Zy,Zy]
  have htk:(xs.take a).length=a:=by rw [YM];omega
  have hdm:=ZJ (aZ 18446744073709551616 (cY xs a n)) (aZ 18446744073709551616 ys);have hml2:=YU (aZ 18446744073709551616 (cY xs a n)) hY0;have hmQ:=sI hyd hP;have hlQ:=r8 ys (aZ 18446744073709551616 (cY xs a n)/aZ 18446744073709551616 ys);rw [hyl] at hlQ;have hgQ:=wg ys (aZ 18446744073709551616 (cY xs a n)/aZ 18446744073709551616 ys);have hsb:=Dw (B:=18446744073709551616) Yo (cY xs a n) (jO ys (aZ 18446744073709551616 (cY xs a n)/aZ 18446744073709551616 ys)) 0 hpd hgQ Yo Yo;have hsd:qp 18446744073709551616 (cY xs a n) (jO ys (aZ 18446744073709551616 (cY xs a n)/aZ 18446744073709551616 ys)) 0=bX 18446744073709551616 (n+1) (aZ 18446744073709551616 (cY xs a n) % aZ 18446744073709551616 ys):=by
   have h1:=rv (I1 (B:=18446744073709551616) Yo (cY xs a n) (jO ys (aZ 18446744073709551616 (cY xs a n)/aZ 18446744073709551616 ys)) 0);rw [CT,hpt] at h1;rw [←h1];congr 1;omega
  have hkey:∀T w1,Hp w0 (.row (some ⟨b,0,none⟩) N C 160 1 (cO xs)::T) w1→Hp w0 (.row (some ⟨b,0,none⟩) N C 160 1 (cO (xs.take a++cY xs a n++xs.drop (a+(n+1))))::T) w1:=fun T w1 h=>by rw [hsp];exact h
  have hc:=nY (c':=n+1) (ny:=n) (cy:=cy) (m:=q) (Y:=some adY) [] (List.replicate (n+1) 0) [] ys _ (by rw [Yz,Y7];exact hh) (fun w1 cs h=>hy w1 _ (h.sub (Yw _ (Yw _ (Zq _))))) (Dg.fi Yo _) hyd hqw (by rw [ZG];omega) Yo;rw [Yz,Y7,ZG,hmL] at hc;refine ay (hc) au.out rfl Yp ?_;rintro e_ w_ ⟨rfl,hh⟩;refine ⟨_,rfl, ?_⟩;have hcl:=fh (jO ys q);refine aa (ah (sr (mL ?_)));refine bj hh (gB _ _ _ (jO ys q) _ (hh.az (i:=0) rfl) (YA _) Yo) rfl ?_;intro w64 hh;refine mL ?_;refine bj hh (p6 _ _ _ _ _ _ (eJ (jO ys q)) (cY xs a n) _ (Sl.pQ (hh.az (i:=0) rfl)) (hps _ (hh.az (i:=2) rfl)) hmg.cut hpd Yo Yo Yo Yo) rfl ?_;intro w66 hh;rw [jP,hmd];by_cases hfit:q*aZ 18446744073709551616 ys≤aZ 18446744073709551616 (cY xs a n)
  ·have hqe:=Ob hY0 e1 hfit;have hcmp:jH (aZ 18446744073709551616 ys*q) (aZ 18446744073709551616 (cY xs a n))≤0:=by
    rw [YO];unfold jH;split
    ·decide
    ·rw [Yu Yo];decide
   generalize jH (aZ 18446744073709551616 ys*q) (aZ 18446744073709551616 (cY xs a n))=z at*;subst hqe;refine bT (aa (cF (aq (ai (sr (mL (mL ?_)))))));replace hh:=hh.front 2 rfl;replace hh:=hkey _ _ hh;have htc:=nX (c':=C-a) (ny:=n+1) (cy:=n+1) (Y:=some ⟨b57,0,none⟩) (xs.take a) (cY xs a n) (xs.drop (a+(n+1))) (jO ys (aZ 18446744073709551616 (cY xs a n)/aZ 18446744073709551616 ys)) _ hh (fun w1 cs h=>h.az (i:=1) rfl) hpd hgQ Yo Yo hsb.2;exact V8
  ·have hcmp:jH (aZ 18446744073709551616 ys*q) (aZ 18446744073709551616 (cY xs a n))=1:=qD (by rw [YO];omega);rw [hcmp];refine bT (aa (cT (ak ?_)));refine bJ hh 1 [_,_] (mL (mI ?_));refine ay (Dd (some ⟨b,0,none⟩) (some adY) (some ⟨b,a,none⟩) N C n cy (C-a) q ys (cY xs a n) _ (hy _ _ (hh.sub (Yw _ (Yw _ (Zq _))))) (hps _ (hh.az (i:=2) rfl)) hyd hpd Yo Yo hY0 Yo hqw) au.out rfl Yp ?_;rintro e_ w72 ⟨bm,rfl,h4⟩;refine ⟨_,rfl, ?_⟩;replace hh:=hh.join h4;clear h4;simp only [YB,Yz] at hh;replace hh:=hh.sub (Yv _ (Yw _ (Yv _ (Yv _ (Zq _)))));refine mT ?_;refine cx ?_;refine cx ?_;refine aI (aL (aa (sr (mL (mL ?_)))));replace hh:=hh.front 2 rfl;replace hh:=hkey _ _ hh;have htc:=nX (c':=C-a) (ny:=n+1) (cy:=n+1) (Y:=some ⟨bm,0,none⟩) (xs.take a) (cY xs a n) (xs.drop (a+(n+1))) (jO ys (aZ 18446744073709551616 (cY xs a n)/aZ 18446744073709551616 ys)) _ hh (fun w1 cs h=>h.az (i:=1) rfl) hpd hgQ Yo Yo hsb.2;exact V8
theorem Hn (k:Nat):18446744073709551616^k=2^(64*k):=by
 rw [show (18446744073709551616:Nat)=2^64 by decide,←Zk]
theorem MY {d:Nat} (hb:b≠0) (hl:(aR 18446744073709551616 b).length=m+1) (hd:(aR 18446744073709551616 b)[m]?=some d):bE d≤64∧(aR 18446744073709551616 (b*2^(64-bE d))).length=m+1∧∃v,(aR 18446744073709551616 (b*2^(64-bE d)))[m]?=some v∧9223372036854775808≤v:=by
 have hg:=g6 b;have hd64:d<18446744073709551616:=hg.at_ hd;have hbl:bE d≤64:=dy (by simpa using hd64);have e:aR 18446744073709551616 b=(aR 18446744073709551616 b).take m++[d]:=by rw [←aw hd,YC Yo]
 have BH:d≠0:=fun h=>by
  have h1:=eZ b;rw [e,h] at h1;have h2:(aR 18446744073709551616 b).getLast?≠some 0:=(eW Yo b).2;rw [e,h] at h2;simp at h2
 have hB:bE b=64*m+bE d:=by
  have h1:=Cp (B:=18446744073709551616) (b:=64) (m:=m) Yp (hg.take m) (by rw [YM];omega) BH;rw [←e,eZ] at h1;exact h1
 have h1:=cR b;have h2:=Aj hb;have h3:=nO BH;have hup:b*2^(64-bE d)<18446744073709551616^(m+1):=by
  rw [Hn,show 64*(m+1)=bE b+(64-bE d) by omega,YW];exact aaH h1 (YY Yp)
 have hdn:18446744073709551616^m*9223372036854775808≤b*2^(64-bE d):=by
  have h4:18446744073709551616^m*9223372036854775808=2^(bE b-1)*2^(64-bE d):=by
   rw [Hn,show (9223372036854775808:Nat)=2^63 by decide,←YW,←YW];congr 1;omega
  rw [h4];exact Zo _ h2
 generalize b*2^(64-bE d)=B2 at*;have hWp:0<18446744073709551616^m:=YY Yp;have hlen:(aR 18446744073709551616 B2).length=m+1:=by
  have a1:=gL (B:=18446744073709551616) Yo hup;have a2:=m8 (B:=18446744073709551616) Yo B2
  rcases Zb (aR 18446744073709551616 B2).length (m+1) with h|h
  ·have a3:18446744073709551616^(aR 18446744073709551616 B2).length≤18446744073709551616^m:=Zf Yp Yo;omega
  ·omega
 refine ⟨hbl,hlen,_,uW Yo Yo, ?_⟩;have hv:B2/18446744073709551616^m<18446744073709551616:=by
  rw [ZH hWp,YO,←Zh];exact hup
 rw [Za hv,Nat.le_div_iff_mul_le hWp,YO];exact hdn
structure K3 (A Y N n k:Nat) (X O:List Nat):Prop where
 xd:Dg 18446744073709551616 X
 xl:X.length=N
 od:Dg 18446744073709551616 O
 ol:O.length=N-n
 oz:∀i,i<k→O[i]?=some 0
 e:aZ 18446744073709551616 O*Y+aZ 18446744073709551616 X=A
 r:aZ 18446744073709551616 (X.drop k)<Y
theorem JA {A:Nat}{X O:List Nat} (hy:Dg 18446744073709551616 ys) (hn:ys.length=n) (hk:k+1≤N-n) (hnN:n≤N) (h:K3 A (aZ 18446744073709551616 ys) N n (k+1) X O):aZ 18446744073709551616 (cY X k n)/aZ 18446744073709551616 ys<18446744073709551616∧K3 A (aZ 18446744073709551616 ys) N n k (X.take k++bX 18446744073709551616 (n+1) (aZ 18446744073709551616 (cY X k n) % aZ 18446744073709551616 ys)++X.drop (k+(n+1))) (O.set k (aZ 18446744073709551616 (cY X k n)/aZ 18446744073709551616 ys)):=by
 obtain ⟨xd,xl,od,ol,oz,e,hr⟩:=h;obtain ⟨x,hx⟩:=ao (l:=X) (k:=k) Yo;have hxw:=xd.at_ hx;have hYl:=gQ hy;rw [hn] at hYl;have hR:=Le (B:=18446744073709551616) (xd.drop (k+1)) n (by rw [Zz];omega);rw [Za (show aZ 18446744073709551616 (X.drop (k+1))<18446744073709551616^n by omega)] at hR;have hP:aZ 18446744073709551616 (cY X k n)=x+18446744073709551616*aZ 18446744073709551616 (X.drop (k+1)):=by
  unfold cY;rw [im hx,abq];show x+18446744073709551616*_=_;rw [hR]
 have hz:aZ 18446744073709551616 (X.drop (k+(n+1)))=0:=by
  rw [show k+(n+1)=(k+1)+n by omega,←aaM,CQ (xd.drop (k+1)) n Yp,Zt Yo]
 have hY0:0<aZ 18446744073709551616 ys:=Yo;have hq:aZ 18446744073709551616 (cY X k n)/aZ 18446744073709551616 ys<18446744073709551616:=by
  rw [ZH hY0,hP];have h1:18446744073709551616*(aZ 18446744073709551616 (X.drop (k+1))+1)≤18446744073709551616*aZ 18446744073709551616 ys:=Y4 _ hr;rw [ZZ] at h1;omega
 have hm:=YU (aZ 18446744073709551616 (cY X k n)) hY0;have hdm:=ZJ (aZ 18446744073709551616 (cY X k n)) (aZ 18446744073709551616 ys);have hmW:aZ 18446744073709551616 (cY X k n) % aZ 18446744073709551616 ys<18446744073709551616^(n+1):=by
  rw [Zh];have:18446744073709551616^n*1≤18446744073709551616^n*18446744073709551616:=Y4 _ Yp;omega
 have hpp:=M8 (B:=18446744073709551616) (xs:=X) (a:=k) (n:=n+1) Yo hmW;have hso:=Jc (B:=18446744073709551616) O k (aZ 18446744073709551616 (cY X k n)/aZ 18446744073709551616 ys) (oz k Yo);have hlt:(X.take k).length=k:=by rw [YM];omega
 have hpe:(X.drop k).take (n+1)=cY X k n:=rfl;rw [hpe] at hpp;refine ⟨hq, ?_, ?_,od.LY k hq,by rw [aas];exact ol,fun i hi=> ?_, ?_, ?_⟩
 ·exact ((xd.take k).append (gP Yp _ _)).append (xd.drop _)
 ·rw [YE,YE,hlt,aW,Zz];omega
 ·rw [aaf,Yu Yo];exact oz i Yo
 ·generalize aZ 18446744073709551616 (cY X k n)/aZ 18446744073709551616 ys=q at*;generalize aZ 18446744073709551616 (cY X k n) % aZ 18446744073709551616 ys=r at*;rw [aaK,ZM] at hso;rw [hso,aaJ];have h5:18446744073709551616^k*q*aZ 18446744073709551616 ys+18446744073709551616^k*r=18446744073709551616^k*aZ 18446744073709551616 (cY X k n):=by
   rw [←hdm,Zj,Zw,YO q]
  omega
 ·rw [Y5,List.drop_append,hlt,Zn,aaw Yo,Yz,abm,db,hz,aaK,ZM,cX hmW];exact hm
theorem KG {A:Nat}{X:List Nat}{Y:Nat} (xd:Dg 18446744073709551616 X) (xl:X.length=N) (hA:aZ 18446744073709551616 X=A) (hn:1≤n) (hnN:n+1≤N) (hAN:A<18446744073709551616^(N-1)) (hY:18446744073709551616^(n-1)≤Y):K3 A Y N n (N-n) X (List.replicate (N-n) 0):=by
 refine ⟨xd,xl,Dg.fi Yp _,ZG,fun i hi=>by rw [abP,Yt hi],by rw [kb];omega, ?_⟩;rw [CQ xd _ Yp,hA];refine Zl ?_ hY;rw [ZH (YY Yp),←YW,show n-1+(N-n)=N-1 by omega];exact hAN
theorem PS {a s:Nat}{X O:List Nat}{Y:Nat} (hb:0<b) (hY:Y=b*2^s) (h:K3 (a*2^s) Y N n 0 X O):aZ 18446744073709551616 O=a/b∧aZ 18446744073709551616 X/2^s=a % b:=by
 have hp:0<2^s:=YY Yp;have he:=h.e;have hr:=h.r;rw [abm] at hr;subst hY;have h1:aZ 18446744073709551616 X % 2^s=0:=by
  have h2:(aZ 18446744073709551616 O*(b*2^s)+aZ 18446744073709551616 X) % 2^s=0:=by rw [he];exact Nat.mul_mod_left _ _
  rw [←Zw,Nat.mul_add_mod_self_right] at h2;exact h2
 have h2:=ZJ (aZ 18446744073709551616 X) (2^s);rw [h1,ZM] at h2;generalize aZ 18446744073709551616 X/2^s=r at*;rw [←h2,YO _ r] at he hr;have h3:aZ 18446744073709551616 O*b+r=a:=by
  refine Nat.eq_of_mul_eq_mul_right hp ?_;rw [aaJ,Zw];exact he
 have h4:r<b:=Nat.lt_of_mul_lt_mul_right hr;have h5:=(Nat.div_mod_unique (a:=a) (b:=b) (c:=r) (d:=aZ 18446744073709551616 O) hb).2 ⟨by rw [YO b];omega,h4⟩;exact ⟨h5.1.symm,h5.2.symm⟩
theorem BC (a b:ByteArray) (w:World) (ha:a.size≤100000000) (hb:b.size≤100000000) (hb0:bN b≠0):
  Calls Tryz.prog 173 #[.string a,.string b] w fun e w'=>e=.returned (.tuple #[.string (sN (bN a/bN b)),.string (sN (bN a % bN b)),.bool true])∧Below w.heap.size w w':=by
 have hh:=Hp.start w;have h1:=gp a;have h2:=gp b;have hyn:(aR 18446744073709551616 (bN b)).length≠0:=fun h=>hb0 ((rz Yo).1 (aai h));by_cases hlt:bN a<bN b
 ·refine aj (N:=75) (l:=[.string a,.string b]) Tryz.func173 rfl rfl (by simp) ?_;refine sr (aS (aS (aB (aa (sr (mS ?_))))));refine ay (jl a _ Yo) au.out rfl Yp ?_;rintro e_ w14 ⟨A14,c14,rfl,hown_,hb_⟩;refine ⟨_,rfl, ?_⟩;replace hh:=hh.aP (x:=.row _ _ _ _ _ _) hb_ hown_;refine mS ?_;refine ay (jl b _ Yo) au.out rfl Yp ?_;rintro e_ w16 ⟨A16,c16,rfl,hown_,hb_⟩;refine ⟨_,rfl, ?_⟩;replace hh:=hh.aP (x:=.row _ _ _ _ _ _) hb_ hown_;refine aL (aL (aa (ah (ar (sr (mL (aM ?_)))))));refine cH (aB (aa (cF (sr (mL (mL ?_))))));refine C8 ?_;intro w24 hh;rw [eZ,eZ,lF hlt];refine a9 (aB (aa (cT (sr (mL ?_)))));refine bj hh (fO _ _ _ (aR 18446744073709551616 (bN a)) _ (hh.az (i:=1) rfl) (g6 _) (hh.fQ (i:=1) rfl) Yo) rfl ?_;intro w27 hh;rw [eZ];refine aS (aS (aB (aa (av (bU (aF ?_))))));refine Ws ?_;rw [Zt hlt,Za hlt,kE];exact ⟨rfl,hh.below⟩
 ·have hc:¬jH (bN a) (bN b)<0:=by unfold jH;split<;>(try split)<;>omega
  obtain ⟨m,hm⟩:∃m,(aR 18446744073709551616 (bN b)).length=m+1:=⟨(aR 18446744073709551616 (bN b)).length-1,Yo⟩;obtain ⟨d,hd⟩:=ao (l:=aR 18446744073709551616 (bN b)) (k:=m) Yo;obtain ⟨hbl,hlen,v,hv,hv2⟩:=MY hb0 hm hd;have hlz:=fun w1=>qd d w1 ((g6 _).at_ hd);obtain ⟨s,hs⟩:∃s,s=64-bE d:=⟨_,rfl⟩;rw [show (64:Int)-(bE d:Int)=((64-bE d:Nat):Int) by omega] at hlz;rw [←hs] at hlz hlen hv;have hs64:s≤64:=Yo;refine aj (N:=75) (l:=[.string a,.string b]) Tryz.func173 rfl rfl (by simp) ?_;refine sr (aS (aS (aB (aa (sr (mS ?_))))));refine ay (jl a _ Yo) au.out rfl Yp ?_;rintro e_ w14 ⟨A14,c14,rfl,hown_,hb_⟩;refine ⟨_,rfl, ?_⟩;replace hh:=hh.aP (x:=.row _ _ _ _ _ _) hb_ hown_;refine mS ?_;refine ay (jl b _ Yo) au.out rfl Yp ?_;rintro e_ w16 ⟨A16,c16,rfl,hown_,hb_⟩;refine ⟨_,rfl, ?_⟩;replace hh:=hh.aP (x:=.row _ _ _ _ _ _) hb_ hown_;refine aL (aL (aa (ah (ar (sr (mL (aM ?_)))))));refine cH (aB (aa (cF (sr (mL (mL ?_))))));refine C8 ?_;intro w24 hh;rw [eZ,eZ];refine a9 (aB (aa (cF (aq (bz (ai (sr (mL (mL (aM ?_))))))))));refine ee ?_;refine MI ?_;refine bY aJ.out rfl ((hh.az (i:=0) rfl).Aw hd) Yp ?_
  refine bj hh (hlz _) rfl ?_;intro w34 hh;refine aI (aa (sr (mL (mI ?_))));refine ay (sS _ _ _ s (aR 18446744073709551616 (bN a)) _ (hh.az (i:=1) rfl) (g6 _) Yo Yo) au.out rfl Yp ?_;rintro e_ w37 ⟨A37,c37,rfl,hown_,hb_⟩;refine ⟨_,rfl, ?_⟩;replace hh:=hh.aP (x:=.row _ _ _ _ _ _) hb_ hown_;rw [eZ] at hh ⊢;have hAN:bN a*2^s<18446744073709551616^((aR 18446744073709551616 (bN a)).length+1):=by
   have q1:=m8 (B:=18446744073709551616) Yo (bN a);have q2:2^s≤2^64:=Zf Yp hs64;rw [Zh];exact Zl (aaH q1 (YY Yp)) (Y4 _ q2)
  have hla:=gL (B:=18446744073709551616) Yo hAN;have hmono:=ke (B:=18446744073709551616) Yo (abI hlt);generalize hlx:(aR 18446744073709551616 (bN a)).length=lx at*;refine mL (aM ?_);refine a8 ?_;refine ay (lU _ _ _ (lx+2) (aR 18446744073709551616 (bN a*2^s)) _ (hh.az (i:=0) rfl) Yo Yo) au.out rfl Yp ?_;rintro e_ w_ ⟨b41,rfl,hown_,hb_⟩;refine ⟨_,rfl, ?_⟩;replace hh:=hh.aP (x:=.row _ _ _ _ _ _) hb_ hown_;have e2:max (lx+2) (aR 18446744073709551616 (bN a*2^s)).length=lx+2:=Yo;rw [e2] at hh ⊢;refine mL (mI ?_);refine ay (sS _ _ _ s (aR 18446744073709551616 (bN b)) _ (hh.az (i:=2) rfl) (g6 _) Yo Yo) au.out rfl Yp ?_;rintro e_ w44 ⟨A44,c44,rfl,hown_,hb_⟩;refine ⟨_,rfl, ?_⟩;replace hh:=hh.aP (x:=.row _ _ _ _ _ _) hb_ hown_;rw [eZ] at hh ⊢;have hyw:=g6 (bN b*2^s);have hyv:=eZ (bN b*2^s);generalize aR 18446744073709551616 (bN b*2^s)=ys at*;rw [hlen] at hh ⊢;have hxw:Dg 18446744073709551616 (aR 18446744073709551616 (bN a*2^s)++List.replicate (lx+2-(aR 18446744073709551616 (bN a*2^s)).length) 0):=(g6 _).append (Dg.fi Yp _)
  have hxv:aZ 18446744073709551616 (aR 18446744073709551616 (bN a*2^s)++List.replicate (lx+2-(aR 18446744073709551616 (bN a*2^s)).length) 0)=bN a*2^s:=by rw [db,kb,eZ,aaK,ZM]
  have hxl:(aR 18446744073709551616 (bN a*2^s)++List.replicate (lx+2-(aR 18446744073709551616 (bN a*2^s)).length) 0).length=lx+2:=by rw [YE,ZG];omega
  generalize aR 18446744073709551616 (bN a*2^s)++List.replicate (lx+2-(aR 18446744073709551616 (bN a*2^s)).length) 0=X0 at*;have hY1:18446744073709551616^m≤aZ 18446744073709551616 ys:=by
   have q1:=Fo (B:=18446744073709551616) hv hlen;have q2:1*18446744073709551616^m≤v*18446744073709551616^m:=Zo _ Yo;omega
  have hst:=KG (N:=lx+2) (n:=m+1) hxw hxl hxv Yo Yo hAN hY1;refine fe [_,_] ?_;refine bC hh ?_;intro b10 w10 hh;refine bg hh 0 [_,_] ?_;intro ws hh;replace hh:Hp _ (.blk _ _ [_,_] _::_) _:=hh;refine aa ?_;replace hh:=show Hp w (.blk b10 234 [.slice (some ⟨b41,0,none⟩) (lx+2) (lx+2),.slice A44 (m+1) c44] (0,0)::_) _ from hh;replace hh:=hh.sub (Yv _ (Yv _ (Yv _ (Yw _ (Yw _ (Yw _ YR))))));refine sr (bo ?_);refine bp hh 0 ?_;refine aM (bo ?_);refine bp hh 0 ?_;refine aM ?_;refine ee ?_;refine gj (n:=lx+2-(m+1)) hh rfl rfl Yo Yo bG.out aJ.out rfl Yo Yo Yp ?_;intro b53 w53 hh;refine yF ?_;refine ee (aI (aa (ar ?_)));rw [kT] at hh;have hK0:lx+2-(m+1)+(m+1)=lx+2:=Yo;generalize hK:lx+2-(m+1)=K at*;replace hh:=hh.perm (Zp (l₁:=[_,_]));simp only [YB,Yz] at hh;replace hh:=hh.perm (Zp (l₁:=[_,_]));simp only [YB,Yz] at hh;replace hh:=hh.perm (Zp (l₁:=[_,_]))
  simp only [YB,Yz] at hh;replace hh:=hh.perm (Zp (l₁:=[_,_,_]));simp only [YB,Yz] at hh;refine aT [12,57,58,59,60,61,62,63,64,65,66] 12
   (fun e w'=>∃(k:Nat) (X O:List Nat),k≤K∧e=.int .i64 ((k:Int)-1)∧K3 (bN a*2^s) (aZ 18446744073709551616 ys) (lx+2) (m+1) k X O∧Hp w [.row (some ⟨b41,0,none⟩) (lx+2) (lx+2) 160 1 (cO X),.row (some ⟨b53,0,none⟩) K K 160 1 (cO O),.blk b10 234 [.slice (some ⟨b41,0,none⟩) (lx+2) (lx+2),.slice A44 (m+1) c44] (0,0),.row A44 (m+1) c44 160 1 (cO ys)] w')
   (fun e _=>(intOf e+1).toNat) ?_ ?_
  ·exact ⟨K,X0,_,YA _,rfl,hst,hh⟩
  ·clear hh hst;rintro ρ' e_ w' ⟨k,X,O,hk,rfl,hD,hh⟩;by_cases hk0:0<k
   ·obtain ⟨k,rfl⟩:∃j,k=j+1:=⟨k-1,Yo⟩;obtain ⟨hq,hD2⟩:=JA hyw hlen Yo Yo hD;have hdc:=Ap (C:=lx+2) (cy:=c44) (Yb:=A44) k X ys _ hh (fun w1 cs h=>h.az (i:=3) rfl) hD.xd hyw rfl hv hv2 Yo Yo hq;have hOl:=hD.ol;rw [hK] at hOl;rw [show ((k+1:Nat):Int)-1=(k:Int) by omega];generalize aZ 18446744073709551616 (cY X k (m+1))/aZ 18446744073709551616 ys=q at*;generalize X.take k++bX 18446744073709551616 (m+1+1) (aZ 18446744073709551616 (cY X k (m+1)) % aZ 18446744073709551616 ys)++X.drop (k+(m+1+1))=X2 at*;refine ah (sr (mI ?_));refine dF (aa (cT (aq (ai (ah (ar (ak (mL (mI ?_)))))))));refine bJ hh 2 [_,_] (mI ?_);refine ay (hdc) au.out rfl Yp ?_;rintro e_ w_ ⟨rfl,hh⟩;refine ⟨_,rfl, ?_⟩;refine cJ (k:=k) bG.out aJ.size rfl rfl Yo Yo Yp ?_;refine ct hh (i:=1) (vs:=[_]) rfl rfl (dt rfl) rfl aJ.out rfl (by rw [a0];omega) rfl ?_;intro ws hh;simp only [YG,Y8] at hh;rw [YV,de (by rw [a0];omega),hQ] at hh;refine aD (bz (ai (ak (mI ?_))));refine ee (aI (aD (ai ?_)))
    refine ⟨⟨k,X2,O.set k q,Yo,rfl,hD2,hh⟩,by show ((k:Int)-1+1).toNat<((k:Int)+1).toNat;omega, ?_⟩;exact er
   ·obtain rfl:k=0:=Yo;obtain ⟨r1,r2⟩:=PS Yo hyv hD;refine ah (sr (mI ?_));refine dF (aa (cF (aX (aE (aE (bA (ai (ah ?_))))))));have hdn:=fun w1 h1=>tI (some ⟨b41,0,none⟩) (eJ X).length (lx+2) s (eJ X) w1 (Sl.pQ (n:=lx+2) h1) hD.xd.cut (by have:=fh X;have:=hD.xl;omega) (by have:=fh X;have:=hD.xl;omega) Yo;rw [jP,r2] at hdn;have htx:=fun w1 h1=>fO (some ⟨b53,0,none⟩) K K O w1 h1 hD.od (YA _) Yo;rw [r1] at htx;have htr:=fun A c w1 h1 h2 h3=>fO A (aR 18446744073709551616 (bN a % bN b)).length c (aR 18446744073709551616 (bN a % bN b)) w1 h1 (g6 _) h2 h3;rw [eZ] at htr;refine aK 6 [[(11,none)],[(67,some 0)],[(10,none)],[(69,some 2)],[(70,some 3)],[(9,none)]] [(5,72),(4,71),(3,70),(2,69),(1,68),(0,67)] hh mixed Yq ?_;refine gI ?_;refine dC (fun _ hj=>htx _ (hj.hp.az (i:=1) rfl)) ?_;refine dR ?_;refine fW 2 ?_;refine dC (fun _ hj=>gB _ _ _ X _ (hj.hp.az (i:=0) rfl) (YA _) Yo) ?_;refine dJ ?_;refine aH ?_;intro f W hJ hV;have hb_13:=hJ.bl;obtain ⟨v72,v71,v70,v69,v68,v67,_⟩:=hV;replace hh:=hJ.hp;refine aN (a6 (ae v72 (ae v71 (ae v70 (ae v69 (ae v68 (ae v67 aO))))))) ?_;dsimp only [bP]
    clear hJ;refine ay (hdn _ (hh.az (i:=0) rfl)) au.out rfl Yp ?_;rintro e_ w73 ⟨A73,c73,rfl,hown_,hb_⟩;refine ⟨_,rfl, ?_⟩;replace hh:=hh.aP (x:=.row _ _ _ _ _ _) hb_ hown_;refine bj hh (htr _ _ _ (hh.az (i:=0) rfl) (hh.fQ (i:=0) rfl) (by have:=ke (B:=18446744073709551616) Yo (Nat.le_of_lt (YU (bN a) (Nat.pos_of_ne_zero hb0)));omega)) rfl ?_;intro w74 hh;refine aS (aS (aB (aa (av ?_))));refine Ws ?_;exact ⟨rfl,hh.below⟩
end Go.Proofs.YtmchncaiffbpaaaGreatDoor
