/- Lemmas for bernBacks, part 5. -/
import Derived.LaidMore
import Derived.Lay
import Derived.Deep.Slices
import Derived.Stop.Joined
import Derived.Deep.Strs
import Derived.Laws.OwnMore
import Derived.Lib.SliceRun
import Derived.Test.YtolamocnngihpaaGreatDoorZ4
namespace Go.Proofs.YtolamocnngihpaaGreatDoor
variable {b n:Nat}
open Go.RowKit
theorem pS:bX n=0↔n=0:=by
 constructor
 ·intro h;have:=dD n;rw [h] at this;omega
 ·intro h;rw [h];exact mJ
theorem pb {a:Nat} (h:a≤b):bX a≤bX b:=eb (ZF h (dD b))
theorem Ku (a b:Nat):bX (a+b)≤bX a+bX b+1:=by
 apply eb;have h1:=dD a;have h2:=dD b;have h3:2^bX a≤2^(bX a+bX b):=Zf Yv Yv;have h4:2^bX b≤2^(bX a+bX b):=Zf Yv Yv;rw [Zn];omega
theorem dA (s:Bool) (m:ByteArray) (w:World) (hm:m.size≤1000000000):
  Calls Tryz.prog 152 #[.agg #[.bool s,.string m]] w fun e w'=>e=.returned (.agg #[.bool (iN (iv s m)),.string (iM (iv s m))])∧Below w.heap.size w w':=by
 have hh:=Hp.start w;have h1:=gO m;rw [Qu,HL]
 cases s with
 |false=>
  refine ak (N:=16) (l:=[.agg #[.bool false,.string m]]) Tryz.func152 rfl rfl (by simp) ?_;refine sr ?_;refine cu hh [_,_] ?_;intro b1 w1 hh;refine bW hh ?_;intro b2 w2 hh;refine aa (sr (bJ ?_));refine bG hh 1 ?_;refine aJ (jc m _ hm) aw.out rfl Yw ?_;rintro e_ w6 ⟨A6,c6,rfl,hown_,hb_⟩;refine ⟨_,rfl, ?_⟩;replace hh:=hh.aY (x:=.row _ _ _ _ _ _) hb_ hown_;refine Lz ?_;intro w7 hh;rw [im];refine aS (aa (sr (bJ ?_)));refine bG hh 2 ?_;refine mB ?_;refine gS (gS ?_);refine dX ?_;refine mS ?_;refine fH [_,_] ?_;exact Ln
 |true=>
  by_cases h0:sN (bN m)=ByteArray.mk #[]
  ·refine ak (N:=16) (l:=[.agg #[.bool true,.string m]]) Tryz.func152 rfl rfl (by simp) ?_;refine sr ?_;refine cu hh [_,_] ?_;intro b1 w1 hh;refine bW hh ?_;intro b2 w2 hh;refine aa (sr (bJ ?_));refine bG hh 1 ?_;refine aJ (jc m _ hm) aw.out rfl Yw ?_;rintro e_ w6 ⟨A6,c6,rfl,hown_,hb_⟩;refine ⟨_,rfl, ?_⟩;replace hh:=hh.aY (x:=.row _ _ _ _ _ _) hb_ hown_;refine Lz ?_;intro w7 hh;rw [im];refine aS (aa (sr (bJ ?_)));refine bG hh 2 ?_;refine mB (gT (mS (gT ?_)))
   (first|refine lP rfl rfl (by first|rfl|assumption|decide) Yw ?_|refine lT rfl rfl (by first|assumption|decide) Yw ?_)
   refine fG ?_;refine mS ?_;refine fH [_,_] ?_;refine bV hh 1 [_,_] ?_;intro ws hh;replace hh:Hp _ (_::.blk _ _ [_,_] _::_) _:=hh;refine aa (ay ?_);refine zl ?_;exact Sn
  ·refine ak (N:=16) (l:=[.agg #[.bool true,.string m]]) Tryz.func152 rfl rfl (by simp) ?_;refine sr ?_;refine cu hh [_,_] ?_;intro b1 w1 hh;refine bW hh ?_;intro b2 w2 hh;refine aa (sr (bJ ?_));refine bG hh 1 ?_;refine aJ (jc m _ hm) aw.out rfl Yw ?_;rintro e_ w6 ⟨A6,c6,rfl,hown_,hb_⟩;refine ⟨_,rfl, ?_⟩;replace hh:=hh.aY (x:=.row _ _ _ _ _ _) hb_ hown_;refine Lz ?_;intro w7 hh;rw [im];refine aS (aa (sr (bJ ?_)));refine bG hh 2 ?_;refine mB (gT (mS (gT ?_)))
   (first|refine lP rfl rfl (by first|rfl|assumption|decide) Yw ?_|refine lT rfl rfl (by first|assumption|decide) Yw ?_)
   refine fG ?_;refine mS ?_;refine fH [_,_] ?_;refine bV hh 1 [_,_] ?_;intro ws hh;replace hh:Hp _ (_::.blk _ _ [_,_] _::_) _:=hh;refine aa (ay ?_);refine zl ?_;exact QP
theorem FE (s:Bool) (m:ByteArray) (w:World) (hm:m.size≤1000000000):
  Calls Tryz.prog 170 #[.agg #[.bool s,.string m]] w fun e w'=>e=.returned (.agg #[.bool (iN (-(iv s m))),.string (iM (-(iv s m)))])∧Below w.heap.size w w':=by
 have hh:=Hp.start w;have e1:iv (!s) m= -(iv s m):=by unfold iv;cases s<;>simp
 refine ak (N:=10) (l:=[.agg #[.bool s,.string m]]) Tryz.func170 rfl rfl (by simp) ?_;refine sr ?_;refine cu hh [_,_] ?_;intro b1 w1 hh;refine bW hh ?_;intro b2 w2 hh;refine aa (sr (bJ ?_));refine bG hh 1 ?_;refine fV ?_;refine bJ ?_;refine bG hh 1 ?_;refine fH [_,_] ?_;refine bA hh (dA (!s) m _ hm) rfl ?_;intro w9 hh;rw [e1];exact N4
theorem j2 (s:Bool) (m:ByteArray) (w:World) (hm:m.size≤1000000000):
  Calls Tryz.prog 182 #[.agg #[.bool s,.string m]] w fun e w'=>e=.returned (.int .i64 (iv s m).sign)∧Below w.heap.size w w':=by
 have hh:=Hp.start w;by_cases h0:bN m=0
 ·have hb:bX (bN m)=0:=pS.2 h0;refine ak (N:=9) (l:=[.agg #[.bool s,.string m]]) Tryz.func182 rfl rfl (by simp) ?_;refine sr ?_;refine cu hh [_,_] ?_;intro b1 w1 hh;refine aI (aa (ai (sr (bJ ?_))));refine bG hh 0 ?_;refine bA hh (qN m _ hm) rfl ?_;intro w5 hh;refine x6 ?_;refine dh ?_;have hz:iv s m=0:=by unfold iv;split<;>omega
  exact ⟨by rw [hz];rfl,hh.below⟩
 ·have hb:bX (bN m)≠0:=fun h=>h0 (pS.1 h)
  cases s with
  |true=>
   refine ak (N:=9) (l:=[.agg #[.bool true,.string m]]) Tryz.func182 rfl rfl (by simp) ?_;refine sr ?_;refine cu hh [_,_] ?_;intro b1 w1 hh;refine aI (aa (ai (sr (bJ ?_))));refine bG hh 0 ?_;refine bA hh (qN m _ hm) rfl ?_;intro w5 hh;refine H8 ?_;refine bG hh 0 ?_;refine yy ?_;refine dh ?_;have hz:iv true m<0:=by unfold iv;rw [YA rfl];omega
   exact ⟨by rw [Z7 hz],hh.below⟩
  |false=>
   refine ak (N:=9) (l:=[.agg #[.bool false,.string m]]) Tryz.func182 rfl rfl (by simp) ?_;refine sr ?_;refine cu hh [_,_] ?_;intro b1 w1 hh;refine aI (aa (ai (sr (bJ ?_))));refine bG hh 0 ?_;refine bA hh (qN m _ hm) rfl ?_;intro w5 hh;refine H8 ?_;refine bG hh 0 ?_;refine H0 ?_;refine dh ?_;have hz:0<iv false m:=by unfold iv;rw [YB (by simp)];omega
   exact ⟨by rw [aac hz],hh.below⟩
theorem tr (n:Int) (w:World) (h1: -9223372036854775808≤n) (h2:n≤9223372036854775807):
  Calls Tryz.prog 103 #[.int .i64 n] w fun e w'=>e=.returned (.agg #[.bool (iN n),.string (iM n)])∧Below w.heap.size w w':=by
 have hh:=Hp.start w;by_cases h0:n<0
 ·have hn:iN n=true:=YV h0;obtain ⟨m,hm⟩:=abN (by omega:0≤ -(n+1));have ha:n.natAbs=m+1:=Yv;have hw:(m+1) % 18446744073709551616=m+1:=Zk Yv;refine ak (N:=16) (l:=[.int .i64 n]) Tryz.func103 rfl rfl (by simp) ?_;refine sr ?_;refine bW hh ?_;intro b2 w2 hh;refine aa (ai (sr (mI ?_)));refine a8 (aa (cT (sr (mI ?_))));refine bm ?_;refine AX rfl Yv Yv Yw ?_;rw [show -(n+1)=(m:Int) from hm];refine nu ?_;refine jt (b:=1) rfl rfl Yw ?_;rw [hw];refine bA hh (zn (m+1) _ Yv) rfl ?_;intro w10 hh;rw [←ha];refine fH [_,_] ?_;refine bV hh 0 [_,_] ?_;intro ws hh;replace hh:Hp _ (.blk _ _ [_,_] _::_) _:=hh;refine aa (ay (aN ?_));refine rq ?_;rw [hn];exact ⟨rfl,hh.below⟩
 ·obtain ⟨m,rfl⟩:=abN (by omega:0≤n);have hn:iN (m:Int)=false:=Y3 Yv;have hm:m<18446744073709551616:=Yv;have e1:iM (m:Int)=sN m:=rfl;refine ak (N:=16) (l:=[.int .i64 (m:Int)]) Tryz.func103 rfl rfl (by simp) ?_;refine sr ?_;refine bW hh ?_;intro b2 w2 hh;refine aa (ai (sr (mI ?_)));refine a8 (aa (cF (au (aj (sr (mI ?_))))));refine nu ?_;refine bA hh (zn m _ hm) rfl ?_;intro w14 hh;refine fH [_,_] ?_;refine bV hh 0 [_,_] ?_;intro ws hh;replace hh:Hp _ (.blk _ _ [_,_] _::_) _:=hh;refine aa (ay ?_);refine rq ?_;rw [hn,e1];exact ⟨rfl,hh.below⟩
theorem oD (s t:Bool) (a b:ByteArray) (w:World) (ha:a.size≤100000000) (hb:b.size≤100000000):
  Calls Tryz.prog 150 #[.agg #[.bool s,.string a],.agg #[.bool t,.string b]] w fun e w'=>e=.returned (.agg #[.bool (iN (iv s a+iv t b)),.string (iM (iv s a+iv t b))])∧Below w.heap.size w w':=by
 have hh:=Hp.start w;have hba:=fO a;have hbb:=fO b;by_cases hst:s=t
 ·subst hst;have e1:iv s (sN (bN a+bN b))=iv s a+iv s b:=by unfold iv;rw [fD];split<;>omega
  have hsz:(sN (bN a+bN b)).size≤1000000000:=by rw [ky];have:=Ku (bN a) (bN b);omega
  rw [←e1];refine ak (N:=49) (l:=[.agg #[.bool s,.string a],.agg #[.bool s,.string b]]) Tryz.func150 rfl rfl (by simp) ?_;refine sr ?_;refine cu hh [_,_] ?_;intro b2 w2 hh;refine cu hh [_,_] ?_;intro b3 w3 hh;refine bW hh ?_;intro b4 w4 hh;refine aa (ai (sr (bJ ?_)));refine bG hh 2 ?_;refine bJ ?_;refine bG hh 1 ?_;refine Hq bo.out rfl rfl (by first|rfl|assumption) Yw ?_;refine aa (cT (ai ?_));refine aW 8 [[(2,none)],[(12,some 0)],[(2,none)],[(14,some 2)],[(3,none)],[(16,some 4)],[(15,some 3),(17,some 5)],[(18,some 6)]] [(7,19),(6,18),(5,17),(4,16),(3,15),(2,14),(1,13),(0,12)] hh mixed Yx ?_;refine cX ?_;refine dT 2 ?_;refine cX ?_;refine dT 2 ?_;refine cX ?_;refine dT 1 ?_;refine pL [_,_] ?_;refine aO (i:=7) (Is (.string (sN (bN a+bN b)))) Is.ext ?_ ?_
  ·intro ρ1 w1 hj hR;obtain ⟨A18,c18,h18,s18⟩:=hR.1;exact bk rfl (aV aw.out (az h18 bf)) (En A18 2 c18 [a,b] _ s18 Yv (by simp;omega)) (fun _ _ hq=>⟨_,hq.1,hq.2,rfl⟩)
  refine aM ?_;intro f W hJ hV;have hb_2:=hJ.bl;obtain ⟨v19,v18,v17,v16,v15,v14,v13,v12,_⟩:=hV;obtain ⟨A18,c18,e18,f18⟩:Rows _ _ _ (f 6) W:=v18;replace hh:=hJ.hp;refine aQ (bg (ae v19 (ae e18 (ae v17 (ae v16 (ae v15 (ae v14 (ae v13 (ae v12 aR))))))))) ?_;dsimp only [bO];clear e18 hJ;refine fH [_,_] ?_;refine bA hh (dA s (sN (bN a+bN b)) _ hsz) rfl ?_;intro w21 hh;exact B2
 ·by_cases hle:bN b≤bN a
  ·have e1:iv s (sN (bN a-bN b))=iv s a+iv t b:=by unfold iv;rw [fD];cases s<;>cases t<;>simp at hst ⊢ <;>omega
   have hsz:(sN (bN a-bN b)).size≤1000000000:=by rw [ky];have:=pb (show bN a-bN b≤bN a by omega);omega
   rw [←e1];refine ak (N:=49) (l:=[.agg #[.bool s,.string a],.agg #[.bool t,.string b]]) Tryz.func150 rfl rfl (by simp) ?_;refine sr ?_;refine cu hh [_,_] ?_;intro b2 w2 hh;refine cu hh [_,_] ?_;intro b3 w3 hh;refine bW hh ?_;intro b4 w4 hh;refine aa (ai (sr (bJ ?_)));refine bG hh 2 ?_;refine bJ ?_;refine bG hh 1 ?_;refine IA ?_;refine zv ?_;refine bG hh 2 ?_;refine bJ ?_;refine bG hh 1 ?_;refine bA hh (qp a b _ Yv Yv) rfl ?_;intro w27 hh;rw [YV hle];refine mT ?_;refine dx ?_;refine dx ?_;refine aS (aB (aa (ai (sr (mB (aa (cT (sr (bJ ?_)))))))));refine bG hh 2 ?_;refine mS ?_;refine fH [_,_] ?_;refine bA hh (dA s (sN (bN a-bN b)) _ hsz) rfl ?_;intro w35 hh;exact B2
  ·have e1:iv t (sN (bN b-bN a))=iv s a+iv t b:=by unfold iv;rw [fD];cases s<;>cases t<;>simp at hst ⊢ <;>omega
   have hsz:(sN (bN b-bN a)).size≤1000000000:=by rw [ky];have:=pb (show bN b-bN a≤bN b by omega);omega
   rw [←e1];refine ak (N:=49) (l:=[.agg #[.bool s,.string a],.agg #[.bool t,.string b]]) Tryz.func150 rfl rfl (by simp) ?_;refine sr ?_;refine cu hh [_,_] ?_;intro b2 w2 hh;refine cu hh [_,_] ?_;intro b3 w3 hh;refine bW hh ?_;intro b4 w4 hh;refine aa (ai (sr (bJ ?_)));refine bG hh 2 ?_;refine bJ ?_;refine bG hh 1 ?_;refine IA ?_;refine zv ?_;refine bG hh 2 ?_;refine bJ ?_;refine bG hh 1 ?_;refine bA hh (qp a b _ Yv Yv) rfl ?_;intro w27 hh;rw [Y3 hle];refine mT ?_;refine dx ?_;refine dx ?_;refine aS (aB (aa (ai (sr (mB (aa (cF (au (aj (sr (bJ ?_)))))))))));refine bG hh 1 ?_;refine bJ ?_;refine bG hh 2 ?_;refine bA hh (qp b a _ Yv Yv) rfl ?_;intro w41 hh;refine mT ?_;refine dx ?_;refine dx ?_;refine aS (aa (sr (bJ ?_)));refine bG hh 1 ?_;refine mS ?_;refine fH [_,_] ?_;refine bA hh (dA t (sN (bN b-bN a)) _ hsz) rfl ?_;intro w48 hh;exact N4
theorem Bc (s t:Bool) (a b:ByteArray) (w:World) (ha:a.size≤100000000) (hb:b.size≤100000000):
  Calls Tryz.prog 123 #[.agg #[.bool s,.string a],.agg #[.bool t,.string b]] w fun e w'=>e=.returned (.agg #[.bool (iN (iv s a*iv t b)),.string (iM (iv s a*iv t b))])∧Below w.heap.size w w':=by
 have hh:=Hp.start w;have hba:=fO a;have hbb:=fO b;have e0:(iv s a*iv t b).natAbs=bN a*bN b:=by rw [aaq,jP,jP]
 have e1:iM (iv s a*iv t b)=sN (bN a*bN b):=by rw [iM,e0]
 have e2:iv (s !=t) (sN (bN a*bN b))=iv s a*iv t b:=by rw [←e1,uW]
 have hsz:(sN (bN a*bN b)).size≤1000000000:=by rw [ky];have:=DP (bN a) (bN b);omega
 rw [←e2];refine ak (N:=17) (l:=[.agg #[.bool s,.string a],.agg #[.bool t,.string b]]) Tryz.func123 rfl rfl (by simp) ?_;refine sr ?_;refine cu hh [_,_] ?_;intro b2 w2 hh;refine cu hh [_,_] ?_;intro b3 w3 hh;refine bW hh ?_;intro b4 w4 hh;refine aa (ai ?_);refine KN ?_;refine cX ?_;refine dT 2 ?_;refine cX ?_;refine dT 1 ?_;refine bu (i:=4) (fun ρ1 w1 hj hR=>mQ bo.out (show ρ1 6=Value.bool _ from hR.1) (show ρ1 8=Value.bool _ from hR.2.1)) ?_;refine cX ?_;refine dT 2 ?_;refine cX ?_;refine dT 1 ?_;refine dC (fun _ hj=>FY a b _ Yv Yv) ?_;refine aM ?_;intro f W hJ hV;have hb_1:=hJ.bl;obtain ⟨v14,v13,v12,v11,v10,v9,v8,v7,v6,v5,_⟩:=hV;replace hh:=hJ.hp;refine G1 ?_;dsimp only [bO];clear hJ;refine fH [_,_] ?_;refine bA hh (dA (s !=t) (sN (bN a*bN b)) _ hsz) rfl ?_;intro w16 hh;exact N4
theorem Em (s:Bool) (a:ByteArray) (k:Nat) (w:World) (ha:a.size≤100000000) (hk:k≤1000000000):
  Calls Tryz.prog 151 #[.agg #[.bool s,.string a],.int .i64 (k:Int)] w fun e w'=>e=.returned (.agg #[.bool (iN (iv s a*2^k)),.string (iM (iv s a*2^k))])∧Below w.heap.size w w':=by
 have hh:=Hp.start w;have hba:=fO a;have e2:iv s (sN (bN a*2^k))=iv s a*2^k:=by unfold iv;rw [fD];split<;>simp [Int.neg_mul]
 have hsz:(sN (bN a*2^k)).size≤1000000000:=by rw [ky];have:=jr (bN a) k;omega
 rw [←e2];refine ak (N:=43) (l:=[.agg #[.bool s,.string a],.int .i64 (k:Int)]) Tryz.func151 rfl rfl (by simp) ?_;refine sr ?_;refine cu hh [_,_] ?_;intro b2 w2 hh;refine bW hh ?_;intro b4 w4 hh;refine aa (ai (sr (mI ?_)));refine ej (aa (cT (ai ?_)));refine aW 6 [[(2,none)],[(12,some 0)],[(2,none)],[(14,some 2)],[(1,none)],[(15,some 3),(16,some 4)]] [(5,17),(4,16),(3,15),(2,14),(1,13),(0,12)] hh mixed Yx ?_;refine cX ?_;refine dT 1 ?_;refine cX ?_;refine dT 1 ?_;refine cZ ?_;refine dC (fun _ hj=>EV a k _ Yv Yv) ?_;refine aM ?_;intro f W hJ hV;have hb_2:=hJ.bl;obtain ⟨v17,v16,v15,v14,v13,v12,_⟩:=hV;replace hh:=hJ.hp;refine aQ (bg (ae v17 (ae v16 (ae v15 (ae v14 (ae v13 (ae v12 aR))))))) ?_;dsimp only [bO];clear hJ;refine fH [_,_] ?_;refine bA hh (dA s (sN (bN a*2^k)) _ hsz) rfl ?_;intro w19 hh;exact B2
theorem qM (z:Int) (B:Nat) (q r:Int) (h:r+B*q=z) (h0:0≤r) (h1:r<B):z/B=q∧z % B=r:=
 (Int.ediv_emod_unique Yv).2 ⟨h,h0,h1⟩
theorem E6 (s:Bool) (a b:ByteArray) (w:World) (ha:a.size≤10000000) (hb:b.size≤10000000) (hb0:bN b≠0):
  Calls Tryz.prog 153 #[.agg #[.bool s,.string a],.agg #[.bool false,.string b]] w fun e w'=>e=.returned (.tuple #[.agg #[.bool (iN (iv s a/bN b)),.string (iM (iv s a/bN b))],.agg #[.bool (iN (iv s a % bN b)),.string (iM (iv s a % bN b))],.bool true])∧Below w.heap.size w w':=by
 have hh:=Hp.start w;have hba:=fO a;have hbb:=fO b;have hmod:bN a % bN b<bN b:=Y8 _ Yv;have hdm:bN b*(bN a/bN b)+bN a % bN b=bN a:=aah _ _;have hdm':(bN b:Int)*((bN a/bN b:Nat):Int)+((bN a % bN b:Nat):Int)=(bN a:Int):=by rw [←ZU,←aaw,hdm]
 have hqs:(sN (bN a/bN b)).size≤10000000:=by rw [ky];have:=pb (aaU (bN a) (bN b));omega
 have hrs:(sN (bN a % bN b)).size≤10000000:=by rw [ky];have:=pb (show bN a % bN b≤bN b by omega);omega
 have hqz:∀u,(iM (iv u (sN (bN a/bN b)))).size≤10000000:=fun u=>by rw [HL,fD];exact hqs
 have hrz:∀u,(iM (iv u (sN (bN a % bN b)))).size≤10000000:=fun u=>by rw [HL,fD];exact hrs
 by_cases hneg:s=true∧bN a % bN b≠0
 ·obtain ⟨rfl,hne⟩:=hneg;have e1:iv true (sN (bN a/bN b))= -((bN a/bN b:Nat):Int):=by unfold iv;rw [fD,YA rfl]
  have e2:iv true (sN (bN a % bN b))= -((bN a % bN b:Nat):Int):=by unfold iv;rw [fD,YA rfl]
  have hlt:(iv true (sN (bN a % bN b))).sign<0:=by rw [e2,Z7 Yv];omega
  have e3:iv true a= -(bN a:Int):=by unfold iv;rw [YA rfl]
  obtain ⟨q1,q2⟩:=qM (iv true a) (bN b) (-((bN a/bN b:Nat):Int)+ -1) ((bN b:Int)-((bN a % bN b:Nat):Int)) (by rw [e3,←hdm',Int.mul_add,Int.mul_neg];omega) Yv Yv;have e4:iv false b=(bN b:Int):=by unfold iv;rw [YB (by simp)]
  have hp2:(bN b:Int).sign=1:=aac Yv;refine ak (N:=57) (l:=[.agg #[.bool true,.string a],.agg #[.bool false,.string b]]) Tryz.func153 rfl rfl (by simp) ?_;refine sr ?_;refine cu hh [_,_] ?_;intro b2 w2 hh;refine cu hh [_,_] ?_;intro b3 w3 hh;refine bW hh ?_;intro b4 w4 hh;refine bW hh ?_;intro b5 w5 hh;refine aB (aa (sr (bJ ?_)));refine bG hh 3 ?_;refine bJ ?_;refine bG hh 2 ?_;refine bA hh (qm a b _ Yv Yv hb0) rfl ?_;intro w18 hh;refine mT ?_;refine dx ?_;refine dx ?_;refine dx ?_;refine aS (aS (aB (aa (ai (sr (mB ?_))))));refine fV ?_;refine zv ?_;refine bG hh 3 ?_;refine bJ ?_;refine bG hh 2 ?_;refine IG bo.out rfl rfl (by first|assumption|decide) Yw ?_;refine mS ?_;refine fH [_,_] ?_;refine bA hh (dA true (sN (bN a/bN b)) _ Yv) rfl ?_;intro w33 hh;refine bW hh ?_;intro b10 w10 hh;refine bV hh 0 [_,_] ?_;intro ws hh;replace hh:Hp _ (.blk _ _ [_,_] _::_) _:=hh;refine aa (sr (bJ ?_));refine bG hh 4 ?_;refine mS ?_;refine fH [_,_] ?_;refine bA hh (dA true (sN (bN a % bN b)) _ Yv) rfl ?_;intro w38 hh;refine bW hh ?_;intro b11 w11 hh;refine bV hh 0 [_,_] ?_;intro ws hh;replace hh:Hp _ (.blk _ _ [_,_] _::_) _:=hh
  refine aa (ai (sr ?_));refine cC hh 0 [_,_] ?_;refine bA hh (j2 (iN (iv true (sN (bN a % bN b)))) (iM (iv true (sN (bN a % bN b)))) _ (by have:=hrz true;omega)) rfl ?_;intro w40 hh;rw [fL];refine a8 (aa (cT (sr ?_)));refine cC hh 0 [_,_] (bJ ?_);refine bG hh 4 ?_;refine fH [_,_] ?_;refine bA hh (oD (iN (iv true (sN (bN a % bN b)))) false (iM (iv true (sN (bN a % bN b)))) b _ (by have:=hrz true;omega) Yv) rfl ?_;intro w46 hh;rw [fL,e2,e4,show -((bN a % bN b:Nat):Int)+(bN b:Int)=(bN b:Int)-((bN a % bN b:Nat):Int) by omega,←q2];refine bV hh 0 [_,_] ?_;intro ws hh;replace hh:Hp _ (.blk _ _ [_,_] _::_) _:=hh;refine aa (sr ?_);refine bA hh (tr (-1) _ Yv Yv) rfl ?_;intro w47 hh;refine bW hh ?_;intro b12 w12 hh;refine bV hh 0 [_,_] ?_;intro ws hh;replace hh:Hp _ (.blk _ _ [_,_] _::_) _:=hh;refine aa (ai (sr ?_));refine cC hh 5 [_,_] ?_;refine bA hh (j2 false b _ Yv) rfl ?_;intro w49 hh;rw [e4,hp2];refine a8 (aa (cF (au (aj (ar ?_)))));refine cC hh 2 [_,_] ?_;refine cC hh 0 [_,_] ?_;refine bA hh (oD (iN (iv true (sN (bN a/bN b)))) (iN (-1)) (iM (iv true (sN (bN a/bN b)))) (iM (-1)) _ (by have:=hqz true;omega) Yw) rfl ?_;intro w54 hh
  rw [fL,fL,e1,←q1];refine bV hh 2 [_,_] ?_;intro ws hh;replace hh:Hp _ (_::_::.blk _ _ [_,_] _::_) _:=hh;refine aa (ai ?_);refine rY hh mixed fun w_ hj_=> ?_;replace hh:=hj_.hp;clear hj_;refine u3 (i:=0) (i2:=1) Yx rfl rfl ?_ ?_
  ·refine cC hh 2 [_,_] ?_;refine fJ ?_;refine u3 (i:=1) (i2:=2) Yx rfl rfl ?_ ?_
   ·refine cC hh 1 [_,_] ?_;exact Qp
   ·refine bV hh 4 [_,_] ?_;intro ws hh;replace hh:Hp _ (_::_::_::_::.blk _ _ [_,_] _::_) _:=hh;refine fJ ?_;refine gK (i:=1) Yx rfl ?_;refine cC hh 1 [_,_] ?_;exact VW
  ·refine cC hh 1 [_,_] ?_;refine fJ ?_;refine gK (i:=0) Yx rfl ?_;refine cC hh 2 [_,_] ?_;exact Qp
 ·have e4:iv s a/bN b=iv s (sN (bN a/bN b))∧iv s a % bN b=iv s (sN (bN a % bN b)):=by
   cases s with
   |false=>
    have f0:∀x,iv false x=(bN x:Int):=fun x=>by unfold iv;rw [YB (by simp)]
    rw [f0,f0,f0,fD,fD];exact qM _ _ _ _ Yv Yv Yv
   |true=>
    have r0:bN a % bN b=0:=by
     rcases aak (bN a % bN b) with h|h
     ·exact h
     ·exact absurd ⟨rfl,Yv⟩ hneg
    have f0:∀x,iv true x= -(bN x:Int):=fun x=>by unfold iv;rw [YA rfl]
    rw [f0,f0,f0,fD,fD,r0];rw [r0] at hdm';exact qM _ _ _ _ (by rw [Int.mul_neg];omega) Yv Yv
  have h5:¬(iv s (sN (bN a % bN b))).sign<0:=by
   have h6:0≤iv s (sN (bN a % bN b)):=by rw [←e4.2];exact Int.emod_nonneg _ Yv
   have:=Int.sign_nonneg_iff.2 h6;omega
  rw [e4.1,e4.2]
  cases s with
  |false=>
   refine ak (N:=57) (l:=[.agg #[.bool false,.string a],.agg #[.bool false,.string b]]) Tryz.func153 rfl rfl (by simp) ?_;refine sr ?_;refine cu hh [_,_] ?_;intro b2 w2 hh;refine cu hh [_,_] ?_;intro b3 w3 hh;refine bW hh ?_;intro b4 w4 hh;refine bW hh ?_;intro b5 w5 hh;refine aB (aa (sr (bJ ?_)));refine bG hh 3 ?_;refine bJ ?_;refine bG hh 2 ?_;refine bA hh (qm a b _ Yv Yv hb0) rfl ?_;intro w18 hh;refine mT ?_;refine dx ?_;refine dx ?_;refine dx ?_;refine aS (aS (aB (aa (ai (sr (mB ?_))))));refine fV ?_;refine zv ?_;refine bG hh 3 ?_;refine bJ ?_;refine bG hh 2 ?_;refine OB bo.out rfl rfl (by first|rfl|assumption) Yw ?_;refine mS ?_;refine fH [_,_] ?_;refine bA hh (dA false (sN (bN a/bN b)) _ Yv) rfl ?_;intro w33 hh;refine bW hh ?_;intro b10 w10 hh;refine bV hh 0 [_,_] ?_;intro ws hh;replace hh:Hp _ (.blk _ _ [_,_] _::_) _:=hh;refine aa (sr (bJ ?_));refine bG hh 4 ?_;refine mS ?_;refine fH [_,_] ?_;refine bA hh (dA false (sN (bN a % bN b)) _ Yv) rfl ?_;intro w38 hh;refine bW hh ?_;intro b11 w11 hh;refine bV hh 0 [_,_] ?_;intro ws hh;replace hh:Hp _ (.blk _ _ [_,_] _::_) _:=hh;refine aa (ai (sr ?_));refine cC hh 0 [_,_] ?_
   refine bA hh (j2 (iN (iv false (sN (bN a % bN b)))) (iM (iv false (sN (bN a % bN b)))) _ (by have:=hrz false;omega)) rfl ?_;exact Xv
  |true=>
   refine ak (N:=57) (l:=[.agg #[.bool true,.string a],.agg #[.bool false,.string b]]) Tryz.func153 rfl rfl (by simp) ?_;refine sr ?_;refine cu hh [_,_] ?_;intro b2 w2 hh;refine cu hh [_,_] ?_;intro b3 w3 hh;refine bW hh ?_;intro b4 w4 hh;refine bW hh ?_;intro b5 w5 hh;refine aB (aa (sr (bJ ?_)));refine bG hh 3 ?_;refine bJ ?_;refine bG hh 2 ?_;refine bA hh (qm a b _ Yv Yv hb0) rfl ?_;intro w18 hh;refine mT ?_;refine dx ?_;refine dx ?_;refine dx ?_;refine aS (aS (aB (aa (ai (sr (mB ?_))))));refine fV ?_;refine zv ?_;refine bG hh 3 ?_;refine bJ ?_;refine bG hh 2 ?_;refine IG bo.out rfl rfl (by first|assumption|decide) Yw ?_;refine mS ?_;refine fH [_,_] ?_;refine bA hh (dA true (sN (bN a/bN b)) _ Yv) rfl ?_;intro w33 hh;refine bW hh ?_;intro b10 w10 hh;refine bV hh 0 [_,_] ?_;intro ws hh;replace hh:Hp _ (.blk _ _ [_,_] _::_) _:=hh;refine aa (sr (bJ ?_));refine bG hh 4 ?_;refine mS ?_;refine fH [_,_] ?_;refine bA hh (dA true (sN (bN a % bN b)) _ Yv) rfl ?_;intro w38 hh;refine bW hh ?_;intro b11 w11 hh;refine bV hh 0 [_,_] ?_;intro ws hh;replace hh:Hp _ (.blk _ _ [_,_] _::_) _:=hh;refine aa (ai (sr ?_));refine cC hh 0 [_,_] ?_
   refine bA hh (j2 (iN (iv true (sN (bN a % bN b)))) (iM (iv true (sN (bN a % bN b)))) _ (by have:=hrz true;omega)) rfl ?_;exact Xv
variable {j k m:Nat}{z:Int}
theorem Iy (h:n≠0):sb n=sb (n/256)++[UInt8.ofNat (n % 256)]:=by
 rw [sb,J2 Yv h,Y1,aaC]
 rfl
theorem Io (h:n≠0):1≤(sN n).size∧∃c:UInt8,(sN n).data.toList[(((sN n).size:Int)-1).toNat]?=some c∧c.toNat=n % 256:=by
 have hl:(sN n).data.toList=sb (n/256)++[UInt8.ofNat (n % 256)]:=by rw [sN,dY,Iy h]
 have hs:(sN n).size=(sb (n/256)).length+1:=by rw [dP,hl,YK];rfl
 refine ⟨Yv,UInt8.ofNat (n % 256), ?_, ?_⟩
 ·rw [hl,hs,ZQ Yv];have:(((sb (n/256)).length+1:Nat)-1:Int).toNat-(sb (n/256)).length=0:=Yv;rw [this]
  rfl
 ·simp
theorem Ub (h:n≠0):(sN n).extract 0 ((sN n).size-1)=sN (n/256):=by
 have hl:(sN n).data=(sb (n/256)++[UInt8.ofNat (n % 256)]).toArray:=by rw [sN,←Iy h];rfl
 have hs:(sN n).size=(sb (n/256)).length+1:=by rw [dP,hl,YK];rfl
 apply ByteArray.ext;rw [ByteArray.data_extract,hl,hs];show _=(sb (n/256)).toArray;simp
theorem SY {k:Int} (h:0<k) (y:Int):iN (y*k)=iN y:=by
 unfold iN;rw [decide_eq_decide];constructor
 ·intro h1
  rcases abw y 0 with h2|h2|h2
  ·exact h2
  ·rw [h2] at h1;simp at h1
  ·have:=Int.mul_pos h2 h;omega
 ·intro h1;exact Int.mul_neg_of_neg_of_pos h1 h
theorem Tf (h:n % 2=1):tz n=0:=by
 have:=Hw 0 (n/2);rwa [show 2^0*(2*(n/2)+1)=n by omega] at this
theorem Km {y e:Int} (hy:y.natAbs % 2=1) (hz:y*2^j=z):nR (Dyadic.ofIntWithPrec z (-e))=⟨iN y,iM y,e+j⟩:=by
 have h1:=sB (s:=iN y) (a:=iM y) (e:=e+j) (by rw [fL];omega);rw [fL,iM,fD,Tf hy] at h1;have h2:=oS y (-(e+j)) j;rw [hz,show -(e+(j:Int))+j= -e by omega] at h2;rw [h2,h1];simp
theorem uG {y:Int} (hy:y≠0) (hz:y*2^j=z) (hm:z.natAbs<2^m):j<m:=by
 have h1:z.natAbs=y.natAbs*2^j:=by rw [←hz,aaq,aaZ];rfl
 have h2:1*2^j≤y.natAbs*2^j:=ZH _ Yv;have h3:2^j<2^m:=Yv;exact (Nat.pow_lt_pow_iff_right Yv).1 h3
theorem nU (s:Bool) (a:ByteArray) (e:Int) (w:World) (ha:a.size≤10000000) (h1: -1000000000000≤e) (h2:e≤1000000000000):
  Calls Tryz.prog 102 #[.agg #[.bool s,.string a],.int .i64 e] w fun r w'=>r=.returned (.agg #[.bool (nR (Dyadic.ofIntWithPrec (iv s a) (-e))).neg,.string (nR (Dyadic.ofIntWithPrec (iv s a) (-e))).bj,.int .i64 (nR (Dyadic.ofIntWithPrec (iv s a) (-e))).e])∧Below w.heap.size w w':=by
 have hh:=Hp.start w;by_cases h0:iv s a=0
 ·have hm:=uo.2 h0;rw [h0] at hm;refine ak (N:=50) (l:=[.agg #[.bool s,.string a],.int .i64 e]) Tryz.func102 rfl rfl (by simp) ?_;refine sr ?_;refine cu hh [_,_] ?_;intro b2 w2 hh;refine bW hh ?_;intro b4 w4 hh;refine aa (sr ?_);refine cC hh 1 [_,_] ?_;refine bA hh (dA s a _ Yv) rfl ?_;intro w6 hh;rw [h0];refine bV hh 1 [_,_] ?_;intro ws hh;replace hh:Hp _ (_::.blk _ _ [_,_] _::_) _:=hh;refine aa (ai (sr (bJ ?_)));refine bG hh 1 ?_;refine iS rfl rfl (by first|rfl|assumption|decide) Yw ?_;refine aa (cT (sr ?_));refine fH [_,_,_] ?_;refine bV hh 0 [_,_,_] ?_;intro ws hh;replace hh:Hp _ (.blk _ _ [_,_,_] _::_) _:=hh;refine aa (ay (aN ?_));refine CQ ?_;rw [k5,nn];exact ⟨rfl,hh.below⟩
 ·have hm:¬iM (iv s a)=ByteArray.mk #[]:=fun h=>h0 (uo.1 h);have hzb:(iv s a).natAbs<2^(8*a.size):=by
   rw [jP,Zm];exact yg a
  refine ak (N:=50) (l:=[.agg #[.bool s,.string a],.int .i64 e]) Tryz.func102 rfl rfl (by simp) ?_;refine sr ?_;refine cu hh [_,_] ?_;intro b2 w2 hh;refine bW hh ?_;intro b4 w4 hh;refine aa (sr ?_);refine cC hh 1 [_,_] ?_;refine bA hh (dA s a _ Yv) rfl ?_;intro w6 hh;refine bV hh 1 [_,_] ?_;intro ws hh;replace hh:Hp _ (_::.blk _ _ [_,_] _::_) _:=hh;refine aa (ai (sr (bJ ?_)));refine bG hh 1 ?_;refine jb rfl rfl (by first|assumption|decide) Yw ?_;refine aa (cF (au (aj (ai (av ?_)))));generalize hz:iv s a=z at*;refine aT [1,11,12,13,14,15,16,17,18,19,20,21,22,23,24,25,26,27,28] 1
   (fun v w'=>∃(y:Int) (j:Nat),y≠0∧y*2^j=z∧v=.int .i64 (e+j)∧Hp w [.blk b4 40 [.bool false,.string (ByteArray.mk #[]),.int .i64 0] (0,0),.blk b2 38 [.bool (iN y),.string (iM y)] (0,0)] w')
   (fun v _=>(e+8*a.size+1-intOf v).toNat) ?_ ?_
  ·exact ⟨z,0,h0,by simp,by show Value.int _ _=Value.int _ _;congr 1;omega,hh⟩
  ·clear hh;rintro ρ' v w' ⟨y,j,hy,hyz,rfl,hh⟩;have hj:=uG hy hyz hzb;obtain ⟨hs1,c,hc,hcn⟩:=Io (n:=y.natAbs) Yv;have hcut:=Ub (n:=y.natAbs) Yv;have hsz:(sN y.natAbs).size≤10000000:=by
    exact Wc
   change (iM y).data.toList[(((iM y).size:Int)-1).toNat]?=some c at hc
   change 1≤(iM y).size at hs1
   change (iM y).extract 0 ((iM y).size-1)=_ at hcut
   change (iM y).size≤_ at hsz
   by_cases hb:y.natAbs % 256=0
   ·obtain ⟨x,rfl⟩:∃x,y=x*256:=⟨y/256,Yv⟩;have hx:x≠0:=fun h=>hy (by rw [h];rfl);have e1:iN (x*256)=iN x:=SY Yv x;have e2:sN ((x*256).natAbs/256)=iM x:=by rw [iM];congr 1;omega
    have hxz:x*2^(j+8)=z:=by rw [←hyz,Int.pow_add,Int.mul_assoc,Int.mul_comm (2^j)];rfl
    have hj2:=uG hx hxz hzb;refine ai (sr (bJ ?_));refine bG hh 1 ?_;refine bJ ?_;refine bG hh 1 ?_;refine bP bo.out rfl Yw ?_;refine eP ?_;refine j4 ?_;refine di (aa (cT (au (aj (av (sr (bJ ?_)))))));refine bG hh 1 ?_;refine bJ ?_;refine bG hh 1 ?_;refine bP bo.out rfl Yw ?_;refine eP ?_;refine tN (l:=0) (h:=((iM (x*256)).size-1)) bo.out rfl rfl ⟨_,_,rfl,Yv⟩ Yv Yv Yw ?_;refine bJ ?_;refine bV hh 1 [_] ?_;intro ws hh;replace hh:Hp _ (_::.blk _ _ [_,_] _::_) _:=hh;refine aa (ar (mI ?_));refine bm (aI (aE (bM (aj ?_))));rw [hcut,e2,e1] at hh;refine ⟨⟨x,j+8,hx,hxz,by show Value.int _ _=Value.int _ _;congr 1;omega,hh⟩,by show (e+8*a.size+1-(e+j+8)).toNat<(e+8*a.size+1-(e+j)).toNat;omega, ?_⟩;exact dO
   ·refine ai (sr (bJ ?_));refine bG hh 1 ?_;refine bJ ?_;refine bG hh 1 ?_;refine bP bo.out rfl Yw ?_;refine eP ?_;refine j4 ?_;refine di (aa (cF (a6 (aH (aH (bB (aj (ai (av ?_)))))))));refine aT [1,29,30,31,32,33,34,35,36,37,38,39,40,41,42,43,44,45,46] 1
     (fun v w'=>∃(y:Int) (j:Nat),y≠0∧y*2^j=z∧v=.int .i64 (e+j)∧Hp w [.blk b4 40 [.bool false,.string (ByteArray.mk #[]),.int .i64 0] (0,0),.blk b2 38 [.bool (iN y),.string (iM y)] (0,0)] w')
     (fun v _=>(e+8*a.size+1-intOf v).toNat) ?_ ?_
    ·exact ⟨y,j,hy,hyz,rfl,hh⟩
    ·clear hh hb hcut hcn hc hs1 hsz hj hy hyz;rintro ρ2 v w2 ⟨y,j,hy,hyz,rfl,hh⟩;have hj:=uG hy hyz hzb;obtain ⟨hs1,c,hc,hcn⟩:=Io (n:=y.natAbs) Yv;have hsz:(sN y.natAbs).size≤10000000:=by
      exact Wc
     change (iM y).data.toList[(((iM y).size:Int)-1).toNat]?=some c at hc
     change 1≤(iM y).size at hs1
     change (iM y).size≤_ at hsz
     by_cases hb:y.natAbs % 2=0
     ·obtain ⟨x,rfl⟩:∃x,y=x*2:=⟨y/2,Yv⟩;have hx:x≠0:=fun h=>hy (by rw [h];rfl);have hxz:x*2^(j+1)=z:=by rw [←hyz,Int.pow_add,Int.mul_assoc,Int.mul_comm (2^j)];rfl
      have hj2:=uG hx hxz hzb;have hof:∀w1,Calls Tryz.prog 103 #[.int .i64 2] w1 fun e w'=>e=.returned (.agg #[.bool false,.string (iM 2)])∧Below w1.heap.size w1 w':=fun w1=>tr 2 w1 Yv Yv;have hdv:∀w1,Calls Tryz.prog 153 #[.agg #[.bool (iN (x*2)),.string (iM (x*2))],.agg #[.bool false,.string (iM 2)]] w1 fun e w'=>e=.returned (.tuple #[.agg #[.bool (iN x),.string (iM x)],.agg #[.bool (iN 0),.string (iM 0)],.bool true])∧Below w1.heap.size w1 w':=fun w1=>by
       have h2:bN (iM 2)=2:=fD 2;have h3:(iM 2).size≤10000000:=by rw [dV];decide
       have:=E6 (iN (x*2)) (iM (x*2)) (iM 2) w1 hsz h3 Yv;rw [fL,h2,show x*2/((2:Nat):Int)=x by omega,show x*2 % ((2:Nat):Int)=0 by omega] at this;exact this
      refine ai (sr (bJ ?_));refine bG hh 1 ?_;refine bJ ?_;refine bG hh 1 ?_;refine bP bo.out rfl Yw ?_;refine eP ?_;refine j4 ?_;refine F4 (b:=2) rfl rfl Yv Yw ?_;refine di (aa (cT (au (aj (av (ai ?_))))));refine cP [] [5,6] [0,0,3,7,15,15,15,31] 7 [[(2,none)],[],[(39,some 0),(40,some 1)],[(41,some 2)],[(38,some 3)],[(38,some 3)],[(38,some 3)]] [(6,44),(5,43),(4,42),(3,38),(2,41),(1,40),(0,39)] hh mixed Yx dr rfl (by repeat (first|exact cz|refine bU ?_|refine cw ?_)) ?_;refine ef 1 [_,_] ?_;refine dC (fun _ hj=>hof _) ?_;refine dC (fun _ hj=>hdv _) ?_;refine Wl ?_;refine Px ?_;refine Px ?_;refine Px ?_;refine aM ?_;intro f W hJ hV _;have hb_8:=hJ.bl;obtain ⟨v44,v43,v42,v38,v41,v40,v39,_⟩:=hV;replace hh:=hJ.hp;refine aQ (bg (ae v44 (ae v43 (ae v42 (ae v38 (ae v41 (ae v40 (ae v39 aR)))))))) ?_;dsimp only [bO];clear hJ;refine bV hh 1 [_,_] ?_;intro ws hh;replace hh:Hp _ (_::.blk _ _ [_,_] _::_) _:=hh;refine aa (ar (mI ?_));refine bm (aI (aE (bM (aj ?_))))
      refine ⟨⟨x,j+1,hx,hxz,by show Value.int _ _=Value.int _ _;congr 1;omega,hh⟩,by show (e+8*a.size+1-(e+j+1)).toNat<(e+8*a.size+1-(e+j)).toNat;omega, ?_⟩;exact dO
     ·have hfin:=Km (e:=e) (show y.natAbs % 2=1 by omega) hyz;refine ai (sr (bJ ?_));refine bG hh 1 ?_;refine bJ ?_;refine bG hh 1 ?_;refine bP bo.out rfl Yw ?_;refine eP ?_;refine j4 ?_;refine F4 (b:=2) rfl rfl Yv Yw ?_;refine di (aa (cF (a6 (aH (aH (bB (aj (sr ?_))))))));refine cC hh 1 [_,_] (mI ?_);refine fH [_,_,_] ?_;refine bV hh 0 [_,_,_] ?_;intro ws hh;replace hh:Hp _ (.blk _ _ [_,_,_] _::_) _:=hh;refine aa (ay ?_);refine CQ ?_;rw [hfin];exact ⟨rfl,hh.below⟩
theorem sj {e:Int}{x:Dyadic} (w:World) (hx:Dyadic.ofIntWithPrec z (-e)=x) (hz:(iM z).size≤10000000) (h1: -1000000000000≤e) (h2:e≤1000000000000):
  Calls Tryz.prog 102 #[.agg #[.bool (iN z),.string (iM z)],.int .i64 e] w fun r w'=>r=.returned (.agg #[.bool (nR x).neg,.string (nR x).bj,.int .i64 (nR x).e])∧Below w.heap.size w w':=by
 have:=nU (iN z) (iM z) e w hz h1 h2;rw [fL,hx] at this;exact this
theorem gm (n:Int) (w:World) (h1: -9223372036854775808≤n) (h2:n≤9223372036854775807):
  Calls Tryz.prog 39 #[.int .i64 n] w fun r w'=>r=.returned (.agg #[.bool (nR (n:Dyadic)).neg,.string (nR (n:Dyadic)).bj,.int .i64 (nR (n:Dyadic)).e])∧Below w.heap.size w w':=by
 have hh:=Hp.start w;have hsz:(iM n).size≤10000000:=by
  rw [dV];have:bX n.natAbs≤64:=eb Yv;omega
 have hc:=fun w1=>sj (z:=n) (e:=0) (x:=(n:Dyadic)) w1 rfl hsz Yv Yv;refine ak (N:=6) (l:=[.int .i64 n]) Tryz.func39 rfl rfl (by simp) ?_;refine sr ?_;refine bW hh ?_;intro b2 w2 hh;refine aa (sr (mI ?_));refine bA hh (tr n _ h1 h2) rfl ?_;intro w4 hh;refine bA hh (hc _) rfl ?_;intro w5 hh;exact HR
theorem j0 (a:NR) (w:World) (ha:a.bj.size≤10000000) (h1: -1000000000000≤a.e) (h2:a.e≤1000000000000):
  Calls Tryz.prog 100 #[.agg #[.bool a.neg,.string a.bj,.int .i64 a.e]] w fun r w'=>r=.returned (.agg #[.bool (nR a.d).neg,.string (nR a.d).bj,.int .i64 (nR a.d).e])∧Below w.heap.size w w':=by
 have hh:=Hp.start w;refine ak (N:=8) (l:=[.agg #[.bool a.neg,.string a.bj,.int .i64 a.e]]) Tryz.func100 rfl rfl (by simp) ?_;refine sr ?_;refine cu hh [_,_,_] ?_;intro b1 w1 hh;refine bW hh ?_;intro b2 w2 hh;refine aa (sr (bJ ?_));refine cC hh 1 [_,_] (bJ ?_);refine bG hh 1 ?_;refine bA hh (nU a.neg a.bj a.e _ ha h1 h2) rfl ?_;intro w7 hh;exact HR
theorem eM (a:NR) (w:World) (ha:a.bj.size≤10000000):
  Calls Tryz.prog 149 #[.agg #[.bool a.neg,.string a.bj,.int .i64 a.e]] w fun r w'=>r=.returned (.int .i64 a.i.sign)∧Below w.heap.size w w':=by
 have hh:=Hp.start w;refine ak (N:=6) (l:=[.agg #[.bool a.neg,.string a.bj,.int .i64 a.e]]) Tryz.func149 rfl rfl (by simp) ?_;refine sr ?_;refine cu hh [_,_,_] ?_;intro b1 w1 hh;refine aI (aa (sr (bJ ?_)));refine cC hh 0 [_,_] ?_;refine bA hh (j2 a.neg a.bj _ Yv) rfl ?_;intro w5 hh;exact xA
theorem xd (a:NR) (w:World) (ha:a.bj.size≤10000000) (h1: -1000000000000≤a.e) (h2:a.e≤1000000000000):
  Calls Tryz.prog 124 #[.agg #[.bool a.neg,.string a.bj,.int .i64 a.e]] w fun r w'=>r=.returned (.agg #[.bool (nR (-a.d)).neg,.string (nR (-a.d)).bj,.int .i64 (nR (-a.d)).e])∧Below w.heap.size w w':=by
 have hh:=Hp.start w;have hs:=oG a.neg a.bj;have hc:=fun w1=>sj (z:= -(iv a.neg a.bj)) (e:=a.e) (x:= -a.d) w1 (Ap _ _).symm Yv h1 h2;refine ak (N:=9) (l:=[.agg #[.bool a.neg,.string a.bj,.int .i64 a.e]]) Tryz.func124 rfl rfl (by simp) ?_;refine sr ?_;refine cu hh [_,_,_] ?_;intro b1 w1 hh;refine bW hh ?_;intro b2 w2 hh;refine aa (ai ?_);refine Su ?_;refine cX ?_;refine ef 1 [_,_] ?_;refine dC (fun _ hj=>FE a.neg a.bj _ Yv) ?_;refine cX ?_;refine dT 1 ?_;refine aM ?_;intro f W hJ hV;have hb_1:=hJ.bl;obtain ⟨v7,v6,v5,v4,v3,_⟩:=hV;replace hh:=hJ.hp;refine aQ (bg (ae v7 (ae v6 (ae v5 (ae v4 (ae v3 aR)))))) ?_;dsimp only [bO];clear hJ;refine bA hh (hc _) rfl ?_;intro w8 hh;exact HR
theorem zQ (a:NR) (n:Int) (w:World) (ha:a.bj.size≤10000000) (h1: -100000000000≤a.e) (h2:a.e≤100000000000) (h3: -100000000000≤n) (h4:n≤100000000000):
  Calls Tryz.prog 38 #[.agg #[.bool a.neg,.string a.bj,.int .i64 a.e],.int .i64 n] w fun r w'=>r=.returned (.agg #[.bool (nR (a.d*se n)).neg,.string (nR (a.d*se n)).bj,.int .i64 (nR (a.d*se n)).e])∧Below w.heap.size w w':=by
 have hh:=Hp.start w;have e1:Dyadic.ofIntWithPrec (iv a.neg a.bj) (-(a.e+n))=a.d*se n:=by
  rw [Int.neg_add];exact Qe _ _ _
 have hc:=fun w1=>nU a.neg a.bj (a.e+n) w1 ha Yv Yv;rw [e1] at hc;refine ak (N:=12) (l:=[.agg #[.bool a.neg,.string a.bj,.int .i64 a.e],.int .i64 n]) Tryz.func38 rfl rfl (by simp) ?_;refine sr ?_;refine cu hh [_,_,_] ?_;intro b2 w2 hh;refine bW hh ?_;intro b4 w4 hh;refine aa (sr (bJ ?_));refine cC hh 1 [_,_] (bJ ?_);refine bG hh 1 ?_;refine mI ?_;refine bm ?_;refine bA hh (hc _) rfl ?_;intro w11 hh;exact HR
theorem W3 (x:Dyadic):Dyadic.ofIntWithPrec (nR x).i (-(nR x).e)=x:=cj x
theorem kv (a b:NR) (w:World) (ha:a.bj.size≤4000000) (hb:b.bj.size≤4000000) (h1: -100000000000≤a.e) (h2:a.e≤100000000000) (h3: -100000000000≤b.e) (h4:b.e≤100000000000):
  Calls Tryz.prog 75 #[.agg #[.bool a.neg,.string a.bj,.int .i64 a.e],.agg #[.bool b.neg,.string b.bj,.int .i64 b.e]] w fun r w'=>r=.returned (.agg #[.bool (nR (a.d*b.d)).neg,.string (nR (a.d*b.d)).bj,.int .i64 (nR (a.d*b.d)).e])∧Below w.heap.size w w':=by
 have hh:=Hp.start w;have e2:Dyadic.ofIntWithPrec (iv a.neg a.bj*iv b.neg b.bj) (-(a.e+b.e))=a.d*b.d:=by
  rw [Int.neg_add];exact (sg _ _ _ _).symm
 have hb1:=iF a.neg a.bj;have hb2:=iF b.neg b.bj;have hb3:=kx (iv a.neg a.bj) (iv b.neg b.bj);have hc:=fun w1=>sj (z:=iv a.neg a.bj*iv b.neg b.bj) (e:=a.e+b.e) w1 e2 (by rw [dV];omega) Yv Yv;refine ak (N:=16) (l:=[.agg #[.bool a.neg,.string a.bj,.int .i64 a.e],.agg #[.bool b.neg,.string b.bj,.int .i64 b.e]]) Tryz.func75 rfl rfl (by simp) ?_;refine sr ?_;refine cu hh [_,_,_] ?_;intro b2 w2 hh;refine cu hh [_,_,_] ?_;intro b3 w3 hh;refine bW hh ?_;intro b4 w4 hh;refine aa (ai ?_);refine KN ?_;refine cX ?_;refine ef 2 [_,_] ?_;refine cX ?_;refine ef 1 [_,_] ?_;refine dC (fun _ hj=>Bc a.neg b.neg a.bj b.bj _ Yv Yv) ?_;refine cX ?_;refine dT 2 ?_;refine cX ?_;refine dT 1 ?_;refine r6 ?_;refine aM ?_;intro f W hJ hV;have hb_1:=hJ.bl;obtain ⟨v14,v13,v12,v11,v10,v9,v8,v7,v6,v5,_⟩:=hV;replace hh:=hJ.hp;refine G1 ?_;dsimp only [bO];clear hJ;refine bA hh (hc _) rfl ?_;intro w15 hh;exact HR
theorem Pz {u v:NR} (h:u.e=v.e+k):Dyadic.ofIntWithPrec (u.i*2^k+v.i) (-v.e)=u.d+v.d:=by
 rw [←uJ];congr 1;have:=oS u.i (-u.e) k;rw [show -u.e+(k:Int)= -v.e by omega] at this;exact this
theorem wA {u v:NR} (hk:u.e=v.e+k) (hu:u.bj.size≤1000000) (hv:v.bj.size≤1000000) (hk2:k≤40000000) (h1: -100000000000≤v.e) (h2:v.e≤100000000000):
  (∀w,Calls Tryz.prog 151 #[.agg #[.bool u.neg,.string u.bj],.int .i64 (u.e-v.e)] w fun e w'=>e=.returned (.agg #[.bool (iN (u.i*2^k)),.string (iM (u.i*2^k))])∧Below w.heap.size w w')∧
  (∀w,Calls Tryz.prog 150 #[.agg #[.bool (iN (u.i*2^k)),.string (iM (u.i*2^k))],.agg #[.bool v.neg,.string v.bj]] w fun e w'=>e=.returned (.agg #[.bool (iN (u.i*2^k+v.i)),.string (iM (u.i*2^k+v.i))])∧Below w.heap.size w w')∧
  ∀w,Calls Tryz.prog 102 #[.agg #[.bool (iN (u.i*2^k+v.i)),.string (iM (u.i*2^k+v.i))],.int .i64 v.e] w fun r w'=>r=.returned (.agg #[.bool (nR (u.d+v.d)).neg,.string (nR (u.d+v.d)).bj,.int .i64 (nR (u.d+v.d)).e])∧Below w.heap.size w w':=by
 have hb1:bX (u.i*2^k).natAbs≤8000000+k:=by
  rw [aaq,aaZ];have:=jr u.i.natAbs k;have h3:=iF u.neg u.bj;unfold NR.i at this ⊢;exact Y2 this Yv
 have hb2:=iF v.neg v.bj;have hb3:=nk (u.i*2^k) v.i;refine ⟨fun w=> ?_,fun w=> ?_,fun w=> ?_⟩
 ·rw [show u.e-v.e=k by omega];exact Em u.neg u.bj k w Yv Yv
 ·have:=oD (iN (u.i*2^k)) v.neg (iM (u.i*2^k)) v.bj w (by rw [dV];omega) Yv;rw [fL] at this;exact this
 ·exact sj w (Pz hk) (by rw [dV];unfold NR.i at hb1 hb3 ⊢;omega) Yv Yv
theorem nO (a b:NR) (w:World) (ha:a.ok) (hb:b.ok):
  Calls Tryz.prog 99 #[.agg #[.bool a.neg,.string a.bj,.int .i64 a.e],.agg #[.bool b.neg,.string b.bj,.int .i64 b.e]] w fun r w'=>r=.returned (.agg #[.bool (nR (a.d+b.d)).neg,.string (nR (a.d+b.d)).bj,.int .i64 (nR (a.d+b.d)).e])∧Below w.heap.size w w':=by
 have hh:=Hp.start w;obtain ⟨ha1,ha2,ha3⟩:=ha;obtain ⟨hb1,hb2,hb3⟩:=hb;obtain ⟨_,fa1,fa2,fa3⟩:=lk (a:=a) ⟨ha1,ha2,ha3⟩;obtain ⟨_,fb1,fb2,fb3⟩:=lk (a:=b) ⟨hb1,hb2,hb3⟩;have hsg:∀x:Dyadic,(nR x).i.sign=0↔x=0:=fun x=>by
  rw [Int.sign_eq_zero_iff_zero];constructor
  ·intro h;rw [←W3 x,h,k5]
  ·intro h;rw [h];rfl
 by_cases h0:a.d=0
 ·have hs0:=(hsg a.d).2 h0;refine Ih ?_;refine sr ?_;refine cu hh [_,_,_] ?_;intro b2 w2 hh;refine cu hh [_,_,_] ?_;intro b3 w3 hh;refine bW hh ?_;intro b4 w4 hh;refine aa (ai ?_);refine HN ?_;refine ef 2 [_,_,_] ?_;refine G8 ?_;refine ef 1 [_,_,_] ?_;refine aM ?_;intro f W hJ hV;have hb_1:=hJ.bl;obtain ⟨v7,v6,v5,_⟩:=hV;replace hh:=hJ.hp;refine vv ?_;dsimp only [bO];clear hJ;refine Ix ?_;intro w8 hh;refine bV hh 2 [_,_,_] ?_;intro ws hh;replace hh:Hp _ (_::_::.blk _ _ [_,_,_] _::_) _:=hh;refine bV hh 1 [_,_,_] ?_;intro ws hh;replace hh:Hp _ (_::.blk _ _ [_,_,_] _::_) _:=hh;refine aa (ai (sr ?_));refine cC hh 2 [_,_,_] ?_;refine bA hh (eM (nR a.d) _ Yv) rfl ?_;intro w10 hh;refine di (aa (cT (sr ?_)));refine cC hh 1 [_,_,_] ?_;refine bV hh 0 [_,_,_] ?_;intro ws hh;replace hh:Hp _ (.blk _ _ [_,_,_] _::_) _:=hh;refine aa (ay (aN ?_));refine CQ ?_;rw [h0,aaz];exact ⟨rfl,hh.below⟩
 ·have hs0:¬(nR a.d).i.sign=0:=fun h=>h0 ((hsg a.d).1 h);by_cases h1:b.d=0
  ·have hs1:=(hsg b.d).2 h1;refine Ih ?_;refine sr ?_;refine cu hh [_,_,_] ?_;intro b2 w2 hh;refine cu hh [_,_,_] ?_;intro b3 w3 hh;refine bW hh ?_;intro b4 w4 hh;refine aa (ai ?_);refine HN ?_;refine ef 2 [_,_,_] ?_;refine G8 ?_;refine ef 1 [_,_,_] ?_;refine aM ?_;intro f W hJ hV;have hb_1:=hJ.bl;obtain ⟨v7,v6,v5,_⟩:=hV;replace hh:=hJ.hp;refine vv ?_;dsimp only [bO];clear hJ;refine Ix ?_;intro w8 hh;refine bV hh 2 [_,_,_] ?_;intro ws hh;replace hh:Hp _ (_::_::.blk _ _ [_,_,_] _::_) _:=hh;refine bV hh 1 [_,_,_] ?_;intro ws hh;replace hh:Hp _ (_::.blk _ _ [_,_,_] _::_) _:=hh;refine aa (ai (sr ?_));refine cC hh 2 [_,_,_] ?_;refine bA hh (eM (nR a.d) _ Yv) rfl ?_;intro w10 hh;refine di (aa (cF (au (aj (ai (sr ?_))))));refine cC hh 1 [_,_,_] ?_;refine bA hh (eM (nR b.d) _ Yv) rfl ?_;intro w14 hh;refine di (aa (cT (sr ?_)));refine cC hh 2 [_,_,_] ?_;refine bV hh 0 [_,_,_] ?_;intro ws hh;replace hh:Hp _ (.blk _ _ [_,_,_] _::_) _:=hh;refine aa (ay (aN ?_));refine CQ ?_;rw [h1,aaK];exact ⟨rfl,hh.below⟩
  ·have hs1:¬(nR b.d).i.sign=0:=fun h=>h1 ((hsg b.d).1 h);by_cases hlt:(nR a.d).e<(nR b.d).e
   ·obtain ⟨k,hk⟩:∃k:Nat,(nR b.d).e=(nR a.d).e+k:=⟨((nR b.d).e-(nR a.d).e).toNat,Yv⟩;obtain ⟨hshl,hpl,hmk⟩:=wA hk fb1 fa1 Yv Yv Yv;rw [cj,cj,Dyadic.add_comm] at hmk;refine Ih ?_;refine sr ?_;refine cu hh [_,_,_] ?_;intro b2 w2 hh;refine cu hh [_,_,_] ?_;intro b3 w3 hh;refine bW hh ?_;intro b4 w4 hh;refine aa (ai ?_);refine HN ?_;refine ef 2 [_,_,_] ?_;refine G8 ?_;refine ef 1 [_,_,_] ?_;refine aM ?_;intro f W hJ hV;have hb_1:=hJ.bl;obtain ⟨v7,v6,v5,_⟩:=hV;replace hh:=hJ.hp;refine vv ?_;dsimp only [bO];clear hJ;refine Ix ?_;intro w8 hh;refine bV hh 2 [_,_,_] ?_;intro ws hh;replace hh:Hp _ (_::_::.blk _ _ [_,_,_] _::_) _:=hh;refine bV hh 1 [_,_,_] ?_;intro ws hh;replace hh:Hp _ (_::.blk _ _ [_,_,_] _::_) _:=hh;refine aa (ai (sr ?_));refine cC hh 2 [_,_,_] ?_;refine bA hh (eM (nR a.d) _ Yv) rfl ?_;intro w10 hh;refine di (aa (cF (au (aj (ai (sr ?_))))));refine cC hh 1 [_,_,_] ?_;refine bA hh (eM (nR b.d) _ Yv) rfl ?_;intro w14 hh;refine H8 ?_;refine bG hh 2 ?_;refine bJ ?_;refine bG hh 1 ?_;refine a8 (aa (cT (ar ?_)));refine cC hh 1 [_,_,_] ?_;refine cC hh 2 [_,_,_] ?_;refine bV hh 2 [_,_,_] ?_;intro ws hh
    replace hh:Hp _ (_::_::.blk _ _ [_,_,_] _::_) _:=hh;refine bV hh 1 [_,_,_] ?_;intro ws hh;replace hh:Hp _ (_::.blk _ _ [_,_,_] _::_) _:=hh;refine aa (ai ?_);exact QI
   ·obtain ⟨k,hk⟩:∃k:Nat,(nR a.d).e=(nR b.d).e+k:=⟨((nR a.d).e-(nR b.d).e).toNat,Yv⟩;obtain ⟨hshl,hpl,hmk⟩:=wA hk fa1 fb1 Yv Yv Yv;rw [cj,cj] at hmk;refine Ih ?_;refine sr ?_;refine cu hh [_,_,_] ?_;intro b2 w2 hh;refine cu hh [_,_,_] ?_;intro b3 w3 hh;refine bW hh ?_;intro b4 w4 hh;refine aa (ai ?_);refine HN ?_;refine ef 2 [_,_,_] ?_;refine G8 ?_;refine ef 1 [_,_,_] ?_;refine aM ?_;intro f W hJ hV;have hb_1:=hJ.bl;obtain ⟨v7,v6,v5,_⟩:=hV;replace hh:=hJ.hp;refine vv ?_;dsimp only [bO];clear hJ;refine Ix ?_;intro w8 hh;refine bV hh 2 [_,_,_] ?_;intro ws hh;replace hh:Hp _ (_::_::.blk _ _ [_,_,_] _::_) _:=hh;refine bV hh 1 [_,_,_] ?_;intro ws hh;replace hh:Hp _ (_::.blk _ _ [_,_,_] _::_) _:=hh;refine aa (ai (sr ?_));refine cC hh 2 [_,_,_] ?_;refine bA hh (eM (nR a.d) _ Yv) rfl ?_;intro w10 hh;refine di (aa (cF (au (aj (ai (sr ?_))))));refine cC hh 1 [_,_,_] ?_;refine bA hh (eM (nR b.d) _ Yv) rfl ?_;intro w14 hh;refine H8 ?_;refine bG hh 2 ?_;refine bJ ?_;refine bG hh 1 ?_;refine a8 (aa (cF (au (aj (ai ?_)))));exact QI
theorem vD (a b:NR) (w:World) (ha:a.ok) (hb:b.ok) (hb':(nR b.d).ok):
  Calls Tryz.prog 76 #[.agg #[.bool a.neg,.string a.bj,.int .i64 a.e],.agg #[.bool b.neg,.string b.bj,.int .i64 b.e]] w fun r w'=>r=.returned (.agg #[.bool (nR (a.d-b.d)).neg,.string (nR (a.d-b.d)).bj,.int .i64 (nR (a.d-b.d)).e])∧Below w.heap.size w w':=by
 have hh:=Hp.start w;obtain ⟨hb1,hb2,hb3⟩:=hb;obtain ⟨n1,n2⟩:=Ut b.d;obtain ⟨o1,o2,o3⟩:=hb';have hp:=fun w1=>nO a (nR (-b.d)) w1 ha ⟨by rw [n1];exact o1,by rw [n2];exact o2,by rw [n2];exact o3⟩;rw [cj] at hp;refine ak (N:=9) (l:=[.agg #[.bool a.neg,.string a.bj,.int .i64 a.e],.agg #[.bool b.neg,.string b.bj,.int .i64 b.e]]) Tryz.func76 rfl rfl (by simp) ?_;refine sr ?_;refine cu hh [_,_,_] ?_;intro b2 w2 hh;refine cu hh [_,_,_] ?_;intro b3 w3 hh;refine bW hh ?_;intro b4 w4 hh;refine aa (ai ?_);refine Me ?_;refine ef 2 [_,_,_] ?_;refine ef 1 [_,_,_] ?_;refine dC (fun _ hj=>xd b _ Yv Yv Yv) ?_;refine aM ?_;intro f W hJ hV;have hb_1:=hJ.bl;obtain ⟨v7,v6,v5,_⟩:=hV;replace hh:=hJ.hp;refine vv ?_;dsimp only [bO];clear hJ;refine bA hh (hp _) rfl ?_;intro w8 hh;exact HR
theorem Ma (x y:Dyadic):(nR (x-y)).i.sign=kf x y:=by
 rw [NR.sign,cj];unfold kf;have e1:x-y<0↔x<y:=by grind
 have e2:0<x-y↔y<x:=by grind
 simp only [e1,e2]
theorem Eu (a b:NR) (w:World) (ha:a.ok) (hb:b.ok) (hb':(nR b.d).ok) (hs:(nR (a.d-b.d)).bj.size≤10000000):
  Calls Tryz.prog 142 #[.agg #[.bool a.neg,.string a.bj,.int .i64 a.e],.agg #[.bool b.neg,.string b.bj,.int .i64 b.e]] w fun r w'=>r=.returned (.int .i64 (kf a.d b.d))∧Below w.heap.size w w':=by
 have hh:=Hp.start w;refine ak (N:=9) (l:=[.agg #[.bool a.neg,.string a.bj,.int .i64 a.e],.agg #[.bool b.neg,.string b.bj,.int .i64 b.e]]) Tryz.func142 rfl rfl (by simp) ?_;refine sr ?_;refine cu hh [_,_,_] ?_;intro b2 w2 hh;refine cu hh [_,_,_] ?_;intro b3 w3 hh;refine aI (aa (sr ?_));refine cC hh 1 [_,_,_] ?_;refine cC hh 0 [_,_,_] ?_;refine bA hh (vD a b _ ha hb hb') rfl ?_;intro w7 hh;refine bA hh (eM (nR (a.d-b.d)) _ hs) rfl ?_;intro w8 hh;rw [Ma];exact xA
theorem Sz.pow {x:Dyadic} (h:Sz k x) (n:Nat):Sz (1+k*n) (x^n):=by
 induction n with
 |zero=>rw [aaO];exact Sz.one
 |succ n ih=>rw [abh];exact (ih.mul h).mono (by rw [aad];omega)
theorem wH (a:NR) (n:Int) (w:World) (ha:a.ok) (k:Nat) (hk:Sz k a.d) (hkn:k*n.toNat≤3999980) (hn:n≤1000000):
  Calls Tryz.prog 98 #[.agg #[.bool a.neg,.string a.bj,.int .i64 a.e],.int .i64 n] w fun r w'=>r=.returned (.agg #[.bool (nR (a.d^n.toNat)).neg,.string (nR (a.d^n.toNat)).bj,.int .i64 (nR (a.d^n.toNat)).e])∧Below w.heap.size w w':=by
 have hh:=Hp.start w;obtain ⟨xo1,xo2,xo3⟩:=ha;refine ak (N:=17) (l:=[.agg #[.bool a.neg,.string a.bj,.int .i64 a.e],.int .i64 n]) Tryz.func98 rfl rfl (by simp) ?_;refine sr ?_;refine cu hh [_,_,_] ?_;intro b2 w2 hh;refine bW hh ?_;intro b4 w4 hh;refine aa (sr ?_);refine bA hh (gm 1 _ Yv Yv) rfl ?_;intro w7 hh;refine bW hh ?_;intro b5 w5 hh;refine bV hh 0 [_,_,_] ?_;intro ws hh;replace hh:Hp _ (.blk _ _ [_,_,_] _::_) _:=hh;refine aa (ai (sr (aI (aa (av ?_)))));refine aT [6,8,9,10,11,12,13,14,15] 6
  (fun j w'=>∃(i:Nat) (S:Dyadic),i≤n.toNat∧j=.int .i64 i∧S=a.d^i∧Hp w [.blk b5 40 [.bool (nR S).neg,.string (nR S).bj,.int .i64 (nR S).e] (0,0),.blk b4 40 [.bool false,.string (ByteArray.mk #[]),.int .i64 0] (0,0),.blk b2 40 [.bool a.neg,.string a.bj,.int .i64 a.e] (0,0)] w')
  (fun j _=>n.toNat-(intOf j).toNat) ?_ ?_
 ·exact ⟨0,_,YD _,rfl,(aaO _).symm,hh⟩
 ·clear hh;rintro ρ' j w' ⟨i,S,hi,rfl,hS2,hh⟩;by_cases hlt:i<n.toNat
  ·have hlt2:(i:Int)<n:=Yv;have hS3:a.d^(i+1)=S*a.d:=by rw [abh,hS2]
   have hSz:Sz (1+k*i) S:=by rw [hS2];exact hk.pow i
   have hki:k*i≤k*n.toNat:=Zc _ hi;obtain ⟨so1,so2,so3⟩:=hSz.ok Yv;have hpc:=fun w1=>kv (nR S) a w1 Yv Yv Yv Yv Yv Yv;rw [cj] at hpc;refine ai (sr (mI (mI ?_)));refine a8 (aa (cT (au (aj (ai (av (ar ?_)))))));refine cC hh 0 [_,_,_] ?_;refine cC hh 2 [_,_,_] ?_;refine bA hh (hpc _) rfl ?_;intro w15 hh;refine bV hh 0 [_,_,_] ?_;intro ws hh;replace hh:Hp _ (.blk _ _ [_,_,_] _::_) _:=hh;refine p9 ?_;refine bm (aI (aE (aj ?_)));refine ⟨⟨i+1,_,Yv,rfl,hS3.symm,hh⟩,by show n.toNat-(i+1)<n.toNat-i;omega, ?_⟩;exact dO
  ·have hlt2:¬(i:Int)<n:=Yv;have hin:i=n.toNat:=Yv;refine ai (sr (mI (mI ?_)));refine yC ?_;refine cC hh 0 [_,_,_] ?_;refine bV hh 1 [_,_,_] ?_;intro ws hh;replace hh:Hp _ (_::.blk _ _ [_,_,_] _::_) _:=hh;refine aa (ay ?_);refine Kt ?_;rw [hS2,hin];exact ⟨rfl,hh.below⟩
def D (m e:Int):Dyadic:=Dyadic.ofIntWithPrec m (-e)
theorem Ew {m e:Int} (hm:m.natAbs<256) (h1: -16≤e) (h2:e≤16):Sz 24 (D m e):=by
 have:=Sz.raw (a:=⟨iN m,iM m,e⟩) (m:=8) (E:=16) (by show 8*(iM m).size≤8;rw [dV];have:bX m.natAbs≤8:=eb hm;omega) h1 h2;rw [NR.d,NR.i,fL] at this;exact this
def Xi (most far:Int) (l:List NR):Bool:=l.any fun a=>decide (most<a.bj.size∨a.e< -far∨far<a.e)
variable {W:World}{b0 base fuel:Nat}{cs:List Value}{held:Bool}{sp:Nat→Bool}
open Go.ChangeShapes Go.WideShapes Go.ChangeAt Go.RowKit Go.ChangeMaps
set_option maxRecDepth 100000 in
theorem pC {H:Type}{enc:TypeId×Value→H}{x:DataW H×List MemPlace} (h:DataW.trod enc Tryz.prog W base sp held fuel 40 cs=some x):
  ∃a:NR,cs=a.cells∧(Lit.int .i64 a.e).wf=true:=by
 have c1:Tryz.prog.cellsOf 40=3:=by kernel_rfl
 have c2:Tryz.prog.cellsOf 38=2:=by kernel_rfl
 have c3:Tryz.prog.cellsOf 4=1:=by kernel_rfl
 have c4:Tryz.prog.cellsOf 9=1:=by kernel_rfl
 have c5:Tryz.prog.cellsOf 3=1:=by kernel_rfl
 obtain ⟨y0,y1,n,_,hl,h0,h1⟩:=trod_struct2 Tryz.underlying40 h;obtain ⟨z0,z1,n2,_,hl2,h00,h01⟩:=trod_struct2 Tryz.underlying38 h0;obtain ⟨b,e0,_⟩:=DataW.trod_bool Tryz.underlying4 h00;obtain ⟨s,e1,_,hs⟩:=DataW.trod_string Tryz.underlying9 h01;obtain ⟨z,e2,_,hz⟩:=DataW.trod_int Tryz.underlying3 h1;rw [c1] at hl
 match cs,hl with
 |[x0,x1,x2],_=>
  simp only [c2,c3,c4,c5] at e0 e1 e2;simp at e0 e1 e2;subst e0 e1 e2;exact ⟨⟨b,s,z⟩,rfl,hz⟩
theorem GP {p:Nat→NR→Prop}:∀(n:Nat),(∀i,i<n→∃a,p i a)→∃l:List NR,l.length=n∧∀i a,l[i]?=some a→p i a
 |0,_=>⟨[],rfl,fun i a h=>by simp at h⟩
 |n+1,h=>by
  obtain ⟨l,h1,h2⟩:=GP n fun i hi=>h i Yv;exact VR
set_option maxRecDepth 100000 in
theorem J3 {H:Type}{enc:TypeId×Value→H}{r:Reach}{v:Value}{d:DataW H}{ps:List MemPlace}
  (hval:Value.okWide Tryz.prog W r b0 27 v) (hd:DataW.Trod enc Tryz.prog W base sp held 27 v d ps):∃(A:Option Addr) (n c:Nat) (l:List NR),v=.slice A n c∧Sl W A n 3 (aD NR.cells l)∧∀a∈l, -9223372036854775808≤a.e∧a.e≤9223372036854775807:=by
 have c1:Tryz.prog.cellsOf 40=3:=by kernel_rfl
 obtain ⟨a,len,cap,rfl⟩:=okWide_slice Tryz.underlying27 hval;obtain ⟨fuel,hf⟩:=hd
 rcases Go.Deep.open_slice Tryz.underlying27 hf with ⟨h1,_⟩|⟨ad,n,cp,m,k,D,Pl,h1,_,h2,h3,hm,_,h5⟩
 ·have h1':[Value.slice a len cap]=[.slice none 0 0]:=h1;simp only [abI,Value.slice.injEq,and_true] at h1';obtain ⟨rfl,rfl,rfl⟩:=h1';exact ⟨none,0,0,[],rfl,Sl.nil W none 3,fun _ h=>by simp at h⟩
 ·have h1':[Value.slice a len cap]=[.slice (some ad) n cp]:=h1;simp only [abI,Value.slice.injEq,and_true] at h1';obtain ⟨rfl,rfl,rfl⟩:=h1';have hnm:len≤m:=by rw [hm];split<;>omega
  obtain ⟨l,hl,hp⟩:=GP (p:=fun i a=>W.cells? base (ad.add (i*3)) 3=some a.cells∧(Lit.int .i64 a.e).wf=true) len fun i hi=>by
   obtain ⟨cs,h6,h7⟩:=h5 i Yv;rw [c1] at h6;obtain ⟨a,rfl,h8⟩:=pC h7;exact ⟨a,h6,h8⟩
  refine ⟨some ad,len,cap,l,rfl,⟨by rw [eS NR.len,hl],fun _=>⟨ad,rfl,fun j u hu=> ?_⟩⟩,fun a ha=> ?_⟩
  ·have hj:j/3<l.length:=by
    have:=(YQ.1 hu).1;rw [eS NR.len] at this;omega
   obtain ⟨x,hx⟩:=ao hj;have h6:=rl NR.len hx;have h7:(x.cells)[j % 3]?=some u:=by
    rw [←h6,Z9,YA Yv,Z6,show j/3*3+j % 3=j by omega];exact hu
   have h8:=(World.cells?_some (hp _ _ hx).1).2.2 (j % 3) Yv;rw [h7,kz,show j/3*3+j % 3=j by omega] at h8;exact h8
  ·obtain ⟨i,hi⟩:=aaj.1 ha;exact bounds_i64 (hp i a hi).2
theorem BT (h:laidMetH Tryz.prog Rows.bernValuesRow.laid W):e8 W:=by
 rw [MakeChecks.laidMetH_plain _ _ _ Yx] at h;obtain ⟨ps,⟨g,t,cs,fuel,p,q,hg,ht,hv,hd,_,_⟩,_,_⟩:=h;obtain rfl:=Zl ((show Tryz.prog.globalNamed "math/bits.deBruijn64tab" =some 0 by kernel_rfl).symm.trans hg);obtain rfl:=Zl ((show (Tryz.prog.globals[0]?).map (·.type)=some 204 by kernel_rfl).symm.trans ht);obtain ⟨xs,m,_,ex,_,hl,hel⟩:=DataW.trod_array Tryz.underlying204 hd;have c5:Tryz.prog.cellsOf 5=1:=by kernel_rfl
 have e3:(xs.map (·.1))=EC.map fun n=>.lit (.int .u8 n):=(DataW.agg.inj (Prod.mk.inj ex).1).symm;have hlen:EC.length=64:=by decide
 intro r u hu;have hr:r<64:=by
  have:=(YQ.1 hu).1;rw [dq] at this;omega
 have hE:=hel r hr;rw [c5,YX,Z1 Yv] at hE;obtain ⟨z,e1,e2,_⟩:=DataW.trod_int Tryz.underlying5 hE;have e4:(xs.map (·.1))[r]?=(EC.map fun (n:Nat)=>(DataW.lit (.int .u8 n):DataW Unit))[r]?:=by rw [e3]
 rw [YN,YN,Z1 (by omega:r<xs.length),Z1 (by omega:r<EC.length),e2] at e4;have hz:u=.int .u8 z:=by
  rw [ij,YN,Z1 (by omega:r<EC.length)] at hu;simp only [Z0,aaf,DataW.lit.injEq,Lit.int.injEq,true_and] at e4 hu;rw [←hu,e4]
 rw [gh,Y0,World.var?_cell hg hv r,hz];have:cs.toList[r]?=some (.int .u8 z):=by
  have h0:((cs.toList.drop r).take 1)[0]?=some (.int .u8 z):=by rw [e1];rfl
  simpa using h0
 simpa using this
variable {P:Program}{α:Type}
theorem vH {α:Type}{p:Nat→α→Prop}:∀(n:Nat),(∀i,i<n→∃a,p i a)→∃l:List α,l.length=n∧∀i a,l[i]?=some a→p i a
 |0,_=>⟨[],rfl,fun i a h=>by simp at h⟩
 |n+1,h=>by
  obtain ⟨l,h1,h2⟩:=vH n fun i hi=>h i Yv;exact VR
theorem JH {f:α→List Value}{p:α→Prop}{sz:Nat}{t e:TypeId}{H:Type}{enc:TypeId×Value→H}{r:Reach}{v:Value}{d:DataW H}{ps:List MemPlace}
  (hf:∀x,(f x).length=sz) (h0:0<sz) (ht:P.underlying t=some (.slice e)) (hc:P.cellsOf e=sz) (one:∀fuel cs x,DataW.trod enc P W base sp held fuel e cs=some x→∃a,cs=f a∧p a)
  (hval:Value.okWide P W r b0 t v) (hd:DataW.Trod enc P W base sp held t v d ps):∃(A:Option Addr) (n c:Nat) (l:List α),v=.slice A n c∧Sl W A n sz (aD f l)∧∀a∈l,p a:=by
 obtain ⟨a,len,cap,rfl⟩:=okWide_slice ht hval;obtain ⟨fuel,hfu⟩:=hd
 rcases Go.Deep.open_slice ht hfu with ⟨h1,_⟩|⟨ad,n,cp,m,k,D,Pl,h1,_,h2,h3,hm,_,h5⟩
 ·have h1':[Value.slice a len cap]=[.slice none 0 0]:=h1;simp only [abI,Value.slice.injEq,and_true] at h1';obtain ⟨rfl,rfl,rfl⟩:=h1';exact ⟨none,0,0,[],rfl,Sl.nil W none sz,fun _ h=>by simp at h⟩
 ·have h1':[Value.slice a len cap]=[.slice (some ad) n cp]:=h1;simp only [abI,Value.slice.injEq,and_true] at h1';obtain ⟨rfl,rfl,rfl⟩:=h1';have hnm:len≤m:=by rw [hm];split<;>omega
  obtain ⟨l,hl,hp⟩:=vH (p:=fun i a=>W.cells? base (ad.add (i*sz)) sz=some (f a)∧p a) len fun i hi=>by
   exact QJ
  refine ⟨some ad,len,cap,l,rfl,⟨by rw [eS hf,hl],fun _=>⟨ad,rfl,fun j u hu=> ?_⟩⟩,fun a ha=> ?_⟩
  ·exact U6
  ·obtain ⟨i,hi⟩:=aaj.1 ha;exact (hp i a hi).2
def IC (z:Int):List Value:=[.int .i64 z]
theorem IC.len (z:Int):(IC z).length=1:=rfl
theorem OH (l:List Int):aD IC l=bQ l:=by
 induction l with
 |nil=>rfl
 |cons z l ih=>rw [g6,ih];rfl
set_option maxRecDepth 100000 in
theorem Jw {H:Type}{enc:TypeId×Value→H}{x:DataW H×List MemPlace} (h:DataW.trod enc Tryz.prog W base sp held fuel 3 cs=some x):
  ∃z:Int,cs=IC z∧(Lit.int .i64 z).wf=true:=by
 have c1:Tryz.prog.cellsOf 3=1:=by kernel_rfl
 obtain ⟨z,e2,_,hz⟩:=DataW.trod_int Tryz.underlying3 h;exact ⟨z,e2,hz⟩
theorem vA {f:α→List Value}{p:α→Prop}{sz:Nat}{t e:TypeId}{H:Type}{enc:TypeId×Value→H}{x:DataW H×List MemPlace}
  (hf:∀x,(f x).length=sz) (h0:0<sz) (ht:P.underlying t=some (.slice e)) (hc:P.cellsOf e=sz) (one:∀fuel cs x,DataW.trod enc P W base sp held fuel e cs=some x→∃a,cs=f a∧p a)
  (hfu:DataW.trod enc P W base sp held fuel t cs=some x):∃(A:Option Addr) (n c:Nat) (l:List α),cs=[.slice A n c]∧Sl W A n sz (aD f l)∧∀a∈l,p a:=by
 rcases Go.Deep.open_slice ht hfu with ⟨h1,_⟩|⟨ad,n,cp,m,k,D,Pl,h1,_,h2,h3,hm,_,h5⟩
 ·exact ⟨none,0,0,[],h1,Sl.nil W none sz,fun _ h=>by simp at h⟩
 ·have hnm:n≤m:=by rw [hm];split<;>omega
  obtain ⟨l,hl,hp⟩:=vH (p:=fun i a=>W.cells? base (ad.add (i*sz)) sz=some (f a)∧p a) n fun i hi=>by
   exact QJ
  refine ⟨some ad,n,cp,l,h1,⟨by rw [eS hf,hl],fun _=>⟨ad,rfl,fun j u hu=> ?_⟩⟩,fun a ha=> ?_⟩
  ·exact U6
  ·obtain ⟨i,hi⟩:=aaj.1 ha;exact (hp i a hi).2
theorem LM {l:List Int} (h:l.all cJ=true):ints (l.map qf)=l:=by
 induction l with
 |nil=>rfl
 |cons x l ih=>
  simp only [List.all_cons,YU] at h;have h1:((qf x).toNat:Int)=x:=by
   have:=oT h.1;injection this with _ this
   exact this.symm
  have:=ih h.2;simp only [ints,Y1,h1];congr 1
theorem Ls {l:List Int} (h:l.all cJ=true):eK (l.map qf)=true:=by
 rw [eK,Y6];intro c hc;obtain ⟨x,hx,rfl⟩:=YR.1 hc;have h1:=Y6.1 h x hx;have:=oT h1;injection this with _ this
 simp only [cJ,YU,YY] at h1;simp only [YY];omega
theorem PK {a:List UInt8} (h:eK a=true):(ints a).all cJ=true:=by
 rw [Y6];intro x hx;obtain ⟨c,hc,rfl⟩:=YR.1 hx;have:=Y6.1 h c hc;simp only [YY] at this;simp only [cJ,YU,YY];omega
theorem x7 {f:Int→Int→Int}{a b:List UInt8}{l:List Int} (h:ig f a b=some l):eK a=true∧eK b=true∧b.length=a.length∧l=List.zipWith f (ints a) (ints b):=by
 unfold ig at h;split at h
 ·rename_i hc;simp only [YU,YY] at hc;injection h with h
  exact ⟨hc.1,hc.2.1,Yv,h.symm⟩
 ·cases h
theorem PD {f:Int→Int→Int}{a b:List UInt8} (h1:eK a=true) (h2:eK b=true) (h3:b.length=a.length):ig f a b=some (List.zipWith f (ints a) (ints b)):=by
 unfold ig;rw [YA (by simp [h1,h2,h3])]
theorem oO {a c:List UInt8} (h:(mulL a c).2=0):eK a=true∧eK c=true∧c.length=a.length∧eK (mulL a c).1=true∧ints (mulL a c).1=List.zipWith (· + ·) (ints a) (ints c):=by
 unfold mulL at h ⊢;split
 ·rename_i l hl;rw [hl] at h;simp only at h ⊢;obtain ⟨h1,h2,h3,h4⟩:=x7 hl;by_cases hc:l.all cJ=true
  ·rw [(pr hc).1];exact ⟨h1,h2,h3,Ls hc,by rw [LM hc,h4]⟩
  ·simp [N5,hc] at h
 ·rename_i hl;rw [hl] at h;simp at h
theorem Ep {a c:List UInt8} (h:(mulL a c).2=0):(mulL a c).1.length=a.length:=by
 obtain ⟨_,_,h3,_,h5⟩:=oO h;have:=Zz List.length h5;rw [dE,List.length_zipWith,dE,dE] at this;omega
structure TR where
 m:ByteArray
 c:NR
def TR.cells (t:TR):List Value:=[.string t.m,.bool t.c.neg,.string t.c.bj,.int .i64 t.c.e]
theorem TR.len (t:TR):t.cells.length=4:=rfl
theorem TR.one (t:TR):t.cells.all Value.oneCell'=true:=rfl
def ji (a b:ByteArray):Bool:=Op.bytesLess a.data.toList b.data.toList
theorem rh:∀a:List UInt8,Op.bytesLess a a=false
 |[]=>rfl
 |c::a=>by simp [Op.bytesLess,rh a]
theorem tW:∀a b c:List UInt8,Op.bytesLess a b=true→Op.bytesLess b c=true→Op.bytesLess a c=true
 |_,[],[],_,h=>by simp [Op.bytesLess] at h
 |_,_::_,[],_,h=>by simp [Op.bytesLess] at h
 |[],[],_::_,h,_=>by simp [Op.bytesLess] at h
 |_::_,[],_::_,h,_=>by simp [Op.bytesLess] at h
 |[],_::_,_::_,_,_=>rfl
 |x::a,y::b,z::c,h1,h2=>by
  simp only [Op.bytesLess,aaL,YU,YY,aam] at h1 h2 ⊢
  rcases h1 with h1|⟨rfl,h1⟩
  ·rcases h2 with h2|⟨rfl,h2⟩
   ·exact .inl (UInt8.lt_trans h1 h2)
   ·exact .inl h1
  ·rcases h2 with h2|⟨rfl,h2⟩
   ·exact .inl h2
   ·exact .inr ⟨rfl,tW a b c h1 h2⟩
theorem y4:∀a b:List UInt8,Op.bytesLess a b=false→Op.bytesLess b a=false→a=b
 |[],[],_,_=>rfl
 |[],_::_,h,_=>by simp [Op.bytesLess] at h
 |_::_,[],_,h=>by simp [Op.bytesLess] at h
 |x::a,y::b,h1,h2=>by
  simp only [Op.bytesLess,Bool.or_eq_false_iff,abU,abO,beq_eq_false_iff_ne] at h1 h2;have e:x=y:=by
   have a1:=h1.1;have a2:=h2.1;rw [UInt8.lt_iff_toNat_lt] at a1 a2;exact abq.1 Yv
  subst e;rw [y4 a b (h1.2.resolve_left (fun h=>h rfl)) (h2.2.resolve_left (fun h=>h rfl))]
theorem gW (a:ByteArray):ji a a=false:=rh _
theorem kK {a b c:ByteArray} (h1:ji a b=true) (h2:ji b c=true):ji a c=true:=tW _ _ _ h1 h2
theorem ph {a b:ByteArray} (h1:ji a b=false) (h2:ji b a=false):a=b:=sW (y4 _ _ h1 h2)
theorem MP {a b:ByteArray} (h:ji a b=true):a≠b:=fun e=>by rw [e,gW] at h;cases h
theorem JG {a b:ByteArray} (h:ji a b=true):ji b a=false:=by
 cases h2:ji b a with
 |false=>rfl
 |true=>have:=kK h h2;rw [gW] at this;cases this
def ux (l:List TR):Prop:=l.Pairwise fun a b=>ji a.m b.m=true
def wS (f:ByteArray→Dyadic):List TR→Dyadic
 |[]=>0
 |t::l=>t.c.d*f t.m+wS f l
theorem px (f:ByteArray→Dyadic) (l k:List TR):wS f (l++k)=wS f l+wS f k:=by
 induction l with
 |nil=>exact (aaz _).symm
 |cons t l ih=>rw [YJ,wS,wS,ih,Dyadic.add_assoc]
theorem Ok (f:ByteArray→Dyadic) (l:List TR) (t:TR):wS f (l++[t])=wS f l+t.c.d*f t.m:=by
 rw [px,wS,wS,aaK]
def ic (l:List TR) (m:ByteArray):Dyadic:=wS (fun k=>if k=m then 1 else 0) l
theorem fe (t:TR) (l:List TR) (m:ByteArray):ic (t::l) m=(if t.m=m then t.c.d else 0)+ic l m:=by
 show t.c.d*(if t.m=m then 1 else 0)+ic l m=_;split
 ·rw [abl]
 ·rw [abx]
theorem vM (m:ByteArray):ic [] m=0:=rfl
theorem fM (l k:List TR) (m:ByteArray):ic (l++k) m=ic l m+ic k m:=px _ _ _
theorem yA {l:List TR}{m:ByteArray} (h:∀t∈l,t.m≠m):ic l m=0:=by
 induction l with
 |nil=>rfl
 |cons t l ih=>rw [fe,YB (h t YL),ih fun s hs=>h s (YP _ hs),aaz]
structure Canon (l:List TR):Prop where
 sO:ux l
 nz:∀t∈l,t.c.d≠0
 nf:∀t∈l,t.c=nR t.c.d
theorem wu {t:TR}{l:List TR} (h:Canon (t::l)):Canon l:=⟨(ZW.1 h.sO).2,fun s hs=>h.nz s (YP _ hs),fun s hs=>h.nf s (YP _ hs)⟩
theorem xQ {t:TR}{l:List TR}{m:ByteArray} (h:ux (t::l)) (hm:m=t.m∨ji m t.m=true):∀s∈l,s.m≠m:=fun s hs e=>by
 have h1:=(ZW.1 h).1 s hs
 rcases hm with rfl|hm
 ·rw [e,gW] at h1;cases h1
 ·have:=kK hm h1;rw [e,gW] at this;cases this
theorem kD {t:TR}{l:List TR} (h:ux (t::l)):ic (t::l) t.m=t.c.d:=by
 rw [fe,YA rfl,yA (xQ h (.inl rfl)),aaK]
theorem yQ {t:TR}{l:List TR}{m:ByteArray} (h:ux (t::l)) (hm:ji m t.m=true):ic (t::l) m=0:=by
 rw [fe,YB (fun e=>MP hm e.symm),yA (xQ h (.inr hm)),aaz]
theorem si:∀{l k:List TR},Canon l→Canon k→(∀m,ic l m=ic k m)→l=k
 |[],[],_,_,_=>rfl
 |[],t::k,_,hk,h=>by
  have:=h t.m;rw [kD hk.sO,vM] at this;exact absurd this.symm (hk.nz t YL)
 |t::l,[],hl,_,h=>by
  have:=h t.m;rw [kD hl.sO,vM] at this;exact absurd this (hl.nz t YL)
 |t::l,s::k,hl,hk,h=>by
  have h1:ji t.m s.m=false:=by
   cases hb:ji t.m s.m with
   |false=>rfl
   |true=>
    have:=h t.m;rw [kD hl.sO,yQ hk.sO hb] at this;exact absurd this (hl.nz t YL)
  have h2:ji s.m t.m=false:=by
   cases hb:ji s.m t.m with
   |false=>rfl
   |true=>
    have:=h s.m;rw [kD hk.sO,yQ hl.sO hb] at this;exact absurd this.symm (hk.nz s YL)
  have em:=ph h1 h2;have ed:t.c.d=s.c.d:=by
   have:=h t.m;rw [kD hl.sO,em,kD hk.sO] at this;exact this
  have et:t=s:=by
   have a:=hl.nf t YL;have b:=hk.nf s YL;obtain ⟨m1,c1⟩:=t;obtain ⟨m2,c2⟩:=s;simp only at em ed a b;rw [em,a,b,ed]
  subst et;rw [si (wu hl) (wu hk) fun m=>by
   have:=h m;rw [fe,fe] at this;grind]
def iH:List TR→TR→List TR
 |[],x=>[⟨x.m,nR x.c.d⟩]
 |t::l,x=>if ji t.m x.m=true then t::iH l x else if ji x.m t.m=true then ⟨x.m,nR x.c.d⟩::t::l else ⟨x.m,nR (t.c.d+x.c.d)⟩::l
theorem Ik (f:ByteArray→Dyadic):∀(l:List TR) (x:TR),wS f (iH l x)=wS f l+x.c.d*f x.m
 |[],x=>by
  show (nR x.c.d).d*f x.m+0=0+_;rw [cj,aaK,aaz]
 |t::l,x=>by
  unfold iH;split
  ·rw [wS,Ik f l x,wS,Dyadic.add_assoc]
  ·split
   ·rw [wS,wS,cj,Dyadic.add_comm]
   ·rename_i h1 h2;have e:t.m=x.m:=ph (by simpa using h1) (by simpa using h2);rw [wS,wS,cj,e];grind
theorem vR:∀{l:List TR}{x t:TR},t∈iH l x→t∈l∨t.m=x.m
 |[],x,t,h=>.inr (by rw [YT.1 h])
 |s::l,x,t,h=>by
  unfold iH at h;split at h
  ·rcases YS.1 h with rfl|h
   ·exact .inl YL
   ·rcases vR h with h|h
    ·exact .inl (YP _ h)
    ·exact .inr h
  ·split at h
   ·rcases YS.1 h with rfl|h
    ·exact .inr rfl
    ·exact .inl h
   ·rcases YS.1 h with rfl|h
    ·exact .inr rfl
    ·exact .inl (YP _ h)
theorem Cc:∀{l:List TR}{x:TR},ux l→ux (iH l x)
 |[],x,_=>abV _ _
 |s::l,x,h=>by
  have h1:=ZW.1 h;unfold iH;split
  ·rename_i hs;refine ZW.2 ⟨fun t ht=> ?_,Cc h1.2⟩
   rcases vR ht with ht|ht
   ·exact h1.1 t ht
   ·rw [ht];exact hs
  ·split
   ·rename_i hs;refine ZW.2 ⟨fun t ht=> ?_,h⟩
    rcases YS.1 ht with rfl|ht
    ·exact hs
    ·exact kK hs (h1.1 t ht)
   ·rename_i a b;have e:s.m=x.m:=ph (by simpa using a) (by simpa using b);refine ZW.2 ⟨fun t ht=> ?_,h1.2⟩;show ji x.m t.m=true;rw [←e];exact h1.1 t ht
theorem Gp:∀{l:List TR}{x:TR},(∀t∈l,t.c=nR t.c.d)→∀t∈iH l x,t.c=nR t.c.d
 |[],x,_,t,ht=>by rw [YT.1 ht];show nR _=nR (nR _).d;rw [cj]
 |s::l,x,h,t,ht=>by
  unfold iH at ht;split at ht
  ·rcases YS.1 ht with rfl|ht
   ·exact h t YL
   ·exact Gp (fun t ht=>h t (YP _ ht)) t ht
  ·split at ht
   ·rcases YS.1 ht with rfl|ht
    ·show nR _=nR (nR _).d;rw [cj]
    ·exact h t ht
   ·rcases YS.1 ht with rfl|ht
    ·show nR _=nR (nR _).d;rw [cj]
    ·exact h t (YP _ ht)
theorem B5:∀(l:List TR) (x:TR),(iH l x).length≤l.length+1
 |[],x=>YE _
 |s::l,x=>by
  have:=B5 l x;unfold iH;split
  ·rw [YZ,YZ];omega
  ·split<;>simp
theorem HZ {k:Nat}:∀{l:List TR}{x:TR},(∀t∈l,Sz k t.c.d)→Sz k x.c.d→∀t∈iH l x,Sz (k+1) t.c.d
 |[],x,_,hx,t,ht=>by rw [YT.1 ht];show Sz _ (nR _).d;rw [cj];exact hx.mono Yv
 |s::l,x,h,hx,t,ht=>by
  unfold iH at ht;split at ht
  ·rcases YS.1 ht with rfl|ht
   ·exact (h t YL).mono Yv
   ·exact HZ (fun t ht=>h t (YP _ ht)) hx t ht
  ·split at ht
   ·rcases YS.1 ht with rfl|ht
    ·show Sz _ (nR _).d;rw [cj];exact hx.mono Yv
    ·exact (h t ht).mono Yv
   ·rcases YS.1 ht with rfl|ht
    ·show Sz _ (nR _).d;rw [cj];exact (h s YL).add hx
    ·exact (h t (YP _ ht)).mono Yv
def je (l:List TR):List TR:=l.foldl iH []
def oU (t:TR):Bool:= !decide (t.c.d=0)
def aF (l:List TR):List TR:=(je l).filter oU
theorem iP (l:List TR) (x:TR):je (l++[x])=iH (je l) x:=by unfold je;rw [abi];rfl
theorem j6 {P:List α→Prop} (h0:P []) (hs:∀l x,P l→P (l++[x])) (l:List α):P l:=by
 have:∀k:List α,P k.reverse:=fun k=>by
  induction k with
  |nil=>exact h0
  |cons x k ih=>rw [aaC];exact hs _ _ ih
 have h:=this l.reverse;rwa [aaT] at h
theorem Kn (f:ByteArray→Dyadic) (l:List TR):wS f (je l)=wS f l:=by
 induction l using j6 with
 |h0=>rfl
 |hs l x ih=>rw [iP,Ik,ih,Ok]
theorem I5 (l:List TR):ux (je l):=by
 induction l using j6 with
 |h0=>exact abD
 |hs l x ih=>rw [iP];exact Cc ih
theorem BM (l:List TR):∀t∈je l,t.c=nR t.c.d:=by
 induction l using j6 with
 |h0=>intro t ht;cases ht
 |hs l x ih=>rw [iP];exact Gp ih
theorem yI (l:List TR):(je l).length≤l.length:=by
 induction l using j6 with
 |h0=>exact YE _
 |hs l x ih=>rw [iP,YK];have:=B5 (je l) x;simp;omega
theorem CA (l:List TR) (h:∀t∈l,Sz k t.c.d):∀t∈je l,Sz (k+l.length) t.c.d:=by
 induction l using j6 with
 |h0=>intro t ht;cases ht
 |hs l x ih=>
  rw [iP,YK];exact HZ (k:=k+l.length) (ih fun t ht=>h t (aan _ ht)) ((h x (by simp)).mono Yv)
theorem Kb (l:List TR):∀t∈je l,∃s∈l,s.m=t.m:=by
 induction l using j6 with
 |h0=>intro t ht;cases ht
 |hs l x ih=>
  rw [iP];intro t ht
  rcases vR ht with ht|ht
  ·obtain ⟨s,hs,e⟩:=ih t ht;exact ⟨s,aan _ hs,e⟩
  ·exact ⟨x,by simp,ht.symm⟩
theorem za (f:ByteArray→Dyadic) (l:List TR):wS f (l.filter oU)=wS f l:=by
 induction l with
 |nil=>rfl
 |cons t l ih=>
  rw [List.filter_cons];by_cases h:t.c.d=0
  ·rw [YB (by unfold oU;rw [YV h];decide),ih,wS,h,Dyadic.zero_mul,aaz]
  ·rw [YA (by unfold oU;rw [Y3 h];rfl),wS,wS,ih]
theorem yZ (f:ByteArray→Dyadic) (l:List TR):wS f (aF l)=wS f l:=(za f _).trans (Kn f l)
theorem lz (l:List TR) (m:ByteArray):ic (aF l) m=ic l m:=yZ _ _
theorem FZ {t:TR} (h:oU t=true):t.c.d≠0:=fun e=>by
 unfold oU at h;rw [YV e] at h
 cases h
theorem dQ (l:List TR):Canon (aF l):=
 ⟨List.Pairwise.filter _ (I5 l),fun t ht=>FZ (ZP.1 ht).2,fun t ht=>BM l t (ZP.1 ht).1⟩
theorem bK (l:List TR):(aF l).length≤l.length:=Y2 (abT _ _) (yI l)
theorem mm {l:List TR} (h:∀t∈l,Sz k t.c.d):∀t∈aF l,Sz (k+l.length) t.c.d:=fun t ht=>CA l h t (ZP.1 ht).1
theorem gZ {l:List TR}:∀t∈aF l,∃s∈l,s.m=t.m:=fun t ht=>Kb l t (ZP.1 ht).1
theorem yE {l k:List TR} (h:Canon k) (hc:∀m,ic k m=ic l m):k=aF l:=si h (dQ l) fun m=>by rw [hc,lz]
theorem AD {l k:List TR} (hc:∀m,ic k m=ic l m):aF k=aF l:=yE (dQ k) fun m=>by rw [lz,hc]
variable {O Y l ys:List TR}
def ja (k:Nat) (l:List TR):Prop:=∀t∈l,t.c.ok∧Sz k t.c.d
theorem ja.mono (h:ja k l) (hk:k≤j):ja j l:=fun t ht=>⟨(h t ht).1,(h t ht).2.mono hk⟩
structure MD (k:Nat) (l L:List TR):Prop where
 sO:ux L
 co:∀m,ic L m=ic l m
 len:L.length≤l.length
 ok:ja k L
 mem:∀t∈L,∃s∈l,s.m=t.m
theorem MD.mono {L:List TR} (h:MD k l L) (hk:k≤j):MD j l L:=⟨h.sO,h.co,h.len,h.ok.mono hk,h.mem⟩
theorem MD.self (h:ux l) (hk:ja k l):MD k l l:=⟨h,fun _=>rfl,YE _,hk,fun t ht=>⟨t,ht,rfl⟩⟩
structure Mg (k:Nat) (xs ys O X Y:List TR):Prop where
 ro:ux O
 rx:ux X
 ry:ux Y
 co:∀m,ic O m+(ic X m+ic Y m)=ic xs m+ic ys m
 bx:∀t∈O,∀s∈X,ji t.m s.m=true
 hy:∀t∈O,∀s∈Y,ji t.m s.m=true
 len:O.length+(X.length+Y.length)≤xs.length+ys.length
 oo:ja (k+1) O
 ox:ja k X
 oy:ja k Y
 mo:∀t∈O,∃s∈xs++ys,s.m=t.m
 mx:∀t∈X,t∈xs++ys
 my:∀t∈Y,t∈xs++ys
theorem Mg.start {xs:List TR} (hx:ux xs) (hy:ux ys) (ox:ja k xs) (oy:ja k ys):Mg k xs ys [] xs ys:=
 ⟨abD,hx,hy,fun m=>aaz _,fun t ht=>(by cases ht),fun t ht=>(by cases ht),by simp,fun t ht=>(by cases ht),ox,oy,fun t ht=>(by cases ht),fun t ht=>aan _ ht,fun t ht=>Z5 _ ht⟩
theorem vr {x:TR} (h:ux O) (hx:∀t∈O,ji t.m x.m=true):ux (O++[x]):=
 List.pairwise_append.2 ⟨h,abV _ _,fun t ht s hs=>by rw [YT.1 hs];exact hx t ht⟩
theorem wm (x:TR) (m:ByteArray):ic [x] m=if x.m=m then x.c.d else 0:=by rw [fe,vM,aaK]
theorem fY {P:α→Prop}{O:List α}{x:α} (h:∀t∈O,P t) (hx:P x):∀t∈O++[x],P t:=fun t ht=>by
 rcases Zb.1 ht with ht|ht
 ·exact h t ht
 ·rw [YT.1 ht];exact hx
theorem Mg.left {xs X:List TR}{x y:TR} (h:Mg k xs ys O (x::X) (y::Y)) (hl:ji x.m y.m=true):Mg k xs ys (O++[x]) X (y::Y):=by
 obtain ⟨ro,rx,ry,co,bx,hby,len,oo,ox,oy,mo,mx,my⟩:=h;have r1:=ZW.1 rx;have r2:=ZW.1 ry;refine ⟨vr ro fun t ht=>bx t ht x YL,r1.2,ry,fun m=> ?_,fY (fun t ht s hs=>bx t ht s (YP _ hs)) fun s hs=>r1.1 s hs,fY hby fun s hs=> ?_,by simp at len ⊢;omega,fY oo ⟨(ox x YL).1,(ox x YL).2.mono Yv⟩,fun t ht=>ox t (YP _ ht),oy,fY mo ⟨x,mx x YL,rfl⟩,fun t ht=>mx t (YP _ ht),my⟩
 ·have:=co m;rw [fe x X] at this;rw [fM,wm];grind
 ·rcases YS.1 hs with rfl|hs
  ·exact hl
  ·exact kK hl (r2.1 s hs)
theorem Mg.right {xs X:List TR}{x y:TR} (h:Mg k xs ys O (x::X) (y::Y)) (hl:ji y.m x.m=true):Mg k xs ys (O++[y]) (x::X) Y:=by
 obtain ⟨ro,rx,ry,co,bx,hby,len,oo,ox,oy,mo,mx,my⟩:=h;have r1:=ZW.1 rx;have r2:=ZW.1 ry;refine ⟨vr ro fun t ht=>hby t ht y YL,rx,r2.2,fun m=> ?_,fY bx fun s hs=> ?_,fY (fun t ht s hs=>hby t ht s (YP _ hs)) fun s hs=>r2.1 s hs,by simp at len ⊢;omega,fY oo ⟨(oy y YL).1,(oy y YL).2.mono Yv⟩,ox,fun t ht=>oy t (YP _ ht),fY mo ⟨y,my y YL,rfl⟩,mx,fun t ht=>my t (YP _ ht)⟩
 ·have:=co m;rw [fe y Y] at this;rw [fM,wm];grind
 ·rcases YS.1 hs with rfl|hs
  ·exact hl
  ·exact kK hl (r1.1 s hs)
theorem Mg.both {xs X:List TR}{x y:TR} (h:Mg k xs ys O (x::X) (y::Y)) (h1:ji x.m y.m=false) (h2:ji y.m x.m=false) (hk:k≤3999980):Mg k xs ys (O++[⟨x.m,nR (x.c.d+y.c.d)⟩]) X Y:=by
 obtain ⟨ro,rx,ry,co,bx,hby,len,oo,ox,oy,mo,mx,my⟩:=h;have r1:=ZW.1 rx;have r2:=ZW.1 ry;have e:=ph h1 h2;have hz:=(ox x YL).2.add (oy y YL).2;refine ⟨vr ro fun t ht=>bx t ht x YL,r1.2,r2.2,fun m=> ?_,fY (fun t ht s hs=>bx t ht s (YP _ hs)) fun s hs=>r1.1 s hs,fY (fun t ht s hs=>hby t ht s (YP _ hs)) fun s hs=> ?_,by simp at len ⊢;omega,fY oo ⟨hz.ok Yv, ?_⟩,fun t ht=>ox t (YP _ ht),fun t ht=>oy t (YP _ ht),fY mo ⟨x,mx x YL,rfl⟩,fun t ht=>mx t (YP _ ht),fun t ht=>my t (YP _ ht)⟩
 ·have:=co m;rw [fe y Y,fe x X,←e] at this;rw [fM,wm];show ic O m+(if x.m=m then (nR (x.c.d+y.c.d)).d else 0)+(ic X m+ic Y m)=_;rw [cj];grind
 ·show ji x.m s.m=true;rw [e];exact r2.1 s hs
 ·show Sz _ (nR _).d;rw [cj];exact hz
theorem Mg.done {xs X:List TR} (h:Mg k xs ys O X Y) (hd:X=[]∨Y=[]):MD (k+1) (xs++ys) (O++X++Y):=by
 obtain ⟨ro,rx,ry,co,bx,hby,len,oo,ox,oy,mo,mx,my⟩:=h;refine ⟨?_,fun m=> ?_,by simp at len ⊢;omega,fun t ht=> ?_,fun t ht=> ?_⟩
 ·rw [Ze];refine List.pairwise_append.2 ⟨ro, ?_,fun t ht s hs=> ?_⟩
  ·rcases hd with rfl|rfl
   ·exact ry
   ·rw [Y9];exact rx
  ·rcases Zb.1 hs with hs|hs
   ·exact bx t ht s hs
   ·exact hby t ht s hs
 ·rw [fM,fM,fM,Dyadic.add_assoc];exact co m
 ·rcases Zb.1 ht with ht|ht
  ·rcases Zb.1 ht with ht|ht
   ·exact oo t ht
   ·exact ⟨(ox t ht).1,(ox t ht).2.mono Yv⟩
  ·exact ⟨(oy t ht).1,(oy t ht).2.mono Yv⟩
 ·rcases Zb.1 ht with ht|ht
  ·rcases Zb.1 ht with ht|ht
   ·exact mo t ht
   ·exact ⟨t,mx t ht,rfl⟩
  ·exact ⟨t,my t ht,rfl⟩
theorem MD.aF {k:Nat}{l L:List TR} (h:MD k l L):((L.filter oU).map fun t=>(⟨t.m,nR t.c.d⟩:TR))=aF l:=by
 refine yE ⟨?_,fun t ht=> ?_,fun t ht=> ?_⟩ fun m=> ?_
 ·exact List.Pairwise.map _ (fun a b hab=>hab) (List.Pairwise.filter _ h.sO)
 ·obtain ⟨s,hs,rfl⟩:=YR.1 ht;show (nR s.c.d).d≠0;rw [cj];exact FZ (ZP.1 hs).2
 ·obtain ⟨s,hs,rfl⟩:=YR.1 ht;show nR s.c.d=nR (nR s.c.d).d;rw [cj]
 ·have e:∀(f:ByteArray→Dyadic) (k:List TR),wS f (k.map fun t=>(⟨t.m,nR t.c.d⟩:TR))=wS f k:=fun f k=>by
   induction k with
   |nil=>rfl
   |cons t k ih=>rw [Y1,wS,wS,ih];show (nR t.c.d).d*f t.m+_=_;rw [cj]
  show wS _ _=_;rw [e,za];exact h.co m
theorem zz (h:l.length<2):ux l:=by
 match l,h with
 |[],_=>exact abD
 |[x],_=>exact abV _ _
variable {K:Value→World→Prop}{ag:Bool}{by':Nat}{cp:Operand}{kc kl:IntKind}{ops:Array Oper}{pos:String}{zc:List Value}
section
variable {ro:Mode}
section
variable {P:Program}{N:Nat}{ops:Array Oper}{Q:Kq}{ρ:Rf}{w w0:World}{rest:List Oper}{H:List HE}{d:Nat}{ty:TypeId}{pos:String}{af:Array Edge}
theorem PT (hh:Hp w0 H w) {t e:TypeId}{l:Operand}{L C:Int}{sz:Nat} (hl:ev ρ l=.int kl L) (hc:ev ρ cp=.int kc C) (hL:L=0) (hC:C=(n:Int))
  (ht:P.underlying t=some (.slice e)) (hte:dH P e=some (sz,ag,by',zc)) (hb:by'*n≤281474976710656) (h63:n≤9223372036854775807) (hN:d<N)
  (k:∀b w',Hp w0 (.row (some ⟨b,0,none⟩) 0 n e sz []::H) w'→WL ro P N ops Q rest (cY ρ d (.slice (some ⟨b,0,none⟩) 0 n)) w'):
  WL ro P N ops Q (⟨some d,.makeSlice t l cp,ty,pos,af,none⟩::rest) ρ w:=by
 obtain ⟨i,z,dd,hi,hd,hz,hs,hby,hzc,_⟩:=ez hte;subst hL;subst hC;subst hs;have hr:=run_make (P:=P) w t e i z ht hi hz kl kc 0 n (Int.le_refl _) Yv (by rw [hby,←ZU];omega) Yv;simp only [ZL,Int.toNat_zero] at hr;refine aZ rfl rfl hN (w':=w.alloc (.cells (madeCells z.cells (n*i.size)) e)) (v:=.slice (some ⟨w.heap.size,0,none⟩) 0 n) ?_ (k _ _ (hh.aY (show Below w.heap.size w (w.alloc (.cells (madeCells z.cells (n*i.size)) e)) from ⟨rfl,rfl,rfl,(World.grownBy_alloc w _ none).size,fun j hj=>(World.grownBy_alloc w _ none).block j hj (by simp)⟩) ?_))
 ·simp [execOp,hl,hc,hr]
 ·exact ⟨by simp,.inr ⟨w.heap.size,n,madeCells z.cells (n*i.size),rfl,YE _,heap_alloc_new w _,YD _,by unfold maxLen;omega,size_madeCells _ _,by simp⟩⟩
end
def ir (n sz:Nat) (cs:List Value):VP:=fun v W=>∃g:Nat,v=.slice (some ⟨g,0,none⟩) n n∧Sl W (some ⟨g,0,none⟩) n sz cs
theorem ir.ext {sz:Nat} (v:Value) (w w':World) (h:ir n sz cs v w) (hb:Below w.heap.size w w'):ir n sz cs v w':=let ⟨g,h1,h2⟩:=h;⟨g,h1,h2.ext hb⟩
section
variable {P:Program}{ρ:Rf}{w:World}
theorem Hf {d:Option Nat}{ty:TypeId}{af:Array Edge}{t e:TypeId}{l:Operand}{L C:Int}{sz:Nat} (hl:ev ρ l=.int kl L) (hc:ev ρ cp=.int kc C) (hL:L=(n:Int)) (hC:C=(n:Int))
  (ht:P.underlying t=some (.slice e)) (hte:dH P e=some (sz,ag,by',zc)) (hzl:zc.length=sz) (hb:by'*n≤281474976710656) (h63:n≤9223372036854775807)
  (hk:∀v w2,ir n sz (gu n zc) v w2→Below w.heap.size w w2→K v w2):OG P ops ⟨d,.makeSlice t l cp,ty,pos,af,none⟩ ρ w K:=by
 obtain ⟨i,z,dd,hi,hd,hz,hs,hby,hzc,_⟩:=ez hte;subst hL;subst hC;obtain ⟨w',hr,hown,hg⟩:=run_make_full (P:=P) w w.heap.size t e i z sz ht hi hz hs kl kc n (by rw [hby];exact hb) (by unfold maxLen;omega) (YE _);have hzz:(madeCells z.cells (n*sz)).toList=gu n zc:=by
  exact Tb
 rw [hzz] at hown;exact eJ rfl (w':=w') (v:=.slice (some ⟨w.heap.size,0,none⟩) n n) (by simp [execOp,hl,hc,hr]) (hk _ _ ⟨w.heap.size,rfl,jx hown⟩ ⟨hg.os,hg.tape,hg.output,hg.size,fun j hj=>hg.block j hj (by simp)⟩)
theorem mZ (n:Nat):gu n [.int .u8 0]=mM (List.replicate n 0):=by
 induction n with
 |zero=>rfl
 |succ n ih=>rw [gu,ih,aax];rfl
end
end
theorem Gr (a:ByteArray):a.toList=a.data.toList:=by
 have key:∀s:ByteArray,s.toList=s.data.toList:=fun s=>by
  exact UB
 exact key a
theorem jX (a b:ByteArray):Op.bytesLess a.toList b.toList=ji a b:=by rw [Gr,Gr];rfl
theorem Ol (a b:ByteArray):(!(Op.bytesLess a.toList b.toList||a.toList==b.toList))=ji b a:=by
 rw [jX,MJ]
 cases h1:ji a b with
 |true=>rw [JG h1];rfl
 |false=>
  cases h2:ji b a with
  |true=>rw [Y3 (fun e=>MP h2 e.symm)];rfl
  |false=>rw [YV (ph h1 h2)];rfl
def KD (x y:TR):Int:=if ji x.m y.m=true then -1 else if ji y.m x.m=true then 1 else 0
theorem Fo (x y:TR) (w:World):Calls Tryz.prog 130 #[.agg #[.string x.m,.bool x.c.neg,.string x.c.bj,.int .i64 x.c.e],.agg #[.string y.m,.bool y.c.neg,.string y.c.bj,.int .i64 y.c.e]] w fun r w'=>r=.returned (.int .i64 (KD x y))∧Below w.heap.size w w':=by
 have hh:=Hp.start w;refine ak (N:=17) (l:=[.agg #[.string x.m,.bool x.c.neg,.string x.c.bj,.int .i64 x.c.e],.agg #[.string y.m,.bool y.c.neg,.string y.c.bj,.int .i64 y.c.e]]) Tryz.func130 rfl rfl (by simp) ?_;refine sr ?_;refine cu hh [_,_,_,_] ?_;intro b2 w2 hh;refine cu hh [_,_,_,_] ?_;intro b3 w3 hh;refine wC ?_;refine bG hh 1 ?_;refine bJ ?_;refine bG hh 0 ?_;refine tj rfl rfl Yw ?_;refine aB (aa ?_);rw [jX];unfold KD
 cases h1:ji x.m y.m with
 |true=>
  refine cT (sr (aI (aa (ay (cm (aN ?_))))));refine dh ?_;exact ⟨rfl,hh.below⟩
 |false=>
  refine cF (sr (bJ ?_));refine bG hh 1 ?_;refine bJ ?_;refine bG hh 0 ?_;refine J1 rfl rfl Yw ?_;refine aB (aa ?_);rw [Ol]
  cases h2:ji y.m x.m with
  |true=>
   refine cT (sr (aI (aa (ay (cm (aN ?_))))));refine dh ?_;exact ⟨rfl,hh.below⟩
  |false=>
   refine cF (au (bM (aj (sr (aI (aa (ay ?_)))))));refine dh ?_;exact ⟨rfl,hh.below⟩
theorem Kc (x y:TR) (k:Nat) (w:World) (hT:e8 w) (hx:x.c.ok∧Sz k x.c.d) (hy:y.c.ok∧Sz k y.c.d) (hk:k≤3999980):Calls Tryz.prog 131 #[.agg #[.string x.m,.bool x.c.neg,.string x.c.bj,.int .i64 x.c.e],.agg #[.string y.m,.bool y.c.neg,.string y.c.bj,.int .i64 y.c.e]] w fun r w'=>r=.returned (.agg #[.string x.m,.bool (nR (x.c.d+y.c.d)).neg,.string (nR (x.c.d+y.c.d)).bj,.int .i64 (nR (x.c.d+y.c.d)).e])∧Below w.heap.size w w':=by
 have hh:=Hp.start w;have hsum:=fun A cc w1 hT1 hS1=>jM A 2 cc [x.c,y.c] w1 hT1 hS1 (by simpa using ⟨hx.1,hy.1⟩) k (by simpa using ⟨hx.2,hy.2⟩) Yv;rw [show oK ([x.c,y.c].map NR.d)=x.c.d+y.c.d by simp only [Y1,Zp,mA]] at hsum;refine ak (N:=14) (l:=[.agg #[.string x.m,.bool x.c.neg,.string x.c.bj,.int .i64 x.c.e],.agg #[.string y.m,.bool y.c.neg,.string y.c.bj,.int .i64 y.c.e]]) Tryz.func131 rfl rfl (by simp) ?_;refine sr ?_;refine cu hh [_,_,_,_] ?_;intro b2 w2 hh;refine cu hh [_,_,_,_] ?_;intro b3 w3 hh;refine bW hh ?_;intro b4 w4 hh;refine aa (ai ?_);refine aW 8 [[(2,none)],[(5,some 0)],[(2,none)],[(7,some 2)],[(3,none)],[(9,some 4)],[(8,some 3),(10,some 5)],[(11,some 6)]] [(7,12),(6,11),(5,10),(4,9),(3,8),(2,7),(1,6),(0,5)] hh mixed Yx ?_;refine cX ?_;refine dT 2 ?_;refine cX ?_;refine ef 2 [_,_,_] ?_;refine cX ?_;refine ef 1 [_,_,_] ?_;refine pL [_,_,_,_,_,_] ?_;refine aO (i:=7) (Is (.agg #[.bool (nR (x.c.d+y.c.d)).neg,.string (nR (x.c.d+y.c.d)).bj,.int .i64 (nR (x.c.d+y.c.d)).e])) Is.ext ?_ ?_
 ·intro ρ1 w1 hj hR;obtain ⟨A11,c11,h11,s11⟩:=hR.1;exact bk rfl (aV aw.out (az h11 bf)) (hsum A11 c11 _ (hT.hp hj.hp) s11) (fun _ _ hq=>⟨_,hq.1,hq.2,rfl⟩)
 refine aM ?_;intro f W hJ hV;have hb_1:=hJ.bl;obtain ⟨v12,v11,v10,v9,v8,v7,v6,v5,_⟩:=hV;obtain ⟨A11,c11,e11,f11⟩:Rows _ _ _ (f 6) W:=v11;replace hh:=hJ.hp;refine aQ (bg (ae v12 (ae e11 (ae v10 (ae v9 (ae v8 (ae v7 (ae v6 (ae v5 aR))))))))) ?_;dsimp only [bO];clear e11 hJ;refine fH [_,_,_,_] ?_;refine bV hh 0 [_,_,_,_] ?_;intro ws hh;replace hh:Hp _ (.blk _ _ [_,_,_,_] _::_) _:=hh;refine aa (ay ?_);refine NJ (er rfl (ew (vs:=[_,_,_,_]) aU.out (hh.cn (i:=0) (n:=4) rfl rfl) rfl) fF) ?_;exact ⟨rfl,hh.below⟩
variable {N:Nat}{w:World}{ρ:Rf}
theorem dz {Q:Kq}{L:Array Bool}{i d:Nat}{op:Op}{ty:TypeId}{af:Array Edge}{v:Value} (hq:NP Q) (hi:ops[i]?=some ⟨some d,op,ty,pos,af,none⟩) (hs:Region.noSelect ops=true) (hf:Region.free .any ops L i=true) (hr:(Region.ready .any ops L).contains i=true)
  (hv:∀w,(execOp (ev ρ) ⟨some d,op,ty,pos,af,none⟩).run P w=.ok (.value v) w) (hN:d<N) (h:WA P N ops Q fuel (L.setIfInBounds i true) (cY ρ d v) w):WA P N ops Q (fuel+1) L ρ w:=
 ⟨fun a hfit=>wpAny_first hi (Region.noSelect_spec hs) (fun c a w ⟨ρ',_,hq'⟩=>(hq c ρ' w hq').elim) fuel L a w (Region.free_spec hi hf) (by simpa using hr) (.inl ⟨by simp [Region.wanted],fun w=>by rw [hfit.eval];exact hv w⟩) (h.out _ (hfit.put hN v))⟩
variable {c:Nat}
theorem Sl.tail {A:Option Addr}{x:TR}{X:List TR} (h:Sl w A n 4 (aD TR.cells (x::X))) (h0:0<n) (hc:n≤c):Sl w (if c=1 then A else A.map (·.add (1*4))) (n-1) 4 (aD TR.cells X):=by
 have:=h.back (l:=1) Yv hc;rw [show (aD TR.cells (x::X)).drop (1*4)=aD TR.cells X from hZ TR.len (x::X) 1] at this;exact this
theorem rN (A:Option Addr) (n c:Nat) (xs:List TR) (B:Option Addr) (m c2:Nat) (ys:List TR) (k:Nat) (w:World) (hT:e8 w) (hS:Sl w A n 4 (aD TR.cells xs)) (hS2:Sl w B m 4 (aD TR.cells ys)) (hc:n≤c) (hc2:m≤c2) (hn:n≤1000000) (hm:m≤1000000) (hk:k≤3999980)
  (rx:ux xs) (ry:ux ys) (ox:ja k xs) (oy:ja k ys):
  Calls Tryz.prog 129 #[.slice A n c,.slice B m c2,.func (.func 130) #[] #[],.func (.func 131) #[] #[]] w fun r w'=>∃(L:List TR) (A':Option Addr) (c':Nat),MD (k+1) (xs++ys) L∧r=.returned (.slice A' L.length c')∧Hp w [.row A' L.length c' 80 4 (aD TR.cells L)] w':=by
 have hh:=Hp.start w;have hlx:=hS.bh TR.len Yw;have hly:=hS2.bh TR.len Yw;have hnx:xs.length≤1000000:=Yv;have hny:ys.length≤1000000:=Yv;refine ak (N:=75) (l:=[.slice A n c,.slice B m c2,.func (.func 130) #[] #[],.func (.func 131) #[] #[]]) Tryz.func129 rfl rfl (by simp) ?_;refine sr (aL (aa (sr (mL (aK (mL (aK ?_)))))));refine bm ?_;refine PT (n:=(n+m)) hh rfl rfl Yv Yv bo.out aU.out Yv Yv Yw ?_;intro b16 w16 hh;refine aL (aa (ai (av ?_)));refine Dp [0,1,9,10,17,18,19,20,21,22,23,24,25,26,27,28,29,30,31,32,33,34,35,36,37,38,39,40,41,42,43,44,45,46,47,48,49,50,51,52,53,54,55,56,57,58,59,60,61,62,63,64,65,66,67,68,69] 0 1 9
  (fun va vb vo w'=>∃(A:Option Addr) (n c:Nat) (X:List TR) (B:Option Addr) (m c2:Nat) (Y:List TR) (O:List TR) (C:Option Addr) (co:Nat),va=.slice A n c∧vb=.slice B m c2∧vo=.slice C O.length co∧n≤c∧m≤c2∧Sl w A n 4 (aD TR.cells X)∧Sl w B m 4 (aD TR.cells Y)∧Mg k xs ys O X Y∧Hp w [.row C O.length co 80 4 (aD TR.cells O)] w')
  (fun va vb _ _=>lenOf va+lenOf vb) ?_ ?_
 ·exact ⟨A,n,c,xs,B,m,c2,ys,[],some ⟨b16,0,none⟩,n+m,rfl,rfl,rfl,hc,hc2,hS,hS2,Mg.start rx ry ox oy,hh⟩
 ·clear hh hS hS2 hlx hly hc hc2 hn hm;rintro ρ' va vb vo w' ⟨A,n,c,X,B,m,c2,Y,O,C,co,rfl,rfl,rfl,hc,hc2,hS,hS2,hmg,hh⟩;have hX:=hS.bh TR.len Yw;have hY:=hS2.bh TR.len Yw;have hlen:=hmg.len;have oX:=bD TR.one X;have oY:=bD TR.one Y;by_cases hn:n=0
  ·refine ai (sr (mL (aK ?_)));refine bT (mB ?_);refine gS (gS (gS ?_));refine dX ?_;refine aa (cF (a6 (aH (aH (bB (aj (sr (mL (mL ?_)))))))));refine cd hh (i:=0) rfl rfl rfl (hS.ext hh.below) bo.out aU.out rfl Yw ?one5 Yv Yv Yw ?kk5
   case one5=>first|rfl|assumption|exact br _|exact oneCells_u8s _
   intro A72 c72 w72 hh;simp only [YM] at hh;refine mL ?_;refine cd hh (i:=0) rfl rfl rfl (hS2.ext hh.below) bo.out aU.out rfl Yw ?one6 Yv Yv Yw ?kk6
   case one6=>first|rfl|assumption|exact br _|exact oneCells_u8s _
   intro A74 c74 w74 hh;simp only [YM] at hh;refine aL (aa (ay ?_));refine dh ?_;have hd:=hmg.done (.inl (ZO Yv));exact VO
  ·by_cases hm:m=0
   ·refine ai (sr (mL (aK ?_)));refine xR ?_;refine bT ?_;refine fG ?_;refine aa (cF (a6 (aH (aH (bB (aj (sr (mL (mL ?_)))))))));refine cd hh (i:=0) rfl rfl rfl (hS.ext hh.below) bo.out aU.out rfl Yw ?one7 Yv Yv Yw ?kk7
    case one7=>first|rfl|assumption|exact br _|exact oneCells_u8s _
    intro A72 c72 w72 hh;simp only [YM] at hh;refine mL ?_;refine cd hh (i:=0) rfl rfl rfl (hS2.ext hh.below) bo.out aU.out rfl Yw ?one8 Yv Yv Yw ?kk8
    case one8=>first|rfl|assumption|exact br _|exact oneCells_u8s _
    intro A74 c74 w74 hh;simp only [YM] at hh;refine aL (aa (ay ?_));refine dh ?_;have hd:=hmg.done (.inr (ZO Yv));exact VO
   ·obtain ⟨x,X,rfl⟩:∃x X',X=x::X':=by cases X with
     |nil=>exact absurd hX.symm hn
     |cons x X'=>exact ⟨x,X',rfl⟩
    obtain ⟨y,Y,rfl⟩:∃y Y',Y=y::Y':=by cases Y with
     |nil=>exact absurd hY.symm hm
     |cons y Y'=>exact ⟨y,Y',rfl⟩
    obtain ⟨ad,rfl,hr⟩:=hS.at_ Yv;obtain ⟨ad2,rfl,hr2⟩:=hS2.at_ Yv;have hxx:(x::X)[0]?=some x:=rfl;have hyy:(y::Y)[0]?=some y:=rfl;have hSt:=hS.tail Yv hc;have hSt2:=hS2.tail Yv hc2;have hsd:=fun w1=>Fo x y w1;unfold KD at hsd
    cases h1:ji x.m y.m with
    |true=>
     rw [h1,YA rfl] at hsd;refine ai (sr (mL (aK ?_)));refine xR ?_;refine bT ?_;refine fG ?_;refine aa (cT (au (aj (av (ai ?_)))));refine LP ?_;refine PB ?_;refine eQ ?_;refine jA (0) ?_;refine nF [_,_,_,_] (fun _ hj=>(hr.ext hj.hp.below).recAt TR.len hxx) ?_;refine eQ ?_;refine jA (0) ?_;refine nF [_,_,_,_] (fun _ hj=>(hr2.ext hj.hp.below).recAt TR.len hyy) ?_;refine aM ?_;intro f W hJ hV;have hb_3:=hJ.bl;obtain ⟨v31,v30,v29,v28,v27,v26,v25,_⟩:=hV;replace hh:=hJ.hp;refine NQ ?_;dsimp only [bO];clear hJ;refine hH (hsd _) aw.out rfl rfl Yw ?_;rintro e_ w32 ⟨rfl,hb_⟩;refine ⟨_,rfl, ?_⟩;replace hh:=hh.ext hb_;refine aI (aa (av (sr (mI ?_))));refine a8 (aB (aa (cT ?_)));refine rY hh mixed fun w_ hj_=> ?_;replace hh:=hj_.hp;clear hj_;refine dz (i:=6) (by repeat (first|exact cz|refine bU ?_|refine cw ?_|refine np_scope ?_)) rfl Yx Yx Yx (fun _=>fy rfl) Yw ?_;refine dz (i:=7) (by repeat (first|exact cz|refine bU ?_|refine cw ?_|refine np_scope ?_)) rfl Yx Yx Yx (fun _=>gJ (l:=1) bo.out aU.size rfl rfl Yv Yv Yv) Yw ?_
     refine dz (i:=0) (by repeat (first|exact cz|refine bU ?_|refine cw ?_|refine np_scope ?_)) rfl Yx Yx Yx (fun _=>fy rfl) Yw ?_;refine dz (i:=1) (by repeat (first|exact cz|refine bU ?_|refine cw ?_|refine np_scope ?_)) rfl Yx Yx Yx (fun _=>fy rfl) Yw ?_;refine dz (i:=2) (by repeat (first|exact cz|refine bU ?_|refine cw ?_|refine np_scope ?_)) rfl Yx Yx Yx (fun _=>gl (k:=0) bo.out aU.size rfl rfl Yv Yv) Yw ?_;refine gK (i:=3) Yx rfl ?_;refine Ks ?_;refine fJ ?_;refine gK (i:=4) Yx rfl ?_;refine yG ?_;intro b55 w55 hh;refine fJ ?_;refine gK (i:=5) Yx rfl ?_;refine pR ?_;intro A56 c56 w56 hh;simp only [YM,Zg] at hh;replace hh:=hh.sub (Zi _ _);refine fJ ?_;refine lV 8 Yw Yx Yw Yx Yx ?_;refine aL (aL (aE (bM (bM (aj ?_)))));replace hh:=hh.sub (YC _ Y5);refine ⟨⟨_,n-1,c-1,X,some ad2,m,c2,y::Y,O++[x],A56,c56,rfl,rfl, ?_,Yv,hc2,hSt,hS2,hmg.left h1, ?_⟩,by show (n-1)+m<n+m;omega, ?_⟩
     ·show Value.slice _ (O.length+1) _=Value.slice _ (O++[x]).length _;rw [YK]
      rfl
     ·rw [YK,bZ];exact hh
     ·exact dO
    |false=>
     cases h2:ji y.m x.m with
     |true=>
      rw [h1,h2,YB Yw,YA rfl] at hsd;refine ai (sr (mL (aK ?_)));refine xR ?_;refine bT ?_;refine fG ?_;refine aa (cT (au (aj (av (ai ?_)))));refine LP ?_;refine PB ?_;refine eQ ?_;refine jA (0) ?_;refine nF [_,_,_,_] (fun _ hj=>(hr.ext hj.hp.below).recAt TR.len hxx) ?_;refine eQ ?_;refine jA (0) ?_;refine nF [_,_,_,_] (fun _ hj=>(hr2.ext hj.hp.below).recAt TR.len hyy) ?_;refine aM ?_;intro f W hJ hV;have hb_3:=hJ.bl;obtain ⟨v31,v30,v29,v28,v27,v26,v25,_⟩:=hV;replace hh:=hJ.hp;refine NQ ?_;dsimp only [bO];clear hJ;refine hH (hsd _) aw.out rfl rfl Yw ?_;rintro e_ w32 ⟨rfl,hb_⟩;refine ⟨_,rfl, ?_⟩;replace hh:=hh.ext hb_;refine aI (aa (av (sr (mI ?_))));refine a8 (aB (aa (cF (sr (mI ?_)))));refine bT (aB (aa (cT ?_)));refine rY hh mixed fun w_ hj_=> ?_;replace hh:=hj_.hp;clear hj_;refine dz (i:=6) (by repeat (first|exact cz|refine bU ?_|refine cw ?_|refine np_scope ?_)) rfl Yx Yx Yx (fun _=>fy rfl) Yw ?_;refine dz (i:=7) (by repeat (first|exact cz|refine bU ?_|refine cw ?_|refine np_scope ?_)) rfl Yx Yx Yx (fun _=>gJ (l:=1) bo.out aU.size rfl rfl Yv Yv Yv) Yw ?_
      refine dz (i:=0) (by repeat (first|exact cz|refine bU ?_|refine cw ?_|refine np_scope ?_)) rfl Yx Yx Yx (fun _=>fy rfl) Yw ?_;refine dz (i:=1) (by repeat (first|exact cz|refine bU ?_|refine cw ?_|refine np_scope ?_)) rfl Yx Yx Yx (fun _=>fy rfl) Yw ?_;refine dz (i:=2) (by repeat (first|exact cz|refine bU ?_|refine cw ?_|refine np_scope ?_)) rfl Yx Yx Yx (fun _=>gl (k:=0) bo.out aU.size rfl rfl Yv Yv) Yw ?_;refine gK (i:=3) Yx rfl ?_;refine Lk ?_;refine fJ ?_;refine gK (i:=4) Yx rfl ?_;refine yG ?_;intro b66 w66 hh;refine fJ ?_;refine gK (i:=5) Yx rfl ?_;refine pR ?_;intro A67 c67 w67 hh;simp only [YM,Zg] at hh;replace hh:=hh.sub (Zi _ _);refine fJ ?_;refine lV 8 Yw Yx Yw Yx Yx ?_;refine aL (aL (aE (bM (bM (aj ?_)))));replace hh:=hh.sub (YC _ Y5);refine ⟨⟨some ad,n,c,x::X,_,m-1,c2-1,Y,O++[y],A67,c67,rfl,rfl, ?_,hc,Yv,hS,hSt2,hmg.right h2, ?_⟩,by show n+(m-1)<n+m;omega, ?_⟩
      ·show Value.slice _ (O.length+1) _=Value.slice _ (O++[y]).length _;rw [YK]
       rfl
      ·rw [YK,bZ];exact hh
      ·exact dO
     |false=>
      rw [h1,h2,YB Yw,YB Yw] at hsd;have hsm:=fun w1 hT1=>Kc x y k w1 hT1 (hmg.ox x YL) (hmg.oy y YL) hk;refine ai (sr (mL (aK ?_)));refine xR ?_;refine bT ?_;refine fG ?_;refine aa (cT (au (aj (av (ai ?_)))));refine LP ?_;refine PB ?_;refine eQ ?_;refine jA (0) ?_;refine nF [_,_,_,_] (fun _ hj=>(hr.ext hj.hp.below).recAt TR.len hxx) ?_;refine eQ ?_;refine jA (0) ?_;refine nF [_,_,_,_] (fun _ hj=>(hr2.ext hj.hp.below).recAt TR.len hyy) ?_;refine aM ?_;intro f W hJ hV;have hb_3:=hJ.bl;obtain ⟨v31,v30,v29,v28,v27,v26,v25,_⟩:=hV;replace hh:=hJ.hp;refine NQ ?_;dsimp only [bO];clear hJ;refine hH (hsd _) aw.out rfl rfl Yw ?_;rintro e_ w32 ⟨rfl,hb_⟩;refine ⟨_,rfl, ?_⟩;replace hh:=hh.ext hb_;refine aI (aa (av (sr (mI ?_))));refine a8 (aB (aa (cF (sr (mI ?_)))));refine bT (aB (aa (cF ?_)));refine rY hh mixed fun w_ hj_=> ?_;replace hh:=hj_.hp;clear hj_;refine dz (i:=11) (by repeat (first|exact cz|refine bU ?_|refine cw ?_|refine np_scope ?_)) rfl Yx Yx Yx (fun _=>fy rfl) Yw ?_
      refine dz (i:=12) (by repeat (first|exact cz|refine bU ?_|refine cw ?_|refine np_scope ?_)) rfl Yx Yx Yx (fun _=>gJ (l:=1) bo.out aU.size rfl rfl Yv Yv Yv) Yw ?_;refine dz (i:=13) (by repeat (first|exact cz|refine bU ?_|refine cw ?_|refine np_scope ?_)) rfl Yx Yx Yx (fun _=>fy rfl) Yw ?_;refine dz (i:=14) (by repeat (first|exact cz|refine bU ?_|refine cw ?_|refine np_scope ?_)) rfl Yx Yx Yx (fun _=>gJ (l:=1) bo.out aU.size rfl rfl Yv Yv Yv) Yw ?_;refine dz (i:=0) (by repeat (first|exact cz|refine bU ?_|refine cw ?_|refine np_scope ?_)) rfl Yx Yx Yx (fun _=>fy rfl) Yw ?_;refine dz (i:=1) (by repeat (first|exact cz|refine bU ?_|refine cw ?_|refine np_scope ?_)) rfl Yx Yx Yx (fun _=>fy rfl) Yw ?_;refine dz (i:=2) (by repeat (first|exact cz|refine bU ?_|refine cw ?_|refine np_scope ?_)) rfl Yx Yx Yx (fun _=>fy rfl) Yw ?_;refine dz (i:=3) (by repeat (first|exact cz|refine bU ?_|refine cw ?_|refine np_scope ?_)) rfl Yx Yx Yx (fun _=>gl (k:=0) bo.out aU.size rfl rfl Yv Yv) Yw ?_
      refine dz (i:=5) (by repeat (first|exact cz|refine bU ?_|refine cw ?_|refine np_scope ?_)) rfl Yx Yx Yx (fun _=>fy rfl) Yw ?_;refine dz (i:=6) (by repeat (first|exact cz|refine bU ?_|refine cw ?_|refine np_scope ?_)) rfl Yx Yx Yx (fun _=>gl (k:=0) bo.out aU.size rfl rfl Yv Yv) Yw ?_;refine u3 (i:=4) (i2:=7) Yx rfl rfl ?_ ?_
      ·refine Ks ?_;refine fJ ?_;refine gK (i:=7) Yx rfl ?_;refine Lk ?_;exact Sj
      ·refine Lk ?_;refine fJ ?_;refine gK (i:=4) Yx rfl ?_;refine Ks ?_;exact Sj
variable {c':Nat}{fz:Nat×Nat}{t':TypeId}{w' w0 w1:World}
section
variable {ro:Mode}
theorem qw {b':Nat}{t:TypeId}{sz:Nat}{A:Option Addr}{xs:List Value} (h:w.ownsRow b t sz (.slice A n c) n xs) (hb:b'≤b):w.ownsRow b' t sz (.slice A n c) n xs:=
 ⟨h.1,h.2.imp id fun ⟨g,cap,cur,h1,h2,h3⟩=>⟨g,cap,cur,h1,Y2 hb h2,h3⟩⟩
theorem nY {b':Nat}{x:HE} (h:x.holds b w) (hb:b'≤b):x.holds b' w:=by
 cases x with
 |blk b t cs fz=>exact ⟨Y2 hb h.1,h.2⟩
 |row A n c t sz xs=>exact qw h hb
 |ob b o=>exact ⟨Y2 hb h.1,h.2⟩
theorem Hp.perm {H H':List HE} (h:Hp w0 H w) (hp:H.Perm H'):Hp w0 H' w:=
 ⟨h.below,fun x hx=>h.own x (hp.mem_iff.2 hx),(hp.filterMap _).nodup_iff.1 h.nd⟩
theorem Hp.dJ {H:List HE} (h:Hp w0 H w) {i sz:Nat}{A:Option Addr}{t:TypeId}{xs:List Value} (hi:H[i]?=some (.row A n c t sz xs)):n≤c:=by
 have h1:w.ownsRow w0.heap.size t sz (.slice A n c) n xs:=h.at_ hi
 rcases h1.2 with ⟨_,h3⟩|⟨g,cap,cur,h2,_,_,h5,_⟩
 ·omega
 ·injection h2 with _ _ e3
  omega
theorem Hp.join {H H2:List HE} (h:Hp w0 H w) (h2:Hp w H2 w'):Hp w0 (H2++H) w':=by
 have h':=h.ext h2.below;refine ⟨h'.below,fun x hx=> ?_, ?_⟩
 ·rcases Zb.1 hx with hx|hx
  ·exact nY (h2.own x hx) h.size
  ·exact h'.own x hx
 ·rw [aa1,abm];refine ⟨h2.nd,h.nd,fun a ha b hb hab=> ?_⟩;subst hab;obtain ⟨x,hx,hxa⟩:=ZJ.1 ha;obtain ⟨y,hy,hya⟩:=ZJ.1 hb;have h3:=eA (h2.own x hx) hxa;have h4:=eA (h.own y hy) hya;omega
section
variable {P:Program}{N:Nat}{ops:Array Oper}{Q:Kq}{ρ:Rf}{w w0:World}{rest:List Oper}{H:List HE}{ty:TypeId}{pos:String}{af:Array Edge}
theorem OJ {o:Oper}{v:Value} (hg:o.guard=none) (hd:o.dst=none)
  (hr:(execOp (ev ρ) o).run P w=.ok (.value v) w') (k:WL ro P N ops Q rest ρ w'):WL ro P N ops Q (o::rest) ρ w:=
 ⟨fun hm a hf=>wpList_plain hg fun K hK=>by
  unfold Oper.wp;rw [hf.eval,hr];show K (a.put o.dst v) w';rw [hd];exact hK _ _ (k.nC hm _ hf),
 fun a hf n=>wpListIn_plain hg fun K hK=>by
  refine ⟨fun _ _=>trivial, ?_⟩;rw [hf.eval,mr _ hr (fun _ h=>by cases h)];show K (a.put o.dst v) w';rw [hd];exact hK _ _ (k.kr _ hf n)⟩
theorem D8 {l:List α}{i:Nat}{x:α} (h:l[i]?=some x):l.set i x=l:=by
 obtain ⟨h1,rfl⟩:=YQ.1 h;exact List.set_getElem_self h1
end
abbrev Hp.sz {w0 w:World}{H:List HE} (_:Hp w0 H w):Nat:=w.heap.size
theorem La {A:Option Addr}{sz:Nat}{t:TypeId}{xs:List Value}{cs:Array Value} (h:HE.holds base W (.row A n c t' sz xs)) (h3:W.heap[b]?=some (.cells cs t fz)) (hne:t'≠t):(HE.row A n c t' sz xs).id≠some b:=by
 intro hid
 rcases h.2 with ⟨h1,_⟩|⟨g,cap,cur,h1,_,h4,_⟩
 ·injection h1 with e1
  subst e1
  cases hid
 ·injection h1 with e1
  subst e1;obtain rfl:g=b:=Zl hid;rw [h3] at h4;injection h4 with h4
  injection h4 with _ h5
  exact hne h5.symm
theorem JJ.jH {H L:List HE}{t:TypeId} (hJ:JJ w0 H w W) (hs:Hp w0 H w) (h2:w.heap.size≤b) (h3:W.heap[b]?=some (.cells cs.toArray t (0,0))) (hb:w.heap.size≤w1.heap.size) (hL:Hp w1 L W) (hne:∀x∈L,x.id≠some b):Hp w0 (.blk b t cs (0,0)::(L++H)) W:=by
 have h1:=hs.join (⟨hJ.bl,fun x hx=>nY (hL.own x hx) hb,hL.nd⟩:Hp w L W);refine ⟨h1.below,fun x hx=> ?_, ?_⟩
 ·rcases YS.1 hx with rfl|hx
  ·exact ⟨Y2 hs.size h2,h3,.inr (YE _)⟩
  ·exact h1.own x hx
 ·rw [aap];show (b::(L++H).filterMap HE.id).Nodup;refine aar.2 ⟨fun hm=> ?_,h1.nd⟩;obtain ⟨y,hy,hyb⟩:=ZJ.1 hm
  rcases Zb.1 hy with hy|hy
  ·exact hne y hy hyb
  ·have:=(eA (hs.own y hy) hyb).2;omega
theorem Og {A A':Option Addr}{sz n' sz':Nat}{t:TypeId}{xs xs':List Value} (h:HE.holds base W (.row A n c t sz xs)) (h':HE.holds base W (.row A' n' c' t' sz' xs')) (hne:t≠t') (b:Nat) (h1:(HE.row A n c t sz xs).id=some b):(HE.row A' n' c' t' sz' xs').id≠some b:=by
 rcases h.2 with ⟨h2,_⟩|⟨g,cap,cur,h2,_,h4,_⟩
 ·injection h2 with e1
  subst e1
  cases h1
 ·injection h2 with e1
  subst e1;obtain rfl:g=b:=Zl h1;exact La h' h4 (fun e=>hne e.symm)
def J5 (base:Nat) (t:TypeId) (n sz:Nat) (cs:List Value):VP:=fun v W=>∃A c,v=.slice A n c∧W.ownsRow base t sz (.slice A n c) n cs
theorem J5.ext {t:TypeId}{sz:Nat} (v:Value) (w w':World) (h:J5 base t n sz cs v w) (hb:Below w.heap.size w w'):J5 base t n sz cs v w':=let ⟨A,c,h1,h2⟩:=h;⟨A,c,h1,qy h2 hb⟩
def Xu (base:Nat) (t1 t2:TypeId) (n1 s1 n2 s2:Nat) (xs1 xs2:List Value):VP:=fun v W=>∃A c B k,v=.agg #[.slice A n1 c,.slice B n2 k]∧W.ownsRow base t1 s1 (.slice A n1 c) n1 xs1∧W.ownsRow base t2 s2 (.slice B n2 k) n2 xs2
end
structure RX where
 A:Option Addr
 n:Nat
 c:Nat
 ts:List TR
def l9 (k:Nat) (l:List TR):VP:=fun v W=>∃g:RX,v=.slice g.A g.n g.c∧(g.n≤g.c∧g.ts.length=g.n∧MD k l g.ts∧Sl W g.A g.n 4 (aD TR.cells g.ts))
theorem l9.ext (v:Value) (w w':World) (h:l9 k l v w) (hb:Below w.heap.size w w'):l9 k l v w':=let ⟨g,h1,h2,h3,h4,h5⟩:=h;⟨g,h1,h2,h3,h4,h5.ext hb⟩
theorem MD.Ni {k1 k2:Nat}{l1 l2 L1 L2 L:List TR} (h1:MD k1 l1 L1) (h2:MD k2 l2 L2) (h:MD k (L1++L2) L) (hk:k≤j):MD j (l1++l2) L:=
 ⟨h.sO,fun m=>by rw [h.co,fM,h1.co,h2.co,fM],by have a:=h.len;have b:=h1.len;have c:=h2.len;rw [YK] at a ⊢;omega,h.ok.mono hk,fun t ht=>by
  obtain ⟨s,hs,e⟩:=h.mem t ht
  rcases Zb.1 hs with hs|hs
  ·obtain ⟨u,hu,e2⟩:=h1.mem s hs;exact ⟨u,aan _ hu,e2.trans e⟩
  ·obtain ⟨u,hu,e2⟩:=h2.mem s hs;exact ⟨u,Z5 _ hu,e2.trans e⟩⟩
theorem nG (k:Nat):∀(N:Nat) (A:Option Addr) (n c:Nat) (l:List TR) (w:World),n≤N→e8 w→Sl w A n 4 (aD TR.cells l)→n≤c→n≤1000000→k+n≤3999980→ja k l→
  Calls Tryz.prog 174 #[.slice A n c,.func (.func 130) #[] #[],.func (.func 131) #[] #[]] w fun r w'=>(n<2∧r=.returned (.slice A n c)∧Below w.heap.size w w')∨(2≤n∧∃(L:List TR) (A':Option Addr) (c':Nat),MD (k+n) l L∧r=.returned (.slice A' L.length c')∧Hp w [.row A' L.length c' 80 4 (aD TR.cells L)] w')
 |0,A,n,c,l,w,hN,hT,hS,hc,hn,hk,hok=>by
  have hh:=Hp.start w;obtain rfl:n=0:=Yv;refine ak (N:=30) (l:=[.slice A 0 c,.func (.func 130) #[] #[],.func (.func 131) #[] #[]]) Tryz.func174 rfl rfl (by simp) ?_;refine sr (aL (aa (ai (sr (mL (aK ?_))))));refine a8 (aa (cT (sr (mL (aL (aa (ay (aN ?_))))))));refine dh ?_;exact .inl ⟨Yv,rfl,hh.below⟩
 |N+1,A,n,c,l,w,hN,hT,hS,hc,hn,hk,hok=>by
  have hh:=Hp.start w;have hl:=hS.bh TR.len Yw;by_cases h2:n<2
  ·refine ak (N:=30) (l:=[.slice A n c,.func (.func 130) #[] #[],.func (.func 131) #[] #[]]) Tryz.func174 rfl rfl (by simp) ?_;refine sr (aL (aa (ai (sr (mL (aK ?_))))));refine a8 (aa (cT (sr (mL (aL (aa (ay (aN ?_))))))));refine dh ?_;exact .inl ⟨h2,rfl,hh.below⟩
  ·obtain ⟨h,hhalf⟩:∃h,h=n/2:=⟨_,rfl⟩;have hh1:1≤h:=Yv;have hh2:h+h≤n:=Yv;have hh3:n≤h+h+1:=Yv;have hq:((n:Int))/2=(h:Int):=Yv;have hS1:=hS.front (m:=h) Yv;rw [show (aD TR.cells l).take (h*4)=aD TR.cells (l.take h) from jO TR.len l h] at hS1;have hS2:=hS.back (l:=h) Yv hc;rw [show (aD TR.cells l).drop (h*4)=aD TR.cells (l.drop h) from hZ TR.len l h] at hS2;have o1:ja k (l.take h):=fun t ht=>hok t (aau ht);have o2:ja k (l.drop h):=fun t ht=>hok t (abC ht);have rd:∀{A':Option Addr}{n' c':Nat}{l':List TR}{r:Ending}{w1 w':World},Sl w1 A' n' 4 (aD TR.cells l')→n'≤c'→ja k l'→((n'<2∧r=.returned (.slice A' n' c')∧Below w1.heap.size w1 w')∨(2≤n'∧∃(L:List TR) (B:Option Addr) (b:Nat),MD (k+n') l' L∧r=.returned (.slice B L.length b)∧Hp w1 [.row B L.length b 80 4 (aD TR.cells L)] w'))→∃v,r=.returned v∧Below w1.heap.size w1 w'∧l9 (k+n') l' v w':=by
    rintro A' n' c' l' r w1 w' hs hc' ho (⟨h1,rfl,hb⟩|⟨h1,L,B,b,hm,rfl,h3⟩)
    ·have e:=hs.bh TR.len Yw;exact ⟨_,rfl,hb,⟨A',n',c',l'⟩,rfl,hc',e,(MD.self (zz Yv) ho).mono Yv,hs.ext hb⟩
    ·exact ⟨_,rfl,h3.below,⟨B,L.length,b,L⟩,rfl,h3.dJ (i:=0) rfl,rfl,hm,h3.aG (i:=0) rfl⟩
   have ih1:=fun w1 (hT1:e8 w1) (hb:Below w.heap.size w w1)=>nG k N A h c (l.take h) w1 Yv hT1 (hS1.ext hb) Yv Yv Yv o1;have ih2:=fun w1 (hT1:e8 w1) (hb:Below w.heap.size w w1)=>nG k N _ (n-h) (c-h) (l.drop h) w1 Yv hT1 (hS2.ext hb) Yv Yv Yv o2;refine ak (N:=30) (l:=[.slice A n c,.func (.func 130) #[] #[],.func (.func 131) #[] #[]]) Tryz.func174 rfl rfl (by simp) ?_;refine sr (aL (aa (ai (sr (mL (aK ?_))))));refine a8 (aa (cF (au (aj (sr (mL (aK ?_)))))));refine qd ?_;refine aI (aa (ai ?_));rw [hq];refine aW 14 [[(0,none)],[(7,none)],[(15,some 0),(16,some 1)],[(1,none)],[(2,none)],[(17,some 2),(18,some 3),(19,some 4)],[(0,none)],[(7,none)],[(21,some 6),(22,some 7)],[(1,none)],[(2,none)],[(23,some 8),(24,some 9),(25,some 10)],[(1,none)],[(2,none)]] [(13,28),(12,27),(11,26),(10,25),(9,24),(8,23),(7,22),(6,21),(5,20),(4,19),(3,18),(2,17),(1,16),(0,15)] hh mixed Yx ?_;refine eQ ?_;refine cZ ?_;refine bu (i:=2) (fun ρ1 w1 hj hR=>CN (h:=h) bo.out aU.size (show ρ1 15=Value.slice _ _ _ from hR.1) (show ρ1 16=Value.int _ _ from hR.2.1) Yv Yv) ?_;refine PB ?_;refine PB ?_
   refine aO (i:=5) (l9 (k+h) (l.take h)) (l9.ext) ?_ ?_
   ·intro ρ1 w1 hj hR;exact bk rfl (aV aw.out (az (show ρ1 17=Value.slice _ _ _ from hR.1) (az (show ρ1 18=Value.func _ _ _ from hR.2.1) (az (show ρ1 19=Value.func _ _ _ from hR.2.2.1) bf)))) (ih1 w1 (hT.hp hj.hp) hj.hp.below) (fun _ _ hq=>rd (hS1.ext hj.hp.below) Yv o1 hq)
   refine eQ ?_;refine cZ ?_;refine bu (i:=8) (fun ρ1 w1 hj hR=>gJ (l:=h) bo.out aU.size (show ρ1 21=Value.slice _ _ _ from hR.1) (show ρ1 22=Value.int _ _ from hR.2.1) Yv Yv Yv) ?_;refine PB ?_;refine PB ?_;refine aO (i:=11) (l9 (k+(n-h)) (l.drop h)) (l9.ext) ?_ ?_
   ·intro ρ1 w1 hj hR;exact bk rfl (aV aw.out (az (show ρ1 23=Value.slice _ _ _ from hR.1) (az (show ρ1 24=Value.func _ _ _ from hR.2.1) (az (show ρ1 25=Value.func _ _ _ from hR.2.2.1) bf)))) (ih2 w1 (hT.hp hj.hp) hj.hp.below) (fun _ _ hq=>rd (hS2.ext hj.hp.below) Yv o2 hq)
   refine PB ?_;refine PB ?_;refine aM ?_;intro f W hJ hV;have hb_4:=hJ.bl;obtain ⟨v28,v27,v26,v25,v24,v23,v22,v21,v20,v19,v18,v17,v16,v15,_⟩:=hV;obtain ⟨g20,e20,o20⟩:l9 (k+h) (l.take h) (f 5) W:=v20;obtain ⟨g26,e26,o26⟩:l9 (k+(n-h)) (l.drop h) (f 11) W:=v26;replace hh:=hJ.hp;refine aQ (bg (ae v28 (ae v27 (ae e26 (ae v25 (ae v24 (ae v23 (ae v22 (ae v21 (ae e20 (ae v19 (ae v18 (ae v17 (ae v16 (ae v15 aR))))))))))))))) ?_;dsimp only [bO];clear e20 e26 hJ;obtain ⟨p1,p2,p3,p4⟩:=o20;obtain ⟨q1,q2,q3,q4⟩:=o26;have l1:=p3.len;have l2:=q3.len;rw [YW] at l1;rw [ZM] at l2;refine aJ (rN g20.A g20.n g20.c g20.ts g26.A g26.n g26.c g26.ts (k+(n-h)) _ (hT.hp hh) p4 q4 p1 q1 Yv Yv Yv p3.sO q3.sO (p3.ok.mono Yv) (q3.ok.mono Yv)) aw.out rfl Yw ?_;rintro e_ w29 ⟨L,A',c',hm,rfl,h3⟩;refine ⟨_,rfl, ?_⟩;replace hh:=hh.join h3;refine aL (aa (ay ?_));refine dh ?_;refine .inr ⟨Yv,L,A',c', ?_,rfl,hh⟩;have:=p3.Ni q3 hm (j:=k+n) Yv;rwa [Zv] at this
variable {o:Nat}
section
variable {ro:Mode}
section
variable {P:Program}{N:Nat}{ops:Array Oper}{Q:Kq}{ρ:Rf}{w w0:World}{rest:List Oper}{H:List HE}{ty d:Nat}{pos:String}{af:Array Edge}
theorem AM (hh:Hp w0 H w) {t e:TypeId}{x:Operand}{i p sz g:Nat}{xs:List Value} (hi:H[i]?=some (.row (some ⟨g,0,none⟩) p c e sz xs)) (hx:ev ρ x=.slice (some ⟨g,o,none⟩) m c') (ho:p*sz≤o) (hom:o+m*sz≤c*sz) (hm:0<m)
  (ht:P.underlying t=some (.slice e)) (hte:dH P e=some (sz,ag,by',zc)) (hzl:zc.length=sz) (h1:(zc.all Value.oneCell')=true)
  (k:∀w',Hp w0 H w'→WL ro P N ops Q rest ρ w'):WL ro P N ops Q (⟨none,.call ⟨.builtin .clear, #[x], #[t]⟩,ty,pos,af,none⟩::rest) ρ w:=by
 obtain ⟨z,hz,hzc⟩:=ek (w:=w) hte;obtain ⟨hlen,h2⟩:=hh.at_ hi
 rcases h2 with ⟨h2,_⟩|⟨g',cap,cur,hv,hg,hheap,hmc,hcm,hcur,htake⟩
 ·cases h2
 ·injection hv with hA hn hcap
  injection hA with hA
  injection hA with hA
  subst hA;subst hcap;have hcl:cur.size=cur.toList.length:=by simp
  have hzr:(gu m zc).length=m*sz:=by rw [nK,hzl]
  have hall:∀v∈gu m zc,v.oneCell'=true:=fun v hv=>by
   obtain ⟨j,hj⟩:=aaj.1 hv;have hj2:=(YQ.1 hj).1;rw [nK] at hj2;rw [Af m zc j hj2] at hj;exact Y6.1 h1 v (YF hj)
  obtain ⟨w',hr,hb',hgr,hs⟩:=iz (P:=P) (b:=g) (t:=e) (fz:=(0,0)) o (gu m zc) 0 cur.toList w (by simpa using hheap) (.inr (YE _)) (by rw [←hcl,hzr];omega) hall;have hset:=D8 hi;refine OJ rfl rfl (w':=w') (v:=.tuple #[]) ?_ (k w' (hset ▸ hh.grown hi hgr (.inl rfl) ⟨hlen,.inr ⟨g,c,(cM cur.toList (o+0) (gu m zc)).toArray,rfl,hg,by simpa using hb',hmc,hcm, ?_, ?_⟩⟩))
  ·simp only [execOp,resolve,invoke,hx,abH,Y1,Zp];have hzz:Builtin.zeroCells z.cells m=(gu m zc).toArray:=by
    rw [Builtin.zeroCells,hzc,abc];exact u5 m zc
   obtain ⟨q,rfl⟩:∃q,m=q+1:=⟨m-1,Yv⟩;simp [builtin,Builtin.clear_,run_underlying ht,hz,hzz,hr]
  ·simp only [abc];rw [gp (by rw [←hcl,hzr];omega),←hcl,hcur]
  ·simp only [cM];rw [Ze,abP (by rw [YW,←hcl];omega),List.take_take,ZB Yv];exact htake
end
end
variable {news:List Value}
section
variable {ro:Mode}
section
variable {P:Program}{N:Nat}{ops:Array Oper}{Q:Kq}{ρ:Rf}{w w0:World}{rest:List Oper}{d:Nat}{ty:TypeId}{pos:String}{af:Array Edge}
theorem AN {t e:TypeId}{s x:Operand}{sz:Nat}{A B:Option Addr} (hs:ev ρ s=.slice A 0 0) (hx:ev ρ x=.slice B m c') (hsl:Sl w B m sz news)
  (ht:P.underlying t=some (.slice e)) (hte:dH P e=some (sz,ag,by',zc)) (hzl:zc.length=sz) (hsz:0<sz) (h1:(news.all Value.oneCell')=true) (h63:m≤maxLen) (hbytes:m*by'≤140737488355328) (hN:d<N)
  (k0:m=0→WL ro P N ops Q rest (cY ρ d (.slice A 0 0)) w)
  (k:∀A' c2 w',0<m→Below w.heap.size w w'→w'.ownsRow w.heap.size e sz (.slice A' m c2) m news→WL ro P N ops Q rest (cY ρ d (.slice A' m c2)) w'):
  WL ro P N ops Q (⟨some d,.call ⟨.builtin .append, #[s,x], #[t,t]⟩,ty,pos,af,none⟩::rest) ρ w:=by
 obtain ⟨i,z,dd,hi,hd,hz,hs2,hby,hzc,_⟩:=ez hte;have h1':∀u∈news,u.oneCell'=true:=fun u hu=>Y6.1 h1 u hu
 rcases aak m with h0|h0
 ·subst h0;have hnews:news=[]:=ZO (by simpa using hsl.1);subst hnews;have hr:(Builtin.append_ #[t,t] ty #[.slice A 0 0,.slice B 0 c']).run P w=.ok (.slice A 0 0) w:=by
   exact UQ
  refine aZ rfl rfl hN ?_ (k0 rfl);exact Sd
 ·obtain ⟨ad,rfl,hr⟩:=hsl.2 h0;have hsrc:Src P i.size t (.slice (some ad) m c') m news w:=Src.ofSlice w ht ad m c' news (by rw [hs2];exact hsl.1) hr h1';have hfit:Builtin.nextslicecap (0+m) 0*i.bytes≤281474976710656:=growslice_fits Yv (by rw [hby,Y0];exact hbytes);have hb63:((0+m:Nat):Int)≤9223372036854775807:=by unfold maxLen at h63;omega
  have hone:∀base2:Option Addr,(Builtin.firstCells i.size 0 (.slice base2 0 0)).run P w.drew=.ok ([]:List Value).toArray w.drew:=fun base2=>by
   exact Uy
  have hA:=run_append_grow_src w t t ty e i z ht hi hz A 0 0 [] (hone _) _ m news hsrc Yv hb63 hfit;have hB:=run_append_grow_src w t t ty e i z ht hi hz none 0 0 [] (hone _) _ m news hsrc Yv hb63 hfit;obtain ⟨A',c2,w',r1,r2,r3,_⟩:=l7 (P:=P) (w:=w) w.heap.size t ty e sz by' ag zc ht hte hzl hsz none 0 0 [] (World.ownsRow_nil w w.heap.size e sz) (some ad) m c' news ⟨hsl.1,fun _=>⟨ad,rfl,hr⟩⟩ h1' Yv (by rw [Y0];exact hbytes) (YE _);rw [hB,←hA] at r1;rw [Y0] at r1 r2;rw [YH] at r2;refine aZ rfl rfl hN ?_ (k A' c2 w' h0 ⟨r3.os,r3.tape,r3.output,r3.size,fun k hk=>r3.block k hk (by simp)⟩ r2);simp only [execOp,resolve,invoke,builtin,Sem.run_bind,Sem.run_pure,Result.andThen_ok,abH,Y1,Zp,hs,hx,r1]
theorem uL {t e u:TypeId}{x y:Operand}{A:Option Addr}{n':Nat} (ht:P.underlying t=some (.slice e)) (hx:ev ρ x=.slice A n c) (hy:ev ρ y=.slice none n' c') (hN:d<N)
  (kk:WL ro P N ops Q rest (cY ρ d (.bool A.isNone)) w):WL ro P N ops Q (⟨some d,.binOp .eql t x y u,ty,pos,af,none⟩::rest) ρ w:=
 aZ rfl rfl hN (by
  have h1:=Go.Lib.run_eql_slice_nil (P:=P) w t e A n c n' c' ht;simp only [execOp,hx,hy];simp [eqGuard,h1]) kk
end
end
variable {Hr:List HE}
theorem vx (A:Option Addr) (n c:Nat) (l:List TR) (g:FuncId) (cap:List Value) (p:TR→Bool) (w:World) (hS:Sl w A n 4 (aD TR.cells l)) (hn:n≤1000000) [aw Tryz.prog g]
  (hg:∀(z:TR) (w1:World),z∈l→Below w.heap.size w w1→Calls Tryz.prog g (.agg #[.string z.m,.bool z.c.neg,.string z.c.bj,.int .i64 z.c.e]::cap).toArray w1 fun r w'=>r=.returned (.bool (p z))∧Below w1.heap.size w1 w'):
  Calls Tryz.prog 176 #[.slice A n c,.func (.func g) #[] cap.toArray] w fun r w'=>∃v,r=.returned (.int .i64 v)∧((l.any p=false∧v= -1)∨∃(i:Nat) (z:TR),i<n∧v=i∧(l.take i).any p=false∧l[i]?=some z∧p z=true)∧Below w.heap.size w w':=by
 have hh:=Hp.start w;have hln:=hS.bh TR.len Yw;refine ak (N:=19) (l:=[.slice A n c,.func (.func g) #[] cap.toArray]) Tryz.func176 rfl rfl (by simp) ?_;refine CW ?_;refine aT [4,5,8,9,10,11,12,13,14,15,16,17,18] 8
  (fun v w'=>∃i:Nat,i≤n∧v=.int .i64 i∧(l.take i).any p=false∧Hp w [] w')
  (fun v _=>n-(intOf v).toNat) ?_ ?_
 ·exact ⟨0,YD _,rfl,rfl,hh⟩
 ·clear hh;rintro ρ' v w' ⟨i,hi,rfl,hall,hh⟩;by_cases hlt:i<n
  ·obtain ⟨z,hz⟩:=ao (l:=l) (k:=i) Yv;obtain ⟨ad,rfl,hr⟩:=hS.at_ Yv;have hc:=fun w1=>hg z w1 (YF hz)
   cases gz:p z with
   |true=>
    rw [gz] at hc;refine sr ?_;refine tF ?_;refine jC ?_;refine mL (mI ?_);refine cE ?_;refine cG (vs:=[_,_,_,_]) aU.out rfl ((hr.ext hh.below).recAt TR.len hz) rfl Yw ?_;refine hH (hc _ hh.below) aw.out rfl rfl Yw ?_;rintro e_ w16 ⟨rfl,hb_⟩;refine ⟨_,rfl, ?_⟩;replace hh:=hh.ext hb_;refine aa (cT (sr (mI (aI (aa (ay (cm (aN (aN (cm (aN ?_)))))))))));refine dh ?_;exact ⟨_,rfl,.inr ⟨i,z,hlt,rfl,hall,hz,gz⟩,hh.below⟩
   |false=>
    rw [gz] at hc;refine sr ?_;refine tF ?_;refine jC ?_;refine mL (mI ?_);refine cE ?_;refine cG (vs:=[_,_,_,_]) aU.out rfl ((hr.ext hh.below).recAt TR.len hz) rfl Yw ?_;exact Gv
  ·rw [YG Yv] at hall;refine sr ?_;refine Iw ?_;refine dh ?_;exact ⟨_,rfl,.inl ⟨hall,rfl⟩,hh.below⟩
theorem Fs (A:Option Addr) (n c:Nat) (l:List TR) (g:FuncId) (cap:List Value) (p:TR→Bool) (w:World) (hS:Sl w A n 4 (aD TR.cells l)) (hn:n≤1000000) [aw Tryz.prog g]
  (hg:∀(z:TR) (w1:World),z∈l→Below w.heap.size w w1→Calls Tryz.prog g (.agg #[.string z.m,.bool z.c.neg,.string z.c.bj,.int .i64 z.c.e]::cap).toArray w1 fun r w'=>r=.returned (.bool (p z))∧Below w1.heap.size w1 w'):
  Calls Tryz.prog 136 #[.slice A n c,.func (.func g) #[] cap.toArray] w fun r w'=>r=.returned (.bool (l.any p))∧Below w.heap.size w w':=by
 have hh:=Hp.start w;refine ak (N:=9) (l:=[.slice A n c,.func (.func g) #[] cap.toArray]) Tryz.func136 rfl rfl (by simp) ?_;refine sr (aB (aa (sr (mL ?_))));refine jC ?_;refine aJ (vx A n c l g cap p _ (hS.ext hh.below) hn hg) aw.out rfl Yw ?_;rintro e_ w7 ⟨v_,rfl,hv_,hb_⟩;refine ⟨_,rfl, ?_⟩;replace hh:=hh.ext hb_
 rcases hv_ with ⟨ha,rfl⟩|⟨i,z,hi,rfl,ht,hz,hp⟩
 ·rw [ha];exact Gw
 ·rw [show l.any p=true from aag.2 ⟨z,YF hz,hp⟩];exact Gw
theorem mR (A:Option Addr) (n c:Nat) (l:List TR) (w:World) (hS:Sl w A n 4 (aD TR.cells l)) (hn:n≤1000000):
  Calls Tryz.prog 138 #[.slice A n c] w fun r w'=>∃A' c',r=.returned (.slice A' n c')∧w'.ownsRow w.heap.size 80 4 (.slice A' n c') n (aD TR.cells l)∧Below w.heap.size w w':=by
 have hh:=Hp.start w;have oX:=bD TR.one l
 rcases A with _|ad
 ·have hn0:n=0:=by
   exact Ur
  subst hn0;have hl:l=[]:=ZO (by have:=hS.bh TR.len Yw;omega);subst hl;refine ak (N:=8) (l:=[.slice none 0 c]) Tryz.func138 rfl rfl (by simp) ?_;exact Ui
 ·refine ak (N:=8) (l:=[.slice (some ad) n c]) Tryz.func138 rfl rfl (by simp) ?_;refine sr (aL (aa (ai (sr (mL ?_)))));refine uL bo.out rfl rfl Yw ?_;refine wc ?_;refine CZ ?_;intro b5 w5 hh;refine mL ?_;refine cd hh (i:=0) rfl rfl rfl (hS.ext hh.below) bo.out aU.out rfl Yw ?one9 Yv Yv Yw ?kk9
  case one9=>first|rfl|assumption|exact br _|exact oneCells_u8s _
  exact Uq
theorem Ce {l:List α}{i:Nat} (h:i<j) (x:α):(l.set i x).drop j=l.drop j:=by
 refine ZN fun k=> ?_;rw [Z6,Z6,aal,YB Yv]
theorem xE {l:List α}{i:Nat} (h:i<l.length) (x:α):(l.set i x).take (i+1)=l.take i++[x]:=by
 rw [aC (show (l.set i x)[i]?=some x by rw [aal,YA rfl,YA h]),List.take_set_of_le (YE _)]
theorem FI (A:Option Addr) (n c:Nat) (l:List TR) (g:FuncId) (p:TR→Bool) (w:World) (hh:Hp w0 (.row A n c 80 4 (aD TR.cells l)::Hr) w) (hl:l.length=n) (hn:n≤1000000) [aw Tryz.prog g]
  (hg:∀(z:TR) (w1:World),z∈l→Calls Tryz.prog g (.agg #[.string z.m,.bool z.c.neg,.string z.c.bj,.int .i64 z.c.e]::[]).toArray w1 fun r w'=>r=.returned (.bool (p z))∧Below w1.heap.size w1 w'):
  Calls Tryz.prog 173 #[.slice A n c,.func (.func g) #[] #[]] w fun r w'=>r=.returned (.slice A (l.filter fun z=> !p z).length c)∧Hp w0 (.row A (l.filter fun z=> !p z).length c 80 4 (aD TR.cells (l.filter fun z=> !p z))::Hr) w':=by
 have hc:=hh.dJ (i:=0) rfl;have hsl:=hh.aG (i:=0) rfl;refine ak (N:=42) (l:=[.slice A n c,.func (.func g) #[] #[]]) Tryz.func173 rfl rfl (by simp) ?_;refine sr (aL (aa (sr (mL ?_))));refine jC ?_;refine aJ (vx A n c l g [] p _ hsl hn (fun z w1 hz _=>hg z w1 hz)) aw.out rfl Yw ?_;rintro e_ w10 ⟨v_,rfl,hv_,hb_⟩;refine ⟨_,rfl, ?_⟩;replace hh:=hh.ext hb_
 rcases hv_ with ⟨ha,rfl⟩|⟨i0,z0,hi0,rfl,ht0,hz0,hp0⟩
 ·have hf:(l.filter fun z=> !p z)=l:=List.filter_eq_self.2 fun z hz=>by
   have:=aaa.1 ha z hz;simpa using this
  rw [hf,hl];refine aI (aa (ai (sr (mI ?_))));refine di (aa (cT (sr (mL (aL (aa (ay (aN ?_))))))));refine dh ?_;exact ⟨rfl,hh⟩
 ·have hf0:((l.take (i0+1)).filter fun z=> !p z)=l.take i0:=by
   rw [aC hz0,aa6,abK (by rw [hp0];decide),List.filter_nil,Y9];exact List.filter_eq_self.2 fun z hz=>by
    have:=aaa.1 ht0 z hz;simpa using this
  obtain ⟨g0,rfl⟩:=hh.cK (i:=0) rfl Yv;refine aI (aa (ai (sr (mI ?_))));refine di (aa (cF (au (aj (ai (sr (mI ?_)))))));refine bm (aI (aa (av ?_)));refine bC [5,6,7,16,17,18,19,20,21,22,23,24,25,26,27,28,29,30,31,32,33,34,35] 5 6
   (fun v5 v6 w'=>∃(i j:Nat) (X:List TR),i<j∧j≤n∧v5=.int .i64 i∧v6=.int .i64 j∧X.length=n∧i=((l.take j).filter fun z=> !p z).length∧X.take i=((l.take j).filter fun z=> !p z)∧X.drop j=l.drop j∧Hp w0 (.row (some ⟨g0,0,none⟩) n c 80 4 (aD TR.cells X)::Hr) w')
   (fun _ v _=>n-(intOf v).toNat) ?_ ?_
  ·exact ⟨i0,i0+1,l,Yv,Yv,rfl,rfl,hl,by rw [hf0,YW];omega,hf0.symm,rfl,hh⟩
  ·clear hh;rintro ρ' v5 v6 w' ⟨i,j,X,hij,hj,rfl,rfl,hX,hi,htk,hdr,hh⟩;by_cases hlt:j<n
   ·obtain ⟨z,hz⟩:=ao (l:=l) (k:=j) Yv;have hXj:X[j]?=some z:=by
     have h1:(X.drop j)[0]?=(l.drop j)[0]?:=by rw [hdr]
     rw [Z6,Z6,aab] at h1;rw [h1,hz]
    have hgz:=fun w1=>hg z w1 (YF hz);have hdr2:X.drop (j+1)=l.drop (j+1):=by rw [←List.drop_drop,←List.drop_drop,hdr]
    have hrl:=eS TR.len X;refine ai (sr (mI (mL (aK ?_))));refine jq ?_;refine nQ ?_;refine cG (vs:=[_,_,_,_]) aU.out rfl (hh.iu (f:=TR.cells) (x:=z) (l:=X) (i:=0) rfl TR.len Yw hXj) rfl Yw ?_;refine bW hh ?_;intro b7 w7 hh;refine bV hh 0 [_,_,_,_] ?_;intro ws hh;replace hh:Hp _ (.blk _ _ [_,_,_,_] _::_) _:=hh;refine aa (sr ?_);refine jC ?_;refine cC hh 0 [_,_,_,_] ?_
    cases hpz:p z with
    |true=>
     rw [hpz] at hgz;have hfl:((l.take (j+1)).filter fun z=> !p z)=((l.take j).filter fun z=> !p z):=by rw [aC hz,aa6,abK (by rw [hpz];decide),List.filter_nil,Y9]
     refine hH (hgz _) aw.out rfl rfl Yw ?_;rintro e_ w28 ⟨rfl,hb_⟩;refine ⟨_,rfl, ?_⟩;replace hh:=hh.ext hb_;refine fV ?_;refine p8 ?_;refine bm (aI (aE (aj ?_)));replace hh:=hh.sub (YI _ (YC _ (ZK _)));refine ⟨⟨i,j+1,X,Yv,Yv,rfl,rfl,hX,by rw [hfl];exact hi,by rw [hfl];exact htk,hdr2,hh⟩,by show n-(j+1)<n-j;omega, ?_⟩;exact dO
    |false=>
     rw [hpz] at hgz;have hfl:((l.take (j+1)).filter fun z=> !p z)=((l.take j).filter fun z=> !p z)++[z]:=by rw [aC hz,aa6,abR (by rw [hpz];decide),List.filter_nil]
     refine hH (hgz _) aw.out rfl rfl Yw ?_;rintro e_ w28 ⟨rfl,hb_⟩;refine ⟨_,rfl, ?_⟩;replace hh:=hh.ext hb_;refine fV ?_;refine aa (cT (sr (mL (mI ?_))));refine cC hh 0 [_,_,_,_] ?_;refine gD ?_;refine cA hh (i:=1) (vs:=[_,_,_,_]) rfl rfl (gy rfl) rfl aU.out rfl Yv rfl ?_;intro ws hh;simp only [YM,Zg] at hh;rw [show cM (aD TR.cells X) (i*4) [.string z.m,.bool z.c.neg,.string z.c.bj,.int .i64 z.c.e]=aD TR.cells (X.set i z) from jZ TR.len Yv] at hh;refine aa (ar (mI ?_));refine bm (aI (aE (bM (aj (ar (mI ?_))))));refine bm (aI (aE (aj ?_)));replace hh:=hh.sub (YI _ (YC _ (ZK _)));refine ⟨⟨i+1,j+1,X.set i z,Yv,Yv,rfl,rfl,by rw [aaX];exact hX,by rw [hfl,YK,←hi];rfl,by rw [hfl,xE Yv,htk],by rw [Ce Yv];exact hdr2,hh⟩,by show n-(j+1)<n-j;omega, ?_⟩;exact dO
   ·obtain rfl:j=n:=Yv;rw [show l.take j=l from YG Yv] at hi htk;have hcap:=hh.dJ (i:=0) rfl;have hp31:(if c=i then some (⟨g0,0,none⟩:Addr) else (some (⟨g0,0,none⟩:Addr)).map (·.add (i*4)))=some ⟨g0,i*4,none⟩:=by
     rw [YB Yv];show some ((⟨g0,0,none⟩:Addr).add (i*4))=_;rw [gh,Y0]
    have htt:(aD TR.cells X).take (i*4)=aD TR.cells (l.filter fun z=> !p z):=by rw [jO TR.len,htk]
    refine ai (sr (mI (mL (aK ?_))));refine a8 (aa (cF (a6 (aH (aH (bB (aj (sr (mL (mI ?_))))))))));refine aZ rfl rfl Yw (jQ (l:=i) (h:=j) bo.out aU.size rfl ⟨_,_,rfl,rfl⟩ rfl Yv Yv) ?_;rw [hp31];replace hh:=hh.E3 (k:=i) Yv;rw [htt] at hh;refine AM hh (i:=0) (o:=i*4) (m:=j-i) rfl rfl Yv Yv Yv bo.out aU.out rfl rfl ?_;intro w38 hh;refine aa (sr (mL (mI ?_)));refine M4 ?_;refine aL (aa (ay ?_));refine dh ?_;rw [←hi];exact ⟨rfl,hh⟩
variable {E:Int}{ts:List TR}
structure PX where
 v:Int
 A:Option Addr
 n:Nat
 c:Nat
 ts:List TR
def PX.row (g:PX):HE:=.row g.A g.n g.c 80 4 (aD TR.cells g.ts)
def PX.at_ (g:PX) (w:World):Prop:=Sl w g.A g.n 4 (aD TR.cells g.ts)
theorem PX.at_.ext {g:PX} (h:g.at_ w) (hb:Below w.heap.size w w'):g.at_ w':=Sl.ext h hb
theorem PX.at_.ln {g:PX} (h:g.at_ w):g.ts.length=g.n:=Sl.bh h TR.len Yw
structure dW (E v:Int) (ts:List TR) (g:PX):Prop where
 v:g.v=if E=0 then v else 0
 ts:g.ts=if E=0 then ts else []
def PX.nil:PX:=⟨0,none,0,0,[]⟩
theorem dW.err {v:Int} (h:E≠0):dW E v ts PX.nil:=⟨by rw [YB h];rfl,by rw [YB h];rfl⟩
theorem Hp.AZ {H:List HE} (h:Hp w0 H w):Hp w0 (PX.nil.row::H) w:=h.cN 80 4
theorem xH (A:Option Addr) (n c:Nat) (l:List TR) (k:Nat) (w:World) (hT:e8 w) (hh:Hp w0 (.row A n c 80 4 (aD TR.cells l)::Hr) w) (hl:l.length=n) (hn:n≤1000000) (hk:k+n≤3999980) (ho:ja k l):
  Calls Tryz.prog 174 #[.slice A n c,.func (.func 130) #[] #[],.func (.func 131) #[] #[]] w fun r w'=>∃(L:List TR) (A':Option Addr) (c':Nat),MD (k+n) l L∧r=.returned (.slice A' L.length c')∧Hp w0 (.row A' L.length c' 80 4 (aD TR.cells L)::Hr) w':=by
 refine (nG k n A n c l w (YE _) hT (hh.aG (i:=0) rfl) (hh.dJ (i:=0) rfl) hn hk ho).mono fun r w' h=> ?_
 rcases h with ⟨h1,rfl,hb⟩|⟨h1,L,A',c',hm,rfl,h3⟩
 ·exact ⟨l,A,c,(MD.self (zz Yv) ho).mono Yv,by rw [hl],by rw [hl];exact hh.ext hb⟩
 ·refine ⟨L,A',c',hm,rfl, ?_⟩;exact (hh.join h3).sub (YC _ (YI _ (ZK _)))
def Wo (t:TR):Bool:=decide (t.c.d=0)
theorem EI (l:List TR):(l.filter fun z=> !Wo z)=l.filter oU:=rfl
theorem zR (z:TR) (w:World):Calls Tryz.prog 175 #[.agg #[.string z.m,.bool z.c.neg,.string z.c.bj,.int .i64 z.c.e]] w fun r w'=>r=.returned (.bool (Wo z))∧Below w.heap.size w w':=by
 have hh:=Hp.start w;refine ak (N:=7) (l:=[.agg #[.string z.m,.bool z.c.neg,.string z.c.bj,.int .i64 z.c.e]]) Tryz.func175 rfl rfl (by simp) ?_;refine sr ?_;refine cu hh [_,_,_,_] ?_;intro b1 w1 hh;refine aB (aa (sr (bJ ?_)));refine cC hh 0 [_,_,_] ?_;refine bA hh (iU z.c _) rfl ?_;intro w5 hh;have hz:z.c.i.sign=0↔z.c.d=0:=by
  exact Ot
 unfold Wo;by_cases h0:z.c.d=0
 ·have hs:=hz.2 h0;rw [YV h0];refine di (aB (aa (ay ?_)));refine dh ?_;exact ⟨rfl,hh.below⟩
 ·have hs:¬z.c.i.sign=0:=fun h=>h0 (hz.1 h);rw [Y3 h0];refine di (aB (aa (ay ?_)));refine dh ?_;exact ⟨rfl,hh.below⟩
def gF (l:List TR):Int:=if 4096<(aF l).length then 3 else 0
theorem B1 {xs ys:List Value}{v:Value} (h:xs[o]?=some v):cM xs o (v::ys)=cM xs (o+1) ys:=by
 unfold cM;rw [aC h,YZ,show o+(ys.length+1)=o+1+ys.length by omega];simp
def Xp (t:TR):TR:=⟨t.m,nR t.c.d⟩
theorem yk {X:List TR}{i:Nat}{z:TR} (h:X[i]?=some z) (y:NR):cM (aD TR.cells X) (i*4+1) [.bool y.neg,.string y.bj,.int .i64 y.e]=aD TR.cells (X.set i ⟨z.m,y⟩):=by
 have h0:(aD TR.cells X)[i*4]?=some (.string z.m):=by
  have h1:=rl TR.len h;have h2:(((aD TR.cells X).drop (i*4)).take 4)[0]?=some (.string z.m):=by rw [h1];rfl
  rwa [List.getElem?_take_of_lt Yw,Z6,aab] at h2
 rw [←B1 h0];exact jZ TR.len (y:=⟨z.m,y⟩) (YQ.1 h).1
theorem lR (v:Int) (A:Option Addr) (n c:Nat) (l:List TR) (k:Nat) (w:World) (hT:e8 w0) (hh:Hp w0 (.row A n c 80 4 (aD TR.cells l)::Hr) w) (hl:l.length=n) (hn:n≤1000000) (hk:k+n≤3999980) (ho:ja k l):
  Calls Tryz.prog 132 #[.int .i64 v,.slice A n c] w fun r w'=>∃g:PX,dW (gF l) v (aF l) g∧r=.returned (.tuple #[.agg #[.int .i64 g.v,.slice g.A g.n g.c],.int .i64 (gF l)])∧Hp w0 (g.row::Hr) w':=by
 refine ak (N:=33) (l:=[.int .i64 v,.slice A n c]) Tryz.func132 rfl rfl (by simp) ?_;refine sr ?_;refine bW hh ?_;intro b4 w4 hh;refine aI (aa (sr (mL ?_)));replace hh:=hh.perm (Zh (l₁:=[_]));simp only [YJ,YH] at hh;refine aJ (xH A n c l k _ (hT.hp hh) hh hl hn hk ho) aw.out rfl Yw ?_;rintro e_ w8 ⟨L,A1,c1,hmd,rfl,hh⟩;refine ⟨_,rfl, ?_⟩;have hlen:=hmd.len;refine aJ (FI A1 L.length c1 L _ Wo _ hh rfl Yv (fun z w1 _=>zR z w1)) aw.out rfl Yw ?_;rintro e_ w9 ⟨rfl,hh⟩;refine ⟨_,rfl, ?_⟩;rw [EI] at hh ⊢;have hML:(L.filter oU).length≤L.length:=abT _ _;have hgl:(aF l).length=(L.filter oU).length:=by rw [←hmd.aF,YO]
 have hgm:=hmd.aF;have hok:ja (k+n) (L.filter oU):=fun t ht=>hmd.ok t (ZP.1 ht).1;generalize hM:L.filter oU=M at*;by_cases h4:4096<M.length
 ·rw [show gF l=3 by unfold gF;rw [YA Yv]];refine aL (aa (ai (sr (mL (aK ?_)))));refine bT (aa (cT (sr ?_)));refine fH [_,_] ?_;refine bV hh 1 [_,_] ?_;intro ws hh;replace hh:Hp _ (_::.blk _ _ [_,_] _::_) _:=hh;refine aI (aa (ay (aN ?_)));replace hh:=hh.sub (YI _ (YC _ (ZK _)));refine xi ?_;exact ⟨PX.nil,dW.err Yw,rfl,(hh.sub (Zi _ _)).AZ⟩
 ·rw [show gF l=0 by unfold gF;rw [YB Yv]];refine aL (aa (ai (sr (mL (aK ?_)))));refine bT (aa (cF (au (aj (ai (sr (mL (aK (mI (aa (av ?_)))))))))));refine aT [6,16,17,18,19,20,21,22,23,24,25,26,27,28,29] 16
   (fun v w'=>∃(i:Nat) (X:List TR),i≤M.length∧v=.int .i64 i∧X.length=M.length∧X=(M.take i).map Xp++M.drop i∧Hp w0 (.row A1 M.length c1 80 4 (aD TR.cells X)::.blk b4 24 [.int .i64 0,.slice none 0 0] (0,0)::Hr) w')
   (fun v _=>M.length-(intOf v).toNat) ?_ ?_
  ·exact ⟨0,M,YD _,rfl,rfl,rfl,hh⟩
  ·clear hh;rintro ρ' v w' ⟨i,X,hi,rfl,hX,hXe,hh⟩;by_cases hlt:i<M.length
   ·obtain ⟨z,hz⟩:=ao (l:=M) (k:=i) Yv;have hXz:X[i]?=some z:=by
     rw [hXe,ZQ (by rw [YO,YW];omega),YO,YW,ZB Yv,Zu,Z6];exact hz
    have hzo:=hok z (YF hz);have hXn:X.set i ⟨z.m,nR z.c.d⟩=(M.take (i+1)).map Xp++M.drop (i+1):=by
     rw [aC hz,Zq,hXe,aaI _ _ (by rw [YO,YW];omega),YO,YW,ZB Yv,Zu,Ze];congr 1;obtain ⟨h1,h2⟩:=YQ.1 hz;rw [ZR h1,h2]
     rfl
    have hrl:=eS TR.len X;obtain ⟨g0,rfl⟩:=hh.cK (i:=0) rfl Yv;refine sr ?_;refine a8 (aa (ai (cT (au (aj (ai (av (sr (mI (aI (aa (ar (mL (mI (mL (mI ?_))))))))))))))));refine gD ?_;refine bJ ?_;refine cG (vs:=[_,_,_]) aU.out rfl ((hh.iu (f:=TR.cells) (x:=z) (l:=X) (i:=0) rfl TR.len Yw hXz).drop 1) rfl Yw ?_;refine bA hh (fp z.c _ (hT.hp hh) (by have:=hzo.1.1;omega) (by have:=hzo.1.2.1;omega) (by have:=hzo.1.2.2;omega)) rfl ?_;intro w26 hh;refine gD ?_;refine bJ ?_;refine cA hh (i:=0) (vs:=[_,_,_]) rfl rfl (gy rfl) rfl aU.out rfl Yv rfl ?_;intro ws hh;simp only [YM] at hh;rw [yk hXz,hXn] at hh;refine gN ?_;refine bm (mI (aE (aj ?_)));refine ⟨⟨i+1,_,Yv,rfl, ?_,rfl,hh⟩,by show M.length-(i+1)<M.length-i;omega, ?_⟩
    ·rw [←hXn,aaX,hX]
    ·exact dO
   ·obtain rfl:i=M.length:=Yv;rw [YG (YE _),ZZ (YE _),Y9] at hXe;have hXg:X=aF l:=by rw [hXe];exact hgm
    rw [hXg] at hh;refine sr ?_;refine a8 (aa (ai (cF (a6 (aH (aH (bB (aj (sr (mI (mL ?_)))))))))));refine fH [_,_] ?_;refine bV hh 1 [_,_] ?_;intro ws hh;replace hh:Hp _ (_::.blk _ _ [_,_] _::_) _:=hh;refine aI (aa (ay ?_));refine yw ?_;exact ⟨⟨v,A1,M.length,c1,aF l⟩,⟨rfl,rfl⟩,rfl,hh.sub (YC _ (YI _ (ZK _)))⟩
theorem ml (s:ByteArray) (n:Int) (w:World) (hs:s.size≤9223372036854775807):
  Calls Tryz.prog 105 #[.string s,.int .i64 n] w fun e w'=>e=.returned (.bool (eK s.data.toList && decide ((s.size:Int)=n)))∧Below w.heap.size w w':=by
 refine ak (N:=20) (l:=[.string s,.int .i64 n]) Tryz.func105 rfl rfl (by simp) ?_;refine sr (aB (aa (ai (sr (mS ?_)))));refine bP bo.out rfl Yw ?_;refine mI (aa (av ?_));refine aT [4,5,8,9,10,11,12,13,14,15] 8
  (fun v w'=>∃k:Nat,k≤s.size∧v=.int .i64 k∧eK (s.data.toList.take k)=true∧w'=w)
  (fun v _=>s.size-(intOf v).toNat) ?_ ?_
 ·exact ⟨0,YD _,rfl,rfl,rfl⟩
 ·rintro ρ' v w' ⟨k,hk,rfl,hm,rfl⟩;by_cases hlt:k<s.size
  ·obtain ⟨c,hc⟩:=ao (l:=s.data.toList) (k:=k) (by rw [←dP];exact hlt);have hb:=c.toNat_lt;by_cases h8:c.toNat<128
   ·refine sr ?_;refine a8 (aa (ai (cT (au (aj (ai (av (sr (mI (aI (aa (sr (mS (mI ?_))))))))))))));refine j4 ?_;refine bT (aa (cF (au (bM (aj (ar ?_))))));refine bm (mI (aE (aj ?_)));exact RP
   ·refine sr ?_;refine a8 (aa (ai (cT (au (aj (ai (av (sr (mI (aI (aa (sr (mS (mI ?_))))))))))))));refine j4 ?_;refine bT (aa (cT (sr (aB (aa (ay (cm (aN (aN (cm (aN ?_)))))))))));refine dh ?_;rw [Ct hc h8];exact ⟨rfl,Below.refl _ _⟩
  ·refine sr ?_;refine a8 (aa (ai (cF (a6 (aH (aH (bB (aj (sr (mS ?_))))))))));exact UD
theorem nJ (s:ByteArray) (w:World) (hs:s.size≤9223372036854775807):
  Calls Tryz.prog 105 #[.string s,.int .i64 s.size] w fun e w'=>e=.returned (.bool (eK s.data.toList))∧Below w.heap.size w w':=by
 have h:=ml s s.size w hs;simpa using h
theorem nh (s:ByteArray) (n:Int) (w:World) (hs:s.size≤9223372036854775807):
  Calls Tryz.prog 180 #[.string s,.int .i64 n] w fun e w'=>e=.returned (.bool (eK s.data.toList && decide ((s.size:Int)=n)))∧Below w.heap.size w w':=by
 refine ak (N:=20) (l:=[.string s,.int .i64 n]) Tryz.func180 rfl rfl (by simp) ?_;refine sr (aB (aa (ai (sr (aI (aa (av ?_)))))));refine aT [4,5,6,7,8,9,10,11,12,13,14,15] 5
  (fun v w'=>∃k:Nat,k≤s.size∧v=.int .i64 k∧eK (s.data.toList.take k)=true∧w'=w)
  (fun v _=>s.size-(intOf v).toNat) ?_ ?_
 ·exact ⟨0,YD _,rfl,rfl,rfl⟩
 ·rintro ρ' v w' ⟨k,hk,rfl,hm,rfl⟩;by_cases hlt:k<s.size
  ·obtain ⟨c,hc⟩:=ao (l:=s.data.toList) (k:=k) (by rw [←dP];exact hlt);have hb:=c.toNat_lt;by_cases h8:c.toNat<128
   ·refine ai (sr (mI (mS ?_)));refine bP bo.out rfl Yw ?_;refine a8 (aa (cT (au (aj (ai (av (sr (mS (mI ?_)))))))));refine j4 ?_;refine ej (aa (cF (au (bM (aj (ar (mI ?_)))))));refine bm (aI (aE (aj ?_)));exact RP
   ·refine ai (sr (mI (mS ?_)));refine bP bo.out rfl Yw ?_;refine a8 (aa (cT (au (aj (ai (av (sr (mS (mI ?_)))))))));refine j4 ?_;refine ej (aa (cT (sr (aB (aa (ay (cm (aN (aN (cm (aN ?_)))))))))));refine dh ?_;rw [Ct hc h8];exact ⟨rfl,Below.refl _ _⟩
  ·refine ai (sr (mI (mS ?_)));refine bP bo.out rfl Yw ?_;refine a8 (aa (cF (a6 (aH (aH (bB (aj (sr (mS ?_)))))))));exact UD
theorem B3 (A:Option Addr) (n c:Nat) (xs:List Int) (w:World) (hsl:Sl w A n 1 (bQ xs)) (hn:n≤100000):
  Calls Tryz.prog 134 #[.slice A n c] w fun e w'=>e=.returned (.tuple #[.string (str (Kg xs)),.int .i64 (N5 xs)])∧Below w.heap.size w w':=by
 have hlen:xs.length=n:=by have:=hsl.1;rw [cD] at this;omega
 have hh:=Hp.start w;refine ak (N:=27) (l:=[.slice A n c]) Tryz.func134 rfl rfl (by simp) ?_;refine sr (aS (aI (aa (sr (aL (aa (ai (sr (mL (aK (mI (aa (av ?_)))))))))))));refine bC [2,3,4,6,9,10,11,12,13,14,15,16,17,18,19,20,21,22,23,24] 4 9
  (fun b i w'=>∃(k c':Nat) (A':Option Addr),k≤n∧i=.int .i64 k∧b=.slice A' k c'∧(xs.take k).all cJ=true∧Hp w [.row A' k c' 5 1 (mM ((xs.take k).map qf))] w')
  (fun _ v _=>n-(intOf v).toNat) ?_ ?_
 ·exact ⟨0,0,none,YD _,rfl,rfl,rfl,hh.cN _ _⟩
 ·clear hh;rintro ρ' b i w' ⟨k,c',A',hk,rfl,rfl,hall,hh⟩;by_cases hlt:k<n
  ·obtain ⟨x,hx⟩:=ao (l:=xs) (k:=k) Yv;obtain ⟨ad,rfl,hr⟩:=(hsl.ext hh.below).at_ Yv;by_cases h0:x<0
   ·refine sr ?_;refine eC ?_;refine gg ?_;refine vm ?_;refine aI (aa (ai (sr (mI ?_))));refine a8 (mB ?_);refine gS (gS ?_);refine fG ?_;exact Oj
   ·by_cases h1:127<x
    ·refine sr ?_;refine eC ?_;refine gg ?_;refine vm ?_;refine aI (aa (ai (sr (mI ?_))));refine a8 (mB (gT (mI (gT ?_))));refine bT ?_;refine dX ?_;exact Oj
    ·have hok:cJ x=true:=by simp [cJ];omega
     refine sr ?_;refine eC ?_;refine gg ?_;refine vm ?_;refine aI (aa (ai (sr (mI ?_))));refine a8 (mB (gT (mI (gT ?_))));refine bT ?_;refine dX ?_;refine aa (cF (au (aj (ar (mL (mI ?_))))));refine ql bo.out bo.out rfl Yw ?_;refine vN ?_;intro b22 w22 hh;refine cd hh (i:=1) rfl rfl rfl (hh.aG (i:=0) rfl) bo.out aU.out rfl Yw rfl Yv Yv Yw ?_;intro A23 c23 w23 hh;simp only [YM,Zg] at hh;replace hh:=hh.sub (Zi _ _);refine mE ?_;refine bm (mI (aE (aj ?_)));refine ⟨⟨k+1,c23,A23,Yv,rfl,rfl,BS hx hall hok, ?_⟩,by show n-(k+1)<n-k;omega, ?_⟩
     ·rw [zI Yv Yv,Lw hx hok] at hh;exact hh
     ·exact dO
  ·obtain rfl:k=n:=Yv;rw [YG Yv] at hall hh;obtain ⟨e1,e2⟩:=pr hall;refine sr ?_;refine qb ?_;refine oH bo.out bo.out bo.out rfl (hh.aG (i:=0) rfl) Yw ?_;refine aS (aI (aa (ay ?_)));refine HI ?_;rw [e1,e2];exact ⟨rfl,hh.below⟩
theorem iK (s:ByteArray) (w:World) (hs:s.size≤100000):
  Calls Tryz.prog 47 #[.string s] w fun e w'=>∃A c,e=.returned (.slice A (jw s.data.toList).length c)∧w'.ownsRow w.heap.size 3 1 (.slice A (jw s.data.toList).length c) (jw s.data.toList).length (bQ (jw s.data.toList))∧Below w.heap.size w w':=by
 have hh:=Hp.start w;have hsz:=dP s
 cases hm:eK s.data.toList with
 |false=>
  refine ak (N:=22) (l:=[.string s]) Tryz.func47 rfl rfl (by simp) ?_;refine sr (aL (aa (ai (sr (mS (mS ?_))))));refine bP bo.out rfl Yw ?_;refine bA hh (nJ s _ Yv) rfl ?_;intro w9 hh;rw [hm];refine fV ?_;refine aa (cT (sr (aL (aa (ay (aN ?_))))));refine dh ?_;rw [Mr hm];exact TD
 |true=>
  refine ak (N:=22) (l:=[.string s]) Tryz.func47 rfl rfl (by simp) ?_;refine sr (aL (aa (ai (sr (mS (mS ?_))))));refine bP bo.out rfl Yw ?_;refine bA hh (nJ s _ Yv) rfl ?_;intro w9 hh;rw [hm];refine fV ?_;refine aa (cF (au (aj (sr (aL (aa (ai (sr (mS ?_)))))))));refine Ag hh bo.out rfl Yw ?_;intro b12 w12 hh;skip;refine aa (av ?_);refine aT [3,5,13,14,15,16,17,18,19,20] 3
   (fun v w'=>∃(k c':Nat) (A':Option Addr),k≤s.size∧v=.slice A' k c'∧Hp w [.row A' k c' 3 1 (bQ (ints (s.data.toList.take k))),.it b12 s k] w')
   (fun v _=>s.size-lenOf v) ?_ ?_
  ·exact ⟨0,0,none,YD _,rfl,hh.cN _ _⟩
  ·clear hh;rintro ρ' v w' ⟨k,c',A',hk,rfl,hh⟩;by_cases hlt:k<s.size
   ·obtain ⟨c,hc⟩:=ao (l:=s.data.toList) (k:=k) Yv;have h8:=oW hm hc;refine sr ?_;refine Av hh (i:=1) rfl rfl hc h8 Yw ?_;intro w13 hh;simp only [YM,Zg] at hh;skip;refine dx ?_;refine aa (ai (cT (au (aj (av (sr ?_))))));refine dx ?_;refine aI (aa (ar (mL (mI ?_))));refine vP ?_;refine vN ?_;intro b19 w19 hh;refine cd hh (i:=1) rfl rfl rfl (hh.aG (i:=0) rfl) bo.out aU.out rfl Yw rfl Yv Yv Yw ?_;intro A20 c20 w20 hh;simp only [YM,Zg] at hh;replace hh:=hh.sub (Zi _ _);refine aL (aE (bM (aj ?_)));rw [vZ hc] at hh;refine ⟨⟨k+1,c20,A20,Yv,rfl,hh⟩,by show s.size-(k+1)<s.size-k;omega, ?_⟩;exact dO
   ·refine sr ?_;refine Bj hh (i:=1) rfl rfl hlt Yw ?_;skip;refine dx ?_;refine aa (ai (cF (a6 (aH (aH (bB (aj (sr (mL (aL (aa (ay ?_))))))))))));refine dh ?_;obtain rfl:k=s.size:=Yv;rw [YG Yv] at hh;have h1:=hh.at_ (i:=0) rfl;rw [kJ hm,dE,←hsz];exact ⟨A',c',rfl,h1,hh.below⟩
theorem uU (a b:ByteArray) (g:FuncId) (f:Int→Int→Int) (w:World) (ha:a.size≤100000) (hb:b.size≤100000) [aw Tryz.prog g]
  (hg:∀(x y:Int) (w:World),0≤x→x≤127→0≤y→y≤127→Calls Tryz.prog g #[.int .i64 x,.int .i64 y] w fun e w'=>e=.returned (.int .i64 (f x y))∧Below w.heap.size w w'):
  Calls Tryz.prog 231 #[.string a,.string b,.func (.func g) #[] #[]] w fun e w'=>
   (ig f a.data.toList b.data.toList=none∧e=.returned (.tuple #[.slice none 0 0,.bool false])∧Below w.heap.size w w')∨
   ∃l,ig f a.data.toList b.data.toList=some l∧l.length=b.size∧∃A c,e=.returned (.tuple #[.slice A l.length c,.bool true])∧w'.ownsRow w.heap.size 3 1 (.slice A l.length c) l.length (bQ l)∧Below w.heap.size w w':=by
 have hh:=Hp.start w;have hsa:=dP a;have hsb:=dP b
 cases hma:eK a.data.toList with
 |false=>
  refine Nc ?_;refine sr (aL (aB (aa (sr (mS ?_)))));refine aJ (iK b _ hb) aw.out rfl Yw ?_;rintro e_ w12 ⟨A12,c12,rfl,hown_,hb_⟩;refine ⟨_,rfl, ?_⟩;replace hh:=hh.aY (x:=.row _ _ _ _ _ _) hb_ hown_;refine aL (aa (ai (sr (mS (mS ?_)))));refine bP bo.out rfl Yw ?_;refine bA hh (nJ a _ Yv) rfl ?_;intro w16 hh;rw [hma];refine fV ?_;refine mB ?_;refine gS (gS (gS ?_));refine jG ?_;refine gS ?_;refine fG ?_;refine aa (cT (sr (aL (aB (aa (ay (aN ?_)))))));refine HI ?_;exact .inl ⟨by simp [ig,hma],rfl,hh.below⟩
 |true=>
  cases hmb:(eK b.data.toList && decide ((b.size:Int)=a.size)) with
  |false=>
   refine Nc ?_;refine sr (aL (aB (aa (sr (mS ?_)))));refine aJ (iK b _ hb) aw.out rfl Yw ?_;rintro e_ w12 ⟨A12,c12,rfl,hown_,hb_⟩;refine ⟨_,rfl, ?_⟩;replace hh:=hh.aY (x:=.row _ _ _ _ _ _) hb_ hown_;refine aL (aa (ai (sr (mS (mS ?_)))));refine bP bo.out rfl Yw ?_;refine bA hh (nJ a _ Yv) rfl ?_;intro w16 hh;rw [hma];refine fV ?_;refine mB (gT (mS (gT (mS (gT ?_)))));refine bP bo.out rfl Yw ?_;refine aP rfl rfl ?_;refine bA hh (ml b _ _ Yv) rfl ?_;intro w22 hh;rw [hmb];refine gT ?_;refine fV ?_;refine dX ?_;refine aa (cT (sr (aL (aB (aa (ay (aN ?_)))))));refine HI ?_;have:(eK b.data.toList && decide ((b.data.toList.length:Int)=a.data.toList.length))=false:=by rw [←hsa,←hsb];exact hmb
   exact .inl ⟨by simp only [ig,hma,this];rfl,rfl,hh.below⟩
  |true=>
   have hmb2:=hmb;simp only [YU,YY] at hmb2;have hbl:ig f a.data.toList b.data.toList=some (List.zipWith f (ints a.data.toList) (ints b.data.toList)):=by
    exact UZ
   have hea:=kJ hma;have heb:=kJ hmb2.1;have hlab:(ints a.data.toList).length=(ints b.data.toList).length:=by rw [dE,dE];omega
   have hlb:=dE b.data.toList;have hla:=dE a.data.toList;have hA:=iK a;have hB:=iK b;rw [hea] at hA;rw [heb] at hB;generalize hia:ints a.data.toList=ia at*;generalize hib:ints b.data.toList=ib at*;have bda:∀(k:Nat) (x:Int),ia[k]?=some x→0≤x∧x≤127:=fun k x h=>HY (l:=a.data.toList) (by rw [hea];exact h);have bdb:∀(k:Nat) (x:Int),ib[k]?=some x→0≤x∧x≤127:=fun k x h=>HY (l:=b.data.toList) (by rw [heb];exact h);clear hea heb;refine Nc ?_;refine sr (aL (aB (aa (sr (mS ?_)))));refine aJ (hB _ hb) aw.out rfl Yw ?_;rintro e_ w12 ⟨A12,c12,rfl,hown_,hb_⟩;refine ⟨_,rfl, ?_⟩;replace hh:=hh.aY (x:=.row _ _ _ _ _ _) hb_ hown_;refine aL (aa (ai (sr (mS (mS ?_)))));refine bP bo.out rfl Yw ?_;refine bA hh (nJ a _ Yv) rfl ?_;intro w16 hh;rw [hma];refine fV ?_;refine mB (gT (mS (gT (mS (gT ?_)))));refine bP bo.out rfl Yw ?_;refine aP rfl rfl ?_;refine bA hh (ml b _ _ Yv) rfl ?_;intro w22 hh;rw [hmb];refine gT ?_;refine fV ?_;refine dX ?_;refine aa (cF (au (aj (ai (sr (mS ?_))))));refine aJ (hA _ ha) aw.out rfl Yw ?_;rintro e_ w26 ⟨A26,c26,rfl,hown_,hb_⟩;refine ⟨_,rfl, ?_⟩
   replace hh:=hh.aY (x:=.row _ _ _ _ _ _) hb_ hown_;refine aK (mI (aa (av ?_)));refine aT [9,10,28,29,30,31,32,33,34,35,36,37,38,39,40,41,42,43] 28
    (fun i w'=>∃k:Nat,k≤ib.length∧i=.int .i64 k∧Hp w [.row A26 ia.length c26 3 1 (bQ ia),.row A12 ib.length c12 3 1 (bQ (oF f ia ib k))] w')
    (fun i _=>ib.length-(intOf i).toNat) ?_ ?_
   ·exact ⟨0,YD _,rfl,by rw [Kx];exact hh⟩
   ·clear hh hown_ hb_;rintro ρ' i w' ⟨k,hk,rfl,hh⟩;by_cases hlt:k<ib.length
    ·obtain ⟨x,hx⟩:=ao (l:=ia) (k:=k) Yv;obtain ⟨y,hy⟩:=ao hlt;have bx:=bda k x hx;have byy:=bdb k y hy;have hx2:=cL hx;have hy2:=cL (Tq (f:=f) hlab hy);have hml:=Pc (f:=f) hlab hk;have hml2:=cD (oF f ia ib k);obtain ⟨ga,rfl⟩:=hh.cK (i:=0) rfl Yv;obtain ⟨gb,rfl⟩:=hh.cK (i:=1) rfl Yv;refine sr ?_;refine e9 ?_;refine rz ?_;refine jY ?_;refine aI (aI (aa (ar (mL (mI ?_)))));refine jC ?_;refine mI (mL (mI ?_));refine rz ?_;refine NM ?_;refine hH (hg x y _ bx.1 bx.2 byy.1 byy.2) aw.out rfl rfl Yw ?_;rintro e_ w41 ⟨rfl,hb_⟩;refine ⟨_,rfl, ?_⟩;replace hh:=hh.ext hb_;refine rz ?_;refine cA hh (i:=1) (vs:=[_]) rfl rfl (dk rfl) rfl aU.out rfl Yv rfl ?_;intro ws hh;simp only [YM,Zg] at hh;refine gN ?_;refine bm (mI (aE (aj ?_)));rw [YX,O7 hlab hx hy] at hh;refine ⟨⟨k+1,Yv,rfl,hh⟩,by show _-(k+1)<_-k;omega, ?_⟩;exact dO
    ·refine sr ?_;refine a8 (aa (ai (cF (a6 (aH (aH (bB (aj (sr (mL (aL (aB (aa (ay ?_))))))))))))));refine HI ?_;obtain rfl:k=ib.length:=Yv;rw [K3 hlab] at hh;have h1:=hh.at_ (i:=1) rfl;have hzl:(List.zipWith f ia ib).length=ib.length:=by simp [hlab]
     refine .inr ⟨_,hbl,Yv,A12,c12, ?_⟩;rw [hzl];exact ⟨rfl,h1,hh.below⟩
theorem IP (a b:ByteArray) (g:FuncId) (f:Int→Int→Int) (w:World) (ha:a.size≤100000) (hb:b.size≤100000) [aw Tryz.prog g]
  (hg:∀(x y:Int) (w:World),0≤x→x≤127→0≤y→y≤127→Calls Tryz.prog g #[.int .i64 x,.int .i64 y] w fun e w'=>e=.returned (.int .i64 (f x y))∧Below w.heap.size w w')
  (h:ig f a.data.toList b.data.toList=none):
  Calls Tryz.prog 231 #[.string a,.string b,.func (.func g) #[] #[]] w fun e w'=>e=.returned (.tuple #[.slice none 0 0,.bool false])∧Below w.heap.size w w':=
 (uU a b g f w ha hb hg).mono fun e w' hq=>by
  rcases hq with hq|⟨l,hl,_⟩
  ·exact hq.2
  ·rw [h] at hl;cases hl
theorem JT (a b:ByteArray) (g:FuncId) (f:Int→Int→Int) (w:World) (ha:a.size≤100000) (hb:b.size≤100000) [aw Tryz.prog g]
  (hg:∀(x y:Int) (w:World),0≤x→x≤127→0≤y→y≤127→Calls Tryz.prog g #[.int .i64 x,.int .i64 y] w fun e w'=>e=.returned (.int .i64 (f x y))∧Below w.heap.size w w')
  {l:List Int} (h:ig f a.data.toList b.data.toList=some l):
  Calls Tryz.prog 231 #[.string a,.string b,.func (.func g) #[] #[]] w fun e w'=>∃A c,e=.returned (.tuple #[.slice A l.length c,.bool true])∧w'.ownsRow w.heap.size 3 1 (.slice A l.length c) l.length (bQ l)∧Below w.heap.size w w':=
 (uU a b g f w ha hb hg).mono fun e w' hq=>by
  rcases hq with ⟨hn,_⟩|⟨l',hl,_,hq⟩
  ·rw [h] at hn;cases hn
  ·rw [h] at hl;injection hl with hl;subst hl;exact hq
theorem I9 {f:Int→Int→Int}{a b:List UInt8}{l:List Int} (h:ig f a b=some l):l.length≤b.length:=by
 unfold ig at h;split at h
 ·injection h with h;subst h;simp [ints];omega
 ·cases h
theorem u1 (x y:Int) (w:World) (h1:0≤x) (h2:x≤127) (h3:0≤y) (h4:y≤127):
  Calls Tryz.prog 232 #[.int .i64 x,.int .i64 y] w fun e w'=>e=.returned (.int .i64 (x+y))∧Below w.heap.size w w':=by
 refine ak (N:=8) (l:=[.int .i64 x,.int .i64 y]) Tryz.func232 rfl rfl (by simp) ?_;refine sr (aI (aa (sr (mI (mI ?_)))));refine bm (aI (aa (ay ?_)));refine dh ?_;exact ⟨rfl,Below.refl _ _⟩
theorem I3 (a b:ByteArray) (w:World) (ha:a.size≤100000) (hb:b.size≤100000):
  Calls Tryz.prog 223 #[.string a,.string b] w fun e w'=>e=.returned (.tuple #[.string (str (mulL a.data.toList b.data.toList).1),.int .i64 (mulL a.data.toList b.data.toList).2])∧Below w.heap.size w w':=by
 have hh:=Hp.start w;have hsb:=dP b
 cases hbo:ig (· + ·) a.data.toList b.data.toList with
 |none=>
  refine ak (N:=20) (l:=[.string a,.string b]) Tryz.func223 rfl rfl (by simp) ?_;refine sr (aS (aI (aa (sr (mS (mS ?_))))));refine bA hh (IP a b _ _ _ ha hb u1 hbo) rfl ?_;intro w11 hh;refine mT ?_;refine dx ?_;refine dx ?_;refine aL (aB (aa (ai (sr (mB ?_)))));refine fV ?_;refine aa (cT (sr (aS (aI (aa (ay (aN ?_)))))));refine HI ?_;simp only [mulL,hbo];exact ⟨rfl,hh.below⟩
 |some l=>
  have hl:=I9 hbo;refine ak (N:=20) (l:=[.string a,.string b]) Tryz.func223 rfl rfl (by simp) ?_;refine sr (aS (aI (aa (sr (mS (mS ?_))))));refine aJ (JT a b _ _ _ ha hb u1 hbo) aw.out rfl Yw ?_;rintro e_ w11 ⟨A11,c11,rfl,hown_,hb_⟩;refine ⟨_,rfl, ?_⟩;replace hh:=hh.aY (x:=.row _ _ _ _ _ _) hb_ hown_;refine mT ?_;refine dx ?_;refine dx ?_;refine aL (aB (aa (ai (sr (mB ?_)))));refine fV ?_;refine aa (cF (au (aj (sr (mL ?_)))));refine bA hh (B3 _ _ _ _ _ (hh.aG (i:=0) rfl) Yv) rfl ?_;intro w17 hh;refine dx ?_;refine dx ?_;refine aS (aI (aa (ay ?_)));refine HI ?_;simp only [mulL,hbo];exact ⟨trivial,hh.below⟩
def iJ (v:Int):Bool:=decide (0≤v) && decide (v≤12)
theorem eF {v:Int}:iJ v=true↔0≤v∧v≤12:=by unfold iJ;rw [YU,YY,YY]
theorem oV (v:Int) (w:World):Calls Tryz.prog 109 #[.int .i64 v] w fun r w'=>r=.returned (.bool (iJ v))∧Below w.heap.size w w':=by
 have hh:=Hp.start w;unfold iJ;by_cases h1:0≤v
 ·rw [YV h1,Bool.true_and];by_cases h2:v≤12
  ·rw [YV h2];exact QC
  ·rw [Y3 h2];exact QC
 ·rw [Y3 h1,Bool.false_and];refine ak (N:=9) (l:=[.int .i64 v]) Tryz.func109 rfl rfl (by simp) ?_;refine sr (aB (aa (sr (mI ?_))));refine ej (mB ?_);refine gS (gS ?_);refine dX ?_;exact xG
def Wh (a:NR):Bool:=decide ((nR a.d).neg=a.neg) && (decide ((nR a.d).bj=a.bj) && decide ((nR a.d).e=a.e))
theorem pq (a:NR):Wh a=true↔nR a.d=a:=by
 unfold Wh;rw [YU,YU,YY,YY,YY];constructor
 ·rintro ⟨h1,h2,h3⟩;obtain ⟨s,m,e⟩:=a;generalize nR (NR.d ⟨s,m,e⟩)=b at*;obtain ⟨s',m',e'⟩:=b;simp only at h1 h2 h3;rw [h1,h2,h3]
 ·intro h;rw [h];exact ⟨rfl,rfl,rfl⟩
def j5 (v:Int) (t:TR):Bool:=eK t.m.data.toList && decide ((t.m.size:Int)=v) && (oU t && Wh t.c)
def um:List TR→Bool
 |[]=>true
 |[_]=>true
 |a::b::l=>ji a.m b.m && um (b::l)
theorem yt:∀(l:List TR) (p x:TR),um (l++[p,x])=(um (l++[p]) && ji p.m x.m)
 |[],p,x=>by show (ji p.m x.m && true)=(true && ji p.m x.m);rw [Bool.and_true,Bool.true_and]
 |[a],p,x=>by
  show (ji a.m p.m && (ji p.m x.m && true))=((ji a.m p.m && true) && ji p.m x.m);rw [Bool.and_true,Bool.and_true]
 |a::b::l,p,x=>by
  show (ji a.m b.m && um ((b::l)++[p,x]))=((ji a.m b.m && um ((b::l)++[p])) && ji p.m x.m);rw [yt (b::l) p x,Bool.and_assoc]
theorem HC:∀{l:List TR}{i:Nat}{p x:TR},um l=true→l[i]?=some p→l[i+1]?=some x→ji p.m x.m=true
 |[],i,p,x,_,h,_=>by simp at h
 |[a],i,p,x,_,_,h=>by simp at h
 |a::b::l,0,p,x,h,h1,h2=>by
  simp only [abf,aaf,Y0,aaY] at h1 h2;subst h1 h2;exact (aaE.1 h).1
 |a::b::l,i+1,p,x,h,h1,h2=>by
  rw [aaY] at h1 h2;exact HC (aaE.1 h).2 h1 h2
theorem xf:∀{l:List TR},um l=true↔ux l
 |[]=>⟨fun _=>abD,fun _=>rfl⟩
 |[a]=>⟨fun _=>abV _ _,fun _=>rfl⟩
 |a::b::l=>by
  show (ji a.m b.m && um (b::l))=true↔_;rw [YU,xf (l:=b::l)];constructor
  ·rintro ⟨h1,h2⟩;refine ZW.2 ⟨fun t ht=> ?_,h2⟩
   rcases YS.1 ht with rfl|ht
   ·exact h1
   ·exact kK h1 ((ZW.1 h2).1 t ht)
  ·intro h;have:=ZW.1 h;exact ⟨this.1 b YL,this.2⟩
def okB (v:Int) (ts:List TR):Bool:=ts.all (j5 v) && um ts
def fj (v:Int) (ts:List TR):Int:=if iJ v=false then 1 else if 4096<ts.length then 3 else if okB v ts=true then 0 else 1
theorem Eh {v:Int} (h1:iJ v=true) (h2:¬4096<ts.length) (h:okB v ts=false):fj v ts=1:=by
 unfold fj;rw [YB (by rw [h1];decide),YB h2,YB (by rw [h];decide)]
theorem pH {v:Int}{i:Nat}{x:TR} (hx:ts[i]?=some x) (h:j5 v x=false):okB v ts=false:=by
 unfold okB;rw [abU];refine .inl (aaV.2 fun h2=> ?_);rw [Y6.1 h2 x (YF hx)] at h
 cases h
theorem Cj {v:Int}{i:Nat}{p x:TR} (hp:ts[i]?=some p) (hx:ts[i+1]?=some x) (h:ji p.m x.m=false):okB v ts=false:=by
 unfold okB;rw [abU];refine .inr (aaV.2 fun h2=> ?_);rw [HC h2 hp hx] at h
 cases h
theorem AL (v:Int) (A:Option Addr) (n c:Nat) (ts:List TR) (w:World) (hT:e8 w) (hS:Sl w A n 4 (aD TR.cells ts)) (hn:n≤1000000) (ho:∀t∈ts,t.c.ok∧t.m.size≤100000):
  Calls Tryz.prog 53 #[.agg #[.int .i64 v,.slice A n c]] w fun r w'=>r=.returned (.int .i64 (fj v ts))∧Below w.heap.size w w':=by
 have hh:=Hp.start w;have hln:=hS.bh TR.len Yw;have hfw:=fun w1=>oV v w1
 cases hf:iJ v with
 |false=>
  rw [hf] at hfw;rw [show fj v ts=1 by unfold fj;rw [YA hf]];refine NX ?_;refine sr ?_;refine cu hh [_,_] ?_;intro b1 w1 hh;refine aI (aa (ai (sr (bJ ?_))));refine bG hh 0 ?_;refine bA hh (hfw _) rfl ?_;intro w7 hh;refine fV ?_;exact Gj
 |true=>
  rw [hf] at hfw;by_cases h4:4096<n
  ·rw [show fj v ts=3 by unfold fj;rw [YB (by rw [hf];decide),YA Yv]];refine NX ?_;refine sr ?_;refine cu hh [_,_] ?_;intro b1 w1 hh;refine aI (aa (ai (sr (bJ ?_))));refine bG hh 0 ?_;refine bA hh (hfw _) rfl ?_;intro w7 hh;refine fV ?_;exact VA
  ·have hbad:=fun h=>Eh (v:=v) (ts:=ts) hf Yv h;refine NX ?_;refine sr ?_;refine cu hh [_,_] ?_;intro b1 w1 hh;refine aI (aa (ai (sr (bJ ?_))));refine bG hh 0 ?_;refine bA hh (hfw _) rfl ?_;intro w7 hh;refine fV ?_;refine Bx ?_;refine bG hh 0 ?_;refine aK ?_;refine bT (aa (cF (au (aj (ai (sr (bJ ?_)))))));refine bG hh 0 ?_;refine aK (mI (aa (av ?_)));refine aT [2,3,4,16,17,18,19,20,21,22,23,24,25,26,27,28,29,30,31,32,33,34,35,36,37,38,39,40,41,42,43,44,45,46,47,48,49,50,51,52,53,54,55,56,57] 16
    (fun x w'=>∃i:Nat,i≤n∧x=.int .i64 i∧(ts.take i).all (j5 v)=true∧um (ts.take i)=true∧Hp w [.blk b1 24 [.int .i64 v,.slice A n c] (0,0)] w')
    (fun x _=>n-(intOf x).toNat) ?_ ?_
   ·exact ⟨0,YD _,rfl,rfl,rfl,hh⟩
   ·clear hh;rintro ρ' x_ w' ⟨i,hi,rfl,hall,hris,hh⟩;by_cases hlt:i<n
    ·obtain ⟨x,hx⟩:=ao (l:=ts) (k:=i) Yv;obtain ⟨ad,rfl,hr⟩:=hS.at_ Yv;obtain ⟨hxo,hxm⟩:=ho x (YF hx);have hmay:=fun w1=>ml x.m v w1 Yv;have hsg:=fun w1=>iU x.c w1;have hfo:=fun w1 hT1=>fp x.c w1 hT1 (by have:=hxo.1;omega) (by have:=hxo.2.1;omega) (by have:=hxo.2.2;omega);have hzz:x.c.i.sign=0↔x.c.d=0:=by
      exact Ot
     cases hm:eK x.m.data.toList && decide ((x.m.size:Int)=v) with
     |false=>
      rw [hm] at hmay;rw [hbad (pH hx (by unfold j5;rw [hm];rfl))];refine sr ?_;refine e9 ?_;refine cE ?_;refine mq ?_;refine bW hh ?_;intro b4 w4 hh;refine aI ?_;refine bV hh 0 [_,_,_,_] ?_;intro ws hh;replace hh:Hp _ (.blk _ _ [_,_,_,_] _::_) _:=hh;refine aa (ai ?_)
      refine cP [] [] zL1 33 zL0 [(32,53),(31,52),(30,51),(29,50),(28,49),(27,48),(26,47),(25,46),(24,45),(23,44),(22,43),(21,42),(20,41),(19,40),(18,39),(17,38),(16,37),(15,36),(14,35),(13,34),(12,33),(11,32),(10,31),(9,30),(8,29),(7,28),(6,27),(5,26),(4,25),(3,24),(2,23),(1,22),(0,21)] hh mixed Yx dr rfl (by repeat (first|exact cz|refine bU ?_|refine cw ?_)) ?_
      refine cX ?_;refine dT 0 ?_;refine cX ?_;refine dT 1 ?_;refine dC (fun _ hj=>hmay _) ?_;refine xy ?_;refine j9 ?_;refine dS (dS (dS (dS ?_)));refine Bt ?_;exact Rl
     |true=>
      rw [hm] at hmay;by_cases hz:x.c.d=0
      ·have hs:=hzz.2 hz;rw [hbad (pH hx (by unfold j5 oU;rw [hm,YV hz];rfl))];refine sr ?_;refine e9 ?_;refine cE ?_;refine mq ?_;refine bW hh ?_;intro b4 w4 hh;refine aI ?_;refine bV hh 0 [_,_,_,_] ?_;intro ws hh;replace hh:Hp _ (.blk _ _ [_,_,_,_] _::_) _:=hh;refine aa (ai ?_)
       refine cP [] [] zL1 33 zL0 [(32,53),(31,52),(30,51),(29,50),(28,49),(27,48),(26,47),(25,46),(24,45),(23,44),(22,43),(21,42),(20,41),(19,40),(18,39),(17,38),(16,37),(15,36),(14,35),(13,34),(12,33),(11,32),(10,31),(9,30),(8,29),(7,28),(6,27),(5,26),(4,25),(3,24),(2,23),(1,22),(0,21)] hh mixed Yx dr rfl (by repeat (first|exact cz|refine bU ?_|refine cw ?_)) ?_
       refine cX ?_;refine dT 0 ?_;refine cX ?_;refine dT 1 ?_;refine dC (fun _ hj=>hmay _) ?_;refine xy ?_;refine j9 ?_;refine dG (cX ?_);refine dG (ef 0 [_,_,_] ?_);refine Bw ?_;refine dG (qO ?_);refine Kh ?_;exact Rl
      ·have hs:¬x.c.i.sign=0:=fun h=>hz (hzz.1 h);by_cases hnf:nR x.c.d=x.c
       ·have hgood:j5 v x=true:=by unfold j5 oU;rw [hm,Y3 hz,(pq x.c).2 hnf];rfl
        have hall2:(ts.take (i+1)).all (j5 v)=true:=by rw [aC hx,List.all_append,hall];simp [hgood]
        by_cases h0:i=0
        ·refine sr ?_;refine e9 ?_;refine cE ?_;refine mq ?_;refine bW hh ?_;intro b4 w4 hh;refine aI ?_;refine bV hh 0 [_,_,_,_] ?_;intro ws hh;replace hh:Hp _ (.blk _ _ [_,_,_,_] _::_) _:=hh;refine aa (ai ?_)
         refine cP [] [] zL1 33 zL0 [(32,53),(31,52),(30,51),(29,50),(28,49),(27,48),(26,47),(25,46),(24,45),(23,44),(22,43),(21,42),(20,41),(19,40),(18,39),(17,38),(16,37),(15,36),(14,35),(13,34),(12,33),(11,32),(10,31),(9,30),(8,29),(7,28),(6,27),(5,26),(4,25),(3,24),(2,23),(1,22),(0,21)] hh mixed Yx dr rfl (by repeat (first|exact cz|refine bU ?_|refine cw ?_)) ?_
         refine cX ?_;refine dT 0 ?_;refine cX ?_;refine dT 1 ?_;refine dC (fun _ hj=>hmay _) ?_;refine xy ?_;refine j9 ?_;refine dG (cX ?_);refine dG (ef 0 [_,_,_] ?_);refine Bw ?_;refine dG (qO ?_);refine Kh ?_;refine j9 ?_;refine dG (cX ?_);refine dG (ef 0 [_,_,_] ?_);refine IE ?_;refine dG (cX ?_);refine dG (ef 0 [_,_,_] ?_);refine MA ?_;refine Kh ?_;refine j9 ?_;refine dG (cZ ?_);refine dG (IQ ?_);refine dG (j9 ?_);refine dS (dS (dS (dS ?_)));refine pJ (i:=28) rfl (fun ρ1 w1 hj hR=>(show ρ1 44=Value.bool _ from hR.2.2.1)) Yw ?_;refine dS (dS (dS (dS ?_)));refine aM ?_;intro f W hJ hV _;have hb_8:=hJ.bl;obtain ⟨v53,v52,v51,v50,v49,v48,v47,v46,v45,v44,v43,v42,v41,v40,v39,v38,v37,v36,v35,v34,v33,v32,v31,v30,v29,v28,v27,v26,v25,v24,v23,v22,v21,_⟩:=hV;replace hh:=hJ.hp;refine H6 ?_;dsimp only [bO];clear hJ;refine gS (gT ?_)
         (first|refine fG ?_|refine dX ?_)
         refine dX ?_;refine Cz ?_;refine bm (mI (aE (aj ?_)));exact Rk
        ·obtain ⟨q,hq⟩:∃q,i=q+1:=⟨i-1,Yv⟩;obtain ⟨p,hp⟩:=ao (l:=ts) (k:=q) Yv
         cases hlp:ji p.m x.m with
         |false=>
          rw [hbad (Cj hp (hq ▸ hx) hlp)];have hge:(!(Op.bytesLess p.m.toList x.m.toList))=true:=by rw [jX,hlp];rfl
          refine sr ?_;refine e9 ?_;refine cE ?_;refine mq ?_;refine bW hh ?_;intro b4 w4 hh;refine aI ?_;refine bV hh 0 [_,_,_,_] ?_;intro ws hh;replace hh:Hp _ (.blk _ _ [_,_,_,_] _::_) _:=hh;refine aa (ai ?_)
          refine cP [] [] zL1 33 zL0 [(32,53),(31,52),(30,51),(29,50),(28,49),(27,48),(26,47),(25,46),(24,45),(23,44),(22,43),(21,42),(20,41),(19,40),(18,39),(17,38),(16,37),(15,36),(14,35),(13,34),(12,33),(11,32),(10,31),(9,30),(8,29),(7,28),(6,27),(5,26),(4,25),(3,24),(2,23),(1,22),(0,21)] hh mixed Yx dr rfl (by repeat (first|exact cz|refine bU ?_|refine cw ?_)) ?_
          refine cX ?_;refine dT 0 ?_;refine cX ?_;refine dT 1 ?_;refine dC (fun _ hj=>hmay _) ?_;refine xy ?_;refine j9 ?_;refine dG (cX ?_);refine dG (ef 0 [_,_,_] ?_);refine Bw ?_;refine dG (qO ?_);refine Kh ?_;refine j9 ?_;refine dG (cX ?_);refine dG (ef 0 [_,_,_] ?_);refine IE ?_;refine dG (cX ?_);refine dG (ef 0 [_,_,_] ?_);refine MA ?_;refine Kh ?_;refine j9 ?_;refine dG (cZ ?_);refine dG (IQ ?_);refine dG (j9 ?_);refine dG (cX ?_);refine dG (dT 1 ?_);refine dG (cZ ?_);refine dG (qE ?_);refine dG (jA (q) ?_);refine dG (qG ?_);refine HS ?_;refine dG (cX ?_);refine dG (dT 0 ?_);refine aM ?_;intro f W hJ hV _;have hb_8:=hJ.bl;obtain ⟨v53,v52,v51,v50,v49,v48,v47,v46,v45,v44,v43,v42,v41,v40,v39,v38,v37,v36,v35,v34,v33,v32,v31,v30,v29,v28,v27,v26,v25,v24,v23,v22,v21,_⟩:=hV;replace hh:=hJ.hp;refine H6 ?_;dsimp only [bO];clear hJ;refine gT ?_;refine o9 rfl rfl Yw ?_;refine gT ?_
          (first|refine fG ?_|refine dX ?_)
          refine dX ?_;exact Rw
         |true=>
          have hge:(!(Op.bytesLess p.m.toList x.m.toList))=false:=by rw [jX,hlp];rfl
          refine sr ?_;refine e9 ?_;refine cE ?_;refine mq ?_;refine bW hh ?_;intro b4 w4 hh;refine aI ?_;refine bV hh 0 [_,_,_,_] ?_;intro ws hh;replace hh:Hp _ (.blk _ _ [_,_,_,_] _::_) _:=hh;refine aa (ai ?_)
          refine cP [] [] zL1 33 zL0 [(32,53),(31,52),(30,51),(29,50),(28,49),(27,48),(26,47),(25,46),(24,45),(23,44),(22,43),(21,42),(20,41),(19,40),(18,39),(17,38),(16,37),(15,36),(14,35),(13,34),(12,33),(11,32),(10,31),(9,30),(8,29),(7,28),(6,27),(5,26),(4,25),(3,24),(2,23),(1,22),(0,21)] hh mixed Yx dr rfl (by repeat (first|exact cz|refine bU ?_|refine cw ?_)) ?_
          refine cX ?_;refine dT 0 ?_;refine cX ?_;refine dT 1 ?_;refine dC (fun _ hj=>hmay _) ?_;refine xy ?_;refine j9 ?_;refine dG (cX ?_);refine dG (ef 0 [_,_,_] ?_);refine Bw ?_;refine dG (qO ?_);refine Kh ?_;refine j9 ?_;refine dG (cX ?_);refine dG (ef 0 [_,_,_] ?_);refine IE ?_;refine dG (cX ?_);refine dG (ef 0 [_,_,_] ?_);refine MA ?_;refine Kh ?_;refine j9 ?_;refine dG (cZ ?_);refine dG (IQ ?_);refine dG (j9 ?_);refine dG (cX ?_);refine dG (dT 1 ?_);refine dG (cZ ?_);refine dG (qE ?_);refine dG (jA (q) ?_);refine dG (qG ?_);refine HS ?_;refine dG (cX ?_);refine dG (dT 0 ?_);refine aM ?_;intro f W hJ hV _;have hb_8:=hJ.bl;obtain ⟨v53,v52,v51,v50,v49,v48,v47,v46,v45,v44,v43,v42,v41,v40,v39,v38,v37,v36,v35,v34,v33,v32,v31,v30,v29,v28,v27,v26,v25,v24,v23,v22,v21,_⟩:=hV;replace hh:=hJ.hp;refine H6 ?_;dsimp only [bO];clear hJ;refine gT ?_;refine o9 rfl rfl Yw ?_;refine gT ?_
          (first|refine fG ?_|refine dX ?_)
          refine dX ?_;refine aa ?_;rw [hge];refine cF (au (bM (aj (ar ?_))));refine bm (mI (aE (aj ?_)));exact Rt
       ·rw [hbad (pH hx (by unfold j5 oU;rw [hm,Y3 hz,aaV.2 (fun h=>hnf ((pq x.c).1 h))];rfl))];refine sr ?_;refine e9 ?_;refine cE ?_;refine mq ?_;refine bW hh ?_;intro b4 w4 hh;refine aI ?_;refine bV hh 0 [_,_,_,_] ?_;intro ws hh;replace hh:Hp _ (.blk _ _ [_,_,_,_] _::_) _:=hh;refine aa (ai ?_)
        refine cP [] [] zL1 33 zL0 [(32,53),(31,52),(30,51),(29,50),(28,49),(27,48),(26,47),(25,46),(24,45),(23,44),(22,43),(21,42),(20,41),(19,40),(18,39),(17,38),(16,37),(15,36),(14,35),(13,34),(12,33),(11,32),(10,31),(9,30),(8,29),(7,28),(6,27),(5,26),(4,25),(3,24),(2,23),(1,22),(0,21)] hh mixed Yx dr rfl (by repeat (first|exact cz|refine bU ?_|refine cw ?_)) ?_
        refine cX ?_;refine dT 0 ?_;refine cX ?_;refine dT 1 ?_;refine dC (fun _ hj=>hmay _) ?_;refine xy ?_;refine j9 ?_;refine dG (cX ?_);refine dG (ef 0 [_,_,_] ?_);refine Bw ?_;refine dG (qO ?_);refine Kh ?_;refine j9 ?_;refine dG (cX ?_);refine dG (ef 0 [_,_,_] ?_);refine IE ?_;refine dG (cX ?_);refine dG (ef 0 [_,_,_] ?_);refine uN (i:=18) rfl (fun ρ1 w1 hj hR=>(show ρ1 33=Value.bool _ from hR.2.2.1)) (fun ρ1 w1 hj hR=>HH (show ρ1 36=Value.agg (List.toArray _) from hR.1) (show ρ1 38=Value.agg (List.toArray _) from hR.2.1) (by assumption)) ?_;refine Kh ?_;exact Xr
    ·rw [YG Yv] at hall hris;rw [show fj v ts=0 by unfold fj okB;rw [YB (by rw [hf];decide),YB Yv,hall,hris];rfl];refine sr ?_;refine Iw ?_;refine dh ?_;exact ⟨rfl,hh.below⟩
def eY (v:Int) (t:TR):Bool:=eK t.m.data.toList && decide ((t.m.size:Int)=v)
theorem B4 (z:TR) (v:Int) (b:Nat) (w:World) (hp:w.cell? ⟨b,0,none⟩=some (.int .i64 v)) (hz:z.m.size≤100000):Calls Tryz.prog 137 #[.agg #[.string z.m,.bool z.c.neg,.string z.c.bj,.int .i64 z.c.e],.pointer (some ⟨b,0,none⟩)] w fun r w'=>r=.returned (.bool (!eY v z))∧Below w.heap.size w w':=by
 have hh:=Hp.start w;have hmay:=fun w1=>ml z.m v w1 Yv;unfold eY;refine ak (N:=9) (l:=[.agg #[.string z.m,.bool z.c.neg,.string z.c.bj,.int .i64 z.c.e],.pointer (some ⟨b,0,none⟩)]) Tryz.func137 rfl rfl (by simp) ?_;refine sr ?_;refine cu hh [_,_,_,_] ?_;intro b2 w2 hh;refine aB (aa (sr (bJ ?_)));refine bG hh 0 ?_;refine cv aU.out rfl (cH hh.below hp) Yw ?_;refine bA hh (hmay _) rfl ?_;intro w7 hh
 cases eK z.m.data.toList && decide ((z.m.size:Int)=v) with
 |false=>
  refine fV ?_;exact xG
 |true=>
  refine fV ?_;exact xG
theorem xw (A:Option Addr) (n c:Nat) (l:List TR) (v:Int) (b:Nat) (w:World) (hS:Sl w A n 4 (aD TR.cells l)) (hn:n≤1000000) (hp:w.cell? ⟨b,0,none⟩=some (.int .i64 v)) (hz:∀t∈l,t.m.size≤100000):
  Calls Tryz.prog 136 #[.slice A n c,.func (.func 137) #[] #[.pointer (some ⟨b,0,none⟩)]] w fun r w'=>r=.returned (.bool (l.any fun t=> !eY v t))∧Below w.heap.size w w':=
 Fs A n c l 137 [.pointer (some ⟨b,0,none⟩)] (fun t=> !eY v t) w hS hn fun z w1 hz2 hb=>B4 z v b w1 (cH hb hp) (hz z hz2)
def r7 (v:Int) (l:List TR):Int:=if iJ v=false∨(l.any fun t=> !eY v t)=true then 1 else if 65536<l.length then 3 else gF l
theorem nI (v:Int) (A:Option Addr) (n c:Nat) (l:List TR) (k:Nat) (w:World) (hT:e8 w) (hS:Sl w A n 4 (aD TR.cells l)) (hn:n≤1000000) (hk:k≤2999980) (ho:ja k l) (hz:∀t∈l,t.m.size≤100000):
  Calls Tryz.prog 90 #[.int .i64 v,.slice A n c] w fun r w'=>∃g:PX,dW (r7 v l) v (aF l) g∧r=.returned (.tuple #[.agg #[.int .i64 g.v,.slice g.A g.n g.c],.int .i64 (r7 v l)])∧Hp w [g.row] w':=by
 have hh:=Hp.start w;have hln:=hS.bh TR.len Yw;have hfw:=fun w1=>oV v w1;have han:=fun b w1 hb hp=>xw A n c l v b w1 (hS.ext hb) hn hp hz
 cases hf:iJ v with
 |false=>
  rw [hf] at hfw;rw [show r7 v l=1 by unfold r7;rw [YA (.inl hf)]];refine GU ?_;refine sr ?_;refine cu hh [_] ?_;intro b2 w2 hh;refine bW hh ?_;intro b4 w4 hh;refine aI (aa (ai (sr ?_)));refine bG hh 1 ?_;refine bA hh (hfw _) rfl ?_;intro w7 hh;refine fV ?_;refine mB ?_;refine gS (gS ?_);refine jG ?_;exact HW
 |true=>
  rw [hf] at hfw
  cases ha:l.any fun t=> !eY v t with
  |true=>
   rw [ha] at han;rw [show r7 v l=1 by unfold r7;rw [YA (.inr ha)]];refine GU ?_;refine sr ?_;refine cu hh [_] ?_;intro b2 w2 hh;refine bW hh ?_;intro b4 w4 hh;refine aI (aa (ai (sr ?_)));refine bG hh 1 ?_;refine bA hh (hfw _) rfl ?_;intro w7 hh;refine fV ?_;refine mB (gT (mL (gT ?_)));refine yb ?_;refine aP rfl rfl ?_;refine bA hh (han _ _ hh.below (hh.eT (i:=1) (o:=0) rfl rfl)) rfl ?_;intro w12 hh;refine dX ?_;refine aa (cT (sr ?_));exact Sf
  |false=>
   rw [ha] at han;have e1:r7 v l=if 65536<l.length then 3 else gF l:=by unfold r7;rw [YB (by rw [hf,ha];decide)]
   by_cases h6:65536<n
   ·rw [e1,YA Yv];refine GU ?_;refine sr ?_;refine cu hh [_] ?_;intro b2 w2 hh;refine bW hh ?_;intro b4 w4 hh;refine aI (aa (ai (sr ?_)));refine bG hh 1 ?_;refine bA hh (hfw _) rfl ?_;intro w7 hh;refine fV ?_;refine mB (gT (mL (gT ?_)));refine yb ?_;refine aP rfl rfl ?_;refine bA hh (han _ _ hh.below (hh.eT (i:=1) (o:=0) rfl rfl)) rfl ?_;intro w12 hh;refine dX ?_;refine aa (cF (au (aj (ai (sr (mL (aK ?_)))))));refine bT (aa (cT (sr ?_)));exact Sf
   ·rw [e1,YB Yv];refine GU ?_;refine sr ?_;refine cu hh [_] ?_;intro b2 w2 hh;refine bW hh ?_;intro b4 w4 hh;refine aI (aa (ai (sr ?_)));refine bG hh 1 ?_;refine bA hh (hfw _) rfl ?_;intro w7 hh;refine fV ?_;refine mB (gT (mL (gT ?_)));refine yb ?_;refine aP rfl rfl ?_;refine bA hh (han _ _ hh.below (hh.eT (i:=1) (o:=0) rfl rfl)) rfl ?_;intro w12 hh;refine dX ?_;refine aa (cF (au (aj (ai (sr (mL (aK ?_)))))));refine bT (aa (cF (au (aj (ai ?_)))));refine mn [] [0,0,2,7,15,15,63,127] 3 [[(2,none)],[(1,none)],[(20,some 1)]] [(2,21),(1,20),(0,19)] [([],4,[(2,21),(1,20),(0,19)])] hh mixed Yx Yx Yw ?_;refine dT 1 ?_;refine eQ ?_;refine aO (i:=2) (ru hh.sz 80 n 4 (aD TR.cells l)) (ru.ext) ?_ ?_
    ·intro ρ1 w1 hj hR;exact bk rfl (aV aw.out (az (show ρ1 20=Value.slice _ _ _ from hR.1) bf)) (mR A n c l w1 (hS.ext hj.hp.below) hn) (fun _ _ ⟨A,c,hq,ho,hb⟩=>⟨_,hq,hb,A,c,rfl,qw ho hj.bl.size⟩)
    refine aM ?_;intro p_ hp_;simp only [YS,abE,or_false] at hp_
    rcases hp_ with rfl
    intro f W hJ hV;have hb_5:=hJ.bl;obtain ⟨v21,v20,v19,_⟩:=hV;simp only [m8];have e19:f 0=_:=v19;rw [e19];have e20:f 1=_:=v20;rw [e20];obtain ⟨A21,c21,e21,o21⟩:ru _ _ _ _ _ (f 2) W:=v21;rw [e21];replace hh:=JJ.FJ hh hJ.hp o21;clear o21;clear e19 e20 e21 hJ;refine aJ (lR v A21 n c21 l k _ hT hh hln Yv Yv ho) aw.out rfl Yw ?_;rintro e_ w22 ⟨g,og,rfl,hh⟩;refine ⟨_,rfl, ?_⟩;refine fJ ?_;refine dz (i:=4) (by repeat (first|exact cz|refine bU ?_|refine cw ?_|refine np_scope ?_)) rfl Yx Yx Yx (fun _=>gk (show _=Value.tuple (List.toArray _) from rfl) rfl) Yw ?_;refine dz (i:=5) (by repeat (first|exact cz|refine bU ?_|refine cw ?_|refine np_scope ?_)) rfl Yx Yx Yx (fun _=>gk (show _=Value.tuple (List.toArray _) from rfl) rfl) Yw ?_;refine lV 6 Yw Yx Yw Yx Yx ?_;exact Oh
def PX.cells (g:PX):List Value:=[.int .i64 g.v,.slice g.A g.n g.c]
theorem PX.len (g:PX):(PX.cells g).length=2:=rfl
structure PX.j8 (g:PX) (k:Nat):Prop where
 n:g.n≤1000000
 cap:g.n≤g.c
 ok:ja k g.ts
 sz:∀t∈g.ts,t.m.size≤100000
def PX.e (g:PX):Int:=fj g.v g.ts
theorem pB (g:PX) (k:Nat) (w:World) (hT:e8 w) (h:g.at_ w) (hl:g.j8 k):
  Calls Tryz.prog 53 #[.agg #[.int .i64 g.v,.slice g.A g.n g.c]] w fun r w'=>r=.returned (.int .i64 g.e)∧Below w.heap.size w w':=
 AL g.v g.A g.n g.c g.ts w hT h hl.n fun t ht=>⟨(hl.ok t ht).1,hl.sz t ht⟩
def ug (ps:List PX):Bool:=ps.any fun g=>decide (g.v≠(ps.map PX.v).headD 0)
def eE (ps:List PX):Int:=match ps.find? (fun g=>decide (g.e≠0)) with|some g=>g.e|none=>if ps.length=0∨ug ps=true then 1 else 0
theorem Er (L:Option Addr) (n c:Nat) (ps:List PX) (f:PX) (p:Addr) (w:World) (hL:Sl w L n 2 (aD PX.cells ps)) (hp:w.cell? p=some (.slice L n c)) (hn:0<n):
  Calls Tryz.prog 172 #[.agg #[.int .i64 f.v,.slice f.A f.n f.c],.pointer (some p)] w fun r w'=>r=.returned (.bool (decide (f.v≠(ps.map PX.v).headD 0)))∧Below w.heap.size w w':=by
 have hh:=Hp.start w;have hln:=hL.bh PX.len Yw;obtain ⟨g,ps,rfl⟩:∃g l,ps=g::l:=by
  cases ps with
  |nil=>exact absurd hln (by show ¬0=n;omega)
  |cons g l=>exact ⟨g,l,rfl⟩
 obtain ⟨ad,rfl,hr⟩:=hL.at_ hn;have hd:(((g::ps).map PX.v).headD 0)=g.v:=rfl;rw [hd];have h0:(g::ps)[0]?=some g:=rfl;by_cases hg:f.v=g.v
 ·refine ak (N:=11) (l:=[.agg #[.int .i64 f.v,.slice f.A f.n f.c],.pointer (some p)]) Tryz.func172 rfl rfl (by simp) ?_;refine sr ?_;refine cu hh [_,_] ?_;intro b2 w2 hh;refine aB (aa (ai ?_));refine Sc ?_;refine cX ?_;refine dT 0 ?_;refine pK (fun _ hj=>(hj.hp.below.cell (mW hp)).trans hp) ?_;refine bu (i:=3) (fun ρ1 w1 hj hR=>dL bo.out aU.size (show ρ1 6=Value.slice _ _ _ from hR.1) rfl Yv Yv) ?_;refine qG ?_;refine pK (fun _ hj=>cH hj.hp.below (((hr.recAt PX.len h0)) 0 _ rfl)) ?_;refine aM ?_;intro f W hJ hV;have hb_1:=hJ.bl;obtain ⟨v9,v8,v7,v6,v5,v4,_⟩:=hV;replace hh:=hJ.hp;refine aQ (bg (ae v9 (ae v8 (ae v7 (ae v6 (ae v5 (ae v4 aR))))))) ?_;dsimp only [bO];clear hJ;exact Rm
 ·refine ak (N:=11) (l:=[.agg #[.int .i64 f.v,.slice f.A f.n f.c],.pointer (some p)]) Tryz.func172 rfl rfl (by simp) ?_;refine sr ?_;refine cu hh [_,_] ?_;intro b2 w2 hh;refine aB (aa (ai ?_));refine Sc ?_;refine cX ?_;refine dT 0 ?_;refine pK (fun _ hj=>(hj.hp.below.cell (mW hp)).trans hp) ?_;refine bu (i:=3) (fun ρ1 w1 hj hR=>dL bo.out aU.size (show ρ1 6=Value.slice _ _ _ from hR.1) rfl Yv Yv) ?_;refine qG ?_;refine pK (fun _ hj=>cH hj.hp.below (((hr.recAt PX.len h0)) 0 _ rfl)) ?_;refine aM ?_;intro f W hJ hV;have hb_1:=hJ.bl;obtain ⟨v9,v8,v7,v6,v5,v4,_⟩:=hV;replace hh:=hJ.hp;refine aQ (bg (ae v9 (ae v8 (ae v7 (ae v6 (ae v5 (ae v4 aR))))))) ?_;dsimp only [bO];clear hJ;exact RM
theorem Ev (A:Option Addr) (n c:Nat) (l:List PX) (g:FuncId) (cap:List Value) (p:PX→Bool) (w:World) (hS:Sl w A n 2 (aD PX.cells l)) (hn:n≤1000000) [aw Tryz.prog g]
  (hg:∀(z:PX) (w1:World),z∈l→Below w.heap.size w w1→Calls Tryz.prog g (.agg #[.int .i64 z.v,.slice z.A z.n z.c]::cap).toArray w1 fun r w'=>r=.returned (.bool (p z))∧Below w1.heap.size w1 w'):
  Calls Tryz.prog 177 #[.slice A n c,.func (.func g) #[] cap.toArray] w fun r w'=>∃v,r=.returned (.int .i64 v)∧(0≤v↔l.any p=true)∧Below w.heap.size w w':=by
 have hh:=Hp.start w;have hln:=hS.bh PX.len Yw;refine ak (N:=19) (l:=[.slice A n c,.func (.func g) #[] cap.toArray]) Tryz.func177 rfl rfl (by simp) ?_;refine CW ?_;refine aT [4,5,8,9,10,11,12,13,14,15,16,17,18] 8
  (fun v w'=>∃i:Nat,i≤n∧v=.int .i64 i∧(l.take i).any p=false∧Hp w [] w')
  (fun v _=>n-(intOf v).toNat) ?_ ?_
 ·exact ⟨0,YD _,rfl,rfl,hh⟩
 ·clear hh;rintro ρ' v w' ⟨i,hi,rfl,hall,hh⟩;by_cases hlt:i<n
  ·obtain ⟨z,hz⟩:=ao (l:=l) (k:=i) Yv;obtain ⟨ad,rfl,hr⟩:=hS.at_ Yv;have hc:=fun w1=>hg z w1 (YF hz)
   cases gz:p z with
   |true=>
    rw [gz] at hc;refine sr ?_;refine tF ?_;refine jC ?_;refine mL (mI ?_);refine cE ?_;refine cG (vs:=[_,_]) aU.out rfl ((hr.ext hh.below).recAt PX.len hz) rfl Yw ?_;exact Tl
   |false=>
    rw [gz] at hc;refine sr ?_;refine tF ?_;refine jC ?_;refine mL (mI ?_);refine cE ?_;refine cG (vs:=[_,_]) aU.out rfl ((hr.ext hh.below).recAt PX.len hz) rfl Yw ?_;exact Gv
  ·exact SQ
theorem xn (A:Option Addr) (n c:Nat) (l:List PX) (g:FuncId) (cap:List Value) (p:PX→Bool) (w:World) (hS:Sl w A n 2 (aD PX.cells l)) (hn:n≤1000000) [aw Tryz.prog g]
  (hg:∀(z:PX) (w1:World),z∈l→Below w.heap.size w w1→Calls Tryz.prog g (.agg #[.int .i64 z.v,.slice z.A z.n z.c]::cap).toArray w1 fun r w'=>r=.returned (.bool (p z))∧Below w1.heap.size w1 w'):
  Calls Tryz.prog 139 #[.slice A n c,.func (.func g) #[] cap.toArray] w fun r w'=>r=.returned (.bool (l.any p))∧Below w.heap.size w w':=by
 have hh:=Hp.start w;refine ak (N:=9) (l:=[.slice A n c,.func (.func g) #[] cap.toArray]) Tryz.func139 rfl rfl (by simp) ?_;refine sr (aB (aa (sr (mL ?_))));refine jC ?_;refine aJ (Ev A n c l g cap p _ (hS.ext hh.below) hn hg) aw.out rfl Yw ?_;exact Ta
theorem tG (L:Option Addr) (n c:Nat) (ps:List PX) (k:Nat) (w:World) (hT:e8 w) (hL:Sl w L n 2 (aD PX.cells ps)) (hn:n≤1000000) (hf:∀g∈ps,g.at_ w) (hl:∀g∈ps,g.j8 k):
  Calls Tryz.prog 128 #[.slice L n c] w fun r w'=>r=.returned (.int .i64 (eE ps))∧Below w.heap.size w w':=by
 have hh:=Hp.start w;have hln:=hL.bh PX.len Yw;refine ak (N:=26) (l:=[.slice L n c]) Tryz.func128 rfl rfl (by simp) ?_;refine sr ?_;refine cu hh [_] ?_;intro b1 w1 hh;refine aI (aa (ai (sr ?_)));refine bG hh 0 ?_;refine aK (mI (aa (av ?_)));refine aT [2,4,5,8,9,10,11,12,13,14,15,16,17] 8
  (fun v w'=>∃i:Nat,i≤n∧v=.int .i64 i∧(ps.take i).any (fun g=>decide (g.e≠0))=false∧Hp w [.blk b1 119 [.slice L n c] (0,0)] w')
  (fun v _=>n-(intOf v).toNat) ?_ ?_
 ·exact ⟨0,YD _,rfl,rfl,hh⟩
 ·clear hh;rintro ρ' v w' ⟨i,hi,rfl,hall,hh⟩;by_cases hlt:i<n
  ·obtain ⟨g,hx⟩:=ao (l:=ps) (k:=i) Yv;have hmem:=YF hx;have hc:=fun w1 hT1 hb=>pB g k w1 hT1 ((hf g hmem).ext hb) (hl g hmem);obtain ⟨ad,rfl,hr⟩:=hL.at_ Yv;by_cases he:g.e=0
   ·refine sr ?_;refine eC ?_;refine cE ?_;refine Ed ?_;refine bW hh ?_;intro b4 w4 hh;refine bV hh 0 [_,_] ?_;intro ws hh;replace hh:Hp _ (.blk _ _ [_,_] _::_) _:=hh;refine aa (sr ?_);refine cC hh 0 [_,_] ?_;refine bA hh (hc _ (hT.hp hh) hh.below) rfl ?_;intro w13 hh;refine aI (aa (sr (mI ?_)));refine db (aa (cF (au (bM (aj (ar ?_))))));refine bm (mI (aE (aj ?_)));replace hh:=hh.sub (YI _ (YC _ Y5));exact Qn
   ·refine sr ?_;refine eC ?_;refine cE ?_;refine Ed ?_;refine bW hh ?_;intro b4 w4 hh;refine bV hh 0 [_,_] ?_;intro ws hh;replace hh:Hp _ (.blk _ _ [_,_] _::_) _:=hh;refine aa (sr ?_);refine cC hh 0 [_,_] ?_;refine bA hh (hc _ (hT.hp hh) hh.below) rfl ?_;intro w13 hh;exact V0
  ·rw [YG Yv] at hall;have hlk:eE ps=if ps.length=0∨ug ps=true then 1 else 0:=by unfold eE;rw [iW hall]
   rw [hlk];by_cases h0:n=0
   ·refine sr ?_;refine KZ ?_;refine bG hh 0 ?_;refine aK ?_;refine di (mB ?_);refine gS (gS ?_);refine jG ?_;refine fG ?_;refine yy ?_;exact OX
   ·have hcell:w'.cell? ⟨b1,0,none⟩=some (.slice L n c):=hh.eT (i:=0) rfl rfl;have ho:=fun w1 hb=>xn L n c ps 172 [.pointer (some ⟨b1,0,none⟩)] (fun g=>decide (g.v≠(ps.map PX.v).headD 0)) w1 (hL.ext (hh.below.trans (hb.mono hh.below.size))) hn (fun z w2 hz hb2=>Er L n c ps z ⟨b1,0,none⟩ w2 ((hL.ext (hh.below.trans (hb.mono hh.below.size))).ext hb2) (cH hb2 (cH hb hcell)) Yv)
    cases hod:ug ps with
    |true=>
     have hod2:ps.any (fun g=>decide (g.v≠(ps.map PX.v).headD 0))=true:=hod;rw [hod2] at ho;refine sr ?_;refine KZ ?_;refine bG hh 0 ?_;refine aK ?_;refine di (mB (gT ?_));refine bG hh 0 ?_;refine gT ?_;refine yb ?_;refine aP rfl rfl ?_;refine bA hh (ho _ (Below.refl _ _)) rfl ?_;intro w24 hh;exact SM
    |false=>
     have hod2:ps.any (fun g=>decide (g.v≠(ps.map PX.v).headD 0))=false:=hod;rw [hod2] at ho;refine sr ?_;refine KZ ?_;refine bG hh 0 ?_;refine aK ?_;refine di (mB (gT ?_));refine bG hh 0 ?_;refine gT ?_;refine yb ?_;refine aP rfl rfl ?_;refine bA hh (ho _ (Below.refl _ _)) rfl ?_;intro w24 hh;refine dX ?_;refine H0 ?_;refine dh ?_;refine ⟨?_,hh.below⟩;rw [YB];rintro (h|h)
     ·omega
     ·cases h
structure SR where
 lo:NR
 hi:NR
def SR.cells (s:SR):List Value:=[.bool s.lo.neg,.string s.lo.bj,.int .i64 s.lo.e,.bool s.hi.neg,.string s.hi.bj,.int .i64 s.hi.e]
theorem SR.len (s:SR):(SR.cells s).length=6:=rfl
def Ul (x y:Dyadic):Dyadic:=if y<x then y else x
def Uk (x y:Dyadic):Dyadic:=if x<y then y else x
theorem MZ (x y:Dyadic):jk (fun x y=>decide (x<y)) [x,y]=Ul x y:=by simp [jk,Ul]
theorem KP (x y:Dyadic):jk (fun x y=>decide (y<x)) [x,y]=Uk x y:=by simp [jk,Uk]
def SR.L (s:SR):Dyadic:=Ul s.lo.d s.hi.d
def SR.H (s:SR):Dyadic:=Uk s.lo.d s.hi.d
def SR.f (s:SR):SR:=⟨nR s.L,nR s.H⟩
def SR.ok (s:SR):Prop:=s.lo.ok∧s.hi.ok
def SR.has (s:SR) (x:Dyadic):Bool:=decide (¬x<s.L∧¬s.H<x)
def SR.wid (s:SR):Dyadic:=s.H-s.L
def SR.X4 (s:SR):Dyadic:=(s.lo.d+s.hi.d)*se (-1)
theorem Um (x y:Dyadic):Ul x y=x∨Ul x y=y:=by unfold Ul;split<;>simp
theorem S7 (x y:Dyadic):Uk x y=x∨Uk x y=y:=by unfold Uk;split<;>simp
structure O3 (k:Nat) (a:NR):Prop where
 ok:a.ok
 sz:Sz k a.d
def SR.fin (k:Nat) (s:SR):Prop:=O3 k s.lo∧O3 k s.hi
theorem SR.Oy {s:SR} (h:s.fin k):Sz k s.L:=by
 unfold SR.L
 rcases Um s.lo.d s.hi.d with e|e<;>rw [e]
 ·exact h.1.sz
 ·exact h.2.sz
theorem SR.Sx {s:SR} (h:s.fin k):Sz k s.H:=by
 unfold SR.H
 rcases S7 s.lo.d s.hi.d with e|e<;>rw [e]
 ·exact h.1.sz
 ·exact h.2.sz
theorem FN (L:Option Addr) (n c:Nat) (l:List NR) (w:World) (hT:e8 w) (hS:Sl w L n 3 (aD NR.cells l)) (hl:∀a∈l,a.ok) (hn:n≤1000000):
  Calls Tryz.prog 159 #[.slice L n c] w fun r w'=>r=.returned (.agg (SR.cells ⟨nR (jk (fun x y=>decide (x<y)) (l.map NR.d)),nR (jk (fun x y=>decide (y<x)) (l.map NR.d))⟩).toArray)∧Below w.heap.size w w':=by
 have hh:=Hp.start w;refine ak (N:=8) (l:=[.slice L n c]) Tryz.func159 rfl rfl (by simp) ?_;refine sr ?_;refine bW hh ?_;intro b2 w2 hh;refine aa (sr (mL ?_));refine bA hh (E9 L n c l _ (hT.hp hh) (hS.ext hh.below) hl hn) rfl ?_;intro w4 hh;refine mL ?_;refine bA hh (Fe L n c l _ (hT.hp hh) (hS.ext hh.below) hl hn) rfl ?_;intro w6 hh;refine fH [_,_,_,_,_,_] ?_;exact Wg
theorem Gc (s:SR) (w:World) (hT:e8 w) (hs:s.ok):
  Calls Tryz.prog 114 #[.agg s.cells.toArray] w fun r w'=>r=.returned (.agg s.f.cells.toArray)∧Below w.heap.size w w':=by
 have hh:=Hp.start w;have hc:=fun L c w1 hT1 hS1=>FN L 2 c [s.lo,s.hi] w1 hT1 hS1 (by simpa using show s.lo.ok∧s.hi.ok from hs) Yv;simp only [Y1,Zp,MZ,KP] at hc;refine ak (N:=10) (l:=[.agg s.cells.toArray]) Tryz.func114 rfl rfl (by simp) ?_;refine sr ?_;refine cu hh [_,_,_,_,_,_] ?_;intro b1 w1 hh;refine bW hh ?_;intro b2 w2 hh;refine aa (sr (bJ ?_));refine cC hh 1 [_,_,_] (bJ ?_);refine cC hh 1 [_,_,_] ?_;refine zA ?_;intro b7 w7 hh;refine bA hh (hc _ _ _ (hT.hp hh) (hh.aG (i:=0) rfl)) rfl ?_;intro w8 hh;refine fH [_,_,_,_,_,_] ?_;refine bV hh 1 [_,_,_,_,_,_] ?_;intro ws hh;replace hh:Hp _ (_::.blk _ _ [_,_,_,_,_,_] _::_) _:=hh;refine aa (ay ?_);refine NJ (er rfl (ew (vs:=[_,_,_,_,_,_]) aU.out (hh.cn (i:=1) (n:=6) rfl rfl) rfl) fF) ?_;exact ⟨rfl,hh.below⟩
theorem AK (s:SR) (w:World) (hT:e8 w) (hs:s.ok):
  Calls Tryz.prog 126 #[.agg s.cells.toArray] w fun r w'=>r=.returned (.agg s.f.cells.toArray)∧Below w.heap.size w w':=by
 have hh:=Hp.start w;refine ak (N:=6) (l:=[.agg s.cells.toArray]) Tryz.func126 rfl rfl (by simp) ?_;refine sr ?_;refine cu hh [_,_,_,_,_,_] ?_;intro b1 w1 hh;refine bW hh ?_;intro b2 w2 hh;refine aa (sr ?_);refine cC hh 1 [_,_,_,_,_,_] ?_;refine bA hh (Gc s _ (hT.hp hh) hs) rfl ?_;intro w4 hh;refine Pm gG.out aU.out rfl rfl Yw ?_;exact Wg
set_option maxRecDepth 100000 in
theorem Fx {H:Type}{enc:TypeId×Value→H}{x:DataW H×List MemPlace} (h:DataW.trod enc Tryz.prog W base sp held fuel 70 cs=some x):
  ∃a:SR,cs=a.cells∧True:=by
 have c0:Tryz.prog.cellsOf 70=6:=by kernel_rfl
 have c1:Tryz.prog.cellsOf 40=3:=by kernel_rfl
 obtain ⟨y0,y1,n,_,hl,h0,h1⟩:=trod_struct2 Tryz.underlying70 h;obtain ⟨a,e0,_⟩:=pC h0;obtain ⟨b,e1,_⟩:=pC h1;rw [c0] at hl
 match cs,hl with
 |[x0,x1,x2,x3,x4,x5],_=>
  simp only [c1] at e0 e1;simp [NR.cells] at e0 e1;obtain ⟨rfl,rfl,rfl⟩:=e0;obtain ⟨rfl,rfl,rfl⟩:=e1;exact ⟨⟨a,b⟩,rfl,trivial⟩
set_option maxRecDepth 100000 in
theorem ME {H:Type}{enc:TypeId×Value→H}{r:Reach}{v:Value}{d:DataW H}{ps:List MemPlace}
  (hval:Value.okWide Tryz.prog W r b0 26 v) (hd:DataW.Trod enc Tryz.prog W base sp held 26 v d ps):∃(A:Option Addr) (n c:Nat) (l:List SR),v=.slice A n c∧Sl W A n 6 (aD SR.cells l)∧∀a∈l,True:=
 JH SR.len Yw Tryz.underlying26 Yx (fun _ _ _ h=>Fx h) hval hd
def sm {α:Type}:List α→(α→Dyadic)→Dyadic
 |[],_=>0
 |a::l,f=>f a+sm l f
section
variable {α β:Type}
theorem mb (l m:List α) (f:α→Dyadic):sm (l++m) f=sm l f+sm m f:=by
 induction l with
 |nil=>simp [sm,aaz]
 |cons a l ih=>simp only [YJ,sm,ih];grind
theorem jo (l:List α) (a:α) (f:α→Dyadic):sm (l++[a]) f=sm l f+f a:=by
 rw [mb];simp only [sm];grind
theorem bY {l:List α}{f g:α→Dyadic} (h:∀a∈l,f a=g a):sm l f=sm l g:=by
 induction l with
 |nil=>rfl
 |cons a l ih=>rw [sm,sm,h a YL,ih fun b hb=>h b (YP _ hb)]
theorem kp {l:List α}{f:α→Dyadic} (h:∀a∈l,f a=0):sm l f=0:=by
 induction l with
 |nil=>rfl
 |cons a l ih=>rw [sm,h a YL,ih fun b hb=>h b (YP _ hb)];grind
theorem vu (l:List α) (f g:α→Dyadic):sm l (fun a=>f a+g a)=sm l f+sm l g:=by
 induction l with
 |nil=>simp [sm]
 |cons a l ih=>simp only [sm,ih];grind
theorem oI (l:List α) (f:α→Dyadic) (c:Dyadic):sm l (fun a=>f a*c)=sm l f*c:=by
 induction l with
 |nil=>simp only [sm];grind
 |cons a l ih=>simp only [sm,ih];grind
theorem ld (l:List α) (f:α→Dyadic) (c:Dyadic):sm l (fun a=>c*f a)=c*sm l f:=by
 induction l with
 |nil=>simp only [sm];grind
 |cons a l ih=>simp only [sm,ih];grind
theorem kg (l:List α) (g:α→β) (f:β→Dyadic):sm (l.map g) f=sm l fun a=>f (g a):=by
 induction l with
 |nil=>rfl
 |cons a l ih=>rw [Y1,sm,sm,ih]
theorem uB (l:List α) (m:List β) (f:α→β→Dyadic):sm l (fun a=>sm m (f a))=sm m fun b=>sm l fun a=>f a b:=by
 induction l with
 |nil=>exact (kp fun b _=>rfl).symm
 |cons a l ih=>simp only [sm];rw [ih,←vu]
theorem yi (l:List α) (p:α→Bool) (f:α→Dyadic) (h:∀a∈l,p a=false→f a=0):sm (l.filter p) f=sm l f:=by
 induction l with
 |nil=>rfl
 |cons a l ih=>
  rw [sm,←ih fun b hb=>h b (YP _ hb)]
  cases hp:p a with
  |true=>rw [abR hp,sm]
  |false=>rw [abK (by rw [hp];exact Bool.false_ne_true),h a YL hp];grind
theorem rI (n p:Nat) (c:Dyadic):sm (List.range n) (fun q=>if q=p then c else 0)=if p<n then c else 0:=by
 induction n with
 |zero=>rw [YB Yv];rfl
 |succ n ih=>
  rw [aas,jo,ih]
  rcases Nat.lt_trichotomy p n with h|h|h
  ·rw [YA h,YB (show ¬n=p by omega),YA (show p<n+1 by omega)];grind
  ·rw [YB (show ¬p<n by omega),YA h.symm,YA (show p<n+1 by omega)];grind
  ·rw [YB (show ¬p<n by omega),YB (show ¬n=p by omega),YB (show ¬p<n+1 by omega)];grind
end
def pO (N:Nat) (L:List (Nat×Dyadic)):List Dyadic:=(List.range N).map fun p=>sm L fun q=>if q.1=p then q.2 else 0
theorem mf (N:Nat) (L:List (Nat×Dyadic)):(pO N L).length=N:=by simp [pO]
theorem vL (N:Nat):pO N []=List.replicate N 0:=by
 refine List.ext_getElem (by simp [pO]) fun i h1 h2=> ?_;simp [pO,sm]
theorem pz {p:Nat} (L:List (Nat×Dyadic)) (h:p<N):(pO N L)[p]?=some (sm L fun q=>if q.1=p then q.2 else 0):=by
 unfold pO;rw [YN,Zx h]
 rfl
theorem Jp {p:Nat}{L:List (Nat×Dyadic)}{x v:Dyadic} (h:(pO N L)[p]?=some x):(pO N L).set p (x+v)=pO N (L++[(p,v)]):=by
 have hp:p<N:=by have:=(YQ.1 h).1;rwa [mf] at this
 rw [pz L hp] at h;refine ZN fun i=> ?_;rw [aal];by_cases hi:p=i
 ·subst hi;rw [YA rfl,mf,YA hp,pz _ hp,jo,←Zl h,YA rfl]
 ·rw [YB hi];by_cases hin:i<N
  ·rw [pz _ hin,pz _ hin,jo,YB hi];congr 1;grind
  ·rw [Y7 (by rw [mf];omega),Y7 (by rw [mf];omega)]
theorem Cr {l:List α}{f:α→Dyadic} (h:∀a∈l,Sz k (f a)):Sz (k+l.length) (sm l f):=by
 induction l with
 |nil=>exact Sz.zero _
 |cons a l ih=>
  have h1:=ih fun b hb=>h b (YP _ hb);have h2:=((h a YL).mono (show k≤k+l.length by omega)).add h1;rw [sm,YZ];exact h2.mono Yv
theorem Oe {L:List (Nat×Dyadic)} (h:∀a∈L,Sz k a.2):∀x∈pO N L,Sz (k+L.length) x:=fun x hx=>by
 obtain ⟨p,_,rfl⟩:=YR.1 hx;refine Cr fun a ha=> ?_;split
 ·exact h a ha
 ·exact Sz.zero _
def aA:List Nat→Nat
 |[]=>1
 |d::ds=>(d+1)*aA ds
def dy:List Nat→Nat→List Nat
 |[],_=>[]
 |d::ds,p=>p % (d+1)::dy ds (p/(d+1))
def iI:List Nat→List Nat→Nat
 |d::ds,r::rs=>r+(d+1)*iI ds rs
 |_,_=>0
def nx:List Nat→List Nat→Prop
 |[],[]=>True
 |d::ds,r::rs=>r≤d∧nx ds rs
 |_,_=>False
theorem df (ds:List Nat):0<aA ds:=by
 induction ds with
 |nil=>exact Nat.one_pos
 |cons d ds ih=>exact Nat.mul_pos Yv ih
theorem u6:∀(ds:List Nat) (p:Nat),(dy ds p).length=ds.length
 |[],_=>rfl
 |d::ds,p=>by rw [dy,YZ,u6 ds,YZ]
theorem lO:∀(ds:List Nat) (p:Nat),nx ds (dy ds p)
 |[],_=>trivial
 |d::ds,p=>⟨by have:=Y8 p (show 0<d+1 by omega);omega,lO ds _⟩
theorem BW:∀{ds:List Nat}{p:Nat},p<aA ds→iI ds (dy ds p)=p
 |[],p,h=>by
  have:p<1:=h;show 0=p;omega
 |d::ds,p,h=>by
  have h1:p/(d+1)<aA ds:=by rw [Z2 Yv,Za];exact h
  rw [dy,iI,BW h1,abe]
theorem oR:∀{ds rs:List Nat},nx ds rs→iI ds rs<aA ds
 |[],[],_=>Nat.one_pos
 |d::ds,r::rs,h=>by
  have h1:=oR h.2;have h2:=h.1;rw [iI,aA];have h3:(d+1)*iI ds rs+(d+1)≤(d+1)*aA ds:=by
   have:=Zc (d+1) (show iI ds rs+1≤aA ds by omega);rw [Zt,YX] at this;exact this
  omega
theorem jn:∀{ds rs:List Nat},nx ds rs→dy ds (iI ds rs)=rs
 |[],[],_=>rfl
 |d::ds,r::rs,h=>by
  have h2:=h.1;rw [iI,dy,aaD,Zk Yv,Z3 _ _ Yv,ZG Yv,Y0,jn h.2]
theorem Ip (d:Nat) (ds:List Nat) (f:Nat→Dyadic):sm (List.range (aA (d::ds))) f=sm (List.range (aA ds)) fun q=>sm (List.range (d+1)) fun r=>f (r+(d+1)*q):=by
 have key:∀n,sm (List.range ((d+1)*n)) f=sm (List.range n) fun q=>sm (List.range (d+1)) fun r=>f (r+(d+1)*q):=fun n=>by
  induction n with
  |zero=>rfl
  |succ n ih=>
   rw [aas,jo,←ih,aad,List.range_add,mb,kg];congr 1;exact bY fun a _=>by rw [aat]
 exact key _
variable {ls:List Int}{q:Nat}
def kO (d:Int):List Int:=(List.range (d.toNat+1)).map fun (k:Nat)=>(k:Int)
def dI:List Int→List (List Int)
 |[]=>[[]]
 |d::ds=>(kO d).flatMap fun k=>(dI ds).map (k:: ·)
def gY (n:Nat):List Int:=List.replicate n 0
def sG:List Int→List Int→Option (List Int)
 |d::ds,k::l=>match sG ds l with
  |some l'=>some (k::l')
  |none=>if k<d then some ((k+1)::gY l.length) else none
 |_,_=>none
def pN {α:Type} (f:α→Option α):α→List α→Prop
 |a,[b]=>b=a∧f a=none
 |a,b::L=>b=a∧∃c,f a=some c∧pN f c L
 |_,[]=>False
theorem LI {f:α→Option α}{a:α} (h:f a=none):pN f a [a]:=⟨rfl,h⟩
theorem pG {f:α→Option α}{a c:α}{L:List α} (h:f a=some c) (hL:pN f c L):pN f a (a::L):=by
 cases L with
 |nil=>exact hL.elim
 |cons b L=>exact ⟨rfl,c,h,hL⟩
theorem yd {f:α→Option α}{a:α}{L:List α} (h:pN f a L):(L=[a]∧f a=none)∨∃c L',L=a::L'∧f a=some c∧pN f c L':=by
 match L,h with
 |[b],h=>exact .inl ⟨by rw [h.1],h.2⟩
 |b::c::L,h=>obtain ⟨h1,x,h2,h3⟩:=h;exact .inr ⟨x,c::L,by rw [h1],h2,h3⟩
theorem C4 {α β:Type}{f:α→Option α}{g:β→Option β}{e:α→β}{b:List β}{z:Option β} (hs:∀a c,f a=some c→g (e a)=some (e c)) (hn:∀a,f a=none→g (e a)=z)
  (hz:match z with|some c=>pN g c b|none=>b=[]):∀(L:List α) (a:α),pN f a L→pN g (e a) (L.map e++b)
 |[c],a,h=>by
  obtain ⟨h1,h2⟩:=h;subst h1
  cases z with
  |none=>simp only at hz;subst hz;exact LI (hn _ h2)
  |some x=>exact pG (hn _ h2) hz
 |c::d::L,a,h=>by
  obtain ⟨h1,x,h2,h3⟩:=h;subst h1;exact pG (hs _ _ h2) (C4 hs hn hz (d::L) x h3)
theorem L8 (a:Int):∀n:Nat,((List.range (n+1)).map fun (k:Nat)=>a+(k:Int))=a::((List.range n).map fun (k:Nat)=>(a+1)+(k:Int))
 |n=>by
  rw [List.range_succ_eq_map,Y1,Zy];congr 1
  ·simp
  ·apply aaB;intro k _;simp only [Function.comp];omega
theorem Dv {ds:List Int}{k d:Int}{R:List (List Int)} (hk:k<d) (ih:pN (sG (d::ds)) ((k+1)::gY ds.length) R):∀(L':List (List Int)) (a:List Int),(∀l∈L',l.length=ds.length)→pN (sG ds) a L'→pN (sG (d::ds)) (k::a) (L'.map (k:: ·)++R)
 |[c],a,hl,h=>by
  obtain ⟨h1,h2⟩:=h;subst h1;refine pG (c:=(k+1)::gY ds.length) ?_ ih;have:c.length=ds.length:=hl c (by simp);simp [sG,h2,this,hk]
 |c::e::L',a,hl,h=>by
  obtain ⟨h1,x,h2,h3⟩:=h;subst h1;exact pG (c:=k::x) (by simp [sG,h2]) (Dv hk ih (e::L') x (fun l hm=>hl l (YP _ hm)) h3)
theorem ze {ds:List Int} (L:List (List Int)) (hL:pN (sG ds) (gY ds.length) L) (hlen:∀l∈L,l.length=ds.length) (d:Int):∀(n:Nat) (k:Int),k+n=d→
  pN (sG (d::ds)) (k::gY ds.length) (((List.range (n+1)).map fun (j:Nat)=>k+(j:Int)).flatMap fun k=>L.map (k:: ·))
 |0,k,hk=>by
  have hk':k=d:=Yv;subst hk';have:=C4 (g:=sG (k::ds)) (e:=fun l=>k::l) (b:=[]) (z:=none) (fun a c h=>by simp [sG,h]) (fun a h=>by simp [sG,h]) rfl L _ hL;simpa using this
 |n+1,k,hk=>by
  rw [L8,aa2];have ih:=ze L hL hlen d n (k+1) Yv;exact Dv Yv ih L _ hlen hL
theorem kC:∀(ds:List Int) (l:List Int),l∈dI ds→l.length=ds.length
 |[],l,h=>by simp [dI] at h;simp [h]
 |d::ds,l,h=>by
  simp only [dI,aai,YR] at h;obtain ⟨k,_,l',h2,rfl⟩:=h;simp [kC ds l' h2]
theorem Dj:∀ds:List Int,(∀d∈ds,0≤d)→pN (sG ds) (gY ds.length) (dI ds)
 |[],_=>⟨rfl,rfl⟩
 |d::ds,h=>by
  have h0:=h d YL;have:=ze (dI ds) (Dj ds fun x hx=>h x (YP _ hx)) (kC ds) d d.toNat 0 Yv;simpa [dI,kO,gY,aax] using this
theorem o7 (d:Int):∀ds:List Int,dI (ds++[d])=(dI ds).flatMap fun p=>(kO d).map fun k=>p++[k]
 |[]=>by simp only [YH,dI,aa2,List.flatMap_nil,Y9,Y1,Zp];induction kO d with
  |nil=>rfl
  |cons a l ih=>simp [ih]
 |e::ds=>by
  simp only [YJ,dI,o7 d ds,List.map_flatMap,List.flatMap_assoc,List.flatMap_map,Zy,Function.comp_def]
theorem tP:∀(ds:List Int),(∀d∈ds,0≤d∧d≤127)→∀l∈dI ds,l.all cJ=true
 |[],_,l,h=>by simp [dI] at h;simp [h]
 |d::ds,hd,l,h=>by
  simp only [dI,kO,aai,YR,ZA] at h;obtain ⟨_,⟨k,hk,rfl⟩,l',h2,rfl⟩:=h;have:=hd d YL;rw [List.all_cons,tP ds (fun x hx=>hd x (YP _ hx)) l' h2];simp [cJ];omega
theorem tU (d:Int):(kO d).length=d.toNat+1:=by simp [kO]
theorem sX (d:Int) (ds:List Int):(dI (ds++[d])).length=(dI ds).length*(d.toNat+1):=by
 rw [o7,List.length_flatMap];simp only [YO,tU]
 induction dI ds with
 |nil=>simp
 |cons a l ih=>simp [ih,aay];omega
def tJ:Int→List Int→Bool
 |_,[]=>true
 |n,d::ds=>decide (0≤d) && (decide (d≤127) && (decide (n*(d+1)≤65536) && tJ (n*(d+1)) ds))
def fX (l:List Int):ByteArray:=str (l.map qf)
def nA (ds:List Int):List ByteArray:=if tJ 1 ds then (dI ds).map fX else []
theorem wi:∀ds:List Int,0<(dI ds).length
 |[]=>by simp [dI]
 |d::ds=>by
  simp only [dI,kO,List.length_flatMap];rw [List.range_succ_eq_map];have:=wi ds;simp;omega
theorem z5:∀(ds:List Int) (n:Int),tJ n ds=true→∀d∈ds,0≤d∧d≤127
 |[],_,_,d,h=>by simp at h
 |e::ds,n,h,d,hd=>by
  simp only [tJ,YU,YY] at h
  rcases YS.1 hd with rfl|hd
  ·exact ⟨h.1,h.2.1⟩
  ·exact z5 ds _ h.2.2.2 d hd
theorem vw {ds:List Int}{d n:Int} (hk:ds[k]?=some d) (h:tJ 1 ds=tJ n (ds.drop k)) (hb:(0≤d∧d≤127)∧n*(d+1)≤65536):
  tJ 1 ds=tJ (n*(d+1)) (ds.drop (k+1)):=by
 obtain ⟨hlt,he⟩:=YQ.1 hk;rw [h,ZR hlt,he];simp [tJ,hb.1.1,hb.1.2,hb.2]
theorem nS {ds:List Int}{d n:Int} (hk:ds[k]?=some d) (h:tJ 1 ds=tJ n (ds.drop k)) (hb:¬((0≤d∧d≤127)∧n*(d+1)≤65536)):tJ 1 ds=false:=by
 obtain ⟨hlt,he⟩:=YQ.1 hk;rw [h,ZR hlt,he];simp only [tJ,abU,abO]
 rcases Classical.em (0≤d) with h1|h1<;>rcases Classical.em (d≤127) with h2|h2
 ·exact .inr (.inr (.inl Yv))
 ·exact .inr (.inl h2)
 ·exact .inl h1
 ·exact .inl h1
theorem fK {ds:List Int}{d:Int} (hk:ds[k]?=some d) (h0:0≤d):((dI (ds.take (k+1))).length:Int)=(dI (ds.take k)).length*(d+1):=by
 rw [aC hk,sX,ZU];congr 1;omega
theorem uT {ds:List Int} (h:tJ 1 ds=true):∀k,k≤ds.length→tJ 1 ds=tJ (dI (ds.take k)).length (ds.drop k)∧(dI (ds.take k)).length≤65536
 |0,_=>⟨by simp [dI],by simp [dI]⟩
 |k+1,hk=>by
  obtain ⟨h1,h2⟩:=uT h k Yv;obtain ⟨d,hd⟩:=ao (l:=ds) (k:=k) Yv;have hb:=z5 ds 1 h d (YF hd);by_cases hc:((dI (ds.take k)).length:Int)*(d+1)≤65536
  ·have h3:=vw hd h1 ⟨hb,hc⟩;have h4:=fK hd hb.1;rw [←h4] at h3 hc;exact ⟨h3,Yv⟩
  ·have:=nS hd h1 fun x=>hc x.2;rw [h] at this;cases this
def gX (d:Int) (s:ByteArray):List ByteArray:=(kO d).map fun q=>s++str [qf q]
theorem Qa {ds:List Int}{d:Int} (hk:ds[k]?=some d):(dI (ds.take (k+1))).map fX=((dI (ds.take k)).map fX).flatMap (gX d):=by
 rw [aC hk,o7,List.map_flatMap,List.flatMap_map];congr 1;funext p;simp only [gX,Zy];apply aaB;intro q _;simp only [Function.comp,fX,Zq,wG,Y1,Zp]
theorem Qt {d:Int}{s:ByteArray} (hq:(q:Int)≤d):(gX d s)[q]?=some (s++str [qf q]):=by
 simp only [gX,kO,Zy,YN,Zx (show q<d.toNat+1 by omega),Z0,Function.comp]
theorem IK (d:Int) (s:ByteArray):(gX d s).length=d.toNat+1:=by simp [gX,kO]
theorem Vj {d:Int}{S:List ByteArray}{s:ByteArray} (hs:S[j]?=some s) (q:Nat):((S.take j).flatMap (gX d)++(gX d s).take q).length≤(S.flatMap (gX d)).length:=by
 have e:S.flatMap (gX d)=(S.take j).flatMap (gX d)++(gX d s++(S.drop (j+1)).flatMap (gX d)):=by
  obtain ⟨h1,h2⟩:=YQ.1 hs
  conv=>lhs;rw [←Zv j S,ZR h1,h2]
  rw [abg,aa2]
 rw [e];simp only [YK,YW];omega
theorem OO {ds:List Int}{s:ByteArray} (hs:((dI (ds.take k)).map fX)[j]?=some s):s.size≤k:=by
 have:=YF hs;obtain ⟨l,hl,rfl⟩:=YR.1 this;have:=kC _ l hl;simp only [fX,jm,YO];simp at this;omega
theorem M9 (d k:Int):∀(ps es:List Int) (ds ls:List Int),ps.length=es.length→sG ds ls=none→sG (es++d::ds) (ps++k::ls)=if k<d then some (ps++(k+1)::gY ls.length) else sG (es++d::ds) (ps++k::ls)
 |[],[],ds,ls,_,h=>by
  simp only [YH,sG,h];split<;>rfl
 |p::ps,e::es,ds,ls,hl,h=>by
  have ih:=M9 d k ps es ds ls (by simpa using hl) h;split
  ·rename_i hk;rw [YA hk] at ih;simp only [YJ,sG,ih]
  ·rfl
 |[],_::_,_,_,hl,_=>by simp at hl
 |_::_,[],_,_,hl,_=>by simp at hl
theorem Mw {d k:Int}{ds:List Int} (h:sG ds ls=none) (hk:¬k<d):sG (d::ds) (k::ls)=none:=by
 simp [sG,h,hk]
theorem Hp.swap {x y:HE}{H:List HE} (h:Hp w0 (x::y::H) w):Hp w0 (y::x::H) w:=h.perm (.swap y x H)
def pP (ls:List Int) (k n:Nat):List Int:=ls.take k++gY (n-k)
theorem LY (h:ls.length=n):pP ls n n=ls:=by
 unfold pP;rw [YG Yv,Zu];simp [gY]
theorem Pn (h:ls.length=n) (hk:k≤n):(pP ls k n).length=n:=by
 simp [pP,gY];omega
theorem S5 {x:Int} (hx:ls[k]?=some x):(pP ls (k+1) n)[k]?=some x:=by
 have hlt:=(YQ.1 hx).1;unfold pP;rw [aaM (by simp;omega),Z9];simp [hx]
theorem IF (y:Int) (h:ls.length=n) (hk:k<n):cM (bQ (pP ls (k+1) n)) k [.int .i64 y]=bQ (ls.take k++y::gY (n-(k+1))):=by
 have e1:(pP ls (k+1) n).take k=ls.take k:=by
  unfold pP;rw [abP (by simp;omega),List.take_take];congr 1;omega
 have e2:(pP ls (k+1) n).drop (k+1)=gY (n-(k+1)):=by
  unfold pP;have hl:(ls.take (k+1)).length=k+1:=by simp;omega
  rw [List.drop_append,hl,ZZ Yv];simp
 simp only [cM,bQ,←abj,←aa7,YZ,abv,Y0,e1,e2];simp
theorem Nz (hk:k<n):ls.take k++0::gY (n-(k+1))=pP ls k n:=by
 unfold pP gY;rw [show n-k=(n-(k+1))+1 by omega,aax]
theorem KE {ds:List Int}{d x:Int} (hd:ds.length=n) (hl:ls.length=n) (hdk:ds[k]?=some d) (hlk:ls[k]?=some x) (h:sG (ds.drop (k+1)) (ls.drop (k+1))=none) (hx:x<d):
  sG ds ls=some (ls.take k++(x+1)::gY (n-(k+1))):=by
 obtain ⟨h1,h2⟩:=YQ.1 hdk;obtain ⟨h3,h4⟩:=YQ.1 hlk;have:=M9 d x (ls.take k) (ds.take k) _ _ (by simp;omega) h;rw [YA hx] at this;have e1:ds.take k++d::ds.drop (k+1)=ds:=by rw [←h2,←ZR h1,Zv]
 have e2:ls.take k++x::ls.drop (k+1)=ls:=by rw [←h4,←ZR h3,Zv]
 rw [e1,e2] at this;rw [this,ZM,hl]
theorem KW {ds:List Int}{d x:Int} (hdk:ds[k]?=some d) (hlk:ls[k]?=some x) (h:sG (ds.drop (k+1)) (ls.drop (k+1))=none) (hx:¬x<d):sG (ds.drop k) (ls.drop k)=none:=by
 obtain ⟨h1,h2⟩:=YQ.1 hdk;obtain ⟨h3,h4⟩:=YQ.1 hlk;rw [ZR h1,ZR h3,h2,h4];exact Mw h hx
theorem D4 (h:ls.all cJ=true) {x:Int} (hx:ls[k]?=some x):0≤x∧x≤127:=by
 have:=Y6.1 h x (YF hx);simpa [cJ] using this
variable {ds rs:List Nat}
def bin:Nat→Nat→Nat
 |_,0=>1
 |0,_+1=>0
 |n+1,k+1=>bin n k+bin n (k+1)
theorem rL (n:Nat):bin n 0=1:=by cases n<;>rfl
theorem uq:∀{n k:Nat},n<k→bin n k=0
 |0,k+1,_=>rfl
 |n+1,k+1,h=>by rw [bin,uq (show n<k by omega),uq (show n<k+1 by omega)]
theorem Ci:∀n,bin n n=1
 |0=>rfl
 |n+1=>by rw [bin,Ci n,uq (show n<n+1 by omega)]
theorem zY:∀n k:Nat,bin n k≤2^n
 |n,0=>by rw [rL];exact Zd Yw
 |0,k+1=>YD _
 |n+1,k+1=>by
  have h1:=zY n k;have h2:=zY n (k+1);rw [bin,Zn];omega
def ue (n:Nat):List Nat:=(List.range (n+1)).map (bin n)
theorem wX (n:Nat):(ue n).length=n+1:=by simp [ue]
theorem zJ (h:k≤n):(ue n)[k]?=some (bin n k):=by
 unfold ue;exact NU
def nD (n:Nat):Dyadic:=((n:Int):Dyadic)
theorem GB:nD 0=0:=rfl
theorem FF:nD 1=1:=rfl
theorem Az (a b:Nat):nD (a+b)=nD a+nD b:=by
 show Dyadic.ofIntWithPrec ((a+b:Nat):Int) 0=Dyadic.ofIntWithPrec (a:Int) 0+Dyadic.ofIntWithPrec (b:Int) 0;rw [uJ,aaw]
theorem TI (a b:Nat):nD (a*b)=nD a*nD b:=by
 induction a with
 |zero=>rw [aba,GB];grind
 |succ a ih=>rw [ZE,Az,Az,ih,FF];grind
theorem QA (h:n<2^k):Sz k (nD n):=by
 refine ⟨(n:Int)*2^k, ?_, ?_⟩
 ·have:=oS (n:Int) 0 k;rw [show (0:Int)+(k:Int)=k by omega] at this;rw [this]
  rfl
 ·rw [aaq,aaZ,Int.natAbs_natCast,show 2*k=k+k by omega,Y4];exact aa5 h (Zd Yw)
theorem qP {α β:Type}{m:Nat} (hm:0<m) (g:α→List β):∀(l:List α) (p:Nat),(∀a∈l,(g a).length=m)→(l.flatMap g)[p]?=(l[p/m]?).bind fun a=>(g a)[p % m]?
 |[],p,_=>by simp
 |a::l,p,h=>by
  have ha:=h a YL;rw [aa2];by_cases hp:p<m
  ·rw [aaM Yv,ZG hp,Zk hp]
   rfl
  ·obtain ⟨q,rfl⟩:∃q,p=q+m:=⟨p-m,Yv⟩;rw [ZQ Yv,ha,Nat.add_sub_cancel,qP hm g l q fun b hb=>h b (YP _ hb),Nat.add_div_right _ hm,Nat.add_mod_right,aaY]
theorem tQ {α β:Type}{m:Nat} (g:α→List β):∀(l:List α),(∀a∈l,(g a).length=m)→(l.flatMap g).length=l.length*m
 |[],_=>by simp
 |a::l,h=>by
  rw [aa2,YK,h a YL,tQ g l fun b hb=>h b (YP _ hb),YZ,ZE,aat]
def cf (l:List Nat):List Int:=l.map fun (n:Nat)=>(n:Int)
theorem q8 (l:List Nat):(cf l).length=l.length:=by simp [cf]
theorem iG {l:List Nat}{i:Nat} (h:l[i]?=some n):(cf l)[i]?=some (n:Int):=by simp [cf,h]
theorem vC:∀(rs:List Nat),(dI (cf rs.reverse)).length=aA rs∧∀p,p<aA rs→(dI (cf rs.reverse))[p]?=some (cf (dy rs p).reverse)
 |[]=>⟨rfl,fun p h=>by obtain rfl:p=0:=(by have h2:p<1:=h;omega);rfl⟩
 |d::rs=>by
  obtain ⟨h1,h2⟩:=vC rs;have e1:cf (d::rs).reverse=cf rs.reverse++[(d:Int)]:=by simp [cf]
  have hu:(kO (d:Int)).length=d+1:=by rw [tU];simp
  have hg:∀a∈dI (cf rs.reverse),((kO (d:Int)).map fun k=>a++[k]).length=d+1:=fun a _=>by rw [YO,hu]
  rw [e1,o7];refine ⟨by rw [tQ _ _ hg,h1,aA,Za],fun p hp=> ?_⟩;have hq:p/(d+1)<aA rs:=by rw [Z2 Yv,Za];exact hp
  have hr:p % (d+1)<d+1:=Y8 _ Yv;rw [qP Yv _ _ _ hg,h2 _ hq];show ((kO (d:Int)).map fun k=>cf (dy rs (p/(d+1))).reverse++[k])[p % (d+1)]?=_;rw [YN,kO,YN,Zx (by simpa using hr)];simp [dy,cf]
theorem KK (ds:List Nat):(dI (cf ds)).length=aA ds.reverse:=by
 have:=(vC ds.reverse).1;rwa [aaT] at this
theorem Od {p:Nat} (h:p<aA ds.reverse):(dI (cf ds))[p]?=some (cf (dy ds.reverse p).reverse):=by
 have:=(vC ds.reverse).2 p h;rwa [aaT] at this
theorem zZ:∀{ds rs:List Nat},nx ds rs→rs.length=ds.length
 |[],[],_=>rfl
 |_::_,_::_,h=>by rw [YZ,YZ,zZ h.2]
theorem MX {i d r:Nat} (hd:ds[i]?=some d) (hr:rs[i]?=some r):iI (ds.take (i+1)).reverse (rs.take (i+1)).reverse=r+(d+1)*iI (ds.take i).reverse (rs.take i).reverse:=by
 rw [aC hd,aC hr];simp [iI]
theorem KR {i d:Nat} (hd:ds[i]?=some d):aA (ds.take (i+1)).reverse=(d+1)*aA (ds.take i).reverse:=by
 rw [aC hd];simp [aA]
theorem eN (a b:List Nat):aA (a++b)=aA a*aA b:=by
 induction a with
 |nil=>simp [aA]
 |cons d a ih=>rw [YJ,aA,aA,ih,Zw]
theorem de (ds:List Nat):aA ds.reverse=aA ds:=by
 induction ds with
 |nil=>rfl
 |cons d ds ih=>rw [aaC,eN,ih,aA,aA,aA,YX,Za]
theorem j7 (ds:List Nat) (i:Nat):aA (ds.take i)≤aA ds:=by
 have:ds=ds.take i++ds.drop i:=(Zv i ds).symm
 calc aA (ds.take i)=aA (ds.take i)*1:=(YX _).symm
  _≤aA (ds.take i)*aA (ds.drop i):=Zc _ (df _)
  _=aA ds:=by rw [←eN,Zv]
theorem nc (A:Option Addr) (n c:Nat) (ds:List Int) (w:World) (hS:Sl w A n 1 (bQ ds)) (hn:n≤1000000):
  Calls Tryz.prog 45 #[.slice A n c] w fun r w'=>∃B c',r=.returned (.slice B n c')∧w'.ownsRow w.heap.size 3 1 (.slice B n c') n (bQ ds)∧Below w.heap.size w w':=by
 have hh:=Hp.start w
 rcases A with _|ad
 ·have hn0:n=0:=by
   exact Ur
  subst hn0;have hl:ds=[]:=ZO (by simpa [bQ] using hS.1);subst hl;refine ak (N:=8) (l:=[.slice none 0 c]) Tryz.func45 rfl rfl (by simp) ?_;exact Ui
 ·refine ak (N:=8) (l:=[.slice (some ad) n c]) Tryz.func45 rfl rfl (by simp) ?_;refine sr (aL (aa (ai (sr (mL ?_)))));refine uL bo.out rfl rfl Yw ?_;refine wc ?_;refine CZ ?_;intro b5 w5 hh;refine mL ?_;refine cd hh (i:=0) rfl rfl rfl (hS.ext hh.below) bo.out aU.out rfl Yw ?one3 Yv Yv Yw ?kk3
  case one3=>first|rfl|assumption|exact br _|exact oneCells_u8s _
  exact Uq
theorem AP (A:Option Addr) (n c:Nat) (xs:List NR) (w:World) (hS:Sl w A n 3 (aD NR.cells xs)) (hn:n≤1000000):
  Calls Tryz.prog 106 #[.slice A n c] w fun r w'=>∃B c',r=.returned (.slice B n c')∧w'.ownsRow w.heap.size 40 3 (.slice B n c') n (aD NR.cells xs)∧Below w.heap.size w w':=by
 have hh:=Hp.start w
 rcases A with _|ad
 ·have hn0:n=0:=by
   exact Ur
  subst hn0;have hl:xs=[]:=ZO (by have:=hS.bh NR.len Yw;omega);subst hl;refine ak (N:=8) (l:=[.slice none 0 c]) Tryz.func106 rfl rfl (by simp) ?_;exact Ui
 ·have hone:((aD NR.cells xs).all Value.oneCell')=true:=bD NR.one _;refine ak (N:=8) (l:=[.slice (some ad) n c]) Tryz.func106 rfl rfl (by simp) ?_;refine sr (aL (aa (ai (sr (mL ?_)))));refine uL bo.out rfl rfl Yw ?_;refine wc ?_;refine CZ ?_;intro b5 w5 hh;refine mL ?_;refine cd hh (i:=0) rfl rfl rfl (hS.ext hh.below) bo.out aU.out rfl Yw ?one4 Yv Yv Yw ?kk4
  case one4=>first|rfl|assumption|exact br _|exact oneCells_u8s _
  exact Uq
theorem Eo (A:Option Addr) (n c:Nat) (l:List Int) (g:FuncId) (cap:List Value) (p:Int→Bool) (w:World) (hS:Sl w A n 1 (bQ l)) (hn:n≤1000000) [aw Tryz.prog g]
  (hg:∀(z:Int) (w1:World),z∈l→Below w.heap.size w w1→Calls Tryz.prog g (.int .i64 z::cap).toArray w1 fun r w'=>r=.returned (.bool (p z))∧Below w1.heap.size w1 w'):
  Calls Tryz.prog 115 #[.slice A n c,.func (.func g) #[] cap.toArray] w fun r w'=>∃v,r=.returned (.int .i64 v)∧(0≤v↔l.any p=true)∧Below w.heap.size w w':=by
 have hh:=Hp.start w;have hln:l.length=n:=by have:=hS.1;simpa [bQ] using this
 refine ak (N:=19) (l:=[.slice A n c,.func (.func g) #[] cap.toArray]) Tryz.func115 rfl rfl (by simp) ?_;refine CW ?_;refine aT [4,5,8,9,10,11,12,13,14,15,16,17,18] 8
  (fun v w'=>∃i:Nat,i≤n∧v=.int .i64 i∧(l.take i).any p=false∧Hp w [] w')
  (fun v _=>n-(intOf v).toNat) ?_ ?_
 ·exact ⟨0,YD _,rfl,rfl,hh⟩
 ·clear hh;rintro ρ' v w' ⟨i,hi,rfl,hall,hh⟩;by_cases hlt:i<n
  ·obtain ⟨z,hz⟩:=ao (l:=l) (k:=i) Yv;have hgi:=cL hz;obtain ⟨ad,rfl,hr⟩:=hS.at_ Yv;have hc:=fun w1=>hg z w1 (YF hz)
   cases gz:p z with
   |true=>
    rw [gz] at hc;refine sr ?_;refine tF ?_;refine jC ?_;refine mL (mI ?_);refine cE ?_;refine wR ?_;exact Tl
   |false=>
    rw [gz] at hc;refine sr ?_;refine tF ?_;refine jC ?_;refine mL (mI ?_);refine cE ?_;refine wR ?_;exact Gv
  ·exact SQ
theorem EB (A:Option Addr) (n c:Nat) (l:List Int) (g:FuncId) (cap:List Value) (p:Int→Bool) (w:World) (hS:Sl w A n 1 (bQ l)) (hn:n≤1000000) [aw Tryz.prog g]
  (hg:∀(z:Int) (w1:World),z∈l→Below w.heap.size w w1→Calls Tryz.prog g (.int .i64 z::cap).toArray w1 fun r w'=>r=.returned (.bool (p z))∧Below w1.heap.size w1 w'):
  Calls Tryz.prog 60 #[.slice A n c,.func (.func g) #[] cap.toArray] w fun r w'=>r=.returned (.bool (l.any p))∧Below w.heap.size w w':=by
 have hh:=Hp.start w;refine ak (N:=9) (l:=[.slice A n c,.func (.func g) #[] cap.toArray]) Tryz.func60 rfl rfl (by simp) ?_;refine sr (aB (aa (sr (mL ?_))));refine jC ?_;refine aJ (Eo A n c l g cap p _ (hS.ext hh.below) hn hg) aw.out rfl Yw ?_;exact Ta
theorem FU (A:Option Addr) (n c:Nat) (l:List NR) (g:FuncId) (cap:List Value) (p:NR→Bool) (w:World) (hS:Sl w A n 3 (aD NR.cells l)) (hn:n≤1000000) [aw Tryz.prog g]
  (hg:∀(z:NR) (w1:World),z∈l→Below w.heap.size w w1→Calls Tryz.prog g (.agg #[.bool z.neg,.string z.bj,.int .i64 z.e]::cap).toArray w1 fun r w'=>r=.returned (.bool (p z))∧Below w1.heap.size w1 w'):
  Calls Tryz.prog 116 #[.slice A n c,.func (.func g) #[] cap.toArray] w fun r w'=>∃v,r=.returned (.int .i64 v)∧(0≤v↔l.any p=true)∧Below w.heap.size w w':=by
 have hh:=Hp.start w;have hln:=hS.bh NR.len Yw;refine ak (N:=19) (l:=[.slice A n c,.func (.func g) #[] cap.toArray]) Tryz.func116 rfl rfl (by simp) ?_;refine CW ?_;refine aT [4,5,8,9,10,11,12,13,14,15,16,17,18] 8
  (fun v w'=>∃i:Nat,i≤n∧v=.int .i64 i∧(l.take i).any p=false∧Hp w [] w')
  (fun v _=>n-(intOf v).toNat) ?_ ?_
 ·exact ⟨0,YD _,rfl,rfl,hh⟩
 ·clear hh;rintro ρ' v w' ⟨i,hi,rfl,hall,hh⟩;by_cases hlt:i<n
  ·obtain ⟨z,hz⟩:=ao (l:=l) (k:=i) Yv;obtain ⟨ad,rfl,hr⟩:=hS.at_ Yv;have hc:=fun w1=>hg z w1 (YF hz)
   cases gz:p z with
   |true=>
    rw [gz] at hc;refine sr ?_;refine tF ?_;refine jC ?_;refine mL (mI ?_);refine cE ?_;refine cG (vs:=[_,_,_]) aU.out rfl ((hr.ext hh.below).recAt NR.len hz) rfl Yw ?_;exact Tl
   |false=>
    rw [gz] at hc;refine sr ?_;refine tF ?_;refine jC ?_;refine mL (mI ?_);refine cE ?_;refine cG (vs:=[_,_,_]) aU.out rfl ((hr.ext hh.below).recAt NR.len hz) rfl Yw ?_;exact Gv
  ·exact SQ
theorem Fy (A:Option Addr) (n c:Nat) (l:List NR) (g:FuncId) (cap:List Value) (p:NR→Bool) (w:World) (hS:Sl w A n 3 (aD NR.cells l)) (hn:n≤1000000) [aw Tryz.prog g]
  (hg:∀(z:NR) (w1:World),z∈l→Below w.heap.size w w1→Calls Tryz.prog g (.agg #[.bool z.neg,.string z.bj,.int .i64 z.e]::cap).toArray w1 fun r w'=>r=.returned (.bool (p z))∧Below w1.heap.size w1 w'):
  Calls Tryz.prog 62 #[.slice A n c,.func (.func g) #[] cap.toArray] w fun r w'=>r=.returned (.bool (l.any p))∧Below w.heap.size w w':=by
 have hh:=Hp.start w;refine ak (N:=9) (l:=[.slice A n c,.func (.func g) #[] cap.toArray]) Tryz.func62 rfl rfl (by simp) ?_;refine sr (aB (aa (sr (mL ?_))));refine jC ?_;refine aJ (FU A n c l g cap p _ (hS.ext hh.below) hn hg) aw.out rfl Yw ?_;exact Ta
def gH:Int→List Int→Int
 |n,[]=>n
 |n,d::ds=>if d<0∨127<d∨4096<n*(d+1) then 0 else gH (n*(d+1)) ds
def xF:Int→List Int→Int
 |n,[]=>n
 |n,d::ds=>xF (min (n*(d+1)) 4097) ds
def oE (ds:List Int):Int:=if ds.any (fun d=> !cJ d) then -1 else xF 1 ds
def vI (a:NR):Bool:= !(((nR a.d).neg==a.neg && (nR a.d).bj==a.bj) && (nR a.d).e==a.e)
theorem oC {a:NR}:vI a=false↔nR a.d=a:=by
 unfold vI;rw [Bool.not_eq_false',pD]
def fE (ds:List Int) (cs:List NR):Int:=
 if 12<ds.length∨ds.any (fun d=> !cJ d)=true then 1 else if gH 1 ds=0 then 3 else if (cs.length:Int)≠gH 1 ds then 1 else if cs.any vI=true then 1 else 0
theorem tp {ds:List Int} (h:ds.any (fun d=> !cJ d)=false):∃ns:List Nat,ds=cf ns∧∀n∈ns,n≤127:=by
 refine ⟨ds.map Int.toNat, ?_,fun n hn=> ?_⟩
 ·unfold cf;rw [Zy];refine (List.map_id' ds).symm.trans (aaB fun d hd=> ?_);have:=aaa.1 h d hd;simp [cJ] at this;show d=((d.toNat:Nat):Int);omega
 ·obtain ⟨d,hd,rfl⟩:=YR.1 hn;have:=aaa.1 h d hd;simp [cJ] at this;omega
theorem lj:∀(ns:List Nat) (n:Nat),1≤n→n≤4096→(∀d∈ns,d≤127)→gH n (cf ns)=if n*aA ns≤4096 then ((n*aA ns:Nat):Int) else 0
 |[],n,_,h,_=>by show (n:Int)=_;rw [aA,YX,YA h]
 |d::ns,n,h1,h2,h3=>by
  show (if (d:Int)<0∨127<(d:Int)∨4096<(n:Int)*((d:Int)+1) then 0 else gH ((n:Int)*((d:Int)+1)) (cf ns))=_;have hd:=h3 d YL;have e1:(n:Int)*((d:Int)+1)=((n*(d+1):Nat):Int):=by rw [ZU,aaw];rfl
  rw [e1];by_cases hg:n*(d+1)≤4096
  ·rw [YB Yv,lj ns (n*(d+1)) (Nat.mul_pos h1 Yv) hg fun x hx=>h3 x (YP _ hx),aA,Zw]
  ·have h4:n*(d+1)*1≤n*(d+1)*aA ns:=Zc _ (df ns);rw [YA Yv,YB];rw [aA,←Zw];omega
theorem vi:∀(ns:List Nat) (n:Nat),1≤n→n≤4097→xF n (cf ns)=((min (n*aA ns) 4097:Nat):Int)
 |[],n,_,h=>by show (n:Int)=_;rw [aA,YX,ZB h]
 |d::ns,n,h1,h2=>by
  show xF (min ((n:Int)*((d:Int)+1)) 4097) (cf ns)=_;have e1:min ((n:Int)*((d:Int)+1)) 4097=((min (n*(d+1)) 4097:Nat):Int):=by
   have:(n:Int)*((d:Int)+1)=((n*(d+1):Nat):Int):=by rw [ZU,aaw];rfl
   rw [this];omega
  have hp:=Nat.mul_pos h1 (show 0<d+1 by omega);rw [e1,vi ns _ Yv Yv,aA,←Zw];by_cases hg:n*(d+1)≤4097
  ·rw [ZB hg]
  ·have h4:n*(d+1)*1≤n*(d+1)*aA ns:=Zc _ (df ns);have h5:4097*1≤4097*aA ns:=Zc _ (df ns);rw [Nat.min_eq_right (by omega:4097≤n*(d+1)),Nat.min_eq_right Yv,Nat.min_eq_right Yv]
theorem Hk:∀(ds:List Int) (n:Int),1≤n→n≤4096→0≤gH n ds∧gH n ds≤4096
 |[],n,_,h=>by show 0≤n∧n≤4096;omega
 |d::ds,n,h1,h2=>by
  rw [gH];split
  ·omega
  ·rename_i hg;have:1*1≤n*(d+1):=aa8 h1 Yv Yw Yv;exact Hk ds _ Yv Yv
structure FV (ds:List Int) (cs:List NR) (ns:List Nat) (xs:List Dyadic):Prop where
 Yt:ds=cf ns
 num:cs=xs.map nR
 Tm:ns.length≤12
 low:∀n∈ns,n≤127
 len:xs.length=aA ns
 max:aA ns≤4096
theorem V5 {ds:List Int}{cs:List NR} (h:fE ds cs=0):∃ns xs,FV ds cs ns xs∧xs=cs.map NR.d:=by
 unfold fE at h;split at h
 ·cases h
 rename_i h1;split at h
 ·cases h
 rename_i h2;split at h
 ·cases h
 rename_i h3;split at h
 ·cases h
 rename_i h4;have hb:ds.any (fun d=> !cJ d)=false:=by
  cases hx:ds.any (fun d=> !cJ d) with
  |false=>rfl
  |true=>exact absurd (.inr hx) h1
 obtain ⟨ns,rfl,hl⟩:=tp hb;have hc:=lj ns 1 Yw Yw hl;rw [aaH] at hc;have hc1:gH ((1:Nat):Int) (cf ns)=gH 1 (cf ns):=rfl;rw [hc1] at hc;have hmax:aA ns≤4096:=by
  apply aaF;intro hg;rw [YB hg] at hc;exact h2 hc
 rw [YA hmax] at hc;have hlen:cs.length=aA ns:=by
  have:(cs.length:Int)=gH 1 (cf ns):=aaS.1 h3;rw [hc] at this;omega
 refine ⟨ns,cs.map NR.d,⟨rfl, ?_,(by have h2:¬12<(cf ns).length:=fun h=>h1 (.inl h);rw [q8] at h2;omega),hl,by rw [YO,hlen],hmax⟩,rfl⟩;rw [Zy];refine (List.map_id' cs).symm.trans (aaB fun a ha=> ?_);have h5:vI a=false:=by
  cases hx:vI a with
  |false=>rfl
  |true=>exact absurd (aag.2 ⟨a,ha,hx⟩) h4
 exact (oC.1 h5).symm
end Go.Proofs.YtolamocnngihpaaGreatDoor
