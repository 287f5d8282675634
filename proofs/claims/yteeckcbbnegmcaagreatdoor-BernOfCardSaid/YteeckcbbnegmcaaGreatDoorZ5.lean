/- Lemmas for bernOf, part 5. -/
import Derived.LaidMore
import Derived.Lay
import Derived.Deep.Slices
import Derived.Stop.Joined
import Derived.Deep.Strs
import Derived.Laws.OwnMore
import Derived.Lib.SliceRun
import Derived.Test.YteeckcbbnegmcaaGreatDoorZ4
namespace Go.Proofs.YteeckcbbnegmcaaGreatDoor
variable {b n:Nat}
open Go.RowKit
theorem oT:bO n=0↔n=0:=by
 constructor
 ·intro h;have:=dk n;rw [h] at this;omega
 ·intro h;rw [h];exact lU
theorem ow {a:Nat} (h:a≤b):bO a≤bO b:=dO (Xb h (dk b))
theorem Kk (a b:Nat):bO (a+b)≤bO a+bO b+1:=by
 apply dO;have h1:=dk a;have h2:=dk b;have h3:2^bO a≤2^(bO a+bO b):=WM VX VX;have h4:2^bO b≤2^(bO a+bO b):=WM VX VX;rw [WY];omega
theorem dh (s:Bool) (m:ByteArray) (w:World) (hm:m.size≤1000000000):
  Calls Tryz.prog 209 #[.agg #[.bool s,.string m]] w fun e w'=>e=.returned (.agg #[.bool (iN (iv s m)),.string (iM (iv s m))])∧Below w.heap.size w w':=by
 have hh:=Hp.start w;have h1:=gB m;rw [PS,F0]
 cases s with
 |false=>
  refine aj (N:=16) (l:=[.agg #[.bool false,.string m]]) Tryz.func209 rfl rfl (by simp) ?_;refine sr ?_;refine cf hh [_,_] ?_;intro b1 w1 hh;refine bQ hh ?_;intro b2 w2 hh;refine aa (sr (bE ?_));refine bB hh 1 ?_;refine aG (iy m _ hm) ar.out rfl VY ?_;rintro e_ w6 ⟨A6,c6,rfl,hown_,hb_⟩;refine ⟨_,rfl, ?_⟩;replace hh:=hh.aY (x:=.row _ _ _ _ _ _) hb_ hown_;refine Lh ?_;intro w7 hh;rw [gR];refine aS (aa (sr (bE ?_)));refine bB hh 2 ?_;refine mB ?_;refine gS (gS ?_);refine dE ?_;refine mS ?_;refine eV [_,_] ?_;exact I2
 |true=>
  by_cases h0:sN (bN m)=ByteArray.mk #[]
  ·refine aj (N:=16) (l:=[.agg #[.bool true,.string m]]) Tryz.func209 rfl rfl (by simp) ?_;refine sr ?_;refine cf hh [_,_] ?_;intro b1 w1 hh;refine bQ hh ?_;intro b2 w2 hh;refine aa (sr (bE ?_));refine bB hh 1 ?_;refine aG (iy m _ hm) ar.out rfl VY ?_;rintro e_ w6 ⟨A6,c6,rfl,hown_,hb_⟩;refine ⟨_,rfl, ?_⟩;replace hh:=hh.aY (x:=.row _ _ _ _ _ _) hb_ hown_;refine Lh ?_;intro w7 hh;rw [gR];refine aS (aa (sr (bE ?_)));refine bB hh 2 ?_;refine mB (gT (mS (gT ?_)))
   (first|refine kV rfl rfl (by first|rfl|assumption|decide) VY ?_|refine kJ rfl rfl (by first|assumption|decide) VY ?_)
   refine eM ?_;refine mS ?_;refine eV [_,_] ?_;refine bR hh 1 [_,_] ?_;intro ws hh;replace hh:Hp _ (_::.blk _ _ [_,_] _::_) _:=hh;refine aa (au ?_);refine wE ?_;exact OO
  ·refine aj (N:=16) (l:=[.agg #[.bool true,.string m]]) Tryz.func209 rfl rfl (by simp) ?_;refine sr ?_;refine cf hh [_,_] ?_;intro b1 w1 hh;refine bQ hh ?_;intro b2 w2 hh;refine aa (sr (bE ?_));refine bB hh 1 ?_;refine aG (iy m _ hm) ar.out rfl VY ?_;rintro e_ w6 ⟨A6,c6,rfl,hown_,hb_⟩;refine ⟨_,rfl, ?_⟩;replace hh:=hh.aY (x:=.row _ _ _ _ _ _) hb_ hown_;refine Lh ?_;intro w7 hh;rw [gR];refine aS (aa (sr (bE ?_)));refine bB hh 2 ?_;refine mB (gT (mS (gT ?_)))
   (first|refine kV rfl rfl (by first|rfl|assumption|decide) VY ?_|refine kJ rfl rfl (by first|assumption|decide) VY ?_)
   refine eM ?_;refine mS ?_;refine eV [_,_] ?_;refine bR hh 1 [_,_] ?_;intro ws hh;replace hh:Hp _ (_::.blk _ _ [_,_] _::_) _:=hh;refine aa (au ?_);refine wE ?_;exact OB
theorem CX (s:Bool) (m:ByteArray) (w:World) (hm:m.size≤1000000000):
  Calls Tryz.prog 222 #[.agg #[.bool s,.string m]] w fun e w'=>e=.returned (.agg #[.bool (iN (-(iv s m))),.string (iM (-(iv s m)))])∧Below w.heap.size w w':=by
 have hh:=Hp.start w;have e1:iv (!s) m= -(iv s m):=by unfold iv;cases s<;>simp
 refine aj (N:=10) (l:=[.agg #[.bool s,.string m]]) Tryz.func222 rfl rfl (by simp) ?_;refine sr ?_;refine cf hh [_,_] ?_;intro b1 w1 hh;refine bQ hh ?_;intro b2 w2 hh;refine aa (sr (bE ?_));refine bB hh 1 ?_;refine fI ?_;refine bE ?_;refine bB hh 1 ?_;refine eV [_,_] ?_;refine br hh (dh (!s) m _ hm) rfl ?_;intro w9 hh;rw [e1];exact LA
theorem jI (s:Bool) (m:ByteArray) (w:World) (hm:m.size≤1000000000):
  Calls Tryz.prog 212 #[.agg #[.bool s,.string m]] w fun e w'=>e=.returned (.int .i64 (iv s m).sign)∧Below w.heap.size w w':=by
 have hh:=Hp.start w;by_cases h0:bN m=0
 ·have hb:bO (bN m)=0:=oT.2 h0;refine aj (N:=9) (l:=[.agg #[.bool s,.string m]]) Tryz.func212 rfl rfl (by simp) ?_;refine sr ?_;refine cf hh [_,_] ?_;intro b1 w1 hh;refine aI (aa (ah (sr (bE ?_))));refine bB hh 0 ?_;refine br hh (pH m _ hm) rfl ?_;intro w5 hh;refine xB ?_;refine cS ?_;have hz:iv s m=0:=by unfold iv;split<;>omega
  exact ⟨by rw [hz];rfl,hh.below⟩
 ·have hb:bO (bN m)≠0:=fun h=>h0 (oT.1 h)
  cases s with
  |true=>
   refine aj (N:=9) (l:=[.agg #[.bool true,.string m]]) Tryz.func212 rfl rfl (by simp) ?_;refine sr ?_;refine cf hh [_,_] ?_;intro b1 w1 hh;refine aI (aa (ah (sr (bE ?_))));refine bB hh 0 ?_;refine br hh (pH m _ hm) rfl ?_;intro w5 hh;refine Fg ?_;refine bB hh 0 ?_;refine BV ?_;refine cS ?_;have hz:iv true m<0:=by unfold iv;rw [V2 rfl];omega
   exact ⟨by rw [XG hz],hh.below⟩
  |false=>
   refine aj (N:=9) (l:=[.agg #[.bool false,.string m]]) Tryz.func212 rfl rfl (by simp) ?_;refine sr ?_;refine cf hh [_,_] ?_;intro b1 w1 hh;refine aI (aa (ah (sr (bE ?_))));refine bB hh 0 ?_;refine br hh (pH m _ hm) rfl ?_;intro w5 hh;refine Fg ?_;refine bB hh 0 ?_;refine Gu ?_;refine cS ?_;have hz:0<iv false m:=by unfold iv;rw [V3 (by simp)];omega
   exact ⟨by rw [XF hz],hh.below⟩
theorem rq (n:Int) (w:World) (h1: -9223372036854775808≤n) (h2:n≤9223372036854775807):
  Calls Tryz.prog 170 #[.int .i64 n] w fun e w'=>e=.returned (.agg #[.bool (iN n),.string (iM n)])∧Below w.heap.size w w':=by
 have hh:=Hp.start w;by_cases h0:n<0
 ·have hn:iN n=true:=Wm h0;obtain ⟨m,hm⟩:=Y3 (by omega:0≤ -(n+1));have ha:n.natAbs=m+1:=VX;have hw:(m+1) % 18446744073709551616=m+1:=WU VX;refine aj (N:=16) (l:=[.int .i64 n]) Tryz.func170 rfl rfl (by simp) ?_;refine sr ?_;refine bQ hh ?_;intro b2 w2 hh;refine aa (ah (sr (mI ?_)));refine aW (aa (cT (sr (mI ?_))));refine a9 ?_;refine yl rfl VX VX VY ?_;rw [show -(n+1)=(m:Int) from hm];refine mH ?_;refine jd (b:=1) rfl rfl VY ?_;rw [hw];refine br hh (wR (m+1) _ VX) rfl ?_;intro w10 hh;rw [←ha];refine eV [_,_] ?_;refine bR hh 0 [_,_] ?_;intro ws hh;replace hh:Hp _ (.blk _ _ [_,_] _::_) _:=hh;refine aa (au (aE ?_));refine qJ ?_;rw [hn];exact ⟨rfl,hh.below⟩
 ·obtain ⟨m,rfl⟩:=Y3 (by omega:0≤n);have hn:iN (m:Int)=false:=Wu VX;have hm:m<18446744073709551616:=VX;have e1:iM (m:Int)=sN m:=rfl;refine aj (N:=16) (l:=[.int .i64 (m:Int)]) Tryz.func170 rfl rfl (by simp) ?_;refine sr ?_;refine bQ hh ?_;intro b2 w2 hh;refine aa (ah (sr (mI ?_)));refine aW (aa (cF (ao (ai (sr (mI ?_))))));refine mH ?_;refine br hh (wR m _ hm) rfl ?_;intro w14 hh;refine eV [_,_] ?_;refine bR hh 0 [_,_] ?_;intro ws hh;replace hh:Hp _ (.blk _ _ [_,_] _::_) _:=hh;refine aa (au ?_);refine qJ ?_;rw [hn,e1];exact ⟨rfl,hh.below⟩
theorem ni (s t:Bool) (a b:ByteArray) (w:World) (ha:a.size≤100000000) (hb:b.size≤100000000):
  Calls Tryz.prog 182 #[.agg #[.bool s,.string a],.agg #[.bool t,.string b]] w fun e w'=>e=.returned (.agg #[.bool (iN (iv s a+iv t b)),.string (iM (iv s a+iv t b))])∧Below w.heap.size w w':=by
 have hh:=Hp.start w;have hba:=fK a;have hbb:=fK b;by_cases hst:s=t
 ·subst hst;have e1:iv s (sN (bN a+bN b))=iv s a+iv s b:=by unfold iv;rw [fq];split<;>omega
  have hsz:(sN (bN a+bN b)).size≤1000000000:=by rw [j7];have:=Kk (bN a) (bN b);omega
  rw [←e1];refine aj (N:=49) (l:=[.agg #[.bool s,.string a],.agg #[.bool s,.string b]]) Tryz.func182 rfl rfl (by simp) ?_;refine sr ?_;refine cf hh [_,_] ?_;intro b2 w2 hh;refine cf hh [_,_] ?_;intro b3 w3 hh;refine bQ hh ?_;intro b4 w4 hh;refine aa (ah (sr (bE ?_)));refine bB hh 2 ?_;refine bE ?_;refine bB hh 1 ?_;refine FR bj.out rfl rfl (by first|rfl|assumption) VY ?_;refine aa (cT (ah ?_));refine aT 8 [[(2,none)],[(12,some 0)],[(2,none)],[(14,some 2)],[(3,none)],[(16,some 4)],[(15,some 3),(17,some 5)],[(18,some 6)]] [(7,19),(6,18),(5,17),(4,16),(3,15),(2,14),(1,13),(0,12)] hh mixed VZ ?_;refine cP ?_;refine dL 2 ?_;refine cP ?_;refine dL 2 ?_;refine cP ?_;refine dL 1 ?_;refine oB [_,_] ?_;refine aN (i:=7) (Is (.string (sN (bN a+bN b)))) Is.ext ?_ ?_
  ·intro ρ1 w1 hj hR;obtain ⟨A18,c18,h18,s18⟩:=hR.1;exact bh rfl (aP ar.out (av h18 a6)) (DN A18 2 c18 [a,b] _ s18 VX (by simp;omega)) (fun _ _ hq=>⟨_,hq.1,hq.2,rfl⟩)
  refine aJ ?_;intro f W hJ hV;have hb_2:=hJ.bl;obtain ⟨v19,v18,v17,v16,v15,v14,v13,v12,_⟩:=hV;obtain ⟨A18,c18,e18,f18⟩:Rows _ _ _ (f 6) W:=v18;replace hh:=hJ.hp;refine aR (a8 (ae v19 (ae e18 (ae v17 (ae v16 (ae v15 (ae v14 (ae v13 (ae v12 aQ))))))))) ?_;dsimp only [bH];clear e18 hJ;refine eV [_,_] ?_;refine br hh (dh s (sN (bN a+bN b)) _ hsz) rfl ?_;intro w21 hh;exact B4
 ·by_cases hle:bN b≤bN a
  ·have e1:iv s (sN (bN a-bN b))=iv s a+iv t b:=by unfold iv;rw [fq];cases s<;>cases t<;>simp at hst ⊢ <;>omega
   have hsz:(sN (bN a-bN b)).size≤1000000000:=by rw [j7];have:=ow (show bN a-bN b≤bN a by omega);omega
   rw [←e1];refine aj (N:=49) (l:=[.agg #[.bool s,.string a],.agg #[.bool t,.string b]]) Tryz.func182 rfl rfl (by simp) ?_;refine sr ?_;refine cf hh [_,_] ?_;intro b2 w2 hh;refine cf hh [_,_] ?_;intro b3 w3 hh;refine bQ hh ?_;intro b4 w4 hh;refine aa (ah (sr (bE ?_)));refine bB hh 2 ?_;refine bE ?_;refine bB hh 1 ?_;refine FM ?_;refine tV ?_;refine bB hh 2 ?_;refine bE ?_;refine bB hh 1 ?_;refine br hh (oW a b _ VX VX) rfl ?_;intro w27 hh;rw [Wm hle];refine mT ?_;refine du ?_;refine du ?_;refine aS (aB (aa (ah (sr (mB (aa (cT (sr (bE ?_)))))))));refine bB hh 2 ?_;refine mS ?_;refine eV [_,_] ?_;refine br hh (dh s (sN (bN a-bN b)) _ hsz) rfl ?_;intro w35 hh;exact B4
  ·have e1:iv t (sN (bN b-bN a))=iv s a+iv t b:=by unfold iv;rw [fq];cases s<;>cases t<;>simp at hst ⊢ <;>omega
   have hsz:(sN (bN b-bN a)).size≤1000000000:=by rw [j7];have:=ow (show bN b-bN a≤bN b by omega);omega
   rw [←e1];refine aj (N:=49) (l:=[.agg #[.bool s,.string a],.agg #[.bool t,.string b]]) Tryz.func182 rfl rfl (by simp) ?_;refine sr ?_;refine cf hh [_,_] ?_;intro b2 w2 hh;refine cf hh [_,_] ?_;intro b3 w3 hh;refine bQ hh ?_;intro b4 w4 hh;refine aa (ah (sr (bE ?_)));refine bB hh 2 ?_;refine bE ?_;refine bB hh 1 ?_;refine FM ?_;refine tV ?_;refine bB hh 2 ?_;refine bE ?_;refine bB hh 1 ?_;refine br hh (oW a b _ VX VX) rfl ?_;intro w27 hh;rw [Wu hle];refine mT ?_;refine du ?_;refine du ?_;refine aS (aB (aa (ah (sr (mB (aa (cF (ao (ai (sr (bE ?_)))))))))));refine bB hh 1 ?_;refine bE ?_;refine bB hh 2 ?_;refine br hh (oW b a _ VX VX) rfl ?_;intro w41 hh;refine mT ?_;refine du ?_;refine du ?_;refine aS (aa (sr (bE ?_)));refine bB hh 1 ?_;refine mS ?_;refine eV [_,_] ?_;refine br hh (dh t (sN (bN b-bN a)) _ hsz) rfl ?_;intro w48 hh;exact LA
theorem yU (s t:Bool) (a b:ByteArray) (w:World) (ha:a.size≤100000000) (hb:b.size≤100000000):
  Calls Tryz.prog 181 #[.agg #[.bool s,.string a],.agg #[.bool t,.string b]] w fun e w'=>e=.returned (.agg #[.bool (iN (iv s a*iv t b)),.string (iM (iv s a*iv t b))])∧Below w.heap.size w w':=by
 have hh:=Hp.start w;have hba:=fK a;have hbb:=fK b;have e0:(iv s a*iv t b).natAbs=bN a*bN b:=by rw [XW,jw,jw]
 have e1:iM (iv s a*iv t b)=sN (bN a*bN b):=by rw [iM,e0]
 have e2:iv (s !=t) (sN (bN a*bN b))=iv s a*iv t b:=by rw [←e1,tH]
 have hsz:(sN (bN a*bN b)).size≤1000000000:=by rw [j7];have:=zK (bN a) (bN b);omega
 rw [←e2];refine aj (N:=17) (l:=[.agg #[.bool s,.string a],.agg #[.bool t,.string b]]) Tryz.func181 rfl rfl (by simp) ?_;refine sr ?_;refine cf hh [_,_] ?_;intro b2 w2 hh;refine cf hh [_,_] ?_;intro b3 w3 hh;refine bQ hh ?_;intro b4 w4 hh;refine aa (ah ?_);refine Iv ?_;refine cP ?_;refine dL 2 ?_;refine cP ?_;refine dL 1 ?_;refine bm (i:=4) (fun ρ1 w1 hj hR=>mz bj.out (show ρ1 6=Value.bool _ from hR.1) (show ρ1 8=Value.bool _ from hR.2.1)) ?_;refine cP ?_;refine dL 2 ?_;refine cP ?_;refine dL 1 ?_;refine dC (fun _ hj=>Ek a b _ VX VX) ?_;refine aJ ?_;intro f W hJ hV;have hb_1:=hJ.bl;obtain ⟨v14,v13,v12,v11,v10,v9,v8,v7,v6,v5,_⟩:=hV;replace hh:=hJ.hp;refine Et ?_;dsimp only [bH];clear hJ;refine eV [_,_] ?_;refine br hh (dh (s !=t) (sN (bN a*bN b)) _ hsz) rfl ?_;intro w16 hh;exact LA
theorem Eh (s:Bool) (a:ByteArray) (k:Nat) (w:World) (ha:a.size≤100000000) (hk:k≤1000000000):
  Calls Tryz.prog 183 #[.agg #[.bool s,.string a],.int .i64 (k:Int)] w fun e w'=>e=.returned (.agg #[.bool (iN (iv s a*2^k)),.string (iM (iv s a*2^k))])∧Below w.heap.size w w':=by
 have hh:=Hp.start w;have hba:=fK a;have e2:iv s (sN (bN a*2^k))=iv s a*2^k:=by unfold iv;rw [fq];split<;>simp [Int.neg_mul]
 have hsz:(sN (bN a*2^k)).size≤1000000000:=by rw [j7];have:=iU (bN a) k;omega
 rw [←e2];refine aj (N:=43) (l:=[.agg #[.bool s,.string a],.int .i64 (k:Int)]) Tryz.func183 rfl rfl (by simp) ?_;refine sr ?_;refine cf hh [_,_] ?_;intro b2 w2 hh;refine bQ hh ?_;intro b4 w4 hh;refine aa (ah (sr (mI ?_)));refine dJ (aa (cT (ah ?_)));refine aT 6 [[(2,none)],[(12,some 0)],[(2,none)],[(14,some 2)],[(1,none)],[(15,some 3),(16,some 4)]] [(5,17),(4,16),(3,15),(2,14),(1,13),(0,12)] hh mixed VZ ?_;refine cP ?_;refine dL 1 ?_;refine cP ?_;refine dL 1 ?_;refine cM ?_;refine dC (fun _ hj=>CB a k _ VX VX) ?_;refine aJ ?_;intro f W hJ hV;have hb_2:=hJ.bl;obtain ⟨v17,v16,v15,v14,v13,v12,_⟩:=hV;replace hh:=hJ.hp;refine aR (a8 (ae v17 (ae v16 (ae v15 (ae v14 (ae v13 (ae v12 aQ))))))) ?_;dsimp only [bH];clear hJ;refine eV [_,_] ?_;refine br hh (dh s (sN (bN a*2^k)) _ hsz) rfl ?_;intro w19 hh;exact B4
theorem o9 (z:Int) (B:Nat) (q r:Int) (h:r+B*q=z) (h0:0≤r) (h1:r<B):z/B=q∧z % B=r:=
 (Int.ediv_emod_unique VX).2 ⟨h,h0,h1⟩
theorem C5 (s:Bool) (a b:ByteArray) (w:World) (ha:a.size≤10000000) (hb:b.size≤10000000) (hb0:bN b≠0):
  Calls Tryz.prog 210 #[.agg #[.bool s,.string a],.agg #[.bool false,.string b]] w fun e w'=>e=.returned (.tuple #[.agg #[.bool (iN (iv s a/bN b)),.string (iM (iv s a/bN b))],.agg #[.bool (iN (iv s a % bN b)),.string (iM (iv s a % bN b))],.bool true])∧Below w.heap.size w w':=by
 have hh:=Hp.start w;have hba:=fK a;have hbb:=fK b;have hmod:bN a % bN b<bN b:=Wy _ VX;have hdm:bN b*(bN a/bN b)+bN a % bN b=bN a:=XH _ _;have hdm':(bN b:Int)*((bN a/bN b:Nat):Int)+((bN a % bN b:Nat):Int)=(bN a:Int):=by rw [←Xn,←X6,hdm]
 have hqs:(sN (bN a/bN b)).size≤10000000:=by rw [j7];have:=ow (Yt (bN a) (bN b));omega
 have hrs:(sN (bN a % bN b)).size≤10000000:=by rw [j7];have:=ow (show bN a % bN b≤bN b by omega);omega
 have hqz:∀u,(iM (iv u (sN (bN a/bN b)))).size≤10000000:=fun u=>by rw [F0,fq];exact hqs
 have hrz:∀u,(iM (iv u (sN (bN a % bN b)))).size≤10000000:=fun u=>by rw [F0,fq];exact hrs
 by_cases hneg:s=true∧bN a % bN b≠0
 ·obtain ⟨rfl,hne⟩:=hneg;have e1:iv true (sN (bN a/bN b))= -((bN a/bN b:Nat):Int):=by unfold iv;rw [fq,V2 rfl]
  have e2:iv true (sN (bN a % bN b))= -((bN a % bN b:Nat):Int):=by unfold iv;rw [fq,V2 rfl]
  have hlt:(iv true (sN (bN a % bN b))).sign<0:=by rw [e2,XG VX];omega
  have e3:iv true a= -(bN a:Int):=by unfold iv;rw [V2 rfl]
  obtain ⟨q1,q2⟩:=o9 (iv true a) (bN b) (-((bN a/bN b:Nat):Int)+ -1) ((bN b:Int)-((bN a % bN b:Nat):Int)) (by rw [e3,←hdm',Int.mul_add,Int.mul_neg];omega) VX VX;have e4:iv false b=(bN b:Int):=by unfold iv;rw [V3 (by simp)]
  have hp2:(bN b:Int).sign=1:=XF VX;refine aj (N:=57) (l:=[.agg #[.bool true,.string a],.agg #[.bool false,.string b]]) Tryz.func210 rfl rfl (by simp) ?_;refine sr ?_;refine cf hh [_,_] ?_;intro b2 w2 hh;refine cf hh [_,_] ?_;intro b3 w3 hh;refine bQ hh ?_;intro b4 w4 hh;refine bQ hh ?_;intro b5 w5 hh;refine aB (aa (sr (bE ?_)));refine bB hh 3 ?_;refine bE ?_;refine bB hh 2 ?_;refine br hh (pj a b _ VX VX hb0) rfl ?_;intro w18 hh;refine mT ?_;refine du ?_;refine du ?_;refine du ?_;refine aS (aS (aB (aa (ah (sr (mB ?_))))));refine fI ?_;refine tV ?_;refine bB hh 3 ?_;refine bE ?_;refine bB hh 2 ?_;refine F6 bj.out rfl rfl (by first|assumption|decide) VY ?_;refine mS ?_;refine eV [_,_] ?_;refine br hh (dh true (sN (bN a/bN b)) _ VX) rfl ?_;intro w33 hh;refine bQ hh ?_;intro b10 w10 hh;refine bR hh 0 [_,_] ?_;intro ws hh;replace hh:Hp _ (.blk _ _ [_,_] _::_) _:=hh;refine aa (sr (bE ?_));refine bB hh 4 ?_;refine mS ?_;refine eV [_,_] ?_;refine br hh (dh true (sN (bN a % bN b)) _ VX) rfl ?_;intro w38 hh;refine bQ hh ?_;intro b11 w11 hh;refine bR hh 0 [_,_] ?_;intro ws hh;replace hh:Hp _ (.blk _ _ [_,_] _::_) _:=hh
  refine aa (ah (sr ?_));refine cn hh 0 [_,_] ?_;refine br hh (jI (iN (iv true (sN (bN a % bN b)))) (iM (iv true (sN (bN a % bN b)))) _ (by have:=hrz true;omega)) rfl ?_;intro w40 hh;rw [fD];refine aW (aa (cT (sr ?_)));refine cn hh 0 [_,_] (bE ?_);refine bB hh 4 ?_;refine eV [_,_] ?_;refine br hh (ni (iN (iv true (sN (bN a % bN b)))) false (iM (iv true (sN (bN a % bN b)))) b _ (by have:=hrz true;omega) VX) rfl ?_;intro w46 hh;rw [fD,e2,e4,show -((bN a % bN b:Nat):Int)+(bN b:Int)=(bN b:Int)-((bN a % bN b:Nat):Int) by omega,←q2];refine bR hh 0 [_,_] ?_;intro ws hh;replace hh:Hp _ (.blk _ _ [_,_] _::_) _:=hh;refine aa (sr ?_);refine br hh (rq (-1) _ VX VX) rfl ?_;intro w47 hh;refine bQ hh ?_;intro b12 w12 hh;refine bR hh 0 [_,_] ?_;intro ws hh;replace hh:Hp _ (.blk _ _ [_,_] _::_) _:=hh;refine aa (ah (sr ?_));refine cn hh 5 [_,_] ?_;refine br hh (jI false b _ VX) rfl ?_;intro w49 hh;rw [e4,hp2];refine aW (aa (cF (ao (ai (al ?_)))));refine cn hh 2 [_,_] ?_;refine cn hh 0 [_,_] ?_;refine br hh (ni (iN (iv true (sN (bN a/bN b)))) (iN (-1)) (iM (iv true (sN (bN a/bN b)))) (iM (-1)) _ (by have:=hqz true;omega) VY) rfl ?_;intro w54 hh
  rw [fD,fD,e1,←q1];refine bR hh 2 [_,_] ?_;intro ws hh;replace hh:Hp _ (_::_::.blk _ _ [_,_] _::_) _:=hh;refine aa (ah ?_);refine qz hh mixed fun w_ hj_=> ?_;replace hh:=hj_.hp;clear hj_;refine uM (i:=0) (i2:=1) VZ rfl rfl ?_ ?_
  ·refine cn hh 2 [_,_] ?_;refine fk ?_;refine uM (i:=1) (i2:=2) VZ rfl rfl ?_ ?_
   ·refine cn hh 1 [_,_] ?_;exact PO
   ·refine bR hh 4 [_,_] ?_;intro ws hh;replace hh:Hp _ (_::_::_::_::.blk _ _ [_,_] _::_) _:=hh;refine fk ?_;refine gp (i:=1) VZ rfl ?_;refine cn hh 1 [_,_] ?_;exact Td
  ·refine cn hh 1 [_,_] ?_;refine fk ?_;refine gp (i:=0) VZ rfl ?_;refine cn hh 2 [_,_] ?_;exact PO
 ·have e4:iv s a/bN b=iv s (sN (bN a/bN b))∧iv s a % bN b=iv s (sN (bN a % bN b)):=by
   cases s with
   |false=>
    have f0:∀x,iv false x=(bN x:Int):=fun x=>by unfold iv;rw [V3 (by simp)]
    rw [f0,f0,f0,fq,fq];exact o9 _ _ _ _ VX VX VX
   |true=>
    have r0:bN a % bN b=0:=by
     rcases XP (bN a % bN b) with h|h
     ·exact h
     ·exact absurd ⟨rfl,VX⟩ hneg
    have f0:∀x,iv true x= -(bN x:Int):=fun x=>by unfold iv;rw [V2 rfl]
    rw [f0,f0,f0,fq,fq,r0];rw [r0] at hdm';exact o9 _ _ _ _ (by rw [Int.mul_neg];omega) VX VX
  have h5:¬(iv s (sN (bN a % bN b))).sign<0:=by
   have h6:0≤iv s (sN (bN a % bN b)):=by rw [←e4.2];exact Int.emod_nonneg _ VX
   have:=Int.sign_nonneg_iff.2 h6;omega
  rw [e4.1,e4.2]
  cases s with
  |false=>
   refine aj (N:=57) (l:=[.agg #[.bool false,.string a],.agg #[.bool false,.string b]]) Tryz.func210 rfl rfl (by simp) ?_;refine sr ?_;refine cf hh [_,_] ?_;intro b2 w2 hh;refine cf hh [_,_] ?_;intro b3 w3 hh;refine bQ hh ?_;intro b4 w4 hh;refine bQ hh ?_;intro b5 w5 hh;refine aB (aa (sr (bE ?_)));refine bB hh 3 ?_;refine bE ?_;refine bB hh 2 ?_;refine br hh (pj a b _ VX VX hb0) rfl ?_;intro w18 hh;refine mT ?_;refine du ?_;refine du ?_;refine du ?_;refine aS (aS (aB (aa (ah (sr (mB ?_))))));refine fI ?_;refine tV ?_;refine bB hh 3 ?_;refine bE ?_;refine bB hh 2 ?_;refine LS bj.out rfl rfl (by first|rfl|assumption) VY ?_;refine mS ?_;refine eV [_,_] ?_;refine br hh (dh false (sN (bN a/bN b)) _ VX) rfl ?_;intro w33 hh;refine bQ hh ?_;intro b10 w10 hh;refine bR hh 0 [_,_] ?_;intro ws hh;replace hh:Hp _ (.blk _ _ [_,_] _::_) _:=hh;refine aa (sr (bE ?_));refine bB hh 4 ?_;refine mS ?_;refine eV [_,_] ?_;refine br hh (dh false (sN (bN a % bN b)) _ VX) rfl ?_;intro w38 hh;refine bQ hh ?_;intro b11 w11 hh;refine bR hh 0 [_,_] ?_;intro ws hh;replace hh:Hp _ (.blk _ _ [_,_] _::_) _:=hh;refine aa (ah (sr ?_));refine cn hh 0 [_,_] ?_
   refine br hh (jI (iN (iv false (sN (bN a % bN b)))) (iM (iv false (sN (bN a % bN b)))) _ (by have:=hrz false;omega)) rfl ?_;exact U1
  |true=>
   refine aj (N:=57) (l:=[.agg #[.bool true,.string a],.agg #[.bool false,.string b]]) Tryz.func210 rfl rfl (by simp) ?_;refine sr ?_;refine cf hh [_,_] ?_;intro b2 w2 hh;refine cf hh [_,_] ?_;intro b3 w3 hh;refine bQ hh ?_;intro b4 w4 hh;refine bQ hh ?_;intro b5 w5 hh;refine aB (aa (sr (bE ?_)));refine bB hh 3 ?_;refine bE ?_;refine bB hh 2 ?_;refine br hh (pj a b _ VX VX hb0) rfl ?_;intro w18 hh;refine mT ?_;refine du ?_;refine du ?_;refine du ?_;refine aS (aS (aB (aa (ah (sr (mB ?_))))));refine fI ?_;refine tV ?_;refine bB hh 3 ?_;refine bE ?_;refine bB hh 2 ?_;refine F6 bj.out rfl rfl (by first|assumption|decide) VY ?_;refine mS ?_;refine eV [_,_] ?_;refine br hh (dh true (sN (bN a/bN b)) _ VX) rfl ?_;intro w33 hh;refine bQ hh ?_;intro b10 w10 hh;refine bR hh 0 [_,_] ?_;intro ws hh;replace hh:Hp _ (.blk _ _ [_,_] _::_) _:=hh;refine aa (sr (bE ?_));refine bB hh 4 ?_;refine mS ?_;refine eV [_,_] ?_;refine br hh (dh true (sN (bN a % bN b)) _ VX) rfl ?_;intro w38 hh;refine bQ hh ?_;intro b11 w11 hh;refine bR hh 0 [_,_] ?_;intro ws hh;replace hh:Hp _ (.blk _ _ [_,_] _::_) _:=hh;refine aa (ah (sr ?_));refine cn hh 0 [_,_] ?_
   refine br hh (jI (iN (iv true (sN (bN a % bN b)))) (iM (iv true (sN (bN a % bN b)))) _ (by have:=hrz true;omega)) rfl ?_;exact U1
variable {j k m:Nat}{z:Int}
theorem GD (h:n≠0):sb n=sb (n/256)++[UInt8.ofNat (n % 256)]:=by
 rw [sb,Hx VX h,Wv,Y6]
 rfl
theorem E5 (h:n≠0):1≤(sN n).size∧∃c:UInt8,(sN n).data.toList[(((sN n).size:Int)-1).toNat]?=some c∧c.toNat=n % 256:=by
 have hl:(sN n).data.toList=sb (n/256)++[UInt8.ofNat (n % 256)]:=by rw [sN,dT,GD h]
 have hs:(sN n).size=(sb (n/256)).length+1:=by rw [dD,hl,Wc];rfl
 refine ⟨VX,UInt8.ofNat (n % 256), ?_, ?_⟩
 ·rw [hl,hs,Xm VX];have:(((sb (n/256)).length+1:Nat)-1:Int).toNat-(sb (n/256)).length=0:=VX;rw [this]
  rfl
 ·simp
theorem QR (h:n≠0):(sN n).extract 0 ((sN n).size-1)=sN (n/256):=by
 have hl:(sN n).data=(sb (n/256)++[UInt8.ofNat (n % 256)]).toArray:=by rw [sN,←GD h];rfl
 have hs:(sN n).size=(sb (n/256)).length+1:=by rw [dD,hl,Wc];rfl
 apply ByteArray.ext;rw [ByteArray.data_extract,hl,hs];show _=(sb (n/256)).toArray;simp
theorem RC {k:Int} (h:0<k) (y:Int):iN (y*k)=iN y:=by
 unfold iN;rw [decide_eq_decide];constructor
 ·intro h1
  rcases YW y 0 with h2|h2|h2
  ·exact h2
  ·rw [h2] at h1;simp at h1
  ·have:=Int.mul_pos h2 h;omega
 ·intro h1;exact Int.mul_neg_of_neg_of_pos h1 h
theorem Qz (h:n % 2=1):tz n=0:=by
 have:=Ez 0 (n/2);rwa [show 2^0*(2*(n/2)+1)=n by omega] at this
theorem JR {y e:Int} (hy:y.natAbs % 2=1) (hz:y*2^j=z):nR (Dyadic.ofIntWithPrec z (-e))=⟨iN y,iM y,e+j⟩:=by
 have h1:=rl (s:=iN y) (a:=iM y) (e:=e+j) (by rw [fD];omega);rw [fD,iM,fq,Qz hy] at h1;have h2:=nE y (-(e+j)) j;rw [hz,show -(e+(j:Int))+j= -e by omega] at h2;rw [h2,h1];simp
theorem td {y:Int} (hy:y≠0) (hz:y*2^j=z) (hm:z.natAbs<2^m):j<m:=by
 have h1:z.natAbs=y.natAbs*2^j:=by rw [←hz,XW,Yn];rfl
 have h2:1*2^j≤y.natAbs*2^j:=Xi _ VX;have h3:2^j<2^m:=VX;exact (Zl VX).1 h3
theorem nB (s:Bool) (a:ByteArray) (e:Int) (w:World) (ha:a.size≤10000000) (h1: -1000000000000≤e) (h2:e≤1000000000000):
  Calls Tryz.prog 169 #[.agg #[.bool s,.string a],.int .i64 e] w fun r w'=>r=.returned (.agg #[.bool (nR (Dyadic.ofIntWithPrec (iv s a) (-e))).neg,.string (nR (Dyadic.ofIntWithPrec (iv s a) (-e))).bf,.int .i64 (nR (Dyadic.ofIntWithPrec (iv s a) (-e))).e])∧Below w.heap.size w w':=by
 have hh:=Hp.start w;by_cases h0:iv s a=0
 ·have hm:=sT.2 h0;rw [h0] at hm;refine aj (N:=50) (l:=[.agg #[.bool s,.string a],.int .i64 e]) Tryz.func169 rfl rfl (by simp) ?_;refine sr ?_;refine cf hh [_,_] ?_;intro b2 w2 hh;refine bQ hh ?_;intro b4 w4 hh;refine aa (sr ?_);refine cn hh 1 [_,_] ?_;refine br hh (dh s a _ VX) rfl ?_;intro w6 hh;rw [h0];refine bR hh 1 [_,_] ?_;intro ws hh;replace hh:Hp _ (_::.blk _ _ [_,_] _::_) _:=hh;refine aa (ah (sr (bE ?_)));refine bB hh 1 ?_;refine iK rfl rfl (by first|rfl|assumption|decide) VY ?_;refine aa (cT (sr ?_));refine eV [_,_,_] ?_;refine bR hh 0 [_,_,_] ?_;intro ws hh;replace hh:Hp _ (.blk _ _ [_,_,_] _::_) _:=hh;refine aa (au (aE ?_));refine A5 ?_;rw [kz,mb];exact ⟨rfl,hh.below⟩
 ·have hm:¬iM (iv s a)=ByteArray.mk #[]:=fun h=>h0 (sT.1 h);have hzb:(iv s a).natAbs<2^(8*a.size):=by
   rw [jw,WW];exact wI a
  refine aj (N:=50) (l:=[.agg #[.bool s,.string a],.int .i64 e]) Tryz.func169 rfl rfl (by simp) ?_;refine sr ?_;refine cf hh [_,_] ?_;intro b2 w2 hh;refine bQ hh ?_;intro b4 w4 hh;refine aa (sr ?_);refine cn hh 1 [_,_] ?_;refine br hh (dh s a _ VX) rfl ?_;intro w6 hh;refine bR hh 1 [_,_] ?_;intro ws hh;replace hh:Hp _ (_::.blk _ _ [_,_] _::_) _:=hh;refine aa (ah (sr (bE ?_)));refine bB hh 1 ?_;refine iH rfl rfl (by first|assumption|decide) VY ?_;refine aa (cF (ao (ai (ah (aq ?_)))));generalize hz:iv s a=z at*;refine aM [1,11,12,13,14,15,16,17,18,19,20,21,22,23,24,25,26,27,28] 1
   (fun v w'=>∃(y:Int) (j:Nat),y≠0∧y*2^j=z∧v=.int .i64 (e+j)∧Hp w [.blk b4 65 [.bool false,.string (ByteArray.mk #[]),.int .i64 0] (0,0),.blk b2 63 [.bool (iN y),.string (iM y)] (0,0)] w')
   (fun v _=>(e+8*a.size+1-intOf v).toNat) ?_ ?_
  ·exact ⟨z,0,h0,by simp,by show Value.int _ _=Value.int _ _;congr 1;omega,hh⟩
  ·clear hh;rintro ρ' v w' ⟨y,j,hy,hyz,rfl,hh⟩;have hj:=td hy hyz hzb;obtain ⟨hs1,c,hc,hcn⟩:=E5 (n:=y.natAbs) VX;have hcut:=QR (n:=y.natAbs) VX;have hsz:(sN y.natAbs).size≤10000000:=by
    exact SK
   change (iM y).data.toList[(((iM y).size:Int)-1).toNat]?=some c at hc
   change 1≤(iM y).size at hs1
   change (iM y).extract 0 ((iM y).size-1)=_ at hcut
   change (iM y).size≤_ at hsz
   by_cases hb:y.natAbs % 256=0
   ·obtain ⟨x,rfl⟩:∃x,y=x*256:=⟨y/256,VX⟩;have hx:x≠0:=fun h=>hy (by rw [h];rfl);have e1:iN (x*256)=iN x:=RC VX x;have e2:sN ((x*256).natAbs/256)=iM x:=by rw [iM];congr 1;omega
    have hxz:x*2^(j+8)=z:=by rw [←hyz,Int.pow_add,Int.mul_assoc,Int.mul_comm (2^j)];rfl
    have hj2:=td hx hxz hzb;refine ah (sr (bE ?_));refine bB hh 1 ?_;refine bE ?_;refine bB hh 1 ?_;refine bA bj.out rfl VY ?_;refine dQ ?_;refine hH ?_;refine cB (aa (cT (ao (ai (aq (sr (bE ?_)))))));refine bB hh 1 ?_;refine bE ?_;refine bB hh 1 ?_;refine bA bj.out rfl VY ?_;refine dQ ?_;refine rS (l:=0) (h:=((iM (x*256)).size-1)) bj.out rfl rfl ⟨_,_,rfl,VX⟩ VX VX VY ?_;refine bE ?_;refine bR hh 1 [_] ?_;intro ws hh;replace hh:Hp _ (_::.blk _ _ [_,_] _::_) _:=hh;refine aa (al (mI ?_));refine a9 (aI (aA (bF (ai ?_))));rw [hcut,e2,e1] at hh;refine ⟨⟨x,j+8,hx,hxz,by show Value.int _ _=Value.int _ _;congr 1;omega,hh⟩,by show (e+8*a.size+1-(e+j+8)).toNat<(e+8*a.size+1-(e+j)).toNat;omega, ?_⟩;exact dy
   ·refine ah (sr (bE ?_));refine bB hh 1 ?_;refine bE ?_;refine bB hh 1 ?_;refine bA bj.out rfl VY ?_;refine dQ ?_;refine hH ?_;refine cB (aa (cF (aU (aD (aD (bk (ai (ah (aq ?_)))))))));refine aM [1,29,30,31,32,33,34,35,36,37,38,39,40,41,42,43,44,45,46] 1
     (fun v w'=>∃(y:Int) (j:Nat),y≠0∧y*2^j=z∧v=.int .i64 (e+j)∧Hp w [.blk b4 65 [.bool false,.string (ByteArray.mk #[]),.int .i64 0] (0,0),.blk b2 63 [.bool (iN y),.string (iM y)] (0,0)] w')
     (fun v _=>(e+8*a.size+1-intOf v).toNat) ?_ ?_
    ·exact ⟨y,j,hy,hyz,rfl,hh⟩
    ·clear hh hb hcut hcn hc hs1 hsz hj hy hyz;rintro ρ2 v w2 ⟨y,j,hy,hyz,rfl,hh⟩;have hj:=td hy hyz hzb;obtain ⟨hs1,c,hc,hcn⟩:=E5 (n:=y.natAbs) VX;have hsz:(sN y.natAbs).size≤10000000:=by
      exact SK
     change (iM y).data.toList[(((iM y).size:Int)-1).toNat]?=some c at hc
     change 1≤(iM y).size at hs1
     change (iM y).size≤_ at hsz
     by_cases hb:y.natAbs % 2=0
     ·obtain ⟨x,rfl⟩:∃x,y=x*2:=⟨y/2,VX⟩;have hx:x≠0:=fun h=>hy (by rw [h];rfl);have hxz:x*2^(j+1)=z:=by rw [←hyz,Int.pow_add,Int.mul_assoc,Int.mul_comm (2^j)];rfl
      have hj2:=td hx hxz hzb;have hof:∀w1,Calls Tryz.prog 170 #[.int .i64 2] w1 fun e w'=>e=.returned (.agg #[.bool false,.string (iM 2)])∧Below w1.heap.size w1 w':=fun w1=>rq 2 w1 VX VX;have hdv:∀w1,Calls Tryz.prog 210 #[.agg #[.bool (iN (x*2)),.string (iM (x*2))],.agg #[.bool false,.string (iM 2)]] w1 fun e w'=>e=.returned (.tuple #[.agg #[.bool (iN x),.string (iM x)],.agg #[.bool (iN 0),.string (iM 0)],.bool true])∧Below w1.heap.size w1 w':=fun w1=>by
       have h2:bN (iM 2)=2:=fq 2;have h3:(iM 2).size≤10000000:=by rw [dH];decide
       have:=C5 (iN (x*2)) (iM (x*2)) (iM 2) w1 hsz h3 VX;rw [fD,h2,show x*2/((2:Nat):Int)=x by omega,show x*2 % ((2:Nat):Int)=0 by omega] at this;exact this
      refine ah (sr (bE ?_));refine bB hh 1 ?_;refine bE ?_;refine bB hh 1 ?_;refine bA bj.out rfl VY ?_;refine dQ ?_;refine hH ?_;refine D4 (b:=2) rfl rfl VX VY ?_;refine cB (aa (cT (ao (ai (aq (ah ?_))))));refine cH [] [5,6] [0,0,3,7,15,15,15,31] 7 [[(2,none)],[],[(39,some 0),(40,some 1)],[(41,some 2)],[(38,some 3)],[(38,some 3)],[(38,some 3)]] [(6,44),(5,43),(4,42),(3,38),(2,41),(1,40),(0,39)] hh mixed VZ da rfl (by repeat (first|exact cj|refine bP ?_|refine cg ?_)) ?_;refine ee 1 [_,_] ?_;refine dC (fun _ hj=>hof _) ?_;refine dC (fun _ hj=>hdv _) ?_;refine T1 ?_;refine LU ?_;refine LU ?_;refine LU ?_;refine aJ ?_;intro f W hJ hV _;have hb_8:=hJ.bl;obtain ⟨v44,v43,v42,v38,v41,v40,v39,_⟩:=hV;replace hh:=hJ.hp;refine aR (a8 (ae v44 (ae v43 (ae v42 (ae v38 (ae v41 (ae v40 (ae v39 aQ)))))))) ?_;dsimp only [bH];clear hJ;refine bR hh 1 [_,_] ?_;intro ws hh;replace hh:Hp _ (_::.blk _ _ [_,_] _::_) _:=hh;refine aa (al (mI ?_));refine a9 (aI (aA (bF (ai ?_))))
      refine ⟨⟨x,j+1,hx,hxz,by show Value.int _ _=Value.int _ _;congr 1;omega,hh⟩,by show (e+8*a.size+1-(e+j+1)).toNat<(e+8*a.size+1-(e+j)).toNat;omega, ?_⟩;exact dy
     ·have hfin:=JR (e:=e) (show y.natAbs % 2=1 by omega) hyz;refine ah (sr (bE ?_));refine bB hh 1 ?_;refine bE ?_;refine bB hh 1 ?_;refine bA bj.out rfl VY ?_;refine dQ ?_;refine hH ?_;refine D4 (b:=2) rfl rfl VX VY ?_;refine cB (aa (cF (aU (aD (aD (bk (ai (sr ?_))))))));refine cn hh 1 [_,_] (mI ?_);refine eV [_,_,_] ?_;refine bR hh 0 [_,_,_] ?_;intro ws hh;replace hh:Hp _ (.blk _ _ [_,_,_] _::_) _:=hh;refine aa (au ?_);refine A5 ?_;rw [hfin];exact ⟨rfl,hh.below⟩
theorem pZ {e:Int}{x:Dyadic} (w:World) (hx:Dyadic.ofIntWithPrec z (-e)=x) (hz:(iM z).size≤10000000) (h1: -1000000000000≤e) (h2:e≤1000000000000):
  Calls Tryz.prog 169 #[.agg #[.bool (iN z),.string (iM z)],.int .i64 e] w fun r w'=>r=.returned (.agg #[.bool (nR x).neg,.string (nR x).bf,.int .i64 (nR x).e])∧Below w.heap.size w w':=by
 have:=nB (iN z) (iM z) e w hz h1 h2;rw [fD,hx] at this;exact this
theorem jv (n:Int) (w:World) (h1: -9223372036854775808≤n) (h2:n≤9223372036854775807):
  Calls Tryz.prog 86 #[.int .i64 n] w fun r w'=>r=.returned (.agg #[.bool (nR (n:Dyadic)).neg,.string (nR (n:Dyadic)).bf,.int .i64 (nR (n:Dyadic)).e])∧Below w.heap.size w w':=by
 have hh:=Hp.start w;have hsz:(iM n).size≤10000000:=by
  rw [dH];have:bO n.natAbs≤64:=dO VX;omega
 have hc:=fun w1=>pZ (z:=n) (e:=0) (x:=(n:Dyadic)) w1 rfl hsz VX VX;refine aj (N:=6) (l:=[.int .i64 n]) Tryz.func86 rfl rfl (by simp) ?_;refine sr ?_;refine bQ hh ?_;intro b2 w2 hh;refine aa (sr (mI ?_));refine br hh (rq n _ h1 h2) rfl ?_;intro w4 hh;refine br hh (hc _) rfl ?_;intro w5 hh;exact Df
theorem kU (a:NR) (w:World) (ha:a.bf.size≤10000000) (h1: -1000000000000≤a.e) (h2:a.e≤1000000000000):
  Calls Tryz.prog 133 #[.agg #[.bool a.neg,.string a.bf,.int .i64 a.e]] w fun r w'=>r=.returned (.agg #[.bool (nR a.d).neg,.string (nR a.d).bf,.int .i64 (nR a.d).e])∧Below w.heap.size w w':=by
 have hh:=Hp.start w;refine aj (N:=8) (l:=[.agg #[.bool a.neg,.string a.bf,.int .i64 a.e]]) Tryz.func133 rfl rfl (by simp) ?_;refine sr ?_;refine cf hh [_,_,_] ?_;intro b1 w1 hh;refine bQ hh ?_;intro b2 w2 hh;refine aa (sr (bE ?_));refine cn hh 1 [_,_] (bE ?_);refine bB hh 1 ?_;refine br hh (nB a.neg a.bf a.e _ ha h1 h2) rfl ?_;intro w7 hh;exact Df
theorem er (a:NR) (w:World) (ha:a.bf.size≤10000000):
  Calls Tryz.prog 174 #[.agg #[.bool a.neg,.string a.bf,.int .i64 a.e]] w fun r w'=>r=.returned (.int .i64 a.i.sign)∧Below w.heap.size w w':=by
 have hh:=Hp.start w;refine aj (N:=6) (l:=[.agg #[.bool a.neg,.string a.bf,.int .i64 a.e]]) Tryz.func174 rfl rfl (by simp) ?_;refine sr ?_;refine cf hh [_,_,_] ?_;intro b1 w1 hh;refine aI (aa (sr (bE ?_)));refine cn hh 0 [_,_] ?_;refine br hh (jI a.neg a.bf _ VX) rfl ?_;intro w5 hh;exact vJ
theorem D3 (a:NR) (w:World) (ha:a.bf.size≤10000000) (h1: -1000000000000≤a.e) (h2:a.e≤1000000000000):
  Calls Tryz.prog 190 #[.agg #[.bool a.neg,.string a.bf,.int .i64 a.e]] w fun r w'=>r=.returned (.agg #[.bool (nR (-a.d)).neg,.string (nR (-a.d)).bf,.int .i64 (nR (-a.d)).e])∧Below w.heap.size w w':=by
 have hh:=Hp.start w;have hs:=nh a.neg a.bf;have hc:=fun w1=>pZ (z:= -(iv a.neg a.bf)) (e:=a.e) (x:= -a.d) w1 (zF _ _).symm VX h1 h2;refine aj (N:=9) (l:=[.agg #[.bool a.neg,.string a.bf,.int .i64 a.e]]) Tryz.func190 rfl rfl (by simp) ?_;refine sr ?_;refine cf hh [_,_,_] ?_;intro b1 w1 hh;refine bQ hh ?_;intro b2 w2 hh;refine aa (ah ?_);refine O1 ?_;refine cP ?_;refine ee 1 [_,_] ?_;refine dC (fun _ hj=>CX a.neg a.bf _ VX) ?_;refine cP ?_;refine dL 1 ?_;refine aJ ?_;intro f W hJ hV;have hb_1:=hJ.bl;obtain ⟨v7,v6,v5,v4,v3,_⟩:=hV;replace hh:=hJ.hp;refine aR (a8 (ae v7 (ae v6 (ae v5 (ae v4 (ae v3 aQ)))))) ?_;dsimp only [bH];clear hJ;refine br hh (hc _) rfl ?_;intro w8 hh;exact Df
theorem yS (a:NR) (n:Int) (w:World) (ha:a.bf.size≤10000000) (h1: -100000000000≤a.e) (h2:a.e≤100000000000) (h3: -100000000000≤n) (h4:n≤100000000000):
  Calls Tryz.prog 85 #[.agg #[.bool a.neg,.string a.bf,.int .i64 a.e],.int .i64 n] w fun r w'=>r=.returned (.agg #[.bool (nR (a.d*qV n)).neg,.string (nR (a.d*qV n)).bf,.int .i64 (nR (a.d*qV n)).e])∧Below w.heap.size w w':=by
 have hh:=Hp.start w;have e1:Dyadic.ofIntWithPrec (iv a.neg a.bf) (-(a.e+n))=a.d*qV n:=by
  rw [Int.neg_add];exact Np _ _ _
 have hc:=fun w1=>nB a.neg a.bf (a.e+n) w1 ha VX VX;rw [e1] at hc;refine aj (N:=12) (l:=[.agg #[.bool a.neg,.string a.bf,.int .i64 a.e],.int .i64 n]) Tryz.func85 rfl rfl (by simp) ?_;refine sr ?_;refine cf hh [_,_,_] ?_;intro b2 w2 hh;refine bQ hh ?_;intro b4 w4 hh;refine aa (sr (bE ?_));refine cn hh 1 [_,_] (bE ?_);refine bB hh 1 ?_;refine mI ?_;refine a9 ?_;refine br hh (hc _) rfl ?_;intro w11 hh;exact Df
theorem Uh (x:Dyadic):Dyadic.ofIntWithPrec (nR x).i (-(nR x).e)=x:=cm x
theorem l0 (a b:NR) (w:World) (ha:a.bf.size≤4000000) (hb:b.bf.size≤4000000) (h1: -100000000000≤a.e) (h2:a.e≤100000000000) (h3: -100000000000≤b.e) (h4:b.e≤100000000000):
  Calls Tryz.prog 112 #[.agg #[.bool a.neg,.string a.bf,.int .i64 a.e],.agg #[.bool b.neg,.string b.bf,.int .i64 b.e]] w fun r w'=>r=.returned (.agg #[.bool (nR (a.d*b.d)).neg,.string (nR (a.d*b.d)).bf,.int .i64 (nR (a.d*b.d)).e])∧Below w.heap.size w w':=by
 have hh:=Hp.start w;have e2:Dyadic.ofIntWithPrec (iv a.neg a.bf*iv b.neg b.bf) (-(a.e+b.e))=a.d*b.d:=by
  rw [Int.neg_add];exact (qj _ _ _ _).symm
 have hb1:=ie a.neg a.bf;have hb2:=ie b.neg b.bf;have hb3:=j6 (iv a.neg a.bf) (iv b.neg b.bf);have hc:=fun w1=>pZ (z:=iv a.neg a.bf*iv b.neg b.bf) (e:=a.e+b.e) w1 e2 (by rw [dH];omega) VX VX;refine aj (N:=16) (l:=[.agg #[.bool a.neg,.string a.bf,.int .i64 a.e],.agg #[.bool b.neg,.string b.bf,.int .i64 b.e]]) Tryz.func112 rfl rfl (by simp) ?_;refine sr ?_;refine cf hh [_,_,_] ?_;intro b2 w2 hh;refine cf hh [_,_,_] ?_;intro b3 w3 hh;refine bQ hh ?_;intro b4 w4 hh;refine aa (ah ?_);refine Iv ?_;refine cP ?_;refine ee 2 [_,_] ?_;refine cP ?_;refine ee 1 [_,_] ?_;refine dC (fun _ hj=>yU a.neg b.neg a.bf b.bf _ VX VX) ?_;refine cP ?_;refine dL 2 ?_;refine cP ?_;refine dL 1 ?_;refine qG ?_;refine aJ ?_;intro f W hJ hV;have hb_1:=hJ.bl;obtain ⟨v14,v13,v12,v11,v10,v9,v8,v7,v6,v5,_⟩:=hV;replace hh:=hJ.hp;refine Et ?_;dsimp only [bH];clear hJ;refine br hh (hc _) rfl ?_;intro w15 hh;exact Df
theorem Ny {u v:NR} (h:u.e=v.e+k):Dyadic.ofIntWithPrec (u.i*2^k+v.i) (-v.e)=u.d+v.d:=by
 rw [←sI];congr 1;have:=nE u.i (-u.e) k;rw [show -u.e+(k:Int)= -v.e by omega] at this;exact this
theorem uf {u v:NR} (hk:u.e=v.e+k) (hu:u.bf.size≤1000000) (hv:v.bf.size≤1000000) (hk2:k≤40000000) (h1: -100000000000≤v.e) (h2:v.e≤100000000000):
  (∀w,Calls Tryz.prog 183 #[.agg #[.bool u.neg,.string u.bf],.int .i64 (u.e-v.e)] w fun e w'=>e=.returned (.agg #[.bool (iN (u.i*2^k)),.string (iM (u.i*2^k))])∧Below w.heap.size w w')∧
  (∀w,Calls Tryz.prog 182 #[.agg #[.bool (iN (u.i*2^k)),.string (iM (u.i*2^k))],.agg #[.bool v.neg,.string v.bf]] w fun e w'=>e=.returned (.agg #[.bool (iN (u.i*2^k+v.i)),.string (iM (u.i*2^k+v.i))])∧Below w.heap.size w w')∧
  ∀w,Calls Tryz.prog 169 #[.agg #[.bool (iN (u.i*2^k+v.i)),.string (iM (u.i*2^k+v.i))],.int .i64 v.e] w fun r w'=>r=.returned (.agg #[.bool (nR (u.d+v.d)).neg,.string (nR (u.d+v.d)).bf,.int .i64 (nR (u.d+v.d)).e])∧Below w.heap.size w w':=by
 have hb1:bO (u.i*2^k).natAbs≤8000000+k:=by
  rw [XW,Yn];have:=iU u.i.natAbs k;have h3:=ie u.neg u.bf;unfold NR.i at this ⊢;exact Wz this VX
 have hb2:=ie v.neg v.bf;have hb3:=mm (u.i*2^k) v.i;refine ⟨fun w=> ?_,fun w=> ?_,fun w=> ?_⟩
 ·rw [show u.e-v.e=k by omega];exact Eh u.neg u.bf k w VX VX
 ·have:=ni (iN (u.i*2^k)) v.neg (iM (u.i*2^k)) v.bf w (by rw [dH];omega) VX;rw [fD] at this;exact this
 ·exact pZ w (Ny hk) (by rw [dH];unfold NR.i at hb1 hb3 ⊢;omega) VX VX
theorem kL (a b:NR) (w:World) (ha:a.ok) (hb:b.ok):
  Calls Tryz.prog 114 #[.agg #[.bool a.neg,.string a.bf,.int .i64 a.e],.agg #[.bool b.neg,.string b.bf,.int .i64 b.e]] w fun r w'=>r=.returned (.agg #[.bool (nR (a.d+b.d)).neg,.string (nR (a.d+b.d)).bf,.int .i64 (nR (a.d+b.d)).e])∧Below w.heap.size w w':=by
 have hh:=Hp.start w;obtain ⟨ha1,ha2,ha3⟩:=ha;obtain ⟨hb1,hb2,hb3⟩:=hb;obtain ⟨_,fa1,fa2,fa3⟩:=kH (a:=a) ⟨ha1,ha2,ha3⟩;obtain ⟨_,fb1,fb2,fb3⟩:=kH (a:=b) ⟨hb1,hb2,hb3⟩;have hsg:∀x:Dyadic,(nR x).i.sign=0↔x=0:=fun x=>by
  rw [Int.sign_eq_zero_iff_zero];constructor
  ·intro h;rw [←Uh x,h,kz]
  ·intro h;rw [h];rfl
 by_cases h0:a.d=0
 ·have hs0:=(hsg a.d).2 h0;refine E3 ?_;refine sr ?_;refine cf hh [_,_,_] ?_;intro b2 w2 hh;refine cf hh [_,_,_] ?_;intro b3 w3 hh;refine bQ hh ?_;intro b4 w4 hh;refine aa (ah ?_);refine F9 ?_;refine ee 2 [_,_,_] ?_;refine GC ?_;refine ee 1 [_,_,_] ?_;refine aJ ?_;intro f W hJ hV;have hb_1:=hJ.bl;obtain ⟨v7,v6,v5,_⟩:=hV;replace hh:=hJ.hp;refine uJ ?_;dsimp only [bH];clear hJ;refine FD ?_;intro w8 hh;refine bR hh 2 [_,_,_] ?_;intro ws hh;replace hh:Hp _ (_::_::.blk _ _ [_,_,_] _::_) _:=hh;refine bR hh 1 [_,_,_] ?_;intro ws hh;replace hh:Hp _ (_::.blk _ _ [_,_,_] _::_) _:=hh;refine aa (ah (sr ?_));refine cn hh 2 [_,_,_] ?_;refine br hh (er (nR a.d) _ VX) rfl ?_;intro w10 hh;refine cB (aa (cT (sr ?_)));refine cn hh 1 [_,_,_] ?_;refine bR hh 0 [_,_,_] ?_;intro ws hh;replace hh:Hp _ (.blk _ _ [_,_,_] _::_) _:=hh;refine aa (au (aE ?_));refine A5 ?_;rw [h0,X9];exact ⟨rfl,hh.below⟩
 ·have hs0:¬(nR a.d).i.sign=0:=fun h=>h0 ((hsg a.d).1 h);by_cases h1:b.d=0
  ·have hs1:=(hsg b.d).2 h1;refine E3 ?_;refine sr ?_;refine cf hh [_,_,_] ?_;intro b2 w2 hh;refine cf hh [_,_,_] ?_;intro b3 w3 hh;refine bQ hh ?_;intro b4 w4 hh;refine aa (ah ?_);refine F9 ?_;refine ee 2 [_,_,_] ?_;refine GC ?_;refine ee 1 [_,_,_] ?_;refine aJ ?_;intro f W hJ hV;have hb_1:=hJ.bl;obtain ⟨v7,v6,v5,_⟩:=hV;replace hh:=hJ.hp;refine uJ ?_;dsimp only [bH];clear hJ;refine FD ?_;intro w8 hh;refine bR hh 2 [_,_,_] ?_;intro ws hh;replace hh:Hp _ (_::_::.blk _ _ [_,_,_] _::_) _:=hh;refine bR hh 1 [_,_,_] ?_;intro ws hh;replace hh:Hp _ (_::.blk _ _ [_,_,_] _::_) _:=hh;refine aa (ah (sr ?_));refine cn hh 2 [_,_,_] ?_;refine br hh (er (nR a.d) _ VX) rfl ?_;intro w10 hh;refine cB (aa (cF (ao (ai (ah (sr ?_))))));refine cn hh 1 [_,_,_] ?_;refine br hh (er (nR b.d) _ VX) rfl ?_;intro w14 hh;refine cB (aa (cT (sr ?_)));refine cn hh 2 [_,_,_] ?_;refine bR hh 0 [_,_,_] ?_;intro ws hh;replace hh:Hp _ (.blk _ _ [_,_,_] _::_) _:=hh;refine aa (au (aE ?_));refine A5 ?_;rw [h1,X8];exact ⟨rfl,hh.below⟩
  ·have hs1:¬(nR b.d).i.sign=0:=fun h=>h1 ((hsg b.d).1 h);by_cases hlt:(nR a.d).e<(nR b.d).e
   ·obtain ⟨k,hk⟩:∃k:Nat,(nR b.d).e=(nR a.d).e+k:=⟨((nR b.d).e-(nR a.d).e).toNat,VX⟩;obtain ⟨hshl,hpl,hmk⟩:=uf hk fb1 fa1 VX VX VX;rw [cm,cm,Dyadic.add_comm] at hmk;refine E3 ?_;refine sr ?_;refine cf hh [_,_,_] ?_;intro b2 w2 hh;refine cf hh [_,_,_] ?_;intro b3 w3 hh;refine bQ hh ?_;intro b4 w4 hh;refine aa (ah ?_);refine F9 ?_;refine ee 2 [_,_,_] ?_;refine GC ?_;refine ee 1 [_,_,_] ?_;refine aJ ?_;intro f W hJ hV;have hb_1:=hJ.bl;obtain ⟨v7,v6,v5,_⟩:=hV;replace hh:=hJ.hp;refine uJ ?_;dsimp only [bH];clear hJ;refine FD ?_;intro w8 hh;refine bR hh 2 [_,_,_] ?_;intro ws hh;replace hh:Hp _ (_::_::.blk _ _ [_,_,_] _::_) _:=hh;refine bR hh 1 [_,_,_] ?_;intro ws hh;replace hh:Hp _ (_::.blk _ _ [_,_,_] _::_) _:=hh;refine aa (ah (sr ?_));refine cn hh 2 [_,_,_] ?_;refine br hh (er (nR a.d) _ VX) rfl ?_;intro w10 hh;refine cB (aa (cF (ao (ai (ah (sr ?_))))));refine cn hh 1 [_,_,_] ?_;refine br hh (er (nR b.d) _ VX) rfl ?_;intro w14 hh;refine Fg ?_;refine bB hh 2 ?_;refine bE ?_;refine bB hh 1 ?_;refine aW (aa (cT (al ?_)));refine cn hh 1 [_,_,_] ?_;refine cn hh 2 [_,_,_] ?_;refine bR hh 2 [_,_,_] ?_;intro ws hh
    replace hh:Hp _ (_::_::.blk _ _ [_,_,_] _::_) _:=hh;refine bR hh 1 [_,_,_] ?_;intro ws hh;replace hh:Hp _ (_::.blk _ _ [_,_,_] _::_) _:=hh;refine aa (ah ?_);exact O3
   ·obtain ⟨k,hk⟩:∃k:Nat,(nR a.d).e=(nR b.d).e+k:=⟨((nR a.d).e-(nR b.d).e).toNat,VX⟩;obtain ⟨hshl,hpl,hmk⟩:=uf hk fa1 fb1 VX VX VX;rw [cm,cm] at hmk;refine E3 ?_;refine sr ?_;refine cf hh [_,_,_] ?_;intro b2 w2 hh;refine cf hh [_,_,_] ?_;intro b3 w3 hh;refine bQ hh ?_;intro b4 w4 hh;refine aa (ah ?_);refine F9 ?_;refine ee 2 [_,_,_] ?_;refine GC ?_;refine ee 1 [_,_,_] ?_;refine aJ ?_;intro f W hJ hV;have hb_1:=hJ.bl;obtain ⟨v7,v6,v5,_⟩:=hV;replace hh:=hJ.hp;refine uJ ?_;dsimp only [bH];clear hJ;refine FD ?_;intro w8 hh;refine bR hh 2 [_,_,_] ?_;intro ws hh;replace hh:Hp _ (_::_::.blk _ _ [_,_,_] _::_) _:=hh;refine bR hh 1 [_,_,_] ?_;intro ws hh;replace hh:Hp _ (_::.blk _ _ [_,_,_] _::_) _:=hh;refine aa (ah (sr ?_));refine cn hh 2 [_,_,_] ?_;refine br hh (er (nR a.d) _ VX) rfl ?_;intro w10 hh;refine cB (aa (cF (ao (ai (ah (sr ?_))))));refine cn hh 1 [_,_,_] ?_;refine br hh (er (nR b.d) _ VX) rfl ?_;intro w14 hh;refine Fg ?_;refine bB hh 2 ?_;refine bE ?_;refine bB hh 1 ?_;refine aW (aa (cF (ao (ai (ah ?_)))));exact O3
theorem tC (a b:NR) (w:World) (ha:a.ok) (hb:b.ok) (hb':(nR b.d).ok):
  Calls Tryz.prog 128 #[.agg #[.bool a.neg,.string a.bf,.int .i64 a.e],.agg #[.bool b.neg,.string b.bf,.int .i64 b.e]] w fun r w'=>r=.returned (.agg #[.bool (nR (a.d-b.d)).neg,.string (nR (a.d-b.d)).bf,.int .i64 (nR (a.d-b.d)).e])∧Below w.heap.size w w':=by
 have hh:=Hp.start w;obtain ⟨hb1,hb2,hb3⟩:=hb;obtain ⟨n1,n2⟩:=RU b.d;obtain ⟨o1,o2,o3⟩:=hb';have hp:=fun w1=>kL a (nR (-b.d)) w1 ha ⟨by rw [n1];exact o1,by rw [n2];exact o2,by rw [n2];exact o3⟩;rw [cm] at hp;refine aj (N:=9) (l:=[.agg #[.bool a.neg,.string a.bf,.int .i64 a.e],.agg #[.bool b.neg,.string b.bf,.int .i64 b.e]]) Tryz.func128 rfl rfl (by simp) ?_;refine sr ?_;refine cf hh [_,_,_] ?_;intro b2 w2 hh;refine cf hh [_,_,_] ?_;intro b3 w3 hh;refine bQ hh ?_;intro b4 w4 hh;refine aa (ah ?_);refine Jy ?_;refine ee 2 [_,_,_] ?_;refine ee 1 [_,_,_] ?_;refine dC (fun _ hj=>D3 b _ VX VX VX) ?_;refine aJ ?_;intro f W hJ hV;have hb_1:=hJ.bl;obtain ⟨v7,v6,v5,_⟩:=hV;replace hh:=hJ.hp;refine uJ ?_;dsimp only [bH];clear hJ;refine br hh (hp _) rfl ?_;intro w8 hh;exact Df
theorem Ic (x y:Dyadic):(nR (x-y)).i.sign=jU x y:=by
 rw [NR.sign,cm];unfold jU;have e1:x-y<0↔x<y:=by grind
 have e2:0<x-y↔y<x:=by grind
 simp only [e1,e2]
theorem CE (a b:NR) (w:World) (ha:a.ok) (hb:b.ok) (hb':(nR b.d).ok) (hs:(nR (a.d-b.d)).bf.size≤10000000):
  Calls Tryz.prog 175 #[.agg #[.bool a.neg,.string a.bf,.int .i64 a.e],.agg #[.bool b.neg,.string b.bf,.int .i64 b.e]] w fun r w'=>r=.returned (.int .i64 (jU a.d b.d))∧Below w.heap.size w w':=by
 have hh:=Hp.start w;refine aj (N:=9) (l:=[.agg #[.bool a.neg,.string a.bf,.int .i64 a.e],.agg #[.bool b.neg,.string b.bf,.int .i64 b.e]]) Tryz.func175 rfl rfl (by simp) ?_;refine sr ?_;refine cf hh [_,_,_] ?_;intro b2 w2 hh;refine cf hh [_,_,_] ?_;intro b3 w3 hh;refine aI (aa (sr ?_));refine cn hh 1 [_,_,_] ?_;refine cn hh 0 [_,_,_] ?_;refine br hh (tC a b _ ha hb hb') rfl ?_;intro w7 hh;refine br hh (er (nR (a.d-b.d)) _ hs) rfl ?_;intro w8 hh;rw [Ic];exact vJ
theorem Sz.pow {x:Dyadic} (h:Sz k x) (n:Nat):Sz (1+k*n) (x^n):=by
 induction n with
 |zero=>rw [Dyadic.pow_zero];exact Sz.one
 |succ n ih=>rw [Dyadic.pow_succ];exact (ih.mul h).mono (by rw [XI];omega)
def D (m e:Int):Dyadic:=Dyadic.ofIntWithPrec m (-e)
theorem JS {m e:Int} (hm:m.natAbs<256) (h1: -16≤e) (h2:e≤16):Sz 24 (D m e):=by
 have:=Sz.raw (a:=⟨iN m,iM m,e⟩) (m:=8) (E:=16) (by show 8*(iM m).size≤8;rw [dH];have:bO m.natAbs≤8:=dO hm;omega) h1 h2;rw [NR.d,NR.i,fD] at this;exact this
def UU (most far:Int) (l:List NR):Bool:=l.any fun a=>decide (most<a.bf.size∨a.e< -far∨far<a.e)
variable {W:World}{base fuel:Nat}{cs:List Value}{held:Bool}{sp:Nat→Bool}
open Go.ChangeShapes Go.WideShapes Go.ChangeAt Go.RowKit Go.ChangeMaps
set_option maxRecDepth 100000 in
theorem rn {H:Type}{enc:TypeId×Value→H}{x:DataW H×List MemPlace} (h:DataW.trod enc Tryz.prog W base sp held fuel 65 cs=some x):
  ∃a:NR,cs=a.cells∧(Lit.int .i64 a.e).wf=true:=by
 have c1:Tryz.prog.cellsOf 65=3:=by kernel_rfl
 have c2:Tryz.prog.cellsOf 63=2:=by kernel_rfl
 have c3:Tryz.prog.cellsOf 4=1:=by kernel_rfl
 have c4:Tryz.prog.cellsOf 9=1:=by kernel_rfl
 have c5:Tryz.prog.cellsOf 3=1:=by kernel_rfl
 obtain ⟨y0,y1,n,_,hl,h0,h1⟩:=trod_struct2 Tryz.underlying65 h;obtain ⟨z0,z1,n2,_,hl2,h00,h01⟩:=trod_struct2 Tryz.underlying63 h0;obtain ⟨b,e0,_⟩:=DataW.trod_bool Tryz.underlying4 h00;obtain ⟨s,e1,_,hs⟩:=DataW.trod_string Tryz.underlying9 h01;obtain ⟨z,e2,_,hz⟩:=DataW.trod_int Tryz.underlying3 h1;rw [c1] at hl
 match cs,hl with
 |[x0,x1,x2],_=>
  simp only [c2,c3,c4,c5] at e0 e1 e2;simp at e0 e1 e2;subst e0 e1 e2;exact ⟨⟨b,s,z⟩,rfl,hz⟩
theorem Co (h:laidMetH Tryz.prog Rows.calcSlopesRow.laid W):eK W:=by
 rw [MakeChecks.laidMetH_plain _ _ _ VZ] at h;obtain ⟨ps,⟨g,t,cs,fuel,p,q,hg,ht,hv,hd,_,_⟩,_,_⟩:=h;obtain rfl:=WZ ((show Tryz.prog.globalNamed "math/bits.deBruijn64tab" =some 0 by kernel_rfl).symm.trans hg);obtain rfl:=WZ ((show (Tryz.prog.globals[0]?).map (·.type)=some 244 by kernel_rfl).symm.trans ht);obtain ⟨xs,m,_,ex,_,hl,hel⟩:=DataW.trod_array Tryz.underlying244 hd;have c5:Tryz.prog.cellsOf 5=1:=by kernel_rfl
 have e3:(xs.map (·.1))=DZ.map fun n=>.lit (.int .u8 n):=(DataW.agg.inj (Prod.mk.inj ex).1).symm;have hlen:DZ.length=64:=by decide
 intro r u hu;have hr:r<64:=by
  have:=(Wi.1 hu).1;rw [cY] at this;omega
 have hE:=hel r hr;rw [c5,Wo,Xp VX] at hE;obtain ⟨z,e1,e2,_⟩:=DataW.trod_int Tryz.underlying5 hE;have e4:(xs.map (·.1))[r]?=(DZ.map fun (n:Nat)=>(DataW.lit (.int .u8 n):DataW Unit))[r]?:=by rw [e3]
 rw [Wf,Wf,Xp (by omega:r<xs.length),Xp (by omega:r<DZ.length),e2] at e4;have hz:u=.int .u8 z:=by
  rw [gP,Wf,Xp (by omega:r<DZ.length)] at hu;simp only [XJ,XO,DataW.lit.injEq,Lit.int.injEq,true_and] at e4 hu;rw [←hu,e4]
 rw [fP,Wr,World.var?_cell hg hv r,hz];have:cs.toList[r]?=some (.int .u8 z):=by
  have h0:((cs.toList.drop r).take 1)[0]?=some (.int .u8 z):=by rw [e1];rfl
  simpa using h0
 simpa using this
variable {P:Program}{b0:Nat}{α:Type}
theorem u5 {α:Type}{p:Nat→α→Prop}:∀(n:Nat),(∀i,i<n→∃a,p i a)→∃l:List α,l.length=n∧∀i a,l[i]?=some a→p i a
 |0,_=>⟨[],rfl,fun i a h=>by simp at h⟩
 |n+1,h=>by
  obtain ⟨l,h1,h2⟩:=u5 n fun i hi=>h i VX;obtain ⟨a,ha⟩:=h n VX;refine ⟨l++[a],by simp [h1],fun i b hb=> ?_⟩
  rcases WX i l.length with hi|hi
  ·rw [Yp hi] at hb;exact h2 i b hb
  ·rw [Xm hi] at hb;have h3:i-l.length=0:=by
    rcases XP (i-l.length) with h|h
    ·exact h
    ·rw [WK (by simp;omega)] at hb;cases hb
   rw [h3] at hb;simp only [YN,XO] at hb;subst hb;rw [show i=n by omega];exact ha
theorem wv {f:α→List Value}{p:α→Prop}{sz:Nat}{t e:TypeId}{H:Type}{enc:TypeId×Value→H}{r:Reach}{v:Value}{d:DataW H}{ps:List MemPlace}
  (hf:∀x,(f x).length=sz) (h0:0<sz) (ht:P.underlying t=some (.slice e)) (hc:P.cellsOf e=sz) (one:∀fuel cs x,DataW.trod enc P W base sp held fuel e cs=some x→∃a,cs=f a∧p a)
  (hval:Value.okWide P W r b0 t v) (hd:DataW.Trod enc P W base sp held t v d ps):∃(A:Option Addr) (n c:Nat) (l:List α),v=.slice A n c∧Sl W A n sz (az f l)∧∀a∈l,p a:=by
 obtain ⟨a,len,cap,rfl⟩:=okWide_slice ht hval;obtain ⟨fuel,hfu⟩:=hd
 rcases Go.Deep.open_slice ht hfu with ⟨h1,_⟩|⟨ad,n,cp,m,k,D,Pl,h1,_,h2,h3,hm,_,h5⟩
 ·have h1':[Value.slice a len cap]=[.slice none 0 0]:=h1;simp only [List.cons.injEq,Value.slice.injEq,and_true] at h1';obtain ⟨rfl,rfl,rfl⟩:=h1';exact ⟨none,0,0,[],rfl,Sl.nil W none sz,fun _ h=>by simp at h⟩
 ·have h1':[Value.slice a len cap]=[.slice (some ad) n cp]:=h1;simp only [List.cons.injEq,Value.slice.injEq,and_true] at h1';obtain ⟨rfl,rfl,rfl⟩:=h1';have hnm:len≤m:=by rw [hm];split<;>omega
  obtain ⟨l,hl,hp⟩:=u5 (p:=fun i a=>W.cells? base (ad.add (i*sz)) sz=some (f a)∧p a) len fun i hi=>by
   exact NY
  refine ⟨some ad,len,cap,l,rfl,⟨by rw [fw hf,hl],fun _=>⟨ad,rfl,fun j u hu=> ?_⟩⟩,fun a ha=> ?_⟩
  ·exact Sw
  ·obtain ⟨i,hi⟩:=Xr.1 ha;exact (hp i a hi).2
variable {c:Nat}
def IC (z:Int):List Value:=[.int .i64 z]
theorem IC.len (z:Int):(IC z).length=1:=rfl
theorem Mx (l:List Int):az IC l=bC l:=by
 induction l with
 |nil=>rfl
 |cons z l ih=>rw [gE,ih];rfl
set_option maxRecDepth 100000 in
theorem HY {H:Type}{enc:TypeId×Value→H}{x:DataW H×List MemPlace} (h:DataW.trod enc Tryz.prog W base sp held fuel 3 cs=some x):
  ∃z:Int,cs=IC z∧(Lit.int .i64 z).wf=true:=by
 have c1:Tryz.prog.cellsOf 3=1:=by kernel_rfl
 obtain ⟨z,e2,_,hz⟩:=DataW.trod_int Tryz.underlying3 h;exact ⟨z,e2,hz⟩
set_option maxRecDepth 100000 in
theorem GI {H:Type}{enc:TypeId×Value→H}{r:Reach}{v:Value}{d:DataW H}{ps:List MemPlace}
  (hval:Value.okWide Tryz.prog W r b0 35 v) (hd:DataW.Trod enc Tryz.prog W base sp held 35 v d ps):∃(A:Option Addr) (n c:Nat) (l:List Int),v=.slice A n c∧Sl W A n 1 (bC l)∧∀z∈l, -9223372036854775808≤z∧z≤9223372036854775807:=by
 obtain ⟨A,n,c,l,h1,h2,h3⟩:=wv IC.len VY Tryz.underlying35 VZ (fun _ _ _ h=>HY h) hval hd;rw [Mx] at h2;exact ⟨A,n,c,l,h1,h2,fun z hz=>bounds_i64 (h3 z hz)⟩
theorem CO {f:α→List Value}{p:α→Prop}{sz:Nat}{t e:TypeId}{H:Type}{enc:TypeId×Value→H}{x:DataW H×List MemPlace}
  (hf:∀x,(f x).length=sz) (h0:0<sz) (ht:P.underlying t=some (.slice e)) (hc:P.cellsOf e=sz) (one:∀fuel cs x,DataW.trod enc P W base sp held fuel e cs=some x→∃a,cs=f a∧p a)
  (hfu:DataW.trod enc P W base sp held fuel t cs=some x):∃(A:Option Addr) (n c:Nat) (l:List α),cs=[.slice A n c]∧Sl W A n sz (az f l)∧∀a∈l,p a:=by
 rcases Go.Deep.open_slice ht hfu with ⟨h1,_⟩|⟨ad,n,cp,m,k,D,Pl,h1,_,h2,h3,hm,_,h5⟩
 ·exact ⟨none,0,0,[],h1,Sl.nil W none sz,fun _ h=>by simp at h⟩
 ·have hnm:n≤m:=by rw [hm];split<;>omega
  obtain ⟨l,hl,hp⟩:=u5 (p:=fun i a=>W.cells? base (ad.add (i*sz)) sz=some (f a)∧p a) n fun i hi=>by
   exact NY
  refine ⟨some ad,n,cp,l,h1,⟨by rw [fw hf,hl],fun _=>⟨ad,rfl,fun j u hu=> ?_⟩⟩,fun a ha=> ?_⟩
  ·exact Sw
  ·obtain ⟨i,hi⟩:=Xr.1 ha;exact (hp i a hi).2
theorem Ht {t e:TypeId}{H:Type}{enc:TypeId×Value→H}{A:Option Addr}{x:DataW H×List MemPlace}
  (ht:P.underlying t=some (.slice e)) (hfu:DataW.trod enc P W base sp held fuel t [.slice A n c]=some x):n≤c:=by
 rcases Go.Deep.open_slice ht hfu with ⟨h1,_⟩|⟨ad,n',cp,m,k,D,Pl,h1,_,h2,_⟩
 ·injection h1 with h1
  injection h1 with _ e2 e3
  omega
 ·injection h1 with h1
  injection h1 with _ e2 e3
  omega
theorem Ks {l:List Int} (h:l.all cE=true):ints (l.map pw)=l:=by
 induction l with
 |nil=>rfl
 |cons x l ih=>
  simp only [List.all_cons,Wl] at h;have h1:((pw x).toNat:Int)=x:=by
   have:=n8 h.1;injection this with _ this
   exact this.symm
  have:=ih h.2;simp only [ints,Wv,h1];congr 1
theorem KK {l:List Int} (h:l.all cE=true):ef (l.map pw)=true:=by
 rw [ef,Ww];intro c hc;obtain ⟨x,hx,rfl⟩:=Wn.1 hc;have h1:=Ww.1 h x hx;have:=n8 h1;injection this with _ this
 simp only [cE,Wl,Wt] at h1;simp only [Wt];omega
theorem Nh {a:List UInt8} (h:ef a=true):(ints a).all cE=true:=by
 rw [Ww];intro x hx;obtain ⟨c,hc,rfl⟩:=Wn.1 hx;have:=Ww.1 h c hc;simp only [Wt] at this;simp only [cE,Wl,Wt];omega
theorem xi {f:Int→Int→Int}{a b:List UInt8}{l:List Int} (h:gQ f a b=some l):ef a=true∧ef b=true∧b.length=a.length∧l=List.zipWith f (ints a) (ints b):=by
 unfold gQ at h;split at h
 ·rename_i hc;simp only [Wl,Wt] at hc;injection h with h
  exact ⟨hc.1,hc.2.1,VX,h.symm⟩
 ·cases h
theorem L6 {f:Int→Int→Int}{a b:List UInt8} (h1:ef a=true) (h2:ef b=true) (h3:b.length=a.length):gQ f a b=some (List.zipWith f (ints a) (ints b)):=by
 unfold gQ;rw [V2 (by simp [h1,h2,h3])]
theorem qR {a c:List UInt8} (h:(mulL a c).2=0):ef a=true∧ef c=true∧c.length=a.length∧ef (mulL a c).1=true∧ints (mulL a c).1=List.zipWith (· + ·) (ints a) (ints c):=by
 unfold mulL at h ⊢;split
 ·rename_i l hl;rw [hl] at h;simp only at h ⊢;obtain ⟨h1,h2,h3,h4⟩:=xi hl;by_cases hc:l.all cE=true
  ·rw [(nF hc).1];exact ⟨h1,h2,h3,KK hc,by rw [Ks hc,h4]⟩
  ·simp [LC,hc] at h
 ·rename_i hl;rw [hl] at h;simp at h
theorem Ct {a c:List UInt8} (h:(mulL a c).2=0):(mulL a c).1.length=a.length:=by
 obtain ⟨_,_,h3,_,h5⟩:=qR h;have:=W8 List.length h5;rw [df,List.length_zipWith,df,df] at this;omega
structure TR where
 m:ByteArray
 c:NR
def TR.cells (t:TR):List Value:=[.string t.m,.bool t.c.neg,.string t.c.bf,.int .i64 t.c.e]
theorem TR.len (t:TR):t.cells.length=4:=rfl
theorem TR.one (t:TR):t.cells.all Value.oneCell'=true:=rfl
def iO (a b:ByteArray):Bool:=Op.bytesLess a.data.toList b.data.toList
theorem qC:∀a:List UInt8,Op.bytesLess a a=false
 |[]=>rfl
 |c::a=>by simp [Op.bytesLess,qC a]
theorem rX:∀a b c:List UInt8,Op.bytesLess a b=true→Op.bytesLess b c=true→Op.bytesLess a c=true
 |_,[],[],_,h=>by simp [Op.bytesLess] at h
 |_,_::_,[],_,h=>by simp [Op.bytesLess] at h
 |[],[],_::_,h,_=>by simp [Op.bytesLess] at h
 |_::_,[],_::_,h,_=>by simp [Op.bytesLess] at h
 |[],_::_,_::_,_,_=>rfl
 |x::a,y::b,z::c,h1,h2=>by
  simp only [Op.bytesLess,Yd,Wl,Wt,XK] at h1 h2 ⊢
  rcases h1 with h1|⟨rfl,h1⟩
  ·rcases h2 with h2|⟨rfl,h2⟩
   ·exact .inl (UInt8.lt_trans h1 h2)
   ·exact .inl h1
  ·rcases h2 with h2|⟨rfl,h2⟩
   ·exact .inl h2
   ·exact .inr ⟨rfl,rX a b c h1 h2⟩
theorem xC:∀a b:List UInt8,Op.bytesLess a b=false→Op.bytesLess b a=false→a=b
 |[],[],_,_=>rfl
 |[],_::_,h,_=>by simp [Op.bytesLess] at h
 |_::_,[],_,h=>by simp [Op.bytesLess] at h
 |x::a,y::b,h1,h2=>by
  simp only [Op.bytesLess,Bool.or_eq_false_iff,Zq,Zh,beq_eq_false_iff_ne] at h1 h2;have e:x=y:=by
   have a1:=h1.1;have a2:=h2.1;rw [UInt8.lt_iff_toNat_lt] at a1 a2;exact YP.1 VX
  subst e;rw [xC a b (h1.2.resolve_left (fun h=>h rfl)) (h2.2.resolve_left (fun h=>h rfl))]
theorem jt (a:ByteArray):iO a a=false:=qC _
theorem kd {a b c:ByteArray} (h1:iO a b=true) (h2:iO b c=true):iO a c=true:=rX _ _ _ h1 h2
theorem nN {a b:ByteArray} (h1:iO a b=false) (h2:iO b a=false):a=b:=u3 (xC _ _ h1 h2)
theorem Ia {a b:ByteArray} (h:iO a b=true):a≠b:=fun e=>by rw [e,jt] at h;cases h
theorem H0 {a b:ByteArray} (h:iO a b=true):iO b a=false:=by
 cases h2:iO b a with
 |false=>rfl
 |true=>have:=kd h h2;rw [jt] at this;cases this
def vz (l:List TR):Prop:=l.Pairwise fun a b=>iO a.m b.m=true
def wS (f:ByteArray→Dyadic):List TR→Dyadic
 |[]=>0
 |t::l=>t.c.d*f t.m+wS f l
theorem ri (f:ByteArray→Dyadic) (l k:List TR):wS f (l++k)=wS f l+wS f k:=by
 induction l with
 |nil=>exact (X9 _).symm
 |cons t l ih=>rw [Wb,wS,wS,ih,Dyadic.add_assoc]
theorem Ns (f:ByteArray→Dyadic) (l:List TR) (t:TR):wS f (l++[t])=wS f l+t.c.d*f t.m:=by
 rw [ri,wS,wS,X8]
def iY (l:List TR) (m:ByteArray):Dyadic:=wS (fun k=>if k=m then 1 else 0) l
theorem eL (t:TR) (l:List TR) (m:ByteArray):iY (t::l) m=(if t.m=m then t.c.d else 0)+iY l m:=by
 show t.c.d*(if t.m=m then 1 else 0)+iY l m=_;split
 ·rw [Dyadic.mul_one]
 ·rw [Dyadic.mul_zero]
theorem ue (m:ByteArray):iY [] m=0:=rfl
theorem fC (l k:List TR) (m:ByteArray):iY (l++k) m=iY l m+iY k m:=ri _ _ _
theorem xL {l:List TR}{m:ByteArray} (h:∀t∈l,t.m≠m):iY l m=0:=by
 induction l with
 |nil=>rfl
 |cons t l ih=>rw [eL,V3 (h t We),ih fun s hs=>h s (Wg _ hs),X9]
structure Canon (l:List TR):Prop where
 sO:vz l
 nz:∀t∈l,t.c.d≠0
 nf:∀t∈l,t.c=nR t.c.d
theorem vi {t:TR}{l:List TR} (h:Canon (t::l)):Canon l:=⟨(Xu.1 h.sO).2,fun s hs=>h.nz s (Wg _ hs),fun s hs=>h.nf s (Wg _ hs)⟩
theorem wk {t:TR}{l:List TR}{m:ByteArray} (h:vz (t::l)) (hm:m=t.m∨iO m t.m=true):∀s∈l,s.m≠m:=fun s hs e=>by
 have h1:=(Xu.1 h).1 s hs
 rcases hm with rfl|hm
 ·rw [e,jt] at h1;cases h1
 ·have:=kd hm h1;rw [e,jt] at this;cases this
theorem ki {t:TR}{l:List TR} (h:vz (t::l)):iY (t::l) t.m=t.c.d:=by
 rw [eL,V2 rfl,xL (wk h (.inl rfl)),X8]
theorem xj {t:TR}{l:List TR}{m:ByteArray} (h:vz (t::l)) (hm:iO m t.m=true):iY (t::l) m=0:=by
 rw [eL,V3 (fun e=>Ia hm e.symm),xL (wk h (.inr hm)),X9]
theorem uB:∀{l k:List TR},Canon l→Canon k→(∀m,iY l m=iY k m)→l=k
 |[],[],_,_,_=>rfl
 |[],t::k,_,hk,h=>by
  have:=h t.m;rw [ki hk.sO,ue] at this;exact absurd this.symm (hk.nz t We)
 |t::l,[],hl,_,h=>by
  have:=h t.m;rw [ki hl.sO,ue] at this;exact absurd this (hl.nz t We)
 |t::l,s::k,hl,hk,h=>by
  have h1:iO t.m s.m=false:=by
   cases hb:iO t.m s.m with
   |false=>rfl
   |true=>
    have:=h t.m;rw [ki hl.sO,xj hk.sO hb] at this;exact absurd this (hl.nz t We)
  have h2:iO s.m t.m=false:=by
   cases hb:iO s.m t.m with
   |false=>rfl
   |true=>
    have:=h s.m;rw [ki hk.sO,xj hl.sO hb] at this;exact absurd this.symm (hk.nz s We)
  have em:=nN h1 h2;have ed:t.c.d=s.c.d:=by
   have:=h t.m;rw [ki hl.sO,em,ki hk.sO] at this;exact this
  have et:t=s:=by
   have a:=hl.nf t We;have b:=hk.nf s We;obtain ⟨m1,c1⟩:=t;obtain ⟨m2,c2⟩:=s;simp only at em ed a b;rw [em,a,b,ed]
  subst et;rw [uB (vi hl) (vi hk) fun m=>by
   have:=h m;rw [eL,eL] at this;grind]
def iw:List TR→TR→List TR
 |[],x=>[⟨x.m,nR x.c.d⟩]
 |t::l,x=>if iO t.m x.m=true then t::iw l x else if iO x.m t.m=true then ⟨x.m,nR x.c.d⟩::t::l else ⟨x.m,nR (t.c.d+x.c.d)⟩::l
theorem Fe (f:ByteArray→Dyadic):∀(l:List TR) (x:TR),wS f (iw l x)=wS f l+x.c.d*f x.m
 |[],x=>by
  show (nR x.c.d).d*f x.m+0=0+_;rw [cm,X8,X9]
 |t::l,x=>by
  unfold iw;split
  ·rw [wS,Fe f l x,wS,Dyadic.add_assoc]
  ·split
   ·rw [wS,wS,cm,Dyadic.add_comm]
   ·rename_i h1 h2;have e:t.m=x.m:=nN (by simpa using h1) (by simpa using h2);rw [wS,wS,cm,e];grind
theorem tw:∀{l:List TR}{x t:TR},t∈iw l x→t∈l∨t.m=x.m
 |[],x,t,h=>.inr (by rw [Wj.1 h])
 |s::l,x,t,h=>by
  unfold iw at h;split at h
  ·rcases Wk.1 h with rfl|h
   ·exact .inl We
   ·rcases tw h with h|h
    ·exact .inl (Wg _ h)
    ·exact .inr h
  ·split at h
   ·rcases Wk.1 h with rfl|h
    ·exact .inr rfl
    ·exact .inl h
   ·rcases Wk.1 h with rfl|h
    ·exact .inr rfl
    ·exact .inl (Wg _ h)
theorem zV:∀{l:List TR}{x:TR},vz l→vz (iw l x)
 |[],x,_=>Zo _ _
 |s::l,x,h=>by
  have h1:=Xu.1 h;unfold iw;split
  ·rename_i hs;refine Xu.2 ⟨fun t ht=> ?_,zV h1.2⟩
   rcases tw ht with ht|ht
   ·exact h1.1 t ht
   ·rw [ht];exact hs
  ·split
   ·rename_i hs;refine Xu.2 ⟨fun t ht=> ?_,h⟩
    rcases Wk.1 ht with rfl|ht
    ·exact hs
    ·exact kd hs (h1.1 t ht)
   ·rename_i a b;have e:s.m=x.m:=nN (by simpa using a) (by simpa using b);refine Xu.2 ⟨fun t ht=> ?_,h1.2⟩;show iO x.m t.m=true;rw [←e];exact h1.1 t ht
theorem FY:∀{l:List TR}{x:TR},(∀t∈l,t.c=nR t.c.d)→∀t∈iw l x,t.c=nR t.c.d
 |[],x,_,t,ht=>by rw [Wj.1 ht];show nR _=nR (nR _).d;rw [cm]
 |s::l,x,h,t,ht=>by
  unfold iw at ht;split at ht
  ·rcases Wk.1 ht with rfl|ht
   ·exact h t We
   ·exact FY (fun t ht=>h t (Wg _ ht)) t ht
  ·split at ht
   ·rcases Wk.1 ht with rfl|ht
    ·show nR _=nR (nR _).d;rw [cm]
    ·exact h t ht
   ·rcases Wk.1 ht with rfl|ht
    ·show nR _=nR (nR _).d;rw [cm]
    ·exact h t (Wg _ ht)
theorem Bn:∀(l:List TR) (x:TR),(iw l x).length≤l.length+1
 |[],x=>V8 _
 |s::l,x=>by
  have:=Bn l x;unfold iw;split
  ·rw [Wx,Wx];omega
  ·split<;>simp
theorem F4 {k:Nat}:∀{l:List TR}{x:TR},(∀t∈l,Sz k t.c.d)→Sz k x.c.d→∀t∈iw l x,Sz (k+1) t.c.d
 |[],x,_,hx,t,ht=>by rw [Wj.1 ht];show Sz _ (nR _).d;rw [cm];exact hx.mono VX
 |s::l,x,h,hx,t,ht=>by
  unfold iw at ht;split at ht
  ·rcases Wk.1 ht with rfl|ht
   ·exact (h t We).mono VX
   ·exact F4 (fun t ht=>h t (Wg _ ht)) hx t ht
  ·split at ht
   ·rcases Wk.1 ht with rfl|ht
    ·show Sz _ (nR _).d;rw [cm];exact hx.mono VX
    ·exact (h t ht).mono VX
   ·rcases Wk.1 ht with rfl|ht
    ·show Sz _ (nR _).d;rw [cm];exact (h s We).add hx
    ·exact (h t (Wg _ ht)).mono VX
def iI (l:List TR):List TR:=l.foldl iw []
def nM (t:TR):Bool:= !decide (t.c.d=0)
def aH (l:List TR):List TR:=(iI l).filter nM
theorem ir (l:List TR) (x:TR):iI (l++[x])=iw (iI l) x:=by unfold iI;rw [Zc];rfl
theorem jS {P:List α→Prop} (h0:P []) (hs:∀l x,P l→P (l++[x])) (l:List α):P l:=by
 have:∀k:List α,P k.reverse:=fun k=>by
  induction k with
  |nil=>exact h0
  |cons x k ih=>rw [Y6];exact hs _ _ ih
 have h:=this l.reverse;rwa [YD] at h
theorem Lf (f:ByteArray→Dyadic) (l:List TR):wS f (iI l)=wS f l:=by
 induction l using jS with
 |h0=>rfl
 |hs l x ih=>rw [ir,Fe,ih,Ns]
theorem HA (l:List TR):vz (iI l):=by
 induction l using jS with
 |h0=>exact Zi
 |hs l x ih=>rw [ir];exact zV ih
theorem AA (l:List TR):∀t∈iI l,t.c=nR t.c.d:=by
 induction l using jS with
 |h0=>intro t ht;cases ht
 |hs l x ih=>rw [ir];exact FY ih
theorem xI (l:List TR):(iI l).length≤l.length:=by
 induction l using jS with
 |h0=>exact V8 _
 |hs l x ih=>rw [ir,Wc];have:=Bn (iI l) x;simp;omega
theorem zN (l:List TR) (h:∀t∈l,Sz k t.c.d):∀t∈iI l,Sz (k+l.length) t.c.d:=by
 induction l using jS with
 |h0=>intro t ht;cases ht
 |hs l x ih=>
  rw [ir,Wc];exact F4 (k:=k+l.length) (ih fun t ht=>h t (XX _ ht)) ((h x (by simp)).mono VX)
theorem GZ (l:List TR):∀t∈iI l,∃s∈l,s.m=t.m:=by
 induction l using jS with
 |h0=>intro t ht;cases ht
 |hs l x ih=>
  rw [ir];intro t ht
  rcases tw ht with ht|ht
  ·obtain ⟨s,hs,e⟩:=ih t ht;exact ⟨s,XX _ hs,e⟩
  ·exact ⟨x,by simp,ht.symm⟩
theorem wi (f:ByteArray→Dyadic) (l:List TR):wS f (l.filter nM)=wS f l:=by
 induction l with
 |nil=>rfl
 |cons t l ih=>
  rw [List.filter_cons];by_cases h:t.c.d=0
  ·rw [V3 (by unfold nM;rw [Wm h];decide),ih,wS,h,Dyadic.zero_mul,X9]
  ·rw [V2 (by unfold nM;rw [Wu h];rfl),wS,wS,ih]
theorem G9 (f:ByteArray→Dyadic) (l:List TR):wS f (aH l)=wS f l:=(wi f _).trans (Lf f l)
theorem kK (l:List TR) (m:ByteArray):iY (aH l) m=iY l m:=G9 _ _
theorem DV {t:TR} (h:nM t=true):t.c.d≠0:=fun e=>by
 unfold nM at h;rw [Wm e] at h
 cases h
theorem eh (l:List TR):Canon (aH l):=
 ⟨List.Pairwise.filter _ (HA l),fun t ht=>DV (Xy.1 ht).2,fun t ht=>AA l t (Xy.1 ht).1⟩
theorem cq (l:List TR):(aH l).length≤l.length:=Wz (Zj _ _) (xI l)
theorem nW {l:List TR} (h:∀t∈l,Sz k t.c.d):∀t∈aH l,Sz (k+l.length) t.c.d:=fun t ht=>zN l h t (Xy.1 ht).1
theorem jn {l:List TR}:∀t∈aH l,∃s∈l,s.m=t.m:=fun t ht=>GZ l t (Xy.1 ht).1
theorem xv {l k:List TR} (h:Canon k) (hc:∀m,iY k m=iY l m):k=aH l:=uB h (eh l) fun m=>by rw [hc,kK]
theorem zh {l k:List TR} (hc:∀m,iY k m=iY l m):aH k=aH l:=xv (eh k) fun m=>by rw [kK,hc]
variable {O Y l ys:List TR}
def jc (k:Nat) (l:List TR):Prop:=∀t∈l,t.c.ok∧Sz k t.c.d
theorem jc.mono (h:jc k l) (hk:k≤j):jc j l:=fun t ht=>⟨(h t ht).1,(h t ht).2.mono hk⟩
structure MD (k:Nat) (l L:List TR):Prop where
 sO:vz L
 co:∀m,iY L m=iY l m
 len:L.length≤l.length
 ok:jc k L
 mem:∀t∈L,∃s∈l,s.m=t.m
theorem MD.mono {L:List TR} (h:MD k l L) (hk:k≤j):MD j l L:=⟨h.sO,h.co,h.len,h.ok.mono hk,h.mem⟩
theorem MD.self (h:vz l) (hk:jc k l):MD k l l:=⟨h,fun _=>rfl,V8 _,hk,fun t ht=>⟨t,ht,rfl⟩⟩
structure Mg (k:Nat) (xs ys O X Y:List TR):Prop where
 ro:vz O
 rx:vz X
 ry:vz Y
 co:∀m,iY O m+(iY X m+iY Y m)=iY xs m+iY ys m
 bx:∀t∈O,∀s∈X,iO t.m s.m=true
 hy:∀t∈O,∀s∈Y,iO t.m s.m=true
 len:O.length+(X.length+Y.length)≤xs.length+ys.length
 oo:jc (k+1) O
 ox:jc k X
 oy:jc k Y
 mo:∀t∈O,∃s∈xs++ys,s.m=t.m
 mx:∀t∈X,t∈xs++ys
 my:∀t∈Y,t∈xs++ys
theorem Mg.start {xs:List TR} (hx:vz xs) (hy:vz ys) (ox:jc k xs) (oy:jc k ys):Mg k xs ys [] xs ys:=
 ⟨Zi,hx,hy,fun m=>X9 _,fun t ht=>(by cases ht),fun t ht=>(by cases ht),by simp,fun t ht=>(by cases ht),ox,oy,fun t ht=>(by cases ht),fun t ht=>XX _ ht,fun t ht=>XA _ ht⟩
theorem uQ {x:TR} (h:vz O) (hx:∀t∈O,iO t.m x.m=true):vz (O++[x]):=
 List.pairwise_append.2 ⟨h,Zo _ _,fun t ht s hs=>by rw [Wj.1 hs];exact hx t ht⟩
theorem ve (x:TR) (m:ByteArray):iY [x] m=if x.m=m then x.c.d else 0:=by rw [eL,ue,X8]
theorem fS {P:α→Prop}{O:List α}{x:α} (h:∀t∈O,P t) (hx:P x):∀t∈O++[x],P t:=fun t ht=>by
 rcases WI.1 ht with ht|ht
 ·exact h t ht
 ·rw [Wj.1 ht];exact hx
theorem Mg.left {xs X:List TR}{x y:TR} (h:Mg k xs ys O (x::X) (y::Y)) (hl:iO x.m y.m=true):Mg k xs ys (O++[x]) X (y::Y):=by
 obtain ⟨ro,rx,ry,co,bx,hby,len,oo,ox,oy,mo,mx,my⟩:=h;have r1:=Xu.1 rx;have r2:=Xu.1 ry;refine ⟨uQ ro fun t ht=>bx t ht x We,r1.2,ry,fun m=> ?_,fS (fun t ht s hs=>bx t ht s (Wg _ hs)) fun s hs=>r1.1 s hs,fS hby fun s hs=> ?_,by simp at len ⊢;omega,fS oo ⟨(ox x We).1,(ox x We).2.mono VX⟩,fun t ht=>ox t (Wg _ ht),oy,fS mo ⟨x,mx x We,rfl⟩,fun t ht=>mx t (Wg _ ht),my⟩
 ·have:=co m;rw [eL x X] at this;rw [fC,ve];grind
 ·rcases Wk.1 hs with rfl|hs
  ·exact hl
  ·exact kd hl (r2.1 s hs)
theorem Mg.right {xs X:List TR}{x y:TR} (h:Mg k xs ys O (x::X) (y::Y)) (hl:iO y.m x.m=true):Mg k xs ys (O++[y]) (x::X) Y:=by
 obtain ⟨ro,rx,ry,co,bx,hby,len,oo,ox,oy,mo,mx,my⟩:=h;have r1:=Xu.1 rx;have r2:=Xu.1 ry;refine ⟨uQ ro fun t ht=>hby t ht y We,rx,r2.2,fun m=> ?_,fS bx fun s hs=> ?_,fS (fun t ht s hs=>hby t ht s (Wg _ hs)) fun s hs=>r2.1 s hs,by simp at len ⊢;omega,fS oo ⟨(oy y We).1,(oy y We).2.mono VX⟩,ox,fun t ht=>oy t (Wg _ ht),fS mo ⟨y,my y We,rfl⟩,mx,fun t ht=>my t (Wg _ ht)⟩
 ·have:=co m;rw [eL y Y] at this;rw [fC,ve];grind
 ·rcases Wk.1 hs with rfl|hs
  ·exact hl
  ·exact kd hl (r1.1 s hs)
theorem Mg.both {xs X:List TR}{x y:TR} (h:Mg k xs ys O (x::X) (y::Y)) (h1:iO x.m y.m=false) (h2:iO y.m x.m=false) (hk:k≤3999980):Mg k xs ys (O++[⟨x.m,nR (x.c.d+y.c.d)⟩]) X Y:=by
 obtain ⟨ro,rx,ry,co,bx,hby,len,oo,ox,oy,mo,mx,my⟩:=h;have r1:=Xu.1 rx;have r2:=Xu.1 ry;have e:=nN h1 h2;have hz:=(ox x We).2.add (oy y We).2;refine ⟨uQ ro fun t ht=>bx t ht x We,r1.2,r2.2,fun m=> ?_,fS (fun t ht s hs=>bx t ht s (Wg _ hs)) fun s hs=>r1.1 s hs,fS (fun t ht s hs=>hby t ht s (Wg _ hs)) fun s hs=> ?_,by simp at len ⊢;omega,fS oo ⟨hz.ok VX, ?_⟩,fun t ht=>ox t (Wg _ ht),fun t ht=>oy t (Wg _ ht),fS mo ⟨x,mx x We,rfl⟩,fun t ht=>mx t (Wg _ ht),fun t ht=>my t (Wg _ ht)⟩
 ·have:=co m;rw [eL y Y,eL x X,←e] at this;rw [fC,ve];show iY O m+(if x.m=m then (nR (x.c.d+y.c.d)).d else 0)+(iY X m+iY Y m)=_;rw [cm];grind
 ·show iO x.m s.m=true;rw [e];exact r2.1 s hs
 ·show Sz _ (nR _).d;rw [cm];exact hz
theorem Mg.done {xs X:List TR} (h:Mg k xs ys O X Y) (hd:X=[]∨Y=[]):MD (k+1) (xs++ys) (O++X++Y):=by
 obtain ⟨ro,rx,ry,co,bx,hby,len,oo,ox,oy,mo,mx,my⟩:=h;refine ⟨?_,fun m=> ?_,by simp at len ⊢;omega,fun t ht=> ?_,fun t ht=> ?_⟩
 ·rw [WQ];refine List.pairwise_append.2 ⟨ro, ?_,fun t ht s hs=> ?_⟩
  ·rcases hd with rfl|rfl
   ·exact ry
   ·rw [WG];exact rx
  ·rcases WI.1 hs with hs|hs
   ·exact bx t ht s hs
   ·exact hby t ht s hs
 ·rw [fC,fC,fC,Dyadic.add_assoc];exact co m
 ·rcases WI.1 ht with ht|ht
  ·rcases WI.1 ht with ht|ht
   ·exact oo t ht
   ·exact ⟨(ox t ht).1,(ox t ht).2.mono VX⟩
  ·exact ⟨(oy t ht).1,(oy t ht).2.mono VX⟩
 ·rcases WI.1 ht with ht|ht
  ·rcases WI.1 ht with ht|ht
   ·exact mo t ht
   ·exact ⟨t,mx t ht,rfl⟩
  ·exact ⟨t,my t ht,rfl⟩
theorem MD.aH {k:Nat}{l L:List TR} (h:MD k l L):((L.filter nM).map fun t=>(⟨t.m,nR t.c.d⟩:TR))=aH l:=by
 refine xv ⟨?_,fun t ht=> ?_,fun t ht=> ?_⟩ fun m=> ?_
 ·exact List.Pairwise.map _ (fun a b hab=>hab) (List.Pairwise.filter _ h.sO)
 ·obtain ⟨s,hs,rfl⟩:=Wn.1 ht;show (nR s.c.d).d≠0;rw [cm];exact DV (Xy.1 hs).2
 ·obtain ⟨s,hs,rfl⟩:=Wn.1 ht;show nR s.c.d=nR (nR s.c.d).d;rw [cm]
 ·have e:∀(f:ByteArray→Dyadic) (k:List TR),wS f (k.map fun t=>(⟨t.m,nR t.c.d⟩:TR))=wS f k:=fun f k=>by
   induction k with
   |nil=>rfl
   |cons t k ih=>rw [Wv,wS,wS,ih];show (nR t.c.d).d*f t.m+_=_;rw [cm]
  show wS _ _=_;rw [e,wi];exact h.co m
theorem xw (h:l.length<2):vz l:=by
 match l,h with
 |[],_=>exact Zi
 |[x],_=>exact Zo _ _
variable {K:Value→World→Prop}{ag:Bool}{by':Nat}{cp:Operand}{kc kl:IntKind}{ops:Array Oper}{pos:String}{zc:List Value}
section
variable {ro:Mode}
section
variable {P:Program}{N:Nat}{ops:Array Oper}{Q:Kq}{ρ:Rf}{w w0:World}{rest:List Oper}{H:List HE}{d:Nat}{ty:TypeId}{pos:String}{af:Array Edge}
theorem LQ (hh:Hp w0 H w) {t e:TypeId}{l:Operand}{L C:Int}{sz:Nat} (hl:ev ρ l=.int kl L) (hc:ev ρ cp=.int kc C) (hL:L=0) (hC:C=(n:Int))
  (ht:P.underlying t=some (.slice e)) (hte:di P e=some (sz,ag,by',zc)) (hb:by'*n≤281474976710656) (h63:n≤9223372036854775807) (hN:d<N)
  (k:∀b w',Hp w0 (.row (some ⟨b,0,none⟩) 0 n e sz []::H) w'→WL ro P N ops Q rest (cL ρ d (.slice (some ⟨b,0,none⟩) 0 n)) w'):
  WL ro P N ops Q (⟨some d,.makeSlice t l cp,ty,pos,af,none⟩::rest) ρ w:=by
 obtain ⟨i,z,dd,hi,hd,hz,hs,hby,hzc,_⟩:=dV hte;subst hL;subst hC;subst hs;have hr:=run_make (P:=P) w t e i z ht hi hz kl kc 0 n (Int.le_refl _) VX (by rw [hby,←Xn];omega) VX;simp only [Xs,Int.toNat_zero] at hr;refine aV rfl rfl hN (w':=w.alloc (.cells (madeCells z.cells (n*i.size)) e)) (v:=.slice (some ⟨w.heap.size,0,none⟩) 0 n) ?_ (k _ _ (hh.aY (show Below w.heap.size w (w.alloc (.cells (madeCells z.cells (n*i.size)) e)) from ⟨rfl,rfl,rfl,(World.grownBy_alloc w _ none).size,fun j hj=>(World.grownBy_alloc w _ none).block j hj (by simp)⟩) ?_))
 ·simp [execOp,hl,hc,hr]
 ·exact ⟨by simp,.inr ⟨w.heap.size,n,madeCells z.cells (n*i.size),rfl,V8 _,heap_alloc_new w _,V5 _,by unfold maxLen;omega,size_madeCells _ _,by simp⟩⟩
end
def gY (n sz:Nat) (cs:List Value):VP:=fun v W=>∃g:Nat,v=.slice (some ⟨g,0,none⟩) n n∧Sl W (some ⟨g,0,none⟩) n sz cs
theorem gY.ext {sz:Nat} (v:Value) (w w':World) (h:gY n sz cs v w) (hb:Below w.heap.size w w'):gY n sz cs v w':=let ⟨g,h1,h2⟩:=h;⟨g,h1,h2.ext hb⟩
section
variable {P:Program}{ρ:Rf}{w:World}
theorem Ga {d:Option Nat}{ty:TypeId}{af:Array Edge}{t e:TypeId}{l:Operand}{L C:Int}{sz:Nat} (hl:ev ρ l=.int kl L) (hc:ev ρ cp=.int kc C) (hL:L=(n:Int)) (hC:C=(n:Int))
  (ht:P.underlying t=some (.slice e)) (hte:di P e=some (sz,ag,by',zc)) (hzl:zc.length=sz) (hb:by'*n≤281474976710656) (h63:n≤9223372036854775807)
  (hk:∀v w2,gY n sz (fa n zc) v w2→Below w.heap.size w w2→K v w2):OG P ops ⟨d,.makeSlice t l cp,ty,pos,af,none⟩ ρ w K:=by
 obtain ⟨i,z,dd,hi,hd,hz,hs,hby,hzc,_⟩:=dV hte;subst hL;subst hC;obtain ⟨w',hr,hown,hg⟩:=run_make_full (P:=P) w w.heap.size t e i z sz ht hi hz hs kl kc n (by rw [hby];exact hb) (by unfold maxLen;omega) (V8 _);have hzz:(madeCells z.cells (n*sz)).toList=fa n zc:=by
  exact QI
 rw [hzz] at hown;exact eI rfl (w':=w') (v:=.slice (some ⟨w.heap.size,0,none⟩) n n) (by simp [execOp,hl,hc,hr]) (hk _ _ ⟨w.heap.size,rfl,kO hown⟩ ⟨hg.os,hg.tape,hg.output,hg.size,fun j hj=>hg.block j hj (by simp)⟩)
theorem mv (n:Nat):fa n [.int .u8 0]=lX (List.replicate n 0):=by
 induction n with
 |zero=>rfl
 |succ n ih=>rw [fa,ih,Yi];rfl
end
end
theorem Gn (a:ByteArray):a.toList=a.data.toList:=by
 have key:∀s:ByteArray,s.toList=s.data.toList:=fun s=>by
  exact Tc
 exact key a
theorem jQ (a b:ByteArray):Op.bytesLess a.toList b.toList=iO a b:=by rw [Gn,Gn];rfl
theorem LI (a b:ByteArray):(!(Op.bytesLess a.toList b.toList||a.toList==b.toList))=iO b a:=by
 rw [jQ,JP]
 cases h1:iO a b with
 |true=>rw [H0 h1];rfl
 |false=>
  cases h2:iO b a with
  |true=>rw [Wu (fun e=>Ia h2 e.symm)];rfl
  |false=>rw [Wm (nN h1 h2)];rfl
def IF (x y:TR):Int:=if iO x.m y.m=true then -1 else if iO y.m x.m=true then 1 else 0
theorem C0 (x y:TR) (w:World):Calls Tryz.prog 76 #[.agg #[.string x.m,.bool x.c.neg,.string x.c.bf,.int .i64 x.c.e],.agg #[.string y.m,.bool y.c.neg,.string y.c.bf,.int .i64 y.c.e]] w fun r w'=>r=.returned (.int .i64 (IF x y))∧Below w.heap.size w w':=by
 have hh:=Hp.start w;refine aj (N:=17) (l:=[.agg #[.string x.m,.bool x.c.neg,.string x.c.bf,.int .i64 x.c.e],.agg #[.string y.m,.bool y.c.neg,.string y.c.bf,.int .i64 y.c.e]]) Tryz.func76 rfl rfl (by simp) ?_;refine sr ?_;refine cf hh [_,_,_,_] ?_;intro b2 w2 hh;refine cf hh [_,_,_,_] ?_;intro b3 w3 hh;refine vm ?_;refine bB hh 1 ?_;refine bE ?_;refine bB hh 0 ?_;refine qY rfl rfl VY ?_;refine aB (aa ?_);rw [jQ];unfold IF
 cases h1:iO x.m y.m with
 |true=>
  refine cT (sr (aI (aa (au (bI (aE ?_))))));refine cS ?_;exact ⟨rfl,hh.below⟩
 |false=>
  refine cF (sr (bE ?_));refine bB hh 1 ?_;refine bE ?_;refine bB hh 0 ?_;refine He rfl rfl VY ?_;refine aB (aa ?_);rw [LI]
  cases h2:iO y.m x.m with
  |true=>
   refine cT (sr (aI (aa (au (bI (aE ?_))))));refine cS ?_;exact ⟨rfl,hh.below⟩
  |false=>
   refine cF (ao (bF (ai (sr (aI (aa (au ?_)))))));refine cS ?_;exact ⟨rfl,hh.below⟩
theorem G4 (x y:TR) (k:Nat) (w:World) (hT:eK w) (hx:x.c.ok∧Sz k x.c.d) (hy:y.c.ok∧Sz k y.c.d) (hk:k≤3999980):Calls Tryz.prog 77 #[.agg #[.string x.m,.bool x.c.neg,.string x.c.bf,.int .i64 x.c.e],.agg #[.string y.m,.bool y.c.neg,.string y.c.bf,.int .i64 y.c.e]] w fun r w'=>r=.returned (.agg #[.string x.m,.bool (nR (x.c.d+y.c.d)).neg,.string (nR (x.c.d+y.c.d)).bf,.int .i64 (nR (x.c.d+y.c.d)).e])∧Below w.heap.size w w':=by
 have hh:=Hp.start w;have hsum:=fun A cc w1 hT1 hS1=>jl A 2 cc [x.c,y.c] w1 hT1 hS1 (by simpa using ⟨hx.1,hy.1⟩) k (by simpa using ⟨hx.2,hy.2⟩) VX;rw [show m6 ([x.c,y.c].map NR.d)=x.c.d+y.c.d by simp only [Wv,WV,lL]] at hsum;refine aj (N:=14) (l:=[.agg #[.string x.m,.bool x.c.neg,.string x.c.bf,.int .i64 x.c.e],.agg #[.string y.m,.bool y.c.neg,.string y.c.bf,.int .i64 y.c.e]]) Tryz.func77 rfl rfl (by simp) ?_;refine sr ?_;refine cf hh [_,_,_,_] ?_;intro b2 w2 hh;refine cf hh [_,_,_,_] ?_;intro b3 w3 hh;refine bQ hh ?_;intro b4 w4 hh;refine aa (ah ?_);refine aT 8 [[(2,none)],[(5,some 0)],[(2,none)],[(7,some 2)],[(3,none)],[(9,some 4)],[(8,some 3),(10,some 5)],[(11,some 6)]] [(7,12),(6,11),(5,10),(4,9),(3,8),(2,7),(1,6),(0,5)] hh mixed VZ ?_;refine cP ?_;refine dL 2 ?_;refine cP ?_;refine ee 2 [_,_,_] ?_;refine cP ?_;refine ee 1 [_,_,_] ?_;refine oB [_,_,_,_,_,_] ?_;refine aN (i:=7) (Is (.agg #[.bool (nR (x.c.d+y.c.d)).neg,.string (nR (x.c.d+y.c.d)).bf,.int .i64 (nR (x.c.d+y.c.d)).e])) Is.ext ?_ ?_
 ·intro ρ1 w1 hj hR;obtain ⟨A11,c11,h11,s11⟩:=hR.1;exact bh rfl (aP ar.out (av h11 a6)) (hsum A11 c11 _ (hT.hp hj.hp) s11) (fun _ _ hq=>⟨_,hq.1,hq.2,rfl⟩)
 refine aJ ?_;intro f W hJ hV;have hb_1:=hJ.bl;obtain ⟨v12,v11,v10,v9,v8,v7,v6,v5,_⟩:=hV;obtain ⟨A11,c11,e11,f11⟩:Rows _ _ _ (f 6) W:=v11;replace hh:=hJ.hp;refine aR (a8 (ae v12 (ae e11 (ae v10 (ae v9 (ae v8 (ae v7 (ae v6 (ae v5 aQ))))))))) ?_;dsimp only [bH];clear e11 hJ;refine eV [_,_,_,_] ?_;refine bR hh 0 [_,_,_,_] ?_;intro ws hh;replace hh:Hp _ (.blk _ _ [_,_,_,_] _::_) _:=hh;refine aa (au ?_);refine Nm (ej rfl (ek (vs:=[_,_,_,_]) aO.out (hh.bZ (i:=0) (n:=4) rfl rfl) rfl) fF) ?_;exact ⟨rfl,hh.below⟩
variable {N:Nat}{w:World}{ρ:Rf}
theorem dm {Q:Kq}{L:Array Bool}{i d:Nat}{op:Op}{ty:TypeId}{af:Array Edge}{v:Value} (hq:NP Q) (hi:ops[i]?=some ⟨some d,op,ty,pos,af,none⟩) (hs:Region.noSelect ops=true) (hf:Region.free .any ops L i=true) (hr:(Region.ready .any ops L).contains i=true)
  (hv:∀w,(execOp (ev ρ) ⟨some d,op,ty,pos,af,none⟩).run P w=.ok (.value v) w) (hN:d<N) (h:WA P N ops Q fuel (L.setIfInBounds i true) (cL ρ d v) w):WA P N ops Q (fuel+1) L ρ w:=
 ⟨fun a hfit=>wpAny_first hi (Region.noSelect_spec hs) (fun c a w ⟨ρ',_,hq'⟩=>(hq c ρ' w hq').elim) fuel L a w (Region.free_spec hi hf) (by simpa using hr) (.inl ⟨by simp [Region.wanted],fun w=>by rw [hfit.eval];exact hv w⟩) (h.out _ (hfit.put hN v))⟩
theorem Sl.tail {A:Option Addr}{x:TR}{X:List TR} (h:Sl w A n 4 (az TR.cells (x::X))) (h0:0<n) (hc:n≤c):Sl w (if c=1 then A else A.map (·.add (1*4))) (n-1) 4 (az TR.cells X):=by
 have:=h.back (l:=1) VX hc;rw [show (az TR.cells (x::X)).drop (1*4)=az TR.cells X from gH TR.len (x::X) 1] at this;exact this
theorem pP (A:Option Addr) (n c:Nat) (xs:List TR) (B:Option Addr) (m c2:Nat) (ys:List TR) (k:Nat) (w:World) (hT:eK w) (hS:Sl w A n 4 (az TR.cells xs)) (hS2:Sl w B m 4 (az TR.cells ys)) (hc:n≤c) (hc2:m≤c2) (hn:n≤1000000) (hm:m≤1000000) (hk:k≤3999980)
  (rx:vz xs) (ry:vz ys) (ox:jc k xs) (oy:jc k ys):
  Calls Tryz.prog 75 #[.slice A n c,.slice B m c2,.func (.func 76) #[] #[],.func (.func 77) #[] #[]] w fun r w'=>∃(L:List TR) (A':Option Addr) (c':Nat),MD (k+1) (xs++ys) L∧r=.returned (.slice A' L.length c')∧Hp w [.row A' L.length c' 96 4 (az TR.cells L)] w':=by
 have hh:=Hp.start w;have hlx:=hS.bg TR.len VY;have hly:=hS2.bg TR.len VY;have hnx:xs.length≤1000000:=VX;have hny:ys.length≤1000000:=VX;refine aj (N:=75) (l:=[.slice A n c,.slice B m c2,.func (.func 76) #[] #[],.func (.func 77) #[] #[]]) Tryz.func75 rfl rfl (by simp) ?_;refine sr (aL (aa (sr (mL (aF (mL (aF ?_)))))));refine a9 ?_;refine LQ (n:=(n+m)) hh rfl rfl VX VX bj.out aO.out VX VX VY ?_;intro b16 w16 hh;refine aL (aa (ah (aq ?_)));refine Cm [0,1,9,10,17,18,19,20,21,22,23,24,25,26,27,28,29,30,31,32,33,34,35,36,37,38,39,40,41,42,43,44,45,46,47,48,49,50,51,52,53,54,55,56,57,58,59,60,61,62,63,64,65,66,67,68,69] 0 1 9
  (fun va vb vo w'=>∃(A:Option Addr) (n c:Nat) (X:List TR) (B:Option Addr) (m c2:Nat) (Y:List TR) (O:List TR) (C:Option Addr) (co:Nat),va=.slice A n c∧vb=.slice B m c2∧vo=.slice C O.length co∧n≤c∧m≤c2∧Sl w A n 4 (az TR.cells X)∧Sl w B m 4 (az TR.cells Y)∧Mg k xs ys O X Y∧Hp w [.row C O.length co 96 4 (az TR.cells O)] w')
  (fun va vb _ _=>lenOf va+lenOf vb) ?_ ?_
 ·exact ⟨A,n,c,xs,B,m,c2,ys,[],some ⟨b16,0,none⟩,n+m,rfl,rfl,rfl,hc,hc2,hS,hS2,Mg.start rx ry ox oy,hh⟩
 ·clear hh hS hS2 hlx hly hc hc2 hn hm;rintro ρ' va vb vo w' ⟨A,n,c,X,B,m,c2,Y,O,C,co,rfl,rfl,rfl,hc,hc2,hS,hS2,hmg,hh⟩;have hX:=hS.bg TR.len VY;have hY:=hS2.bg TR.len VY;have hlen:=hmg.len;have oX:=bu TR.one X;have oY:=bu TR.one Y;by_cases hn:n=0
  ·refine ah (sr (mL (aF ?_)));refine bM (mB ?_);refine gS (gS (gS ?_));refine dE ?_;refine aa (cF (aU (aD (aD (bk (ai (sr (mL (mL ?_)))))))));refine bK hh (i:=0) rfl rfl rfl (hS.ext hh.below) bj.out aO.out rfl VY ?one5 VX VX VY ?kk5
   case one5=>first|rfl|assumption|exact a7 _|exact oneCells_u8s _
   intro A72 c72 w72 hh;simp only [Wd] at hh;refine mL ?_;refine bK hh (i:=0) rfl rfl rfl (hS2.ext hh.below) bj.out aO.out rfl VY ?one6 VX VX VY ?kk6
   case one6=>first|rfl|assumption|exact a7 _|exact oneCells_u8s _
   intro A74 c74 w74 hh;simp only [Wd] at hh;refine aL (aa (au ?_));refine cS ?_;have hd:=hmg.done (.inl (Xt VX));exact S4
  ·by_cases hm:m=0
   ·refine ah (sr (mL (aF ?_)));refine wU ?_;refine bM ?_;refine eM ?_;refine aa (cF (aU (aD (aD (bk (ai (sr (mL (mL ?_)))))))));refine bK hh (i:=0) rfl rfl rfl (hS.ext hh.below) bj.out aO.out rfl VY ?one7 VX VX VY ?kk7
    case one7=>first|rfl|assumption|exact a7 _|exact oneCells_u8s _
    intro A72 c72 w72 hh;simp only [Wd] at hh;refine mL ?_;refine bK hh (i:=0) rfl rfl rfl (hS2.ext hh.below) bj.out aO.out rfl VY ?one8 VX VX VY ?kk8
    case one8=>first|rfl|assumption|exact a7 _|exact oneCells_u8s _
    intro A74 c74 w74 hh;simp only [Wd] at hh;refine aL (aa (au ?_));refine cS ?_;have hd:=hmg.done (.inr (Xt VX));exact S4
   ·obtain ⟨x,X,rfl⟩:∃x X',X=x::X':=by cases X with
     |nil=>exact absurd hX.symm hn
     |cons x X'=>exact ⟨x,X',rfl⟩
    obtain ⟨y,Y,rfl⟩:∃y Y',Y=y::Y':=by cases Y with
     |nil=>exact absurd hY.symm hm
     |cons y Y'=>exact ⟨y,Y',rfl⟩
    obtain ⟨ad,rfl,hr⟩:=hS.at_ VX;obtain ⟨ad2,rfl,hr2⟩:=hS2.at_ VX;have hxx:(x::X)[0]?=some x:=rfl;have hyy:(y::Y)[0]?=some y:=rfl;have hSt:=hS.tail VX hc;have hSt2:=hS2.tail VX hc2;have hsd:=fun w1=>C0 x y w1;unfold IF at hsd
    cases h1:iO x.m y.m with
    |true=>
     rw [h1,V2 rfl] at hsd;refine ah (sr (mL (aF ?_)));refine wU ?_;refine bM ?_;refine eM ?_;refine aa (cT (ao (ai (aq (ah ?_)))));refine JK ?_;refine M8 ?_;refine dI ?_;refine iL (0) ?_;refine mJ [_,_,_,_] (fun _ hj=>(hr.ext hj.hp.below).recAt TR.len hxx) ?_;refine dI ?_;refine iL (0) ?_;refine mJ [_,_,_,_] (fun _ hj=>(hr2.ext hj.hp.below).recAt TR.len hyy) ?_;refine aJ ?_;intro f W hJ hV;have hb_3:=hJ.bl;obtain ⟨v31,v30,v29,v28,v27,v26,v25,_⟩:=hV;replace hh:=hJ.hp;refine Kx ?_;dsimp only [bH];clear hJ;refine gM (hsd _) ar.out rfl rfl VY ?_;rintro e_ w32 ⟨rfl,hb_⟩;refine ⟨_,rfl, ?_⟩;replace hh:=hh.ext hb_;refine aI (aa (aq (sr (mI ?_))));refine aW (aB (aa (cT ?_)));refine qz hh mixed fun w_ hj_=> ?_;replace hh:=hj_.hp;clear hj_;refine dm (i:=6) (by repeat (first|exact cj|refine bP ?_|refine cg ?_|refine np_scope ?_)) rfl VZ VZ VZ (fun _=>fh rfl) VY ?_;refine dm (i:=7) (by repeat (first|exact cj|refine bP ?_|refine cg ?_|refine np_scope ?_)) rfl VZ VZ VZ (fun _=>gl (l:=1) bj.out aO.size rfl rfl VX VX VX) VY ?_
     refine dm (i:=0) (by repeat (first|exact cj|refine bP ?_|refine cg ?_|refine np_scope ?_)) rfl VZ VZ VZ (fun _=>fh rfl) VY ?_;refine dm (i:=1) (by repeat (first|exact cj|refine bP ?_|refine cg ?_|refine np_scope ?_)) rfl VZ VZ VZ (fun _=>fh rfl) VY ?_;refine dm (i:=2) (by repeat (first|exact cj|refine bP ?_|refine cg ?_|refine np_scope ?_)) rfl VZ VZ VZ (fun _=>iE (k:=0) bj.out aO.size rfl rfl VX VX) VY ?_;refine gp (i:=3) VZ rfl ?_;refine K3 ?_;refine fk ?_;refine gp (i:=4) VZ rfl ?_;refine tf ?_;intro b55 w55 hh;refine fk ?_;refine gp (i:=5) VZ rfl ?_;refine mF ?_;intro A56 c56 w56 hh;simp only [Wd,WH] at hh;replace hh:=hh.sub (WE _ _);refine fk ?_;refine j3 8 VY VZ VY VZ VZ ?_;refine aL (aL (aA (bF (bF (ai ?_)))));replace hh:=hh.sub (V4 _ Wq);refine ⟨⟨_,n-1,c-1,X,some ad2,m,c2,y::Y,O++[x],A56,c56,rfl,rfl, ?_,VX,hc2,hSt,hS2,hmg.left h1, ?_⟩,by show (n-1)+m<n+m;omega, ?_⟩
     ·show Value.slice _ (O.length+1) _=Value.slice _ (O++[x]).length _;rw [Wc]
      rfl
     ·rw [Wc,bG];exact hh
     ·exact dy
    |false=>
     cases h2:iO y.m x.m with
     |true=>
      rw [h1,h2,V3 VY,V2 rfl] at hsd;refine ah (sr (mL (aF ?_)));refine wU ?_;refine bM ?_;refine eM ?_;refine aa (cT (ao (ai (aq (ah ?_)))));refine JK ?_;refine M8 ?_;refine dI ?_;refine iL (0) ?_;refine mJ [_,_,_,_] (fun _ hj=>(hr.ext hj.hp.below).recAt TR.len hxx) ?_;refine dI ?_;refine iL (0) ?_;refine mJ [_,_,_,_] (fun _ hj=>(hr2.ext hj.hp.below).recAt TR.len hyy) ?_;refine aJ ?_;intro f W hJ hV;have hb_3:=hJ.bl;obtain ⟨v31,v30,v29,v28,v27,v26,v25,_⟩:=hV;replace hh:=hJ.hp;refine Kx ?_;dsimp only [bH];clear hJ;refine gM (hsd _) ar.out rfl rfl VY ?_;rintro e_ w32 ⟨rfl,hb_⟩;refine ⟨_,rfl, ?_⟩;replace hh:=hh.ext hb_;refine aI (aa (aq (sr (mI ?_))));refine aW (aB (aa (cF (sr (mI ?_)))));refine bM (aB (aa (cT ?_)));refine qz hh mixed fun w_ hj_=> ?_;replace hh:=hj_.hp;clear hj_;refine dm (i:=6) (by repeat (first|exact cj|refine bP ?_|refine cg ?_|refine np_scope ?_)) rfl VZ VZ VZ (fun _=>fh rfl) VY ?_;refine dm (i:=7) (by repeat (first|exact cj|refine bP ?_|refine cg ?_|refine np_scope ?_)) rfl VZ VZ VZ (fun _=>gl (l:=1) bj.out aO.size rfl rfl VX VX VX) VY ?_
      refine dm (i:=0) (by repeat (first|exact cj|refine bP ?_|refine cg ?_|refine np_scope ?_)) rfl VZ VZ VZ (fun _=>fh rfl) VY ?_;refine dm (i:=1) (by repeat (first|exact cj|refine bP ?_|refine cg ?_|refine np_scope ?_)) rfl VZ VZ VZ (fun _=>fh rfl) VY ?_;refine dm (i:=2) (by repeat (first|exact cj|refine bP ?_|refine cg ?_|refine np_scope ?_)) rfl VZ VZ VZ (fun _=>iE (k:=0) bj.out aO.size rfl rfl VX VX) VY ?_;refine gp (i:=3) VZ rfl ?_;refine J6 ?_;refine fk ?_;refine gp (i:=4) VZ rfl ?_;refine tf ?_;intro b66 w66 hh;refine fk ?_;refine gp (i:=5) VZ rfl ?_;refine mF ?_;intro A67 c67 w67 hh;simp only [Wd,WH] at hh;replace hh:=hh.sub (WE _ _);refine fk ?_;refine j3 8 VY VZ VY VZ VZ ?_;refine aL (aL (aA (bF (bF (ai ?_)))));replace hh:=hh.sub (V4 _ Wq);refine ⟨⟨some ad,n,c,x::X,_,m-1,c2-1,Y,O++[y],A67,c67,rfl,rfl, ?_,hc,VX,hS,hSt2,hmg.right h2, ?_⟩,by show n+(m-1)<n+m;omega, ?_⟩
      ·show Value.slice _ (O.length+1) _=Value.slice _ (O++[y]).length _;rw [Wc]
       rfl
      ·rw [Wc,bG];exact hh
      ·exact dy
     |false=>
      rw [h1,h2,V3 VY,V3 VY] at hsd;have hsm:=fun w1 hT1=>G4 x y k w1 hT1 (hmg.ox x We) (hmg.oy y We) hk;refine ah (sr (mL (aF ?_)));refine wU ?_;refine bM ?_;refine eM ?_;refine aa (cT (ao (ai (aq (ah ?_)))));refine JK ?_;refine M8 ?_;refine dI ?_;refine iL (0) ?_;refine mJ [_,_,_,_] (fun _ hj=>(hr.ext hj.hp.below).recAt TR.len hxx) ?_;refine dI ?_;refine iL (0) ?_;refine mJ [_,_,_,_] (fun _ hj=>(hr2.ext hj.hp.below).recAt TR.len hyy) ?_;refine aJ ?_;intro f W hJ hV;have hb_3:=hJ.bl;obtain ⟨v31,v30,v29,v28,v27,v26,v25,_⟩:=hV;replace hh:=hJ.hp;refine Kx ?_;dsimp only [bH];clear hJ;refine gM (hsd _) ar.out rfl rfl VY ?_;rintro e_ w32 ⟨rfl,hb_⟩;refine ⟨_,rfl, ?_⟩;replace hh:=hh.ext hb_;refine aI (aa (aq (sr (mI ?_))));refine aW (aB (aa (cF (sr (mI ?_)))));refine bM (aB (aa (cF ?_)));refine qz hh mixed fun w_ hj_=> ?_;replace hh:=hj_.hp;clear hj_;refine dm (i:=11) (by repeat (first|exact cj|refine bP ?_|refine cg ?_|refine np_scope ?_)) rfl VZ VZ VZ (fun _=>fh rfl) VY ?_
      refine dm (i:=12) (by repeat (first|exact cj|refine bP ?_|refine cg ?_|refine np_scope ?_)) rfl VZ VZ VZ (fun _=>gl (l:=1) bj.out aO.size rfl rfl VX VX VX) VY ?_;refine dm (i:=13) (by repeat (first|exact cj|refine bP ?_|refine cg ?_|refine np_scope ?_)) rfl VZ VZ VZ (fun _=>fh rfl) VY ?_;refine dm (i:=14) (by repeat (first|exact cj|refine bP ?_|refine cg ?_|refine np_scope ?_)) rfl VZ VZ VZ (fun _=>gl (l:=1) bj.out aO.size rfl rfl VX VX VX) VY ?_;refine dm (i:=0) (by repeat (first|exact cj|refine bP ?_|refine cg ?_|refine np_scope ?_)) rfl VZ VZ VZ (fun _=>fh rfl) VY ?_;refine dm (i:=1) (by repeat (first|exact cj|refine bP ?_|refine cg ?_|refine np_scope ?_)) rfl VZ VZ VZ (fun _=>fh rfl) VY ?_;refine dm (i:=2) (by repeat (first|exact cj|refine bP ?_|refine cg ?_|refine np_scope ?_)) rfl VZ VZ VZ (fun _=>fh rfl) VY ?_;refine dm (i:=3) (by repeat (first|exact cj|refine bP ?_|refine cg ?_|refine np_scope ?_)) rfl VZ VZ VZ (fun _=>iE (k:=0) bj.out aO.size rfl rfl VX VX) VY ?_
      refine dm (i:=5) (by repeat (first|exact cj|refine bP ?_|refine cg ?_|refine np_scope ?_)) rfl VZ VZ VZ (fun _=>fh rfl) VY ?_;refine dm (i:=6) (by repeat (first|exact cj|refine bP ?_|refine cg ?_|refine np_scope ?_)) rfl VZ VZ VZ (fun _=>iE (k:=0) bj.out aO.size rfl rfl VX VX) VY ?_;refine uM (i:=4) (i2:=7) VZ rfl rfl ?_ ?_
      ·refine K3 ?_;refine fk ?_;refine gp (i:=7) VZ rfl ?_;refine J6 ?_;exact OE
      ·refine J6 ?_;refine fk ?_;refine gp (i:=4) VZ rfl ?_;refine K3 ?_;exact OE
variable {c':Nat}{fz:Nat×Nat}{t':TypeId}{w' w0 w1:World}{xs:List Value}
section
variable {ro:Mode}
theorem pq {b':Nat}{t:TypeId}{sz:Nat}{A:Option Addr} (h:w.ownsRow b t sz (.slice A n c) n xs) (hb:b'≤b):w.ownsRow b' t sz (.slice A n c) n xs:=
 ⟨h.1,h.2.imp id fun ⟨g,cap,cur,h1,h2,h3⟩=>⟨g,cap,cur,h1,Wz hb h2,h3⟩⟩
theorem nn {b':Nat}{x:HE} (h:x.holds b w) (hb:b'≤b):x.holds b' w:=by
 cases x with
 |blk b t cs fz=>exact ⟨Wz hb h.1,h.2⟩
 |row A n c t sz xs=>exact pq h hb
 |ob b o=>exact ⟨Wz hb h.1,h.2⟩
theorem Hp.perm {H H':List HE} (h:Hp w0 H w) (hp:H.Perm H'):Hp w0 H' w:=
 ⟨h.below,fun x hx=>h.own x (hp.mem_iff.2 hx),(hp.filterMap _).nodup_iff.1 h.nd⟩
theorem Hp.dR {H:List HE} (h:Hp w0 H w) {i sz:Nat}{A:Option Addr}{t:TypeId} (hi:H[i]?=some (.row A n c t sz xs)):n≤c:=by
 have h1:w.ownsRow w0.heap.size t sz (.slice A n c) n xs:=h.at_ hi
 rcases h1.2 with ⟨_,h3⟩|⟨g,cap,cur,h2,_,_,h5,_⟩
 ·omega
 ·injection h2 with _ _ e3
  omega
theorem Hp.join {H H2:List HE} (h:Hp w0 H w) (h2:Hp w H2 w'):Hp w0 (H2++H) w':=by
 have h':=h.ext h2.below;refine ⟨h'.below,fun x hx=> ?_, ?_⟩
 ·rcases WI.1 hx with hx|hx
  ·exact nn (h2.own x hx) h.size
  ·exact h'.own x hx
 ·rw [Yu,Y0];refine ⟨h2.nd,h.nd,fun a ha b hb hab=> ?_⟩;subst hab;obtain ⟨x,hx,hxa⟩:=Xe.1 ha;obtain ⟨y,hy,hya⟩:=Xe.1 hb;have h3:=dY (h2.own x hx) hxa;have h4:=dY (h.own y hy) hya;omega
section
variable {P:Program}{N:Nat}{ops:Array Oper}{Q:Kq}{ρ:Rf}{w w0:World}{rest:List Oper}{H:List HE}{ty:TypeId}{pos:String}{af:Array Edge}
theorem zj {o:Oper}{v:Value} (hg:o.guard=none) (hd:o.dst=none)
  (hr:(execOp (ev ρ) o).run P w=.ok (.value v) w') (k:WL ro P N ops Q rest ρ w'):WL ro P N ops Q (o::rest) ρ w:=
 ⟨fun hm a hf=>wpList_plain hg fun K hK=>by
  unfold Oper.wp;rw [hf.eval,hr];show K (a.put o.dst v) w';rw [hd];exact hK _ _ (k.mM hm _ hf),
 fun a hf n=>wpListIn_plain hg fun K hK=>by
  refine ⟨fun _ _=>trivial, ?_⟩;rw [hf.eval,lC _ hr (fun _ h=>by cases h)];show K (a.put o.dst v) w';rw [hd];exact hK _ _ (k.j8 _ hf n)⟩
theorem uD {l:List α}{i:Nat}{x:α} (h:l[i]?=some x):l.set i x=l:=by
 obtain ⟨h1,rfl⟩:=Wi.1 h;exact List.set_getElem_self h1
theorem AZ (hh:Hp w0 H w) {t e:TypeId}{x:Operand}{i sz:Nat}{A:Option Addr} (hi:H[i]?=some (.row A n c e sz xs)) (hx:ev ρ x=.slice A n c)
  (ht:P.underlying t=some (.slice e)) (hte:di P e=some (sz,ag,by',zc)) (hzl:zc.length=sz) (h1:(zc.all Value.oneCell')=true)
  (k:∀w',Hp w0 (H.set i (.row A n c e sz (fa n zc))) w'→WL ro P N ops Q rest ρ w'):WL ro P N ops Q (⟨none,.call ⟨.builtin .clear, #[x], #[t]⟩,ty,pos,af,none⟩::rest) ρ w:=by
 obtain ⟨z,hz,hzc⟩:=dA (w:=w) hte;have hrow:=hh.at_ hi;obtain ⟨hlen,h2⟩:=hrow;by_cases h0:n=0
 ·subst h0;have hxs:xs=fa 0 zc:=by
   have:xs.length=0:=VX;rw [Xt this];rfl
  subst hxs;rw [uD hi] at k;refine zj rfl rfl (v:=.tuple #[]) ?_ (k w hh);simp only [execOp,resolve,invoke,hx,YK,Wv,WV]
  cases A<;>simp [builtin,Builtin.clear_,run_underlying ht]
 ·rcases h2 with ⟨h2,_⟩|⟨g,cap,cur,hv,hg,hheap,hmc,hcm,hcur,htake⟩
  ·injection h2 with h2 h3;omega
  ·injection hv with hA hn hcap
   subst hA;subst hcap;have hcl:cur.size=cur.toList.length:=by simp
   have hle:n*sz≤c*sz:=Xi _ hmc;have hzr:(fa n zc).length=n*sz:=by rw [jG,hzl]
   have hall:∀v∈fa n zc,v.oneCell'=true:=fun v hv=>by
    obtain ⟨j,hj⟩:=Xr.1 hv;have hj2:=(Wi.1 hj).1;rw [jG] at hj2;rw [sQ n zc j hj2] at hj;exact Ww.1 h1 v (V7 hj)
   obtain ⟨w',hr,hb',hgr,hs⟩:=fV (P:=P) (b:=g) (t:=e) (fz:=(0,0)) 0 (fa n zc) 0 cur.toList w (by simpa using hheap) (.inr (V8 _)) (by rw [←hcl,hzr];omega) hall;refine zj rfl rfl (w':=w') (v:=.tuple #[]) ?_ (k w' (hh.grown hi hgr (.inl rfl) ⟨hzr,.inr ⟨g,c,(cz cur.toList 0 (fa n zc)).toArray,rfl,hg,by simpa using hb',hmc,hcm, ?_, ?_⟩⟩))
   ·simp only [execOp,resolve,invoke,hx,YK,Wv,WV];have hzz:Builtin.zeroCells z.cells n=(fa n zc).toArray:=by
     rw [Builtin.zeroCells,hzc,Yl];exact qU n zc
    obtain ⟨m,rfl⟩:∃m,n=m+1:=⟨n-1,VX⟩;simp [builtin,Builtin.clear_,run_underlying ht,hz,hzz,hr]
   ·simp only [Yl];rw [fj (by rw [←hcl,hzr];omega),←hcl,hcur]
   ·simp only [cz];rw [XV,V9,List.take_left' hzr]
end
abbrev Hp.sz {w0 w:World}{H:List HE} (_:Hp w0 H w):Nat:=w.heap.size
theorem Ig {A:Option Addr}{sz:Nat}{t:TypeId}{cs:Array Value} (h:HE.holds base W (.row A n c t' sz xs)) (h3:W.heap[b]?=some (.cells cs t fz)) (hne:t'≠t):(HE.row A n c t' sz xs).id≠some b:=by
 intro hid
 rcases h.2 with ⟨h1,_⟩|⟨g,cap,cur,h1,_,h4,_⟩
 ·injection h1 with e1
  subst e1
  cases hid
 ·injection h1 with e1
  subst e1;obtain rfl:g=b:=WZ hid;rw [h3] at h4;injection h4 with h4
  injection h4 with _ h5
  exact hne h5.symm
theorem JJ.ka {H L:List HE}{t:TypeId} (hJ:JJ w0 H w W) (hs:Hp w0 H w) (h2:w.heap.size≤b) (h3:W.heap[b]?=some (.cells cs.toArray t (0,0))) (hb:w.heap.size≤w1.heap.size) (hL:Hp w1 L W) (hne:∀x∈L,x.id≠some b):Hp w0 (.blk b t cs (0,0)::(L++H)) W:=by
 have h1:=hs.join (⟨hJ.bl,fun x hx=>nn (hL.own x hx) hb,hL.nd⟩:Hp w L W);refine ⟨h1.below,fun x hx=> ?_, ?_⟩
 ·rcases Wk.1 hx with rfl|hx
  ·exact ⟨Wz hs.size h2,h3,.inr (V8 _)⟩
  ·exact h1.own x hx
 ·rw [XS];show (b::(L++H).filterMap HE.id).Nodup;refine X2.2 ⟨fun hm=> ?_,h1.nd⟩;obtain ⟨y,hy,hyb⟩:=Xe.1 hm
  rcases WI.1 hy with hy|hy
  ·exact hne y hy hyb
  ·have:=(dY (hs.own y hy) hyb).2;omega
theorem Md {A A':Option Addr}{sz n' sz':Nat}{t:TypeId}{xs':List Value} (h:HE.holds base W (.row A n c t sz xs)) (h':HE.holds base W (.row A' n' c' t' sz' xs')) (hne:t≠t') (b:Nat) (h1:(HE.row A n c t sz xs).id=some b):(HE.row A' n' c' t' sz' xs').id≠some b:=by
 rcases h.2 with ⟨h2,_⟩|⟨g,cap,cur,h2,_,h4,_⟩
 ·injection h2 with e1
  subst e1
  cases h1
 ·injection h2 with e1
  subst e1;obtain rfl:g=b:=WZ h1;exact Ig h' h4 (fun e=>hne e.symm)
def HP (base:Nat) (t:TypeId) (n sz:Nat) (cs:List Value):VP:=fun v W=>∃A c,v=.slice A n c∧W.ownsRow base t sz (.slice A n c) n cs
theorem HP.ext {t:TypeId}{sz:Nat} (v:Value) (w w':World) (h:HP base t n sz cs v w) (hb:Below w.heap.size w w'):HP base t n sz cs v w':=let ⟨A,c,h1,h2⟩:=h;⟨A,c,h1,pF h2 hb⟩
def U5 (base:Nat) (t1 t2:TypeId) (n1 s1 n2 s2:Nat) (xs1 xs2:List Value):VP:=fun v W=>∃A c B k,v=.agg #[.slice A n1 c,.slice B n2 k]∧W.ownsRow base t1 s1 (.slice A n1 c) n1 xs1∧W.ownsRow base t2 s2 (.slice B n2 k) n2 xs2
end
structure RX where
 A:Option Addr
 n:Nat
 c:Nat
 ts:List TR
def la (k:Nat) (l:List TR):VP:=fun v W=>∃g:RX,v=.slice g.A g.n g.c∧(g.n≤g.c∧g.ts.length=g.n∧MD k l g.ts∧Sl W g.A g.n 4 (az TR.cells g.ts))
theorem la.ext (v:Value) (w w':World) (h:la k l v w) (hb:Below w.heap.size w w'):la k l v w':=let ⟨g,h1,h2,h3,h4,h5⟩:=h;⟨g,h1,h2,h3,h4,h5.ext hb⟩
theorem MD.Ja {k1 k2:Nat}{l1 l2 L1 L2 L:List TR} (h1:MD k1 l1 L1) (h2:MD k2 l2 L2) (h:MD k (L1++L2) L) (hk:k≤j):MD j (l1++l2) L:=
 ⟨h.sO,fun m=>by rw [h.co,fC,h1.co,h2.co,fC],by have a:=h.len;have b:=h1.len;have c:=h2.len;rw [Wc] at a ⊢;omega,h.ok.mono hk,fun t ht=>by
  obtain ⟨s,hs,e⟩:=h.mem t ht
  rcases WI.1 hs with hs|hs
  ·obtain ⟨u,hu,e2⟩:=h1.mem s hs;exact ⟨u,XX _ hu,e2.trans e⟩
  ·obtain ⟨u,hu,e2⟩:=h2.mem s hs;exact ⟨u,XA _ hu,e2.trans e⟩⟩
theorem nq (k:Nat):∀(N:Nat) (A:Option Addr) (n c:Nat) (l:List TR) (w:World),n≤N→eK w→Sl w A n 4 (az TR.cells l)→n≤c→n≤1000000→k+n≤3999980→jc k l→
  Calls Tryz.prog 162 #[.slice A n c,.func (.func 76) #[] #[],.func (.func 77) #[] #[]] w fun r w'=>(n<2∧r=.returned (.slice A n c)∧Below w.heap.size w w')∨(2≤n∧∃(L:List TR) (A':Option Addr) (c':Nat),MD (k+n) l L∧r=.returned (.slice A' L.length c')∧Hp w [.row A' L.length c' 96 4 (az TR.cells L)] w')
 |0,A,n,c,l,w,hN,hT,hS,hc,hn,hk,hok=>by
  have hh:=Hp.start w;obtain rfl:n=0:=VX;refine aj (N:=30) (l:=[.slice A 0 c,.func (.func 76) #[] #[],.func (.func 77) #[] #[]]) Tryz.func162 rfl rfl (by simp) ?_;refine sr (aL (aa (ah (sr (mL (aF ?_))))));refine aW (aa (cT (sr (mL (aL (aa (au (aE ?_))))))));refine cS ?_;exact .inl ⟨VX,rfl,hh.below⟩
 |N+1,A,n,c,l,w,hN,hT,hS,hc,hn,hk,hok=>by
  have hh:=Hp.start w;have hl:=hS.bg TR.len VY;by_cases h2:n<2
  ·refine aj (N:=30) (l:=[.slice A n c,.func (.func 76) #[] #[],.func (.func 77) #[] #[]]) Tryz.func162 rfl rfl (by simp) ?_;refine sr (aL (aa (ah (sr (mL (aF ?_))))));refine aW (aa (cT (sr (mL (aL (aa (au (aE ?_))))))));refine cS ?_;exact .inl ⟨h2,rfl,hh.below⟩
  ·obtain ⟨h,hhalf⟩:∃h,h=n/2:=⟨_,rfl⟩;have hh1:1≤h:=VX;have hh2:h+h≤n:=VX;have hh3:n≤h+h+1:=VX;have hq:((n:Int))/2=(h:Int):=VX;have hS1:=hS.front (m:=h) VX;rw [show (az TR.cells l).take (h*4)=az TR.cells (l.take h) from jz TR.len l h] at hS1;have hS2:=hS.back (l:=h) VX hc;rw [show (az TR.cells l).drop (h*4)=az TR.cells (l.drop h) from gH TR.len l h] at hS2;have o1:jc k (l.take h):=fun t ht=>hok t (X1 ht);have o2:jc k (l.drop h):=fun t ht=>hok t (Zb ht);have rd:∀{A':Option Addr}{n' c':Nat}{l':List TR}{r:Ending}{w1 w':World},Sl w1 A' n' 4 (az TR.cells l')→n'≤c'→jc k l'→((n'<2∧r=.returned (.slice A' n' c')∧Below w1.heap.size w1 w')∨(2≤n'∧∃(L:List TR) (B:Option Addr) (b:Nat),MD (k+n') l' L∧r=.returned (.slice B L.length b)∧Hp w1 [.row B L.length b 96 4 (az TR.cells L)] w'))→∃v,r=.returned v∧Below w1.heap.size w1 w'∧la (k+n') l' v w':=by
    rintro A' n' c' l' r w1 w' hs hc' ho (⟨h1,rfl,hb⟩|⟨h1,L,B,b,hm,rfl,h3⟩)
    ·have e:=hs.bg TR.len VY;exact ⟨_,rfl,hb,⟨A',n',c',l'⟩,rfl,hc',e,(MD.self (xw VX) ho).mono VX,hs.ext hb⟩
    ·exact ⟨_,rfl,h3.below,⟨B,L.length,b,L⟩,rfl,h3.dR (i:=0) rfl,rfl,hm,h3.aC (i:=0) rfl⟩
   have ih1:=fun w1 (hT1:eK w1) (hb:Below w.heap.size w w1)=>nq k N A h c (l.take h) w1 VX hT1 (hS1.ext hb) VX VX VX o1;have ih2:=fun w1 (hT1:eK w1) (hb:Below w.heap.size w w1)=>nq k N _ (n-h) (c-h) (l.drop h) w1 VX hT1 (hS2.ext hb) VX VX VX o2;refine aj (N:=30) (l:=[.slice A n c,.func (.func 76) #[] #[],.func (.func 77) #[] #[]]) Tryz.func162 rfl rfl (by simp) ?_;refine sr (aL (aa (ah (sr (mL (aF ?_))))));refine aW (aa (cF (ao (ai (sr (mL (aF ?_)))))));refine oJ ?_;refine aI (aa (ah ?_));rw [hq];refine aT 14 [[(0,none)],[(7,none)],[(15,some 0),(16,some 1)],[(1,none)],[(2,none)],[(17,some 2),(18,some 3),(19,some 4)],[(0,none)],[(7,none)],[(21,some 6),(22,some 7)],[(1,none)],[(2,none)],[(23,some 8),(24,some 9),(25,some 10)],[(1,none)],[(2,none)]] [(13,28),(12,27),(11,26),(10,25),(9,24),(8,23),(7,22),(6,21),(5,20),(4,19),(3,18),(2,17),(1,16),(0,15)] hh mixed VZ ?_;refine dI ?_;refine cM ?_;refine bm (i:=2) (fun ρ1 w1 hj hR=>BM (h:=h) bj.out aO.size (show ρ1 15=Value.slice _ _ _ from hR.1) (show ρ1 16=Value.int _ _ from hR.2.1) VX VX) ?_;refine M8 ?_;refine M8 ?_
   refine aN (i:=5) (la (k+h) (l.take h)) (la.ext) ?_ ?_
   ·intro ρ1 w1 hj hR;exact bh rfl (aP ar.out (av (show ρ1 17=Value.slice _ _ _ from hR.1) (av (show ρ1 18=Value.func _ _ _ from hR.2.1) (av (show ρ1 19=Value.func _ _ _ from hR.2.2.1) a6)))) (ih1 w1 (hT.hp hj.hp) hj.hp.below) (fun _ _ hq=>rd (hS1.ext hj.hp.below) VX o1 hq)
   refine dI ?_;refine cM ?_;refine bm (i:=8) (fun ρ1 w1 hj hR=>gl (l:=h) bj.out aO.size (show ρ1 21=Value.slice _ _ _ from hR.1) (show ρ1 22=Value.int _ _ from hR.2.1) VX VX VX) ?_;refine M8 ?_;refine M8 ?_;refine aN (i:=11) (la (k+(n-h)) (l.drop h)) (la.ext) ?_ ?_
   ·intro ρ1 w1 hj hR;exact bh rfl (aP ar.out (av (show ρ1 23=Value.slice _ _ _ from hR.1) (av (show ρ1 24=Value.func _ _ _ from hR.2.1) (av (show ρ1 25=Value.func _ _ _ from hR.2.2.1) a6)))) (ih2 w1 (hT.hp hj.hp) hj.hp.below) (fun _ _ hq=>rd (hS2.ext hj.hp.below) VX o2 hq)
   refine M8 ?_;refine M8 ?_;refine aJ ?_;intro f W hJ hV;have hb_4:=hJ.bl;obtain ⟨v28,v27,v26,v25,v24,v23,v22,v21,v20,v19,v18,v17,v16,v15,_⟩:=hV;obtain ⟨g20,e20,o20⟩:la (k+h) (l.take h) (f 5) W:=v20;obtain ⟨g26,e26,o26⟩:la (k+(n-h)) (l.drop h) (f 11) W:=v26;replace hh:=hJ.hp;refine aR (a8 (ae v28 (ae v27 (ae e26 (ae v25 (ae v24 (ae v23 (ae v22 (ae v21 (ae e20 (ae v19 (ae v18 (ae v17 (ae v16 (ae v15 aQ))))))))))))))) ?_;dsimp only [bH];clear e20 e26 hJ;obtain ⟨p1,p2,p3,p4⟩:=o20;obtain ⟨q1,q2,q3,q4⟩:=o26;have l1:=p3.len;have l2:=q3.len;rw [Wp] at l1;rw [Xk] at l2;refine aG (pP g20.A g20.n g20.c g20.ts g26.A g26.n g26.c g26.ts (k+(n-h)) _ (hT.hp hh) p4 q4 p1 q1 VX VX VX p3.sO q3.sO (p3.ok.mono VX) (q3.ok.mono VX)) ar.out rfl VY ?_;rintro e_ w29 ⟨L,A',c',hm,rfl,h3⟩;refine ⟨_,rfl, ?_⟩;replace hh:=hh.join h3;refine aL (aa (au ?_));refine cS ?_;refine .inr ⟨VX,L,A',c', ?_,rfl,hh⟩;have:=p3.Ja q3 hm (j:=k+n) VX;rwa [W4] at this
variable {o:Nat}
section
variable {ro:Mode}
section
variable {P:Program}{N:Nat}{ops:Array Oper}{Q:Kq}{ρ:Rf}{w w0:World}{rest:List Oper}{H:List HE}{ty d:Nat}{pos:String}{af:Array Edge}
theorem yW (hh:Hp w0 H w) {t e:TypeId}{x:Operand}{i p sz g:Nat} (hi:H[i]?=some (.row (some ⟨g,0,none⟩) p c e sz xs)) (hx:ev ρ x=.slice (some ⟨g,o,none⟩) m c') (ho:p*sz≤o) (hom:o+m*sz≤c*sz) (hm:0<m)
  (ht:P.underlying t=some (.slice e)) (hte:di P e=some (sz,ag,by',zc)) (hzl:zc.length=sz) (h1:(zc.all Value.oneCell')=true)
  (k:∀w',Hp w0 H w'→WL ro P N ops Q rest ρ w'):WL ro P N ops Q (⟨none,.call ⟨.builtin .clear, #[x], #[t]⟩,ty,pos,af,none⟩::rest) ρ w:=by
 obtain ⟨z,hz,hzc⟩:=dA (w:=w) hte;obtain ⟨hlen,h2⟩:=hh.at_ hi
 rcases h2 with ⟨h2,_⟩|⟨g',cap,cur,hv,hg,hheap,hmc,hcm,hcur,htake⟩
 ·cases h2
 ·injection hv with hA hn hcap
  injection hA with hA
  injection hA with hA
  subst hA;subst hcap;have hcl:cur.size=cur.toList.length:=by simp
  have hzr:(fa m zc).length=m*sz:=by rw [jG,hzl]
  have hall:∀v∈fa m zc,v.oneCell'=true:=fun v hv=>by
   obtain ⟨j,hj⟩:=Xr.1 hv;have hj2:=(Wi.1 hj).1;rw [jG] at hj2;rw [sQ m zc j hj2] at hj;exact Ww.1 h1 v (V7 hj)
  obtain ⟨w',hr,hb',hgr,hs⟩:=fV (P:=P) (b:=g) (t:=e) (fz:=(0,0)) o (fa m zc) 0 cur.toList w (by simpa using hheap) (.inr (V8 _)) (by rw [←hcl,hzr];omega) hall;have hset:=uD hi;refine zj rfl rfl (w':=w') (v:=.tuple #[]) ?_ (k w' (hset ▸ hh.grown hi hgr (.inl rfl) ⟨hlen,.inr ⟨g,c,(cz cur.toList (o+0) (fa m zc)).toArray,rfl,hg,by simpa using hb',hmc,hcm, ?_, ?_⟩⟩))
  ·simp only [execOp,resolve,invoke,hx,YK,Wv,WV];have hzz:Builtin.zeroCells z.cells m=(fa m zc).toArray:=by
    rw [Builtin.zeroCells,hzc,Yl];exact qU m zc
   obtain ⟨q,rfl⟩:∃q,m=q+1:=⟨m-1,VX⟩;simp [builtin,Builtin.clear_,run_underlying ht,hz,hzz,hr]
  ·simp only [Yl];rw [fj (by rw [←hcl,hzr];omega),←hcl,hcur]
  ·simp only [cz];rw [WQ,Zp (by rw [Wp,←hcl];omega),List.take_take,Xd VX];exact htake
end
end
variable {news:List Value}
section
variable {ro:Mode}
section
variable {P:Program}{N:Nat}{ops:Array Oper}{Q:Kq}{ρ:Rf}{w w0:World}{rest:List Oper}{d:Nat}{ty:TypeId}{pos:String}{af:Array Edge}
theorem yx {t e:TypeId}{s x:Operand}{sz:Nat}{A B:Option Addr} (hs:ev ρ s=.slice A 0 0) (hx:ev ρ x=.slice B m c') (hsl:Sl w B m sz news)
  (ht:P.underlying t=some (.slice e)) (hte:di P e=some (sz,ag,by',zc)) (hzl:zc.length=sz) (hsz:0<sz) (h1:(news.all Value.oneCell')=true) (h63:m≤maxLen) (hbytes:m*by'≤140737488355328) (hN:d<N)
  (k0:m=0→WL ro P N ops Q rest (cL ρ d (.slice A 0 0)) w)
  (k:∀A' c2 w',0<m→Below w.heap.size w w'→w'.ownsRow w.heap.size e sz (.slice A' m c2) m news→WL ro P N ops Q rest (cL ρ d (.slice A' m c2)) w'):
  WL ro P N ops Q (⟨some d,.call ⟨.builtin .append, #[s,x], #[t,t]⟩,ty,pos,af,none⟩::rest) ρ w:=by
 obtain ⟨i,z,dd,hi,hd,hz,hs2,hby,hzc,_⟩:=dV hte;have h1':∀u∈news,u.oneCell'=true:=fun u hu=>Ww.1 h1 u hu
 rcases XP m with h0|h0
 ·subst h0;have hnews:news=[]:=Xt (by simpa using hsl.1);subst hnews;have hr:(Builtin.append_ #[t,t] ty #[.slice A 0 0,.slice B 0 c']).run P w=.ok (.slice A 0 0) w:=by
   exact Tl
  refine aV rfl rfl hN ?_ (k0 rfl);exact PQ
 ·obtain ⟨ad,rfl,hr⟩:=hsl.2 h0;have hsrc:Src P i.size t (.slice (some ad) m c') m news w:=Src.ofSlice w ht ad m c' news (by rw [hs2];exact hsl.1) hr h1';have hfit:Builtin.nextslicecap (0+m) 0*i.bytes≤281474976710656:=growslice_fits VX (by rw [hby,Wr];exact hbytes);have hb63:((0+m:Nat):Int)≤9223372036854775807:=by unfold maxLen at h63;omega
  have hone:∀base2:Option Addr,(Builtin.firstCells i.size 0 (.slice base2 0 0)).run P w.drew=.ok ([]:List Value).toArray w.drew:=fun base2=>by
   exact TG
  have hA:=run_append_grow_src w t t ty e i z ht hi hz A 0 0 [] (hone _) _ m news hsrc VX hb63 hfit;have hB:=run_append_grow_src w t t ty e i z ht hi hz none 0 0 [] (hone _) _ m news hsrc VX hb63 hfit;obtain ⟨A',c2,w',r1,r2,r3,_⟩:=lj (P:=P) (w:=w) w.heap.size t ty e sz by' ag zc ht hte hzl hsz none 0 0 [] (World.ownsRow_nil w w.heap.size e sz) (some ad) m c' news ⟨hsl.1,fun _=>⟨ad,rfl,hr⟩⟩ h1' VX (by rw [Wr];exact hbytes) (V8 _);rw [hB,←hA] at r1;rw [Wr] at r1 r2;rw [V9] at r2;refine aV rfl rfl hN ?_ (k A' c2 w' h0 ⟨r3.os,r3.tape,r3.output,r3.size,fun k hk=>r3.block k hk (by simp)⟩ r2);simp only [execOp,resolve,invoke,builtin,Sem.run_bind,Sem.run_pure,Result.andThen_ok,YK,Wv,WV,hs,hx,r1]
theorem sH {t e u:TypeId}{x y:Operand}{A:Option Addr}{n':Nat} (ht:P.underlying t=some (.slice e)) (hx:ev ρ x=.slice A n c) (hy:ev ρ y=.slice none n' c') (hN:d<N)
  (kk:WL ro P N ops Q rest (cL ρ d (.bool A.isNone)) w):WL ro P N ops Q (⟨some d,.binOp .eql t x y u,ty,pos,af,none⟩::rest) ρ w:=
 aV rfl rfl hN (by
  have h1:=Go.Lib.run_eql_slice_nil (P:=P) w t e A n c n' c' ht;simp only [execOp,hx,hy];simp [eqGuard,h1]) kk
end
end
variable {Hr:List HE}
theorem uy (A:Option Addr) (n c:Nat) (l:List TR) (g:FuncId) (cap:List Value) (p:TR→Bool) (w:World) (hS:Sl w A n 4 (az TR.cells l)) (hn:n≤1000000) [ar Tryz.prog g]
  (hg:∀(z:TR) (w1:World),z∈l→Below w.heap.size w w1→Calls Tryz.prog g (.agg #[.string z.m,.bool z.c.neg,.string z.c.bf,.int .i64 z.c.e]::cap).toArray w1 fun r w'=>r=.returned (.bool (p z))∧Below w1.heap.size w1 w'):
  Calls Tryz.prog 205 #[.slice A n c,.func (.func g) #[] cap.toArray] w fun r w'=>∃v,r=.returned (.int .i64 v)∧((l.any p=false∧v= -1)∨∃(i:Nat) (z:TR),i<n∧v=i∧(l.take i).any p=false∧l[i]?=some z∧p z=true)∧Below w.heap.size w w':=by
 have hh:=Hp.start w;have hln:=hS.bg TR.len VY;refine aj (N:=19) (l:=[.slice A n c,.func (.func g) #[] cap.toArray]) Tryz.func205 rfl rfl (by simp) ?_;refine Bg ?_;refine aM [4,5,8,9,10,11,12,13,14,15,16,17,18] 8
  (fun v w'=>∃i:Nat,i≤n∧v=.int .i64 i∧(l.take i).any p=false∧Hp w [] w')
  (fun v _=>n-(intOf v).toNat) ?_ ?_
 ·exact ⟨0,V5 _,rfl,rfl,hh⟩
 ·clear hh;rintro ρ' v w' ⟨i,hi,rfl,hall,hh⟩;by_cases hlt:i<n
  ·obtain ⟨z,hz⟩:=ak (l:=l) (k:=i) VX;obtain ⟨ad,rfl,hr⟩:=hS.at_ VX;have hc:=fun w1=>hg z w1 (V7 hz)
   cases gz:p z with
   |true=>
    rw [gz] at hc;refine sr ?_;refine rN ?_;refine jh ?_;refine mL (mI ?_);refine bY ?_;refine cA (vs:=[_,_,_,_]) aO.out rfl ((hr.ext hh.below).recAt TR.len hz) rfl VY ?_;refine gM (hc _ hh.below) ar.out rfl rfl VY ?_;rintro e_ w16 ⟨rfl,hb_⟩;refine ⟨_,rfl, ?_⟩;replace hh:=hh.ext hb_;refine aa (cT (sr (mI (aI (aa (au (bI (aE (aE (bI (aE ?_)))))))))));refine cS ?_;exact ⟨_,rfl,.inr ⟨i,z,hlt,rfl,hall,hz,gz⟩,hh.below⟩
   |false=>
    rw [gz] at hc;refine sr ?_;refine rN ?_;refine jh ?_;refine mL (mI ?_);refine bY ?_;refine cA (vs:=[_,_,_,_]) aO.out rfl ((hr.ext hh.below).recAt TR.len hz) rfl VY ?_;exact FO
  ·rw [Wa VX] at hall;refine sr ?_;refine Fk ?_;refine cS ?_;exact ⟨_,rfl,.inl ⟨hall,rfl⟩,hh.below⟩
theorem DU (A:Option Addr) (n c:Nat) (l:List TR) (g:FuncId) (cap:List Value) (p:TR→Bool) (w:World) (hS:Sl w A n 4 (az TR.cells l)) (hn:n≤1000000) [ar Tryz.prog g]
  (hg:∀(z:TR) (w1:World),z∈l→Below w.heap.size w w1→Calls Tryz.prog g (.agg #[.string z.m,.bool z.c.neg,.string z.c.bf,.int .i64 z.c.e]::cap).toArray w1 fun r w'=>r=.returned (.bool (p z))∧Below w1.heap.size w1 w'):
  Calls Tryz.prog 157 #[.slice A n c,.func (.func g) #[] cap.toArray] w fun r w'=>r=.returned (.bool (l.any p))∧Below w.heap.size w w':=by
 have hh:=Hp.start w;refine aj (N:=9) (l:=[.slice A n c,.func (.func g) #[] cap.toArray]) Tryz.func157 rfl rfl (by simp) ?_;refine sr (aB (aa (sr (mL ?_))));refine jh ?_;refine aG (uy A n c l g cap p _ (hS.ext hh.below) hn hg) ar.out rfl VY ?_;rintro e_ w7 ⟨v_,rfl,hv_,hb_⟩;refine ⟨_,rfl, ?_⟩;replace hh:=hh.ext hb_
 rcases hv_ with ⟨ha,rfl⟩|⟨i,z,hi,rfl,ht,hz,hp⟩
 ·rw [ha];exact Fx
 ·rw [show l.any p=true from XR.2 ⟨z,V7 hz,hp⟩];exact Fx
theorem mg (A:Option Addr) (n c:Nat) (l:List TR) (w:World) (hS:Sl w A n 4 (az TR.cells l)) (hn:n≤1000000):
  Calls Tryz.prog 79 #[.slice A n c] w fun r w'=>∃A' c',r=.returned (.slice A' n c')∧w'.ownsRow w.heap.size 96 4 (.slice A' n c') n (az TR.cells l)∧Below w.heap.size w w':=by
 have hh:=Hp.start w;have oX:=bu TR.one l
 rcases A with _|ad
 ·have hn0:n=0:=by
   exact Kc
  subst hn0;have hl:l=[]:=Xt (by have:=hS.bg TR.len VY;omega);subst hl;refine aj (N:=8) (l:=[.slice none 0 c]) Tryz.func79 rfl rfl (by simp) ?_;exact QA
 ·refine aj (N:=8) (l:=[.slice (some ad) n c]) Tryz.func79 rfl rfl (by simp) ?_;refine sr (aL (aa (ah (sr (mL ?_)))));refine sH bj.out rfl rfl VY ?_;refine tF ?_;refine r7 ?_;intro b5 w5 hh;refine mL ?_;refine bK hh (i:=0) rfl rfl rfl (hS.ext hh.below) bj.out aO.out rfl VY ?one9 VX VX VY ?kk9
  case one9=>first|rfl|assumption|exact a7 _|exact oneCells_u8s _
  exact Q8
theorem z8 {l:List α}{i:Nat} (h:i<j) (x:α):(l.set i x).drop j=l.drop j:=by
 refine XN fun k=> ?_;rw [XU,XU,Yf,V3 VX]
theorem vF {l:List α}{i:Nat} (h:i<l.length) (x:α):(l.set i x).take (i+1)=l.take i++[x]:=by
 rw [aw (show (l.set i x)[i]?=some x by rw [Yf,V2 rfl,V2 h]),List.take_set_of_le (V8 _)]
theorem CU (A:Option Addr) (n c:Nat) (l:List TR) (g:FuncId) (p:TR→Bool) (w:World) (hh:Hp w0 (.row A n c 96 4 (az TR.cells l)::Hr) w) (hl:l.length=n) (hn:n≤1000000) [ar Tryz.prog g]
  (hg:∀(z:TR) (w1:World),z∈l→Calls Tryz.prog g (.agg #[.string z.m,.bool z.c.neg,.string z.c.bf,.int .i64 z.c.e]::[]).toArray w1 fun r w'=>r=.returned (.bool (p z))∧Below w1.heap.size w1 w'):
  Calls Tryz.prog 161 #[.slice A n c,.func (.func g) #[] #[]] w fun r w'=>r=.returned (.slice A (l.filter fun z=> !p z).length c)∧Hp w0 (.row A (l.filter fun z=> !p z).length c 96 4 (az TR.cells (l.filter fun z=> !p z))::Hr) w':=by
 have hc:=hh.dR (i:=0) rfl;have hsl:=hh.aC (i:=0) rfl;refine aj (N:=42) (l:=[.slice A n c,.func (.func g) #[] #[]]) Tryz.func161 rfl rfl (by simp) ?_;refine sr (aL (aa (sr (mL ?_))));refine jh ?_;refine aG (uy A n c l g [] p _ hsl hn (fun z w1 hz _=>hg z w1 hz)) ar.out rfl VY ?_;rintro e_ w10 ⟨v_,rfl,hv_,hb_⟩;refine ⟨_,rfl, ?_⟩;replace hh:=hh.ext hb_
 rcases hv_ with ⟨ha,rfl⟩|⟨i0,z0,hi0,rfl,ht0,hz0,hp0⟩
 ·have hf:(l.filter fun z=> !p z)=l:=List.filter_eq_self.2 fun z hz=>by
   have:=XD.1 ha z hz;simpa using this
  rw [hf,hl];refine aI (aa (ah (sr (mI ?_))));refine cB (aa (cT (sr (mL (aL (aa (au (aE ?_))))))));refine cS ?_;exact ⟨rfl,hh⟩
 ·have hf0:((l.take (i0+1)).filter fun z=> !p z)=l.take i0:=by
   rw [aw hz0,Yc,Zk (by rw [hp0];decide),List.filter_nil,WG];exact List.filter_eq_self.2 fun z hz=>by
    have:=XD.1 ht0 z hz;simpa using this
  obtain ⟨g0,rfl⟩:=hh.cu (i:=0) rfl VX;refine aI (aa (ah (sr (mI ?_))));refine cB (aa (cF (ao (ai (ah (sr (mI ?_)))))));refine a9 (aI (aa (aq ?_)));refine bp [5,6,7,16,17,18,19,20,21,22,23,24,25,26,27,28,29,30,31,32,33,34,35] 5 6
   (fun v5 v6 w'=>∃(i j:Nat) (X:List TR),i<j∧j≤n∧v5=.int .i64 i∧v6=.int .i64 j∧X.length=n∧i=((l.take j).filter fun z=> !p z).length∧X.take i=((l.take j).filter fun z=> !p z)∧X.drop j=l.drop j∧Hp w0 (.row (some ⟨g0,0,none⟩) n c 96 4 (az TR.cells X)::Hr) w')
   (fun _ v _=>n-(intOf v).toNat) ?_ ?_
  ·exact ⟨i0,i0+1,l,VX,VX,rfl,rfl,hl,by rw [hf0,Wp];omega,hf0.symm,rfl,hh⟩
  ·clear hh;rintro ρ' v5 v6 w' ⟨i,j,X,hij,hj,rfl,rfl,hX,hi,htk,hdr,hh⟩;by_cases hlt:j<n
   ·obtain ⟨z,hz⟩:=ak (l:=l) (k:=j) VX;have hXj:X[j]?=some z:=by
     have h1:(X.drop j)[0]?=(l.drop j)[0]?:=by rw [hdr]
     rw [XU,XU,XT] at h1;rw [h1,hz]
    have hgz:=fun w1=>hg z w1 (V7 hz);have hdr2:X.drop (j+1)=l.drop (j+1):=by rw [←List.drop_drop,←List.drop_drop,hdr]
    have hrl:=fw TR.len X;refine ah (sr (mI (mL (aF ?_))));refine je ?_;refine lW ?_;refine cA (vs:=[_,_,_,_]) aO.out rfl (hh.fY (f:=TR.cells) (x:=z) (l:=X) (i:=0) rfl TR.len VY hXj) rfl VY ?_;refine bQ hh ?_;intro b7 w7 hh;refine bR hh 0 [_,_,_,_] ?_;intro ws hh;replace hh:Hp _ (.blk _ _ [_,_,_,_] _::_) _:=hh;refine aa (sr ?_);refine jh ?_;refine cn hh 0 [_,_,_,_] ?_
    cases hpz:p z with
    |true=>
     rw [hpz] at hgz;have hfl:((l.take (j+1)).filter fun z=> !p z)=((l.take j).filter fun z=> !p z):=by rw [aw hz,Yc,Zk (by rw [hpz];decide),List.filter_nil,WG]
     refine gM (hgz _) ar.out rfl rfl VY ?_;rintro e_ w28 ⟨rfl,hb_⟩;refine ⟨_,rfl, ?_⟩;replace hh:=hh.ext hb_;refine fI ?_;refine oN ?_;refine a9 (aI (aA (ai ?_)));replace hh:=hh.sub (V6 _ (V4 _ (Xh _)));refine ⟨⟨i,j+1,X,VX,VX,rfl,rfl,hX,by rw [hfl];exact hi,by rw [hfl];exact htk,hdr2,hh⟩,by show n-(j+1)<n-j;omega, ?_⟩;exact dy
    |false=>
     rw [hpz] at hgz;have hfl:((l.take (j+1)).filter fun z=> !p z)=((l.take j).filter fun z=> !p z)++[z]:=by rw [aw hz,Yc,List.filter_cons_of_pos (by rw [hpz];decide),List.filter_nil]
     refine gM (hgz _) ar.out rfl rfl VY ?_;rintro e_ w28 ⟨rfl,hb_⟩;refine ⟨_,rfl, ?_⟩;replace hh:=hh.ext hb_;refine fI ?_;refine aa (cT (sr (mL (mI ?_))));refine cn hh 0 [_,_,_,_] ?_;refine gh ?_;refine cd hh (i:=1) (vs:=[_,_,_,_]) rfl rfl (iV rfl) rfl aO.out rfl VX rfl ?_;intro ws hh;simp only [Wd,WH] at hh;rw [show cz (az TR.cells X) (i*4) [.string z.m,.bool z.c.neg,.string z.c.bf,.int .i64 z.c.e]=az TR.cells (X.set i z) from jE TR.len VX] at hh;refine aa (al (mI ?_));refine a9 (aI (aA (bF (ai (al (mI ?_))))));refine a9 (aI (aA (ai ?_)));replace hh:=hh.sub (V6 _ (V4 _ (Xh _)));refine ⟨⟨i+1,j+1,X.set i z,VX,VX,rfl,rfl,by rw [YU];exact hX,by rw [hfl,Wc,←hi];rfl,by rw [hfl,vF VX,htk],by rw [z8 VX];exact hdr2,hh⟩,by show n-(j+1)<n-j;omega, ?_⟩;exact dy
   ·obtain rfl:j=n:=VX;rw [show l.take j=l from Wa VX] at hi htk;have hcap:=hh.dR (i:=0) rfl;have hp31:(if c=i then some (⟨g0,0,none⟩:Addr) else (some (⟨g0,0,none⟩:Addr)).map (·.add (i*4)))=some ⟨g0,i*4,none⟩:=by
     rw [V3 VX];show some ((⟨g0,0,none⟩:Addr).add (i*4))=_;rw [fP,Wr]
    have htt:(az TR.cells X).take (i*4)=az TR.cells (l.filter fun z=> !p z):=by rw [jz TR.len,htk]
    refine ah (sr (mI (mL (aF ?_))));refine aW (aa (cF (aU (aD (aD (bk (ai (sr (mL (mI ?_))))))))));refine aV rfl rfl VY (jm (l:=i) (h:=j) bj.out aO.size rfl ⟨_,_,rfl,rfl⟩ rfl VX VX) ?_;rw [hp31];replace hh:=hh.DP (k:=i) VX;rw [htt] at hh;refine yW hh (i:=0) (o:=i*4) (m:=j-i) rfl rfl VX VX VX bj.out aO.out rfl rfl ?_;intro w38 hh;refine aa (sr (mL (mI ?_)));refine Lw ?_;refine aL (aa (au ?_));refine cS ?_;rw [←hi];exact ⟨rfl,hh⟩
variable {E:Int}{ts:List TR}
structure PX where
 v:Int
 A:Option Addr
 n:Nat
 c:Nat
 ts:List TR
def PX.row (g:PX):HE:=.row g.A g.n g.c 96 4 (az TR.cells g.ts)
def PX.at_ (g:PX) (w:World):Prop:=Sl w g.A g.n 4 (az TR.cells g.ts)
theorem PX.at_.ext {g:PX} (h:g.at_ w) (hb:Below w.heap.size w w'):g.at_ w':=Sl.ext h hb
theorem PX.at_.ln {g:PX} (h:g.at_ w):g.ts.length=g.n:=Sl.bg h TR.len VY
structure dN (E v:Int) (ts:List TR) (g:PX):Prop where
 v:g.v=if E=0 then v else 0
 ts:g.ts=if E=0 then ts else []
def PX.nil:PX:=⟨0,none,0,0,[]⟩
theorem dN.err {v:Int} (h:E≠0):dN E v ts PX.nil:=⟨by rw [V3 h];rfl,by rw [V3 h];rfl⟩
theorem Hp.uZ {H:List HE} (h:Hp w0 H w):Hp w0 (PX.nil.row::H) w:=h.ck 96 4
theorem vI (A:Option Addr) (n c:Nat) (l:List TR) (k:Nat) (w:World) (hT:eK w) (hh:Hp w0 (.row A n c 96 4 (az TR.cells l)::Hr) w) (hl:l.length=n) (hn:n≤1000000) (hk:k+n≤3999980) (ho:jc k l):
  Calls Tryz.prog 162 #[.slice A n c,.func (.func 76) #[] #[],.func (.func 77) #[] #[]] w fun r w'=>∃(L:List TR) (A':Option Addr) (c':Nat),MD (k+n) l L∧r=.returned (.slice A' L.length c')∧Hp w0 (.row A' L.length c' 96 4 (az TR.cells L)::Hr) w':=by
 refine (nq k n A n c l w (V8 _) hT (hh.aC (i:=0) rfl) (hh.dR (i:=0) rfl) hn hk ho).mono fun r w' h=> ?_
 rcases h with ⟨h1,rfl,hb⟩|⟨h1,L,A',c',hm,rfl,h3⟩
 ·exact ⟨l,A,c,(MD.self (xw VX) ho).mono VX,by rw [hl],by rw [hl];exact hh.ext hb⟩
 ·refine ⟨L,A',c',hm,rfl, ?_⟩;exact (hh.join h3).sub (V4 _ (V6 _ (Xh _)))
def T4 (t:TR):Bool:=decide (t.c.d=0)
theorem En (l:List TR):(l.filter fun z=> !T4 z)=l.filter nM:=rfl
theorem yd (z:TR) (w:World):Calls Tryz.prog 163 #[.agg #[.string z.m,.bool z.c.neg,.string z.c.bf,.int .i64 z.c.e]] w fun r w'=>r=.returned (.bool (T4 z))∧Below w.heap.size w w':=by
 have hh:=Hp.start w;refine aj (N:=7) (l:=[.agg #[.string z.m,.bool z.c.neg,.string z.c.bf,.int .i64 z.c.e]]) Tryz.func163 rfl rfl (by simp) ?_;refine sr ?_;refine cf hh [_,_,_,_] ?_;intro b1 w1 hh;refine aB (aa (sr (bE ?_)));refine cn hh 0 [_,_,_] ?_;refine br hh (ix z.c _) rfl ?_;intro w5 hh;have hz:z.c.i.sign=0↔z.c.d=0:=by
  exact Nk
 unfold T4;by_cases h0:z.c.d=0
 ·have hs:=hz.2 h0;rw [Wm h0];refine cB (aB (aa (au ?_)));refine cS ?_;exact ⟨rfl,hh.below⟩
 ·have hs:¬z.c.i.sign=0:=fun h=>h0 (hz.1 h);rw [Wu h0];refine cB (aB (aa (au ?_)));refine cS ?_;exact ⟨rfl,hh.below⟩
def fW (l:List TR):Int:=if 4096<(aH l).length then 3 else 0
theorem Cl {ys:List Value}{v:Value} (h:xs[o]?=some v):cz xs o (v::ys)=cz xs (o+1) ys:=by
 unfold cz;rw [aw h,Wx,show o+(ys.length+1)=o+1+ys.length by omega];simp
def UB (t:TR):TR:=⟨t.m,nR t.c.d⟩
theorem wz {X:List TR}{i:Nat}{z:TR} (h:X[i]?=some z) (y:NR):cz (az TR.cells X) (i*4+1) [.bool y.neg,.string y.bf,.int .i64 y.e]=az TR.cells (X.set i ⟨z.m,y⟩):=by
 have h0:(az TR.cells X)[i*4]?=some (.string z.m):=by
  have h1:=vj TR.len h;have h2:(((az TR.cells X).drop (i*4)).take 4)[0]?=some (.string z.m):=by rw [h1];rfl
  rwa [List.getElem?_take_of_lt VY,XU,XT] at h2
 rw [←Cl h0];exact jE TR.len (y:=⟨z.m,y⟩) (Wi.1 h).1
theorem k5 (v:Int) (A:Option Addr) (n c:Nat) (l:List TR) (k:Nat) (w:World) (hT:eK w0) (hh:Hp w0 (.row A n c 96 4 (az TR.cells l)::Hr) w) (hl:l.length=n) (hn:n≤1000000) (hk:k+n≤3999980) (ho:jc k l):
  Calls Tryz.prog 78 #[.int .i64 v,.slice A n c] w fun r w'=>∃g:PX,dN (fW l) v (aH l) g∧r=.returned (.tuple #[.agg #[.int .i64 g.v,.slice g.A g.n g.c],.int .i64 (fW l)])∧Hp w0 (g.row::Hr) w':=by
 refine aj (N:=33) (l:=[.int .i64 v,.slice A n c]) Tryz.func78 rfl rfl (by simp) ?_;refine sr ?_;refine bQ hh ?_;intro b4 w4 hh;refine aI (aa (sr (mL ?_)));replace hh:=hh.perm (WO (l₁:=[_]));simp only [Wb,V9] at hh;refine aG (vI A n c l k _ (hT.hp hh) hh hl hn hk ho) ar.out rfl VY ?_;rintro e_ w8 ⟨L,A1,c1,hmd,rfl,hh⟩;refine ⟨_,rfl, ?_⟩;have hlen:=hmd.len;refine aG (CU A1 L.length c1 L _ T4 _ hh rfl VX (fun z w1 _=>yd z w1)) ar.out rfl VY ?_;rintro e_ w9 ⟨rfl,hh⟩;refine ⟨_,rfl, ?_⟩;rw [En] at hh ⊢;have hML:(L.filter nM).length≤L.length:=Zj _ _;have hgl:(aH l).length=(L.filter nM).length:=by rw [←hmd.aH,Wh]
 have hgm:=hmd.aH;have hok:jc (k+n) (L.filter nM):=fun t ht=>hmd.ok t (Xy.1 ht).1;generalize hM:L.filter nM=M at*;by_cases h4:4096<M.length
 ·rw [show fW l=3 by unfold fW;rw [V2 VX]];refine aL (aa (ah (sr (mL (aF ?_)))));refine bM (aa (cT (sr ?_)));refine eV [_,_] ?_;refine bR hh 1 [_,_] ?_;intro ws hh;replace hh:Hp _ (_::.blk _ _ [_,_] _::_) _:=hh;refine aI (aa (au (aE ?_)));replace hh:=hh.sub (V6 _ (V4 _ (Xh _)));refine mW ?_;exact ⟨PX.nil,dN.err VY,rfl,(hh.sub (WE _ _)).uZ⟩
 ·rw [show fW l=0 by unfold fW;rw [V3 VX]];refine aL (aa (ah (sr (mL (aF ?_)))));refine bM (aa (cF (ao (ai (ah (sr (mL (aF (mI (aa (aq ?_)))))))))));refine aM [6,16,17,18,19,20,21,22,23,24,25,26,27,28,29] 16
   (fun v w'=>∃(i:Nat) (X:List TR),i≤M.length∧v=.int .i64 i∧X.length=M.length∧X=(M.take i).map UB++M.drop i∧Hp w0 (.row A1 M.length c1 96 4 (az TR.cells X)::.blk b4 24 [.int .i64 0,.slice none 0 0] (0,0)::Hr) w')
   (fun v _=>M.length-(intOf v).toNat) ?_ ?_
  ·exact ⟨0,M,V5 _,rfl,rfl,rfl,hh⟩
  ·clear hh;rintro ρ' v w' ⟨i,X,hi,rfl,hX,hXe,hh⟩;by_cases hlt:i<M.length
   ·obtain ⟨z,hz⟩:=ak (l:=M) (k:=i) VX;have hXz:X[i]?=some z:=by
     rw [hXe,Xm (by rw [Wh,Wp];omega),Wh,Wp,Xd VX,W9,XU];exact hz
    have hzo:=hok z (V7 hz);have hXn:X.set i ⟨z.m,nR z.c.d⟩=(M.take (i+1)).map UB++M.drop (i+1):=by
     rw [aw hz,WT,hXe,X4 _ _ (by rw [Wh,Wp];omega),Wh,Wp,Xd VX,W9,WQ];congr 1;obtain ⟨h1,h2⟩:=Wi.1 hz;rw [Xl h1,h2]
     rfl
    have hrl:=fw TR.len X;obtain ⟨g0,rfl⟩:=hh.cu (i:=0) rfl VX;refine sr ?_;refine aW (aa (ah (cT (ao (ai (ah (aq (sr (mI (aI (aa (al (mL (mI (mL (mI ?_))))))))))))))));refine gh ?_;refine bE ?_;refine cA (vs:=[_,_,_]) aO.out rfl ((hh.fY (f:=TR.cells) (x:=z) (l:=X) (i:=0) rfl TR.len VY hXz).drop 1) rfl VY ?_;refine br hh (eY z.c _ (hT.hp hh) (by have:=hzo.1.1;omega) (by have:=hzo.1.2.1;omega) (by have:=hzo.1.2.2;omega)) rfl ?_;intro w26 hh;refine gh ?_;refine bE ?_;refine cd hh (i:=0) (vs:=[_,_,_]) rfl rfl (iV rfl) rfl aO.out rfl VX rfl ?_;intro ws hh;simp only [Wd] at hh;rw [wz hXz,hXn] at hh;refine gy ?_;refine a9 (mI (aA (ai ?_)));refine ⟨⟨i+1,_,VX,rfl, ?_,rfl,hh⟩,by show M.length-(i+1)<M.length-i;omega, ?_⟩
    ·rw [←hXn,YU,hX]
    ·exact dy
   ·obtain rfl:i=M.length:=VX;rw [Wa (V8 _),XB (V8 _),WG] at hXe;have hXg:X=aH l:=by rw [hXe];exact hgm
    rw [hXg] at hh;refine sr ?_;refine aW (aa (ah (cF (aU (aD (aD (bk (ai (sr (mI (mL ?_)))))))))));refine eV [_,_] ?_;refine bR hh 1 [_,_] ?_;intro ws hh;replace hh:Hp _ (_::.blk _ _ [_,_] _::_) _:=hh;refine aI (aa (au ?_));refine tU ?_;exact ⟨⟨v,A1,M.length,c1,aH l⟩,⟨rfl,rfl⟩,rfl,hh.sub (V4 _ (V6 _ (Xh _)))⟩
theorem lV (s:ByteArray) (n:Int) (w:World) (hs:s.size≤9223372036854775807):
  Calls Tryz.prog 159 #[.string s,.int .i64 n] w fun e w'=>e=.returned (.bool (ef s.data.toList && decide ((s.size:Int)=n)))∧Below w.heap.size w w':=by
 refine aj (N:=20) (l:=[.string s,.int .i64 n]) Tryz.func159 rfl rfl (by simp) ?_;refine sr (aB (aa (ah (sr (mS ?_)))));refine bA bj.out rfl VY ?_;refine mI (aa (aq ?_));refine aM [4,5,8,9,10,11,12,13,14,15] 8
  (fun v w'=>∃k:Nat,k≤s.size∧v=.int .i64 k∧ef (s.data.toList.take k)=true∧w'=w)
  (fun v _=>s.size-(intOf v).toNat) ?_ ?_
 ·exact ⟨0,V5 _,rfl,rfl,rfl⟩
 ·rintro ρ' v w' ⟨k,hk,rfl,hm,rfl⟩;by_cases hlt:k<s.size
  ·obtain ⟨c,hc⟩:=ak (l:=s.data.toList) (k:=k) (by rw [←dD];exact hlt);have hb:=c.toNat_lt;by_cases h8:c.toNat<128
   ·refine sr ?_;refine aW (aa (ah (cT (ao (ai (ah (aq (sr (mI (aI (aa (sr (mS (mI ?_))))))))))))));refine hH ?_;refine bM (aa (cF (ao (bF (ai (al ?_))))));refine a9 (mI (aA (ai ?_)));exact N6
   ·refine sr ?_;refine aW (aa (ah (cT (ao (ai (ah (aq (sr (mI (aI (aa (sr (mS (mI ?_))))))))))))));refine hH ?_;refine bM (aa (cT (sr (aB (aa (au (bI (aE (aE (bI (aE ?_)))))))))));refine cS ?_;rw [Ba hc h8];exact ⟨rfl,Below.refl _ _⟩
  ·refine sr ?_;refine aW (aa (ah (cF (aU (aD (aD (bk (ai (sr (mS ?_))))))))));exact Th
theorem nx (s:ByteArray) (w:World) (hs:s.size≤9223372036854775807):
  Calls Tryz.prog 159 #[.string s,.int .i64 s.size] w fun e w'=>e=.returned (.bool (ef s.data.toList))∧Below w.heap.size w w':=by
 have h:=lV s s.size w hs;simpa using h
theorem l7 (s:ByteArray) (n:Int) (w:World) (hs:s.size≤9223372036854775807):
  Calls Tryz.prog 173 #[.string s,.int .i64 n] w fun e w'=>e=.returned (.bool (ef s.data.toList && decide ((s.size:Int)=n)))∧Below w.heap.size w w':=by
 refine aj (N:=20) (l:=[.string s,.int .i64 n]) Tryz.func173 rfl rfl (by simp) ?_;refine sr (aB (aa (ah (sr (aI (aa (aq ?_)))))));refine aM [4,5,6,7,8,9,10,11,12,13,14,15] 5
  (fun v w'=>∃k:Nat,k≤s.size∧v=.int .i64 k∧ef (s.data.toList.take k)=true∧w'=w)
  (fun v _=>s.size-(intOf v).toNat) ?_ ?_
 ·exact ⟨0,V5 _,rfl,rfl,rfl⟩
 ·rintro ρ' v w' ⟨k,hk,rfl,hm,rfl⟩;by_cases hlt:k<s.size
  ·obtain ⟨c,hc⟩:=ak (l:=s.data.toList) (k:=k) (by rw [←dD];exact hlt);have hb:=c.toNat_lt;by_cases h8:c.toNat<128
   ·refine ah (sr (mI (mS ?_)));refine bA bj.out rfl VY ?_;refine EH ?_;refine hH ?_;refine dJ (aa (cF (ao (bF (ai (al (mI ?_)))))));refine a9 (aI (aA (ai ?_)));exact N6
   ·refine ah (sr (mI (mS ?_)));refine bA bj.out rfl VY ?_;refine EH ?_;refine hH ?_;refine dJ (aa (cT (sr (aB (aa (au (bI (aE (aE (bI (aE ?_)))))))))));refine cS ?_;rw [Ba hc h8];exact ⟨rfl,Below.refl _ _⟩
  ·refine ah (sr (mI (mS ?_)));refine bA bj.out rfl VY ?_;refine aW (aa (cF (aU (aD (aD (bk (ai (sr (mS ?_)))))))));exact Th
theorem B0 (A:Option Addr) (n c:Nat) (xs:List Int) (w:World) (hsl:Sl w A n 1 (bC xs)) (hn:n≤100000):
  Calls Tryz.prog 187 #[.slice A n c] w fun e w'=>e=.returned (.tuple #[.string (str (H8 xs)),.int .i64 (LC xs)])∧Below w.heap.size w w':=by
 have hlen:xs.length=n:=by have:=hsl.1;rw [bV] at this;omega
 have hh:=Hp.start w;refine aj (N:=27) (l:=[.slice A n c]) Tryz.func187 rfl rfl (by simp) ?_;refine sr (aS (aI (aa (sr (aL (aa (ah (sr (mL (aF (mI (aa (aq ?_)))))))))))));refine bp [2,3,4,6,9,10,11,12,13,14,15,16,17,18,19,20,21,22,23,24] 4 9
  (fun b i w'=>∃(k c':Nat) (A':Option Addr),k≤n∧i=.int .i64 k∧b=.slice A' k c'∧(xs.take k).all cE=true∧Hp w [.row A' k c' 5 1 (lX ((xs.take k).map pw))] w')
  (fun _ v _=>n-(intOf v).toNat) ?_ ?_
 ·exact ⟨0,0,none,V5 _,rfl,rfl,rfl,hh.ck _ _⟩
 ·clear hh;rintro ρ' b i w' ⟨k,c',A',hk,rfl,rfl,hall,hh⟩;by_cases hlt:k<n
  ·obtain ⟨x,hx⟩:=ak (l:=xs) (k:=k) VX;obtain ⟨ad,rfl,hr⟩:=(hsl.ext hh.below).at_ VX;by_cases h0:x<0
   ·refine sr ?_;refine dZ ?_;refine fp ?_;refine uu ?_;refine aI (aa (ah (sr (mI ?_))));refine aW (mB ?_);refine gS (gS ?_);refine eM ?_;exact MM
   ·by_cases h1:127<x
    ·refine sr ?_;refine dZ ?_;refine fp ?_;refine uu ?_;refine aI (aa (ah (sr (mI ?_))));refine aW (mB (gT (mI (gT ?_))));refine bM ?_;refine dE ?_;exact MM
    ·have hok:cE x=true:=by simp [cE];omega
     refine sr ?_;refine dZ ?_;refine fp ?_;refine uu ?_;refine aI (aa (ah (sr (mI ?_))));refine aW (mB (gT (mI (gT ?_))));refine bM ?_;refine dE ?_;refine aa (cF (ao (ai (al (mL (mI ?_))))));refine oZ bj.out bj.out rfl VY ?_;refine se ?_;intro b22 w22 hh;refine bK hh (i:=1) rfl rfl rfl (hh.aC (i:=0) rfl) bj.out aO.out rfl VY rfl VX VX VY ?_;intro A23 c23 w23 hh;simp only [Wd,WH] at hh;replace hh:=hh.sub (WE _ _);refine lR ?_;refine a9 (mI (aA (ai ?_)));refine ⟨⟨k+1,c23,A23,VX,rfl,rfl,Cp hx hall hok, ?_⟩,by show n-(k+1)<n-k;omega, ?_⟩
     ·rw [x8 VX VX,I8 hx hok] at hh;exact hh
     ·exact dy
  ·obtain rfl:k=n:=VX;rw [Wa VX] at hall hh;obtain ⟨e1,e2⟩:=nF hall;refine sr ?_;refine oP ?_;refine nw bj.out bj.out bj.out rfl (hh.aC (i:=0) rfl) VY ?_;refine aS (aI (aa (au ?_)));refine Gb ?_;rw [e1,e2];exact ⟨rfl,hh.below⟩
theorem ik (s:ByteArray) (w:World) (hs:s.size≤100000):
  Calls Tryz.prog 91 #[.string s] w fun e w'=>∃A c,e=.returned (.slice A (iT s.data.toList).length c)∧w'.ownsRow w.heap.size 3 1 (.slice A (iT s.data.toList).length c) (iT s.data.toList).length (bC (iT s.data.toList))∧Below w.heap.size w w':=by
 have hh:=Hp.start w;have hsz:=dD s
 cases hm:ef s.data.toList with
 |false=>
  refine aj (N:=22) (l:=[.string s]) Tryz.func91 rfl rfl (by simp) ?_;refine sr (aL (aa (ah (sr (mS (mS ?_))))));refine bA bj.out rfl VY ?_;refine br hh (nx s _ VX) rfl ?_;intro w9 hh;rw [hm];refine fI ?_;refine aa (cT (sr (aL (aa (au (aE ?_))))));refine cS ?_;rw [K6 hm];exact QH
 |true=>
  refine aj (N:=22) (l:=[.string s]) Tryz.func91 rfl rfl (by simp) ?_;refine sr (aL (aa (ah (sr (mS (mS ?_))))));refine bA bj.out rfl VY ?_;refine br hh (nx s _ VX) rfl ?_;intro w9 hh;rw [hm];refine fI ?_;refine aa (cF (ao (ai (sr (aL (aa (ah (sr (mS ?_)))))))));refine xW hh bj.out rfl VY ?_;intro b12 w12 hh;skip;refine aa (aq ?_);refine aM [3,5,13,14,15,16,17,18,19,20] 3
   (fun v w'=>∃(k c':Nat) (A':Option Addr),k≤s.size∧v=.slice A' k c'∧Hp w [.row A' k c' 3 1 (bC (ints (s.data.toList.take k))),.it b12 s k] w')
   (fun v _=>s.size-lenOf v) ?_ ?_
  ·exact ⟨0,0,none,V5 _,rfl,hh.ck _ _⟩
  ·clear hh;rintro ρ' v w' ⟨k,c',A',hk,rfl,hh⟩;by_cases hlt:k<s.size
   ·obtain ⟨c,hc⟩:=ak (l:=s.data.toList) (k:=k) VX;have h8:=oa hm hc;refine sr ?_;refine xZ hh (i:=1) rfl rfl hc h8 VY ?_;intro w13 hh;simp only [Wd,WH] at hh;skip;refine du ?_;refine aa (ah (cT (ao (ai (aq (sr ?_))))));refine du ?_;refine aI (aa (al (mL (mI ?_))));refine qb ?_;refine se ?_;intro b19 w19 hh;refine bK hh (i:=1) rfl rfl rfl (hh.aC (i:=0) rfl) bj.out aO.out rfl VY rfl VX VX VY ?_;intro A20 c20 w20 hh;simp only [Wd,WH] at hh;replace hh:=hh.sub (WE _ _);refine aL (aA (bF (ai ?_)));rw [ux hc] at hh;refine ⟨⟨k+1,c20,A20,VX,rfl,hh⟩,by show s.size-(k+1)<s.size-k;omega, ?_⟩;exact dy
   ·refine sr ?_;refine yH hh (i:=1) rfl rfl hlt VY ?_;skip;refine du ?_;refine aa (ah (cF (aU (aD (aD (bk (ai (sr (mL (aL (aa (au ?_))))))))))));refine cS ?_;obtain rfl:k=s.size:=VX;rw [Wa VX] at hh;have h1:=hh.at_ (i:=0) rfl;rw [ko hm,df,←hsz];exact ⟨A',c',rfl,h1,hh.below⟩
theorem ur (a b:ByteArray) (g:FuncId) (f:Int→Int→Int) (w:World) (ha:a.size≤100000) (hb:b.size≤100000) [ar Tryz.prog g]
  (hg:∀(x y:Int) (w:World),0≤x→x≤127→0≤y→y≤127→Calls Tryz.prog g #[.int .i64 x,.int .i64 y] w fun e w'=>e=.returned (.int .i64 (f x y))∧Below w.heap.size w w'):
  Calls Tryz.prog 206 #[.string a,.string b,.func (.func g) #[] #[]] w fun e w'=>
   (gQ f a.data.toList b.data.toList=none∧e=.returned (.tuple #[.slice none 0 0,.bool false])∧Below w.heap.size w w')∨
   ∃l,gQ f a.data.toList b.data.toList=some l∧l.length=b.size∧∃A c,e=.returned (.tuple #[.slice A l.length c,.bool true])∧w'.ownsRow w.heap.size 3 1 (.slice A l.length c) l.length (bC l)∧Below w.heap.size w w':=by
 have hh:=Hp.start w;have hsa:=dD a;have hsb:=dD b
 cases hma:ef a.data.toList with
 |false=>
  refine KY ?_;refine sr (aL (aB (aa (sr (mS ?_)))));refine aG (ik b _ hb) ar.out rfl VY ?_;rintro e_ w12 ⟨A12,c12,rfl,hown_,hb_⟩;refine ⟨_,rfl, ?_⟩;replace hh:=hh.aY (x:=.row _ _ _ _ _ _) hb_ hown_;refine aL (aa (ah (sr (mS (mS ?_)))));refine bA bj.out rfl VY ?_;refine br hh (nx a _ VX) rfl ?_;intro w16 hh;rw [hma];refine fI ?_;refine mB ?_;refine gS (gS (gS ?_));refine ic ?_;refine gS ?_;refine eM ?_;refine aa (cT (sr (aL (aB (aa (au (aE ?_)))))));refine Gb ?_;exact .inl ⟨by simp [gQ,hma],rfl,hh.below⟩
 |true=>
  cases hmb:(ef b.data.toList && decide ((b.size:Int)=a.size)) with
  |false=>
   refine KY ?_;refine sr (aL (aB (aa (sr (mS ?_)))));refine aG (ik b _ hb) ar.out rfl VY ?_;rintro e_ w12 ⟨A12,c12,rfl,hown_,hb_⟩;refine ⟨_,rfl, ?_⟩;replace hh:=hh.aY (x:=.row _ _ _ _ _ _) hb_ hown_;refine aL (aa (ah (sr (mS (mS ?_)))));refine bA bj.out rfl VY ?_;refine br hh (nx a _ VX) rfl ?_;intro w16 hh;rw [hma];refine fI ?_;refine mB (gT (mS (gT (mS (gT ?_)))));refine bA bj.out rfl VY ?_;refine aK rfl rfl ?_;refine br hh (lV b _ _ VX) rfl ?_;intro w22 hh;rw [hmb];refine gT ?_;refine fI ?_;refine dE ?_;refine aa (cT (sr (aL (aB (aa (au (aE ?_)))))));refine Gb ?_;have:(ef b.data.toList && decide ((b.data.toList.length:Int)=a.data.toList.length))=false:=by rw [←hsa,←hsb];exact hmb
   exact .inl ⟨by simp only [gQ,hma,this];rfl,rfl,hh.below⟩
  |true=>
   have hmb2:=hmb;simp only [Wl,Wt] at hmb2;have hbl:gQ f a.data.toList b.data.toList=some (List.zipWith f (ints a.data.toList) (ints b.data.toList)):=by
    exact Pm
   have hea:=ko hma;have heb:=ko hmb2.1;have hlab:(ints a.data.toList).length=(ints b.data.toList).length:=by rw [df,df];omega
   have hlb:=df b.data.toList;have hla:=df a.data.toList;have hA:=ik a;have hB:=ik b;rw [hea] at hA;rw [heb] at hB;generalize hia:ints a.data.toList=ia at*;generalize hib:ints b.data.toList=ib at*;have bda:∀(k:Nat) (x:Int),ia[k]?=some x→0≤x∧x≤127:=fun k x h=>Gw (l:=a.data.toList) (by rw [hea];exact h);have bdb:∀(k:Nat) (x:Int),ib[k]?=some x→0≤x∧x≤127:=fun k x h=>Gw (l:=b.data.toList) (by rw [heb];exact h);clear hea heb;refine KY ?_;refine sr (aL (aB (aa (sr (mS ?_)))));refine aG (hB _ hb) ar.out rfl VY ?_;rintro e_ w12 ⟨A12,c12,rfl,hown_,hb_⟩;refine ⟨_,rfl, ?_⟩;replace hh:=hh.aY (x:=.row _ _ _ _ _ _) hb_ hown_;refine aL (aa (ah (sr (mS (mS ?_)))));refine bA bj.out rfl VY ?_;refine br hh (nx a _ VX) rfl ?_;intro w16 hh;rw [hma];refine fI ?_;refine mB (gT (mS (gT (mS (gT ?_)))));refine bA bj.out rfl VY ?_;refine aK rfl rfl ?_;refine br hh (lV b _ _ VX) rfl ?_;intro w22 hh;rw [hmb];refine gT ?_;refine fI ?_;refine dE ?_;refine aa (cF (ao (ai (ah (sr (mS ?_))))));refine aG (hA _ ha) ar.out rfl VY ?_;rintro e_ w26 ⟨A26,c26,rfl,hown_,hb_⟩;refine ⟨_,rfl, ?_⟩
   replace hh:=hh.aY (x:=.row _ _ _ _ _ _) hb_ hown_;refine aF (mI (aa (aq ?_)));refine aM [9,10,28,29,30,31,32,33,34,35,36,37,38,39,40,41,42,43] 28
    (fun i w'=>∃k:Nat,k≤ib.length∧i=.int .i64 k∧Hp w [.row A26 ia.length c26 3 1 (bC ia),.row A12 ib.length c12 3 1 (bC (m8 f ia ib k))] w')
    (fun i _=>ib.length-(intOf i).toNat) ?_ ?_
   ·exact ⟨0,V5 _,rfl,by rw [Lo];exact hh⟩
   ·clear hh hown_ hb_;rintro ρ' i w' ⟨k,hk,rfl,hh⟩;by_cases hlt:k<ib.length
    ·obtain ⟨x,hx⟩:=ak (l:=ia) (k:=k) VX;obtain ⟨y,hy⟩:=ak hlt;have bx:=bda k x hx;have byy:=bdb k y hy;have hx2:=cw hx;have hy2:=cw (Rq (f:=f) hlab hy);have hml:=Mo (f:=f) hlab hk;have hml2:=bV (m8 f ia ib k);obtain ⟨ga,rfl⟩:=hh.cu (i:=0) rfl VX;obtain ⟨gb,rfl⟩:=hh.cu (i:=1) rfl VX;refine sr ?_;refine eH ?_;refine tm ?_;refine jO ?_;refine aI (aI (aa (al (mL (mI ?_)))));refine jh ?_;refine mI (mL (mI ?_));refine tm ?_;refine Jo ?_;refine gM (hg x y _ bx.1 bx.2 byy.1 byy.2) ar.out rfl rfl VY ?_;rintro e_ w41 ⟨rfl,hb_⟩;refine ⟨_,rfl, ?_⟩;replace hh:=hh.ext hb_;refine tm ?_;refine cd hh (i:=1) (vs:=[_]) rfl rfl (cR rfl) rfl aO.out rfl VX rfl ?_;intro ws hh;simp only [Wd,WH] at hh;refine gy ?_;refine a9 (mI (aA (ai ?_)));rw [Wo,MP hlab hx hy] at hh;refine ⟨⟨k+1,VX,rfl,hh⟩,by show _-(k+1)<_-k;omega, ?_⟩;exact dy
    ·refine sr ?_;refine aW (aa (ah (cF (aU (aD (aD (bk (ai (sr (mL (aL (aB (aa (au ?_))))))))))))));refine Gb ?_;obtain rfl:k=ib.length:=VX;rw [Jj hlab] at hh;have h1:=hh.at_ (i:=1) rfl;have hzl:(List.zipWith f ia ib).length=ib.length:=by simp [hlab]
     refine .inr ⟨_,hbl,VX,A12,c12, ?_⟩;rw [hzl];exact ⟨rfl,h1,hh.below⟩
theorem H7 (a b:ByteArray) (g:FuncId) (f:Int→Int→Int) (w:World) (ha:a.size≤100000) (hb:b.size≤100000) [ar Tryz.prog g]
  (hg:∀(x y:Int) (w:World),0≤x→x≤127→0≤y→y≤127→Calls Tryz.prog g #[.int .i64 x,.int .i64 y] w fun e w'=>e=.returned (.int .i64 (f x y))∧Below w.heap.size w w')
  (h:gQ f a.data.toList b.data.toList=none):
  Calls Tryz.prog 206 #[.string a,.string b,.func (.func g) #[] #[]] w fun e w'=>e=.returned (.tuple #[.slice none 0 0,.bool false])∧Below w.heap.size w w':=
 (ur a b g f w ha hb hg).mono fun e w' hq=>by
  rcases hq with hq|⟨l,hl,_⟩
  ·exact hq.2
  ·rw [h] at hl;cases hl
theorem GM (a b:ByteArray) (g:FuncId) (f:Int→Int→Int) (w:World) (ha:a.size≤100000) (hb:b.size≤100000) [ar Tryz.prog g]
  (hg:∀(x y:Int) (w:World),0≤x→x≤127→0≤y→y≤127→Calls Tryz.prog g #[.int .i64 x,.int .i64 y] w fun e w'=>e=.returned (.int .i64 (f x y))∧Below w.heap.size w w')
  {l:List Int} (h:gQ f a.data.toList b.data.toList=some l):
  Calls Tryz.prog 206 #[.string a,.string b,.func (.func g) #[] #[]] w fun e w'=>∃A c,e=.returned (.tuple #[.slice A l.length c,.bool true])∧w'.ownsRow w.heap.size 3 1 (.slice A l.length c) l.length (bC l)∧Below w.heap.size w w':=
 (ur a b g f w ha hb hg).mono fun e w' hq=>by
  rcases hq with ⟨hn,_⟩|⟨l',hl,_,hq⟩
  ·rw [h] at hn;cases hn
  ·rw [h] at hl;injection hl with hl;subst hl;exact hq
theorem HL {f:Int→Int→Int}{a b:List UInt8}{l:List Int} (h:gQ f a b=some l):l.length≤b.length:=by
 unfold gQ at h;split at h
 ·injection h with h;subst h;simp [ints];omega
 ·cases h
theorem tW (x y:Int) (w:World) (h1:0≤x) (h2:x≤127) (h3:0≤y) (h4:y≤127):
  Calls Tryz.prog 207 #[.int .i64 x,.int .i64 y] w fun e w'=>e=.returned (.int .i64 (x+y))∧Below w.heap.size w w':=by
 refine aj (N:=8) (l:=[.int .i64 x,.int .i64 y]) Tryz.func207 rfl rfl (by simp) ?_;refine sr (aI (aa (sr (mI (mI ?_)))));refine a9 (aI (aa (au ?_)));refine cS ?_;exact ⟨rfl,Below.refl _ _⟩
theorem G1 (a b:ByteArray) (w:World) (ha:a.size≤100000) (hb:b.size≤100000):
  Calls Tryz.prog 165 #[.string a,.string b] w fun e w'=>e=.returned (.tuple #[.string (str (mulL a.data.toList b.data.toList).1),.int .i64 (mulL a.data.toList b.data.toList).2])∧Below w.heap.size w w':=by
 have hh:=Hp.start w;have hsb:=dD b
 cases hbo:gQ (· + ·) a.data.toList b.data.toList with
 |none=>
  refine aj (N:=20) (l:=[.string a,.string b]) Tryz.func165 rfl rfl (by simp) ?_;refine sr (aS (aI (aa (sr (mS (mS ?_))))));refine br hh (H7 a b _ _ _ ha hb tW hbo) rfl ?_;intro w11 hh;refine mT ?_;refine du ?_;refine du ?_;refine aL (aB (aa (ah (sr (mB ?_)))));refine fI ?_;refine aa (cT (sr (aS (aI (aa (au (aE ?_)))))));refine Gb ?_;simp only [mulL,hbo];exact ⟨rfl,hh.below⟩
 |some l=>
  have hl:=HL hbo;refine aj (N:=20) (l:=[.string a,.string b]) Tryz.func165 rfl rfl (by simp) ?_;refine sr (aS (aI (aa (sr (mS (mS ?_))))));refine aG (GM a b _ _ _ ha hb tW hbo) ar.out rfl VY ?_;rintro e_ w11 ⟨A11,c11,rfl,hown_,hb_⟩;refine ⟨_,rfl, ?_⟩;replace hh:=hh.aY (x:=.row _ _ _ _ _ _) hb_ hown_;refine mT ?_;refine du ?_;refine du ?_;refine aL (aB (aa (ah (sr (mB ?_)))));refine fI ?_;refine aa (cF (ao (ai (sr (mL ?_)))));refine br hh (B0 _ _ _ _ _ (hh.aC (i:=0) rfl) VX) rfl ?_;intro w17 hh;refine du ?_;refine du ?_;refine aS (aI (aa (au ?_)));refine Gb ?_;simp only [mulL,hbo];exact ⟨trivial,hh.below⟩
def gU (v:Int):Bool:=decide (0≤v) && decide (v≤12)
theorem dx {v:Int}:gU v=true↔0≤v∧v≤12:=by unfold gU;rw [Wl,Wt,Wt]
theorem nY (v:Int) (w:World):Calls Tryz.prog 134 #[.int .i64 v] w fun r w'=>r=.returned (.bool (gU v))∧Below w.heap.size w w':=by
 have hh:=Hp.start w;unfold gU;by_cases h1:0≤v
 ·rw [Wm h1,Bool.true_and];by_cases h2:v≤12
  ·rw [Wm h2];exact N8
  ·rw [Wu h2];exact N8
 ·rw [Wu h1,Bool.false_and];refine aj (N:=9) (l:=[.int .i64 v]) Tryz.func134 rfl rfl (by simp) ?_;refine sr (aB (aa (sr (mI ?_))));refine dJ (mB ?_);refine gS (gS ?_);refine dE ?_;exact vH
def T0 (a:NR):Bool:=decide ((nR a.d).neg=a.neg) && (decide ((nR a.d).bf=a.bf) && decide ((nR a.d).e=a.e))
theorem nQ (a:NR):T0 a=true↔nR a.d=a:=by
 unfold T0;rw [Wl,Wl,Wt,Wt,Wt];constructor
 ·rintro ⟨h1,h2,h3⟩;obtain ⟨s,m,e⟩:=a;generalize nR (NR.d ⟨s,m,e⟩)=b at*;obtain ⟨s',m',e'⟩:=b;simp only at h1 h2 h3;rw [h1,h2,h3]
 ·intro h;rw [h];exact ⟨rfl,rfl,rfl⟩
def jJ (v:Int) (t:TR):Bool:=ef t.m.data.toList && decide ((t.m.size:Int)=v) && (nM t && T0 t.c)
def sF:List TR→Bool
 |[]=>true
 |[_]=>true
 |a::b::l=>iO a.m b.m && sF (b::l)
theorem wj:∀(l:List TR) (p x:TR),sF (l++[p,x])=(sF (l++[p]) && iO p.m x.m)
 |[],p,x=>by show (iO p.m x.m && true)=(true && iO p.m x.m);rw [Bool.and_true,Bool.true_and]
 |[a],p,x=>by
  show (iO a.m p.m && (iO p.m x.m && true))=((iO a.m p.m && true) && iO p.m x.m);rw [Bool.and_true,Bool.and_true]
 |a::b::l,p,x=>by
  show (iO a.m b.m && sF ((b::l)++[p,x]))=((iO a.m b.m && sF ((b::l)++[p])) && iO p.m x.m);rw [wj (b::l) p x,Bool.and_assoc]
theorem Ge:∀{l:List TR}{i:Nat}{p x:TR},sF l=true→l[i]?=some p→l[i+1]?=some x→iO p.m x.m=true
 |[],i,p,x,_,h,_=>by simp at h
 |[a],i,p,x,_,_,h=>by simp at h
 |a::b::l,0,p,x,h,h1,h2=>by
  simp only [YN,XO,Wr,YB] at h1 h2;subst h1 h2;exact (X3.1 h).1
 |a::b::l,i+1,p,x,h,h1,h2=>by
  rw [YB] at h1 h2;exact Ge (X3.1 h).2 h1 h2
theorem uP:∀{l:List TR},sF l=true↔vz l
 |[]=>⟨fun _=>Zi,fun _=>rfl⟩
 |[a]=>⟨fun _=>Zo _ _,fun _=>rfl⟩
 |a::b::l=>by
  show (iO a.m b.m && sF (b::l))=true↔_;rw [Wl,uP (l:=b::l)];constructor
  ·rintro ⟨h1,h2⟩;refine Xu.2 ⟨fun t ht=> ?_,h2⟩
   rcases Wk.1 ht with rfl|ht
   ·exact h1
   ·exact kd h1 ((Xu.1 h2).1 t ht)
  ·intro h;have:=Xu.1 h;exact ⟨this.1 b We,this.2⟩
def okB (v:Int) (ts:List TR):Bool:=ts.all (jJ v) && sF ts
def gF (v:Int) (ts:List TR):Int:=if gU v=false then 1 else if 4096<ts.length then 3 else if okB v ts=true then 0 else 1
theorem Ca {v:Int} (h1:gU v=true) (h2:¬4096<ts.length) (h:okB v ts=false):gF v ts=1:=by
 unfold gF;rw [V3 (by rw [h1];decide),V3 h2,V3 (by rw [h];decide)]
theorem nS {v:Int}{i:Nat}{x:TR} (hx:ts[i]?=some x) (h:jJ v x=false):okB v ts=false:=by
 unfold okB;rw [Zq];refine .inl (Yv.2 fun h2=> ?_);rw [Ww.1 h2 x (V7 hx)] at h
 cases h
theorem AK {v:Int}{i:Nat}{p x:TR} (hp:ts[i]?=some p) (hx:ts[i+1]?=some x) (h:iO p.m x.m=false):okB v ts=false:=by
 unfold okB;rw [Zq];refine .inr (Yv.2 fun h2=> ?_);rw [Ge h2 hp hx] at h
 cases h
theorem y7 (v:Int) (A:Option Addr) (n c:Nat) (ts:List TR) (w:World) (hT:eK w) (hS:Sl w A n 4 (az TR.cells ts)) (hn:n≤1000000) (ho:∀t∈ts,t.c.ok∧t.m.size≤100000):
  Calls Tryz.prog 142 #[.agg #[.int .i64 v,.slice A n c]] w fun r w'=>r=.returned (.int .i64 (gF v ts))∧Below w.heap.size w w':=by
 have hh:=Hp.start w;have hln:=hS.bg TR.len VY;have hfw:=fun w1=>nY v w1
 cases hf:gU v with
 |false=>
  rw [hf] at hfw;rw [show gF v ts=1 by unfold gF;rw [V2 hf]];refine K1 ?_;refine sr ?_;refine cf hh [_,_] ?_;intro b1 w1 hh;refine aI (aa (ah (sr (bE ?_))));refine bB hh 0 ?_;refine br hh (hfw _) rfl ?_;intro w7 hh;refine fI ?_;exact Cu
 |true=>
  rw [hf] at hfw;by_cases h4:4096<n
  ·rw [show gF v ts=3 by unfold gF;rw [V3 (by rw [hf];decide),V2 VX]];refine K1 ?_;refine sr ?_;refine cf hh [_,_] ?_;intro b1 w1 hh;refine aI (aa (ah (sr (bE ?_))));refine bB hh 0 ?_;refine br hh (hfw _) rfl ?_;intro w7 hh;refine fI ?_;exact Tp
  ·have hbad:=fun h=>Ca (v:=v) (ts:=ts) hf VX h;refine K1 ?_;refine sr ?_;refine cf hh [_,_] ?_;intro b1 w1 hh;refine aI (aa (ah (sr (bE ?_))));refine bB hh 0 ?_;refine br hh (hfw _) rfl ?_;intro w7 hh;refine fI ?_;refine Bw ?_;refine bB hh 0 ?_;refine aF ?_;refine bM (aa (cF (ao (ai (ah (sr (bE ?_)))))));refine bB hh 0 ?_;refine aF (mI (aa (aq ?_)));refine aM [2,3,4,16,17,18,19,20,21,22,23,24,25,26,27,28,29,30,31,32,33,34,35,36,37,38,39,40,41,42,43,44,45,46,47,48,49,50,51,52,53,54,55,56,57] 16
    (fun x w'=>∃i:Nat,i≤n∧x=.int .i64 i∧(ts.take i).all (jJ v)=true∧sF (ts.take i)=true∧Hp w [.blk b1 24 [.int .i64 v,.slice A n c] (0,0)] w')
    (fun x _=>n-(intOf x).toNat) ?_ ?_
   ·exact ⟨0,V5 _,rfl,rfl,rfl,hh⟩
   ·clear hh;rintro ρ' x_ w' ⟨i,hi,rfl,hall,hris,hh⟩;by_cases hlt:i<n
    ·obtain ⟨x,hx⟩:=ak (l:=ts) (k:=i) VX;obtain ⟨ad,rfl,hr⟩:=hS.at_ VX;obtain ⟨hxo,hxm⟩:=ho x (V7 hx);have hmay:=fun w1=>lV x.m v w1 VX;have hsg:=fun w1=>ix x.c w1;have hfo:=fun w1 hT1=>eY x.c w1 hT1 (by have:=hxo.1;omega) (by have:=hxo.2.1;omega) (by have:=hxo.2.2;omega);have hzz:x.c.i.sign=0↔x.c.d=0:=by
      exact Nk
     cases hm:ef x.m.data.toList && decide ((x.m.size:Int)=v) with
     |false=>
      rw [hm] at hmay;rw [hbad (nS hx (by unfold jJ;rw [hm];rfl))];refine sr ?_;refine eH ?_;refine bY ?_;refine kZ ?_;refine bQ hh ?_;intro b4 w4 hh;refine aI ?_;refine bR hh 0 [_,_,_,_] ?_;intro ws hh;replace hh:Hp _ (.blk _ _ [_,_,_,_] _::_) _:=hh;refine aa (ah ?_)
      refine cH [] [] zL1 33 zL0 [(32,53),(31,52),(30,51),(29,50),(28,49),(27,48),(26,47),(25,46),(24,45),(23,44),(22,43),(21,42),(20,41),(19,40),(18,39),(17,38),(16,37),(15,36),(14,35),(13,34),(12,33),(11,32),(10,31),(9,30),(8,29),(7,28),(6,27),(5,26),(4,25),(3,24),(2,23),(1,22),(0,21)] hh mixed VZ da rfl (by repeat (first|exact cj|refine bP ?_|refine cg ?_)) ?_
      refine cP ?_;refine dL 0 ?_;refine cP ?_;refine dL 1 ?_;refine dC (fun _ hj=>hmay _) ?_;refine vM ?_;refine jV ?_;refine dS (dS (dS (dS ?_)));refine Gj ?_;exact OU
     |true=>
      rw [hm] at hmay;by_cases hz:x.c.d=0
      ·have hs:=hzz.2 hz;rw [hbad (nS hx (by unfold jJ nM;rw [hm,Wm hz];rfl))];refine sr ?_;refine eH ?_;refine bY ?_;refine kZ ?_;refine bQ hh ?_;intro b4 w4 hh;refine aI ?_;refine bR hh 0 [_,_,_,_] ?_;intro ws hh;replace hh:Hp _ (.blk _ _ [_,_,_,_] _::_) _:=hh;refine aa (ah ?_)
       refine cH [] [] zL1 33 zL0 [(32,53),(31,52),(30,51),(29,50),(28,49),(27,48),(26,47),(25,46),(24,45),(23,44),(22,43),(21,42),(20,41),(19,40),(18,39),(17,38),(16,37),(15,36),(14,35),(13,34),(12,33),(11,32),(10,31),(9,30),(8,29),(7,28),(6,27),(5,26),(4,25),(3,24),(2,23),(1,22),(0,21)] hh mixed VZ da rfl (by repeat (first|exact cj|refine bP ?_|refine cg ?_)) ?_
       refine cP ?_;refine dL 0 ?_;refine cP ?_;refine dL 1 ?_;refine dC (fun _ hj=>hmay _) ?_;refine vM ?_;refine jV ?_;refine dG (cP ?_);refine dG (ee 0 [_,_,_] ?_);refine At ?_;refine dG (sy ?_);refine H9 ?_;exact OU
      ·have hs:¬x.c.i.sign=0:=fun h=>hz (hzz.1 h);by_cases hnf:nR x.c.d=x.c
       ·have hgood:jJ v x=true:=by unfold jJ nM;rw [hm,Wu hz,(nQ x.c).2 hnf];rfl
        have hall2:(ts.take (i+1)).all (jJ v)=true:=by rw [aw hx,List.all_append,hall];simp [hgood]
        by_cases h0:i=0
        ·refine sr ?_;refine eH ?_;refine bY ?_;refine kZ ?_;refine bQ hh ?_;intro b4 w4 hh;refine aI ?_;refine bR hh 0 [_,_,_,_] ?_;intro ws hh;replace hh:Hp _ (.blk _ _ [_,_,_,_] _::_) _:=hh;refine aa (ah ?_)
         refine cH [] [] zL1 33 zL0 [(32,53),(31,52),(30,51),(29,50),(28,49),(27,48),(26,47),(25,46),(24,45),(23,44),(22,43),(21,42),(20,41),(19,40),(18,39),(17,38),(16,37),(15,36),(14,35),(13,34),(12,33),(11,32),(10,31),(9,30),(8,29),(7,28),(6,27),(5,26),(4,25),(3,24),(2,23),(1,22),(0,21)] hh mixed VZ da rfl (by repeat (first|exact cj|refine bP ?_|refine cg ?_)) ?_
         refine cP ?_;refine dL 0 ?_;refine cP ?_;refine dL 1 ?_;refine dC (fun _ hj=>hmay _) ?_;refine vM ?_;refine jV ?_;refine dG (cP ?_);refine dG (ee 0 [_,_,_] ?_);refine At ?_;refine dG (sy ?_);refine H9 ?_;refine jV ?_;refine dG (cP ?_);refine dG (ee 0 [_,_,_] ?_);refine Gx ?_;refine dG (cP ?_);refine dG (ee 0 [_,_,_] ?_);refine Io ?_;refine H9 ?_;refine jV ?_;refine dG (cM ?_);refine dG (Hg ?_);refine dG (jV ?_);refine dS (dS (dS (dS ?_)));refine nP (i:=28) rfl (fun ρ1 w1 hj hR=>(show ρ1 44=Value.bool _ from hR.2.2.1)) VY ?_;refine dS (dS (dS (dS ?_)));refine aJ ?_;intro f W hJ hV _;have hb_8:=hJ.bl;obtain ⟨v53,v52,v51,v50,v49,v48,v47,v46,v45,v44,v43,v42,v41,v40,v39,v38,v37,v36,v35,v34,v33,v32,v31,v30,v29,v28,v27,v26,v25,v24,v23,v22,v21,_⟩:=hV;replace hh:=hJ.hp;refine ES ?_;dsimp only [bH];clear hJ;refine gS (gT ?_)
         (first|refine eM ?_|refine dE ?_)
         refine dE ?_;refine An ?_;refine a9 (mI (aA (ai ?_)));exact OD
        ·obtain ⟨q,hq⟩:∃q,i=q+1:=⟨i-1,VX⟩;obtain ⟨p,hp⟩:=ak (l:=ts) (k:=q) VX
         cases hlp:iO p.m x.m with
         |false=>
          rw [hbad (AK hp (hq ▸ hx) hlp)];have hge:(!(Op.bytesLess p.m.toList x.m.toList))=true:=by rw [jQ,hlp];rfl
          refine sr ?_;refine eH ?_;refine bY ?_;refine kZ ?_;refine bQ hh ?_;intro b4 w4 hh;refine aI ?_;refine bR hh 0 [_,_,_,_] ?_;intro ws hh;replace hh:Hp _ (.blk _ _ [_,_,_,_] _::_) _:=hh;refine aa (ah ?_)
          refine cH [] [] zL1 33 zL0 [(32,53),(31,52),(30,51),(29,50),(28,49),(27,48),(26,47),(25,46),(24,45),(23,44),(22,43),(21,42),(20,41),(19,40),(18,39),(17,38),(16,37),(15,36),(14,35),(13,34),(12,33),(11,32),(10,31),(9,30),(8,29),(7,28),(6,27),(5,26),(4,25),(3,24),(2,23),(1,22),(0,21)] hh mixed VZ da rfl (by repeat (first|exact cj|refine bP ?_|refine cg ?_)) ?_
          refine cP ?_;refine dL 0 ?_;refine cP ?_;refine dL 1 ?_;refine dC (fun _ hj=>hmay _) ?_;refine vM ?_;refine jV ?_;refine dG (cP ?_);refine dG (ee 0 [_,_,_] ?_);refine At ?_;refine dG (sy ?_);refine H9 ?_;refine jV ?_;refine dG (cP ?_);refine dG (ee 0 [_,_,_] ?_);refine Gx ?_;refine dG (cP ?_);refine dG (ee 0 [_,_,_] ?_);refine Io ?_;refine H9 ?_;refine jV ?_;refine dG (cM ?_);refine dG (Hg ?_);refine dG (jV ?_);refine dG (cP ?_);refine dG (dL 1 ?_);refine dG (cM ?_);refine dG (pE ?_);refine dG (iL (q) ?_);refine dG (nJ ?_);refine FZ ?_;refine dG (cP ?_);refine dG (dL 0 ?_);refine aJ ?_;intro f W hJ hV _;have hb_8:=hJ.bl;obtain ⟨v53,v52,v51,v50,v49,v48,v47,v46,v45,v44,v43,v42,v41,v40,v39,v38,v37,v36,v35,v34,v33,v32,v31,v30,v29,v28,v27,v26,v25,v24,v23,v22,v21,_⟩:=hV;replace hh:=hJ.hp;refine ES ?_;dsimp only [bH];clear hJ;refine gT ?_;refine nK rfl rfl VY ?_;refine gT ?_
          (first|refine eM ?_|refine dE ?_)
          refine dE ?_;exact Od
         |true=>
          have hge:(!(Op.bytesLess p.m.toList x.m.toList))=false:=by rw [jQ,hlp];rfl
          refine sr ?_;refine eH ?_;refine bY ?_;refine kZ ?_;refine bQ hh ?_;intro b4 w4 hh;refine aI ?_;refine bR hh 0 [_,_,_,_] ?_;intro ws hh;replace hh:Hp _ (.blk _ _ [_,_,_,_] _::_) _:=hh;refine aa (ah ?_)
          refine cH [] [] zL1 33 zL0 [(32,53),(31,52),(30,51),(29,50),(28,49),(27,48),(26,47),(25,46),(24,45),(23,44),(22,43),(21,42),(20,41),(19,40),(18,39),(17,38),(16,37),(15,36),(14,35),(13,34),(12,33),(11,32),(10,31),(9,30),(8,29),(7,28),(6,27),(5,26),(4,25),(3,24),(2,23),(1,22),(0,21)] hh mixed VZ da rfl (by repeat (first|exact cj|refine bP ?_|refine cg ?_)) ?_
          refine cP ?_;refine dL 0 ?_;refine cP ?_;refine dL 1 ?_;refine dC (fun _ hj=>hmay _) ?_;refine vM ?_;refine jV ?_;refine dG (cP ?_);refine dG (ee 0 [_,_,_] ?_);refine At ?_;refine dG (sy ?_);refine H9 ?_;refine jV ?_;refine dG (cP ?_);refine dG (ee 0 [_,_,_] ?_);refine Gx ?_;refine dG (cP ?_);refine dG (ee 0 [_,_,_] ?_);refine Io ?_;refine H9 ?_;refine jV ?_;refine dG (cM ?_);refine dG (Hg ?_);refine dG (jV ?_);refine dG (cP ?_);refine dG (dL 1 ?_);refine dG (cM ?_);refine dG (pE ?_);refine dG (iL (q) ?_);refine dG (nJ ?_);refine FZ ?_;refine dG (cP ?_);refine dG (dL 0 ?_);refine aJ ?_;intro f W hJ hV _;have hb_8:=hJ.bl;obtain ⟨v53,v52,v51,v50,v49,v48,v47,v46,v45,v44,v43,v42,v41,v40,v39,v38,v37,v36,v35,v34,v33,v32,v31,v30,v29,v28,v27,v26,v25,v24,v23,v22,v21,_⟩:=hV;replace hh:=hJ.hp;refine ES ?_;dsimp only [bH];clear hJ;refine gT ?_;refine nK rfl rfl VY ?_;refine gT ?_
          (first|refine eM ?_|refine dE ?_)
          refine dE ?_;refine aa ?_;rw [hge];refine cF (ao (bF (ai (al ?_))));refine a9 (mI (aA (ai ?_)));exact Pt
       ·rw [hbad (nS hx (by unfold jJ nM;rw [hm,Wu hz,Yv.2 (fun h=>hnf ((nQ x.c).1 h))];rfl))];refine sr ?_;refine eH ?_;refine bY ?_;refine kZ ?_;refine bQ hh ?_;intro b4 w4 hh;refine aI ?_;refine bR hh 0 [_,_,_,_] ?_;intro ws hh;replace hh:Hp _ (.blk _ _ [_,_,_,_] _::_) _:=hh;refine aa (ah ?_)
        refine cH [] [] zL1 33 zL0 [(32,53),(31,52),(30,51),(29,50),(28,49),(27,48),(26,47),(25,46),(24,45),(23,44),(22,43),(21,42),(20,41),(19,40),(18,39),(17,38),(16,37),(15,36),(14,35),(13,34),(12,33),(11,32),(10,31),(9,30),(8,29),(7,28),(6,27),(5,26),(4,25),(3,24),(2,23),(1,22),(0,21)] hh mixed VZ da rfl (by repeat (first|exact cj|refine bP ?_|refine cg ?_)) ?_
        refine cP ?_;refine dL 0 ?_;refine cP ?_;refine dL 1 ?_;refine dC (fun _ hj=>hmay _) ?_;refine vM ?_;refine jV ?_;refine dG (cP ?_);refine dG (ee 0 [_,_,_] ?_);refine At ?_;refine dG (sy ?_);refine H9 ?_;refine jV ?_;refine dG (cP ?_);refine dG (ee 0 [_,_,_] ?_);refine Gx ?_;refine dG (cP ?_);refine dG (ee 0 [_,_,_] ?_);refine yi (i:=18) rfl (fun ρ1 w1 hj hR=>(show ρ1 33=Value.bool _ from hR.2.2.1)) (fun ρ1 w1 hj hR=>F5 (show ρ1 36=Value.agg (List.toArray _) from hR.1) (show ρ1 38=Value.agg (List.toArray _) from hR.2.1) (by assumption)) ?_;refine H9 ?_;exact UN
    ·rw [Wa VX] at hall hris;rw [show gF v ts=0 by unfold gF okB;rw [V3 (by rw [hf];decide),V3 VX,hall,hris];rfl];refine sr ?_;refine Fk ?_;refine cS ?_;exact ⟨rfl,hh.below⟩
def gg (v:Int) (t:TR):Bool:=ef t.m.data.toList && decide ((t.m.size:Int)=v)
theorem Bq (z:TR) (v:Int) (b:Nat) (w:World) (hp:w.cell? ⟨b,0,none⟩=some (.int .i64 v)) (hz:z.m.size≤100000):Calls Tryz.prog 158 #[.agg #[.string z.m,.bool z.c.neg,.string z.c.bf,.int .i64 z.c.e],.pointer (some ⟨b,0,none⟩)] w fun r w'=>r=.returned (.bool (!gg v z))∧Below w.heap.size w w':=by
 have hh:=Hp.start w;have hmay:=fun w1=>lV z.m v w1 VX;unfold gg;refine aj (N:=9) (l:=[.agg #[.string z.m,.bool z.c.neg,.string z.c.bf,.int .i64 z.c.e],.pointer (some ⟨b,0,none⟩)]) Tryz.func158 rfl rfl (by simp) ?_;refine sr ?_;refine cf hh [_,_,_,_] ?_;intro b2 w2 hh;refine aB (aa (sr (bE ?_)));refine bB hh 0 ?_;refine bX aO.out rfl (cx hh.below hp) VY ?_;refine br hh (hmay _) rfl ?_;intro w7 hh
 cases ef z.m.data.toList && decide ((z.m.size:Int)=v) with
 |false=>
  refine fI ?_;exact vH
 |true=>
  refine fI ?_;exact vH
theorem vL (A:Option Addr) (n c:Nat) (l:List TR) (v:Int) (b:Nat) (w:World) (hS:Sl w A n 4 (az TR.cells l)) (hn:n≤1000000) (hp:w.cell? ⟨b,0,none⟩=some (.int .i64 v)) (hz:∀t∈l,t.m.size≤100000):
  Calls Tryz.prog 157 #[.slice A n c,.func (.func 158) #[] #[.pointer (some ⟨b,0,none⟩)]] w fun r w'=>r=.returned (.bool (l.any fun t=> !gg v t))∧Below w.heap.size w w':=
 DU A n c l 158 [.pointer (some ⟨b,0,none⟩)] (fun t=> !gg v t) w hS hn fun z w1 hz2 hb=>Bq z v b w1 (cx hb hp) (hz z hz2)
def qB (v:Int) (l:List TR):Int:=if gU v=false∨(l.any fun t=> !gg v t)=true then 1 else if 65536<l.length then 3 else fW l
theorem mP (v:Int) (A:Option Addr) (n c:Nat) (l:List TR) (k:Nat) (w:World) (hT:eK w) (hS:Sl w A n 4 (az TR.cells l)) (hn:n≤1000000) (hk:k≤2999980) (ho:jc k l) (hz:∀t∈l,t.m.size≤100000):
  Calls Tryz.prog 72 #[.int .i64 v,.slice A n c] w fun r w'=>∃g:PX,dN (qB v l) v (aH l) g∧r=.returned (.tuple #[.agg #[.int .i64 g.v,.slice g.A g.n g.c],.int .i64 (qB v l)])∧Hp w [g.row] w':=by
 have hh:=Hp.start w;have hln:=hS.bg TR.len VY;have hfw:=fun w1=>nY v w1;have han:=fun b w1 hb hp=>vL A n c l v b w1 (hS.ext hb) hn hp hz
 cases hf:gU v with
 |false=>
  rw [hf] at hfw;rw [show qB v l=1 by unfold qB;rw [V2 (.inl hf)]];refine Ft ?_;refine sr ?_;refine cf hh [_] ?_;intro b2 w2 hh;refine bQ hh ?_;intro b4 w4 hh;refine aI (aa (ah (sr ?_)));refine bB hh 1 ?_;refine br hh (hfw _) rfl ?_;intro w7 hh;refine fI ?_;refine mB ?_;refine gS (gS ?_);refine ic ?_;refine eM ?_;refine aa (cT (sr ?_));exact Lz
 |true=>
  rw [hf] at hfw
  cases ha:l.any fun t=> !gg v t with
  |true=>
   rw [ha] at han;rw [show qB v l=1 by unfold qB;rw [V2 (.inr ha)]];refine Ft ?_;refine sr ?_;refine cf hh [_] ?_;intro b2 w2 hh;refine bQ hh ?_;intro b4 w4 hh;refine aI (aa (ah (sr ?_)));refine bB hh 1 ?_;refine br hh (hfw _) rfl ?_;intro w7 hh;refine fI ?_;refine mB (gT (mL (gT ?_)));refine wW ?_;refine aK rfl rfl ?_;refine br hh (han _ _ hh.below (hh.eC (i:=1) (o:=0) rfl rfl)) rfl ?_;intro w12 hh;refine dE ?_;refine aa (cT (sr ?_));exact Lz
  |false=>
   rw [ha] at han;have e1:qB v l=if 65536<l.length then 3 else fW l:=by unfold qB;rw [V3 (by rw [hf,ha];decide)]
   by_cases h6:65536<n
   ·rw [e1,V2 VX];refine Ft ?_;refine sr ?_;refine cf hh [_] ?_;intro b2 w2 hh;refine bQ hh ?_;intro b4 w4 hh;refine aI (aa (ah (sr ?_)));refine bB hh 1 ?_;refine br hh (hfw _) rfl ?_;intro w7 hh;refine fI ?_;refine mB (gT (mL (gT ?_)));refine wW ?_;refine aK rfl rfl ?_;refine br hh (han _ _ hh.below (hh.eC (i:=1) (o:=0) rfl rfl)) rfl ?_;intro w12 hh;refine dE ?_;refine aa (cF (ao (ai (ah (sr (mL (aF ?_)))))));refine bM (aa (cT (sr ?_)));exact Lz
   ·rw [e1,V3 VX];refine Ft ?_;refine sr ?_;refine cf hh [_] ?_;intro b2 w2 hh;refine bQ hh ?_;intro b4 w4 hh;refine aI (aa (ah (sr ?_)));refine bB hh 1 ?_;refine br hh (hfw _) rfl ?_;intro w7 hh;refine fI ?_;refine mB (gT (mL (gT ?_)));refine wW ?_;refine aK rfl rfl ?_;refine br hh (han _ _ hh.below (hh.eC (i:=1) (o:=0) rfl rfl)) rfl ?_;intro w12 hh;refine dE ?_;refine aa (cF (ao (ai (ah (sr (mL (aF ?_)))))));refine bM (aa (cF (ao (ai (ah ?_)))));refine kg [] [0,0,2,7,15,15,63,127] 3 [[(2,none)],[(1,none)],[(20,some 1)]] [(2,21),(1,20),(0,19)] [([],4,[(2,21),(1,20),(0,19)])] hh mixed VZ VZ VY ?_;refine dL 1 ?_;refine dI ?_;refine aN (i:=2) (pV hh.sz 96 n 4 (az TR.cells l)) (pV.ext) ?_ ?_
    ·intro ρ1 w1 hj hR;exact bh rfl (aP ar.out (av (show ρ1 20=Value.slice _ _ _ from hR.1) a6)) (mg A n c l w1 (hS.ext hj.hp.below) hn) (fun _ _ ⟨A,c,hq,ho,hb⟩=>⟨_,hq,hb,A,c,rfl,pq ho hj.bl.size⟩)
    refine aJ ?_;intro p_ hp_;simp only [Wk,YX,or_false] at hp_
    rcases hp_ with rfl
    intro f W hJ hV;have hb_5:=hJ.bl;obtain ⟨v21,v20,v19,_⟩:=hV;simp only [lE];have e19:f 0=_:=v19;rw [e19];have e20:f 1=_:=v20;rw [e20];obtain ⟨A21,c21,e21,o21⟩:pV _ _ _ _ _ (f 2) W:=v21;rw [e21];replace hh:=JJ.Dc hh hJ.hp o21;clear o21;clear e19 e20 e21 hJ;refine aG (k5 v A21 n c21 l k _ hT hh hln VX VX ho) ar.out rfl VY ?_;rintro e_ w22 ⟨g,og,rfl,hh⟩;refine ⟨_,rfl, ?_⟩;refine fk ?_;refine dm (i:=4) (by repeat (first|exact cj|refine bP ?_|refine cg ?_|refine np_scope ?_)) rfl VZ VZ VZ (fun _=>fT (show _=Value.tuple (List.toArray _) from rfl) rfl) VY ?_;refine dm (i:=5) (by repeat (first|exact cj|refine bP ?_|refine cg ?_|refine np_scope ?_)) rfl VZ VZ VZ (fun _=>fT (show _=Value.tuple (List.toArray _) from rfl) rfl) VY ?_;refine j3 6 VY VZ VY VZ VZ ?_;exact Iy
def PX.cells (g:PX):List Value:=[.int .i64 g.v,.slice g.A g.n g.c]
theorem PX.len (g:PX):(PX.cells g).length=2:=rfl
structure PX.jX (g:PX) (k:Nat):Prop where
 n:g.n≤1000000
 cap:g.n≤g.c
 ok:jc k g.ts
 sz:∀t∈g.ts,t.m.size≤100000
def PX.e (g:PX):Int:=gF g.v g.ts
theorem n9 (g:PX) (k:Nat) (w:World) (hT:eK w) (h:g.at_ w) (hl:g.jX k):
  Calls Tryz.prog 142 #[.agg #[.int .i64 g.v,.slice g.A g.n g.c]] w fun r w'=>r=.returned (.int .i64 g.e)∧Below w.heap.size w w':=
 y7 g.v g.A g.n g.c g.ts w hT h hl.n fun t ht=>⟨(hl.ok t ht).1,hl.sz t ht⟩
def ub (ps:List PX):Bool:=ps.any fun g=>decide (g.v≠(ps.map PX.v).headD 0)
def ff (ps:List PX):Int:=match ps.find? (fun g=>decide (g.e≠0)) with|some g=>g.e|none=>if ps.length=0∨ub ps=true then 1 else 0
theorem CJ (L:Option Addr) (n c:Nat) (ps:List PX) (f:PX) (p:Addr) (w:World) (hL:Sl w L n 2 (az PX.cells ps)) (hp:w.cell? p=some (.slice L n c)) (hn:0<n):
  Calls Tryz.prog 160 #[.agg #[.int .i64 f.v,.slice f.A f.n f.c],.pointer (some p)] w fun r w'=>r=.returned (.bool (decide (f.v≠(ps.map PX.v).headD 0)))∧Below w.heap.size w w':=by
 have hh:=Hp.start w;have hln:=hL.bg PX.len VY;obtain ⟨g,ps,rfl⟩:∃g l,ps=g::l:=by
  cases ps with
  |nil=>exact absurd hln (by show ¬0=n;omega)
  |cons g l=>exact ⟨g,l,rfl⟩
 obtain ⟨ad,rfl,hr⟩:=hL.at_ hn;have hd:(((g::ps).map PX.v).headD 0)=g.v:=rfl;rw [hd];have h0:(g::ps)[0]?=some g:=rfl;by_cases hg:f.v=g.v
 ·refine aj (N:=11) (l:=[.agg #[.int .i64 f.v,.slice f.A f.n f.c],.pointer (some p)]) Tryz.func160 rfl rfl (by simp) ?_;refine sr ?_;refine cf hh [_,_] ?_;intro b2 w2 hh;refine aB (aa (ah ?_));refine PA ?_;refine cP ?_;refine dL 0 ?_;refine mO (fun _ hj=>(hj.hp.below.cell (mq hp)).trans hp) ?_;refine bm (i:=3) (fun ρ1 w1 hj hR=>dv bj.out aO.size (show ρ1 6=Value.slice _ _ _ from hR.1) rfl VX VX) ?_;refine nJ ?_;refine mO (fun _ hj=>cx hj.hp.below (((hr.recAt PX.len h0)) 0 _ rfl)) ?_;refine aJ ?_;intro f W hJ hV;have hb_1:=hJ.bl;obtain ⟨v9,v8,v7,v6,v5,v4,_⟩:=hV;replace hh:=hJ.hp;refine aR (a8 (ae v9 (ae v8 (ae v7 (ae v6 (ae v5 (ae v4 aQ))))))) ?_;dsimp only [bH];clear hJ;exact Ow
 ·refine aj (N:=11) (l:=[.agg #[.int .i64 f.v,.slice f.A f.n f.c],.pointer (some p)]) Tryz.func160 rfl rfl (by simp) ?_;refine sr ?_;refine cf hh [_,_] ?_;intro b2 w2 hh;refine aB (aa (ah ?_));refine PA ?_;refine cP ?_;refine dL 0 ?_;refine mO (fun _ hj=>(hj.hp.below.cell (mq hp)).trans hp) ?_;refine bm (i:=3) (fun ρ1 w1 hj hR=>dv bj.out aO.size (show ρ1 6=Value.slice _ _ _ from hR.1) rfl VX VX) ?_;refine nJ ?_;refine mO (fun _ hj=>cx hj.hp.below (((hr.recAt PX.len h0)) 0 _ rfl)) ?_;refine aJ ?_;intro f W hJ hV;have hb_1:=hJ.bl;obtain ⟨v9,v8,v7,v6,v5,v4,_⟩:=hV;replace hh:=hJ.hp;refine aR (a8 (ae v9 (ae v8 (ae v7 (ae v6 (ae v5 (ae v4 aQ))))))) ?_;dsimp only [bH];clear hJ;exact PM
theorem DT (A:Option Addr) (n c:Nat) (l:List PX) (g:FuncId) (cap:List Value) (p:PX→Bool) (w:World) (hS:Sl w A n 2 (az PX.cells l)) (hn:n≤1000000) [ar Tryz.prog g]
  (hg:∀(z:PX) (w1:World),z∈l→Below w.heap.size w w1→Calls Tryz.prog g (.agg #[.int .i64 z.v,.slice z.A z.n z.c]::cap).toArray w1 fun r w'=>r=.returned (.bool (p z))∧Below w1.heap.size w1 w'):
  Calls Tryz.prog 204 #[.slice A n c,.func (.func g) #[] cap.toArray] w fun r w'=>∃v,r=.returned (.int .i64 v)∧(0≤v↔l.any p=true)∧Below w.heap.size w w':=by
 have hh:=Hp.start w;have hln:=hS.bg PX.len VY;refine aj (N:=19) (l:=[.slice A n c,.func (.func g) #[] cap.toArray]) Tryz.func204 rfl rfl (by simp) ?_;refine Bg ?_;refine aM [4,5,8,9,10,11,12,13,14,15,16,17,18] 8
  (fun v w'=>∃i:Nat,i≤n∧v=.int .i64 i∧(l.take i).any p=false∧Hp w [] w')
  (fun v _=>n-(intOf v).toNat) ?_ ?_
 ·exact ⟨0,V5 _,rfl,rfl,hh⟩
 ·clear hh;rintro ρ' v w' ⟨i,hi,rfl,hall,hh⟩;by_cases hlt:i<n
  ·obtain ⟨z,hz⟩:=ak (l:=l) (k:=i) VX;obtain ⟨ad,rfl,hr⟩:=hS.at_ VX;have hc:=fun w1=>hg z w1 (V7 hz)
   cases gz:p z with
   |true=>
    rw [gz] at hc;refine sr ?_;refine rN ?_;refine jh ?_;refine mL (mI ?_);refine bY ?_;refine cA (vs:=[_,_]) aO.out rfl ((hr.ext hh.below).recAt PX.len hz) rfl VY ?_;exact Qv
   |false=>
    rw [gz] at hc;refine sr ?_;refine rN ?_;refine jh ?_;refine mL (mI ?_);refine bY ?_;refine cA (vs:=[_,_]) aO.out rfl ((hr.ext hh.below).recAt PX.len hz) rfl VY ?_;exact FO
  ·exact QZ
theorem ui (A:Option Addr) (n c:Nat) (l:List PX) (g:FuncId) (cap:List Value) (p:PX→Bool) (w:World) (hS:Sl w A n 2 (az PX.cells l)) (hn:n≤1000000) [ar Tryz.prog g]
  (hg:∀(z:PX) (w1:World),z∈l→Below w.heap.size w w1→Calls Tryz.prog g (.agg #[.int .i64 z.v,.slice z.A z.n z.c]::cap).toArray w1 fun r w'=>r=.returned (.bool (p z))∧Below w1.heap.size w1 w'):
  Calls Tryz.prog 154 #[.slice A n c,.func (.func g) #[] cap.toArray] w fun r w'=>r=.returned (.bool (l.any p))∧Below w.heap.size w w':=by
 have hh:=Hp.start w;refine aj (N:=9) (l:=[.slice A n c,.func (.func g) #[] cap.toArray]) Tryz.func154 rfl rfl (by simp) ?_;refine sr (aB (aa (sr (mL ?_))));refine jh ?_;refine aG (DT A n c l g cap p _ (hS.ext hh.below) hn hg) ar.out rfl VY ?_;exact Rw
theorem sf (L:Option Addr) (n c:Nat) (ps:List PX) (k:Nat) (w:World) (hT:eK w) (hL:Sl w L n 2 (az PX.cells ps)) (hn:n≤1000000) (hf:∀g∈ps,g.at_ w) (hl:∀g∈ps,g.jX k):
  Calls Tryz.prog 74 #[.slice L n c] w fun r w'=>r=.returned (.int .i64 (ff ps))∧Below w.heap.size w w':=by
 have hh:=Hp.start w;have hln:=hL.bg PX.len VY;refine aj (N:=26) (l:=[.slice L n c]) Tryz.func74 rfl rfl (by simp) ?_;refine sr ?_;refine cf hh [_] ?_;intro b1 w1 hh;refine aI (aa (ah (sr ?_)));refine bB hh 0 ?_;refine aF (mI (aa (aq ?_)));refine aM [2,4,5,8,9,10,11,12,13,14,15,16,17] 8
  (fun v w'=>∃i:Nat,i≤n∧v=.int .i64 i∧(ps.take i).any (fun g=>decide (g.e≠0))=false∧Hp w [.blk b1 104 [.slice L n c] (0,0)] w')
  (fun v _=>n-(intOf v).toNat) ?_ ?_
 ·exact ⟨0,V5 _,rfl,rfl,hh⟩
 ·clear hh;rintro ρ' v w' ⟨i,hi,rfl,hall,hh⟩;by_cases hlt:i<n
  ·obtain ⟨g,hx⟩:=ak (l:=ps) (k:=i) VX;have hmem:=V7 hx;have hc:=fun w1 hT1 hb=>n9 g k w1 hT1 ((hf g hmem).ext hb) (hl g hmem);obtain ⟨ad,rfl,hr⟩:=hL.at_ VX;by_cases he:g.e=0
   ·refine sr ?_;refine dZ ?_;refine bY ?_;refine Ac ?_;refine bQ hh ?_;intro b4 w4 hh;refine bR hh 0 [_,_] ?_;intro ws hh;replace hh:Hp _ (.blk _ _ [_,_] _::_) _:=hh;refine aa (sr ?_);refine cn hh 0 [_,_] ?_;refine br hh (hc _ (hT.hp hh) hh.below) rfl ?_;intro w13 hh;refine aI (aa (sr (mI ?_)));refine cJ (aa (cF (ao (bF (ai (al ?_))))));refine a9 (mI (aA (ai ?_)));replace hh:=hh.sub (V6 _ (V4 _ Wq));exact Ps
   ·refine sr ?_;refine dZ ?_;refine bY ?_;refine Ac ?_;refine bQ hh ?_;intro b4 w4 hh;refine bR hh 0 [_,_] ?_;intro ws hh;replace hh:Hp _ (.blk _ _ [_,_] _::_) _:=hh;refine aa (sr ?_);refine cn hh 0 [_,_] ?_;refine br hh (hc _ (hT.hp hh) hh.below) rfl ?_;intro w13 hh;exact SP
  ·rw [Wa VX] at hall;have hlk:ff ps=if ps.length=0∨ub ps=true then 1 else 0:=by unfold ff;rw [ju hall]
   rw [hlk];by_cases h0:n=0
   ·refine sr ?_;refine Il ?_;refine bB hh 0 ?_;refine aF ?_;refine cB (mB ?_);refine gS (gS ?_);refine ic ?_;refine eM ?_;refine BV ?_;exact Js
   ·have hcell:w'.cell? ⟨b1,0,none⟩=some (.slice L n c):=hh.eC (i:=0) rfl rfl;have ho:=fun w1 hb=>ui L n c ps 160 [.pointer (some ⟨b1,0,none⟩)] (fun g=>decide (g.v≠(ps.map PX.v).headD 0)) w1 (hL.ext (hh.below.trans (hb.mono hh.below.size))) hn (fun z w2 hz hb2=>CJ L n c ps z ⟨b1,0,none⟩ w2 ((hL.ext (hh.below.trans (hb.mono hh.below.size))).ext hb2) (cx hb2 (cx hb hcell)) VX)
    cases hod:ub ps with
    |true=>
     have hod2:ps.any (fun g=>decide (g.v≠(ps.map PX.v).headD 0))=true:=hod;rw [hod2] at ho;refine sr ?_;refine Il ?_;refine bB hh 0 ?_;refine aF ?_;refine cB (mB (gT ?_));refine bB hh 0 ?_;refine gT ?_;refine wW ?_;refine aK rfl rfl ?_;refine br hh (ho _ (Below.refl _ _)) rfl ?_;intro w24 hh;refine dE ?_;refine BV ?_;refine cS ?_;exact ⟨by rw [V2 (.inr rfl)],hh.below⟩
    |false=>
     have hod2:ps.any (fun g=>decide (g.v≠(ps.map PX.v).headD 0))=false:=hod;rw [hod2] at ho;refine sr ?_;refine Il ?_;refine bB hh 0 ?_;refine aF ?_;refine cB (mB (gT ?_));refine bB hh 0 ?_;refine gT ?_;refine wW ?_;refine aK rfl rfl ?_;refine br hh (ho _ (Below.refl _ _)) rfl ?_;intro w24 hh;refine dE ?_;refine Gu ?_;refine cS ?_;refine ⟨?_,hh.below⟩;rw [V3];rintro (h|h)
     ·omega
     ·cases h
set_option maxRecDepth 100000 in
theorem DB {H:Type}{enc:TypeId×Value→H}{x:DataW H×List MemPlace} (h:DataW.trod enc Tryz.prog W base sp held fuel 96 cs=some x):
  ∃t:TR,cs=t.cells∧True:=by
 have c0:Tryz.prog.cellsOf 96=4:=by kernel_rfl
 have c1:Tryz.prog.cellsOf 9=1:=by kernel_rfl
 have c2:Tryz.prog.cellsOf 65=3:=by kernel_rfl
 obtain ⟨y0,y1,n,_,hl,h0,h1⟩:=trod_struct2 Tryz.underlying96 h;obtain ⟨s,e0,_,_⟩:=DataW.trod_string Tryz.underlying9 h0;obtain ⟨a,e1,_⟩:=rn h1;rw [c0] at hl
 match cs,hl with
 |[x0,x1,x2,x3],_=>
  simp only [c1,c2] at e0 e1;unfold NR.cells at e1;simp at e0 e1;obtain ⟨e1,e2,e3⟩:=e1;subst e0 e1 e2 e3;exact ⟨⟨s,a⟩,rfl,trivial⟩
set_option maxRecDepth 100000 in
theorem DW {H:Type}{enc:TypeId×Value→H}{x:DataW H×List MemPlace} (h:DataW.trod enc Tryz.prog W base sp held fuel 24 cs=some x):
  ∃g:PX,cs=g.cells∧(g.at_ W∧g.n≤g.c):=by
 have c0:Tryz.prog.cellsOf 24=2:=by kernel_rfl
 have c1:Tryz.prog.cellsOf 3=1:=by kernel_rfl
 have c2:Tryz.prog.cellsOf 22=1:=by kernel_rfl
 obtain ⟨y0,y1,n,_,hl,h0,h1⟩:=trod_struct2 Tryz.underlying24 h;obtain ⟨z,e0,_,_⟩:=DataW.trod_int Tryz.underlying3 h0;obtain ⟨B,m,b,k,e1,s1,_⟩:=CO TR.len VY Tryz.underlying22 VZ (fun _ _ _ h=>DB h) h1;rw [e1] at h1;have hroom:=Ht Tryz.underlying22 h1;rw [c0] at hl
 match cs,hl with
 |[x0,x1],_=>
  simp only [c1,c2] at e0 e1;simp at e0 e1;subst e0 e1;exact ⟨⟨z,B,m,b,k⟩,rfl,s1,hroom⟩
set_option maxRecDepth 100000 in
theorem G6 {H:Type}{enc:TypeId×Value→H}{r:Reach}{v:Value}{d:DataW H}{ps:List MemPlace}
  (hval:Value.okWide Tryz.prog W r b0 24 v) (hd:DataW.Trod enc Tryz.prog W base sp held 24 v d ps):∃g:PX,v=.agg #[.int .i64 g.v,.slice g.A g.n g.c]∧g.at_ W∧g.n≤g.c:=by
 obtain ⟨cs,rfl,_⟩:=okWide_struct Tryz.underlying24 hval;obtain ⟨fuel,hf⟩:=hd;obtain ⟨f,h1,h2⟩:=DW hf;refine ⟨f, ?_,h2⟩;have h3:cs.toList=f.cells:=h1;rw [←Array.toList_inj.1 (show cs.toList=(#[.int .i64 f.v,.slice f.A f.n f.c]:Array Value).toList from h3)]
structure SR where
 lo:NR
 hi:NR
def SR.cells (s:SR):List Value:=[.bool s.lo.neg,.string s.lo.bf,.int .i64 s.lo.e,.bool s.hi.neg,.string s.hi.bf,.int .i64 s.hi.e]
theorem SR.len (s:SR):(SR.cells s).length=6:=rfl
theorem SR.one (s:SR):(SR.cells s).all Value.oneCell'=true:=rfl
def Qm (x y:Dyadic):Dyadic:=if y<x then y else x
def Rj (x y:Dyadic):Dyadic:=if x<y then y else x
theorem Ka (x y:Dyadic):iW (fun x y=>decide (x<y)) [x,y]=Qm x y:=by simp [iW,Qm]
theorem JW (x y:Dyadic):iW (fun x y=>decide (y<x)) [x,y]=Rj x y:=by simp [iW,Rj]
def SR.L (s:SR):Dyadic:=Qm s.lo.d s.hi.d
def SR.H (s:SR):Dyadic:=Rj s.lo.d s.hi.d
def SR.f (s:SR):SR:=⟨nR s.L,nR s.H⟩
def SR.ok (s:SR):Prop:=s.lo.ok∧s.hi.ok
def SR.has (s:SR) (x:Dyadic):Bool:=decide (¬x<s.L∧¬s.H<x)
def SR.wid (s:SR):Dyadic:=s.H-s.L
def SR.UY (s:SR):Dyadic:=(s.lo.d+s.hi.d)*qV (-1)
theorem Rh (x y:Dyadic):Qm x y=x∨Qm x y=y:=by unfold Qm;split<;>simp
theorem Qq (x y:Dyadic):Rj x y=x∨Rj x y=y:=by unfold Rj;split<;>simp
structure LX (k:Nat) (a:NR):Prop where
 ok:a.ok
 sz:Sz k a.d
def SR.fin (k:Nat) (s:SR):Prop:=LX k s.lo∧LX k s.hi
theorem SR.L7 {s:SR} (h:s.fin k):Sz k s.L:=by
 unfold SR.L
 rcases Rh s.lo.d s.hi.d with e|e<;>rw [e]
 ·exact h.1.sz
 ·exact h.2.sz
theorem SR.R8 {s:SR} (h:s.fin k):Sz k s.H:=by
 unfold SR.H
 rcases Qq s.lo.d s.hi.d with e|e<;>rw [e]
 ·exact h.1.sz
 ·exact h.2.sz
theorem C3 (L:Option Addr) (n c:Nat) (l:List NR) (w:World) (hT:eK w) (hS:Sl w L n 3 (az NR.cells l)) (hl:∀a∈l,a.ok) (hn:n≤1000000):
  Calls Tryz.prog 236 #[.slice L n c] w fun r w'=>r=.returned (.agg (SR.cells ⟨nR (iW (fun x y=>decide (x<y)) (l.map NR.d)),nR (iW (fun x y=>decide (y<x)) (l.map NR.d))⟩).toArray)∧Below w.heap.size w w':=by
 have hh:=Hp.start w;refine aj (N:=8) (l:=[.slice L n c]) Tryz.func236 rfl rfl (by simp) ?_;refine sr ?_;refine bQ hh ?_;intro b2 w2 hh;refine aa (sr (mL ?_));refine br hh (Dd L n c l _ (hT.hp hh) (hS.ext hh.below) hl hn) rfl ?_;intro w4 hh;refine mL ?_;refine br hh (Ee L n c l _ (hT.hp hh) (hS.ext hh.below) hl hn) rfl ?_;intro w6 hh;refine eV [_,_,_,_,_,_] ?_;exact SW
theorem CC (s:SR) (w:World) (hT:eK w) (hs:s.ok):
  Calls Tryz.prog 203 #[.agg s.cells.toArray] w fun r w'=>r=.returned (.agg s.f.cells.toArray)∧Below w.heap.size w w':=by
 have hh:=Hp.start w;have hc:=fun L c w1 hT1 hS1=>C3 L 2 c [s.lo,s.hi] w1 hT1 hS1 (by simpa using show s.lo.ok∧s.hi.ok from hs) VX;simp only [Wv,WV,Ka,JW] at hc;refine aj (N:=10) (l:=[.agg s.cells.toArray]) Tryz.func203 rfl rfl (by simp) ?_;refine sr ?_;refine cf hh [_,_,_,_,_,_] ?_;intro b1 w1 hh;refine bQ hh ?_;intro b2 w2 hh;refine aa (sr (bE ?_));refine cn hh 1 [_,_,_] (bE ?_);refine cn hh 1 [_,_,_] ?_;refine wQ ?_;intro b7 w7 hh;refine br hh (hc _ _ _ (hT.hp hh) (hh.aC (i:=0) rfl)) rfl ?_;intro w8 hh;refine eV [_,_,_,_,_,_] ?_;refine bR hh 1 [_,_,_,_,_,_] ?_;intro ws hh;replace hh:Hp _ (_::.blk _ _ [_,_,_,_,_,_] _::_) _:=hh;refine aa (au ?_);refine Nm (ej rfl (ek (vs:=[_,_,_,_,_,_]) aO.out (hh.bZ (i:=1) (n:=6) rfl rfl) rfl) fF) ?_;exact ⟨rfl,hh.below⟩
theorem zz (s:SR) (w:World) (hT:eK w) (hs:s.ok):
  Calls Tryz.prog 171 #[.agg s.cells.toArray] w fun r w'=>r=.returned (.agg s.f.cells.toArray)∧Below w.heap.size w w':=by
 have hh:=Hp.start w;refine aj (N:=6) (l:=[.agg s.cells.toArray]) Tryz.func171 rfl rfl (by simp) ?_;refine sr ?_;refine cf hh [_,_,_,_,_,_] ?_;intro b1 w1 hh;refine bQ hh ?_;intro b2 w2 hh;refine aa (sr ?_);refine cn hh 1 [_,_,_,_,_,_] ?_;refine br hh (CC s _ (hT.hp hh) hs) rfl ?_;intro w4 hh;refine Mt fB.out aO.out rfl rfl VY ?_;exact SW
set_option maxRecDepth 100000 in
theorem DY {H:Type}{enc:TypeId×Value→H}{x:DataW H×List MemPlace} (h:DataW.trod enc Tryz.prog W base sp held fuel 81 cs=some x):
  ∃a:SR,cs=a.cells∧True:=by
 have c0:Tryz.prog.cellsOf 81=6:=by kernel_rfl
 have c1:Tryz.prog.cellsOf 65=3:=by kernel_rfl
 obtain ⟨y0,y1,n,_,hl,h0,h1⟩:=trod_struct2 Tryz.underlying81 h;obtain ⟨a,e0,_⟩:=rn h0;obtain ⟨b,e1,_⟩:=rn h1;rw [c0] at hl
 match cs,hl with
 |[x0,x1,x2,x3,x4,x5],_=>
  simp only [c1] at e0 e1;simp [NR.cells] at e0 e1;obtain ⟨rfl,rfl,rfl⟩:=e0;obtain ⟨rfl,rfl,rfl⟩:=e1;exact ⟨⟨a,b⟩,rfl,trivial⟩
set_option maxRecDepth 100000 in
theorem Kg {H:Type}{enc:TypeId×Value→H}{r:Reach}{v:Value}{d:DataW H}{ps:List MemPlace}
  (hval:Value.okWide Tryz.prog W r b0 34 v) (hd:DataW.Trod enc Tryz.prog W base sp held 34 v d ps):∃(A:Option Addr) (n c:Nat) (l:List SR),v=.slice A n c∧Sl W A n 6 (az SR.cells l)∧∀a∈l,True:=
 wv SR.len VY Tryz.underlying34 VZ (fun _ _ _ h=>DY h) hval hd
def sm {α:Type}:List α→(α→Dyadic)→Dyadic
 |[],_=>0
 |a::l,f=>f a+sm l f
section
variable {α β:Type}
theorem xk (l m:List α) (f:α→Dyadic):sm (l++m) f=sm l f+sm m f:=by
 induction l with
 |nil=>simp [sm,X9]
 |cons a l ih=>simp only [Wb,sm,ih];grind
theorem od (l:List α) (a:α) (f:α→Dyadic):sm (l++[a]) f=sm l f+f a:=by
 rw [xk];simp only [sm];grind
theorem fN {l:List α}{f g:α→Dyadic} (h:∀a∈l,f a=g a):sm l f=sm l g:=by
 induction l with
 |nil=>rfl
 |cons a l ih=>rw [sm,sm,h a We,ih fun b hb=>h b (Wg _ hb)]
theorem F8 {l:List α}{f:α→Dyadic} (h:∀a∈l,f a=0):sm l f=0:=by
 induction l with
 |nil=>rfl
 |cons a l ih=>rw [sm,h a We,ih fun b hb=>h b (Wg _ hb)];grind
theorem Ro (l:List α) (f g:α→Dyadic):sm l (fun a=>f a+g a)=sm l f+sm l g:=by
 induction l with
 |nil=>simp [sm]
 |cons a l ih=>simp only [sm,ih];grind
theorem Ku (l:List α) (f:α→Dyadic) (c:Dyadic):sm l (fun a=>f a*c)=sm l f*c:=by
 induction l with
 |nil=>simp only [sm];grind
 |cons a l ih=>simp only [sm,ih];grind
theorem BE (l:List α) (f:α→Dyadic) (c:Dyadic):sm l (fun a=>c*f a)=c*sm l f:=by
 induction l with
 |nil=>simp only [sm];grind
 |cons a l ih=>simp only [sm,ih];grind
theorem xX (l:List α) (g:α→β) (f:β→Dyadic):sm (l.map g) f=sm l fun a=>f (g a):=by
 induction l with
 |nil=>rfl
 |cons a l ih=>rw [Wv,sm,sm,ih]
theorem Mb (l:List α) (m:List β) (f:α→β→Dyadic):sm l (fun a=>sm m (f a))=sm m fun b=>sm l fun a=>f a b:=by
 induction l with
 |nil=>exact (F8 fun b _=>rfl).symm
 |cons a l ih=>simp only [sm];rw [ih,←Ro]
theorem yL (n p:Nat) (c:Dyadic):sm (List.range n) (fun q=>if q=p then c else 0)=if p<n then c else 0:=by
 induction n with
 |zero=>rw [V3 VX];rfl
 |succ n ih=>
  rw [YZ,od,ih]
  rcases Nat.lt_trichotomy p n with h|h|h
  ·rw [V2 h,V3 (show ¬n=p by omega),V2 (show p<n+1 by omega)];grind
  ·rw [V3 (show ¬p<n by omega),V2 h.symm,V2 (show p<n+1 by omega)];grind
  ·rw [V3 (show ¬p<n by omega),V3 (show ¬n=p by omega),V3 (show ¬p<n+1 by omega)];grind
end
def oE (N:Nat) (L:List (Nat×Dyadic)):List Dyadic:=(List.range N).map fun p=>sm L fun q=>if q.1=p then q.2 else 0
theorem lG (N:Nat) (L:List (Nat×Dyadic)):(oE N L).length=N:=by simp [oE]
theorem tZ (N:Nat):oE N []=List.replicate N 0:=by
 refine List.ext_getElem (by simp [oE]) fun i h1 h2=> ?_;simp [oE,sm]
theorem nC {p:Nat} (L:List (Nat×Dyadic)) (h:p<N):(oE N L)[p]?=some (sm L fun q=>if q.1=p then q.2 else 0):=by
 unfold oE;rw [Wf,Xc h]
 rfl
theorem Ha {p:Nat}{L:List (Nat×Dyadic)}{x v:Dyadic} (h:(oE N L)[p]?=some x):(oE N L).set p (x+v)=oE N (L++[(p,v)]):=by
 have hp:p<N:=by have:=(Wi.1 h).1;rwa [lG] at this
 rw [nC L hp] at h;refine XN fun i=> ?_;rw [Yf];by_cases hi:p=i
 ·subst hi;rw [V2 rfl,lG,V2 hp,nC _ hp,od,←WZ h,V2 rfl]
 ·rw [V3 hi];by_cases hin:i<N
  ·rw [nC _ hin,nC _ hin,od,V3 hi];congr 1;grind
  ·rw [WK (by rw [lG];omega),WK (by rw [lG];omega)]
theorem Ch {l:List α}{f:α→Dyadic} (h:∀a∈l,Sz k (f a)):Sz (k+l.length) (sm l f):=by
 induction l with
 |nil=>exact Sz.zero _
 |cons a l ih=>
  have h1:=ih fun b hb=>h b (Wg _ hb);have h2:=((h a We).mono (show k≤k+l.length by omega)).add h1;rw [sm,Wx];exact h2.mono VX
theorem LN {L:List (Nat×Dyadic)} (h:∀a∈L,Sz k a.2):∀x∈oE N L,Sz (k+L.length) x:=fun x hx=>by
 obtain ⟨p,_,rfl⟩:=Wn.1 hx;refine Ch fun a ha=> ?_;split
 ·exact h a ha
 ·exact Sz.zero _
def ay:List Nat→Nat
 |[]=>1
 |d::ds=>(d+1)*ay ds
def dq:List Nat→Nat→List Nat
 |[],_=>[]
 |d::ds,p=>p % (d+1)::dq ds (p/(d+1))
def jf:List Nat→List Nat→Nat
 |d::ds,r::rs=>r+(d+1)*jf ds rs
 |_,_=>0
def nU:List Nat→List Nat→Prop
 |[],[]=>True
 |d::ds,r::rs=>r≤d∧nU ds rs
 |_,_=>False
theorem cU (ds:List Nat):0<ay ds:=by
 induction ds with
 |nil=>exact Nat.one_pos
 |cons d ds ih=>exact Nat.mul_pos VX ih
theorem th:∀(ds:List Nat) (p:Nat),(dq ds p).length=ds.length
 |[],_=>rfl
 |d::ds,p=>by rw [dq,Wx,th ds,Wx]
theorem l3:∀(ds:List Nat) (p:Nat),nU ds (dq ds p)
 |[],_=>trivial
 |d::ds,p=>⟨by have:=Wy p (show 0<d+1 by omega);omega,l3 ds _⟩
theorem AF:∀{ds:List Nat}{p:Nat},p<ay ds→jf ds (dq ds p)=p
 |[],p,h=>by
  have:p<1:=h;show 0=p;omega
 |d::ds,p,h=>by
  have h1:p/(d+1)<ay ds:=by rw [Xv VX,WB];exact h
  rw [dq,jf,AF h1,YJ]
theorem qD:∀{ds rs:List Nat},nU ds rs→jf ds rs<ay ds
 |[],[],_=>Nat.one_pos
 |d::ds,r::rs,h=>by
  have h1:=qD h.2;have h2:=h.1;rw [jf,ay];have h3:(d+1)*jf ds rs+(d+1)≤(d+1)*ay ds:=by
   have:=WS (d+1) (show jf ds rs+1≤ay ds by omega);rw [W0,Wo] at this;exact this
  omega
theorem kq:∀{ds rs:List Nat},nU ds rs→dq ds (jf ds rs)=rs
 |[],[],_=>rfl
 |d::ds,r::rs,h=>by
  have h2:=h.1;rw [jf,dq,Yh,WU VX,XC _ _ VX,Xg VX,Wr,kq h.2]
theorem Mu (d:Nat) (ds:List Nat) (f:Nat→Dyadic):sm (List.range (ay (d::ds))) f=sm (List.range (ay ds)) fun q=>sm (List.range (d+1)) fun r=>f (r+(d+1)*q):=by
 have key:∀n,sm (List.range ((d+1)*n)) f=sm (List.range n) fun q=>sm (List.range (d+1)) fun r=>f (r+(d+1)*q):=fun n=>by
  induction n with
  |zero=>rfl
  |succ n ih=>
   rw [YZ,od,←ih,XI,List.range_add,xk,xX];congr 1;exact fN fun a _=>by rw [XY]
 exact key _
variable {ls:List Int}{q:Nat}
def kG (d:Int):List Int:=(List.range (d.toNat+1)).map fun (k:Nat)=>(k:Int)
def dr:List Int→List (List Int)
 |[]=>[[]]
 |d::ds=>(kG d).flatMap fun k=>(dr ds).map (k:: ·)
def gC (n:Nat):List Int:=List.replicate n 0
def rj:List Int→List Int→Option (List Int)
 |d::ds,k::l=>match rj ds l with
  |some l'=>some (k::l')
  |none=>if k<d then some ((k+1)::gC l.length) else none
 |_,_=>none
def oF {α:Type} (f:α→Option α):α→List α→Prop
 |a,[b]=>b=a∧f a=none
 |a,b::L=>b=a∧∃c,f a=some c∧oF f c L
 |_,[]=>False
theorem Ib {f:α→Option α}{a:α} (h:f a=none):oF f a [a]:=⟨rfl,h⟩
theorem om {f:α→Option α}{a c:α}{L:List α} (h:f a=some c) (hL:oF f c L):oF f a (a::L):=by
 cases L with
 |nil=>exact hL.elim
 |cons b L=>exact ⟨rfl,c,h,hL⟩
theorem we {f:α→Option α}{a:α}{L:List α} (h:oF f a L):(L=[a]∧f a=none)∨∃c L',L=a::L'∧f a=some c∧oF f c L':=by
 match L,h with
 |[b],h=>exact .inl ⟨by rw [h.1],h.2⟩
 |b::c::L,h=>obtain ⟨h1,x,h2,h3⟩:=h;exact .inr ⟨x,c::L,by rw [h1],h2,h3⟩
theorem AX {α β:Type}{f:α→Option α}{g:β→Option β}{e:α→β}{b:List β}{z:Option β} (hs:∀a c,f a=some c→g (e a)=some (e c)) (hn:∀a,f a=none→g (e a)=z)
  (hz:match z with|some c=>oF g c b|none=>b=[]):∀(L:List α) (a:α),oF f a L→oF g (e a) (L.map e++b)
 |[c],a,h=>by
  obtain ⟨h1,h2⟩:=h;subst h1
  cases z with
  |none=>simp only at hz;subst hz;exact Ib (hn _ h2)
  |some x=>exact om (hn _ h2) hz
 |c::d::L,a,h=>by
  obtain ⟨h1,x,h2,h3⟩:=h;subst h1;exact om (hs _ _ h2) (AX hs hn hz (d::L) x h3)
theorem JO (a:Int):∀n:Nat,((List.range (n+1)).map fun (k:Nat)=>a+(k:Int))=a::((List.range n).map fun (k:Nat)=>(a+1)+(k:Int))
 |n=>by
  rw [List.range_succ_eq_map,Wv,W5];congr 1
  ·simp
  ·apply XZ;intro k _;simp only [Function.comp];omega
theorem Au {ds:List Int}{k d:Int}{R:List (List Int)} (hk:k<d) (ih:oF (rj (d::ds)) ((k+1)::gC ds.length) R):∀(L':List (List Int)) (a:List Int),(∀l∈L',l.length=ds.length)→oF (rj ds) a L'→oF (rj (d::ds)) (k::a) (L'.map (k:: ·)++R)
 |[c],a,hl,h=>by
  obtain ⟨h1,h2⟩:=h;subst h1;refine om (c:=(k+1)::gC ds.length) ?_ ih;have:c.length=ds.length:=hl c (by simp);simp [rj,h2,this,hk]
 |c::e::L',a,hl,h=>by
  obtain ⟨h1,x,h2,h3⟩:=h;subst h1;exact om (c:=k::x) (by simp [rj,h2]) (Au hk ih (e::L') x (fun l hm=>hl l (Wg _ hm)) h3)
theorem xN {ds:List Int} (L:List (List Int)) (hL:oF (rj ds) (gC ds.length) L) (hlen:∀l∈L,l.length=ds.length) (d:Int):∀(n:Nat) (k:Int),k+n=d→
  oF (rj (d::ds)) (k::gC ds.length) (((List.range (n+1)).map fun (j:Nat)=>k+(j:Int)).flatMap fun k=>L.map (k:: ·))
 |0,k,hk=>by
  have hk':k=d:=VX;subst hk';have:=AX (g:=rj (k::ds)) (e:=fun l=>k::l) (b:=[]) (z:=none) (fun a c h=>by simp [rj,h]) (fun a h=>by simp [rj,h]) rfl L _ hL;simpa using this
 |n+1,k,hk=>by
  rw [JO,Ys];have ih:=xN L hL hlen d n (k+1) VX;exact Au VX ih L _ hlen hL
theorem j2:∀(ds:List Int) (l:List Int),l∈dr ds→l.length=ds.length
 |[],l,h=>by simp [dr] at h;simp [h]
 |d::ds,l,h=>by
  simp only [dr,X7,Wn] at h;obtain ⟨k,_,l',h2,rfl⟩:=h;simp [j2 ds l' h2]
theorem AE:∀ds:List Int,(∀d∈ds,0≤d)→oF (rj ds) (gC ds.length) (dr ds)
 |[],_=>⟨rfl,rfl⟩
 |d::ds,h=>by
  have h0:=h d We;have:=xN (dr ds) (AE ds fun x hx=>h x (Wg _ hx)) (j2 ds) d d.toNat 0 VX;simpa [dr,kG,gC,Yi] using this
theorem nV (d:Int):∀ds:List Int,dr (ds++[d])=(dr ds).flatMap fun p=>(kG d).map fun k=>p++[k]
 |[]=>by simp only [V9,dr,Ys,List.flatMap_nil,WG,Wv,WV];induction kG d with
  |nil=>rfl
  |cons a l ih=>simp [ih]
 |e::ds=>by
  simp only [Wb,dr,nV d ds,List.map_flatMap,List.flatMap_assoc,List.flatMap_map,W5,Function.comp_def]
theorem si:∀(ds:List Int),(∀d∈ds,0≤d∧d≤127)→∀l∈dr ds,l.all cE=true
 |[],_,l,h=>by simp [dr] at h;simp [h]
 |d::ds,hd,l,h=>by
  simp only [dr,kG,X7,Wn,Xx] at h;obtain ⟨_,⟨k,hk,rfl⟩,l',h2,rfl⟩:=h;have:=hd d We;rw [List.all_cons,si ds (fun x hx=>hd x (Wg _ hx)) l' h2];simp [cE];omega
theorem sa (d:Int):(kG d).length=d.toNat+1:=by simp [kG]
theorem rz (d:Int) (ds:List Int):(dr (ds++[d])).length=(dr ds).length*(d.toNat+1):=by
 rw [nV,List.length_flatMap];simp only [Wh,sa]
 induction dr ds with
 |nil=>simp
 |cons a l ih=>simp [ih,Ya];omega
def sj:Int→List Int→Bool
 |_,[]=>true
 |n,d::ds=>decide (0≤d) && (decide (d≤127) && (decide (n*(d+1)≤65536) && sj (n*(d+1)) ds))
def fX (l:List Int):ByteArray:=str (l.map pw)
def mN (ds:List Int):List ByteArray:=if sj 1 ds then (dr ds).map fX else []
theorem vx:∀ds:List Int,0<(dr ds).length
 |[]=>by simp [dr]
 |d::ds=>by
  simp only [dr,kG,List.length_flatMap];rw [List.range_succ_eq_map];have:=vx ds;simp;omega
theorem y9:∀(ds:List Int) (n:Int),sj n ds=true→∀d∈ds,0≤d∧d≤127
 |[],_,_,d,h=>by simp at h
 |e::ds,n,h,d,hd=>by
  simp only [sj,Wl,Wt] at h
  rcases Wk.1 hd with rfl|hd
  ·exact ⟨h.1,h.2.1⟩
  ·exact y9 ds _ h.2.2.2 d hd
theorem vw {ds:List Int}{d n:Int} (hk:ds[k]?=some d) (h:sj 1 ds=sj n (ds.drop k)) (hb:(0≤d∧d≤127)∧n*(d+1)≤65536):
  sj 1 ds=sj (n*(d+1)) (ds.drop (k+1)):=by
 obtain ⟨hlt,he⟩:=Wi.1 hk;rw [h,Xl hlt,he];simp [sj,hb.1.1,hb.1.2,hb.2]
theorem mZ {ds:List Int}{d n:Int} (hk:ds[k]?=some d) (h:sj 1 ds=sj n (ds.drop k)) (hb:¬((0≤d∧d≤127)∧n*(d+1)≤65536)):sj 1 ds=false:=by
 obtain ⟨hlt,he⟩:=Wi.1 hk;rw [h,Xl hlt,he];simp only [sj,Zq,Zh]
 rcases Classical.em (0≤d) with h1|h1<;>rcases Classical.em (d≤127) with h2|h2
 ·exact .inr (.inr (.inl VX))
 ·exact .inr (.inl h2)
 ·exact .inl h1
 ·exact .inl h1
theorem fy {ds:List Int}{d:Int} (hk:ds[k]?=some d) (h0:0≤d):((dr (ds.take (k+1))).length:Int)=(dr (ds.take k)).length*(d+1):=by
 rw [aw hk,rz,Xn];congr 1;omega
theorem u6 {ds:List Int} (h:sj 1 ds=true):∀k,k≤ds.length→sj 1 ds=sj (dr (ds.take k)).length (ds.drop k)∧(dr (ds.take k)).length≤65536
 |0,_=>⟨by simp [dr],by simp [dr]⟩
 |k+1,hk=>by
  obtain ⟨h1,h2⟩:=u6 h k VX;obtain ⟨d,hd⟩:=ak (l:=ds) (k:=k) VX;have hb:=y9 ds 1 h d (V7 hd);by_cases hc:((dr (ds.take k)).length:Int)*(d+1)≤65536
  ·have h3:=vw hd h1 ⟨hb,hc⟩;have h4:=fy hd hb.1;rw [←h4] at h3 hc;exact ⟨h3,VX⟩
  ·have:=mZ hd h1 fun x=>hc x.2;rw [h] at this;cases this
def gX (d:Int) (s:ByteArray):List ByteArray:=(kG d).map fun q=>s++str [pw q]
theorem NB {ds:List Int}{d:Int} (hk:ds[k]?=some d):(dr (ds.take (k+1))).map fX=((dr (ds.take k)).map fX).flatMap (gX d):=by
 rw [aw hk,nV,List.map_flatMap,List.flatMap_map];congr 1;funext p;simp only [gX,W5];apply XZ;intro q _;simp only [Function.comp,fX,WT,tK,Wv,WV]
theorem O4 {d:Int}{s:ByteArray} (hq:(q:Int)≤d):(gX d s)[q]?=some (s++str [pw q]):=by
 simp only [gX,kG,W5,Wf,Xc (show q<d.toNat+1 by omega),XJ,Function.comp]
theorem GU (d:Int) (s:ByteArray):(gX d s).length=d.toNat+1:=by simp [gX,kG]
theorem S8 {d:Int}{S:List ByteArray}{s:ByteArray} (hs:S[j]?=some s) (q:Nat):((S.take j).flatMap (gX d)++(gX d s).take q).length≤(S.flatMap (gX d)).length:=by
 have e:S.flatMap (gX d)=(S.take j).flatMap (gX d)++(gX d s++(S.drop (j+1)).flatMap (gX d)):=by
  obtain ⟨h1,h2⟩:=Wi.1 hs
  conv=>lhs;rw [←W4 j S,Xl h1,h2]
  rw [YM,Ys]
 rw [e];simp only [Wc,Wp];omega
theorem M1 {ds:List Int}{s:ByteArray} (hs:((dr (ds.take k)).map fX)[j]?=some s):s.size≤k:=by
 have:=V7 hs;obtain ⟨l,hl,rfl⟩:=Wn.1 this;have:=j2 _ l hl;simp only [fX,jb,Wh];simp at this;omega
theorem J5 (d k:Int):∀(ps es:List Int) (ds ls:List Int),ps.length=es.length→rj ds ls=none→rj (es++d::ds) (ps++k::ls)=if k<d then some (ps++(k+1)::gC ls.length) else rj (es++d::ds) (ps++k::ls)
 |[],[],ds,ls,_,h=>by
  simp only [V9,rj,h];split<;>rfl
 |p::ps,e::es,ds,ls,hl,h=>by
  have ih:=J5 d k ps es ds ls (by simpa using hl) h;split
  ·rename_i hk;rw [V2 hk] at ih;simp only [Wb,rj,ih]
  ·rfl
 |[],_::_,_,_,hl,_=>by simp at hl
 |_::_,[],_,_,hl,_=>by simp at hl
theorem La {d k:Int}{ds:List Int} (h:rj ds ls=none) (hk:¬k<d):rj (d::ds) (k::ls)=none:=by
 simp [rj,h,hk]
theorem Hp.swap {x y:HE}{H:List HE} (h:Hp w0 (x::y::H) w):Hp w0 (y::x::H) w:=h.perm (.swap y x H)
def oD (ls:List Int) (k n:Nat):List Int:=ls.take k++gC (n-k)
theorem Km (h:ls.length=n):oD ls n n=ls:=by
 unfold oD;rw [Wa VX,W9];simp [gC]
theorem NQ (h:ls.length=n) (hk:k≤n):(oD ls k n).length=n:=by
 simp [oD,gC];omega
theorem RK {x:Int} (hx:ls[k]?=some x):(oD ls (k+1) n)[k]?=some x:=by
 have hlt:=(Wi.1 hx).1;unfold oD;rw [Yp (by simp;omega),XL];simp [hx]
theorem Ey (y:Int) (h:ls.length=n) (hk:k<n):cz (bC (oD ls (k+1) n)) k [.int .i64 y]=bC (ls.take k++y::gC (n-(k+1))):=by
 have e1:(oD ls (k+1) n).take k=ls.take k:=by
  unfold oD;rw [Zp (by simp;omega),List.take_take];congr 1;omega
 have e2:(oD ls (k+1) n).drop (k+1)=gC (n-(k+1)):=by
  unfold oD;have hl:(ls.take (k+1)).length=k+1:=by simp;omega
  rw [List.drop_append,hl,XB VX];simp
 simp only [cz,bC,←YY,←YG,Wx,YS,Wr,e1,e2];simp
theorem I7 (hk:k<n):ls.take k++0::gC (n-(k+1))=oD ls k n:=by
 unfold oD gC;rw [show n-k=(n-(k+1))+1 by omega,Yi]
theorem Lg {ds:List Int}{d x:Int} (hd:ds.length=n) (hl:ls.length=n) (hdk:ds[k]?=some d) (hlk:ls[k]?=some x) (h:rj (ds.drop (k+1)) (ls.drop (k+1))=none) (hx:x<d):
  rj ds ls=some (ls.take k++(x+1)::gC (n-(k+1))):=by
 obtain ⟨h1,h2⟩:=Wi.1 hdk;obtain ⟨h3,h4⟩:=Wi.1 hlk;have:=J5 d x (ls.take k) (ds.take k) _ _ (by simp;omega) h;rw [V2 hx] at this;have e1:ds.take k++d::ds.drop (k+1)=ds:=by rw [←h2,←Xl h1,W4]
 have e2:ls.take k++x::ls.drop (k+1)=ls:=by rw [←h4,←Xl h3,W4]
 rw [e1,e2] at this;rw [this,Xk,hl]
theorem KX {ds:List Int}{d x:Int} (hdk:ds[k]?=some d) (hlk:ls[k]?=some x) (h:rj (ds.drop (k+1)) (ls.drop (k+1))=none) (hx:¬x<d):rj (ds.drop k) (ls.drop k)=none:=by
 obtain ⟨h1,h2⟩:=Wi.1 hdk;obtain ⟨h3,h4⟩:=Wi.1 hlk;rw [Xl h1,Xl h3,h2,h4];exact La h hx
theorem Bo (h:ls.all cE=true) {x:Int} (hx:ls[k]?=some x):0≤x∧x≤127:=by
 have:=Ww.1 h x (V7 hx);simpa [cE] using this
variable {ds rs:List Nat}
def bin:Nat→Nat→Nat
 |_,0=>1
 |0,_+1=>0
 |n+1,k+1=>bin n k+bin n (k+1)
theorem uO (n:Nat):bin n 0=1:=by cases n<;>rfl
theorem zw:∀{n k:Nat},n<k→bin n k=0
 |0,k+1,_=>rfl
 |n+1,k+1,h=>by rw [bin,zw (show n<k by omega),zw (show n<k+1 by omega)]
theorem uG:∀n,bin n n=1
 |0=>rfl
 |n+1=>by rw [bin,uG n,zw (show n<n+1 by omega)]
theorem vu:∀n k:Nat,bin n k≤2^n
 |n,0=>by rw [uO];exact WJ VY
 |0,k+1=>V5 _
 |n+1,k+1=>by
  have h1:=vu n k;have h2:=vu n (k+1);rw [bin,WY];omega
def sG (n:Nat):List Nat:=(List.range (n+1)).map (bin n)
theorem uq (n:Nat):(sG n).length=n+1:=by simp [sG]
theorem yc (h:k≤n):(sG n)[k]?=some (bin n k):=by
 unfold sG;exact Jw
def nD (n:Nat):Dyadic:=((n:Int):Dyadic)
theorem ML:nD 0=0:=rfl
theorem RZ:nD 1=1:=rfl
theorem yh (a b:Nat):nD (a+b)=nD a+nD b:=by
 show Dyadic.ofIntWithPrec ((a+b:Nat):Int) 0=Dyadic.ofIntWithPrec (a:Int) 0+Dyadic.ofIntWithPrec (b:Int) 0;rw [sI,X6]
theorem QY (a b:Nat):nD (a*b)=nD a*nD b:=by
 induction a with
 |zero=>rw [YA,ML];grind
 |succ a ih=>rw [Xj,yh,yh,ih,RZ];grind
theorem KG (h:n<2^k):Sz k (nD n):=by
 refine ⟨(n:Int)*2^k, ?_, ?_⟩
 ·have:=nE (n:Int) 0 k;rw [show (0:Int)+(k:Int)=k by omega] at this;rw [this]
  rfl
 ·rw [XW,Yn,Int.natAbs_natCast,show 2*k=k+k by omega,Ws];exact Yr h (WJ VY)
theorem ph {α β:Type}{m:Nat} (hm:0<m) (g:α→List β):∀(l:List α) (p:Nat),(∀a∈l,(g a).length=m)→(l.flatMap g)[p]?=(l[p/m]?).bind fun a=>(g a)[p % m]?
 |[],p,_=>by simp
 |a::l,p,h=>by
  have ha:=h a We;rw [Ys];by_cases hp:p<m
  ·rw [Yp VX,Xg hp,WU hp]
   rfl
  ·obtain ⟨q,rfl⟩:∃q,p=q+m:=⟨p-m,VX⟩;rw [Xm VX,ha,Nat.add_sub_cancel,ph hm g l q fun b hb=>h b (Wg _ hb),Nat.add_div_right _ hm,Nat.add_mod_right,YB]
theorem rV {α β:Type}{m:Nat} (g:α→List β):∀(l:List α),(∀a∈l,(g a).length=m)→(l.flatMap g).length=l.length*m
 |[],_=>by simp
 |a::l,h=>by
  rw [Ys,Wc,h a We,rV g l fun b hb=>h b (Wg _ hb),Wx,Xj,XY]
def bU (l:List Nat):List Int:=l.map fun (n:Nat)=>(n:Int)
theorem qI (l:List Nat):(bU l).length=l.length:=by simp [bU]
theorem ig {l:List Nat}{i:Nat} (h:l[i]?=some n):(bU l)[i]?=some (n:Int):=by simp [bU,h]
theorem u1:∀(rs:List Nat),(dr (bU rs.reverse)).length=ay rs∧∀p,p<ay rs→(dr (bU rs.reverse))[p]?=some (bU (dq rs p).reverse)
 |[]=>⟨rfl,fun p h=>by obtain rfl:p=0:=(by have h2:p<1:=h;omega);rfl⟩
 |d::rs=>by
  obtain ⟨h1,h2⟩:=u1 rs;have e1:bU (d::rs).reverse=bU rs.reverse++[(d:Int)]:=by simp [bU]
  have hu:(kG (d:Int)).length=d+1:=by rw [sa];simp
  have hg:∀a∈dr (bU rs.reverse),((kG (d:Int)).map fun k=>a++[k]).length=d+1:=fun a _=>by rw [Wh,hu]
  rw [e1,nV];refine ⟨by rw [rV _ _ hg,h1,ay,WB],fun p hp=> ?_⟩;have hq:p/(d+1)<ay rs:=by rw [Xv VX,WB];exact hp
  have hr:p % (d+1)<d+1:=Wy _ VX;rw [ph VX _ _ _ hg,h2 _ hq];show ((kG (d:Int)).map fun k=>bU (dq rs (p/(d+1))).reverse++[k])[p % (d+1)]?=_;rw [Wf,kG,Wf,Xc (by simpa using hr)];simp [dq,bU]
theorem Kh (ds:List Nat):(dr (bU ds)).length=ay ds.reverse:=by
 have:=(u1 ds.reverse).1;rwa [YD] at this
theorem MR {p:Nat} (h:p<ay ds.reverse):(dr (bU ds))[p]?=some (bU (dq ds.reverse p).reverse):=by
 have:=(u1 ds.reverse).2 p h;rwa [YD] at this
theorem zd:∀{ds rs:List Nat},nU ds rs→rs.length=ds.length
 |[],[],_=>rfl
 |_::_,_::_,h=>by rw [Wx,Wx,zd h.2]
theorem K0 {i d r:Nat} (hd:ds[i]?=some d) (hr:rs[i]?=some r):jf (ds.take (i+1)).reverse (rs.take (i+1)).reverse=r+(d+1)*jf (ds.take i).reverse (rs.take i).reverse:=by
 rw [aw hd,aw hr];simp [jf]
theorem I0 {i d:Nat} (hd:ds[i]?=some d):ay (ds.take (i+1)).reverse=(d+1)*ay (ds.take i).reverse:=by
 rw [aw hd];simp [ay]
theorem ep (a b:List Nat):ay (a++b)=ay a*ay b:=by
 induction a with
 |nil=>simp [ay]
 |cons d a ih=>rw [Wb,ay,ay,ih,W6]
theorem db (ds:List Nat):ay ds.reverse=ay ds:=by
 induction ds with
 |nil=>rfl
 |cons d ds ih=>rw [Y6,ep,ih,ay,ay,ay,Wo,WB]
theorem jH (ds:List Nat) (i:Nat):ay (ds.take i)≤ay ds:=by
 have:ds=ds.take i++ds.drop i:=(W4 i ds).symm
 calc ay (ds.take i)=ay (ds.take i)*1:=(Wo _).symm
  _≤ay (ds.take i)*ay (ds.drop i):=WS _ (cU _)
  _=ay ds:=by rw [←ep,W4]
theorem l5 (A:Option Addr) (n c:Nat) (ds:List Int) (w:World) (hS:Sl w A n 1 (bC ds)) (hn:n≤1000000):
  Calls Tryz.prog 89 #[.slice A n c] w fun r w'=>∃B c',r=.returned (.slice B n c')∧w'.ownsRow w.heap.size 3 1 (.slice B n c') n (bC ds)∧Below w.heap.size w w':=by
 have hh:=Hp.start w
 rcases A with _|ad
 ·have hn0:n=0:=by
   exact Kc
  subst hn0;have hl:ds=[]:=Xt (by simpa [bC] using hS.1);subst hl;refine aj (N:=8) (l:=[.slice none 0 c]) Tryz.func89 rfl rfl (by simp) ?_;exact QA
 ·refine aj (N:=8) (l:=[.slice (some ad) n c]) Tryz.func89 rfl rfl (by simp) ?_;refine sr (aL (aa (ah (sr (mL ?_)))));refine sH bj.out rfl rfl VY ?_;refine tF ?_;refine r7 ?_;intro b5 w5 hh;refine mL ?_;refine bK hh (i:=0) rfl rfl rfl (hS.ext hh.below) bj.out aO.out rfl VY ?one3 VX VX VY ?kk3
  case one3=>first|rfl|assumption|exact a7 _|exact oneCells_u8s _
  exact Q8
theorem za (A:Option Addr) (n c:Nat) (xs:List NR) (w:World) (hS:Sl w A n 3 (az NR.cells xs)) (hn:n≤1000000):
  Calls Tryz.prog 102 #[.slice A n c] w fun r w'=>∃B c',r=.returned (.slice B n c')∧w'.ownsRow w.heap.size 65 3 (.slice B n c') n (az NR.cells xs)∧Below w.heap.size w w':=by
 have hh:=Hp.start w
 rcases A with _|ad
 ·have hn0:n=0:=by
   exact Kc
  subst hn0;have hl:xs=[]:=Xt (by have:=hS.bg NR.len VY;omega);subst hl;refine aj (N:=8) (l:=[.slice none 0 c]) Tryz.func102 rfl rfl (by simp) ?_;exact QA
 ·have hone:((az NR.cells xs).all Value.oneCell')=true:=bu NR.one _;refine aj (N:=8) (l:=[.slice (some ad) n c]) Tryz.func102 rfl rfl (by simp) ?_;refine sr (aL (aa (ah (sr (mL ?_)))));refine sH bj.out rfl rfl VY ?_;refine tF ?_;refine r7 ?_;intro b5 w5 hh;refine mL ?_;refine bK hh (i:=0) rfl rfl rfl (hS.ext hh.below) bj.out aO.out rfl VY ?one4 VX VX VY ?kk4
  case one4=>first|rfl|assumption|exact a7 _|exact oneCells_u8s _
  exact Q8
theorem C7 (A:Option Addr) (n c:Nat) (l:List Int) (g:FuncId) (cap:List Value) (p:Int→Bool) (w:World) (hS:Sl w A n 1 (bC l)) (hn:n≤1000000) [ar Tryz.prog g]
  (hg:∀(z:Int) (w1:World),z∈l→Below w.heap.size w w1→Calls Tryz.prog g (.int .i64 z::cap).toArray w1 fun r w'=>r=.returned (.bool (p z))∧Below w1.heap.size w1 w'):
  Calls Tryz.prog 172 #[.slice A n c,.func (.func g) #[] cap.toArray] w fun r w'=>∃v,r=.returned (.int .i64 v)∧(0≤v↔l.any p=true)∧Below w.heap.size w w':=by
 have hh:=Hp.start w;have hln:l.length=n:=by have:=hS.1;simpa [bC] using this
 refine aj (N:=19) (l:=[.slice A n c,.func (.func g) #[] cap.toArray]) Tryz.func172 rfl rfl (by simp) ?_;refine Bg ?_;refine aM [4,5,8,9,10,11,12,13,14,15,16,17,18] 8
  (fun v w'=>∃i:Nat,i≤n∧v=.int .i64 i∧(l.take i).any p=false∧Hp w [] w')
  (fun v _=>n-(intOf v).toNat) ?_ ?_
 ·exact ⟨0,V5 _,rfl,rfl,hh⟩
 ·clear hh;rintro ρ' v w' ⟨i,hi,rfl,hall,hh⟩;by_cases hlt:i<n
  ·obtain ⟨z,hz⟩:=ak (l:=l) (k:=i) VX;have hgi:=cw hz;obtain ⟨ad,rfl,hr⟩:=hS.at_ VX;have hc:=fun w1=>hg z w1 (V7 hz)
   cases gz:p z with
   |true=>
    rw [gz] at hc;refine sr ?_;refine rN ?_;refine jh ?_;refine mL (mI ?_);refine bY ?_;refine tI ?_;exact Qv
   |false=>
    rw [gz] at hc;refine sr ?_;refine rN ?_;refine jh ?_;refine mL (mI ?_);refine bY ?_;refine tI ?_;exact FO
  ·exact QZ
theorem Ef (A:Option Addr) (n c:Nat) (l:List Int) (g:FuncId) (cap:List Value) (p:Int→Bool) (w:World) (hS:Sl w A n 1 (bC l)) (hn:n≤1000000) [ar Tryz.prog g]
  (hg:∀(z:Int) (w1:World),z∈l→Below w.heap.size w w1→Calls Tryz.prog g (.int .i64 z::cap).toArray w1 fun r w'=>r=.returned (.bool (p z))∧Below w1.heap.size w1 w'):
  Calls Tryz.prog 100 #[.slice A n c,.func (.func g) #[] cap.toArray] w fun r w'=>r=.returned (.bool (l.any p))∧Below w.heap.size w w':=by
 have hh:=Hp.start w;refine aj (N:=9) (l:=[.slice A n c,.func (.func g) #[] cap.toArray]) Tryz.func100 rfl rfl (by simp) ?_;refine sr (aB (aa (sr (mL ?_))));refine jh ?_;refine aG (C7 A n c l g cap p _ (hS.ext hh.below) hn hg) ar.out rfl VY ?_;exact Rw
theorem DF (A:Option Addr) (n c:Nat) (l:List NR) (g:FuncId) (cap:List Value) (p:NR→Bool) (w:World) (hS:Sl w A n 3 (az NR.cells l)) (hn:n≤1000000) [ar Tryz.prog g]
  (hg:∀(z:NR) (w1:World),z∈l→Below w.heap.size w w1→Calls Tryz.prog g (.agg #[.bool z.neg,.string z.bf,.int .i64 z.e]::cap).toArray w1 fun r w'=>r=.returned (.bool (p z))∧Below w1.heap.size w1 w'):
  Calls Tryz.prog 193 #[.slice A n c,.func (.func g) #[] cap.toArray] w fun r w'=>∃v,r=.returned (.int .i64 v)∧(0≤v↔l.any p=true)∧Below w.heap.size w w':=by
 have hh:=Hp.start w;have hln:=hS.bg NR.len VY;refine aj (N:=19) (l:=[.slice A n c,.func (.func g) #[] cap.toArray]) Tryz.func193 rfl rfl (by simp) ?_;refine Bg ?_;refine aM [4,5,8,9,10,11,12,13,14,15,16,17,18] 8
  (fun v w'=>∃i:Nat,i≤n∧v=.int .i64 i∧(l.take i).any p=false∧Hp w [] w')
  (fun v _=>n-(intOf v).toNat) ?_ ?_
 ·exact ⟨0,V5 _,rfl,rfl,hh⟩
 ·clear hh;rintro ρ' v w' ⟨i,hi,rfl,hall,hh⟩;by_cases hlt:i<n
  ·obtain ⟨z,hz⟩:=ak (l:=l) (k:=i) VX;obtain ⟨ad,rfl,hr⟩:=hS.at_ VX;have hc:=fun w1=>hg z w1 (V7 hz)
   cases gz:p z with
   |true=>
    rw [gz] at hc;refine sr ?_;refine rN ?_;refine jh ?_;refine mL (mI ?_);refine bY ?_;refine cA (vs:=[_,_,_]) aO.out rfl ((hr.ext hh.below).recAt NR.len hz) rfl VY ?_;exact Qv
   |false=>
    rw [gz] at hc;refine sr ?_;refine rN ?_;refine jh ?_;refine mL (mI ?_);refine bY ?_;refine cA (vs:=[_,_,_]) aO.out rfl ((hr.ext hh.below).recAt NR.len hz) rfl VY ?_;exact FO
  ·exact QZ
theorem Dz (A:Option Addr) (n c:Nat) (l:List NR) (g:FuncId) (cap:List Value) (p:NR→Bool) (w:World) (hS:Sl w A n 3 (az NR.cells l)) (hn:n≤1000000) [ar Tryz.prog g]
  (hg:∀(z:NR) (w1:World),z∈l→Below w.heap.size w w1→Calls Tryz.prog g (.agg #[.bool z.neg,.string z.bf,.int .i64 z.e]::cap).toArray w1 fun r w'=>r=.returned (.bool (p z))∧Below w1.heap.size w1 w'):
  Calls Tryz.prog 130 #[.slice A n c,.func (.func g) #[] cap.toArray] w fun r w'=>r=.returned (.bool (l.any p))∧Below w.heap.size w w':=by
 have hh:=Hp.start w;refine aj (N:=9) (l:=[.slice A n c,.func (.func g) #[] cap.toArray]) Tryz.func130 rfl rfl (by simp) ?_;refine sr (aB (aa (sr (mL ?_))));refine jh ?_;refine aG (DF A n c l g cap p _ (hS.ext hh.below) hn hg) ar.out rfl VY ?_;exact Rw
def gJ:Int→List Int→Int
 |n,[]=>n
 |n,d::ds=>if d<0∨127<d∨4096<n*(d+1) then 0 else gJ (n*(d+1)) ds
def Bs:Int→List Int→Int
 |n,[]=>n
 |n,d::ds=>Bs (min (n*(d+1)) 4097) ds
def sE (ds:List Int):Int:=if ds.any (fun d=> !cE d) then -1 else Bs 1 ds
def yJ (a:NR):Bool:= !(((nR a.d).neg==a.neg && (nR a.d).bf==a.bf) && (nR a.d).e==a.e)
theorem uV {a:NR}:yJ a=false↔nR a.d=a:=by
 unfold yJ;rw [Bool.not_eq_false',k9]
def fE (ds:List Int) (cs:List NR):Int:=
 if 12<ds.length∨ds.any (fun d=> !cE d)=true then 1 else if gJ 1 ds=0 then 3 else if (cs.length:Int)≠gJ 1 ds then 1 else if cs.any yJ=true then 1 else 0
theorem xl {ds:List Int} (h:ds.any (fun d=> !cE d)=false):∃ns:List Nat,ds=bU ns∧∀n∈ns,n≤127:=by
 refine ⟨ds.map Int.toNat, ?_,fun n hn=> ?_⟩
 ·unfold bU;rw [W5];refine (Y1 ds).symm.trans (XZ fun d hd=> ?_);have:=XD.1 h d hd;simp [cE] at this;show d=((d.toNat:Nat):Int);omega
 ·obtain ⟨d,hd,rfl⟩:=Wn.1 hn;have:=XD.1 h d hd;simp [cE] at this;omega
theorem kE:∀(ns:List Nat) (n:Nat),1≤n→n≤4096→(∀d∈ns,d≤127)→gJ n (bU ns)=if n*ay ns≤4096 then ((n*ay ns:Nat):Int) else 0
 |[],n,_,h,_=>by show (n:Int)=_;rw [ay,Wo,V2 h]
 |d::ns,n,h1,h2,h3=>by
  show (if (d:Int)<0∨127<(d:Int)∨4096<(n:Int)*((d:Int)+1) then 0 else gJ ((n:Int)*((d:Int)+1)) (bU ns))=_;have hd:=h3 d We;have e1:(n:Int)*((d:Int)+1)=((n*(d+1):Nat):Int):=by rw [Xn,X6];rfl
  rw [e1];by_cases hg:n*(d+1)≤4096
  ·rw [V3 VX,kE ns (n*(d+1)) (Nat.mul_pos h1 VX) hg fun x hx=>h3 x (Wg _ hx),ay,W6]
  ·have h4:n*(d+1)*1≤n*(d+1)*ay ns:=WS _ (cU ns);rw [V2 VX,V3];rw [ay,←W6];omega
theorem AH:∀(ns:List Nat) (n:Nat),1≤n→n≤4097→Bs n (bU ns)=((min (n*ay ns) 4097:Nat):Int)
 |[],n,_,h=>by show (n:Int)=_;rw [ay,Wo,Xd h]
 |d::ns,n,h1,h2=>by
  show Bs (min ((n:Int)*((d:Int)+1)) 4097) (bU ns)=_;have e1:min ((n:Int)*((d:Int)+1)) 4097=((min (n*(d+1)) 4097:Nat):Int):=by
   have:(n:Int)*((d:Int)+1)=((n*(d+1):Nat):Int):=by rw [Xn,X6];rfl
   rw [this];omega
  have hp:=Nat.mul_pos h1 (show 0<d+1 by omega);rw [e1,AH ns _ VX VX,ay,←W6];by_cases hg:n*(d+1)≤4097
  ·rw [Xd hg]
  ·have h4:n*(d+1)*1≤n*(d+1)*ay ns:=WS _ (cU ns);have h5:4097*1≤4097*ay ns:=WS _ (cU ns);rw [Nat.min_eq_right (by omega:4097≤n*(d+1)),Nat.min_eq_right VX,Nat.min_eq_right VX]
theorem EU:∀(ds:List Int) (n:Int),1≤n→n≤4096→0≤gJ n ds∧gJ n ds≤4096
 |[],n,_,h=>by show 0≤n∧n≤4096;omega
 |d::ds,n,h1,h2=>by
  rw [gJ];split
  ·omega
  ·rename_i hg;have:1*1≤n*(d+1):=YL h1 VX VY VX;exact EU ds _ VX VX
structure FV (ds:List Int) (cs:List NR) (ns:List Nat) (xs:List Dyadic):Prop where
 VT:ds=bU ns
 num:cs=xs.map nR
 P1:ns.length≤12
 low:∀n∈ns,n≤127
 len:xs.length=ay ns
 max:ay ns≤4096
theorem TW {ds:List Int}{cs:List NR} (h:fE ds cs=0):∃ns xs,FV ds cs ns xs∧xs=cs.map NR.d:=by
 unfold fE at h;split at h
 ·cases h
 rename_i h1;split at h
 ·cases h
 rename_i h2;split at h
 ·cases h
 rename_i h3;split at h
 ·cases h
 rename_i h4;have hb:ds.any (fun d=> !cE d)=false:=by
  cases hx:ds.any (fun d=> !cE d) with
  |false=>rfl
  |true=>exact absurd (.inr hx) h1
 obtain ⟨ns,rfl,hl⟩:=xl hb;have hc:=kE ns 1 VY VY hl;rw [X5] at hc;have hc1:gJ ((1:Nat):Int) (bU ns)=gJ 1 (bU ns):=rfl;rw [hc1] at hc;have hmax:ay ns≤4096:=by
  apply Yq;intro hg;rw [V3 hg] at hc;exact h2 hc
 rw [V2 hmax] at hc;have hlen:cs.length=ay ns:=by
  have:(cs.length:Int)=gJ 1 (bU ns):=Yx.1 h3;rw [hc] at this;omega
 refine ⟨ns,cs.map NR.d,⟨rfl, ?_,(by have h2:¬12<(bU ns).length:=fun h=>h1 (.inl h);rw [qI] at h2;omega),hl,by rw [Wh,hlen],hmax⟩,rfl⟩;rw [W5];refine (Y1 cs).symm.trans (XZ fun a ha=> ?_);have h5:yJ a=false:=by
  cases hx:yJ a with
  |false=>rfl
  |true=>exact absurd (XR.2 ⟨a,ha,hx⟩) h4
 exact (uV.1 h5).symm
end Go.Proofs.YteeckcbbnegmcaaGreatDoor
