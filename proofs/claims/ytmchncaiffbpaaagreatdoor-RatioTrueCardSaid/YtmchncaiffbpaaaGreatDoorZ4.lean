/- Lemmas for ratioTrue, part 4. -/
import Derived.LaidMore
import Derived.Lay
import Derived.Deep.Slices
import Derived.Stop.Joined
import Derived.Deep.Strs
import Derived.Laws.OwnMore
import Derived.Lib.SliceRun
import Derived.Test.YtmchncaiffbpaaaGreatDoorZ3
set_option maxHeartbeats 0
namespace Go.Proofs.YtmchncaiffbpaaaGreatDoor
variable {b n:Nat}
open Go.RowKit
theorem qh:bf n=0↔n=0:=by
 constructor
 ·intro h;have:=cw n;rw [h] at this;omega
 ·intro h;rw [h];exact mJ
theorem pB {a:Nat} (h:a≤b):bf a≤bf b:=cW (acB h (cw b))
theorem Oo (a b:Nat):bf (a+b)≤bf a+bf b+1:=by
 apply cW;have h1:=cw a;have h2:=cw b;have h3:2^bf a≤2^(bf a+bf b):=ach abq abq;have h4:2^bf b≤2^(bf a+bf b):=ach abq abq;rw [acr];omega
theorem dJ (s:Bool) (m:ByteArray) (w:World) (hm:m.size≤1000000000):
  Calls Tryz.prog 118 #[.agg #[.bool s,.string m]] w fun e w'=>e=.returned (.agg #[.bool (iN (iv s m)),.string (iM (iv s m))])∧Below w.heap.size w w':=by
 have hh:=Hp.start w;have h1:=jP m;rw [T6,Jt]
 cases s with
 |false=>
  refine ae (N:=16) (l:=[.agg #[.bool false,.string m]]) Tryz.func118 rfl rfl (by simp) ?_;refine bX ?_;intro b1 w1 hh b2 w2 hh;refine au (fS m _ hm) ak.out rfl abr ?_;rintro e_ w6 ⟨A6,c6,rfl,hown_,hb_⟩;refine ⟨_,rfl, ?_⟩;replace hh:=hh.aD (x:=.row _ _ _ _ _ _) hb_ hown_;refine Nu ?_;intro w7 hh;rw [jl];exact La
 |true=>
  by_cases h0:sN (bN m)=ByteArray.mk #[]
  ·refine ae (N:=16) (l:=[.agg #[.bool true,.string m]]) Tryz.func118 rfl rfl (by simp) ?_;refine bX ?_;intro b1 w1 hh b2 w2 hh;refine au (fS m _ hm) ak.out rfl abr ?_;rintro e_ w6 ⟨A6,c6,rfl,hown_,hb_⟩;refine ⟨_,rfl, ?_⟩;replace hh:=hh.aD (x:=.row _ _ _ _ _ _) hb_ hown_;refine Nu ?_;intro w7 hh;rw [jl];refine aj ?_
   (first|refine jr rfl rfl (by first|rfl|assumption|decide) abr ?_|refine jm rfl rfl (by first|assumption|decide) abr ?_)
   refine bT ?_;intro ws hh;refine Ii ?_;exact UF
  ·refine ae (N:=16) (l:=[.agg #[.bool true,.string m]]) Tryz.func118 rfl rfl (by simp) ?_;refine bX ?_;intro b1 w1 hh b2 w2 hh;refine au (fS m _ hm) ak.out rfl abr ?_;rintro e_ w6 ⟨A6,c6,rfl,hown_,hb_⟩;refine ⟨_,rfl, ?_⟩;replace hh:=hh.aD (x:=.row _ _ _ _ _ _) hb_ hown_;refine Nu ?_;intro w7 hh;rw [jl];refine aj ?_
   (first|refine jr rfl rfl (by first|rfl|assumption|decide) abr ?_|refine jm rfl rfl (by first|assumption|decide) abr ?_)
   refine bT ?_;intro ws hh;refine Ii ?_;exact Ug
theorem kn (s:Bool) (m:ByteArray) (w:World) (hm:m.size≤1000000000):
  Calls Tryz.prog 99 #[.agg #[.bool s,.string m]] w fun e w'=>e=.returned (.int .i64 (iv s m).sign)∧Below w.heap.size w w':=by
 have hh:=Hp.start w;by_cases h0:bN m=0
 ·have hb:bf (bN m)=0:=qh.2 h0;refine ae (N:=9) (l:=[.agg #[.bool s,.string m]]) Tryz.func99 rfl rfl (by simp) ?_;refine bT ?_;intro b1 w1 hh;refine aZ hh (qw m _ hm) rfl ?_;intro w5 hh;refine aj ?_;have hz:iv s m=0:=by unfold iv;split<;>omega
  exact ⟨by rw [hz];rfl,hh.below⟩
 ·have hb:bf (bN m)≠0:=fun h=>h0 (qh.1 h)
  cases s with
  |true=>
   refine ae (N:=9) (l:=[.agg #[.bool true,.string m]]) Tryz.func99 rfl rfl (by simp) ?_;refine bT ?_;intro b1 w1 hh;refine aZ hh (qw m _ hm) rfl ?_;intro w5 hh;refine aj ?_;have hz:iv true m<0:=by unfold iv;rw [abx rfl];omega
   exact ⟨by rw [adb hz],hh.below⟩
  |false=>
   refine ae (N:=9) (l:=[.agg #[.bool false,.string m]]) Tryz.func99 rfl rfl (by simp) ?_;refine bT ?_;intro b1 w1 hh;refine aZ hh (qw m _ hm) rfl ?_;intro w5 hh;refine aj ?_;have hz:0<iv false m:=by unfold iv;rw [abw (by simp)];omega
   exact ⟨by rw [adi hz],hh.below⟩
theorem tu (n:Int) (w:World) (h1: -9223372036854775808≤n) (h2:n≤9223372036854775807):
  Calls Tryz.prog 101 #[.int .i64 n] w fun e w'=>e=.returned (.agg #[.bool (iN n),.string (iM n)])∧Below w.heap.size w w':=by
 have hh:=Hp.start w;by_cases h0:n<0
 ·have hn:iN n=true:=abQ h0;obtain ⟨m,hm⟩:=aeX (by omega:0≤ -(n+1));have ha:n.natAbs=m+1:=abq;have hw:(m+1) % 18446744073709551616=m+1:=aci abq;refine ae (N:=16) (l:=[.int .i64 n]) Tryz.func101 rfl rfl (by simp) ?_;refine sr ?_;refine yU hh ?_;intro b2 w2 hh;refine aJ (bO (sr (mI ?_)));refine nP (aJ (cT (sr (mI ?_))));refine nC ?_;refine Mk rfl abq abq abr ?_;rw [show -(n+1)=(m:Int) from hm];refine mv ?_;refine fG (b:=1) rfl rfl abr ?_;rw [hw];refine aZ hh (Aw (m+1) _ abq) rfl ?_;intro w10 hh;rw [←ha];refine bT ?_;intro ws hh;refine rE ?_;rw [hn];exact ⟨rfl,hh.below⟩
 ·obtain ⟨m,rfl⟩:=aeX (by omega:0≤n);have hn:iN (m:Int)=false:=abR abq;have hm:m<18446744073709551616:=abq;have e1:iM (m:Int)=sN m:=rfl;refine ae (N:=16) (l:=[.int .i64 (m:Int)]) Tryz.func101 rfl rfl (by simp) ?_;refine sr ?_;refine yU hh ?_;intro b2 w2 hh;refine aJ (bO (sr (mI ?_)));refine nP (aJ (cF (dA (eF (sr (mI ?_))))));refine mv ?_;refine aZ hh (Aw m _ hm) rfl ?_;intro w14 hh;refine bT ?_;intro ws hh;refine rE ?_;rw [hn,e1];exact ⟨rfl,hh.below⟩
theorem oK (s t:Bool) (a b:ByteArray) (w:World) (ha:a.size≤100000000) (hb:b.size≤100000000):
  Calls Tryz.prog 100 #[.agg #[.bool s,.string a],.agg #[.bool t,.string b]] w fun e w'=>e=.returned (.agg #[.bool (iN (iv s a+iv t b)),.string (iM (iv s a+iv t b))])∧Below w.heap.size w w':=by
 have hh:=Hp.start w;have hba:=g6 a;have hbb:=g6 b;by_cases hst:s=t
 ·subst hst;have e1:iv s (sN (bN a+bN b))=iv s a+iv s b:=by unfold iv;rw [fI];split<;>omega
  have hsz:(sN (bN a+bN b)).size≤1000000000:=by rw [kf];have:=Oo (bN a) (bN b);omega
  rw [←e1];refine ae (N:=49) (l:=[.agg #[.bool s,.string a],.agg #[.bool s,.string b]]) Tryz.func100 rfl rfl (by simp) ?_;refine lK ?_;intro b2 w2 hh b3 w3 hh b4 w4 hh;refine H5 bq.out rfl rfl (by first|rfl|assumption) abr ?_;refine aj ?_;refine aC 8 [[(2,none)],[(12,some 0)],[(2,none)],[(14,some 2)],[(3,none)],[(16,some 4)],[(15,some 3),(17,some 5)],[(18,some 6)]] [(7,19),(6,18),(5,17),(4,16),(3,15),(2,14),(1,13),(0,12)] hh mixed abt ?_;refine dw ?_;refine fF 2 ?_;refine dw ?_;refine fF 2 ?_;refine dw ?_;refine fF 1 ?_;refine uW [_,_] ?_;refine aW (i:=7) (Is (.string (sN (bN a+bN b)))) Is.ext ?_ ?_
  ·intro ρ1 w1 hj hR;obtain ⟨A18,c18,h18,s18⟩:=hR.1;exact bp rfl (aR ak.out (aq h18 aY)) (GK A18 2 c18 [a,b] _ s18 abq (by simp;omega)) (fun _ _ hq=>⟨_,hq.1,hq.2,rfl⟩)
  refine av ?_;intro f W hJ hV;have hb_2:=hJ.bl;obtain ⟨v19,v18,v17,v16,v15,v14,v13,v12,_⟩:=hV;obtain ⟨A18,c18,e18,f18⟩:Rows _ _ _ (f 6) W:=v18;replace hh:=hJ.hp;refine ay (aQ (aa v19 (aa e18 (aa v17 (aa v16 (aa v15 (aa v14 (aa v13 (aa v12 aw))))))))) ?_;dsimp only [bA];clear e18 hJ;refine aj ?_;refine aZ hh (dJ s (sN (bN a+bN b)) _ hsz) rfl ?_;intro w21 hh;exact uR
 ·by_cases hle:bN b≤bN a
  ·have e1:iv s (sN (bN a-bN b))=iv s a+iv t b:=by unfold iv;rw [fI];cases s<;>cases t<;>simp at hst ⊢ <;>omega
   have hsz:(sN (bN a-bN b)).size≤1000000000:=by rw [kf];have:=pB (show bN a-bN b≤bN a by omega);omega
   rw [←e1];refine ae (N:=49) (l:=[.agg #[.bool s,.string a],.agg #[.bool t,.string b]]) Tryz.func100 rfl rfl (by simp) ?_;refine lK ?_;intro b2 w2 hh b3 w3 hh b4 w4 hh;refine Ji ?_;refine aj ?_;refine aZ hh (qK a b _ abq abq) rfl ?_;intro w27 hh;rw [abQ hle];refine aj ?_;refine aZ hh (dJ s (sN (bN a-bN b)) _ hsz) rfl ?_;intro w35 hh;exact uR
  ·have e1:iv t (sN (bN b-bN a))=iv s a+iv t b:=by unfold iv;rw [fI];cases s<;>cases t<;>simp at hst ⊢ <;>omega
   have hsz:(sN (bN b-bN a)).size≤1000000000:=by rw [kf];have:=pB (show bN b-bN a≤bN b by omega);omega
   rw [←e1];refine ae (N:=49) (l:=[.agg #[.bool s,.string a],.agg #[.bool t,.string b]]) Tryz.func100 rfl rfl (by simp) ?_;refine lK ?_;intro b2 w2 hh b3 w3 hh b4 w4 hh;refine Ji ?_;refine aj ?_;refine aZ hh (qK a b _ abq abq) rfl ?_;intro w27 hh;rw [abR hle];refine aj ?_;refine aZ hh (qK b a _ abq abq) rfl ?_;intro w41 hh;refine aj ?_;refine aZ hh (dJ t (sN (bN b-bN a)) _ hsz) rfl ?_;intro w48 hh;exact uR
theorem GJ (s:Bool) (a:ByteArray) (k:Nat) (w:World) (ha:a.size≤100000000) (hk:k≤1000000000):
  Calls Tryz.prog 98 #[.agg #[.bool s,.string a],.int .i64 (k:Int)] w fun e w'=>e=.returned (.agg #[.bool (iN (iv s a*2^k)),.string (iM (iv s a*2^k))])∧Below w.heap.size w w':=by
 have hh:=Hp.start w;have hba:=g6 a;have e2:iv s (sN (bN a*2^k))=iv s a*2^k:=by unfold iv;rw [fI];split<;>simp [Int.neg_mul]
 have hsz:(sN (bN a*2^k)).size≤1000000000:=by rw [kf];have:=iB (bN a) k;omega
 rw [←e2];refine ae (N:=43) (l:=[.agg #[.bool s,.string a],.int .i64 (k:Int)]) Tryz.func98 rfl rfl (by simp) ?_;refine bX ?_;intro b2 w2 hh b4 w4 hh;refine aC 6 [[(2,none)],[(12,some 0)],[(2,none)],[(14,some 2)],[(1,none)],[(15,some 3),(16,some 4)]] [(5,17),(4,16),(3,15),(2,14),(1,13),(0,12)] hh mixed abt ?_;refine dw ?_;refine fF 1 ?_;refine dw ?_;refine fF 1 ?_;refine dp ?_;refine dC (fun _ hj=>Gp a k _ abq abq) ?_;refine av ?_;intro f W hJ hV;have hb_2:=hJ.bl;obtain ⟨v17,v16,v15,v14,v13,v12,_⟩:=hV;replace hh:=hJ.hp;refine ay (aQ (aa v17 (aa v16 (aa v15 (aa v14 (aa v13 (aa v12 aw))))))) ?_;dsimp only [bA];clear hJ;refine aj ?_;refine aZ hh (dJ s (sN (bN a*2^k)) _ hsz) rfl ?_;intro w19 hh;exact uR
theorem qX (z:Int) (B:Nat) (q r:Int) (h:r+B*q=z) (h0:0≤r) (h1:r<B):z/B=q∧z % B=r:=
 (Int.ediv_emod_unique abq).2 ⟨h,h0,h1⟩
theorem GL (s:Bool) (a b:ByteArray) (w:World) (ha:a.size≤10000000) (hb:b.size≤10000000) (hb0:bN b≠0):
  Calls Tryz.prog 97 #[.agg #[.bool s,.string a],.agg #[.bool false,.string b]] w fun e w'=>e=.returned (.tuple #[.agg #[.bool (iN (iv s a/bN b)),.string (iM (iv s a/bN b))],.agg #[.bool (iN (iv s a % bN b)),.string (iM (iv s a % bN b))],.bool true])∧Below w.heap.size w w':=by
 have hh:=Hp.start w;have hba:=g6 a;have hbb:=g6 b;have hmod:bN a % bN b<bN b:=ab4 _ abq;have hdm:bN b*(bN a/bN b)+bN a % bN b=bN a:=acO _ _;have hdm':(bN b:Int)*((bN a/bN b:Nat):Int)+((bN a % bN b:Nat):Int)=(bN a:Int):=by rw [←acK,←acZ,hdm]
 have hqs:(sN (bN a/bN b)).size≤10000000:=by rw [kf];have:=pB (adM (bN a) (bN b));omega
 have hrs:(sN (bN a % bN b)).size≤10000000:=by rw [kf];have:=pB (show bN a % bN b≤bN b by omega);omega
 have hqz:∀u,(iM (iv u (sN (bN a/bN b)))).size≤10000000:=fun u=>by rw [Jt,fI];exact hqs
 have hrz:∀u,(iM (iv u (sN (bN a % bN b)))).size≤10000000:=fun u=>by rw [Jt,fI];exact hrs
 by_cases hneg:s=true∧bN a % bN b≠0
 ·obtain ⟨rfl,hne⟩:=hneg;have e1:iv true (sN (bN a/bN b))= -((bN a/bN b:Nat):Int):=by unfold iv;rw [fI,abx rfl]
  have e2:iv true (sN (bN a % bN b))= -((bN a % bN b:Nat):Int):=by unfold iv;rw [fI,abx rfl]
  have hlt:(iv true (sN (bN a % bN b))).sign<0:=by rw [e2,adb abq];omega
  have e3:iv true a= -(bN a:Int):=by unfold iv;rw [abx rfl]
  obtain ⟨q1,q2⟩:=qX (iv true a) (bN b) (-((bN a/bN b:Nat):Int)+ -1) ((bN b:Int)-((bN a % bN b:Nat):Int)) (by rw [e3,←hdm',Int.mul_add,aew];omega) abq abq;have e4:iv false b=(bN b:Int):=by unfold iv;rw [abw (by simp)]
  have hp2:(bN b:Int).sign=1:=adi abq;refine ae (N:=57) (l:=[.agg #[.bool true,.string a],.agg #[.bool false,.string b]]) Tryz.func97 rfl rfl (by simp) ?_;refine sr ?_;refine yD hh [_,_] ?_;intro b2 w2 hh;refine yD hh [_,_] ?_;intro b3 w3 hh;refine yU hh ?_;intro b4 w4 hh;refine yU hh ?_;intro b5 w5 hh;refine aB (aJ (sr (tq ?_)));refine p8 hh 3 ?_;refine tq ?_;refine p8 hh 2 ?_;refine aZ hh (qH a b _ abq abq hb0) rfl ?_;intro w18 hh;refine mT ?_;refine vk ?_;refine vk ?_;refine vk ?_;refine aS (aS (aB (aJ (bO (sr (mB ?_))))));refine Q8 ?_;refine aJ (cF (dA (eF (sr (tq ?_)))));refine p8 hh 3 ?_;refine tq ?_;refine p8 hh 2 ?_;refine Je bq.out rfl rfl (by first|assumption|decide) abr ?_;refine mS ?_;refine BU [_,_] ?_;refine aZ hh (dJ true (sN (bN a/bN b)) _ abq) rfl ?_;intro w33 hh;refine yU hh ?_;intro b10 w10 hh;refine gE hh 0 [_,_] ?_;intro ws hh;replace hh:Hp _ (.blk _ _ [_,_] _::_) _:=hh;refine aJ (sr (tq ?_));refine p8 hh 4 ?_;refine mS ?_;refine BU [_,_] ?_;refine aZ hh (dJ true (sN (bN a % bN b)) _ abq) rfl ?_;intro w38 hh;refine yU hh ?_;intro b11 w11 hh;refine gE hh 0 [_,_] ?_;intro ws hh
  replace hh:Hp _ (.blk _ _ [_,_] _::_) _:=hh;refine aJ (bO (sr ?_));refine m9 hh 0 [_,_] ?_;refine aZ hh (kn (iN (iv true (sN (bN a % bN b)))) (iM (iv true (sN (bN a % bN b)))) _ (by have:=hrz true;omega)) rfl ?_;intro w40 hh;rw [ee];refine nP (aJ (cT (sr ?_)));refine m9 hh 0 [_,_] (tq ?_);refine p8 hh 4 ?_;refine BU [_,_] ?_;refine aZ hh (oK (iN (iv true (sN (bN a % bN b)))) false (iM (iv true (sN (bN a % bN b)))) b _ (by have:=hrz true;omega) abq) rfl ?_;intro w46 hh;rw [ee,e2,e4,show -((bN a % bN b:Nat):Int)+(bN b:Int)=(bN b:Int)-((bN a % bN b:Nat):Int) by omega,←q2];refine gE hh 0 [_,_] ?_;intro ws hh;replace hh:Hp _ (.blk _ _ [_,_] _::_) _:=hh;refine aJ (sr ?_);refine aZ hh (tu (-1) _ abq abq) rfl ?_;intro w47 hh;refine yU hh ?_;intro b12 w12 hh;refine gE hh 0 [_,_] ?_;intro ws hh;replace hh:Hp _ (.blk _ _ [_,_] _::_) _:=hh;refine aJ (bO (sr ?_));refine m9 hh 5 [_,_] ?_;refine aZ hh (kn false b _ abq) rfl ?_;intro w49 hh;rw [e4,hp2];refine nP (aJ (cF (dA (eF (bR ?_)))));refine m9 hh 2 [_,_] ?_;refine m9 hh 0 [_,_] ?_
  refine aZ hh (oK (iN (iv true (sN (bN a/bN b)))) (iN (-1)) (iM (iv true (sN (bN a/bN b)))) (iM (-1)) _ (by have:=hqz true;omega) abr) rfl ?_;intro w54 hh;rw [ee,ee,e1,←q1];refine gE hh 2 [_,_] ?_;intro ws hh;replace hh:Hp _ (_::_::.blk _ _ [_,_] _::_) _:=hh;refine aJ (bO ?_);refine pw hh mixed fun w_ hj_=> ?_;replace hh:=hj_.hp;clear hj_;refine vU (i:=0) (i2:=1) abt rfl rfl ?_ ?_
  ·refine m9 hh 2 [_,_] ?_;refine dO ?_;refine vU (i:=1) (i2:=2) abt rfl rfl ?_ ?_
   ·refine m9 hh 1 [_,_] ?_;exact SV
   ·refine gE hh 4 [_,_] ?_;intro ws hh;replace hh:Hp _ (_::_::_::_::.blk _ _ [_,_] _::_) _:=hh;refine dO ?_;refine eO (i:=1) abt rfl ?_;refine m9 hh 1 [_,_] ?_;exact Xn
  ·refine m9 hh 1 [_,_] ?_;refine dO ?_;refine eO (i:=0) abt rfl ?_;refine m9 hh 2 [_,_] ?_;exact SV
 ·have e4:iv s a/bN b=iv s (sN (bN a/bN b))∧iv s a % bN b=iv s (sN (bN a % bN b)):=by
   cases s with
   |false=>
    have f0:∀x,iv false x=(bN x:Int):=fun x=>by unfold iv;rw [abw (by simp)]
    rw [f0,f0,f0,fI,fI];exact qX _ _ _ _ abq abq abq
   |true=>
    have r0:bN a % bN b=0:=by
     rcases adw (bN a % bN b) with h|h
     ·exact h
     ·exact absurd ⟨rfl,abq⟩ hneg
    have f0:∀x,iv true x= -(bN x:Int):=fun x=>by unfold iv;rw [abx rfl]
    rw [f0,f0,f0,fI,fI,r0];rw [r0] at hdm';exact qX _ _ _ _ (by rw [aew];omega) abq abq
  have h5:¬(iv s (sN (bN a % bN b))).sign<0:=by
   have h6:0≤iv s (sN (bN a % bN b)):=by rw [←e4.2];exact Int.emod_nonneg _ abq
   have:=Int.sign_nonneg_iff.2 h6;omega
  rw [e4.1,e4.2]
  cases s with
  |false=>
   refine ae (N:=57) (l:=[.agg #[.bool false,.string a],.agg #[.bool false,.string b]]) Tryz.func97 rfl rfl (by simp) ?_;refine sr ?_;refine yD hh [_,_] ?_;intro b2 w2 hh;refine yD hh [_,_] ?_;intro b3 w3 hh;refine yU hh ?_;intro b4 w4 hh;refine yU hh ?_;intro b5 w5 hh;refine aB (aJ (sr (tq ?_)));refine p8 hh 3 ?_;refine tq ?_;refine p8 hh 2 ?_;refine aZ hh (qH a b _ abq abq hb0) rfl ?_;intro w18 hh;refine mT ?_;refine vk ?_;refine vk ?_;refine vk ?_;refine aS (aS (aB (aJ (bO (sr (mB ?_))))));refine Q8 ?_;refine aJ (cF (dA (eF (sr (tq ?_)))));refine p8 hh 3 ?_;refine tq ?_;refine p8 hh 2 ?_;refine R6 bq.out rfl rfl (by first|rfl|assumption) abr ?_;refine mS ?_;refine BU [_,_] ?_;refine aZ hh (dJ false (sN (bN a/bN b)) _ abq) rfl ?_;intro w33 hh;refine yU hh ?_;intro b10 w10 hh;refine gE hh 0 [_,_] ?_;intro ws hh;replace hh:Hp _ (.blk _ _ [_,_] _::_) _:=hh;refine aJ (sr (tq ?_));refine p8 hh 4 ?_;refine mS ?_;refine BU [_,_] ?_;refine aZ hh (dJ false (sN (bN a % bN b)) _ abq) rfl ?_;intro w38 hh;refine yU hh ?_;intro b11 w11 hh;refine gE hh 0 [_,_] ?_;intro ws hh;replace hh:Hp _ (.blk _ _ [_,_] _::_) _:=hh;refine aJ (bO (sr ?_));refine m9 hh 0 [_,_] ?_
   refine aZ hh (kn (iN (iv false (sN (bN a % bN b)))) (iM (iv false (sN (bN a % bN b)))) _ (by have:=hrz false;omega)) rfl ?_;exact ZQ
  |true=>
   refine ae (N:=57) (l:=[.agg #[.bool true,.string a],.agg #[.bool false,.string b]]) Tryz.func97 rfl rfl (by simp) ?_;refine sr ?_;refine yD hh [_,_] ?_;intro b2 w2 hh;refine yD hh [_,_] ?_;intro b3 w3 hh;refine yU hh ?_;intro b4 w4 hh;refine yU hh ?_;intro b5 w5 hh;refine aB (aJ (sr (tq ?_)));refine p8 hh 3 ?_;refine tq ?_;refine p8 hh 2 ?_;refine aZ hh (qH a b _ abq abq hb0) rfl ?_;intro w18 hh;refine mT ?_;refine vk ?_;refine vk ?_;refine vk ?_;refine aS (aS (aB (aJ (bO (sr (mB ?_))))));refine Q8 ?_;refine aJ (cF (dA (eF (sr (tq ?_)))));refine p8 hh 3 ?_;refine tq ?_;refine p8 hh 2 ?_;refine Je bq.out rfl rfl (by first|assumption|decide) abr ?_;refine mS ?_;refine BU [_,_] ?_;refine aZ hh (dJ true (sN (bN a/bN b)) _ abq) rfl ?_;intro w33 hh;refine yU hh ?_;intro b10 w10 hh;refine gE hh 0 [_,_] ?_;intro ws hh;replace hh:Hp _ (.blk _ _ [_,_] _::_) _:=hh;refine aJ (sr (tq ?_));refine p8 hh 4 ?_;refine mS ?_;refine BU [_,_] ?_;refine aZ hh (dJ true (sN (bN a % bN b)) _ abq) rfl ?_;intro w38 hh;refine yU hh ?_;intro b11 w11 hh;refine gE hh 0 [_,_] ?_;intro ws hh;replace hh:Hp _ (.blk _ _ [_,_] _::_) _:=hh;refine aJ (bO (sr ?_));refine m9 hh 0 [_,_] ?_
   refine aZ hh (kn (iN (iv true (sN (bN a % bN b)))) (iM (iv true (sN (bN a % bN b)))) _ (by have:=hrz true;omega)) rfl ?_;exact ZQ
variable {j k m:Nat}{z:Int}
theorem Iy (h:n≠0):sb n=sb (n/256)++[UInt8.ofNat (n % 256)]:=by
 rw [sb,J5 abq h,ab8,adQ]
 rfl
theorem Hy (h:n≠0):1≤(sN n).size∧∃c:UInt8,(sN n).data.toList[(((sN n).size:Int)-1).toNat]?=some c∧c.toNat=n % 256:=by
 have hl:(sN n).data.toList=sb (n/256)++[UInt8.ofNat (n % 256)]:=by rw [sN,dH,Iy h]
 have hs:(sN n).size=(sb (n/256)).length+1:=by rw [dY,hl,abJ];rfl
 refine ⟨abq,UInt8.ofNat (n % 256), ?_, ?_⟩
 ·rw [hl,hs,acP abq];have:(((sb (n/256)).length+1:Nat)-1:Int).toNat-(sb (n/256)).length=0:=abq;rw [this]
  rfl
 ·simp
theorem Wi (h:n≠0):(sN n).extract 0 ((sN n).size-1)=sN (n/256):=by
 have hl:(sN n).data=(sb (n/256)++[UInt8.ofNat (n % 256)]).toArray:=by rw [sN,←Iy h];rfl
 have hs:(sN n).size=(sb (n/256)).length+1:=by rw [dY,hl,abJ];rfl
 apply ByteArray.ext;rw [ByteArray.data_extract,hl,hs];show _=(sb (n/256)).toArray;simp
theorem VK {k:Int} (h:0<k) (y:Int):iN (y*k)=iN y:=by
 unfold iN;rw [decide_eq_decide];constructor
 ·intro h1
  rcases aeG y 0 with h2|h2|h2
  ·exact h2
  ·rw [h2] at h1;simp at h1
  ·have:=Int.mul_pos h2 h;omega
 ·intro h1;exact Int.mul_neg_of_neg_of_pos h1 h
theorem VS (h:n % 2=1):tz n=0:=by
 have:=Ja 0 (n/2);rwa [show 2^0*(2*(n/2)+1)=n by omega] at this
theorem PJ {y e:Int} (hy:y.natAbs % 2=1) (hz:y*2^j=z):nR (Dyadic.ofIntWithPrec z (-e))=⟨iN y,iM y,e+j⟩:=by
 have h1:=sT (s:=iN y) (a:=iM y) (e:=e+j) (by rw [ee];omega);rw [ee,iM,fI,VS hy] at h1;have h2:=pf y (-(e+j)) j;rw [hz,show -(e+(j:Int))+j= -e by omega] at h2;rw [h2,h1];simp
theorem vt {y:Int} (hy:y≠0) (hz:y*2^j=z) (hm:z.natAbs<2^m):j<m:=by
 have h1:z.natAbs=y.natAbs*2^j:=by rw [←hz,adu,ad3];rfl
 have h2:1*2^j≤y.natAbs*2^j:=acx _ abq;have h3:2^j<2^m:=abq;exact (afd abq).1 h3
theorem oZ (s:Bool) (a:ByteArray) (e:Int) (w:World) (ha:a.size≤10000000) (h1: -1000000000000≤e) (h2:e≤1000000000000):
  Calls Tryz.prog 72 #[.agg #[.bool s,.string a],.int .i64 e] w fun r w'=>r=.returned (.agg #[.bool (nR (Dyadic.ofIntWithPrec (iv s a) (-e))).neg,.string (nR (Dyadic.ofIntWithPrec (iv s a) (-e))).aO,.int .i64 (nR (Dyadic.ofIntWithPrec (iv s a) (-e))).e])∧Below w.heap.size w w':=by
 have hh:=Hp.start w;by_cases h0:iv s a=0
 ·have hm:=uX.2 h0;rw [h0] at hm;refine ae (N:=50) (l:=[.agg #[.bool s,.string a],.int .i64 e]) Tryz.func72 rfl rfl (by simp) ?_;refine bX ?_;intro b2 w2 hh b4 w4 hh;refine aZ hh (dJ s a _ abq) rfl ?_;intro w6 hh;rw [h0];refine bT ?_;intro ws hh;refine jv rfl rfl (by first|rfl|assumption|decide) abr ?_;refine bT ?_;intro ws hh;refine Aa ?_;rw [ik,nF];exact ⟨rfl,hh.below⟩
 ·have hm:¬iM (iv s a)=ByteArray.mk #[]:=fun h=>h0 (uX.1 h);have hzb:(iv s a).natAbs<2^(8*a.size):=by
   rw [lC,acv];exact Am a
  refine ae (N:=50) (l:=[.agg #[.bool s,.string a],.int .i64 e]) Tryz.func72 rfl rfl (by simp) ?_;refine bX ?_;intro b2 w2 hh b4 w4 hh;refine aZ hh (dJ s a _ abq) rfl ?_;intro w6 hh;refine bT ?_;intro ws hh;refine ju rfl rfl (by first|assumption|decide) abr ?_;refine aj ?_;generalize hz:iv s a=z at*;refine aH [1,11,12,13,14,15,16,17,18,19,20,21,22,23,24,25,26,27,28] 1
   (fun v w'=>∃(y:Int) (j:Nat),y≠0∧y*2^j=z∧v=.int .i64 (e+j)∧Hp w [.blk b4 33 [.bool false,.string (ByteArray.mk #[]),.int .i64 0] (0,0),.blk b2 31 [.bool (iN y),.string (iM y)] (0,0)] w')
   (fun v _=>(e+8*a.size+1-intOf v).toNat) ?_ ?_
  ·exact ⟨z,0,h0,by simp,by show Value.int _ _=Value.int _ _;congr 1;omega,hh⟩
  ·clear hh;rintro ρ' v w' ⟨y,j,hy,hyz,rfl,hh⟩;have hj:=vt hy hyz hzb;obtain ⟨hs1,c,hc,hcn⟩:=Hy (n:=y.natAbs) abq;have hcut:=Wi (n:=y.natAbs) abq;have hsz:(sN y.natAbs).size≤10000000:=by
    exact Xa
   change (iM y).data.toList[(((iM y).size:Int)-1).toNat]?=some c at hc
   change 1≤(iM y).size at hs1
   change (iM y).extract 0 ((iM y).size-1)=_ at hcut
   change (iM y).size≤_ at hsz
   by_cases hb:y.natAbs % 256=0
   ·obtain ⟨x,rfl⟩:∃x,y=x*256:=⟨y/256,abq⟩;have hx:x≠0:=fun h=>hy (by rw [h];rfl);have e1:iN (x*256)=iN x:=VK abq x;have e2:sN ((x*256).natAbs/256)=iM x:=by rw [iM];congr 1;omega
    have hxz:x*2^(j+8)=z:=by rw [←hyz,Int.pow_add,Int.mul_assoc,Int.mul_comm (2^j)];rfl
    have hj2:=vt hx hxz hzb;refine aj ?_;refine ux (l:=0) (h:=((iM (x*256)).size-1)) bq.out rfl rfl ⟨_,_,rfl,abq⟩ abq abq abr ?_;refine bT ?_;intro ws hh;rw [hcut,e2,e1] at hh;refine ⟨⟨x,j+8,hx,hxz,by show Value.int _ _=Value.int _ _;congr 1;omega,hh⟩,by show (e+8*a.size+1-(e+j+8)).toNat<(e+8*a.size+1-(e+j)).toNat;omega, ?_⟩;exact dI
   ·refine aj ?_;refine aH [1,29,30,31,32,33,34,35,36,37,38,39,40,41,42,43,44,45,46] 1
     (fun v w'=>∃(y:Int) (j:Nat),y≠0∧y*2^j=z∧v=.int .i64 (e+j)∧Hp w [.blk b4 33 [.bool false,.string (ByteArray.mk #[]),.int .i64 0] (0,0),.blk b2 31 [.bool (iN y),.string (iM y)] (0,0)] w')
     (fun v _=>(e+8*a.size+1-intOf v).toNat) ?_ ?_
    ·exact ⟨y,j,hy,hyz,rfl,hh⟩
    ·clear hh hb hcut hcn hc hs1 hsz hj hy hyz;rintro ρ2 v w2 ⟨y,j,hy,hyz,rfl,hh⟩;have hj:=vt hy hyz hzb;obtain ⟨hs1,c,hc,hcn⟩:=Hy (n:=y.natAbs) abq;have hsz:(sN y.natAbs).size≤10000000:=by
      exact Xa
     change (iM y).data.toList[(((iM y).size:Int)-1).toNat]?=some c at hc
     change 1≤(iM y).size at hs1
     change (iM y).size≤_ at hsz
     by_cases hb:y.natAbs % 2=0
     ·obtain ⟨x,rfl⟩:∃x,y=x*2:=⟨y/2,abq⟩;have hx:x≠0:=fun h=>hy (by rw [h];rfl);have hxz:x*2^(j+1)=z:=by rw [←hyz,Int.pow_add,Int.mul_assoc,Int.mul_comm (2^j)];rfl
      have hj2:=vt hx hxz hzb;have hof:∀w1,Calls Tryz.prog 101 #[.int .i64 2] w1 fun e w'=>e=.returned (.agg #[.bool false,.string (iM 2)])∧Below w1.heap.size w1 w':=fun w1=>tu 2 w1 abq abq;have hdv:∀w1,Calls Tryz.prog 97 #[.agg #[.bool (iN (x*2)),.string (iM (x*2))],.agg #[.bool false,.string (iM 2)]] w1 fun e w'=>e=.returned (.tuple #[.agg #[.bool (iN x),.string (iM x)],.agg #[.bool (iN 0),.string (iM 0)],.bool true])∧Below w1.heap.size w1 w':=fun w1=>by
       have h2:bN (iM 2)=2:=fI 2;have h3:(iM 2).size≤10000000:=by rw [dn];decide
       have:=GL (iN (x*2)) (iM (x*2)) (iM 2) w1 hsz h3 abq;rw [ee,h2,show x*2/((2:Nat):Int)=x by omega,show x*2 % ((2:Nat):Int)=0 by omega] at this;exact this
      refine aj ?_;refine Fx (b:=2) rfl rfl abq abr ?_;refine aj ?_;refine db [] [5,6] [0,0,3,7,15,15,15,31] 7 [[(2,none)],[],[(39,some 0),(40,some 1)],[(41,some 2)],[(38,some 3)],[(38,some 3)],[(38,some 3)]] [(6,44),(5,43),(4,42),(3,38),(2,41),(1,40),(0,39)] hh mixed abt dx rfl (by repeat (first|exact bV|refine bD ?_|refine bU ?_)) ?_;refine da 1 [_,_] ?_;refine dC (fun _ hj=>hof _) ?_;refine dC (fun _ hj=>hdv _) ?_;refine Y7 ?_;refine V0 ?_;refine V0 ?_;refine V0 ?_;refine av ?_;intro f W hJ hV _;have hb_8:=hJ.bl;obtain ⟨v44,v43,v42,v38,v41,v40,v39,_⟩:=hV;replace hh:=hJ.hp;refine ay (aQ (aa v44 (aa v43 (aa v42 (aa v38 (aa v41 (aa v40 (aa v39 aw)))))))) ?_;dsimp only [bA];clear hJ;refine bT ?_;intro ws hh;refine ⟨⟨x,j+1,hx,hxz,by show Value.int _ _=Value.int _ _;congr 1;omega,hh⟩,by show (e+8*a.size+1-(e+j+1)).toNat<(e+8*a.size+1-(e+j)).toNat;omega, ?_⟩;exact dI
     ·have hfin:=PJ (e:=e) (show y.natAbs % 2=1 by omega) hyz;refine aj ?_;refine Fx (b:=2) rfl rfl abq abr ?_;refine bT ?_;intro ws hh;refine Aa ?_;rw [hfin];exact ⟨rfl,hh.below⟩
theorem Cy {e:Int}{x:Dyadic} (w:World) (hx:Dyadic.ofIntWithPrec z (-e)=x) (hz:(iM z).size≤10000000) (h1: -1000000000000≤e) (h2:e≤1000000000000):
  Calls Tryz.prog 72 #[.agg #[.bool (iN z),.string (iM z)],.int .i64 e] w fun r w'=>r=.returned (.agg #[.bool (nR x).neg,.string (nR x).aO,.int .i64 (nR x).e])∧Below w.heap.size w w':=by
 have:=oZ (iN z) (iM z) e w hz h1 h2;rw [ee,hx] at this;exact this
theorem LF (n:Int) (w:World) (h1: -9223372036854775808≤n) (h2:n≤9223372036854775807):
  Calls Tryz.prog 71 #[.int .i64 n] w fun r w'=>r=.returned (.agg #[.bool (nR (n:Dyadic)).neg,.string (nR (n:Dyadic)).aO,.int .i64 (nR (n:Dyadic)).e])∧Below w.heap.size w w':=by
 have hh:=Hp.start w;have hsz:(iM n).size≤10000000:=by
  rw [dn];have:bf n.natAbs≤64:=cW abq;omega
 have hc:=fun w1=>Cy (z:=n) (e:=0) (x:=(n:Dyadic)) w1 rfl hsz abq abq;refine ae (N:=6) (l:=[.int .i64 n]) Tryz.func71 rfl rfl (by simp) ?_;refine bT ?_;intro b2 w2 hh;refine aZ hh (tu n _ h1 h2) rfl ?_;intro w4 hh;refine aZ hh (hc _) rfl ?_;intro w5 hh;exact AO
theorem ow (a:NR) (w:World) (ha:a.aO.size≤10000000) (h1: -1000000000000≤a.e) (h2:a.e≤1000000000000):
  Calls Tryz.prog 95 #[.agg #[.bool a.neg,.string a.aO,.int .i64 a.e]] w fun r w'=>r=.returned (.agg #[.bool (nR a.d).neg,.string (nR a.d).aO,.int .i64 (nR a.d).e])∧Below w.heap.size w w':=by
 have hh:=Hp.start w;refine ae (N:=8) (l:=[.agg #[.bool a.neg,.string a.aO,.int .i64 a.e]]) Tryz.func95 rfl rfl (by simp) ?_;refine bX ?_;intro b1 w1 hh b2 w2 hh;refine aZ hh (oZ a.neg a.aO a.e _ ha h1 h2) rfl ?_;intro w7 hh;exact AO
theorem fT (a:NR) (w:World) (ha:a.aO.size≤10000000):
  Calls Tryz.prog 94 #[.agg #[.bool a.neg,.string a.aO,.int .i64 a.e]] w fun r w'=>r=.returned (.int .i64 a.i.sign)∧Below w.heap.size w w':=by
 have hh:=Hp.start w;refine ae (N:=6) (l:=[.agg #[.bool a.neg,.string a.aO,.int .i64 a.e]]) Tryz.func94 rfl rfl (by simp) ?_;refine bT ?_;intro b1 w1 hh;refine aZ hh (kn a.neg a.aO _ abq) rfl ?_;intro w5 hh;refine aj ?_;exact ⟨rfl,hh.below⟩
theorem rQ (a:NR) (n:Int) (w:World) (ha:a.aO.size≤10000000) (h1: -100000000000≤a.e) (h2:a.e≤100000000000) (h3: -100000000000≤n) (h4:n≤100000000000):
  Calls Tryz.prog 30 #[.agg #[.bool a.neg,.string a.aO,.int .i64 a.e],.int .i64 n] w fun r w'=>r=.returned (.agg #[.bool (nR (a.d*dm n)).neg,.string (nR (a.d*dm n)).aO,.int .i64 (nR (a.d*dm n)).e])∧Below w.heap.size w w':=by
 have hh:=Hp.start w;have e1:Dyadic.ofIntWithPrec (iv a.neg a.aO) (-(a.e+n))=a.d*dm n:=by
  rw [Int.neg_add];exact AZ _ _ _
 have hc:=fun w1=>oZ a.neg a.aO (a.e+n) w1 ha abq abq;rw [e1] at hc;refine ae (N:=12) (l:=[.agg #[.bool a.neg,.string a.aO,.int .i64 a.e],.int .i64 n]) Tryz.func30 rfl rfl (by simp) ?_;refine bX ?_;intro b2 w2 hh b4 w4 hh;refine aZ hh (hc _) rfl ?_;intro w11 hh;exact AO
theorem Zv (x:Dyadic):Dyadic.ofIntWithPrec (nR x).i (-(nR x).e)=x:=a6 x
theorem Qq {u v:NR} (h:u.e=v.e+k):Dyadic.ofIntWithPrec (u.i*2^k+v.i) (-v.e)=u.d+v.d:=by
 rw [←rz];congr 1;have:=pf u.i (-u.e) k;rw [show -u.e+(k:Int)= -v.e by omega] at this;exact this
theorem wF {u v:NR} (hk:u.e=v.e+k) (hu:u.aO.size≤1000000) (hv:v.aO.size≤1000000) (hk2:k≤40000000) (h1: -100000000000≤v.e) (h2:v.e≤100000000000):
  (∀w,Calls Tryz.prog 98 #[.agg #[.bool u.neg,.string u.aO],.int .i64 (u.e-v.e)] w fun e w'=>e=.returned (.agg #[.bool (iN (u.i*2^k)),.string (iM (u.i*2^k))])∧Below w.heap.size w w')∧
  (∀w,Calls Tryz.prog 100 #[.agg #[.bool (iN (u.i*2^k)),.string (iM (u.i*2^k))],.agg #[.bool v.neg,.string v.aO]] w fun e w'=>e=.returned (.agg #[.bool (iN (u.i*2^k+v.i)),.string (iM (u.i*2^k+v.i))])∧Below w.heap.size w w')∧
  ∀w,Calls Tryz.prog 72 #[.agg #[.bool (iN (u.i*2^k+v.i)),.string (iM (u.i*2^k+v.i))],.int .i64 v.e] w fun r w'=>r=.returned (.agg #[.bool (nR (u.d+v.d)).neg,.string (nR (u.d+v.d)).aO,.int .i64 (nR (u.d+v.d)).e])∧Below w.heap.size w w':=by
 have hb1:bf (u.i*2^k).natAbs≤8000000+k:=by
  rw [adu,ad3];have:=iB u.i.natAbs k;have h3:=hQ u.neg u.aO;unfold NR.i at this ⊢;exact abW this abq
 have hb2:=hQ v.neg v.aO;have hb3:=nG (u.i*2^k) v.i;refine ⟨fun w=> ?_,fun w=> ?_,fun w=> ?_⟩
 ·rw [show u.e-v.e=k by omega];exact GJ u.neg u.aO k w abq abq
 ·have:=oK (iN (u.i*2^k)) v.neg (iM (u.i*2^k)) v.aO w (by rw [dn];omega) abq;rw [ee] at this;exact this
 ·exact Cy w (Qq hk) (by rw [dn];unfold NR.i at hb1 hb3 ⊢;omega) abq abq
theorem DY (a b:NR) (w:World) (ha:a.ok) (hb:b.ok):
  Calls Tryz.prog 149 #[.agg #[.bool a.neg,.string a.aO,.int .i64 a.e],.agg #[.bool b.neg,.string b.aO,.int .i64 b.e]] w fun r w'=>r=.returned (.agg #[.bool (nR (a.d+b.d)).neg,.string (nR (a.d+b.d)).aO,.int .i64 (nR (a.d+b.d)).e])∧Below w.heap.size w w':=by
 have hh:=Hp.start w;obtain ⟨ha1,ha2,ha3⟩:=ha;obtain ⟨hb1,hb2,hb3⟩:=hb;obtain ⟨_,fa1,fa2,fa3⟩:=lB (a:=a) ⟨ha1,ha2,ha3⟩;obtain ⟨_,fb1,fb2,fb3⟩:=lB (a:=b) ⟨hb1,hb2,hb3⟩;have hsg:∀x:Dyadic,(nR x).i.sign=0↔x=0:=fun x=>by
  rw [Int.sign_eq_zero_iff_zero];constructor
  ·intro h;rw [←Zv x,h,ik]
  ·intro h;rw [h];rfl
 by_cases h0:a.d=0
 ·have hs0:=(hsg a.d).2 h0;refine H6 ?_;refine lK ?_;intro b2 w2 hh b3 w3 hh b4 w4 hh;refine HU ?_;refine da 2 [_,_,_] ?_;refine I1 ?_;refine da 1 [_,_,_] ?_;refine av ?_;intro f W hJ hV;have hb_1:=hJ.bl;obtain ⟨v7,v6,v5,_⟩:=hV;replace hh:=hJ.hp;refine zG ?_;dsimp only [bA];clear hJ;refine HX ?_;intro w8 hh;refine bX ?_;intro ws hh ws hh;refine aZ hh (fT (nR a.d) _ abq) rfl ?_;intro w10 hh;refine bT ?_;intro ws hh;refine Aa ?_;rw [h0,adX];exact ⟨rfl,hh.below⟩
 ·have hs0:¬(nR a.d).i.sign=0:=fun h=>h0 ((hsg a.d).1 h);by_cases h1:b.d=0
  ·have hs1:=(hsg b.d).2 h1;refine H6 ?_;refine lK ?_;intro b2 w2 hh b3 w3 hh b4 w4 hh;refine HU ?_;refine da 2 [_,_,_] ?_;refine I1 ?_;refine da 1 [_,_,_] ?_;refine av ?_;intro f W hJ hV;have hb_1:=hJ.bl;obtain ⟨v7,v6,v5,_⟩:=hV;replace hh:=hJ.hp;refine zG ?_;dsimp only [bA];clear hJ;refine HX ?_;intro w8 hh;refine bX ?_;intro ws hh ws hh;refine aZ hh (fT (nR a.d) _ abq) rfl ?_;intro w10 hh;refine aj ?_;refine aZ hh (fT (nR b.d) _ abq) rfl ?_;intro w14 hh;refine bT ?_;intro ws hh;refine Aa ?_;rw [h1,ad6];exact ⟨rfl,hh.below⟩
  ·have hs1:¬(nR b.d).i.sign=0:=fun h=>h1 ((hsg b.d).1 h);by_cases hlt:(nR a.d).e<(nR b.d).e
   ·obtain ⟨k,hk⟩:∃k:Nat,(nR b.d).e=(nR a.d).e+k:=⟨((nR b.d).e-(nR a.d).e).toNat,abq⟩;obtain ⟨hshl,hpl,hmk⟩:=wF hk fb1 fa1 abq abq abq;rw [a6,a6,Dyadic.add_comm] at hmk;refine H6 ?_;refine lK ?_;intro b2 w2 hh b3 w3 hh b4 w4 hh;refine HU ?_;refine da 2 [_,_,_] ?_;refine I1 ?_;refine da 1 [_,_,_] ?_;refine av ?_;intro f W hJ hV;have hb_1:=hJ.bl;obtain ⟨v7,v6,v5,_⟩:=hV;replace hh:=hJ.hp;refine zG ?_;dsimp only [bA];clear hJ;refine HX ?_;intro w8 hh;refine bX ?_;intro ws hh ws hh;refine aZ hh (fT (nR a.d) _ abq) rfl ?_;intro w10 hh;refine aj ?_;refine aZ hh (fT (nR b.d) _ abq) rfl ?_;intro w14 hh;refine bX ?_;intro ws hh ws hh;exact Um
   ·obtain ⟨k,hk⟩:∃k:Nat,(nR a.d).e=(nR b.d).e+k:=⟨((nR a.d).e-(nR b.d).e).toNat,abq⟩;obtain ⟨hshl,hpl,hmk⟩:=wF hk fa1 fb1 abq abq abq;rw [a6,a6] at hmk;refine H6 ?_;refine lK ?_;intro b2 w2 hh b3 w3 hh b4 w4 hh;refine HU ?_;refine da 2 [_,_,_] ?_;refine I1 ?_;refine da 1 [_,_,_] ?_;refine av ?_;intro f W hJ hV;have hb_1:=hJ.bl;obtain ⟨v7,v6,v5,_⟩:=hV;replace hh:=hJ.hp;refine zG ?_;dsimp only [bA];clear hJ;refine HX ?_;intro w8 hh;refine bX ?_;intro ws hh ws hh;refine aZ hh (fT (nR a.d) _ abq) rfl ?_;intro w10 hh;refine aj ?_;refine aZ hh (fT (nR b.d) _ abq) rfl ?_;intro w14 hh;refine aj ?_;exact Um
theorem Sz.pow {x:Dyadic} (h:Sz k x) (n:Nat):Sz (1+k*n) (x^n):=by
 induction n with
 |zero=>rw [adK];exact Sz.one
 |succ n ih=>rw [aeh];exact (ih.mul h).mono (by rw [ac5];omega)
def D (m e:Int):Dyadic:=Dyadic.ofIntWithPrec m (-e)
theorem WS {m e:Int} (hm:m.natAbs<256) (h1: -16≤e) (h2:e≤16):Sz 24 (D m e):=by
 have:=Sz.raw (a:=⟨iN m,iM m,e⟩) (m:=8) (E:=16) (by show 8*(iM m).size≤8;rw [dn];have:bf m.natAbs≤8:=cW hm;omega) h1 h2;rw [NR.d,NR.i,ee] at this;exact this
def Z7 (most far:Int) (l:List NR):Bool:=l.any fun a=>decide (most<a.aO.size∨a.e< -far∨far<a.e)
variable {W:World}{base fuel:Nat}{cs:List Value}
open Go.ChangeShapes Go.WideShapes Go.ChangeAt Go.RowKit Go.ChangeMaps
set_option maxRecDepth 100000 in
theorem pK {H:Type}{enc:TypeId×Value→H}{sp:Nat→Bool}{held:Bool}{x:DataW H×List MemPlace} (h:DataW.trod enc Tryz.prog W base sp held fuel 33 cs=some x):
  ∃a:NR,cs=a.cells∧(Lit.int .i64 a.e).wf=true:=by
 have c1:Tryz.prog.cellsOf 33=3:=by kernel_rfl
 have c2:Tryz.prog.cellsOf 31=2:=by kernel_rfl
 have c3:Tryz.prog.cellsOf 4=1:=by kernel_rfl
 have c4:Tryz.prog.cellsOf 9=1:=by kernel_rfl
 have c5:Tryz.prog.cellsOf 3=1:=by kernel_rfl
 obtain ⟨y0,y1,n,_,hl,h0,h1⟩:=trod_struct2 Tryz.underlying33 h;obtain ⟨z0,z1,n2,_,hl2,h00,h01⟩:=trod_struct2 Tryz.underlying31 h0;obtain ⟨b,e0,_⟩:=DataW.trod_bool Tryz.underlying4 h00;obtain ⟨s,e1,_,hs⟩:=DataW.trod_string Tryz.underlying9 h01;obtain ⟨z,e2,_,hz⟩:=DataW.trod_int Tryz.underlying3 h1;rw [c1] at hl
 match cs,hl with
 |[x0,x1,x2],_=>
  simp only [c2,c3,c4,c5] at e0 e1 e2;simp at e0 e1 e2;subst e0 e1 e2;exact ⟨⟨b,s,z⟩,rfl,hz⟩
set_option maxRecDepth 100000 in
theorem Mi {H:Type}{enc:TypeId×Value→H}{r:Reach}{b0:Nat}{sp:Nat→Bool}{held:Bool}{v:Value}{d:DataW H}{ps:List MemPlace}
  (hval:Value.okWide Tryz.prog W r b0 33 v) (hd:DataW.Trod enc Tryz.prog W base sp held 33 v d ps):∃a:NR,v=.agg #[.bool a.neg,.string a.aO,.int .i64 a.e]∧ -9223372036854775808≤a.e∧a.e≤9223372036854775807:=by
 obtain ⟨cs,rfl,_⟩:=okWide_struct Tryz.underlying33 hval;obtain ⟨fuel,hf⟩:=hd;obtain ⟨a,h1,h2⟩:=pK hf;refine ⟨a, ?_,bounds_i64 h2⟩;have h3:cs.toList=a.cells:=h1;rw [←Array.toList_inj.1 (show cs.toList=(#[.bool a.neg,.string a.aO,.int .i64 a.e]:Array Value).toList from h3)]
theorem D4 (h:laidMetH Tryz.prog Rows.ratioHoldsRow.laid W):dq W:=by
 rw [MakeChecks.laidMetH_plain _ _ _ abt] at h;obtain ⟨ps,⟨g,t,cs,fuel,p,q,hg,ht,hv,hd,_,_⟩,_,_⟩:=h;obtain rfl:=aca ((show Tryz.prog.globalNamed "math/bits.deBruijn64tab" =some 0 by kernel_rfl).symm.trans hg);obtain rfl:=aca ((show (Tryz.prog.globals[0]?).map (·.type)=some 237 by kernel_rfl).symm.trans ht);obtain ⟨xs,m,_,ex,_,hl,hel⟩:=DataW.trod_array Tryz.underlying237 hd;have c5:Tryz.prog.cellsOf 5=1:=by kernel_rfl
 have e3:(xs.map (·.1))=FJ.map fun n=>.lit (.int .u8 n):=(DataW.agg.inj (Prod.mk.inj ex).1).symm;have hlen:FJ.length=64:=by decide
 intro r u hu;have hr:r<64:=by
  have:=(abM.1 hu).1;rw [cO] at this;omega
 have hE:=hel r hr;rw [c5,abZ,ac1 abq] at hE;obtain ⟨z,e1,e2,_⟩:=DataW.trod_int Tryz.underlying5 hE;have e4:(xs.map (·.1))[r]?=(FJ.map fun (n:Nat)=>(DataW.lit (.int .u8 n):DataW Unit))[r]?:=by rw [e3]
 rw [abI,abI,ac1 (by omega:r<xs.length),ac1 (by omega:r<FJ.length),e2] at e4;have hz:u=.int .u8 z:=by
  rw [ie,abI,ac1 (by omega:r<FJ.length)] at hu;simp only [adr,adv,DataW.lit.injEq,Lit.int.injEq,true_and] at e4 hu;rw [←hu,e4]
 rw [eN,ab2,World.var?_cell hg hv r,hz];have:cs.toList[r]?=some (.int .u8 z):=by
  have h0:((cs.toList.drop r).take 1)[0]?=some (.int .u8 z):=by rw [e1];rfl
  simpa using h0
 simpa using this
variable {P:Program}{α:Type}
theorem xZ {α:Type}{p:Nat→α→Prop}:∀(n:Nat),(∀i,i<n→∃a,p i a)→∃l:List α,l.length=n∧∀i a,l[i]?=some a→p i a
 |0,_=>⟨[],rfl,fun i a h=>by simp at h⟩
 |n+1,h=>by
  obtain ⟨l,h1,h2⟩:=xZ n fun i hi=>h i abq;obtain ⟨a,ha⟩:=h n abq;refine ⟨l++[a],by simp [h1],fun i b hb=> ?_⟩
  rcases acj i l.length with hi|hi
  ·rw [adE hi] at hb;exact h2 i b hb
  ·rw [acP hi] at hb;have h3:i-l.length=0:=by
    rcases adw (i-l.length) with h|h
    ·exact h
    ·rw [abT (by simp;omega)] at hb;cases hb
   rw [h3] at hb;simp only [aem,adv] at hb;subst hb;rw [show i=n by omega];exact ha
theorem Lq {f:α→List Value}{p:α→Prop}{sz:Nat}{t e:TypeId}{H:Type}{enc:TypeId×Value→H}{r:Reach}{b0:Nat}{sp:Nat→Bool}{held:Bool}{v:Value}{d:DataW H}{ps:List MemPlace}
  (hf:∀x,(f x).length=sz) (h0:0<sz) (ht:P.underlying t=some (.slice e)) (hc:P.cellsOf e=sz) (one:∀fuel cs x,DataW.trod enc P W base sp held fuel e cs=some x→∃a,cs=f a∧p a)
  (hval:Value.okWide P W r b0 t v) (hd:DataW.Trod enc P W base sp held t v d ps):∃(A:Option Addr) (n c:Nat) (l:List α),v=.slice A n c∧Sl W A n sz (ar f l)∧∀a∈l,p a:=by
 obtain ⟨a,len,cap,rfl⟩:=okWide_slice ht hval;obtain ⟨fuel,hfu⟩:=hd
 rcases Go.Deep.open_slice ht hfu with ⟨h1,_⟩|⟨ad,n,cp,m,k,D,Pl,h1,_,h2,h3,hm,_,h5⟩
 ·have h1':[Value.slice a len cap]=[.slice none 0 0]:=h1;simp only [aeM,Value.slice.injEq,and_true] at h1';obtain ⟨rfl,rfl,rfl⟩:=h1';exact ⟨none,0,0,[],rfl,Sl.nil W none sz,fun _ h=>by simp at h⟩
 ·have h1':[Value.slice a len cap]=[.slice (some ad) n cp]:=h1;simp only [aeM,Value.slice.injEq,and_true] at h1';obtain ⟨rfl,rfl,rfl⟩:=h1';have hnm:len≤m:=by rw [hm];split<;>omega
  obtain ⟨l,hl,hp⟩:=xZ (p:=fun i a=>W.cells? base (ad.add (i*sz)) sz=some (f a)∧p a) len fun i hi=>by
   exact TA
  refine ⟨some ad,len,cap,l,rfl,⟨by rw [eH hf,hl],fun _=>⟨ad,rfl,fun j u hu=> ?_⟩⟩,fun a ha=> ?_⟩
  ·exact Xb
  ·obtain ⟨i,hi⟩:=acG.1 ha;exact (hp i a hi).2
def IC (z:Int):List Value:=[.int .i64 z]
theorem G0 {f:α→List Value}{p:α→Prop}{sz:Nat}{t e:TypeId}{H:Type}{enc:TypeId×Value→H}{sp:Nat→Bool}{held:Bool}{x:DataW H×List MemPlace}
  (hf:∀x,(f x).length=sz) (h0:0<sz) (ht:P.underlying t=some (.slice e)) (hc:P.cellsOf e=sz) (one:∀fuel cs x,DataW.trod enc P W base sp held fuel e cs=some x→∃a,cs=f a∧p a)
  (hfu:DataW.trod enc P W base sp held fuel t cs=some x):∃(A:Option Addr) (n c:Nat) (l:List α),cs=[.slice A n c]∧Sl W A n sz (ar f l)∧∀a∈l,p a:=by
 rcases Go.Deep.open_slice ht hfu with ⟨h1,_⟩|⟨ad,n,cp,m,k,D,Pl,h1,_,h2,h3,hm,_,h5⟩
 ·exact ⟨none,0,0,[],h1,Sl.nil W none sz,fun _ h=>by simp at h⟩
 ·have hnm:n≤m:=by rw [hm];split<;>omega
  obtain ⟨l,hl,hp⟩:=xZ (p:=fun i a=>W.cells? base (ad.add (i*sz)) sz=some (f a)∧p a) n fun i hi=>by
   exact TA
  refine ⟨some ad,n,cp,l,h1,⟨by rw [eH hf,hl],fun _=>⟨ad,rfl,fun j u hu=> ?_⟩⟩,fun a ha=> ?_⟩
  ·exact Xb
  ·obtain ⟨i,hi⟩:=acG.1 ha;exact (hp i a hi).2
theorem KT {t e:TypeId}{H:Type}{enc:TypeId×Value→H}{sp:Nat→Bool}{held:Bool}{A:Option Addr}{c:Nat}{x:DataW H×List MemPlace}
  (ht:P.underlying t=some (.slice e)) (hfu:DataW.trod enc P W base sp held fuel t [.slice A n c]=some x):n≤c:=by
 rcases Go.Deep.open_slice ht hfu with ⟨h1,_⟩|⟨ad,n',cp,m,k,D,Pl,h1,_,h2,_⟩
 ·injection h1 with h1
  injection h1 with _ e2 e3
  omega
 ·injection h1 with h1
  injection h1 with _ e2 e3
  omega
theorem PG {l:List Int} (h:l.all dN=true):ints (l.map BG)=l:=by
 induction l with
 |nil=>rfl
 |cons x l ih=>
  simp only [List.all_cons,abS] at h;have h1:((BG x).toNat:Int)=x:=by
   have:=vg h.1;injection this with _ this
   exact this.symm
  have:=ih h.2;simp only [ints,ab8,h1];congr 1
theorem LU {l:List Int} (h:l.all dN=true):eX (l.map BG)=true:=by
 rw [eX,ab6];intro c hc;obtain ⟨x,hx,rfl⟩:=abL.1 hc;have h1:=ab6.1 h x hx;have:=vg h1;injection this with _ this
 simp only [dN,abS,ab1] at h1;simp only [ab1];omega
theorem Sg {a:List UInt8} (h:eX a=true):(ints a).all dN=true:=by
 rw [ab6];intro x hx;obtain ⟨c,hc,rfl⟩:=abL.1 hx;have:=ab6.1 h c hc;simp only [ab1] at this;simp only [dN,abS,ab1];omega
theorem Ae {f:Int→Int→Int}{a b:List UInt8}{l:List Int} (h:kt f a b=some l):eX a=true∧eX b=true∧b.length=a.length∧l=List.zipWith f (ints a) (ints b):=by
 unfold kt at h;split at h
 ·rename_i hc;simp only [abS,ab1] at hc;injection h with h
  exact ⟨hc.1,hc.2.1,abq,h.symm⟩
 ·cases h
theorem Sa {f:Int→Int→Int}{a b:List UInt8} (h1:eX a=true) (h2:eX b=true) (h3:b.length=a.length):kt f a b=some (List.zipWith f (ints a) (ints b)):=by
 unfold kt;rw [abx (by simp [h1,h2,h3])]
theorem pJ {a c:List UInt8} (h:(mulL a c).2=0):eX a=true∧eX c=true∧c.length=a.length∧eX (mulL a c).1=true∧ints (mulL a c).1=List.zipWith (· + ·) (ints a) (ints c):=by
 unfold mulL at h ⊢;split
 ·rename_i l hl;rw [hl] at h;simp only at h ⊢;obtain ⟨h1,h2,h3,h4⟩:=Ae hl;by_cases hc:l.all dN=true
  ·rw [(u4 hc).1];exact ⟨h1,h2,h3,LU hc,by rw [PG hc,h4]⟩
  ·simp [RF,hc] at h
 ·rename_i hl;rw [hl] at h;simp at h
theorem GW {a c:List UInt8} (h:(mulL a c).2=0):(mulL a c).1.length=a.length:=by
 obtain ⟨_,_,h3,_,h5⟩:=pJ h;have:=acm List.length h5;rw [cZ,aeU,cZ,cZ] at this;omega
structure TR where
 m:ByteArray
 c:NR
def TR.cells (t:TR):List Value:=[.string t.m,.bool t.c.neg,.string t.c.aO,.int .i64 t.c.e]
theorem TR.len (t:TR):t.cells.length=4:=rfl
theorem TR.one (t:TR):t.cells.all Value.oneCell'=true:=rfl
def iU (a b:ByteArray):Bool:=Op.bytesLess a.data.toList b.data.toList
theorem rv:∀a:List UInt8,Op.bytesLess a a=false
 |[]=>rfl
 |c::a=>by simp [Op.bytesLess,rv a]
theorem ud:∀a b c:List UInt8,Op.bytesLess a b=true→Op.bytesLess b c=true→Op.bytesLess a c=true
 |_,[],[],_,h=>by simp [Op.bytesLess] at h
 |_,_::_,[],_,h=>by simp [Op.bytesLess] at h
 |[],[],_::_,h,_=>by simp [Op.bytesLess] at h
 |_::_,[],_::_,h,_=>by simp [Op.bytesLess] at h
 |[],_::_,_::_,_,_=>rfl
 |x::a,y::b,z::c,h1,h2=>by
  simp only [Op.bytesLess,aea,abS,ab1,ac3] at h1 h2 ⊢
  rcases h1 with h1|⟨rfl,h1⟩
  ·rcases h2 with h2|⟨rfl,h2⟩
   ·exact .inl (UInt8.lt_trans h1 h2)
   ·exact .inl h1
  ·rcases h2 with h2|⟨rfl,h2⟩
   ·exact .inl h2
   ·exact .inr ⟨rfl,ud a b c h1 h2⟩
theorem Ac:∀a b:List UInt8,Op.bytesLess a b=false→Op.bytesLess b a=false→a=b
 |[],[],_,_=>rfl
 |[],_::_,h,_=>by simp [Op.bytesLess] at h
 |_::_,[],_,h=>by simp [Op.bytesLess] at h
 |x::a,y::b,h1,h2=>by
  simp only [Op.bytesLess,Bool.or_eq_false_iff,Bool.and_eq_false_iff,aeT,beq_eq_false_iff_ne] at h1 h2;have e:x=y:=by
   have a1:=h1.1;have a2:=h2.1;rw [UInt8.lt_iff_toNat_lt] at a1 a2;exact aeE.1 abq
  subst e;rw [Ac a b (h1.2.resolve_left (fun h=>h rfl)) (h2.2.resolve_left (fun h=>h rfl))]
theorem iu (a:ByteArray):iU a a=false:=rv _
theorem kU {a b c:ByteArray} (h1:iU a b=true) (h2:iU b c=true):iU a c=true:=ud _ _ _ h1 h2
theorem pC {a b:ByteArray} (h1:iU a b=false) (h2:iU b a=false):a=b:=wj (Ac _ _ h1 h2)
theorem PZ {a b:ByteArray} (h:iU a b=true):a≠b:=fun e=>by rw [e,iu] at h;cases h
theorem JY {a b:ByteArray} (h:iU a b=true):iU b a=false:=by
 cases h2:iU b a with
 |false=>rfl
 |true=>have:=kU h h2;rw [iu] at this;cases this
def u1 (l:List TR):Prop:=l.Pairwise fun a b=>iU a.m b.m=true
def wS (f:ByteArray→Dyadic):List TR→Dyadic
 |[]=>0
 |t::l=>t.c.d*f t.m+wS f l
theorem pU (f:ByteArray→Dyadic) (l k:List TR):wS f (l++k)=wS f l+wS f k:=by
 induction l with
 |nil=>exact (adX _).symm
 |cons t l ih=>rw [abE,wS,wS,ih,Dyadic.add_assoc]
theorem SA (f:ByteArray→Dyadic) (l:List TR) (t:TR):wS f (l++[t])=wS f l+t.c.d*f t.m:=by
 rw [pU,wS,wS,ad6]
def iW (l:List TR) (m:ByteArray):Dyadic:=wS (fun k=>if k=m then 1 else 0) l
theorem fK (t:TR) (l:List TR) (m:ByteArray):iW (t::l) m=(if t.m=m then t.c.d else 0)+iW l m:=by
 show t.c.d*(if t.m=m then 1 else 0)+iW l m=_;split
 ·rw [Dyadic.mul_one]
 ·rw [aeW]
theorem wQ (m:ByteArray):iW [] m=0:=rfl
theorem fV (l k:List TR) (m:ByteArray):iW (l++k) m=iW l m+iW k m:=pU _ _ _
theorem Ag {l:List TR}{m:ByteArray} (h:∀t∈l,t.m≠m):iW l m=0:=by
 induction l with
 |nil=>rfl
 |cons t l ih=>rw [fK,abw (h t abF),ih fun s hs=>h s (abN _ hs),adX]
structure Canon (l:List TR):Prop where
 ua:u1 l
 nz:∀t∈l,t.c.d≠0
 nf:∀t∈l,t.c=nR t.c.d
theorem wk {t:TR}{l:List TR} (h:Canon (t::l)):Canon l:=⟨(ac8.1 h.ua).2,fun s hs=>h.nz s (abN _ hs),fun s hs=>h.nf s (abN _ hs)⟩
theorem Av {t:TR}{l:List TR}{m:ByteArray} (h:u1 (t::l)) (hm:m=t.m∨iU m t.m=true):∀s∈l,s.m≠m:=fun s hs e=>by
 have h1:=(ac8.1 h).1 s hs
 rcases hm with rfl|hm
 ·rw [e,iu] at h1;cases h1
 ·have:=kU hm h1;rw [e,iu] at this;cases this
theorem k6 {t:TR}{l:List TR} (h:u1 (t::l)):iW (t::l) t.m=t.c.d:=by
 rw [fK,abx rfl,Ag (Av h (.inl rfl)),ad6]
theorem Ak {t:TR}{l:List TR}{m:ByteArray} (h:u1 (t::l)) (hm:iU m t.m=true):iW (t::l) m=0:=by
 rw [fK,abw (fun e=>PZ hm e.symm),Ag (Av h (.inr hm)),adX]
theorem Dp:∀{l k:List TR},Canon l→Canon k→(∀m,iW l m=iW k m)→l=k
 |[],[],_,_,_=>rfl
 |[],t::k,_,hk,h=>by
  have:=h t.m;rw [k6 hk.ua,wQ] at this;exact absurd this.symm (hk.nz t abF)
 |t::l,[],hl,_,h=>by
  have:=h t.m;rw [k6 hl.ua,wQ] at this;exact absurd this (hl.nz t abF)
 |t::l,s::k,hl,hk,h=>by
  have h1:iU t.m s.m=false:=by
   cases hb:iU t.m s.m with
   |false=>rfl
   |true=>
    have:=h t.m;rw [k6 hl.ua,Ak hk.ua hb] at this;exact absurd this (hl.nz t abF)
  have h2:iU s.m t.m=false:=by
   cases hb:iU s.m t.m with
   |false=>rfl
   |true=>
    have:=h s.m;rw [k6 hk.ua,Ak hl.ua hb] at this;exact absurd this.symm (hk.nz s abF)
  have em:=pC h1 h2;have ed:t.c.d=s.c.d:=by
   have:=h t.m;rw [k6 hl.ua,em,k6 hk.ua] at this;exact this
  have et:t=s:=by
   have a:=hl.nf t abF;have b:=hk.nf s abF;obtain ⟨m1,c1⟩:=t;obtain ⟨m2,c2⟩:=s;simp only at em ed a b;rw [em,a,b,ed]
  subst et;rw [Dp (wk hl) (wk hk) fun m=>by
   have:=h m;rw [fK,fK] at this;grind]
def iT:List TR→TR→List TR
 |[],x=>[⟨x.m,nR x.c.d⟩]
 |t::l,x=>if iU t.m x.m=true then t::iT l x else if iU x.m t.m=true then ⟨x.m,nR x.c.d⟩::t::l else ⟨x.m,nR (t.c.d+x.c.d)⟩::l
theorem H8 (f:ByteArray→Dyadic):∀(l:List TR) (x:TR),wS f (iT l x)=wS f l+x.c.d*f x.m
 |[],x=>by
  show (nR x.c.d).d*f x.m+0=0+_;rw [a6,ad6,adX]
 |t::l,x=>by
  unfold iT;split
  ·rw [wS,H8 f l x,wS,Dyadic.add_assoc]
  ·split
   ·rw [wS,wS,a6,Dyadic.add_comm]
   ·rename_i h1 h2;have e:t.m=x.m:=pC (by simpa using h1) (by simpa using h2);rw [wS,wS,a6,e];grind
theorem wW:∀{l:List TR}{x t:TR},t∈iT l x→t∈l∨t.m=x.m
 |[],x,t,h=>.inr (by rw [abX.1 h])
 |s::l,x,t,h=>by
  unfold iT at h;split at h
  ·rcases abO.1 h with rfl|h
   ·exact .inl abF
   ·rcases wW h with h|h
    ·exact .inl (abN _ h)
    ·exact .inr h
  ·split at h
   ·rcases abO.1 h with rfl|h
    ·exact .inr rfl
    ·exact .inl h
   ·rcases abO.1 h with rfl|h
    ·exact .inr rfl
    ·exact .inl (abN _ h)
theorem Cr:∀{l:List TR}{x:TR},u1 l→u1 (iT l x)
 |[],x,_=>afa _ _
 |s::l,x,h=>by
  have h1:=ac8.1 h;unfold iT;split
  ·rename_i hs;refine ac8.2 ⟨fun t ht=> ?_,Cr h1.2⟩
   rcases wW ht with ht|ht
   ·exact h1.1 t ht
   ·rw [ht];exact hs
  ·split
   ·rename_i hs;refine ac8.2 ⟨fun t ht=> ?_,h⟩
    rcases abO.1 ht with rfl|ht
    ·exact hs
    ·exact kU hs (h1.1 t ht)
   ·rename_i a b;have e:s.m=x.m:=pC (by simpa using a) (by simpa using b);refine ac8.2 ⟨fun t ht=> ?_,h1.2⟩;show iU x.m t.m=true;rw [←e];exact h1.1 t ht
theorem Jq:∀{l:List TR}{x:TR},(∀t∈l,t.c=nR t.c.d)→∀t∈iT l x,t.c=nR t.c.d
 |[],x,_,t,ht=>by rw [abX.1 ht];show nR _=nR (nR _).d;rw [a6]
 |s::l,x,h,t,ht=>by
  unfold iT at ht;split at ht
  ·rcases abO.1 ht with rfl|ht
   ·exact h t abF
   ·exact Jq (fun t ht=>h t (abN _ ht)) t ht
  ·split at ht
   ·rcases abO.1 ht with rfl|ht
    ·show nR _=nR (nR _).d;rw [a6]
    ·exact h t ht
   ·rcases abO.1 ht with rfl|ht
    ·show nR _=nR (nR _).d;rw [a6]
    ·exact h t (abN _ ht)
theorem DC:∀(l:List TR) (x:TR),(iT l x).length≤l.length+1
 |[],x=>abD _
 |s::l,x=>by
  have:=DC l x;unfold iT;split
  ·rw [ab0,ab0];omega
  ·split<;>simp
theorem HW {k:Nat}:∀{l:List TR}{x:TR},(∀t∈l,Sz k t.c.d)→Sz k x.c.d→∀t∈iT l x,Sz (k+1) t.c.d
 |[],x,_,hx,t,ht=>by rw [abX.1 ht];show Sz _ (nR _).d;rw [a6];exact hx.mono abq
 |s::l,x,h,hx,t,ht=>by
  unfold iT at ht;split at ht
  ·rcases abO.1 ht with rfl|ht
   ·exact (h t abF).mono abq
   ·exact HW (fun t ht=>h t (abN _ ht)) hx t ht
  ·split at ht
   ·rcases abO.1 ht with rfl|ht
    ·show Sz _ (nR _).d;rw [a6];exact hx.mono abq
    ·exact (h t ht).mono abq
   ·rcases abO.1 ht with rfl|ht
    ·show Sz _ (nR _).d;rw [a6];exact (h s abF).add hx
    ·exact (h t (abN _ ht)).mono abq
def jy (l:List TR):List TR:=l.foldl iT []
def qZ (t:TR):Bool:= !decide (t.c.d=0)
def aA (l:List TR):List TR:=(jy l).filter qZ
theorem jc (l:List TR) (x:TR):jy (l++[x])=iT (jy l) x:=by unfold jy;rw [aeJ];rfl
theorem kr {P:List α→Prop} (h0:P []) (hs:∀l x,P l→P (l++[x])) (l:List α):P l:=by
 have:∀k:List α,P k.reverse:=fun k=>by
  induction k with
  |nil=>exact h0
  |cons x k ih=>rw [adQ];exact hs _ _ ih
 have h:=this l.reverse;rwa [ad0] at h
theorem Mc (f:ByteArray→Dyadic) (l:List TR):wS f (jy l)=wS f l:=by
 induction l using kr with
 |h0=>rfl
 |hs l x ih=>rw [jc,H8,ih,SA]
theorem Ly (l:List TR):u1 (jy l):=by
 induction l using kr with
 |h0=>exact ae1
 |hs l x ih=>rw [jc];exact Cr ih
theorem Ee (l:List TR):∀t∈jy l,t.c=nR t.c.d:=by
 induction l using kr with
 |h0=>intro t ht;cases ht
 |hs l x ih=>rw [jc];exact Jq ih
theorem y4 (l:List TR):(jy l).length≤l.length:=by
 induction l using kr with
 |h0=>exact abD _
 |hs l x ih=>rw [jc,abJ];have:=DC (jy l) x;simp;omega
theorem Dv (l:List TR) (h:∀t∈l,Sz k t.c.d):∀t∈jy l,Sz (k+l.length) t.c.d:=by
 induction l using kr with
 |h0=>intro t ht;cases ht
 |hs l x ih=>
  rw [jc,abJ];exact HW (k:=k+l.length) (ih fun t ht=>h t (adf _ ht)) ((h x (by simp)).mono abq)
theorem J4 (l:List TR):∀t∈jy l,∃s∈l,s.m=t.m:=by
 induction l using kr with
 |h0=>intro t ht;cases ht
 |hs l x ih=>
  rw [jc];intro t ht
  rcases wW ht with ht|ht
  ·obtain ⟨s,hs,e⟩:=ih t ht;exact ⟨s,adf _ hs,e⟩
  ·exact ⟨x,by simp,ht.symm⟩
theorem y6 (f:ByteArray→Dyadic) (l:List TR):wS f (l.filter qZ)=wS f l:=by
 induction l with
 |nil=>rfl
 |cons t l ih=>
  rw [List.filter_cons];by_cases h:t.c.d=0
  ·rw [abw (by unfold qZ;rw [abQ h];decide),ih,wS,h,Dyadic.zero_mul,adX]
  ·rw [abx (by unfold qZ;rw [abR h];rfl),wS,wS,ih]
theorem tT (f:ByteArray→Dyadic) (l:List TR):wS f (aA l)=wS f l:=(y6 f _).trans (Mc f l)
theorem ub (l:List TR) (m:ByteArray):iW (aA l) m=iW l m:=tT _ _
theorem GS {t:TR} (h:qZ t=true):t.c.d≠0:=fun e=>by
 unfold qZ at h;rw [abQ e] at h
 cases h
theorem gF (l:List TR):Canon (aA l):=
 ⟨List.Pairwise.filter _ (Ly l),fun t ht=>GS (acX.1 ht).2,fun t ht=>Ee l t (acX.1 ht).1⟩
theorem dr (l:List TR):(aA l).length≤l.length:=abW (List.length_filter_le _ _) (y4 l)
theorem pk {l:List TR} (h:∀t∈l,Sz k t.c.d):∀t∈aA l,Sz (k+l.length) t.c.d:=fun t ht=>Dv l h t (acX.1 ht).1
theorem lu {l:List TR}:∀t∈aA l,∃s∈l,s.m=t.m:=fun t ht=>J4 l t (acX.1 ht).1
theorem sO {l k:List TR} (h:Canon k) (hc:∀m,iW k m=iW l m):k=aA l:=Dp h (gF l) fun m=>by rw [hc,ub]
theorem BP {l k:List TR} (hc:∀m,iW k m=iW l m):aA k=aA l:=sO (gF k) fun m=>by rw [ub,hc]
variable {O:List TR}
def iO (k:Nat) (l:List TR):Prop:=∀t∈l,t.c.ok∧Sz k t.c.d
theorem iO.mono {l:List TR} (h:iO k l) (hk:k≤j):iO j l:=fun t ht=>⟨(h t ht).1,(h t ht).2.mono hk⟩
structure MD (k:Nat) (l L:List TR):Prop where
 ua:u1 L
 co:∀m,iW L m=iW l m
 len:L.length≤l.length
 ok:iO k L
 mem:∀t∈L,∃s∈l,s.m=t.m
theorem MD.mono {l L:List TR} (h:MD k l L) (hk:k≤j):MD j l L:=⟨h.ua,h.co,h.len,h.ok.mono hk,h.mem⟩
theorem MD.self {l:List TR} (h:u1 l) (hk:iO k l):MD k l l:=⟨h,fun _=>rfl,abD _,hk,fun t ht=>⟨t,ht,rfl⟩⟩
structure Mg (k:Nat) (xs ys O X Y:List TR):Prop where
 ro:u1 O
 rx:u1 X
 ry:u1 Y
 co:∀m,iW O m+(iW X m+iW Y m)=iW xs m+iW ys m
 bx:∀t∈O,∀s∈X,iU t.m s.m=true
 hy:∀t∈O,∀s∈Y,iU t.m s.m=true
 len:O.length+(X.length+Y.length)≤xs.length+ys.length
 oo:iO (k+1) O
 ox:iO k X
 oy:iO k Y
 mo:∀t∈O,∃s∈xs++ys,s.m=t.m
 mx:∀t∈X,t∈xs++ys
 my:∀t∈Y,t∈xs++ys
theorem Mg.start {xs ys:List TR} (hx:u1 xs) (hy:u1 ys) (ox:iO k xs) (oy:iO k ys):Mg k xs ys [] xs ys:=
 ⟨ae1,hx,hy,fun m=>adX _,fun t ht=>(by cases ht),fun t ht=>(by cases ht),by simp,fun t ht=>(by cases ht),ox,oy,fun t ht=>(by cases ht),fun t ht=>adf _ ht,fun t ht=>acI _ ht⟩
theorem x8 {x:TR} (h:u1 O) (hx:∀t∈O,iU t.m x.m=true):u1 (O++[x]):=
 List.pairwise_append.2 ⟨h,afa _ _,fun t ht s hs=>by rw [abX.1 hs];exact hx t ht⟩
theorem xh (x:TR) (m:ByteArray):iW [x] m=if x.m=m then x.c.d else 0:=by rw [fK,wQ,ad6]
theorem gK {P:α→Prop}{O:List α}{x:α} (h:∀t∈O,P t) (hx:P x):∀t∈O++[x],P t:=fun t ht=>by
 rcases acq.1 ht with ht|ht
 ·exact h t ht
 ·rw [abX.1 ht];exact hx
theorem Mg.left {xs ys X Y:List TR}{x y:TR} (h:Mg k xs ys O (x::X) (y::Y)) (hl:iU x.m y.m=true):Mg k xs ys (O++[x]) X (y::Y):=by
 obtain ⟨ro,rx,ry,co,bx,hby,len,oo,ox,oy,mo,mx,my⟩:=h;have r1:=ac8.1 rx;have r2:=ac8.1 ry;refine ⟨x8 ro fun t ht=>bx t ht x abF,r1.2,ry,fun m=> ?_,gK (fun t ht s hs=>bx t ht s (abN _ hs)) fun s hs=>r1.1 s hs,gK hby fun s hs=> ?_,by simp at len ⊢;omega,gK oo ⟨(ox x abF).1,(ox x abF).2.mono abq⟩,fun t ht=>ox t (abN _ ht),oy,gK mo ⟨x,mx x abF,rfl⟩,fun t ht=>mx t (abN _ ht),my⟩
 ·have:=co m;rw [fK x X] at this;rw [fV,xh];grind
 ·rcases abO.1 hs with rfl|hs
  ·exact hl
  ·exact kU hl (r2.1 s hs)
theorem Mg.right {xs ys X Y:List TR}{x y:TR} (h:Mg k xs ys O (x::X) (y::Y)) (hl:iU y.m x.m=true):Mg k xs ys (O++[y]) (x::X) Y:=by
 obtain ⟨ro,rx,ry,co,bx,hby,len,oo,ox,oy,mo,mx,my⟩:=h;have r1:=ac8.1 rx;have r2:=ac8.1 ry;refine ⟨x8 ro fun t ht=>hby t ht y abF,rx,r2.2,fun m=> ?_,gK bx fun s hs=> ?_,gK (fun t ht s hs=>hby t ht s (abN _ hs)) fun s hs=>r2.1 s hs,by simp at len ⊢;omega,gK oo ⟨(oy y abF).1,(oy y abF).2.mono abq⟩,ox,fun t ht=>oy t (abN _ ht),gK mo ⟨y,my y abF,rfl⟩,mx,fun t ht=>my t (abN _ ht)⟩
 ·have:=co m;rw [fK y Y] at this;rw [fV,xh];grind
 ·rcases abO.1 hs with rfl|hs
  ·exact hl
  ·exact kU hl (r1.1 s hs)
theorem Mg.both {xs ys X Y:List TR}{x y:TR} (h:Mg k xs ys O (x::X) (y::Y)) (h1:iU x.m y.m=false) (h2:iU y.m x.m=false) (hk:k≤3999980):Mg k xs ys (O++[⟨x.m,nR (x.c.d+y.c.d)⟩]) X Y:=by
 obtain ⟨ro,rx,ry,co,bx,hby,len,oo,ox,oy,mo,mx,my⟩:=h;have r1:=ac8.1 rx;have r2:=ac8.1 ry;have e:=pC h1 h2;have hz:=(ox x abF).2.add (oy y abF).2;refine ⟨x8 ro fun t ht=>bx t ht x abF,r1.2,r2.2,fun m=> ?_,gK (fun t ht s hs=>bx t ht s (abN _ hs)) fun s hs=>r1.1 s hs,gK (fun t ht s hs=>hby t ht s (abN _ hs)) fun s hs=> ?_,by simp at len ⊢;omega,gK oo ⟨hz.ok abq, ?_⟩,fun t ht=>ox t (abN _ ht),fun t ht=>oy t (abN _ ht),gK mo ⟨x,mx x abF,rfl⟩,fun t ht=>mx t (abN _ ht),fun t ht=>my t (abN _ ht)⟩
 ·have:=co m;rw [fK y Y,fK x X,←e] at this;rw [fV,xh];show iW O m+(if x.m=m then (nR (x.c.d+y.c.d)).d else 0)+(iW X m+iW Y m)=_;rw [a6];grind
 ·show iU x.m s.m=true;rw [e];exact r2.1 s hs
 ·show Sz _ (nR _).d;rw [a6];exact hz
theorem Mg.done {xs ys X Y:List TR} (h:Mg k xs ys O X Y) (hd:X=[]∨Y=[]):MD (k+1) (xs++ys) (O++X++Y):=by
 obtain ⟨ro,rx,ry,co,bx,hby,len,oo,ox,oy,mo,mx,my⟩:=h;refine ⟨?_,fun m=> ?_,by simp at len ⊢;omega,fun t ht=> ?_,fun t ht=> ?_⟩
 ·rw [acb];refine List.pairwise_append.2 ⟨ro, ?_,fun t ht s hs=> ?_⟩
  ·rcases hd with rfl|rfl
   ·exact ry
   ·rw [acg];exact rx
  ·rcases acq.1 hs with hs|hs
   ·exact bx t ht s hs
   ·exact hby t ht s hs
 ·rw [fV,fV,fV,Dyadic.add_assoc];exact co m
 ·rcases acq.1 ht with ht|ht
  ·rcases acq.1 ht with ht|ht
   ·exact oo t ht
   ·exact ⟨(ox t ht).1,(ox t ht).2.mono abq⟩
  ·exact ⟨(oy t ht).1,(oy t ht).2.mono abq⟩
 ·rcases acq.1 ht with ht|ht
  ·rcases acq.1 ht with ht|ht
   ·exact mo t ht
   ·exact ⟨t,mx t ht,rfl⟩
  ·exact ⟨t,my t ht,rfl⟩
theorem MD.aA {k:Nat}{l L:List TR} (h:MD k l L):((L.filter qZ).map fun t=>(⟨t.m,nR t.c.d⟩:TR))=aA l:=by
 refine sO ⟨?_,fun t ht=> ?_,fun t ht=> ?_⟩ fun m=> ?_
 ·exact List.Pairwise.map _ (fun a b hab=>hab) (List.Pairwise.filter _ h.ua)
 ·obtain ⟨s,hs,rfl⟩:=abL.1 ht;show (nR s.c.d).d≠0;rw [a6];exact GS (acX.1 hs).2
 ·obtain ⟨s,hs,rfl⟩:=abL.1 ht;show nR s.c.d=nR (nR s.c.d).d;rw [a6]
 ·have e:∀(f:ByteArray→Dyadic) (k:List TR),wS f (k.map fun t=>(⟨t.m,nR t.c.d⟩:TR))=wS f k:=fun f k=>by
   induction k with
   |nil=>rfl
   |cons t k ih=>rw [ab8,wS,wS,ih];show (nR t.c.d).d*f t.m+_=_;rw [a6]
  show wS _ _=_;rw [e,y6];exact h.co m
theorem z6 {l:List TR} (h:l.length<2):u1 l:=by
 match l,h with
 |[],_=>exact ae1
 |[x],_=>exact afa _ _
variable {K:Value→World→Prop}{ag:Bool}{by':Nat}{ops:Array Oper}{pos:String}{zc:List Value}
section
variable {ro:Mode}
section
variable {P:Program}{N:Nat}{ops:Array Oper}{Q:Kq}{ρ:Rf}{w w0:World}{rest:List Oper}{H:List HE}{d:Nat}{ty:TypeId}{pos:String}{af:Array Edge}
theorem QR (hh:Hp w0 H w) {t e:TypeId}{l cp:Operand}{kl kc:IntKind}{L C:Int}{sz:Nat} (hl:ev ρ l=.int kl L) (hc:ev ρ cp=.int kc C) (hL:L=0) (hC:C=(n:Int))
  (ht:P.underlying t=some (.slice e)) (hte:dy P e=some (sz,ag,by',zc)) (hb:by'*n≤281474976710656) (h63:n≤9223372036854775807) (hN:d<N)
  (k:∀b w',Hp w0 (.row (some ⟨b,0,none⟩) 0 n e sz []::H) w'→WL ro P N ops Q rest (cg ρ d (.slice (some ⟨b,0,none⟩) 0 n)) w'):
  WL ro P N ops Q (⟨some d,.makeSlice t l cp,ty,pos,af,none⟩::rest) ρ w:=by
 obtain ⟨i,z,dd,hi,hd,hz,hs,hby,hzc,_⟩:=gg hte;subst hL;subst hC;subst hs;have hr:=run_make (P:=P) w t e i z ht hi hz kl kc 0 n (ael _) abq (by rw [hby,←acK];omega) abq;simp only [ada,Int.toNat_zero] at hr;refine aM rfl rfl hN (w':=w.alloc (.cells (madeCells z.cells (n*i.size)) e)) (v:=.slice (some ⟨w.heap.size,0,none⟩) 0 n) ?_ (k _ _ (hh.aD (show Below w.heap.size w (w.alloc (.cells (madeCells z.cells (n*i.size)) e)) from ⟨rfl,rfl,rfl,(World.grownBy_alloc w _ none).size,fun j hj=>(World.grownBy_alloc w _ none).block j hj (by simp)⟩) ?_))
 ·simp [execOp,hl,hc,hr]
 ·exact ⟨by simp,.inr ⟨w.heap.size,n,madeCells z.cells (n*i.size),rfl,abD _,heap_alloc_new w _,abB _,by unfold maxLen;omega,size_madeCells _ _,by simp⟩⟩
end
def ma (n sz:Nat) (cs:List Value):VP:=fun v W=>∃g:Nat,v=.slice (some ⟨g,0,none⟩) n n∧Sl W (some ⟨g,0,none⟩) n sz cs
theorem ma.ext {sz:Nat} (v:Value) (w w':World) (h:ma n sz cs v w) (hb:Below w.heap.size w w'):ma n sz cs v w':=let ⟨g,h1,h2⟩:=h;⟨g,h1,h2.ext hb⟩
section
variable {P:Program}{ρ:Rf}{w:World}
theorem QP {d:Option Nat}{ty:TypeId}{af:Array Edge}{t e:TypeId}{l cp:Operand}{kl kc:IntKind}{L C:Int}{sz:Nat} (hl:ev ρ l=.int kl L) (hc:ev ρ cp=.int kc C) (hL:L=(n:Int)) (hC:C=(n:Int))
  (ht:P.underlying t=some (.slice e)) (hte:dy P e=some (sz,ag,by',zc)) (hzl:zc.length=sz) (hb:by'*n≤281474976710656) (h63:n≤9223372036854775807)
  (hk:∀v w2,ma n sz (hZ n zc) v w2→Below w.heap.size w w2→K v w2):OG P ops ⟨d,.makeSlice t l cp,ty,pos,af,none⟩ ρ w K:=by
 obtain ⟨i,z,dd,hi,hd,hz,hs,hby,hzc,_⟩:=gg hte;subst hL;subst hC;obtain ⟨w',hr,hown,hg⟩:=run_make_full (P:=P) w w.heap.size t e i z sz ht hi hz hs kl kc n (by rw [hby];exact hb) (by unfold maxLen;omega) (abD _);have hzz:(madeCells z.cells (n*sz)).toList=hZ n zc:=by
  exact Yf
 rw [hzz] at hown;exact cY rfl (w':=w') (v:=.slice (some ⟨w.heap.size,0,none⟩) n n) (by simp [execOp,hl,hc,hr]) (hk _ _ ⟨w.heap.size,rfl,nV hown⟩ ⟨hg.os,hg.tape,hg.output,hg.size,fun j hj=>hg.block j hj (by simp)⟩)
theorem xg (n:Nat):hZ n [.int .u8 0]=n5 (List.replicate n 0):=by
 induction n with
 |zero=>rfl
 |succ n ih=>rw [hZ,ih,ad5];rfl
end
end
theorem HT (a:ByteArray):a.toList=a.data.toList:=by
 have key:∀s:ByteArray,s.toList=s.data.toList:=fun s=>by
  exact Yd
 exact key a
theorem mO (a b:ByteArray):Op.bytesLess a.toList b.toList=iU a b:=by rw [HT,HT];rfl
theorem QG (a b:ByteArray):(!(Op.bytesLess a.toList b.toList||a.toList==b.toList))=iU b a:=by
 rw [mO,MQ]
 cases h1:iU a b with
 |true=>rw [JY h1];rfl
 |false=>
  cases h2:iU b a with
  |true=>rw [abR (fun e=>PZ h2 e.symm)];rfl
  |false=>rw [abQ (pC h1 h2)];rfl
def PW (x y:TR):Int:=if iU x.m y.m=true then -1 else if iU y.m x.m=true then 1 else 0
theorem Gb (x y:TR) (w:World):Calls Tryz.prog 223 #[.agg #[.string x.m,.bool x.c.neg,.string x.c.aO,.int .i64 x.c.e],.agg #[.string y.m,.bool y.c.neg,.string y.c.aO,.int .i64 y.c.e]] w fun r w'=>r=.returned (.int .i64 (PW x y))∧Below w.heap.size w w':=by
 have hh:=Hp.start w;refine ae (N:=17) (l:=[.agg #[.string x.m,.bool x.c.neg,.string x.c.aO,.int .i64 x.c.e],.agg #[.string y.m,.bool y.c.neg,.string y.c.aO,.int .i64 y.c.e]]) Tryz.func223 rfl rfl (by simp) ?_;refine bX ?_;intro b2 w2 hh b3 w3 hh;refine td rfl rfl abr ?_;refine aj ?_;rw [mO];unfold PW
 cases h1:iU x.m y.m with
 |true=>
  refine aj ?_;exact ⟨rfl,hh.below⟩
 |false=>
  refine aj ?_;refine LD rfl rfl abr ?_;refine aj ?_;rw [QG]
  cases h2:iU y.m x.m with
  |true=>
   refine aj ?_;exact ⟨rfl,hh.below⟩
  |false=>
   refine aj ?_;exact ⟨rfl,hh.below⟩
theorem Ln (x y:TR) (k:Nat) (w:World) (hT:dq w) (hx:x.c.ok∧Sz k x.c.d) (hy:y.c.ok∧Sz k y.c.d) (hk:k≤3999980):Calls Tryz.prog 224 #[.agg #[.string x.m,.bool x.c.neg,.string x.c.aO,.int .i64 x.c.e],.agg #[.string y.m,.bool y.c.neg,.string y.c.aO,.int .i64 y.c.e]] w fun r w'=>r=.returned (.agg #[.string x.m,.bool (nR (x.c.d+y.c.d)).neg,.string (nR (x.c.d+y.c.d)).aO,.int .i64 (nR (x.c.d+y.c.d)).e])∧Below w.heap.size w w':=by
 have hh:=Hp.start w;have hsum:=fun A cc w1 hT1 hS1=>gl A 2 cc [x.c,y.c] w1 hT1 hS1 (by simpa using ⟨hx.1,hy.1⟩) k (by simpa using ⟨hx.2,hy.2⟩) abq;rw [show nM ([x.c,y.c].map NR.d)=x.c.d+y.c.d by simp only [ab8,acF,jH]] at hsum;refine ae (N:=14) (l:=[.agg #[.string x.m,.bool x.c.neg,.string x.c.aO,.int .i64 x.c.e],.agg #[.string y.m,.bool y.c.neg,.string y.c.aO,.int .i64 y.c.e]]) Tryz.func224 rfl rfl (by simp) ?_;refine lK ?_;intro b2 w2 hh b3 w3 hh b4 w4 hh;refine aC 8 [[(2,none)],[(5,some 0)],[(2,none)],[(7,some 2)],[(3,none)],[(9,some 4)],[(8,some 3),(10,some 5)],[(11,some 6)]] [(7,12),(6,11),(5,10),(4,9),(3,8),(2,7),(1,6),(0,5)] hh mixed abt ?_;refine dw ?_;refine fF 2 ?_;refine dw ?_;refine da 2 [_,_,_] ?_;refine dw ?_;refine da 1 [_,_,_] ?_;refine uW [_,_,_,_,_,_] ?_;refine aW (i:=7) (Is (.agg #[.bool (nR (x.c.d+y.c.d)).neg,.string (nR (x.c.d+y.c.d)).aO,.int .i64 (nR (x.c.d+y.c.d)).e])) Is.ext ?_ ?_
 ·intro ρ1 w1 hj hR;obtain ⟨A11,c11,h11,s11⟩:=hR.1;exact bp rfl (aR ak.out (aq h11 aY)) (hsum A11 c11 _ (hT.hp hj.hp) s11) (fun _ _ hq=>⟨_,hq.1,hq.2,rfl⟩)
 refine av ?_;intro f W hJ hV;have hb_1:=hJ.bl;obtain ⟨v12,v11,v10,v9,v8,v7,v6,v5,_⟩:=hV;obtain ⟨A11,c11,e11,f11⟩:Rows _ _ _ (f 6) W:=v11;replace hh:=hJ.hp;refine ay (aQ (aa v12 (aa e11 (aa v10 (aa v9 (aa v8 (aa v7 (aa v6 (aa v5 aw))))))))) ?_;dsimp only [bA];clear e11 hJ;refine bT ?_;intro ws hh;refine Kt (bI rfl (bJ (vs:=[_,_,_,_]) az.out (hh.aE (i:=0) (n:=4) rfl rfl) rfl) cR) ?_;exact ⟨rfl,hh.below⟩
variable {N:Nat}{w:World}{ρ:Rf}
theorem cK {Q:Kq}{L:Array Bool}{i d:Nat}{op:Op}{ty:TypeId}{af:Array Edge}{v:Value} (hq:NP Q) (hi:ops[i]?=some ⟨some d,op,ty,pos,af,none⟩) (hs:Region.noSelect ops=true) (hf:Region.free .any ops L i=true) (hr:(Region.ready .any ops L).contains i=true)
  (hv:∀w,(execOp (ev ρ) ⟨some d,op,ty,pos,af,none⟩).run P w=.ok (.value v) w) (hN:d<N) (h:WA P N ops Q fuel (L.setIfInBounds i true) (cg ρ d v) w):WA P N ops Q (fuel+1) L ρ w:=
 ⟨fun a hfit=>wpAny_first hi (Region.noSelect_spec hs) (fun c a w ⟨ρ',_,hq'⟩=>(hq c ρ' w hq').elim) fuel L a w (Region.free_spec hi hf) (by simpa using hr) (.inl ⟨by simp [Region.wanted],fun w=>by rw [hfit.eval];exact hv w⟩) (h.out _ (hfit.put hN v))⟩
theorem Sl.tail {A:Option Addr}{c:Nat}{x:TR}{X:List TR} (h:Sl w A n 4 (ar TR.cells (x::X))) (h0:0<n) (hc:n≤c):Sl w (if c=1 then A else A.map (·.add (1*4))) (n-1) 4 (ar TR.cells X):=by
 have:=h.back (l:=1) abq hc;rw [show (ar TR.cells (x::X)).drop (1*4)=ar TR.cells X from jj TR.len (x::X) 1] at this;exact this
theorem se (A:Option Addr) (n c:Nat) (xs:List TR) (B:Option Addr) (m c2:Nat) (ys:List TR) (k:Nat) (w:World) (hT:dq w) (hS:Sl w A n 4 (ar TR.cells xs)) (hS2:Sl w B m 4 (ar TR.cells ys)) (hc:n≤c) (hc2:m≤c2) (hn:n≤1000000) (hm:m≤1000000) (hk:k≤3999980)
  (rx:u1 xs) (ry:u1 ys) (ox:iO k xs) (oy:iO k ys):
  Calls Tryz.prog 222 #[.slice A n c,.slice B m c2,.func (.func 223) #[] #[],.func (.func 224) #[] #[]] w fun r w'=>∃(L:List TR) (A':Option Addr) (c':Nat),MD (k+1) (xs++ys) L∧r=.returned (.slice A' L.length c')∧Hp w [.row A' L.length c' 95 4 (ar TR.cells L)] w':=by
 have hh:=Hp.start w;have hlx:=hS.aX TR.len abr;have hly:=hS2.aX TR.len abr;have hnx:xs.length≤1000000:=abq;have hny:ys.length≤1000000:=abq;refine ae (N:=75) (l:=[.slice A n c,.slice B m c2,.func (.func 223) #[] #[],.func (.func 224) #[] #[]]) Tryz.func222 rfl rfl (by simp) ?_;refine aj ?_;refine QR (n:=(n+m)) hh rfl rfl abq abq bq.out az.out abq abq abr ?_;intro b16 w16 hh;refine aj ?_;refine yf [0,1,9,10,17,18,19,20,21,22,23,24,25,26,27,28,29,30,31,32,33,34,35,36,37,38,39,40,41,42,43,44,45,46,47,48,49,50,51,52,53,54,55,56,57,58,59,60,61,62,63,64,65,66,67,68,69] 0 1 9
  (fun va vb vo w'=>∃(A:Option Addr) (n c:Nat) (X:List TR) (B:Option Addr) (m c2:Nat) (Y:List TR) (O:List TR) (C:Option Addr) (co:Nat),va=.slice A n c∧vb=.slice B m c2∧vo=.slice C O.length co∧n≤c∧m≤c2∧Sl w A n 4 (ar TR.cells X)∧Sl w B m 4 (ar TR.cells Y)∧Mg k xs ys O X Y∧Hp w [.row C O.length co 95 4 (ar TR.cells O)] w')
  (fun va vb _ _=>lenOf va+lenOf vb) ?_ ?_
 ·exact ⟨A,n,c,xs,B,m,c2,ys,[],some ⟨b16,0,none⟩,n+m,rfl,rfl,rfl,hc,hc2,hS,hS2,Mg.start rx ry ox oy,hh⟩
 ·clear hh hS hS2 hlx hly hc hc2 hn hm;rintro ρ' va vb vo w' ⟨A,n,c,X,B,m,c2,Y,O,C,co,rfl,rfl,rfl,hc,hc2,hS,hS2,hmg,hh⟩;have hX:=hS.aX TR.len abr;have hY:=hS2.aX TR.len abr;have hlen:=hmg.len;have oX:=bj TR.one X;have oY:=bj TR.one Y;by_cases hn:n=0
  ·refine aj ?_;refine bQ hh (i:=0) rfl rfl rfl (hS.ext hh.below) bq.out az.out rfl abr ?one3 abq abq abr ?kk3
   case one3=>first|rfl|assumption|exact bg _|exact oneCells_u8s _
   intro A72 c72 w72 hh;simp only [abK] at hh;refine mL ?_;refine bQ hh (i:=0) rfl rfl rfl (hS2.ext hh.below) bq.out az.out rfl abr ?one4 abq abq abr ?kk4
   case one4=>first|rfl|assumption|exact bg _|exact oneCells_u8s _
   intro A74 c74 w74 hh;simp only [abK] at hh;refine aj ?_;have hd:=hmg.done (.inl (adB abq));exact WU
  ·by_cases hm:m=0
   ·refine aj ?_;refine bQ hh (i:=0) rfl rfl rfl (hS.ext hh.below) bq.out az.out rfl abr ?one5 abq abq abr ?kk5
    case one5=>first|rfl|assumption|exact bg _|exact oneCells_u8s _
    intro A72 c72 w72 hh;simp only [abK] at hh;refine mL ?_;refine bQ hh (i:=0) rfl rfl rfl (hS2.ext hh.below) bq.out az.out rfl abr ?one6 abq abq abr ?kk6
    case one6=>first|rfl|assumption|exact bg _|exact oneCells_u8s _
    intro A74 c74 w74 hh;simp only [abK] at hh;refine aj ?_;have hd:=hmg.done (.inr (adB abq));exact WU
   ·obtain ⟨x,X,rfl⟩:∃x X',X=x::X':=by cases X with
     |nil=>exact absurd hX.symm hn
     |cons x X'=>exact ⟨x,X',rfl⟩
    obtain ⟨y,Y,rfl⟩:∃y Y',Y=y::Y':=by cases Y with
     |nil=>exact absurd hY.symm hm
     |cons y Y'=>exact ⟨y,Y',rfl⟩
    obtain ⟨ad,rfl,hr⟩:=hS.at_ abq;obtain ⟨ad2,rfl,hr2⟩:=hS2.at_ abq;have hxx:(x::X)[0]?=some x:=rfl;have hyy:(y::Y)[0]?=some y:=rfl;have hSt:=hS.tail abq hc;have hSt2:=hS2.tail abq hc2;have hsd:=fun w1=>Gb x y w1;unfold PW at hsd
    cases h1:iU x.m y.m with
    |true=>
     rw [h1,abx rfl] at hsd;refine aj ?_;refine O2 ?_;refine SO ?_;refine fO ?_;refine mU (0) ?_;refine p9 [_,_,_,_] (fun _ hj=>(hr.ext hj.hp.below).recAt TR.len hxx) ?_;refine fO ?_;refine mU (0) ?_;refine p9 [_,_,_,_] (fun _ hj=>(hr2.ext hj.hp.below).recAt TR.len hyy) ?_;refine av ?_;intro f W hJ hV;have hb_3:=hJ.bl;obtain ⟨v31,v30,v29,v28,v27,v26,v25,_⟩:=hV;replace hh:=hJ.hp;refine L6 ?_;dsimp only [bA];clear hJ;refine g7 (hsd _) ak.out rfl rfl abr ?_;rintro e_ w32 ⟨rfl,hb_⟩;refine ⟨_,rfl, ?_⟩;replace hh:=hh.ext hb_;refine aj ?_;refine pw hh mixed fun w_ hj_=> ?_;replace hh:=hj_.hp;clear hj_;refine cK (i:=6) (by repeat (first|exact bV|refine bD ?_|refine bU ?_|refine np_scope ?_)) rfl abt abt abt (fun _=>ek rfl) abr ?_;refine cK (i:=7) (by repeat (first|exact bV|refine bD ?_|refine bU ?_|refine np_scope ?_)) rfl abt abt abt (fun _=>gJ (l:=1) bq.out az.size rfl rfl abq abq abq) abr ?_;refine cK (i:=0) (by repeat (first|exact bV|refine bD ?_|refine bU ?_|refine np_scope ?_)) rfl abt abt abt (fun _=>ek rfl) abr ?_
     refine cK (i:=1) (by repeat (first|exact bV|refine bD ?_|refine bU ?_|refine np_scope ?_)) rfl abt abt abt (fun _=>ek rfl) abr ?_;refine cK (i:=2) (by repeat (first|exact bV|refine bD ?_|refine bU ?_|refine np_scope ?_)) rfl abt abt abt (fun _=>iC (k:=0) bq.out az.size rfl rfl abq abq) abr ?_;refine eO (i:=3) abt rfl ?_;refine PE ?_;refine dO ?_;refine eO (i:=4) abt rfl ?_;refine Ev ?_;intro b55 w55 hh;refine dO ?_;refine eO (i:=5) abt rfl ?_;refine qm ?_;intro A56 c56 w56 hh;simp only [abK,ab9] at hh;replace hh:=hh.sub (acn _ _);refine dO ?_;refine Oj ?_;refine aj ?_;replace hh:=hh.sub (aby _ abV);refine ⟨⟨_,n-1,c-1,X,some ad2,m,c2,y::Y,O++[x],A56,c56,rfl,rfl, ?_,abq,hc2,hSt,hS2,hmg.left h1, ?_⟩,by show (n-1)+m<n+m;omega, ?_⟩
     ·show Value.slice _ (O.length+1) _=Value.slice _ (O++[x]).length _;rw [abJ]
      rfl
     ·rw [abJ,bo];exact hh
     ·exact dI
    |false=>
     cases h2:iU y.m x.m with
     |true=>
      rw [h1,h2,abw abr,abx rfl] at hsd;refine aj ?_;refine O2 ?_;refine SO ?_;refine fO ?_;refine mU (0) ?_;refine p9 [_,_,_,_] (fun _ hj=>(hr.ext hj.hp.below).recAt TR.len hxx) ?_;refine fO ?_;refine mU (0) ?_;refine p9 [_,_,_,_] (fun _ hj=>(hr2.ext hj.hp.below).recAt TR.len hyy) ?_;refine av ?_;intro f W hJ hV;have hb_3:=hJ.bl;obtain ⟨v31,v30,v29,v28,v27,v26,v25,_⟩:=hV;replace hh:=hJ.hp;refine L6 ?_;dsimp only [bA];clear hJ;refine g7 (hsd _) ak.out rfl rfl abr ?_;rintro e_ w32 ⟨rfl,hb_⟩;refine ⟨_,rfl, ?_⟩;replace hh:=hh.ext hb_;refine aj ?_;refine pw hh mixed fun w_ hj_=> ?_;replace hh:=hj_.hp;clear hj_;refine cK (i:=6) (by repeat (first|exact bV|refine bD ?_|refine bU ?_|refine np_scope ?_)) rfl abt abt abt (fun _=>ek rfl) abr ?_;refine cK (i:=7) (by repeat (first|exact bV|refine bD ?_|refine bU ?_|refine np_scope ?_)) rfl abt abt abt (fun _=>gJ (l:=1) bq.out az.size rfl rfl abq abq abq) abr ?_;refine cK (i:=0) (by repeat (first|exact bV|refine bD ?_|refine bU ?_|refine np_scope ?_)) rfl abt abt abt (fun _=>ek rfl) abr ?_
      refine cK (i:=1) (by repeat (first|exact bV|refine bD ?_|refine bU ?_|refine np_scope ?_)) rfl abt abt abt (fun _=>ek rfl) abr ?_;refine cK (i:=2) (by repeat (first|exact bV|refine bD ?_|refine bU ?_|refine np_scope ?_)) rfl abt abt abt (fun _=>iC (k:=0) bq.out az.size rfl rfl abq abq) abr ?_;refine eO (i:=3) abt rfl ?_;refine Pg ?_;refine dO ?_;refine eO (i:=4) abt rfl ?_;refine Ev ?_;intro b66 w66 hh;refine dO ?_;refine eO (i:=5) abt rfl ?_;refine qm ?_;intro A67 c67 w67 hh;simp only [abK,ab9] at hh;replace hh:=hh.sub (acn _ _);refine dO ?_;refine Oj ?_;refine aj ?_;replace hh:=hh.sub (aby _ abV);refine ⟨⟨some ad,n,c,x::X,_,m-1,c2-1,Y,O++[y],A67,c67,rfl,rfl, ?_,hc,abq,hS,hSt2,hmg.right h2, ?_⟩,by show n+(m-1)<n+m;omega, ?_⟩
      ·show Value.slice _ (O.length+1) _=Value.slice _ (O++[y]).length _;rw [abJ]
       rfl
      ·rw [abJ,bo];exact hh
      ·exact dI
     |false=>
      rw [h1,h2,abw abr,abw abr] at hsd;have hsm:=fun w1 hT1=>Ln x y k w1 hT1 (hmg.ox x abF) (hmg.oy y abF) hk;refine aj ?_;refine O2 ?_;refine SO ?_;refine fO ?_;refine mU (0) ?_;refine p9 [_,_,_,_] (fun _ hj=>(hr.ext hj.hp.below).recAt TR.len hxx) ?_;refine fO ?_;refine mU (0) ?_;refine p9 [_,_,_,_] (fun _ hj=>(hr2.ext hj.hp.below).recAt TR.len hyy) ?_;refine av ?_;intro f W hJ hV;have hb_3:=hJ.bl;obtain ⟨v31,v30,v29,v28,v27,v26,v25,_⟩:=hV;replace hh:=hJ.hp;refine L6 ?_;dsimp only [bA];clear hJ;refine g7 (hsd _) ak.out rfl rfl abr ?_;rintro e_ w32 ⟨rfl,hb_⟩;refine ⟨_,rfl, ?_⟩;replace hh:=hh.ext hb_;refine aj ?_;refine pw hh mixed fun w_ hj_=> ?_;replace hh:=hj_.hp;clear hj_;refine cK (i:=11) (by repeat (first|exact bV|refine bD ?_|refine bU ?_|refine np_scope ?_)) rfl abt abt abt (fun _=>ek rfl) abr ?_;refine cK (i:=12) (by repeat (first|exact bV|refine bD ?_|refine bU ?_|refine np_scope ?_)) rfl abt abt abt (fun _=>gJ (l:=1) bq.out az.size rfl rfl abq abq abq) abr ?_
      refine cK (i:=13) (by repeat (first|exact bV|refine bD ?_|refine bU ?_|refine np_scope ?_)) rfl abt abt abt (fun _=>ek rfl) abr ?_;refine cK (i:=14) (by repeat (first|exact bV|refine bD ?_|refine bU ?_|refine np_scope ?_)) rfl abt abt abt (fun _=>gJ (l:=1) bq.out az.size rfl rfl abq abq abq) abr ?_;refine cK (i:=0) (by repeat (first|exact bV|refine bD ?_|refine bU ?_|refine np_scope ?_)) rfl abt abt abt (fun _=>ek rfl) abr ?_;refine cK (i:=1) (by repeat (first|exact bV|refine bD ?_|refine bU ?_|refine np_scope ?_)) rfl abt abt abt (fun _=>ek rfl) abr ?_;refine cK (i:=2) (by repeat (first|exact bV|refine bD ?_|refine bU ?_|refine np_scope ?_)) rfl abt abt abt (fun _=>ek rfl) abr ?_;refine cK (i:=3) (by repeat (first|exact bV|refine bD ?_|refine bU ?_|refine np_scope ?_)) rfl abt abt abt (fun _=>iC (k:=0) bq.out az.size rfl rfl abq abq) abr ?_;refine cK (i:=5) (by repeat (first|exact bV|refine bD ?_|refine bU ?_|refine np_scope ?_)) rfl abt abt abt (fun _=>ek rfl) abr ?_
      refine cK (i:=6) (by repeat (first|exact bV|refine bD ?_|refine bU ?_|refine np_scope ?_)) rfl abt abt abt (fun _=>iC (k:=0) bq.out az.size rfl rfl abq abq) abr ?_;refine vU (i:=4) (i2:=7) abt rfl rfl ?_ ?_
      ·refine PE ?_;refine dO ?_;refine eO (i:=7) abt rfl ?_;refine Pg ?_;exact To
      ·refine Pg ?_;refine dO ?_;refine eO (i:=4) abt rfl ?_;refine PE ?_;exact To
variable {H':List HE}{b' c' c1 n1 n2 s1 s2:Nat}{fz:Nat×Nat}{t' t1 t2:TypeId}{w' w0 w1:World}{xs1 xs2:List Value}
section
variable {ro:Mode}
theorem iq {t:TypeId}{sz c:Nat}{A:Option Addr}{xs:List Value} (h:w.ownsRow b t sz (.slice A n c) n xs) (hb:b'≤b):w.ownsRow b' t sz (.slice A n c) n xs:=
 ⟨h.1,h.2.imp id fun ⟨g,cap,cur,h1,h2,h3⟩=>⟨g,cap,cur,h1,abW hb h2,h3⟩⟩
theorem oa {x:HE} (h:x.holds b w) (hb:b'≤b):x.holds b' w:=by
 cases x with
 |blk b t cs fz=>exact ⟨abW hb h.1,h.2⟩
 |row A n c t sz xs=>exact iq h hb
 |ob b o=>exact ⟨abW hb h.1,h.2⟩
theorem Hp.perm {H:List HE} (h:Hp w0 H w) (hp:H.Perm H'):Hp w0 H' w:=
 ⟨h.below,fun x hx=>h.own x (hp.mem_iff.2 hx),(hp.filterMap _).nodup_iff.1 h.nd⟩
theorem Hp.gN {H:List HE} (h:Hp w0 H w) {i c sz:Nat}{A:Option Addr}{t:TypeId}{xs:List Value} (hi:H[i]?=some (.row A n c t sz xs)):n≤c:=by
 have h1:w.ownsRow w0.heap.size t sz (.slice A n c) n xs:=h.at_ hi
 rcases h1.2 with ⟨_,h3⟩|⟨g,cap,cur,h2,_,_,h5,_⟩
 ·omega
 ·injection h2 with _ _ e3
  omega
theorem Hp.join {H H2:List HE} (h:Hp w0 H w) (h2:Hp w H2 w'):Hp w0 (H2++H) w':=by
 have h':=h.ext h2.below;refine ⟨h'.below,fun x hx=> ?_, ?_⟩
 ·rcases acq.1 hx with hx|hx
  ·exact oa (h2.own x hx) h.size
  ·exact h'.own x hx
 ·rw [ae7,List.nodup_append];refine ⟨h2.nd,h.nd,fun a ha b hb hab=> ?_⟩;subst hab;obtain ⟨x,hx,hxa⟩:=ac0.1 ha;obtain ⟨y,hy,hya⟩:=ac0.1 hb;have h3:=fg (h2.own x hx) hxa;have h4:=fg (h.own y hy) hya;omega
section
variable {P:Program}{N:Nat}{ops:Array Oper}{Q:Kq}{ρ:Rf}{w w0:World}{rest:List Oper}{H:List HE}{ty:TypeId}{pos:String}{af:Array Edge}
theorem QY {o:Oper}{v:Value} (hg:o.guard=none) (hd:o.dst=none)
  (hr:(execOp (ev ρ) o).run P w=.ok (.value v) w') (k:WL ro P N ops Q rest ρ w'):WL ro P N ops Q (o::rest) ρ w:=
 ⟨fun hm a hf=>wpList_plain hg fun K hK=>by
  unfold Oper.wp;rw [hf.eval,hr];show K (a.put o.dst v) w';rw [hd];exact hK _ _ (k.nE hm _ hf),
 fun a hf n=>wpListIn_plain hg fun K hK=>by
  refine ⟨fun _ _=>trivial, ?_⟩;rw [hf.eval,mE _ hr (fun _ h=>by cases h)];show K (a.put o.dst v) w';rw [hd];exact hK _ _ (k.lh _ hf n)⟩
theorem CQ {l:List α}{i:Nat}{x:α} (h:l[i]?=some x):l.set i x=l:=by
 obtain ⟨h1,rfl⟩:=abM.1 h;exact List.set_getElem_self h1
end
abbrev Hp.sz {w0 w:World}{H:List HE} (_:Hp w0 H w):Nat:=w.heap.size
theorem x7 {A:Option Addr}{c sz:Nat}{t:TypeId}{xs:List Value}{cs:Array Value} (h:HE.holds base W (.row A n c t' sz xs)) (h3:W.heap[b]?=some (.cells cs t fz)) (hne:t'≠t):(HE.row A n c t' sz xs).id≠some b:=by
 intro hid
 rcases h.2 with ⟨h1,_⟩|⟨g,cap,cur,h1,_,h4,_⟩
 ·injection h1 with e1
  subst e1
  cases hid
 ·injection h1 with e1
  subst e1;obtain rfl:g=b:=aca hid;rw [h3] at h4;injection h4 with h4
  injection h4 with _ h5
  exact hne h5.symm
theorem JJ.k4 {H L:List HE}{t:TypeId} (hJ:JJ w0 H w W) (hs:Hp w0 H w) (h2:w.heap.size≤b) (h3:W.heap[b]?=some (.cells cs.toArray t (0,0))) (hb:w.heap.size≤w1.heap.size) (hL:Hp w1 L W) (hne:∀x∈L,x.id≠some b):Hp w0 (.blk b t cs (0,0)::(L++H)) W:=by
 have h1:=hs.join (⟨hJ.bl,fun x hx=>oa (hL.own x hx) hb,hL.nd⟩:Hp w L W);refine ⟨h1.below,fun x hx=> ?_, ?_⟩
 ·rcases abO.1 hx with rfl|hx
  ·exact ⟨abW hs.size h2,h3,.inr (abD _)⟩
  ·exact h1.own x hx
 ·rw [adL];show (b::(L++H).filterMap HE.id).Nodup;refine adI.2 ⟨fun hm=> ?_,h1.nd⟩;obtain ⟨y,hy,hyb⟩:=ac0.1 hm
  rcases acq.1 hy with hy|hy
  ·exact hne y hy hyb
  ·have:=(fg (hs.own y hy) hyb).2;omega
theorem Sj {A A':Option Addr}{c sz n' sz':Nat}{t:TypeId}{xs xs':List Value} (h:HE.holds base W (.row A n c t sz xs)) (h':HE.holds base W (.row A' n' c' t' sz' xs')) (hne:t≠t') (b:Nat) (h1:(HE.row A n c t sz xs).id=some b):(HE.row A' n' c' t' sz' xs').id≠some b:=by
 rcases h.2 with ⟨h2,_⟩|⟨g,cap,cur,h2,_,h4,_⟩
 ·injection h2 with e1
  subst e1
  cases h1
 ·injection h2 with e1
  subst e1;obtain rfl:g=b:=aca h1;exact x7 h' h4 (fun e=>hne e.symm)
theorem JJ.He {H:List HE}{t:TypeId}{c2:Nat}{A1 A2:Option Addr} (hJ:JJ w0 H w W) (hs:Hp w0 H w) (h2:w.heap.size≤b) (h3:W.heap[b]?=some (.cells cs.toArray t (0,0)))
  (o1:W.ownsRow w.heap.size t1 s1 (.slice A1 n1 c1) n1 xs1) (o2:W.ownsRow w.heap.size t2 s2 (.slice A2 n2 c2) n2 xs2) (h12:t1≠t2) (ht1:t1≠t) (ht2:t2≠t):Hp w0 (.blk b t cs (0,0)::.row A1 n1 c1 t1 s1 xs1::.row A2 n2 c2 t2 s2 xs2::H) W:=by
 have hL:Hp w [.row A1 n1 c1 t1 s1 xs1,.row A2 n2 c2 t2 s2 xs2] W:=by
  exact Xi
 refine JJ.k4 hJ hs h2 h3 (abD _) hL fun x hx=> ?_
 rcases abO.1 hx with rfl|hx
 ·exact x7 o1 h3 ht1
 ·obtain rfl:=abX.1 hx;exact x7 o2 h3 ht2
def DL (base:Nat) (t:TypeId) (n sz:Nat) (cs:List Value):VP:=fun v W=>∃A c,v=.slice A n c∧W.ownsRow base t sz (.slice A n c) n cs
theorem DL.ext {t:TypeId}{sz:Nat} (v:Value) (w w':World) (h:DL base t n sz cs v w) (hb:Below w.heap.size w w'):DL base t n sz cs v w':=let ⟨A,c,h1,h2⟩:=h;⟨A,c,h1,lI h2 hb⟩
def yl (base:Nat) (t1 t2:TypeId) (n1 s1 n2 s2:Nat) (xs1 xs2:List Value):VP:=fun v W=>∃A c B k,v=.agg #[.slice A n1 c,.slice B n2 k]∧W.ownsRow base t1 s1 (.slice A n1 c) n1 xs1∧W.ownsRow base t2 s2 (.slice B n2 k) n2 xs2
theorem yl.ext (v:Value) (w w':World) (h:yl base t1 t2 n1 s1 n2 s2 xs1 xs2 v w) (hb:Below w.heap.size w w'):yl base t1 t2 n1 s1 n2 s2 xs1 xs2 v w':=let ⟨A,c,B,k,h1,h2,h3⟩:=h;⟨A,c,B,k,h1,lI h2 hb,lI h3 hb⟩
end
variable {k1 k2:Nat}
structure RX where
 A:Option Addr
 n:Nat
 c:Nat
 ts:List TR
def mb (k:Nat) (l:List TR):VP:=fun v W=>∃g:RX,v=.slice g.A g.n g.c∧(g.n≤g.c∧g.ts.length=g.n∧MD k l g.ts∧Sl W g.A g.n 4 (ar TR.cells g.ts))
theorem mb.ext {l:List TR} (v:Value) (w w':World) (h:mb k l v w) (hb:Below w.heap.size w w'):mb k l v w':=let ⟨g,h1,h2,h3,h4,h5⟩:=h;⟨g,h1,h2,h3,h4,h5.ext hb⟩
theorem MD.Mw {l1 l2 L1 L2 L:List TR} (h1:MD k1 l1 L1) (h2:MD k2 l2 L2) (h:MD k (L1++L2) L) (hk:k≤j):MD j (l1++l2) L:=
 ⟨h.ua,fun m=>by rw [h.co,fV,h1.co,h2.co,fV],by have a:=h.len;have b:=h1.len;have c:=h2.len;rw [abJ] at a ⊢;omega,h.ok.mono hk,fun t ht=>by
  obtain ⟨s,hs,e⟩:=h.mem t ht
  rcases acq.1 hs with hs|hs
  ·obtain ⟨u,hu,e2⟩:=h1.mem s hs;exact ⟨u,adf _ hu,e2.trans e⟩
  ·obtain ⟨u,hu,e2⟩:=h2.mem s hs;exact ⟨u,acI _ hu,e2.trans e⟩⟩
theorem o7 (k:Nat):∀(N:Nat) (A:Option Addr) (n c:Nat) (l:List TR) (w:World),n≤N→dq w→Sl w A n 4 (ar TR.cells l)→n≤c→n≤1000000→k+n≤3999980→iO k l→
  Calls Tryz.prog 244 #[.slice A n c,.func (.func 223) #[] #[],.func (.func 224) #[] #[]] w fun r w'=>(n<2∧r=.returned (.slice A n c)∧Below w.heap.size w w')∨(2≤n∧∃(L:List TR) (A':Option Addr) (c':Nat),MD (k+n) l L∧r=.returned (.slice A' L.length c')∧Hp w [.row A' L.length c' 95 4 (ar TR.cells L)] w')
 |0,A,n,c,l,w,hN,hT,hS,hc,hn,hk,hok=>by
  have hh:=Hp.start w;obtain rfl:n=0:=abq;refine ae (N:=30) (l:=[.slice A 0 c,.func (.func 223) #[] #[],.func (.func 224) #[] #[]]) Tryz.func244 rfl rfl (by simp) ?_;refine aj ?_;exact .inl ⟨abq,rfl,hh.below⟩
 |N+1,A,n,c,l,w,hN,hT,hS,hc,hn,hk,hok=>by
  have hh:=Hp.start w;have hl:=hS.aX TR.len abr;by_cases h2:n<2
  ·refine ae (N:=30) (l:=[.slice A n c,.func (.func 223) #[] #[],.func (.func 224) #[] #[]]) Tryz.func244 rfl rfl (by simp) ?_;refine aj ?_;exact .inl ⟨h2,rfl,hh.below⟩
  ·obtain ⟨h,hhalf⟩:∃h,h=n/2:=⟨_,rfl⟩;have hh1:1≤h:=abq;have hh2:h+h≤n:=abq;have hh3:n≤h+h+1:=abq;have hq:((n:Int))/2=(h:Int):=abq;have hS1:=hS.front (m:=h) abq;rw [show (ar TR.cells l).take (h*4)=ar TR.cells (l.take h) from j6 TR.len l h] at hS1;have hS2:=hS.back (l:=h) abq hc;rw [show (ar TR.cells l).drop (h*4)=ar TR.cells (l.drop h) from jj TR.len l h] at hS2;have o1:iO k (l.take h):=fun t ht=>hok t (adx ht);have o2:iO k (l.drop h):=fun t ht=>hok t (afb ht);have rd:∀{A':Option Addr}{n' c':Nat}{l':List TR}{r:Ending}{w1 w':World},Sl w1 A' n' 4 (ar TR.cells l')→n'≤c'→iO k l'→((n'<2∧r=.returned (.slice A' n' c')∧Below w1.heap.size w1 w')∨(2≤n'∧∃(L:List TR) (B:Option Addr) (b:Nat),MD (k+n') l' L∧r=.returned (.slice B L.length b)∧Hp w1 [.row B L.length b 95 4 (ar TR.cells L)] w'))→∃v,r=.returned v∧Below w1.heap.size w1 w'∧mb (k+n') l' v w':=by
    rintro A' n' c' l' r w1 w' hs hc' ho (⟨h1,rfl,hb⟩|⟨h1,L,B,b,hm,rfl,h3⟩)
    ·have e:=hs.aX TR.len abr;exact ⟨_,rfl,hb,⟨A',n',c',l'⟩,rfl,hc',e,(MD.self (z6 abq) ho).mono abq,hs.ext hb⟩
    ·exact ⟨_,rfl,h3.below,⟨B,L.length,b,L⟩,rfl,h3.gN (i:=0) rfl,rfl,hm,h3.ao (i:=0) rfl⟩
   have ih1:=fun w1 (hT1:dq w1) (hb:Below w.heap.size w w1)=>o7 k N A h c (l.take h) w1 abq hT1 (hS1.ext hb) abq abq abq o1;have ih2:=fun w1 (hT1:dq w1) (hb:Below w.heap.size w w1)=>o7 k N _ (n-h) (c-h) (l.drop h) w1 abq hT1 (hS2.ext hb) abq abq abq o2;refine ae (N:=30) (l:=[.slice A n c,.func (.func 223) #[] #[],.func (.func 224) #[] #[]]) Tryz.func244 rfl rfl (by simp) ?_;refine aj ?_;rw [hq];refine aC 14 [[(0,none)],[(7,none)],[(15,some 0),(16,some 1)],[(1,none)],[(2,none)],[(17,some 2),(18,some 3),(19,some 4)],[(0,none)],[(7,none)],[(21,some 6),(22,some 7)],[(1,none)],[(2,none)],[(23,some 8),(24,some 9),(25,some 10)],[(1,none)],[(2,none)]] [(13,28),(12,27),(11,26),(10,25),(9,24),(8,23),(7,22),(6,21),(5,20),(4,19),(3,18),(2,17),(1,16),(0,15)] hh mixed abt ?_;refine fO ?_;refine dp ?_;refine a8 (i:=2) (fun ρ1 w1 hj hR=>Ct (h:=h) bq.out az.size (show ρ1 15=Value.slice _ _ _ from hR.1) (show ρ1 16=Value.int _ _ from hR.2.1) abq abq) ?_;refine SO ?_;refine SO ?_;refine aW (i:=5) (mb (k+h) (l.take h)) (mb.ext) ?_ ?_
   ·intro ρ1 w1 hj hR;exact bp rfl (aR ak.out (aq (show ρ1 17=Value.slice _ _ _ from hR.1) (aq (show ρ1 18=Value.func _ _ _ from hR.2.1) (aq (show ρ1 19=Value.func _ _ _ from hR.2.2.1) aY)))) (ih1 w1 (hT.hp hj.hp) hj.hp.below) (fun _ _ hq=>rd (hS1.ext hj.hp.below) abq o1 hq)
   refine fO ?_;refine dp ?_;refine a8 (i:=8) (fun ρ1 w1 hj hR=>gJ (l:=h) bq.out az.size (show ρ1 21=Value.slice _ _ _ from hR.1) (show ρ1 22=Value.int _ _ from hR.2.1) abq abq abq) ?_;refine SO ?_;refine SO ?_;refine aW (i:=11) (mb (k+(n-h)) (l.drop h)) (mb.ext) ?_ ?_
   ·intro ρ1 w1 hj hR;exact bp rfl (aR ak.out (aq (show ρ1 23=Value.slice _ _ _ from hR.1) (aq (show ρ1 24=Value.func _ _ _ from hR.2.1) (aq (show ρ1 25=Value.func _ _ _ from hR.2.2.1) aY)))) (ih2 w1 (hT.hp hj.hp) hj.hp.below) (fun _ _ hq=>rd (hS2.ext hj.hp.below) abq o2 hq)
   refine SO ?_;refine SO ?_;refine av ?_;intro f W hJ hV;have hb_4:=hJ.bl;obtain ⟨v28,v27,v26,v25,v24,v23,v22,v21,v20,v19,v18,v17,v16,v15,_⟩:=hV;obtain ⟨g20,e20,o20⟩:mb (k+h) (l.take h) (f 5) W:=v20;obtain ⟨g26,e26,o26⟩:mb (k+(n-h)) (l.drop h) (f 11) W:=v26;replace hh:=hJ.hp;refine ay (aQ (aa v28 (aa v27 (aa e26 (aa v25 (aa v24 (aa v23 (aa v22 (aa v21 (aa e20 (aa v19 (aa v18 (aa v17 (aa v16 (aa v15 aw))))))))))))))) ?_;dsimp only [bA];clear e20 e26 hJ;obtain ⟨p1,p2,p3,p4⟩:=o20;obtain ⟨q1,q2,q3,q4⟩:=o26;have l1:=p3.len;have l2:=q3.len;rw [abP] at l1;rw [acJ] at l2;refine au (se g20.A g20.n g20.c g20.ts g26.A g26.n g26.c g26.ts (k+(n-h)) _ (hT.hp hh) p4 q4 p1 q1 abq abq abq p3.ua q3.ua (p3.ok.mono abq) (q3.ok.mono abq)) ak.out rfl abr ?_;rintro e_ w29 ⟨L,A',c',hm,rfl,h3⟩;refine ⟨_,rfl, ?_⟩;replace hh:=hh.join h3;refine aj ?_;refine .inr ⟨abq,L,A',c', ?_,rfl,hh⟩;have:=p3.Mw q3 hm (j:=k+n) abq;rwa [acH] at this
variable {o:Nat}
section
variable {ro:Mode}
section
variable {P:Program}{N:Nat}{ops:Array Oper}{Q:Kq}{ρ:Rf}{w w0:World}{rest:List Oper}{H:List HE}{ty d:Nat}{pos:String}{af:Array Edge}
theorem Ck (hh:Hp w0 H w) {t e:TypeId}{x:Operand}{i p c sz g:Nat}{xs:List Value} (hi:H[i]?=some (.row (some ⟨g,0,none⟩) p c e sz xs)) (hx:ev ρ x=.slice (some ⟨g,o,none⟩) m c') (ho:p*sz≤o) (hom:o+m*sz≤c*sz) (hm:0<m)
  (ht:P.underlying t=some (.slice e)) (hte:dy P e=some (sz,ag,by',zc)) (hzl:zc.length=sz) (h1:(zc.all Value.oneCell')=true)
  (k:∀w',Hp w0 H w'→WL ro P N ops Q rest ρ w'):WL ro P N ops Q (⟨none,.call ⟨.builtin .clear, #[x], #[t]⟩,ty,pos,af,none⟩::rest) ρ w:=by
 obtain ⟨z,hz,hzc⟩:=eh (w:=w) hte;obtain ⟨hlen,h2⟩:=hh.at_ hi
 rcases h2 with ⟨h2,_⟩|⟨g',cap,cur,hv,hg,hheap,hmc,hcm,hcur,htake⟩
 ·cases h2
 ·injection hv with hA hn hcap
  injection hA with hA
  injection hA with hA
  subst hA;subst hcap;have hcl:cur.size=cur.toList.length:=by simp
  have hzr:(hZ m zc).length=m*sz:=by rw [kp,hzl]
  have hall:∀v∈hZ m zc,v.oneCell'=true:=fun v hv=>by
   obtain ⟨j,hj⟩:=acG.1 hv;have hj2:=(abM.1 hj).1;rw [kp] at hj2;rw [Bd m zc j hj2] at hj;exact ab6.1 h1 v (abz hj)
  obtain ⟨w',hr,hb',hgr,hs⟩:=gW (P:=P) (b:=g) (t:=e) (fz:=(0,0)) o (hZ m zc) 0 cur.toList w (by simpa using hheap) (.inr (abD _)) (by rw [←hcl,hzr];omega) hall;have hset:=CQ hi;refine QY rfl rfl (w':=w') (v:=.tuple #[]) ?_ (k w' (hset ▸ hh.grown hi hgr (.inl rfl) ⟨hlen,.inr ⟨g,c,(bK cur.toList (o+0) (hZ m zc)).toArray,rfl,hg,by simpa using hb',hmc,hcm, ?_, ?_⟩⟩))
  ·simp only [execOp,resolve,invoke,hx,List.map_toArray,ab8,acF];have hzz:Builtin.zeroCells z.cells m=(hZ m zc).toArray:=by
    rw [Builtin.zeroCells,hzc,aei];exact vL m zc
   obtain ⟨q,rfl⟩:∃q,m=q+1:=⟨m-1,abq⟩;simp [builtin,Builtin.clear_,run_underlying ht,hz,hzz,hr]
  ·simp only [aei];rw [fD (by rw [←hcl,hzr];omega),←hcl,hcur]
  ·simp only [bK];rw [acb,List.take_append_of_le_length (by rw [abP,←hcl];omega),List.take_take,acQ abq];exact htake
end
end
section
variable {ro:Mode}
section
variable {P:Program}{N:Nat}{ops:Array Oper}{Q:Kq}{ρ:Rf}{w w0:World}{rest:List Oper}{d:Nat}{ty:TypeId}{pos:String}{af:Array Edge}
theorem Sh {t e u:TypeId}{x y:Operand}{A:Option Addr}{c n':Nat} (ht:P.underlying t=some (.slice e)) (hx:ev ρ x=.slice A n c) (hy:ev ρ y=.slice none n' c') (hN:d<N)
  (kk:WL ro P N ops Q rest (cg ρ d (.bool A.isNone)) w):WL ro P N ops Q (⟨some d,.binOp .eql t x y u,ty,pos,af,none⟩::rest) ρ w:=
 aM rfl rfl hN (by
  have h1:=Go.Lib.run_eql_slice_nil (P:=P) w t e A n c n' c' ht;simp only [execOp,hx,hy];simp [eqGuard,h1]) kk
end
end
variable {Hr:List HE}
theorem vF (A:Option Addr) (n c:Nat) (l:List TR) (g:FuncId) (cap:List Value) (p:TR→Bool) (w:World) (hS:Sl w A n 4 (ar TR.cells l)) (hn:n≤1000000) [ak Tryz.prog g]
  (hg:∀(z:TR) (w1:World),z∈l→Below w.heap.size w w1→Calls Tryz.prog g (.agg #[.string z.m,.bool z.c.neg,.string z.c.aO,.int .i64 z.c.e]::cap).toArray w1 fun r w'=>r=.returned (.bool (p z))∧Below w1.heap.size w1 w'):
  Calls Tryz.prog 253 #[.slice A n c,.func (.func g) #[] cap.toArray] w fun r w'=>∃v,r=.returned (.int .i64 v)∧((l.any p=false∧v= -1)∨∃(i:Nat) (z:TR),i<n∧v=i∧(l.take i).any p=false∧l[i]?=some z∧p z=true)∧Below w.heap.size w w':=by
 have hh:=Hp.start w;have hln:=hS.aX TR.len abr;refine ae (N:=19) (l:=[.slice A n c,.func (.func g) #[] cap.toArray]) Tryz.func253 rfl rfl (by simp) ?_;refine aj ?_;refine aH [4,5,8,9,10,11,12,13,14,15,16,17,18] 8
  (fun v w'=>∃i:Nat,i≤n∧v=.int .i64 i∧(l.take i).any p=false∧Hp w [] w')
  (fun v _=>n-(intOf v).toNat) ?_ ?_
 ·exact ⟨0,abB _,rfl,rfl,hh⟩
 ·clear hh;rintro ρ' v w' ⟨i,hi,rfl,hall,hh⟩;by_cases hlt:i<n
  ·obtain ⟨z,hz⟩:=ai (l:=l) (k:=i) abq;obtain ⟨ad,rfl,hr⟩:=hS.at_ abq;have hc:=fun w1=>hg z w1 (abz hz)
   cases gz:p z with
   |true=>
    rw [gz] at hc;refine aj ?_;refine bF (vs:=[_,_,_,_]) az.out rfl ((hr.ext hh.below).recAt TR.len hz) rfl abr ?_;refine g7 (hc _ hh.below) ak.out rfl rfl abr ?_;rintro e_ w16 ⟨rfl,hb_⟩;refine ⟨_,rfl, ?_⟩;replace hh:=hh.ext hb_;refine aj ?_;exact ⟨_,rfl,.inr ⟨i,z,hlt,rfl,hall,hz,gz⟩,hh.below⟩
   |false=>
    rw [gz] at hc;refine aj ?_;refine bF (vs:=[_,_,_,_]) az.out rfl ((hr.ext hh.below).recAt TR.len hz) rfl abr ?_;exact Di
  ·rw [abG abq] at hall;refine aj ?_;exact ⟨_,rfl,.inl ⟨hall,rfl⟩,hh.below⟩
theorem Gj (A:Option Addr) (n c:Nat) (l:List TR) (g:FuncId) (cap:List Value) (p:TR→Bool) (w:World) (hS:Sl w A n 4 (ar TR.cells l)) (hn:n≤1000000) [ak Tryz.prog g]
  (hg:∀(z:TR) (w1:World),z∈l→Below w.heap.size w w1→Calls Tryz.prog g (.agg #[.string z.m,.bool z.c.neg,.string z.c.aO,.int .i64 z.c.e]::cap).toArray w1 fun r w'=>r=.returned (.bool (p z))∧Below w1.heap.size w1 w'):
  Calls Tryz.prog 241 #[.slice A n c,.func (.func g) #[] cap.toArray] w fun r w'=>r=.returned (.bool (l.any p))∧Below w.heap.size w w':=by
 have hh:=Hp.start w;refine ae (N:=9) (l:=[.slice A n c,.func (.func g) #[] cap.toArray]) Tryz.func241 rfl rfl (by simp) ?_;refine aj ?_;refine au (vF A n c l g cap p _ (hS.ext hh.below) hn hg) ak.out rfl abr ?_;rintro e_ w7 ⟨v_,rfl,hv_,hb_⟩;refine ⟨_,rfl, ?_⟩;replace hh:=hh.ext hb_
 rcases hv_ with ⟨ha,rfl⟩|⟨i,z,hi,rfl,ht,hz,hp⟩
 ·rw [ha];refine aj ?_;exact ⟨rfl,hh.below⟩
 ·rw [show l.any p=true from adg.2 ⟨z,abz hz,hp⟩];refine aj ?_;exact ⟨rfl,hh.below⟩
theorem mV (A:Option Addr) (n c:Nat) (l:List TR) (w:World) (hS:Sl w A n 4 (ar TR.cells l)) (hn:n≤1000000):
  Calls Tryz.prog 219 #[.slice A n c] w fun r w'=>∃A' c',r=.returned (.slice A' n c')∧w'.ownsRow w.heap.size 95 4 (.slice A' n c') n (ar TR.cells l)∧Below w.heap.size w w':=by
 have hh:=Hp.start w;have oX:=bj TR.one l
 rcases A with _|ad
 ·have hn0:n=0:=by
   exact We
  subst hn0;have hl:l=[]:=adB (by have:=hS.aX TR.len abr;omega);subst hl;refine ae (N:=8) (l:=[.slice none 0 c]) Tryz.func219 rfl rfl (by simp) ?_;exact Vu
 ·refine ae (N:=8) (l:=[.slice (some ad) n c]) Tryz.func219 rfl rfl (by simp) ?_;refine aj ?_;refine EF ?_;intro b5 w5 hh;refine mL ?_;refine bQ hh (i:=0) rfl rfl rfl (hS.ext hh.below) bq.out az.out rfl abr ?one7 abq abq abr ?kk7
  case one7=>first|rfl|assumption|exact bg _|exact oneCells_u8s _
  exact PK
theorem C3 {l:List α}{i:Nat} (h:i<j) (x:α):(l.set i x).drop j=l.drop j:=by
 refine acp fun k=> ?_;rw [adt,adt,acV,abw abq]
theorem yM {l:List α}{i:Nat} (h:i<l.length) (x:α):(l.set i x).take (i+1)=l.take i++[x]:=by
 rw [al (show (l.set i x)[i]?=some x by rw [acV,abx rfl,abx h]),List.take_set_of_le (abD _)]
theorem Fw (A:Option Addr) (n c:Nat) (l:List TR) (g:FuncId) (p:TR→Bool) (w:World) (hh:Hp w0 (.row A n c 95 4 (ar TR.cells l)::Hr) w) (hl:l.length=n) (hn:n≤1000000) [ak Tryz.prog g]
  (hg:∀(z:TR) (w1:World),z∈l→Calls Tryz.prog g (.agg #[.string z.m,.bool z.c.neg,.string z.c.aO,.int .i64 z.c.e]::[]).toArray w1 fun r w'=>r=.returned (.bool (p z))∧Below w1.heap.size w1 w'):
  Calls Tryz.prog 243 #[.slice A n c,.func (.func g) #[] #[]] w fun r w'=>r=.returned (.slice A (l.filter fun z=> !p z).length c)∧Hp w0 (.row A (l.filter fun z=> !p z).length c 95 4 (ar TR.cells (l.filter fun z=> !p z))::Hr) w':=by
 have hc:=hh.gN (i:=0) rfl;have hsl:=hh.ao (i:=0) rfl;refine ae (N:=42) (l:=[.slice A n c,.func (.func g) #[] #[]]) Tryz.func243 rfl rfl (by simp) ?_;refine aj ?_;refine au (vF A n c l g [] p _ hsl hn (fun z w1 hz _=>hg z w1 hz)) ak.out rfl abr ?_;rintro e_ w10 ⟨v_,rfl,hv_,hb_⟩;refine ⟨_,rfl, ?_⟩;replace hh:=hh.ext hb_
 rcases hv_ with ⟨ha,rfl⟩|⟨i0,z0,hi0,rfl,ht0,hz0,hp0⟩
 ·have hf:(l.filter fun z=> !p z)=l:=List.filter_eq_self.2 fun z hz=>by
   have:=ac9.1 ha z hz;simpa using this
  rw [hf,hl];refine aj ?_;exact ⟨rfl,hh⟩
 ·have hf0:((l.take (i0+1)).filter fun z=> !p z)=l.take i0:=by
   rw [al hz0,aed,List.filter_cons_of_neg (by rw [hp0];decide),List.filter_nil,acg];exact List.filter_eq_self.2 fun z hz=>by
    have:=ac9.1 ht0 z hz;simpa using this
  obtain ⟨g0,rfl⟩:=hh.bP (i:=0) rfl abq;refine aj ?_;refine bk [5,6,7,16,17,18,19,20,21,22,23,24,25,26,27,28,29,30,31,32,33,34,35] 5 6
   (fun v5 v6 w'=>∃(i j:Nat) (X:List TR),i<j∧j≤n∧v5=.int .i64 i∧v6=.int .i64 j∧X.length=n∧i=((l.take j).filter fun z=> !p z).length∧X.take i=((l.take j).filter fun z=> !p z)∧X.drop j=l.drop j∧Hp w0 (.row (some ⟨g0,0,none⟩) n c 95 4 (ar TR.cells X)::Hr) w')
   (fun _ v _=>n-(intOf v).toNat) ?_ ?_
  ·exact ⟨i0,i0+1,l,abq,abq,rfl,rfl,hl,by rw [hf0,abP];omega,hf0.symm,rfl,hh⟩
  ·clear hh;rintro ρ' v5 v6 w' ⟨i,j,X,hij,hj,rfl,rfl,hX,hi,htk,hdr,hh⟩;by_cases hlt:j<n
   ·obtain ⟨z,hz⟩:=ai (l:=l) (k:=j) abq;have hXj:X[j]?=some z:=by
     have h1:(X.drop j)[0]?=(l.drop j)[0]?:=by rw [hdr]
     rw [adt,adt,acY] at h1;rw [h1,hz]
    have hgz:=fun w1=>hg z w1 (abz hz);have hdr2:X.drop (j+1)=l.drop (j+1):=by rw [←ad7,←ad7,hdr]
    have hrl:=eH TR.len X;refine aj ?_;refine bF (vs:=[_,_,_,_]) az.out rfl (hh.df (f:=TR.cells) (x:=z) (l:=X) (i:=0) rfl TR.len abr hXj) rfl abr ?_;refine bX ?_;intro b7 w7 hh ws hh
    cases hpz:p z with
    |true=>
     rw [hpz] at hgz;have hfl:((l.take (j+1)).filter fun z=> !p z)=((l.take j).filter fun z=> !p z):=by rw [al hz,aed,List.filter_cons_of_neg (by rw [hpz];decide),List.filter_nil,acg]
     refine g7 (hgz _) ak.out rfl rfl abr ?_;rintro e_ w28 ⟨rfl,hb_⟩;refine ⟨_,rfl, ?_⟩;replace hh:=hh.ext hb_;refine aj ?_;replace hh:=hh.sub (abA _ (aby _ (aco _)));refine ⟨⟨i,j+1,X,abq,abq,rfl,rfl,hX,by rw [hfl];exact hi,by rw [hfl];exact htk,hdr2,hh⟩,by show n-(j+1)<n-j;omega, ?_⟩;exact dI
    |false=>
     rw [hpz] at hgz;have hfl:((l.take (j+1)).filter fun z=> !p z)=((l.take j).filter fun z=> !p z)++[z]:=by rw [al hz,aed,List.filter_cons_of_pos (by rw [hpz];decide),List.filter_nil]
     refine g7 (hgz _) ak.out rfl rfl abr ?_;rintro e_ w28 ⟨rfl,hb_⟩;refine ⟨_,rfl, ?_⟩;replace hh:=hh.ext hb_;refine aj ?_;refine bM hh (i:=1) (vs:=[_,_,_,_]) rfl rfl (eR rfl) rfl az.out rfl abq rfl ?_;intro ws hh;simp only [abK,ab9] at hh;rw [show bK (ar TR.cells X) (i*4) [.string z.m,.bool z.c.neg,.string z.c.aO,.int .i64 z.c.e]=ar TR.cells (X.set i z) from ew TR.len abq] at hh;refine aj ?_;replace hh:=hh.sub (abA _ (aby _ (aco _)));refine ⟨⟨i+1,j+1,X.set i z,abq,abq,rfl,rfl,by rw [acU];exact hX,by rw [hfl,abJ,←hi];rfl,by rw [hfl,yM abq,htk],by rw [C3 abq];exact hdr2,hh⟩,by show n-(j+1)<n-j;omega, ?_⟩;exact dI
   ·obtain rfl:j=n:=abq;rw [show l.take j=l from abG abq] at hi htk;have hcap:=hh.gN (i:=0) rfl;have hp31:(if c=i then some (⟨g0,0,none⟩:Addr) else (some (⟨g0,0,none⟩:Addr)).map (·.add (i*4)))=some ⟨g0,i*4,none⟩:=by
     rw [abw abq];show some ((⟨g0,0,none⟩:Addr).add (i*4))=_;rw [eN,ab2]
    have htt:(ar TR.cells X).take (i*4)=ar TR.cells (l.filter fun z=> !p z):=by rw [j6 TR.len,htk]
    refine aj ?_;refine aM rfl rfl abr (jf (l:=i) (h:=j) bq.out az.size rfl ⟨_,_,rfl,rfl⟩ rfl abq abq) ?_;rw [hp31];replace hh:=hh.BL (k:=i) abq;rw [htt] at hh;refine Ck hh (i:=0) (o:=i*4) (m:=j-i) rfl rfl abq abq abq bq.out az.out rfl rfl ?_;intro w38 hh;refine aj ?_;refine PH ?_;refine aj ?_;rw [←hi];exact ⟨rfl,hh⟩
variable {E:Int}{ts:List TR}
structure PX where
 v:Int
 A:Option Addr
 n:Nat
 c:Nat
 ts:List TR
def PX.row (g:PX):HE:=.row g.A g.n g.c 95 4 (ar TR.cells g.ts)
def PX.at_ (g:PX) (w:World):Prop:=Sl w g.A g.n 4 (ar TR.cells g.ts)
theorem PX.at_.ext {g:PX} (h:g.at_ w) (hb:Below w.heap.size w w'):g.at_ w':=Sl.ext h hb
theorem PX.at_.ln {g:PX} (h:g.at_ w):g.ts.length=g.n:=Sl.aX h TR.len abr
structure iy (E v:Int) (ts:List TR) (g:PX):Prop where
 v:g.v=if E=0 then v else 0
 ts:g.ts=if E=0 then ts else []
def PX.nil:PX:=⟨0,none,0,0,[]⟩
theorem iy.err {v:Int} (h:E≠0):iy E v ts PX.nil:=⟨by rw [abw h];rfl,by rw [abw h];rfl⟩
theorem Hp.Oy {H:List HE} (h:Hp w0 H w):Hp w0 (PX.nil.row::H) w:=h.cJ 95 4
theorem yQ (A:Option Addr) (n c:Nat) (l:List TR) (k:Nat) (w:World) (hT:dq w) (hh:Hp w0 (.row A n c 95 4 (ar TR.cells l)::Hr) w) (hl:l.length=n) (hn:n≤1000000) (hk:k+n≤3999980) (ho:iO k l):
  Calls Tryz.prog 244 #[.slice A n c,.func (.func 223) #[] #[],.func (.func 224) #[] #[]] w fun r w'=>∃(L:List TR) (A':Option Addr) (c':Nat),MD (k+n) l L∧r=.returned (.slice A' L.length c')∧Hp w0 (.row A' L.length c' 95 4 (ar TR.cells L)::Hr) w':=by
 refine (o7 k n A n c l w (abD _) hT (hh.ao (i:=0) rfl) (hh.gN (i:=0) rfl) hn hk ho).mono fun r w' h=> ?_
 rcases h with ⟨h1,rfl,hb⟩|⟨h1,L,A',c',hm,rfl,h3⟩
 ·exact ⟨l,A,c,(MD.self (z6 abq) ho).mono abq,by rw [hl],by rw [hl];exact hh.ext hb⟩
 ·refine ⟨L,A',c',hm,rfl, ?_⟩;exact (hh.join h3).sub (aby _ (abA _ (aco _)))
def Yy (t:TR):Bool:=decide (t.c.d=0)
theorem Hi (l:List TR):(l.filter fun z=> !Yy z)=l.filter qZ:=rfl
theorem Bb (z:TR) (w:World):Calls Tryz.prog 245 #[.agg #[.string z.m,.bool z.c.neg,.string z.c.aO,.int .i64 z.c.e]] w fun r w'=>r=.returned (.bool (Yy z))∧Below w.heap.size w w':=by
 have hh:=Hp.start w;refine ae (N:=7) (l:=[.agg #[.string z.m,.bool z.c.neg,.string z.c.aO,.int .i64 z.c.e]]) Tryz.func245 rfl rfl (by simp) ?_;refine bT ?_;intro b1 w1 hh;refine aZ hh (ct z.c _) rfl ?_;intro w5 hh;have hz:z.c.i.sign=0↔z.c.d=0:=by
  exact Vp
 unfold Yy;by_cases h0:z.c.d=0
 ·have hs:=hz.2 h0;rw [abQ h0];refine aj ?_;exact ⟨rfl,hh.below⟩
 ·have hs:¬z.c.i.sign=0:=fun h=>h0 (hz.1 h);rw [abR h0];refine aj ?_;exact ⟨rfl,hh.below⟩
def gZ (l:List TR):Int:=if 4096<(aA l).length then 3 else 0
theorem Dx {xs ys:List Value}{v:Value} (h:xs[o]?=some v):bK xs o (v::ys)=bK xs (o+1) ys:=by
 unfold bK;rw [al h,ab0,show o+(ys.length+1)=o+1+ys.length by omega];simp
def Z6 (t:TR):TR:=⟨t.m,nR t.c.d⟩
theorem Ap {X:List TR}{i:Nat}{z:TR} (h:X[i]?=some z) (y:NR):bK (ar TR.cells X) (i*4+1) [.bool y.neg,.string y.aO,.int .i64 y.e]=ar TR.cells (X.set i ⟨z.m,y⟩):=by
 have h0:(ar TR.cells X)[i*4]?=some (.string z.m):=by
  have h1:=xF TR.len h;have h2:(((ar TR.cells X).drop (i*4)).take 4)[0]?=some (.string z.m):=by rw [h1];rfl
  rwa [List.getElem?_take_of_lt abr,adt,acY] at h2
 rw [←Dx h0];exact ew TR.len (y:=⟨z.m,y⟩) (abM.1 h).1
theorem lO (v:Int) (A:Option Addr) (n c:Nat) (l:List TR) (k:Nat) (w:World) (hT:dq w0) (hh:Hp w0 (.row A n c 95 4 (ar TR.cells l)::Hr) w) (hl:l.length=n) (hn:n≤1000000) (hk:k+n≤3999980) (ho:iO k l):
  Calls Tryz.prog 220 #[.int .i64 v,.slice A n c] w fun r w'=>∃g:PX,iy (gZ l) v (aA l) g∧r=.returned (.tuple #[.agg #[.int .i64 g.v,.slice g.A g.n g.c],.int .i64 (gZ l)])∧Hp w0 (g.row::Hr) w':=by
 refine ae (N:=33) (l:=[.int .i64 v,.slice A n c]) Tryz.func220 rfl rfl (by simp) ?_;refine bT ?_;intro b4 w4 hh;replace hh:=hh.perm (acf (l₁:=[_]));simp only [abE,abC] at hh;refine au (yQ A n c l k _ (hT.hp hh) hh hl hn hk ho) ak.out rfl abr ?_;rintro e_ w8 ⟨L,A1,c1,hmd,rfl,hh⟩;refine ⟨_,rfl, ?_⟩;have hlen:=hmd.len;refine au (Fw A1 L.length c1 L _ Yy _ hh rfl abq (fun z w1 _=>Bb z w1)) ak.out rfl abr ?_;rintro e_ w9 ⟨rfl,hh⟩;refine ⟨_,rfl, ?_⟩;rw [Hi] at hh ⊢;have hML:(L.filter qZ).length≤L.length:=List.length_filter_le _ _;have hgl:(aA l).length=(L.filter qZ).length:=by rw [←hmd.aA,abH]
 have hgm:=hmd.aA;have hok:iO (k+n) (L.filter qZ):=fun t ht=>hmd.ok t (acX.1 ht).1;generalize hM:L.filter qZ=M at*;by_cases h4:4096<M.length
 ·rw [show gZ l=3 by unfold gZ;rw [abx abq]];refine bT ?_;intro ws hh;replace hh:=hh.sub (abA _ (aby _ (aco _)));refine zv ?_;exact ⟨PX.nil,iy.err abr,rfl,(hh.sub (acn _ _)).Oy⟩
 ·rw [show gZ l=0 by unfold gZ;rw [abw abq]];refine aj ?_;refine aH [6,16,17,18,19,20,21,22,23,24,25,26,27,28,29] 16
   (fun v w'=>∃(i:Nat) (X:List TR),i≤M.length∧v=.int .i64 i∧X.length=M.length∧X=(M.take i).map Z6++M.drop i∧Hp w0 (.row A1 M.length c1 95 4 (ar TR.cells X)::.blk b4 52 [.int .i64 0,.slice none 0 0] (0,0)::Hr) w')
   (fun v _=>M.length-(intOf v).toNat) ?_ ?_
  ·exact ⟨0,M,abB _,rfl,rfl,rfl,hh⟩
  ·clear hh;rintro ρ' v w' ⟨i,X,hi,rfl,hX,hXe,hh⟩;by_cases hlt:i<M.length
   ·obtain ⟨z,hz⟩:=ai (l:=M) (k:=i) abq;have hXz:X[i]?=some z:=by
     rw [hXe,acP (by rw [abH,abP];omega),abH,abP,acQ abq,acs,adt];exact hz
    have hzo:=hok z (abz hz);have hXn:X.set i ⟨z.m,nR z.c.d⟩=(M.take (i+1)).map Z6++M.drop (i+1):=by
     rw [al hz,acM,hXe,adS _ _ (by rw [abH,abP];omega),abH,abP,acQ abq,acs,acb];congr 1;obtain ⟨h1,h2⟩:=abM.1 hz;rw [ady h1,h2]
     rfl
    have hrl:=eH TR.len X;obtain ⟨g0,rfl⟩:=hh.bP (i:=0) rfl abq;refine aj ?_;refine bF (vs:=[_,_,_]) az.out rfl ((hh.df (f:=TR.cells) (x:=z) (l:=X) (i:=0) rfl TR.len abr hXz).drop 1) rfl abr ?_;refine aZ hh (dK z.c _ (hT.hp hh) (by have:=hzo.1.1;omega) (by have:=hzo.1.2.1;omega) (by have:=hzo.1.2.2;omega)) rfl ?_;intro w26 hh;refine aj ?_;refine Ic ?_;intro ws hh;simp only [abK] at hh;rw [Ap hXz,hXn] at hh;refine aj ?_;refine ⟨⟨i+1,_,abq,rfl, ?_,rfl,hh⟩,by show M.length-(i+1)<M.length-i;omega, ?_⟩
    ·rw [←hXn,acU,hX]
    ·exact dI
   ·obtain rfl:i=M.length:=abq;rw [abG (abD _),adH (abD _),acg] at hXe;have hXg:X=aA l:=by rw [hXe];exact hgm
    rw [hXg] at hh;refine bT ?_;intro ws hh;refine Jw ?_;exact ⟨⟨v,A1,M.length,c1,aA l⟩,⟨rfl,rfl⟩,rfl,hh.sub (aby _ (abA _ (aco _)))⟩
theorem mw (s:ByteArray) (n:Int) (w:World) (hs:s.size≤9223372036854775807):
  Calls Tryz.prog 115 #[.string s,.int .i64 n] w fun e w'=>e=.returned (.bool (eX s.data.toList && decide ((s.size:Int)=n)))∧Below w.heap.size w w':=by
 refine ae (N:=20) (l:=[.string s,.int .i64 n]) Tryz.func115 rfl rfl (by simp) ?_;refine aj ?_;refine aH [4,5,8,9,10,11,12,13,14,15] 8
  (fun v w'=>∃k:Nat,k≤s.size∧v=.int .i64 k∧eX (s.data.toList.take k)=true∧w'=w)
  (fun v _=>s.size-(intOf v).toNat) ?_ ?_
 ·exact ⟨0,abB _,rfl,rfl,rfl⟩
 ·rintro ρ' v w' ⟨k,hk,rfl,hm,rfl⟩;by_cases hlt:k<s.size
  ·exact TZ
  ·refine sr ?_;refine nP (aJ (bO (cF (Ce (vS (vS (FN (eF (sr (mS ?_))))))))));exact Yh
theorem n9 (s:ByteArray) (w:World) (hs:s.size≤9223372036854775807):
  Calls Tryz.prog 115 #[.string s,.int .i64 s.size] w fun e w'=>e=.returned (.bool (eX s.data.toList))∧Below w.heap.size w w':=by
 have h:=mw s s.size w hs;simpa using h
theorem GQ (s:ByteArray) (n:Int) (w:World) (hs:s.size≤9223372036854775807):
  Calls Tryz.prog 119 #[.string s,.int .i64 n] w fun e w'=>e=.returned (.bool (eX s.data.toList && decide ((s.size:Int)=n)))∧Below w.heap.size w w':=by
 refine ae (N:=20) (l:=[.string s,.int .i64 n]) Tryz.func119 rfl rfl (by simp) ?_;refine aj ?_;refine aH [4,5,6,7,8,9,10,11,12,13,14,15] 5
  (fun v w'=>∃k:Nat,k≤s.size∧v=.int .i64 k∧eX (s.data.toList.take k)=true∧w'=w)
  (fun v _=>s.size-(intOf v).toNat) ?_ ?_
 ·exact ⟨0,abB _,rfl,rfl,rfl⟩
 ·rintro ρ' v w' ⟨k,hk,rfl,hm,rfl⟩;by_cases hlt:k<s.size
  ·exact TZ
  ·refine bO (sr (mI (mS ?_)));refine tR bq.out rfl abr ?_;refine nP (aJ (cF (Ce (vS (vS (FN (eF (sr (mS ?_)))))))));exact Yh
theorem O3 (A:Option Addr) (n c:Nat) (xs:List Int) (w:World) (hsl:Sl w A n 1 (bh xs)) (hn:n≤100000):
  Calls Tryz.prog 264 #[.slice A n c] w fun e w'=>e=.returned (.tuple #[.string (str (Qf xs)),.int .i64 (RF xs)])∧Below w.heap.size w w':=by
 have hlen:xs.length=n:=by have:=hsl.1;rw [cq] at this;omega
 have hh:=Hp.start w;refine ae (N:=27) (l:=[.slice A n c]) Tryz.func264 rfl rfl (by simp) ?_;refine aj ?_;refine bk [2,3,4,6,9,10,11,12,13,14,15,16,17,18,19,20,21,22,23,24] 4 9
  (fun b i w'=>∃(k c':Nat) (A':Option Addr),k≤n∧i=.int .i64 k∧b=.slice A' k c'∧(xs.take k).all dN=true∧Hp w [.row A' k c' 5 1 (n5 ((xs.take k).map BG))] w')
  (fun _ v _=>n-(intOf v).toNat) ?_ ?_
 ·exact ⟨0,0,none,abB _,rfl,rfl,rfl,hh.cJ _ _⟩
 ·clear hh;rintro ρ' b i w' ⟨k,c',A',hk,rfl,rfl,hall,hh⟩;by_cases hlt:k<n
  ·obtain ⟨x,hx⟩:=ai (l:=xs) (k:=k) abq;obtain ⟨ad,rfl,hr⟩:=(hsl.ext hh.below).at_ abq;by_cases h0:x<0
   ·exact XZ
   ·by_cases h1:127<x
    ·exact XZ
    ·have hok:dN x=true:=by simp [dN];omega
     refine aj ?_;refine bG az.out rfl (EB hr (cM hx) rfl) abr ?_;refine aj ?_;refine vA ?_;intro b22 w22 hh;refine bQ hh (i:=1) rfl rfl rfl (hh.ao (i:=0) rfl) bq.out az.out rfl abr rfl abq abq abr ?_;intro A23 c23 w23 hh;simp only [abK,ab9] at hh;replace hh:=hh.sub (acn _ _);refine aj ?_;refine ⟨⟨k+1,c23,A23,abq,rfl,rfl,OV hx hall hok, ?_⟩,by show n-(k+1)<n-k;omega, ?_⟩
     ·rw [RW abq abq,ME hx hok] at hh;exact hh
     ·exact dI
  ·obtain rfl:k=n:=abq;rw [abG abq] at hall hh;obtain ⟨e1,e2⟩:=u4 hall;refine aj ?_;refine uI bq.out bq.out bq.out rfl (hh.ao (i:=0) rfl) abr ?_;refine aj ?_;rw [e1,e2];exact ⟨rfl,hh.below⟩
theorem j4 (s:ByteArray) (w:World) (hs:s.size≤100000):
  Calls Tryz.prog 153 #[.string s] w fun e w'=>∃A c,e=.returned (.slice A (kj s.data.toList).length c)∧w'.ownsRow w.heap.size 3 1 (.slice A (kj s.data.toList).length c) (kj s.data.toList).length (bh (kj s.data.toList))∧Below w.heap.size w w':=by
 have hh:=Hp.start w;have hsz:=dY s
 cases hm:eX s.data.toList with
 |false=>
  refine ae (N:=22) (l:=[.string s]) Tryz.func153 rfl rfl (by simp) ?_;refine aj ?_;refine aZ hh (n9 s _ abq) rfl ?_;intro w9 hh;rw [hm];refine aj ?_;rw [M4 hm];exact ⟨none,0,rfl,World.ownsRow_nil _ _ _ _,hh.below⟩
 |true=>
  refine ae (N:=22) (l:=[.string s]) Tryz.func153 rfl rfl (by simp) ?_;refine aj ?_;refine aZ hh (n9 s _ abq) rfl ?_;intro w9 hh;rw [hm];refine aj ?_;refine sH hh bq.out rfl abr ?_;intro b12 w12 hh;skip;refine aj ?_;refine aH [3,5,13,14,15,16,17,18,19,20] 3
   (fun v w'=>∃(k c':Nat) (A':Option Addr),k≤s.size∧v=.slice A' k c'∧Hp w [.row A' k c' 3 1 (bh (ints (s.data.toList.take k))),.it b12 s k] w')
   (fun v _=>s.size-lenOf v) ?_ ?_
  ·exact ⟨0,0,none,abB _,rfl,hh.cJ _ _⟩
  ·clear hh;rintro ρ' v w' ⟨k,c',A',hk,rfl,hh⟩;by_cases hlt:k<s.size
   ·obtain ⟨c,hc⟩:=ai (l:=s.data.toList) (k:=k) abq;have h8:=pH hm hc;refine sr ?_;refine rM hh (i:=1) rfl rfl hc h8 abr ?_;intro w13 hh;simp only [abK,ab9] at hh;skip;refine aj ?_;refine vA ?_;intro b19 w19 hh;refine bQ hh (i:=1) rfl rfl rfl (hh.ao (i:=0) rfl) bq.out az.out rfl abr rfl abq abq abr ?_;intro A20 c20 w20 hh;simp only [abK,ab9] at hh;replace hh:=hh.sub (acn _ _);refine aj ?_;rw [wh hc] at hh;refine ⟨⟨k+1,c20,A20,abq,rfl,hh⟩,by show s.size-(k+1)<s.size-k;omega, ?_⟩;exact dI
   ·refine aj ?_;refine sx hh (i:=1) rfl rfl hlt abr ?_;skip;refine aj ?_;obtain rfl:k=s.size:=abq;rw [abG abq] at hh;have h1:=hh.at_ (i:=0) rfl;rw [mn hm,cZ,←hsz];exact ⟨A',c',rfl,h1,hh.below⟩
theorem xN (a b:ByteArray) (g:FuncId) (f:Int→Int→Int) (w:World) (ha:a.size≤100000) (hb:b.size≤100000) [ak Tryz.prog g]
  (hg:∀(x y:Int) (w:World),0≤x→x≤127→0≤y→y≤127→Calls Tryz.prog g #[.int .i64 x,.int .i64 y] w fun e w'=>e=.returned (.int .i64 (f x y))∧Below w.heap.size w w'):
  Calls Tryz.prog 262 #[.string a,.string b,.func (.func g) #[] #[]] w fun e w'=>
   (kt f a.data.toList b.data.toList=none∧e=.returned (.tuple #[.slice none 0 0,.bool false])∧Below w.heap.size w w')∨
   ∃l,kt f a.data.toList b.data.toList=some l∧l.length=b.size∧∃A c,e=.returned (.tuple #[.slice A l.length c,.bool true])∧w'.ownsRow w.heap.size 3 1 (.slice A l.length c) l.length (bh l)∧Below w.heap.size w w':=by
 have hh:=Hp.start w;have hsa:=dY a;have hsb:=dY b
 cases hma:eX a.data.toList with
 |false=>
  refine Py ?_;refine aj ?_;refine au (j4 b _ hb) ak.out rfl abr ?_;rintro e_ w12 ⟨A12,c12,rfl,hown_,hb_⟩;refine ⟨_,rfl, ?_⟩;replace hh:=hh.aD (x:=.row _ _ _ _ _ _) hb_ hown_;refine aj ?_;refine aZ hh (n9 a _ abq) rfl ?_;intro w16 hh;rw [hma];refine aj ?_;exact .inl ⟨by simp [kt,hma],rfl,hh.below⟩
 |true=>
  cases hmb:(eX b.data.toList && decide ((b.size:Int)=a.size)) with
  |false=>
   refine Py ?_;refine aj ?_;refine au (j4 b _ hb) ak.out rfl abr ?_;rintro e_ w12 ⟨A12,c12,rfl,hown_,hb_⟩;refine ⟨_,rfl, ?_⟩;replace hh:=hh.aD (x:=.row _ _ _ _ _ _) hb_ hown_;refine aj ?_;refine aZ hh (n9 a _ abq) rfl ?_;intro w16 hh;rw [hma];refine aj ?_;refine aZ hh (mw b _ _ abq) rfl ?_;intro w22 hh;rw [hmb];refine aj ?_;have:(eX b.data.toList && decide ((b.data.toList.length:Int)=a.data.toList.length))=false:=by rw [←hsa,←hsb];exact hmb
   exact .inl ⟨by simp only [kt,hma,this];rfl,rfl,hh.below⟩
  |true=>
   have hmb2:=hmb;simp only [abS,ab1] at hmb2;have hbl:kt f a.data.toList b.data.toList=some (List.zipWith f (ints a.data.toList) (ints b.data.toList)):=by
    have:(eX b.data.toList && decide ((b.data.toList.length:Int)=a.data.toList.length))=true:=by rw [←hsa,←hsb];exact hmb
    simp only [kt,hma,this];rfl
   have hea:=mn hma;have heb:=mn hmb2.1;have hlab:(ints a.data.toList).length=(ints b.data.toList).length:=by rw [cZ,cZ];omega
   have hlb:=cZ b.data.toList;have hla:=cZ a.data.toList;have hA:=j4 a;have hB:=j4 b;rw [hea] at hA;rw [heb] at hB;generalize hia:ints a.data.toList=ia at*;generalize hib:ints b.data.toList=ib at*;have bda:∀(k:Nat) (x:Int),ia[k]?=some x→0≤x∧x≤127:=fun k x h=>I8 (l:=a.data.toList) (by rw [hea];exact h);have bdb:∀(k:Nat) (x:Int),ib[k]?=some x→0≤x∧x≤127:=fun k x h=>I8 (l:=b.data.toList) (by rw [heb];exact h);clear hea heb;refine Py ?_;refine aj ?_;refine au (hB _ hb) ak.out rfl abr ?_;rintro e_ w12 ⟨A12,c12,rfl,hown_,hb_⟩;refine ⟨_,rfl, ?_⟩;replace hh:=hh.aD (x:=.row _ _ _ _ _ _) hb_ hown_;refine aj ?_;refine aZ hh (n9 a _ abq) rfl ?_;intro w16 hh;rw [hma];refine aj ?_;refine aZ hh (mw b _ _ abq) rfl ?_;intro w22 hh;rw [hmb];refine aj ?_;refine au (hA _ ha) ak.out rfl abr ?_;rintro e_ w26 ⟨A26,c26,rfl,hown_,hb_⟩;refine ⟨_,rfl, ?_⟩;replace hh:=hh.aD (x:=.row _ _ _ _ _ _) hb_ hown_;refine aj ?_;refine aH [9,10,28,29,30,31,32,33,34,35,36,37,38,39,40,41,42,43] 28
    (fun i w'=>∃k:Nat,k≤ib.length∧i=.int .i64 k∧Hp w [.row A26 ia.length c26 3 1 (bh ia),.row A12 ib.length c12 3 1 (bh (n8 f ia ib k))] w')
    (fun i _=>ib.length-(intOf i).toNat) ?_ ?_
   ·exact ⟨0,abB _,rfl,by rw [OU];exact hh⟩
   ·clear hh hown_ hb_;rintro ρ' i w' ⟨k,hk,rfl,hh⟩;by_cases hlt:k<ib.length
    ·obtain ⟨x,hx⟩:=ai (l:=ia) (k:=k) abq;obtain ⟨y,hy⟩:=ai hlt;have bx:=bda k x hx;have byy:=bdb k y hy;have hx2:=cM hx;have hy2:=cM (Vg (f:=f) hlab hy);have hml:=Rb (f:=f) hlab hk;have hml2:=cq (n8 f ia ib k);obtain ⟨ga,rfl⟩:=hh.bP (i:=0) rfl abq;obtain ⟨gb,rfl⟩:=hh.bP (i:=1) rfl abq;refine aj ?_;refine lF ?_;refine aj ?_;refine bG az.out rfl (hh.ff (i:=1) rfl (by first|assumption|(simp only [abZ];assumption))) abr ?_;refine g7 (hg x y _ bx.1 bx.2 byy.1 byy.2) ak.out rfl rfl abr ?_;rintro e_ w41 ⟨rfl,hb_⟩;refine ⟨_,rfl, ?_⟩;replace hh:=hh.ext hb_;refine aj ?_;refine ON ?_;intro ws hh;simp only [abK,ab9] at hh;refine aj ?_;rw [abZ,Re hlab hx hy] at hh;refine ⟨⟨k+1,abq,rfl,hh⟩,by show _-(k+1)<_-k;omega, ?_⟩;exact dI
    ·refine aj ?_;obtain rfl:k=ib.length:=abq;rw [OY hlab] at hh;have h1:=hh.at_ (i:=1) rfl;have hzl:(List.zipWith f ia ib).length=ib.length:=by simp [hlab]
     refine .inr ⟨_,hbl,abq,A12,c12, ?_⟩;rw [hzl];exact ⟨rfl,h1,hh.below⟩
theorem Ll (a b:ByteArray) (g:FuncId) (f:Int→Int→Int) (w:World) (ha:a.size≤100000) (hb:b.size≤100000) [ak Tryz.prog g]
  (hg:∀(x y:Int) (w:World),0≤x→x≤127→0≤y→y≤127→Calls Tryz.prog g #[.int .i64 x,.int .i64 y] w fun e w'=>e=.returned (.int .i64 (f x y))∧Below w.heap.size w w')
  (h:kt f a.data.toList b.data.toList=none):
  Calls Tryz.prog 262 #[.string a,.string b,.func (.func g) #[] #[]] w fun e w'=>e=.returned (.tuple #[.slice none 0 0,.bool false])∧Below w.heap.size w w':=
 (xN a b g f w ha hb hg).mono fun e w' hq=>by
  rcases hq with hq|⟨l,hl,_⟩
  ·exact hq.2
  ·rw [h] at hl;cases hl
theorem K9 (a b:ByteArray) (g:FuncId) (f:Int→Int→Int) (w:World) (ha:a.size≤100000) (hb:b.size≤100000) [ak Tryz.prog g]
  (hg:∀(x y:Int) (w:World),0≤x→x≤127→0≤y→y≤127→Calls Tryz.prog g #[.int .i64 x,.int .i64 y] w fun e w'=>e=.returned (.int .i64 (f x y))∧Below w.heap.size w w')
  {l:List Int} (h:kt f a.data.toList b.data.toList=some l):
  Calls Tryz.prog 262 #[.string a,.string b,.func (.func g) #[] #[]] w fun e w'=>∃A c,e=.returned (.tuple #[.slice A l.length c,.bool true])∧w'.ownsRow w.heap.size 3 1 (.slice A l.length c) l.length (bh l)∧Below w.heap.size w w':=
 (xN a b g f w ha hb hg).mono fun e w' hq=>by
  rcases hq with ⟨hn,_⟩|⟨l',hl,_,hq⟩
  ·rw [h] at hn;cases hn
  ·rw [h] at hl;injection hl with hl;subst hl;exact hq
theorem Kz {f:Int→Int→Int}{a b:List UInt8}{l:List Int} (h:kt f a b=some l):l.length≤b.length:=by
 unfold kt at h;split at h
 ·injection h with h;subst h;simp [ints];omega
 ·cases h
theorem xY (x y:Int) (w:World) (h1:0≤x) (h2:x≤127) (h3:0≤y) (h4:y≤127):
  Calls Tryz.prog 263 #[.int .i64 x,.int .i64 y] w fun e w'=>e=.returned (.int .i64 (x+y))∧Below w.heap.size w w':=by
 refine ae (N:=8) (l:=[.int .i64 x,.int .i64 y]) Tryz.func263 rfl rfl (by simp) ?_;refine aj ?_;exact ⟨rfl,Below.refl _ _⟩
theorem LG (a b:ByteArray) (w:World) (ha:a.size≤100000) (hb:b.size≤100000):
  Calls Tryz.prog 257 #[.string a,.string b] w fun e w'=>e=.returned (.tuple #[.string (str (mulL a.data.toList b.data.toList).1),.int .i64 (mulL a.data.toList b.data.toList).2])∧Below w.heap.size w w':=by
 have hh:=Hp.start w;have hsb:=dY b
 cases hbo:kt (· + ·) a.data.toList b.data.toList with
 |none=>
  refine ae (N:=20) (l:=[.string a,.string b]) Tryz.func257 rfl rfl (by simp) ?_;refine aj ?_;refine aZ hh (Ll a b _ _ _ ha hb xY hbo) rfl ?_;intro w11 hh;refine aj ?_;simp only [mulL,hbo];exact ⟨rfl,hh.below⟩
 |some l=>
  have hl:=Kz hbo;refine ae (N:=20) (l:=[.string a,.string b]) Tryz.func257 rfl rfl (by simp) ?_;refine aj ?_;refine au (K9 a b _ _ _ ha hb xY hbo) ak.out rfl abr ?_;rintro e_ w11 ⟨A11,c11,rfl,hown_,hb_⟩;refine ⟨_,rfl, ?_⟩;replace hh:=hh.aD (x:=.row _ _ _ _ _ _) hb_ hown_;refine aj ?_;refine aZ hh (O3 _ _ _ _ _ (hh.ao (i:=0) rfl) abq) rfl ?_;intro w17 hh;refine aj ?_;simp only [mulL,hbo];exact ⟨trivial,hh.below⟩
def jG (v:Int):Bool:=decide (0≤v) && decide (v≤12)
theorem fN {v:Int}:jG v=true↔0≤v∧v≤12:=by unfold jG;rw [abS,ab1,ab1]
theorem pW (v:Int) (w:World):Calls Tryz.prog 114 #[.int .i64 v] w fun r w'=>r=.returned (.bool (jG v))∧Below w.heap.size w w':=by
 have hh:=Hp.start w;unfold jG;by_cases h1:0≤v
 ·rw [abQ h1,aev];by_cases h2:v≤12
  ·rw [abQ h2];exact Wf
  ·rw [abR h2];exact Wf
 ·rw [abR h1,aeB];exact Wf
def YA (a:NR):Bool:=decide ((nR a.d).neg=a.neg) && (decide ((nR a.d).aO=a.aO) && decide ((nR a.d).e=a.e))
theorem vm (a:NR):YA a=true↔nR a.d=a:=by
 unfold YA;rw [abS,abS,ab1,ab1,ab1];constructor
 ·rintro ⟨h1,h2,h3⟩;obtain ⟨s,m,e⟩:=a;generalize nR (NR.d ⟨s,m,e⟩)=b at*;obtain ⟨s',m',e'⟩:=b;simp only at h1 h2 h3;rw [h1,h2,h3]
 ·intro h;rw [h];exact ⟨rfl,rfl,rfl⟩
def qe (v:Int) (t:TR):Bool:=eX t.m.data.toList && decide ((t.m.size:Int)=v) && (qZ t && YA t.c)
def sU:List TR→Bool
 |[]=>true
 |[_]=>true
 |a::b::l=>iU a.m b.m && sU (b::l)
theorem yX:∀(l:List TR) (p x:TR),sU (l++[p,x])=(sU (l++[p]) && iU p.m x.m)
 |[],p,x=>by show (iU p.m x.m && true)=(true && iU p.m x.m);rw [Bool.and_true,aev]
 |[a],p,x=>by
  show (iU a.m p.m && (iU p.m x.m && true))=((iU a.m p.m && true) && iU p.m x.m);rw [Bool.and_true,Bool.and_true]
 |a::b::l,p,x=>by
  show (iU a.m b.m && sU ((b::l)++[p,x]))=((iU a.m b.m && sU ((b::l)++[p])) && iU p.m x.m);rw [yX (b::l) p x,Bool.and_assoc]
theorem HM:∀{l:List TR}{i:Nat}{p x:TR},sU l=true→l[i]?=some p→l[i+1]?=some x→iU p.m x.m=true
 |[],i,p,x,_,h,_=>by simp at h
 |[a],i,p,x,_,_,h=>by simp at h
 |a::b::l,0,p,x,h,h1,h2=>by
  simp only [aem,adv,ab2,aen] at h1 h2;subst h1 h2;exact (adl.1 h).1
 |a::b::l,i+1,p,x,h,h1,h2=>by
  rw [aen] at h1 h2;exact HM (adl.1 h).2 h1 h2
theorem su:∀{l:List TR},sU l=true↔u1 l
 |[]=>⟨fun _=>ae1,fun _=>rfl⟩
 |[a]=>⟨fun _=>afa _ _,fun _=>rfl⟩
 |a::b::l=>by
  show (iU a.m b.m && sU (b::l))=true↔_;rw [abS,su (l:=b::l)];constructor
  ·rintro ⟨h1,h2⟩;refine ac8.2 ⟨fun t ht=> ?_,h2⟩
   rcases abO.1 ht with rfl|ht
   ·exact h1
   ·exact kU h1 ((ac8.1 h2).1 t ht)
  ·intro h;have:=ac8.1 h;exact ⟨this.1 b abF,this.2⟩
def okB (v:Int) (ts:List TR):Bool:=ts.all (qe v) && sU ts
def jR (v:Int) (ts:List TR):Int:=if jG v=false then 1 else if 4096<ts.length then 3 else if okB v ts=true then 0 else 1
theorem Mn {v:Int} (h1:jG v=true) (h2:¬4096<ts.length) (h:okB v ts=false):jR v ts=1:=by
 unfold jR;rw [abw (by rw [h1];decide),abw h2,abw (by rw [h];decide)]
theorem Bq {v:Int}{i:Nat}{x:TR} (hx:ts[i]?=some x) (h:qe v x=false):okB v ts=false:=by
 unfold okB;rw [Bool.and_eq_false_iff];refine .inl (aeP.2 fun h2=> ?_);rw [ab6.1 h2 x (abz hx)] at h
 cases h
theorem MF {v:Int}{i:Nat}{p x:TR} (hp:ts[i]?=some p) (hx:ts[i+1]?=some x) (h:iU p.m x.m=false):okB v ts=false:=by
 unfold okB;rw [Bool.and_eq_false_iff];refine .inr (aeP.2 fun h2=> ?_);rw [HM h2 hp hx] at h
 cases h
theorem AP (v:Int) (A:Option Addr) (n c:Nat) (ts:List TR) (w:World) (hT:dq w) (hS:Sl w A n 4 (ar TR.cells ts)) (hn:n≤1000000) (ho:∀t∈ts,t.c.ok∧t.m.size≤100000):
  Calls Tryz.prog 65 #[.agg #[.int .i64 v,.slice A n c]] w fun r w'=>r=.returned (.int .i64 (jR v ts))∧Below w.heap.size w w':=by
 have hh:=Hp.start w;have hln:=hS.aX TR.len abr;have hfw:=fun w1=>pW v w1
 cases hf:jG v with
 |false=>
  rw [hf] at hfw;rw [show jR v ts=1 by unfold jR;rw [abx hf]];exact Xx
 |true=>
  rw [hf] at hfw;by_cases h4:4096<n
  ·rw [show jR v ts=3 by unfold jR;rw [abw (by rw [hf];decide),abx abq]];exact Xx
  ·have hbad:=fun h=>Mn (v:=v) (ts:=ts) hf abq h;refine ae (N:=58) (l:=[.agg #[.int .i64 v,.slice A n c]]) Tryz.func65 rfl rfl (by simp) ?_;refine bT ?_;intro b1 w1 hh;refine aZ hh (hfw _) rfl ?_;intro w7 hh;refine aj ?_;refine aH [2,3,4,16,17,18,19,20,21,22,23,24,25,26,27,28,29,30,31,32,33,34,35,36,37,38,39,40,41,42,43,44,45,46,47,48,49,50,51,52,53,54,55,56,57] 16
    (fun x w'=>∃i:Nat,i≤n∧x=.int .i64 i∧(ts.take i).all (qe v)=true∧sU (ts.take i)=true∧Hp w [.blk b1 52 [.int .i64 v,.slice A n c] (0,0)] w')
    (fun x _=>n-(intOf x).toNat) ?_ ?_
   ·exact ⟨0,abB _,rfl,rfl,rfl,hh⟩
   ·clear hh;rintro ρ' x_ w' ⟨i,hi,rfl,hall,hris,hh⟩;by_cases hlt:i<n
    ·obtain ⟨x,hx⟩:=ai (l:=ts) (k:=i) abq;obtain ⟨ad,rfl,hr⟩:=hS.at_ abq;obtain ⟨hxo,hxm⟩:=ho x (abz hx);have hmay:=fun w1=>mw x.m v w1 abq;have hsg:=fun w1=>ct x.c w1;have hfo:=fun w1 hT1=>dK x.c w1 hT1 (by have:=hxo.1;omega) (by have:=hxo.2.1;omega) (by have:=hxo.2.2;omega);have hzz:x.c.i.sign=0↔x.c.d=0:=by
      exact Vp
     cases hm:eX x.m.data.toList && decide ((x.m.size:Int)=v) with
     |false=>
      rw [hm] at hmay;rw [hbad (Bq hx (by unfold qe;rw [hm];rfl))];refine aj ?_;refine qj ?_;refine bX ?_;intro b4 w4 hh ws hh
      refine db [] [] zL1 33 zL0 [(32,53),(31,52),(30,51),(29,50),(28,49),(27,48),(26,47),(25,46),(24,45),(23,44),(22,43),(21,42),(20,41),(19,40),(18,39),(17,38),(16,37),(15,36),(14,35),(13,34),(12,33),(11,32),(10,31),(9,30),(8,29),(7,28),(6,27),(5,26),(4,25),(3,24),(2,23),(1,22),(0,21)] hh mixed abt dx rfl (by repeat (first|exact bV|refine bD ?_|refine bU ?_)) ?_
      refine dw ?_;refine fF 0 ?_;refine dw ?_;refine fF 1 ?_;refine dC (fun _ hj=>hmay _) ?_;refine LH ?_;refine ml ?_;refine dS (dS (dS (dS ?_)));refine Iz ?_;exact UI
     |true=>
      rw [hm] at hmay;by_cases hz:x.c.d=0
      ·have hs:=hzz.2 hz;rw [hbad (Bq hx (by unfold qe qZ;rw [hm,abQ hz];rfl))];refine aj ?_;refine qj ?_;refine bX ?_;intro b4 w4 hh ws hh
       refine db [] [] zL1 33 zL0 [(32,53),(31,52),(30,51),(29,50),(28,49),(27,48),(26,47),(25,46),(24,45),(23,44),(22,43),(21,42),(20,41),(19,40),(18,39),(17,38),(16,37),(15,36),(14,35),(13,34),(12,33),(11,32),(10,31),(9,30),(8,29),(7,28),(6,27),(5,26),(4,25),(3,24),(2,23),(1,22),(0,21)] hh mixed abt dx rfl (by repeat (first|exact bV|refine bD ?_|refine bU ?_)) ?_
       refine dw ?_;refine fF 0 ?_;refine dw ?_;refine fF 1 ?_;refine dC (fun _ hj=>hmay _) ?_;refine LH ?_;refine ml ?_;refine dG (dw ?_);refine dG (da 0 [_,_,_] ?_);refine DZ ?_;refine dG (tm ?_);refine Sb ?_;exact UI
      ·have hs:¬x.c.i.sign=0:=fun h=>hz (hzz.1 h);by_cases hnf:nR x.c.d=x.c
       ·have hgood:qe v x=true:=by unfold qe qZ;rw [hm,abR hz,(vm x.c).2 hnf];rfl
        have hall2:(ts.take (i+1)).all (qe v)=true:=by rw [al hx,aeZ,hall];simp [hgood]
        by_cases h0:i=0
        ·refine aj ?_;refine qj ?_;refine bX ?_;intro b4 w4 hh ws hh
         refine db [] [] zL1 33 zL0 [(32,53),(31,52),(30,51),(29,50),(28,49),(27,48),(26,47),(25,46),(24,45),(23,44),(22,43),(21,42),(20,41),(19,40),(18,39),(17,38),(16,37),(15,36),(14,35),(13,34),(12,33),(11,32),(10,31),(9,30),(8,29),(7,28),(6,27),(5,26),(4,25),(3,24),(2,23),(1,22),(0,21)] hh mixed abt dx rfl (by repeat (first|exact bV|refine bD ?_|refine bU ?_)) ?_
         refine dw ?_;refine fF 0 ?_;refine dw ?_;refine fF 1 ?_;refine dC (fun _ hj=>hmay _) ?_;refine LH ?_;refine ml ?_;refine dG (dw ?_);refine dG (da 0 [_,_,_] ?_);refine DZ ?_;refine dG (tm ?_);refine Sb ?_;refine ml ?_;refine dG (dw ?_);refine dG (da 0 [_,_,_] ?_);refine I3 ?_;refine dG (dw ?_);refine dG (da 0 [_,_,_] ?_);refine MM ?_;refine Sb ?_;refine ml ?_;refine dG (dp ?_);refine dG (RT ?_);refine dG (ml ?_);refine dS (dS (dS (dS ?_)));refine pO (i:=28) rfl (fun ρ1 w1 hj hR=>(show ρ1 44=Value.bool _ from hR.2.2.1)) abr ?_;refine dS (dS (dS (dS ?_)));refine av ?_;intro f W hJ hV _;have hb_8:=hJ.bl;obtain ⟨v53,v52,v51,v50,v49,v48,v47,v46,v45,v44,v43,v42,v41,v40,v39,v38,v37,v36,v35,v34,v33,v32,v31,v30,v29,v28,v27,v26,v25,v24,v23,v22,v21,_⟩:=hV;replace hh:=hJ.hp;refine HH ?_;dsimp only [bA];clear hJ;refine gS (gT ?_)
         (first|refine Yv ?_|refine YG ?_)
         refine aj ?_;replace hh:=hh.sub (abA _ (aby _ abV));refine ⟨⟨i+1,abq,rfl,hall2,by rw [al hx,h0];rfl,hh⟩,by show n-(i+1)<n-i;omega, ?_⟩;exact dI
        ·obtain ⟨q,hq⟩:∃q,i=q+1:=⟨i-1,abq⟩;obtain ⟨p,hp⟩:=ai (l:=ts) (k:=q) abq
         cases hlp:iU p.m x.m with
         |false=>
          rw [hbad (MF hp (hq ▸ hx) hlp)];have hge:(!(Op.bytesLess p.m.toList x.m.toList))=true:=by rw [mO,hlp];rfl
          refine aj ?_;refine qj ?_;refine bX ?_;intro b4 w4 hh ws hh
          refine db [] [] zL1 33 zL0 [(32,53),(31,52),(30,51),(29,50),(28,49),(27,48),(26,47),(25,46),(24,45),(23,44),(22,43),(21,42),(20,41),(19,40),(18,39),(17,38),(16,37),(15,36),(14,35),(13,34),(12,33),(11,32),(10,31),(9,30),(8,29),(7,28),(6,27),(5,26),(4,25),(3,24),(2,23),(1,22),(0,21)] hh mixed abt dx rfl (by repeat (first|exact bV|refine bD ?_|refine bU ?_)) ?_
          refine dw ?_;refine fF 0 ?_;refine dw ?_;refine fF 1 ?_;refine dC (fun _ hj=>hmay _) ?_;refine LH ?_;refine ml ?_;refine dG (dw ?_);refine dG (da 0 [_,_,_] ?_);refine DZ ?_;refine dG (tm ?_);refine Sb ?_;refine ml ?_;refine dG (dw ?_);refine dG (da 0 [_,_,_] ?_);refine I3 ?_;refine dG (dw ?_);refine dG (da 0 [_,_,_] ?_);refine MM ?_;refine Sb ?_;refine ml ?_;refine dG (dp ?_);refine dG (RT ?_);refine dG (ml ?_);refine dG (dw ?_);refine dG (fF 1 ?_);refine dG (dp ?_);refine dG (uS ?_);refine dG (mU (q) ?_);refine dG (CB ?_);refine dG (yY (fun _ hj=>((hr.ext hj.hp.below).recAt TR.len hp).cell (i:=0) rfl) ?_);refine dG (dw ?_);refine dG (fF 0 ?_);refine av ?_;intro f W hJ hV _;have hb_8:=hJ.bl;obtain ⟨v53,v52,v51,v50,v49,v48,v47,v46,v45,v44,v43,v42,v41,v40,v39,v38,v37,v36,v35,v34,v33,v32,v31,v30,v29,v28,v27,v26,v25,v24,v23,v22,v21,_⟩:=hV;replace hh:=hJ.hp;refine HH ?_;dsimp only [bA];clear hJ;refine gT ?_;refine Ay rfl rfl abr ?_;refine gT ?_
          (first|refine Yv ?_|refine YG ?_)
          refine aj ?_;rw [hge];refine aj ?_;exact ⟨rfl,hh.below⟩
         |true=>
          have hge:(!(Op.bytesLess p.m.toList x.m.toList))=false:=by rw [mO,hlp];rfl
          refine aj ?_;refine qj ?_;refine bX ?_;intro b4 w4 hh ws hh
          refine db [] [] zL1 33 zL0 [(32,53),(31,52),(30,51),(29,50),(28,49),(27,48),(26,47),(25,46),(24,45),(23,44),(22,43),(21,42),(20,41),(19,40),(18,39),(17,38),(16,37),(15,36),(14,35),(13,34),(12,33),(11,32),(10,31),(9,30),(8,29),(7,28),(6,27),(5,26),(4,25),(3,24),(2,23),(1,22),(0,21)] hh mixed abt dx rfl (by repeat (first|exact bV|refine bD ?_|refine bU ?_)) ?_
          refine dw ?_;refine fF 0 ?_;refine dw ?_;refine fF 1 ?_;refine dC (fun _ hj=>hmay _) ?_;refine LH ?_;refine ml ?_;refine dG (dw ?_);refine dG (da 0 [_,_,_] ?_);refine DZ ?_;refine dG (tm ?_);refine Sb ?_;refine ml ?_;refine dG (dw ?_);refine dG (da 0 [_,_,_] ?_);refine I3 ?_;refine dG (dw ?_);refine dG (da 0 [_,_,_] ?_);refine MM ?_;refine Sb ?_;refine ml ?_;refine dG (dp ?_);refine dG (RT ?_);refine dG (ml ?_);refine dG (dw ?_);refine dG (fF 1 ?_);refine dG (dp ?_);refine dG (uS ?_);refine dG (mU (q) ?_);refine dG (CB ?_);refine dG (yY (fun _ hj=>((hr.ext hj.hp.below).recAt TR.len hp).cell (i:=0) rfl) ?_);refine dG (dw ?_);refine dG (fF 0 ?_);refine av ?_;intro f W hJ hV _;have hb_8:=hJ.bl;obtain ⟨v53,v52,v51,v50,v49,v48,v47,v46,v45,v44,v43,v42,v41,v40,v39,v38,v37,v36,v35,v34,v33,v32,v31,v30,v29,v28,v27,v26,v25,v24,v23,v22,v21,_⟩:=hV;replace hh:=hJ.hp;refine HH ?_;dsimp only [bA];clear hJ;refine gT ?_;refine Ay rfl rfl abr ?_;refine gT ?_
          (first|refine Yv ?_|refine YG ?_)
          refine aj ?_;rw [hge];refine aj ?_;replace hh:=hh.sub (abA _ (aby _ abV));refine ⟨⟨i+1,abq,rfl,hall2, ?_,hh⟩,by show n-(i+1)<n-i;omega, ?_⟩
          ·rw [hq,al hp] at hris;rw [al hx,hq,al hp,acb];show sU (ts.take q++[p,x])=true;rw [yX,hris,hlp]
           rfl
          ·exact dI
       ·rw [hbad (Bq hx (by unfold qe qZ;rw [hm,abR hz,aeP.2 (fun h=>hnf ((vm x.c).1 h))];rfl))];refine aj ?_;refine qj ?_;refine bX ?_;intro b4 w4 hh ws hh
        refine db [] [] zL1 33 zL0 [(32,53),(31,52),(30,51),(29,50),(28,49),(27,48),(26,47),(25,46),(24,45),(23,44),(22,43),(21,42),(20,41),(19,40),(18,39),(17,38),(16,37),(15,36),(14,35),(13,34),(12,33),(11,32),(10,31),(9,30),(8,29),(7,28),(6,27),(5,26),(4,25),(3,24),(2,23),(1,22),(0,21)] hh mixed abt dx rfl (by repeat (first|exact bV|refine bD ?_|refine bU ?_)) ?_
        refine dw ?_;refine fF 0 ?_;refine dw ?_;refine fF 1 ?_;refine dC (fun _ hj=>hmay _) ?_;refine LH ?_;refine ml ?_;refine dG (dw ?_);refine dG (da 0 [_,_,_] ?_);refine DZ ?_;refine dG (tm ?_);refine Sb ?_;refine ml ?_;refine dG (dw ?_);refine dG (da 0 [_,_,_] ?_);refine I3 ?_;refine dG (dw ?_);refine dG (da 0 [_,_,_] ?_);refine Bf (i:=18) rfl (fun ρ1 w1 hj hR=>(show ρ1 33=Value.bool _ from hR.2.2.1)) (fun ρ1 w1 hj hR=>Ix (show ρ1 36=Value.agg (List.toArray _) from hR.1) (show ρ1 38=Value.agg (List.toArray _) from hR.2.1) (by assumption)) ?_;refine Sb ?_;exact zW7
    ·rw [abG abq] at hall hris;rw [show jR v ts=0 by unfold jR okB;rw [abw (by rw [hf];decide),abw abq,hall,hris];rfl];refine aj ?_;exact ⟨rfl,hh.below⟩
def fY (v:Int) (t:TR):Bool:=eX t.m.data.toList && decide ((t.m.size:Int)=v)
theorem Ed (z:TR) (v:Int) (b:Nat) (w:World) (hp:w.cell? ⟨b,0,none⟩=some (.int .i64 v)) (hz:z.m.size≤100000):Calls Tryz.prog 242 #[.agg #[.string z.m,.bool z.c.neg,.string z.c.aO,.int .i64 z.c.e],.pointer (some ⟨b,0,none⟩)] w fun r w'=>r=.returned (.bool (!fY v z))∧Below w.heap.size w w':=by
 have hh:=Hp.start w;have hmay:=fun w1=>mw z.m v w1 abq;unfold fY;refine ae (N:=9) (l:=[.agg #[.string z.m,.bool z.c.neg,.string z.c.aO,.int .i64 z.c.e],.pointer (some ⟨b,0,none⟩)]) Tryz.func242 rfl rfl (by simp) ?_;refine bT ?_;intro b2 w2 hh;refine bG az.out rfl (bL hh.below hp) abr ?_;refine aZ hh (hmay _) rfl ?_;intro w7 hh
 cases eX z.m.data.toList && decide ((z.m.size:Int)=v) with
 |false=>
  refine aj ?_;exact ⟨rfl,hh.below⟩
 |true=>
  refine aj ?_;exact ⟨rfl,hh.below⟩
theorem yA (A:Option Addr) (n c:Nat) (l:List TR) (v:Int) (b:Nat) (w:World) (hS:Sl w A n 4 (ar TR.cells l)) (hn:n≤1000000) (hp:w.cell? ⟨b,0,none⟩=some (.int .i64 v)) (hz:∀t∈l,t.m.size≤100000):
  Calls Tryz.prog 241 #[.slice A n c,.func (.func 242) #[] #[.pointer (some ⟨b,0,none⟩)]] w fun r w'=>r=.returned (.bool (l.any fun t=> !fY v t))∧Below w.heap.size w w':=
 Gj A n c l 242 [.pointer (some ⟨b,0,none⟩)] (fun t=> !fY v t) w hS hn fun z w1 hz2 hb=>Ed z v b w1 (bL hb hp) (hz z hz2)
def lL (v:Int) (l:List TR):Int:=if jG v=false∨(l.any fun t=> !fY v t)=true then 1 else if 65536<l.length then 3 else gZ l
theorem uz (v:Int) (A:Option Addr) (n c:Nat) (l:List TR) (k:Nat) (w:World) (hT:dq w) (hS:Sl w A n 4 (ar TR.cells l)) (hn:n≤1000000) (hk:k≤2999980) (ho:iO k l) (hz:∀t∈l,t.m.size≤100000):
  Calls Tryz.prog 218 #[.int .i64 v,.slice A n c] w fun r w'=>∃g:PX,iy (lL v l) v (aA l) g∧r=.returned (.tuple #[.agg #[.int .i64 g.v,.slice g.A g.n g.c],.int .i64 (lL v l)])∧Hp w [g.row] w':=by
 have hh:=Hp.start w;have hln:=hS.aX TR.len abr;have hfw:=fun w1=>pW v w1;have han:=fun b w1 hb hp=>yA A n c l v b w1 (hS.ext hb) hn hp hz
 cases hf:jG v with
 |false=>
  rw [hf] at hfw;rw [show lL v l=1 by unfold lL;rw [abx (.inl hf)]];refine OE ?_;refine bX ?_;intro b2 w2 hh b4 w4 hh;refine aZ hh (hfw _) rfl ?_;intro w7 hh;refine bT ?_;intro ws hh;exact Qp
 |true=>
  rw [hf] at hfw
  cases ha:l.any fun t=> !fY v t with
  |true=>
   rw [ha] at han;rw [show lL v l=1 by unfold lL;rw [abx (.inr ha)]];exact TV
  |false=>
   rw [ha] at han;have e1:lL v l=if 65536<l.length then 3 else gZ l:=by unfold lL;rw [abw (by rw [hf,ha];decide)]
   by_cases h6:65536<n
   ·rw [e1,abx abq];exact TV
   ·rw [e1,abw abq];refine OE ?_;refine bX ?_;intro b2 w2 hh b4 w4 hh;refine aZ hh (hfw _) rfl ?_;intro w7 hh;refine aj ?_;refine vZ ?_;refine aj ?_;refine aZ hh (han _ _ hh.below (hh.ej (i:=1) (o:=0) rfl rfl)) rfl ?_;intro w12 hh;refine aj ?_;refine kY [] [0,0,2,7,15,15,63,127] 3 [[(2,none)],[(1,none)],[(20,some 1)]] [(2,21),(1,20),(0,19)] [([],4,[(2,21),(1,20),(0,19)])] hh mixed abt abt abr ?_;refine fF 1 ?_;refine fO ?_;refine aW (i:=2) (wg hh.sz 95 n 4 (ar TR.cells l)) (wg.ext) ?_ ?_
    ·intro ρ1 w1 hj hR;exact bp rfl (aR ak.out (aq (show ρ1 20=Value.slice _ _ _ from hR.1) aY)) (mV A n c l w1 (hS.ext hj.hp.below) hn) (fun _ _ ⟨A,c,hq,ho,hb⟩=>⟨_,hq,hb,A,c,rfl,iq ho hj.bl.size⟩)
    refine av ?_;intro p_ hp_;simp only [abO,acS,or_false] at hp_
    rcases hp_ with rfl
    intro f W hJ hV;have hb_5:=hJ.bl;obtain ⟨v21,v20,v19,_⟩:=hV;simp only [gD];have e19:f 0=_:=v19;rw [e19];have e20:f 1=_:=v20;rw [e20];obtain ⟨A21,c21,e21,o21⟩:wg _ _ _ _ _ (f 2) W:=v21;rw [e21];replace hh:=JJ.FB hh hJ.hp o21;clear o21;clear e19 e20 e21 hJ;refine au (lO v A21 n c21 l k _ hT hh hln abq abq ho) ak.out rfl abr ?_;rintro e_ w22 ⟨g,og,rfl,hh⟩;refine ⟨_,rfl, ?_⟩;refine dO ?_;refine cK (i:=4) (by repeat (first|exact bV|refine bD ?_|refine bU ?_|refine np_scope ?_)) rfl abt abt abt (fun _=>dT (show _=Value.tuple (List.toArray _) from rfl) rfl) abr ?_;refine cK (i:=5) (by repeat (first|exact bV|refine bD ?_|refine bU ?_|refine np_scope ?_)) rfl abt abt abt (fun _=>dT (show _=Value.tuple (List.toArray _) from rfl) rfl) abr ?_;refine iQ 6 abr abt abr abt abt ?_;exact Pk
def PX.cells (g:PX):List Value:=[.int .i64 g.v,.slice g.A g.n g.c]
theorem PX.len (g:PX):(PX.cells g).length=2:=rfl
structure PX.jz (g:PX) (k:Nat):Prop where
 n:g.n≤1000000
 cap:g.n≤g.c
 ok:iO k g.ts
 sz:∀t∈g.ts,t.m.size≤100000
def PX.e (g:PX):Int:=jR g.v g.ts
theorem nJ (g:PX) (k:Nat) (w:World) (hT:dq w) (h:g.at_ w) (hl:g.jz k):
  Calls Tryz.prog 65 #[.agg #[.int .i64 g.v,.slice g.A g.n g.c]] w fun r w'=>r=.returned (.int .i64 g.e)∧Below w.heap.size w w':=
 AP g.v g.A g.n g.c g.ts w hT h hl.n fun t ht=>⟨(hl.ok t ht).1,hl.sz t ht⟩
def AR (ps:List PX):Bool:=ps.any fun g=>decide (g.v≠(ps.map PX.v).headD 0)
def ic (ps:List PX):Int:=match ps.find? (fun g=>decide (g.e≠0)) with|some g=>g.e|none=>if ps.length=0∨AR ps=true then 1 else 0
theorem FM (L:Option Addr) (n c:Nat) (ps:List PX) (f:PX) (p:Addr) (w:World) (hL:Sl w L n 2 (ar PX.cells ps)) (hp:w.cell? p=some (.slice L n c)) (hn:0<n):
  Calls Tryz.prog 246 #[.agg #[.int .i64 f.v,.slice f.A f.n f.c],.pointer (some p)] w fun r w'=>r=.returned (.bool (decide (f.v≠(ps.map PX.v).headD 0)))∧Below w.heap.size w w':=by
 have hh:=Hp.start w;have hln:=hL.aX PX.len abr;obtain ⟨g,ps,rfl⟩:∃g l,ps=g::l:=by
  cases ps with
  |nil=>exact absurd hln (by show ¬0=n;omega)
  |cons g l=>exact ⟨g,l,rfl⟩
 obtain ⟨ad,rfl,hr⟩:=hL.at_ hn;have hd:(((g::ps).map PX.v).headD 0)=g.v:=rfl;rw [hd];have h0:(g::ps)[0]?=some g:=rfl;by_cases hg:f.v=g.v
 ·refine ae (N:=11) (l:=[.agg #[.int .i64 f.v,.slice f.A f.n f.c],.pointer (some p)]) Tryz.func246 rfl rfl (by simp) ?_;refine bT ?_;intro b2 w2 hh;refine Tx ?_;refine dw ?_;refine fF 0 ?_;refine De ?_;refine a8 (i:=3) (fun ρ1 w1 hj hR=>ep bq.out az.size (show ρ1 6=Value.slice _ _ _ from hR.1) rfl abq abq) ?_;refine CB ?_;refine yY (fun _ hj=>bL hj.hp.below (((hr.recAt PX.len h0)) 0 _ rfl)) ?_;refine av ?_;intro f W hJ hV;have hb_1:=hJ.bl;obtain ⟨v9,v8,v7,v6,v5,v4,_⟩:=hV;replace hh:=hJ.hp;refine ay (aQ (aa v9 (aa v8 (aa v7 (aa v6 (aa v5 (aa v4 aw))))))) ?_;dsimp only [bA];clear hJ;exact Ny
 ·refine ae (N:=11) (l:=[.agg #[.int .i64 f.v,.slice f.A f.n f.c],.pointer (some p)]) Tryz.func246 rfl rfl (by simp) ?_;refine bT ?_;intro b2 w2 hh;refine Tx ?_;refine dw ?_;refine fF 0 ?_;refine De ?_;refine a8 (i:=3) (fun ρ1 w1 hj hR=>ep bq.out az.size (show ρ1 6=Value.slice _ _ _ from hR.1) rfl abq abq) ?_;refine CB ?_;refine yY (fun _ hj=>bL hj.hp.below (((hr.recAt PX.len h0)) 0 _ rfl)) ?_;refine av ?_;intro f W hJ hV;have hb_1:=hJ.bl;obtain ⟨v9,v8,v7,v6,v5,v4,_⟩:=hV;replace hh:=hJ.hp;refine ay (aQ (aa v9 (aa v8 (aa v7 (aa v6 (aa v5 (aa v4 aw))))))) ?_;dsimp only [bA];clear hJ;exact OK
theorem FE (A:Option Addr) (n c:Nat) (l:List PX) (g:FuncId) (cap:List Value) (p:PX→Bool) (w:World) (hS:Sl w A n 2 (ar PX.cells l)) (hn:n≤1000000) [ak Tryz.prog g]
  (hg:∀(z:PX) (w1:World),z∈l→Below w.heap.size w w1→Calls Tryz.prog g (.agg #[.int .i64 z.v,.slice z.A z.n z.c]::cap).toArray w1 fun r w'=>r=.returned (.bool (p z))∧Below w1.heap.size w1 w'):
  Calls Tryz.prog 247 #[.slice A n c,.func (.func g) #[] cap.toArray] w fun r w'=>∃v,r=.returned (.int .i64 v)∧(0≤v↔l.any p=true)∧Below w.heap.size w w':=by
 have hh:=Hp.start w;have hln:=hS.aX PX.len abr;refine ae (N:=19) (l:=[.slice A n c,.func (.func g) #[] cap.toArray]) Tryz.func247 rfl rfl (by simp) ?_;refine aj ?_;refine aH [4,5,8,9,10,11,12,13,14,15,16,17,18] 8
  (fun v w'=>∃i:Nat,i≤n∧v=.int .i64 i∧(l.take i).any p=false∧Hp w [] w')
  (fun v _=>n-(intOf v).toNat) ?_ ?_
 ·exact ⟨0,abB _,rfl,rfl,hh⟩
 ·clear hh;rintro ρ' v w' ⟨i,hi,rfl,hall,hh⟩;by_cases hlt:i<n
  ·obtain ⟨z,hz⟩:=ai (l:=l) (k:=i) abq;obtain ⟨ad,rfl,hr⟩:=hS.at_ abq;have hc:=fun w1=>hg z w1 (abz hz)
   cases gz:p z with
   |true=>
    rw [gz] at hc;refine aj ?_;refine bF (vs:=[_,_]) az.out rfl ((hr.ext hh.below).recAt PX.len hz) rfl abr ?_;exact Sd
   |false=>
    rw [gz] at hc;refine aj ?_;refine bF (vs:=[_,_]) az.out rfl ((hr.ext hh.below).recAt PX.len hz) rfl abr ?_;exact Di
  ·exact QS
theorem wb (A:Option Addr) (n c:Nat) (l:List PX) (g:FuncId) (cap:List Value) (p:PX→Bool) (w:World) (hS:Sl w A n 2 (ar PX.cells l)) (hn:n≤1000000) [ak Tryz.prog g]
  (hg:∀(z:PX) (w1:World),z∈l→Below w.heap.size w w1→Calls Tryz.prog g (.agg #[.int .i64 z.v,.slice z.A z.n z.c]::cap).toArray w1 fun r w'=>r=.returned (.bool (p z))∧Below w1.heap.size w1 w'):
  Calls Tryz.prog 225 #[.slice A n c,.func (.func g) #[] cap.toArray] w fun r w'=>r=.returned (.bool (l.any p))∧Below w.heap.size w w':=by
 have hh:=Hp.start w;refine ae (N:=9) (l:=[.slice A n c,.func (.func g) #[] cap.toArray]) Tryz.func225 rfl rfl (by simp) ?_;refine aj ?_;refine au (FE A n c l g cap p _ (hS.ext hh.below) hn hg) ak.out rfl abr ?_;exact QB
theorem uo (L:Option Addr) (n c:Nat) (ps:List PX) (k:Nat) (w:World) (hT:dq w) (hL:Sl w L n 2 (ar PX.cells ps)) (hn:n≤1000000) (hf:∀g∈ps,g.at_ w) (hl:∀g∈ps,g.jz k):
  Calls Tryz.prog 221 #[.slice L n c] w fun r w'=>r=.returned (.int .i64 (ic ps))∧Below w.heap.size w w':=by
 have hh:=Hp.start w;have hln:=hL.aX PX.len abr;refine ae (N:=26) (l:=[.slice L n c]) Tryz.func221 rfl rfl (by simp) ?_;refine bT ?_;intro b1 w1 hh;refine aH [2,4,5,8,9,10,11,12,13,14,15,16,17] 8
  (fun v w'=>∃i:Nat,i≤n∧v=.int .i64 i∧(ps.take i).any (fun g=>decide (g.e≠0))=false∧Hp w [.blk b1 215 [.slice L n c] (0,0)] w')
  (fun v _=>n-(intOf v).toNat) ?_ ?_
 ·exact ⟨0,abB _,rfl,rfl,hh⟩
 ·clear hh;rintro ρ' v w' ⟨i,hi,rfl,hall,hh⟩;by_cases hlt:i<n
  ·obtain ⟨g,hx⟩:=ai (l:=ps) (k:=i) abq;have hmem:=abz hx;have hc:=fun w1 hT1 hb=>nJ g k w1 hT1 ((hf g hmem).ext hb) (hl g hmem);obtain ⟨ad,rfl,hr⟩:=hL.at_ abq;by_cases he:g.e=0
   ·refine aj ?_;refine Ps ?_;exact Uq
   ·refine aj ?_;refine Ps ?_;refine bX ?_;intro b4 w4 hh ws hh;refine Aq ?_;intro w13 hh;refine aj ?_;refine ⟨?_,hh.below⟩;unfold ic;rw [sX hall hx (abQ he)]
  ·rw [abG abq] at hall;have hlk:ic ps=if ps.length=0∨AR ps=true then 1 else 0:=by unfold ic;rw [j8 hall]
   rw [hlk];by_cases h0:n=0
   ·refine aj ?_;exact ⟨by rw [abx (.inl abq)],hh.below⟩
   ·have hcell:w'.cell? ⟨b1,0,none⟩=some (.slice L n c):=hh.ej (i:=0) rfl rfl;have ho:=fun w1 hb=>wb L n c ps 246 [.pointer (some ⟨b1,0,none⟩)] (fun g=>decide (g.v≠(ps.map PX.v).headD 0)) w1 (hL.ext (hh.below.trans (hb.mono hh.below.size))) hn (fun z w2 hz hb2=>FM L n c ps z ⟨b1,0,none⟩ w2 ((hL.ext (hh.below.trans (hb.mono hh.below.size))).ext hb2) (bL hb2 (bL hb hcell)) abq)
    cases hod:AR ps with
    |true=>
     have hod2:ps.any (fun g=>decide (g.v≠(ps.map PX.v).headD 0))=true:=hod;exact XJ
    |false=>
     have hod2:ps.any (fun g=>decide (g.v≠(ps.map PX.v).headD 0))=false:=hod;exact Ye
set_option maxRecDepth 100000 in
theorem GO {H:Type}{enc:TypeId×Value→H}{sp:Nat→Bool}{held:Bool}{x:DataW H×List MemPlace} (h:DataW.trod enc Tryz.prog W base sp held fuel 95 cs=some x):
  ∃t:TR,cs=t.cells∧True:=by
 have c0:Tryz.prog.cellsOf 95=4:=by kernel_rfl
 have c1:Tryz.prog.cellsOf 9=1:=by kernel_rfl
 have c2:Tryz.prog.cellsOf 33=3:=by kernel_rfl
 obtain ⟨y0,y1,n,_,hl,h0,h1⟩:=trod_struct2 Tryz.underlying95 h;obtain ⟨s,e0,_,_⟩:=DataW.trod_string Tryz.underlying9 h0;obtain ⟨a,e1,_⟩:=pK h1;rw [c0] at hl
 match cs,hl with
 |[x0,x1,x2,x3],_=>
  simp only [c1,c2] at e0 e1;unfold NR.cells at e1;simp at e0 e1;obtain ⟨e1,e2,e3⟩:=e1;subst e0 e1 e2 e3;exact ⟨⟨s,a⟩,rfl,trivial⟩
set_option maxRecDepth 100000 in
theorem FD {H:Type}{enc:TypeId×Value→H}{sp:Nat→Bool}{held:Bool}{x:DataW H×List MemPlace} (h:DataW.trod enc Tryz.prog W base sp held fuel 52 cs=some x):
  ∃g:PX,cs=g.cells∧(g.at_ W∧g.n≤g.c):=by
 have c0:Tryz.prog.cellsOf 52=2:=by kernel_rfl
 have c1:Tryz.prog.cellsOf 3=1:=by kernel_rfl
 have c2:Tryz.prog.cellsOf 50=1:=by kernel_rfl
 obtain ⟨y0,y1,n,_,hl,h0,h1⟩:=trod_struct2 Tryz.underlying52 h;obtain ⟨z,e0,_,_⟩:=DataW.trod_int Tryz.underlying3 h0;obtain ⟨B,m,b,k,e1,s1,_⟩:=G0 TR.len abr Tryz.underlying50 abt (fun _ _ _ h=>GO h) h1;rw [e1] at h1;have hroom:=KT Tryz.underlying50 h1;rw [c0] at hl
 match cs,hl with
 |[x0,x1],_=>
  simp only [c1,c2] at e0 e1;simp at e0 e1;subst e0 e1;exact ⟨⟨z,B,m,b,k⟩,rfl,s1,hroom⟩
set_option maxRecDepth 100000 in
theorem Au {H:Type}{enc:TypeId×Value→H}{r:Reach}{b0:Nat}{sp:Nat→Bool}{held:Bool}{v:Value}{d:DataW H}{ps:List MemPlace}
  (hval:Value.okWide Tryz.prog W r b0 52 v) (hd:DataW.Trod enc Tryz.prog W base sp held 52 v d ps):∃g:PX,v=.agg #[.int .i64 g.v,.slice g.A g.n g.c]∧g.at_ W∧g.n≤g.c:=by
 obtain ⟨cs,rfl,_⟩:=okWide_struct Tryz.underlying52 hval;obtain ⟨fuel,hf⟩:=hd;obtain ⟨f,h1,h2⟩:=FD hf;refine ⟨f, ?_,h2⟩;have h3:cs.toList=f.cells:=h1;rw [←Array.toList_inj.1 (show cs.toList=(#[.int .i64 f.v,.slice f.A f.n f.c]:Array Value).toList from h3)]
structure SR where
 lo:NR
 hi:NR
def SR.cells (s:SR):List Value:=[.bool s.lo.neg,.string s.lo.aO,.int .i64 s.lo.e,.bool s.hi.neg,.string s.hi.aO,.int .i64 s.hi.e]
theorem SR.len (s:SR):(SR.cells s).length=6:=rfl
theorem SR.one (s:SR):(SR.cells s).all Value.oneCell'=true:=rfl
def Oh (x y:Dyadic):Dyadic:=if y<x then y else x
def Nd (x y:Dyadic):Dyadic:=if x<y then y else x
theorem Qa (x y:Dyadic):fW (fun x y=>decide (x<y)) [x,y]=Oh x y:=by simp [fW,Oh]
theorem O5 (x y:Dyadic):fW (fun x y=>decide (y<x)) [x,y]=Nd x y:=by simp [fW,Nd]
def SR.L (s:SR):Dyadic:=Oh s.lo.d s.hi.d
def SR.H (s:SR):Dyadic:=Nd s.lo.d s.hi.d
def SR.f (s:SR):SR:=⟨nR s.L,nR s.H⟩
def SR.ok (s:SR):Prop:=s.lo.ok∧s.hi.ok
def SR.has (s:SR) (x:Dyadic):Bool:=decide (¬x<s.L∧¬s.H<x)
def SR.wid (s:SR):Dyadic:=s.H-s.L
def SR.kB (s:SR):Dyadic:=(s.lo.d+s.hi.d)*dm (-1)
theorem VH (x y:Dyadic):Oh x y=x∨Oh x y=y:=by unfold Oh;split<;>simp
theorem Wk (x y:Dyadic):Nd x y=x∨Nd x y=y:=by unfold Nd;split<;>simp
theorem Nc (x y:Dyadic):¬Nd x y<Oh x y:=by unfold Nd Oh;split<;>split<;>grind
structure qP (k:Nat) (a:NR):Prop where
 ok:a.ok
 sz:Sz k a.d
def SR.fin (k:Nat) (s:SR):Prop:=qP k s.lo∧qP k s.hi
theorem qP.of {x:Dyadic} (h:Sz k x) (hk:k≤3000000):qP k (nR x):=⟨h.ok abq,by rw [a6];exact h⟩
theorem SR.U3 {s:SR} (h:s.fin k):Sz k s.L:=by
 unfold SR.L
 rcases VH s.lo.d s.hi.d with e|e<;>rw [e]
 ·exact h.1.sz
 ·exact h.2.sz
theorem SR.Xf {s:SR} (h:s.fin k):Sz k s.H:=by
 unfold SR.H
 rcases Wk s.lo.d s.hi.d with e|e<;>rw [e]
 ·exact h.1.sz
 ·exact h.2.sz
theorem SR.qb {s:SR} (h:s.fin k) (hk:k≤3000000):s.f.fin k:=⟨qP.of (SR.U3 h) hk,qP.of (SR.Xf h) hk⟩
theorem wI (L:Option Addr) (n c:Nat) (l:List NR) (w:World) (hT:dq w) (hS:Sl w L n 3 (ar NR.cells l)) (hl:∀a∈l,a.ok) (hn:n≤1000000):
  Calls Tryz.prog 77 #[.slice L n c] w fun r w'=>r=.returned (.agg (SR.cells ⟨nR (fW (fun x y=>decide (x<y)) (l.map NR.d)),nR (fW (fun x y=>decide (y<x)) (l.map NR.d))⟩).toArray)∧Below w.heap.size w w':=by
 have hh:=Hp.start w;refine ae (N:=8) (l:=[.slice L n c]) Tryz.func77 rfl rfl (by simp) ?_;refine bT ?_;intro b2 w2 hh;refine aZ hh (Hm L n c l _ (hT.hp hh) (hS.ext hh.below) hl hn) rfl ?_;intro w4 hh;refine mL ?_;refine aZ hh (FT L n c l _ (hT.hp hh) (hS.ext hh.below) hl hn) rfl ?_;intro w6 hh;refine bT ?_;intro ws hh;exact RM
theorem yo (s:SR) (w:World) (hT:dq w) (hs:s.ok):
  Calls Tryz.prog 113 #[.agg s.cells.toArray] w fun r w'=>r=.returned (.agg s.f.cells.toArray)∧Below w.heap.size w w':=by
 have hh:=Hp.start w;have hc:=fun L c w1 hT1 hS1=>wI L 2 c [s.lo,s.hi] w1 hT1 hS1 (by simpa using show s.lo.ok∧s.hi.ok from hs) abq;simp only [ab8,acF,Qa,O5] at hc;refine ae (N:=10) (l:=[.agg s.cells.toArray]) Tryz.func113 rfl rfl (by simp) ?_;refine bX ?_;intro b1 w1 hh b2 w2 hh;refine qd ?_;intro b7 w7 hh;refine aZ hh (hc _ _ _ (hT.hp hh) (hh.ao (i:=0) rfl)) rfl ?_;intro w8 hh;exact XF
theorem B7 (s:SR) (w:World) (hT:dq w) (hs:s.ok):
  Calls Tryz.prog 157 #[.agg s.cells.toArray] w fun r w'=>r=.returned (.agg s.f.cells.toArray)∧Below w.heap.size w w':=by
 have hh:=Hp.start w;refine ae (N:=6) (l:=[.agg s.cells.toArray]) Tryz.func157 rfl rfl (by simp) ?_;refine bX ?_;intro b1 w1 hh b2 w2 hh;refine aZ hh (yo s _ (hT.hp hh) hs) rfl ?_;intro w4 hh;refine bT ?_;intro ws hh;exact RM
theorem Ot (x y:Dyadic):(fB x y≤0)↔¬y<x:=by
 rcases NM x y with h|h|h
 ·rw [nk h];exact ⟨fun _=>by grind,fun _=>by omega⟩
 ·rw [h,tj];exact ⟨fun _=>by grind,fun _=>by omega⟩
 ·rw [qu h];exact ⟨fun h2=>by omega,fun h2=>absurd h h2⟩
theorem Dn (s:SR) (a:NR) (k:Nat) (w:World) (hT:dq w) (hs:s.fin k) (ha:a.ok) (hk:k≤3000000):
  Calls Tryz.prog 67 #[.agg s.cells.toArray,.agg #[.bool a.neg,.string a.aO,.int .i64 a.e]] w fun r w'=>r=.returned (.bool (s.has a.d))∧Below w.heap.size w w':=by
 have hh:=Hp.start w;have hf:=SR.qb hs hk;have h1:=fun w1 hT1=>gh (nR s.L) a w1 hT1 hf.1.ok ha;have h2:=fun w1 hT1=>gh a (nR s.H) w1 hT1 ha hf.2.ok;simp only [a6] at h1 h2;have e1:=Ot s.L a.d;have e2:=Ot a.d s.H;generalize fB s.L a.d=c1 at*;generalize fB a.d s.H=c2 at*;unfold SR.has;by_cases g1:c1≤0
 ·by_cases g2:c2≤0
  ·refine Nt ?_;refine bX ?_;intro b2 w2 hh b3 w3 hh;refine H4 ?_;intro w7 hh;refine bX ?_;intro b5 w5 hh ws hh;refine aZ hh (h1 _ (hT.hp hh)) rfl ?_;intro w12 hh;refine aj ?_;refine aZ hh (h2 _ (hT.hp hh)) rfl ?_;intro w19 hh;refine aj ?_;exact ⟨by rw [abQ ⟨e1.1 g1,e2.1 g2⟩],hh.below⟩
  ·refine Nt ?_;refine bX ?_;intro b2 w2 hh b3 w3 hh;refine H4 ?_;intro w7 hh;refine bX ?_;intro b5 w5 hh ws hh;refine aZ hh (h1 _ (hT.hp hh)) rfl ?_;intro w12 hh;refine aj ?_;refine aZ hh (h2 _ (hT.hp hh)) rfl ?_;intro w19 hh;refine aj ?_;exact ⟨by rw [abR fun h=>g2 (e2.2 h.2)],hh.below⟩
 ·refine Nt ?_;refine bX ?_;intro b2 w2 hh b3 w3 hh;refine H4 ?_;intro w7 hh;refine bX ?_;intro b5 w5 hh ws hh;refine aZ hh (h1 _ (hT.hp hh)) rfl ?_;intro w12 hh;refine aj ?_;exact ⟨by rw [abR fun h=>g1 (e1.2 h.1)],hh.below⟩
theorem me (s:SR) (k:Nat) (w:World) (hT:dq w) (hs:s.fin k) (hk:k≤3000000):
  Calls Tryz.prog 64 #[.agg s.cells.toArray] w fun r w'=>r=.returned (.agg #[.bool (nR s.wid).neg,.string (nR s.wid).aO,.int .i64 (nR s.wid).e])∧Below w.heap.size w w':=by
 have hh:=Hp.start w;have hf:=SR.qb hs hk;have hc:=fun w1 hT1=>qF (nR s.H) (nR s.L) w1 hT1 hf.2.ok hf.1.ok k hf.2.sz hf.1.sz abq;simp only [a6] at hc;refine ae (N:=13) (l:=[.agg s.cells.toArray]) Tryz.func64 rfl rfl (by simp) ?_;refine bX ?_;intro b1 w1 hh b2 w2 hh;refine H4 ?_;intro w5 hh;refine bX ?_;intro b3 w3 hh ws hh;refine aZ hh (hc _ (hT.hp hh)) rfl ?_;intro w12 hh;exact Ow
theorem CM (s:SR) (k:Nat) (w:World) (hT:dq w) (hs:s.fin k) (hk:k≤3000000):
  Calls Tryz.prog 158 #[.agg s.cells.toArray] w fun r w'=>r=.returned (.agg #[.bool (nR s.kB).neg,.string (nR s.kB).aO,.int .i64 (nR s.kB).e])∧Below w.heap.size w w':=by
 have hh:=Hp.start w;have hc:=fun L c w1 hT1 hS1=>gl L 2 c [s.lo,s.hi] w1 hT1 hS1 (by simpa using And.intro hs.1.ok hs.2.ok) k (by simpa using And.intro hs.1.sz hs.2.sz) abq;simp only [ab8,acF,jH] at hc;have ho:=(hs.1.sz.add hs.2.sz).ok abq;have hsh:=fun w1 hT1=>mZ (nR (s.lo.d+s.hi.d)) (-1) w1 hT1 (by have:=ho.1;omega) (by have:=ho.2;omega) (by have:=ho.2;omega) abq abq;rw [a6] at hsh;refine ae (N:=10) (l:=[.agg s.cells.toArray]) Tryz.func158 rfl rfl (by simp) ?_;refine bX ?_;intro b1 w1 hh b2 w2 hh;refine qd ?_;intro b7 w7 hh;refine aZ hh (hc _ _ _ (hT.hp hh) (hh.ao (i:=0) rfl)) rfl ?_;intro w8 hh;refine aZ hh (hsh _ (hT.hp hh)) rfl ?_;intro w9 hh;exact Ow
set_option maxRecDepth 100000 in
theorem Gu {H:Type}{enc:TypeId×Value→H}{sp:Nat→Bool}{held:Bool}{x:DataW H×List MemPlace} (h:DataW.trod enc Tryz.prog W base sp held fuel 35 cs=some x):
  ∃a:SR,cs=a.cells∧True:=by
 have c0:Tryz.prog.cellsOf 35=6:=by kernel_rfl
 have c1:Tryz.prog.cellsOf 33=3:=by kernel_rfl
 obtain ⟨y0,y1,n,_,hl,h0,h1⟩:=trod_struct2 Tryz.underlying35 h;obtain ⟨a,e0,_⟩:=pK h0;obtain ⟨b,e1,_⟩:=pK h1;rw [c0] at hl
 match cs,hl with
 |[x0,x1,x2,x3,x4,x5],_=>
  simp only [c1] at e0 e1;simp [NR.cells] at e0 e1;obtain ⟨rfl,rfl,rfl⟩:=e0;obtain ⟨rfl,rfl,rfl⟩:=e1;exact ⟨⟨a,b⟩,rfl,trivial⟩
set_option maxRecDepth 100000 in
theorem Ns {H:Type}{enc:TypeId×Value→H}{r:Reach}{b0:Nat}{sp:Nat→Bool}{held:Bool}{v:Value}{d:DataW H}{ps:List MemPlace}
  (hval:Value.okWide Tryz.prog W r b0 54 v) (hd:DataW.Trod enc Tryz.prog W base sp held 54 v d ps):∃(A:Option Addr) (n c:Nat) (l:List SR),v=.slice A n c∧Sl W A n 6 (ar SR.cells l)∧∀a∈l,True:=
 Lq SR.len abr Tryz.underlying54 abt (fun _ _ _ h=>Gu h) hval hd
def sm {α:Type}:List α→(α→Dyadic)→Dyadic
 |[],_=>0
 |a::l,f=>f a+sm l f
section
variable {α β:Type}
theorem kT (l m:List α) (f:α→Dyadic):sm (l++m) f=sm l f+sm m f:=by
 induction l with
 |nil=>simp [sm,adX]
 |cons a l ih=>simp only [abE,sm,ih];grind
theorem kO (l:List α) (a:α) (f:α→Dyadic):sm (l++[a]) f=sm l f+f a:=by
 rw [kT];simp only [sm];grind
theorem a9 {l:List α}{f g:α→Dyadic} (h:∀a∈l,f a=g a):sm l f=sm l g:=by
 induction l with
 |nil=>rfl
 |cons a l ih=>rw [sm,sm,h a abF,ih fun b hb=>h b (abN _ hb)]
theorem nN {l:List α}{f:α→Dyadic} (h:∀a∈l,f a=0):sm l f=0:=by
 induction l with
 |nil=>rfl
 |cons a l ih=>rw [sm,h a abF,ih fun b hb=>h b (abN _ hb)];grind
theorem Gt (l:List α) (f g:α→Dyadic):sm l (fun a=>f a+g a)=sm l f+sm l g:=by
 induction l with
 |nil=>simp [sm]
 |cons a l ih=>simp only [sm,ih];grind
theorem ky (l:List α) (f:α→Dyadic) (c:Dyadic):sm l (fun a=>f a*c)=sm l f*c:=by
 induction l with
 |nil=>simp only [sm];grind
 |cons a l ih=>simp only [sm,ih];grind
theorem gI (l:List α) (f:α→Dyadic) (c:Dyadic):sm l (fun a=>c*f a)=c*sm l f:=by
 induction l with
 |nil=>simp only [sm];grind
 |cons a l ih=>simp only [sm,ih];grind
theorem re (l:List α) (g:α→β) (f:β→Dyadic):sm (l.map g) f=sm l fun a=>f (g a):=by
 induction l with
 |nil=>rfl
 |cons a l ih=>rw [ab8,sm,sm,ih]
theorem Hl (l:List α) (g:α→List β) (f:β→Dyadic):sm (l.flatMap g) f=sm l fun a=>sm (g a) f:=by
 induction l with
 |nil=>rfl
 |cons a l ih=>rw [adV,kT,sm,ih]
theorem px (l:List α) (m:List β) (f:α→β→Dyadic):sm l (fun a=>sm m (f a))=sm m fun b=>sm l fun a=>f a b:=by
 induction l with
 |nil=>exact (nN fun b _=>rfl).symm
 |cons a l ih=>simp only [sm];rw [ih,←Gt]
theorem KA (l:List α) (p:α→Bool) (f:α→Dyadic) (h:∀a∈l,p a=false→f a=0):sm (l.filter p) f=sm l f:=by
 induction l with
 |nil=>rfl
 |cons a l ih=>
  rw [sm,←ih fun b hb=>h b (abN _ hb)]
  cases hp:p a with
  |true=>rw [List.filter_cons_of_pos hp,sm]
  |false=>rw [List.filter_cons_of_neg (by rw [hp];exact Bool.false_ne_true),h a abF hp];grind
theorem nh (n p:Nat) (c:Dyadic):sm (List.range n) (fun q=>if q=p then c else 0)=if p<n then c else 0:=by
 induction n with
 |zero=>rw [abw abq];rfl
 |succ n ih=>
  rw [adk,kO,ih]
  rcases Nat.lt_trichotomy p n with h|h|h
  ·rw [abx h,abw (show ¬n=p by omega),abx (show p<n+1 by omega)];grind
  ·rw [abw (show ¬p<n by omega),abx h.symm,abx (show p<n+1 by omega)];grind
  ·rw [abw (show ¬p<n by omega),abw (show ¬n=p by omega),abw (show ¬p<n+1 by omega)];grind
end
def iV (N:Nat) (L:List (Nat×Dyadic)):List Dyadic:=(List.range N).map fun p=>sm L fun q=>if q.1=p then q.2 else 0
theorem jE (N:Nat) (L:List (Nat×Dyadic)):(iV N L).length=N:=by simp [iV]
theorem vN (N:Nat):iV N []=List.replicate N 0:=by
 refine List.ext_getElem (by simp [iV]) fun i h1 h2=> ?_;simp [iV,sm]
theorem nx {p:Nat} (L:List (Nat×Dyadic)) (h:p<N):(iV N L)[p]?=some (sm L fun q=>if q.1=p then q.2 else 0):=by
 unfold iV;rw [abI,acy h]
 rfl
theorem Ax {p:Nat}{L:List (Nat×Dyadic)}{x v:Dyadic} (h:(iV N L)[p]?=some x):(iV N L).set p (x+v)=iV N (L++[(p,v)]):=by
 have hp:p<N:=by have:=(abM.1 h).1;rwa [jE] at this
 rw [nx L hp] at h;refine acp fun i=> ?_;rw [acV];by_cases hi:p=i
 ·subst hi;rw [abx rfl,jE,abx hp,nx _ hp,kO,←aca h,abx rfl]
 ·rw [abw hi];by_cases hin:i<N
  ·rw [nx _ hin,nx _ hin,kO,abw hi];congr 1;grind
  ·rw [abT (by rw [jE];omega),abT (by rw [jE];omega)]
theorem Pr {l:List α}{f:α→Dyadic} (h:∀a∈l,Sz k (f a)):Sz (k+l.length) (sm l f):=by
 induction l with
 |nil=>exact Sz.zero _
 |cons a l ih=>
  have h1:=ih fun b hb=>h b (abN _ hb);have h2:=((h a abF).mono (show k≤k+l.length by omega)).add h1;rw [sm,ab0];exact h2.mono abq
theorem A0 {L:List (Nat×Dyadic)} (h:∀a∈L,Sz k a.2):∀x∈iV N L,Sz (k+L.length) x:=fun x hx=>by
 obtain ⟨p,_,rfl⟩:=abL.1 hx;refine Pr fun a ha=> ?_;split
 ·exact h a ha
 ·exact Sz.zero _
def ah:List Nat→Nat
 |[]=>1
 |d::ds=>(d+1)*ah ds
def bB:List Nat→Nat→List Nat
 |[],_=>[]
 |d::ds,p=>p % (d+1)::bB ds (p/(d+1))
def dh:List Nat→List Nat→Nat
 |d::ds,r::rs=>r+(d+1)*dh ds rs
 |_,_=>0
def ku:List Nat→List Nat→Prop
 |[],[]=>True
 |d::ds,r::rs=>r≤d∧ku ds rs
 |_,_=>False
theorem de (ds:List Nat):0<ah ds:=by
 induction ds with
 |nil=>exact Nat.one_pos
 |cons d ds ih=>exact Nat.mul_pos abq ih
theorem oB:∀(ds:List Nat) (p:Nat),(bB ds p).length=ds.length
 |[],_=>rfl
 |d::ds,p=>by rw [bB,ab0,oB ds,ab0]
theorem iA:∀(ds:List Nat) (p:Nat),ku ds (bB ds p)
 |[],_=>trivial
 |d::ds,p=>⟨by have:=ab4 p (show 0<d+1 by omega);omega,iA ds _⟩
theorem xE:∀{ds:List Nat}{p:Nat},p<ah ds→dh ds (bB ds p)=p
 |[],p,h=>by
  have:p<1:=h;show 0=p;omega
 |d::ds,p,h=>by
  have h1:p/(d+1)<ah ds:=by rw [acN abq,abU];exact h
  rw [bB,dh,xE h1,aes]
theorem ke:∀{ds rs:List Nat},ku ds rs→dh ds rs<ah ds
 |[],[],_=>Nat.one_pos
 |d::ds,r::rs,h=>by
  have h1:=ke h.2;have h2:=h.1;rw [dh,ah];have h3:(d+1)*dh ds rs+(d+1)≤(d+1)*ah ds:=by
   have:=acd (d+1) (show dh ds rs+1≤ah ds by omega);rw [acw,abZ] at this;exact this
  omega
theorem iw:∀{ds rs:List Nat},ku ds rs→bB ds (dh ds rs)=rs
 |[],[],_=>rfl
 |d::ds,r::rs,h=>by
  have h2:=h.1;rw [dh,bB,adF,aci abq,ac2 _ _ abq,acz abq,ab2,iw h.2]
theorem Bt (d:Nat) (ds:List Nat) (f:Nat→Dyadic):sm (List.range (ah (d::ds))) f=sm (List.range (ah ds)) fun q=>sm (List.range (d+1)) fun r=>f (r+(d+1)*q):=by
 have key:∀n,sm (List.range ((d+1)*n)) f=sm (List.range n) fun q=>sm (List.range (d+1)) fun r=>f (r+(d+1)*q):=fun n=>by
  induction n with
  |zero=>rfl
  |succ n ih=>
   rw [adk,kO,←ih,ac5,List.range_add,kT,re];congr 1;exact a9 fun a _=>by rw [adD]
 exact key _
def T1 (d:Int):List Int:=(List.range (d.toNat+1)).map fun (k:Nat)=>(k:Int)
def Wa:List Int→List (List Int)
 |[]=>[[]]
 |d::ds=>(T1 d).flatMap fun k=>(Wa ds).map (k:: ·)
def eI (n:Nat):List Int:=List.replicate n 0
def nxt:List Int→List Int→Option (List Int)
 |d::ds,k::l=>match nxt ds l with
  |some l'=>some (k::l')
  |none=>if k<d then some ((k+1)::eI l.length) else none
 |_,_=>none
def YU {α:Type} (f:α→Option α):α→List α→Prop
 |a,[b]=>b=a∧f a=none
 |a,b::L=>b=a∧∃c,f a=some c∧YU f c L
 |_,[]=>False
theorem rK (n:Nat):(eI n).length=n:=by simp [eI]
def okN:Int→List Int→Bool
 |_,[]=>true
 |n,d::ds=>decide (0≤d) && (decide (d≤127) && (decide (n*(d+1)≤65536) && okN (n*(d+1)) ds))
def fX (l:List Int):ByteArray:=str (l.map BG)
def aaC (ds:List Int):List ByteArray:=if okN 1 ds then (Wa ds).map fX else []
def gX (d:Int) (s:ByteArray):List ByteArray:=(T1 d).map fun q=>s++str [BG q]
def aaD (ls:List Int) (k n:Nat):List Int:=ls.take k++eI (n-k)
variable {ds:List Nat}
def bin:Nat→Nat→Nat
 |_,0=>1
 |0,_+1=>0
 |n+1,k+1=>bin n k+bin n (k+1)
theorem sD (n:Nat):bin n 0=1:=by cases n<;>rfl
theorem vn:∀{n k:Nat},n<k→bin n k=0
 |0,k+1,_=>rfl
 |n+1,k+1,h=>by rw [bin,vn (show n<k by omega),vn (show n<k+1 by omega)]
theorem Fe:∀n,bin n n=1
 |0=>rfl
 |n+1=>by rw [bin,Fe n,vn (show n<n+1 by omega)]
theorem Cb:∀n k:Nat,bin n k≤2^n
 |n,0=>by rw [sD];exact ab7 abr
 |0,k+1=>abB _
 |n+1,k+1=>by
  have h1:=Cb n k;have h2:=Cb n (k+1);rw [bin,acr];omega
def nZ (n:Nat):List Nat:=(List.range (n+1)).map (bin n)
theorem xt (n:Nat):(nZ n).length=n+1:=by simp [nZ]
theorem vi (h:k≤n):(nZ n)[k]?=some (bin n k):=by
 unfold nZ;exact Ov
def nD (n:Nat):Dyadic:=((n:Int):Dyadic)
theorem ve:nD 0=0:=rfl
theorem tg:nD 1=1:=rfl
theorem Cc (a b:Nat):nD (a+b)=nD a+nD b:=by
 show Dyadic.ofIntWithPrec ((a+b:Nat):Int) 0=Dyadic.ofIntWithPrec (a:Int) 0+Dyadic.ofIntWithPrec (b:Int) 0;rw [rz,acZ]
theorem PA (a b:Nat):nD (a*b)=nD a*nD b:=by
 induction a with
 |zero=>rw [ad4,ve];grind
 |succ a ih=>rw [acD,Cc,Cc,ih,tg];grind
theorem TB (h:n<2^k):Sz k (nD n):=by
 refine ⟨(n:Int)*2^k, ?_, ?_⟩
 ·have:=pf (n:Int) 0 k;rw [show (0:Int)+(k:Int)=k by omega] at this;rw [this]
  rfl
 ·rw [adu,ad3,Int.natAbs_natCast,show 2*k=k+k by omega,ab5];exact ad1 h (ab7 abr)
theorem vQ {α β:Type}{m:Nat} (hm:0<m) (g:α→List β):∀(l:List α) (p:Nat),(∀a∈l,(g a).length=m)→(l.flatMap g)[p]?=(l[p/m]?).bind fun a=>(g a)[p % m]?
 |[],p,_=>by simp
 |a::l,p,h=>by
  have ha:=h a abF;rw [adV];by_cases hp:p<m
  ·rw [adE abq,acz hp,aci hp]
   rfl
  ·obtain ⟨q,rfl⟩:∃q,p=q+m:=⟨p-m,abq⟩;rw [acP abq,ha,Nat.add_sub_cancel,vQ hm g l q fun b hb=>h b (abN _ hb),Nat.add_div_right _ hm,Nat.add_mod_right,aen]
theorem uK {α β:Type}{m:Nat} (g:α→List β):∀(l:List α),(∀a∈l,(g a).length=m)→(l.flatMap g).length=l.length*m
 |[],_=>by simp
 |a::l,h=>by
  rw [adV,abJ,h a abF,uK g l fun b hb=>h b (abN _ hb),ab0,acD,adD]
def a0 (l:List Nat):List Int:=l.map fun (n:Nat)=>(n:Int)
theorem bZ (l:List Nat):(a0 l).length=l.length:=by simp [a0]
theorem eA {l:List Nat}{i:Nat} (h:l[i]?=some n):(a0 l)[i]?=some (n:Int):=by simp [a0,h]
theorem IH:∀{ds rs:List Nat},ku ds rs→rs.length=ds.length
 |[],[],_=>rfl
 |_::_,_::_,h=>by rw [ab0,ab0,IH h.2]
theorem Dh {rs:List Nat}{i d r:Nat} (hd:ds[i]?=some d) (hr:rs[i]?=some r):dh (ds.take (i+1)).reverse (rs.take (i+1)).reverse=r+(d+1)*dh (ds.take i).reverse (rs.take i).reverse:=by
 rw [al hd,al hr];simp [dh]
theorem Dm {i d:Nat} (hd:ds[i]?=some d):ah (ds.take (i+1)).reverse=(d+1)*ah (ds.take i).reverse:=by
 rw [al hd];simp [ah]
theorem dt (a b:List Nat):ah (a++b)=ah a*ah b:=by
 induction a with
 |nil=>simp [ah]
 |cons d a ih=>rw [abE,ah,ah,ih,acE]
theorem cf (ds:List Nat):ah ds.reverse=ah ds:=by
 induction ds with
 |nil=>rfl
 |cons d ds ih=>rw [adQ,dt,ih,ah,ah,ah,abZ,abU]
theorem eT (ds:List Nat) (i:Nat):ah (ds.take i)≤ah ds:=by
 have:ds=ds.take i++ds.drop i:=(acH i ds).symm
 calc ah (ds.take i)=ah (ds.take i)*1:=(abZ _).symm
  _≤ah (ds.take i)*ah (ds.drop i):=acd _ (de _)
  _=ah ds:=by rw [←dt,acH]
theorem nI (A:Option Addr) (n c:Nat) (ds:List Int) (w:World) (hS:Sl w A n 1 (bh ds)) (hn:n≤1000000):
  Calls Tryz.prog 122 #[.slice A n c] w fun r w'=>∃B c',r=.returned (.slice B n c')∧w'.ownsRow w.heap.size 3 1 (.slice B n c') n (bh ds)∧Below w.heap.size w w':=by
 have hh:=Hp.start w
 rcases A with _|ad
 ·have hn0:n=0:=by
   exact We
  subst hn0;have hl:ds=[]:=adB (by simpa [bh] using hS.1);subst hl;refine ae (N:=8) (l:=[.slice none 0 c]) Tryz.func122 rfl rfl (by simp) ?_;exact Vu
 ·refine ae (N:=8) (l:=[.slice (some ad) n c]) Tryz.func122 rfl rfl (by simp) ?_;refine aj ?_;refine EF ?_;intro b5 w5 hh;refine mL ?_;refine bQ hh (i:=0) rfl rfl rfl (hS.ext hh.below) bq.out az.out rfl abr ?one1 abq abq abr ?kk1
  case one1=>first|rfl|assumption|exact bg _|exact oneCells_u8s _
  exact PK
theorem m7 (A:Option Addr) (n c:Nat) (xs:List NR) (w:World) (hS:Sl w A n 3 (ar NR.cells xs)) (hn:n≤1000000):
  Calls Tryz.prog 194 #[.slice A n c] w fun r w'=>∃B c',r=.returned (.slice B n c')∧w'.ownsRow w.heap.size 33 3 (.slice B n c') n (ar NR.cells xs)∧Below w.heap.size w w':=by
 have hh:=Hp.start w
 rcases A with _|ad
 ·have hn0:n=0:=by
   exact We
  subst hn0;have hl:xs=[]:=adB (by have:=hS.aX NR.len abr;omega);subst hl;refine ae (N:=8) (l:=[.slice none 0 c]) Tryz.func194 rfl rfl (by simp) ?_;exact Vu
 ·have hone:((ar NR.cells xs).all Value.oneCell')=true:=bj NR.one _;refine ae (N:=8) (l:=[.slice (some ad) n c]) Tryz.func194 rfl rfl (by simp) ?_;refine aj ?_;refine EF ?_;intro b5 w5 hh;refine mL ?_;refine bQ hh (i:=0) rfl rfl rfl (hS.ext hh.below) bq.out az.out rfl abr ?one2 abq abq abr ?kk2
  case one2=>first|rfl|assumption|exact bg _|exact oneCells_u8s _
  exact PK
theorem Fy (A:Option Addr) (n c:Nat) (l:List Int) (g:FuncId) (cap:List Value) (p:Int→Bool) (w:World) (hS:Sl w A n 1 (bh l)) (hn:n≤1000000) [ak Tryz.prog g]
  (hg:∀(z:Int) (w1:World),z∈l→Below w.heap.size w w1→Calls Tryz.prog g (.int .i64 z::cap).toArray w1 fun r w'=>r=.returned (.bool (p z))∧Below w1.heap.size w1 w'):
  Calls Tryz.prog 131 #[.slice A n c,.func (.func g) #[] cap.toArray] w fun r w'=>∃v,r=.returned (.int .i64 v)∧(0≤v↔l.any p=true)∧Below w.heap.size w w':=by
 have hh:=Hp.start w;have hln:l.length=n:=by have:=hS.1;simpa [bh] using this
 refine ae (N:=19) (l:=[.slice A n c,.func (.func g) #[] cap.toArray]) Tryz.func131 rfl rfl (by simp) ?_;refine aj ?_;refine aH [4,5,8,9,10,11,12,13,14,15,16,17,18] 8
  (fun v w'=>∃i:Nat,i≤n∧v=.int .i64 i∧(l.take i).any p=false∧Hp w [] w')
  (fun v _=>n-(intOf v).toNat) ?_ ?_
 ·exact ⟨0,abB _,rfl,rfl,hh⟩
 ·clear hh;rintro ρ' v w' ⟨i,hi,rfl,hall,hh⟩;by_cases hlt:i<n
  ·obtain ⟨z,hz⟩:=ai (l:=l) (k:=i) abq;have hgi:=cM hz;obtain ⟨ad,rfl,hr⟩:=hS.at_ abq;have hc:=fun w1=>hg z w1 (abz hz)
   cases gz:p z with
   |true=>
    rw [gz] at hc;refine aj ?_;refine rF ?_;exact Sd
   |false=>
    rw [gz] at hc;refine aj ?_;refine rF ?_;exact Di
  ·exact QS
theorem GI (A:Option Addr) (n c:Nat) (l:List Int) (g:FuncId) (cap:List Value) (p:Int→Bool) (w:World) (hS:Sl w A n 1 (bh l)) (hn:n≤1000000) [ak Tryz.prog g]
  (hg:∀(z:Int) (w1:World),z∈l→Below w.heap.size w w1→Calls Tryz.prog g (.int .i64 z::cap).toArray w1 fun r w'=>r=.returned (.bool (p z))∧Below w1.heap.size w1 w'):
  Calls Tryz.prog 80 #[.slice A n c,.func (.func g) #[] cap.toArray] w fun r w'=>r=.returned (.bool (l.any p))∧Below w.heap.size w w':=by
 have hh:=Hp.start w;refine ae (N:=9) (l:=[.slice A n c,.func (.func g) #[] cap.toArray]) Tryz.func80 rfl rfl (by simp) ?_;refine aj ?_;refine au (Fy A n c l g cap p _ (hS.ext hh.below) hn hg) ak.out rfl abr ?_;exact QB
theorem Gg (A:Option Addr) (n c:Nat) (l:List NR) (g:FuncId) (cap:List Value) (p:NR→Bool) (w:World) (hS:Sl w A n 3 (ar NR.cells l)) (hn:n≤1000000) [ak Tryz.prog g]
  (hg:∀(z:NR) (w1:World),z∈l→Below w.heap.size w w1→Calls Tryz.prog g (.agg #[.bool z.neg,.string z.aO,.int .i64 z.e]::cap).toArray w1 fun r w'=>r=.returned (.bool (p z))∧Below w1.heap.size w1 w'):
  Calls Tryz.prog 132 #[.slice A n c,.func (.func g) #[] cap.toArray] w fun r w'=>∃v,r=.returned (.int .i64 v)∧(0≤v↔l.any p=true)∧Below w.heap.size w w':=by
 have hh:=Hp.start w;have hln:=hS.aX NR.len abr;refine ae (N:=19) (l:=[.slice A n c,.func (.func g) #[] cap.toArray]) Tryz.func132 rfl rfl (by simp) ?_;refine aj ?_;refine aH [4,5,8,9,10,11,12,13,14,15,16,17,18] 8
  (fun v w'=>∃i:Nat,i≤n∧v=.int .i64 i∧(l.take i).any p=false∧Hp w [] w')
  (fun v _=>n-(intOf v).toNat) ?_ ?_
 ·exact ⟨0,abB _,rfl,rfl,hh⟩
 ·clear hh;rintro ρ' v w' ⟨i,hi,rfl,hall,hh⟩;by_cases hlt:i<n
  ·obtain ⟨z,hz⟩:=ai (l:=l) (k:=i) abq;obtain ⟨ad,rfl,hr⟩:=hS.at_ abq;have hc:=fun w1=>hg z w1 (abz hz)
   cases gz:p z with
   |true=>
    rw [gz] at hc;refine aj ?_;refine bF (vs:=[_,_,_]) az.out rfl ((hr.ext hh.below).recAt NR.len hz) rfl abr ?_;exact Sd
   |false=>
    rw [gz] at hc;refine aj ?_;refine bF (vs:=[_,_,_]) az.out rfl ((hr.ext hh.below).recAt NR.len hz) rfl abr ?_;exact Di
  ·exact QS
theorem Fv (A:Option Addr) (n c:Nat) (l:List NR) (g:FuncId) (cap:List Value) (p:NR→Bool) (w:World) (hS:Sl w A n 3 (ar NR.cells l)) (hn:n≤1000000) [ak Tryz.prog g]
  (hg:∀(z:NR) (w1:World),z∈l→Below w.heap.size w w1→Calls Tryz.prog g (.agg #[.bool z.neg,.string z.aO,.int .i64 z.e]::cap).toArray w1 fun r w'=>r=.returned (.bool (p z))∧Below w1.heap.size w1 w'):
  Calls Tryz.prog 83 #[.slice A n c,.func (.func g) #[] cap.toArray] w fun r w'=>r=.returned (.bool (l.any p))∧Below w.heap.size w w':=by
 have hh:=Hp.start w;refine ae (N:=9) (l:=[.slice A n c,.func (.func g) #[] cap.toArray]) Tryz.func83 rfl rfl (by simp) ?_;refine aj ?_;refine au (Gg A n c l g cap p _ (hS.ext hh.below) hn hg) ak.out rfl abr ?_;exact QB
variable {xs:List Dyadic}
def iZ:Int→List Int→Int
 |n,[]=>n
 |n,d::ds=>if d<0∨127<d∨4096<n*(d+1) then 0 else iZ (n*(d+1)) ds
def XB:Int→List Int→Int
 |n,[]=>n
 |n,d::ds=>XB (min (n*(d+1)) 4097) ds
def aaJ (ds:List Int):Int:=if ds.any (fun d=> !dN d) then -1 else XB 1 ds
def yF (a:NR):Bool:= !(((nR a.d).neg==a.neg && (nR a.d).aO==a.aO) && (nR a.d).e==a.e)
theorem rI {a:NR}:yF a=false↔nR a.d=a:=by
 unfold yF;rw [Bool.not_eq_false',nu]
def fE (ds:List Int) (cs:List NR):Int:=
 if 12<ds.length∨ds.any (fun d=> !dN d)=true then 1 else if iZ 1 ds=0 then 3 else if (cs.length:Int)≠iZ 1 ds then 1 else if cs.any yF=true then 1 else 0
theorem KD {ds:List Int} (h:ds.any (fun d=> !dN d)=false):∃ns:List Nat,ds=a0 ns∧∀n∈ns,n≤127:=by
 refine ⟨ds.map Int.toNat, ?_,fun n hn=> ?_⟩
 ·unfold a0;rw [ack];refine (aeH ds).symm.trans (acT fun d hd=> ?_);have:=ac9.1 h d hd;simp [dN] at this;show d=((d.toNat:Nat):Int);omega
 ·obtain ⟨d,hd,rfl⟩:=abL.1 hn;have:=ac9.1 h d hd;simp [dN] at this;omega
theorem Ha {ns:List Nat} (h:∀n∈ns,n≤127):(a0 ns).any (fun d=> !dN d)=false:=by
 rw [ac9];intro d hd;obtain ⟨n,hn,rfl⟩:=abL.1 hd;have:=h n hn;simp [dN];omega
theorem lG:∀(ns:List Nat) (n:Nat),1≤n→n≤4096→(∀d∈ns,d≤127)→iZ n (a0 ns)=if n*ah ns≤4096 then ((n*ah ns:Nat):Int) else 0
 |[],n,_,h,_=>by show (n:Int)=_;rw [ah,abZ,abx h]
 |d::ns,n,h1,h2,h3=>by
  show (if (d:Int)<0∨127<(d:Int)∨4096<(n:Int)*((d:Int)+1) then 0 else iZ ((n:Int)*((d:Int)+1)) (a0 ns))=_;have hd:=h3 d abF;have e1:(n:Int)*((d:Int)+1)=((n*(d+1):Nat):Int):=by rw [acK,acZ];rfl
  rw [e1];by_cases hg:n*(d+1)≤4096
  ·rw [abw abq,lG ns (n*(d+1)) (Nat.mul_pos h1 abq) hg fun x hx=>h3 x (abN _ hx),ah,acE]
  ·have h4:n*(d+1)*1≤n*(d+1)*ah ns:=acd _ (de ns);rw [abx abq,abw];rw [ah,←acE];omega
theorem Jj:∀(ds:List Int) (n:Int),1≤n→n≤4096→0≤iZ n ds∧iZ n ds≤4096
 |[],n,_,h=>by show 0≤n∧n≤4096;omega
 |d::ds,n,h1,h2=>by
  rw [iZ];split
  ·omega
  ·rename_i hg;have:1*1≤n*(d+1):=Int.mul_le_mul h1 abq abr abq;exact Jj ds _ abq abq
structure FV (ds:List Int) (cs:List NR) (ns:List Nat) (xs:List Dyadic):Prop where
 ZI:ds=a0 ns
 num:cs=xs.map nR
 RZ:ns.length≤12
 low:∀n∈ns,n≤127
 len:xs.length=ah ns
 max:ah ns≤4096
theorem TG {ds:List Int}{cs:List NR} (h:fE ds cs=0):∃ns xs,FV ds cs ns xs∧xs=cs.map NR.d:=by
 unfold fE at h;split at h
 ·cases h
 rename_i h1;split at h
 ·cases h
 rename_i h2;split at h
 ·cases h
 rename_i h3;split at h
 ·cases h
 rename_i h4;have hb:ds.any (fun d=> !dN d)=false:=by
  cases hx:ds.any (fun d=> !dN d) with
  |false=>rfl
  |true=>exact absurd (.inr hx) h1
 obtain ⟨ns,rfl,hl⟩:=KD hb;have hc:=lG ns 1 abr abr hl;rw [adZ] at hc;have hc1:iZ ((1:Nat):Int) (a0 ns)=iZ 1 (a0 ns):=rfl;rw [hc1] at hc;have hmax:ah ns≤4096:=by
  apply adN;intro hg;rw [abw hg] at hc;exact h2 hc
 rw [abx hmax] at hc;have hlen:cs.length=ah ns:=by
  have:(cs.length:Int)=iZ 1 (a0 ns):=ac7.1 h3;rw [hc] at this;omega
 refine ⟨ns,cs.map NR.d,⟨rfl, ?_,(by have h2:¬12<(a0 ns).length:=fun h=>h1 (.inl h);rw [bZ] at h2;omega),hl,by rw [abH,hlen],hmax⟩,rfl⟩;rw [ack];refine (aeH cs).symm.trans (acT fun a ha=> ?_);have h5:yF a=false:=by
  cases hx:yF a with
  |false=>rfl
  |true=>exact absurd (adg.2 ⟨a,ha,hx⟩) h4
 exact (rI.1 h5).symm
theorem FV.ok {ds:List Int}{cs:List NR}{ns:List Nat} (h:FV ds cs ns xs):fE ds cs=0:=by
 obtain ⟨rfl,rfl,h1,h2,h3,h4⟩:=h;have hc:=lG ns 1 abr abr h2;rw [adZ,abx h4] at hc;have hc1:iZ ((1:Nat):Int) (a0 ns)=iZ 1 (a0 ns):=rfl;rw [hc1] at hc;have hp:=de ns;unfold fE;rw [abw,abw abq,abw (by rw [abH];omega),abw]
 ·rw [adg];rintro ⟨a,ha,hx⟩;obtain ⟨x,_,rfl⟩:=abL.1 ha;have:yF (nR x)=false:=rI.2 (by rw [a6]);rw [this] at hx
  cases hx
 ·rw [bZ,Ha h2];rintro (h|h)
  ·omega
  ·cases h
theorem fk (A:Option Addr) (n c:Nat) (ds:List Int) (w:World) (hS:Sl w A n 1 (bh ds)) (hn:n≤1000000):
  Calls Tryz.prog 82 #[.slice A n c] w fun r w'=>r=.returned (.int .i64 (iZ 1 ds))∧Below w.heap.size w w':=by
 have hh:=Hp.start w;have hln:ds.length=n:=by have:=hS.1;simpa [bh] using this
 refine ae (N:=31) (l:=[.slice A n c]) Tryz.func82 rfl rfl (by simp) ?_;refine aj ?_;refine bk [2,3,5,8,9,10,11,12,13,14,15,16,17,18,19,20,21,22,23,24,25,26,27,28,29] 3 8
  (fun v3 v w'=>∃(i:Nat) (q:Int),i≤n∧v=.int .i64 i∧v3=.int .i64 q∧1≤q∧q≤4096∧iZ 1 ds=iZ q (ds.drop i)∧Hp w [] w')
  (fun _ v _=>n-(intOf v).toNat) ?_ ?_
 ·exact ⟨0,1,abB _,rfl,rfl,abq,abq,rfl,hh⟩
 ·clear hh;rintro ρ' v3 v w' ⟨i,q,hi,rfl,rfl,hq1,hq2,hc,hh⟩;by_cases hlt:i<n
  ·obtain ⟨d,hd⟩:=ai (l:=ds) (k:=i) abq;have hgi:=cM hd;obtain ⟨ad,rfl,hr⟩:=hS.at_ abq;rw [gk hd,iZ] at hc;by_cases h1:d<0
   ·rw [abx (.inl h1)] at hc;exact VC
   ·by_cases h2:127<d
    ·rw [abx (.inr (.inl h2))] at hc;exact VC
    ·have hm1:1*1≤q*(d+1):=Int.mul_le_mul hq1 abq abr abq;have hm2:q*(d+1)≤4096*128:=Int.mul_le_mul hq2 abq abq abr;by_cases h3:4096<q*(d+1)
     ·rw [abx (.inr (.inr h3))] at hc;exact VC
     ·rw [abw abq] at hc;refine aj ?_;refine rF ?_;refine aj ?_;refine ⟨⟨i+1,_,abq,rfl,rfl,abq,abq,hc,hh⟩,by show n-(i+1)<n-i;omega, ?_⟩;exact dI
  ·rw [adH abq] at hc;refine aj ?_;exact ⟨by rw [hc];rfl,hh.below⟩
theorem FY (d:Int) (w:World):
  Calls Tryz.prog 81 #[.int .i64 d] w fun r w'=>r=.returned (.bool (!dN d))∧Below w.heap.size w w':=by
 have hh:=Hp.start w;by_cases h1:d<0
 ·refine ae (N:=9) (l:=[.int .i64 d]) Tryz.func81 rfl rfl (by simp) ?_;refine aj ?_;refine ⟨?_,hh.below⟩;unfold dN;rw [abR (show ¬0≤d by omega)]
  rfl
 ·by_cases h2:127<d
  ·refine ae (N:=9) (l:=[.int .i64 d]) Tryz.func81 rfl rfl (by simp) ?_;refine aj ?_;refine ⟨?_,hh.below⟩;unfold dN;rw [abR (show ¬d≤127 by omega),Bool.and_false]
   rfl
  ·refine ae (N:=9) (l:=[.int .i64 d]) Tryz.func81 rfl rfl (by simp) ?_;refine aj ?_;refine ⟨?_,hh.below⟩;unfold dN;rw [abQ (show 0≤d by omega),abQ (show d≤127 by omega)]
   rfl
theorem Ga (a:NR) (w:World) (hT:dq w) (ha:a.ok):
  Calls Tryz.prog 84 #[.agg #[.bool a.neg,.string a.aO,.int .i64 a.e]] w fun r w'=>r=.returned (.bool (yF a))∧Below w.heap.size w w':=by
 have hh:=Hp.start w;have hf:=fun w1 hT1=>dK a w1 hT1 (by have:=ha.1;omega) (by have:=ha.2;omega) (by have:=ha.2;omega)
 cases hx:yF a with
 |false=>
  have he:=rI.1 hx;refine ae (N:=7) (l:=[.agg #[.bool a.neg,.string a.aO,.int .i64 a.e]]) Tryz.func84 rfl rfl (by simp) ?_;refine bT ?_;intro b1 w1 hh;refine aC 3 [[(1,none)],[(3,some 0)],[(1,none)]] [(2,5),(1,4),(0,3)] hh mixed abt ?_;refine da 0 [_,_,_] ?_;refine dC (fun _ hj=>hf _ (hT.hp hj.hp)) ?_;refine da 0 [_,_,_] ?_;refine av ?_;intro f W hJ hV;have hb_1:=hJ.bl;obtain ⟨v5,v4,v3,_⟩:=hV;replace hh:=hJ.hp;refine ay (aQ (aa v5 (aa v4 (aa v3 aw)))) ?_;dsimp only [bA];clear hJ;refine IK rfl rfl (by first|assumption|rfl) abr ?_;refine aj ?_;exact ⟨rfl,hh.below⟩
 |true=>
  have he:¬nR a.d=a:=fun h=>by rw [rI.2 h] at hx;cases hx
  refine ae (N:=7) (l:=[.agg #[.bool a.neg,.string a.aO,.int .i64 a.e]]) Tryz.func84 rfl rfl (by simp) ?_;refine bT ?_;intro b1 w1 hh;refine aC 3 [[(1,none)],[(3,some 0)],[(1,none)]] [(2,5),(1,4),(0,3)] hh mixed abt ?_;refine da 0 [_,_,_] ?_;refine dC (fun _ hj=>hf _ (hT.hp hj.hp)) ?_;refine da 0 [_,_,_] ?_;refine av ?_;intro f W hJ hV;have hb_1:=hJ.bl;obtain ⟨v5,v4,v3,_⟩:=hV;replace hh:=hJ.hp;refine ay (aQ (aa v5 (aa v4 (aa v3 aw)))) ?_;dsimp only [bA];clear hJ;refine RK rfl rfl (by assumption) abr ?_;refine aj ?_;exact ⟨rfl,hh.below⟩
theorem yP (A B:Option Addr) (n c m c2:Nat) (ds:List Int) (cs:List NR) (w:World) (hT:dq w) (hS:Sl w A n 1 (bh ds)) (hS2:Sl w B m 3 (ar NR.cells cs)) (hn:n≤1000000) (hm:m≤1000000) (hc:∀a∈cs,a.ok):
  Calls Tryz.prog 39 #[.agg #[.slice A n c,.slice B m c2]] w fun r w'=>r=.returned (.int .i64 (fE ds cs))∧Below w.heap.size w w':=by
 have hh:=Hp.start w;have hln:ds.length=n:=by have:=hS.1;simpa [bh] using this
 have hlm:=hS2.aX NR.len abr;have h1:=fun w1 hS1=>GI A n c ds 81 [] (fun d=> !dN d) w1 hS1 hn (fun z w2 _ hb=>FY z w2);have h2:=fun w1 (hT1:dq w1) hS1=>Fv B m c2 cs 84 [] yF w1 hS1 hm (fun z w2 hz hb=>Ga z w2 (hT1.ext hb) (hc z hz));have h3:=Jj ds 1 abq abq;unfold fE;by_cases g1:12<n
 ·refine z5 ?_;refine bT ?_;intro b1 w1 hh;exact ⟨by rw [abx (.inl abq)],hh.below⟩
 ·cases g2:ds.any (fun d=> !dN d) with
  |true=>
   refine z5 ?_;refine bT ?_;intro b1 w1 hh;refine aZ hh (h1 _ (hS.ext hh.below)) rfl ?_;intro w11 hh;rw [g2];refine aj ?_;exact ⟨by rw [abx (.inr rfl)],hh.below⟩
  |false=>
   rw [abw (fun h=>h.elim (fun h=>by omega) (fun h=>by cases h))];by_cases g3:iZ 1 ds=0
   ·refine z5 ?_;refine bT ?_;intro b1 w1 hh;refine aZ hh (h1 _ (hS.ext hh.below)) rfl ?_;intro w11 hh;rw [g2];refine aj ?_;refine Il ?_;intro w16 hh;refine aj ?_;exact ⟨by rw [abx g3],hh.below⟩
   ·rw [abw g3];by_cases g4:(m:Int)=iZ 1 ds
    ·rw [abw (show ¬(cs.length:Int)≠iZ 1 ds by omega)]
     cases g5:cs.any yF with
     |true=>
      refine z5 ?_;refine bT ?_;intro b1 w1 hh;refine aZ hh (h1 _ (hS.ext hh.below)) rfl ?_;intro w11 hh;rw [g2];refine aj ?_;refine Il ?_;intro w16 hh;refine aj ?_;refine Oc ?_;refine dw ?_;refine fF 0 ?_;refine pY ?_;refine dw ?_;refine fF 0 ?_;refine dC (fun _ hj=>fk A n c ds _ (hS.ext hj.hp.below) hn) ?_;refine av ?_;intro f W hJ hV;have hb_5:=hJ.bl;obtain ⟨v24,v23,v22,v21,v20,v19,_⟩:=hV;replace hh:=hJ.hp;refine O1 ?_;dsimp only [bA];clear hJ;refine aj ?_;refine aZ hh (h2 _ (hT.hp hh) (hS2.ext hh.below)) rfl ?_;intro w28 hh;rw [g5];refine aj ?_;exact ⟨by rw [abx rfl],hh.below⟩
     |false=>
      refine z5 ?_;refine bT ?_;intro b1 w1 hh;refine aZ hh (h1 _ (hS.ext hh.below)) rfl ?_;intro w11 hh;rw [g2];refine aj ?_;refine Il ?_;intro w16 hh;refine aj ?_;refine Oc ?_;refine dw ?_;refine fF 0 ?_;refine pY ?_;refine dw ?_;refine fF 0 ?_;refine dC (fun _ hj=>fk A n c ds _ (hS.ext hj.hp.below) hn) ?_;refine av ?_;intro f W hJ hV;have hb_5:=hJ.bl;obtain ⟨v24,v23,v22,v21,v20,v19,_⟩:=hV;replace hh:=hJ.hp;refine O1 ?_;dsimp only [bA];clear hJ;refine aj ?_;refine aZ hh (h2 _ (hT.hp hh) (hS2.ext hh.below)) rfl ?_;intro w28 hh;rw [g5];refine aj ?_;exact ⟨by rw [abw abr],hh.below⟩
    ·rw [abx (show (cs.length:Int)≠iZ 1 ds by omega)];refine z5 ?_;refine bT ?_;intro b1 w1 hh;refine aZ hh (h1 _ (hS.ext hh.below)) rfl ?_;intro w11 hh;rw [g2];refine aj ?_;refine Il ?_;intro w16 hh;refine aj ?_;refine Oc ?_;refine dw ?_;refine fF 0 ?_;refine pY ?_;refine dw ?_;refine fF 0 ?_;refine dC (fun _ hj=>fk A n c ds _ (hS.ext hj.hp.below) hn) ?_;refine av ?_;intro f W hJ hV;have hb_5:=hJ.bl;obtain ⟨v24,v23,v22,v21,v20,v19,_⟩:=hV;replace hh:=hJ.hp;refine O1 ?_;exact O6
def UO:List Nat→List Nat→Bool
 |[],[]=>true
 |d::ds,r::rs=>decide (r≤d) && UO ds rs
 |_,_=>false
theorem Jo:∀(ds rs:List Nat),UO ds rs=true↔ku ds rs
 |[],[]=>by simp [UO,ku]
 |[],_::_=>by simp [UO,ku]
 |_::_,[]=>by simp [UO,ku]
 |d::ds,r::rs=>by rw [UO,ku,abS,ab1,Jo ds rs]
def co (ds:List Nat) (xs:List Dyadic) (row:List Nat):Dyadic:=if UO ds row then (xs[dh ds row]?).getD 0 else 0
theorem JI {row:List Nat} (h:ku ds row):co ds xs row=(xs[dh ds row]?).getD 0:=by
 unfold co;rw [abx ((Jo _ _).2 h)]
theorem Bs {p:Nat} (h:p<ah ds):co ds xs (bB ds p)=(xs[p]?).getD 0:=by
 rw [JI (iA ds p),xE h]
theorem Vo {ys:List Dyadic} (hx:xs.length=ah ds) (hy:ys.length=ah ds) (h:∀row,ku ds row→co ds xs row=co ds ys row):xs=ys:=by
 refine List.ext_getElem (by rw [hx,hy]) fun p h1 h2=> ?_;have h3:=h (bB ds p) (iA ds p);rw [Bs abq,Bs abq,ac1 h1,ac1 h2] at h3;exact h3
def dD:List Nat→List Nat→List Nat
 |a::l,b::m=>(a+b)::dD l m
 |_,_=>[]
theorem u9:∀{ds es rs js:List Nat},ku ds rs→ku es js→ds.length=es.length→ku (dD ds es) (dD rs js)
 |[],[],[],[],_,_,_=>trivial
 |[],_::_,_,_,_,_,h=>by simp at h
 |_::_,[],_,_,_,_,h=>by simp at h
 |d::ds,e::es,r::rs,j::js,h1,h2,h3=>⟨by have:=h1.1;have:=h2.1;omega,u9 h1.2 h2.2 (by simpa using h3)⟩
theorem Db:∀{a b:List Nat},a.length=b.length→(dD a b).length=a.length
 |[],[],_=>rfl
 |_::a,_::b,h=>by rw [dD,ab0,ab0,Db (by simpa using h)]
def YP:(List Nat→Dyadic)→List Nat→List Nat→Dyadic
 |F,r::rs,j::js=>if j≤r then YP (fun t=>F ((r-j)::t)) rs js else 0
 |F,[],[]=>F []
 |_,_,_=>0
def TX:List Nat→List Nat→Nat
 |m::ms,j::js=>bin m j*TX ms js
 |_,_=>1
def upS:List Nat→(List Nat→Dyadic)→List Nat→Dyadic
 |m::ms,F,r::rs=>sm (List.range (m+1)) fun j=>if j≤r then nD (bin m j)*upS ms (fun t=>F ((r-j)::t)) rs else 0
 |_,F,row=>F row
def Fm (ds es:List Nat) (xs ys:List Dyadic):List (Nat×Dyadic):=
 (List.range (ah es)).flatMap fun k=>(List.range (ah ds)).map fun i=>(dh (dD ds es) (dD (bB ds i) (bB es k)),(xs[i]?).getD 0*(ys[k]?).getD 0)
theorem vD (n:Nat) (f:Nat→Dyadic):sm (List.range (n+1)) f=f 0+sm (List.range n) fun j=>f (j+1):=by
 induction n with
 |zero=>simp only [adk,List.range_zero,abC,sm]
 |succ n ih=>rw [adk,kO,ih,adk (n:=n),kO];grind
def Y0 (row:List Nat) (a:Nat):List Nat:=row.set a (row.getD a 0-1)
def nY (n:Nat):List NR:=(nZ n).map fun k=>nR (nD k)
theorem Pc (n:Nat):(nY n).length=n+1:=by simp [nY,xt]
theorem na (h:k≤n):(nY n)[k]?=some (nR (nD (bin n k))):=by
 unfold nY;rw [abI,vi h]
 rfl
theorem sW (n k:Nat) (h:n≤127):Sz 128 (nD (bin n k)):=TB (acB (Cb n k) (Nat.pow_lt_pow_right abr abq))
theorem qa (n:Nat) (w:World) (hT:dq w) (hn:n≤127):
  Calls Tryz.prog 195 #[.int .i64 n] w fun r w'=>∃A c',r=.returned (.slice A (n+1) c')∧w'.ownsRow w.heap.size 33 3 (.slice A (n+1) c') (n+1) (ar NR.cells (nY n))∧Below w.heap.size w w':=by
 have hh:=Hp.start w;refine ae (N:=39) (l:=[.int .i64 n]) Tryz.func195 rfl rfl (by simp) ?_;refine aj ?_;refine DM ?_;intro w6 hh;refine rR ?_;intro b7 w7 hh;refine aj ?_;refine bk [3,4,5,9,10,11,12,13,14,15,16,17,18,19,20,21,22,23,24,25,26,27,28,29,30,31,32,33,34,35,36,37] 3 9
  (fun v3 v w'=>∃(i c3:Nat) (A:Option Addr),i≤n∧v=.int .i64 i∧v3=.slice A (i+1) c3∧Hp w [.row A (i+1) c3 33 3 (ar NR.cells (nY i))] w')
  (fun _ v _=>n-(intOf v).toNat) ?_ ?_
 ·exact ⟨0,_,_,abB _,rfl,rfl,hh⟩
 ·clear hh;rintro ρ' v3 v w' ⟨i,c3,A,hi,rfl,rfl,hh⟩;by_cases hlt:i<n
  ·refine aj ?_;refine DM ?_;intro w11 hh;refine rR ?_;intro b12 w12 hh;refine aj ?_;refine bk [4,5,13,14,15,16,17,18,19,20,21,22,23,24,25,26,27,28,29,30,31,32] 4 5
    (fun v4 v w'=>∃(k c4:Nat) (B:Option Addr),k≤i∧v=.int .i64 ((k+1:Nat):Int)∧v4=.slice B (k+1) c4∧Hp w [.row B (k+1) c4 33 3 (ar NR.cells ((nY (i+1)).take (k+1))),.row A (i+1) c3 33 3 (ar NR.cells (nY i))] w')
    (fun _ v _=>i+1-(intOf v).toNat) ?_ ?_
   ·refine ⟨0,_,_,abB _,rfl,rfl, ?_⟩;rw [show (nY (i+1)).take (0+1)=[nR (nD 1)] by rw [al (na (abB _)),sD];rfl];exact hh
   ·clear hh;rintro ρ2 v4 v w2 ⟨k,c4,B,hk,rfl,rfl,hh⟩;by_cases hlk:k<i
    ·have e1:=na (n:=i) (k:=k) abq;have e2:=na (n:=i) (k:=k+1) abq;have e3:=na (n:=i+1) (k:=k+1) abq;have z1:=sW i k abq;have z2:=sW i (k+1) abq;have hadd:=fun A cc w1 hT1 hS1=>gl A 2 cc [nR (nD (bin i k)),nR (nD (bin i (k+1)))] w1 hT1 hS1 (by simpa using ⟨z1.ok abq,z2.ok abq⟩) 128 (by simpa [a6] using ⟨z1,z2⟩) abq;rw [show nM ([nR (nD (bin i k)),nR (nD (bin i (k+1)))].map NR.d)=nD (bin (i+1) (k+1)) by simp only [ab8,acF,a6,jH,bin,Cc]] at hadd;obtain ⟨go,rfl⟩:=hh.bP (i:=1) rfl abq;refine aj ?_;refine aC 13 [[(4,none)],[(3,none)],[(5,none)],[(21,some 2)],[(20,some 1),(22,some 3)],[(23,some 4)],[(3,none)],[(5,none)],[(25,some 6),(26,some 7)],[(27,some 8)],[(24,some 5),(28,some 9)],[(29,some 10)],[(30,some 11)]] [(12,31),(11,30),(10,29),(9,28),(8,27),(7,26),(6,25),(5,24),(4,23),(3,22),(2,21),(1,20),(0,19)] hh mixed abt ?_;refine fO ?_;refine fO ?_;refine dp ?_;refine uS ?_;refine CN (k) ?_;refine p9 [_,_,_] (fun _ hj=>hj.hp.df (f:=NR.cells) (x:=nR (nD (bin i k))) (l:=nY i) (i:=1) rfl NR.len abr e1) ?_;refine fO ?_;refine dp ?_
     refine CN ((k+1)) ?_;refine p9 [_,_,_] (fun _ hj=>hj.hp.df (f:=NR.cells) (x:=nR (nD (bin i (k+1)))) (l:=nY i) (i:=1) rfl NR.len abr e2) ?_;refine uW [_,_,_,_,_,_] ?_;refine aW (i:=11) (Is (.agg #[.bool (nR (nD (bin (i+1) (k+1)))).neg,.string (nR (nD (bin (i+1) (k+1)))).aO,.int .i64 (nR (nD (bin (i+1) (k+1)))).e])) Is.ext ?_ ?_
     ·intro ρ1 w1 hj hR;obtain ⟨A29,c29,h29,s29⟩:=hR.1;exact bp rfl (aR ak.out (aq h29 aY)) (hadd A29 c29 _ (hT.hp hj.hp) s29) (fun _ _ hq=>⟨_,hq.1,hq.2,rfl⟩)
     refine uW [_,_,_] ?_;refine av ?_;intro f W hJ hV;have hb_8:=hJ.bl;obtain ⟨v31,v30,v29,v28,v27,v26,v25,v24,v23,v22,v21,v20,v19,_⟩:=hV;obtain ⟨A29,c29,e29,f29⟩:Rows _ _ _ (f 10) W:=v29;obtain ⟨A31,c31,e31,f31⟩:Rows _ _ _ (f 12) W:=v31;replace hh:=hJ.hp;refine ay (aQ (aa e31 (aa v30 (aa e29 (aa v28 (aa v27 (aa v26 (aa v25 (aa v24 (aa v23 (aa v22 (aa v21 (aa v20 (aa v19 aw)))))))))))))) ?_;dsimp only [bA];clear e29 e31 hJ;refine bQ hh (i:=0) rfl rfl rfl (f31) bq.out az.out rfl abr (by first|rfl|exact cS _|exact cn _|exact bg _|exact bj NR.one _) abq abq abr ?_;intro A32 c32 w32 hh;simp only [abK] at hh;refine aj ?_;replace hh:=hh.sub (aby _ (aby _ abV));refine ⟨⟨k+1,c32,A32,abq,rfl,rfl, ?_⟩,by show i+1-(k+1+1)<i+1-(k+1);omega, ?_⟩
     ·rw [al e3,bo];exact hh
     ·exact dI
    ·obtain rfl:k=i:=abq;have e3:=na (n:=k+1) (k:=k+1) (abD _);refine aj ?_;refine DM ?_;intro w34 hh;refine rR ?_;intro b35 w35 hh;refine qm ?_;intro A36 c36 w36 hh;simp only [abK,ab9] at hh;replace hh:=hh.sub (acn _ _);refine aj ?_;replace hh:=hh.sub (aby _ (abA _ abV));refine ⟨⟨k+1,c36,A36,abq,rfl,rfl, ?_⟩,by show n-(k+1)<n-k;omega, ?_⟩
     ·have e4:nY (k+1)=(nY (k+1)).take (k+1)++[nR (nD (bin (k+1) (k+1)))]:=by
       rw [←al e3,abG (by rw [Pc];omega)]
      rw [e4,bo,Fe];exact hh
     ·exact dI
  ·obtain rfl:i=n:=abq;exact yT
def yx (ds:List Nat):List Nat:=(List.range (ah ds.reverse)).map fun p=>TX ds.reverse (bB ds.reverse p)
theorem C9 (ds:List Nat) (d:Nat):yx (ds++[d])=(yx ds).flatMap fun x=>(nZ d).map (x* ·):=by
 have hl:∀a∈yx ds,((nZ d).map (a* ·)).length=d+1:=fun a _=>by rw [abH,xt]
 refine acp fun p=> ?_;rw [vQ abq _ _ _ hl];unfold yx;rw [aeF,List.reverse_singleton,List.singleton_append];by_cases hp:p<ah (d::ds.reverse)
 ·have hq:p/(d+1)<ah ds.reverse:=by rw [acN abq,abU];exact hp
  have hr:p % (d+1)≤d:=by have:=ab4 p (show 0<d+1 by omega);omega
  rw [abI,acy hp,abI,acy hq];simp only [adr,adP,abI,vi hr,bB,TX,abU]
 ·have hq:¬p/(d+1)<ah ds.reverse:=by rw [acN abq,abU];exact hp
  rw [abT (by simp;omega),abT (l:=List.map _ _) (by simp;omega)]
  rfl
theorem JK (ds:List Nat):(yx ds).length=ah ds:=by simp [yx,cf]
def KP (ds:List Nat):List NR:=(yx ds).map fun k=>nR (nD k)
theorem Oz:∀(ds row:List Nat),(∀d∈ds,d≤127)→TX ds row≤2^(127*ds.length)
 |[],_,_=>by show 1≤1;exact abD _
 |d::ds,[],_=>by show 1≤_;exact ab7 abr
 |d::ds,r::rs,h=>by
  have h1:bin d r≤2^127:=abW (Cb d r) (ach abr (h d abF));have h2:=Oz ds rs fun x hx=>h x (abN _ hx);rw [TX,ab0,ac5,adD,ab5];exact acR h1 h2
theorem Vw (h:n≤2^m) (hk:m<k):Sz k (nD n):=TB (acB h (Nat.pow_lt_pow_right abr hk))
theorem MP {x:Nat} (h:x∈yx ds) (h1:ds.length≤12) (h2:∀d∈ds,d≤127):Sz 1600 (nD x):=by
 obtain ⟨p,_,rfl⟩:=abL.1 h;have h3:=Oz ds.reverse (bB ds.reverse p) fun d hd=>h2 d (adp.1 hd);exact Vw h3 (by rw [abY];omega)
def Sy (ds:List Nat) (d j:Nat):List Nat:=((yx ds).take j).flatMap fun x=>(nZ d).map (x* ·)
theorem Mo {d x:Nat} (h:(yx ds)[j]?=some x):Sy ds d (j+1)=Sy ds d j++(nZ d).map (x* ·):=by
 unfold Sy;rw [al h,ad9,List.flatMap_singleton]
theorem oP (A:Option Addr) (n c:Nat) (ns:List Nat) (w:World) (hT:dq w) (hS:Sl w A n 1 (bh (a0 ns))) (h12:ns.length≤12) (hlow:∀d∈ns,d≤127) (hmax:ah ns≤4096):
  Calls Tryz.prog 168 #[.slice A n c] w fun r w'=>∃B c',r=.returned (.slice B (ah ns) c')∧w'.ownsRow w.heap.size 33 3 (.slice B (ah ns) c') (ah ns) (ar NR.cells (KP ns))∧Below w.heap.size w w':=by
 have hh:=Hp.start w;have hln:ns.length=n:=by have:=hS.1;simpa [bh,a0] using this
 have hc:=lG ns 1 abr abr hlow;rw [adZ,abx hmax] at hc;have hc1:iZ ((1:Nat):Int) (a0 ns)=iZ 1 (a0 ns):=rfl;rw [hc1] at hc;have hpos:=de ns;have hcnt:=fun w1 hS1=>fk A n c (a0 ns) w1 hS1 abq;rw [hc] at hcnt;refine ae (N:=52) (l:=[.slice A n c]) Tryz.func168 rfl rfl (by simp) ?_;refine aj ?_;refine aZ hh (hcnt _ (hS.ext hh.below)) rfl ?_;intro w16 hh;refine aj ?_;refine DM ?_;intro w19 hh;refine rR ?_;intro Ww w20 hh;refine aj ?_;refine bk [3,5,6,8,10,23,24,25,26,27,28,29,30,31,32,33,34,35,36,37,38,39,40,41,42,43,44,45,46,47,48,49,50] 3 23
  (fun v3 v w'=>∃(i c3:Nat) (B:Option Addr),i≤n∧v=.int .i64 i∧v3=.slice B (ah (ns.take i)) c3∧Hp w [.row B (ah (ns.take i)) c3 33 3 (ar NR.cells (KP (ns.take i)))] w')
  (fun _ v _=>n-(intOf v).toNat) ?_ ?_
 ·exact ⟨0,_,_,abB _,rfl,rfl,hh⟩
 ·clear hh;rintro ρ' v3 v w' ⟨i,c3,B,hi,rfl,rfl,hh⟩;by_cases hlt:i<n
  ·obtain ⟨d,hd⟩:=ai (l:=ns) (k:=i) abq;have hgi:=cM (eA hd);have hd127:=hlow d (abz hd);have htl:(ns.take i).length≤12:=by rw [abP];omega
   have htw:∀d∈ns.take i,d≤127:=fun d hd=>hlow d (adx hd);have hct:=eT ns (i+1);have hct2:=eT ns i;have hstep:ah (ns.take (i+1))=ah (ns.take i)*(d+1):=by rw [al hd,dt];simp [ah]
   have hsnoc:KP (ns.take (i+1))=(Sy (ns.take i) d (ah (ns.take i))).map fun k=>nR (nD k):=by
    unfold KP Sy;rw [al hd,C9,abG (l:=yx (ns.take i)) (by rw [JK];exact abD _)]
   generalize hds:ns.take i=ds at*;generalize hN:ah ds=N at*;obtain ⟨ad,rfl,hr⟩:=hS.at_ abq;refine aj ?_;refine rF ?_;refine aj ?_;replace hh:=hh.cJ 33 3;refine bk [6,8,10,29,30,31,32,33,34,35,36,37,38,39,40,41,42,43,44,45,46,47,48] 6 29
    (fun v6 v w'=>∃(j c6:Nat) (C:Option Addr),j≤N∧v=.int .i64 j∧v6=.slice C (j*(d+1)) c6∧Hp w [.row C (j*(d+1)) c6 33 3 (ar NR.cells ((Sy ds d j).map fun k=>nR (nD k))),.row B N c3 33 3 (ar NR.cells (KP ds))] w')
    (fun _ v _=>N-(intOf v).toNat) ?_ ?_
   ·refine ⟨0,0,none,abB _,rfl, ?_, ?_⟩
    ·rw [ad4];rfl
    ·rw [ad4];exact hh
   ·clear hh;rintro ρ2 v6 v w2 ⟨j,c6,C,hj,rfl,rfl,hh⟩;by_cases hjN:j<N
    ·obtain ⟨x,hx⟩:=ai (l:=yx ds) (k:=j) (by rw [JK];omega);have hx2:(KP ds)[j]?=some (nR (nD x)):=by unfold KP;rw [abI,hx];rfl
     have zx:=MP (abz hx) htl htw;have hj1:(j+1)*(d+1)≤N*(d+1):=acx _ hjN;rw [acD] at hj1;obtain ⟨go,rfl⟩:=hh.bP (i:=1) rfl abq;refine aj ?_;refine bF (vs:=[_,_,_]) az.out rfl (hh.df (f:=NR.cells) (x:=nR (nD x)) (l:=KP ds) (i:=1) rfl NR.len abr hx2) rfl abr ?_;refine bX ?_;intro b8 w8 hh ws hh;refine au (qa d _ (hT.hp hh) hd127) ak.out rfl abr ?_;rintro e_ w34 ⟨A34,c34,rfl,hown_,hb_⟩;refine ⟨_,rfl, ?_⟩;replace hh:=hh.aD (x:=.row _ _ _ _ _ _) hb_ hown_;refine aj ?_;refine bk [6,10,36,37,38,39,40,41,42,43,44,45,46,47] 6 36
      (fun v6 v w'=>∃(k c6:Nat) (C:Option Addr),k≤d+1∧v=.int .i64 k∧v6=.slice C (j*(d+1)+k) c6∧Hp w [.row A34 (d+1) c34 33 3 (ar NR.cells (nY d)),.blk b8 33 [.bool (nR (nD x)).neg,.string (nR (nD x)).aO,.int .i64 (nR (nD x)).e] (0,0),.row C (j*(d+1)+k) c6 33 3 (ar NR.cells ((Sy ds d j++((nZ d).take k).map (x* ·)).map fun k=>nR (nD k))),.row (some ⟨go,0,none⟩) N c3 33 3 (ar NR.cells (KP ds))] w')
      (fun _ v _=>d+1-(intOf v).toNat) ?_ ?_
     ·refine ⟨0,c6,C,abB _,rfl,rfl, ?_⟩;rw [adh,acF,acg];exact hh
     ·clear hh;rintro ρ3 v6 v w3 ⟨k,c6,C,hk,rfl,rfl,hh⟩;by_cases hkd:k<d+1
      ·have hb1:=vi (n:=d) (k:=k) abq;have hb2:=na (n:=d) (k:=k) abq;have zb:=sW d k hd127;have hmul:=fun A cc w1 hT1 hS1=>eC A 2 cc [nR (nD x),nR (nD (bin d k))] w1 hT1 hS1 (by simpa using ⟨zx.ok abq,zb.ok abq⟩) 1600 (by simpa [a6] using ⟨zx,zb.mono abq⟩) abq abq;rw [show gO ([nR (nD x),nR (nD (bin d k))].map NR.d)=nD (x*bin d k) by rw [PA];show 1*(nR (nD x)).d*(nR (nD (bin d k))).d=_;rw [a6,a6,adq]] at hmul;obtain ⟨ga,rfl⟩:=hh.bP (i:=0) rfl abq;refine aj ?_;refine bF (vs:=[_,_,_]) az.out rfl (hh.df (f:=NR.cells) (x:=nR (nD (bin d k))) (l:=nY d) (i:=0) rfl NR.len abr hb2) rfl abr ?_;refine bX ?_;intro b10 w10 hh ws hh;refine qd ?_;intro b43 w43 hh;refine aZ hh (hmul _ _ _ (hT.hp hh) (hh.ao (i:=0) rfl)) rfl ?_;intro w44 hh;refine rR ?_;intro b45 w45 hh;refine Ts ?_;intro A46 c46 w46 hh;simp only [abK,ab9] at hh;replace hh:=hh.sub (acn _ _);refine aj ?_;replace hh:=hh.sub (abA _ (abA _ (aby _ (aby _ (aby _ (aby _ abV))))))
       refine ⟨⟨k+1,c46,A46,abq,rfl,rfl, ?_⟩,by show d+1-(k+1)<d+1-k;omega, ?_⟩
       ·have e:(Sy ds d j++((nZ d).take (k+1)).map (x* ·)).map (fun k=>nR (nD k))=(Sy ds d j++((nZ d).take k).map (x* ·)).map (fun k=>nR (nD k))++[nR (nD (x*bin d k))]:=by rw [al hb1];simp
        rw [e,bo];exact hh
       ·exact dI
      ·obtain rfl:k=d+1:=abq;rw [abG (by rw [xt];omega),←Mo hx] at hh;refine aj ?_;replace hh:=hh.sub (abA _ (abA _ (aby _ (aby _ abV))));refine ⟨⟨j+1,c6,C,abq,rfl, ?_, ?_⟩,by show N-(j+1)<N-j;omega, ?_⟩
       ·rw [acD];rfl
       ·rw [acD];exact hh
       ·exact dI
    ·obtain rfl:j=N:=abq;rw [←hsnoc,←hstep] at hh;rw [←hstep];refine aj ?_;replace hh:=hh.sub (aby _ (abA _ abV));refine ⟨⟨i+1,c6,C,abq,rfl,rfl,hh⟩,by show n-(i+1)<n-i;omega, ?_⟩;exact dI
  ·obtain rfl:i=n:=abq;rw [abG abq] at hh ⊢;exact yT
variable {es:List Nat}
def gG (d r:Nat) (t:Dyadic):Dyadic:=t^r*(1-t)^(d-r)
def iH:List Nat→List Nat→List Dyadic→Dyadic
 |d::ds,r::rs,t::ts=>gG d r t*iH ds rs ts
 |_,_,_=>1
def eS (ds:List Nat) (xs:List Dyadic) (ts:List Dyadic):Dyadic:=sm (List.range (ah ds)) fun p=>(xs[p]?).getD 0*iH ds (bB ds p) ts
def WB (d:Nat) (t:Dyadic) (m:Nat) (xs:List Dyadic):List Dyadic:=(List.range m).map fun q=>sm (List.range (d+1)) fun r=>(xs[r+(d+1)*q]?).getD 0*gG d r t
def XR:List Nat→List Dyadic→List Dyadic→List Dyadic
 |d::ds,t::ts,xs=>XR ds ts (WB d t (ah ds) xs)
 |_,_,xs=>xs
theorem kR (t:Dyadic) (a b:Nat):t^(a+b)=t^a*t^b:=by
 induction b with
 |zero=>rw [acY];grind
 |succ b ih=>rw [←aet];grind
theorem Pp {d e a:Nat} (t:Dyadic) (h1:a≤d) (h2:b≤e):gG (d+e) (a+b) t=gG d a t*gG e b t:=by
 unfold gG;rw [show d+e-(a+b)=(d-a)+(e-b) by omega,kR,kR];grind
theorem El:∀{ds es rs js:List Nat} (ts:List Dyadic),ku ds rs→ku es js→ds.length=es.length→iH (dD ds es) (dD rs js) ts=iH ds rs ts*iH es js ts
 |[],[],[],[],_,_,_,_=>by show (1:Dyadic)=1*1;grind
 |[],_::_,_,_,_,_,_,h=>by simp at h
 |_::_,[],_,_,_,_,_,h=>by simp at h
 |d::ds,e::es,r::rs,j::js,[],_,_,_=>by show (1:Dyadic)=1*1;grind
 |d::ds,e::es,r::rs,j::js,t::ts,h1,h2,h3=>by
  rw [dD,dD,iH,iH,iH,Pp t h1.1 h2.1,El ts h1.2 h2.2 (by simpa using h3)];grind
theorem Qz (L:List (Nat×Dyadic)) (g:Nat→Dyadic) (h:∀q∈L,q.1<N):sm (List.range N) (fun p=>((iV N L)[p]?).getD 0*g p)=sm L fun q=>q.2*g q.1:=by
 have e1:sm (List.range N) (fun p=>((iV N L)[p]?).getD 0*g p)=sm (List.range N) fun p=>sm L fun q=>if p=q.1 then q.2*g q.1 else 0:=by
  refine a9 fun p hp=> ?_;rw [nx _ (ab3.1 hp),acW,←ky];refine a9 fun q _=> ?_;by_cases hq:q.1=p
  ·subst hq;rw [abx rfl,abx rfl]
  ·rw [abw hq,abw fun e=>hq e.symm];grind
 rw [e1,px];refine a9 fun q hq=> ?_;rw [nh,abx (h q hq)]
theorem NQ {ys:List Dyadic} (hl:ds.length=es.length):∀q∈Fm ds es xs ys,q.1<ah (dD ds es):=fun q hq=>by
 unfold Fm at hq;obtain ⟨k,_,hq⟩:=ade.1 hq;obtain ⟨i,_,rfl⟩:=abL.1 hq;exact ke (u9 (iA _ _) (iA _ _) hl)
theorem Ml {ys ts:List Dyadic} (hl:ds.length=es.length):eS (dD ds es) (iV (ah (dD ds es)) (Fm ds es xs ys)) ts=eS ds xs ts*eS es ys ts:=by
 unfold eS;rw [Qz _ (fun p=>iH (dD ds es) (bB (dD ds es) p) ts) (NQ hl)];unfold Fm;rw [Hl,←gI];refine a9 fun k _=> ?_;rw [re,←ky];refine a9 fun i _=> ?_;rw [iw (u9 (iA _ _) (iA _ _) hl),El ts (iA _ _) (iA _ _) hl];grind
theorem Iw (n:Nat) (a b:Dyadic):sm (List.range (n+1)) (fun k=>nD (bin n k)*a^k*b^(n-k))=(a+b)^n:=by
 induction n with
 |zero=>show nD 1*a^0*b^0+0=(a+b)^0;rw [tg];grind
 |succ n ih=>
  have e2:∀k,nD (bin (n+1) (k+1))*a^(k+1)*b^(n+1-(k+1))=nD (bin n k)*a^k*b^(n-k)*a+nD (bin n (k+1))*a^(k+1)*b^(n-k):=fun k=>by
   rw [bin,Cc,show n+1-(k+1)=n-k by omega];grind
  rw [vD,a9 (g:=fun k=>nD (bin n k)*a^k*b^(n-k)*a+nD (bin n (k+1))*a^(k+1)*b^(n-k)) fun k _=>e2 k,Gt,ky,ih,sD];have e3:sm (List.range (n+1)) (fun k=>nD (bin n (k+1))*a^(k+1)*b^(n-k))=sm (List.range n) (fun k=>nD (bin n (k+1))*a^(k+1)*b^(n-(k+1)))*b:=by
   rw [adk,kO,vn (show n<n+1 by omega),ve,←ky];have:∀x y:Dyadic,x+0*y*b^(n-n)=x:=fun x y=>by grind
   rw [this];refine a9 fun k hk=> ?_;have hk2:=ab3.1 hk;rw [show n-k=(n-(k+1))+1 by omega];grind
  have e4:(a+b)^n=nD 1*a^0*b^(n-0)+sm (List.range n) (fun k=>nD (bin n (k+1))*a^(k+1)*b^(n-(k+1))):=by
   rw [←ih,vD,sD]
  rw [e3];have e5:(a+b)^(n+1)=(a+b)^n*a+(a+b)^n*b:=by grind
  rw [e5];generalize hS:sm (List.range n) (fun k=>nD (bin n (k+1))*a^(k+1)*b^(n-(k+1)))=S at*;rw [e4,show n+1-0=n+1 by omega,show n-0=n by omega,tg];grind
theorem It:∀(ds:List Nat) (ts:List Dyadic),ts.length=ds.length→sm (List.range (ah ds)) (fun p=>nD (TX ds (bB ds p))*iH ds (bB ds p) ts)=1
 |[],[],_=>by show nD 1*1+0=1;rw [tg];grind
 |d::ds,t::ts,h=>by
  have ih:=It ds ts (by simpa using h);rw [Bt,a9 (g:=fun q=>(nD (TX ds (bB ds q))*iH ds (bB ds q) ts)*1) fun q _=> ?_]
  ·rw [ky,ih];grind
  ·have hb:=Iw d t (1-t);rw [show t+(1-t)=(1:Dyadic) by grind] at hb;have h1:(1:Dyadic)^d=1:=by
    clear hb ih
    induction d with
    |zero=>grind
    |succ d ih=>grind
   rw [h1] at hb;rw [←hb,←gI];refine a9 fun r hr=> ?_;have hr2:=ab3.1 hr;rw [bB,adF,aci hr2,ac2 _ _ abq,acz hr2,ab2,iH,TX,PA,gG];grind
end Go.Proofs.YtmchncaiffbpaaaGreatDoor
