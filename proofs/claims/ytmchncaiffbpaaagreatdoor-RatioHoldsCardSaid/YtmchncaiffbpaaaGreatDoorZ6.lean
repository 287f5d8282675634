/- Lemmas for ratioHolds, part 6. -/
import Derived.RangeFuncFrom
import Derived.RangeFuncCalls
import Derived.RangeFuncLeaves
import Derived.Shelf.Abstract
import Derived.Test.YtmchncaiffbpaaaGreatDoorZ5
namespace Go.Proofs.YtmchncaiffbpaaaGreatDoor
open Go.RowKit
theorem vA (z:Int) (B:Nat) (q r:Int) (h:r+B*q=z) (h0:0≤r) (h1:r<B):z/B=q:=
 ((Int.ediv_emod_unique Yo).2 ⟨h,h0,h1⟩).1
theorem Ge (s:Bool) (a b:ByteArray) (w:World) (ha:a.size≤10000000) (hb:b.size≤10000000) (hb0:bN b≠0):
  Calls Tryz.prog 125 #[.agg #[.bool s,.string a],.agg #[.bool false,.string b]] w fun e w'=>∃x y,e=.returned (.tuple #[.agg #[.bool (iN (iv s a/bN b)),.string (iM (iv s a/bN b))],.agg #[.bool x,.string y],.bool true])∧Below w.heap.size w w':=by
 have hh:=Hp.start w;have hba:=ik a;have hmod:bN a % bN b<bN b:=YU _ Yo;have hdm:bN b*(bN a/bN b)+bN a % bN b=bN a:=ZJ _ _;have hdm':(bN b:Int)*((bN a/bN b:Nat):Int)+((bN a % bN b:Nat):Int)=(bN a:Int):=by rw [←ZB,←ZQ,hdm]
 have hdv:=fun w1=>BC a b w1 Yo Yo hb0;generalize hq:bN a/bN b=q at*;generalize hr:bN a % bN b=r at*;have hqv:iv false (sN q)=(q:Int):=by unfold iv;rw [gg,Yu (by simp)]
 cases s with
 |false=>
  have e3:iv false a=(bN a:Int):=by unfold iv;rw [Yu (by simp)]
  have q1:=vA (iv false a) (bN b) q r (by rw [e3,←hdm'];omega) Yo Yo;rw [q1];have hfm:=fun w1=>jC false (sN q) w1;rw [hqv] at hfm;refine aj (N:=51) (l:=[.agg #[.bool false,.string a],.agg #[.bool false,.string b]]) Tryz.func125 rfl rfl (by simp) ?_;refine sr ?_;refine bO hh [_,_] ?_;intro b2 w2 hh;refine bO hh [_,_] ?_;intro b3 w3 hh;refine bC hh ?_;intro b4 w4 hh;refine bC hh ?_;intro b5 w5 hh;refine aB (aa (sr (bo ?_)));refine bp hh 3 ?_;refine bo ?_;refine bp hh 2 ?_;refine bj hh (hdv _) rfl ?_;intro w14 hh;refine mT ?_;refine cx ?_;refine cx ?_;refine cx ?_;refine zj ?_;refine ig ?_;refine aa (cF (aq (ai (sr (mS ?_)))));refine fe [_,_] (mS ?_);refine fe [_,_] ?_;refine bg hh 1 [_,_] ?_;intro ws hh;replace hh:Hp _ (_::.blk _ _ [_,_] _::_) _:=hh;refine bg hh 0 [_,_] ?_;intro ws hh;replace hh:Hp _ (.blk _ _ [_,_] _::_) _:=hh;refine aa ?_;replace hh:=show Hp w (.blk b5 31 [.bool false,.string (sN r)] (0,0)::.blk b4 31 [.bool false,.string (sN q)] (0,0)::_) _ from hh;refine ah (sr (bo ?_));refine bp hh 3 ?_;refine mB ?_;refine gS (gS ?_);refine fK ?_;refine yC ?_;refine bp hh 3 ?_;refine bo ?_;refine bp hh 2 ?_;refine qg bG.out rfl rfl Yp ?_
  refine Ce ?_;exact Xv
 |true=>
  have e3:iv true a= -(bN a:Int):=by unfold iv;rw [Yt rfl]
  by_cases hr0:r=0
  ·have hemp:sN r=ByteArray.mk #[]:=by rw [hr0,kE]
   have q1:=vA (iv true a) (bN b) (-(q:Int)) 0 (by rw [e3,←hdm',hr0,abi];omega) Yo Yo;rw [q1];have hng:=fun w1=>j9 false (sN q) w1;have hfm:=fun w1=>jC (iN (-(q:Int))) (iM (-(q:Int))) w1;rw [hqv] at hng;rw [eY] at hfm;refine aj (N:=51) (l:=[.agg #[.bool true,.string a],.agg #[.bool false,.string b]]) Tryz.func125 rfl rfl (by simp) ?_;refine sr ?_;refine bO hh [_,_] ?_;intro b2 w2 hh;refine bO hh [_,_] ?_;intro b3 w3 hh;refine bC hh ?_;intro b4 w4 hh;refine bC hh ?_;intro b5 w5 hh;refine aB (aa (sr (bo ?_)));refine bp hh 3 ?_;refine bo ?_;refine bp hh 2 ?_;refine bj hh (hdv _) rfl ?_;intro w14 hh;refine mT ?_;refine cx ?_;refine cx ?_;refine cx ?_;refine zj ?_;refine ig ?_;refine aa (cF (aq (ai (sr (mS ?_)))));refine fe [_,_] (mS ?_);refine fe [_,_] ?_;refine bg hh 1 [_,_] ?_;intro ws hh;replace hh:Hp _ (_::.blk _ _ [_,_] _::_) _:=hh;refine bg hh 0 [_,_] ?_;intro ws hh;replace hh:Hp _ (.blk _ _ [_,_] _::_) _:=hh;refine aa ?_;replace hh:=show Hp w (.blk b5 31 [.bool false,.string (sN r)] (0,0)::.blk b4 31 [.bool false,.string (sN q)] (0,0)::_) _ from hh;refine ah (sr (bo ?_));refine bp hh 3 ?_;refine mB (gT (mS (gT ?_)))
   (first|refine jD rfl rfl (by first|rfl|assumption|decide) Yp ?_|refine jz rfl rfl (by first|assumption|decide) Yp ?_)
   refine gi ?_;refine yC ?_;refine bp hh 3 ?_;refine bo ?_;refine bp hh 2 ?_;refine qg bG.out rfl rfl Yp ?_;refine aa (cT (ak ?_));refine bJ hh 1 [_,_] ?_;refine bj hh (hng _) rfl ?_;intro w47 hh;refine bg hh 1 [_,_] ?_;intro ws hh;replace hh:Hp _ (_::.blk _ _ [_,_] _::_) _:=hh;refine aa (ah ?_);exact Xv
  ·have hemp:¬sN r=ByteArray.mk #[]:=fun h=>hr0 (Fm (h.trans kE.symm));have q1:=vA (iv true a) (bN b) (-((q:Int)+1)) ((bN b:Int)-(r:Int)) (by rw [e3,←hdm',abi,Int.mul_add];omega) Yo Yo;rw [q1];have hqz:(sN q).size≤10000000:=by rw [kf,←hq];have:=dy (Zr (aaF (bN a) (bN b)) (cR (bN a)));omega
   have hrz:(sN r).size≤10000000:=by rw [kf,←hr];have:=dy (Zr (Nat.mod_le (bN a) (bN b)) (cR (bN a)));omega
   have e1:([IR.mk false (sN q),iR 1].map IR.v).sum=(q:Int)+1:=by
    simp only [Y6,Zv,List.sum_cons,List.sum_nil,Ul];simp only [IR.v,hqv];omega
   have hof:=fun w1=>l9 1 w1 Yp Yp;have had:=fun A w1 h1=>pT A 2 2 [IR.mk false (sN q),iR 1] w1 h1 Yp (by intro x hx;rcases YH.1 hx with rfl|hx;exact (show (sN q).size≤100000000 by omega);rw [YT.1 hx];exact (by decide+kernel));rw [e1] at had;have hsb:=fun w1=>p7 false false b (sN r) w1 Yo Yo;have hng:=fun w1=>j9 (iN ((q:Int)+1)) (iM ((q:Int)+1)) w1;rw [eY] at hng;have hfm:=fun w1=>jC (iN (-((q:Int)+1))) (iM (-((q:Int)+1))) w1;rw [eY] at hfm;refine aj (N:=51) (l:=[.agg #[.bool true,.string a],.agg #[.bool false,.string b]]) Tryz.func125 rfl rfl (by simp) ?_;refine sr ?_;refine bO hh [_,_] ?_;intro b2 w2 hh;refine bO hh [_,_] ?_;intro b3 w3 hh;refine bC hh ?_;intro b4 w4 hh;refine bC hh ?_;intro b5 w5 hh;refine aB (aa (sr (bo ?_)));refine bp hh 3 ?_;refine bo ?_;refine bp hh 2 ?_;refine bj hh (hdv _) rfl ?_;intro w14 hh;refine mT ?_;refine cx ?_;refine cx ?_;refine cx ?_;refine zj ?_;refine ig ?_;refine aa (cF (aq (ai (sr (mS ?_)))));refine fe [_,_] (mS ?_);refine fe [_,_] ?_;refine bg hh 1 [_,_] ?_;intro ws hh;replace hh:Hp _ (_::.blk _ _ [_,_] _::_) _:=hh;refine bg hh 0 [_,_] ?_;intro ws hh
   replace hh:Hp _ (.blk _ _ [_,_] _::_) _:=hh;refine aa ?_;replace hh:=show Hp w (.blk b5 31 [.bool false,.string (sN r)] (0,0)::.blk b4 31 [.bool false,.string (sN q)] (0,0)::_) _ from hh;refine ah (sr (bo ?_));refine bp hh 3 ?_;refine mB (gT (mS (gT ?_)))
   (first|refine jD rfl rfl (by first|rfl|assumption|decide) Yp ?_|refine jz rfl rfl (by first|assumption|decide) Yp ?_)
   refine gi ?_;refine aa (cT (ah ?_));refine aK 2 [[(4,none)],[]] [(1,33),(0,32)] hh mixed Yq ?_;refine dK 1 [_,_] ?_;refine dC (fun _ hj=>hof _) ?_;refine aH ?_;intro f W hJ hV;have hb_6:=hJ.bl;obtain ⟨v33,v32,_⟩:=hV;replace hh:=hJ.hp;refine aN (a6 (ae v33 (ae v32 aO))) ?_;dsimp only [bP];clear hJ;refine y6 ?_;intro b34 w34 hh;refine bj hh (had _ _ (hh.az (i:=0) rfl)) rfl ?_;intro w35 hh;refine bg hh 2 [_,_] ?_;intro ws hh;replace hh:Hp _ (_::_::.blk _ _ [_,_] _::_) _:=hh;refine aa (ak (bo ?_));refine bp hh 3 ?_;refine fe [_,_] ?_;refine bJ hh 1 [_,_] ?_;refine bj hh (hsb _) rfl ?_;intro w40 hh;refine bg hh 1 [_,_] ?_;intro ws hh;replace hh:Hp _ (_::.blk _ _ [_,_] _::_) _:=hh;refine aa (ah (sr (bo ?_)));refine bp hh 4 ?_;refine bo ?_;refine bp hh 3 ?_;refine qg bG.out rfl rfl Yp ?_;refine aa (cT (ak ?_));refine bJ hh 2 [_,_] ?_;refine bj hh (hng _) rfl ?_;intro w47 hh;refine bg hh 2 [_,_] ?_;intro ws hh;replace hh:Hp _ (_::_::.blk _ _ [_,_] _::_) _:=hh;refine aa (ah ?_);refine SM ?_;refine dK 2 [_,_] ?_;refine dC (fun _ hj=>hfm _) ?_;refine dK 1 [_,_] ?_;refine aH ?_;intro p_ hp_
   simp only [YH,ZN,or_false] at hp_
   rcases hp_ with rfl|rfl
   ·intro f W hJ hV;have hb_10:=hJ.bl;obtain ⟨v49,v48,_⟩:=hV;simp only [ix];have e48:f 0=_:=v48;rw [e48];have e49:f 1=_:=v49;rw [e49];replace hh:=hJ.hp;clear e48 e49 hJ;refine bg hh 2 [_,_] ?_;intro ws hh;replace hh:Hp _ (_::_::.blk _ _ [_,_] _::_) _:=hh;refine eA ?_;refine fC (i:=2) Yq rfl ?_;refine bJ hh 1 [_,_] ?_;exact VU
   ·intro f W hJ hV;have hb_10:=hJ.bl;obtain ⟨v50,v49,v48,_⟩:=hV;simp only [ix];have e48:f 0=_:=v48;rw [e48];have e49:f 1=_:=v49;rw [e49];have e50:f 2=_:=v50;rw [e50];replace hh:=hJ.hp;clear e48 e49 e50 hJ;refine bg hh 2 [_,_] ?_;intro ws hh;replace hh:Hp _ (_::_::.blk _ _ [_,_] _::_) _:=hh;exact VU
def vB (a b:NR) (p:Int):Int:=if 0≤a.e-b.e+p then a.i*2^(a.e-b.e+p).toNat else a.i
def vl (a b:NR) (p:Int):Int:=if 0≤a.e-b.e+p then b.i else b.i*2^(-(a.e-b.e+p)).toNat
def Gn (a b:NR) (p:Int):Int:=if vl a b p<0 then -vB a b p / -vl a b p else vB a b p/vl a b p
def EE (x y:Dyadic) (p:Int):Dyadic:=Dyadic.ofIntWithPrec (Gn (nR x) (nR y) p) p
theorem Fy (i j p:Int):Dyadic.ofIntWithPrec i p≤Dyadic.ofIntWithPrec j p↔i≤j:=by
 have h:=mz j i p;constructor
 ·intro h1;have:¬Dyadic.ofIntWithPrec j p<Dyadic.ofIntWithPrec i p:=by grind
  rw [h] at this;omega
 ·intro h1;have:¬Dyadic.ofIntWithPrec j p<Dyadic.ofIntWithPrec i p:=by rw [h];omega
  grind
theorem sy (x y:Dyadic) (p:Int):∃K:Int,x=Dyadic.ofIntWithPrec (vB (nR x) (nR y) p) (p+K)∧y=Dyadic.ofIntWithPrec (vl (nR x) (nR y) p) K:=by
 have hx:=bL x;have hy:=bL y;unfold NR.d at hx hy;generalize nR x=a at*;generalize nR y=b at*;subst hx hy;unfold vB vl;by_cases h:0≤a.e-b.e+p
 ·rw [Yt h,Yt h];exact ⟨-b.e,jk _ Yo,rfl⟩
 ·rw [Yu h,Yu h];exact ⟨-a.e-p,Ze _ Yo,jk _ Yo⟩
theorem H4 {x y:Dyadic} (p:Int) (hy:0<y):EE x y p*y≤x:=by
 obtain ⟨K,h1,h2⟩:=sy x y p;unfold EE Gn;generalize vB (nR x) (nR y) p=M at*;generalize vl (nR x) (nR y) p=D at*;have hD:0<D:=by
  rw [h2,←iF K,mz] at hy;exact hy
 rw [Yu Yo,h1,h2,oW,Fy];exact Int.ediv_mul_le M Yo
theorem He {x y:Dyadic} (p:Int) (hy:y<0):x≤EE x y p*y:=by
 obtain ⟨K,h1,h2⟩:=sy x y p;unfold EE Gn;generalize vB (nR x) (nR y) p=M at*;generalize vl (nR x) (nR y) p=D at*;have hD:D<0:=by
  rw [h2,←iF K,mz] at hy;exact hy
 rw [Yt hD,h1,h2,oW,Fy];have h3:=Int.ediv_mul_le (-M) (b:= -D) Yo;rw [abi] at h3;omega
variable {k:Nat}
structure SR where
 lo:NR
 hi:NR
def SR.cells (s:SR):List Value:=[.bool s.lo.neg,.string s.lo.aY,.int .i64 s.lo.e,.bool s.hi.neg,.string s.hi.aY,.int .i64 s.hi.e]
theorem SR.len (s:SR):(SR.cells s).length=6:=rfl
theorem SR.one (s:SR):(SR.cells s).all Value.oneCell'=true:=rfl
def UQ (x y:Dyadic):Dyadic:=if y<x then y else x
def UP (x y:Dyadic):Dyadic:=if x<y then y else x
theorem MK (x y:Dyadic):gM (fun x y=>decide (x<y)) [x,y]=UQ x y:=by simp [gM,UQ]
theorem Mq (x y:Dyadic):gM (fun x y=>decide (y<x)) [x,y]=UP x y:=by simp [gM,UP]
def SR.L (s:SR):Dyadic:=UQ s.lo.d s.hi.d
def SR.H (s:SR):Dyadic:=UP s.lo.d s.hi.d
def SR.f (s:SR):SR:=⟨nR s.L,nR s.H⟩
def SR.ok (s:SR):Prop:=s.lo.ok∧s.hi.ok
def SR.has (s:SR) (x:Dyadic):Bool:=decide (¬x<s.L∧¬s.H<x)
def SR.wid (s:SR):Dyadic:=s.H-s.L
def SR.Bn (s:SR):Dyadic:=(s.lo.d+s.hi.d)*ir (-1)
theorem Uz (x y:Dyadic):UQ x y=x∨UQ x y=y:=by unfold UQ;split<;>simp
theorem Uf (x y:Dyadic):UP x y=x∨UP x y=y:=by unfold UP;split<;>simp
structure xY (k:Nat) (a:NR):Prop where
 ok:a.ok
 sz:Sz k a.d
def SR.fin (k:Nat) (s:SR):Prop:=xY k s.lo∧xY k s.hi
theorem xY.of {x:Dyadic} (h:Sz k x) (hk:k≤3000000):xY k (nR x):=⟨h.ok Yo,by rw [bL];exact h⟩
theorem SR.U8 {s:SR} (h:s.fin k):Sz k s.L:=by
 unfold SR.L
 rcases Uz s.lo.d s.hi.d with e|e<;>rw [e]
 ·exact h.1.sz
 ·exact h.2.sz
theorem SR.WB {s:SR} (h:s.fin k):Sz k s.H:=by
 unfold SR.H
 rcases Uf s.lo.d s.hi.d with e|e<;>rw [e]
 ·exact h.1.sz
 ·exact h.2.sz
theorem SR.GP {s:SR} (h:s.fin k) (hk:k≤3000000):s.f.fin k:=⟨xY.of (SR.U8 h) hk,xY.of (SR.WB h) hk⟩
theorem wh (L:Option Addr) (n c:Nat) (l:List NR) (w:World) (hT:dP w) (hS:Sl w L n 3 (aA NR.cells l)) (hl:∀a∈l,a.ok) (hn:n≤1000000):
  Calls Tryz.prog 77 #[.slice L n c] w fun r w'=>r=.returned (.agg (SR.cells ⟨nR (gM (fun x y=>decide (x<y)) (l.map NR.d)),nR (gM (fun x y=>decide (y<x)) (l.map NR.d))⟩).toArray)∧Below w.heap.size w w':=by
 have hh:=Hp.start w;refine aj (N:=8) (l:=[.slice L n c]) Tryz.func77 rfl rfl (by simp) ?_;refine sr ?_;refine bC hh ?_;intro b2 w2 hh;refine aa (sr (mL ?_));refine bj hh (Gu L n c l _ (hT.hp hh) (hS.ext hh.below) hl hn) rfl ?_;intro w4 hh;refine mL ?_;refine bj hh (FZ L n c l _ (hT.hp hh) (hS.ext hh.below) hl hn) rfl ?_;intro w6 hh;refine fe [_,_,_,_,_,_] ?_;exact Uv
theorem vv (s:SR) (w:World) (hT:dP w) (hs:s.ok):
  Calls Tryz.prog 113 #[.agg s.cells.toArray] w fun r w'=>r=.returned (.agg s.f.cells.toArray)∧Below w.heap.size w w':=by
 have hh:=Hp.start w;have hc:=fun L c w1 hT1 hS1=>wh L 2 c [s.lo,s.hi] w1 hT1 hS1 (by simpa using show s.lo.ok∧s.hi.ok from hs) Yo;simp only [Y6,Zv,MK,Mq] at hc;refine aj (N:=10) (l:=[.agg s.cells.toArray]) Tryz.func113 rfl rfl (by simp) ?_;refine sr ?_;refine bO hh [_,_,_,_,_,_] ?_;intro b1 w1 hh;refine bC hh ?_;intro b2 w2 hh;refine aa (sr (bo ?_));refine bJ hh 1 [_,_,_] (bo ?_);refine bJ hh 1 [_,_,_] ?_;refine rF ?_;intro b7 w7 hh;refine bj hh (hc _ _ _ (hT.hp hh) (hh.az (i:=0) rfl)) rfl ?_;intro w8 hh;refine fe [_,_,_,_,_,_] ?_;exact VC
theorem z9 (s:SR) (w:World) (hT:dP w) (hs:s.ok):
  Calls Tryz.prog 157 #[.agg s.cells.toArray] w fun r w'=>r=.returned (.agg s.f.cells.toArray)∧Below w.heap.size w w':=by
 have hh:=Hp.start w;refine aj (N:=6) (l:=[.agg s.cells.toArray]) Tryz.func157 rfl rfl (by simp) ?_;refine sr ?_;refine bO hh [_,_,_,_,_,_] ?_;intro b1 w1 hh;refine bC hh ?_;intro b2 w2 hh;refine aa (sr ?_);refine bJ hh 1 [_,_,_,_,_,_] ?_;refine bj hh (vv s _ (hT.hp hh) hs) rfl ?_;intro w4 hh;refine Pm fB.out aJ.out rfl rfl Yp ?_;exact Uv
theorem pF (s:SR) (k:Nat) (w:World) (hT:dP w) (hs:s.fin k) (hk:k≤3000000):
  Calls Tryz.prog 64 #[.agg s.cells.toArray] w fun r w'=>r=.returned (.agg #[.bool (nR s.wid).neg,.string (nR s.wid).aY,.int .i64 (nR s.wid).e])∧Below w.heap.size w w':=by
 have hh:=Hp.start w;have hf:=SR.GP hs hk;have hc:=fun w1 hT1=>nc (nR s.H) (nR s.L) w1 hT1 hf.2.ok hf.1.ok k hf.2.sz hf.1.sz Yo;simp only [bL] at hc;refine aj (N:=13) (l:=[.agg s.cells.toArray]) Tryz.func64 rfl rfl (by simp) ?_;refine sr ?_;refine bO hh [_,_,_,_,_,_] ?_;intro b1 w1 hh;refine bC hh ?_;intro b2 w2 hh;refine aa (sr ?_);refine bJ hh 1 [_,_,_,_,_,_] ?_;refine bj hh (vv s _ (hT.hp hh) ⟨hs.1.ok,hs.2.ok⟩) rfl ?_;intro w5 hh;refine bC hh ?_;intro b3 w3 hh;refine bg hh 0 [_,_,_,_,_,_] ?_;intro ws hh;replace hh:Hp _ (.blk _ _ [_,_,_,_,_,_] _::_) _:=hh;refine aa (sr (bo (bo ?_)));refine bJ hh 0 [_,_,_] (bo (bo ?_));refine bJ hh 0 [_,_,_] ?_;refine bj hh (hc _ (hT.hp hh)) rfl ?_;intro w12 hh;exact K5
theorem CJ (s:SR) (k:Nat) (w:World) (hT:dP w) (hs:s.fin k) (hk:k≤3000000):
  Calls Tryz.prog 158 #[.agg s.cells.toArray] w fun r w'=>r=.returned (.agg #[.bool (nR s.Bn).neg,.string (nR s.Bn).aY,.int .i64 (nR s.Bn).e])∧Below w.heap.size w w':=by
 have hh:=Hp.start w;have hc:=fun L c w1 hT1 hS1=>iH L 2 c [s.lo,s.hi] w1 hT1 hS1 (by simpa using And.intro hs.1.ok hs.2.ok) k (by simpa using And.intro hs.1.sz hs.2.sz) Yo;simp only [Y6,Zv,ki] at hc;have ho:=(hs.1.sz.add hs.2.sz).ok Yo;have hsh:=fun w1 hT1=>ng (nR (s.lo.d+s.hi.d)) (-1) w1 hT1 (by have:=ho.1;omega) (by have:=ho.2;omega) (by have:=ho.2;omega) Yo Yo;rw [bL] at hsh;refine aj (N:=10) (l:=[.agg s.cells.toArray]) Tryz.func158 rfl rfl (by simp) ?_;refine sr ?_;refine bO hh [_,_,_,_,_,_] ?_;intro b1 w1 hh;refine bC hh ?_;intro b2 w2 hh;refine aa (sr (bo ?_));refine bJ hh 1 [_,_,_] (bo ?_);refine bJ hh 1 [_,_,_] ?_;refine rF ?_;intro b7 w7 hh;refine bj hh (hc _ _ _ (hT.hp hh) (hh.az (i:=0) rfl)) rfl ?_;intro w8 hh;refine bj hh (hsh _ (hT.hp hh)) rfl ?_;intro w9 hh;exact K5
variable {N n:Nat}{P:Program}{w:World}{ρ:Rf}
theorem J6 {ro:Mode}{Q:Kq}{a c:Code} (mods:List Nat) (s0 s1:Nat) (J:Value→Value→World→Prop) (hc:WC ro P N a (cM (fun ρ2 w2=>J (ρ2 s0) (ρ2 s1) w2∧iI mods ρ2 ρ) Q) ρ w) (hn:∀ρ' v0 v1 w',J v0 v1 w'→WC ro P N c Q (cP (cP (mask mods ρ' ρ) s0 v0) s1 v1) w'):WC ro P N (.seq a c) Q ρ w:=
 ah (hc.mono fun e ρ2 w2 hq=>by
  cases e with
  |normal=>
   have:=hn ρ2 (ρ2 s0) (ρ2 s1) w2 hq.1;rwa [iO hq.2,fy,fy] at this
  |_=>exact hq)
theorem j7 (z:Int) (k:Nat):bE (z*2^k).natAbs≤bE z.natAbs+k:=by
 rw [aan,aaN];exact iQ _ _
theorem DK (s:Bool) (a:ByteArray) (d:Nat) (h:a.size≤n):(iM (iv s a/(d:Int))).size≤n:=by
 have h1:=ij s a;have h3:bE (iv s a/(d:Int)).natAbs≤bE (iv s a).natAbs:=dy (Zr (abd _ _) (cR _));rw [dL];omega
theorem T1 {x y:Dyadic}{p:Int} (h0:y≠0):vl (nR x) (nR y) p≠0:=fun h=>by
 obtain ⟨K,_,h2⟩:=sy x y p;rw [h,iF] at h2;exact h0 h2
theorem s8 (x y:Dyadic) (p:Int) (w:World) (hT:dP w) (hx:(nR x).ok) (hy:(nR y).ok) (h0:y≠0) (hp1: -1000≤p) (hp2:p≤1000):
  Calls Tryz.prog 76 #[.agg #[.bool (nR x).neg,.string (nR x).aY,.int .i64 (nR x).e],.agg #[.bool (nR y).neg,.string (nR y).aY,.int .i64 (nR y).e],.int .i64 p] w fun r w'=>r=.returned (.agg #[.bool (nR (EE x y p)).neg,.string (nR (EE x y p)).aY,.int .i64 (nR (EE x y p)).e])∧Below w.heap.size w w':=by
 have hh:=Hp.start w;have hD0:=T1 (x:=x) (p:=p) h0;unfold EE;have ba:=ij (nR x).neg (nR x).aY;have bb:=ij (nR y).neg (nR y).aY;obtain ⟨a1,a2,a3⟩:=hx;obtain ⟨c1,c2,c3⟩:=hy;generalize nR x=a at*;generalize nR y=b at*;obtain ⟨n,hn⟩:∃n,n=a.e-b.e+p:=⟨_,rfl⟩;have hsa:=fun w1 hT1=>kz a.neg a.aY n w1 hT1 Yo Yo Yo;have hsb:=fun w1 hT1=>kz b.neg b.aY (-n) w1 hT1 Yo Yo Yo;refine aj (N:=51) (l:=[.agg #[.bool a.neg,.string a.aY,.int .i64 a.e],.agg #[.bool b.neg,.string b.aY,.int .i64 b.e],.int .i64 p]) Tryz.func76 rfl rfl (by simp) ?_;refine sr ?_;refine bO hh [_,_,_] ?_;intro b3 w3 hh;refine bO hh [_,_,_] ?_;intro b4 w4 hh;refine bC hh ?_;intro b6 w6 hh;refine aa (sr (bo ?_));refine bp hh 2 ?_;refine bo ?_;refine bp hh 1 ?_;refine ee (mI ?_);refine a8 (aI (aa ?_));rw [←hn];refine J6 [8,9,20,21,22,23] 8 9
  (fun u v w'=>∃b8 b9,u=.pointer (some ⟨b8,0,none⟩)∧v=.pointer (some ⟨b9,0,none⟩)∧Hp w [.blk b9 31 [.bool b.neg,.string b.aY] (0,0),.blk b8 31 [.bool a.neg,.string a.aY] (0,0),.blk b6 33 [.bool false,.string (ByteArray.mk #[]),.int .i64 0] (0,0)] w') ?_ ?_
 ·refine FI [4,5] [2,3] [0,1,0,4,0,0,51,127] 6 [[(3,none)],[(20,some 0)],[(4,none)],[(22,some 2)],[],[]] [(5,9),(4,8),(3,23),(2,22),(1,21),(0,20)] [([],3,[(5,9),(4,8),(1,21),(0,20)]),([2],2,[(5,9),(4,8),(2,22),(1,21),(0,20)]),([2,3],1,[(5,9),(4,8),(3,23),(2,22),(1,21),(0,20)])] hh mixed Yq Yq Yp (j3 rfl aJ.out (j3 rfl aJ.out eI)) rfl ?_;refine dR ?_;refine dK 2 [_,_] ?_;refine dR ?_;refine dK 1 [_,_] ?_;refine a7 (i:=4) (cw _ 31 _) cw.ext (fun ρ1 w1 hj hR=>iJ aJ.out hj.bl (fun v w2 h hb=>⟨hb,h⟩)) ?_;refine a7 (i:=5) (cw _ 31 _) cw.ext (fun ρ1 w1 hj hR=>iJ aJ.out hj.bl (fun v w2 h hb=>⟨hb,h⟩)) ?_;refine aH ?_;intro p_ hp_;simp only [YH,ZN,or_false] at hp_
  rcases hp_ with rfl|rfl|rfl
  ·intro f W hJ hV hD;have hb_2:=hJ.bl;obtain ⟨v9,v8,v21,v20,_⟩:=hV;simp only [ix];have e20:f 0=_:=v20;rw [e20];have e21:f 1=_:=v21;rw [e21];obtain ⟨b8,e8,hl8,hc8⟩:cw _ _ _ (f 4) W:=v8;obtain ⟨b9,e9,hl9,hc9⟩:cw _ _ _ (f 5) W:=v9;have hne:=Af (hD 4 Yp 5 Yp Yp Yp Yp) e8 e9;replace hh:=hJ.Bq hh hl8 hc8 hl9 hc9 hne;clear hD hne;rw [e8,e9];clear e20 e21 e8 e9 hJ;refine bg hh 1 [_,_] ?_;intro ws hh;replace hh:Hp _ (_::.blk _ _ [_,_] _::_) _:=hh;refine eA ?_;refine fC (i:=2) Yq rfl ?_;refine bo ?_;exact R5
  ·intro f W hJ hV hD;have hb_2:=hJ.bl;obtain ⟨v9,v8,v22,v21,v20,_⟩:=hV;simp only [ix];have e20:f 0=_:=v20;rw [e20];have e21:f 1=_:=v21;rw [e21];have e22:f 2=_:=v22;rw [e22];obtain ⟨b8,e8,hl8,hc8⟩:cw _ _ _ (f 4) W:=v8;obtain ⟨b9,e9,hl9,hc9⟩:cw _ _ _ (f 5) W:=v9;have hne:=Af (hD 4 Yp 5 Yp Yp Yp Yp) e8 e9;replace hh:=hJ.Bq hh hl8 hc8 hl9 hc9 hne;clear hD hne;rw [e8,e9];clear e20 e21 e22 e8 e9 hJ;refine bg hh 1 [_,_] ?_;intro ws hh;replace hh:Hp _ (_::.blk _ _ [_,_] _::_) _:=hh;exact R5
  ·intro f W hJ hV hD;have hb_2:=hJ.bl;obtain ⟨v9,v8,v23,v22,v21,v20,_⟩:=hV;simp only [ix];have e20:f 0=_:=v20;rw [e20];have e21:f 1=_:=v21;rw [e21];have e22:f 2=_:=v22;rw [e22];have e23:f 3=_:=v23;rw [e23];obtain ⟨b8,e8,hl8,hc8⟩:cw _ _ _ (f 4) W:=v8;obtain ⟨b9,e9,hl9,hc9⟩:cw _ _ _ (f 5) W:=v9;have hne:=Af (hD 4 Yp 5 Yp Yp Yp Yp) e8 e9;replace hh:=hJ.Bq hh hl8 hc8 hl9 hc9 hne;clear hD hne;rw [e8,e9];clear e20 e21 e22 e23 e8 e9 hJ;refine bg hh 1 [_,_] ?_;intro ws hh;replace hh:Hp _ (_::.blk _ _ [_,_] _::_) _:=hh;exact Vh
 ·rintro ρ' _ _ w' ⟨b8,b9,rfl,rfl,hh⟩;refine oQ [24,25,26,27,28,29,30,31,32]
   (fun w'=>∃s1 m1 s2 m2,Hp w [.blk b9 31 [.bool s2,.string m2] (0,0),.blk b8 31 [.bool s1,.string m1] (0,0),.blk b6 33 [.bool false,.string (ByteArray.mk #[]),.int .i64 0] (0,0)] w'∧iv s1 m1=vB a b p∧iv s2 m2=vl a b p∧m1.size≤9000000∧m2.size≤9000000) ?_ ?_
  ·by_cases h0:0≤n
   ·refine sr (mI ?_);refine dF (aa (cT (ak ?_)));refine bJ hh 1 [_,_] (mI ?_);refine bj hh (hsa _ (hT.ext hh.below)) rfl ?_;intro w28 hh;refine bg hh 1 [_,_] ?_;intro ws hh;replace hh:Hp _ (_::.blk _ _ [_,_] _::_) _:=hh;refine aa ?_;refine ⟨⟨_,_,_,_,hh, ?_, ?_, ?_, ?_⟩, ?_⟩
    ·rw [eY];unfold vB BJ;rw [←hn,Yt h0,Yt h0];rfl
    ·unfold vl;rw [←hn,Yt h0];rfl
    ·rw [dL,BJ,Yt h0];have:=j7 (iv a.neg a.aY) n.toNat;omega
    ·omega
    ·repeat refine dx rfl ?_
     exact fun _ _=>rfl
   ·refine sr (mI ?_);refine dF (aa (cF (ak ?_)));refine bJ hh 0 [_,_] (mI ?_);refine zi ?_;refine bj hh (hsb _ (hT.ext hh.below)) rfl ?_;intro w32 hh;refine bg hh 0 [_,_] ?_;intro ws hh;replace hh:Hp _ (.blk _ _ [_,_] _::_) _:=hh;refine aa ?_;refine ⟨⟨_,_,_,_,hh, ?_, ?_, ?_, ?_⟩, ?_⟩
    ·unfold vB;rw [←hn,Yu h0];rfl
    ·rw [eY];unfold vl BJ;rw [←hn,Yu h0,Yt Yo];rfl
    ·omega
    ·rw [dL,BJ,Yt Yo];have:=j7 (iv b.neg b.aY) (-n).toNat;omega
    ·repeat refine dx rfl ?_
     exact fun _ _=>rfl
  ·rintro ρ' w' ⟨s1,m1,s2,m2,hh,e1,e2,z1,z2⟩;rw [←e2] at hD0;unfold Gn;rw [←e1,←e2];refine oQ [33,34,35,36,37,38,39]
    (fun w'=>∃s1' m1' m2',Hp w [.blk b9 31 [.bool false,.string m2'] (0,0),.blk b8 31 [.bool s1',.string m1'] (0,0),.blk b6 33 [.bool false,.string (ByteArray.mk #[]),.int .i64 0] (0,0)] w'∧(if iv s2 m2<0 then -iv s1 m1 / -iv s2 m2 else iv s1 m1/iv s2 m2)=iv s1' m1'/bN m2'∧bN m2'≠0∧m1'.size≤9000000∧m2'.size≤9000000) ?_ ?_
   ·by_cases hD:iv s2 m2<0
    ·have hs:(iv s2 m2).sign= -1:=Z1 hD;have hng:=fun w1=>j9 s1 m1 w1;have hng2:=fun w1=>j9 s2 m2 w1;have ef:iN (-(iv s2 m2))=false:=by unfold iN;exact YS Yo
     have eb:(bN (iM (-(iv s2 m2))):Int)= -(iv s2 m2):=by
      have:=eY (-(iv s2 m2));rw [ef] at this;exact this
     rw [ef] at hng2;refine sr ?_;refine bJ hh 0 [_,_] ?_;refine bj hh (jF s2 m2 _) rfl ?_;intro w34 hh;rw [hs];refine a9 (aa (cT ?_));refine aK 3 [[(8,none)],[(36,some 0)],[(9,none)]] [(2,38),(1,37),(0,36)] hh mixed Yq ?_;refine dK 1 [_,_] ?_;refine dC (fun _ hj=>hng _) ?_;refine dK 0 [_,_] ?_;refine aH ?_;intro f W hJ hV;have hb_7:=hJ.bl;obtain ⟨v38,v37,v36,_⟩:=hV;replace hh:=hJ.hp;refine aN (a6 (ae v38 (ae v37 (ae v36 aO)))) ?_;dsimp only [bP];clear hJ;refine bj hh (hng2 _) rfl ?_;intro w39 hh;refine bg hh 1 [_,_] ?_;intro ws hh;replace hh:Hp _ (_::.blk _ _ [_,_] _::_) _:=hh;refine bg hh 0 [_,_] ?_;intro ws hh;replace hh:Hp _ (.blk _ _ [_,_] _::_) _:=hh;refine aa ?_;refine ⟨⟨_,_,_,hh, ?_, ?_, ?_, ?_⟩, ?_⟩
     ·rw [Yt hD,eY,eb]
     ·omega
     ·exact Y1 (lK _ _) z1
     ·exact Y1 (lK _ _) z2
     ·repeat refine dx rfl ?_
      exact fun _ _=>rfl
    ·have hp:0<iv s2 m2:=Yo;have hs:(iv s2 m2).sign=1:=Z8 hp
     cases s2 with
     |true=>unfold iv at hp;rw [Yt rfl] at hp;omega
     |false=>
      have eb:iv false m2=(bN m2:Int):=rfl;refine sr ?_;refine bJ hh 0 [_,_] ?_;refine bj hh (jF false m2 _) rfl ?_;intro w34 hh;rw [hs];refine a9 (aa (cF (aq (ai ?_))));refine ⟨⟨_,_,_,hh, ?_, ?_, ?_, ?_⟩, ?_⟩
      ·rw [Yu hD,eb]
      ·omega
      ·exact z1
      ·exact z2
      ·repeat refine dx rfl ?_
       exact fun _ _=>rfl
   ·rintro ρ' w' ⟨s3,m3,m4,hh,e3,hb0,z3,z4⟩;rw [e3];refine sr ?_;refine bJ hh 1 [_,_] ?_;refine bJ hh 0 [_,_] ?_;refine ay (Ge s3 m3 m4 _ Yo Yo hb0) au.out rfl Yp ?_;rintro e_ w43 ⟨x,y,rfl,hb_⟩;refine ⟨_,rfl, ?_⟩;replace hh:=hh.ext hb_;refine mT ?_;refine cx ?_;refine cx ?_;refine cx ?_;refine bC hh ?_;intro b10 w10 hh;refine bC hh ?_;intro b11 w11 hh;refine bg hh 1 [_,_] ?_;intro ws hh;replace hh:Hp _ (_::.blk _ _ [_,_] _::_) _:=hh;refine bg hh 0 [_,_] ?_;intro ws hh;replace hh:Hp _ (.blk _ _ [_,_] _::_) _:=hh;refine aB (aa (sr ?_));refine bJ hh 1 [_,_] (mI ?_);refine zi ?_;have hq:(iM (iv s3 m3/bN m4)).size≤9000000:=DK s3 m3 _ z3;refine bj hh (gH (iN (iv s3 m3/bN m4)) (iM (iv s3 m3/bN m4)) (-p) _ (hT.hp hh) Yo Yo Yo) rfl ?_;intro w50 hh;refine bg hh 4 [_,_,_] ?_;intro ws hh;replace hh:Hp _ (_::_::_::_::.blk _ _ [_,_,_] _::_) _:=hh;refine aa (av ?_);refine JN (cj rfl (cf (vs:=[_,_,_]) aJ.out (hh.aQ (i:=4) (n:=3) rfl rfl) rfl) dw) ?_;exact ⟨by rw [eY,Int.neg_neg],hh.below⟩
def JW (x y:Dyadic) (p:Int):SR:=⟨nR (EE x y p),nR (-EE (-x) y p)⟩
theorem Jd (a b:NR) (p:Int) (w:World) (hT:dP w) (ha:a.ok) (hb:b.ok) (hx:(nR a.d).ok) (hx':(nR (-a.d)).ok) (hy:(nR b.d).ok) (h0:b.d≠0) (hq:(nR (EE (-a.d) b.d p)).ok) (hp1: -1000≤p) (hp2:p≤1000):
  Calls Tryz.prog 35 #[.agg #[.bool a.neg,.string a.aY,.int .i64 a.e],.agg #[.bool b.neg,.string b.aY,.int .i64 b.e],.int .i64 p] w fun r w'=>r=.returned (.tuple #[.agg (SR.cells (JW a.d b.d p)).toArray,.int .i64 0])∧Below w.heap.size w w':=by
 have hh:=Hp.start w;obtain ⟨a1,a2,a3⟩:=ha;obtain ⟨c1,c2,c3⟩:=hb;have ht:=fun w1 hT1=>eo a w1 hT1 Yo Yo Yo;have ht2:=fun w1 hT1=>eo b w1 hT1 Yo Yo Yo;have hs0:¬(nR b.d).i.sign=0:=fun h=>by
  rw [NR.sign,bL] at h;have h1:=(uo b.d 0);have h2:=(rO b.d 0);rw [h] at h1 h2;have h3:¬b.d<0:=fun h=>absurd (h1.2 h) Yp;have h4:¬0<b.d:=fun h=>absurd (h2.2 h) Yp;exact h0 (by grind)
 have hn1:=fun w1 hT1=>j8 (nR a.d) w1 hT1 (by have:=hx.1;omega) (by have:=hx.2.1;omega) (by have:=hx.2.2;omega);have hn2:=fun w1 hT1=>j8 (nR (EE (-a.d) b.d p)) w1 hT1 (by have:=hq.1;omega) (by have:=hq.2.1;omega) (by have:=hq.2.2;omega);rw [bL] at hn1 hn2;have hl1:=fun w1 hT1=>s8 a.d b.d p w1 hT1 hx hy h0 hp1 hp2;have hl2:=fun w1 hT1=>s8 (-a.d) b.d p w1 hT1 hx' hy h0 hp1 hp2;refine aj (N:=27) (l:=[.agg #[.bool a.neg,.string a.aY,.int .i64 a.e],.agg #[.bool b.neg,.string b.aY,.int .i64 b.e],.int .i64 p]) Tryz.func35 rfl rfl (by simp) ?_;refine sr ?_;refine bO hh [_,_,_] ?_;intro b3 w3 hh;refine bO hh [_,_,_] ?_;intro b4 w4 hh;refine bC hh ?_;intro b6 w6 hh;refine aI (aa (ah ?_));refine aK 3 [[(3,none)],[(8,some 0)],[(4,none)]] [(2,10),(1,9),(0,8)] hh mixed Yq ?_;refine dK 2 [_,_,_] ?_;refine dC (fun _ hj=>ht _ (hT.hp hj.hp)) ?_;refine dK 1 [_,_,_] ?_;refine aH ?_;intro f W hJ hV;have hb_1:=hJ.bl;obtain ⟨v10,v9,v8,_⟩:=hV;replace hh:=hJ.hp;refine aN (a6 (ae v10 (ae v9 (ae v8 aO)))) ?_;dsimp only [bP];clear hJ;refine bj hh (ht2 _ (hT.hp hh)) rfl ?_;intro w11 hh;refine bg hh 2 [_,_,_] ?_;intro ws hh
 replace hh:Hp _ (_::_::.blk _ _ [_,_,_] _::_) _:=hh;refine bg hh 1 [_,_,_] ?_;intro ws hh;replace hh:Hp _ (_::.blk _ _ [_,_,_] _::_) _:=hh;refine aa (ah (sr ?_));refine bJ hh 1 [_,_,_] ?_;refine bj hh (cL (nR b.d) _) rfl ?_;intro w13 hh;refine cH (aa (cF (aq (ai (ah ?_)))));refine aK 8 [[(3,none)],[(4,none)],[(2,none)],[(16,some 0),(17,some 1),(18,some 2)],[(3,none)],[(20,some 4)],[(4,none)],[(2,none)]] [(7,23),(6,22),(5,21),(4,20),(3,19),(2,18),(1,17),(0,16)] hh mixed Yq ?_;refine dK 2 [_,_,_] ?_;refine dK 1 [_,_,_] ?_;refine dJ ?_;refine dC (fun _ hj=>hl1 _ (hT.hp hj.hp)) ?_;refine dK 2 [_,_,_] ?_;refine dC (fun _ hj=>hn1 _ (hT.hp hj.hp)) ?_;refine dK 1 [_,_,_] ?_;refine dJ ?_;refine aH ?_;intro f W hJ hV;have hb_4:=hJ.bl;obtain ⟨v23,v22,v21,v20,v19,v18,v17,v16,_⟩:=hV;replace hh:=hJ.hp;refine aN (a6 (ae v23 (ae v22 (ae v21 (ae v20 (ae v19 (ae v18 (ae v17 (ae v16 aO))))))))) ?_;dsimp only [bP];clear hJ;refine bj hh (hl2 _ (hT.hp hh)) rfl ?_;intro w24 hh;refine bj hh (hn2 _ (hT.hp hh)) rfl ?_;intro w25 hh;refine fe [_,_,_,_,_,_] ?_;refine bg hh 0 [_,_,_,_,_,_] ?_;intro ws hh
 replace hh:Hp _ (.blk _ _ [_,_,_,_,_,_] _::_) _:=hh;refine aI (aa (av ?_));refine Ib (cj rfl (cf (vs:=[_,_,_,_,_,_]) aJ.out (hh.aQ (i:=0) (n:=6) rfl rfl) rfl) (eB (fg rfl) dw)) ?_;exact ⟨rfl,hh.below⟩
def pw (l:List SR):List NR:=l.flatMap fun s=>[s.lo,s.hi]
def lR (l:List SR):SR:=⟨nR (gM (fun x y=>decide (x<y)) ((pw l).map NR.d)),nR (gM (fun x y=>decide (y<x)) ((pw l).map NR.d))⟩
theorem u5 (L:Option Addr) (n c:Nat) (l:List SR) (w:World) (hT:dP w) (hS:Sl w L n 6 (aA SR.cells l)) (hl:∀s∈l,s.ok) (hn:n≤100000):
  Calls Tryz.prog 36 #[.slice L n c] w fun r w'=>r=.returned (.agg (SR.cells (lR l)).toArray)∧Below w.heap.size w w':=by
 have hh:=Hp.start w;have hln:=hS.bk SR.len Yp;have hof:=fun A c' w1 hT1 hS1=>wh A (2*n) c' (pw l) w1 hT1 hS1 (fun a ha=>by
  obtain ⟨s,hs,ha⟩:=aak.1 ha
  rcases YH.1 ha with rfl|ha
  ·exact (hl s hs).1
  ·rw [YT.1 ha];exact (hl s hs).2) Yo
 refine aj (N:=22) (l:=[.slice L n c]) Tryz.func36 rfl rfl (by simp) ?_;refine sr ?_;refine bC hh ?_;intro b2 w2 hh;refine aa (sr (aL (aa (ah (sr (mL (aM (mI (aa (ar ?_))))))))));replace hh:=hh.dm 33 3;refine bH [3,5,8,9,10,11,12,13,14,15,16,17,18,19] 3 8
  (fun v3 v w'=>∃(i c3:Nat) (A:Option Addr),i≤n∧v=.int .i64 i∧v3=.slice A (2*i) c3∧Hp w [.row A (2*i) c3 33 3 (aA NR.cells (pw (l.take i))),.blk b2 35 [.bool false,.string (ByteArray.mk #[]),.int .i64 0,.bool false,.string (ByteArray.mk #[]),.int .i64 0] (0,0)] w')
  (fun _ v _=>n-(intOf v).toNat) ?_ ?_
 ·exact ⟨0,0,none,Yx _,rfl,rfl,hh⟩
 ·clear hh;rintro ρ' v3 v w' ⟨i,c3,A,hi,rfl,rfl,hh⟩;by_cases hlt:i<n
  ·obtain ⟨s,hs⟩:=ao (l:=l) (k:=i) Yo;obtain ⟨ad,rfl,hr⟩:=hS.at_ Yo;refine sr ?_;refine dI ?_;refine bZ ?_;refine vW ?_;refine bC hh ?_;intro b5 w5 hh;refine bg hh 0 [_,_,_,_,_,_] ?_;intro ws hh;replace hh:Hp _ (.blk _ _ [_,_,_,_,_,_] _::_) _:=hh;refine aa (ak (mL (bo ?_)));refine bJ hh 0 [_,_,_] (bo ?_);refine bJ hh 0 [_,_,_] ?_;refine rF ?_;intro b17 w17 hh;refine Oi ?_;intro A18 c18 w18 hh;simp only [YG,Y8] at hh;replace hh:=hh.sub (Zc _ _);refine lE ?_;refine a8 (mI (aD (ai ?_)));replace hh:=hh.sub (Yw _ (Yv _ (Yv _ YR)));refine ⟨⟨i+1,c18,A18,Yo,rfl,rfl, ?_⟩,by show n-(i+1)<n-i;omega, ?_⟩
   ·rw [aw hs,pw,aa5,bM];exact hh
   ·exact er
  ·obtain rfl:i=n:=Yo;rw [YC Yo] at hh;refine sr ?_;refine oF ?_;refine bj hh (hof _ _ _ (hT.hp hh) (hh.az (i:=0) rfl)) rfl ?_;intro w21 hh;exact VC
def D7 (out:Int):List Int→Int
 |[]=>out
 |s::r=>if out=2∨out=s then D7 s r else 0
def sj (l:List NR):Int:=D7 2 (l.map fun a=>a.i.sign)
theorem CY (L:Option Addr) (n c:Nat) (l:List NR) (w:World) (hS:Sl w L n 3 (aA NR.cells l)) (hn:n≤1000000):
  Calls Tryz.prog 75 #[.slice L n c] w fun r w'=>r=.returned (.int .i64 (sj l))∧Below w.heap.size w w':=by
 have hh:=Hp.start w;have hln:=hS.bk NR.len Yp;refine aj (N:=23) (l:=[.slice L n c]) Tryz.func75 rfl rfl (by simp) ?_;refine G6 ?_;refine bH [2,3,5,6,9,10,11,12,13,14,15,16,17,18,19,20,21] 3 9
  (fun v3 v w'=>∃(i:Nat) (o:Int),i≤n∧v=.int .i64 i∧v3=.int .i64 o∧sj l=D7 o ((l.drop i).map fun a=>a.i.sign)∧ -2≤o∧o≤2∧Hp w [] w')
  (fun _ v _=>n-(intOf v).toNat) ?_ ?_
 ·exact ⟨0,2,Yx _,rfl,rfl,rfl,Yp,Yp,hh⟩
 ·clear hh;rintro ρ' v3 v w' ⟨i,o,hi,rfl,rfl,hs0,ho1,ho2,hh⟩;by_cases hlt:i<n
  ·obtain ⟨a,ha⟩:=ao (l:=l) (k:=i) Yo;obtain ⟨ad,rfl,hr⟩:=hS.at_ Yo;rw [aal Yo,(YL.1 ha).2,Y6,D7] at hs0;have hb:=rj a.i;by_cases h2:o=2
   ·rw [Yt (.inl h2)] at hs0;refine sr ?_;refine dI ?_;refine bZ ?_;refine OH ?_;refine bC hh ?_;intro b5 w5 hh;refine bg hh 0 [_,_,_] ?_;intro ws hh;replace hh:Hp _ (.blk _ _ [_,_,_] _::_) _:=hh;refine aa (sr ?_);refine bJ hh 0 [_,_,_] ?_;refine bj hh (cL a _) rfl ?_;intro w14 hh;generalize a.i.sign=g at*;refine aI (aa (sr (mI (aa (ar (ah (sr ?_)))))));refine cH (aB (aa (cT (aq (ai (cT (ak (mI (aI (aD (bz (bz (ai (ak ?_))))))))))))));exact R6
   ·by_cases h3:o=a.i.sign
    ·rw [Yt (.inr h3)] at hs0;refine sr ?_;refine dI ?_;refine bZ ?_;refine OH ?_;refine bC hh ?_;intro b5 w5 hh;refine bg hh 0 [_,_,_] ?_;intro ws hh;replace hh:Hp _ (.blk _ _ [_,_,_] _::_) _:=hh;refine aa (sr ?_);refine bJ hh 0 [_,_,_] ?_;refine bj hh (cL a _) rfl ?_;intro w14 hh;generalize a.i.sign=g at*;refine aI (aa (sr (mI (aa (ar (ah (sr ?_)))))));refine cH (aB (aa (cF (ak (mI ?_)))));refine cH (aB (aa (cT (ak (mI (aI (aD (bz (bz (ai (ak ?_)))))))))));exact R6
    ·rw [Yu Yo] at hs0;refine sr ?_;refine dI ?_;refine bZ ?_;refine OH ?_;refine bC hh ?_;intro b5 w5 hh;refine bg hh 0 [_,_,_] ?_;intro ws hh;replace hh:Hp _ (.blk _ _ [_,_,_] _::_) _:=hh;refine aa (sr ?_);refine bJ hh 0 [_,_,_] ?_;refine bj hh (cL a _) rfl ?_;intro w14 hh;generalize a.i.sign=g at*;refine aI (aa (sr (mI (aa (ar (ah (sr ?_)))))));refine cH (aB (aa (cF (ak (mI ?_)))));refine cH (aB (aa (cF (sr (aI (aa (av (bU (bU (aF (aF (bU (aF ?_)))))))))))));refine dH ?_;exact ⟨by rw [hs0],hh.below⟩
  ·obtain rfl:i=n:=Yo;rw [abS Yo] at hs0;refine sr ?_;refine G4 ?_;refine dH ?_;exact ⟨by rw [hs0];rfl,hh.below⟩
theorem tu (f:FX) (k:Nat) (w:World) (hT:dP w) (h:f.at_ w) (hl:f.jX k) (he:f.e=0):
  Calls Tryz.prog 34 #[.agg #[.slice f.A f.n f.a,.slice f.B f.m f.b]] w fun r w'=>r=.returned (.tuple #[.int .i64 (sj f.cs),.int .i64 0])∧Below w.heap.size w w':=by
 have hh:=Hp.start w;have hc:=fun w1 hT1 hb1=>mv f k w1 hT1 (h.ext hb1) hl;rw [he] at hc;refine aj (N:=13) (l:=[.agg #[.slice f.A f.n f.a,.slice f.B f.m f.b]]) Tryz.func34 rfl rfl (by simp) ?_;refine sr ?_;refine bO hh [_,_] ?_;intro b1 w1 hh;refine aI (aI (aa (ah (sr ?_))));refine bJ hh 0 [_,_] ?_;refine yh ?_;intro w6 hh;refine aI (aa (sr (mI ?_)));refine dn (aa (cF (aq (ai (sr (bo ?_))))));refine bp hh 0 ?_;refine bj hh (CY f.B f.m f.b f.cs _ (h.nm.ext hh.below) (by have:=hl.XC;omega)) rfl ?_;intro w12 hh;refine aI (aI (aa (av ?_)));refine yf ?_;exact ⟨rfl,hh.below⟩
def qC (p:Int×Int):Bool:=decide (p.2<p.1∨127<p.2)
def Kl (ds es:List Int):Int:=if es.length≠ds.length then 1 else if (ds.zip es).any qC=true then 1 else if 4096<al (es.map Int.toNat) then 3 else 0
def je (a b:List Nat):List Nat:=List.zipWith (· - ·) a b
def qb (ns ts:List Nat) (xs:List Dyadic):List Dyadic:=xt ns (je ts ns) xs ((xK (je ts ns)).map nD)
theorem uL:∀{ns ts:List Nat},ns.length=ts.length→(∀(i n t:Nat),ns[i]?=some n→ts[i]?=some t→n≤t)→eS ns (je ts ns)=ts
 |[],[],_,_=>rfl
 |[],_::_,h,_=>by simp at h
 |_::_,[],h,_=>by simp at h
 |n::ns,t::ts,h,h2=>by
  have h0:=h2 0 n t rfl rfl;have ih:=uL (ns:=ns) (ts:=ts) (by simpa using h) fun i a b ha hb=>h2 (i+1) a b ha hb;show (n+(t-n))::eS ns (je ts ns)=_;rw [ih,show n+(t-n)=t by omega]
theorem sB:∀{a b:List Nat},a.length=b.length→(∀(i x y:Nat),a[i]?=some x→b[i]?=some y→x≤y)→al a≤al b
 |[],[],_,_=>YA _
 |[],_::_,h,_=>by simp at h
 |_::_,[],h,_=>by simp at h
 |x::a,y::b,h,h2=>by
  have h0:=h2 0 x y rfl rfl;rw [al,al];exact Z5 Yo (sB (by simpa using h) fun i p q hp hq=>h2 (i+1) p q hp hq)
theorem uH {a b:List Nat}{i x y:Nat} (h1:a[i]?=some x) (h2:b[i]?=some y):(je a b)[i]?=some (x-y):=by
 unfold je;rw [aaY,h1,h2]
theorem ri {a b:List Nat} (h:a.length=b.length):(je a b).length=a.length:=by simp [je,h]
def UW (es ds:List Int):List Int:=List.zipWith (· - ·) es ds
theorem TA {es ds:List Int}{i:Nat}{x y:Int} (h1:es[i]?=some x) (h2:ds[i]?=some y):(UW es ds)[i]?=some (x-y):=by
 unfold UW;rw [aaY,h1,h2]
theorem HR:∀{ts ns:List Nat},ns.length=ts.length→(∀(i n t:Nat),ns[i]?=some n→ts[i]?=some t→n≤t)→UW (bq ts) (bq ns)=bq (je ts ns)
 |[],[],_,_=>rfl
 |[],_::_,h,_=>by simp at h
 |_::_,[],h,_=>by simp at h
 |t::ts,n::ns,h,h2=>by
  have h0:=h2 0 n t rfl rfl;have ih:=HR (ns:=ns) (ts:=ts) (by simpa using h) fun i a b ha hb=>h2 (i+1) a b ha hb;show ((t:Int)-(n:Int))::UW (bq ts) (bq ns)=((t-n:Nat):Int)::bq (je ts ns);rw [ih,show (t:Int)-(n:Int)=((t-n:Nat):Int) by omega]
theorem Tx {ns:List Nat}{es:List Int} (hl:es.length=(bq ns).length) (hb:((bq ns).zip es).any qC=false):∃ts:List Nat,es=bq ts∧ns.length=ts.length∧(∀(i n t:Nat),ns[i]?=some n→ts[i]?=some t→n≤t)∧∀t∈ts,t≤127:=by
 have key:∀(i:Nat) (d:Int),es[i]?=some d→∃n,ns[i]?=some n∧(n:Int)≤d∧d≤127:=fun i d hd=>by
  have hi:=(YL.1 hd).1;rw [hl,dr] at hi;obtain ⟨n,hn⟩:=ao hi;have hz:((n:Int),d)∈(bq ns).zip es:=Yy (i:=i) (by rw [abX];exact ⟨eO hn,hd⟩);have:=aab.1 hb _ hz;simp [qC] at this;exact ⟨n,hn,Yo,Yo⟩
 refine ⟨es.map Int.toNat, ?_,by rw [YI,hl,dr],fun i n t hn ht=> ?_,fun t ht=> ?_⟩
 ·unfold bq;rw [Zs];refine (abr es).symm.trans (ZV fun d hd=> ?_);obtain ⟨i,hi⟩:=ZU.1 hd;obtain ⟨n,_,h1,_⟩:=key i d hi;show d=((d.toNat:Nat):Int);omega
 ·rw [YJ] at ht
  cases hd:es[i]? with
  |none=>rw [hd] at ht;cases ht
  |some d=>
   rw [hd] at ht;obtain rfl:d.toNat=t:=by simpa using ht
   obtain ⟨n',hn',h1,_⟩:=key i d hd;rw [hn] at hn';obtain rfl:=Zg hn';omega
 ·obtain ⟨d,hd,rfl⟩:=YF.1 ht;obtain ⟨i,hi⟩:=ZU.1 hd;obtain ⟨n,_,h1,h2⟩:=key i d hi;omega
theorem j5 (ts:List Nat):(bq ts).map Int.toNat=ts:=by
 unfold bq;rw [Zs];exact abr ts
def TM (e:Int):Ending:=.returned (.tuple #[.agg #[.slice none 0 0,.slice none 0 0],.int .i64 e])
theorem Bx {ds es:List Int}{i:Nat}{d e:Int} (h:((ds.take i).zip (es.take i)).any qC=false) (hd:ds[i]?=some d) (he:es[i]?=some e) (hb:qC (d,e)=false):((ds.take (i+1)).zip (es.take (i+1))).any qC=false:=by
 rw [aw hd,aw he,List.zip_append (by have:=(YL.1 hd).1;have:=(YL.1 he).1;simp;omega),aaU,h];show (false||([(d,e)].any qC))=false;rw [aa0,hb]
 rfl
theorem Bl (f:FX) (E:Option Addr) (q cE:Nat) (es:List Int) (k:Nat) (w:World) (hT:dP w) (hf:f.at_ w) (hl:f.jX k) (hE:Sl w E q 1 (bD es)) (hq:q≤1000) (hk:k≤90000)
  (hM:f.e=0→Kl f.ds es=0→al (es.map Int.toNat)*al (f.ds.map Int.toNat)≤1000000):
  Calls Tryz.prog 123 #[.agg #[.slice f.A f.n f.a,.slice f.B f.m f.b],.slice E q cE] w fun r w'=>((f.e≠0∧r=TM f.e∨f.e=0∧Kl f.ds es≠0∧r=TM (Kl f.ds es))∧Below w.heap.size w w')∨
   (f.e=0∧Kl f.ds es=0∧∃(A:Option Addr) (a:Nat) (B:Option Addr) (b:Nat),r=.returned (.tuple #[.agg #[.slice A q a,.slice B (al (es.map Int.toNat)) b],.int .i64 0])∧Hp w [.row B (al (es.map Int.toNat)) b 33 3 (aA NR.cells ((qb (f.ds.map Int.toNat) (es.map Int.toNat) (f.cs.map NR.d)).map nR)),.row A q a 3 1 (bD es)] w'):=by
 have hh:=Hp.start w;have hln:f.ds.length=f.n:=by have:=hf.dg.1;simpa [bD] using this
 have hlq:es.length=q:=by have:=hE.1;simpa [bD] using this
 have hlm:=hf.nm.bk NR.len Yp;have hck:=fun w1 hT1 hb=>mv f k w1 hT1 (hf.ext hb) hl;have hn20:=hl.Vo;by_cases h0:f.e=0
 ·by_cases h1:q=f.n
  ·obtain ⟨ns,xs,hv,hxs⟩:=SX h0;refine M1 ?_;refine sr ?_;refine bO hh [_,_] ?_;intro b2 w2 hh;refine bC hh ?_;intro b4 w4 hh;refine aI (aa (ah (sr ?_)));refine bJ hh 1 [_,_] ?_;refine fS ?_;intro w11 hh;refine aI (aa (sr (mI ?_)));refine tr ?_;refine bp hh 1 ?_;refine aM ?_;refine qY ?_;refine fe [_,_] ?_;refine bC hh ?_;intro b7 w7 hh;refine bg hh 0 [_,_] ?_;intro ws hh;replace hh:Hp _ (.blk _ _ [_,_] _::_) _:=hh;refine vg ?_;replace hh:=hh.dm 3 1;refine aT [5,8,9,26,27,28,29,30,31,32,33,34,35,36,37,38,39,40,41,42,43,44,45,46,47,48,49,50,51,52,53,54,55] 26
    (fun v w'=>∃(i c7:Nat) (A:Option Addr),i≤q∧v=.int .i64 i∧((f.ds.take i).zip (es.take i)).any qC=false∧Hp w [.row A i c7 3 1 (bD ((UW es f.ds).take i)),.blk b7 25 [.slice A i c7,.slice none 0 0] (0,0),.blk b4 25 [.slice none 0 0,.slice none 0 0] (0,0),.blk b2 25 [.slice f.A f.n f.a,.slice f.B f.m f.b] (0,0)] w')
    (fun v _=>q-(intOf v).toNat) ?_ ?_
   ·exact ⟨0,0,none,Yx _,rfl,rfl,hh⟩
   ·clear hh;rintro ρ' v w' ⟨i,c7,A,hi,rfl,hall,hh⟩;by_cases hlt:i<q
    ·obtain ⟨d,hd⟩:=ao (l:=f.ds) (k:=i) Yo;obtain ⟨e,he⟩:=ao (l:=es) (k:=i) Yo;have hgd:=cK hd;have hge:=cK he;have hde:=TA he hd;obtain ⟨a1,hA1,s1⟩:=hf.dg.at_ Yo;obtain ⟨a2,rfl,s2⟩:=hE.at_ Yo;have hdn:0≤d∧d≤127:=by
      have hdeg:=hv.Xw;rw [hdeg] at hd;have hlow:=hv.low;obtain ⟨nn,hnn⟩:=ao (l:=ns) (k:=i) (by rw [←dr,←hdeg,hln];omega);rw [eO hnn] at hd;have:=hlow nn (Yy hnn);have:=Zg hd;omega
     have hbad:qC (d,e)=true→Kl f.ds es=1:=fun hb=>by
      unfold Kl;rw [Yu Yo,Yt];exact aae.2 ⟨(d,e),Yy (i:=i) (by rw [abX];exact ⟨hd,he⟩),hb⟩
     rw [hA1] at hh;by_cases h2:e<d
     ·have hr1:=hbad (by unfold qC;rw [YN];exact .inl h2);refine sr ?_;refine dY ?_;refine bZ ?_;refine H6 ?_;refine aI (aI (aa (ah (sr (mI (bo ?_))))));refine bp hh 3 ?_;refine mI ?_;refine bZ ?_;refine x8 ?_;refine a9 (mB ?_);refine gS (gS ?_);refine gi ?_;exact VY
     ·by_cases h3:127<e
      ·have hr1:=hbad (by unfold qC;rw [YN];exact .inr h3);refine sr ?_;refine dY ?_;refine bZ ?_;refine H6 ?_;refine aI (aI (aa (ah (sr (mI (bo ?_))))));refine bp hh 3 ?_;refine mI ?_;refine bZ ?_;refine x8 ?_;refine a9 (mB (gT (mI (gT ?_))));refine bT ?_;refine fK ?_;exact VY
      ·refine sr ?_;refine dY ?_;refine bZ ?_;refine H6 ?_;refine aI (aI (aa (ah (sr (mI (bo ?_))))));refine bp hh 3 ?_;refine mI ?_;refine bZ ?_;refine x8 ?_;refine a9 (mB (gT (mI (gT ?_))));refine bT ?_;refine fK ?_;refine aa (cF (aq (ai ?_)));refine aK 10 [[(7,none)],[(43,some 0)],[(9,none)],[(2,none)],[(46,some 3)],[(8,none)],[(47,some 4),(48,some 5)],[(49,some 6)],[(45,some 2),(50,some 7)],[(51,some 8)]] [(9,52),(8,51),(7,50),(6,49),(5,48),(4,47),(3,46),(2,45),(1,44),(0,43)] hh mixed Yq ?_;refine dR ?_;refine fW 1 ?_;refine dJ ?_;refine dR ?_;refine fW 3 ?_;refine dJ ?_;refine np (i) ?_;refine bB (i:=7) (fun ρ1 w1 hj hR=>iL aJ.out (show ρ1 49=Value.pointer _ from hR.1) ((s1.ext hj.hp.below).tN (by assumption))) ?_;refine tZ ?_;refine x3 [_] ?_;refine aH ?_;intro f W hJ hV;have hb_12:=hJ.bl;obtain ⟨v52,v51,v50,v49,v48,v47,v46,v45,v44,v43,_⟩:=hV;obtain ⟨A52,c52,e52,f52⟩:Rows _ _ _ (f 9) W:=v52;replace hh:=hJ.hp;refine aN (a6 (ae e52 (ae v51 (ae v50 (ae v49 (ae v48 (ae v47 (ae v46 (ae v45 (ae v44 (ae v43 aO))))))))))) ?_;dsimp only [bP];clear e52 hJ
       refine cu hh (i:=0) rfl rfl rfl (f52) bG.out aJ.out rfl Yp (by first|rfl|exact ea _|exact dv _|exact bI _|exact bK NR.one _) Yo Yo Yp ?_;intro A53 c53 w53 hh;simp only [YG] at hh;refine bo ?_;refine bg hh 1 [_] ?_;intro ws hh;replace hh:Hp _ (_::.blk _ _ [_,_] _::_) _:=hh;refine gu ?_;refine a8 (mI (aD (ai ?_)));rw [←hA1] at hh;replace hh:=hh.sub (Yv _ (Yv _ (Yv _ (Yv _ YR))));refine ⟨⟨i+1,c53,A53,Yo,rfl,Bx hall hd he (by unfold qC;rw [YS];show ¬(e<d∨127<e);omega), ?_⟩,by show q-(i+1)<q-i;omega, ?_⟩
       ·rw [aw hde,Df];exact hh
       ·exact er
    ·obtain rfl:i=q:=Yo;rw [YC Yo,YC Yo] at hall;have hdeg:=hv.Xw;have hnum:=hv.num;have hlow:=hv.low;have hlen:=hv.len;have hfew:=hv.Wy;rw [hdeg] at hall hln;obtain ⟨ts,rfl,hlt2,hle,ht127⟩:=Tx (by rw [hln];omega) hall;have hnl:ns.length=f.n:=by rw [←dr];exact hln
     have htn:(bq ts).map Int.toNat=ts:=j5 ts;have hnn:f.ds.map Int.toNat=ns:=by rw [hdeg];exact j5 ns
     have hrz:Kl f.ds (bq ts)=if 4096<al ts then 3 else 0:=by
      unfold Kl;rw [hdeg,Yu (by rw [dr,dr];omega),Yu (by rw [hall];decide),htn]
     rw [htn,hnn] at hM;rw [htn,hnn,hrz,←hxs];rw [hrz] at hM;have hbig:=fun w1 hS1=>F0 E i cE ts w1 hS1 hq (fun d hd=>by have:=ht127 d hd;omega);have hany:ts.any (fun d=>decide (127<d))=false:=aab.2 fun d hd=>by have:=ht127 d hd;simp;omega
     by_cases h4:4096<al ts
     ·have hb1:AF ts=true:=by unfold AF;rw [YN h4,Bool.or_true]
      rw [hb1] at hbig;rw [Yt h4];refine sr ?_;refine OK ?_;refine bj hh (hbig _ (hE.ext hh.below)) rfl ?_;intro w57 hh;refine aa (cT (sr ?_));refine fe [_,_] ?_;refine bg hh 2 [_,_] ?_;intro ws hh;replace hh:Hp _ (_::_::.blk _ _ [_,_] _::_) _:=hh;refine aI (aa (av (aF ?_)));refine pJ ?_;exact .inl ⟨.inr ⟨h0,Yp,rfl⟩,hh.below⟩
     ·have hb1:AF ts=false:=by unfold AF;rw [hany,YS h4];rfl
      rw [hb1] at hbig;rw [Yu h4] at hM;rw [Yu h4];have hM2:=hM h0 rfl;have hsl:(je ts ns).length=i:=by rw [ri Yo,←dr];exact hlq
      have hsub:∀d∈je ts ns,d≤127:=fun d hd=>by
       obtain ⟨j,hj⟩:=ZU.1 hd;have hj2:=(YL.1 hj).1;obtain ⟨x,hx⟩:=ao (l:=ts) (k:=j) (by rw [dr] at hlq;omega);obtain ⟨y,hy⟩:=ao (l:=ns) (k:=j) Yo;rw [uH hx hy] at hj;have:=ht127 x (Yy hx);have:=Zg hj;omega
      have hcs:al (je ts ns)≤al ts:=sB (by rw [hsl,←dr];exact hlq.symm) fun j x y hx hy=>by
       have hj2:=(YL.1 hx).1;obtain ⟨z,hz⟩:=ao (l:=ns) (k:=j) Yo;rw [uH hy hz] at hx;have:=Zg hx;omega
      have hadd:eS ns (je ts ns)=ts:=uL hlt2 hle;have hdif:UW (bq ts) f.ds=bq (je ts ns):=by rw [hdeg];exact HR hlt2 hle
      have hwn:KB (je ts ns)=((xK (je ts ns)).map nD).map nR:=by unfold KB;rw [Zs];rfl
      have hw12:(je ts ns).length≤12:=Yo;have hwz:∀y∈(xK (je ts ns)).map nD,Sz 1600 y:=fun y hy=>by
       obtain ⟨x,hx,rfl⟩:=YF.1 hy;exact L6 hx hw12 hsub
      have hxz:∀x∈xs,Sz k x:=fun x hx=>by
       rw [hxs] at hx;obtain ⟨c,hc,rfl⟩:=YF.1 hx;exact (hl.num c hc).2
      have hpair:al (je ts ns)*al ns≤al ts*al ns:=Zo _ hcs;have hfm:f.m=al ns:=by rw [←hlm,hnum,YI,hlen]
      have htm:=fun w1 hT1 A B c3 c4 h1 h2 h3 h4'=>Bk f.A f.B A B i f.a f.b c3 c4 ns (je ts ns) xs ((xK (je ts ns)).map nD) k 1600 w1 hT1 h1 h2 h3 h4' Yo hlow hsub (by rw [hadd];omega) Yo hxz hwz Yo;rw [hadd] at htm;have hdg:=hf.dg;have hnm:=hf.nm;rw [hdeg] at hdg;rw [hnum,hfm] at hnm;rw [YC (by rw [hdif,dr];omega),hdif] at hh;rw [hfm] at hh;rw [show f.n=i by omega] at hh hdg;refine sr ?_;refine OK ?_;refine bj hh (hbig _ (hE.ext hh.below)) rfl ?_;intro w57 hh;refine qX ?_;refine bp hh 1 ?_;refine ay (oe A i c7 (je ts ns) _ (hT.hp hh) (hh.az (i:=0) rfl) hw12 hsub Yo) au.out rfl Yp ?_;rintro e_ w61 ⟨A61,c61,rfl,hown_,hb_⟩;refine ⟨_,rfl, ?_⟩;replace hh:=hh.aP (x:=.row _ _ _ _ _ _) hb_ hown_;rw [hwn] at hh;refine bo ?_;refine bg hh 2 [_] ?_;intro ws hh;replace hh:Hp _ (_::_::.blk _ _ [_,_] _::_) _:=hh;refine aa (sr ?_);refine bJ hh 4 [_,_] ?_;refine bJ hh 2 [_,_] ?_;refine ay (htm _ (hT.hp hh) _ _ _ _ (hdg.ext hh.below) (hnm.ext hh.below) (hh.az (i:=1) rfl) (hh.az (i:=0) rfl)) au.out rfl Yp ?_;rintro e_ w65 ⟨Ar,cr,Br,br,rfl,h2⟩;refine ⟨_,rfl, ?_⟩;replace hh:=hh.join h2;clear h2;refine bg hh 5 [_,_] ?_;intro ws hh
      replace hh:Hp _ (_::_::_::_::_::.blk _ _ [_,_] _::_) _:=hh;refine aI (aa (av ?_));refine Ib (cj rfl (cf (vs:=[_,_]) aJ.out (hh.aQ (i:=5) (n:=2) rfl rfl) rfl) (eB (fg rfl) dw)) ?_;exact .inr ⟨h0,rfl,_,_,_,_,rfl,hh.sub (Yv _ (Yv _ (Zx _)))⟩
  ·have hrz:Kl f.ds es=1:=by unfold Kl;rw [Yt Yo]
   refine M1 ?_;refine sr ?_;refine bO hh [_,_] ?_;intro b2 w2 hh;refine bC hh ?_;intro b4 w4 hh;refine aI (aa (ah (sr ?_)));refine bJ hh 1 [_,_] ?_;refine fS ?_;intro w11 hh;refine aI (aa (sr (mI ?_)));refine tr ?_;refine bp hh 1 ?_;refine aM ?_;refine dn (aa (cT (sr ?_)));refine fe [_,_] ?_;refine bg hh 0 [_,_] ?_;intro ws hh;replace hh:Hp _ (.blk _ _ [_,_] _::_) _:=hh;refine aI (aa (av (aF ?_)));refine u7 ?_;exact .inl ⟨.inr ⟨h0,by rw [hrz];decide,by rw [hrz];rfl⟩,hh.below⟩
 ·refine M1 ?_;refine sr ?_;refine bO hh [_,_] ?_;intro b2 w2 hh;refine bC hh ?_;intro b4 w4 hh;refine aI (aa (ah (sr ?_)));refine bJ hh 1 [_,_] ?_;refine fS ?_;intro w11 hh;refine aI (aa (sr (mI ?_)));refine dn (aa (cT (sr ?_)));refine fe [_,_] (mI ?_);refine bg hh 0 [_,_] ?_;intro ws hh;replace hh:Hp _ (.blk _ _ [_,_] _::_) _:=hh;refine aI (aa (av (aF ?_)));refine u7 ?_;exact .inl ⟨.inl ⟨h0,rfl⟩,hh.below⟩
def FX.kB (f:FX):HE:=.row f.B f.m f.b 33 3 (aA NR.cells f.cs)
def FX.kD (f:FX):HE:=.row f.A f.n f.a 3 1 (bD f.ds)
def IU:List FX→List HE
 |[]=>[]
 |f::fs=>f.kB::f.kD::IU fs
def kq (a b:List Nat):List Nat:=List.zipWith max a b
def maxD (fs:List FX):List Nat:=fs.foldl (fun a f=>kq a (f.ds.map Int.toNat)) ((fs.map fun f=>f.ds.map Int.toNat).headD [])
def cV (fs:List FX):Int:=if jT fs≠0 then jT fs else if 4096<al (maxD fs) then 3 else 0
theorem oS {fs:List FX} (h:jT fs=0):fs≠[]∧(∀f∈fs,f.e=0)∧∀f∈fs,f.n=(fs.map FX.n).headD 0:=by
 unfold jT at h;exact VI
theorem oD {a b:List Nat} (h:a.length=b.length):(kq a b).length=a.length:=by simp [kq,h]
theorem AO {a b:List Nat}{i x y:Nat} (h1:a[i]?=some x) (h2:b[i]?=some y):(kq a b)[i]?=some (max x y):=by
 unfold kq;rw [aaY,h1,h2]
theorem Bw:∀(ls:List (List Nat)) (a:List Nat),(∀l∈ls,l.length=a.length)→(ls.foldl kq a).length=a.length∧(∀(i x y:Nat),a[i]?=some x→(ls.foldl kq a)[i]?=some y→x≤y)∧∀l∈ls,∀(i x y:Nat),l[i]?=some x→(ls.foldl kq a)[i]?=some y→x≤y
 |[],a,_=>⟨rfl,fun i x y h1 h2=>by have h3:a[i]?=some y:=h2;rw [h1] at h3;cases h3;exact YA _,fun _ h=>nomatch h⟩
 |l::ls,a,h=>by
  have hl:=h l YD;have h2:=oD hl.symm;obtain ⟨h3,h4,h5⟩:=Bw ls (kq a l) fun m hm=>by rw [h2];exact h m (YK _ hm)
  refine ⟨by rw [aaR,h3,h2],fun i x y hx hy=> ?_,fun m hm i x y hx hy=> ?_⟩
  ·have hi:=(YL.1 hx).1;obtain ⟨z,hz⟩:=ao (l:=l) (k:=i) Yo;have:=h4 i (max x z) y (AO hx hz) hy;omega
  ·rcases YH.1 hm with rfl|hm
   ·have hi:=(YL.1 hx).1;obtain ⟨z,hz⟩:=ao (l:=a) (k:=i) Yo;have:=h4 i (max z x) y (AO hz hx) hy;omega
   ·exact h5 m hm i x y hx hy
theorem Aq (B:Nat):∀(ls:List (List Nat)) (a:List Nat),(∀x∈a,x≤B)→(∀l∈ls,∀x∈l,x≤B)→∀x∈ls.foldl kq a,x≤B
 |[],_,h,_=>h
 |l::ls,a,h,h2=>Aq B ls (kq a l) (fun x hx=>by
   obtain ⟨i,hi⟩:=ZU.1 hx;unfold kq at hi;rw [aaY] at hi
   cases h3:a[i]? with
   |none=>rw [h3] at hi;cases hi
   |some p=>
    cases h4:l[i]? with
    |none=>rw [h3,h4] at hi;cases hi
    |some q=>
     rw [h3,h4] at hi;have h5:max p q=x:=by simpa using hi
     have:=h p (Yy h3);have:=h2 l YD q (Yy h4);omega) fun m hm=>h2 m (YK _ hm)
variable {j:Nat}
def FX.ns (f:FX):List Nat:=f.ds.map Int.toNat
theorem FX.fv {f:FX} (h:f.e=0):f.ds=bq f.ns∧f.cs=(f.cs.map NR.d).map nR∧f.ns.length≤12∧(∀d∈f.ns,d≤127)∧f.cs.length=al f.ns∧al f.ns≤4096:=by
 obtain ⟨ns,xs,hv,hxs⟩:=SX h;obtain ⟨h1,h2,h3,h4,h5,h6⟩:=hv;have e:f.ns=ns:=by unfold FX.ns;rw [h1];exact j5 ns
 subst hxs;rw [e];exact ⟨h1,h2,h3,h4,by simpa using h5,h6⟩
structure PF (D:List Nat) (ys:List Dyadic) (g:FX):Prop where
 ds:g.ds=bq D
 cs:g.cs=ys.map nR
 n:g.n=D.length
 m:g.m=al D
def lh (D:List Nat) (f:FX):List Dyadic:=qb f.ns D (f.cs.map NR.d)
def wz (a b:List Nat) (j:Nat):List Nat:=(kq a b).take j++a.drop j
theorem Mp {a b:List Nat}{x y:Nat} (h:a.length=b.length) (hx:a[j]?=some x) (hy:b[j]?=some y):(bq (wz a b j)).set j ((max x y:Nat):Int)=bq (wz a b (j+1)):=by
 have hj:=(YL.1 hx).1;unfold wz;rw [im hx,aw (AO hx hy)];have hl:(bq ((kq a b).take j)).length=j:=by rw [dr,YM,oD h];omega
 have e1:bq ((kq a b).take j++x::a.drop (j+1))=bq ((kq a b).take j)++(x:Int)::bq (a.drop (j+1)):=by simp [bq]
 rw [e1,wx _ _ _ _ _ hl];simp [bq]
theorem OV {a b:List Nat}{x:Nat} (h:a.length=b.length) (hx:a[j]?=some x):(wz a b j)[j]?=some x:=by
 have hj:=(YL.1 hx).1;have hl:((kq a b).take j).length=j:=by rw [YM,oD h];omega
 unfold wz;exact RE
theorem Lv {a b:List Nat} (h:a.length=b.length) (hj:j≤a.length):(wz a b j).length=a.length:=by
 unfold wz;rw [YE,YM,oD h,Zz];omega
theorem xJ (L:Option Addr) (n c:Nat) (fs:List FX) (k:Nat) (w:World) (hT:dP w) (hL:Sl w L n 2 (aA FX.cells fs)) (hn:n≤1000) (hf:∀f∈fs,f.at_ w) (hl:∀f∈fs,f.jX k) (hm:∀f∈fs,f.m≤200) (hk:k≤90000):
  Calls Tryz.prog 74 #[.slice L n c] w fun r w'=>(cV fs≠0∧r=.returned (.tuple #[.slice none 0 0,.int .i64 (cV fs)])∧Below w.heap.size w w')∨
   (cV fs=0∧∃(A:Option Addr) (a:Nat) (gs:List FX),r=.returned (.tuple #[.slice A n a,.int .i64 0])∧gs.length=n∧(∀(i:Nat) (f g:FX),fs[i]?=some f→gs[i]?=some g→PF (maxD fs) (lh (maxD fs) f) g)∧Hp w (.row A n a 25 2 (aA FX.cells gs)::IU gs.reverse) w'):=by
 have hh:=Hp.start w;have hln:=hL.bk FX.len Yp;have hlk:=fun w1 hT1 hb=>BP L n c fs k w1 hT1 (hL.ext hb) Yo (fun f hm=>(hf f hm).ext hb) hl;unfold cV;by_cases h0:jT fs=0
 ·obtain ⟨hne,rX,hnv⟩:=oS h0;obtain ⟨f0,h00⟩:=ao (l:=fs) (k:=0) (List.length_pos_iff.2 hne);have hm0:=Yy h00;have hnn:∀f∈fs,f.n=f0.n:=fun f hm=>by
   rw [hnv f hm]
   rcases fs with _|⟨g,l⟩
   ·cases h00
   ·have:g=f0:=by simpa using h00
    rw [←this];rfl
  have hnsl:∀f∈fs,f.ns.length=f0.n:=fun f hm=>by
   have h1:=(hf f hm).dg.1;rw [cQ] at h1;have h2:=hnn f hm;unfold FX.ns;rw [YI];omega
  have hlow:∀f∈fs,∀d∈f.ns,d≤127:=fun f hm=>(FX.fv (rX f hm)).2.2.2.1;have hdsn:∀f∈fs,f.ds=bq f.ns:=fun f hm=>(FX.fv (rX f hm)).1;have h12:f0.n≤12:=by have:=(FX.fv (rX f0 hm0)).2.2.1;rw [hnsl f0 hm0] at this;exact this
  have hDe:maxD fs=(fs.map FX.ns).foldl kq f0.ns:=by
   unfold maxD;rw [List.foldl_map];congr 1
   rcases fs with _|⟨g,l⟩
   ·cases h00
   ·have:g=f0:=by simpa using h00
    rw [←this];rfl
  obtain ⟨ad,rfl,hr⟩:=hL.at_ (by have:=(YL.1 h00).1;omega);have hn0:0<n:=by have:=(YL.1 h00).1;omega
  rw [Yu Yo];have hA0:=hnsl f0 hm0;have hF:=fun i=>Bw ((fs.take i).map FX.ns) f0.ns fun l hl=>by
   obtain ⟨f,hf2,rfl⟩:=YF.1 hl;rw [hnsl f (aad hf2),hA0]
  refine aj (N:=71) (l:=[.slice (some ad) n c]) Tryz.func74 rfl rfl (by simp) ?_;refine sr (aL (aI (aa (ah (sr (mL ?_))))));refine yS ?_;intro w16 hh;refine aI (aa (sr (mI ?_)));refine dn (aa (cF (aq (ai (sr (mL ?_))))));refine zz ?_;refine tk ?_;refine bY aJ.out rfl (cn hh.below ((hr.recAt FX.len h00) 0 _ rfl)) Yp ?_;refine ay (m6 f0.A f0.n f0.a f0.ds _ ((hf f0 hm0).dg.ext hh.below) (by have:=(hl f0 hm0).Vo;omega)) au.out rfl Yp ?_;rintro e_ w24 ⟨A24,c24,rfl,hown_,hb_⟩;refine ⟨_,rfl, ?_⟩;replace hh:=hh.aP (x:=.row _ _ _ _ _ _) hb_ hown_;refine qI ?_;rw [hdsn f0 hm0] at hh;refine aT [7,8,9,27,28,29,30,31,32,33,34,35,36,37,38,39,40,41,42,43,44,45,46,47,48,49] 27
   (fun v w'=>∃i:Nat,i≤n∧v=.int .i64 i∧Hp w [.row A24 f0.n c24 3 1 (bD (bq (((fs.take i).map FX.ns).foldl kq f0.ns)))] w')
   (fun v _=>n-(intOf v).toNat) ?_ ?_
  ·exact ⟨0,Yx _,rfl,hh⟩
  ·clear hh;rintro ρ' v w' ⟨i,hi,rfl,hh⟩;by_cases hlt:i<n
   ·obtain ⟨f,hx⟩:=ao (l:=fs) (k:=i) Yo;have hmem:=Yy hx;have hfold:((fs.take (i+1)).map FX.ns).foldl kq f0.ns=kq (((fs.take i).map FX.ns).foldl kq f0.ns) f.ns:=by rw [aw hx,ZD,abo];rfl
    have hal:=(hF i).1;generalize ((fs.take i).map FX.ns).foldl kq f0.ns=a at*;have hab:a.length=f.ns.length:=by rw [hal,hA0,hnsl f hmem]
    have hfd:=hdsn f hmem;have hfn:=hnn f hmem;have hfl:=hnsl f hmem;refine sr ?_;refine dI ?_;refine bZ ?_;refine H9 ?_;refine bC hh ?_;intro b7 w7 hh;refine bg hh 0 [_,_] ?_;intro ws hh;replace hh:Hp _ (.blk _ _ [_,_] _::_) _:=hh;refine aa (sr (bo ?_));refine bp hh 0 ?_;refine aM (mI (aa (ar ?_)));refine aT [8,9,34,35,36,37,38,39,40,41,42,43,44,45,46,47,48] 34
     (fun v w'=>∃j:Nat,j≤f0.n∧v=.int .i64 j∧Hp w [.blk b7 25 [.slice f.A f.n f.a,.slice f.B f.m f.b] (0,0),.row A24 f0.n c24 3 1 (bD (bq (wz a f.ns j)))] w')
     (fun v _=>f0.n-(intOf v).toNat) ?_ ?_
    ·refine ⟨0,Yx _,rfl, ?_⟩;show Hp w [_,.row A24 f0.n c24 3 1 (bD (bq (List.take 0 _++List.drop 0 a)))] _;rw [Z7,Yz,abm];exact hh
    ·clear hh;rintro ρ2 v w2 ⟨j,hj,rfl,hh⟩;by_cases hjn:j<f0.n
     ·obtain ⟨x,hxa⟩:=ao (l:=a) (k:=j) Yo;obtain ⟨y,hyb⟩:=ao (l:=f.ns) (k:=j) Yo;have hgx:=cK (eO (OV hab hxa));have hgy:(bD f.ds)[j]?=some (.int .i64 (y:Int)):=by rw [hfd];exact cK (eO hyb)
      have hml:(bD (bq (wz a f.ns j))).length=f0.n:=by rw [cQ,dr,Lv hab Yo];omega
      obtain ⟨a2,hA2,s2⟩:=(hf f hmem).dg.at_ Yo;have rX:Value.slice f.A f.n f.a=.slice (some a2) f.n f.a:=by rw [hA2]
      obtain ⟨gd,rfl⟩:=hh.cq (i:=1) rfl Yo;refine sr ?_;refine dY ?_;refine tP ?_;refine bY aJ.out rfl (cn hh.below (s2.tN hgy)) Yp ?_;refine aI (aI (aa (ak (mL (mI (mL (mI ?_)))))));refine ni ?_;refine bY aJ.out rfl (hh.iC (i:=1) rfl (by first|assumption|(simp only [YV];assumption))) Yp ?_;refine mI ?_;refine k9 rfl rfl Yp ?_;refine DL ?_;have hmx:(if (y:Int)>(x:Int) then (y:Int) else (x:Int))=((max x y:Nat):Int):=by split<;>omega
      refine MF ?_;intro ws hh;simp only [YG,Y8] at hh;rw [hmx,lv _ (by rw [←cQ];omega),Mp hab hxa hyb] at hh;refine gu ?_;refine a8 (mI (aD (ai ?_)));refine ⟨⟨j+1,Yo,rfl,hh⟩,by show f0.n-(j+1)<f0.n-j;omega, ?_⟩;exact er
     ·obtain rfl:j=f0.n:=Yo;have hmf:wz a f.ns f0.n=kq a f.ns:=by
       unfold wz;rw [YC (by rw [oD hab];omega),aaw Yo,Y7]
      rw [hmf,←hfold] at hh;refine sr ?_;refine rQ ?_;refine a8 (mI (aD (ai ?_)));replace hh:=hh.sub (Yw _ (Yv _ YR));exact yV
   ·obtain rfl:i=n:=Yo;have hDl:=(hF i).1;have hDg:=fun (f:FX) (hm:f∈fs)=>(hF i).2.2 f.ns (YF.2 ⟨f,by rw [YC Yo];exact hm,rfl⟩);have hDb:=Aq 127 ((fs.take i).map FX.ns) f0.ns (hlow f0 hm0) fun l hl=>by
     obtain ⟨f,hf2,rfl⟩:=YF.1 hl;exact hlow f (aad hf2)
    rw [YC Yo,←hDe] at hDl hDb hh;simp only [YC (show fs.length≤i by omega),←hDe] at hDg;clear hF hDe;generalize maxD fs=D at*;have hrz:∀f∈fs,Kl f.ds (bq D)=if 4096<al D then 3 else 0:=fun f hm=>by
     unfold Kl;have e1:(f.ds.zip (bq D)).any qC=false:=aab.2 fun p hp=>by
      obtain ⟨j,hj⟩:=ZU.1 hp;rw [abX] at hj;obtain ⟨j1,j2⟩:=hj;rw [hdsn f hm] at j1;unfold bq at j1 j2;rw [YJ] at j1 j2;obtain ⟨x,hx,hx2⟩:=aay.1 j1;obtain ⟨y,hy,hy2⟩:=aay.1 j2;have:=hDg f hm j x y hx hy;have:=hDb y (Yy hy);unfold qC;rw [YX];omega
     rw [Yu (by rw [dr,hdsn f hm,dr,hnsl f hm];omega),Yu (by rw [e1];decide),j5]
    refine sr ?_;refine a9 (aa (ah (cF (aX (aE (aE (bA (ai (sr (aL (aa (ah (sr (mL (aM (mI (aa (ar ?_))))))))))))))))));replace hh:=hh.dm 25 2;refine bH [2,3,10,12,13,14,52,53,54,55,56,57,58,59,60,61,62,63,64,65,66,67,68,69] 10 52
     (fun v10 v w'=>∃(j c10:Nat) (A:Option Addr) (gs:List FX),j≤i∧v=.int .i64 j∧v10=.slice A j c10∧gs.length=j∧(0<j→¬4096<al D)∧(∀(t:Nat) (f g:FX),fs[t]?=some f→gs[t]?=some g→PF D (lh D f) g)∧Hp w (.row A j c10 25 2 (aA FX.cells gs)::.row A24 f0.n c24 3 1 (bD (bq D))::IU gs.reverse) w')
     (fun _ v _=>i-(intOf v).toNat) ?_ ?_
    ·exact ⟨0,0,none,[],Yx _,rfl,rfl,rfl,fun h=>absurd h (Nat.lt_irrefl 0),fun t f g _ h=>by simp at h,hh⟩
    ·clear hh;rintro ρ' v10 v w' ⟨j,c10,A,gs,hj,rfl,rfl,hgl,hno,hup,hh⟩;by_cases hlt:j<i
     ·obtain ⟨f,hx⟩:=ao (l:=fs) (k:=j) Yo;have hmem:=Yy hx;refine sr ?_;refine dI ?_;refine tO ?_;refine H9 ?_;refine bC hh ?_;intro b12 w12 hh;refine bg hh 0 [_,_] ?_;intro ws hh;replace hh:Hp _ (.blk _ _ [_,_] _::_) _:=hh;refine aa (sr ?_);refine bJ hh 0 [_,_] (mL ?_);have hrs:=fun w1 hT1 hb hE=>Bl f A24 f0.n c24 (bq D) k w1 hT1 ((hf f hmem).ext hb) (hl f hmem) hE Yo hk;rw [hrz f hmem,j5] at hrs;by_cases h4:4096<al D
      ·rw [Yt h4] at hrs;have hra:=fun w1 hT1 hb hE=>(hrs w1 hT1 hb hE fun _ h=>nomatch h).mono fun r w' h=>show r=TM 3∧Below w1.heap.size w1 w' from by
        rcases h with ⟨h|h,hb2⟩|h
        ·exact absurd (rX f hmem) h.1
        ·exact ⟨h.2.2,hb2⟩
        ·exact nomatch h.2.1
       refine bj hh (hra _ (hT.hp hh) hh.below (hh.az (i:=2) rfl)) rfl ?_;intro w59 hh;refine mT ?_;refine cx ?_;refine cx ?_;refine bC hh ?_;intro b13 w13 hh;refine bg hh 0 [_,_] ?_;intro ws hh;replace hh:Hp _ (.blk _ _ [_,_] _::_) _:=hh;refine aI (aa (ah (sr (mI ?_))));refine dn (aa (cT (sr (mI (aL (aI (aa (av (aF (bU (aF (aF (bU (aF ?_))))))))))))));refine yf ?_;rw [Yt h4];exact .inl ⟨Yp,rfl,hh.below⟩
      ·rw [Yu h4] at hrs;have hnn2:f.ds.map Int.toNat=f.ns:=rfl;rw [hnn2] at hrs;have hfc:al f.ns≤200:=by
        have h1:=(FX.fv (rX f hmem)).2.2.2.2.1;have h2:=(hf f hmem).nm.bk NR.len Yp;have h3:=hm f hmem;omega
       have hmul:al D*al f.ns≤1000000:=Y1 (Z5 (abI h4) hfc) Yp;have hra:=fun w1 hT1 hb hE=>(hrs w1 hT1 hb hE fun _ _=>hmul).mono fun r w' h=>show ∃g:FX,PF D (lh D f) g∧r=.returned (.tuple #[.agg #[.slice g.A g.n g.a,.slice g.B g.m g.b],.int .i64 0])∧Hp w1 [g.kB,g.kD] w' from by
        rcases h with ⟨h|h,hb2⟩|⟨_,_,A1,a1,B1,b1,rfl,h2⟩
        ·exact absurd (rX f hmem) h.1
        ·exact absurd rfl h.2.1
        ·exact ⟨⟨A1,f0.n,a1,B1,al D,b1,bq D,_⟩,⟨rfl,rfl,by rw [←hA0];exact hDl.symm,rfl⟩,rfl,h2⟩
       refine ay (hra _ (hT.hp hh) hh.below (hh.az (i:=2) rfl)) au.out rfl Yp ?_;rintro e_ w59 ⟨g,hu,rfl,h2⟩;refine ⟨_,rfl, ?_⟩;replace hh:=hh.join h2;clear h2;refine mT ?_;refine cx ?_;refine cx ?_;refine bC hh ?_;intro b13 w13 hh;refine bg hh 0 [_,_] ?_;intro ws hh;replace hh:Hp _ (.blk _ _ [_,_] _::_) _:=hh;refine aI (aa (ah (sr (mI ?_))));refine dn (aa (cF (aq (ai (ak (mL ?_))))));refine bJ hh 0 [_,_] ?_;refine cW hh (cs:=[_,_]) bG.out aJ.out (bQ (gl rfl) dN) rfl rfl Yp Yp Yp rfl Yp ?_;intro b67 w67 hh;refine SA ?_;intro A68 c68 w68 hh;simp only [Y8] at hh;replace hh:=hh.sub (Zc _ _);refine lE ?_;refine a8 (mI (aD (ai ?_)));replace hh:=hh.sub (Yw _ (Yv _ (Yv _ (Yw _ (Yv _ (Yv _ (Zq _)))))));replace hh:=hh.perm (H':=.row A68 (j+1) c68 25 2 (aA FX.cells (gs++[g]))::.row A24 f0.n c24 3 1 (bD (bq D))::IU (gs++[g]).reverse) (by
        rw [aa8,bM];exact List.perm_append_comm_assoc [g.kB,g.kD] [_,_] _)
       refine ⟨⟨j+1,c68,A68,gs++[g],Yo,rfl,rfl,by rw [YE,hgl];rfl,fun _=>h4,fun t f' g' hf' hg'=> ?_,hh⟩,by show i-(j+1)<i-j;omega, ?_⟩
       ·by_cases ht:t<j
        ·rw [aav Yo] at hg';exact hup t f' g' hf' hg'
        ·have htl:=(YL.1 hg').1;rw [YE,hgl] at htl;obtain rfl:t=j:=by have:t<j+1:=htl;omega
         rw [ZC Yo,hgl,Zn] at hg';rw [hx] at hf';obtain rfl:=Zg hf';obtain rfl:g=g':=Zg hg';exact hu
       ·exact er
     ·obtain rfl:j=i:=Yo;have h4:=hno Yo;refine sr ?_;refine a9 (aa (ah (cF (aX (aE (aE (bA (ai (sr (mL (aL (aI (aa (av ?_))))))))))))));refine yf ?_;rw [Yu h4];exact .inr ⟨rfl,A,c10,gs,rfl,hgl,hup,hh.sub (Yv _ (Zc _ _))⟩
 ·rw [Yt h0];refine aj (N:=71) (l:=[.slice L n c]) Tryz.func74 rfl rfl (by simp) ?_;refine sr (aL (aI (aa (ah (sr (mL ?_))))));refine yS ?_;intro w16 hh;refine aI (aa (sr (mI ?_)));refine dn (aa (cT (sr (mI (aL (aI (aa (av (aF ?_)))))))));refine yf ?_;exact .inl ⟨h0,rfl,hh.below⟩
theorem Cj (f g:FX) (k:Nat) (w:World) (hT:dP w) (hf:f.at_ w) (hg:g.at_ w) (hlf:f.jX k) (hlg:g.jX k) (hmf:f.m≤200) (hmg:g.m≤200) (hk:k≤90000):
  Calls Tryz.prog 33 #[.agg #[.slice f.A f.n f.a,.slice f.B f.m f.b],.agg #[.slice g.A g.n g.a,.slice g.B g.m g.b]] w fun r w'=>
   (cV [f,g]≠0∧r=.returned (.tuple #[.agg #[.slice none 0 0,.slice none 0 0],.agg #[.slice none 0 0,.slice none 0 0],.int .i64 (cV [f,g])])∧Below w.heap.size w w')∨
   (cV [f,g]=0∧∃x y:FX,PF (maxD [f,g]) (lh (maxD [f,g]) f) x∧PF (maxD [f,g]) (lh (maxD [f,g]) g) y∧r=.returned (.tuple #[.agg #[.slice x.A x.n x.a,.slice x.B x.m x.b],.agg #[.slice y.A y.n y.a,.slice y.B y.m y.b],.int .i64 0])∧Hp w [y.kB,y.kD,x.kB,x.kD] w'):=by
 have hh:=Hp.start w;have hall:∀x∈[f,g],x.at_ w∧x.jX k∧x.m≤200:=by simpa using ⟨⟨hf,hlf,hmf⟩,hg,hlg,hmg⟩
 have hrs:=fun A c w1 hT1 hS1 hb=>xJ A 2 c [f,g] k w1 hT1 hS1 Yp (fun x hx=>(hall x hx).1.ext hb) (fun x hx=>(hall x hx).2.1) (fun x hx=>(hall x hx).2.2) hk;generalize cV [f,g]=e at*;generalize maxD [f,g]=D at*;by_cases h0:e=0
 ·have hra:=fun A c w1 hT1 hS1 hb=>(hrs A c w1 hT1 hS1 hb).mono fun r w' h=>show ∃(B:Option Addr) (a:Nat) (x y:FX),PF D (lh D f) x∧PF D (lh D g) y∧r=.returned (.tuple #[.slice B 2 a,.int .i64 0])∧Hp w1 [.row B 2 a 25 2 (aA FX.cells [x,y]),y.kB,y.kD,x.kB,x.kD] w' from by
   rcases h with h|⟨_,B,a,gs,h1,h2,h3,h4⟩
   ·exact absurd h0 h.1
   ·obtain ⟨x,y,rfl⟩:∃x y,gs=[x,y]:=by
     match gs,h2 with
     |[x,y],_=>exact ⟨x,y,rfl⟩
    exact ⟨B,a,x,y,h3 0 f x rfl rfl,h3 1 g y rfl rfl,h1,h4⟩
  refine SL ?_;refine sr ?_;refine bO hh [_,_] ?_;intro b2 w2 hh;refine bO hh [_,_] ?_;intro b3 w3 hh;refine bC hh ?_;intro b4 w4 hh;refine bC hh ?_;intro b5 w5 hh;refine aI (aa (sr ?_));refine bJ hh 3 [_,_] ?_;refine bJ hh 2 [_,_] ?_;refine y6 ?_;intro b11 w11 hh;refine ay (hra _ _ _ (hT.hp hh) (hh.az (i:=0) rfl) hh.below) au.out rfl Yp ?_;rintro e_ w12 ⟨B,a,x,y,hx,hy,rfl,h2⟩;refine ⟨_,rfl, ?_⟩;replace hh:=hh.join h2;obtain ⟨go,rfl⟩:=hh.cq (i:=0) rfl Yo;refine mT ?_;refine cx ?_;refine cx ?_;refine aL (aI (aa (ah (sr (mI ?_)))));refine dn (aa (cF (aq (ai (ah ?_)))));have hx0:[x,y][0]?=some x:=rfl;have hy0:[x,y][1]?=some y:=rfl;refine kO [3,4,5] [0,1,3,0,8,24,7,127,255] 6 [[(7,none)],[(20,some 0)],[(21,some 1)],[(7,none)],[(23,some 3)],[(24,some 4)]] [(5,25),(4,24),(3,23),(2,22),(1,21),(0,20)] [([],5,[(2,22),(1,21),(0,20)]),([3],4,[(3,23),(2,22),(1,21),(0,20)]),([3,4],3,[(4,24),(3,23),(2,22),(1,21),(0,20)]),([3,4,5],2,[(5,25),(4,24),(3,23),(2,22),(1,21),(0,20)])] hh mixed Yq Yq Yp ?_;refine gI ?_
  refine bB (i:=1) (fun ρ1 w1 hj hR=>ew bG.out aJ.size (show ρ1 20=Value.slice _ _ _ from hR.1) rfl Yo Yo) ?_;refine pW [_,_] (fun _ hj=>hj.hp.dT (f:=FX.cells) (x:=x) (l:=[x,y]) (i:=0) rfl FX.len Yp hx0) ?_;refine gI ?_;refine bB (i:=4) (fun ρ1 w1 hj hR=>ew bG.out aJ.size (show ρ1 23=Value.slice _ _ _ from hR.1) rfl Yo Yo) ?_;refine pW [_,_] (fun _ hj=>hj.hp.dT (f:=FX.cells) (x:=y) (l:=[x,y]) (i:=0) rfl FX.len Yp hy0) ?_;refine aH ?_;intro p_ hp_;simp only [YH,ZN,or_false] at hp_
  rcases hp_ with rfl|rfl|rfl|rfl
  ·intro f W hJ hV;have hb_4:=hJ.bl;obtain ⟨v22,v21,v20,_⟩:=hV;simp only [ix];have e20:f 0=_:=v20;rw [e20];have e21:f 1=_:=v21;rw [e21];have e22:f 2=_:=v22;rw [e22];replace hh:=hJ.hp;clear e20 e21 e22 hJ;refine bg hh 7 [_,_] ?_;intro ws hh;replace hh:Hp _ (_::_::_::_::_::_::_::.blk _ _ [_,_] _::_) _:=hh;refine eA ?_;refine fC (i:=3) Yq rfl ?_;refine mL ?_;exact SK
  ·intro f W hJ hV;have hb_4:=hJ.bl;obtain ⟨v23,v22,v21,v20,_⟩:=hV;simp only [ix];have e20:f 0=_:=v20;rw [e20];have e21:f 1=_:=v21;rw [e21];have e22:f 2=_:=v22;rw [e22];have e23:f 3=_:=v23;rw [e23];replace hh:=hJ.hp;clear e20 e21 e22 e23 hJ;refine bg hh 7 [_,_] ?_;intro ws hh;replace hh:Hp _ (_::_::_::_::_::_::_::.blk _ _ [_,_] _::_) _:=hh;exact SK
  ·intro f W hJ hV;have hb_4:=hJ.bl;obtain ⟨v24,v23,v22,v21,v20,_⟩:=hV;simp only [ix];have e20:f 0=_:=v20;rw [e20];have e21:f 1=_:=v21;rw [e21];have e22:f 2=_:=v22;rw [e22];have e23:f 3=_:=v23;rw [e23];have e24:f 4=_:=v24;rw [e24];replace hh:=hJ.hp;clear e20 e21 e22 e23 e24 hJ;refine bg hh 7 [_,_] ?_;intro ws hh;replace hh:Hp _ (_::_::_::_::_::_::_::.blk _ _ [_,_] _::_) _:=hh;exact Tc
  ·intro f W hJ hV;have hb_4:=hJ.bl;obtain ⟨v25,v24,v23,v22,v21,v20,_⟩:=hV;simp only [ix];have e20:f 0=_:=v20;rw [e20];have e21:f 1=_:=v21;rw [e21];have e22:f 2=_:=v22;rw [e22];have e23:f 3=_:=v23;rw [e23];have e24:f 4=_:=v24;rw [e24];have e25:f 5=_:=v25;rw [e25];replace hh:=hJ.hp;clear e20 e21 e22 e23 e24 e25 hJ;refine bg hh 7 [_,_] ?_;intro ws hh;replace hh:Hp _ (_::_::_::_::_::_::_::.blk _ _ [_,_] _::_) _:=hh;exact U7
 ·have hra:=fun A c w1 hT1 hS1 hb=>(hrs A c w1 hT1 hS1 hb).mono fun r w' h=>show r=.returned (.tuple #[.slice none 0 0,.int .i64 e])∧Below w1.heap.size w1 w' from by
   rcases h with h|h
   ·exact h.2
   ·exact absurd h.1 h0
  refine SL ?_;refine sr ?_;refine bO hh [_,_] ?_;intro b2 w2 hh;refine bO hh [_,_] ?_;intro b3 w3 hh;refine bC hh ?_;intro b4 w4 hh;refine bC hh ?_;intro b5 w5 hh;refine aI (aa (sr ?_));refine bJ hh 3 [_,_] ?_;refine bJ hh 2 [_,_] ?_;refine y6 ?_;intro b11 w11 hh;refine bj hh (hra _ _ _ (hT.hp hh) (hh.az (i:=0) rfl) hh.below) rfl ?_;intro w12 hh;refine mT ?_;refine cx ?_;refine cx ?_;refine aL (aI (aa (ah (sr (mI ?_)))));refine dn (aa (cT (sr ?_)));refine fe [_,_] ?_;refine fe [_,_] (mI ?_);refine bg hh 2 [_,_] ?_;intro ws hh;replace hh:Hp _ (_::_::.blk _ _ [_,_] _::_) _:=hh;refine bg hh 1 [_,_] ?_;intro ws hh;replace hh:Hp _ (_::.blk _ _ [_,_] _::_) _:=hh;refine aI (aa (av (aF ?_)));refine JZ (cj rfl (cf (vs:=[_,_]) aJ.out (hh.aQ (i:=2) (n:=2) rfl rfl) rfl) (cj rfl (cf (vs:=[_,_]) aJ.out (hh.aQ (i:=1) (n:=2) rfl rfl) rfl) (eB (fg rfl) dw))) ?_;exact .inl ⟨h0,rfl,hh.below⟩
variable {fs:List FX}
def VO (a b:List Dyadic):List Dyadic:=List.zipWith (· + ·) a b
def X7:List (List Dyadic)→List Dyadic
 |[]=>[]
 |x::l=>l.foldl VO x
def X1 (a b:List Dyadic) (j:Nat):List Dyadic:=(VO a b).take j++a.drop j
theorem uz {f:FX}{D:List Nat} (hlen:D.length=f.ns.length) (hle:∀(i x y:Nat),f.ns[i]?=some x→D[i]?=some y→x≤y):(lh D f).length=al D:=by
 unfold lh qb xt;rw [jS,uL hlen.symm hle]
theorem mE (h:jT fs=0) (hln:∀f∈fs,f.ds.length=f.n):∀f∈fs,(maxD fs).length=f.ns.length∧(∀(i x y:Nat),f.ns[i]?=some x→(maxD fs)[i]?=some y→x≤y)∧∀d∈maxD fs,d≤127:=fun f hm=>by
 obtain ⟨hne,rX,hnv⟩:=oS h;obtain ⟨f0,ft,rfl⟩:=List.exists_cons_of_ne_nil hne;have hns:∀g∈f0::ft,g.ns.length=f0.n:=fun g hg=>by
  unfold FX.ns;rw [YI,hln g hg,hnv g hg]
  rfl
 have hDe:maxD (f0::ft)=((f0::ft).map FX.ns).foldl kq f0.ns:=by
  unfold maxD;rw [List.foldl_map]
  rfl
 have h0:=hns f0 YD;obtain ⟨h1,_,h3⟩:=Bw ((f0::ft).map FX.ns) f0.ns fun l hl=>by
  obtain ⟨g,hg,rfl⟩:=YF.1 hl;rw [hns g hg,h0]
 rw [hDe];refine ⟨by rw [h1,h0,hns f hm],h3 f.ns (YF.2 ⟨f,hm,rfl⟩),Aq 127 _ _ (FX.fv (rX f0 YD)).2.2.2.1 fun l hl=> ?_⟩;obtain ⟨g,hg,rfl⟩:=YF.1 hl;exact (FX.fv (rX g hg)).2.2.2.1
def Xr (f g:FX):Int:=if jT [f,g]≠0 then jT [f,g] else if AF (eS f.ns g.ns)=true then 3 else 0
def XZ (a b:List Nat) (j:Nat):List Nat:=(eS a b).take j++a.drop j
theorem l6 (s:ByteArray) (n:Int) (w:World) (hs:s.size≤9223372036854775807):
  Calls Tryz.prog 115 #[.string s,.int .i64 n] w fun e w'=>e=.returned (.bool (fR s.data.toList && decide ((s.size:Int)=n)))∧Below w.heap.size w w':=by
 refine aj (N:=20) (l:=[.string s,.int .i64 n]) Tryz.func115 rfl rfl (by simp) ?_;refine sr (aB (aa (ah (sr (mS ?_)))));refine ck bG.out rfl Yp ?_;refine mI (aa (ar ?_));refine aT [4,5,8,9,10,11,12,13,14,15] 8
  (fun v w'=>∃k:Nat,k≤s.size∧v=.int .i64 k∧fR (s.data.toList.take k)=true∧w'=w)
  (fun v _=>s.size-(intOf v).toNat) ?_ ?_
 ·exact ⟨0,Yx _,rfl,rfl,rfl⟩
 ·rintro ρ' v w' ⟨k,hk,rfl,hm,rfl⟩;by_cases hlt:k<s.size
  ·obtain ⟨c,hc⟩:=ao (l:=s.data.toList) (k:=k) (by rw [←fJ];exact hlt);have hb:=c.toNat_lt;by_cases h8:c.toNat<128
   ·refine sr ?_;refine a9 (aa (ah (cT (aq (ai (ah (ar (sr (mI (aI (aa (sr (mS (mI ?_))))))))))))));refine k4 ?_;refine bT (aa (cF (aq (bz (ai (ak ?_))))));refine a8 (mI (aD (ai ?_)));exact Ro
   ·refine sr ?_;refine a9 (aa (ah (cT (aq (ai (ah (ar (sr (mI (aI (aa (sr (mS (mI ?_))))))))))))));refine k4 ?_;refine bT (aa (cT (sr (aB (aa (av (bU (aF (aF (bU (aF ?_)))))))))));refine dH ?_;rw [D3 hc h8];exact ⟨rfl,Below.refl _ _⟩
  ·refine sr ?_;refine a9 (aa (ah (cF (aX (aE (aE (bA (ai (sr (mS ?_))))))))));exact VJ
theorem nI (s:ByteArray) (w:World) (hs:s.size≤9223372036854775807):
  Calls Tryz.prog 115 #[.string s,.int .i64 s.size] w fun e w'=>e=.returned (.bool (fR s.data.toList))∧Below w.heap.size w w':=by
 have h:=l6 s s.size w hs;simpa using h
theorem Fj (s:ByteArray) (n:Int) (w:World) (hs:s.size≤9223372036854775807):
  Calls Tryz.prog 119 #[.string s,.int .i64 n] w fun e w'=>e=.returned (.bool (fR s.data.toList && decide ((s.size:Int)=n)))∧Below w.heap.size w w':=by
 refine aj (N:=20) (l:=[.string s,.int .i64 n]) Tryz.func119 rfl rfl (by simp) ?_;refine sr (aB (aa (ah (sr (aI (aa (ar ?_)))))));refine aT [4,5,6,7,8,9,10,11,12,13,14,15] 5
  (fun v w'=>∃k:Nat,k≤s.size∧v=.int .i64 k∧fR (s.data.toList.take k)=true∧w'=w)
  (fun v _=>s.size-(intOf v).toNat) ?_ ?_
 ·exact ⟨0,Yx _,rfl,rfl,rfl⟩
 ·rintro ρ' v w' ⟨k,hk,rfl,hm,rfl⟩;by_cases hlt:k<s.size
  ·obtain ⟨c,hc⟩:=ao (l:=s.data.toList) (k:=k) (by rw [←fJ];exact hlt);have hb:=c.toNat_lt;by_cases h8:c.toNat<128
   ·refine ah (sr (mI (mS ?_)));refine ck bG.out rfl Yp ?_;refine a9 (aa (cT (aq (ai (ah (ar (sr (mS (mI ?_)))))))));refine k4 ?_;refine dF (aa (cF (aq (bz (ai (ak (mI ?_)))))));refine a8 (aI (aD (ai ?_)));exact Ro
   ·refine ah (sr (mI (mS ?_)));refine ck bG.out rfl Yp ?_;refine a9 (aa (cT (aq (ai (ah (ar (sr (mS (mI ?_)))))))));refine k4 ?_;refine dF (aa (cT (sr (aB (aa (av (bU (aF (aF (bU (aF ?_)))))))))));refine dH ?_;rw [D3 hc h8];exact ⟨rfl,Below.refl _ _⟩
  ·refine ah (sr (mI (mS ?_)));refine ck bG.out rfl Yp ?_;refine a9 (aa (cF (aX (aE (aE (bA (ai (sr (mS ?_)))))))));exact VJ
theorem KV (A:Option Addr) (n c:Nat) (xs:List Int) (w:World) (hsl:Sl w A n 1 (bD xs)) (hn:n≤100000):
  Calls Tryz.prog 264 #[.slice A n c] w fun e w'=>e=.returned (.tuple #[.string (str (OT xs)),.int .i64 (QC xs)])∧Below w.heap.size w w':=by
 have hlen:xs.length=n:=by have:=hsl.1;rw [cQ] at this;omega
 have hh:=Hp.start w;refine aj (N:=27) (l:=[.slice A n c]) Tryz.func264 rfl rfl (by simp) ?_;refine sr (aS (aI (aa (sr (aL (aa (ah (sr (mL (aM (mI (aa (ar ?_)))))))))))));refine bH [2,3,4,6,9,10,11,12,13,14,15,16,17,18,19,20,21,22,23,24] 4 9
  (fun b i w'=>∃(k c':Nat) (A':Option Addr),k≤n∧i=.int .i64 k∧b=.slice A' k c'∧(xs.take k).all eC=true∧Hp w [.row A' k c' 5 1 (nB ((xs.take k).map z5))] w')
  (fun _ v _=>n-(intOf v).toNat) ?_ ?_
 ·exact ⟨0,0,none,Yx _,rfl,rfl,rfl,hh.dm _ _⟩
 ·clear hh;rintro ρ' b i w' ⟨k,c',A',hk,rfl,rfl,hall,hh⟩;by_cases hlt:k<n
  ·obtain ⟨x,hx⟩:=ao (l:=xs) (k:=k) Yo;obtain ⟨ad,rfl,hr⟩:=(hsl.ext hh.below).at_ Yo;by_cases h0:x<0
   ·refine sr ?_;refine dI ?_;refine Hy ?_;refine bY aJ.out rfl (wq hr (cK hx) rfl) Yp ?_;refine aI (aa (ah (sr (mI ?_))));refine a9 (mB ?_);refine gS (gS ?_);refine gi ?_;exact U3
   ·by_cases h1:127<x
    ·refine sr ?_;refine dI ?_;refine Hy ?_;refine bY aJ.out rfl (wq hr (cK hx) rfl) Yp ?_;refine aI (aa (ah (sr (mI ?_))));refine a9 (mB (gT (mI (gT ?_))));refine bT ?_;refine fK ?_;exact U3
    ·have hok:eC x=true:=by simp [eC];omega
     refine sr ?_;refine dI ?_;refine Hy ?_;refine bY aJ.out rfl (wq hr (cK hx) rfl) Yp ?_;refine aI (aa (ah (sr (mI ?_))));refine a9 (mB (gT (mI (gT ?_))));refine bT ?_;refine fK ?_;refine aa (cF (aq (ai (ak (mL (mI ?_))))));refine wB bG.out bG.out rfl Yp ?_;refine vU ?_;intro b22 w22 hh;refine cu hh (i:=1) rfl rfl rfl (hh.az (i:=0) rfl) bG.out aJ.out rfl Yp rfl Yo Yo Yp ?_;intro A23 c23 w23 hh;simp only [YG,Y8] at hh;replace hh:=hh.sub (Zc _ _);refine lE ?_;refine a8 (mI (aD (ai ?_)));refine ⟨⟨k+1,c23,A23,Yo,rfl,rfl,Nc hx hall hok, ?_⟩,by show n-(k+1)<n-k;omega, ?_⟩
     ·rw [PT Yo Yo,Oq hx hok] at hh;exact hh
     ·exact er
  ·obtain rfl:k=n:=Yo;rw [YC Yo] at hall hh;obtain ⟨e1,e2⟩:=uD hall;refine sr ?_;refine oF ?_;refine tD bG.out bG.out bG.out rfl (hh.az (i:=0) rfl) Yp ?_;refine aS (aI (aa (av ?_)));refine yf ?_;rw [e1,e2];exact ⟨rfl,hh.below⟩
theorem j4 (s:ByteArray) (w:World) (hs:s.size≤100000):
  Calls Tryz.prog 153 #[.string s] w fun e w'=>∃A c,e=.returned (.slice A (kg s.data.toList).length c)∧w'.ownsRow w.heap.size 3 1 (.slice A (kg s.data.toList).length c) (kg s.data.toList).length (bD (kg s.data.toList))∧Below w.heap.size w w':=by
 have hh:=Hp.start w;have hsz:=fJ s
 cases hm:fR s.data.toList with
 |false=>
  refine aj (N:=22) (l:=[.string s]) Tryz.func153 rfl rfl (by simp) ?_;refine sr (aL (aa (ah (sr (mS (mS ?_))))));refine ck bG.out rfl Yp ?_;refine bj hh (nI s _ Yo) rfl ?_;intro w9 hh;rw [hm];refine ig ?_;refine aa (cT (sr (aL (aa (av (aF ?_))))));refine dH ?_;rw [LG hm];exact ⟨none,0,rfl,World.ownsRow_nil _ _ _ _,hh.below⟩
 |true=>
  refine aj (N:=22) (l:=[.string s]) Tryz.func153 rfl rfl (by simp) ?_;refine sr (aL (aa (ah (sr (mS (mS ?_))))));refine ck bG.out rfl Yp ?_;refine bj hh (nI s _ Yo) rfl ?_;intro w9 hh;rw [hm];refine ig ?_;refine aa (cF (aq (ai (sr (aL (aa (ah (sr (mS ?_)))))))));refine Bi hh bG.out rfl Yp ?_;intro b12 w12 hh;skip;refine aa (ar ?_);refine aT [3,5,13,14,15,16,17,18,19,20] 3
   (fun v w'=>∃(k c':Nat) (A':Option Addr),k≤s.size∧v=.slice A' k c'∧Hp w [.row A' k c' 3 1 (bD (ints (s.data.toList.take k))),.it b12 s k] w')
   (fun v _=>s.size-lenOf v) ?_ ?_
  ·exact ⟨0,0,none,Yx _,rfl,hh.dm _ _⟩
  ·clear hh;rintro ρ' v w' ⟨k,c',A',hk,rfl,hh⟩;by_cases hlt:k<s.size
   ·obtain ⟨c,hc⟩:=ao (l:=s.data.toList) (k:=k) Yo;have h8:=uj hm hc;refine sr ?_;refine An hh (i:=1) rfl rfl hc h8 Yp ?_;intro w13 hh;simp only [YG,Y8] at hh;skip;refine cx ?_;refine aa (ah (cT (aq (ai (ar (sr ?_))))));refine cx ?_;refine aI (aa (ak (mL (mI ?_))));refine vi ?_;refine vU ?_;intro b19 w19 hh;refine cu hh (i:=1) rfl rfl rfl (hh.az (i:=0) rfl) bG.out aJ.out rfl Yp rfl Yo Yo Yp ?_;intro A20 c20 w20 hh;simp only [YG,Y8] at hh;replace hh:=hh.sub (Zc _ _);refine aL (aD (bz (ai ?_)));rw [xw hc] at hh;refine ⟨⟨k+1,c20,A20,Yo,rfl,hh⟩,by show s.size-(k+1)<s.size-k;omega, ?_⟩;exact er
   ·refine sr ?_;refine AN hh (i:=1) rfl rfl hlt Yp ?_;skip;refine cx ?_;refine aa (ah (cF (aX (aE (aE (bA (ai (sr (mL (aL (aa (av ?_))))))))))));refine dH ?_;obtain rfl:k=s.size:=Yo;rw [YC Yo] at hh;have h1:=hh.at_ (i:=0) rfl;rw [mb hm,dz,←hsz];exact ⟨A',c',rfl,h1,hh.below⟩
theorem vQ (a b:ByteArray) (g:FuncId) (f:Int→Int→Int) (w:World) (ha:a.size≤100000) (hb:b.size≤100000) [au Tryz.prog g]
  (hg:∀(x y:Int) (w:World),0≤x→x≤127→0≤y→y≤127→Calls Tryz.prog g #[.int .i64 x,.int .i64 y] w fun e w'=>e=.returned (.int .i64 (f x y))∧Below w.heap.size w w'):
  Calls Tryz.prog 262 #[.string a,.string b,.func (.func g) #[] #[]] w fun e w'=>
   (kn f a.data.toList b.data.toList=none∧e=.returned (.tuple #[.slice none 0 0,.bool false])∧Below w.heap.size w w')∨
   ∃l,kn f a.data.toList b.data.toList=some l∧l.length=b.size∧∃A c,e=.returned (.tuple #[.slice A l.length c,.bool true])∧w'.ownsRow w.heap.size 3 1 (.slice A l.length c) l.length (bD l)∧Below w.heap.size w w':=by
 have hh:=Hp.start w;have hsa:=fJ a;have hsb:=fJ b
 cases hma:fR a.data.toList with
 |false=>
  refine Ln ?_;refine sr (aL (aB (aa (sr (mS ?_)))));refine ay (j4 b _ hb) au.out rfl Yp ?_;rintro e_ w12 ⟨A12,c12,rfl,hown_,hb_⟩;refine ⟨_,rfl, ?_⟩;replace hh:=hh.aP (x:=.row _ _ _ _ _ _) hb_ hown_;refine aL (aa (ah (sr (mS (mS ?_)))));refine ck bG.out rfl Yp ?_;refine bj hh (nI a _ Yo) rfl ?_;intro w16 hh;rw [hma];refine ig ?_;refine mB ?_;refine gS (gS (gS ?_));refine jR ?_;refine gS ?_;refine gi ?_;refine aa (cT (sr (aL (aB (aa (av (aF ?_)))))));refine yf ?_;exact .inl ⟨by simp [kn,hma],rfl,hh.below⟩
 |true=>
  cases hmb:(fR b.data.toList && decide ((b.size:Int)=a.size)) with
  |false=>
   refine Ln ?_;refine sr (aL (aB (aa (sr (mS ?_)))));refine ay (j4 b _ hb) au.out rfl Yp ?_;rintro e_ w12 ⟨A12,c12,rfl,hown_,hb_⟩;refine ⟨_,rfl, ?_⟩;replace hh:=hh.aP (x:=.row _ _ _ _ _ _) hb_ hown_;refine aL (aa (ah (sr (mS (mS ?_)))));refine ck bG.out rfl Yp ?_;refine bj hh (nI a _ Yo) rfl ?_;intro w16 hh;rw [hma];refine ig ?_;refine mB (gT (mS (gT (mS (gT ?_)))));refine ck bG.out rfl Yp ?_;refine aG rfl rfl ?_;refine bj hh (l6 b _ _ Yo) rfl ?_;intro w22 hh;rw [hmb];refine gT ?_;refine ig ?_;refine fK ?_;refine aa (cT (sr (aL (aB (aa (av (aF ?_)))))));refine yf ?_;have:(fR b.data.toList && decide ((b.data.toList.length:Int)=a.data.toList.length))=false:=by rw [←hsa,←hsb];exact hmb
   exact .inl ⟨by simp only [kn,hma,this];rfl,rfl,hh.below⟩
  |true=>
   have hmb2:=hmb;simp only [YP,YX] at hmb2;have hbl:kn f a.data.toList b.data.toList=some (List.zipWith f (ints a.data.toList) (ints b.data.toList)):=by
    have:(fR b.data.toList && decide ((b.data.toList.length:Int)=a.data.toList.length))=true:=by rw [←hsa,←hsb];exact hmb
    simp only [kn,hma,this];rfl
   have hea:=mb hma;have heb:=mb hmb2.1;have hlab:(ints a.data.toList).length=(ints b.data.toList).length:=by rw [dz,dz];omega
   have hlb:=dz b.data.toList;have hla:=dz a.data.toList;have hA:=j4 a;have hB:=j4 b;rw [hea] at hA;rw [heb] at hB;generalize hia:ints a.data.toList=ia at*;generalize hib:ints b.data.toList=ib at*;have bda:∀(k:Nat) (x:Int),ia[k]?=some x→0≤x∧x≤127:=fun k x h=>IV (l:=a.data.toList) (by rw [hea];exact h);have bdb:∀(k:Nat) (x:Int),ib[k]?=some x→0≤x∧x≤127:=fun k x h=>IV (l:=b.data.toList) (by rw [heb];exact h);clear hea heb;refine Ln ?_;refine sr (aL (aB (aa (sr (mS ?_)))));refine ay (hB _ hb) au.out rfl Yp ?_;rintro e_ w12 ⟨A12,c12,rfl,hown_,hb_⟩;refine ⟨_,rfl, ?_⟩;replace hh:=hh.aP (x:=.row _ _ _ _ _ _) hb_ hown_;refine aL (aa (ah (sr (mS (mS ?_)))));refine ck bG.out rfl Yp ?_;refine bj hh (nI a _ Yo) rfl ?_;intro w16 hh;rw [hma];refine ig ?_;refine mB (gT (mS (gT (mS (gT ?_)))));refine ck bG.out rfl Yp ?_;refine aG rfl rfl ?_;refine bj hh (l6 b _ _ Yo) rfl ?_;intro w22 hh;rw [hmb];refine gT ?_;refine ig ?_;refine fK ?_;refine aa (cF (aq (ai (ah (sr (mS ?_))))));refine ay (hA _ ha) au.out rfl Yp ?_;rintro e_ w26 ⟨A26,c26,rfl,hown_,hb_⟩;refine ⟨_,rfl, ?_⟩
   replace hh:=hh.aP (x:=.row _ _ _ _ _ _) hb_ hown_;refine aM (mI (aa (ar ?_)));refine aT [9,10,28,29,30,31,32,33,34,35,36,37,38,39,40,41,42,43] 28
    (fun i w'=>∃k:Nat,k≤ib.length∧i=.int .i64 k∧Hp w [.row A26 ia.length c26 3 1 (bD ia),.row A12 ib.length c12 3 1 (bD (oB f ia ib k))] w')
    (fun i _=>ib.length-(intOf i).toNat) ?_ ?_
   ·exact ⟨0,Yx _,rfl,by rw [Mv];exact hh⟩
   ·clear hh hown_ hb_;rintro ρ' i w' ⟨k,hk,rfl,hh⟩;by_cases hlt:k<ib.length
    ·obtain ⟨x,hx⟩:=ao (l:=ia) (k:=k) Yo;obtain ⟨y,hy⟩:=ao hlt;have bx:=bda k x hx;have byy:=bdb k y hy;have hx2:=cK hx;have hy2:=cK (Tk (f:=f) hlab hy);have hml:=Qr (f:=f) hlab hk;have hml2:=cQ (oB f ia ib k);obtain ⟨ga,rfl⟩:=hh.cq (i:=0) rfl Yo;obtain ⟨gb,rfl⟩:=hh.cq (i:=1) rfl Yo;refine sr ?_;refine dY ?_;refine DL ?_;refine kZ ?_;refine aI (aI (aa (ak (mL (mI ?_)))));refine iY ?_;refine mI (mL (mI ?_));refine DL ?_;refine bY aJ.out rfl (hh.iC (i:=1) rfl (by first|assumption|(simp only [YV];assumption))) Yp ?_;refine gU (hg x y _ bx.1 bx.2 byy.1 byy.2) au.out rfl rfl Yp ?_;rintro e_ w41 ⟨rfl,hb_⟩;refine ⟨_,rfl, ?_⟩;replace hh:=hh.ext hb_;refine DL ?_;refine MF ?_;intro ws hh;simp only [YG,Y8] at hh;refine gu ?_;refine a8 (mI (aD (ai ?_)));rw [YV,O6 hlab hx hy] at hh;refine ⟨⟨k+1,Yo,rfl,hh⟩,by show _-(k+1)<_-k;omega, ?_⟩;exact er
    ·refine sr ?_;refine a9 (aa (ah (cF (aX (aE (aE (bA (ai (sr (mL (aL (aB (aa (av ?_))))))))))))));refine yf ?_;obtain rfl:k=ib.length:=Yo;rw [LX hlab] at hh;have h1:=hh.at_ (i:=1) rfl;have hzl:(List.zipWith f ia ib).length=ib.length:=by simp [hlab]
     refine .inr ⟨_,hbl,Yo,A12,c12, ?_⟩;rw [hzl];exact ⟨rfl,h1,hh.below⟩
theorem JY (a b:ByteArray) (g:FuncId) (f:Int→Int→Int) (w:World) (ha:a.size≤100000) (hb:b.size≤100000) [au Tryz.prog g]
  (hg:∀(x y:Int) (w:World),0≤x→x≤127→0≤y→y≤127→Calls Tryz.prog g #[.int .i64 x,.int .i64 y] w fun e w'=>e=.returned (.int .i64 (f x y))∧Below w.heap.size w w')
  (h:kn f a.data.toList b.data.toList=none):
  Calls Tryz.prog 262 #[.string a,.string b,.func (.func g) #[] #[]] w fun e w'=>e=.returned (.tuple #[.slice none 0 0,.bool false])∧Below w.heap.size w w':=
 (vQ a b g f w ha hb hg).mono fun e w' hq=>by
  rcases hq with hq|⟨l,hl,_⟩
  ·exact hq.2
  ·rw [h] at hl;cases hl
theorem KM (a b:ByteArray) (g:FuncId) (f:Int→Int→Int) (w:World) (ha:a.size≤100000) (hb:b.size≤100000) [au Tryz.prog g]
  (hg:∀(x y:Int) (w:World),0≤x→x≤127→0≤y→y≤127→Calls Tryz.prog g #[.int .i64 x,.int .i64 y] w fun e w'=>e=.returned (.int .i64 (f x y))∧Below w.heap.size w w')
  {l:List Int} (h:kn f a.data.toList b.data.toList=some l):
  Calls Tryz.prog 262 #[.string a,.string b,.func (.func g) #[] #[]] w fun e w'=>∃A c,e=.returned (.tuple #[.slice A l.length c,.bool true])∧w'.ownsRow w.heap.size 3 1 (.slice A l.length c) l.length (bD l)∧Below w.heap.size w w':=
 (vQ a b g f w ha hb hg).mono fun e w' hq=>by
  rcases hq with ⟨hn,_⟩|⟨l',hl,_,hq⟩
  ·rw [h] at hn;cases hn
  ·rw [h] at hl;injection hl with hl;subst hl;exact hq
theorem JI {f:Int→Int→Int}{a b:List UInt8}{l:List Int} (h:kn f a b=some l):l.length≤b.length:=by
 unfold kn at h;split at h
 ·injection h with h;subst h;simp [ints];omega
 ·cases h
theorem wR (x y:Int) (w:World) (h1:0≤x) (h2:x≤127) (h3:0≤y) (h4:y≤127):
  Calls Tryz.prog 263 #[.int .i64 x,.int .i64 y] w fun e w'=>e=.returned (.int .i64 (x+y))∧Below w.heap.size w w':=by
 refine aj (N:=8) (l:=[.int .i64 x,.int .i64 y]) Tryz.func263 rfl rfl (by simp) ?_;refine sr (aI (aa (sr (mI (mI ?_)))));refine a8 (aI (aa (av ?_)));refine dH ?_;exact ⟨rfl,Below.refl _ _⟩
theorem JE (a b:ByteArray) (w:World) (ha:a.size≤100000) (hb:b.size≤100000):
  Calls Tryz.prog 257 #[.string a,.string b] w fun e w'=>e=.returned (.tuple #[.string (str (mulL a.data.toList b.data.toList).1),.int .i64 (mulL a.data.toList b.data.toList).2])∧Below w.heap.size w w':=by
 have hh:=Hp.start w;have hsb:=fJ b
 cases hbo:kn (· + ·) a.data.toList b.data.toList with
 |none=>
  refine aj (N:=20) (l:=[.string a,.string b]) Tryz.func257 rfl rfl (by simp) ?_;refine sr (aS (aI (aa (sr (mS (mS ?_))))));refine bj hh (JY a b _ _ _ ha hb wR hbo) rfl ?_;intro w11 hh;refine mT ?_;refine cx ?_;refine cx ?_;refine aL (aB (aa (ah (sr (mB ?_)))));refine ig ?_;refine aa (cT (sr (aS (aI (aa (av (aF ?_)))))));refine yf ?_;simp only [mulL,hbo];exact ⟨rfl,hh.below⟩
 |some l=>
  have hl:=JI hbo;refine aj (N:=20) (l:=[.string a,.string b]) Tryz.func257 rfl rfl (by simp) ?_;refine sr (aS (aI (aa (sr (mS (mS ?_))))));refine ay (KM a b _ _ _ ha hb wR hbo) au.out rfl Yp ?_;rintro e_ w11 ⟨A11,c11,rfl,hown_,hb_⟩;refine ⟨_,rfl, ?_⟩;replace hh:=hh.aP (x:=.row _ _ _ _ _ _) hb_ hown_;refine mT ?_;refine cx ?_;refine cx ?_;refine aL (aB (aa (ah (sr (mB ?_)))));refine ig ?_;refine aa (cF (aq (ai (sr (mL ?_)))));refine bj hh (KV _ _ _ _ _ (hh.az (i:=0) rfl) Yo) rfl ?_;intro w17 hh;refine cx ?_;refine cx ?_;refine aS (aI (aa (av ?_)));refine yf ?_;simp only [mulL,hbo];exact ⟨trivial,hh.below⟩
def Yj (n:Nat) (k:Int):Dyadic:=if k<0∨(n:Int)<k then 0 else nD (bin n k.toNat)
def XP (ns:List Nat):List ByteArray:=(Tf (bq ns)).map fX
def Yg (ds es:List Nat) (xs ys:List Dyadic) (i m:Nat):List (Nat×Dyadic):=(List.range m).map fun k=>(dV (dW ds es) (dW (bW ds i) (bW es k)),(xs[i]?).getD 0*(ys[k]?).getD 0)
def Ym (ds es:List Nat) (xs ys:List Dyadic) (i:Nat):List (Nat×Dyadic):=(List.range i).flatMap fun i=>Yg ds es xs ys i (al es)
def bS (rs:List Nat):List UInt8:=(bq rs).map z5
def QO (ns:List Nat) (a:Nat):List Nat:=ns.set a (ns.getD a 0+1)
def Yk (ns:List Nat) (a:Nat) (xs:List Dyadic):List Dyadic:=
 (List.range (al (QO ns a))).map fun p=>co ns.reverse xs (bW (QO ns a).reverse p)+if 0<(bW (QO ns a).reverse p).getD (ns.length-1-a) 0 then co ns.reverse xs (WX (bW (QO ns a).reverse p) (ns.length-1-a)) else 0
theorem pS:∀(ds rs:List Nat),l5 ds rs↔rs.length=ds.length∧∀(i d r:Nat),ds[i]?=some d→rs[i]?=some r→r≤d
 |[],[]=>by simp [l5]
 |[],_::_=>by simp [l5]
 |_::_,[]=>by simp [l5]
 |d::ds,r::rs=>by
  rw [l5,pS ds rs];constructor
  ·rintro ⟨h1,h2,h3⟩;refine ⟨by rw [Y3,Y3,h2],fun i e s he hs=> ?_⟩
   cases i with
   |zero=>cases he;cases hs;exact h1
   |succ i=>exact h3 i e s he hs
  ·rintro ⟨h1,h2⟩;exact ⟨h2 0 d r rfl rfl,by simpa using h1,fun i e s he hs=>h2 (i+1) e s he hs⟩
def XQ (ns:List Nat) (xs:List Dyadic) (cs:List Nat) (zs:List Dyadic):Prop:=zs.length=al cs∧cs.length=ns.length∧(∀(i n c:Nat),ns[i]?=some n→cs[i]?=some c→n≤c)∧∀row:List Nat,row.length=ns.length→co cs.reverse zs row=Xu (je cs ns).reverse (co ns.reverse xs) row
def XA (w:World) (b i:Nat):Int:=match w.cell? ⟨b,0,none⟩ with
 |some (.slice (some a) _ _)=>match w.cell? (a.add (i*1)) with
  |some (.int _ z)=>z
  |_=>0
 |_=>0
structure RS (ns ts:List Nat) (xs:List Dyadic) (k n:Nat) (F FC:Option Addr) (c1 c2 i T:Nat) (cur:List Nat) (zs:List Dyadic) (A B:Option Addr) (ca cb:Nat) (R:List HE) (w:World):Prop where
 Bn:XQ ns xs cur zs
 le:∀(j c t:Nat),cur[j]?=some c→ts[j]?=some t→c≤t
 eq:∀(j c t:Nat),j<i→cur[j]?=some c→ts[j]?=some t→c=t
 sz:∀x∈zs,Sz (k+T) x
 src:(A=F∧ca=c1∧B=FC∧cb=c2∧cur=ns∧zs=xs)∨R=[.row B (al cur) cb 33 3 (aA NR.cells (zs.map nR)),.row A n ca 3 1 (bD (bq cur))]
 rd:∀(H:List HE) (w':World),Hp w (H++R) w'→Sl w' A n 1 (bD (bq cur))∧Sl w' B (al cur) 3 (aA NR.cells (zs.map nR))
theorem FX.at_.ln {g:FX} (h:g.at_ w):g.ds.length=g.n∧g.cs.length=g.m:=⟨by have:=h.dg.1;rw [cQ] at this;omega,h.nm.bk NR.len Yp⟩
def Kept (fs:List FX) (R:List HE) (g:FX):Prop:=g∈fs∨(g.kB∈R∧g.kD∈R)
variable {E:Int}{w0:World}
def Va (E:Int) (D:List Nat):List Int:=if E=0 then bq D else []
def VG (E:Int) (ys:List Dyadic):List NR:=if E=0 then ys.map nR else []
structure Out (E:Int) (D:List Nat) (ys:List Dyadic) (g:FX):Prop where
 ds:g.ds=Va E D
 cs:g.cs=VG E ys
 n:g.n≤100000
 m:g.m≤1000000
def FX.nil:FX:=⟨none,0,0,none,0,0,[],[]⟩
theorem Hp.OU {H:List HE} (h:Hp w0 H w):Hp w0 (FX.nil.kB::FX.nil.kD::H) w:=(h.dm 3 1).dm 33 3
theorem Out.err {D:List Nat}{ys:List Dyadic} (h:E≠0):Out E D ys FX.nil:=⟨by unfold Va;rw [Yu h];rfl,by unfold VG;rw [Yu h];rfl,Yx _,Yx _⟩
theorem PF.out {D:List Nat}{ys:List Dyadic}{g:FX} (h:PF D ys g) (h1:D.length≤1000) (h2:al D≤4096):Out 0 D ys g:=⟨h.ds,h.cs,by rw [h.n];omega,by rw [h.m];omega⟩
theorem oN {fs:List FX} (h:cV fs=0) (hln:∀f∈fs,f.ds.length=f.n):jT fs=0∧(maxD fs).length≤1000∧al (maxD fs)≤4096:=by
 have hlk:jT fs=0:=by
  unfold cV at h;split at h
  ·rename_i h2;exact absurd h h2
  ·rename_i h2;simpa using h2
 obtain ⟨hne,rX,_⟩:=oS hlk;obtain ⟨f0,ft,rfl⟩:=List.exists_cons_of_ne_nil hne;have h1:=(mE hlk hln f0 YD).1;have h2:=(FX.fv (rX f0 YD)).2.2.1;refine ⟨hlk,Yo, ?_⟩;unfold cV at h;rw [Yu Yo] at h;split at h
 ·cases h
 ·omega
def WG (f:FX) (es:List Int):Int:=if f.e≠0 then f.e else Kl f.ds es
theorem GQ (f g:FX) (k:Nat) (w:World) (hT:dP w) (hf:f.at_ w) (hg:g.at_ w) (hlf:f.jX k) (hlg:g.jX k) (hmf:f.m≤200) (hmg:g.m≤200) (hk:k≤90000):
  Calls Tryz.prog 33 #[.agg #[.slice f.A f.n f.a,.slice f.B f.m f.b],.agg #[.slice g.A g.n g.a,.slice g.B g.m g.b]] w fun r w'=>∃x y:FX,Out (cV [f,g]) (maxD [f,g]) (lh (maxD [f,g]) f) x∧Out (cV [f,g]) (maxD [f,g]) (lh (maxD [f,g]) g) y∧r=.returned (.tuple #[.agg #[.slice x.A x.n x.a,.slice x.B x.m x.b],.agg #[.slice y.A y.n y.a,.slice y.B y.m y.b],.int .i64 (cV [f,g])])∧Hp w [y.kB,y.kD,x.kB,x.kD] w':=by
 refine (Cj f g k w hT hf hg hlf hlg hmf hmg hk).mono fun r w' h=> ?_
 rcases h with ⟨h,rfl,hb⟩|⟨h,x,y,hx,hy,rfl,h2⟩
 ·exact ⟨FX.nil,FX.nil,.err h,.err h,rfl,((Hp.start w).ext hb).OU.OU⟩
 ·obtain ⟨_,h3,h4⟩:=oN h (by simpa using ⟨hf.ln.1,hg.ln.1⟩);rw [h];exact ⟨x,y,hx.out h3 h4,hy.out h3 h4,rfl,h2⟩
def FX.key (f:FX):List Int×List NR×Nat:=(f.ds,f.cs,f.n)
theorem KW:∀{fs gs:List FX},fs.map FX.key=gs.map FX.key→jT fs=jT gs∧cV fs=cV gs∧maxD fs=maxD gs∧∀D,fs.map (lh D)=gs.map (lh D):=fun {fs gs} h=>by
 have e1:∀(p:List Int×List NR×Nat→Bool) (l:List FX),l.any (fun f=>p f.key)=(l.map FX.key).any p:=fun p l=>by rw [List.any_map];rfl
 have hn:fs.map FX.n=gs.map FX.n:=by
  have:=Ze (List.map (fun x:List Int×List NR×Nat=>x.2.2)) h;rwa [Zs,Zs] at this
 have hl:fs.length=gs.length:=by have:=Ze List.length h;simpa using this
 have hlike:jT fs=jT gs:=by
  have ho:JH fs=JH gs:=by
   have a:=e1 (fun x=>decide (x.2.2≠(fs.map FX.n).headD 0)) fs;have b:=e1 (fun x=>decide (x.2.2≠(fs.map FX.n).headD 0)) gs;rw [h,←b] at a;unfold JH;rw [←hn];exact a
  have hf:(fs.find? (fun f=>decide (f.e≠0))).map FX.key=(gs.find? (fun f=>decide (f.e≠0))).map FX.key:=by
   have a:∀l:List FX,(l.find? (fun f=>decide (f.e≠0))).map FX.key=(l.map FX.key).find? (fun x=>decide (fE x.1 x.2.1≠0)):=fun l=>by rw [List.find?_map];rfl
   rw [a,a,h]
  unfold jT;rw [ho,hl]
  cases h1:fs.find? (fun f=>decide (f.e≠0)) with
  |none=>
   rw [h1] at hf
   cases h2:gs.find? (fun f=>decide (f.e≠0)) with
   |none=>rfl
   |some g=>rw [h2] at hf;cases hf
  |some f=>
   rw [h1] at hf
   cases h2:gs.find? (fun f=>decide (f.e≠0)) with
   |none=>rw [h2] at hf;cases hf
   |some g=>
    rw [h2] at hf;have hk:f.key=g.key:=Zg hf;unfold FX.key at hk;show fE f.ds f.cs=fE g.ds g.cs;injection hk with a b
    injection b with b c
    rw [a,b]
 have hmax:maxD fs=maxD gs:=by
  have a:∀l:List FX,maxD l=(l.map FX.key).foldl (fun a x=>kq a (x.1.map Int.toNat)) (((l.map FX.key).map fun x=>x.1.map Int.toNat).headD []):=fun l=>by unfold maxD;rw [List.foldl_map,Zs];rfl
  rw [a,a,h]
 refine ⟨hlike,by unfold cV;rw [hlike,hmax],hmax,fun D=> ?_⟩;have a:∀l:List FX,l.map (lh D)=(l.map FX.key).map fun x=>qb (x.1.map Int.toNat) D (x.2.1.map NR.d):=fun l=>by rw [Zs];rfl
 rw [a,a,h]
theorem M7 {D:List Nat}{ys:List Dyadic}{g:FX} (h:Out 0 D ys g) (h1:D.length≤12) (h2:∀d∈D,d≤127) (h3:ys.length=al D) (h4:al D≤4096):g.e=0∧g.ns=D∧g.cs.map NR.d=ys:=by
 have e1:g.ds=bq D:=h.ds;have e2:g.cs=ys.map nR:=h.cs;refine ⟨?_, ?_, ?_⟩
 ·unfold FX.e;rw [e1,e2];exact FV.ok (xs:=ys) ⟨rfl,rfl,h1,h2,h3,h4⟩
 ·unfold FX.ns;rw [e1];exact j5 D
 ·rw [e2,Zs];exact (ZV fun x _=>bL x).trans (List.map_id ys)
variable {X Y:List Dyadic}
theorem BV:∀{l:List Int}{o:Int},o≠2→(∀s∈l,s≠2)→D7 o l≠0→D7 o l=o∧∀s∈l,s=o
 |[],_,_,_,_=>⟨rfl,fun _ h=>absurd h ZN⟩
 |x::r,o,h1,h2,h3=>by
  unfold D7 at h3 ⊢;by_cases h:o=2∨o=x
  ·rw [Yt h] at h3 ⊢
   rcases h with h|rfl
   ·exact absurd h h1
   ·obtain ⟨h4,h5⟩:=BV h1 (fun s hs=>h2 s (YK _ hs)) h3;exact ⟨h4,fun s hs=>by
     rcases YH.1 hs with rfl|hs
     ·rfl
     ·exact h5 s hs⟩
  ·rw [Yu h] at h3;exact absurd rfl h3
theorem ID {l:List NR} (h:sj l≠0):∀a∈l,a.i.sign=sj l:=fun a ha=>by
 have hb:∀s∈l.map (fun a=>a.i.sign),s≠2:=fun s hs=>by
  obtain ⟨a,_,rfl⟩:=YF.1 hs;have:=rj a.i;omega
 unfold sj at h ⊢;have hm:a.i.sign∈l.map (fun a=>a.i.sign):=YF.2 ⟨a,ha,rfl⟩;generalize l.map (fun a=>a.i.sign)=L at*
 cases L with
 |nil=>exact absurd hm ZN
 |cons s r=>
  rw [D7,Yt (.inl rfl)] at h ⊢;obtain ⟨h4,h5⟩:=BV (hb s YD) (fun x hx=>hb x (YK _ hx)) h;rw [h4]
  rcases YH.1 hm with h|h
  ·exact h
  ·exact h5 _ h
theorem PA {y:Dyadic} (h:(nR y).i.sign≠0):y≠0:=fun e=>h (by rw [e,m7];rfl)
theorem P3 {l:List Dyadic} (h:sj (l.map nR)≠0):∀y∈l,y≠0:=fun y hy=>PA (by rw [ID h _ (YF.2 ⟨y,hy,rfl⟩)];exact h)
theorem vT {K:Nat}{x y:Dyadic} (p:Int) (hx:Sz K x) (hy:Sz K y) (h1: -1000≤p) (h2:p≤1000):Sz (4*K+2014) (EE x y p):=by
 obtain ⟨a1,a2,a3⟩:=hx.nr;obtain ⟨c1,c2,c3⟩:=hy.nr;have hb:=ij (nR x).neg (nR x).aY;have hM:bE (vB (nR x) (nR y) p).natAbs≤4*K+1007:=by
  unfold vB;split
  ·have:=j7 (nR x).i ((nR x).e-(nR y).e+p).toNat;unfold NR.i at*;omega
  ·unfold NR.i;omega
 have hI:bE (Gn (nR x) (nR y) p).natAbs≤4*K+1007:=by
  unfold Gn;split
  ·refine Y1 (dy (Zr (abd _ _) ?_)) hM;rw [Int.natAbs_neg];exact cR _
  ·exact Y1 (dy (Zr (abd _ _) (cR _))) hM
 unfold EE;generalize Gn (nR x) (nR y) p=q at*;have h3:=Sz.raw (a:=⟨iN q,iM q, -p⟩) (m:=4*K+1014) (E:=1000) (by show 8*(iM q).size≤_;rw [dL];omega) (by show -((1000:Nat):Int)≤ -p;omega) (by show -p≤((1000:Nat):Int);omega);have h4:(NR.mk (iN q) (iM q) (-p)).d=Dyadic.ofIntWithPrec q p:=by
  unfold NR.d NR.i;rw [eY,Int.neg_neg]
 rw [h4] at h3;exact h3.mono Yo
def ja (f g:FX):Int:=if cV [f,g]=0 then (if sj ((lh (maxD [f,g]) g).map nR)=0 then 4 else 0) else cV [f,g]
def JK:SR:=⟨⟨false,ByteArray.mk #[],0⟩,⟨false,ByteArray.mk #[],0⟩⟩
def mh (X Y:List Dyadic) (p:Int):List SR:=List.zipWith (fun x y=>JW x y p) X Y
def fG (f g:FX) (p:Int):SR:=if ja f g=0 then lR (mh (lh (maxD [f,g]) f) (lh (maxD [f,g]) g) p) else JK
theorem qM {p:Int}{i:Nat}{x y:Dyadic} (hx:X[i]?=some x) (hy:Y[i]?=some y):(mh X Y p)[i]?=some (JW x y p):=by
 unfold mh;rw [aaY,hx,hy]
theorem oI {p:Int} (h:X.length=Y.length):(mh X Y p).length=X.length:=by
 unfold mh;rw [abN];omega
theorem tC (f g:FX) (k:Nat) (p:Int) (w:World) (hT:dP w) (hf:f.at_ w) (hg:g.at_ w) (hlf:f.jX k) (hlg:g.jX k) (hmf:f.m≤200) (hmg:g.m≤200) (hk:k≤90000) (hz:cV [f,g]=0→(∀x∈lh (maxD [f,g]) f,Sz 250000 x)∧∀x∈lh (maxD [f,g]) g,Sz 250000 x) (hp1: -1000≤p) (hp2:p≤1000):
  Calls Tryz.prog 9 #[.agg #[.slice f.A f.n f.a,.slice f.B f.m f.b],.agg #[.slice g.A g.n g.a,.slice g.B g.m g.b],.int .i64 p] w fun r w'=>r=.returned (.tuple #[.agg (SR.cells (fG f g p)).toArray,.int .i64 (ja f g)])∧Below w.heap.size w w':=by
 have hh:=Hp.start w;have hboth:=fun w1 hT1 hb=>GQ f g k w1 hT1 (hf.ext hb) (hg.ext hb) hlf hlg hmf hmg hk;unfold fG ja;by_cases h0:cV [f,g]=0
 ·obtain ⟨hX,hY⟩:=hz h0;obtain ⟨hlk,_,hc⟩:=oN h0 (by simpa using ⟨hf.ln.1,hg.ln.1⟩);have hlnn:∀x∈[f,g],x.ds.length=x.n:=by simpa using ⟨hf.ln.1,hg.ln.1⟩
  obtain ⟨a1,a2,a3⟩:=mE hlk hlnn f (by simp);obtain ⟨c1,c2, -⟩:=mE hlk hlnn g (by simp);have lx:=uz a1 a2;have ly:=uz c1 c2;have h12:=(FX.fv ((oS hlk).2.1 f (by simp))).2.2.1;rw [←a1] at h12;rw [Yt h0];rw [h0] at hboth;generalize lh (maxD [f,g]) f=X at*;generalize lh (maxD [f,g]) g=Y at*;generalize maxD [f,g]=D at*;by_cases hs:sj (Y.map nR)=0
  ·rw [Yt hs,Yu Yp];refine NG ?_;refine sr ?_;refine bO hh [_,_] ?_;intro b3 w3 hh;refine bO hh [_,_] ?_;intro b4 w4 hh;refine bC hh ?_;intro b6 w6 hh;refine aI (aa (sr ?_));refine bJ hh 2 [_,_] ?_;refine bJ hh 1 [_,_] ?_;refine ay (hboth _ (hT.hp hh) hh.below) au.out rfl Yp ?_;rintro e_ w21 ⟨x,y,ox,oy,rfl,h3⟩;refine ⟨_,rfl, ?_⟩;replace hh:=hh.join h3;simp only [YB,Yz] at hh;clear h3;refine mT ?_;refine cx ?_;refine cx ?_;refine cx ?_;refine bC hh ?_;intro b8 w8 hh;refine bC hh ?_;intro b9 w9 hh;refine bg hh 1 [_,_] ?_;intro ws hh;replace hh:Hp _ (_::.blk _ _ [_,_] _::_) _:=hh;refine bg hh 0 [_,_] ?_;intro ws hh;replace hh:Hp _ (.blk _ _ [_,_] _::_) _:=hh;refine aI (aa (ah (sr (mI ?_))));refine H3 ?_;refine bJ hh 0 [_,_] ?_;have yat:=(FX.at_.mk (hh.az (i:=3) rfl) (hh.az (i:=2) rfl):y.at_ _);have yln:=yat.ln;obtain ⟨ye,yns,yd⟩:=M7 oy h12 a3 ly hc;have ycs:y.cs=Y.map nR:=oy.cs;have ylim:y.jX 250000:=⟨by rw [←yln.1,oy.ds];show (bq D).length≤1000;rw [dr];omega,by rw [←yln.2,ycs,YI];omega,fun c hc=>by
    rw [ycs] at hc;obtain ⟨d,hd,rfl⟩:=YF.1 hc;rw [bL];exact ⟨(hY d hd).ok Yo,hY d hd⟩⟩
   have hsg:=fun w1 hT1 hy=>tu y 250000 w1 hT1 hy ylim ye;rw [ycs] at hsg;refine bj hh (hsg _ (hT.hp hh) yat) rfl ?_;intro w31 hh;rw [hs];refine mT ?_;refine cx ?_;refine cx ?_;refine aI (aI (aa (sr (mI ?_))));refine cH (aa (cT (sr ?_)));refine fe [_,_,_,_,_,_] ?_;exact Wi
  ·rw [Yu hs,Yt rfl];have hnz:=P3 hs;have hqs:∀(i:Nat) (a b:Dyadic),X[i]?=some a→Y[i]?=some b→∀w1,dP w1→Calls Tryz.prog 35 #[.agg (NR.cells (nR a)).toArray,.agg (NR.cells (nR b)).toArray,.int .i64 p] w1 fun r w'=>r=.returned (.tuple #[.agg (SR.cells (JW a b p)).toArray,.int .i64 0])∧Below w1.heap.size w1 w':=fun i a b ha hb w1 hT1=>by
    have za:=hX a (Yy ha);have zb:=hY b (Yy hb);have:=Jd (nR a) (nR b) p w1 hT1 (za.ok Yo) (zb.ok Yo);rw [bL,bL] at this;exact this (za.ok Yo) (za.neg.ok Yo) (zb.ok Yo) (hnz b (Yy hb)) ((vT p za.neg zb hp1 hp2).ok Yo) hp1 hp2
   have hsok:∀s∈mh X Y p,s.ok:=fun s hs=>by
    obtain ⟨i,hi⟩:=ZU.1 hs;have hi2:=(YL.1 hi).1;rw [oI Yo] at hi2;obtain ⟨a,ha⟩:=ao hi2;obtain ⟨b,hb⟩:=ao (l:=Y) (k:=i) Yo;rw [qM ha hb] at hi;rw [←Zg hi];have za:=hX a (Yy ha);have zb:=hY b (Yy hb);exact ⟨(vT p za zb hp1 hp2).ok Yo,(vT p za.neg zb hp1 hp2).neg.ok Yo⟩
   have hhull:=fun A c w1 hT1 hS1=>u5 A (al D) c (mh X Y p) w1 hT1 hS1 hsok Yo;have hql:=oI (p:=p) (show X.length=Y.length by omega);refine NG ?_;refine sr ?_;refine bO hh [_,_] ?_;intro b3 w3 hh;refine bO hh [_,_] ?_;intro b4 w4 hh;refine bC hh ?_;intro b6 w6 hh;refine aI (aa (sr ?_));refine bJ hh 2 [_,_] ?_;refine bJ hh 1 [_,_] ?_;refine ay (hboth _ (hT.hp hh) hh.below) au.out rfl Yp ?_;rintro e_ w21 ⟨x,y,ox,oy,rfl,h3⟩;refine ⟨_,rfl, ?_⟩;replace hh:=hh.join h3;simp only [YB,Yz] at hh;clear h3;refine mT ?_;refine cx ?_;refine cx ?_;refine cx ?_;refine bC hh ?_;intro b8 w8 hh;refine bC hh ?_;intro b9 w9 hh;refine bg hh 1 [_,_] ?_;intro ws hh;replace hh:Hp _ (_::.blk _ _ [_,_] _::_) _:=hh;refine bg hh 0 [_,_] ?_;intro ws hh;replace hh:Hp _ (.blk _ _ [_,_] _::_) _:=hh;refine aI (aa (ah (sr (mI ?_))));refine H3 ?_;refine bJ hh 0 [_,_] ?_;have yat:=(FX.at_.mk (hh.az (i:=3) rfl) (hh.az (i:=2) rfl):y.at_ _);have yln:=yat.ln;obtain ⟨ye,yns,yd⟩:=M7 oy h12 a3 ly hc;have ycs:y.cs=Y.map nR:=oy.cs
   have ylim:y.jX 250000:=⟨by rw [←yln.1,oy.ds];show (bq D).length≤1000;rw [dr];omega,by rw [←yln.2,ycs,YI];omega,fun c hc=>by
    rw [ycs] at hc;obtain ⟨d,hd,rfl⟩:=YF.1 hc;rw [bL];exact ⟨(hY d hd).ok Yo,hY d hd⟩⟩
   have hsg:=fun w1 hT1 hy=>tu y 250000 w1 hT1 hy ylim ye;rw [ycs] at hsg;refine bj hh (hsg _ (hT.hp hh) yat) rfl ?_;intro w31 hh;refine mT ?_;refine cx ?_;refine cx ?_;refine aI (aI (aa (sr (mI ?_))));refine cH (aa (cF (aq (ai (sr (aL (aa (ah (sr (bo ?_))))))))));refine bp hh 1 ?_;refine aM (mI (aa (ar ?_)));replace hh:=hh.dm 35 6;have xln:x.m=al D:=by
    have:=hh.az (i:=5) rfl;have h1:=this.bk NR.len Yp;rw [←h1,show x.cs=X.map nR from ox.cs,YI];exact lx
   have yln2:y.m=al D:=by rw [←yln.2,ycs,YI];exact ly
   replace hh:=hh.sub (Yv _ (Yv _ (Yw _ (Yv _ (Yw _ (Yv _ (Yw _ (Yv _ (Yw _ (Yw _ YR))))))))));have xcs:x.cs=X.map nR:=ox.cs;simp only [FX.kB,ycs,xcs] at hh;generalize x.B=xB at*;generalize y.B=yB at*;refine bH [13,14,15,16,17,40,41,42,43,44,45,46,47,48,49,50,51,52,53,54,55,56,57,58,59,60] 13 40
    (fun v13 v w'=>∃(i c3:Nat) (A:Option Addr),i≤al D∧v=.int .i64 i∧v13=.slice A i c3∧Hp w [.row A i c3 35 6 (aA SR.cells ((mh X Y p).take i)),.blk b9 25 [.slice y.A y.n y.a,.slice yB y.m y.b] (0,0),.row yB y.m y.b 33 3 (aA NR.cells (Y.map nR)),.row xB x.m x.b 33 3 (aA NR.cells (X.map nR)),.blk b6 35 [.bool false,.string (ByteArray.mk #[]),.int .i64 0,.bool false,.string (ByteArray.mk #[]),.int .i64 0] (0,0)] w')
    (fun _ v _=>al D-(intOf v).toNat) ?_ ?_
   ·exact ⟨0,0,none,Yx _,rfl,rfl,hh⟩
   ·clear hh;rintro ρ' v13 v w' ⟨i,c3,A,hi,rfl,rfl,hh⟩;by_cases hlt:i<al D
    ·obtain ⟨a,ha⟩:=ao (l:=X) (k:=i) Yo;obtain ⟨b,hb⟩:=ao (l:=Y) (k:=i) Yo;have hq:=hqs i a b ha hb;have han:(X.map nR)[i]?=some (nR a):=by rw [YJ,ha];rfl
     have hbn:(Y.map nR)[i]?=some (nR b):=by rw [YJ,hb];rfl
     obtain ⟨gx,rfl⟩:=hh.cq (i:=3) rfl Yo;obtain ⟨gy,rfl⟩:=hh.cq (i:=2) rfl Yo;refine sr ?_;refine dY ?_;refine il ?_;refine cg (vs:=[_,_,_]) aJ.out rfl (hh.dT (f:=NR.cells) (x:=nR a) (l:=X.map nR) (i:=3) rfl NR.len Yp han) rfl Yp ?_;refine bC hh ?_;intro b15 w15 hh;refine aI ?_;refine bg hh 0 [_,_,_] ?_;intro ws hh;replace hh:Hp _ (.blk _ _ [_,_,_] _::_) _:=hh;refine aa (ah ?_);refine ej [11] [10] [0,0,2,0,14,30,0,127,255,511,511,0,3071,8191] 12 [[(15,none)],[(9,none)],[(47,some 1)],[(14,none)],[(48,some 2),(49,some 3)],[(50,some 4)],[(2,none)],[(46,some 0),(51,some 5),(52,some 6)],[(53,some 7)],[(45,some 8)],[(45,some 8)],[]] [(11,16),(10,55),(9,54),(8,45),(7,53),(6,52),(5,51),(4,50),(3,49),(2,48),(1,47),(0,46)] hh mixed Yq (j3 rfl aJ.out eI) rfl (by repeat (first|exact cz|refine bR ?_|refine cG ?_)) ?_;refine dK 0 [_,_,_] ?_;refine dR ?_;refine fW 2 ?_;refine dJ ?_;refine EG (i) ?_;refine pW [_,_,_] (fun _ hj=>hj.hp.dT (f:=NR.cells) (x:=nR b) (l:=Y.map nR) (i:=3) rfl NR.len Yp hbn) ?_;refine dJ ?_;refine dC (fun _ hj=>hq _ (hT.hp hj.hp)) ?_;refine WH ?_;refine UE ?_
     refine UE ?_;refine a7 (i:=11) (cw _ 35 _) cw.ext (fun ρ1 w1 hj hR=>iJ aJ.out hj.bl (fun v w2 h hb=>⟨hb,h⟩)) ?_;refine aH ?_;intro f W hJ hV _;have hb_11:=hJ.bl;obtain ⟨v16,v55,v54,v45,v53,v52,v51,v50,v49,v48,v47,v46,_⟩:=hV;obtain ⟨b16,e16,hl16,hc16⟩:cw _ _ _ (f 11) W:=v16;replace hh:=hJ.newVar hh hl16 hc16;refine aN (a6 (ae e16 (ae v55 (ae v54 (ae v45 (ae v53 (ae v52 (ae v51 (ae v50 (ae v49 (ae v48 (ae v47 (ae v46 aO))))))))))))) ?_;dsimp only [bP];clear e16 hJ;refine bg hh 0 [_,_,_,_,_,_] ?_;intro ws hh;replace hh:Hp _ (.blk _ _ [_,_,_,_,_,_] _::_) _:=hh;refine aI (aa (ak (mL ?_)));refine bJ hh 0 [_,_,_,_,_,_] ?_;refine CN ?_;intro b58 w58 hh;refine R9 ?_;intro A59 c59 w59 hh;simp only [YG,Y8] at hh;replace hh:=hh.sub (Zc _ _);refine lE ?_;refine a8 (mI (aD (ai ?_)));replace hh:=hh.sub (Yw _ (Yw _ (Yv _ (Yv _ (Yv _ (Yv _ (Yv _ YR)))))));refine ⟨⟨i+1,c59,A59,Yo,rfl,rfl, ?_⟩,by show al D-(i+1)<al D-i;omega, ?_⟩
     ·rw [aw (qM ha hb),bM];exact hh
     ·exact er
    ·obtain rfl:i=al D:=Yo;rw [YC Yo] at hh;refine sr ?_;refine oF ?_;refine bj hh (hhull _ _ _ (hT.hp hh) (hh.az (i:=0) rfl)) rfl ?_;intro w62 hh;refine bg hh 4 [_,_,_,_,_,_] ?_;intro ws hh;replace hh:Hp _ (_::_::_::_::.blk _ _ [_,_,_,_,_,_] _::_) _:=hh;refine aI (aa (av ?_));refine Ib (cj rfl (cf (vs:=[_,_,_,_,_,_]) aJ.out (hh.aQ (i:=4) (n:=6) rfl rfl) rfl) (eB (fg rfl) dw)) ?_;exact ⟨rfl,hh.below⟩
 ·have hE:¬cV [f,g]=0:=h0;rw [Yu h0,Yu h0];refine NG ?_;refine sr ?_;refine bO hh [_,_] ?_;intro b3 w3 hh;refine bO hh [_,_] ?_;intro b4 w4 hh;refine bC hh ?_;intro b6 w6 hh;refine aI (aa (sr ?_));refine bJ hh 2 [_,_] ?_;refine bJ hh 1 [_,_] ?_;refine ay (hboth _ (hT.hp hh) hh.below) au.out rfl Yp ?_;rintro e_ w21 ⟨x,y,ox,oy,rfl,h3⟩;refine ⟨_,rfl, ?_⟩;replace hh:=hh.join h3;simp only [YB,Yz] at hh;clear h3;refine mT ?_;refine cx ?_;refine cx ?_;refine cx ?_;refine bC hh ?_;intro b8 w8 hh;refine bC hh ?_;intro b9 w9 hh;refine bg hh 1 [_,_] ?_;intro ws hh;replace hh:Hp _ (_::.blk _ _ [_,_] _::_) _:=hh;refine bg hh 0 [_,_] ?_;intro ws hh;replace hh:Hp _ (.blk _ _ [_,_] _::_) _:=hh;refine aI (aa (ah (sr (mI ?_))));refine dn (aa (cT (sr ?_)));refine fe [_,_,_,_,_,_] (mI ?_);exact Wi
def rX:List Dyadic→Dyadic→Dyadic
 |[],_=>0
 |c::cs,t=>c+t*rX cs t
def UZ:List Nat→List Dyadic→Dyadic
 |a::s,x::xs=>x^a*UZ s xs
 |_,_=>1
theorem zX (n:Nat):(1:Dyadic)^n=1:=by
 induction n with
 |zero=>grind
 |succ n ih=>grind
def T2 (f:Dyadic→Dyadic):Prop:=∃l:List Dyadic,∀t,f t=rX l t
def Vf:List Dyadic→List Dyadic→List Dyadic
 |[],b=>b
 |x::a,[]=>x::a
 |x::a,y::b=>(x+y)::Vf a b
def W4:List Dyadic→List Dyadic→List Dyadic
 |[],_=>[]
 |x::a,b=>Vf (b.map fun y=>x*y) (0::W4 a b)
def D1 (F:Dyadic→Dyadic) (a b:Dyadic):Prop:=∃R,T2 R∧∀h,F h=a+h*b+h*h*R h
variable {q:Nat}{xs:List Dyadic}
def gD (d:Nat) (a b:Dyadic) (i k:Nat):Dyadic:=if k<i then 0 else nD (bin (d-i) (k-i))*a^i*b^(k-i)
theorem Up (d:Nat) (s:Dyadic):gD d s (1-s)=Gz d s:=rfl
def hH (xs:List Dyadic) (i:Nat):Dyadic:=(xs[i]?).getD 0
def eh (d:Nat) (M:Nat→Nat→Dyadic) (xs:List Dyadic):List Dyadic:=(List.range (d+1)).map fun k=>sm (List.range (d+1)) fun i=>hH xs i*M i k
def jJ (d:Nat) (a b:Dyadic) (xs:List Dyadic) (i j:Nat):List Dyadic:=(List.range (d+1)).map fun k=>sm (List.range i) (fun m=>hH xs m*gD d a b m k)+if i≤k∧k<i+j then hH xs i*gD d a b i k else 0
theorem la (d:Nat) (a b:Dyadic) (xs:List Dyadic) (i j:Nat):(jJ d a b xs i j).length=d+1:=by simp [jJ]
theorem wi (d:Nat) (a b:Dyadic) (xs:List Dyadic):jJ d a b xs 0 0=List.replicate (d+1) 0:=by
 unfold jJ;refine List.eq_replicate_iff.2 ⟨by simp,fun x hx=> ?_⟩;obtain ⟨k,_,rfl⟩:=YF.1 hx;rw [Yu Yo,aaQ]
 rfl
theorem At {d i:Nat}{a b:Dyadic} (h:k≤d):(jJ d a b xs i j)[k]?=some (sm (List.range i) (fun m=>hH xs m*gD d a b m k)+if i≤k∧k<i+j then hH xs i*gD d a b i k else 0):=by
 unfold jJ;exact Nj
theorem Dl {d i:Nat}{a b:Dyadic}{o:Dyadic} (h:i+j≤d) (ho:(jJ d a b xs i j)[i+j]?=some o):(jJ d a b xs i j).set (i+j) (o+hH xs i*gD d a b i (i+j))=jJ d a b xs i (j+1):=by
 rw [At h,Yu Yo,aaQ] at ho;have ho:=Zg ho;subst ho;refine ZI fun k=> ?_;rw [aaf,la];by_cases hk:k≤d
 ·rw [At hk,At hk];by_cases e:i+j=k
  ·subst e;rw [Yt rfl,Yt Yo,Yt Yo]
  ·rw [Yu e];by_cases h2:i≤k∧k<i+j
   ·rw [Yt h2,Yt Yo]
   ·rw [Yu h2,Yu Yo]
 ·rw [Yu Yo,YQ (by rw [la];omega),YQ (by rw [la];omega)]
theorem zQ {d i:Nat}{a b:Dyadic} (h:i≤d):jJ d a b xs i (d-i+1)=jJ d a b xs (i+1) 0:=by
 unfold jJ;refine ZV fun k hk=> ?_;have hk:=Zi.1 hk;rw [Yu (show ¬(i+1≤k∧k<i+1+0) by omega),aaQ,aah,kd];by_cases h2:i≤k
 ·rw [Yt Yo]
 ·rw [Yu Yo];unfold gD;rw [Yt (show k<i by omega),Dyadic.mul_zero]
theorem oZ (d:Nat) (a b:Dyadic) (xs:List Dyadic):jJ d a b xs (d+1) 0=eh d (gD d a b) xs:=by
 unfold jJ eh;refine ZV fun k _=> ?_;rw [Yu Yo,aaQ]
theorem Sz.xG {a:Dyadic} (h:Sz q a) {i d:Nat} (hi:i≤d):Sz (1+q*d) (a^i):=(Sz.pow h i).mono (by have:=Y4 q hi;omega)
theorem IP {d i:Nat}{a b:Dyadic} (ha:Sz q a) (hb:Sz q b) (hd:d≤127) (hk:k≤d):Sz (130+2*(q*d)) (gD d a b i k):=by
 unfold gD;split
 ·exact Sz.zero _
 ·refine (((sY (d-i) (k-i) Yo).mul (ha.xG (show i≤d by omega))).mul (hb.xG (show k-i≤d by omega))).mono Yo
theorem pU (h:∀x∈xs,Sz k x) (i:Nat):Sz k (hH xs i):=by
 unfold hH
 cases hx:xs[i]? with
 |none=>exact Sz.zero _
 |some x=>exact h x (Yy hx)
theorem uC {d i K:Nat}{a b:Dyadic} (hx:∀x∈xs,Sz K x) (ha:Sz q a) (hb:Sz q b) (hd:d≤127) (hi:i≤d+1):∀x∈jJ d a b xs i j,Sz (K+130+2*(q*d)+130) x:=fun x hx2=>by
 obtain ⟨k,hk,rfl⟩:=YF.1 hx2;have hk:=Zi.1 hk;have h1:∀m,Sz (K+(130+2*(q*d))) (hH xs m*gD d a b m k):=fun m=>(pU hx m).mul (IP ha hb hd Yo);have h2:=DY (l:=List.range i) (f:=fun m=>hH xs m*gD d a b m k) (k:=K+(130+2*(q*d))) fun m _=>h1 m;rw [aaO] at h2;refine (h2.add (y:=if i≤k∧k<i+j then hH xs i*gD d a b i k else 0) ?_).mono Yo;split
 ·exact (h1 i).mono Yo
 ·exact Sz.zero _
theorem kL (d:Nat) (M:Nat→Nat→Dyadic) (xs:List Dyadic):(eh d M xs).length=d+1:=by simp [eh]
theorem vu {d:Nat}{M:Nat→Nat→Dyadic} (h:k≤d):(eh d M xs)[k]?=some (sm (List.range (d+1)) fun i=>hH xs i*M i k):=by
 unfold eh;exact Nj
theorem Ef {d:Nat}{s:Dyadic} (hl:xs.length=d+1):(eh d (gD d (1-s) s) xs.reverse).reverse=eh d (EZ d s) xs:=by
 refine ZI fun k=> ?_;by_cases hk:k≤d
 ·rw [aam (by rw [kL];omega),kL,show d+1-1-k=d-k by omega,vu Yo,vu hk];congr 1;rw [Ur];refine cU fun i hi=> ?_;have hi:=Zi.1 hi;have e1:hH xs.reverse (d-i)=hH xs i:=by
   unfold hH;rw [aam Yo,hl,show d+1-1-(d-i)=i by omega]
  rw [e1];congr 1;unfold gD EZ;by_cases h:i<k
  ·rw [Yt Yo,Yt h]
  ·rw [Yu Yo,Yu h,show d-(d-i)=i by omega,show d-k-(d-i)=i-k by omega];generalize nD (bin i (i-k))=x;generalize (1-s)^(d-i)=y;generalize s^(i-k)=z;grind
 ·rw [YQ (by rw [Y9,kL];omega),YQ (by rw [kL];omega)]
section
variable (A:List Nat) (d:Nat) (φ:List Dyadic→List Dyadic)
def BI (X:List Dyadic) (q f i:Nat):List Dyadic:=(List.range X.length).map fun p=>
 if p/al A/(d+1)=q∧(p % al A<f∨p % al A=f∧p/al A % (d+1)<i) then hH (φ (da A d X (p % al A) q)) (p/al A % (d+1)) else hH X p
def L4 (X:List Dyadic) (q:Nat):List Dyadic:=BI A d φ X q (al A) 0
end
section
variable {A:List Nat}{d:Nat}{φ:List Dyadic→List Dyadic}{X:List Dyadic}
theorem kC (q f i:Nat):(BI A d φ X q f i).length=X.length:=by simp [BI]
theorem pV {f i p:Nat} (h:p<X.length):(BI A d φ X q f i)[p]?=some (if p/al A/(d+1)=q∧(p % al A<f∨p % al A=f∧p/al A % (d+1)<i) then hH (φ (da A d X (p % al A) q)) (p/al A % (d+1)) else hH X p):=by
 unfold BI;rw [YJ,ZF h]
 rfl
theorem kF {f:Nat} (hf:f<al A) (hk:k≤d):cv A d f k q % al A=f∧cv A d f k q/al A % (d+1)=k∧cv A d f k q/al A/(d+1)=q:=by
 unfold cv;have hA:=di A;rw [aaA,Za hf,ZR _ _ hA,Zt hf,YZ,aaA,Za Yo,ZR _ _ Yo,Zt Yo,YZ];exact ⟨rfl,rfl,rfl⟩
theorem uN (p:Nat):cv A d (p % al A) (p/al A % (d+1)) (p/al A/(d+1))=p:=by
 unfold cv;rw [aba,aba]
theorem mg {l:List Dyadic} (h:k<l.length):l[k]?=some (hH l k):=by
 unfold hH;rw [ZP h]
 rfl
theorem Nu (q:Nat):BI A d φ X q 0 0=X:=by
 refine ZI fun p=> ?_;by_cases h:p<X.length
 ·rw [pV h,Yu Yo,mg h]
 ·rw [YQ (by rw [kC];omega),YQ Yo]
theorem Mw (q f:Nat):BI A d φ X q f (d+1)=BI A d φ X q (f+1) 0:=by
 refine ZI fun p=> ?_;by_cases h:p<X.length
 ·rw [pV h,pV h];have:=YU (p/al A) (show 0<d+1 by omega);congr 1;by_cases h1:p/al A/(d+1)=q∧p % al A<f+1
  ·rw [Yt Yo,Yt Yo]
  ·rw [Yu Yo,Yu Yo]
 ·rw [YQ (by rw [kC];omega),YQ (by rw [kC];omega)]
theorem NV {f i:Nat} (hf:f<al A) (hi:i≤d) (hp:cv A d f i q<X.length):(BI A d φ X q f 0)[cv A d f i q]?=some (hH (da A d X f q) i):=by
 obtain ⟨h1,h2,h3⟩:=kF (q:=q) hf hi;rw [pV hp,h1,h2,h3,Yu Yo];congr 1;unfold da;have:hH ((List.range (d+1)).map fun i=>(X[cv A d f i q]?).getD 0) i=(X[cv A d f i q]?).getD 0:=by
  unfold hH;exact Nj
 rw [this]
 rfl
theorem QY {f i:Nat} (hf:f<al A) (hi:i≤d) (hp:cv A d f i q<X.length):(BI A d φ X q f i).set (cv A d f i q) (hH (φ (da A d X f q)) i)=BI A d φ X q f (i+1):=by
 obtain ⟨h1,h2,h3⟩:=kF (q:=q) hf hi;refine ZI fun p=> ?_;rw [aaf,kC];by_cases h:p<X.length
 ·rw [pV h,pV h];by_cases e:cv A d f i q=p
  ·subst e;rw [Yt rfl,Yt h,h1,h2,h3,Yt Yo]
  ·rw [Yu e];congr 1;by_cases h4:p/al A/(d+1)=q∧(p % al A<f∨p % al A=f∧p/al A % (d+1)<i)
   ·rw [Yt h4,Yt Yo]
   ·rw [Yu h4,Yu];intro h5;have h6:p/al A/(d+1)=q∧p % al A=f∧p/al A % (d+1)=i:=Yo;have:=uN (A:=A) (d:=d) p;rw [h6.1,h6.2.1,h6.2.2] at this;exact e this
 ·rw [Yu Yo,YQ (by rw [kC];omega),YQ (by rw [kC];omega)]
theorem TY {f i G:Nat} (hX:∀x∈X,Sz k x) (hφ:∀l:List Dyadic,l.length=d+1→(∀x∈l,Sz k x)→∀x∈φ l,Sz (k+G) x):∀x∈BI A d φ X q f i,Sz (k+G) x:=fun x hx=>by
 obtain ⟨p,hp,rfl⟩:=YF.1 hx;split
 ·refine pU (hφ _ (by simp [da]) fun y hy=> ?_) _;obtain ⟨j,_,rfl⟩:=YF.1 hy;exact pU hX _
 ·exact (pU hX p).mono Yo
def KU (A:List Nat) (d:Nat) (B:List Nat) (M:Nat→Nat→Dyadic) (xs:List Dyadic) (j:Nat):List Dyadic:=(List.range xs.length).map fun p=>if p/al A/(d+1)<j then hH (fH (A++d::B) A.length M xs) p else hH xs p
theorem qR (B:List Nat) (M:Nat→Nat→Dyadic) (xs:List Dyadic) (j:Nat):(KU A d B M xs j).length=xs.length:=by simp [KU]
theorem vD {B:List Nat}{M:Nat→Nat→Dyadic}{p:Nat} (h:p<xs.length):(KU A d B M xs j)[p]?=some (if p/al A/(d+1)<j then hH (fH (A++d::B) A.length M xs) p else hH xs p):=by
 unfold KU;rw [YJ,ZF h]
 rfl
theorem Nb (B:List Nat) (M:Nat→Nat→Dyadic) (xs:List Dyadic):KU A d B M xs 0=xs:=by
 refine ZI fun p=> ?_;by_cases h:p<xs.length
 ·rw [vD h,Yu (Nat.not_lt_zero _),mg h]
 ·rw [YQ (by rw [qR];omega),YQ Yo]
theorem NF {B:List Nat}{M:Nat→Nat→Dyadic} (hl:xs.length=al (A++d::B)):KU A d B M xs (al B)=fH (A++d::B) A.length M xs:=by
 refine ZI fun p=> ?_;by_cases h:p<xs.length
 ·obtain ⟨f,k,q,hf,hk,hq,rfl⟩:=qk (A:=A) (d:=d) (B:=B) (p:=p) Yo;rw [vD h,(kF hf hk).2.2,Yt hq,mg (by rw [m9];omega)]
 ·rw [YQ (by rw [qR];omega),YQ (by rw [m9];omega)]
theorem K9 {B:List Nat}{M:Nat→Nat→Dyadic} (hl:xs.length=al (A++d::B)):L4 A d (eh d M) (KU A d B M xs j) j=KU A d B M xs (j+1):=by
 refine ZI fun p=> ?_;by_cases h:p<xs.length
 ·obtain ⟨f,k,q,hf,hk,hq,rfl⟩:=qk (A:=A) (d:=d) (B:=B) (p:=p) Yo;obtain ⟨h1,h2,h3⟩:=kF (q:=q) hf hk;unfold L4;rw [pV (by rw [qR];exact h),vD h,h1,h2,h3];congr 1;by_cases e:q=j
  ·subst e;rw [Yt ⟨rfl,.inl hf⟩,Yt Yo];have e1:da A d (KU A d B M xs q) f q=da A d xs f q:=by
    unfold da;refine ZV fun i hi=> ?_;have hi:=Zi.1 hi;have hp2:cv A d f i q<xs.length:=by rw [hl];exact nW hf Yo hq
    rw [vD hp2,(kF hf (show i≤d by omega)).2.2,Yu Yo,mg hp2]
   rw [e1];have e2:hH (eh d M (da A d xs f q)) k=sm (List.range (d+1)) fun i=>hH (da A d xs f q) i*M i k:=by
    show ((eh d M _)[k]?).getD 0=_;rw [vu hk]
    rfl
   have e3:hH (fH (A++d::B) A.length M xs) (cv A d f k q)=sm (List.range (d+1)) fun i=>(xs[cv A d f i q]?).getD 0*M i k:=by
    show ((fH _ _ M xs)[_]?).getD 0=_;rw [Dx M xs hf hk hq]
    rfl
   rw [e2,e3];refine cU fun i hi=> ?_;have hi:=Zi.1 hi;congr 1;show ((da A d xs f q)[i]?).getD 0=_;unfold da;rw [YJ,ZF hi]
   rfl
  ·rw [Yu Yo];have e1:hH (KU A d B M xs j) (cv A d f k q)=if q<j then hH (fH (A++d::B) A.length M xs) (cv A d f k q) else hH xs (cv A d f k q):=by
    show ((KU A d B M xs j)[_]?).getD 0=_;rw [vD h,h3]
    rfl
   rw [e1];by_cases h4:q<j
   ·rw [Yt h4,Yt Yo]
   ·rw [Yu h4,Yu Yo]
 ·rw [YQ (by unfold L4;rw [kC,qR];omega),YQ (by rw [qR];omega)]
end
variable {F:Nat}
section
variable (A:List Nat) (d L:Nat) (φ:List Dyadic→List Dyadic)
def lZ (p:Nat):Nat:=cv A d (p % al A) 0 (p/al A/(d+1))
def lk (X:List Dyadic) (F i:Nat):List Dyadic:=(List.range X.length).map fun p=>
 if p/al A % (d+1)<L∧(lZ A d p<F∨lZ A d p=F∧p/al A % (d+1)<i) then hH (φ (da A d X (p % al A) (p/al A/(d+1)))) (p/al A % (d+1)) else hH X p
end
section
variable {A:List Nat}{d L:Nat}{φ:List Dyadic→List Dyadic}{X:List Dyadic}
theorem jU (F i:Nat):(lk A d L φ X F i).length=X.length:=by simp [lk]
theorem o9 {i p:Nat} (h:p<X.length):(lk A d L φ X F i)[p]?=some (if p/al A % (d+1)<L∧(lZ A d p<F∨lZ A d p=F∧p/al A % (d+1)<i) then hH (φ (da A d X (p % al A) (p/al A/(d+1)))) (p/al A % (d+1)) else hH X p):=by
 unfold lk;rw [YJ,ZF h]
 rfl
theorem Cf {i G:Nat} (h:∀p,p<X.length→p/al A % (d+1)<L→((lZ A d p<F∨lZ A d p=F∧p/al A % (d+1)<i)↔(lZ A d p<G∨lZ A d p=G∧p/al A % (d+1)<j))):lk A d L φ X F i=lk A d L φ X G j:=by
 refine ZI fun p=> ?_;by_cases hp:p<X.length
 ·rw [o9 hp,o9 hp];congr 1;by_cases hL:p/al A % (d+1)<L
  ·by_cases h1:lZ A d p<F∨lZ A d p=F∧p/al A % (d+1)<i
   ·rw [Yt ⟨hL,h1⟩,Yt ⟨hL,(h p hp hL).1 h1⟩]
   ·rw [Yu (fun h=>h1 h.2),Yu (fun h2=>h1 ((h p hp hL).2 h2.2))]
  ·rw [Yu (fun h=>hL h.1),Yu (fun h=>hL h.1)]
 ·rw [YQ (by rw [jU];omega),YQ (by rw [jU];omega)]
theorem Jo:lk A d L φ X 0 0=X:=by
 refine ZI fun p=> ?_;by_cases h:p<X.length
 ·rw [o9 h,Yu Yo,mg h]
 ·rw [YQ (by rw [jU];omega),YQ Yo]
theorem F9 {f:Nat} (hf:f<al A):cv A d f 0 q % al A=f∧cv A d f 0 q/al A % (d+1)=0∧cv A d f 0 q/al A/(d+1)=q:=kF hf (Yx _)
theorem Kr {f:Nat} (hf:f<al A) (hk:k≤d):lZ A d (cv A d f k q)=cv A d f 0 q:=by
 obtain ⟨h1,_,h3⟩:=kF (q:=q) hf hk;unfold lZ;rw [h1,h3]
theorem J7 (h:F/al A % (d+1)≠0):lk A d L φ X F 0=lk A d L φ X (F+1) 0:=Cf fun p _ _=>by
 have hne:lZ A d p≠F:=fun e=>by
  have:=(F9 (d:=d) (q:=p/al A/(d+1)) (YU p (di A))).2.1;unfold lZ at e;rw [e] at this;exact h this
 omega
theorem Jf {i:Nat} (h:L≤i):lk A d L φ X F i=lk A d L φ X (F+1) 0:=Cf fun p _ hL=>by omega
theorem NJ {f i:Nat} (hf:f<al A) (hiL:i<L) (hi:i≤d):(lk A d L φ X (cv A d f 0 q) i).set (cv A d f i q) (hH (φ (da A d X f q)) i)=lk A d L φ X (cv A d f 0 q) (i+1):=by
 obtain ⟨h1,h2,h3⟩:=kF (q:=q) hf hi;refine ZI fun p=> ?_;rw [aaf,jU];by_cases hp:p<X.length
 ·rw [o9 hp,o9 hp];by_cases e:cv A d f i q=p
  ·subst e;rw [Yt rfl,Yt hp,h1,h2,h3,Kr hf hi,Yt ⟨hiL,.inr ⟨rfl,Nat.lt_succ_self i⟩⟩]
  ·rw [Yu e];have hne:¬(lZ A d p=cv A d f 0 q∧p/al A % (d+1)=i):=fun ⟨a,b⟩=>by
    have e1:=F9 (d:=d) (q:=p/al A/(d+1)) (YU p (di A));have e2:=F9 (d:=d) (q:=q) hf;unfold lZ at a;rw [a] at e1;have:=uN (A:=A) (d:=d) p;rw [b,←e1.1,←e1.2.2,e2.1,e2.2.2] at this;exact e this
   congr 1;by_cases hL:p/al A % (d+1)<L∧(lZ A d p<cv A d f 0 q∨lZ A d p=cv A d f 0 q∧p/al A % (d+1)<i)
   ·rw [Yt hL,Yt ⟨hL.1,Yo⟩]
   ·rw [Yu hL,Yu (fun h=>hL ⟨h.1,Yo⟩)]
 ·rw [YQ (by rw [jU];omega)];by_cases e:cv A d f i q=p
  ·rw [Yt e,e,Yu hp,YQ (by rw [jU];omega)]
  ·rw [Yu e,YQ (by rw [jU];omega)]
theorem Ks {B:List Nat}{p:Nat} (hX:X.length=al (A++d::B)) (hp:p<X.length):(lk A d L φ X X.length 0)[p]?=some (if p/al A % (d+1)<L then hH (φ (da A d X (p % al A) (p/al A/(d+1)))) (p/al A % (d+1)) else hH X p):=by
 rw [o9 hp];have hlt:lZ A d p<X.length:=by
  have h1:=uN (A:=A) (d:=d) p;have h2:lZ A d p≤p:=by
   conv=>rhs;rw [←h1]
   unfold lZ cv;have:=Y4 (al A) (show 0+(d+1)*(p/al A/(d+1))≤p/al A % (d+1)+(d+1)*(p/al A/(d+1)) by omega);omega
  omega
 congr 1;by_cases h:p/al A % (d+1)<L
 ·rw [Yt ⟨h,.inl hlt⟩,Yt h]
 ·rw [Yu (fun h2=>h h2.1),Yu h]
theorem Ti {B:List Nat}{M:Nat→Nat→Dyadic} (hX:X.length=al (A++d::B)):lk A d (d+1) (eh d M) X X.length 0=fH (A++d::B) A.length M X:=by
 refine ZI fun p=> ?_;by_cases hp:p<X.length
 ·obtain ⟨f,k,q,hf,hk,hq,rfl⟩:=qk (A:=A) (d:=d) (B:=B) (by rw [←hX];exact hp);obtain ⟨h1,h2,h3⟩:=kF (q:=q) hf hk;rw [Ks hX hp,h1,h2,h3,Yt Yo];have e1:(eh d M (da A d X f q))[k]?=some (sm (List.range (d+1)) fun i=>hH (da A d X f q) i*M i k):=by
   unfold eh;exact Nj
  rw [Dx M X hf hk hq];congr 1;show ((eh d M (da A d X f q))[k]?).getD 0=_;rw [e1];refine cU fun i hi=> ?_;have hi:=Zi.1 hi;show ((da A d X f q)[i]?).getD 0*_=_;unfold da;rw [YJ,ZF hi]
  rfl
 ·rw [YQ (by rw [jU];omega),YQ (by rw [m9,←hX];omega)]
end
variable {M:List Nat}{R:Ending→World→Prop}{args:Array Operand}{assign body:Code}{b base m:Nat}{ops:Array Oper}{pos:String}{vs:List Value}{w':World}{α:Type}
abbrev qf (D:Nat):Deferred:={ target:=.collected D,args:= #[] }
abbrev rL (M:List Nat):List HE:=M.map fun D=>.ob D (.deferred (some []))
theorem NM {D:List Deferred}{a b:Act} (h:fL N D a ρ) (k:fL N D b ρ):a=b:=by
 obtain ⟨t,d⟩:=a;obtain ⟨t',d'⟩:=b;obtain ⟨h1,h2,h3⟩:=h;obtain ⟨k1,k2,k3⟩:=k;obtain rfl:d=d':=h1.trans k1.symm;congr 1;refine Array.ext (h2.trans k2.symm) fun i hi hi'=> ?_;have e1:=h3 i;have e2:=k3 i;rw [ZL,aaD hi] at e1;rw [ZL,aaD hi'] at e2;exact e1.trans e2.symm
abbrev Kd:=Exit→List Nat→Rf→World→Prop
structure WD (P:Program) (N:Nat) (c:Code) (Q:Kd) (ρ:Rf) (w:World):Prop where
 out:∀(M:List Nat) a,fL N (M.map qf) a ρ→∀n,c.wpIn Fence.wide n P (fun e a' w'=>∃M' ρ',fL N ((M'++M).map qf) a' ρ'∧Q e M' ρ' w') a w
def Ai (next:List Nat→Rf→World→Prop) (Q:Kd):Kd
 |.normal,M,ρ,w=>next M ρ w
 |e,M,ρ,w=>Q e M ρ w
def u2 (M:List Nat) (Q:Kd):Kd:=fun e M2 ρ w=>Q e (M2++M) ρ w
def L0 (id:Nat) (Q:Kd):Kd
 |.exit id',M,ρ,w=>if id'=id then Q .normal M ρ w else Q (.exit id') M ρ w
 |e,M,ρ,w=>Q e M ρ w
def N8 (Q:Kd):Kq:=fun e ρ w=>Q e [] ρ w
section
variable {P:Program}{N:Nat}{Q:Kd}{ρ:Rf}{w:World}
theorem D0 {c:Code} (h:∀D,WC ⟨none,D,true⟩ P N c (N8 Q) ρ w):WD P N c Q ρ w:=
 ⟨fun M a hf n=>wpIn_mono ((h (M.map qf)).kA a hf n) fun e a' w' ⟨ρ',hf',hq⟩=>⟨[],ρ',hf',hq⟩⟩
theorem uS {x y:Code} (h:WD P N x (Ai (fun M ρ w=>WD P N y (u2 M Q) ρ w) Q) ρ w):WD P N (.seq x y) Q ρ w:=
 ⟨fun M a hf n=>wpIn_seq (wpIn_mono (h.out M a hf n) fun e a' w' ⟨M',ρ',hf',hq⟩=>by
  cases e with
  |normal=>
   refine wpIn_mono ((hq:WD P N y (u2 M' Q) ρ' w').out (M'++M) a' hf' n) fun e a2 w2 ⟨M2,ρ2,hf2,hq2⟩=> ?_;exact ⟨M2++M',ρ2,by rw [Y5];exact hf2,hq2⟩
  |_=>exact ⟨M',ρ',hf',hq⟩)⟩
theorem iX {x y:Code} (h:∀D,WC ⟨none,D,true⟩ P N x (cM (fun ρ w=>WD P N y Q ρ w) (N8 Q)) ρ w):WD P N (.seq x y) Q ρ w:=
 uS (D0 fun D=>(h D).mono fun e ρ w hq=>by
  cases e with
  |normal=>
   show WD P N y (u2 [] Q) ρ w;have e0:u2 [] Q=Q:=by funext e M ρ w;unfold u2;rw [Y7]
   rw [e0];exact hq
  |_=>exact hq)
theorem rH {id:Nat}{c:Code} (h:WD P N c (L0 id Q) ρ w):WD P N (.block id c) Q ρ w:=
 ⟨fun M a hf n=>wpIn_block (wpIn_mono (h.out M a hf n) fun e a' w' ⟨M',ρ',hf',hq⟩=>by
  cases e with
  |exit id'=>
   by_cases hid:id'=id
   ·simp only [L0,hid,if_true] at hq;simp only [Exit.inBlock,hid,if_true];exact ⟨M',ρ',hf',hq⟩
   ·simp only [L0,hid,if_false] at hq;simp only [Exit.inBlock,hid,if_false];exact ⟨M',ρ',hf',hq⟩
  |_=>exact ⟨M',ρ',hf',hq⟩)⟩
theorem Qd {c:Code} (I:List Nat→Rf→World→Prop) (μ:Rf→World→Nat) (h0:I [] ρ w)
  (round:∀M ρ w,I M ρ w→WD P N c (fun e M2 ρ' w'=>Ai (fun M2 ρ' w'=>I M2 ρ' w'∧μ ρ' w'<μ ρ w) Q e (M2++M) ρ' w') ρ w):WD P N (.loop c) Q ρ w:=by
 refine ⟨fun M0 a hf n=> ?_⟩;refine wpIn_loop (fun a w=>∃M ρ,fL N ((M++M0).map qf) a ρ∧I M ρ w) (fun a w=>μ (fun i=>a.tmps.getD i undef) w) ⟨[],ρ,hf,h0⟩ ?_;rintro a w ⟨M,ρ,hf,hi⟩;refine wpIn_mono ((round M ρ w hi).out (M++M0) a hf n) ?_;rintro e a' w' ⟨M',ρ',hf',hq⟩;rw [←Y5] at hf';have e1:(fun i=>a.tmps.getD i undef)=ρ:=funext hf.at_;have e2:(fun i=>a'.tmps.getD i undef)=ρ':=funext hf'.at_
 cases e with
 |normal=>exact ⟨⟨_,ρ',hf',hq.1⟩,by rw [e1,e2];exact hq.2⟩
 |_=>exact ⟨_,ρ',hf',hq⟩
def Ri {α:Type} (Kp:World→World→Prop) (I:List α→World→Prop) (pre:List α) (x:α) (W:World):Kq
 |.normal,_,W'=>KeepsOthers W W'∧Kp W W'∧I (pre++[x]) W'
 |_,_,_=>False
def rB:Kq:=fun _ _ _=>False
theorem y7 {ps:Tmp}{v:Value}{a:Array Value}:((#[ps]:Array Tmp).zip #[v]).foldl (fun t (p,v)=>t.setIfInBounds p v) a=a.setIfInBounds ps v:=by simp
theorem MZ {g:Operand}{p:Tmp}{gf:Nat}{lb:Array Value} (hp:p<N) (hg:ev ρ g=.func (.func gf) #[] lb) (eg:∀args w,(callFunc gf args).run P w=.ok (.enter gf args) w)
  {enc:α→Value}{Kp:World→World→Prop}{S:List α→Prop}{Nn:Nat} (hseq:∀n,SeqStopsK Fence.wide n P gf lb (fun x=> #[enc x]) Kp S (fun _=>True) Nn w)
  (hKt:∀{A B C:World},Kp A B→Kp B C→Kp A C) (hKb:∀(W:World) (l:Nat) (o o':Obj),w.heap.size≤l→W.heap[l]?=some o→o.isCells=false→o.isWalk=false→Kp W (W.putObj l o'))
  (I:List α→World→Prop) (hI:OwnFrom w.heap.size I) (h0:I [] w) (ρ1:α→Rf) (hρ:∀x i,N≤i→ρ1 x i=ρ i)
  (hassign:∀l x W,WC ⟨some l,[],true⟩ P N assign (cM (fun ρ' W'=>ρ'=ρ1 x∧W'=W) rB) (cP ρ p (enc x)) W)
  (hbody:∀l pre x W,I pre W→pre.length<Nn→WC ⟨some l,[],true⟩ P N body (Ri Kp I pre x W) (ρ1 x) W)
  (hdone:∀(D:Nat) (xs:List α) (W:World),w.heap.size≤D→S xs→I xs W→W.heap[D]?=some (.deferred (some []))→Q .normal [D] ρ W):WD P N (.rangeFunc g #[p] assign body) Q ρ w:=by
 refine ⟨fun M a hf n=> ?_⟩;have hfit:∀x,fL N [] { tmps:=Array.ofFn fun i:Fin N=>ρ1 x i,defers:=[] } (ρ1 x):=fun x=>by
  refine ⟨rfl,by simp,fun i=> ?_⟩;rw [ZL];by_cases hi:i<N
  ·rw [aaD (by simpa using hi)];simp
  ·rw [abk (by simp;omega),hρ x i Yo,←hf.at_ i,ZL,abk (by rw [hf.sz];omega)]
 have main:(Code.rangeFunc g #[p] assign body).wpIn Fence.wide (n+1) P (fun e a' w'=>∃M' ρ',fL N ((M'++M).map qf) a' ρ'∧Q e M' ρ' w') a w:=by
  refine wpIn_rangeFunc_ownF (F:=Fence.wide) (n:=n+1) rfl Yo (gf:=gf) (lb:=lb) (by rw [hf.eval];exact hg) trivial eg (hseq _) hKt hKb (Below.refl _ _) (fun _=>rfl) I (fun _ _ _=>False) hI
   (fun _ _ _ _ _ hs _ _=>hs) h0 (fun x=>{ tmps:=Array.ofFn fun i:Fin N=>ρ1 x i,defers:=[] }) (fun l x W K hK=> ?_) (fun l pre x W hi hl=> ?_) (fun D xs W hD hS hi hW=> ?_) (fun _ _ _ _ _ _ h _=>h.elim)
  ·refine wpIn_mono ((hassign l x W).kA _ ⟨rfl, ?_,fun i=> ?_⟩ _) fun e a' w' ⟨ρ',hf',hq⟩=> ?_
   ·rw [y7];simp [hf.sz]
   ·rw [y7,←(hf.put hp (enc x)).at_ i]
    rfl
   ·cases e with
    |normal=>
     obtain ⟨rfl,rfl⟩:=hq;rw [NM hf' (hfit x)];exact hK
    |_=>exact hq.elim
  ·refine wpIn_mono ((hbody l pre x W hi hl).kA _ (hfit x) _) fun e a' w' ⟨ρ',hf',hq⟩=> ?_
   cases e with
   |normal=>exact hq
   |_=>exact hq.elim
  ·exact ⟨[D],ρ,⟨by rw [hf.nd];rfl,hf.sz,hf.at_⟩,hdone D xs W hD hS hi hW⟩
 intro b k cs hro hb _;exact main b k cs hro hb (room_wide _)
end
def We (P:Program) (fn:Func) (R:Ending→World→Prop):Kd:=fun e M ρ w=>
 (e=.normal∨e=.ret)∧∀tmps:Array Value,(∀i,tmps.getD i undef=ρ i)→∀n,LeavesInM Fence.wide n P fn tmps R (M.map qf) .returning w
theorem yN {f:FuncId}{fn:Func}{c:Code}{l:List Value}
  (hf:P.funcs[f]?=some fn) (hb:fn.body=some c) (hn:fn.ntmps=N) (ha:l.length≤N)
  (h:WD P N c (We P fn R) (HZ l) w):Calls P f l.toArray w R:=by
 refine (callsIn_wide (n:=0)).1 (callsIn_of_wp_marks hf hb trivial ?_ rfl);refine wpIn_mono (h.out [] _ ⟨rfl,by simp [hn];omega,fun i=> ?_⟩ 0) ?_
 ·exact UD
 ·rintro e a w' ⟨M,ρ',hf',he,hl⟩;rw [Y7] at hf'
  rcases he with rfl|rfl
  ·show LeavesInM _ _ _ _ a.tmps _ a.defers _ _;rw [hf'.nd];exact hl _ hf'.at_ 0
  ·show LeavesInM _ _ _ _ a.tmps _ a.defers _ _;rw [hf'.nd];exact hl _ hf'.at_ 0
theorem Gd {f:FuncId}{fn:Func}{c:Code}{l:List Value}
  (hf:P.funcs[f]?=some fn) (hb:fn.body=some c) (hn:fn.ntmps=N) (ha:l.length≤N)
  (h:WC ⟨none,[],true⟩ P N c (oC P fn R) (HZ l) w):Calls P f l.toArray w R:=by
 refine (callsIn_wide (n:=0)).1 (callsIn_of_wp hf hb trivial ?_ rfl);refine wpIn_mono (h.kA _ ⟨rfl,by simp [hn];omega,fun i=> ?_⟩ 0) ?_
 ·exact UD
 ·rintro e a w' ⟨ρ',hf',he,v,hr,hR⟩
  rcases he with rfl|rfl
  ·exact ⟨hf'.nd,v,hr _ hf'.at_,hR⟩
  ·exact ⟨hf'.nd,v,hr _ hf'.at_,hR⟩
def HE.Md:HE→Bool
 |.ob _ _=>false
 |_=>true
theorem qV {x:HE} (h:x.holds base w) (hc:x.Md=true) (hid:x.id=some b):∃o,w.heap[b]?=some o∧o.isCells=true:=by
 cases x with
 |blk b' t cs fz=>
  obtain rfl:b'=b:=Zg hid;exact ⟨_,h.2.1,rfl⟩
 |row A n c t sz xs=>
  rcases h.2 with ⟨h1,_⟩|⟨g,cap,cur,h1,_,h3,_⟩
  ·injection h1 with e1
   subst e1
   cases hid
  ·injection h1 with e1
   subst e1;obtain rfl:g=b:=Zg hid;exact ⟨_,h3,rfl⟩
 |ob _ _=>cases hc
theorem Hp.Mc {H:List HE} (h:Hp w0 H w) (hc:∀x∈H,x.Md=true) {row:Option Nat} (hg:w.grownBy w' row) (hr:∀r,row=some r→w0.heap.size≤r∧∃o:Obj,w.heap[r]?=some o∧o.isCells=false):Hp w0 H w':=by
 refine ⟨⟨hg.os.trans h.below.os,hg.tape.trans h.below.tape,hg.output.trans h.below.output,Y1 h.size hg.size,fun k hk=> ?_⟩,fun x hx=> ?_,h.nd⟩
 ·refine (hg.block k (Zl hk h.size) fun e=> ?_).trans (h.below.block k hk);have:=(hr k e.symm).1;omega
 ·refine pY (h.own x hx) fun b hid=>hg.block b (eU (h.own x hx) hid).2 fun e=> ?_;obtain ⟨o,h1,h2⟩:=qV (h.own x hx) (hc x hx) hid;obtain ⟨_,o',h3,h4⟩:=hr b e.symm;rw [h1] at h3
  cases h3
  rw [h2] at h4
  cases h4
theorem Hp.Vz {H:List HE} (h:Hp w0 H w) (hc:∀x∈H,x.Md=true) {D:Nat}{o:Obj} (hD:w0.heap.size≤D) (h1:w.heap[D]?=some o) (ho:o.isCells=false):Hp w0 (.ob D o::H) w:=by
 refine ⟨h.below,fun x hx=> ?_, ?_⟩
 ·rcases YH.1 hx with rfl|hx
  ·exact ⟨hD,h1⟩
  ·exact h.own x hx
 ·rw [Z4];show (D::H.filterMap HE.id).Nodup;refine aaa.2 ⟨fun hm=> ?_,h.nd⟩;obtain ⟨y,hy,hyb⟩:=ZE.1 hm;obtain ⟨o',h2,h3⟩:=qV (h.own y hy) (hc y hy) hyb;rw [h1] at h2
  cases h2
  rw [ho] at h3
  cases h3
def MA (base:Nat) (ids:List Nat) (w:World) (k:Nat):Option HE:=if base≤k∧ids.contains k=false then (w.heap[k]?).map fun o=>.ob k o else none
def xF (base:Nat) (ids:List Nat) (w:World):List HE:=(List.range w.heap.size).filterMap (MA base ids w)
theorem uw {ids:List Nat}{x:HE} (h:MA base ids w k=some x):∃o,x=.ob k o∧base≤k∧k∉ids∧w.heap[k]?=some o:=by
 unfold MA at h;split at h
 ·rename_i h1;obtain ⟨o,h2,h3⟩:=aay.1 h;exact ⟨o,h3.symm,h1.1,by simpa using h1.2,h2⟩
 ·cases h
theorem Hp.G8 {H:List HE} (h:Hp w0 H w):Hp w0 (H++xF w0.heap.size (H.filterMap HE.id) w) w:=by
 refine ⟨h.below,fun x hx=> ?_, ?_⟩
 ·rcases Zm.1 hx with hx|hx
  ·exact h.own x hx
  ·obtain ⟨k,_,hk⟩:=ZE.1 hx;obtain ⟨o,rfl,h1,_,h3⟩:=uw hk;exact ⟨h1,h3⟩
 ·rw [aaZ];refine abv.2 ⟨h.nd, ?_,fun a ha b hb e=> ?_⟩
  ·unfold xF;rw [List.filterMap_filterMap];refine List.Pairwise.filterMap _ (fun a a' hne b hb b' hb' e=> ?_) List.nodup_range;obtain ⟨x,hx,hx2⟩:=Option.bind_eq_some_iff.1 hb;obtain ⟨y,hy,hy2⟩:=Option.bind_eq_some_iff.1 hb';obtain ⟨o,rfl,_⟩:=uw hx;obtain ⟨o',rfl,_⟩:=uw hy;obtain rfl:a=b:=Zg hx2;obtain rfl:a'=b':=Zg hy2;exact hne e
  ·obtain ⟨x,hx,hx2⟩:=ZE.1 hb;obtain ⟨k,_,hk⟩:=ZE.1 hx;obtain ⟨o,rfl,_,h2,_⟩:=uw hk;obtain rfl:k=b:=Zg hx2;exact h2 (e ▸ ha)
theorem Hp.keeps {H H':List HE} (hs:Hp w0 H w) (hc:∀x∈H,x.Md=true) (he:Hp w0 (H'++xF w0.heap.size (H.filterMap HE.id) w) w') (hid:H'.filterMap HE.id=H.filterMap HE.id):KeepsOthers w w':=by
 have key:∀k,k<w.heap.size→k<w'.heap.size∧∀o,w.heap[k]?=some o→o.isCells=false→w'.heap[k]?=some o:=fun k hk=>by
  by_cases h0:k<w0.heap.size
  ·exact ⟨Zl h0 he.size,fun o h1 _=>(he.below.block k h0).trans ((hs.below.block k h0).symm.trans h1)⟩
  ·by_cases hm:k∈H.filterMap HE.id
   ·obtain ⟨y,hy,hyb⟩:=ZE.1 (hid ▸ hm);refine ⟨(eU (he.own y (Z3 _ hy)) hyb).2,fun o h1 h2=> ?_⟩;exact VA
   ·have hx:HE.ob k w.heap[k]∈xF w0.heap.size (H.filterMap HE.id) w:=ZE.2 ⟨k,Zi.2 hk,by
     unfold MA;rw [Yt ⟨Yo,by simpa using hm⟩,aaD hk]
     rfl⟩
    have h1:=he.own _ (Zu _ hx);refine ⟨(eU h1 rfl).2,fun o h2 _=> ?_⟩;rw [aaD hk] at h2
    cases h2
    exact h1.2
 refine ⟨?_,fun k o h1 h2=>(key k (aa9.1 h1).1).2 o h1 h2⟩
 rcases aac w.heap.size with h|h
 ·omega
 ·have:=(key (w.heap.size-1) Yo).1;omega
theorem rD {P:Program}{fn:Func}{tmps:Array Value}{R:Ending→World→Prop}{n:Nat}{w0:World}{H:List HE}:∀(M:List Nat) (w:World),Hp w0 (rL M++H) w→(∀w2,Hp w0 H w2→∃v,(results fn tmps).run P w2=.ok v w2∧R (.returned v) w2)→
  LeavesInM Fence.wide n P fn tmps R (M.map qf) .returning w
 |[],w,hh,h=>h w hh
 |D::M,w,hh,h=>by
  have hD:w.heap[D]?=some (.deferred (some [])):=(hh.own _ YD).2;refine ⟨by simp,.inl ⟨D,w.putObj D (.deferred none),rfl,run_takeDeferred hD,rD M _ ?_ h⟩⟩;have hb:=(hh.own _ YD).1;have h2:=hh.LY (i:=0) (x:=.ob D (.deferred (some []))) (y:=.ob D (.deferred none)) (w':=w.putObj D (.deferred none)) rfl (fun b e=>.inl e) ?_ (fun b hlt hne=>World.putObj_heap_other (fun e=>hne (by rw [e];rfl))) ⟨hb, ?_⟩
  ·exact h2.sub (Zc _ _)
  ·have hg:=grownBy_putObj' w D (.deferred none);refine ⟨hg.os.trans hh.below.os,hg.tape.trans hh.below.tape,hg.output.trans hh.below.output,Y1 hh.size hg.size,fun k hk=>(hg.block k (Zl hk hh.size) fun e=> ?_).trans (hh.below.block k hk)⟩
   cases e
   omega
  ·exact World.putObj_heap_same (aa9.1 hD).1
theorem oJ {fn:Func}{e:Exit}{H:List HE}{rs:List ResultVar} (hh:Hp w0 (rL M++H) w) (he:e=.normal∨e=.ret) (hr:fn.results=rs.toArray)
  (h:∀w2,Hp w0 H w2→jm P ρ w2 rs vs∧R (.returned (zU vs)) w2):We P fn R e M ρ w:=by
 refine ⟨he,fun tmps ht n=>rD M w hh fun w2 hh2=> ?_⟩;obtain ⟨h1,h2⟩:=h w2 hh2;obtain ⟨_,v,h3,h4⟩:=ll (e:=e) he hr h1 h2;exact ⟨v,h3 tmps ht,h4⟩
theorem PG {d:Option Nat}{ty:TypeId}{af:Array Edge}{g:Option (Nat×Bool)}{x:Operand}{ts:Array TypeId}{l:Nat}{fn:FuncId}{tmps:Array Value}
  (hx:ev ρ x=.func (.yield l) #[] #[]) (ha:yg ρ args.toList=vs) (hy:(Instr.yield l vs.toArray).run P w=.ok (.round l fn tmps assign body) w):(execOp (ev ρ) ⟨d,.call ⟨.value x,args,ts⟩,ty,pos,af,g⟩).run P w=.ok (.round l fn tmps assign body) w:=by
 have h2:args.map (ev ρ)=vs.toArray:=oT args ha;simp [execOp,resolve,Deferred.ofValue,hx,h2,invoke,callFunc,program,Sem.run,hy]
theorem MN {Q:Kq}{rest:List Oper}{d:Nat}{ty:TypeId}{af:Array Edge}{x:Operand}{ts:Array TypeId}{l:Nat}
  (hx:ev ρ x=.func (.yield l) #[] #[]) (ha:yg ρ args.toList=vs) (hy:YieldAt Fence.wide m P l vs.toArray w R) (hN:d<N) (kk:∀e w',R e w'→∃v,e=.returned v∧WL ⟨none,[],true⟩ P N ops Q rest (cP ρ d v) w'):
  WL ⟨none,[],true⟩ P N ops Q (⟨some d,.call ⟨.value x,args,ts⟩,ty,pos,af,none⟩::rest) ρ w:=by
 obtain ⟨fn,tmps,as_,bd,h1,h2⟩:=hy;refine ⟨fun h=>(by cases h),fun a hf n=>wpListIn_plain rfl fun K hK=>⟨fun _ _=>trivial, ?_⟩⟩;rw [hf.eval,me _ (PG hx ha h1) (fun _ h=>by cases h)];refine ⟨fun h=>(by cases h), ?_⟩;refine ⟨trivial,fun c cs _=> ?_⟩;obtain ⟨e,w',hR,hs⟩:=h2.2 c cs (room_wide _);refine ⟨e,w', ?_,hs⟩;obtain ⟨v,rfl,hk⟩:=kk e w' hR;exact hK _ _ (hk.kA _ (hf.put hN v) n)
variable {W:World}{ad:Addr}{c:Nat}{lo:Operand}
theorem Tt {d:Option Nat}{ty:TypeId}{af:Array Edge}{g:Option (Nat×Bool)}{t e:TypeId}{x hi mx:Operand}{l h sz:Nat}{k1 k2 k3:IntKind}{m1 m2 m3:Int}
  (ht:P.underlying t=some (.slice e)) (hsz:(P.info? e).map (·.size)=some sz) (hx:ev ρ x=.slice (some ad) n c) (hlo:ev ρ lo=.int k1 m1) (hhi:ev ρ hi=.int k2 m2) (hmx:ev ρ mx=.int k3 m3) (e1:m1=(l:Int)) (e2:m2=(h:Int)) (e3:m3=(q:Int))
  (h1:l≤h) (h2:h≤q) (h3:q≤c) (h4:l<q):(execOp (ev ρ) ⟨d,.slice t x (some lo) (some hi) (some mx),ty,pos,af,g⟩).run P w=.ok (.value (.slice (some (ad.add (l*sz))) (h-l) (q-l))) w:=by
 obtain ⟨i,hi1,hi2⟩:=aay.1 hsz;subst e1 e2 e3 hi2;have a1:(l:Int)≤h:=Yo;have a2:(h:Int)≤q:=Yo;have a3:(q:Int)≤c:=Yo;have a4:¬q=l:=Yo;have a5:¬q-l=0:=Yo;simp [execOp,hx,Instr.sliceAt,Instr.slice,run_underlying ht,Instr.sliceBounds,Instr.sliceBound,asIntOf,hlo,hhi,hmx,h1,h2,h3,a4,a5,sizeOf,typeInfo,hi1]
theorem tB (A:Option Addr) (n c K:Nat) (w:World) (hK:1≤K):
  Calls Tryz.prog 41 #[.slice A n c,.int .i64 K] w fun r w'=>∃b2 b3,r=.returned (.func (.func 88) #[] #[.pointer (some ⟨b2,0,none⟩),.pointer (some ⟨b3,0,none⟩)])∧Hp w [.blk b3 3 [.int .i64 K] (0,0),.blk b2 23 [.slice A n c] (0,0)] w':=by
 have hh:=Hp.start w;refine aj (N:=9) (l:=[.slice A n c,.int .i64 K]) Tryz.func41 rfl rfl (by simp) ?_;refine sr ?_;refine bO hh [_] ?_;intro b2 w2 hh;refine bO hh [_] ?_;intro b3 w3 hh;refine kW (by first|exact uF rfl|exact ur rfl) Yp ?_;refine aa (ah (sr ?_));refine bp hh 0 ?_;refine a9 (aa (cF (aq (ai (sr ?_)))));exact VV
def Ez (b2 b3:Nat) (W W':World):Prop:=W'.cell? ⟨b2,0,none⟩=W.cell? ⟨b2,0,none⟩∧W'.cell? ⟨b3,0,none⟩=W.cell? ⟨b3,0,none⟩
theorem uZ {W':World} (h:Below W.heap.size W W'):W.grownBy W' none:=⟨h.os,h.tape,h.output,h.size,fun k hk _=>h.block k hk⟩
theorem H8 {b2 b3:Nat}{A B C:World} (h:Ez b2 b3 A B) (k:Ez b2 b3 B C):Ez b2 b3 A C:=⟨k.1.trans h.1,k.2.trans h.2⟩
theorem GN {b2 b3:Nat} (h2:b2<w.heap.size) (h3:b3<w.heap.size) (W:World) (l:Nat) (o o':Obj) (hl:w.heap.size≤l):Ez b2 b3 W (W.putObj l o'):=
 ⟨World.cell?_of_block (World.putObj_heap_other (fun e=>by simp at e;omega)),World.cell?_of_block (World.putObj_heap_other (fun e=>by simp at e;omega))⟩
theorem yn (b2 b3:Nat) (ad:Addr) (n c K m:Nat) (w:World) (h2:w.cell? ⟨b2,0,none⟩=some (.slice (some ad) n c)) (h3:w.cell? ⟨b3,0,none⟩=some (.int .i64 K)) (hn:n=m*K) (hK:0<K) (hc:n≤c) (hb:n≤1000000) (hKb:K≤1000000):
  ∀N1,SeqStopsK Fence.wide N1 Tryz.prog 88 #[.pointer (some ⟨b2,0,none⟩),.pointer (some ⟨b3,0,none⟩)] (fun j:Fin m=> #[.slice (some (ad.add (j.val*K*3))) K K]) (Ez b2 b3) (fun xs=>xs=List.finRange m) (fun _=>True) m w:=by
 intro N1 l J Jx W hW hAb hAbx hY h0;refine callsIn_wide.2 ?_;show Calls _ _ #[.func (.yield l) #[] #[],.pointer (some ⟨b2,0,none⟩),.pointer (some ⟨b3,0,none⟩)] W _;have hAbd:∀xs W1 W2,J xs W1→Below W1.heap.size W1 W2→J xs W2:=fun xs W1 W2 h hb=>hAb xs W1 W2 none h (uZ hb) (fun r e=>nomatch e);have c2:=cn hW h2;have c3:=cn hW h3;refine Gd (N:=31) (l:=[.func (.yield l) #[] #[],.pointer (some ⟨b2,0,none⟩),.pointer (some ⟨b3,0,none⟩)]) Tryz.func88 rfl rfl (by simp) ?_;refine sr (aI (aa (ar ?_)));refine aT [4,5,6,7,8,9,10,11,12,13,14,15,16,17,18,19,20,21,22,23,24,25,26,27,28,29,30] 4
  (fun v w'=>∃j:Nat,j≤m∧v=.int .i64 ((j*K:Nat):Int)∧J ((List.finRange m).take j) w'∧w'.cell? ⟨b2,0,none⟩=some (.slice (some ad) n c)∧w'.cell? ⟨b3,0,none⟩=some (.int .i64 K))
  (fun v _=>n+1-(intOf v).toNat) ?_ ?_
 ·exact ⟨0,Yx _,by rw [aaP];rfl,h0,c2,c3⟩
 ·clear c2 c3 h0;rintro ρ' v w' ⟨j,hj,rfl,hJj,c2,c3⟩;have hh:=Hp.start w';by_cases hlt:j<m
  ·have h5:(j+1)*K≤m*K:=Zo _ hlt;have h6:(j+1)*K=j*K+K:=ZA j K;refine ah (sr (mI ?_));refine bY aJ.out rfl (c2) Yp ?_;refine aM ?_;refine a9 (aa (cT (aq (ai (ah (ar (ah ?_)))))));refine NY ?_;refine aK 5 [[(2,none)],[(1,none)],[(4,none)],[(14,some 1),(15,some 2)],[(16,some 3)]] [(4,17),(3,16),(2,15),(1,14),(0,13)] hh mixed Yq ?_;refine x7 (fun _ hj=>cn hj.bl c3) ?_;refine x7 (fun _ hj=>cn hj.bl c2) ?_;refine dJ ?_;refine bB (i:=3) (fun ρ1 w1 hj hR=>gZ (l:=(j*K)) bG.out aJ.size (show ρ1 14=Value.slice _ _ _ from hR.1) (show ρ1 15=Value.int _ _ from hR.2.1) Yo Yo Yo) ?_;refine qe ?_;refine aH ?_;intro f W hJ hV;have hb_3:=hJ.bl;obtain ⟨v17,v16,v15,v14,v13,_⟩:=hV;replace hh:=hJ.hp;refine aN (a6 (ae v17 (ae v16 (ae v15 (ae v14 (ae v13 aO)))))) ?_;dsimp only [bP];clear hJ;have hmin:(if ((n-j*K:Nat):Int)<(K:Int) then ((n-j*K:Nat):Int) else (K:Int))=(K:Int):=Yu Yo;refine zZ rfl rfl Yp ?_;rw [hmin];have c2':=cn hh.below c2;have c3':=cn hh.below c3;have hJ2:=hAbd _ _ _ hJj hh.below
   have hfr:(List.finRange m)[j]?=some ⟨j,hlt⟩:=by rw [ZP (by rw [abg];exact hlt),List.getElem_finRange];rfl
   have hy:=hY ((List.finRange m).take j) ⟨j,hlt⟩ _ hJ2 (by rw [YM,abg];omega);refine aI (aa (sr ?_));refine iY ?_;refine bY aJ.out rfl (c2') Yp ?_;refine mI (mI (mI ?_));refine a8 (mI (mI ?_));refine a8 ?_;refine aV rfl rfl Yp (Tt bG.out aJ.size (GV rfl) rfl rfl rfl (l:=j*K) (h:=j*K+K) (q:=j*K+K) rfl Yo Yo Yo Yo Yo Yo) ?_;have e28:j*K+K-j*K=K:=Yo;rw [e28];refine MN rfl (aC (GV rfl) bh) hy Yp ?_;rintro e_ w29 (⟨rfl,hJ3,hk⟩|⟨rfl,hJx⟩)
   ·refine ⟨_,rfl, ?_⟩;have c2'':=hk.1.trans c2';have c3'':=hk.2.trans c3';refine ig ?_;refine zn ?_;refine bY aJ.out rfl (c3'') Yp ?_;refine a8 (aI (aD (ai ?_)));refine ⟨⟨j+1,hlt, ?_,by rw [aw hfr];exact hJ3,c2'',c3''⟩, ?_, ?_⟩
    ·show Value.int _ (((j*K:Nat):Int)+(K:Int))=_;rw [h6]
     rfl
    ·show n+1-(((j*K:Nat):Int)+(K:Int)).toNat<n+1-((j*K:Nat):Int).toNat;omega
    ·exact er
   ·refine ⟨_,rfl, ?_⟩;refine ig ?_;refine aa (cT (av (bU (aF (aF (bU ?_))))));refine Pf (by first|exact .inr rfl|exact .inl rfl) rfl ?_;exact ⟨⟨_,rfl⟩,.inr ⟨_,trivial,hJx⟩⟩
  ·obtain rfl:j=m:=Yo;refine ah (sr (mI ?_));refine bY aJ.out rfl (c2) Yp ?_;refine aM ?_;refine a9 (aa (cF (aX (aE (aE (bA ?_))))));refine Pf (by first|exact .inr rfl|exact .inl rfl) rfl ?_;rw [YC (by rw [abg];omega)] at hJj;exact ⟨⟨_,rfl⟩,.inl ⟨_,rfl,hJj⟩⟩
variable {Hr:List HE}
theorem sw (N:Nat):iK N [.bool false,.string (ByteArray.mk #[]),.int .i64 0]=aA NR.cells ((List.replicate N (0:Dyadic)).map nR):=by
 rw [EC,vc]
theorem Sz.aY {x:Dyadic} (h:Sz k x):(nR x).aY.size≤k+1:=by have:=h.nr.1;omega
theorem PO (m:Nat):KB [m]=(nA m).map fun n=>nR (nD n):=by
 have h:xK [m]=nA m:=by
  have h1:=Dr [] m;have h2:xK []=[1]:=by decide
  rw [Yz,h2] at h1;rw [h1];simp
 unfold KB;rw [h]
structure xH (q:Nat) (s:NR) (x:Dyadic):Prop where
 ok:s.ok
 aY:s.aY.size≤2001
 d:s.d=x
 sz:Sz q x
theorem xH.of {x:Dyadic} (h:Sz q x) (hq:q≤2000):xH q (nR x) x:=⟨h.ok Yo,by have:=h.aY;omega,bL x,h⟩
theorem tK (sa sb:NR) (a b:Dyadic) (L:Option Addr) (n c d:Nat) (xs:List Dyadic) (k q:Nat) (w:World) (hT:dP w) (hS:Sl w L n 3 (aA NR.cells (xs.map nR))) (hn:n=d+1) (hd:d≤127) (hx:∀x∈xs,Sz k x) (va:xH q sa a) (vb:xH q sb b) (hk:k≤300000) (hq:q≤2000):
  Calls Tryz.prog 197 #[.agg #[.bool sa.neg,.string sa.aY,.int .i64 sa.e,.bool sb.neg,.string sb.aY,.int .i64 sb.e],.slice L n c] w fun r w'=>∃A c',r=.returned (.slice A n c')∧w'.ownsRow w.heap.size 33 3 (.slice A n c') n (aA NR.cells ((eh d (gD d a b) xs).map nR))∧Below w.heap.size w w':=by
 have hh:=Hp.start w;have hln:xs.length=n:=by have:=hS.bk NR.len Yp;simpa using this
 have hqd:q*d≤2000*127:=Z5 hq hd;have ha:=va.sz;have hb:=vb.sz;have hpw:∀(sz:NR) (z:Dyadic),xH q sz z→∀(i:Nat),i≤d→∀w1,dP w1→Calls Tryz.prog 87 #[.agg #[.bool sz.neg,.string sz.aY,.int .i64 sz.e],.int .i64 (i:Int)] w1 fun r w'=>r=.returned (.agg #[.bool (nR (z^i)).neg,.string (nR (z^i)).aY,.int .i64 (nR (z^i)).e])∧Below w1.heap.size w1 w':=fun sz z hz i hi w1 hT1=>by
  have h1:=hz.aY;have h2:i*sz.aY.size≤127*2001:=Z5 Yo Yo;have:=vJ sz i w1 hT1 hz.ok (by rw [ZY];omega) Yo;rwa [hz.d,ZY] at this
 obtain ⟨ad,rfl,hr⟩:=hS.at_ Yo;refine aj (N:=66) (l:=[.agg #[.bool sa.neg,.string sa.aY,.int .i64 sa.e,.bool sb.neg,.string sb.aY,.int .i64 sb.e],.slice (some ad) n c]) Tryz.func197 rfl rfl (by simp) ?_;refine sr ?_;refine bO hh [_,_,_,_,_,_] ?_;intro b2 w2 hh;refine aL (aa (sr (mL (aM ?_))));refine ee (aI (aa (sr (mI ?_))));refine a8 ?_;refine yQ ?_;intro b16 w16 hh;refine qI ?_;rw [sw,hn,←wi d a b xs,←hn] at hh;refine aT [7,8,9,10,19,20,21,22,23,24,25,26,27,28,29,30,31,32,33,34,35,36,37,38,39,40,41,42,43,44,45,46,47,48,49,50,51,52,53,54,55,56,57,58,59,60,61,62,63,64] 19
  (fun v w'=>∃i:Nat,i≤n∧v=.int .i64 i∧Hp w [.row (some ⟨b16,0,none⟩) n n 33 3 (aA NR.cells ((jJ d a b xs i 0).map nR)),.blk b2 223 [.bool sa.neg,.string sa.aY,.int .i64 sa.e,.bool sb.neg,.string sb.aY,.int .i64 sb.e] (0,0)] w')
  (fun v _=>n-(intOf v).toNat) ?_ ?_
 ·exact ⟨0,Yx _,rfl,hh⟩
 ·clear hh;rintro ρ' v w' ⟨i,hi,rfl,hh⟩;by_cases hlt:i<n
  ·obtain ⟨x,hxi⟩:=ao (l:=xs) (k:=i) Yo;have hxn:(xs.map nR)[i]?=some (nR x):=by rw [YJ,hxi];rfl
   have hat:hH xs i=x:=by unfold hH;rw [hxi];rfl
   have zx:=hx x (Yy hxi);have hpa:=hpw sa a va i Yo;have zp:=ha.xG (show i≤d by omega);have zc:=zx.mul zp;have hmul:=fun A cc w1 hT1 hS1=>fZ A 2 cc [nR x,nR (a^i)] w1 hT1 hS1 (by simpa using ⟨zx.ok Yo,zp.ok Yo⟩) 600000 (by simpa [bL] using ⟨zx.mono Yo,zp.mono Yo⟩) Yo Yo;rw [show iw ([nR x,nR (a^i)].map NR.d)=x*a^i by simp only [Y6,Zv,bL];show 1*x*a^i=_;rw [aap]] at hmul;refine sr ?_;refine dY ?_;refine bZ ?_;refine Ma ?_;refine bC hh ?_;intro b8 w8 hh;refine aI ?_;refine bg hh 0 [_,_,_] ?_;intro ws hh;replace hh:Hp _ (.blk _ _ [_,_,_] _::_) _:=hh;refine aa (ah ?_);refine aK 5 [[(8,none)],[(2,none)],[(25,some 1)],[(7,none)],[(26,some 2),(27,some 3)]] [(4,28),(3,27),(2,26),(1,25),(0,24)] hh mixed Yq ?_;refine dK 0 [_,_,_] ?_;refine dR ?_;refine dK 2 [_,_,_] ?_;refine dJ ?_;refine dC (fun _ hj=>hpa _ (hT.hp hj.hp)) ?_;refine aH ?_;intro f W hJ hV;have hb_6:=hJ.bl;obtain ⟨v28,v27,v26,v25,v24,_⟩:=hV;replace hh:=hJ.hp;refine aN (a6 (ae v28 (ae v27 (ae v26 (ae v25 (ae v24 aO)))))) ?_;dsimp only [bP];clear hJ;refine rF ?_;intro b29 w29 hh
   refine bj hh (hmul _ _ _ (hT.hp hh) (hh.az (i:=0) rfl)) rfl ?_;intro w30 hh;refine bg hh 1 [_,_,_] ?_;intro ws hh;replace hh:Hp _ (_::.blk _ _ [_,_,_] _::_) _:=hh;refine aa (sr (mI (mI ?_)));refine ee ?_;refine vU ?_;intro b34 w34 hh;have e33:(n:Int)-1-(i:Int)=((d-i:Nat):Int):=Yo;rw [e33] at hh;have hcw:al [d-i]=d-i+1:=by simp [al]
   have hwt:=fun w1 hT1 hS1=>oe (some ⟨b34,0,none⟩) 1 1 [d-i] w1 hT1 hS1 (by simp) (by simp;omega) (by rw [hcw];omega);rw [hcw,PO] at hwt;refine ay (hwt _ (hT.hp hh) (hh.az (i:=0) rfl)) au.out rfl Yp ?_;rintro e_ w35 ⟨A35,c35,rfl,hown_,hb_⟩;refine ⟨_,rfl, ?_⟩;replace hh:=hh.aP (x:=.row _ _ _ _ _ _) hb_ hown_;refine aM (mI (aa (ar ?_)));replace hh:=hh.sub (Yv _ (Yw _ (Yw _ (Yv _ (Yv _ (Yv _ YR))))));refine aT [9,10,37,38,39,40,41,42,43,44,45,46,47,48,49,50,51,52,53,54,55,56,57,58,59,60,61,62,63] 37
    (fun v w'=>∃j:Nat,j≤d-i+1∧v=.int .i64 j∧Hp w [.row A35 (d-i+1) c35 33 3 (aA NR.cells ((nA (d-i)).map fun n=>nR (nD n))),.blk b8 33 [.bool (nR (x*a^i)).neg,.string (nR (x*a^i)).aY,.int .i64 (nR (x*a^i)).e] (0,0),.row (some ⟨b16,0,none⟩) n n 33 3 (aA NR.cells ((jJ d a b xs i j).map nR)),.blk b2 223 [.bool sa.neg,.string sa.aY,.int .i64 sa.e,.bool sb.neg,.string sb.aY,.int .i64 sb.e] (0,0)] w')
    (fun v _=>d-i+1-(intOf v).toNat) ?_ ?_
   ·exact ⟨0,Yx _,rfl,hh⟩
   ·clear hh;rintro ρ2 v w2 ⟨j,hj,rfl,hh⟩;by_cases hjn:j<d-i+1
    ·have hbl:(nA (d-i))[j]?=some (bin (d-i) j):=uM Yo;have hbn:((nA (d-i)).map fun n=>nR (nD n))[j]?=some (nR (nD (bin (d-i) j))):=by rw [YJ,hbl];rfl
     have zb:=sY (d-i) j Yo;have hpb:=hpw sb b vb j Yo;have zq:=hb.xG (show j≤d by omega);obtain ⟨o,ho⟩:=ao (l:=jJ d a b xs i j) (k:=i+j) (by rw [la];omega);have hon:((jJ d a b xs i j).map nR)[i+j]?=some (nR o):=by rw [YJ,ho];rfl
     have zo:=uC (j:=j) hx ha hb hd (show i≤d+1 by omega) o (Yy ho);have zy:=(zc.mul zb).mul zq;have hm3:=fun A cc w1 hT1 hS1=>fZ A 3 cc [nR (x*a^i),nR (nD (bin (d-i) j)),nR (b^j)] w1 hT1 hS1 (by simpa using ⟨zc.ok Yo,zb.ok Yo,zq.ok Yo⟩) 600000 (by simpa [bL] using ⟨zc.mono Yo,zb.mono Yo,zq.mono Yo⟩) Yo Yo;rw [show iw ([nR (x*a^i),nR (nD (bin (d-i) j)),nR (b^j)].map NR.d)=x*a^i*nD (bin (d-i) j)*b^j by simp only [Y6,Zv,bL];show 1*(x*a^i)*_*_=_;rw [aap]] at hm3;have hset:=Dl (show i+j≤d by omega) ho;have hval:hH xs i*gD d a b i (i+j)=x*a^i*nD (bin (d-i) j)*b^j:=by
      unfold gD;rw [hat,Yu Yo,show i+j-i=j by omega];generalize nD (bin (d-i) j)=u;generalize a^i=v;generalize b^j=z;grind
     rw [hval] at hset;generalize x*a^i*nD (bin (d-i) j)*b^j=y at*;have hsum:=fun A cc w1 hT1 hS1=>iH A 2 cc [nR o,nR y] w1 hT1 hS1 (by simpa using ⟨zo.ok Yo,zy.ok Yo⟩) 2000000 (by simpa [bL] using ⟨zo.mono Yo,zy.mono Yo⟩) Yo;rw [show nt ([nR o,nR y].map NR.d)=o+y by simp only [Y6,Zv,bL,ki]] at hsum;have hll:((jJ d a b xs i j).map nR).length=n:=by rw [YI,la];omega
     generalize jJ d a b xs i j=S at*;have hrl:=fj NR.len (S.map nR);obtain ⟨gw,rfl⟩:=hh.cq (i:=0) rfl Yo;refine sr ?_;refine dY ?_;refine ni ?_;refine cg (vs:=[_,_,_]) aJ.out rfl (hh.dT (f:=NR.cells) (x:=nR (nD (bin (d-i) j))) (l:=(nA (d-i)).map fun n=>nR (nD n)) (i:=0) rfl NR.len Yp hbn) rfl Yp ?_;refine bC hh ?_;intro b10 w10 hh;refine aI ?_;refine bg hh 0 [_,_,_] ?_;intro ws hh;replace hh:Hp _ (.blk _ _ [_,_,_] _::_) _:=hh;refine aa ?_;refine aK 20 [[(6,none)],[(7,none)],[(9,none)],[(43,some 1),(44,some 2)],[(6,none)],[(7,none)],[(9,none)],[(47,some 5),(48,some 6)],[(46,some 4),(49,some 7)],[(50,some 8)],[(8,none)],[(10,none)],[(2,none)],[(54,some 12)],[(9,none)],[(55,some 13),(56,some 14)],[(52,some 10),(53,some 11),(57,some 15)],[(58,some 16)],[(51,some 9),(59,some 17)],[(60,some 18)]] [(19,61),(18,60),(17,59),(16,58),(15,57),(14,56),(13,55),(12,54),(11,53),(10,52),(9,51),(8,50),(7,49),(6,48),(5,47),(4,46),(3,45),(2,44),(1,43),(0,42)] hh mixed Yq ?_;refine gI ?_;refine dJ ?_;refine dJ ?_;refine qT ?_;refine gI ?_;refine dJ ?_;refine dJ ?_
     refine qT ?_;refine EG ((i+j)) ?_;refine pW [_,_,_] (fun _ hj=>hj.hp.dT (f:=NR.cells) (x:=nR o) (l:=S.map nR) (i:=3) rfl NR.len Yp hon) ?_;refine dK 2 [_,_,_] ?_;refine dK 0 [_,_,_] ?_;refine dR ?_;refine dK 4 [_,_,_] ?_;refine dJ ?_;refine dC (fun _ hj=>hpb _ (hT.hp hj.hp)) ?_;refine x3 [_,_,_,_,_,_,_,_,_] ?_;refine a7 (i:=17) (Is (.agg #[.bool (nR y).neg,.string (nR y).aY,.int .i64 (nR y).e])) Is.ext ?_ ?_
     ·intro ρ1 w1 hj hR;obtain ⟨A58,c58,h58,s58⟩:=hR.1;exact bV rfl (bf au.out (aC h58 bh)) (hm3 A58 c58 _ (hT.hp hj.hp) s58) (fun _ _ hq=>⟨_,hq.1,hq.2,rfl⟩)
     refine x3 [_,_,_,_,_,_] ?_;refine a7 (i:=19) (Is (.agg #[.bool (nR (o+y)).neg,.string (nR (o+y)).aY,.int .i64 (nR (o+y)).e])) Is.ext ?_ ?_
     ·intro ρ1 w1 hj hR;obtain ⟨A60,c60,h60,s60⟩:=hR.1;exact bV rfl (bf au.out (aC h60 bh)) (hsum A60 c60 _ (hT.hp hj.hp) s60) (fun _ _ hq=>⟨_,hq.1,hq.2,rfl⟩)
     refine aH ?_;intro f W hJ hV;have hb_10:=hJ.bl;obtain ⟨v61,v60,v59,v58,v57,v56,v55,v54,v53,v52,v51,v50,v49,v48,v47,v46,v45,v44,v43,v42,_⟩:=hV;obtain ⟨A58,c58,e58,f58⟩:Rows _ _ _ (f 16) W:=v58;obtain ⟨A60,c60,e60,f60⟩:Rows _ _ _ (f 18) W:=v60;replace hh:=hJ.hp;refine aN (a6 (ae v61 (ae e60 (ae v59 (ae e58 (ae v57 (ae v56 (ae v55 (ae v54 (ae v53 (ae v52 (ae v51 (ae v50 (ae v49 (ae v48 (ae v47 (ae v46 (ae v45 (ae v44 (ae v43 (ae v42 aO))))))))))))))))))))) ?_;dsimp only [bP];clear e58 e60 hJ;refine cJ (k:=(i+j)) bG.out aJ.size rfl rfl Yo Yo Yp ?_;refine Ic ?_;intro ws hh;simp only [YG,Y8] at hh;rw [show cm (aA NR.cells (S.map nR)) ((i+j)*3) [.bool (nR (o+y)).neg,.string (nR (o+y)).aY,.int .i64 (nR (o+y)).e]=aA NR.cells ((S.map nR).set (i+j) (nR (o+y))) from eX NR.len Yo,←aaB,hset] at hh;refine gu ?_;refine a8 (mI (aD (ai ?_)));replace hh:=hh.sub (Yw _ (Yv _ (Yv _ (Yv _ (Yv _ YR)))));exact Sh
    ·obtain rfl:j=d-i+1:=Yo;rw [zQ Yo] at hh;refine sr ?_;refine rQ ?_;refine a8 (mI (aD (ai ?_)));replace hh:=hh.sub (Yw _ (Yw _ (Yv _ (Yv _ YR))));exact yV
  ·obtain rfl:i=n:=Yo;rw [show jJ d a b xs i 0=eh d (gD d a b) xs by rw [hn,oZ]] at hh;exact NH
def sx (l:List Dyadic) (i:Nat):List Dyadic:=(List.range l.length).map fun k=>if k<i∨l.length≤k+i then hH l (l.length-1-k) else hH l k
theorem oR {l:List Dyadic}{i:Nat} (h:k<l.length):(sx l i)[k]?=some (if k<i∨l.length≤k+i then hH l (l.length-1-k) else hH l k):=by
 unfold sx;rw [YJ,ZF h]
 rfl
theorem ug {l:List Dyadic} (h:k<l.length):l[k]?=some (hH l k):=by
 unfold hH;rw [ZP h]
 rfl
theorem ma (l:List Dyadic) (i:Nat):(sx l i).length=l.length:=by simp [sx]
theorem JQ (l:List Dyadic):sx l 0=l:=by
 refine ZI fun k=> ?_;by_cases h:k<l.length
 ·rw [oR h,Yu Yo,ug h]
 ·rw [YQ (by rw [ma];omega),YQ Yo]
theorem Kv {l:List Dyadic}{i:Nat} (h:l.length≤2*i+1):sx l i=l.reverse:=by
 refine ZI fun k=> ?_;by_cases hk:k<l.length
 ·rw [oR hk,aam hk,ug (show l.length-1-k<l.length by omega)];split
  ·rfl
  ·rw [show l.length-1-k=k by omega]
 ·rw [YQ (by rw [ma];omega),YQ (by rw [Y9];omega)]
theorem JP {l:List Dyadic}{i:Nat} (h:2*i+1<l.length):((sx l i).set i (hH l (l.length-1-i))).set (l.length-1-i) (hH l i)=sx l (i+1):=by
 refine ZI fun k=> ?_;by_cases hk:k<l.length
 ·rw [aaf,aaf,aas,ma,oR hk,oR hk];by_cases h1:l.length-1-i=k
  ·rw [Yt h1,Yt Yo,Yt Yo,show l.length-1-k=i by omega]
  ·rw [Yu h1];by_cases h2:i=k
   ·subst h2;rw [Yt rfl,Yt hk,Yt Yo]
   ·rw [Yu h2];by_cases h3:k<i∨l.length≤k+i
    ·rw [Yt h3,Yt Yo]
    ·rw [Yu h3,Yu Yo]
 ·rw [YQ (by rw [aas,aas,ma];omega),YQ (by rw [ma];omega)]
theorem xf (g n c:Nat) (l:List Dyadic) (w:World) (hh:Hp w0 (.row (some ⟨g,0,none⟩) n c 33 3 (aA NR.cells (l.map nR))::Hr) w) (hl:l.length=n) (hn:n≤1000000):
  Calls Tryz.prog 228 #[.slice (some ⟨g,0,none⟩) n c] w fun r w'=>r=.returned (.tuple #[])∧Hp w0 (.row (some ⟨g,0,none⟩) n c 33 3 (aA NR.cells (l.reverse.map nR))::Hr) w':=by
 refine aj (N:=28) (l:=[.slice (some ⟨g,0,none⟩) n c]) Tryz.func228 rfl rfl (by simp) ?_;refine sr (mL (aM ?_));refine ee (aI (aI (aa (ar ?_))));refine bH [2,3,7,8,9,10,11,12,13,14,15,16,17,18,19,20,21,22,23,24,25,26,27] 2 3
  (fun v2 v w'=>∃i:Nat,2*i≤n+1∧v2=.int .i64 i∧v=.int .i64 ((n:Int)-1-i)∧Hp w0 (.row (some ⟨g,0,none⟩) n c 33 3 (aA NR.cells ((sx l i).map nR))::Hr) w')
  (fun v _ _=>n-(intOf v).toNat) ?_ ?_
 ·exact ⟨0,Yo,rfl,by show Value.int _ _=Value.int _ _;rw [show (n:Int)-1-((0:Nat):Int)=(n:Int)-1 by omega],by rw [JQ];exact hh⟩
 ·clear hh;rintro ρ' v2 v w' ⟨i,hi,rfl,rfl,hh⟩;by_cases hlt:(i:Int)<(n:Int)-1-i
  ·have h1:((sx l i).map nR)[n-1-i]?=some (nR (hH l (n-1-i))):=by
    rw [YJ,oR Yo,Yu Yo]
    rfl
   have h2:((sx l i).map nR)[i]?=some (nR (hH l i)):=by
    rw [YJ,oR Yo,Yu Yo]
    rfl
   have hst:=JP (l:=l) (i:=i) Yo;rw [hl] at hst;have hll:((sx l i).map nR).length=n:=by rw [YI,ma,hl]
   generalize sx l i=S at*;have hrl:=fj NR.len (S.map nR);generalize hH l (n-1-i)=x at*;generalize hH l i=y at*;refine ah (sr (mI (mI ?_)));refine Iy ?_;refine ej [] [2,3] [0,0,0,0,0,0,48,112,0,0,768,1792,4083,8179,16383,32767] 12 [[(0,none)],[(2,none)],[(0,none)],[(3,none)],[(0,none)],[(3,none)],[(18,some 4),(19,some 5)],[(20,some 6)],[(0,none)],[(2,none)],[(22,some 8),(23,some 9)],[(24,some 10)]] [(11,25),(10,24),(9,23),(8,22),(7,21),(6,20),(5,19),(4,18),(3,17),(2,16),(1,15),(0,14)] hh mixed Yq eI rfl (by repeat (first|exact cz|refine bR ?_|refine cG ?_)) ?_;refine gI ?_;refine dJ ?_;refine gI ?_;refine dJ ?_;refine gI ?_;refine dJ ?_;refine EG ((n-1-i)) ?_;refine pW [_,_,_] (fun _ hj=>hj.hp.dT (f:=NR.cells) (x:=nR x) (l:=S.map nR) (i:=0) rfl NR.len Yp h1) ?_;refine gI ?_;refine dJ ?_;refine EG (i) ?_;refine pW [_,_,_] (fun _ hj=>hj.hp.dT (f:=NR.cells) (x:=nR y) (l:=S.map nR) (i:=0) rfl NR.len Yp h2) ?_;refine aH ?_;intro f W hJ hV _;have hb_3:=hJ.bl;obtain ⟨v25,v24,v23,v22,v21,v20,v19,v18,v17,v16,v15,v14,_⟩:=hV;replace hh:=hJ.hp
   refine aN (a6 (ae v25 (ae v24 (ae v23 (ae v22 (ae v21 (ae v20 (ae v19 (ae v18 (ae v17 (ae v16 (ae v15 (ae v14 aO))))))))))))) ?_;dsimp only [bP];clear hJ;refine il ?_;refine GS ?_;intro ws hh;simp only [YG] at hh;rw [show cm (aA NR.cells (S.map nR)) (i*3) [.bool (nR x).neg,.string (nR x).aY,.int .i64 (nR x).e]=aA NR.cells ((S.map nR).set i (nR x)) from eX NR.len Yo] at hh;have hrl2:=fj NR.len ((S.map nR).set i (nR x));rw [aas] at hrl2;refine cJ (k:=(n-1-i)) bG.out aJ.size rfl rfl Yo Yo Yp ?_;refine GS ?_;intro ws hh;simp only [YG] at hh;rw [show cm (aA NR.cells ((S.map nR).set i (nR x))) ((n-1-i)*3) [.bool (nR y).neg,.string (nR y).aY,.int .i64 (nR y).e]=aA NR.cells (((S.map nR).set i (nR x)).set (n-1-i) (nR y)) from eX NR.len (by rw [aas];omega),←aaB,←aaB,hst] at hh;refine aD (bz (ai (ak (mI ?_))));refine a8 (mI ?_);refine ee (aI (aI (aD (ai ?_))));refine ⟨⟨i+1,Yo,rfl, ?_,hh⟩,by show n-(i+1)<n-i;omega, ?_⟩
   ·show Value.int _ _=Value.int _ _;rw [show (n:Int)-1-((i+1:Nat):Int)=(n:Int)-1-(i:Int)-1 by omega]
   ·exact er
  ·rw [Kv Yo] at hh;refine ah (sr (mI (mI ?_)));refine a9 (aa (cF (aX (aE (aE (bA ?_))))));refine Pf (by first|exact .inr rfl|exact .inl rfl) rfl ?_;exact ⟨rfl,hh⟩
theorem CR (sa sb:NR) (a b:Dyadic) (L:Option Addr) (n c d:Nat) (xs:List Dyadic) (k q:Nat) (w:World) (hT:dP w) (hS:Sl w L n 3 (aA NR.cells (xs.map nR))) (hn:n=d+1) (hd:d≤127) (hx:∀x∈xs,Sz k x) (va:xH q sa a) (vb:xH q sb b) (hk:k≤300000) (hq:q≤2000):
  Calls Tryz.prog 198 #[.agg #[.bool sa.neg,.string sa.aY,.int .i64 sa.e,.bool sb.neg,.string sb.aY,.int .i64 sb.e],.slice L n c] w fun r w'=>∃A c',r=.returned (.slice A n c')∧w'.ownsRow w.heap.size 33 3 (.slice A n c') n (aA NR.cells ((eh d (gD d b a) xs.reverse).reverse.map nR))∧Below w.heap.size w w':=by
 have hh:=Hp.start w;have hln:xs.length=n:=by have:=hS.bk NR.len Yp;simpa using this
 refine aj (N:=21) (l:=[.agg #[.bool sa.neg,.string sa.aY,.int .i64 sa.e,.bool sb.neg,.string sb.aY,.int .i64 sb.e],.slice L n c]) Tryz.func198 rfl rfl (by simp) ?_;refine sr ?_;refine bO hh [_,_,_,_,_,_] ?_;intro b2 w2 hh;refine aL (aa (sr (mL ?_)));refine ay (mN L n c (xs.map nR) _ (hS.ext hh.below) Yo) au.out rfl Yp ?_;rintro e_ w8 ⟨A8,c8,rfl,hown_,hb_⟩;refine ⟨_,rfl, ?_⟩;replace hh:=hh.aP (x:=.row _ _ _ _ _ _) hb_ hown_;obtain ⟨g8,rfl⟩:=hh.cq (i:=0) rfl Yo;refine aL (aa (sr (mL ?_)));refine ay (xf g8 n c8 xs _ hh hln Yo) au.out rfl Yp ?_;rintro e_ w10 ⟨rfl,hh2⟩;refine ⟨_,rfl, ?_⟩;replace hh:=hh2;clear hh2;have hlo:=fun w1 hT1 hS1=>tK sb sa b a (some ⟨g8,0,none⟩) n c8 d xs.reverse k q w1 hT1 hS1 hn hd (fun x hx2=>hx x (aau.1 hx2)) vb va hk hq;refine aa (sr (bo ?_));refine bJ hh 1 [_,_,_] (bo ?_);refine bJ hh 1 [_,_,_] ?_;refine fe [_,_,_,_,_,_] (mL ?_);refine ay (hlo _ (hT.hp hh) (hh.az (i:=0) rfl)) au.out rfl Yp ?_;rintro e_ w17 ⟨A17,c17,rfl,hown_,hb_⟩;refine ⟨_,rfl, ?_⟩;replace hh:=hh.aP (x:=.row _ _ _ _ _ _) hb_ hown_;obtain ⟨g17,rfl⟩:=hh.cq (i:=0) rfl Yo;refine aL (aa (sr (mL ?_)))
 refine ay (xf g17 n c17 (eh d (gD d b a) xs.reverse) _ hh (by rw [kL];omega) Yo) au.out rfl Yp ?_;rintro e_ w19 ⟨rfl,hh2⟩;refine ⟨_,rfl, ?_⟩;replace hh:=hh2;clear hh2;refine aa (sr (mL (aL (aa (av ?_)))));exact MS
def XH (base:Nat) (E:Int) (D:List Nat) (ys:List Dyadic):VP:=fun v W=>∃(g:FX) (w1:World),v=.agg #[.slice g.A g.n g.a,.slice g.B g.m g.b]∧Out E D ys g∧base≤w1.heap.size∧Hp w1 [g.kB,g.kD] W
def Ya (base:Nat) (E:Int) (D:List Nat) (ys:List Dyadic):VP:=fun v W=>∃(g:FX) (w1:World),v=.tuple #[.agg #[.slice g.A g.n g.a,.slice g.B g.m g.b],.int .i64 E]∧Out E D ys g∧base≤w1.heap.size∧Hp w1 [g.kB,g.kD] W
instance:aJ Tryz.prog 187 1 false 8 [.nilFunc]:={}
theorem yG {bs:List (Fin m)}{q:Fin m} (h:bs++[q]=(List.finRange m).take (bs++[q]).length) (hb:bs.length<m):bs=(List.finRange m).take bs.length∧q.val=bs.length:=by
 have hl:(bs++[q]).length=bs.length+1:=by simp
 rw [hl] at h;have h1:=Ze (List.take bs.length) h;rw [List.take_left' rfl,List.take_take,ZK Yo] at h1;have h2:(bs++[q])[bs.length]?=((List.finRange m).take (bs.length+1))[bs.length]?:=by rw [←h]
 rw [ZC (YA _),Zn,ZX,Yt Yo,show (List.finRange m)[bs.length]?=some ⟨bs.length,hb⟩ by rw [ZP (by rw [abg];exact hb),List.getElem_finRange];rfl] at h2;exact ⟨h1,Ze Fin.val (Zg h2)⟩
theorem zr {Q:Kd}{g:Operand}{p:Tmp}{gf:Nat}{lb:Array Value} (q:Nat) (hq:q<N) (hp:p<N) (hg:ev ρ g=.func (.func gf) #[] lb) (eg:∀args w,(callFunc gf args).run P w=.ok (.enter gf args) w)
  {enc:α→Value}{Kp:World→World→Prop}{S:List α→Prop}{Nn:Nat} (hseq:∀n,SeqStopsK Fence.wide n P gf lb (fun x=> #[enc x]) Kp S (fun _=>True) Nn w)
  (hKt:∀{A B C:World},Kp A B→Kp B C→Kp A C) (hKb:∀(W:World) (l:Nat) (o o':Obj),w.heap.size≤l→W.heap[l]?=some o→o.isCells=false→o.isWalk=false→Kp W (W.putObj l o'))
  (I:List α→World→Prop) (hI:OwnFrom w.heap.size I) (h0:I [] w)
  (hassign:∀l x W,WC ⟨some l,[],true⟩ P N assign (cM (fun ρ' W'=>ρ'=cP (cP ρ p (enc x)) q (enc x)∧W'=W) rB) (cP ρ p (enc x)) W)
  (hbody:∀l pre x W,I pre W→pre.length<Nn→WC ⟨some l,[],true⟩ P N body (Ri Kp I pre x W) (cP (cP ρ p (enc x)) q (enc x)) W)
  (hdone:∀(D:Nat) (xs:List α) (W:World),w.heap.size≤D→S xs→I xs W→W.heap[D]?=some (.deferred (some []))→Q .normal [D] ρ W):WD P N (.rangeFunc g #[p] assign body) Q ρ w:=
 MZ hp hg eg hseq hKt hKb I hI h0 (fun x=>cP (cP ρ p (enc x)) q (enc x)) (fun x i hi=>by rw [bF _ (fun h=>absurd hq (by rw [←h];exact Nat.not_lt.2 hi)),bF _ (fun h=>absurd hp (by rw [←h];exact Nat.not_lt.2 hi))]) hassign hbody hdone
theorem rn (DA NA:Option Addr) (n c m e:Nat) (pre suf:List Nat) (dd:Nat) (M:Nat→Nat→Dyadic) (xs:List Dyadic) (fid:FuncId) (fst cap:List Value) (k G:Nat) (w:World) [au Tryz.prog fid] (hT:dP w)
  (hD:Sl w DA n 1 (bD (bq (pre++dd::suf)))) (hS:Sl w NA m 3 (aA NR.cells (xs.map nR))) (hcap:n≤c) (hn:n≤1000) (hlow:∀x∈pre++dd::suf,x≤127) (hm:xs.length=al (suf.reverse++dd::pre.reverse)) (hm4:m≤4096)
  (hx:∀x∈xs,Sz k x) (hk:k+al pre*G≤300000)
  (hdo:∀(L:Option Addr) (c2:Nat) (ls:List Dyadic) (q:Nat) (w1:World),Below w.heap.size w w1→dP w1→Sl w1 L (dd+1) 3 (aA NR.cells (ls.map nR))→(∀x∈ls,Sz q x)→q≤300000→
   Calls Tryz.prog fid (fst++Value.slice L (dd+1) c2::cap).toArray w1 fun r w'=>∃A c',r=.returned (.slice A (dd+1) c')∧w'.ownsRow w1.heap.size 33 3 (.slice A (dd+1) c') (dd+1) (aA NR.cells ((eh dd M ls).map nR))∧Below w1.heap.size w1 w')
  (hgr:∀(ls:List Dyadic) (q:Nat),ls.length=dd+1→(∀x∈ls,Sz q x)→∀x∈eh dd M ls,Sz (q+G) x):
  Calls Tryz.prog 196 #[.agg #[.slice DA n c,.slice NA m e],.int .i64 (pre.length:Nat),.func (.func fid) fst.toArray cap.toArray] w fun r w'=>∃A a B b,r=.returned (.agg #[.slice A n a,.slice B m b])∧Hp w [.row B m b 33 3 (aA NR.cells ((fH (suf.reverse++dd::pre.reverse) suf.length M xs).map nR)),.row A n a 3 1 (bD (bq (pre++dd::suf)))] w':=by
 have hh:=Hp.start w;have hln:pre.length+(suf.length+1)=n:=by have:=hD.1;rw [cQ,dr,YE,Y3] at this;omega
 have hlm:xs.length=m:=by have:=hS.bk NR.len Yp;rw [YI] at this;exact this
 have hcA:al suf.reverse=al suf:=cI suf;have hcB:al pre.reverse=al pre:=cI pre;have hmK:m=al pre*((dd+1)*al suf):=by rw [←hlm,hm,dA,al,hcA,hcB];rw [YO (al suf),Nat.mul_right_comm,YO _ (al pre)]
 have hA0:=di suf;have hB0:=di pre;have hAm:al suf≤m:=by rw [hmK];exact Y1 (aaX _ Yo) (aaX _ hB0)
 have hKm:(dd+1)*al suf≤m:=by rw [hmK];exact aaX _ hB0
 have hdl:dd≤127:=hlow dd (Zu _ YD);obtain ⟨ad,rfl,hr⟩:=hD.at_ Yo;have hgd:(bD (bq (pre++dd::suf)))[pre.length]?=some (.int .i64 (dd:Nat)):=cK (eO (by rw [ZC (YA _),Zn];rfl));refine yN (N:=93) (l:=[.agg #[.slice (some ad) n c,.slice NA m e],.int .i64 (pre.length:Nat),.func (.func fid) fst.toArray cap.toArray]) Tryz.func196 rfl rfl (by simp) ?_;refine iX fun D_=> ?_;refine ak ?_;refine bO hh [_,_] ?_;intro b3 w3 hh;refine bO hh [_] ?_;intro b5 w5 hh;refine bC hh ?_;intro b6 w6 hh;refine aa ?_;refine iX fun D_=> ?_;refine ak (bo ?_);refine bp hh 2 ?_;refine mI ?_;refine cN (k:=pre.length) bG.out aJ.size rfl rfl Yo Yo Yp ?_;refine bY aJ.out rfl ((hr.ext hh.below).tN hgd) Yp ?_;refine a8 ?_;refine bC hh ?_;intro b7 w7 hh;refine bC hh ?_;intro b8 w8 hh;refine bg hh 1 [_] ?_;intro ws hh;replace hh:Hp _ (_::.blk _ _ [_] _::_) _:=hh;refine bg hh 0 [_] ?_;intro ws hh;replace hh:Hp _ (.blk _ _ [_] _::_) _:=hh;refine aa ?_;refine iX fun D_=> ?_;refine sr (bo ?_);refine bp hh 4 ?_;refine mI ?_;refine a8 ?_
 refine aV rfl rfl Yp (gZ bG.out aJ.size rfl rfl (l:=pre.length+1) rfl Yo Yo) ?_;have hbk:=hD.back (l:=pre.length+1) (c:=c) Yo hcap;have hds:(bD (bq (pre++dd::suf))).drop ((pre.length+1)*1)=bD (bq suf):=by
  rw [YV];unfold bD bq;rw [←aaV,←aaV,←aaM,List.drop_left]
  rfl
 rw [hds] at hbk;generalize (if c=pre.length+1 then some ad else (some ad:Option Addr).map (·.add ((pre.length+1)*1)))=CA at hbk ⊢;have en:n-(pre.length+1)=suf.length:=Yo;rw [en] at hbk ⊢;refine aM (mI (aa (ar ?_)));have hcap':∀i,al (suf.take i)≤al suf:=ez suf;refine aT [10,30,31,32,33,34,35,36,37,38] 30
  (fun v w'=>∃i:Nat,i≤suf.length∧v=.int .i64 i∧Hp w [.blk b8 3 [.int .i64 (al (suf.take i):Nat)] (0,0),.blk b7 3 [.int .i64 ((dd:Nat)+1)] (0,0),.blk b6 25 [.slice none 0 0,.slice none 0 0] (0,0),.blk b5 187 [.func (.func fid) fst.toArray cap.toArray] (0,0),.blk b3 25 [.slice (some ad) n c,.slice NA m e] (0,0)] w')
  (fun v _=>suf.length-(intOf v).toNat) ?_ ?_
 ·exact ⟨0,Yx _,rfl,hh⟩
 ·clear hh;rintro ρ' v w' ⟨i,hi,rfl,hh⟩;by_cases hlt:i<suf.length
  ·obtain ⟨x,hxi⟩:=ao (l:=suf) (k:=i) hlt;have hgi:=cK (eO hxi);have hx2:=hlow x (Zu _ (YK _ (Yy hxi)));have hct:=hcap' (i+1);have hct2:=hcap' i;have hstep:al (suf.take (i+1))=al (suf.take i)*(x+1):=by rw [aw hxi,dA];simp [al]
   have e1:((al (suf.take i):Nat):Int)*((x:Int)+1)=((al (suf.take (i+1)):Nat):Int):=by rw [hstep,ZB,ZQ];rfl
   obtain ⟨ab,rfl,sb⟩:=hbk.at_ Yo;refine sr ?_;refine dI ?_;refine bZ ?_;refine bY aJ.out rfl ((sb.ext hh.below).tN hgi) Yp ?_;refine aI (aa (ak ?_));refine bp hh 0 ?_;refine mI ?_;refine a8 ?_;refine mulC ?_;refine bg hh 0 [_] ?_;intro ws hh;replace hh:Hp _ (.blk _ _ [_] _::_) _:=hh;refine gu ?_;refine a8 (mI (aD (ai ?_)));rw [e1] at hh;refine ⟨⟨i+1,Yo,rfl,hh⟩,by show suf.length-(i+1)<suf.length-i;omega, ?_⟩;exact er
  ·obtain rfl:i=suf.length:=Yo;rw [YC (YA _),←hcA] at hh;rw [←hcA,←hcB] at hmK;rw [←hcA] at hA0 hKm;rw [←hcB] at hB0 hk;have hrA:suf.reverse.length=suf.length:=Y9;rw [←hrA];generalize suf.reverse=A at*;generalize pre.reverse=B at*;refine sr ?_;refine a9 (aa (ah (cF (aX (aE (aE (bA (ai ?_))))))));refine iX fun D_=> ?_;refine NY ?_;refine aK 8 [[(3,none)],[(39,some 0)],[(40,some 1)],[(3,none)],[(42,some 3)],[(43,some 4)],[(41,some 2),(44,some 5)],[]] [(7,11),(6,45),(5,44),(4,43),(3,42),(2,41),(1,40),(0,39)] hh mixed Yq ?_;refine dR ?_;refine fW 4 ?_;refine a7 (i:=2) (E7 hh.sz 3 n 1 (bD (bq (pre++dd::suf)))) (E7.ext) ?_ ?_
   ·intro ρ1 w1 hj hR;exact bV rfl (bf au.out (aC (show ρ1 40=Value.slice _ _ _ from hR.1) bh)) (m6 (some ad) n c _ w1 (hD.ext hj.hp.below) Yo) (fun _ _ ⟨A,c,hq,ho,hb⟩=>⟨_,hq,hb,A,c,rfl,iB ho hj.bl.size⟩)
   refine dR ?_;refine fW 4 ?_;refine a7 (i:=5) (E7 hh.sz 33 m 3 (aA NR.cells (xs.map nR))) (E7.ext) ?_ ?_
   ·intro ρ1 w1 hj hR;exact bV rfl (bf au.out (aC (show ρ1 43=Value.slice _ _ _ from hR.1) bh)) (mN NA m e _ w1 (hS.ext hj.hp.below) Yo) (fun _ _ ⟨A,c,hq,ho,hb⟩=>⟨_,hq,hb,A,c,rfl,iB ho hj.bl.size⟩)
   refine a7 (i:=6) (vX hh.sz 3 33 n 1 m 3 (bD (bq (pre++dd::suf))) (aA NR.cells (xs.map nR))) (vX.ext) ?_ ?_
   ·intro ρ1 w1 hj hR;exact let ⟨A,c,e1,o1⟩:=hR.1;let ⟨B,k,e2,o2⟩:=hR.2.1;fI rfl (mJ (cs:=[_,_]) aJ.out ko.out (bQ e1 (bQ e2 dN)) rfl) ⟨Below.refl _ _,A,c,B,k,rfl,o1,o2⟩
   refine a7 (i:=7) (cw _ 25 _) cw.ext (fun ρ1 w1 hj hR=>iJ aJ.out hj.bl (fun v w2 h hb=>⟨hb,h⟩)) ?_;refine aH ?_;intro f W hJ hV;have hb_7:=hJ.bl;obtain ⟨v11,v45,v44,v43,v42,v41,v40,v39,_⟩:=hV;obtain ⟨g41,u41,e41, -⟩:=v41;obtain ⟨g44,u44,e44, -⟩:=v44;obtain ⟨A45,c45,B45,k45,e45,o45,p45⟩:=v45;obtain ⟨b11,e11,hl11,hc11⟩:cw _ _ _ (f 7) W:=v11;replace hh:=JJ.Gm hJ hh hl11 hc11 o45 p45 Yp Yp Yp;refine aN (a6 (ae e11 (ae e45 (ae e44 (ae v43 (ae v42 (ae e41 (ae v40 (ae v39 aO))))))))) ?_;dsimp only [bP];clear e41 e44 e45 e11 hJ;have eK:((dd:Nat):Int)+1=((dd+1:Nat):Int):=Yo;have eK2:(((dd:Nat):Int)+1)*((al A:Nat):Int)=(((dd+1)*al A:Nat):Int):=by rw [eK,←ZB]
   refine bg hh 0 [_,_] ?_;intro ws hh;replace hh:Hp _ (.blk _ _ [_,_] _::_) _:=hh;refine aa ?_;refine uS ?_;refine iX fun D_=> ?_;refine ak (bo ?_);refine bp hh 0 ?_;refine bp hh 4 ?_;refine bp hh 3 ?_;refine mulC ?_;rw [eK2];refine ay (tB B45 m k45 ((dd+1)*al A) _ (Y1 hA0 (aaX _ Yo))) au.out rfl Yp ?_;rintro e_ w51 ⟨b2,b1,rfl,h2⟩;refine ⟨_,rfl, ?_⟩;replace hh:=hh.join h2;simp only [YB,Yz] at hh;clear h2;refine aa ?_;have hmk:=hh.gG (i:=4) rfl;obtain ⟨g,rfl⟩:=hh.cq (i:=4) rfl Yo;have hc2:=hh.dk (i:=1) (o:=0) rfl rfl;have hc1:=hh.dk (i:=0) (o:=0) rfl rfl;have hseq:=yn b2 b1 ⟨g,0,none⟩ m k45 ((dd+1)*al A) (al B) _ hc2 hc1 hmK (Zl hA0 (aaX _ Yo)) hmk Yo Yo;refine rH (zr (α:=Fin (al B)) (enc:=fun j:Fin (al B)=>.slice (some ((⟨g,0,none⟩:Addr).add (j.val*((dd+1)*al A)*3))) ((dd+1)*al A) ((dd+1)*al A)) 12 Yp Yp rfl (enters_of Tryz.func88 Yq rfl) hseq H8 (fun W l o o' h _ _ _=>GN (lC hc2) (lC hc1) W l o o' h)
    (fun bs W=>∃X:List Dyadic,X.length=m∧(∀x∈X,Sz (k+bs.length*G) x)∧(bs=(List.finRange (al B)).take bs.length→X=KU A dd B M xs bs.length)∧Hp w [.row (some ⟨g,0,none⟩) m k45 33 3 (aA NR.cells (X.map nR)),.row A45 n c45 3 1 (bD (bq (pre++dd::suf))),.blk b1 3 [.int .i64 (((dd+1)*al A:Nat):Int)] (0,0),.blk b2 23 [.slice (some ⟨g,0,none⟩) m k45] (0,0),.blk b11 25 [.slice A45 n c45,.slice (some ⟨g,0,none⟩) m k45] (0,0),.blk b8 3 [.int .i64 (al A:Nat)] (0,0),.blk b7 3 [.int .i64 ((dd:Nat)+1)] (0,0),.blk b6 25 [.slice none 0 0,.slice none 0 0] (0,0),.blk b5 187 [.func (.func fid) fst.toArray cap.toArray] (0,0),.blk b3 25 [.slice (some ad) n c,.slice NA m e] (0,0)] W)
    ?own ?zero ?asg ?body ?done)
   case own=>
    intro s W W' row ⟨X,h1,h2,h3,h4⟩ hg hr;exact ⟨X,h1,h2,h3,h4.Mc (by simp [HE.Md]) hg fun r e=>⟨Y1 hh.size (hr r e).1,(hr r e).2⟩⟩
   case zero=>
    refine ⟨xs,hlm,fun x h=>(hx x h).mono Yo,fun _=>(Nb _ _ _).symm, ?_⟩;replace hh:=hh.perm (Zp (l₁:=[_,_,_]));simp only [YB,Yz] at hh;replace hh:=hh.perm (Zp (l₁:=[_,_,_,_]));simp only [YB,Yz] at hh;exact hh
   case asg=>
    intro l x W;refine ak (aL (aD ?_));exact ⟨rfl,rfl⟩
   case body=>
    rintro l bs q W ⟨X,hXl,hXz,hXe,hh0⟩ hbl;have hqB:=q.isLt;have hkb:bs.length*G≤al B*G:=Zo _ Yo;have hh:=hh0.G8;simp only [YB,Yz] at hh;generalize hO:xF _ _ _=O at hh;have hzl:∀f,∀x∈da A dd X f q.val,Sz (k+bs.length*G) x:=fun f x h=>by
     obtain ⟨i,_,rfl⟩:=YF.1 h;exact pU hXz _
    have hPl:∀f i,f<al A→i≤dd→cv A dd f i q.val<X.length:=fun f i h1 h2=>by rw [hXl,←hlm,hm];exact nW h1 h2 hqB
    have eAd:∀f i,((⟨g,0,none⟩:Addr).add (q.val*((dd+1)*al A)*3)).add ((f+i*al A)*3)=⟨g,cv A dd f i q.val*3,none⟩:=fun f i=>by
     rw [fw,fw];congr 1;unfold cv;grind
    rw [←Nu (A:=A) (d:=dd) (φ:=eh dd M) (X:=X) q.val] at hh;refine ar (sr ?_);refine bp hh 5 ?_;refine mI (aa (ar ?_));refine aT [13,14,15,16,17,54,55,56,57,58,59,60,61,62,63,64,65,66,67,68,69,70,71,72,73,74,75,76,77,78,79,80,81,82,83,84,85,86,87,88,89,90,91] 54
     (fun v w'=>∃f:Nat,f≤al A∧v=.int .i64 f∧Hp w (.row (some ⟨g,0,none⟩) m k45 33 3 (aA NR.cells ((BI A dd (eh dd M) X q.val f 0).map nR))::.row A45 n c45 3 1 (bD (bq (pre++dd::suf)))::.blk b1 3 [.int .i64 (((dd+1)*al A:Nat):Int)] (0,0)::.blk b2 23 [.slice (some ⟨g,0,none⟩) m k45] (0,0)::.blk b11 25 [.slice A45 n c45,.slice (some ⟨g,0,none⟩) m k45] (0,0)::.blk b8 3 [.int .i64 (al A:Nat)] (0,0)::.blk b7 3 [.int .i64 ((dd:Nat)+1)] (0,0)::.blk b6 25 [.slice none 0 0,.slice none 0 0] (0,0)::.blk b5 187 [.func (.func fid) fst.toArray cap.toArray] (0,0)::.blk b3 25 [.slice (some ad) n c,.slice NA m e] (0,0)::O) w')
     (fun v _=>al A-(intOf v).toNat) ?_ ?_
    ·exact ⟨0,Yx _,rfl,hh⟩
    ·clear hh;rintro ρ' v w' ⟨f,hf,rfl,hh⟩;by_cases hlt:f<al A
     ·refine sr ?_;refine a9 (aa (ah (cT (aq (ai (ah (ar (sr (mI (aI (aa (sr (aL (aa (ah (sr ?_))))))))))))))));refine bp hh 6 ?_;refine mI (aa (ar ?_));replace hh:=hh.dm 33 3;refine bH [14,15,58,59,60,61,62,63,64,65,66,67,68,69,70,71,72] 14 58
       (fun v14 v w'=>∃(i c14:Nat) (A14:Option Addr),i≤dd+1∧v14=.slice A14 i c14∧v=.int .i64 i∧Hp w (.row A14 i c14 33 3 (aA NR.cells (((da A dd X f q.val).take i).map nR))::.row (some ⟨g,0,none⟩) m k45 33 3 (aA NR.cells ((BI A dd (eh dd M) X q.val f 0).map nR))::.row A45 n c45 3 1 (bD (bq (pre++dd::suf)))::.blk b1 3 [.int .i64 (((dd+1)*al A:Nat):Int)] (0,0)::.blk b2 23 [.slice (some ⟨g,0,none⟩) m k45] (0,0)::.blk b11 25 [.slice A45 n c45,.slice (some ⟨g,0,none⟩) m k45] (0,0)::.blk b8 3 [.int .i64 (al A:Nat)] (0,0)::.blk b7 3 [.int .i64 ((dd:Nat)+1)] (0,0)::.blk b6 25 [.slice none 0 0,.slice none 0 0] (0,0)::.blk b5 187 [.func (.func fid) fst.toArray cap.toArray] (0,0)::.blk b3 25 [.slice (some ad) n c,.slice NA m e] (0,0)::O) w')
       (fun _ v _=>dd+1-(intOf v).toNat) ?_ ?_
      ·exact ⟨0,0,none,Yx _,rfl,rfl,hh⟩
      ·clear hh;rintro ρ2 v14 v w2 ⟨i,c14,A14,hi,rfl,rfl,hh⟩;by_cases hin:i<dd+1
       ·have hfi:f+i*al A<(dd+1)*al A:=by
         have:=Zo (al A) (show i≤dd by omega);rw [ZA];omega
        have hat:=NV (φ:=eh dd M) hlt (show i≤dd by omega) (hPl f i hlt Yo);refine sr ?_;refine a9 (aa (ah (cT (aq (ai (ah (ar (sr (mI (aI (aa (ak (mL (mL (mI (mI ?_))))))))))))))));refine bp hh 6 ?_;refine mulC ?_;refine a8 ?_;refine cN (k:=f+i*al A) bG.out aJ.size rfl rfl (by rw [ZQ,ZB]) hfi Yp ?_;rw [eAd];refine cg (vs:=[_,_,_]) aJ.out rfl (hh.dT (f:=NR.cells) (i:=1) rfl NR.len Yp (show ((BI A dd (eh dd M) X q.val f 0).map nR)[cv A dd f i q.val]?=some (nR (hH (da A dd X f q.val) i)) by rw [YJ,hat];rfl)) rfl Yp ?_;refine rW ?_;intro b70 w70 hh;refine pB ?_;intro A71 c71 w71 hh;simp only [YG,Y8] at hh;replace hh:=hh.sub (Zc _ _);refine lE ?_;refine a8 (mI (aD (ai ?_)));have htk:aA NR.cells (((da A dd X f q.val).take i).map nR)++[.bool (nR (hH (da A dd X f q.val) i)).neg,.string (nR (hH (da A dd X f q.val) i)).aY,.int .i64 (nR (hH (da A dd X f q.val) i)).e]=aA NR.cells (((da A dd X f q.val).take (i+1)).map nR):=by
         rw [aw (ug (l:=da A dd X f q.val) (k:=i) (by unfold da;simp;omega)),ZD,bM]
         rfl
        rw [htk] at hh;refine ⟨⟨i+1,_,_,Yo,rfl,rfl,hh⟩,by show dd+1-(i+1)<dd+1-i;omega, ?_⟩;exact er
       ·obtain rfl:i=dd+1:=Yo;rw [YC (by unfold da;simp)] at hh;have hdl:=fun w1 h1 hT1 hS1=>hdo A14 c14 (da A dd X f q.val) (k+bs.length*G) w1 h1 hT1 hS1 (hzl f) Yo;refine sr ?_;refine nj ?_;refine bp hh 9 ?_;refine mL ?_;refine gU (hdl _ hh.below (hT.hp hh) (hh.az (i:=0) rfl)) au.out rfl rfl Yp ?_;rintro e_ w75 ⟨A75,c75,rfl,hown_,hb_⟩;refine ⟨_,rfl, ?_⟩;replace hh:=hh.aP (x:=.row _ _ _ _ _ _) hb_ hown_;obtain ⟨g75,rfl⟩:=hh.cq (i:=0) rfl Yo;refine aM (mI (aa (ar ?_)));replace hh:=hh.sub (Yv _ (Yw _ (Yv _ (Yv _ (Yv _ (Yv _ (Yv _ (Yv _ (Yv _ (Yv _ (Yv _ (Yv _ (Zq _)))))))))))));generalize hφ:eh dd M (da A dd X f q.val)=ys at hh;have hyl:ys.length=dd+1:=by rw [←hφ,kL]
        refine aT [16,17,77,78,79,80,81,82,83,84,85,86,87,88,89,90] 77
         (fun v w'=>∃i:Nat,i≤dd+1∧v=.int .i64 i∧Hp w (.row (some ⟨g75,0,none⟩) (dd+1) c75 33 3 (aA NR.cells (ys.map nR))::.row (some ⟨g,0,none⟩) m k45 33 3 (aA NR.cells ((BI A dd (eh dd M) X q.val f i).map nR))::.row A45 n c45 3 1 (bD (bq (pre++dd::suf)))::.blk b1 3 [.int .i64 (((dd+1)*al A:Nat):Int)] (0,0)::.blk b2 23 [.slice (some ⟨g,0,none⟩) m k45] (0,0)::.blk b11 25 [.slice A45 n c45,.slice (some ⟨g,0,none⟩) m k45] (0,0)::.blk b8 3 [.int .i64 (al A:Nat)] (0,0)::.blk b7 3 [.int .i64 ((dd:Nat)+1)] (0,0)::.blk b6 25 [.slice none 0 0,.slice none 0 0] (0,0)::.blk b5 187 [.func (.func fid) fst.toArray cap.toArray] (0,0)::.blk b3 25 [.slice (some ad) n c,.slice NA m e] (0,0)::O) w')
         (fun v _=>dd+1-(intOf v).toNat) ?_ ?_
        ·exact ⟨0,Yx _,rfl,hh⟩
        ·clear hh;rintro ρ3 v w3 ⟨i,hi,rfl,hh⟩;by_cases hin:i<dd+1
         ·have hfi:f+i*al A<(dd+1)*al A:=by
           have:=Zo (al A) (show i≤dd by omega);rw [ZA];omega
          have hset:=QY (φ:=eh dd M) hlt (show i≤dd by omega) (hPl f i hlt Yo);rw [hφ] at hset;have hPx:=hPl f i hlt (show i≤dd by omega);have hSl:=kC (A:=A) (d:=dd) (φ:=eh dd M) (X:=X) q.val f i;have hrl:=fj NR.len ((BI A dd (eh dd M) X q.val f i).map nR);have hyi:(ys.map nR)[i]?=some (nR (hH ys i)):=by rw [YJ,ug Yo];rfl
          generalize hH ys i=y at*;refine sr ?_;refine dY ?_;refine il ?_;refine cg (vs:=[_,_,_]) aJ.out rfl (hh.dT (f:=NR.cells) (i:=0) rfl NR.len Yp hyi) rfl Yp ?_;refine bC hh ?_;intro b17 w17 hh;refine aI ?_;refine bg hh 0 [_,_,_] ?_;intro ws hh;replace hh:Hp _ (.blk _ _ [_,_,_] _::_) _:=hh;refine aa (ak (mL (mI (mI ?_))));refine bp hh 7 ?_;refine mulC ?_;refine a8 ?_;refine bJ hh 0 [_,_,_] ?_;refine cN (k:=f+i*al A) bG.out aJ.size rfl rfl (by rw [ZQ,ZB]) hfi Yp ?_;rw [eAd];generalize BI A dd (eh dd M) X q.val f i=V at*;have hpl:cv A dd f i q.val<(V.map nR).length:=by rw [YI,hSl];exact hPx
          refine ct hh (i:=2) (vs:=[_,_,_]) rfl rfl (gl rfl) rfl aJ.out rfl (by rw [hrl];omega) rfl ?_;intro ws hh;simp only [YG,Y8] at hh;rw [show cm (aA NR.cells (V.map nR)) (cv A dd f i q.val*3) [.bool (nR y).neg,.string (nR y).aY,.int .i64 (nR y).e]=aA NR.cells ((V.map nR).set (cv A dd f i q.val) (nR y)) from eX NR.len hpl,←aaB,hset] at hh;refine gu ?_;refine a8 (mI (aD (ai ?_)));replace hh:=hh.sub (Yw _ (Yv _ (Yv _ (Yv _ (Yv _ (Yv _ (Yv _ (Yv _ (Yv _ (Yv _ (Yv _ (Yv _ (Zq _)))))))))))));refine ⟨⟨i+1,Yo,rfl,hh⟩,by show dd+1-(i+1)<dd+1-i;omega, ?_⟩;exact er
         ·obtain rfl:i=dd+1:=Yo;rw [Mw] at hh;refine sr ?_;refine rQ ?_;refine a8 (mI (aD (ai ?_)));replace hh:=hh.sub (Yw _ (Yv _ (Yv _ (Yv _ (Yv _ (Yv _ (Yv _ (Yv _ (Yv _ (Yv _ (Yv _ (Zq _))))))))))));refine ⟨⟨f+1,Yo,rfl,hh⟩,by show al A-(f+1)<al A-f;omega, ?_⟩;exact er
     ·obtain rfl:f=al A:=Yo;refine sr ?_;refine a9 (aa (ah (cF (aX (aE (aE (bA (bz ?_))))))));subst hO;refine ⟨hh0.keeps (H':=[_,_,_,_,_,_,_,_,_,_]) (by simp [HE.Md]) hh rfl,⟨by rw [hh.dk (i:=3) (o:=0) rfl rfl,hh0.dk (i:=3) (o:=0) rfl rfl],by rw [hh.dk (i:=2) (o:=0) rfl rfl,hh0.dk (i:=2) (o:=0) rfl rfl]⟩,L4 A dd (eh dd M) X q.val, ?_, ?_, ?_, ?_⟩
      ·unfold L4;rw [kC,hXl]
      ·intro x h;refine (TY hXz (fun l h1 h2=>hgr l _ h1 h2) x h).mono ?_;rw [YE,List.length_singleton,ZA];omega
      ·intro h;obtain ⟨h1,h2⟩:=yG h hbl;rw [hXe h1,h2,YE,List.length_singleton];exact K9 (hm ▸ rfl)
      ·exact hh.sub (by repeat (first|exact Zx _|apply Yv))
   case done=>
    rintro D bs W hD2 rfl ⟨X,hXl,hXz,hXe,hh0⟩ hDo;have hA2:=hXe (by rw [YC (YA _)]);rw [abg] at hA2;rw [hA2,NF hm] at hh0;have hD3:=Y1 hh.size hD2;replace hh:=hh0.Vz (by simp [HE.Md]) hD3 hDo rfl;refine iX fun D_=> ?_;refine ak ?_;refine bJ hh 5 [_,_] ?_;refine bg hh 8 [_,_] ?_;intro ws hh;replace hh:Hp _ (_::_::_::_::_::_::_::_::.blk _ _ [_,_] _::_) _:=hh;refine aa ?_;refine D0 fun D_=> ?_;refine av ?_;refine oJ (M:=[D]) (vs:=[.agg #[.slice A45 n c45,.slice (some ⟨g,0,none⟩) m k45]]) hh (.inr rfl) rfl ?_;intro w2 hh;refine ⟨(cj rfl (cf (vs:=[_,_]) aJ.out (hh.aQ (i:=7) (n:=2) rfl rfl) rfl) dw), ?_⟩;replace hh:=hh.sub (Yv _ (Yv _ (Yw _ (Yw _ (Yw _ (Yw _ (Yw _ (Yw _ (Yw _ (Yw _ YR))))))))));exact ⟨_,_,_,_,rfl,hh⟩
variable {c1 n1 n2 s1 s2:Nat}{t1 t2:TypeId}{xs1 xs2:List Value}
def Xs (n m:Nat) (ds:List Int) (cs:List NR):VP:=fun v W=>∃A a B b,v=.agg #[.slice A n a,.slice B m b]∧n≤a∧Sl W A n 1 (bD ds)∧Sl W B m 3 (aA NR.cells cs)
theorem TN {d:Nat}{s:Dyadic} (hd:d≤127) (hs:Sz q s) (hs1:Sz q (1-s)) (ls:List Dyadic) (k:Nat) (hx:∀x∈ls,Sz k x):∀x∈eh d (Gz d s) ls,Sz (k+(260+2*(q*d))) x:=fun x h=>by
 rw [←Up,←oZ] at h;exact (uC hx hs hs1 hd (YA _) x h).mono Yo
theorem T7 {d:Nat}{s:Dyadic} (hd:d≤127) (hs:Sz q s) (hs1:Sz q (1-s)) (ls:List Dyadic) (k:Nat) (hl:ls.length=d+1) (hx:∀x∈ls,Sz k x):∀x∈eh d (EZ d s) ls,Sz (k+(260+2*(q*d))) x:=fun x h=>by
 rw [←Ef hl,aau,←oZ] at h;exact (uC (fun y hy=>hx y (aau.1 hy)) hs1 hs hd (YA _) x h).mono Yo
theorem JJ.P4 {H:List HE}{c2:Nat}{A1 A2:Option Addr} (hJ:JJ w0 H w W) (hs:Hp w0 H w)
  (o1:W.ownsRow w.heap.size t1 s1 (.slice A1 n1 c1) n1 xs1) (o2:W.ownsRow w.heap.size t2 s2 (.slice A2 n2 c2) n2 xs2) (h12:t1≠t2):Hp w0 (.row A1 n1 c1 t1 s1 xs1::.row A2 n2 c2 t2 s2 xs2::H) W:=by
 have hL:Hp w [.row A1 n1 c1 t1 s1 xs1,.row A2 n2 c2 t2 s2 xs2] W:=by
  exact Wb
 exact hs.join hL
theorem JV (DA NA:Option Addr) (n c m e:Nat) (pre suf:List Nat) (dd:Nat) (sn:NR) (s:Dyadic) (xs:List Dyadic) (k q:Nat) (w:World) (hT:dP w)
  (hD:Sl w DA n 1 (bD (bq (pre++dd::suf)))) (hS:Sl w NA m 3 (aA NR.cells (xs.map nR))) (hcap:n≤c) (hn:n≤1000) (hlow:∀x∈pre++dd::suf,x≤127) (hm:xs.length=al (suf.reverse++dd::pre.reverse)) (hm4:m≤4096)
  (hx:∀x∈xs,Sz k x) (hk:k+al pre*(260+2*(q*dd))≤300000) (hq:q≤2000) (vs:xH q sn s) (hs1:Sz q (1-s)):
  Calls Tryz.prog 196 #[.agg #[.slice DA n c,.slice NA m e],.int .i64 (pre.length:Nat),.func (.func 197) #[.agg #[.bool sn.neg,.string sn.aY,.int .i64 sn.e,.bool (nR (1-s)).neg,.string (nR (1-s)).aY,.int .i64 (nR (1-s)).e]] #[]] w fun r w'=>∃A a B b,r=.returned (.agg #[.slice A n a,.slice B m b])∧Hp w [.row B m b 33 3 (aA NR.cells ((fH (suf.reverse++dd::pre.reverse) suf.length (Gz dd s) xs).map nR)),.row A n a 3 1 (bD (bq (pre++dd::suf)))] w':=by
 have hs:=vs.sz;have hdl:dd≤127:=hlow dd (Zu _ YD);exact (rn DA NA n c m e pre suf dd (Gz dd s) xs 197 [.agg #[.bool sn.neg,.string sn.aY,.int .i64 sn.e,.bool (nR (1-s)).neg,.string (nR (1-s)).aY,.int .i64 (nR (1-s)).e]] [] k (260+2*(q*dd)) w hT hD hS hcap hn hlow hm hm4 hx hk (fun L c2 ls p w1 _ hT1 hS1 hz hp=>tK sn (nR (1-s)) s (1-s) L (dd+1) c2 dd ls p q w1 hT1 hS1 rfl hdl hz vs (xH.of hs1 hq) hp hq) (fun ls p _ hz=>TN hdl hs hs1 ls p hz))
theorem JX (DA NA:Option Addr) (n c m e:Nat) (pre suf:List Nat) (dd:Nat) (sn:NR) (s:Dyadic) (xs:List Dyadic) (k q:Nat) (w:World) (hT:dP w)
  (hD:Sl w DA n 1 (bD (bq (pre++dd::suf)))) (hS:Sl w NA m 3 (aA NR.cells (xs.map nR))) (hcap:n≤c) (hn:n≤1000) (hlow:∀x∈pre++dd::suf,x≤127) (hm:xs.length=al (suf.reverse++dd::pre.reverse)) (hm4:m≤4096)
  (hx:∀x∈xs,Sz k x) (hk:k+al pre*(260+2*(q*dd))≤300000) (hq:q≤2000) (vs:xH q sn s) (hs1:Sz q (1-s)):
  Calls Tryz.prog 196 #[.agg #[.slice DA n c,.slice NA m e],.int .i64 (pre.length:Nat),.func (.func 198) #[.agg #[.bool sn.neg,.string sn.aY,.int .i64 sn.e,.bool (nR (1-s)).neg,.string (nR (1-s)).aY,.int .i64 (nR (1-s)).e]] #[]] w fun r w'=>∃A a B b,r=.returned (.agg #[.slice A n a,.slice B m b])∧Hp w [.row B m b 33 3 (aA NR.cells ((fH (suf.reverse++dd::pre.reverse) suf.length (EZ dd s) xs).map nR)),.row A n a 3 1 (bD (bq (pre++dd::suf)))] w':=by
 have hs:=vs.sz;have hdl:dd≤127:=hlow dd (Zu _ YD);refine (rn DA NA n c m e pre suf dd (EZ dd s) xs 198 [.agg #[.bool sn.neg,.string sn.aY,.int .i64 sn.e,.bool (nR (1-s)).neg,.string (nR (1-s)).aY,.int .i64 (nR (1-s)).e]] [] k (260+2*(q*dd)) w hT hD hS hcap hn hlow hm hm4 hx hk (fun L c2 ls p w1 _ hT1 hS1 hz hp=> ?_) (fun ls p hl hz=>T7 hdl hs hs1 ls p hl hz))
 ·have hll:ls.length=dd+1:=by have:=hS1.bk NR.len Yp;simpa using this
  have:=CR sn (nR (1-s)) s (1-s) L (dd+1) c2 dd ls p q w1 hT1 hS1 rfl hdl hz vs (xH.of hs1 hq) hp hq;rw [Ef hll] at this;exact this
instance:aJ Tryz.prog 187 1 false 8 [.nilFunc]:={}
def pj (up:Bool) (s:Dyadic) (ns:List Nat) (a:Nat) (xs:List Dyadic):List Dyadic:=fH ns.reverse (ns.length-1-a) (if up then EZ (ns.getD a 0) s else Gz (ns.getD a 0) s) xs
def qU (fx:FX) (ax:Int):Int:=if fx.e≠0 then fx.e else if ax<0∨(fx.n:Int)≤ax then 1 else 0
def WW (e:Int):Ending:=.returned (.tuple #[.agg #[.slice none 0 0,.slice none 0 0],.agg #[.slice none 0 0,.slice none 0 0],.int .i64 e])
theorem EO {ns:List Nat}{a:Nat} (h:a<ns.length):∃pre dd suf,ns=pre++dd::suf∧a=pre.length∧ns.getD a 0=dd∧ns.length-1-a=suf.length:=by
 refine ⟨ns.take a,ns[a],ns.drop (a+1), ?_,by rw [YM];omega,by rw [aao,ZP h];rfl,by rw [Zz];omega⟩;rw [←aal h,Zy]
theorem FU (fx:FX) (ax:Int) (sn:NR) (s:Dyadic) (k q:Nat) (w:World) (hT:dP w) (hf:fx.at_ w) (hl:fx.jX k) (hcap:fx.n≤fx.a) (vs:xH q sn s) (hs1:Sz q (1-s)) (hq:q≤2000) (hk:fx.e=0→∀d∈fx.ns,k+fx.m*(260+2*(q*d))≤300000):
  Calls Tryz.prog 161 #[.agg #[.slice fx.A fx.n fx.a,.slice fx.B fx.m fx.b],.int .i64 ax,.agg #[.bool sn.neg,.string sn.aY,.int .i64 sn.e]] w fun r w'=>Below w.heap.size w w'∧((qU fx ax≠0∧r=WW (qU fx ax))∨
   (qU fx ax=0∧∃A1 a1 B1 b1 A2 a2 B2 b2,r=.returned (.tuple #[.agg #[.slice A1 fx.n a1,.slice B1 fx.m b1],.agg #[.slice A2 fx.n a2,.slice B2 fx.m b2],.int .i64 0])∧Hp w [.row B2 fx.m b2 33 3 (aA NR.cells ((pj true s fx.ns ax.toNat (fx.cs.map NR.d)).map nR)),.row A2 fx.n a2 3 1 (bD fx.ds),.row A1 fx.n a1 3 1 (bD fx.ds),.row B1 fx.m b1 33 3 (aA NR.cells ((pj false s fx.ns ax.toNat (fx.cs.map NR.d)).map nR))] w')):=by
 have hh:=Hp.start w;have hs:=vs.sz;have hln:fx.ds.length=fx.n:=by have:=hf.dg.1;simpa [bD] using this
 have hlm:=hf.nm.bk NR.len Yp;have hn20:=hl.Vo;have hck:=fun w1 hT1 hb=>mv fx k w1 hT1 (hf.ext hb) hl;by_cases h0:fx.e=0
 ·by_cases h1:ax<0
  ·have hE:qU fx ax=1:=by unfold qU;rw [Yu Yo,Yt (.inl h1)]
   refine Ho ?_;refine sr ?_;refine bO hh [_,_] ?_;intro b3 w3 hh;refine bO hh [_,_,_] ?_;intro b5 w5 hh;refine bC hh ?_;intro b6 w6 hh;refine bC hh ?_;intro b7 w7 hh;refine aI (aa (ah (sr ?_)));refine bJ hh 3 [_,_] ?_;refine fS ?_;intro w12 hh;refine aI (aa (sr (mI ?_)));refine yO ?_;refine a9 (mB ?_);refine gS (gS (gS (gS (gS ?_))));refine gi ?_;exact U0
  ·by_cases h2:(fx.n:Int)≤ax
   ·have hE:qU fx ax=1:=by unfold qU;rw [Yu Yo,Yt (.inr h2)]
    refine Ho ?_;refine sr ?_;refine bO hh [_,_] ?_;intro b3 w3 hh;refine bO hh [_,_,_] ?_;intro b5 w5 hh;refine bC hh ?_;intro b6 w6 hh;refine bC hh ?_;intro b7 w7 hh;refine aI (aa (ah (sr ?_)));refine bJ hh 3 [_,_] ?_;refine fS ?_;intro w12 hh;refine aI (aa (sr (mI ?_)));refine yO ?_;refine a9 (mB (gT (mI (gT (bo (gT ?_))))));refine bp hh 3 ?_;refine gT (aM (gT ?_));refine dF ?_;refine fK ?_;exact U0
   ·have hE:qU fx ax=0:=by unfold qU;rw [Yu Yo,Yu Yo]
    rw [hE];obtain ⟨hdeg,hnum,_,hlow,hcnt,hmax⟩:=FX.fv h0;have hnl:fx.ns.length=fx.n:=by unfold FX.ns;rw [YI];exact hln
    obtain ⟨pre,dd,suf,hns,hap,hgd,hsl⟩:=EO (ns:=fx.ns) (a:=ax.toNat) Yo;have hD:=hf.dg;have hN:=hf.nm;have hLo:pj false s fx.ns ax.toNat (fx.cs.map NR.d)=fH (suf.reverse++dd::pre.reverse) suf.length (Gz dd s) (fx.cs.map NR.d):=by
     exact SJ
    have hUp:pj true s fx.ns ax.toNat (fx.cs.map NR.d)=fH (suf.reverse++dd::pre.reverse) suf.length (EZ dd s) (fx.cs.map NR.d):=by
     exact SJ
    rw [hLo,hUp];have hax:ax=((pre.length:Nat):Int):=Yo;have hxl:(fx.cs.map NR.d).length=al (suf.reverse++dd::pre.reverse):=by
     rw [YI,hcnt,show suf.reverse++dd::pre.reverse=fx.ns.reverse by rw [hns,aa8,aaS,Y5];rfl,cI]
    have hpm:al pre≤fx.m:=by
     have h3:=ez fx.ns pre.length;rw [hns,List.take_left' rfl] at h3;rw [←hns,←hcnt] at h3;omega
    have hkk:k+al pre*(260+2*(q*dd))≤300000:=by
     have h3:=hk h0 dd (by rw [hns];exact Zu _ YD);have h4:=Zo (260+2*(q*dd)) hpm;omega
    have hxz:∀x∈fx.cs.map NR.d,Sz k x:=fun x h=>by
     obtain ⟨c,hc,rfl⟩:=YF.1 h;exact (hl.num c hc).2
    have hm4:fx.m≤4096:=Yo;rw [hdeg,hns] at hD;rw [hnum] at hN;rw [hns] at hlow;have hds:fx.ds=bq (pre++dd::suf):=by rw [hdeg,hns]
    rw [hds];have hlo:=fun w1 hT1 hb=>JV fx.A fx.B fx.n fx.a fx.m fx.b pre suf dd sn s _ k q w1 hT1 (hD.ext hb) (hN.ext hb) hcap hn20 hlow hxl hm4 hxz hkk hq vs hs1;have hup:=fun w1 hT1 hb=>JX fx.A fx.B fx.n fx.a fx.m fx.b pre suf dd sn s _ k q w1 hT1 (hD.ext hb) (hN.ext hb) hcap hn20 hlow hxl hm4 hxz hkk hq vs hs1;have hof:∀w1,dP w1→Calls Tryz.prog 38 #[.int .i64 1] w1 fun r w'=>r=.returned (.agg #[.bool (nR (1:Dyadic)).neg,.string (nR (1:Dyadic)).aY,.int .i64 (nR (1:Dyadic)).e])∧Below w1.heap.size w1 w':=fun w1 hT1=>kM 1 w1 hT1 Yp Yp;have hsb:=fun w1 hT1=>nc (nR (1:Dyadic)) sn w1 hT1 (Sz.one.ok Yo) vs.ok (q+1) (by rw [bL];exact Sz.one.mono Yo) (by rw [vs.d];exact hs.mono Yo) Yo;simp only [bL,vs.d] at hsb;refine Ho ?_;refine sr ?_;refine bO hh [_,_] ?_;intro b3 w3 hh;refine bO hh [_,_,_] ?_;intro b5 w5 hh;refine bC hh ?_;intro b6 w6 hh;refine bC hh ?_;intro b7 w7 hh;refine aI (aa (ah (sr ?_)));refine bJ hh 3 [_,_] ?_;refine fS ?_;intro w12 hh;refine aI (aa (sr (mI ?_)));refine yO ?_;refine a9 (mB (gT (mI (gT (bo (gT ?_))))));refine bp hh 3 ?_;refine gT (aM (gT ?_));refine dF ?_;refine fK ?_;refine Ce ?_;subst hax
    refine aK 6 [[(5,none)],[],[(5,none)],[(30,some 1),(31,some 2)],[(29,some 0),(32,some 3)],[]] [(5,10),(4,33),(3,32),(2,31),(1,30),(0,29)] hh mixed Yq ?_;refine dK 2 [_,_,_] ?_;refine dC (fun _ hj=>hof _ (hT.hp hj.hp)) ?_;refine dK 2 [_,_,_] ?_;refine dC (fun _ hj=>hsb _ (hT.hp hj.hp)) ?_;refine dB [_,_,_,_,_,_] ?_;refine a7 (i:=5) (cw _ 223 _) cw.ext (fun ρ1 w1 hj hR=>iJ aJ.out hj.bl (fun v w2 h hb=>⟨hb,h⟩)) ?_;refine aH ?_;intro f W hJ hV;have hb_6:=hJ.bl;obtain ⟨v10,v33,v32,v31,v30,v29,_⟩:=hV;obtain ⟨b10,e10,hl10,hc10⟩:cw _ _ _ (f 5) W:=v10;replace hh:=hJ.newVar hh hl10 hc10;refine aN (a6 (ae e10 (ae v33 (ae v32 (ae v31 (ae v30 (ae v29 aO))))))) ?_;dsimp only [bP];clear e10 hJ;refine bg hh 0 [_,_,_,_,_,_] ?_;intro ws hh;replace hh:Hp _ (.blk _ _ [_,_,_,_,_,_] _::_) _:=hh;refine aa (ah ?_);refine aK 9 [[(3,none)],[(1,none)],[(10,none)],[(36,some 2)],[(34,some 0),(35,some 1),(37,some 3)],[(3,none)],[(1,none)],[(10,none)],[(41,some 7)]] [(8,42),(7,41),(6,40),(5,39),(4,38),(3,37),(2,36),(1,35),(0,34)] hh mixed Yq ?_;refine dK 4 [_,_] ?_;refine dJ ?_;refine dK 0 [_,_,_,_,_,_] ?_
    refine a7 (i:=3) (Is (.func (.func 197) #[.agg #[.bool sn.neg,.string sn.aY,.int .i64 sn.e,.bool (nR (1-s)).neg,.string (nR (1-s)).aY,.int .i64 (nR (1-s)).e]] #[])) (Is.ext) ?_ ?_
    ·intro ρ1 w1 hj hR;exact fI rfl (qw (aC (show ρ1 36=Value.agg _ from hR.1) bh) bh) ⟨Below.refl _ _,rfl⟩
    refine a7 (i:=4) (vX hh.sz 3 33 fx.n 1 fx.m 3 (bD (bq (pre++dd::suf))) (aA NR.cells ((fH (suf.reverse++dd::pre.reverse) suf.length (Gz dd s) (fx.cs.map NR.d)).map nR))) (vX.ext) ?_ ?_
    ·intro ρ1 w1 hj hR;exact bV rfl (bf au.out (aC (show ρ1 34=Value.agg _ from hR.1) (aC (show ρ1 35=Value.int _ _ from hR.2.1) (aC (show ρ1 37=Value.func _ _ _ from hR.2.2.1) bh)))) (hlo w1 (hT.hp hj.hp) hj.hp.below) (fun _ _ ⟨A,a,B,b,q1,q2⟩=>⟨_,q1,q2.below,A,a,B,b,rfl,iB (q2.at_ (i:=1) rfl) hj.bl.size,iB (q2.at_ (i:=0) rfl) hj.bl.size⟩)
    refine dK 4 [_,_] ?_;refine dJ ?_;refine dK 0 [_,_,_,_,_,_] ?_;refine a7 (i:=8) (Is (.func (.func 198) #[.agg #[.bool sn.neg,.string sn.aY,.int .i64 sn.e,.bool (nR (1-s)).neg,.string (nR (1-s)).aY,.int .i64 (nR (1-s)).e]] #[])) (Is.ext) ?_ ?_
    ·intro ρ1 w1 hj hR;exact fI rfl (qw (aC (show ρ1 41=Value.agg _ from hR.1) bh) bh) ⟨Below.refl _ _,rfl⟩
    refine aH ?_;intro f W hJ hV;have hb_7:=hJ.bl;obtain ⟨v42,v41,v40,v39,v38,v37,v36,v35,v34,_⟩:=hV;obtain ⟨A38,c38,B38,k38,e38,o38,p38⟩:=v38;replace hh:=JJ.P4 hJ hh o38 p38 Yp;clear o38 p38;refine aN (a6 (ae v42 (ae v41 (ae v40 (ae v39 (ae e38 (ae v37 (ae v36 (ae v35 (ae v34 aO)))))))))) ?_;dsimp only [bP];clear e38 hJ;refine ay (hup _ (hT.hp hh) hh.below) au.out rfl Yp ?_;rintro e_ w43 ⟨A43,a43,B43,b43,rfl,h2⟩;refine ⟨_,rfl, ?_⟩;replace hh:=hh.join h2;simp only [YB,Yz] at hh;clear h2;refine bg hh 6 [_,_] ?_;intro ws hh;replace hh:Hp _ (_::_::_::_::_::_::.blk _ _ [_,_] _::_) _:=hh;refine bg hh 5 [_,_] ?_;intro ws hh;replace hh:Hp _ (_::_::_::_::_::.blk _ _ [_,_] _::_) _:=hh;refine aI (aa (av ?_));refine JZ (cj rfl (cf (vs:=[_,_]) aJ.out (hh.aQ (i:=6) (n:=2) rfl rfl) rfl) (cj rfl (cf (vs:=[_,_]) aJ.out (hh.aQ (i:=5) (n:=2) rfl rfl) rfl) (eB (fg rfl) dw))) ?_
    replace hh:=hh.sub (Yv _ (Yv _ (Yv _ (Yv _ (Yw _ (Yw _ (Yw _ (Yw _ (Yw _ YR)))))))));exact ⟨hh.below,.inr ⟨rfl,_,_,_,_,_,_,_,_,rfl,hh⟩⟩
 ·have hE:qU fx ax=fx.e:=by unfold qU;rw [Yt h0]
  refine Ho ?_;refine sr ?_;refine bO hh [_,_] ?_;intro b3 w3 hh;refine bO hh [_,_,_] ?_;intro b5 w5 hh;refine bC hh ?_;intro b6 w6 hh;refine bC hh ?_;intro b7 w7 hh;refine aI (aa (ah (sr ?_)));refine bJ hh 3 [_,_] ?_;refine fS ?_;intro w12 hh;refine aI (aa (sr (mI ?_)));refine dn (aa (cT (sr ?_)));refine fe [_,_] ?_;refine fe [_,_] (mI ?_);refine bg hh 1 [_,_] ?_;intro ws hh;replace hh:Hp _ (_::.blk _ _ [_,_] _::_) _:=hh;refine bg hh 0 [_,_] ?_;intro ws hh;replace hh:Hp _ (.blk _ _ [_,_] _::_) _:=hh;refine aI (aa (av (aF ?_)));refine Sr ?_;exact ⟨hh.below,.inl ⟨by rw [hE];exact h0,by rw [hE];rfl⟩⟩
def WE (n:Nat) (h:Int):Bool:=decide (h<0∨(n:Int)≤h.tdiv 2)
theorem yW (fx:FX) (ax:Int) (k q:Nat) (w:World) (hT:dP w) (hf:fx.at_ w) (hl:fx.jX k) (hcap:fx.n≤fx.a) (hs:Sz q (ir (-1))) (hs1:Sz q (1-ir (-1))) (hq:q≤2000) (hk:fx.e=0→∀d∈fx.ns,k+fx.m*(260+2*(q*d))≤300000) (h0:qU fx ax=0):
  Calls Tryz.prog 111 #[.agg #[.slice fx.A fx.n fx.a,.slice fx.B fx.m fx.b],.int .i64 ax] w fun r w'=>∃A1 a1 B1 b1 A2 a2 B2 b2,r=.returned (.tuple #[.agg #[.slice A1 fx.n a1,.slice B1 fx.m b1],.agg #[.slice A2 fx.n a2,.slice B2 fx.m b2],.int .i64 0])∧Hp w [.row B2 fx.m b2 33 3 (aA NR.cells ((pj true (ir (-1)) fx.ns ax.toNat (fx.cs.map NR.d)).map nR)),.row A2 fx.n a2 3 1 (bD fx.ds),.row A1 fx.n a1 3 1 (bD fx.ds),.row B1 fx.m b1 33 3 (aA NR.cells ((pj false (ir (-1)) fx.ns ax.toNat (fx.cs.map NR.d)).map nR))] w':=by
 have hh:=Hp.start w;have hof:∀w1,dP w1→Calls Tryz.prog 38 #[.int .i64 1] w1 fun r w'=>r=.returned (.agg #[.bool (nR (1:Dyadic)).neg,.string (nR (1:Dyadic)).aY,.int .i64 (nR (1:Dyadic)).e])∧Below w1.heap.size w1 w':=fun w1 hT1=>kM 1 w1 hT1 Yp Yp;have hsh:=fun w1 hT1=>ng (nR (1:Dyadic)) (-1) w1 hT1 (by have:=Sz.one.aY;omega) (by decide+kernel) (by decide+kernel) Yp Yp;rw [bL,aap] at hsh
 have hc:∀w1,dP w1→Below w.heap.size w w1→Calls Tryz.prog 161 #[.agg #[.slice fx.A fx.n fx.a,.slice fx.B fx.m fx.b],.int .i64 ax,.agg #[.bool (nR (ir (-1))).neg,.string (nR (ir (-1))).aY,.int .i64 (nR (ir (-1))).e]] w1 fun r w'=>∃A1 a1 B1 b1 A2 a2 B2 b2,r=.returned (.tuple #[.agg #[.slice A1 fx.n a1,.slice B1 fx.m b1],.agg #[.slice A2 fx.n a2,.slice B2 fx.m b2],.int .i64 0])∧Hp w1 [.row B2 fx.m b2 33 3 (aA NR.cells ((pj true (ir (-1)) fx.ns ax.toNat (fx.cs.map NR.d)).map nR)),.row A2 fx.n a2 3 1 (bD fx.ds),.row A1 fx.n a1 3 1 (bD fx.ds),.row B1 fx.m b1 33 3 (aA NR.cells ((pj false (ir (-1)) fx.ns ax.toNat (fx.cs.map NR.d)).map nR))] w':=fun w1 hT1 hb=>(FU fx ax (nR (ir (-1))) (ir (-1)) k q w1 hT1 (hf.ext hb) hl hcap (xH.of hs hq) hs1 hq hk).mono fun r w' ⟨h1,h2⟩=>by
  rcases h2 with ⟨h2,_⟩|⟨_,h2⟩
  ·exact absurd h0 h2
  ·exact h2
 refine aj (N:=15) (l:=[.agg #[.slice fx.A fx.n fx.a,.slice fx.B fx.m fx.b],.int .i64 ax]) Tryz.func111 rfl rfl (by simp) ?_;refine sr ?_;refine bO hh [_,_] ?_;intro b2 w2 hh;refine bC hh ?_;intro b4 w4 hh;refine bC hh ?_;intro b5 w5 hh;refine aI (aa (ah ?_));refine kO [] [0,0,0,4,15,31,31,31,255,511,1023] 4 [[(2,none)],[(1,none)],[],[(9,some 2)]] [(3,10),(2,9),(1,8),(0,7)] [([],6,[(3,10),(2,9),(1,8),(0,7)])] hh mixed Yq Yq Yp ?_;refine dK 2 [_,_] ?_;refine dJ ?_;refine dC (fun _ hj=>hof _ (hT.hp hj.hp)) ?_;refine dC (fun _ hj=>hsh _ (hT.hp hj.hp)) ?_;refine aH ?_;intro p_ hp_;simp only [YH,ZN,or_false] at hp_
 rcases hp_ with rfl
 ·intro f W hJ hV;have hb_1:=hJ.bl;obtain ⟨v10,v9,v8,v7,_⟩:=hV;simp only [ix];have e7:f 0=_:=v7;rw [e7];have e8:f 1=_:=v8;rw [e8];have e9:f 2=_:=v9;rw [e9];have e10:f 3=_:=v10;rw [e10];replace hh:=hJ.hp;clear e7 e8 e9 e10 hJ;refine ay (hc _ (hT.hp hh) hh.below) au.out rfl Yp ?_;rintro e_ w11 ⟨A1,a1,B1,b1,A2,a2,B2,b2',rfl,h2⟩;refine ⟨_,rfl, ?_⟩;replace hh:=hh.join h2;simp only [YB,Yz] at hh;refine eA ?_;refine dh (i:=5) (by repeat (first|exact cz|refine bR ?_|refine cG ?_)) rfl Yq Yq Yq (fun _=>eM (show _=Value.tuple (List.toArray _) from rfl) rfl) Yp ?_;refine dh (i:=6) (by repeat (first|exact cz|refine bR ?_|refine cG ?_)) rfl Yq Yq Yq (fun _=>eM (show _=Value.tuple (List.toArray _) from rfl) rfl) Yp ?_;refine dh (i:=7) (by repeat (first|exact cz|refine bR ?_|refine cG ?_)) rfl Yq Yq Yq (fun _=>eM (show _=Value.tuple (List.toArray _) from rfl) rfl) Yp ?_;refine MW ?_;refine bg hh 5 [_,_] ?_;intro ws hh;replace hh:Hp _ (_::_::_::_::_::.blk _ _ [_,_] _::_) _:=hh;refine bg hh 4 [_,_] ?_;intro ws hh
  replace hh:Hp _ (_::_::_::_::.blk _ _ [_,_] _::_) _:=hh;refine aI (aa (av ?_));refine JZ (cj rfl (cf (vs:=[_,_]) aJ.out (hh.aQ (i:=5) (n:=2) rfl rfl) rfl) (cj rfl (cf (vs:=[_,_]) aJ.out (hh.aQ (i:=4) (n:=2) rfl rfl) rfl) (eB (fg rfl) dw))) ?_;replace hh:=hh.sub (Yv _ (Yv _ (Yv _ (Yv _ (Yw _ (Yw _ (Yw _ YR)))))));exact ⟨_,_,_,_,_,_,_,_,rfl,hh⟩
def Vp (ns:List Nat) (xs:List Dyadic) (h:Int):List Dyadic:=pj (decide (h % 2=1)) (ir (-1)) ns (h/2).toNat xs
def XJ (ns:List Nat) (xs:List Dyadic) (hs:List Int):List Dyadic:=hs.foldl (Vp ns) xs
def Ve (A B:List Nat) (d t:Nat):List Nat:=(List.range (al B)).flatMap fun q=>(List.range (al A)).map fun f=>cv A d f t q
def XI (A B:List Nat) (d t:Nat) (xs:List Dyadic):List Dyadic:=(Ve A B d t).map fun p=>(xs[p]?).getD 0
def XW (A:List Nat) (d:Nat) (B:List Nat) (X:List Dyadic) (ta tb:List Dyadic) (r:Nat):Dyadic:=sR (A++B) fun row=>co (A++d::B) X (row.take A.length++r::row.drop A.length)*lV (A++B) row (ta++tb)
def pr:List Nat→List Nat→List Nat
 |[],_=>[]
 |_::_,[]=>[]
 |d::ds,k::ks=>d*k::pr ds ks
theorem DC:∀(ds ks:List Nat),ks.length=ds.length→(∀k∈ks,k≤1)→l5 ds (pr ds ks)
 |[],[],_,_=>trivial
 |[],_::_,h,_=>by cases h
 |_::_,[],h,_=>by cases h
 |d::ds,k::ks,h,h3=>by
  refine ⟨?_,DC ds ks (by simpa using h) fun x hx=>h3 x (YK _ hx)⟩;have:=h3 k YD
  rcases (by omega:k=0∨k=1) with rfl|rfl<;>omega
section
variable {P:Program}{N:Nat}{ops:Array Oper}{Q:Kq}{ρ:Rf}{w:World}{rest:List Oper}{d ty:Nat}{pos:String}{af:Array Edge}
theorem W7 (a:Int):IntKind.i64.wrap (BitVec.ofInt IntKind.i64.bits a &&& BitVec.ofInt IntKind.i64.bits 1).toNat=a % 2:=by
 have h1:(BitVec.ofInt IntKind.i64.bits a &&& BitVec.ofInt IntKind.i64.bits 1).toNat=(a % 2).toNat:=by
  show (BitVec.ofInt 64 a &&& BitVec.ofInt 64 1).toNat=_;rw [BitVec.toNat_and,show (BitVec.ofInt 64 1).toNat=2^1-1 by decide,Nat.and_two_pow_sub_one_eq_mod,BitVec.toNat_ofInt];omega
 rw [h1,kS Yo Yo];omega
theorem E6 {t u:Nat}{x y:Operand}{a:Int} (hx:ev ρ x=.int .i64 a) (hy:ev ρ y=.int .i64 1) (hN:d<N) (kk:WL .plain P N ops Q rest (cP ρ d (.int .i64 (a % 2))) w):WL .plain P N ops Q (⟨some d,.binOp .and t x y u,ty,pos,af,none⟩::rest) ρ w:=
 aV rfl rfl hN (by rw [SQ hx hy,W7]) kk
end
end Go.Proofs.YtmchncaiffbpaaaGreatDoor
