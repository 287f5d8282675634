/- Lemmas for ratioHolds, part 7. -/
import Derived.Laws.OwnMore
import Derived.Test.YtmchncaiffbpaaaGreatDoorZ6
namespace Go.Proofs.YtmchncaiffbpaaaGreatDoor
variable {k n:Nat}
open Go.RowKit
def S0 (fx:FX) (bits:Int):Int:=if fx.e≠0 then fx.e else if bits<0∨((2^fx.n:Nat):Int)≤bits then 1 else 0
def qa (k i:Nat):Nat:=k/2^i % 2
def qK (n k:Nat):List Nat:=(List.range n).map (qa k)
def Xc (ns:List Nat) (k:Nat):Nat:=dV ns.reverse (pr ns (qK ns.length k)).reverse
def wk (fx:FX) (bits:Int):NR:=if S0 fx bits=0 then (fx.cs[Xc fx.ns bits.toNat]?).getD (nR 0) else nR 0
theorem r7:∀(ds ks:List Nat),pr ds ks=List.zipWith (· * ·) ds ks
 |[],_=>by rw [pr];rfl
 |_::_,[]=>by rw [pr];rfl
 |d::ds,k::ks=>by rw [pr,r7 ds ks];rfl
theorem zV (n k:Nat):(qK n k).length=n:=by unfold qK;simp
theorem Kf:∀b∈qK n k,b≤1:=fun b hb=>by
 obtain ⟨i,_,rfl⟩:=YF.1 hb;unfold qa;omega
theorem GM (h:n≤12):IntKind.i64.wrap ((1:Int)*2^(min ((n:Int)).toNat IntKind.i64.bits))=((2^n:Nat):Int):=by
 have:∀m:Nat,m≤12→IntKind.i64.wrap ((1:Int)*2^(min ((m:Int)).toNat IntKind.i64.bits))=((2^m:Nat):Int):=by decide
 exact this n h
theorem Bz (fx:FX) (bits:Int) (k:Nat) (w:World) (hT:dP w) (hf:fx.at_ w) (hl:fx.jX k) (hb1: -9223372036854775808≤bits) (hb2:bits≤9223372036854775807):
  Calls Tryz.prog 49 #[.agg #[.slice fx.A fx.n fx.a,.slice fx.B fx.m fx.b],.int .i64 bits] w fun r w'=>r=.returned (.tuple #[.agg #[.bool (wk fx bits).neg,.string (wk fx bits).aY,.int .i64 (wk fx bits).e],.int .i64 (S0 fx bits)])∧Below w.heap.size w w':=by
 have hh:=Hp.start w;have hln:=hf.ln.1;have hlm:=hf.ln.2;have hck:=fun w1 hT1 hb=>mv fx k w1 hT1 (hf.ext hb) hl;have h1000:=hl.Vo;by_cases h0:fx.e≠0
 ·have eE:S0 fx bits=fx.e:=Yt h0;unfold wk;rw [eE,Yu h0];generalize fx.e=E at*;refine Oy ?_;refine sr ?_;refine bO hh [_,_] ?_;intro b2 w2 hh;refine bC hh ?_;intro b4 w4 hh;refine aI (aa (ah (sr ?_)));refine bJ hh 1 [_,_] ?_;refine fS ?_;intro w11 hh;refine aI (aa (sr (mI ?_)));refine dn (aa (cT (sr ?_)));refine fe [_,_,_] (mI ?_);exact Ub
 ·replace h0:fx.e=0:=Z9.1 h0;obtain ⟨hdeg,hnum,h12,hlow,hcnt,hmax⟩:=FX.fv h0;have hnl:fx.ns.length=fx.n:=by unfold FX.ns;rw [YI];exact hln
  have hE:S0 fx bits=if bits<0∨((2^fx.n:Nat):Int)≤bits then 1 else 0:=by unfold S0;rw [Yu (fun c=>c h0)]
  rw [h0] at hck;have hsh:=GM (n:=fx.n) Yo;by_cases hneg:bits<0
  ·have hE1:S0 fx bits=1:=by rw [hE];exact Yt (.inl hneg)
   unfold wk;rw [hE1,Yu Yp];refine Oy ?_;refine sr ?_;refine bO hh [_,_] ?_;intro b2 w2 hh;refine bC hh ?_;intro b4 w4 hh;refine aI (aa (ah (sr ?_)));refine bJ hh 1 [_,_] ?_;refine fS ?_;intro w11 hh;refine aI (aa (sr (mI ?_)));refine yO ?_;refine a9 (mB ?_);refine gS (gS (gS (gS ?_)));refine jR ?_;refine gS ?_;refine gi ?_;refine aa (cT (sr ?_));refine fe [_,_,_] ?_;exact Ub
  ·by_cases hbig:((2^fx.n:Nat):Int)≤bits
   ·have hE1:S0 fx bits=1:=by rw [hE];exact Yt (.inr hbig)
    unfold wk;rw [hE1,Yu Yp];refine Oy ?_;refine sr ?_;refine bO hh [_,_] ?_;intro b2 w2 hh;refine bC hh ?_;intro b4 w4 hh;refine aI (aa (ah (sr ?_)));refine bJ hh 1 [_,_] ?_;refine fS ?_;intro w11 hh;refine aI (aa (sr (mI ?_)));refine yO ?_;refine a9 (mB (gT (mI (gT (bo (gT ?_))))));refine bp hh 1 ?_;refine gT (aM ?_);refine aG rfl rfl ?_;refine Ov rfl rfl Yo Yp ?_;rw [hsh];generalize ((2^fx.n:Nat):Int)=Z at*;refine gT ?_;refine dF ?_;refine fK ?_;refine aa (cT (sr ?_));refine fe [_,_,_] ?_;exact Ub
   ·have hE1:S0 fx bits=0:=by rw [hE];exact Yu fun c=>c.elim hneg hbig
    unfold wk;rw [hE1,Yt rfl];clear hE hE1;obtain ⟨q,rfl⟩:∃q:Nat,bits=q:=⟨bits.toNat,Yo⟩;rw [ZY];have hsD:Sl w fx.A fx.n 1 (bD (bq fx.ns)):=by rw [←hdeg];exact hf.dg
    unfold Xc;have hel:(pr fx.ns (qK fx.ns.length q)).length=fx.n:=by rw [r7,abN,zV];omega
    have heat:∀j d,fx.ns[j]?=some d→(pr fx.ns (qK fx.ns.length q))[j]?=some (d*qa q j):=fun j d hd=>by
     have hj:=(YL.1 hd).1;rw [r7,aaY,hd];unfold qK;rw [YJ,ZF hj]
     rfl
    have hok:=DC fx.ns (qK fx.ns.length q) (zV _ _) Kf;generalize pr fx.ns (qK fx.ns.length q)=es at*;refine aj (N:=52) (l:=[.agg #[.slice fx.A fx.n fx.a,.slice fx.B fx.m fx.b],.int .i64 (q:Int)]) Tryz.func49 rfl rfl (by simp) ?_;refine sr ?_;refine bO hh [_,_] ?_;intro b2 w2 hh;refine bC hh ?_;intro b4 w4 hh;refine aI (aa (ah (sr ?_)));refine bJ hh 1 [_,_] ?_;refine fS ?_;intro w11 hh;refine aI (aa (sr (mI ?_)));refine yO ?_;refine a9 (mB (gT (mI (gT (bo (gT ?_))))));refine bp hh 1 ?_;refine gT (aM ?_);refine aG rfl rfl ?_;refine Ov rfl rfl Yo Yp ?_;rw [hsh];generalize hZZ:((2^fx.n:Nat):Int)=Z at*;refine gT ?_;refine dF ?_;refine fK ?_;refine aa (cF (aq (ai (sr (aI (aa (ah (sr (bo ?_)))))))));refine bp hh 1 ?_;refine aM (mI (aa (ar ?_)));refine bH [7,8,9,30,31,32,33,34,35,36,37,38,39,40,41,42,43,44,45,46] 7 30
     (fun a v w'=>∃(j z:Nat),j≤fx.n∧v=.int .i64 j∧a=.int .i64 z∧z=dV (fx.ns.take j).reverse (es.take j).reverse∧z<al (fx.ns.take j)∧Hp w [.blk b4 33 [.bool false,.string ⟨#[]⟩,.int .i64 0] (0,0),.blk b2 25 [.slice fx.A fx.n fx.a,.slice fx.B fx.m fx.b] (0,0)] w')
     (fun _ v _=>fx.n-(intOf v).toNat) ?_ ?_
    ·exact ⟨0,0,Yx _,rfl,rfl,rfl,Nat.one_pos,hh⟩
    ·clear hh;rintro ρ3 a_ v w3 ⟨j,z,hj,rfl,rfl,hz,hz2,hh⟩;by_cases hjn:j<fx.n
     ·obtain ⟨d,hd⟩:=ao (l:=fx.ns) (k:=j) Yo;have hr:=heat j d hd;have hd7:=hlow d (Yy hd);have hgD:(bD (bq fx.ns))[j]?=some (.int .i64 (d:Int)):=cK (eO hd);have hst:=DZ hd hr;have hcs:=Es hd;rw [cI,cI] at hcs;rw [←hz] at hst;have hct:=ez fx.ns (j+1);have hb1:qa q j≤1:=by unfold qa;omega
      have hdb:d*qa q j≤d:=by
       have:=Y4 d hb1;omega
      have hnew:d*qa q j+(d+1)*z<(d+1)*al (fx.ns.take j):=by
       have:(d+1)*(z+1)≤(d+1)*al (fx.ns.take j):=Y4 _ hz2;rw [ZZ] at this;omega
      have hpr:(z:Int)*((d:Int)+1)=(((d+1)*z:Nat):Int):=by rw [YO,ZB,ZQ];rfl
      have hpr2:(d:Int)*((qa q j:Nat):Int)=((d*qa q j:Nat):Int):=by rw [ZB]
      have hbit:((q:Int).fdiv (2^(min ((j:Int)).toNat IntKind.i64.bits))) % 2=((qa q j:Nat):Int):=by
       have hm2:min ((j:Int)).toNat IntKind.i64.bits=j:=by
        show min j 64=j;omega
       rw [hm2,Int.fdiv_eq_ediv_of_nonneg _ (by exact Int.le_of_lt (Int.pow_pos Yp))];unfold qa;rw [Int.natCast_emod,Int.natCast_ediv,abF]
       rfl
      obtain ⟨ad,hMe,hsr2⟩:=(hsD.ext hh.below).at_ Yo;have rX:Value.slice fx.A fx.n fx.a=.slice (some ad) fx.n fx.a:=by rw [hMe]
      refine sr ?_;refine dY ?_;refine tP ?_;refine bY aJ.out rfl (hsr2.tN hgD) Yp ?_;refine aI (aI (aa (ak (mI (mI ?_)))));refine a8 ?_;refine mulC (mI (mI (mI ?_)));refine L8 rfl rfl Yo Yp ?_;refine E6 rfl rfl Yp ?_;rw [hbit];refine mulC ?_;refine a8 (aI (aD (bz (ai (ak ?_)))));refine a8 (mI (aD (ai ?_)));rw [hpr,hpr2];refine ⟨⟨j+1,d*qa q j+(d+1)*z,Yo,rfl, ?_,hst.symm,Yo,hh⟩,by show fx.n-(j+1)<fx.n-j;omega, ?_⟩
      ·show Value.int IntKind.i64 ((((d+1)*z:Nat):Int)+((d*qa q j:Nat):Int))=_;rw [show (((d+1)*z:Nat):Int)+((d*qa q j:Nat):Int)=((d*qa q j+(d+1)*z:Nat):Int) by omega]
      ·exact er
     ·obtain rfl:j=fx.n:=Yo;rw [YC Yo,YC Yo] at hz;rw [YC Yo] at hz2;obtain ⟨x,hx⟩:=ao (l:=fx.cs) (k:=z) Yo;obtain ⟨adC,hAC,sC⟩:=hf.nm.at_ Yo;have hevC:Value.slice fx.B fx.m fx.b=.slice (some adC) fx.m fx.b:=by rw [hAC]
      rw [←hz,hx,ZO];refine sr ?_;refine G9 ?_;refine bp hh 1 ?_;refine mI ?_;refine cN (k:=z) bG.out aJ.size hevC rfl Yo Yo Yp ?_;refine cg (vs:=[_,_,_]) aJ.out rfl ((sC.ext hh.below).recAt NR.len hx) rfl Yp ?_;refine bg hh 0 [_,_,_] ?_;intro ws hh;replace hh:Hp _ (.blk _ _ [_,_,_] _::_) _:=hh;refine aI (aa (av ?_));exact Rg
def pk (x:Dyadic):Dyadic:=if x<0 then -x else x
def Db (g:FX) (eps:Dyadic):Option Nat:=(List.range (2^g.n)).find? fun k:Nat=>decide (pk (wk g (k:Int)).d<eps)
def uT (g:FX) (eps:Dyadic):Int:=if g.e≠0 then g.e else if (Db g eps).isSome=true then 0 else 4
def rP (g:FX) (eps:Dyadic):Nat:=if g.e≠0 then 0 else (Db g eps).getD 0
theorem Sz.pk {k:Nat}{x:Dyadic} (h:Sz k x):Sz k (pk x):=by
 unfold Go.Proofs.YtmchncaiffbpaaaGreatDoor.pk;split
 ·exact h.neg
 ·exact h
theorem Uq {fx:FX}{bits:Int} (hl:fx.jX k):(wk fx bits).ok∧Sz k (wk fx bits).d:=by
 have hz:(nR 0).ok∧Sz k (nR 0).d:=⟨(Sz.zero 1).ok Yo,by rw [bL];exact Sz.zero k⟩;unfold wk;split
 ·cases h:fx.cs[Xc fx.ns bits.toNat]? with
  |none=>exact hz
  |some c=>exact hl.num c (Yy h)
 ·exact hz
theorem E5 (g:FX) (eps:NR) (k:Nat) (w:World) (hT:dP w) (hg:g.at_ w) (hl:g.jX k) (he:eps.ok) (hk:k≤3000000):
  Calls Tryz.prog 16 #[.agg #[.slice g.A g.n g.a,.slice g.B g.m g.b],.agg #[.bool eps.neg,.string eps.aY,.int .i64 eps.e]] w fun r w'=>r=.returned (.tuple #[.int .i64 (rP g eps.d:Nat),.int .i64 (uT g eps.d)])∧Below w.heap.size w w':=by
 have hh:=Hp.start w;have hck:=fun w1 hT1 hb=>mv g k w1 hT1 (hg.ext hb) hl;unfold rP uT;by_cases h0:g.e≠0
 ·rw [Yt h0,Yt h0];generalize g.e=E at*;refine S9 ?_;refine sr ?_;refine bO hh [_,_] ?_;intro b2 w2 hh;refine bO hh [_,_,_] ?_;intro b3 w3 hh;refine aI (aI (aa (ah (sr ?_))));refine bJ hh 1 [_,_] ?_;refine fS ?_;intro w11 hh;refine aI (aa (sr (mI ?_)));refine dn (aa (cT (sr (mI (aI (aI (aa (av (aF ?_)))))))));refine yf ?_;exact ⟨rfl,hh.below⟩
 ·rw [Yu h0,Yu h0];replace h0:g.e=0:=Z9.1 h0;rw [h0] at hck;have h12:g.n≤12:=by
   have h1:=(FX.fv h0).2.2.1;have h2:=hg.ln.1;unfold FX.ns at h1;rw [YI] at h1;omega
  have hsh:=GM h12;have h63:2^g.n≤4096:=Zf (n:=2) Yo h12;have hO:Db g eps.d=(List.range (2^g.n)).find? fun k:Nat=>decide (pk (wk g (k:Int)).d<eps.d):=rfl;refine S9 ?_;refine sr ?_;refine bO hh [_,_] ?_;intro b2 w2 hh;refine bO hh [_,_,_] ?_;intro b3 w3 hh;refine aI (aI (aa (ah (sr ?_))));refine bJ hh 1 [_,_] ?_;refine fS ?_;intro w11 hh;refine aI (aa (sr (mI ?_)));refine dn (aa (cF (aq (ai (ah (sr (bo ?_)))))));refine bp hh 1 ?_;refine aM ?_;refine Ov rfl rfl Yo Yp ?_;rw [hsh];generalize 2^g.n=M at*;refine mI (aa (ar ?_));refine aT [4,5,7,8,9,19,20,21,22,23,24,25,26,27,28,29,30,31,32,33,34] 19
   (fun v w'=>∃i:Nat,i≤M∧v=.int .i64 i∧(∀j,j<i→¬pk (wk g (j:Int)).d<eps.d)∧Hp w [.blk b3 33 [.bool eps.neg,.string eps.aY,.int .i64 eps.e] (0,0),.blk b2 25 [.slice g.A g.n g.a,.slice g.B g.m g.b] (0,0)] w')
   (fun v _=>M-(intOf v).toNat) ?_ ?_
  ·exact ⟨0,Yx _,rfl,fun j hj=>absurd hj (Nat.not_lt_zero _),hh⟩
  ·clear hh;rintro ρ' v w' ⟨i,hi,rfl,hall,hh⟩;by_cases hlt:i<M
   ·obtain ⟨c1,c2⟩:=Uq (bits:=(i:Int)) hl;have hco:=fun w1 hT1 hb=>Bz g (i:Int) k w1 hT1 (hg.ext hb) hl Yo Yo;have hab:=fun w1 hT1=>Fl (wk g (i:Int)) w1 hT1 (by have:=c1.1;omega) (by have:=c1.2.1;omega) (by have:=c1.2.2;omega);have hcm:=fun w1 hT1=>jo (nR (pk (wk g (i:Int)).d)) eps w1 hT1 (c2.pk.ok Yo) he;rw [bL] at hcm;have hlt2:=uo (pk (wk g (i:Int)).d) eps.d;have hcb: -1≤gE (pk (wk g (i:Int)).d) eps.d∧gE (pk (wk g (i:Int)).d) eps.d≤1:=uy _ _;by_cases hd:pk (wk g (i:Int)).d<eps.d
    ·have e1:Db g eps.d=some i:=by
      rw [hO,List.find?_range_eq_some];exact ⟨YN hd,Zi.2 hlt,fun j hj=>by simpa using hall j hj⟩
     rw [e1];replace hlt2:=hlt2.2 hd;generalize gE (pk (wk g (i:Int)).d) eps.d=C at*;refine sr ?_;refine nq ?_;refine bJ hh 1 [_,_] (mI ?_);refine bj hh (hco _ (hT.hp hh) hh.below) rfl ?_;intro w25 hh;refine mT ?_;refine cx ?_;refine cx ?_;refine bC hh ?_;intro b8 w8 hh;refine bg hh 0 [_,_,_] ?_;intro ws hh;replace hh:Hp _ (.blk _ _ [_,_,_] _::_) _:=hh;refine aI (aa (ah ?_));refine aK 3 [[(8,none)],[(28,some 0)],[(3,none)]] [(2,30),(1,29),(0,28)] hh mixed Yq ?_;refine dK 0 [_,_,_] ?_;refine dC (fun _ hj=>hab _ (hT.hp hj.hp)) ?_;refine dK 1 [_,_,_] ?_;refine aH ?_;intro f W hJ hV;have hb_8:=hJ.bl;obtain ⟨v30,v29,v28,_⟩:=hV;replace hh:=hJ.hp;refine aN (a6 (ae v30 (ae v29 (ae v28 aO)))) ?_;dsimp only [bP];clear hJ;refine bj hh (hcm _ (hT.hp hh)) rfl ?_;intro w31 hh;refine a9 (aa (cT (sr (mI (aI (aI (aa (av (bU (aF (aF (bU (aF ?_)))))))))))));refine yf ?_;exact ⟨rfl,hh.below⟩
    ·replace hlt2:¬gE (pk (wk g (i:Int)).d) eps.d<0:=fun h=>hd (hlt2.1 h);have hcc:∀j,j<i+1→¬pk (wk g (j:Int)).d<eps.d:=fun j hj=>by
      rcases Zb j i with h|h
      ·exact hall j h
      ·obtain rfl:j=i:=Yo;exact hd
     generalize gE (pk (wk g (i:Int)).d) eps.d=C at*;refine sr ?_;refine nq ?_;refine bJ hh 1 [_,_] (mI ?_);refine bj hh (hco _ (hT.hp hh) hh.below) rfl ?_;intro w25 hh;refine mT ?_;refine cx ?_;refine cx ?_;refine bC hh ?_;intro b8 w8 hh;refine bg hh 0 [_,_,_] ?_;intro ws hh;replace hh:Hp _ (.blk _ _ [_,_,_] _::_) _:=hh;refine aI (aa (ah ?_));refine aK 3 [[(8,none)],[(28,some 0)],[(3,none)]] [(2,30),(1,29),(0,28)] hh mixed Yq ?_;refine dK 0 [_,_,_] ?_;refine dC (fun _ hj=>hab _ (hT.hp hj.hp)) ?_;refine dK 1 [_,_,_] ?_;refine aH ?_;intro f W hJ hV;have hb_8:=hJ.bl;obtain ⟨v30,v29,v28,_⟩:=hV;replace hh:=hJ.hp;refine aN (a6 (ae v30 (ae v29 (ae v28 aO)))) ?_;dsimp only [bP];clear hJ;refine bj hh (hcm _ (hT.hp hh)) rfl ?_;intro w31 hh;refine a9 (aa (cF (aq (bz (ai (ak ?_))))));refine a8 (mI (aD (ai ?_)));replace hh:=hh.sub (Yw _ (Yv _ (Yv _ YR)));refine ⟨⟨i+1,Yo,rfl,hcc,hh⟩,by show M-(i+1)<M-i;omega, ?_⟩;exact er
   ·obtain rfl:i=M:=Yo;have e1:Db g eps.d=none:=by
     rw [hO,List.find?_range_eq_none];exact fun j hj=>by simpa using hall j hj
    rw [e1];refine sr ?_;refine a9 (aa (ah (cF (aX (aE (aE (bA (ai (sr (aI (aI (aa (av ?_)))))))))))));refine yf ?_;exact ⟨rfl,hh.below⟩
def tY (b:List SR):Int:=if b.any (fun s=> !decide (s.lo.d<s.hi.d)) then 5 else if b.length=0 then 1 else 0
theorem P6 (x y:Dyadic):(0≤gE x y)↔¬x<y:=by
 rcases Q5 x y with h|h|h
 ·rw [wJ h];exact ⟨fun h2=>by omega,fun h2=>absurd h h2⟩
 ·rw [h,yx];exact ⟨fun _=>by grind,fun _=>by omega⟩
 ·rw [xm h];exact ⟨fun _=>by grind,fun _=>by omega⟩
theorem z8 (L:Option Addr) (n c:Nat) (b:List SR) (w:World) (hT:dP w) (hS:Sl w L n 6 (aA SR.cells b)) (hb:∀s∈b,s.ok) (hn:n≤1000000):
  Calls Tryz.prog 188 #[.slice L n c] w fun r w'=>r=.returned (.int .i64 (tY b))∧Below w.heap.size w w':=by
 have hh:=Hp.start w;have hln:=hS.bk SR.len Yp;refine aj (N:=21) (l:=[.slice L n c]) Tryz.func188 rfl rfl (by simp) ?_;refine zJ ?_;refine aT [2,4,7,8,9,10,11,12,13,14,15,16,17] 7
  (fun v w'=>∃i:Nat,i≤n∧v=.int .i64 i∧(b.take i).any (fun s=> !decide (s.lo.d<s.hi.d))=false∧Hp w [] w')
  (fun v _=>n-(intOf v).toNat) ?_ ?_
 ·exact ⟨0,Yx _,rfl,rfl,hh⟩
 ·clear hh;rintro ρ' v w' ⟨i,hi,rfl,hall,hh⟩;by_cases hlt:i<n
  ·obtain ⟨s,hs⟩:=ao (l:=b) (k:=i) Yo;have ms:=Yy hs;obtain ⟨ad,rfl,hr⟩:=hS.at_ Yo;have hc:=fun w1 hT1=>jo s.lo s.hi w1 hT1 (hb s ms).1 (hb s ms).2;have e:=P6 s.lo.d s.hi.d;generalize gE s.lo.d s.hi.d=cc at*;by_cases g:0≤cc
   ·refine sr ?_;refine dI ?_;refine bZ ?_;refine vW ?_;refine bC hh ?_;intro b4 w4 hh;refine bg hh 0 [_,_,_,_,_,_] ?_;intro ws hh;replace hh:Hp _ (.blk _ _ [_,_,_,_,_,_] _::_) _:=hh;refine aa (sr (bo ?_));refine bJ hh 0 [_,_,_] (bo ?_);refine bJ hh 0 [_,_,_] ?_;refine bj hh (hc _ (hT.hp hh)) rfl ?_;intro w15 hh;refine dF (aa (cT (sr (aI (aa (av (bU (aF (aF (bU (aF ?_)))))))))));refine dH ?_;have:b.any (fun s=> !decide (s.lo.d<s.hi.d))=true:=aae.2 ⟨s,ms,by rw [YS (e.1 g)];rfl⟩;exact ⟨by rw [tY,Yt this],hh.below⟩
   ·refine sr ?_;refine dI ?_;refine bZ ?_;refine vW ?_;refine bC hh ?_;intro b4 w4 hh;refine bg hh 0 [_,_,_,_,_,_] ?_;intro ws hh;replace hh:Hp _ (.blk _ _ [_,_,_,_,_,_] _::_) _:=hh;refine aa (sr (bo ?_));refine bJ hh 0 [_,_,_] (bo ?_);refine bJ hh 0 [_,_,_] ?_;refine bj hh (hc _ (hT.hp hh)) rfl ?_;intro w15 hh;refine dF (aa (cF (aq (bz (ai (ak ?_))))));refine a8 (mI (aD (ai ?_)));replace hh:=hh.sub (Yw _ YR);refine ⟨⟨i+1,Yo,rfl, ?_,hh⟩,by show n-(i+1)<n-i;omega, ?_⟩
    ·rw [aw hs,aaU,hall,Zd,aa0,aa3,Bool.or_false,YN (by have:¬¬s.lo.d<s.hi.d:=fun h=>g (e.2 h);exact Z9.1 this)]
     rfl
    ·exact er
  ·rw [YC Yo] at hall;by_cases h0:n=0
   ·refine sr ?_;refine a9 (aa (ah (cF (aX (aE (aE (bA (ai (ah (sr (mL (aM ?_))))))))))));refine Hz ?_;refine dH ?_;exact ⟨by rw [tY,hall,Yu (by simp),Yt Yo],hh.below⟩
   ·refine sr ?_;refine a9 (aa (ah (cF (aX (aE (aE (bA (ai (ah (sr (mL (aM ?_))))))))))));refine cH (aa (cF (aq (ai (sr (aI (aa (av ?_))))))));refine dH ?_;exact ⟨by rw [tY,hall,Yu (by simp),Yu Yo],hh.below⟩
theorem lu (L:Option Addr) (n c:Nat) (b:List SR) (w:World) (hT:dP w) (hS:Sl w L n 6 (aA SR.cells b)) (hb:∀s∈b,s.ok) (hn:n≤1000000):
  Calls Tryz.prog 107 #[.slice L n c] w fun r w'=>∃A c',r=.returned (.slice A n c')∧w'.ownsRow w.heap.size 35 6 (.slice A n c') n (aA SR.cells (b.map SR.f))∧Below w.heap.size w w':=by
 have hh:=Hp.start w;have hln:=hS.bk SR.len Yp;refine aj (N:=19) (l:=[.slice L n c]) Tryz.func107 rfl rfl (by simp) ?_;refine sr (aL (aa (sr (aL (aa (ah (sr (mL (aM (mI (aa (ar ?_))))))))))));replace hh:=hh.dm 35 6;refine bH [3,5,8,9,10,11,12,13,14,15,16,17] 3 8
  (fun v3 v w'=>∃(i c3:Nat) (A:Option Addr),i≤n∧v=.int .i64 i∧v3=.slice A i c3∧Hp w [.row A i c3 35 6 (aA SR.cells ((b.take i).map SR.f))] w')
  (fun _ v _=>n-(intOf v).toNat) ?_ ?_
 ·exact ⟨0,0,none,Yx _,rfl,rfl,hh⟩
 ·clear hh;rintro ρ' v3 v w' ⟨i,c3,A,hi,rfl,rfl,hh⟩;by_cases hlt:i<n
  ·obtain ⟨s,hs⟩:=ao (l:=b) (k:=i) Yo;have ms:=Yy hs;obtain ⟨ad,rfl,hr⟩:=hS.at_ Yo;refine sr ?_;refine dI ?_;refine bZ ?_;refine vW ?_;refine bC hh ?_;intro b5 w5 hh;refine bg hh 0 [_,_,_,_,_,_] ?_;intro ws hh;replace hh:Hp _ (.blk _ _ [_,_,_,_,_,_] _::_) _:=hh;refine aa (ak (mL ?_));refine bJ hh 0 [_,_,_,_,_,_] ?_;refine bj hh (z9 s _ (hT.hp hh) (hb s ms)) rfl ?_;intro w14 hh;refine CN ?_;intro b15 w15 hh;refine Oi ?_;intro A16 c16 w16 hh;simp only [YG,Y8] at hh;replace hh:=hh.sub (Zc _ _);refine lE ?_;refine a8 (mI (aD (ai ?_)));replace hh:=hh.sub (Yw _ (Yv _ YR));refine ⟨⟨i+1,c16,A16,Yo,rfl,rfl, ?_⟩,by show n-(i+1)<n-i;omega, ?_⟩
   ·rw [aw hs,ZD,bM];exact hh
   ·exact er
  ·obtain rfl:i=n:=Yo;rw [YC Yo] at hh;exact NH
def hasB (b:List SR) (p:List NR):Bool:=decide (b.length=p.length) && (b.zip p).all fun x=>x.1.has x.2.d
def Ww (a b:List SR):Bool:=decide (a.length=b.length) && (a.zip b).all fun x=>x.2.has x.1.lo.d && x.2.has x.1.hi.d
variable {j:Nat}
theorem SR.XE {s:SR} (h:s.fin k):Sz (k+1) s.wid:=(SR.WB h).sub (SR.U8 h)
def XR (b:List SR):Dyadic:=iw (b.map SR.wid)
def tU (b:List SR) (v:Int):Prop:=(b=[]∧v= -1)∨∃(m:Nat) (s:SR),b[m]?=some s∧v=m∧(∀(j:Nat) (t:SR),b[j]?=some t→¬s.wid<t.wid)∧∀(j:Nat) (t:SR),j<m→b[j]?=some t→t.wid<s.wid
theorem Gt {b:List SR} (s:SR):tU (List.take 0 b++[s]) 0:=by
 refine .inr ⟨0,s,rfl,rfl,fun j t h=> ?_,fun j t h=>absurd h (Nat.not_lt_zero _)⟩
 match j,h with
 |0,h=>cases h;grind
theorem LU {l:List SR}{u s:SR} (h1:∀(j:Nat) (t:SR),l[j]?=some t→¬u.wid<t.wid) (g:u.wid<s.wid):tU (l++[s]) (l.length:Nat):=by
 have h3:∀(j:Nat) (t:SR),j<l.length→(l++[s])[j]?=some t→t.wid<s.wid:=fun j t hj h=>by
  rw [aav hj] at h;have:=h1 j t h;grind
 refine .inr ⟨l.length,s,by simp,rfl,fun j t h=> ?_,h3⟩;by_cases hj:j<l.length
 ·have:=h3 j t hj h;grind
 ·rw [ZC Yo] at h
  match j-l.length,h with
  |0,h=>cases h;grind
theorem Ox {l:List SR}{u s:SR} (hu:l[j]?=some u) (h1:∀(j:Nat) (t:SR),l[j]?=some t→¬u.wid<t.wid) (h2:∀(i:Nat) (t:SR),i<j→l[i]?=some t→t.wid<u.wid) (g:¬u.wid<s.wid):tU (l++[s]) (j:Nat):=by
 have hj:=(YL.1 hu).1;refine .inr ⟨j,u,by rw [aav hj];exact hu,rfl,fun i t h=> ?_,fun i t hi h=>h2 i t hi (by rwa [aav Yo] at h)⟩;by_cases hi:i<l.length
 ·exact h1 i t (by rwa [aav hi] at h)
 ·rw [ZC Yo] at h
  match i-l.length,h with
  |0,h=>cases h;exact g
theorem xI (L:Option Addr) (n c:Nat) (b:List SR) (k:Nat) (w:World) (hT:dP w) (hS:Sl w L n 6 (aA SR.cells b)) (hb:∀s∈b,s.fin k) (hn:n≤1000000) (hk:k≤3000000):
  Calls Tryz.prog 109 #[.slice L n c] w fun r w'=>(∃v,r=.returned (.int .i64 v)∧tU b v)∧Below w.heap.size w w':=by
 have hh:=Hp.start w;have hln:=hS.bk SR.len Yp;refine aj (N:=29) (l:=[.slice L n c]) Tryz.func109 rfl rfl (by simp) ?_;refine G6 ?_;refine bH [3,4,5,8,9,10,11,12,13,14,15,16,17,18,19,20,21,22,23,24,25,26,27] 3 8
  (fun v3 v w'=>∃(i:Nat) (m:Int),i≤n∧v=.int .i64 i∧v3=.int .i64 m∧tU (b.take i) m∧Hp w [] w')
  (fun _ v _=>n-(intOf v).toNat) ?_ ?_
 ·exact ⟨0, -1,Yx _,rfl,rfl,.inl ⟨rfl,rfl⟩,hh⟩
 ·clear hh;rintro ρ' v3 v w' ⟨i,m,hi,rfl,rfl,hW,hh⟩;by_cases hlt:i<n
  ·obtain ⟨s,hs⟩:=ao (l:=b) (k:=i) Yo;have ms:=Yy hs;obtain ⟨ad,rfl,hr⟩:=hS.at_ Yo
   rcases hW with ⟨h0,rfl⟩|⟨j,u,hu,rfl,hW1,hW2⟩
   ·have hi0:i=0:=by
     have:=Ze List.length h0;rw [YM,abn] at this;omega
    subst hi0;refine sr ?_;refine dY ?_;refine zz ?_;refine vW ?_;refine bC hh ?_;intro b5 w5 hh;refine aI ?_;refine bg hh 0 [_,_,_,_,_,_] ?_;intro ws hh;replace hh:Hp _ (.blk _ _ [_,_,_,_,_,_] _::_) _:=hh;refine aa (ah ?_);refine Oj ?_;refine dJ ?_;refine AB ?_;refine mV ?_;refine dS (dS (dS (dS ?_)));refine pd (i:=7) rfl (fun ρ1 w1 hj hR=>(show ρ1 15=Value.bool _ from hR.2.2.1)) Yp ?_;refine dS ?_;refine aH ?_;intro f W hJ hV;have hb_5:=hJ.bl;obtain ⟨v21,v20,v19,v18,v17,v16,v15,v14,v13,_⟩:=hV;replace hh:=hJ.hp;refine K0 ?_;dsimp only [bP];clear hJ;refine jR ?_;refine jR ?_;refine gS ?_;refine gi ?_;refine aa (cT (ak (mI (aI (aD (bz (ai (ak ?_))))))));refine a8 (mI (aD (ai ?_)));replace hh:=hh.sub (Yw _ YR);refine ⟨⟨0+1,0,Yo,rfl,rfl, ?_,hh⟩,by show n-(0+1)<n-0;omega, ?_⟩
    ·rw [aw hs];exact Gt s
    ·exact er
   ·have hji:j<i:=by
     have:=YL.1 hu;obtain ⟨h,_⟩:=this;rw [YM] at h;omega
    have hub:b[j]?=some u:=by rw [←hu,List.getElem?_take_of_lt hji]
    have hc1:=fun w1 hT1=>pF s k w1 hT1 (hb s ms) hk;have hc2:=fun w1 hT1=>pF u k w1 hT1 (hb u (Yy hub)) hk;have hc3:=fun w1 hT1=>jo (nR s.wid) (nR u.wid) w1 hT1 ((SR.XE (hb s ms)).ok Yo) ((SR.XE (hb u (Yy hub))).ok Yo);simp only [bL] at hc3;have e:=rO s.wid u.wid;generalize gE s.wid u.wid=cc at*;by_cases g:0<cc
    ·refine sr ?_;refine dY ?_;refine bZ ?_;refine vW ?_;refine bC hh ?_;intro b5 w5 hh;refine aI ?_;refine bg hh 0 [_,_,_,_,_,_] ?_;intro ws hh;replace hh:Hp _ (.blk _ _ [_,_,_,_,_,_] _::_) _:=hh;refine aa (ah ?_);refine Oj ?_;refine dJ ?_;refine AB ?_;refine mV ?_;refine dG (dK 0 [_,_,_,_,_,_] ?_);refine Sj ?_;refine dG (gI ?_);refine dG (dJ ?_);refine dG (np (j) ?_);refine dG (pW [_,_,_,_,_,_] (fun _ hj=>(hr.ext hj.hp.below).recAt SR.len hub) ?_);refine aH ?_;intro f W hJ hV;have hb_5:=hJ.bl;obtain ⟨v21,v20,v19,v18,v17,v16,v15,v14,v13,_⟩:=hV;replace hh:=hJ.hp;refine K0 ?_;dsimp only [bP];clear hJ;refine aG rfl rfl ?_;refine bj hh (hc2 _ (hT.hp hh)) rfl ?_;intro w22 hh;refine aG rfl rfl ?_;refine bj hh (hc3 _ (hT.hp hh)) rfl ?_;intro w23 hh;refine gT ?_;refine bT ?_;refine fK ?_;refine aa (cT (ak (mI (aI (aD (bz (ai (ak ?_))))))));refine a8 (mI (aD (ai ?_)));replace hh:=hh.sub (Yw _ YR);refine ⟨⟨i+1,i,Yo,rfl,rfl, ?_,hh⟩,by show n-(i+1)<n-i;omega, ?_⟩
     ·have:=LU (s:=s) hW1 (e.1 g);rwa [YM,ZK Yo,←aw hs] at this
     ·exact er
    ·refine sr ?_;refine dY ?_;refine bZ ?_;refine vW ?_;refine bC hh ?_;intro b5 w5 hh;refine aI ?_;refine bg hh 0 [_,_,_,_,_,_] ?_;intro ws hh;replace hh:Hp _ (.blk _ _ [_,_,_,_,_,_] _::_) _:=hh;refine aa (ah ?_);refine Oj ?_;refine dJ ?_;refine AB ?_;refine mV ?_;refine dG (dK 0 [_,_,_,_,_,_] ?_);refine Sj ?_;refine dG (gI ?_);refine dG (dJ ?_);refine dG (np (j) ?_);refine dG (pW [_,_,_,_,_,_] (fun _ hj=>(hr.ext hj.hp.below).recAt SR.len hub) ?_);refine aH ?_;intro f W hJ hV;have hb_5:=hJ.bl;obtain ⟨v21,v20,v19,v18,v17,v16,v15,v14,v13,_⟩:=hV;replace hh:=hJ.hp;refine K0 ?_;dsimp only [bP];clear hJ;refine aG rfl rfl ?_;refine bj hh (hc2 _ (hT.hp hh)) rfl ?_;intro w22 hh;refine aG rfl rfl ?_;refine bj hh (hc3 _ (hT.hp hh)) rfl ?_;intro w23 hh;refine gT ?_;refine bT ?_;refine fK ?_;refine y3 ?_;refine a8 (mI (aD (ai ?_)));replace hh:=hh.sub (Yw _ YR);refine ⟨⟨i+1,j,Yo,rfl,rfl, ?_,hh⟩,by show n-(i+1)<n-i;omega, ?_⟩
     ·rw [aw hs];exact Ox hu hW1 hW2 fun h=>g (e.2 h)
     ·exact er
  ·obtain rfl:i=n:=Yo;rw [YC Yo] at hW;refine sr ?_;refine G4 ?_;refine dH ?_;exact ⟨⟨_,rfl,hW⟩,hh.below⟩
theorem DU (L:Option Addr) (n c:Nat) (b:List SR) (g:FuncId) (cap:List Value) (G:Nat→SR→NR) (w:World) (hT:dP w) (hS:Sl w L n 6 (aA SR.cells b)) (hb:∀s∈b,s.ok) (hn:n≤1000000) [au Tryz.prog g]
  (hg:∀(i:Nat) (s:SR) (w1:World),i<n→b[i]?=some s→Below w.heap.size w w1→dP w1→Calls Tryz.prog g (.int .i64 i::.agg s.f.cells.toArray::cap).toArray w1 fun r w'=>r=.returned (.agg #[.bool (G i s).neg,.string (G i s).aY,.int .i64 (G i s).e])∧Below w1.heap.size w1 w'):
  Calls Tryz.prog 61 #[.slice L n c,.func (.func g) #[] cap.toArray] w fun r w'=>∃A c',r=.returned (.slice A n c')∧w'.ownsRow w.heap.size 33 3 (.slice A n c') n (aA NR.cells (b.mapIdx G))∧Below w.heap.size w w':=by
 have hh:=Hp.start w;have hln:=hS.bk SR.len Yp;refine aj (N:=25) (l:=[.slice L n c,.func (.func g) #[] cap.toArray]) Tryz.func61 rfl rfl (by simp) ?_;refine sr (aL (aa (sr (aL (aa (ah (sr (mL ?_))))))));refine ay (lu L n c b _ (hT.hp hh) (hS.ext hh.below) hb hn) au.out rfl Yp ?_;rintro e_ w9 ⟨A9,c9,rfl,hown_,hb_⟩;refine ⟨_,rfl, ?_⟩;replace hh:=hh.aP (x:=.row _ _ _ _ _ _) hb_ hown_;refine aM (mI (aa (ar ?_)));replace hh:=hh.dm 33 3;refine bH [5,6,7,11,12,13,14,15,16,17,18,19,20,21,22,23] 5 11
  (fun v3 v w'=>∃(i c3:Nat) (A:Option Addr),i≤n∧v=.int .i64 i∧v3=.slice A i c3∧Hp w [.row A i c3 33 3 (aA NR.cells ((b.take i).mapIdx G)),.row A9 n c9 35 6 (aA SR.cells (b.map SR.f))] w')
  (fun _ v _=>n-(intOf v).toNat) ?_ ?_
 ·exact ⟨0,0,none,Yx _,rfl,rfl,hh⟩
 ·clear hh;rintro ρ' v3 v w' ⟨i,c3,A,hi,rfl,rfl,hh⟩;by_cases hlt:i<n
  ·obtain ⟨s,hs⟩:=ao (l:=b) (k:=i) Yo;have ms:=Yy hs;have hfs:(b.map SR.f)[i]?=some s.f:=by rw [YJ,hs];rfl
   obtain ⟨g9,rfl⟩:=hh.cq (i:=1) rfl Yo;refine sr ?_;refine dY ?_;refine il ?_;refine cg (vs:=[_,_,_,_,_,_]) aJ.out rfl (hh.dT (f:=SR.cells) (x:=s.f) (l:=b.map SR.f) (i:=1) rfl SR.len Yp hfs) rfl Yp ?_;refine bC hh ?_;intro b7 w7 hh;refine aI ?_;refine bg hh 0 [_,_,_,_,_,_] ?_;intro ws hh;replace hh:Hp _ (.blk _ _ [_,_,_,_,_,_] _::_) _:=hh;refine aa (ak (mL ?_));refine iY ?_;refine mI ?_;refine bJ hh 0 [_,_,_,_,_,_] ?_;refine gU (hg i s _ hlt hs hh.below (hT.hp hh)) au.out rfl rfl Yp ?_;rintro e_ w20 ⟨rfl,hb_⟩;refine ⟨_,rfl, ?_⟩;replace hh:=hh.ext hb_;refine rW ?_;intro b21 w21 hh;refine Oi ?_;intro A22 c22 w22 hh;simp only [YG,Y8] at hh;replace hh:=hh.sub (Zc _ _);refine lE ?_;refine a8 (mI (aD (ai ?_)));replace hh:=hh.sub (Yw _ (Yv _ (Yv _ YR)));refine ⟨⟨i+1,c22,A22,Yo,rfl,rfl, ?_⟩,by show n-(i+1)<n-i;omega, ?_⟩
   ·rw [aw hs,List.mapIdx_concat,YM,ZK Yo,bM];exact hh
   ·exact er
  ·obtain rfl:i=n:=Yo;rw [YC Yo] at hh;exact NH
def SR.half (s:SR) (m:NR) (u:Bool):SR:=if u then ⟨m,s.hi⟩ else ⟨s.lo,m⟩
theorem tV (s:SR) (m:NR) (u:Bool) (w:World):
  Calls Tryz.prog 160 #[.agg #[.bool s.lo.neg,.string s.lo.aY,.int .i64 s.lo.e,.bool s.hi.neg,.string s.hi.aY,.int .i64 s.hi.e,.bool m.neg,.string m.aY,.int .i64 m.e],.bool u] w fun r w'=>r=.returned (.agg (s.half m u).cells.toArray)∧Below w.heap.size w w':=by
 have hh:=Hp.start w
 cases u with
 |true=>
  refine aj (N:=18) (l:=[.agg #[.bool s.lo.neg,.string s.lo.aY,.int .i64 s.lo.e,.bool s.hi.neg,.string s.hi.aY,.int .i64 s.hi.e,.bool m.neg,.string m.aY,.int .i64 m.e],.bool true]) Tryz.func160 rfl rfl (by simp) ?_;refine sr ?_;refine bO hh [_,_,_,_,_,_,_,_,_] ?_;intro b2 w2 hh;refine bC hh ?_;intro b4 w4 hh;refine aa (ah (sr (mB (aa (cT (sr (bo ?_)))))));refine bJ hh 1 [_,_,_] (bo (bo ?_));refine bJ hh 1 [_,_,_] ?_;refine fe [_,_,_,_,_,_] ?_;refine bg hh 0 [_,_,_,_,_,_] ?_;intro ws hh;replace hh:Hp _ (.blk _ _ [_,_,_,_,_,_] _::_) _:=hh;refine aa (av (aF ?_));exact RN
 |false=>
  refine aj (N:=18) (l:=[.agg #[.bool s.lo.neg,.string s.lo.aY,.int .i64 s.lo.e,.bool s.hi.neg,.string s.hi.aY,.int .i64 s.hi.e,.bool m.neg,.string m.aY,.int .i64 m.e],.bool false]) Tryz.func160 rfl rfl (by simp) ?_;refine sr ?_;refine bO hh [_,_,_,_,_,_,_,_,_] ?_;intro b2 w2 hh;refine bC hh ?_;intro b4 w4 hh;refine aa (ah (sr (mB (aa (cF (aq (ai (sr (bo (bo ?_))))))))));refine bJ hh 1 [_,_,_] (bo ?_);refine bJ hh 1 [_,_,_] ?_;refine fe [_,_,_,_,_,_] ?_;exact Uv
theorem tR (L:Option Addr) (n c a:Nat) (b:List SR) (s:SR) (w:World) (hS:Sl w L n 6 (aA SR.cells b)) (hn:n≤1000000) (ha:a<n):
  Calls Tryz.prog 159 #[.slice L n c,.int .i64 a,.agg s.cells.toArray] w fun r w'=>∃A c',r=.returned (.slice A n c')∧w'.ownsRow w.heap.size 35 6 (.slice A n c') n (aA SR.cells (b.set a s))∧Below w.heap.size w w':=by
 have hh:=Hp.start w;have hln:=hS.bk SR.len Yp;have hrl:=fj SR.len b;refine aj (N:=19) (l:=[.slice L n c,.int .i64 a,.agg s.cells.toArray]) Tryz.func159 rfl rfl (by simp) ?_;refine sr ?_;refine bO hh [_,_,_,_,_,_] ?_;intro b5 w5 hh;refine aL (aa (sr (mL (aM ?_))));refine yQ ?_;intro b10 w10 hh;refine aL (aa (sr (mL (mL ?_))));refine HT hh (i:=0) (o:=0) rfl rfl rfl (hS.ext hh.below) bG.out aJ.out (by rw [km,Nat.min_self];show 0+n*6≤n*6;omega) (bK SR.one _) Yp ?_;intro w13 hh;skip;have e1:∀xs:List Value,xs.length=n*6→cm xs 0 ((aA SR.cells b).take (min n n*6))=aA SR.cells b:=fun xs hx=>by
  rw [Nat.min_self,YC Yo,cm,Z7,Yz,aaw Yo,Y7]
 rw [YG,e1 _ (by rw [km];rfl)] at hh;refine aa (sr (mL (mI ?_)));refine bJ hh 1 [_,_,_,_,_,_] ?_;refine cJ (k:=a) bG.out aJ.size rfl rfl Yo Yo Yp ?_;refine ct hh (i:=0) (vs:=[_,_,_,_,_,_]) rfl rfl (gl rfl) rfl aJ.out rfl Yo rfl ?_;intro ws hh;simp only [YG] at hh;rw [show cm (aA SR.cells b) (a*6) [.bool s.lo.neg,.string s.lo.aY,.int .i64 s.lo.e,.bool s.hi.neg,.string s.hi.aY,.int .i64 s.hi.e]=aA SR.cells (b.set a s) from eX SR.len Yo] at hh;refine aa (sr (mL (aL (aa (av ?_)))));exact MS
def nM (k:Int) (i:Nat):Bool:=decide (0<k) && (decide (i<62) && decide (k.fdiv (2^i) % 2=1))
theorem vI (i:Nat) (s:SR) (p:Addr) (k:Int) (w:World) (hi:i≤1000000) (hp:w.cell? p=some (.int .i64 k)):
  Calls Tryz.prog 108 #[.int .i64 i,.agg s.cells.toArray,.pointer (some p)] w fun r w'=>r=.returned (.agg #[.bool (cond (nM k i) s.hi s.lo).neg,.string (cond (nM k i) s.hi s.lo).aY,.int .i64 (cond (nM k i) s.hi s.lo).e])∧Below w.heap.size w w':=by
 have hh:=Hp.start w;have hmn:min (i:Int).toNat IntKind.i64.bits=min i 64:=rfl;unfold nM;by_cases h0:0<k
 ·rw [YN h0,Bool.true_and];by_cases h1:i<62
  ·rw [YN h1,Bool.true_and];have hm2:min (i:Int).toNat IntKind.i64.bits=i:=by rw [hmn];omega
   by_cases g:k.fdiv (2^i) % 2=1
   ·rw [YN g];refine IA ?_;refine sr ?_;refine bO hh [_,_,_,_,_,_] ?_;intro b4 w4 hh;refine bC hh ?_;intro b5 w5 hh;refine aa (ah (sr ?_));refine tE ?_;refine bT (mB (gT (mI (gT ?_))));refine a9 ?_;refine gi ?_;refine mB ?_;refine aG rfl rfl ?_;refine tE ?_;refine gT (mI ?_);refine aG rfl rfl ?_;refine L8 rfl rfl Yo Yp ?_;refine aG rfl rfl ?_;refine E6 rfl rfl Yp ?_;rw [hm2];refine gT ?_;refine cH ?_;refine gi ?_;refine aa (cT (sr (bo ?_)));refine bJ hh 1 [_,_,_] ?_;exact Ms
   ·rw [YS g];refine IA ?_;refine sr ?_;refine bO hh [_,_,_,_,_,_] ?_;intro b4 w4 hh;refine bC hh ?_;intro b5 w5 hh;refine aa (ah (sr ?_));refine tE ?_;refine bT (mB (gT (mI (gT ?_))));refine a9 ?_;refine gi ?_;refine mB ?_;refine aG rfl rfl ?_;refine tE ?_;refine gT (mI ?_);refine aG rfl rfl ?_;refine L8 rfl rfl Yo Yp ?_;refine aG rfl rfl ?_;refine E6 rfl rfl Yp ?_;rw [hm2];refine gT ?_;refine cH ?_;refine gi ?_;refine qX ?_;refine bJ hh 1 [_,_,_] ?_;exact DF
  ·rw [YS h1,Bool.false_and];refine IA ?_;refine sr ?_;refine bO hh [_,_,_,_,_,_] ?_;intro b4 w4 hh;refine bC hh ?_;intro b5 w5 hh;refine aa (ah (sr ?_));refine tE ?_;refine bT (mB (gT (mI (gT ?_))));refine a9 ?_;refine gi ?_;exact S8
 ·rw [YS h0,Bool.false_and];refine IA ?_;refine sr ?_;refine bO hh [_,_,_,_,_,_] ?_;intro b4 w4 hh;refine bC hh ?_;intro b5 w5 hh;refine aa (ah (sr ?_));refine tE ?_;refine bT (mB ?_);refine gS (gS ?_);refine fK ?_;exact S8
theorem xZ (L:Option Addr) (n c:Nat) (b:List SR) (k:Int) (w:World) (hT:dP w) (hS:Sl w L n 6 (aA SR.cells b)) (hb:∀s∈b,s.ok) (hn:n≤1000000):
  Calls Tryz.prog 58 #[.slice L n c,.int .i64 k] w fun r w'=>∃A c',r=.returned (.slice A n c')∧w'.ownsRow w.heap.size 33 3 (.slice A n c') n (aA NR.cells (b.mapIdx fun i s=>cond (nM k i) s.f.hi s.f.lo))∧Below w.heap.size w w':=by
 have hh:=Hp.start w;refine aj (N:=8) (l:=[.slice L n c,.int .i64 k]) Tryz.func58 rfl rfl (by simp) ?_;refine sr ?_;refine bO hh [_] ?_;intro b3 w3 hh;refine aL (aa (sr (mL ?_)));refine vP ?_;refine ay (DU L n c b 108 [.pointer (some ⟨b3,0,none⟩)] (fun i s=>cond (nM k i) s.f.hi s.f.lo) _ (hT.hp hh) (hS.ext hh.below) hb hn (fun i s w1 hi _ hw1 _=>vI i s.f ⟨b3,0,none⟩ k w1 Yo ((hw1.cell (lC (hh.dk (i:=0) rfl rfl))).trans (hh.dk (i:=0) rfl rfl)))) au.out rfl Yp ?_;rintro e_ w7 ⟨A7,c7,rfl,hown_,hb_⟩;refine ⟨_,rfl, ?_⟩;replace hh:=hh.aP (x:=.row _ _ _ _ _ _) hb_ hown_;refine aL (aa (av ?_));exact MS
theorem Ay (L:Option Addr) (n c:Nat) (b:List SR) (a:Nat) (s:SR) (k:Nat) (w:World) (hT:dP w) (hS:Sl w L n 6 (aA SR.cells b)) (hb:∀s∈b,s.fin k) (hn:n≤1000000) (hk:k≤3000000) (hs:b[a]?=some s):
  Calls Tryz.prog 110 #[.slice L n c,.int .i64 a] w fun r w'=>∃A c1 B c2,r=.returned (.tuple #[.slice A n c1,.slice B n c2,.int .i64 0])∧Hp w [.row B n c2 35 6 (aA SR.cells ((b.map SR.f).set a (s.f.half (nR s.f.Bn) true))),.row A n c1 35 6 (aA SR.cells ((b.map SR.f).set a (s.f.half (nR s.f.Bn) false)))] w':=by
 have hh:=Hp.start w;have hln:=hS.bk SR.len Yp;have han:a<n:=by have:=(YL.1 hs).1;omega
 have hfs:(b.map SR.f)[a]?=some s.f:=by rw [YJ,hs];rfl
 have hmd:=fun w1 hT1=>CJ s.f k w1 hT1 (SR.GP (hb s (Yy hs)) hk) hk;refine aj (N:=38) (l:=[.slice L n c,.int .i64 a]) Tryz.func110 rfl rfl (by simp) ?_;refine sr (aL (aL (aI (aa (ah (sr (mI ?_)))))));refine a9 (mB (gT (mI (gT (mL (gT (aM (gT ?_))))))));refine dF ?_;refine fK ?_;refine aa (cF (aq (ai (sr (mL ?_)))));refine ay (lu L n c b _ (hT.hp hh) (hS.ext hh.below) (fun s h=>⟨(hb s h).1.ok,(hb s h).2.ok⟩) hn) au.out rfl Yp ?_;rintro e_ w17 ⟨A17,c17,rfl,hown_,hb_⟩;refine ⟨_,rfl, ?_⟩;replace hh:=hh.aP (x:=.row _ _ _ _ _ _) hb_ hown_;obtain ⟨g17,rfl⟩:=hh.cq (i:=0) rfl Yo;refine aL (aa (ah ?_));refine aK 11 [[(0,none)],[(1,none)],[(18,some 0),(19,some 1)],[(20,some 2)],[(0,none)],[(1,none)],[(22,some 4),(23,some 5)],[(24,some 6)],[(25,some 7)],[(21,some 3),(26,some 8)],[]] [(10,7),(9,27),(8,26),(7,25),(6,24),(5,23),(4,22),(3,21),(2,20),(1,19),(0,18)] hh mixed Yq ?_;refine gI ?_;refine dJ ?_;refine EG (a) ?_;refine pW [_,_,_,_,_,_] (fun _ hj=>hj.hp.dT (f:=SR.cells) (x:=s.f) (l:=b.map SR.f) (i:=0) rfl SR.len Yp hfs) ?_;refine gI ?_;refine dJ ?_;refine EG (a) ?_
 refine pW [_,_,_,_,_,_] (fun _ hj=>hj.hp.dT (f:=SR.cells) (x:=s.f) (l:=b.map SR.f) (i:=0) rfl SR.len Yp hfs) ?_;refine dC (fun _ hj=>hmd _ (hT.hp hj.hp)) ?_;refine dB [_,_,_,_,_,_,_,_,_] ?_;refine a7 (i:=10) (cw _ 190 _) cw.ext (fun ρ1 w1 hj hR=>iJ aJ.out hj.bl (fun v w2 h hb=>⟨hb,h⟩)) ?_;refine aH ?_;intro f W hJ hV;have hb_4:=hJ.bl;obtain ⟨v7,v27,v26,v25,v24,v23,v22,v21,v20,v19,v18,_⟩:=hV;obtain ⟨b7,e7,hl7,hc7⟩:cw _ _ _ (f 10) W:=v7;replace hh:=hJ.newVar hh hl7 hc7;refine aN (a6 (ae e7 (ae v27 (ae v26 (ae v25 (ae v24 (ae v23 (ae v22 (ae v21 (ae v20 (ae v19 (ae v18 aO)))))))))))) ?_;dsimp only [bP];clear e7 hJ;refine bg hh 0 [_,_,_,_,_,_,_,_,_] ?_;intro ws hh;replace hh:Hp _ (.blk _ _ [_,_,_,_,_,_,_,_,_] _::_) _:=hh;refine aa (ah ?_);refine aK 9 [[(0,none)],[(1,none)],[(7,none)],[(30,some 2)],[(28,some 0),(29,some 1),(31,some 3)],[(0,none)],[(1,none)],[(7,none)],[(35,some 7)]] [(8,36),(7,35),(6,34),(5,33),(4,32),(3,31),(2,30),(1,29),(0,28)] hh mixed Yq ?_;refine gI ?_;refine dJ ?_;refine dK 0 [_,_,_,_,_,_,_,_,_] ?_;refine dC (fun _ hj=>tV s.f (nR s.f.Bn) false _) ?_
 refine a7 (i:=4) (xh ws.heap.size 35 n 6 (aA SR.cells ((b.map SR.f).set a (s.f.half (nR s.f.Bn) false)))) (xh.ext) ?_ ?_
 ·intro ρ1 w1 hj hR;exact bV rfl (bf au.out (aC hR.1 (aC hR.2.1 (aC hR.2.2.1 bh)))) (tR (some ⟨g17,0,none⟩) n c17 a (b.map SR.f) _ w1 (hj.hp.az (i:=1) rfl) hn han) (fun _ _ ⟨A,c,hq,ho,hb⟩=>⟨_,hq,hb,A,c,rfl,iB ho hj.bl.size⟩)
 refine gI ?_;refine dJ ?_;refine dK 0 [_,_,_,_,_,_,_,_,_] ?_;refine dC (fun _ hj=>tV s.f (nR s.f.Bn) true _) ?_;refine aH ?_;intro f W hJ hV;have hb_5:=hJ.bl;obtain ⟨v36,v35,v34,v33,v32,v31,v30,v29,v28,_⟩:=hV;obtain ⟨A32,c32,e32,o32⟩:xh _ _ _ _ _ (f 4) W:=v32;replace hh:=JJ.EJ hh hJ.hp o32;clear o32;refine aN (a6 (ae v36 (ae v35 (ae v34 (ae v33 (ae e32 (ae v31 (ae v30 (ae v29 (ae v28 aO)))))))))) ?_;dsimp only [bP];clear e32 hJ;refine ay (tR (some ⟨g17,0,none⟩) n c17 a (b.map SR.f) _ _ (hh.az (i:=2) rfl) hn han) au.out rfl Yp ?_;rintro e_ w37 ⟨A37,c37,rfl,hown_,hb_⟩;refine ⟨_,rfl, ?_⟩;replace hh:=hh.aP (x:=.row _ _ _ _ _ _) hb_ hown_;refine aL (aL (aI (aa (av ?_))));replace hh:=hh.sub (Yv _ (Yv _ (Yw _ (Yw _ YR))));refine Ws ?_;exact ⟨_,_,_,_,rfl,hh⟩
variable {Hr:List HE}{K:Value→World→Prop}{N b by' o:Nat}{P:Program}{X:List Dyadic}{ag:Bool}{cs vs zc:List Value}{fz:Nat×Nat}{ops:Array Oper}{pos:String}{t':TypeId}{w w' w0:World}{ρ:Rf}
theorem Vx {o:Oper}{K':Value→World→Prop} (h:OG P ops o ρ w K) (hk:∀v w',K v w'→K' v w'):OG P ops o ρ w K':=⟨fun a next Q ha hn=>h.out a next Q ha fun v w' h2=>hn v w' (hk v w' h2)⟩
theorem KC {H:List HE}{ty:TypeId}{af:Array Edge} (hh:Hp w0 H w) {t:TypeId}{x y:Operand}{i:Nat}{v:Value} (hx:ev ρ x=.pointer (some ⟨b,o,none⟩)) (hi:H[i]?=some (.blk b t' cs fz))
  (hy:ev ρ y=v) (hc:v.cells=vs.toArray) (ht:eu P t=some (n,ag,by',zc)) (hl:vs.length=n) (ho:o+n≤cs.length) (h1:(vs.all Value.oneCell')=true):OG P ops ⟨none,.store t x y,ty,pos,af,none⟩ ρ w fun v w'=>Hp w0 (H.set i (.blk b t' (cm cs o vs) fz)) w'∧Is undef v w':=by
 have hb:=hh.at_ hi;obtain ⟨w',hr,hb',hg,hs⟩:=hZ (P:=P) (b:=b) (t:=t') (fz:=fz) o vs 0 cs w hb.2.1 hb.2.2 Yo (by simpa using h1);refine ⟨fun a next Q ha hn=> ?_⟩;rw [Yt (by simp [Region.wanted])];refine .inl ?_;have hr2:(execOp (ev ρ) ⟨none,.store t x y,ty,pos,af,none⟩).run P w=.ok .skip w':=by simp [execOp,hx,hy,Instr.storeAt,Instr.sureAddr,storeVar,fT ht,hl,hc,hr]
 unfold Oper.wp;rw [AA ha,hr2];exact hn undef w' ⟨hh.grown hi hg (.inl rfl) ⟨hb.1,by simpa using hb',by rw [fU Yo];exact hb.2.2⟩,rfl⟩
theorem JL {Q:Kq}{D:List Deferred}{id:Nat}{l:List Oper} (M:List Nat) (m μ:Nat) (src:List (List (Nat×Option Nat))) (ds:List (Nat×Nat)) {x:HE} (hh:Hp w0 (x::Hr) w) (y:HE) (hm:P.follows .mixedOrders=true) (hok:lI l m N src ds [] M=true) (hμ:μ<m)
  (h:DX P l.toArray (JC w0 Hr) ρ (fun V1=>∃o s Vm,l[μ]?=some o∧src[μ]?=some s∧(∀v w w',Vm v w→Below w.heap.size w w'→Vm v w')∧(∀ρ1 w1,Hp w0 (x::Hr) w1→dp V1 ρ ρ1 w1 s→OG P l.toArray o ρ1 w1 fun v w2=>Hp w0 (y::Hr) w2∧Vm v w2)∧
   DX P l.toArray (JC w0 Hr) ρ (fun V=>Wt V ((List.range m).filter (· !=μ))∧∀f w',Hp w0 (y::Hr) w'→ub V f w' ds→WL ⟨none,D,false⟩ P N l.toArray Q (l.drop m) (ix ρ f ds) w') (μ+1) (ff V1 μ Vm) ((l.take m).drop (μ+1)) (src.drop (μ+1))) 0 UU (l.take μ) (src.take μ)):WC ⟨none,D,false⟩ P N (.region id l.toArray true) Q ρ w:=
 Jl M m μ src ds hh (fun W=>Hp w0 (y::Hr) W) (Yw _ (Zq _)) hm hok hμ (fun _ _ h hb=>h.ext hb) (fun _ h=>h.sub (Yw _ (Zq _))) h
theorem Bo:Sz 2 (ir (-1))∧Sz 2 (1-ir (-1)):=⟨(show Sz 1 (ir (-1)) from ⟨1,by decide+kernel,Yp⟩).mono Yo,Sz.one.sub (show Sz 1 (ir (-1)) from ⟨1,by decide+kernel,Yp⟩)⟩
def qZ (D:List Nat) (X:List Dyadic):FX:=⟨none,D.length,0,none,X.length,0,bq D,X.map nR⟩
structure CV where
 b:List SR
 D:List Nat
 X:List Dyadic
 Y:List Dyadic
def CV.f (c:CV):FX:=qZ c.D c.X
def CV.g (c:CV):FX:=qZ c.D c.Y
def CV.half (c:CV) (a:Nat) (s:SR) (u:Bool):CV:=⟨(c.b.map SR.f).set a (s.f.half (nR s.f.Bn) u),c.D,pj u (ir (-1)) c.D a c.X,pj u (ir (-1)) c.D a c.Y⟩
structure CV.ok (c:CV):Prop where
 bx:∀s∈c.b,s.fin 1000
 UR:c.b.length≤20
 d12:c.D.length≤12
 d127:∀d∈c.D,d≤127
 US:al c.D≤200
 lx:c.X.length=al c.D
 ly:c.Y.length=al c.D
 zx:∀x∈c.X,Sz 90000 x
 zy:∀x∈c.Y,Sz 90000 x
 up:cV [c.f,c.g]=0→(∀x∈lh (maxD [c.f,c.g]) c.f,Sz 250000 x)∧∀x∈lh (maxD [c.f,c.g]) c.g,Sz 250000 x
structure CX where
 L:Option Addr
 n:Nat
 c:Nat
 f:FX
 g:FX
 v:CV
def CX.cells (x:CX):List Value:=[.slice x.L x.n x.c,.slice x.f.A x.f.n x.f.a,.slice x.f.B x.f.m x.f.b,.slice x.g.A x.g.n x.g.a,.slice x.g.B x.g.m x.g.b]
theorem CX.len (x:CX):(CX.cells x).length=5:=rfl
def CX.rows (x:CX):List HE:=[.row x.L x.n x.c 35 6 (aA SR.cells x.v.b),x.f.kB,x.f.kD,x.g.kB,x.g.kD]
structure FX.is (f:FX) (D:List Nat) (X:List Dyadic):Prop where
 ds:f.ds=bq D
 cs:f.cs=X.map nR
structure CX.fit (x:CX):Prop where
 f:x.f.is x.v.D x.v.X
 g:x.g.is x.v.D x.v.Y
structure FX.held (f:FX) (w:World):Prop where
 at_:f.at_ w
 cap:f.n≤f.a
theorem FX.held.of {f:FX}{H:List HE} (h:Hp w0 H w) (hc:f.kB∈H) (hd:f.kD∈H):f.held w:=by
 obtain ⟨i,hi⟩:=ZU.1 hd;exact ⟨⟨lz (h.own _ hd),lz (h.own _ hc)⟩,h.gG hi⟩
structure CX.at_ (x:CX) (w:World):Prop where
 b:Sl w x.L x.n 6 (aA SR.cells x.v.b)
 f:x.f.held w
 g:x.g.held w
theorem CX.at_.of {x:CX}{H:List HE} (h:Hp w0 H w) (hm:∀y∈x.rows,y∈H):x.at_ w:=
 ⟨lz (h.own (.row x.L x.n x.c 35 6 (aA SR.cells x.v.b)) (hm _ YD)),.of h (hm _ (by simp [CX.rows])) (hm _ (by simp [CX.rows])),.of h (hm _ (by simp [CX.rows])) (hm _ (by simp [CX.rows]))⟩
theorem FX.held.ext {f:FX} (h:f.held w) (hb:Below w.heap.size w w'):f.held w':=⟨h.at_.ext hb,h.cap⟩
theorem CX.at_.ext {x:CX} (h:x.at_ w) (hb:Below w.heap.size w w'):x.at_ w':=⟨h.b.ext hb,h.f.ext hb,h.g.ext hb⟩
theorem FX.is.key {f:FX}{D:List Nat} (h:f.is D X) (ha:f.at_ w):f.n=D.length∧f.m=X.length:=by
 obtain ⟨h1,h2⟩:=ha.ln;rw [h.ds,dr] at h1;rw [h.cs,YI] at h2;exact ⟨h1.symm,h2.symm⟩
theorem uQ (D:List Nat):(bq D).map Int.toNat=D:=j5 D
theorem FX.is.e {f:FX}{D:List Nat} (h:f.is D X) (h12:D.length≤12) (hlow:∀d∈D,d≤127) (hx:X.length=al D) (hc:al D≤4096):f.e=0:=by
 unfold FX.e;rw [h.ds,h.cs];exact (FV.mk rfl rfl h12 hlow hx hc:FV (bq D) (X.map nR) D X).ok
theorem FX.is.jX {f:FX}{D:List Nat} (h:f.is D X) (ha:f.at_ w) (h12:D.length≤12) (hx:X.length=al D) (hc:al D≤4096) (hz:∀x∈X,Sz k x) (hk:k≤3000000):f.jX k:=by
 obtain ⟨h1,h2⟩:=h.key ha;refine ⟨Yo,Yo,fun c hc=> ?_⟩;rw [h.cs] at hc;obtain ⟨d,hd,rfl⟩:=YF.1 hc;rw [bL];exact ⟨(hz d hd).ok Yo,hz d hd⟩
theorem AP (x:CX) (a:Nat) (s:SR) (w:World) (hT:dP w) (hx:x.at_ w) (hf:x.fit) (ho:x.v.ok) (hW:∀v,tU x.v.b v→v=(a:Int)) (hs:x.v.b[a]?=some s) (had:a<x.v.D.length):
  Calls Tryz.prog 59 #[.agg x.cells.toArray] w fun r w'=>∃(lo up:CX) (R:List HE),r=.returned (.tuple #[.agg lo.cells.toArray,.agg up.cells.toArray])∧lo.v=x.v.half a s false∧up.v=x.v.half a s true∧lo.fit∧up.fit∧(∀y∈lo.rows++up.rows,y∈R)∧Hp w R w':=by
 have hh:=Hp.start w;obtain ⟨h12,h127,hcnt⟩:=(⟨ho.d12,ho.d127,ho.US⟩:_∧_∧_);have hbn:x.v.b.length=x.n:=hx.b.bk SR.len Yp;have hb20:=ho.UR;have ln1:=hf.f.key hx.f.at_;have ln2:=hf.g.key hx.g.at_;have lm1:=hf.f.jX hx.f.at_ h12 ho.lx Yo ho.zx Yp;have lm2:=hf.g.jX hx.g.at_ h12 ho.ly Yo ho.zy Yp;have e1:=hf.f.e h12 h127 ho.lx Yo;have e2:=hf.g.e h12 h127 ho.ly Yo;have hlx:=ho.lx;have hly:=ho.ly;have n1:x.f.ns=x.v.D:=by unfold FX.ns;rw [hf.f.ds];exact uQ _
 have n2:x.g.ns=x.v.D:=by unfold FX.ns;rw [hf.g.ds];exact uQ _
 have hw:=fun w1 hT1 hb=>xI x.L x.n x.c x.v.b 1000 w1 hT1 (hx.b.ext hb) ho.bx Yo Yp;have hha:=fun w1 hT1 hb=>Ay x.L x.n x.c x.v.b a s 1000 w1 hT1 (hx.b.ext hb) ho.bx Yo Yp hs;have hc1:=fun w1 hT1 hb=>yW x.f (a:Int) 90000 2 w1 hT1 (hx.f.at_.ext hb) lm1 hx.f.cap Bo.1 Bo.2 Yp (fun _ d hd=>by
  rw [n1] at hd;have:=h127 d hd;have:=Z5 (show x.f.m≤200 by omega) (show 260+2*(2*d)≤768 by omega);omega) (by unfold qU;rw [Yu (fun h=>h e1),Yu Yo])
 have hc2:=fun w1 hT1 hb=>yW x.g (a:Int) 90000 2 w1 hT1 (hx.g.at_.ext hb) lm2 hx.g.cap Bo.1 Bo.2 Yp (fun _ d hd=>by
  rw [n2] at hd;have:=h127 d hd;have:=Z5 (show x.g.m≤200 by omega) (show 260+2*(2*d)≤768 by omega);omega) (by unfold qU;rw [Yu (fun h=>h e2),Yu Yo])
 have m1:x.f.cs.map NR.d=x.v.X:=by rw [hf.f.cs,Zs];exact (ZV fun y _=>bL y).trans (List.map_id _)
 have m2:x.g.cs.map NR.d=x.v.Y:=by rw [hf.g.cs,Zs];exact (ZV fun y _=>bL y).trans (List.map_id _)
 rw [n1,m1,ZY] at hc1;rw [n2,m2,ZY] at hc2;refine aj (N:=49) (l:=[.agg x.cells.toArray]) Tryz.func59 rfl rfl (by simp) ?_;refine sr ?_;refine bO hh [_,_,_,_,_] ?_;intro b1 w1 hh;refine bC hh ?_;intro b2 w2 hh;refine bC hh ?_;intro b3 w3 hh;refine aa (sr (bo ?_));refine bp hh 2 ?_;refine ay (hw _ (hT.hp hh) hh.below) au.out rfl Yp ?_;rintro e_ w16 ⟨⟨v,rfl,hv⟩,hb_⟩;refine ⟨_,rfl, ?_⟩;obtain rfl:=hW v hv;replace hh:=hh.ext hb_;refine aI (aa (sr (bo ?_)));refine bp hh 2 ?_;refine mI ?_;refine ay (hha _ (hT.hp hh) hh.below) au.out rfl Yp ?_;rintro e_ w21 ⟨A,cA,B,cB,rfl,h3⟩;refine ⟨_,rfl, ?_⟩;replace hh:=hh.join h3;simp only [YB,Yz] at hh;clear h3;refine mT ?_;refine cx ?_;refine cx ?_;refine cx ?_;refine aL (aL (aI (aa (sr (bo ?_)))));refine bJ hh 4 [_,_] (mI ?_);refine ay (hc1 _ (hT.hp hh) hh.below) au.out rfl Yp ?_;rintro e_ w29 ⟨A1,a1,B1,b1_,A2,a2,B2,b2_,rfl,h3⟩;refine ⟨_,rfl, ?_⟩;replace hh:=hh.join h3;simp only [YB,Yz] at hh;clear h3;refine mT ?_;refine cx ?_;refine cx ?_;refine cx ?_;refine bC hh ?_;intro b8 w8 hh;refine bC hh ?_;intro b9 w9 hh
 refine bg hh 1 [_,_] ?_;intro ws hh;replace hh:Hp _ (_::.blk _ _ [_,_] _::_) _:=hh;refine bg hh 0 [_,_] ?_;intro ws hh;replace hh:Hp _ (.blk _ _ [_,_] _::_) _:=hh;refine aI (aa (sr (bo ?_)));refine bJ hh 10 [_,_] (mI ?_);refine ay (hc2 _ (hT.hp hh) hh.below) au.out rfl Yp ?_;rintro e_ w37 ⟨A3,a3,B3,b3_,A4,a4,B4,b4_,rfl,h3⟩;refine ⟨_,rfl, ?_⟩;replace hh:=hh.join h3;simp only [YB,Yz] at hh;clear h3;refine mT ?_;refine cx ?_;refine cx ?_;refine cx ?_;refine bC hh ?_;intro b11 w11 hh;refine bC hh ?_;intro b12 w12 hh;refine bg hh 1 [_,_] ?_;intro ws hh;replace hh:Hp _ (_::.blk _ _ [_,_] _::_) _:=hh;refine bg hh 0 [_,_] ?_;intro ws hh;replace hh:Hp _ (.blk _ _ [_,_] _::_) _:=hh;refine aI (aa (ah ?_));replace hh:=hh.perm (Zp (l₁:=[_,_,_,_,_,_,_,_,_,_,_,_,_,_,_]));simp only [YB,Yz] at hh
 refine JL [0,0,0,7,0,0,0,112,15,511] 9 8 [[(5,none)],[(8,none)],[(11,none)],[(41,some 0),(42,some 1),(43,some 2)],[(6,none)],[(9,none)],[(12,none)],[(45,some 4),(46,some 5),(47,some 6)],[(2,none),(44,some 3)]] [(7,48),(6,47),(5,46),(4,45),(3,44),(2,43),(1,42),(0,41)] hh (.blk b2 97 [.slice A x.n cA,.slice A1 x.f.n a1,.slice B1 x.f.m b1_,.slice A3 x.g.n a3,.slice B3 x.g.m b3_] (0,0)) mixed Yq Yp ?_;refine gI ?_;refine pW [_,_] (fun _ hj=>hj.hp.aQ (i:=7) (n:=2) rfl rfl) ?_;refine pW [_,_] (fun _ hj=>hj.hp.aQ (i:=1) (n:=2) rfl rfl) ?_;refine dB [_,_,_,_,_] ?_;refine gI ?_;refine pW [_,_] (fun _ hj=>hj.hp.aQ (i:=6) (n:=2) rfl rfl) ?_;refine pW [_,_] (fun _ hj=>hj.hp.aQ (i:=0) (n:=2) rfl rfl) ?_;refine dB [_,_,_,_,_] ?_;refine aH ?_;refine ⟨_,_,Is undef,rfl,rfl,Is.ext, ?_, ?_⟩
 ·intro ρ1 w1 hh hR;exact Vx (KC hh (i:=0) (vs:=[_,_,_,_,_]) (show ρ1 2=Value.pointer _ from hR.1) rfl (show ρ1 44=Value.agg (List.toArray _) from hR.2.1) rfl aJ.out rfl Yp rfl) (fun _ _ h=>h)
 refine aH ?_;refine ⟨by repeat (first|exact trivial|refine ⟨fun _ _ _ h_=>h_, ?_⟩), ?_⟩;rintro f W hh hV;obtain ⟨v48,v47,v46,v45,v44,v43,v42,v41,_⟩:=hV;simp only [ix];have e41:f 0=_:=v41;rw [e41];have e42:f 1=_:=v42;rw [e42];have e43:f 2=_:=v43;rw [e43];have e44:f 3=_:=v44;rw [e44];have e45:f 4=_:=v45;rw [e45];have e46:f 5=_:=v46;rw [e46];have e47:f 6=_:=v47;rw [e47];have e48:f 7=_:=v48;rw [e48];clear e41 e42 e43 e44 e45 e46 e47 e48;refine bg hh 15 [_,_,_,_,_] ?_;intro ws hh;replace hh:Hp _ (_::_::_::_::_::_::_::_::_::_::_::_::_::_::_::.blk _ _ [_,_,_,_,_] _::_) _:=hh;refine aa (av ?_);refine Ib (cj rfl (cf (vs:=[_,_,_,_,_]) aJ.out (hh.aQ (i:=0) (n:=5) rfl rfl) rfl) (cj rfl (cf (vs:=[_,_,_,_,_]) aJ.out (hh.aQ (i:=15) (n:=5) rfl rfl) rfl) dw)) ?_
 refine ⟨⟨A,x.n,cA,⟨A1,x.f.n,a1,B1,x.f.m,b1_,x.f.ds,(x.v.half a s false).X.map nR⟩,⟨A3,x.g.n,a3,B3,x.g.m,b3_,x.g.ds,(x.v.half a s false).Y.map nR⟩,x.v.half a s false⟩,⟨B,x.n,cB,⟨A2,x.f.n,a2,B2,x.f.m,b2_,x.f.ds,(x.v.half a s true).X.map nR⟩,⟨A4,x.g.n,a4,B4,x.g.m,b4_,x.g.ds,(x.v.half a s true).Y.map nR⟩,x.v.half a s true⟩,_,rfl,rfl,rfl,⟨⟨hf.f.ds,rfl⟩,hf.g.ds,rfl⟩,⟨⟨hf.f.ds,rfl⟩,hf.g.ds,rfl⟩,fun y hy=> ?_,hh⟩;simp only [CX.rows,FX.kB,FX.kD,YB,Yz,YH,ZN,or_false] at hy ⊢
 rcases hy with rfl|rfl|rfl|rfl|rfl|rfl|rfl|rfl|rfl|rfl<;>simp [CV.half]
theorem Nt {l:List Int} (h:l.all eC=true):ints (l.map z5)=l:=by
 induction l with
 |nil=>rfl
 |cons x l ih=>
  simp only [List.all_cons,YP] at h;have h1:((z5 x).toNat:Int)=x:=by
   have:=uI h.1;injection this with _ this
   exact this.symm
  have:=ih h.2;simp only [ints,Y6,h1];congr 1
theorem Mh {l:List Int} (h:l.all eC=true):fR (l.map z5)=true:=by
 rw [fR,Y0];intro c hc;obtain ⟨x,hx,rfl⟩:=YF.1 hc;have h1:=Y0.1 h x hx;have:=uI h1;injection this with _ this
 simp only [eC,YP,YX] at h1;simp only [YX];omega
theorem QI {a:List UInt8} (h:fR a=true):(ints a).all eC=true:=by
 rw [Y0];intro x hx;obtain ⟨c,hc,rfl⟩:=YF.1 hx;have:=Y0.1 h c hc;simp only [YX] at this;simp only [eC,YP,YX];omega
theorem y5 {f:Int→Int→Int}{a b:List UInt8}{l:List Int} (h:kn f a b=some l):fR a=true∧fR b=true∧b.length=a.length∧l=List.zipWith f (ints a) (ints b):=by
 unfold kn at h;split at h
 ·rename_i hc;simp only [YP,YX] at hc;injection h with h
  exact ⟨hc.1,hc.2.1,Yo,h.symm⟩
 ·cases h
theorem QQ {f:Int→Int→Int}{a b:List UInt8} (h1:fR a=true) (h2:fR b=true) (h3:b.length=a.length):kn f a b=some (List.zipWith f (ints a) (ints b)):=by
 unfold kn;rw [Yt (by simp [h1,h2,h3])]
theorem rp {a c:List UInt8} (h:(mulL a c).2=0):fR a=true∧fR c=true∧c.length=a.length∧fR (mulL a c).1=true∧ints (mulL a c).1=List.zipWith (· + ·) (ints a) (ints c):=by
 unfold mulL at h ⊢;split
 ·rename_i l hl;rw [hl] at h;simp only at h ⊢;obtain ⟨h1,h2,h3,h4⟩:=y5 hl;by_cases hc:l.all eC=true
  ·rw [(uD hc).1];exact ⟨h1,h2,h3,Mh hc,by rw [Nt hc,h4]⟩
  ·simp [QC,hc] at h
 ·rename_i hl;rw [hl] at h;simp at h
theorem Gf {a c:List UInt8} (h:(mulL a c).2=0):(mulL a c).1.length=a.length:=by
 obtain ⟨_,_,h3,_,h5⟩:=rp h;have:=Ze List.length h5;rw [dz,abN,dz,dz] at this;omega
variable {α:Type}
structure TR where
 m:ByteArray
 c:NR
def TR.cells (t:TR):List Value:=[.string t.m,.bool t.c.neg,.string t.c.aY,.int .i64 t.c.e]
theorem TR.len (t:TR):t.cells.length=4:=rfl
theorem TR.one (t:TR):t.cells.all Value.oneCell'=true:=rfl
def jr (a b:ByteArray):Bool:=Op.bytesLess a.data.toList b.data.toList
theorem rV:∀a:List UInt8,Op.bytesLess a a=false
 |[]=>rfl
 |c::a=>by simp [Op.bytesLess,rV a]
theorem tF:∀a b c:List UInt8,Op.bytesLess a b=true→Op.bytesLess b c=true→Op.bytesLess a c=true
 |_,[],[],_,h=>by simp [Op.bytesLess] at h
 |_,_::_,[],_,h=>by simp [Op.bytesLess] at h
 |[],[],_::_,h,_=>by simp [Op.bytesLess] at h
 |_::_,[],_::_,h,_=>by simp [Op.bytesLess] at h
 |[],_::_,_::_,_,_=>rfl
 |x::a,y::b,z::c,h1,h2=>by
  simp only [Op.bytesLess,aaL,YP,YX,Z6] at h1 h2 ⊢
  rcases h1 with h1|⟨rfl,h1⟩
  ·rcases h2 with h2|⟨rfl,h2⟩
   ·exact .inl (UInt8.lt_trans h1 h2)
   ·exact .inl h1
  ·rcases h2 with h2|⟨rfl,h2⟩
   ·exact .inl h2
   ·exact .inr ⟨rfl,tF a b c h1 h2⟩
theorem yt:∀a b:List UInt8,Op.bytesLess a b=false→Op.bytesLess b a=false→a=b
 |[],[],_,_=>rfl
 |[],_::_,h,_=>by simp [Op.bytesLess] at h
 |_::_,[],_,h=>by simp [Op.bytesLess] at h
 |x::a,y::b,h1,h2=>by
  simp only [Op.bytesLess,Bool.or_eq_false_iff,Bool.and_eq_false_iff,abL,beq_eq_false_iff_ne] at h1 h2;have e:x=y:=by
   have a1:=h1.1;have a2:=h2.1;rw [UInt8.lt_iff_toNat_lt] at a1 a2;exact abj.1 Yo
  subst e;rw [yt a b (h1.2.resolve_left (fun h=>h rfl)) (h2.2.resolve_left (fun h=>h rfl))]
theorem j0 (a:ByteArray):jr a a=false:=rV _
theorem kH {a b c:ByteArray} (h1:jr a b=true) (h2:jr b c=true):jr a c=true:=tF _ _ _ h1 h2
theorem o8 {a b:ByteArray} (h1:jr a b=false) (h2:jr b a=false):a=b:=Bj (yt _ _ h1 h2)
theorem Mi {a b:ByteArray} (h:jr a b=true):a≠b:=fun e=>by rw [e,j0] at h;cases h
theorem Jr {a b:ByteArray} (h:jr a b=true):jr b a=false:=by
 cases h2:jr b a with
 |false=>rfl
 |true=>have:=kH h h2;rw [j0] at this;cases this
def xC (l:List TR):Prop:=l.Pairwise fun a b=>jr a.m b.m=true
def wS (f:ByteArray→Dyadic):List TR→Dyadic
 |[]=>0
 |t::l=>t.c.d*f t.m+wS f l
theorem yL (f:ByteArray→Dyadic) (l k:List TR):wS f (l++k)=wS f l+wS f k:=by
 induction l with
 |nil=>exact (aaI _).symm
 |cons t l ih=>rw [YB,wS,wS,ih,Dyadic.add_assoc]
theorem Px (f:ByteArray→Dyadic) (l:List TR) (t:TR):wS f (l++[t])=wS f l+t.c.d*f t.m:=by
 rw [yL,wS,wS,aaQ]
def jh (l:List TR) (m:ByteArray):Dyadic:=wS (fun k=>if k=m then 1 else 0) l
theorem gk (t:TR) (l:List TR) (m:ByteArray):jh (t::l) m=(if t.m=m then t.c.d else 0)+jh l m:=by
 show t.c.d*(if t.m=m then 1 else 0)+jh l m=_;split
 ·rw [Dyadic.mul_one]
 ·rw [Dyadic.mul_zero]
theorem xu (m:ByteArray):jh [] m=0:=rfl
theorem gN (l k:List TR) (m:ByteArray):jh (l++k) m=jh l m+jh k m:=yL _ _ _
theorem zD {l:List TR}{m:ByteArray} (h:∀t∈l,t.m≠m):jh l m=0:=by
 induction l with
 |nil=>rfl
 |cons t l ih=>rw [gk,Yu (h t YD),ih fun s hs=>h s (YK _ hs),aaI]
structure Canon (l:List TR):Prop where
 uf:xC l
 nz:∀t∈l,t.c.d≠0
 nf:∀t∈l,t.c=nR t.c.d
theorem wX {t:TR}{l:List TR} (h:Canon (t::l)):Canon l:=⟨(Z2.1 h.uf).2,fun s hs=>h.nz s (YK _ hs),fun s hs=>h.nf s (YK _ hs)⟩
theorem yJ {t:TR}{l:List TR}{m:ByteArray} (h:xC (t::l)) (hm:m=t.m∨jr m t.m=true):∀s∈l,s.m≠m:=fun s hs e=>by
 have h1:=(Z2.1 h).1 s hs
 rcases hm with rfl|hm
 ·rw [e,j0] at h1;cases h1
 ·have:=kH hm h1;rw [e,j0] at this;cases this
theorem kI {t:TR}{l:List TR} (h:xC (t::l)):jh (t::l) t.m=t.c.d:=by
 rw [gk,Yt rfl,zD (yJ h (.inl rfl)),aaQ]
theorem yT {t:TR}{l:List TR}{m:ByteArray} (h:xC (t::l)) (hm:jr m t.m=true):jh (t::l) m=0:=by
 rw [gk,Yu (fun e=>Mi hm e.symm),zD (yJ h (.inr hm)),aaI]
theorem CE:∀{l k:List TR},Canon l→Canon k→(∀m,jh l m=jh k m)→l=k
 |[],[],_,_,_=>rfl
 |[],t::k,_,hk,h=>by
  have:=h t.m;rw [kI hk.uf,xu] at this;exact absurd this.symm (hk.nz t YD)
 |t::l,[],hl,_,h=>by
  have:=h t.m;rw [kI hl.uf,xu] at this;exact absurd this (hl.nz t YD)
 |t::l,s::k,hl,hk,h=>by
  have h1:jr t.m s.m=false:=by
   cases hb:jr t.m s.m with
   |false=>rfl
   |true=>
    have:=h t.m;rw [kI hl.uf,yT hk.uf hb] at this;exact absurd this (hl.nz t YD)
  have h2:jr s.m t.m=false:=by
   cases hb:jr s.m t.m with
   |false=>rfl
   |true=>
    have:=h s.m;rw [kI hk.uf,yT hl.uf hb] at this;exact absurd this.symm (hk.nz s YD)
  have em:=o8 h1 h2;have ed:t.c.d=s.c.d:=by
   have:=h t.m;rw [kI hl.uf,em,kI hk.uf] at this;exact this
  have et:t=s:=by
   have a:=hl.nf t YD;have b:=hk.nf s YD;obtain ⟨m1,c1⟩:=t;obtain ⟨m2,c2⟩:=s;simp only at em ed a b;rw [em,a,b,ed]
  subst et;rw [CE (wX hl) (wX hk) fun m=>by
   have:=h m;rw [gk,gk] at this;grind]
def jg:List TR→TR→List TR
 |[],x=>[⟨x.m,nR x.c.d⟩]
 |t::l,x=>if jr t.m x.m=true then t::jg l x else if jr x.m t.m=true then ⟨x.m,nR x.c.d⟩::t::l else ⟨x.m,nR (t.c.d+x.c.d)⟩::l
theorem HJ (f:ByteArray→Dyadic):∀(l:List TR) (x:TR),wS f (jg l x)=wS f l+x.c.d*f x.m
 |[],x=>by
  show (nR x.c.d).d*f x.m+0=0+_;rw [bL,aaQ,aaI]
 |t::l,x=>by
  unfold jg;split
  ·rw [wS,HJ f l x,wS,Dyadic.add_assoc]
  ·split
   ·rw [wS,wS,bL,Dyadic.add_comm]
   ·rename_i h1 h2;have e:t.m=x.m:=o8 (by simpa using h1) (by simpa using h2);rw [wS,wS,bL,e];grind
theorem vr:∀{l:List TR}{x t:TR},t∈jg l x→t∈l∨t.m=x.m
 |[],x,t,h=>.inr (by rw [YT.1 h])
 |s::l,x,t,h=>by
  unfold jg at h;split at h
  ·rcases YH.1 h with rfl|h
   ·exact .inl YD
   ·rcases vr h with h|h
    ·exact .inl (YK _ h)
    ·exact .inr h
  ·split at h
   ·rcases YH.1 h with rfl|h
    ·exact .inr rfl
    ·exact .inl h
   ·rcases YH.1 h with rfl|h
    ·exact .inr rfl
    ·exact .inl (YK _ h)
theorem Cu:∀{l:List TR}{x:TR},xC l→xC (jg l x)
 |[],x,_=>abV _ _
 |s::l,x,h=>by
  have h1:=Z2.1 h;unfold jg;split
  ·rename_i hs;refine Z2.2 ⟨fun t ht=> ?_,Cu h1.2⟩
   rcases vr ht with ht|ht
   ·exact h1.1 t ht
   ·rw [ht];exact hs
  ·split
   ·rename_i hs;refine Z2.2 ⟨fun t ht=> ?_,h⟩
    rcases YH.1 ht with rfl|ht
    ·exact hs
    ·exact kH hs (h1.1 t ht)
   ·rename_i a b;have e:s.m=x.m:=o8 (by simpa using a) (by simpa using b);refine Z2.2 ⟨fun t ht=> ?_,h1.2⟩;show jr x.m t.m=true;rw [←e];exact h1.1 t ht
theorem GX:∀{l:List TR}{x:TR},(∀t∈l,t.c=nR t.c.d)→∀t∈jg l x,t.c=nR t.c.d
 |[],x,_,t,ht=>by rw [YT.1 ht];show nR _=nR (nR _).d;rw [bL]
 |s::l,x,h,t,ht=>by
  unfold jg at ht;split at ht
  ·rcases YH.1 ht with rfl|ht
   ·exact h t YD
   ·exact GX (fun t ht=>h t (YK _ ht)) t ht
  ·split at ht
   ·rcases YH.1 ht with rfl|ht
    ·show nR _=nR (nR _).d;rw [bL]
    ·exact h t ht
   ·rcases YH.1 ht with rfl|ht
    ·show nR _=nR (nR _).d;rw [bL]
    ·exact h t (YK _ ht)
theorem Ew:∀(l:List TR) (x:TR),(jg l x).length≤l.length+1
 |[],x=>YA _
 |s::l,x=>by
  have:=Ew l x;unfold jg;split
  ·rw [Y3,Y3];omega
  ·split<;>simp
theorem GI {k:Nat}:∀{l:List TR}{x:TR},(∀t∈l,Sz k t.c.d)→Sz k x.c.d→∀t∈jg l x,Sz (k+1) t.c.d
 |[],x,_,hx,t,ht=>by rw [YT.1 ht];show Sz _ (nR _).d;rw [bL];exact hx.mono Yo
 |s::l,x,h,hx,t,ht=>by
  unfold jg at ht;split at ht
  ·rcases YH.1 ht with rfl|ht
   ·exact (h t YD).mono Yo
   ·exact GI (fun t ht=>h t (YK _ ht)) hx t ht
  ·split at ht
   ·rcases YH.1 ht with rfl|ht
    ·show Sz _ (nR _).d;rw [bL];exact hx.mono Yo
    ·exact (h t ht).mono Yo
   ·rcases YH.1 ht with rfl|ht
    ·show Sz _ (nR _).d;rw [bL];exact (h s YD).add hx
    ·exact (h t (YK _ ht)).mono Yo
def jx (l:List TR):List TR:=l.foldl jg []
def pO (t:TR):Bool:= !decide (t.c.d=0)
def aU (l:List TR):List TR:=(jx l).filter pO
theorem jt (l:List TR) (x:TR):jx (l++[x])=jg (jx l) x:=by unfold jx;rw [abo];rfl
theorem kt {P:List α→Prop} (h0:P []) (hs:∀l x,P l→P (l++[x])) (l:List α):P l:=by
 have:∀k:List α,P k.reverse:=fun k=>by
  induction k with
  |nil=>exact h0
  |cons x k ih=>rw [aaS];exact hs _ _ ih
 have h:=this l.reverse;rwa [abW] at h
theorem NW (f:ByteArray→Dyadic) (l:List TR):wS f (jx l)=wS f l:=by
 induction l using kt with
 |h0=>rfl
 |hs l x ih=>rw [jt,HJ,ih,Px]
theorem KL (l:List TR):xC (jx l):=by
 induction l using kt with
 |h0=>exact abA
 |hs l x ih=>rw [jt];exact Cu ih
theorem Cs (l:List TR):∀t∈jx l,t.c=nR t.c.d:=by
 induction l using kt with
 |h0=>intro t ht;cases ht
 |hs l x ih=>rw [jt];exact GX ih
theorem y9 (l:List TR):(jx l).length≤l.length:=by
 induction l using kt with
 |h0=>exact YA _
 |hs l x ih=>rw [jt,YE];have:=Ew (jx l) x;simp;omega
theorem Eh (l:List TR) (h:∀t∈l,Sz k t.c.d):∀t∈jx l,Sz (k+l.length) t.c.d:=by
 induction l using kt with
 |h0=>intro t ht;cases ht
 |hs l x ih=>
  rw [jt,YE];exact GI (k:=k+l.length) (ih fun t ht=>h t (Z3 _ ht)) ((h x (by simp)).mono Yo)
theorem Jv (l:List TR):∀t∈jx l,∃s∈l,s.m=t.m:=by
 induction l using kt with
 |h0=>intro t ht;cases ht
 |hs l x ih=>
  rw [jt];intro t ht
  rcases vr ht with ht|ht
  ·obtain ⟨s,hs,e⟩:=ih t ht;exact ⟨s,Z3 _ hs,e⟩
  ·exact ⟨x,by simp,ht.symm⟩
theorem zO (f:ByteArray→Dyadic) (l:List TR):wS f (l.filter pO)=wS f l:=by
 induction l with
 |nil=>rfl
 |cons t l ih=>
  rw [List.filter_cons];by_cases h:t.c.d=0
  ·rw [Yu (by unfold pO;rw [YN h];decide),ih,wS,h,Dyadic.zero_mul,aaI]
  ·rw [Yt (by unfold pO;rw [YS h];rfl),wS,wS,ih]
theorem Jk (f:ByteArray→Dyadic) (l:List TR):wS f (aU l)=wS f l:=(zO f _).trans (NW f l)
theorem tp (l:List TR) (m:ByteArray):jh (aU l) m=jh l m:=Jk _ _
theorem FE {t:TR} (h:pO t=true):t.c.d≠0:=fun e=>by
 unfold pO at h;rw [YN e] at h
 cases h
theorem gR (l:List TR):Canon (aU l):=
 ⟨List.Pairwise.filter _ (KL l),fun t ht=>FE (Z0.1 ht).2,fun t ht=>Cs l t (Z0.1 ht).1⟩
theorem dX (l:List TR):(aU l).length≤l.length:=Y1 (List.length_filter_le _ _) (y9 l)
theorem oU {l:List TR} (h:∀t∈l,Sz k t.c.d):∀t∈aU l,Sz (k+l.length) t.c.d:=fun t ht=>Eh l h t (Z0.1 ht).1
theorem kU {l:List TR}:∀t∈aU l,∃s∈l,s.m=t.m:=fun t ht=>Jv l t (Z0.1 ht).1
theorem r9 {l k:List TR} (h:Canon k) (hc:∀m,jh k m=jh l m):k=aU l:=CE h (gR l) fun m=>by rw [hc,tp]
theorem Bb {l k:List TR} (hc:∀m,jh k m=jh l m):aU k=aU l:=r9 (gR k) fun m=>by rw [tp,hc]
variable {O l:List TR}
def kx (k:Nat) (l:List TR):Prop:=∀t∈l,t.c.ok∧Sz k t.c.d
theorem kx.mono (h:kx k l) (hk:k≤j):kx j l:=fun t ht=>⟨(h t ht).1,(h t ht).2.mono hk⟩
structure MD (k:Nat) (l L:List TR):Prop where
 uf:xC L
 co:∀m,jh L m=jh l m
 len:L.length≤l.length
 ok:kx k L
 mem:∀t∈L,∃s∈l,s.m=t.m
theorem MD.mono {L:List TR} (h:MD k l L) (hk:k≤j):MD j l L:=⟨h.uf,h.co,h.len,h.ok.mono hk,h.mem⟩
theorem MD.self (h:xC l) (hk:kx k l):MD k l l:=⟨h,fun _=>rfl,YA _,hk,fun t ht=>⟨t,ht,rfl⟩⟩
structure Mg (k:Nat) (xs ys O X Y:List TR):Prop where
 ro:xC O
 rx:xC X
 ry:xC Y
 co:∀m,jh O m+(jh X m+jh Y m)=jh xs m+jh ys m
 bx:∀t∈O,∀s∈X,jr t.m s.m=true
 hy:∀t∈O,∀s∈Y,jr t.m s.m=true
 len:O.length+(X.length+Y.length)≤xs.length+ys.length
 oo:kx (k+1) O
 ox:kx k X
 oy:kx k Y
 mo:∀t∈O,∃s∈xs++ys,s.m=t.m
 mx:∀t∈X,t∈xs++ys
 my:∀t∈Y,t∈xs++ys
theorem Mg.start {xs ys:List TR} (hx:xC xs) (hy:xC ys) (ox:kx k xs) (oy:kx k ys):Mg k xs ys [] xs ys:=
 ⟨abA,hx,hy,fun m=>aaI _,fun t ht=>(by cases ht),fun t ht=>(by cases ht),by simp,fun t ht=>(by cases ht),ox,oy,fun t ht=>(by cases ht),fun t ht=>Z3 _ ht,fun t ht=>Zu _ ht⟩
theorem wP {x:TR} (h:xC O) (hx:∀t∈O,jr t.m x.m=true):xC (O++[x]):=
 List.pairwise_append.2 ⟨h,abV _ _,fun t ht s hs=>by rw [YT.1 hs];exact hx t ht⟩
theorem u6 (x:TR) (m:ByteArray):jh [x] m=if x.m=m then x.c.d else 0:=by rw [gk,xu,aaQ]
theorem g7 {P:α→Prop}{O:List α}{x:α} (h:∀t∈O,P t) (hx:P x):∀t∈O++[x],P t:=fun t ht=>by
 rcases Zm.1 ht with ht|ht
 ·exact h t ht
 ·rw [YT.1 ht];exact hx
theorem Mg.left {xs ys X Y:List TR}{x y:TR} (h:Mg k xs ys O (x::X) (y::Y)) (hl:jr x.m y.m=true):Mg k xs ys (O++[x]) X (y::Y):=by
 obtain ⟨ro,rx,ry,co,bx,hby,len,oo,ox,oy,mo,mx,my⟩:=h;have r1:=Z2.1 rx;have r2:=Z2.1 ry;refine ⟨wP ro fun t ht=>bx t ht x YD,r1.2,ry,fun m=> ?_,g7 (fun t ht s hs=>bx t ht s (YK _ hs)) fun s hs=>r1.1 s hs,g7 hby fun s hs=> ?_,by simp at len ⊢;omega,g7 oo ⟨(ox x YD).1,(ox x YD).2.mono Yo⟩,fun t ht=>ox t (YK _ ht),oy,g7 mo ⟨x,mx x YD,rfl⟩,fun t ht=>mx t (YK _ ht),my⟩
 ·have:=co m;rw [gk x X] at this;rw [gN,u6];grind
 ·rcases YH.1 hs with rfl|hs
  ·exact hl
  ·exact kH hl (r2.1 s hs)
theorem Mg.right {xs ys X Y:List TR}{x y:TR} (h:Mg k xs ys O (x::X) (y::Y)) (hl:jr y.m x.m=true):Mg k xs ys (O++[y]) (x::X) Y:=by
 obtain ⟨ro,rx,ry,co,bx,hby,len,oo,ox,oy,mo,mx,my⟩:=h;have r1:=Z2.1 rx;have r2:=Z2.1 ry;refine ⟨wP ro fun t ht=>hby t ht y YD,rx,r2.2,fun m=> ?_,g7 bx fun s hs=> ?_,g7 (fun t ht s hs=>hby t ht s (YK _ hs)) fun s hs=>r2.1 s hs,by simp at len ⊢;omega,g7 oo ⟨(oy y YD).1,(oy y YD).2.mono Yo⟩,ox,fun t ht=>oy t (YK _ ht),g7 mo ⟨y,my y YD,rfl⟩,mx,fun t ht=>my t (YK _ ht)⟩
 ·have:=co m;rw [gk y Y] at this;rw [gN,u6];grind
 ·rcases YH.1 hs with rfl|hs
  ·exact hl
  ·exact kH hl (r1.1 s hs)
theorem Mg.both {xs ys X Y:List TR}{x y:TR} (h:Mg k xs ys O (x::X) (y::Y)) (h1:jr x.m y.m=false) (h2:jr y.m x.m=false) (hk:k≤3999980):Mg k xs ys (O++[⟨x.m,nR (x.c.d+y.c.d)⟩]) X Y:=by
 obtain ⟨ro,rx,ry,co,bx,hby,len,oo,ox,oy,mo,mx,my⟩:=h;have r1:=Z2.1 rx;have r2:=Z2.1 ry;have e:=o8 h1 h2;have hz:=(ox x YD).2.add (oy y YD).2;refine ⟨wP ro fun t ht=>bx t ht x YD,r1.2,r2.2,fun m=> ?_,g7 (fun t ht s hs=>bx t ht s (YK _ hs)) fun s hs=>r1.1 s hs,g7 (fun t ht s hs=>hby t ht s (YK _ hs)) fun s hs=> ?_,by simp at len ⊢;omega,g7 oo ⟨hz.ok Yo, ?_⟩,fun t ht=>ox t (YK _ ht),fun t ht=>oy t (YK _ ht),g7 mo ⟨x,mx x YD,rfl⟩,fun t ht=>mx t (YK _ ht),fun t ht=>my t (YK _ ht)⟩
 ·have:=co m;rw [gk y Y,gk x X,←e] at this;rw [gN,u6];show jh O m+(if x.m=m then (nR (x.c.d+y.c.d)).d else 0)+(jh X m+jh Y m)=_;rw [bL];grind
 ·show jr x.m s.m=true;rw [e];exact r2.1 s hs
 ·show Sz _ (nR _).d;rw [bL];exact hz
theorem Mg.done {xs ys X Y:List TR} (h:Mg k xs ys O X Y) (hd:X=[]∨Y=[]):MD (k+1) (xs++ys) (O++X++Y):=by
 obtain ⟨ro,rx,ry,co,bx,hby,len,oo,ox,oy,mo,mx,my⟩:=h;refine ⟨?_,fun m=> ?_,by simp at len ⊢;omega,fun t ht=> ?_,fun t ht=> ?_⟩
 ·rw [Y5];refine List.pairwise_append.2 ⟨ro, ?_,fun t ht s hs=> ?_⟩
  ·rcases hd with rfl|rfl
   ·exact ry
   ·rw [Y7];exact rx
  ·rcases Zm.1 hs with hs|hs
   ·exact bx t ht s hs
   ·exact hby t ht s hs
 ·rw [gN,gN,gN,Dyadic.add_assoc];exact co m
 ·rcases Zm.1 ht with ht|ht
  ·rcases Zm.1 ht with ht|ht
   ·exact oo t ht
   ·exact ⟨(ox t ht).1,(ox t ht).2.mono Yo⟩
  ·exact ⟨(oy t ht).1,(oy t ht).2.mono Yo⟩
 ·rcases Zm.1 ht with ht|ht
  ·rcases Zm.1 ht with ht|ht
   ·exact mo t ht
   ·exact ⟨t,mx t ht,rfl⟩
  ·exact ⟨t,my t ht,rfl⟩
theorem MD.aU {k:Nat}{l L:List TR} (h:MD k l L):((L.filter pO).map fun t=>(⟨t.m,nR t.c.d⟩:TR))=aU l:=by
 refine r9 ⟨?_,fun t ht=> ?_,fun t ht=> ?_⟩ fun m=> ?_
 ·exact List.Pairwise.map _ (fun a b hab=>hab) (List.Pairwise.filter _ h.uf)
 ·obtain ⟨s,hs,rfl⟩:=YF.1 ht;show (nR s.c.d).d≠0;rw [bL];exact FE (Z0.1 hs).2
 ·obtain ⟨s,hs,rfl⟩:=YF.1 ht;show nR s.c.d=nR (nR s.c.d).d;rw [bL]
 ·have e:∀(f:ByteArray→Dyadic) (k:List TR),wS f (k.map fun t=>(⟨t.m,nR t.c.d⟩:TR))=wS f k:=fun f k=>by
   induction k with
   |nil=>rfl
   |cons t k ih=>rw [Y6,wS,wS,ih];show (nR t.c.d).d*f t.m+_=_;rw [bL]
  show wS _ _=_;rw [e,zO];exact h.co m
theorem zv (h:l.length<2):xC l:=by
 match l,h with
 |[],_=>exact abA
 |[x],_=>exact abV _ _
section
variable {ro:Mode}
section
variable {P:Program}{N:Nat}{ops:Array Oper}{Q:Kq}{ρ:Rf}{w w0:World}{rest:List Oper}{H:List HE}{d:Nat}{ty:TypeId}{pos:String}{af:Array Edge}
theorem OZ (hh:Hp w0 H w) {t e:TypeId}{l cp:Operand}{kl kc:IntKind}{L C:Int}{sz:Nat} (hl:ev ρ l=.int kl L) (hc:ev ρ cp=.int kc C) (hL:L=0) (hC:C=(n:Int))
  (ht:P.underlying t=some (.slice e)) (hte:eu P e=some (sz,ag,by',zc)) (hb:by'*n≤281474976710656) (h63:n≤9223372036854775807) (hN:d<N)
  (k:∀b w',Hp w0 (.row (some ⟨b,0,none⟩) 0 n e sz []::H) w'→WL ro P N ops Q rest (cP ρ d (.slice (some ⟨b,0,none⟩) 0 n)) w'):
  WL ro P N ops Q (⟨some d,.makeSlice t l cp,ty,pos,af,none⟩::rest) ρ w:=by
 obtain ⟨i,z,dd,hi,hd,hz,hs,hby,hzc,_⟩:=gW hte;subst hL;subst hC;subst hs;have hr:=run_make (P:=P) w t e i z ht hi hz kl kc 0 n (Int.le_refl _) Yo (by rw [hby,←ZB];omega) Yo;simp only [ZY,Int.toNat_zero] at hr;refine aV rfl rfl hN (w':=w.alloc (.cells (madeCells z.cells (n*i.size)) e)) (v:=.slice (some ⟨w.heap.size,0,none⟩) 0 n) ?_ (k _ _ (hh.aP (show Below w.heap.size w (w.alloc (.cells (madeCells z.cells (n*i.size)) e)) from ⟨rfl,rfl,rfl,(World.grownBy_alloc w _ none).size,fun j hj=>(World.grownBy_alloc w _ none).block j hj (by simp)⟩) ?_))
 ·simp [execOp,hl,hc,hr]
 ·exact ⟨by simp,.inr ⟨w.heap.size,n,madeCells z.cells (n*i.size),rfl,YA _,heap_alloc_new w _,Yx _,by unfold maxLen;omega,size_madeCells _ _,by simp⟩⟩
end
def lY (n sz:Nat) (cs:List Value):VP:=fun v W=>∃g:Nat,v=.slice (some ⟨g,0,none⟩) n n∧Sl W (some ⟨g,0,none⟩) n sz cs
theorem lY.ext {sz:Nat} (v:Value) (w w':World) (h:lY n sz cs v w) (hb:Below w.heap.size w w'):lY n sz cs v w':=let ⟨g,h1,h2⟩:=h;⟨g,h1,h2.ext hb⟩
section
variable {P:Program}{ρ:Rf}{w:World}
theorem Qh {d:Option Nat}{ty:TypeId}{af:Array Edge}{t e:TypeId}{l cp:Operand}{kl kc:IntKind}{L C:Int}{sz:Nat} (hl:ev ρ l=.int kl L) (hc:ev ρ cp=.int kc C) (hL:L=(n:Int)) (hC:C=(n:Int))
  (ht:P.underlying t=some (.slice e)) (hte:eu P e=some (sz,ag,by',zc)) (hzl:zc.length=sz) (hb:by'*n≤281474976710656) (h63:n≤9223372036854775807)
  (hk:∀v w2,lY n sz (iK n zc) v w2→Below w.heap.size w w2→K v w2):OG P ops ⟨d,.makeSlice t l cp,ty,pos,af,none⟩ ρ w K:=by
 obtain ⟨i,z,dd,hi,hd,hz,hs,hby,hzc,_⟩:=gW hte;subst hL;subst hC;obtain ⟨w',hr,hown,hg⟩:=run_make_full (P:=P) w w.heap.size t e i z sz ht hi hz hs kl kc n (by rw [hby];exact hb) (by unfold maxLen;omega) (YA _);have hzz:(madeCells z.cells (n*sz)).toList=iK n zc:=by
  exact RI
 rw [hzz] at hown;exact fI rfl (w':=w') (v:=.slice (some ⟨w.heap.size,0,none⟩) n n) (by simp [execOp,hl,hc,hr]) (hk _ _ ⟨w.heap.size,rfl,lz hown⟩ ⟨hg.os,hg.tape,hg.output,hg.size,fun j hj=>hg.block j hj (by simp)⟩)
theorem we (n:Nat):iK n [.int .u8 0]=nB (List.replicate n 0):=by
 induction n with
 |zero=>rfl
 |succ n ih=>rw [iK,ih,aaT];rfl
end
end
theorem Hu (a:ByteArray):a.toList=a.data.toList:=by
 have key:∀s:ByteArray,s.toList=s.data.toList:=fun s=>by
  exact Vt
 exact key a
theorem ml (a b:ByteArray):Op.bytesLess a.toList b.toList=jr a b:=by rw [Hu,Hu];rfl
theorem PQ (a b:ByteArray):(!(Op.bytesLess a.toList b.toList||a.toList==b.toList))=jr b a:=by
 rw [ml,Oh]
 cases h1:jr a b with
 |true=>rw [Jr h1];rfl
 |false=>
  cases h2:jr b a with
  |true=>rw [YS (fun e=>Mi h2 e.symm)];rfl
  |false=>rw [YN (o8 h1 h2)];rfl
def OB (x y:TR):Int:=if jr x.m y.m=true then -1 else if jr y.m x.m=true then 1 else 0
theorem Ff (x y:TR) (w:World):Calls Tryz.prog 223 #[.agg #[.string x.m,.bool x.c.neg,.string x.c.aY,.int .i64 x.c.e],.agg #[.string y.m,.bool y.c.neg,.string y.c.aY,.int .i64 y.c.e]] w fun r w'=>r=.returned (.int .i64 (OB x y))∧Below w.heap.size w w':=by
 have hh:=Hp.start w;refine aj (N:=17) (l:=[.agg #[.string x.m,.bool x.c.neg,.string x.c.aY,.int .i64 x.c.e],.agg #[.string y.m,.bool y.c.neg,.string y.c.aY,.int .i64 y.c.e]]) Tryz.func223 rfl rfl (by simp) ?_;refine sr ?_;refine bO hh [_,_,_,_] ?_;intro b2 w2 hh;refine bO hh [_,_,_,_] ?_;intro b3 w3 hh;refine wy ?_;refine bp hh 1 ?_;refine bo ?_;refine bp hh 0 ?_;refine se rfl rfl Yp ?_;refine aB (aa ?_);rw [ml];unfold OB
 cases h1:jr x.m y.m with
 |true=>
  refine cT (sr (aI (aa (av (bU (aF ?_))))));refine dH ?_;exact ⟨rfl,hh.below⟩
 |false=>
  refine cF (sr (bo ?_));refine bp hh 1 ?_;refine bo ?_;refine bp hh 0 ?_;refine Ki rfl rfl Yp ?_;refine aB (aa ?_);rw [PQ]
  cases h2:jr y.m x.m with
  |true=>
   refine cT (sr (aI (aa (av (bU (aF ?_))))));refine dH ?_;exact ⟨rfl,hh.below⟩
  |false=>
   refine cF (aq (bz (ai (sr (aI (aa (av ?_)))))));refine dH ?_;exact ⟨rfl,hh.below⟩
theorem KD (x y:TR) (k:Nat) (w:World) (hT:dP w) (hx:x.c.ok∧Sz k x.c.d) (hy:y.c.ok∧Sz k y.c.d) (hk:k≤3999980):Calls Tryz.prog 224 #[.agg #[.string x.m,.bool x.c.neg,.string x.c.aY,.int .i64 x.c.e],.agg #[.string y.m,.bool y.c.neg,.string y.c.aY,.int .i64 y.c.e]] w fun r w'=>r=.returned (.agg #[.string x.m,.bool (nR (x.c.d+y.c.d)).neg,.string (nR (x.c.d+y.c.d)).aY,.int .i64 (nR (x.c.d+y.c.d)).e])∧Below w.heap.size w w':=by
 have hh:=Hp.start w;have hsum:=fun A cc w1 hT1 hS1=>iH A 2 cc [x.c,y.c] w1 hT1 hS1 (by simpa using ⟨hx.1,hy.1⟩) k (by simpa using ⟨hx.2,hy.2⟩) Yo;rw [show nt ([x.c,y.c].map NR.d)=x.c.d+y.c.d by simp only [Y6,Zv,ki]] at hsum;refine aj (N:=14) (l:=[.agg #[.string x.m,.bool x.c.neg,.string x.c.aY,.int .i64 x.c.e],.agg #[.string y.m,.bool y.c.neg,.string y.c.aY,.int .i64 y.c.e]]) Tryz.func224 rfl rfl (by simp) ?_;refine sr ?_;refine bO hh [_,_,_,_] ?_;intro b2 w2 hh;refine bO hh [_,_,_,_] ?_;intro b3 w3 hh;refine bC hh ?_;intro b4 w4 hh;refine aa (ah ?_);refine aK 8 [[(2,none)],[(5,some 0)],[(2,none)],[(7,some 2)],[(3,none)],[(9,some 4)],[(8,some 3),(10,some 5)],[(11,some 6)]] [(7,12),(6,11),(5,10),(4,9),(3,8),(2,7),(1,6),(0,5)] hh mixed Yq ?_;refine dR ?_;refine fW 2 ?_;refine dR ?_;refine dK 2 [_,_,_] ?_;refine dR ?_;refine dK 1 [_,_,_] ?_;refine x3 [_,_,_,_,_,_] ?_;refine a7 (i:=7) (Is (.agg #[.bool (nR (x.c.d+y.c.d)).neg,.string (nR (x.c.d+y.c.d)).aY,.int .i64 (nR (x.c.d+y.c.d)).e])) Is.ext ?_ ?_
 ·intro ρ1 w1 hj hR;obtain ⟨A11,c11,h11,s11⟩:=hR.1;exact bV rfl (bf au.out (aC h11 bh)) (hsum A11 c11 _ (hT.hp hj.hp) s11) (fun _ _ hq=>⟨_,hq.1,hq.2,rfl⟩)
 refine aH ?_;intro f W hJ hV;have hb_1:=hJ.bl;obtain ⟨v12,v11,v10,v9,v8,v7,v6,v5,_⟩:=hV;obtain ⟨A11,c11,e11,f11⟩:Rows _ _ _ (f 6) W:=v11;replace hh:=hJ.hp;refine aN (a6 (ae v12 (ae e11 (ae v10 (ae v9 (ae v8 (ae v7 (ae v6 (ae v5 aO))))))))) ?_;dsimp only [bP];clear e11 hJ;refine fe [_,_,_,_] ?_;refine bg hh 0 [_,_,_,_] ?_;intro ws hh;replace hh:Hp _ (.blk _ _ [_,_,_,_] _::_) _:=hh;refine aa (av ?_);refine JN (cj rfl (cf (vs:=[_,_,_,_]) aJ.out (hh.aQ (i:=0) (n:=4) rfl rfl) rfl) dw) ?_;exact ⟨rfl,hh.below⟩
variable {c:Nat}
theorem Sl.tail {A:Option Addr}{x:TR}{X:List TR} (h:Sl w A n 4 (aA TR.cells (x::X))) (h0:0<n) (hc:n≤c):Sl w (if c=1 then A else A.map (·.add (1*4))) (n-1) 4 (aA TR.cells X):=by
 have:=h.back (l:=1) Yo hc;rw [show (aA TR.cells (x::X)).drop (1*4)=aA TR.cells X from iS TR.len (x::X) 1] at this;exact this
theorem ru (A:Option Addr) (n c:Nat) (xs:List TR) (B:Option Addr) (m c2:Nat) (ys:List TR) (k:Nat) (w:World) (hT:dP w) (hS:Sl w A n 4 (aA TR.cells xs)) (hS2:Sl w B m 4 (aA TR.cells ys)) (hc:n≤c) (hc2:m≤c2) (hn:n≤1000000) (hm:m≤1000000) (hk:k≤3999980)
  (rx:xC xs) (ry:xC ys) (ox:kx k xs) (oy:kx k ys):
  Calls Tryz.prog 222 #[.slice A n c,.slice B m c2,.func (.func 223) #[] #[],.func (.func 224) #[] #[]] w fun r w'=>∃(L:List TR) (A':Option Addr) (c':Nat),MD (k+1) (xs++ys) L∧r=.returned (.slice A' L.length c')∧Hp w [.row A' L.length c' 95 4 (aA TR.cells L)] w':=by
 have hh:=Hp.start w;have hlx:=hS.bk TR.len Yp;have hly:=hS2.bk TR.len Yp;have hnx:xs.length≤1000000:=Yo;have hny:ys.length≤1000000:=Yo;refine aj (N:=75) (l:=[.slice A n c,.slice B m c2,.func (.func 223) #[] #[],.func (.func 224) #[] #[]]) Tryz.func222 rfl rfl (by simp) ?_;refine sr (aL (aa (sr (mL (aM (mL (aM ?_)))))));refine a8 ?_;refine OZ (n:=(n+m)) hh rfl rfl Yo Yo bG.out aJ.out Yo Yo Yp ?_;intro b16 w16 hh;refine aL (aa (ah (ar ?_)));refine u1 [0,1,9,10,17,18,19,20,21,22,23,24,25,26,27,28,29,30,31,32,33,34,35,36,37,38,39,40,41,42,43,44,45,46,47,48,49,50,51,52,53,54,55,56,57,58,59,60,61,62,63,64,65,66,67,68,69] 0 1 9
  (fun va vb vo w'=>∃(A:Option Addr) (n c:Nat) (X:List TR) (B:Option Addr) (m c2:Nat) (Y:List TR) (O:List TR) (C:Option Addr) (co:Nat),va=.slice A n c∧vb=.slice B m c2∧vo=.slice C O.length co∧n≤c∧m≤c2∧Sl w A n 4 (aA TR.cells X)∧Sl w B m 4 (aA TR.cells Y)∧Mg k xs ys O X Y∧Hp w [.row C O.length co 95 4 (aA TR.cells O)] w')
  (fun va vb _ _=>lenOf va+lenOf vb) ?_ ?_
 ·exact ⟨A,n,c,xs,B,m,c2,ys,[],some ⟨b16,0,none⟩,n+m,rfl,rfl,rfl,hc,hc2,hS,hS2,Mg.start rx ry ox oy,hh⟩
 ·clear hh hS hS2 hlx hly hc hc2 hn hm;rintro ρ' va vb vo w' ⟨A,n,c,X,B,m,c2,Y,O,C,co,rfl,rfl,rfl,hc,hc2,hS,hS2,hmg,hh⟩;have hX:=hS.bk TR.len Yp;have hY:=hS2.bk TR.len Yp;have hlen:=hmg.len;have oX:=bK TR.one X;have oY:=bK TR.one Y;by_cases hn:n=0
  ·refine ah (sr (mL (aM ?_)));refine bT (mB ?_);refine gS (gS (gS ?_));refine fK ?_;refine aa (cF (aX (aE (aE (bA (ai (sr (mL (mL ?_)))))))));refine cu hh (i:=0) rfl rfl rfl (hS.ext hh.below) bG.out aJ.out rfl Yp ?one3 Yo Yo Yp ?kk3
   case one3=>first|rfl|assumption|exact bI _|exact oneCells_u8s _
   intro A72 c72 w72 hh;simp only [YG] at hh;refine mL ?_;refine cu hh (i:=0) rfl rfl rfl (hS2.ext hh.below) bG.out aJ.out rfl Yp ?one4 Yo Yo Yp ?kk4
   case one4=>first|rfl|assumption|exact bI _|exact oneCells_u8s _
   intro A74 c74 w74 hh;simp only [YG] at hh;refine aL (aa (av ?_));refine dH ?_;have hd:=hmg.done (.inl (aai Yo));exact Vk
  ·by_cases hm:m=0
   ·refine ah (sr (mL (aM ?_)));refine bT (mB (gT (mL (gT (aM (gT ?_))))));refine bT ?_;refine gi ?_;refine aa (cF (aX (aE (aE (bA (ai (sr (mL (mL ?_)))))))));refine cu hh (i:=0) rfl rfl rfl (hS.ext hh.below) bG.out aJ.out rfl Yp ?one5 Yo Yo Yp ?kk5
    case one5=>first|rfl|assumption|exact bI _|exact oneCells_u8s _
    intro A72 c72 w72 hh;simp only [YG] at hh;refine mL ?_;refine cu hh (i:=0) rfl rfl rfl (hS2.ext hh.below) bG.out aJ.out rfl Yp ?one6 Yo Yo Yp ?kk6
    case one6=>first|rfl|assumption|exact bI _|exact oneCells_u8s _
    intro A74 c74 w74 hh;simp only [YG] at hh;refine aL (aa (av ?_));refine dH ?_;have hd:=hmg.done (.inr (aai Yo));exact Vk
   ·obtain ⟨x,X,rfl⟩:∃x X',X=x::X':=by cases X with
     |nil=>exact absurd hX.symm hn
     |cons x X'=>exact ⟨x,X',rfl⟩
    obtain ⟨y,Y,rfl⟩:∃y Y',Y=y::Y':=by cases Y with
     |nil=>exact absurd hY.symm hm
     |cons y Y'=>exact ⟨y,Y',rfl⟩
    obtain ⟨ad,rfl,hr⟩:=hS.at_ Yo;obtain ⟨ad2,rfl,hr2⟩:=hS2.at_ Yo;have hxx:(x::X)[0]?=some x:=rfl;have hyy:(y::Y)[0]?=some y:=rfl;have hSt:=hS.tail Yo hc;have hSt2:=hS2.tail Yo hc2;have hsd:=fun w1=>Ff x y w1;unfold OB at hsd
    cases h1:jr x.m y.m with
    |true=>
     rw [h1,Yt rfl] at hsd;refine ah (sr (mL (aM ?_)));refine bT (mB (gT (mL (gT (aM (gT ?_))))));refine bT ?_;refine gi ?_;refine aa (cT (aq (ai (ar (ah ?_)))));refine Nv ?_;refine PJ ?_;refine gI ?_;refine np (0) ?_;refine pW [_,_,_,_] (fun _ hj=>(hr.ext hj.hp.below).recAt TR.len hxx) ?_;refine gI ?_;refine np (0) ?_;refine pW [_,_,_,_] (fun _ hj=>(hr2.ext hj.hp.below).recAt TR.len hyy) ?_;refine aH ?_;intro f W hJ hV;have hb_3:=hJ.bl;obtain ⟨v31,v30,v29,v28,v27,v26,v25,_⟩:=hV;replace hh:=hJ.hp;refine La ?_;dsimp only [bP];clear hJ;refine gU (hsd _) au.out rfl rfl Yp ?_;rintro e_ w32 ⟨rfl,hb_⟩;refine ⟨_,rfl, ?_⟩;replace hh:=hh.ext hb_;refine aI (aa (ar (sr (mI ?_))));refine a9 (aB (aa (cT ?_)));refine rU hh mixed fun w_ hj_=> ?_;replace hh:=hj_.hp;clear hj_;refine dh (i:=6) (by repeat (first|exact cz|refine bR ?_|refine cG ?_|refine np_scope ?_)) rfl Yq Yq Yq (fun _=>fV rfl) Yp ?_;refine dh (i:=7) (by repeat (first|exact cz|refine bR ?_|refine cG ?_|refine np_scope ?_)) rfl Yq Yq Yq (fun _=>gZ (l:=1) bG.out aJ.size rfl rfl Yo Yo Yo) Yp ?_
     refine dh (i:=0) (by repeat (first|exact cz|refine bR ?_|refine cG ?_|refine np_scope ?_)) rfl Yq Yq Yq (fun _=>fV rfl) Yp ?_;refine dh (i:=1) (by repeat (first|exact cz|refine bR ?_|refine cG ?_|refine np_scope ?_)) rfl Yq Yq Yq (fun _=>fV rfl) Yp ?_;refine dh (i:=2) (by repeat (first|exact cz|refine bR ?_|refine cG ?_|refine np_scope ?_)) rfl Yq Yq Yq (fun _=>ju (k:=0) bG.out aJ.size rfl rfl Yo Yo) Yp ?_;refine fC (i:=3) Yq rfl ?_;refine Nk ?_;refine eA ?_;refine fC (i:=4) Yq rfl ?_;refine D6 ?_;intro b55 w55 hh;refine eA ?_;refine fC (i:=5) Yq rfl ?_;refine pB ?_;intro A56 c56 w56 hh;simp only [YG,Y8] at hh;replace hh:=hh.sub (Zc _ _);refine eA ?_;refine MW ?_;refine aL (aL (aD (bz (bz (ai ?_)))));replace hh:=hh.sub (Yv _ YR);refine ⟨⟨_,n-1,c-1,X,some ad2,m,c2,y::Y,O++[x],A56,c56,rfl,rfl, ?_,Yo,hc2,hSt,hS2,hmg.left h1, ?_⟩,by show (n-1)+m<n+m;omega, ?_⟩
     ·show Value.slice _ (O.length+1) _=Value.slice _ (O++[x]).length _;rw [YE]
      rfl
     ·rw [YE,bM];exact hh
     ·exact er
    |false=>
     cases h2:jr y.m x.m with
     |true=>
      rw [h1,h2,Yu Yp,Yt rfl] at hsd;refine ah (sr (mL (aM ?_)));refine bT (mB (gT (mL (gT (aM (gT ?_))))));refine bT ?_;refine gi ?_;refine aa (cT (aq (ai (ar (ah ?_)))));refine Nv ?_;refine PJ ?_;refine gI ?_;refine np (0) ?_;refine pW [_,_,_,_] (fun _ hj=>(hr.ext hj.hp.below).recAt TR.len hxx) ?_;refine gI ?_;refine np (0) ?_;refine pW [_,_,_,_] (fun _ hj=>(hr2.ext hj.hp.below).recAt TR.len hyy) ?_;refine aH ?_;intro f W hJ hV;have hb_3:=hJ.bl;obtain ⟨v31,v30,v29,v28,v27,v26,v25,_⟩:=hV;replace hh:=hJ.hp;refine La ?_;dsimp only [bP];clear hJ;refine gU (hsd _) au.out rfl rfl Yp ?_;rintro e_ w32 ⟨rfl,hb_⟩;refine ⟨_,rfl, ?_⟩;replace hh:=hh.ext hb_;refine aI (aa (ar (sr (mI ?_))));refine a9 (aB (aa (cF (sr (mI ?_)))));refine bT (aB (aa (cT ?_)));refine rU hh mixed fun w_ hj_=> ?_;replace hh:=hj_.hp;clear hj_;refine dh (i:=6) (by repeat (first|exact cz|refine bR ?_|refine cG ?_|refine np_scope ?_)) rfl Yq Yq Yq (fun _=>fV rfl) Yp ?_;refine dh (i:=7) (by repeat (first|exact cz|refine bR ?_|refine cG ?_|refine np_scope ?_)) rfl Yq Yq Yq (fun _=>gZ (l:=1) bG.out aJ.size rfl rfl Yo Yo Yo) Yp ?_
      refine dh (i:=0) (by repeat (first|exact cz|refine bR ?_|refine cG ?_|refine np_scope ?_)) rfl Yq Yq Yq (fun _=>fV rfl) Yp ?_;refine dh (i:=1) (by repeat (first|exact cz|refine bR ?_|refine cG ?_|refine np_scope ?_)) rfl Yq Yq Yq (fun _=>fV rfl) Yp ?_;refine dh (i:=2) (by repeat (first|exact cz|refine bR ?_|refine cG ?_|refine np_scope ?_)) rfl Yq Yq Yq (fun _=>ju (k:=0) bG.out aJ.size rfl rfl Yo Yo) Yp ?_;refine fC (i:=3) Yq rfl ?_;refine OE ?_;refine eA ?_;refine fC (i:=4) Yq rfl ?_;refine D6 ?_;intro b66 w66 hh;refine eA ?_;refine fC (i:=5) Yq rfl ?_;refine pB ?_;intro A67 c67 w67 hh;simp only [YG,Y8] at hh;replace hh:=hh.sub (Zc _ _);refine eA ?_;refine MW ?_;refine aL (aL (aD (bz (bz (ai ?_)))));replace hh:=hh.sub (Yv _ YR);refine ⟨⟨some ad,n,c,x::X,_,m-1,c2-1,Y,O++[y],A67,c67,rfl,rfl, ?_,hc,Yo,hS,hSt2,hmg.right h2, ?_⟩,by show n+(m-1)<n+m;omega, ?_⟩
      ·show Value.slice _ (O.length+1) _=Value.slice _ (O++[y]).length _;rw [YE]
       rfl
      ·rw [YE,bM];exact hh
      ·exact er
     |false=>
      rw [h1,h2,Yu Yp,Yu Yp] at hsd;have hsm:=fun w1 hT1=>KD x y k w1 hT1 (hmg.ox x YD) (hmg.oy y YD) hk;refine ah (sr (mL (aM ?_)));refine bT (mB (gT (mL (gT (aM (gT ?_))))));refine bT ?_;refine gi ?_;refine aa (cT (aq (ai (ar (ah ?_)))));refine Nv ?_;refine PJ ?_;refine gI ?_;refine np (0) ?_;refine pW [_,_,_,_] (fun _ hj=>(hr.ext hj.hp.below).recAt TR.len hxx) ?_;refine gI ?_;refine np (0) ?_;refine pW [_,_,_,_] (fun _ hj=>(hr2.ext hj.hp.below).recAt TR.len hyy) ?_;refine aH ?_;intro f W hJ hV;have hb_3:=hJ.bl;obtain ⟨v31,v30,v29,v28,v27,v26,v25,_⟩:=hV;replace hh:=hJ.hp;refine La ?_;dsimp only [bP];clear hJ;refine gU (hsd _) au.out rfl rfl Yp ?_;rintro e_ w32 ⟨rfl,hb_⟩;refine ⟨_,rfl, ?_⟩;replace hh:=hh.ext hb_;refine aI (aa (ar (sr (mI ?_))));refine a9 (aB (aa (cF (sr (mI ?_)))));refine bT (aB (aa (cF ?_)));refine rU hh mixed fun w_ hj_=> ?_;replace hh:=hj_.hp;clear hj_;refine dh (i:=11) (by repeat (first|exact cz|refine bR ?_|refine cG ?_|refine np_scope ?_)) rfl Yq Yq Yq (fun _=>fV rfl) Yp ?_
      refine dh (i:=12) (by repeat (first|exact cz|refine bR ?_|refine cG ?_|refine np_scope ?_)) rfl Yq Yq Yq (fun _=>gZ (l:=1) bG.out aJ.size rfl rfl Yo Yo Yo) Yp ?_;refine dh (i:=13) (by repeat (first|exact cz|refine bR ?_|refine cG ?_|refine np_scope ?_)) rfl Yq Yq Yq (fun _=>fV rfl) Yp ?_;refine dh (i:=14) (by repeat (first|exact cz|refine bR ?_|refine cG ?_|refine np_scope ?_)) rfl Yq Yq Yq (fun _=>gZ (l:=1) bG.out aJ.size rfl rfl Yo Yo Yo) Yp ?_;refine dh (i:=0) (by repeat (first|exact cz|refine bR ?_|refine cG ?_|refine np_scope ?_)) rfl Yq Yq Yq (fun _=>fV rfl) Yp ?_;refine dh (i:=1) (by repeat (first|exact cz|refine bR ?_|refine cG ?_|refine np_scope ?_)) rfl Yq Yq Yq (fun _=>fV rfl) Yp ?_;refine dh (i:=2) (by repeat (first|exact cz|refine bR ?_|refine cG ?_|refine np_scope ?_)) rfl Yq Yq Yq (fun _=>fV rfl) Yp ?_;refine dh (i:=3) (by repeat (first|exact cz|refine bR ?_|refine cG ?_|refine np_scope ?_)) rfl Yq Yq Yq (fun _=>ju (k:=0) bG.out aJ.size rfl rfl Yo Yo) Yp ?_
      refine dh (i:=5) (by repeat (first|exact cz|refine bR ?_|refine cG ?_|refine np_scope ?_)) rfl Yq Yq Yq (fun _=>fV rfl) Yp ?_;refine dh (i:=6) (by repeat (first|exact cz|refine bR ?_|refine cG ?_|refine np_scope ?_)) rfl Yq Yq Yq (fun _=>ju (k:=0) bG.out aJ.size rfl rfl Yo Yo) Yp ?_;refine xg (i:=4) (i2:=7) Yq rfl rfl ?_ ?_
      ·refine Nk ?_;refine eA ?_;refine fC (i:=7) Yq rfl ?_;refine OE ?_;exact Rm
      ·refine OE ?_;refine eA ?_;refine fC (i:=4) Yq rfl ?_;refine Nk ?_;exact Rm
variable {k1 k2:Nat}
structure RX where
 A:Option Addr
 n:Nat
 c:Nat
 ts:List TR
def lX (k:Nat) (l:List TR):VP:=fun v W=>∃g:RX,v=.slice g.A g.n g.c∧(g.n≤g.c∧g.ts.length=g.n∧MD k l g.ts∧Sl W g.A g.n 4 (aA TR.cells g.ts))
theorem lX.ext (v:Value) (w w':World) (h:lX k l v w) (hb:Below w.heap.size w w'):lX k l v w':=let ⟨g,h1,h2,h3,h4,h5⟩:=h;⟨g,h1,h2,h3,h4,h5.ext hb⟩
theorem MD.Mf {l1 l2 L1 L2 L:List TR} (h1:MD k1 l1 L1) (h2:MD k2 l2 L2) (h:MD k (L1++L2) L) (hk:k≤j):MD j (l1++l2) L:=
 ⟨h.uf,fun m=>by rw [h.co,gN,h1.co,h2.co,gN],by have a:=h.len;have b:=h1.len;have c:=h2.len;rw [YE] at a ⊢;omega,h.ok.mono hk,fun t ht=>by
  obtain ⟨s,hs,e⟩:=h.mem t ht
  rcases Zm.1 hs with hs|hs
  ·obtain ⟨u,hu,e2⟩:=h1.mem s hs;exact ⟨u,Z3 _ hu,e2.trans e⟩
  ·obtain ⟨u,hu,e2⟩:=h2.mem s hs;exact ⟨u,Zu _ hu,e2.trans e⟩⟩
theorem nQ (k:Nat):∀(N:Nat) (A:Option Addr) (n c:Nat) (l:List TR) (w:World),n≤N→dP w→Sl w A n 4 (aA TR.cells l)→n≤c→n≤1000000→k+n≤3999980→kx k l→
  Calls Tryz.prog 244 #[.slice A n c,.func (.func 223) #[] #[],.func (.func 224) #[] #[]] w fun r w'=>(n<2∧r=.returned (.slice A n c)∧Below w.heap.size w w')∨(2≤n∧∃(L:List TR) (A':Option Addr) (c':Nat),MD (k+n) l L∧r=.returned (.slice A' L.length c')∧Hp w [.row A' L.length c' 95 4 (aA TR.cells L)] w')
 |0,A,n,c,l,w,hN,hT,hS,hc,hn,hk,hok=>by
  have hh:=Hp.start w;obtain rfl:n=0:=Yo;refine aj (N:=30) (l:=[.slice A 0 c,.func (.func 223) #[] #[],.func (.func 224) #[] #[]]) Tryz.func244 rfl rfl (by simp) ?_;refine sr (aL (aa (ah (sr (mL (aM ?_))))));refine a9 (aa (cT (sr (mL (aL (aa (av (aF ?_))))))));refine dH ?_;exact .inl ⟨Yo,rfl,hh.below⟩
 |N+1,A,n,c,l,w,hN,hT,hS,hc,hn,hk,hok=>by
  have hh:=Hp.start w;have hl:=hS.bk TR.len Yp;by_cases h2:n<2
  ·refine aj (N:=30) (l:=[.slice A n c,.func (.func 223) #[] #[],.func (.func 224) #[] #[]]) Tryz.func244 rfl rfl (by simp) ?_;refine sr (aL (aa (ah (sr (mL (aM ?_))))));refine a9 (aa (cT (sr (mL (aL (aa (av (aF ?_))))))));refine dH ?_;exact .inl ⟨h2,rfl,hh.below⟩
  ·obtain ⟨h,hhalf⟩:∃h,h=n/2:=⟨_,rfl⟩;have hh1:1≤h:=Yo;have hh2:h+h≤n:=Yo;have hh3:n≤h+h+1:=Yo;have hq:((n:Int))/2=(h:Int):=Yo;have hS1:=hS.front (m:=h) Yo;rw [show (aA TR.cells l).take (h*4)=aA TR.cells (l.take h) from jw TR.len l h] at hS1;have hS2:=hS.back (l:=h) Yo hc;rw [show (aA TR.cells l).drop (h*4)=aA TR.cells (l.drop h) from iS TR.len l h] at hS2;have o1:kx k (l.take h):=fun t ht=>hok t (aad ht);have o2:kx k (l.drop h):=fun t ht=>hok t (abG ht);have rd:∀{A':Option Addr}{n' c':Nat}{l':List TR}{r:Ending}{w1 w':World},Sl w1 A' n' 4 (aA TR.cells l')→n'≤c'→kx k l'→((n'<2∧r=.returned (.slice A' n' c')∧Below w1.heap.size w1 w')∨(2≤n'∧∃(L:List TR) (B:Option Addr) (b:Nat),MD (k+n') l' L∧r=.returned (.slice B L.length b)∧Hp w1 [.row B L.length b 95 4 (aA TR.cells L)] w'))→∃v,r=.returned v∧Below w1.heap.size w1 w'∧lX (k+n') l' v w':=by
    rintro A' n' c' l' r w1 w' hs hc' ho (⟨h1,rfl,hb⟩|⟨h1,L,B,b,hm,rfl,h3⟩)
    ·have e:=hs.bk TR.len Yp;exact ⟨_,rfl,hb,⟨A',n',c',l'⟩,rfl,hc',e,(MD.self (zv Yo) ho).mono Yo,hs.ext hb⟩
    ·exact ⟨_,rfl,h3.below,⟨B,L.length,b,L⟩,rfl,h3.gG (i:=0) rfl,rfl,hm,h3.az (i:=0) rfl⟩
   have ih1:=fun w1 (hT1:dP w1) (hb:Below w.heap.size w w1)=>nQ k N A h c (l.take h) w1 Yo hT1 (hS1.ext hb) Yo Yo Yo o1;have ih2:=fun w1 (hT1:dP w1) (hb:Below w.heap.size w w1)=>nQ k N _ (n-h) (c-h) (l.drop h) w1 Yo hT1 (hS2.ext hb) Yo Yo Yo o2;refine aj (N:=30) (l:=[.slice A n c,.func (.func 223) #[] #[],.func (.func 224) #[] #[]]) Tryz.func244 rfl rfl (by simp) ?_;refine sr (aL (aa (ah (sr (mL (aM ?_))))));refine a9 (aa (cF (aq (ai (sr (mL (aM ?_)))))));refine nk ?_;refine aI (aa (ah ?_));rw [hq];refine aK 14 [[(0,none)],[(7,none)],[(15,some 0),(16,some 1)],[(1,none)],[(2,none)],[(17,some 2),(18,some 3),(19,some 4)],[(0,none)],[(7,none)],[(21,some 6),(22,some 7)],[(1,none)],[(2,none)],[(23,some 8),(24,some 9),(25,some 10)],[(1,none)],[(2,none)]] [(13,28),(12,27),(11,26),(10,25),(9,24),(8,23),(7,22),(6,21),(5,20),(4,19),(3,18),(2,17),(1,16),(0,15)] hh mixed Yq ?_;refine gI ?_;refine dJ ?_;refine bB (i:=2) (fun ρ1 w1 hj hR=>BM (h:=h) bG.out aJ.size (show ρ1 15=Value.slice _ _ _ from hR.1) (show ρ1 16=Value.int _ _ from hR.2.1) Yo Yo) ?_;refine PJ ?_;refine PJ ?_
   refine a7 (i:=5) (lX (k+h) (l.take h)) (lX.ext) ?_ ?_
   ·intro ρ1 w1 hj hR;exact bV rfl (bf au.out (aC (show ρ1 17=Value.slice _ _ _ from hR.1) (aC (show ρ1 18=Value.func _ _ _ from hR.2.1) (aC (show ρ1 19=Value.func _ _ _ from hR.2.2.1) bh)))) (ih1 w1 (hT.hp hj.hp) hj.hp.below) (fun _ _ hq=>rd (hS1.ext hj.hp.below) Yo o1 hq)
   refine gI ?_;refine dJ ?_;refine bB (i:=8) (fun ρ1 w1 hj hR=>gZ (l:=h) bG.out aJ.size (show ρ1 21=Value.slice _ _ _ from hR.1) (show ρ1 22=Value.int _ _ from hR.2.1) Yo Yo Yo) ?_;refine PJ ?_;refine PJ ?_;refine a7 (i:=11) (lX (k+(n-h)) (l.drop h)) (lX.ext) ?_ ?_
   ·intro ρ1 w1 hj hR;exact bV rfl (bf au.out (aC (show ρ1 23=Value.slice _ _ _ from hR.1) (aC (show ρ1 24=Value.func _ _ _ from hR.2.1) (aC (show ρ1 25=Value.func _ _ _ from hR.2.2.1) bh)))) (ih2 w1 (hT.hp hj.hp) hj.hp.below) (fun _ _ hq=>rd (hS2.ext hj.hp.below) Yo o2 hq)
   refine PJ ?_;refine PJ ?_;refine aH ?_;intro f W hJ hV;have hb_4:=hJ.bl;obtain ⟨v28,v27,v26,v25,v24,v23,v22,v21,v20,v19,v18,v17,v16,v15,_⟩:=hV;obtain ⟨g20,e20,o20⟩:lX (k+h) (l.take h) (f 5) W:=v20;obtain ⟨g26,e26,o26⟩:lX (k+(n-h)) (l.drop h) (f 11) W:=v26;replace hh:=hJ.hp;refine aN (a6 (ae v28 (ae v27 (ae e26 (ae v25 (ae v24 (ae v23 (ae v22 (ae v21 (ae e20 (ae v19 (ae v18 (ae v17 (ae v16 (ae v15 aO))))))))))))))) ?_;dsimp only [bP];clear e20 e26 hJ;obtain ⟨p1,p2,p3,p4⟩:=o20;obtain ⟨q1,q2,q3,q4⟩:=o26;have l1:=p3.len;have l2:=q3.len;rw [YM] at l1;rw [Zz] at l2;refine ay (ru g20.A g20.n g20.c g20.ts g26.A g26.n g26.c g26.ts (k+(n-h)) _ (hT.hp hh) p4 q4 p1 q1 Yo Yo Yo p3.uf q3.uf (p3.ok.mono Yo) (q3.ok.mono Yo)) au.out rfl Yp ?_;rintro e_ w29 ⟨L,A',c',hm,rfl,h3⟩;refine ⟨_,rfl, ?_⟩;replace hh:=hh.join h3;refine aL (aa (av ?_));refine dH ?_;refine .inr ⟨Yo,L,A',c', ?_,rfl,hh⟩;have:=p3.Mf q3 hm (j:=k+n) Yo;rwa [Zy] at this
variable {c' m:Nat}
section
variable {ro:Mode}
section
variable {P:Program}{N:Nat}{ops:Array Oper}{Q:Kq}{ρ:Rf}{w w0:World}{rest:List Oper}{H:List HE}{ty d:Nat}{pos:String}{af:Array Edge}
theorem Bt (hh:Hp w0 H w) {t e:TypeId}{x:Operand}{i p sz g:Nat}{xs:List Value} (hi:H[i]?=some (.row (some ⟨g,0,none⟩) p c e sz xs)) (hx:ev ρ x=.slice (some ⟨g,o,none⟩) m c') (ho:p*sz≤o) (hom:o+m*sz≤c*sz) (hm:0<m)
  (ht:P.underlying t=some (.slice e)) (hte:eu P e=some (sz,ag,by',zc)) (hzl:zc.length=sz) (h1:(zc.all Value.oneCell')=true)
  (k:∀w',Hp w0 H w'→WL ro P N ops Q rest ρ w'):WL ro P N ops Q (⟨none,.call ⟨.builtin .clear, #[x], #[t]⟩,ty,pos,af,none⟩::rest) ρ w:=by
 obtain ⟨z,hz,hzc⟩:=fF (w:=w) hte;obtain ⟨hlen,h2⟩:=hh.at_ hi
 rcases h2 with ⟨h2,_⟩|⟨g',cap,cur,hv,hg,hheap,hmc,hcm,hcur,htake⟩
 ·cases h2
 ·injection hv with hA hn hcap
  injection hA with hA
  injection hA with hA
  subst hA;subst hcap;have hcl:cur.size=cur.toList.length:=by simp
  have hzr:(iK m zc).length=m*sz:=by rw [km,hzl]
  have hall:∀v∈iK m zc,v.oneCell'=true:=fun v hv=>by
   obtain ⟨j,hj⟩:=ZU.1 hv;have hj2:=(YL.1 hj).1;rw [km] at hj2;rw [AR m zc j hj2] at hj;exact Y0.1 h1 v (Yy hj)
  obtain ⟨w',hr,hb',hgr,hs⟩:=hZ (P:=P) (b:=g) (t:=e) (fz:=(0,0)) o (iK m zc) 0 cur.toList w (by simpa using hheap) (.inr (YA _)) (by rw [←hcl,hzr];omega) hall;have hset:=MT hi;refine Qe rfl rfl (w':=w') (v:=.tuple #[]) ?_ (k w' (hset ▸ hh.grown hi hgr (.inl rfl) ⟨hlen,.inr ⟨g,c,(cm cur.toList (o+0) (iK m zc)).toArray,rfl,hg,by simpa using hb',hmc,hcm, ?_, ?_⟩⟩))
  ·simp only [execOp,resolve,invoke,hx,List.map_toArray,Y6,Zv];have hzz:Builtin.zeroCells z.cells m=(iK m zc).toArray:=by
    rw [Builtin.zeroCells,hzc,abf];exact xi m zc
   obtain ⟨q,rfl⟩:∃q,m=q+1:=⟨m-1,Yo⟩;simp [builtin,Builtin.clear_,run_underlying ht,hz,hzz,hr]
  ·simp only [abf];rw [fU (by rw [←hcl,hzr];omega),←hcl,hcur]
  ·simp only [cm];rw [Y5,List.take_append_of_le_length (by rw [YM,←hcl];omega),List.take_take,ZK Yo];exact htake
end
end
theorem wZ (A:Option Addr) (n c:Nat) (l:List TR) (g:FuncId) (cap:List Value) (p:TR→Bool) (w:World) (hS:Sl w A n 4 (aA TR.cells l)) (hn:n≤1000000) [au Tryz.prog g]
  (hg:∀(z:TR) (w1:World),z∈l→Below w.heap.size w w1→Calls Tryz.prog g (.agg #[.string z.m,.bool z.c.neg,.string z.c.aY,.int .i64 z.c.e]::cap).toArray w1 fun r w'=>r=.returned (.bool (p z))∧Below w1.heap.size w1 w'):
  Calls Tryz.prog 253 #[.slice A n c,.func (.func g) #[] cap.toArray] w fun r w'=>∃v,r=.returned (.int .i64 v)∧((l.any p=false∧v= -1)∨∃(i:Nat) (z:TR),i<n∧v=i∧(l.take i).any p=false∧l[i]?=some z∧p z=true)∧Below w.heap.size w w':=by
 have hh:=Hp.start w;have hln:=hS.bk TR.len Yp;refine aj (N:=19) (l:=[.slice A n c,.func (.func g) #[] cap.toArray]) Tryz.func253 rfl rfl (by simp) ?_;refine zJ ?_;refine aT [4,5,8,9,10,11,12,13,14,15,16,17,18] 8
  (fun v w'=>∃i:Nat,i≤n∧v=.int .i64 i∧(l.take i).any p=false∧Hp w [] w')
  (fun v _=>n-(intOf v).toNat) ?_ ?_
 ·exact ⟨0,Yx _,rfl,rfl,hh⟩
 ·clear hh;rintro ρ' v w' ⟨i,hi,rfl,hall,hh⟩;by_cases hlt:i<n
  ·obtain ⟨z,hz⟩:=ao (l:=l) (k:=i) Yo;obtain ⟨ad,rfl,hr⟩:=hS.at_ Yo;have hc:=fun w1=>hg z w1 (Yy hz)
   cases gz:p z with
   |true=>
    rw [gz] at hc;refine sr ?_;refine nq ?_;refine iY ?_;refine mL (mI ?_);refine bZ ?_;refine cg (vs:=[_,_,_,_]) aJ.out rfl ((hr.ext hh.below).recAt TR.len hz) rfl Yp ?_;refine gU (hc _ hh.below) au.out rfl rfl Yp ?_;rintro e_ w16 ⟨rfl,hb_⟩;refine ⟨_,rfl, ?_⟩;replace hh:=hh.ext hb_;refine aa (cT (sr (mI (aI (aa (av (bU (aF (aF (bU (aF ?_)))))))))));refine dH ?_;exact ⟨_,rfl,.inr ⟨i,z,hlt,rfl,hall,hz,gz⟩,hh.below⟩
   |false=>
    rw [gz] at hc;refine sr ?_;refine nq ?_;refine iY ?_;refine mL (mI ?_);refine bZ ?_;refine cg (vs:=[_,_,_,_]) aJ.out rfl ((hr.ext hh.below).recAt TR.len hz) rfl Yp ?_;exact Cl
  ·rw [YC Yo] at hall;refine sr ?_;refine Il ?_;refine dH ?_;exact ⟨_,rfl,.inl ⟨hall,rfl⟩,hh.below⟩
theorem Fb (A:Option Addr) (n c:Nat) (l:List TR) (g:FuncId) (cap:List Value) (p:TR→Bool) (w:World) (hS:Sl w A n 4 (aA TR.cells l)) (hn:n≤1000000) [au Tryz.prog g]
  (hg:∀(z:TR) (w1:World),z∈l→Below w.heap.size w w1→Calls Tryz.prog g (.agg #[.string z.m,.bool z.c.neg,.string z.c.aY,.int .i64 z.c.e]::cap).toArray w1 fun r w'=>r=.returned (.bool (p z))∧Below w1.heap.size w1 w'):
  Calls Tryz.prog 241 #[.slice A n c,.func (.func g) #[] cap.toArray] w fun r w'=>r=.returned (.bool (l.any p))∧Below w.heap.size w w':=by
 have hh:=Hp.start w;refine aj (N:=9) (l:=[.slice A n c,.func (.func g) #[] cap.toArray]) Tryz.func241 rfl rfl (by simp) ?_;refine sr (aB (aa (sr (mL ?_))));refine iY ?_;refine ay (wZ A n c l g cap p _ (hS.ext hh.below) hn hg) au.out rfl Yp ?_;rintro e_ w7 ⟨v_,rfl,hv_,hb_⟩;refine ⟨_,rfl, ?_⟩;replace hh:=hh.ext hb_
 rcases hv_ with ⟨ha,rfl⟩|⟨i,z,hi,rfl,ht,hz,hp⟩
 ·rw [ha];exact Ir
 ·rw [show l.any p=true from aae.2 ⟨z,Yy hz,hp⟩];exact Ir
theorem mX (A:Option Addr) (n c:Nat) (l:List TR) (w:World) (hS:Sl w A n 4 (aA TR.cells l)) (hn:n≤1000000):
  Calls Tryz.prog 219 #[.slice A n c] w fun r w'=>∃A' c',r=.returned (.slice A' n c')∧w'.ownsRow w.heap.size 95 4 (.slice A' n c') n (aA TR.cells l)∧Below w.heap.size w w':=by
 have hh:=Hp.start w;have oX:=bK TR.one l
 rcases A with _|ad
 ·have hn0:n=0:=by
   exact Us
  subst hn0;have hl:l=[]:=aai (by have:=hS.bk TR.len Yp;omega);subst hl;refine aj (N:=8) (l:=[.slice none 0 c]) Tryz.func219 rfl rfl (by simp) ?_;exact UI
 ·refine aj (N:=8) (l:=[.slice (some ad) n c]) Tryz.func219 rfl rfl (by simp) ?_;refine sr (aL (aa (ah (sr (mL ?_)))));refine uk bG.out rfl rfl Yp ?_;refine wO ?_;refine C6 ?_;intro b5 w5 hh;refine mL ?_;refine cu hh (i:=0) rfl rfl rfl (hS.ext hh.below) bG.out aJ.out rfl Yp ?one7 Yo Yo Yp ?kk7
  case one7=>first|rfl|assumption|exact bI _|exact oneCells_u8s _
  exact K7
theorem Ek {l:List α}{i:Nat} (h:i<j) (x:α):(l.set i x).drop j=l.drop j:=by
 refine ZI fun k=> ?_;rw [ZW,ZW,aaf,Yu Yo]
theorem xX {l:List α}{i:Nat} (h:i<l.length) (x:α):(l.set i x).take (i+1)=l.take i++[x]:=by
 rw [aw (show (l.set i x)[i]?=some x by rw [aaf,Yt rfl,Yt h]),List.take_set_of_le (YA _)]
theorem FT (A:Option Addr) (n c:Nat) (l:List TR) (g:FuncId) (p:TR→Bool) (w:World) (hh:Hp w0 (.row A n c 95 4 (aA TR.cells l)::Hr) w) (hl:l.length=n) (hn:n≤1000000) [au Tryz.prog g]
  (hg:∀(z:TR) (w1:World),z∈l→Calls Tryz.prog g (.agg #[.string z.m,.bool z.c.neg,.string z.c.aY,.int .i64 z.c.e]::[]).toArray w1 fun r w'=>r=.returned (.bool (p z))∧Below w1.heap.size w1 w'):
  Calls Tryz.prog 243 #[.slice A n c,.func (.func g) #[] #[]] w fun r w'=>r=.returned (.slice A (l.filter fun z=> !p z).length c)∧Hp w0 (.row A (l.filter fun z=> !p z).length c 95 4 (aA TR.cells (l.filter fun z=> !p z))::Hr) w':=by
 have hc:=hh.gG (i:=0) rfl;have hsl:=hh.az (i:=0) rfl;refine aj (N:=42) (l:=[.slice A n c,.func (.func g) #[] #[]]) Tryz.func243 rfl rfl (by simp) ?_;refine sr (aL (aa (sr (mL ?_))));refine iY ?_;refine ay (wZ A n c l g [] p _ hsl hn (fun z w1 hz _=>hg z w1 hz)) au.out rfl Yp ?_;rintro e_ w10 ⟨v_,rfl,hv_,hb_⟩;refine ⟨_,rfl, ?_⟩;replace hh:=hh.ext hb_
 rcases hv_ with ⟨ha,rfl⟩|⟨i0,z0,hi0,rfl,ht0,hz0,hp0⟩
 ·have hf:(l.filter fun z=> !p z)=l:=List.filter_eq_self.2 fun z hz=>by
   have:=aab.1 ha z hz;simpa using this
  rw [hf,hl];refine aI (aa (ah (sr (mI ?_))));refine cH (aa (cT (sr (mL (aL (aa (av (aF ?_))))))));refine dH ?_;exact ⟨rfl,hh⟩
 ·have hf0:((l.take (i0+1)).filter fun z=> !p z)=l.take i0:=by
   rw [aw hz0,aa7,List.filter_cons_of_neg (by rw [hp0];decide),List.filter_nil,Y7];exact List.filter_eq_self.2 fun z hz=>by
    have:=aab.1 ht0 z hz;simpa using this
  obtain ⟨g0,rfl⟩:=hh.cq (i:=0) rfl Yo;refine aI (aa (ah (sr (mI ?_))));refine cH (aa (cF (aq (ai (ah (sr (mI ?_)))))));refine a8 (aI (aa (ar ?_)));refine bH [5,6,7,16,17,18,19,20,21,22,23,24,25,26,27,28,29,30,31,32,33,34,35] 5 6
   (fun v5 v6 w'=>∃(i j:Nat) (X:List TR),i<j∧j≤n∧v5=.int .i64 i∧v6=.int .i64 j∧X.length=n∧i=((l.take j).filter fun z=> !p z).length∧X.take i=((l.take j).filter fun z=> !p z)∧X.drop j=l.drop j∧Hp w0 (.row (some ⟨g0,0,none⟩) n c 95 4 (aA TR.cells X)::Hr) w')
   (fun _ v _=>n-(intOf v).toNat) ?_ ?_
  ·exact ⟨i0,i0+1,l,Yo,Yo,rfl,rfl,hl,by rw [hf0,YM];omega,hf0.symm,rfl,hh⟩
  ·clear hh;rintro ρ' v5 v6 w' ⟨i,j,X,hij,hj,rfl,rfl,hX,hi,htk,hdr,hh⟩;by_cases hlt:j<n
   ·obtain ⟨z,hz⟩:=ao (l:=l) (k:=j) Yo;have hXj:X[j]?=some z:=by
     have h1:(X.drop j)[0]?=(l.drop j)[0]?:=by rw [hdr]
     rw [ZW,ZW,ZM] at h1;rw [h1,hz]
    have hgz:=fun w1=>hg z w1 (Yy hz);have hdr2:X.drop (j+1)=l.drop (j+1):=by rw [←aaM,←aaM,hdr]
    have hrl:=fj TR.len X;refine ah (sr (mI (mL (aM ?_))));refine vV ?_;refine ni ?_;refine cg (vs:=[_,_,_,_]) aJ.out rfl (hh.dT (f:=TR.cells) (x:=z) (l:=X) (i:=0) rfl TR.len Yp hXj) rfl Yp ?_;refine bC hh ?_;intro b7 w7 hh;refine bg hh 0 [_,_,_,_] ?_;intro ws hh;replace hh:Hp _ (.blk _ _ [_,_,_,_] _::_) _:=hh;refine aa (sr ?_);refine iY ?_;refine bJ hh 0 [_,_,_,_] ?_
    cases hpz:p z with
    |true=>
     rw [hpz] at hgz;have hfl:((l.take (j+1)).filter fun z=> !p z)=((l.take j).filter fun z=> !p z):=by rw [aw hz,aa7,List.filter_cons_of_neg (by rw [hpz];decide),List.filter_nil,Y7]
     refine gU (hgz _) au.out rfl rfl Yp ?_;rintro e_ w28 ⟨rfl,hb_⟩;refine ⟨_,rfl, ?_⟩;replace hh:=hh.ext hb_;refine ig ?_;refine zn ?_;refine a8 (aI (aD (ai ?_)));replace hh:=hh.sub (Yw _ (Yv _ (Zq _)));refine ⟨⟨i,j+1,X,Yo,Yo,rfl,rfl,hX,by rw [hfl];exact hi,by rw [hfl];exact htk,hdr2,hh⟩,by show n-(j+1)<n-j;omega, ?_⟩;exact er
    |false=>
     rw [hpz] at hgz;have hfl:((l.take (j+1)).filter fun z=> !p z)=((l.take j).filter fun z=> !p z)++[z]:=by rw [aw hz,aa7,List.filter_cons_of_pos (by rw [hpz];decide),List.filter_nil]
     refine gU (hgz _) au.out rfl rfl Yp ?_;rintro e_ w28 ⟨rfl,hb_⟩;refine ⟨_,rfl, ?_⟩;replace hh:=hh.ext hb_;refine ig ?_;refine aa (cT (sr (mL (mI ?_))));refine bJ hh 0 [_,_,_,_] ?_;refine il ?_;refine ct hh (i:=1) (vs:=[_,_,_,_]) rfl rfl (gl rfl) rfl aJ.out rfl Yo rfl ?_;intro ws hh;simp only [YG,Y8] at hh;rw [show cm (aA TR.cells X) (i*4) [.string z.m,.bool z.c.neg,.string z.c.aY,.int .i64 z.c.e]=aA TR.cells (X.set i z) from eX TR.len Yo] at hh;refine aa (ak (mI ?_));refine a8 (aI (aD (bz (ai (ak (mI ?_))))));refine a8 (aI (aD (ai ?_)));replace hh:=hh.sub (Yw _ (Yv _ (Zq _)));refine ⟨⟨i+1,j+1,X.set i z,Yo,Yo,rfl,rfl,by rw [aas];exact hX,by rw [hfl,YE,←hi];rfl,by rw [hfl,xX Yo,htk],by rw [Ek Yo];exact hdr2,hh⟩,by show n-(j+1)<n-j;omega, ?_⟩;exact er
   ·obtain rfl:j=n:=Yo;rw [show l.take j=l from YC Yo] at hi htk;have hcap:=hh.gG (i:=0) rfl;have hp31:(if c=i then some (⟨g0,0,none⟩:Addr) else (some (⟨g0,0,none⟩:Addr)).map (·.add (i*4)))=some ⟨g0,i*4,none⟩:=by
     rw [Yu Yo];show some ((⟨g0,0,none⟩:Addr).add (i*4))=_;rw [fw,YZ]
    have htt:(aA TR.cells X).take (i*4)=aA TR.cells (l.filter fun z=> !p z):=by rw [jw TR.len,htk]
    refine ah (sr (mI (mL (aM ?_))));refine a9 (aa (cF (aX (aE (aE (bA (ai (sr (mL (mI ?_))))))))));refine aV rfl rfl Yp (jn (l:=i) (h:=j) bG.out aJ.size rfl ⟨_,_,rfl,rfl⟩ rfl Yo Yo) ?_;rw [hp31];replace hh:=hh.Bm (k:=i) Yo;rw [htt] at hh;refine Bt hh (i:=0) (o:=i*4) (m:=j-i) rfl rfl Yo Yo Yo bG.out aJ.out rfl rfl ?_;intro w38 hh;refine aa (sr (mL (mI ?_)));refine Lp ?_;refine aL (aa (av ?_));refine dH ?_;rw [←hi];exact ⟨rfl,hh⟩
variable {E:Int}{ts:List TR}
structure PX where
 v:Int
 A:Option Addr
 n:Nat
 c:Nat
 ts:List TR
def PX.row (g:PX):HE:=.row g.A g.n g.c 95 4 (aA TR.cells g.ts)
def PX.at_ (g:PX) (w:World):Prop:=Sl w g.A g.n 4 (aA TR.cells g.ts)
theorem PX.at_.ext {g:PX} (h:g.at_ w) (hb:Below w.heap.size w w'):g.at_ w':=Sl.ext h hb
theorem PX.at_.ln {g:PX} (h:g.at_ w):g.ts.length=g.n:=Sl.bk h TR.len Yp
structure iy (E v:Int) (ts:List TR) (g:PX):Prop where
 v:g.v=if E=0 then v else 0
 ts:g.ts=if E=0 then ts else []
def PX.nil:PX:=⟨0,none,0,0,[]⟩
theorem iy.err {v:Int} (h:E≠0):iy E v ts PX.nil:=⟨by rw [Yu h];rfl,by rw [Yu h];rfl⟩
theorem Hp.KH {H:List HE} (h:Hp w0 H w):Hp w0 (PX.nil.row::H) w:=h.dm 95 4
theorem xR (A:Option Addr) (n c:Nat) (l:List TR) (k:Nat) (w:World) (hT:dP w) (hh:Hp w0 (.row A n c 95 4 (aA TR.cells l)::Hr) w) (hl:l.length=n) (hn:n≤1000000) (hk:k+n≤3999980) (ho:kx k l):
  Calls Tryz.prog 244 #[.slice A n c,.func (.func 223) #[] #[],.func (.func 224) #[] #[]] w fun r w'=>∃(L:List TR) (A':Option Addr) (c':Nat),MD (k+n) l L∧r=.returned (.slice A' L.length c')∧Hp w0 (.row A' L.length c' 95 4 (aA TR.cells L)::Hr) w':=by
 refine (nQ k n A n c l w (YA _) hT (hh.az (i:=0) rfl) (hh.gG (i:=0) rfl) hn hk ho).mono fun r w' h=> ?_
 rcases h with ⟨h1,rfl,hb⟩|⟨h1,L,A',c',hm,rfl,h3⟩
 ·exact ⟨l,A,c,(MD.self (zv Yo) ho).mono Yo,by rw [hl],by rw [hl];exact hh.ext hb⟩
 ·refine ⟨L,A',c',hm,rfl, ?_⟩;exact (hh.join h3).sub (Yv _ (Yw _ (Zq _)))
def Wv (t:TR):Bool:=decide (t.c.d=0)
theorem EL (l:List TR):(l.filter fun z=> !Wv z)=l.filter pO:=rfl
theorem Ac (z:TR) (w:World):Calls Tryz.prog 245 #[.agg #[.string z.m,.bool z.c.neg,.string z.c.aY,.int .i64 z.c.e]] w fun r w'=>r=.returned (.bool (Wv z))∧Below w.heap.size w w':=by
 have hh:=Hp.start w;refine aj (N:=7) (l:=[.agg #[.string z.m,.bool z.c.neg,.string z.c.aY,.int .i64 z.c.e]]) Tryz.func245 rfl rfl (by simp) ?_;refine sr ?_;refine bO hh [_,_,_,_] ?_;intro b1 w1 hh;refine aB (aa (sr (bo ?_)));refine bJ hh 0 [_,_,_] ?_;refine bj hh (cL z.c _) rfl ?_;intro w5 hh;have hz:z.c.i.sign=0↔z.c.d=0:=by
  exact Tp
 unfold Wv;by_cases h0:z.c.d=0
 ·have hs:=hz.2 h0;rw [YN h0];refine cH (aB (aa (av ?_)));refine dH ?_;exact ⟨rfl,hh.below⟩
 ·have hs:¬z.c.i.sign=0:=fun h=>h0 (hz.1 h);rw [YS h0];refine cH (aB (aa (av ?_)));refine dH ?_;exact ⟨rfl,hh.below⟩
def iP (l:List TR):Int:=if 4096<(aU l).length then 3 else 0
theorem Ex {xs ys:List Value}{v:Value} (h:xs[o]?=some v):cm xs o (v::ys)=cm xs (o+1) ys:=by
 unfold cm;rw [aw h,Y3,show o+(ys.length+1)=o+1+ys.length by omega];simp
def Xt (t:TR):TR:=⟨t.m,nR t.c.d⟩
theorem zg {X:List TR}{i:Nat}{z:TR} (h:X[i]?=some z) (y:NR):cm (aA TR.cells X) (i*4+1) [.bool y.neg,.string y.aY,.int .i64 y.e]=aA TR.cells (X.set i ⟨z.m,y⟩):=by
 have h0:(aA TR.cells X)[i*4]?=some (.string z.m):=by
  have h1:=vN TR.len h;have h2:(((aA TR.cells X).drop (i*4)).take 4)[0]?=some (.string z.m):=by rw [h1];rfl
  rwa [List.getElem?_take_of_lt Yp,ZW,ZM] at h2
 rw [←Ex h0];exact eX TR.len (y:=⟨z.m,y⟩) (YL.1 h).1
theorem lJ (v:Int) (A:Option Addr) (n c:Nat) (l:List TR) (k:Nat) (w:World) (hT:dP w0) (hh:Hp w0 (.row A n c 95 4 (aA TR.cells l)::Hr) w) (hl:l.length=n) (hn:n≤1000000) (hk:k+n≤3999980) (ho:kx k l):
  Calls Tryz.prog 220 #[.int .i64 v,.slice A n c] w fun r w'=>∃g:PX,iy (iP l) v (aU l) g∧r=.returned (.tuple #[.agg #[.int .i64 g.v,.slice g.A g.n g.c],.int .i64 (iP l)])∧Hp w0 (g.row::Hr) w':=by
 refine aj (N:=33) (l:=[.int .i64 v,.slice A n c]) Tryz.func220 rfl rfl (by simp) ?_;refine sr ?_;refine bC hh ?_;intro b4 w4 hh;refine aI (aa (sr (mL ?_)));replace hh:=hh.perm (Zp (l₁:=[_]));simp only [YB,Yz] at hh;refine ay (xR A n c l k _ (hT.hp hh) hh hl hn hk ho) au.out rfl Yp ?_;rintro e_ w8 ⟨L,A1,c1,hmd,rfl,hh⟩;refine ⟨_,rfl, ?_⟩;have hlen:=hmd.len;refine ay (FT A1 L.length c1 L _ Wv _ hh rfl Yo (fun z w1 _=>Ac z w1)) au.out rfl Yp ?_;rintro e_ w9 ⟨rfl,hh⟩;refine ⟨_,rfl, ?_⟩;rw [EL] at hh ⊢;have hML:(L.filter pO).length≤L.length:=List.length_filter_le _ _;have hgl:(aU l).length=(L.filter pO).length:=by rw [←hmd.aU,YI]
 have hgm:=hmd.aU;have hok:kx (k+n) (L.filter pO):=fun t ht=>hmd.ok t (Z0.1 ht).1;generalize hM:L.filter pO=M at*;by_cases h4:4096<M.length
 ·rw [show iP l=3 by unfold iP;rw [Yt Yo]];refine yF ?_;refine bT (aa (cT (sr ?_)));refine fe [_,_] ?_;refine bg hh 1 [_,_] ?_;intro ws hh;replace hh:Hp _ (_::.blk _ _ [_,_] _::_) _:=hh;refine aI (aa (av (aF ?_)));replace hh:=hh.sub (Yw _ (Yv _ (Zq _)));refine u7 ?_;exact ⟨PX.nil,iy.err Yp,rfl,(hh.sub (Zc _ _)).KH⟩
 ·rw [show iP l=0 by unfold iP;rw [Yu Yo]];refine yF ?_;refine bT (aa (cF (aq (ai (ah (sr (mL (aM (mI (aa (ar ?_)))))))))));refine aT [6,16,17,18,19,20,21,22,23,24,25,26,27,28,29] 16
   (fun v w'=>∃(i:Nat) (X:List TR),i≤M.length∧v=.int .i64 i∧X.length=M.length∧X=(M.take i).map Xt++M.drop i∧Hp w0 (.row A1 M.length c1 95 4 (aA TR.cells X)::.blk b4 52 [.int .i64 0,.slice none 0 0] (0,0)::Hr) w')
   (fun v _=>M.length-(intOf v).toNat) ?_ ?_
  ·exact ⟨0,M,Yx _,rfl,rfl,rfl,hh⟩
  ·clear hh;rintro ρ' v w' ⟨i,X,hi,rfl,hX,hXe,hh⟩;by_cases hlt:i<M.length
   ·obtain ⟨z,hz⟩:=ao (l:=M) (k:=i) Yo;have hXz:X[i]?=some z:=by
     rw [hXe,ZC (by rw [YI,YM];omega),YI,YM,ZK Yo,Zn,ZW];exact hz
    have hzo:=hok z (Yy hz);have hXn:X.set i ⟨z.m,nR z.c.d⟩=(M.take (i+1)).map Xt++M.drop (i+1):=by
     rw [aw hz,ZD,hXe,aaz _ _ (by rw [YI,YM];omega),YI,YM,ZK Yo,Zn,Y5];congr 1;obtain ⟨h1,h2⟩:=YL.1 hz;rw [aal h1,h2]
     rfl
    have hrl:=fj TR.len X;obtain ⟨g0,rfl⟩:=hh.cq (i:=0) rfl Yo;refine sr ?_;refine a9 (aa (ah (cT (aq (ai (ah (ar (sr (mI (aI (aa (ak (mL (mI (mL (mI ?_))))))))))))))));refine il ?_;refine bo ?_;refine cg (vs:=[_,_,_]) aJ.out rfl ((hh.dT (f:=TR.cells) (x:=z) (l:=X) (i:=0) rfl TR.len Yp hXz).drop 1) rfl Yp ?_;refine bj hh (eo z.c _ (hT.hp hh) (by have:=hzo.1.1;omega) (by have:=hzo.1.2.1;omega) (by have:=hzo.1.2.2;omega)) rfl ?_;intro w26 hh;refine il ?_;refine bo ?_;refine GS ?_;intro ws hh;simp only [YG] at hh;rw [zg hXz,hXn] at hh;refine gu ?_;refine a8 (mI (aD (ai ?_)));refine ⟨⟨i+1,_,Yo,rfl, ?_,rfl,hh⟩,by show M.length-(i+1)<M.length-i;omega, ?_⟩
    ·rw [←hXn,aas,hX]
    ·exact er
   ·obtain rfl:i=M.length:=Yo;rw [YC (YA _),aaw (YA _),Y7] at hXe;have hXg:X=aU l:=by rw [hXe];exact hgm
    rw [hXg] at hh;refine sr ?_;refine a9 (aa (ah (cF (aX (aE (aE (bA (ai (sr (mI (mL ?_)))))))))));refine fe [_,_] ?_;refine bg hh 1 [_,_] ?_;intro ws hh;replace hh:Hp _ (_::.blk _ _ [_,_] _::_) _:=hh;refine aI (aa (av ?_));refine IM ?_;exact ⟨⟨v,A1,M.length,c1,aU l⟩,⟨rfl,rfl⟩,rfl,hh.sub (Yv _ (Yw _ (Zq _)))⟩
def jW (v:Int):Bool:=decide (0≤v) && decide (v≤12)
theorem jb {v:Int}:jW v=true↔0≤v∧v≤12:=by unfold jW;rw [YP,YX,YX]
theorem oM (v:Int) (w:World):Calls Tryz.prog 114 #[.int .i64 v] w fun r w'=>r=.returned (.bool (jW v))∧Below w.heap.size w w':=by
 have hh:=Hp.start w;unfold jW;by_cases h1:0≤v
 ·rw [YN h1,Bool.true_and];by_cases h2:v≤12
  ·rw [YN h2];exact Sf
  ·rw [YS h2];exact Sf
 ·rw [YS h1,Bool.false_and];refine aj (N:=9) (l:=[.int .i64 v]) Tryz.func114 rfl rfl (by simp) ?_;refine sr (aB (aa (sr (mI ?_))));refine dF (mB ?_);refine gS (gS ?_);refine fK ?_;exact xW
def Wz (a:NR):Bool:=decide ((nR a.d).neg=a.neg) && (decide ((nR a.d).aY=a.aY) && decide ((nR a.d).e=a.e))
theorem uO (a:NR):Wz a=true↔nR a.d=a:=by
 unfold Wz;rw [YP,YP,YX,YX,YX];constructor
 ·rintro ⟨h1,h2,h3⟩;obtain ⟨s,m,e⟩:=a;generalize nR (NR.d ⟨s,m,e⟩)=b at*;obtain ⟨s',m',e'⟩:=b;simp only at h1 h2 h3;rw [h1,h2,h3]
 ·intro h;rw [h];exact ⟨rfl,rfl,rfl⟩
def pq (v:Int) (t:TR):Bool:=fR t.m.data.toList && decide ((t.m.size:Int)=v) && (pO t && Wz t.c)
def sQ:List TR→Bool
 |[]=>true
 |[_]=>true
 |a::b::l=>jr a.m b.m && sQ (b::l)
theorem yr:∀(l:List TR) (p x:TR),sQ (l++[p,x])=(sQ (l++[p]) && jr p.m x.m)
 |[],p,x=>by show (jr p.m x.m && true)=(true && jr p.m x.m);rw [Bool.and_true,Bool.true_and]
 |[a],p,x=>by
  show (jr a.m p.m && (jr p.m x.m && true))=((jr a.m p.m && true) && jr p.m x.m);rw [Bool.and_true,Bool.and_true]
 |a::b::l,p,x=>by
  show (jr a.m b.m && sQ ((b::l)++[p,x]))=((jr a.m b.m && sQ ((b::l)++[p])) && jr p.m x.m);rw [yr (b::l) p x,Bool.and_assoc]
theorem GU:∀{l:List TR}{i:Nat}{p x:TR},sQ l=true→l[i]?=some p→l[i+1]?=some x→jr p.m x.m=true
 |[],i,p,x,_,h,_=>by simp at h
 |[a],i,p,x,_,_,h=>by simp at h
 |a::b::l,0,p,x,h,h1,h2=>by
  simp only [abh,aag,YZ,abe] at h1 h2;subst h1 h2;exact (aaq.1 h).1
 |a::b::l,i+1,p,x,h,h1,h2=>by
  rw [abe] at h1 h2;exact GU (aaq.1 h).2 h1 h2
theorem rk:∀{l:List TR},sQ l=true↔xC l
 |[]=>⟨fun _=>abA,fun _=>rfl⟩
 |[a]=>⟨fun _=>abV _ _,fun _=>rfl⟩
 |a::b::l=>by
  show (jr a.m b.m && sQ (b::l))=true↔_;rw [YP,rk (l:=b::l)];constructor
  ·rintro ⟨h1,h2⟩;refine Z2.2 ⟨fun t ht=> ?_,h2⟩
   rcases YH.1 ht with rfl|ht
   ·exact h1
   ·exact kH h1 ((Z2.1 h2).1 t ht)
  ·intro h;have:=Z2.1 h;exact ⟨this.1 b YD,this.2⟩
def okB (v:Int) (ts:List TR):Bool:=ts.all (pq v) && sQ ts
def l0 (v:Int) (ts:List TR):Int:=if jW v=false then 1 else if 4096<ts.length then 3 else if okB v ts=true then 0 else 1
theorem MJ {v:Int} (h1:jW v=true) (h2:¬4096<ts.length) (h:okB v ts=false):l0 v ts=1:=by
 unfold l0;rw [Yu (by rw [h1];decide),Yu h2,Yu (by rw [h];decide)]
theorem As {v:Int}{i:Nat}{x:TR} (hx:ts[i]?=some x) (h:pq v x=false):okB v ts=false:=by
 unfold okB;rw [Bool.and_eq_false_iff];refine .inl (abx.2 fun h2=> ?_);rw [Y0.1 h2 x (Yy hx)] at h
 cases h
theorem Oc {v:Int}{i:Nat}{p x:TR} (hp:ts[i]?=some p) (hx:ts[i+1]?=some x) (h:jr p.m x.m=false):okB v ts=false:=by
 unfold okB;rw [Bool.and_eq_false_iff];refine .inr (abx.2 fun h2=> ?_);rw [GU h2 hp hx] at h
 cases h
theorem AG (v:Int) (A:Option Addr) (n c:Nat) (ts:List TR) (w:World) (hT:dP w) (hS:Sl w A n 4 (aA TR.cells ts)) (hn:n≤1000000) (ho:∀t∈ts,t.c.ok∧t.m.size≤100000):
  Calls Tryz.prog 65 #[.agg #[.int .i64 v,.slice A n c]] w fun r w'=>r=.returned (.int .i64 (l0 v ts))∧Below w.heap.size w w':=by
 have hh:=Hp.start w;have hln:=hS.bk TR.len Yp;have hfw:=fun w1=>oM v w1
 cases hf:jW v with
 |false=>
  rw [hf] at hfw;rw [show l0 v ts=1 by unfold l0;rw [Yt hf]];refine MG ?_;refine sr ?_;refine bO hh [_,_] ?_;intro b1 w1 hh;refine aI (aa (ah (sr (bo ?_))));refine bp hh 0 ?_;refine bj hh (hfw _) rfl ?_;intro w7 hh;refine ig ?_;exact Th
 |true=>
  rw [hf] at hfw;by_cases h4:4096<n
  ·rw [show l0 v ts=3 by unfold l0;rw [Yu (by rw [hf];decide),Yt Yo]];refine MG ?_;refine sr ?_;refine bO hh [_,_] ?_;intro b1 w1 hh;refine aI (aa (ah (sr (bo ?_))));refine bp hh 0 ?_;refine bj hh (hfw _) rfl ?_;intro w7 hh;refine ig ?_;refine yC ?_;refine bp hh 0 ?_;refine aM ?_;refine bT (aa (cT (sr (aI (aa (av (aF ?_)))))));refine dH ?_;exact ⟨rfl,hh.below⟩
  ·have hbad:=fun h=>MJ (v:=v) (ts:=ts) hf Yo h;refine MG ?_;refine sr ?_;refine bO hh [_,_] ?_;intro b1 w1 hh;refine aI (aa (ah (sr (bo ?_))));refine bp hh 0 ?_;refine bj hh (hfw _) rfl ?_;intro w7 hh;refine ig ?_;refine yC ?_;refine bp hh 0 ?_;refine aM ?_;refine bT (aa (cF (aq (ai (ah (sr (bo ?_)))))));refine bp hh 0 ?_;refine aM (mI (aa (ar ?_)));refine aT [2,3,4,16,17,18,19,20,21,22,23,24,25,26,27,28,29,30,31,32,33,34,35,36,37,38,39,40,41,42,43,44,45,46,47,48,49,50,51,52,53,54,55,56,57] 16
    (fun x w'=>∃i:Nat,i≤n∧x=.int .i64 i∧(ts.take i).all (pq v)=true∧sQ (ts.take i)=true∧Hp w [.blk b1 52 [.int .i64 v,.slice A n c] (0,0)] w')
    (fun x _=>n-(intOf x).toNat) ?_ ?_
   ·exact ⟨0,Yx _,rfl,rfl,rfl,hh⟩
   ·clear hh;rintro ρ' x_ w' ⟨i,hi,rfl,hall,hris,hh⟩;by_cases hlt:i<n
    ·obtain ⟨x,hx⟩:=ao (l:=ts) (k:=i) Yo;obtain ⟨ad,rfl,hr⟩:=hS.at_ Yo;obtain ⟨hxo,hxm⟩:=ho x (Yy hx);have hmay:=fun w1=>l6 x.m v w1 Yo;have hsg:=fun w1=>cL x.c w1;have hfo:=fun w1 hT1=>eo x.c w1 hT1 (by have:=hxo.1;omega) (by have:=hxo.2.1;omega) (by have:=hxo.2.2;omega);have hzz:x.c.i.sign=0↔x.c.d=0:=by
      exact Tp
     cases hm:fR x.m.data.toList && decide ((x.m.size:Int)=v) with
     |false=>
      rw [hm] at hmay;rw [hbad (As hx (by unfold pq;rw [hm];rfl))];refine sr ?_;refine dY ?_;refine bZ ?_;refine qN ?_;refine bC hh ?_;intro b4 w4 hh;refine aI ?_;refine bg hh 0 [_,_,_,_] ?_;intro ws hh;replace hh:Hp _ (.blk _ _ [_,_,_,_] _::_) _:=hh;refine aa (ah ?_)
      refine ej [] [] zL3 33 zL2 [(32,53),(31,52),(30,51),(29,50),(28,49),(27,48),(26,47),(25,46),(24,45),(23,44),(22,43),(21,42),(20,41),(19,40),(18,39),(17,38),(16,37),(15,36),(14,35),(13,34),(12,33),(11,32),(10,31),(9,30),(8,29),(7,28),(6,27),(5,26),(4,25),(3,24),(2,23),(1,22),(0,21)] hh mixed Yq eI rfl (by repeat (first|exact cz|refine bR ?_|refine cG ?_)) ?_
      refine dR ?_;refine fW 0 ?_;refine dR ?_;refine fW 1 ?_;refine dC (fun _ hj=>hmay _) ?_;refine JM ?_;refine mV ?_;refine dS (dS (dS (dS ?_)));refine KT ?_;exact SP
     |true=>
      rw [hm] at hmay;by_cases hz:x.c.d=0
      ·have hs:=hzz.2 hz;rw [hbad (As hx (by unfold pq pO;rw [hm,YN hz];rfl))];refine sr ?_;refine dY ?_;refine bZ ?_;refine qN ?_;refine bC hh ?_;intro b4 w4 hh;refine aI ?_;refine bg hh 0 [_,_,_,_] ?_;intro ws hh;replace hh:Hp _ (.blk _ _ [_,_,_,_] _::_) _:=hh;refine aa (ah ?_)
       refine ej [] [] zL3 33 zL2 [(32,53),(31,52),(30,51),(29,50),(28,49),(27,48),(26,47),(25,46),(24,45),(23,44),(22,43),(21,42),(20,41),(19,40),(18,39),(17,38),(16,37),(15,36),(14,35),(13,34),(12,33),(11,32),(10,31),(9,30),(8,29),(7,28),(6,27),(5,26),(4,25),(3,24),(2,23),(1,22),(0,21)] hh mixed Yq eI rfl (by repeat (first|exact cz|refine bR ?_|refine cG ?_)) ?_
       refine dR ?_;refine fW 0 ?_;refine dR ?_;refine fW 1 ?_;refine dC (fun _ hj=>hmay _) ?_;refine JM ?_;refine mV ?_;refine dG (dR ?_);refine dG (dK 0 [_,_,_] ?_);refine DE ?_;refine dG (wv ?_);refine P0 ?_;exact SP
      ·have hs:¬x.c.i.sign=0:=fun h=>hz (hzz.1 h);by_cases hnf:nR x.c.d=x.c
       ·have hgood:pq v x=true:=by unfold pq pO;rw [hm,YS hz,(uO x.c).2 hnf];rfl
        have hall2:(ts.take (i+1)).all (pq v)=true:=by rw [aw hx,List.all_append,hall];simp [hgood]
        by_cases h0:i=0
        ·refine sr ?_;refine dY ?_;refine bZ ?_;refine qN ?_;refine bC hh ?_;intro b4 w4 hh;refine aI ?_;refine bg hh 0 [_,_,_,_] ?_;intro ws hh;replace hh:Hp _ (.blk _ _ [_,_,_,_] _::_) _:=hh;refine aa (ah ?_)
         refine ej [] [] zL3 33 zL2 [(32,53),(31,52),(30,51),(29,50),(28,49),(27,48),(26,47),(25,46),(24,45),(23,44),(22,43),(21,42),(20,41),(19,40),(18,39),(17,38),(16,37),(15,36),(14,35),(13,34),(12,33),(11,32),(10,31),(9,30),(8,29),(7,28),(6,27),(5,26),(4,25),(3,24),(2,23),(1,22),(0,21)] hh mixed Yq eI rfl (by repeat (first|exact cz|refine bR ?_|refine cG ?_)) ?_
         refine dR ?_;refine fW 0 ?_;refine dR ?_;refine fW 1 ?_;refine dC (fun _ hj=>hmay _) ?_;refine JM ?_;refine mV ?_;refine dG (dR ?_);refine dG (dK 0 [_,_,_] ?_);refine DE ?_;refine dG (wv ?_);refine P0 ?_;refine mV ?_;refine dG (dR ?_);refine dG (dK 0 [_,_,_] ?_);refine HF ?_;refine dG (dR ?_);refine dG (dK 0 [_,_,_] ?_);refine Lu ?_;refine P0 ?_;refine mV ?_;refine dG (dJ ?_);refine dG (QR ?_);refine dG (mV ?_);refine dS (dS (dS (dS ?_)));refine pd (i:=28) rfl (fun ρ1 w1 hj hR=>(show ρ1 44=Value.bool _ from hR.2.2.1)) Yp ?_;refine dS (dS (dS (dS ?_)));refine aH ?_;intro f W hJ hV _;have hb_8:=hJ.bl;obtain ⟨v53,v52,v51,v50,v49,v48,v47,v46,v45,v44,v43,v42,v41,v40,v39,v38,v37,v36,v35,v34,v33,v32,v31,v30,v29,v28,v27,v26,v25,v24,v23,v22,v21,_⟩:=hV;replace hh:=hJ.hp;refine IQ ?_;dsimp only [bP];clear hJ;refine gS (gT ?_)
         (first|refine gi ?_|refine fK ?_)
         refine fK ?_;refine y3 ?_;refine a8 (mI (aD (ai ?_)));replace hh:=hh.sub (Yw _ (Yv _ YR));refine ⟨⟨i+1,Yo,rfl,hall2,by rw [aw hx,h0];rfl,hh⟩,by show n-(i+1)<n-i;omega, ?_⟩;exact er
        ·obtain ⟨q,hq⟩:∃q,i=q+1:=⟨i-1,Yo⟩;obtain ⟨p,hp⟩:=ao (l:=ts) (k:=q) Yo
         cases hlp:jr p.m x.m with
         |false=>
          rw [hbad (Oc hp (hq ▸ hx) hlp)];have hge:(!(Op.bytesLess p.m.toList x.m.toList))=true:=by rw [ml,hlp];rfl
          refine sr ?_;refine dY ?_;refine bZ ?_;refine qN ?_;refine bC hh ?_;intro b4 w4 hh;refine aI ?_;refine bg hh 0 [_,_,_,_] ?_;intro ws hh;replace hh:Hp _ (.blk _ _ [_,_,_,_] _::_) _:=hh;refine aa (ah ?_)
          refine ej [] [] zL3 33 zL2 [(32,53),(31,52),(30,51),(29,50),(28,49),(27,48),(26,47),(25,46),(24,45),(23,44),(22,43),(21,42),(20,41),(19,40),(18,39),(17,38),(16,37),(15,36),(14,35),(13,34),(12,33),(11,32),(10,31),(9,30),(8,29),(7,28),(6,27),(5,26),(4,25),(3,24),(2,23),(1,22),(0,21)] hh mixed Yq eI rfl (by repeat (first|exact cz|refine bR ?_|refine cG ?_)) ?_
          refine dR ?_;refine fW 0 ?_;refine dR ?_;refine fW 1 ?_;refine dC (fun _ hj=>hmay _) ?_;refine JM ?_;refine mV ?_;refine dG (dR ?_);refine dG (dK 0 [_,_,_] ?_);refine DE ?_;refine dG (wv ?_);refine P0 ?_;refine mV ?_;refine dG (dR ?_);refine dG (dK 0 [_,_,_] ?_);refine HF ?_;refine dG (dR ?_);refine dG (dK 0 [_,_,_] ?_);refine Lu ?_;refine P0 ?_;refine mV ?_;refine dG (dJ ?_);refine dG (QR ?_);refine dG (mV ?_);refine dG (dR ?_);refine dG (fW 1 ?_);refine dG (dJ ?_);refine dG (tZ ?_);refine dG (np (q) ?_);refine dG (Jz ?_);refine dG (x7 (fun _ hj=>((hr.ext hj.hp.below).recAt TR.len hp).cell (i:=0) rfl) ?_);refine dG (dR ?_);refine dG (fW 0 ?_);refine aH ?_;intro f W hJ hV _;have hb_8:=hJ.bl;obtain ⟨v53,v52,v51,v50,v49,v48,v47,v46,v45,v44,v43,v42,v41,v40,v39,v38,v37,v36,v35,v34,v33,v32,v31,v30,v29,v28,v27,v26,v25,v24,v23,v22,v21,_⟩:=hV;replace hh:=hJ.hp;refine IQ ?_;dsimp only [bP];clear hJ;refine gT ?_;refine yH rfl rfl Yp ?_;refine gT ?_
          (first|refine gi ?_|refine fK ?_)
          refine fK ?_;refine aa ?_;rw [hge];refine cT (sr (aI (aa (av (bU (aF (aF (bU (aF ?_)))))))));refine dH ?_;exact ⟨rfl,hh.below⟩
         |true=>
          have hge:(!(Op.bytesLess p.m.toList x.m.toList))=false:=by rw [ml,hlp];rfl
          refine sr ?_;refine dY ?_;refine bZ ?_;refine qN ?_;refine bC hh ?_;intro b4 w4 hh;refine aI ?_;refine bg hh 0 [_,_,_,_] ?_;intro ws hh;replace hh:Hp _ (.blk _ _ [_,_,_,_] _::_) _:=hh;refine aa (ah ?_)
          refine ej [] [] zL3 33 zL2 [(32,53),(31,52),(30,51),(29,50),(28,49),(27,48),(26,47),(25,46),(24,45),(23,44),(22,43),(21,42),(20,41),(19,40),(18,39),(17,38),(16,37),(15,36),(14,35),(13,34),(12,33),(11,32),(10,31),(9,30),(8,29),(7,28),(6,27),(5,26),(4,25),(3,24),(2,23),(1,22),(0,21)] hh mixed Yq eI rfl (by repeat (first|exact cz|refine bR ?_|refine cG ?_)) ?_
          refine dR ?_;refine fW 0 ?_;refine dR ?_;refine fW 1 ?_;refine dC (fun _ hj=>hmay _) ?_;refine JM ?_;refine mV ?_;refine dG (dR ?_);refine dG (dK 0 [_,_,_] ?_);refine DE ?_;refine dG (wv ?_);refine P0 ?_;refine mV ?_;refine dG (dR ?_);refine dG (dK 0 [_,_,_] ?_);refine HF ?_;refine dG (dR ?_);refine dG (dK 0 [_,_,_] ?_);refine Lu ?_;refine P0 ?_;refine mV ?_;refine dG (dJ ?_);refine dG (QR ?_);refine dG (mV ?_);refine dG (dR ?_);refine dG (fW 1 ?_);refine dG (dJ ?_);refine dG (tZ ?_);refine dG (np (q) ?_);refine dG (Jz ?_);refine dG (x7 (fun _ hj=>((hr.ext hj.hp.below).recAt TR.len hp).cell (i:=0) rfl) ?_);refine dG (dR ?_);refine dG (fW 0 ?_);refine aH ?_;intro f W hJ hV _;have hb_8:=hJ.bl;obtain ⟨v53,v52,v51,v50,v49,v48,v47,v46,v45,v44,v43,v42,v41,v40,v39,v38,v37,v36,v35,v34,v33,v32,v31,v30,v29,v28,v27,v26,v25,v24,v23,v22,v21,_⟩:=hV;replace hh:=hJ.hp;refine IQ ?_;dsimp only [bP];clear hJ;refine gT ?_;refine yH rfl rfl Yp ?_;refine gT ?_
          (first|refine gi ?_|refine fK ?_)
          refine fK ?_;refine aa ?_;rw [hge];refine cF (aq (bz (ai (ak ?_))));refine a8 (mI (aD (ai ?_)));replace hh:=hh.sub (Yw _ (Yv _ YR));refine ⟨⟨i+1,Yo,rfl,hall2, ?_,hh⟩,by show n-(i+1)<n-i;omega, ?_⟩
          ·rw [hq,aw hp] at hris;rw [aw hx,hq,aw hp,Y5];show sQ (ts.take q++[p,x])=true;rw [yr,hris,hlp]
           rfl
          ·exact er
       ·rw [hbad (As hx (by unfold pq pO;rw [hm,YS hz,abx.2 (fun h=>hnf ((uO x.c).1 h))];rfl))];refine sr ?_;refine dY ?_;refine bZ ?_;refine qN ?_;refine bC hh ?_;intro b4 w4 hh;refine aI ?_;refine bg hh 0 [_,_,_,_] ?_;intro ws hh;replace hh:Hp _ (.blk _ _ [_,_,_,_] _::_) _:=hh;refine aa (ah ?_)
        refine ej [] [] zL3 33 zL2 [(32,53),(31,52),(30,51),(29,50),(28,49),(27,48),(26,47),(25,46),(24,45),(23,44),(22,43),(21,42),(20,41),(19,40),(18,39),(17,38),(16,37),(15,36),(14,35),(13,34),(12,33),(11,32),(10,31),(9,30),(8,29),(7,28),(6,27),(5,26),(4,25),(3,24),(2,23),(1,22),(0,21)] hh mixed Yq eI rfl (by repeat (first|exact cz|refine bR ?_|refine cG ?_)) ?_
        refine dR ?_;refine fW 0 ?_;refine dR ?_;refine fW 1 ?_;refine dC (fun _ hj=>hmay _) ?_;refine JM ?_;refine mV ?_;refine dG (dR ?_);refine dG (dK 0 [_,_,_] ?_);refine DE ?_;refine dG (wv ?_);refine P0 ?_;refine mV ?_;refine dG (dR ?_);refine dG (dK 0 [_,_,_] ?_);refine HF ?_;refine dG (dR ?_);refine dG (dK 0 [_,_,_] ?_);refine Bs (i:=18) rfl (fun ρ1 w1 hj hR=>(show ρ1 33=Value.bool _ from hR.2.2.1)) (fun ρ1 w1 hj hR=>I2 (show ρ1 36=Value.agg (List.toArray _) from hR.1) (show ρ1 38=Value.agg (List.toArray _) from hR.2.1) (by assumption)) ?_;refine P0 ?_;exact XL
    ·rw [YC Yo] at hall hris;rw [show l0 v ts=0 by unfold l0 okB;rw [Yu (by rw [hf];decide),Yu Yo,hall,hris];rfl];refine sr ?_;refine Il ?_;refine dH ?_;exact ⟨rfl,hh.below⟩
def iu (v:Int) (t:TR):Bool:=fR t.m.data.toList && decide ((t.m.size:Int)=v)
theorem Et (z:TR) (v:Int) (b:Nat) (w:World) (hp:w.cell? ⟨b,0,none⟩=some (.int .i64 v)) (hz:z.m.size≤100000):Calls Tryz.prog 242 #[.agg #[.string z.m,.bool z.c.neg,.string z.c.aY,.int .i64 z.c.e],.pointer (some ⟨b,0,none⟩)] w fun r w'=>r=.returned (.bool (!iu v z))∧Below w.heap.size w w':=by
 have hh:=Hp.start w;have hmay:=fun w1=>l6 z.m v w1 Yo;unfold iu;refine aj (N:=9) (l:=[.agg #[.string z.m,.bool z.c.neg,.string z.c.aY,.int .i64 z.c.e],.pointer (some ⟨b,0,none⟩)]) Tryz.func242 rfl rfl (by simp) ?_;refine sr ?_;refine bO hh [_,_,_,_] ?_;intro b2 w2 hh;refine aB (aa (sr (bo ?_)));refine bp hh 0 ?_;refine bY aJ.out rfl (cn hh.below hp) Yp ?_;refine bj hh (hmay _) rfl ?_;intro w7 hh
 cases fR z.m.data.toList && decide ((z.m.size:Int)=v) with
 |false=>
  refine ig ?_;exact xW
 |true=>
  refine ig ?_;exact xW
theorem x4 (A:Option Addr) (n c:Nat) (l:List TR) (v:Int) (b:Nat) (w:World) (hS:Sl w A n 4 (aA TR.cells l)) (hn:n≤1000000) (hp:w.cell? ⟨b,0,none⟩=some (.int .i64 v)) (hz:∀t∈l,t.m.size≤100000):
  Calls Tryz.prog 241 #[.slice A n c,.func (.func 242) #[] #[.pointer (some ⟨b,0,none⟩)]] w fun r w'=>r=.returned (.bool (l.any fun t=> !iu v t))∧Below w.heap.size w w':=
 Fb A n c l 242 [.pointer (some ⟨b,0,none⟩)] (fun t=> !iu v t) w hS hn fun z w1 hz2 hb=>Et z v b w1 (cn hb hp) (hz z hz2)
def lj (v:Int) (l:List TR):Int:=if jW v=false∨(l.any fun t=> !iu v t)=true then 1 else if 65536<l.length then 3 else iP l
theorem tJ (v:Int) (A:Option Addr) (n c:Nat) (l:List TR) (k:Nat) (w:World) (hT:dP w) (hS:Sl w A n 4 (aA TR.cells l)) (hn:n≤1000000) (hk:k≤2999980) (ho:kx k l) (hz:∀t∈l,t.m.size≤100000):
  Calls Tryz.prog 218 #[.int .i64 v,.slice A n c] w fun r w'=>∃g:PX,iy (lj v l) v (aU l) g∧r=.returned (.tuple #[.agg #[.int .i64 g.v,.slice g.A g.n g.c],.int .i64 (lj v l)])∧Hp w [g.row] w':=by
 have hh:=Hp.start w;have hln:=hS.bk TR.len Yp;have hfw:=fun w1=>oM v w1;have han:=fun b w1 hb hp=>x4 A n c l v b w1 (hS.ext hb) hn hp hz
 cases hf:jW v with
 |false=>
  rw [hf] at hfw;rw [show lj v l=1 by unfold lj;rw [Yt (.inl hf)]];refine IH ?_;refine sr ?_;refine bO hh [_] ?_;intro b2 w2 hh;refine bC hh ?_;intro b4 w4 hh;refine aI (aa (ah (sr ?_)));refine bp hh 1 ?_;refine bj hh (hfw _) rfl ?_;intro w7 hh;refine ig ?_;refine mB ?_;refine gS (gS ?_);refine jR ?_;exact HY
 |true=>
  rw [hf] at hfw
  cases ha:l.any fun t=> !iu v t with
  |true=>
   rw [ha] at han;rw [show lj v l=1 by unfold lj;rw [Yt (.inr ha)]];refine IH ?_;refine sr ?_;refine bO hh [_] ?_;intro b2 w2 hh;refine bC hh ?_;intro b4 w4 hh;refine aI (aa (ah (sr ?_)));refine bp hh 1 ?_;refine bj hh (hfw _) rfl ?_;intro w7 hh;refine ig ?_;refine mB (gT (mL (gT ?_)));refine vP ?_;refine aG rfl rfl ?_;refine bj hh (han _ _ hh.below (hh.dk (i:=1) (o:=0) rfl rfl)) rfl ?_;intro w12 hh;refine fK ?_;refine aa (cT (sr ?_));exact QV
  |false=>
   rw [ha] at han;have e1:lj v l=if 65536<l.length then 3 else iP l:=by unfold lj;rw [Yu (by rw [hf,ha];decide)]
   by_cases h6:65536<n
   ·rw [e1,Yt Yo];refine IH ?_;refine sr ?_;refine bO hh [_] ?_;intro b2 w2 hh;refine bC hh ?_;intro b4 w4 hh;refine aI (aa (ah (sr ?_)));refine bp hh 1 ?_;refine bj hh (hfw _) rfl ?_;intro w7 hh;refine ig ?_;refine mB (gT (mL (gT ?_)));refine vP ?_;refine aG rfl rfl ?_;refine bj hh (han _ _ hh.below (hh.dk (i:=1) (o:=0) rfl rfl)) rfl ?_;intro w12 hh;refine fK ?_;refine aa (cF (aq (ai (ah (sr (mL (aM ?_)))))));refine bT (aa (cT (sr ?_)));exact QV
   ·rw [e1,Yu Yo];refine IH ?_;refine sr ?_;refine bO hh [_] ?_;intro b2 w2 hh;refine bC hh ?_;intro b4 w4 hh;refine aI (aa (ah (sr ?_)));refine bp hh 1 ?_;refine bj hh (hfw _) rfl ?_;intro w7 hh;refine ig ?_;refine mB (gT (mL (gT ?_)));refine vP ?_;refine aG rfl rfl ?_;refine bj hh (han _ _ hh.below (hh.dk (i:=1) (o:=0) rfl rfl)) rfl ?_;intro w12 hh;refine fK ?_;refine aa (cF (aq (ai (ah (sr (mL (aM ?_)))))));refine bT (aa (cF (aq (ai (ah ?_)))));refine kO [] [0,0,2,7,15,15,63,127] 3 [[(2,none)],[(1,none)],[(20,some 1)]] [(2,21),(1,20),(0,19)] [([],4,[(2,21),(1,20),(0,19)])] hh mixed Yq Yq Yp ?_;refine fW 1 ?_;refine gI ?_;refine a7 (i:=2) (xh hh.sz 95 n 4 (aA TR.cells l)) (xh.ext) ?_ ?_
    ·intro ρ1 w1 hj hR;exact bV rfl (bf au.out (aC (show ρ1 20=Value.slice _ _ _ from hR.1) bh)) (mX A n c l w1 (hS.ext hj.hp.below) hn) (fun _ _ ⟨A,c,hq,ho,hb⟩=>⟨_,hq,hb,A,c,rfl,iB ho hj.bl.size⟩)
    refine aH ?_;intro p_ hp_;simp only [YH,ZN,or_false] at hp_
    rcases hp_ with rfl
    intro f W hJ hV;have hb_5:=hJ.bl;obtain ⟨v21,v20,v19,_⟩:=hV;simp only [ix];have e19:f 0=_:=v19;rw [e19];have e20:f 1=_:=v20;rw [e20];obtain ⟨A21,c21,e21,o21⟩:xh _ _ _ _ _ (f 2) W:=v21;rw [e21];replace hh:=JJ.EJ hh hJ.hp o21;clear o21;clear e19 e20 e21 hJ;refine ay (lJ v A21 n c21 l k _ hT hh hln Yo Yo ho) au.out rfl Yp ?_;rintro e_ w22 ⟨g,og,rfl,hh⟩;refine ⟨_,rfl, ?_⟩;refine eA ?_;refine dh (i:=4) (by repeat (first|exact cz|refine bR ?_|refine cG ?_|refine np_scope ?_)) rfl Yq Yq Yq (fun _=>eM (show _=Value.tuple (List.toArray _) from rfl) rfl) Yp ?_;refine dh (i:=5) (by repeat (first|exact cz|refine bR ?_|refine cG ?_|refine np_scope ?_)) rfl Yq Yq Yq (fun _=>eM (show _=Value.tuple (List.toArray _) from rfl) rfl) Yp ?_;refine jL 6 Yp Yq Yp Yq Yq ?_;exact Lk
def PX.cells (g:PX):List Value:=[.int .i64 g.v,.slice g.A g.n g.c]
theorem PX.len (g:PX):(PX.cells g).length=2:=rfl
structure PX.jX (g:PX) (k:Nat):Prop where
 n:g.n≤1000000
 cap:g.n≤g.c
 ok:kx k g.ts
 sz:∀t∈g.ts,t.m.size≤100000
def PX.e (g:PX):Int:=l0 g.v g.ts
theorem oV (g:PX) (k:Nat) (w:World) (hT:dP w) (h:g.at_ w) (hl:g.jX k):
  Calls Tryz.prog 65 #[.agg #[.int .i64 g.v,.slice g.A g.n g.c]] w fun r w'=>r=.returned (.int .i64 g.e)∧Below w.heap.size w w':=
 AG g.v g.A g.n g.c g.ts w hT h hl.n fun t ht=>⟨(hl.ok t ht).1,hl.sz t ht⟩
def Al (ps:List PX):Bool:=ps.any fun g=>decide (g.v≠(ps.map PX.v).headD 0)
def iZ (ps:List PX):Int:=match ps.find? (fun g=>decide (g.e≠0)) with|some g=>g.e|none=>if ps.length=0∨Al ps=true then 1 else 0
theorem EN (L:Option Addr) (n c:Nat) (ps:List PX) (f:PX) (p:Addr) (w:World) (hL:Sl w L n 2 (aA PX.cells ps)) (hp:w.cell? p=some (.slice L n c)) (hn:0<n):
  Calls Tryz.prog 246 #[.agg #[.int .i64 f.v,.slice f.A f.n f.c],.pointer (some p)] w fun r w'=>r=.returned (.bool (decide (f.v≠(ps.map PX.v).headD 0)))∧Below w.heap.size w w':=by
 have hh:=Hp.start w;have hln:=hL.bk PX.len Yp;obtain ⟨g,ps,rfl⟩:∃g l,ps=g::l:=by
  cases ps with
  |nil=>exact absurd hln (by show ¬0=n;omega)
  |cons g l=>exact ⟨g,l,rfl⟩
 obtain ⟨ad,rfl,hr⟩:=hL.at_ hn;have hd:(((g::ps).map PX.v).headD 0)=g.v:=rfl;rw [hd];have h0:(g::ps)[0]?=some g:=rfl;by_cases hg:f.v=g.v
 ·refine aj (N:=11) (l:=[.agg #[.int .i64 f.v,.slice f.A f.n f.c],.pointer (some p)]) Tryz.func246 rfl rfl (by simp) ?_;refine sr ?_;refine bO hh [_,_] ?_;intro b2 w2 hh;refine aB (aa (ah ?_));refine Rl ?_;refine dR ?_;refine fW 0 ?_;refine Hx ?_;refine bB (i:=3) (fun ρ1 w1 hj hR=>ew bG.out aJ.size (show ρ1 6=Value.slice _ _ _ from hR.1) rfl Yo Yo) ?_;refine Jz ?_;refine x7 (fun _ hj=>cn hj.hp.below (((hr.recAt PX.len h0)) 0 _ rfl)) ?_;refine aH ?_;intro f W hJ hV;have hb_1:=hJ.bl;obtain ⟨v9,v8,v7,v6,v5,v4,_⟩:=hV;replace hh:=hJ.hp;refine aN (a6 (ae v9 (ae v8 (ae v7 (ae v6 (ae v5 (ae v4 aO))))))) ?_;dsimp only [bP];clear hJ;exact Uu
 ·refine aj (N:=11) (l:=[.agg #[.int .i64 f.v,.slice f.A f.n f.c],.pointer (some p)]) Tryz.func246 rfl rfl (by simp) ?_;refine sr ?_;refine bO hh [_,_] ?_;intro b2 w2 hh;refine aB (aa (ah ?_));refine Rl ?_;refine dR ?_;refine fW 0 ?_;refine Hx ?_;refine bB (i:=3) (fun ρ1 w1 hj hR=>ew bG.out aJ.size (show ρ1 6=Value.slice _ _ _ from hR.1) rfl Yo Yo) ?_;refine Jz ?_;refine x7 (fun _ hj=>cn hj.hp.below (((hr.recAt PX.len h0)) 0 _ rfl)) ?_;refine aH ?_;intro f W hJ hV;have hb_1:=hJ.bl;obtain ⟨v9,v8,v7,v6,v5,v4,_⟩:=hV;replace hh:=hJ.hp;refine aN (a6 (ae v9 (ae v8 (ae v7 (ae v6 (ae v5 (ae v4 aO))))))) ?_;dsimp only [bP];clear hJ;exact TV
theorem Gb (A:Option Addr) (n c:Nat) (l:List PX) (g:FuncId) (cap:List Value) (p:PX→Bool) (w:World) (hS:Sl w A n 2 (aA PX.cells l)) (hn:n≤1000000) [au Tryz.prog g]
  (hg:∀(z:PX) (w1:World),z∈l→Below w.heap.size w w1→Calls Tryz.prog g (.agg #[.int .i64 z.v,.slice z.A z.n z.c]::cap).toArray w1 fun r w'=>r=.returned (.bool (p z))∧Below w1.heap.size w1 w'):
  Calls Tryz.prog 247 #[.slice A n c,.func (.func g) #[] cap.toArray] w fun r w'=>∃v,r=.returned (.int .i64 v)∧(0≤v↔l.any p=true)∧Below w.heap.size w w':=by
 have hh:=Hp.start w;have hln:=hS.bk PX.len Yp;refine aj (N:=19) (l:=[.slice A n c,.func (.func g) #[] cap.toArray]) Tryz.func247 rfl rfl (by simp) ?_;refine zJ ?_;refine aT [4,5,8,9,10,11,12,13,14,15,16,17,18] 8
  (fun v w'=>∃i:Nat,i≤n∧v=.int .i64 i∧(l.take i).any p=false∧Hp w [] w')
  (fun v _=>n-(intOf v).toNat) ?_ ?_
 ·exact ⟨0,Yx _,rfl,rfl,hh⟩
 ·clear hh;rintro ρ' v w' ⟨i,hi,rfl,hall,hh⟩;by_cases hlt:i<n
  ·obtain ⟨z,hz⟩:=ao (l:=l) (k:=i) Yo;obtain ⟨ad,rfl,hr⟩:=hS.at_ Yo;have hc:=fun w1=>hg z w1 (Yy hz)
   cases gz:p z with
   |true=>
    rw [gz] at hc;refine sr ?_;refine nq ?_;refine iY ?_;refine mL (mI ?_);refine bZ ?_;refine cg (vs:=[_,_]) aJ.out rfl ((hr.ext hh.below).recAt PX.len hz) rfl Yp ?_;exact Qs
   |false=>
    rw [gz] at hc;refine sr ?_;refine nq ?_;refine iY ?_;refine mL (mI ?_);refine bZ ?_;refine cg (vs:=[_,_]) aJ.out rfl ((hr.ext hh.below).recAt PX.len hz) rfl Yp ?_;exact Cl
  ·exact Pn
theorem wT (A:Option Addr) (n c:Nat) (l:List PX) (g:FuncId) (cap:List Value) (p:PX→Bool) (w:World) (hS:Sl w A n 2 (aA PX.cells l)) (hn:n≤1000000) [au Tryz.prog g]
  (hg:∀(z:PX) (w1:World),z∈l→Below w.heap.size w w1→Calls Tryz.prog g (.agg #[.int .i64 z.v,.slice z.A z.n z.c]::cap).toArray w1 fun r w'=>r=.returned (.bool (p z))∧Below w1.heap.size w1 w'):
  Calls Tryz.prog 225 #[.slice A n c,.func (.func g) #[] cap.toArray] w fun r w'=>r=.returned (.bool (l.any p))∧Below w.heap.size w w':=by
 have hh:=Hp.start w;refine aj (N:=9) (l:=[.slice A n c,.func (.func g) #[] cap.toArray]) Tryz.func225 rfl rfl (by simp) ?_;refine sr (aB (aa (sr (mL ?_))));refine iY ?_;refine ay (Gb A n c l g cap p _ (hS.ext hh.below) hn hg) au.out rfl Yp ?_;exact QN
theorem tQ (L:Option Addr) (n c:Nat) (ps:List PX) (k:Nat) (w:World) (hT:dP w) (hL:Sl w L n 2 (aA PX.cells ps)) (hn:n≤1000000) (hf:∀g∈ps,g.at_ w) (hl:∀g∈ps,g.jX k):
  Calls Tryz.prog 221 #[.slice L n c] w fun r w'=>r=.returned (.int .i64 (iZ ps))∧Below w.heap.size w w':=by
 have hh:=Hp.start w;have hln:=hL.bk PX.len Yp;refine aj (N:=26) (l:=[.slice L n c]) Tryz.func221 rfl rfl (by simp) ?_;refine sr ?_;refine bO hh [_] ?_;intro b1 w1 hh;refine aI (aa (ah (sr ?_)));refine bp hh 0 ?_;refine aM (mI (aa (ar ?_)));refine aT [2,4,5,8,9,10,11,12,13,14,15,16,17] 8
  (fun v w'=>∃i:Nat,i≤n∧v=.int .i64 i∧(ps.take i).any (fun g=>decide (g.e≠0))=false∧Hp w [.blk b1 215 [.slice L n c] (0,0)] w')
  (fun v _=>n-(intOf v).toNat) ?_ ?_
 ·exact ⟨0,Yx _,rfl,rfl,hh⟩
 ·clear hh;rintro ρ' v w' ⟨i,hi,rfl,hall,hh⟩;by_cases hlt:i<n
  ·obtain ⟨g,hx⟩:=ao (l:=ps) (k:=i) Yo;have hmem:=Yy hx;have hc:=fun w1 hT1 hb=>oV g k w1 hT1 ((hf g hmem).ext hb) (hl g hmem);obtain ⟨ad,rfl,hr⟩:=hL.at_ Yo;by_cases he:g.e=0
   ·refine sr ?_;refine dI ?_;refine bZ ?_;refine MO ?_;exact R7
   ·refine sr ?_;refine dI ?_;refine bZ ?_;refine MO ?_;refine bC hh ?_;intro b4 w4 hh;refine bg hh 0 [_,_] ?_;intro ws hh;replace hh:Hp _ (.blk _ _ [_,_] _::_) _:=hh;refine aa (sr ?_);refine bJ hh 0 [_,_] ?_;refine yh ?_;intro w13 hh;refine aI (aa (sr (mI ?_)));refine dn (aa (cT (sr (mI (aI (aa (av (bU (aF (aF (bU (aF ?_))))))))))));refine dH ?_;refine ⟨?_,hh.below⟩;unfold iZ;rw [r6 hall hx (YN he)]
  ·rw [YC Yo] at hall;have hlk:iZ ps=if ps.length=0∨Al ps=true then 1 else 0:=by unfold iZ;rw [j6 hall]
   rw [hlk];by_cases h0:n=0
   ·exact Vu
   ·have hcell:w'.cell? ⟨b1,0,none⟩=some (.slice L n c):=hh.dk (i:=0) rfl rfl;have ho:=fun w1 hb=>wT L n c ps 246 [.pointer (some ⟨b1,0,none⟩)] (fun g=>decide (g.v≠(ps.map PX.v).headD 0)) w1 (hL.ext (hh.below.trans (hb.mono hh.below.size))) hn (fun z w2 hz hb2=>EN L n c ps z ⟨b1,0,none⟩ w2 ((hL.ext (hh.below.trans (hb.mono hh.below.size))).ext hb2) (cn hb2 (cn hb hcell)) Yo)
    cases hod:Al ps with
    |true=>
     have hod2:ps.any (fun g=>decide (g.v≠(ps.map PX.v).headD 0))=true:=hod;exact VN
    |false=>
     have hod2:ps.any (fun g=>decide (g.v≠(ps.map PX.v).headD 0))=false:=hod;exact V0
variable {p:List TR}{β:Type}
def mulM (a b:ByteArray):ByteArray:=str (mulL a.data.toList b.data.toList).1
def sG (a b:ByteArray):Int:=(mulL a.data.toList b.data.toList).2
def vK (x y:TR):TR:=⟨mulM x.m y.m,nR (x.c.d*y.c.d)⟩
def dD (p q:List TR):List TR:=p.flatMap fun x=>q.map (vK x)
def y2 (p q:List TR):List Int:=p.flatMap fun x=>q.map fun y=>sG x.m y.m
def iD (p q:List TR):Int:=if 65536<p.length*q.length then 3 else match (y2 p q).find? fun e=>decide (e≠0) with|some e=>e|none=>if 4096<(aU (dD p q)).length then 3 else 0
theorem C0 {α β:Type}{f:α→List β}{k:Nat}:∀{l:List α},(∀x∈l,(f x).length=k)→(l.flatMap f).length=l.length*k
 |[],_=>by simp
 |x::l,h=>by
  rw [abu,YE,h x YD,C0 fun y hy=>h y (YK _ hy),Y3,ZA,aat]
theorem rZ (p q:List TR):(dD p q).length=p.length*q.length:=C0 fun x _=>YI _
theorem rY {γ:Type}{f:α→β→γ}{p:List α}{q:List β}{i:Nat}{x:α} (hx:p[i]?=some x):
  ((p.take (i+1)).flatMap fun x=>q.map (f x))=((p.take i).flatMap fun x=>q.map (f x))++(q.take q.length).map (f x):=by
 rw [aw hx,aa5,YC (YA _)];simp
theorem FB {γ:Type}{f:α→β→γ}{p:List α}{q:List β}{i:Nat}{x:α}{y:β} (hx:p[i]?=some x) (hy:q[j]?=some y):
  ∃R,(p.flatMap fun x=>q.map (f x))=(((p.take i).flatMap fun x=>q.map (f x))++(q.take j).map (f x))++f x y::R:=by
 refine ⟨(q.drop (j+1)).map (f x)++(p.drop (i+1)).flatMap fun x=>q.map (f x), ?_⟩;have e1:p=p.take i++x::p.drop (i+1):=by rw [←im hx,Zy]
 have e2:q=q.take j++y::q.drop (j+1):=by rw [←im hy,Zy]
 have e3:q.map (f x)=(q.take j).map (f x)++f x y::(q.drop (j+1)).map (f x):=by
  rw [←Y6,←ZD,←e2]
 calc (p.flatMap fun x=>q.map (f x))=(p.take i++x::p.drop (i+1)).flatMap fun x=>q.map (f x):=by rw [←e1]
  _=_:=by rw [aa5,abu,e3];simp
theorem u4 {q:List TR} (hp:kx k p) (hq:kx j q) (h:k+j≤1000000):kx (k+j) (dD p q):=fun t ht=>by
 obtain ⟨x,hx,ht⟩:=aak.1 ht;obtain ⟨y,hy,rfl⟩:=YF.1 ht;have hs:=(hp x hx).2.mul (hq y hy).2;exact ⟨hs.ok Yo,by show Sz _ (nR _).d;rw [bL];exact hs⟩
theorem Ko (a b:ByteArray):(mulM a b).size≤b.size:=by
 unfold mulM;rw [k6];unfold mulL;split
 ·rename_i l hl;have:=(y5 hl).2.2;have h4:l.length≤b.data.toList.length:=by rw [this.2,abN,dz,dz];omega
  have h5:(OT l).length≤l.length:=by unfold OT;split<;>simp
  rw [fJ];exact Y1 h5 h4
 ·exact Yx _
def vm (c:Dyadic) (t:TR):TR:=⟨t.m,nR (t.c.d*c)⟩
theorem fa {v:Int} (h:l0 v ts=0):jW v=true∧ts.length≤4096∧(∀t∈ts,iu v t=true)∧Canon ts:=by
 unfold l0 at h
 cases hf:jW v with
 |false=>rw [hf,Yt rfl] at h;omega
 |true=>
  rw [Yu (by rw [hf];decide)] at h;by_cases h4:4096<ts.length
  ·rw [Yt h4] at h;omega
  ·rw [Yu h4] at h;by_cases ho:okB v ts=true
   ·unfold okB at ho;rw [YP] at ho;have hg:∀t∈ts,pq v t=true:=Y0.1 ho.1;refine ⟨rfl,Yo,fun t ht=> ?_,rk.1 ho.2,fun t ht=> ?_,fun t ht=> ?_⟩
    ·exact (aaq.1 (hg t ht)).1
    ·exact FE (aaq.1 (aaq.1 (hg t ht)).2).1
    ·exact ((uO _).1 (aaq.1 (aaq.1 (hg t ht)).2).2).symm
   ·rw [Yu ho] at h;omega
theorem Ht {v:Int} (hf:jW v=true) (h4:ts.length≤4096) (hm:∀t∈ts,iu v t=true) (hc:Canon ts):l0 v ts=0:=by
 unfold l0;rw [Yu (by rw [hf];decide),Yu Yo,Yt];unfold okB;rw [YP];refine ⟨Y0.2 fun t ht=> ?_,rk.2 hc.uf⟩;show (iu v t && (pO t && Wz t.c))=true;rw [hm t ht,(uO _).2 (hc.nf t ht).symm];unfold pO;rw [YS (hc.nz t ht)]
 rfl
theorem Ug {v:Int}{s t:TR} (h:s.m=t.m) (hs:iu v s=true):iu v t=true:=by unfold iu at hs ⊢;rwa [←h]
theorem Gp {v:Int} (h:∀t∈l,iu v t=true):∀t∈aU l,iu v t=true:=fun t ht=>by
 obtain ⟨s,hs,e⟩:=kU t ht;exact Ug e (h s hs)
theorem lO {v:Int} (hf:jW v=true) (h4:(aU l).length≤4096) (hm:∀t∈l,iu v t=true):l0 v (aU l)=0:=Ht hf h4 (Gp hm) (gR l)
theorem LJ {v:Int}{x y:TR} (hx:iu v x=true) (h:sG x.m y.m=0):iu v (vK x y)=true:=by
 unfold iu at hx ⊢;rw [YP,YX] at hx;obtain ⟨_,_,h3,h4,h5⟩:=rp h;rw [YP,YX];have h6:=Ze List.length h5;rw [dz,abN,dz,dz,h3,Nat.min_self] at h6;refine ⟨?_, ?_⟩
 ·show fR (mulM x.m y.m).data.toList=true;unfold mulM;rw [eL];exact h4
 ·show ((mulM x.m y.m).size:Int)=v;unfold mulM;rw [k6,h6,←fJ];exact hx.2
theorem J0 {v:Int}{q:List TR} (hp:∀t∈p,iu v t=true) (h:∀e∈y2 p q,e=0):∀t∈dD p q,iu v t=true:=fun t ht=>by
 obtain ⟨x,hx,ht⟩:=aak.1 ht;obtain ⟨y,hy,rfl⟩:=YF.1 ht;exact LJ (hp x hx) (h _ (aak.2 ⟨x,hx,YF.2 ⟨y,hy,rfl⟩⟩))
theorem rK {q:List TR} (h:iD p q=0):p.length*q.length≤65536∧(∀e∈y2 p q,e=0)∧(aU (dD p q)).length≤4096:=by
 unfold iD at h;by_cases h6:65536<p.length*q.length
 ·rw [Yt h6] at h;omega
 ·rw [Yu h6] at h;split at h
  ·rename_i e he;have:=List.find?_some he;rw [YX] at this;exact absurd h this
  ·rename_i he;refine ⟨Yo,fun e hm=> ?_, ?_⟩
   ·have:=List.find?_eq_none.1 he e hm;simpa using this
   ·by_cases h4:4096<(aU (dD p q)).length
    ·rw [Yt h4] at h;omega
    ·omega
def iW (ps:List PX):Int:=(ps.map PX.v).headD 0
def DJ (ps:List PX):List TR:=ps.flatMap PX.ts
def K1 (ps:List PX):Int:=if iZ ps=0 then iP (DJ ps) else iZ ps
theorem A5 {ps:List PX} (h:iZ ps=0):ps≠[]∧(∀g∈ps,g.e=0)∧∀g∈ps,g.v=iW ps:=by
 unfold iZ at h;exact VI
theorem Bc {α β:Type}{f:α→List β}{B:Nat}:∀{l:List α},(∀x∈l,(f x).length≤B)→(l.flatMap f).length≤l.length*B
 |[],_=>by simp
 |x::l,h=>by
  rw [abu,YE,Y3,ZA];have h1:=h x YD;have h2:=Bc fun y hy=>h y (YK _ hy);omega
theorem Kh {f:α→List β}{l:List α}{i:Nat}{x:α} (h:l[i]?=some x):(l.take (i+1)).flatMap f=(l.take i).flatMap f++f x:=by
 rw [aw h,aa5];simp
theorem FN {k:List TR} (h:aU l=aU k):iP l=iP k:=by unfold iP;rw [h]
theorem rM {ps:List PX}{g:PX} (h:ps[0]?=some g):iW ps=g.v:=by
 rcases ps with _|⟨f,l⟩
 ·cases h
 ·have:f=g:=by simpa using h
  rw [←this];rfl
theorem xy (L:Option Addr) (n c:Nat) (ps:List PX) (k:Nat) (w:World) (hT:dP w) (hL:Sl w L n 2 (aA PX.cells ps)) (hn:n≤100) (hf:∀g∈ps,g.at_ w) (hl:∀g∈ps,g.jX k) (hk:k≤2999000):
  Calls Tryz.prog 192 #[.slice L n c] w fun r w'=>∃g:PX,iy (K1 ps) (iW ps) (aU (DJ ps)) g∧r=.returned (.tuple #[.agg #[.int .i64 g.v,.slice g.A g.n g.c],.int .i64 (K1 ps)])∧Hp w [g.row] w':=by
 have hh:=Hp.start w;have hln:=hL.bk PX.len Yp;have hlk:=fun w1 hT1 hb=>tQ L n c ps k w1 hT1 (hL.ext hb) Yo (fun g hg=>(hf g hg).ext hb) hl;unfold K1;by_cases h0:iZ ps=0
 ·rw [Yt h0];rw [h0] at hlk;obtain ⟨hne,rX,hvv⟩:=A5 h0;have hpos:=List.length_pos_iff.2 hne;obtain ⟨g0,h00⟩:=ao (l:=ps) (k:=0) hpos;rw [rM h00];have hfl:(DJ ps).length≤ps.length*4096:=Bc fun g hg=>(fa (rX g hg)).2.1;obtain ⟨ad,rfl,hr⟩:=hL.at_ Yo;refine aj (N:=33) (l:=[.slice (some ad) n c]) Tryz.func192 rfl rfl (by simp) ?_;refine sr ?_;refine bC hh ?_;intro b2 w2 hh;refine aI (aa (ah (sr (mL ?_))));refine yS ?_;intro w9 hh;refine aI (aa (sr (mI ?_)));refine dn (aa (cF (aq (ai (sr (aL (aa (ah (sr (mL (aM (mI (aa (ar ?_))))))))))))));replace hh:=hh.dm 95 4;refine bH [5,7,16,17,18,19,20,21,22,23,24] 5 16
   (fun a x w'=>∃(i:Nat) (M:List TR) (A':Option Addr) (c':Nat),i≤n∧x=.int .i64 i∧a=.slice A' M.length c'∧MD (k+i) ((ps.take i).flatMap PX.ts) M∧Hp w [.row A' M.length c' 95 4 (aA TR.cells M),.blk b2 52 [.int .i64 0,.slice none 0 0] (0,0)] w')
   (fun _ x _=>n-(intOf x).toNat) ?_ ?_
  ·exact ⟨0,[],none,0,Yx _,rfl,rfl,MD.self abA (fun t ht=>nomatch ht),hh⟩
  ·clear hh;rintro ρ' a_ x_ w' ⟨i,M,A',c',hi,rfl,rfl,hmd,hh⟩;have hfi:((ps.take i).flatMap PX.ts).length≤i*4096:=by
    have:=Bc (f:=PX.ts) (B:=4096) (l:=ps.take i) fun g hg=>(fa (rX g (aad hg))).2.1;rwa [YM,ZK Yo] at this
   have hML:=hmd.len;by_cases hlt:i<n
   ·obtain ⟨g,hx⟩:=ao (l:=ps) (k:=i) Yo;have hmem:=Yy hx;have hgl:=hl g hmem;have hge:=fa (rX g hmem);have hgc:=hgl.cap;have hgn:=hgl.n;refine sr ?_;refine dI ?_;refine bZ ?_;refine MO ?_;refine bC hh ?_;intro b7 w7 hh;refine bg hh 0 [_,_] ?_;intro ws hh;replace hh:Hp _ (.blk _ _ [_,_] _::_) _:=hh;refine aa (ak (mL (bo ?_)));refine bp hh 0 ?_;refine ay (ru A' M.length c' M g.A g.n g.c g.ts (k+i) _ (hT.hp hh) (hh.az (i:=1) rfl) ((hf g hmem).ext hh.below) (hh.gG (i:=1) rfl) hgc Yo hgn Yo hmd.uf hge.2.2.2.uf hmd.ok (hgl.ok.mono Yo)) au.out rfl Yp ?_;rintro e_ w23 ⟨L2,A2,c2,hm2,rfl,h3⟩;refine ⟨_,rfl, ?_⟩;replace hh:=hh.join h3;simp only [YB,Yz] at hh;refine lE ?_;refine a8 (mI (aD (ai ?_)));replace hh:=hh.sub (Yv _ (Yw _ (Yw _ (Yv _ YR))));refine ⟨⟨i+1,L2,A2,c2,Yo,rfl,rfl, ?_,hh⟩,by show n-(i+1)<n-i;omega, ?_⟩
    ·rw [Kh hx];exact hmd.Mf (MD.self hge.2.2.2.uf (hgl.ok.mono Yo:kx (k+i) g.ts)) hm2 Yo
    ·exact er
   ·obtain rfl:i=n:=Yo;rw [YC Yo] at hmd hfi hML;have hgM:aU M=aU (DJ ps):=Bb hmd.co;have hgE:=FN hgM;refine sr ?_;refine oF ?_;refine zz ?_;refine tk ?_;refine bY aJ.out rfl (cn hh.below ((hr.recAt PX.len h00) 0 _ rfl)) Yp ?_;refine mL ?_;refine ay (lJ _ A' M.length c' M (k+i) _ hT hh rfl Yo Yo hmd.ok) au.out rfl Yp ?_;rintro e_ w30 ⟨g,og,rfl,hh⟩;refine ⟨_,rfl, ?_⟩;refine cx ?_;refine cx ?_;refine bg hh 1 [_,_] ?_;intro ws hh;replace hh:Hp _ (_::.blk _ _ [_,_] _::_) _:=hh;refine aI (aa (av ?_));refine IM ?_;rw [←hgE,←hgM];exact UO
 ·rw [Yu h0];generalize iZ ps=e at*;refine aj (N:=33) (l:=[.slice L n c]) Tryz.func192 rfl rfl (by simp) ?_;refine sr ?_;refine bC hh ?_;intro b2 w2 hh;refine aI (aa (ah (sr (mL ?_))));refine yS ?_;intro w9 hh;exact Ql
def pC (s:ByteArray) (i:Nat):Int:=match s.data.toList[i]? with|some c=>c.toNat|none=>0
def DV (l:List TR) (i:Nat):Int:=l.foldl (fun m t=>max m (pC t.m i)) 0
def nw (m:Nat) (l:List TR):List Int:=(List.range m).map (DV l)
def yj (v:Int) (ts:List TR):List Int:=if l0 v ts=0 then nw v.toNat ts else []
theorem hU (m:Nat) (l:List TR):(nw m l).length=m:=by unfold nw;rw [YI,aaO]
theorem uP (l:List TR) (h:j<m):(nw m l)[j]?=some (DV l j):=by
 unfold nw;rw [YJ,ZF h]
 rfl
theorem vM (l:List TR) (t:TR) (i:Nat):DV (l++[t]) i=max (DV l i) (pC t.m i):=by unfold DV;rw [abo];rfl
theorem Me {s:ByteArray}{i:Nat}{c:UInt8} (h:s.data.toList[i]?=some c):pC s i=c.toNat:=by unfold pC;rw [h]
theorem PK {A B:List α}{y:α} (h:A.length=B.length) (hy:B[j]?=some y):(B.take j++A.drop j).set j y=B.take (j+1)++A.drop (j+1):=by
 have hj:=(YL.1 hy).1;have hl:(B.take j).length=j:=by rw [YM];omega
 obtain ⟨x,hx⟩:=ao (l:=A) (k:=j) Yo;rw [im hx,aw hy,aaz _ _ Yo,hl,Zn];simp
theorem OX {A B:List α}{x:α} (h:A.length=B.length) (hx:A[j]?=some x):(B.take j++A.drop j)[j]?=some x:=by
 have hj:=(YL.1 hx).1;have hl:(B.take j).length=j:=by rw [YM];omega
 exact RE
theorem Mu (m:Nat):iK m [.int .i64 0]=bD (nw m []):=by
 have h1:∀n,iK n [.int .i64 0]=bD (List.replicate n 0):=fun n=>by
  induction n with
  |zero=>rfl
  |succ n ih=>rw [iK,ih,aaT];rfl
 rw [h1];congr 1;apply ZI;intro i;by_cases h:i<m
 ·rw [uP [] h,abP,Yt h]
  rfl
 ·rw [YQ (by rw [ZG];omega),YQ (by rw [hU];omega)]
theorem th (p:PX) (k:Nat) (w:World) (hT:dP w) (hp:p.at_ w) (lp:p.jX k):
  Calls Tryz.prog 150 #[.agg #[.int .i64 p.v,.slice p.A p.n p.c]] w fun r w'=>∃A c,r=.returned (.slice A (yj p.v p.ts).length c)∧Hp w [.row A (yj p.v p.ts).length c 3 1 (bD (yj p.v p.ts))] w':=by
 have hh:=Hp.start w;have hck:=fun w1 hT1 hb=>oV p k w1 hT1 (hp.ext hb) lp;by_cases h0:p.e=0
 ·rw [show yj p.v p.ts=nw p.v.toNat p.ts from Yt h0,hU];rw [h0] at hck;obtain ⟨hf,h4,hmy,_⟩:=fa h0;have hpl:p.ts.length=p.n:=hp.ln;obtain ⟨pv,pA,pn,pc,ts⟩:=p;replace hf:=jb.1 hf;replace hmy:∀t∈ts,iu pv t=true:=hmy;replace hp:Sl w pA pn 4 (aA TR.cells ts):=hp;have hsz:∀t∈ts,t.m.size≤100000:=lp.sz;have hn:=lp.n;replace hn:pn≤1000000:=hn;replace hpl:ts.length=pn:=hpl;obtain ⟨m,rfl⟩:∃m:Nat,pv=(m:Int):=⟨pv.toNat,by show pv=_;have:0≤pv:=hf.1;omega⟩;replace hf:m≤12:=by have h9:(m:Int)≤12:=hf.2;omega
  show Calls _ _ _ _ fun r w'=>∃A c,r=.returned (.slice A m c)∧Hp w [.row A m c 3 1 (bD (nw m ts))] w';refine aj (N:=42) (l:=[.agg #[.int .i64 m,.slice pA pn pc]]) Tryz.func150 rfl rfl (by simp) ?_;refine sr ?_;refine bO hh [_,_] ?_;intro b1 w1 hh;refine aL (aa (ah (sr ?_)));refine bJ hh 0 [_,_] ?_;refine fS ?_;intro w9 hh;refine dn (aa (cF (aq (ai (sr (bo ?_))))));refine bp hh 0 ?_;refine gj (n:=m) hh rfl rfl Yo Yo bG.out aJ.out rfl Yo Yo Yp ?_;intro b13 w13 hh;refine aL (aa (ah (sr (bo ?_))));refine bp hh 1 ?_;refine aM (mI (aa (ar ?_)));rw [Mu] at hh;refine aT [5,6,7,17,18,19,20,21,22,23,24,25,26,27,28,29,30,31,32,33,34,35,36,37,38,39,40] 17
   (fun v w'=>∃i:Nat,i≤pn∧v=.int .i64 i∧Hp w [.row (some ⟨b13,0,none⟩) m m 3 1 (bD (nw m (ts.take i))),.blk b1 52 [.int .i64 m,.slice pA pn pc] (0,0)] w')
   (fun v _=>pn-(intOf v).toNat) ?_ ?_
  ·exact ⟨0,Yx _,rfl,hh⟩
  ·clear hh;rintro ρ' v w' ⟨i,hi,rfl,hh⟩;by_cases hlt:i<pn
   ·obtain ⟨x,hx⟩:=ao (l:=ts) (k:=i) Yo;obtain ⟨ad,rfl,hr⟩:=hp.at_ Yo;have hxm:=Yy hx;have hxs:=hsz x hxm;have hmx:=aaq.1 (hmy x hxm);have hxz:x.m.size=m:=by have:=aax hmx.2;omega
    have hxl:x.m.data.toList.length=m:=by rw [←fJ];exact hxz
    have hex:kg x.m.data.toList=ints x.m.data.toList:=mb hmx.1;have hel:(kg x.m.data.toList).length=m:=by rw [hex,dz];exact hxl
    have hBl:(nw m (ts.take i)).length=(nw m (ts.take (i+1))).length:=by rw [hU,hU]
    refine sr ?_;refine dI ?_;refine bZ ?_;refine qN ?_;refine bC hh ?_;intro b5 w5 hh;refine bg hh 0 [_,_,_,_] ?_;intro ws hh;replace hh:Hp _ (.blk _ _ [_,_,_,_] _::_) _:=hh;refine aa (sr (bo ?_));refine bp hh 0 ?_;refine ay (j4 x.m _ hxs) au.out rfl Yp ?_;rintro e_ w23 ⟨A23,c23,rfl,hown_,hb_⟩;refine ⟨_,rfl, ?_⟩;replace hh:=hh.aP (x:=.row _ _ _ _ _ _) hb_ hown_;rw [hel] at hh ⊢;refine aM (mI (aa (ar ?_)));refine aT [6,7,25,26,27,28,29,30,31,32,33,34,35,36,37,38,39] 25
     (fun v w'=>∃j:Nat,j≤m∧v=.int .i64 j∧Hp w [.row A23 m c23 3 1 (bD (kg x.m.data.toList)),.blk b5 95 [.string x.m,.bool x.c.neg,.string x.c.aY,.int .i64 x.c.e] (0,0),.row (some ⟨b13,0,none⟩) m m 3 1 (bD ((nw m (ts.take (i+1))).take j++(nw m (ts.take i)).drop j)),.blk b1 52 [.int .i64 m,.slice (some ad) pn pc] (0,0)] w')
     (fun v _=>m-(intOf v).toNat) ?_ ?_
    ·exact ⟨0,Yx _,rfl,hh⟩
    ·clear hh;rintro ρ2 v w2 ⟨j,hj,rfl,hh⟩;by_cases hjn:j<m
     ·obtain ⟨e,he⟩:=ao (l:=x.m.data.toList) (k:=j) Yo;have hee:(kg x.m.data.toList)[j]?=some (e.toNat:Int):=by rw [hex];exact Po he
      have ho:=OX hBl (uP (ts.take i) hjn);have hset:=PK hBl (uP (ts.take (i+1)) hjn);have hmx2:DV (ts.take (i+1)) j=max (DV (ts.take i) j) (e.toNat:Int):=by rw [aw hx,vM,Me he]
      rw [hmx2] at hset;have hol:((nw m (ts.take (i+1))).take j++(nw m (ts.take i)).drop j).length=m:=by rw [YE,YM,Zz,hU,hU];omega
      generalize (nw m (ts.take (i+1))).take j++(nw m (ts.take i)).drop j=M at*;have hee2:=cK hee;have ho2:=cK ho;have hll:(bD M).length=m:=by rw [cQ];exact hol
      obtain ⟨g,rfl⟩:=hh.cq (i:=0) rfl Yo;refine sr ?_;refine dY ?_;refine ni ?_;refine kZ ?_;refine aI (aI (aa (ak (mL (mI (mL (mI ?_)))))));refine ni ?_;refine bY aJ.out rfl (hh.iC (i:=2) rfl (by first|assumption|(simp only [YV];assumption))) Yp ?_;refine mI ?_;refine k9 rfl rfl Yp ?_;refine DL ?_;have hmv:(if (e.toNat:Int)>DV (ts.take i) j then (e.toNat:Int) else DV (ts.take i) j)=max (DV (ts.take i) j) (e.toNat:Int):=by split<;>omega
      refine ct hh (i:=2) (vs:=[_]) rfl rfl (dt rfl) rfl aJ.out rfl Yo rfl ?_;intro ws hh;simp only [YG,Y8] at hh;rw [hmv,lv _ (by rw [←cQ];omega),hset] at hh;refine gu ?_;refine a8 (mI (aD (ai ?_)));refine ⟨⟨j+1,Yo,rfl,hh⟩,by show m-(j+1)<m-j;omega, ?_⟩;exact er
     ·obtain rfl:j=m:=Yo;rw [YC (by rw [hU];omega),aaw (by rw [hU];omega),Y7] at hh;refine sr ?_;refine rQ ?_;refine a8 (mI (aD (ai ?_)));replace hh:=hh.sub (Yw _ (Yw _ (Yv _ (Yv _ YR))));refine ⟨⟨i+1,Yo,rfl,hh⟩,by show pn-(i+1)<pn-i;omega, ?_⟩;exact er
   ·obtain rfl:i=pn:=Yo;rw [YC Yo] at hh;exact VX
 ·rw [show yj p.v p.ts=[] from Yu h0];refine aj (N:=42) (l:=[.agg #[.int .i64 p.v,.slice p.A p.n p.c]]) Tryz.func150 rfl rfl (by simp) ?_;refine sr ?_;refine bO hh [_,_] ?_;intro b1 w1 hh;refine aL (aa (ah (sr ?_)));refine bJ hh 0 [_,_] ?_;refine fS ?_;intro w9 hh;refine dn (aa (cT (sr (aL (aa (av (aF ?_)))))));refine dH ?_;exact ⟨none,0,rfl,(hh.sub (Zx _)).dm 3 1⟩
def EK (dg ds:List Int):Bool:=(dg.zip ds).any fun q=>decide (q.2<q.1∨127<q.2)
def ph (p:PX) (b:List SR) (ds:List Int):Int:=
 if p.e≠0 then p.e else if tY b≠0 then tY b else if (b.length:Int)≠p.v∨(ds.length:Int)≠p.v then 1 else if EK (yj p.v p.ts) ds=true then 1 else if jq 1 ds=0 then 3 else 0
theorem Ih {a:List α}{b:List β}{i:Nat}{x:α}{y:β} (hx:a[i]?=some x) (hy:b[i]?=some y):(a.zip b)[i]?=some (x,y):=by
 rw [abX];exact ⟨hx,hy⟩
theorem vR (p:PX) (L:Option Addr) (n c:Nat) (b:List SR) (M:Option Addr) (m mc:Nat) (ds:List Int) (k:Nat) (w:World) (hT:dP w) (hp:p.at_ w) (lp:p.jX k) (hB:Sl w L n 6 (aA SR.cells b)) (hb:∀s∈b,s.ok) (hn:n≤1000000) (hD:Sl w M m 1 (bD ds)) (hm:m≤1000000):
  Calls Tryz.prog 151 #[.agg #[.int .i64 p.v,.slice p.A p.n p.c],.slice L n c,.slice M m mc] w fun r w'=>r=.returned (.int .i64 (ph p b ds))∧Below w.heap.size w w':=by
 have hh:=Hp.start w;have hck:=fun w1 hT1 hb=>oV p k w1 hT1 (hp.ext hb) lp;have hbk:=fun w1 hT1 hb1=>z8 L n c b w1 hT1 (hB.ext hb1) hb hn;have hdg:=fun w1 hT1 hb=>th p k w1 hT1 (hp.ext hb) lp;have hbl:b.length=n:=hB.bk SR.len Yp;have hdl:ds.length=m:=by have:=hD.1;rw [cQ] at this;omega
 unfold ph;by_cases h0:p.e≠0
 ·rw [Yt h0];generalize p.e=e at*;refine Cy ?_;refine sr ?_;refine bO hh [_,_] ?_;intro b3 w3 hh;refine aI (aa (ah (sr ?_)));refine bJ hh 0 [_,_] ?_;refine fS ?_;intro w12 hh;exact Sb
 ·rw [Yu h0];have hpe:p.e=0:=Yo;rw [hpe] at hck;by_cases h1:tY b≠0
  ·rw [Yt h1];generalize tY b=e at*;refine Cy ?_;refine sr ?_;refine bO hh [_,_] ?_;intro b3 w3 hh;refine aI (aa (ah (sr ?_)));refine bJ hh 0 [_,_] ?_;refine fS ?_;intro w12 hh;refine aI (aa (sr (mI ?_)));refine Iz ?_;refine bj hh (hbk _ (hT.hp hh) hh.below) rfl ?_;intro w17 hh;exact Sb
  ·rw [Yu h1];rw [show tY b=0 by omega] at hbk;by_cases h2:(b.length:Int)≠p.v
   ·rw [Yt (.inl h2)];refine Cy ?_;refine sr ?_;refine bO hh [_,_] ?_;intro b3 w3 hh;refine aI (aa (ah (sr ?_)));refine bJ hh 0 [_,_] ?_;refine fS ?_;intro w12 hh;refine aI (aa (sr (mI ?_)));refine Iz ?_;refine bj hh (hbk _ (hT.hp hh) hh.below) rfl ?_;intro w17 hh;refine aI (aa (sr (mI ?_)));refine tr ?_;refine bp hh 0 ?_;refine dn (mB ?_);refine gS (gS (gS (gS (gS ?_))));refine gi ?_;exact Th
   ·by_cases h3:(ds.length:Int)≠p.v
    ·rw [Yt (.inr h3)];refine Cy ?_;refine sr ?_;refine bO hh [_,_] ?_;intro b3 w3 hh;refine aI (aa (ah (sr ?_)));refine bJ hh 0 [_,_] ?_;refine fS ?_;intro w12 hh;refine aI (aa (sr (mI ?_)));refine Iz ?_;refine bj hh (hbk _ (hT.hp hh) hh.below) rfl ?_;intro w17 hh;refine aI (aa (sr (mI ?_)));refine tr ?_;refine bp hh 0 ?_;refine dn (mB (gT (mL (gT (aM (gT (bo (gT ?_))))))));refine bp hh 0 ?_;refine gT ?_;refine dn ?_;refine fK ?_;exact Th
    ·rw [Yu (fun h=>h.elim h2 h3)];have hgl:(yj p.v p.ts).length=m:=by
      unfold yj;rw [Yt (show l0 p.v p.ts=0 from hpe),hU];omega
     have hzl:((yj p.v p.ts).zip ds).length=m:=by rw [List.length_zip];omega
     have hbd:EK (yj p.v p.ts) ds=((yj p.v p.ts).zip ds).any fun q=>decide (q.2<q.1∨127<q.2):=rfl;generalize yj p.v p.ts=dg at*;rw [hgl] at hdg;refine Cy ?_;refine sr ?_;refine bO hh [_,_] ?_;intro b3 w3 hh;refine aI (aa (ah (sr ?_)));refine bJ hh 0 [_,_] ?_;refine fS ?_;intro w12 hh;refine aI (aa (sr (mI ?_)));refine Iz ?_;refine bj hh (hbk _ (hT.hp hh) hh.below) rfl ?_;intro w17 hh;refine aI (aa (sr (mI ?_)));refine tr ?_;refine bp hh 0 ?_;refine dn (mB (gT (mL (gT (aM (gT (bo (gT ?_))))))));refine bp hh 0 ?_;refine gT ?_;refine dn ?_;refine fK ?_;refine aa (cF (aq (ai (ah (sr ?_)))));refine bJ hh 0 [_,_] ?_;refine ay (hdg _ (hT.hp hh) hh.below) au.out rfl Yp ?_;rintro e_ w34 ⟨G,gc,rfl,h4⟩;refine ⟨_,rfl, ?_⟩;replace hh:=hh.join h4;simp only [YB,Yz] at hh;refine aM (mI (aa (ar ?_)));refine aT [6,9,10,36,37,38,39,40,41,42,43,44,45,46,47,48,49,50,51,52,53,54] 36
      (fun v w'=>∃i:Nat,i≤m∧v=.int .i64 i∧((dg.zip ds).take i).any (fun q=>decide (q.2<q.1∨127<q.2))=false∧Hp w [.row G m gc 3 1 (bD dg),.blk b3 52 [.int .i64 p.v,.slice p.A p.n p.c] (0,0)] w')
      (fun v _=>m-(intOf v).toNat) ?_ ?_
     ·exact ⟨0,Yx _,rfl,rfl,hh⟩
     ·clear hh;rintro ρ' v w' ⟨i,hi,rfl,hall,hh⟩;by_cases hlt:i<m
      ·obtain ⟨x,hx⟩:=ao (l:=dg) (k:=i) Yo;obtain ⟨y,hy⟩:=ao (l:=ds) (k:=i) Yo;have hz:=Ih hx hy;have hx2:=cK hx;have hy2:=cK hy;have hll:(bD dg).length=m:=by rw [cQ];exact hgl
       obtain ⟨ad,rfl,hr⟩:=hD.at_ Yo;obtain ⟨g0,rfl⟩:=hh.cq (i:=0) rfl Yo;by_cases hxy:y<x
       ·refine sr ?_;refine dY ?_;refine il ?_;refine kZ ?_;refine aI (aI (aa (sr (mL (mI ?_)))));refine bZ ?_;refine Ev ?_;refine mI ?_;refine a9 (mB ?_);refine gS (gS (gS (gS (gS ?_))));refine gi ?_;refine Li ?_;refine dH ?_;rw [Yt (by rw [hbd];exact aae.2 ⟨_,Yy hz,YN (.inl hxy)⟩)];exact ⟨rfl,hh.below⟩
       ·by_cases hy7:127<y
        ·refine sr ?_;refine dY ?_;refine il ?_;refine kZ ?_;refine aI (aI (aa (sr (mL (mI ?_)))));refine bZ ?_;refine Ev ?_;refine mI ?_;refine a9 (mB (gT (mL (gT (mI (gT ?_))))));refine bZ ?_;refine aG rfl rfl ?_;refine Ev ?_;refine gT ?_;refine bT ?_;refine fK ?_;refine Li ?_;refine dH ?_;rw [Yt (by rw [hbd];exact aae.2 ⟨_,Yy hz,YN (.inr hy7)⟩)];exact ⟨rfl,hh.below⟩
        ·refine sr ?_;refine dY ?_;refine il ?_;refine kZ ?_;refine aI (aI (aa (sr (mL (mI ?_)))));refine bZ ?_;refine Ev ?_;refine mI ?_;refine a9 (mB (gT (mL (gT (mI (gT ?_))))));refine bZ ?_;refine aG rfl rfl ?_;refine Ev ?_;refine gT ?_;refine bT ?_;refine fK ?_;refine y3 ?_;refine a8 (mI (aD (ai ?_)));refine ⟨⟨i+1,Yo,rfl,by rw [aw hz,aaU,hall,aa0,aa3,YS (fun h=>h.elim hxy hy7)];rfl,hh⟩,by show m-(i+1)<m-i;omega, ?_⟩;exact er
      ·rw [YC Yo] at hall;rw [Yu (by rw [hbd,hall];decide)];have hcn:=fun w1 hb=>fP M m mc ds w1 (hD.ext hb) hm;refine sr ?_;refine OK ?_;by_cases h9:jq 1 ds=0
       ·rw [Yt h9];rw [h9] at hcn;refine bj hh (hcn _ hh.below) rfl ?_;intro w56 hh;refine Hz ?_;refine dH ?_;exact ⟨rfl,hh.below⟩
       ·rw [Yu h9];generalize jq 1 ds=N at*;refine bj hh (hcn _ hh.below) rfl ?_;intro w56 hh;refine cH (aa (cF (aq (ai (sr (aI (aa (av ?_))))))));refine dH ?_;exact ⟨rfl,hh.below⟩
theorem LC {q:List TR} (h:65536<p.length*q.length):iD p q=3:=by unfold iD;rw [Yt h]
theorem PY {q:List TR}{e:Int} (h6:¬65536<p.length*q.length) {a b:List Int} (h:y2 p q=a++e::b) (ha:∀x∈a,x=0) (he:e≠0):iD p q=e:=by
 unfold iD;rw [Yu h6,h,List.find?_append,j6 (aab.2 fun x hx=>by simp [ha x hx]),List.find?_cons_of_pos (p:=fun e:Int=>decide (e≠0)) (by simpa using he)]
 rfl
theorem MQ {q:List TR} (h6:¬65536<p.length*q.length) (h:∀x∈y2 p q,x=0):iD p q=iP (dD p q):=by
 unfold iD iP;rw [Yu h6,j6 (aab.2 fun x hx=>by simp [h x hx])]
theorem AX (p q:PX) (k k2:Nat) (w:World) (hT:dP w) (hp:p.at_ w) (hq:q.at_ w) (lp:p.jX k) (lq:q.jX k2) (hk:k+k2≤900000):
  Calls Tryz.prog 254 #[.agg #[.int .i64 p.v,.slice p.A p.n p.c],.agg #[.int .i64 q.v,.slice q.A q.n q.c]] w fun r w'=>∃g:PX,iy (iD p.ts q.ts) p.v (aU (dD p.ts q.ts)) g∧r=.returned (.tuple #[.agg #[.int .i64 g.v,.slice g.A g.n g.c],.int .i64 (iD p.ts q.ts)])∧Hp w [g.row] w':=by
 have hh:=Hp.start w;obtain ⟨pv,pA,pn,pc,ps⟩:=p;obtain ⟨qv,qA,qn,qc,qs⟩:=q;have hpl:ps.length=pn:=hp.ln;have hql:qs.length=qn:=hq.ln;have hpn:pn≤1000000:=lp.n;have hqn:qn≤1000000:=lq.n;have okp:kx k ps:=lp.ok;have okq:kx k2 qs:=lq.ok;have szp:∀t∈ps,t.m.size≤100000:=lp.sz;have szq:∀t∈qs,t.m.size≤100000:=lq.sz;replace hp:Sl w pA pn 4 (aA TR.cells ps):=hp;replace hq:Sl w qA qn 4 (aA TR.cells qs):=hq;clear lp lq;show Calls _ _ _ _ fun r w'=>∃g:PX,iy (iD ps qs) pv (aU (dD ps qs)) g∧r=.returned (.tuple #[.agg #[.int .i64 g.v,.slice g.A g.n g.c],.int .i64 (iD ps qs)])∧Hp w [g.row] w';have hmm:pn*qn≤1000000*1000000:=Z5 hpn hqn;obtain ⟨m,hm⟩:∃m,m=pn*qn:=⟨_,rfl⟩;have hmi:(pn:Int)*(qn:Int)=(m:Int):=by rw [hm];exact (ZB _ _).symm
 by_cases h6:65536<m
 ·rw [LC (by rw [hpl,hql,←hm];exact h6)];refine aj (N:=67) (l:=[.agg #[.int .i64 pv,.slice pA pn pc],.agg #[.int .i64 qv,.slice qA qn qc]]) Tryz.func254 rfl rfl (by simp) ?_;refine sr ?_;refine bO hh [_,_] ?_;intro b2 w2 hh;refine bO hh [_,_] ?_;intro b3 w3 hh;refine bC hh ?_;intro b4 w4 hh;refine aI (aa (ah (sr (bo ?_))));refine bp hh 2 ?_;refine aM (bo ?_);refine bp hh 1 ?_;refine aM ?_;refine mulC ?_;refine bT (aa (cT (sr ?_)));exact QV
 ·have hbig:¬65536<ps.length*qs.length:=by rw [hpl,hql,←hm];exact h6
  refine aj (N:=67) (l:=[.agg #[.int .i64 pv,.slice pA pn pc],.agg #[.int .i64 qv,.slice qA qn qc]]) Tryz.func254 rfl rfl (by simp) ?_;refine sr ?_;refine bO hh [_,_] ?_;intro b2 w2 hh;refine bO hh [_,_] ?_;intro b3 w3 hh;refine bC hh ?_;intro b4 w4 hh;refine aI (aa (ah (sr (bo ?_))));refine bp hh 2 ?_;refine aM (bo ?_);refine bp hh 1 ?_;refine aM ?_;refine mulC ?_;refine bT (aa (cF (aq (ai (sr (aL (aa (ah (sr (bo ?_))))))))));refine bp hh 2 ?_;refine aM (mI (aa (ar ?_)));replace hh:=hh.dm 95 4;have hall:∀i,((ps.take i).flatMap fun x=>qs.map (vK x)).length≤65536:=fun i=>by
   have h1:(dD ps qs).length=((ps.take i).flatMap fun x=>qs.map (vK x)).length+((ps.drop i).flatMap fun x=>qs.map (vK x)).length:=by
    unfold dD;rw [←YE,←aa5,Zy]
   rw [rZ] at h1;omega
  refine bH [5,6,8,10,11,12,25,26,27,28,29,30,31,32,33,34,35,36,37,38,39,40,41,42,43,44,45,46,47,48,49,50,51,52,53,54,55,56,57,58,59,60] 6 25
   (fun a x w'=>∃(i:Nat) (M:List TR) (A':Option Addr) (c':Nat),i≤pn∧x=.int .i64 i∧a=.slice A' M.length c'∧M=((ps.take i).flatMap fun x=>qs.map (vK x))∧(∀e∈((ps.take i).flatMap fun x=>qs.map fun y=>sG x.m y.m),e=0)∧Hp w [.row A' M.length c' 95 4 (aA TR.cells M),.blk b4 52 [.int .i64 0,.slice none 0 0] (0,0),.blk b3 52 [.int .i64 qv,.slice qA qn qc] (0,0),.blk b2 52 [.int .i64 pv,.slice pA pn pc] (0,0)] w')
   (fun _ x _=>pn-(intOf x).toNat) ?_ ?_
  ·exact ⟨0,[],none,0,Yx _,rfl,rfl,rfl,fun e he=>(nomatch he),hh⟩
  ·clear hh;rintro ρ' a_ x_ w' ⟨i,M,A',c',hi,rfl,rfl,hM,hz,hh⟩;have hMl:=hall i;rw [←hM] at hMl;by_cases hlt:i<pn
   ·obtain ⟨x,hx⟩:=ao (l:=ps) (k:=i) Yo;obtain ⟨ad,rfl,hr⟩:=hp.at_ Yo;have hxm:=Yy hx;have hxo:=okp x hxm;have hxs:=szp x hxm;refine sr ?_;refine dI ?_;refine bZ ?_;refine qN ?_;refine bC hh ?_;intro b8 w8 hh;refine bg hh 0 [_,_,_,_] ?_;intro ws hh;replace hh:Hp _ (.blk _ _ [_,_,_,_] _::_) _:=hh;refine aa (sr (bo ?_));refine bp hh 3 ?_;refine aM (mI (aa (ar ?_)));replace hh:=hh.perm (Zp (l₁:=[_]));simp only [YB,Yz] at hh;refine bH [5,6,10,11,12,32,33,34,35,36,37,38,39,40,41,42,43,44,45,46,47,48,49,50,51,52,53,54,55,56,57,58,59] 6 32
     (fun a z w'=>∃(j:Nat) (N:List TR) (A':Option Addr) (c':Nat),j≤qn∧z=.int .i64 j∧a=.slice A' N.length c'∧N=M++(qs.take j).map (vK x)∧(∀e∈(qs.take j).map (fun y=>sG x.m y.m),e=0)∧Hp w [.row A' N.length c' 95 4 (aA TR.cells N),.blk b8 95 [.string x.m,.bool x.c.neg,.string x.c.aY,.int .i64 x.c.e] (0,0),.blk b4 52 [.int .i64 0,.slice none 0 0] (0,0),.blk b3 52 [.int .i64 qv,.slice qA qn qc] (0,0),.blk b2 52 [.int .i64 pv,.slice (some ad) pn pc] (0,0)] w')
     (fun _ z _=>qn-(intOf z).toNat) ?_ ?_
    ·refine ⟨0,M,A',c',Yx _,rfl,rfl,by simp,fun e he=>(nomatch he),hh⟩
    ·clear hh;rintro ρ2 a2 x2 w2 ⟨j,N,A2,c2,hj,rfl,rfl,hN,hz2,hh⟩;by_cases hjn:j<qn
     ·obtain ⟨y,hy⟩:=ao (l:=qs) (k:=j) Yo;obtain ⟨ad2,rfl,hr2⟩:=hq.at_ Yo;have hym:=Yy hy;have hyo:=okq y hym;have hys:=szq y hym;have hmul:∀w1,Calls Tryz.prog 257 #[.string x.m,.string y.m] w1 fun r w'=>r=.returned (.tuple #[.string (mulM x.m y.m),.int .i64 (sG x.m y.m)])∧Below w1.heap.size w1 w':=fun w1=>JE x.m y.m w1 hxs hys;have hdm:=fun A cc w1 hT1 hS1=>fZ A 2 cc [x.c,y.c] w1 hT1 hS1 (by simpa using ⟨hxo.1,hyo.1⟩) (k+k2) (by simpa using ⟨hxo.2.mono Yo,hyo.2.mono Yo⟩) Yo Yp;rw [show iw ([x.c,y.c].map NR.d)=x.c.d*y.c.d by show 1*x.c.d*y.c.d=_;rw [aap]] at hdm;obtain ⟨R,hR⟩:=FB (f:=fun x y=>sG x.m y.m) hx hy;have hzz:∀e∈((ps.take i).flatMap fun x=>qs.map fun y=>sG x.m y.m)++(qs.take j).map (fun y=>sG x.m y.m),e=0:=fun e he=>by
       rcases Zm.1 he with he|he
       ·exact hz e he
       ·exact hz2 e he
      have hNl:N.length<65536:=by
       have h1:=hall (i+1);rw [rY hx,YE,←hM] at h1;rw [hN,YE];simp at h1 ⊢;omega
      by_cases he:sG x.m y.m=0
      ·refine sr ?_;refine dI ?_;refine tO ?_;refine cg (vs:=[_,_,_,_]) aJ.out rfl ((hr2.ext hh.below).recAt TR.len hy) rfl Yp ?_;refine bC hh ?_;intro b10 w10 hh;refine bg hh 0 [_,_,_,_] ?_;intro ws hh;replace hh:Hp _ (.blk _ _ [_,_,_,_] _::_) _:=hh;refine aa (sr (bo ?_));refine bp hh 2 ?_;refine bo ?_;refine bp hh 0 ?_;refine bj hh (hmul _) rfl ?_;intro w41 hh;refine mT ?_;refine cx ?_;refine cx ?_;refine aS (aI (aa (ah (sr (mI ?_)))));refine dn (aa (cF (aq (ai (ak (mL (mS (bo ?_))))))));refine bJ hh 2 [_,_,_] (bo ?_);refine bJ hh 0 [_,_,_] ?_;refine rF ?_;intro b54 w54 hh;refine bj hh (hdm _ _ _ (hT.hp hh) (hh.az (i:=0) rfl)) rfl ?_;intro w55 hh;refine fe [_,_,_,_] ?_;refine D6 ?_;intro b57 w57 hh;refine R9 ?_;intro A58 c58 w58 hh;simp only [YG,Y8] at hh;replace hh:=hh.sub (Zc _ _);refine lE ?_;refine a8 (mI (aD (ai ?_)));have e1:aA TR.cells N++[.string (mulM x.m y.m),.bool (nR (x.c.d*y.c.d)).neg,.string (nR (x.c.d*y.c.d)).aY,.int .i64 (nR (x.c.d*y.c.d)).e]=aA TR.cells (N++[vK x y]):=by rw [bM,rA];rfl
       replace hh:=show Hp w (_::_::.row A58 (N.length+1) c58 95 4 (aA TR.cells N++[.string (mulM x.m y.m),.bool (nR (x.c.d*y.c.d)).neg,.string (nR (x.c.d*y.c.d)).aY,.int .i64 (nR (x.c.d*y.c.d)).e])::_) w58 from hh;rw [e1] at hh;replace hh:=hh.sub (Yw _ (Yw _ (Yv _ (Yv _ (Yv _ (Yv _ (Yv _ YR)))))));refine ⟨⟨j+1,N++[vK x y],_,_,Yo,rfl,by rw [YE];rfl,by rw [hN,aw hy,ZD,Y5];rfl,fun e h=> ?_, ?_⟩,by show qn-(j+1)<qn-j;omega, ?_⟩
       ·rw [aw hy,ZD,Zm] at h
        rcases h with h|h
        ·exact hz2 e h
        ·rw [YT.1 h];exact he
       ·rw [YE];exact hh
       ·exact er
      ·rw [PY hbig hR hzz he];generalize sG x.m y.m=e at*;refine sr ?_;refine dI ?_;refine tO ?_;refine cg (vs:=[_,_,_,_]) aJ.out rfl ((hr2.ext hh.below).recAt TR.len hy) rfl Yp ?_;refine bC hh ?_;intro b10 w10 hh;refine bg hh 0 [_,_,_,_] ?_;intro ws hh;replace hh:Hp _ (.blk _ _ [_,_,_,_] _::_) _:=hh;refine aa (sr (bo ?_));refine bp hh 2 ?_;refine bo ?_;refine bp hh 0 ?_;refine bj hh (hmul _) rfl ?_;intro w41 hh;refine mT ?_;refine cx ?_;refine cx ?_;refine aS (aI (aa (ah (sr (mI ?_)))));refine dn (aa (cT (sr ?_)));refine fe [_,_] (mI ?_);refine bg hh 3 [_,_] ?_;intro ws hh;replace hh:Hp _ (_::_::_::.blk _ _ [_,_] _::_) _:=hh;refine aI (aa (av (aF (bU (aF (aF (bU (bU (aF (aF (bU (aF ?_))))))))))));refine Ow ?_;exact N2
     ·obtain rfl:j=qn:=Yo;rw [YC Yo] at hz2 hN;refine sr ?_;refine rQ ?_;refine a8 (mI (aD (ai ?_)));replace hh:=hh.sub (Yv _ (Yw _ (Yv _ (Yv _ (Yv _ YR)))));refine ⟨⟨i+1,N,A2,c2,Yo,rfl,rfl,by rw [rY hx,←hM,YC Yo];exact hN,fun e h=> ?_,hh⟩,by show pn-(i+1)<pn-i;omega, ?_⟩
      ·rw [rY (f:=fun (x y:TR)=>sG x.m y.m) hx,Zm,abD] at h
       rcases h with h|h
       ·exact hz e h
       ·exact hz2 e h
      ·exact er
   ·obtain rfl:i=pn:=Yo;rw [YC Yo] at hz hM;have hMp:M=dD ps qs:=hM;rw [MQ hbig hz,←hMp];have hpo:=u4 okp okq Yo;rw [←hMp] at hpo;refine sr ?_;refine G9 ?_;refine bp hh 3 ?_;refine mL ?_;refine ay (lJ pv A' M.length c' M (k+k2) _ hT hh rfl Yo Yo hpo) au.out rfl Yp ?_;rintro e_ w64 ⟨g,og,rfl,hh⟩;refine ⟨_,rfl, ?_⟩;refine cx ?_;refine cx ?_;exact Lk
variable {W w1:World}{base:Nat}
def mG (base:Nat) (E v:Int) (ts:List TR):VP:=fun x W=>∃(g:PX) (w1:World),x=.agg #[.int .i64 g.v,.slice g.A g.n g.c]∧iy E v ts g∧base≤w1.heap.size∧Hp w1 [g.row] W
theorem mG.ext {v:Int} (x:Value) (w w':World) (h:mG base E v ts x w) (hb:Below w.heap.size w w'):mG base E v ts x w':=let ⟨g,w1,h1,h2,h3,h4⟩:=h;⟨g,w1,h1,h2,h3,h4.ext hb⟩
def nV (base:Nat) (E v:Int) (ts:List TR):VP:=fun x W=>∃(g:PX) (w1:World),x=.tuple #[.agg #[.int .i64 g.v,.slice g.A g.n g.c],.int .i64 E]∧iy E v ts g∧base≤w1.heap.size∧Hp w1 [g.row] W
theorem nV.ext {v:Int} (x:Value) (w w':World) (h:nV base E v ts x w) (hb:Below w.heap.size w w'):nV base E v ts x w':=let ⟨g,w1,h1,h2,h3,h4⟩:=h;⟨g,w1,h1,h2,h3,h4.ext hb⟩
def CB (base:Nat) (v:Int) (ts:List TR):VP:=fun x W=>∃(g:PX) (w1:World),x=.slice g.A g.n g.c∧iy 0 v ts g∧base≤w1.heap.size∧Hp w1 [g.row] W
theorem CB.ext {v:Int} (x:Value) (w w':World) (h:CB base v ts x w) (hb:Below w.heap.size w w'):CB base v ts x w':=let ⟨g,w1,h1,h2,h3,h4⟩:=h;⟨g,w1,h1,h2,h3,h4.ext hb⟩
theorem PX.ne {g:PX}{t:TypeId}{cs:Array Value} (h:Hp w1 [g.row] W) (h3:W.heap[b]?=some (.cells cs t fz)) (h1:95≠t):∀x∈[g.row],x.id≠some b:=fun x hx=>by
 have hx2:=h.own x hx;obtain rfl:=YT.1 hx;exact vY hx2 h3 h1
def kr (a:List TR×Int) (g:PX):List TR×Int:=if a.2=0 then (aU (dD a.1 g.ts),iD a.1 g.ts) else a
def VM (ps:List PX):List TR×Int:=match ps with|[]=>([],0)|g::l=>l.foldl kr (g.ts,0)
def GG (ps:List PX):Int:=if iZ ps=0 then (VM ps).2 else iZ ps
theorem Dk {a:List TR×Int} (h:a.2≠0):∀l:List PX,l.foldl kr a=a
 |[]=>rfl
 |g::l=>by
  rw [aaR,show kr a g=a by unfold kr;rw [Yu h]];exact Dk h l
theorem Km {l:List PX}{a:List TR×Int}{i:Nat}{g:PX} (hx:l[i]?=some g) (h0:((l.take i).foldl kr a).2=0) (h:iD ((l.take i).foldl kr a).1 g.ts≠0):(l.foldl kr a).2=iD ((l.take i).foldl kr a).1 g.ts:=by
 have e:l=l.take i++g::l.drop (i+1):=by rw [←im hx,Zy]
 have e2:l.foldl kr a=(l.drop (i+1)).foldl kr (kr ((l.take i).foldl kr a) g):=by
  conv=>lhs;rw [e]
  rw [abo,aaR]
 rw [e2];have e3:kr ((l.take i).foldl kr a) g=(aU (dD ((l.take i).foldl kr a).1 g.ts),iD ((l.take i).foldl kr a).1 g.ts):=Yt h0;rw [e3,Dk h]
theorem Kb {l:List PX}{a:List TR×Int}{i:Nat}{g:PX} (hx:l[i]?=some g) (h0:((l.take i).foldl kr a).2=0):(l.take (i+1)).foldl kr a=(aU (dD ((l.take i).foldl kr a).1 g.ts),iD ((l.take i).foldl kr a).1 g.ts):=by
 rw [aw hx,abo,aaR,List.foldl_nil];exact Yt h0
theorem Hs {q:List TR} (hp:kx k p) (hq:kx j q) (sq:∀t∈q,t.m.size≤100000) (h:iD p q=0) (hk:k+j≤900000):kx (k+j+65536) (aU (dD p q))∧∀t∈aU (dD p q),t.m.size≤100000:=by
 obtain ⟨h6,_,h4⟩:=rK h;have ho:=u4 hp hq Yo;have hz:=oU fun t ht=>(ho t ht).2;rw [rZ] at hz;refine ⟨fun t ht=> ?_,fun t ht=> ?_⟩
 ·have:Sz (k+j+65536) t.c.d:=(hz t ht).mono Yo;refine ⟨?_,this⟩;rw [(gR _).nf t ht];exact this.ok Yo
 ·obtain ⟨s,hs,e⟩:=kU t ht;obtain ⟨x,hx,hs⟩:=aak.1 hs;obtain ⟨y,hy,rfl⟩:=YF.1 hs;rw [←e];exact Y1 (Ko _ _) (sq y hy)
theorem Ep (L:Option Addr) (n c:Nat) (ps:List PX) (k s:Nat) (w:World) (hT:dP w) (hL:Sl w L n 2 (aA PX.cells ps)) (hcn:n≤c) (hn:n≤8) (hf:∀g∈ps,g.at_ w) (hl:∀g∈ps,g.jX k) (hs:k+65536≤s) (hk:k+k+(n-2)*s≤900000):
  Calls Tryz.prog 248 #[.slice L n c] w fun r w'=>∃g:PX,iy (GG ps) (iW ps) (VM ps).1 g∧r=.returned (.tuple #[.agg #[.int .i64 g.v,.slice g.A g.n g.c],.int .i64 (GG ps)])∧Hp w [g.row] w':=by
 have hh:=Hp.start w;have hln:=hL.bk PX.len Yp;have hlk:=fun w1 hT1 hb=>tQ L n c ps k w1 hT1 (hL.ext hb) Yo (fun g hg=>(hf g hg).ext hb) hl;unfold GG;by_cases h0:iZ ps=0
 ·rw [Yt h0];rw [h0] at hlk;obtain ⟨hne,rX,hvv⟩:=A5 h0;obtain ⟨g0,pt,rfl⟩:=List.exists_cons_of_ne_nil hne;rw [rM (g:=g0) rfl];have hnp:pt.length+1=n:=hln;obtain ⟨ad,rfl,hr⟩:=hL.at_ Yo;have hm0:g0∈g0::pt:=YD;have hg0:=hl g0 hm0;have h00:(g0::pt)[0]?=some g0:=rfl;show Calls _ _ _ _ fun r w'=>∃g:PX,iy (pt.foldl kr (g0.ts,0)).2 g0.v (pt.foldl kr (g0.ts,0)).1 g∧r=.returned (.tuple #[.agg #[.int .i64 g.v,.slice g.A g.n g.c],.int .i64 (pt.foldl kr (g0.ts,0)).2])∧Hp w [g.row] w';refine aj (N:=46) (l:=[.slice (some ad) n c]) Tryz.func248 rfl rfl (by simp) ?_;refine sr ?_;refine bC hh ?_;intro b2 w2 hh;refine aI (aa (ah (sr (mL ?_))));refine yS ?_;intro w11 hh;refine aI (aa (sr (mI ?_)));refine dn (aa (cF (aq (ai (ah ?_)))));refine aK 11 [[(0,none)],[(16,some 0)],[(17,some 1)],[(18,some 2)],[(0,none)],[(20,some 4)],[(21,some 5)],[(22,some 6)],[(23,some 7)],[(19,some 3),(24,some 8)],[]] [(10,5),(9,25),(8,24),(7,23),(6,22),(5,21),(4,20),(3,19),(2,18),(1,17),(0,16)] hh mixed Yq ?_;refine gI ?_;refine np (0) ?_;refine Jz ?_
  refine x7 (fun _ hj=>cn hj.hp.below ((hr.recAt PX.len h00) 0 _ rfl)) ?_;refine gI ?_;refine np (0) ?_;refine Jz ?_;refine x7 (fun _ hj=>cn hj.hp.below ((hr.recAt PX.len h00) 1 _ rfl)) ?_;refine a7 (i:=8) (CB w11.heap.size g0.v g0.ts) (CB.ext) ?_ ?_
  ·intro ρ1 w1 hj hR;exact bV rfl (bf au.out (aC (show ρ1 23=Value.slice _ _ _ from hR.1) bh)) (mX g0.A g0.n g0.c g0.ts w1 ((hf g0 hm0).ext hj.hp.below) hg0.n) (fun _ _ ⟨A,c,hq,ho,hb⟩=>⟨_,hq,hb,⟨g0.v,A,g0.n,c,g0.ts⟩,w1,rfl,⟨rfl,rfl⟩,hj.bl.size,(Hp.start w1).aP (x:=.row _ _ _ _ _ _) hb ho⟩)
  refine a7 (i:=9) (mG w11.heap.size 0 g0.v g0.ts) (mG.ext) ?_ ?_
  ·intro ρ1 w1 hj hR;exact let ⟨g,u,e,o,q,h⟩:=hR.2.1;fI rfl (mJ (cs:=[_,_]) aJ.out ko.out (bQ (show ρ1 19=Value.int _ _ from hR.1) (bQ e dN)) rfl) ⟨Below.refl _ _,g,u,by rw [show g.v=g0.v from o.v],o,q,h⟩
  refine a7 (i:=10) (cw _ 52 _) cw.ext (fun ρ1 w1 hj hR=>iJ aJ.out hj.bl (fun v w2 h hb=>⟨hb,h⟩)) ?_;refine aH ?_;intro f W hJ hV;have hb_4:=hJ.bl;obtain ⟨v5,v25,v24,v23,v22,v21,v20,v19,v18,v17,v16,_⟩:=hV;obtain ⟨g24,u24,e24, -⟩:=v24;obtain ⟨g25,u25,e25,o25,q25,h25⟩:=v25;obtain ⟨b5,e5,hl5,hc5⟩:cw _ _ _ (f 10) W:=v5;replace hh:=hJ.kK hh hl5 hc5 q25 h25 (PX.ne h25 hc5 Yp);refine aN (a6 (ae e5 (ae e25 (ae e24 (ae v23 (ae v22 (ae v21 (ae v20 (ae v19 (ae v18 (ae v17 (ae v16 aO)))))))))))) ?_;dsimp only [bP];clear e24 e25 e5 hJ;simp only [YB,Yz] at hh;obtain ⟨gv,gA,gn,gc,gts⟩:=g25;obtain rfl:g0.v=gv:=o25.v.symm;obtain rfl:g0.ts=gts:=o25.ts.symm;replace hh:=show Hp w (_::.row gA gn gc 95 4 (aA TR.cells g0.ts)::_) W from hh;have hgn:g0.ts.length=gn:=(hh.az (i:=1) rfl).bk TR.len Yp;have hgc:gn≤gc:=hh.gG (i:=1) rfl;refine bg hh 0 [_,_] ?_;intro ws hh;replace hh:Hp _ (.blk _ _ [_,_] _::_) _:=hh;refine aa (ah (sr (mL ?_)));refine aV rfl rfl Yp (gZ bG.out aJ.size rfl rfl (l:=1) rfl Yo Yo) ?_;refine aM (mI (aa (ar ?_)));replace hh:=hh.perm (Zp (l₁:=[_]))
  simp only [YB,Yz] at hh;refine aT [3,7,8,9,29,30,31,32,33,34,35,36,37,38,39,40,41,42,43,44] 29
   (fun v w'=>∃(i:Nat) (g:PX),i≤n-1∧v=.int .i64 i∧((pt.take i).foldl kr (g0.ts,0)).2=0∧g.v=g0.v∧g.ts=((pt.take i).foldl kr (g0.ts,0)).1∧g.jX (k+i*s)∧Hp w [.row g.A g.n g.c 95 4 (aA TR.cells g.ts),.blk b5 52 [.int .i64 g.v,.slice g.A g.n g.c] (0,0),.blk b2 52 [.int .i64 0,.slice none 0 0] (0,0)] w')
   (fun v _=>n-1-(intOf v).toNat) ?_ ?_
  ·exact ⟨0,⟨g0.v,gA,gn,gc,g0.ts⟩,Yx _,rfl,rfl,rfl,rfl,⟨by show gn≤1000000;have:=hg0.n;have h9:=(hf g0 hm0).ln;omega,hgc,hg0.ok.mono (by rw [aaP];omega),hg0.sz⟩,hh⟩
  ·clear hh;rintro ρ' v w' ⟨i,g,hi,rfl,hz,hgv,hts,hgl,hh⟩;by_cases hlt:i<n-1
   ·obtain ⟨f,hx⟩:=ao (l:=pt) (k:=i) Yo;have hmem:f∈g0::pt:=YK _ (Yy hx);have his:i*s≤(n-2)*s:=Zo _ Yo;have his1:=ZA i s;have hbk:Sl w (if c=1 then some ad else (some ad:Option Addr).map (·.add (1*2))) (n-1) 2 (aA PX.cells pt):=hL.back Yo hcn;obtain ⟨ab,hAb,sb⟩:=hbk.at_ Yo;have rX:Value.slice (if c=1 then some ad else (some ad:Option Addr).map (·.add (1*2))) (n-1) (c-1)=.slice (some ab) (n-1) (c-1):=by rw [hAb]
    have hfl:=hl f hmem;have hnx:=Kb (a:=(g0.ts,0)) hx hz;have hsp:=Km (a:=(g0.ts,0)) hx hz;rw [←hts] at hnx hsp;refine sr ?_;refine dI ?_;refine Ix ?_;refine cg (vs:=[_,_]) aJ.out rfl (show Rd _ _ [.int .i64 f.v,.slice f.A f.n f.c] from (sb.ext hh.below).recAt PX.len hx) rfl Yp ?_;refine bC hh ?_;intro b7 w7 hh;refine bg hh 0 [_,_] ?_;intro ws hh;replace hh:Hp _ (.blk _ _ [_,_] _::_) _:=hh;refine aa (sr ?_);refine bJ hh 2 [_,_] ?_;refine bJ hh 0 [_,_] ?_;refine ay (AX g f (k+i*s) k _ (hT.hp hh) (hh.az (i:=1) rfl) ((hf f hmem).ext hh.below) hgl hfl Yo) au.out rfl Yp ?_;rintro e_ w36 ⟨h,oh,rfl,h3⟩;refine ⟨_,rfl, ?_⟩;replace hh:=hh.join h3;simp only [YB,Yz] at hh;by_cases he:iD g.ts f.ts=0
    ·obtain ⟨hv,hA,hn2,hc2,hts2⟩:=h;rw [he] at oh;obtain rfl:g.v=hv:=oh.v.symm;obtain rfl:aU (dD g.ts f.ts)=hts2:=oh.ts.symm;replace hh:=show Hp w (.row hA hn2 hc2 95 4 (aA TR.cells (aU (dD g.ts f.ts)))::_) w36 from hh;have hhn:(aU (dD g.ts f.ts)).length=hn2:=(hh.az (i:=0) rfl).bk TR.len Yp;have hhc:hn2≤hc2:=hh.gG (i:=0) rfl;have h4:=(rK he).2.2;have htl:=Hs hgl.ok hfl.ok hfl.sz he Yo;refine mT ?_;refine cx ?_;refine cx ?_;refine bC hh ?_;intro b8 w8 hh;refine bg hh 0 [_,_] ?_;intro ws hh;replace hh:Hp _ (.blk _ _ [_,_] _::_) _:=hh;refine aI (aa (ah (sr (mI ?_))));refine dn (aa (cF (aq (ai (ak ?_)))));refine bJ hh 0 [_,_] ?_;refine bg hh 4 [_,_] ?_;intro ws hh;replace hh:Hp _ (_::_::_::_::.blk _ _ [_,_] _::_) _:=hh;refine gu ?_;refine a8 (mI (aD (ai ?_)));replace hh:=hh.sub (Yw _ (Yv _ (Yw _ (Yw _ (Yv _ (Yv _ YR))))))
     refine ⟨⟨i+1,⟨g.v,hA,hn2,hc2,aU (dD g.ts f.ts)⟩,Yo,rfl,by rw [hnx];exact he,hgv,by rw [hnx],⟨by show hn2≤1000000;omega,hhc,htl.1.mono (by rw [ZA];omega),htl.2⟩,hh⟩,by show n-1-(i+1)<n-1-i;omega, ?_⟩;exact er
    ·rw [hsp he];refine mT ?_;refine cx ?_;refine cx ?_;refine bC hh ?_;intro b8 w8 hh;refine bg hh 0 [_,_] ?_;intro ws hh;replace hh:Hp _ (.blk _ _ [_,_] _::_) _:=hh;refine aI (aa (ah (sr (mI ?_))));refine dn (aa (cT (sr ?_)));refine fe [_,_] (mI ?_);refine bg hh 5 [_,_] ?_;intro ws hh;replace hh:Hp _ (_::_::_::_::_::.blk _ _ [_,_] _::_) _:=hh;refine aI (aa (av (aF (bU (aF (aF (bU (aF ?_))))))));refine Ib (cj rfl (cf (vs:=[_,_]) aJ.out (hh.aQ (i:=5) (n:=2) rfl rfl) rfl) (eB (fg rfl) dw)) ?_;exact N2
   ·obtain rfl:i=n-1:=Yo;rw [YC Yo] at hz hts;refine sr ?_;refine nj ?_;refine bJ hh 1 [_,_] ?_;refine bg hh 2 [_,_] ?_;intro ws hh;replace hh:Hp _ (_::_::.blk _ _ [_,_] _::_) _:=hh;refine aI (aa (av ?_));refine pJ ?_;rw [hz];exact ⟨g,⟨hgv,hts⟩,rfl,hh.sub (Yv _ (Zx _))⟩
 ·rw [Yu h0];generalize iZ ps=e at*;refine aj (N:=46) (l:=[.slice L n c]) Tryz.func248 rfl rfl (by simp) ?_;refine sr ?_;refine bC hh ?_;intro b2 w2 hh;refine aI (aa (ah (sr (mL ?_))));refine yS ?_;intro w11 hh;exact Ql
theorem si {x:TR} (b:List TR):∀{a:List TR},(∀t∈a,jr t.m x.m=true)→jg (a++b) x=a++jg b x
 |[],_=>rfl
 |t::a,h=>by
  rw [YB,jg,Yt (h t YD),si b fun s hs=>h s (YK _ hs)]
  rfl
theorem Mx {x:TR} (h:∀t∈l,jr t.m x.m=true):jg l x=l++[⟨x.m,nR x.c.d⟩]:=by
 have:=si [] h;rwa [Y7] at this
theorem Pd {x t:TR}{i:Nat} (hx:l[i]?=some t) (h:∀s∈l.take i,jr s.m x.m=true) (h1:jr t.m x.m=false):jg l x=if t.m=x.m then l.take i++⟨x.m,nR (t.c.d+x.c.d)⟩::l.drop (i+1) else l.take i++⟨x.m,nR x.c.d⟩::l.drop i:=by
 have e:l=l.take i++t::l.drop (i+1):=by rw [←im hx,Zy]
 have e2:jg l x=l.take i++jg (t::l.drop (i+1)) x:=by
  conv=>lhs;rw [e]
  exact si _ h
 rw [e2,jg,Yu (by rw [h1];decide),im hx];by_cases he:t.m=x.m
 ·rw [Yt he,Yu (by rw [he,j0];decide)]
 ·rw [Yu he,Yt]
  cases h2:jr x.m t.m with
  |true=>rfl
  |false=>exact absurd (o8 h1 h2) he
theorem EW (A:Option Addr) (n c:Nat) (l:List TR) (x:TR) (w:World) (hS:Sl w A n 4 (aA TR.cells l)) (hcn:n≤c) (hn:n≤1000000) (ho:∀t∈l,t.c.ok) (hx:x.c.ok):
  Calls Tryz.prog 164 #[.slice A n c,.agg #[.string x.m,.bool x.c.neg,.string x.c.aY,.int .i64 x.c.e]] w fun r w'=>∃A' c',r=.returned (.slice A' (jg l x).length c')∧Hp w [.row A' (jg l x).length c' 95 4 (aA TR.cells (jg l x))] w':=by
 have hh:=Hp.start w;have hln:=hS.bk TR.len Yp;have hfo:=fun w1=>oG x.c w1 (by have:=hx.1;omega) (by have:=hx.2.1;omega) (by have:=hx.2.2;omega);refine aj (N:=76) (l:=[.slice A n c,.agg #[.string x.m,.bool x.c.neg,.string x.c.aY,.int .i64 x.c.e]]) Tryz.func164 rfl rfl (by simp) ?_;refine sr ?_;refine bO hh [_,_,_,_] ?_;intro b3 w3 hh;refine aL (aa (sr (aI (aa (ah (ar ?_))))));refine aT [5,7,8,9,10,11,12,13,14,15,16,17,18,19,20,21,22] 5
  (fun v w'=>∃i:Nat,i≤n∧v=.int .i64 i∧(∀t∈l.take i,jr t.m x.m=true)∧Hp w [.blk b3 95 [.string x.m,.bool x.c.neg,.string x.c.aY,.int .i64 x.c.e] (0,0)] w')
  (fun v _=>n-(intOf v).toNat) ?_ ?_
 ·exact ⟨0,Yx _,rfl,fun t ht=>(nomatch ht),hh⟩
 ·clear hh;rintro ρ' v w' ⟨i,hi,rfl,hall,hh⟩;by_cases hlt:i<n
  ·obtain ⟨t,ht⟩:=ao (l:=l) (k:=i) Yo;obtain ⟨ad,rfl,hr⟩:=hS.at_ Yo;have hto:=ho t (Yy ht)
   cases hl:jr t.m x.m with
   |true=>
    have hbl:Op.bytesLess t.m.toList x.m.toList=true:=by rw [ml,hl]
    refine ah (ah ?_);refine M9 ?_;refine dJ ?_;refine gI ?_;refine qe ?_;refine AB ?_;refine mV ?_;refine dG (gI ?_);refine dG (dJ ?_);refine dG (np (i) ?_);refine dG (Jz ?_);refine Ip ?_;refine dG (dR ?_);refine dG (fW 0 ?_);refine aH ?_;intro f W hJ hV;have hb_2:=hJ.bl;obtain ⟨v18,v17,v16,v15,v14,v13,v12,v11,v10,v9,v8,v7,_⟩:=hV;replace hh:=hJ.hp;refine K2 ?_;dsimp only [bP];clear hJ;refine gT ?_;refine se rfl rfl Yp ?_;refine gi ?_;refine aa ?_;rw [hbl];refine cT (aq (ai (ar (ak (mI ?_)))));refine a8 (aI (aD (bz (ai ?_))));refine ⟨⟨i+1,Yo,rfl,fun s hs=> ?_,hh⟩,by show n-(i+1)<n-i;omega, ?_⟩
    ·rw [aw ht] at hs
     rcases Zm.1 hs with hs|hs
     ·exact hall s hs
     ·rw [YT.1 hs];exact hl
    ·exact er
   |false=>
    have hbl:Op.bytesLess t.m.toList x.m.toList=false:=by rw [ml,hl]
    have hput:=Pd ht hall hl;have hS1:=hS.front (m:=i) Yo;rw [show (aA TR.cells l).take (i*4)=aA TR.cells (l.take i) from jw TR.len l i] at hS1;have o1:=bK TR.one (l.take i);refine ah (ah ?_);refine M9 ?_;refine dJ ?_;refine gI ?_;refine qe ?_;refine AB ?_;refine mV ?_;refine dG (gI ?_);refine dG (dJ ?_);refine dG (np (i) ?_);refine dG (Jz ?_);refine Ip ?_;refine dG (dR ?_);refine dG (fW 0 ?_);refine aH ?_;intro f W hJ hV;have hb_2:=hJ.bl;obtain ⟨v18,v17,v16,v15,v14,v13,v12,v11,v10,v9,v8,v7,_⟩:=hV;replace hh:=hJ.hp;refine K2 ?_;dsimp only [bP];clear hJ;refine gT ?_;refine se rfl rfl Yp ?_;refine gi ?_;refine aa ?_;rw [hbl];refine cF (aX (aE (aE (bA (ai (sr ?_))))));refine C6 ?_;intro b23 w23 hh;refine mL (mI ?_);refine Lp ?_;refine cu hh (i:=0) rfl rfl rfl (hS1.ext hh.below) bG.out aJ.out rfl Yp ?one10 Yo Yo Yp ?kk10
    case one10=>first|rfl|assumption|exact bI _|exact oneCells_u8s _
    intro A27 c27 w27 hh;simp only [YG] at hh;refine aL (aa (ah (ah ?_)));have hpl:=fun w1=>Cb t.c x.c w1 hto hx;by_cases he:t.m=x.m
    ·rw [Yt he] at hput;have hS2:=hS.back (l:=i+1) Yo hcn;rw [show (aA TR.cells l).drop ((i+1)*4)=aA TR.cells (l.drop (i+1)) from iS TR.len l (i+1)] at hS2;have o2:=bK TR.one (l.drop (i+1));refine NU ?_;refine dJ ?_;refine gI ?_;refine qe ?_;refine AB ?_;refine mV ?_;refine dG (gI ?_);refine dG (dJ ?_);refine dG (np (i) ?_);refine dG (Jz ?_);refine Ip ?_;refine dG (dR ?_);refine dG (fW 1 ?_);refine aH ?_;intro f W hJ hV;have hb_5:=hJ.bl;obtain ⟨v39,v38,v37,v36,v35,v34,v33,v32,v31,v30,v29,v28,_⟩:=hV;replace hh:=hJ.hp;refine NO ?_;dsimp only [bP];clear hJ;refine gT ?_
     (first|refine jE rfl rfl (by first|rfl|assumption|decide) Yp ?_|refine jG rfl rfl (by first|assumption|decide) Yp ?_)
     refine gi ?_;refine aa (cT (ah ?_));refine aK 13 [[(6,none)],[(3,none)],[(43,some 1)],[(0,none)],[(5,none)],[(45,some 3),(46,some 4)],[(47,some 5)],[(48,some 6)],[(3,none)],[(50,some 8)],[(49,some 7),(51,some 9)],[(44,some 2),(52,some 10)],[(53,some 11)]] [(12,54),(11,53),(10,52),(9,51),(8,50),(7,49),(6,48),(5,47),(4,46),(3,45),(2,44),(1,43),(0,42)] hh mixed Yq ?_;refine gI ?_;refine dR ?_;refine fW 1 ?_;refine gI ?_;refine dJ ?_;refine np (i) ?_;refine Jz ?_;refine pW [_,_,_] (fun _ hj=>((hr.ext hj.hp.below).recAt TR.len ht).drop 1) ?_;refine dR ?_;refine dK 1 [_,_,_] ?_;refine dC (fun _ hj=>hpl _) ?_;refine dB [_,_,_,_] ?_;refine x3 [_,_,_,_] ?_;refine aH ?_;intro f W hJ hV;have hb_6:=hJ.bl;obtain ⟨v54,v53,v52,v51,v50,v49,v48,v47,v46,v45,v44,v43,v42,_⟩:=hV;obtain ⟨A54,c54,e54,f54⟩:Rows _ _ _ (f 12) W:=v54;replace hh:=hJ.hp;refine aN (a6 (ae e54 (ae v53 (ae v52 (ae v51 (ae v50 (ae v49 (ae v48 (ae v47 (ae v46 (ae v45 (ae v44 (ae v43 (ae v42 aO)))))))))))))) ?_;dsimp only [bP];clear e54 hJ
     refine cu hh (i:=0) rfl rfl rfl (f54) bG.out aJ.out rfl Yp (by first|rfl|exact ea _|exact dv _|exact bI _|exact bK NR.one _) Yo Yo Yp ?_;intro A55 c55 w55 hh;simp only [YG] at hh;refine aL (aa (sr (mL (mL (mI ?_)))));refine a8 ?_;refine aV rfl rfl Yp (gZ bG.out aJ.size rfl rfl (l:=i+1) Yo Yo Yo) ?_;refine cu hh (i:=0) rfl rfl rfl (hS2.ext hh.below) bG.out aJ.out rfl Yp ?one11 Yo Yo Yp ?kk11
     case one11=>first|rfl|assumption|exact bI _|exact oneCells_u8s _
     intro A61 c61 w61 hh;simp only [YG] at hh;refine aL (aa (av (aF ?_)));refine dH ?_;have e1:(jg l x).length=0+i+1+(n-(i+1)):=by rw [hput,YE,Y3,YM,Zz];omega
     have e2:aA TR.cells (jg l x)=[]++aA TR.cells (l.take i)++[.string x.m,.bool (nR (t.c.d+x.c.d)).neg,.string (nR (t.c.d+x.c.d)).aY,.int .i64 (nR (t.c.d+x.c.d)).e]++aA TR.cells (l.drop (i+1)):=by rw [hput,bM,iV,Yz,Y5];rfl
     exact Si
    ·rw [Yu he] at hput;have hS2:=hS.back (l:=i) Yo hcn;rw [show (aA TR.cells l).drop (i*4)=aA TR.cells (l.drop i) from iS TR.len l i] at hS2;have o2:=bK TR.one (l.drop i);refine NU ?_;refine dJ ?_;refine gI ?_;refine qe ?_;refine AB ?_;refine mV ?_;refine dG (gI ?_);refine dG (dJ ?_);refine dG (np (i) ?_);refine dG (Jz ?_);refine Ip ?_;refine dG (dR ?_);refine dG (fW 1 ?_);refine aH ?_;intro f W hJ hV;have hb_5:=hJ.bl;obtain ⟨v39,v38,v37,v36,v35,v34,v33,v32,v31,v30,v29,v28,_⟩:=hV;replace hh:=hJ.hp;refine NO ?_;dsimp only [bP];clear hJ;refine gT ?_
     (first|refine jE rfl rfl (by first|rfl|assumption|decide) Yp ?_|refine jG rfl rfl (by first|assumption|decide) Yp ?_)
     refine gi ?_;refine Ce ?_;refine Sk ?_;refine gI ?_;refine dR ?_;refine fW 1 ?_;refine dR ?_;refine dK 1 [_,_,_] ?_;refine dC (fun _ hj=>hfo _) ?_;refine dB [_,_,_,_] ?_;refine x3 [_,_,_,_] ?_;refine aH ?_;intro f W hJ hV;have hb_8:=hJ.bl;obtain ⟨v69,v68,v67,v66,v65,v64,v63,v62,_⟩:=hV;obtain ⟨A69,c69,e69,f69⟩:Rows _ _ _ (f 7) W:=v69;replace hh:=hJ.hp;refine SZ ?_;dsimp only [bP];clear e69 hJ;refine RH ?_;intro A70 c70 w70 hh;simp only [YG] at hh;refine aL (aa (sr (mL (mL (mI ?_)))));refine aV rfl rfl Yp (gZ bG.out aJ.size rfl rfl (l:=i) Yo Yo Yo) ?_;refine cu hh (i:=0) rfl rfl rfl (hS2.ext hh.below) bG.out aJ.out rfl Yp ?one12 Yo Yo Yp ?kk12
     case one12=>first|rfl|assumption|exact bI _|exact oneCells_u8s _
     intro A75 c75 w75 hh;simp only [YG] at hh;refine aL (aa (av ?_));refine dH ?_;have e1:(jg l x).length=0+i+1+(n-i):=by rw [hput,YE,Y3,YM,Zz];omega
     exact Wq
  ·obtain rfl:i=n:=Yo;have hput:=Mx (x:=x) (l:=l) (by rwa [YC Yo] at hall);rw [show l++[⟨x.m,nR x.c.d⟩]=l.take i++⟨x.m,nR x.c.d⟩::l.drop i by rw [YC Yo,aaw Yo]] at hput;have hS1:=hS.front (m:=i) Yo;rw [show (aA TR.cells l).take (i*4)=aA TR.cells (l.take i) from jw TR.len l i] at hS1;have o1:=bK TR.one (l.take i);have hS2:=hS.back (l:=i) Yo hcn;rw [show (aA TR.cells l).drop (i*4)=aA TR.cells (l.drop i) from iS TR.len l i] at hS2;have o2:=bK TR.one (l.drop i);refine ah (ah ?_);refine M9 ?_;refine dJ ?_;refine gI ?_;refine qe ?_;refine AB ?_;refine mV ?_;refine dS (dS ?_);refine pd (i:=7) rfl (fun ρ1 w1 hj hR=>(show ρ1 11=Value.bool _ from hR.2.2.1)) Yp ?_;refine dS (dS (dS (dS ?_)));refine aH ?_;intro f W hJ hV;have hb_2:=hJ.bl;obtain ⟨v18,v17,v16,v15,v14,v13,v12,v11,v10,v9,v8,v7,_⟩:=hV;replace hh:=hJ.hp;refine K2 ?_;dsimp only [bP];clear hJ;refine gS ?_;refine fK ?_;refine aa (cF (aX (aE (aE (bA (ai (sr ?_)))))));refine C6 ?_;intro b23 w23 hh;refine mL (mI ?_);refine Lp ?_
   refine cu hh (i:=0) rfl rfl rfl (hS1.ext hh.below) bG.out aJ.out rfl Yp ?one13 Yo Yo Yp ?kk13
   case one13=>first|rfl|assumption|exact bI _|exact oneCells_u8s _
   intro A27 c27 w27 hh;simp only [YG] at hh;refine aL (aa (ah (ah ?_)));refine NU ?_;refine dJ ?_;refine gI ?_;refine qe ?_;refine AB ?_;refine mV ?_;refine dS (dS ?_);refine pd (i:=7) rfl (fun ρ1 w1 hj hR=>(show ρ1 32=Value.bool _ from hR.2.2.1)) Yp ?_;refine dS (dS (dS (dS ?_)));refine aH ?_;intro f W hJ hV;have hb_5:=hJ.bl;obtain ⟨v39,v38,v37,v36,v35,v34,v33,v32,v31,v30,v29,v28,_⟩:=hV;replace hh:=hJ.hp;refine NO ?_;dsimp only [bP];clear hJ;refine gS ?_;refine fK ?_;refine Ce ?_;refine Sk ?_;refine gI ?_;refine dR ?_;refine fW 1 ?_;refine dR ?_;refine dK 1 [_,_,_] ?_;refine dC (fun _ hj=>hfo _) ?_;refine dB [_,_,_,_] ?_;refine x3 [_,_,_,_] ?_;refine aH ?_;intro f W hJ hV;have hb_8:=hJ.bl;obtain ⟨v69,v68,v67,v66,v65,v64,v63,v62,_⟩:=hV;obtain ⟨A69,c69,e69,f69⟩:Rows _ _ _ (f 7) W:=v69;replace hh:=hJ.hp;refine SZ ?_;dsimp only [bP];clear e69 hJ;refine RH ?_;intro A70 c70 w70 hh;simp only [YG] at hh;refine aL (aa (sr (mL (mL (mI ?_)))));refine aV rfl rfl Yp (gZ bG.out aJ.size rfl rfl (l:=i) Yo Yo Yo) ?_;refine cu hh (i:=0) rfl rfl rfl (hS2.ext hh.below) bG.out aJ.out rfl Yp ?one14 Yo Yo Yp ?kk14
   case one14=>first|rfl|assumption|exact bI _|exact oneCells_u8s _
   intro A75 c75 w75 hh;simp only [YG] at hh;refine aL (aa (av ?_));refine dH ?_;have e1:(jg l x).length=0+i+1+(i-i):=by rw [hput,YE,Y3,YM,Zz];omega
   exact Wq
theorem yb (ho:kx k l) (hk:k+l.length≤3999980):kx (k+l.length) (jx l):=fun t ht=>by
 have h:=Eh l (fun t ht=>(ho t ht).2) t ht;exact ⟨by rw [Cs l t ht];exact h.ok Yo,h⟩
theorem x6 (v:Int) (A:Option Addr) (n c:Nat) (l:List TR) (k:Nat) (w:World) (hS:Sl w A n 4 (aA TR.cells l)) (hn:n≤100000) (ho:kx k l) (hk:k+n≤3999980):
  Calls Tryz.prog 120 #[.int .i64 v,.slice A n c] w fun r w'=>∃g:PX,iy (iP l) v (aU l) g∧r=.returned (.tuple #[.agg #[.int .i64 g.v,.slice g.A g.n g.c],.int .i64 (iP l)])∧Hp w [g.row] w':=by
 have hh:=Hp.start w;have hln:=hS.bk TR.len Yp;refine aj (N:=49) (l:=[.int .i64 v,.slice A n c]) Tryz.func120 rfl rfl (by simp) ?_;refine sr ?_;refine bC hh ?_;intro b4 w4 hh;refine aI (aa (sr (aL (aa (ah (sr (aI (aa (ar ?_)))))))));replace hh:=hh.dm 95 4;refine bH [6,7,10,11,12,13,14,15,16,17,18,19,20,21] 6 7
  (fun a x w'=>∃(i:Nat) (A':Option Addr) (c':Nat),i≤n∧x=.int .i64 i∧a=.slice A' (jx (l.take i)).length c'∧Hp w [.row A' (jx (l.take i)).length c' 95 4 (aA TR.cells (jx (l.take i))),.blk b4 52 [.int .i64 0,.slice none 0 0] (0,0)] w')
  (fun _ x _=>n-(intOf x).toNat) ?_ ?_
 ·exact ⟨0,none,0,Yx _,rfl,rfl,hh⟩
 ·clear hh;rintro ρ' a_ x_ w' ⟨i,A',c',hi,rfl,rfl,hh⟩;have hGl:=y9 (l.take i);rw [YM] at hGl;by_cases hlt:i<n
  ·obtain ⟨x,hx⟩:=ao (l:=l) (k:=i) Yo;obtain ⟨ad,rfl,hr⟩:=hS.at_ Yo;have hgo:=yb (l:=l.take i) (k:=k) (fun t ht=>ho t (aad ht)) (by rw [YM];omega);refine ah (sr (mI (mL (aM ?_))));refine a9 (aa (cT (aq (ai (ah (ar (ak (mL (mL (mI ?_))))))))));refine bZ ?_;refine qN ?_;refine ay (EW A' (jx (l.take i)).length c' (jx (l.take i)) x _ (hh.az (i:=0) rfl) (hh.gG (i:=0) rfl) Yo (fun t ht=>(hgo t ht).1) (ho x (Yy hx)).1) au.out rfl Yp ?_;rintro e_ w21 ⟨A2,c2,rfl,h3⟩;refine ⟨_,rfl, ?_⟩;replace hh:=hh.join h3;simp only [YB,Yz] at hh;rw [←jt,←aw hx] at hh ⊢;refine tg ?_;refine a8 (aI (aD (ai ?_)));replace hh:=hh.sub (Yv _ (Yw _ (Yv _ YR)));refine ⟨⟨i+1,A2,c2,Yo,rfl,rfl,hh⟩,by show n-(i+1)<n-i;omega, ?_⟩;exact er
  ·obtain rfl:i=n:=Yo;rw [YC Yo] at hh hGl ⊢;have hgo:=yb ho Yo;have hgt:aU l=(jx l).filter pO:=rfl;unfold iP;rw [hgt];generalize jx l=G at*;obtain ⟨m,hm⟩:∃m,m=G.length:=⟨_,rfl⟩;rw [←hm] at hh ⊢;refine ah (sr (mI (mL (aM ?_))));refine a9 (aa (cF (aX (aE (aE (bA (ai (sr (aL (aa (ah (sr (aI (aa (ar ?_)))))))))))))));replace hh:=hh.dm 95 4;refine bH [8,9,22,23,24,25,26,27,28,29,30,31,32,33,34,35,36,37,38,39,40,41] 8 9
    (fun a x w'=>∃(j:Nat) (B:Option Addr) (d:Nat),j≤m∧x=.int .i64 j∧a=.slice B ((G.take j).filter pO).length d∧Hp w [.row B ((G.take j).filter pO).length d 95 4 (aA TR.cells ((G.take j).filter pO)),.row A' m c' 95 4 (aA TR.cells G),.blk b4 52 [.int .i64 0,.slice none 0 0] (0,0)] w')
    (fun _ x _=>m-(intOf x).toNat) ?_ ?_
   ·exact ⟨0,none,0,Yx _,rfl,rfl,hh⟩
   ·clear hh;rintro ρ2 a2 x2 w2 ⟨j,B,d,hj,rfl,rfl,hh⟩;have hfl:((G.take j).filter pO).length≤j:=Y1 (List.length_filter_le _ _) (by rw [YM];omega);by_cases hjm:j<m
    ·obtain ⟨t,ht⟩:=ao (l:=G) (k:=j) Yo;have hto:=hgo t (Yy ht);have hsg:=fun w1=>gJ t.c w1 (by have:=hto.1.1;omega);have hzz:t.c.i.sign=0↔t.c.d=0:=by
      exact Tp
     obtain ⟨g0,rfl⟩:=hh.cq (i:=1) rfl Yo;by_cases hz:t.c.d=0
     ·have hs:=hzz.2 hz;have hft:(G.take (j+1)).filter pO=(G.take j).filter pO:=by
       rw [aw ht,aa7,List.filter_cons,Yu (by unfold pO;rw [YN hz];decide)];simp
      refine ah (sr (mI (mL (aM ?_))));refine vV ?_;refine ni ?_;refine bo ?_;refine Td ?_;refine bj hh (hsg _) rfl ?_;intro w33 hh;refine dn (aa (cF (aq (bz (ai (ak (mI ?_)))))));refine a8 (aI (aD (ai ?_)));refine ⟨⟨j+1,B,d,Yo,rfl,by rw [hft];rfl,by rw [hft];exact hh⟩,by show m-(j+1)<m-j;omega, ?_⟩;exact er
     ·have hs:¬t.c.i.sign=0:=fun h=>hz (hzz.1 h);have hft:(G.take (j+1)).filter pO=(G.take j).filter pO++[t]:=by
       rw [aw ht,aa7,List.filter_cons,Yt (by unfold pO;rw [YS hz];rfl)];simp
      refine ah (sr (mI (mL (aM ?_))));refine vV ?_;refine ni ?_;refine bo ?_;refine Td ?_;refine bj hh (hsg _) rfl ?_;intro w33 hh;refine dn (aa (cT (ak (mL (mL (mI ?_))))));refine ni ?_;refine cg (vs:=[_,_,_,_]) aJ.out rfl (hh.dT (f:=TR.cells) (x:=t) (l:=G) (i:=1) rfl TR.len Yp ht) rfl Yp ?_;refine D6 ?_;intro b40 w40 hh;refine pB ?_;intro A41 c41 w41 hh;simp only [YG,Y8] at hh;replace hh:=hh.sub (Zc _ _);refine tg ?_;refine a8 (aI (aD (ai ?_)));refine ⟨⟨j+1,A41,c41,Yo,rfl,by rw [hft,YE];rfl,by rw [hft,YE,bM,rA];exact hh⟩,by show m-(j+1)<m-j;omega, ?_⟩;exact er
    ·obtain rfl:j=m:=Yo;rw [YC Yo] at hh hfl ⊢;generalize G.filter pO=F at*;by_cases h4:4096<F.length
     ·rw [Yt h4];refine ah (sr (mI (mL (aM ?_))));refine IY ?_;refine bT (aa (cT (sr ?_)));refine fe [_,_] ?_;refine bg hh 2 [_,_] ?_;intro ws hh;replace hh:Hp _ (_::_::.blk _ _ [_,_] _::_) _:=hh;refine aI (aa (av (aF ?_)));refine pJ ?_;exact TQ
     ·rw [Yu h4];refine ah (sr (mI (mL (aM ?_))));refine IY ?_;refine bT (aa (cF (aq (ai (sr (mI (mL ?_)))))));refine fe [_,_] ?_;refine bg hh 2 [_,_] ?_;intro ws hh;replace hh:Hp _ (_::_::.blk _ _ [_,_] _::_) _:=hh;refine aI (aa (av ?_));refine pJ ?_;exact ⟨⟨v,B,F.length,d,F⟩,⟨rfl,rfl⟩,rfl,hh.sub (Yv _ (Zx _))⟩
def iA (v:Int):ByteArray:=⟨(List.replicate v.toNat 0).toArray⟩
theorem pN {v:Int} (h:0≤v):((iA v).size:Int)=v:=by
 have:(iA v).size=v.toNat:=by unfold iA;show (List.replicate v.toNat (0:UInt8)).toArray.size=_;rw [abf,ZG]
 omega
theorem yP (v:Int):fR (iA v).data.toList=true:=by
 unfold fR iA;rw [Y0];intro c hc;have:(⟨(List.replicate v.toNat (0:UInt8)).toArray⟩:ByteArray).data.toList=List.replicate v.toNat 0:=rfl;rw [this] at hc;rw [(List.mem_replicate.1 hc).2];decide
theorem LK (h:l.length≤4096):iP l=0:=by
 unfold iP;have:=dX l;rw [Yu Yo]
theorem CG {v:Int}{t:TR} (hf:jW v=true) (h:iu v t=true):lj v [t]=0:=by
 unfold lj;rw [Yu (by rw [hf];simp [h]),Yu (by simp),LK (by simp)]
def Ct (v:Int):Int:=if jW v=false then 1 else 0
theorem mY (v:Int) (c:NR) (k:Nat) (w:World) (hT:dP w) (hc:c.ok∧Sz k c.d) (hk:k≤2999980):
  Calls Tryz.prog 191 #[.int .i64 v,.agg #[.bool c.neg,.string c.aY,.int .i64 c.e]] w fun r w'=>∃g:PX,iy (Ct v) v (aU [⟨iA v,c⟩]) g∧r=.returned (.tuple #[.agg #[.int .i64 g.v,.slice g.A g.n g.c],.int .i64 (Ct v)])∧Hp w [g.row] w':=by
 have hh:=Hp.start w;have hfw:=fun w1=>oM v w1
 cases hf:jW v with
 |false=>
  rw [hf] at hfw;rw [show Ct v=1 by unfold Ct;rw [Yt hf]];refine aj (N:=20) (l:=[.int .i64 v,.agg #[.bool c.neg,.string c.aY,.int .i64 c.e]]) Tryz.func191 rfl rfl (by simp) ?_;refine sr ?_;refine bO hh [_,_,_] ?_;intro b3 w3 hh;refine bC hh ?_;intro b4 w4 hh;refine aI (aa (ah (sr (mI ?_))));refine bj hh (hfw _) rfl ?_;intro w7 hh;refine ig ?_;refine aa (cT (sr ?_));exact QV
 |true=>
  rw [hf] at hfw;obtain ⟨h0,h12⟩:=jb.1 hf;have hm:lj v [⟨iA v,c⟩]=0:=CG hf (by unfold iu;rw [yP,YN (pN h0)];rfl);have hmk:=fun A cc w1 hT1 hS1=>tJ v A 1 cc [⟨iA v,c⟩] k w1 hT1 hS1 Yp Yo (fun t ht=>by rw [YT.1 ht];exact hc) (fun t ht=>by rw [YT.1 ht];have:=pN h0;show (iA v).size≤_;omega);rw [hm] at hmk;rw [show Ct v=0 by unfold Ct;rw [Yu (by rw [hf];decide)]];refine aj (N:=20) (l:=[.int .i64 v,.agg #[.bool c.neg,.string c.aY,.int .i64 c.e]]) Tryz.func191 rfl rfl (by simp) ?_;refine sr ?_;refine bO hh [_,_,_] ?_;intro b3 w3 hh;refine bC hh ?_;intro b4 w4 hh;refine aI (aa (ah (sr (mI ?_))));refine bj hh (hfw _) rfl ?_;intro w7 hh;refine ig ?_;refine Ce ?_;refine kO [] [0,0,2,6,0,30,62,127,255,255,1023,2047] 7 [[(0,none)],[(0,none)],[(11,some 1)],[(12,some 2)],[(3,none)],[(13,some 3),(14,some 4)],[(15,some 5)]] [(6,16),(5,15),(4,14),(3,13),(2,12),(1,11),(0,10)] [([],4,[(6,16),(5,15),(4,14),(3,13),(2,12),(1,11),(0,10)])] hh mixed Yq Yq Yp ?_;refine dJ ?_;refine dJ ?_;refine a7 (i:=2) (lY v.toNat 1 (nB (List.replicate v.toNat 0))) (lY.ext) ?_ ?_
  ·intro ρ1 w1 hj hR;exact we v.toNat ▸ Qh (n:=v.toNat) (show ρ1 11=Value.int _ _ from hR.1) (show ρ1 11=Value.int _ _ from hR.1) Yo Yo bG.out aJ.out rfl Yo Yo (fun _ _ h1 h2=>⟨h2,h1⟩)
  refine a7 (i:=3) (Is (.string (iA v))) (Is.ext) ?_ ?_
  ·intro ρ1 w1 hj hR;obtain ⟨g12,e12,o12⟩:=hR.1;exact let ⟨g,e,o⟩:=hR.1;fI rfl (nL (l:=List.replicate v.toNat 0) bG.out bG.out bG.out e o) ⟨Below.refl _ _,rfl⟩
  refine dK 1 [_,_,_] ?_;refine dB [_,_,_,_] ?_;refine x3 [_,_,_,_] ?_;refine aH ?_;intro p_ hp_;simp only [YH,ZN,or_false] at hp_
  rcases hp_ with rfl
  intro f W hJ hV;have hb_3:=hJ.bl;obtain ⟨v16,v15,v14,v13,v12,v11,v10,_⟩:=hV;simp only [ix];have e10:f 0=_:=v10;rw [e10];have e11:f 1=_:=v11;rw [e11];obtain ⟨g12,e12,o12⟩:lY v.toNat 1 (nB (List.replicate v.toNat 0)) (f 2) W:=v12;rw [e12];have e13:f 3=_:=v13;rw [e13];have e14:f 4=_:=v14;rw [e14];have e15:f 5=_:=v15;rw [e15];obtain ⟨A16,c16,e16,f16⟩:Rows _ _ _ (f 6) W:=v16;rw [e16];replace hh:=hJ.hp;clear e10 e11 e12 e13 e14 e15 e16 hJ;refine ay (hmk _ _ _ (hT.hp hh) f16) au.out rfl Yp ?_;rintro e_ w17 ⟨g,og,rfl,h3⟩;refine ⟨_,rfl, ?_⟩;replace hh:=hh.join h3;refine eA ?_;simp only [YB,Yz] at hh;refine dh (i:=8) (by repeat (first|exact cz|refine bR ?_|refine cG ?_|refine np_scope ?_)) rfl Yq Yq Yq (fun _=>eM (show _=Value.tuple (List.toArray _) from rfl) rfl) Yp ?_;refine dh (i:=9) (by repeat (first|exact cz|refine bR ?_|refine cG ?_|refine np_scope ?_)) rfl Yq Yq Yq (fun _=>eM (show _=Value.tuple (List.toArray _) from rfl) rfl) Yp ?_;refine jL 10 Yp Yq Yp Yq Yq ?_;exact Lk
def pg (v:Int) (x:Nat):ByteArray:=⟨((List.replicate v.toNat (0:UInt8)).set x 1).toArray⟩
theorem sP {v:Int}{x:Nat} (h:0≤v):((pg v x).size:Int)=v:=by
 have:(pg v x).size=v.toNat:=by unfold pg;show ((List.replicate v.toNat (0:UInt8)).set x 1).toArray.size=_;rw [abf,aas,ZG]
 omega
theorem DW (v:Int) (x:Nat):fR (pg v x).data.toList=true:=by
 unfold fR;rw [Y0];intro c hc;have:(pg v x).data.toList=(List.replicate v.toNat 0).set x 1:=rfl;rw [this] at hc
 rcases List.mem_or_eq_of_mem_set hc with h|rfl
 ·rw [(List.mem_replicate.1 h).2];decide
 ·decide
theorem JS {l:List UInt8}{i:Nat}{c:UInt8} (h:i<l.length):cm (nB l) (i*1) [.int .u8 c.toNat]=nB (l.set i c):=by
 unfold cm nB;rw [YV,abO,Yt h,ZD,Y6,List.map_take,aaV,Y5]
 rfl
def uV (v x:Int):Int:=if jW v=false∨x<0∨v≤x then 1 else 0
theorem Gh (v x:Int) (w:World) (hT:dP w):
  Calls Tryz.prog 189 #[.int .i64 v,.int .i64 x] w fun r w'=>∃g:PX,iy (uV v x) v (aU [⟨pg v x.toNat,nR ((1:Int):Dyadic)⟩]) g∧r=.returned (.tuple #[.agg #[.int .i64 g.v,.slice g.A g.n g.c],.int .i64 (uV v x)])∧Hp w [g.row] w':=by
 have hh:=Hp.start w;have hfw:=fun w1=>oM v w1
 cases hf:jW v with
 |false=>
  rw [hf] at hfw;rw [show uV v x=1 by unfold uV;rw [Yt (.inl hf)]];refine II ?_;refine sr ?_;refine bC hh ?_;intro b4 w4 hh;refine aI (aa (ah (sr (mI ?_))));refine bj hh (hfw _) rfl ?_;intro w8 hh;refine ig ?_;refine mB ?_;refine gS (gS ?_);refine gi ?_;refine mB ?_;refine gS (gS (gS ?_));exact HY
 |true=>
  rw [hf] at hfw;obtain ⟨h0,h12⟩:=jb.1 hf;by_cases hx0:x<0
  ·rw [show uV v x=1 by unfold uV;rw [Yt (.inr (.inl hx0))]];refine II ?_;refine sr ?_;refine bC hh ?_;intro b4 w4 hh;refine aI (aa (ah (sr (mI ?_))));refine bj hh (hfw _) rfl ?_;intro w8 hh;refine ig ?_;refine mB (gT (mI (gT ?_)));refine a9 ?_;refine fK ?_;refine mB ?_;refine gS (gS (gS ?_));exact HY
  ·by_cases hx1:v≤x
   ·rw [show uV v x=1 by unfold uV;rw [Yt (.inr (.inr hx1))]];refine II ?_;refine sr ?_;refine bC hh ?_;intro b4 w4 hh;refine aI (aa (ah (sr (mI ?_))));refine bj hh (hfw _) rfl ?_;intro w8 hh;refine ig ?_;refine mB (gT (mI (gT ?_)));refine a9 ?_;refine fK ?_;refine mB (gT (mI (gT (mI (gT ?_)))));refine dF ?_;refine fK ?_;refine aa (cT (sr ?_));exact QV
   ·rw [show uV v x=0 by unfold uV;rw [Yu (by rintro (h|h|h);exact absurd (hf.symm.trans h) Yp;omega;omega)]];have hm:lj v [⟨pg v x.toNat,nR ((1:Int):Dyadic)⟩]=0:=CG hf (by unfold iu;rw [DW,YN (sP h0)];rfl);have z1:Sz 24 ((1:Int):Dyadic):=Vj (m:=1) (e:=0) Yp Yp Yp;have hmk:=fun A cc w1 hT1 hS1=>tJ v A 1 cc [⟨pg v x.toNat,nR ((1:Int):Dyadic)⟩] 24 w1 hT1 hS1 Yp Yo (fun t ht=>by rw [YT.1 ht];exact ⟨z1.ok Yp,by show Sz 24 (nR _).d;rw [bL];exact z1⟩) (fun t ht=>by rw [YT.1 ht];have:=sP (x:=x.toNat) h0;show (pg v x.toNat).size≤_;omega);rw [hm] at hmk;refine II ?_;refine sr ?_;refine bC hh ?_;intro b4 w4 hh;refine aI (aa (ah (sr (mI ?_))));refine bj hh (hfw _) rfl ?_;intro w8 hh;refine ig ?_;refine mB (gT (mI (gT ?_)));refine a9 ?_;refine fK ?_;refine mB (gT (mI (gT (mI (gT ?_)))));refine dF ?_;refine fK ?_;refine aa (cF (aq (ai (sr (mI ?_)))));refine gj (n:=(v.toNat)) hh rfl rfl Yo Yo bG.out aJ.out rfl Yo Yo Yp ?_;intro b21 w21 hh;refine aL (aa (sr (mL (mI ?_))));refine cJ (k:=(x.toNat)) bG.out aJ.size rfl rfl Yo Yo Yp ?_;rw [we] at hh
    have hll:(nB (List.replicate v.toNat 0)).length=v.toNat:=by simp [nB]
    refine NI ?_;intro ws hh;simp only [YG] at hh;rw [show cm (nB (List.replicate v.toNat 0)) (x.toNat*1) [.int .u8 1]=nB ((List.replicate v.toNat 0).set x.toNat 1) from JS (l:=List.replicate v.toNat 0) (i:=x.toNat) (c:=1) (by rw [ZG];omega)] at hh;refine aa (ah ?_);refine kO [] [0,0,2,0,14,30,63,127,127,511,1023] 6 [[(0,none)],[(6,none)],[(26,some 1)],[],[(27,some 2),(28,some 3)],[(29,some 4)]] [(5,30),(4,29),(3,28),(2,27),(1,26),(0,25)] [([],4,[(5,30),(4,29),(3,28),(2,27),(1,26),(0,25)])] hh mixed Yq Yq Yp ?_;refine dJ ?_;refine gI ?_;refine a7 (i:=2) (Is (.string ⟨(((List.replicate v.toNat 0).set x.toNat 1)).toArray⟩)) Is.ext ?_ ?_
    ·intro ρ1 w1 hj hR;exact fI rfl (nL (l:=((List.replicate v.toNat 0).set x.toNat 1)) bG.out bG.out bG.out (show ρ1 26=Value.slice _ _ _ from hR.1) (hj.hp.az (i:=0) rfl)) ⟨Below.refl _ _,rfl⟩
    refine dC (fun _ hj=>kM 1 _ (hT.hp hj.hp) Yp Yp) ?_;refine dB [_,_,_,_] ?_;refine x3 [_,_,_,_] ?_;refine aH ?_;intro p_ hp_;simp only [YH,ZN,or_false] at hp_
    rcases hp_ with rfl
    intro f W hJ hV;have hb_5:=hJ.bl;obtain ⟨v30,v29,v28,v27,v26,v25,_⟩:=hV;simp only [ix];have e25:f 0=_:=v25;rw [e25];have e26:f 1=_:=v26;rw [e26];have e27:f 2=_:=v27;rw [e27];have e28:f 3=_:=v28;rw [e28];have e29:f 4=_:=v29;rw [e29];obtain ⟨A30,c30,e30,f30⟩:Rows _ _ _ (f 5) W:=v30;rw [e30];replace hh:=hJ.hp;clear e25 e26 e27 e28 e29 e30 hJ;refine ay (hmk _ _ _ (hT.hp hh) f30) au.out rfl Yp ?_;rintro e_ w31 ⟨g,og,rfl,h3⟩;refine ⟨_,rfl, ?_⟩;replace hh:=hh.join h3;refine eA ?_;simp only [YB,Yz] at hh;refine dh (i:=7) (by repeat (first|exact cz|refine bR ?_|refine cG ?_|refine np_scope ?_)) rfl Yq Yq Yq (fun _=>eM (show _=Value.tuple (List.toArray _) from rfl) rfl) Yp ?_;refine dh (i:=8) (by repeat (first|exact cz|refine bR ?_|refine cG ?_|refine np_scope ?_)) rfl Yq Yq Yq (fun _=>eM (show _=Value.tuple (List.toArray _) from rfl) rfl) Yp ?_;refine jL 9 Yp Yq Yp Yq Yq ?_;exact Q9
end Go.Proofs.YtmchncaiffbpaaaGreatDoor
