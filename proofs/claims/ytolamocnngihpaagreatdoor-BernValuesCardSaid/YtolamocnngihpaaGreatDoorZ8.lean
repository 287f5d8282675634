/- Lemmas for bernValues, part 8. -/
import Derived.Test.YtolamocnngihpaaGreatDoorZ7
namespace Go.Proofs.YtolamocnngihpaaGreatDoor
open Go.RowKit
instance:aM Tryz.prog 87 1 false 8 [.nilFunc]:={}
theorem rX (fx:FX) (L:Option Addr) (m2 c2:Nat) (tn:List NR) (k q G:Nat) (w:World) (hT:dN w) (hf:fx.at_ w) (hl:fx.k8 k) (hcap:fx.m≤fx.b) (hS:Sl w L m2 3 (ay NR.cells tn)) (hv:∀s∈tn,Val q s s.d∧Sz q (1-s.d)) (hq:q≤2000)
  (hG:fx.e=0→∀d∈fx.ns,2+2*(q*d)+(d+1)≤G) (hk:k+fx.n*G≤500000):
  Calls Tryz.prog 10 #[.agg #[.slice fx.A fx.n fx.a,.slice fx.B fx.m fx.b],.slice L m2 c2] w fun r w'=>r=.returned (.tuple #[.agg #[.bool (nR (IY fx tn)).neg,.string (nR (IY fx tn)).bg,.int .i64 (nR (IY fx tn)).e],.int .i64 (Iu fx m2)])∧Below w.heap.size w w':=by
 have hh:=Hp.start w;have hck:=fun w1 hT1 hb=>qR fx k w1 hT1 (hf.ext hb) hl;have hlt:=hS.bp NR.len Xk;have hev0:Iu fx m2≠0→IY fx tn=0:=fun h=>by unfold IY;rw [hlt,Xp h]
 by_cases h0:fx.e=0
 ·by_cases h1:m2=fx.n
  ·have hE:Iu fx m2=0:=by unfold Iu;rw [Xp Xj,Xp Xj]
   have hV:IY fx tn=iX fx.ns.reverse (fx.cs.map NR.d) (tn.map NR.d).reverse:=by unfold IY;rw [hlt,hE,Xo rfl]
   rw [hE,hV];obtain ⟨hdeg,hnum,h12,hlow,hcnt,hmax⟩:=FX.fv h0;have hln:fx.ds.length=fx.n:=hf.ln.1;have hlm:=hf.ln.2;have hnl:fx.ns.length=fx.n:=by unfold FX.ns;rw [XA];exact hln
   have hm:fx.m=au fx.ns:=by rw [←hlm,hcnt]
   have hdg:Sl w fx.A fx.n 1 (bu (bM fx.ns)):=by rw [←hdeg];exact hf.dg
   have hxz:∀x∈fx.cs.map NR.d,Sz k x:=fun x h=>by
    obtain ⟨c,hc,rfl⟩:=XG.1 h;exact (hl.num c hc).2
   have hxl:(fx.cs.map NR.d).length=au fx.ns:=by rw [XA,hcnt]
   have hval:=xS fx.ns.reverse (tn.map NR.d).reverse (fx.cs.map NR.d) (by rw [X8,X8,XA];omega) (by rw [hxl,cD]);have hnm:Sl w fx.B (au fx.ns) 3 (ay NR.cells ((fx.cs.map NR.d).map nR)):=by rw [←hm,←hnum];exact hf.nm
   have hG:=hG h0;rw [hm] at hcap;refine KE ?_;refine jF fun D_=> ?_;refine al ?_;refine cv hh [_,_] ?_;intro b2 w2 hh;refine bP hh ?_;intro b4 w4 hh;refine aI (aa ?_);refine jF fun D_=> ?_;refine sr ?_;refine cg hh 1 [_,_] ?_;refine eu ?_;intro w13 hh;refine aI (aa (sr (mI ?_)));refine cJ (aa (cF (aq (ai ?_))));refine jF fun D_=> ?_;refine sr (mL (aH (bH ?_)));refine bE hh 1 ?_;refine aH ?_;refine cJ (aa (cF (aq (ai ?_))));refine jF fun D_=> ?_;refine al (bH ?_);refine bE hh 1 ?_;refine aL (aa ?_);refine yF ?_;refine jF fun D_=> ?_;refine al (mL (aH ?_));refine ep (aI (aa ?_));rw [hm];have hst:∀(H:List HE) (w1:World),Hp w (H++[]) w1→Sl w1 fx.B (au fx.ns) 3 (ay NR.cells ((fx.cs.map NR.d).map nR)):=fun H w1 h=>hnm.ext h.below;generalize fx.cs.map NR.d=xs at*;refine ua (L6 [7,8,9,10,11,30,31,32,33,34,35,36,37,38,39,40,41,42,43,44,45,46,47,48,49,50,51,52,53,54] 7 8
    (fun M v7 v8 w'=>∃(j:Nat) (z:Int) (X:List Dyadic) (A:Option Addr) (a:Nat) (R:List HE),j≤fx.n∧v8=.int .i64 z∧z=(j:Int)-1∧v7=.slice A (au (fx.ns.take j)) a∧au (fx.ns.take j)≤a∧X.length=au (fx.ns.take j)∧(∀x∈X,Sz (k+(fx.n-j)*G) x)∧oG (fx.ns.take j).reverse ((tn.map NR.d).take j).reverse X=oG fx.ns.reverse (tn.map NR.d).reverse xs∧(∀x∈R,x.Te=true)∧(∀(H:List HE) (w1:World),Hp w (H++R) w1→Sl w1 A (au (fx.ns.take j)) 3 (ay NR.cells (X.map nR)))∧Hp w (.blk b4 40 [.bool false,.string (ByteArray.mk #[]),.int .i64 0] (0,0)::.blk b2 33 [.slice fx.A fx.n fx.a,.slice fx.B fx.m fx.b] (0,0)::(R++pX M)) w')
    (fun _ v _=>(intOf v+1).toNat) ?_ ?_)
   ·refine ⟨fx.n,_,xs,_,_,[],Xr _,rfl,Xj,by rw [Xz Xj];rfl,by rw [Xz Xj];exact hcap,by rw [Xz Xj];exact hxl,fun x h=>(hxz x h).mono Xj,by rw [Xz Xj,Xz (by rw [XA];omega)],fun x h=>(by cases h),by rw [Xz Xj];exact hst,hh⟩
   ·clear hh hst;rintro M ρ' v7 v8 w' ⟨j,z,X,A,a,R,hj,rfl,hz,rfl,hca,hXl,hXz,hXe,hcR,hrd,hh⟩;by_cases hj0:j=0
    ·subst hj0;obtain rfl:z= -1:=Xj;have hX:X=[iX fx.ns.reverse xs (tn.map NR.d).reverse]:=by
      rw [←hval,←hXe];simp [oG]
     subst hX;have hh1:Hp w ([_,_]++R) w':=hh.sub (.cons_cons _ (.cons_cons _ (ZJ R _)));have hsl:=hrd _ _ hh1;rw [ZH] at hsl;obtain ⟨ac,rfl,sc⟩:=hsl.at_ (show 0<au [] by decide);have hx0:([iX fx.ns.reverse xs (tn.map NR.d).reverse].map nR)[0]?=some (nR (iX fx.ns.reverse xs (tn.map NR.d).reverse)):=rfl;generalize iX fx.ns.reverse xs (tn.map NR.d).reverse=V at*;rw [ZH];refine jF fun D_=> ?_;refine sr (mI ?_);refine dL (aa (cF (a6 (aE ?_))));refine Oj ?_;refine jF fun D_=> ?_;refine al (mL ?_);refine cE (k:=0) bh.out aM.size rfl rfl Xj (show 0<au [] by decide) Xk ?_;refine cq (vs:=[_,_,_]) aM.out rfl (sc.recAt NR.len hx0) rfl Xk ?_;refine bR hh 0 [_,_,_] ?_;intro ws hh;replace hh:Hp _ (.blk _ _ [_,_,_] _::_) _:=hh;refine aI (aa ?_);refine Fs fun D_=> ?_;refine aw ?_;refine rh (M:=M) (vs:=[.agg #[.bool (nR V).neg,.string (nR V).bg,.int .i64 (nR V).e],.int .i64 0]) (hh.perm (List.perm_append_comm (l₁:=_::_::R))) (.inr rfl) rfl ?_;exact S4
    ·obtain ⟨i,rfl⟩:∃i,j=i+1:=⟨j-1,Xj⟩;obtain rfl:z=(i:Int):=Xj;obtain ⟨tq,htq⟩:=ak (l:=tn) (k:=i) Xj;obtain ⟨vt,ht1⟩:=hv tq (Xt htq);obtain ⟨d,hd⟩:=ak (l:=fx.ns) (k:=i) Xj;have hmd:=Xt hd;have hdl:=hlow d hmd;have hGd:=hG d hmd;have hgd:=ck (gN hd);obtain ⟨adL,rfl,sL⟩:=hS.at_ Xj;obtain ⟨adD,hAD,sD⟩:=hdg.at_ Xj;have si:Value.slice fx.A fx.n fx.a=.slice (some adD) fx.n fx.a:=by rw [hAD]
     have hh1:Hp w ([_,_]++R) w':=hh.sub (.cons_cons _ (.cons_cons _ (ZJ R _)));obtain ⟨ac,rfl, -⟩:=(hrd _ _ hh1).at_ (cC _);clear hh1;have hcs:au (fx.ns.take (i+1))=au (fx.ns.take i)*(d+1):=by rw [az hd,de];simp [au]
     have hct:=ij fx.ns (i+1);have hcp:=cC (fx.ns.take i);have hc4:=ij fx.ns i;have hd1c:d+1≤au (fx.ns.take (i+1)):=by rw [hcs];exact aaW _ hcp
     have hKG:k+(fx.n-(i+1))*G+G=k+(fx.n-i)*G:=by
      rw [show fx.n-i=fx.n-(i+1)+1 by omega,Zc,Zd];omega
     have hKle:k+(fx.n-(i+1))*G≤500000:=by
      have:=Yr G (show fx.n-(i+1)≤fx.n by omega);omega
     have eD:(d:Int)+1=((d+1:Nat):Int):=Xj;refine jF fun D_=> ?_;refine sr (mI ?_);refine dL (aa (cT (aq (ai ?_))));refine yF (ua ?_);refine jF fun D_=> ?_;refine al (mL (mI ?_));refine cx ?_;refine cq (vs:=[_,_,_]) aM.out rfl ((sL.ext hh.below).recAt NR.len htq) rfl Xk ?_;refine aF (zY tq tq.d q _ (hT.hp hh) vt hq) ar.out rfl Xk ?_;rintro e_ w38 ⟨b1,b3,rfl,h2⟩;refine ⟨_,rfl, ?_⟩;replace hh:=hh.join h2;simp only [Xw,Xu] at hh;clear h2;refine bP hh ?_;intro b9 w9 hh;refine bR hh 0 [_] ?_;intro ws hh;replace hh:Hp _ (.blk _ _ [_] _::_) _:=hh;refine aa ?_;refine jF fun D_=> ?_;refine al ?_;refine bP hh ?_;intro b10 w10 hh;refine aa ?_;refine yF ?_;refine jF fun D_=> ?_;refine al (mL (bH ?_));refine bE hh 5 ?_;refine mI ?_;refine cE (k:=i) bh.out aM.size si rfl Xj Xj Xk ?_;refine bU aM.out rfl ((sD.ext hh.below).wj hgd) Xk ?_;refine bk ?_;rw [eD];refine aF (AQ (some ac) (au (fx.ns.take (i+1))) a (d+1) _ Xj) ar.out rfl Xk ?_;rintro e_ w46 ⟨c2,c1,rfl,h2⟩;refine ⟨_,rfl, ?_⟩;replace hh:=hh.join h2;simp only [Xw,Xu] at hh;clear h2;replace hh:=hh.perm (XX (l₁:=[_,_]))
     simp only [Xw,Xu] at hh;replace hh:=hh.cU 40 3;refine aa ?_;have hmk:=hh.SA (M:=M) (by repeat (first|exact aaM _ _|apply Xv));have hmlt:=hmk.lt;replace hh:=hh.sub (H':=_::_::_::_::_::_::_::_::_::R) (by repeat (first|exact ZJ _ _|apply Xq));have hc2:=hh.dE (i:=3) (o:=0) rfl rfl;have hc1:=hh.dE (i:=2) (o:=0) rfl rfl;have hseq:=Iq c2 c1 ac (au (fx.ns.take (i+1))) a (d+1) (au (fx.ns.take i)) _ hc2 hc1 hcs Xj hca Xj Xj
     have hcel:∀(A1:Option Addr) (n1 k1:Nat) (cs vs:List Value),∀x∈(HE.row A1 n1 k1 40 3 cs::.blk b10 27 vs (0,0)::.blk c1 3 [.int .i64 ((d+1:Nat):Int)] (0,0)::.blk c2 27 [.slice (some ac) (au (fx.ns.take (i+1))) a] (0,0)::.blk b9 87 [.func (.func 107) #[] #[.pointer (some ⟨b1,0,none⟩),.pointer (some ⟨b3,0,none⟩)]] (0,0)::.blk b3 40 [.bool (nR (1-tq.d)).neg,.string (nR (1-tq.d)).bg,.int .i64 (nR (1-tq.d)).e] (0,0)::.blk b1 40 [.bool tq.neg,.string tq.bg,.int .i64 tq.e] (0,0)::.blk b4 40 [.bool false,.string (ByteArray.mk #[]),.int .i64 0] (0,0)::.blk b2 33 [.slice fx.A fx.n fx.a,.slice fx.B fx.m fx.b] (0,0)::R),x.Te=true:=fun A1 n1 k1 cs vs x hx=>by
      simp only [XL] at hx
      rcases hx with rfl|rfl|rfl|rfl|rfl|rfl|rfl|rfl|rfl|hx
      all_goals first|rfl|exact hcR x hx
     trace_state
     refine ua (Hw (α:=Fin (au (fx.ns.take i))) (enc:=fun jj:Fin (au (fx.ns.take i))=>.slice (some (ac.add (jj.val*(d+1)*3))) (d+1) (d+1)) 11 Xk Xk rfl (enters_of Tryz.func108 Xl rfl) hseq Oq (fun W l o o' h _ _ _=>O7 (jL hc2) (jL hc1) W l o o' h)
      (fun bs W=>∃(Y:List Dyadic) (A1:Option Addr) (k1:Nat),Y.length=bs.length∧(∀y∈Y,Sz (k+(fx.n-i)*G) y)∧(bs=(List.finRange (au (fx.ns.take i))).take bs.length→Y=(lj d tq.d (au (fx.ns.take i)) X).take bs.length)∧Marks w M W∧Hp w (.row A1 bs.length k1 40 3 (ay NR.cells (Y.map nR))::.blk b10 27 [.slice A1 bs.length k1] (0,0)::.blk c1 3 [.int .i64 ((d+1:Nat):Int)] (0,0)::.blk c2 27 [.slice (some ac) (au (fx.ns.take (i+1))) a] (0,0)::.blk b9 87 [.func (.func 107) #[] #[.pointer (some ⟨b1,0,none⟩),.pointer (some ⟨b3,0,none⟩)]] (0,0)::.blk b3 40 [.bool (nR (1-tq.d)).neg,.string (nR (1-tq.d)).bg,.int .i64 (nR (1-tq.d)).e] (0,0)::.blk b1 40 [.bool tq.neg,.string tq.bg,.int .i64 tq.e] (0,0)::.blk b4 40 [.bool false,.string (ByteArray.mk #[]),.int .i64 0] (0,0)::.blk b2 33 [.slice fx.A fx.n fx.a,.slice fx.B fx.m fx.b] (0,0)::R) W)
      ?own ?zero ?asg ?body ?done)
     case own=>
      intro s W W' row ⟨Y,A1,k1,h1,h2,h3,h4,h5⟩ hg hr;exact ⟨Y,A1,k1,h1,h2,h3,h4.grown hmlt hg (fun r e=>(hr r e).1),h5.S8 (hcel _ _ _ _ _) hg fun r e=>⟨XV hh.size (hr r e).1,(hr r e).2⟩⟩
     case zero=>exact ⟨[],none,0,rfl,fun y h=>(by cases h),fun _=>rfl,hmk,hh⟩
     case asg=>
      intro l x W;refine al (aL (aA ?_));exact ⟨rfl,rfl⟩
     case body=>
      rintro l bs qq W ⟨Y,A1,k1,hYl,hYz,hYe,hmk2,hh0⟩ hbl;have hqm:=qq.isLt;have hh:=hh0.Nw;simp only [Xw,Xu] at hh;generalize hO:Dt _ _ _=O at hh;have hq1:qq.val*(d+1)+(d+1)≤au (fx.ns.take (i+1)):=by
       have:=Yr (d+1) (show qq.val+1≤au (fx.ns.take i) from hqm);rw [Yw] at this;omega
      have hline:=(hrd [_,_,_,_,_,_,_,_,_] W hh0).part (qq.val*(d+1)) (d+1) hq1 Xj;rw [xk] at hline;have hfo:=fun w1 hT1 hS1 hb1 hb2=>wL tq tq.d ⟨b1,0,none⟩ ⟨b3,0,none⟩ (some (ac.add (qq.val*(d+1)*3))) (d+1) (d+1) d (mG (d+1) qq.val X) (k+(fx.n-(i+1))*G) q w1 hT1 hS1 rfl hdl (fun x hx=>hXz x (rq hx)) vt ht1 hb1 hb2 hKle hq;have hfz:=yv (d:=d) (i:=d+1) (fun x hx=>hXz x (rq (K:=d+1) (q:=qq.val) hx)) vt.sz ht1 (Xr _);have hfa:=Jq (d:=d) (m:=au (fx.ns.take i)) tq.d X hqm;generalize lU d tq.d (mG (d+1) qq.val X) (d+1)=y at*;refine ao ?_;refine JO hh mixed fun W2 hJ2=> ?_;have hst2:=hJ2.hp
      refine Jw (I:=fun c x1 x2 e g ρ w'=>ρ 9=.pointer (some ⟨b9,0,none⟩)∧ρ 10=.pointer (some ⟨b10,0,none⟩)∧ρ 11=.slice (some (ac.add (qq.val*(d+1)*3))) (d+1) (d+1)∧(c=true→ρ 48=.slice A1 bs.length k1)∧(x1=true→ρ 49=.func (.func 107) #[] #[.pointer (some ⟨b1,0,none⟩),.pointer (some ⟨b3,0,none⟩)])∧(x2=true→ρ 50=.slice (some (ac.add (qq.val*(d+1)*3))) (d+1) (d+1))∧(e=true→ρ 51=.agg #[.bool (nR y).neg,.string (nR y).bg,.int .i64 (nR y).e])∧∃R52:List HE,Hp w (R52++(.row A1 bs.length k1 40 3 (ay NR.cells (Y.map nR))::.blk b10 27 [.slice A1 bs.length k1] (0,0)::.blk c1 3 [.int .i64 ((d+1:Nat):Int)] (0,0)::.blk c2 27 [.slice (some ac) (au (fx.ns.take (i+1))) a] (0,0)::.blk b9 87 [.func (.func 107) #[] #[.pointer (some ⟨b1,0,none⟩),.pointer (some ⟨b3,0,none⟩)]] (0,0)::.blk b3 40 [.bool (nR (1-tq.d)).neg,.string (nR (1-tq.d)).bg,.int .i64 (nR (1-tq.d)).e] (0,0)::.blk b1 40 [.bool tq.neg,.string tq.bg,.int .i64 tq.e] (0,0)::.blk b4 40 [.bool false,.string (ByteArray.mk #[]),.int .i64 0] (0,0)::.blk b2 33 [.slice fx.A fx.n fx.a,.slice fx.B fx.m fx.b] (0,0)::(R++O))) w'∧(g=true→∃g52,ρ 52=.slice (some ⟨g52,0,none⟩) 1 1∧R52=[.row (some ⟨g52,0,none⟩) 1 1 40 3 [.bool (nR y).neg,.string (nR y).bg,.int .i64 (nR y).e]]))
       (J:=fun ρ w'=>ρ 10=.pointer (some ⟨b10,0,none⟩)∧∃(A3:Option Addr) (k3:Nat),ρ 53=.slice A3 (bs.length+1) k3∧Hp w (.row A3 (bs.length+1) k3 40 3 (ay NR.cells (Y.map nR)++[.bool (nR y).neg,.string (nR y).bg,.int .i64 (nR y).e])::.blk b10 27 [.slice A1 bs.length k1] (0,0)::.blk c1 3 [.int .i64 ((d+1:Nat):Int)] (0,0)::.blk c2 27 [.slice (some ac) (au (fx.ns.take (i+1))) a] (0,0)::.blk b9 87 [.func (.func 107) #[] #[.pointer (some ⟨b1,0,none⟩),.pointer (some ⟨b3,0,none⟩)]] (0,0)::.blk b3 40 [.bool (nR (1-tq.d)).neg,.string (nR (1-tq.d)).bg,.int .i64 (nR (1-tq.d)).e] (0,0)::.blk b1 40 [.bool tq.neg,.string tq.bg,.int .i64 tq.e] (0,0)::.blk b4 40 [.bool false,.string (ByteArray.mk #[]),.int .i64 0] (0,0)::.blk b2 33 [.slice fx.A fx.n fx.a,.slice fx.B fx.m fx.b] (0,0)::(R++O)) w')
       (K:=fun _ w'=>∃(A3:Option Addr) (k3:Nat),Hp w (.row A3 (bs.length+1) k3 40 3 (ay NR.cells (Y.map nR)++[.bool (nR y).neg,.string (nR y).bg,.int .i64 (nR y).e])::.blk b10 27 [.slice A3 (bs.length+1) k3] (0,0)::.blk c1 3 [.int .i64 ((d+1:Nat):Int)] (0,0)::.blk c2 27 [.slice (some ac) (au (fx.ns.take (i+1))) a] (0,0)::.blk b9 87 [.func (.func 107) #[] #[.pointer (some ⟨b1,0,none⟩),.pointer (some ⟨b3,0,none⟩)]] (0,0)::.blk b3 40 [.bool (nR (1-tq.d)).neg,.string (nR (1-tq.d)).bg,.int .i64 (nR (1-tq.d)).e] (0,0)::.blk b1 40 [.bool tq.neg,.string tq.bg,.int .i64 tq.e] (0,0)::.blk b4 40 [.bool false,.string (ByteArray.mk #[]),.int .i64 0] (0,0)::.blk b2 33 [.slice fx.A fx.n fx.a,.slice fx.B fx.m fx.b] (0,0)::(R++O)) w')
       rfl rfl rfl rfl rfl rfl rfl Xl Xl Xl Xl Xl Xl Xl Xl Xl Xl Xl Xl Xl Xl ?s0 ?s1 ?s2 ?s3 ?s4 ?s5 ?s6 ?fin ?st
      case st=>exact ⟨rfl,rfl,rfl,fun h=>(by cases h),fun h=>(by cases h),fun h=>(by cases h),fun h=>(by cases h),[],hst2,fun h=>(by cases h)⟩
      case s0=>
       rintro a b e g ρ w3 ⟨h9,h10,h11, -,h49,h50,h51,R52,hp,h52⟩;have hp2:=hp.sub (aaM R52 _);refine bU aM.out h10 (hp2.dE (i:=1) (o:=0) rfl rfl) Xk (aa ?_);refine ⟨(bo _ Xk _).trans h9,(bo _ Xk _).trans h10,(bo _ Xk _).trans h11,fun _=>gJ _ _ _,fun h=>(bo _ Xk _).trans (h49 h),fun h=>(bo _ Xk _).trans (h50 h),fun h=>(bo _ Xk _).trans (h51 h),R52,hp,fun h=> ?_⟩;obtain ⟨g52,h1,h2⟩:=h52 h;exact ⟨g52,(bo _ Xk _).trans h1,h2⟩
      case s1=>
       rintro c b ρ w3 ⟨h9,h10,h11,h48, -,h50,h51,R52,hp,h52⟩;have hp2:=hp.sub (aaM R52 _);refine bU aM.out h9 (hp2.dE (i:=4) (o:=0) rfl rfl) Xk (aa ?_);exact ⟨(bo _ Xk _).trans h9,(bo _ Xk _).trans h10,(bo _ Xk _).trans h11,fun h=>(bo _ Xk _).trans (h48 h),fun _=>gJ _ _ _,fun h=>(bo _ Xk _).trans (h50 h),fun h=>(by cases h),R52,hp,fun h=>(by cases h)⟩
      case s2=>
       rintro c a ρ w3 ⟨h9,h10,h11,h48,h49, -,h51,R52,hp,h52⟩;refine aP rfl rfl Xk (dF h11) (aa ?_);exact ⟨(bo _ Xk _).trans h9,(bo _ Xk _).trans h10,(bo _ Xk _).trans h11,fun h=>(bo _ Xk _).trans (h48 h),fun h=>(bo _ Xk _).trans (h49 h),fun _=>gJ _ _ _,fun h=>(by cases h),R52,hp,fun h=>(by cases h)⟩
      case s3=>
       rintro c ρ w3 ⟨h9,h10,h11,h48,h49,h50, -,R52,hp,h52⟩;have hp2:=hp.sub (aaM R52 _);have hp3:Hp w ([_,_,_,_,_,_,_,_,_]++R) w3:=hp2.sub (by repeat (first|exact ZJ _ _|apply Xq));have hl3:=(hrd _ w3 hp3).part (qq.val*(d+1)) (d+1) hq1 Xj;rw [xk] at hl3;refine fI (first:=[]) (cap:=[_,_]) (hfo w3 (hT.hp hp2) hl3 (hp2.bY (i:=6) (n:=3) rfl rfl) (hp2.bY (i:=5) (n:=3) rfl rfl)) ar.out (h49 rfl) (Yu (fun l=>[]++(l++[_,_])) (av (show ev ρ (Operand.tmp 50)=_ from h50 rfl) aU)) Xk ?_;rintro e_ w5 ⟨rfl,hb_⟩;refine ⟨_,rfl,aa ?_⟩;exact ⟨(bo _ Xk _).trans h9,(bo _ Xk _).trans h10,(bo _ Xk _).trans h11,fun h=>(bo _ Xk _).trans (h48 h),fun h=>(bo _ Xk _).trans (h49 h),fun h=>(bo _ Xk _).trans (h50 h),fun _=>gJ _ _ _,R52,hp.ext hb_,fun h=>(by cases h)⟩
      case s4=>
       rintro c ρ w3 ⟨h9,h10,h11,h48,h49,h50,h51,R52,hp, -⟩;have hp2:=hp.sub (aaM R52 _);refine cX hp2 (cs:=[_,_,_]) bh.out aM.out (aN (show ev ρ (Operand.tmp 51)=_ from h51 rfl) bZ) rfl rfl Xk Xk Xk rfl Xk ?_;intro g52 w5 hp5;refine aa ?_;exact ⟨(bo _ Xk _).trans h9,(bo _ Xk _).trans h10,(bo _ Xk _).trans h11,fun h=>(bo _ Xk _).trans (h48 h),fun h=>(bo _ Xk _).trans (h49 h),fun h=>(bo _ Xk _).trans (h50 h),fun h=>(bo _ Xk _).trans (h51 h),[_],hp5,fun _=>⟨g52,gJ _ _ _,rfl⟩⟩
      case s5=>
       rintro ρ w3 ⟨h9,h10,h11,h48,h49,h50,h51,R52,hp,h52⟩;obtain ⟨g52,h52',rfl⟩:=h52 rfl;refine cw hp (i:=1) rfl (show ev ρ (Operand.tmp 48)=_ from h48 rfl) (show ev ρ (Operand.tmp 52)=_ from h52') (hp.aC (i:=0) rfl) bh.out aM.out rfl Xk (bT NR.one [nR y]) Xj Xj Xk ?_;intro A3 k3 w5 hp5;refine aa ⟨(bo _ Xk _).trans h10,A3,k3,gJ _ _ _, ?_⟩;exact hp5.sub (X9 _ _)
      case s6=>
       rintro ρ w3 ⟨h10,A3,k3,h53,hp⟩;refine Bl hp h10 (i:=1) rfl h53 rfl aM.out rfl (by simp) rfl ?_;intro w5 hp5;exact aa ⟨A3,k3,hp5⟩
      case fin=>
       rintro ρ ws ⟨A3,k3,hh⟩;refine bz ?_;subst hO;obtain ⟨gr,rfl⟩:=hh.cn (i:=0) rfl Xj;have hkeep:=Hp.R9 (T':=_::_::_::_::_::_::_::_::R) hh0 (hcel _ _ _ _ _) hh rfl rfl;have el:(bs++[qq]).length=bs.length+1:=by simp
       refine ⟨hkeep,⟨by rw [hh.dE (i:=3) (o:=0) rfl rfl,hh0.dE (i:=3) (o:=0) rfl rfl],by rw [hh.dE (i:=2) (o:=0) rfl rfl,hh0.dE (i:=2) (o:=0) rfl rfl]⟩,Y++[y],some ⟨gr,0,none⟩,k3, ?_, ?_, ?_,hmk2.keeps hkeep, ?_⟩
       ·rw [el,Xy,hYl];rfl
       ·intro x hx
        rcases X3.1 hx with hx|hx
        ·exact hYz x hx
        ·obtain rfl:=XO.1 hx;exact hfz.mono Xj
       ·intro h;obtain ⟨h1,h2⟩:=Ii h hbl;rw [el,hYe h1,←h2,az hfa]
       ·rw [el,Yc,bD];exact hh.sub (by repeat (first|exact ZJ _ _|apply Xq))
     case done=>
      rintro D bs W hD2 rfl ⟨Y,A1,k1,hYl,hYz,hYe,hmk2,hh0⟩ hDo;have hA2:=hYe (by rw [Xz (Xr _)]);rw [Xz (by rw [rm,aal];exact Xr _)] at hA2;rw [aal] at hh0;subst hA2;have hmk3:=hmk2.cons hmlt hh.size hD2 hDo;have hroom:=hh0.eJ (i:=0) rfl;replace hh:=hh0.So (hcel _ _ _ _ _) hmk3;simp only [Xw,Xu] at hh;refine Fs fun D_=> ?_;refine al ?_;refine bE hh 1 ?_;refine aL (aA ?_);refine SW ?_;refine Fs fun D_=> ?_;refine al (mI ?_);refine ep (aI (aA ?_));refine Kr ?_;replace hh:=hh.sub (Xq _ (Xv _ (Xv _ (Xv _ (Xv _ (Xv _ (Xv _ (Xq _ (Xq _ (Yo _))))))))));replace hh:=hh.perm (XX (l₁:=[_,_]));simp only [Xw,Xu] at hh;replace hh:=hh.perm (XX (l₁:=[_,_]));simp only [Xw,Xu] at hh
      refine ⟨⟨i,(i:Int)-1,lj d tq.d (au (fx.ns.take i)) X,A1,k1,.row A1 (au (fx.ns.take i)) k1 40 3 (ay NR.cells ((lj d tq.d (au (fx.ns.take i)) X).map nR))::R,Xj,rfl,rfl,rfl,hroom,rm _ _ _ _,fun x hx=>(Jf hXz vt.sz ht1 x hx).mono Xj, ?_,fun x hx=> ?_,fun H w1 h1=> ?_,hh⟩, ?_, ?_⟩
      ·rw [←Ed X hd (by rw [Xx,htq];rfl)];exact hXe
      ·rcases XL.1 hx with rfl|hx
       ·rfl
       ·exact hcR x hx
      ·exact jM (h1.own (.row A1 (au (fx.ns.take i)) k1 40 3 (ay NR.cells ((lj d tq.d (au (fx.ns.take i)) X).map nR))) (Y2 _ XB))
      ·show ((i:Int)-1+1).toNat<((i:Int)+1).toNat;omega
      ·exact dV
  ·have hE:Iu fx m2=1:=by unfold Iu;rw [Xp Xj,Xo h1]
   rw [hev0 (by rw [hE];decide),hE];refine KE ?_;refine jF fun D_=> ?_;refine al ?_;refine cv hh [_,_] ?_;intro b2 w2 hh;refine bP hh ?_;intro b4 w4 hh;refine aI (aa ?_);refine jF fun D_=> ?_;refine sr ?_;refine cg hh 1 [_,_] ?_;refine eu ?_;intro w13 hh;refine aI (aa (sr (mI ?_)));refine cJ (aa (cF (aq (ai ?_))));refine jF fun D_=> ?_;refine sr (mL (aH (bH ?_)));refine bE hh 1 ?_;refine aH ?_;refine cJ (aa (cT (sr ?_)));refine fP [_,_,_] ?_;refine bR hh 0 [_,_,_] ?_;intro ws hh;replace hh:Hp _ (.blk _ _ [_,_,_] _::_) _:=hh;refine aI (aa (aw (aK ?_)));refine rh (M:=[]) (vs:=[.agg #[.bool false,.string (ByteArray.mk #[]),.int .i64 0],.int .i64 1]) hh (.inr rfl) rfl ?_;exact S4
 ·have hE:Iu fx m2=fx.e:=by unfold Iu;rw [Xo h0]
  rw [hev0 (by rw [hE];exact h0),hE];refine KE ?_;refine jF fun D_=> ?_;refine al ?_;refine cv hh [_,_] ?_;intro b2 w2 hh;refine bP hh ?_;intro b4 w4 hh;refine aI (aa ?_);refine jF fun D_=> ?_;refine sr ?_;refine cg hh 1 [_,_] ?_;refine eu ?_;intro w13 hh;refine aI (aa (sr (mI ?_)));refine cJ (aa (cT (sr ?_)));refine fP [_,_,_] (mI ?_);refine bR hh 0 [_,_,_] ?_;intro ws hh;replace hh:Hp _ (.blk _ _ [_,_,_] _::_) _:=hh;refine aI (aa (aw (aK ?_)));refine rh (M:=[]) (vs:=[.agg #[.bool false,.string (ByteArray.mk #[]),.int .i64 0],.int .i64 fx.e]) hh (.inr rfl) rfl ?_;exact S4
variable {z:Int}
def eG (es:List UInt8) (z:Int):VP:=fun v W=>∃g:Option Addr×Nat,v=.agg #[.int .i64 es.length,.slice g.1 1 g.2]∧1≤g.2∧Sl W g.1 1 4 (ay TR.cells [⟨str es,eL z⟩])
theorem eG.ext {es:List UInt8} (v:Value) (w w':World) (h:eG es z v w) (hb:Below w.heap.size w w'):eG es z v w':=let ⟨g,h1,h2,h3⟩:=h;⟨g,h1,h2,h3.ext hb⟩
def T7 (l:List Int):Bool:=l.all fun z=>decide (z.natAbs<256)
theorem m8 {l:List Int} (h:T7 l=true):∀z∈l,z.natAbs<256:=fun z hz=>Y1 (XI.1 h z hz)
theorem UM (l:List Int) (A:Option Addr) (n c:Nat) (w:World) (hS:Sl w A n 1 (bu l)) (hl:T7 l=true) (hn:n≤1000):Calls Tryz.prog 37 #[.slice A n c] w fun r w'=>∃v,r=.returned v∧Rows n 3 (ay NR.cells (l.map eL)) v w'∧Below w.heap.size w w':=
 (lP l A n c w hS (m8 hl) hn).mono fun r w' ⟨B,c',hr,h3⟩=>⟨_,hr,⟨B,c',rfl,h3.aC (i:=0) rfl⟩,h3.below⟩
theorem Hj (l:List Int) (A:Option Addr) (n c:Nat) (w:World) (hS:Sl w A n 1 (bu l)) (hl:T7 l=true) (hn:n≤1000):Calls Tryz.prog 40 #[.slice A n c] w fun r w'=>∃v,r=.returned v∧Rows n 6 (ay SR.cells (ku l)) v w'∧Below w.heap.size w w':=
 (El l A n c w hS (m8 hl) hn).mono fun r w' ⟨B,c',hr,h3⟩=>⟨_,hr,⟨B,c',rfl,h3.aC (i:=0) rfl⟩,h3.below⟩
theorem rg (z:Int) (es:List UInt8) (A:Option Addr) (n c:Nat) (w:World) (hS:Sl w A n 1 (nV es)) (hz:z.natAbs<256) (hn:es.length=n) (hn2:n≤1000):Calls Tryz.prog 42 #[.int .i64 z,.slice A n c] w fun r w'=>∃v,r=.returned v∧eG es z v w'∧Below w.heap.size w w':=
 (yL z es A n c w hS hz hn hn2).mono fun r w' ⟨B,c',hr,h3⟩=>⟨_,hr,⟨(B,c'),by rw [hn],h3.eJ (i:=0) rfl,h3.aC (i:=0) rfl⟩,h3.below⟩
def NY (es:List UInt8) (z:Int):PX:=⟨es.length,none,0,0,[⟨str es,eL z⟩]⟩
theorem LF {p q:PX} (hv:p.v=q.v) (ht:p.ts=q.ts) (b:List SR) (ds:List Int):nW p b ds=nW q b ds∧Sq p ds=Sq q ds∧dw p (br b)=dw q (br b):=by
 obtain ⟨pv,pA,pn,pc,pt⟩:=p;obtain ⟨qv,qA,qn,qc,qt⟩:=q;replace hv:pv=qv:=hv;replace ht:pt=qt:=ht;subst hv ht;exact ⟨rfl,rfl,rfl⟩
def V6 (z:Int) (es:List UInt8) (bl ds l:List Int):Bool:=decide (z.natAbs<256∧es.length≤12∧nW (NY es z) (ku bl) ds=0∧sP (Sq (NY es z) ds) (dw (NY es z) (br (ku bl))).2=l.map (fun z:Int=>(z:Dyadic))∧fK (124+124+16394) (dZ es.length [⟨str es,eL z⟩]) (124+1)≤440000) && T7 bl && T7 l
theorem T3 (z:Int) (es:List UInt8) (bl ds l:List Int) (A:Option Addr) (c:Nat) (B:Option Addr) (n bc:Nat) (M:Option Addr) (m mc:Nat) (D:Option Addr) (k dc:Nat) (w:World) (hT:dN w) (o:1≤c∧Sl w A 1 4 (ay TR.cells [⟨str es,eL z⟩])) (hB:Sl w B n 6 (ay SR.cells (ku bl))) (hM:Sl w M m 1 (bu ds)) (hmc:m≤mc) (hS:Sl w D k 1 (bu l))
  (hn:n≤1000) (hm:m≤1000) (hk:k≤1000) (hc:V6 z es bl ds l=true):
  Calls Tryz.prog 41 #[.agg #[.int .i64 es.length,.slice A 1 c],.slice B n bc,.slice M m mc,.slice D k dc] w fun r w'=>r=.returned (.bool true)∧Below w.heap.size w w':=by
 unfold V6 at hc;rw [XF,XF] at hc;obtain ⟨⟨hc,hbl⟩,hl⟩:=hc;obtain ⟨hz,hes,hE,hX,hg⟩:=Y1 hc;have hk1:=LF (p:=⟨es.length,A,1,c,[⟨str es,eL z⟩]⟩) (q:=NY es z) rfl rfl (ku bl) ds;refine G6 ⟨es.length,A,1,c,[⟨str es,eL z⟩]⟩ B n bc (ku bl) M m mc ds D k dc l w hT o.2 ⟨by show 1≤1000000;decide,o.1,fun t ht=> ?_,fun t ht=> ?_⟩ hB (fun s hs=> ?_) hn hM hm hmc hg hS (m8 hl) hk (hk1.1.trans hE) (by rw [hk1.2.1,hk1.2.2];exact hX)
 ·rw [XO.1 ht];exact ⟨(qL hz).1,(qL hz).2.mono Xk⟩
 ·rw [XO.1 ht];show (str es).size≤100000;rw [lf];omega
 ·obtain ⟨y,hy,rfl⟩:=XG.1 hs;have h1:=qL (m8 hbl y hy);exact ⟨⟨(Sz.zero 124).ok Xk,by show Sz 124 (nR 0).d;rw [bI];exact Sz.zero _⟩,⟨h1.1,h1.2.mono Xk⟩⟩
abbrev fZ (A:Option Addr) (a:Nat) (B:Option Addr) (b:Nat):FX:=⟨A,1,a,B,3,b,[2],[0,0,4].map eL⟩
theorem Df (A:Option Addr) (a:Nat) (B:Option Addr) (b:Nat):(fZ A a B b).k8 24:=⟨by show 1≤1000;decide,by show 3≤100000;decide,fun c hc=>by
 obtain ⟨z,hz,rfl⟩:=XG.1 hc;exact qL (m8 (l:=[0,0,4]) Xk z hz)⟩
theorem NU (A:Option Addr) (a:Nat) (B:Option Addr) (b:Nat) (L:Option Addr) (lc:Nat) (w:World) (hT:dN w) (hf:(fZ A a B b).at_ w) (hb:3≤b) (hS:Sl w L 1 3 (ay NR.cells [nR (((1:Int):Dyadic)*m9 (-1))])):
  Calls Tryz.prog 10 #[.agg #[.slice A 1 a,.slice B 3 b],.slice L 1 lc] w fun r w'=>r=.returned (.tuple #[.agg #[.bool (nR ((1:Int):Dyadic)).neg,.string (nR ((1:Int):Dyadic)).bg,.int .i64 (nR ((1:Int):Dyadic)).e],.int .i64 0])∧Below w.heap.size w w':=by
 have z:Sz 25 (((1:Int):Dyadic)*m9 (-1)):=(show Sz 24 ((1:Int):Dyadic) from NZ (m:=1) (e:=0) Xk Xk Xk).mul (show Sz 1 (m9 (-1)) from ⟨1,by decide+kernel,Xk⟩);have hE:Iu (fZ none 0 none 0) 1=0:=by decide+kernel
 have hV:IY (fZ none 0 none 0) [nR (((1:Int):Dyadic)*m9 (-1))]=((1:Int):Dyadic):=by decide+kernel
 have hns:(fZ A a B b).ns=[2]:=rfl;have:=rX (fZ A a B b) L 1 lc [nR (((1:Int):Dyadic)*m9 (-1))] 24 30 (2+2*(30*2)+(2+1)) w hT hf (Df A a B b) hb hS (fun s hs=>by
  rw [XO.1 hs,bI];exact ⟨Val.of (z.mono Xk) Xk,((show Sz 25 (1:Dyadic) from Sz.one.mono Xk).sub z).mono Xk⟩) Xk (fun _ d hd=>by
  rw [hns,XO] at hd;subst hd;decide) (by show 24+1*_≤500000;decide)
 rw [show Iu (fZ A a B b) 1=0 from hE,show IY (fZ A a B b) [nR (((1:Int):Dyadic)*m9 (-1))]=((1:Int):Dyadic) from hV] at this;exact this
theorem VG (A:Option Addr) (a:Nat) (B:Option Addr) (b:Nat) (w:World) (hT:dN w) (hf:(fZ A a B b).at_ w) (ha:1≤a):
  Calls Tryz.prog 22 #[.agg #[.slice A 1 a,.slice B 3 b],.int .i64 0] w fun r w'=>∃g:FX,Out 0 [1] ([0,8].map fun z:Int=>(z:Dyadic)) g∧r=.returned (.tuple #[.agg #[.slice g.A g.n g.a,.slice g.B g.m g.b],.int .i64 0])∧Hp w [g.qz,g.oV] w':=by
 have hE:jC (fZ none 0 none 0) 0=0:=by decide+kernel
 have hN:yZ [2] 0=[1]:=by decide+kernel
 have hX:AK [2] 0 (([0,0,4].map eL).map NR.d)=[0,8].map fun z:Int=>(z:Dyadic):=by decide+kernel
 have:=zQ (fZ A a B b) 0 24 w hT hf (Df A a B b) ha Xk;rw [show jC (fZ A a B b) 0=0 from hE,show yZ (fZ A a B b).ns (0:Int).toNat=[1] from hN,show AK (fZ A a B b).ns (0:Int).toNat ((fZ A a B b).cs.map NR.d)=_ from hX] at this;exact this
theorem UJ (A:Option Addr) (a:Nat) (B:Option Addr) (b:Nat) (L:Option Addr) (lc:Nat) (w:World) (hT:dN w) (hf:(fZ A a B b).at_ w) (ha:1≤a) (hL:Sl w L 1 6 (ay SR.cells (ku [2]))):
  Calls Tryz.prog 28 #[.agg #[.slice A 1 a,.slice B 3 b],.slice L 1 lc] w fun r w'=>∃g:PX,fF 0 1 [⟨str [2],eL 4⟩] g∧r=.returned (.tuple #[.agg #[.int .i64 g.v,.slice g.A g.n g.c],.int .i64 0])∧Hp w [g.row] w':=by
 have hE:rv (fZ none 0 none 0) (ku [2])=0:=by decide+kernel
 have hR:(Cv (fZ none 0 none 0) (ku [2])).2=[⟨str [2],eL 4⟩]:=by kernel_rfl
 have hG:tf 1 24 24 [2]≤400000∧fK (24+16394) [2] (tf 1 24 24 [2]+4097)≤440000:=by decide+kernel
 have:=BZ (fZ A a B b) L 1 lc (ku [2]) 24 24 w hT hf (Df A a B b) ha hL (fun s hs=>by
  obtain ⟨y,hy,rfl⟩:=XG.1 hs;have h1:=qL (m8 (l:=[2]) Xk y hy);exact ⟨⟨(Sz.zero 24).ok Xk,by show Sz 24 (nR 0).d;rw [bI];exact Sz.zero _⟩,⟨h1.1,h1.2⟩⟩) Xk Xk (fun _ _=>hG.1) (fun _ _=>hG.2)
 rw [show rv (fZ A a B b) (ku [2])=0 from hE,show (Cv (fZ A a B b) (ku [2])).2=_ from hR] at this;exact this
theorem V3 (ns:List Nat) (l:List Int) (A:Option Addr) (n c:Nat) (w:World) (hT:dN w) (hS:Sl w A n 1 (bu (bM ns))) (h:(decide (ns.length≤12∧au ns≤4096) && ns.all (fun d=>decide (d≤127)) && decide ((Db ns).map (fun k:Nat=>(k:Int))=l))=true):
  Calls Tryz.prog 26 #[.slice A n c] w fun r w'=>∃v,r=.returned v∧Rows (au ns) 3 (ay NR.cells (l.map eL)) v w'∧Below w.heap.size w w':=by
 rw [XF,XF] at h;obtain ⟨⟨h1,h2⟩,h3⟩:=h;have h1:=Y1 h1;have e:l.map eL=MN ns:=by
  rw [←Y1 h3,Ym]
  rfl
 rw [e];exact (tX A n c ns w hT hS h1.1 (fun d hd=>Y1 (XI.1 h2 d hd)) h1.2).mono fun r w' ⟨B,c',hr,ho,hb⟩=>⟨_,hr,⟨B,c',rfl,jM ho⟩,hb⟩
theorem RV (g:FX) (h:FX) (w:World) (og:Out 0 [1] ([0,8].map fun z:Int=>(z:Dyadic)) g) (hg:g.at_ w) (oh:h.ds=[1]∧h.cs=[0,8].map eL∧h.at_ w):
  Calls Tryz.prog 24 #[.agg #[.slice g.A g.n g.a,.slice g.B g.m g.b],.agg #[.slice h.A h.n h.a,.slice h.B h.m h.b]] w fun r w'=>r=.returned (.bool true)∧Below w.heap.size w w':=
 Cg g h w hg oh.2.2 ⟨og.ds.trans oh.1.symm,og.cs.trans oh.2.1.symm⟩ og.n og.m
theorem RO (p:PX) (q:Option Addr×Nat) (w:World) (op:fF 0 1 [⟨str [2],eL 4⟩] p) (hp:p.at_ w) (hq:1≤q.2∧Sl w q.1 1 4 (ay TR.cells [⟨str [2],eL 4⟩])):
  Calls Tryz.prog 32 #[.agg #[.int .i64 p.v,.slice p.A p.n p.c],.agg #[.int .i64 1,.slice q.1 1 q.2]] w fun r w'=>r=.returned (.bool true)∧Below w.heap.size w w':=by
 have hv:p.v=1:=op.v;have ht:p.ts=[⟨str [2],eL 4⟩]:=op.ts;have hn:p.n=1:=by have:=hp.ln;rw [ht] at this;exact this.symm
 refine (Cr p ⟨1,q.1,1,q.2,[⟨str [2],eL 4⟩]⟩ w hp hq.2 Xj (by show 1≤1000000;decide)).mono fun r w' ⟨v,hr,hi,hb⟩=> ?_;rw [hr,hi.2 ⟨hv,ht⟩];exact ⟨rfl,hb⟩
set_option maxRecDepth 100000 in
theorem jP (w:World) (hT:dN w):Calls Tryz.prog 8 #[] w fun r w'=>r=.returned (.bool true)∧Below w.heap.size w w':=by
 have hh:=Hp.start w;refine aj (N:=116) (l:=[]) Tryz.func8 rfl rfl (by simp) ?_;refine sr (aB (aa (sr ?_)));refine cX hh (cs:=[_]) bh.out aM.out (aN rfl bZ) rfl rfl Xk Xk Xk rfl Xk ?_;intro b8 w8 hh;refine cX hh (cs:=[_,_,_]) bh.out aM.out (aN rfl (aN rfl (aN rfl bZ))) rfl rfl Xk Xk Xk rfl Xk ?_;intro b9 w9 hh;refine aF (lP [0,0,4] _ 3 _ _ (hh.aC (i:=0) rfl) (m8 Xk) Xk) ar.out rfl Xk ?_;rintro e_ w10 ⟨A1,c1,rfl,h2⟩;refine ⟨_,rfl, ?_⟩;have hc1:3≤c1:=h2.eJ (i:=0) rfl;replace hh:=hh.join h2;simp only [Xw,Xu] at hh;clear h2;replace hh:=hh.sub (Xq _ (Xv _ (Xq _ XU)));refine fP [_,_] ?_;refine bP hh ?_;intro b1 w1 hh;refine bR hh 0 [_,_] ?_;intro ws hh;replace hh:Hp _ (.blk _ _ [_,_] _::_) _:=hh;refine aa (ah ?_)
 refine dy [8] [7] [0,0,2,6,15,31,63,63,0,383,1023] 9 [[(1,none)],[],[(14,some 1)],[(15,some 2)],[(13,some 0),(16,some 3)],[(17,some 4)],[(12,some 5)],[(12,some 5)],[]] [(8,2),(7,19),(6,18),(5,12),(4,17),(3,16),(2,15),(1,14),(0,13)] hh mixed Xl (jV rfl aM.out dO) rfl (by repeat (first|exact cu|refine bQ ?_|refine ct ?_)) ?_;refine fG 0 [_,_] ?_;refine dC (fun _ hj=>lH 1 _ Xk Xk) ?_;refine dC (fun _ hj=>yu (nR ((1:Int):Dyadic)) (-1) _ (by decide+kernel) (by decide+kernel) (by decide+kernel) Xk Xk) ?_;refine rD [_,_,_] ?_;refine aQ (i:=4) (Is (.tuple #[.agg #[.bool (nR ((1:Int):Dyadic)).neg,.string (nR ((1:Int):Dyadic)).bg,.int .i64 (nR ((1:Int):Dyadic)).e],.int .i64 0])) Is.ext ?_ ?_
 ·intro ρ1 w1 hj hR;obtain ⟨A16,c16,h16,s16⟩:=hR.2.1;exact aY rfl (aJ ar.out (av (show ρ1 13=Value.agg (List.toArray _) from hR.1) (av h16 aU))) (NU (some ⟨b8,0,none⟩) 1 A1 c1 A16 c16 _ (hT.hp hj.hp) ⟨hj.hp.aC (i:=2) rfl,hj.hp.aC (i:=1) rfl⟩ hc1 s16) (fun _ _ hq=>⟨_,hq.1,hq.2,rfl⟩)
 refine Ur ?_;refine J4 ?_;refine J4 ?_;refine Le ?_;refine aO ?_;intro f W hJ hV _;have hb_2:=hJ.bl;obtain ⟨v2,v19,v18,v12,v17,v16,v15,v14,v13,_⟩:=hV;obtain ⟨A16,c16,e16,f16⟩:Rows _ _ _ (f 3) W:=v16;obtain ⟨b2,e2,hl2,hc2⟩:dm _ _ _ (f 8) W:=v2;replace hh:=hJ.newVar hh hl2 hc2;refine aW (bm (ae e2 (ae v19 (ae v18 (ae v12 (ae v17 (ae e16 (ae v15 (ae v14 (ae v13 aV)))))))))) ?_;dsimp only [cd];clear e16 e2 hJ;refine bR hh 0 [_,_,_] ?_;intro ws hh;replace hh:Hp _ (.blk _ _ [_,_,_] _::_) _:=hh;refine aI (aa (sr ?_));refine cg hh 1 [_,_] ?_;refine aF (VG (some ⟨b8,0,none⟩) 1 A1 c1 _ (hT.hp hh) ⟨hh.aC (i:=3) rfl,hh.aC (i:=2) rfl⟩ (Xr _)) ar.out rfl Xk ?_;rintro e_ w22 ⟨g,og,rfl,h4⟩;refine ⟨_,rfl, ?_⟩;replace hh:=hh.join h4;clear h4;simp only [Xw,Xu] at hh;replace hh:=show Hp w (.row g.B g.m g.b 40 3 (ay NR.cells g.cs)::.row g.A g.n g.a 3 1 (bu g.ds)::_) _ from hh;refine mT ?_;refine dn ?_;refine dn ?_;refine bP hh ?_;intro b4 w4 hh;refine bR hh 0 [_,_] ?_;intro ws hh;replace hh:Hp _ (.blk _ _ [_,_] _::_) _:=hh;refine aI (aa (ah ?_))
 refine dy [7] [6] [0,0,2,7,15,31,31,0,191,511] 8 [[(1,none)],[],[(27,some 1)],[(26,some 0),(28,some 2)],[(29,some 3)],[(25,some 4)],[(25,some 4)],[]] [(7,6),(6,31),(5,30),(4,25),(3,29),(2,28),(1,27),(0,26)] hh mixed Xl (jV rfl aM.out dO) rfl (by repeat (first|exact cu|refine bQ ?_|refine ct ?_)) ?_;refine fG 4 [_,_] ?_;refine rD [_] ?_;refine aQ (i:=2) (Rows 1 6 (ay SR.cells (ku [2]))) Rows.ext ?_ ?_
 ·intro ρ1 w1 hj hR;obtain ⟨A27,c27,h27,s27⟩:=hR.1;exact aY rfl (aJ ar.out (av h27 aU)) (Hj [2] A27 1 c27 _ s27 Xk Xk) (fun _ _ ⟨v,hq,hp,hb⟩=>⟨v,hq,hb,hp⟩)
 refine aQ (i:=3) (ki hh.sz 0 1 [⟨str [2],eL 4⟩]) (ki.ext) ?_ ?_
 ·intro ρ1 w1 hj hR;obtain ⟨A28,c28,h28,s28⟩:=hR.2.1;exact aY rfl (aJ ar.out (av (show ρ1 26=Value.agg (List.toArray _) from hR.1) (av h28 aU))) (UJ (some ⟨b8,0,none⟩) 1 A1 c1 A28 c28 w1 (hT.hp hj.hp) ⟨hj.hp.aC (i:=6) rfl,hj.hp.aC (i:=5) rfl⟩ (Xr _) s28) (fun _ _ ⟨g,og,hq,h3⟩=>⟨_,hq,h3.below,g,w1,rfl,og,hj.bl.size,h3⟩)
 refine aQ (i:=4) (ki hh.sz 0 1 [⟨str [2],eL 4⟩]) (ki.ext) ?_ ?_
 ·exact R3
 refine aQ (i:=5) (kp hh.sz 0 1 [⟨str [2],eL 4⟩]) (kp.ext) ?_ ?_
 ·exact RA
 refine aQ (i:=6) (Is (.int .i64 0)) (Is.ext) ?_ ?_
 ·exact R1
 refine aQ (i:=7) (dm _ 24 _) dm.ext (fun ρ1 w1 hj hR=>jz aM.out hj.bl (fun v w2 h hb=>⟨hb,h⟩)) ?_;refine aO ?_;intro f W hJ hV _;have hb_4:=hJ.bl;obtain ⟨v6,v31,v30,v25,v29,v28,v27,v26,_⟩:=hV;obtain ⟨A27,c27,e27,f27⟩:Rows _ _ _ (f 1) W:=v27;obtain ⟨A28,c28,e28,f28⟩:Rows _ _ _ (f 2) W:=v28;obtain ⟨g29,u29,e29, -⟩:=v29;obtain ⟨g25,u25,e25, -⟩:=v25;obtain ⟨g30,u30,e30,o30,q30,h30⟩:=v30;obtain ⟨b6,e6,hl6,hc6⟩:dm _ _ _ (f 7) W:=v6;replace hh:=hJ.rB hh hl6 hc6 q30 h30 (PX.ne h30 hc6 Xk);refine aW (bm (ae e6 (ae v31 (ae e30 (ae e25 (ae e29 (ae e28 (ae e27 (ae v26 aV))))))))) ?_;dsimp only [cd];clear e27 e28 e29 e25 e30 e6 hJ;refine bR hh 0 [_,_] ?_;intro ws hh;replace hh:Hp _ (.blk _ _ [_,_] _::_) _:=hh;refine aI (aa (ah ?_))
 refine dy [] [] [0,1,0,7,0,31,63,127,255,127,1023,127,4095,8191,16383,32767,65535,32767,262143,32767,1048575,2097151,4194303,8388607,16777215,8388607,67108863,8388607,8388607,536870911,1073741823,2147483647,4294967295,8589934591,4294967295,34359738367,4294967295,137438953471,274877906943,549755813887,1099511627775,1099511627775,4398046511103,8796093022207,17592186044415,35184372088831,70368744177663,140737488355327,281474976710655,562949953421311,562949953421311,562949953421311,2814749767106559,8444249301319679,18014398509481983,36028797018963967,72057594037927935,144115188075855871,288230376151711743,576460752303423487,1152921504606846975,2305843009213693951,2305843009213693951,6917529027641081855,18446744073709551615,36893488147419103231,73786976294838206463,147573952589676412927,295147905179352825855,590295810358705651711,1180591620717411303423,2361183241434822606847,4722366482869645213695,2361183241434822606847,18889465931478580854783,37778931862957161709567,75557863725914323419135,151115727451828646838271,302231454903657293676543,604462909807314587353087,302231454903657293676543,2417851639229258349412351,4835703278458516698824703,9671406556917033397649407,19342813113834066795298815] 81 [[],[(32,some 0)],[],[(34,some 2)],[],[(33,some 1),(35,some 3),(36,some 4)],[(37,some 5)],[(38,some 6)],[(39,some 7),(38,some 6)],[(38,some 6)],[(41,some 9),(38,some 6)],[(38,some 6)],[(40,some 8),(42,some 10),(43,some 11),(38,some 6)],[(38,some 6),(44,some 12)],[(45,some 13)],[(46,some 14)],[(47,some 15),(46,some 14)],[(46,some 14)],[(49,some 17),(46,some 14)],[(46,some 14)],[(48,some 16),(50,some 18),(51,some 19),(46,some 14)],[(46,some 14),(52,some 20)],[(53,some 21)],[(54,some 22)],[(55,some 23),(54,some 22)],[(54,some 22)],[(57,some 25),(54,some 22)],[(54,some 22)],[(54,some 22)],[(56,some 24),(58,some 26),(59,some 27),(60,some 28),(54,some 22)],[(54,some 22),(61,some 29)],[(62,some 30)],[(63,some 31)],[(64,some 32),(63,some 31)],[(63,some 31)],[(66,some 34),(63,some 31)],[(63,some 31)],[(65,some 33),(67,some 35),(68,some 36),(63,some 31)],[(63,some 31),(69,some 37)],[(70,some 38)],[(2,none),(71,some 39)],[(71,some 39)],[(72,some 40),(73,some 41),(71,some 39)],[(71,some 39),(74,some 42)],[(75,some 43)],[(3,none),(76,some 44)],[(77,some 45),(76,some 44)],[(76,some 44),(78,some 46)],[(79,some 47)],[(4,none),(80,some 48)],[(80,some 48)],[(80,some 48)],[(83,some 51),(80,some 48)],[(82,some 50),(84,some 52),(80,some 48)],[(81,some 49),(85,some 53),(80,some 48)],[(80,some 48),(86,some 54)],[(87,some 55)],[(5,none),(88,some 56)],[(89,some 57),(88,some 56)],[(88,some 56),(90,some 58)],[(91,some 59)],[(6,none),(92,some 60)],[(92,some 60)],[(94,some 62),(92,some 60)],[(93,some 61),(95,some 63),(92,some 60)],[(92,some 60),(96,some 64)],[(97,some 65)],[(7,none),(98,some 66)],[(99,some 67),(98,some 66)],[(98,some 66),(100,some 68)],[(101,some 69)],[(102,some 70)],[(103,some 71),(102,some 70)],[(102,some 70)],[(105,some 73),(102,some 70)],[(104,some 72),(106,some 74),(102,some 70)],[(102,some 70),(107,some 75)],[(108,some 76)],[(109,some 77)],[(110,some 78),(109,some 77)],[(109,some 77)]] [(80,112),(79,111),(78,110),(77,109),(76,108),(75,107),(74,106),(73,105),(72,104),(71,103),(70,102),(69,101),(68,100),(67,99),(66,98),(65,97),(64,96),(63,95),(62,94),(61,93),(60,92),(59,91),(58,90),(57,89),(56,88),(55,87),(54,86),(53,85),(52,84),(51,83),(50,82),(49,81),(48,80),(47,79),(46,78),(45,77),(44,76),(43,75),(42,74),(41,73),(40,72),(39,71),(38,70),(37,69),(36,68),(35,67),(34,66),(33,65),(32,64),(31,63),(30,62),(29,61),(28,60),(27,59),(26,58),(25,57),(24,56),(23,55),(22,54),(21,53),(20,52),(19,51),(18,50),(17,49),(16,48),(15,47),(14,46),(13,45),(12,44),(11,43),(10,42),(9,41),(8,40),(7,39),(6,38),(5,37),(4,36),(3,35),(2,34),(1,33),(0,32)] hh mixed Xl dO rfl (by repeat (first|exact cu|refine bQ ?_|refine ct ?_)) ?_
 refine rD [_] ?_;refine aQ (i:=1) (eG [1] 1) eG.ext ?_ ?_
 ·intro ρ1 w1 hj hR;obtain ⟨A32,c32,h32,s32⟩:=hR.1;exact aY rfl (aJ ar.out (av rfl (av h32 aU))) (rg 1 [1] A32 1 c32 _ s32 Xk rfl Xk) (fun _ _ ⟨v,hq,hp,hb⟩=>⟨v,hq,hb,hp⟩)
 refine rD [_] ?_;refine aQ (i:=3) (Rows 1 6 (ay SR.cells (ku [1]))) Rows.ext ?_ ?_
 ·intro ρ1 w1 hj hR;obtain ⟨A34,c34,h34,s34⟩:=hR.1;exact aY rfl (aJ ar.out (av h34 aU)) (Hj [1] A34 1 c34 _ s34 rfl Xk) (fun _ _ ⟨v,hq,hp,hb⟩=>⟨v,hq,hb,hp⟩)
 refine rD [_,_] ?_;refine aQ (i:=5) (Is (.bool true)) Is.ext ?_ ?_
 ·intro ρ1 w1 hj hR;obtain ⟨A35,c35,h35,s35⟩:=hR.2.1;obtain ⟨A36,c36,h36,s36⟩:=hR.2.2.1;obtain ⟨g33,e33,o33⟩:=hR.1;exact aY rfl (aJ ar.out (av e33 (av h35 (av rfl (av h36 aU))))) (T3 1 [1] [1] [] [0,1] g33.1 g33.2 A35 1 c35 none 0 0 A36 2 c36 _ (hT.hp hj.hp) o33 s35 (Sl.nil _ _ _) Xk s36 Xk Xk Xk (by decide+kernel)) (fun _ _ hq=>⟨_,hq.1,hq.2,rfl⟩)
 refine oQ ?_;refine a7 (i:=7) (cs:=[_]) rfl (fun ρ1 w1 hj hR=>(show ρ1 38=Value.bool _ from hR.1)) bh.out aM.out (fun ρ1 w1 hj hR=>(aN rfl bZ)) rfl rfl Xk Xk rfl ?_;refine aQ (i:=8) (eG [1] 1) eG.ext ?_ ?_
 ·intro ρ1 w1 hj hR;obtain ⟨A39,c39,h39,s39⟩:=hR.1;refine a9 rfl ((show ρ1 38=Value.bool _ from hR.2.1)) ?_;exact aY rfl (aJ ar.out (av rfl (av h39 aU))) (rg 1 [1] A39 1 c39 _ s39 Xk rfl Xk) (fun _ _ ⟨v,hq,hp,hb⟩=>⟨v,hq,hb,hp⟩)
 refine a7 (i:=9) (cs:=[_]) rfl (fun ρ1 w1 hj hR=>(show ρ1 38=Value.bool _ from hR.1)) bh.out aM.out (fun ρ1 w1 hj hR=>(aN rfl bZ)) rfl rfl Xk Xk rfl ?_;refine aQ (i:=10) (Rows 1 6 (ay SR.cells (ku [4]))) Rows.ext ?_ ?_
 ·intro ρ1 w1 hj hR;obtain ⟨A41,c41,h41,s41⟩:=hR.1;refine a9 rfl ((show ρ1 38=Value.bool _ from hR.2.1)) ?_;exact aY rfl (aJ ar.out (av h41 aU)) (Hj [4] A41 1 c41 _ s41 rfl Xk) (fun _ _ ⟨v,hq,hp,hb⟩=>⟨v,hq,hb,hp⟩)
 refine a7 (i:=11) (cs:=[_,_]) rfl (fun ρ1 w1 hj hR=>(show ρ1 38=Value.bool _ from hR.1)) bh.out aM.out (fun ρ1 w1 hj hR=>(aN rfl (aN rfl bZ))) rfl rfl Xk Xk rfl ?_;refine aQ (i:=12) (Is (.bool true)) Is.ext ?_ ?_
 ·intro ρ1 w1 hj hR;obtain ⟨A42,c42,h42,s42⟩:=hR.2.1;obtain ⟨A43,c43,h43,s43⟩:=hR.2.2.1;obtain ⟨g40,e40,o40⟩:=hR.1;refine a9 rfl ((show ρ1 38=Value.bool _ from hR.2.2.2.1)) ?_;exact aY rfl (aJ ar.out (av e40 (av h42 (av rfl (av h43 aU))))) (T3 1 [1] [4] [] [0,4] g40.1 g40.2 A42 1 c42 none 0 0 A43 2 c43 _ (hT.hp hj.hp) o40 s42 (Sl.nil _ _ _) Xk s43 Xk Xk Xk (by decide+kernel)) (fun _ _ hq=>⟨_,hq.1,hq.2,rfl⟩)
 refine Hf ?_;refine oQ ?_;refine a7 (i:=15) (cs:=[_]) rfl (fun ρ1 w1 hj hR=>(show ρ1 46=Value.bool _ from hR.1)) bh.out aM.out (fun ρ1 w1 hj hR=>(aN rfl bZ)) rfl rfl Xk Xk rfl ?_;refine aQ (i:=16) (eG [2] 1) eG.ext ?_ ?_
 ·intro ρ1 w1 hj hR;obtain ⟨A47,c47,h47,s47⟩:=hR.1;refine a9 rfl ((show ρ1 46=Value.bool _ from hR.2.1)) ?_;exact aY rfl (aJ ar.out (av rfl (av h47 aU))) (rg 1 [2] A47 1 c47 _ s47 Xk rfl Xk) (fun _ _ ⟨v,hq,hp,hb⟩=>⟨v,hq,hb,hp⟩)
 refine a7 (i:=17) (cs:=[_]) rfl (fun ρ1 w1 hj hR=>(show ρ1 46=Value.bool _ from hR.1)) bh.out aM.out (fun ρ1 w1 hj hR=>(aN rfl bZ)) rfl rfl Xk Xk rfl ?_;refine aQ (i:=18) (Rows 1 6 (ay SR.cells (ku [2]))) Rows.ext ?_ ?_
 ·intro ρ1 w1 hj hR;obtain ⟨A49,c49,h49,s49⟩:=hR.1;refine a9 rfl ((show ρ1 46=Value.bool _ from hR.2.1)) ?_;exact aY rfl (aJ ar.out (av h49 aU)) (Hj [2] A49 1 c49 _ s49 rfl Xk) (fun _ _ ⟨v,hq,hp,hb⟩=>⟨v,hq,hb,hp⟩)
 refine a7 (i:=19) (cs:=[_,_,_]) rfl (fun ρ1 w1 hj hR=>(show ρ1 46=Value.bool _ from hR.1)) bh.out aM.out (fun ρ1 w1 hj hR=>(aN rfl (aN rfl (aN rfl bZ)))) rfl rfl Xk Xk rfl ?_;refine aQ (i:=20) (Is (.bool true)) Is.ext ?_ ?_
 ·intro ρ1 w1 hj hR;obtain ⟨A50,c50,h50,s50⟩:=hR.2.1;obtain ⟨A51,c51,h51,s51⟩:=hR.2.2.1;obtain ⟨g48,e48,o48⟩:=hR.1;refine a9 rfl ((show ρ1 46=Value.bool _ from hR.2.2.2.1)) ?_;exact aY rfl (aJ ar.out (av e48 (av h50 (av rfl (av h51 aU))))) (T3 1 [2] [2] [] [0,0,4] g48.1 g48.2 A50 1 c50 none 0 0 A51 3 c51 _ (hT.hp hj.hp) o48 s50 (Sl.nil _ _ _) Xk s51 Xk Xk Xk (by decide+kernel)) (fun _ _ hq=>⟨_,hq.1,hq.2,rfl⟩)
 refine Hf ?_;refine oQ ?_;refine a7 (i:=23) (cs:=[_]) rfl (fun ρ1 w1 hj hR=>(show ρ1 54=Value.bool _ from hR.1)) bh.out aM.out (fun ρ1 w1 hj hR=>(aN rfl bZ)) rfl rfl Xk Xk rfl ?_;refine aQ (i:=24) (eG [0] 3) eG.ext ?_ ?_
 ·intro ρ1 w1 hj hR;obtain ⟨A55,c55,h55,s55⟩:=hR.1;refine a9 rfl ((show ρ1 54=Value.bool _ from hR.2.1)) ?_;exact aY rfl (aJ ar.out (av rfl (av h55 aU))) (rg 3 [0] A55 1 c55 _ s55 Xk rfl Xk) (fun _ _ ⟨v,hq,hp,hb⟩=>⟨v,hq,hb,hp⟩)
 refine a7 (i:=25) (cs:=[_]) rfl (fun ρ1 w1 hj hR=>(show ρ1 54=Value.bool _ from hR.1)) bh.out aM.out (fun ρ1 w1 hj hR=>(aN rfl bZ)) rfl rfl Xk Xk rfl ?_;refine aQ (i:=26) (Rows 1 6 (ay SR.cells (ku [1]))) Rows.ext ?_ ?_
 ·intro ρ1 w1 hj hR;obtain ⟨A57,c57,h57,s57⟩:=hR.1;refine a9 rfl ((show ρ1 54=Value.bool _ from hR.2.1)) ?_;exact aY rfl (aJ ar.out (av h57 aU)) (Hj [1] A57 1 c57 _ s57 rfl Xk) (fun _ _ ⟨v,hq,hp,hb⟩=>⟨v,hq,hb,hp⟩)
 refine aQ (i:=27) (iW 1 1 (bu [2])) (iW.ext) ?_ ?_
 ·intro ρ1 w1 hj hR;exact a9 rfl (show ρ1 54=Value.bool _ from hR.1) (jn (sz:=1) bh.out aM.out (show wh ρ1 [(0,.const (.int .i64 2))]=[(0,.int .i64 2)] from rfl) rfl rfl Xk Xk rfl fun v w2 h hb=>⟨hb,h⟩)
 refine a7 (i:=28) (cs:=[_,_,_]) rfl (fun ρ1 w1 hj hR=>(show ρ1 54=Value.bool _ from hR.1)) bh.out aM.out (fun ρ1 w1 hj hR=>(aN rfl (aN rfl (aN rfl bZ)))) rfl rfl Xk Xk rfl ?_;refine aQ (i:=29) (Is (.bool true)) Is.ext ?_ ?_
 ·intro ρ1 w1 hj hR;obtain ⟨A58,c58,h58,s58⟩:=hR.2.1;obtain ⟨A60,c60,h60,s60⟩:=hR.2.2.2.1;obtain ⟨g56,e56,o56⟩:=hR.1;obtain ⟨g59,e59,o59⟩:=hR.2.2.1;refine a9 rfl ((show ρ1 54=Value.bool _ from hR.2.2.2.2.1)) ?_;exact aY rfl (aJ ar.out (av e56 (av h58 (av e59 (av h60 aU))))) (T3 3 [0] [1] [2] [3,6,3] g56.1 g56.2 A58 1 c58 (some ⟨g59,0,none⟩) 1 1 A60 3 c60 _ (hT.hp hj.hp) o56 s58 o59 Xk s60 Xk Xk Xk (by decide+kernel)) (fun _ _ hq=>⟨_,hq.1,hq.2,rfl⟩)
 refine Hf ?_;refine oQ ?_;refine a7 (i:=32) (cs:=[_,_]) rfl (fun ρ1 w1 hj hR=>(show ρ1 63=Value.bool _ from hR.1)) bh.out aM.out (fun ρ1 w1 hj hR=>(aN rfl (aN rfl bZ))) rfl rfl Xk Xk rfl ?_;refine aQ (i:=33) (eG [1,1] 1) eG.ext ?_ ?_
 ·intro ρ1 w1 hj hR;obtain ⟨A64,c64,h64,s64⟩:=hR.1;refine a9 rfl ((show ρ1 63=Value.bool _ from hR.2.1)) ?_;exact aY rfl (aJ ar.out (av rfl (av h64 aU))) (rg 1 [1,1] A64 2 c64 _ s64 Xk rfl Xk) (fun _ _ ⟨v,hq,hp,hb⟩=>⟨v,hq,hb,hp⟩)
 refine a7 (i:=34) (cs:=[_,_]) rfl (fun ρ1 w1 hj hR=>(show ρ1 63=Value.bool _ from hR.1)) bh.out aM.out (fun ρ1 w1 hj hR=>(aN rfl (aN rfl bZ))) rfl rfl Xk Xk rfl ?_;refine aQ (i:=35) (Rows 2 6 (ay SR.cells (ku [1,1]))) Rows.ext ?_ ?_
 ·intro ρ1 w1 hj hR;obtain ⟨A66,c66,h66,s66⟩:=hR.1;refine a9 rfl ((show ρ1 63=Value.bool _ from hR.2.1)) ?_;exact aY rfl (aJ ar.out (av h66 aU)) (Hj [1,1] A66 2 c66 _ s66 rfl Xk) (fun _ _ ⟨v,hq,hp,hb⟩=>⟨v,hq,hb,hp⟩)
 refine a7 (i:=36) (cs:=[_,_,_,_]) rfl (fun ρ1 w1 hj hR=>(show ρ1 63=Value.bool _ from hR.1)) bh.out aM.out (fun ρ1 w1 hj hR=>(aN rfl (aN rfl (aN rfl (aN rfl bZ))))) rfl rfl Xk Xk rfl ?_;refine aQ (i:=37) (Is (.bool true)) Is.ext ?_ ?_
 ·intro ρ1 w1 hj hR;obtain ⟨A67,c67,h67,s67⟩:=hR.2.1;obtain ⟨A68,c68,h68,s68⟩:=hR.2.2.1;obtain ⟨g65,e65,o65⟩:=hR.1;refine a9 rfl ((show ρ1 63=Value.bool _ from hR.2.2.2.1)) ?_;exact aY rfl (aJ ar.out (av e65 (av h67 (av rfl (av h68 aU))))) (T3 1 [1,1] [1,1] [] [0,0,0,1] g65.1 g65.2 A67 2 c67 none 0 0 A68 4 c68 _ (hT.hp hj.hp) o65 s67 (Sl.nil _ _ _) Xk s68 Xk Xk Xk (by decide+kernel)) (fun _ _ hq=>⟨_,hq.1,hq.2,rfl⟩)
 refine Hf ?_;refine oQ ?_;refine dG (fG 5 [_,_,_] ?_);refine lT (i:=41) rfl (fun ρ1 w1 hj hR=>(show ρ1 71=Value.bool _ from hR.1)) (fun ρ1 w1 hj hR=>aJ ar.out (av rfl aU)) (fun w1 hj=>lH 1 _ Xk Xk) ?_;refine zw (i:=42) rfl (fun ρ1 w1 hj hR=>(show ρ1 71=Value.bool _ from hR.2.2.1)) (fun ρ1 w1 hj hR=>Gr (show ρ1 72=Value.agg (List.toArray _) from hR.1) (show ρ1 73=Value.agg (List.toArray _) from hR.2.1) (by first|assumption|rfl)) ?_;refine Hf ?_;refine oQ ?_;refine dG (dJ ?_);refine dG (yH ?_);refine Hf ?_;refine oQ ?_;refine dG (fG 2 [_,_] ?_);refine a7 (i:=50) (cs:=[_]) rfl (fun ρ1 w1 hj hR=>(show ρ1 80=Value.bool _ from hR.1)) bh.out aM.out (fun ρ1 w1 hj hR=>(aN rfl bZ)) rfl rfl Xk Xk rfl ?_;refine a7 (i:=51) (cs:=[_,_]) rfl (fun ρ1 w1 hj hR=>(show ρ1 80=Value.bool _ from hR.1)) bh.out aM.out (fun ρ1 w1 hj hR=>(aN rfl (aN rfl bZ))) rfl rfl Xk Xk rfl ?_;refine aQ (i:=52) (Rows 2 3 (ay NR.cells ([0,8].map eL))) Rows.ext ?_ ?_
 ·intro ρ1 w1 hj hR;obtain ⟨A83,c83,h83,s83⟩:=hR.1;refine a9 rfl ((show ρ1 80=Value.bool _ from hR.2.1)) ?_;exact aY rfl (aJ ar.out (av h83 aU)) (UM [0,8] A83 2 c83 _ s83 rfl Xk) (fun _ _ ⟨v,hq,hp,hb⟩=>⟨v,hq,hb,hp⟩)
 refine aQ (i:=53) (xB [1] ([0,8].map eL)) (xB.ext) ?_ ?_
 ·intro ρ1 w1 hj hR;obtain ⟨A82,c82,h82,s82⟩:=hR.1;obtain ⟨A84,c84,h84,s84⟩:=hR.2.1;exact a9 rfl (show ρ1 80=Value.bool _ from hR.2.2.1) (db rfl (tH (cs:=[_,_]) aM.out ml.out (aN h82 (aN h84 bZ)) rfl) ⟨Below.refl _ _,⟨A82,1,c82,A84,2,c84,[1],[0,8].map eL⟩,rfl,rfl,rfl,⟨s82,s84⟩⟩)
 refine aQ (i:=54) (Is (.bool true)) Is.ext ?_ ?_
 ·intro ρ1 w1 hj hR;obtain ⟨g85,e85,o85⟩:=hR.2.1;refine a9 rfl ((show ρ1 80=Value.bool _ from hR.2.2.1)) ?_;exact aY rfl (aJ ar.out (av (show ρ1 81=Value.agg (List.toArray _) from hR.1) (av e85 aU))) (RV g g85 _ og ⟨hj.hp.aC (i:=4) rfl,hj.hp.aC (i:=3) rfl⟩ o85) (fun _ _ hq=>⟨_,hq.1,hq.2,rfl⟩)
 refine Hf ?_;refine oQ ?_;refine dG (dJ ?_);refine dG (yH ?_);refine Hf ?_;refine oQ ?_;refine dG (fG 0 [_,_] ?_);refine a7 (i:=62) (cs:=[_]) rfl (fun ρ1 w1 hj hR=>(show ρ1 92=Value.bool _ from hR.1)) bh.out aM.out (fun ρ1 w1 hj hR=>(aN rfl bZ)) rfl rfl Xk Xk rfl ?_;refine aQ (i:=63) (eG [2] 4) eG.ext ?_ ?_
 ·intro ρ1 w1 hj hR;obtain ⟨A94,c94,h94,s94⟩:=hR.1;refine a9 rfl ((show ρ1 92=Value.bool _ from hR.2.1)) ?_;exact aY rfl (aJ ar.out (av rfl (av h94 aU))) (rg 4 [2] A94 1 c94 _ s94 Xk rfl Xk) (fun _ _ ⟨v,hq,hp,hb⟩=>⟨v,hq,hb,hp⟩)
 refine aQ (i:=64) (Is (.bool true)) Is.ext ?_ ?_
 ·intro ρ1 w1 hj hR;obtain ⟨g95,e95,o95⟩:=hR.2.1;refine a9 rfl ((show ρ1 92=Value.bool _ from hR.2.2.1)) ?_;exact aY rfl (aJ ar.out (av (show ρ1 93=Value.agg (List.toArray _) from hR.1) (av e95 aU))) (RO g30 g95 _ o30 (hj.hp.aC (i:=1) rfl) o95) (fun _ _ hq=>⟨_,hq.1,hq.2,rfl⟩)
 refine Hf ?_;refine oQ ?_;refine dG (dJ ?_);refine dG (yH ?_);refine Hf ?_;refine oQ ?_;refine a7 (i:=71) (cs:=[_]) rfl (fun ρ1 w1 hj hR=>(show ρ1 102=Value.bool _ from hR.1)) bh.out aM.out (fun ρ1 w1 hj hR=>(aN rfl bZ)) rfl rfl Xk Xk rfl ?_;refine aQ (i:=72) (Rows 3 3 (ay NR.cells ([1,2,1].map eL))) Rows.ext ?_ ?_
 ·intro ρ1 w1 hj hR;obtain ⟨A103,c103,h103,s103⟩:=hR.1;refine a9 rfl ((show ρ1 102=Value.bool _ from hR.2.1)) ?_;exact aY rfl (aJ ar.out (av h103 aU)) (V3 [2] [1,2,1] A103 1 c103 _ (hT.hp hj.hp) s103 (by decide+kernel)) (fun _ _ ⟨v,hq,hp,hb⟩=>⟨v,hq,hb,hp⟩)
 refine a7 (i:=73) (cs:=[_,_,_]) rfl (fun ρ1 w1 hj hR=>(show ρ1 102=Value.bool _ from hR.1)) bh.out aM.out (fun ρ1 w1 hj hR=>(aN rfl (aN rfl (aN rfl bZ)))) rfl rfl Xk Xk rfl ?_;refine aQ (i:=74) (Rows 3 3 (ay NR.cells ([1,2,1].map eL))) Rows.ext ?_ ?_
 ·intro ρ1 w1 hj hR;obtain ⟨A105,c105,h105,s105⟩:=hR.1;refine a9 rfl ((show ρ1 102=Value.bool _ from hR.2.1)) ?_;exact aY rfl (aJ ar.out (av h105 aU)) (UM [1,2,1] A105 3 c105 _ s105 rfl Xk) (fun _ _ ⟨v,hq,hp,hb⟩=>⟨v,hq,hb,hp⟩)
 refine aQ (i:=75) (Is (.bool true)) Is.ext ?_ ?_
 ·intro ρ1 w1 hj hR;obtain ⟨A104,c104,h104,s104⟩:=hR.1;obtain ⟨A106,c106,h106,s106⟩:=hR.2.1;refine a9 rfl ((show ρ1 102=Value.bool _ from hR.2.2.1)) ?_;exact aY rfl (aJ ar.out (av h104 (av h106 aU))) (kH A104 3 c104 ([1,2,1].map eL) A106 c106 _ s104 s106 Xk) (fun _ _ hq=>⟨_,hq.1,hq.2,rfl⟩)
 refine Hf ?_;refine oQ ?_;refine a7 (i:=78) (cs:=[_,_]) rfl (fun ρ1 w1 hj hR=>(show ρ1 109=Value.bool _ from hR.1)) bh.out aM.out (fun ρ1 w1 hj hR=>(aN rfl (aN rfl bZ))) rfl rfl Xk Xk rfl ?_;refine aQ (i:=79) (Rows 6 3 (ay NR.cells ([1,2,1,1,2,1].map eL))) Rows.ext ?_ ?_
 ·intro ρ1 w1 hj hR;obtain ⟨A110,c110,h110,s110⟩:=hR.1;refine a9 rfl ((show ρ1 109=Value.bool _ from hR.2.1)) ?_;exact aY rfl (aJ ar.out (av h110 aU)) (V3 [1,2] [1,2,1,1,2,1] A110 2 c110 _ (hT.hp hj.hp) s110 (by decide+kernel)) (fun _ _ ⟨v,hq,hp,hb⟩=>⟨v,hq,hb,hp⟩)
 refine a7 (i:=80) (cs:=[_,_,_,_,_,_]) rfl (fun ρ1 w1 hj hR=>(show ρ1 109=Value.bool _ from hR.1)) bh.out aM.out (fun ρ1 w1 hj hR=>(aN rfl (aN rfl (aN rfl (aN rfl (aN rfl (aN rfl bZ))))))) rfl rfl Xk Xk rfl ?_;refine aO ?_;intro f W hJ hV _;have hb_5:=hJ.bl;obtain ⟨v112,v111,v110,v109,v108,v107,v106,v105,v104,v103,v102,v101,v100,v99,v98,v97,v96,v95,v94,v93,v92,v91,v90,v89,v88,v87,v86,v85,v84,v83,v82,v81,v80,v79,v78,v77,v76,v75,v74,v73,v72,v71,v70,v69,v68,v67,v66,v65,v64,v63,v62,v61,v60,v59,v58,v57,v56,v55,v54,v53,v52,v51,v50,v49,v48,v47,v46,v45,v44,v43,v42,v41,v40,v39,v38,v37,v36,v35,v34,v33,v32,_⟩:=hV;obtain ⟨A32,c32,e32,f32⟩:Rows _ _ _ (f 0) W:=v32;obtain ⟨g33,e33,o33⟩:eG [1] 1 (f 1) W:=v33;obtain ⟨A34,c34,e34,f34⟩:Rows _ _ _ (f 2) W:=v34;obtain ⟨A35,c35,e35,f35⟩:Rows _ _ _ (f 3) W:=v35;obtain ⟨A36,c36,e36,f36⟩:Rows _ _ _ (f 4) W:=v36;obtain ⟨A39,c39,e39,f39⟩:Rows _ _ _ (f 7) W:=v39;obtain ⟨g40,e40,o40⟩:eG [1] 1 (f 8) W:=v40;obtain ⟨A41,c41,e41,f41⟩:Rows _ _ _ (f 9) W:=v41;obtain ⟨A42,c42,e42,f42⟩:Rows _ _ _ (f 10) W:=v42
 obtain ⟨A43,c43,e43,f43⟩:Rows _ _ _ (f 11) W:=v43;obtain ⟨A47,c47,e47,f47⟩:Rows _ _ _ (f 15) W:=v47;obtain ⟨g48,e48,o48⟩:eG [2] 1 (f 16) W:=v48;obtain ⟨A49,c49,e49,f49⟩:Rows _ _ _ (f 17) W:=v49;obtain ⟨A50,c50,e50,f50⟩:Rows _ _ _ (f 18) W:=v50;obtain ⟨A51,c51,e51,f51⟩:Rows _ _ _ (f 19) W:=v51;obtain ⟨A55,c55,e55,f55⟩:Rows _ _ _ (f 23) W:=v55;obtain ⟨g56,e56,o56⟩:eG [0] 3 (f 24) W:=v56;obtain ⟨A57,c57,e57,f57⟩:Rows _ _ _ (f 25) W:=v57;obtain ⟨A58,c58,e58,f58⟩:Rows _ _ _ (f 26) W:=v58;obtain ⟨g59,e59,o59⟩:iW 1 1 (bu [2]) (f 27) W:=v59;obtain ⟨A60,c60,e60,f60⟩:Rows _ _ _ (f 28) W:=v60;obtain ⟨A64,c64,e64,f64⟩:Rows _ _ _ (f 32) W:=v64;obtain ⟨g65,e65,o65⟩:eG [1,1] 1 (f 33) W:=v65;obtain ⟨A66,c66,e66,f66⟩:Rows _ _ _ (f 34) W:=v66;obtain ⟨A67,c67,e67,f67⟩:Rows _ _ _ (f 35) W:=v67;obtain ⟨A68,c68,e68,f68⟩:Rows _ _ _ (f 36) W:=v68;obtain ⟨A82,c82,e82,f82⟩:Rows _ _ _ (f 50) W:=v82;obtain ⟨A83,c83,e83,f83⟩:Rows _ _ _ (f 51) W:=v83;obtain ⟨A84,c84,e84,f84⟩:Rows _ _ _ (f 52) W:=v84;obtain ⟨g85,e85,o85⟩:xB [1] ([0,8].map eL) (f 53) W:=v85
 obtain ⟨A94,c94,e94,f94⟩:Rows _ _ _ (f 62) W:=v94;obtain ⟨g95,e95,o95⟩:eG [2] 4 (f 63) W:=v95;obtain ⟨A103,c103,e103,f103⟩:Rows _ _ _ (f 71) W:=v103;obtain ⟨A104,c104,e104,f104⟩:Rows _ _ _ (f 72) W:=v104;obtain ⟨A105,c105,e105,f105⟩:Rows _ _ _ (f 73) W:=v105;obtain ⟨A106,c106,e106,f106⟩:Rows _ _ _ (f 74) W:=v106;obtain ⟨A110,c110,e110,f110⟩:Rows _ _ _ (f 78) W:=v110;obtain ⟨A111,c111,e111,f111⟩:Rows _ _ _ (f 79) W:=v111;obtain ⟨A112,c112,e112,f112⟩:Rows _ _ _ (f 80) W:=v112;replace hh:=hJ.hp
 refine aW (bm (ae e112 (ae e111 (ae e110 (ae v109 (ae v108 (ae v107 (ae e106 (ae e105 (ae e104 (ae e103 (ae v102 (ae v101 (ae v100 (ae v99 (ae v98 (ae v97 (ae v96 (ae e95 (ae e94 (ae v93 (ae v92 (ae v91 (ae v90 (ae v89 (ae v88 (ae v87 (ae v86 (ae e85 (ae e84 (ae e83 (ae e82 (ae v81 (ae v80 (ae v79 (ae v78 (ae v77 (ae v76 (ae v75 (ae v74 (ae v73 (ae v72 (ae v71 (ae v70 (ae v69 (ae e68 (ae e67 (ae e66 (ae e65 (ae e64 (ae v63 (ae v62 (ae v61 (ae e60 (ae e59 (ae e58 (ae e57 (ae e56 (ae e55 (ae v54 (ae v53 (ae v52 (ae e51 (ae e50 (ae e49 (ae e48 (ae e47 (ae v46 (ae v45 (ae v44 (ae e43 (ae e42 (ae e41 (ae e40 (ae e39 (ae v38 (ae v37 (ae e36 (ae e35 (ae e34 (ae e33 (ae e32 aV)))))))))))))))))))))))))))))))))))))))))))))))))))))))))))))))))))))))))))))))))) ?_;dsimp only [cd];clear e32 e33 e34 e35 e36 e39 e40 e41 e42 e43 e47 e48 e49 e50 e51 e55 e56 e57 e58 e59 e60 e64 e65 e66 e67 e68 e82 e83 e84 e85 e94 e95 e103 e104 e105 e106 e110 e111 e112 hJ;refine aD rfl rfl ?_;refine aF (lP [1,2,1,1,2,1] A112 6 c112 _ f112 (m8 rfl) Xk) ar.out rfl Xk ?_;rintro e_ w113 ⟨A113,c113,rfl,h2⟩;refine ⟨_,rfl, ?_⟩;replace hh:=hh.ext h2.below;refine aD rfl rfl ?_
 refine bA hh (kH A111 6 c111 ([1,2,1,1,2,1].map eL) A113 c113 _ (f111.ext h2.below) (h2.aC (i:=0) rfl) Xk) rfl ?_;intro w114 hh;refine eR ?_;exact zr
theorem l0 (a:NR) (w:World):
  Calls Tryz.prog 36 #[.agg #[.bool a.neg,.string a.bg,.int .i64 a.e]] w fun r w'=>r=.returned (.bool (qj a))∧Below w.heap.size w w':=by
 have hh:=Hp.start w;by_cases h1:(8:Int)<a.bg.size
 ·refine E0 ?_;refine sr ?_;refine cv hh [_,_,_] ?_;intro b1 w1 hh;refine aB (aa (sr (bH (bH ?_))));refine bE hh 0 ?_;refine bO bh.out rfl Xk ?_;refine cj (mB ?_);refine gS (gS (gS ?_));refine eR ?_;refine mB ?_;refine gS (gS (gS ?_));refine eR ?_;refine aB (aa (aw ?_));refine df ?_;refine ⟨?_,hh.below⟩;unfold qj;rw [XH (.inl h1)]
 ·by_cases h2:a.e< -60
  ·refine E0 ?_;refine sr ?_;refine cv hh [_,_,_] ?_;intro b1 w1 hh;refine aB (aa (sr (bH (bH ?_))));refine bE hh 0 ?_;refine bO bh.out rfl Xk ?_;refine cj (mB (gT (bH (gT ?_))));refine bE hh 0 ?_;refine gT ?_;refine bf ?_;refine ez ?_;refine mB ?_;refine gS (gS (gS ?_));refine eR ?_;refine aB (aa (aw ?_));refine df ?_;refine ⟨?_,hh.below⟩;unfold qj;rw [XH (.inr (.inl h2))]
  ·by_cases h3:60<a.e
   ·refine E0 ?_;refine sr ?_;refine cv hh [_,_,_] ?_;intro b1 w1 hh;refine aB (aa (sr (bH (bH ?_))));refine bE hh 0 ?_;refine bO bh.out rfl Xk ?_;refine cj (mB (gT (bH (gT ?_))));refine bE hh 0 ?_;refine gT ?_;refine bf ?_;refine ez ?_;refine mB (gT (bH (gT ?_)));refine bE hh 0 ?_;refine gT ?_;refine cj ?_;refine ez ?_;refine aB (aa (aw ?_));refine df ?_;refine ⟨?_,hh.below⟩;unfold qj;rw [XH (.inr (.inr h3))]
   ·refine E0 ?_;refine sr ?_;refine cv hh [_,_,_] ?_;intro b1 w1 hh;refine aB (aa (sr (bH (bH ?_))));refine bE hh 0 ?_;refine bO bh.out rfl Xk ?_;refine cj (mB (gT (bH (gT ?_))));refine bE hh 0 ?_;refine gT ?_;refine bf ?_;refine ez ?_;refine mB (gT (bH (gT ?_)));refine bE hh 0 ?_;refine gT ?_;refine cj ?_;refine ez ?_;refine aB (aa (aw ?_));refine df ?_;refine ⟨?_,hh.below⟩;unfold qj;rw [XM Xj]
theorem yQ (v:Int) (A:Option Addr) (n c:Nat) (ts:List TR) (w:World) (hp:Sl w A n 4 (ay TR.cells ts)):
  Calls Tryz.prog 33 #[.agg #[.int .i64 v,.slice A n c]] w fun r w'=>∃b:Bool,r=.returned (.bool b)∧(b=false→n≤8∧iT 124 ts∧∀t∈ts,t.m.size≤20∧∀c∈t.m.data.toList,c.toNat≤4)∧Below w.heap.size w w':=by
 have hh:=Hp.start w;have hln:ts.length=n:=hp.bp TR.len Xk;by_cases h1:8<n
 ·refine aj (N:=45) (l:=[.agg #[.int .i64 v,.slice A n c]]) Tryz.func33 rfl rfl (by simp) ?_;refine sr ?_;refine cv hh [_,_] ?_;intro b1 w1 hh;refine aB (aa (ah (sr (bH ?_))));refine bE hh 0 ?_;refine aH ?_;refine cj (aa (cT (sr (aB (aa (aw (aK ?_)))))));exact BE
 ·refine aj (N:=45) (l:=[.agg #[.int .i64 v,.slice A n c]]) Tryz.func33 rfl rfl (by simp) ?_;refine sr ?_;refine cv hh [_,_] ?_;intro b1 w1 hh;refine aB (aa (ah (sr (bH ?_))));refine bE hh 0 ?_;refine aH ?_;refine cj (aa (cF (aq (ai (ah (sr (aI (aa (ao ?_)))))))));refine aR [2,3,4,5,10,11,12,13,14,15,16,17,18,19,20,21,22,23,24,25,26,27,28,29,30,31,32,33,34,35,36,37,38,39,40,41,42,43,44] 3
   (fun x w'=>∃i:Nat,i≤n∧x=.int .i64 i∧iT 124 (ts.take i)∧(∀t∈ts.take i,t.m.size≤20∧∀c∈t.m.data.toList,c.toNat≤4)∧Hp w [.blk b1 24 [.int .i64 v,.slice A n c] (0,0)] w')
   (fun v _=>n-(intOf v).toNat) ?_ ?_
  ·exact ⟨0,Xs _,rfl,fun t ht=>(nomatch ht),fun t ht=>(nomatch ht),hh⟩
  ·clear hh;rintro ρ' x_ w' ⟨i,hi,rfl,hall,hsz,hh⟩;by_cases hlt:i<n
   ·obtain ⟨x,hx⟩:=ak (l:=ts) (k:=i) Xj;obtain ⟨ad,rfl,hr⟩:=hp.at_ Xj;have hfa:=fun w1=>l0 x.c w1;have hbm:=dQ x.m;refine ah (sr (mI (bH ?_)));refine bE hh 0 ?_;refine aH ?_;refine bf (aa (cT (aq (ai (ah (ao (sr (bH ?_))))))));refine bE hh 0 ?_;refine mI ?_;refine cx ?_;refine kz ?_;refine Jl ?_;refine aS (aa (ah (sr (bH ?_))));refine bE hh 0 ?_;refine mI ?_;refine cx ?_;refine kz ?_;refine cq (vs:=[_,_,_]) aM.out rfl (((hr.ext hh.below).recAt TR.len hx).drop 1) rfl Xk ?_;refine bA hh (hfa _) rfl ?_;intro w29 hh
    cases hf:qj x.c with
    |true=>
     refine mB ?_;refine gS (gS (gS ?_));refine eR ?_;exact Ra
    |false=>
     by_cases h5:20<x.m.size
     ·refine mB (gT (mS (gT ?_)));refine bO bh.out rfl Xk ?_;refine gT ?_;refine cj ?_;refine ez ?_;exact Ra
     ·refine mB (gT (mS (gT ?_)));refine bO bh.out rfl Xk ?_;refine gT ?_;refine cj ?_;refine ez ?_;refine aa (cF (aq (ai (sr (aI (aa (ao ?_)))))));refine aR [2,5,35,36,37,38,39,40,41,42,43,44] 5
       (fun y w'=>∃q:Nat,q≤x.m.size∧y=.int .i64 q∧(∀c∈x.m.data.toList.take q,c.toNat≤4)∧Hp w [.blk b1 24 [.int .i64 v,.slice (some ad) n c] (0,0)] w')
       (fun v _=>x.m.size-(intOf v).toNat) ?_ ?_
      ·exact JE
      ·clear hh;rintro ρ' y_ w' ⟨q,hq,rfl,hex,hh⟩;by_cases hlq:q<x.m.size
       ·obtain ⟨e,he⟩:=ak (l:=x.m.data.toList) (k:=q) Xj;have he8:e.toNat<256:=e.toNat_lt;by_cases h6:4<e.toNat
        ·refine ah (sr (mI (mS ?_)));refine bO bh.out rfl Xk ?_;refine bf (aa (cT (aq (ai (ah (ao (sr (mS (mI ?_)))))))));refine j7 ?_;refine cj (aa (cT (sr (aB (aa (aw (cf (aK (aK (cf (cf (aK (aK (cf (aK ?_)))))))))))))));exact BE
        ·refine ah (sr (mI (mS ?_)));refine bO bh.out rfl Xk ?_;refine bf (aa (cT (aq (ai (ah (ao (sr (mS (mI ?_)))))))));refine j7 ?_;refine cj (aa (cF (aq (bz (ai (al (mI ?_)))))));refine bk (aI (aA (ai ?_)));refine ⟨⟨q+1,Xj,rfl,fun t ht=> ?_,hh⟩,by show x.m.size-(q+1)<x.m.size-q;omega, ?_⟩
         ·rw [az he] at ht
          rcases X3.1 ht with ht|ht
          ·exact hex t ht
          ·rw [XO.1 ht];omega
         ·exact dV
       ·rw [Xz Xj] at hex;refine ah (sr (mI (mS ?_)));refine bO bh.out rfl Xk ?_;refine bf (aa (cF (a6 (aE (aE (bq (bz (ai (al (mI ?_))))))))));refine bk (aI (aA (ai ?_)));refine ⟨⟨i+1,Xj,rfl,fun t ht=> ?_,fun t ht=> ?_,hh⟩,by show n-(i+1)<n-i;omega, ?_⟩
        ·rw [az hx] at ht
         rcases X3.1 ht with ht|ht
         ·exact hall t ht
         ·rw [XO.1 ht];exact H0 hf
        ·rw [az hx] at ht
         rcases X3.1 ht with ht|ht
         ·exact hsz t ht
         ·rw [XO.1 ht];exact ⟨Xj,hex⟩
        ·exact dV
   ·rw [Xz Xj] at hall hsz;refine ah (sr (mI (bH ?_)));refine bE hh 0 ?_;refine aH ?_;refine CB ?_;refine df ?_;exact ⟨_,rfl,fun _=>⟨Xj,hall,hsz⟩,hh.below⟩
theorem sl (A:Option Addr) (n c:Nat) (xs:List NR) (B:Option Addr) (m d:Nat) (b:List SR) (w:World) (hS:Sl w A n 3 (ay NR.cells xs)) (hB:Sl w B m 6 (ay SR.cells b)):
  Calls Tryz.prog 7 #[.slice A n c,.slice B m d] w fun r w'=>∃v:Bool,r=.returned (.bool v)∧(v=false→n≤200∧m≤20∧(∀x∈xs,qj x=false)∧∀s∈b,s.fin 124)∧Below w.heap.size w w':=by
 have hh:=Hp.start w;have hln:xs.length=n:=hS.bp NR.len Xk;have hlb:b.length=m:=hB.bp SR.len Xk;by_cases h1:200<n
 ·refine Lp ?_;refine sr (aB (aa (ah (sr (mL (aH ?_))))));refine cj (mB ?_);refine gS (gS (gS ?_));refine eR ?_;refine aa (cT (sr (aB (aa (aw (aK ?_))))));exact BE
 ·by_cases h2:20<m
  ·refine Lp ?_;refine sr (aB (aa (ah (sr (mL (aH ?_))))));refine xN ?_;refine cj ?_;refine ez ?_;refine aa (cT (sr (aB (aa (aw (aK ?_))))));exact BE
  ·refine Lp ?_;refine sr (aB (aa (ah (sr (mL (aH ?_))))));refine xN ?_;refine cj ?_;refine ez ?_;refine aa (cF (aq (ai (ah (sr (aI (aa (ao ?_))))))));refine aR [4,5,15,16,17,18,19,20,21,22,23,24,25] 5
    (fun x w'=>∃i:Nat,i≤n∧x=.int .i64 i∧(∀x∈xs.take i,qj x=false)∧Hp w [] w')
    (fun v _=>n-(intOf v).toNat) ?_ ?_
   ·exact JE
   ·clear hh;rintro ρ' x_ w' ⟨i,hi,rfl,hall,hh⟩;by_cases hlt:i<n
    ·obtain ⟨x,hx⟩:=ak (l:=xs) (k:=i) Xj;obtain ⟨ad,rfl,hr⟩:=hS.at_ Xj;have hfa:=fun w1=>l0 x w1;refine ah (sr (mI (mL (aH ?_))));refine sG ?_;refine cx ?_;refine cq (vs:=[_,_,_]) aM.out rfl ((hr.ext hh.below).recAt NR.len hx) rfl Xk ?_;refine bA hh (hfa _) rfl ?_;intro w25 hh
     cases hf:qj x with
     |true=>
      exact Kl
     |false=>
      refine rQ ?_;refine bk (aI (aA (ai ?_)));refine ⟨⟨i+1,Xj,rfl,fun t ht=> ?_,hh⟩,by show n-(i+1)<n-i;omega, ?_⟩
      ·rw [az hx] at ht
       rcases X3.1 ht with ht|ht
       ·exact hall t ht
       ·rw [XO.1 ht];exact hf
      ·exact dV
    ·rw [Xz Xj] at hall;refine ah (sr (mI (mL (aH ?_))));refine bf (aa (cF (a6 (aE (aE (bq (ai (ah (sr (aI (aa (ao ?_))))))))))));refine aR [4,6,26,27,28,29,30,31,32,33,34,35,36,37,38,39,40,41,42,43,44,45] 6
      (fun x w'=>∃i:Nat,i≤m∧x=.int .i64 i∧(∀s∈b.take i,s.fin 124)∧Hp w [] w')
      (fun v _=>m-(intOf v).toNat) ?_ ?_
     ·exact JE
     ·clear hh;rintro ρ' x_ w' ⟨j,hj,rfl,hbx,hh⟩;by_cases hlt2:j<m
      ·obtain ⟨s,hs⟩:=ak (l:=b) (k:=j) Xj;obtain ⟨ad,rfl,hr⟩:=hB.at_ Xj;have hf1:=fun w1=>l0 s.lo w1;have hf2:=fun w1=>l0 s.hi w1;refine ah (sr (mI (mL (aH ?_))));refine sG ?_;refine pK ?_;refine kz ?_;refine cq (vs:=[_,_,_]) aM.out rfl (((((hr.ext hh.below).recAt SR.len hs).drop 0).take 3)) rfl Xk ?_
       cases hg1:qj s.lo with
       |true=>
        rw [hg1] at hf1;refine bA hh (hf1 _) rfl ?_;intro w37 hh;refine mB ?_;refine gS (gS (gS (gS ?_)));refine gy ?_;refine gy ?_;refine eR ?_;exact Kl
       |false=>
        rw [hg1] at hf1;refine bA hh (hf1 _) rfl ?_;intro w37 hh;refine mB (gT (mL (gT (mI (gT ?_)))));refine pK ?_;refine gT ?_;refine kz ?_;refine aD rfl rfl ?_;refine cq (vs:=[_,_,_]) aM.out rfl (((((hr.ext hh.below).recAt SR.len hs).drop 3).take 3)) rfl Xk ?_
        cases hg2:qj s.hi with
        |true=>
         rw [hg2] at hf2;refine aD rfl rfl ?_;refine bA hh (hf2 _) rfl ?_;intro w44 hh;refine ez ?_;exact Kl
        |false=>
         rw [hg2] at hf2;refine aD rfl rfl ?_;refine bA hh (hf2 _) rfl ?_;intro w44 hh;refine ez ?_;refine rQ ?_;refine bk (aI (aA (ai ?_)));refine ⟨⟨j+1,Xj,rfl,fun t ht=> ?_,hh⟩,by show m-(j+1)<m-j;omega, ?_⟩
         ·rw [az hs] at ht
          rcases X3.1 ht with ht|ht
          ·exact hbx t ht
          ·rw [XO.1 ht];obtain ⟨a1,a2⟩:=H0 hg1;obtain ⟨a3,a4⟩:=H0 hg2;exact ⟨⟨a1,a2⟩,⟨a3,a4⟩⟩
         ·exact dV
      ·rw [Xz Xj] at hbx;refine ah (sr (mI (mL (aH ?_))));refine CB ?_;refine df ?_;exact ⟨_,rfl,fun _=>⟨Xj,Xj,hall,hbx⟩,hh.below⟩
variable {N c:Nat}{ds:List Nat}{l ts:List TR}
theorem u5:∀(N:Nat) (l:List Nat),l.Nodup→(∀x∈l,x<N)→l.length≤N
 |0,l,_,h=>by
  cases l with
  |nil=>exact Xr _
  |cons x l=>exact absurd (h x XB) Xj
 |N+1,l,hd,h=>by
  by_cases hm:N∈l
  ·have h1:=u5 N (l.erase N) (hd.erase N) fun x hx=>by
    have:=(hd.mem_erase_iff).1 hx;have:=h x this.2;omega
   rw [List.length_erase_of_mem hm] at h1;omega
  ·have:=u5 N l hd fun x hx=>by
    have:=h x hx;have:x≠N:=fun e=>hm (e ▸ hx);omega
   omega
theorem N5 (hr:tP l) (h:∀t∈l,iV ds (cP t.m)):l.length≤au ds:=by
 have h1:=u5 (au ds) (l.map fun t=>eh ds (cP t.m)) (by
  unfold List.Nodup;rw [List.pairwise_map];refine List.Pairwise.imp_of_mem (fun {a b} ha hb hl e=> ?_) hr;have e2:cP a.m=cP b.m:=by rw [←gM (h a ha),e,gM (h b hb)]
  rw [Af e2,gZ] at hl
  cases hl) (fun x hx=>by
  obtain ⟨t,ht,rfl⟩:=XG.1 hx;exact jK (h t ht))
 rwa [XA] at h1
theorem Ro {v:Nat}{B:Nat→Nat} (hs:∀t∈l,t.m.size=v) (h:nS B l):∀t∈l,iV ((List.range v).map B) (cP t.m):=fun t ht=>by
 rw [ke];refine ⟨by rw [j5,hs t ht,XA,YO],fun i d r hd hr=> ?_⟩;have hi:=(XE.1 hd).1;rw [XA,YO] at hi;rw [Xx,Yh hi] at hd;have:=h t ht i;rw [zk,hr] at this;rw [←Yd hd];exact this
theorem CE {v:Nat}{B:Nat→Nat} (h:jy (v:Int) ts=0) (hb:nS B ts):ts.length≤au ((List.range v).map B):=by
 obtain ⟨_,_,h3,h4⟩:=cK h;refine N5 h4.sM (Ro (fun t ht=> ?_) hb);have:=h3 t ht;unfold fa at this;rw [XF,XN] at this;omega
theorem xq {v:Int}{q p:List TR}{sub:List TR→Int×List TR}{j D K T B c N:Nat} (hv:jd v=true) (hq:jl v K q) (hT:q.length≤T) (hD:∀t∈p,gC j t≤D) (hb:∀n,(sub (bC p j n)).1=0→jl v B (sub (bC p j n)).2∧(sub (bC p j n)).2.length≤N)
  (hN:∀i,i≤128→(bJ q sub p j i).1=0→(bJ q sub p j i).2.length≤N) (hc:K+N*T+(N*T+N)≤c) (hS:B+D*c+N≤500000) (hc2:c≤100000) (hN4:N≤4096):
  ∀i,i≤128→(bJ q sub p j i).1=0→jl v (B+(i+D-128)*c+N) (bJ q sub p j i).2
 |0,_,_=>jl.nil hv
 |i+1,hi,h0=>by
  by_cases h1:i+1+D≤127
  ·rw [ji hD _ h1];exact jl.nil hv
  ·have h2:(bJ q sub p j i).1=0:=by
    refine Zn fun c=> ?_;rw [j3 c (Nat.le_succ i)] at h0;exact c h0
   have hle:(i+1+D-128)*c≤D*c:=Yr _ Xj;have ih:=xq hv hq hT hD hb hN hc hS hc2 hN4 i Xj h2;have hNi:=hN i Xj h2;have hst:i+D≤127→bJ q sub p j i=(0,[]):=ji hD i;have hmul:¬i+D≤127→(i+1+D-128)*c=(i+D-128)*c+c:=fun h=>by rw [show i+1+D-128=(i+D-128)+1 by omega,Yw]
   have hle0:(i+D-128)*c≤(i+1+D-128)*c:=Yr _ Xj;rw [kq] at h0 ⊢;unfold iD at h0 ⊢;rw [Xp (fun h=>h h2)] at h0 ⊢;by_cases c1:(bJ q sub p j i).2.length=0∧(bC p j (127-i)).length=0
   ·rw [Xo c1];exact ih.mono Xj
   ·rw [Xp c1] at h0 ⊢;by_cases c2:fm (bJ q sub p j i).2 q≠0
    ·rw [Xo c2] at h0;exact absurd h0 c2
    ·rw [Xp c2] at h0 ⊢;by_cases c3:(sub (bC p j (127-i))).1≠0
     ·rw [Xo c3] at h0;exact absurd h0 c3
     ·rw [Xp c3] at h0 ⊢;by_cases c4:gD (aG (cA (bJ q sub p j i).2 q)++(sub (bC p j (127-i))).2)≠0
      ·rw [Xo c4] at h0;exact absurd h0 c4
      ·rw [Xp c4];obtain ⟨hs1,hs2⟩:=hb (127-i) Xj;obtain ⟨f1,f2,f3,f4⟩:=cK ih.e;obtain ⟨g1,g2,g3,g4⟩:=cK hs1.e;by_cases hlow:i+D≤127
       ·rw [hst hlow];have hl:(aG (cA [] q)++(sub (bC p j (127-i))).2).length≤N:=hs2;refine (jk (k:=B) (n:=N) hv (fun t ht=>g3 t ht) (fun t ht=>hs1.ok t ht) (fun t ht=>hs1.sz t ht) hl Xj Xj).mono Xj
       ·have ht:=(kJ (p:=(bJ q sub p j i).2) (q:=q) Xj);have hpl:(cA (bJ q sub p j i).2 q).length≤N*T:=by rw [nP];exact YT hNi hT
        have hm:=hmul hlow;rw [hm] at hle ⊢;generalize (i+D-128)*c=y at*;generalize D*c=z at*;have hpo:=qQ ih.ok hq.ok Xj;have hg1:=lS (k:=B+y+N+K) (j:=B+y+N+K+N*T) hpo Xj Xj;have hg2:=cz (cA (bJ q sub p j i).2 q);have hmm:∀{P:TR→Prop},(∀t∈aG (cA (bJ q sub p j i).2 q),P t)→(∀t∈(sub (bC p j (127-i))).2,P t)→∀t∈aG (cA (bJ q sub p j i).2 q)++(sub (bC p j (127-i))).2,P t:=fun a b t ht=>(X3.1 ht).elim (a t) (b t);refine ⟨iu hv (yS Xj) (hmm (pb (rp f3 ht.2.1)) g3),lS (k:=B+y+N+K+N*T) (hmm hg1 (hs1.ok.mono Xj)) (by rw [Xy];omega) Xj,pf (hmm (Bc ih.ok hq.ok hq.sz Xj Xj).2 hs1.sz)⟩
theorem LN {v K T:Nat} (hv:v≤12) (D:Nat→Nat) (hN:au ((List.range v).map D)≤N) (hc:K+N*T+(N*T+N)≤c) (hc2:c≤100000) (hN4:N≤4096):∀(qs:List (List TR)) (j:Nat) (p:List TR) (ds:List Nat) (k:Nat),(∀(i:Nat) (q:List TR),qs[i]?=some q→jl v K q∧q.length≤T∧nS (fun x=>if x=j+i then 1 else 0) q)→iT k p→ds.length=qs.length→(∀(i d:Nat),ds[i]?=some d→D (j+i)=d)→(∀t∈p,∀i,i<qs.length→gC (j+i) t≤D (j+i))→k+1+(ds.sum+ds.length)*c≤400000→
  (eT v qs j p).1=0→jl v (k+1+(ds.sum+ds.length)*c) (eT v qs j p).2∧(eT v qs j p).2.length≤N:=by
 intro qs
 induction qs with
 |nil=>
  intro j p ds k _ hok hds _ _ hB _;obtain rfl:ds=[]:=ZZ.1 hds;have h1:jl v (k+1) (eT v [] j p).2:=by
   refine rM (fL hv) ?_ Xj;exact QN
  refine ⟨h1.mono (Nat.le_add_right _ _),XV (CE h1.e (B:=fun _=>0) (uh v _).aG) (XV ?_ hN)⟩;have e:∀(f:Nat→Nat) (l:List Nat),au (l.map fun _=>0)≤au (l.map f):=fun f l=>by
   induction l with
   |nil=>exact Xr _
   |cons x l ih=>exact YT (Nat.succ_le_succ (Xs _)) ih
  exact e D _
 |cons q qs ih=>
  intro j p ds k hq hok hds hdD hp hB h0
  cases ds with
  |nil=>cases hds
  |cons d ds=>
   have hdj:D j=d:=hdD 0 d rfl;obtain ⟨hq1,hq2,hq3⟩:=hq 0 q rfl;rw [YX] at hq3;rw [List.sum_cons,XR] at hB ⊢;have hBe:(d+ds.sum+(ds.length+1))*c=(ds.sum+ds.length)*c+d*c+c:=by rw [show d+ds.sum+(ds.length+1)=(ds.sum+ds.length)+d+1 by omega,Zc,Zc,Zd]
   rw [hBe] at hB ⊢;have hNc:N≤c:=Xj;have hpw:∀n,∀t∈bC p j n,∀i,i<qs.length→gC (j+1+i) t≤D (j+1+i):=fun n t ht i hi=>by
    exact Re
   have hsub:∀n,(eT v qs (j+1) (bC p j n)).1=0→jl v (k+1+(ds.sum+ds.length)*c) (eT v qs (j+1) (bC p j n)).2∧(eT v qs (j+1) (bC p j n)).2.length≤N:=fun n hn=>by
    refine ih (j+1) (bC p j n) ds k (fun i r hr=> ?_) (fun t ht=>hok t (kj t ht)) (by simpa using hds) (fun i e he=> ?_) (hpw n) Xj hn
    ·have:=hq (i+1) r (by simpa using hr);rwa [show j+1+i=j+(i+1) by omega]
    ·have:=hdD (i+1) e (by simpa using he);rwa [show j+1+i=j+(i+1) by omega]
   have hsbn:∀n,(eT v qs (j+1) (bC p j n)).1=0→nS (fun x=>if j+1≤x∧x<j+1+qs.length then D x else 0) (eT v qs (j+1) (bC p j n)).2:=fun n hn=>FJ qs (j+1) (bC p j n) D (fun i r hr=>by
    have:=(hq (i+1) r (by simpa using hr)).2.2;rwa [show j+1+i=j+(i+1) by omega]) (hpw n) hn
   have hDp:∀t∈p,gC j t≤d:=fun t ht=>by rw [←hdj];exact hp t ht 0 (by rw [XR];omega)
   rw [wQ] at h0 ⊢;generalize eT v qs (j+1)=sub at hsub hsbn h0 ⊢;have hlim0:∀i,i≤128→(bJ q sub p j i).1=0→jy (v:Int) (bJ q sub p j i).2=0:=fun i hi hz=>by
    clear h0
    induction i with
    |zero=>exact (jl.nil (k:=0) (fL hv)).e
    |succ i ihi=>
     have h2:(bJ q sub p j i).1=0:=by
      refine Zn fun c=> ?_;rw [j3 c (Nat.le_succ i)] at hz;exact c hz
     have e0:=ihi Xj h2;rw [kq] at hz ⊢;unfold iD at hz ⊢;rw [Xp (fun h=>h h2)] at hz ⊢;by_cases c1:(bJ q sub p j i).2.length=0∧(bC p j (127-i)).length=0
     ·rw [Xo c1];exact e0
     ·rw [Xp c1] at hz ⊢;by_cases c2:fm (bJ q sub p j i).2 q≠0
      ·rw [Xo c2] at hz;exact absurd hz c2
      ·rw [Xp c2] at hz ⊢;by_cases c3:(sub (bC p j (127-i))).1≠0
       ·rw [Xo c3] at hz;exact absurd hz c3
       ·rw [Xp c3] at hz ⊢;by_cases c4:gD (aG (cA (bJ q sub p j i).2 q)++(sub (bC p j (127-i))).2)≠0
        ·rw [Xo c4] at hz;exact absurd hz c4
        ·rw [Xp c4];refine iu (fL hv) (yS Xj) fun t ht=>(X3.1 ht).elim (pb (rp (cK e0).2.2.1 (kJ Xj).2.1) t) ((cK (hsub _ Xj).1.e).2.2.1 t)
   have hbn:=vA hq3 hDp (E:=fun x=>if j+1≤x∧x<j+1+qs.length then D x else 0) (by rw [Xp Xj]) hsbn;have hNN:∀i,i≤128→(bJ q sub p j i).1=0→(bJ q sub p j i).2.length≤N:=fun i hi hz=>by
    refine XV (CE (hlim0 i hi hz) ((hbn i hi hz).mono (C:=D) fun x=> ?_)) hN;by_cases hx:x=j
    ·rw [Xo hx,hx,hdj];omega
    ·rw [Xp hx];split
     ·exact Xr _
     ·exact Xs _
   have e:∀m,m=128→(bJ q sub p j m).1=0→jl v (k+1+((ds.sum+ds.length)*c+d*c+c)) (bJ q sub p j m).2∧(bJ q sub p j m).2.length≤N:=fun m hm hz=>by
    have h3:=xq (fL hv) hq1 hq2 hDp hsub hNN hc Xj hc2 hN4 m Xj hz;rw [show m+d-128=d by omega] at h3;exact ⟨h3.mono Xj,hNN m Xj hz⟩
   exact e 128 rfl h0
variable {C k:Nat}{xs:List Dyadic}
theorem Da {d a:Nat} (t:Dyadic) (h:a≤d):sm (List.range (d+1)) (fun r=>eB d 1 1 a r*iZ d r t)=t^a:=by
 have e0:(fun r=>eB d 1 1 a r*iZ d r t)=fun k=>if k<a then 0 else (fun j=>nD (bin (d-a) j)*iZ d (j+a) t) (k-a):=funext fun k=>by
  unfold eB;by_cases hk:k<a
  ·rw [Xo hk,Xo hk,Dyadic.zero_mul]
  ·rw [Xp hk,Xp hk,iw,iw];show nD (bin (d-a) (k-a))*1*1*iZ d k t=nD (bin (d-a) (k-a))*iZ d (k-a+a) t;rw [Nat.sub_add_cancel Xj];grind
 have hb:=UL (d-a) t (1-t);rw [show t+(1-t)=1 by grind,iw] at hb;rw [e0,TG d a h fun j=>nD (bin (d-a) j)*iZ d (j+a) t];have e1:∀j,j∈List.range (d-a+1)→nD (bin (d-a) j)*iZ d (j+a) t=t^a*(nD (bin (d-a) j)*t^j*(1-t)^(d-a-j)):=fun j hj=>by
  have:=XT.1 hj;unfold iZ;rw [show d-(j+a)=d-a-j by omega,xy];grind
 rw [bL e1,mE,hb];grind
theorem MG:∀(ds s:List Nat) (ts:List Dyadic),iV ds s→ts.length=ds.length→sm (List.range (au ds)) (fun p=>wK 0 ds s (cZ ds p)*mv ds (cZ ds p) ts)=hU s ts
 |[],[],[],_,_=>by show (1:Dyadic)*1+0=1;grind
 |[],_::_,_,h,_=>by cases h
 |_::_,[],_,h,_=>by cases h
 |[],[],_::_,_,h=>by cases h
 |_::_,_::_,[],_,h=>by cases h
 |d::ds,a::s,t::ts,h1,h2=>by
  have ih:=MG ds s ts h1.2 (by simpa using h2);rw [z4,hU,←ih,←Da t h1.1,←mE];refine bL fun q _=> ?_;rw [←mz];refine bL fun r hr=> ?_;have hr2:=XT.1 hr;rw [cZ,YW,X5 hr2,Yy _ _ Xj,Yk hr2,XJ,mv];show eB d 1 1 a r*wK 0 ds s (cZ ds q)*_=_;grind
theorem rz:∀(s:List Nat) (ts:List Dyadic) (a:Nat) (t:Dyadic),s.length=ts.length→hU (s++[a]) (ts++[t])=hU s ts*t^a
 |[],[],a,t,_=>by show t^a*1=1*t^a;grind
 |[],_::_,_,_,h=>by cases h
 |_::_,[],_,_,h=>by cases h
 |b::s,u::ts,a,t,h=>by
  show u^b*hU (s++[a]) (ts++[t])=u^b*hU s ts*t^a;rw [rz s ts a t (by simpa using h)];grind
theorem Aq:∀(s:List Nat) (ts:List Dyadic),s.length=ts.length→hU s.reverse ts.reverse=hU s ts
 |[],[],_=>rfl
 |[],_::_,h=>by cases h
 |_::_,[],h=>by cases h
 |b::s,u::ts,h=>by
  rw [ZP,ZP,rz _ _ _ _ (by simpa using h),Aq s ts (by simpa using h),hU];grind
theorem SI {ns:List Nat}{S:List TR}{ts:List Dyadic} (hS:∀t∈S,iV ns.reverse (cP t.m).reverse) (ht:ts.length=ns.length):iX ns.reverse (sP ns S) ts=jE ts.reverse S:=by
 unfold iX;have e1:sm (List.range (au ns.reverse)) (fun p=>((sP ns S)[p]?).getD 0*mv ns.reverse (cZ ns.reverse p) ts)=sm (List.range (au ns.reverse)) fun p=>sm S fun t=>t.c.d*(wK 0 ns.reverse (cP t.m).reverse (cZ ns.reverse p)*mv ns.reverse (cZ ns.reverse p) ts):=bL fun p hp=>by
  unfold sP;rw [Xx,Yh (XT.1 hp)];show wS _ S*_=_;rw [F6,←mz];exact bL fun t _=>by grind
 rw [e1,tQ];unfold jE;rw [F6];refine bL fun t h=> ?_;rw [mE,MG _ _ _ (hS t h) (by rw [X8];exact ht)];have hl:=l9 (hS t h);rw [X8,X8] at hl;have:=Aq (cP t.m).reverse ts (by rw [X8,hl,ht]);rw [ZK] at this;rw [this]
theorem OB (f:ByteArray→Dyadic) (c:Dyadic) (l:List TR):wS f (l.map (oN c))=wS f l*c:=by
 induction l with
 |nil=>exact (Dyadic.zero_mul _).symm
 |cons t l ih=>
  rw [XQ,wS,wS,ih];show (nR (t.c.d*c)).d*f t.m+_=_;rw [bI];grind
theorem Az:∀(v i:Nat) (xs:List Dyadic),xs.length=v→i<v→hU (((List.replicate v 0).set i 1)) xs=(xs[i]?).getD 0
 |0,_,_,_,h=>absurd h (Nat.not_lt_zero _)
 |v+1,i,[],h,_=>by cases h
 |v+1,0,x::xs,h,_=>by
  show x^1*hU (List.replicate v 0) xs=x;rw [nB];grind
 |v+1,i+1,x::xs,h,hi=>by
  show x^0*hU ((List.replicate v 0).set i 1) xs=(xs[i]?).getD 0;rw [Az v i xs (by simpa using h) Xj,ZS];grind
theorem KH (v i:Nat):cP (k5 v i)=(List.replicate v 0).set i 1:=by
 unfold cP k5;show ((((List.replicate (v:Int).toNat (0:UInt8)).set i 1).toArray).toList).map UInt8.toNat=_;rw [List.toList_toArray,Zv,List.map_replicate]
 rfl
theorem Hm (v:Nat):cP (er v)=List.replicate v 0:=by
 unfold cP er;show (((List.replicate (v:Int).toNat (0:UInt8)).toArray).toList).map UInt8.toNat=_;rw [List.toList_toArray,List.map_replicate]
 rfl
theorem K9 {v i:Nat}{s:SR} (hx:xs.length=v) (hi:i<v):jE xs (gP v i s)=s.L+(s.H-s.L)*(xs[i]?).getD 0:=by
 unfold gP lC tY ng;rw [je,px,je,je];have e1:jE xs [⟨er v,nR s.L⟩]=s.L:=by
  show (nR s.L).d*hU (cP (er v)) xs+0=_;rw [bI,Hm,nB];grind
 have e2:jE xs ((aG [⟨k5 v i,nR ((1:Int):Dyadic)⟩]).map (oN (s.H-s.L)))=(xs[i]?).getD 0*(s.H-s.L):=by
  unfold jE;rw [OB,qX];show ((nR ((1:Int):Dyadic)).d*hU (cP (k5 v i)) xs+0)*_=_;rw [bI,KH,Az v i xs hx hi,show (((1:Int):Dyadic))=1 from rfl];grind
 rw [e1,e2];grind
def xi (b:List SR) (xs:List Dyadic):List Dyadic:=b.mapIdx fun i s=>s.L+(s.H-s.L)*(xs[i]?).getD 0
theorem HP {b:List SR} (hx:xs.length=b.length):(br b).map (fun g=>jE xs g.ts)=xi b xs:=by
 refine YG fun i=> ?_;unfold xi;rw [Xx,ZE]
 cases hs:b[i]? with
 |none=>
  rw [X1 (by rw [j6];exact aa0.1 hs)]
  rfl
 |some s=>
  rw [gl hs];show some (jE xs (gP b.length i s))=some _;rw [K9 hx (XE.1 hs).1]
theorem N7 {p:PX}{b:List SR} (h0:(dw p (br b)).1=0) (hx:xs.length=b.length):jE xs (dw p (br b)).2=jE (xi b xs) p.ts:=by
 rw [SF h0,HP hx]
theorem G7 {p:PX}{b:List SR}{ns:List Nat}{s:Nat} (h:yE p b ns) (ho:iT k p.ts) (hb:∀z∈b,z.fin k) (hk:k≤1000) (hN:au (dZ p.v p.ts)≤N) (hN2:N≤1000) (hs:(dZ p.v p.ts).sum≤s) (hB:k+1+(s+12)*(k+k+10+5*N)≤400000) (h0:(dw p (br b)).1=0):
  jl b.length (k+1+(s+12)*(k+k+10+5*N)) (dw p (br b)).2∧(dw p (br b)).2.length≤N:=by
 have hl:=h.uz;have hpos:=h.pos;have hln:=j6 b;obtain ⟨_,o2,o3⟩:=m6 h.e;have hol:=h.y3;have hhv:fH (br b)=b.length:=by
  obtain ⟨z,hz⟩:=ak (l:=b) (k:=0) Xj;rw [lF (gl hz)]
 unfold dw at h0 ⊢;rw [Xp (fun c=>c h.e),Xp (by rw [hln,h.v];exact fun c=>c rfl)] at h0 ⊢;by_cases hlk:(br b).length≠0∧fR (br b)≠0
 ·rw [Xo hlk] at h0;exact absurd h0 hlk.2
 ·rw [Xp hlk,hhv] at h0 ⊢;have hD:(List.range b.length).map (fun i=>((dZ p.v p.ts)[i]?).getD 0)=dZ p.v p.ts:=by
   refine YG fun i=> ?_;rw [Xx];by_cases hi:i<b.length
   ·obtain ⟨d,hd⟩:=ak (l:=dZ p.v p.ts) (k:=i) Xj;rw [Yh hi,hd];show some (((dZ p.v p.ts)[i]?).getD 0)=some d;rw [hd]
    rfl
   ·rw [X1 (by rw [YO];omega),X1 Xj]
    rfl
  have hsl:((dZ p.v p.ts).sum+(dZ p.v p.ts).length)*(k+k+10+5*N)≤(s+12)*(k+k+10+5*N):=Yr _ Xj;have h1:=LN (K:=k+k+10) (T:=2) (c:=k+k+10+5*N) (N:=N) hl (fun i=>((dZ p.v p.ts)[i]?).getD 0) (by rw [hD];exact hN) Xj Xj Xj ((br b).map PX.ts) 0 p.ts (dZ p.v p.ts) k (fun i q hq=> ?_) ho (by rw [XA,hln,hol]) (fun i d hd=>by rw [XJ,hd];rfl) (fun t ht i hi=> ?_) Xj h0
  ·exact ⟨h1.1.mono Xj,h1.2⟩
  ·rw [Xx] at hq;obtain ⟨g,hg,rfl⟩:=Zp.1 hq;obtain ⟨z,hz⟩:=ak (l:=b) (k:=i) (by have:=(XE.1 hg).1;rwa [hln] at this);rw [gl hz] at hg;rw [←Yd hg,XJ];obtain ⟨a1,a2⟩:=nw (v:=b.length) (i:=i) hl (hb z (Xt hz)) Xj;exact ⟨a1,a2,xV _ i z⟩
  ·rw [XA,hln] at hi;rw [XJ];obtain ⟨d,hd⟩:=ak (l:=dZ p.v p.ts) (k:=i) Xj;rw [hd];exact (o3 i d hd).2.1 t ht
theorem F5:∀(ds:List Nat),(∀d∈ds,d≤5)→2^ds.sum≤au ds*au ds
 |[],_=>Xr _
 |d::ds,h=>by
  have h1:=F5 ds fun x hx=>h x (XD _ hx);have h2:=h d XB;have h3:2^d≤(d+1)*(d+1):=by
   match d,h2 with
   |0,_=>decide
   |1,_=>decide
   |2,_=>decide
   |3,_=>decide
   |4,_=>decide
   |5,_=>decide
  rw [List.sum_cons,XS,au];have:=YT h3 h1
  calc 2^d*2^ds.sum≤(d+1)*(d+1)*(au ds*au ds):=this
   _=(d+1)*au ds*((d+1)*au ds):=by rw [Nat.mul_mul_mul_comm]
theorem Sr {s:Nat} (h:∀d∈ds,d≤5) (hc:au ds≤C) (hs:C*C<2^(s+1)):ds.sum≤s:=by
 have h1:=F5 ds h;have h2:=YT hc hc;have h3:2^ds.sum<2^(s+1):=Xj;have:=(aaV (by decide:1<2)).1 h3;omega
theorem yg (c k:Nat):∀ds:List Nat,fK c ds k=k+ds.sum*c+ds.length*8192
 |[]=>by rw [re];simp
 |d::ds=>by
  rw [pC,yg c k ds,List.sum_cons,XR,Zc,Yw];omega
theorem Tl {ns:List Nat}{S:List TR} (hS:∀t∈S,iV ns.reverse (cP t.m).reverse) (hk:iT k S) (hd:∀d∈ns,d≤127):∀x∈sP ns S,Sz (k+S.length+520*ns.length) x:=by
 rw [←AW hS];exact DH (QO hk) (fun d h=>hd d (Zt.1 h)) ns.length
theorem IJ {p:PX}{b:List SR}{ds:List Int} (h:nW p b ds=0):pT p b (td p ds)=0∧(dw p (br b)).1=0:=by
 unfold nW at h;by_cases h0:pT p b (td p ds)≠0
 ·rw [Xo h0] at h;exact absurd h h0
 ·rw [Xp h0] at h;exact ⟨Y5.1 h0,h⟩
theorem Dl (ns:List Nat):(bM ns).map Int.toNat=ns:=qZ ns
theorem Out.fe {D:List Nat}{ys:List Dyadic}{g:FX} (o:Out 0 D ys g) (h12:D.length≤12) (hlow:∀d∈D,d≤127) (hy:ys.length=au D) (hm:au D≤4096):g.e=0∧g.ds=bM D∧g.cs=ys.map nR:=by
 have e1:g.ds=bM D:=o.ds;have e2:g.cs=ys.map nR:=o.cs;refine ⟨?_,e1,e2⟩;unfold FX.e;rw [e1,e2];exact (FV.mk rfl rfl h12 hlow hy hm:FV (bM D) (ys.map nR) D ys).ok
theorem Bb {t:TR}{B:Nat} (h:∀c∈t.m.data.toList,c.toNat≤B) (i:Nat):mj t.m i≤B:=by
 unfold mj
 cases he:t.m.data.toList[i]? with
 |none=>exact Int.natCast_nonneg B
 |some e=>have:=h e (Xt he);show ((e.toNat:Nat):Int)≤B;omega
theorem Kb {v:Int}{B:Nat} (h:jy v ts=0) (hb:∀t∈ts,∀c∈t.m.data.toList,c.toNat≤B):∀d∈dZ v ts,d≤B:=fun d hd=>by
 obtain ⟨i,hi⟩:=YJ.1 hd;have h1:=((m6 h).2.2 i d hi).2.2;have h2:=(Lw (l:=ts) (i:=i) (B:=(B:Int)) (Int.natCast_nonneg B) fun t ht=>Bb (hb t ht) i).2;omega
theorem Lh {v:Int} (h:jy v ts=0) (hC:C≤4096) (hc:Iv (sS v ts)≤C):au (dZ v ts)≤C:=by
 obtain ⟨o1,_,o3⟩:=m6 h;have hlow:∀d∈dZ v ts,d≤127:=fun d hd=>by
  obtain ⟨i,hi⟩:=YJ.1 hd;exact (o3 i d hi).1
 rw [o1] at hc;unfold Iv at hc;rw [Xp (by rw [uX hlow];decide)] at hc;have:=BQ (dZ v ts) 1 (Xr _) Xk;rw [Zd] at this;rw [show yw 1 (bM (dZ v ts))=yw ((1:Nat):Int) (bM (dZ v ts)) from rfl,this] at hc;omega
structure OV (p:PX) (b:List SR) (C s:Nat):Prop where
 n:p.ts.length≤8
 ok:iT 124 p.ts
 sz:∀t∈p.ts,t.m.size≤20
 ex:∀t∈p.ts,∀c∈t.m.data.toList,c.toNat≤4
 box:∀z∈b,z.fin 124
 UU:p.e=0→au (dZ p.v p.ts)≤C
 QX:C*C<2^(s+1)
theorem OV.sum {p:PX}{b:List SR}{s:Nat} (h:OV p b C s) (he:p.e=0):(dZ p.v p.ts).sum≤s:=Sr (fun d hd=>by have:=Kb he h.ex d hd;omega) (h.UU he) h.QX
theorem OV.grow {p:PX}{b:List SR}{s:Nat} (h:OV p b C s) (hs:s≤14) (he:p.e=0):fK (124+124+16394) (dZ p.v p.ts) (124+1)≤440000:=by
 have h1:=h.sum he;have h2:=(m6 he).2.1;have h3:=(gK.1 (cK he).1).2;rw [yg];have h4:(dZ p.v p.ts).sum*(124+124+16394)≤14*(124+124+16394):=Yr _ Xj;have h5:(dZ p.v p.ts).length*8192≤12*8192:=Yr _ Xj;omega
theorem OV.small {p:PX}{b:List SR}{s:Nat}{ns:List Nat} (h:OV p b C s) (hs:s≤14) (hC:C≤200) (hF:yE p b ns) (h0:(dw p (br b)).1=0):(iT 40000 (dw p (br b)).2∧∀t∈(dw p (br b)).2,iV ns.reverse (cP t.m).reverse)∧∀x∈sP ns (dw p (br b)).2,Sz 47000 x:=by
 obtain ⟨h1,h2⟩:=G7 hF h.ok h.box Xk (XV (h.UU hF.e) hC) Xk (XV (h.sum hF.e) hs) Xk h0;have h3:=(yl hF h.ok h.box Xk (h.grow hs hF.e) h0).2;have h4:=h1.ok.mono (show 124+1+(14+12)*(124+124+10+5*200)≤40000 by decide);refine ⟨⟨h4,h3⟩,fun x hx=>(Tl h3 h4 hF.low x hx).mono ?_⟩;have h5:=hF.nl;have h6:=hF.uz;omega
def Wr (a:NR):Bool:=decide ((8:Int)<a.bg.size∨a.e< -60∨60<a.e)
structure WY (ts:List TR):Prop where
 n:ts.length≤10
 ok:iT 124 ts
 sz:∀t∈ts,t.m.size≤20
 ex:∀t∈ts,∀c∈t.m.data.toList,c.toNat≤6
structure Jy (v:Int) (k n D:Nat) (ts:List TR):Prop where
 e:jy v ts=0
 ok:iT k ts
 sz:∀t∈ts,t.m.size≤100000
 len:ts.length≤n
 ex:∀t∈ts,∀c∈t.m.data.toList,c.toNat≤D
variable {w:World}
theorem Se {p:PX}{b:List SR}{ns:List Nat}{ts:List Dyadic} (hF:yE p b ns) (h0:(dw p (br b)).1=0) (h3:∀t∈(dw p (br b)).2,iV ns.reverse (cP t.m).reverse) (ht:ts.length=ns.length):iX ns.reverse (sP ns (dw p (br b)).2) ts=jE (xi b ts.reverse) p.ts:=by
 rw [SI h3 ht,N7 h0 (by rw [X8,ht,hF.nl])]
structure NS (p:PX):Prop where
 n:p.ts.length≤8
 ok:iT 124 p.ts
 ex:∀t∈p.ts,t.m.size≤20∧∀c∈t.m.data.toList,c.toNat≤4
theorem NS.k8 {p:PX} (h:NS p) (hp:p.at_ w) (hc:p.n≤p.c):p.k8 124:=⟨by have:=hp.ln;have:=h.n;omega,hc,h.ok,fun t ht=>XV (h.ex t ht).1 Xk⟩
structure Vv (p:PX) (b:List SR) (ns:List Nat):Prop where
 vl:∀ts:List Dyadic,ts.length=ns.length→iX ns.reverse (sP ns (dw p (br b)).2) ts=jE (xi b ts.reverse) p.ts
 sz:∀x∈sP ns (dw p (br b)).2,Sz 460000 x
structure WT (p q s o:PX) (b:List SR) (ns:List Nat) (c:Dyadic):Prop where
 fit:yE p b ns
 UU:au ns≤100
 es:nW s b (bM ns)=0
 eo:nW o b (bM ns)=0
 gs:Jy s.v 140 16 4 s.ts
 go:Jy o.v 125 1 0 o.ts
 ws:fK (140+140+16394) (dZ s.v s.ts) (140+1)≤440000
 wo:fK (140+140+16394) (dZ o.v o.ts) (140+1)≤440000
 sum:sP ns (dw s (br b)).2=Sf (sP ns (dw p (br b)).2) (sP ns (dw q (br b)).2)
 W7:sP ns (dw o (br b)).2=((Db ns).map nD).map fun y=>c*y
 zp:∀x∈sP ns (dw p (br b)).2,Sz 460000 x
 zq:∀x∈sP ns (dw q (br b)).2,Sz 460000 x
theorem zv (p:PX) (L:Option Addr) (n c:Nat) (b:List SR) (w:World) (hT:dN w) (hp:p.at_ w) (hpc:p.n≤p.c) (hB:Sl w L n 6 (ay SR.cells b)):
  Calls Tryz.prog 6 #[.agg #[.int .i64 p.v,.slice p.A p.n p.c],.slice L n c] w fun r w'=>∃v:Bool,r=.returned (.bool v)∧(v=true→n≤20∧OV p b 100 13)∧Below w.heap.size w w':=by
 have hh:=Hp.start w;have hpl:=hp.ln;refine aj (N:=19) (l:=[.agg #[.int .i64 p.v,.slice p.A p.n p.c],.slice L n c]) Tryz.func6 rfl rfl (by simp) ?_;refine sr ?_;refine cv hh [_,_] ?_;intro b2 w2 hh;refine aB (aa (sr ?_));refine cg hh 0 [_,_] ?_;refine aF (yQ p.v p.A p.n p.c p.ts _ (hp.ext hh.below)) ar.out rfl Xk ?_;rintro e_ w6 ⟨b1,rfl,hb1,hb_⟩;refine ⟨_,rfl, ?_⟩;replace hh:=hh.ext hb_
 cases b1 with
 |true=>
  refine fi ?_;refine mB ?_;refine gS ?_;refine gy ?_;refine gS ?_;refine ez ?_;exact QF
 |false=>
  obtain ⟨p1,p2,p3⟩:=hb1 rfl;clear hb1;refine fi ?_;refine mB (gT (mL ?_));refine aD rfl rfl ?_;refine aF (sl none 0 0 [] L n c b _ (Sl.nil _ _ _) (hB.ext hh.below)) ar.out rfl Xk ?_;rintro e_ w10 ⟨b1,rfl,hb1,hb_⟩;refine ⟨_,rfl, ?_⟩;replace hh:=hh.ext hb_
  cases b1 with
  |true=>
   refine gT ?_;refine fi ?_;refine eR ?_;exact QF
  |false=>
   obtain ⟨_,Ub,_,hb⟩:=hb1 rfl;clear hb1;have f8p:NS p:=⟨Xj,p2,p3⟩;have lp:=f8p.k8 hp hpc;have hdg:=fun w1 hT1 hb=>na p 124 w1 hT1 (hp.ext hb) lp;have hgl:(sS p.v p.ts).length≤1000000:=by
    exact Qy
   refine gT ?_;refine fi ?_;refine eR ?_;refine mB (gT ?_);refine cg hh 0 [_,_] ?_;refine aD rfl rfl ?_;refine aF (hdg _ (hT.hp hh) hh.below) ar.out rfl Xk ?_;rintro e_ w15 ⟨G,gc,rfl,h4⟩;refine ⟨_,rfl, ?_⟩;replace hh:=hh.join h4;clear h4;simp only [Xw,Xu] at hh;refine aD rfl rfl ?_;refine bA hh (wJ G (sS p.v p.ts).length gc (sS p.v p.ts) _ (hh.aC (i:=0) rfl) hgl) rfl ?_;intro w16 hh;by_cases h100:Iv (sS p.v p.ts)≤100
   ·refine gT ?_;refine LM ?_;refine eR ?_;refine aB (aa (aw ?_));refine df ?_;exact ⟨_,rfl,fun _=>⟨Ub,f8p.n,f8p.ok,fun t ht=>(f8p.ex t ht).1,fun t ht=>(f8p.ex t ht).2,hb,fun he=>Lh he Xk h100,Xk⟩,hh.below⟩
   ·generalize Iv (sS p.v p.ts)=C at*;refine gT ?_;refine LM ?_;refine eR ?_;refine aB (aa (aw ?_));exact BE
def Sh (f:Dyadic→Dyadic):Prop:=∃l:List Dyadic,∀t,f t=si l t
def Ua:List Dyadic→List Dyadic→List Dyadic
 |[],b=>b
 |x::a,[]=>x::a
 |x::a,y::b=>(x+y)::Ua a b
def Vr:List Dyadic→List Dyadic→List Dyadic
 |[],_=>[]
 |x::a,b=>Ua (b.map fun y=>x*y) (0::Vr a b)
def D1 (F:Dyadic→Dyadic) (a b:Dyadic):Prop:=∃R,Sh R∧∀h,F h=a+h*b+h*h*R h
variable {α β:Type}
theorem Bj {l:List α}{f g:α→List β} (h:∀a∈l,f a=g a):l.flatMap f=l.flatMap g:=by
 rw [List.flatMap_def,List.flatMap_def,YZ h]
theorem rC (m n:Nat):List.range (m*n)=(List.range n).flatMap fun q=>(List.range m).map fun r=>r+m*q:=by
 induction n with
 |zero=>rfl
 |succ n ih=>
  rw [YS,List.range_add,ih,YQ,ZC,List.flatMap_singleton];congr 1;exact YZ fun r _=>Zh _ _
theorem S0 (d t:Nat) (ht:t≤d) (G:Nat→List α):(List.range (d+1)).flatMap (fun k=>if k=t then G k else [])=G t:=by
 have none:∀n,n≤t→(List.range n).flatMap (fun k=>if k=t then G k else [])=[]:=fun n hn=>by
  refine List.flatMap_eq_nil_iff.2 fun k hk=> ?_;have:=XT.1 hk;rw [Xp Xj]
 induction d with
 |zero=>
  obtain rfl:t=0:=Xj;simp
 |succ d ih=>
  rw [YQ,ZC,List.flatMap_singleton];by_cases h:t=d+1
  ·subst h;rw [none _ (Xr _),Xo rfl,Xu]
  ·rw [ih Xj,Xp Xj,XZ]
def Gg (A B:List Nat) (d t:Nat):List Nat:=(List.range (au B)).flatMap fun q=>(List.range (au A)).map fun f=>cL A d f t q
theorem A5 (A B:List Nat) (d t:Nat) (ht:t≤d):(List.range (au (A++d::B))).filter (fun p=>decide (p/au A % (d+1)=t))=Gg A B d t:=by
 have hA:=cC A;rw [de,au,rC,List.filter_flatMap];have e1:∀x,((List.range (au A)).map fun f=>f+au A*x).filter (fun p=>decide (p/au A % (d+1)=t))=if x % (d+1)=t then (List.range (au A)).map fun f=>f+au A*x else []:=fun x=>by
  by_cases h:x % (d+1)=t
  ·rw [Xo h];refine aaB.2 fun p hp=> ?_;obtain ⟨f,hf,rfl⟩:=XG.1 hp;have hf:=XT.1 hf;rw [Yy _ _ hA,Yk hf,XJ,XH h]
  ·rw [Xp h];refine aaR.2 fun p hp=> ?_;obtain ⟨f,hf,rfl⟩:=XG.1 hp;have hf:=XT.1 hf;rw [Yy _ _ hA,Yk hf,XJ,decide_eq_true_iff];exact h
 simp only [e1];rw [rC,List.flatMap_assoc];unfold Gg;congr 1;funext q;rw [List.flatMap_map];have e2:∀k∈List.range (d+1),(if (k+(d+1)*q) % (d+1)=t then (List.range (au A)).map (fun f=>f+au A*(k+(d+1)*q)) else [])=if k=t then (List.range (au A)).map (fun f=>cL A d f k q) else []:=fun k hk=>by
  have:=XT.1 hk;rw [YW,X5 this]
  rfl
 rw [Bj e2,S0 d t ht fun k=>(List.range (au A)).map fun f=>cL A d f k q]
def sF (A B:List Nat) (d t:Nat) (xs:List Dyadic):List Dyadic:=(Gg A B d t).map fun p=>(xs[p]?).getD 0
theorem O6 (d k:Nat) (hk:k≤d) (F:Nat→Dyadic):sm (List.range (d+1)) (fun i=>F i*(if i=k then 1 else 0))=F k:=by
 rw [bL (g:=fun i=>if i=k then F k else 0) fun i _=> ?_,md,Xo Xj];split
 ·rename_i h;rw [h,aai]
 ·exact aaI _
variable {X:List Dyadic}
theorem CC:∀(A:List Nat) (d:Nat) (B:List Nat) (F:List Nat→Dyadic),sR (A++d::B) F=sm (List.range (d+1)) fun r=>sR (A++B) fun row=>F (row.take A.length++r::row.drop A.length)
 |[],d,B,F=>by
  rw [Xu,Xu,sR];refine bL fun r _=>mM fun row _=> ?_;simp
 |e::A,d,B,F=>by
  rw [Xw,Xw,sR,bL fun x _=>CC A d B fun row=>F (x::row),tQ];refine bL fun r _=> ?_;rw [sR];refine bL fun x _=>mM fun row _=> ?_;simp
theorem uC:∀{A ra:List Nat}{ta:List Dyadic} (d r:Nat) (t:Dyadic) (B rb:List Nat) (tb:List Dyadic),ra.length=A.length→ta.length=A.length→mv (A++d::B) (ra++r::rb) (ta++t::tb)=mv (A++B) (ra++rb) (ta++tb)*iZ d r t
 |[],[],[],d,r,t,B,rb,tb,_,_=>by
  show iZ d r t*mv B rb tb=mv B rb tb*iZ d r t;grind
 |[],_::_,_,_,_,_,_,_,_,h,_=>by cases h
 |[],[],_::_,_,_,_,_,_,_,_,h=>by cases h
 |_::_,[],_,_,_,_,_,_,_,h,_=>by cases h
 |_::_,_::_,[],_,_,_,_,_,_,_,h=>by cases h
 |a::A,x::ra,u::ta,d,r,t,B,rb,tb,h1,h2=>by
  show iZ a x u*mv (A++d::B) (ra++r::rb) (ta++t::tb)=iZ a x u*mv (A++B) (ra++rb) (ta++tb)*iZ d r t;rw [uC d r t B rb tb (by simpa using h1) (by simpa using h2)];grind
def Sj (A:List Nat) (d:Nat) (B:List Nat) (X:List Dyadic) (ta tb:List Dyadic) (r:Nat):Dyadic:=sR (A++B) fun row=>co (A++d::B) X (row.take A.length++r::row.drop A.length)*mv (A++B) row (ta++tb)
theorem GZ {A:List Nat}{d:Nat}{B:List Nat}{ta tb:List Dyadic}{t:Dyadic} (ha:ta.length=A.length):iX (A++d::B) X (ta++t::tb)=sm (List.range (d+1)) fun r=>Sj A d B X ta tb r*iZ d r t:=by
 rw [Gq,CC];refine bL fun r _=> ?_;unfold Sj;rw [←Ke];refine mM fun row hr=> ?_;have hl:=l9 hr;rw [Xy] at hl;rw [uC d r t B _ tb (by rw [XP];omega) ha,Yg];grind
theorem EO:∀{A:List Nat}{d r:Nat}{B row:List Nat},iV (A++B) row→r≤d→iV (A++d::B) (row.take A.length++r::row.drop A.length)
 |[],d,r,B,row,h,hr=>by simpa using ⟨hr,h⟩
 |a::A,d,r,B,[],h,hr=>by cases h
 |a::A,d,r,B,x::row,h,hr=>⟨h.1,by simpa using EO (A:=A) h.2 hr⟩
theorem NQ {A B row:List Nat}{d r:Nat} (hl:A.length≤row.length):eh (A++d::B) (row.take A.length++r::row.drop A.length)=cL A d (eh A (row.take A.length)) r (eh B (row.drop A.length)):=by
 rw [mK (by rw [XP];omega)]
 rfl
theorem uI:∀{A B ra rb:List Nat},ra.length=A.length→(iV (A++B) (ra++rb)↔iV A ra∧iV B rb)
 |[],B,[],rb,_=>by simp [iV]
 |[],_,_::_,_,h=>by cases h
 |_::_,_,[],_,h=>by cases h
 |a::A,B,x::ra,rb,h=>by
  show x≤a∧iV (A++B) (ra++rb)↔(x≤a∧iV A ra)∧iV B rb;rw [uI (by simpa using h),and_assoc]
theorem GW {A B row:List Nat} (h:iV (A++B) row):iV A (row.take A.length)∧iV B (row.drop A.length):=by
 have hl:=l9 h;rw [Xy] at hl;refine (uI (by rw [XP];omega)).1 ?_;rw [Yg];exact h
theorem Sy {A B row:List Nat}{d r:Nat} (h:iV (A++B) row) (hr:r≤d):co (A++d::B) X (row.take A.length++r::row.drop A.length)=(X[cL A d (eh A (row.take A.length)) r (eh B (row.drop A.length))]?).getD 0:=by
 have hl:=l9 h;rw [Xy] at hl;rw [wX (EO h hr),NQ Xj]
theorem Ac (A B:List Nat) (d t:Nat) (xs:List Dyadic):sF A B d t xs=(List.range (au (A++B))).map fun p=>(xs[cL A d (p % au A) t (p/au A)]?).getD 0:=by
 have hA:=cC A;unfold sF Gg;rw [de,rC,List.map_flatMap,List.map_flatMap];refine Bj fun q _=> ?_;rw [Ym,Ym];refine YZ fun f hf=> ?_;have hf:=XT.1 hf;show (xs[cL A d f t q]?).getD 0=(xs[cL A d ((f+au A*q) % au A) t ((f+au A*q)/au A)]?).getD 0;rw [YW,X5 hf,Yy _ _ hA,Yk hf,XJ]
theorem Hz (A B:List Nat) (d t:Nat) (xs:List Dyadic):(sF A B d t xs).length=au (A++B):=by
 rw [Ac,XA,YO]
theorem OU {A B:List Nat}{d t:Nat}{p:Nat} (h:p<au (A++B)):(sF A B d t xs)[p]?=some ((xs[cL A d (p % au A) t (p/au A)]?).getD 0):=by
 rw [Ac,Xx,Yh h]
 rfl
theorem MT {A B row:List Nat}{d t:Nat} (ht:t≤d) (h:iV (A++B) row):co (A++B) (sF A B d t xs) row=co (A++d::B) xs (row.take A.length++t::row.drop A.length):=by
 have hl:=l9 h;rw [Xy] at hl;obtain ⟨h1,h2⟩:=GW h;have hA:=jK h1;have hp:eh (A++B) row=eh A (row.take A.length)+au A*eh B (row.drop A.length):=by
  conv=>lhs;rw [←Yg A.length row]
  exact mK (by rw [XP];omega)
 rw [wX h,OU (jK h),Sy h ht,hp,YW,X5 hA,Yy _ _ (cC A),Yk hA,XJ]
 rfl
theorem Cw {d r:Nat} (hr:r≤d) (side:Nat) (hs:side≤1):iZ d r (nD side)=if r=d*side then 1 else 0:=by
 unfold iZ
 rcases (by omega:side=0∨side=1) with rfl|rfl
 ·rw [tr,Nat.mul_zero,show (1:Dyadic)-0=1 by grind,iw];by_cases h:r=0
  ·subst h;rw [Xo rfl,ZS];grind
  ·obtain ⟨s,rfl⟩:∃s,r=s+1:=⟨r-1,Xj⟩;rw [Xp h,aah];grind
 ·rw [vX,XK,show (1:Dyadic)-1=0 by grind,iw];by_cases h:r=d
  ·subst h;rw [Xo rfl,Yq,ZS];grind
  ·obtain ⟨s,hs⟩:∃s,d-r=s+1:=⟨d-r-1,Xj⟩;rw [Xp h,hs,aah];grind
theorem Mp {A B:List Nat}{d side:Nat}{ta tb:List Dyadic} (hs:side≤1) (ha:ta.length=A.length):iX (A++B) (sF A B d (d*side) xs) (ta++tb)=iX (A++d::B) xs (ta++nD side::tb):=by
 have ht:d*side≤d:=by
  rcases (by omega:side=0∨side=1) with rfl|rfl<;>omega
 rw [GZ ha,bL fun r hr=>by rw [Cw (by have:=XT.1 hr;omega) side hs],O6 d (d*side) ht,Gq];unfold Sj;exact mM fun row hr=>by rw [MT ht hr]
def ic:List Nat→List Nat→List Nat
 |[],_=>[]
 |_::_,[]=>[]
 |d::ds,k::ks=>d*k::ic ds ks
theorem sI:∀(ds rs ks:List Nat),iV ds rs→ks.length=ds.length→(∀k∈ks,k≤1)→mv ds rs (ks.map nD)=if rs=ic ds ks then 1 else 0
 |[],[],[],_,_,_=>by rw [ic,Xo rfl];rfl
 |[],[],_::_,_,h,_=>by cases h
 |[],_::_,_,h,_,_=>by cases h
 |_::_,[],_,h,_,_=>by cases h
 |_::_,_::_,[],_,h,_=>by cases h
 |d::ds,r::rs,k::ks,h1,h2,h3=>by
  have ih:=sI ds rs ks h1.2 (by simpa using h2) fun x hx=>h3 x (XD _ hx);rw [XQ,mv,ih,Cw h1.1 k (h3 k XB),ic];by_cases e1:r=d*k
  ·by_cases e2:rs=ic ds ks
   ·rw [Xo e1,Xo e2,Xo (by rw [e1,e2])];grind
   ·rw [Xo e1,Xp e2,Xp fun e=>e2 (List.cons.inj e).2];grind
  ·rw [Xp e1,Xp fun e=>e1 (List.cons.inj e).1];grind
theorem vQ:∀(ds ks:List Nat),ks.length=ds.length→(∀k∈ks,k≤1)→iV ds (ic ds ks)
 |[],[],_,_=>trivial
 |[],_::_,h,_=>by cases h
 |_::_,[],h,_=>by cases h
 |d::ds,k::ks,h,h3=>by
  refine ⟨?_,vQ ds ks (by simpa using h) fun x hx=>h3 x (XD _ hx)⟩;have:=h3 k XB
  rcases (by omega:k=0∨k=1) with rfl|rfl<;>omega
theorem Dx {ks:List Nat} (h:ks.length=ds.length) (hk:∀k∈ks,k≤1):iX ds xs (ks.map nD)=(xs[eh ds (ic ds ks)]?).getD 0:=by
 have hc:=vQ ds ks h hk;have hlt:=jK hc;unfold iX;have e:∀p,p∈List.range (au ds)→(xs[p]?).getD 0*mv ds (cZ ds p) (ks.map nD)=if p=eh ds (ic ds ks) then (xs[eh ds (ic ds ks)]?).getD 0 else 0:=fun p hp=>by
  have hp:=XT.1 hp;rw [sI ds _ ks (mh ds p) h hk];by_cases e1:p=eh ds (ic ds ks)
  ·subst e1;rw [gM hc,Xo rfl,Xo rfl];grind
  ·rw [Xp e1,Xp fun c=>e1 (by rw [←c,u3 hp])];grind
 rw [bL e,md,Xo hlt]
def Wq (A:List Nat) (e:Nat) (X:List Dyadic):List Dyadic:=o9 (p7 (au A) (e+1)) (jb A (e+1) (e+1) (pM (e+1)) X X.length 0) X.length
def VI:List (Nat→Dyadic)→List Nat→Dyadic
 |f::fs,r::rs=>f r*VI fs rs
 |_,_=>1
def vG (ds:List Nat) (X:List Dyadic) (fs:List (Nat→Dyadic)):Dyadic:=sR ds fun row=>co ds X row*VI fs row
def Us (ds:List Nat) (ts:List Dyadic):List (Nat→Dyadic):=List.zipWith (fun d t r=>iZ d r t) ds ts
def WO (ts:List Dyadic):List (Nat→Dyadic):=ts.map fun t r=>t^r
def Wk (ds:List Nat) (ts:List Dyadic) (k:Nat):List (Nat→Dyadic):=(Us ds ts).take (ds.length-k)++(WO ts).drop (ds.length-k)
def wT (b:List SR) (ns:List Nat):Nat→Dyadic
 |0=>1
 |i+1=>wT b ns i*D0 b i^(ns.getD i 0)
theorem OV.Vs {p:PX}{b:List SR}{s:Nat} (h:OV p b C s):NS p:=⟨h.n,h.ok,fun t ht=>⟨h.sz t ht,h.ex t ht⟩⟩
structure V4 (p:PX) (b:List SR) (fx:FX) (ns:List Nat):Prop where
 e:rv fx b=0
 q:(Cv fx b).2=aG (p.ts.map (oN (wT b ns b.length)))
 s:G4 p (wT b ns b.length)=0
 n:(aG (p.ts.map (oN (wT b ns b.length)))).length≤8
theorem Mm {l:List α}{i:Nat}{x:α} (h:l[i]?=some x):l=l.take i++x::l.drop (i+1):=by
 rw [←gm h,Yg]
structure Vi (p q:PX) (b:List SR) (ns:List Nat) (a:Nat) (X:List Dyadic):Prop where
 Vf:Jy q.v 300 8 4 q.ts
 e:nW q b (bM (yZ ns a))=0
 grow:fK (300+300+16394) (dZ q.v q.ts) (300+1)≤440000
 x:sP (yZ ns a) (dw q (br b)).2=AK ns a X
variable {n:Nat}
def I0 (fx:FX) (bits:Int):Int:=if fx.e≠0 then fx.e else if bits<0∨((2^fx.n:Nat):Int)≤bits then 1 else 0
def jB (k i:Nat):Nat:=k/2^i % 2
def iU (n k:Nat):List Nat:=(List.range n).map (jB k)
def Vo (ns:List Nat) (k:Nat):Nat:=eh ns.reverse (ic ns (iU ns.length k)).reverse
def O8 (fx:FX) (bits:Int):NR:=if I0 fx bits=0 then (fx.cs[Vo fx.ns bits.toNat]?).getD (nR 0) else nR 0
theorem lg:∀(ds ks:List Nat),ic ds ks=List.zipWith (· * ·) ds ks
 |[],_=>by rw [ic];rfl
 |_::_,[]=>by rw [ic];rfl
 |d::ds,k::ks=>by rw [ic,lg ds ks];rfl
theorem IB {ks:List Nat} (h:ks.length=ds.length):(ic ds ks).reverse=ic ds.reverse ks.reverse:=by
 rw [lg,lg,List.reverse_zipWith Xj]
theorem nt (n k:Nat):(iU n k).length=n:=by unfold iU;simp
theorem xp:∀b∈iU n k,b≤1:=fun b hb=>by
 obtain ⟨i,_,rfl⟩:=XG.1 hb;unfold jB;omega
theorem FI (h:n≤12):IntKind.i64.wrap ((1:Int)*2^(min ((n:Int)).toNat IntKind.i64.bits))=((2^n:Nat):Int):=by
 have:∀m:Nat,m≤12→IntKind.i64.wrap ((1:Int)*2^(min ((m:Int)).toNat IntKind.i64.bits))=((2^m:Nat):Int):=by decide
 exact this n h
theorem yB (fx:FX) (bits:Int) (k:Nat) (w:World) (hT:dN w) (hf:fx.at_ w) (hl:fx.k8 k) (hb1: -9223372036854775808≤bits) (hb2:bits≤9223372036854775807):
  Calls Tryz.prog 14 #[.agg #[.slice fx.A fx.n fx.a,.slice fx.B fx.m fx.b],.int .i64 bits] w fun r w'=>r=.returned (.tuple #[.agg #[.bool (O8 fx bits).neg,.string (O8 fx bits).bg,.int .i64 (O8 fx bits).e],.int .i64 (I0 fx bits)])∧Below w.heap.size w w':=by
 have hh:=Hp.start w;have hln:=hf.ln.1;have hlm:=hf.ln.2;have hck:=fun w1 hT1 hb=>qR fx k w1 hT1 (hf.ext hb) hl;have h1000:=hl.Ub;by_cases h0:fx.e≠0
 ·have eE:I0 fx bits=fx.e:=Xo h0;unfold O8;rw [eE,Xp h0];generalize fx.e=E at*;refine K4 ?_;refine sr ?_;refine cv hh [_,_] ?_;intro b2 w2 hh;refine bP hh ?_;intro b4 w4 hh;refine aI (aa (ah (sr ?_)));refine cg hh 1 [_,_] ?_;refine eu ?_;intro w11 hh;exact QQ
 ·replace h0:fx.e=0:=Y5.1 h0;obtain ⟨hdeg,hnum,h12,hlow,hcnt,hmax⟩:=FX.fv h0;have hnl:fx.ns.length=fx.n:=by unfold FX.ns;rw [XA];exact hln
  have hE:I0 fx bits=if bits<0∨((2^fx.n:Nat):Int)≤bits then 1 else 0:=by unfold I0;rw [Xp (fun c=>c h0)]
  rw [h0] at hck;have hsh:=FI (n:=fx.n) Xj;by_cases hneg:bits<0
  ·have hE1:I0 fx bits=1:=by rw [hE];exact Xo (.inl hneg)
   unfold O8;rw [hE1,Xp Xk];refine K4 ?_;refine sr ?_;refine cv hh [_,_] ?_;intro b2 w2 hh;refine bP hh ?_;intro b4 w4 hh;refine aI (aa (ah (sr ?_)));refine cg hh 1 [_,_] ?_;refine eu ?_;intro w11 hh;refine aI (aa (sr (mI ?_)));refine mU ?_;refine bf (mB ?_);refine gS (gS (gS (gS ?_)));refine gy ?_;refine gS ?_;refine eR ?_;refine aa (cT (sr ?_));refine fP [_,_,_] ?_;exact Oz
  ·by_cases hbig:((2^fx.n:Nat):Int)≤bits
   ·have hE1:I0 fx bits=1:=by rw [hE];exact Xo (.inr hbig)
    unfold O8;rw [hE1,Xp Xk];refine K4 ?_;refine sr ?_;refine cv hh [_,_] ?_;intro b2 w2 hh;refine bP hh ?_;intro b4 w4 hh;refine aI (aa (ah (sr ?_)));refine cg hh 1 [_,_] ?_;refine eu ?_;intro w11 hh;refine aI (aa (sr (mI ?_)));refine mU ?_;refine bf (mB (gT (mI (gT (bH (gT ?_))))));refine bE hh 1 ?_;refine gT (aH ?_);refine aD rfl rfl ?_;refine FK rfl rfl Xj Xk ?_;rw [hsh];generalize ((2^fx.n:Nat):Int)=Z at*;refine gT ?_;refine dL ?_;refine ez ?_;refine aa (cT (sr ?_));refine fP [_,_,_] ?_;exact Oz
   ·have hE1:I0 fx bits=0:=by rw [hE];exact Xp fun c=>c.elim hneg hbig
    unfold O8;rw [hE1,Xo rfl];clear hE hE1;obtain ⟨q,rfl⟩:∃q:Nat,bits=q:=⟨bits.toNat,Xj⟩;rw [YN];have hsD:Sl w fx.A fx.n 1 (bu (bM fx.ns)):=by rw [←hdeg];exact hf.dg
    unfold Vo;have hel:(ic fx.ns (iU fx.ns.length q)).length=fx.n:=by rw [lg,List.length_zipWith,nt];omega
    have heat:∀j d,fx.ns[j]?=some d→(ic fx.ns (iU fx.ns.length q))[j]?=some (d*jB q j):=fun j d hd=>by
     have hj:=(XE.1 hd).1;rw [lg,List.getElem?_zipWith,hd];unfold iU;rw [Xx,Yh hj]
     rfl
    have hok:=vQ fx.ns (iU fx.ns.length q) (nt _ _) xp;generalize ic fx.ns (iU fx.ns.length q)=es at*;refine aj (N:=52) (l:=[.agg #[.slice fx.A fx.n fx.a,.slice fx.B fx.m fx.b],.int .i64 (q:Int)]) Tryz.func14 rfl rfl (by simp) ?_;refine sr ?_;refine cv hh [_,_] ?_;intro b2 w2 hh;refine bP hh ?_;intro b4 w4 hh;refine aI (aa (ah (sr ?_)));refine cg hh 1 [_,_] ?_;refine eu ?_;intro w11 hh;refine aI (aa (sr (mI ?_)));refine mU ?_;refine bf (mB (gT (mI (gT (bH (gT ?_))))));refine bE hh 1 ?_;refine gT (aH ?_);refine aD rfl rfl ?_;refine FK rfl rfl Xj Xk ?_;rw [hsh];generalize hZZ:((2^fx.n:Nat):Int)=Z at*;refine gT ?_;refine dL ?_;refine ez ?_;refine aa (cF (aq (ai (sr (aI (aa (ah (sr (bH ?_)))))))));refine bE hh 1 ?_;refine aH (mI (aa (ao ?_)));refine bK [7,8,9,30,31,32,33,34,35,36,37,38,39,40,41,42,43,44,45,46] 7 30
     (fun a v w'=>∃(j z:Nat),j≤fx.n∧v=.int .i64 j∧a=.int .i64 z∧z=eh (fx.ns.take j).reverse (es.take j).reverse∧z<au (fx.ns.take j)∧Hp w [.blk b4 40 [.bool false,.string ⟨#[]⟩,.int .i64 0] (0,0),.blk b2 33 [.slice fx.A fx.n fx.a,.slice fx.B fx.m fx.b] (0,0)] w')
     (fun _ v _=>fx.n-(intOf v).toNat) ?_ ?_
    ·exact ⟨0,0,Xs _,rfl,rfl,rfl,Nat.one_pos,hh⟩
    ·clear hh;rintro ρ3 a_ v w3 ⟨j,z,hj,rfl,rfl,hz,hz2,hh⟩;by_cases hjn:j<fx.n
     ·obtain ⟨d,hd⟩:=ak (l:=fx.ns) (k:=j) Xj;have hr:=heat j d hd;have hd7:=hlow d (Xt hd);have hgD:(bu (bM fx.ns))[j]?=some (.int .i64 (d:Int)):=ck (gN hd);have hst:=Bu hd hr;have hcs:=BJ hd;rw [cD,cD] at hcs;rw [←hz] at hst;have hct:=ij fx.ns (j+1);have hb1:jB q j≤1:=by unfold jB;omega
      have hdb:d*jB q j≤d:=by
       have:=X4 d hb1;omega
      have hnew:d*jB q j+(d+1)*z<(d+1)*au (fx.ns.take j):=by
       have:(d+1)*(z+1)≤(d+1)*au (fx.ns.take j):=X4 _ hz2;rw [YS] at this;omega
      have hpr:(z:Int)*((d:Int)+1)=(((d+1)*z:Nat):Int):=by rw [XY,YB,Zm];rfl
      have hpr2:(d:Int)*((jB q j:Nat):Int)=((d*jB q j:Nat):Int):=by rw [YB]
      have hbit:((q:Int).fdiv (2^(min ((j:Int)).toNat IntKind.i64.bits))) % 2=((jB q j:Nat):Int):=by
       have hm2:min ((j:Int)).toNat IntKind.i64.bits=j:=by
        show min j 64=j;omega
       rw [hm2,Int.fdiv_eq_ediv_of_nonneg _ (by exact Int.le_of_lt (Int.pow_pos Xk))];unfold jB;rw [Int.natCast_emod,Int.natCast_ediv,aak]
       rfl
      obtain ⟨ad,hMe,hsr2⟩:=(hsD.ext hh.below).at_ Xj;have si:Value.slice fx.A fx.n fx.a=.slice (some ad) fx.n fx.a:=by rw [hMe]
      refine sr ?_;refine dR ?_;refine cE (k:=j) bh.out aM.size si rfl Xj Xj Xk ?_;refine bU aM.out rfl (hsr2.wj hgD) Xk ?_;refine aI (aI (aa (al (mI (mI ?_)))));refine bk ?_;refine mulC (mI (mI (mI ?_)));refine KI rfl rfl Xj Xk ?_;refine uB rfl rfl Xk ?_;rw [hbit];refine mulC ?_;refine bk (aI (aA (bz (ai (al ?_)))));refine bk (mI (aA (ai ?_)));rw [hpr,hpr2];refine ⟨⟨j+1,d*jB q j+(d+1)*z,Xj,rfl, ?_,hst.symm,Xj,hh⟩,by show fx.n-(j+1)<fx.n-j;omega, ?_⟩
      ·show Value.int IntKind.i64 ((((d+1)*z:Nat):Int)+((d*jB q j:Nat):Int))=_;rw [show (((d+1)*z:Nat):Int)+((d*jB q j:Nat):Int)=((d*jB q j+(d+1)*z:Nat):Int) by omega]
      ·exact dV
     ·obtain rfl:j=fx.n:=Xj;rw [Xz Xj,Xz Xj] at hz;rw [Xz Xj] at hz2;obtain ⟨x,hx⟩:=ak (l:=fx.cs) (k:=z) Xj;obtain ⟨adC,hAC,sC⟩:=hf.nm.at_ Xj;have hevC:Value.slice fx.B fx.m fx.b=.slice (some adC) fx.m fx.b:=by rw [hAC]
      rw [←hz,hx,YF];refine sr ?_;refine Ks ?_;refine bE hh 1 ?_;refine mI ?_;refine cE (k:=z) bh.out aM.size hevC rfl Xj Xj Xk ?_;refine JP ?_;refine bR hh 0 [_,_,_] ?_;intro ws hh;replace hh:Hp _ (.blk _ _ [_,_,_] _::_) _:=hh;refine aI (aa (aw ?_));exact Pz
def j8 (ap d t:Nat) (xs:List Dyadic) (i:Nat):List Dyadic:=((List.range i).filter fun p=>decide (p/ap % (d+1)=t)).map fun p=>(xs[p]?).getD 0
theorem G3 (ap d t:Nat) (xs:List Dyadic) (i:Nat):j8 ap d t xs (i+1)=j8 ap d t xs i++if i/ap % (d+1)=t then [(xs[i]?).getD 0] else []:=by
 unfold j8;rw [YQ,ZQ,Yc];congr 1;by_cases h:i/ap % (d+1)=t
 ·rw [Xo h,aa1 (by rw [XH h])];rfl
 ·rw [Xp h,aaD (by rw [XM h];decide)];rfl
theorem u9 (fx:FX) (a d:Nat) (sd:Nat) (k:Nat) (w:World) (hT:dN w) (hf:fx.at_ w) (hl:fx.k8 k) (hcap:fx.n≤fx.a) (h0:fx.e=0) (hd:fx.ns[a]?=some d) (hsd:sd=0∨sd=1):
  Calls Tryz.prog 16 #[.agg #[.slice fx.A fx.n fx.a,.slice fx.B fx.m fx.b],.int .i64 a,.int .i64 sd] w fun r w'=>∃g:FX,g.ds=fx.ds.eraseIdx a∧g.cs=(j8 (au (fx.ns.drop (a+1))) d (d*sd) (fx.cs.map NR.d) fx.m).map nR∧g.n≤100000∧g.m≤1000000∧r=.returned (.tuple #[.agg #[.slice g.A g.n g.a,.slice g.B g.m g.b],.int .i64 0])∧Hp w [g.qz,g.oV] w':=by
 have hh:=Hp.start w;obtain ⟨hdeg,hnum,h12,hlow,hcnt,hmax⟩:=FX.fv h0;have hln:=hf.ln.1;have hlm:=hf.ln.2;have hnl:fx.ns.length=fx.n:=by unfold FX.ns;rw [XA];exact hln
 have ha:=(XE.1 hd).1;have hd127:=hlow d (Xt hd);have hE:jC fx (a:Int)=0:=by unfold jC;rw [Xp Xj,Xp Xj]
 have hhas:=fun w1 hT1 hb=>pB fx (a:Int) k w1 hT1 (hf.ext hb) hl;rw [hE] at hhas;have hdg:Sl w fx.A fx.n 1 (bu (bM fx.ns)):=by rw [←hdeg];exact hf.dg
 have hof:=fun w1 hb=>jR fx.A fx.n fx.a a d fx.ns w1 (hdg.ext hb) hcap Xj hd hlow hmax;have hap:0<au (fx.ns.drop (a+1)):=cC _;have hgd:(bu fx.ds)[a]?=some (.int .i64 (d:Int)):=by rw [hdeg];exact ck (gN hd)
 obtain ⟨ad0,hAD,sD⟩:=hf.dg.at_ Xj;have si:Value.slice fx.A fx.n fx.a=.slice (some ad0) fx.n fx.a:=by rw [hAD]
 have hprod:(d:Int)*(sd:Int)=((d*sd:Nat):Int):=by rw [YB]
 have hpb:d*sd≤127:=by rcases hsd with rfl|rfl<;>omega
 have hap2:au (fx.ns.drop (a+1))≤4096:=by
  exact Tr
 generalize au (fx.ns.drop (a+1))=ap at*;refine aj (N:=70) (l:=[.agg #[.slice fx.A fx.n fx.a,.slice fx.B fx.m fx.b],.int .i64 a,.int .i64 sd]) Tryz.func16 rfl rfl (by simp) ?_;refine sr ?_;refine cv hh [_,_] ?_;intro b3 w3 hh;refine bP hh ?_;intro b6 w6 hh;refine aI (aa (ah (sr ?_)));refine cg hh 1 [_,_] (mI ?_);refine Cs ?_;intro w15 hh
 rcases hsd with hs0|hs0
 ·refine aI (aa (sr (mI ?_)));refine mU ?_;refine cJ (mB ?_);refine gS (gS ?_);refine ez ?_;exact Wg
 ·refine aI (aa (sr (mI ?_)));refine mU ?_;refine cJ (mB (gT (mI (gT ?_))));refine cJ ?_;refine eR ?_;exact Wg
theorem SR.Vt {s:SR} (h:s.fin k):Sz (k+1) s.wid:=(SR.MP h).sub (SR.GR h)
def Wn (b:List SR):Dyadic:=fU (b.map SR.wid)
def VX (b:List SR) (v:Int):Prop:=(b=[]∧v= -1)∨∃(m:Nat) (s:SR),b[m]?=some s∧v=m∧(∀(j:Nat) (t:SR),b[j]?=some t→¬s.wid<t.wid)∧∀(j:Nat) (t:SR),j<m→b[j]?=some t→t.wid<s.wid
theorem sE (L:Option Addr) (n c:Nat) (b:List SR) (g:FuncId) (cap:List Value) (G:Nat→SR→NR) (w:World) (hT:dN w) (hS:Sl w L n 6 (ay SR.cells b)) (hb:∀s∈b,s.ok) (hn:n≤1000000) [ar Tryz.prog g]
  (hg:∀(i:Nat) (s:SR) (w1:World),i<n→b[i]?=some s→Below w.heap.size w w1→dN w1→Calls Tryz.prog g (.int .i64 i::.agg s.f.cells.toArray::cap).toArray w1 fun r w'=>r=.returned (.agg #[.bool (G i s).neg,.string (G i s).bg,.int .i64 (G i s).e])∧Below w1.heap.size w1 w'):
  Calls Tryz.prog 57 #[.slice L n c,.func (.func g) #[] cap.toArray] w fun r w'=>∃A c',r=.returned (.slice A n c')∧w'.ownsRow w.heap.size 40 3 (.slice A n c') n (ay NR.cells (b.mapIdx G))∧Below w.heap.size w w':=by
 have hh:=Hp.start w;have hln:=hS.bp SR.len Xk;refine aj (N:=25) (l:=[.slice L n c,.func (.func g) #[] cap.toArray]) Tryz.func57 rfl rfl (by simp) ?_;refine sr (aL (aa (sr (aL (aa (ah (sr (mL ?_))))))));refine aF (mV L n c b _ (hT.hp hh) (hS.ext hh.below) hb hn) ar.out rfl Xk ?_;rintro e_ w9 ⟨A9,c9,rfl,hown_,hb_⟩;refine ⟨_,rfl, ?_⟩;replace hh:=hh.aX (x:=.row _ _ _ _ _ _) hb_ hown_;refine aH (mI (aa (ao ?_)));replace hh:=hh.cU 40 3;refine bK [5,6,7,11,12,13,14,15,16,17,18,19,20,21,22,23] 5 11
  (fun v3 v w'=>∃(i c3:Nat) (A:Option Addr),i≤n∧v=.int .i64 i∧v3=.slice A i c3∧Hp w [.row A i c3 40 3 (ay NR.cells ((b.take i).mapIdx G)),.row A9 n c9 70 6 (ay SR.cells (b.map SR.f))] w')
  (fun _ v _=>n-(intOf v).toNat) ?_ ?_
 ·exact ⟨0,0,none,Xs _,rfl,rfl,hh⟩
 ·clear hh;rintro ρ' v3 v w' ⟨i,c3,A,hi,rfl,rfl,hh⟩;by_cases hlt:i<n
  ·obtain ⟨s,hs⟩:=ak (l:=b) (k:=i) Xj;have ms:=Xt hs;have hfs:(b.map SR.f)[i]?=some s.f:=by rw [Xx,hs];rfl
   obtain ⟨g9,rfl⟩:=hh.cn (i:=1) rfl Xj;refine sr ?_;refine dR ?_;refine fT ?_;refine cq (vs:=[_,_,_,_,_,_]) aM.out rfl (hh.fV (f:=SR.cells) (x:=s.f) (l:=b.map SR.f) (i:=1) rfl SR.len Xk hfs) rfl Xk ?_;refine bP hh ?_;intro b7 w7 hh;refine aI ?_;refine bR hh 0 [_,_,_,_,_,_] ?_;intro ws hh;replace hh:Hp _ (.blk _ _ [_,_,_,_,_,_] _::_) _:=hh;refine aa (al (mL ?_));refine iQ ?_;refine mI ?_;refine cg hh 0 [_,_,_,_,_,_] ?_;refine fI (hg i s _ hlt hs hh.below (hT.hp hh)) ar.out rfl rfl Xk ?_;rintro e_ w20 ⟨rfl,hb_⟩;refine ⟨_,rfl, ?_⟩;replace hh:=hh.ext hb_;refine oF ?_;intro b21 w21 hh;refine Fq ?_;intro A22 c22 w22 hh;simp only [XC,X6] at hh;replace hh:=hh.sub (X9 _ _);refine kM ?_;refine bk (mI (aA (ai ?_)));replace hh:=hh.sub (Xv _ (Xq _ (Xq _ XU)));refine ⟨⟨i+1,c22,A22,Xj,rfl,rfl, ?_⟩,by show n-(i+1)<n-i;omega, ?_⟩
   ·rw [az hs,List.mapIdx_concat,XP,Ys Xj,bD];exact hh
   ·exact dV
  ·obtain rfl:i=n:=Xj;rw [Xz Xj] at hh;exact N4
def SR.half (s:SR) (m:NR) (u:Bool):SR:=if u then ⟨m,s.hi⟩ else ⟨s.lo,m⟩
def kA (k:Int) (i:Nat):Bool:=decide (0<k) && (decide (i<62) && decide (k.fdiv (2^i) % 2=1))
theorem um (i:Nat) (s:SR) (p:Addr) (k:Int) (w:World) (hi:i≤1000000) (hp:w.cell? p=some (.int .i64 k)):
  Calls Tryz.prog 65 #[.int .i64 i,.agg s.cells.toArray,.pointer (some p)] w fun r w'=>r=.returned (.agg #[.bool (cond (kA k i) s.hi s.lo).neg,.string (cond (kA k i) s.hi s.lo).bg,.int .i64 (cond (kA k i) s.hi s.lo).e])∧Below w.heap.size w w':=by
 have hh:=Hp.start w;have hmn:min (i:Int).toNat IntKind.i64.bits=min i 64:=rfl;unfold kA;by_cases h0:0<k
 ·rw [XH h0,aap];by_cases h1:i<62
  ·rw [XH h1,aap];have hm2:min (i:Int).toNat IntKind.i64.bits=i:=by rw [hmn];omega
   by_cases g:k.fdiv (2^i) % 2=1
   ·rw [XH g];refine Ft ?_;refine sr ?_;refine cv hh [_,_,_,_,_,_] ?_;intro b4 w4 hh;refine bP hh ?_;intro b5 w5 hh;refine aa (ah (sr ?_));refine od ?_;refine cj (mB (gT (mI (gT ?_))));refine bf ?_;refine eR ?_;refine mB ?_;refine aD rfl rfl ?_;refine od ?_;refine gT (mI ?_);refine aD rfl rfl ?_;refine KI rfl rfl Xj Xk ?_;refine aD rfl rfl ?_;refine uB rfl rfl Xk ?_;rw [hm2];refine gT ?_;refine cR ?_;refine eR ?_;refine aa (cT (sr (bH ?_)));refine cg hh 1 [_,_,_] ?_;exact J9
   ·rw [XM g];refine Ft ?_;refine sr ?_;refine cv hh [_,_,_,_,_,_] ?_;intro b4 w4 hh;refine bP hh ?_;intro b5 w5 hh;refine aa (ah (sr ?_));refine od ?_;refine cj (mB (gT (mI (gT ?_))));refine bf ?_;refine eR ?_;refine mB ?_;refine aD rfl rfl ?_;refine od ?_;refine gT (mI ?_);refine aD rfl rfl ?_;refine KI rfl rfl Xj Xk ?_;refine aD rfl rfl ?_;refine uB rfl rfl Xk ?_;rw [hm2];refine gT ?_;refine cR ?_;refine eR ?_;refine pQ ?_;refine cg hh 1 [_,_,_] ?_;exact Mc
  ·rw [XM h1,Bool.false_and];refine Ft ?_;refine sr ?_;refine cv hh [_,_,_,_,_,_] ?_;intro b4 w4 hh;refine bP hh ?_;intro b5 w5 hh;refine aa (ah (sr ?_));refine od ?_;refine cj (mB (gT (mI (gT ?_))));refine bf ?_;refine eR ?_;exact QV
 ·rw [XM h0,Bool.false_and];refine Ft ?_;refine sr ?_;refine cv hh [_,_,_,_,_,_] ?_;intro b4 w4 hh;refine bP hh ?_;intro b5 w5 hh;refine aa (ah (sr ?_));refine od ?_;refine cj (mB ?_);refine gS (gS ?_);refine ez ?_;exact QV
theorem wA (L:Option Addr) (n c:Nat) (b:List SR) (k:Int) (w:World) (hT:dN w) (hS:Sl w L n 6 (ay SR.cells b)) (hb:∀s∈b,s.ok) (hn:n≤1000000):
  Calls Tryz.prog 15 #[.slice L n c,.int .i64 k] w fun r w'=>∃A c',r=.returned (.slice A n c')∧w'.ownsRow w.heap.size 40 3 (.slice A n c') n (ay NR.cells (b.mapIdx fun i s=>cond (kA k i) s.f.hi s.f.lo))∧Below w.heap.size w w':=by
 have hh:=Hp.start w;refine aj (N:=8) (l:=[.slice L n c,.int .i64 k]) Tryz.func15 rfl rfl (by simp) ?_;refine sr ?_;refine cv hh [_] ?_;intro b3 w3 hh;refine aL (aa (sr (mL ?_)));refine sa ?_;refine aF (sE L n c b 65 [.pointer (some ⟨b3,0,none⟩)] (fun i s=>cond (kA k i) s.f.hi s.f.lo) _ (hT.hp hh) (hS.ext hh.below) hb hn (fun i s w1 hi _ hw1 _=>um i s.f ⟨b3,0,none⟩ k w1 Xj ((hw1.cell (jL (hh.dE (i:=0) rfl rfl))).trans (hh.dE (i:=0) rfl rfl)))) ar.out rfl Xk ?_;exact P4
def S3 (b:List SR) (h:Int):Option (List SR):=
 if h.fdiv 2<0 then none else (b[(h.fdiv 2).toNat]?).map fun s=>(b.map SR.f).set (h.fdiv 2).toNat (s.f.half (nR s.f.VF) (decide (h % 2=1)))
def V5 (b:List SR) (hs:List Int):Option (List SR):=hs.foldl (fun o h=>o.bind (S3 · h)) (some b)
def SR.at_ (s:SR) (x:Dyadic):Dyadic:=s.lo.d+x*s.wid
theorem CJ (i:Nat) (s:SR) (p:Addr) (M:Option Addr) (m c:Nat) (w:World) (him:m≤i) (hp:w.cell? p=some (.slice M m c)):
  Calls Tryz.prog 58 #[.int .i64 i,.agg s.cells.toArray,.pointer (some p)] w fun r w'=>r=.returned (.agg #[.bool s.lo.neg,.string s.lo.bg,.int .i64 s.lo.e])∧Below w.heap.size w w':=by
 have hh:=Hp.start w;refine aj (N:=24) (l:=[.int .i64 i,.agg s.cells.toArray,.pointer (some p)]) Tryz.func58 rfl rfl (by simp) ?_;refine sr ?_;refine cv hh [_,_,_,_,_,_] ?_;intro b4 w4 hh;refine bP hh ?_;intro b5 w5 hh;refine aa (ah (sr (mI ?_)));refine od ?_;refine aH ?_;refine dL (aa (cT (sr (bH ?_))));refine cg hh 1 [_,_,_] ?_;exact J9
theorem wC (i:Nat) (s:SR) (p:Addr) (M:Option Addr) (m c k:Nat) (t:List NR) (x:NR) (w:World) (hT:dN w) (hs:s.fin k) (hx:x.ok∧Sz k x.d) (hk:k≤1000000) (hm:m≤1000000) (hS:Sl w M m 3 (ay NR.cells t)) (hti:t[i]?=some x) (hp:w.cell? p=some (.slice M m c)):
  Calls Tryz.prog 58 #[.int .i64 i,.agg s.cells.toArray,.pointer (some p)] w fun r w'=>r=.returned (.agg #[.bool (nR (s.at_ x.d)).neg,.string (nR (s.at_ x.d)).bg,.int .i64 (nR (s.at_ x.d)).e])∧Below w.heap.size w w':=by
 have hh:=Hp.start w;have hlm:=hS.bp NR.len Xk;have him:i<m:=by have:=(XE.1 hti).1;omega
 obtain ⟨ad,rfl,hr⟩:=hS.at_ Xj;have hw:=fun w1 hT1=>wy s k w1 hT1 hs Xj;have hmul:=fun A cc w1 hT1 hS1=>dW A 2 cc [x,nR s.wid] w1 hT1 hS1 (by simpa using ⟨hx.1,(SR.Vt hs).ok Xj⟩) (k+1) (by simpa [bI] using ⟨hx.2.mono Xj,SR.Vt hs⟩) Xj Xj;have hpr:fU ([x,nR s.wid].map NR.d)=x.d*s.wid:=by
  show 1*x.d*(nR s.wid).d=_;rw [bI,Zi]
 rw [hpr] at hmul;have hpz:Sz (2*k+1) (x.d*s.wid):=(hx.2.mul (SR.Vt hs)).mono Xj;have hadd:=fun A cc w1 hT1 hS1=>fY A 2 cc [s.lo,nR (x.d*s.wid)] w1 hT1 hS1 (by simpa using ⟨hs.1.ok,hpz.ok Xj⟩) (2*k+1) (by simpa [bI] using ⟨hs.1.sz.mono Xj,hpz⟩) Xj;have hsm:l4 ([s.lo,nR (x.d*s.wid)].map NR.d)=s.at_ x.d:=by
  simp only [XQ,Ye,bI,jA];rfl
 rw [hsm] at hadd;refine aj (N:=24) (l:=[.int .i64 i,.agg s.cells.toArray,.pointer (some p)]) Tryz.func58 rfl rfl (by simp) ?_;refine sr ?_;refine cv hh [_,_,_,_,_,_] ?_;intro b4 w4 hh;refine bP hh ?_;intro b5 w5 hh;refine aa (ah (sr (mI ?_)));refine od ?_;refine aH ?_;refine dL (aa (cF (aq (ai (ah ?_)))));refine a0 10 [[(4,none)],[(12,some 0)],[(2,none)],[(0,none)],[(14,some 2),(15,some 3)],[(16,some 4)],[(4,none)],[(18,some 6)],[(17,some 5),(19,some 7)],[(20,some 8)]] [(9,21),(8,20),(7,19),(6,18),(5,17),(4,16),(3,15),(2,14),(1,13),(0,12)] hh mixed Xl ?_;refine ej ?_;refine fG 1 [_,_,_] ?_;refine qS (fun _ hj=>(hj.hp.below.cell (jL hp)).trans hp) ?_;refine dJ ?_;refine bj (i:=4) (fun ρ1 w1 hj hR=>dA bh.out aM.size (show ρ1 14=Value.slice _ _ _ from hR.1) (show ρ1 15=Value.int _ _ from hR.2.1) Xj Xj) ?_;refine so [_,_,_] (fun _ hj=>(hr.ext hj.hp.below).recAt NR.len hti) ?_;refine fG 1 [_,_,_,_,_,_] ?_;refine dC (fun _ hj=>hw _ (hT.hp hj.hp)) ?_;refine rD [_,_,_,_,_,_] ?_;refine aQ (i:=9) (Is (.agg #[.bool (nR (x.d*s.wid)).neg,.string (nR (x.d*s.wid)).bg,.int .i64 (nR (x.d*s.wid)).e])) Is.ext ?_ ?_
 ·intro ρ1 w1 hj hR;obtain ⟨A20,c20,h20,s20⟩:=hR.1;exact aY rfl (aJ ar.out (av h20 aU)) (hmul A20 c20 _ (hT.hp hj.hp) s20) (fun _ _ hq=>⟨_,hq.1,hq.2,rfl⟩)
 refine aO ?_;intro f W hJ hV;have hb_3:=hJ.bl;obtain ⟨v21,v20,v19,v18,v17,v16,v15,v14,v13,v12,_⟩:=hV;obtain ⟨A20,c20,e20,f20⟩:Rows _ _ _ (f 8) W:=v20;replace hh:=hJ.hp;refine aW (bm (ae v21 (ae e20 (ae v19 (ae v18 (ae v17 (ae v16 (ae v15 (ae v14 (ae v13 (ae v12 aV))))))))))) ?_;dsimp only [cd];clear e20 hJ;refine sj ?_;intro b22 w22 hh;refine bA hh (hadd _ _ _ (hT.hp hh) (hh.aC (i:=0) rfl)) rfl ?_;intro w23 hh;exact Lk
def gU (t:List NR) (i:Nat) (s:SR):NR:=match t[i]? with|none=>s.lo|some x=>nR (s.at_ x.d)
theorem zG (L:Option Addr) (n c:Nat) (b:List SR) (M:Option Addr) (m c2:Nat) (t:List NR) (k:Nat) (w:World) (hT:dN w) (hS:Sl w L n 6 (ay SR.cells b)) (hb:∀s∈b,s.fin k) (hS2:Sl w M m 3 (ay NR.cells t)) (ht:∀x∈t,x.ok∧Sz k x.d) (hn:n≤1000000) (hm:m≤1000000) (hk:k≤1000000):
  Calls Tryz.prog 12 #[.slice L n c,.slice M m c2] w fun r w'=>∃A c',r=.returned (.slice A n c')∧w'.ownsRow w.heap.size 40 3 (.slice A n c') n (ay NR.cells (b.mapIdx fun i s=>gU t i s.f))∧Below w.heap.size w w':=by
 have hh:=Hp.start w;have hlm:=hS2.bp NR.len Xk;refine aj (N:=8) (l:=[.slice L n c,.slice M m c2]) Tryz.func12 rfl rfl (by simp) ?_;refine sr ?_;refine cv hh [_] ?_;intro b3 w3 hh;refine aL (aa (sr (mL ?_)));refine sa ?_;have hp0:w3.cell? ⟨b3,0,none⟩=some (.slice M m c2):=hh.dE (i:=0) rfl rfl;have hcl:∀(i:Nat) (s:SR) (w1:World),i<n→b[i]?=some s→Below w3.heap.size w3 w1→dN w1→Calls Tryz.prog 58 #[.int .i64 i,.agg s.f.cells.toArray,.pointer (some ⟨b3,0,none⟩)] w1 fun r w'=>r=.returned (.agg #[.bool (gU t i s.f).neg,.string (gU t i s.f).bg,.int .i64 (gU t i s.f).e])∧Below w1.heap.size w1 w':=fun i s w1 hi hs hw1 hT1=>by
  have hp:=(hw1.cell (jL hp0)).trans hp0;unfold gU
  rcases hx:t[i]? with _|x
  ·rw [aa0] at hx;exact CJ i s.f ⟨b3,0,none⟩ M m c2 w1 Xj hp
  ·exact wC i s.f ⟨b3,0,none⟩ M m c2 k t x w1 hT1 (SR.PK (hb s (Xt hs)) Xj) (ht x (Xt hx)) hk hm ((hS2.ext hh.below).ext hw1) hx hp
 refine aF (sE L n c b 58 [.pointer (some ⟨b3,0,none⟩)] (fun i s=>gU t i s.f) _ (hT.hp hh) (hS.ext hh.below) (fun s h=>⟨(hb s h).1.ok,(hb s h).2.ok⟩) hn hcl) ar.out rfl Xk ?_;exact P4
section
variable {N:Nat}{ops:Array Oper}{Q:Kq}{ρ:Rf}{w:World}{rest:List Oper}{d:Option Nat}{ty u:TypeId}{pos:String}{af:Array Edge}{x y:Operand}{s:SR}
end
def sp (p:Int×Int):SR:=⟨nR (D p.1 0),nR (D p.2 0)⟩
def PI (p:Int×Int):List Value:=[.int .i64 p.1,.int .i64 p.2]
def SN (a:NR):Bool:=decide ((30:Int)<a.bg.size∨a.e< -200∨200<a.e)
def Vx (s:SR):Bool:=SN s.lo||SN s.hi
def V2 (b:List SR) (p:List NR):Bool:=(decide (8<b.length)||decide (8<p.length))||(b.any Vx||p.any SN)
def W3:List SR:=[sp (0,4),sp (0,2)]
theorem SR.le (s:SR):¬s.H<s.L:=Lf _ _
theorem SR.Wh (s:SR):s.f.L=s.L:=by
 have h:=s.le;show MO (nR s.L).d (nR s.H).d=s.L;rw [bI,bI,MO,Xp h]
theorem SR.Wb (s:SR):s.f.H=s.H:=by
 have h:=s.le;show MM (nR s.L).d (nR s.H).d=s.H;rw [bI,bI,MM];split
 ·rfl
 ·rename_i g;grind
def VK (b:List SR) (a:Nat) (s:SR) (u:Bool):List SR:=(b.map SR.f).set a (s.f.half (nR s.f.VF) u)
variable {Hr:List HE}{m o:Nat}{w0:World}
structure Kg (E:Value→HE) (g o:Nat):Prop where
 ld:∀{w0 w:World}{Hr:List HE}{v:Value},Hp w0 (E v::Hr) w→w.cell? ⟨g,o,none⟩=some v
 st:∀{ro:Mode}{P:Program}{N:Nat}{ops:Array Oper}{Q:Kq}{ρ:Rf}{w w0:World}{rest:List Oper}{Hr:List HE}{ty:TypeId}{pos:String}{af:Array Edge}{t:TypeId}{x y:Operand}{by':Nat}{ag:Bool}{zc:List Value}{v v':Value},
  Hp w0 (E v::Hr) w→ev ρ x=.pointer (some ⟨g,o,none⟩)→ev ρ y=v'→v'.cells= #[v']→cQ P t=some (1,ag,by',zc)→v'.oneCell'=true→
  (∀w',Hp w0 (E v'::Hr) w'→WL ro P N ops Q rest ρ w')→WL ro P N ops Q (⟨none,.store t x y,ty,pos,af,none⟩::rest) ρ w
theorem eH {g i:Nat}{t:TypeId}{xs:List Value} (hi:i<xs.length):Kg (fun v=>.row (some ⟨g,0,none⟩) m c t 1 (xs.set i v)) g (i*1):=by
 refine ⟨fun {w0 w Hr v} hh=> ?_,fun {ro P N ops Q ρ w w0 rest Hr ty pos af t' x y by' ag zc v v'} hh hx hy hc ht h1 k=> ?_⟩
 ·exact hh.eH (i:=0) (o:=i*1) rfl (by rw [XK];exact List.getElem?_set_self hi)
 ·refine bW hh (i:=0) (vs:=[v']) hx rfl hy hc ht rfl (by rw [ZG];omega) (by simp [h1]) fun w' hh'=>k w' ?_;have e:cm (xs.set i v) (i*1) [v']=xs.set i v':=by
   rw [XK,cM (by rw [ZG];exact hi),List.set_set]
  rw [e] at hh';exact hh'
def KT (w:World) (a:Addr):Nat:=match w.cell? a with|some v=>lenOf v|none=>0
def xj (x:Dyadic) (m:Nat):List NR:=(List.range m).map fun i=>nR (x^i)
theorem Kz {x:Dyadic}{i:Nat} (h:i<m):(xj x m)[i]?=some (nR (x^i)):=by
 unfold xj;rw [Xx,Yh h]
 rfl
theorem BW (x:Dyadic) (m:Nat):xj x (m+1)=xj x m++[nR (x^m)]:=by unfold xj;rw [YQ,Yc];rfl
theorem Ew {E:Value→HE}{g:Nat} (hE:Kg E g o) (x:NR) (n m:Nat) (A:Option Addr) (c k:Nat) (w:World) (hT:dN w0) (hh:Hp w0 (E (.slice A m c)::.row A m c 40 3 (ay NR.cells (xj x.d m))::Hr) w) (hn:n≤127) (hm:m≤1000) (hx:x.ok∧Sz k x.d) (hk:k≤1000):
  Calls Tryz.prog 55 #[.pointer (some ⟨g,o,none⟩),.agg #[.bool x.neg,.string x.bg,.int .i64 x.e],.int .i64 n] w fun r w'=>r=.returned (.agg #[.bool (nR (x.d^n)).neg,.string (nR (x.d^n)).bg,.int .i64 (nR (x.d^n)).e])∧∃(A':Option Addr) (m' c':Nat),m'≤1000∧Hp w0 (E (.slice A' m' c')::.row A' m' c' 40 3 (ay NR.cells (xj x.d m'))::Hr) w':=by
 refine aj (N:=61) (l:=[.pointer (some ⟨g,o,none⟩),.agg #[.bool x.neg,.string x.bg,.int .i64 x.e],.int .i64 n]) Tryz.func55 rfl rfl (by simp) ?_;refine sr ?_;refine cv hh [_,_,_] ?_;intro b4 w4 hh;refine bP hh ?_;intro b6 w6 hh;refine aa (ah (sr (mP ?_)));refine kr rfl Xk ?_;refine kz ?_;refine bU aM.out rfl (hE.ld (hh.sub (.cons _ (.cons _ (Yo _))))) Xk ?_;have hpow:∀q,q≤127→Sz 128000 (x.d^q):=fun q hq=>by
  have h1:=hx.2.pow q;exact h1.mono (by have:=YT hk hq;omega)
 by_cases h0:m=0
 ·subst h0;refine aH ?_;refine cR (aa (cT ?_));refine dy [] [0] [0,0,2,6,14,0,32,126,255,511,1023] 7 [[(0,none)],[(0,none)],[(14,some 1)],[(15,some 2)],[(16,some 3)],[],[(18,some 5)]] [(6,19),(5,18),(4,17),(3,16),(2,15),(1,14),(0,13)] hh mixed Xl dO rfl (by repeat (first|exact cu|refine bQ ?_|refine ct ?_)) ?_;refine Tf ?_;refine Tf ?_;refine UO ?_;refine IU ?_;refine GO ?_;refine dC (fun _ hj=>ja 1 _ (hT.hp hj.hp) Xk Xk) ?_;refine rD [_,_,_] ?_;refine aO ?_;intro f W hJ hV _;have hb_2:=hJ.bl;obtain ⟨v19,v18,v17,v16,v15,v14,v13,_⟩:=hV;obtain ⟨A19,c19,e19,f19⟩:Rows _ _ _ (f 6) W:=v19;replace hh:=hJ.hp;refine aW (bm (ae e19 (ae v18 (ae v17 (ae v16 (ae v15 (ae v14 (ae v13 aV)))))))) ?_;dsimp only [cd];clear e19 hJ;refine cw hh (i:=3) rfl rfl rfl (f19) bh.out aM.out rfl Xk (by first|rfl|exact dv _|exact cY _|exact bF _|exact bT NR.one _) Xj Xj Xk ?_;intro A20 c20 w20 hh;simp only [XC,X6] at hh;refine kr rfl Xk ?_;refine kz ?_;replace hh:=hh.perm (XX (l₁:=[_,_]));simp only [Xw,Xu] at hh
  refine hE.st (v':=.slice A20 (0+1) c20) hh rfl rfl rfl aM.out rfl ?_;intro ws hh;replace hh:=hh.perm (XX (l₁:=[_,_]));simp only [Xw,Xu] at hh;replace hh:=hh.perm (XX (l₁:=[_,_]));simp only [Xw,Xu] at hh;refine aa (ah (ao ?_));have e0:ay NR.cells (xj x.d 0)++[.bool (nR ((1:Int):Dyadic)).neg,.string (nR ((1:Int):Dyadic)).bg,.int .i64 (nR ((1:Int):Dyadic)).e]=ay NR.cells (xj x.d (0+1)):=by rw [BW,bD,iC,ZS];rfl
  rw [e0] at hh;refine vq zL3
   (fun w'=>∃(m:Nat) (A:Option Addr) (c:Nat),0<m∧m≤1000∧Hp w0 (.blk b6 40 [.bool false,.string (ByteArray.mk #[]),.int .i64 0] (0,0)::.blk b4 40 [.bool x.neg,.string x.bg,.int .i64 x.e] (0,0)::E (.slice A m c)::.row A m c 40 3 (ay NR.cells (xj x.d m))::Hr) w')
   (fun w'=>n+1-KT w' ⟨g,o,none⟩) ?_ ?_
  ·exact ⟨0+1,_,_,Xk,Xk,hh⟩
  ·exact PW
 ·refine aH ?_;refine cR (aa (cF (aq (ai (ah (ao ?_))))));refine vq zL3
   (fun w'=>∃(m:Nat) (A:Option Addr) (c:Nat),0<m∧m≤1000∧Hp w0 (.blk b6 40 [.bool false,.string (ByteArray.mk #[]),.int .i64 0] (0,0)::.blk b4 40 [.bool x.neg,.string x.bg,.int .i64 x.e] (0,0)::E (.slice A m c)::.row A m c 40 3 (ay NR.cells (xj x.d m))::Hr) w')
   (fun w'=>n+1-KT w' ⟨g,o,none⟩) ?_ ?_
  ·exact ⟨m,A,c,Xj,hm,hh⟩
  ·exact PW
variable {K:Value→World→Prop}{ag:Bool}{b by' fuel j:Nat}{cs vs zc:List Value}{fz:Nat×Nat}{ops:Array Oper}{parts:Array (Nat×Operand)}{pos:String}{ps:List (Nat×Value)}{ρ:Rf}
section
variable {P:Program}{N:Nat}{Q:Kq}{ρ:Rf}{w:World}
theorem K7 {L:Array Bool} (hne:Region.ready .any ops L≠[])
  (h:∀i∈Region.ready .any ops L,∃o d,ops[i]?=some o∧o.dst=some d∧d<N∧OG P ops o ρ w fun v w'=>WA P N ops Q fuel (L.setIfInBounds i true) (cG ρ d v) w'):WA P N ops Q (fuel+1) L ρ w:=by
 refine ⟨fun a hf=>wpAny_all rfl hne fun i hi=> ?_⟩;obtain ⟨o,d,ho,hd,hN,hg⟩:=h i hi;unfold wpOp;rw [ho];simp only [];exact hg.out a (fun a w=>wpAny P .any ops (lift N Q) fuel (L.setIfInBounds i true) a w) (lift N Q) hf.at_ fun v w' hk=>by
  rw [hd];exact hk.out _ (hf.put hN v)
def waits (o:Oper) (j:Nat):Bool:=o.after.toList.any fun e=>(e.on==j) && Region.binds .any e
abbrev Lv:=Nat→Value→List HE→Prop
def Spec (P:Program) (l:List Oper) (w0:World) (ρ:Rf) (dst:Nat→Nat) (m:Nat) (S:Lv) (pre:Nat→List HE) (rest:List HE) (i:Nat):Prop:=
 ∃o,l[i]?=some o∧∀(ρ1:Rf) (w1:World) (F:List HE) (R:Nat→List HE),(∀s,(∀j,j<m→dst j≠s)→ρ1 s=ρ s)→(∀j,waits o j=true→S j (ρ1 (dst j)) (R j)∧∀x∈R j,x∈F)→(∀x∈rest,x∈F)→Hp w0 (pre i++F) w1→
  OG P l.toArray o ρ1 w1 fun v w2=>∃R',S i v R'∧Hp w0 (R'++F) w2
def IP:Nat→(Nat→Prop)→Prop
 |0,_=>True
 |k+1,p=>IP k p∧p k
theorem MK:∀{k:Nat}{p:Nat→Prop},(∀i,i<k→p i)→IP k p
 |0,_,_=>trivial
 |k+1,_,h=>⟨MK fun i hi=>h i Xj,h k Xj⟩
theorem oW (n j:Nat):(Array.replicate n false).getD j false=false:=by
 rw [Yn,aaY];split<;>rfl
theorem IP.get:∀{k:Nat}{p:Nat→Prop},IP k p→∀i,i<k→p i
 |k+1,p,h,i,hi=>by
  by_cases e:i=k
  ·rw [e];exact h.2
  ·exact IP.get h.1 i Xj
def P7 (l:List Oper) (m N:Nat) (dst:Nat→Nat):Bool:=
 decide (m≤l.length) && ((List.range m).all fun i=>match l[i]? with|some o=>(o.dst==some (dst i)) && decide (dst i<N) && (o.after.toList.all fun e=> !Region.binds .any e||decide (e.on<i))|none=>false) &&
 decide ((List.range m).map dst).Nodup &&
 ((List.range (l.length-m)).all fun k=>match l[m+k]? with|some o=>(List.range m).all fun j=>waits o j|none=>false) &&
 ((List.range (l.length-m)).all fun k=>Region.ready .any l.toArray (gR l.length (m+k))==[m+k]) && (Region.ready .any l.toArray (gR l.length l.length)==[])
theorem xx {l:List Oper}{L:Array Bool}{i:Nat}:i∈Region.ready .any l.toArray L↔i<l.length∧L.getD i true=false∧∃o,l[i]?=some o∧∀e∈o.after,Region.binds .any e=true→L.getD e.on false=true:=by
 unfold Region.ready;rw [YC,XT,show l.toArray.size=l.length by simp];constructor
 ·rintro ⟨h1,h2⟩;have ho:l.toArray[i]?=some l[i]:=by simp [h1]
  rw [ho] at h2;simp only [Za,YF,XF,Z1] at h2;refine ⟨h1,h2.1,l[i],by simp,fun e he hb=> ?_⟩;have:=aaf.1 h2.2 e he;simpa [hb] using this
 ·rintro ⟨h1,h2,o,ho,h3⟩;refine ⟨h1, ?_⟩;rw [show l.toArray[i]?=some o by simpa using ho];exact P9
theorem yO {L:Array Bool} (h:¬∀i,i<m→L.getD i false=true):∃i,i<m∧L.getD i false=false∧∀j,j<i→L.getD j false=true:=by
 induction m with
 |zero=>exact absurd (fun i hi=>by omega) h
 |succ m ih=>
  by_cases h1:∀i,i<m→L.getD i false=true
  ·refine ⟨m,Xj, ?_,h1⟩
   cases hc:L.getD m false with
   |false=>rfl
   |true=>
    refine absurd (fun i hi=> ?_) h;by_cases e:i=m
    ·rw [e];exact hc
    ·exact h1 i Xj
  ·obtain ⟨i,h2,h3⟩:=ih h1;exact ⟨i,Xj,h3⟩
theorem vu {R:Nat→List HE}{i:Nat} (h:i<m) (rest:List HE):((List.range m).flatMap R++rest).Perm (R i++(((List.range m).filter (· !=i)).flatMap R++rest)):=by
 have h1:∀m,i<m→((List.range m).flatMap R).Perm (R i++((List.range m).filter (· !=i)).flatMap R):=fun m=>by
  induction m with
  |zero=>intro h;omega
  |succ m ih=>
   intro h;rw [YQ,ZC,ZQ,ZC];by_cases e:i=m
   ·subst e;have h2:(List.range i).filter (· !=i)=List.range i:=aaB.2 fun j hj=>by have:=XT.1 hj;simp;omega
    rw [h2,show [i].filter (· !=i)=[] by simp];simp only [Zu,List.flatMap_nil,XZ];exact List.perm_append_comm
   ·rw [show [m].filter (· !=i)=[m] by simp;omega,←Ya];exact (ih Xj).append_right _
 rw [←Ya];exact (h1 m h).append_right _
theorem Lo {ρ':Rf}{f:Nat→Value}{ds:List (Nat×Nat)} (h1:∀p∈ds,ρ' p.2=f p.1) (h2:∀s,(∀p∈ds,p.2≠s)→ρ' s=ρ s) (hn:(ds.map (·.2)).Nodup):ρ'=jT ρ f ds:=funext fun s=>by
 obtain ⟨h3,h4⟩:=kG (ρ:=ρ) f ds s hn;by_cases h:∃p∈ds,p.2=s
 ·obtain ⟨p,hp,rfl⟩:=h;rw [h3 p.1 hp];exact h1 p hp
 ·rw [h4 fun i hi=>h ⟨(i,s),hi,rfl⟩];exact h2 s fun p hp e=>h ⟨p,hp,e⟩
theorem OG.imp {o:Oper}{K':Value→World→Prop} (h:OG P ops o ρ w K) (hk:∀v w',K v w'→K' v w'):OG P ops o ρ w K':=⟨fun a next Q ha hn=>h.out a next Q ha fun v w' hv=>hn v w' (hk v w' hv)⟩
theorem kL {L:Array Bool}{i:Nat} (h:i<L.size):(L.setIfInBounds i true).getD j false=(decide (j=i)||L.getD j false):=by
 rw [Yn,Yn,Array.getElem?_setIfInBounds];by_cases e:i=j
 ·subst e;simp [h]
 ·rw [Xp e,XM (fun e2=>e e2.symm),X2]
theorem Ih {L:Array Bool}{i:Nat} (h:i<L.size) (hu:L.getD i false=false):∀m,i<m→(List.range m).countP (fun j=>(L.setIfInBounds i true).getD j false)=(List.range m).countP (fun j=>L.getD j false)+1:=by
 have hlow:∀m,m≤i→(List.range m).countP (fun j=>(L.setIfInBounds i true).getD j false)=(List.range m).countP (fun j=>L.getD j false):=fun m hm=>by
  refine List.countP_congr fun j hj=> ?_;have:=XT.1 hj;rw [kL h,XM Xj,X2]
 intro m
 induction m with
 |zero=>intro h;omega
 |succ m ih=>
  intro hm;rw [YQ,List.countP_append,List.countP_append];by_cases e:i=m
  ·subst e;rw [hlow i (Xr _),aaU,aaU,kL h,hu];simp
  ·rw [ih Xj,aaU,aaU,kL h,XM Xj,X2];omega
theorem DB {L:Array Bool} (h:∀i,i<m→L.getD i false=true):(List.range m).countP (fun j=>L.getD j false)=m:=by
 rw [List.countP_eq_length.2 fun j hj=>h j (XT.1 hj),YO]
theorem sB {α β:Type}{f g:α→List β}:∀{l:List α},(∀x∈l,f x=g x)→l.flatMap f=l.flatMap g
 |[],_=>rfl
 |x::l,h=>by rw [Zu,Zu,h x XB,sB fun y hy=>h y (XD _ hy)]
theorem DQ {p:Nat→Bool} (h:(List.range m).all p=true) {i:Nat} (hi:i<m):p i=true:=XI.1 h i (XT.2 hi)
theorem RF {l:List Oper}{dst:Nat→Nat}{S:Lv}{pre:Nat→List HE}{rest:List HE}{ds:List (Nat×Nat)} (hds:∀p∈ds,p.1<m∧p.2=dst p.1) (hds2:∀i,i<m→(i,dst i)∈ds) (hnd:(ds.map (·.2)).Nodup) (hinj:∀i j,i<m→j<m→dst i=dst j→i=j)
  (hml:m≤l.length) (hop:∀i,i<m→∃o,l[i]?=some o∧o.dst=some (dst i)∧dst i<N∧∀e∈o.after,Region.binds .any e=true→e.on<i)
  (htl:∀k,m≤k→k<l.length→∃o,l[k]?=some o∧∀j,j<m→waits o j=true)
  (hrd:((List.range (l.length-m)).all fun k=>Region.ready .any l.toArray (gR l.length (m+k))==[m+k])=true) (hend:Region.ready .any l.toArray (gR l.length l.length)=[])
  (hs:IP m (Spec P l w0 ρ dst m S pre rest))
  (hfin:∀(f:Nat→Value) (R:Nat→List HE) (w':World),(∀i,i<m→S i (f i) (R i))→Hp w0 ((List.range m).flatMap R++rest) w'→WL .plain P N l.toArray Q (l.drop m) (jT ρ f ds) w'):
  ∀(fuel:Nat) (L:Array Bool) (ρ1:Rf) (w1:World) (R:Nat→List HE),L.size=l.length→(∀j,m≤j→L.getD j false=false)→fuel+(List.range m).countP (fun j=>L.getD j false)=l.length→
   (∀s,(∀j,j<m→L.getD j false=true→dst j≠s)→ρ1 s=ρ s)→(∀j,j<m→L.getD j false=true→S j (ρ1 (dst j)) (R j))→(∀j,j<m→L.getD j false=false→R j=pre j)→Hp w0 ((List.range m).flatMap R++rest) w1→WA P N l.toArray Q fuel L ρ1 w1:=by
 intro fuel
 induction fuel with
 |zero=>
  intro L ρ1 w1 R hsz htail hcnt hag hS hpre hh;have hall:∀i,i<m→L.getD i false=true:=by
   have h1:(List.range m).countP (fun j=>L.getD j false)≤m:=by have:=List.countP_le_length (p:=fun j=>L.getD j false) (l:=List.range m);rwa [YO] at this
   have h2:(List.range m).countP (fun j=>L.getD j false)=(List.range m).length:=by rw [YO];omega
   intro i hi;exact List.countP_eq_length.1 h2 i (XT.2 hi)
  exact Th
 |succ fuel ih=>
  intro L ρ1 w1 R hsz htail hcnt hag hS hpre hh;by_cases hall:∀i,i<m→L.getD i false=true
  ·exact Th
  ·have und:∀i,i<l.length→(L.getD i true=false↔L.getD i false=false):=fun i hi=>by
    have h1:i<L.size:=by rw [hsz];exact hi
    rw [Yn,Yn,Zy h1];simp
   refine K7 (fun hnil=> ?_) fun i hi=> ?_
   ·obtain ⟨i,h1,h2,h3⟩:=yO hall;obtain ⟨o,ho,_,_,he⟩:=hop i h1;have:i∈Region.ready .any l.toArray L:=xx.2 ⟨Xj,(und i Xj).2 h2,o,ho,fun e he1 he2=>h3 _ (he e he1 he2)⟩;rw [hnil] at this
    cases this
   ·obtain ⟨hil,hun,o,ho,hed⟩:=xx.1 hi;rw [und i hil] at hun;have hwait:∀j,waits o j=true→L.getD j false=true:=fun j hj=>by
     obtain ⟨e,he1,he2⟩:=Zb.1 hj;rw [XF,YA] at he2;rw [←he2.1];exact hed e (by simpa using he1) he2.2
    have him:i<m:=by
     rcases Yb i m with h|h
     ·exact h
     ·obtain ⟨o2,ho2,h2⟩:=htl i h hil;rw [ho] at ho2
      cases ho2
      exact absurd (fun j hj=>hwait j (h2 j hj)) hall
    obtain ⟨o2,ho2,hd,hN,hlt⟩:=hop i him;rw [ho] at ho2
    cases ho2
    obtain ⟨o3,ho3,hsp⟩:=hs.get i him;rw [ho] at ho3
    cases ho3
    refine ⟨o,dst i,by simpa using ho,hd,hN, ?_⟩;have hiL:i<L.size:=by rw [hsz];exact hil
    refine (hsp ρ1 w1 (((List.range m).filter (· !=i)).flatMap R++rest) R (fun s hs2=>hag s fun j hj _=>hs2 j hj) (fun j hj=> ?_) (fun x hx=>Y2 _ hx) ?_).imp fun v w' ⟨R',h1,h2⟩=> ?_
    ·have hjd:=hwait j hj;have hjm:j<m:=by
      obtain ⟨e,he1,he2⟩:=Zb.1 hj;rw [XF,YA] at he2;have:=hlt e (by simpa using he1) he2.2;omega
     refine ⟨hS j hjm hjd,fun x hx=>Y7 _ (Zq.2 ⟨j,YC.2 ⟨XT.2 hjm, ?_⟩,hx⟩)⟩;have:j≠i:=fun e=>by rw [e,hun] at hjd;cases hjd
     simpa using this
    ·rw [←hpre i him hun];exact hh.perm (vu him rest)
    ·refine ih _ _ _ (fun j=>if j=i then R' else R j) (by rw [Array.size_setIfInBounds];exact hsz) (fun j hj=> ?_) (by rw [Ih hiL hun m him];omega) (fun s hs2=> ?_) (fun j hj hjd=> ?_) (fun j hj hjd=> ?_) ?_
     ·rw [kL hiL,XM Xj,X2];exact htail j hj
     ·have hne:dst i≠s:=hs2 i him (by rw [kL hiL];simp);rw [bo _ (fun e=>hne e.symm)];exact hag s fun j hj hjd=>hs2 j hj (by rw [kL hiL,hjd];simp)
     ·by_cases e:j=i
      ·subst e;rw [Xo rfl,gJ];exact h1
      ·rw [kL hiL,XM e,X2] at hjd;rw [Xp e,bo _ (fun e2=>e (hinj j i hj him e2))];exact hS j hj hjd
     ·rw [kL hiL] at hjd;have e:j≠i:=fun e=>by rw [e] at hjd;simp at hjd
      rw [XM e,X2] at hjd;rw [Xp e];exact hpre j hj hjd
     ·refine Hp.perm h2 (List.Perm.trans ?_ (vu (R:=fun j=>if j=i then R' else R j) him rest).symm);rw [Xo rfl];have:((List.range m).filter (· !=i)).flatMap (fun j=>if j=i then R' else R j)=((List.range m).filter (· !=i)).flatMap R:=by
       refine sB fun j hj=> ?_;have:=(YC.1 hj).2;rw [Xp (by simpa using this)]
      rw [this]
theorem SX {id:Nat}{l:List Oper}{H:List HE} (m:Nat) (dst:Nat→Nat) (S:Lv) (pre:Nat→List HE) (rest:List HE) (ds:List (Nat×Nat)) (hh:Hp w0 H w) (hH:H.Perm ((List.range m).flatMap pre++rest)) (hm:P.follows .mixedOrders=true)
  (hok:P7 l m N dst=true) (hds:ds=((List.range m).map fun i=>(i,dst i)).reverse) (hs:IP m (Spec P l w0 ρ dst m S pre rest))
  (hfin:∀(f:Nat→Value) (R:Nat→List HE) (w':World),IP m (fun i=>S i (f i) (R i))→Hp w0 ((List.range m).flatMap R++rest) w'→WL .plain P N l.toArray Q (l.drop m) (jT ρ f ds) w'):WC .plain P N (.region id l.toArray true) Q ρ w:=by
 refine nO hh hm fun w' hj=> ?_;simp only [P7,XF,XN] at hok;obtain ⟨⟨⟨⟨⟨hml,h1⟩,h2⟩,h3⟩,h4⟩,h5⟩:=hok;have hop:∀i,i<m→∃o,l[i]?=some o∧o.dst=some (dst i)∧dst i<N∧∀e∈o.after,Region.binds .any e=true→e.on<i:=fun i hi=>by
  have:=DQ h1 hi;split at this
  ·rename_i o ho;simp only [XF,YA,XN] at this;refine ⟨o,ho,this.1.1,this.1.2,fun e he hb=> ?_⟩;have h6:=XI.1 this.2 e (by simpa using he);simpa [hb] using h6
  ·cases this
 have hmem:∀i,i<m→(i,dst i)∈ds:=fun i hi=>by rw [hds,Zt];exact XG.2 ⟨i,XT.2 hi,rfl⟩
 have hmap:ds.map (·.2)=((List.range m).map dst).reverse:=by rw [hds,List.map_reverse,Ym];rfl
 refine RF (w0:=w0) (pre:=pre) (rest:=rest) (S:=S) (ds:=ds) (fun p hp=> ?_) hmem (by rw [hmap];exact (List.reverse_perm _).nodup_iff.2 h2) (fun i j hi hj he=> ?_) hml hop (fun k hk hkl=> ?_) h4 (eq_of_beq h5) hs (fun f R w2 hS hh2=>hfin f R w2 (MK hS) hh2) l.length (Array.replicate l.length false) ρ w' pre (by simp) (fun j _=> ?_) ?_ (fun s _=>rfl) (fun j hj hjd=> ?_) (fun j _ _=>rfl) (Hp.perm hj.hp hH)
 ·rw [hds,Zt] at hp;obtain ⟨i,hi,rfl⟩:=XG.1 hp;exact ⟨XT.1 hi,rfl⟩
 ·have hi2:((List.range m).map dst)[i]?=some (dst i):=by rw [Xx,Yh hi];rfl
  have hj2:((List.range m).map dst)[j]?=some (dst j):=by rw [Xx,Yh hj];rfl
  exact (List.getElem?_inj (by rw [XA,YO];exact hi) h2).1 (by rw [hi2,hj2,he])
 ·have:=DQ h3 (show k-m<l.length-m by omega);rw [show m+(k-m)=k by omega] at this;split at this
  ·rename_i o ho;exact ⟨o,ho,fun j hj=>DQ this hj⟩
  ·cases this
 ·exact oW _ _
 ·rw [List.countP_eq_zero.2 fun j _=>by rw [oW];decide]
  rfl
 ·rw [oW] at hjd
  cases hjd
def wi (v:Value):Value→List HE→Prop:=fun x R=>x=v∧R=[]
theorem Hc {H:List HE} (hh:Hp w0 H w) {d:Option Nat}{ty:TypeId}{af:Array Edge}{t e:TypeId}{len sz:Nat} (ht:P.underlying t=some (.slice e)) (hte:cQ P e=some (sz,ag,by',zc))
  (hp:wh ρ parts.toList=ps) (hzl:zc.length=sz) (hf:ky (fun i=>some (i*sz,sz)) (eZ len zc) ps=some cs) (h0:¬len*sz=0) (hle:len≤1000) (hsl:len*sz≤16777216) (hl:cs.length=len*sz)
  (hk:∀b w2,Hp w0 (.row (some ⟨b,0,none⟩) len len e sz cs::H) w2→K (.slice (some ⟨b,0,none⟩) len len) w2):OG P ops ⟨d,.buildSlice t len parts,ty,pos,af,none⟩ ρ w K:=by
 obtain ⟨z,hz,hzc⟩:=dx (w:=w) hte;refine db rfl (w':=w.alloc (.cells cs.toArray e)) (v:=.slice (some ⟨w.heap.size,0,none⟩) len len) ?_ (hk _ _ (hh.zj e sz len cs hl (by unfold maxLen;omega)));exact Oh
theorem Hp.RT {H:List HE} (h:Hp w0 H w) {t:TypeId} (hm:HE.blk b t cs fz∈H) (hv:(cs.drop o).take n=vs):Rd w ⟨b,o,none⟩ vs:=let ⟨_,hi⟩:=YJ.1 hm;h.bY hi hv
theorem Hp.Ss {H:List HE} (h:Hp w0 H w) {A:Option Addr}{sz:Nat}{t:TypeId}{xs:List Value} (hm:HE.row A n c t sz xs∈H):Sl w A n sz xs:=let ⟨_,hi⟩:=YJ.1 hm;h.aC hi
end
def CU (xs:List NR) (m:ByteArray) (k:Nat):Dyadic:=match xs[k]?,m.data.toList[k]? with|some x,some e=>x.d^e.toNat|_,_=>1
def BN (c:Dyadic) (xs:List NR) (m:ByteArray):Nat→Dyadic
 |0=>c
 |k+1=>BN c xs m k*CU xs m k
def sX (xs:List NR) (ts:List TR):Nat→Dyadic
 |0=>0
 |i+1=>sX xs ts i+(match ts[i]? with|some t=>BN t.c.d xs t.m xs.length|none=>0)
def tV (p:PX) (n:Nat):Int:=if p.e=0 then (if (n:Int)=p.v then 0 else 1) else p.e
def vg (p:PX) (xs:List NR):NR:=if tV p xs.length=0 then nR (sX xs p.ts p.ts.length) else nR 0
abbrev IQ:=Option Addr×Nat×Nat
def CR (ks:List IQ):List Value:=ks.map fun k=>.slice k.1 k.2.1 k.2.2
def UT (y:NR) (k:IQ):HE:=.row k.1 k.2.1 k.2.2 40 3 (ay NR.cells (xj y.d k.2.1))
def HF (ys:List NR) (ks:List IQ):List HE:=List.zipWith UT ys ks
theorem GF {w0 w:World}{H:List HE} (hh:Hp w0 H w):∀ys:List NR,Hp w0 (HF ys (List.replicate ys.length (none,0,0))++H) w
 |[]=>hh
 |y::ys=>(GF hh ys).cU 40 3
theorem Oa (ks:List IQ):(CR ks).length=ks.length:=XA ..
theorem M4 (ks:List IQ) (i:Nat) (k:IQ):CR (ks.set i k)=(CR ks).set i (.slice k.1 k.2.1 k.2.2):=by unfold CR;rw [Zv]
theorem rN {α:Type}:∀{l:List α}{i:Nat}{a:α},l[i]?=some a→l.Perm (a::l.eraseIdx i)
 |[],i,a,h=>by cases h
 |b::l,0,a,h=>by cases h;exact List.Perm.refl _
 |b::l,i+1,a,h=>((rN (l:=l) (i:=i) h).cons b).trans (.swap _ _ _)
theorem Me {ys:List NR}{ks:List IQ}{i:Nat}{y:NR}{k:IQ} (hy:ys[i]?=some y) (hk:ks[i]?=some k):(HF ys ks)[i]?=some (UT y k):=by
 unfold HF;rw [List.getElem?_zipWith,hy,hk]
theorem wO:∀{ys:List NR}{ks:List IQ}{i:Nat}{k:IQ},(HF ys (ks.set i k)).eraseIdx i=(HF ys ks).eraseIdx i
 |[],_,_,_=>by unfold HF;simp
 |_::_,[],_,_=>by unfold HF;simp
 |y::ys,k0::ks,0,k=>rfl
 |y::ys,k0::ks,i+1,k=>by
  show UT y k0::(HF ys (ks.set i k)).eraseIdx i=UT y k0::(HF ys ks).eraseIdx i;rw [wO]
theorem Nm {xs:List NR}{m:ByteArray}{x:NR}{e:UInt8} (hx:xs[k]?=some x) (he:m.data.toList[k]?=some e):CU xs m k=x.d^e.toNat:=by
 unfold CU;rw [hx,he]
theorem zZ {xs:List NR}{m:ByteArray}{c:Dyadic}{q:Nat} (hc:Sz q c) (hq:q≤1000) (hx:∀x∈xs,Sz q x.d) (hm:eK m.data.toList=true):∀k,Sz (q+128000*k) (BN c xs m k)
 |0=>hc
 |k+1=>by
  refine ((zZ hc hq hx hm k).mul (l:=128000) ?_).mono Xj;unfold CU;split
  ·rename_i x e h1 h2;have he:=nI hm h2;exact ((hx x (Xt h1)).pow e.toNat).mono (by have:=YT hq (show e.toNat≤127 by omega);omega)
  ·exact Sz.one.mono Xj
theorem Ms {xs:List NR}{ts:List TR}{q:Nat} (hq:q≤1000) (hx:∀x∈xs,Sz q x.d) (ht:iT q ts) (hm:∀t∈ts,eK t.m.data.toList=true) (hl:xs.length≤12):∀i,Sz (1600000+i) (sX xs ts i)
 |0=>Sz.zero _
 |i+1=>by
  show Sz (1600000+i+1) (sX xs ts i+_);refine (Ms hq hx ht hm hl i).add ?_;split
  ·rename_i t h;exact (zZ (ht t (Xt h)).2 hq hx (hm t (Xt h)) xs.length).mono Xj
  ·exact Sz.zero _
def Vk (w:World) (b:Nat):Nat:=match w.heap[b]? with|some (.stringIter _ p)=>p|_=>0
theorem Kh {H:List HE} (hh:Hp w0 H w) {i p:Nat}{s:ByteArray} (hi:H[i]?=some (.it b s p)):Vk w b=p:=by
 unfold Vk;rw [(hh.at_ hi).2]
theorem su (p:PX) (ys:List NR) (xA:Option Addr) (xn xc:Nat) (k:Nat) (w:World) (hT:dN w) (hp:p.at_ w) (lp:p.k8 k) (hS:Sl w xA xn 3 (ay NR.cells ys)) (hl:ys.length=xn) (hy:∀y∈ys,y.ok∧Sz k y.d) (hk:k≤1000):
  Calls Tryz.prog 11 #[.agg #[.int .i64 p.v,.slice p.A p.n p.c],.slice xA xn xc] w fun r w'=>r=.returned (.tuple #[.agg #[.bool (vg p ys).neg,.string (vg p ys).bg,.int .i64 (vg p ys).e],.int .i64 (tV p xn)])∧Below w.heap.size w w':=by
 have hh:=Hp.start w;subst hl;have hck:=fun w1 hT1 hb=>lO p k w1 hT1 (hp.ext hb) lp;unfold vg tV;by_cases h0:p.e=0
 ·rw [h0] at hck;simp only [Xo h0];by_cases h1:(ys.length:Int)=p.v
  ·simp only [Xo h1];obtain ⟨hf,h4,hmy,_⟩:=cK h0;replace hf:=gK.1 hf;obtain ⟨pv,pA,pn,pc,ts⟩:=p;replace hpl:ts.length=pn:=hp.ln;replace hp:Sl w pA pn 4 (ay TR.cells ts):=hp;have okp:iT k ts:=lp.ok;have szp:∀t∈ts,t.m.size≤100000:=lp.sz;replace hmy:∀t∈ts,fa pv t=true:=hmy;replace h4:ts.length≤4096:=h4;replace hf:0≤pv∧pv≤12:=hf;replace h1:(ys.length:Int)=pv:=h1;subst h1;have hyl:ys.length≤12:=Xj;have wc:∀i,i≤4096→Sz 1700000 (sX ys ts i):=fun i hi=>(Ms hk (fun y h=>(hy y h).2) okp (fun t h=>(Zg.1 (hmy t h)).1) hyl i).mono Xj;show Calls _ _ _ _ fun r w'=>r=.returned (.tuple #[.agg #[.bool (nR (sX ys ts ts.length)).neg,.string (nR (sX ys ts ts.length)).bg,.int .i64 (nR (sX ys ts ts.length)).e],.int .i64 0])∧Below w.heap.size w w';refine aj (N:=64) (l:=[.agg #[.int .i64 ys.length,.slice pA pn pc],.slice xA ys.length xc]) Tryz.func11 rfl rfl (by simp) ?_;refine sr ?_;refine cv hh [_,_] ?_;intro b2 w2 hh;refine bP hh ?_;intro b4 w4 hh;refine aI (aa (ah (sr ?_)));refine cg hh 1 [_,_] ?_;refine eu ?_;intro w15 hh;refine aI (aa (sr (mI ?_)));refine n9 ?_
   refine bE hh 1 ?_;refine cJ (aa (cF (aq (ai (sr (mL (aH ?_)))))));refine fO (n:=ys.length) hh rfl rfl Xj Xj bh.out aM.out rfl Xj Xj Xk ?_;intro b28 w28 hh;refine aL (aa (sr ?_));refine bP hh ?_;intro b8 w8 hh;refine aa (ah (sr (bH ?_)));refine bE hh 3 ?_;refine aH (mI (aa (ao ?_)));rw [pY,show List.replicate ys.length (Value.slice none 0 0)=CR (List.replicate ys.length (none,0,0)) by unfold CR;rw [List.map_replicate]] at hh;replace hh:=(GF hh ys).perm List.perm_append_comm;simp only [Xw,Xu] at hh;refine aR [10,11,12,13,32,33,34,35,36,37,38,39,40,41,42,43,44,45,46,47,48,49,50,51,52,53,54,55,56,57,58,59,60,61,62] 32
    (fun v w'=>∃(i:Nat) (ks:List IQ),i≤pn∧v=.int .i64 i∧ks.length=ys.length∧(∀q∈ks,q.2.1≤1000)∧Hp w (.blk b8 40 [.bool (nR (sX ys ts i)).neg,.string (nR (sX ys ts i)).bg,.int .i64 (nR (sX ys ts i)).e] (0,0)::.row (some ⟨b28,0,none⟩) ys.length ys.length 96 1 (CR ks)::.blk b4 40 [.bool false,.string (ByteArray.mk #[]),.int .i64 0] (0,0)::.blk b2 24 [.int .i64 ys.length,.slice pA pn pc] (0,0)::HF ys ks) w')
    (fun v _=>pn-(intOf v).toNat) ?_ ?_
   ·exact ⟨0,_,Xs _,rfl,YP,fun q hq=>by rw [List.eq_of_mem_replicate hq];exact Xs _,hh⟩
   ·clear hh;rintro ρ' v w' ⟨i,ks,hi,rfl,hkl,hkm,hh⟩;by_cases hlt:i<pn
    ·obtain ⟨x,hx⟩:=ak (l:=ts) (k:=i) Xj;obtain ⟨ad,rfl,hr⟩:=hp.at_ Xj;have hxo:=okp x (Xt hx);have hmx:=Zg.1 (hmy x (Xt hx));have hxz:(x.m.size:Int)=ys.length:=Y1 hmx.2;refine sr ?_;refine dT ?_;refine cx ?_;refine qP ?_;refine bP hh ?_;intro b10 w10 hh;refine bR hh 0 [_,_,_,_] ?_;intro ws hh;replace hh:Hp _ (.blk _ _ [_,_,_,_] _::_) _:=hh;refine aa (sr (bH ?_));refine cg hh 0 [_,_,_] ?_;refine bP hh ?_;intro b11 w11 hh;refine bR hh 0 [_,_,_] ?_;intro ws hh;replace hh:Hp _ (.blk _ _ [_,_,_] _::_) _:=hh;refine aa (ah (sr (bH ?_)));refine bE hh 1 ?_;refine qm hh bh.out rfl Xk ?_;intro b40 w40 hh;skip;refine aa (ao ?_);refine vq [12,13,41,42,43,44,45,46,47,48,49,50,51,52,53,54,55,56,57]
      (fun w'=>∃(q:Nat) (z:NR) (ks:List IQ),q≤ys.length∧z.ok∧z.d=BN x.c.d ys x.m q∧ks.length=ys.length∧(∀q∈ks,q.2.1≤1000)∧Hp w (.it b40 x.m q::.blk b11 40 [.bool z.neg,.string z.bg,.int .i64 z.e] (0,0)::.blk b10 80 [.string x.m,.bool x.c.neg,.string x.c.bg,.int .i64 x.c.e] (0,0)::.blk b8 40 [.bool (nR (sX ys ts i)).neg,.string (nR (sX ys ts i)).bg,.int .i64 (nR (sX ys ts i)).e] (0,0)::.row (some ⟨b28,0,none⟩) ys.length ys.length 96 1 (CR ks)::.blk b4 40 [.bool false,.string (ByteArray.mk #[]),.int .i64 0] (0,0)::.blk b2 24 [.int .i64 ys.length,.slice (some ad) pn pc] (0,0)::HF ys ks) w')
      (fun w'=>ys.length-Vk w' b40) ?_ ?_
     ·exact ⟨0,x.c,ks,Xs _,hxo.1,rfl,hkl,hkm,hh⟩
     ·clear hh hkl hkm;rintro ρ' w' ⟨q,z,ks,hq,hzo,hzd,hkl,hkm,hh⟩;have hit:=Kh hh (i:=0) rfl;have hzs:Sz 1600000 z.d:=by rw [hzd];exact (zZ hxo.2 hk (fun y h=>(hy y h).2) hmx.1 q).mono Xj
      by_cases hlq:q<ys.length
      ·obtain ⟨y,hyq⟩:=ak (l:=ys) (k:=q) hlq;obtain ⟨⟨ka,km,kc⟩,hkq⟩:=ak (l:=ks) (k:=q) Xj;obtain ⟨xad,rfl,hxr⟩:=hS.at_ Xj;obtain ⟨e,he⟩:=ak (l:=x.m.data.toList) (k:=q) (by rw [←dQ];omega);have he8:=nI hmx.1 he;have hyo:=hy y (Xt hyq);have hkm0:km≤1000:=hkm _ (Xt hkq);have hqk:q<(CR ks).length:=by rw [Oa];omega
       have zp:Sz 128000 (y.d^e.toNat):=(hyo.2.pow e.toNat).mono (by have:=YT hk (show e.toNat≤127 by omega);omega);have hdm:=fun A cc w1 hT1 hS1=>dW A 2 cc [z,nR (y.d^e.toNat)] w1 hT1 hS1 (by simpa using ⟨hzo,zp.ok Xk⟩) 1600000 (by simpa [bI] using ⟨hzs,zp.mono Xk⟩) Xk Xk;rw [show fU ([z,nR (y.d^e.toNat)].map NR.d)=z.d*y.d^e.toNat by show 1*z.d*(nR _).d=_;rw [bI,Zi]] at hdm;have hcq:(CR ks)[q]?=some (.slice ka km kc):=by unfold CR;rw [Xx,hkq];rfl
       refine sr ?_;refine qg hh (i:=0) rfl rfl he he8 Xk ?_;intro w41 hh;simp only [XC] at hh;skip;refine dn ?_;refine aa (ah (cT (aq (ai (ao (sr ?_))))));refine dn ?_;refine dn ?_;refine aI (aI (aa ?_));replace hh:=hh.perm (XX (l₁:=[_,_,_,_]));simp only [Xw,Xu] at hh;replace hh:=hh.perm (((rN (Me hyq hkq)).append_left [_,_,_,_,_,_,_]).trans (List.perm_middle.trans (.swap _ _ _)));rw [←uO hcq] at hh;have mb11:(.blk b11 40 [.bool z.neg,.string z.bg,.int .i64 z.e] (0,0):HE)∈(.it b40 x.m (q+1)::.blk b11 40 [.bool z.neg,.string z.bg,.int .i64 z.e] (0,0)::.blk b10 80 [.string x.m,.bool x.c.neg,.string x.c.bg,.int .i64 x.c.e] (0,0)::.blk b8 40 [.bool (nR (sX ys ts i)).neg,.string (nR (sX ys ts i)).bg,.int .i64 (nR (sX ys ts i)).e] (0,0)::.blk b4 40 [.bool false,.string (ByteArray.mk #[]),.int .i64 0] (0,0)::.blk b2 24 [.int .i64 ys.length,.slice (some ad) pn pc] (0,0)::(HF ys ks).eraseIdx q):=by simp
       refine SX 13 (fun i=>[45,46,47,48,49,50,51,52,53,54,55,56,57].getD i 0) (fun i=>[wi (.agg #[.bool z.neg,.string z.bg,.int .i64 z.e]),wi (.slice (some ⟨b28,0,none⟩) ys.length ys.length),wi (.int .i64 q),wi (.pointer (some ⟨b28,q*1,none⟩)),wi (.slice (some xad) ys.length xc),wi (.int .i64 q),wi (.pointer (some (xad.add (q*3)))),wi (.agg #[.bool y.neg,.string y.bg,.int .i64 y.e]),wi (.int .i32 e.toNat),wi (.int .i64 e.toNat),fun v R=>v=.agg #[.bool (nR (y.d^e.toNat)).neg,.string (nR (y.d^e.toNat)).bg,.int .i64 (nR (y.d^e.toNat)).e]∧∃(A2:Option Addr) (m2 c3:Nat),m2≤1000∧R=[.row (some ⟨b28,0,none⟩) ys.length ys.length 96 1 ((CR ks).set q (.slice A2 m2 c3)),.row A2 m2 c3 40 3 (ay NR.cells (xj y.d m2))],fun v R=>∃b:Nat,v=.slice (some ⟨b,0,none⟩) 2 2∧R=[.row (some ⟨b,0,none⟩) 2 2 40 3 (ay NR.cells [z,nR (y.d^e.toNat)])],wi (.agg #[.bool (nR (z.d*y.d^e.toNat)).neg,.string (nR (z.d*y.d^e.toNat)).bg,.int .i64 (nR (z.d*y.d^e.toNat)).e])].getD i (wi undef)) (fun i=>[[],[],[],[],[],[],[],[],[],[],[.row (some ⟨b28,0,none⟩) ys.length ys.length 96 1 ((CR ks).set q (.slice ka km kc)),.row ka km kc 40 3 (ay NR.cells (xj y.d km))],[],[]].getD i []) (.it b40 x.m (q+1)::.blk b11 40 [.bool z.neg,.string z.bg,.int .i64 z.e] (0,0)::.blk b10 80 [.string x.m,.bool x.c.neg,.string x.c.bg,.int .i64 x.c.e] (0,0)::.blk b8 40 [.bool (nR (sX ys ts i)).neg,.string (nR (sX ys ts i)).bg,.int .i64 (nR (sX ys ts i)).e] (0,0)::.blk b4 40 [.bool false,.string (ByteArray.mk #[]),.int .i64 0] (0,0)::.blk b2 24 [.int .i64 ys.length,.slice (some ad) pn pc] (0,0)::(HF ys ks).eraseIdx q) _ hh (List.Perm.refl _) mixed Xl rfl ⟨⟨⟨⟨⟨⟨⟨⟨⟨⟨⟨⟨⟨trivial, ?s0⟩, ?s1⟩, ?s2⟩, ?s3⟩, ?s4⟩, ?s5⟩, ?s6⟩, ?s7⟩, ?s8⟩, ?s9⟩, ?s10⟩, ?s11⟩, ?s12⟩ ?fin
       case s0=>exact ⟨_,rfl,fun ρ1 w1 F R ha hd hr (hh:Hp w F w1)=>db rfl (vp (vs:=[_,_,_]) aM.out (ha 11 Xk) (hh.RT (n:=3) (hr _ mb11) rfl) rfl) ⟨[],⟨rfl,rfl⟩,hh⟩⟩
       case s1=>exact ⟨_,rfl,fun ρ1 w1 F R ha hd hr (hh:Hp w F w1)=>db rfl (dF (ha 7 Xk)) ⟨[],⟨rfl,rfl⟩,hh⟩⟩
       case s2=>exact ⟨_,rfl,fun ρ1 w1 F R ha hd hr (hh:Hp w F w1)=>db rfl (dF (ha 12 Xk)) ⟨[],⟨rfl,rfl⟩,hh⟩⟩
       case s3=>exact ⟨_,rfl,fun ρ1 w1 F R ha hd hr (hh:Hp w F w1)=>db rfl (lX (k:=q) bh.out aM.size (show wi (.slice (some ⟨b28,0,none⟩) ys.length ys.length) (ρ1 46) (R 1) from (hd 1 rfl).1).1 (show wi (.int .i64 q) (ρ1 47) (R 2) from (hd 2 rfl).1).1 Xj Xj) ⟨[],⟨rfl,rfl⟩,hh⟩⟩
       case s4=>exact ⟨_,rfl,fun ρ1 w1 F R ha hd hr (hh:Hp w F w1)=>db rfl (dF (ha 1 Xk)) ⟨[],⟨rfl,rfl⟩,hh⟩⟩
       case s5=>exact ⟨_,rfl,fun ρ1 w1 F R ha hd hr (hh:Hp w F w1)=>db rfl (dF (ha 12 Xk)) ⟨[],⟨rfl,rfl⟩,hh⟩⟩
       case s6=>exact ⟨_,rfl,fun ρ1 w1 F R ha hd hr (hh:Hp w F w1)=>db rfl (fC (k:=q) bh.out aM.size (show wi (.slice (some xad) ys.length xc) (ρ1 49) (R 4) from (hd 4 rfl).1).1 (show wi (.int .i64 q) (ρ1 50) (R 5) from (hd 5 rfl).1).1 Xj Xj) ⟨[],⟨rfl,rfl⟩,hh⟩⟩
       case s7=>exact ⟨_,rfl,fun ρ1 w1 F R ha hd hr (hh:Hp w F w1)=>db rfl (vp (vs:=[_,_,_]) aM.out (show wi (.pointer (some (xad.add (q*3)))) (ρ1 51) (R 6) from (hd 6 rfl).1).1 ((hxr.ext hh.below).recAt NR.len hyq) rfl) ⟨[],⟨rfl,rfl⟩,hh⟩⟩
       case s8=>exact ⟨_,rfl,fun ρ1 w1 F R ha hd hr (hh:Hp w F w1)=>db rfl (dF (ha 13 Xk)) ⟨[],⟨rfl,rfl⟩,hh⟩⟩
       case s9=>exact ⟨_,rfl,fun ρ1 w1 F R ha hd hr (hh:Hp w F w1)=>db rfl (vW bh.out bh.out (show wi (.int .i32 e.toNat) (ρ1 53) (R 8) from (hd 8 rfl).1).1 Xj Xj) ⟨[],⟨rfl,rfl⟩,hh⟩⟩
       case s10=>exact ⟨_,rfl,fun ρ1 w1 F R ha hd hr hh=>aY rfl (aJ ar.out (av (show wi (.pointer (some ⟨b28,q*1,none⟩)) (ρ1 48) (R 3) from (hd 3 rfl).1).1 (av (show wi (.agg #[.bool y.neg,.string y.bg,.int .i64 y.e]) (ρ1 52) (R 7) from (hd 7 rfl).1).1 (av (show wi (.int .i64 e.toNat) (ρ1 54) (R 9) from (hd 9 rfl).1).1 aU)))) (Ew (eH (g:=b28) (m:=ys.length) (c:=ys.length) (i:=q) (t:=96) (xs:=CR ks) hqk) y e.toNat km ka kc k w1 hT hh Xj hkm0 hyo hk) fun r w2 ⟨h1,A2,m2,c3,h2,h3⟩=>⟨_,h1,[_,_],⟨rfl,A2,m2,c3,h2,rfl⟩,h3⟩⟩
       case s11=>exact ⟨_,rfl,fun ρ1 w1 F R ha hd hr (hh:Hp w F w1)=>Hc (sz:=3) (cs:=ay NR.cells [z,nR (y.d^e.toNat)]) hh bh.out aM.out (show wh ρ1 [(0,.tmp 45),(1,.tmp 55)]=[(0,.agg #[.bool z.neg,.string z.bg,.int .i64 z.e]),(1,.agg #[.bool (nR (y.d^e.toNat)).neg,.string (nR (y.d^e.toNat)).bg,.int .i64 (nR (y.d^e.toNat)).e])] from aN (show ρ1 45=_ from (show wi (.agg #[.bool z.neg,.string z.bg,.int .i64 z.e]) (ρ1 45) (R 0) from (hd 0 rfl).1).1) (aN (show ρ1 55=_ from (hd 10 rfl).1.1) bZ)) rfl rfl Xk Xk Xk rfl fun b w2 h2=>⟨[_],⟨b,rfl,rfl⟩,h2⟩⟩
       case s12=>exact ⟨_,rfl,fun ρ1 w1 F R ha hd hr (hh:Hp w F w1)=>let ⟨b,e9,r9⟩:=(show ∃b:Nat,ρ1 56=.slice (some ⟨b,0,none⟩) 2 2∧R 11=[.row (some ⟨b,0,none⟩) 2 2 40 3 (ay NR.cells [z,nR (y.d^e.toNat)])] from (hd 11 rfl).1);aY rfl (aJ ar.out (av e9 aU)) (hdm _ _ w1 (hT.hp hh) (hh.Ss ((hd 11 rfl).2 _ (r9 ▸ XB)))) fun r w2 hq=>⟨_,hq.1,[],⟨rfl,rfl⟩,hh.ext hq.2⟩⟩
       clear hh;rintro f R W ⟨⟨⟨⟨⟨⟨⟨⟨⟨⟨⟨⟨⟨-,s0⟩,s1⟩,s2⟩,s3⟩,s4⟩,s5⟩,s6⟩,s7⟩,s8⟩,s9⟩,s10⟩,s11⟩,s12⟩ hh;obtain ⟨e0,r0⟩:=s0;obtain ⟨e1,r1⟩:=s1;obtain ⟨e2,r2⟩:=s2;obtain ⟨e3,r3⟩:=s3;obtain ⟨e4,r4⟩:=s4;obtain ⟨e5,r5⟩:=s5;obtain ⟨e6,r6⟩:=s6;obtain ⟨e7,r7⟩:=s7;obtain ⟨e8,r8⟩:=s8;obtain ⟨e9,r9⟩:=s9;obtain ⟨e10,A2,m2,c3,hm2,r10⟩:=s10;obtain ⟨b56,e11,r11⟩:=s11;obtain ⟨e12,r12⟩:=s12;rw [show List.range 13=[0,1,2,3,4,5,6,7,8,9,10,11,12] from rfl] at hh;simp only [Zu,List.flatMap_nil,r0,r1,r2,r3,r4,r5,r6,r7,r8,r9,r10,r11,r12,Xu,XZ,Xw] at hh;refine aW (bm (ae e12 (ae e11 (ae e10 (ae e9 (ae e8 (ae e7 (ae e6 (ae e5 (ae e4 (ae e3 (ae e2 (ae e1 (ae e0 aV)))))))))))))) ?_;dsimp only [cd];refine bR hh 4 [_,_,_] ?_;intro ws hh;replace hh:Hp _ (_::_::_::_::.blk _ _ [_,_,_] _::_) _:=hh;refine aA (bz (ai ?_));have hz2:Sz 1728000 (z.d*y.d^e.toNat):=(hzs.mul zp).mono Xj;have e1:(CR ks).set q (.slice A2 m2 c3)=CR (ks.set q (A2,m2,c3)):=(M4 ks q (A2,m2,c3)).symm
       have hpk:=rN (Me hyq (show (ks.set q (A2,m2,c3))[q]?=some (A2,m2,c3) from List.getElem?_set_self Xj));rw [wO] at hpk;rw [e1] at hh;replace hh:=hh.perm (XX (l₁:=[_]));simp only [Xw,Xu] at hh;replace hh:=hh.perm (XX (l₁:=[_,_,_,_,_,_,_,_]));simp only [Xw,Xu] at hh;replace hh:=hh.perm (XX (l₁:=[_,_,_,_,_,_,_,_]));simp only [Xw,Xu] at hh;replace hh:=hh.perm (XX (l₁:=[_,_,_]));simp only [Xw,Xu] at hh;replace hh:=hh.perm (XX (l₁:=[_,_,_,_,_,_,_,_]));simp only [Xw,Xu] at hh;replace hh:=hh.perm (XX (l₁:=[_,_,_,_,_,_,_,_]));simp only [Xw,Xu] at hh;replace hh:=hh.perm (XX (l₁:=[_,_,_,_,_,_,_,_]));simp only [Xw,Xu] at hh;replace hh:=hh.perm (XX (l₁:=[_,_,_,_,_,_,_,_]));simp only [Xw,Xu] at hh
       replace hh:=hh.sub (.cons_cons _ (.cons_cons _ (.cons_cons _ (.cons_cons _ (.cons_cons _ (.cons_cons _ (.cons_cons _ (.cons_cons _ (.cons _ (Yo _))))))))));have hit2:=Kh hh (i:=0) rfl;refine ⟨⟨q+1,nR (z.d*y.d^e.toNat),ks.set q (A2,m2,c3),Xj,hz2.ok Xk,by rw [bI];show _=BN x.c.d ys x.m q*CU ys x.m q;rw [←hzd,Nm hyq he],by rw [ZG];exact hkl,fun r hr=> ?_,hh.perm (hpk.symm.append_left [_,_,_,_,_,_,_])⟩,by rw [hit,hit2];omega, ?_⟩
       ·rcases aaC hr with h|rfl
        ·exact hkm r h
        ·exact hm2
       ·exact dV
      ·obtain rfl:q=ys.length:=Xj;have hsm:=fun A cc w1 hT1 hS1=>fY A 2 cc [nR (sX ys ts i),z] w1 hT1 hS1 (by simpa using ⟨(wc i Xj).ok Xk,hzo⟩) 1700000 (by simpa [bI] using ⟨wc i Xj,hzs.mono Xk⟩) Xk;rw [show l4 ([nR (sX ys ts i),z].map NR.d)=sX ys ts (i+1) by simp only [XQ,Ye,jA,bI];show _=sX ys ts i+_;rw [hx,hzd]] at hsm;refine sr ?_;refine qe hh (i:=0) rfl rfl Xj Xk ?_;skip;refine dn ?_;refine aa (ah (cF (a6 (aE (aE (bq (ai (al ?_))))))));refine cg hh 3 [_,_,_] ?_;refine cg hh 1 [_,_,_] ?_;refine sj ?_;intro b60 w60 hh;refine bA hh (hsm _ _ _ (hT.hp hh) (hh.aC (i:=0) rfl)) rfl ?_;intro w61 hh;refine bR hh 4 [_,_,_] ?_;intro ws hh;replace hh:Hp _ (_::_::_::_::.blk _ _ [_,_,_] _::_) _:=hh;refine fp ?_;refine bk (mI (aA (ai ?_)));replace hh:=hh.sub (Xv _ (Xv _ (Xv _ (Xv _ (Xq _ (Xq _ (Xq _ (Xq _ (Yo _)))))))));refine ⟨⟨i+1,ks,Xj,rfl,hkl,hkm,hh⟩,by show pn-(i+1)<pn-i;omega, ?_⟩;exact dV
    ·obtain rfl:i=pn:=Xj;refine sr ?_;refine ll ?_;refine cg hh 0 [_,_,_] ?_;refine bR hh 2 [_,_,_] ?_;intro ws hh;replace hh:Hp _ (_::_::.blk _ _ [_,_,_] _::_) _:=hh;refine aI (aa (aw ?_));refine Pt (eC rfl (eF (vs:=[_,_,_]) aM.out (hh.bY (i:=2) (n:=3) rfl rfl) rfl) (ju (kf rfl) fJ)) ?_;exact ⟨by rw [hpl],hh.below⟩
  ·simp only [Xp h1];rw [Xp Xk];refine aj (N:=64) (l:=[.agg #[.int .i64 p.v,.slice p.A p.n p.c],.slice xA ys.length xc]) Tryz.func11 rfl rfl (by simp) ?_;refine sr ?_;refine cv hh [_,_] ?_;intro b2 w2 hh;refine bP hh ?_;intro b4 w4 hh;refine aI (aa (ah (sr ?_)));refine cg hh 1 [_,_] ?_;refine eu ?_;intro w15 hh;refine aI (aa (sr (mI ?_)));refine n9 ?_;refine bE hh 1 ?_;refine cJ (aa (cT (sr ?_)));refine fP [_,_,_] ?_;exact Oz
 ·simp only [Xp h0];generalize p.e=e at*;refine aj (N:=64) (l:=[.agg #[.int .i64 p.v,.slice p.A p.n p.c],.slice xA ys.length xc]) Tryz.func11 rfl rfl (by simp) ?_;refine sr ?_;refine cv hh [_,_] ?_;intro b2 w2 hh;refine bP hh ?_;intro b4 w4 hh;refine aI (aa (ah (sr ?_)));refine cg hh 1 [_,_] ?_;refine eu ?_;intro w15 hh;exact QQ
theorem F9 {c:Dyadic}{xs:List NR}{m:ByteArray} (hm:m.size=xs.length):∀k,k≤xs.length→BN c xs m k=c*hU ((cP m).take k) ((xs.map NR.d).take k)
 |0,_=>by
  show c=c*1;exact (aai c).symm
 |k+1,hk=>by
  have hl:=j5 m;obtain ⟨x,hx⟩:=ak (l:=xs) (k:=k) Xj;obtain ⟨e,he⟩:=ak (l:=m.data.toList) (k:=k) (by rw [←dQ];omega);have h1:(cP m)[k]?=some e.toNat:=by unfold cP;rw [Xx,he];rfl
  have h2:(xs.map NR.d)[k]?=some x.d:=by rw [Xx,hx];rfl
  have hf:CU xs m k=x.d^e.toNat:=by unfold CU;rw [hx,he]
  rw [BN,hf,F9 hm k Xj,az h1,az h2,rz _ _ _ _ (by simp;omega)];grind
theorem IV {xs:List NR}{ts:List TR} (h:∀t∈ts,t.m.size=xs.length):∀i,i≤ts.length→sX xs ts i=jE (xs.map NR.d) (ts.take i)
 |0,_=>rfl
 |i+1,hi=>by
  obtain ⟨t,ht⟩:=ak (l:=ts) (k:=i) Xj;have hm:=h t (Xt ht);have hl:=j5 t.m;rw [sX,ht,IV h i Xj,az ht,px];show jE _ _+BN t.c.d xs t.m xs.length=jE _ _+(t.c.d*hU (cP t.m) (xs.map NR.d)+0);rw [F9 hm xs.length (Xr _),Xz (l:=cP t.m) Xj,Xz (l:=xs.map NR.d) (by rw [XA];exact Xr _)];grind
theorem K0 {p:PX}{ys:List NR} (hp:p.e=0) (hv:p.v=(ys.length:Int)):tV p ys.length=0∧vg p ys=nR (jE (ys.map NR.d) p.ts):=by
 have h0:tV p ys.length=0:=by unfold tV;rw [Xo hp,Xo hv.symm]
 refine ⟨h0, ?_⟩;unfold vg;rw [Xo h0,IV (fun t ht=> ?_) _ (Xr _),Z2];have:=(cK hp).2.2.1 t ht;unfold fa at this;rw [XF,XN] at this;omega
theorem JU {b:List SR}{t:List NR} (ht:t.length=b.length):(b.mapIdx fun i s=>gU t i s.f).map NR.d=xi b (t.map NR.d):=by
 refine YG fun i=> ?_;unfold xi;rw [Xx,ZE,ZE,Xx]
 cases hs:b[i]? with
 |none=>rfl
 |some s=>
  have hi:=(XE.1 hs).1;obtain ⟨x,hx⟩:=ak (l:=t) (k:=i) Xj;rw [hx];show some (gU t i s.f).d=some (s.L+(s.H-s.L)*x.d);unfold gU;rw [hx];show some (nR (s.f.at_ x.d)).d=_;rw [bI];unfold SR.at_ SR.wid;rw [SR.Wh,SR.Wb,show s.f.lo.d=s.L from bI _];congr 1;grind
theorem I7 {b:List SR}{t:List NR} (hb:∀s∈b,s.fin 124) (ht:∀x∈t,Sz 124 x.d) (hl:t.length=b.length):∀y∈b.mapIdx (fun i s=>gU t i s.f),y.ok∧Sz 300 y.d:=fun y hy=>by
 obtain ⟨i,hi⟩:=YJ.1 hy;rw [ZE] at hi
 cases hs:b[i]? with
 |none=>rw [hs] at hi;cases hi
 |some s=>
  have hil:=(XE.1 hs).1;obtain ⟨x,hx⟩:=ak (l:=t) (k:=i) Xj;rw [hs] at hi;replace hi:gU t i s.f=y:=Yd hi;unfold gU at hi;rw [hx] at hi;replace hi:nR (s.f.at_ x.d)=y:=hi;have hf:=hb s (Xt hs);have zx:=ht x (Xt hx);have z:Sz 300 (s.f.at_ x.d):=by
   unfold SR.at_ SR.wid;rw [SR.Wh,SR.Wb,show s.f.lo.d=s.L from bI _];have z1:Sz 249 (x.d*(s.H-s.L)):=zx.mul ((SR.MP hf).sub (SR.GR hf));exact (((SR.GR hf).mono (show 124≤249 by decide)).add z1).mono Xk
  rw [←hi,bI];exact ⟨z.ok Xk,z⟩
theorem JD {i:Nat} (hi:i<62):kA (k:Int) i=decide (jB k i=1):=by
 have e:((k:Int).fdiv (2^i)) % 2=((jB k i:Nat):Int):=by
  rw [Int.fdiv_eq_ediv_of_nonneg _ (by exact Int.le_of_lt (Int.pow_pos Xk))];unfold jB;rw [Int.natCast_emod,Int.natCast_ediv,aak]
  rfl
 unfold kA;rw [e,XH hi,aap];by_cases h0:0<(k:Int)
 ·rw [XH h0,aap];exact decide_eq_decide.2 Xj
 ·obtain rfl:k=0:=Xj;rw [XM h0,Bool.false_and];have:jB 0 i=0:=by unfold jB;rw [Nat.zero_div]
  rw [this]
  rfl
theorem Nf {b:List SR} (hl:b.length≤12):(b.mapIdx fun i s=>cond (kA (k:Int) i) s.f.hi s.f.lo).map NR.d=xi b ((iU b.length k).map nD):=by
 refine YG fun i=> ?_;unfold xi;rw [Xx,ZE,ZE,Xx]
 cases hs:b[i]? with
 |none=>rfl
 |some s=>
  have hi:=(XE.1 hs).1;have hb:(iU b.length k)[i]?=some (jB k i):=by unfold iU;rw [Xx,Yh hi];rfl
  rw [hb];show some (cond (kA (k:Int) i) s.f.hi s.f.lo).d=some (s.L+(s.H-s.L)*nD (jB k i));rw [JD Xj];congr 1;by_cases h1:jB k i=1
  ·rw [XH h1,h1,vX];show s.f.hi.d=_;rw [show s.f.hi.d=s.H from bI _];grind
  ·have h0:jB k i=0:=by unfold jB at h1 ⊢;omega
   rw [XM h1,h0,tr];show s.f.lo.d=_;rw [show s.f.lo.d=s.L from bI _];grind
theorem Mu {ns:List Nat} (k:Nat):iX ns.reverse X ((iU ns.length k).map nD).reverse=(X[Vo ns k]?).getD 0:=by
 have hl:=nt ns.length k;rw [←List.map_reverse,Dx (by rw [X8,X8,hl]) (fun b hb=>xp b (Zt.1 hb)),←IB hl]
 rfl
theorem HI (X:List Dyadic) (i:Nat):((X.map nR)[i]?).getD (nR 0)=nR ((X[i]?).getD 0):=by
 rw [Xx]
 cases X[i]?<;>rfl
theorem CS {A B:List Nat}{d t:Nat} (ht:t≤d) (hX:X.length=au (A++d::B)):j8 (au A) d t X X.length=sF A B d t X:=by
 unfold j8 sF;rw [hX,A5 A B d t ht]
theorem xE {ns:List Nat}{a:Nat}:(ns.eraseIdx a).reverse=(ns.drop (a+1)).reverse++(ns.take a).reverse:=by
 rw [aaG,ZV]
theorem yd {ns:List Nat}{T:List Dyadic}{a d side:Nat} (hd:ns[a]?=some d) (hX:X.length=au ns) (hT:T.length=ns.length) (hs:side=0∨side=1):iX (ns.eraseIdx a).reverse (j8 (au (ns.drop (a+1))) d (d*side) X X.length) (T.take a++T.drop (a+1)).reverse=iX ns.reverse X (T.set a (nD side)).reverse∧(j8 (au (ns.drop (a+1))) d (d*side) X X.length).length=au (ns.eraseIdx a):=by
 have ha:=(XE.1 hd).1;have hrn:=uk hd;have hXA:X.length=au ((ns.drop (a+1)).reverse++d::(ns.take a).reverse):=by rw [←hrn,cD];exact hX
 have ht:d*side≤d:=by rcases hs with rfl|rfl<;>omega
 rw [←cD (ns.drop (a+1)),CS ht hXA,xE,hrn];have hse:T.set a (nD side)=T.take a++nD side::T.drop (a+1):=by
  have h1:(T.set a (nD side))[a]?=some (nD side):=by rw [Zw,Xo rfl,Xo Xj]
  have:=Mm h1;rw [this];rw [List.take_set_of_le (Xr a),List.drop_set_of_lt (Nat.lt_succ_self a)]
 refine ⟨?_, ?_⟩
 ·rw [hse,ZV,ZV,ZP,Ya,List.singleton_append];exact Mp Xj (by rw [X8,X8,Yz,Yz];omega)
 ·rw [Hz,←xE,cD]
def W4 (up:Bool) (d:Nat) (s:Dyadic):Nat→Nat→Dyadic:=if up then T6 d s else TY d s
def WZ (ns rr:List Nat) (a:Nat) (xs:List Dyadic) (M:Nat→Nat→Dyadic) (r i:Nat):Dyadic:=sm (List.range i) fun j=>co ns.reverse xs (rr.set a j)*M j r
def WM (a:NR):Bool:=decide ((8:Int)<a.bg.size∨a.e< -60∨60<a.e)
def FX.VA (f:FX):Prop:=f.k8 124∧f.m≤120∧f.n≤20∧∀d∈f.ds,d≤6∨128≤d
abbrev Xi (l:List Int) (A:Option Addr) (a:Nat) (B:Option Addr) (b:Nat):FX:=⟨A,1,a,B,l.length,b,[(l.length:Int)-1],l.map fun z:Int=>nR ((z:Dyadic)*m9 (-2))⟩
abbrev Xf (l:List Int):List Dyadic:=l.map fun z:Int=>(z:Dyadic)*m9 (-2)
def UZ (l:List Int):VP:=fun v W=>∃g:FX,v=.agg #[.slice g.A g.n g.a,.slice g.B g.m g.b]∧g.ds=[(l.length:Int)-1]∧g.cs=(l.map fun z:Int=>nR ((z:Dyadic)*m9 (-2)))∧g.at_ W
def Vh (base:Nat) (E:Int) (D:List Nat) (ys:List Dyadic):VP:=fun v W=>∃g:FX,v=.agg #[.slice g.A g.n g.a,.slice g.B g.m g.b]∧Out E D ys g∧∃w2:World,base≤w2.heap.size∧Hp w2 [g.qz,g.oV] W
def Wc (base:Nat) (E:Int) (D:List Nat) (ys zs:List Dyadic):VP:=fun v W=>∃g h:FX,v=.tuple #[.agg #[.slice g.A g.n g.a,.slice g.B g.m g.b],.agg #[.slice h.A h.n h.a,.slice h.B h.m h.b],.int .i64 E]∧Out E D ys g∧Out E D zs h∧∃w2:World,base≤w2.heap.size∧Hp w2 [h.qz,h.oV,g.oV,g.qz] W
theorem lI (p:FX) (D:List Nat) (ys:List Dyadic) (V:Dyadic) (L:Option Addr) (m2 c2:Nat) (tn:List NR) (k q B:Nat) (w:World) (hT:dN w) (o:Out 0 D ys p) (hp:p.at_ w) (hcap:p.m≤p.b) (hS:Sl w L m2 3 (ay NR.cells tn)) (hv:∀s∈tn,Val q s s.d∧Sz q (1-s.d)) (hq:q≤2000)
  (h12:D.length≤12) (h127:∀d∈D,d≤127) (hB:∀d∈D,d≤B) (hyl:ys.length=au D) (hc:au D≤4096) (hm:m2=D.length) (hz:∀x∈ys,Sz k x) (hk:k+12*(2+2*(q*B)+(B+1))≤500000) (hV:iX D.reverse ys (tn.map NR.d).reverse=V):
  Calls Tryz.prog 10 #[.agg #[.slice p.A p.n p.a,.slice p.B p.m p.b],.slice L m2 c2] w fun r w'=>r=.returned (.tuple #[.agg #[.bool (nR V).neg,.string (nR V).bg,.int .i64 (nR V).e],.int .i64 0])∧Below w.heap.size w w':=by
 obtain ⟨e1,e2,e3⟩:=R8 o h12 h127 hyl hc;have hpl:=hp.ln;have hpn:p.n=D.length:=by rw [←hpl.1,o.ds];show (bM D).length=_;rw [ko]
 have hlt:=hS.bp NR.len Xk;have hlim:p.k8 k:=⟨Xj,by
  rw [←hpl.2,o.cs];show (ys.map nR).length≤_;rw [XA];omega,fun c h=>by
  rw [o.cs] at h;obtain ⟨y,hy,rfl⟩:=XG.1 (show c∈ys.map nR from h);have:=hz y hy;exact ⟨this.ok Xj,by rw [bI];exact this⟩⟩
 have hE:Iu p m2=0:=by unfold Iu;rw [Xp (fun h=>h e1),Xp Xj]
 have hVV:IY p tn=V:=by unfold IY;rw [hlt,hE,Xo rfl,e2,e3,hV]
 have hG:p.e=0→∀d∈p.ns,2+2*(q*d)+(d+1)≤2+2*(q*B)+(B+1):=fun _ d hd=>by
  rw [e2] at hd;have h1:=hB d hd;have:=X4 q h1;omega
 have hkk:k+p.n*(2+2*(q*B)+(B+1))≤500000:=by
  have:=Yr (2+2*(q*B)+(B+1)) (show p.n≤12 by omega);omega
 have:=rX p L m2 c2 tn k q (2+2*(q*B)+(B+1)) w hT hp hlim hcap hS hv hq hG hkk;rw [hE,hVV] at this;exact this
def sW (fx:FX) (ax sd:Int):Int:=if jC fx ax≠0 then jC fx ax else if sd=0∨sd=1 then 0 else 1
theorem Jb (fx:FX) (ax sd:Int) (k:Nat) (w:World) (hT:dN w) (hf:fx.at_ w) (hl:fx.k8 k) (hE:sW fx ax sd≠0):
  Calls Tryz.prog 16 #[.agg #[.slice fx.A fx.n fx.a,.slice fx.B fx.m fx.b],.int .i64 ax,.int .i64 sd] w fun r w'=>r=.returned (.tuple #[.agg #[.slice none 0 0,.slice none 0 0],.int .i64 (sW fx ax sd)])∧Below w.heap.size w w':=by
 have hh:=Hp.start w;have hhas:=fun w1 hT1 hb=>pB fx ax k w1 hT1 (hf.ext hb) hl;unfold sW at hE ⊢;generalize jC fx ax=C at*;refine aj (N:=70) (l:=[.agg #[.slice fx.A fx.n fx.a,.slice fx.B fx.m fx.b],.int .i64 ax,.int .i64 sd]) Tryz.func16 rfl rfl (by simp) ?_;refine sr ?_;refine cv hh [_,_] ?_;intro b3 w3 hh;refine bP hh ?_;intro b6 w6 hh;refine aI (aa (ah (sr ?_)));refine cg hh 1 [_,_] (mI ?_);refine Cs ?_;intro w15 hh;by_cases hC:C=0
 ·subst hC;rw [Xp (fun c=>c rfl)] at hE ⊢;by_cases hs:sd=0∨sd=1
  ·rw [Xo hs] at hE;exact absurd rfl hE
  ·rw [Xp hs];have h1:sd≠0:=fun c=>hs (.inl c);have h2:sd≠1:=fun c=>hs (.inr c);refine aI (aa (sr (mI ?_)));refine mU ?_;refine cJ (mB (gT (mI (gT ?_))));refine cJ ?_;refine eR ?_;refine aa (cT (sr ?_));refine fP [_,_] ?_;exact TB
 ·rw [Xo hC];refine aI (aa (sr (mI ?_)));refine cJ (aa (cT (sr ?_)));refine fP [_,_] (mI ?_);exact TB
variable {P:Program}{S:World→World→Prop}{W W' w' ws:World}{base c':Nat}{news:List Value}{pv:Nat→VP}
section
variable {D:List Deferred}
section
variable {P:Program}{N:Nat}{Q:Kq}{ρ:Rf}{w:World}
def RK (k:Nat) (S:World→World→Prop) (i:Nat) (w w':World):Prop:=if i=k then S w w' else Below w.heap.size w w'
theorem VD {i:Nat}{J:World→Prop} (hJ:∀w w',J w→Below w.heap.size w w'→J w') (hJS:∀w w',J w→S w w'→J w') (h:J w) (hr:RK k S i w w'):J w':=by
 unfold RK at hr;split at hr
 ·exact hJS _ _ h hr
 ·exact hJ _ _ h hr
theorem OI {i:Nat} (hSz:∀w w',S w w'→w.heap.size≤w'.heap.size) (hr:RK k S i w w'):w.heap.size≤w'.heap.size:=by
 unfold RK at hr;split at hr
 ·exact hSz _ _ hr
 ·exact hr.size
def MV:List Nat→(Nat→VP)→Nat→VP
 |[],V=>V
 |x::r,V=>dD (MV r V) x fun _ _=>True
theorem FF {V:Nat→VP}{i:Nat}{v:Value}{w:World}:∀{X:List Nat},(i∉X→V i v w)→MV X V i v w
 |[],h=>h (fun h=>by cases h)
 |x::r,h=>by
  by_cases e:i=x
  ·subst e;show dD _ _ _ _ _ _;rw [z5]
   trivial
  ·show dD _ _ _ _ _ _;rw [l8 _ _ e];exact FF fun h2=>h fun h3=>(XL.1 h3).elim e h2
def EB (m k:Nat) (X Y M:List Nat) (src:List (List (Nat×Option Nat))):Bool:=
 decide (k<m) && ((List.range m).all fun i=>(src.getD i []).all fun p=>match p.2 with|some j=> !X.contains j||i==k||(M.getD k 0).testBit i|none=>true) &&
 (List.range m).all fun j=>X.contains j||Y.contains j||j==k||(M.getD j 0).testBit k
def UQ (P:Program) (ops:Array Oper) (J:World→Prop) (V:Nat→Value→World→Prop) (R:Nat→World→World→Prop) (ρ:Rf):Nat→List Oper→List (List (Nat×Option Nat))→Prop
 |i,o::os,s::ss=>((∀v w w',V i v w→Below w.heap.size w w'→V i v w')∧∀ρ1 w1,J w1→cS V ρ ρ1 w1 s→OG P ops o ρ1 w1 fun v w2=>R i w1 w2∧V i v w2)∧UQ P ops J V R ρ (i+1) os ss
 |_,[],[]=>True
 |_,_,_=>False
theorem LX {ops:Array Oper}{J:World→Prop}{V:Nat→Value→World→Prop}{R:Nat→World→World→Prop}:∀(l:List Oper) (ss:List (List (Nat×Option Nat))) (i:Nat),UQ P ops J V R ρ i l ss→l.length=ss.length∧∀k o,l[k]?=some o→∃s,ss[k]?=some s∧
  (∀v w w',V (i+k) v w→Below w.heap.size w w'→V (i+k) v w')∧∀ρ1 w1,J w1→cS V ρ ρ1 w1 s→OG P ops o ρ1 w1 fun v w2=>R (i+k) w1 w2∧V (i+k) v w2
 |[],[],_,_=>⟨rfl,fun k o h=>by simp at h⟩
 |[],_::_,_,h=>h.elim
 |_::_,[],_,h=>h.elim
 |o::l,s::ss,i,h=>by
  obtain ⟨h1,h2⟩:=LX l ss (i+1) h.2;refine ⟨by simp [h1],fun k o' hk=> ?_⟩
  cases k with
  |zero=>
   simp only [Z6,Y9] at hk;subst hk;exact ⟨s,rfl,h.1⟩
  |succ k=>
   obtain ⟨s',hs,h3⟩:=h2 k o' (by simpa using hk);refine ⟨s',by simpa using hs, ?_⟩;have e:i+1+k=i+(k+1):=Xj;rw [e] at h3;exact h3
structure V7 (D:List Deferred) (fr:List Nat) (N:Nat) (ops:Array Oper) (m k0:Nat) (X:List Nat) (ρ:Rf) (J:World→Prop) (V:Nat→Value→World→Prop) (L:Array Bool) (a:Act) (w:World):Prop where
 nd:a.defers=D
 sz:a.tmps.size=N
 j:J w
 ls:L.size=ops.size
 cl:oR ops L
 tl:∀k,m≤k→L.getD k false=false
 vs:∀i d,i<m→L.getD i false=true→(ops[i]?).bind (·.dst)=some d→(i∈X→L.getD k0 false=false)→V i (a.tmps.getD d undef) w
 Hx:∀s,(∀i,i<m→L.getD i false=true→(ops[i]?).bind (·.dst)≠some s)→a.tmps.getD s undef=ρ s
 fb:∀i∈fr,L.getD i false=true→∀d,(ops[i]?).bind (·.dst)=some d→∃b,a.tmps.getD d undef=.pointer (some ⟨b,0,none⟩)∧b<w.heap.size
 fd:∀i∈fr,∀j∈fr,i≠j→L.getD i false=true→L.getD j false=true→∀d e,(ops[i]?).bind (·.dst)=some d→(ops[j]?).bind (·.dst)=some e→a.tmps.getD d undef≠a.tmps.getD e undef
theorem J3 {id:Nat}{l:List Oper} (fr fl M:List Nat) (m k0:Nat) (X Y:List Nat) (S:World→World→Prop) (src:List (List (Nat×Option Nat))) (ds:List (Nat×Nat)) (J:World→Prop) (V:Nat→Value→World→Prop) (hm:P.follows .mixedOrders=true) (hok:nF l m N src ds fl M=true) (hkl:EB m k0 X Y M src=true) (hfr:uQ P l fr) (hfm:fr.all (fun i=>i<m)=true) (hQp:NP Q)
  (hJ:∀w w',J w→Below w.heap.size w w'→J w') (hJS:∀w w',J w→S w w'→J w') (hSz:∀w w',S w w'→w.heap.size≤w'.heap.size) (h0:J w) (hops:UQ P l.toArray J V (RK k0 S) ρ 0 (l.take m) src) (hY:∀j,j∈Y→∀v w w',V j v w→S w w'→V j v w')
  (tail:∀f w',J w'→wH (MV X V) f w' ds→(∀i∈fr,∀j∈fr,i≠j→f i≠f j)→WL ⟨none,D,false⟩ P N l.toArray Q (l.drop m) (jT ρ f ds) w'):WC ⟨none,D,false⟩ P N (.region id l.toArray true) Q ρ w:=by
 refine WC.mO fun a hf=>wp_region_any hm ?_;simp only [nF,XF,XN,YA,XI,XT] at hok;obtain ⟨⟨⟨⟨⟨⟨⟨⟨⟨⟨⟨⟨⟨hml,_⟩,hds⟩,hnd⟩,hdN⟩,hrd⟩,htail⟩,hready⟩,hend⟩,hdep⟩,hedge⟩,hns⟩,hflo⟩,hM⟩:=hok;have hfl:=fun i hi=>xJ (hflo i hi);have hdo:=(LX _ _ _ hops).2;unfold EB at hkl;simp only [XF,XN,XI,XT] at hkl;obtain ⟨⟨hkm,hkr⟩,hky⟩:=hkl;have hXr:∀i,i<m→∀s,src[i]?=some s→∀p∈s,∀j,p.2=some j→j∈X→i=k0∨(M.getD k0 0).testBit i=true:=fun i hi s hs p hp j hj hX=>by
  have h1:=hkr i hi;rw [YM,hs] at h1;have h2:=h1 p hp;rw [hj] at h2;simp only [Zo,Z1,aaP,YA,Z3] at h2
  rcases h2 with (h2|h2)|h2
  ·exact absurd hX h2
  ·exact .inl h2
  ·exact .inr h2
 have hpre:∀i d,i<m→((l.toArray[i]?).bind (·.dst))=some d→(i,d)∈ds:=fun i d hi hd=>by
  exact NK
 have hdsm:∀i d,(i,d)∈ds→i<m∧((l.toArray[i]?).bind (·.dst))=some d:=fun i d hp=>by
  exact OR
 have hone:∀i j d,i<m→j<m→((l.toArray[i]?).bind (·.dst))=some d→((l.toArray[j]?).bind (·.dst))=some d→i=j:=fun i j d hi hj h1 h2=>by
  exact Pg
 have hnn:l.toArray.size=l.length:=by simp
 have hfm':∀i∈fr,i<m:=fun i hi=>by simpa using XI.1 hfm i hi
 have full:∀(L:Array Bool) (a:Act) (w:World) (fuel:Nat),V7 D fr N l.toArray m k0 X ρ J V L a w→(∀i,i<m→L.getD i false=true)→l.length≤fuel+m→wpAny P .any l.toArray (du N D Q) fuel L a w:=by
  intro L a w fuel hI hall hfu;have hL:L=gR l.length m:=pW (by rw [hI.ls,hnn]) hml hall hI.tl;rw [hL];refine mW m (fun k h1 h2=> ?_) hend fuel m a w (Xr _) hml hfu ?_
  ·exact Sk
  ·have hfits:eA N D a (jT ρ (fun i=>match (l.toArray[i]?).bind (·.dst) with|some d=>a.tmps.getD d undef|none=>undef) ds):=by
    exact RH
   refine (tail _ w hI.j (qx ds fun p hp=> ?_) fun i hi j hj hij=> ?_).out a hfits
   rotate_left
   ·exact TE
   obtain ⟨h1,h2⟩:=hdsm p.1 p.2 hp;refine FF fun hX=> ?_;have:=hI.vs p.1 p.2 h1 (hall _ h1) h2 (fun h=>absurd h hX);rw [h2];exact this
 have key:∀(fuel:Nat) (L:Array Bool) (a:Act) (w:World),V7 D fr N l.toArray m k0 X ρ J V L a w→fuel+L.toList.countP (fun b=>b)=l.length→wpAny P .any l.toArray (du N D Q) fuel L a w:=by
  intro fuel
  induction fuel with
  |zero=>
   exact Sw
  |succ fuel ih=>
   intro L a w hI hc;by_cases hall:∀i,i<m→L.getD i false=true
   ·exact SK
   ·have hsome:∃i,i<m∧L.getD i false=false:=by
     exact Rp
    have hready_spec:∀i,i∈Region.ready .any l.toArray L↔i<l.length∧L.getD i true=false∧∃o,l.toArray[i]?=some o∧∀e∈o.after,Region.binds .any e=true→L.getD e.on false=true:=fun i=>by
     exact NO
    have both:∀(i:Nat) (_:i<m) (o:Oper) (_:l.toArray[i]?=some o) (_:L.getD i false=false) (_:∀e∈o.after,Region.binds .any e=true→L.getD e.on false=true),
      OG P l.toArray o (fun t=>a.tmps.getD t undef) w (fun v w2=>RK k0 S i w w2∧V i v w2)∧
      ∀v w2,(RK k0 S i w w2∧V i v w2)→(i∈fr→∃b,v=.pointer (some ⟨b,0,none⟩)∧w.heap.size≤b∧b<w2.heap.size)→wpAny P .any l.toArray (du N D Q) fuel (L.setIfInBounds i true) (a.put o.dst v) w2:=fun i him o ho hun' hed=>by
     have hiL:i<L.size:=by rw [hI.ls,hnn];omega
     have hed':∀o',l.toArray[i]?=some o'→∀e∈o'.after,Region.binds .any e=true→L.getD e.on false=true:=fun o' ho'=>by
      rw [ho] at ho';injection ho' with ho';subst ho';exact hed
     have hok':(l.take m)[i]?=some o:=by
      rw [YL,Xo him];simpa using ho
     obtain ⟨s,hs,hstab,hog⟩:=hdo i o hok';rw [XJ] at hstab hog;have hrdi:=hrd i him;rw [ho,hs] at hrdi;simp only [XF,XI] at hrdi;have hro:cS V ρ (fun t=>a.tmps.getD t undef) w s:=nj s fun p hp=>by
      have hp2:=hrdi.2 p hp
      cases hp3:p.2 with
      |some j=>
       rw [hp3] at hp2;simp only [XF,XN,YA] at hp2;refine hI.vs j p.1 hp2.1.1 (fW hM hI.cl i j hed' hp2.2) hp2.1.2 fun hX=> ?_
       rcases hXr i him s hs p hp j hp3 hX with rfl|hd
       ·exact hun'
       ·cases hc9:L.getD k0 false with
        |false=>rfl
        |true=>
         have h8:=fW hM hI.cl k0 i (fun o' ho' e he hb=>hI.cl k0 o' ho' hc9 e he hb) hd;rw [hun'] at h8
         cases h8
      |none=>
       rw [hp3] at hp2;refine hI.Hx p.1 fun j hj hjl hjd=> ?_;have h6:=XI.1 hp2 j (by simpa using hj);rw [hjd] at h6;simp only [beq_self_eq_true,aaq,X2,XF] at h6;have:=fW hM hI.cl j i (fun o' ho' e he hb=>hI.cl j o' ho' hjl e he hb) h6.2;rw [hun'] at this
       cases this
     have hnext:∀v w2,(RK k0 S i w w2∧V i v w2)→(i∈fr→∃b,v=.pointer (some ⟨b,0,none⟩)∧w.heap.size≤b∧b<w2.heap.size)→wpAny P .any l.toArray (du N D Q) fuel (L.setIfInBounds i true) (a.put o.dst v) w2:=fun v w2 hv hfv=>by
      have hd1:∀d',o.dst=some d'→d'<a.tmps.size:=fun d' hd'=>by
       rw [hI.sz];exact hdN (i,d') (hpre i d' him (by rw [ho];exact hd'))
      have hput:∀j d,j<m→j≠i→(l.toArray[j]?).bind (·.dst)=some d→(a.put o.dst v).tmps.getD d undef=a.tmps.getD d undef:=fun j d hj hji hjd=>by
       cases hod:o.dst with
       |none=>rfl
       |some d'=>rw [dp (hd1 d' hod),Xp fun e=>hji (hone j i d hj him hjd (by rw [ho,e];exact hod))]
      have hputi:∀d,(l.toArray[i]?).bind (·.dst)=some d→(a.put o.dst v).tmps.getD d undef=v:=fun d hd=>by
       rw [ho] at hd;simp only [Zl] at hd;rw [hd,dp (hd1 d hd),Xo rfl]
      have hfd:∀j∈fr,j≠i→L.getD j false=true→i∈fr→∀e,(l.toArray[j]?).bind (·.dst)=some e→a.tmps.getD e undef≠v:=fun j hj hji hjl hif e hje heq=>by
       obtain ⟨b,hb1,hb2⟩:=hI.fb j hj hjl e hje;obtain ⟨b',hv1,hb3,_⟩:=hfv hif;rw [hb1,hv1] at heq;injection heq with heq
       injection heq with heq
       injection heq with heq
       omega
      refine ih _ _ _ ?_ ?_
      ·refine ⟨?_, ?_,VD hJ hJS hI.j hv.1,by simpa using hI.ls, ?_, ?_, ?_, ?_, ?_, ?_⟩
       ·cases o.dst<;>exact hI.nd
       ·cases hod:o.dst with
        |none=>exact hI.sz
        |some d=>simpa [Act.put] using hI.sz
       ·intro k ok hk hkl e he hb;rw [cI hiL] at hkl ⊢;by_cases hki:k=i
        ·subst hki;simp [hed' ok hk e he hb]
        ·simp only [hki,decide_false,X2] at hkl;simp [hI.cl k ok hk hkl e he hb]
       ·intro k hk;rw [cI hiL,hI.tl k hk];have:¬k=i:=Xj;simp [this]
       ·intro j d hj hjl hjd hX;rw [cI hiL] at hjl;rw [cI hiL] at hX;have hd1:∀d',o.dst=some d'→d'<a.tmps.size:=fun d' hd'=>by
         rw [hI.sz];exact hdN (i,d') (hpre i d' him (by rw [ho];exact hd'))
        by_cases hji:j=i
        ·subst hji;rw [ho] at hjd;simp only [Zl] at hjd;rw [hjd,dp (hd1 d hjd),Xo rfl];exact hv.2
        ·simp only [hji,decide_false,X2] at hjl;have hX2:j∈X→i≠k0∧L.getD k0 false=false:=fun h=>by
          have h8:=hX h;rw [Bool.or_eq_false_iff,Z3] at h8;exact ⟨fun e=>h8.1 e.symm,h8.2⟩
         have hold:=hI.vs j d hj hjl hjd fun h=>(hX2 h).2;have hdj:(j,d)∈ds:=hpre j d hj hjd;have hst:=(hdo j (l.toArray[j]?.getD default) (by
          have:j<l.length:=Xj;rw [YL,Xo hj];simp [this])).choose_spec.2.1
         rw [XJ] at hst;replace hst:∀v w w',V j v w→RK k0 S i w w'→V j v w':=fun v w w' h1 h2=>by
          unfold RK at h2;by_cases hik:i=k0
          ·rw [Xo hik] at h2;have h3:=hky j hj;simp only [Zo,aaP,XN,YA] at h3
           rcases h3 with ((h3|h3)|h3)|h3
           ·exact absurd hik (hX2 h3).1
           ·exact hY j h3 v w w' h1 h2
           ·exact absurd (h3.trans hik.symm) hji
           ·have h8:=fW hM hI.cl j k0 (fun o' ho' e he hb=>hI.cl j o' ho' hjl e he hb) h3;rw [←hik,hun'] at h8
            cases h8
          ·rw [Xp hik] at h2;exact hst v w w' h1 h2
         have hne:∀d',o.dst=some d'→d≠d':=fun d' hd' e=>by
          subst e;exact hji (hone j i d hj him hjd (by rw [ho];exact hd'))
         cases hod:o.dst with
         |none=>exact hst _ _ _ hold hv.1
         |some d'=>
          rw [dp (hd1 d' hod),Xp (hne d' hod)];exact hst _ _ _ hold hv.1
       ·intro s' hs';have hni:((l.toArray[i]?).bind (·.dst))≠some s':=hs' i him (by rw [cI hiL];simp);have hold:=hI.Hx s' fun j hj hjl=>hs' j hj (by rw [cI hiL];simp [hjl]);rw [ho] at hni;simp only [Zl] at hni
        cases hod:o.dst with
        |none=>exact hold
        |some d'=>
         rw [dp (by rw [hI.sz];exact hdN (i,d') (hpre i d' him (by rw [ho];exact hod))),Xp (fun e=>hni (by rw [hod,e]))];exact hold
       ·intro j hj hjl d hjd;rw [cI hiL] at hjl;by_cases hji:j=i
        ·subst hji;obtain ⟨b,hb1,_,hb3⟩:=hfv hj;exact ⟨b,(hputi d hjd).trans hb1,hb3⟩
        ·simp only [hji,decide_false,X2] at hjl;obtain ⟨b,hb1,hb2⟩:=hI.fb j hj hjl d hjd;exact ⟨b,(hput j d (hfm' j hj) hji hjd).trans hb1,Yt hb2 (OI hSz hv.1)⟩
       ·intro j hj k hk hjk hjl hkl d e hjd hke;rw [cI hiL] at hjl hkl;by_cases hji:j=i
        ·subst hji;have hkj:k≠j:=fun e=>hjk e.symm;simp only [hkj,decide_false,X2] at hkl;rw [hputi d hjd,hput k e (hfm' k hk) hkj hke];exact fun he=>hfd k hk hkj hkl hj e hke he.symm
        ·simp only [hji,decide_false,X2] at hjl;by_cases hki:k=i
         ·subst hki;rw [hputi e hke,hput j d (hfm' j hj) hji hjd];exact hfd j hj hji hjl hk d hjd
         ·simp only [hki,decide_false,X2] at hkl;rw [hput j d (hfm' j hj) hji hjd,hput k e (hfm' k hk) hki hke];exact hI.fd j hj k hk hjk hjl hkl d e hjd hke
      ·have hLi:L.toList[i]?=some false:=by
        have h3:i<L.toList.length:=by simpa using hiL
        rw [YI h3];have:L.getD i false=L.toList[i]:=by simp [hiL]
        rw [←this,hun']
       rw [aaZ,List.countP_set (by simpa using hiL)];have h4:L.toList[i]'(by simpa using hiL)=false:=(XE.1 hLi).2;rw [h4];simp only [aab,if_false,if_true];omega
     exact ⟨hog _ w hI.j hro,hnext⟩
    exact Wi
 exact S9
end
section
def Td (P:Program) (ops:Array Oper) (J:World→Prop) (R:Nat→World→World→Prop) (ρ:Rf) (T:(Nat→VP)→Prop):Nat→(Nat→VP)→List Oper→List (List (Nat×Option Nat))→Prop
 |i,pv,o::os,s::ss=>∃V:VP,(∀v w w',V v w→Below w.heap.size w w'→V v w')∧(∀ρ1 w1,J w1→cS pv ρ ρ1 w1 s→OG P ops o ρ1 w1 fun v w2=>R i w1 w2∧V v w2)∧Td P ops J R ρ T (i+1) (dD pv i V) os ss
 |_,pv,[],[]=>T pv
 |_,_,_,_=>False
theorem GN {o:Oper}{K':Value→World→Prop} (h:OG P ops o ρ w K) (hk:∀v w',K v w'→K' v w'):OG P ops o ρ w K':=⟨fun a next Q ha hn=>h.out a next Q ha fun v w' h2=>hn v w' (hk v w' h2)⟩
theorem Du {P:Program}{ops:Array Oper}{J:World→Prop}{R:Nat→World→World→Prop}{ρ:Rf}{T:(Nat→VP)→Prop}{os2:List Oper}{ss2:List (List (Nat×Option Nat))}:∀(os:List Oper) (ss:List (List (Nat×Option Nat))) (i:Nat) (pv:Nat→VP),(∀j w w',i≤j→j<i+os.length→Below w.heap.size w w'→R j w w')→
  DX P ops J ρ (fun pv=>Td P ops J R ρ T (i+os.length) pv os2 ss2) i pv os ss→Td P ops J R ρ T i pv (os++os2) (ss++ss2)
 |[],[],_,_,_,h=>h
 |[],_::_,_,_,_,h=>h.elim
 |_::_,[],_,_,_,h=>h.elim
 |o::os,s::ss,i,pv,hR,⟨V,h1,h2,h3⟩=>by
  refine ⟨V,h1,fun ρ1 w1 hj hr=>GN (h2 ρ1 w1 hj hr) fun v w2 h=>⟨hR i w1 w2 (Xr _) (by simp) h.1,h.2⟩,Du os ss (i+1) (dD pv i V) (fun j w w' a b=>hR j w w' Xj (by simp only [XR];omega)) ?_⟩;rw [show i+1+os.length=i+(o::os).length by simp only [XR];omega];exact h3
theorem LP {P:Program}{ops:Array Oper}{J:World→Prop}{R:Nat→World→World→Prop}{ρ:Rf}{T:(Nat→VP)→Prop}:∀(os:List Oper) (ss:List (List (Nat×Option Nat))) (i:Nat) (pv:Nat→VP),(∀j,i≤j→∀v w,pv j v w)→Td P ops J R ρ T i pv os ss→
  ∃V,(∀j,j<i→V j=pv j)∧UQ P ops J V R ρ i os ss∧T V
 |[],[],_,pv,_,h=>⟨pv,fun _ _=>rfl,trivial,h⟩
 |[],_::_,_,_,_,h=>h.elim
 |_::_,[],_,_,_,h=>h.elim
 |o::os,s::ss,i,pv,hpv,⟨V,h1,h2,h3⟩=>by
  obtain ⟨V',h4,h5,h6⟩:=LP os ss (i+1) (dD pv i V) (fun j hj v w=>by rw [l8 _ _ Xj];exact hpv j Xj v w) h3;have e:V' i=V:=by rw [h4 i Xj,z5]
  refine ⟨V',fun j hj=>by rw [h4 j Xj,l8 _ _ Xj],⟨⟨?_, ?_⟩,h5⟩,h6⟩
  ·rw [e];exact h1
  ·intro ρ1 w1 hj hr;rw [e];refine h2 ρ1 w1 hj (nL (fun j v w hh=> ?_) s hr)
   rcases Yb j i with hlt|hge
   ·rw [h4 j Xj,l8 _ _ Xj] at hh;exact hh
   ·exact hpv j hge v w
structure Ext (b:Nat) (e:TypeId) (w w':World):Prop where
 bl:Below b w w'
 sz:w.heap.size≤w'.heap.size
 rest:∀g,g<w.heap.size→w'.heap[g]?=w.heap[g]?∨∃xs xs',w.heap[g]?=some (.cells xs e (0,0))∧w'.heap[g]?=some (.cells xs' e (0,0))∧xs'.size=xs.size
def x7 (S:World→World→Prop) (pv:Nat→VP):List Nat→Prop
 |[]=>True
 |j::r=>(∀v w w',pv j v w→S w w'→pv j v w')∧x7 S pv r
theorem Cd {S:World→World→Prop}{pv:Nat→VP}:∀{Y:List Nat},x7 S pv Y→∀j,j∈Y→∀v w w',pv j v w→S w w'→pv j v w'
 |[],_,_,h=>by cases h
 |_::_,⟨h1,h2⟩,j,h=>by
  rcases XL.1 h with rfl|h
  ·exact h1
  ·exact Cd h2 j h
theorem J0:x7 S pv []:=trivial
theorem gp {r:List Nat} (h:∀v w w',pv j v w→S w w'→pv j v w') (k:x7 S pv r):x7 S pv (j::r):=⟨h,k⟩
theorem Is.wE {c:Value} (v:Value) (w w':World) (h:Is c v w) (_:S w w'):Is c v w':=h
theorem JJ.U3 {H:List HE}{e:TypeId} (hs:Hp w0 H w) (h:JJ w0 H w W) (hx:Ext w.heap.size e W W'):JJ w0 H w W':=by
 have hb:Below w.heap.size w W':=h.bl.trans hx.bl;exact ⟨hs.ext hb,hb⟩
theorem HN {Q:Kq}{id:Nat}{l:List Oper} (fr fl M:List Nat) (m k0:Nat) (X Y:List Nat) (e:TypeId) (src:List (List (Nat×Option Nat))) (ds:List (Nat×Nat)) {H:List HE} (hh:Hp w0 H w) (hm:P.follows .mixedOrders=true) (hok:nF l m N src ds fl M=true) (hkl:EB m k0 X Y M src=true) (hfr:uQ P l fr) (hfm:fr.all (fun i=>i<m)=true) (hQp:NP Q)
  (h:DX P l.toArray (JJ w0 H w) ρ (fun pv=>Td P l.toArray (JJ w0 H w) (RK k0 (Ext w.heap.size e)) ρ (fun V=>x7 (Ext w.heap.size e) V Y∧∀f w',JJ w0 H w w'→wH (MV X V) f w' ds→(∀i∈fr,∀j∈fr,i≠j→f i≠f j)→WL ⟨none,D,false⟩ P N l.toArray Q (l.drop m) (jT ρ f ds) w') (0+((l.take m).take k0).length) pv ((l.take m).drop k0) (src.drop k0)) 0 TU ((l.take m).take k0) (src.take k0)):WC ⟨none,D,false⟩ P N (.region id l.toArray true) Q ρ w:=by
 have h1:=Du _ _ 0 TU (fun j w w' _ hj hb=>by
  have hne:j≠k0:=by
   rw [XP] at hj;omega
  unfold RK;rw [Xp hne];exact hb) h
 rw [Yg,Yg] at h1;obtain ⟨V,_,h2,h3,h4⟩:=LP _ _ _ _ (fun _ _ _ _=>trivial) h1;exact J3 fr fl M m k0 X Y (Ext w.heap.size e) src ds (JJ w0 H w) V hm hok hkl hfr hfm hQp (fun _ _ h hb=>h.ext hb) (fun _ _ h hx=>JJ.U3 hh h hx) (fun _ _ hx=>hx.sz) (JJ.start hh) h2 (Cd h3) h4
theorem Ku {J:World→Prop}{T:(Nat→VP)→Prop}{o:Oper}{os:List Oper}{s:List (Nat×Option Nat)}{ss:List (List (Nat×Option Nat))} (V:VP) (h1:∀v w w',V v w→Below w.heap.size w w'→V v w') (h2:∀ρ1 w1,J w1→cS pv ρ ρ1 w1 s→OG P ops o ρ1 w1 fun v w2=>S w1 w2∧V v w2)
  (k2:DX P ops J ρ T (k+1) (dD pv k V) os ss):Td P ops J (RK k S) ρ T k pv (o::os) (s::ss):=by
 refine ⟨V,h1,fun ρ1 w1 hj hr=>GN (h2 ρ1 w1 hj hr) fun v w2 h=>⟨by unfold RK;rw [Xo rfl];exact h.1,h.2⟩, ?_⟩;have h3:=Du (os2:=[]) (ss2:=[]) (R:=RK k S) (T:=T) os ss (k+1) (dD pv k V) (fun j w w' h _ hb=>by unfold RK;rw [Xp Xj];exact hb) k2;rwa [XZ,XZ] at h3
theorem D2 {t ty e:TypeId}{sz:Nat}{xs:List Value}{A B:Option Addr}{v:Value} (ht:P.underlying t=some (.slice e)) (hte:cQ P e=some (sz,ag,by',zc)) (hown:w.ownsRow base e sz (.slice A n c) n xs) (hsl:Sl w B m sz news) (h1:∀u∈news,u.oneCell'=true) (h63:n+m≤maxLen) (hbytes:(n+m)*by'≤140737488355328) (hb:base≤w.heap.size)
  (hrun:(Builtin.append_ #[t,t] ty #[.slice A n c,.slice B m c']).run P w=.ok v w') (hg:w.grownBy w' (A.map (·.block))):Ext base e w w':=by
 rcases hown.2 with ⟨e1,_⟩|⟨g,cap,cur,e1,h2,h3,h4,_,h5,h6⟩
 ·injection e1 with e1
  subst e1;exact ⟨⟨hg.os,hg.tape,hg.output,hg.size,fun k hk=>hg.block k Xj (by simp)⟩,hg.size,fun k hk=>.inl (hg.block k hk (by simp))⟩
 ·injection e1 with e1 _ e3
  subst e1 e3;refine ⟨⟨hg.os,hg.tape,hg.output,hg.size,fun k hk=>hg.block k Xj (fun h=>by injection h with h;have h:k=g:=h;omega)⟩,hg.size,fun k hk=> ?_⟩;by_cases hkg:k=g
  ·subst hkg;obtain ⟨i,z,dd,hi,hd,hz,hs,hby,hzc,_⟩:=dI hte
   rcases Y3 m with h0|h0
   ·subst h0;have hnews:news=[]:=Y0 (by simpa using hsl.1);subst hnews;have hr:(Builtin.append_ #[t,t] ty #[.slice (some ⟨k,0,none⟩) n c,.slice B 0 c']).run P w=.ok (.slice (some ⟨k,0,none⟩) n c) w:=by
     cases B with
     |none=>exact run_append_nothing w t t ty e i ht hi _ n c h4 _ (Src.ofNil w ht c')
     |some ad=>exact run_append_nothing w t t ty e i ht hi _ n c h4 _ (Src.ofSlice w ht ad 0 c' [] (by simp) (fun j u hu=>by simp at hu) (fun u hu=>by cases hu))
    rw [hr] at hrun;injection hrun with _ hrun
    exact .inl (by rw [hrun])
   ·obtain ⟨ad,rfl,hrd⟩:=hsl.2 h0;by_cases hroom:n+m≤c
    ·have hfit:n*sz+news.length≤cur.size:=by rw [hsl.1,h5,←Zc];exact Yr _ hroom
     subst hs;have hr:=run_append_room (P:=P) w t ty e i ht hi k n c cur h3 ad m c' news hsl.1 hrd h1 hroom hfit;rw [hr] at hrun;injection hrun with _ hrun
     subst hrun;refine .inr ⟨_,_,h3,setRow_heap w k cur _ e _ h3, ?_⟩;simp only [ZL,Xy,XP,Yz,aas];omega
    ·subst hs;subst hby;have hsmall:n+m≤9223372036854775807:=by simp only [maxLen] at h63;omega
     have hr:=run_append_grow (P:=P) w t ty e i z ht hi hz ⟨k,0,none⟩ n c xs hown.1 (hown.cells (g:=k) rfl) ad m c' news hsl.1 hrd Xj Xj (growslice_fits Xj hbytes);rw [hr] at hrun;injection hrun with _ hrun
     subst hrun;exact .inl (((Below.refl w.heap.size w.drew).alloc (Xr _) _).block k hk)
  ·exact .inl (hg.block k hk (fun h=>by injection h with h;have h:k=g:=h;exact hkg h))
def iK (w:World) (t:TypeId) (n:Nat):VP:=fun v W=>∃(b:Nat) (cs:List Value),v=.pointer (some ⟨b,0,none⟩)∧w.heap.size≤b∧cs.length=n∧W.heap[b]?=some (.cells cs.toArray t (0,0))
theorem iK.ext {t:TypeId} (v:Value) (w1 w2:World) (h:iK w t n v w1) (hb:Below w1.heap.size w1 w2):iK w t n v w2:=by
 obtain ⟨b,cs,h1,h2,h3,h4⟩:=h;obtain ⟨b',e1,_,h5⟩:=dm.ext (t:=t) (cs:=cs) v w1 w2 ⟨b,h1,h2,h4⟩ hb;rw [h1] at e1;injection e1 with e1
 injection e1 with e1
 injection e1 with e1
 subst e1;exact ⟨b,cs,h1,h2,h3,h5⟩
theorem iK.wE {e t:TypeId} (v:Value) (w w':World) (h:iK ws t n v w) (hx:Ext b e w w'):iK ws t n v w':=by
 obtain ⟨g,cs,h1,h2,h3,h4⟩:=h;have hlt:g<w.heap.size:=by
  rcases Yb g w.heap.size with hlt|hge
  ·exact hlt
  ·rw [Z5 hge] at h4;cases h4
 rcases hx.rest g hlt with h|⟨xs,xs',h,h',hs⟩
 ·exact ⟨g,cs,h1,h2,h3,h.trans h4⟩
 ·rw [h4] at h;injection h with h
  injection h with h5 h6 _
  subst h5 h6;exact ⟨g,xs'.toList,h1,h2,by rw [aas,hs];simpa using h3,by rw [h']⟩
theorem HJ {d:Option Nat}{ty:TypeId}{af:Array Edge}{t:TypeId}{wr:World} (ht:cQ P t=some (n,ag,by',zc)) (hzl:zc.length=n) (hb:Below wr.heap.size wr w):
  OG P ops ⟨d,.alloc t,ty,pos,af,none⟩ ρ w fun v w2=>Below w.heap.size w w2∧iK wr t n v w2:=jz ht hb fun v w2 ⟨b,h1,h2,h3⟩ hb2=>⟨hb2,b,zc,h1,h2,hzl,h3⟩
theorem G9 {l:List α} (h:l.length=3):∃a b c,l=[a,b,c]:=by
 match l,h with
 |[a,b,c],_=>exact ⟨a,b,c,rfl⟩
theorem DW {d:Option Nat}{ty:TypeId}{af:Array Edge}{t e:TypeId}{x y:Operand}{sz:Nat}{xs:List Value} (hx:n8 base e n sz xs (ev ρ x) w) (hy:∃B c',ev ρ y=.slice B m c'∧Sl w B m sz news)
  (ht:P.underlying t=some (.slice e)) (hte:cQ P e=some (sz,ag,by',zc)) (hzl:zc.length=sz) (hsz:0<sz) (h1:news.all Value.oneCell'=true) (h63:n+m≤maxLen) (hbytes:(n+m)*by'≤140737488355328) (hb:base≤w.heap.size):
  OG P ops ⟨d,.call ⟨.builtin .append, #[x,y], #[t,t]⟩,ty,pos,af,none⟩ ρ w fun v w2=>Ext base e w w2∧n8 base e (n+m) sz (xs++news) v w2:=by
 obtain ⟨A,c,e1,ho⟩:=hx;obtain ⟨B,c',e2,hsl⟩:=hy;obtain ⟨A',c2,w',r1,r2,r3,_⟩:=kX (P:=P) (w:=w) base t ty e sz by' ag zc ht hte hzl hsz A n c xs ho B m c' news hsl (fun u hu=>XI.1 h1 u hu) h63 hbytes hb;refine db rfl (w':=w') (v:=.slice A' (n+m) c2) ?_ ⟨D2 ht hte ho hsl (fun u hu=>XI.1 h1 u hu) h63 hbytes hb r1 r3,A',c2,rfl,r2⟩;simp only [execOp,resolve,invoke,builtin,Sem.run_bind,Sem.run_pure,Result.andThen_ok,aax,XQ,Ye,e1,e2,r1]
def Wy (base:Nat) (t:TypeId) (n sz:Nat) (cs:List Value):VP:=fun v W=>∃A c,v=.agg #[.slice A n c,.slice none 0 0]∧W.ownsRow base t sz (.slice A n c) n cs
end
end
end Go.Proofs.YtolamocnngihpaaGreatDoor
