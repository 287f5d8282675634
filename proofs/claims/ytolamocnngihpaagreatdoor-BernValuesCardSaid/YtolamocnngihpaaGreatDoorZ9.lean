/- The row and the card of BernValues. -/
import Derived.Test.YtolamocnngihpaaGreatDoorCards
import Derived.Test.YtolamocnngihpaaGreatDoorTie
import Derived.SevenTiedAt
import Derived.Test.YtolamocnngihpaaGreatDoorZ8
namespace Go.Proofs.YtolamocnngihpaaGreatDoor
open Go.RowKit
theorem Vq {x:NR} (h:qj x=false):Val 125 x x.d∧Sz 125 (1-x.d):=by
 obtain ⟨h1,h2⟩:=H0 h;refine ⟨⟨h1, ?_,rfl,h2.mono Xk⟩,Sz.sub (Sz.one.mono Xk) h2⟩;unfold qj at h;have h3:=of_decide_eq_false h;omega
theorem FR {f:FX}{ax sd:Int} (e1:f.e=0) (h:sW f ax sd=0):∃a s:Nat,ax=a∧sd=s∧a<f.n∧(s=0∨s=1):=by
 unfold sW at h;by_cases hC:jC f ax≠0
 ·rw [Xo hC] at h;exact absurd h hC
 ·rw [Xp hC] at h;have h0:jC f ax=0:=Y5.1 hC;unfold jC at h0;rw [Xp (fun c=>c e1)] at h0;by_cases h1:ax<0∨(f.n:Int)≤ax
  ·rw [Xo h1] at h0;exact absurd h0 Xk
  ·by_cases h2:sd=0∨sd=1
   ·exact ⟨ax.toNat,sd.toNat,Xj,Xj,Xj,Xj⟩
   ·rw [Xp h2] at h;exact absurd h Xk
theorem uM (ns:List Nat) (a:Nat):(bM ns).eraseIdx a=bM (ns.eraseIdx a):=by
 unfold bM;rw [aaG,aaG,Yc,Zx,Zr]
theorem xT {ns:List Nat}{a:Nat}:au (ns.eraseIdx a)≤au ns:=by
 rw [aaG,de];have h1:au ns=au (ns.take a)*au (ns.drop a):=by rw [←de,Yg]
 rw [h1];refine X4 _ ?_
 cases h:ns.drop a with
 |nil=>
  rw [show ns.drop (a+1)=[] by rw [←Z9,h];rfl];exact Xr _
 |cons x r=>
  rw [show ns.drop (a+1)=r by rw [←Z9,h];rfl,au];exact aaW _ Xj
set_option maxRecDepth 10000 in
theorem qV (p:PX) (L:Option Addr) (n c:Nat) (b:List SR) (M:Option Addr) (m mc:Nat) (t:List NR) (ax sd:Int) (w:World) (hT:dN w) (hp:p.at_ w) (hpc:p.n≤p.c) (hB:Sl w L n 6 (ay SR.cells b)) (hM:Sl w M m 3 (ay NR.cells t)) (hmc:m≤mc):
  Calls Tryz.prog 3 #[.agg #[.int .i64 p.v,.slice p.A p.n p.c],.slice L n c,.slice M m mc,.int .i64 ax,.int .i64 sd] w fun r w'=>r=.returned (.bool true)∧Below w.heap.size w w':=by
 have hh:=Hp.start w;have hbl:b.length=n:=hB.bp SR.len Xk;have hml:t.length=m:=hM.bp NR.len Xk;have hpl:=hp.ln;refine aj (N:=181) (l:=[.agg #[.int .i64 p.v,.slice p.A p.n p.c],.slice L n c,.slice M m mc,.int .i64 ax,.int .i64 sd]) Tryz.func3 rfl rfl (by simp) ?_;refine sr ?_;refine cv hh [_,_] ?_;intro b5 w5 hh;refine aB (aa (ah (sr ?_)));refine cg hh 0 [_,_] (mL ?_);refine aF (zv p L n c b _ (hT.hp hh) (hp.ext hh.below) hpc (hB.ext hh.below)) ar.out rfl Xk ?_;rintro e_ w31 ⟨v,rfl,hv,hb_⟩;refine ⟨_,rfl, ?_⟩;replace hh:=hh.ext hb_
 cases v with
 |false=>
  refine fi ?_;refine mB ?_;refine gS ?_;refine gy ?_;refine eR ?_;exact QW
 |true=>
  obtain ⟨Ub,hs⟩:=hv rfl;clear hv;have f8p:=hs.Vs;have lp:=f8p.k8 hp hpc;refine fi ?_;refine mB (gT (mL ?_));refine aD rfl rfl ?_;refine aF (sl M m mc t none 0 0 [] _ (hM.ext hh.below) (Sl.nil _ _ _)) ar.out rfl Xk ?_;rintro e_ w35 ⟨b1,rfl,hb1,hb_⟩;refine ⟨_,rfl, ?_⟩;replace hh:=hh.ext hb_
  cases b1 with
  |true=>
   refine ez ?_;exact QW
  |false=>
   obtain ⟨m200,_,htf,_⟩:=hb1 rfl;clear hb1;have hof:=fun w1 hT1 hb1=>yj p L n c b none 0 0 [] 124 w1 hT1 (hp.ext hb1) lp (hB.ext hb1) hs.box Xj (Sl.nil _ _ _) Xk (Xr _) Xk (fun h=>hs.grow Xk (C6 h).2.e);have hE0:nW p b []=0→yE p b (dZ p.v p.ts)∧(dw p (br b)).1=0:=fun h=>by
    obtain ⟨a1,a2⟩:=IJ h;exact ⟨(C6 a1).2,a2⟩
   replace hof:∀w1,dN w1→Below w.heap.size w w1→Calls Tryz.prog 9 #[.agg #[.int .i64 p.v,.slice p.A p.n p.c],.slice L n c,.slice none 0 0] w1 fun r w'=>∃g:FX,Out (nW p b []) (dZ p.v p.ts) (sP (dZ p.v p.ts) (dw p (br b)).2) g∧r=.returned (.tuple #[.agg #[.slice g.A g.n g.a,.slice g.B g.m g.b],.int .i64 (nW p b [])])∧Hp w1 [g.qz,g.oV] w':=hof;generalize nW p b []=E at*;refine ez ?_;refine oJ ?_;refine cg hh 0 [_,_] (mL ?_);refine aF (hof _ (hT.hp hh) hh.below) ar.out rfl Xk ?_;rintro e_ w41 ⟨f0,o1,rfl,h4⟩;refine ⟨_,rfl, ?_⟩;have hfa:f0.n≤f0.a:=h4.eJ (i:=1) rfl;have hfm:f0.m≤f0.b:=h4.eJ (i:=0) rfl;replace hh:=hh.join h4;clear h4;simp only [Xw,Xu] at hh;replace hh:=show Hp w (.row f0.B f0.m f0.b 40 3 (ay NR.cells f0.cs)::.row f0.A f0.n f0.a 3 1 (bu f0.ds)::_) _ from hh;by_cases hE:E≠0
   ·refine mT ?_;refine dn ?_;refine dn ?_;refine bP hh ?_;intro b11 w11 hh;refine bR hh 0 [_,_] ?_;intro ws hh;replace hh:Hp _ (.blk _ _ [_,_] _::_) _:=hh;refine aI (aa (ah (sr (mI ?_))));refine cJ (mB ?_);refine gS (gS (gS (gS (gS ?_))));refine eR ?_;exact Ri
   ·by_cases hmn:m≠n
    ·refine mT ?_;refine dn ?_;refine dn ?_;refine bP hh ?_;intro b11 w11 hh;refine bR hh 0 [_,_] ?_;intro ws hh;replace hh:Hp _ (.blk _ _ [_,_] _::_) _:=hh;refine aI (aa (ah (sr (mI ?_))));refine cJ (mB (gT (mL (gT (aH (gT (mL (gT (aH (gT ?_))))))))));refine cJ ?_;refine ez ?_;exact Ri
    ·obtain rfl:m=n:=Xj;obtain rfl:E=0:=Xj;obtain ⟨hF,hZ⟩:=hE0 rfl;clear hE0 hof;have h12:=hF.uz;have hnl:=hF.nl;have hlow:=hF.low;have hmost:=hF.most;have hpv:=hF.v;have hpe:=hF.e;have hlen:=EI (dZ p.v p.ts) (dw p (br b)).2;obtain ⟨e1,e2,e3⟩:=o1.fe (by rw [hnl];exact h12) hlow hlen hmost;obtain ⟨⟨s1,s2⟩,s3⟩:=hs.small Xk Xk hF hZ;have hpa:∀ts:List Dyadic,ts.length=(dZ p.v p.ts).length→iX (dZ p.v p.ts).reverse (sP (dZ p.v p.ts) (dw p (br b)).2) ts=jE (xi b ts.reverse) p.ts:=fun ts ht=>Se hF hZ s2 ht;have hbx:=hs.box;have si:∀ys:List NR,ys.length=m→tV p m=0∧vg p ys=nR (jE (ys.map NR.d) p.ts):=fun ys hy=>by
      have h8:=K0 (p:=p) (ys:=ys) hpe Xj;rw [hy] at h8;exact h8
     have hd5:∀d∈dZ p.v p.ts,d≤4:=Kb hpe hs.ex;have hcn1:=hs.UU hpe;generalize sP (dZ p.v p.ts) (dw p (br b)).2=X at*;generalize dZ p.v p.ts=ns at*;have hXm:X.length≤100:=Xj;have hfn:f0.n=m:=by
      have h8:=(hh.aC (i:=1) rfl).1;rw [bX,e2,ko] at h8;omega
     have hfl:f0.m=X.length:=by
      have h8:=(hh.aC (i:=0) rfl).bp NR.len Xk;rw [e3,XA] at h8;omega
     have hns:f0.ns=ns:=by unfold FX.ns;rw [e2,Dl]
     have hlim:f0.k8 47000:=⟨Xj,Xj,fun z hz=>by
      rw [e3] at hz;obtain ⟨y,hy,rfl⟩:=XG.1 hz;rw [bI];exact ⟨(s3 y hy).ok Xk,s3 y hy⟩⟩
     have htv:∀s∈t,Val 125 s s.d∧Sz 125 (1-s.d):=fun s hs=>Vq (htf s hs);have hV0:iX ns.reverse X (t.map NR.d).reverse=jE (xi b (t.map NR.d)) p.ts:=by
      rw [hpa _ (by rw [X8,XA];omega),ZK]
     have hev1:=fun w1 hT1 ha hS=>lI f0 ns X _ M m mc t 47000 125 4 w1 hT1 o1 ha hfm hS htv Xk Xj hlow hd5 hlen hmost Xj s3 Xk hV0;have hce:∀(A:Option Addr) (c0:Nat) (w1:World),dN w1→p.at_ w1→Sl w1 A m 3 (ay NR.cells (b.mapIdx fun i s=>gU t i s.f))→Calls Tryz.prog 11 #[.agg #[.int .i64 p.v,.slice p.A p.n p.c],.slice A m c0] w1 fun r w'=>r=.returned (.tuple #[.agg #[.bool (nR (jE (xi b (t.map NR.d)) p.ts)).neg,.string (nR (jE (xi b (t.map NR.d)) p.ts)).bg,.int .i64 (nR (jE (xi b (t.map NR.d)) p.ts)).e],.int .i64 0])∧Below w1.heap.size w1 w':=fun A c0 w1 hT1 ha hS=>by
      have h8:=su p (b.mapIdx fun i s=>gU t i s.f) A m c0 300 w1 hT1 ha ⟨lp.n,lp.cap,lp.ok.mono Xk,lp.sz⟩ hS (by rw [aau];exact hbl) (I7 hbx (fun x hx=>(H0 (htf x hx)).2) Xj) Xk;obtain ⟨a1,a2⟩:=si (b.mapIdx fun i s=>gU t i s.f) (by rw [aau];exact hbl);rw [a1,a2,JU Xj] at h8;exact h8
     have hcn:∀k:Nat,k<2^m→I0 f0 k=0∧O8 f0 k=nR (jE (xi b ((iU m k).map nD)) p.ts):=fun k hk=>by
      have h8:I0 f0 k=0:=by
       unfold I0;rw [Xp (fun c=>c e1),Xp (by rw [hfn];omega)]
      refine ⟨h8, ?_⟩;unfold O8;rw [h8,Xo rfl,hns,e3,YN,HI,←Mu,hpa _ (by rw [X8,XA,nt]),ZK,show ns.length=m by omega]
     have hcc:∀(k:Nat) (A:Option Addr) (c0:Nat) (w1:World),dN w1→p.at_ w1→Sl w1 A m 3 (ay NR.cells (b.mapIdx fun i s=>cond (kA (k:Int) i) s.f.hi s.f.lo))→Calls Tryz.prog 11 #[.agg #[.int .i64 p.v,.slice p.A p.n p.c],.slice A m c0] w1 fun r w'=>r=.returned (.tuple #[.agg #[.bool (nR (jE (xi b ((iU m k).map nD)) p.ts)).neg,.string (nR (jE (xi b ((iU m k).map nD)) p.ts)).bg,.int .i64 (nR (jE (xi b ((iU m k).map nD)) p.ts)).e],.int .i64 0])∧Below w1.heap.size w1 w':=fun k A c0 w1 hT1 ha hS=>by
      have h8:=su p (b.mapIdx fun i s=>cond (kA (k:Int) i) s.f.hi s.f.lo) A m c0 300 w1 hT1 ha ⟨lp.n,lp.cap,lp.ok.mono Xk,lp.sz⟩ hS (by rw [aau];exact hbl) (fun y hy=>by
       obtain ⟨i,hi⟩:=YJ.1 hy;rw [ZE] at hi;obtain ⟨s,hs1,rfl⟩:=Zp.1 hi;have h9:=hbx s (Xt hs1);have zl:=(SR.GR h9).mono (show 124≤300 by decide);have zh:=(SR.MP h9).mono (show 124≤300 by decide)
       cases kA (k:Int) i with
       |true=>exact ⟨zh.ok Xk,by show Sz 300 (nR s.H).d;rw [bI];exact zh⟩
       |false=>exact ⟨zl.ok Xk,by show Sz 300 (nR s.L).d;rw [bI];exact zl⟩) Xk
      obtain ⟨a1,a2⟩:=si (b.mapIdx fun i s=>cond (kA (k:Int) i) s.f.hi s.f.lo) (by rw [aau];exact hbl);rw [a1,a2,Nf h12,hbl] at h8;exact h8
     have hbo:∀s∈b,s.ok:=fun s hs=>⟨(hbx s hs).1.ok,(hbx s hs).2.ok⟩;have hsh:=FI (n:=m) Xj;generalize hVV:jE (xi b (t.map NR.d)) p.ts=V0 at*;have hck:=fun w1 hT1 ha=>qR f0 47000 w1 hT1 ha hlim;rw [e1] at hck;refine mT ?_;refine dn ?_;refine dn ?_;refine bP hh ?_;intro b11 w11 hh;refine bR hh 0 [_,_] ?_;intro ws hh;replace hh:Hp _ (.blk _ _ [_,_] _::_) _:=hh;refine aI (aa (ah (sr (mI ?_))));refine cJ (mB (gT (mL (gT (aH (gT (mL (gT (aH (gT ?_))))))))));refine cJ ?_;refine ez ?_;refine oJ ?_;refine cg hh 0 [_,_] (mL ?_);refine bA hh (hev1 _ (hT.hp hh) ⟨hh.aC (i:=2) rfl,hh.aC (i:=1) rfl⟩ (hM.ext hh.below)) rfl ?_;intro w57 hh;refine mT ?_;refine dn ?_;refine dn ?_;refine bP hh ?_;intro b13 w13 hh;refine bR hh 0 [_,_,_] ?_;intro ws hh;replace hh:Hp _ (.blk _ _ [_,_,_] _::_) _:=hh;refine aI (aa (ah ?_))
     refine dy [8] [7] [0,0,0,6,15,31,63,63,0,383,1023] 9 [[(5,none)],[(1,none)],[(2,none)],[(62,some 1),(63,some 2)],[(61,some 0),(64,some 3)],[(65,some 4)],[(60,some 5)],[(60,some 5)],[]] [(8,15),(7,67),(6,66),(5,60),(4,65),(3,64),(2,63),(1,62),(0,61)] hh mixed Xl (jV rfl aM.out dO) rfl (by repeat (first|exact cu|refine bQ ?_|refine ct ?_)) ?_;refine fG 4 [_,_] ?_;refine fS ?_;refine fS ?_;refine J8 (i:=3) (fun ρ1 w1 hj hR=>aJ ar.out (av (show ρ1 62=Value.slice _ _ _ from hR.1) (av (show ρ1 63=Value.slice _ _ _ from hR.2.1) aU))) (fun w1 hj=>zG L m c b M m mc t 124 _ (hT.hp hj.hp) (hB.ext hj.hp.below) hbx (hM.ext hj.hp.below) (fun x hx=>H0 (htf x hx)) Xj Xj Xk) ?_;refine aQ (i:=4) (Is (.tuple #[.agg #[.bool (nR V0).neg,.string (nR V0).bg,.int .i64 (nR V0).e],.int .i64 0])) Is.ext ?_ ?_
     ·intro ρ1 w1 hj hR;obtain ⟨A64,c64,h64,s64⟩:=hR.2.1;exact aY rfl (aJ ar.out (av (show ρ1 61=Value.agg (List.toArray _) from hR.1) (av h64 aU))) (hce A64 c64 _ (hT.hp hj.hp) (hp.ext hj.hp.below) s64) (fun _ _ hq=>⟨_,hq.1,hq.2,rfl⟩)
     refine Ur ?_;refine J4 ?_;refine J4 ?_;refine Le ?_;refine aO ?_;intro f W hJ hV _;have hb_7:=hJ.bl;obtain ⟨v15,v67,v66,v60,v65,v64,v63,v62,v61,_⟩:=hV;obtain ⟨A64,c64,e64,f64⟩:Rows _ _ _ (f 3) W:=v64;obtain ⟨b15,e15,hl15,hc15⟩:dm _ _ _ (f 8) W:=v15;replace hh:=hJ.newVar hh hl15 hc15;refine aW (bm (ae e15 (ae v67 (ae v66 (ae v60 (ae v65 (ae e64 (ae v63 (ae v62 (ae v61 aV)))))))))) ?_;dsimp only [cd];clear e64 e15 hJ;replace hh:=show Hp w (.blk b15 40 [.bool false,.string ⟨#[]⟩,.int .i64 0] (0,0)::_) W from hh;refine bR hh 0 [_,_,_] ?_;intro ws hh;replace hh:Hp _ (.blk _ _ [_,_,_] _::_) _:=hh;refine aI (aa (ah (sr ?_)));refine cg hh 2 [_,_] ?_;refine bA hh (hck _ (hT.hp hh) ⟨hh.aC (i:=4) rfl,hh.aC (i:=3) rfl⟩) rfl ?_;intro w69 hh;refine cJ (mB (gT (mI (gT ?_))));refine cJ ?_;refine ez ?_;refine mB (gT (mI (gT ?_)));refine cJ ?_;refine ez ?_;refine mB (gT ?_);refine cg hh 1 [_,_,_] (gT ?_);refine cg hh 0 [_,_,_] (gT ?_)
     (first|refine tw rfl rfl (by first|assumption|rfl) Xk ?_|refine yD rfl rfl (by assumption) Xk ?_)
     refine ez ?_;refine aa (cF (aq (ai (ah (sr (aI (aa (ao ?_))))))));refine aR [10,17,18,19,20,21,84,85,86,87,88,89,90,91,92,93,94,95,96,97,98,99,100,101,102,103,104,105,106,107,108,109,110,111,112,113,114,115,116,117,118,119] 17
      (fun v w'=>∃k:Nat,k≤8∧v=.int .i64 k∧Hp w [.blk b15 40 [.bool (nR V0).neg,.string (nR V0).bg,.int .i64 (nR V0).e] (0,0),.blk b13 40 [.bool (nR V0).neg,.string (nR V0).bg,.int .i64 (nR V0).e] (0,0),.blk b11 33 [.slice f0.A f0.n f0.a,.slice f0.B f0.m f0.b] (0,0),.row f0.B f0.m f0.b 40 3 (ay NR.cells f0.cs),.row f0.A f0.n f0.a 3 1 (bu f0.ds),.blk b5 24 [.int .i64 p.v,.slice p.A p.n p.c] (0,0)] w')
      (fun v _=>8-(intOf v).toNat) ?_ ?_
     ·exact ⟨0,Xs _,rfl,hh⟩
     ·clear hh;rintro ρ' v_ w' ⟨k,hk8,rfl,hh⟩;by_cases hk:k<8
      ·by_cases hk2:k<2^m
       ·obtain ⟨c1,c2⟩:=hcn k hk2;have hco:=fun w1 hT1 ha=>yB f0 (k:Int) 47000 w1 hT1 ha hlim Xj Xj;rw [c1,c2] at hco;have hcx:=hcc k;generalize jE (xi b ((iU m k).map nD)) p.ts=V1 at*;refine ah (sr (mI ?_));refine bf (mB (gT (mI (gT (mL (gT (aH ?_)))))));refine aD rfl rfl ?_;refine FK rfl rfl Xj Xk ?_;rw [hsh];generalize hZZ:((2^m:Nat):Int)=Z at*;refine gT ?_;refine bf ?_;refine eR ?_;refine aa (cT (aq (ai (ah (ao (sr ?_))))));refine cg hh 2 [_,_] (mI ?_);refine bA hh (hco _ (hT.hp hh) ⟨hh.aC (i:=4) rfl,hh.aC (i:=3) rfl⟩) rfl ?_;intro w98 hh;refine mT ?_;refine dn ?_;refine dn ?_;refine bP hh ?_;intro b18 w18 hh;refine bR hh 0 [_,_,_] ?_;intro ws hh;replace hh:Hp _ (.blk _ _ [_,_,_] _::_) _:=hh;refine aI (aa (ah ?_));refine dy [8] [7] [0,0,0,6,15,31,63,63,0,383,1023] 9 [[(5,none)],[(1,none)],[(17,none)],[(103,some 1),(104,some 2)],[(102,some 0),(105,some 3)],[(106,some 4)],[(101,some 5)],[(101,some 5)],[]] [(8,20),(7,108),(6,107),(5,101),(4,106),(3,105),(2,104),(1,103),(0,102)] hh mixed Xl (jV rfl aM.out dO) rfl (by repeat (first|exact cu|refine bQ ?_|refine ct ?_)) ?_;refine fG 6 [_,_] ?_
        refine fS ?_;refine dJ ?_;refine J8 (i:=3) (fun ρ1 w1 hj hR=>aJ ar.out (av (show ρ1 103=Value.slice _ _ _ from hR.1) (av (show ρ1 104=Value.int _ _ from hR.2.1) aU))) (fun w1 hj=>wA L m c b (k:Int) _ (hT.hp hj.hp) (hB.ext hj.hp.below) hbo Xj) ?_;refine aQ (i:=4) (Is (.tuple #[.agg #[.bool (nR V1).neg,.string (nR V1).bg,.int .i64 (nR V1).e],.int .i64 0])) Is.ext ?_ ?_
        ·intro ρ1 w1 hj hR;obtain ⟨A105,c105,h105,s105⟩:=hR.2.1;exact aY rfl (aJ ar.out (av (show ρ1 102=Value.agg (List.toArray _) from hR.1) (av h105 aU))) (hcx A105 c105 _ (hT.hp hj.hp) (hp.ext hj.hp.below) s105) (fun _ _ hq=>⟨_,hq.1,hq.2,rfl⟩)
        refine Ur ?_;refine J4 ?_;refine J4 ?_;refine Le ?_;refine aO ?_;intro f W hJ hV _;have hb_14:=hJ.bl;obtain ⟨v20,v108,v107,v101,v106,v105,v104,v103,v102,_⟩:=hV;obtain ⟨A105,c105,e105,f105⟩:Rows _ _ _ (f 3) W:=v105;obtain ⟨b20,e20,hl20,hc20⟩:dm _ _ _ (f 8) W:=v20;replace hh:=hJ.newVar hh hl20 hc20;refine aW (bm (ae e20 (ae v108 (ae v107 (ae v101 (ae v106 (ae e105 (ae v104 (ae v103 (ae v102 aV)))))))))) ?_;dsimp only [cd];clear e105 e20 hJ;replace hh:=show Hp w (.blk b20 40 [.bool false,.string ⟨#[]⟩,.int .i64 0] (0,0)::_) W from hh;refine bR hh 0 [_,_,_] ?_;intro ws hh;replace hh:Hp _ (.blk _ _ [_,_,_] _::_) _:=hh;refine aI (aa (sr (mI ?_)));refine cJ (mB (gT (mI (gT ?_))));refine cJ ?_;refine ez ?_;refine mB (gT ?_);refine cg hh 1 [_,_,_] (gT ?_);refine cg hh 0 [_,_,_] (gT ?_)
        (first|refine tw rfl rfl (by first|assumption|rfl) Xk ?_|refine yD rfl rfl (by assumption) Xk ?_)
        refine ez ?_;refine rQ ?_;refine bk (aI (aA (ai ?_)));replace hh:=hh.sub (Xv _ (Xv _ (Xq _ (Xq _ (Xq _ (Xq _ (Xq _ (Xq _ XU))))))));refine ⟨⟨k+1,Xj,rfl,hh⟩,by show 8-(k+1)<8-k;omega, ?_⟩;exact dV
       ·refine ah (sr (mI ?_));refine bf (mB (gT (mI (gT (mL (gT (aH ?_)))))));refine aD rfl rfl ?_;refine FK rfl rfl Xj Xk ?_;rw [hsh];generalize hZZ:((2^m:Nat):Int)=Z at*;refine gT ?_;refine bf ?_;refine eR ?_;refine aa (cF (a6 (aE (aE (bq (ai (sr ?_)))))));refine cg hh 2 [_,_] (mI (mI ?_));by_cases hfE:sW f0 ax sd≠0
        ·exact Tn
        ·obtain ⟨a,s,rfl,rfl,ham,hss⟩:=FR e1 (Y5.1 hfE);rw [hfn] at ham;obtain ⟨d,hd⟩:=ak (l:=ns) (k:=a) Xj;have hfc:=fun w1 hT1 ha=>u9 f0 a d s 47000 w1 hT1 ha hlim hfa e1 (by rw [hns];exact hd) hss;have hXX:f0.cs.map NR.d=X:=by
          exact PB
         rw [hns,hXX] at hfc;obtain ⟨fv1,fv2⟩:=yd (X:=X) (T:=t.map NR.d) hd hlen (by rw [XA];omega) hss;rw [←hfl] at fv1 fv2;have hfz:∀x∈j8 (au (ns.drop (a+1))) d (d*s) X f0.m,Sz 47000 x:=fun x hx=>by
          exact UG
         have hfl2:=xT (ns:=ns) (a:=a);have he1:(ns.eraseIdx a).length=m-1:=by rw [List.length_eraseIdx_of_lt Xj];omega
         have he2:∀x∈ns.eraseIdx a,x∈ns:=fun x hx=>(List.eraseIdx_sublist ns a).subset hx;generalize j8 (au (ns.drop (a+1))) d (d*s) X f0.m=Y at*;generalize hV1:iX ns.reverse X ((t.map NR.d).set a (nD s)).reverse=V1 at*;refine aF (hfc _ (hT.hp hh) ⟨hh.aC (i:=4) rfl,hh.aC (i:=3) rfl⟩) ar.out rfl Xk ?_;rintro e_ w124 ⟨g,g1,g2,g3,g4,rfl,h4⟩;refine ⟨_,rfl, ?_⟩;have hgm:g.m≤g.b:=h4.eJ (i:=0) rfl;replace hh:=hh.join h4;clear h4;simp only [Xw,Xu] at hh;replace hh:=show Hp w (.row g.B g.m g.b 40 3 (ay NR.cells g.cs)::.row g.A g.n g.a 3 1 (bu g.ds)::_) _ from hh;have og:Out 0 (ns.eraseIdx a) Y g:=⟨by rw [g1,e2];exact uM ns a,g2,g3,g4⟩;have hone:((ay NR.cells t).all Value.oneCell')=true:=bT NR.one _;have hvs:Val 125 (nR (nD s)) (nD s)∧Sz 125 (1-nD s):=by
          exact Ts
         have heu:=fun A c0 w1 hT1 ha hS=>lI g (ns.eraseIdx a) Y V1 A (a+(m-(a+1))) c0 (t.take a++t.drop (a+1)) 47000 125 4 w1 hT1 og ha hgm hS (fun z hz=>htv z (by
          rcases X3.1 hz with hz|hz
          ·exact YY hz
          ·exact ZD hz)) Xk Xj (fun x hx=>hlow x (he2 x hx)) (fun x hx=>hd5 x (he2 x hx)) fv2 Xj Xj hfz Xk (by rw [Yc,Zx,Zr];exact fv1)
         have hev2:=fun A c0 w1 hT1 ha hS=>lI f0 ns X V1 A m c0 (t.set a (nR (nD s))) 47000 125 4 w1 hT1 o1 ha hfm hS (fun z hz=>by
          rcases aaC hz with hz|rfl
          ·exact htv z hz
          ·rw [bI];exact hvs) Xk Xj hlow hd5 hlen hmost Xj s3 Xk (by rw [Zv,bI];exact hV1)
         have her:(ay NR.cells t).take (a*3)++(ay NR.cells t).drop ((a+1)*3)=ay NR.cells (t.take a++t.drop (a+1)):=by
          rw [jg NR.len,iy NR.len,bD]
         have ho1:((ay NR.cells t).take (a*3)).all Value.oneCell'=true:=XI.2 fun x hx=>XI.1 hone x (YY hx);have ho2:((ay NR.cells t).drop ((a+1)*3)).all Value.oneCell'=true:=XI.2 fun x hx=>XI.1 hone x (ZD hx);refine mT ?_;refine dn ?_;refine dn ?_;refine bP hh ?_;intro b22 w22 hh;refine bR hh 0 [_,_] ?_;intro ws hh;replace hh:Hp _ (.blk _ _ [_,_] _::_) _:=hh;refine aI (aa (ah (sr (mI ?_))));refine mU ?_;refine bf (mB (gT (mI (gT (mL (gT (aH (gT ?_))))))));refine dL ?_;refine ez ?_;refine oJ ?_;refine Br ?_;intro b138 w138 hh;refine mL ?_;refine cw hh (i:=0) rfl rfl rfl (hM.ext hh.below) bh.out aM.out rfl Xk ?one1 Xj Xj Xk ?kk1
         case one1=>first|rfl|assumption|exact bF _|exact oneCells_u8s _
         exact Wf
      ·refine ah (sr (mI ?_));refine bf (mB ?_);refine gS (gS (gS ?_));refine gy ?_;refine gS ?_;refine ez ?_;refine aa (cF (a6 (aE (aE (bq (ai (sr ?_)))))));refine cg hh 2 [_,_] (mI (mI ?_));by_cases hfE:sW f0 ax sd≠0
       ·exact Tn
       ·obtain ⟨a,s,rfl,rfl,ham,hss⟩:=FR e1 (Y5.1 hfE);rw [hfn] at ham;obtain ⟨d,hd⟩:=ak (l:=ns) (k:=a) Xj;have hfc:=fun w1 hT1 ha=>u9 f0 a d s 47000 w1 hT1 ha hlim hfa e1 (by rw [hns];exact hd) hss;have hXX:f0.cs.map NR.d=X:=by
         exact PB
        rw [hns,hXX] at hfc;obtain ⟨fv1,fv2⟩:=yd (X:=X) (T:=t.map NR.d) hd hlen (by rw [XA];omega) hss;rw [←hfl] at fv1 fv2;have hfz:∀x∈j8 (au (ns.drop (a+1))) d (d*s) X f0.m,Sz 47000 x:=fun x hx=>by
         exact UG
        have hfl2:=xT (ns:=ns) (a:=a);have he1:(ns.eraseIdx a).length=m-1:=by rw [List.length_eraseIdx_of_lt Xj];omega
        have he2:∀x∈ns.eraseIdx a,x∈ns:=fun x hx=>(List.eraseIdx_sublist ns a).subset hx;generalize j8 (au (ns.drop (a+1))) d (d*s) X f0.m=Y at*;generalize hV1:iX ns.reverse X ((t.map NR.d).set a (nD s)).reverse=V1 at*;refine aF (hfc _ (hT.hp hh) ⟨hh.aC (i:=4) rfl,hh.aC (i:=3) rfl⟩) ar.out rfl Xk ?_;rintro e_ w124 ⟨g,g1,g2,g3,g4,rfl,h4⟩;refine ⟨_,rfl, ?_⟩;have hgm:g.m≤g.b:=h4.eJ (i:=0) rfl;replace hh:=hh.join h4;clear h4;simp only [Xw,Xu] at hh;replace hh:=show Hp w (.row g.B g.m g.b 40 3 (ay NR.cells g.cs)::.row g.A g.n g.a 3 1 (bu g.ds)::_) _ from hh;have og:Out 0 (ns.eraseIdx a) Y g:=⟨by rw [g1,e2];exact uM ns a,g2,g3,g4⟩;have hone:((ay NR.cells t).all Value.oneCell')=true:=bT NR.one _;have hvs:Val 125 (nR (nD s)) (nD s)∧Sz 125 (1-nD s):=by
         exact Ts
        have heu:=fun A c0 w1 hT1 ha hS=>lI g (ns.eraseIdx a) Y V1 A (a+(m-(a+1))) c0 (t.take a++t.drop (a+1)) 47000 125 4 w1 hT1 og ha hgm hS (fun z hz=>htv z (by
         rcases X3.1 hz with hz|hz
         ·exact YY hz
         ·exact ZD hz)) Xk Xj (fun x hx=>hlow x (he2 x hx)) (fun x hx=>hd5 x (he2 x hx)) fv2 Xj Xj hfz Xk (by rw [Yc,Zx,Zr];exact fv1)
        have hev2:=fun A c0 w1 hT1 ha hS=>lI f0 ns X V1 A m c0 (t.set a (nR (nD s))) 47000 125 4 w1 hT1 o1 ha hfm hS (fun z hz=>by
         rcases aaC hz with hz|rfl
         ·exact htv z hz
         ·rw [bI];exact hvs) Xk Xj hlow hd5 hlen hmost Xj s3 Xk (by rw [Zv,bI];exact hV1)
        have her:(ay NR.cells t).take (a*3)++(ay NR.cells t).drop ((a+1)*3)=ay NR.cells (t.take a++t.drop (a+1)):=by
         rw [jg NR.len,iy NR.len,bD]
        have ho1:((ay NR.cells t).take (a*3)).all Value.oneCell'=true:=XI.2 fun x hx=>XI.1 hone x (YY hx);have ho2:((ay NR.cells t).drop ((a+1)*3)).all Value.oneCell'=true:=XI.2 fun x hx=>XI.1 hone x (ZD hx);refine mT ?_;refine dn ?_;refine dn ?_;refine bP hh ?_;intro b22 w22 hh;refine bR hh 0 [_,_] ?_;intro ws hh;replace hh:Hp _ (.blk _ _ [_,_] _::_) _:=hh;refine aI (aa (ah (sr (mI ?_))));refine mU ?_;refine bf (mB (gT (mI (gT (mL (gT (aH (gT ?_))))))));refine dL ?_;refine ez ?_;refine oJ ?_;refine Br ?_;intro b138 w138 hh;refine mL ?_;refine cw hh (i:=0) rfl rfl rfl (hM.ext hh.below) bh.out aM.out rfl Xk ?one2 Xj Xj Xk ?kk2
        case one2=>first|rfl|assumption|exact bF _|exact oneCells_u8s _
        exact Wf
end Go.Proofs.YtolamocnngihpaaGreatDoor
namespace Go.Proofs.YtolamocnngihpaaGreatDoor.bernValues
open Go.ChangeShapes Go.WideShapes Go.ChangeAt Go.RowKit Go.ChangeMaps
theorem own:ownKnob Tryz.prog.godebug=none:=by kernel_rfl
set_option maxRecDepth 100000 in
theorem lifted (os:Os) (started:os.Started) (H:Type) (enc:TypeId×Value→H):
  ReturnsInHanded {} Tryz.checked os 3 .any (fun w args=>(Rows.bernValuesSpec.pre enc Tryz.prog Tryz.f3 Rows.bernValuesRow.domain false w args∧laidMetH Tryz.prog Rows.bernValuesRow.laid w)∧sizedMet enc Tryz.prog Tryz.f3 (OpenSpec.ofChange Rows.bernValuesSpec) false w args)
   (Rows.bernValuesSpec.post enc Tryz.prog Tryz.f3 false true false false):=by
 refine returnsInHanded_of_change_and (C:=Tryz.checked) (X:=fun w _=>laidMetH Tryz.prog Rows.bernValuesRow.laid w) (fun _ _ _ hh h=>h.of_heap hh) own started Xl Tryz.func3
  (ChangeSpec.witness_shaped (enc:=enc) (C:=Tryz.checked) (os:=os) (X:=fun w _=>laidMetH Tryz.prog Rows.bernValuesRow.laid w) false (World.laidAll Tryz.prog os Rows.bernValuesRow.laid) #[.agg #[.int .i64 0,.slice none 0 0],.slice none 0 0,.slice none 0 0,.int .i64 0,.int .i64 0] 8 (World.laidAll_os _ _ _)
   (World.shaped_of_ZipB Xl Xl) Xl Xl Xl
   (by rw [MakeChecks.laidMetH_plain _ _ _ Xl];exact laidMet_laidAll _ Xl Xl)) ?_
 intro W base args ds gs before hval0 hW hc _ hL _;have hval:∀(j:Nat) t v,Tryz.f3.params[j]?=some t→args[j]?=some v→Value.okWide Tryz.prog W .any base t v:=hval0;have hW':=hW;obtain ⟨p,q,hA0,hV,rfl,hfz,hnd⟩:=hW;have hA:DataW.TrodAll enc Tryz.prog W 0 (fun _=>true) true Tryz.f3.params.toList args.toList ds p:=hA0;rw [Tryz.params3] at hA hval;obtain ⟨v0,vs0,d0,ds0,p0,q0,hargs,rfl,rfl,h0,r0⟩:=trodAll_cons hA;obtain ⟨v1,vs1,d1,ds1,p1,q1,rfl,rfl,rfl,h1,r1⟩:=trodAll_cons r0;obtain ⟨v2,vs2,d2,ds2,p2,q2,rfl,rfl,rfl,h2,r2⟩:=trodAll_cons r1;obtain ⟨v3,vs3,d3,ds3,p3,q3,rfl,rfl,rfl,h3,r3⟩:=trodAll_cons r2;obtain ⟨v4,vs4,d4,ds4,p4,q4,rfl,rfl,rfl,h4,r4⟩:=trodAll_cons r3;obtain ⟨rfl,rfl,rfl⟩:=trodAll_nil r4;obtain rfl:args= #[v0,v1,v2,v3,v4]:=by cases args;simp_all
 obtain ⟨rfl,rfl⟩:=trodVars_none hV;obtain ⟨f0,rfl,hS0,hR0⟩:=Hi (hval 0 24 v0 rfl rfl) h0;obtain ⟨A1,n1,c1,l1,rfl,hS1,_⟩:=L3 (hval 1 26 v1 rfl rfl) h1;obtain ⟨A2,n2,c2,l2,rfl,hS2,hR2⟩:=DG (hval 2 27 v2 rfl rfl) h2;obtain ⟨x3,rfl,rfl,rfl,b3⟩:=open_int Tryz.underlying3 (hval 3 3 v3 rfl rfl) h3;obtain ⟨x4,rfl,rfl,rfl,b4⟩:=open_int Tryz.underlying3 (hval 4 3 v4 rfl rfl) h4;refine (qV f0 A1 n1 c1 l1 A2 n2 c2 l2 x3 x4 W (AL hL) hS0 hR0 hS1 hS2 hR2).mono fun e W' ⟨he,hb⟩=> ?_;subst he;exact ⟨_,rfl,Lg hW' rfl Xl (by rw [Tryz.params3];exact Y1 Xl) Xl Tryz.underlying4 rfl rfl rfl hb⟩
set_option maxHeartbeats 8000000 in
theorem row_holds:Rows.BernValuesSaid:=
 OpenClaim.holds_of_wide 3 Tryz.f3 rfl rfl rfl rfl rfl rfl rfl ⟨rfl,rfl,rfl,rfl,rfl⟩ rfl rfl rfl rfl rfl (by as_aux_lemma=>kernel_rfl) Tryz.func3 (by rw [joinedFacts];simp only [XF];and_intros<;>as_aux_lemma=>kernel_rfl)
  (Y1 (by as_aux_lemma=>kernel_rfl)) (by unfold Func.isWrapper;first|(rw [Xo (by decide+kernel)];kernel_rfl)|(rw [Xp (by decide+kernel)];exact ⟨rfl,rfl⟩))
  (fun os started H enc _=>lifted os started H enc)
set_option maxHeartbeats 8000000 in
theorem holds:Rows.BernValuesCardSaid:=
 Claim7.holds_tied_plain_at .later [] [.data,.data,.pinned] true (true, "15fc428570404c1c4f877d5cd081ecd01040701ee8595d1e80cdc073447d7c3e") false row_holds (fun _ h=>by cases h) (by as_aux_lemma=>kernel_rfl) (fun _ h=>by cases h) bernValues_row_tie rfl ⟨rfl,rfl⟩ (by as_aux_lemma=>kernel_rfl) rfl
  (fun f fn hf hfn=>by
   obtain rfl:f=3:=Yd ((show Tryz.prog.funcNamed "ogee/ogeelaw12.BernValues" =some 3 by as_aux_lemma=>kernel_rfl).symm.trans hf)|>.symm;obtain rfl:fn=Tryz.f3:=(Yd (Tryz.func3.symm.trans hfn)).symm;exact ⟨by as_aux_lemma=>kernel_rfl,fun j t ht=>by
    rw [Tryz.params3] at ht;have hm:t∈[24,26,27,3,3]:=by simpa using Array.mem_of_getElem? ht
    have hall:([24,26,27,3,3].all fun u=> !Tryz.prog.wantsStandIn u)=true:=by as_aux_lemma=>kernel_rfl
    exact (show Tryz.prog.wantsStandIn t=false by simpa using XI.1 hall t hm)⟩)
  (by as_aux_lemma=>kernel_rfl)
#print axioms holds
end Go.Proofs.YtolamocnngihpaaGreatDoor.bernValues
