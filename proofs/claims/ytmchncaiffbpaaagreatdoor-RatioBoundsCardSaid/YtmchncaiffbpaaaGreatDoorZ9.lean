/- The row and the card of RatioBounds. -/
import Derived.Test.YtmchncaiffbpaaaGreatDoorCards
import Derived.Test.YtmchncaiffbpaaaGreatDoorTie
import Derived.SevenTiedAt
import Derived.Test.YtmchncaiffbpaaaGreatDoorZ8
set_option linter.all false
set_option maxHeartbeats 0
namespace Go.Proofs.YtmchncaiffbpaaaGreatDoor
variable {W w1:World}{b base m:Nat}{fz:Nat×Nat}
open Go.RowKit
def fy (K:ZT):VP:=fun v W=>∃p:PX,v=.agg #[.int .i64 p.v,.slice p.A p.n p.c]∧p.v=1∧p.ts=zT K∧p.at_ W∧p.n≤p.c∧p.n≤1000
theorem fy.ext {K:ZT} (v:Value) (w w':World) (h:fy K v w) (hb:Below w.heap.size w w'):fy K v w':=let ⟨p,h1,h2,h3,h4,h5⟩:=h;⟨p,h1,h2,h3,h4.ext hb,h5⟩
theorem uF (a b:Int) (K:ZT) (w:World) (h:(decide (-200≤a∧a≤200∧ -200≤b∧b≤200∧K.length≤1000) && (zC K && zE K [([0],a),([1],b)]))=true):
  Calls Tryz.prog 31 #[.int .i64 a,.int .i64 b] w fun r w'=>∃v,r=.returned v∧fy K v w'∧Below w.heap.size w w':=by
 rw [Z7,aad] at h;obtain ⟨⟨h1,h2,h3,h4,h5⟩,hK⟩:=h;refine (xW a b K w ⟨h1,h2⟩ ⟨h3,h4⟩ hK).mono fun r w' ⟨p,e1,e2,hr,hh⟩=>⟨_,hr,⟨p,rfl,e1,e2,hh.ar (i:=0) rfl,hh.gO (i:=0) rfl, ?_⟩,hh.below⟩;have:=(show p.at_ w' from hh.ar (i:=0) rfl).ln;rw [e2,zT,ZY] at this;omega
def kz (R:RV):VP:=fun v W=>∃g:Option Addr×Nat,v=.agg (R.cells g.1 1 g.2).toArray∧Sl W g.1 1 3 (ao NR.cells R.at_)
theorem kz.ext {R:RV} (v:Value) (w w':World) (h:kz R v w) (hb:Below w.heap.size w w'):kz R v w':=let ⟨g,h1,h2⟩:=h;⟨g,h1,h2.ext hb⟩
def iY (base:Nat) (R:RV) (k:Int):VP:=fun x W=>∃(g:Option Addr×Nat×Nat) (w1:World),x=.tuple #[.agg (R.cells g.1 g.2.1 g.2.2).toArray,.int .i64 k,.int .i64 0]∧True∧base≤w1.heap.size∧Hp w1 [.row g.1 g.2.1 g.2.2 33 3 (ao NR.cells R.at_)] W
theorem iY.ext {R:RV}{k:Int} (x:Value) (w w':World) (h:iY base R k x w) (hb:Below w.heap.size w w'):iY base R k x w':=let ⟨g,w1,h1,h2,h3,h4⟩:=h;⟨g,w1,h1,h2,h3,h4.ext hb⟩
def ky (base:Nat) (R:RV):VP:=fun x W=>∃(g:Option Addr×Nat×Nat) (w1:World),x=.agg (R.cells g.1 g.2.1 g.2.2).toArray∧True∧base≤w1.heap.size∧Hp w1 [.row g.1 g.2.1 g.2.2 33 3 (ao NR.cells R.at_)] W
theorem ky.ext {R:RV} (x:Value) (w w':World) (h:ky base R x w) (hb:Below w.heap.size w w'):ky base R x w':=let ⟨g,w1,h1,h2,h3,h4⟩:=h;⟨g,w1,h1,h2,h3,h4.ext hb⟩
theorem RV.ne {A:Option Addr}{c:Nat}{xs:List Value}{t:TypeId}{cs:Array Value} (h:Hp w1 [.row A m c 33 3 xs] W) (h3:W.heap[b]?=some (.cells cs t fz)) (h1:33≠t):∀x∈[HE.row A m c 33 3 xs],x.id≠some b:=fun x hx=>by
 have hx2:=h.own x hx;obtain rfl:=aaa.1 hx;exact n6 hx2 h3 h1
def Xv (A:Option Addr) (c:Nat) (B:Option Addr) (d:Nat) (a b:Int):FX:=⟨A,1,c,B,2,d,[1],[nR (a:Dyadic),nR (b:Dyadic)]⟩
theorem Ok (x0 x1 y0 y1 E:Int) (V:SR) (A:Option Addr) (c:Nat) (B:Option Addr) (d:Nat) (A2:Option Addr) (c2:Nat) (B2:Option Addr) (d2:Nat) (w:World) (hT:dO w) (h1:(Xv A c B d x0 x1).at_ w∧1≤c) (h2:(Xv A2 c2 B2 d2 y0 y1).at_ w∧1≤c2) (ho:CV.ok ⟨[],[1],fS [x0,x1],fS [y0,y1]⟩)
  (hE:jC (rn [1] (fS [x0,x1])) (rn [1] (fS [y0,y1]))=E) (hV:fP (rn [1] (fS [x0,x1])) (rn [1] (fS [y0,y1])) 0=V):
  Calls Tryz.prog 9 #[.agg #[.slice A 1 c,.slice B 2 d],.agg #[.slice A2 1 c2,.slice B2 2 d2],.int .i64 0] w fun r w'=>r=.returned (.tuple #[.agg (SR.cells V).toArray,.int .i64 E])∧Below w.heap.size w w':=by
 have h:=qY ⟨none,0,0,Xv A c B d x0 x1,Xv A2 c2 B2 d2 y0 y1,⟨[],[1],fS [x0,x1],fS [y0,y1]⟩⟩ 0 w hT ⟨Sl.nil _ _ _,⟨h1.1,h1.2⟩,⟨h2.1,h2.2⟩⟩ ⟨⟨rfl,rfl⟩,rfl,rfl⟩ ho ZC ZC;rw [show fP (CV.f ⟨[],[1],fS [x0,x1],fS [y0,y1]⟩) (CV.g ⟨[],[1],fS [x0,x1],fS [y0,y1]⟩) 0=V from hV,show jC (CV.f ⟨[],[1],fS [x0,x1],fS [y0,y1]⟩) (CV.g ⟨[],[1],fS [x0,x1],fS [y0,y1]⟩)=E from hE] at h;exact h
theorem XS:CV.ok ⟨[],[1],fS [1,2],fS [1,1]⟩:=oV (X:=[1,2]) (Y:=[1,1]) (fun _ h=>absurd h aaO) ZC rfl rfl rfl (by decide+kernel)
theorem Yf:CV.ok ⟨[],[1],fS [1,2],fS [1, -1]⟩:=oV (X:=[1,2]) (Y:=[1, -1]) (fun _ h=>absurd h aaO) ZC rfl rfl rfl (by decide+kernel)
theorem Yg:fP (rn [1] (fS [1,2])) (rn [1] (fS [1,1])) 0=⟨nR ((1:Int):Dyadic),nR ((2:Int):Dyadic)⟩:=by
 unfold fP;rw [ZH (by decide+kernel)];exact Bn (by decide+kernel)
theorem Yl:fP (rn [1] (fS [1,2])) (rn [1] (fS [1, -1])) 0=Ji:=by
 unfold fP;rw [ZG (by decide+kernel)]
theorem ub (w:World):Calls Tryz.prog 32 #[.int .i64 1] w fun r w'=>r=.returned (.agg #[.bool (nR pR).neg,.string (nR pR).aW,.int .i64 (nR pR).e])∧Below w.heap.size w w':=by
 have hh:=Hp.start w;have hsh:=fun w1=>mR (nR ((1:Int):Dyadic)) (-1) w1 (by decide+kernel) (by decide+kernel) (by decide+kernel) ZC ZC;rw [bE,←pR] at hsh;refine ae (N:=6) (l:=[.int .i64 1]) Tryz.func32 rfl rfl (by simp) ?_;refine bJ ?_;intro b2 w2 hh;refine a0 hh (dJ 1 _ ZC ZC) rfl ?_;intro w4 hh;refine a0 hh (hsh _) rfl ?_;intro w5 hh;exact vI
set_option maxRecDepth 100000 in
theorem rz (w:World) (hT:dO w):Calls Tryz.prog 8 #[] w fun r w'=>r=.returned (.bool true)∧Below w.heap.size w w':=by
 have hh:=Hp.start w;refine ae (N:=124) (l:=[]) Tryz.func8 rfl rfl (by simp) ?_;refine aj ?_;refine aq (lK 1 2 _ ZC ZC) ak.out rfl ZC ?_;rintro e_ w17 ⟨A1,c1,B1,d1,rfl,h3⟩;refine ⟨_,rfl, ?_⟩;replace hh:=hh.join h3;simp only [ZR,ZN] at hh;clear h3;refine aq (lK 1 1 _ ZC ZC) ak.out rfl ZC ?_;rintro e_ w18 ⟨A2,c2,B2,d2,rfl,h3⟩;refine ⟨_,rfl, ?_⟩;replace hh:=hh.join h3;simp only [ZR,ZN] at hh;clear h3;refine a0 hh (Ok 1 2 1 1 0 ⟨nR ((1:Int):Dyadic),nR ((2:Int):Dyadic)⟩ A1 c1 B1 d1 A2 c2 B2 d2 _ (hT.hp hh) ⟨⟨hh.ar (i:=3) rfl,hh.ar (i:=2) rfl⟩,hh.gO (i:=3) rfl⟩ ⟨⟨hh.ar (i:=1) rfl,hh.ar (i:=0) rfl⟩,hh.gO (i:=1) rfl⟩ XS (by decide+kernel) Yg) rfl ?_;intro w19 hh;refine bU ?_;intro b1 w1 hh ws hh;refine aq (lK 1 2 _ ZC ZC) ak.out rfl ZC ?_;rintro e_ w23 ⟨A3,c3,B3,d3,rfl,h3⟩;refine ⟨_,rfl, ?_⟩;replace hh:=hh.join h3;simp only [ZR,ZN] at hh;clear h3;refine aq (lK 1 (-1) _ ZC ZC) ak.out rfl ZC ?_;rintro e_ w24 ⟨A4,c4,B4,d4,rfl,h3⟩;refine ⟨_,rfl, ?_⟩;replace hh:=hh.join h3;simp only [ZR,ZN] at hh;clear h3
 refine a0 hh (Ok 1 2 1 (-1) 4 Ji A3 c3 B3 d3 A4 c4 B4 d4 _ (hT.hp hh) ⟨⟨hh.ar (i:=3) rfl,hh.ar (i:=2) rfl⟩,hh.gO (i:=3) rfl⟩ ⟨⟨hh.ar (i:=1) rfl,hh.ar (i:=0) rfl⟩,hh.gO (i:=1) rfl⟩ Yf (by decide+kernel) Yl) rfl ?_;intro w25 hh;refine bU ?_;intro b3 w3 hh ws hh;refine a0 hh (dJ 1 _ ZC ZC) rfl ?_;intro w28 hh;refine aj ?_;refine Cs ?_;intro b30 w30 hh;refine aj ?_;refine a0 hh (dJ 1 _ ZC ZC) rfl ?_;intro w31 hh;have hsh:=fun w1=>mR (nR ((1:Int):Dyadic)) (-2) w1 (by decide+kernel) (by decide+kernel) (by decide+kernel) ZC ZC;rw [bE,←qR] at hsh;refine a0 hh (hsh _) rfl ?_;intro w32 hh;refine bU ?_;intro b6 w6 hh ws hh;replace hh:=hh.sub (ZI _ (ZI _ (ZI _ (ZJ _ (ZJ _ (ZJ _ (ZJ _ (ZI _ (ZJ _ (ZJ _ (ZJ _ (ZJ _ Z4))))))))))));replace hh:=show Hp w (.blk b6 33 [.bool qR.neg,.string qR.aW,.int .i64 qR.e] (0,0)::.row (some ⟨b30,0,none⟩) 1 1 35 6 (ao SR.cells jn)::_) _ from hh
 refine cX [9] [7,8] [0,1,0,0,15,31,63,63,63,0,639,1791,4095] 10 [[],[],[(5,none)],[(6,none)],[(34,some 0),(35,some 1),(36,some 2),(37,some 3)],[(38,some 4)],[(33,some 5)],[(33,some 5)],[(33,some 5)],[]] [(9,7),(8,41),(7,40),(6,39),(5,33),(4,38),(3,37),(2,36),(1,35),(0,34)] hh mixed ZD (fB rfl aC.out dk) rfl (by repeat (first|exact bW|refine bA ?_|refine bY ?_)) ?_;refine aM (i:=0) (fy P1) fy.ext ?_ ?_
 ·exact Up
 refine aM (i:=1) (fy Q1) fy.ext ?_ ?_
 ·intro ρ1 w1 hj hR;exact bI rfl (a8 ak.out (av rfl (av rfl bh))) (uF 1 1 Q1 _ rfl) (fun _ _ ⟨v,hq,hp,hb⟩=>⟨v,hq,hb,hp⟩)
 refine dR ?_;refine df 0 [_,_,_] ?_;refine aM (i:=4) (iY hh.sz RA 1) (iY.ext) ?_ ?_
 ·intro ρ1 w1 hj hR;obtain ⟨g34,e34,o34⟩:=hR.1;obtain ⟨g35,e35,o35⟩:=hR.2.1;exact bI rfl (a8 ak.out (av e34 (av e35 (av (show ρ1 36=Value.slice _ _ _ from hR.2.2.1) (av (show ρ1 37=Value.agg (List.toArray _) from hR.2.2.2.1) (av rfl (av rfl bh))))))) (U9 P1 Q1 g34 g35 (some ⟨b30,0,none⟩) 1 1 RA 1 w1 (hT.hp hj.hp) o34 o35 UW X5 (hj.hp.ar (i:=1) rfl) XJ) (fun _ _ ⟨A,m,c',hq,h3⟩=>⟨_,hq,h3.below,(A,m,c'),w1,rfl,trivial,hj.bl.size,h3⟩)
 refine aM (i:=5) (iY hh.sz RA 1) (iY.ext) ?_ ?_
 ·exact Ol
 refine aM (i:=6) (ky hh.sz RA) (ky.ext) ?_ ?_
 ·exact UE
 refine aM (i:=7) (Is (.int .i64 1)) (Is.ext) ?_ ?_
 ·exact I3
 refine aM (i:=8) (Is (.int .i64 0)) (Is.ext) ?_ ?_
 ·exact I3
 refine ME ?_;refine au ?_;intro f W hJ hV _;have hb_5:=hJ.bl;obtain ⟨v7,v41,v40,v39,v33,v38,v37,v36,v35,v34,_⟩:=hV;obtain ⟨g34,e34,o34⟩:fy P1 (f 0) W:=v34;obtain ⟨g35,e35,o35⟩:fy Q1 (f 1) W:=v35;obtain ⟨g38,u38,e38, -⟩:=v38;obtain ⟨g33,u33,e33, -⟩:=v33;obtain ⟨g39,u39,e39,o39,q39,h39⟩:=v39;obtain ⟨b7,e7,hl7,hc7⟩:bC _ _ _ (f 9) W:=v7;replace hh:=hJ.kE hh hl7 hc7 q39 h39 (RV.ne h39 hc7 ZC);refine az (aH (aa e7 (aa v41 (aa v40 (aa e39 (aa e33 (aa e38 (aa v37 (aa v36 (aa e35 (aa e34 ay))))))))))) ?_;dsimp only [bf];clear e34 e35 e38 e33 e39 e7 hJ;simp only [ZR,ZN] at hh;obtain ⟨A39,m39,c39⟩:=g39;obtain rfl:m39=0:=((hh.ar (i:=1) rfl).a6 NR.len ZC).symm;refine bJ ?_;intro ws hh;replace hh:=show Hp w (.blk b7 58 (RA.cells A39 0 c39) (0,0)::_) _ from hh
 refine cX [9] [7,8] [0,1,0,0,15,31,63,63,63,0,639,1791,4095] 10 [[],[],[(5,none)],[(6,none)],[(43,some 0),(44,some 1),(45,some 2),(46,some 3)],[(47,some 4)],[(42,some 5)],[(42,some 5)],[(42,some 5)],[]] [(9,10),(8,50),(7,49),(6,48),(5,42),(4,47),(3,46),(2,45),(1,44),(0,43)] hh mixed ZD (fB rfl aC.out dk) rfl (by repeat (first|exact bW|refine bA ?_|refine bY ?_)) ?_;refine aM (i:=0) (fy P1) fy.ext ?_ ?_
 ·exact Up
 refine aM (i:=1) (fy Q2) fy.ext ?_ ?_
 ·intro ρ1 w1 hj hR;exact bI rfl (a8 ak.out (av rfl (av rfl bh))) (uF 0 1 Q2 _ rfl) (fun _ _ ⟨v,hq,hp,hb⟩=>⟨v,hq,hb,hp⟩)
 refine dR ?_;refine df 2 [_,_,_] ?_;refine aM (i:=4) (iY hh.sz RB 1) (iY.ext) ?_ ?_
 ·intro ρ1 w1 hj hR;obtain ⟨g43,e43,o43⟩:=hR.1;obtain ⟨g44,e44,o44⟩:=hR.2.1;exact bI rfl (a8 ak.out (av e43 (av e44 (av (show ρ1 45=Value.slice _ _ _ from hR.2.2.1) (av (show ρ1 46=Value.agg (List.toArray _) from hR.2.2.2.1) (av rfl (av rfl bh))))))) (U9 P1 Q2 g43 g44 (some ⟨b30,0,none⟩) 1 1 RB 1 w1 (hT.hp hj.hp) o43 o44 UW Yd (hj.hp.ar (i:=3) rfl) XN) (fun _ _ ⟨A,m,c',hq,h3⟩=>⟨_,hq,h3.below,(A,m,c'),w1,rfl,trivial,hj.bl.size,h3⟩)
 refine aM (i:=5) (iY hh.sz RB 1) (iY.ext) ?_ ?_
 ·exact Ol
 refine aM (i:=6) (ky hh.sz RB) (ky.ext) ?_ ?_
 ·exact UE
 refine aM (i:=7) (Is (.int .i64 1)) (Is.ext) ?_ ?_
 ·exact I3
 refine aM (i:=8) (Is (.int .i64 0)) (Is.ext) ?_ ?_
 ·exact I3
 refine ME ?_;refine au ?_;intro f W hJ hV _;have hb_6:=hJ.bl;obtain ⟨v10,v50,v49,v48,v42,v47,v46,v45,v44,v43,_⟩:=hV;obtain ⟨g43,e43,o43⟩:fy P1 (f 0) W:=v43;obtain ⟨g44,e44,o44⟩:fy Q2 (f 1) W:=v44;obtain ⟨g47,u47,e47, -⟩:=v47;obtain ⟨g42,u42,e42, -⟩:=v42;obtain ⟨g48,u48,e48,o48,q48,h48⟩:=v48;obtain ⟨b10,e10,hl10,hc10⟩:bC _ _ _ (f 9) W:=v10;replace hh:=hJ.kE hh hl10 hc10 q48 h48 (RV.ne h48 hc10 ZC);refine az (aH (aa e10 (aa v50 (aa v49 (aa e48 (aa e42 (aa e47 (aa v46 (aa v45 (aa e44 (aa e43 ay))))))))))) ?_;dsimp only [bf];clear e43 e44 e47 e42 e48 e10 hJ;simp only [ZR,ZN] at hh;obtain ⟨A48,m48,c48⟩:=g48;obtain rfl:m48=1:=((hh.ar (i:=1) rfl).a6 NR.len ZC).symm;refine bJ ?_;intro ws hh;replace hh:=show Hp w (.blk b10 58 (RB.cells A48 1 c48) (0,0)::_) _ from hh
 refine cX [9] [7,8] [0,1,0,0,15,31,63,63,63,0,639,1791,4095] 10 [[],[],[(5,none)],[(6,none)],[(52,some 0),(53,some 1),(54,some 2),(55,some 3)],[(56,some 4)],[(51,some 5)],[(51,some 5)],[(51,some 5)],[]] [(9,13),(8,59),(7,58),(6,57),(5,51),(4,56),(3,55),(2,54),(1,53),(0,52)] hh mixed ZD (fB rfl aC.out dk) rfl (by repeat (first|exact bW|refine bA ?_|refine bY ?_)) ?_;refine aM (i:=0) (fy P1) fy.ext ?_ ?_
 ·exact Up
 refine aM (i:=1) (fy Q3) fy.ext ?_ ?_
 ·intro ρ1 w1 hj hR;exact bI rfl (a8 ak.out (av rfl (av rfl bh))) (uF (-1) 2 Q3 _ rfl) (fun _ _ ⟨v,hq,hp,hb⟩=>⟨v,hq,hb,hp⟩)
 refine dR ?_;refine df 4 [_,_,_] ?_;refine aM (i:=4) (iY hh.sz RC 2) (iY.ext) ?_ ?_
 ·intro ρ1 w1 hj hR;obtain ⟨g52,e52,o52⟩:=hR.1;obtain ⟨g53,e53,o53⟩:=hR.2.1;exact bI rfl (a8 ak.out (av e52 (av e53 (av (show ρ1 54=Value.slice _ _ _ from hR.2.2.1) (av (show ρ1 55=Value.agg (List.toArray _) from hR.2.2.2.1) (av rfl (av rfl bh))))))) (U9 P1 Q3 g52 g53 (some ⟨b30,0,none⟩) 1 2 RC 2 w1 (hT.hp hj.hp) o52 o53 UW X6 (hj.hp.ar (i:=5) rfl) XI) (fun _ _ ⟨A,m,c',hq,h3⟩=>⟨_,hq,h3.below,(A,m,c'),w1,rfl,trivial,hj.bl.size,h3⟩)
 refine aM (i:=5) (iY hh.sz RC 2) (iY.ext) ?_ ?_
 ·exact Ol
 refine aM (i:=6) (ky hh.sz RC) (ky.ext) ?_ ?_
 ·exact UE
 refine aM (i:=7) (Is (.int .i64 2)) (Is.ext) ?_ ?_
 ·exact I3
 refine aM (i:=8) (Is (.int .i64 0)) (Is.ext) ?_ ?_
 ·exact I3
 refine ME ?_;refine au ?_;intro f W hJ hV _;have hb_7:=hJ.bl;obtain ⟨v13,v59,v58,v57,v51,v56,v55,v54,v53,v52,_⟩:=hV;obtain ⟨g52,e52,o52⟩:fy P1 (f 0) W:=v52;obtain ⟨g53,e53,o53⟩:fy Q3 (f 1) W:=v53;obtain ⟨g56,u56,e56, -⟩:=v56;obtain ⟨g51,u51,e51, -⟩:=v51;obtain ⟨g57,u57,e57,o57,q57,h57⟩:=v57;obtain ⟨b13,e13,hl13,hc13⟩:bC _ _ _ (f 9) W:=v13;replace hh:=hJ.kE hh hl13 hc13 q57 h57 (RV.ne h57 hc13 ZC);refine az (aH (aa e13 (aa v59 (aa v58 (aa e57 (aa e51 (aa e56 (aa v55 (aa v54 (aa e53 (aa e52 ay))))))))))) ?_;dsimp only [bf];clear e52 e53 e56 e51 e57 e13 hJ;simp only [ZR,ZN] at hh;obtain ⟨A57,m57,c57⟩:=g57;obtain rfl:m57=1:=((hh.ar (i:=1) rfl).a6 NR.len ZC).symm;refine bJ ?_;intro ws hh;replace hh:=show Hp w (.blk b13 58 (RC.cells A57 1 c57) (0,0)::_) _ from hh;replace hh:=show Hp w (_::.row A57 1 c57 33 3 (ao NR.cells RC.at_)::_) _ from hh
 refine cX [] [] [0,1,0,7,15,31,63,31,255,511,1023,2047,4095,8191,16383,32767,65535,131071,262143,524287,524287,1572863,3670015,7864319,16777215,33554431,67108863,134217727,268435455,536870911,1073741823,2147483647,4294967295,8589934591,17179869183,34359738367,34359738367,103079215103,240518168575,549755813887,1099511627775,2199023255551,4398046511103,8796093022207,17592186044415,35184372088831,70368744177663,140737488355327,281474976710655,562949953421311,1125899906842623,1125899906842623,3377699720527871,7881299347898367,18014398509481983,36028797018963967,72057594037927935,144115188075855871,288230376151711743,576460752303423487,1152921504606846975,2305843009213693951,4611686018427387903,9223372036854775807,18446744073709551615] 54 [[(1,none)],[(60,some 0)],[],[(61,some 1),(62,some 2)],[(63,some 3)],[(1,none),(64,some 4)],[(65,some 5),(64,some 4)],[(64,some 4)],[(66,some 6),(67,some 7),(64,some 4)],[(64,some 4),(68,some 8)],[(69,some 9)],[(2,none),(70,some 10)],[(71,some 11),(70,some 10)],[(70,some 10),(72,some 12)],[(73,some 13)],[(4,none),(74,some 14)],[(75,some 15),(74,some 14)],[(74,some 14),(76,some 16)],[(77,some 17)],[(7,none),(78,some 18)],[(78,some 18)],[(78,some 18)],[(80,some 20),(81,some 21),(78,some 18)],[(82,some 22),(78,some 18)],[(79,some 19),(83,some 23),(78,some 18)],[(78,some 18),(84,some 24)],[(85,some 25)],[(8,none),(86,some 26)],[(87,some 27),(86,some 26)],[(86,some 26),(88,some 28)],[(89,some 29)],[(9,none),(90,some 30)],[(91,some 31),(90,some 30)],[(90,some 30),(92,some 32)],[(93,some 33)],[(10,none),(94,some 34)],[(94,some 34)],[(96,some 36),(94,some 34)],[(97,some 37),(94,some 34)],[(95,some 35),(98,some 38),(94,some 34)],[(94,some 34),(99,some 39)],[(100,some 40)],[(11,none),(101,some 41)],[(102,some 42),(101,some 41)],[(101,some 41),(103,some 43)],[(104,some 44)],[(12,none),(105,some 45)],[(106,some 46),(105,some 45)],[(105,some 45),(107,some 47)],[(108,some 48)],[(13,none),(109,some 49)],[(109,some 49)],[(111,some 51),(109,some 49)],[(112,some 52),(109,some 49)]] [(53,113),(52,112),(51,111),(50,110),(49,109),(48,108),(47,107),(46,106),(45,105),(44,104),(43,103),(42,102),(41,101),(40,100),(39,99),(38,98),(37,97),(36,96),(35,95),(34,94),(33,93),(32,92),(31,91),(30,90),(29,89),(28,88),(27,87),(26,86),(25,85),(24,84),(23,83),(22,82),(21,81),(20,80),(19,79),(18,78),(17,77),(16,76),(15,75),(14,74),(13,73),(12,72),(11,71),(10,70),(9,69),(8,68),(7,67),(6,66),(5,65),(4,64),(3,63),(2,62),(1,61),(0,60)] hh mixed ZD dk rfl (by repeat (first|exact bW|refine bA ?_|refine bY ?_)) ?_
 refine cK ?_;refine df 9 [_,_,_] ?_;refine dC (fun _ hj=>dJ 1 _ ZC ZC) ?_;refine aV (i:=3) (fun ρ1 w1 hj hR=>A0 (show ρ1 61=Value.agg (List.toArray _) from hR.1) (show ρ1 62=Value.agg (List.toArray _) from hR.2.1) (by first|assumption|rfl)) ?_;refine lY ?_;refine dG (cK ?_);refine dG (df 9 [_,_,_] ?_);refine eT (i:=7) rfl (fun ρ1 w1 hj hR=>(show ρ1 64=Value.bool _ from hR.1)) (fun ρ1 w1 hj hR=>a8 ak.out (av rfl bh)) (fun w1 hj=>dJ 2 _ ZC ZC) ?_;refine Bc (i:=8) rfl (fun ρ1 w1 hj hR=>(show ρ1 64=Value.bool _ from hR.2.2.1)) (fun ρ1 w1 hj hR=>A0 (show ρ1 66=Value.agg (List.toArray _) from hR.1) (show ρ1 67=Value.agg (List.toArray _) from hR.2.1) (by first|assumption|rfl)) ?_;refine Nt ?_;refine lY ?_;refine dG (cj ?_);refine dG (q7 ?_);refine Nt ?_;refine lY ?_;refine dG (cj ?_);refine dG (q7 ?_);refine Nt ?_;refine lY ?_;refine dG (df 4 [_,_,_,_,_,_,_,_] ?_);refine eT (i:=20) rfl (fun ρ1 w1 hj hR=>(show ρ1 78=Value.bool _ from hR.1)) (fun ρ1 w1 hj hR=>a8 ak.out (av rfl bh)) (fun w1 hj=>ub _) ?_
 refine eT (i:=21) rfl (fun ρ1 w1 hj hR=>(show ρ1 78=Value.bool _ from hR.1)) (fun ρ1 w1 hj hR=>a8 ak.out (av rfl bh)) (fun w1 hj=>dJ 1 _ ZC ZC) ?_;refine dG (dB [_,_,_,_,_,_] ?_);refine dG (dB [_,_,_,_,_,_,_,_] ?_);refine eT (i:=24) rfl (fun ρ1 w1 hj hR=>(show ρ1 78=Value.bool _ from hR.2.2.1)) (fun ρ1 w1 hj hR=>a8 ak.out (av (show ρ1 79=Value.agg (List.toArray _) from hR.1) (av (show ρ1 83=Value.agg (List.toArray _) from hR.2.1) bh))) (fun w1 hj=>oP RA A39 none 0 c39 0 _ (hj.hp.ar (i:=5) rfl) (Sl.nil _ _ _) ZC) ?_;refine Nt ?_;refine lY ?_;refine dG (cj ?_);refine dG (q7 ?_);refine Nt ?_;refine lY ?_;refine dG (cj ?_);refine dG (q7 ?_);refine Nt ?_;refine lY ?_;refine dG (df 2 [_,_,_,_,_,_,_,_] ?_);refine eT (i:=36) rfl (fun ρ1 w1 hj hR=>(show ρ1 94=Value.bool _ from hR.1)) (fun ρ1 w1 hj hR=>a8 ak.out (av rfl bh)) (fun w1 hj=>dJ 0 _ ZC ZC) ?_;refine kS (i:=37) (cs:=[_,_,_]) rfl (fun ρ1 w1 hj hR=>(show ρ1 94=Value.bool _ from hR.2.1)) bj.out aC.out (fun ρ1 w1 hj hR=>(bR (show ρ1 96=Value.agg (List.toArray _) from hR.1) dX)) rfl rfl ZC ZC rfl ?_;refine aM (i:=38) (kz RB) (kz.ext) ?_ ?_
 ·intro ρ1 w1 hj hR;obtain ⟨A97,c97,h97,s97⟩:=hR.1;exact fM rfl (show ρ1 94=Value.bool _ from hR.2.1) (dm rfl (mW (cs:=[_,_,_,_,_,_,_,_]) aC.out ki.out (bR rfl (bR h97 dX)) rfl) ⟨Below.refl _ _,(A97,c97),rfl,s97⟩)
 refine aM (i:=39) (Is (.bool true)) Is.ext ?_ ?_
 ·intro ρ1 w1 hj hR;obtain ⟨g98,e98,o98⟩:=hR.2.1;refine fM rfl ((show ρ1 94=Value.bool _ from hR.2.2.1)) ?_;exact bI rfl (a8 ak.out (av (show ρ1 95=Value.agg (List.toArray _) from hR.1) (av e98 bh))) (oP RB A48 g98.1 1 c48 g98.2 _ (hj.hp.ar (i:=3) rfl) o98 ZC) (fun _ _ hq=>⟨_,hq.1,hq.2,rfl⟩)
 refine Nt ?_;refine lY ?_;refine dG (cj ?_);refine dG (q7 ?_);refine Nt ?_;refine lY ?_;refine dG (cj ?_);refine dG (q7 ?_);refine Nt ?_;refine lY ?_;refine dG (df 0 [_,_,_,_,_,_,_,_] ?_);refine eT (i:=51) rfl (fun ρ1 w1 hj hR=>(show ρ1 109=Value.bool _ from hR.1)) (fun ρ1 w1 hj hR=>a8 ak.out (av rfl bh)) (fun w1 hj=>ub _) ?_;refine kS (i:=52) (cs:=[_,_,_]) rfl (fun ρ1 w1 hj hR=>(show ρ1 109=Value.bool _ from hR.2.1)) bj.out aC.out (fun ρ1 w1 hj hR=>(bR (show ρ1 111=Value.agg (List.toArray _) from hR.1) dX)) rfl rfl ZC ZC rfl ?_;refine aM (i:=53) (kz RC) (kz.ext) ?_ ?_
 ·intro ρ1 w1 hj hR;obtain ⟨A112,c112,h112,s112⟩:=hR.1;exact fM rfl (show ρ1 109=Value.bool _ from hR.2.1) (dm rfl (mW (cs:=[_,_,_,_,_,_,_,_]) aC.out ki.out (bR rfl (bR h112 dX)) rfl) ⟨Below.refl _ _,(A112,c112),rfl,s112⟩)
 refine au ?_;intro f W hJ hV _;have hb_8:=hJ.bl;obtain ⟨v113,v112,v111,v110,v109,v108,v107,v106,v105,v104,v103,v102,v101,v100,v99,v98,v97,v96,v95,v94,v93,v92,v91,v90,v89,v88,v87,v86,v85,v84,v83,v82,v81,v80,v79,v78,v77,v76,v75,v74,v73,v72,v71,v70,v69,v68,v67,v66,v65,v64,v63,v62,v61,v60,_⟩:=hV;obtain ⟨A97,c97,e97,f97⟩:Rows _ _ _ (f 37) W:=v97;obtain ⟨g98,e98,o98⟩:kz RB (f 38) W:=v98;obtain ⟨A112,c112,e112,f112⟩:Rows _ _ _ (f 52) W:=v112;obtain ⟨g113,e113,o113⟩:kz RC (f 53) W:=v113;replace hh:=hJ.hp;refine az (aH (aa e113 (aa e112 (aa v111 (aa v110 (aa v109 (aa v108 (aa v107 (aa v106 (aa v105 (aa v104 (aa v103 (aa v102 (aa v101 (aa v100 (aa v99 (aa e98 (aa e97 (aa v96 (aa v95 (aa v94 (aa v93 (aa v92 (aa v91 (aa v90 (aa v89 (aa v88 (aa v87 (aa v86 (aa v85 (aa v84 (aa v83 (aa v82 (aa v81 (aa v80 (aa v79 (aa v78 (aa v77 (aa v76 (aa v75 (aa v74 (aa v73 (aa v72 (aa v71 (aa v70 (aa v69 (aa v68 (aa v67 (aa v66 (aa v65 (aa v64 (aa v63 (aa v62 (aa v61 (aa v60 ay))))))))))))))))))))))))))))))))))))))))))))))))))))))) ?_;dsimp only [bf];clear e97 e98 e112 e113 hJ;refine aj ?_
 refine a0 hh (oP RC A57 g113.1 1 c57 g113.2 _ (hh.ar (i:=1) rfl) o113 ZC) rfl ?_;intro w114 hh;refine aj ?_;exact ⟨rfl,hh.below⟩
variable {k:Nat}
theorem GX:∀(r:List Dyadic) (a:Dyadic),r.foldl (fun out a=>if decide (a<out)=true then a else out) a≤a∧∀x∈r,r.foldl (fun out a=>if decide (a<out)=true then a else out) a≤x
 |[],a=>⟨by show a≤a;grind,fun _ h=>absurd h aaO⟩
 |y::r,a=>by
  obtain ⟨h1,h2⟩:=GX r (if decide (y<a)=true then y else a);rw [abZ];have h3:(if decide (y<a)=true then y else a)≤a∧(if decide (y<a)=true then y else a)≤y:=by
   by_cases h:y<a
   ·rw [ZH (ZX h)];grind
   ·rw [ZG (by simpa using h)];grind
  exact Tl
theorem G0:∀(r:List Dyadic) (a:Dyadic),a≤r.foldl (fun out a=>if decide (out<a)=true then a else out) a∧∀x∈r,x≤r.foldl (fun out a=>if decide (out<a)=true then a else out) a
 |[],a=>⟨by show a≤a;grind,fun _ h=>absurd h aaO⟩
 |y::r,a=>by
  obtain ⟨h1,h2⟩:=G0 r (if decide (a<y)=true then y else a);rw [abZ];have h3:a≤(if decide (a<y)=true then y else a)∧y≤(if decide (a<y)=true then y else a):=by
   by_cases h:a<y
   ·rw [ZH (ZX h)];grind
   ·rw [ZG (by simpa using h)];grind
  exact Tl
theorem CJ (f:Dyadic→Dyadic→Bool):∀(r:List Dyadic) (a:Dyadic),r.foldl (fun out a=>if f a out then a else out) a∈a::r
 |[],a=>ZQ
 |y::r,a=>by
  rw [abZ];have h:=CJ f r (if f y a then y else a)
  rcases ZZ.1 h with h|h
  ·rw [h];by_cases h2:f y a
   ·rw [ZH h2];exact Z0 _ ZQ
   ·rw [ZG h2];exact ZQ
  ·exact Z0 _ (Z0 _ h)
theorem E3 {l:List Dyadic}:∀x∈l,cG (fun x y=>decide (x<y)) l≤x:=fun x hx=>by
 cases l with
 |nil=>exact absurd hx aaO
 |cons a r=>
  obtain ⟨h1,h2⟩:=GX r a
  rcases ZZ.1 hx with rfl|hx
  ·exact h1
  ·exact h2 x hx
theorem EH {l:List Dyadic}:∀x∈l,x≤cG (fun x y=>decide (y<x)) l:=fun x hx=>by
 cases l with
 |nil=>exact absurd hx aaO
 |cons a r=>
  obtain ⟨h1,h2⟩:=G0 r a
  rcases ZZ.1 hx with rfl|hx
  ·exact h1
  ·exact h2 x hx
theorem lM {f:Dyadic→Dyadic→Bool}{l:List Dyadic} (h:l≠[]):cG f l∈l:=by
 cases l with
 |nil=>exact absurd rfl h
 |cons a r=>exact CJ f r a
theorem N0 {l:List SR} (h0:l≠[]) (h:∀s∈l,Sz k s.lo.d∧Sz k s.hi.d) (hk:k≤3000000):(iu l).fin k:=by
 have hne:(im l).map NR.d≠[]:=by
  cases l with
  |nil=>exact absurd rfl h0
  |cons s r=>simp [im]
 have hm:∀x∈(im l).map NR.d,Sz k x:=fun x hx=>by
  obtain ⟨a,ha,rfl⟩:=ZU.1 hx;obtain ⟨s,hs,ha⟩:=abI.1 ha
  rcases ZZ.1 ha with rfl|ha
  ·exact (h s hs).1
  ·rw [aaa.1 ha];exact (h s hs).2
 exact ⟨ur.of (hm _ (lM hne)) hk,ur.of (hm _ (lM hne)) hk⟩
theorem BS {f g:FX} (hf:f.small) (hg:g.small) (lf:f.ds.length=f.n∧f.cs.length=f.m) (lg:g.ds.length=g.n∧g.cs.length=g.m) (h:cg [f,g]=0):(∀x∈kj (maxD [f,g]) f,Sz 250000 x)∧∀x∈kj (maxD [f,g]) g,Sz 250000 x:=by
 have hln:∀x∈[f,g],x.ds.length=x.n:=by simpa using ⟨lf.1,lg.1⟩
 obtain ⟨hlk,_,hc⟩:=oS h hln;obtain ⟨a1,a2,a3⟩:=kx hlk hln f (by simp);obtain ⟨c1,c2, -⟩:=kx hlk hln g (by simp);have he:=(mM hlk).2.1;exact ⟨yw hf (he f (by simp)) lf.2 a1 a2 a3 hc,yw hg (he g (by simp)) lg.2 c1 c2 a3 hc⟩
theorem vT {M D m d:Int} (hD:0<D) (hd:0<d) (h:M*d=m*D):M/D=m/d:=by
 rw [←Int.mul_ediv_mul_of_pos_left M D hd,h,acL D d,Int.mul_ediv_mul_of_pos_left m d hD]
theorem Mq {x y:Dyadic}{p m d k:Int} (hd:0<d) (h:(x*fg p=Dyadic.ofIntWithPrec m k∧y=Dyadic.ofIntWithPrec d k)∨(x*fg p= -Dyadic.ofIntWithPrec m k∧y= -Dyadic.ofIntWithPrec d k)):yj (nR x) (nR y) p=m/d:=by
 obtain ⟨K,h1,h2⟩:=oU x y p;unfold yj;generalize uy (nR x) (nR y) p=M at*;generalize um (nR x) (nR y) p=D at*;have hx:x*fg p=Dyadic.ofIntWithPrec M K:=by
  rw [h1,←AL,show p+K-p=K by omega]
 have cross:∀{M D:Int},Dyadic.ofIntWithPrec M K=Dyadic.ofIntWithPrec m k→Dyadic.ofIntWithPrec D K=Dyadic.ofIntWithPrec d k→M*d=m*D∧0<D:=fun {M D} e1 e2=>by
  have e3:Dyadic.ofIntWithPrec M K*Dyadic.ofIntWithPrec d k=Dyadic.ofIntWithPrec m k*Dyadic.ofIntWithPrec D K:=by rw [e1,e2]
  rw [lr,lr,Int.add_comm k K] at e3;refine ⟨IK e3, ?_⟩;rw [←kU 0 D K,e2,fk,←fk k,kU];exact hd
 rcases h with ⟨e1,e2⟩|⟨e1,e2⟩
 ·obtain ⟨e3,e4⟩:=cross (hx.symm.trans e1) (h2.symm.trans e2);rw [ZG ZB];exact vT e4 hd e3
 ·have e5:Dyadic.ofIntWithPrec (-M) K=Dyadic.ofIntWithPrec m k:=by rw [←mY,←hx,e1];grind
  have e6:Dyadic.ofIntWithPrec (-D) K=Dyadic.ofIntWithPrec d k:=by rw [←mY,←h2,e2];grind
  obtain ⟨e3,e4⟩:=cross e5 e6;rw [ZH ZB];exact vT e4 hd e3
theorem Lg {m d:Int} (hd:0<d): -((-m)/d)=m/d+if m % d=0 then 0 else 1:=by
 have h1:=Int.mul_ediv_add_emod m d;have h2:=Int.emod_nonneg m (show d≠0 by omega);have h3:=Int.emod_lt_of_pos m hd;by_cases h0:m % d=0
 ·rw [ZH h0];have: -m=d*(-(m/d)):=by rw [ab9];omega
  rw [this,Int.mul_ediv_cancel_left _ ZB];omega
 ·rw [ZG h0];have e:(-m)/d= -(m/d)-1:=by
   refine ((Int.ediv_emod_unique (r:=d-m % d) hd).2 ⟨?_,ZB,ZB⟩).1;rw [Int.mul_sub,ab9,Int.mul_one];omega
  rw [e];omega
theorem Pw {x y:Dyadic}{p m d k:Int} (hd:0<d) (h:(x*fg p=Dyadic.ofIntWithPrec m k∧y=Dyadic.ofIntWithPrec d k)∨(x*fg p= -Dyadic.ofIntWithPrec m k∧y= -Dyadic.ofIntWithPrec d k)):
  qK x y p=⟨nR (Dyadic.ofIntWithPrec (m/d) p),nR (Dyadic.ofIntWithPrec (m/d+if m % d=0 then 0 else 1) p)⟩:=by
 have h2:yj (nR (-x)) (nR y) p=(-m)/d:=by
  refine Mq (k:=k) hd ?_;rw [←mY]
  rcases h with ⟨e1,e2⟩|⟨e1,e2⟩
  ·exact .inl ⟨by rw [←e1];grind,e2⟩
  ·exact .inr ⟨by grind,e2⟩
 unfold qK rN;rw [Mq hd h,h2,mY,Lg hd]
theorem Sz.XV {p:Int} (h1: -(k:Int)≤p) (h2:p≤k):Sz (k+8) (fg p):=Sz.two (p:= -p) ZB ZB
theorem OA {X Y:Dyadic}{K:Nat} (hX:Sz K X) (hY:Sz K Y) (hp:0<Y):∃(E low:Int) (k1 k2:Nat),(X≠0→E=(nR X).e∧low=if (nR Y).e<(nR X).e then (nR Y).e else (nR X).e)∧(X=0→E=(nR Y).e∧low=(nR Y).e)∧E-low=k1∧(nR Y).e-low=k2∧
  X=Dyadic.ofIntWithPrec ((nR X).i*2^k1) (-low)∧Y=Dyadic.ofIntWithPrec ((nR Y).i*2^k2) (-low)∧0<(nR Y).i*2^k2∧k1≤2*K∧k2≤2*K:=by
 obtain ⟨x1,x2,x3⟩:=hX.nr;obtain ⟨y1,y2,y3⟩:=hY.nr;have hy:0<(nR Y).i:=by
  have h:=JX Y;rw [←h,←fk (-(nR Y).e),kU] at hp;exact hp
 by_cases h0:X=0
 ·refine ⟨(nR Y).e,(nR Y).e,0,0,fun h=>absurd h0 h,fun _=>⟨rfl,rfl⟩,ZB,ZB, ?_, ?_,ZB,ZB,ZB⟩
  ·rw [h0,show (nR (0:Dyadic)).i=0 from rfl,Int.zero_mul,fk]
  ·rw [Int.pow_zero,Int.mul_one,JX]
 ·refine ⟨(nR X).e,if (nR Y).e<(nR X).e then (nR Y).e else (nR X).e,((nR X).e-if (nR Y).e<(nR X).e then (nR Y).e else (nR X).e).toNat,((nR Y).e-if (nR Y).e<(nR X).e then (nR Y).e else (nR X).e).toNat,fun _=>⟨rfl,rfl⟩,fun h=>absurd h h0, ?_, ?_, ?_, ?_,Int.mul_pos hy (Int.pow_pos ZB), ?_, ?_⟩
  ·split<;>omega
  ·split<;>omega
  ·rw [←ic _ (show -(if (nR Y).e<(nR X).e then (nR Y).e else (nR X).e)= -(nR X).e+(((nR X).e-if (nR Y).e<(nR X).e then (nR Y).e else (nR X).e).toNat:Nat) by split<;>omega),JX]
  ·rw [←ic _ (show -(if (nR Y).e<(nR X).e then (nR Y).e else (nR X).e)= -(nR Y).e+(((nR Y).e-if (nR Y).e<(nR X).e then (nR Y).e else (nR X).e).toNat:Nat) by split<;>omega),JX]
  ·split<;>omega
  ·split<;>omega
theorem F7 (a b:NR) (p:Int) (K:Nat) (w:World) (ha:a.ok) (hb:b.ok) (za:Sz K a.d) (zb:Sz K b.d) (hK:K≤250000) (h0:b.d≠0) (hp1: -1000≤p) (hp2:p≤1000):
  Calls Tryz.prog 47 #[.agg #[.bool a.neg,.string a.aW,.int .i64 a.e],.agg #[.bool b.neg,.string b.aW,.int .i64 b.e],.int .i64 p] w fun r w'=>r=.returned (.agg (SR.cells (qK a.d b.d p)).toArray)∧Below w.heap.size w w':=by
 have hh:=Hp.start w;obtain ⟨a1,a2,a3⟩:=ha;obtain ⟨c1,c2,c3⟩:=hb;have hfa:=fun w1=>gk a w1 ZB ZB ZB;have hfb:=fun w1=>gk b w1 ZB ZB ZB;have oka:=za.nr;have okb:=zb.nr;have hsg:=fun w1=>dz (nR b.d) w1 ZB;rw [NR.sign,bE] at hsg;have z2:Sz (1000+8) (fg p):=Sz.XV ZB ZB;obtain ⟨X,Y,u,hu,zX,zY,hY0,hd⟩:∃(X Y u:Dyadic),(0<b.d→u=a.d∧Y=b.d)∧Sz (K+1008) X∧Sz K Y∧0<Y∧(X=u*fg p)∧(¬0<b.d→u= -a.d∧Y= -b.d):=by
  by_cases h:0<b.d
  ·exact ⟨a.d*fg p,b.d,a.d,fun _=>⟨rfl,rfl⟩,za.mul z2,zb,h,rfl,fun h'=>absurd h h'⟩
  ·exact ⟨-a.d*fg p, -b.d, -a.d,fun h'=>absurd h' h,za.neg.mul z2,zb.neg,by grind,rfl,fun _=>⟨rfl,rfl⟩⟩
 obtain ⟨hXu,hd⟩:=hd;have hXY:(a.d*fg p=X∧b.d=Y)∨(a.d*fg p= -X∧b.d= -Y):=by
  by_cases h:0<b.d
  ·obtain ⟨e1,e2⟩:=hu h;exact .inl ⟨by rw [hXu,e1],e2.symm⟩
  ·obtain ⟨e1,e2⟩:=hd h;exact .inr ⟨by rw [hXu,e1];grind,by rw [e2];grind⟩
 obtain ⟨E,low,k1,k2,hne,heq,hk1,hk2,hX,hY,hdp,b1,b2⟩:=OA (zX.mono (show K+1008≤251008 by omega)) (zY.mono (show K≤251008 by omega)) hY0;have okX:=zX.nr;have okY:=zY.nr;have zu:Sz K u:=by
  by_cases h:0<b.d
  ·rw [(hu h).1];exact za
  ·rw [(hd h).1];exact za.neg
 have oku:=zu.nr;have hq:=Pw (x:=a.d) (y:=b.d) (p:=p) (k:= -low) hdp (by rw [←hX,←hY];exact hXY);have bm:bg ((nR X).i*2^k1).natAbs≤8*251008+2*251008:=aac (gh _ _) (by have:=fU (nR X).neg (nR X).aW;unfold NR.i;omega);have bd:bg ((nR Y).i*2^k2).natAbs≤8*251008+2*251008:=aac (gh _ _) (by have:=fU (nR Y).neg (nR Y).aW;unfold NR.i;omega);have hs1:∀w1,Calls Tryz.prog 98 #[.agg #[.bool (nR X).neg,.string (nR X).aW],.int .i64 (E-low)] w1 fun e w'=>e=.returned (.agg #[.bool (iN ((nR X).i*2^k1)),.string (iM ((nR X).i*2^k1))])∧Below w1.heap.size w1 w':=fun w1=>by
  rw [hk1];exact qB _ _ k1 w1 ZB ZB
 have hs2:∀w1,Calls Tryz.prog 98 #[.agg #[.bool (nR Y).neg,.string (nR Y).aW],.int .i64 ((nR Y).e-low)] w1 fun e w'=>e=.returned (.agg #[.bool (iN ((nR Y).i*2^k2)),.string (iM ((nR Y).i*2^k2))])∧Below w1.heap.size w1 w':=fun w1=>by
  rw [hk2];exact qB _ _ k2 w1 ZB ZB
 generalize hM:(nR X).i*2^k1=M at*;generalize hD:(nR Y).i*2^k2=D at*;have hneg:iN D=false:=Z3 ZB;have hbd:((bN (iM D):Nat):Int)=D:=by rw [iM,fH];omega
 have hdv:=fun w1=>vN (iN M) (iM M) (iM D) w1 (by rw [cx];omega) (by rw [cx];omega) ZB;rw [dI,hbd] at hdv;rw [hneg] at hs2;have bq:(iM (M/D)).size≤3000000:=by
  have:=tX (iN M) (iM M) (bN (iM D)) (n:=3000000) (by rw [cx];omega);rw [dI,hbd] at this;exact this
 have hmk:=fun w1=>nZ (z:=M/D) (e:= -p) (x:=Dyadic.ofIntWithPrec (M/D) p) w1 (by rw [acn]) ZB ZB ZB;have hsr:=fun w1=>ju (iN (M % D)) (iM (M % D)) w1 (by
  have h1:=Int.emod_nonneg M (show D≠0 by omega);have h2:=Int.emod_lt_of_pos M hdp;have h3:bg (M % D).natAbs≤bg D.natAbs:=mi ZB;rw [cx];omega)
 rw [dI] at hsr;have hof:=fun w1=>pB 1 w1 ZB ZB;have hpl:=fun w1=>lG (iN (M/D)) (iN 1) (iM (M/D)) (iM 1) w1 ZB (by rw [cx];decide);rw [dI,dI] at hpl;have bq1:(iM (M/D+1)).size≤4000000:=by
  have h1:=kv (M/D) 1;have h2:bg (1:Int).natAbs=1:=sj;rw [cx] at bq ⊢;omega
 have hmk2:=fun w1=>nZ (z:=M/D+1) (e:= -p) (x:=Dyadic.ofIntWithPrec (M/D+1) p) w1 (by rw [acn]) ZB ZB ZB;have hsh:=fun w1=>mR (nR u) p w1 ZB ZB ZB ZB ZB;rw [bE,←hXu] at hsh;have hsx:=fun w1=>dz (nR X) w1 ZB;have hX0:(nR X).i.sign=0↔X=0:=by
  rw [ac2];constructor
  ·intro h;rw [←JX X,h,fk]
  ·intro h;rw [h];rfl
 rw [hq];clear hq hX hY hM hD bm bd hbd hneg hXY zX zY zu z2 za zb hk1 hk2 b1 b2;generalize hr:M % D=rr at*;generalize M/D=q at*;by_cases h:0<b.d
 ·obtain ⟨rfl,rfl⟩:=hu h;rw [qm h] at hsg;refine Ss ?_;refine kb ?_;intro b3 w3 hh b4 w4 hh b6 w6 hh;refine aw 3 [[(3,none)],[(12,some 0)],[(4,none)]] [(2,14),(1,13),(0,12)] hh mixed ZD ?_;refine df 2 [_,_,_] ?_;refine dC (fun _ hj=>hfa _) ?_;refine df 1 [_,_,_] ?_;refine au ?_;intro f W hJ hV;have hb_1:=hJ.bl;obtain ⟨v14,v13,v12,_⟩:=hV;replace hh:=hJ.hp;refine Hl ?_;dsimp only [bf];clear hJ;refine a0 hh (hfb _) rfl ?_;intro w15 hh;refine bU ?_;intro ws hh ws hh;refine a0 hh (hsg _) rfl ?_;intro w17 hh;refine aj ?_;exact Tb
 ·obtain ⟨rfl,rfl⟩:=hd h;rw [kP (show b.d<0 by grind)] at hsg;have hna:=fun w1=>nk (nR a.d) w1 ZB ZB ZB;have hnb:=fun w1=>nk (nR b.d) w1 ZB ZB ZB;rw [bE] at hna hnb;refine Ss ?_;refine kb ?_;intro b3 w3 hh b4 w4 hh b6 w6 hh;refine aw 3 [[(3,none)],[(12,some 0)],[(4,none)]] [(2,14),(1,13),(0,12)] hh mixed ZD ?_;refine df 2 [_,_,_] ?_;refine dC (fun _ hj=>hfa _) ?_;refine df 1 [_,_,_] ?_;refine au ?_;intro f W hJ hV;have hb_1:=hJ.bl;obtain ⟨v14,v13,v12,_⟩:=hV;replace hh:=hJ.hp;refine Hl ?_;dsimp only [bf];clear hJ;refine a0 hh (hfb _) rfl ?_;intro w15 hh;refine bU ?_;intro ws hh ws hh;refine a0 hh (hsg _) rfl ?_;intro w17 hh;refine aj ?_;refine aw 3 [[(3,none)],[(19,some 0)],[(4,none)]] [(2,21),(1,20),(0,19)] hh mixed ZD ?_;refine df 2 [_,_,_] ?_;refine dC (fun _ hj=>hna _) ?_;refine df 1 [_,_,_] ?_;refine au ?_;intro f W hJ hV;have hb_3:=hJ.bl;obtain ⟨v21,v20,v19,_⟩:=hV;replace hh:=hJ.hp;refine az (aH (aa v21 (aa v20 (aa v19 ay)))) ?_;dsimp only [bf];clear hJ;refine a0 hh (hnb _) rfl ?_;intro w22 hh;refine bU ?_;intro ws hh ws hh;exact Tb
theorem KF (q j:Nat):(q/2^j)/2=q/2^(j+1):=by rw [aa9,aar]
theorem yl (fx:FX) (bits:Int) (k:Nat) (w:World) (hf:fx.at_ w) (hl:fx.iO k):
  Calls Tryz.prog 51 #[.agg #[.slice fx.A fx.n fx.a,.slice fx.B fx.m fx.b],.int .i64 bits] w fun r w'=>r=.returned (.tuple #[.agg #[.bool (l9 fx bits).neg,.string (l9 fx bits).aW,.int .i64 (l9 fx bits).e],.int .i64 (BN fx bits)])∧Below w.heap.size w w':=by
 have hh:=Hp.start w;have hln:=hf.ln.1;have hlm:=hf.ln.2;have hck:=fun w1 hb=>xF fx k w1 (hf.ext hb) hl;have h1000:=hl.Sa;refine ae (N:=67) (l:=[.agg #[.slice fx.A fx.n fx.a,.slice fx.B fx.m fx.b],.int .i64 bits]) Tryz.func51 rfl rfl (by simp) ?_;refine bU ?_;intro b2 w2 hh b4 w4 hh;refine a0 hh (hck _ hh.below) rfl ?_;intro w12 hh;by_cases h0:fx.e≠0
 ·have eE:BN fx bits=fx.e:=ZH h0;unfold l9;rw [eE,ZG h0];generalize fx.e=E at*;exact QZ
 ·replace h0:fx.e=0:=abh.1 h0;obtain ⟨hdeg,hnum,h12,hlow,hcnt,hmax⟩:=FX.fv h0;have hnl:fx.ns.length=fx.n:=by unfold FX.ns;rw [ZY];exact hln
  have hE:BN fx bits=if bits<0∨((2^fx.n:Nat):Int)≤bits then 1 else 0:=by unfold BN;rw [ZG (fun c=>c h0)]
  rw [h0];refine aj ?_;refine a7 [7,8,17,18,19,20,21,22,23,24,25] 7 8
   (fun a v w'=>∃i:Nat,i≤fx.n∧v=.int .i64 i∧a=.int .i64 ((2^i:Nat):Int)∧Hp w [.blk b4 33 [.bool false,.string ⟨#[]⟩,.int .i64 0] (0,0),.blk b2 25 [.slice fx.A fx.n fx.a,.slice fx.B fx.m fx.b] (0,0)] w')
   (fun _ v _=>fx.n-(intOf v).toNat) ?_ ?_
  ·exact ⟨0,ZK _,rfl,rfl,hh⟩
  ·clear hh;rintro ρ' a_ v w' ⟨i,hi,rfl,rfl,hh⟩;by_cases hlt:i<fx.n
   ·have h2:2^(i+1)=2*2^i:=by rw [aar,Z2]
    have h3:2^i≤4096:=aao (n:=2) ZC (show i≤12 by omega);generalize 2^i=y at*;refine aj ?_;refine ⟨⟨i+1,ZB,rfl,by rw [h2,aaA];rfl,hh⟩,by show fx.n-(i+1)<fx.n-i;omega, ?_⟩;exact dh
   ·obtain rfl:i=fx.n:=ZB;by_cases hneg:bits<0
    ·have hE1:BN fx bits=1:=by rw [hE];exact ZH (.inl hneg)
     unfold l9;rw [hE1,ZG ZC];exact NO
    ·by_cases hbig:((2^fx.n:Nat):Int)≤bits
     ·have hE1:BN fx bits=1:=by rw [hE];exact ZH (.inr hbig)
      unfold l9;rw [hE1,ZG ZC];exact NO
     ·have hE1:BN fx bits=0:=by rw [hE];exact ZG fun c=>c.elim hneg hbig
      unfold l9;rw [hE1,ZH rfl];clear hE hE1;obtain ⟨q,rfl⟩:∃q:Nat,bits=q:=⟨bits.toNat,ZB⟩;rw [abc];have hq:q<2^fx.n:=ZB;have hsD:Sl w fx.A fx.n 1 (aZ (aJ fx.ns)):=by rw [←hdeg];exact hf.dg
      unfold Xt;have hel:(mu fx.ns (nK fx.ns.length q)).length=fx.n:=by rw [pb,acE,sH];omega
      have heat:∀j d,fx.ns[j]?=some d→(mu fx.ns (nK fx.ns.length q))[j]?=some (d*mv q j):=fun j d hd=>by
       exact SV
      generalize mu fx.ns (nK fx.ns.length q)=es at*;generalize ((2^fx.n:Nat):Int)=Z at*;refine aj ?_;replace hh:=hh.cq 5 1;refine oH [1,9,10,34,35,36,37,38,39,40,41,42,43,44,45,46,47,48,49,50,51,52,53,54,55,56,57] 1 9 10
       (fun e a v w'=>∃(j cR:Nat) (R:Option Addr),j≤fx.n∧v=.int .i64 j∧e=.int .i64 ((q/2^j:Nat):Int)∧a=.slice R j cR∧Hp w [.row R j cR 5 1 (jQ ((bS es).take j)),.blk b4 33 [.bool false,.string ⟨#[]⟩,.int .i64 0] (0,0),.blk b2 25 [.slice fx.A fx.n fx.a,.slice fx.B fx.m fx.b] (0,0)] w')
       (fun _ _ v _=>fx.n-(intOf v).toNat) ?_ ?_
      ·exact ⟨0,0,none,ZK _,rfl,by show Value.int IntKind.i64 (q:Int)=_;rw [aci,abN],rfl,hh⟩
      ·clear hh;rintro ρ2 e_ a_ v w2 ⟨j,cR,R,hj,rfl,rfl,rfl,hh⟩;by_cases hjn:j<fx.n
       ·obtain ⟨d,hd⟩:=ah (l:=fx.ns) (k:=j) ZB;have hr:=heat j d hd;have hd7:=hlow d (ZL hd);have hgD:(aZ (aJ fx.ns))[j]?=some (.int .i64 (d:Int)):=bB (ct hd);have hhb:=KF q j;have hbit:q/2^j % 2=mv q j:=rfl;have hql:q/2^j≤4096:=aac (abJ _ _) (aac (acN hq) (aao (n:=2) ZC (show fx.n≤12 by omega)));obtain ⟨ad,hMe,hsr2⟩:=(hsD.ext hh.below).at_ ZB;have pN:Value.slice fx.A fx.n fx.a=.slice (some ad) fx.n fx.a:=by rw [hMe]
        generalize mv q j=bt at*;generalize q/2^j=y at*;by_cases hb1:y % 2=1
        ·refine aj ?_;refine rM ?_;refine bF aC.out rfl (hsr2.mX hgD) ZC ?_;refine lL ?_;refine ue ?_;intro b51 w51 hh;refine oM ?_;intro A52 c52 w52 hh;simp only [ZP,aaf] at hh;replace hh:=hh.sub (aan _ _);refine aj ?_;have hbt:bt=1:=ZB;rw [hbt,Z8] at hr;refine ⟨⟨j+1,c52,A52,ZB,rfl, ?_,rfl, ?_⟩,by show fx.n-(j+1)<fx.n-j;omega, ?_⟩
         ·show Value.int IntKind.i64 _=_;rw [←hhb];congr 1
         ·rw [HG hr ZB];exact hh
         ·exact dh
        ·refine aj ?_;refine LM ?_;intro b54 w54 hh;refine oM ?_;intro A55 c55 w55 hh;simp only [ZP,aaf] at hh;replace hh:=hh.sub (aan _ _);refine aj ?_;have hbt:bt=0:=ZB;rw [hbt,abO] at hr;refine ⟨⟨j+1,c55,A55,ZB,rfl, ?_,rfl, ?_⟩,by show fx.n-(j+1)<fx.n-j;omega, ?_⟩
         ·show Value.int IntKind.i64 _=_;rw [←hhb];congr 1
         ·rw [HG hr ZB];exact hh
         ·exact dh
       ·obtain rfl:j=fx.n:=ZB;rw [ZO (by unfold bS;rw [ZY,bK];omega)] at hh;have hb1:∀i,mv q i≤1:=fun i=>by unfold mv;omega
        have hok:∀(i d r:Nat),fx.ns[i]?=some d→es[i]?=some r→r≤d:=fun i d r hd hr=>by
         rw [heat i d hd] at hr;have h8:=aah d (hb1 i);have h9:=aau hr;omega
        have hat:=fun w1 hS1=>vX fx.A fx.n fx.a fx.ns es w1 hS1 ZB ZB ZB hok (fun d hd=>by have:=hlow d hd;omega);have hz:cU fx.ns.reverse es.reverse<ai fx.ns:=by
         have h8:jL fx.ns.reverse es.reverse:=(iq _ _).2 ⟨by rw [Z6,Z6];omega,fun i d r hd hr=>by
          have hi:=(ZV.1 hd).1;rw [Z6] at hi;rw [aaH hi] at hd;rw [aaH ZB,show es.length-1-i=fx.ns.length-1-i by omega] at hr;exact hok _ d r hd hr⟩
         have h9:=iS h8;rwa [bT] at h9
        generalize cU fx.ns.reverse es.reverse=z at*;obtain ⟨x,hx⟩:=ah (l:=fx.cs) (k:=z) ZB;obtain ⟨adC,hAC,sC⟩:=hf.nm.at_ ZB;have hevC:Value.slice fx.B fx.m fx.b=.slice (some adC) fx.m fx.b:=by rw [hAC]
        rw [hx,aa1];refine aj ?_;refine aw 7 [[(2,none)],[(58,some 0)],[(2,none)],[(60,some 2)],[(9,none)],[(62,some 4)],[(61,some 3),(63,some 5)]] [(6,64),(5,63),(4,62),(3,61),(2,60),(1,59),(0,58)] hh mixed ZD ?_;refine cK ?_;refine ee 2 ?_;refine cK ?_;refine ee 2 ?_;refine dR ?_;refine aM (i:=5) (Is (.string ⟨((bS es)).toArray⟩)) Is.ext ?_ ?_
        ·intro ρ1 w1 hj hR;exact dm rfl (ij (l:=(bS es)) bj.out bj.out bj.out (show ρ1 62=Value.slice _ _ _ from hR.1) (hj.hp.ar (i:=0) rfl)) ⟨Below.refl _ _,rfl⟩
        refine dC (fun _ hj=>hat _ (hsD.ext hj.hp.below)) ?_;refine au ?_;intro f W hJ hV;have hb_19:=hJ.bl;obtain ⟨v64,v63,v62,v61,v60,v59,v58,_⟩:=hV;replace hh:=hJ.hp;refine az (aH (aa v64 (aa v63 (aa v62 (aa v61 (aa v60 (aa v59 (aa v58 ay)))))))) ?_;dsimp only [bf];clear hJ;refine dt (k:=z) bj.out aC.size hevC rfl ZB ZB ZC ?_;refine bk (vs:=[_,_,_]) aC.out rfl ((sC.ext hh.below).recAt NR.len hx) rfl ZC ?_;refine bJ ?_;intro ws hh;refine Cw (bH rfl (bG (vs:=[_,_,_]) aC.out (hh.aK (i:=1) (n:=3) rfl rfl) rfl) (dL (ep rfl) cV)) ?_;exact ⟨rfl,hh.below⟩
theorem D2:∀(l:List Int) {o:Int},o≠2→(∀s∈l,s≠2)→xw o l=if (∀s∈l,s=o) then o else 0
 |[],o,_,_=>by rw [ZH (fun _ h=>absurd h aaO)];rfl
 |s::r,o,ho,hl=>by
  rw [xw];by_cases h:o=s
  ·subst h;rw [ZH (.inr rfl),D2 r ho fun s hs=>hl s (Z0 _ hs)];by_cases h2:∀s∈r,s=o
   ·rw [ZH h2,ZH (fun s hs=>by rcases ZZ.1 hs with rfl|hs;exact rfl;exact h2 s hs)]
   ·rw [ZG h2,ZG (fun h3=>h2 fun s hs=>h3 s (Z0 _ hs))]
  ·rw [ZG (fun h3=>h3.elim ho h),ZG (fun h3=>h (h3 s ZQ).symm)]
theorem Mf {l:List NR} (hl:l≠[]):q6 l=if l.countP (fun a=>decide (0<a.i.sign))=l.length then 1 else if l.countP (fun a=>decide (a.i.sign<0))=l.length then -1 else 0:=by
 unfold q6
 cases l with
 |nil=>exact absurd rfl hl
 |cons a r=>
  have hb:=j6 a.i;have hr:∀s∈r.map fun a:NR=>a.i.sign,s≠2:=fun s hs=>by
   obtain ⟨c,_,rfl⟩:=ZU.1 hs;have:=j6 c.i;omega
  rw [aaj,xw,ZH (.inl rfl),D2 _ ZB hr];by_cases h1:(a::r).countP (fun a=>decide (0<a.i.sign))=(a::r).length
  ·rw [ZH h1];have h2:=acY.1 h1;have h3:∀c∈a::r,c.i.sign=1:=fun c hc=>by
    have h4:=aby (h2 c hc);have:=j6 c.i;omega
   exact Tr
  ·rw [ZG h1];by_cases h5:(a::r).countP (fun a=>decide (a.i.sign<0))=(a::r).length
   ·rw [ZH h5];have h2:=acY.1 h5;have h3:∀c∈a::r,c.i.sign= -1:=fun c hc=>by
     have h4:=aby (h2 c hc);have:=j6 c.i;omega
    exact Tr
   ·rw [ZG h5];by_cases h6:∀s∈r.map fun a:NR=>a.i.sign,s=a.i.sign
    ·rw [ZH h6];have h7:∀c∈a::r,c.i.sign=a.i.sign:=fun c hc=>by
      rcases ZZ.1 hc with rfl|hc
      ·rfl
      ·exact h6 _ (ZU.2 ⟨c,hc,rfl⟩)
     have h8:¬0<a.i.sign:=fun h=>h1 (acY.2 fun c hc=>ZX (by rw [h7 c hc];exact h));have h9:¬a.i.sign<0:=fun h=>h5 (acY.2 fun c hc=>ZX (by rw [h7 c hc];exact h));omega
    ·rw [ZG h6]
theorem CM (f:FX) (w:World) (hf:f.at_ w) (hm:0<f.m) (hb:f.m≤1000000) (hok:∀a∈f.cs,a.aW.size≤10000000):
  Calls Tryz.prog 46 #[.agg #[.slice f.A f.n f.a,.slice f.B f.m f.b]] w fun r w'=>r=.returned (.int .i64 (q6 f.cs))∧Below w.heap.size w w':=by
 have hh:=Hp.start w;have hln:f.cs.length=f.m:=hf.nm.a6 NR.len ZC;rw [Mf (fun h=>by rw [h] at hln;exact absurd hln (by show ¬0=f.m;omega))];have hS:=hf.nm;refine ae (N:=41) (l:=[.agg #[.slice f.A f.n f.a,.slice f.B f.m f.b]]) Tryz.func46 rfl rfl (by simp) ?_;refine bJ ?_;intro b1 w1 hh;refine oH [3,4,5,6,7,8,9,10,11,12,13,14,15,16,17,18,19,20,21,22,23,24,25,26,27,28,29,30] 3 4 5
  (fun v3 v4 v w'=>∃i:Nat,i≤f.m∧v=.int .i64 i∧v3=.int .i64 ((f.cs.take i).countP fun a=>decide (0<a.i.sign):Nat)∧v4=.int .i64 ((f.cs.take i).countP fun a=>decide (a.i.sign<0):Nat)∧Hp w [.blk b1 25 [.slice f.A f.n f.a,.slice f.B f.m f.b] (0,0)] w')
  (fun _ _ v _=>f.m-(intOf v).toNat) ?_ ?_
 ·exact ⟨0,ZK _,rfl,rfl,rfl,hh⟩
 ·clear hh;rintro ρ' v3 v4 v w' ⟨i,hi,rfl,rfl,rfl,hh⟩;have hc1:(f.cs.take i).countP (fun a=>decide (0<a.i.sign))≤i:=aac List.countP_le_length (by rw [Z1];omega);have hc2:(f.cs.take i).countP (fun a=>decide (a.i.sign<0))≤i:=aac List.countP_le_length (by rw [Z1];omega);by_cases hlt:i<f.m
  ·obtain ⟨a,ha⟩:=ah (l:=f.cs) (k:=i) ZB;obtain ⟨ad,hB,hr⟩:=hS.at_ ZB;have hs:=fun w1=>dz a w1 (hok a (ZL ha));have hsb:=j6 a.i;have t1:(f.cs.take (i+1)).countP (fun a=>decide (0<a.i.sign))=(f.cs.take i).countP (fun a=>decide (0<a.i.sign))+if 0<a.i.sign then 1 else 0:=by
    rw [al ha,List.countP_append,List.countP_singleton];by_cases h:0<a.i.sign
    ·rw [ZH h,ZH (ZX h)]
    ·rw [ZG h,ZG (by rw [Z3 h];decide)]
   have t2:(f.cs.take (i+1)).countP (fun a=>decide (a.i.sign<0))=(f.cs.take i).countP (fun a=>decide (a.i.sign<0))+if a.i.sign<0 then 1 else 0:=by
    rw [al ha,List.countP_append,List.countP_singleton];by_cases h:a.i.sign<0
    ·rw [ZH h,ZH (ZX h)]
    ·rw [ZG h,ZG (by rw [Z3 h];decide)]
   generalize (f.cs.take i).countP (fun a=>decide (0<a.i.sign))=n1 at*;generalize (f.cs.take i).countP (fun a=>decide (a.i.sign<0))=n2 at*;rw [hB] at hh ⊢;generalize a.i.sign=sg at*;by_cases h1:0<sg
   ·rw [ZH h1] at t1;rw [ZG ZB] at t2;exact Mo
   ·rw [ZG h1] at t1;by_cases h2:sg<0
    ·rw [ZH h2] at t2;exact Mo
    ·rw [ZG h2] at t2;exact Mo
  ·obtain rfl:i=f.m:=ZB;rw [ZO ZB] at*;rw [hln];generalize f.cs.countP (fun a=>decide (0<a.i.sign))=n1 at*;generalize f.cs.countP (fun a=>decide (a.i.sign<0))=n2 at*;by_cases h1:n1=f.m
   ·rw [ZH h1];refine aj ?_;exact ⟨rfl,hh.below⟩
   ·rw [ZG h1];by_cases h2:n2=f.m
    ·rw [ZH h2];refine aj ?_;exact ⟨rfl,hh.below⟩
    ·rw [ZG h2];refine aj ?_;exact ⟨rfl,hh.below⟩
theorem Cr (a:NR) (w:World) (ha:a.ok):
  Calls Tryz.prog 53 #[.agg #[.bool a.neg,.string a.aW,.int .i64 a.e]] w fun r w'=>r=.returned (.agg #[.bool (nR (iX a.d)).neg,.string (nR (iX a.d)).aW,.int .i64 (nR (iX a.d)).e])∧Below w.heap.size w w':=by
 have hh:=Hp.start w;obtain ⟨a1,a2,a3⟩:=ha;have hs:=fun w1=>dz a w1 ZB;rw [NR.sign] at hs;by_cases h:a.d<0
 ·rw [kP h] at hs;rw [show iX a.d= -a.d from ZH h];refine ae (N:=10) (l:=[.agg #[.bool a.neg,.string a.aW,.int .i64 a.e]]) Tryz.func53 rfl rfl (by simp) ?_;refine bU ?_;intro b1 w1 hh b2 w2 hh;refine a0 hh (hs _) rfl ?_;intro w4 hh;refine aj ?_;refine a0 hh (nk a _ ZB ZB ZB) rfl ?_;intro w7 hh;exact vI
 ·have hc:¬fR a.d 0<0:=fun h2=>h ((m5 _ _).1 h2);generalize fR a.d 0=c at*;rw [show iX a.d=a.d from ZG h];refine ae (N:=10) (l:=[.agg #[.bool a.neg,.string a.aW,.int .i64 a.e]]) Tryz.func53 rfl rfl (by simp) ?_;refine bU ?_;intro b1 w1 hh b2 w2 hh;refine a0 hh (hs _) rfl ?_;intro w4 hh;refine aj ?_;refine a0 hh (gk a _ ZB ZB ZB) rfl ?_;intro w9 hh;exact vI
theorem Cj (L:Option Addr) (n c:Nat) (l:List NR) (k:Nat) (w:World) (hS:Sl w L n 3 (ao NR.cells l)) (hl:∀a∈l,a.ok) (hk:∀a∈l,Sz k a.d) (hkn:k≤3000000) (hn:n≤1000000):
  Calls Tryz.prog 102 #[.slice L n c] w fun r w'=>r=.returned (.agg (SR.cells ⟨nR (cG (fun x y=>decide (x<y)) (l.map NR.d)),nR (cG (fun x y=>decide (y<x)) (l.map NR.d))⟩).toArray)∧Below w.heap.size w w':=by
 have hh:=Hp.start w;have h1:=fun w1 hb=>F5 L n c l w1 (hS.ext hb) hl k hk hkn hn;have h2:=fun w1 hb=>Gi L n c l w1 (hS.ext hb) hl k hk hkn hn;generalize cG (fun x y=>decide (x<y)) (l.map NR.d)=lo at*;generalize cG (fun x y=>decide (y<x)) (l.map NR.d)=hi at*;refine ae (N:=8) (l:=[.slice L n c]) Tryz.func102 rfl rfl (by simp) ?_;refine bJ ?_;intro b2 w2 hh;refine a0 hh (h1 _ hh.below) rfl ?_;intro w4 hh;refine mL ?_;refine a0 hh (h2 _ hh.below) rfl ?_;intro w6 hh;refine bJ ?_;intro ws hh;exact Od
theorem D6 (L:Option Addr) (n c:Nat) (l:List SR) (k:Nat) (w:World) (hS:Sl w L n 6 (ao SR.cells l)) (hl:∀s∈l,s.fin k) (hk:k≤3000000) (hn:n≤100000):
  Calls Tryz.prog 48 #[.slice L n c] w fun r w'=>r=.returned (.agg (SR.cells (iu l)).toArray)∧Below w.heap.size w w':=by
 have hh:=Hp.start w;have hln:=hS.a6 SR.len ZC;have hfin:∀a∈im l,a.ok∧Sz k a.d:=fun a ha=>by
  obtain ⟨s,hs,ha⟩:=abI.1 ha
  rcases ZZ.1 ha with rfl|ha
  ·exact ⟨(hl s hs).1.ok,(hl s hs).1.sz⟩
  ·rw [aaa.1 ha];exact ⟨(hl s hs).2.ok,(hl s hs).2.sz⟩
 have hof:=fun A c' w1 hS1=>Cj A (2*n) c' (im l) k w1 hS1 (fun a ha=>(hfin a ha).1) (fun a ha=>(hfin a ha).2) hk ZB;refine ae (N:=26) (l:=[.slice L n c]) Tryz.func48 rfl rfl (by simp) ?_;refine bJ ?_;intro b2 w2 hh;replace hh:=hh.cq 33 3;refine a7 [3,4,5,6,7,8,9,10,11,12,13,14,15,16,17,18,19,20,21,22,23] 3 4
  (fun v3 v w'=>∃(i c3:Nat) (A:Option Addr),i≤n∧v=.int .i64 i∧v3=.slice A (2*i) c3∧Hp w [.row A (2*i) c3 33 3 (ao NR.cells (im (l.take i))),.blk b2 35 [.bool false,.string (ByteArray.mk #[]),.int .i64 0,.bool false,.string (ByteArray.mk #[]),.int .i64 0] (0,0)] w')
  (fun _ v _=>n-(intOf v).toNat) ?_ ?_
 ·exact ⟨0,0,none,ZK _,rfl,rfl,hh⟩
 ·clear hh;rintro ρ' v3 v w' ⟨i,c3,A,hi,rfl,rfl,hh⟩;by_cases hlt:i<n
  ·obtain ⟨s,hs⟩:=ah (l:=l) (k:=i) ZB;obtain ⟨ad,rfl,hr⟩:=hS.at_ ZB;refine aj ?_;refine aw 12 [[(3,none)],[(0,none)],[(4,none)],[(12,some 1),(13,some 2)],[(14,some 3)],[(15,some 4)],[(0,none)],[(4,none)],[(17,some 6),(18,some 7)],[(19,some 8)],[(20,some 9)],[(16,some 5),(21,some 10)]] [(11,22),(10,21),(9,20),(8,19),(7,18),(6,17),(5,16),(4,15),(3,14),(2,13),(1,12),(0,11)] hh mixed ZD ?_;refine dR ?_;refine dR ?_;refine cj ?_;refine jK (i) ?_;refine zr ?_;refine nu [_,_,_] (fun _ hj=>((((hr.ext hj.hp.below).recAt SR.len hs).drop 0).take 3)) ?_;refine dR ?_;refine cj ?_;refine jK (i) ?_;refine zr ?_;refine nu [_,_,_] (fun _ hj=>((((hr.ext hj.hp.below).recAt SR.len hs).drop 3).take 3)) ?_;refine vG [_,_,_,_,_,_] ?_;refine au ?_;intro f W hJ hV;have hb_5:=hJ.bl;obtain ⟨v22,v21,v20,v19,v18,v17,v16,v15,v14,v13,v12,v11,_⟩:=hV;obtain ⟨A22,c22,e22,f22⟩:Rows _ _ _ (f 11) W:=v22;replace hh:=hJ.hp;refine az (aH (aa e22 (aa v21 (aa v20 (aa v19 (aa v18 (aa v17 (aa v16 (aa v15 (aa v14 (aa v13 (aa v12 (aa v11 ay))))))))))))) ?_;dsimp only [bf];clear e22 hJ
   refine bQ hh (i:=0) rfl rfl rfl (f22) bj.out aC.out rfl ZC (by first|rfl|exact dw _|exact cL _|exact a9 _|exact bo NR.one _) ZB ZB ZC ?_;intro A23 c23 w23 hh;simp only [ZP] at hh;refine aj ?_;replace hh:=hh.sub (ZI _ (ZI _ Z4));refine ⟨⟨i+1,c23,A23,ZB,rfl,rfl, ?_⟩,by show n-(i+1)<n-i;omega, ?_⟩
   ·rw [al hs,im,abM,bp];exact hh
   ·exact dh
  ·obtain rfl:i=n:=ZB;rw [ZO ZB] at hh;refine aj ?_;refine a0 hh (hof _ _ _ (hh.ar (i:=0) rfl)) rfl ?_;intro w25 hh;exact UR
theorem Cu (g:FX) (eps:NR) (k:Nat) (w:World) (hg:g.at_ w) (hl:g.iO k) (he:eps.ok) (hz:Sz k eps.d) (hk:k≤1000000):
  Calls Tryz.prog 17 #[.agg #[.slice g.A g.n g.a,.slice g.B g.m g.b],.agg #[.bool eps.neg,.string eps.aW,.int .i64 eps.e]] w fun r w'=>r=.returned (.tuple #[.int .i64 (lv g eps.d:Nat),.int .i64 (nJ g eps.d)])∧Below w.heap.size w w':=by
 have hh:=Hp.start w;have hck:=fun w1 hb=>xF g k w1 (hg.ext hb) hl;unfold lv nJ;by_cases h0:g.e≠0
 ·rw [ZH h0,ZH h0];generalize g.e=E at*;refine SI ?_;refine bU ?_;intro b2 w2 hh b3 w3 hh;refine a0 hh (hck _ hh.below) rfl ?_;intro w13 hh;refine aj ?_;exact ⟨rfl,hh.below⟩
 ·rw [ZG h0,ZG h0];replace h0:g.e=0:=abh.1 h0;rw [h0] at hck;have h12:g.n≤12:=by
   exact TV
  have h63:2^g.n≤4096:=aao (n:=2) ZB h12;have hO:uh g eps.d=(List.range (2^g.n)).find? fun k:Nat=>decide (iX (l9 g (k:Int)).d<eps.d):=rfl;refine SI ?_;refine bU ?_;intro b2 w2 hh b3 w3 hh;refine a0 hh (hck _ hh.below) rfl ?_;intro w13 hh;refine aj ?_;refine a7 [7,8,17,18,19,20,21,22,23,24,25] 7 8
   (fun v7 v w'=>∃i:Nat,i≤g.n∧v=.int .i64 i∧v7=.int .i64 (2^i:Nat)∧Hp w [.blk b3 33 [.bool eps.neg,.string eps.aW,.int .i64 eps.e] (0,0),.blk b2 25 [.slice g.A g.n g.a,.slice g.B g.m g.b] (0,0)] w')
   (fun _ v _=>g.n-(intOf v).toNat) ?_ ?_
  ·exact ⟨0,ZK _,rfl,rfl,hh⟩
  ·clear hh;rintro ρ' v7 v w' ⟨i,hi,rfl,rfl,hh⟩;by_cases hlt:i<g.n
   ·have hp1:2^i*2≤4096:=aac (Nat.le_of_eq (aar 2 i).symm) (aac (aao ZB (show i+1≤g.n by omega)) h63);generalize hpi:2^i=pi at*;refine aj ?_;refine ⟨⟨i+1,ZB,rfl,(show Value.int .i64 (2*(pi:Int))=Value.int .i64 ((2^(i+1):Nat):Int) by rw [aar,hpi];congr 1;omega),hh⟩,by show g.n-(i+1)<g.n-i;omega, ?_⟩;exact dh
   ·obtain rfl:i=g.n:=ZB;generalize 2^g.n=M at*;refine aj ?_;refine aD [4,5,9,10,11,26,27,28,29,30,31,32,33,34,35,36,37,38,39,40,41,42] 9
     (fun v w'=>∃i:Nat,i≤M∧v=.int .i64 i∧(∀j,j<i→¬iX (l9 g (j:Int)).d<eps.d)∧Hp w [.blk b3 33 [.bool eps.neg,.string eps.aW,.int .i64 eps.e] (0,0),.blk b2 25 [.slice g.A g.n g.a,.slice g.B g.m g.b] (0,0)] w')
     (fun v _=>M-(intOf v).toNat) ?_ ?_
    ·exact ⟨0,ZK _,rfl,fun j hj=>absurd hj (ac8 _),hh⟩
    ·clear hh;rintro ρ2 v w2 ⟨j,hj,rfl,hno,hh⟩;by_cases hlt2:j<M
     ·obtain ⟨ok1,z1⟩:=L9 (bits:=(j:Int)) hl;have zA:Sz k (iX (l9 g (j:Int)).d):=Sz.iX z1;have hco:=fun w1 hb=>yl g (j:Int) k w1 (hg.ext hb) hl;have hsi:=fun w1=>Cr (l9 g (j:Int)) w1 ok1;have hcm:=fun w1=>qh (nR (iX (l9 g (j:Int)).d)) eps w1 (zA.ok ZB) he (hz.ok ZB) (by have:=(zA.sub hz).nr.1;rw [bE];omega);rw [bE] at hcm;have hfn:M=M:=rfl;by_cases hc:iX (l9 g (j:Int)).d<eps.d
      ·have hf:uh g eps.d=some j:=by
        rw [hO];exact List.find?_range_eq_some.2 ⟨ZX hc,aaR.2 hlt2,fun q hq=>by rw [Z3 (hno q hq)];rfl⟩
       rw [hf];rw [kP hc] at hcm;generalize iX (l9 g (j:Int)).d=A at*;generalize l9 g (j:Int)=cv at*;generalize BN g (j:Int)=ce at*;refine aj ?_;refine a0 hh (hco _ hh.below) rfl ?_;intro w34 hh;refine bU ?_;intro b10 w10 hh ws hh;refine aw 3 [[(10,none)],[(37,some 0)],[(3,none)]] [(2,39),(1,38),(0,37)] hh mixed ZD ?_;refine df 0 [_,_,_] ?_;refine dC (fun _ hj=>hsi _) ?_;refine df 1 [_,_,_] ?_;refine au ?_;intro f W hJ hV;have hb_13:=hJ.bl;obtain ⟨v39,v38,v37,_⟩:=hV;replace hh:=hJ.hp;refine az (aH (aa v39 (aa v38 (aa v37 ay)))) ?_;dsimp only [bf];clear hJ;refine a0 hh (hcm _) rfl ?_;intro w40 hh;refine aj ?_;exact ⟨rfl,hh.below⟩
      ·have hcq:∀q:Nat,q=j→¬iX (l9 g (q:Int)).d<eps.d:=fun q h=>by rw [h];exact hc
       have hn:¬fR (iX (l9 g (j:Int)).d) eps.d<0:=fun h=>hc ((m5 _ _).1 h);generalize hA:iX (l9 g (j:Int)).d=A at*;generalize fR A eps.d=cc at*;generalize l9 g (j:Int)=cv at*;generalize BN g (j:Int)=ce at*;refine aj ?_;refine a0 hh (hco _ hh.below) rfl ?_;intro w34 hh;refine bU ?_;intro b10 w10 hh ws hh;refine aw 3 [[(10,none)],[(37,some 0)],[(3,none)]] [(2,39),(1,38),(0,37)] hh mixed ZD ?_;refine df 0 [_,_,_] ?_;refine dC (fun _ hj=>hsi _) ?_;refine df 1 [_,_,_] ?_;refine au ?_;intro f W hJ hV;have hb_13:=hJ.bl;obtain ⟨v39,v38,v37,_⟩:=hV;replace hh:=hJ.hp;refine az (aH (aa v39 (aa v38 (aa v37 ay)))) ?_;dsimp only [bf];clear hJ;refine a0 hh (hcm _) rfl ?_;intro w40 hh;refine aj ?_;replace hh:=hh.sub (ZJ _ (ZI _ (ZI _ Z4)));refine ⟨⟨j+1,ZB,rfl,fun q hq=> ?_,hh⟩,by show M-(j+1)<M-j;omega, ?_⟩
       ·rcases aap q j with h|h
        ·exact hno q h
        ·exact hcq q ZB
       ·exact dh
     ·obtain rfl:j=M:=ZB;have hf:uh g eps.d=none:=by
       rw [hO,List.find?_eq_none];intro q hq;rw [Z3 (hno q (aaR.1 hq))];decide
      rw [hf];refine aj ?_;exact ⟨rfl,hh.below⟩
theorem xN {l:List Dyadic}{m:Dyadic} (h1:m∈l) (h2:∀x∈l,m≤x):cG (fun x y=>decide (x<y)) l=m:=by
 have h3:=E3 m h1;have h4:=h2 _ (lM (f:=fun x y=>decide (x<y)) (l:=l) fun h=>by rw [h] at h1;exact absurd h1 aaO);grind
theorem vZ {l:List Dyadic}{m:Dyadic} (h1:m∈l) (h2:∀x∈l,x≤m):cG (fun x y=>decide (y<x)) l=m:=by
 have h3:=EH m h1;have h4:=h2 _ (lM (f:=fun x y=>decide (y<x)) (l:=l) fun h=>by rw [h] at h1;exact absurd h1 aaO);grind
theorem FQ (l:List SR) (s:SR):(im (l++[s])).map NR.d=(im l).map NR.d++[s.lo.d,s.hi.d]:=by
 unfold im;rw [abM,aaG]
 rfl
theorem I0 {l:List SR} (hl:l≠[]) (s:SR):iu [iu l,s]=iu (l++[s]):=by
 have hne:(im l).map NR.d≠[]:=fun h=>by
  cases l with
  |nil=>exact hl rfl
  |cons a r=>cases h
 have e:(im [iu l,s]).map NR.d=[cG (fun x y=>decide (x<y)) ((im l).map NR.d),cG (fun x y=>decide (y<x)) ((im l).map NR.d),s.lo.d,s.hi.d]:=by
  show [(iu l).lo.d,(iu l).hi.d,s.lo.d,s.hi.d]=_;unfold iu;rw [bE,bE]
 unfold iu;rw [FQ];unfold iu at e;rw [e];generalize (im l).map NR.d=L at*;have m1:=lM (f:=fun x y=>decide (x<y)) hne;have m2:=lM (f:=fun x y=>decide (y<x)) hne;have b1:=E3 (l:=L);have b2:=EH (l:=L);generalize cG (fun x y=>decide (x<y)) L=lo at*;generalize cG (fun x y=>decide (y<x)) L=hi at*;have c1:=b1 _ m2;have r1:cG (fun x y=>decide (x<y)) (L++[s.lo.d,s.hi.d])=cG (fun x y=>decide (x<y)) [lo,hi,s.lo.d,s.hi.d]:=by
  have k1:=E3 (l:=[lo,hi,s.lo.d,s.hi.d]);have k2:=lM (f:=fun x y=>decide (x<y)) (l:=[lo,hi,s.lo.d,s.hi.d]) (by simp);generalize cG (fun x y=>decide (x<y)) [lo,hi,s.lo.d,s.hi.d]=m at*;refine xN ?_ fun x hx=> ?_
  ·exact Wt
  ·rcases aav.1 hx with hx|hx
   ·have:=b1 x hx;have:=k1 lo (by simp);grind
   ·exact RQ
 have r2:cG (fun x y=>decide (y<x)) (L++[s.lo.d,s.hi.d])=cG (fun x y=>decide (y<x)) [lo,hi,s.lo.d,s.hi.d]:=by
  have k1:=EH (l:=[lo,hi,s.lo.d,s.hi.d]);have k2:=lM (f:=fun x y=>decide (y<x)) (l:=[lo,hi,s.lo.d,s.hi.d]) (by simp);generalize cG (fun x y=>decide (y<x)) [lo,hi,s.lo.d,s.hi.d]=m at*;refine vZ ?_ fun x hx=> ?_
  ·exact Wt
  ·rcases aav.1 hx with hx|hx
   ·have:=b2 x hx;have:=k1 hi (by simp);grind
   ·exact RQ
 rw [r1,r2]
theorem Vp {x y:Dyadic} (p:Int) (hy:y≠0):rN x y p≤ -rN (-x) y p:=by
 rcases (show 0<y∨y<0 by grind) with h|h
 ·have h1:=HR (x:=x) p h;have h2:=HR (x:= -x) p h;generalize rN x y p=u at*;generalize rN (-x) y p=v at*
  rcases (show u≤ -v∨0<u+v by grind) with h3|h3
  ·exact h3
  ·have h4:=Lean.Grind.OrderedRing.mul_pos h3 h;grind
 ·have h1:=GR (x:=x) p h;have h2:=GR (x:= -x) p h;generalize rN x y p=u at*;generalize rN (-x) y p=v at*
  rcases (show u≤ -v∨0<u+v by grind) with h3|h3
  ·exact h3
  ·have h4:=Lean.Grind.OrderedRing.mul_pos h3 (show 0< -y by grind);grind
theorem MQ {x y:Dyadic} (p:Int) (hy:y≠0):iu [qK x y p]=qK x y p:=by
 have h:=Vp (x:=x) p hy;unfold iu qK;have e:(im [(⟨nR (rN x y p),nR (-rN (-x) y p)⟩:SR)]).map NR.d=[rN x y p, -rN (-x) y p]:=by
  show [(nR _).d,(nR _).d]=_;rw [bE,bE]
 rw [e,xN (m:=rN x y p) (by simp) (fun z hz=>by
  simp only [ZZ,aaO,or_false] at hz
  rcases hz with rfl|rfl<;>grind),vZ (m:= -rN (-x) y p) (by simp) (fun z hz=>by
  simp only [ZZ,aaO,or_false] at hz
  rcases hz with rfl|rfl<;>grind)]
theorem AU (f g:FX) (k:Nat) (p:Int) (w:World) (hf:f.at_ w) (hg:g.at_ w) (hlf:f.iO k) (hlg:g.iO k) (hk:k≤90000) (hz:cg [f,g]=0→(∀x∈kj (maxD [f,g]) f,Sz 250000 x)∧∀x∈kj (maxD [f,g]) g,Sz 250000 x) (hp1: -1000≤p) (hp2:p≤1000):
  Calls Tryz.prog 15 #[.agg #[.slice f.A f.n f.a,.slice f.B f.m f.b],.agg #[.slice g.A g.n g.a,.slice g.B g.m g.b],.int .i64 p] w fun r w'=>r=.returned (.tuple #[.agg (SR.cells (fP f g p)).toArray,.int .i64 (jC f g)])∧Below w.heap.size w w':=by
 have hh:=Hp.start w;have hra:=fun A cc w1 (hb:Below w.heap.size w w1) hS=>Gr A 2 cc [f,g] k w1 hS ZB (by simpa using ⟨hf.ext hb,hg.ext hb⟩) (by simpa using ⟨hlf,hlg⟩) hk;have hlnn:∀x∈[f,g],x.ds.length=x.n:=by simpa using ⟨hf.ln.1,hg.ln.1⟩
 unfold fP jC;by_cases h0:cg [f,g]=0
 ·obtain ⟨hX,hY⟩:=hz h0;obtain ⟨hlk,_,hc⟩:=oS h0 (by simpa using ⟨hf.ln.1,hg.ln.1⟩);obtain ⟨a1,a2,a3⟩:=kx hlk hlnn f (by simp);obtain ⟨c1,c2, -⟩:=kx hlk hlnn g (by simp);have lx:=uP a1 a2;have ly:=uP c1 c2;have hrb:=fun A cc w1 hb hS=>(hra A cc w1 hb hS).mono fun r w' h=>show ∃(A:Option Addr) (a:Nat) (l0 l1:FX) (R:List HE),(l0.cs=(kj (maxD [f,g]) f).map nR∧l0.m=ai (maxD [f,g]))∧(l1.cs=(kj (maxD [f,g]) g).map nR∧l1.m=ai (maxD [f,g]))∧Kept [f,g] R l0∧Kept [f,g] R l1∧r=.returned (.tuple #[.slice A 2 a,.int .i64 0])∧Hp w1 (.row A 2 a 25 2 (ao FX.cells [l0,l1])::R) w' from by
   rcases h with h|⟨_,A,a,gs,R,h5,h6,h7,h8,h9⟩
   ·exact absurd h0 h.1
   ·obtain ⟨l0,l1,rfl⟩:∃x y,gs=[x,y]:=by
     match gs,h6 with
     |[x,y],_=>exact ⟨x,y,rfl⟩
    exact ⟨A,a,l0,l1,R,⟨(h7 0 f l0 rfl rfl).cs,(h7 0 f l0 rfl rfl).m⟩,⟨(h7 1 g l1 rfl rfl).cs,(h7 1 g l1 rfl rfl).m⟩,h8 l0 (by simp),h8 l1 (by simp),h5,h9⟩
  clear hra hz;rw [ZH h0];have hf1:∀z∈[f,g],z.at_ w:=by simpa using ⟨hf,hg⟩
  generalize kj (maxD [f,g]) f=X at*;generalize kj (maxD [f,g]) g=Y at*;have hpos:=cI (maxD [f,g]);generalize ai (maxD [f,g])=m at*;refine SL ?_;refine kb ?_;intro b3 w3 hh b4 w4 hh b6 w6 hh;refine tO ?_;intro b15 w15 hh;refine aq (hrb _ _ _ hh.below (hh.ar (i:=0) rfl)) ak.out rfl ZC ?_;rintro e_ w16 ⟨A3,a3',l0,l1,R3,⟨m0,n0⟩,⟨m1,n1⟩,kp0,kp1,rfl,h2⟩;refine ⟨_,rfl, ?_⟩;replace hh:=hh.join h2;clear h2;replace hh:=hh.perm acx;simp only [ZR,ZN] at hh;obtain ⟨g3,rfl⟩:=hh.bL (i:=4) rfl ZB;have hl0:[l0,l1][0]?=some l0:=rfl;have hl1:[l0,l1][1]?=some l1:=rfl;have hc0:(ao FX.cells [l0,l1])[0*2+1]?=some (Value.slice l0.B l0.m l0.b):=rfl;have hc1:(ao FX.cells [l0,l1])[1*2+1]?=some (Value.slice l1.B l1.m l1.b):=rfl;have mX:=kp1.at_ hf1 (fun x hx=>by simp [hx]) hh;have at0:=kp0.at_ hf1 (fun x hx=>by simp [hx]) hh;have bnd:m≤1000000:=ZB;have hokY:∀a∈l1.cs,a.aW.size≤10000000:=fun a ha=>by
   rw [m1] at ha;obtain ⟨y,hy,rfl⟩:=ZU.1 ha;have:=(hY y hy).nr.1;omega
  refine aj ?_;refine bk (vs:=[_,_]) aC.out rfl (hh.dy (f:=FX.cells) (x:=l1) (l:=[l0,l1]) (i:=4) rfl FX.len ZC hl1) rfl ZC ?_;refine a0 hh (CM l1 _ mX ZB ZB hokY) rfl ?_;intro w26 hh;rw [m1];by_cases hs:q6 (Y.map nR)=0
  ·rw [ZH hs,ZG ZC];exact Wg
  ·rw [ZG hs,ZH rfl];have hY0:=H7 hs;generalize q6 (Y.map nR)=sg at*;have hquo:∀(i:Nat) (x y:Dyadic),X[i]?=some x→Y[i]?=some y→∀w1,Calls Tryz.prog 47 #[.agg #[.bool (nR x).neg,.string (nR x).aW,.int .i64 (nR x).e],.agg #[.bool (nR y).neg,.string (nR y).aW,.int .i64 (nR y).e],.int .i64 p] w1 fun r w'=>r=.returned (.agg (SR.cells (qK x y p)).toArray)∧Below w1.heap.size w1 w':=fun i x y hx hy w1=>by
    have zx:=hX x (ZL hx);have zy:=hY y (ZL hy);have:=F7 (nR x) (nR y) p 250000 w1 (zx.ok ZC) (zy.ok ZC) (by rw [bE];exact zx) (by rw [bE];exact zy) ZC (by rw [bE];exact hY0 y (ZL hy)) hp1 hp2;rw [bE,bE] at this;exact this
   obtain ⟨x0,hx0⟩:=ah (l:=X) (k:=0) ZB;obtain ⟨y0,hy0⟩:=ah (l:=Y) (k:=0) ZB;have gx0:l0.cs[0]?=some (nR x0):=by rw [m0,ZW,hx0];rfl
   have gy0:l1.cs[0]?=some (nR y0):=by rw [m1,ZW,hy0];rfl
   have hq0:=hquo 0 x0 y0 hx0 hy0;have at1':=kp1.at_ hf1 (fun x hx=>by simp [hx]) hh;have at0':=kp0.at_ hf1 (fun x hx=>by simp [hx]) hh;obtain ⟨ad0,hB0,hr0⟩:=at0'.nm.at_ ZB;obtain ⟨ad1,hB1,hr1⟩:=at1'.nm.at_ ZB;have he0:Value.slice l0.B l0.m l0.b=.slice (some ad0) l0.m l0.b:=by rw [hB0]
   have he1:Value.slice l1.B l1.m l1.b=.slice (some ad1) l1.m l1.b:=by rw [hB1]
   refine aj ?_;refine cX [14] [] [0,1,3,7,15,31,0,64,192,448,960,1984,0,8191,0,32767] 15 [[(8,none)],[(29,some 0)],[(30,some 1)],[(31,some 2)],[(32,some 3)],[(33,some 4)],[(8,none)],[(35,some 6)],[(36,some 7)],[(37,some 8)],[(38,some 9)],[(39,some 10)],[(2,none)],[(34,some 5),(40,some 11),(41,some 12)],[]] [(14,10),(13,42),(12,41),(11,40),(10,39),(9,38),(8,37),(7,36),(6,35),(5,34),(4,33),(3,32),(2,31),(1,30),(0,29)] hh mixed ZD (fB rfl aC.out dk) rfl (by repeat (first|exact bW|refine bA ?_|refine bY ?_)) ?_;refine dR ?_;refine uC (0) ?_;refine cK ?_;refine mZ (fun _ hj=>hj.hp.dZ (i:=4) rfl hc0) ?_;refine aM (i:=4) (Is (.pointer (some (ad0.add (0*3))))) (Is.ext) ?_ ?_
   ·intro ρ1 w1 hj hR;exact dm rfl (fC (k:=0) bj.out aC.size ((show ρ1 32=Value.slice _ _ _ from hR.1).trans he0) rfl rfl ZB) ⟨Below.refl _ _,rfl⟩
   refine nu [_,_,_] (fun _ hj=>(hr0.ext hj.bl).recAt NR.len gx0) ?_;refine dR ?_;refine uC (1) ?_;refine cK ?_;refine mZ (fun _ hj=>hj.hp.dZ (i:=4) rfl hc1) ?_;refine aM (i:=10) (Is (.pointer (some (ad1.add (0*3))))) (Is.ext) ?_ ?_
   ·intro ρ1 w1 hj hR;exact dm rfl (fC (k:=0) bj.out aC.size ((show ρ1 38=Value.slice _ _ _ from hR.1).trans he1) rfl rfl ZB) ⟨Below.refl _ _,rfl⟩
   refine nu [_,_,_] (fun _ hj=>(hr1.ext hj.bl).recAt NR.len gy0) ?_;refine cj ?_;refine dC (fun _ hj=>hq0 _) ?_;refine aM (i:=14) (bC _ 35 _) bC.ext (fun ρ1 w1 hj hR=>eR aC.out hj.bl (fun v w2 h hb=>⟨hb,h⟩)) ?_;refine au ?_;intro f W hJ hV _;have hb_6:=hJ.bl;obtain ⟨v10,v42,v41,v40,v39,v38,v37,v36,v35,v34,v33,v32,v31,v30,v29,_⟩:=hV;obtain ⟨b10,e10,hl10,hc10⟩:bC _ _ _ (f 14) W:=v10;replace hh:=hJ.newVar hh hl10 hc10;refine az (aH (aa e10 (aa v42 (aa v41 (aa v40 (aa v39 (aa v38 (aa v37 (aa v36 (aa v35 (aa v34 (aa v33 (aa v32 (aa v31 (aa v30 (aa v29 ay)))))))))))))))) ?_;dsimp only [bf];clear e10 hJ;refine bJ ?_;intro ws hh;replace hh:=hh.sub (ZI _ (ZJ _ (ZI _ (ZJ _ (ZJ _ (ZI _ (aay _)))))));have hql:=td (p:=p) (show X.length=Y.length by omega);have hne:∀i:Nat,1≤i→(kp X Y p).take i≠[]:=fun i h h2=>by
    have h3:min i (kp X Y p).length=0:=by rw [←Z1,h2];rfl
    rw [hql,lx] at h3;omega
   have hfin:∀(i:Nat),1≤i→∀(x y:Dyadic),X[i]?=some x→Y[i]?=some y→∀s∈[iu ((kp X Y p).take i),qK x y p],s.fin 3000000:=fun i h1i x y hx hy=>by
    have hz:∀(x y:Dyadic),x∈X→y∈Y→Sz 3000000 (rN x y p)∧Sz 3000000 (-rN (-x) y p):=fun x y hx hy=>
     ⟨(vE p (hX x hx) (hY y hy) hp1 hp2).mono ZC,(vE p (hX x hx).neg (hY y hy) hp1 hp2).neg.mono ZC⟩
    have hq:∀s∈(kp X Y p).take i,Sz 3000000 s.lo.d∧Sz 3000000 s.hi.d:=fun s hs=>by
     obtain ⟨j,hj⟩:=aa4.1 (abw hs);have hj2:=(ZV.1 hj).1;rw [hql] at hj2;obtain ⟨a,ha⟩:=ah hj2;obtain ⟨b,hb⟩:=ah (l:=Y) (k:=j) ZB;rw [oB ha hb] at hj;rw [←aau hj];unfold qK;rw [bE,bE];exact hz a b (ZL ha) (ZL hb)
    intro s hs
    rcases ZZ.1 hs with rfl|hs
    ·exact N0 (hne i h1i) hq ZC
    ·rw [aaa.1 hs];have:=hz x y (ZL hx) (ZL hy);exact ⟨ur.of this.1 ZC,ur.of this.2 ZC⟩
   have e1:iu ((kp X Y p).take 1)=qK x0 y0 p:=by
    rw [show (1:Nat)=0+1 from rfl,al (oB hx0 hy0)];exact MQ p (hY0 y0 (ZL hy0))
   rw [←e1] at hh;refine aD [11,43,44,45,46,47,48,49,50,51,52,53,54,55,56,57,58,59,60,61,62,63,64,65,66,67,68,69,70] 11
    (fun v w'=>∃i:Nat,1≤i∧i≤m∧v=.int .i64 i∧Hp w (.blk b10 35 (SR.cells (iu ((kp X Y p).take i))) (0,0)::.row (some ⟨g3,0,none⟩) 2 a3' 25 2 (ao FX.cells [l0,l1])::.blk b6 35 [.bool false,.string (ByteArray.mk #[]),.int .i64 0,.bool false,.string (ByteArray.mk #[]),.int .i64 0] (0,0)::R3) w')
    (fun v _=>m-(intOf v).toNat) ?_ ?_
   ·exact ⟨1,ZM _,hpos,rfl,hh.perm (.cons _ (.swap _ _ _))⟩
   ·clear hh;rintro ρ' v w' ⟨i,h1i,hi,rfl,hh⟩;by_cases hlt:i<m
    ·obtain ⟨x,hx⟩:=ah (l:=X) (k:=i) ZB;obtain ⟨y,hy⟩:=ah (l:=Y) (k:=i) ZB;have gx:l0.cs[i]?=some (nR x):=by rw [m0,ZW,hx];rfl
     have gy:l1.cs[i]?=some (nR y):=by rw [m1,ZW,hy];rfl
     have hq:=hquo i x y hx hy;have at1':=kp1.at_ hf1 (fun x hx=>by simp [hx]) hh;have at0':=kp0.at_ hf1 (fun x hx=>by simp [hx]) hh;obtain ⟨ad0,hB0,hr0⟩:=at0'.nm.at_ ZB;obtain ⟨ad1,hB1,hr1⟩:=at1'.nm.at_ ZB;have he0:Value.slice l0.B l0.m l0.b=.slice (some ad0) l0.m l0.b:=by rw [hB0]
     have he1:Value.slice l1.B l1.m l1.b=.slice (some ad1) l1.m l1.b:=by rw [hB1]
     refine aj ?_;refine bF aC.out rfl (hh.dZ (i:=1) rfl hc0) ZC ?_;have hw:=fun A c w1 (hS1:Sl w1 A 2 6 (ao SR.cells [iu ((kp X Y p).take i),qK x y p]))=>D6 A 2 c _ 3000000 w1 hS1 (hfin i h1i x y hx hy) ZC ZC;generalize hV:iu ((kp X Y p).take i)=V at*;replace hh:Hp _ (.blk _ _ [_,_,_,_,_,_] _::_) _:=hh;refine aj ?_;refine cX [] [] [0,0,2,6,14,0,62,126,0,256,768,1792,0,7936,16128,0,65534,131071,262143,524287] 17 [[(10,none)],[(8,none)],[(53,some 1)],[(54,some 2)],[(55,some 3)],[(11,none)],[(56,some 4),(57,some 5)],[(58,some 6)],[(8,none)],[(60,some 8)],[(61,some 9)],[(62,some 10)],[(11,none)],[(63,some 11),(64,some 12)],[(65,some 13)],[(2,none)],[(59,some 7),(66,some 14),(67,some 15)]] [(16,68),(15,67),(14,66),(13,65),(12,64),(11,63),(10,62),(9,61),(8,60),(7,59),(6,58),(5,57),(4,56),(3,55),(2,54),(1,53),(0,52)] hh mixed ZD dk rfl (by repeat (first|exact bW|refine bA ?_|refine bY ?_)) ?_;refine df 0 [_,_,_,_,_,_] ?_;refine dR ?_;refine uC (0) ?_;refine cK ?_;refine mZ (fun _ hj=>hj.hp.dZ (i:=1) rfl hc0) ?_;refine cj ?_
     refine aM (i:=6) (Is (.pointer (some (ad0.add (i*3))))) (Is.ext) ?_ ?_
     ·intro ρ1 w1 hj hR;exact dm rfl (fC (k:=i) bj.out aC.size ((show ρ1 56=Value.slice _ _ _ from hR.1).trans he0) (show ρ1 57=_ from hR.2.1) rfl ZB) ⟨Below.refl _ _,rfl⟩
     refine nu [_,_,_] (fun _ hj=>(hr0.ext hj.bl).recAt NR.len gx) ?_;refine dR ?_;refine uC (1) ?_;refine cK ?_;refine mZ (fun _ hj=>hj.hp.dZ (i:=1) rfl hc1) ?_;refine cj ?_;refine aM (i:=13) (Is (.pointer (some (ad1.add (i*3))))) (Is.ext) ?_ ?_
     ·intro ρ1 w1 hj hR;exact dm rfl (fC (k:=i) bj.out aC.size ((show ρ1 63=Value.slice _ _ _ from hR.1).trans he1) (show ρ1 64=_ from hR.2.1) rfl ZB) ⟨Below.refl _ _,rfl⟩
     refine nu [_,_,_] (fun _ hj=>(hr1.ext hj.bl).recAt NR.len gy) ?_;refine cj ?_;refine dC (fun _ hj=>hq _) ?_;refine au ?_;intro f W hJ hV _;have hb_10:=hJ.bl;obtain ⟨v68,v67,v66,v65,v64,v63,v62,v61,v60,v59,v58,v57,v56,v55,v54,v53,v52,_⟩:=hV;replace hh:=hJ.hp;refine az (aH (aa v68 (aa v67 (aa v66 (aa v65 (aa v64 (aa v63 (aa v62 (aa v61 (aa v60 (aa v59 (aa v58 (aa v57 (aa v56 (aa v55 (aa v54 (aa v53 (aa v52 ay)))))))))))))))))) ?_;dsimp only [bf];clear hJ;refine de hh (cs:=[_,_,_,_,_,_,_,_,_,_,_,_]) bj.out aC.out (bR (eD rfl) (bR (eD rfl) dX)) rfl rfl ZC ZC ZC rfl ZC ?_;intro b69 w69 hh;refine a0 hh (hw _ _ _ (hh.ar (i:=0) rfl)) rfl ?_;intro w70 hh;refine bJ ?_;intro ws hh;replace hh:=hh.sub (ZJ _ (ZI _ (ZI _ (ZI _ (aay _)))));refine ⟨⟨i+1,ZB,ZB,rfl, ?_⟩,by show m-(i+1)<m-i;omega, ?_⟩
     ·rw [al (oB hx hy),←I0 (hne i h1i),hV];exact hh
     ·exact dh
    ·obtain rfl:i=m:=ZB;rw [ZO ZB] at hh;refine aj ?_;refine bF aC.out rfl (hh.dZ (i:=1) rfl hc0) ZC ?_;refine bJ ?_;intro ws hh;refine Cw (bH rfl (bG (vs:=[_,_,_,_,_,_]) aC.out (hh.aK (i:=2) (n:=6) rfl rfl) rfl) (dL (ep rfl) cV)) ?_;exact ⟨rfl,hh.below⟩
 ·have hrb:=fun A cc w1 hb hS=>(hra A cc w1 hb hS).mono fun r w' h=>show r=.returned (.tuple #[.slice none 0 0,.int .i64 (cg [f,g])])∧Below w1.heap.size w1 w' from by
   rcases h with h|h
   ·exact h.2
   ·exact absurd h.1 h0
  rw [ZG h0,ZG h0];generalize cg [f,g]=E at*;refine SL ?_;refine kb ?_;intro b3 w3 hh b4 w4 hh b6 w6 hh;refine tO ?_;intro b15 w15 hh;refine a0 hh (hrb _ _ _ hh.below (hh.ar (i:=0) rfl)) rfl ?_;intro w16 hh;exact Wg
variable {N by' n o:Nat}{P:Program}{W' w w0:World}{ag:Bool}{cs vs zc:List Value}{ops:Array Oper}{pos:String}{t':TypeId}{ρ:Rf}
def rV (g:FX) (W:World):Prop:=∃(n:Nat) (R:List HE),X4 R g∧g.cs.length=g.m∧∀x∈R,x.holds n W
theorem rV.at_ {g:FX} (h:rV g W):g.at_ W:=by
 obtain ⟨n,R,h1,hc,h2⟩:=h
 rcases h1 with rfl|⟨h0,rfl⟩
 ·exact ⟨gW (h2 _ (Z0 _ ZQ)),gW (h2 _ ZQ)⟩
 ·refine ⟨gW (h2 _ ZQ), ?_⟩;rw [h0] at hc ⊢;rw [abl hc];exact ⟨rfl,fun h=>absurd h ZC⟩
theorem rV.ext {g:FX} (h:rV g W) (hb:Below W.heap.size W W'):rV g W':=
 let ⟨n,R,h1,hc,h2⟩:=h
 ⟨n,R,h1,hc,fun x hx=>kZ (h2 x hx) fun b hid=>hb.block b (eL (h2 x hx) hid).2⟩
theorem rV.grown {g:FX}{cs:Array Value} (h:rV g W) (hg:W.grownBy W' (some b)) (h3:W.heap[b]?=some (.cells cs 25 fz)):rV g W':=by
 obtain ⟨n,R,h1,hc,h2⟩:=h;have hne:∀x∈R,x.id≠some b:=fun x hx=>by
  have hx2:=h2 x hx
  rcases h1 with rfl|⟨_,rfl⟩
  ·rcases ZZ.1 hx with rfl|hx
   ·exact n6 hx2 h3 ZC
   ·obtain rfl:=aaa.1 hx;exact n6 hx2 h3 ZC
  ·obtain rfl:=aaa.1 hx;exact n6 hx2 h3 ZC
 exact ⟨n,R,h1,hc,fun x hx=>kZ (h2 x hx) fun k hid=>hg.block k (eL (h2 x hx) hid).2 fun e=>hne x hx (hid.trans e)⟩
def l6 (f:FX):VP:=fun v W=>∃g:FX,v=.agg #[.slice g.A g.n g.a,.slice g.B g.m g.b]∧(∃A a B b,g=⟨A,f.n,a,B,f.m,b,f.ds,f.cs⟩)∧rV g W
theorem l6.ext {f:FX} (v:Value) (w w':World) (h:l6 f v w) (hb:Below w.heap.size w w'):l6 f v w':=let ⟨g,h1,h2,h3⟩:=h;⟨g,h1,h2,h3.ext hb⟩
theorem W0 (f:FX) (w:World) (hf:f.at_ w) (hn:f.n≤1000000) (hm:f.m≤1000000):
  Calls Tryz.prog 14 #[.agg #[.slice f.A f.n f.a,.slice f.B f.m f.b]] w fun r w'=>∃v,r=.returned v∧l6 f v w'∧Below w.heap.size w w':=
 (Co f.A f.B f.n f.a f.m f.b f.ds f.cs w hf.dg hf.nm hn hm).mono fun _ _ ⟨A,a,B,b,R,h1,h2,h3⟩=>⟨_,h1,⟨⟨A,f.n,a,B,f.m,b,f.ds,f.cs⟩,rfl,⟨A,a,B,b,rfl⟩,_,R,h2,hf.ln.2,h3.own⟩,h3.below⟩
theorem yF {ro:Mode}{Q:Kq}{rest:List Oper}{H:List HE}{ty:TypeId}{af:Array Edge} (hh:Hp w0 H w) (i:Nat) {t:TypeId}{x y:Operand}{v:Value} (hx:ev ρ x=.pointer (some ⟨b,o,none⟩)) (hi:H[i]?=some (.blk b t' cs fz))
  (hy:ev ρ y=v) (hc:v.cells=vs.toArray) (ht:dv P t=some (n,ag,by',zc)) (hl:vs.length=n) (ho:o+n≤cs.length) (h1:(vs.all Value.oneCell')=true)
  (k:∀w',w.grownBy w' (some b)→w.heap[b]?=some (.cells cs.toArray t' fz)→Hp w0 (H.set i (.blk b t' (bO cs o vs) fz)) w'→WL ro P N ops Q rest ρ w'):WL ro P N ops Q (⟨none,.store t x y,ty,pos,af,none⟩::rest) ρ w:=by
 have hb:=hh.at_ hi;obtain ⟨w',hr,hb',hg,hs⟩:=fQ (P:=P) (b:=b) (t:=t') (fz:=fz) o vs 0 cs w hb.2.1 hb.2.2 ZB (by simpa using h1);refine Aa rfl rfl (w':=w') ?_ (k w' hg hb.2.1 (hh.grown hi hg (.inl rfl) ⟨hb.1,by simpa using hb',by rw [eX ZB];exact hb.2.2⟩));exact UA
theorem qU (fa g:FX) (p:Int) (eps:NR) (w:World) (hT:dO w) (hf:fa.at_ w) (hg:g.at_ w) (hp1: -9223372036854775808≤p) (hp2:p≤9223372036854775807):
  Calls Tryz.prog 4 #[.agg #[.slice fa.A fa.n fa.a,.slice fa.B fa.m fa.b],.agg #[.slice g.A g.n g.a,.slice g.B g.m g.b],.int .i64 p,.agg #[.bool eps.neg,.string eps.aW,.int .i64 eps.e]] w fun r w'=>r=.returned (.bool true)∧Below w.heap.size w w':=by
 have hh:=Hp.start w;refine ae (N:=104) (l:=[.agg #[.slice fa.A fa.n fa.a,.slice fa.B fa.m fa.b],.agg #[.slice g.A g.n g.a,.slice g.B g.m g.b],.int .i64 p,.agg #[.bool eps.neg,.string eps.aW,.int .i64 eps.e]]) Tryz.func4 rfl rfl (by simp) ?_;refine kb ?_;intro b4 w4 hh b5 w5 hh b7 w7 hh;refine aq (r6 fa _ (hf.ext hh.below)) ak.out rfl ZC ?_;rintro e_ w20 ⟨v1,rfl,hv1,hb_⟩;refine ⟨_,rfl, ?_⟩;replace hh:=hh.ext hb_
 cases v1 with
 |true=>
  exact JS
 |false=>
  obtain ⟨sf,f8⟩:=hv1 rfl;have fm:fa.m≤60:=sf.2.1;clear hv1;refine aj ?_;refine aq (r6 g _ (hg.ext hh.below)) ak.out rfl ZC ?_;rintro e_ w23 ⟨v2,rfl,hv2,hb_⟩;refine ⟨_,rfl, ?_⟩;replace hh:=hh.ext hb_
  cases v2 with
  |true=>
   exact JS
  |false=>
   obtain ⟨sg,g8⟩:=hv2 rfl;have gm:g.m≤60:=sg.2.1;have gn:g.n≤20:=sg.2.2;clear hv2;refine aj ?_;refine aq (D9 fa.A fa.B g.A g.B fa.n fa.m g.n g.m fa.a fa.b g.a g.b fa.ds g.ds _ (hf.dg.ext hh.below) (hg.dg.ext hh.below) ZB) ak.out rfl ZC ?_;rintro e_ w28 ⟨v3,rfl,hb_⟩;refine ⟨_,rfl, ?_⟩;replace hh:=hh.ext hb_
   cases v3 with
   |true=>
    exact JS
   |false=>
    have hfc:=fun w1=>xe eps w1;refine aj ?_
    cases hfr:AG eps with
    |true=>
     rw [hfr] at hfc;refine aj ?_;refine a0 hh (hfc _) rfl ?_;intro w32 hh;exact JS
    |false=>
     rw [hfr] at hfc;refine aj ?_;refine a0 hh (hfc _) rfl ?_;intro w32 hh;obtain ⟨hek,hez⟩:=VG hfr;clear hfc hfr;by_cases h1:p< -200
     ·exact JS
     ·by_cases h2:200<p
      ·exact JS
      ·have hof:=fun w1 hb=>W0 fa w1 (hf.ext hb) ZB ZB;have hog:=fun w1 hb=>W0 g w1 (hg.ext hb) ZB ZB;refine aj ?_;refine cX [4,5] [] [0,1,0,7,0,0,63,127] 6 [[(4,none)],[(43,some 0)],[(5,none)],[(45,some 2)],[],[]] [(5,10),(4,9),(3,46),(2,45),(1,44),(0,43)] hh mixed ZD (fB rfl aC.out (fB rfl aC.out dk)) rfl (by repeat (first|exact bW|refine bA ?_|refine bY ?_)) ?_;refine df 2 [_,_] ?_;refine aM (i:=1) (l6 fa) l6.ext ?_ ?_
       ·intro ρ1 w1 hj hR;exact bI rfl (a8 ak.out (av (show ρ1 43=Value.agg (List.toArray _) from hR.1) bh)) (hof _ hj.hp.below) (fun _ _ ⟨v,hq,hp,hb⟩=>⟨v,hq,hb,hp⟩)
       refine df 1 [_,_] ?_;refine aM (i:=3) (l6 g) l6.ext ?_ ?_
       ·intro ρ1 w1 hj hR;exact bI rfl (a8 ak.out (av (show ρ1 45=Value.agg (List.toArray _) from hR.1) bh)) (hog _ hj.hp.below) (fun _ _ ⟨v,hq,hp,hb⟩=>⟨v,hq,hb,hp⟩)
       refine aM (i:=4) (bC _ 25 _) bC.ext (fun ρ1 w1 hj hR=>eR aC.out hj.bl (fun v w2 h hb=>⟨hb,h⟩)) ?_;refine aM (i:=5) (bC _ 25 _) bC.ext (fun ρ1 w1 hj hR=>eR aC.out hj.bl (fun v w2 h hb=>⟨hb,h⟩)) ?_;refine au ?_;intro f W hJ hV hD;have hb_3:=hJ.bl;obtain ⟨v10,v9,v46,v45,v44,v43,_⟩:=hV;obtain ⟨g44,e44,o44⟩:l6 fa (f 1) W:=v44;obtain ⟨g46,e46,o46⟩:l6 g (f 3) W:=v46;obtain ⟨b9,e9,hl9,hc9⟩:bC _ _ _ (f 4) W:=v9;obtain ⟨b10,e10,hl10,hc10⟩:bC _ _ _ (f 5) W:=v10;have hne:=M0 hD (i:=4) (j:=5) ZC ZC ZC e9 e10;replace hh:=hJ.rK hh hl9 hc9 hl10 hc10 hne;clear hD hne;refine az (aH (aa e10 (aa e9 (aa e46 (aa v45 (aa e44 (aa v43 ay))))))) ?_;dsimp only [bf];clear e44 e46 e9 e10 hJ;obtain ⟨⟨A1,a1,B1,c1,rfl⟩,k1⟩:=o44;obtain ⟨⟨A2,a2,B2,c2,rfl⟩,k2⟩:=o46;refine yF hh 1 (vs:=[_,_]) rfl rfl rfl rfl aC.out rfl ZC rfl ?_;intro ws1 hg1 h31 hh;replace k1:=k1.grown hg1 h31;replace k2:=k2.grown hg1 h31;replace hh:Hp _ (.blk _ _ [_,_] _::.blk _ _ [_,_] _::_) _:=hh;refine yF hh 0 (vs:=[_,_]) rfl rfl rfl rfl aC.out rfl ZC rfl ?_;intro ws2 hg2 h32 hh;replace k1:=(k1.grown hg2 h32).at_
       replace k2:=(k2.grown hg2 h32).at_;replace hh:Hp _ (.blk _ _ [_,_] _::.blk _ _ [_,_] _::_) _:=hh;clear hg1 hg2 h31 h32;have r10:=hh.oF (i:=0) rfl;have r9:=hh.oF (i:=1) rfl;have r7:=hh.oF (i:=2) rfl;have r5:=hh.oF (i:=3) rfl;have r4:=hh.oF (i:=4) rfl;replace hT:=hT.hp hh;replace hf:=hf.ext hh.below;replace hg:=hg.ext hh.below;have hb0:=hh.below;replace hh:=Hp.start ws2;clear hof hog;have hbd:=fun w1 hT1 hb1=>uj ⟨A1,fa.n,a1,B1,fa.m,c1,fa.ds,fa.cs⟩ ⟨A2,g.n,a2,B2,g.m,c2,g.ds,g.cs⟩ 124 p w1 hT1 (k1.ext hb1) (k2.ext hb1) ⟨sf.1.1,sf.1.2,sf.1.3⟩ ⟨sg.1.1,sg.1.2,sg.1.3⟩ (by show fa.m≤200;omega) (by show g.m≤200;omega) ZC (fun h=>BS (f:=⟨A1,fa.n,a1,B1,fa.m,c1,fa.ds,fa.cs⟩) (g:=⟨A2,g.n,a2,B2,g.m,c2,g.ds,g.cs⟩) ⟨⟨sf.1.1,sf.1.2,sf.1.3⟩,sf.2⟩ ⟨⟨sg.1.1,sg.1.2,sg.1.3⟩,sg.2⟩ hf.ln hg.ln h) ZB ZB;have hrb:=fun w1 hb1=>AU fa g 124 p w1 (hf.ext hb1) (hg.ext hb1) sf.1 sg.1 ZC (fun h=>BS sf sg hf.ln hg.ln h) ZB ZB;have hne:=fun w1 hT1 hb1=>wv ⟨A2,g.n,a2,B2,g.m,c2,g.ds,g.cs⟩ eps 124 w1 hT1 (k2.ext hb1) ⟨sg.1.1,sg.1.2,sg.1.3⟩ hek ZC
       have hrn:=fun w1 hb1=>Cu g eps 124 w1 (hg.ext hb1) sg.1 hek hez ZC;have hs1:=fun w1 hb1=>tN ⟨A1,fa.n,a1,B1,fa.m,c1,fa.ds,fa.cs⟩ fa w1 (k1.ext hb1) (hf.ext hb1) ⟨rfl,rfl⟩ (by show fa.n≤100000;omega) (by show fa.m≤1000000;omega);have hs2:=fun w1 hb1=>tN ⟨A2,g.n,a2,B2,g.m,c2,g.ds,g.cs⟩ g w1 (k2.ext hb1) (hg.ext hb1) ⟨rfl,rfl⟩ (by show g.n≤100000;omega) (by show g.m≤1000000;omega);obtain ⟨eE,eV⟩:=yN (f:=⟨A1,fa.n,a1,B1,fa.m,c1,fa.ds,fa.cs⟩) (g:=⟨A2,g.n,a2,B2,g.m,c2,g.ds,g.cs⟩) (f':=fa) (g':=g) rfl rfl p;have eK:lv ⟨A2,g.n,a2,B2,g.m,c2,g.ds,g.cs⟩ eps.d=lv g eps.d:=rfl;have eN:nJ ⟨A2,g.n,a2,B2,g.m,c2,g.ds,g.cs⟩ eps.d=nJ g eps.d:=rfl;rw [eV,eE] at hbd;rw [eK,eN] at hne;clear eV eE eK eN;generalize fP fa g p=V at*;generalize jC fa g=E at*;generalize lv g eps.d=K at*;generalize nJ g eps.d=E2 at*;refine aj ?_;refine bk (vs:=[_,_]) aC.out rfl ((r9.ext hh.below)) rfl ZC ?_;refine bk (vs:=[_,_]) aC.out rfl ((r10.ext hh.below)) rfl ZC ?_;refine mI ?_;refine a0 hh (hbd _ (hT.hp hh) hh.below) rfl ?_;intro w51 hh;refine bU ?_;intro b11 w11 hh ws hh
       refine bk (vs:=[_,_]) aC.out rfl ((r4.ext hh.below)) rfl ZC ?_;refine bk (vs:=[_,_]) aC.out rfl ((r5.ext hh.below)) rfl ZC ?_;refine mI ?_;refine a0 hh (hrb _ hh.below) rfl ?_;intro w58 hh;refine bU ?_;intro b13 w13 hh ws hh;refine bk (vs:=[_,_]) aC.out rfl ((r10.ext hh.below)) rfl ZC ?_;refine bk (vs:=[_,_,_]) aC.out rfl ((r7.ext hh.below)) rfl ZC ?_;refine a0 hh (hne _ (hT.hp hh) hh.below) rfl ?_;intro w64 hh;refine aj ?_;refine bk (vs:=[_,_]) aC.out rfl ((r5.ext hh.below)) rfl ZC ?_;refine bk (vs:=[_,_,_]) aC.out rfl ((r7.ext hh.below)) rfl ZC ?_;refine a0 hh (hrn _ hh.below) rfl ?_;intro w70 hh;refine aj ?_;refine aR rfl rfl ZC (IJ (s:=V) rfl rfl) ?_;refine aj ?_;refine bk (vs:=[_,_]) aC.out rfl ((r9.ext hh.below)) rfl ZC ?_;refine aj ?_;refine bk (vs:=[_,_]) aC.out rfl ((r4.ext hh.below)) rfl ZC ?_;refine aj ?_;refine a0 hh (hs1 _ hh.below) rfl ?_;intro w94 hh;refine aj ?_;refine bk (vs:=[_,_]) aC.out rfl ((r10.ext hh.below)) rfl ZC ?_;refine aj ?_;refine bk (vs:=[_,_]) aC.out rfl ((r5.ext hh.below)) rfl ZC ?_;refine aj ?_;refine a0 hh (hs2 _ hh.below) rfl ?_;intro w99 hh;refine aj ?_;refine a0 hh (rz _ (hT.hp hh)) rfl ?_;intro w102 hh
       refine aj ?_;exact ⟨rfl,hb0.trans (hh.below.mono hb0.size)⟩
end Go.Proofs.YtmchncaiffbpaaaGreatDoor
namespace Go.Proofs.YtmchncaiffbpaaaGreatDoor.ratioBounds
open Go.ChangeShapes Go.WideShapes Go.ChangeAt Go.RowKit Go.ChangeMaps
theorem own:ownKnob Tryz.prog.godebug=none:=by kernel_rfl
set_option maxRecDepth 100000 in
theorem lifted (os:Os) (started:os.Started) (H:Type) (enc:TypeId×Value→H):
  ReturnsInHanded {} Tryz.checked os 4 .any (fun w args=>(Rows.ratioBoundsSpec.pre enc Tryz.prog Tryz.f4 Rows.ratioBoundsRow.domain false w args∧laidMetH Tryz.prog Rows.ratioBoundsRow.laid w)∧sizedMet enc Tryz.prog Tryz.f4 (OpenSpec.ofChange Rows.ratioBoundsSpec) false w args)
   (Rows.ratioBoundsSpec.post enc Tryz.prog Tryz.f4 false true false false):=by
 refine returnsInHanded_of_change_and (C:=Tryz.checked) (X:=fun w _=>laidMetH Tryz.prog Rows.ratioBoundsRow.laid w) (fun _ _ _ hh h=>h.of_heap hh) own started ZD Tryz.func4
  (ChangeSpec.witness_shaped (enc:=enc) (C:=Tryz.checked) (os:=os) (X:=fun w _=>laidMetH Tryz.prog Rows.ratioBoundsRow.laid w) false (World.laidAll Tryz.prog os Rows.ratioBoundsRow.laid) #[.agg #[.slice none 0 0,.slice none 0 0],.agg #[.slice none 0 0,.slice none 0 0],.int .i64 0,.agg #[.bool false,.string ⟨#[]⟩,.int .i64 0]] 8 (World.laidAll_os _ _ _)
   (World.shaped_of_ZipB ZD ZD) ZD ZD ZD
   (by rw [MakeChecks.laidMetH_plain _ _ _ ZD];exact laidMet_laidAll _ ZD ZD)) ?_
 intro W base args ds gs before hval0 hW hc _ hL _;have hval:∀(j:Nat) t v,Tryz.f4.params[j]?=some t→args[j]?=some v→Value.okWide Tryz.prog W .any base t v:=hval0;have hW':=hW;obtain ⟨p,q,hA0,hV,rfl,hfz,hnd⟩:=hW;have hA:DataW.TrodAll enc Tryz.prog W 0 (fun _=>true) true Tryz.f4.params.toList args.toList ds p:=hA0;rw [Tryz.params4] at hA hval;obtain ⟨v0,vs0,d0,ds0,p0,q0,hargs,rfl,rfl,h0,r0⟩:=trodAll_cons hA;obtain ⟨v1,vs1,d1,ds1,p1,q1,rfl,rfl,rfl,h1,r1⟩:=trodAll_cons r0;obtain ⟨v2,vs2,d2,ds2,p2,q2,rfl,rfl,rfl,h2,r2⟩:=trodAll_cons r1;obtain ⟨v3,vs3,d3,ds3,p3,q3,rfl,rfl,rfl,h3,r3⟩:=trodAll_cons r2;obtain ⟨rfl,rfl,rfl⟩:=trodAll_nil r3;obtain rfl:args= #[v0,v1,v2,v3]:=by cases args;simp_all
 obtain ⟨rfl,rfl⟩:=trodVars_none hV;obtain ⟨f0,rfl,hS0⟩:=yu (hval 0 25 v0 rfl rfl) h0;obtain ⟨f1,rfl,hS1⟩:=yu (hval 1 25 v1 rfl rfl) h1;obtain ⟨x2,rfl,rfl,rfl,b2⟩:=open_int Tryz.underlying3 (hval 2 3 v2 rfl rfl) h2;obtain ⟨x3,rfl,_,_⟩:=KR (hval 3 33 v3 rfl rfl) h3;refine (qU f0 f1 x2 x3 W (Dc hL) hS0 hS1 (bounds_i64 b2).1 (bounds_i64 b2).2).mono fun e W' ⟨he,hb⟩=> ?_;subst he;exact ⟨_,rfl,LF hW' rfl ZD (by rw [Tryz.params4];exact aby ZD) ZD Tryz.underlying4 rfl rfl rfl hb⟩
set_option maxHeartbeats 8000000 in
theorem row_holds:Rows.RatioBoundsSaid:=
 OpenClaim.holds_of_wide 4 Tryz.f4 rfl rfl rfl rfl rfl rfl rfl ⟨rfl,rfl,rfl,rfl,rfl⟩ rfl rfl rfl rfl rfl (by as_aux_lemma=>kernel_rfl) Tryz.func4 (by rw [joinedFacts];simp only [Z7];and_intros<;>as_aux_lemma=>kernel_rfl)
  (aby (by as_aux_lemma=>kernel_rfl)) (by unfold Func.isWrapper;first|(rw [ZH (by decide+kernel)];kernel_rfl)|(rw [ZG (by decide+kernel)];exact ⟨rfl,rfl⟩))
  (fun os started H enc _=>lifted os started H enc)
set_option maxHeartbeats 8000000 in
theorem holds:Rows.RatioBoundsCardSaid:=
 Claim7.holds_tied_plain_at .later [] [.data,.data,.pinned] true (true, "ecf3ceebdc447751b8c20a115345f3577276edbf64951cb3738b238e6a07027b") false row_holds (fun _ h=>by cases h) (by as_aux_lemma=>kernel_rfl) (fun _ h=>by cases h) ratioBounds_row_tie rfl ⟨rfl,rfl⟩ (by as_aux_lemma=>kernel_rfl) rfl
  (fun f fn hf hfn=>by
   obtain rfl:f=4:=aau ((show Tryz.prog.funcNamed "ogee/ogeelaw20.RatioBounds" =some 4 by as_aux_lemma=>kernel_rfl).symm.trans hf)|>.symm;obtain rfl:fn=Tryz.f4:=(aau (Tryz.func4.symm.trans hfn)).symm;exact ⟨by as_aux_lemma=>kernel_rfl,fun j t ht=>by
    rw [Tryz.params4] at ht;have hm:t∈[25,25,3,33]:=by simpa using Array.mem_of_getElem? ht
    have hall:([25,25,3,33].all fun u=> !Tryz.prog.wantsStandIn u)=true:=by as_aux_lemma=>kernel_rfl
    exact (show Tryz.prog.wantsStandIn t=false by simpa using aai.1 hall t hm)⟩)
  (by as_aux_lemma=>kernel_rfl)
#print axioms holds
end Go.Proofs.YtmchncaiffbpaaaGreatDoor.ratioBounds
