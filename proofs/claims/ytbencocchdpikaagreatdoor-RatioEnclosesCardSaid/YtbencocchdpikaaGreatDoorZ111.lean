/- Lemmas for ratioEncloses, part 11. -/
import Derived.Test.YtbencocchdpikaaGreatDoorZ11
set_option linter.all false
set_option maxHeartbeats 0
namespace Go.Proofs.YtbencocchdpikaaGreatDoor
open Go.Proofs.Tryz
open Go.RowKit
variable {b:List SR}{k:Nat}
variable {j m:Nat}
variable {r:Nat}
variable {es rs:List Nat}
variable {n:Nat}{cs:List Value}{w:World}
variable {p:PX}
variable {base:Nat}
def FP{v v':Int}(h:Cm b v)(h2:(b=[]/\v'= -1)\/∃(m:Nat)(s:SR),b[m]?=some s/\v'=m/\(∀u∈b,¬s.wid<u.wid)/\∀(j:Nat)(t:SR),j<m->b[j]?=some t->∃u∈b,t.wid<u.wid):v'=v:=by
 obtain⟨rfl,rfl⟩|⟨m,s,K,rfl,G,z⟩:=h
 .obtain⟨_,rfl⟩|⟨m,s,K,_⟩:=h2
  .rfl
  cases K
 obtain⟨rfl,_⟩|⟨N,s2,a,rfl,P,L⟩:=h2
 .cases K
 obtain g|g|g:=u6 m N
 .obtain⟨u,hu,D⟩:=L m s g K;obtain⟨j,hj⟩:=r_.1 hu;exact absurd D (G j u hj)
 .rw[g]
 exact absurd (z N s2 g a) (P s (O' K))
structure BX where
 A:Option Addr
 n:Nat
 c:Nat
 b:List SR
def BX.cells(x:BX):List Value:=[.slice x.A x.n x.c]
def BX.len:∀x:BX,x.cells.length=1:=λ_=>rfl
def BX.row(x:BX):HE:=.row x.A x.n x.c 36 6 (la SR.cells x.b)
def XV{A:Option Addr}{x:BX}{xs:List BX}(h:Sl w A (xs.length+1) 1 (la BX.cells (x::xs).reverse)):Sl w A xs.length 1 (la BX.cells xs.reverse):=by
 have:=h.front (m:=xs.length) Z';rwa[wi BX.len,show(x::xs).reverse.take xs.length=xs.reverse by simp] at this
variable {w0:World}
def BX.sl{x:BX}{H:List HE}(I:Hp w0 H w)(hm:x.row∈H)(F:x.b=b):Sl w x.A x.n 6 (la SR.cells b):=by
 subst F;exact xg (I.own x.row hm)
def MQ{f:FX}{D:List Nat}{H:List HE}(I:Hp w0 H w)(hm:f.gg∈H)(T:f.ds=sa D)(B:f.n=D.length):Sl w f.A D.length 1 (Fa (sa D)):=by
 rw[<-T,<-B];exact xg (I.own f.gg hm)
def xL(V:SR):Se [V,V]=Se [V]:=by
 have e:(Jg [V,V]).map NR.fa=[V.lo.fa,V.hi.fa,V.lo.fa,V.hi.fa]:=rfl;have N:(Jg [V]).map NR.fa=[V.lo.fa,V.hi.fa]:=rfl;have k1:=PD (l:=[V.lo.fa,V.hi.fa]);have k2:=Nj (f:=λx y=>decide (x<y)) (l:=[V.lo.fa,V.hi.fa]) (by simp);have R:=ID (l:=[V.lo.fa,V.hi.fa]);have X:=Nj (f:=λx y=>decide (y<x)) (l:=[V.lo.fa,V.hi.fa]) (by simp);unfold Se;rw[e,N];generalize xc (λx y=>decide (x<y)) [V.lo.fa,V.hi.fa]=u at*;generalize xc (λx y=>decide (y<x)) [V.lo.fa,V.hi.fa]=v at*;have hm:∀x,x∈[V.lo.fa,V.hi.fa,V.lo.fa,V.hi.fa]↔x∈[V.lo.fa,V.hi.fa]:=λx=>(by simp only[y',i_,or_false];grind);rw[Rr ((hm u).2 k2) λx C=>k1 x ((hm x).1 C),Hs ((hm v).2 X) λx C=>R x ((hm x).1 C)]
def aw(p)(L)(n c:Nat)(b)(M)(R:Nat)(D)(X)(w)(P:GL p b D X)(j:wC p.v 124 8 4 p.ts)(l:da (wb p.v p.ts)<=100)(hp:p.at_ w)(d:p.qf 124)(E:Sl w L n 6 (la SR.cells b))(F:∀s∈b,s.fin 224)(q:n<=1000000)(k:Sl w M D.length 1 (Fa (sa D)))(f:D.length≠0)(i:D.length<=1000000):Calls prog 43 #[p.V,.slice L n c,.slice M D.length R] w λr V=>∃g:FX,g.is D X/\r=.returned (.tuple #[g.V,.int .i64 0])/\Hp w [g.mh,g.gg] V:=by
 have h:=Dr p L n c b M D.length R (sa D) 224 w hp ⟨d.n,d.cap,d.ok.mono V',d.sz⟩ E F q k i V' λ_=>oC j.e j.ex l V';have N:nW p (sa D)=D:=(by unfold nW Xj;rw[R' (by rw[Za];exact f)];exact Yg D);rw[P.e,N,P.x] at h;exact h.mono λr V ⟨g,o,H,G⟩=>⟨g,⟨o.ds,o.cs⟩,H,G⟩
def SA(f g:FX)(c:CV)(p:Int)(w)(d:f.at_ w)(s:g.at_ w)(fi:f.is c.D c.X)(y:g.is c.D c.Y)(W:c.ok)(L: -1000<=p)(H:p<=1000):Zc 47 #[f.V,g.V,.int .i64 p] w (.tuple #[.agg (SR.cells (De c.f c.g p)).toArray,.int .i64 (Zf c.f c.g)]):=by
 have E:=W.NA;have k1:=fi.nB d;have k2:=y.nB s;obtain⟨G,T⟩:=LC k1 k2 p;obtain⟨J,o,e⟩:=To k1 k2;have h:=AE f g 90000 p w d s (fi.qf d W.d12 W.lx Z' W.zx V') (y.qf s W.d12 W.ly Z' W.zy V') V' (by rw[J,o,(e _).1,(e _).2];exact W.up) L H;rw[G,T] at h;exact h
def HD(g:FX)(c:CV)(eps:NR)(w)(s:g.at_ w)(y:g.is c.D c.Y)(W:c.ok)(he:eps.ok)(o:Sz 90000 eps.fa):Zc 49 #[g.V,eps.V] w (.tuple #[.int .i64 (gl c.g eps.fa:Nat),.int .i64 (Gm c.g eps.fa)]):=by
 have E:=W.NA;obtain⟨G,T⟩:=WH (y.nB s) eps.fa;have h:=KH g eps 90000 w s (y.qf s W.d12 W.ly Z' W.zy V') he o V';rw[G,T] at h;exact h
def DV(g)(eps:Dyadic):gl g eps<2^g.n:=by
 unfold gl;split
 .exact Nat.two_pow_pos _
 unfold nu
 cases h:(List.range (2^g.n)).find? λk:Nat=>decide (Eh (xm g (k:Int)).fa<eps) with
 |none=>exact Nat.two_pow_pos _
 |some x=>exact S_.1 (List.mem_of_find?_eq_some h)
def dE(L)(n c:Nat)(b)(a:Nat)(k:Nat)(w)(J:Sl w L n 6 (la SR.cells b))(F:∀s∈b,s.fin k)(B:n<=1000000)(u:k<=1000000)(g:∀v,Cm b v->v=(a:Int))(S:b.length≠0):Zc 51 #[.slice L n c] w (.int .i64 a):=by
 obtain⟨a',M,_⟩:=wE (b.length-1) b Z';exact(Vy L n c b k w J F B u).mono λr V ⟨⟨v,H,A⟩,h2⟩=>⟨by rw[H,FP M A,g _ M],h2⟩
def Hz(p q:PX)(L)(n c:Nat)(b)(eps:NR)(grid bu:Int)(R:RV)(k e:Int)(w)(hp:p.at_ w)(hcp:p.n<=p.c)(hq:q.at_ w)(hcq:q.n<=q.c)(hB:Sl w L n 6 (la SR.cells b))(hbx:∀s∈b,s.fin 124)(sp:oB p b 27 9)(sq:oB q b 27 9)(hb3:b.length<=3)(h2p:p.e=0->∀d∈wb p.v p.ts,d<=2)(h2q:q.e=0->∀d∈wb q.v q.ts,d<=2)(he:eps.ok)(hez:Sz 124 eps.fa)(hg1: -1000<=grid)(hg2:grid<=1000)(F: -9223372036854775808<=bu)(hb2:bu<=30)(hR:Fm p q b eps grid bu 40 R k e):Calls prog 11 #[p.V,q.V,.slice L n c,eps.V,.int .i64 grid,.int .i64 bu] w λr V=>∃A m c',r=.returned (.tuple #[.agg (R.cells A m c').toArray,.int .i64 k,.int .i64 e])/\Hp w [.row A m c' 30 3 (la NR.cells R.at_)] V:=by
 have I:=Hp.start w;have hbl:b.length=n:=hB.Aa SR.len V';have lp:=sp.qf hp hcp;have lq:=sq.qf hq hcq;obtain⟨gp,fp⟩:=Gx sp h2p;obtain⟨gq,fq⟩:=Gx sq h2q;have o:=λZ F=>Dr p L n c b none 0 0 [] 124 Z (hp.ext F) lp (hB.ext F) hbx Z' (Sl.nil _ _ _) V' V' gp;replace o:∀Z,Below w.heap.size w Z->Calls prog 43 #[p.V,.slice L n c,.slice none 0 0] Z λr V=>∃g:FX,Out (sf p b []) (wb p.v p.ts) (Aj (wb p.v p.ts) (Qb p (Ca b)).2) g/\r=.returned (.tuple #[g.V,.int .i64 (sf p b [])])/\Hp Z [g.mh,g.gg] V:=o;have N:=λZ F=>Dr q L n c b none 0 0 [] 124 Z (hq.ext F) lq (hB.ext F) hbx Z' (Sl.nil _ _ _) V' V' gq;replace N:∀Z,Below w.heap.size w Z->Calls prog 43 #[q.V,.slice L n c,.slice none 0 0] Z λr V=>∃g:FX,Out (sf q b []) (wb q.v q.ts) (Aj (wb q.v q.ts) (Qb q (Ca b)).2) g/\r=.returned (.tuple #[g.V,.int .i64 (sf q b [])])/\Hp Z [g.mh,g.gg] V:=N;have hfo:=λZ F=>Bn L n c b 124 Z (hB.ext F) hbx Z' V';have t:=λhE=>ay sp sq hb3 h2p h2q (p:=p) (q:=q) hE;have hfit:=λhE=>let⟨h1,h2,G,_⟩:=t hE;vX hE h1 h2 G;have heo:=he.1;have nsp:(ie p b).ns=wb p.v p.ts:=Yg _
 have nsq:(ie q b).ns=wb q.v q.ts:=Yg _;have csp:(ie p b).cs.map NR.fa=Aj (wb p.v p.ts) (Qb p (Ca b)).2:=by unfold ie xn;rw[E_];exact(J9 λy _=>Ta y).trans (p8 _)
 have csq:(ie q b).cs.map NR.fa=Aj (wb q.v q.ts) (Qb q (Ca b)).2:=by unfold ie xn;rw[E_];exact(J9 λy _=>Ta y).trans (p8 _)
 rw[nsp,csp] at fp;rw[nsq,csq] at fq;have eP:ie p b=xn (wb p.v p.ts) (Aj (wb p.v p.ts) (Qb p (Ca b)).2):=rfl;have eQ:ie q b=xn (wb q.v q.ts) (Aj (wb q.v q.ts) (Qb q (Ca b)).2):=rfl;have eB:Hj p q b=if sf p b []≠0 then sf p b [] else if sf q b []≠0 then sf q b [] else Nb [ie p b,ie q b]:=rfl
 have eD:(Zh p q b).D=maxD [ie p b,ie q b]:=rfl;have eb:(Zh p q b).b=b.map SR.f:=rfl;rw[eP,eQ] at eB eD;unfold Fm at hR;generalize Zh p q b=V0 at*;generalize Hj p q b=E at*;generalize Aj (wb p.v p.ts) (Qb p (Ca b)).2=X at*;generalize Aj (wb q.v q.ts) (Qb q (Ca b)).2=Y at*;generalize wb p.v p.ts=DP at*;generalize wb q.v q.ts=DQ at*;generalize sf p b []=E1 at*;generalize sf q b []=E2 at*;by_cases hE1:E1≠0
 .rw[Q' hE1] at eB;rw[eB,Q' hE1] at hR;obtain⟨rfl,rfl,rfl⟩:=hR;refine Ga func11 ?_;refine sr ?_;refine ar I [_,_] ?_;intro b6 w6 I;refine ar I [_,_] ?_;intro b7 w7 I;refine ar I [_,_,_] ?_;intro b9 w9 I;refine ik I ?_;intro b12 w12 I;refine aI (aI (ia (sr ?_)));refine vf I 3 [_,_] (mL ?_);refine Vg (o _ I.below) ?_;rintro e_ w32 ⟨f,o1,rfl,G⟩;refine⟨_,rfl, ?_⟩;replace I:=I.join G;simp only[I',J'] at I;refine mT ?_;refine ui ?_;refine ui ?_;refine ik I ?_;intro b15 w15 I;refine pd I 0 [_,_] ?_;intro ws I;replace I:Hp _ (.blk _ _ [_,_] _::_) _:=I;refine aI (ia (qa (sr (mI ?_))));refine Bk (ia (cT (sr ?_)));refine qm [_,_,_,_,_,_,_,_] (mI ?_);refine pd I 3 [_,_,_,_,_,_,_,_] ?_;intro ws I;replace I:Hp _ (_::_::_::.blk _ _ [_,_,_,_,_,_,_,_] _::_) _:=I;refine aI (aI (ia (je (Ad ?_))));refine YH (jb rfl (kb (vs:=[_,_,_,_,_,_,_,_]) pa.out (I.wa (i:=3) (n:=8) rfl rfl) rfl) (Dc (Sc rfl) (Dc (Sc rfl) Ub))) ?_;exact yQ
 rw[R' hE1] at eB;obtain rfl:E1=0:=C9.1 hE1;by_cases C:E2≠0
 .rw[Q' C] at eB;rw[eB,Q' C] at hR;obtain⟨rfl,rfl,rfl⟩:=hR;refine Ga func11 ?_;refine sr ?_;refine ar I [_,_] ?_;intro b6 w6 I;refine ar I [_,_] ?_;intro b7 w7 I;refine ar I [_,_,_] ?_;intro b9 w9 I;refine ik I ?_;intro b12 w12 I;refine aI (aI (ia (sr ?_)));refine vf I 3 [_,_] (mL ?_);refine Vg (o _ I.below) ?_;rintro e_ w32 ⟨f,o1,rfl,G⟩;refine⟨_,rfl, ?_⟩;replace I:=I.join G;simp only[I',J'] at I;refine mT ?_;refine ui ?_;refine ui ?_;refine ik I ?_;intro b15 w15 I;refine pd I 0 [_,_] ?_;intro ws I;replace I:Hp _ (.blk _ _ [_,_] _::_) _:=I;refine aI (ia (qa (sr (mI ?_))));refine wz ?_;refine vf I 5 [_,_] (mL ?_);refine Vg (N _ I.below) ?_;rintro e_ w42 ⟨g,o2,rfl,G⟩;refine⟨_,rfl, ?_⟩;replace I:=I.join G;simp only[I',J'] at I;refine mT ?_;refine ui ?_;refine ui ?_;refine ik I ?_;intro b17 w17 I;refine pd I 0 [_,_] ?_;intro ws I;replace I:Hp _ (.blk _ _ [_,_] _::_) _:=I;refine aI (ia (qa (sr (mI ?_))));refine Bk (ia (cT (sr ?_)));refine qm [_,_,_,_,_,_,_,_] (mI ?_);refine pd I 6 [_,_,_,_,_,_,_,_] ?_;intro ws I
  replace I:Hp _ (_::_::_::_::_::_::.blk _ _ [_,_,_,_,_,_,_,_] _::_) _:=I;refine aI (aI (ia (je (Ad ?_))));refine YH (jb rfl (kb (vs:=[_,_,_,_,_,_,_,_]) pa.out (I.wa (i:=6) (n:=8) rfl rfl) rfl) (Dc (Sc rfl) (Dc (Sc rfl) Ub))) ?_;exact yQ
 rw[R' C] at eB;obtain rfl:E2=0:=C9.1 C;replace fp:=fp rfl;replace fq:=fq rfl;refine Ga func11 ?_;refine sr ?_;refine ar I [_,_] ?_;intro b6 w6 I;refine ar I [_,_] ?_;intro b7 w7 I;refine ar I [_,_,_] ?_;intro b9 w9 I;refine ik I ?_;intro b12 w12 I;refine aI (aI (ia (sr ?_)));refine vf I 3 [_,_] (mL ?_);refine Vg (o _ I.below) ?_;rintro e_ w32 ⟨f,o1,rfl,G⟩;refine⟨_,rfl, ?_⟩;replace I:=I.join G;simp only[I',J'] at I;refine mT ?_;refine ui ?_;refine ui ?_;refine ik I ?_;intro b15 w15 I;refine pd I 0 [_,_] ?_;intro ws I;replace I:Hp _ (.blk _ _ [_,_] _::_) _:=I;refine aI (ia (qa (sr (mI ?_))));refine wz ?_;refine vf I 5 [_,_] (mL ?_);refine Vg (N _ I.below) ?_;rintro e_ w42 ⟨g,o2,rfl,G⟩;refine⟨_,rfl, ?_⟩;replace I:=I.join G;simp only[I',J'] at I;have fat:=(FX.at_.mk (I.ka (i:=4) rfl) (I.ka (i:=3) rfl):f.at_ _);have gat:=(FX.at_.mk (I.ka (i:=1) rfl) (I.ka (i:=0) rfl):g.at_ _);have fis:f.is DP X:=⟨o1.ds,o1.cs⟩;have gis:g.is DQ Y:=⟨o2.ds,o2.cs⟩;have hp1:=fp.NA;have hq1:=fq.NA;have flim:=fis.qf fat fp.d12 fp.lx Z' fp.zx V'
 have glim:=gis.qf gat fq.d12 fq.lx Z' fq.zx V';obtain⟨k1,k2, -⟩:=To (fis.nB fat) (gis.nB gat);have hra:=λA cc Z (h1:f.at_ Z) (h2:g.at_ Z) hS=>GA A 2 cc [f,g] 90000 Z hS Z' (by simpa using⟨h1,h2⟩) (by simpa using⟨flim,glim⟩) V';rw[k1,k2,<-eB,<-eD] at hra;by_cases hE:E≠0
 .rw[Q' hE] at hR;obtain⟨rfl,rfl,rfl⟩:=hR;have hrb:=λA cc Z h1 h2 hS=>(hra A cc Z h1 h2 hS).mono λr V h=>show r=.returned (.tuple #[.slice none 0 0,.int .i64 e])/\Below Z.heap.size Z V from by
   obtain h|h:=h
   .exact h.2
   exact absurd h.1 hE
  refine mT ?_;refine ui ?_;refine ui ?_;refine ik I ?_;intro b17 w17 I;refine pd I 0 [_,_] ?_;intro ws I;replace I:Hp _ (.blk _ _ [_,_] _::_) _:=I;refine aI (ia (qa (sr (mI ?_))));refine wz ?_;refine vf I 3 [_,_] ?_;refine vf I 0 [_,_] ?_;refine ym ?_;intro b52 w52 I;refine cd I (hrb _ _ _ ⟨I.ka (i:=6) rfl,I.ka (i:=5) rfl⟩ ⟨I.ka (i:=3) rfl,I.ka (i:=2) rfl⟩ (I.ka (i:=0) rfl)) ?_;intro w53 I;refine mT ?_;refine ui ?_;refine ui ?_;refine aL (aI (ia (qa (sr (mI ?_)))));refine Bk (ia (cT (sr ?_)));refine qm [_,_,_,_,_,_,_,_] (mI ?_);exact JZ
 rw[R' hE] at hR;obtain rfl:E=0:=C9.1 hE;have hrb:=λA cc Z h1 h2 hS=>(hra A cc Z h1 h2 hS).mono λr V h=>show ∃(A:Option Addr)(a:Nat)(Q l1:FX)(R:List HE),(Q.ds=sa V0.D/\Q.n=V0.D.length)/\(∀H:List HE,f.gg∈H->g.gg∈H->(∀y∈R,y∈H)->Q.gg∈H)/\r=.returned (.tuple #[.slice A 2 a,.int .i64 0])/\Hp Z (.row A 2 a 78 2 (la FX.cells [Q,l1])::R) V from by
  obtain h|⟨_,A,a,gs,R,h5,h6,h7,h8,h9⟩:=h
  .exact absurd rfl h.1
  obtain⟨Q,l1,rfl⟩:∃x y,gs=[x,y]:=by
   match gs,h6 with
   |[x,y],_=>exact⟨x,y,rfl⟩
  refine⟨A,a,Q,l1,R,⟨(h7 0 f Q rfl rfl).ds,(h7 0 f Q rfl rfl).n⟩,λH a1 a2 a3=> ?_,h5,h9⟩;obtain h|h:=h8 Q (by simp)
  .obtain rfl|h:=y'.1 h
   .exact a1
   rw[k'.1 h];exact a2
  exact a3 _ h.2
 by_cases K:eps.i.sign<=0
 .rw[Q' K] at hR;obtain⟨rfl,rfl,rfl⟩:=hR;refine mT ?_;refine ui ?_;refine ui ?_;refine ik I ?_;intro b17 w17 I;refine pd I 0 [_,_] ?_;intro ws I;replace I:Hp _ (.blk _ _ [_,_] _::_) _:=I;refine aI (ia (qa (sr (mI ?_))));refine wz ?_;refine vf I 3 [_,_] ?_;refine vf I 0 [_,_] ?_;refine ym ?_;intro b52 w52 I;refine Vg (hrb _ _ _ ⟨I.ka (i:=6) rfl,I.ka (i:=5) rfl⟩ ⟨I.ka (i:=3) rfl,I.ka (i:=2) rfl⟩ (I.ka (i:=0) rfl)) ?_;rintro e_ w53 ⟨A3,a3',Q,l1,R3,⟨hl1,hl2⟩,hl3,rfl,G⟩;refine⟨_,rfl, ?_⟩;replace I:=I.join G;replace I:=I.perm e8;simp only[I',J'] at I;refine mT ?_;refine ui ?_;refine ui ?_;refine aL (aI (ia (qa (sr (mI ?_)))));refine Bk (ia (cF (db (Va (qa (sr ?_))))));refine vf I 8 [_,_,_] ?_;refine Gd I (Hc eps _ Z') rfl ?_;intro w61 I;generalize eps.i.sign=sg at*;refine uV (ia (cT (sr ?_)));refine qm [_,_,_,_,_,_,_,_] ?_;exact JZ
 rw[R' K] at hR;have hsb:=Yi eps.i;obtain⟨-, -, -,hG0⟩:=t rfl;obtain⟨hFp,hFq⟩:=hfit rfl;refine mT ?_;refine ui ?_;refine ui ?_;refine ik I ?_;intro b17 w17 I;refine pd I 0 [_,_] ?_;intro ws I;replace I:Hp _ (.blk _ _ [_,_] _::_) _:=I;refine aI (ia (qa (sr (mI ?_))));refine wz ?_;refine vf I 3 [_,_] ?_;refine vf I 0 [_,_] ?_;refine ym ?_;intro b52 w52 I;refine Vg (hrb _ _ _ ⟨I.ka (i:=6) rfl,I.ka (i:=5) rfl⟩ ⟨I.ka (i:=3) rfl,I.ka (i:=2) rfl⟩ (I.ka (i:=0) rfl)) ?_;rintro e_ w53 ⟨A3,a3',Q,l1,R3,⟨hl1,hl2⟩,hl3,rfl,G⟩;refine⟨_,rfl, ?_⟩;replace I:=I.join G;replace I:=I.perm e8;simp only[I',J'] at I;refine mT ?_;refine ui ?_;refine ui ?_;refine aL (aI (ia (qa (sr (mI ?_)))));refine Bk (ia (cF (db (Va (qa (sr ?_))))));refine vf I 8 [_,_,_] ?_;refine Gd I (Hc eps _ Z') rfl ?_;intro w61 I;generalize eps.i.sign=sg at*;obtain⟨g3,rfl⟩:=I.ib (i:=11) rfl Z';have hc0:(la FX.cells [Q,l1])[0*2+0]?=some (Value.slice Q.A Q.n Q.a):=rfl;refine uV (ia (cF (db (Va (sr (mL ?_))))));refine sv (Vb Qa.out pa.size rfl rfl Z' Z') ?_;refine sv (Zi ae.out rfl) ?_
 refine sv (Ma pa.out rfl (I.Pd (i:=11) rfl hc0)) ?_;refine aL (ia (sr ?_));refine qm [_,_,_,_,_,_] ?_;refine ik I ?_;intro KX w20 I;refine pd I 0 [_,_,_,_,_,_] ?_;intro ws I;replace I:Hp _ (.blk _ _ [_,_,_,_,_,_] _::_) _:=I;refine ia (sr (aI (ia (sr (mL ?_)))));refine cr I (hfo _ I.below) ?_;intro A70 c70 w70 I;refine vc I (cs:=[_]) Qa.out pa.out (Bb (tu rfl) Ld) rfl rfl V' V' V' rfl V' ?_;intro b71 w71 I;refine aL (ia (qa (sr (aI (ia (Pc ?_))))));replace I:=I.perm (U_ (l₁:=[_,_,_,_,_,_,_,_,_,_,_,_,_]));simp only[I',J'] at I;replace I:=I.perm (U_ (l₁:=[_,_,_,_,_,_,_,_,_,_,_,_,_]));simp only[I',J'] at I;replace I:=I.perm (U_ (l₁:=[_,_,_,_,_,_,_,_,_,_,_,_,_]));simp only[I',J'] at I;replace I:=I.perm (U_ (l₁:=[_,_,_,_,_]));simp only[I',J'] at I;replace I:=I.perm (U_ (l₁:=[_,_,_,_,_,_,_]));simp only[I',J'] at I;replace I:=I.perm (U_ (l₁:=[_,_,_,_,_,_,_,_,_,_]))
 simp only[I',J'] at I;replace I:=I.perm (U_ (l₁:=[_,_,_,_,_,_,_,_,_,_,_,_,_]));simp only[I',J'] at I;replace I:=I.perm (U_ (l₁:=[_,_,_,_,_,_,_]));simp only[I',J'] at I;refine Wk [13,14,21,22,23,24,25,26,27,28,72,73,74,75,76,77,78,79,80,81,82,83,84,85,86,87,88,89,90,91,92,93,94,95,96,97,98,99,100,101,102,103,104,105,106,107,108,109,110,111,112,113,114,115,116,117,118,119,120,121,122,123,124,125,126,127,128,129,130,131,132,133,134,135,136,137,138,139,140,141,142,143,144,145,146,147,148,149,150,151] 21 22 23 (λv21 v22 v V=>∃(i fu:Nat)(x:BX)(xs:List BX)(d:CV)(st:List CV)(l:List SR)(T:Option Addr)(m c2:Nat)(f g:FX)(S:SR)(Rw:List HE),v=.int .i64 i/\v21=.int .i64 l.length/\v22=.slice T m c2/\xs.length+1=m/\x.b=d.b/\xs.map BX.b=st.map CV.b/\Enc eps.fa grid bu fu i (d::st) l R k e/\(∀z∈d::st,Xk p.ts q.ts b i z/\z.D=V0.D)/\(∀y∈x::xs,y.row∈Rw)/\Q.gg∈Rw/\(∀s∈l,s.fin 1002014)/\(l≠[]->S=Se l)/\l.length<i/\(i:Int)<=max bu 0+1/\m<=2*i/\Hp w (.row T m c2 26 1 (la BX.cells (x::xs).reverse)::.blk b12 40 [.int .i64 0,.bool false,.string (ByteArray.mk #[]),.int .i64 0,.bool false,.string (ByteArray.mk #[]),.int .i64 0,.slice none 0 0] (0,0)::.blk b15 78 [.slice f.A f.n f.a,.slice f.B f.m f.b] (0,0)::.blk b17 78 [.slice g.A g.n g.a,.slice g.B g.m g.b] (0,0)::.blk KX 36 (SR.cells S) (0,0)::.blk b9 30 [.bool eps.neg,.string eps.Ra,.int .i64 eps.e] (0,0)::.blk b7 24 [.int .i64 q.v,.slice q.A q.n q.c] (0,0)::.blk b6 24 [.int .i64 p.v,.slice p.A p.n p.c] (0,0)::Rw) V) (λ_ _ v _=>(max bu 0+2).toNat-(intOf v).toNat) ?_ ?_
 .refine⟨1,40,⟨A70,n,c70,b.map SR.f⟩,[],V0,[],[],_,1,_,f,g,CK,_,rfl,rfl,rfl,rfl,eb.symm,rfl,hR,λz hz=> ?_,λy hy=> ?_, ?_,λs K=>absurd K i_,λh=>absurd rfl h,Nat.lt_succ_self 0,Z',V',I⟩
  .obtain rfl:=k'.1 hz;exact⟨hG0,rfl⟩
  .obtain rfl:=k'.1 hy;exact E'
  exact hl3 _ (by simp) (by simp) λy hy=>by simp[hy]
 clear I hl3 o1 o2 fat gat fis gis flim glim fp fq hR;rintro ρ' v21 v22 v V ⟨i,fu,x,xs,d,st,l,T,m,c2,f,g,S,Rw,rfl,rfl,rfl,hm,W,J,C,hG,P,M,hl,hS,hli,hib,hmi,I⟩;obtain rfl:m=xs.length+1:=hm.symm;replace I:Hp _ (_::_::_::_::.blk _ _ [_,_,_,_,_,_] _::_) _:=I;have hxn:=(BX.sl I (H_ [_,_,_,_,_,_,_,_] (P x E')) W).Aa SR.len V'
 cases fu with
 |zero=>exact absurd C id
 |succ fu=>
  rw[Enc] at C;by_cases hbu:bu<i
  .rw[Q' hbu] at C;obtain⟨rfl,rfl,rfl⟩:=C;refine qa (sr (mI (mI ?_)));refine uV (ia (cF (Oh (Mf (Mf (gk (Va (sr ?_))))))));refine qm [_,_,_,_,_,_,_,_] ?_;refine pd I 1 [_,_,_,_,_,_,_,_] ?_;intro ws I;replace I:Hp _ (_::.blk _ _ [_,_,_,_,_,_,_,_] _::_) _:=I;refine aI (aI (ia (je ?_)));exact lV
  rw[R' hbu] at C;obtain⟨hok,C⟩:=C;have hget:(x::xs).reverse[xs.length]?=some x:=by rw[Y8,R9 (by simp),r',t_];rfl
  obtain⟨gT,rfl⟩:=I.ib (i:=0) rfl Z';refine qa (sr (mI (mI ?_)));refine uV (ia (cT (db (Va (qa (Pc (sr (mL (mL (Df ?_))))))))));refine su ?_;refine sv (Kc (k:=xs.length) Qa.out pa.size rfl rfl Z' Z') ?_;refine sv (Ma pa.out rfl (I.Wc (f:=BX.cells) (x:=x) (l:=(x::xs).reverse) (i:=0) rfl BX.len V' hget 0 (.slice x.A x.n x.c) rfl)) ?_;have hcap:=I.Ae (i:=0) rfl;have h1c:((la BX.cells xs.reverse).all Value.oneCell')=true:=Pa (λ_=>rfl) _;refine aL (ia (sr ?_));refine du ?_;intro b83 w83 I;refine mL (mL (Df ?_));refine su ?_;refine sv (cj (h:=xs.length) Qa.out pa.size rfl rfl Z' Z') ?_;refine pb I (i:=0) rfl rfl rfl (XV (I.ka (i:=1) rfl)) Qa.out pa.out rfl V' ?one8 Z' Z' V' ?kk8
  case one8=>first|rfl|assumption|exact Ja _|exact oneCells_u8s _
  intro A89 c89 w89 I;simp only[l'] at I;obtain⟨gd,gD⟩:=hG d E';obtain⟨cp,cq⟩:=DW sp sq gd Z' (by rw[gD];exact hFp) (by rw[gD];exact hFq);have PA:=gd.d0;have hd3:=gd.d3;have hdb:d.b.length=b.length:=by have:=gd.on.p.bl;have:=hFp.nl;rw[<-gD] at this;omega
  have hdb0:d.b.length≠0:=by have:=gd.on.p.bl;omega
  have hdf:∀s∈d.b,s.fin 224:=λs K=>⟨⟨(gd.fin s K).1.ok,(gd.fin s K).1.sz.mono Z'⟩,(gd.fin s K).2.ok,(gd.fin s K).2.sz.mono Z'⟩;have hofp:=λZ hp1 hx1 hm1=>aw p x.A x.n x.c d.b Q.A Q.a d.D d.X Z cp (sp.fQ hFp.e) (by have:=sp.NA hFp.e;omega) hp1 lp hx1 hdf Z' hm1 PA Z';have hofq:=λZ hp1 hx1 hm1=>aw q x.A x.n x.c d.b Q.A Q.a d.D d.Y Z cq (sq.fQ hFq.e) (by have:=sq.NA hFq.e;omega) hp1 lq hx1 hdf Z' hm1 PA Z';have hl1':Q.ds=sa d.D:=by rw[hl1,gD]
  have hl2':Q.n=d.D.length:=by rw[hl2,gD]
  have hrw:=P x E';rw[hl2'];refine aL (ia (sr ?_));refine vf I 8 [_,_] (mL (mL ?_));refine Vg (hofp _ (hp.ext I.below) (BX.sl I (H_ [_,_,_,_,_,_,_,_,_] hrw) W) (MQ I (H_ [_,_,_,_,_,_,_,_,_] M) hl1' hl2')) ?_;rintro e_ w94 ⟨f1,fi,rfl,G⟩;refine⟨_,rfl, ?_⟩;replace I:=I.join G;simp only[I',J'] at I;refine mT ?_;refine ui ?_;refine ui ?_;refine pd I 5 [_,_] ?_;intro ws I;replace I:Hp _ (_::_::_::_::_::.blk _ _ [_,_] _::_) _:=I;refine ia (sr ?_);refine vf I 9 [_,_] (mL (mL ?_));refine Vg (hofq _ (hq.ext I.below) (BX.sl I (H_ [_,_,_,_,_,_,_,_,_,_,_] hrw) W) (MQ I (H_ [_,_,_,_,_,_,_,_,_,_,_] M) hl1' hl2')) ?_;rintro e_ w101 ⟨g1,gi,rfl,G⟩;refine⟨_,rfl, ?_⟩;replace I:=I.join G;simp only[I',J'] at I;have hbd:=λZ hf1 hg1'=>SA f1 g1 d grid Z hf1 hg1' fi gi hok hg1 hg2;have hVf:=λh=>XC hok h hg1 hg2;refine mT ?_;refine ui ?_;refine ui ?_;refine pd I 8 [_,_] ?_;intro ws I;replace I:Hp _ (_::_::_::_::_::_::_::_::.blk _ _ [_,_] _::_) _:=I
  refine ia (sr ?_);refine vf I 7 [_,_] ?_;refine vf I 8 [_,_] (mI ?_);generalize De d.f d.g grid=j at*;generalize Zf d.f d.g=BE at*;refine cd I (hbd _ ⟨I.ka (i:=3) rfl,I.ka (i:=2) rfl⟩ ⟨I.ka (i:=1) rfl,I.ka (i:=0) rfl⟩) ?_;intro w108 I;by_cases hB0:BE=0
  .subst hB0;rw[Q' rfl] at C;obtain⟨hVo,C⟩:=C;replace hVf:=hVf rfl;have hlo:∀s∈l++[j],s.fin 1002014:=List.forall_mem_append.2 ⟨hl,λs K=>by obtain rfl:=k'.1 K;exact hVf⟩;have hhull:=λS1 A c Z (hS1:Sl Z A 2 6 (la SR.cells [S1,j])) hS2=>vw A 2 c [S1,j] 1002014 Z hS1 hS2 V' V';have hln:(l++[j]).length=l.length+1:=D';have hls:∀s∈l,Sz 1002014 s.lo.fa/\Sz 1002014 s.hi.fa:=λs K=>⟨(hl s K).1.sz,(hl s K).2.sz⟩;by_cases hl0:l=[]
   .subst hl0;have he1:Se [j,j]=Se ([]++[j]):=xL j;refine mT ?_;refine ui ?_;refine ui ?_;refine ik I ?_;intro b25 w25 I;refine pd I 0 [_,_,_,_,_,_] ?_;intro ws I;replace I:Hp _ (.blk _ _ [_,_,_,_,_,_] _::_) _:=I;refine aI (ia (qa (sr (mI ?_))));refine zl (ia (cT (qa (sr (mI ?_)))));refine zl (ia (cT (mb ?_)));refine vf I 0 [_,_,_,_,_,_] ?_;refine pd I 10 [_,_,_,_,_,_] ?_;intro ws I;replace I:Hp _ (_::_::_::_::_::_::_::_::_::_::.blk _ _ [_,_,_,_,_,_] _::_) _:=I;refine ia (sr ?_);refine vf I 10 [_,_,_,_,_,_] ?_;refine vf I 0 [_,_,_,_,_,_] ?_;refine VS ?_;intro b118 w118 I;refine Gd I (hhull j _ _ _ (I.ka (i:=0) rfl) (by simpa using hVf)) rfl ?_;exact aao
   have he1:Se [S,j]=Se (l++[j]):=by rw[hS hl0];exact CC hl0 j
   have hsf:S.fin 1002014:=by rw[hS hl0];exact Ox hl0 hls V'
   have hl0':l.length≠0:=λh=>hl0 (n8.1 h);refine mT ?_;refine ui ?_;refine ui ?_;refine ik I ?_;intro b25 w25 I;refine pd I 0 [_,_,_,_,_,_] ?_;intro ws I;replace I:Hp _ (.blk _ _ [_,_,_,_,_,_] _::_) _:=I;refine aI (ia (qa (sr (mI ?_))));refine zl (ia (cT (qa (sr (mI ?_)))));refine zl (ia (cF (db (Va (sr ?_)))));refine vf I 10 [_,_,_,_,_,_] ?_;refine vf I 0 [_,_,_,_,_,_] ?_;refine VS ?_;intro b118 w118 I;refine Gd I (hhull S _ _ _ (I.ka (i:=0) rfl) (by simpa using⟨hsf,hVf⟩)) rfl ?_;exact aao
  rw[R' hB0] at C;have hnr:=λZ hg1'=>HD g1 d eps Z hg1' gi hok he (hez.mono V');have hnk:=DV d.g eps.fa;have hgn:d.g.n=d.D.length:=rfl;rw[hgn] at hnk;have hnk:=c_ hnk (K_ (show 0<2 by decide) hd3);generalize Gm d.g eps.fa=NE at*;generalize gl d.g eps.fa=NK at*;refine mT ?_;refine ui ?_;refine ui ?_;refine ik I ?_;intro b25 w25 I;refine pd I 0 [_,_,_,_,_,_] ?_;intro ws I;replace I:Hp _ (.blk _ _ [_,_,_,_,_,_] _::_) _:=I;refine aI (ia (qa (sr (mI ?_))));refine zl (ia (cF (db (Va (sr ?_)))));refine vf I 9 [_,_] ?_;refine vf I 11 [_,_,_] ?_;refine cd I (hnr _ ⟨I.ka (i:=2) rfl,I.ka (i:=1) rfl⟩) ?_;intro w131 I;by_cases hN0:NE=0
  .subst hN0;rw[Q' rfl] at C;obtain⟨rfl,rfl,rfl⟩:=C;refine mT ?_;refine ui ?_;refine ui ?_;refine aI (aI (ia (qa (sr (mI ?_)))));refine zl (ia (cT (sr (mL (mI ?_)))));refine vU I (Az x.A x.n x.c d.b (NK:Int) 224 _ (BX.sl I (H_ [_,_,_,_,_,_,_,_,_,_,_,_,_,_] hrw) W) hdf Z' V' Z' Z') rfl ?_;intro A138 c138 w138 I;refine qm [_,_,_,_,_,_,_,_] (mI ?_);refine pd I 8 [_,_,_,_,_,_,_,_] ?_;intro ws I;replace I:Hp _ (_::_::_::_::_::_::_::_::.blk _ _ [_,_,_,_,_,_,_,_] _::_) _:=I;refine aI (aI (ia (je (Ad (bk (Ad (Ad (bk (Ad ?_)))))))));refine L0 ?_;exact⟨A138,x.n,c138,rfl,I.sub (.cons_cons _ (N_ _))⟩
  rw[R' hN0] at C;obtain⟨a,s,hW,K,had,C⟩:=C;have hhf:=λu Z hS1=>gE x.A x.n x.c d.b a u s 224 Z hS1 hdf Z' V' K;refine mT ?_;refine ui ?_;refine ui ?_;refine aI (aI (ia (qa (sr (mI ?_)))));refine zl (ia (cF (db (Va (sr (mL ?_))))));refine Gd I (dE x.A x.n x.c d.b a 224 _ (BX.sl I (H_ [_,_,_,_,_,_,_,_,_,_,_,_,_,_] hrw) W) hdf Z' V' hW Z') rfl ?_;intro w142 I;refine aI (ia (mb (mL (mL (mI ?_)))));refine cr I (hhf true _ (BX.sl I (H_ [_,_,_,_,_,_,_,_,_,_,_,_,_,_] hrw) W)) ?_;intro A146 c146 w146 I;refine mL (mI ?_);refine cr I (hhf false _ (BX.sl I (H_ [_,_,_,_,_,_,_,_,_,_,_,_,_,_,_] hrw) W)) ?_;intro A149 c149 w149 I;refine vc I (cs:=[_,_]) Qa.out pa.out (Bb (tu rfl) (Bb (tu rfl) Ld)) rfl rfl V' V' V' rfl V' ?_;intro b150 w150 I;refine pb I (i:=8) rfl rfl rfl (I.ka (i:=0) rfl) Qa.out pa.out rfl V' (by first|rfl|exact kc _|exact Mb _|exact Ja _|exact Pa NR.one _) Z' Z' V' ?_;intro A151 c151 w151 I;simp only[l',Z9] at I;replace I:=I.sub (d_ _ _);refine aL (Ti (Dp (Va (mb (mI ?_)))))
  refine al (aI (Ti (Va ?_)));replace I:=I.perm (U_ (l₁:=[_]));simp only[I',J'] at I;replace I:=I.perm (U_ (l₁:=[_]));simp only[I',J'] at I;replace I:=I.perm (U_ (l₁:=[_,_,_,_,_,_,_,_,_,_,_,_,_,_,_]));simp only[I',J'] at I;replace I:=I.perm (U_ (l₁:=[_,_,_,_,_,_,_,_,_,_,_,_,_,_,_]));simp only[I',J'] at I;replace I:=I.perm (U_ (l₁:=[_,_,_,_,_,_,_,_,_,_,_,_,_,_,_]));simp only[I',J'] at I;replace I:=I.perm (U_ (l₁:=[_,_,_,_,_,_,_,_,_,_,_,_,_,_,_]));simp only[I',J'] at I;replace I:=I.perm (U_ (l₁:=[_,_,_,_,_,_,_,_,_,_,_,_,_,_,_]));simp only[I',J'] at I;replace I:=I.perm (U_ (l₁:=[_,_,_,_,_,_,_,_,_,_,_,_,_,_,_]));simp only[I',J'] at I;replace I:=I.perm (U_ (l₁:=[_,_,_,_,_,_,_,_,_,_,_,_,_,_,_]))
  simp only[I',J'] at I;replace I:=I.perm (U_ (l₁:=[_,_,_,_,_,_,_,_,_,_,_,_,_,_]));simp only[I',J'] at I;replace I:=I.sub (P' _ (P' _ (P' _ (P' _ (P' _ (P' _ (P' _ (P' _ (P' _ (P' _ (L' _ (L' _ (L' _ (L' _ (L' _ (L' _ (u_ _)))))))))))))))));refine⟨⟨i+1,fu,⟨A149,x.n,c149,(d.half a s false).b⟩,⟨A146,x.n,c146,(d.half a s true).b⟩::xs,d.half a s false,d.half a s true::st,l,A151,_,c151,f1,g1,S,BX.row ⟨A149,x.n,c149,(d.half a s false).b⟩::BX.row ⟨A146,x.n,c146,(d.half a s true).b⟩::Rw,rfl,rfl,rfl, ?_,rfl,by rw[T_,T_,J],C,λz hz=> ?_,λy hy=> ?_,u' _ (u' _ M),hl,hS,Z',Z', ?_, ?_⟩, ?_, ?_⟩
  .show xs.length+1+1=0+xs.length+2;omega
  .obtain rfl|hz:=y'.1 hz
   .exact⟨gd.half Z' K false,gD⟩
   obtain rfl|hz:=y'.1 hz
   .exact⟨gd.half Z' K true,gD⟩
   have:=hG z (u' _ hz);exact⟨this.1.mono Z',this.2⟩
  .obtain rfl|hy:=y'.1 hy
   .exact E'
   obtain rfl|hy:=y'.1 hy
   .exact u' _ E'
   exact u' _ (u' _ (P y (u' _ hy)))
  .show 0+xs.length+2<=_;omega
  .rw[Y8,Y8,J_,Na];exact I
  .exact yY
  exact Sb
variable {O:Rf}{pos:String}
def iZ{d:Option Nat}{ty u:TypeId}{af:Array Edge}{x y:Operand}{s:SR}{g:Option (Nat×Bool)}(C:ev O x=.agg s.cells.toArray)(hy:ev O y=.agg s.cells.toArray):(execOp (ev O) ⟨d,.binOp .eql 36 x y u,ty,pos,af,g⟩).run prog w=.ok (.value (.bool true)) w:=by
 refine aer ?_;intro J h1;simp[eqGuard,binOp,h1]
def Ul(R:RV)(A B)(m S N:Nat)(w)(a:Sl w A m 3 (la NR.cells R.at_))(E:Sl w B m 3 (la NR.cells R.at_))(hm:m<=1000):Zc 12 #[.agg (R.cells A m S).toArray,.agg (R.cells B m N).toArray] w (.bool true):=by
 have I:=Hp.start w;have K:=λZ t=>Tt A m S R.at_ B N Z (a.ext t) (E.ext t) Z';refine Ga func12 ?_;refine Ib ?_;intro T q I j p I;refine Jb rfl rfl V' (iZ (s:=R.s) rfl rfl) ?_;skip;refine ea ?_;refine cd I (K _ I.below) ?_;intro d I;refine ea ?_;exact⟨rfl,I.below⟩
def Td(n:Int)(w)(h1: -9223372036854775808<=n)(h2:n<=9223372036854775807):Zc 35 #[.int .i64 n] w (.agg (NR.cells (nR (n:Dyadic))).toArray):=by
 have I:=Hp.start w;refine Ga func35 ?_;refine Gb ?_;intro T q I;refine cd I (Ov n _ h1 h2) ?_;intro y I;refine ZD ?_;intro ws I;exact⟨rfl,I.below⟩
def Ml(a b:Int)(w)(h1: -1000<=a/\a<=1000)(h2: -1000<=b/\b<=1000):Calls prog 34 #[.int .i64 a,.int .i64 b] w λr V=>∃A c B c',r=.returned (.agg #[.slice A 1 c,.slice B 2 c'])/\Hp w [.row B 2 c' 30 3 (la NR.cells [nR (a:Dyadic),nR (b:Dyadic)]),.row A 1 c 3 1 (Fa [1])] V:=by
 have I:=Hp.start w;refine Ga func34 ?_;refine aeS ?_;intro D y I R v I;refine Gd I (Td a _ Z' Z') rfl ?_;intro e I;refine mI ?_;refine Gd I (Td b _ Z' Z') rfl ?_;intro d I;refine adR ?_;intro z G I ws I;replace I:=show Hp w (.row (some ⟨z,0,none⟩) 2 2 30 3 (la NR.cells [nR (a:Dyadic),nR (b:Dyadic)])::.row (some ⟨R,0,none⟩) 1 1 3 1 (Fa [1])::.blk D 78 [.slice (some ⟨R,0,none⟩) 1 1,.slice (some ⟨z,0,none⟩) 2 2] (0,0)::_) _ from I;refine OV ?_;exact⟨_,_,_,_,rfl,I.sub (.cons_cons _ (.cons_cons _ (N_ _)))⟩
def ZA(a b:Int)(K:ZT)(w)(h1: -200<=a/\a<=200)(h2: -200<=b/\b<=200)(y:(zC K && zE K [([0],a),([1],b)])=true):Calls prog 37 #[.int .i64 a,.int .i64 b] w λr V=>∃p:PX,p.v=1/\p.ts=zT K/\r=.returned p.V/\Hp w [p.row] V:=by
 have I:=Hp.start w;refine Ga func37 ?_;refine Gb ?_;intro D d I;refine Gd I (Td a _ Z' Z') rfl ?_;intro g I;refine ea ?_;refine Gd I (Td b _ Z' Z') rfl ?_;intro W I;refine ea ?_;refine vc I (cs:=[_,_,_,_,_,_,_,_]) Qa.out pa.out (Bb (Xe rfl) (Bb (Xe rfl) Ld)) rfl rfl V' V' V' rfl V' ?_;intro z Y I;have o:=vM (L:=[([0],a),([1],b)]) (by unfold zB;simp;omega);have C:=λZ N=>lE 1 (some ⟨z,0,none⟩) 2 2 (zT [([0],a),([1],b)]) 24 Z N V' o.1 V' (λt S=>p' (o.2 t S) V');rw[VO y,HX V' (by rfl) (by simp)] at C;replace I:=show Hp w (.row (some ⟨z,0,none⟩) 2 2 72 4 (la TR.cells (zT [([0],a),([1],b)]))::.blk D 24 [.int .i64 0,.slice none 0 0] (0,0)::_) _ from I;refine Vg (C _ (I.ka (i:=0) rfl)) ?_;rintro H f ⟨p,hp,rfl,G⟩;refine rn9 ?_;intro I;refine Ii ?_;intro R e I ws I ws I;refine dJ (jb rfl (kb (vs:=[_,_]) pa.out (I.wa (i:=3) (n:=2) rfl rfl) rfl) Ub) ?_;exact⟨p,hp.v,hp.ts,rfl,I.sub (.cons _ (.cons_cons _ (N_ _)))⟩
def pZ(K:ZT):PX:=⟨1,none,0,0,zT K⟩
def Ci:List SR:=[⟨⟨false,ByteArray.mk #[],0⟩,nR ((1:Int):Dyadic)⟩]
abbrev P1:ZT:=[([0],1)]
abbrev Q1:ZT:=[([0],1),([1],1)]
abbrev Q2:ZT:=[([1],1)]
abbrev Q3:ZT:=[([0], -1),([1],2)]
def Sv:Dyadic:=((1:Int):Dyadic)*Ic (-1)
def Tw:NR:=nR (((1:Int):Dyadic)*Ic (-2))
def Uf(l:List Int):List Dyadic:=l.map λz:Int=>(z:Dyadic)
def cA:CV:=⟨Ci.map SR.f,[1],Uf [1,1],Uf [1,2]⟩
def cB:CV:=⟨Ci.map SR.f,[1],Uf [1,1],Uf [0,1]⟩
def cC:CV:=⟨Ci.map SR.f,[1],Uf [1,1],Uf [-1,1]⟩
def rg:SR:=⟨nR 0,nR ((1:Int):Dyadic)⟩
def cD:CV:=⟨[rg.f.half (nR rg.f.ai) false],[1],Uf [1,1],Uf [-1,0]⟩
def ZE{l:List SR}{x y:Dyadic}(h:xc (λx y=>decide (x<y)) ((Jg l).map NR.fa)=x/\xc (λx y=>decide (y<x)) ((Jg l).map NR.fa)=y):Se l=⟨nR x,nR y⟩:=by unfold Se;rw[h.1,h.2]
def acd(z:Int)(h:z.natAbs<256):Sz 90000 (z:Dyadic):=(show Sz 24 (z:Dyadic) from Ta (z:Dyadic) ▸ ((vM (L:=[([],z)]) (by unfold zB;simpa using h)).1 ⟨str [],nR (z:Dyadic)⟩ E').2).mono V'
def Sr{l:List Dyadic}{L:List Int}(h:l=L.map λz:Int=>(z:Dyadic))(K:L.all (λz=>decide (z.natAbs<256))=true):∀x∈l,Sz 90000 x:=λx C=>by
 rw[h] at C;obtain⟨z,o,rfl⟩:=x'.1 C;exact acd z (j9 (M_.1 K z o))
variable {X:List Dyadic}
def aq{X Y:List Int}(F:∀s∈b,s.fin 1000)(t:b.length<=20)(a:X.length=2)(c:Y.length=2)(K:(X++Y).all (λz=>decide (z.natAbs<256))=true) (hu:kj (maxD [xn [1] (X.map λz:Int=>(z:Dyadic)),xn [1] (Y.map λz:Int=>(z:Dyadic))]) (xn [1] (X.map λz:Int=>(z:Dyadic)))=(X.map λz:Int=>(z:Dyadic))/\kj (maxD [xn [1] (X.map λz:Int=>(z:Dyadic)),xn [1] (Y.map λz:Int=>(z:Dyadic))]) (xn [1] (Y.map λz:Int=>(z:Dyadic)))=(Y.map λz:Int=>(z:Dyadic))):
  CV.ok ⟨b,[1],X.map λz:Int=>(z:Dyadic),Y.map λz:Int=>(z:Dyadic)⟩:=by
 rw[z6,Z_] at K;have h1:=Sr (l:=X.map λz:Int=>(z:Dyadic)) rfl K.1;have h2:=Sr (l:=Y.map λz:Int=>(z:Dyadic)) rfl K.2;refine⟨F,t,(by decide:([1]:List Nat).length<=12),(by decide:∀d∈([1]:List Nat),d<=127),(by decide:da [1]<=200),by rw[B',a];rfl,by rw[B',c];rfl,h1,h2,λ_=> ?_⟩;unfold CV.f CV.g;dsimp only;rw[hu.1,hu.2];exact⟨λx C=>(h1 x C).mono V',λx C=>(h2 x C).mono V'⟩
def QF:∀s∈Ci,s.fin 24:=λs K=>by
 obtain rfl:=k'.1 K;exact⟨⟨⟨V',V',V'⟩,by show Sz 24 (NR.fa ⟨false,ByteArray.mk #[],0⟩);rw[show NR.fa ⟨false,ByteArray.mk #[],0⟩=0 by decide+kernel];exact Sz.zero _⟩,ql.of ((show Sz 1 ((1:Int):Dyadic) from⟨2,by decide+kernel,V'⟩).mono V') V'⟩
def Rq:∀s∈Ci.map SR.f,s.fin 1000:=λs K=>by
 obtain⟨z,o,rfl⟩:=x'.1 K;have h:=SR.Bw (QF z o) V';exact⟨⟨h.1.ok,h.1.sz.mono V'⟩,⟨h.2.ok,h.2.sz.mono V'⟩⟩
def ago:cA.ok:=aq (X:=[1,1]) (Y:=[1,2]) Rq V' rfl rfl rfl (by decide+kernel)
def agb:cB.ok:=aq (X:=[1,1]) (Y:=[0,1]) Rq V' rfl rfl rfl (by decide+kernel)
def age:cC.ok:=aq (X:=[1,1]) (Y:=[-1,1]) Rq V' rfl rfl rfl (by decide+kernel)
def RA:RV:=⟨1,⟨nR Sv,nR ((1:Int):Dyadic)⟩,[]⟩
def RB:RV:=⟨2,CK,[nR ((0:Int):Dyadic)]⟩
def RC:RV:=⟨2,CK,[nR Sv]⟩
def Yy{q:PX}{D:List Nat}{Y:List Dyadic}(h:maxD [ie p b,ie q b]=D/\kj D (ie p b)=X/\kj D (ie q b)=Y):Zh p q b=⟨b.map SR.f,D,X,Y⟩:=by unfold Zh;rw[h.1,h.2.1,h.2.2]
def abF:Zh (pZ P1) (pZ Q1) Ci=cA:=Yy (by decide+kernel)
def abV:Zh (pZ P1) (pZ Q2) Ci=cB:=Yy (by decide+kernel)
def abZ:Zh (pZ P1) (pZ Q3) Ci=cC:=Yy (by decide+kernel)
def afU:Fm (pZ P1) (pZ Q1) Ci Tw 2 9 1 RA 1 0:=by
 unfold Fm;rw[R' (by decide+kernel),R' (by decide+kernel),abF,Enc,R' V'];refine⟨ago, ?_⟩;rw[Q' (by decide+kernel)];have A:De cA.f cA.g 2=⟨nR Sv,nR ((1:Int):Dyadic)⟩:=(by unfold De;rw[Q' (by decide+kernel)];exact ZE (by decide+kernel));rw[A];refine⟨⟨by unfold NR.ok;decide+kernel,by unfold NR.ok;decide+kernel⟩, ?_⟩;rw[Q' rfl];exact⟨by rw[J',ZE (x:=Sv) (y:=((1:Int):Dyadic)) (by decide+kernel)];rfl,rfl,rfl⟩
def BN{x y:Dyadic}(h:x=y):nR x=nR y:=by rw[h]
def unit_eq:Ci.map SR.f=[rg]:=by
 show[SR.f _]=_;unfold SR.f rg;rw[show SR.pe ⟨⟨false,ByteArray.mk #[],0⟩,nR ((1:Int):Dyadic)⟩=0 by decide+kernel,show SR.Zg ⟨⟨false,ByteArray.mk #[],0⟩,nR ((1:Int):Dyadic)⟩=((1:Int):Dyadic) by decide+kernel]
def afB:Fm (pZ P1) (pZ Q2) Ci Tw 2 9 1 RB 1 0:=by
 unfold Fm;rw[R' (by decide+kernel),R' (by decide+kernel),abV,Enc,R' V'];refine⟨agb, ?_⟩;rw[R' (by decide+kernel),Q' (by decide+kernel)];refine⟨?_,rfl,rfl⟩;have u:gl cB.g Tw.fa=0:=by decide+kernel
 rw[u,show cB.b=[rg] from unit_eq];show _=RV.mk 2 CK [cond (il 0 0) rg.f.hi rg.f.lo];rw[show il 0 0=false by decide];show RV.mk 2 CK [nR ((0:Int):Dyadic)]=RV.mk 2 CK [nR rg.pe];rw[BN (show rg.pe=((0:Int):Dyadic) by decide+kernel)]
def EV{s:SR}{v:Int}(h:Cm [s] v):v=((0:Nat):Int):=by
 obtain⟨h,_⟩|⟨m,t,h,A,_⟩:=h
 .cases h
 match m,h with
 |0,_=>exact A
def bP:rg.fin 1000:=Rq rg (by rw[unit_eq];exact k'.2 rfl)
def agn:cD.ok:=aq (X:=[1,1]) (Y:=[-1,0]) (λs K=>by
 obtain rfl:=k'.1 K;exact⟨(SR.Bw bP V').1,ql.of ((show Sz 1 rg.f.ai from⟨1,by decide+kernel,V'⟩).mono V') V'⟩) V' rfl rfl rfl (by decide+kernel)
def afT:Fm (pZ P1) (pZ Q3) Ci Tw 2 9 2 RC 2 0:=by
 unfold Fm;rw[R' (by decide+kernel),R' (by decide+kernel),abZ,Enc,R' V'];refine⟨age, ?_⟩;rw[R' (by decide+kernel),R' (by decide+kernel)];refine⟨0,rg,λv A=>EV (by rw[<-unit_eq];exact A),by show(Ci.map SR.f)[0]?=_;rw[unit_eq];rfl,V', ?_⟩;have E:cC.half 0 rg false=cD:=(by show CV.mk (((Ci.map SR.f).map SR.f).set 0 (rg.f.half (nR rg.f.ai) false)) [1] (jk false (Ic (-1)) [1] 0 (Uf [1,1])) (jk false (Ic (-1)) [1] 0 (Uf [-1,1]))=CV.mk [rg.f.half (nR rg.f.ai) false] [1] (Uf [1,1]) (Uf [-1,0]);rw[unit_eq,show jk false (Ic (-1)) [1] 0 (Uf [1,1])=Uf [1,1] by decide+kernel,show jk false (Ic (-1)) [1] 0 (Uf [-1,1])=Uf [-1,0] by decide+kernel];rfl);rw[E,Enc,R' V'];refine⟨agn, ?_⟩;rw[R' (by decide+kernel),Q' (by decide+kernel)];refine⟨?_,rfl,rfl⟩;have u:gl cD.g Tw.fa=1:=by decide+kernel
 rw[u];show _=RV.mk 2 CK [cond (il 1 0) (rg.f.half (nR rg.f.ai) false).f.hi (rg.f.half (nR rg.f.ai) false).f.lo];rw[show il 1 0=true by decide];show RV.mk 2 CK [nR Sv]=RV.mk 2 CK [nR (rg.f.half (nR rg.f.ai) false).Zg];rw[BN (show(rg.f.half (nR rg.f.ai) false).Zg=Sv by decide+kernel)]
variable {bu:Int}{eps:NR}
def gI{q d m:PX}(h1:p.v=d.v)(h2:p.ts=d.ts)(G:q.v=m.v)(z:q.ts=m.ts){g:Int}{f:Nat}{R:RV}{k e:Int}(h:Fm d m b eps g bu f R k e):Fm p q b eps g bu f R k e:=by
 obtain⟨pv,o,E,B,N⟩:=p;obtain⟨K,w,J,D,M⟩:=q;obtain⟨a,n,r,s,i⟩:=d;obtain⟨j,t,u,c,l⟩:=m;replace h1:pv=a:=h1;replace h2:N=i:=h2;replace G:K=j:=G;replace z:M=l:=z;subst h1 h2 G z;exact h
def KE{D:List Nat}{L:List Int}(r:D.length<=12/\(∀d∈D,d<=127)/\da D<=200)(t:X=Uf L)(Q:L.length=da D)(K:L.all (λz=>decide (z.natAbs<256))=true):NI D X:=
 ⟨r.1,r.2.1,r.2.2,by rw[t,Uf,B'];exact Q,Sr t K⟩
structure Eg(P:ZT):Prop where
 b:zB P=true
 g:Ge (24+24+16394) (wb 1 (zT P)) (24+1)<=440000
 f:NI (ie (pZ P) Ci).ns ((ie (pZ P) Ci).cs.map NR.fa)
def abq:Eg P1:=⟨V',by decide+kernel,KE (L:=[1]) (by decide+kernel) (by decide+kernel) (by decide+kernel) rfl⟩
def afX:Eg Q1:=⟨V',by decide+kernel,KE (L:=[1,2]) (by decide+kernel) (by decide+kernel) (by decide+kernel) rfl⟩
def afK:Eg Q2:=⟨V',by decide+kernel,KE (L:=[0,1]) (by decide+kernel) (by decide+kernel) (by decide+kernel) rfl⟩
def afE:Eg Q3:=⟨V',by decide+kernel,KE (L:=[-1,1]) (by decide+kernel) (by decide+kernel) (by decide+kernel) rfl⟩
def aca(P Q:ZT)(p q:PX)(L)(c f:Nat)(R:RV)(k:Int)(w)(S:Nd w)(hp:p.v=1/\p.ts=zT P/\p.at_ w/\p.n<=p.c/\p.n<=1000)(d:q.v=1/\q.ts=zT Q/\q.at_ w/\q.n<=q.c/\q.n<=1000)(l:Eg P)(C:Eg Q)(a:Sl w L 1 6 (la SR.cells Ci))(h:Fm (pZ P) (pZ Q) Ci Tw 2 9 f R k 0):Calls prog 10 #[p.V,q.V,.slice L 1 c,Tw.V,.int .i64 2,.int .i64 9] w λr V=>∃A m c',r=.returned (.tuple #[.agg (R.cells A m c').toArray,.int .i64 k,.int .i64 0])/\Hp w [.row A m c' 30 3 (la NR.cells R.at_)] V:=by
 obtain⟨pv,o,E,B,N⟩:=p;obtain⟨u,t,J,D,M⟩:=q;obtain⟨rfl,rfl,K,x,W⟩:=(hp:pv=1/\N=zT P/\_);obtain⟨rfl,rfl,i,j,s⟩:=(d:u=1/\M=zT Q/\_);exact jr ⟨1,o,E,B,zT P⟩ ⟨1,t,J,D,zT Q⟩ L 1 c Ci Tw 2 9 f R k 0 24 w S K (PS l.b (by have:E<=1000:=W;omega) x) i (PS C.b (by have:J<=1000:=s;omega) j) a QF V' V' (λ_=>l.g) (λ_=>C.g) (λ_=>l.f) (λ_=>C.f) (by unfold NR.ok;decide+kernel) V' V' V' V' (gI rfl rfl rfl rfl h)
variable {W:World}
def tf(K:ZT):VP:=λv W=>∃p:PX,v=.agg #[.int .i64 p.v,.slice p.A p.n p.c]/\p.v=1/\p.ts=zT K/\p.at_ W/\p.n<=p.c/\p.n<=1000
def tf.ext{K:ZT}(v:Value)(w V)(h:tf K v w)(F:Below w.heap.size w V):tf K v V:=let⟨p,h1,h2,G,z,P⟩:=h;⟨p,h1,h2,G,z.ext F,P⟩
def ux(a b:Int)(K:ZT)(w)(h:(decide (-200<=a/\a<=200/\ -200<=b/\b<=200/\K.length<=1000) && (zC K && zE K [([0],a),([1],b)]))=true):Calls prog 37 #[.int .i64 a,.int .i64 b] w λr V=>∃v,r=.returned v/\tf K v V/\Below w.heap.size w V:=by
 rw[Z_,Y_] at h;obtain⟨⟨h1,h2,G,z,P⟩,y⟩:=h;refine(ZA a b K w ⟨h1,h2⟩ ⟨G,z⟩ y).mono λr V ⟨p,N,L,H,I⟩=>⟨_,H,⟨p,rfl,N,L,I.ka (i:=0) rfl,I.Ae (i:=0) rfl, ?_⟩,I.below⟩;have:=(show p.at_ V from I.ka (i:=0) rfl).ln;rw[L,zT,B'] at this;omega
def tk(R:RV):VP:=λv W=>∃g:Option Addr×Nat,v=.agg (R.cells g.1 1 g.2).toArray/\Sl W g.1 1 3 (la NR.cells R.at_)
def tk.ext{R:RV}(v:Value)(w V)(h:tk R v w)(F:Below w.heap.size w V):tk R v V:=let⟨g,h1,h2⟩:=h;⟨g,h1,h2.ext F⟩
variable {Z:World}
def Xh(base:Nat)(R:RV)(k:Int):VP:=λx W=>∃(g:Option Addr×Nat×Nat)(Z:World),x=.tuple #[.agg (R.cells g.1 g.2.1 g.2.2).toArray,.int .i64 k,.int .i64 0]/\True/\base<=Z.heap.size/\Hp Z [.row g.1 g.2.1 g.2.2 30 3 (la NR.cells R.at_)] W
def Xh.ext{R:RV}{k:Int}(x:Value)(w V)(h:Xh base R k x w)(F:Below w.heap.size w V):Xh base R k x V:=let⟨g,Z,h1,h2,G,z⟩:=h;⟨g,Z,h1,h2,G,z.ext F⟩
def Hk(base:Nat)(R:RV):VP:=λx W=>∃(g:Option Addr×Nat×Nat)(Z:World),x=.agg (R.cells g.1 g.2.1 g.2.2).toArray/\True/\base<=Z.heap.size/\Hp Z [.row g.1 g.2.1 g.2.2 30 3 (la NR.cells R.at_)] W
def Hk.ext{R:RV}(x:Value)(w V)(h:Hk base R x w)(F:Below w.heap.size w V):Hk base R x V:=let⟨g,Z,h1,h2,G,z⟩:=h;⟨g,Z,h1,h2,G,z.ext F⟩
variable {fz:Nat×Nat}
def RV.ne{A:Option Addr}{c:Nat}{xs:List Value}{b:Nat}{t:TypeId}{cs:Array Value}(h:Hp Z [.row A m c 30 3 xs] W)(G:W.heap[b]?=some (.cells cs t fz))(h1:30≠t):∀x∈[HE.row A m c 30 3 xs],x.id≠some b:=λx C=>by
 have Q:=h.own x C;obtain rfl:=k'.1 C;exact Rv Q G h1
def lnX(A:Option Addr)(c:Nat)(B:Option Addr)(d:Nat)(a b:Int):FX:=⟨A,1,c,B,2,d,[1],[nR (a:Dyadic),nR (b:Dyadic)]⟩
def oS(P p C j E:Int)(V)(A)(c:Nat)(B)(d:Nat)(s)(Y:Nat)(y)(d2:Nat)(w)(S:Nd w)(h1:(lnX A c B d P p).at_ w/\1<=c)(h2:(lnX s Y y d2 C j).at_ w/\1<=Y)(W:CV.ok ⟨[],[1],Uf [P,p],Uf [C,j]⟩) (u:Zf (xn [1] (Uf [P,p])) (xn [1] (Uf [C,j]))=E)(a:De (xn [1] (Uf [P,p])) (xn [1] (Uf [C,j])) 0=V):Zc 33 #[.agg #[.slice A 1 c,.slice B 2 d],.agg #[.slice s 1 Y,.slice y 2 d2],.int .i64 0] w (.tuple #[.agg (SR.cells V).toArray,.int .i64 E]):=by
 have h:=Au ⟨none,0,0,lnX A c B d P p,lnX s Y y d2 C j,⟨[],[1],Uf [P,p],Uf [C,j]⟩⟩ 0 w S ⟨Sl.nil _ _ _,⟨h1.1,h1.2⟩,⟨h2.1,h2.2⟩⟩ ⟨⟨rfl,rfl⟩,rfl,rfl⟩ W V' V';rw[show De (CV.f ⟨[],[1],Uf [P,p],Uf [C,j]⟩) (CV.g ⟨[],[1],Uf [P,p],Uf [C,j]⟩) 0=V from a,show Zf (CV.f ⟨[],[1],Uf [P,p],Uf [C,j]⟩) (CV.g ⟨[],[1],Uf [P,p],Uf [C,j]⟩)=E from u] at h;exact h
def af2:CV.ok ⟨[],[1],Uf [1,2],Uf [1,1]⟩:=aq (X:=[1,2]) (Y:=[1,1]) (λ_ h=>absurd h i_) V' rfl rfl rfl (by decide+kernel)
def afO:CV.ok ⟨[],[1],Uf [1,2],Uf [1, -1]⟩:=aq (X:=[1,2]) (Y:=[1, -1]) (λ_ h=>absurd h i_) V' rfl rfl rfl (by decide+kernel)
def afW:De (xn [1] (Uf [1,2])) (xn [1] (Uf [1,1])) 0=⟨nR ((1:Int):Dyadic),nR ((2:Int):Dyadic)⟩:=by
 unfold De;rw[Q' (by decide+kernel)];exact ZE (by decide+kernel)
def agE:De (xn [1] (Uf [1,2])) (xn [1] (Uf [1, -1])) 0=CK:=by
 unfold De;rw[R' (by decide+kernel)]
def fw(w):Zc 38 #[.int .i64 1] w (nR Sv).V:=by
 have I:=Hp.start w;have l:=λZ=>Fk (nR ((1:Int):Dyadic)) (-1) Z (by decide+kernel) (by decide+kernel) (by decide+kernel) V' V';rw[Ta,<-Sv] at l;refine Ga func38 ?_;refine Gb ?_;intro T q I;refine Gd I (Td 1 _ V' V') rfl ?_;intro y I;refine cd I (l _) ?_;exact uU
set_option maxRecDepth 100000 in
def zt(w:World)(hT:Nd w):Zc 8 #[] w (.bool true):=by
 have I:=Hp.start w;refine Ga func8 ?_;refine ea ?_;refine Hi (Ml 1 2 _ V' V') rfl ?_;rintro e_ w17 ⟨A1,c1,B1,d1,rfl,G⟩;refine⟨_,rfl, ?_⟩;replace I:=I.join G;simp only[I',J'] at I;clear G;refine Hi (Ml 1 1 _ V' V') rfl ?_;rintro e_ w18 ⟨A2,c2,B2,d2,rfl,G⟩;refine⟨_,rfl, ?_⟩;replace I:=I.join G;simp only[I',J'] at I;clear G;refine Gd I (oS 1 2 1 1 0 ⟨nR ((1:Int):Dyadic),nR ((2:Int):Dyadic)⟩ A1 c1 B1 d1 A2 c2 B2 d2 _ (hT.hp I) ⟨⟨I.ka (i:=3) rfl,I.ka (i:=2) rfl⟩,I.Ae (i:=3) rfl⟩ ⟨⟨I.ka (i:=1) rfl,I.ka (i:=0) rfl⟩,I.Ae (i:=1) rfl⟩ af2 (by decide+kernel) afW) rfl ?_;intro w19 I;refine Ib ?_;intro b1 Z I ws I;refine Hi (Ml 1 2 _ V' V') rfl ?_;rintro e_ w23 ⟨A3,c3,B3,d3,rfl,G⟩;refine⟨_,rfl, ?_⟩;replace I:=I.join G;simp only[I',J'] at I;clear G;refine Hi (Ml 1 (-1) _ V' V') rfl ?_;rintro e_ w24 ⟨A4,c4,B4,d4,rfl,G⟩;refine⟨_,rfl, ?_⟩;replace I:=I.join G;simp only[I',J'] at I;clear G
 refine Gd I (oS 1 2 1 (-1) 4 CK A3 c3 B3 d3 A4 c4 B4 d4 _ (hT.hp I) ⟨⟨I.ka (i:=3) rfl,I.ka (i:=2) rfl⟩,I.Ae (i:=3) rfl⟩ ⟨⟨I.ka (i:=1) rfl,I.ka (i:=0) rfl⟩,I.Ae (i:=1) rfl⟩ afO (by decide+kernel) agE) rfl ?_;intro w25 I;refine Ib ?_;intro b3 w3 I ws I;refine Gd I (Td 1 _ V' V') rfl ?_;intro w28 I;refine ea ?_;refine yC ?_;intro E w30 I;refine ea ?_;refine Gd I (Td 1 _ V' V') rfl ?_;intro w31 I;have hsh:=λZ=>Fk (nR ((1:Int):Dyadic)) (-2) Z (by decide+kernel) (by decide+kernel) (by decide+kernel) V' V';rw[Ta,<-Tw] at hsh;refine cd I (hsh _) ?_;intro w32 I;refine Ib ?_;intro b6 w6 I ws I;replace I:=I.sub (P' _ (P' _ (P' _ (L' _ (L' _ (L' _ (L' _ (P' _ (L' _ (L' _ (L' _ (L' _ j'))))))))))));replace I:=show Hp w (.blk b6 30 [.bool Tw.neg,.string Tw.Ra,.int .i64 Tw.e] (0,0)::.row (some ⟨E,0,none⟩) 1 1 36 6 (la SR.cells Ci)::_) _ from I;refine gz [9] [7,8] 10 I ?_;refine ua (i:=0) (tf P1) tf.ext ?_ ?_
 .exact acZ
 refine ua (i:=1) (tf Q1) tf.ext ?_ ?_
 .intro U Z hj hR;exact rb rfl (Ha fi (na rfl (na rfl Oa))) (ux 1 1 Q1 _ rfl) (λ_ _ ⟨v,R,hp,F⟩=>⟨v,R,F,hp⟩)
 refine ub ?_;refine ua (i:=4) (Xh I.sz RA 1) (Xh.ext) ?_ ?_
 .intro U Z hj hR;obtain⟨D,S,o34⟩:=hR.1;obtain⟨J,C,o35⟩:=hR.2.1;exact rb rfl (Ha fi (na S (na C (na (show U 36=Value.slice _ _ _ from hR.2.2.1) (na (show U 37=Value.agg (List.toArray _) from hR.2.2.2.1) (na rfl (na rfl Oa))))))) (aca P1 Q1 D J (some ⟨E,0,none⟩) 1 1 RA 1 Z (hT.hp hj.hp) o34 o35 abq afX (hj.hp.ka (i:=1) rfl) afU) (λ_ _ ⟨A,m,c',R,G⟩=>⟨_,R,G.below,(A,m,c'),Z,rfl,trivial,hj.bl.size,G⟩)
 refine ua (i:=5) (Xh I.sz RA 1) (Xh.ext) ?_ ?_
 .exact ab1
 refine ua (i:=6) (Hk I.sz RA) (Hk.ext) ?_ ?_
 .exact acn
 refine ua (i:=7) (Is (.int .i64 1)) (Is.ext) ?_ ?_
 .exact lQ
 refine ua (i:=8) (Is (.int .i64 0)) (Is.ext) ?_ ?_
 .exact lQ
 refine BV ?_;refine xa ?_;intro f W Q d _;obtain⟨v7,v41,v40,v39,v33,v38,v37,v36,v35,v34,_⟩:=d;obtain⟨D,S,o34⟩:tf P1 (f 0) W:=v34;obtain⟨J,C,o35⟩:tf Q1 (f 1) W:=v35;obtain⟨g38,u38,e38, -⟩:=v38;obtain⟨g33,u33,e33, -⟩:=v33;obtain⟨g39,u39,e39,o39,q39,h39⟩:=v39;obtain⟨b7,e7,hl7,hc7⟩:Sa _ _ _ (f 9) W:=v7;replace I:=Q.xh I hl7 hc7 q39 h39 (RV.ne h39 hc7 V');refine Be ?_;clear S C e38 e33 e39 e7 Q;simp only[I',J'] at I;obtain⟨j,m39,X⟩:=g39;obtain rfl:m39=0:=((I.ka (i:=1) rfl).Aa NR.len V').symm;refine Gb ?_;intro ws I;replace I:=show Hp w (.blk b7 40 (RA.cells j 0 X) (0,0)::_) _ from I;refine gz [9] [7,8] 10 I ?_;refine ua (i:=0) (tf P1) tf.ext ?_ ?_
 .exact acZ
 refine ua (i:=1) (tf Q2) tf.ext ?_ ?_
 .intro U Z hj hR;exact rb rfl (Ha fi (na rfl (na rfl Oa))) (ux 0 1 Q2 _ rfl) (λ_ _ ⟨v,R,hp,F⟩=>⟨v,R,F,hp⟩)
 refine ub ?_;refine ua (i:=4) (Xh I.sz RB 1) (Xh.ext) ?_ ?_
 .intro U Z hj hR;obtain⟨M,b,o43⟩:=hR.1;obtain⟨P,x,o44⟩:=hR.2.1;exact rb rfl (Ha fi (na b (na x (na (show U 45=Value.slice _ _ _ from hR.2.2.1) (na (show U 46=Value.agg (List.toArray _) from hR.2.2.2.1) (na rfl (na rfl Oa))))))) (aca P1 Q2 M P (some ⟨E,0,none⟩) 1 1 RB 1 Z (hT.hp hj.hp) o43 o44 abq afK (hj.hp.ka (i:=3) rfl) afB) (λ_ _ ⟨A,m,c',R,G⟩=>⟨_,R,G.below,(A,m,c'),Z,rfl,trivial,hj.bl.size,G⟩)
 refine ua (i:=5) (Xh I.sz RB 1) (Xh.ext) ?_ ?_
 .exact ab1
 refine ua (i:=6) (Hk I.sz RB) (Hk.ext) ?_ ?_
 .exact acn
 refine ua (i:=7) (Is (.int .i64 1)) (Is.ext) ?_ ?_
 .exact lQ
 refine ua (i:=8) (Is (.int .i64 0)) (Is.ext) ?_ ?_
 .exact lQ
 refine BV ?_;refine xa ?_;intro f W Q d _;obtain⟨v10,v50,v49,v48,v42,v47,v46,v45,v44,v43,_⟩:=d;obtain⟨M,b,o43⟩:tf P1 (f 0) W:=v43;obtain⟨P,x,o44⟩:tf Q2 (f 1) W:=v44;obtain⟨g47,u47,e47, -⟩:=v47;obtain⟨g42,u42,e42, -⟩:=v42;obtain⟨g48,u48,e48,o48,q48,h48⟩:=v48;obtain⟨b10,e10,hl10,k⟩:Sa _ _ _ (f 9) W:=v10;replace I:=Q.xh I hl10 k q48 h48 (RV.ne h48 k V');refine Be ?_;clear b x e47 e42 e48 e10 Q;simp only[I',J'] at I;obtain⟨l,m48,q⟩:=g48;obtain rfl:m48=1:=((I.ka (i:=1) rfl).Aa NR.len V').symm;refine Gb ?_;intro ws I;replace I:=show Hp w (.blk b10 40 (RB.cells l 1 q) (0,0)::_) _ from I;refine gz [9] [7,8] 10 I ?_;refine ua (i:=0) (tf P1) tf.ext ?_ ?_
 .exact acZ
 refine ua (i:=1) (tf Q3) tf.ext ?_ ?_
 .intro U Z hj hR;exact rb rfl (Ha fi (na rfl (na rfl Oa))) (ux (-1) 2 Q3 _ rfl) (λ_ _ ⟨v,R,hp,F⟩=>⟨v,R,F,hp⟩)
 refine ub ?_;refine ua (i:=4) (Xh I.sz RC 2) (Xh.ext) ?_ ?_
 .intro U Z hj hR;obtain⟨Y,n,o52⟩:=hR.1;obtain⟨g53,s,o53⟩:=hR.2.1;exact rb rfl (Ha fi (na n (na s (na (show U 54=Value.slice _ _ _ from hR.2.2.1) (na (show U 55=Value.agg (List.toArray _) from hR.2.2.2.1) (na rfl (na rfl Oa))))))) (aca P1 Q3 Y g53 (some ⟨E,0,none⟩) 1 2 RC 2 Z (hT.hp hj.hp) o52 o53 abq afE (hj.hp.ka (i:=5) rfl) afT) (λ_ _ ⟨A,m,c',R,G⟩=>⟨_,R,G.below,(A,m,c'),Z,rfl,trivial,hj.bl.size,G⟩)
 refine ua (i:=5) (Xh I.sz RC 2) (Xh.ext) ?_ ?_
 .exact ab1
 refine ua (i:=6) (Hk I.sz RC) (Hk.ext) ?_ ?_
 .exact acn
 refine ua (i:=7) (Is (.int .i64 2)) (Is.ext) ?_ ?_
 .exact lQ
 refine ua (i:=8) (Is (.int .i64 0)) (Is.ext) ?_ ?_
 .exact lQ
 refine BV ?_;refine xa ?_;intro f W Q d _;obtain⟨v13,v59,v58,v57,v51,v56,v55,v54,v53,v52,_⟩:=d;obtain⟨Y,n,o52⟩:tf P1 (f 0) W:=v52;obtain⟨g53,s,o53⟩:tf Q3 (f 1) W:=v53;obtain⟨g56,u56,e56, -⟩:=v56;obtain⟨g51,u51,e51, -⟩:=v51;obtain⟨g57,u57,e57,o57,q57,h57⟩:=v57;obtain⟨b13,e13,hl13,B⟩:Sa _ _ _ (f 9) W:=v13;replace I:=Q.xh I hl13 B q57 h57 (RV.ne h57 B V');refine Be ?_;clear n s e56 e51 e57 e13 Q;simp only[I',J'] at I;obtain⟨z,m57,a⟩:=g57;obtain rfl:m57=1:=((I.ka (i:=1) rfl).Aa NR.len V').symm;refine Gb ?_;intro ws I;replace I:=show Hp w (.blk b13 40 (RC.cells z 1 a) (0,0)::_) _ from I;replace I:=show Hp w (_::.row z 1 a 30 3 (la NR.cells RC.at_)::_) _ from I;refine gz [] [] 54 I ?_;refine XJ ?_;refine Ee 9 [_,_,_] ?_;refine dC (λ_ hj=>Td 1 _ V' V') ?_;refine Ba (i:=3) (λU Z hj hR=>mE (show U 61=Value.agg (List.toArray _) from hR.1) (show U 62=Value.agg (List.toArray _) from hR.2.1) (by first|assumption|rfl)) ?_;refine ub ?_;refine dG (Ee 9 [_,_,_] ?_)
 refine ud (i:=7) rfl (λU Z hj hR=>(show U 64=Value.bool _ from hR.1)) (λU Z hj hR=>Ha fi (na rfl Oa)) (λZ hj=>Td 2 _ V' V') ?_;refine yF (i:=8) rfl (λU Z hj hR=>(show U 64=Value.bool _ from hR.2.2.1)) (λU Z hj hR=>mE (show U 66=Value.agg (List.toArray _) from hR.1) (show U 67=Value.agg (List.toArray _) from hR.2.1) (by first|assumption|rfl)) ?_;refine ub ?_;refine ud (i:=20) rfl (λU Z hj hR=>(show U 78=Value.bool _ from hR.1)) (λU Z hj hR=>Ha fi (na rfl Oa)) (λZ hj=>fw _) ?_;refine ud (i:=21) rfl (λU Z hj hR=>(show U 78=Value.bool _ from hR.1)) (λU Z hj hR=>Ha fi (na rfl Oa)) (λZ hj=>Td 1 _ V' V') ?_;refine ub ?_;refine ud (i:=24) rfl (λU Z hj hR=>(show U 78=Value.bool _ from hR.2.2.1)) (λU Z hj hR=>Ha fi (na (show U 79=Value.agg (List.toArray _) from hR.1) (na (show U 83=Value.agg (List.toArray _) from hR.2.1) Oa))) (λZ hj=>Ul RA j none 0 X 0 _ (hj.hp.ka (i:=5) rfl) (Sl.nil _ _ _) V') ?_;refine ub ?_;refine ud (i:=36) rfl (λU Z hj hR=>(show U 94=Value.bool _ from hR.1)) (λU Z hj hR=>Ha fi (na rfl Oa)) (λZ hj=>Td 0 _ V' V') ?_
 refine rl (i:=37) (cs:=[_,_,_]) rfl (λU Z hj hR=>(show U 94=Value.bool _ from hR.2.1)) Qa.out pa.out (λU Z hj hR=>(Bb (show U 96=Value.agg (List.toArray _) from hR.1) Ld)) rfl rfl V' V' rfl ?_;refine ua (i:=38) (tk RB) (tk.ext) ?_ ?_
 .intro U Z hj hR;obtain⟨o,t,h97,s97⟩:=hR.1;exact Nf rfl (show U 94=Value.bool _ from hR.2.1) (ic rfl (Hn (cs:=[_,_,_,_,_,_,_,_]) pa.out nj.out (Bb rfl (Bb h97 Ld)) rfl) ⟨Below.refl _ _,(o,t),rfl,s97⟩)
 refine ua (i:=39) (Is (.bool true)) Is.ext ?_ ?_
 .intro U Z hj hR;obtain⟨c,p,o98⟩:=hR.2.1;refine Nf rfl ((show U 94=Value.bool _ from hR.2.2.1)) ?_;exact rb rfl (Ha fi (na (show U 95=Value.agg (List.toArray _) from hR.1) (na p Oa))) (Ul RB l c.1 1 q c.2 _ (hj.hp.ka (i:=3) rfl) o98 V') (λ_ _ R=>⟨_,R.1,R.2,rfl⟩)
 refine ub ?_;refine ud (i:=51) rfl (λU Z hj hR=>(show U 109=Value.bool _ from hR.1)) (λU Z hj hR=>Ha fi (na rfl Oa)) (λZ hj=>fw _) ?_;refine rl (i:=52) (cs:=[_,_,_]) rfl (λU Z hj hR=>(show U 109=Value.bool _ from hR.2.1)) Qa.out pa.out (λU Z hj hR=>(Bb (show U 111=Value.agg (List.toArray _) from hR.1) Ld)) rfl rfl V' V' rfl ?_;refine ua (i:=53) (tk RC) (tk.ext) ?_ ?_
 .intro U Z hj hR;obtain⟨r,K,h112,s112⟩:=hR.1;exact Nf rfl (show U 109=Value.bool _ from hR.2.1) (ic rfl (Hn (cs:=[_,_,_,_,_,_,_,_]) pa.out nj.out (Bb rfl (Bb h112 Ld)) rfl) ⟨Below.refl _ _,(r,K),rfl,s112⟩)
 refine xa ?_;intro f W Q d _;obtain⟨v113,v112,v111,v110,v109,v108,v107,v106,v105,v104,v103,v102,v101,v100,v99,v98,v97,v96,v95,v94,v93,v92,v91,v90,v89,v88,v87,v86,v85,v84,v83,v82,v81,v80,v79,v78,v77,v76,v75,v74,v73,v72,v71,v70,v69,v68,v67,v66,v65,v64,v63,v62,v61,v60,_⟩:=d;obtain⟨o,t,e97,f97⟩:Rows _ _ _ (f 37) W:=v97;obtain⟨c,p,o98⟩:tk RB (f 38) W:=v98;obtain⟨r,K,y,f112⟩:Rows _ _ _ (f 52) W:=v112;obtain⟨T,H,o113⟩:tk RC (f 53) W:=v113;replace I:=Q.hp;refine Be ?_;clear e97 p y H Q;refine ea ?_;refine Gd I (Ul RC z T.1 1 a T.2 _ (I.ka (i:=1) rfl) o113 V') rfl ?_;intro w114 I;refine ea ?_;exact⟨rfl,I.below⟩
def UU(z:Int):NR:=nR (z:Dyadic)
def ads(l:List Int):List SR:=l.map λz=>⟨nR 0,UU z⟩
def agB(es:List UInt8)(z:Int):VP:=λv W=>∃g:Option Addr×Nat,v=.agg #[.int .i64 es.length,.slice g.1 1 g.2]/\1<=g.2/\Sl W g.1 1 4 (la TR.cells [⟨str es,UU z⟩])
def smI(l:List Int):Bool:=l.all λz=>decide (z.natAbs<256)
def ach(es:List UInt8)(z:Int):PX:=⟨es.length,none,0,0,[⟨str es,UU z⟩]⟩
def isB(z:Int)(es:List UInt8)(bl ds l:List Int):Bool:=decide (z.natAbs<256/\es.length<=12/\sf (ach es z) (ads bl) ds=0/\Aj (nW (ach es z) ds) (Qb (ach es z) (Ca (ads bl))).2=l.map (λz:Int=>(z:Dyadic))/\Ge (124+124+16394) (wb es.length [⟨str es,UU z⟩]) (124+1)<=440000) && smI bl && smI l
abbrev fZ(A:Option Addr)(a:Nat)(B:Option Addr)(b:Nat):FX:=⟨A,1,a,B,3,b,[2],[0,0,4].map UU⟩
end Go.Proofs.YtbencocchdpikaaGreatDoor
