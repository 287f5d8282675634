/- Lemmas for solveApart, part 9. -/
import Derived.Scope
import Derived.Test.YtbencocchdpikaaGreatDoorZ8
set_option linter.all false
set_option maxHeartbeats 0
namespace Go.Proofs.YtbencocchdpikaaGreatDoor
open Go.Proofs.Tryz
open Go.RowKit
abbrev FD:=List Nat×List Dyadic
variable {k:Nat}
structure Vt(k:Nat)(d:FD):Prop where
 d12:d.1.length<=12
 d127:∀x∈d.1,x<=127
 lx:d.2.length=ea d.1
 nK:ea d.1<=200
 zx:∀x∈d.2,Sz k x
def Me(ds:List FD)(l:List NR):List FX:=List.zipWith (λd c=>Oo d.1 (d.2.map λx=>x*c.da)) ds l
variable {j n:Nat}
def KG(A)(n c:Nat)(fs)(ds:List FD)(X)(cx:Nat)(l)(k q:Nat)(w)(hT:Gc w)(hL:Sl w A n 2 (ia FX.cells fs))(hn:n<=1000)(hf:∀f∈fs,f.at_ w)(hd:ds.length=n)(s:∀(i:Nat)(f:FX)(d:FD),fs[i]?=some f->ds[i]?=some d->f.is d.1 d.2)(hz:∀d∈ds,Vt k d)(hX:Sl w X n 3 (ia NR.cells l))(hl:∀a∈l,a.ok/\Sz q a.da)(hk:k+q<=90000):Calls prog 145 #[.slice A n c,.slice X n cx] w λr V=>∃g:FX,Out (qb (Me ds l)) (maxD (Me ds l)) (SM ((Me ds l).map (gi (maxD (Me ds l))))) g/\r=.returned (.tuple #[g.V,.int .i64 (qb (Me ds l))])/\Hp w [g.gg,g.Kf] V:=by
 have I:=Hp.start w;have hln:fs.length=n:=hL.sa FX.len V';have hxl:l.length=n:=hX.sa NR.len V';have hml:(Me ds l).length=n:=by unfold Me;rw[R7];omega
 refine Ca func145 ?_;refine Bb ?_;intro b4 w4 I;replace I:=I.rb 78 2;refine Fi 6 13 (λv6 v V=>∃(i P:Nat)(B:Option Addr)(gs:List FX)(R:List HE),i<=n/\v=.int .i64 i/\v6=.slice B i P/\gs.map FX.key=((Me ds l).take i).map FX.key/\(∀g∈gs,(g.gg∈R/\g.Kf∈R)/\g.Ug 90000/\g.m<=200)/\Hp w (.row B i P 78 2 (ia FX.cells gs)::.blk b4 78 [.slice none 0 0,.slice none 0 0] (0,0)::R) V) (λ_ v _=>n-(intOf v).toNat) ?_ ?_
 .exact aap
 clear I;rintro ρ' v6 v V ⟨i,P,B,gs,R,hi,rfl,rfl,D,K,I⟩;by_cases hlt:i<n
 .obtain⟨f,C⟩:=aa (l:=fs) (k:=i) Z';obtain⟨d,F⟩:=aa (l:=ds) (k:=i) Z';obtain⟨a,ha⟩:=aa (l:=l) (k:=i) Z';obtain⟨ad,rfl,hr⟩:=hL.at_ Z';obtain⟨ax,rfl,hcr⟩:=hX.at_ Z';have t:=hf f (N' C);have j:=s i f d C F;obtain⟨a1,a2⟩:=hl a (N' ha);obtain⟨z1,z2,z3,z4,z5⟩:=hz d (N' F);have E:=λZ hT1 hb1=>vQ f a 90000 Z hT1 (t.ext hb1) (j.Ug t z1 z3 Z' (λx C=>(z5 x C).mono Z') V') a1 (a2.mono Z') V';rw[j.e z1 z2 z3 Z',show f.ns=d.1 by unfold FX.ns;rw[j.ds];exact Bh _,show(f.cs.map λx=>x.da*a.da)=d.2.map λx=>x*a.da by rw[j.cs,A_];exact z9 λx _=>by show(nR x).da*a.da=_;rw[Ga]] at E;have hmi:(Me ds l)[i]?=some (Oo d.1 (d.2.map λx=>x*a.da)):=by unfold Me;rw[n9,F,ha]
  have hlx:(d.2.map λx=>x*a.da).length=ea d.1:=by rw[D'];exact z3
  have hzx:∀x∈(d.2.map λx=>x*a.da),Sz 90000 x:=λx C=>(by obtain⟨y,hy,rfl⟩:=B'.1 C;exact((z5 y hy).mul a2).mono hk);generalize (d.2.map λx=>x*a.da)=Y at*;refine fa ?_;refine sv (Ka (vs:=[_,_]) pa.out rfl ((hr.ext I.below).recAt FX.len C) rfl) ?_;refine yb ?_;intro b8 w8 I ws I;refine XQ [9] [8] 10 I ?_;refine Ui (i) ?_;refine Fj [_,_,_] (λ_ hj=>(hcr.ext hj.hp.below).recAt NR.len ha) ?_;refine Ja (i:=5) (yI I.sz 0 d.1 Y) (yI.ext) ?_ ?_
  .intro U Z hj hR;exact ib rfl (La fi (qa (show U 19=Value.agg (List.toArray _) from hR.1) (qa (show U 23=Value.agg (List.toArray _) from hR.2.1) Wa))) (E _ (hT.hp hj.hp) hj.hp.below) (λ_ _ ⟨g,q1,q2,q3⟩=>⟨_,q2,q3.below,g,_,rfl,q1,hj.bl.size,q3⟩)
  refine Ja (i:=6) (yI I.sz 0 d.1 Y) (yI.ext) ?_ ?_
  .intro U Z hj hR;exact let⟨g,u,N,L⟩:=hR.1;wc rfl (Ib N) ⟨Below.refl _ _,g,u,rfl,L⟩
  refine Ja (i:=7) (SD I.sz 0 d.1 Y) (SD.ext) ?_ ?_
  .intro U Z hj hR;exact let⟨g,u,N,L⟩:=hR.1;wc rfl (vd (vs:=[_,_]) N rfl) ⟨Below.refl _ _,g,u,rfl,L⟩
  refine Ja (i:=8) (Is (.int .i64 0)) (Is.ext) ?_ ?_
  .intro U Z hj hR;exact let⟨g,u,N,L⟩:=hR.1;wc rfl (vd (vs:=[_,_]) N rfl) ⟨Below.refl _ _,rfl⟩
  refine Ja (i:=9) (Ob _ 78 _) Ob.ext (λU Z hj hR=>Pg pa.out hj.bl (λv w2 h hb=>⟨hb,h⟩)) ?_;refine Fa ?_;intro f W hJ hV _;obtain⟨v9,v26,v25,v18,v24,v23,v22,v21,v20,v19,_⟩:=hV;obtain⟨g24,u24,S, -⟩:=v24;obtain⟨g18,u18,Q, -⟩:=v18;obtain⟨z,u25,T,J,q25,o⟩:=v25;obtain⟨b9,e9,hl9,p⟩:Ob _ _ _ (f 9) W:=v9;replace I:=hJ.Ls I hl9 p q25 o (FX.ne o p V' V');refine lg ?_;refine Bb ?_;intro ws I;refine Dk ?_;intro b29 w29 I;refine FM ?_;intro H M w30 I;simp only[j',t_] at I;replace I:=I.sub (r_ _ _);refine fa ?_;replace I:=I.perm (W_ (l₁:=[_,_,_,_,_]));simp only[C',F'] at I;replace I:=I.perm (W_ (l₁:=[_,_,_,_,_]));simp only[C',F'] at I;replace I:=I.sub (O' _ (O' _ (G' _ (O' _ (O' _ (G' _ (P_ _)))))));have g1:z.is d.1 Y:=⟨J.ds,J.cs⟩;have g2:=I.Bj (f:=z) (N' (i:=2) rfl) (N' (i:=3) rfl)
  refine⟨⟨i+1,M,H,gs++[z],z.gg::z.Kf::R,Z',rfl,rfl,by rw[G_,D,ja hmi,G_,N7,N7,g1.afm g2],λy hy=> ?_,by rw[Aa];exact I⟩,by show n-(i+1)<n-i;omega, ?_⟩
  .obtain hy|hy:=O_.1 hy
   .obtain⟨⟨h1,h2⟩,G⟩:=K y hy;exact⟨⟨L' _ (L' _ h1),L' _ (L' _ h2)⟩,G⟩
   obtain rfl:=q'.1 hy;exact⟨⟨I',L' _ I'⟩,g1.Ug g2 z1 hlx Z' hzx V',by rw[(g1.key g2).2];omega⟩
  exact Wb
 obtain rfl:n=i:=Z';rw[w' Z'] at D;obtain⟨_,k2,k3,k4⟩:=BR D;rw[<-k2,<-k3,<-k4];refine fa ?_;refine te (aa4 B n P gs 90000 _ (hT.hp I) (I.ma (i:=0) rfl) hn (λg s=>I.Bj (L' _ (L' _ (K g s).1.1)) (L' _ (L' _ (K g s).1.2))) (λg s=>(K g s).2.1) (λg s=>(K g s).2.2) V') rfl ?_;rintro e_ w33 ⟨g,og,rfl,G⟩;refine⟨_,rfl, ?_⟩;replace I:=I.join G;simp only[C',F'] at I;refine Bb ?_;intro ws I;refine pP ?_;exact⟨g,og,rfl,I.sub (O' _ (O' _ (m_ _)))⟩
def rp(b:List SR):List NR:=b.mapIdx λ_ s=>nR s.f.lj
def fk(X:List PX)(b:List SR):List (List NR):=X.map (yk (rp b))
variable {rs:List (List NR)}
def St(ds:List FD)(rs:List (List NR)):Int:=match rs.find? (λr=>decide (qb (Me ds r)≠0)) with
 |some r=>qb (Me ds r)
 |none=>0
def PX.Ug.adO{g:PX}(h:g.Ug k)(u:k<=j):g.Ug j:=⟨h.n,h.cap,h.ok.mono u,h.sz⟩
variable {ts:List TR}
def om.mono{v:Int}{D:Nat}(h:om v k n D ts)(u:k<=j):om v j n D ts:=⟨h.e,h.ok.mono u,h.sz,h.len,h.ex⟩
def QN{ds:List FD}{i:Nat}{r:List NR}(h:∀q∈rs.take i,qb (Me ds q)=0)(H:rs[i]?=some r)(J:qb (Me ds r)≠0):St ds rs=qb (Me ds r):=by
 have:rs.find? (λr=>decide (qb (Me ds r)≠0))=some r:=(by rw[<-q_ i rs,List.find?_append,a8.2 λx C=>by simpa using h x C,de H,V5 (by simpa using J)];rfl);unfold St;rw[this]
def cN{ds:List FD}(h:∀q∈rs,qb (Me ds q)=0):St ds rs=0:=by
 have:rs.find? (λr=>decide (qb (Me ds r)≠0))=none:=a8.2 λx C=>by simpa using h x C
 unfold St;rw[this]
def Zo(X:List PX)(b:List SR)(ds:List FD):Int:=if rm (fk X b)=0 then 4 else St ds (Rs (fk X b) X.length)
def xq(ds:List FD)(r:List NR):FD:=(maxD (Me ds r),SM ((Me ds r).map (gi (maxD (Me ds r)))))
def Lm(X:List PX)(b:List SR)(ds:List FD):List FD:=(Rs (fk X b) X.length).map (xq ds)
def EC(L)(n c:Nat)(X)(B)(cb:Nat)(b)(A)(ca:Nat)(fs)(ds:List FD)(k q kp D:Nat)(w)(hT:Gc w)(hL:Sl w L n 2 (ia PX.cells X))(hn:n<=3)(hp:∀p∈X,p.at_ w/\p.Ug kp/\p.v=n/\om p.v kp 100 D p.ts)(hB:Sl w B n 6 (ia SR.cells b))(hb:∀s∈b,s.fin kp)(hkp:kp<=500)(hA:Sl w A n 2 (ia FX.cells fs))(hf:∀f∈fs,f.at_ w)(hd:ds.length=n)(hg:∀(i:Nat)(f:FX)(d:FD),fs[i]?=some f->ds[i]?=some d->f.is d.1 d.2)(hz:∀d∈ds,Vt k d)(hs:∀l∈fk X b,∀a∈l,a.ok/\Sz q a.da)(hk:k+(16*q+32)<=90000):Calls prog 76 #[.slice L n c,.slice B n cb,.slice A n ca] w λr V=>(Zo X b ds≠0/\r=.returned (.tuple #[.slice none 0 0,.int .i64 (Zo X b ds)])/\Below w.heap.size w V)\/(Zo X b ds=0/\∃(C:Option Addr)(cc:Nat)(gs:List FX)(R:List HE),r=.returned (.tuple #[.slice C n cc,.int .i64 0])/\gs.length=n/\(∀(i:Nat)(g:FX)(d:FD),gs[i]?=some g->(Lm X b ds)[i]?=some d->g.is d.1 d.2)/\(∀g∈gs,g.gg∈R/\g.Kf∈R)/\Hp w (.row C n cc 78 2 (ia FX.cells gs)::R) V):=by
 have I:=Hp.start w;have hln:X.length=n:=hL.sa PX.len V';have hbl:b.length=n:=hB.sa SR.len V';have hyl:(rp b).length=n:=by unfold rp;rw[q8];exact hbl
 have hyz:∀y∈rp b,y.ok/\Sz (kp+2) y.da:=λy hy=>(by unfold rp at hy;obtain⟨i,hi,rfl⟩:=List.mem_mapIdx.1 hy;have h1:=SR.Im (hb _ (List.getElem_mem hi)) Z';have h2:=Sz.lj h1.1.sz h1.2.sz;exact⟨h2.ok Z',by rw[Ga];exact h2⟩);have hmd:=λZ P J=>iI B n cb b kp Z P (hB.ext J) hb Z' Z';rw[show(b.mapIdx λ_ s=>nR s.f.lj)=rp b from rfl] at hmd;refine Ca func76 ?_;refine fa ?_;refine cr I (hmd _ (hT.hp I) I.below) ?_;intro A20 c20 w20 I;have hm20:=I.ma (i:=0) rfl;refine te (EB L n c X _ n _ (rp b) (kp+2) D _ (hT.hp I) (hL.ext I.below) Z' (λp h=>⟨(hp p h).1.ext I.below,(hp p h).2.1.adO Z',(hp p h).2.2.1,(hp p h).2.2.2.mono Z'⟩) hm20 Z' hyz Z') rfl ?_;rintro e_ w21 ⟨E,ce,zs,R1,rfl,Y,W,h3⟩;refine⟨_,rfl, ?_⟩;replace Y:zs.map LX.l=fk X b:=Y;replace I:=I.join h3;simp only[C',F'] at I;have hTK:∀(Z:World)(H1:List HE),Hp w H1 Z->(∀e∈R1,e∈H1)->IF q zs Z:=λZ H1 h1 hm=>⟨λx F=>ee (h1.own _ (hm _ (W x F).2)),λx F=>by rw[(W x F).1];omega,λx F a ha=>hs x.l (by rw[<-Y];exact W6 F) a ha⟩;have hdt:=λZ P N hk1=>Zz E n ce q zs Z P N hk1 Z' (λx F=>(W x F).1) Z';have had:=λZ P N hk1=>YM E n ce q zs Z P N hk1 Z' (λx F=>(W x F).1) Z';rw[Y] at hdt had;unfold Zo Lm;rw[hln];have hsg:=λZ=>jc (nR (rm (fk X b))) Z
 have haz:∀l∈Rs (fk X b) n,∀a∈l,a.ok/\Sz (16*q+32) a.da:=λl hl a ha=>(by unfold Rs ZH at hl;obtain⟨i,hi,rfl⟩:=B'.1 hl;obtain⟨j,hj,rfl⟩:=B'.1 ha;have h1:=(WH (L:=fk X b) (n:=n) (K:=q) (i:=i) (k:=j) (by unfold fk;rw[D'];exact hln) hn (λl hl=>by unfold fk yk at hl;obtain⟨p,hp,rfl⟩:=B'.1 hl;rw[D',V9];exact hyl) (λl hl a ha=>(hs l hl a ha).2) (S_.1 hi) (S_.1 hj)).2;exact⟨h1.ok Z',by rw[Ga];exact h1⟩);have hal:(Rs (fk X b) n).length=n:=by unfold Rs;rw[D',V9]
 generalize rm (fk X b)=d0 at*;generalize Rs (fk X b) n=AJ at*;refine fa ?_;refine cd I (hdt _ (hT.hp I) (I.ma (i:=0) rfl) (hTK _ _ I λe h=>L' _ (M9 _ h))) ?_;intro w24 I;by_cases h0:d0=0
 .subst h0;rw[P' rfl];rw[show(nR 0).i.sign=0 from rfl] at hsg;refine yb ?_;intro b9 w9 I ws I;refine cd I (hsg _) ?_;intro w28 I;refine fa ?_;exact .inl ⟨V',rfl,I.below⟩
 rw[Q' h0];have hsn:(nR d0).i.sign≠0:=λh=>h0 (by
  rw[A6] at h;rw[<-aej d0,h,Sg])
 have hsb:=Cl (nR d0).i;generalize (nR d0).i.sign=sg at*;refine yb ?_;intro b9 w9 I ws I;refine cd I (hsg _) ?_;intro w28 I;refine fa ?_;replace I:=I.perm (W_ (l₁:=[_]));simp only[C',F'] at I;refine Wi (had _ (hT.hp I) (I.ma (i:=0) rfl) (hTK _ _ I λe h=>L' _ (L' _ (M9 _ h)))) ?_;rintro e_ w32 ⟨C,cc,ys,R2,rfl,hym,hyR,h3⟩;refine⟨_,rfl, ?_⟩;replace I:=I.join h3;simp only[C',F'] at I;have hAJ:∀(i:Nat)(y:LX),ys[i]?=some y->AJ[i]?=some y.l:=λi y hy=>by rw[<-hym,z',hy];rfl
 have hyn:ys.length=n:=(I.ma (i:=0) rfl).sa LX.len V';refine fa ?_;replace I:=I.rb 78 2;refine Fi 13 37 (λv13 v V=>∃(i z:Nat)(G:Option Addr)(gs:List FX)(R:List HE),i<=n/\v=.int .i64 i/\v13=.slice G i z/\gs.length=i/\(∀r∈AJ.take i,qb (Me ds r)=0)/\(∀(j:Nat)(g:FX)(r:List NR),gs[j]?=some g->AJ[j]?=some r->g.is (xq ds r).1 (xq ds r).2)/\(∀g∈gs,g.gg∈R/\g.Kf∈R)/\(∀y∈ys,.row y.A y.n y.c 30 3 (ia NR.cells y.l)∈R)/\Hp w (.row G i z 78 2 (ia FX.cells gs)::.row C n cc 37 1 (ia LX.cells ys)::R) V) (λ_ v _=>n-(intOf v).toNat) ?_ ?_
 .exact⟨0,0,none,[],_,J' _,rfl,rfl,rfl,λq h=>absurd h h_,λj g r h=>by simp at h,λf h=>absurd h h_,λy hy=>M9 _ (hyR y hy).2,I⟩
 clear I;rintro ρ' v13 v V ⟨i,z,G,gs,R,hi,rfl,rfl,S,T,hgs,hR,hyR2,I⟩;by_cases hlt:i<n
 .obtain⟨y,hyi⟩:=aa (l:=ys) (k:=i) Z';have hmy:=N' hyi;have t:=hAJ i y hyi;have hyo:=hyR2 y hmy;have hyn2:=(hyR y hmy).1;have M:=λh=>QN T t h;obtain⟨yA,m,yc,u⟩:=y;obtain rfl:m=n:=hyn2;replace M:qb (Me ds u)≠0->St ds AJ=qb (Me ds u):=M;replace t:AJ[i]?=some u:=t;have hmx:=λZ P J N=>KG A m ca fs ds yA yc u k (16*q+32) Z P (hA.ext J) Z' (λf h=>(hf f h).ext J) hd hg hz N (haz u (N' t)) hk;have htr:∀g:FX,Out 0 (maxD (Me ds u)) (SM ((Me ds u).map (gi (maxD (Me ds u))))) g->g.is (xq ds u).1 (xq ds u).2:=λg o=>⟨o.ds,o.cs⟩;obtain⟨gC,rfl⟩:=I.kb (i:=1) rfl Z';generalize hmE:qb (Me ds u)=mE at*;refine fa ?_;refine sv (Ba pa.out rfl (I.Wc (f:=LX.cells) (x:=⟨yA,m,yc,u⟩) (l:=ys) (i:=1) rfl LX.len V' hyi 0 _ rfl)) ?_;refine fa ?_;refine Wi (hmx _ (hT.hp I) I.below (ee (I.own _ (L' _ (L' _ hyo))))) ?_;rintro e_ w44 ⟨g,og,rfl,h3⟩;refine⟨_,rfl, ?_⟩;replace I:=I.join h3;simp only[C',F'] at I;by_cases Q:mE=0
  .subst Q;refine yb ?_;intro b16 w16 I ws I;refine Dk ?_;intro b52 w52 I;refine pU ?_;intro A53 c53 w53 I;simp only[j',t_] at I;replace I:=I.sub (r_ _ _);refine fa ?_;replace I:=I.perm (W_ (l₁:=[_,_]));simp only[C',F'] at I;replace I:=I.perm (W_ (l₁:=[_,_]));simp only[C',F'] at I;replace I:=I.perm (W_ (l₁:=[_,_,_,_]));simp only[C',F'] at I;replace I:=I.perm (W_ (l₁:=[_,_,_,_]));simp only[C',F'] at I;replace I:=I.sub (O' _ (O' _ (O' _ (O' _ (G' _ (P_ _))))));refine⟨⟨i+1,c53,A53,gs++[g],g.gg::g.Kf::R,Z',rfl,rfl,by rw[y',S];rfl,λr H=> ?_,λj g2 r h1 h2=> ?_,λf hf=> ?_,λy hy=>L' _ (L' _ (hyR2 y hy)),by rw[Aa];exact I⟩,by show m-(i+1)<m-i;omega, ?_⟩
   .rw[ja t] at H;obtain H|H:=O_.1 H
    .exact T r H
    rw[q'.1 H];exact hmE
   .by_cases hj:j<i
    .rw[m9 Z'] at h1;exact hgs j g2 r h1 h2
    have hj2:=(x'.1 h1).1;rw[y',S] at hj2;obtain rfl:j=i:=by have:j<i+1:=hj2;omega
    rw[S9 Z',S,u_] at h1;obtain rfl:g=g2:=i' h1;rw[t] at h2;obtain rfl:=i' h2;exact htr g og
   .obtain hf|hf:=O_.1 hf
    .exact⟨L' _ (L' _ (hR f hf).1),L' _ (L' _ (hR f hf).2)⟩
    rw[q'.1 hf];exact aa8
   exact Wb
  refine yb ?_;intro b16 w16 I ws I;exact .inl ⟨by rw[M Q];exact Q,by rw[M Q],I.below⟩
 obtain rfl:n=i:=Z';rw[w' (Nat.le_of_eq hal)] at T;refine fa ?_;refine .inr ⟨cN T,G,z,gs,R,rfl,S,λj g d h1 h2=> ?_,hR,I.sub (O' _ (G' _ (P_ _)))⟩;rw[z'] at h2
 cases H:AJ[j]? with
 |none=>rw[H] at h2;cases h2
 |some r=>
  rw[H] at h2;obtain rfl:=i' h2;exact hgs j g r h1 H
variable {N:Nat}
def Yv:∀(N:Nat)(l:List Nat),l.Nodup->(∀x∈l,x<N)->l.length<=N
 |0,l,_,h=>by
  cases l with
  |nil=>exact E' _
  |cons x l=>exact absurd (h x I') Z'
 |N+1,l,T,h=>by
  by_cases hm:N∈l
  .have h1:=Yv N (l.erase N) (T.erase N) λx C=>(by have:=(T.mem_erase_iff).1 C;have:=h x this.2;omega);rw[List.length_erase_of_mem hm] at h1;omega
  have:=Yv N l T λx C=>(by have:=h x C;have:x≠N:=λe=>hm (e ▸ C);omega);omega
def uX{l:List TR}{ds:List Nat}(H:xv l)(h:∀t∈l,ph ds (Ac t.m)):l.length<=ea ds:=by
 have h1:=Yv (ea ds) (l.map λt=>Jc ds (Ac t.m)) (by
  unfold List.Nodup;rw[List.pairwise_map];refine List.Pairwise.imp_of_mem (λ{a b} M F Q e=> ?_) H;have L:Ac a.m=Ac b.m:=by rw[<-Vg (h a M),e,Vg (h b F)]
  rw[wD L,xg] at Q
  cases Q) (λx C=>by
  obtain⟨t,S,rfl⟩:=B'.1 C;exact Th (h t S))
 rwa[D'] at h1
variable {K:Nat}
def abZ{v:Nat}{l:List TR}{B:Nat->Nat}(K:∀t∈l,t.m.size=v)(h:Uk B l):∀t∈l,ph ((List.range v).map B) (Ac t.m):=λt S=>by
 rw[Vk];refine⟨by rw[Vm,K t S,D',V9],λi d r T H=> ?_⟩;have hi:=(x'.1 T).1;rw[D',V9] at hi;rw[z',f_ hi] at T;have:=h t S i;rw[oK,H] at this;rw[<-i' T];exact this
def yq{v:Nat}{B:Nat->Nat}(h:vf (v:Int) ts=0)(F:Uk B ts):ts.length<=ea ((List.range v).map B):=by
 obtain⟨_,_,G,z⟩:=Gb h;refine uX z.au (abZ (λt S=> ?_) F);have:=G t S;unfold Qd at this;rw[l',h'] at this;omega
def Qz{v:Int}{q p:List TR}{sub:List TR->Int×List TR}{j D K T B c N:Nat}(A:Tg v=true)(R:Oi v K q)(F:q.length<=T)(r:∀t∈p,fg j t<=D)(G:∀n,(sub (Oa p j n)).1=0->Oi v B (sub (Oa p j n)).2/\(sub (Oa p j n)).2.length<=N) (L:∀i,i<=128->(Ta q sub p j i).1=0->(Ta q sub p j i).2.length<=N)(hc:K+N*T+(N*T+N)<=c)(Q:B+D*c+N<=500000)(o:c<=100000)(f:N<=4096):
  ∀i,i<=128->(Ta q sub p j i).1=0->Oi v (B+(i+D-128)*c+N) (Ta q sub p j i).2
 |0,_,_=>Oi.nil A
 |i+1,hi,J=>by
  by_cases h1:i+1+D<=127
  .rw[jh r _ h1];exact Oi.nil A
  have h2:(Ta q sub p j i).1=0:=(by refine L8 λc=> ?_;rw[nj c (Nat.le_succ i)] at J;exact c J);have hle:(i+1+D-128)*c<=D*c:=c_ _ Z';have W:=Qz A R F r G L hc Q o f i Z' h2;have l:=L i Z' h2;have w:i+D<=127->Ta q sub p j i=(0,[]):=jh r i;have hmul:¬i+D<=127->(i+1+D-128)*c=(i+D-128)*c+c:=λh=>by rw[show i+1+D-128=(i+D-128)+1 by omega,H9]
  have M:(i+D-128)*c<=(i+1+D-128)*c:=c_ _ Z';rw[zi] at J |-;unfold wh at J |-;rw[Q' (λh=>h h2)] at J |-;by_cases X:(Ta q sub p j i).2.length=0/\(Oa p j (127-i)).length=0
  .rw[P' X];exact W.mono Z'
  rw[Q' X] at J |-;by_cases Y:Ef (Ta q sub p j i).2 q≠0
  .rw[P' Y] at J;exact absurd J Y
  rw[Q' Y] at J |-;by_cases d:(sub (Oa p j (127-i))).1≠0
  .rw[P' d] at J;exact absurd J d
  rw[Q' d] at J |-;by_cases H:Bf (oa (Jb (Ta q sub p j i).2 q)++(sub (Oa p j (127-i))).2)≠0
  .rw[P' H] at J;exact absurd J H
  rw[Q' H];obtain⟨m,u⟩:=G (127-i) Z';obtain⟨f1,f2,f3,f4⟩:=Gb W.e;obtain⟨g1,g2,x,g4⟩:=Gb m.e;by_cases g:i+D<=127
  .rw[w g];have hl:(oa (Jb [] q)++(sub (Oa p j (127-i))).2).length<=N:=u;refine(Gl (k:=B) (n:=N) A (λt S=>x t S) (λt S=>m.ok t S) (λt S=>m.sz t S) hl Z' Z').mono Z'
  have S:=(Uj (p:=(Ta q sub p j i).2) (q:=q) Z');have hpl:(Jb (Ta q sub p j i).2 q).length<=N*T:=by rw[ij];exact G9 l F
  have hm:=hmul g;rw[hm] at hle |-;generalize (i+D-128)*c=y at*;generalize D*c=z at*;have s:=Nq W.ok R.ok Z';have C:=Cj (k:=B+y+N+K) (j:=B+y+N+K+N*T) s Z' Z';have hg2:=Vb (Jb (Ta q sub p j i).2 q);have E:∀{P:TR->Prop},(∀t∈oa (Jb (Ta q sub p j i).2 q),P t)->(∀t∈(sub (Oa p j (127-i))).2,P t)->∀t∈oa (Jb (Ta q sub p j i).2 q)++(sub (Oa p j (127-i))).2,P t:=λa b t S=>(O_.1 S).elim (a t) (b t);refine⟨Ce A (Kr Z') (E (Pl (Qn f3 S.2.1)) x),Cj (k:=B+y+N+K+N*T) (E C (m.ok.mono Z')) (by rw[y'];omega) Z',Nl (E (gE W.ok R.ok R.sz Z' Z').2 m.sz)⟩
def LP{v T c:Nat}(A:v<=12)(D:Nat->Nat)(hN:ea ((List.range v).map D)<=N)(hc:K+N*T+(N*T+N)<=c)(hc2:c<=100000)(W:N<=4096):∀(Q:List (List TR))(j:Nat)(p:List TR)(ds:List Nat)(k:Nat),(∀(i:Nat)(q:List TR),Q[i]?=some q->Oi v K q/\q.length<=T/\Uk (λx=>if x=j+i then 1 else 0) q)->ug k p->ds.length=Q.length->(∀(i d:Nat),ds[i]?=some d->D (j+i)=d)->(∀t∈p,∀i,i<Q.length->fg (j+i) t<=D (j+i))->k+1+(ds.sum+ds.length)*c<=400000->(ye v Q j p).1=0->Oi v (k+1+(ds.sum+ds.length)*c) (ye v Q j p).2/\(ye v Q j p).2.length<=N:=by
 intro Q
 induction Q with
 |nil=>
  intro j p ds k _ y F _ _ L _;obtain rfl:ds=[]:=I7.1 F;have h1:Oi v (k+1) (ye v [] j p).2:=(by refine kt (jg A) ?_ Z';exact acx);refine⟨h1.mono (Nat.le_add_right _ _),d' (yq h1.e (B:=λ_=>0) (Iw v _).oa) (d' ?_ hN)⟩;have e:∀(f:Nat->Nat)(l:List Nat),ea (l.map λ_=>0)<=ea (l.map f):=λf l=>by
   induction l with
   |nil=>exact E' _
   |cons x l ih=>exact G9 (Nat.succ_le_succ (J' _)) ih
  exact e D _
 |cons q Q ih=>
  intro j p ds k hq y F b hp L J
  cases ds with
  |nil=>cases F
  |cons d ds=>
   have u:D j=d:=b 0 d rfl;obtain⟨hq1,hq2,z⟩:=hq 0 q rfl;rw[I9] at z;rw[Z6,T_] at L |-;have R:(d+ds.sum+(ds.length+1))*c=(ds.sum+ds.length)*c+d*c+c:=by rw[show d+ds.sum+(ds.length+1)=(ds.sum+ds.length)+d+1 by omega,I8,I8,C8]
   rw[R] at L |-;have hNc:N<=c:=Z';have w:∀n,∀t∈Oa p j n,∀i,i<Q.length->fg (j+1+i) t<=D (j+1+i):=λn t S i hi=>(by exact aec);have g:∀n,(ye v Q (j+1) (Oa p j n)).1=0->Oi v (k+1+(ds.sum+ds.length)*c) (ye v Q (j+1) (Oa p j n)).2/\(ye v Q (j+1) (Oa p j n)).2.length<=N:=λn hn=>by
    refine ih (j+1) (Oa p j n) ds k (λi r hr=> ?_) (λt S=>y t (Ih t S)) (by simpa using F) (λi e he=> ?_) (w n) Z' hn
    .have:=hq (i+1) r (by simpa using hr);rwa[show j+1+i=j+(i+1) by omega]
    have:=b (i+1) e (by simpa using he);rwa[show j+1+i=j+(i+1) by omega]
   have a:∀n,(ye v Q (j+1) (Oa p j n)).1=0->Uk (λx=>if j+1<=x/\x<j+1+Q.length then D x else 0) (ye v Q (j+1) (Oa p j n)).2:=λn hn=>qB Q (j+1) (Oa p j n) D (λi r hr=>by
    have:=(hq (i+1) r (by simpa using hr)).2.2;rwa[show j+1+i=j+(i+1) by omega]) (w n) hn
   have s:∀t∈p,fg j t<=d:=λt S=>by rw[<-u];exact hp t S 0 (by rw[T_];omega)
   rw[zt] at J |-;generalize ye v Q (j+1)=sub at g a J |-;have P:∀i,i<=128->(Ta q sub p j i).1=0->vf (v:Int) (Ta q sub p j i).2=0:=λi hi o=>by
    induction i with
    |zero=>exact(Oi.nil (k:=0) (jg A)).e
    |succ i ihi=>
     have h2:(Ta q sub p j i).1=0:=(by refine L8 λc=> ?_;rw[nj c (Nat.le_succ i)] at o;exact c o);have e0:=ihi Z' h2;rw[zi] at o |-;unfold wh at o |-;rw[Q' (λh=>h h2)] at o |-;by_cases c1:(Ta q sub p j i).2.length=0/\(Oa p j (127-i)).length=0
     .rw[P' c1];exact e0
     rw[Q' c1] at o |-;by_cases Y:Ef (Ta q sub p j i).2 q≠0
     .rw[P' Y] at o;exact absurd o Y
     rw[Q' Y] at o |-;by_cases G:(sub (Oa p j (127-i))).1≠0
     .rw[P' G] at o;exact absurd o G
     rw[Q' G] at o |-;by_cases H:Bf (oa (Jb (Ta q sub p j i).2 q)++(sub (Oa p j (127-i))).2)≠0
     .rw[P' H] at o;exact absurd o H
     rw[Q' H];refine Ce (jg A) (Kr Z') λt S=>(O_.1 S).elim (Pl (Qn (Gb e0).2.2.1 (Uj Z').2.1) t) ((Gb (g _ Z').1.e).2.2.1 t)
   have X:=Dr z s (E:=λx=>if j+1<=x/\x<j+1+Q.length then D x else 0) (by rw[Q' Z']) a;have M:∀i,i<=128->(Ta q sub p j i).1=0->(Ta q sub p j i).2.length<=N:=λi hi o=>by
    refine d' (yq (P i hi o) ((X i hi o).mono (C:=D) λx=> ?_)) hN;by_cases hx:x=j
    .rw[P' hx,hx,u];omega
    rw[Q' hx];split
    .exact E' _
    exact J' _
   have e:∀m,m=128->(Ta q sub p j m).1=0->Oi v (k+1+((ds.sum+ds.length)*c+d*c+c)) (Ta q sub p j m).2/\(Ta q sub p j m).2.length<=N:=λm hm o=>(by have h3:=Qz (jg A) hq1 hq2 s g M hc Z' hc2 W m Z' o;rw[show m+d-128=d by omega] at h3;exact⟨h3.mono Z',M m Z' o⟩);exact e 128 rfl J
def qH{d a:Nat}(t)(h:a<=d):sm (List.range (d+1)) (λr=>mg d 1 1 a r*Mi d r t)=t^a:=by
 have S:(λr=>mg d 1 1 a r*Mi d r t)=λk=>if k<a then 0 else(λj=>nD (bin (d-a) j)*Mi d (j+a) t) (k-a):=funext λk=>by
  unfold mg;by_cases u:k<a
  .rw[P' u,P' u,Dyadic.zero_mul]
  rw[Q' u,Q' u,mi,mi];show nD (bin (d-a) (k-a))*1*1*Mi d k t=nD (bin (d-a) (k-a))*Mi d (k-a+a) t;rw[Nat.sub_add_cancel Z'];grind
 have F:=TZ (d-a) t (1-t);rw[show t+(1-t)=1 by grind,mi] at F;rw[S,ad8 d a h λj=>nD (bin (d-a) j)*Mi d (j+a) t];have N:∀j,j∈List.range (d-a+1)->nD (bin (d-a) j)*Mi d (j+a) t=t^a*(nD (bin (d-a) j)*t^j*(1-t)^(d-a-j)):=λj hj=>(by have:=S_.1 hj;unfold Mi;rw[show d-(j+a)=d-a-j by omega,jo];grind);rw[Ua N,Vh,F];grind
def MQ:∀(ds s:List Nat)(ts:List Dyadic),ph ds s->ts.length=ds.length->sm (List.range (ea ds)) (λp=>wK 0 ds s (Ya ds p)*Yi ds (Ya ds p) ts)=Og s ts
 |[],[],[],_,_=>by show(1:Dyadic)*1+0=1;grind
 |[],_::_,_,h,_=>by cases h
 |_::_,[],_,h,_=>by cases h
 |[],[],_::_,_,h=>by cases h
 |_::_,_::_,[],_,h=>by cases h
 |d::ds,a::s,t::ts,h1,h2=>(by have W:=MQ ds s ts h1.2 (by simpa using h2);rw[nB,Og,<-W,<-qH t h1.1,<-Vh];refine Ua λq _=> ?_;rw[<-ik];refine Ua λr H=> ?_;have G:=S_.1 H;rw[Ya,W8,E_ G,K9 _ _ Z',s_ G,U_,Yi];show mg d 1 1 a r*wK 0 ds s (Ya ds q)*_=_;grind)
variable {b:List SR}
def Ps:∀(s:List Nat)(ts:List Dyadic)(a:Nat)(t:Dyadic),s.length=ts.length->Og (s++[a]) (ts++[t])=Og s ts*t^a
 |[],[],a,t,_=>by show t^a*1=1*t^a;grind
 |[],_::_,_,_,h=>by cases h
 |_::_,[],_,_,h=>by cases h
 |b::s,u::ts,a,t,h=>(by show u^b*Og (s++[a]) (ts++[t])=u^b*Og s ts*t^a;rw[Ps s ts a t (by simpa using h)];grind)
def TD:∀(s:List Nat)(ts:List Dyadic),s.length=ts.length->Og s.reverse ts.reverse=Og s ts
 |[],[],_=>rfl
 |[],_::_,h=>by cases h
 |_::_,[],h=>by cases h
 |b::s,u::ts,h=>(by rw[m8,m8,Ps _ _ _ _ (by simpa using h),TD s ts (by simpa using h),Og];grind)
def abB{ns:List Nat}{S:List TR}{ts:List Dyadic}(J:∀t∈S,ph ns.reverse (Ac t.m).reverse)(a:ts.length=ns.length):sf ns.reverse (An ns S) ts=di ts.reverse S:=by
 unfold sf;have N:sm (List.range (ea ns.reverse)) (λp=>((An ns S)[p]?).getD 0*Yi ns.reverse (Ya ns.reverse p) ts)=sm (List.range (ea ns.reverse)) λp=>sm S λt=>t.c.da*(wK 0 ns.reverse (Ac t.m).reverse (Ya ns.reverse p)*Yi ns.reverse (Ya ns.reverse p) ts):=Ua λp hp=>(by unfold An;rw[z',f_ (S_.1 hp)];show wS _ S*_=_;rw[nL,<-ik];exact Ua λt _=>by grind);rw[N,Tq];unfold di;rw[nL];refine Ua λt h=> ?_;rw[Vh,MQ _ _ _ (J t h) (by rw[F_];exact a)];have Q:=bo (J t h);rw[F_,F_] at Q;have:=TD (Ac t.m).reverse ts (by rw[F_,Q,a]);rw[U6] at this;rw[this]
def wX(f:ByteArray->Dyadic)(c)(l:List TR):wS f (l.map (vp c))=wS f l*c:=by
 induction l with
 |nil=>exact(Dyadic.zero_mul _).symm
 |cons t l W=>
  rw[I_,wS,wS,W];show(nR (t.c.da*c)).da*f t.m+_=_;rw[Ga];grind
variable {xs:List Dyadic}
def AD:∀(v i:Nat)(xs:List Dyadic),xs.length=v->i<v->Og (((List.replicate v 0).set i 1)) xs=(xs[i]?).getD 0
 |0,_,_,_,h=>absurd h (Nat.not_lt_zero _)
 |v+1,i,[],h,_=>by cases h
 |v+1,0,x::xs,h,_=>(by show x^1*Og (List.replicate v 0) xs=x;rw[Sn];grind)
 |v+1,i+1,x::xs,h,hi=>(by show x^0*Og ((List.replicate v 0).set i 1) xs=(xs[i]?).getD 0;rw[AD v i xs (by simpa using h) Z',D7];grind)
def tS(v i:Nat):Ac (Rk v i)=(List.replicate v 0).set i 1:=by
 unfold Ac Rk;show((((List.replicate (v:Int).toNat (0:UInt8)).set i 1).toArray).toList).map UInt8.toNat=_;rw[List.toList_toArray,B9,List.map_replicate];rfl
def ON(v:Nat):Ac (we v)=List.replicate v 0:=by
 unfold Ac we;show(((List.replicate (v:Int).toNat (0:UInt8)).toArray).toList).map UInt8.toNat=_;rw[List.toList_toArray,List.map_replicate];rfl
variable {C:Nat}
def uS{v i:Nat}{s:SR}(C:xs.length=v)(hi:i<v):di xs (lh v i s)=s.Tf+(s.Vi-s.Tf)*(xs[i]?).getD 0:=by
 unfold lh Nt Wx QC;rw[Bi,xp,Bi,Bi];have N:di xs [⟨we v,nR s.Tf⟩]=s.Tf:=(by show(nR s.Tf).da*Og (Ac (we v)) xs+0=_;rw[Ga,ON,Sn];grind);have a:di xs ((oa [⟨Rk v i,nR ((1:Int):Dyadic)⟩]).map (vp (s.Vi-s.Tf)))=(xs[i]?).getD 0*(s.Vi-s.Tf):=(by unfold di;rw[wX,Ht];show((nR ((1:Int):Dyadic)).da*Og (Ac (Rk v i)) xs+0)*_=_;rw[Ga,tS,AD v i xs C hi,show(((1:Int):Dyadic))=1 from rfl];grind);rw[N,a];grind
def Vy(b:List SR)(xs:List Dyadic):List Dyadic:=b.mapIdx λi s=>s.Tf+(s.Vi-s.Tf)*(xs[i]?).getD 0
def SN(C:xs.length=b.length):(Na b).map (λg=>di xs g.ts)=Vy b xs:=by
 refine g_ λi=> ?_;unfold Vy;rw[z',Y9]
 cases K:b[i]? with
 |none=>
  rw[K_ (by rw[ri];exact Y5.1 K)];rfl
 |some s=>
  rw[cg K];show some (di xs (lh b.length i s))=some _;rw[uS C (x'.1 K).1]
def eW{p:PX}(J:(Sc p (Na b)).1=0)(C:xs.length=b.length):di xs (Sc p (Na b)).2=di (Vy b xs) p.ts:=by
 rw[ab0 J,SN C]
def EO{p:PX}{ns:List Nat}{s:Nat}(h:bt p b ns)(W:ug k p.ts)(F:∀z∈b,z.fin k)(C:k<=1000)(L:ea (Tb p.v p.ts)<=N)(y:N<=1000)(D:(Tb p.v p.ts).sum<=s)(E:k+1+(s+12)*(k+k+10+5*N)<=400000)(J:(Sc p (Na b)).1=0):
  Oi b.length (k+1+(s+12)*(k+k+10+5*N)) (Sc p (Na b)).2/\(Sc p (Na b)).2.length<=N:=by
 have Q:=h.Kp;have A:=h.pos;have m:=ri b;obtain⟨_,G,Y⟩:=Xi h.e;have r:=h.dm;have n:Uf (Na b)=b.length:=(by obtain⟨z,o⟩:=aa (l:=b) (k:=0) Z';rw[Tk (cg o)]);unfold Sc at J |-;rw[Q' (λc=>c h.e),Q' (by rw[m,h.v];exact λc=>c rfl)] at J |-;by_cases j:(Na b).length≠0/\Qf (Na b)≠0
 .rw[P' j] at J;exact absurd J j.2
 rw[Q' j,n] at J |-;have x:(List.range b.length).map (λi=>((Tb p.v p.ts)[i]?).getD 0)=Tb p.v p.ts:=by
  refine g_ λi=> ?_;rw[z'];by_cases hi:i<b.length
  .obtain⟨d,a⟩:=aa (l:=Tb p.v p.ts) (k:=i) Z';rw[f_ hi,a];show some (((Tb p.v p.ts)[i]?).getD 0)=some d;rw[a];rfl
  exact acX
 have B:((Tb p.v p.ts).sum+(Tb p.v p.ts).length)*(k+k+10+5*N)<=(s+12)*(k+k+10+5*N):=c_ _ Z';have h1:=LP (K:=k+k+10) (T:=2) (c:=k+k+10+5*N) (N:=N) Q (λi=>((Tb p.v p.ts)[i]?).getD 0) (by rw[x];exact L) Z' Z' Z' ((Na b).map PX.ts) 0 p.ts (Tb p.v p.ts) k (λi q R=> ?_) W (by rw[D',m,r]) (λi d a=>by rw[U_,a];rfl) (λt S i hi=> ?_) Z' J
 .exact⟨h1.1.mono Z',h1.2⟩
 .rw[z'] at R;obtain⟨g,f,rfl⟩:=y9.1 R;obtain⟨z,o⟩:=aa (l:=b) (k:=i) (by have:=(x'.1 f).1;rwa[m] at this);rw[cg o] at f;rw[<-i' f,U_];obtain⟨u,w⟩:=Lk (v:=b.length) (i:=i) Q (F z (N' o)) Z';exact⟨u,w,Ns _ i z⟩
 rw[D',m] at hi;rw[U_];obtain⟨d,a⟩:=aa (l:=Tb p.v p.ts) (k:=i) Z';rw[a];exact(Y i d a).2.1 t S
def NK:∀(ds:List Nat),(∀d∈ds,d<=5)->2^ds.sum<=ea ds*ea ds
 |[],_=>E' _
 |d::ds,h=>by
  have h1:=NK ds λx C=>h x (L' _ C);have h2:=h d I';have G:2^d<=(d+1)*(d+1):=by
   match d,h2 with
   |0,_=>decide
   |1,_=>decide
   |2,_=>decide
   |3,_=>decide
   |4,_=>decide
   |5,_=>decide
  rw[Z6,R_,ea];have:=G9 G h1
  calc 2^d*2^ds.sum<=(d+1)*(d+1)*(ea ds*ea ds):=this
   _=(d+1)*ea ds*((d+1)*ea ds):=by rw[Nat.mul_mul_mul_comm]
def SQ{ds:List Nat}{s:Nat}(h:∀d∈ds,d<=5)(E:ea ds<=C)(K:C*C<2^(s+1)):ds.sum<=s:=by
 have h1:=NK ds h;have h2:=G9 E E;have G:2^ds.sum<2^(s+1):=Z';have:=(Nat.pow_lt_pow_iff_right (by decide:1<2)).1 G;omega
def pz(c k:Nat):∀ds:List Nat,He c ds k=k+ds.sum*c+ds.length*8192
 |[]=>by rw[Ts];simp
 |d::ds=>(by rw[Cp,pz c k ds,Z6,T_,I8,H9];omega)
def E0{ns:List Nat}{S:List TR}(J:∀t∈S,ph ns.reverse (Ac t.m).reverse)(u:ug k S)(T:∀d∈ns,d<=127):∀x∈An ns S,Sz (k+S.length+520*ns.length) x:=by
 rw[<-lE J];exact kI (aaa u) (λd h=>T d (y8.1 h)) ns.length
def yN{v:Int}{a b:TR}(M:Qd v a=true)(F:Qd v b=true)(h:∀i,fg i a+fg i b<=127):kn a.m b.m=0:=by
 unfold Qd at M F;rw[l',h'] at M F;have Q:b.m.data.toList.length=a.m.data.toList.length:=by rw[<-Hc,<-Hc];omega
 unfold kn;rw[YJ M.1 F.1 Q];rw[L_];intro z o;obtain⟨i,hi⟩:=C_.1 o;rw[n9] at hi
 cases C:(ints a.m.data.toList)[i]? with
 |none=>rw[C] at hi;cases hi
 |some x=>
  cases hy:(ints b.m.data.toList)[i]? with
  |none=>rw[C,hy] at hi;cases hi
  |some y=>
   rw[C,hy] at hi;have e:x+y=z:=i' hi;unfold ints at C hy;rw[z'] at C hy;obtain⟨c,E,rfl⟩:=y9.1 C;obtain⟨d,T,rfl⟩:=y9.1 hy;have:=h i;rw[Km E,Km T] at this;unfold zd;rw[<-e,l',h',h'];omega
def KA{v:Nat}{q p:List TR}{sub:List TR->Int×List TR}{j d N T:Nat}{E:Nat->Nat}(A:v<=12)(R:vf v q=0)(h:q.length<=T)(l:Uk (λx=>if x=j then 1 else 0) q)(b:∀t∈p,fg j t<=d)(u:E j=0)(z:d<=127)(a:∀x,E x<=127) (K:∀n,(sub (Oa p j n)).1=0/\vf v (sub (Oa p j n)).2=0/\Uk E (sub (Oa p j n)).2)(L:ea ((List.range v).map λx=>if x=j then d else E x)<=N)(f:N*T+N<=4096):
  ∀i,i<=128->(Ta q sub p j i).1=0/\vf v (Ta q sub p j i).2=0
 |0,_=>⟨rfl,(Oi.nil (k:=0) (jg A)).e⟩
 |i+1,hi=>by
  obtain⟨h1,h2⟩:=KA A R h l b u z a K L f i Z';have s:=Dr l b u (λn _=>(K n).2.2) i Z' h1;have Q:(Ta q sub p j i).2.length<=N:=d' (yq h2 (s.mono λx=>by
   by_cases C:x=j
   .rw[P' C,P' C];omega
   rw[Q' C,Q' C];exact E' _)) L
  have F:∀n,(sub (Oa p j n)).2.length<=N:=λn=>d' (yq (K n).2.1 ((K n).2.2.mono λx=>by
   by_cases C:x=j
   .rw[P' C,C,u];exact J' _
   rw[Q' C];exact E' _)) L
  obtain⟨f1,f2,f3,f4⟩:=Gb h2;obtain⟨P,W,G,q4⟩:=Gb R;have D:(Jb (Ta q sub p j i).2 q).length<=N*T:=by rw[ij];exact G9 Q h
  have m:∀e∈Qt (Ta q sub p j i).2 q,e=0:=λe he=>by
   by_cases g:i+d<=127
   .rw[jh b i g] at he
    cases he
   obtain⟨x,C,he⟩:=E8.1 he;obtain⟨y,hy,rfl⟩:=B'.1 he;refine yN (f3 x C) (G y hy) λr=> ?_;have J:=s x C r;have o:=l y hy r;have M:=a r;by_cases H:r=j
   .simp only[P' H] at J o;omega
   simp only[Q' H] at J o;omega
  have Y:Ef (Ta q sub p j i).2 q=0:=(by rw[zD (by rw[<-ij];omega) m,fm Z']);obtain⟨s1,s2,s3⟩:=K (127-i);have B:=Vb (Jb (Ta q sub p j i).2 q);have w:Bf (oa (Jb (Ta q sub p j i).2 q)++(sub (Oa p j (127-i))).2)=0:=fm (by rw[y'];have:=F (127-i);omega);rw[zi];unfold wh;rw[Q' (λc=>c h1)];by_cases X:(Ta q sub p j i).2.length=0/\(Oa p j (127-i)).length=0
  .rw[P' X];exact⟨h1,h2⟩
  rw[Q' X,Q' (λc=>c Y),Q' (λc=>c s1),Q' (λc=>c w)];refine⟨rfl,Ce (jg A) (Kr w) λt S=>(O_.1 S).elim (Pl (Qn f3 m) t) ((Gb s2).2.2.1 t)⟩
def lP{f g:Nat->Nat}(l:List Nat)(h:∀x,f x<=g x):ea (l.map f)<=ea (l.map g):=by
 induction l with
 |nil=>exact E' _
 |cons x l W=>exact G9 (Nat.succ_le_succ (h x)) W
def WE{v N T:Nat}(A:v<=12)(D:Nat->Nat)(c:∀x,D x<=127)(L:ea ((List.range v).map D)<=N)(a:N*T+N<=4096):∀(Q:List (List TR))(j:Nat)(p:List TR),(∀(i:Nat)(q:List TR),Q[i]?=some q->vf v q=0/\q.length<=T/\Uk (λx=>if x=j+i then 1 else 0) q)->(∀t∈p,∀i,i<Q.length->fg (j+i) t<=D (j+i))->(ye v Q j p).1=0/\vf v (ye v Q j p).2=0
 |[],j,p,_,_=>⟨rfl,Ce (jg A) (d' (Vb _) (by show 1<=4096;decide)) λt S=>by
   rw[q'.1 S];unfold Qd;rw[l',h'];exact⟨Mt v,Yk Z'⟩⟩
 |q::Q,j,p,R,hp=>by
  obtain⟨k,f,e⟩:=R 0 q rfl;rw[I9] at e;have w:∀n,∀t∈Oa p j n,∀i,i<Q.length->fg (j+1+i) t<=D (j+1+i):=λn t S i hi=>(by have:=hp t (Ih t S) (i+1) (by rw[T_];omega);rwa[show j+1+i=j+(i+1) by omega]);have C:∀(i:Nat)(r:List TR),Q[i]?=some r->vf v r=0/\r.length<=T/\Uk (λx=>if x=j+1+i then 1 else 0) r:=λi r H=>(by have:=R (i+1) r (by simpa using H);rwa[show j+1+i=j+(i+1) by omega]);have K:∀n,(ye v Q (j+1) (Oa p j n)).1=0/\vf v (ye v Q (j+1) (Oa p j n)).2=0/\Uk (λx=>if j+1<=x/\x<j+1+Q.length then D x else 0) (ye v Q (j+1) (Oa p j n)).2:=λn=>(by obtain⟨J,o⟩:=WE A D c L a Q (j+1) (Oa p j n) C (w n);exact⟨J,o,qB Q (j+1) (Oa p j n) D (λi r H=>(C i r H).2.2) (w n) J⟩);rw[zt];exact KA (d:=D j) (E:=λx=>if j+1<=x/\x<j+1+Q.length then D x else 0) A k f e (λt S=>hp t S 0 (by rw[T_];omega)) (by rw[Q' Z']) (c j) (λx=>by
   split
   .exact c x
   .exact J' _) K (d' (lP _ λx=>by
   by_cases b:x=j
   .rw[P' b,b];exact E' _
   rw[Q' b];split
   .exact E' _
   exact J' _) L) a 128 (E' _)
variable {ls:List PX}
def NO{p:PX}{ds:List Nat}{v T:Nat}(A:v<=12)(J:p.e=0)(u:p.v=(ls.length:Int))(B:0<ls.length)(Q:ds.length=v)(r:ls.length=v)(F:∀(i:Nat)(g:PX),ls[i]?=some g->g.v=(v:Int)/\vf v g.ts=0/\g.ts.length<=T/\Uk (λx=>if x=i then 1 else 0) g.ts) (n:∀(i d:Nat),ds[i]?=some d->d<=127/\∀t∈p.ts,fg i t<=d)(L:ea ds<=N)(a:N*T+N<=4096):(Sc p ls).1=0/\vf v (Sc p ls).2=0:=by
 have E:ls≠[]:=λe=>by rw[e] at B;exact absurd B V'
 have M:∀g∈ls,g.v=(v:Int)/\vf v g.ts=0:=λg s=>(by obtain⟨i,hi⟩:=C_.1 s;exact⟨(F i g hi).1,(F i g hi).2.1⟩);have j:Qf ls=0:=HN (v:=v) E (λg s=>by unfold PX.e;rw[(M g s).1];exact(M g s).2) λg s=>(M g s).1;have f:Uf ls=v:=(by obtain⟨g,s⟩:=aa (l:=ls) (k:=0) B;rw[Tk s];exact(F 0 g s).1);unfold Sc;rw[Q' (λc=>c J),Q' Z',Q' (λc=>c.2 j),f];have m:∀i,ds.getD i 0<=127:=λi=>by
  rw[X9]
  cases h:ds[i]? with
  |none=>exact J' _
  |some d=>exact(n i d h).1
 have o:(List.range v).map (λi=>ds.getD i 0)=ds:=by
  refine g_ λi=> ?_;rw[z'];by_cases hi:i<v
  .obtain⟨d,b⟩:=aa (l:=ds) (k:=i) Z';rw[f_ hi,b];show some (ds.getD i 0)=some d;rw[X9,b];rfl
  exact acX
 refine WE A (λi=>ds.getD i 0) m (by rw[o];exact L) a (ls.map PX.ts) 0 p.ts (λi q R=> ?_) λt S i hi=> ?_
 .rw[z'] at R;obtain⟨g,s,rfl⟩:=y9.1 R;rw[U_];exact(F i g s).2
 rw[D'] at hi;rw[U_];obtain⟨d,b⟩:=aa (l:=ds) (k:=i) Z';rw[X9,b];exact(n i d b).2 t S
def UT{p:PX}{ns:List Nat}(h:bt p b ns)(F:∀z∈b,z.fin k)(u:k<=1000)(L:ea (Tb p.v p.ts)<=N)(a:N*2+N<=4096):(Sc p (Na b)).1=0:=by
 have Q:=h.Kp;have A:=h.pos;have m:=ri b;obtain⟨_,j,Y⟩:=Xi h.e;have n:=h.dm;refine(NO (v:=b.length) (ds:=Tb p.v p.ts) (T:=2) Q h.e (by rw[m];exact h.v) Z' n m (λi g s=> ?_) (λi d c=>⟨(Y i d c).1,(Y i d c).2.1⟩) L a).1;obtain⟨z,o⟩:=aa (l:=b) (k:=i) (by have:=(x'.1 s).1;rwa[m] at this);rw[cg o] at s;obtain⟨J,f⟩:=Lk (v:=b.length) (i:=i) Q (F z (N' o)) Z';have C:=Ns b.length i z;rw[<-i' s];exact⟨rfl,J.e,f,C⟩
def Kv(ns):(Ha ns).map Int.toNat=ns:=Bh ns
def rG{t:TR}{B:Nat}(h:∀c∈t.m.data.toList,c.toNat<=B)(i:Nat):im t.m i<=B:=by
 unfold im
 cases he:t.m.data.toList[i]? with
 |none=>exact G7 B
 |some e=>have:=h e (N' he);show((e.toNat:Nat):Int)<=B;omega
def kC{v:Int}{B:Nat}(h:vf v ts=0)(F:∀t∈ts,∀c∈t.m.data.toList,c.toNat<=B):∀d∈Tb v ts,d<=B:=λd T=>by
 obtain⟨i,hi⟩:=C_.1 T;have h1:=((Xi h).2.2 i d hi).2.2;have h2:=(WK (l:=ts) (i:=i) (B:=(B:Int)) (G7 B) λt S=>rG (F t S) i).2;omega
structure SmB(p:PX)(b:List SR)(C s:Nat):Prop where
 n:p.ts.length<=8
 ok:ug 124 p.ts
 sz:∀t∈p.ts,t.m.size<=20
 ex:∀t∈p.ts,∀c∈t.m.data.toList,c.toNat<=4
 box:∀z∈b,z.fin 124
 nK:p.e=0->ea (Tb p.v p.ts)<=C
 uZ:C*C<2^(s+1)
def uz{v:Int}{ns:List Nat}(h:vf v ts=0)(Q:(Tb v ts).length=ns.length)(C:∀(i d:Nat),ns[i]?=some d->∀t∈ts,fg i t<=d):∀(i x y:Nat),(Tb v ts)[i]?=some x->ns[i]?=some y->x<=y:=λi x y h1 h2=>by
 have G:=((Xi h).2.2 i x h1).2.2;have z:=(WK (l:=ts) (i:=i) (B:=(y:Int)) (G7 y) λt S=>by rw[<-ZD];have:=C i y h2 t S;omega).2;omega
def aaz{s:PX}{ns:List Nat}(he:s.e=0)(a:Ok b=0)(A:s.v=b.length)(w:ns.length=b.length)(g:∀d∈ns,d<=127)(hm:ea ns<=4096)(C:∀(i d:Nat),ns[i]?=some d->∀t∈s.ts,fg i t<=d):Il s b (Ha ns)=0:=by
 obtain⟨M,f,Y⟩:=Xi he;have B:=Ti ns 1 (E' _) V' g;rw[C8,P' hm] at B;replace B:Ng 1 (Ha ns)=((ea ns:Nat):Int):=B;have hp:=Pb ns;have l:dw (Jy s.v s.ts) (Ha ns)=false:=(by unfold dw;rw[E9];intro q R;obtain⟨i,hi⟩:=C_.1 R;obtain⟨h1,h2⟩:=T7.1 hi;rw[M] at h1;unfold Ha at h1 h2;rw[z'] at h1 h2;obtain⟨x,F,N⟩:=y9.1 h1;obtain⟨y,W,L⟩:=y9.1 h2;have G:=uz he Z' C i x y F W;have z:=g y (N' W);rw[h',<-N,<-L];omega);unfold Il;rw[Q' (λc=>c he),Q' (λc=>c a),Q' (by rw[Ub];omega),l,Q' V',B,Q' Z']
def abz{s:PX}{ns:List Nat}(he:s.e=0)(a:Ok b=0)(A:0<b.length)(f:s.v=b.length)(w:ns.length=b.length)(g:∀d∈ns,d<=127)(hm:ea ns<=1000)(C:∀(i d:Nat),ns[i]?=some d->∀t∈s.ts,fg i t<=d)(F:∀z∈b,z.fin k)(u:k<=1000):
  eg s b (Ha ns)=0/\bt s b ns/\(Sc s (Na b)).1=0:=by
 have h1:=aaz he a f w g Z' C;have P:=(uC h1).2;rw[Kv] at P;have h2:=UT (N:=1000) P F u (d' (Xs (by rw[P.dm,w]) (uz he (by rw[P.dm,w]) C)) hm) V';have r:Ml s (Ha ns)=Ha ns:=Q' (by rw[Ub];omega);refine⟨?_,P,h2⟩;unfold eg;rw[r,Q' (λc=>c h1),h2]
def jA{v:Int}(h:vf v ts=0)(hex:∀t∈ts,∀c∈t.m.data.toList,c.toNat<=4)(E:ea (Tb v ts)<=100)(u:k<=1000):He (k+k+16394) (Tb v ts) (k+1)<=440000:=by
 have h1:(Tb v ts).sum<=13:=SQ (λd T=>by have:=kC h hex d T;omega) E V';have h2:=(Xi h).2.1;have G:=(Xe.1 (Gb h).1).2;rw[pz];have z:(Tb v ts).sum*(k+k+16394)<=13*(1000+1000+16394):=G9 h1 Z';have P:(Tb v ts).length*8192<=12*8192:=c_ _ Z';omega
def aaP{p:PX}{ns:List Nat}{ts:List Dyadic}(P:bt p b ns)(J:(Sc p (Na b)).1=0)(G:∀t∈(Sc p (Na b)).2,ph ns.reverse (Ac t.m).reverse)(S:ts.length=ns.length):sf ns.reverse (An ns (Sc p (Na b)).2) ts=di (Vy b ts.reverse) p.ts:=by
 rw[abB G S,eW J (by rw[F_,S,P.nl])]
structure ahE(p:PX):Prop where
 n:p.ts.length<=8
 ok:ug 124 p.ts
 ex:∀t∈p.ts,t.m.size<=20/\∀c∈t.m.data.toList,c.toNat<=4
structure NQ(p:PX)(b:List SR)(ns:List Nat):Prop where
 vl:∀ts:List Dyadic,ts.length=ns.length->sf ns.reverse (An ns (Sc p (Na b)).2) ts=di (Vy b ts.reverse) p.ts
 sz:∀x∈An ns (Sc p (Na b)).2,Sz 460000 x
def YV{p:PX}{ns:List Nat}(P:bt p b ns)(J:(Sc p (Na b)).1=0)(W:ug k p.ts)(F:∀s∈b,s.fin k)(u:k<=1000)(T:He (k+k+16394) (Tb p.v p.ts) (k+1)<=440000):NQ p b ns:=by
 obtain⟨h1,h2⟩:=qt P W F u T J;refine⟨λts S=>aaP P J h2 S,λx C=>(E0 h2 h1.ok P.low x C).mono ?_⟩;have G:=(Gb h1.e).2.1;have z:=P.nl;have a:=P.Kp;omega
structure ahi(p q s o:PX)(b:List SR)(ns:List Nat)(c:Dyadic):Prop where
 fit:bt p b ns
 nK:ea ns<=100
 es:eg s b (Ha ns)=0
 eo:eg o b (Ha ns)=0
 gs:om s.v 140 16 4 s.ts
 go:om o.v 125 1 0 o.ts
 ws:He (140+140+16394) (Tb s.v s.ts) (140+1)<=440000
 wo:He (140+140+16394) (Tb o.v o.ts) (140+1)<=440000
 sum:An ns (Sc s (Na b)).2=Kj (An ns (Sc p (Na b)).2) (An ns (Sc q (Na b)).2)
 con:An ns (Sc o (Na b)).2=((Wr ns).map nD).map λy=>c*y
 zp:∀x∈An ns (Sc p (Na b)).2,Sz 460000 x
 zq:∀x∈An ns (Sc q (Na b)).2,Sz 460000 x
def ahT(A:List Nat)(e:Nat)(X:List Dyadic):List Dyadic:=ado (adq (ea A) (e+1)) (dj A (e+1) (e+1) (ac6 (e+1)) X X.length 0) X.length
def ei(ap d t:Nat)(xs:List Dyadic)(i:Nat):List Dyadic:=((List.range i).filter λp=>decide (p/ap % (d+1)=t)).map λp=>(xs[p]?).getD 0
def kz(ap d t:Nat)(xs)(i:Nat):ei ap d t xs (i+1)=ei ap d t xs i++if i/ap % (d+1)=t then[(xs[i]?).getD 0] else[]:=by
 unfold ei;rw[A9,P7,G_];congr 1;by_cases h:i/ap % (d+1)=t
 .rw[P' h,List.filter_cons_of_pos (by rw[m' h])];rfl
 rw[Q' h,c6 (by rw[k' h];decide)];rfl
def YH(L:FX)(a d:Nat)(c:Nat)(k:Nat)(w:World)(hT:Gc w)(Y:L.at_ w)(hl:L.Ug k)(hcap:L.n<=L.a)(h0:L.e=0)(hd:L.ns[a]?=some d)(hsd:c=0\/c=1):Calls prog 122 #[.agg #[.slice L.A L.n L.a,.slice L.B L.m L.b],.int .i64 a,.int .i64 c] w λr V=>∃g:FX,g.ds=L.ds.eraseIdx a/\g.cs=(ei (ea (L.ns.drop (a+1))) d (d*c) (L.cs.map NR.da) L.m).map nR/\g.n<=100000/\g.m<=1000000/\r=.returned (.tuple #[.agg #[.slice g.A g.n g.a,.slice g.B g.m g.b],.int .i64 0])/\Hp w [g.gg,g.Kf] V:=by
 have I:=Hp.start w;obtain⟨M,y,h12,t,hcnt,hmax⟩:=FX.fv h0;have S:=Y.ln.1;have hlm:=Y.ln.2;have hnl:L.ns.length=L.n:=by unfold FX.ns;rw[D'];exact S
 have ha:=(x'.1 hd).1;have hd127:=t d (N' hd);have hE:Sm L (a:Int)=0:=by unfold Sm;rw[Q' Z',Q' Z']
 have s:=λZ hT1 hb=>Pv L (a:Int) k Z hT1 (Y.ext hb) hl;rw[hE] at s;have hdg:Sl w L.A L.n 1 (Pa (Ha L.ns)):=by rw[<-M];exact Y.dg
 have hof:=λZ hb=>Ir L.A L.n L.a a d L.ns Z (hdg.ext hb) hcap Z' hd t hmax;have hap:0<ea (L.ns.drop (a+1)):=Pb _;have p:(Pa L.ds)[a]?=some (.int .i64 (d:Int)):=by rw[M];exact Ic (ue hd)
 obtain⟨u,hAD,sD⟩:=Y.dg.at_ Z';have Qk:Value.slice L.A L.n L.a=.slice (some u) L.n L.a:=by rw[hAD]
 have hprod:(d:Int)*(c:Int)=((d*c:Nat):Int):=by rw[F9]
 have hpb:d*c<=127:=by obtain rfl|rfl:=hsd<;>omega
 have hap2:ea (L.ns.drop (a+1))<=4096:=by
  have h3:ea L.ns=ea (L.ns.take (a+1))*ea (L.ns.drop (a+1)):=by rw[<-Qc,q_]
  have:=Nat.le_mul_of_pos_left (ea (L.ns.drop (a+1))) (Pb (L.ns.take (a+1)));omega
 generalize ea (L.ns.drop (a+1))=ap at*;refine Ca func122 ?_;refine yb ?_;intro b3 w3 I b6 w6 I;refine cd I (s _ (hT.hp I) I.below) ?_;intro w15 I;obtain hs0|hs0:=hsd
 .refine fa ?_;refine cd I (hof _ I.below) ?_;intro w30 I;refine yb ?_;intro b9 w9 I ws I;refine WQ ?_;intro A33 j w33 I;obtain⟨o,rfl⟩:=I.kb (i:=0) rfl Z';refine fa ?_;refine te (Yz o L.n j a L.ds _ I S Z' Z') rfl ?_;rintro e_ w37 ⟨rfl,E⟩;refine⟨_,rfl, ?_⟩;replace I:=E;clear E;refine yb ?_;intro D w10 I ws I;replace I:=I.rb 30 3;refine bf 42 (λv V=>∃(i X:Nat)(B:Option Addr),i<=L.m/\v=.int .i64 i/\Hp w [.row B (ei ap d (d*c) (L.cs.map NR.da) i).length X 30 3 (ia NR.cells ((ei ap d (d*c) (L.cs.map NR.da) i).map nR)),.blk D 78 [.slice (some ⟨o,0,none⟩) (L.n-1) j,.slice B (ei ap d (d*c) (L.cs.map NR.da) i).length X] (0,0),.row (some ⟨o,0,none⟩) (L.n-1) j 3 1 (Pa (L.ds.eraseIdx a)),.blk b9 196 [.int .i64 ((d:Int)+1),.int .i64 (ap:Int)] (0,0),.blk b6 78 [.slice none 0 0,.slice none 0 0] (0,0),.blk b3 78 [.slice L.A L.n L.a,.slice L.B L.m L.b] (0,0)] V) (λv _=>L.m-(intOf v).toNat) ?_ ?_
  .exact⟨0,0,none,J' _,rfl,I⟩
  clear I;rintro ρ' v V ⟨i,X,B,hi,rfl,I⟩;by_cases hlt:i<L.m
  .refine RY ?_;intro x C J P sC G;have T:((L.cs.map NR.da)[i]?).getD 0=x.da:=by rw[z',C];rfl
   have hxn:nR x.da=x:=(by exact ack);refine GZ ?_;intro R hq0 h hfl;generalize hF:ei ap d (d*c) (L.cs.map NR.da) i=F at*;by_cases H:i/ap % (d+1)=d*c
   .exact G0
   rw[Q' H,M_] at h;refine aaL ?_;intro K w12 I ws I;refine Ja (i:=10) (Is (.pointer (some (u.add (a*1))))) (Is.ext) ?_ ?_
   .exact abd
   refine uo (λ_ hj=>(sD.ext hj.hp.below).Yr p) ?_;refine wb ?_;refine Fa ?_;intro f W Q hV;have q:=Q.bl;obtain⟨v60,v59,v58,v57,v56,v55,v54,v53,v52,v51,v50,v49,v48,v47,_⟩:=hV;replace I:=Q.hp;refine lg ?_;clear Q;refine lZ ?_;intro I;exact Wb
  exact aed
 refine fa ?_;refine cd I (hof _ I.below) ?_;intro w30 I;refine yb ?_;intro b9 w9 I ws I;refine WQ ?_;intro A33 j w33 I;obtain⟨o,rfl⟩:=I.kb (i:=0) rfl Z';refine fa ?_;refine te (Yz o L.n j a L.ds _ I S Z' Z') rfl ?_;rintro e_ w37 ⟨rfl,E⟩;refine⟨_,rfl, ?_⟩;replace I:=E;clear E;refine yb ?_;intro D w10 I ws I;replace I:=I.rb 30 3;refine bf 42 (λv V=>∃(i X:Nat)(B:Option Addr),i<=L.m/\v=.int .i64 i/\Hp w [.row B (ei ap d (d*c) (L.cs.map NR.da) i).length X 30 3 (ia NR.cells ((ei ap d (d*c) (L.cs.map NR.da) i).map nR)),.blk D 78 [.slice (some ⟨o,0,none⟩) (L.n-1) j,.slice B (ei ap d (d*c) (L.cs.map NR.da) i).length X] (0,0),.row (some ⟨o,0,none⟩) (L.n-1) j 3 1 (Pa (L.ds.eraseIdx a)),.blk b9 196 [.int .i64 ((d:Int)+1),.int .i64 (ap:Int)] (0,0),.blk b6 78 [.slice none 0 0,.slice none 0 0] (0,0),.blk b3 78 [.slice L.A L.n L.a,.slice L.B L.m L.b] (0,0)] V) (λv _=>L.m-(intOf v).toNat) ?_ ?_
 .exact⟨0,0,none,J' _,rfl,I⟩
 clear I;rintro ρ' v V ⟨i,X,B,hi,rfl,I⟩;by_cases hlt:i<L.m
 .refine RY ?_;intro x C J P sC G;have T:((L.cs.map NR.da)[i]?).getD 0=x.da:=by rw[z',C];rfl
  have hxn:nR x.da=x:=(by exact ack);refine GZ ?_;intro R hq0 h hfl;generalize hF:ei ap d (d*c) (L.cs.map NR.da) i=F at*;by_cases H:i/ap % (d+1)=d*c
  .exact G0
  rw[Q' H,M_] at h;refine aaL ?_;intro K w12 I ws I;refine Ja (i:=10) (Is (.pointer (some (u.add (a*1))))) (Is.ext) ?_ ?_
  .exact abd
  refine uo (λ_ hj=>(sD.ext hj.hp.below).Yr p) ?_;refine wb ?_;refine dn ?_;intro W I;refine lZ ?_;intro I;exact Wb
 exact aed
def Ch(L:FX)(N b:Int):Int:=if Sm L N≠0 then Sm L N else if b=0\/b=1 then 0 else 1
def vU(L:FX)(N d:Int)(k:Nat)(w)(S:Gc w)(Y:L.at_ w)(Q:L.Ug k)(u:Ch L N d≠0):Zc 122 #[L.V,.int .i64 N,.int .i64 d] w (.tuple #[.agg #[.slice none 0 0,.slice none 0 0],.int .i64 (Ch L N d)]):=by
 have I:=Hp.start w;have s:=λZ P F=>Pv L N k Z P (Y.ext F) Q;unfold Ch at u |-;generalize Sm L N=C at*;refine Ca func122 ?_;refine yb ?_;intro j p I h e I;refine cd I (s _ (S.hp I) I.below) ?_;intro f I;by_cases M:C=0
 .subst M;rw[Q' (λc=>c rfl)] at u |-;by_cases K:d=0\/d=1
  .rw[P' K] at u;exact absurd rfl u
  rw[Q' K];have h1:d≠0:=λc=>K (.inl c);have h2:d≠1:=λc=>K (.inr c);refine CR ?_;intro ws I;exact⟨rfl,I.below⟩
 rw[P' M];refine CR ?_;intro ws I;exact⟨rfl,I.below⟩
variable {w:World}
def RK(k:Nat)(S:World->World->Prop)(i:Nat)(w V:World):Prop:=if i=k then S w V else Below w.heap.size w V
def afR:List Nat->(Nat->VP)->Nat->VP
 |[],V=>V
 |x::r,V=>Cd (afR r V) x λ_ _=>True
def afg(m k:Nat)(X Y M:List Nat)(src:List (List (Nat×Option Nat))):Bool:=
 decide (k<m) && ((List.range m).all λi=>(src.getD i []).all λp=>match p.2 with|some j=> !X.contains j||i==k||(M.getD k 0).testBit i|none=>true) &&
 (List.range m).all λj=>X.contains j||Y.contains j||j==k||(M.getD j 0).testBit k
variable {P:Program}{O:Rf}
def DOK(P:Program)(ops:Array Oper)(J:World->Prop)(h:Nat->Value->World->Prop)(R:Nat->World->World->Prop)(O:Rf):Nat->List Oper->List (List (Nat×Option Nat))->Prop
 |i,o::os,s::ss=>((∀v w V,h i v w->Below w.heap.size w V->h i v V)/\∀U Z,J Z->Ec h O U Z s->OG P ops o U Z λv q=>R i Z q/\h i v q)/\DOK P ops J h R O (i+1) os ss
 |_,[],[]=>True
 |_,_,_=>False
variable {D:List Deferred}
structure DIK(D:List Deferred)(fr:List Nat)(N:Nat)(ops:Array Oper)(m k0:Nat)(X:List Nat)(O:Rf)(J:World->Prop)(V:Nat->Value->World->Prop)(L:Array Bool)(a:Act)(w:World):Prop where
 nd:a.defers=D
 sz:a.tmps.size=N
 j:J w
 ls:L.size=ops.size
 cl:Vp ops L
 tl:∀k,m<=k->L.getD k false=false
 vs:∀i d,i<m->L.getD i false=true->(ops[i]?).bind (·.dst)=some d->(i∈X->L.getD k0 false=false)->V i (a.tmps.getD d undef) w
 mv:∀s,(∀i,i<m->L.getD i false=true->(ops[i]?).bind (·.dst)≠some s)->a.tmps.getD s undef=O s
 fb:∀i∈fr,L.getD i false=true->∀d,(ops[i]?).bind (·.dst)=some d->∃b,a.tmps.getD d undef=.pointer (some ⟨b,0,none⟩)/\b<w.heap.size
 fd:∀i∈fr,∀j∈fr,i≠j->L.getD i false=true->L.getD j false=true->∀d e,(ops[i]?).bind (·.dst)=some d->(ops[j]?).bind (·.dst)=some e->a.tmps.getD d undef≠a.tmps.getD e undef
def DXK(P:Program)(ops:Array Oper)(J:World->Prop)(R:Nat->World->World->Prop)(O:Rf)(T:(Nat->VP)->Prop):Nat->(Nat->VP)->List Oper->List (List (Nat×Option Nat))->Prop
 |i,pv,o::os,s::ss=>∃h:VP,(∀v w V,h v w->Below w.heap.size w V->h v V)/\(∀U Z,J Z->Ec pv O U Z s->OG P ops o U Z λv q=>R i Z q/\h v q)/\DXK P ops J R O T (i+1) (Cd pv i h) os ss
 |_,pv,[],[]=>T pv
 |_,_,_,_=>False
structure Ext(b:Nat)(e:TypeId)(w V:World):Prop where
 bl:Below b w V
 sz:w.heap.size<=V.heap.size
 rest:∀g,g<w.heap.size->V.heap[g]?=w.heap[g]?\/∃xs xs',w.heap[g]?=some (.cells xs e (0,0))/\V.heap[g]?=some (.cells xs' e (0,0))/\xs'.size=xs.size
def adT(S:World->World->Prop)(pv:Nat->VP):List Nat->Prop
 |[]=>True
 |j::r=>(∀v w V,pv j v w->S w V->pv j v V)/\adT S pv r
def ae3(w:World)(t:TypeId)(n:Nat):VP:=λv W=>∃(b:Nat)(cs:List Value),v=.pointer (some ⟨b,0,none⟩)/\w.heap.size<=b/\cs.length=n/\W.heap[b]?=some (.cells cs.toArray t (0,0))
def ahB(base:Nat)(t:TypeId)(n sz:Nat)(cs:List Value):VP:=λv W=>∃A c,v=.agg #[.slice A n c,.slice none 0 0]/\W.ownsRow base t sz (.slice A n c) n cs
def phR:List (Nat->Dyadic)->List Nat->Dyadic
 |f::fs,r::rs=>f r*phR fs rs
 |_,_=>1
def vG(ds:List Nat)(X:List Dyadic)(fs:List (Nat->Dyadic)):Dyadic:=sR ds λrow=>co ds X row*phR fs row
def acm(ds:List Nat)(ts:List Dyadic):List (Nat->Dyadic):=List.zipWith (λd t r=>Mi d r t) ds ts
def pwF(ts:List Dyadic):List (Nat->Dyadic):=ts.map λt r=>t^r
def aih(ds:List Nat)(ts:List Dyadic)(k:Nat):List (Nat->Dyadic):=(acm ds ts).take (ds.length-k)++(pwF ts).drop (ds.length-k)
def wT(b:List SR)(ns:List Nat):Nat->Dyadic
 |0=>1
 |i+1=>wT b ns i*aeH b i^(ns.getD i 0)
def TT{s:SR}(h:Ok b=0)(K:s∈b):s.lo.da<s.hi.da:=by
 unfold Ok at h;by_cases h1:b.any (λs=> !decide (s.lo.da<s.hi.da))=true
 .rw[P' h1] at h;omega
 rw[Bool.not_eq_true,E9] at h1;have:=h1 s K;simpa using this
structure agO(p:PX)(b:List SR)(fx:FX)(ns:List Nat):Prop where
 e:afH fx b=0
 q:(acu fx b).2=oa (p.ts.map (vp (wT b ns b.length)))
 s:uO p (wT b ns b.length)=0
 n:(oa (p.ts.map (vp (wT b ns b.length)))).length<=8
variable {α:Type}
def NT{l:List α}{i:Nat}{x:α}(h:l[i]?=some x):l=l.take i++x::l.drop (i+1):=by
 rw[<-de h,q_]
structure afk(p q:PX)(b:List SR)(ns:List Nat)(a:Nat)(X:List Dyadic):Prop where
 BT:om q.v 300 8 4 q.ts
 e:eg q b (Ha (acU ns a))=0
 grow:He (300+300+16394) (Tb q.v q.ts) (300+1)<=440000
 x:An (acU ns a) (Sc q (Na b)).2=afa ns a X
def af3(ds:List Int):Bool:=decide (ds.length<=12) && decide (Ng 1 ds≠0)
structure aez(fx:FX)(ax sd:Int)(g:FX):Prop where
 ds:g.ds=if Ch fx ax sd=0 then fx.ds.eraseIdx ax.toNat else[]
 cs:g.cs=if Ch fx ax sd=0 then(ei (ea (fx.ns.drop (ax.toNat+1))) (fx.ns.getD ax.toNat 0) (fx.ns.getD ax.toNat 0*sd.toNat) (fx.cs.map NR.da) fx.m).map nR else[]
 n:g.n<=100000
 m:g.m<=1000000
def nV{L:FX}{N:Int}(h:Sm L N=0)(m:L.ds.length=L.n):L.e=0/\∃a d:Nat,N=a/\L.ns[a]?=some d:=by
 unfold Sm at h;by_cases J:L.e=0
 .rw[Q' (λc=>c J)] at h;by_cases h1:N<0\/(L.n:Int)<=N
  .rw[P' h1] at h;cases h
  obtain⟨d,T⟩:=aa (l:=L.ns) (k:=N.toNat) (by unfold FX.ns;rw[D'];omega);exact⟨J,N.toNat,d,Z',T⟩
 rw[P' J] at h;exact absurd h J
def JP{L:FX}{N b:Int}(h:Ch L N b=0)(m:L.ds.length=L.n):L.e=0/\∃a d s:Nat,N=a/\b=s/\(s=0\/s=1)/\L.ns[a]?=some d:=by
 unfold Ch at h;by_cases J:Sm L N=0
 .rw[Q' (λc=>c J)] at h;by_cases h1:b=0\/b=1
  .obtain⟨f,a,d,o,g⟩:=nV J m;exact⟨f,a,d,b.toNat,o,Z',Z',g⟩
  rw[Q' h1] at h;cases h
 rw[P' J] at h;exact absurd h J
def oS(L:FX)(N c:Int)(k:Nat)(w)(S:Gc w)(Y:L.at_ w)(Q:L.Ug k)(X:L.n<=L.a):Calls prog 122 #[L.V,.int .i64 N,.int .i64 c] w λr V=>∃g:FX,aez L N c g/\r=.returned (.tuple #[g.V,.int .i64 (Ch L N c)])/\Hp w [g.gg,g.Kf] V:=by
 by_cases u:Ch L N c=0
 .obtain⟨J,a,d,s,rfl,rfl,K,T⟩:=JP u Y.ln.1;have f:L.ns.getD a 0=d:=by rw[X9,T];rfl
  refine(YH L a d s k w S Y Q X J T K).mono λr V ⟨g,h1,h2,G,z,P,e⟩=>⟨g,⟨?_, ?_,G,z⟩,by rw[u];exact P,e⟩
  .rw[P' u,M8];exact h1
  rw[P' u,M8,M8,f];exact h2
 exact(vU L N c k w S Y Q u).mono λr V ⟨H,F⟩=>⟨FX.nil,⟨(Q' u).symm,(Q' u).symm,V',V'⟩,H,((Hp.start w).ext F).yQ⟩
def wgN(ds:List Int):List NR:=if af3 ds=true then rv (ds.map Int.toNat) else[]
def gM:∀(l:List Int)(o:Int), -2<=o->o<=2->(∀s∈l, -1<=s/\s<=1)-> -2<=sE o l/\sE o l<=2
 |[],o,h1,h2,_=>⟨h1,h2⟩
 |s::l,o,h1,h2,h=>by
  have G:=h s I';rw[sE];split
  .exact gM l s Z' Z' λx C=>h x (L' _ C)
  omega
def aY(l): -2<=gm l/\gm l<=2:=gM _ 2 V' V' λs K=>by
 obtain⟨a,_,rfl⟩:=B'.1 K;exact Cl a.i
def xy(ds:List Int)(cs:List NR):Int:=if fE ds cs=0 then gm cs else 0
def gL(ds)(cs): -2<=xy ds cs/\xy ds cs<=2:=by
 unfold xy;split
 .exact aY cs
 decide
def kA(f:FX)(k:Nat)(w)(S:Gc w)(h:f.at_ w)(Q:f.Ug k):Zc 89 #[f.V] w (.tuple #[.int .i64 (xy f.ds f.cs),.int .i64 f.e]):=by
 by_cases J:f.e=0
 .have:=yu f k w S h Q J;rw[show xy f.ds f.cs=if f.e=0 then gm f.cs else 0 from rfl,P' J,J];exact this
 rw[show xy f.ds f.cs=if f.e=0 then gm f.cs else 0 from rfl,Q' J];have I:=Hp.start w;have E:=λZ P t=>ml f k Z P (h.ext t) Q;refine Ca func89 ?_;refine Bb ?_;intro G Z I;refine cd I (E _ (S.hp I) I.below) ?_;intro c I;refine fa ?_;exact⟨rfl,I.below⟩
def vM{ap d t k:Nat}{xs:List Dyadic}(h:∀x∈xs,Sz k x):∀i,∀y∈ei ap d t xs i,Sz k y
 |0=>λy hy=>absurd hy h_
 |i+1=>λy hy=>by
  rw[kz] at hy;obtain hy|hy:=O_.1 hy
  .exact vM h i y hy
  split at hy
  .rw[q'.1 hy];exact T1
  exact absurd hy h_
def SG(f:FX)(N b:Int):List Int:=if Ch f N b=0 then f.ds.eraseIdx N.toNat else[]
def dE(f:FX)(N b:Int):List NR:=if Ch f N b=0 then(ei (ea (f.ns.drop (N.toNat+1))) (f.ns.getD N.toNat 0) (f.ns.getD N.toNat 0*b.toNat) (f.cs.map NR.da) f.m).map nR else[]
def aO(f:FX)(N b:Int):Int:=xy (SG f N b) (dE f N b)
def Jn(f:FX)(i n:Nat):Bool:=decide (Ch f i 0=0/\f.n=n/\aO f i 0*aO f i 1= -1)
variable {fs:List FX}
def sn(fs:List FX)(i:Nat):Bool:=match fs[i]? with|some f=>Jn f i fs.length|none=>true
def Nh(fs:List FX):Bool:=(List.range fs.length).all (sn fs) && decide (0<fs.length)
def LN{i:Nat}{f:FX}(h:fs[i]?=some f)(E:Jn f i fs.length=false):Nh fs=false:=by
 unfold Nh;rw[Z5];refine .inl (List.all_eq_false.2 ⟨i,S_.2 (x'.1 h).1, ?_⟩);unfold sn;rw[h];simpa using E
def lk(A)(n c:Nat)(fs)(k:Nat)(w)(S:Gc w)(T:Sl w A n 2 (ia FX.cells fs))(hn:n<=1000)(hf:∀f∈fs,f.at_ w/\f.Ug k/\f.n<=f.a)(hk:k<=3000000):Zc 59 #[.slice A n c] w (.bool (Nh fs)):=by
 have I:=Hp.start w;have q:fs.length=n:=T.sa FX.len V';refine Ca func59 ?_;refine fa ?_;refine bf 15 (λv V=>∃i:Nat,i<=n/\v=.int .i64 i/\(List.range i).all (sn fs)=true/\Hp w [] V) (λv _=>n-(intOf v).toNat) ?_ ?_
 .exact⟨0,J' _,rfl,rfl,I⟩
 clear I;rintro ρ' v V ⟨i,hi,rfl,X,I⟩;by_cases hlt:i<n
 .obtain⟨f,C⟩:=aa (l:=fs) (k:=i) Z';obtain⟨f1,f2,f3⟩:=hf f (N' C);obtain⟨ad,rfl,N⟩:=T.at_ Z';have hfn:=f2.n20;have W:∀j:Int,∀Z,Gc Z->Below w.heap.size w Z->Calls prog 122 #[f.V,.int .i64 (i:Int),.int .i64 j] Z λr V=>∃g:FX,(g.ds=SG f i j/\g.cs=dE f i j/\g.Ug k)/\r=.returned (.tuple #[g.V,.int .i64 (Ch f i j)])/\Hp Z [g.gg,g.Kf] V:=λj Z P L=>by
   refine(oS f i j k Z P (f1.ext L) f2 f3).mono λr V ⟨g,o,N,G⟩=>⟨g,⟨o.ds,o.cs, ?_⟩,N,G⟩;obtain⟨l1,l2⟩:=(G.Bj (f:=g) I' (L' _ I')).ln;obtain⟨l3,l4⟩:=f1.ln;have hds:g.ds.length<=f.ds.length:=by
    rw[o.ds];split
    .rw[List.length_eraseIdx];split<;>omega
    exact J' _
   have hcs:g.cs.length<=f.m:=by
    rw[o.cs];split
    .rw[D'];exact acy
    exact J' _
   refine⟨by have:=f2.n20;omega,by have:=f2.m60;omega,λc E=> ?_⟩;rw[o.cs] at E;split at E
   .obtain⟨x,Q,rfl⟩:=B'.1 E;have D:=vM (k:=k) (xs:=f.cs.map NR.da) (λy hy=>by
     obtain⟨z,D,rfl⟩:=B'.1 hy;exact(f2.num z D).2) _ x Q
    exact⟨D.ok Z',by rw[Ga];exact D⟩
   exact absurd E h_
  have M:=λh=>LN C h;have e:Jn f i fs.length=true->(List.range (i+1)).all (sn fs)=true:=λh=>(by rw[A9,F6,X];simp[sn,C,h]);unfold Jn at M e;rw[q] at M e;have hS0:=gL (SG f i 0) (dE f i 0);have hS1:=gL (SG f i 1) (dE f i 1);have p:=W 0;have u:=W 1;unfold aO at M e;generalize SG f i 0=D0 at*;generalize dE f i 0=C0 at*;generalize SG f i 1=D1 at*;generalize dE f i 1=C1 at*;generalize Ch f i 0=e0 at*;generalize Ch f i 1=e1 at*;refine fa ?_;refine sv (Ka (vs:=[_,_]) pa.out rfl ((N.ext I.below).recAt FX.len C) rfl) ?_;refine yb ?_;intro b4 w4 I ws I;refine Wi (p _ (S.hp I) I.below) ?_;rintro e_ w23 ⟨g,⟨g1,g2,g3⟩,rfl,G⟩;refine⟨_,rfl, ?_⟩;replace I:=I.join G;simp only[C',F'] at I;refine yb ?_;intro b5 w5 I ws I;refine Wi (u _ (S.hp I) I.below) ?_;rintro e_ w29 ⟨g',⟨F,H,K⟩,rfl,G⟩;refine⟨_,rfl, ?_⟩;replace I:=I.join G;simp only[C',F'] at I;by_cases J:e0=0
  .by_cases h1:f.n=n
   .subst J;refine yb ?_;intro R Y I ws I;have s:=kA g k _ (S.hp I) (I.Bj (N' (i:=4) rfl) (N' (i:=5) rfl)) g3;rw[g1,g2] at s;refine cd I (s) ?_;intro w44 I;have t:=λZ P h1=>kA g' k Z P h1 K;rw[F,H] at t;generalize xy D0 C0=s0 at*;generalize xy D1 C1=s1 at*;have hm: -4<=s0*s1/\s0*s1<=4:=(by have:s0= -2\/s0= -1\/s0=0\/s0=1\/s0=2:=Z';obtain rfl|rfl|rfl|rfl|rfl:=this<;>omega);refine fa ?_;refine cd I (t _ (S.hp I) (I.Bj (N' (i:=1) rfl) (N' (i:=2) rfl))) ?_;intro w49 I;by_cases E:s0*s1= -1
    .refine fa ?_;refine⟨⟨i+1,Z',rfl,e (m' ⟨rfl,h1,E⟩),I.sub (m_ _)⟩,by show n-(i+1)<n-i;omega, ?_⟩;exact Wb
    refine fa ?_;exact⟨by rw[M (k' λh=>E h.2.2)],I.below⟩
   subst J;refine yb ?_;intro R Y I ws I;exact⟨by rw[M (k' λh=>h1 h.2.1)],I.below⟩
  refine yb ?_;intro R Y I ws I;exact⟨by rw[M (k' λh=>J h.1)],I.below⟩
 obtain rfl:n=i:=Z';unfold Nh;rw[q,X];by_cases J:n=0
 .refine fa ?_;exact⟨by rw[k' Z'];rfl,I.below⟩
 refine fa ?_;exact⟨by rw[m' Z'];rfl,I.below⟩
structure iP(d:FD):Prop where
 d12:d.1.length<=12
 d127:∀x∈d.1,x<=127
 lx:d.2.length=ea d.1
 nK:ea d.1<=4096
 zx:∀x∈d.2,Sz 1002000 x
def rB(D)(X):(Oo D X).ns=D:=Bh D
def TP{ds:List FD}{l:List NR}{q:Nat}(h:qb (Me ds l)=0)(s:∀d∈ds,Vt k d)(K:ds.length<=100)(Q:∀a∈l,Sz q a.da)(H:k+q<=90000):iP (xq ds l):=by
 have M:∀f∈Me ds l,∃d∈ds,∃Y:List Dyadic,f=Oo d.1 Y/\Y.length=ea d.1/\∀x∈Y,Sz 90000 x:=λf b=>by
  unfold Me at b;obtain⟨i,hi⟩:=C_.1 b;rw[n9] at hi
  cases h1:ds[i]? with
  |none=>rw[h1] at hi;cases hi
  |some d=>
   cases h2:l[i]? with
   |none=>rw[h1,h2] at hi;cases hi
   |some a=>
    rw[h1,h2] at hi;have T:=N' h1;refine⟨d,T,_,(i' hi).symm,by rw[D'];exact(s d T).lx,λx C=> ?_⟩;obtain⟨y,hy,rfl⟩:=B'.1 C;exact(((s d T).zx y hy).mul (Q a (N' h2))).mono H
 have p:∀f∈Me ds l,f.ds.length=f.n:=λf b=>(by obtain⟨d,_,Y,rfl,_,_⟩:=M f b;exact Ub _);obtain⟨o,_,w⟩:=Jt h p;obtain⟨E,Qk,_⟩:=Rr o;have W:=Su o p;have P:∀f∈Me ds l,(gi (maxD (Me ds l)) f).length=ea (maxD (Me ds l))/\∀x∈gi (maxD (Me ds l)) f,Sz 1000000 x:=λf b=>by
  obtain⟨h1,h2,G⟩:=W f b;refine⟨cL h1 h2, ?_⟩;have he:=Qk f b;obtain⟨d,T,Y,rfl,B,m⟩:=M f b;have g:=s d T;have F:(Oo d.1 Y).cs.length<=200:=(by show(Y.map nR).length<=200;rw[D',B];exact g.nK);refine jS (k:=90000) ⟨?_, ?_,λc t=> ?_⟩ he F V' h1 G w
  .show d.1.length<=1000;have:=g.d12;omega
  .show Y.length<=100000;have:=g.nK;omega
  obtain⟨x,C,rfl⟩:=B'.1 t;exact⟨(m x C).ok V',by rw[Ga];exact m x C⟩
 unfold xq;have r:(Me ds l).length<=100:=(by unfold Me;rw[R7];omega);generalize maxD (Me ds l)=D at*;obtain⟨f0,u,e⟩:=j7 E;rw[e] at P W M r |-;obtain⟨d,T,Y,S,_,_⟩:=M f0 I';obtain⟨h1,_,G⟩:=W f0 I';have j:D.length<=12:=(by rw[h1,S,rB];exact(s d T).d12);obtain⟨A,J⟩:=P f0 I';refine⟨j,G, ?_,w,λx C=> ?_⟩
 .show(((u.map (gi D)).foldl Kj (gi D f0))).length=_;rw[fw _ _ λy hy=>by
   obtain⟨f,b,rfl⟩:=B'.1 hy;rw[(P f (L' _ b)).1,A]]
  exact A
 have:=QA (k:=1000000) (u.map (gi D)) (gi D f0) 0 J (λy hy z v=>by
  obtain⟨f,b,rfl⟩:=B'.1 hy;exact(P f (L' _ b)).2 z v) x C
 refine this.mono ?_;rw[D'];rw[T_] at r;omega
def bz{ds:List FD}(h:St ds rs=0):∀r∈rs,qb (Me ds r)=0:=λr H=>by
 unfold St at h
 cases Y:rs.find? (λr=>decide (qb (Me ds r)≠0)) with
 |some q=>
  rw[Y] at h;have:=K6 Y;exact absurd h (O9 this)
 |none=>
  have:=a8.1 Y r H;simpa using this
def aaI{L:List (List NR)}{q:Nat}(Q:L.length=n)(B:n<=3)(H:∀l∈L,l.length=n)(o:∀l∈L,∀a∈l,Sz q a.da):∀l∈Rs L n,∀a∈l,Sz (16*q+32) a.da:=λl k a M=>by
 unfold Rs ZH at k;obtain⟨i,hi,rfl⟩:=B'.1 k;obtain⟨j,hj,rfl⟩:=B'.1 M;rw[Ga];exact(WH Q B H o (S_.1 hi) (S_.1 hj)).2
def kP{X:List PX}{ds:List FD}{q:Nat}(h:Zo X b ds=0)(o:∀d∈ds,Vt k d)(B:ds.length<=100)(hp:X.length<=3)(F:b.length=X.length)(K:∀l∈fk X b,∀a∈l,Sz q a.da)(u:k+(16*q+32)<=90000):∀d∈Lm X b ds,iP d:=λd T=>by
 unfold Lm at T;obtain⟨r,H,rfl⟩:=B'.1 T;unfold Zo at h;split at h
 .cases h
 refine TP (bz h r H) o B (aaI (by unfold fk;rw[D']) hp (λl Q=> ?_) K r H) u;unfold fk yk at Q;obtain⟨p,_,rfl⟩:=B'.1 Q;rw[D',V9];unfold rp;rw[q8];exact F
structure Ord{α:Type}(lt:α->α->Bool):Prop where
 irr:∀a,lt a a=false
 tr:∀a b c,lt b a=false->lt c b=false->lt c a=false
 asy:∀a b,lt a b=true->lt b a=false
def Kid(i k:Nat):Prop:=k=2*i+1\/k=2*i+2
variable {lt:α->α->Bool}
def ah1(lt:α->α->Bool)(s:Nat)(L:List α):Prop:=∀i k a b,s<=i->Kid i k->L[i]?=some a->L[k]?=some b->lt b a=false
def swp(L:List α)(i k:Nat):List α:=match L[i]?,L[k]? with
 |some a,some b=>(L.set i b).set k a
 |_,_=>L
structure agD(lt:α->α->Bool)(s at_:Nat)(L:List α):Prop where
 ge:s<=at_
 h1:∀i k a b,s<=i->Kid i k->i≠at_->L[i]?=some a->L[k]?=some b->lt b a=false
 h2:∀p k a b,s<=p->Kid p at_->Kid at_ k->L[p]?=some a->L[k]?=some b->lt b a=false
structure agI(lt:α->α->Bool)(at_:Nat)(L:List α):Prop where
 h1:∀i k a b,Kid i k->k≠at_->L[i]?=some a->L[k]?=some b->lt b a=false
 h2:∀p k a b,Kid p at_->Kid at_ k->L[p]?=some a->L[k]?=some b->lt b a=false
def qI(Q:Kq):Kq
 |.goto _,_,_=>False
 |e,O,w=>Q e O w
variable {Q:Kq}
def FU{c:Code}(h:WC .plain P N c (qI Q) O w):WC .plain P N (.scope c) Q O w:=
 WC.vn λa Y=>wp_scope_straight (wp_mono (h.out a Y) λe a' V ⟨ρ',T,R⟩=>by
  cases e with
  |goto l=>exact R.elim
  |_=>exact⟨ρ',T,R⟩)
def abX(h:Q .ret O w):qI Q .ret O w:=h
def Sa(h:NP Q):NP (qI Q):=λc O w R=>h c O w R
structure Ent(α:Type) where
 k:NR
 t:Int
 x:α
def EI.cells(e:Ent Int):List Value:=[.bool e.k.neg,.string e.k.Va,.int .i64 e.k.e,.int .i64 e.t,.int .i64 e.x]
def ES.cells(e:Ent ByteArray):List Value:=[.bool e.k.neg,.string e.k.Va,.int .i64 e.k.e,.int .i64 e.t,.string e.x]
def ah{α:Type}(a b:Ent α):Bool:=decide (a.k.da<b.k.da\/a.k.da=b.k.da/\a.t<b.t)
def Mj(X:List PX)(b:List SR):List FD:=X.map λp=>(Tb p.v p.ts,An (Tb p.v p.ts) (Sc p (Na b)).2)
def Gk(ds:List FD):Bool:=ds.any λd=>decide (gm (d.2.map nR)≠0)
def Le(X:List PX)(b:List SR):Bool:=decide (Zo X b (Mj X b)=0) && Nh ((Lm X b (Mj X b)).map λd=>Oo d.1 d.2)
def uj(b:List SR)(a:Nat)(s:SR)(u:Bool):List SR:=(b.map SR.f).set a (s.f.half (nR s.f.lj) u)
structure ZB where
 A:Option Addr
 n:Nat
 c:Nat
 b:List SR
def ZB.cells(x:ZB):List Value:=[.slice x.A x.n x.c]
def ZB.len:∀x:ZB,x.cells.length=1:=λ_=>rfl
def ZB.row(x:ZB):HE:=.row x.A x.n x.c 36 6 (ia SR.cells x.b)
structure ZV where
 k:Int
 b:List SR
 r:Dyadic
structure ZX where
 k:Int
 x:ZB
 r:Dyadic
def ZX.v(z:ZX):ZV:=⟨z.k,z.x.b,z.r⟩
def ZX.cells(z:ZX):List Value:=.int .i64 z.k::.slice z.x.A z.x.n z.x.c::NR.cells (nR z.r)
def ZX.len:∀x:ZX,x.cells.length=5:=λ_=>rfl
structure kF(ps:List PX)(b:List SR):Prop where
 sq:vt ps b=0
 gr:∀p∈ps,Il p b (Ml p [])=0->He (400+400+16394) (Tb p.v p.ts) (400+1)<=440000
 bx:∀s∈b,s.fin 400
 fd:∀d∈Mj ps b,Vt 47000 d
 sl:∀l∈fk ps b,∀a∈l,a.ok/\Sz 2600 a.da
 ln:b.length=ps.length
def Ro(X:List PX)(tol:Dyadic)(p bu:Int):Nat->Nat->List (List SR)->List ZV->List ZV->Int->Int->Prop
 |_,n,[],l,R,k,e=>R=l/\k=n/\e=0
 |0,_,_::_,_,_,_,_=>False
 |f+1,n,b::st,l,R,k,e=>if bu<(n+1:Nat) then R=[]/\k=0/\e=3 else kF X b/\
   if Gk (Mj X b)=true then Ro X tol p bu f (n+1) st l R k e
   else if Le X b=true then Ro X tol p bu f (n+1) st (l++[⟨1,b,Ph p (Mj X b)⟩]) R k e
   else ∃(a:Nat)(s:SR),(∀v,qm b v->v=(a:Int))/\b[a]?=some s/\
    if s.hi.da-s.lo.da<tol then Ro X tol p bu f (n+1) st (l++[⟨2,b,Ph p (Mj X b)⟩]) R k e
    else Ro X tol p bu f (n+1) (uj b a s false::uj b a s true::st) l R k e
def Nk(X:List PX)(b:List SR)(tol:NR)(p bu:Int)(f:Nat)(R:List ZV)(k e:Int):Prop:=
 if vt X b≠0 then R=[]/\k=0/\e=vt X b else if tol.i.sign<=0 then R=[]/\k=0/\e=1 else Ro X tol.da p bu f 0 [b.map SR.f] [] R k e
def KM{g h:FX}(h1:g.ds=h.ds)(h2:g.cs=h.cs)(G:g.n=h.n)(z:g.m=h.m)(i n:Nat):Jn g i n=Jn h i n:=by
 obtain⟨A,l,a,B,m,b,ds,cs⟩:=g;obtain⟨T,q,a',c,p,d,e,j⟩:=h;obtain rfl:ds=e:=h1;obtain rfl:cs=j:=h2;obtain rfl:l=q:=G;obtain rfl:m=p:=z;rfl
def Tz{gs K:List FX}(Q:gs.length=K.length)(h:∀(i:Nat)(g k:FX),gs[i]?=some g->K[i]?=some k->g.ds=k.ds/\g.cs=k.cs/\g.n=k.n/\g.m=k.m):Nh gs=Nh K:=by
 have hu:sn gs=sn K:=by
  funext i;unfold sn;rw[Q];by_cases hi:i<K.length
  .obtain⟨k,u⟩:=aa (l:=K) (k:=i) hi;obtain⟨g,s⟩:=aa (l:=gs) (k:=i) Z';rw[u,s];obtain⟨a,b,c,d⟩:=h i g k s u;exact KM a b c d _ _
  rw[K_ Z',K_ Z']
 unfold Nh;rw[Q,hu]
def YO(X)(b)(ds:List FD):(Lm X b ds).length=X.length:=by
 unfold Lm Rs;rw[D',D',V9]
def acf(L)(n c:Nat)(X)(x:ZB)(S:Gc w)(g:Sl w L n 2 (ia PX.cells X))(B:n<=3)(hp:∀p∈X,p.at_ w/\p.Ug 400)(E:Sl w x.A x.n 6 (ia SR.cells x.b))(o:kF X x.b):Calls prog 71 #[.slice L n c,.slice x.A x.n x.c] w λr V=>∃(A:Option Addr)(a:Nat)(fs:List FX)(R:List HE),r=.returned (.tuple #[.slice A n a,.int .i64 0])/\fs.length=n/\(∀(i:Nat)(f:FX)(d:FD),fs[i]?=some f->(Mj X x.b)[i]?=some d->f.is d.1 d.2)/\(∀f∈fs,f.gg∈R/\f.Kf∈R)/\Hp w (.row A n a 78 2 (ia FX.cells fs)::R) V:=by
 have m:X.length=n:=g.sa PX.len V';have Y:x.b.length=x.n:=E.sa SR.len V';have j:=o.ln;refine(Cq L n c X x.A x.n x.c x.b 400 w S g Z' (λp h=>⟨(hp p h).1,(hp p h).2,o.gr p h⟩) E o.bx Z' V').mono λr V h=> ?_;obtain⟨h,_⟩|⟨_,A,a,fs,R,h1,h2,G,z,P⟩:=h
 .exact absurd o.sq h
 refine⟨A,a,fs,R,h1,h2,λi f d N e=> ?_,z,P⟩;unfold Mj at e;rw[z'] at e
 cases u:X[i]? with
 |none=>rw[u] at e;cases e
 |some p=>
  rw[u] at e;obtain rfl:=i' e;exact G i p f u N
def Tt(L)(n c:Nat)(X)(B)(m cb:Nat)(b:List SR)(tol:NR)(p bu:Int)(f D:Nat)(R:List ZV)(k e:Int)(w)(S:Gc w)(hL:Sl w L n 2 (ia PX.cells X))(hn:n<=3)(hp:∀p∈X,p.at_ w/\p.Ug 400)(hg:vt X b=0->∀p∈X,p.v=n/\om p.v 400 100 D p.ts)(hB:Sl w B m 6 (ia SR.cells b))(hm:m<=1000000)(hb:∀s∈b,s.fin 400)(hgr:∀p∈X,Il p b (Ml p [])=0->He (400+400+16394) (Tb p.v p.ts) (400+1)<=440000)(ht:tol.ok)(hp1: -1000<=p)(hp2:p<=1000)(t: -9223372036854775808<=bu)(hb2:bu<=10000)(hR:Nk X b tol p bu f R k e):Calls prog 21 #[.slice L n c,.slice B m cb,tol.V,.int .i64 p,.int .i64 bu] w λr V=>∃(G:Option Addr)(c':Nat)(xs:List ZX)(HR:List HE),r=.returned (.tuple #[.slice G xs.length c',.int .i64 k,.int .i64 e])/\xs.map ZX.v=R/\(∀x∈xs,x.x.row∈HR)/\Hp w (.row G xs.length c' 60 5 (ia ZX.cells xs)::HR) V:=by
 have I:=Hp.start w;have hln:X.length=n:=hL.sa PX.len V';have hsq:=λZ P t=>Cq L n c X B m cb b 400 Z P (hL.ext t) Z' (λp h=>⟨(hp p h).1.ext t,(hp p h).2,hgr p h⟩) (hB.ext t) hb hm V';unfold Nk at hR;by_cases hE:vt X b≠0
 .rw[P' hE] at hR;obtain⟨rfl,rfl,rfl⟩:=hR;replace hsq:=λZ P t=>(hsq Z P t).mono λr V h=>h.elim (λh=>h.2) λh=>absurd h.1 hE;refine Ca func21 ?_;refine Bb ?_;intro b7 w7 I;refine Wi (hsq _ (S.hp I) I.below) ?_;rintro H w32 ⟨rfl,M⟩;refine⟨_,rfl, ?_⟩;replace I:=I.ext M;generalize vt X b=E at*;exact aa9
 rw[Q' hE] at hR;replace hE:vt X b=0:=Z7.1 hE;replace hsq:∀Z,Gc Z->Below w.heap.size w Z->Calls prog 71 #[.slice L n c,.slice B m cb] Z λr V=>∃(A:Option Addr)(a:Nat),r=.returned (.tuple #[.slice A n a,.int .i64 0])/\Below Z.heap.size Z V:=λZ P t=>(hsq Z P t).mono λr V h=>h.elim (λh=>absurd hE h.1) λ⟨_,A,a,_,_,h1,_,_,_,h5⟩=>⟨A,a,h1,h5.below⟩;by_cases F:tol.i.sign<=0
 .rw[P' F] at hR;obtain⟨rfl,rfl,rfl⟩:=hR;have hsb:=Cl tol.i;have hsg:=λZ=>jc tol Z;generalize tol.i.sign=sg at*;refine Ca func21 ?_;refine Bb ?_;intro b7 w7 I;refine Wi (hsq _ (S.hp I) I.below) ?_;rintro H w32 ⟨Aq,aq,rfl,M⟩;refine⟨_,rfl, ?_⟩;replace I:=I.ext M;refine fa ?_;refine Wi (hsg _) ?_;rintro H w39 ⟨rfl,M⟩;refine⟨_,rfl, ?_⟩;replace I:=I.ext M;exact aa9
 rw[Q' F] at hR;have hsb:=Cl tol.i;have hsg:=λZ=>jc tol Z;generalize tol.i.sign=sg at*;refine Ca func21 ?_;refine Bb ?_;intro b7 w7 I;refine Wi (hsq _ (S.hp I) I.below) ?_;rintro H w32 ⟨Aq,aq,rfl,M⟩;refine⟨_,rfl, ?_⟩;replace I:=I.ext M;refine fa ?_;refine Wi (hsg _) ?_;rintro H w39 ⟨rfl,M⟩;refine⟨_,rfl, ?_⟩;replace I:=I.ext M;refine fa ?_;refine cr I (Wj B m cb b _ (S.hp I) (hB.ext I.below) (λs h=>⟨(hb s h).1.ok,(hb s h).2.ok⟩) hm) ?_;intro A42 c42 w42 I;refine pG ?_;intro b43 w43 I;refine fa ?_;replace I:=I.rb 60 5;replace I:=I.perm (W_ (l₁:=[_,_,_]));simp only[C',F'] at I;replace I:=I.perm (W_ (l₁:=[_,_]));simp only[C',F'] at I;replace I:=I.perm (W_ (l₁:=[_,_]));simp only[C',F'] at I;have hgd:=hg hE;have hnb:∀x:ZB,kF X x.b->0<x.b.length:=λx o=>by
  have h1:=o.sq;have h2:=o.ln;rw[h2];refine Nat.pos_of_ne_zero λh=> ?_;unfold vt at h1;split at h1
  .rename_i q hq;have:=K6 hq;exact O9 this h1
  rw[P' (.inl h)] at h1;cases h1
 refine Hw [10,11,12,15,16,17,18,19,20,21,22,23,24,25,26,27,28,44,45,46,47,48,49,50,51,52,53,54,55,56,57,58,59,60,61,62,63,64,65,66,67,68,69,70,71,72,73,74,75,76,77,78,79,80,81,82,83,84,85,86,87,88,89,90,91,92,93,94,95,96,97,98,99,100,101,102,103,104,105,106,107,108,109,110,111,112,113,114,115,116,117,118,119,120,121,122,123,124,125,126,127,128,129,130,131,132,133,134] 15 16 17 (λv15 v16 v17 V=>∃(i fu:Nat)(xs:List ZB)(ls:List ZX)(A1:Option Addr)(c1:Nat)(T:Option Addr)(tn c2:Nat)(Rw:List HE),v15=.slice A1 ls.length c1/\v16=.int .i64 i/\v17=.slice T tn c2/\xs.length=tn/\Ro X tol.da p bu fu i (xs.map ZB.b) (ls.map ZX.v) R k e/\(∀x∈xs,x.row∈Rw/\x.n=x.b.length)/\(∀x∈ls,x.x.row∈Rw)/\ls.length<=i/\(i:Int)<=max bu 0/\tn<=i+1/\Hp w (.row A1 ls.length c1 60 5 (ia ZX.cells ls)::.row T tn c2 26 1 (ia ZB.cells xs.reverse)::.blk b7 30 [.bool tol.neg,.string tol.Va,.int .i64 tol.e] (0,0)::Rw) V) (λ_ v _ _=>(max bu 0+1).toNat-(intOf v).toNat) ?_ ?_
 .have hml:m=(b.map SR.f).length:=by rw[D'];exact(hB.sa SR.len V').symm
  exact⟨0,f,[⟨A42,m,c42,b.map SR.f⟩],[],none,0,_,1,_,_,rfl,rfl,rfl,rfl,hR,λx hx=>by rw[q'.1 hx];exact⟨I',hml⟩,λx h=>absurd h h_,E' _,Z',Z',I⟩
 clear I;rintro ρ' v15 v16 v17 V ⟨i,fu,xs,ls,A1,c1,T,tn,c2,Rw,rfl,rfl,rfl,htn,C,J,hls,hli,hib,hxl,I⟩
 cases xs with
 |nil=>
  obtain rfl:tn=0:=htn.symm;obtain⟨rfl,rfl,rfl⟩:R=ls.map ZX.v/\k=i/\e=0:=by cases fu<;>exact C
  refine fa ?_;exact⟨A1,c1,ls,Rw,rfl,rfl,hls,I.sub (.cons_cons _ (.cons _ (.cons _ (P_ _))))⟩
 |cons x r=>
  obtain rfl:tn=r.length+1:=htn.symm
  cases fu with
  |zero=>exact absurd C id
  |succ fu=>
   rw[I_,Ro] at C;by_cases hbu:bu<(i+1:Nat)
   .rw[P' hbu] at C;obtain⟨rfl,rfl,rfl⟩:=C;exact aa9
   rw[Q' hbu] at C;obtain⟨o,C⟩:=C;have hn0:=hnb x o;obtain⟨hmx,hxn⟩:=J x I';obtain⟨ix,hix⟩:=C_.1 hmx;obtain⟨xA,K,xc,N⟩:=x;replace hxn:K=N.length:=hxn;replace o:kF X N:=o;replace hn0:0<N.length:=hn0;obtain⟨gx,rfl⟩:=I.kb (i:=ix+3) (show(_::_::_::Rw)[ix+3]?=some (.row xA K xc 36 6 (ia SR.cells N)) from hix) Z';have hzl:=o.ln;obtain rfl:K=n:=Z';have hget:(⟨some ⟨gx,0,none⟩,K,xc,N⟩::r:List ZB).reverse[r.length]?=some ⟨some ⟨gx,0,none⟩,K,xc,N⟩:=by rw[m8,S9 (by simp),F_,u_];rfl
   obtain⟨gTd,rfl⟩:=I.kb (i:=1) rfl Z';refine xa (sr (mL (xi ?_)));refine Fu (na (cT (Fb (Za (td (xa (sr (mI ?_))))))));refine Gi (aI (na (sr (mI (mI ?_)))));refine Fu (na (cF (Fb (Za (sr (mL (mL (xi ?_))))))));refine vy ?_;refine sv (Lc (k:=r.length) Qa.out pa.size rfl rfl Z' Z') ?_;refine sv (Ba pa.out rfl (I.Wc (f:=ZB.cells) (x:=⟨some ⟨gx,0,none⟩,K,xc,N⟩) (l:=(⟨some ⟨gx,0,none⟩,K,xc,N⟩::r:List ZB).reverse) (i:=1) rfl ZB.len V' hget 0 _ rfl)) ?_;have hcap:=I.me (i:=1) rfl;refine fa ?_;refine sv (Rh (h:=r.length) Qa.out pa.size rfl rfl Z' Z') ?_;refine fa ?_;replace I:=I.perm (W_ (l₁:=[_]));simp only[C',F'] at I;replace I:=I.CB (k:=r.length) Z';rw[qh ZB.len,show(⟨some ⟨gx,0,none⟩,K,xc,N⟩::r:List ZB).reverse.take r.length=r.reverse by simp] at I;have hmh:∀H1:List HE,(∀y∈Rw,y∈H1)->(⟨some ⟨gx,0,none⟩,K,xc,N⟩:ZB).row∈H1:=λH1 h=>h _ hmx
   refine Wi (acf L K c X ⟨some ⟨gx,0,none⟩,K,xc,N⟩ (S.hp I) (hL.ext I.below) hn (λp h=>⟨(hp p h).1.ext I.below,(hp p h).2⟩) (ee (I.own _ (L' _ (L' _ (L' _ hmx))))) o) ?_;rintro H w66 ⟨Af,af,fs,Rf,rfl,hfl,hfs,hRf,Y⟩;refine⟨_,rfl, ?_⟩;replace I:=I.join Y;replace I:=I.perm y7;simp only[C',F'] at I;have hfd:(Mj X N).length=K:=by unfold Mj;rw[D'];omega
   have hF:∀(Z:World)(H1:List HE),Hp w H1 Z->(∀y∈Rw++.row Af K af 78 2 (ia FX.cells fs)::Rf,y∈H1)->Sl Z (some ⟨gx,0,none⟩) K 6 (ia SR.cells N)/\Sl Z Af K 2 (ia FX.cells fs)/\∀f∈fs,f.at_ Z:=λZ H1 h hm=>⟨ee (h.own _ (hm _ (M9 _ hmx))),ee (h.own _ (hm _ (u9 _ I'))),λf hf=>h.Bj (hm _ (u9 _ (L' _ (hRf f hf).1))) (hm _ (u9 _ (L' _ (hRf f hf).2)))⟩;have hfg:∀f∈fs,∃d:FD,f.is d.1 d.2/\Vt 47000 d:=λf hf=>(by obtain⟨j,hj⟩:=C_.1 hf;obtain⟨d,hd⟩:=aa (l:=Mj X N) (k:=j) (by have:=(x'.1 hj).1;omega);exact⟨d,hfs j f d hj hd,o.fd d (N' hd)⟩);have hno:=λZ P hS1 ha1=>rE Af K af fs 47000 Z P hS1 Z' ha1 (λf hf=>by
    obtain⟨d,h1,h2⟩:=hfg f hf;exact h1.Ug (ha1 f hf) h2.d12 h2.lx (by have:=h2.nK;omega) h2.zx V') λf hf=>by
    obtain⟨d,h1,h2⟩:=hfg f hf;exact h1.e h2.d12 h2.d127 h2.lx (by have:=h2.nK;omega)
   have hcs:fs.map FX.cs=(Mj X N).map λd=>d.2.map nR:=by
    refine g_ λj=> ?_;rw[z',z'];by_cases hj:j<K
    .obtain⟨f,hf⟩:=aa (l:=fs) (k:=j) Z';obtain⟨d,hd⟩:=aa (l:=Mj X N) (k:=j) Z';rw[hf,hd];exact Y_ some (hfs j f d hf hd).cs
    rw[K_ Z',K_ Z'];rfl
   rw[show(fs.any λf=>decide (gm f.cs≠0))=Gk (Mj X N) by
    unfold Gk;have:=Y_ (λl=>l.any λc=>decide (gm c≠0)) hcs;rw[List.any_map,List.any_map] at this;exact this] at hno
   refine fa ?_;obtain⟨f1,f2,f3⟩:=hF _ _ I λy hy=>L' _ (L' _ (L' _ hy));refine Wi (hno _ (S.hp I) f2 f3) ?_;rintro H w75 ⟨rfl,M⟩;refine⟨_,rfl, ?_⟩;replace I:=I.ext M;by_cases hnn:Gk (Mj X N)=true
   .rw[P' hnn] at C;rw[hnn];refine fa ?_;replace I:=I.perm (W_ (l₁:=[_,_]));simp only[C',F'] at I;replace I:=I.perm (W_ (l₁:=[_]));simp only[C',F'] at I;replace I:=I.perm (W_ (l₁:=[_,_]));simp only[C',F'] at I;refine⟨⟨i+1,fu,r,ls,A1,c1,_,r.length,c2,_,rfl,rfl,rfl,rfl,C,λy hy=>⟨M9 _ (J y (L' _ hy)).1,(J y (L' _ hy)).2⟩,λy hy=>M9 _ (hls y hy),Z',Z',Z',I⟩,by show(max bu 0+1).toNat-(i+1)<(max bu 0+1).toNat-i;omega, ?_⟩;exact Wb
   rw[Q' hnn] at C;rw[Bool.not_eq_true] at hnn;rw[hnn];have hrs:=λZ P hS1 ha1=>JH Af K af fs (Mj X N) p 47000 Z P hS1 Z' ha1 hfd (λj f d h1 h2=>by
    have g:=o.fd d (N' h2);exact⟨hfs j f d h1 h2,g.d12,g.d127,g.lx,by have:=g.nK;omega,g.zx⟩) V' V' hp1 hp2
   have htu:=λZ P t hS1 hS2 ha1=>EC L K c X (some ⟨gx,0,none⟩) xc N Af af fs (Mj X N) 47000 2600 400 D Z P (hL.ext t) hn (λp h=>⟨(hp p h).1.ext t,(hp p h).2,(hgd p h).1,(hgd p h).2⟩) hS1 o.bx V' hS2 ha1 hfd hfs o.fd o.sl V';generalize hrd:Ph p (Mj X N)=rd at*;refine fa ?_;obtain⟨f1,f2,f3⟩:=hF _ _ I λy hy=>L' _ (L' _ (L' _ hy));refine te (yy (some ⟨gx,0,none⟩) K xc N 400 _ (S.hp I) f1 o.bx Z' V') rfl ?_;rintro H w77 ⟨⟨wa,rfl,hwa⟩,M⟩;refine⟨_,rfl, ?_⟩;replace I:=I.ext M;refine fa ?_;obtain⟨f1,f2,f3⟩:=hF _ _ I λy hy=>L' _ (L' _ (L' _ hy));refine Wi (hrs _ (S.hp I) f2 f3) ?_;rintro H w81 ⟨rfl,M⟩;refine⟨_,rfl, ?_⟩;replace I:=I.ext M;refine yb ?_;intro b22 w22 I ws I;obtain⟨f1,f2,f3⟩:=hF _ _ I λy hy=>L' _ (L' _ (L' _ (L' _ hy)));by_cases hte:Zo X N (Mj X N)=0
   .replace htu:=(htu _ (S.hp I) I.below f1 f2 f3).mono λr V h=>h.elim (λh=>absurd hte h.1) λh=>h.2;have htx:=kP hte o.fd Z' Z' hzl (λl hl a ha=>(o.sl l hl a ha).2) V';have htl:=YO X N (Mj X N);refine Wi (htu) ?_;rintro H w88 ⟨Ag,ag,gs,Rg,rfl,hgl,hgs,hRg,Y⟩;refine⟨_,rfl, ?_⟩;have hgd2:∀(j:Nat)(g:FX),gs[j]?=some g->∃d,(Lm X N (Mj X N))[j]?=some d/\g.is d.1 d.2/\iP d:=λj g h1=>(by obtain⟨d,hd⟩:=aa (l:=Lm X N (Mj X N)) (k:=j) (by have:=(x'.1 h1).1;omega);exact⟨d,hd,hgs j g d h1 hd,htx d (N' hd)⟩);have hct:Le X N=Nh gs:=(by unfold Le;rw[hte];refine(L7 _).trans (Tz (by rw[D'];omega) λj g k h1 h2=> ?_).symm;obtain⟨d,hd,hi,_⟩:=hgd2 j g h1;rw[z',hd] at h2;obtain rfl:=i' h2;have ha:=Y.Bj (f:=g) (L' _ (hRg g (N' h1)).1) (L' _ (hRg g (N' h1)).2);exact⟨hi.ds,hi.cs,(hi.key ha).1,(hi.key ha).2⟩);have hcc:=λZ (t:Below w88.heap.size w88 Z) P=>lk Ag K ag gs 1002000 Z P (Sl.ext (Y.ma (i:=0) rfl) t) Z' (λg hg=>by
     obtain⟨m1,m2⟩:=hRg g hg;obtain⟨j,hj⟩:=C_.1 hg;obtain⟨d,_,hi,gd⟩:=hgd2 j g hj;obtain⟨i1,hi1⟩:=C_.1 m2;have ha:=Y.Bj (f:=g) (L' _ m1) (L' _ m2);exact⟨ha.ext t,hi.Ug ha gd.d12 gd.lx gd.nK gd.zx V',Y.me (i:=i1+1) hi1⟩) V'
    rw[<-hct] at hcc;have h88:=Y.below;replace I:=I.ext Y.below
    cases hcr:Le X N with
    |true=>
     rw[P' hcr] at C;rw[hcr] at hcc;refine fa ?_;refine Wi (hcc _ (Below.refl _ _) (S.hp I)) ?_;rintro H w95 ⟨rfl,M⟩;refine⟨_,rfl, ?_⟩;replace I:=I.ext M;refine fa ?_;refine DP ?_;intro b101 w101 I;refine oE ?_;intro A102 c102 w102 I;simp only[j',t_] at I;replace I:=I.sub (r_ _ _);refine fa ?_;replace I:=I.perm (W_ (l₁:=[_,_,_]));simp only[C',F'] at I;replace I:=I.perm (W_ (l₁:=[_,_]));simp only[C',F'] at I;replace I:=I.perm (W_ (l₁:=[_,_,_]));simp only[C',F'] at I;replace I:=I.sub (O' _ (O' _ (O' _ (G' _ (P_ _)))))
     refine⟨⟨i+1,fu,r,ls++[⟨1,⟨some ⟨gx,0,none⟩,K,xc,N⟩,rd⟩],_,_,_,r.length,c2,_,by rw[y'];rfl,rfl,rfl,rfl,by rw[G_];exact C,λy hy=>⟨M9 _ (J y (L' _ hy)).1,(J y (L' _ hy)).2⟩,λy hy=> ?_,by rw[y'];show ls.length+1<=i+1;omega,Z',Z',by rw[y',Aa];exact I⟩,by show(max bu 0+1).toNat-(i+1)<(max bu 0+1).toNat-i;omega, ?_⟩
     .exact aee
     exact Wb
    |false=>
     rw[Q' (by rw[hcr];decide)] at C;rw[hcr] at hcc;refine fa ?_;refine Wi (hcc _ (Below.refl _ _) (S.hp I)) ?_;rintro H w95 ⟨rfl,M⟩;refine⟨_,rfl, ?_⟩;replace I:=I.ext M;refine fa ?_;obtain⟨a,s,hW,F,C⟩:=C;obtain rfl:=hW wa hwa;replace F:N[a]?=some s:=F;have has:a<K:=by have:=(x'.1 F).1;omega
     have Q:=o.bx s (N' F);have hsu:=λZ P=>Lj s.hi s.lo Z P Q.2.ok Q.1.ok 400 Q.2.sz Q.1.sz V';have hcm:=λZ P=>Sd (nR (s.hi.da-s.lo.da)) tol Z P ((Q.2.sz.sub Q.1.sz).ok V') ht;rw[Ga] at hcm;have hcl:=tq (s.hi.da-s.lo.da) tol.da;obtain⟨f1,_,_⟩:=hF _ _ I λy hy=>L' _ (L' _ (L' _ (L' _ hy)));obtain⟨_,hex,hrx⟩:=f1.at_ Z';obtain rfl:=i' hex;generalize s.hi.da-s.lo.da=wd at*;generalize hcv:We wd tol.da=cv at*;have hcb:=VB wd tol.da;rw[hcv] at hcb;refine ud 12 I ?_;refine Ui (a) ?_;refine Wy ?_;refine Fj [_,_,_] (λ_ hj=>((((hrx.ext hj.bl).recAt SR.len F).drop 3).take 3)) ?_;refine wb ?_;refine Ui (a) ?_;refine Wy ?_;refine Fj [_,_,_] (λ_ hj=>((((hrx.ext hj.bl).recAt SR.len F).drop 0).take 3)) ?_;refine dC (λ_ hj=>hsu _ (S.hp hj.hp)) ?_;refine wb ?_;refine Fa ?_;intro f W hJ hV;have hb_24:=hJ.bl;obtain⟨v114,v113,v112,v111,v110,v109,v108,v107,v106,v105,v104,v103,_⟩:=hV;replace I:=hJ.hp;refine lg ?_;exact vZ
   replace htu:=(htu _ (S.hp I) I.below f1 f2 f3).mono λr V h=>h.elim (λh=>h.2) λh=>absurd h.1 hte;have hct:Le X N=false:=by unfold Le;rw[k' hte];rfl
   rw[Q' (by rw[hct];decide)] at C;generalize Zo X N (Mj X N)=tE at*;refine Wi (htu) ?_;rintro H w88 ⟨rfl,M⟩;refine⟨_,rfl, ?_⟩;replace I:=I.ext M;refine fa ?_;obtain⟨a,s,hW,F,C⟩:=C;obtain rfl:=hW wa hwa;replace F:N[a]?=some s:=F;have has:a<K:=by have:=(x'.1 F).1;omega
   have Q:=o.bx s (N' F);have hsu:=λZ P=>Lj s.hi s.lo Z P Q.2.ok Q.1.ok 400 Q.2.sz Q.1.sz V';have hcm:=λZ P=>Sd (nR (s.hi.da-s.lo.da)) tol Z P ((Q.2.sz.sub Q.1.sz).ok V') ht;rw[Ga] at hcm;have hcl:=tq (s.hi.da-s.lo.da) tol.da;obtain⟨f1,_,_⟩:=hF _ _ I λy hy=>L' _ (L' _ (L' _ (L' _ hy)));obtain⟨_,hex,hrx⟩:=f1.at_ Z';obtain rfl:=i' hex;generalize s.hi.da-s.lo.da=wd at*;generalize hcv:We wd tol.da=cv at*;have hcb:=VB wd tol.da;rw[hcv] at hcb;refine ud 12 I ?_;refine Ui (a) ?_;refine Wy ?_;refine Fj [_,_,_] (λ_ hj=>((((hrx.ext hj.bl).recAt SR.len F).drop 3).take 3)) ?_;refine wb ?_;refine Ui (a) ?_;refine Wy ?_;refine Fj [_,_,_] (λ_ hj=>((((hrx.ext hj.bl).recAt SR.len F).drop 0).take 3)) ?_;refine dC (λ_ hj=>hsu _ (S.hp hj.hp)) ?_;refine wb ?_;refine dn ?_;intro W I;exact vZ
def wq{a:NR}(h:XU a=false):Kl 36 a:=by
 have S:=of_decide_eq_false h;exact⟨⟨Z',Z',Z'⟩,Sz.raw (m:=24) (E:=12) Z' Z' Z'⟩
def Ol(a:NR)(w):Zc 55 #[a.V] w (.bool (XU a)):=by
 have I:=Hp.start w;by_cases h1:(3:Int)<a.Va.size
 .refine Ca func55 ?_;refine Bb ?_;intro G Z I;refine⟨?_,I.below⟩;unfold XU;rw[m' (.inl h1)]
 by_cases h2:a.e< -12
 .refine Ca func55 ?_;refine Bb ?_;intro G Z I;refine⟨?_,I.below⟩;unfold XU;rw[m' (.inr (.inl h2))]
 by_cases b:12<a.e
 .refine Ca func55 ?_;refine Bb ?_;intro G Z I;refine⟨?_,I.below⟩;unfold XU;rw[m' (.inr (.inr b))]
 refine Ca func55 ?_;refine Bb ?_;intro G Z I;refine⟨?_,I.below⟩;unfold XU;rw[k' Z']
def oF(B)(m d:Nat)(b)(eps:NR)(g bu:Int)(w)(E:Sl w B m 6 (ia SR.cells b)):Calls prog 15 #[.slice B m d,eps.V,.int .i64 g,.int .i64 bu] w λr V=>∃v:Bool,r=.returned (.bool v)/\(v=false->m<=3/\(∀s∈b,s.fin 36)/\eps.ok/\Sz 36 eps.da/\ -40<=g/\g<=40/\bu<=30)/\Below w.heap.size w V:=by
 have I:=Hp.start w;have L:b.length=m:=E.sa SR.len V';by_cases h1:3<m
 .refine Ca func15 ?_;refine Bb ?_;intro R y I;exact⟨_,rfl,λh=>(by cases h),I.below⟩
 refine Ca func15 ?_;refine Bb ?_;intro R y I;refine cd I (Ol eps _) ?_;intro q I
 cases he:XU eps with
 |true=>
  exact Cx
 |false=>
  by_cases h2:g< -40
  .exact Cx
  by_cases G:40<g
  .exact Cx
  by_cases A:30<bu
  .exact Cx
  refine fa ?_;refine bf 9 (λx V=>∃i:Nat,i<=m/\x=.int .i64 i/\(∀s∈b.take i,s.fin 36)/\Hp w [] V) (λv _=>m-(intOf v).toNat) ?_ ?_
  .exact⟨0,J' _,rfl,λt S=>(nomatch S),I.sub (m_ _)⟩
  clear I;rintro ρ' F V ⟨j,hj,rfl,a,I⟩;by_cases f:j<m
  .obtain⟨s,K⟩:=aa (l:=b) (k:=j) Z';obtain⟨z,rfl,H⟩:=E.at_ Z';have T:=λZ=>Ol s.lo Z;have p:=λZ=>Ol s.hi Z;refine fa ?_;refine sv (Ka (vs:=[_,_,_]) pa.out rfl (((((H.ext I.below).recAt SR.len K).drop 0).take 3)) rfl) ?_
   cases C:XU s.lo with
   |true=>
    rw[C] at T;refine cd I (T _) ?_;intro c I;exact Cx
   |false=>
    rw[C] at T;refine cd I (T _) ?_;intro c I;refine fa ?_;refine sv (Ka (vs:=[_,_,_]) pa.out rfl (((((H.ext I.below).recAt SR.len K).drop 3).take 3)) rfl) ?_
    cases D:XU s.hi with
    |true=>
     rw[D] at p;refine fa ?_;refine cd I (p _) ?_;intro u I;exact Cx
    |false=>
     rw[D] at p;refine fa ?_;refine cd I (p _) ?_;intro u I;refine fa ?_;refine⟨⟨j+1,Z',rfl,λt S=> ?_,I⟩,by show m-(j+1)<m-j;omega, ?_⟩
     .rw[ja K] at S;obtain S|S:=O_.1 S
      .exact a t S
      rw[q'.1 S];obtain⟨J,o⟩:=wq C;obtain⟨n,Q⟩:=wq D;exact⟨⟨J,o⟩,⟨n,Q⟩⟩
     exact Wb
  rw[w' Z'] at a;obtain⟨J,o⟩:=wq he;refine fa ?_;exact⟨_,rfl,λ_=>⟨Z',a,J,o,Z',Z',Z'⟩,I.below⟩
def yO(L)(m c n:Nat)(t)(w)(S:Gc w)(J:Sl w L m 1 (ig t))(f:∀c∈t,c<256)(B:n<=1000):Calls prog 19 #[.slice L m c,.int .i64 n] w λr V=>∃A c',r=.returned (.slice A n c')/\Hp w [.row A n c' 30 3 (ia NR.cells ((List.range n).map λi=>nR (EA t i)))] V:=by
 have I:=Hp.start w;have p:t.length=m:=by have:=J.1;simpa[ig] using this
 refine Ca func19 ?_;refine fa ?_;replace I:=I.rb 30 3;refine Fi 5 6 (λu v V=>∃(i e:Nat)(A:Option Addr),i<=n/\v=.int .i64 i/\u=.slice A i e/\Hp w [.row A i e 30 3 (ia NR.cells ((List.range i).map λi=>nR (EA t i)))] V) (λ_ v _=>n-(intOf v).toNat) ?_ ?_
 .exact⟨0,0,none,J' _,rfl,rfl,I⟩
 clear I;rintro ρ' u v V ⟨i,e,A,hi,rfl,rfl,I⟩;by_cases D:i<n
 .have C:=KB t f i;have he:(List.range (i+1)).map (λi=>nR (EA t i))=(List.range i).map (λi=>nR (EA t i))++[nR (EA t i)]:=by rw[A9,G_];rfl
  have E:=λc Z P=>ej (c:Nat) Z P;have K:=λ(c:Nat) (h:c<256) Z P=>Hq (nR ((c:Int):Dyadic)) (-8) Z P (by have:=(Sz.ofNat c h).nr;omega) (by have:=(Sz.ofNat c h).nr;omega) (by have:=(Sz.ofNat c h).nr;omega) V' V';simp only[Ga] at K;have j:∀c:Nat,(t[i]?).getD 0=c->((c:Int):Dyadic)*ti (-8)=EA t i:=λc h=>(by unfold EA;rw[h];exact(TA (c:Int) 0 (-8)).symm);by_cases o:i<m
  .obtain⟨b,F⟩:=aa (l:=t) (k:=i) Z';have R:=Qm F;have x:=f b (N' F);obtain⟨z,rfl,H⟩:=J.at_ Z';replace K:=K b x;have s:(t[i]?).getD 0=b:=by rw[F];rfl
   refine fa ?_;refine dA ?_;refine fa ?_;rw[j _ s] at K;refine qd I (E b _ (S.hp I) Z' Z') rfl ?_;exact NY
  replace K:=K 0 V';have s:(t[i]?).getD 0=0:=by rw[K_ Z'];rfl
  refine fa ?_;rw[j _ s] at K;refine qd I (E 0 _ (S.hp I) Z' Z') rfl ?_;exact NY
 obtain rfl:i=n:=Z';refine fa ?_;exact⟨A,e,rfl,I⟩
def OC(L)(n c:Nat)(d)(w)(g:Sl w L n 2 (ia PX.cells d))(hp:∀p∈d,p.at_ w):Calls prog 14 #[.slice L n c] w λr V=>∃b:Bool,r=.returned (.bool b)/\(b=false->n<=3/\∀p∈d,p.ts.length<=5/\ug 36 p.ts/\∀t∈p.ts,t.m.size<=3/\∀c∈t.m.data.toList,c.toNat<=2)/\Below w.heap.size w V:=by
 have I:=Hp.start w;have D:d.length=n:=g.sa PX.len V';by_cases h1:3<n
 .refine Ca func14 ?_;exact Cx
 refine Ca func14 ?_;refine fa ?_;refine bf 3 (λx V=>∃i:Nat,i<=n/\x=.int .i64 i/\(∀p∈d.take i,p.ts.length<=5/\ug 36 p.ts/\∀t∈p.ts,t.m.size<=3/\∀c∈t.m.data.toList,c.toNat<=2)/\Hp w [] V) (λv _=>n-(intOf v).toNat) ?_ ?_
 .exact aal
 clear I;rintro ρ' Q V ⟨i,hi,rfl,X,I⟩;by_cases G:i<n
 .obtain⟨p,u⟩:=aa (l:=d) (k:=i) Z';have N:=hp p (N' u);have s:=N.ln;obtain⟨v,A,E,B,ts⟩:=p;replace s:ts.length=E:=s;obtain⟨T,rfl,H⟩:=g.at_ Z';by_cases h5:5<E
  .skip;refine fa ?_;refine lR ?_;exact Cx
  skip;refine fa ?_;refine lR ?_;refine fa ?_;refine bf 4 (λx V=>∃j:Nat,j<=E/\x=.int .i64 j/\ug 36 (ts.take j)/\(∀t∈ts.take j,t.m.size<=3/\∀c∈t.m.data.toList,c.toNat<=2)/\Hp w [] V) (λv _=>E-(intOf v).toNat) ?_ ?_
  .exact⟨0,J' _,rfl,λt S=>(nomatch S),λt S=>(nomatch S),I⟩
  clear I;rintro K Q w2 ⟨j,hj,rfl,a,M,I⟩;by_cases R:j<E
  .obtain⟨x,C⟩:=aa (l:=ts) (k:=j) Z';obtain⟨at2,rfl,f⟩:=Sl.at_ N (by show 0<E;omega);have W:=λZ=>Ol x.c Z;have o:=Hc x.m;refine fa ?_;refine oP ?_;refine fa ?_;refine oP ?_;refine fa ?_;refine sv (Ba pa.out rfl (((f.ext I.below).recAt TR.len C).cell (i:=0) rfl)) ?_;refine fa ?_;refine oP ?_;refine fa ?_;refine sv (Ka (vs:=[_,_,_]) pa.out rfl (((f.ext I.below).recAt TR.len C).drop 1) rfl) ?_;refine cd I (W _) ?_;intro J I
   cases Y:XU x.c with
   |true=>
    exact Cx
   |false=>
    by_cases h6:3<x.m.size
    .exact Cx
    refine fa ?_;refine bf 6 (λy V=>∃q:Nat,q<=x.m.size/\y=.int .i64 q/\(∀c∈x.m.data.toList.take q,c.toNat<=2)/\Hp w [] V) (λv _=>x.m.size-(intOf v).toNat) ?_ ?_
    .exact aal
    clear I;rintro P y_ w3 ⟨q,hq,rfl,hex,I⟩;by_cases F:q<x.m.size
    .obtain⟨e,he⟩:=aa (l:=x.m.data.toList) (k:=q) Z';have z:e.toNat<256:=e.toNat_lt;by_cases h7:2<e.toNat
     .exact Cx
     refine fa ?_;refine⟨⟨q+1,Z',rfl,λt S=> ?_,I⟩,by show x.m.size-(q+1)<x.m.size-q;omega, ?_⟩
     .rw[ja he] at S;obtain S|S:=O_.1 S
      .exact hex t S
      rw[q'.1 S];omega
     exact Wb
    rw[w' Z'] at hex;refine fa ?_;refine⟨⟨j+1,R,rfl,λt S=> ?_,λt S=> ?_,I⟩,by show E-(j+1)<E-j;omega, ?_⟩
    .replace S:t∈ts.take (j+1):=S;rw[ja C] at S;obtain S|S:=O_.1 S
     .exact a t S
     rw[q'.1 S];exact⟨(wq Y).1,(wq Y).2⟩
    .replace S:t∈ts.take (j+1):=S;rw[ja C] at S;obtain S|S:=O_.1 S
     .exact M t S
     rw[q'.1 S];exact⟨Z',hex⟩
    exact Wb
  rw[w' Z'] at a M;refine fa ?_;refine lR ?_;refine fa ?_;refine⟨⟨i+1,Z',rfl,λt S=> ?_,I⟩,by show n-(i+1)<n-i;omega, ?_⟩
  .rw[ja u] at S;obtain S|S:=O_.1 S
   .exact X t S
   rw[q'.1 S];exact⟨by show ts.length<=5;omega,a,M⟩
  exact Wb
 rw[w' Z'] at X;refine fa ?_;exact⟨_,rfl,λ_=>⟨Z',X⟩,I.below⟩
def bd(n:Int):Dyadic:=(n:Dyadic)*ti (-3)
def ng(n:Int)(w)(h1: -100<=n)(h2:n<=100):Zc 58 #[.int .i64 n] w (.agg #[.bool (nR (bd n)).neg,.string (nR (bd n)).Va,.int .i64 (nR (bd n)).e]):=by
 have I:=Hp.start w;have o:=(show Sz 24 ((n:Int):Dyadic) from Ga (n:Dyadic) ▸ ((jz (L:=[([],n)]) (by unfold zB;simp;omega)).1 ⟨str [],nR (n:Dyadic)⟩ I').2).nr;have l:=λZ=>PB (nR ((n:Int):Dyadic)) (-3) Z Z' Z' Z' V' V';rw[Ga,show((n:Int):Dyadic)*ti (-3)=bd n from rfl] at l;refine Ca func58 ?_;refine Bb ?_;intro T q I;refine qd I (Ah n _ Z' Z') rfl ?_;intro y I;refine cd I (l _) ?_;intro v I;exact abG
def lF(a b:Int):List SR:=[⟨nR (a:Dyadic),nR (b:Dyadic)⟩]
def th(a b:Int)(w)(h1: -100<=a/\a<=100)(h2: -100<=b/\b<=100):Calls prog 57 #[.int .i64 a,.int .i64 b] w λr V=>∃g:Nat,r=.returned (.slice (some ⟨g,0,none⟩) 1 1)/\Hp w [.row (some ⟨g,0,none⟩) 1 1 36 6 (ia SR.cells (lF a b))] V:=by
 have I:=Hp.start w;refine Ca func57 ?_;refine fa ?_;refine qd I (Ah a _ Z' Z') rfl ?_;intro A I;refine mI ?_;refine qd I (Ah b _ Z' Z') rfl ?_;intro o I;refine fa ?_;refine SK ?_;intro z G I;refine fa ?_;exact⟨_,rfl,I⟩
def uu(a b:Int)(w)(h1: -100<=a/\a<=100)(h2: -100<=b/\b<=100):Calls prog 60 #[.int .i64 a,.int .i64 b] w λr V=>∃(A:Option Addr)(c:Nat)(B:Option Addr)(d:Nat),r=.returned (.agg #[.slice A 1 c,.slice B 2 d])/\Hp w [.row B 2 d 30 3 (ia NR.cells [nR (a:Dyadic),nR (b:Dyadic)]),.row A 1 c 3 1 (Pa [1])] V:=by
 have I:=Hp.start w;refine Ca func60 ?_;refine Bb ?_;intro D y I;refine Sb I (cs:=[_]) Qa.out pa.out (Eb rfl ae) rfl rfl V' V' V' rfl V' ?_;intro R v I;refine mI ?_;refine qd I (Ah a _ Z' Z') rfl ?_;intro e I;refine mI ?_;refine qd I (Ah b _ Z' Z') rfl ?_;intro f I;refine jr ?_;intro z G I;refine Bb ?_;intro ws I;refine bU ?_;exact⟨_,_,_,_,rfl,I.sub (.cons_cons _ (.cons_cons _ (m_ _)))⟩
def Jl(c a b:Int)(K:ZT)(w)(h1: -100<=c/\c<=100)(h2: -100<=a/\a<=100)(G: -100<=b/\b<=100)(y:(zC K && zE K [([0],c),([1],a),([2],b)])=true):Calls prog 56 #[.int .i64 c,.int .i64 a,.int .i64 b] w λr V=>∃p:PX,p.v=1/\p.ts=zT K/\r=.returned p.V/\Hp w [p.row] V:=by
 have I:=Hp.start w;refine Ca func56 ?_;refine Bb ?_;intro h f I;refine qd I (Ah c _ Z' Z') rfl ?_;intro d I;refine fa ?_;refine qd I (Ah a _ Z' Z') rfl ?_;intro Y I;refine fa ?_;refine qd I (Ah b _ Z' Z') rfl ?_;intro D I;refine fa ?_;refine Sb I (cs:=[_,_,_,_,_,_,_,_,_,_,_,_]) Qa.out pa.out (Eb (Hd rfl) (Eb (Hd rfl) (Eb (Hd rfl) ae))) rfl rfl V' V' V' rfl V' ?_;intro k J I;have o:=jz (L:=[([0],c),([1],a),([2],b)]) (by unfold zB;simp;omega);have C:=λZ N=>XA 1 (some ⟨k,0,none⟩) 3 3 (zT [([0],c),([1],a),([2],b)]) 24 Z N V' o.1 V' (λt S=>d' (o.2 t S) V');rw[cO y,HV V' (by rfl) (by simp)] at C;replace I:=show Hp w (.row (some ⟨k,0,none⟩) 3 3 72 4 (ia TR.cells (zT [([0],c),([1],a),([2],b)]))::.blk h 24 [.int .i64 0,.slice none 0 0] (0,0)::_) _ from I;refine Wi (C _ (I.ma (i:=0) rfl)) ?_;rintro H g ⟨p,hp,rfl,G⟩;refine⟨_,rfl, ?_⟩;replace I:=I.join G;simp only[C',F'] at I;refine Am ?_;intro e j I ws I ws I;refine qN (Nc rfl (Mc (vs:=[_,_]) pa.out (I.Ra (i:=3) (n:=2) rfl rfl) rfl) Xd) ?_;exact⟨p,hp.v,hp.ts,rfl,I.sub (.cons _ (.cons_cons _ (m_ _)))⟩
def Ul(A B)(n c d:Nat)(xs ys:List ZX)(w)(R:Sl w A n 5 (ia ZX.cells xs))(E:Sl w B n 5 (ia ZX.cells ys))(he:xs.map ZX.v=ys.map ZX.v)(C:∀x∈xs,Sl w x.x.A x.x.n 6 (ia SR.cells x.x.b))(hy:∀x∈ys,Sl w x.x.A x.x.n 6 (ia SR.cells x.x.b))(Q:∀x∈xs,x.x.b.length<=1000000)(P:n<=1000000):Zc 23 #[.slice A n c,.slice B n d] w (.bool true):=by
 have I:=Hp.start w;have o:xs.length=n:=R.sa ZX.len V';have m:ys.length=n:=E.sa ZX.len V';refine Ca func23 ?_;refine fa ?_;refine bf 5 (λv V=>∃i:Nat,i<=n/\v=.int .i64 i/\Hp w [] V) (λv _=>n-(intOf v).toNat) ?_ ?_
 .exact⟨0,J' _,rfl,I⟩
 clear I;rintro ρ' v V ⟨i,hi,rfl,I⟩;by_cases D:i<n
 .obtain⟨x,u⟩:=aa (l:=xs) (k:=i) Z';obtain⟨y,f⟩:=aa (l:=ys) (k:=i) Z';have e:x.v=y.v:=(by have:=Y_ (·[i]?) he;simp only[z',u,f] at this;exact i' this);have J:=C x (N' u);have z:=hy y (N' f);have p:x.x.n<=1000000:=by rw[<-J.sa SR.len V'];exact Q x (N' u)
  obtain⟨k,⟨s,K,g,N⟩,r⟩:=x;obtain⟨k2,⟨X,L,h,T⟩,S⟩:=y;unfold ZX.v at e;simp only[ZV.mk.injEq] at e;obtain⟨rfl,rfl,rfl⟩:=e;have q:K=L:=(J.sa SR.len V').symm.trans (z.sa SR.len V');subst q;obtain⟨M,rfl,H⟩:=R.at_ Z';obtain⟨j,rfl,G⟩:=E.at_ Z';have a:=λZ t=>xC s K g N X h Z (J.ext t) (z.ext t) p;refine fa ?_;refine ud 35 I ?_;refine Ui (i) ?_;refine Wy ?_;refine uo (λ_ hj=>((H.ext hj.hp.below).recAt ZX.len u).cell (i:=0) (v:=.int .i64 k) rfl) ?_;refine wb ?_;refine Ui (i) ?_;refine Wy ?_;refine uo (λ_ hj=>((G.ext hj.hp.below).recAt ZX.len f).cell (i:=0) (v:=.int .i64 k) rfl) ?_;refine wb ?_;refine dG (Ui (i) ?_);refine wb ?_;refine dG (Fj [_,_,_] (λ_ hj=>(((H.ext hj.hp.below).recAt ZX.len u).drop 2)) ?_);refine wb ?_;refine dG (Ui (i) ?_);refine wb ?_;refine dG (Fj [_,_,_] (λ_ hj=>(((G.ext hj.hp.below).recAt ZX.len f).drop 2)) ?_);refine WB (i:=22) rfl (λU Z hj hR=>(show U 28=Value.bool _ from hR.2.2.1)) (λU Z hj hR=>pD (show U 33=Value.agg (List.toArray _) from hR.1) (show U 38=Value.agg (List.toArray _) from hR.2.1) (by first|assumption|rfl)) ?_;refine wb ?_;refine dG (Ui (i) ?_);refine wb ?_
  refine dG (uo (λ_ hj=>((H.ext hj.hp.below).recAt ZX.len u).cell (i:=1) (v:=.slice s K g) rfl) ?_);refine wb ?_;refine dG (Ui (i) ?_);refine wb ?_;refine dG (uo (λ_ hj=>((G.ext hj.hp.below).recAt ZX.len f).cell (i:=1) (v:=.slice X K h) rfl) ?_);refine dn ?_;intro W I;refine fa ?_;refine cd I (a _ I.below) ?_;intro F I;refine fa ?_;exact UG
 refine fa ?_;exact⟨rfl,I.below⟩
def shX(up:Bool)(d:Nat)(s:Dyadic):Nat->Nat->Dyadic:=if up then acz d s else acK d s
def shS(ns t:List Nat)(a:Nat)(xs:List Dyadic)(M:Nat->Nat->Dyadic)(r i:Nat):Dyadic:=sm (List.range i) λj=>co ns.reverse xs (t.set a j)*M j r
def ahq(a:NR):Bool:=decide ((8:Int)<a.Va.size\/a.e< -60\/60<a.e)
def FX.afp(f:FX):Prop:=f.Ug 124/\f.m<=120/\f.n<=20/\∀d∈f.ds,d<=6\/128<=d
abbrev fxC(l:List Int)(A:Option Addr)(a:Nat)(B:Option Addr)(b:Nat):FX:=⟨A,1,a,B,l.length,b,[(l.length:Int)-1],l.map λz:Int=>nR ((z:Dyadic)*ti (-2))⟩
abbrev xsC(l:List Int):List Dyadic:=l.map λz:Int=>(z:Dyadic)*ti (-2)
def afF(l:List Int):VP:=λv W=>∃g:FX,v=.agg #[.slice g.A g.n g.a,.slice g.B g.m g.b]/\g.ds=[(l.length:Int)-1]/\g.cs=(l.map λz:Int=>nR ((z:Dyadic)*ti (-2)))/\g.at_ W
def afE(base:Nat)(E:Int)(D:List Nat)(ys:List Dyadic):VP:=λv W=>∃g:FX,v=.agg #[.slice g.A g.n g.a,.slice g.B g.m g.b]/\Out E D ys g/\∃q:World,base<=q.heap.size/\Hp q [g.gg,g.Kf] W
def agN(base:Nat)(E:Int)(D:List Nat)(ys c:List Dyadic):VP:=λv W=>∃g h:FX,v=.tuple #[.agg #[.slice g.A g.n g.a,.slice g.B g.m g.b],.agg #[.slice h.A h.n h.a,.slice h.B h.m h.b],.int .i64 E]/\Out E D ys g/\Out E D c h/\∃q:World,base<=q.heap.size/\Hp q [h.gg,h.Kf,g.Kf,g.gg] W
def sp(p:Int×Int):SR:=⟨nR (Go.Proofs.YtbencocchdpikaaGreatDoor.D p.1 0),nR (Go.Proofs.YtbencocchdpikaaGreatDoor.D p.2 0)⟩
def PI(p:Int×Int):List Value:=[.int .i64 p.1,.int .i64 p.2]
def abu(a:NR):Bool:=decide ((30:Int)<a.Va.size\/a.e< -200\/200<a.e)
def af6(s:SR):Bool:=abu s.lo||abu s.hi
def agB(b:List SR)(p:List NR):Bool:=(decide (8<b.length)||decide (8<p.length))||(b.any af6||p.any abu)
def exB:List SR:=[sp (0,4),sp (0,2)]
def SR.le(s:SR):¬s.Vi<s.Tf:=GU _ _
def SR.f_L(s:SR):s.f.Tf=s.Tf:=by
 have h:=s.le;show wR (nR s.Tf).da (nR s.Vi).da=s.Tf;rw[Ga,Ga,wR,Q' h]
def SR.f_H(s:SR):s.f.Vi=s.Vi:=by
 have h:=s.le;show CT (nR s.Tf).da (nR s.Vi).da=s.Vi;rw[Ga,Ga,CT];split
 .rfl
 rename_i g;grind
def agu(b:List SR)(a:Nat)(s:SR)(u:Bool):List SR:=(b.map SR.f).set a (s.f.half (nR s.f.lj) u)
def zX{s:SR}(h:s.lo.da<s.hi.da):s.Tf=s.lo.da/\s.Vi=s.hi.da:=by
 have h2:¬s.hi.da<s.lo.da:=by grind
 unfold SR.Tf SR.Vi wR CT;rw[Q' h2,P' h];exact⟨rfl,rfl⟩
def cG:ti (-1)+ti (-1)=1:=by decide+kernel
structure OnB(l:List TR)(ns:List Nat)(b:List SR)(X:List Dyadic):Prop where
 len:X.length=ea ns
 bl:b.length=ns.length
 up:∀s∈b,s.lo.da<s.hi.da
 vl:∀ts:List Dyadic,ts.length=ns.length->sf ns.reverse X ts=di (Vy b ts.reverse) l
def pK(b:List SR)(a:Nat)(s:SR)(u:Bool):List SR:=(b.map SR.f).set a (s.f.half (nR s.f.lj) u)
def vr{s:SR}(h:s.lo.da<s.hi.da):∃m,(nR s.f.lj).da=m/\m+m=s.Tf+s.Vi/\s.f.lo.da=s.Tf/\s.f.hi.da=s.Vi/\s.Tf<m/\m<s.Vi:=by
 obtain⟨X,Y⟩:=zX h;have N:s.f.lo.da=s.Tf:=Ga _;have a:s.f.hi.da=s.Vi:=Ga _;refine⟨s.f.lj,Ga _, ?_,N,a, ?_⟩
 .unfold SR.lj;rw[N,a];have:=cG;grind
 have b:s.f.lj+s.f.lj=s.Tf+s.Vi:=(by unfold SR.lj;rw[N,a];have:=cG;grind);rw[<-X,<-Y] at h;constructor<;>grind
def qX{a:Nat}{s:SR}{u:Bool}(F:∀s∈b,s.lo.da<s.hi.da)(K:b[a]?=some s):∀z∈pK b a s u,z.lo.da<z.hi.da:=λz o=>by
 have D:=N' K;obtain⟨m,S,N,L,X,E,H⟩:=vr (F s D);obtain h|rfl:=R8 o
 .obtain⟨y,hy,rfl⟩:=B'.1 h;obtain⟨c,f0,f1,f2,f3,f4,f5⟩:=vr (F y hy);rw[f2,f3];grind
 cases u with
 |false=>show s.f.lo.da<(nR s.f.lj).da;rw[S,L];exact E
 |true=>show(nR s.f.lj).da<s.f.hi.da;rw[S,X];exact H
def gQ{h:Int}(F:EW b.length h=false):∃s,b[(h/2).toNat]?=some s/\Gt b h=some (pK b (h/2).toNat s (decide (h % 2=1))):=by
 unfold EW at F;have h1:=of_decide_eq_false F;have J:0<=h:=Z';have N:h.fdiv 2=h/2:=Int.fdiv_eq_ediv_of_nonneg _ V';have L:h.tdiv 2=h/2:=Int.tdiv_eq_ediv_of_nonneg J;rw[L] at h1;obtain⟨s,K⟩:=aa (l:=b) (k:=(h/2).toNat) Z';refine⟨s,K, ?_⟩;unfold Gt;rw[N,Q' Z',K];rfl
def DQ{a:Nat}{s:SR}{u:Bool}(F:∀z∈b,z.fin k)(c:k+2<=3000000)(K:b[a]?=some s):∀z∈pK b a s u,z.fin (k+2):=by
 have M:=(x'.1 K).1;have h1:Gt b (2*(a:Int)+if u then 1 else 0)=some (pK b a s u):=by
  obtain⟨s2,h2,G⟩:=gQ (b:=b) (h:=2*(a:Int)+if u then 1 else 0) (by
   unfold EW;refine k' ?_;rw[Int.tdiv_eq_ediv_of_nonneg (by split<;>omega)];split<;>omega)
  have N:((2*(a:Int)+if u then 1 else 0)/2).toNat=a:=by split<;>omega
  have L:decide ((2*(a:Int)+if u then 1 else 0) % 2=1)=u:=by
   cases u with
   |true=>exact m' (by show(2*(a:Int)+1) % 2=1;omega)
   |false=>exact k' (by show ¬(2*(a:Int)+0) % 2=1;omega)
  rw[N] at h2;rw[K] at h2;rw[G,N,L,i' h2]
 exact(aJ F c h1).1
def ab1(J:b.length≠0)(h:∀s∈b,s.lo.da<s.hi.da):Ok b=0:=by
 unfold Ok;rw[Q',Q' J];rw[Bool.not_eq_true,E9];intro s K;have:=h s K;simpa using this
structure agS(p:PX)(b:List SR)(ns:List Nat)(X:List Dyadic):Prop where
 e:eg p b (Ha ns)=0
 x:An ns (Sc p (Na b)).2=X
def acd{p:PX}{ns:List Nat}(P:bt p b ns)(h:NQ p b ns):OnB p.ts ns b (An ns (Sc p (Na b)).2):=⟨IB _ _,P.nl.symm,λs K=>TT P.box K,h.vl⟩
def qK{c:Dyadic}{xs:List NR}{m:ByteArray}(hm:m.size=xs.length):∀k,k<=xs.length->TC c xs m k=c*Og ((Ac m).take k) ((xs.map NR.da).take k)
 |0,_=>(by show c=c*1;exact(Dyadic.mul_one c).symm)
 |k+1,u=>by
  have Q:=Vm m;obtain⟨x,C⟩:=aa (l:=xs) (k:=k) Z';obtain⟨e,he⟩:=aa (l:=m.data.toList) (k:=k) (by rw[<-Hc];omega);have h1:(Ac m)[k]?=some e.toNat:=by unfold Ac;rw[z',he];rfl
  have h2:(xs.map NR.da)[k]?=some x.da:=by rw[z',C];rfl
  have Y:nF xs m k=x.da^e.toNat:=by unfold nF;rw[C,he]
  rw[TC,Y,qK hm k Z',ja h1,ja h2,Ps _ _ _ _ (by simp;omega)];grind
def YT{xs:List NR}{ts:List TR}(h:∀t∈ts,t.m.size=xs.length):∀i,i<=ts.length->Zr xs ts i=di (xs.map NR.da) (ts.take i)
 |0,_=>rfl
 |i+1,hi=>(by obtain⟨t,S⟩:=aa (l:=ts) (k:=i) Z';have hm:=h t (N' S);have Q:=Vm t.m;rw[Zr,S,YT h i Z',ja S,xp];show di _ _+TC t.c.da xs t.m xs.length=di _ _+(t.c.da*Og (Ac t.m) (xs.map NR.da)+0);rw[qK hm xs.length (E' _),w' (l:=Ac t.m) Z',w' (l:=xs.map NR.da) (by rw[D'];exact E' _)];grind)
def PU{p:PX}{ys:List NR}(hp:p.e=0)(A:p.v=(ys.length:Int)):Mq p ys.length=0/\Tm p ys=nR (di (ys.map NR.da) p.ts):=by
 have J:Mq p ys.length=0:=by unfold Mq;rw[P' hp,P' A.symm]
 refine⟨J, ?_⟩;unfold Tm;rw[P' J,YT (λt S=> ?_) _ (E' _),X6];have:=(Gb hp).2.2.1 t S;unfold Qd at this;rw[l',h'] at this;omega
def eU{t:List NR}(S:t.length=b.length):(b.mapIdx λi s=>ch t i s.f).map NR.da=Vy b (t.map NR.da):=by
 refine g_ λi=> ?_;unfold Vy;rw[z',Y9,Y9,z']
 cases K:b[i]? with
 |none=>rfl
 |some s=>
  have hi:=(x'.1 K).1;obtain⟨x,C⟩:=aa (l:=t) (k:=i) Z';rw[C];show some (ch t i s.f).da=some (s.Tf+(s.Vi-s.Tf)*x.da);unfold ch;rw[C];show some (nR (s.f.at_ x.da)).da=_;rw[Ga];unfold SR.at_ SR.wid;rw[SR.f_L,SR.f_H,show s.f.lo.da=s.Tf from Ga _];congr 1;grind
def nQ{i:Nat}(hi:i<62):yh (k:Int) i=decide (Aw k i=1):=by
 have e:((k:Int).fdiv (2^i)) % 2=((Aw k i:Nat):Int):=(by rw[Int.fdiv_eq_ediv_of_nonneg _ (by exact Int.le_of_lt (Int.pow_pos V'))];unfold Aw;rw[Int.natCast_emod,Int.natCast_ediv,q6];rfl);unfold yh;rw[e,m' hi,L7];by_cases J:0<(k:Int)
 .rw[m' J,L7];exact decide_eq_decide.2 Z'
 obtain rfl:k=0:=Z';rw[k' J,Y6];have:Aw 0 i=0:=by unfold Aw;rw[Nat.zero_div]
 rw[this];rfl
def HJ(Q:b.length<=12):(b.mapIdx λi s=>cond (yh (k:Int) i) s.f.hi s.f.lo).map NR.da=Vy b ((lM b.length k).map nD):=by
 refine g_ λi=> ?_;unfold Vy;rw[z',Y9,Y9,z']
 cases K:b[i]? with
 |none=>rfl
 |some s=>
  have hi:=(x'.1 K).1;have F:(lM b.length k)[i]?=some (Aw k i):=by unfold lM;rw[z',f_ hi];rfl
  rw[F];show some (cond (yh (k:Int) i) s.f.hi s.f.lo).da=some (s.Tf+(s.Vi-s.Tf)*nD (Aw k i));rw[nQ Z'];congr 1;by_cases h1:Aw k i=1
  .rw[m' h1,h1,Pt];show s.f.hi.da=_;rw[show s.f.hi.da=s.Vi from Ga _];grind
  have J:Aw k i=0:=by unfold Aw at h1 |-;omega
  rw[k' h1,J,Vu];show s.f.lo.da=_;rw[show s.f.lo.da=s.Tf from Ga _];grind
def VH{A B:List Nat}{d t:Nat}{X:List Dyadic}(S:t<=d)(a:X.length=ea (A++d::B)):ei (ea A) d t X X.length=Du A B d t X:=by
 unfold ei Du;rw[a,EE A B d t S]
def Fz{ns:List Nat}{a:Nat}:(ns.eraseIdx a).reverse=(ns.drop (a+1)).reverse++(ns.take a).reverse:=by
 rw[List.eraseIdx_eq_take_drop_succ,g7]
def PM{ns:List Nat}{X T:List Dyadic}{a d side:Nat}(c:ns[a]?=some d)(t:X.length=ea ns)(e:T.length=ns.length)(K:side=0\/side=1):sf (ns.eraseIdx a).reverse (ei (ea (ns.drop (a+1))) d (d*side) X X.length) (T.take a++T.drop (a+1)).reverse=sf ns.reverse X (T.set a (nD side)).reverse/\(ei (ea (ns.drop (a+1))) d (d*side) X X.length).length=ea (ns.eraseIdx a):=by
 have M:=(x'.1 c).1;have Q:=NU c;have b:X.length=ea ((ns.drop (a+1)).reverse++d::(ns.take a).reverse):=by rw[<-Q,Cc];exact t
 have S:d*side<=d:=by obtain rfl|rfl:=K<;>omega
 rw[<-Cc (ns.drop (a+1)),VH S b,Fz,Q];have v:T.set a (nD side)=T.take a++nD side::T.drop (a+1):=by
  have h1:(T.set a (nD side))[a]?=some (nD side):=by rw[L9,P' rfl,P' Z']
  have:=NT h1;rw[this];rw[List.take_set_of_le (E' a),List.drop_set_of_lt (Nat.lt_succ_self a)]
 refine⟨?_, ?_⟩
 .rw[v,g7,g7,m8,H_,List.singleton_append];exact xT Z' (by rw[F_,F_,j_,j_];omega)
 rw[QO,<-Fz,Cc]
structure OnC(p q:List TR)(b0:List SR)(c:CV):Prop where
 p:OnB p c.D c.b c.X
 q:OnB q c.D c.b c.Y
 inb:∀(i:Nat)(s z:SR),c.b[i]?=some s->b0[i]?=some z->z.Tf<=s.lo.da/\s.hi.da<=z.Vi
 len:c.b.length=b0.length
def InC(N:List Dyadic)(c:CV):Prop:=∃us:List Dyadic,us.length=c.D.length/\(∀t∈us,0<=t/\t<1)/\Vy c.b us=N
structure afs(q:List TR)(b0:List SR)(eps:Dyadic)(A:List NR):Prop where
 len:A.length=b0.length
 has:hasB b0 A=true
 ahw:Fe (di (A.map NR.da) q)<eps
 num:∀y∈A,y.ok/\Sz 1000 y.da
def ah4(p q:List TR)(b0:List SR)(eps:Dyadic)(N:List Dyadic)(R:RV):Prop:=(R.k=1/\R.at_=[]/\af5 R.s (di N p) (di N q)/\R.s.fin 1002014)\/(R.k=2/\R.s=SR0/\afs q b0 eps R.at_)
def iD:∀(n:Nat)(b:List SR),b.length=n+1->∃(a:Nat),qm b (a:Int)/\a<b.length
 |0,b,h=>by
  match b,h with
  |[s],_=>exact⟨0,Tv (b:=[]) s,Nat.zero_lt_one⟩
 |n+1,b,h=>by
  obtain⟨l,s,rfl⟩:∃l s,b=l++[s]:=⟨b.dropLast,b.getLast (by intro h1;rw[h1] at h;cases h),(List.dropLast_concat_getLast _).symm⟩;have Q:l.length=n+1:=by rw[y'] at h;simpa using h
  obtain⟨a,M,x⟩:=iD n l Q;obtain⟨h1,_⟩|⟨m,u,hu,hm,T,j⟩:=M
  .rw[h1] at Q;cases Q
  obtain rfl:a=m:=Z';by_cases hw:u.wid<s.wid
  .exact⟨l.length,fG T hw,by rw[y'];exact Nat.lt_succ_self _⟩
  exact⟨a,EG hu T j hw,by rw[y'];omega⟩
def KL{v w:Int}(h:qm b v)(S:qm b w):v=w:=by
 obtain⟨h1,h2⟩|⟨m,u,hu,hm,T,j⟩:=h
 .obtain⟨_,G⟩|⟨p,a,d,_⟩:=S
  .omega
  rw[h1] at d;cases d
 obtain⟨h1,_⟩|⟨p,a,d,c,q,s⟩:=S
 .rw[h1] at hu;cases hu
 obtain D|rfl|D:=Nat.lt_trichotomy m p
 .exact absurd (s m u D hu) (T p a d)
 .omega
 exact absurd (j p a D d) (q m u hu)
def Vx{B:Nat}:∀D:List Nat,(∀d∈D,d<=B)->ea D<=(B+1)^D.length
 |[],_=>E' _
 |d::D,h=>(by rw[ea,T_,B_,V_];exact G9 (Vx D λx C=>h x (L' _ C)) (by have:=h d I';omega))
structure agT(p q:List TR)(b0:List SR)(n:Nat)(c:CV):Prop where
 on:OnC p q b0 c
 fin:∀s∈c.b,s.fin (124+2*n)
 d3:c.D.length<=3
 d0:c.D.length≠0
 d2:∀d∈c.D,d<=2
 zx:∀x∈c.X,Sz (50000+300*n) x
 zy:∀x∈c.Y,Sz (50000+300*n) x
def AL{v:Int}(h:vf v ts=0)(K:∀t∈ts,t.m.size<=3)(C:∀t∈ts,∀c∈t.m.data.toList,c.toNat<=2):ea (Tb v ts)<=27:=by
 have Q:=(Xi h).2.1
 cases ts with
 |nil=>
  have h1:=Vx (B:=0) (Tb v []) (kC h λt S=>absurd S h_);rw[Nat.one_pow] at h1;omega
 |cons t ts=>
  have h1:=Vx (B:=2) _ (kC h C);have h2:=(Gb h).2.2.1 t I';unfold Qd at h2;rw[l',h'] at h2;have G:=K t I';exact d' h1 (d' (J_ V' (show(Tb v (t::ts)).length<=3 by omega)) V')
structure NH(p:PX):Prop where
 n:p.ts.length<=8
 ok:ug 400 p.ts
 sz:∀t∈p.ts,t.m.size<=3
 ex:∀t∈p.ts,∀c∈t.m.data.toList,c.toNat<=2
structure Ow(ps:List PX)(b:List SR):Prop where
 ln:b.length=ps.length
 pos:0<ps.length
 fit:∀p∈ps,bt p b (Tb p.v p.ts)
def GL{p:PX}(h:p.e=0)(J:0<p.v):Ml p []=Ha (Tb p.v p.ts)/\Ha (Tb p.v p.ts)≠[]:=by
 obtain⟨M,a,_⟩:=Xi h;refine⟨by unfold Ml;rw[P' B7];exact M,λe=> ?_⟩;have:=Y_ List.length e;rw[Ub,a] at this;have:p.v.toNat=0:=this;omega
def yp{X:List PX}(h:vt X b=0):Ow X b:=by
 unfold vt at h;split at h
 .rename_i p hp;have G:=K6 hp;exact absurd h (O9 G)
 rename_i hp;have h2:¬(X.length=0\/X.length≠b.length\/8<X.length):=λc=>by rw[P' c] at h;cases h
 refine⟨Z',Z',λp H=> ?_⟩;have G:eg p b []=0:=by simpa using a8.1 hp p H
 unfold eg at G;by_cases z:Il p b (Ml p [])=0
 .obtain⟨_,P⟩:=uC z;have A:=P.v;have hp:=P.pos;rwa[(GL P.e Z').1,Kv] at P
 rw[P' z] at G;exact absurd G z
structure Zw(ps:List PX)(n:Nat)(b:List SR):Prop where
 ln:b.length=ps.length
 up:∀s∈b,s.lo.da<s.hi.da
 bx:∀s∈b,s.fin (40+2*n)
def Kl.mono{l:Nat}{a:NR}(h:Kl k a)(Q:k<=l):Kl l a:=⟨h.1,h.2.mono Q⟩
variable {m:Nat}
def Zw.mono{X:List PX}(h:Zw X n b)(hm:n<=m):Zw X m b:=⟨h.ln,h.up,λs K=>⟨(h.bx s K).1.mono Z',(h.bx s K).2.mono Z'⟩⟩
def Zw.half{X:List PX}{a:Nat}{s:SR}(h:Zw X n b)(B:n<=1000)(K:b[a]?=some s)(u:Bool):Zw X (n+1) (uj b a s u):=
 ⟨by unfold uj;rw[d_,D'];exact h.ln,qX h.up K,λz o=>DQ (k:=40+2*n) h.bx Z' K z o⟩
def Zw.first{X:List PX}(h:Ow X b)(F:∀s∈b,s.fin 36):Zw X 0 (b.map SR.f):=by
 have P:∀s∈b,s.lo.da<s.hi.da:=(by obtain⟨p,hp⟩:=List.exists_mem_of_length_pos h.pos;exact λs K=>TT (h.fit p hp).box K);refine⟨by rw[D'];exact h.ln,λz o=> ?_,λz o=> ?_⟩
 .obtain⟨s,K,rfl⟩:=B'.1 o;obtain⟨N,f0,f1,f2,f3,f4,f5⟩:=vr (P s K);rw[f2,f3];grind
 obtain⟨s,K,rfl⟩:=B'.1 o;have:=SR.Im (F s K) V';exact⟨this.1.mono Z',this.2.mono Z'⟩
structure OnP(p:PX)(b:List SR):Prop where
 e:eg p b []=0
 f:bt p b (Tb p.v p.ts)
 s:(Sc p (Na b)).1=0
 c:ea (Tb p.v p.ts)<=27
 g:He (400+400+16394) (Tb p.v p.ts) (400+1)<=440000
 o:OnB p.ts (Tb p.v p.ts) b (An (Tb p.v p.ts) (Sc p (Na b)).2)
 z:Vt 47000 (Tb p.v p.ts,An (Tb p.v p.ts) (Sc p (Na b)).2)
def onP{X:List PX}{b0:List SR}{p:PX}(h:Ow X b0)(F:Zw X n b)(B:n<=50)(hp:p∈X)(sp:NH p):OnP p b:=by
 have P:=h.fit p hp;have Q:=F.ln;have S:=h.ln;have q:=P.v;have A:=h.pos;have E:=AL P.e sp.sz sp.ex;have a:∀z∈b,z.fin 400:=λz o=>⟨(F.bx z o).1.mono Z',(F.bx z o).2.mono Z'⟩;have w:(Tb p.v p.ts).length=b.length:=by rw[P.dm];omega
 obtain⟨G,T,j⟩:=abz (k:=400) P.e (ab1 Z' F.up) Z' Z' w P.low Z' P.own a V';have hex:∀t∈p.ts,∀c∈t.m.data.toList,c.toNat<=4:=λt i c E=>d' (sp.ex t i c E) V';have s:=jA (k:=400) P.e hex Z' V';have l:=YV T j sp.ok a V' s;have r:=kC P.e sp.ex;have g:(Tb p.v p.ts).sum<=9:=SQ (λd f=>by have:=r d f;omega) E V';obtain⟨s1,_⟩:=EO T sp.ok a V' E V' g V' j;have s2:=(qt T sp.ok a V' s j).2;refine⟨?_,T,j,E,s,acd T l,⟨by rw[w];exact T.Kp,T.low,IB _ _,d' E V',λx C=> ?_⟩⟩
 .rw[<-G];obtain⟨d1,d2⟩:=GL P.e Z';unfold eg;rw[d1,show Ml p (Ha (Tb p.v p.ts))=Ha (Tb p.v p.ts) from Q' λe=>d2 (I7.1 e)]
 refine(E0 s2 s1.ok T.low x C).mono ?_;have:=T.Kp;have:=(Gb s1.e).2.1;rw[w];omega
def BL{xs:List NR}{m:ByteArray}{c:Dyadic}{q u:Nat}(E:Sz u c)(C:∀x∈xs,Sz q x.da)(hm:∀e∈m.data.toList,e.toNat<=2):∀k,Sz (u+(1+2*q)*k) (TC c xs m k)
 |0=>E
 |k+1=>by
  refine((BL E C hm k).mul (l:=1+2*q) ?_).mono (by rw[o9];omega);unfold nF;split
  .rename_i x e h1 h2;have he:=hm e (N' h2);exact((C x (N' h1)).pow e.toNat).mono (by have:=D_ q he;omega)
  exact Sz.one.mono Z'
def GS{xs:List NR}{ts:List TR}{q u:Nat}(C:∀x∈xs,Sz q x.da)(S:ug u ts)(hm:∀t∈ts,∀e∈t.m.data.toList,e.toNat<=2):∀i,Sz (u+(1+2*q)*xs.length+i) (Zr xs ts i)
 |0=>Sz.zero _
 |i+1=>by
  show Sz (u+(1+2*q)*xs.length+i+1) (Zr xs ts i+_);refine(GS C S hm i).add ?_;split
  .rename_i t h;have K:=N' h;exact(BL (S t K).2 C (hm t K) xs.length).mono Z'
  exact Sz.zero _
def NH.BT{p:PX}(h:NH p)(he:p.e=0)(n:Nat)(B:8<=n):om p.v 400 n 2 p.ts:=⟨he,h.ok,λt S=>d' (h.sz t S) V',d' h.n B,h.ex⟩
def uU{p:PX}(sp:NH p)(he:p.e=0)(F:∀s∈b,s.fin 140)(Q:b.length<=3):∀a∈yk (rp b) p,a.ok/\Sz 2600 a.da:=λa M=>by
 unfold yk at M;obtain⟨i,hi,rfl⟩:=B'.1 M;have key:Sz 2600 (wk p (rp b) i).da/\∃x,wk p (rp b) i=nR x:=by
  unfold wk Tm;split
  .rw[Ga];refine⟨?_,_,rfl⟩;have g:=yE i (sp.BT he 8 (E' _)) V' V';have C:∀x∈rp b,Sz 142 x.da:=λy hy=>(by unfold rp at hy;obtain⟨j,hj,rfl⟩:=List.mem_mapIdx.1 hy;have h1:=SR.Im (F _ (List.getElem_mem hj)) V';rw[Ga];exact Sz.lj h1.1.sz h1.2.sz);have r:(rp b).length<=3:=by unfold rp;rw[q8];exact Q
   have G:=g.len;refine(GS C g.ok g.ex _).mono ?_;show _+(oa (xm i p.ts)).length<=_;omega
  rw[Ga];exact⟨Sz.zero _,_,rfl⟩
 obtain⟨h1,x,h2⟩:=key;rw[h2,Ga] at h1;rw[h2,Ga];exact⟨h1.ok V',h1⟩
def acN{X:List PX}{b0:List SR}(h:Ow X b0)(G:X.length<=3)(F:Zw X n b)(B:n<=50)(sp:∀p∈X,NH p):vt X b=0:=by
 have Q:=F.ln;have hp:=h.pos;rw[AK λp hp=>(onP h F B hp (sp p hp)).e,Q' Z']
def aab{X:List PX}{b0:List SR}(h:Ow X b0)(G:X.length<=3)(F:Zw X n b)(B:n<=50)(sp:∀p∈X,NH p):kF X b:=by
 have Q:=F.ln;refine⟨acN h G F B sp,λp hp _=>(onP h F B hp (sp p hp)).g,λs K=>⟨(F.bx s K).1.mono Z',(F.bx s K).2.mono Z'⟩,λd T=> ?_,λl k=> ?_,Q⟩
 .unfold Mj at T;obtain⟨p,hp,rfl⟩:=B'.1 T;exact(onP h F B hp (sp p hp)).z
 unfold fk at k;obtain⟨p,hp,rfl⟩:=B'.1 k;exact uU (sp p hp) (h.fit p hp).e (λs K=>⟨(F.bx s K).1.mono Z',(F.bx s K).2.mono Z'⟩) Z'
def Rv{X:List PX}{b0:List SR}{tol:Dyadic}{g bu:Int}(h:Ow X b0)(G:X.length<=3)(sp:∀p∈X,NH p)(r:bu<=40):∀(f n:Nat)(st:List (List SR))(l:List ZV),(∀b∈st,Zw X n b)->bu+1<(n:Int)+f->((n:Int)<=bu\/0<f)->n<=45->∃R k e,Ro X tol g bu f n st l R k e
 |f,n,[],l,_,_,_,_=>⟨l,n,0,by cases f<;>exact⟨rfl,rfl,rfl⟩⟩
 |0,n,b::st,l,_,h1,h2,_=>by omega
 |f+1,n,b::st,l,j,h1,h2,z=>by
  by_cases F:bu<(n+1:Nat)
  .exact⟨[],0,3,by rw[Ro,P' F];exact⟨rfl,rfl,rfl⟩⟩
  have i:=j b I';have E:=aab h G i Z' sp;have L:∀c∈st,Zw X (n+1) c:=λc E=>(j c (L' _ E)).mono Z';by_cases B:Gk (Mj X b)=true
  .obtain⟨R,k,e,u⟩:=Rv (tol:=tol) (g:=g) (bu:=bu) h G sp r f (n+1) st l L Z' Z' Z';exact⟨R,k,e,by rw[Ro,Q' F,P' B];exact⟨E,u⟩⟩
  by_cases C:Le X b=true
  .obtain⟨R,k,e,u⟩:=Rv (tol:=tol) (g:=g) (bu:=bu) h G sp r f (n+1) st (l++[⟨1,b,Ph g (Mj X b)⟩]) L Z' Z' Z';exact⟨R,k,e,by rw[Ro,Q' F,Q' B,P' C];exact⟨E,u⟩⟩
  have Q:=i.ln;have hp:=h.pos;obtain⟨a,M,x⟩:=iD (b.length-1) b Z';obtain⟨s,K⟩:=aa x;by_cases S:s.hi.da-s.lo.da<tol
  .obtain⟨R,k,e,u⟩:=Rv (tol:=tol) (g:=g) (bu:=bu) h G sp r f (n+1) st (l++[⟨2,b,Ph g (Mj X b)⟩]) L Z' Z' Z';exact⟨R,k,e,by rw[Ro,Q' F,Q' B,Q' C];exact⟨E,a,s,λv A=>KL A M,K,by rw[P' S];exact u⟩⟩
  obtain⟨R,k,e,u⟩:=Rv (tol:=tol) (g:=g) (bu:=bu) h G sp r f (n+1) (uj b a s false::uj b a s true::st) l (λc E=>by
   obtain rfl|E:=u'.1 E
   .exact i.half Z' K false
   obtain rfl|E:=u'.1 E
   .exact i.half Z' K true
   exact L c E) Z' Z' Z'
  exact⟨R,k,e,by rw[Ro,Q' F,Q' B,Q' C];exact⟨E,a,s,λv A=>KL A M,K,by rw[Q' S];exact u⟩⟩
def Ln{X:List PX}{tol:Dyadic}{g bu:Int}{m:Nat}:∀(f n:Nat)(st:List (List SR))(l R:List ZV)(k:Int),Ro X tol g bu f n st l R k 0->Ro X tol g (bu+m) f n st l R k 0
 |f,n,[],l,R,k,h=>by cases f<;>exact h
 |0,n,b::st,l,R,k,h=>h
 |f+1,n,b::st,l,R,k,h=>by
  rw[Ro] at h |-;by_cases F:bu<(n+1:Nat)
  .rw[P' F] at h;exact absurd h.2.2 V'
  rw[Q' F] at h;rw[Q' Z'];refine⟨h.1, ?_⟩;replace h:=h.2;by_cases B:Gk (Mj X b)=true
  .rw[P' B] at h |-;exact Ln f _ _ _ _ _ h
  rw[Q' B] at h |-;by_cases C:Le X b=true
  .rw[P' C] at h |-;exact Ln f _ _ _ _ _ h
  rw[Q' C] at h |-;obtain⟨a,s,h1,h2,h⟩:=h;refine⟨a,s,h1,h2, ?_⟩;split at h
  .rename_i c;rw[P' c];exact Ln f _ _ _ _ _ h
  rename_i c;rw[Q' c];exact Ln f _ _ _ _ _ h
def Uq{X:List PX}{tol:Dyadic}{g bu:Int}:∀(f n:Nat)(st:List (List SR))(l R:List ZV)(k e:Int),e≠0->Ro X tol g bu f n st l R k e->R=[]/\k=0
 |f,n,[],l,R,k,e,he,h=>absurd (by cases f<;>exact h.2.2) he
 |0,n,b::st,l,R,k,e,he,h=>absurd h id
 |f+1,n,b::st,l,R,k,e,he,h=>by
  rw[Ro] at h;by_cases F:bu<(n+1:Nat)
  .rw[P' F] at h;exact⟨h.1,h.2.1⟩
  rw[Q' F] at h;replace h:=h.2;by_cases B:Gk (Mj X b)=true
  .rw[P' B] at h;exact Uq f _ _ _ _ _ _ he h
  rw[Q' B] at h;by_cases C:Le X b=true
  .rw[P' C] at h;exact Uq f _ _ _ _ _ _ he h
  rw[Q' C] at h;obtain⟨a,s,h1,h2,h⟩:=h;split at h
  .exact Uq f _ _ _ _ _ _ he h
  exact Uq f _ _ _ _ _ _ he h
def UZ(N:List Dyadic)(b:List SR):Prop:=∃us:List Dyadic,us.length=b.length/\(∀t∈us,0<=t/\t<1)/\Vy b us=N
structure nT(b0 b:List SR):Prop where
 ln:b.length=b0.length
 inb:∀(i:Nat)(s z:SR),b[i]?=some s->b0[i]?=some z->z.lo.da<=s.lo.da/\s.hi.da<=z.hi.da
def Rx{a:Nat}{s:SR}(up:∀s∈b,s.lo.da<s.hi.da)(K:b[a]?=some s)(u:Bool):nT b (uj b a s u):=by
 have M:=(x'.1 K).1;refine⟨by unfold uj;rw[d_,D'],λi x z C o=> ?_⟩;unfold uj at C;rw[L9] at C;obtain⟨m,S,N,L,X,E,H⟩:=vr (up z (N' o));obtain⟨T,j⟩:=zX (up z (N' o));by_cases hi:a=i
 .subst hi;rw[K] at o;obtain rfl:=i' o;rw[P' rfl,P' (by rw[D'];exact M)] at C;rw[<-i' C]
  cases u with
  |false=>
   show s.lo.da<=s.f.lo.da/\(nR s.f.lj).da<=s.hi.da;rw[S,L];constructor<;>grind
  |true=>
   show s.lo.da<=(nR s.f.lj).da/\s.f.hi.da<=s.hi.da;rw[S,X];constructor<;>grind
 rw[Q' hi,z',o] at C;have C:z.f=x:=i' C;rw[<-C,L,X];constructor<;>grind
def nT.trans{a c:List SR}(h1:nT a b)(h2:nT b c):nT a c:=by
 refine⟨h2.ln.trans h1.ln,λi s z K o=> ?_⟩;obtain⟨y,hy⟩:=aa (l:=b) (k:=i) (by rw[h1.ln];exact(x'.1 o).1);obtain⟨J,d⟩:=h1.inb i y z hy o;obtain⟨G,T⟩:=h2.inb i s y K hy;constructor<;>grind
def Apart(a b:List SR):Prop:=∃(i:Nat)(s t:SR),a[i]?=some s/\b[i]?=some t/\(s.hi.da<=t.lo.da\/t.hi.da<=s.lo.da)
def Apart.symm{a:List SR}(h:Apart a b):Apart b a:=let⟨i,s,t,h1,h2,G⟩:=h;⟨i,t,s,h2,h1,G.symm⟩
def Apart.wth{a c:List SR}(h:Apart a b)(hw:nT a c):Apart c b:=by
 obtain⟨i,s,t,h1,h2,G⟩:=h;obtain⟨y,hy⟩:=aa (l:=c) (k:=i) (by rw[hw.ln];exact(x'.1 h1).1);obtain⟨J,o⟩:=hw.inb i y s hy h1;exact⟨i,y,t,hy,h2,G.imp (λh=>by grind) λh=>by grind⟩
def yB{a:Nat}{s:SR}(K:b[a]?=some s):Apart (uj b a s false) (uj b a s true):=by
 have M:=(x'.1 K).1;have e:∀u,(uj b a s u)[a]?=some (s.f.half (nR s.f.lj) u):=λu=>(by unfold uj;rw[L9,P' rfl,P' (by rw[D'];exact M)]);exact⟨a,_,_,e false,e true,.inl (by show(nR s.f.lj).da<=(nR s.f.lj).da;grind)⟩
def DR{R:α->α->Prop}{l st:List α}{b c d:α}(h:(l++b::st).Pairwise R)(E:∀x,R x b->R x c)(T:∀x,R x b->R x d)(o:∀x,R b x->R c x)(a:∀x,R b x->R d x)(P:R c d):(l++c::d::st).Pairwise R:=by
 rw[n6] at h |-;obtain⟨h1,h2,G⟩:=h;rw[C9] at h2;refine⟨h1, ?_,λx C y hy=> ?_⟩
 .rw[C9,C9];refine⟨λy hy=> ?_,λy hy=>a y (h2.1 y hy),h2.2⟩;obtain rfl|hy:=u'.1 hy
  .exact P
  exact o y (h2.1 y hy)
 obtain rfl|hy:=u'.1 hy
 .exact E x (G x C b I')
 obtain rfl|hy:=u'.1 hy
 .exact T x (G x C b I')
 exact G x C y (L' _ hy)
structure iL(ps:List PX)(b0:List SR)(tol:Dyadic)(g:Int)(z:ZV):Prop where
 ok:Zw ps 50 z.b
 wt:nT b0 z.b
 rs:z.r=Ph g (Mj ps z.b)
 kd:(z.k=1/\Le ps z.b=true)\/(z.k=2/\∀s∈z.b,s.hi.da-s.lo.da<tol)
def aQ{a:Nat}{s:SR}(up:∀s∈b,s.lo.da<s.hi.da)(h:∀v,qm b v->v=(a:Int))(K:b[a]?=some s):∀t∈b,t.hi.da-t.lo.da<=s.hi.da-s.lo.da:=λt S=>by
 have M:=(x'.1 K).1;obtain⟨v,A,_⟩:=iD (b.length-1) b Z';have D:=h _ A;obtain⟨F,_⟩|⟨m,s',h1,h2,G,_⟩:=A
 .rw[F] at S;exact absurd S h_
 obtain rfl:m=a:=Z';rw[K] at h1;obtain rfl:=i' h1;obtain⟨j,hj⟩:=C_.1 S;have z:=G j t hj;obtain⟨T,e⟩:=zX (up t S);obtain⟨f,X⟩:=zX (up s (N' K));have N:t.wid=t.Vi-t.Tf:=rfl;have c:s.wid=s.Vi-s.Tf:=rfl;rw[N,c] at z;grind
def Bn{X:List PX}{b0:List SR}{tol:Dyadic}{g bu:Int}(r:bu<=40):∀(f n:Nat)(st:List (List SR))(l R:List ZV)(k:Int),Ro X tol g bu f n st l R k 0->(∀b∈st,Zw X n b/\nT b0 b)->(∀z∈l,iL X b0 tol g z)->(l.map ZV.b++st).Pairwise Apart->(∀z∈R,iL X b0 tol g z)/\(R.map ZV.b).Pairwise Apart/\(n:Int)<=k/\(k<=bu\/k=n)
 |f,n,[],l,R,k,u,_,j,hp=>by
  have hR:R=l/\k=n:=by cases f<;>exact⟨u.1,u.2.1⟩
  rw[hR.1,hR.2];rw[M_] at hp;exact⟨j,hp,A7 _,.inr rfl⟩
 |0,n,b::st,l,R,k,u,_,_,_=>absurd u id
 |f+1,n,b::st,l,R,k,u,i,j,hp=>by
  rw[Ro] at u;by_cases F:bu<(n+1:Nat)
  .rw[P' F] at u;exact absurd u.2.2 V'
  rw[Q' F] at u;replace u:=u.2;obtain⟨e,v⟩:=i b I';have L:∀c∈st,Zw X (n+1) c/\nT b0 c:=λc E=>⟨(i c (L' _ E)).1.mono Z',(i c (L' _ E)).2⟩;have fin:∀{P Q:Prop},P/\Q/\((n+1:Nat):Int)<=k/\(k<=bu\/k=(n+1:Nat))->P/\Q/\(n:Int)<=k/\(k<=bu\/k=n):=λ{P Q} h=>⟨h.1,h.2.1,by have:=h.2.2.1;omega,.inl (by have:=h.2.2.1;have:=h.2.2.2;omega)⟩;by_cases B:Gk (Mj X b)=true
  .rw[P' B] at u;refine fin (Bn r f (n+1) st l R k u L j (hp.sublist ?_));exact List.Sublist.append (P_ _) (r_ _ _)
  rw[Q' B] at u;have D:∀q:Int,((q=1/\Le X b=true)\/(q=2/\∀s∈b,s.hi.da-s.lo.da<tol))->(∀z∈l++[⟨q,b,Ph g (Mj X b)⟩],iL X b0 tol g z)/\((l++[(⟨q,b,Ph g (Mj X b)⟩:ZV)]).map ZV.b++st).Pairwise Apart:=λq A=>by
   refine⟨λz o=> ?_,by rw[G_,H_];exact hp⟩;obtain o|o:=O_.1 o
   .exact j z o
   rw[q'.1 o];exact⟨e.mono Z',v,rfl,A⟩
  by_cases C:Le X b=true
  .rw[P' C] at u;obtain⟨J,m⟩:=D 1 (.inl ⟨rfl,C⟩);exact fin (Bn r f (n+1) st _ R k u L J m)
  rw[Q' C] at u;obtain⟨a,s,y,K,u⟩:=u;split at u
  .rename_i S;obtain⟨J,m⟩:=D 2 (.inr ⟨rfl,λt p=>by have:=aQ e.up y K t p;grind⟩);exact fin (Bn r f (n+1) st _ R k u L J m)
  refine fin (Bn r f (n+1) _ l R k u (λc E=> ?_) j ?_)
  .obtain rfl|E:=u'.1 E
   .exact⟨e.half Z' K false,v.trans (Rx e.up K false)⟩
   obtain rfl|E:=u'.1 E
   .exact⟨e.half Z' K true,v.trans (Rx e.up K true)⟩
   exact L c E
  have w:=Rx e.up K;exact DR hp (λx h=>(h.symm.wth (w false)).symm) (λx h=>(h.symm.wth (w true)).symm) (λx h=>h.wth (w false)) (λx h=>h.wth (w true)) (yB K)
def wA(x:Dyadic)(y):Re [x,y]=x*y:=by show(1:Dyadic)*x*y=_;grind
def Sr{x y z:Dyadic}(o:0<z)(h:x*z<=y*z):x<=y:=by
 refine L8 λc=> ?_;have h1:=Lean.Grind.OrderedRing.mul_pos (a:=x-y) (b:=z) (by grind) o;grind
def pL(b:Int)(hw:b= -1\/b=1)(a:SR):∀(l:List SR),(∀x∈a::l,0<x.hi.da)->∀x∈a::l,if b= -1 then(oe b a l).lo.da*x.hi.da<=x.lo.da*(oe b a l).hi.da else x.lo.da*(oe b a l).hi.da<=(oe b a l).lo.da*x.hi.da:=by
 have w:∀(r done:List SR)(o:SR),0<o.hi.da->(∀x∈done,0<x.hi.da)->(∀x∈r,0<x.hi.da)->(∀x∈done,if b= -1 then o.lo.da*x.hi.da<=x.lo.da*o.hi.da else x.lo.da*o.hi.da<=o.lo.da*x.hi.da)->
   ∀x∈done++r,if b= -1 then(r.foldl (λout x=>if Ip x out=b then x else out) o).lo.da*x.hi.da<=x.lo.da*(r.foldl (λout x=>if Ip x out=b then x else out) o).hi.da else x.lo.da*(r.foldl (λout x=>if Ip x out=b then x else out) o).hi.da<=(r.foldl (λout x=>if Ip x out=b then x else out) o).lo.da*x.hi.da:=by
  intro r
  induction r with
  |nil=>
   intro done o _ _ _ h x C;rw[M_] at C;exact h x C
  |cons y r i=>
   intro done o W T H h x C;rw[S8];have hy:=H y I';have f:=λx C=>H x (L' _ C);have e:Ip y o=We (y.lo.da*o.hi.da) (o.lo.da*y.hi.da):=(by unfold Ip wj;rw[wA,wA]);have g:x∈(done++[y])++r:=by rw[H_];exact C
   have S:∀x∈done++[y],0<x.hi.da:=λx C=>(O_.1 C).elim (T x) λC=>by rw[q'.1 C];exact hy
   have X:=tq (y.lo.da*o.hi.da) (o.lo.da*y.hi.da);have Y:=Tu (y.lo.da*o.hi.da) (o.lo.da*y.hi.da);rw[e];by_cases E:We (y.lo.da*o.hi.da) (o.lo.da*y.hi.da)=b
   .rw[P' E];refine i (done++[y]) y hy S f (λz c=> ?_) x g;obtain c|c:=O_.1 c
    .have h1:=h z c;have k:=T z c;obtain rfl|rfl:=hw
     .rw[P' rfl] at h1 |-;have h2:=X.1 Z';refine Sr W ?_;have G:=xj (x:=o.lo.da*y.hi.da-y.lo.da*o.hi.da) (y:=z.hi.da) (by grind) (by grind);have j:=xj (x:=z.lo.da*o.hi.da-o.lo.da*z.hi.da) (y:=y.hi.da) (by grind) (by grind);grind
     rw[Q' V'] at h1 |-;have h2:=Y.1 Z';refine Sr W ?_;have G:=xj (x:=y.lo.da*o.hi.da-o.lo.da*y.hi.da) (y:=z.hi.da) (by grind) (by grind);have j:=xj (x:=o.lo.da*z.hi.da-z.lo.da*o.hi.da) (y:=y.hi.da) (by grind) (by grind);grind
    rw[q'.1 c];split<;>grind
   rw[Q' E];refine i (done++[y]) o W S f (λz c=> ?_) x g;obtain c|c:=O_.1 c
   .exact h z c
   rw[q'.1 c];have N:=VB (y.lo.da*o.hi.da) (o.lo.da*y.hi.da);obtain rfl|rfl:=hw
   .rw[P' rfl];have:¬y.lo.da*o.hi.da<o.lo.da*y.hi.da:=λh=>by have:=X.2 h;omega
    grind
   rw[Q' V'];have:¬o.lo.da*y.hi.da<y.lo.da*o.hi.da:=λh=>by have:=Y.2 h;omega
   grind
 intro l hp x C;have:=w l [a] a (hp a I') (λy hy=>by rw[q'.1 hy];exact hp a I') (λy hy=>hp y (L' _ hy)) (λy hy=>by rw[q'.1 hy];split<;>grind) x C;exact this
def eS(h:0<k):0<nD k:=by
 unfold nD;rw[show(0:Dyadic)=Dyadic.ofIntWithPrec 0 0 from rfl,show((k:Int):Dyadic)=Dyadic.ofIntWithPrec (k:Int) 0 from rfl,ll];omega
def JV{X:List Dyadic}{ns:List Nat}{us:List Dyadic}(p:Int)(C:X.length=ea ns)(Q:us.length=ns.length)(hu:∀t∈us,0<=t/\t<1):(ki X ns p).lo.da<=sf ns.reverse X us.reverse/\sf ns.reverse X us.reverse<=(ki X ns p).hi.da:=by
 have f:∀t∈us.reverse,0<=t/\t<1:=λt h=>hu t (y8.1 h);have g:sf ns.reverse ((Wr ns).map nD) us.reverse=1:=(by rw[<-AB ns.reverse us.reverse (by rw[F_,F_];exact Q)];unfold sf;refine Ua λq R=> ?_;rw[z'];unfold Wr;rw[z',f_ (S_.1 R)];rfl);have s:(xe X ns).length=ea ns:=(by unfold xe rv;rw[R7,D',Zn];omega);have M:∀q,q<ea ns.reverse->∃x k:_,X[q]?=some x/\((Wr ns).map nD)[q]?=some k/\0<k/\(⟨nR x,nR k⟩:SR)∈xe X ns:=λq R=>by
  rw[Cc] at R;obtain⟨x,h1⟩:=aa (l:=X) (k:=q) Z';obtain⟨k,h2⟩:=aa (l:=Wr ns) (k:=q) (by rw[Zn];exact R);refine⟨x,nD k,h1,by rw[z',h2];rfl, ?_,C_.2 ⟨q, ?_⟩⟩
  .obtain⟨j,_,e⟩:=B'.1 (N' h2);rw[<-e];exact eS (Zu _ _)
  unfold xe rv;rw[n9,h1,z',h2];rfl
 have W:∀x∈xe X ns,0<x.hi.da:=λx C=>by
  unfold xe rv at C;obtain⟨q,R⟩:=C_.1 C;rw[n9] at R
  cases h1:X[q]? with
  |none=>rw[h1] at R;cases R
  |some y=>
   cases h2:((Wr ns).map λk=>nR (nD k))[q]? with
   |none=>rw[h1,h2] at R;cases R
   |some z=>
    rw[h1,h2] at R;obtain⟨k,u,rfl⟩:=B'.1 (N' h2);rw[<-i' R];show 0<(nR (nD k)).da;rw[Ga];obtain⟨j,_,e⟩:=B'.1 u;rw[<-e];exact eS (Zu _ _)
 unfold ki
 cases b:xe X ns with
 |nil=>
  rw[b] at s;have:=Pb ns;replace s:0=ea ns:=s;omega
 |cons a l=>
  rw[b] at W M;have n:=qj (-1) a l;have N:=qj 1 a l;have G:=pL (-1) (.inl rfl) a l W;have T:=pL 1 (.inr rfl) a l W;have J:=W _ n;have o:=W _ N;unfold vA xD;show(nR (aH _ _ p)).da<=_/\_<=(nR (-aH _ _ p)).da;rw[Ga,Ga];have r:=rM (x:=(oe (-1) a l).lo.da) p J;have v:=rM (x:= -(oe 1 a l).lo.da) p o;generalize oe (-1) a l=A at*;generalize oe 1 a l=B at*;generalize aH A.lo.da A.hi.da p=lo at*;generalize aH (-B.lo.da) B.hi.da p=hi at*;constructor
  .have:=KT (ds:=ns.reverse) (X:=X) (Y:=(Wr ns).map nD) (c:=lo) f λq R=>(by obtain⟨x,k,h1,h2,m,i⟩:=M q R;rw[h1,h2];show lo*k<=x;have P:=G _ i;rw[P' rfl] at P;replace P:A.lo.da*(nR k).da<=(nR x).da*A.hi.da:=P;rw[Ga,Ga] at P;refine Sr J ?_;have L:=xj (x:=A.lo.da-lo*A.hi.da) (y:=k) (by grind) (by grind);grind);rw[g] at this;grind
  have:=pO (ds:=ns.reverse) (X:=X) (Y:=(Wr ns).map nD) (c:= -hi) f λq R=>(by obtain⟨x,k,h1,h2,m,i⟩:=M q R;rw[h1,h2];show x<= -hi*k;have P:=T _ i;rw[Q' V'] at P;replace P:(nR x).da*B.hi.da<=B.lo.da*(nR k).da:=P;rw[Ga,Ga] at P;refine Sr o ?_;have L:=xj (x:= -B.lo.da-hi*B.hi.da) (y:=k) (by grind) (by grind);grind);rw[g] at this;grind
def EV{lo hi v R:Dyadic}(h1:lo<=v)(h2:v<=hi)(a:Fe lo<=R)(b:Fe hi<=R):Fe v<=R:=by
 unfold Fe at*;split at a<;>split at b<;>split<;>grind
def bL(g:Int):∀(ds:List FD)(o:Dyadic),o<=ds.foldl (So g) o/\∀d∈ds,Fe (ki d.2 d.1 g).lo.da<=ds.foldl (So g) o/\Fe (ki d.2 d.1 g).hi.da<=ds.foldl (So g) o
 |[],o=>⟨by show o<=o;grind,λd h=>absurd h h_⟩
 |d::ds,o=>by
  rw[S8];obtain⟨h1,h2⟩:=bL g ds (So g o d);have F:∀x∈[o,Fe (ki d.2 d.1 g).lo.da,Fe (ki d.2 d.1 g).hi.da],x<=So g o d:=λx C=>aaE x C;have G:=F o (by simp);have T:=F (Fe (ki d.2 d.1 g).lo.da) (by simp);have j:=F (Fe (ki d.2 d.1 g).hi.da) (by simp);refine⟨by grind,λe he=> ?_⟩;obtain rfl|he:=u'.1 he
  .constructor<;>grind
  exact h2 e he
def rV{a:List PX}{g:Int}{N:List Dyadic}{p:PX}(hp:p∈a)(o:OnP p b)(hi:UZ N b):Fe (di N p.ts)<=Ph g (Mj a b):=by
 obtain⟨us,h1,h2,G⟩:=hi;have Y:=o.o.bl;have A:=o.o.vl us.reverse (by rw[F_];omega);rw[U6,G] at A;obtain⟨s1,s2⟩:=JV (X:=An (Tb p.v p.ts) (Sc p (Na b)).2) (ns:=Tb p.v p.ts) (us:=us) g o.o.len Z' h2;rw[A] at s1 s2;obtain⟨_,H⟩:=bL g (Mj a b) 0;obtain⟨M,r⟩:=H _ (B'.2 ⟨p,hp,rfl⟩);exact EV s1 s2 M r
def fV(x):gm [nR x]=(nR x).i.sign:=by
 unfold gm;simp[sE]
def OK{d:Nat}{X:List Dyadic}{s:Nat}(t:X.length=ea [d])(K:s=0\/s=1)(Y:Ch (Oo [d] X) 0 s=0)(J:aO (Oo [d] X) 0 s≠0):aO (Oo [d] X) 0 s=(nR (sf [d] X [nD s])).i.sign:=by
 obtain⟨h1,h2⟩:=PM (ns:=[d]) (X:=X) (T:=[0]) (a:=0) (d:=d) (side:=s) rfl t rfl K;have e:dE (Oo [d] X) 0 s=(ei (ea ([d].drop (0+1))) d (d*s) X X.length).map nR:=(by unfold dE;rw[P' Y,rB];show List.map nR (ei _ _ _ ((X.map nR).map NR.da) X.length)=_;rw[A_,show X.map (NR.da ∘ nR)=X from(z9 λy _=>Ga y).trans (List.map_id _)];rfl);have f:SG (Oo [d] X) 0 s=[]:=(by unfold SG;rw[P' Y];rfl);unfold aO xy at J |-;rw[e,f] at J |-;generalize ei (ea ([d].drop (0+1))) d (d*s) X X.length=F at*;obtain⟨x,rfl⟩:∃x,F=[x]:=List.length_eq_one_iff.1 h2;have C:x=sf [d] X [nD s]:=(by rw[show sf [d] X [nD s]=sf [d].reverse X ([0].set 0 (nD s)).reverse from rfl,<-h1];show x=x*1+0;grind);split at J
 .rename_i c;rw[P' c];show gm [nR x]=_;rw[fV,C]
 exact absurd rfl J
def abU{a b:Int}(h:a*b= -1):a≠0/\b≠0:=by
 constructor
 .rintro rfl;rw[Int.zero_mul] at h;cases h
 rintro rfl;rw[Int.mul_zero] at h;cases h
def XN{p:PX}(o:OnP p b)(Q:b.length=1)(h:Le [p] b=true):(nR (di (Vy b [nD 0]) p.ts)).i.sign*(nR (di (Vy b [nD 1]) p.ts)).i.sign= -1:=by
 unfold Le at h;rw[l',h'] at h;obtain⟨h1,h2⟩:=h;obtain⟨D,t⟩:∃D,D=Tb p.v p.ts:=⟨_,rfl⟩;obtain⟨X,u⟩:∃X,X=An D (Sc p (Na b)).2:=⟨_,rfl⟩;have W:=o.o;have w:=o.z;have F:Mj [p] b=[(D,X)]:=by rw[u,t];rfl
 rw[<-t,<-u] at W w;rw[F] at h1 h2;have e:D.length=1:=by rw[<-W.bl];exact Q
 have j:Rs (fk [p] b) [p].length=[[nR 1]]:=(by unfold Rs ZH;show[[nR (BG (fk [p] b) 0 0)]]=_;have N:zk 0 0 (fk [p] b)=[]:=rfl;unfold BG;rw[N,Q' V'];exact Y_ (λx=>[[nR x]]) (by decide+kernel));have K:qb (Me [(D,X)] [nR 1])=0:=by
  unfold Zo at h1;split at h1
  .cases h1
  rw[j] at h1;exact bz h1 _ I'
 have J:Lm [p] b [(D,X)]=[xq [(D,X)] [nR 1]]:=(by unfold Lm;rw[j];rfl);have L:=TP (k:=47000) (q:=1) K (λd T=>by rw[q'.1 T];exact w) (by show 1<=100;decide) (λa C=>by rw[q'.1 C,Ga];exact Sz.one) V';have E:Me [(D,X)] [nR 1]=[Oo D X]:=(by show[Oo D (X.map λx=>x*(nR 1).da)]=_;rw[Ga];exact Y_ (λZ=>[Oo D Z]) ((z9 λx _=>by show x*1=x;grind).trans (List.map_id X)));rw[J] at h2;unfold xq at h2 L;rw[E] at h2 L K;obtain⟨r,A,_⟩:=Su (Jt K (λf n=>by rw[q'.1 n];exact Ub _)).1 (λf n=>by rw[q'.1 n];exact Ub _) _ I';rw[rB] at r A;have P:gi (maxD [Oo D X]) (Oo D X)=ni D (maxD [Oo D X]) X:=(by unfold gi;rw[rB];show ni D _ ((X.map nR).map NR.da)=_;rw[A_,show X.map (NR.da ∘ nR)=X from(z9 λy _=>Ga y).trans (List.map_id _)]);rw[show SM ([Oo D X].map (gi (maxD [Oo D X])))=ni D (maxD [Oo D X]) X from P] at h2 L;generalize maxD [Oo D X]=M at*;obtain⟨d,rfl⟩:∃d,M=[d]:=List.length_eq_one_iff.1 (r.trans e);have l:∀s:Nat,sf [d] (ni D [d] X) [nD s]=di (Vy b [nD s]) p.ts:=λs=>(by have N:=eO (xs:=X) (ts:=[nD s]) r.symm A rfl;have B:=W.vl [nD s] (by rw[e];rfl);rw[show[d].reverse=[d] from rfl] at N;rw[N,B];rfl);have g:=L.lx;replace g:(ni D [d] X).length=ea [d]:=g;replace h2:Nh [Oo [d] (ni D [d] X)]=true:=h2;generalize ni D [d] X=Y at*;unfold Nh at h2;rw[l'] at h2;have G:=L_.1 h2.1 0 (S_.2 (by show 0<1;decide));replace G:Jn (Oo [d] Y) 0 1=true:=G;unfold Jn at G;rw[h'] at G;obtain⟨f0,_,f2⟩:=G;have f1:Ch (Oo [d] Y) ((0:Nat):Int) ((1:Nat):Int)=0:=by
  have m:Ch (Oo [d] Y) 0 0=0:=f0;show Ch (Oo [d] Y) 0 1=0;unfold Ch at m |-;split at m
  .rename_i c;exact absurd m c
  rename_i c;rw[Q' c];rfl
 obtain⟨R,S⟩:=abU f2;have H:=OK (s:=0) g (.inl rfl) f0 R;have k1:=OK (s:=1) g (.inr rfl) f1 S;rw[<-l 0,<-l 1,<-H,<-k1];exact f2
end Go.Proofs.YtbencocchdpikaaGreatDoor
