/- The row and the card of RatioEncloses. -/
import Derived.Test.YtbencocchdpikaaGreatDoorCards
import Derived.Test.YtbencocchdpikaaGreatDoorTie
import Derived.SevenTiedAt
import Derived.Test.YtbencocchdpikaaGreatDoorZ111
set_option linter.all false
set_option maxHeartbeats 0
namespace Go.Proofs.YtbencocchdpikaaGreatDoor
open Go.Proofs.Tryz
open Go.RowKit
def bg3(a:NR):Bool:=decide (3<(a.Ra.size:Int)\/a.e< -12\/12<a.e)
def wx{a:NR}(h:bg3 a=false):acL a=false:=by
 have S:=of_decide_eq_false h;unfold acL;exact m' Z'
def Vn(a:NR)(w):Zc 32 #[a.V] w (.bool (bg3 a)):=by
 have I:=Hp.start w;by_cases h1:(3:Int)<a.Ra.size
 .refine Ga func32 ?_;refine lM ?_;intro G Z I;rw[w' (.inl h1)]
 by_cases h2:a.e< -12
 .refine Ga func32 ?_;refine lM ?_;intro G Z I;rw[w' (.inr (.inl h2))]
 by_cases b:12<a.e
 .refine Ga func32 ?_;refine lM ?_;intro G Z I;rw[w' (.inr (.inr b))]
 refine Ga func32 ?_;refine lM ?_;intro G Z I;rw[m' Z']
def ru(v:Int)(A)(n c:Nat)(ts)(w)(hp:Sl w A n 4 (la TR.cells ts)):Calls prog 6 #[.agg #[.int .i64 v,.slice A n c]] w λr V=>∃b:Bool,r=.returned (.bool b)/\(b=false->n<=5/\Gh 124 ts/\∀t∈ts,t.m.size<=3/\∀c∈t.m.data.toList,c.toNat<=2)/\Below w.heap.size w V:=by
 have I:=Hp.start w;have f:ts.length=n:=hp.Aa TR.len V';by_cases h1:5<n
 .refine Ga func6 ?_;refine Gb ?_;intro G Z I;exact⟨_,rfl,λh=>(by cases h),I.below⟩
 refine Ga func6 ?_;refine Gb ?_;intro G Z I;refine rf 3 (λx V=>∃i:Nat,i<=n/\x=.int .i64 i/\Gh 124 (ts.take i)/\(∀t∈ts.take i,t.m.size<=3/\∀c∈t.m.data.toList,c.toNat<=2)/\Hp w [.blk G 24 [.int .i64 v,.slice A n c] (0,0)] V) (λv _=>n-(intOf v).toNat) ?_ ?_
 .exact⟨0,N' _,rfl,λt S=>(nomatch S),λt S=>(nomatch S),I⟩
 clear I;rintro ρ' Q V ⟨i,hi,rfl,X,M,I⟩;by_cases D:i<n
 .obtain⟨x,C⟩:=aa (l:=ts) (k:=i) Z';obtain⟨a,rfl,H⟩:=hp.at_ Z';have W:=λZ=>Vn x.c Z;have d:=td x.m;refine JB ?_;refine ea ?_;refine sv (Ua (vs:=[_,_,_]) pa.out rfl (((H.ext I.below).recAt TR.len C).drop 1) rfl) ?_;refine cd I (W _) ?_;intro p I
  cases Y:bg3 x.c with
  |true=>
   exact lF
  |false=>
   by_cases P:3<x.m.size
   .exact lF
   refine ea ?_;refine rf 5 (λy V=>∃q:Nat,q<=x.m.size/\y=.int .i64 q/\(∀c∈x.m.data.toList.take q,c.toNat<=2)/\Hp w [.blk G 24 [.int .i64 v,.slice (some a) n c] (0,0)] V) (λv _=>x.m.size-(intOf v).toNat) ?_ ?_
   .exact⟨0,N' _,rfl,λt S=>(nomatch S),I⟩
   clear I;rintro ρ' z V ⟨q,R,rfl,hex,I⟩;by_cases o:q<x.m.size
   .obtain⟨e,he⟩:=aa (l:=x.m.data.toList) (k:=q) Z';have g:e.toNat<256:=e.toNat_lt;by_cases L:2<e.toNat
    .exact lF
    refine aec ?_;exact Sb
   rw[G' Z'] at hex;refine ea ?_;refine⟨⟨i+1,Z',rfl,λt S=> ?_,λt S=> ?_,I⟩,by show n-(i+1)<n-i;omega, ?_⟩
   .rw[ja C] at S;obtain S|S:=A_.1 S
    .exact X t S
    rw[k'.1 S];exact EY (wx Y)
   .rw[ja C] at S;obtain S|S:=A_.1 S
    .exact M t S
    rw[k'.1 S];exact⟨Z',hex⟩
   exact Sb
 rw[G' Z'] at X M;refine ea ?_;exact⟨_,rfl,λ_=>⟨Z',X,M⟩,I.below⟩
def cH(B)(m d:Nat)(b)(eps:NR)(g bu:Int)(w)(E:Sl w B m 6 (la SR.cells b)):Calls prog 7 #[.slice B m d,eps.V,.int .i64 g,.int .i64 bu] w λr V=>∃v:Bool,r=.returned (.bool v)/\(v=false->m<=3/\(∀s∈b,s.fin 124)/\eps.ok/\Sz 124 eps.fa/\ -40<=g/\g<=40/\bu<=30)/\Below w.heap.size w V:=by
 have I:=Hp.start w;have L:b.length=m:=E.Aa SR.len V';by_cases h1:3<m
 .refine Ga func7 ?_;refine Gb ?_;intro R y I;exact⟨_,rfl,λh=>(by cases h),I.below⟩
 refine Ga func7 ?_;refine Gb ?_;intro R y I;refine cd I (Vn eps _) ?_;intro q I
 cases he:bg3 eps with
 |true=>
  exact lF
 |false=>
  by_cases h2:g< -40
  .exact lF
  by_cases G:40<g
  .exact lF
  by_cases A:30<bu
  .exact lF
  refine ea ?_;refine rf 9 (λx V=>∃i:Nat,i<=m/\x=.int .i64 i/\(∀s∈b.take i,s.fin 124)/\Hp w [] V) (λv _=>m-(intOf v).toNat) ?_ ?_
  .exact⟨0,N' _,rfl,λt S=>(nomatch S),I.sub (N_ _)⟩
  clear I;rintro ρ' F V ⟨j,hj,rfl,a,I⟩;by_cases f:j<m
  .obtain⟨s,K⟩:=aa (l:=b) (k:=j) Z';obtain⟨z,rfl,H⟩:=E.at_ Z';have T:=λZ=>Vn s.lo Z;have p:=λZ=>Vn s.hi Z;refine ea ?_;refine sv (Ua (vs:=[_,_,_]) pa.out rfl (((((H.ext I.below).recAt SR.len K).drop 0).take 3)) rfl) ?_
   cases C:bg3 s.lo with
   |true=>
    rw[C] at T;refine cd I (T _) ?_;intro c I;exact lF
   |false=>
    rw[C] at T;refine cd I (T _) ?_;intro c I;refine ea ?_;refine sv (Ua (vs:=[_,_,_]) pa.out rfl (((((H.ext I.below).recAt SR.len K).drop 3).take 3)) rfl) ?_
    cases D:bg3 s.hi with
    |true=>
     rw[D] at p;refine ea ?_;refine cd I (p _) ?_;intro u I;exact lF
    |false=>
     rw[D] at p;refine ea ?_;refine cd I (p _) ?_;intro u I;refine ea ?_;refine⟨⟨j+1,Z',rfl,λt S=> ?_,I⟩,by show m-(j+1)<m-j;omega, ?_⟩
     .rw[ja K] at S;obtain S|S:=A_.1 S
      .exact a t S
      rw[k'.1 S];obtain⟨J,o⟩:=EY (wx C);obtain⟨n,Q⟩:=EY (wx D);exact⟨⟨J,o⟩,⟨n,Q⟩⟩
     exact Sb
  rw[G' Z'] at a;obtain⟨J,o⟩:=EY (wx he);refine ea ?_;exact⟨_,rfl,λ_=>⟨Z',a,J,o,Z',Z',Z'⟩,I.below⟩
variable {n:Nat}
def adO(g:FX)(W:World):Prop:=∃(n:Nat)(R:List HE),ags R g/\g.cs.length=g.m/\∀x∈R,x.holds n W
def afM(f:FX):VP:=λv W=>∃g:FX,v=.agg #[.slice g.A g.n g.a,.slice g.B g.m g.b]/\(∃A a B b,g=⟨A,f.n,a,B,f.m,b,f.ds,f.cs⟩)/\adO g W
variable {N by' o:Nat}{O:Rf}{P:Program}{ag:Bool}{cs vs zc:List Value}{fz:Nat×Nat}{ops:Array Oper}{pos:String}{w w0:World}
def rC{ro:Mode}{Q:Kq}{rest:List Oper}{H:List HE}{ty:TypeId}{af:Array Edge}(I:Hp w0 H w)(i:Nat){t f:TypeId}{x y:Operand}{b:Nat}{v:Value}(C:ev O x=.pointer (some ⟨b,o,none⟩))(hi:H[i]?=some (.blk b f cs fz)) (hy:ev O y=v)(E:v.cells=vs.toArray)(S:sd P t=some (n,ag,by',zc))(a:vs.length=n)(W:o+n<=cs.length)(h1:(vs.all Value.oneCell')=true) (k:∀V,w.grownBy V (some b)->w.heap[b]?=some (.cells cs.toArray f fz)->Hp w0 (H.set i (.blk b f (xb cs o vs) fz)) V->WL ro P N ops Q rest O V):WL ro P N ops Q (⟨none,.store t x y,ty,pos,af,none⟩::rest) O w:=by
 have F:=I.at_ hi;obtain⟨V,c,Y,s,K⟩:=Pf (P:=P) (b:=b) (t:=f) (fz:=fz) o vs 0 cs w F.2.1 F.2.2 Z' (by simpa using h1);refine vE rfl rfl (V:=V) ?_ (k V s F.2.1 (I.grown hi s (.inl rfl) ⟨F.1,by simpa using Y,by rw[Qe Z'];exact F.2.2⟩));simp[execOp,C,hy,Instr.storeAt,Instr.sureAddr,storeVar,qe S,a,E,c]
variable {W:World}
def Us(g:PX)(W:World):Prop:=∃n:Nat,g.row.holds n W
def Us.at_{g:PX}(h:Us g W):g.at_ W:=let⟨_,h1⟩:=h;xg h1
variable {b:List SR}
def Us.ext{g:PX}{c:World}(h:Us g W)(F:Below W.heap.size W c):Us g c:=let⟨n,h1⟩:=h;⟨n,jl h1 λb j=>F.block b (de h1 j).2⟩
def Us.grown{g:PX}{c:World}{b:Nat}{cs:Array Value}(h:Us g W)(s:W.grownBy c (some b))(G:W.heap[b]?=some (.cells cs 24 fz)):Us g c:=by
 obtain⟨n,h1⟩:=h;exact⟨n,jl h1 λk j=>s.block k (de h1 j).2 λe=>Rv h1 G V' (j.trans e)⟩
def om(f:PX):VP:=λv W=>∃g:PX,v=.agg #[.int .i64 g.v,.slice g.A g.n g.c]/\((∃A c,g=⟨f.v,A,f.n,c,f.ts⟩)/\g.n<=g.c)/\Us g W
def om.ext{f:PX}(v:Value)(w V)(h:om f v w)(F:Below w.heap.size w V):om f v V:=let⟨g,h1,h2,G⟩:=h;⟨g,h1,h2,G.ext F⟩
def aaR(f:PX)(w)(Y:f.at_ w)(B:f.n<=1000000):Calls prog 9 #[f.V] w λr V=>∃v,r=.returned v/\om f v V/\Below w.heap.size w V:=(WI f w Y B).mono λ_ _ ⟨⟨v,A,n,c,ts⟩,⟨h1,h2,G⟩,z,P⟩=>(by subst h1 h2 G;exact⟨_,z,⟨_,rfl,⟨⟨A,c,rfl⟩,P.Ae (i:=0) rfl⟩,_,P.own _ E'⟩,P.below⟩)
variable {bu:Int}{eps:NR}{p:PX}
def oJ{eps:Dyadic}{p bu:Int}:∀(f n:Nat)(st:List CV)(l:List SR)(R:RV)(k e:Int),Enc eps p bu f n st l R k e->R.at_.length<=20
 |0,_,[],_,_,_,_,h=>by rw[h.1];exact N' _
 |_+1,_,[],_,_,_,_,h=>by rw[h.1];exact N' _
 |0,_,_::_,_,_,_,_,h=>h.elim
 |f+1,n,c::st,l,R,k,e,h=>by
  rw[Enc] at h;by_cases F:bu<n
  .rw[Q' F] at h;rw[h.1];exact N' _
  rw[R' F] at h;obtain⟨W,h⟩:=h;by_cases J:Zf c.f c.g=0
  .rw[Q' J] at h;obtain⟨_,h⟩:=h;by_cases B:st=[]
   .rw[Q' B] at h;rw[h.1];exact N' _
   rw[R' B] at h;exact oJ f _ _ _ _ _ _ h
  rw[R' J] at h;by_cases h1:Gm c.g eps=0
  .rw[Q' h1] at h;rw[h.1];show(TT _ _).length<=20;unfold TT;rw[List.length_mapIdx];exact W.KX
  rw[R' h1] at h;obtain⟨a,s,_,_,_,h⟩:=h;exact oJ f _ _ _ _ _ _ h
def AY{q:PX}{g:Int}{f:Nat}{R:RV}{k e:Int}(h:Fm p q b eps g bu f R k e):R.at_.length<=20:=by
 unfold Fm at h;split at h
 .rw[h.1];exact N' _
 split at h
 .rw[h.1];exact N' _
 exact oJ _ _ _ _ _ _ _ h
def ir(p q:PX)(L)(n c:Nat)(b)(eps:NR)(g bu:Int)(w)(S:Nd w)(hp:p.at_ w)(hcp:p.n<=p.c)(d:q.at_ w)(hcq:q.n<=q.c)(E:Sl w L n 6 (la SR.cells b))(C: -9223372036854775808<=g)(D:g<=9223372036854775807)(t: -9223372036854775808<=bu)(hb2:bu<=9223372036854775807):Zc 3 #[p.V,q.V,.slice L n c,eps.V,.int .i64 g,.int .i64 bu] w (.bool true):=by
 have I:=Hp.start w;have hlb:b.length=n:=E.Aa SR.len V';refine Ga func3 ?_;refine sr ?_;refine ar I [_,_] ?_;intro b6 w6 I;refine ar I [_,_] ?_;intro b7 w7 I;refine ar I [_,_,_] ?_;intro b9 w9 I;refine aB (ia (qa (sr ?_)));refine vf I 2 [_,_] ?_;refine Vg (ru p.v p.A p.n p.c p.ts _ (hp.ext I.below)) ?_;rintro e_ w22 ⟨v1,rfl,hv1,M⟩;refine⟨_,rfl, ?_⟩;replace I:=I.ext M
 cases v1 with
 |true=>
  refine mB ?_;first|refine gS ?_|(refine gT ?_;refine vf I 1 [_,_] ?_)|refine gV ?_
  refine Hh V' rfl rfl V' ?_;exact adQ
 |false=>
  refine mB ?_;first|refine gS ?_|(refine gT ?_;refine vf I 1 [_,_] ?_)|refine gV ?_
  refine Fc rfl rfl ?_;refine Vg (ru q.v q.A q.n q.c q.ts _ (d.ext I.below)) ?_;rintro e_ w25 ⟨v2,rfl,hv2,M⟩;refine⟨_,rfl, ?_⟩;replace I:=I.ext M
  cases v2 with
  |true=>
   exact adQ
  |false=>
   first|refine lB ?_|refine VC ?_
   refine mB ?_;first|refine gS ?_|(refine gT ?_;refine mL ?_)|refine gV ?_
   first|refine gS ?_|(refine gT ?_;refine vf I 0 [_,_,_] ?_)|refine gV ?_
   first|refine gS ?_|(refine gT ?_;refine mI ?_)|refine gV ?_
   first|refine gS ?_|(refine gT ?_;refine mI ?_)|refine gV ?_
   refine Fc rfl rfl ?_;refine Vg (cH L n c b eps g bu _ (E.ext I.below)) ?_;rintro e_ w32 ⟨v3,rfl,hv3,M⟩;refine⟨_,rfl, ?_⟩;replace I:=I.ext M
   cases v3 with
   |true=>
    exact aam
   |false=>
    obtain⟨p1,p2,p3⟩:=hv1 rfl;obtain⟨q1,q2,q3⟩:=hv2 rfl;obtain⟨b3,a,z,he2,g1,g2,b4⟩:=hv3 rfl;have hpl:=hp.ln;have hql:=d.ln;obtain⟨sp,r⟩:=Gt (p:=p) (b:=b) Z' p2 p3 a;obtain⟨sq,N⟩:=Gt (p:=q) (b:=b) Z' q2 q3 a;obtain⟨R,k,e,hR⟩:=sW (eps:=eps) (g:=g) (bu:=bu) sp sq Z' r N Z' Z' Z';have T:=λZ F=>aaR p Z (hp.ext F) Z';have Y:=λZ F=>aaR q Z (d.ext F) Z';first|refine lB ?_|refine VC ?_
    refine ia (cF (db (Va (qa ?_))));refine lW [4,5] [] 6 I ?_;refine ua (i:=1) (om p) om.ext ?_ ?_
    .intro U Z hj hR;exact rb rfl (Ha fi (na (show U 35=Value.agg (List.toArray _) from hR.1) Oa)) (T _ hj.hp.below) (λ_ _ ⟨v,d,hp,F⟩=>⟨v,d,F,hp⟩)
    refine ub ?_;refine ua (i:=3) (om q) om.ext ?_ ?_
    .intro U Z hj hR;exact rb rfl (Ha fi (na (show U 37=Value.agg (List.toArray _) from hR.1) Oa)) (Y _ hj.hp.below) (λ_ _ ⟨v,d,hp,F⟩=>⟨v,d,F,hp⟩)
    refine ua (i:=4) (Sa _ 24 _) Sa.ext (λU Z hj hR=>Xc pa.out hj.bl (λv w2 h F=>⟨F,h⟩)) ?_;refine ua (i:=5) (Sa _ 24 _) Sa.ext (λU Z hj hR=>Xc pa.out hj.bl (λv w2 h F=>⟨F,h⟩)) ?_;refine xa ?_;intro f W hJ hV hD;obtain⟨v14,v13,v38,v37,v36,v35,_⟩:=hV;obtain⟨g36,e36,o36⟩:om p (f 1) W:=v36;obtain⟨g38,e38,o38⟩:om q (f 3) W:=v38;obtain⟨b13,J,K,B⟩:Sa _ _ _ (f 4) W:=v13;obtain⟨b14,l,P,X⟩:Sa _ _ _ (f 5) W:=v14;have Q:=UJ hD (i:=4) (j:=5) V' V' V' J l;replace I:=hJ.qq I K B P X Q;refine Be ?_;obtain⟨⟨⟨A1,c1,rfl⟩,k3⟩,k1⟩:=o36;obtain⟨⟨⟨A2,c2,rfl⟩,k4⟩,k2⟩:=o38;refine rC I 1 (vs:=[_,_]) rfl rfl rfl rfl pa.out rfl V' rfl ?_;intro ws1 C m I;replace k1:=k1.grown C m;replace k2:=k2.grown C m;replace I:Hp _ (.blk _ _ [_,_] _::.blk _ _ [_,_] _::_) _:=I;refine rC I 0 (vs:=[_,_]) rfl rfl rfl rfl pa.out rfl V' rfl ?_;intro ws2 D o I;replace k1:=(k1.grown D o).at_;replace k2:=(k2.grown D o).at_;replace I:Hp _ (.blk _ _ [_,_] _::.blk _ _ [_,_] _::_) _:=I;have r14:=I.rp (i:=0) rfl;have r13:=I.rp (i:=1) rfl;have r9:=I.rp (i:=2) rfl;have r7:=I.rp (i:=3) rfl
    have r6:=I.rp (i:=4) rfl;replace S:=S.hp I;replace hp:=hp.ext I.below;replace d:=d.ext I.below;replace E:=E.ext I.below;have y:=I.below;replace I:=Hp.start ws2;obtain⟨sp1,G⟩:=Gt (p:=⟨p.v,A1,p.n,c1,p.ts⟩) (b:=b) (by show p.ts.length<=5;omega) p2 p3 a;obtain⟨sq1,s⟩:=Gt (p:=⟨q.v,A2,q.n,c2,q.ts⟩) (b:=b) (by show q.ts.length<=5;omega) q2 q3 a;have lp1:=sp1.qf k1 k3;have lq1:=sq1.qf k2 k4;obtain⟨gp,fp⟩:=Gx sp1 G;obtain⟨gq,fq⟩:=Gx sq1 s;have x:Fm ⟨p.v,A1,p.n,c1,p.ts⟩ ⟨q.v,A2,q.n,c2,q.ts⟩ b eps g bu 40 R k e:=gI rfl rfl rfl rfl hR;have H:=λZ hT1 F=>jr ⟨p.v,A1,p.n,c1,p.ts⟩ ⟨q.v,A2,q.n,c2,q.ts⟩ L n c b eps g bu 40 R k e 124 Z hT1 (k1.ext F) lp1 (k2.ext F) lq1 (E.ext F) a Z' V' gp gq fp fq z Z' Z' Z' Z' x;have hren:=λZ F=>Hz p q L n c b eps g bu R k e Z (hp.ext F) hcp (d.ext F) hcq (E.ext F) a sp sq Z' r N z he2 Z' Z' Z' Z' hR;have hs1:=λZ t=>Ew (g:=⟨p.v,A1,p.n,c1,p.ts⟩) (h:=p) Z (k1.ext t) (hp.ext t) ⟨rfl,rfl⟩ (by show p.n<=1000000;omega) Z';have hs2:=λZ t=>Ew (g:=⟨q.v,A2,q.n,c2,q.ts⟩) (h:=q) Z (k2.ext t) (d.ext t) ⟨rfl,rfl⟩ (by show q.n<=1000000;omega) Z'
    have hat:=AY hR;refine ia (sr ?_);refine sv (Ua (vs:=[_,_]) pa.out rfl ((r13.ext I.below)) rfl) ?_;refine sv (Ua (vs:=[_,_]) pa.out rfl ((r14.ext I.below)) rfl) ?_;refine mL ?_;refine sv (Ua (vs:=[_,_,_]) pa.out rfl ((r9.ext I.below)) rfl) ?_;refine mI (mI ?_);refine Vg (H _ (S.hp I) I.below) ?_;rintro e_ w46 ⟨A3,m3,c3,rfl,u⟩;refine⟨_,rfl, ?_⟩;replace I:=I.join u;simp only[I',J'] at I;obtain⟨rk,rs,ra⟩:=R;refine mT ?_;refine ui ?_;refine ui ?_;refine ui ?_;refine ik I ?_;intro b15 w15 I;refine pd I 0 [_,_,_,_,_,_,_,_] ?_;intro ws I;replace I:Hp _ (.blk _ _ [_,_,_,_,_,_,_,_] _::_) _:=I;refine aI (aI (ia (sr ?_)));refine sv (Ua (vs:=[_,_]) pa.out rfl ((r6.ext I.below)) rfl) ?_;refine sv (Ua (vs:=[_,_]) pa.out rfl ((r7.ext I.below)) rfl) ?_;refine mL ?_;refine sv (Ua (vs:=[_,_,_]) pa.out rfl ((r9.ext I.below)) rfl) ?_;refine mI (mI ?_);refine Vg (hren _ I.below) ?_;rintro e_ w57 ⟨A4,m4,c4,rfl,u⟩;refine⟨_,rfl, ?_⟩;replace I:=I.join u;simp only[I',J'] at I;refine mT ?_;refine ui ?_;refine ui ?_;refine ui ?_;refine ik I ?_;intro b18 w18 I;refine pd I 0 [_,_,_,_,_,_,_,_] ?_
    intro ws I;replace I:Hp _ (.blk _ _ [_,_,_,_,_,_,_,_] _::_) _:=I;refine aI (aI (ia (sr ?_)));refine vf I 2 [_,_,_,_,_,_,_,_] ?_;refine vf I 0 [_,_,_,_,_,_,_,_] ?_;obtain rfl:ra.length=m3:=(I.ka (i:=3) rfl).Aa NR.len V';obtain rfl:ra.length=m4:=(I.ka (i:=1) rfl).Aa NR.len V';refine Gd I (Ul ⟨rk,rs,ra⟩ A3 A4 _ c3 c4 _ (I.ka (i:=3) rfl) (I.ka (i:=1) rfl) (p' hat V')) rfl ?_;intro w63 I;refine mB ?_;first|refine gS ?_|(refine gT ?_;refine mI ?_)|refine gV ?_
    first|refine gS ?_|(refine gT ?_;refine mI ?_)|refine gV ?_
    first|refine gS ?_|(refine gT ?_;refine zl ?_)|refine gV ?_
    first|refine lB ?_|refine VC ?_
    refine mB ?_;first|refine gS ?_|(refine gT ?_;refine mI ?_)|refine gV ?_
    first|refine gS ?_|(refine gT ?_;refine mI ?_)|refine gV ?_
    first|refine gS ?_|(refine gT ?_;refine zl ?_)|refine gV ?_
    first|refine lB ?_|refine VC ?_
    refine mB ?_;refine Fc rfl rfl ?_;refine sv (Ua (vs:=[_,_]) pa.out rfl ((r13.ext I.below)) rfl) ?_;refine Fc rfl rfl ?_;refine sv (Ua (vs:=[_,_]) pa.out rfl ((r6.ext I.below)) rfl) ?_;refine Fc rfl rfl ?_;refine cd I (hs1 _ I.below) ?_;intro w77 I;first|refine lB ?_|refine VC ?_
    refine mB ?_;refine Fc rfl rfl ?_;refine sv (Ua (vs:=[_,_]) pa.out rfl ((r14.ext I.below)) rfl) ?_;refine Fc rfl rfl ?_;refine sv (Ua (vs:=[_,_]) pa.out rfl ((r7.ext I.below)) rfl) ?_;refine Fc rfl rfl ?_;refine cd I (hs2 _ I.below) ?_;intro w82 I;first|refine lB ?_|refine VC ?_
    refine mB ?_;refine Fc rfl rfl ?_;refine cd I (zt _ (S.hp I)) ?_;intro w85 I;first|refine lB ?_|refine VC ?_
    refine aB (ia (je ?_));refine qa1 ?_;exact⟨rfl,y.trans (I.below.mono y.size)⟩
end Go.Proofs.YtbencocchdpikaaGreatDoor
namespace Go.Proofs.YtbencocchdpikaaGreatDoor.ratioEncloses
open Go.Proofs.Tryz
open Go.ChangeShapes Go.WideShapes Go.ChangeAt Go.RowKit Go.ChangeMaps
def own:ownKnob prog.godebug=none:=by kernel_rfl
set_option maxRecDepth 100000 in
def lifted(os:Os)(started:os.Started)(H:Type)(enc:TypeId×Value->H):
  ReturnsInHanded {} Tryz.checked os 3 .any (λw args=>(Rows.ratioEnclosesSpec.pre enc prog Tryz.f3 Rows.ratioEnclosesRow.domain false w args/\laidMetH prog Rows.ratioEnclosesRow.laid w)/\sizedMet enc prog Tryz.f3 (OpenSpec.ofChange Rows.ratioEnclosesSpec) false w args) (Rows.ratioEnclosesSpec.post enc prog Tryz.f3 false true false false):=by
 refine returnsInHanded_of_change_and (C:=Tryz.checked) (X:=λw _=>laidMetH prog Rows.ratioEnclosesRow.laid w) (λ_ _ _ I h=>h.of_heap I) own started U' func3 (ChangeSpec.witness_shaped (enc:=enc) (C:=Tryz.checked) (os:=os) (X:=λw _=>laidMetH prog Rows.ratioEnclosesRow.laid w) false (World.laidAll prog os Rows.ratioEnclosesRow.laid) #[.agg #[.int .i64 0,.slice none 0 0],.agg #[.int .i64 0,.slice none 0 0],.slice none 0 0,.agg #[.bool false,.string ⟨#[]⟩,.int .i64 0],.int .i64 0,.int .i64 0] 8 (World.laidAll_os _ _ _) (World.shaped_of_ZipB U' U') U' U' U' (by rw[MakeChecks.laidMetH_plain _ _ _ U'];exact laidMet_laidAll _ U' U')) ?_
 intro W base args ds gs before i g hc _ x _;have s:∀(j:Nat) t v,Tryz.f3.params[j]?=some t->args[j]?=some v->Value.okWide prog W .any base t v:=i;have b:=g;obtain⟨p,q,S,A,rfl,E,K⟩:=g;have a:DataW.TrodAll enc prog W 0 (λ_=>true) true Tryz.f3.params.toList args.toList ds p:=S;rw[Tryz.params3] at a s;obtain⟨v0,vs0,d0,f,p0,q0,l,rfl,rfl,J,r0⟩:=trodAll_cons a;obtain⟨v1,vs1,d1,Q,p1,q1,rfl,rfl,rfl,h1,r1⟩:=trodAll_cons r0;obtain⟨v2,vs2,d2,k,p2,q2,rfl,rfl,rfl,h2,r2⟩:=trodAll_cons r1;obtain⟨y,vs3,d3,m,p3,q3,rfl,rfl,rfl,G,r3⟩:=trodAll_cons r2;obtain⟨v4,vs4,d4,n,p4,q4,rfl,rfl,rfl,r,r4⟩:=trodAll_cons r3;obtain⟨u,vs5,d5,o,p5,q5,rfl,rfl,rfl,P,r5⟩:=trodAll_cons r4;obtain⟨rfl,rfl,rfl⟩:=trodAll_nil r5;obtain rfl:args= #[v0,v1,v2,y,v4,u]:=by cases args;simp_all
 obtain⟨rfl,rfl⟩:=trodVars_none A;obtain⟨f0,rfl,B,c⟩:=xC (s 0 24 v0 rfl rfl) J;obtain⟨f1,rfl,N,L⟩:=xC (s 1 24 v1 rfl rfl) h1;obtain⟨d,T,Y,M,rfl,z,_⟩:=XS (s 2 26 v2 rfl rfl) h2;obtain⟨x3,rfl,_,_⟩:=NT (s 3 30 y rfl rfl) G;obtain⟨x4,rfl,rfl,rfl,D⟩:=open_int Tryz.underlying3 (s 4 3 v4 rfl rfl) r;obtain⟨x5,rfl,rfl,rfl,R⟩:=open_int Tryz.underlying3 (s 5 3 u rfl rfl) P;refine(ir f0 f1 d T Y M x3 x4 x5 W (FG x) B c N L z (bounds_i64 D).1 (bounds_i64 D).2 (bounds_i64 R).1 (bounds_i64 R).2).mono λe W' ⟨he,F⟩=> ?_;subst he;exact⟨_,rfl,PT b rfl U' (by rw[Tryz.params3];exact j9 U') U' Tryz.underlying4 rfl rfl rfl F⟩
set_option maxHeartbeats 8000000 in
def row_holds:Rows.RatioEnclosesSaid:=
 OpenClaim.holds_of_wide 3 Tryz.f3 rfl rfl rfl rfl rfl rfl rfl ⟨rfl,rfl,rfl,rfl,rfl⟩ rfl rfl rfl rfl rfl (by as_aux_lemma=>kernel_rfl) func3 (by rw[joinedFacts];simp only[Z_];and_intros<;>as_aux_lemma=>kernel_rfl) (j9 (by as_aux_lemma=>kernel_rfl)) (by unfold Func.isWrapper;first|(rw[Q' (by decide+kernel)];kernel_rfl)|(rw[R' (by decide+kernel)];exact⟨rfl,rfl⟩)) (λos started H enc _=>lifted os started H enc)
set_option maxHeartbeats 8000000 in
theorem holds:Rows.RatioEnclosesCardSaid:=
 Claim7.holds_tied_plain_at .later [] [.data,.data,.pinned] true (true, "29254e130a85e7bc3d2bb522da3cda22bede667dc2cd1008b15860ef8c3e3f2a") false row_holds (fun _ h=>by cases h) (by as_aux_lemma=>kernel_rfl) (fun _ h=>by cases h) ratioEncloses_row_tie rfl ⟨rfl,rfl⟩ (by as_aux_lemma=>kernel_rfl) rfl (fun f fn Y C=>by
   obtain rfl:f=3:=P_ ((show prog.funcNamed "ogee/ogeelaw20.RatioEncloses" =some 3 by as_aux_lemma=>kernel_rfl).symm.trans Y)|>.symm;obtain rfl:fn=Tryz.f3:=(P_ (func3.symm.trans C)).symm;exact⟨by as_aux_lemma=>kernel_rfl,fun j t S=>by
    rw[Tryz.params3] at S;have hm:t∈[24,24,26,30,3,3]:=by simpa using Array.mem_of_getElem? S
    have X:([24,24,26,30,3,3].all λu=> !prog.wantsStandIn u)=true:=by as_aux_lemma=>kernel_rfl
    exact(show prog.wantsStandIn t=false by simpa using M_.1 X t hm)⟩)
  (by as_aux_lemma=>kernel_rfl)
#print axioms holds
end Go.Proofs.YtbencocchdpikaaGreatDoor.ratioEncloses
