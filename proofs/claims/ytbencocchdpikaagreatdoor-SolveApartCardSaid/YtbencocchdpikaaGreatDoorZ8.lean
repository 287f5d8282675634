/- Lemmas for solveApart, part 8. -/
import Derived.Test.YtbencocchdpikaaGreatDoorZ7
set_option linter.all false
set_option maxHeartbeats 0
namespace Go.Proofs.YtbencocchdpikaaGreatDoor
open Go.Proofs.Tryz
open Go.RowKit
def oe(d:Int):SR->List SR->SR:=λa l=>l.foldl (λout x=>if Ip x out=d then x else out) a
def HH(d:Int)(a)(l:List SR)(x:SR):oe d a (l++[x])=if Ip x (oe d a l)=d then x else oe d a l:=by
 unfold oe;rw[p8];rfl
def qj(d:Int)(a):∀l:List SR,oe d a l∈a::l:=λl=>by
 have h:∀(l:List SR)(b:SR),b∈a::l->∀r:List SR,(∀x∈r,x∈a::l)->r.foldl (λout x=>if Ip x out=d then x else out) b∈a::l:=λl b F r=>by
  induction r generalizing b with
  |nil=>exact λ_=>F
  |cons y r W=>
   intro H;rw[S8];refine W _ ?_ λx C=>H x (L' _ C);split
   .exact H y I'
   exact F
 exact h l a I' l λx C=>L' _ C
variable {k:Nat}
def GI(A)(n c:Nat)(a:SR)(l)(d:Int)(k:Nat)(w)(S:Gc w)(J:Sl w A n 6 (ia SR.cells (a::l)))(E:n<=c)(B:n<=1000000)(Q:∀x∈a::l,Ux k x)(u:k<=1000000):Zc 264 #[.slice A n c,.int .i64 d] w (.agg (SR.cells (oe d a l)).toArray):=by
 have I:=Hp.start w;have m:l.length+1=n:=J.sa SR.len V';have t:Sl w (if c=1 then A else A.map (·.add (1*6))) (n-1) 6 (ia SR.cells l):=J.back (l:=1) Z' E;obtain⟨b,rfl,H⟩:=J.at_ Z';have N:(a::l)[0]?=some a:=rfl;refine Ca (l:=[.slice (some b) n c,.int .i64 d]) func264 ?_;refine Bb ?_;intro D y I;refine sv (Ka (vs:=[_,_,_,_,_,_]) pa.out rfl ((H.ext I.below).recAt SR.len N) rfl) ?_;refine yb ?_;intro R z I ws I;refine BS ?_;refine bf 14 (λv V=>∃i:Nat,i<=n-1/\v=.int .i64 i/\Hp w [.blk R 276 (SR.cells (oe d a (l.take i))) (0,0),.blk D 276 [.bool false,.string (ByteArray.mk #[]),.int .i64 0,.bool false,.string (ByteArray.mk #[]),.int .i64 0] (0,0)] V) (λv _=>n-1-(intOf v).toNat) ?_ ?_
 .exact⟨0,J' _,rfl,I⟩
 clear I;rintro ρ' v V ⟨i,hi,rfl,I⟩;by_cases j:i<n-1
 .obtain⟨x,C⟩:=aa (l:=l) (k:=i) Z';obtain⟨g,f,sb⟩:=t.at_ Z';have Qk:Value.slice (if c=1 then some b else(some b:Option Addr).map (·.add (1*6))) (n-1) (c-1)=.slice (some g) (n-1) (c-1):=by rw[f]
  have p:=Q x (L' _ (N' C));have G:=Q (oe d a (l.take i)) (by
   obtain h|h:=u'.1 (qj d a (l.take i))
   .rw[h];exact I'
   exact L' _ (x9 h))
  have q:=λZ P=>cJ x (oe d a (l.take i)) k Z P p G u;have e:oe d a (l.take (i+1))=if Ip x (oe d a (l.take i))=d then x else oe d a (l.take i):=by rw[ja C,HH]
  generalize oe d a (l.take i)=o at*;refine fa ?_;refine sv (pb (k:=i) Qa.out pa.size Qk rfl Z' Z') ?_;refine sv (Ka (vs:=[_,_,_,_,_,_]) pa.out rfl ((sb.ext I.below).recAt SR.len C) rfl) ?_;replace I:Hp _ (.blk _ _ [_,_,_,_,_,_] _::_) _:=I;refine yb ?_;intro s F I ws I;refine cd I (q _ (S.hp I)) ?_;intro r I;by_cases hw:Ip x o=d
  .rw[P' hw] at e;refine Bb ?_;intro ws I;replace I:=I.sub (G' _ (O' _ (O' _ Z_)));exact mZ
  rw[Q' hw] at e;refine P0 ?_;intro I;exact mZ
 obtain rfl:i=n-1:=Z';rw[w' Z'] at I;refine EY ?_;intro ws I;exact⟨rfl,I.below⟩
def xe(X:List Dyadic)(ns:List Nat):List SR:=List.zipWith (λx q=>⟨nR x,q⟩) X (rv ns)
def jG(f:FX)(ns)(X)(w)(H:Gc w)(Y:f.at_ w)(fi:f.is ns X)(h:ns.length<=12)(Q:∀d∈ns,d<=127)(hx:X.length=ea ns)(hc:ea ns<=4096):Calls prog 214 #[f.V] w λr V=>∃A c',r=.returned (.slice A f.m c')/\f.m<=c'/\V.ownsRow w.heap.size 276 6 (.slice A f.m c') f.m (ia SR.cells (xe X ns))/\Below w.heap.size w V:=by
 have I:=Hp.start w;obtain⟨ln,lm⟩:=fi.key Y;obtain⟨A,n,S,B,m,N,ds,cs⟩:=f;have h1:ds=Ha ns:=fi.ds;have h2:cs=X.map nR:=fi.cs;subst h1 h2;have F:Sl w A n 1 (Pa (Ha ns)):=Y.dg;have M:Sl w B m 3 (ia NR.cells (X.map nR)):=Y.nm;replace lm:m=X.length:=lm;have t:=Pb ns;obtain⟨o,rfl,hr⟩:=M.at_ Z';have K:=λZ P L=>Ym A n S ns Z P (F.ext L) h Q hc;refine Ca (l:=[.agg #[.slice A n S,.slice (some o) m N]]) func214 ?_;refine Bb ?_;intro G Z I;refine cr I (K _ (H.hp I) I.below) ?_;intro C E w9 I;refine fa ?_;replace I:=I.rb 276 6;replace I:=I.sub (O' _ (O' _ (O' _ Z_)));refine Fi 3 13 (λy v V=>∃(i e:Nat)(O:Option Addr),i<=m/\v=.int .i64 i/\y=.slice O i e/\Hp w [.row O i e 276 6 (ia SR.cells ((xe X ns).take i)),.row C (ea ns) E 30 3 (ia NR.cells (rv ns)),.blk G 78 [.slice A n S,.slice (some o) m N] (0,0)] V) (λ_ v _=>m-(intOf v).toNat) ?_ ?_
 .exact⟨0,0,none,J' _,rfl,rfl,I⟩
 clear I;rintro ρ' y v V ⟨i,e,O,hi,rfl,rfl,I⟩;have hwl:(rv ns).length=ea ns:=(I.ma (i:=1) rfl).sa NR.len V';have hpl:(xe X ns).length=m:=by unfold xe;rw[R7];omega
 by_cases hlt:i<m
 .obtain⟨x,u⟩:=aa (l:=X) (k:=i) Z';obtain⟨q,R⟩:=aa (l:=rv ns) (k:=i) Z';have p:(X.map nR)[i]?=some (nR x):=by rw[z',u];rfl
  have hp:(xe X ns)[i]?=some ⟨nR x,q⟩:=by unfold xe;rw[n9,u,R]
  obtain⟨gw,rfl⟩:=I.kb (i:=1) rfl Z';refine fa ?_;refine sv (Ka (vs:=[_,_,_]) pa.out rfl ((hr.ext I.below).recAt NR.len p) rfl) ?_;refine yb ?_;intro b6 w6 I ws I;refine ud 8 I ?_;refine Xr (i) ?_;refine Fj [_,_,_] (λ_ hj=>hj.hp.Wc (f:=NR.cells) (x:=q) (l:=rv ns) (i:=2) rfl NR.len V' R) ?_;refine wb ?_;refine Wp [_,_,_,_,_,_] ?_;refine Fa ?_;intro f W s J;obtain⟨j,v24,v23,v22,v21,v20,v19,v18,_⟩:=J;obtain⟨z,D,T,f25⟩:Rows _ _ _ (f 7) W:=j;replace I:=s.hp;refine lg ?_;refine mb I (i:=1) rfl rfl rfl (f25) Qa.out pa.out rfl V' (by first|rfl|exact Nb _|exact xb _|exact Da _|exact Ia NR.one _) Z' Z' V' ?_;intro c g w26 I;simp only[j',t_] at I;refine AZ ?_;intro I;refine⟨⟨i+1,g,c,Z',rfl,rfl, ?_⟩,by show m-(i+1)<m-i;omega, ?_⟩
  .rw[ja hp,Aa];exact I
  exact Wb
 obtain rfl:i=m:=Z';rw[w' Z'] at I;refine fa ?_;exact⟨O,e,rfl,I.me (i:=0) rfl,I.own _ I',I.below⟩
def vA(a:SR)(l:List SR)(p:Int):SR:=⟨(xD (oe (-1) a l).lo.da (oe (-1) a l).hi.da p).lo,(xD (oe 1 a l).lo.da (oe 1 a l).hi.da p).hi⟩
def Ty(A)(n c:Nat)(a:SR)(l)(p:Int)(k:Nat)(w)(S:Gc w)(J:Sl w A n 6 (ia SR.cells (a::l)))(E:n<=c)(B:n<=1000000)(Q:∀x∈a::l,Ux k x/\x.hi.da≠0)(r:k<=250000)(L: -1000<=p)(H:p<=1000):Zc 213 #[.slice A n c,.int .i64 p] w (.agg (SR.cells (vA a l p)).toArray):=by
 have I:=Hp.start w;have F:=λb Z P t=>GI A n c a l b k Z P (J.ext t) E B (λx C=>(Q x C).1) Z';have e:∀b Z,Gc Z->Zc 90 #[.agg (NR.cells (oe b a l).lo).toArray,.agg (NR.cells (oe b a l).hi).toArray,.int .i64 p] Z (.tuple #[.agg (SR.cells (xD (oe b a l).lo.da (oe b a l).hi.da p)).toArray,.int .i64 0]):=λb Z P=>(by obtain⟨h1,h2⟩:=Q _ (qj b a l);generalize oe b a l=o at*;exact bO o.lo o.hi p Z P h1.n h1.w (h1.zn.ok Z') (h1.zn.neg.ok Z') (h1.zw.ok Z') h2 ((CI p h1.zn.neg h1.zw L H).ok Z') L H);unfold vA;have t:=F (-1);have R:=F 1;have M:=e (-1);have s:=e 1;generalize oe (-1) a l=x at*;generalize oe 1 a l=y at*;generalize xD x.lo.da x.hi.da p=u at*;generalize xD y.lo.da y.hi.da p=v at*;refine Ca func213 ?_;refine Bb ?_;intro D z I;refine cd I (t _ (S.hp I) I.below) ?_;intro W I;refine mL ?_;refine cd I (R _ (S.hp I) I.below) ?_;intro Y I;refine WU ?_;intro g G I h K I ws I ws I;refine cd I (M _ (S.hp I)) ?_;intro q I;refine yb ?_;intro j N I ws I;refine cd I (s _ (S.hp I)) ?_;intro f I;refine Am ?_;intro m T I ws I ws I;refine qN (Nc rfl (Mc (vs:=[_,_,_,_,_,_]) pa.out (I.Ra (i:=4) (n:=6) rfl rfl) rfl) Xd) ?_;exact⟨rfl,I.below⟩
def aM:∀{n k:Nat},k<=n->0<bin n k
 |0,0,_=>Nat.one_pos
 |n+1,0,_=>Nat.one_pos
 |n+1,k+1,h=>(by have:=aM (n:=n) (k:=k) Z';show 0<bin n k+bin n (k+1);omega)
def Zu:∀(ds:List Nat)(p:Nat),0<gR ds (Ya ds p)
 |[],_=>Nat.one_pos
 |d::ds,p=>Q7 (aM (Nat.lt_succ_iff.1 (Q_ p (Nat.succ_pos d)))) (Zu ds _)
def aaQ{ns:List Nat}(m:ns.length<=12)(Q:∀d∈ns,d<=127){q:NR}(h:q∈rv ns):q.ok/\Sz 1600 q.da/\q.da≠0:=by
 obtain⟨x,C,rfl⟩:=B'.1 h;have o:=iK C m Q;obtain⟨p,_,rfl⟩:=B'.1 C;rw[Ga];refine⟨o.ok V',o,λh=> ?_⟩;have h1:=Zu ns.reverse p;have h2:((gR ns.reverse (Ya ns.reverse p):Int):Dyadic)=((0:Int):Dyadic):=h;rw[<-Dyadic.toRat_inj] at h2;have G:(gR ns.reverse (Ya ns.reverse p):Int)=0:=by simpa using h2
 omega
def zF{X:List Dyadic}{ns:List Nat}(m:ns.length<=12)(Q:∀d∈ns,d<=127)(t:∀x∈X,Sz k x)(u:1600<=k)(B:k<=250000):∀a∈xe X ns,Ux k a/\a.hi.da≠0:=λa M=>by
 obtain⟨i,hi⟩:=C_.1 M;unfold xe at hi;rw[n9] at hi
 cases C:X[i]? with
 |none=>rw[C] at hi;cases hi
 |some x=>
  cases R:(rv ns)[i]? with
  |none=>rw[C,R] at hi;cases hi
  |some q=>
   rw[C,R] at hi;obtain rfl:=(i' hi).symm;have zx:=t x (N' C);obtain⟨h1,h2,G⟩:=aaQ m Q (N' R);exact⟨⟨zx.ok Z',h1,by rw[Ga];exact zx,h2.mono u⟩,G⟩
def ki(X:List Dyadic)(ns:List Nat)(p:Int):SR:=match xe X ns with
 |[]=>SR0
 |a::l=>vA a l p
def DE(f:FX)(ns)(X)(p:Int)(k:Nat)(w)(q:Gc w)(Y:f.at_ w)(fi:f.is ns X)(h:ns.length<=12)(Q:∀d∈ns,d<=127)(C:X.length=ea ns)(E:ea ns<=4096)(t:∀x∈X,Sz k x)(z:1600<=k)(j:k<=250000)(L: -1000<=p)(H:p<=1000):Zc 139 #[f.V,.int .i64 p] w (.tuple #[.agg (SR.cells (ki X ns p)).toArray,.int .i64 0]):=by
 have I:=Hp.start w;have y:=fi.Ug Y h C E t Z';have fe:=fi.e h Q C E;have K:=λZ P F=>ml f k Z P (Y.ext F) y;rw[fe] at K;have N:=λZ P F=>jG f ns X Z P (Y.ext F) fi h Q C E;have v:=zF h Q t z j;have u:=Pb ns;obtain⟨ln,lm⟩:=fi.key Y;unfold ki
 cases o:xe X ns with
 |nil=>
  exfalso;have h1:(xe X ns).length=0:=by rw[o];rfl
  unfold xe rv at h1;rw[R7,D',Zn] at h1;omega
 |cons a l=>
  rw[o] at v N;have s:=λA c Z P J g=>Ty A f.m c a l p k Z P J g Z' v j L H;show Calls _ _ _ _ λr V=>r=.returned (.tuple #[.agg (SR.cells (vA a l p)).toArray,.int .i64 0])/\Below w.heap.size w V;generalize vA a l p=S at*;refine Ca func139 ?_;refine yb ?_;intro T w2 I R w4 I;refine cd I (K _ (q.hp I) I.below) ?_;intro w8 I;refine fa ?_;refine Wi (N _ (q.hp I) I.below) ?_;rintro e_ D ⟨A,c',rfl,g,W,M⟩;refine⟨_,rfl, ?_⟩;replace I:=I.pd (x:=.row _ _ _ _ _ _) M W;refine mI ?_;refine cd I (s _ _ _ (q.hp I) (I.ma (i:=0) rfl) g) ?_;intro G I;refine aeh ?_;intro ws I;exact⟨rfl,I.below⟩
structure LX where
 A:Option Addr
 n:Nat
 c:Nat
 l:List NR
def LX.cells(x:LX):List Value:=[.slice x.A x.n x.c]
def LX.len:∀x:LX,x.cells.length=1:=λ_=>rfl
variable {w:World}
def LX.at_(x:LX)(w:World):Prop:=Sl w x.A x.n 3 (ia NR.cells x.l)
def LX.at_.ext{x:LX}{V:World}(h:x.at_ w)(F:Below w.heap.size w V):x.at_ V:=Sl.ext h F
def LX.at_.ln{x:LX}(h:x.at_ w):x.l.length=x.n:=Sl.sa h NR.len V'
def QH(A:Option Addr)(n c:Nat)(l:List LX)(g:FuncId)(cap:List Value)(p:LX->Bool)(w:World)(J:Sl w A n 1 (ia LX.cells l))(B:n<=1000000)[la prog g] (s:∀(z:LX)(Z:World),z∈l->Below w.heap.size w Z->Calls prog g (.slice z.A z.n z.c::cap).toArray Z λr V=>r=.returned (.bool (p z))/\Below Z.heap.size Z V):Calls prog 299 #[.slice A n c,.func (.func g) #[] cap.toArray] w λr V=>∃v,r=.returned (.int .i64 v)/\(0<=v↔l.any p=true)/\Below w.heap.size w V:=by
 have I:=Hp.start w;have m:=J.sa LX.len V';refine Ca func299 ?_;refine fa ?_;refine bf 8 (λv V=>∃i:Nat,i<=n/\v=.int .i64 i/\(l.take i).any p=false/\Hp w [] V) (λv _=>n-(intOf v).toNat) ?_ ?_
 .exact⟨0,J' _,rfl,rfl,I⟩
 clear I;rintro ρ' v V ⟨i,hi,rfl,X,I⟩;by_cases D:i<n
 .obtain⟨z,o⟩:=aa (l:=l) (k:=i) Z';obtain⟨d,rfl,H⟩:=J.at_ Z';have E:=λZ=>s z Z (N' o)
  cases a:p z with
  |true=>
   rw[a] at E;refine fa ?_;refine sv (Ba pa.out rfl ((H.ext I.below).recAt LX.len o 0 _ rfl)) ?_;refine ow ?_;rintro b e ⟨rfl,M⟩;refine⟨_,rfl, ?_⟩;replace I:=I.ext M;exact dX
  |false=>
   rw[a] at E;refine fa ?_;refine sv (Ba pa.out rfl ((H.ext I.below).recAt LX.len o 0 _ rfl)) ?_;exact J1
 exact OS
def xJ(A)(n c:Nat)(l:List LX)(g:FuncId)(cap)(p:LX->Bool)(w)(b:Sl w A n 1 (ia LX.cells l))(B:n<=1000000)[la prog g] (s:∀(z:LX)(Z:World),z∈l->Below w.heap.size w Z->Calls prog g (.slice z.A z.n z.c::cap).toArray Z λr V=>r=.returned (.bool (p z))/\Below Z.heap.size Z V):Zc 267 #[.slice A n c,.func (.func g) #[] cap.toArray] w (.bool (l.any p)):=by
 have I:=Hp.start w;refine Ca func267 ?_;refine fa ?_;refine Tc (QH A n c l g cap p _ (b.ext I.below) B s) la.out rfl V' ?_;rintro H e ⟨d,rfl,a,M⟩;exact wW
def dO(t:List LX):Int:=if 8<t.length\/t.any (λx=>decide (x.n≠t.length))=true then 1 else 0
def Fy(x:LX)(n:Nat)(A)(c:Nat)(p:Addr)(w:World)(hp:w.cell? p=some (.slice A n c)):Zc 268 #[.slice x.A x.n x.c,.pointer (some p)] w (.bool (decide (x.n≠n))):=by
 have I:=Hp.start w;by_cases h:x.n=n
 .refine Ca func268 ?_;refine fa ?_;refine sv (Ba pa.out rfl (Kb I.below hp)) ?_;exact gW
 refine Ca func268 ?_;refine fa ?_;refine sv (Ba pa.out rfl (Kb I.below hp)) ?_;exact YR
def uq(A)(n c:Nat)(t:List LX)(w)(J:Sl w A n 1 (ia LX.cells t))(B:n<=1000000):Zc 219 #[.slice A n c] w (.int .i64 (dO t)):=by
 have I:=Hp.start w;have m:=J.sa LX.len V';unfold dO;by_cases b:8<n
 .rw[P' (.inl Z')];refine Ca func219 ?_;refine Bb ?_;intro G Z I;exact⟨rfl,I.below⟩
 have J:=J
 cases X:t.any (λx=>decide (x.n≠n)) with
 |true=>
  rw[P' (.inr (by rw[m];exact X))];refine BZ ?_;intro G Z I hp a I;exact⟨rfl,I.below⟩
 |false=>
  rw[Q' (λh=>h.elim Z' λh=>by rw[m,X] at h;cases h)];refine BZ ?_;intro G Z I hp a I;exact⟨rfl,I.below⟩
def Eu(a:Int)(l:List NR):Int:=l.foldl (λa x=>if(nR x.da).e<a then(nR x.da).e else a) a
def Mo(a:Int)(t:List LX):Int:=t.foldl (λa x=>Eu a x.l) a
def MO(a:Int)(l:List NR)(x:NR):Eu a (l++[x])=if(nR x.da).e<Eu a l then(nR x.da).e else Eu a l:=by unfold Eu;rw[p8];rfl
def BN(a:Int)(t:List LX)(x:LX):Mo a (t++[x])=Eu (Mo a t) x.l:=by unfold Mo;rw[p8];rfl
def scI(low:Int)(x:NR):IR:=iR (dy (nR x.da).i ((nR x.da).e-low))
structure WX where
 A:Option Addr
 n:Nat
 c:Nat
 l:List IR
def WX.cells(x:WX):List Value:=[.slice x.A x.n x.c]
def WX.len:∀x:WX,x.cells.length=1:=λ_=>rfl
def WX.row(x:WX):HE:=.row x.A x.n x.c 28 2 (ia IR.cells x.l)
variable {K:Nat}
structure IF(K:Nat)(t:List LX)(w:World):Prop where
 at_:∀x∈t,x.at_ w
 n:∀x∈t,x.n<=1000
 num:∀x∈t,∀a∈x.l,a.ok/\Sz K a.da
def IF.ext{t:List LX}{V:World}(h:IF K t w)(F:Below w.heap.size w V):IF K t V:=⟨λx C=>(h.at_ x C).ext F,h.n,h.num⟩
def mM{K:Nat}:∀(l:List NR)(a:Int),(∀x∈l,Sz K x.da)-> -(K:Int)<=a-> -(K:Int)<=Eu a l/\Eu a l<=a
 |[],a,_,h=>⟨h,A7 _⟩
 |x::l,a,Q,h=>(by have h1:=(Q x I').nr.2.1;obtain⟨h2,G⟩:=mM l (if(nR x.da).e<a then(nR x.da).e else a) (λy hy=>Q y (L' _ hy)) (by split<;>omega);refine⟨h2,Int.le_trans G ?_⟩;split<;>omega)
def Pu{K:Nat}:∀(t:List LX)(a:Int),(∀x∈t,∀y∈x.l,Sz K y.da)-> -(K:Int)<=a-> -(K:Int)<=Mo a t/\Mo a t<=a
 |[],a,_,h=>⟨h,A7 _⟩
 |x::t,a,S,h=>(by obtain⟨h1,h2⟩:=mM x.l a (S x I') h;obtain⟨G,z⟩:=Pu t (Eu a x.l) (λy hy=>S y (L' _ hy)) h1;exact⟨G,Int.le_trans z h2⟩)
def jD(A:Option Addr)(n c K:Nat)(t:List LX)(w:World)(p:Gc w)(J:Sl w A n 1 (ia LX.cells t))(S:IF K t w)(hn:n<=1000)(hK:K<=100000):Calls prog 220 #[.slice A n c] w λr V=>∃(B:Option Addr)(c':Nat)(rows:List WX),r=.returned (.tuple #[.slice B n c',.int .i64 (-(Mo 0 t))])/\rows.map (λx=>(x.n,x.l))=t.map (λx=>(x.n,x.l.map (scI (Mo 0 t))))/\Hp w (.row B n c' 215 1 (ia WX.cells rows)::(rows.map WX.row).reverse) V:=by
 have I:=Hp.start w;have hln:=J.sa LX.len V';refine Ca func220 ?_;refine fa ?_;refine Fi 4 18 (λv4 v V=>∃i:Nat,i<=n/\v=.int .i64 i/\v4=.int .i64 (Mo 0 (t.take i))/\Hp w [] V) (λ_ v _=>n-(intOf v).toNat) ?_ ?_
 .exact⟨0,J' _,rfl,rfl,I⟩
 clear I;rintro ρ' v4 v V ⟨i,hi,rfl,rfl,I⟩;by_cases D:i<n
 .obtain⟨x,C⟩:=aa (l:=t) (k:=i) Z';have W:=N' C;obtain⟨ad,rfl,H⟩:=J.at_ Z';have G:=S.n x W;have z:=(S.at_ x W).ln;refine fa ?_;refine sv (Ba pa.out rfl ((H.ext I.below).recAt LX.len C 0 _ rfl)) ?_;refine fa ?_;refine Fi 4 24 (λv4 v V=>∃j:Nat,j<=x.n/\v=.int .i64 j/\v4=.int .i64 (Eu (Mo 0 (t.take i)) (x.l.take j))/\Hp w [] V) (λ_ v _=>x.n-(intOf v).toNat) ?_ ?_
  .exact⟨0,J' _,rfl,rfl,I⟩
  clear I;rintro T v4 v w2 ⟨j,hj,rfl,rfl,I⟩;by_cases q:j<x.n
  .obtain⟨a,M⟩:=aa (l:=x.l) (k:=j) Z';obtain⟨ok,za⟩:=S.num x W a (N' M);obtain⟨N,s,Q⟩:=(S.at_ x W).at_ Z';have Qk:Value.slice x.A x.n x.c=.slice (some N) x.n x.c:=by rw[s]
   have Y:=λZ P=>Yc a Z P (by have:=ok.1;omega) (by have:=ok.2.1;omega) (by have:=ok.2.2;omega);have g:=MO (Mo 0 (t.take i)) (x.l.take j) a;rw[<-ja M] at g;generalize Eu (Mo 0 (t.take i)) (x.l.take j)=lo at*;refine fa ?_;refine bK ?_;refine sv (Ka (vs:=[_,_,_]) pa.out rfl ((Q.ext I.below).recAt NR.len M) rfl) ?_;refine yb ?_;intro b8 w8 I ws I;refine cd I (Y _ (p.hp I)) ?_;intro w30 I;refine fa ?_;refine⟨⟨j+1,Z',rfl,by rw[g];rfl,I.sub (m_ _)⟩,by show x.n-(j+1)<x.n-j;omega, ?_⟩;exact Wb
  obtain rfl:j=x.n:=Z';rw[w' (show x.l.length<=x.n by omega),<-BN,<-ja C];refine fa ?_;refine⟨⟨i+1,Z',rfl,rfl,I⟩,by show n-(i+1)<n-i;omega, ?_⟩;exact Wb
 obtain rfl:n=i:=Z';rw[w' Z'];refine fa ?_;have hlb: -(100000:Int)<=Mo 0 t/\Mo 0 t<=0:=(by have:=Pu (K:=K) t 0 (λx C a M=>(S.num x C a M).2) Z';omega);generalize Mo 0 t=low at*;replace I:=I.rb 215 1;refine Fi 9 37 (λv9 v V=>∃(i X:Nat)(B:Option Addr)(rows:List WX)(R:List HE),i<=n/\v=.int .i64 i/\v9=.slice B i X/\rows.map (λx=>(x.n,x.l))=(t.take i).map (λx=>(x.n,x.l.map (scI low)))/\R=(rows.map WX.row).reverse/\Hp w (.row B i X 215 1 (ia WX.cells rows)::R) V) (λ_ v _=>n-(intOf v).toNat) ?_ ?_
 .exact⟨0,0,none,[],[],J' _,rfl,rfl,rfl,rfl,I⟩
 clear I;rintro ρ' v9 v V ⟨i,X,B,rows,R,hi,rfl,rfl,b,f,I⟩;by_cases D:i<n
 .obtain⟨x,C⟩:=aa (l:=t) (k:=i) Z';have W:=N' C;obtain⟨ad,rfl,H⟩:=J.at_ Z';have G:=S.n x W;have z:=(S.at_ x W).ln;refine fa ?_;refine sv (Ba pa.out rfl ((H.ext I.below).recAt LX.len C 0 _ rfl)) ?_;refine fa ?_;replace I:=I.rb 28 2;refine Fi 12 43 (λh v V=>∃(j L:Nat)(E:Option Addr),j<=x.n/\v=.int .i64 j/\h=.slice E j L/\Hp w (.row E j L 28 2 (ia IR.cells ((x.l.take j).map (scI low)))::.row B i X 215 1 (ia WX.cells rows)::R) V) (λ_ v _=>x.n-(intOf v).toNat) ?_ ?_
  .exact⟨0,0,none,J' _,rfl,rfl,I⟩
  clear I;rintro T h v w2 ⟨j,L,E,hj,rfl,rfl,I⟩;by_cases q:j<x.n
  .obtain⟨a,M⟩:=aa (l:=x.l) (k:=j) Z';obtain⟨ok,za⟩:=S.num x W a (N' M);obtain⟨N,s,Q⟩:=(S.at_ x W).at_ Z';have Qk:Value.slice x.A x.n x.c=.slice (some N) x.n x.c:=by rw[s]
   have Y:=λZ P=>Yc a Z P (by have:=ok.1;omega) (by have:=ok.2.1;omega) (by have:=ok.2.2;omega);obtain⟨n1,n2,n3⟩:=za.nr;have y:=λZ P=>Oh (nR a.da).neg (nR a.da).Va ((nR a.da).e-low) Z P Z' Z' Z';refine fa ?_;refine bK ?_;refine sv (Ka (vs:=[_,_,_]) pa.out rfl ((Q.ext I.below).recAt NR.len M) rfl) ?_;refine yb ?_;intro b14 w14 I ws I;refine cd I (Y _ (p.hp I)) ?_;intro w48 I;refine yb ?_;intro b15 w15 I ws I;refine cd I (y _ (p.hp I)) ?_;intro w56 I;refine Dk ?_;intro b57 w57 I;refine oE ?_;intro m o w58 I;simp only[j',t_] at I;replace I:=I.sub (r_ _ _);refine fa ?_;replace I:=I.sub (G' _ (G' _ (O' _ (O' _ (P_ _)))));refine⟨⟨j+1,o,m,Z',rfl,rfl, ?_⟩,by show x.n-(j+1)<x.n-j;omega, ?_⟩
   .rw[ja M,G_,Aa];exact I
   exact Wb
  obtain rfl:j=x.n:=Z';rw[w' (show x.l.length<=x.n by omega)] at I;refine fa ?_;refine pG ?_;intro b62 w62 I;refine yw ?_;intro u F w63 I;simp only[j',t_] at I;replace I:=I.sub (r_ _ _);refine fa ?_;replace I:=I.perm (W_ (l₁:=[_]));simp only[C',F'] at I;refine⟨⟨i+1,F,u,rows++[⟨E,x.n,L,x.l.map (scI low)⟩],WX.row ⟨E,x.n,L,x.l.map (scI low)⟩::R,Z',rfl,rfl, ?_, ?_, ?_⟩,by show n-(i+1)<n-i;omega, ?_⟩
  .rw[G_,ja C,G_,b];rfl
  .rw[G_,g7,f];rfl
  .rw[Aa];exact I
  exact Wb
 obtain rfl:n=i:=Z';rw[w' Z'] at b;refine fa ?_;exact⟨B,X,rows,rfl,b,f ▸ I⟩
def IH(A:Option Addr)(n c:Nat)(l:List WX)(g:FuncId)(cap:List Value)(p:WX->Bool)(w:World)(J:Sl w A n 1 (ia WX.cells l))(B:n<=1000000)[la prog g] (s:∀(z:WX)(Z:World),z∈l->Below w.heap.size w Z->Calls prog g (.slice z.A z.n z.c::cap).toArray Z λr V=>r=.returned (.bool (p z))/\Below Z.heap.size Z V):Calls prog 269 #[.slice A n c,.func (.func g) #[] cap.toArray] w λr V=>∃v:Int,r=.returned (.int .i64 v)/\((v= -1/\l.any p=false)\/∃(i:Nat)(x:WX),l[i]?=some x/\v=i/\p x=true/\(l.take i).any p=false)/\Below w.heap.size w V:=by
 have I:=Hp.start w;have m:=J.sa WX.len V';refine Ca func269 ?_;refine fa ?_;refine bf 8 (λv V=>∃i:Nat,i<=n/\v=.int .i64 i/\(l.take i).any p=false/\Hp w [] V) (λv _=>n-(intOf v).toNat) ?_ ?_
 .exact⟨0,J' _,rfl,rfl,I⟩
 clear I;rintro ρ' v V ⟨i,hi,rfl,X,I⟩;by_cases D:i<n
 .obtain⟨z,o⟩:=aa (l:=l) (k:=i) Z';obtain⟨d,rfl,H⟩:=J.at_ Z';have E:=λZ=>s z Z (N' o)
  cases a:p z with
  |true=>
   rw[a] at E;refine fa ?_;refine sv (Ba pa.out rfl ((H.ext I.below).recAt WX.len o 0 _ rfl)) ?_;refine ow ?_;rintro b e ⟨rfl,M⟩;refine⟨_,rfl, ?_⟩;replace I:=I.ext M;refine fa ?_;exact⟨_,rfl,.inr ⟨i,z,o,rfl,a,X⟩,I.below⟩
  |false=>
   rw[a] at E;refine fa ?_;refine sv (Ba pa.out rfl ((H.ext I.below).recAt WX.len o 0 _ rfl)) ?_;exact J1
 rw[w' Z'] at X;refine fa ?_;exact⟨_,rfl,.inl ⟨rfl,X⟩,I.below⟩
def YI(x:WX)(k:Nat)(a:IR)(p:Addr)(w:World)(hp:w.cell? p=some (.int .i64 k))(C:Sl w x.A x.n 2 (ia IR.cells x.l))(M:x.l[k]?=some a):Zc 270 #[.slice x.A x.n x.c,.pointer (some p)] w (.bool (decide (a.v.sign≠0))):=by
 have I:=Hp.start w;have m:=C.sa IR.len V';have u:=(x'.1 M).1;obtain⟨A,n,c,l⟩:=x;obtain⟨b,rfl,H⟩:=C.at_ (by show 0<n;have:l.length=n:=m;have:k<l.length:=u;omega);have m:l.length=n:=m;have u:k<l.length:=u;have M:l[k]?=some a:=M;have K:=λZ=>qg a.neg a.Va Z;rw[show iv a.neg a.Va=a.v from rfl] at K;by_cases h:a.v.sign=0
 .refine K0 ?_;intro o I;rw[h];refine fa ?_;exact⟨by rw[k' (λx=>x rfl)],I.below⟩
 refine K0 ?_;intro o I;generalize a.v.sign=g at*;exact YR
def pF(s:Bool)(a b:ByteArray)(w)(ha:a.size<=10000000)(hb:b.size<=10000000)(o:bN b≠0):Calls prog 227 #[.agg #[.bool s,.string a],.agg #[.bool true,.string b]] w λe V=>∃x y,e=.returned (.tuple #[.agg #[.bool (iN (iv s a/iv true b)),.string (iM (iv s a/iv true b))],.agg #[.bool x,.string y],.bool true])/\Below w.heap.size w V:=by
 have I:=Hp.start w;have hba:=yf a;have hmod:bN a % bN b<bN b:=Q_ _ Z';have F:bN b*(bN a/bN b)+bN a % bN b=bN a:=T9 _ _;have m:(bN b:Int)*((bN a/bN b:Nat):Int)+((bN a % bN b:Nat):Int)=(bN a:Int):=by rw[<-F9,<-V8,F]
 have u:=λZ=>dr a b Z Z' Z' o;generalize hq:bN a/bN b=q at*;generalize hr:bN a % bN b=r at*;have S:iv false (sN q)=(q:Int):=by unfold iv;rw[ze,Q' (by simp)]
 have eb:iv true b= -(bN b:Int):=by unfold iv;rw[P' rfl]
 rw[eb]
 cases s with
 |false=>
  have X:iv false a=(bN a:Int):=by unfold iv;rw[Q' (by simp)]
  have k:iv false a / -(bN b:Int)= -(q:Int):=by rw[Int.ediv_neg,Pk (iv false a) (bN b) q r (by rw[X,<-m];omega) Z' Z']
  rw[k];have Y:=λZ=>rg false (sN q) Z;have L:=λZ=>De (iN (-(q:Int))) (iM (-(q:Int))) Z;rw[S] at Y;rw[Uc] at L;refine Ca (l:=[.agg #[.bool false,.string a],.agg #[.bool true,.string b]]) func227 ?_;refine WU ?_;intro T w2 I N w3 I D w4 I R w5 I;refine cd I (u _) ?_;intro j I;refine yb ?_;intro ws I ws I;replace I:=show Hp w (.blk R 28 [.bool false,.string (sN r)] (0,0)::.blk D 28 [.bool false,.string (sN q)] (0,0)::_) _ from I;refine fa ?_;refine sv (Df Qa.out rfl rfl) ?_;refine fa ?_;refine cd I (Y _) ?_;intro w47 I;refine Bb ?_;intro ws I;exact nY
 |true=>
  have X:iv true a= -(bN a:Int):=by unfold iv;rw[P' rfl]
  by_cases G:r=0
  .have E:sN r=ByteArray.mk #[]:=by rw[G,Yh]
   have k:iv true a / -(bN b:Int)=(q:Int):=by rw[Int.ediv_neg,Pk (iv true a) (bN b) (-(q:Int)) 0 (by rw[X,<-m,G,J7];omega) Z' Z',M7]
   rw[k];have L:=λZ=>De false (sN q) Z;rw[S] at L;refine Ca (l:=[.agg #[.bool true,.string a],.agg #[.bool true,.string b]]) func227 ?_;refine WU ?_;intro T w2 I N w3 I D w4 I R w5 I;refine cd I (u _) ?_;intro j I;refine yb ?_;intro ws I ws I;replace I:=show Hp w (.blk R 28 [.bool false,.string (sN r)] (0,0)::.blk D 28 [.bool false,.string (sN q)] (0,0)::_) _ from I;refine fa ?_
   (first|refine sv (pf rfl rfl (by first|rfl|assumption|decide)) ?_|refine sv (rf rfl rfl (by first|assumption|decide)) ?_)
   refine fa ?_;refine sv (Df Qa.out rfl rfl) ?_;refine fa ?_;exact nY
  have E:¬sN r=ByteArray.mk #[]:=λh=>G (fB (h.trans Yh.symm));have k:iv true a / -(bN b:Int)=(q:Int)+1:=by rw[Int.ediv_neg,Pk (iv true a) (bN b) (-((q:Int)+1)) ((bN b:Int)-(r:Int)) (by rw[X,<-m,J7,Int.mul_add];omega) Z' Z',M7]
  rw[k];have hqz:(sN q).size<=10000000:=by rw[Zg,<-hq];have:=Zb (l_ (H8 (bN a) (bN b)) (Ab (bN a)));omega
  have hrz:(sN r).size<=10000000:=by rw[Zg,<-hr];have:=Zb (l_ (Nat.mod_le (bN a) (bN b)) (Ab (bN a)));omega
  have e1:([IR.mk false (sN q),iR 1].map IR.v).sum=(q:Int)+1:=(by exact acL);have p:=λZ=>gj 1 Z V' V';have J:=λA Z h1=>Xl A 2 2 [IR.mk false (sN q),iR 1] Z h1 V' (by intro x H;obtain rfl|H:=u'.1 H;exact(show(sN q).size<=100000000 by omega);rw[q'.1 H];exact(by decide+kernel));rw[e1] at J;have C:=λZ=>Aj false false b (sN r) Z Z' Z';have L:=λZ=>De (iN ((q:Int)+1)) (iM ((q:Int)+1)) Z;rw[Uc] at L;refine Ca (l:=[.agg #[.bool true,.string a],.agg #[.bool true,.string b]]) func227 ?_;refine WU ?_;intro T w2 I N w3 I D w4 I R w5 I;refine cd I (u _) ?_;intro j I;refine yb ?_;intro ws I ws I;replace I:=show Hp w (.blk R 28 [.bool false,.string (sN r)] (0,0)::.blk D 28 [.bool false,.string (sN q)] (0,0)::_) _ from I;refine fa ?_
  (first|refine sv (pf rfl rfl (by first|rfl|assumption|decide)) ?_|refine sv (rf rfl rfl (by first|assumption|decide)) ?_)
  refine fa ?_;refine ud 2 I ?_;refine dC (λ_ hj=>p _) ?_;refine dn ?_;intro W I;refine RD ?_;intro b34 w34 I;refine cd I (J _ _ (I.ma (i:=0) rfl)) ?_;intro w35 I;refine Bb ?_;intro ws I;refine cd I (C _) ?_;intro w40 I;refine Bb ?_;intro ws I;refine sv (Df Qa.out rfl rfl) ?_;refine fa ?_;refine fM ?_;refine Ud 2 [_,_] ?_;refine dC (λ_ hj=>L _) ?_;refine Ud 1 [_,_] ?_;refine Fa ?_;intro p_ z;simp only[u',h_,or_false] at z;obtain rfl|rfl:=z
  .intro f W Q d;have P:=Q.bl;obtain⟨c,t,_⟩:=d;simp only[qe];have K:f 0=_:=t;rw[K];have g:f 1=_:=c;rw[g];replace I:=Q.hp;exact J2
  intro f W Q d;have P:=Q.bl;obtain⟨B,c,t,_⟩:=d;simp only[qe];have K:f 0=_:=t;rw[K];have g:f 1=_:=c;rw[g];have M:f 2=_:=B;rw[M];replace I:=Q.hp;exact O0
variable {M:List (List Int)}{j:Nat}
def mm(M:List (List Int))(i j:Nat):Int:=(M.getD i []).getD j 0
variable {last:Int}
def UC(last a p q r:Int):Int:=(a*p-q*r)/last
def Mh(M:List (List Int))(k i j:Nat)(last:Int):List (List Int):=M.mapIdx λa r=>if k<a/\a<=i then r.mapIdx λb x=>if k<b/\(a<i\/b<j) then UC last x (mm M k k) (r.getD k 0) (mm M k b) else x else r
def fp(M:List (List Int))(k i:Nat):List (List Int):=(M.set k (M.getD i [])).set i (M.getD k [])
def Yy(M:List (List Int))(k:Nat):Option Nat:=(List.range M.length).find? λi=>decide (k<=i/\mm M i k≠0)
def Ju:Nat->Nat->List (List Int)->Int->Bool->Int
 |0,_,_,last,t=>if t=true then -last else last
 |f+1,k,M,last,t=>match Yy M k with
  |none=>0
  |some i=>Ju f (k+1) (Mh (fp M k i) k M.length 0 last) (mm (fp M k i) k k) (if i=k then t else !t)
def ay(M:List (List Int)):Int:=Ju M.length 0 M 1 false
variable {n:Nat}
structure Ku(n b:Nat)(M:List (List Int)):Prop where
 ln:M.length=n
 row:∀r∈M,r.length=n
 sz:∀r∈M,∀x∈r,Ea x.natAbs<=b
def lv{b:Nat}{a p q r:Int}(M:Ea a.natAbs<=b)(hp:Ea p.natAbs<=b)(R:Ea q.natAbs<=b)(H:Ea r.natAbs<=b):Ea (UC last a p q r).natAbs<=2*b+1:=by
 unfold UC;have h1:=Ab a.natAbs;have h2:=Ab p.natAbs;have G:=Ab q.natAbs;have z:=Ab r.natAbs;have e:∀{x c:Nat},x<2^c->c<=b->x<2^b:=λh S=>k_ h (J_ V' S);have d:(a*p).natAbs<2^(2*b):=(by rw[q9,Nat.two_mul,R_];exact Nat.mul_lt_mul_of_lt_of_lt (e h1 M) (e h2 hp));have N:(q*r).natAbs<2^(2*b):=(by rw[q9,Nat.two_mul,R_];exact Nat.mul_lt_mul_of_lt_of_lt (e G R) (e z H));refine Zb ?_;refine l_ (E7 _ _) ?_;rw[B_];omega
def Ku.mono{b c:Nat}(h:Ku n b M)(F:b<=c):Ku n c M:=⟨h.ln,h.row,λr H x C=>d' (h.sz r H x C) F⟩
def Ku.get{b:Nat}(h:Ku n b M){i:Nat}(hi:i<n):∃r,M[i]?=some r/\r.length=n/\M.getD i []=r:=by
 obtain⟨r,H⟩:=aa (l:=M) (k:=i) (by rw[h.ln];exact hi);exact⟨r,H,h.row r (N' H),by rw[X9,H];rfl⟩
def Ku.at_{b:Nat}(h:Ku n b M){i:Nat}(hi:i<n)(hj:j<n):∃r,M[i]?=some r/\r.length=n/\r[j]?=some (mm M i j)/\Ea (mm M i j).natAbs<=b:=by
 obtain⟨r,h1,h2,G⟩:=h.get hi;obtain⟨x,C⟩:=aa (l:=r) (k:=j) Z';have e:mm M i j=x:=(by unfold mm;rw[G,X9,C];rfl);exact⟨r,h1,h2,by rw[e];exact C,by rw[e];exact h.sz r (N' h1) x (N' C)⟩
def Ku.swp{b i:Nat}(h:Ku n b M)(u:k<n)(hi:i<n):Ku n b (fp M k i):=by
 obtain⟨r,h1,_,G⟩:=h.get u;obtain⟨q,T,_,K⟩:=h.get hi;unfold fp;rw[G,K];have hm:∀x∈(M.set k q).set i r,x∈M:=λx C=>by
  obtain C|rfl:=R8 C
  .obtain C|rfl:=R8 C
   .exact C
   exact N' T
  exact N' h1
 exact⟨by rw[d_,d_];exact h.ln,λx C=>h.row x (hm x C),λx C=>h.sz x (hm x C)⟩
def Ku.lj{b i:Nat}(h:Ku n b M)(u:k<n):Ku n (2*b+1) (Mh M k i j last):=by
 have hm:∀x∈Mh M k i j last,x.length=n/\∀y∈x,Ea y.natAbs<=2*b+1:=λx C=>by
  unfold Mh at C;obtain⟨a,d,rfl⟩:=List.mem_mapIdx.1 C;have H:M[a]?=some M[a]:=U8 d;have Q:=h.row _ (N' H);have K:=h.sz _ (N' H);split
  .refine⟨by rw[q8];exact Q,λy hy=> ?_⟩;obtain⟨c,E,rfl⟩:=List.mem_mapIdx.1 hy;have o:c<n:=Z';obtain⟨_,_,_,_,X⟩:=h.at_ u u;obtain⟨_,_,_,_,r⟩:=h.at_ u o;have t:=K _ (List.getElem_mem E);have e:Ea ((M[a]).getD k 0).natAbs<=b:=(by obtain⟨x,C⟩:=aa (l:=M[a]) (k:=k) Z';rw[X9,C];exact K _ (N' C));split
   .exact lv t X e r
   omega
  exact⟨Q,λy hy=>by have:=K y hy;omega⟩
 exact⟨by unfold Mh;rw[q8];exact h.ln,λx C=>(hm x C).1,λx C=>(hm x C).2⟩
def kR{N:List (List Int)}(h:∀i,k<=i->i<N.length->mm N i k=0):Yy N k=none:=by
 unfold Yy;rw[a8];intro i hi;have:=S_.1 hi;rw[h'];exact λ⟨h1,h2⟩=>h2 (h i h1 this)
def VR{N:List (List Int)}(u:k<=j)(hj:j<N.length)(J:mm N j k≠0)(h:∀i,k<=i->i<j->mm N i k=0):Yy N k=some j:=by
 unfold Yy;rw[List.find?_range_eq_some];refine⟨m' ⟨u,J⟩,S_.2 hj,λi hi=> ?_⟩;simp only[n8,T6];exact λ⟨h1,h2⟩=>h2 (h i h1 hi)
def FP{N:List (List Int)}{t:Bool}(u:k<n)(h:Yy N k=none):Ju (n-k) k N last t=0:=by
 rw[show n-k=(n-k-1)+1 by omega,Ju,h]
def DT{N:List (List Int)}{t:Bool}(u:k<n)(h:Yy N k=some j):Ju (n-k) k N last t=Ju (n-(k+1)) (k+1) (Mh (fp N k j) k N.length 0 last) (mm (fp N k j) k k) (if j=k then t else !t):=by
 rw[show n-k=(n-(k+1))+1 by omega,Ju,h]
structure Uh(RR:List HE)(rows:List WX)(P:List Nat):Prop where
 ln:P.length=rows.length
 nd:∀i j p:Nat,P[i]?=some p->P[j]?=some p->i=j
 at_:∀(i:Nat)(x:WX)(p:Nat),rows[i]?=some x->P[i]?=some p->RR[p]?=some x.row
variable {α:Type}
def NC{l:List α}{a b:Nat}{x y:α}(M:l[a]?=some x)(F:l[b]?=some y)(c:Nat):((l.set a y).set b x)[c]?=l[if c=b then a else if c=a then b else c]?:=by
 have h1:=(x'.1 M).1;have h2:=(x'.1 F).1;rw[L9,L9,d_];by_cases N:c=b
 .subst N;rw[P' rfl,P' rfl,P' h2,M]
 rw[Q' (λh=>N h.symm),Q' N];by_cases L:c=a
 .subst L;rw[P' rfl,P' rfl,P' h1,F]
 rw[Q' (λh=>L h.symm),Q' L]
def fO{RS:List HE}{rows:List WX}{W P:List Nat}{N:List (List Int)}{A x:WX}(w:Uh RS rows W)(s:rows.map WX.l=N.map (List.map iR))(Q:∀x∈rows,x.n=n)(e:∀q,q∈W->q∈P)(u:rows[k]?=some A)(C:rows[j]?=some x):∃t,((rows.set k x).set j A).map WX.l=(fp N k j).map (List.map iR)/\(∀y∈(rows.set k x).set j A,y.n=n)/\Uh RS ((rows.set k x).set j A) t/\∀q,q∈t->q∈P:=by
 have h1:=(x'.1 u).1;have h2:=(x'.1 C).1;obtain⟨p,hp⟩:=aa (l:=W) (k:=k) (by rw[w.ln];exact h1);obtain⟨q,R⟩:=aa (l:=W) (k:=j) (by rw[w.ln];exact h2);have g:∀c d:Nat,(if c=j then k else if c=k then j else c)=(if d=j then k else if d=k then j else d)->c=d:=λc d h=>(by split at h<;>split at h<;>(try split at h)<;>(try split at h)<;>omega);refine⟨(W.set k q).set j p, ?_, ?_,⟨?_, ?_, ?_⟩, ?_⟩
 .have L:∀(i:Nat)(y:WX),rows[i]?=some y->∃r:List Int,N[i]?=some r/\y.l=r.map iR:=λi y hy=>by
   have G:(rows.map WX.l)[i]?=some y.l:=by rw[z',hy];rfl
   rw[s,z'] at G
   cases B:N[i]? with
   |none=>rw[B] at G;cases G
   |some r=>rw[B] at G;exact⟨r,rfl,(i' G).symm⟩
  obtain⟨m,T,f⟩:=L k A u;obtain⟨o,K,X⟩:=L j x C;unfold fp;rw[X9,X9,T,K,B9,B9,B9,B9,s,f,X];rfl
 .intro y hy;obtain hy|rfl:=R8 hy
  .obtain hy|rfl:=R8 hy
   .exact Q y hy
   exact Q _ (N' C)
  exact Q _ (N' u)
 .rw[d_,d_,d_,d_];exact w.ln
 .intro a b c M F;rw[NC hp R] at M F;exact g a b (w.nd _ _ c M F)
 .intro i y c hy E;rw[NC u C] at hy;rw[NC hp R] at E;exact w.at_ _ y c hy E
 intro y hy;obtain hy|rfl:=R8 hy
 .obtain hy|rfl:=R8 hy
  .exact e y hy
  exact e _ (N' R)
 exact e _ (N' hp)
def bP:Mh M k (k+1) 0 last=M:=by
 unfold Mh;refine g_ λa=> ?_;rw[Y9]
 cases M[a]? with
 |none=>rfl
 |some r=>
  refine Y_ some ?_;split
  .refine g_ λb=> ?_;rw[Y9]
   cases r[b]? with
   |none=>rfl
   |some x=>refine Y_ some (Q' ?_);omega
  rfl
def KX{i:Nat}:Mh M k i 0 last=Mh M k i (k+1) last:=by
 unfold Mh;refine g_ λa=> ?_;rw[Y9,Y9]
 cases M[a]? with
 |none=>rfl
 |some r=>
  refine Y_ some ?_;split
  .refine g_ λb=> ?_;rw[Y9,Y9]
   cases r[b]? with
   |none=>rfl
   |some x=>refine Y_ some (ite_congr (propext ?_) (λ_=>rfl) λ_=>rfl);omega
  rfl
def DW{b i:Nat}(sq:Ku n b M):Mh M k i n last=Mh M k (i+1) 0 last:=by
 unfold Mh;refine g_ λa=> ?_;rw[Y9,Y9]
 cases H:M[a]? with
 |none=>rfl
 |some r=>
  have Q:=sq.row r (N' H);refine Y_ some ?_;dsimp only;by_cases h1:k<a/\a<=i
  .rw[P' h1,P' Z'];refine g_ λb=> ?_;rw[Y9,Y9]
   cases F:r[b]? with
   |none=>rfl
   |some x=>
    have:=(x'.1 F).1;refine Y_ some (ite_congr (propext ?_) (λ_=>rfl) λ_=>rfl);omega
  rw[Q' h1];split
  .refine g_ λb=> ?_;rw[Y9]
   cases F:r[b]? with
   |none=>rfl
   |some x=>refine Y_ some (Q' ?_).symm;omega
  rfl
def Ww{z i a b:Nat}(sq:Ku n z M)(c:a<n)(F:b<n)(h:¬(k<a/\a<=i/\k<b/\(a<i\/b<j))):mm (Mh M k i j last) a b=mm M a b:=by
 obtain⟨r,h1,h2,G,d⟩:=sq.at_ c F;have e:(Mh M k i j last)[a]?=some (if k<a/\a<=i then r.mapIdx λb x=>if k<b/\(a<i\/b<j) then UC last x (mm M k k) (r.getD k 0) (mm M k b) else x else r):=(by unfold Mh;rw[Y9,h1];rfl);unfold mm at G |-;rw[X9 (l:=Mh M k i j last),e,J9,X9];split
 .rename_i E;rw[Y9,G,p9,J9,Q' Z']
 rw[G];rfl
def rQ{z i:Nat}{r:List Int}(sq:Ku n z M)(u:k<i)(hi:i<n)(W:k<j)(hj:j<n)(H:(Mh M k i j last)[i]?=some r):(Mh M k i j last).set i (r.set j (UC last (mm M i j) (mm M k k) (mm M i k) (mm M k j)))=Mh M k i (j+1) last:=by
 obtain⟨q,h1,h2,G,_⟩:=sq.at_ hi hj;have s:M.getD i []=q:=by rw[X9,h1];rfl
 have g:∀c,(Mh M k i c last)[i]?=some (q.mapIdx λb x=>if k<b/\b<c then UC last x (mm M k k) (q.getD k 0) (mm M k b) else x):=λc=>(by unfold Mh;rw[Y9,h1];refine Y_ some ?_;dsimp only;rw[P' Z'];refine congrFun (Y_ List.mapIdx ?_) q;funext b x;refine ite_congr (propext ?_) (λ_=>rfl) λ_=>rfl;omega);have u:mm M i k=q.getD k 0:=by unfold mm;rw[s]
 rw[g j] at H;obtain rfl:=i' H;have Q:i<(Mh M k i j last).length:=by unfold Mh;rw[q8,sq.ln];exact hi
 refine g_ λa=> ?_;rw[L9];by_cases d:a=i
 .subst d;rw[P' rfl,P' Q,g (j+1)];refine Y_ some (g_ λb=> ?_);rw[L9,Y9,Y9,q8];by_cases F:b=j
  .subst F;rw[P' rfl,P' Z',G,u];refine Y_ some ?_;dsimp only;rw[P' Z']
  rw[Q' (λh=>F h.symm)]
  cases q[b]? with
  |none=>rfl
  |some x=>
   refine Y_ some (ite_congr (propext ?_) (λ_=>rfl) λ_=>rfl);omega
 rw[Q' (λh=>d h.symm)];unfold Mh;rw[Y9,Y9]
 cases M[a]? with
 |none=>rfl
 |some r=>
  refine Y_ some ?_;dsimp only;by_cases P:k<a/\a<=i
  .rw[P' P,P' P];refine congrFun (Y_ List.mapIdx ?_) r;funext b x;refine ite_congr (propext ?_) (λ_=>rfl) λ_=>rfl;omega
  rw[Q' P,Q' P]
def xG(s t:Bool)(a b:ByteArray)(w)(M:a.size<=10000000)(F:b.size<=10000000)(S:iv t b≠0):Calls prog 227 #[.agg #[.bool s,.string a],.agg #[.bool t,.string b]] w λe V=>∃x y,e=.returned (.tuple #[.agg #[.bool (iN (iv s a/iv t b)),.string (iM (iv s a/iv t b))],.agg #[.bool x,.string y],.bool true])/\Below w.heap.size w V:=by
 have J:bN b≠0:=λh=>S (by unfold iv;rw[h];split<;>rfl)
 cases t with
 |false=>
  have:=wx s a b w M F J;rwa[show(bN b:Int)=iv false b by unfold iv;rw[Q' (by simp)]] at this
 |true=>exact pF s a b w M F J
def Jk{rows:List WX}{x:WX}(h:rows[k]?=some x):(ia WX.cells rows)[k*1]?=some (.slice x.A x.n x.c):=by
 have:=Y_ List.head? (Yq WX.len h);rwa[List.head?_take,Q' V',List.head?_drop] at this
def IV{N:List (List Int)}{i:Nat}(u:k<N.length)(hi:i<N.length):mm (fp N k i) k j=mm N i j:=by
 unfold mm fp;rw[X9 (l:=List.set _ _ _),L9,L9,d_,P' hi,P' rfl,P' u];by_cases h:i=k
 .rw[P' h,h];rfl
 rw[Q' h];rfl
variable {w0:World}
def Uh.at2{d L X E:HE}{RS:List HE}{rows:List WX}{W:List Nat}{N:List (List Int)}{b i:Nat}(h:Uh RS rows W)(I:Hp w0 (d::L::X::E::RS) w)(s:rows.map WX.l=N.map (List.map iR))(Q:∀x∈rows,x.n=n)(sq:Ku n b N)(hi:i<n):
  ∃(g c:Nat)(l:List IR)(p:Nat),rows[i]?=some ⟨some ⟨g,0,none⟩,n,c,l⟩/\W[i]?=some p/\RS[p]?=some (.row (some ⟨g,0,none⟩) n c 28 2 (ia IR.cells l))/\l.length=n/\∀j,j<n->l[j]?=some (iR (mm N i j)):=by
 have e:rows.length=n:=by rw[<-D' (f:=WX.l),s,D'];exact sq.ln
 obtain⟨x,C⟩:=aa (l:=rows) (k:=i) Z';obtain⟨p,hp⟩:=aa (l:=W) (k:=i) (by rw[h.ln];omega);have hR:=h.at_ i x p C hp;have B:=Q x (N' C);obtain⟨A,m,c,l⟩:=x;obtain rfl:m=n:=B;obtain⟨g,rfl⟩:=I.kb (i:=p+4) (show(d::L::X::E::RS)[p+4]?=some (.row A m c 28 2 (ia IR.cells l)) from hR) Z';have h1:(rows.map WX.l)[i]?=some l:=by rw[z',C];rfl
 rw[s,z'] at h1;obtain⟨r,H,a,_⟩:=sq.get hi;rw[H] at h1;obtain rfl:r.map iR=l:=i' h1;refine⟨g,c,_,p,C,hp,hR,by rw[D'];exact a,λj hj=> ?_⟩;obtain⟨q,T,_,K,_⟩:=sq.at_ hi hj;rw[H] at T;obtain rfl:=i' T;rw[z',K];rfl
def Ey{l:List WX}{i:Nat}{x y:WX}(C:l[i]?=some x)(h:y.cells=x.cells):ia WX.cells (l.set i y)=ia WX.cells l:=by
 unfold ia;have:(l.set i y).map WX.cells=l.map WX.cells:=(by rw[B9,h];exact ir (by rw[z',C];rfl));rw[List.flatMap_def,List.flatMap_def,this]
variable {z:Int}
def Uh.jd{RS:List HE}{rows:List WX}{W:List Nat}{N m:List (List Int)}{b i p:Nat}{A:Option Addr}{c:Nat}{l:List IR}(h:Uh RS rows W)(s:rows.map WX.l=N.map (List.map iR))(sq:Ku n b N)(C:rows[i]?=some ⟨A,n,c,l⟩)(hp:W[i]?=some p)(o:∀{r:List Int},N[i]?=some r->N.set i (r.set j z)=m):(rows.set i ⟨A,n,c,l.set j (iR z)⟩).map WX.l=m.map (List.map iR)/\Uh (RS.set p (.row A n c 28 2 (ia IR.cells (l.set j (iR z))))) (rows.set i ⟨A,n,c,l.set j (iR z)⟩) W:=by
 have g:p<RS.length:=(x'.1 (h.at_ i _ p C hp)).1;have d:i<rows.length:=(x'.1 C).1;constructor
 .have h1:(rows.map WX.l)[i]?=some l:=by rw[z',C];rfl
  rw[s,z'] at h1;obtain⟨r,H⟩:=aa (l:=N) (k:=i) (by rw[<-D' (f:=List.map iR),<-s,D'];exact d);rw[H] at h1;obtain rfl:r.map iR=l:=i' h1;rw[B9,s,<-o H,B9,B9]
 refine⟨by rw[d_];exact h.ln,h.nd,λa x q Q R=> ?_⟩;rw[L9] at Q;by_cases e:i=a
 .subst e;rw[P' rfl,P' d] at Q;obtain rfl:=i' Q;rw[hp] at R;obtain rfl:=i' R;rw[L9,P' rfl,P' g];rfl
 rw[Q' e] at Q;rw[L9,Q' (λL=>e (h.nd i a p hp (by rw[L];exact R)))];exact h.at_ a x q Q R
def vS(a b:Int):Mk ([iR a,iR b].map IR.v)=a*b:=by simp[Mk,JU]
def yT{a b:Int}(M:Ea a.natAbs<=K)(F:Ea b.natAbs<=K)(h:K<=8000000):([iR a,iR b].map λa=>a.Va.size).sum<=100000000:=by
 have h1:(iR a).Va.size=_:=sc a;have h2:(iR b).Va.size=_:=sc b;simp[h1,h2];omega
def yU{a b:Int}(M:Ea a.natAbs<=K)(F:Ea b.natAbs<=K)(h:K<=8000000):(iM (a*b)).size<=100000000:=by
 have:=lv (last:=1) M F (show Ea (Int.natAbs 0)<=K from J' _) (show Ea (Int.natAbs 0)<=K from J' _);unfold UC at this;rw[Int.ediv_one,Int.zero_mul,Int.sub_zero] at this;rw[sc];omega
def abA{a b c d:Int}(M:Ea a.natAbs<=K)(F:Ea b.natAbs<=K)(E:Ea c.natAbs<=K)(T:Ea d.natAbs<=K)(h:K<=8000000):(iM (a*b-c*d)).size<=10000000:=by
 have:=lv (last:=1) M F E T;unfold UC at this;rw[Int.ediv_one] at this;rw[sc];omega
def Dl(z:Int)(v:Value)(_:World):Prop:=∃g:Bool×ByteArray,v=.tuple #[.agg #[.bool (iN z),.string (iM z)],.agg #[.bool g.1,.string g.2],.bool true]/\True
def Dl.ext(v:Value)(w V)(h:Dl z v w)(_:Below w.heap.size w V):Dl z v V:=h
def Ys(v:Value)(_:World):Prop:=∃g:Bool×ByteArray,v=.agg #[.bool g.1,.string g.2]/\True
def Ys.ext(v:Value)(w V)(h:Ys v w)(_:Below w.heap.size w V):Ys v V:=h
set_option maxHeartbeats 4000000 in
def My{RR:List HE}(B)(n c:Nat)(rows:List WX)(M:List (List Int))(P)(K:Nat)(w)(hT:Gc w)(I:Hp w0 (.row B n c 215 1 (ia WX.cells rows)::RR) w)(hM:rows.map WX.l=M.map (List.map iR))(hrn:∀x∈rows,x.n=n)(hin:Uh RR rows P)(sq:Ku n K M)(hn:n<=4)(hK:K<=100000):Calls prog 221 #[.slice B n c] w λr V=>r=.returned (.agg #[.bool (iN (ay M)),.string (iM (ay M))])/\∃(rows':List WX)(RR':List HE),Hp w0 (.row B n c 215 1 (ia WX.cells rows')::RR') V/\(∀q,q∉P->RR'[q]?=RR[q]?):=by
 have hln:rows.length=n:=(I.ma (i:=0) rfl).sa WX.len V';refine Ca func221 ?_;refine sr ?_;refine dv I ?_;intro b2 w2 I;refine na (sr (mL (xi (aI (na (sr ?_))))));refine qd I (gj 1 _ V' V') rfl ?_;intro w13 I;refine dv I ?_;intro b4 w4 I;refine Ze I 0 [_,_] ?_;intro ws I;replace I:Hp _ (.blk _ _ [_,_] _::_) _:=I;refine aB (na (xa (sr (mI (mI (na (td ?_)))))));refine Fi 5 15 (λv5 v V=>∃(k:Nat)(t:Bool)(N:List (List Int))(last:Int)(rows:List WX)(RS:List HE)(PS:List Nat),k<=n/\v=.int .i64 k/\v5=.bool t/\Ju (n-k) k N last t=ay M/\rows.map WX.l=N.map (List.map iR)/\(∀x∈rows,x.n=n)/\Uh RS rows PS/\(∀q,q∈PS->q∈P)/\Ku n (2^k*(K+1)-1) N/\last≠0/\Ea last.natAbs<=2^k*(K+1)/\(∀q,q∉P->RS[q]?=RR[q]?)/\Hp w0 (.blk b4 28 [.bool (iN last),.string (iM last)] (0,0)::.blk b2 28 [.bool false,.string (ByteArray.mk #[])] (0,0)::.row B n c 215 1 (ia WX.cells rows)::RS) V) (λ_ v _=>n-(intOf v).toNat) ?_ ?_
 .exact⟨0,false,M,1,rows,RR,P,J' _,rfl,rfl,by unfold ay;rw[sq.ln];rfl,hM,hrn,hin,λ_ h=>h,sq.mono Z',V',d' (show Ea (Int.natAbs 1)<=1 by decide+kernel) Z',λ_ _=>rfl,I⟩
 clear I hM hin;rintro ρ' v5 v V ⟨k,t,N,last,rows,RS,PS,hk,rfl,rfl,hbar,hM,hrn,hin,hPS,sq,hl0,hlz,hfr,I⟩;by_cases D:k<n
 .have hcap:=I.me (i:=2) rfl;have hrl:rows.length=n:=(I.ma (i:=2) rfl).sa WX.len V';have hpn:PS.length=n:=by rw[hin.ln];exact hrl
  have hrow:∀(i:Nat)(x:WX),rows[i]?=some x->∃(p:Nat)(r:List Int),PS[i]?=some p/\RS[p]?=some x.row/\N[i]?=some r/\x.l=r.map iR:=λi x hx=>by
   obtain⟨p,hp⟩:=aa (l:=PS) (k:=i) (by have:=(x'.1 hx).1;omega);have h1:(rows.map WX.l)[i]?=some x.l:=by rw[z',hx];rfl
   rw[hM,z'] at h1;obtain⟨r,hr⟩:=aa (l:=N) (k:=i) (by rw[sq.ln];have:=(x'.1 hx).1;omega);rw[hr] at h1;exact⟨p,r,hp,hin.at_ i x p hx hp,hr,(i' h1).symm⟩
  obtain⟨gB,rfl⟩:=I.kb (i:=2) rfl Z';refine sr ?_;refine Wg (na (xa (cT (Fb (Za (xa (td (sr (mI ?_)))))))));refine dv I ?_;intro b6 w6 I;refine Ze I 0 [_] ?_;intro ws I;replace I:Hp _ (.blk _ _ [_] _::_) _:=I;refine na (sr (mL ?_));refine pj I 0 ?_;refine ub rfl rfl V' (Nf Qa.out pa.size rfl rfl (l:=k) rfl Z' Z') ?_;refine Bu ?_;replace I:=show Hp w0 (.blk b6 3 [.int .i64 k] (0,0)::_::_::.row (some ⟨gB,0,none⟩) n c 215 1 (ia WX.cells rows)::_) ws from I;have hcut:Sl ws (if c=k then(some ⟨gB,0,none⟩:Option Addr) else(some ⟨gB,0,none⟩:Option Addr).map (·.add (k*1))) (n-k) 1 (ia WX.cells (rows.drop k)):=(by have:=(I.ma (i:=3) rfl).back (l:=k) Z' hcap;rwa[show(ia WX.cells rows).drop (k*1)=ia WX.cells (rows.drop k) from Yf WX.len rows k] at this);have hval:∀(i:Nat)(x:WX),rows[i]?=some x->(x.l.getD k ⟨false,ByteArray.mk #[]⟩).v=mm N i k:=λi x hx=>(by obtain⟨p,r,h1,h2,h3,h4⟩:=hrow i x hx;obtain⟨r',g1,g2,g3,_⟩:=sq.at_ (i:=i) (j:=k) (by have:=(x'.1 hx).1;omega) D;rw[h3] at g1;obtain rfl:=i' g1;rw[X9,h4,z',g3];exact JU _);have hp6:=I.se (i:=0) (o:=0) rfl rfl;have hcl:∀(z:WX)(Z:World),z∈rows.drop k->Below ws.heap.size ws Z->Zc 270 #[.slice z.A z.n z.c,.pointer (some ⟨b6,0,none⟩)] Z (.bool (decide ((z.l.getD k ⟨false,ByteArray.mk #[]⟩).v.sign≠0))):=λz Z hz hb=>by
   obtain⟨i,hi⟩:=C_.1 (J6 hz);obtain⟨p,r,h1,h2,h3,h4⟩:=hrow i z hi;have hrl:=sq.row r (N' h3);obtain⟨x,hx⟩:=aa (l:=r) (k:=k) Z';have ha:z.l[k]?=some (iR x):=by rw[h4,z',hx];rfl
   rw[X9,ha];have hso:Sl ws z.A z.n 2 (ia IR.cells z.l):=ee (I.own z.row (u9 [_,_,_,_] (N' h2)));exact YI z k (iR x) _ Z (Kb hb hp6) (hso.ext hb) ha
  refine te (IH _ (n-k) (c-k) (rows.drop k) _ [.pointer (some ⟨b6,0,none⟩)] (λz=>decide ((z.l.getD k ⟨false,ByteArray.mk #[]⟩).v.sign≠0)) _ hcut Z' hcl) rfl ?_;rintro e_ w22 ⟨vi,rfl,hvi,hb_⟩;refine⟨_,rfl, ?_⟩;replace I:=I.ext hb_;obtain⟨rfl,hno⟩|⟨i,x,hi,rfl,hpx,hfst⟩:=hvi
  .have hpn:Yy N k=none:=kR λi h1 h2=>(by rw[sq.ln] at h2;obtain⟨x,hx⟩:=aa (l:=rows) (k:=i) Z';have h3:=(E9.1 hno) x (C_.2 ⟨i-k,by rw[c9,show k+(i-k)=i by omega];exact hx⟩);rw[hval i x hx] at h3;exact x0);rw[FP D hpn] at hbar;refine aI (na (xa (sr (mI ?_))));refine Wg (na (cT (sr ?_)));refine Ez [_,_] ?_;refine Ze I 2 [_,_] ?_;intro ws I;replace I:Hp _ (_::_::.blk _ _ [_,_] _::_) _:=I;refine na (Gj (Ut (OP (Ut (Ut (OP (Ut ?_)))))));refine bU ?_;rw[<-hbar];exact⟨rfl,rows,RS,I.sub (.cons _ (.cons _ (.cons _ (P_ _)))),hfr⟩
  have hki:k+i<n:=by have:=(x'.1 hi).1;rw[j_] at this;omega
  have hxi:rows[k+i]?=some x:=by rw[c9] at hi;exact hi
  obtain⟨xk,hxk⟩:=aa (l:=rows) (k:=k) Z';have hpiv:Yy N k=some (k+i):=by
   refine VR Z' (by rw[sq.ln];exact hki) (λh=> ?_) λj h1 h2=> ?_
   .rw[hval _ _ hxi] at hpx;exact O9 hpx (by rw[h];rfl)
   obtain⟨y,hy⟩:=aa (l:=rows) (k:=j) Z';have h3:=(E9.1 hfst) y (C_.2 ⟨j-k,by rw[o8,P' Z',c9,show k+(j-k)=j by omega];exact hy⟩);rw[hval j y hy] at h3;exact x0
  have hpv0:mm N (k+i) k≠0:=λh=>(by rw[hval _ _ hxi] at hpx;exact O9 hpx (by rw[h];rfl));rw[DT D hpiv] at hbar;have hsw:=fO hin hM hrn hPS hxk hxi;refine aI (na (xa (sr (mI ?_))));refine Wg (na (cF (Fb (Za ?_))));refine Ot [5,26,27,28,29,30,31,32,33,34,35,36,37,38,39,40,41,42,43,44,45,46,47] 5 (λv5 V=>∃(s:List WX)(PS2:List Nat),v5=.bool (if k+i=k then t else !t)/\s.map WX.l=(fp N k (k+i)).map (List.map iR)/\(∀x∈s,x.n=n)/\Uh RS s PS2/\(∀q,q∈PS2->q∈P)/\Hp w0 (.blk b6 3 [.int .i64 k] (0,0)::.blk b4 28 [.bool (iN last),.string (iM last)] (0,0)::.blk b2 28 [.bool false,.string (ByteArray.mk #[])] (0,0)::.row (some ⟨gB,0,none⟩) n c 215 1 (ia WX.cells s)::RS) V) ?_ ?_
  .obtain⟨PS2,hA,hB,hC,hD⟩:=hsw;by_cases hi0:0<i
   .have hrc:=Wd WX.len rows;have hx1:(ia WX.cells rows)[(k+i)*1]?=some (.slice x.A x.n x.c):=Jk hxi;have hx2:(ia WX.cells rows)[k*1]?=some (.slice xk.A xk.n xk.c):=Jk hxk;have d:∀V,Hp w0 (.blk b6 3 [.int .i64 k] (0,0)::.blk b4 28 [.bool (iN last),.string (iM last)] (0,0)::.blk b2 28 [.bool false,.string (ByteArray.mk #[])] (0,0)::.row (some ⟨gB,0,none⟩) n c 215 1 (db (db (ia WX.cells rows) (k*1) (WX.cells x)) ((k+i)*1) (WX.cells xk))::RS) V->∃(s:List WX)(PS2:List Nat),Value.bool (!t)=.bool (if k+i=k then t else !t)/\s.map WX.l=(fp N k (k+i)).map (List.map iR)/\(∀x∈s,x.n=n)/\Uh RS s PS2/\(∀q,q∈PS2->q∈P)/\Hp w0 (.blk b6 3 [.int .i64 k] (0,0)::.blk b4 28 [.bool (iN last),.string (iM last)] (0,0)::.blk b2 28 [.bool false,.string (ByteArray.mk #[])] (0,0)::.row (some ⟨gB,0,none⟩) n c 215 1 (ia WX.cells s)::RS) V:=λV I=>(by rw[Jd WX.len Z',Jd WX.len (by rw[d_];omega)] at I;exact⟨_,PS2,by rw[Q' Z'],hA,hB,hC,hD,I⟩);refine sr (mI ?_);refine Fu (na (cT (xa ?_)))
    refine Sk [2,3,4,5] [0,0,0,0,0,24,0,0,0,384,960,1984,0,0,12288,28672,65475,131011,262143,524287] 16 [[(0,none)],[(6,none)],[(0,none)],[(6,none)],[(7,none)],[(31,some 3),(32,some 4)],[(0,none)],[(6,none)],[(7,none)],[(35,some 7),(36,some 8)],[(34,some 6),(37,some 9)],[(38,some 10)],[(0,none)],[(6,none)],[(40,some 12),(41,some 13)],[(42,some 14)]] [(15,43),(14,42),(13,41),(12,40),(11,39),(10,38),(9,37),(8,36),(7,35),(6,34),(5,33),(4,32),(3,31),(2,30),(1,29),(0,28)] [([],7,[(15,43),(14,42),(13,41),(12,40),(11,39),(10,38),(9,37),(8,36),(7,35),(6,34),(1,29),(0,28)]),([4],6,[(15,43),(14,42),(13,41),(12,40),(11,39),(10,38),(9,37),(8,36),(7,35),(6,34),(4,32),(1,29),(0,28)]),([3],6,[(15,43),(14,42),(13,41),(12,40),(11,39),(10,38),(9,37),(8,36),(7,35),(6,34),(3,31),(1,29),(0,28)]),([3,4],5,[(15,43),(14,42),(13,41),(12,40),(11,39),(10,38),(9,37),(8,36),(7,35),(6,34),(4,32),(3,31),(1,29),(0,28)]),([3,4,5],4,[(15,43),(14,42),(13,41),(12,40),(11,39),(10,38),(9,37),(8,36),(7,35),(6,34),(5,33),(4,32),(3,31),(1,29),(0,28)]),([2],6,[(15,43),(14,42),(13,41),(12,40),(11,39),(10,38),(9,37),(8,36),(7,35),(6,34),(2,30),(1,29),(0,28)]),([2,4],5,[(15,43),(14,42),(13,41),(12,40),(11,39),(10,38),(9,37),(8,36),(7,35),(6,34),(4,32),(2,30),(1,29),(0,28)]),([2,3],5,[(15,43),(14,42),(13,41),(12,40),(11,39),(10,38),(9,37),(8,36),(7,35),(6,34),(3,31),(2,30),(1,29),(0,28)]),([2,3,4],4,[(15,43),(14,42),(13,41),(12,40),(11,39),(10,38),(9,37),(8,36),(7,35),(6,34),(4,32),(3,31),(2,30),(1,29),(0,28)]),([2,3,4,5],3,[(15,43),(14,42),(13,41),(12,40),(11,39),(10,38),(9,37),(8,36),(7,35),(6,34),(5,33),(4,32),(3,31),(2,30),(1,29),(0,28)])] I mixed U' U' V' ?_
    refine eI ?_;refine sK 0 ?_;refine eI ?_;refine sK 0 ?_;refine nN ?_;refine abk ?_;refine eI ?_;refine sK 0 ?_;refine nN ?_;refine abk ?_;refine Xr ((k+i)) ?_;refine uo (λ_ hj=>hj.hp.Rc (i:=3) rfl hx1) ?_;refine eI ?_;refine sK 0 ?_;refine Xr (k) ?_;refine uo (λ_ hj=>hj.hp.Rc (i:=3) rfl hx2) ?_;refine Fa ?_;intro p_ hp_;simp only[u',h_,or_false] at hp_;obtain rfl|rfl|rfl|rfl|rfl|rfl|rfl|rfl|rfl|rfl:=hp_
    .intro f W Q hV;have E:=Q.bl;obtain⟨v43,v42,v41,v40,v39,v38,v37,v36,v35,X,L,F,_⟩:=hV;simp only[qe];have R:f 0=_:=F;rw[R];have J:f 1=_:=L;rw[J];have S:f 6=_:=X;rw[S];have C:f 7=_:=v35;rw[C];have m:f 8=_:=v36;rw[m];have T:f 9=_:=v37;rw[T];have Y:f 10=_:=v38;rw[Y];have g:f 11=_:=v39;rw[g];have H:f 12=_:=v40;rw[H];have a:f 13=_:=v41;rw[a];have b:f 14=_:=v42;rw[b];have G:f 15=_:=v43;rw[G];replace I:=Q.hp;refine En ?_;refine Kc ?_;refine vb (i:=2) (by repeat (first|exact Mb|refine lb ?_|refine Lb ?_|refine Sa ?_)) rfl U' U' U' (λ_=>Ib rfl) V' ?_;refine vb (i:=4) (by repeat (first|exact Mb|refine lb ?_|refine Lb ?_|refine Sa ?_)) rfl U' U' U' (λ_=>Ib rfl) V' ?_;refine jM ?_ ?_
     .refine pj I 0 ?_;exact BE
     exact uL
    .intro f W Q hV;have E:=Q.bl;obtain⟨v43,v42,v41,v40,v39,v38,v37,v36,v35,X,v32,L,F,_⟩:=hV;simp only[qe];have R:f 0=_:=F;rw[R];have J:f 1=_:=L;rw[J];have e32:f 4=_:=v32;rw[e32];have S:f 6=_:=X;rw[S];have C:f 7=_:=v35;rw[C];have m:f 8=_:=v36;rw[m];have T:f 9=_:=v37;rw[T];have Y:f 10=_:=v38;rw[Y];have g:f 11=_:=v39;rw[g];have H:f 12=_:=v40;rw[H];have a:f 13=_:=v41;rw[a];have b:f 14=_:=v42;rw[b];have G:f 15=_:=v43;rw[G];replace I:=Q.hp;refine En ?_;refine Kc ?_;refine vb (i:=2) (by repeat (first|exact Mb|refine lb ?_|refine Lb ?_|refine Sa ?_)) rfl U' U' U' (λ_=>Ib rfl) V' ?_;refine jM ?_ ?_
     .refine pj I 0 ?_;exact BE
     exact uL
    .intro f W Q hV;have E:=Q.bl;obtain⟨v43,v42,v41,v40,v39,v38,v37,v36,v35,X,v31,L,F,_⟩:=hV;simp only[qe];have R:f 0=_:=F;rw[R];have J:f 1=_:=L;rw[J];have e31:f 3=_:=v31;rw[e31];have S:f 6=_:=X;rw[S];have C:f 7=_:=v35;rw[C];have m:f 8=_:=v36;rw[m];have T:f 9=_:=v37;rw[T];have Y:f 10=_:=v38;rw[Y];have g:f 11=_:=v39;rw[g];have H:f 12=_:=v40;rw[H];have a:f 13=_:=v41;rw[a];have b:f 14=_:=v42;rw[b];have G:f 15=_:=v43;rw[G];replace I:=Q.hp;refine En ?_;refine Kc ?_;refine vb (i:=2) (by repeat (first|exact Mb|refine lb ?_|refine Lb ?_|refine Sa ?_)) rfl U' U' U' (λ_=>Ib rfl) V' ?_;refine vb (i:=4) (by repeat (first|exact Mb|refine lb ?_|refine Lb ?_|refine Sa ?_)) rfl U' U' U' (λ_=>Ib rfl) V' ?_;refine vb (i:=5) (by repeat (first|exact Mb|refine lb ?_|refine Lb ?_|refine Sa ?_)) rfl U' U' U' (λ_=>Ws rfl rfl Z' Z') V' ?_;refine Gz ?_;exact sG
    .intro f W Q hV;have E:=Q.bl;obtain⟨v43,v42,v41,v40,v39,v38,v37,v36,v35,X,v32,v31,L,F,_⟩:=hV;simp only[qe];have R:f 0=_:=F;rw[R];have J:f 1=_:=L;rw[J];have e31:f 3=_:=v31;rw[e31];have e32:f 4=_:=v32;rw[e32];have S:f 6=_:=X;rw[S];have C:f 7=_:=v35;rw[C];have m:f 8=_:=v36;rw[m];have T:f 9=_:=v37;rw[T];have Y:f 10=_:=v38;rw[Y];have g:f 11=_:=v39;rw[g];have H:f 12=_:=v40;rw[H];have a:f 13=_:=v41;rw[a];have b:f 14=_:=v42;rw[b];have G:f 15=_:=v43;rw[G];replace I:=Q.hp;refine En ?_;refine Kc ?_;refine vb (i:=2) (by repeat (first|exact Mb|refine lb ?_|refine Lb ?_|refine Sa ?_)) rfl U' U' U' (λ_=>Ib rfl) V' ?_;refine vb (i:=5) (by repeat (first|exact Mb|refine lb ?_|refine Lb ?_|refine Sa ?_)) rfl U' U' U' (λ_=>Ws rfl rfl Z' Z') V' ?_;refine Gz ?_;exact sG
    .intro f W Q hV;have E:=Q.bl;obtain⟨v43,v42,v41,v40,v39,v38,v37,v36,v35,X,v33,v32,v31,L,F,_⟩:=hV;simp only[qe];have R:f 0=_:=F;rw[R];have J:f 1=_:=L;rw[J];have e31:f 3=_:=v31;rw[e31];have e32:f 4=_:=v32;rw[e32];have e33:f 5=_:=v33;rw[e33];have S:f 6=_:=X;rw[S];have C:f 7=_:=v35;rw[C];have m:f 8=_:=v36;rw[m];have T:f 9=_:=v37;rw[T];have Y:f 10=_:=v38;rw[Y];have g:f 11=_:=v39;rw[g];have H:f 12=_:=v40;rw[H];have a:f 13=_:=v41;rw[a];have b:f 14=_:=v42;rw[b];have G:f 15=_:=v43;rw[G];replace I:=Q.hp;refine En ?_;refine Kc ?_;refine vb (i:=2) (by repeat (first|exact Mb|refine lb ?_|refine Lb ?_|refine Sa ?_)) rfl U' U' U' (λ_=>Ib rfl) V' ?_;refine Gz ?_;exact sG
    .intro f W Q hV;have E:=Q.bl;obtain⟨v43,v42,v41,v40,v39,v38,v37,v36,v35,X,v30,L,F,_⟩:=hV;simp only[qe];have R:f 0=_:=F;rw[R];have J:f 1=_:=L;rw[J];have e30:f 2=_:=v30;rw[e30];have S:f 6=_:=X;rw[S];have C:f 7=_:=v35;rw[C];have m:f 8=_:=v36;rw[m];have T:f 9=_:=v37;rw[T];have Y:f 10=_:=v38;rw[Y];have g:f 11=_:=v39;rw[g];have H:f 12=_:=v40;rw[H];have a:f 13=_:=v41;rw[a];have b:f 14=_:=v42;rw[b];have G:f 15=_:=v43;rw[G];replace I:=Q.hp;refine En ?_;refine Kc ?_;refine vb (i:=4) (by repeat (first|exact Mb|refine lb ?_|refine Lb ?_|refine Sa ?_)) rfl U' U' U' (λ_=>Ib rfl) V' ?_;refine jM ?_ ?_
     .refine pj I 0 ?_;exact BE
     exact uL
    .intro f W Q hV;have E:=Q.bl;obtain⟨v43,v42,v41,v40,v39,v38,v37,v36,v35,X,v32,v30,L,F,_⟩:=hV;simp only[qe];have R:f 0=_:=F;rw[R];have J:f 1=_:=L;rw[J];have e30:f 2=_:=v30;rw[e30];have e32:f 4=_:=v32;rw[e32];have S:f 6=_:=X;rw[S];have C:f 7=_:=v35;rw[C];have m:f 8=_:=v36;rw[m];have T:f 9=_:=v37;rw[T];have Y:f 10=_:=v38;rw[Y];have g:f 11=_:=v39;rw[g];have H:f 12=_:=v40;rw[H];have a:f 13=_:=v41;rw[a];have b:f 14=_:=v42;rw[b];have G:f 15=_:=v43;rw[G];replace I:=Q.hp;refine En ?_;refine Kc ?_;refine jM ?_ ?_
     .refine pj I 0 ?_;exact BE
     exact uL
    .intro f W Q hV;have E:=Q.bl;obtain⟨v43,v42,v41,v40,v39,v38,v37,v36,v35,X,v31,v30,L,F,_⟩:=hV;simp only[qe];have R:f 0=_:=F;rw[R];have J:f 1=_:=L;rw[J];have e30:f 2=_:=v30;rw[e30];have e31:f 3=_:=v31;rw[e31];have S:f 6=_:=X;rw[S];have C:f 7=_:=v35;rw[C];have m:f 8=_:=v36;rw[m];have T:f 9=_:=v37;rw[T];have Y:f 10=_:=v38;rw[Y];have g:f 11=_:=v39;rw[g];have H:f 12=_:=v40;rw[H];have a:f 13=_:=v41;rw[a];have b:f 14=_:=v42;rw[b];have G:f 15=_:=v43;rw[G];replace I:=Q.hp;refine En ?_;refine Kc ?_;refine vb (i:=4) (by repeat (first|exact Mb|refine lb ?_|refine Lb ?_|refine Sa ?_)) rfl U' U' U' (λ_=>Ib rfl) V' ?_;refine vb (i:=5) (by repeat (first|exact Mb|refine lb ?_|refine Lb ?_|refine Sa ?_)) rfl U' U' U' (λ_=>Ws rfl rfl Z' Z') V' ?_;refine Gz ?_;exact sG
    .intro f W Q hV;have E:=Q.bl;obtain⟨v43,v42,v41,v40,v39,v38,v37,v36,v35,X,v32,v31,v30,L,F,_⟩:=hV;simp only[qe];have R:f 0=_:=F;rw[R];have J:f 1=_:=L;rw[J];have e30:f 2=_:=v30;rw[e30];have e31:f 3=_:=v31;rw[e31];have e32:f 4=_:=v32;rw[e32];have S:f 6=_:=X;rw[S];have C:f 7=_:=v35;rw[C];have m:f 8=_:=v36;rw[m];have T:f 9=_:=v37;rw[T];have Y:f 10=_:=v38;rw[Y];have g:f 11=_:=v39;rw[g];have H:f 12=_:=v40;rw[H];have a:f 13=_:=v41;rw[a];have b:f 14=_:=v42;rw[b];have G:f 15=_:=v43;rw[G];replace I:=Q.hp;refine En ?_;exact BE
    intro f W Q hV;have E:=Q.bl;obtain⟨v43,v42,v41,v40,v39,v38,v37,v36,v35,X,v33,v32,v31,v30,L,F,_⟩:=hV;simp only[qe];have R:f 0=_:=F;rw[R];have J:f 1=_:=L;rw[J];have e30:f 2=_:=v30;rw[e30];have e31:f 3=_:=v31;rw[e31];have e32:f 4=_:=v32;rw[e32];have e33:f 5=_:=v33;rw[e33];have S:f 6=_:=X;rw[S];have C:f 7=_:=v35;rw[C];have m:f 8=_:=v36;rw[m];have T:f 9=_:=v37;rw[T];have Y:f 10=_:=v38;rw[Y];have g:f 11=_:=v39;rw[g];have H:f 12=_:=v40;rw[H];have a:f 13=_:=v41;rw[a];have b:f 14=_:=v42;rw[b];have G:f 15=_:=v43;rw[G];replace I:=Q.hp;refine En ?_;refine Kc ?_;refine Gz ?_;exact sG
   obtain rfl:i=0:=Z';rw[I9] at hxi hA hB hC |-;obtain rfl:xk=x:=by rw[hxi] at hxk;exact(i' hxk).symm
   rw[List.set_set,ir hxk] at hA hB hC;refine sr (mI ?_);refine Fu (na (cF (Fb (Za ?_))));refine⟨⟨rows,PS2,by rw[P' rfl];rfl,hA,hB,hC,hD,I⟩, ?_⟩;repeat refine oc rfl ?_
   exact λ_ _=>rfl
  intro ρ2 v5 Z ⟨s,PS2,hv5,hM2,hrn2,hin2,hPS2,I⟩;subst hv5;have hpv:mm (fp N k (k+i)) k k≠0:=(by rw[IV (sq.ln ▸ D) (sq.ln ▸ hki)];exact hpv0);have sq2:=sq.swp (i:=k+i) D hki;have hN2:(fp N k (k+i)).length=n:=sq2.ln;have hNl:N.length=n:=sq.ln;rw[hNl] at hbar;generalize fp N k (k+i)=N2 at*;generalize (if k+i=k then t else !t)=t2 at*;refine xa (sr ?_);refine pj I 0 ?_;refine Gi (aI (na (td ?_)));refine bf 8 (λv V=>∃(i:Nat)(rows3:List WX)(RS3:List HE),k+1<=i/\i<=n/\v=.int .i64 i/\rows3.map WX.l=(Mh N2 k i 0 last).map (List.map iR)/\(∀x∈rows3,x.n=n)/\Uh RS3 rows3 PS2/\(∀q,q∉P->RS3[q]?=RR[q]?)/\Hp w0 (.blk b6 3 [.int .i64 k] (0,0)::.blk b4 28 [.bool (iN last),.string (iM last)] (0,0)::.blk b2 28 [.bool false,.string (ByteArray.mk #[])] (0,0)::.row (some ⟨gB,0,none⟩) n c 215 1 (ia WX.cells rows3)::RS3) V) (λv _=>n-(intOf v).toNat) ?_ ?_
  .exact⟨k+1,s,RS,E' _,D,rfl,by rw[bP];exact hM2,hrn2,hin2,hfr,I⟩
  clear I hM2 hrn2 hin2 hfr;rintro ρ3 v w3 ⟨i,rows3,RS3,hi1,hi2,rfl,hM3,hrn3,hin3,hfr3,I⟩;by_cases hit:i<n
  .refine xa (sr (mI (mI ?_)));refine Wg (na (cT (Fb (Za (xa (td (sr ?_)))))));refine pj I 0 ?_;refine Gi (aI (na (td ?_)));refine bf 9 (λv V=>∃(j:Nat)(rows4:List WX)(RS4:List HE),k+1<=j/\j<=n/\v=.int .i64 j/\rows4.map WX.l=(Mh N2 k i j last).map (List.map iR)/\(∀x∈rows4,x.n=n)/\Uh RS4 rows4 PS2/\(∀q,q∉P->RS4[q]?=RR[q]?)/\Hp w0 (.blk b6 3 [.int .i64 k] (0,0)::.blk b4 28 [.bool (iN last),.string (iM last)] (0,0)::.blk b2 28 [.bool false,.string (ByteArray.mk #[])] (0,0)::.row (some ⟨gB,0,none⟩) n c 215 1 (ia WX.cells rows4)::RS4) V) (λv _=>n-(intOf v).toNat) ?_ ?_
   .exact⟨k+1,rows3,RS3,E' _,D,rfl,by rw[<-KX];exact hM3,hrn3,hin3,hfr3,I⟩
   clear I hM3 hrn3 hin3 hfr3;rintro ρ4 v w5 ⟨j,rows4,RS4,hj1,hj2,rfl,hM4,hrn4,hin4,hfr4,I⟩;by_cases hjn:j<n
   .have sq4:=sq2.lj (i:=i) (j:=j) (last:=last) D;obtain⟨gx,cx,lx,px,hx,hpx,hRx,hlx,hvx⟩:=hin4.at2 I hM4 hrn4 sq4 hit;obtain⟨gy,cy,ly,py,hy,hpy,hRy,hly,hvy⟩:=hin4.at2 I hM4 hrn4 sq4 D;have e1:=hvx j hjn;have e2:=hvy k D;have e3:=hvx k D;have e4:=hvy j hjn;rw[Ww sq2 hit hjn Z'] at e1;rw[Ww sq2 D D Z'] at e2;rw[Ww sq2 hit D Z'] at e3;rw[Ww sq2 D hjn Z'] at e4;obtain⟨_,_,_,_,z1⟩:=sq2.at_ hit hjn;obtain⟨_,_,_,_,z2⟩:=sq2.at_ D D;obtain⟨_,_,_,_,z3⟩:=sq2.at_ hit D;obtain⟨_,_,_,_,z4⟩:=sq2.at_ D hjn;have d:=hin4.jd hM4 sq4 hx hpx (rQ (last:=last) sq2 Z' hit hj1 hjn);have hPq:=hPS2 px (N' hpx);have hbar4:=lv (last:=last) z1 z2 z3 z4;unfold UC at d hbar4;have hk16:2^k*(K+1)<=1600016:=(by have:2^k<=2^4:=J_ V' Z';exact d' (G9 this (show K+1<=100001 by omega)) V');generalize mm N2 i j=a1 at*;generalize mm N2 k k=a2 at*;generalize mm N2 i k=a3 at*;generalize mm N2 k j=a4 at*;have hmul1:=λA c Z hS=>Qp A 2 c [iR a1,iR a2] Z hS V' (yT z1 z2 Z');have hmul2:=λA c Z hS=>Qp A 2 c [iR a3,iR a4] Z hS V' (yT z3 z4 Z');rw[vS] at hmul1 hmul2;have hsub:=λZ=>Aj (iN (a1*a2)) (iN (a3*a4)) (iM (a1*a2)) (iM (a3*a4)) Z (yU z1 z2 Z') (yU z3 z4 Z');rw[Uc,Uc] at hsub;have hdiv:=λZ=>xG (iN (a1*a2-a3*a4)) (iN last) (iM (a1*a2-a3*a4)) (iM last) Z (abA z1 z2 z3 z4 Z') (by rw[sc];omega) (by rw[Uc];exact hl0);rw[Uc,Uc] at hdiv;generalize (a1*a2-a3*a4)/last=z at*;have hx1:=Jk hx;have hy1:=Jk hy;refine xa (sr (mI (mI ?_)));refine Wg (na (cT (Fb (Za (xa (td (xa ?_)))))));refine XQ [33] [] 34 I ?_;refine Xr (i) ?_;refine uo (λ_ hj=>hj.hp.Rc (i:=3) rfl hx1) ?_;refine nN ?_;refine Xr (j) ?_;refine Fj [_,_] (λ_ hj=>hj.hp.Wc (f:=IR.cells) (x:=iR a1) (l:=lx) (i:=px+4) hRx IR.len V' e1) ?_;refine wb ?_;refine Xr (k) ?_;refine uo (λ_ hj=>hj.hp.Rc (i:=3) rfl hy1) ?_;refine wb ?_;refine Xr (k) ?_
    refine Fj [_,_] (λ_ hj=>hj.hp.Wc (f:=IR.cells) (x:=iR a2) (l:=ly) (i:=py+4) hRy IR.len V' e2) ?_;refine Wp [_,_,_,_] ?_;refine Ja (i:=15) (Is (.agg #[.bool (iN (a1*a2)),.string (iM (a1*a2))])) Is.ext ?_ ?_
    .intro U Z hj hR;obtain⟨A76,c76,h76,s76⟩:=hR.1;exact ib rfl (La fi (qa h76 Wa)) (hmul1 A76 c76 _ s76) (λ_ _ hq=>⟨_,hq.1,hq.2,rfl⟩)
    refine wb ?_;refine Xr (i) ?_;refine uo (λ_ hj=>hj.hp.Rc (i:=3) rfl hx1) ?_;refine wb ?_;refine Xr (k) ?_;refine Fj [_,_] (λ_ hj=>hj.hp.Wc (f:=IR.cells) (x:=iR a3) (l:=lx) (i:=px+4) hRx IR.len V' e3) ?_;refine wb ?_;refine Xr (k) ?_;refine uo (λ_ hj=>hj.hp.Rc (i:=3) rfl hy1) ?_;refine nN ?_;refine Xr (j) ?_;refine Fj [_,_] (λ_ hj=>hj.hp.Wc (f:=IR.cells) (x:=iR a4) (l:=ly) (i:=py+4) hRy IR.len V' e4) ?_;refine Wp [_,_,_,_] ?_;refine Ja (i:=31) (Is (.agg #[.bool (iN (a3*a4)),.string (iM (a3*a4))])) Is.ext ?_ ?_
    .intro U Z hj hR;obtain⟨A92,c92,h92,s92⟩:=hR.1;exact ib rfl (La fi (qa h92 Wa)) (hmul2 A92 c92 _ s92) (λ_ _ hq=>⟨_,hq.1,hq.2,rfl⟩)
    refine dC (λ_ hj=>hsub _) ?_;refine Ja (i:=33) (Ob _ 28 _) Ob.ext (λU Z hj hR=>Pg pa.out hj.bl (λv w2 h hb=>⟨hb,h⟩)) ?_;refine Fa ?_;intro f W Q hV _;obtain⟨v10,v94,v93,v92,v91,v90,v89,v88,v87,v86,v85,v84,v83,v82,v81,v80,v79,v78,v77,v76,v75,v74,v73,v72,v71,v70,v69,v68,v67,v66,v65,v64,v63,v62,_⟩:=hV;obtain⟨A76,c76,e76,f76⟩:Rows _ _ _ (f 14) W:=v76;obtain⟨A92,c92,e92,f92⟩:Rows _ _ _ (f 30) W:=v92;obtain⟨b10,e10,hl10,hc10⟩:Ob _ _ _ (f 33) W:=v10;replace I:=Q.newVar I hl10 hc10;refine lg ?_;refine Ze I 0 [_,_] ?_;intro ws I;replace I:Hp _ (.blk _ _ [_,_] _::_) _:=I;refine na ?_;refine XQ [] [10,11] 12 I ?_;refine Xr (i) ?_;refine uo (λ_ hj=>hj.hp.Rc (i:=4) rfl hx1) ?_;refine wb ?_;refine Ja (i:=7) (Dl z) (Dl.ext) ?_ ?_
    .intro U Z hj hR;exact ib rfl (La fi (qa (show U 101=Value.agg (List.toArray _) from hR.1) (qa (show U 102=Value.agg (List.toArray _) from hR.2.1) Wa))) (hdiv Z) (λ_ _ ⟨x,y,hq,hb⟩=>⟨_,hq,hb,(x,y),rfl,trivial⟩)
    refine Ja (i:=8) (Dl z) (Dl.ext) ?_ ?_
    .intro U Z hj hR;obtain⟨g103,e103,o103⟩:=hR.1;exact wc rfl (Ib e103) ⟨Below.refl _ _,g103,rfl,o103⟩
    refine Ja (i:=9) (Is (.agg #[.bool (iN z),.string (iM z)])) (Is.ext) ?_ ?_
    .exact aeq
    refine Ja (i:=10) (Ys) (Ys.ext) ?_ ?_
    .intro U Z hj hR;obtain⟨g95,e95,o95⟩:=hR.1;exact wc rfl (vd (show _=Value.tuple (List.toArray _) from e95) rfl) ⟨Below.refl _ _,g95,rfl,trivial⟩
    refine Ja (i:=11) (Is (.bool true)) (Is.ext) ?_ ?_
    .exact aeq
    refine Fa ?_;intro f W Q hV _;obtain⟨v106,v105,v104,v95,v103,v102,v101,v100,v99,v98,v97,v96,_⟩:=hV;obtain⟨g103,e103,o103⟩:Dl z (f 7) W:=v103;obtain⟨g95,e95,o95⟩:Dl z (f 8) W:=v95;obtain⟨g105,e105,o105⟩:Ys (f 10) W:=v105;replace I:=Q.hp;refine lg ?_;refine sv (Lc (k:=j) Qa.out pa.size rfl rfl Z' Z') ?_;refine Xa I (i:=px+5) (vs:=[_,_]) rfl hRx (Hd rfl) rfl pa.out rfl (by rw[Wd IR.len,hlx];omega) rfl ?_;intro ws I;replace I:=show Hp w0 (_::_::_::_::_::RS4.set px (.row (some ⟨gx,0,none⟩) n cx 28 2 (db (ia IR.cells lx) (j*2) (IR.cells (iR z))))) ws from I;rw[Jd IR.len Z'] at I;refine Zi (Ep (Za (Hb (mI ?_))));refine Gi (aI (Zi (Za ?_)));replace I:=I.sub (G' _ (O' _ (O' _ (O' _ (O' _ (P_ _))))));refine⟨⟨j+1,rows4.set i ⟨some ⟨gx,0,none⟩,n,cx,lx.set j (iR z)⟩,RS4.set px (.row (some ⟨gx,0,none⟩) n cx 28 2 (ia IR.cells (lx.set j (iR z)))),Z',Z',rfl,d.1, ?_,d.2, ?_, ?_⟩,by show n-(j+1)<n-j;omega, ?_⟩
    .intro u hu;obtain hu|rfl:=R8 hu
     .exact hrn4 u hu
     rfl
    .intro q hq;rw[List.getElem?_set_ne (λe:px=q=>hq (e ▸ hPq))];exact hfr4 q hq
    .rw[Ey (y:=⟨some ⟨gx,0,none⟩,n,cx,lx.set j (iR z)⟩) hx rfl];exact I
    exact Wb
   obtain rfl:n=j:=Z';rw[DW sq2] at hM4;refine xa (sr (mI (mI ?_)));refine Wg (na (cF (Xh (Ie (Ie (Ej (Ep (Za (Hb (mI ?_))))))))));refine Gi (aI (Zi (Za ?_)));refine⟨⟨i+1,rows4,RS4,Z',Z',rfl,hM4,hrn4,hin4,hfr4,I⟩,by show n-(i+1)<n-i;omega, ?_⟩;exact Wb
  obtain rfl:n=i:=Z';have sq3:=sq2.lj (i:=n) (j:=0) (last:=last) D;obtain⟨gy,cy,ly,py,hy,hpy,hRy,hly,hvy⟩:=hin3.at2 I hM3 hrn3 sq3 D;have e2:=hvy k D;rw[Ww sq2 D D Z'] at e2;have hy1:=Jk hy;refine xa (sr (mI (mI ?_)));refine Wg (na (cF (Xh (Ie (Ie (Ej (Za ?_)))))));refine XQ [] [] 5 I ?_;refine Xr (k) ?_;refine uo (λ_ hj=>hj.hp.Rc (i:=3) rfl hy1) ?_;refine wb ?_;refine dn2 ?_;intro W I;refine En ?_;refine sv (Ka (vs:=[_,_]) pa.out rfl (I.Wc (f:=IR.cells) (x:=iR (mm N2 k k)) (l:=ly) (i:=py+4) hRy IR.len V' e2) rfl) ?_;refine Ze I 1 [_,_] ?_;intro ws I;replace I:Hp _ (_::.blk _ _ [_,_] _::_) _:=I;refine Zi (Ep (Za (Hb ?_)));refine Gi (mI (Zi (Za ?_)));replace I:=I.sub (G' _ (O' _ (O' _ (O' _ (P_ _)))));obtain⟨_,_,_,_,z2⟩:=sq2.at_ D D;have hpw:2^(k+1)*(K+1)=2^k*(K+1)*2:=by rw[B_,Nat.mul_right_comm]
  have hp0:0<2^k*(K+1):=Q7 (Nat.two_pow_pos k) (Nat.succ_pos K);refine⟨⟨k+1,t2,Mh N2 k n 0 last,mm N2 k k,rows3,RS3,PS2,Z',rfl,rfl,hbar,hM3,hrn3,hin3,hPS2,sq3.mono Z',hpv,Z',hfr3,I⟩,by show n-(k+1)<n-k;omega, ?_⟩;exact Wb
 obtain rfl:n=k:=Z';rw[u_,Ju] at hbar
 cases t with
 |true=>
  rw[P' rfl] at hbar;have hng:=λZ=>rg (iN last) (iM last) Z;rw[Uc] at hng;refine sr ?_;refine Wg (na (xa (cF (Xh (Ie (Ie (Ej (Za (xa (sr (mB (na (cT (sr ?_))))))))))))));refine rk I 0 [_,_] ?_;refine cd I (hng _) ?_;intro w118 I;refine Ze I 1 [_,_] ?_;intro ws I;replace I:Hp _ (_::.blk _ _ [_,_] _::_) _:=I;refine na (Gj (Ut ?_));exact aep
 |false=>
  rw[Q' V'] at hbar;refine sr ?_;refine Wg (na (xa (cF (Xh (Ie (Ie (Ej (Za (xa (sr (mB (na (cF (Fb (Za (xa (Hb ?_)))))))))))))))));refine rk I 0 [_,_] ?_;refine Ze I 1 [_,_] ?_;intro ws I;replace I:Hp _ (_::.blk _ _ [_,_] _::_) _:=I;refine na (Gj ?_);exact aep
variable {G:List HE}
def WI(g n c a:Nat)(l)(w)(I:Hp w0 (.row (some ⟨g,0,none⟩) n c 30 3 (ia NR.cells l)::G) w)(Q:l.length=n)(M:a<n)(B:n<=1000):Calls prog 271 #[.slice (some ⟨g,0,none⟩) n c,.int .i64 a,.int .i64 ((a:Int)+1)] w λr V=>r=.returned (.slice (some ⟨g,0,none⟩) (n-1) c)/\Hp w0 (.row (some ⟨g,0,none⟩) (n-1) c 30 3 (ia NR.cells (l.eraseIdx a))::G) V:=by
 have E:=I.me (i:=0) rfl;refine Ca func271 ?_;have d:=λ(Z:World) (H1:Hp w0 (.row (some ⟨g,0,none⟩) n c 30 3 (ia NR.cells l)::G) Z)=>H1.ma (i:=0) rfl;have k:ia NR.cells (l.take a)++ia NR.cells (l.drop (a+1))=ia NR.cells (l.eraseIdx a):=(by rw[List.eraseIdx_eq_take_drop_succ,Aa]);refine fa ?_;refine QZ ?_;refine fa ?_;refine ud 6 I ?_;refine iY ?_;refine wb ?_;refine QY ?_;refine dn ?_;intro W I;have t:=(d _ I).back (l:=a+1) (c:=c) Z' E;obtain⟨b,J⟩:∃b,(if c=a+1 then some (⟨g,0,none⟩:Addr) else(some (⟨g,0,none⟩:Addr)).map (·.add ((a+1)*3)))=some b:=(by split<;>exact⟨_,rfl⟩);rw[J] at t |-;rw[Yf NR.len] at t;have f:=Wd NR.len (l.drop (a+1));rw[j_] at f;have s:∀j u,(ia NR.cells (l.drop (a+1)))[j]?=some u->W.cell? (b.add j)=some u:=λj u hu=>(by have hj:=(x'.1 hu).1;obtain⟨x,e,r⟩:=t.2 Z';obtain rfl:b=x:=i' e;exact r j u hu);refine To I (i:=0) (a:=b) (p:=a) (m:=n-(a+1)) rfl rfl rfl Z' Z' t.1 s (Ia NR.one _) Qa.out pa.out V' ?_;intro T I;simp only[j'] at I;rw[qh NR.len,k,show a+(n-(a+1))=n-1 by omega] at I;rw[show a+(n-(a+1))=n-1 by omega];have y:(if c=n-1 then some (⟨g,0,none⟩:Addr) else(some (⟨g,0,none⟩:Addr)).map (·.add ((n-1)*3)))=some ⟨g,(n-1)*3,none⟩:=(by rw[Q' Z'];show some ((⟨g,0,none⟩:Addr).add ((n-1)*3))=_;rw[Zd,U_]);refine fa ?_;refine ub rfl rfl V' (xf (l:=n-1) (h:=n) Qa.out pa.size rfl ⟨_,_,rfl,rfl⟩ ⟨_,_,rfl,rfl⟩ Z' Z') ?_;rw[y,show n-(n-1)=1 by omega];refine kl I (i:=0) (o:=(n-1)*3) (m:=1) rfl rfl Z' Z' V' Qa.out pa.out rfl rfl ?_;intro v I;refine fa ?_;exact⟨rfl,I⟩
def zk(row d:Nat)(L:List (List NR)):List (List NR):=(L.eraseIdx row).map λl=>l.eraseIdx d
def KO{row d:Nat}{L:List (List NR)}{l:List NR}:zk row d (L++[l])=if L.length=row then zk row d L else zk row d L++[l.eraseIdx d]:=by
 unfold zk;by_cases h:L.length=row
 .rw[P' h,<-h,List.eraseIdx_append_of_length_le (E' _),u_,List.eraseIdx_of_length_le (E' _)];simp
 rw[Q' h];by_cases h2:row<L.length
 .rw[List.eraseIdx_append_of_lt_length h2];simp
 rw[List.eraseIdx_of_length_le (l:=L++[l]) (by simp;omega),List.eraseIdx_of_length_le (l:=L) Z'];simp
def Uy(A)(n c:Nat)(t:List LX)(row d:Nat)(w)(hT:Gc w)(J:Sl w A n 1 (ia LX.cells t))(S:∀x∈t,x.at_ w)(G:n<=1000)(N:∀x∈t,x.n=n)(E:d<n):Calls prog 222 #[.slice A n c,.int .i64 row,.int .i64 d] w λr V=>∃(B:Option Addr)(c':Nat)(ys:List LX)(R:List HE),r=.returned (.slice B ys.length c')/\ys.map LX.l=zk row d (t.map LX.l)/\(∀y∈ys,y.n=n-1/\.row y.A y.n y.c 30 3 (ia NR.cells y.l)∈R)/\Hp w (.row B ys.length c' 37 1 (ia LX.cells ys)::R) V:=by
 have I:=Hp.start w;have C:=J.sa LX.len V';refine Ca func222 ?_;refine fa ?_;replace I:=I.rb 37 1;refine Fi 7 12 (λs v V=>∃(i H:Nat)(B:Option Addr)(ys:List LX)(R:List HE),i<=n/\v=.int .i64 i/\s=.slice B ys.length H/\ys.length<=i/\ys.map LX.l=zk row d ((t.map LX.l).take i)/\(∀y∈ys,y.n=n-1/\.row y.A y.n y.c 30 3 (ia NR.cells y.l)∈R)/\Hp w (.row B ys.length H 37 1 (ia LX.cells ys)::R) V) (λ_ v _=>n-(intOf v).toNat) ?_ ?_
 .exact⟨0,0,none,[],[],J' _,rfl,rfl,E' _,by simp[zk],λy h=>absurd h h_,I⟩
 clear I;rintro ρ' s v V ⟨i,H,B,ys,R,hi,rfl,rfl,P,g,z,I⟩;by_cases D:i<n
 .obtain⟨x,u⟩:=aa (l:=t) (k:=i) Z';have W:=N' u;obtain⟨ad,rfl,M⟩:=J.at_ Z';have o:=N x W;have f:=(S x W).ln;have e:zk row d ((t.map LX.l).take (i+1))=if i=row then zk row d ((t.map LX.l).take i) else zk row d ((t.map LX.l).take i)++[x.l.eraseIdx d]:=(by rw[ja (show(t.map LX.l)[i]?=some x.l by rw[z',u];rfl),KO];rw[p',D',P9 Z'])
  rw[<-g] at e;refine fa ?_;refine sv (Ba pa.out rfl ((M.ext I.below).recAt LX.len u 0 _ rfl)) ?_;by_cases q:i=row
  .rw[P' q] at e;refine fa ?_;refine⟨⟨i+1,H,B,ys,R,Z',rfl,rfl,Z',e.symm,z,I⟩,by show n-(i+1)<n-i;omega, ?_⟩;exact Wb
  rw[Q' q] at e;have b:=S x W;obtain⟨xA,m,xc,xl⟩:=x;obtain rfl:m=n:=o;replace f:xl.length=m:=f;have a:=λZ F=>Pr xA m xc xl Z (LX.at_.ext b F) Z';refine fa ?_;refine cr I (a _ I.below) ?_;intro T p X I;obtain⟨j,rfl⟩:=I.kb (i:=0) rfl Z';refine fa ?_;refine Wi (WI j m p d xl _ I f E G) ?_;rintro e_ Y ⟨rfl,I⟩;refine⟨_,rfl, ?_⟩;refine pG ?_;intro Q w27 I;refine yw ?_;intro L K w28 I;simp only[j',t_] at I;replace I:=I.sub (r_ _ _);refine fa ?_;replace I:=I.perm (W_ (l₁:=[_]));simp only[C',F'] at I;refine⟨⟨i+1,K,L,ys++[⟨some ⟨j,0,none⟩,m-1,p,xl.eraseIdx d⟩],.row (some ⟨j,0,none⟩) (m-1) p 30 3 (ia NR.cells (xl.eraseIdx d))::R,Z',rfl,by rw[y'];rfl,by rw[y'];show ys.length+1<=i+1;omega,by rw[e,G_];rfl,λy hy=> ?_, ?_⟩,by show m-(i+1)<m-i;omega, ?_⟩
  .exact ac2
  .rw[y',Aa];exact I
  exact Wb
 obtain rfl:n=i:=Z';rw[w' (by rw[D'];omega)] at g;refine fa ?_;exact⟨B,H,ys,R,rfl,g,z,I⟩
def Po(L:List (List NR)):Int:=L.foldl Eu 0
def sy(L:List (List NR)):List (List Int):=L.map λl=>l.map λa=>dy (nR a.da).i ((nR a.da).e-Po L)
def rm(L:List (List NR)):Dyadic:=Dyadic.ofIntWithPrec (ay (sy L)) (-(Po L*L.length))
def DJ(t:List LX):Mo 0 t=Po (t.map LX.l):=by
 unfold Mo Po;rw[List.foldl_map]
def EJ(rows:List WX)(X):Uh ((rows.map WX.row).reverse++X) rows ((List.range rows.length).map λi=>rows.length-1-i):=by
 have f:∀i p:Nat,((List.range rows.length).map λi=>rows.length-1-i)[i]?=some p->i<rows.length/\p=rows.length-1-i:=λi p h=>by
  rw[z'] at h;by_cases hi:i<rows.length
  .rw[f_ hi] at h;exact⟨hi,(i' h).symm⟩
  rw[K_ (by rw[V9];omega)] at h
  cases h
 refine⟨by simp,λi j p h1 h2=> ?_,λi x p C h=> ?_⟩
 .have:=f i p h1;have:=f j p h2;omega
 obtain⟨h1,rfl⟩:=f i p h;rw[m9 (by simp;omega),z8 (by simp;omega),D',show rows.length-1-(rows.length-1-i)=i by omega,z',C];rfl
def rS(i m:Int):Ea (dy i m).natAbs<=Ea i.natAbs+m.toNat:=by
 unfold dy;refine Zb ?_;have h1:=Ab i.natAbs;split
 .rw[q9,R_];have:((2:Int)^m.toNat).natAbs=2^m.toNat:=by rw[D8];rfl
  rw[this];exact N8 h1 (Nat.two_pow_pos _)
 exact l_ (E7 _ _) (k_ h1 (J_ V' (Nat.le_add_right _ _)))
def gK{L:List (List NR)}(Q:L.length=n)(H:∀l∈L,l.length=n)(o:∀l∈L,∀a∈l,Sz K a.da)(g: -(K:Int)<=Po L):Ku n (4*K+7) (sy L):=by
 refine⟨by unfold sy;rw[D'];exact Q,λr G=> ?_,λr G x C=> ?_⟩
 .obtain⟨l,k,rfl⟩:=B'.1 G;rw[D'];exact H l k
 obtain⟨l,k,rfl⟩:=B'.1 G;obtain⟨a,M,rfl⟩:=B'.1 C;obtain⟨h1,h2,b⟩:=(o l k a M).nr;have z:=rS (nR a.da).i ((nR a.da).e-Po L);have P:=Yg (nR a.da).neg (nR a.da).Va;rw[show iv (nR a.da).neg (nR a.da).Va=(nR a.da).i from rfl] at P;omega
def jK{n K:Nat}:∀(f k:Nat)(M:List (List Int))(last:Int)(t:Bool),f+k=n->Ku n (2^k*(K+1)-1) M->Ea last.natAbs<=2^k*(K+1)->Ea (Ju f k M last t).natAbs<=2^n*(K+1)
 |0,k,M,last,t,B,_,Q=>by
  obtain rfl:k=n:=Z';rw[Ju];split
  .rw[Int.natAbs_neg];exact Q
  exact Q
 |f+1,k,M,last,t,B,sq,Q=>by
  rw[Ju]
  cases h:Yy M k with
  |none=>exact J' _
  |some i=>
   have h1:=K6 h;have h2:=S_.1 (List.mem_of_find?_eq_some h);rw[sq.ln] at h2;have l:=sq.swp (k:=k) (i:=i) Z' h2;have w:2^(k+1)*(K+1)=2^k*(K+1)*2:=by rw[B_,Nat.mul_right_comm]
   have q:0<2^k*(K+1):=Q7 (Nat.two_pow_pos k) (Nat.succ_pos K);obtain⟨_,_,_,_,z⟩:=l.at_ (i:=k) (j:=k) Z' Z';exact jK f (k+1) _ _ _ Z' ((l.lj Z').mono Z') Z'
def mK(sq:Ku n K M):Ea (ay M).natAbs<=2^n*(K+1):=by
 unfold ay;rw[sq.ln];exact jK n 0 M 1 false rfl (sq.mono Z') (d' (show Ea (Int.natAbs 1)<=1 by decide+kernel) Z')
def Zz(A)(n c K:Nat)(t:List LX)(w)(j:Gc w)(J:Sl w A n 1 (ia LX.cells t))(S:IF K t w)(s:n<=4)(b:∀x∈t,x.n=n)(hK:K<=10000):Zc 143 #[.slice A n c] w (.tuple #[.agg #[.bool (nR (rm (t.map LX.l))).neg,.string (nR (rm (t.map LX.l))).Va,.int .i64 (nR (rm (t.map LX.l))).e],.int .i64 0]):=by
 have I:=Hp.start w;have m:=J.sa LX.len V';have f:=λZ N=>uq A n c t Z N Z';rw[show dO t=0 by
  unfold dO;rw[Q'];rintro (h|h)
  .omega
  obtain⟨x,F,p⟩:=W9.1 h;exact O9 p (by rw[b x F,m])] at f
 have g:=Pu (K:=K) t 0 (λx b a M=>(S.num x b a M).2) Z';rw[DJ] at g;have r:Ku n (4*K+7) (sy (t.map LX.l)):=by
  refine gK (by rw[D'];exact m) (λl Q=> ?_) (λl Q a M=> ?_) g.1
  .obtain⟨x,h1,rfl⟩:=B'.1 Q;rw[<-b x h1];exact(S.at_ x h1).ln
  obtain⟨x,h1,rfl⟩:=B'.1 Q;exact(S.num x h1 a M).2
 refine Ca func143 ?_;refine Bb ?_;intro T w2 I;refine cd I (f _ (J.ext I.below)) ?_;intro w8 I;refine fa ?_;refine te (jD A n c K t _ (j.hp I) (J.ext I.below) (S.ext I.below) Z' Z') rfl ?_;rintro H w15 ⟨B,c',rows,rfl,W,G⟩;refine⟨_,rfl, ?_⟩;replace I:=I.join G;simp only[C'] at I;rw[DJ] at W |-;have hrl:rows.length=n:=(by have:=Y_ List.length W;rw[D',D'] at this;omega);have v:rows.map WX.l=(sy (t.map LX.l)).map (List.map iR):=(by have:=Y_ (List.map Prod.snd) W;rw[A_,A_] at this;unfold sy;rw[A_,A_];refine this.trans (z9 λx b=> ?_);show x.l.map _=(x.l.map _).map _;rw[A_];rfl);have o:∀x∈rows,x.n=n:=λx F=>(by have h1:(x.n,x.l)∈rows.map λx=>(x.n,x.l):=B'.2 ⟨x,F,rfl⟩;rw[W] at h1;obtain⟨y,hy,e⟩:=B'.1 h1;exact(Y_ Prod.fst e).symm.trans (b y hy));have d:=λZ P Y=>My (w0:=w) (RR:=(rows.map WX.row).reverse++[.blk T 30 [.bool false,.string (ByteArray.mk #[]),.int .i64 0] (0,0)]) B n c' rows _ _ (4*K+7) Z P Y v o (EJ rows _) r s Z';have C:=λZ P=>kf (iN (ay (sy (t.map LX.l)))) (iM (ay (sy (t.map LX.l)))) (Po (t.map LX.l)*(n:Int)) Z P;rw[Uc] at C;refine fa ?_;refine Wi (d _ (j.hp I) I) ?_;rintro H w19 ⟨rfl,q,L,I,k⟩;refine⟨_,rfl, ?_⟩;have R:HE.blk T 30 [.bool false,.string (ByteArray.mk #[]),.int .i64 0] (0,0)∈L:=(by refine N' (i:=rows.length) ?_;rw[k rows.length λh=>by obtain⟨i,hi,e⟩:=B'.1 h;have:=S_.1 hi;omega,S9 (by simp)];simp);replace I:=I.sub (List.singleton_sublist.2 (L' _ R));have z:=mK r;have u:2^n*(4*K+7+1)<=16*(4*K+7+1):=c_ _ (J_ (n:=2) V' s);have E: -(40000:Int)<=Po (t.map LX.l)*(n:Int):=(by refine Int.le_trans ?_ (Int.mul_le_mul_of_nonneg_right (show -(10000:Int)<=_ by omega) (G7 n));omega);have X:Po (t.map LX.l)*(n:Int)<=0:=Int.mul_nonpos_of_nonpos_of_nonneg Z' (G7 n);replace C:=λZ P=>C Z P (by rw[sc];omega) Z' Z';rw[show Dyadic.ofIntWithPrec (ay (sy (t.map LX.l))) (-(Po (t.map LX.l)*(n:Int)))=rm (t.map LX.l) by unfold rm;rw[D',m]] at C;generalize rm (t.map LX.l)=D at*;generalize Po (t.map LX.l)=lo at*;refine fa ?_;rw[M7];refine fa ?_;refine cd I (C _ (j.hp I)) ?_;intro w25 I;refine Bb ?_;intro ws I;refine dP (Nc rfl (Mc (vs:=[_,_,_]) pa.out (I.Ra (i:=0) (n:=3) rfl rfl) rfl) (Ig (ji rfl) Xd)) ?_;exact⟨rfl,I.below⟩
def aaw{L:List (List NR)}(o:∀l∈L,∀a∈l,Sz K a.da): -(K:Int)<=Po L/\Po L<=0:=by
 have:=Pu (K:=K) (L.map λl=>⟨none,0,0,l⟩) 0 (λx C a M=>by
  obtain⟨l,Q,rfl⟩:=B'.1 C;exact o l Q a M) Z'
 rw[DJ,A_] at this;rwa[show L.map (LX.l ∘ λl=>⟨none,0,0,l⟩)=L from List.map_id L] at this
def ab2{L:List (List NR)}(Q:L.length=n)(B:n<=2)(H:∀l∈L,l.length=n)(o:∀l∈L,∀a∈l,Sz K a.da):Sz (16*K+32) (rm L):=by
 obtain⟨h1,h2⟩:=aaw o;have F:=mK (gK Q H o h1);have g:2^n*(4*K+7+1)<=4*(4*K+7+1):=c_ _ (J_ (n:=2) V' B);have u: -(2*(K:Int))<=Po L*(n:Int):=(by refine Int.le_trans ?_ (Int.mul_le_mul_of_nonneg_right h1 (G7 n));rw[Int.neg_mul,M6 (K:Int)];exact Int.neg_le_neg (Int.mul_le_mul_of_nonneg_right Z' (G7 K)));have k:Po L*(n:Int)<=0:=Int.mul_nonpos_of_nonpos_of_nonneg h2 (G7 n);unfold rm;rw[Q];generalize Po L*(n:Int)=e at*;generalize ay (sy L)=z at*;refine⟨z*2^(16*(K:Int)+32+e).toNat,zg _ Z', ?_⟩;rw[q9,show((2:Int)^(16*(K:Int)+32+e).toNat).natAbs=2^(16*(K:Int)+32+e).toNat by rw[D8];rfl];have G:=Ab z.natAbs;refine k_ (N8 G (Nat.two_pow_pos _)) ?_;rw[<-R_];exact J_ V' Z'
def BG(L:List (List NR))(i k:Nat):Dyadic:=if((i:Int)+k) % 2=1 then -rm (zk k i L) else rm (zk k i L)
def ZH(L:List (List NR))(n i:Nat):List NR:=(List.range n).map λk=>nR (BG L i k)
def Rs(L:List (List NR))(n:Nat):List (List NR):=(List.range n).map λi=>ZH L n i
def Gp(f:Nat->α)(k:Nat):(List.range (k+1)).map f=(List.range k).map f++[f k]:=by
 rw[A9,G_];rfl
def DM{L:List (List NR)}{row d:Nat}(Q:L.length=n)(H:∀l∈L,l.length=n)(h1:row<n)(h2:d<n):(zk row d L).length=n-1/\∀l∈zk row d L,l.length=n-1/\∃q∈L,∀a∈l,a∈q:=by
 unfold zk;refine⟨by rw[D',List.length_eraseIdx,P' Z',Q],λl h=> ?_⟩;obtain⟨q,R,rfl⟩:=B'.1 h;have s:=List.mem_of_mem_eraseIdx R;exact⟨by rw[List.length_eraseIdx,H q s,P' h2],q,s,λa M=>List.mem_of_mem_eraseIdx M⟩
def WH{L:List (List NR)}{i:Nat}(Q:L.length=n)(B:n<=3)(H:∀l∈L,l.length=n)(o:∀l∈L,∀a∈l,Sz K a.da)(hi:i<n)(u:k<n):Sz (16*K+32) (rm (zk k i L))/\Sz (16*K+32) (BG L i k):=by
 obtain⟨h1,h2⟩:=DM Q H u hi;have:=ab2 (K:=K) h1 Z' (λl Q=>(h2 l Q).1) λl Q a M=>(by obtain⟨_,q,R,h⟩:=h2 l Q;exact o q R a (h a M));refine⟨this, ?_⟩;unfold BG;split
 .exact this.neg
 exact this
def YM(A)(n c K:Nat)(t:List LX)(w)(hT:Gc w)(hS:Sl w A n 1 (ia LX.cells t))(ht:IF K t w)(hn:n<=3)(hx:∀x∈t,x.n=n)(hK:K<=10000):Calls prog 144 #[.slice A n c] w λr V=>∃(B:Option Addr)(c':Nat)(ys:List LX)(R:List HE),r=.returned (.tuple #[.slice B n c',.int .i64 0])/\ys.map LX.l=Rs (t.map LX.l) n/\(∀y∈ys,y.n=n/\.row y.A y.n y.c 30 3 (ia NR.cells y.l)∈R)/\Hp w (.row B n c' 37 1 (ia LX.cells ys)::R) V:=by
 have I:=Hp.start w;have S:=hS.sa LX.len V';have C:=λZ N=>uq A n c t Z N Z';rw[show dO t=0 by
  unfold dO;rw[Q'];rintro (h|h)
  .omega
  obtain⟨x,F,hx2⟩:=W9.1 h;exact O9 hx2 (by rw[hx x F,S])] at C
 obtain⟨L,o⟩:∃L,L=t.map LX.l:=⟨_,rfl⟩;have p:L.length=n:=by rw[o,D'];exact S
 have s:∀l∈L,l.length=n:=λl Q=>(by rw[o] at Q;obtain⟨x,h1,rfl⟩:=B'.1 Q;rw[<-hx x h1];exact(ht.at_ x h1).ln);have u:∀l∈L,∀a∈l,a.ok/\Sz K a.da:=λl Q a M=>(by rw[o] at Q;obtain⟨x,h1,rfl⟩:=B'.1 Q;exact ht.num x h1 a M);rw[<-o];refine Ca func144 ?_;refine fa ?_;refine cd I (C _ (hS.ext I.below)) ?_;intro w12 I;refine fa ?_;replace I:=I.rb 37 1;refine Fi 5 18 (λv5 v V=>∃(i m:Nat)(B:Option Addr)(ys:List LX)(R:List HE),i<=n/\v=.int .i64 i/\v5=.slice B i m/\ys.map LX.l=(List.range i).map (ZH L n)/\(∀y∈ys,y.n=n/\.row y.A y.n y.c 30 3 (ia NR.cells y.l)∈R)/\Hp w (.row B i m 37 1 (ia LX.cells ys)::R) V) (λ_ v _=>n-(intOf v).toNat) ?_ ?_
 .exact aap
 clear I;rintro ρ' v5 v V ⟨i,m,B,ys,R,hi,rfl,rfl,hym,z,I⟩;by_cases f:i<n
 .refine fa ?_;replace I:=I.rb 30 3;refine Fi 7 23 (λv7 v V=>∃(k H:Nat)(E:Option Addr),k<=n/\v=.int .i64 k/\v7=.slice E k H/\Hp w (.row E k H 30 3 (ia NR.cells ((List.range k).map λk=>nR (BG L i k)))::.row B i m 37 1 (ia LX.cells ys)::R) V) (λ_ v _=>n-(intOf v).toNat) ?_ ?_
  .exact⟨0,0,none,J' _,rfl,rfl,I⟩
  clear I;rintro ρ2 v7 v w2 ⟨k,H,E,hk,rfl,rfl,I⟩;by_cases J:k<n
  .obtain⟨m1,m2⟩:=DM p s J f;obtain⟨z1,z2⟩:=WH p Z' s (λl Q a M=>(u l Q a M).2) f J;have X:=Gp (λk=>nR (BG L i k)) k;have Y:=λZ P=>zj (nR (rm (zk k i L))) Z P (by have:=z1.nr;omega) (by have:=z1.nr;omega) (by have:=z1.nr;omega);rw[Ga] at Y;have b:BG L i k=if((i:Int)+k) % 2=1 then -rm (zk k i L) else rm (zk k i L):=rfl
   refine fa ?_;refine te (Uy A n c t k i _ (hT.hp I) (hS.ext I.below) (λx F=>(ht.at_ x F).ext I.below) Z' hx f) rfl ?_;rintro e_ w30 ⟨D,c30,zs,R2,rfl,T,W,h3⟩;refine⟨_,rfl, ?_⟩;rw[<-o] at T;replace I:=I.ext h3.below;have hzl:zs.length=n-1:=by rw[<-m1,<-T,D']
   have G:=λZ P N hk1=>Zz D zs.length c30 K zs Z P N hk1 Z' (λx F=>by rw[(W x F).1,hzl]) hK;rw[T] at G;have htk:IF K zs w30:=⟨λx F=>ee (h3.own _ (L' _ (W x F).2)),λx F=>by rw[(W x F).1];omega,λx F a M=>by
    obtain⟨_,q,hq,h⟩:=m2 x.l (by rw[<-T];exact W6 F);exact u q hq a (h a M)⟩
   have hzs:=h3.ma (i:=0) rfl;generalize rm (zk k i L)=dt at*;refine cd I (G _ (hT.hp I) hzs htk) ?_;intro w31 I;by_cases j:((i:Int)+k) % 2=1
   .rw[P' j] at b;refine yb ?_;intro b9 w9 I ws I;refine cI rfl rfl V' ?_;refine fa ?_;refine cd I (Y _ (hT.hp I)) ?_;intro w40 I;refine Bb ?_;intro ws I;exact zZ
   rw[Q' j] at b;refine yb ?_;intro b9 w9 I ws I;refine cI rfl rfl V' ?_;refine fa ?_;exact zZ
  obtain rfl:n=k:=Z';refine fa ?_;refine pG ?_;intro b48 w48 I;refine yw ?_;intro A49 c49 w49 I;simp only[j',t_] at I;replace I:=I.sub (r_ _ _);refine fa ?_;replace I:=I.perm (W_ (l₁:=[_]));simp only[C',F'] at I;refine⟨⟨i+1,c49,A49,ys++[⟨E,n,H,ZH L n i⟩],.row E n H 30 3 (ia NR.cells (ZH L n i))::R,Z',rfl,rfl,by rw[G_,hym,Gp];rfl,λy hy=> ?_,by rw[Aa];exact I⟩,by show n-(i+1)<n-i;omega, ?_⟩
  .exact ac2
  exact Wb
 obtain rfl:n=i:=Z';refine fa ?_;exact⟨B,m,ys,R,rfl,hym,z,I⟩
variable {o:Nat}
structure bQ(E:Value->HE)(g o:Nat):Prop where
 ld:∀{w0 w:World}{Hr:List HE}{v:Value},Hp w0 (E v::Hr) w->w.cell? ⟨g,o,none⟩=some v
 st:∀{ro:Mode}{P:Program}{N:Nat}{ops:Array Oper}{Q:Kq}{O:Rf}{w w0:World}{rest:List Oper}{Hr:List HE}{ty:TypeId}{pos:String}{af:Array Edge}{t:TypeId}{x y:Operand}{by':Nat}{ag:Bool}{zc:List Value}{v v':Value},
  Hp w0 (E v::Hr) w->ev O x=.pointer (some ⟨g,o,none⟩)->ev O y=v'->v'.cells= #[v']->ed P t=some (1,ag,by',zc)->v'.oneCell'=true->
  (∀V,Hp w0 (E v'::Hr) V->WL ro P N ops Q rest O V)->WL ro P N ops Q (⟨none,.store t x y,ty,pos,af,none⟩::rest) O w
variable {m:Nat}
def Rc{g c i:Nat}{t:TypeId}{xs:List Value}(hi:i<xs.length):bQ (λv=>.row (some ⟨g,0,none⟩) m c t 1 (xs.set i v)) g (i*1):=by
 refine⟨λ{w0 w G v} I=> ?_,λ{ro P N ops Q O w w0 rest G ty pos af f x y by' ag zc v v'} I C hy E S h1 k=> ?_⟩
 .exact I.Rc (i:=0) (o:=i*1) rfl (by rw[X_];exact List.getElem?_set_self hi)
 refine Xa I (i:=0) (vs:=[v']) C rfl hy E S rfl (by rw[d_];omega) (by simp[h1]) λV a=>k V ?_;have e:db (xs.set i v) (i*1) [v']=xs.set i v':=(by rw[X_,Qb (by rw[d_];exact hi),List.set_set]);rw[e] at a;exact a
def HT(w:World)(a:Addr):Nat:=match w.cell? a with|some v=>lenOf v|none=>0
def ky(x:Dyadic)(m:Nat):List NR:=(List.range m).map λi=>nR (x^i)
def OI{x:Dyadic}{i:Nat}(h:i<m):(ky x m)[i]?=some (nR (x^i)):=by
 unfold ky;rw[z',f_ h];rfl
def VE(x)(m:Nat):ky x (m+1)=ky x m++[nR (x^m)]:=by unfold ky;rw[A9,G_];rfl
def hH{E:Value->HE}{g:Nat}(u:bQ E g o)(x:NR)(n m:Nat)(A:Option Addr)(c k:Nat)(w:World)(hT:Gc w0)(I:Hp w0 (E (.slice A m c)::.row A m c 30 3 (ia NR.cells (ky x.da m))::G) w)(hn:n<=127)(hm:m<=1000)(C:x.ok/\Sz k x.da)(hk:k<=1000):Calls prog 84 #[.pointer (some ⟨g,o,none⟩),.agg #[.bool x.neg,.string x.Va,.int .i64 x.e],.int .i64 n] w λr V=>r=.returned (.agg #[.bool (nR (x.da^n)).neg,.string (nR (x.da^n)).Va,.int .i64 (nR (x.da^n)).e])/\∃(A':Option Addr)(H c':Nat),H<=1000/\Hp w0 (E (.slice A' H c')::.row A' H c' 30 3 (ia NR.cells (ky x.da H))::G) V:=by
 refine Ca func84 ?_;refine yb ?_;intro b4 w4 I b6 w6 I;refine sv (Ba pa.out rfl (u.ld (I.sub (.cons _ (.cons _ (P_ _)))))) ?_;have s:∀q,q<=127->Sz 128000 (x.da^q):=λq R=>(by have h1:=C.2.pow q;exact h1.mono (by have:=G9 hk R;omega));by_cases h0:m=0
 .subst h0;refine fa ?_;refine jR [] [0] 7 I ?_;refine wb ?_;refine Qw ?_;refine dC (λ_ hj=>ej 1 _ (hT.hp hj.hp) V' V') ?_;refine Wp [_,_,_] ?_;refine Fa ?_;intro f W Q p _;obtain⟨v19,v18,v17,v16,v15,v14,v13,_⟩:=p;obtain⟨A19,c19,e19,f19⟩:Rows _ _ _ (f 6) W:=v19;replace I:=Q.hp;refine lg ?_;clear e19 Q;refine mb I (i:=3) rfl rfl rfl (f19) Qa.out pa.out rfl V' (by first|rfl|exact Nb _|exact xb _|exact Da _|exact Ia NR.one _) Z' Z' V' ?_;intro S Y w20 I;simp only[j',t_] at I;refine fa ?_;replace I:=I.perm (W_ (l₁:=[_,_]));simp only[C',F'] at I;refine u.st (v':=.slice S (0+1) Y) I rfl rfl rfl pa.out rfl ?_;intro ws I;replace I:=I.perm (W_ (l₁:=[_,_]));simp only[C',F'] at I;replace I:=I.perm (W_ (l₁:=[_,_]));simp only[C',F'] at I;refine fa ?_;have e0:ia NR.cells (ky x.da 0)++[.bool (nR ((1:Int):Dyadic)).neg,.string (nR ((1:Int):Dyadic)).Va,.int .i64 (nR ((1:Int):Dyadic)).e]=ia NR.cells (ky x.da (0+1)):=by rw[VE,Aa,Jj,D7];rfl
  rw[e0] at I;refine Dx zL0 (λV=>∃(m:Nat)(A:Option Addr)(c:Nat),0<m/\m<=1000/\Hp w0 (.blk b6 30 [.bool false,.string (ByteArray.mk #[]),.int .i64 0] (0,0)::.blk b4 30 [.bool x.neg,.string x.Va,.int .i64 x.e] (0,0)::E (.slice A m c)::.row A m c 30 3 (ia NR.cells (ky x.da m))::G) V) (λV=>n+1-HT V ⟨g,o,none⟩) ?_ ?_
  .exact⟨0+1,_,_,V',V',I⟩
  clear I;rintro ρ' V ⟨m,A,c,hm0,z,I⟩;have L:=u.ld (I.sub (.cons _ (.cons _ (P_ _))));obtain⟨q,rfl⟩:∃q,m=q+1:=⟨m-1,Z'⟩;refine fa ?_;refine sv (Ba pa.out rfl (L)) ?_;by_cases hmn:q+1<=n
  .have F:=λA cc Z P N=>Td A 2 cc [nR (x.da^q),x] Z P N (by simpa using⟨(s q Z').ok V',C.1⟩) 128000 (by simpa[Ga] using⟨s q Z',C.2.mono Z'⟩) V' V';rw[show Re ([nR (x.da^q),x].map NR.da)=x.da^(q+1) by show 1*(nR (x.da^q)).da*x.da=_;rw[Ga,x8,u7]] at F;have v:=OI (x:=x.da) (show q<q+1 by omega);obtain⟨gq,rfl⟩:=I.kb (i:=3) rfl Z';refine fa ?_;refine jR [] [0] 21 I ?_;refine wb ?_;refine Qw ?_;refine wb ?_;refine Qw ?_;refine wb ?_;refine Qw ?_;refine wb ?_;refine Xr (q) ?_;refine Fj [_,_,_] (λ_ hj=>hj.hp.Wc (f:=NR.cells) (x:=nR (x.da^q)) (l:=ky x.da (q+1)) (i:=3) rfl NR.len V' v) ?_;refine wb ?_;refine Wp [_,_,_,_,_,_] ?_;refine Ja (i:=19) (Is (.agg #[.bool (nR (x.da^(q+1))).neg,.string (nR (x.da^(q+1))).Va,.int .i64 (nR (x.da^(q+1))).e])) Is.ext ?_ ?_
   .exact adr
   refine Wp [_,_,_] ?_;refine Fa ?_;intro f W Q p _;have hb_4:=Q.bl;exact FZ
  exact acR
 refine fa ?_;refine Dx zL0 (λV=>∃(m:Nat)(A:Option Addr)(c:Nat),0<m/\m<=1000/\Hp w0 (.blk b6 30 [.bool false,.string (ByteArray.mk #[]),.int .i64 0] (0,0)::.blk b4 30 [.bool x.neg,.string x.Va,.int .i64 x.e] (0,0)::E (.slice A m c)::.row A m c 30 3 (ia NR.cells (ky x.da m))::G) V) (λV=>n+1-HT V ⟨g,o,none⟩) ?_ ?_
 .exact⟨m,A,c,Z',hm,I⟩
 clear I;rintro ρ' V ⟨m,A,c,hm0,z,I⟩;have L:=u.ld (I.sub (.cons _ (.cons _ (P_ _))));obtain⟨q,rfl⟩:∃q,m=q+1:=⟨m-1,Z'⟩;refine fa ?_;refine sv (Ba pa.out rfl (L)) ?_;by_cases hmn:q+1<=n
 .have F:=λA cc Z P N=>Td A 2 cc [nR (x.da^q),x] Z P N (by simpa using⟨(s q Z').ok V',C.1⟩) 128000 (by simpa[Ga] using⟨s q Z',C.2.mono Z'⟩) V' V';rw[show Re ([nR (x.da^q),x].map NR.da)=x.da^(q+1) by show 1*(nR (x.da^q)).da*x.da=_;rw[Ga,x8,u7]] at F;have v:=OI (x:=x.da) (show q<q+1 by omega);obtain⟨gq,rfl⟩:=I.kb (i:=3) rfl Z';refine fa ?_;refine jR [] [0] 21 I ?_;refine wb ?_;refine Qw ?_;refine wb ?_;refine Qw ?_;refine wb ?_;refine Qw ?_;refine wb ?_;refine Xr (q) ?_;refine Fj [_,_,_] (λ_ hj=>hj.hp.Wc (f:=NR.cells) (x:=nR (x.da^q)) (l:=ky x.da (q+1)) (i:=3) rfl NR.len V' v) ?_;refine wb ?_;refine Wp [_,_,_,_,_,_] ?_;refine Ja (i:=19) (Is (.agg #[.bool (nR (x.da^(q+1))).neg,.string (nR (x.da^(q+1))).Va,.int .i64 (nR (x.da^(q+1))).e])) Is.ext ?_ ?_
  .exact adr
  refine Wp [_,_,_] ?_;refine Fa ?_;intro f W Q p _;exact FZ
 exact acR
variable {fuel N:Nat}{ops:Array Oper}{P:Program}{Q:Kq}{O:Rf}
def eQ{L:Array Bool}(E:Region.ready .any ops L≠[]) (h:∀i∈Region.ready .any ops L,∃o d,ops[i]?=some o/\o.dst=some d/\d<N/\OG P ops o O w λv V=>WA P N ops Q fuel (L.setIfInBounds i true) (jd O d v) V):WA P N ops Q (fuel+1) L O w:=by
 refine⟨λa Y=>wpAny_all rfl E λi hi=> ?_⟩;obtain⟨o,d,W,T,b,s⟩:=h i hi;unfold wpOp;rw[W];simp only[];exact s.out a (λa w=>wpAny P .any ops (lift N Q) fuel (L.setIfInBounds i true) a w) (lift N Q) Y.at_ λv V u=>(by rw[T];exact u.out _ (Y.put b v))
def waits(o:Oper)(j:Nat):Bool:=o.after.toList.any λe=>(e.on==j) && Region.binds .any e
abbrev Lv:=Nat->Value->List HE->Prop
def Spec(P:Program)(l:List Oper)(w0:World)(O:Rf)(dst:Nat->Nat)(m:Nat)(S:Lv)(pre:Nat->List HE)(rest:List HE)(i:Nat):Prop:=
 ∃o,l[i]?=some o/\∀(U:Rf)(Z:World)(F:List HE)(R:Nat->List HE),(∀s,(∀j,j<m->dst j≠s)->U s=O s)->(∀j,waits o j=true->S j (U (dst j)) (R j)/\∀x∈R j,x∈F)->(∀x∈rest,x∈F)->Hp w0 (pre i++F) Z->
  OG P l.toArray o U Z λv q=>∃A,S i v A/\Hp w0 (A++F) q
def zN:Nat->(Nat->Prop)->Prop
 |0,_=>True
 |k+1,p=>zN k p/\p k
def XT:∀{k:Nat}{p:Nat->Prop},(∀i,i<k->p i)->zN k p
 |0,_,_=>trivial
 |k+1,_,h=>⟨XT λi hi=>h i Z',h k Z'⟩
def Xp(n j:Nat):(Array.replicate n false).getD j false=false:=by
 rw[U9,T5];split<;>rfl
def zN.get:∀{k:Nat}{p:Nat->Prop},zN k p->∀i,i<k->p i
 |k+1,p,h,i,hi=>by
  by_cases e:i=k
  .rw[e];exact h.2
  exact zN.get h.1 i Z'
def J0(l:List Oper)(m N:Nat)(dst:Nat->Nat):Bool:=
 decide (m<=l.length) && ((List.range m).all λi=>match l[i]? with|some o=>(o.dst==some (dst i)) && decide (dst i<N) && (o.after.toList.all λe=> !Region.binds .any e||decide (e.on<i))|none=>false) &&
 decide ((List.range m).map dst).Nodup &&
 ((List.range (l.length-m)).all λk=>match l[m+k]? with|some o=>(List.range m).all λj=>waits o j|none=>false) &&
 ((List.range (l.length-m)).all λk=>Region.ready .any l.toArray (fh l.length (m+k))==[m+k]) && (Region.ready .any l.toArray (fh l.length l.length)==[])
def bA{l:List Oper}{L:Array Bool}{i:Nat}:i∈Region.ready .any l.toArray L↔i<l.length/\L.getD i true=false/\∃o,l[i]?=some o/\∀e∈o.after,Region.binds .any e=true->L.getD e.on false=true:=by
 unfold Region.ready;rw[D9,S_,show l.toArray.size=l.length by simp];constructor
 .rintro ⟨h1,h2⟩;have W:l.toArray[i]?=some l[i]:=by simp[h1]
  rw[W] at h2;simp only[p9,J9,l',n8] at h2;refine⟨h1,h2.1,l[i],by simp,λe he F=> ?_⟩;have:=j8.1 h2.2 e he;simpa[F] using this
 rintro ⟨h1,h2,o,W,G⟩;refine⟨h1, ?_⟩;rw[show l.toArray[i]?=some o by simpa using W];simp only[p9,J9,l',n8];refine⟨h2,j8.2 λe he=> ?_⟩
 cases F:Region.binds .any e with
 |false=>simp
 |true=>simpa[F] using G e he F
def eC{L:Array Bool}(h:¬∀i,i<m->L.getD i false=true):∃i,i<m/\L.getD i false=false/\∀j,j<i->L.getD j false=true:=by
 induction m with
 |zero=>exact absurd (λi hi=>by omega) h
 |succ m W=>
  by_cases h1:∀i,i<m->L.getD i false=true
  .refine⟨m,Z', ?_,h1⟩
   cases E:L.getD m false with
   |false=>rfl
   |true=>
    refine absurd (λi hi=> ?_) h;by_cases e:i=m
    .rw[e];exact E
    exact h1 i Z'
  obtain⟨i,h2,G⟩:=W h1;exact⟨i,Z',G⟩
def aw{R:Nat->List HE}{i:Nat}(h:i<m)(rest):((List.range m).flatMap R++rest).Perm (R i++(((List.range m).filter (· !=i)).flatMap R++rest)):=by
 have h1:∀m,i<m->((List.range m).flatMap R).Perm (R i++((List.range m).filter (· !=i)).flatMap R):=λm=>by
  induction m with
  |zero=>intro h;omega
  |succ m W=>
   intro h;rw[A9,c8,P7,c8];by_cases e:i=m
   .subst e;have h2:(List.range i).filter (· !=i)=List.range i:=y6.2 λj hj=>by have:=S_.1 hj;simp;omega
    rw[h2,show[i].filter (· !=i)=[] by simp];simp only[l8,List.flatMap_nil,M_];exact y7
   rw[show[m].filter (· !=i)=[m] by simp;omega,<-H_];exact(W Z').append_right _
 rw[<-H_];exact(h1 m h).append_right _
def EU{ρ':Rf}{f:Nat->Value}{ds:List (Nat×Nat)}(h1:∀p∈ds,ρ' p.2=f p.1)(h2:∀s,(∀p∈ds,p.2≠s)->ρ' s=O s)(B:(ds.map (·.2)).Nodup):ρ'=qe O f ds:=funext λs=>by
 obtain⟨G,z⟩:=Jh (O:=O) f ds s B;by_cases h:∃p∈ds,p.2=s
 .obtain⟨p,hp,rfl⟩:=h;rw[G p.1 hp];exact h1 p hp
 rw[z λi hi=>h ⟨(i,s),hi,rfl⟩];exact h2 s λp hp e=>h ⟨p,hp,e⟩
def OG.imp{o:Oper}{K K':Value->World->Prop}(h:OG P ops o O w K)(u:∀v V,K v V->K' v V):OG P ops o O w K':=⟨λa next Q M B=>h.out a next Q M λv V A=>B v V (u v V A)⟩
def ak{L:Array Bool}{i:Nat}(h:i<L.size):(L.setIfInBounds i true).getD j false=(decide (j=i)||L.getD j false):=by
 rw[U9,U9,Array.getElem?_setIfInBounds];by_cases e:i=j
 .subst e;simp[h]
 rw[Q' e,k' (λa=>e a.symm),z_]
def LM{L:Array Bool}{i:Nat}(h:i<L.size)(hu:L.getD i false=false):∀m,i<m->(List.range m).countP (λj=>(L.setIfInBounds i true).getD j false)=(List.range m).countP (λj=>L.getD j false)+1:=by
 have g:∀m,m<=i->(List.range m).countP (λj=>(L.setIfInBounds i true).getD j false)=(List.range m).countP (λj=>L.getD j false):=λm hm=>(by refine List.countP_congr λj hj=> ?_;have:=S_.1 hj;rw[ak h,k' Z',z_]);intro m
 induction m with
 |zero=>intro h;omega
 |succ m W=>
  intro hm;rw[A9,List.countP_append,List.countP_append];by_cases e:i=m
  .subst e;rw[g i (E' _),o6,o6,ak h,hu];simp
  rw[W Z',o6,o6,ak h,k' Z',z_];omega
def AH{L:Array Bool}(h:∀i,i<m->L.getD i false=true):(List.range m).countP (λj=>L.getD j false)=m:=by
 rw[List.countP_eq_length.2 λj hj=>h j (S_.1 hj),V9]
def wu{α β:Type}{f g:α->List β}:∀{l:List α},(∀x∈l,f x=g x)->l.flatMap f=l.flatMap g
 |[],_=>rfl
 |x::l,h=>by rw[l8,l8,h x I',wu λy hy=>h y (L' _ hy)]
def BJ{p:Nat->Bool}(h:(List.range m).all p=true){i:Nat}(hi:i<m):p i=true:=L_.1 h i (S_.2 hi)
def aaj{l:List Oper}{dst:Nat->Nat}{S:Lv}{pre:Nat->List HE}{rest:List HE}{ds:List (Nat×Nat)}(F:∀p∈ds,p.1<m/\p.2=dst p.1)(H:∀i,i<m->(i,dst i)∈ds)(K:(ds.map (·.2)).Nodup)(C:∀i j,i<m->j<m->dst i=dst j->i=j) (r:m<=l.length)(hop:∀i,i<m->∃o,l[i]?=some o/\o.dst=some (dst i)/\dst i<N/\∀e∈o.after,Region.binds .any e=true->e.on<i) (htl:∀k,m<=k->k<l.length->∃o,l[k]?=some o/\∀j,j<m->waits o j=true) (hrd:((List.range (l.length-m)).all λk=>Region.ready .any l.toArray (fh l.length (m+k))==[m+k])=true)(c:Region.ready .any l.toArray (fh l.length l.length)=[]) (hs:zN m (Spec P l w0 O dst m S pre rest)) (Y:∀(f:Nat->Value)(R:Nat->List HE)(V:World),(∀i,i<m->S i (f i) (R i))->Hp w0 ((List.range m).flatMap R++rest) V->WL .plain P N l.toArray Q (l.drop m) (qe O f ds) V):
  ∀(fuel:Nat)(L:Array Bool)(U:Rf)(Z:World)(R:Nat->List HE),L.size=l.length->(∀j,m<=j->L.getD j false=false)->fuel+(List.range m).countP (λj=>L.getD j false)=l.length->(∀s,(∀j,j<m->L.getD j false=true->dst j≠s)->U s=O s)->(∀j,j<m->L.getD j false=true->S j (U (dst j)) (R j))->(∀j,j<m->L.getD j false=false->R j=pre j)->Hp w0 ((List.range m).flatMap R++rest) Z->WA P N l.toArray Q fuel L U Z:=by
 intro fuel
 induction fuel with
 |zero=>
  intro L U Z R M w D t J n I;have X:∀i,i<m->L.getD i false=true:=by
   have h1:(List.range m).countP (λj=>L.getD j false)<=m:=by have:=List.countP_le_length (p:=λj=>L.getD j false) (l:=List.range m);rwa[V9] at this
   have h2:(List.range m).countP (λj=>L.getD j false)=(List.range m).length:=by rw[V9];omega
   intro i hi;exact List.countP_eq_length.1 h2 i (S_.2 hi)
  refine PY ?_;intro hL A this;rwa[<-A] at this
 |succ fuel ih=>
  intro L U Z R M w D t J n I;by_cases X:∀i,i<m->L.getD i false=true
  .refine PY ?_;intro hL A this;rwa[<-A] at this
  have und:∀i,i<l.length->(L.getD i true=false↔L.getD i false=false):=λi hi=>by
   have h1:i<L.size:=by rw[M];exact hi
   rw[U9,U9,k7 h1];simp
  refine eQ (λT=> ?_) λi hi=> ?_
  .obtain⟨i,h1,h2,h3⟩:=eC X;obtain⟨o,W,_,_,he⟩:=hop i h1;have:i∈Region.ready .any l.toArray L:=bA.2 ⟨Z',(und i Z').2 h2,o,W,λe d u=>h3 _ (he e d u)⟩;rw[T] at this
   cases this
  obtain⟨z,b,o,W,hed⟩:=bA.1 hi;rw[und i z] at b;have y:∀j,waits o j=true->L.getD j false=true:=λj hj=>(by obtain⟨e,d,u⟩:=W9.1 hj;rw[l',k9] at u;rw[<-u.1];exact hed e (by simpa using d) u.2);have E:i<m:=by
   obtain h|h:=o_ i m
   .exact h
   obtain⟨o2,q,h2⟩:=htl i h z;rw[W] at q
   cases q
   exact absurd (λj hj=>y j (h2 j hj)) X
  obtain⟨o2,q,hd,hN,hlt⟩:=hop i E;rw[W] at q
  cases q
  obtain⟨o3,ho3,hsp⟩:=hs.get i E;rw[W] at ho3
  cases ho3
  refine⟨o,dst i,by simpa using W,hd,hN, ?_⟩;have a:i<L.size:=by rw[M];exact z
  refine(hsp U Z (((List.range m).filter (· !=i)).flatMap R++rest) R (λs g=>t s λj hj _=>g j hj) (λj hj=> ?_) (λx hx=>u9 _ hx) ?_).imp λv V ⟨R',h1,h2⟩=> ?_
  .have B:=y j hj;have G:j<m:=(by obtain⟨e,d,u⟩:=W9.1 hj;rw[l',k9] at u;have:=hlt e (by simpa using d) u.2;omega);refine⟨J j G B,λx hx=>M9 _ (E8.2 ⟨j,D9.2 ⟨S_.2 G, ?_⟩,hx⟩)⟩;have:j≠i:=λe=>by rw[e,b] at B;cases B
   simpa using this
  .rw[<-n i E b];exact I.perm (aw E rest)
  refine ih _ _ _ (λj=>if j=i then R' else R j) (by rw[Array.size_setIfInBounds];exact M) (λj hj=> ?_) (by rw[LM a b m E];omega) (λs g=> ?_) (λj hj B=> ?_) (λj hj B=> ?_) ?_
  .rw[ak a,k' Z',z_];exact w j hj
  .have hne:dst i≠s:=g i E (by rw[ak a];simp);rw[Dh _ (λe=>hne e.symm)];exact t s λj hj B=>g j hj (by rw[ak a,B];simp)
  .by_cases e:j=i
   .subst e;rw[P' rfl,ur];exact h1
   rw[ak a,k' e,z_] at B;rw[Q' e,Dh _ (λe2=>e (C j i hj E e2))];exact J j hj B
  .rw[ak a] at B;have e:j≠i:=λe=>by rw[e] at B;simp at B
   rw[k' e,z_] at B;rw[Q' e];exact n j hj B
  refine Hp.perm h2 (List.Perm.trans ?_ (aw (R:=λj=>if j=i then R' else R j) E rest).symm);rw[P' rfl];have:((List.range m).filter (· !=i)).flatMap (λj=>if j=i then R' else R j)=((List.range m).filter (· !=i)).flatMap R:=(by refine wu λj hj=> ?_;have:=(D9.1 hj).2;rw[Q' (by simpa using this)]);rw[this]
def abm{id:Nat}{l:List Oper}{H:List HE}(m:Nat)(dst:Nat->Nat)(S:Lv)(pre:Nat->List HE)(rest)(ds:List (Nat×Nat))(I:Hp w0 H w)(c:H.Perm ((List.range m).flatMap pre++rest))(hm:P.follows .mixedOrders=true) (y:J0 l m N dst=true)(F:ds=((List.range m).map λi=>(i,dst i)).reverse)(K:zN m (Spec P l w0 O dst m S pre rest)) (Y:∀(f:Nat->Value)(R:Nat->List HE)(V:World),zN m (λi=>S i (f i) (R i))->Hp w0 ((List.range m).flatMap R++rest) V->WL .plain P N l.toArray Q (l.drop m) (qe O f ds) V):WC .plain P N (.region id l.toArray true) Q O w:=by
 refine Ao I hm λV hj=> ?_;simp only[J0,l',h'] at y;obtain⟨⟨⟨⟨⟨r,h1⟩,h2⟩,G⟩,z⟩,b⟩:=y;have X:∀i,i<m->∃o,l[i]?=some o/\o.dst=some (dst i)/\dst i<N/\∀e∈o.after,Region.binds .any e=true->e.on<i:=λi hi=>by
  have:=BJ h1 hi;split at this
  .rename_i o a;simp only[l',k9,h'] at this;refine⟨o,a,this.1.1,this.1.2,λe he d=> ?_⟩;have L:=L_.1 this.2 e (by simpa using he);simpa[d] using L
  cases this
 have M:∀i,i<m->(i,dst i)∈ds:=λi hi=>by rw[F,y8];exact B'.2 ⟨i,S_.2 hi,rfl⟩
 have g:ds.map (·.2)=((List.range m).map dst).reverse:=by rw[F,List.map_reverse,A_];rfl
 refine aaj (w0:=w0) (pre:=pre) (rest:=rest) (S:=S) (ds:=ds) (λp hp=> ?_) M (by rw[g];exact(List.reverse_perm _).nodup_iff.2 h2) (λi j hi hj he=> ?_) r X (λk u h=> ?_) z (eq_of_beq b) K (λf R q J E=>Y f R q (XT J) E) l.length (Array.replicate l.length false) O V pre (by simp) (λj _=> ?_) ?_ (λs _=>rfl) (λj hj B=> ?_) (λj _ _=>rfl) (Hp.perm hj.hp c)
 .rw[F,y8] at hp;obtain⟨i,hi,rfl⟩:=B'.1 hp;exact⟨S_.1 hi,rfl⟩
 .have v:((List.range m).map dst)[i]?=some (dst i):=by rw[z',f_ hi];rfl
  have W:((List.range m).map dst)[j]?=some (dst j):=by rw[z',f_ hj];rfl
  exact(List.getElem?_inj (by rw[D',V9];exact hi) h2).1 (by rw[v,W,he])
 .have:=BJ G (show k-m<l.length-m by omega);rw[show m+(k-m)=k by omega] at this;split at this
  .rename_i o a;exact⟨o,a,λj hj=>BJ this hj⟩
  cases this
 .exact Xp _ _
 .rw[List.countP_eq_zero.2 λj _=>by rw[Xp];decide];rfl
 rw[Xp] at B
 cases B
def Cv(v:Value):Value->List HE->Prop:=λx R=>x=v/\R=[]
variable {ag:Bool}{by':Nat}{cs zc:List Value}{parts:Array (Nat×Operand)}{pos:String}
def kN{H:List HE}(I:Hp w0 H w){d:Option Nat}{ty:TypeId}{af:Array Edge}{t e:TypeId}{len sz:Nat}{X:List (Nat×Value)}(S:P.underlying t=some (.slice e))(D:ed P e=some (sz,ag,by',zc)) (hp:gF O parts.toList=X)(f:zc.length=sz)(Y:jm (λi=>some (i*sz,sz)) (Bg len zc) X=some cs)(J:¬len*sz=0)(hle:len<=1000)(p:len*sz<=16777216)(Q:cs.length=len*sz){K:Value->World->Prop} (u:∀b q,Hp w0 (.row (some ⟨b,0,none⟩) len len e sz cs::H) q->K (.slice (some ⟨b,0,none⟩) len len) q):OG P ops ⟨d,.buildSlice t len parts,ty,pos,af,none⟩ O w K:=by
 obtain⟨z,o,r⟩:=Md (w:=w) D;refine wc rfl (V:=w.alloc (.cells cs.toArray e)) (v:=.slice (some ⟨w.heap.size,0,none⟩) len len) ?_ (u _ _ (I.DB e sz len cs Q (by unfold maxLen;omega)));exact ace
variable {vs:List Value}{fz:Nat×Nat}
def Hp.abq{H:List HE}(h:Hp w0 H w){b:Nat}{t:TypeId}(hm:HE.blk b t cs fz∈H)(A:(cs.drop o).take n=vs):Rd w ⟨b,o,none⟩ vs:=let⟨_,hi⟩:=C_.1 hm;h.Ra hi A
def Hp.aa7{H:List HE}(h:Hp w0 H w){A:Option Addr}{c sz:Nat}{t:TypeId}{xs:List Value}(hm:HE.row A n c t sz xs∈H):Sl w A n sz xs:=let⟨_,hi⟩:=C_.1 hm;h.ma hi
def nF(xs:List NR)(m:ByteArray)(k:Nat):Dyadic:=match xs[k]?,m.data.toList[k]? with|some x,some e=>x.da^e.toNat|_,_=>1
def TC(c:Dyadic)(xs:List NR)(m:ByteArray):Nat->Dyadic
 |0=>c
 |k+1=>TC c xs m k*nF xs m k
def Zr(xs:List NR)(ts:List TR):Nat->Dyadic
 |0=>0
 |i+1=>Zr xs ts i+(match ts[i]? with|some t=>TC t.c.da xs t.m xs.length|none=>0)
def Mq(p:PX)(n:Nat):Int:=if p.e=0 then(if(n:Int)=p.v then 0 else 1) else p.e
def Tm(p:PX)(xs:List NR):NR:=if Mq p xs.length=0 then nR (Zr xs p.ts p.ts.length) else nR 0
abbrev fP:=Option Addr×Nat×Nat
def bH(a:List fP):List Value:=a.map λk=>.slice k.1 k.2.1 k.2.2
def pwE(y:NR)(k:fP):HE:=.row k.1 k.2.1 k.2.2 30 3 (ia NR.cells (ky y.da k.2.1))
def GO(ys:List NR)(a:List fP):List HE:=List.zipWith pwE ys a
def bM{w0 w:World}{H:List HE}(I:Hp w0 H w):∀ys:List NR,Hp w0 (GO ys (List.replicate ys.length (none,0,0))++H) w
 |[]=>I
 |y::ys=>(bM I ys).rb 30 3
def sW(a:List fP):(bH a).length=a.length:=D' ..
def TW(a:List fP)(i:Nat)(k:fP):bH (a.set i k)=(bH a).set i (.slice k.1 k.2.1 k.2.2):=by unfold bH;rw[B9]
def Ft{α:Type}:∀{l:List α}{i:Nat}{a:α},l[i]?=some a->l.Perm (a::l.eraseIdx i)
 |[],i,a,h=>by cases h
 |b::l,0,a,h=>by cases h;exact List.Perm.refl _
 |b::l,i+1,a,h=>((Ft (l:=l) (i:=i) h).cons b).trans (.swap _ _ _)
def pT{ys:List NR}{a:List fP}{i:Nat}{y:NR}{k:fP}(hy:ys[i]?=some y)(u:a[i]?=some k):(GO ys a)[i]?=some (pwE y k):=by
 unfold GO;rw[n9,hy,u]
def vz:∀{ys:List NR}{a:List fP}{i:Nat}{k:fP},(GO ys (a.set i k)).eraseIdx i=(GO ys a).eraseIdx i
 |[],_,_,_=>by unfold GO;simp
 |_::_,[],_,_=>by unfold GO;simp
 |y::ys,u::a,0,k=>rfl
 |y::ys,u::a,i+1,k=>(by show pwE y u::(GO ys (a.set i k)).eraseIdx i=pwE y u::(GO ys a).eraseIdx i;rw[vz])
def MV{xs:List NR}{m:ByteArray}{x:NR}{e:UInt8}(C:xs[k]?=some x)(he:m.data.toList[k]?=some e):nF xs m k=x.da^e.toNat:=by
 unfold nF;rw[C,he]
def ZA{xs:List NR}{m:ByteArray}{c:Dyadic}{q:Nat}(E:Sz q c)(R:q<=1000)(C:∀x∈xs,Sz q x.da)(hm:ke m.data.toList=true):∀k,Sz (q+128000*k) (TC c xs m k)
 |0=>E
 |k+1=>by
  refine((ZA E R C hm k).mul (l:=128000) ?_).mono Z';unfold nF;split
  .rename_i x e h1 h2;have he:=Nn hm h2;exact((C x (N' h1)).pow e.toNat).mono (by have:=G9 R (show e.toNat<=127 by omega);omega)
  exact Sz.one.mono Z'
def sP{xs:List NR}{ts:List TR}{q:Nat}(R:q<=1000)(C:∀x∈xs,Sz q x.da)(S:ug q ts)(hm:∀t∈ts,ke t.m.data.toList=true)(Q:xs.length<=12):∀i,Sz (1600000+i) (Zr xs ts i)
 |0=>Sz.zero _
 |i+1=>by
  show Sz (1600000+i+1) (Zr xs ts i+_);refine(sP R C S hm Q i).add ?_;split
  .rename_i t h;exact(ZA (S t (N' h)).2 R C (hm t (N' h)) xs.length).mono Z'
  exact Sz.zero _
def itN(w:World)(b:Nat):Nat:=match w.heap[b]? with|some (.stringIter _ p)=>p|_=>0
def HU{H:List HE}(I:Hp w0 H w){i b p:Nat}{s:ByteArray}(hi:H[i]?=some (.it b s p)):itN w b=p:=by
 unfold itN;rw[(I.at_ hi).2]
def Oj(p:PX)(ys)(xA)(xn xc:Nat)(k:Nat)(w)(hT:Gc w)(hp:p.at_ w)(lp:p.Ug k)(hS:Sl w xA xn 3 (ia NR.cells ys))(hl:ys.length=xn)(hy:∀y∈ys,y.ok/\Sz k y.da)(hk:k<=1000):Zc 28 #[p.V,.slice xA xn xc] w (.tuple #[.agg #[.bool (Tm p ys).neg,.string (Tm p ys).Va,.int .i64 (Tm p ys).e],.int .i64 (Mq p xn)]):=by
 have I:=Hp.start w;subst hl;have K:=λZ P hb=>Zj p k Z P (hp.ext hb) lp;unfold Tm Mq;by_cases h0:p.e=0
 .rw[h0] at K;simp only[P' h0];by_cases h1:(ys.length:Int)=p.v
  .simp only[P' h1];obtain⟨hf,h4,L,_⟩:=Gb h0;replace hf:=Xe.1 hf;obtain⟨pv,pA,E,pc,ts⟩:=p;replace hpl:ts.length=E:=hp.ln;replace hp:Sl w pA E 4 (ia TR.cells ts):=hp;have okp:ug k ts:=lp.ok;have szp:∀t∈ts,t.m.size<=100000:=lp.sz;replace L:∀t∈ts,Qd pv t=true:=L;replace h4:ts.length<=4096:=h4;replace hf:0<=pv/\pv<=12:=hf;replace h1:(ys.length:Int)=pv:=h1;subst h1;have hyl:ys.length<=12:=Z';have Qs:∀i,i<=4096->Sz 1700000 (Zr ys ts i):=λi hi=>(sP hk (λy h=>(hy y h).2) okp (λt h=>(j9.1 (L t h)).1) hyl i).mono Z';show Calls _ _ _ _ λr V=>r=.returned (.tuple #[.agg #[.bool (nR (Zr ys ts ts.length)).neg,.string (nR (Zr ys ts ts.length)).Va,.int .i64 (nR (Zr ys ts ts.length)).e],.int .i64 0])/\Below w.heap.size w V;refine Ca (l:=[.agg #[.int .i64 ys.length,.slice pA E pc],.slice xA ys.length xc]) func28 ?_;refine yb ?_;intro b2 w2 I b4 w4 I;refine cd I (K _ (hT.hp I) I.below) ?_;intro w15 I;refine fa ?_;refine Ee (n:=ys.length) I rfl rfl Z' Z' Qa.out pa.out rfl Z' Z' V' ?_;intro Q w28 I;refine Bb ?_;intro b8 w8 I
   rw[Gn,show List.replicate ys.length (Value.slice none 0 0)=bH (List.replicate ys.length (none,0,0)) by unfold bH;rw[List.map_replicate]] at I;replace I:=(bM I ys).perm y7;simp only[C',F'] at I;refine bf 32 (λv V=>∃(i:Nat)(a:List fP),i<=E/\v=.int .i64 i/\a.length=ys.length/\(∀q∈a,q.2.1<=1000)/\Hp w (.blk b8 30 [.bool (nR (Zr ys ts i)).neg,.string (nR (Zr ys ts i)).Va,.int .i64 (nR (Zr ys ts i)).e] (0,0)::.row (some ⟨Q,0,none⟩) ys.length ys.length 130 1 (bH a)::.blk b4 30 [.bool false,.string (ByteArray.mk #[]),.int .i64 0] (0,0)::.blk b2 24 [.int .i64 ys.length,.slice pA E pc] (0,0)::GO ys a) V) (λv _=>E-(intOf v).toNat) ?_ ?_
   .exact⟨0,_,J' _,rfl,Q9,λq hq=>by rw[List.eq_of_mem_replicate hq];exact J' _,I⟩
   clear I;rintro ρ' v V ⟨i,a,hi,rfl,u,j,I⟩;by_cases hlt:i<E
   .obtain⟨x,hx⟩:=aa (l:=ts) (k:=i) Z';obtain⟨ad,rfl,H⟩:=hp.at_ Z';have hxo:=okp x (N' hx);have Y:=j9.1 (L x (N' hx));have hxz:(x.m.size:Int)=ys.length:=O9 Y.2;refine fa ?_;refine sv (Ka (vs:=[_,_,_,_]) pa.out rfl ((H.ext I.below).recAt TR.len hx) rfl) ?_;refine WU ?_;intro C w10 I ws I J w11 I ws I;refine Lr I Qa.out rfl V' ?_;intro X w40 I;skip;refine fa ?_;refine Dx [12,13,41,42,43,44,45,46,47,48,49,50,51,52,53,54,55,56,57] (λV=>∃(q:Nat)(z:NR)(a:List fP),q<=ys.length/\z.ok/\z.da=TC x.c.da ys x.m q/\a.length=ys.length/\(∀q∈a,q.2.1<=1000)/\Hp w (.it X x.m q::.blk J 30 [.bool z.neg,.string z.Va,.int .i64 z.e] (0,0)::.blk C 72 [.string x.m,.bool x.c.neg,.string x.c.Va,.int .i64 x.c.e] (0,0)::.blk b8 30 [.bool (nR (Zr ys ts i)).neg,.string (nR (Zr ys ts i)).Va,.int .i64 (nR (Zr ys ts i)).e] (0,0)::.row (some ⟨Q,0,none⟩) ys.length ys.length 130 1 (bH a)::.blk b4 30 [.bool false,.string (ByteArray.mk #[]),.int .i64 0] (0,0)::.blk b2 24 [.int .i64 ys.length,.slice (some ad) E pc] (0,0)::GO ys a) V) (λV=>ys.length-itN V X) ?_ ?_
    .exact⟨0,x.c,a,J' _,hxo.1,rfl,u,j,I⟩
    clear I u j;rintro ρ' V ⟨q,z,a,hq,hzo,hzd,u,j,I⟩;have hit:=HU I (i:=0) rfl;have hzs:Sz 1600000 z.da:=by rw[hzd];exact(ZA hxo.2 hk (λy h=>(hy y h).2) Y.1 q).mono Z'
    by_cases hlq:q<ys.length
    .obtain⟨y,G⟩:=aa (l:=ys) (k:=q) hlq;obtain⟨⟨ka,km,kc⟩,S⟩:=aa (l:=a) (k:=q) Z';obtain⟨B,rfl,hxr⟩:=hS.at_ Z';obtain⟨e,he⟩:=aa (l:=x.m.data.toList) (k:=q) (by rw[<-Hc];omega);have he8:=Nn Y.1 he;have hyo:=hy y (N' G);have hkm0:km<=1000:=j _ (N' S);have hqk:q<(bH a).length:=by rw[sW];omega
     have zp:Sz 128000 (y.da^e.toNat):=(hyo.2.pow e.toNat).mono (by have:=G9 hk (show e.toNat<=127 by omega);omega);have hdm:=λA cc Z P D=>Td A 2 cc [z,nR (y.da^e.toNat)] Z P D (by simpa using⟨hzo,zp.ok V'⟩) 1600000 (by simpa[Ga] using⟨hzs,zp.mono V'⟩) V' V';rw[show Re ([z,nR (y.da^e.toNat)].map NR.da)=z.da*y.da^e.toNat by show 1*z.da*(nR _).da=_;rw[Ga,x8]] at hdm;have hcq:(bH a)[q]?=some (.slice ka km kc):=by unfold bH;rw[z',S];rfl
     refine sr ?_;refine cq I (i:=0) rfl rfl he he8 V' ?_;intro w41 I;simp only[j'] at I;skip;refine fa ?_;refine F0 ?_;intro I;replace I:=I.perm (((Ft (pT G S)).append_left [_,_,_,_,_,_,_]).trans (List.perm_middle.trans (.swap _ _ _)));rw[<-ir hcq] at I;have mb11:(.blk J 30 [.bool z.neg,.string z.Va,.int .i64 z.e] (0,0):HE)∈(.it X x.m (q+1)::.blk J 30 [.bool z.neg,.string z.Va,.int .i64 z.e] (0,0)::.blk C 72 [.string x.m,.bool x.c.neg,.string x.c.Va,.int .i64 x.c.e] (0,0)::.blk b8 30 [.bool (nR (Zr ys ts i)).neg,.string (nR (Zr ys ts i)).Va,.int .i64 (nR (Zr ys ts i)).e] (0,0)::.blk b4 30 [.bool false,.string (ByteArray.mk #[]),.int .i64 0] (0,0)::.blk b2 24 [.int .i64 ys.length,.slice (some ad) E pc] (0,0)::(GO ys a).eraseIdx q):=by simp
     refine abm 13 (λi=>[45,46,47,48,49,50,51,52,53,54,55,56,57].getD i 0) (λi=>[Cv z.V,Cv (.slice (some ⟨Q,0,none⟩) ys.length ys.length),Cv (.int .i64 q),Cv (.pointer (some ⟨Q,q*1,none⟩)),Cv (.slice (some B) ys.length xc),Cv (.int .i64 q),Cv (.pointer (some (B.add (q*3)))),Cv y.V,Cv (.int .i32 e.toNat),Cv (.int .i64 e.toNat),λv R=>v=.agg #[.bool (nR (y.da^e.toNat)).neg,.string (nR (y.da^e.toNat)).Va,.int .i64 (nR (y.da^e.toNat)).e]/\∃(s:Option Addr)(N o:Nat),N<=1000/\R=[.row (some ⟨Q,0,none⟩) ys.length ys.length 130 1 ((bH a).set q (.slice s N o)),.row s N o 30 3 (ia NR.cells (ky y.da N))],λv R=>∃b:Nat,v=.slice (some ⟨b,0,none⟩) 2 2/\R=[.row (some ⟨b,0,none⟩) 2 2 30 3 (ia NR.cells [z,nR (y.da^e.toNat)])],Cv (.agg #[.bool (nR (z.da*y.da^e.toNat)).neg,.string (nR (z.da*y.da^e.toNat)).Va,.int .i64 (nR (z.da*y.da^e.toNat)).e])].getD i (Cv undef)) (λi=>[[],[],[],[],[],[],[],[],[],[],[.row (some ⟨Q,0,none⟩) ys.length ys.length 130 1 ((bH a).set q (.slice ka km kc)),.row ka km kc 30 3 (ia NR.cells (ky y.da km))],[],[]].getD i []) (.it X x.m (q+1)::.blk J 30 [.bool z.neg,.string z.Va,.int .i64 z.e] (0,0)::.blk C 72 [.string x.m,.bool x.c.neg,.string x.c.Va,.int .i64 x.c.e] (0,0)::.blk b8 30 [.bool (nR (Zr ys ts i)).neg,.string (nR (Zr ys ts i)).Va,.int .i64 (nR (Zr ys ts i)).e] (0,0)::.blk b4 30 [.bool false,.string (ByteArray.mk #[]),.int .i64 0] (0,0)::.blk b2 24 [.int .i64 ys.length,.slice (some ad) E pc] (0,0)::(GO ys a).eraseIdx q) _ I (List.Perm.refl _) mixed U' rfl ⟨⟨⟨⟨⟨⟨⟨⟨⟨⟨⟨⟨⟨trivial, ?s0⟩, ?s1⟩, ?s2⟩, ?s3⟩, ?s4⟩, ?s5⟩, ?s6⟩, ?s7⟩, ?s8⟩, ?s9⟩, ?s10⟩, ?s11⟩, ?s12⟩ ?fin
     case s0=>exact⟨_,rfl,λU Z F R M T H (I:Hp w F Z)=>wc rfl (Ka (vs:=[_,_,_]) pa.out (M 11 V') (I.abq (n:=3) (H _ mb11) rfl) rfl) ⟨[],⟨rfl,rfl⟩,I⟩⟩
     case s1=>exact⟨_,rfl,λU Z F R M T H (I:Hp w F Z)=>wc rfl (Ib (M 7 V')) ⟨[],⟨rfl,rfl⟩,I⟩⟩
     case s2=>exact⟨_,rfl,λU Z F R M T H (I:Hp w F Z)=>wc rfl (Ib (M 12 V')) ⟨[],⟨rfl,rfl⟩,I⟩⟩
     case s3=>exact⟨_,rfl,λU Z F R M T H (I:Hp w F Z)=>wc rfl (Lc (k:=q) Qa.out pa.size (show Cv (.slice (some ⟨Q,0,none⟩) ys.length ys.length) (U 46) (R 1) from(T 1 rfl).1).1 (show Cv (.int .i64 q) (U 47) (R 2) from(T 2 rfl).1).1 Z' Z') ⟨[],⟨rfl,rfl⟩,I⟩⟩
     case s4=>exact⟨_,rfl,λU Z F R M T H (I:Hp w F Z)=>wc rfl (Ib (M 1 V')) ⟨[],⟨rfl,rfl⟩,I⟩⟩
     case s5=>exact⟨_,rfl,λU Z F R M T H (I:Hp w F Z)=>wc rfl (Ib (M 12 V')) ⟨[],⟨rfl,rfl⟩,I⟩⟩
     case s6=>exact⟨_,rfl,λU Z F R M T H (I:Hp w F Z)=>wc rfl (pb (k:=q) Qa.out pa.size (show Cv (.slice (some B) ys.length xc) (U 49) (R 4) from(T 4 rfl).1).1 (show Cv (.int .i64 q) (U 50) (R 5) from(T 5 rfl).1).1 Z' Z') ⟨[],⟨rfl,rfl⟩,I⟩⟩
     case s7=>exact⟨_,rfl,λU Z F R M T H (I:Hp w F Z)=>wc rfl (Ka (vs:=[_,_,_]) pa.out (show Cv (.pointer (some (B.add (q*3)))) (U 51) (R 6) from(T 6 rfl).1).1 ((hxr.ext I.below).recAt NR.len G) rfl) ⟨[],⟨rfl,rfl⟩,I⟩⟩
     case s8=>exact⟨_,rfl,λU Z F R M T H (I:Hp w F Z)=>wc rfl (Ib (M 13 V')) ⟨[],⟨rfl,rfl⟩,I⟩⟩
     case s9=>exact⟨_,rfl,λU Z F R M T H (I:Hp w F Z)=>wc rfl (Dp Qa.out Qa.out (show Cv (.int .i32 e.toNat) (U 53) (R 8) from(T 8 rfl).1).1 Z' Z') ⟨[],⟨rfl,rfl⟩,I⟩⟩
     case s10=>exact⟨_,rfl,λU Z F R M T H I=>ib rfl (La fi (qa (show Cv (.pointer (some ⟨Q,q*1,none⟩)) (U 48) (R 3) from(T 3 rfl).1).1 (qa (show Cv y.V (U 52) (R 7) from(T 7 rfl).1).1 (qa (show Cv (.int .i64 e.toNat) (U 54) (R 9) from(T 9 rfl).1).1 Wa)))) (hH (Rc (g:=Q) (m:=ys.length) (c:=ys.length) (i:=q) (t:=130) (xs:=bH a) hqk) y e.toNat km ka kc k Z hT I Z' hkm0 hyo hk) λr w2 ⟨h1,s,N,o,h2,h3⟩=>⟨_,h1,[_,_],⟨rfl,s,N,o,h2,rfl⟩,h3⟩⟩
     case s11=>exact⟨_,rfl,λU Z F R M T H (I:Hp w F Z)=>kN (sz:=3) (cs:=ia NR.cells [z,nR (y.da^e.toNat)]) I Qa.out pa.out (show gF U [(0,.tmp 45),(1,.tmp 55)]=[(0,z.V),(1,.agg #[.bool (nR (y.da^e.toNat)).neg,.string (nR (y.da^e.toNat)).Va,.int .i64 (nR (y.da^e.toNat)).e])] from Eb (show U 45=_ from(show Cv z.V (U 45) (R 0) from(T 0 rfl).1).1) (Eb (show U 55=_ from(T 10 rfl).1.1) ae)) rfl rfl V' V' V' rfl λb w2 h2=>⟨[_],⟨b,rfl,rfl⟩,h2⟩⟩
     case s12=>exact⟨_,rfl,λU Z F R M T H (I:Hp w F Z)=>let⟨b,e9,r9⟩:=(show ∃b:Nat,U 56=.slice (some ⟨b,0,none⟩) 2 2/\R 11=[.row (some ⟨b,0,none⟩) 2 2 30 3 (ia NR.cells [z,nR (y.da^e.toNat)])] from(T 11 rfl).1);ib rfl (La fi (qa e9 Wa)) (hdm _ _ Z (hT.hp I) (I.aa7 ((T 11 rfl).2 _ (r9 ▸ I')))) λr w2 hq=>⟨_,hq.1,[],⟨rfl,rfl⟩,I.ext hq.2⟩⟩
     rintro f R W ⟨⟨⟨⟨⟨⟨⟨⟨⟨⟨⟨⟨⟨-,s0⟩,s1⟩,s2⟩,s3⟩,s4⟩,s5⟩,s6⟩,s7⟩,s8⟩,s9⟩,s10⟩,s11⟩,s12⟩ I;obtain⟨e0,r0⟩:=s0;obtain⟨e1,r1⟩:=s1;obtain⟨e2,r2⟩:=s2;obtain⟨e3,r3⟩:=s3;obtain⟨e4,r4⟩:=s4;obtain⟨e5,r5⟩:=s5;obtain⟨e6,r6⟩:=s6;obtain⟨e7,r7⟩:=s7;obtain⟨e8,r8⟩:=s8;obtain⟨e9,r9⟩:=s9;obtain⟨e10,s,N,o,hm2,r10⟩:=s10;obtain⟨b56,e11,r11⟩:=s11;obtain⟨e12,r12⟩:=s12;rw[show List.range 13=[0,1,2,3,4,5,6,7,8,9,10,11,12] from rfl] at I;simp only[l8,List.flatMap_nil,r0,r1,r2,r3,r4,r5,r6,r7,r8,r9,r10,r11,r12,F',M_,C'] at I;refine AM (Xx (Ge e12 (Ge e11 (Ge e10 (Ge e9 (Ge e8 (Ge e7 (Ge e6 (Ge e5 (Ge e4 (Ge e3 (Ge e2 (Ge e1 (Ge e0 cK)))))))))))))) ?_;dsimp only[Ly];refine Bb ?_;intro ws I;have hz2:Sz 1728000 (z.da*y.da^e.toNat):=(hzs.mul zp).mono Z';have e1:(bH a).set q (.slice s N o)=bH (a.set q (s,N,o)):=(TW a q (s,N,o)).symm;have hpk:=Ft (pT G (show(a.set q (s,N,o))[q]?=some (s,N,o) from List.getElem?_set_self Z'));rw[vz] at hpk;rw[e1] at I;refine abe ?_;intro I;refine TQ ?_;intro I;refine afv ?_;intro I;refine TQ ?_
     intro I;refine TQ ?_;intro I;replace I:=I.sub (.cons_cons _ (.cons_cons _ (.cons_cons _ (.cons_cons _ (.cons_cons _ (.cons_cons _ (.cons_cons _ (.cons_cons _ (.cons _ (P_ _))))))))));have hit2:=HU I (i:=0) rfl;refine⟨⟨q+1,nR (z.da*y.da^e.toNat),a.set q (s,N,o),Z',hz2.ok V',by rw[Ga];show _=TC x.c.da ys x.m q*nF ys x.m q;rw[<-hzd,MV G he],by rw[d_];exact u,λr H=> ?_,I.perm (hpk.symm.append_left [_,_,_,_,_,_,_])⟩,by rw[hit,hit2];omega, ?_⟩
     .obtain h|rfl:=R8 H
      .exact j r h
      exact hm2
     exact Wb
    obtain rfl:q=ys.length:=Z';have hsm:=λA cc Z P D=>zf A 2 cc [nR (Zr ys ts i),z] Z P D (by simpa using⟨(Qs i Z').ok V',hzo⟩) 1700000 (by simpa[Ga] using⟨Qs i Z',hzs.mono V'⟩) V';rw[show Vl ([nR (Zr ys ts i),z].map NR.da)=Zr ys ts (i+1) by simp only[I_,R9,Sh,Ga];show _=Zr ys ts i+_;rw[hx,hzd]] at hsm;refine sr ?_;refine Oq I (i:=0) rfl rfl Z' V' ?_;skip;refine fa ?_;refine jr ?_;intro b60 w60 I;refine cd I (hsm _ _ _ (hT.hp I) (I.ma (i:=0) rfl)) ?_;intro w61 I;refine Bb ?_;intro ws I;replace I:=I.sub (G' _ (G' _ (G' _ (G' _ (O' _ (O' _ (O' _ (O' _ (P_ _)))))))));refine⟨⟨i+1,a,Z',rfl,u,j,I⟩,by show E-(i+1)<E-i;omega, ?_⟩;exact Wb
   obtain rfl:i=E:=Z';refine Bb ?_;intro ws I;refine dP (Nc rfl (Mc (vs:=[_,_,_]) pa.out (I.Ra (i:=2) (n:=3) rfl rfl) rfl) (Ig (ji rfl) Xd)) ?_;exact⟨by rw[hpl],I.below⟩
  simp only[Q' h1];rw[Q' V'];exact ac5
 simp only[Q' h0];generalize p.e=e at*;exact ac5
def ahP(a:NR):Bool:=decide ((8:Int)<a.Va.size\/a.e< -60\/60<a.e)
structure SmQ(ts:List TR):Prop where
 n:ts.length<=10
 ok:ug 124 ts
 sz:∀t∈ts,t.m.size<=20
 ex:∀t∈ts,∀c∈t.m.data.toList,c.toNat<=6
variable {ts:List TR}
structure om(v:Int)(k n D:Nat)(ts:List TR):Prop where
 e:vf v ts=0
 ok:ug k ts
 sz:∀t∈ts,t.m.size<=100000
 len:ts.length<=n
 ex:∀t∈ts,∀c∈t.m.data.toList,c.toNat<=D
def eX{D:Nat}{l:List TR}(h:∀t∈l,∀c∈t.m.data.toList,c.toNat<=D):∀t∈oa l,∀c∈t.m.data.toList,c.toNat<=D:=λt S=>by
 obtain⟨s,K,e⟩:=Ci t S;rw[<-e];exact h s K
def yE{v:Int}{D:Nat}(i:Nat)(h:om v k n D ts)(u:k<=50000)(B:n<=1000):om v (k+24+n) n D (oa (xm i ts)):=by
 obtain⟨h1,h2,G⟩:=IM (i:=i) h.e h.ok h.sz Z';obtain⟨a,N,z⟩:=nW h1;have Q:(xm i ts).length<=n:=d' (List.length_filterMap_le _ _) h.len;refine⟨Ce a z N,Cj h2 Z' Z',Nl G,d' (Vb _) Q,eX λs K c E=> ?_⟩;obtain⟨t,S,T⟩:=Z8.1 K;obtain⟨e,he,J,rfl⟩:=Ss T;replace E:c∈(str (t.m.data.toList.set i (e-1))).data.toList:=E;rw[vc] at E;obtain E|rfl:=R8 E
 .exact h.ex t S c E
 have h1:(1:UInt8)<=e:=by rw[UInt8.le_iff_toNat_le];show 1<=e.toNat;omega
 rw[UInt8.toNat_sub_of_le _ _ h1];have:=h.ex t S e (N' he);omega
def pxD(v:Int)(ts:List TR):PX:=⟨v,none,0,0,ts⟩
def NS{g h:PX}(b:g.v=h.v)(S:g.ts=h.ts)(ys:List NR):Tm g ys=Tm h ys/\∀n,Mq g n=Mq h n:=by
 obtain⟨v,A,n,c,ts⟩:=g;obtain⟨v2,s,r,Y,a⟩:=h;obtain rfl:v=v2:=b;obtain rfl:ts=a:=S;exact⟨rfl,λ_=>rfl⟩
def wk(p:PX)(ys:List NR)(i:Nat):NR:=Tm (pxD p.v (oa (xm i p.ts))) ys
def yk(ys:List NR)(p:PX):List NR:=(List.range ys.length).map (wk p ys)
def EB(L)(n c:Nat)(a)(X)(m x:Nat)(ys)(k D:Nat)(w)(hT:Gc w)(S:Sl w L n 2 (ia PX.cells a))(hn:n<=1000)(hp:∀p∈a,p.at_ w/\p.Ug k/\p.v=m/\om p.v k 100 D p.ts)(hX:Sl w X m 3 (ia NR.cells ys))(hm:m<=1000)(hy:∀y∈ys,y.ok/\Sz k y.da)(hk:k<=800):Calls prog 141 #[.slice L n c,.slice X m x] w λr V=>∃(B:Option Addr)(c':Nat)(b:List LX)(R:List HE),r=.returned (.slice B n c')/\b.map LX.l=a.map (yk ys)/\(∀z∈b,z.n=m/\.row z.A z.n z.c 30 3 (ia NR.cells z.l)∈R)/\Hp w (.row B n c' 37 1 (ia LX.cells b)::R) V:=by
 have I:=Hp.start w;have hln:a.length=n:=S.sa PX.len V';have o:ys.length=m:=hX.sa NR.len V';refine Ca func141 ?_;refine fa ?_;replace I:=I.rb 37 1;refine Fi 5 16 (λv5 v V=>∃(i f:Nat)(B:Option Addr)(b:List LX)(R:List HE),i<=n/\v=.int .i64 i/\v5=.slice B i f/\b.map LX.l=(a.take i).map (yk ys)/\(∀z∈b,z.n=m/\.row z.A z.n z.c 30 3 (ia NR.cells z.l)∈R)/\Hp w (.row B i f 37 1 (ia LX.cells b)::R) V) (λ_ v _=>n-(intOf v).toNat) ?_ ?_
 .exact aap
 clear I;rintro ρ' v5 v V ⟨i,f,B,b,R,hi,rfl,rfl,T,W,I⟩;by_cases hlt:i<n
 .obtain⟨p,H⟩:=aa (l:=a) (k:=i) Z';obtain⟨p1,p2,p3,p4⟩:=hp p (N' H);obtain⟨ad,rfl,hr⟩:=S.at_ Z';refine fa ?_;refine sv (Ka (vs:=[_,_]) pa.out rfl ((hr.ext I.below).recAt PX.len H) rfl) ?_;refine yb ?_;intro b7 w7 I ws I;replace I:=I.rb 30 3;refine Fi 8 22 (λv8 v V=>∃(j K:Nat)(E:Option Addr),j<=m/\v=.int .i64 j/\v8=.slice E j K/\Hp w (.row E j K 30 3 (ia NR.cells ((List.range j).map (wk p ys)))::.blk b7 24 [.int .i64 p.v,.slice p.A p.n p.c] (0,0)::.row B i f 37 1 (ia LX.cells b)::R) V) (λ_ v _=>m-(intOf v).toNat) ?_ ?_
  .exact⟨0,0,none,J' _,rfl,rfl,I⟩
  clear I;rintro ρ2 v8 v w2 ⟨j,K,E,hj,rfl,rfl,I⟩;by_cases hjm:j<m
  .have C:=yE j p4 Z' V';have he:Zy p j=0:=(by unfold Zy PX.e;rw[p4.e,P' rfl,Q' Z']);have u:=λZ P F=>Gy p j k Z P (p1.ext F) p2 Z';rw[he] at u;have G:=Gp (wk p ys) j;have Qk:∀(g:PX)(Z:World),g.v=p.v->g.ts=oa (xm j p.ts)->Gc Z->g.at_ Z->g.n<=g.c->Below w.heap.size w Z->Calls prog 28 #[g.V,.slice X m x] Z λr V=>(∃e:Int,r=.returned (.tuple #[.agg #[.bool (wk p ys j).neg,.string (wk p ys j).Va,.int .i64 (wk p ys j).e],.int .i64 e]))/\Below Z.heap.size Z V:=λg Z N gt P ha hc hb=>(by have h:=Oj g ys X m x (k+24+100) Z P ha ⟨by have:=ha.ln;have:=C.len;rw[gt] at*;omega,hc,by rw[gt];exact C.ok,by rw[gt];exact C.sz⟩ (hX.ext hb) o (λy h=>⟨(hy y h).1,(hy y h).2.mono Z'⟩) Z';rw[(NS (g:=g) (h:=pxD p.v (oa (xm j p.ts))) N gt ys).1] at h;exact h.mono λr V h=>⟨⟨_,h.1⟩,h.2⟩);generalize wk p ys j=s at*;refine fa ?_;refine Wi (u _ (hT.hp I) I.below) ?_;rintro e_ w28 ⟨g,og,rfl,J⟩;refine⟨_,rfl, ?_⟩;replace I:=I.join J;simp only[C',F'] at I;have N:=og.v;have gt:=og.ts;rw[P' rfl] at N gt;refine yb ?_;intro b10 w10 I ws I;refine Wi (Qk g _ N gt (hT.hp I) (I.ma (i:=1) rfl) (I.me (i:=1) rfl) I.below) ?_;rintro e_ w34 ⟨⟨e,rfl⟩,M⟩;refine⟨_,rfl, ?_⟩;replace I:=I.ext M;refine yb ?_;intro b12 w12 I ws I;refine Nm ?_;intro b39 w39 I;refine pU ?_;intro q Q w40 I;simp only[j',t_] at I;replace I:=I.sub (r_ _ _);refine fa ?_;replace I:=I.perm (W_ (l₁:=[_,_,_,_,_]));simp only[C',F'] at I;replace I:=I.perm (W_ (l₁:=[_,_,_,_,_]));simp only[C',F'] at I;replace I:=I.perm (W_ (l₁:=[_,_,_,_,_]));simp only[C',F'] at I;replace I:=I.sub (O' _ (O' _ (O' _ (G' _ (G' _ (G' _ (P_ _)))))))
   refine⟨⟨j+1,Q,q,Z',rfl,rfl,by rw[G,Aa];exact I.sub (O' _ (O' _ (O' _ (P_ _))))⟩,by show m-(j+1)<m-j;omega, ?_⟩;exact Wb
  obtain rfl:m=j:=Z';refine fa ?_;refine pG ?_;intro b44 w44 I;refine oE ?_;intro Y t w45 I;simp only[j',t_] at I;replace I:=I.sub (r_ _ _);refine fa ?_;replace I:=I.perm (W_ (l₁:=[_,_]));simp only[C',F'] at I;replace I:=I.sub (O' _ (O' _ (G' _ (P_ _))));refine⟨⟨i+1,t,Y,b++[⟨E,m,K,yk ys p⟩],.row E m K 30 3 (ia NR.cells (yk ys p))::R,Z',rfl,rfl,by rw[G_,T,ja H,G_];rfl,λy hy=> ?_,by rw[Aa];unfold yk;rw[o];exact I⟩,by show n-(i+1)<n-i;omega, ?_⟩
  .obtain hy|hy:=O_.1 hy
   .exact⟨(W y hy).1,L' _ (W y hy).2⟩
   obtain rfl:=q'.1 hy;exact⟨rfl,I'⟩
  exact Wb
 obtain rfl:n=i:=Z';rw[w' Z'] at T;refine fa ?_;exact⟨B,f,b,R,rfl,T,W,I⟩
def xj{x y:Dyadic}(C:0<=x)(hy:0<=y):0<=x*y:=by
 rcases(by grind:x=0\/0<x) with h|h
 .rw[h,Dyadic.zero_mul];grind
 rcases(by grind:y=0\/0<y) with h2|h2
 .rw[h2,N6];grind
 have:=Lean.Grind.OrderedRing.mul_pos h h2;grind
def wH{x:Dyadic}(C:0<=x):∀n:Nat,0<=x^n
 |0=>by rw[D7];decide+kernel
 |n+1=>by rw[u7];exact xj (wH C n) C
def GB:∀(ds rs:List Nat)(ts:List Dyadic),(∀t∈ts,0<=t/\t<1)->0<=Yi ds rs ts
 |[],_,_,_=>by show(0:Dyadic)<=1;decide+kernel
 |_::_,[],_,_=>by show(0:Dyadic)<=1;decide+kernel
 |_::_,_::_,[],_=>by show(0:Dyadic)<=1;decide+kernel
 |d::ds,r::rs,t::ts,h=>(by obtain⟨h1,h2⟩:=h t I';exact xj (xj (wH h1 r) (wH (by grind) (d-r))) (GB ds rs ts λt S=>h t (L' _ S)))
def BB{α:Type}:∀(l:List α)(f g:α->Dyadic),(∀a∈l,f a<=g a)->sm l f<=sm l g
 |[],_,_,_=>by show(0:Dyadic)<=0;grind
 |a::l,f,g,h=>(by have h1:=h a I';have h2:=BB l f g λa M=>h a (L' _ M);show f a+sm l f<=g a+sm l g;grind)
def KT{ds:List Nat}{X Y ts:List Dyadic}{c:Dyadic}(S:∀t∈ts,0<=t/\t<1)(h:∀p,p<ea ds->c*(Y[p]?).getD 0<=(X[p]?).getD 0):c*sf ds Y ts<=sf ds X ts:=by
 unfold sf;rw[<-Vh];refine BB _ _ _ λp hp=> ?_;have h1:=h p (S_.1 hp);have h2:=GB ds (Ya ds p) ts S;have G:=xj (x:=(X[p]?).getD 0-c*(Y[p]?).getD 0) (by grind) h2;grind
variable {xs:List Dyadic}
def sO{ns ms:List Nat}(xs)(ys)(ts:List Dyadic)(h:ns.length=ms.length):sf (Od ns ms).reverse (DA ns ms xs ys) ts=sf ns.reverse xs ts*sf ms.reverse ys ts:=by
 have:=FQ (ds:=ns.reverse) (es:=ms.reverse) (xs:=xs) (ys:=ys) (ts:=ts) (by rw[F_,F_,h]);rw[bq h,Cc] at this;rw[<-this];unfold DA ey ZE;rw[Cc ms]
def val_one(ds:List Nat)(ts:List Dyadic)(h:ts.length=ds.length):sf ds.reverse ((Wr ds).map nD) ts=1:=by
 rw[<-AB ds.reverse ts (by rw[F_,h])];unfold sf;refine Ua λp hp=> ?_;have hp:=S_.1 hp;congr 1;unfold Wr;rw[z',z',f_ hp];rfl
def eO{ns D:List Nat}{ts:List Dyadic}(Q:ns.length=D.length)(h:∀(i n t:Nat),ns[i]?=some n->D[i]?=some t->n<=t)(S:ts.length=D.length):sf D.reverse (ni ns D xs) ts=sf ns.reverse xs ts:=by
 have K:(Kg D ns).length=D.length:=Gw Q.symm;have:=sO (ns:=ns) (ms:=Kg D ns) xs ((Wr (Kg D ns)).map nD) ts (by rw[K,Q]);rw[av Q h,val_one _ _ (by rw[K,S])] at this;unfold ni;rw[this];grind
def Sz.ofNat(c:Nat)(h:c<256):Sz 8 ((c:Int):Dyadic):=
 ⟨(c:Int)*2^8,zg (c:Int) V',by rw[q9,Int.natAbs_natCast];exact k_ (N8 h V') V'⟩
def EA(t:List Nat)(i:Nat):Dyadic:=Dyadic.ofIntWithPrec ((t[i]?).getD 0:Nat) 8
def KB(t)(h:∀c∈t,c<256)(i:Nat):Sz 8 (EA t i)/\0<=EA t i/\EA t i<1:=by
 unfold EA;have h1:(t[i]?).getD 0<256:=by
  cases E:t[i]? with
  |none=>decide
  |some c=>exact h c (N' E)
 generalize (t[i]?).getD 0=c at*;refine⟨⟨c,rfl,by rw[Int.natAbs_natCast];exact k_ h1 V'⟩, ?_, ?_⟩
 .rw[<-Sg 8,CQ];omega
 rw[show(1:Dyadic)=Dyadic.ofIntWithPrec 256 8 by decide+kernel,ll];omega
def af5(s:SR)(a b:Dyadic):Prop:=(0<b/\s.lo.da*b<=a/\a<=s.hi.da*b)\/(b<0/\a<=s.lo.da*b/\s.hi.da*b<=a)
def cM:∀(r:List Dyadic)(a:Dyadic),a<=r.foldl (λout a=>if decide (out<a)=true then a else out) a/\∀x∈r,x<=r.foldl (λout a=>if decide (out<a)=true then a else out) a
 |[],a=>⟨by show a<=a;grind,λ_ h=>absurd h h_⟩
 |y::r,a=>by
  obtain⟨h1,h2⟩:=cM r (if decide (a<y)=true then y else a);rw[S8];have G:a<=(if decide (a<y)=true then y else a)/\y<=(if decide (a<y)=true then y else a):=by
   by_cases h:a<y
   .rw[P' (m' h)];grind
   rw[Q' (by simpa using h)];grind
  exact x1
def ZG(f:Dyadic->Dyadic->Bool):∀(r:List Dyadic)(a:Dyadic),r.foldl (λout a=>if f a out then a else out) a∈a::r
 |[],a=>I'
 |y::r,a=>by
  rw[S8];have h:=ZG f r (if f y a then y else a);obtain h|h:=u'.1 h
  .rw[h];by_cases h2:f y a
   .rw[P' h2];exact L' _ I'
   rw[Q' h2];exact I'
  exact L' _ (L' _ h)
def aaE{l:List Dyadic}:∀x∈l,x<=Xf (λx y=>decide (y<x)) l:=λx C=>by
 cases l with
 |nil=>exact absurd C h_
 |cons a r=>
  obtain⟨h1,h2⟩:=cM r a;obtain rfl|C:=u'.1 C
  .exact h1
  exact h2 x C
def ML{f:Dyadic->Dyadic->Bool}{l:List Dyadic}(h:l≠[]):Xf f l∈l:=by
 cases l with
 |nil=>exact absurd rfl h
 |cons a r=>exact ZG f r a
def pO{ds:List Nat}{X Y ts:List Dyadic}{c:Dyadic}(S:∀t∈ts,0<=t/\t<1)(h:∀p,p<ea ds->(X[p]?).getD 0<=c*(Y[p]?).getD 0):sf ds X ts<=c*sf ds Y ts:=by
 unfold sf;rw[<-Vh];refine BB _ _ _ λp hp=> ?_;have h1:=h p (S_.1 hp);have h2:=GB ds (Ya ds p) ts S;have G:=xj (x:=c*(Y[p]?).getD 0-(X[p]?).getD 0) (by grind) h2;grind
def wB(f:FX)(k:Nat)(w)(S:Gc w)(Y:f.at_ w)(Q:f.Ug k)(he:f.e=0):Zc 138 #[f.V] w (.bool (decide (gm f.cs≠0))):=by
 have I:=Hp.start w;have K:=λZ P (F:Below w.heap.size w Z)=>yu f k Z P (Y.ext F) Q he;generalize gm f.cs=g at*;by_cases h:g=0
 .subst h;refine Ca func138 ?_;refine Bb ?_;intro G Z I;refine cd I (K _ (S.hp I) I.below) ?_;intro c I;refine fa ?_;exact⟨by rw[k' (λx=>x rfl)],I.below⟩
 refine Ca func138 ?_;refine Bb ?_;intro G Z I;refine cd I (K _ (S.hp I) I.below) ?_;intro c I;exact YR
def rE(A)(n c:Nat)(fs)(k:Nat)(w)(S:Gc w)(a:Sl w A n 2 (ia FX.cells fs))(B:n<=1000000)(Y:∀f∈fs,f.at_ w)(Q:∀f∈fs,f.Ug k)(he:∀f∈fs,f.e=0):Zc 73 #[.slice A n c] w (.bool (fs.any λf=>decide (gm f.cs≠0))):=by
 have I:=Hp.start w;refine Ca func73 ?_;refine fa ?_;refine cd I (qw A n c fs _ [] (λf=>decide (gm f.cs≠0)) _ (a.ext I.below) B λz Z o F=>wB z k Z ((S.hp I).ext F) ((Y z o).ext (I.below.trans (F.mono I.below.size))) (Q z o) (he z o)) ?_;intro y I;refine fa ?_;exact⟨rfl,I.below⟩
structure Q0(k:Nat)(ns:List Nat)(X:List Dyadic)(f:FX):Prop where
 is:f.is ns X
 d12:ns.length<=12
 d127:∀d∈ns,d<=127
 lx:X.length=ea ns
 nK:ea ns<=4096
 zx:∀x∈X,Sz k x
def Jz{ns:List Nat}{X:List Dyadic}{f:FX}{p:Int}(h:Q0 k ns X f)(u:1600<=k)(B:k<=250000)(L: -1000<=p)(H:p<=1000):(ki X ns p).fin 1002014:=by
 have v:=zF h.d12 h.d127 h.zx u B;unfold ki
 cases j:xe X ns with
 |nil=>
  exfalso;have h1:(xe X ns).length=0:=by rw[j];rfl
  have h2:=Pb ns;have G:=h.lx;unfold xe rv at h1;rw[R7,D',Zn] at h1;omega
 |cons a l=>
  rw[j] at v;obtain⟨h1,_⟩:=v _ (qj (-1) a l);obtain⟨h2,_⟩:=v _ (qj 1 a l);exact⟨Kl.of ((CI p h1.zn h1.zw L H).mono Z') V',Kl.of ((CI p h2.zn.neg h2.zw L H).neg.mono Z') V'⟩
def So(p:Int)(o:Dyadic)(d:List Nat×List Dyadic):Dyadic:=Xf (λx y=>decide (y<x)) [o,Fe (ki d.2 d.1 p).lo.da,Fe (ki d.2 d.1 p).hi.da]
def Ph(p:Int)(ds:List (List Nat×List Dyadic)):Dyadic:=ds.foldl (So p) 0
def JH(A)(n c:Nat)(fs)(ds:List (List Nat×List Dyadic))(p:Int)(k:Nat)(w)(S:Gc w)(j:Sl w A n 2 (ia FX.cells fs))(hn:n<=1000000)(t:∀f∈fs,f.at_ w)(hl:ds.length=n)(z:∀(i:Nat)(f:FX)(d:List Nat×List Dyadic),fs[i]?=some f->ds[i]?=some d->Q0 k d.1 d.2 f)(u:1600<=k)(B:k<=250000)(L: -1000<=p)(H:p<=1000):Zc 75 #[.slice A n c,.int .i64 p] w (.tuple #[.agg (NR.cells (nR (Ph p ds))).toArray,.int .i64 0]):=by
 have I:=Hp.start w;have G:fs.length=n:=j.sa FX.len V';refine Ca func75 ?_;refine Am ?_;intro D w4 I m w6 I ws I;refine bf 14 (λv V=>∃i:Nat,i<=n/\v=.int .i64 i/\Sz 1002014 (Ph p (ds.take i))/\Hp w [.blk m 30 (NR.cells (nR (Ph p (ds.take i)))) (0,0),.blk D 30 [.bool false,.string (ByteArray.mk #[]),.int .i64 0] (0,0)] V) (λv _=>n-(intOf v).toNat) ?_ ?_
 .exact⟨0,J' _,rfl,Sz.zero _,I⟩
 clear I;rintro ρ' v V ⟨i,hi,rfl,q,I⟩;by_cases K:i<n
 .obtain⟨f,C⟩:=aa (l:=fs) (k:=i) Z';obtain⟨d,T⟩:=aa (l:=ds) (k:=i) Z';have g:=z i f d C T;obtain⟨ad,rfl,Q⟩:=j.at_ Z';have b:=λZ P F=>DE f d.1 d.2 p k Z P ((t f (N' C)).ext F) g.is g.d12 g.d127 g.lx g.nK g.zx u B L H;have Y:=Jz g u B L H;have e:Ph p (ds.take (i+1))=So p (Ph p (ds.take i)) d:=by unfold Ph;rw[ja T,p8];rfl
  unfold So at e;generalize ki d.2 d.1 p=s at*;generalize Ph p (ds.take i)=o at*;have h1:=Y.1;have h2:=Y.2;have J:=λZ P=>Fp s.lo Z P (by have:=h1.ok.1;omega) (by have:=h1.ok.2.1;omega) (by have:=h1.ok.2.2;omega);have E:=λZ P=>Fp s.hi Z P (by have:=h2.ok.1;omega) (by have:=h2.ok.2.1;omega) (by have:=h2.ok.2.2;omega);rw[show(if s.lo.da<0 then -s.lo.da else s.lo.da)=Fe s.lo.da from rfl] at J;rw[show(if s.hi.da<0 then -s.hi.da else s.hi.da)=Fe s.hi.da from rfl] at E;have X:=Sz.Fe h1.sz;have r:=Sz.Fe h2.sz;have a:=λA c Z P N=>Qx A 3 c [nR o,nR (Fe s.lo.da),nR (Fe s.hi.da)] Z P N (by simpa using⟨q.ok V',X.ok V',r.ok V'⟩) V';rw[show([nR o,nR (Fe s.lo.da),nR (Fe s.hi.da)].map NR.da)=[o,Fe s.lo.da,Fe s.hi.da] by simp[Ga]] at a;have zm:Sz 1002014 (Xf (λx y=>decide (y<x)) [o,Fe s.lo.da,Fe s.hi.da]):=by
   have:=ML (f:=λx y=>decide (y<x)) (l:=[o,Fe s.lo.da,Fe s.hi.da]) (by simp);obtain h|h:=u'.1 this
   .rw[h];exact q
   obtain h|h:=u'.1 h
   .rw[h];exact X
   rw[q'.1 h];exact r
  generalize Fe s.lo.da=x at*;generalize Fe s.hi.da=y at*;refine fa ?_;refine sv (Ka (vs:=[_,_]) pa.out rfl ((Q.ext I.below).recAt FX.len C) rfl) ?_;refine yb ?_;intro b8 w8 I ws I;refine cd I (b _ (S.hp I) I.below) ?_;intro R I;replace I:Hp _ (_::.blk _ _ [_,_,_] _::_) _:=I;refine yb ?_;intro b9 w9 I ws I;refine ud 7 I ?_;refine dC (λ_ hj=>J _ (S.hp hj.hp)) ?_;refine wb ?_;refine dC (λ_ hj=>E _ (S.hp hj.hp)) ?_;refine dn ?_;intro W I;refine Sb I (cs:=[_,_,_,_,_,_,_,_,_]) Qa.out pa.out (Eb (Hd rfl) (Eb (Hd rfl) (Eb (Hd rfl) ae))) rfl rfl V' V' V' rfl V' ?_;intro M w35 I;refine cd I (a _ _ _ (S.hp I) (I.ma (i:=0) rfl)) ?_;intro w36 I;refine Bb ?_;intro ws I;replace I:=I.sub (G' _ (G' _ (G' _ (O' _ (O' _ Z_)))));refine⟨⟨i+1,Z',rfl,by rw[e];exact zm,by rw[e];exact I⟩,by show n-(i+1)<n-i;omega, ?_⟩;exact Wb
 obtain rfl:n=i:=Z';rw[w' Z'] at I;refine Bb ?_;intro ws I;refine dP (Nc rfl (Mc (vs:=[_,_,_]) pa.out (I.Ra (i:=1) (n:=3) rfl rfl) rfl) (Ig (ji rfl) Xd)) ?_;exact⟨rfl,I.below⟩
variable {b:List SR}
def vt(X:List PX)(b:List SR):Int:=match X.find? (λp=>decide (eg p b []≠0)) with
 |some p=>eg p b []
 |none=>if X.length=0\/X.length≠b.length\/8<X.length then 1 else 0
def eV{X:List PX}{i:Nat}{p:PX}(h:∀q∈X.take i,eg q b []=0)(hp:X[i]?=some p)(J:eg p b []≠0):vt X b=eg p b []:=by
 have:X.find? (λp=>decide (eg p b []≠0))=some p:=(by have hi:=(x'.1 hp).1;rw[<-q_ i X,List.find?_append,a8.2 λx C=>by simpa using h x C,de hp,V5 (by simpa using J)];rfl);unfold vt;rw[this]
def AK{X:List PX}(h:∀q∈X,eg q b []=0):vt X b=if X.length=0\/X.length≠b.length\/8<X.length then 1 else 0:=by
 have:X.find? (λp=>decide (eg p b []≠0))=none:=a8.2 λx C=>by simpa using h x C
 unfold vt;rw[this]
structure SqP(k:Nat)(p:PX)(b:List SR)(w:World):Prop where
 at_:p.at_ w
 Ug:p.Ug k
 gr:Il p b (Ml p [])=0->He (k+k+16394) (Tb p.v p.ts) (k+1)<=440000
def Cq(L)(n c:Nat)(d)(B)(m N:Nat)(b)(k:Nat)(w)(hT:Gc w)(hL:Sl w L n 2 (ia PX.cells d))(hn:n<=1000)(hp:∀p∈d,SqP k p b w)(hB:Sl w B m 6 (ia SR.cells b))(hb:∀s∈b,s.fin k)(hm:m<=1000000)(hk:k<=1000):Calls prog 71 #[.slice L n c,.slice B m N] w λr V=>(vt d b≠0/\r=.returned (.tuple #[.slice none 0 0,.int .i64 (vt d b)])/\Below w.heap.size w V)\/(vt d b=0/\∃(A:Option Addr)(a:Nat)(fs:List FX)(R:List HE),r=.returned (.tuple #[.slice A n a,.int .i64 0])/\fs.length=n/\(∀(i:Nat)(p:PX)(f:FX),d[i]?=some p->fs[i]?=some f->f.is (Tb p.v p.ts) (An (Tb p.v p.ts) (Sc p (Na b)).2))/\(∀f∈fs,f.gg∈R/\f.Kf∈R)/\Hp w (.row A n a 78 2 (ia FX.cells fs)::R) V):=by
 have I:=Hp.start w;have H:d.length=n:=hL.sa PX.len V';have hbl:b.length=m:=hB.sa SR.len V';refine Ca func71 ?_;refine fa ?_;replace I:=I.rb 78 2;refine Fi 6 13 (λv6 v V=>∃(i P:Nat)(A:Option Addr)(fs:List FX)(R:List HE),i<=n/\v=.int .i64 i/\v6=.slice A i P/\fs.length=i/\(∀q∈d.take i,eg q b []=0)/\(∀(j:Nat)(p:PX)(f:FX),d[j]?=some p->fs[j]?=some f->f.is (Tb p.v p.ts) (An (Tb p.v p.ts) (Sc p (Na b)).2))/\(∀f∈fs,f.gg∈R/\f.Kf∈R)/\Hp w (.row A i P 78 2 (ia FX.cells fs)::R) V) (λ_ v _=>n-(intOf v).toNat) ?_ ?_
 .exact⟨0,0,none,[],[],J' _,rfl,rfl,rfl,λq h=>absurd h h_,λj p f _ h=>by simp at h,λf h=>absurd h h_,I⟩
 clear I;rintro ρ' v6 v V ⟨i,P,A,fs,R,hi,rfl,rfl,K,y,z,hR,I⟩;by_cases hlt:i<n
 .obtain⟨p,C⟩:=aa (l:=d) (k:=i) Z';obtain⟨p1,J,p3⟩:=hp p (N' C);obtain⟨ad,rfl,hr⟩:=hL.at_ Z';have e:=λZ G u=>tN p B m N b none 0 0 [] k Z G (p1.ext u) J (hB.ext u) hb hm (Sl.nil _ _ _) V' (E' _) hk p3;replace e:∀Z,Gc Z->Below w.heap.size w Z->Calls prog 94 #[p.V,.slice B m N,.slice none 0 0] Z λr V=>∃g:FX,Out (eg p b []) (Tb p.v p.ts) (An (Tb p.v p.ts) (Sc p (Na b)).2) g/\r=.returned (.tuple #[g.V,.int .i64 (eg p b [])])/\Hp Z [g.gg,g.Kf] V:=e;have M:=λh=>eV y C h;have hX:∀f:FX,Out 0 (Tb p.v p.ts) (An (Tb p.v p.ts) (Sc p (Na b)).2) f->f.is (Tb p.v p.ts) (An (Tb p.v p.ts) (Sc p (Na b)).2):=λf o=>⟨o.ds,o.cs⟩;generalize T:An (Tb p.v p.ts) (Sc p (Na b)).2=X at e hX;generalize hE:eg p b []=E at*;refine fa ?_;refine sv (Ka (vs:=[_,_]) pa.out rfl ((hr.ext I.below).recAt PX.len C) rfl) ?_;refine yb ?_;intro b8 w8 I ws I;refine Wi (e _ (hT.hp I) I.below) ?_;rintro e_ w20 ⟨g,o1,rfl,S⟩;refine⟨_,rfl, ?_⟩;replace I:=I.join S;simp only[C',F'] at I;by_cases Q:E=0
  .subst Q;refine yb ?_;intro b9 w9 I ws I;refine Dk ?_;intro b28 w28 I;refine FM ?_;intro D F w29 I;refine XO ?_;intro I;refine XV ?_;intro I;refine XV ?_;intro I;refine F0 ?_;intro I;replace I:=I.sub (O' _ (O' _ (O' _ (G' _ (G' _ (P_ _))))));refine⟨⟨i+1,F,D,fs++[g],g.gg::g.Kf::R,Z',rfl,rfl,by rw[y',K];rfl,λq t=> ?_,λj J f h1 h2=> ?_,λf Y=> ?_,by rw[Aa];exact I⟩,by show n-(i+1)<n-i;omega, ?_⟩
   .rw[ja C] at t;obtain t|t:=O_.1 t
    .exact y q t
    rw[q'.1 t];exact hE
   .by_cases hj:j<i
    .rw[m9 Z'] at h2;exact z j J f h1 h2
    have W:=(x'.1 h2).1;rw[y',K] at W;obtain rfl:j=i:=by have:j<i+1:=W;omega
    rw[S9 Z',K,u_] at h2;obtain rfl:g=f:=i' h2;rw[C] at h1;obtain rfl:=i' h1;rw[T];exact hX _ o1
   .obtain Y|Y:=O_.1 Y
    .exact⟨L' _ (L' _ (hR f Y).1),L' _ (L' _ (hR f Y).2)⟩
    rw[q'.1 Y];exact aa8
   exact Wb
  refine yb ?_;intro b9 w9 I ws I;exact .inl ⟨by rw[M Q];exact Q,by rw[M Q],I.below⟩
 obtain rfl:n=i:=Z';rw[w' Z'] at y;have x:=AK y;by_cases h0:n=0
 .subst h0;rw[P' (.inl H)] at x;exact abt
 by_cases h1:n=m
 .by_cases h8:8<n
  .rw[P' (.inr (.inr Z'))] at x;exact abt
  rw[Q' Z'] at x;refine fa ?_;exact .inr ⟨x,A,P,fs,R,rfl,K,z,hR,I⟩
 rw[P' (.inr (.inl Z'))] at x;exact abt
end Go.Proofs.YtbencocchdpikaaGreatDoor
