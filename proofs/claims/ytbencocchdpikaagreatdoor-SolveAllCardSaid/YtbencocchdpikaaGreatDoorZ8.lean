/- Lemmas for solveAll, part 8. -/
import Derived.OrdersIn
import Derived.Test.YtbencocchdpikaaGreatDoorZ7
set_option linter.all false
set_option maxHeartbeats 0
namespace Go.Proofs.YtbencocchdpikaaGreatDoor
open Go.Proofs.Tryz
open Go.RowKit
def nX(n:Nat)(s1 s1' s2 s2':Bool)(a1 a1' a2 a2':ByteArray)(e1 e1' e2 e2':Int)(w:World):(Op.equalIn (n+4) 36 (.agg #[.bool s1,.string a1,.int .i64 e1,.bool s2,.string a2,.int .i64 e2]) (.agg #[.bool s1',.string a1',.int .i64 e1',.bool s2',.string a2',.int .i64 e2'])).run prog w=.ok (((s1==s1' && a1==a1') && e1==e1') && ((s2==s2' && a2==a2') && e2==e2')) w:=by
 have h1:=λ(x x':Bool) (y y':ByteArray) (z z':Int)=>XQ (P:=prog) (cs:= #[.bool x,.string y,.int .i64 z,.bool x',.string y',.int .i64 z']) (vs:= #[.bool x,.string y,.int .i64 z]) (off:=0) (ya.out (P:=prog) (t:=30)) rfl;have h2:=λ(x x':Bool) (y y':ByteArray) (z z':Int)=>XQ (P:=prog) (cs:= #[.bool x,.string y,.int .i64 z,.bool x',.string y',.int .i64 z']) (vs:= #[.bool x',.string y',.int .i64 z']) (off:=3) (ya.out (P:=prog) (t:=30)) rfl;rw[Op.equalIn];simp[run_underlying Tryz.underlying36,h1,h2,uR]
 cases h:((s1==s1' && a1==a1') && e1==e1')<;>cases h':((s2==s2' && a2==a2') && e2==e2')<;>simp_all
variable {ρ:Rf}{w:World}{d:Option Nat}{ty u:TypeId}{pos:String}{af:Array Edge}{x y:Operand}{s:SR}
def aZ{g:Option (Nat×Bool)}(hx:ev ρ x=.agg s.cells.toArray)(hy:ev ρ y=.agg s.cells.toArray):(execOp (ev ρ) ⟨d,.binOp .neq 36 x y u,ty,pos,af,g⟩).run prog w=.ok (.value (.bool false)) w:=by
 have h0:=nX 9996 s.lo.neg s.lo.neg s.hi.neg s.hi.neg s.lo.Qa s.lo.Qa s.hi.Qa s.hi.Qa s.lo.e s.lo.e s.hi.e s.hi.e w;rw[im.2 rfl,im.2 rfl] at h0;have h1:(Op.equal 36 (.agg s.cells.toArray) (.agg s.cells.toArray)).run prog w=.ok true w:=h0;simp only[execOp,hx,hy];simp[eqGuard,binOp,h1]
def bD(L:Option Addr)(n c:Nat)(b:List SR)(M:Option Addr)(c2:Nat)(w:World)(hS:Sl w L n 6 (na SR.cells b))(hS2:Sl w M n 6 (na SR.cells b))(hn:n<=1000000):Calls prog 79 #[.slice L n c,.slice M n c2] w λr w'=>r=.returned (.bool true)/\Below w.heap.size w w':=by
 have hh:=Hp.start w;have hln:=hS.Fa SR.len U';refine da (N:=26) (l:=[.slice L n c,.slice M n c2]) func79 rfl rfl (by simp) ?_;refine fa ?_;refine Ba [4,5,11,12,13,14,15,16,17,18,19,20,21,22,23,24,25] 5 (λv w'=>∃i:Nat,i<=n/\v=.int .i64 i/\Hp w [] w') (λv _=>n-(intOf v).toNat) ?_ ?_
 .exact⟨0,D' _,rfl,hh⟩
 clear hh;rintro ρ' v w' ⟨i,hi,rfl,hh⟩;by_cases hlt:i<n
 .obtain⟨s,hs⟩:=ea (l:=b) (k:=i) Z';obtain⟨ad,rfl,hr⟩:=hS.at_ Z';obtain⟨ad2,rfl,hr2⟩:=hS2.at_ Z';refine fa ?_;refine Ca 8 [[(0,none)],[(5,none)],[(17,some 0),(18,some 1)],[(19,some 2)],[(1,none)],[(5,none)],[(21,some 4),(22,some 5)],[(23,some 6)]] [(7,24),(6,23),(5,22),(4,21),(3,20),(2,19),(1,18),(0,17)] hh mixed T' ?_;refine De ?_;refine cd ?_;refine jj (i) ?_;refine Dn [_,_,_,_,_,_] (λ_ hj=>(hr.ext hj.hp.below).recAt SR.len hs) ?_;refine De ?_;refine cd ?_;refine jj (i) ?_;refine Dn [_,_,_,_,_,_] (λ_ hj=>(hr2.ext hj.hp.below).recAt SR.len hs) ?_;refine xa ?_;intro f W hJ hV;have hb_6:=hJ.bl;obtain⟨v24,v23,v22,v21,v20,v19,v18,v17,_⟩:=hV;replace hh:=hJ.hp;refine Da (Na (aa v24 (aa v23 (aa v22 (aa v21 (aa v20 (aa v19 (aa v18 (aa v17 Ea))))))))) ?_;dsimp only[Bb];clear hJ;refine Ia rfl rfl U' (aZ (s:=s) rfl rfl) ?_;skip;refine fa ?_;exact yx
 refine fa ?_;exact⟨rfl,hh.below⟩
def pZ(K:ZT):PX:=⟨1,none,0,0,zT K⟩
def oH:List SR:=[⟨⟨false,ByteArray.mk #[],0⟩,nR ((1:Int):Dyadic)⟩]
abbrev P1:ZT:=[([0],1)]
abbrev Q1:ZT:=[([0],1),([1],1)]
abbrev Q2:ZT:=[([1],1)]
abbrev Q3:ZT:=[([0], -1),([1],2)]
def aax:Dyadic:=((1:Int):Dyadic)*Ie (-1)
def ahF:NR:=nR (((1:Int):Dyadic)*Ie (-2))
def UE(l:List Int):List Dyadic:=l.map λz:Int=>(z:Dyadic)
def cA:CV:=⟨oH.map SR.f,[1],UE [1,1],UE [1,2]⟩
def cB:CV:=⟨oH.map SR.f,[1],UE [1,1],UE [0,1]⟩
def cC:CV:=⟨oH.map SR.f,[1],UE [1,1],UE [-1,1]⟩
def aam:SR:=⟨nR 0,nR ((1:Int):Dyadic)⟩
def cD:CV:=⟨[aam.f.half (nR aam.f.qh) false],[1],UE [1,1],UE [-1,0]⟩
def RA:RV:=⟨1,⟨nR aax,nR ((1:Int):Dyadic)⟩,[]⟩
def RB:RV:=⟨2,SR0,[nR ((0:Int):Dyadic)]⟩
def RC:RV:=⟨2,SR0,[nR aax]⟩
def FR{s:SR}{v:Int}(h:Cm [s] v):v=((0:Nat):Int):=by
 obtain⟨h,_⟩|⟨m,t,h,hv,_⟩:=h
 .cases h
 match m,h with
 |0,_=>exact hv
structure Eg(P:ZT):Prop where
 b:zB P=true
 g:Qe (24+24+16394) (Ac 1 (zT P)) (24+1)<=440000
 f:agj (RP (pZ P) oH).ns ((RP (pZ P) oH).cs.map NR.ma)
def afm(K:ZT):VP:=λv W=>∃p:PX,v=.agg #[.int .i64 p.v,.slice p.A p.n p.c]/\p.v=1/\p.ts=zT K/\p.at_ W/\p.n<=p.c/\p.n<=1000
def aeX(R:RV):VP:=λv W=>∃g:Option Addr×Nat,v=.agg (R.cells g.1 1 g.2).toArray/\Sl W g.1 1 3 (na NR.cells R.at_)
def afv(base:Nat)(R:RV)(k:Int):VP:=λx W=>∃(g:Option Addr×Nat×Nat)(w1:World),x=.tuple #[.agg (R.cells g.1 g.2.1 g.2.2).toArray,.int .i64 k,.int .i64 0]/\True/\base<=w1.heap.size/\Hp w1 [.row g.1 g.2.1 g.2.2 30 3 (na NR.cells R.at_)] W
def aff(base:Nat)(R:RV):VP:=λx W=>∃(g:Option Addr×Nat×Nat)(w1:World),x=.agg (R.cells g.1 g.2.1 g.2.2).toArray/\True/\base<=w1.heap.size/\Hp w1 [.row g.1 g.2.1 g.2.2 30 3 (na NR.cells R.at_)] W
def lnX(A:Option Addr)(c:Nat)(B:Option Addr)(d:Nat)(a b:Int):FX:=⟨A,1,c,B,2,d,[1],[nR (a:Dyadic),nR (b:Dyadic)]⟩
def ahB(a:NR):Bool:=decide ((8:Int)<a.Qa.size\/a.e< -60\/60<a.e)
def FX.small(f:FX):Prop:=f.Zg 124/\f.m<=60/\f.n<=20
abbrev fxL(l:List Int)(A:Option Addr)(a:Nat)(B:Option Addr)(b:Nat):FX:=⟨A,1,a,B,l.length,b,[(l.length:Int)-1],l.map λz:Int=>nR (z:Dyadic)⟩
def agR(ds:List Int)(cs:List NR):VP:=λv W=>∃g:FX,v=.agg #[.slice g.A g.n g.a,.slice g.B g.m g.b]/\g.ds=ds/\g.cs=cs/\g.at_ W
def ZP(z:Int):NR:=nR (z:Dyadic)
def adI(l:List Int):List SR:=l.map λz=>⟨nR 0,ZP z⟩
def afI(d:Nat)(xs:List Dyadic)(i:Nat):Dyadic:=Hj xs (i+1)*(((i:Int)+1:Int):Dyadic)-Hj xs i*(((d:Int)-(i:Int):Int):Dyadic)
def adv(d:Nat)(xs:List Dyadic):List Dyadic:=(List.range d).map (afI d xs)
abbrev ahD:=agn
def aez(q:Nat->Bool)(xs:List Dyadic)(i:Nat):List Dyadic:=((List.range i).filter q).map λp=>(xs[p]?).getD 0
def adj(ap d:Nat)(p:Nat):Bool:=decide (p/ap % (d+1)<d)
def aeo(ns:List Nat)(a:Nat):List Nat:=ns.set a (ns.getD a 0-1)
def afM(ns:List Nat)(a:Nat)(xs:List Dyadic):List Dyadic:=if ns.getD a 0=0 then List.replicate xs.length 0 else aez (adj (la (ns.drop (a+1))) (ns.getD a 0)) (pj (ns.drop (a+1)).reverse (ns.getD a 0) (ns.getD a 0) (adv (ns.getD a 0)) xs xs.length 0) xs.length
def gaX(ds:List Nat)(X:List Dyadic):Nat->List Dyadic
 |0=>X
 |k+1=>Ci ds (ds.length-1-k) (wg (ds.getD (ds.length-1-k) 0) 1 (-1)) (gaX ds X k)
def adD(b:List SR)(i:Nat):Dyadic:=match b[i]? with|some s=>s.jh-s.ye|none=>0
def wP(b:List SR)(ns es:List Nat):Nat->Dyadic
 |0=>1
 |i+1=>wP b ns es i*adD b i^(ns.getD i 0-es.getD i 0)
def adF(ns:List Nat)(p:Nat):List Nat:=(Eb ns.reverse p).reverse
def afV(b:List SR)(ns:List Nat)(C:List Dyadic)(p:Nat):TR:=⟨fX (Ua (adF ns p)),nR (Hj C p*wP b ns (adF ns p) b.length)⟩
def afR(b:List SR)(ns:List Nat)(C:List Dyadic):List TR:=(List.range (la ns)).map (afV b ns C)
def adp(v i:Nat)(s:SR):List TR:=sa (nC v i++gl v (-s.ye))
def ada(b:List SR):List PX:=b.mapIdx λi s=>⟨b.length,none,0,0,adp b.length i s⟩
def afA(b:List SR)(ns:List Nat)(C:List Dyadic):PX:=⟨(ns.length:Int),none,0,0,sa (afR b ns C)⟩
def afz(fx:FX):List Dyadic:=gaX fx.ns.reverse (fx.cs.map NR.ma) fx.ns.length
def aed(fx:FX)(b:List SR):Int×List TR:=vd (afA b fx.ns (afz fx)) (ada b)
def afs(fx:FX)(b:List SR):Int:=if fx.e≠0 then fx.e else if Fk b≠0 then Fk b else if b.length≠fx.n then 1 else(aed fx b).1
def ah7(n k kb:Nat)(ns:List Nat):Nat:=k+520*n+(1+n+(kb+1)*ns.sum)
structure Marks(w0:World)(M:List Nat)(w:World):Prop where
 at_:∀D∈M,w0.heap.size<=D/\w.heap[D]?=some (.deferred (some []))
 nd:M.Nodup
def ah2(d:Nat)(t:Dyadic)(xs:List Dyadic)(i:Nat):Dyadic:=sm (List.range i) λr=>Hj xs r*Mt d r t
def af1(K q:Nat)(X:List Dyadic):List Dyadic:=(X.drop (q*K)).take K
def evE(fx:FX)(m:Nat):Int:=if fx.e≠0 then fx.e else if m≠fx.n then 1 else 0
def evV(fx:FX)(tn:List NR):Dyadic:=if evE fx tn.length=0 then jq fx.ns.reverse (fx.cs.map NR.ma) (tn.map NR.ma).reverse else 0
variable {P:Program}{N:Nat}{Q:Kq}{ro:Option Nat}{D:List Deferred}
structure WR(ro:Option Nat)(D:List Deferred)(P:Program)(N:Nat)(ops:Array Oper)(Q:Kq)(fuel:Nat)(L:Array Bool)(ρ:Rf)(w:World):Prop where
 out:∀a,Sf N D a ρ->∀n,wpAnyIn (FW ro) n P .any ops (Zf N D Q) fuel L a w
instance:ya prog 211 1 false 8 [.nilFunc]:={}
def afT(es:List UInt8)(z:Int):VP:=λv W=>∃g:Option Addr×Nat,v=.agg #[.int .i64 es.length,.slice g.1 1 g.2]/\1<=g.2/\Sl W g.1 1 4 (na TR.cells [⟨str es,ZP z⟩])
def smI(l:List Int):Bool:=l.all λz=>decide (z.natAbs<256)
def abE(es:List UInt8)(z:Int):PX:=⟨es.length,none,0,0,[⟨str es,ZP z⟩]⟩
def isB(z:Int)(es:List UInt8)(bl ds l:List Int):Bool:=decide (z.natAbs<256/\es.length<=12/\pg (abE es z) (adI bl) ds=0/\Uo (ofN (abE es z) ds) (vd (abE es z) (db (adI bl))).2=l.map (λz:Int=>(z:Dyadic))/\Qe (124+124+16394) (Ac es.length [⟨str es,ZP z⟩]) (124+1)<=440000) && smI bl && smI l
abbrev fZ(A:Option Addr)(a:Nat)(B:Option Addr)(b:Nat):FX:=⟨A,1,a,B,3,b,[2],[0,0,4].map ZP⟩
def dW(a:NR):Bool:=decide (3<(a.Qa.size:Int)\/a.e< -12\/12<a.e)
def sk(a b:SR):Dyadic:=Cf [a.lo.ma,b.hi.ma]
def tB(a b:SR):Int:=Vg (sk a b) (sk b a)
def Ku(a:SR):Bool:=decide (a.lo.Qa=ByteArray.mk #[])
def xy{a:SR}(h:Ku a=true):a.lo.ma=0:=by
 have h1:a.lo.Qa=ByteArray.mk #[]:=B9 h;unfold NR.ma NR.i;rw[h1,show iv a.lo.neg (ByteArray.mk #[])=0 by cases a.lo.neg<;>rfl];simp
def yN{a b:SR}(ha:Ku a=true)(hb:Ku b=true):tB a b=0:=by
 have e:∀x:Dyadic,Cf [0,x]=0:=λx=>by show(1:Dyadic)*0*x=0;grind
 unfold tB sk;rw[xy ha,xy hb,e,e,bo]
def Xt(a:SR)(w:World):Calls prog 317 #[.agg (SR.cells a).toArray] w λr w'=>r=.returned (.bool (Ku a))/\Below w.heap.size w w':=by
 have hh:=Hp.start w;by_cases h:a.lo.Qa=ByteArray.mk #[]
 .refine da (N:=8) (l:=[.agg (SR.cells a).toArray]) func317 rfl rfl (by simp) ?_;refine Jb ?_;intro b1 w1 hh;refine NL ?_;refine fa ?_;exact⟨by unfold Ku;rw[M_ h],hh.below⟩
 refine da (N:=8) (l:=[.agg (SR.cells a).toArray]) func317 rfl rfl (by simp) ?_;refine Jb ?_;intro b1 w1 hh;refine qN ?_;refine fa ?_;exact⟨by unfold Ku;rw[O_ h],hh.below⟩
variable {k:Nat}
def dr(a:SR)(q:NR)(k:Nat)(w:World)(hT:Sc w)(ha:a.lo.ok)(hq:q.ok)(za:Sz k a.lo.ma)(zq:Sz k q.ma)(hk:k<=1000000):Calls prog 318 #[.agg (SR.cells a).toArray,.agg #[.bool q.neg,.string q.Qa,.int .i64 q.e]] w λr w'=>r=.returned (.agg (NR.cells (nR (Cf [a.lo.ma,q.ma]))).toArray)/\Below w.heap.size w w':=by
 have hh:=Hp.start w;have hm:=λA cc w1 hT1 hS1=>Ee A 2 cc [a.lo,q] w1 hT1 hS1 (by simpa using⟨ha,hq⟩) k (by simpa using⟨za,zq⟩) Z' Z';refine da (N:=10) (l:=[.agg (SR.cells a).toArray,.agg #[.bool q.neg,.string q.Qa,.int .i64 q.e]]) func318 rfl rfl (by simp) ?_;refine Dm ?_;intro b2 w2 hh b3 w3 hh b4 w4 hh;refine Rq ?_;intro b8 w8 hh;refine Oa hh (hm _ _ _ (hT.hp hh) (hh.ra (i:=0) rfl)) rfl ?_;intro w9 hh;exact FP
structure Vv(k:Nat)(a:SR):Prop where
 n:a.lo.ok
 w:a.hi.ok
 zn:Sz k a.lo.ma
 zw:Sz k a.hi.ma
def bB{a b:SR}(ha:Vv k a)(hb:Vv k b):Sz (1+k*2) (sk a b):=Sz.prod (k:=k) (l:=[a.lo.ma,b.hi.ma]) (by simpa using⟨ha.zn,hb.zw⟩)
def pJ(a b:SR)(k:Nat)(w:World)(hT:Sc w)(ha:Vv k a)(hb:Vv k b)(hk:k<=1000000):Calls prog 298 #[.agg (SR.cells a).toArray,.agg (SR.cells b).toArray] w λr w'=>r=.returned (.int .i64 (tB a b))/\Below w.heap.size w w':=by
 have hh:=Hp.start w;have h1:=λw1 hT1=>dr a b.hi k w1 hT1 ha.n hb.w ha.zn hb.zw hk;have h2:=λw1 hT1=>dr b a.hi k w1 hT1 hb.n ha.w hb.zn ha.zw hk;have o1:=(bB ha hb).ok Z';have o2:=(bB hb ha).ok Z';have hc:=λw1 hT1=>xh (nR (sk a b)) (nR (sk b a)) w1 hT1 o1 o2;rw[Za,Za] at hc;have hz:=λx y=>yN (a:=a) (b:=b) x y;unfold tB at hz |-;rw[show Cf [a.lo.ma,b.hi.ma]=sk a b from rfl] at h1;rw[show Cf [b.lo.ma,a.hi.ma]=sk b a from rfl] at h2;have n1:=λw1=>Xt a w1;have n2:=λw1=>Xt b w1;generalize sk a b=x at*;generalize sk b a=y at*;refine da (N:=20) (l:=[.agg (SR.cells a).toArray,.agg (SR.cells b).toArray]) func298 rfl rfl (by simp) ?_;refine Sb ?_;intro b2 w2 hh b3 w3 hh;refine Oa hh (n1 _) rfl ?_;intro w6 hh
 cases g1:Ku a with
 |false=>
  exact ads
 |true=>
  refine fa ?_;refine Oa hh (n2 _) rfl ?_;intro w9 hh
  cases g2:Ku b with
  |false=>
   exact ads
  |true=>
   refine fa ?_;exact⟨by rw[hz g1 g2],hh.below⟩
def tg(way:Int):SR->List SR->SR:=λa l=>l.foldl (λout x=>if tB x out=way then x else out) a
def jJ(way:Int)(a:SR)(l:List SR)(x:SR):tg way a (l++[x])=if tB x (tg way a l)=way then x else tg way a l:=by
 unfold tg;rw[V7];rfl
def Co(way:Int)(a:SR):∀l:List SR,tg way a l∈a::l:=λl=>by
 have h:∀(l:List SR)(b:SR),b∈a::l->∀r:List SR,(∀x∈r,x∈a::l)->r.foldl (λout x=>if tB x out=way then x else out) b∈a::l:=λl b hb r=>by
  induction r generalizing b with
  |nil=>exact λ_=>hb
  |cons y r ih=>
   intro hr;rw[F7];refine ih _ ?_ λx hx=>hr x (F' _ hx);split
   .exact hr y q'
   exact hb
 exact h l a q' l λx hx=>F' _ hx
def xJ(A:Option Addr)(n c:Nat)(a:SR)(l:List SR)(way:Int)(k:Nat)(w:World)(hT:Sc w)(hS:Sl w A n 6 (na SR.cells (a::l)))(hc:n<=c)(hn:n<=1000000)(hl:∀x∈a::l,Vv k x)(hk:k<=1000000):Calls prog 264 #[.slice A n c,.int .i64 way] w λr w'=>r=.returned (.agg (SR.cells (tg way a l)).toArray)/\Below w.heap.size w w':=by
 have hh:=Hp.start w;have hln:l.length+1=n:=hS.Fa SR.len U';have hbk:Sl w (if c=1 then A else A.map (·.add (1*6))) (n-1) 6 (na SR.cells l):=hS.back (l:=1) Z' hc;obtain⟨ad,rfl,hr⟩:=hS.at_ Z';have h00:(a::l)[0]?=some a:=rfl;refine da (N:=26) (l:=[.slice (some ad) n c,.int .i64 way]) func264 rfl rfl (by simp) ?_;refine Jb ?_;intro b4 w4 hh;refine wb (vs:=[_,_,_,_,_,_]) ya.out rfl ((hr.ext hh.below).recAt SR.len h00) rfl U' ?_;refine Sb ?_;intro b5 w5 hh ws hh;refine tQ ?_;refine fa ?_;refine Ba [7,14,15,16,17,18,19,20,21,22,23,24] 14 (λv w'=>∃i:Nat,i<=n-1/\v=.int .i64 i/\Hp w [.blk b5 276 (SR.cells (tg way a (l.take i))) (0,0),.blk b4 276 [.bool false,.string (ByteArray.mk #[]),.int .i64 0,.bool false,.string (ByteArray.mk #[]),.int .i64 0] (0,0)] w') (λv _=>n-1-(intOf v).toNat) ?_ ?_
 .exact⟨0,D' _,rfl,hh⟩
 clear hh;rintro ρ' v w' ⟨i,hi,rfl,hh⟩;by_cases hlt:i<n-1
 .obtain⟨x,hx⟩:=ea (l:=l) (k:=i) Z';obtain⟨ab,hAb,sb⟩:=hbk.at_ Z';have om:Value.slice (if c=1 then some ad else(some ad:Option Addr).map (·.add (1*6))) (n-1) (c-1)=.slice (some ab) (n-1) (c-1):=by rw[hAb]
  have kx:=hl x (F' _ (G' hx));have kb:=hl (tg way a (l.take i)) (by
   obtain h|h:=S_.1 (Co way a (l.take i))
   .rw[h];exact q'
   exact F' _ (N8 h))
  have hc1:=λw1 hT1=>pJ x (tg way a (l.take i)) k w1 hT1 kx kb hk;have hst:tg way a (l.take (i+1))=if tB x (tg way a (l.take i))=way then x else tg way a (l.take i):=by rw[oa hx,jJ]
  generalize tg way a (l.take i)=o at*;refine fa ?_;refine rS ?_;refine wb (vs:=[_,_,_,_,_,_]) ya.out rfl ((sb.ext hh.below).recAt SR.len hx) rfl U' ?_;replace hh:Hp _ (.blk _ _ [_,_,_,_,_,_] _::_) _:=hh;refine Sb ?_;intro b7 w7 hh ws hh;refine Oa hh (hc1 _ (hT.hp hh)) rfl ?_;intro w20 hh;by_cases hw:tB x o=way
  .rw[J' hw] at hst;refine Jb ?_;intro ws hh;exact T0
  rw[L' hw] at hst;refine fa ?_;exact T0
 obtain rfl:i=n-1:=Z';rw[W_ Z'] at hh;exact adE
def Bh(X:List Dyadic)(ns:List Nat):List SR:=List.zipWith (λx q=>⟨nR x,q⟩) X (xz ns)
def BH(f:FX)(ns:List Nat)(X:List Dyadic)(w:World)(hT:Sc w)(hf:f.at_ w)(fi:f.is ns X)(h12:ns.length<=12)(h127:∀d∈ns,d<=127)(hx:X.length=la ns)(hc:la ns<=4096):Calls prog 214 #[.agg #[.slice f.A f.n f.a,.slice f.B f.m f.b]] w λr w'=>∃A c',r=.returned (.slice A f.m c')/\f.m<=c'/\w'.ownsRow w.heap.size 276 6 (.slice A f.m c') f.m (na SR.cells (Bh X ns))/\Below w.heap.size w w':=by
 have hh:=Hp.start w;obtain⟨ln,lm⟩:=fi.key hf;obtain⟨A,n,ca,B,m,cb,ds,cs⟩:=f;have h1:ds=Ua ns:=fi.ds;have h2:cs=X.map nR:=fi.cs;subst h1 h2;have hD:Sl w A n 1 (jb (Ua ns)):=hf.dg;have hC:Sl w B m 3 (na NR.cells (X.map nR)):=hf.nm;replace lm:m=X.length:=lm;have hpos:=Cc ns;obtain⟨ad,rfl,hr⟩:=hC.at_ Z';have hwt:=λw1 hT1 hb=>On A n ca ns w1 hT1 (hD.ext hb) h12 h127 hc;refine da (N:=29) (l:=[.agg #[.slice A n ca,.slice (some ad) m cb]]) func214 rfl rfl (by simp) ?_;refine Jb ?_;intro b1 w1 hh;refine qa (hwt _ (hT.hp hh) hh.below) ja.out rfl U' ?_;rintro e_ w9 ⟨A9,c9,rfl,hown_,hb_⟩;refine⟨_,rfl, ?_⟩;replace hh:=hh.Aa (x:=.row _ _ _ _ _ _) hb_ hown_;refine fa ?_;replace hh:=hh.Lb 276 6;replace hh:=hh.sub (I' _ (I' _ (I' _ H_)));refine Ra [3,5,6,13,14,15,16,17,18,19,20,21,22,23,24,25,26,27] 3 13 (λv3 v w'=>∃(i c3:Nat)(O:Option Addr),i<=m/\v=.int .i64 i/\v3=.slice O i c3/\Hp w [.row O i c3 276 6 (na SR.cells ((Bh X ns).take i)),.row A9 (la ns) c9 30 3 (na NR.cells (xz ns)),.blk b1 78 [.slice A n ca,.slice (some ad) m cb] (0,0)] w') (λ_ v _=>m-(intOf v).toNat) ?_ ?_
 .exact⟨0,0,none,D' _,rfl,rfl,hh⟩
 clear hh;rintro ρ' v3 v w' ⟨i,c3,O,hi,rfl,rfl,hh⟩;have hwl:(xz ns).length=la ns:=(hh.ra (i:=1) rfl).Fa NR.len U';have hpl:(Bh X ns).length=m:=by unfold Bh;rw[a7];omega
 by_cases hlt:i<m
 .obtain⟨x,hxi⟩:=ea (l:=X) (k:=i) Z';obtain⟨q,hq⟩:=ea (l:=xz ns) (k:=i) Z';have hxn:(X.map nR)[i]?=some (nR x):=by rw[V_,hxi];rfl
  have hp:(Bh X ns)[i]?=some ⟨nR x,q⟩:=by unfold Bh;rw[L8,hxi,hq]
  obtain⟨gw,rfl⟩:=hh.Ob (i:=1) rfl Z';refine fa ?_;refine wb (vs:=[_,_,_]) ya.out rfl ((hr.ext hh.below).recAt NR.len hxn) rfl U' ?_;refine Sb ?_;intro b6 w6 hh ws hh;refine Ca 8 [[(3,none)],[(6,none)],[(4,none)],[(5,none)],[(20,some 2),(21,some 3)],[(22,some 4)],[(19,some 1),(23,some 5)],[(24,some 6)]] [(7,25),(6,24),(5,23),(4,22),(3,21),(2,20),(1,19),(0,18)] hh mixed T' ?_;refine De ?_;refine Vd 0 [_,_,_] ?_;refine De ?_;refine cd ?_;refine Kt (i) ?_;refine Dn [_,_,_] (λ_ hj=>hj.hp.Gd (f:=NR.cells) (x:=q) (l:=xz ns) (i:=2) rfl NR.len U' hq) ?_;refine dB [_,_,_,_,_,_] ?_;refine qq [_,_,_,_,_,_] ?_;refine xa ?_;intro f W hJ hV;have hb_6:=hJ.bl;obtain⟨v25,v24,v23,v22,v21,v20,v19,v18,_⟩:=hV;obtain⟨A25,c25,e25,f25⟩:Rows _ _ _ (f 7) W:=v25;replace hh:=hJ.hp;refine Da (Na (aa e25 (aa v24 (aa v23 (aa v22 (aa v21 (aa v20 (aa v19 (aa v18 Ea))))))))) ?_;dsimp only[Bb];clear e25 hJ;refine Gb hh (i:=1) rfl rfl rfl (f25) lb.out ya.out rfl U' (by first|rfl|exact Xb _|exact Nb _|exact Pa _|exact Ta NR.one _) Z' Z' U' ?_;intro A26 c26 w26 hh;simp only[U_,F_] at hh
  refine fa ?_;replace hh:=hh.sub (p' _ (I' _ (I' _ (I' _ H_))));refine⟨⟨i+1,c26,A26,Z',rfl,rfl, ?_⟩,by show m-(i+1)<m-i;omega, ?_⟩
  .rw[oa hp,La];exact hh
  exact Rc
 obtain rfl:i=m:=Z';rw[W_ Z'] at hh;refine fa ?_;exact⟨O,c3,rfl,hh.me (i:=0) rfl,hh.own _ q',hh.below⟩
def QF(a:SR)(l:List SR)(p:Int):SR:=⟨(KH (tg (-1) a l).lo.ma (tg (-1) a l).hi.ma p).lo,(KH (tg 1 a l).lo.ma (tg 1 a l).hi.ma p).hi⟩
def vz(A:Option Addr)(n c:Nat)(a:SR)(l:List SR)(p:Int)(k:Nat)(w:World)(hT:Sc w)(hS:Sl w A n 6 (na SR.cells (a::l)))(hc:n<=c)(hn:n<=1000000)(hl:∀x∈a::l,Vv k x/\x.hi.ma≠0)(hk:k<=250000)(hp1: -1000<=p)(hp2:p<=1000):Calls prog 213 #[.slice A n c,.int .i64 p] w λr w'=>r=.returned (.agg (SR.cells (QF a l p)).toArray)/\Below w.heap.size w w':=by
 have hh:=Hp.start w;have hb:=λway w1 hT1 hb1=>xJ A n c a l way k w1 hT1 (hS.ext hb1) hc hn (λx hx=>(hl x hx).1) Z';have hq:∀way w1,Sc w1->Calls prog 90 #[.agg (NR.cells (tg way a l).lo).toArray,.agg (NR.cells (tg way a l).hi).toArray,.int .i64 p] w1 λr w'=>r=.returned (.tuple #[.agg (SR.cells (KH (tg way a l).lo.ma (tg way a l).hi.ma p)).toArray,.int .i64 0])/\Below w1.heap.size w1 w':=λway w1 hT1=>(by obtain⟨h1,h2⟩:=hl _ (Co way a l);generalize tg way a l=o at*;exact RN o.lo o.hi p w1 hT1 h1.n h1.w (h1.zn.ok Z') (h1.zn.neg.ok Z') (h1.zw.ok Z') h2 ((fK p h1.zn.neg h1.zw hp1 hp2).ok Z') hp1 hp2);unfold QF;have hb1:=hb (-1);have hb2:=hb 1;have hq1:=hq (-1);have hq2:=hq 1;clear hb hq;generalize tg (-1) a l=x at*;generalize tg 1 a l=y at*;generalize KH x.lo.ma x.hi.ma p=u at*;generalize KH y.lo.ma y.hi.ma p=v at*;refine da (N:=38) (l:=[.slice A n c,.int .i64 p]) func213 rfl rfl (by simp) ?_;refine Jb ?_;intro b4 w4 hh;refine Oa hh (hb1 _ (hT.hp hh) hh.below) rfl ?_;intro w12 hh;refine mL ?_;refine Oa hh (hb2 _ (hT.hp hh) hh.below) rfl ?_;intro w14 hh;refine SP ?_;intro b5 w5 hh b6 w6 hh ws hh ws hh;refine Oa hh (hq1 _ (hT.hp hh)) rfl ?_;intro w21 hh;refine Sb ?_;intro b7 w7 hh ws hh;refine Oa hh (hq2 _ (hT.hp hh)) rfl ?_;intro w30 hh;refine Dm ?_;intro b9 w9 hh ws hh ws hh;refine jP (qd rfl (pd (vs:=[_,_,_,_,_,_]) ya.out (hh.pb (i:=4) (n:=6) rfl rfl) rfl) Be) ?_;exact⟨rfl,hh.below⟩
def MM:∀{n k:Nat},k<=n->0<bin n k
 |0,0,_=>Nat.one_pos
 |n+1,0,_=>Nat.one_pos
 |n+1,k+1,h=>(by have:=MM (n:=n) (k:=k) Z';show 0<bin n k+bin n (k+1);omega)
def TK:∀(ds:List Nat)(p:Nat),0<wtR ds (Eb ds p)
 |[],_=>Nat.one_pos
 |d::ds,p=>H7 (MM (Nat.lt_succ_iff.1 (B_ p (Nat.succ_pos d)))) (TK ds _)
def abd{ns:List Nat}(h12:ns.length<=12)(h127:∀d∈ns,d<=127){q:NR}(h:q∈xz ns):q.ok/\Sz 1600 q.ma/\q.ma≠0:=by
 obtain⟨x,hx,rfl⟩:=Z_.1 h;have hz:=WK hx h12 h127;obtain⟨p,_,rfl⟩:=Z_.1 hx;rw[Za];refine⟨hz.ok U',hz,λh=> ?_⟩;have h1:=TK ns.reverse p;have h2:((wtR ns.reverse (Eb ns.reverse p):Int):Dyadic)=((0:Int):Dyadic):=h;rw[<-Dyadic.toRat_inj] at h2;have h3:(wtR ns.reverse (Eb ns.reverse p):Int)=0:=by simpa using h2
 omega
def VF{X:List Dyadic}{ns:List Nat}(h12:ns.length<=12)(h127:∀d∈ns,d<=127)(hX:∀x∈X,Sz k x)(hk:1600<=k)(hk2:k<=250000):∀a∈Bh X ns,Vv k a/\a.hi.ma≠0:=λa ha=>by
 obtain⟨i,hi⟩:=j_.1 ha;unfold Bh at hi;rw[L8] at hi
 cases hx:X[i]? with
 |none=>rw[hx] at hi;cases hi
 |some x=>
  cases hq:(xz ns)[i]? with
  |none=>rw[hx,hq] at hi;cases hi
  |some q=>
   rw[hx,hq] at hi;obtain rfl:=(L_ hi).symm;have zx:=hX x (G' hx);obtain⟨h1,h2,h3⟩:=abd h12 h127 (G' hq);exact⟨⟨zx.ok Z',h1,by rw[Za];exact zx,h2.mono hk⟩,h3⟩
def Vw(X:List Dyadic)(ns:List Nat)(p:Int):SR:=match Bh X ns with
 |[]=>SR0
 |a::l=>QF a l p
def zF(f:FX)(ns:List Nat)(X:List Dyadic)(p:Int)(k:Nat)(w:World)(hT:Sc w)(hf:f.at_ w)(fi:f.is ns X)(h12:ns.length<=12)(h127:∀d∈ns,d<=127)(hx:X.length=la ns)(hc:la ns<=4096)(hX:∀x∈X,Sz k x)(hk:1600<=k)(hk2:k<=250000)(hp1: -1000<=p)(hp2:p<=1000):Calls prog 139 #[.agg #[.slice f.A f.n f.a,.slice f.B f.m f.b],.int .i64 p] w λr w'=>r=.returned (.tuple #[.agg (SR.cells (Vw X ns p)).toArray,.int .i64 0])/\Below w.heap.size w w':=by
 have hh:=Hp.start w;have fl:=fi.Zg hf h12 hx hc hX Z';have fe:=fi.e h12 h127 hx hc;have hck:=λw1 hT1 hb=>vm f k w1 hT1 (hf.ext hb) fl;rw[fe] at hck;have hpa:=λw1 hT1 hb=>BH f ns X w1 hT1 (hf.ext hb) fi h12 h127 hx hc;have hpk:=VF h12 h127 hX hk hk2;have hpos:=Cc ns;obtain⟨ln,lm⟩:=fi.key hf;unfold Vw
 cases hps:Bh X ns with
 |nil=>
  exfalso;have h1:(Bh X ns).length=0:=by rw[hps];rfl
  unfold Bh xz at h1;rw[a7,i',zv] at h1;omega
 |cons a l=>
  rw[hps] at hpk hpa;have hbt:=λA c w1 hT1 hS hcap=>vz A f.m c a l p k w1 hT1 hS hcap Z' hpk hk2 hp1 hp2;show Calls _ _ _ _ λr w'=>r=.returned (.tuple #[.agg (SR.cells (QF a l p)).toArray,.int .i64 0])/\Below w.heap.size w w';generalize QF a l p=S at*;refine da (N:=17) (l:=[.agg #[.slice f.A f.n f.a,.slice f.B f.m f.b],.int .i64 p]) func139 rfl rfl (by simp) ?_;refine Sb ?_;intro b2 w2 hh b4 w4 hh;refine bh ?_;intro w8 hh;refine fa ?_;refine qa (hpa _ (hT.hp hh) hh.below) ja.out rfl U' ?_;rintro e_ w14 ⟨A,c',rfl,hcap,ho,hb_⟩;refine⟨_,rfl, ?_⟩;replace hh:=hh.Aa (x:=.row _ _ _ _ _ _) hb_ ho;refine mI ?_;refine Oa hh (hbt _ _ _ (hT.hp hh) (hh.ra (i:=0) rfl) hcap) rfl ?_;intro w16 hh;refine Jb ?_;intro ws hh;refine bV (qd rfl (pd (vs:=[_,_,_,_,_,_]) ya.out (hh.pb (i:=1) (n:=6) rfl rfl) rfl) (gh (ej rfl) Be)) ?_;exact⟨rfl,hh.below⟩
structure LX where
 A:Option Addr
 n:Nat
 c:Nat
 l:List NR
def LX.cells(x:LX):List Value:=[.slice x.A x.n x.c]
def LX.len:∀x:LX,x.cells.length=1:=λ_=>rfl
def LX.at_(x:LX)(w:World):Prop:=Sl w x.A x.n 3 (na NR.cells x.l)
variable {w':World}
def LX.at_.ext{x:LX}(h:x.at_ w)(hb:Below w.heap.size w w'):x.at_ w':=Sl.ext h hb
def LX.at_.ln{x:LX}(h:x.at_ w):x.l.length=x.n:=Sl.Fa h NR.len U'
def yJ(A:Option Addr)(n c:Nat)(l:List LX)(g:FuncId)(cap:List Value)(p:LX->Bool)(w:World)(hS:Sl w A n 1 (na LX.cells l))(hn:n<=1000000)[ja prog g] (hg:∀(z:LX)(w1:World),z∈l->Below w.heap.size w w1->Calls prog g (.slice z.A z.n z.c::cap).toArray w1 λr w'=>r=.returned (.bool (p z))/\Below w1.heap.size w1 w'):Calls prog 299 #[.slice A n c,.func (.func g) #[] cap.toArray] w λr w'=>∃v,r=.returned (.int .i64 v)/\(0<=v↔l.any p=true)/\Below w.heap.size w w':=by
 have hh:=Hp.start w;have hln:=hS.Fa LX.len U';refine da (N:=19) (l:=[.slice A n c,.func (.func g) #[] cap.toArray]) func299 rfl rfl (by simp) ?_;refine fa ?_;refine Ba [4,5,8,9,10,11,12,13,14,15,16,17,18] 8 (λv w'=>∃i:Nat,i<=n/\v=.int .i64 i/\(l.take i).any p=false/\Hp w [] w') (λv _=>n-(intOf v).toNat) ?_ ?_
 .exact⟨0,D' _,rfl,rfl,hh⟩
 clear hh;rintro ρ' v w' ⟨i,hi,rfl,hall,hh⟩;by_cases hlt:i<n
 .obtain⟨z,hz⟩:=ea (l:=l) (k:=i) Z';obtain⟨ad,rfl,hr⟩:=hS.at_ Z';have hc:=λw1=>hg z w1 (G' hz)
  cases gz:p z with
  |true=>
   rw[gz] at hc;refine fa ?_;refine ub ya.out rfl ((hr.ext hh.below).recAt LX.len hz 0 _ rfl) U' ?_;exact OV
  |false=>
   rw[gz] at hc;refine fa ?_;refine ub ya.out rfl ((hr.ext hh.below).recAt LX.len hz 0 _ rfl) U' ?_;exact Dw
 exact vQ
def bJ(A:Option Addr)(n c:Nat)(l:List LX)(g:FuncId)(cap:List Value)(p:LX->Bool)(w:World)(hS:Sl w A n 1 (na LX.cells l))(hn:n<=1000000)[ja prog g] (hg:∀(z:LX)(w1:World),z∈l->Below w.heap.size w w1->Calls prog g (.slice z.A z.n z.c::cap).toArray w1 λr w'=>r=.returned (.bool (p z))/\Below w1.heap.size w1 w'):Calls prog 267 #[.slice A n c,.func (.func g) #[] cap.toArray] w λr w'=>r=.returned (.bool (l.any p))/\Below w.heap.size w w':=by
 have hh:=Hp.start w;refine da (N:=9) (l:=[.slice A n c,.func (.func g) #[] cap.toArray]) func267 rfl rfl (by simp) ?_;refine fa ?_;refine qa (yJ A n c l g cap p _ (hS.ext hh.below) hn hg) ja.out rfl U' ?_;exact CR
def ZN(t:List LX):Int:=if 8<t.length\/t.any (λx=>decide (x.n≠t.length))=true then 1 else 0
def Xy(x:LX)(n:Nat)(A:Option Addr)(c:Nat)(p:Addr)(w:World)(hp:w.cell? p=some (.slice A n c)):Calls prog 268 #[.slice x.A x.n x.c,.pointer (some p)] w λr w'=>r=.returned (.bool (decide (x.n≠n)))/\Below w.heap.size w w':=by
 have hh:=Hp.start w;by_cases h:x.n=n
 .refine da (N:=9) (l:=[.slice x.A x.n x.c,.pointer (some p)]) func268 rfl rfl (by simp) ?_;refine fa ?_;refine wF ?_;exact aY
 refine da (N:=9) (l:=[.slice x.A x.n x.c,.pointer (some p)]) func268 rfl rfl (by simp) ?_;refine fa ?_;refine wF ?_;exact uQ
def Tq(A:Option Addr)(n c:Nat)(t:List LX)(w:World)(hS:Sl w A n 1 (na LX.cells t))(hn:n<=1000000):Calls prog 219 #[.slice A n c] w λr w'=>r=.returned (.int .i64 (ZN t))/\Below w.heap.size w w':=by
 have hh:=Hp.start w;have hln:=hS.Fa LX.len U';unfold ZN;by_cases h8:8<n
 .rw[J' (.inl Z')];refine da (N:=11) (l:=[.slice A n c]) func219 rfl rfl (by simp) ?_;refine Jb ?_;intro b1 w1 hh;exact⟨rfl,hh.below⟩
 have hS:=hS
 cases ga:t.any (λx=>decide (x.n≠n)) with
 |true=>
  rw[J' (.inr (by rw[hln];exact ga))];exact adP
 |false=>
  rw[L' (λh=>h.elim Z' λh=>by rw[hln,ga] at h;cases h)];exact adP
def Wu(a:Int)(l:List NR):Int:=l.foldl (λa x=>if(nR x.ma).e<a then(nR x.ma).e else a) a
def Qo(a:Int)(t:List LX):Int:=t.foldl (λa x=>Wu a x.l) a
def vO(a:Int)(l:List NR)(x:NR):Wu a (l++[x])=if(nR x.ma).e<Wu a l then(nR x.ma).e else Wu a l:=by unfold Wu;rw[V7];rfl
def TN(a:Int)(t:List LX)(x:LX):Qo a (t++[x])=Wu (Qo a t) x.l:=by unfold Qo;rw[V7];rfl
def scI(low:Int)(x:NR):IR:=iR (Sy (nR x.ma).i ((nR x.ma).e-low))
structure WX where
 A:Option Addr
 n:Nat
 c:Nat
 l:List IR
def WX.cells(x:WX):List Value:=[.slice x.A x.n x.c]
def WX.len:∀x:WX,x.cells.length=1:=λ_=>rfl
def WX.row(x:WX):HE:=.row x.A x.n x.c 28 2 (na IR.cells x.l)
variable {K:Nat}
structure yH(K:Nat)(t:List LX)(w:World):Prop where
 at_:∀x∈t,x.at_ w
 n:∀x∈t,x.n<=1000
 num:∀x∈t,∀a∈x.l,a.ok/\Sz K a.ma
def yH.ext{t:List LX}(h:yH K t w)(hb:Below w.heap.size w w'):yH K t w':=⟨λx hx=>(h.at_ x hx).ext hb,h.n,h.num⟩
def tK{K:Nat}:∀(l:List NR)(a:Int),(∀x∈l,Sz K x.ma)-> -(K:Int)<=a-> -(K:Int)<=Wu a l/\Wu a l<=a
 |[],a,_,h=>⟨h,W6 _⟩
 |x::l,a,hl,h=>(by have h1:=(hl x q').nr.2.1;obtain⟨h2,h3⟩:=tK l (if(nR x.ma).e<a then(nR x.ma).e else a) (λy hy=>hl y (F' _ hy)) (by split<;>omega);refine⟨h2,Int.le_trans h3 ?_⟩;split<;>omega)
def Av{K:Nat}:∀(t:List LX)(a:Int),(∀x∈t,∀y∈x.l,Sz K y.ma)-> -(K:Int)<=a-> -(K:Int)<=Qo a t/\Qo a t<=a
 |[],a,_,h=>⟨h,W6 _⟩
 |x::t,a,ht,h=>(by obtain⟨h1,h2⟩:=tK x.l a (ht x q') h;obtain⟨h3,h4⟩:=Av t (Wu a x.l) (λy hy=>ht y (F' _ hy)) h1;exact⟨h3,Int.le_trans h4 h2⟩)
def gD(A:Option Addr)(n c K:Nat)(t:List LX)(w:World)(hT:Sc w)(hS:Sl w A n 1 (na LX.cells t))(ht:yH K t w)(hn:n<=1000)(hK:K<=100000):Calls prog 220 #[.slice A n c] w λr w'=>∃(B:Option Addr)(c':Nat)(rows:List WX),r=.returned (.tuple #[.slice B n c',.int .i64 (-(Qo 0 t))])/\rows.map (λx=>(x.n,x.l))=t.map (λx=>(x.n,x.l.map (scI (Qo 0 t))))/\Hp w (.row B n c' 215 1 (na WX.cells rows)::(rows.map WX.row).reverse) w':=by
 have hh:=Hp.start w;have hln:=hS.Fa LX.len U';refine da (N:=68) (l:=[.slice A n c]) func220 rfl rfl (by simp) ?_;refine fa ?_;refine Ra [4,6,8,18,19,20,21,22,23,24,25,26,27,28,29,30,31,32,33,34] 4 18 (λv4 v w'=>∃i:Nat,i<=n/\v=.int .i64 i/\v4=.int .i64 (Qo 0 (t.take i))/\Hp w [] w') (λ_ v _=>n-(intOf v).toNat) ?_ ?_
 .exact⟨0,D' _,rfl,rfl,hh⟩
 clear hh;rintro ρ' v4 v w' ⟨i,hi,rfl,rfl,hh⟩;by_cases hlt:i<n
 .obtain⟨x,hx⟩:=ea (l:=t) (k:=i) Z';have hmx:=G' hx;obtain⟨ad,rfl,hr⟩:=hS.at_ Z';have hxn:=ht.n x hmx;have hxl:=(ht.at_ x hmx).ln;refine fa ?_;refine ub ya.out rfl ((hr.ext hh.below).recAt LX.len hx 0 _ rfl) U' ?_;refine fa ?_;refine Ra [4,8,24,25,26,27,28,29,30,31,32,33] 4 24 (λv4 v w'=>∃j:Nat,j<=x.n/\v=.int .i64 j/\v4=.int .i64 (Wu (Qo 0 (t.take i)) (x.l.take j))/\Hp w [] w') (λ_ v _=>x.n-(intOf v).toNat) ?_ ?_
  .exact⟨0,D' _,rfl,rfl,hh⟩
  clear hh;rintro ρ2 v4 v w2 ⟨j,hj,rfl,rfl,hh⟩;by_cases hjl:j<x.n
  .obtain⟨a,ha⟩:=ea (l:=x.l) (k:=j) Z';obtain⟨ok,za⟩:=ht.num x hmx a (G' ha);obtain⟨ax,hAx,sx⟩:=(ht.at_ x hmx).at_ Z';have om:Value.slice x.A x.n x.c=.slice (some ax) x.n x.c:=by rw[hAx]
   have hf:=λw1 hT1=>Ed a w1 hT1 (by have:=ok.1;omega) (by have:=ok.2.1;omega) (by have:=ok.2.2;omega);have hst:=vO (Qo 0 (t.take i)) (x.l.take j) a;rw[<-oa ha] at hst;generalize Wu (Qo 0 (t.take i)) (x.l.take j)=lo at*;refine fa ?_;refine BL ?_;refine wb (vs:=[_,_,_]) ya.out rfl ((sx.ext hh.below).recAt NR.len ha) rfl U' ?_;refine Sb ?_;intro b8 w8 hh ws hh;refine Oa hh (hf _ (hT.hp hh)) rfl ?_;intro w30 hh;refine fa ?_;refine⟨⟨j+1,Z',rfl,by rw[hst];rfl,hh.sub (R9 _)⟩,by show x.n-(j+1)<x.n-j;omega, ?_⟩;exact Rc
  obtain rfl:j=x.n:=Z';rw[W_ (show x.l.length<=x.n by omega),<-TN,<-oa hx];refine fa ?_;refine⟨⟨i+1,Z',rfl,rfl,hh⟩,by show n-(i+1)<n-i;omega, ?_⟩;exact Rc
 obtain rfl:n=i:=Z';rw[W_ Z'];refine fa ?_;have hlb: -(100000:Int)<=Qo 0 t/\Qo 0 t<=0:=(by have:=Av (K:=K) t 0 (λx hx a ha=>(ht.num x hx a ha).2) Z';omega);generalize Qo 0 t=low at*;replace hh:=hh.Lb 215 1;refine Ra [9,11,12,14,15,37,38,39,40,41,42,43,44,45,46,47,48,49,50,51,52,53,54,55,56,57,58,59,60,61,62,63,64] 9 37 (λv9 v w'=>∃(i c9:Nat)(B:Option Addr)(rows:List WX)(R:List HE),i<=n/\v=.int .i64 i/\v9=.slice B i c9/\rows.map (λx=>(x.n,x.l))=(t.take i).map (λx=>(x.n,x.l.map (scI low)))/\R=(rows.map WX.row).reverse/\Hp w (.row B i c9 215 1 (na WX.cells rows)::R) w') (λ_ v _=>n-(intOf v).toNat) ?_ ?_
 .exact⟨0,0,none,[],[],D' _,rfl,rfl,rfl,rfl,hh⟩
 clear hh;rintro ρ' v9 v w' ⟨i,c9,B,rows,R,hi,rfl,rfl,hrw,hro,hh⟩;by_cases hlt:i<n
 .obtain⟨x,hx⟩:=ea (l:=t) (k:=i) Z';have hmx:=G' hx;obtain⟨ad,rfl,hr⟩:=hS.at_ Z';have hxn:=ht.n x hmx;have hxl:=(ht.at_ x hmx).ln;refine fa ?_;refine ub ya.out rfl ((hr.ext hh.below).recAt LX.len hx 0 _ rfl) U' ?_;refine fa ?_;replace hh:=hh.Lb 28 2;refine Ra [12,14,15,43,44,45,46,47,48,49,50,51,52,53,54,55,56,57,58,59] 12 43 (λv12 v w'=>∃(j c12:Nat)(E:Option Addr),j<=x.n/\v=.int .i64 j/\v12=.slice E j c12/\Hp w (.row E j c12 28 2 (na IR.cells ((x.l.take j).map (scI low)))::.row B i c9 215 1 (na WX.cells rows)::R) w') (λ_ v _=>x.n-(intOf v).toNat) ?_ ?_
  .exact⟨0,0,none,D' _,rfl,rfl,hh⟩
  clear hh;rintro ρ2 v12 v w2 ⟨j,c12,E,hj,rfl,rfl,hh⟩;by_cases hjl:j<x.n
  .obtain⟨a,ha⟩:=ea (l:=x.l) (k:=j) Z';obtain⟨ok,za⟩:=ht.num x hmx a (G' ha);obtain⟨ax,hAx,sx⟩:=(ht.at_ x hmx).at_ Z';have om:Value.slice x.A x.n x.c=.slice (some ax) x.n x.c:=by rw[hAx]
   have hf:=λw1 hT1=>Ed a w1 hT1 (by have:=ok.1;omega) (by have:=ok.2.1;omega) (by have:=ok.2.2;omega);obtain⟨n1,n2,n3⟩:=za.nr;have hsh:=λw1 hT1=>ni (nR a.ma).neg (nR a.ma).Qa ((nR a.ma).e-low) w1 hT1 Z' Z' Z';refine fa ?_;refine BL ?_;refine wb (vs:=[_,_,_]) ya.out rfl ((sx.ext hh.below).recAt NR.len ha) rfl U' ?_;refine Sb ?_;intro b14 w14 hh ws hh;refine Oa hh (hf _ (hT.hp hh)) rfl ?_;intro w48 hh;refine Sb ?_;intro b15 w15 hh ws hh;refine Oa hh (hsh _ (hT.hp hh)) rfl ?_;intro w56 hh;refine Sj ?_;intro b57 w57 hh;refine tF ?_;intro A58 c58 w58 hh;simp only[U_,F_] at hh;replace hh:=hh.sub (s_ _ _);refine fa ?_;replace hh:=hh.sub (p' _ (p' _ (I' _ (I' _ (A_ _)))));refine⟨⟨j+1,c58,A58,Z',rfl,rfl, ?_⟩,by show x.n-(j+1)<x.n-j;omega, ?_⟩
   .rw[oa ha,n_,La];exact hh
   exact Rc
  obtain rfl:j=x.n:=Z';rw[W_ (show x.l.length<=x.n by omega)] at hh;refine fa ?_;refine QG ?_;intro b62 w62 hh;refine Gx ?_;intro A63 c63 w63 hh;simp only[U_,F_] at hh;replace hh:=hh.sub (s_ _ _);refine fa ?_;replace hh:=hh.perm (P_ (l₁:=[_]));simp only[C',E'] at hh;refine⟨⟨i+1,c63,A63,rows++[⟨E,x.n,c12,x.l.map (scI low)⟩],WX.row ⟨E,x.n,c12,x.l.map (scI low)⟩::R,Z',rfl,rfl, ?_, ?_, ?_⟩,by show n-(i+1)<n-i;omega, ?_⟩
  .rw[n_,oa hx,n_,hrw];rfl
  .rw[n_,List.reverse_append,hro];rfl
  .rw[La];exact hh
  exact Rc
 obtain rfl:n=i:=Z';rw[W_ Z'] at hrw;refine fa ?_;exact⟨B,c9,rows,rfl,hrw,hro ▸ hh⟩
def IJ(A:Option Addr)(n c:Nat)(l:List WX)(g:FuncId)(cap:List Value)(p:WX->Bool)(w:World)(hS:Sl w A n 1 (na WX.cells l))(hn:n<=1000000)[ja prog g] (hg:∀(z:WX)(w1:World),z∈l->Below w.heap.size w w1->Calls prog g (.slice z.A z.n z.c::cap).toArray w1 λr w'=>r=.returned (.bool (p z))/\Below w1.heap.size w1 w'):Calls prog 269 #[.slice A n c,.func (.func g) #[] cap.toArray] w λr w'=>∃v:Int,r=.returned (.int .i64 v)/\((v= -1/\l.any p=false)\/∃(i:Nat)(x:WX),l[i]?=some x/\v=i/\p x=true/\(l.take i).any p=false)/\Below w.heap.size w w':=by
 have hh:=Hp.start w;have hln:=hS.Fa WX.len U';refine da (N:=19) (l:=[.slice A n c,.func (.func g) #[] cap.toArray]) func269 rfl rfl (by simp) ?_;refine fa ?_;refine Ba [4,5,8,9,10,11,12,13,14,15,16,17,18] 8 (λv w'=>∃i:Nat,i<=n/\v=.int .i64 i/\(l.take i).any p=false/\Hp w [] w') (λv _=>n-(intOf v).toNat) ?_ ?_
 .exact⟨0,D' _,rfl,rfl,hh⟩
 clear hh;rintro ρ' v w' ⟨i,hi,rfl,hall,hh⟩;by_cases hlt:i<n
 .obtain⟨z,hz⟩:=ea (l:=l) (k:=i) Z';obtain⟨ad,rfl,hr⟩:=hS.at_ Z';have hc:=λw1=>hg z w1 (G' hz)
  cases gz:p z with
  |true=>
   rw[gz] at hc;refine fa ?_;refine ub ya.out rfl ((hr.ext hh.below).recAt WX.len hz 0 _ rfl) U' ?_;refine uK ?_;rintro e_ w16 ⟨rfl,hb_⟩;refine⟨_,rfl, ?_⟩;replace hh:=hh.ext hb_;refine fa ?_;exact⟨_,rfl,.inr ⟨i,z,hz,rfl,gz,hall⟩,hh.below⟩
  |false=>
   rw[gz] at hc;refine fa ?_;refine ub ya.out rfl ((hr.ext hh.below).recAt WX.len hz 0 _ rfl) U' ?_;exact Dw
 rw[W_ Z'] at hall;refine fa ?_;exact⟨_,rfl,.inl ⟨rfl,hall⟩,hh.below⟩
def VH(x:WX)(k:Nat)(a:IR)(p:Addr)(w:World)(hp:w.cell? p=some (.int .i64 k))(hx:Sl w x.A x.n 2 (na IR.cells x.l))(ha:x.l[k]?=some a):Calls prog 270 #[.slice x.A x.n x.c,.pointer (some p)] w λr w'=>r=.returned (.bool (decide (a.v.sign≠0)))/\Below w.heap.size w w':=by
 have hh:=Hp.start w;have hln:=hx.Fa IR.len U';have hk:=(X_.1 ha).1;obtain⟨A,n,c,l⟩:=x;obtain⟨ad,rfl,hr⟩:=hx.at_ (by show 0<n;have:l.length=n:=hln;have:k<l.length:=hk;omega);have hln:l.length=n:=hln;have hk:k<l.length:=hk;have ha:l[k]?=some a:=ha;have hs:=λw1=>Ig a.neg a.Qa w1;rw[show iv a.neg a.Qa=a.v from rfl] at hs;by_cases h:a.v.sign=0
 .refine da (N:=10) (l:=[.slice (some ad) n c,.pointer (some p)]) func270 rfl rfl (by simp) ?_;refine fa ?_;refine wF ?_;refine fa ?_;refine wb (vs:=[_,_]) ya.out rfl ((hr.ext hh.below).recAt IR.len ha) rfl U' ?_;refine Oa hh (hs _) rfl ?_;intro w8 hh;rw[h];refine fa ?_;exact⟨by rw[O_ (λx=>x rfl)],hh.below⟩
 refine da (N:=10) (l:=[.slice (some ad) n c,.pointer (some p)]) func270 rfl rfl (by simp) ?_;refine fa ?_;refine wF ?_;refine fa ?_;refine wb (vs:=[_,_]) ya.out rfl ((hr.ext hh.below).recAt IR.len ha) rfl U' ?_;refine Oa hh (hs _) rfl ?_;intro w8 hh;generalize a.v.sign=g at*;exact uQ
def ZE(s:Bool)(a b:ByteArray)(w:World)(ha:a.size<=10000000)(hb:b.size<=10000000)(hb0:bN b≠0):Calls prog 227 #[.agg #[.bool s,.string a],.agg #[.bool true,.string b]] w λe w'=>∃x y,e=.returned (.tuple #[.agg #[.bool (iN (iv s a/iv true b)),.string (iM (iv s a/iv true b))],.agg #[.bool x,.string y],.bool true])/\Below w.heap.size w w':=by
 have hh:=Hp.start w;have hba:=Mf a;have hmod:bN a % bN b<bN b:=B_ _ Z';have hdm:bN b*(bN a/bN b)+bN a % bN b=bN a:=E9 _ _;have hdm':(bN b:Int)*((bN a/bN b:Nat):Int)+((bN a % bN b:Nat):Int)=(bN a:Int):=by rw[<-m9,<-F8,hdm]
 have hdv:=λw1=>Sr a b w1 Z' Z' hb0;generalize hq:bN a/bN b=q at*;generalize hr:bN a % bN b=r at*;have hqv:iv false (sN q)=(q:Int):=by unfold iv;rw[Ue,L' (by simp)]
 have eb:iv true b= -(bN b:Int):=by unfold iv;rw[J' rfl]
 rw[eb]
 cases s with
 |false=>
  have e3:iv false a=(bN a:Int):=by unfold iv;rw[L' (by simp)]
  have q1:iv false a / -(bN b:Int)= -(q:Int):=by rw[Int.ediv_neg,ml (iv false a) (bN b) q r (by rw[e3,<-hdm'];omega) Z' Z']
  rw[q1];have hng:=λw1=>Fg false (sN q) w1;have hfm:=λw1=>Oe (iN (-(q:Int))) (iM (-(q:Int))) w1;rw[hqv] at hng;rw[td] at hfm;refine da (N:=51) (l:=[.agg #[.bool false,.string a],.agg #[.bool true,.string b]]) func227 rfl rfl (by simp) ?_;refine SP ?_;intro b2 w2 hh b3 w3 hh b4 w4 hh b5 w5 hh;refine Oa hh (hdv _) rfl ?_;intro w14 hh;refine Sb ?_;intro ws hh ws hh;replace hh:=show Hp w (.blk b5 28 [.bool false,.string (sN r)] (0,0)::.blk b4 28 [.bool false,.string (sN q)] (0,0)::_) _ from hh;refine fa ?_;exact aaI
 |true=>
  have e3:iv true a= -(bN a:Int):=by unfold iv;rw[J' rfl]
  by_cases hr0:r=0
  .have hemp:sN r=ByteArray.mk #[]:=by rw[hr0,Vh]
   have q1:iv true a / -(bN b:Int)=(q:Int):=by rw[Int.ediv_neg,ml (iv true a) (bN b) (-(q:Int)) 0 (by rw[e3,<-hdm',hr0,m7];omega) Z' Z',Y6]
   rw[q1];have hfm:=λw1=>Oe false (sN q) w1;rw[hqv] at hfm;refine da (N:=51) (l:=[.agg #[.bool true,.string a],.agg #[.bool true,.string b]]) func227 rfl rfl (by simp) ?_;refine SP ?_;intro b2 w2 hh b3 w3 hh b4 w4 hh b5 w5 hh;refine Oa hh (hdv _) rfl ?_;intro w14 hh;refine Sb ?_;intro ws hh ws hh;replace hh:=show Hp w (.blk b5 28 [.bool false,.string (sN r)] (0,0)::.blk b4 28 [.bool false,.string (sN q)] (0,0)::_) _ from hh;refine fa ?_
   (first|refine vf rfl rfl (by first|rfl|assumption|decide) U' ?_|refine uf rfl rfl (by first|assumption|decide) U' ?_)
   refine fa ?_;refine Gj lb.out rfl rfl U' ?_;refine fa ?_;exact zW3
  have hemp:¬sN r=ByteArray.mk #[]:=λh=>hr0 (IB (h.trans Vh.symm));have q1:iv true a / -(bN b:Int)=(q:Int)+1:=by rw[Int.ediv_neg,ml (iv true a) (bN b) (-((q:Int)+1)) ((bN b:Int)-(r:Int)) (by rw[e3,<-hdm',m7,Int.mul_add];omega) Z' Z',Y6]
  rw[q1];have hqz:(sN q).size<=10000000:=by rw[lh,<-hq];have:=Dc (S9 (l8 (bN a) (bN b)) (Tb (bN a)));omega
  have hrz:(sN r).size<=10000000:=by rw[lh,<-hr];have:=Dc (S9 (Nat.mod_le (bN a) (bN b)) (Tb (bN a)));omega
  have e1:([IR.mk false (sN q),iR 1].map IR.v).sum=(q:Int)+1:=(by exact I0);have hof:=λw1=>sj 1 w1 U' U';have had:=λA w1 h1=>mm A 2 2 [IR.mk false (sN q),iR 1] w1 h1 U' (by intro x hx;obtain rfl|hx:=S_.1 hx;exact(show(sN q).size<=100000000 by omega);rw[T_.1 hx];exact(by decide+kernel));rw[e1] at had;have hsb:=λw1=>Kj false false b (sN r) w1 Z' Z';have hfm:=λw1=>Oe (iN ((q:Int)+1)) (iM ((q:Int)+1)) w1;rw[td] at hfm;refine da (N:=51) (l:=[.agg #[.bool true,.string a],.agg #[.bool true,.string b]]) func227 rfl rfl (by simp) ?_;refine SP ?_;intro b2 w2 hh b3 w3 hh b4 w4 hh b5 w5 hh;refine Oa hh (hdv _) rfl ?_;intro w14 hh;refine Sb ?_;intro ws hh ws hh;replace hh:=show Hp w (.blk b5 28 [.bool false,.string (sN r)] (0,0)::.blk b4 28 [.bool false,.string (sN q)] (0,0)::_) _ from hh;refine fa ?_
  (first|refine vf rfl rfl (by first|rfl|assumption|decide) U' ?_|refine uf rfl rfl (by first|assumption|decide) U' ?_)
  refine fa ?_;refine Ca 2 [[(4,none)],[]] [(1,33),(0,32)] hh mixed T' ?_;refine Vd 1 [_,_] ?_;refine dC (λ_ hj=>hof _) ?_;refine xa ?_;intro f W hJ hV;have hb_6:=hJ.bl;obtain⟨v33,v32,_⟩:=hV;replace hh:=hJ.hp;refine Da (Na (aa v33 (aa v32 Ea))) ?_;dsimp only[Bb];clear hJ;refine jE ?_;intro b34 w34 hh;refine Oa hh (had _ _ (hh.ra (i:=0) rfl)) rfl ?_;intro w35 hh;refine Jb ?_;intro ws hh;refine Oa hh (hsb _) rfl ?_;intro w40 hh;refine Jb ?_;intro ws hh;refine Gj lb.out rfl rfl U' ?_;refine fa ?_;exact zW9
variable {M:List (List Int)}{j:Nat}
def Bm(M:List (List Int))(i j:Nat):Int:=(M.getD i []).getD j 0
variable {last:Int}
def UD(last a p q r:Int):Int:=(a*p-q*r)/last
variable {b:Nat}
def Sh(M:List (List Int))(k i j:Nat)(last:Int):List (List Int):=M.mapIdx λa r=>if k<a/\a<=i then r.mapIdx λb x=>if k<b/\(a<i\/b<j) then UD last x (Bm M k k) (r.getD k 0) (Bm M k b) else x else r
def Dp(M:List (List Int))(k i:Nat):List (List Int):=(M.set k (M.getD i [])).set i (M.getD k [])
def Uy(M:List (List Int))(k:Nat):Option Nat:=(List.range M.length).find? λi=>decide (k<=i/\Bm M i k≠0)
def Uu:Nat->Nat->List (List Int)->Int->Bool->Int
 |0,_,_,last,t=>if t=true then -last else last
 |f+1,k,M,last,t=>match Uy M k with
  |none=>0
  |some i=>Uu f (k+1) (Sh (Dp M k i) k M.length 0 last) (Bm (Dp M k i) k k) (if i=k then t else !t)
def Lx(M:List (List Int)):Int:=Uu M.length 0 M 1 false
variable {n:Nat}
structure av(n b:Nat)(M:List (List Int)):Prop where
 ln:M.length=n
 row:∀r∈M,r.length=n
 sz:∀r∈M,∀x∈r,Sa x.natAbs<=b
def kv{a p q r:Int}(ha:Sa a.natAbs<=b)(hp:Sa p.natAbs<=b)(hq:Sa q.natAbs<=b)(hr:Sa r.natAbs<=b):Sa (UD last a p q r).natAbs<=2*b+1:=by
 unfold UD;have h1:=Tb a.natAbs;have h2:=Tb p.natAbs;have h3:=Tb q.natAbs;have h4:=Tb r.natAbs;have e:∀{x c:Nat},x<2^c->c<=b->x<2^b:=λh h'=>T9 h (m_ U' h');have m1:(a*p).natAbs<2^(2*b):=(by rw[U8,Nat.two_mul,D_];exact Nat.mul_lt_mul_of_lt_of_lt (e h1 ha) (e h2 hp));have m2:(q*r).natAbs<2^(2*b):=(by rw[U8,Nat.two_mul,D_];exact Nat.mul_lt_mul_of_lt_of_lt (e h3 hq) (e h4 hr));refine Dc ?_;refine S9 (y7 _ _) ?_;rw[i_];omega
def av.mono{c:Nat}(h:av n b M)(hb:b<=c):av n c M:=⟨h.ln,h.row,λr hr x hx=>N_ (h.sz r hr x hx) hb⟩
def av.get(h:av n b M){i:Nat}(hi:i<n):∃r,M[i]?=some r/\r.length=n/\M.getD i []=r:=by
 obtain⟨r,hr⟩:=ea (l:=M) (k:=i) (by rw[h.ln];exact hi);exact⟨r,hr,h.row r (G' hr),by rw[K9,hr];rfl⟩
def av.at_(h:av n b M){i:Nat}(hi:i<n)(hj:j<n):∃r,M[i]?=some r/\r.length=n/\r[j]?=some (Bm M i j)/\Sa (Bm M i j).natAbs<=b:=by
 obtain⟨r,h1,h2,h3⟩:=h.get hi;obtain⟨x,hx⟩:=ea (l:=r) (k:=j) Z';have e:Bm M i j=x:=(by unfold Bm;rw[h3,K9,hx];rfl);exact⟨r,h1,h2,by rw[e];exact hx,by rw[e];exact h.sz r (G' h1) x (G' hx)⟩
def av.swp{i:Nat}(h:av n b M)(hk:k<n)(hi:i<n):av n b (Dp M k i):=by
 obtain⟨r,h1,_,h3⟩:=h.get hk;obtain⟨q,g1,_,g3⟩:=h.get hi;unfold Dp;rw[h3,g3];have hm:∀x∈(M.set k q).set i r,x∈M:=λx hx=>by
  obtain hx|rfl:=J8 hx
  .obtain hx|rfl:=J8 hx
   .exact hx
   exact G' g1
  exact G' h1
 exact⟨by rw[U9,U9];exact h.ln,λx hx=>h.row x (hm x hx),λx hx=>h.sz x (hm x hx)⟩
def av.qh{i:Nat}(h:av n b M)(hk:k<n):av n (2*b+1) (Sh M k i j last):=by
 have hm:∀x∈Sh M k i j last,x.length=n/\∀y∈x,Sa y.natAbs<=2*b+1:=λx hx=>by
  unfold Sh at hx;obtain⟨a,ha,rfl⟩:=List.mem_mapIdx.1 hx;have hr:M[a]?=some M[a]:=D8 ha;have hl:=h.row _ (G' hr);have hs:=h.sz _ (G' hr);split
  .refine⟨by rw[Q7];exact hl,λy hy=> ?_⟩;obtain⟨c,hc,rfl⟩:=List.mem_mapIdx.1 hy;have hc2:c<n:=Z';obtain⟨_,_,_,_,z1⟩:=h.at_ hk hk;obtain⟨_,_,_,_,z2⟩:=h.at_ hk hc2;have z3:=hs _ (List.getElem_mem hc);have z4:Sa ((M[a]).getD k 0).natAbs<=b:=(by obtain⟨x,hx⟩:=ea (l:=M[a]) (k:=k) Z';rw[K9,hx];exact hs _ (G' hx));split
   .exact kv z3 z1 z4 z2
   omega
  exact⟨hl,λy hy=>by have:=hs y hy;omega⟩
 exact⟨by unfold Sh;rw[Q7];exact h.ln,λx hx=>(hm x hx).1,λx hx=>(hm x hx).2⟩
def jQ{N:List (List Int)}(h:∀i,k<=i->i<N.length->Bm N i k=0):Uy N k=none:=by
 unfold Uy;rw[L7];intro i hi;have:=g_.1 hi;rw[K_];exact λ⟨h1,h2⟩=>h2 (h i h1 this)
def jT{N:List (List Int)}(hk:k<=j)(hj:j<N.length)(h0:Bm N j k≠0)(h:∀i,k<=i->i<j->Bm N i k=0):Uy N k=some j:=by
 unfold Uy;rw[List.find?_range_eq_some];refine⟨M_ ⟨hk,h0⟩,g_.2 hj,λi hi=> ?_⟩;simp only[z7,I6];exact λ⟨h1,h2⟩=>h2 (h i h1 hi)
def KS{N:List (List Int)}{t:Bool}(hk:k<n)(h:Uy N k=none):Uu (n-k) k N last t=0:=by
 rw[show n-k=(n-k-1)+1 by omega,Uu,h]
def DT{N:List (List Int)}{t:Bool}(hk:k<n)(h:Uy N k=some j):Uu (n-k) k N last t=Uu (n-(k+1)) (k+1) (Sh (Dp N k j) k N.length 0 last) (Bm (Dp N k j) k k) (if j=k then t else !t):=by
 rw[show n-k=(n-(k+1))+1 by omega,Uu,h]
structure Uh(RR:List HE)(rows:List WX)(P:List Nat):Prop where
 ln:P.length=rows.length
 nd:∀i j p:Nat,P[i]?=some p->P[j]?=some p->i=j
 at_:∀(i:Nat)(x:WX)(p:Nat),rows[i]?=some x->P[i]?=some p->RR[p]?=some x.row
variable {α:Type}
def iC{l:List α}{a:Nat}{x y:α}(ha:l[a]?=some x)(hb:l[b]?=some y)(c:Nat):((l.set a y).set b x)[c]?=l[if c=b then a else if c=a then b else c]?:=by
 have h1:=(X_.1 ha).1;have h2:=(X_.1 hb).1;rw[F9,F9,U9];by_cases e1:c=b
 .subst e1;rw[J' rfl,J' rfl,J' h2,ha]
 rw[L' (λh=>e1 h.symm),L' e1];by_cases e2:c=a
 .subst e2;rw[J' rfl,J' rfl,J' h1,hb]
 rw[L' (λh=>e2 h.symm),L' e2]
variable {PS:List Nat}
def iO{RS:List HE}{rows:List WX}{P:List Nat}{N:List (List Int)}{xk x:WX}(hin:Uh RS rows PS)(hM:rows.map WX.l=N.map (List.map iR))(hrn:∀x∈rows,x.n=n)(hPS:∀q,q∈PS->q∈P)(hk:rows[k]?=some xk)(hx:rows[j]?=some x):∃PS2,((rows.set k x).set j xk).map WX.l=(Dp N k j).map (List.map iR)/\(∀y∈(rows.set k x).set j xk,y.n=n)/\Uh RS ((rows.set k x).set j xk) PS2/\∀q,q∈PS2->q∈P:=by
 have h1:=(X_.1 hk).1;have h2:=(X_.1 hx).1;obtain⟨p,hp⟩:=ea (l:=PS) (k:=k) (by rw[hin.ln];exact h1);obtain⟨q,hq⟩:=ea (l:=PS) (k:=j) (by rw[hin.ln];exact h2);have hs:∀c d:Nat,(if c=j then k else if c=k then j else c)=(if d=j then k else if d=k then j else d)->c=d:=λc d h=>(by split at h<;>split at h<;>(try split at h)<;>(try split at h)<;>omega);refine⟨(PS.set k q).set j p, ?_, ?_,⟨?_, ?_, ?_⟩, ?_⟩
 .have hN:∀(i:Nat)(y:WX),rows[i]?=some y->∃r:List Int,N[i]?=some r/\y.l=r.map iR:=λi y hy=>by
   have h3:(rows.map WX.l)[i]?=some y.l:=by rw[V_,hy];rfl
   rw[hM,V_] at h3
   cases hn:N[i]? with
   |none=>rw[hn] at h3;cases h3
   |some r=>rw[hn] at h3;exact⟨r,rfl,(L_ h3).symm⟩
  obtain⟨r1,g1,g2⟩:=hN k xk hk;obtain⟨r2,g3,g4⟩:=hN j x hx;unfold Dp;rw[K9,K9,g1,g3,Z8,Z8,Z8,Z8,hM,g2,g4];rfl
 .intro y hy;obtain hy|rfl:=J8 hy
  .obtain hy|rfl:=J8 hy
   .exact hrn y hy
   exact hrn _ (G' hx)
  exact hrn _ (G' hk)
 .rw[U9,U9,U9,U9];exact hin.ln
 .intro a b c ha hb;rw[iC hp hq] at ha hb;exact hs a b (hin.nd _ _ c ha hb)
 .intro i y c hy hc;rw[iC hk hx] at hy;rw[iC hp hq] at hc;exact hin.at_ _ y c hy hc
 intro y hy;obtain hy|rfl:=J8 hy
 .obtain hy|rfl:=J8 hy
  .exact hPS y hy
  exact hPS _ (G' hq)
 exact hPS _ (G' hp)
def ZO:Sh M k (k+1) 0 last=M:=by
 unfold Sh;refine V9 λa=> ?_;rw[Q9]
 cases M[a]? with
 |none=>rfl
 |some r=>
  refine J_ some ?_;split
  .refine V9 λb=> ?_;rw[Q9]
   cases r[b]? with
   |none=>rfl
   |some x=>refine J_ some (L' ?_);omega
  rfl
def tX{i:Nat}:Sh M k i 0 last=Sh M k i (k+1) last:=by
 unfold Sh;refine V9 λa=> ?_;rw[Q9,Q9]
 cases M[a]? with
 |none=>rfl
 |some r=>
  refine J_ some ?_;split
  .refine V9 λb=> ?_;rw[Q9,Q9]
   cases r[b]? with
   |none=>rfl
   |some x=>refine J_ some (ite_congr (propext ?_) (λ_=>rfl) λ_=>rfl);omega
  rfl
def ZY{i:Nat}(sq:av n b M):Sh M k i n last=Sh M k (i+1) 0 last:=by
 unfold Sh;refine V9 λa=> ?_;rw[Q9,Q9]
 cases hr:M[a]? with
 |none=>rfl
 |some r=>
  have hl:=sq.row r (G' hr);refine J_ some ?_;dsimp only;by_cases h1:k<a/\a<=i
  .rw[J' h1,J' Z'];refine V9 λb=> ?_;rw[Q9,Q9]
   cases hb:r[b]? with
   |none=>rfl
   |some x=>
    have:=(X_.1 hb).1;refine J_ some (ite_congr (propext ?_) (λ_=>rfl) λ_=>rfl);omega
  rw[L' h1];split
  .refine V9 λb=> ?_;rw[Q9]
   cases hb:r[b]? with
   |none=>rfl
   |some x=>refine J_ some (L' ?_).symm;omega
  rfl
def Fx{z i a:Nat}(sq:av n z M)(ha:a<n)(hb:b<n)(h:¬(k<a/\a<=i/\k<b/\(a<i\/b<j))):Bm (Sh M k i j last) a b=Bm M a b:=by
 obtain⟨r,h1,h2,h3,h4⟩:=sq.at_ ha hb;have e:(Sh M k i j last)[a]?=some (if k<a/\a<=i then r.mapIdx λb x=>if k<b/\(a<i\/b<j) then UD last x (Bm M k k) (r.getD k 0) (Bm M k b) else x else r):=(by unfold Sh;rw[Q9,h1];rfl);unfold Bm at h3 |-;rw[K9 (l:=Sh M k i j last),e,l9,K9];split
 .rename_i hc;rw[Q9,h3,M8,l9,L' Z']
 rw[h3];rfl
def HS{z i:Nat}{r:List Int}(sq:av n z M)(hk:k<i)(hi:i<n)(hkj:k<j)(hj:j<n)(hr:(Sh M k i j last)[i]?=some r):(Sh M k i j last).set i (r.set j (UD last (Bm M i j) (Bm M k k) (Bm M i k) (Bm M k j)))=Sh M k i (j+1) last:=by
 obtain⟨q,h1,h2,h3,_⟩:=sq.at_ hi hj;have hg:M.getD i []=q:=by rw[K9,h1];rfl
 have g:∀c,(Sh M k i c last)[i]?=some (q.mapIdx λb x=>if k<b/\b<c then UD last x (Bm M k k) (q.getD k 0) (Bm M k b) else x):=λc=>(by unfold Sh;rw[Q9,h1];refine J_ some ?_;dsimp only;rw[J' Z'];refine congrFun (J_ List.mapIdx ?_) q;funext b x;refine ite_congr (propext ?_) (λ_=>rfl) λ_=>rfl;omega);have hk:Bm M i k=q.getD k 0:=by unfold Bm;rw[hg]
 rw[g j] at hr;obtain rfl:=L_ hr;have hl:i<(Sh M k i j last).length:=by unfold Sh;rw[Q7,sq.ln];exact hi
 refine V9 λa=> ?_;rw[F9];by_cases ha:a=i
 .subst ha;rw[J' rfl,J' hl,g (j+1)];refine J_ some (V9 λb=> ?_);rw[F9,Q9,Q9,Q7];by_cases hb:b=j
  .subst hb;rw[J' rfl,J' Z',h3,hk];refine J_ some ?_;dsimp only;rw[J' Z']
  rw[L' (λh=>hb h.symm)]
  cases q[b]? with
  |none=>rfl
  |some x=>
   refine J_ some (ite_congr (propext ?_) (λ_=>rfl) λ_=>rfl);omega
 rw[L' (λh=>ha h.symm)];unfold Sh;rw[Q9,Q9]
 cases M[a]? with
 |none=>rfl
 |some r=>
  refine J_ some ?_;dsimp only;by_cases h5:k<a/\a<=i
  .rw[J' h5,J' h5];refine congrFun (J_ List.mapIdx ?_) r;funext b x;refine ite_congr (propext ?_) (λ_=>rfl) λ_=>rfl;omega
  rw[L' h5,L' h5]
def cH(s t:Bool)(a b:ByteArray)(w:World)(ha:a.size<=10000000)(hb:b.size<=10000000)(hb0:iv t b≠0):Calls prog 227 #[.agg #[.bool s,.string a],.agg #[.bool t,.string b]] w λe w'=>∃x y,e=.returned (.tuple #[.agg #[.bool (iN (iv s a/iv t b)),.string (iM (iv s a/iv t b))],.agg #[.bool x,.string y],.bool true])/\Below w.heap.size w w':=by
 have h0:bN b≠0:=λh=>hb0 (by unfold iv;rw[h];split<;>rfl)
 cases t with
 |false=>
  have:=Jy s a b w ha hb h0;rwa[show(bN b:Int)=iv false b by unfold iv;rw[L' (by simp)]] at this
 |true=>exact ZE s a b w ha hb h0
def rl{rows:List WX}{x:WX}(h:rows[k]?=some x):(na WX.cells rows)[k*1]?=some (.slice x.A x.n x.c):=by
 have:=J_ List.head? (zr WX.len h);rwa[List.head?_take,L' U',List.head?_drop] at this
def GX{N:List (List Int)}{i:Nat}(hk:k<N.length)(hi:i<N.length):Bm (Dp N k i) k j=Bm N i j:=by
 unfold Bm Dp;rw[K9 (l:=List.set _ _ _),F9,F9,U9,J' hi,J' rfl,J' hk];by_cases h:i=k
 .rw[J' h,h];rfl
 rw[L' h];rfl
variable {w0:World}
def Uh.at2{e1 e2 e3 e4:HE}{RS:List HE}{rows:List WX}{N:List (List Int)}{i:Nat}(h:Uh RS rows PS)(hh:Hp w0 (e1::e2::e3::e4::RS) w)(hM:rows.map WX.l=N.map (List.map iR))(hrn:∀x∈rows,x.n=n)(sq:av n b N)(hi:i<n):
  ∃(g c:Nat)(l:List IR)(p:Nat),rows[i]?=some ⟨some ⟨g,0,none⟩,n,c,l⟩/\PS[i]?=some p/\RS[p]?=some (.row (some ⟨g,0,none⟩) n c 28 2 (na IR.cells l))/\l.length=n/\∀j,j<n->l[j]?=some (iR (Bm N i j)):=by
 have hln:rows.length=n:=by rw[<-i' (f:=WX.l),hM,i'];exact sq.ln
 obtain⟨x,hx⟩:=ea (l:=rows) (k:=i) Z';obtain⟨p,hp⟩:=ea (l:=PS) (k:=i) (by rw[h.ln];omega);have hR:=h.at_ i x p hx hp;have hn:=hrn x (G' hx);obtain⟨A,m,c,l⟩:=x;obtain rfl:m=n:=hn;obtain⟨g,rfl⟩:=hh.Ob (i:=p+4) (show(e1::e2::e3::e4::RS)[p+4]?=some (.row A m c 28 2 (na IR.cells l)) from hR) Z';have h1:(rows.map WX.l)[i]?=some l:=by rw[V_,hx];rfl
 rw[hM,V_] at h1;obtain⟨r,hr,hrl,_⟩:=sq.get hi;rw[hr] at h1;obtain rfl:r.map iR=l:=L_ h1;refine⟨g,c,_,p,hx,hp,hR,by rw[i'];exact hrl,λj hj=> ?_⟩;obtain⟨r',g1,_,g3,_⟩:=sq.at_ hi hj;rw[hr] at g1;obtain rfl:=L_ g1;rw[V_,g3];rfl
def kz{l:List WX}{i:Nat}{x y:WX}(hx:l[i]?=some x)(h:y.cells=x.cells):na WX.cells (l.set i y)=na WX.cells l:=by
 unfold na;have:(l.set i y).map WX.cells=l.map WX.cells:=(by rw[Z8,h];exact Jn (by rw[V_,hx];rfl));rw[List.flatMap_def,List.flatMap_def,this]
variable {z:Int}
def Uh.sc{RS:List HE}{rows:List WX}{N N':List (List Int)}{i p:Nat}{A:Option Addr}{c:Nat}{l:List IR}(h:Uh RS rows PS)(hM:rows.map WX.l=N.map (List.map iR))(sq:av n b N)(hx:rows[i]?=some ⟨A,n,c,l⟩)(hp:PS[i]?=some p)(hN:∀{r:List Int},N[i]?=some r->N.set i (r.set j z)=N'):(rows.set i ⟨A,n,c,l.set j (iR z)⟩).map WX.l=N'.map (List.map iR)/\Uh (RS.set p (.row A n c 28 2 (na IR.cells (l.set j (iR z))))) (rows.set i ⟨A,n,c,l.set j (iR z)⟩) PS:=by
 have hpl:p<RS.length:=(X_.1 (h.at_ i _ p hx hp)).1;have hil:i<rows.length:=(X_.1 hx).1;constructor
 .have h1:(rows.map WX.l)[i]?=some l:=by rw[V_,hx];rfl
  rw[hM,V_] at h1;obtain⟨r,hr⟩:=ea (l:=N) (k:=i) (by rw[<-i' (f:=List.map iR),<-hM,i'];exact hil);rw[hr] at h1;obtain rfl:r.map iR=l:=L_ h1;rw[Z8,hM,<-hN hr,Z8,Z8]
 refine⟨by rw[U9];exact h.ln,h.nd,λa x q hx2 hq=> ?_⟩;rw[F9] at hx2;by_cases e:i=a
 .subst e;rw[J' rfl,J' hil] at hx2;obtain rfl:=L_ hx2;rw[hp] at hq;obtain rfl:=L_ hq;rw[F9,J' rfl,J' hpl];rfl
 rw[L' e] at hx2;rw[F9,L' (λe2=>e (h.nd i a p hp (by rw[e2];exact hq)))];exact h.at_ a x q hx2 hq
def CU(a b:Int):Xk ([iR a,iR b].map IR.v)=a*b:=by simp[Xk,fT]
def yU{a b:Int}(ha:Sa a.natAbs<=K)(hb:Sa b.natAbs<=K)(h:K<=8000000):([iR a,iR b].map λa=>a.Qa.size).sum<=100000000:=by
 have h1:(iR a).Qa.size=_:=Lc a;have h2:(iR b).Qa.size=_:=Lc b;simp[h1,h2];omega
def SU{a b:Int}(ha:Sa a.natAbs<=K)(hb:Sa b.natAbs<=K)(h:K<=8000000):(iM (a*b)).size<=100000000:=by
 have:=kv (last:=1) ha hb (show Sa (Int.natAbs 0)<=K from D' _) (show Sa (Int.natAbs 0)<=K from D' _);unfold UD at this;rw[Int.ediv_one,Int.zero_mul,Int.sub_zero] at this;rw[Lc];omega
def acB{a b c d:Int}(ha:Sa a.natAbs<=K)(hb:Sa b.natAbs<=K)(hc:Sa c.natAbs<=K)(hd:Sa d.natAbs<=K)(h:K<=8000000):(iM (a*b-c*d)).size<=10000000:=by
 have:=kv (last:=1) ha hb hc hd;unfold UD at this;rw[Int.ediv_one] at this;rw[Lc];omega
def Ml(z:Int)(v:Value)(_:World):Prop:=∃g:Bool×ByteArray,v=.tuple #[.agg #[.bool (iN z),.string (iM z)],.agg #[.bool g.1,.string g.2],.bool true]/\True
def Ml.ext(v:Value)(w w':World)(h:Ml z v w)(_:Below w.heap.size w w'):Ml z v w':=h
def vt(v:Value)(_:World):Prop:=∃g:Bool×ByteArray,v=.agg #[.bool g.1,.string g.2]/\True
def vt.ext(v:Value)(w w':World)(h:vt v w)(_:Below w.heap.size w w'):vt v w':=h
set_option maxHeartbeats 4000000 in
def Vy{RR:List HE}(B:Option Addr)(n c:Nat)(rows:List WX)(M:List (List Int))(P:List Nat)(K:Nat)(w:World)(hT:Sc w)(hh:Hp w0 (.row B n c 215 1 (na WX.cells rows)::RR) w)(hM:rows.map WX.l=M.map (List.map iR))(hrn:∀x∈rows,x.n=n)(hin:Uh RR rows P)(sq:av n K M)(hn:n<=4)(hK:K<=100000):Calls prog 221 #[.slice B n c] w λr w'=>r=.returned (.agg #[.bool (iN (Lx M)),.string (iM (Lx M))])/\∃(rows':List WX)(RR':List HE),Hp w0 (.row B n c 215 1 (na WX.cells rows')::RR') w'/\(∀q,q∉P->RR'[q]?=RR[q]?):=by
 have hln:rows.length=n:=(hh.ra (i:=0) rfl).Fa WX.len U';refine da (N:=120) (l:=[.slice B n c]) func221 rfl rfl (by simp) ?_;refine sr ?_;refine sw hh ?_;intro b2 w2 hh;refine ua (sr (mL (Vq (aI (ua (sr ?_))))));refine Oa hh (sj 1 _ U' U') rfl ?_;intro w13 hh;refine sw hh ?_;intro b4 w4 hh;refine rf hh 0 [_,_] ?_;intro ws hh;replace hh:Hp _ (.blk _ _ [_,_] _::_) _:=hh;refine aB (ua (mb (sr (mI (mI (ua (cg ?_)))))));refine Ra [5,6,7,8,9,10,15,16,17,18,19,20,21,22,23,24,25,26,27,28,29,30,31,32,33,34,35,36,37,38,39,40,41,42,43,44,45,46,47,48,49,50,51,52,53,54,55,56,57,58,59,60,61,62,63,64,65,66,67,68,69,70,71,72,73,74,75,76,77,78,79,80,81,82,83,84,85,86,87,88,89,90,91,92,93,94,95,96,97,98,99,100,101,102,103,104,105,106,107,108,109,110,111,112,113,114,115] 5 15 (λv5 v w'=>∃(k:Nat)(t:Bool)(N:List (List Int))(last:Int)(rows:List WX)(RS:List HE)(PS:List Nat),k<=n/\v=.int .i64 k/\v5=.bool t/\Uu (n-k) k N last t=Lx M/\rows.map WX.l=N.map (List.map iR)/\(∀x∈rows,x.n=n)/\Uh RS rows PS/\(∀q,q∈PS->q∈P)/\av n (2^k*(K+1)-1) N/\last≠0/\Sa last.natAbs<=2^k*(K+1)/\(∀q,q∉P->RS[q]?=RR[q]?)/\Hp w0 (.blk b4 28 [.bool (iN last),.string (iM last)] (0,0)::.blk b2 28 [.bool false,.string (ByteArray.mk #[])] (0,0)::.row B n c 215 1 (na WX.cells rows)::RS) w') (λ_ v _=>n-(intOf v).toNat) ?_ ?_
 .exact⟨0,false,M,1,rows,RR,P,D' _,rfl,rfl,by unfold Lx;rw[sq.ln];rfl,hM,hrn,hin,λ_ h=>h,sq.mono Z',U',N_ (show Sa (Int.natAbs 1)<=1 by decide+kernel) Z',λ_ _=>rfl,hh⟩
 clear hh hM hin;rintro ρ' v5 v w' ⟨k,t,N,last,rows,RS,PS,hk,rfl,rfl,hbar,hM,hrn,hin,hPS,sq,hl0,hlz,hfr,hh⟩;by_cases hlt:k<n
 .have hcap:=hh.me (i:=2) rfl;have hrl:rows.length=n:=(hh.ra (i:=2) rfl).Fa WX.len U';have hpn:PS.length=n:=by rw[hin.ln];exact hrl
  have hrow:∀(i:Nat)(x:WX),rows[i]?=some x->∃(p:Nat)(r:List Int),PS[i]?=some p/\RS[p]?=some x.row/\N[i]?=some r/\x.l=r.map iR:=λi x hx=>by
   obtain⟨p,hp⟩:=ea (l:=PS) (k:=i) (by have:=(X_.1 hx).1;omega);have h1:(rows.map WX.l)[i]?=some x.l:=by rw[V_,hx];rfl
   rw[hM,V_] at h1;obtain⟨r,hr⟩:=ea (l:=N) (k:=i) (by rw[sq.ln];have:=(X_.1 hx).1;omega);rw[hr] at h1;exact⟨p,r,hp,hin.at_ i x p hx hp,hr,(L_ h1).symm⟩
  obtain⟨gB,rfl⟩:=hh.Ob (i:=2) rfl Z';refine sr ?_;refine Bi (ua (mb (cT (Mc (wc (mb (cg (sr (mI ?_)))))))));refine sw hh ?_;intro b6 w6 hh;refine rf hh 0 [_] ?_;intro ws hh;replace hh:Hp _ (.blk _ _ [_] _::_) _:=hh;refine ua (sr (mL ?_));refine xm hh 0 ?_;refine Ia rfl rfl U' (Yf lb.out ya.size rfl rfl (l:=k) rfl Z' Z') ?_;refine Pu ?_;replace hh:=show Hp w0 (.blk b6 3 [.int .i64 k] (0,0)::_::_::.row (some ⟨gB,0,none⟩) n c 215 1 (na WX.cells rows)::_) ws from hh;have hcut:Sl ws (if c=k then(some ⟨gB,0,none⟩:Option Addr) else(some ⟨gB,0,none⟩:Option Addr).map (·.add (k*1))) (n-k) 1 (na WX.cells (rows.drop k)):=(by have:=(hh.ra (i:=3) rfl).back (l:=k) Z' hcap;rwa[show(na WX.cells rows).drop (k*1)=na WX.cells (rows.drop k) from ig WX.len rows k] at this);have hval:∀(i:Nat)(x:WX),rows[i]?=some x->(x.l.getD k ⟨false,ByteArray.mk #[]⟩).v=Bm N i k:=λi x hx=>(by obtain⟨p,r,h1,h2,h3,h4⟩:=hrow i x hx;obtain⟨r',g1,g2,g3,_⟩:=sq.at_ (i:=i) (j:=k) (by have:=(X_.1 hx).1;omega) hlt;rw[h3] at g1;obtain rfl:=L_ g1;rw[K9,h4,V_,g3];exact fT _);have hp6:=hh.eg (i:=0) (o:=0) rfl rfl;have hcl:∀(z:WX)(w1:World),z∈rows.drop k->Below ws.heap.size ws w1->Calls prog 270 #[.slice z.A z.n z.c,.pointer (some ⟨b6,0,none⟩)] w1 λr w'=>r=.returned (.bool (decide ((z.l.getD k ⟨false,ByteArray.mk #[]⟩).v.sign≠0)))/\Below w1.heap.size w1 w':=λz w1 hz hb=>by
   obtain⟨i,hi⟩:=j_.1 (l6 hz);obtain⟨p,r,h1,h2,h3,h4⟩:=hrow i z hi;have hrl:=sq.row r (G' h3);obtain⟨x,hx⟩:=ea (l:=r) (k:=k) Z';have ha:z.l[k]?=some (iR x):=by rw[h4,V_,hx];rfl
   rw[K9,ha];have hso:Sl ws z.A z.n 2 (na IR.cells z.l):=jf (hh.own z.row (W8 [_,_,_,_] (G' h2)));exact VH z k (iR x) _ w1 (ic hb hp6) (hso.ext hb) ha
  refine qa (IJ _ (n-k) (c-k) (rows.drop k) _ [.pointer (some ⟨b6,0,none⟩)] (λz=>decide ((z.l.getD k ⟨false,ByteArray.mk #[]⟩).v.sign≠0)) _ hcut Z' hcl) ja.out rfl U' ?_;rintro e_ w22 ⟨vi,rfl,hvi,hb_⟩;refine⟨_,rfl, ?_⟩;replace hh:=hh.ext hb_;clear hcl hcut;obtain⟨rfl,hno⟩|⟨i,x,hi,rfl,hpx,hfst⟩:=hvi
  .have hpn:Uy N k=none:=jQ λi h1 h2=>(by rw[sq.ln] at h2;obtain⟨x,hx⟩:=ea (l:=rows) (k:=i) Z';have h3:=(p9.1 hno) x (j_.2 ⟨i-k,by rw[H8,show k+(i-k)=i by omega];exact hx⟩);rw[hval i x hx] at h3;exact aaB);rw[KS hlt hpn] at hbar;refine aI (ua (mb (sr (mI ?_))));refine Bi (ua (cT (sr ?_)));refine NA [_,_] ?_;refine rf hh 2 [_,_] ?_;intro ws hh;replace hh:Hp _ (_::_::.blk _ _ [_,_] _::_) _:=hh;refine ua (Bn (Mz (FT (Mz (Mz (FT (Mz ?_)))))));refine dQ ?_;rw[<-hbar];exact⟨rfl,rows,RS,hh.sub (.cons _ (.cons _ (.cons _ (A_ _)))),hfr⟩
  have hki:k+i<n:=by have:=(X_.1 hi).1;rw[M9] at this;omega
  have hxi:rows[k+i]?=some x:=by rw[H8] at hi;exact hi
  obtain⟨xk,hxk⟩:=ea (l:=rows) (k:=k) Z';have hpiv:Uy N k=some (k+i):=by
   refine jT Z' (by rw[sq.ln];exact hki) (λh=> ?_) λj h1 h2=> ?_
   .rw[hval _ _ hxi] at hpx;exact B9 hpx (by rw[h];rfl)
   obtain⟨y,hy⟩:=ea (l:=rows) (k:=j) Z';have h3:=(p9.1 hfst) y (j_.2 ⟨j-k,by rw[Z7,J' Z',H8,show k+(j-k)=j by omega];exact hy⟩);rw[hval j y hy] at h3;exact aaB
  have hpv0:Bm N (k+i) k≠0:=λh=>(by rw[hval _ _ hxi] at hpx;exact B9 hpx (by rw[h];rfl));rw[DT hlt hpiv] at hbar;have hsw:=iO hin hM hrn hPS hxk hxi;clear hfst hpx hval;refine aI (ua (mb (sr (mI ?_))));refine Bi (ua (cF (Mc (wc ?_))));refine Gs [5,26,27,28,29,30,31,32,33,34,35,36,37,38,39,40,41,42,43,44,45,46,47] 5 (λv5 w'=>∃(rows2:List WX)(PS2:List Nat),v5=.bool (if k+i=k then t else !t)/\rows2.map WX.l=(Dp N k (k+i)).map (List.map iR)/\(∀x∈rows2,x.n=n)/\Uh RS rows2 PS2/\(∀q,q∈PS2->q∈P)/\Hp w0 (.blk b6 3 [.int .i64 k] (0,0)::.blk b4 28 [.bool (iN last),.string (iM last)] (0,0)::.blk b2 28 [.bool false,.string (ByteArray.mk #[])] (0,0)::.row (some ⟨gB,0,none⟩) n c 215 1 (na WX.cells rows2)::RS) w') ?_ ?_
  .obtain⟨PS2,hA,hB,hC,hD⟩:=hsw;by_cases hi0:0<i
   .have hrc:=ve WX.len rows;have hx1:(na WX.cells rows)[(k+i)*1]?=some (.slice x.A x.n x.c):=rl hxi;have hx2:(na WX.cells rows)[k*1]?=some (.slice xk.A xk.n xk.c):=rl hxk;have hfin:∀w',Hp w0 (.blk b6 3 [.int .i64 k] (0,0)::.blk b4 28 [.bool (iN last),.string (iM last)] (0,0)::.blk b2 28 [.bool false,.string (ByteArray.mk #[])] (0,0)::.row (some ⟨gB,0,none⟩) n c 215 1 (Hb (Hb (na WX.cells rows) (k*1) (WX.cells x)) ((k+i)*1) (WX.cells xk))::RS) w'->∃(rows2:List WX)(PS2:List Nat),Value.bool (!t)=.bool (if k+i=k then t else !t)/\rows2.map WX.l=(Dp N k (k+i)).map (List.map iR)/\(∀x∈rows2,x.n=n)/\Uh RS rows2 PS2/\(∀q,q∈PS2->q∈P)/\Hp w0 (.blk b6 3 [.int .i64 k] (0,0)::.blk b4 28 [.bool (iN last),.string (iM last)] (0,0)::.blk b2 28 [.bool false,.string (ByteArray.mk #[])] (0,0)::.row (some ⟨gB,0,none⟩) n c 215 1 (na WX.cells rows2)::RS) w':=λw' hh=>(by rw[de WX.len Z',de WX.len (by rw[U9];omega)] at hh;exact⟨_,PS2,by rw[L' Z'],hA,hB,hC,hD,hh⟩);clear hA hB hC hD;refine sr (mI ?_);refine qx (ua (cT (mb ?_)))
    refine jl [2,3,4,5] [0,0,0,0,0,24,0,0,0,384,960,1984,0,0,12288,28672,65475,131011,262143,524287] 16 [[(0,none)],[(6,none)],[(0,none)],[(6,none)],[(7,none)],[(31,some 3),(32,some 4)],[(0,none)],[(6,none)],[(7,none)],[(35,some 7),(36,some 8)],[(34,some 6),(37,some 9)],[(38,some 10)],[(0,none)],[(6,none)],[(40,some 12),(41,some 13)],[(42,some 14)]] [(15,43),(14,42),(13,41),(12,40),(11,39),(10,38),(9,37),(8,36),(7,35),(6,34),(5,33),(4,32),(3,31),(2,30),(1,29),(0,28)] [([],7,[(15,43),(14,42),(13,41),(12,40),(11,39),(10,38),(9,37),(8,36),(7,35),(6,34),(1,29),(0,28)]),([4],6,[(15,43),(14,42),(13,41),(12,40),(11,39),(10,38),(9,37),(8,36),(7,35),(6,34),(4,32),(1,29),(0,28)]),([3],6,[(15,43),(14,42),(13,41),(12,40),(11,39),(10,38),(9,37),(8,36),(7,35),(6,34),(3,31),(1,29),(0,28)]),([3,4],5,[(15,43),(14,42),(13,41),(12,40),(11,39),(10,38),(9,37),(8,36),(7,35),(6,34),(4,32),(3,31),(1,29),(0,28)]),([3,4,5],4,[(15,43),(14,42),(13,41),(12,40),(11,39),(10,38),(9,37),(8,36),(7,35),(6,34),(5,33),(4,32),(3,31),(1,29),(0,28)]),([2],6,[(15,43),(14,42),(13,41),(12,40),(11,39),(10,38),(9,37),(8,36),(7,35),(6,34),(2,30),(1,29),(0,28)]),([2,4],5,[(15,43),(14,42),(13,41),(12,40),(11,39),(10,38),(9,37),(8,36),(7,35),(6,34),(4,32),(2,30),(1,29),(0,28)]),([2,3],5,[(15,43),(14,42),(13,41),(12,40),(11,39),(10,38),(9,37),(8,36),(7,35),(6,34),(3,31),(2,30),(1,29),(0,28)]),([2,3,4],4,[(15,43),(14,42),(13,41),(12,40),(11,39),(10,38),(9,37),(8,36),(7,35),(6,34),(4,32),(3,31),(2,30),(1,29),(0,28)]),([2,3,4,5],3,[(15,43),(14,42),(13,41),(12,40),(11,39),(10,38),(9,37),(8,36),(7,35),(6,34),(5,33),(4,32),(3,31),(2,30),(1,29),(0,28)])] hh mixed T' T' U' ?_
    refine De ?_;refine xe 0 ?_;refine De ?_;refine xe 0 ?_;refine cd ?_;refine xt ?_;refine De ?_;refine xe 0 ?_;refine cd ?_;refine xt ?_;refine Kt ((k+i)) ?_;refine Ro (λ_ hj=>hj.hp.Zc (i:=3) rfl hx1) ?_;refine De ?_;refine xe 0 ?_;refine Kt (k) ?_;refine Ro (λ_ hj=>hj.hp.Zc (i:=3) rfl hx2) ?_;refine xa ?_;intro p_ hp_;simp only[S_,O9,or_false] at hp_;obtain rfl|rfl|rfl|rfl|rfl|rfl|rfl|rfl|rfl|rfl:=hp_
    .intro f W hJ hV;have hb_10:=hJ.bl;obtain⟨v43,v42,v41,v40,v39,v38,v37,v36,v35,v34,v29,v28,_⟩:=hV;simp only[Hf];have e28:f 0=_:=v28;rw[e28];have e29:f 1=_:=v29;rw[e29];have e34:f 6=_:=v34;rw[e34];have e35:f 7=_:=v35;rw[e35];have e36:f 8=_:=v36;rw[e36];have e37:f 9=_:=v37;rw[e37];have e38:f 10=_:=v38;rw[e38];have e39:f 11=_:=v39;rw[e39];have e40:f 12=_:=v40;rw[e40];have e41:f 13=_:=v41;rw[e41];have e42:f 14=_:=v42;rw[e42];have e43:f 15=_:=v43;rw[e43];replace hh:=hJ.hp;clear e28 e29 e34 e35 e36 e37 e38 e39 e40 e41 e42 e43 hJ;refine Um ?_;refine Yc ?_;refine Qb (i:=2) (by repeat (first|exact Cb|refine Xa ?_|refine Db ?_|refine np_scope ?_)) rfl T' T' T' (λ_=>Jc rfl) U' ?_;refine Qb (i:=4) (by repeat (first|exact Cb|refine Xa ?_|refine Db ?_|refine np_scope ?_)) rfl T' T' T' (λ_=>Jc rfl) U' ?_;refine GM ?_ ?_
     .refine xm hh 0 ?_;exact lE
     exact jL
    .intro f W hJ hV;have hb_10:=hJ.bl;obtain⟨v43,v42,v41,v40,v39,v38,v37,v36,v35,v34,v32,v29,v28,_⟩:=hV;simp only[Hf];have e28:f 0=_:=v28;rw[e28];have e29:f 1=_:=v29;rw[e29];have e32:f 4=_:=v32;rw[e32];have e34:f 6=_:=v34;rw[e34];have e35:f 7=_:=v35;rw[e35];have e36:f 8=_:=v36;rw[e36];have e37:f 9=_:=v37;rw[e37];have e38:f 10=_:=v38;rw[e38];have e39:f 11=_:=v39;rw[e39];have e40:f 12=_:=v40;rw[e40];have e41:f 13=_:=v41;rw[e41];have e42:f 14=_:=v42;rw[e42];have e43:f 15=_:=v43;rw[e43];replace hh:=hJ.hp;clear e28 e29 e32 e34 e35 e36 e37 e38 e39 e40 e41 e42 e43 hJ;refine Um ?_;refine Yc ?_;refine Qb (i:=2) (by repeat (first|exact Cb|refine Xa ?_|refine Db ?_|refine np_scope ?_)) rfl T' T' T' (λ_=>Jc rfl) U' ?_;refine GM ?_ ?_
     .refine xm hh 0 ?_;exact lE
     exact jL
    .intro f W hJ hV;have hb_10:=hJ.bl;obtain⟨v43,v42,v41,v40,v39,v38,v37,v36,v35,v34,v31,v29,v28,_⟩:=hV;simp only[Hf];have e28:f 0=_:=v28;rw[e28];have e29:f 1=_:=v29;rw[e29];have e31:f 3=_:=v31;rw[e31];have e34:f 6=_:=v34;rw[e34];have e35:f 7=_:=v35;rw[e35];have e36:f 8=_:=v36;rw[e36];have e37:f 9=_:=v37;rw[e37];have e38:f 10=_:=v38;rw[e38];have e39:f 11=_:=v39;rw[e39];have e40:f 12=_:=v40;rw[e40];have e41:f 13=_:=v41;rw[e41];have e42:f 14=_:=v42;rw[e42];have e43:f 15=_:=v43;rw[e43];replace hh:=hJ.hp;clear e28 e29 e31 e34 e35 e36 e37 e38 e39 e40 e41 e42 e43 hJ;refine Um ?_;refine Yc ?_;refine Qb (i:=2) (by repeat (first|exact Cb|refine Xa ?_|refine Db ?_|refine np_scope ?_)) rfl T' T' T' (λ_=>Jc rfl) U' ?_;refine Qb (i:=4) (by repeat (first|exact Cb|refine Xa ?_|refine Db ?_|refine np_scope ?_)) rfl T' T' T' (λ_=>Jc rfl) U' ?_;refine Qb (i:=5) (by repeat (first|exact Cb|refine Xa ?_|refine Db ?_|refine np_scope ?_)) rfl T' T' T' (λ_=>Ys rfl rfl Z' Z') U' ?_;refine aA ?_;exact jH
    .intro f W hJ hV;have hb_10:=hJ.bl;obtain⟨v43,v42,v41,v40,v39,v38,v37,v36,v35,v34,v32,v31,v29,v28,_⟩:=hV;simp only[Hf];have e28:f 0=_:=v28;rw[e28];have e29:f 1=_:=v29;rw[e29];have e31:f 3=_:=v31;rw[e31];have e32:f 4=_:=v32;rw[e32];have e34:f 6=_:=v34;rw[e34];have e35:f 7=_:=v35;rw[e35];have e36:f 8=_:=v36;rw[e36];have e37:f 9=_:=v37;rw[e37];have e38:f 10=_:=v38;rw[e38];have e39:f 11=_:=v39;rw[e39];have e40:f 12=_:=v40;rw[e40];have e41:f 13=_:=v41;rw[e41];have e42:f 14=_:=v42;rw[e42];have e43:f 15=_:=v43;rw[e43];replace hh:=hJ.hp;clear e28 e29 e31 e32 e34 e35 e36 e37 e38 e39 e40 e41 e42 e43 hJ;refine Um ?_;refine Yc ?_;refine Qb (i:=2) (by repeat (first|exact Cb|refine Xa ?_|refine Db ?_|refine np_scope ?_)) rfl T' T' T' (λ_=>Jc rfl) U' ?_;refine Qb (i:=5) (by repeat (first|exact Cb|refine Xa ?_|refine Db ?_|refine np_scope ?_)) rfl T' T' T' (λ_=>Ys rfl rfl Z' Z') U' ?_;refine aA ?_;exact jH
    .intro f W hJ hV;have hb_10:=hJ.bl;obtain⟨v43,v42,v41,v40,v39,v38,v37,v36,v35,v34,v33,v32,v31,v29,v28,_⟩:=hV;simp only[Hf];have e28:f 0=_:=v28;rw[e28];have e29:f 1=_:=v29;rw[e29];have e31:f 3=_:=v31;rw[e31];have e32:f 4=_:=v32;rw[e32];have e33:f 5=_:=v33;rw[e33];have e34:f 6=_:=v34;rw[e34];have e35:f 7=_:=v35;rw[e35];have e36:f 8=_:=v36;rw[e36];have e37:f 9=_:=v37;rw[e37];have e38:f 10=_:=v38;rw[e38];have e39:f 11=_:=v39;rw[e39];have e40:f 12=_:=v40;rw[e40];have e41:f 13=_:=v41;rw[e41];have e42:f 14=_:=v42;rw[e42];have e43:f 15=_:=v43;rw[e43];replace hh:=hJ.hp;clear e28 e29 e31 e32 e33 e34 e35 e36 e37 e38 e39 e40 e41 e42 e43 hJ;refine Um ?_;refine Yc ?_;refine Qb (i:=2) (by repeat (first|exact Cb|refine Xa ?_|refine Db ?_|refine np_scope ?_)) rfl T' T' T' (λ_=>Jc rfl) U' ?_;refine aA ?_;exact jH
    .intro f W hJ hV;have hb_10:=hJ.bl;obtain⟨v43,v42,v41,v40,v39,v38,v37,v36,v35,v34,v30,v29,v28,_⟩:=hV;simp only[Hf];have e28:f 0=_:=v28;rw[e28];have e29:f 1=_:=v29;rw[e29];have e30:f 2=_:=v30;rw[e30];have e34:f 6=_:=v34;rw[e34];have e35:f 7=_:=v35;rw[e35];have e36:f 8=_:=v36;rw[e36];have e37:f 9=_:=v37;rw[e37];have e38:f 10=_:=v38;rw[e38];have e39:f 11=_:=v39;rw[e39];have e40:f 12=_:=v40;rw[e40];have e41:f 13=_:=v41;rw[e41];have e42:f 14=_:=v42;rw[e42];have e43:f 15=_:=v43;rw[e43];replace hh:=hJ.hp;clear e28 e29 e30 e34 e35 e36 e37 e38 e39 e40 e41 e42 e43 hJ;refine Um ?_;refine Yc ?_;refine Qb (i:=4) (by repeat (first|exact Cb|refine Xa ?_|refine Db ?_|refine np_scope ?_)) rfl T' T' T' (λ_=>Jc rfl) U' ?_;refine GM ?_ ?_
     .refine xm hh 0 ?_;exact lE
     exact jL
    .intro f W hJ hV;have hb_10:=hJ.bl;obtain⟨v43,v42,v41,v40,v39,v38,v37,v36,v35,v34,v32,v30,v29,v28,_⟩:=hV;simp only[Hf];have e28:f 0=_:=v28;rw[e28];have e29:f 1=_:=v29;rw[e29];have e30:f 2=_:=v30;rw[e30];have e32:f 4=_:=v32;rw[e32];have e34:f 6=_:=v34;rw[e34];have e35:f 7=_:=v35;rw[e35];have e36:f 8=_:=v36;rw[e36];have e37:f 9=_:=v37;rw[e37];have e38:f 10=_:=v38;rw[e38];have e39:f 11=_:=v39;rw[e39];have e40:f 12=_:=v40;rw[e40];have e41:f 13=_:=v41;rw[e41];have e42:f 14=_:=v42;rw[e42];have e43:f 15=_:=v43;rw[e43];replace hh:=hJ.hp;clear e28 e29 e30 e32 e34 e35 e36 e37 e38 e39 e40 e41 e42 e43 hJ;refine Um ?_;refine Yc ?_;refine GM ?_ ?_
     .refine xm hh 0 ?_;exact lE
     exact jL
    .intro f W hJ hV;have hb_10:=hJ.bl;obtain⟨v43,v42,v41,v40,v39,v38,v37,v36,v35,v34,v31,v30,v29,v28,_⟩:=hV;simp only[Hf];have e28:f 0=_:=v28;rw[e28];have e29:f 1=_:=v29;rw[e29];have e30:f 2=_:=v30;rw[e30];have e31:f 3=_:=v31;rw[e31];have e34:f 6=_:=v34;rw[e34];have e35:f 7=_:=v35;rw[e35];have e36:f 8=_:=v36;rw[e36];have e37:f 9=_:=v37;rw[e37];have e38:f 10=_:=v38;rw[e38];have e39:f 11=_:=v39;rw[e39];have e40:f 12=_:=v40;rw[e40];have e41:f 13=_:=v41;rw[e41];have e42:f 14=_:=v42;rw[e42];have e43:f 15=_:=v43;rw[e43];replace hh:=hJ.hp;clear e28 e29 e30 e31 e34 e35 e36 e37 e38 e39 e40 e41 e42 e43 hJ;refine Um ?_;refine Yc ?_;refine Qb (i:=4) (by repeat (first|exact Cb|refine Xa ?_|refine Db ?_|refine np_scope ?_)) rfl T' T' T' (λ_=>Jc rfl) U' ?_;refine Qb (i:=5) (by repeat (first|exact Cb|refine Xa ?_|refine Db ?_|refine np_scope ?_)) rfl T' T' T' (λ_=>Ys rfl rfl Z' Z') U' ?_;refine aA ?_;exact jH
    .intro f W hJ hV;have hb_10:=hJ.bl;obtain⟨v43,v42,v41,v40,v39,v38,v37,v36,v35,v34,v32,v31,v30,v29,v28,_⟩:=hV;simp only[Hf];have e28:f 0=_:=v28;rw[e28];have e29:f 1=_:=v29;rw[e29];have e30:f 2=_:=v30;rw[e30];have e31:f 3=_:=v31;rw[e31];have e32:f 4=_:=v32;rw[e32];have e34:f 6=_:=v34;rw[e34];have e35:f 7=_:=v35;rw[e35];have e36:f 8=_:=v36;rw[e36];have e37:f 9=_:=v37;rw[e37];have e38:f 10=_:=v38;rw[e38];have e39:f 11=_:=v39;rw[e39];have e40:f 12=_:=v40;rw[e40];have e41:f 13=_:=v41;rw[e41];have e42:f 14=_:=v42;rw[e42];have e43:f 15=_:=v43;rw[e43];replace hh:=hJ.hp;clear e28 e29 e30 e31 e32 e34 e35 e36 e37 e38 e39 e40 e41 e42 e43 hJ;refine Um ?_;exact lE
    intro f W hJ hV;have hb_10:=hJ.bl;obtain⟨v43,v42,v41,v40,v39,v38,v37,v36,v35,v34,v33,v32,v31,v30,v29,v28,_⟩:=hV;simp only[Hf];have e28:f 0=_:=v28;rw[e28];have e29:f 1=_:=v29;rw[e29];have e30:f 2=_:=v30;rw[e30];have e31:f 3=_:=v31;rw[e31];have e32:f 4=_:=v32;rw[e32];have e33:f 5=_:=v33;rw[e33];have e34:f 6=_:=v34;rw[e34];have e35:f 7=_:=v35;rw[e35];have e36:f 8=_:=v36;rw[e36];have e37:f 9=_:=v37;rw[e37];have e38:f 10=_:=v38;rw[e38];have e39:f 11=_:=v39;rw[e39];have e40:f 12=_:=v40;rw[e40];have e41:f 13=_:=v41;rw[e41];have e42:f 14=_:=v42;rw[e42];have e43:f 15=_:=v43;rw[e43];replace hh:=hJ.hp;clear e28 e29 e30 e31 e32 e33 e34 e35 e36 e37 e38 e39 e40 e41 e42 e43 hJ;refine Um ?_;refine Yc ?_;refine aA ?_;exact jH
   obtain rfl:i=0:=Z';rw[q9] at hxi hA hB hC |-;obtain rfl:xk=x:=by rw[hxi] at hxk;exact(L_ hxk).symm
   rw[List.set_set,Jn hxk] at hA hB hC;refine sr (mI ?_);refine qx (ua (cF (Mc (wc ?_))));refine⟨⟨rows,PS2,by rw[J' rfl];rfl,hA,hB,hC,hD,hh⟩, ?_⟩;repeat refine Wc rfl ?_
   exact λ_ _=>rfl
  intro ρ2 v5 w1 ⟨rows2,PS2,hv5,hM2,hrn2,hin2,hPS2,hh⟩;subst hv5;have hpv:Bm (Dp N k (k+i)) k k≠0:=(by rw[GX (sq.ln ▸ hlt) (sq.ln ▸ hki)];exact hpv0);have sq2:=sq.swp (i:=k+i) hlt hki;have hN2:(Dp N k (k+i)).length=n:=sq2.ln;have hNl:N.length=n:=sq.ln;rw[hNl] at hbar;clear hsw hM hrn hin hPS hxi hxk hrow sq hpiv hpv0 hcap hrl hpn;generalize Dp N k (k+i)=N2 at*;generalize (if k+i=k then t else !t)=t2 at*;refine mb (sr ?_);refine xm hh 0 ?_;refine lj (aI (ua (cg ?_)));refine Ba [8,9,10,50,51,52,53,54,55,56,57,58,59,60,61,62,63,64,65,66,67,68,69,70,71,72,73,74,75,76,77,78,79,80,81,82,83,84,85,86,87,88,89,90,91,92,93,94,95,96,97,98,99,100,101,102,103,104,105,106,107] 8 (λv w'=>∃(i:Nat)(rows3:List WX)(RS3:List HE),k+1<=i/\i<=n/\v=.int .i64 i/\rows3.map WX.l=(Sh N2 k i 0 last).map (List.map iR)/\(∀x∈rows3,x.n=n)/\Uh RS3 rows3 PS2/\(∀q,q∉P->RS3[q]?=RR[q]?)/\Hp w0 (.blk b6 3 [.int .i64 k] (0,0)::.blk b4 28 [.bool (iN last),.string (iM last)] (0,0)::.blk b2 28 [.bool false,.string (ByteArray.mk #[])] (0,0)::.row (some ⟨gB,0,none⟩) n c 215 1 (na WX.cells rows3)::RS3) w') (λv _=>n-(intOf v).toNat) ?_ ?_
  .exact⟨k+1,rows2,RS,j' _,hlt,rfl,by rw[ZO];exact hM2,hrn2,hin2,hfr,hh⟩
  clear hh hM2 hrn2 hin2 hfr;rintro ρ3 v w3 ⟨i,rows3,RS3,hi1,hi2,rfl,hM3,hrn3,hin3,hfr3,hh⟩;by_cases hit:i<n
  .refine mb (sr (mI (mI ?_)));refine Bi (ua (cT (Mc (wc (mb (cg (sr ?_)))))));refine xm hh 0 ?_;refine lj (aI (ua (cg ?_)));refine Ba [9,10,57,58,59,60,61,62,63,64,65,66,67,68,69,70,71,72,73,74,75,76,77,78,79,80,81,82,83,84,85,86,87,88,89,90,91,92,93,94,95,96,97,98,99,100,101,102,103,104,105,106,107] 9 (λv w'=>∃(j:Nat)(rows4:List WX)(RS4:List HE),k+1<=j/\j<=n/\v=.int .i64 j/\rows4.map WX.l=(Sh N2 k i j last).map (List.map iR)/\(∀x∈rows4,x.n=n)/\Uh RS4 rows4 PS2/\(∀q,q∉P->RS4[q]?=RR[q]?)/\Hp w0 (.blk b6 3 [.int .i64 k] (0,0)::.blk b4 28 [.bool (iN last),.string (iM last)] (0,0)::.blk b2 28 [.bool false,.string (ByteArray.mk #[])] (0,0)::.row (some ⟨gB,0,none⟩) n c 215 1 (na WX.cells rows4)::RS4) w') (λv _=>n-(intOf v).toNat) ?_ ?_
   .exact⟨k+1,rows3,RS3,j' _,hlt,rfl,by rw[<-tX];exact hM3,hrn3,hin3,hfr3,hh⟩
   clear hh hM3 hrn3 hin3 hfr3;rintro ρ4 v w5 ⟨j,rows4,RS4,hj1,hj2,rfl,hM4,hrn4,hin4,hfr4,hh⟩;by_cases hjn:j<n
   .have sq4:=sq2.qh (i:=i) (j:=j) (last:=last) hlt;obtain⟨gx,cx,lx,px,hx,hpx,hRx,hlx,hvx⟩:=hin4.at2 hh hM4 hrn4 sq4 hit;obtain⟨gy,cy,ly,py,hy,hpy,hRy,hly,hvy⟩:=hin4.at2 hh hM4 hrn4 sq4 hlt;have e1:=hvx j hjn;have e2:=hvy k hlt;have e3:=hvx k hlt;have e4:=hvy j hjn;rw[Fx sq2 hit hjn Z'] at e1;rw[Fx sq2 hlt hlt Z'] at e2;rw[Fx sq2 hit hlt Z'] at e3;rw[Fx sq2 hlt hjn Z'] at e4;obtain⟨_,_,_,_,z1⟩:=sq2.at_ hit hjn;obtain⟨_,_,_,_,z2⟩:=sq2.at_ hlt hlt;obtain⟨_,_,_,_,z3⟩:=sq2.at_ hit hlt;obtain⟨_,_,_,_,z4⟩:=sq2.at_ hlt hjn;have hfin:=hin4.sc hM4 sq4 hx hpx (HS (last:=last) sq2 Z' hit hj1 hjn);have hPq:=hPS2 px (G' hpx);have hbar4:=kv (last:=last) z1 z2 z3 z4;unfold UD at hfin hbar4;have hk16:2^k*(K+1)<=1600016:=(by have:2^k<=2^4:=m_ U' Z';exact N_ (o9 this (show K+1<=100001 by omega)) U');generalize Bm N2 i j=a1 at*;generalize Bm N2 k k=a2 at*;generalize Bm N2 i k=a3 at*;generalize Bm N2 k j=a4 at*;have hmul1:=λA c w1 hS=>pq A 2 c [iR a1,iR a2] w1 hS U' (yU z1 z2 Z');have hmul2:=λA c w1 hS=>pq A 2 c [iR a3,iR a4] w1 hS U' (yU z3 z4 Z');rw[CU] at hmul1 hmul2;have hsub:=λw1=>Kj (iN (a1*a2)) (iN (a3*a4)) (iM (a1*a2)) (iM (a3*a4)) w1 (SU z1 z2 Z') (SU z3 z4 Z');rw[td,td] at hsub;have hdiv:=λw1=>cH (iN (a1*a2-a3*a4)) (iN last) (iM (a1*a2-a3*a4)) (iM last) w1 (acB z1 z2 z3 z4 Z') (by rw[Lc];omega) (by rw[td];exact hl0);rw[td,td] at hdiv;generalize (a1*a2-a3*a4)/last=z at*;have hx1:=rl hx;have hy1:=rl hy;refine mb (sr (mI (mI ?_)));refine Bi (ua (cT (Mc (wc (mb (cg (mb ?_)))))))
    refine Cd [33] [] [0,0,3,7,0,31,63,0,0,384,896,0,3968,8064,16383,32767,0,0,196608,458752,0,2031616,4128768,0,0,25165824,58720256,0,260046848,528482304,1073676288,2147483647,4294967295,0,17179869183] 34 [[(0,none)],[(8,none)],[(62,some 0),(63,some 1)],[(64,some 2)],[(9,none)],[(65,some 3),(66,some 4)],[(67,some 5)],[(0,none)],[(6,none)],[(69,some 7),(70,some 8)],[(71,some 9)],[(6,none)],[(72,some 10),(73,some 11)],[(74,some 12)],[(68,some 6),(75,some 13)],[(76,some 14)],[(0,none)],[(8,none)],[(78,some 16),(79,some 17)],[(80,some 18)],[(6,none)],[(81,some 19),(82,some 20)],[(83,some 21)],[(0,none)],[(6,none)],[(85,some 23),(86,some 24)],[(87,some 25)],[(9,none)],[(88,some 26),(89,some 27)],[(90,some 28)],[(84,some 22),(91,some 29)],[(92,some 30)],[(77,some 15),(93,some 31)],[]] [(33,10),(32,94),(31,93),(30,92),(29,91),(28,90),(27,89),(26,88),(25,87),(24,86),(23,85),(22,84),(21,83),(20,82),(19,81),(18,80),(17,79),(16,78),(15,77),(14,76),(13,75),(12,74),(11,73),(10,72),(9,71),(8,70),(7,69),(6,68),(5,67),(4,66),(3,65),(2,64),(1,63),(0,62)] hh mixed T' (xi rfl ya.out Pd) rfl (by repeat (first|exact Cb|refine Xa ?_|refine Db ?_)) ?_
    refine De ?_;refine cd ?_;refine Kt (i) ?_;refine Ro (λ_ hj=>hj.hp.Zc (i:=3) rfl hx1) ?_;refine cd ?_;refine Kt (j) ?_;refine Dn [_,_] (λ_ hj=>hj.hp.Gd (f:=IR.cells) (x:=iR a1) (l:=lx) (i:=px+4) hRx IR.len U' e1) ?_;refine De ?_;refine xe 0 ?_;refine Kt (k) ?_;refine Ro (λ_ hj=>hj.hp.Zc (i:=3) rfl hy1) ?_;refine xe 0 ?_;refine Kt (k) ?_;refine Dn [_,_] (λ_ hj=>hj.hp.Gd (f:=IR.cells) (x:=iR a2) (l:=ly) (i:=py+4) hRy IR.len U' e2) ?_;refine qq [_,_,_,_] ?_;refine Va (i:=15) (Is (.agg #[.bool (iN (a1*a2)),.string (iM (a1*a2))])) Is.ext ?_ ?_
    .intro ρ1 w1 hj hR;obtain⟨A76,c76,h76,s76⟩:=hR.1;exact Pb rfl (qb ja.out (Ga h76 Fb)) (hmul1 A76 c76 _ s76) (λ_ _ hq=>⟨_,hq.1,hq.2,rfl⟩)
    refine De ?_;refine cd ?_;refine Kt (i) ?_;refine Ro (λ_ hj=>hj.hp.Zc (i:=3) rfl hx1) ?_;refine xe 0 ?_;refine Kt (k) ?_;refine Dn [_,_] (λ_ hj=>hj.hp.Gd (f:=IR.cells) (x:=iR a3) (l:=lx) (i:=px+4) hRx IR.len U' e3) ?_;refine De ?_;refine xe 0 ?_;refine Kt (k) ?_;refine Ro (λ_ hj=>hj.hp.Zc (i:=3) rfl hy1) ?_;refine cd ?_;refine Kt (j) ?_;refine Dn [_,_] (λ_ hj=>hj.hp.Gd (f:=IR.cells) (x:=iR a4) (l:=ly) (i:=py+4) hRy IR.len U' e4) ?_;refine qq [_,_,_,_] ?_;refine Va (i:=31) (Is (.agg #[.bool (iN (a3*a4)),.string (iM (a3*a4))])) Is.ext ?_ ?_
    .intro ρ1 w1 hj hR;obtain⟨A92,c92,h92,s92⟩:=hR.1;exact Pb rfl (qb ja.out (Ga h92 Fb)) (hmul2 A92 c92 _ s92) (λ_ _ hq=>⟨_,hq.1,hq.2,rfl⟩)
    refine dC (λ_ hj=>hsub _) ?_;refine Va (i:=33) (Gc _ 28 _) Gc.ext (λρ1 w1 hj hR=>Ui ya.out hj.bl (λv w2 h hb=>⟨hb,h⟩)) ?_;refine xa ?_;intro f W hJ hV _;have hb_18:=hJ.bl;obtain⟨v10,v94,v93,v92,v91,v90,v89,v88,v87,v86,v85,v84,v83,v82,v81,v80,v79,v78,v77,v76,v75,v74,v73,v72,v71,v70,v69,v68,v67,v66,v65,v64,v63,v62,_⟩:=hV;obtain⟨A76,c76,e76,f76⟩:Rows _ _ _ (f 14) W:=v76;obtain⟨A92,c92,e92,f92⟩:Rows _ _ _ (f 30) W:=v92;obtain⟨b10,e10,hl10,hc10⟩:Gc _ _ _ (f 33) W:=v10;replace hh:=hJ.newVar hh hl10 hc10;refine Da (Na (aa e10 (aa v94 (aa v93 (aa e92 (aa v91 (aa v90 (aa v89 (aa v88 (aa v87 (aa v86 (aa v85 (aa v84 (aa v83 (aa v82 (aa v81 (aa v80 (aa v79 (aa v78 (aa v77 (aa e76 (aa v75 (aa v74 (aa v73 (aa v72 (aa v71 (aa v70 (aa v69 (aa v68 (aa v67 (aa v66 (aa v65 (aa v64 (aa v63 (aa v62 Ea))))))))))))))))))))))))))))))))))) ?_;dsimp only[Bb];clear e76 e92 e10 hJ;refine rf hh 0 [_,_] ?_;intro ws hh;replace hh:Hp _ (.blk _ _ [_,_] _::_) _:=hh;refine ua ?_
    refine Cd [] [10,11] [0,0,3,7,0,0,0,96,224,480,480,480,1023,5119] 12 [[(0,none)],[(8,none)],[(96,some 0),(97,some 1)],[(98,some 2)],[(9,none)],[(10,none)],[(4,none)],[(101,some 5),(102,some 6)],[(103,some 7)],[(95,some 8)],[(95,some 8)],[(95,some 8)]] [(11,106),(10,105),(9,104),(8,95),(7,103),(6,102),(5,101),(4,100),(3,99),(2,98),(1,97),(0,96)] hh mixed T' Pd rfl (by repeat (first|exact Cb|refine Xa ?_|refine Db ?_)) ?_;refine De ?_;refine cd ?_;refine Kt (i) ?_;refine Ro (λ_ hj=>hj.hp.Zc (i:=4) rfl hx1) ?_;refine cd ?_;refine Vd 0 [_,_] ?_;refine Vd 2 [_,_] ?_;refine Va (i:=7) (Ml z) (Ml.ext) ?_ ?_
    .intro ρ1 w1 hj hR;exact Pb rfl (qb ja.out (Ga (show ρ1 101=Value.agg (List.toArray _) from hR.1) (Ga (show ρ1 102=Value.agg (List.toArray _) from hR.2.1) Fb))) (hdiv w1) (λ_ _ ⟨x,y,hq,hb⟩=>⟨_,hq,hb,(x,y),rfl,trivial⟩)
    refine Va (i:=8) (Ml z) (Ml.ext) ?_ ?_
    .intro ρ1 w1 hj hR;obtain⟨g103,e103,o103⟩:=hR.1;exact Od rfl (Jc e103) ⟨Below.refl _ _,g103,rfl,o103⟩
    refine Va (i:=9) (Is (.agg #[.bool (iN z),.string (iM z)])) (Is.ext) ?_ ?_
    .exact ac9
    refine Va (i:=10) (vt) (vt.ext) ?_ ?_
    .intro ρ1 w1 hj hR;obtain⟨g95,e95,o95⟩:=hR.1;exact Od rfl (Ke (show _=Value.tuple (List.toArray _) from e95) rfl) ⟨Below.refl _ _,g95,rfl,trivial⟩
    refine Va (i:=11) (Is (.bool true)) (Is.ext) ?_ ?_
    .exact ac9
    refine xa ?_;intro f W hJ hV _;have hb_19:=hJ.bl;obtain⟨v106,v105,v104,v95,v103,v102,v101,v100,v99,v98,v97,v96,_⟩:=hV;obtain⟨g103,e103,o103⟩:Ml z (f 7) W:=v103;obtain⟨g95,e95,o95⟩:Ml z (f 8) W:=v95;obtain⟨g105,e105,o105⟩:vt (f 10) W:=v105;replace hh:=hJ.hp;refine Da (Na (aa v106 (aa e105 (aa v104 (aa e95 (aa e103 (aa v102 (aa v101 (aa v100 (aa v99 (aa v98 (aa v97 (aa v96 Ea))))))))))))) ?_;dsimp only[Bb];clear e103 e95 e105 hJ;refine Nd (k:=j) lb.out ya.size rfl rfl Z' Z' U' ?_;refine Ab hh (i:=px+5) (vs:=[_,_]) rfl hRx (Ld rfl) rfl ya.out rfl (by rw[ve IR.len,hlx];omega) rfl ?_;intro ws hh;replace hh:=show Hp w0 (_::_::_::_::_::RS4.set px (.row (some ⟨gx,0,none⟩) n cx 28 2 (Hb (na IR.cells lx) (j*2) (IR.cells (iR z))))) ws from hh;rw[de IR.len Z'] at hh;refine Gp (Tv (wc (Kb (mI ?_))));refine lj (aI (Gp (wc ?_)));replace hh:=hh.sub (p' _ (I' _ (I' _ (I' _ (I' _ (A_ _))))))
    refine⟨⟨j+1,rows4.set i ⟨some ⟨gx,0,none⟩,n,cx,lx.set j (iR z)⟩,RS4.set px (.row (some ⟨gx,0,none⟩) n cx 28 2 (na IR.cells (lx.set j (iR z)))),Z',Z',rfl,hfin.1, ?_,hfin.2, ?_, ?_⟩,by show n-(j+1)<n-j;omega, ?_⟩
    .intro u hu;obtain hu|rfl:=J8 hu
     .exact hrn4 u hu
     rfl
    .intro q hq;rw[List.getElem?_set_ne (λe:px=q=>hq (e ▸ hPq))];exact hfr4 q hq
    .rw[kz (y:=⟨some ⟨gx,0,none⟩,n,cx,lx.set j (iR z)⟩) hx rfl];exact hh
    exact Rc
   obtain rfl:n=j:=Z';rw[ZY sq2] at hM4;refine mb (sr (mI (mI ?_)));refine Bi (ua (cF (Ol (yi (yi (Lp (Tv (wc (Kb (mI ?_))))))))));refine lj (aI (Gp (wc ?_)));refine⟨⟨i+1,rows4,RS4,Z',Z',rfl,hM4,hrn4,hin4,hfr4,hh⟩,by show n-(i+1)<n-i;omega, ?_⟩;exact Rc
  obtain rfl:n=i:=Z';have sq3:=sq2.qh (i:=n) (j:=0) (last:=last) hlt;obtain⟨gy,cy,ly,py,hy,hpy,hRy,hly,hvy⟩:=hin3.at2 hh hM3 hrn3 sq3 hlt;have e2:=hvy k hlt;rw[Fx sq2 hlt hlt Z'] at e2;have hy1:=rl hy;refine mb (sr (mI (mI ?_)));refine Bi (ua (cF (Ol (yi (yi (Lp (wc ?_)))))));refine Cd [] [] [0,0,3,7,0,31,63,127] 5 [[(0,none)],[(6,none)],[(108,some 0),(109,some 1)],[(110,some 2)],[(6,none)]] [(4,112),(3,111),(2,110),(1,109),(0,108)] hh mixed T' Pd rfl (by repeat (first|exact Cb|refine Xa ?_|refine Db ?_)) ?_;refine De ?_;refine xe 0 ?_;refine Kt (k) ?_;refine Ro (λ_ hj=>hj.hp.Zc (i:=3) rfl hy1) ?_;refine xe 0 ?_;refine xa ?_;intro f W hJ hV _;have hb_20:=hJ.bl;obtain⟨v112,v111,v110,v109,v108,_⟩:=hV;replace hh:=hJ.hp;refine Da (Na (aa v112 (aa v111 (aa v110 (aa v109 (aa v108 Ea)))))) ?_;dsimp only[Bb];clear hJ;refine Um ?_;refine wb (vs:=[_,_]) ya.out rfl (hh.Gd (f:=IR.cells) (x:=iR (Bm N2 k k)) (l:=ly) (i:=py+4) hRy IR.len U' e2) rfl U' ?_;refine rf hh 1 [_,_] ?_;intro ws hh;replace hh:Hp _ (_::.blk _ _ [_,_] _::_) _:=hh;refine Gp (Tv (wc (Kb ?_)));refine lj (mI (Gp (wc ?_)))
  replace hh:=hh.sub (p' _ (I' _ (I' _ (I' _ (A_ _)))));obtain⟨_,_,_,_,z2⟩:=sq2.at_ hlt hlt;have hpw:2^(k+1)*(K+1)=2^k*(K+1)*2:=by rw[i_,Nat.mul_right_comm]
  have hp0:0<2^k*(K+1):=H7 (Nat.two_pow_pos k) (Nat.succ_pos K);refine⟨⟨k+1,t2,Sh N2 k n 0 last,Bm N2 k k,rows3,RS3,PS2,Z',rfl,rfl,hbar,hM3,hrn3,hin3,hPS2,sq3.mono Z',hpv,Z',hfr3,hh⟩,by show n-(k+1)<n-k;omega, ?_⟩;exact Rc
 obtain rfl:n=k:=Z';rw[f_,Uu] at hbar
 cases t with
 |true=>
  rw[J' rfl] at hbar;have hng:=λw1=>Fg (iN last) (iM last) w1;rw[td] at hng;refine sr ?_;refine Bi (ua (mb (cF (Ol (yi (yi (Lp (wc (mb (sr (mB (ua (cT (sr ?_))))))))))))));refine zl hh 0 [_,_] ?_;refine Oa hh (hng _) rfl ?_;intro w118 hh;refine rf hh 1 [_,_] ?_;intro ws hh;replace hh:Hp _ (_::.blk _ _ [_,_] _::_) _:=hh;refine ua (Bn (Mz ?_));exact adm
 |false=>
  rw[L' U'] at hbar;refine sr ?_;refine Bi (ua (mb (cF (Ol (yi (yi (Lp (wc (mb (sr (mB (ua (cF (Mc (wc (mb (Kb ?_)))))))))))))))));refine zl hh 0 [_,_] ?_;refine rf hh 1 [_,_] ?_;intro ws hh;replace hh:Hp _ (_::.blk _ _ [_,_] _::_) _:=hh;refine ua (Bn ?_);exact adm
variable {Hr:List HE}
def FJ(g n c a:Nat)(l:List NR)(w:World)(hh:Hp w0 (.row (some ⟨g,0,none⟩) n c 30 3 (na NR.cells l)::Hr) w)(hl:l.length=n)(ha:a<n)(hn:n<=1000):Calls prog 271 #[.slice (some ⟨g,0,none⟩) n c,.int .i64 a,.int .i64 ((a:Int)+1)] w λr w'=>r=.returned (.slice (some ⟨g,0,none⟩) (n-1) c)/\Hp w0 (.row (some ⟨g,0,none⟩) (n-1) c 30 3 (na NR.cells (l.eraseIdx a))::Hr) w':=by
 have hc:=hh.me (i:=0) rfl;refine da (N:=33) (l:=[.slice (some ⟨g,0,none⟩) n c,.int .i64 a,.int .i64 ((a:Int)+1)]) func271 rfl rfl (by simp) ?_;have hsl0:=λ(w1:World) (H1:Hp w0 (.row (some ⟨g,0,none⟩) n c 30 3 (na NR.cells l)::Hr) w1)=>H1.ra (i:=0) rfl;have her:na NR.cells (l.take a)++na NR.cells (l.drop (a+1))=na NR.cells (l.eraseIdx a):=(by rw[List.eraseIdx_eq_take_drop_succ,La]);refine fa ?_;refine aav ?_;refine fa ?_;refine E0 ?_;refine De ?_;refine cd ?_;refine sZ ?_;refine De ?_;refine cd ?_;refine EZ ?_;refine xa ?_;intro f W hJ hV;have hb_5:=hJ.bl;obtain⟨v25,v24,v23,v22,v21,v20,_⟩:=hV;replace hh:=hJ.hp;refine XK ?_;dsimp only[Bb];clear hJ;have hbk:=(hsl0 _ hh).back (l:=a+1) (c:=c) Z' hc;obtain⟨ad,had⟩:∃ad,(if c=a+1 then some (⟨g,0,none⟩:Addr) else(some (⟨g,0,none⟩:Addr)).map (·.add ((a+1)*3)))=some ad:=(by split<;>exact⟨_,rfl⟩);rw[had] at hbk |-;rw[ig NR.len] at hbk;have hlr:=ve NR.len (l.drop (a+1));rw[M9] at hlr;have hrd:∀j u,(na NR.cells (l.drop (a+1)))[j]?=some u->W.cell? (ad.add j)=some u:=λj u hu=>(by have hj:=(X_.1 hu).1;exact QZ);refine gp hh (i:=0) (a:=ad) (p:=a) (m:=n-(a+1)) rfl rfl rfl Z' Z' hbk.1 hrd (Ta NR.one _) lb.out ya.out U' ?_;intro w26 hh;simp only[U_] at hh;rw[Ih NR.len,her,show a+(n-(a+1))=n-1 by omega] at hh;rw[show a+(n-(a+1))=n-1 by omega];have hp31:(if c=n-1 then some (⟨g,0,none⟩:Addr) else(some (⟨g,0,none⟩:Addr)).map (·.add ((n-1)*3)))=some ⟨g,(n-1)*3,none⟩:=(by rw[L' Z'];show some ((⟨g,0,none⟩:Addr).add ((n-1)*3))=_;rw[qe,C_]);refine fa ?_;refine Ia rfl rfl U' (Ef (l:=n-1) (h:=n) lb.out ya.size rfl ⟨_,_,rfl,rfl⟩ ⟨_,_,rfl,rfl⟩ Z' Z') ?_;rw[hp31,show n-(n-1)=1 by omega];refine fm hh (i:=0) (o:=(n-1)*3) (m:=1) rfl rfl Z' Z' U' lb.out ya.out rfl rfl ?_;intro w32 hh;refine fa ?_;exact⟨rfl,hh⟩
def Uk(row col:Nat)(L:List (List NR)):List (List NR):=(L.eraseIdx row).map λl=>l.eraseIdx col
def xN{row col:Nat}{L:List (List NR)}{l:List NR}:Uk row col (L++[l])=if L.length=row then Uk row col L else Uk row col L++[l.eraseIdx col]:=by
 unfold Uk;by_cases h:L.length=row
 .rw[J' h,<-h,List.eraseIdx_append_of_length_le (j' _),f_,List.eraseIdx_of_length_le (j' _)];simp
 rw[L' h];by_cases h2:row<L.length
 .rw[List.eraseIdx_append_of_lt_length h2];simp
 rw[List.eraseIdx_of_length_le (l:=L++[l]) (by simp;omega),List.eraseIdx_of_length_le (l:=L) Z'];simp
def bz(A:Option Addr)(n c:Nat)(t:List LX)(row col:Nat)(w:World)(hT:Sc w)(hS:Sl w A n 1 (na LX.cells t))(ht:∀x∈t,x.at_ w)(hn:n<=1000)(hx:∀x∈t,x.n=n)(hc:col<n):Calls prog 222 #[.slice A n c,.int .i64 row,.int .i64 col] w λr w'=>∃(B:Option Addr)(c':Nat)(ys:List LX)(R:List HE),r=.returned (.slice B ys.length c')/\ys.map LX.l=Uk row col (t.map LX.l)/\(∀y∈ys,y.n=n-1/\.row y.A y.n y.c 30 3 (na NR.cells y.l)∈R)/\Hp w (.row B ys.length c' 37 1 (na LX.cells ys)::R) w':=by
 have hh:=Hp.start w;have hln:=hS.Fa LX.len U';refine da (N:=31) (l:=[.slice A n c,.int .i64 row,.int .i64 col]) func222 rfl rfl (by simp) ?_;refine fa ?_;replace hh:=hh.Lb 37 1;refine Ra [7,8,9,12,13,14,15,16,17,18,19,20,21,22,23,24,25,26,27,28,29] 7 12 (λv7 v w'=>∃(i c7:Nat)(B:Option Addr)(ys:List LX)(R:List HE),i<=n/\v=.int .i64 i/\v7=.slice B ys.length c7/\ys.length<=i/\ys.map LX.l=Uk row col ((t.map LX.l).take i)/\(∀y∈ys,y.n=n-1/\.row y.A y.n y.c 30 3 (na NR.cells y.l)∈R)/\Hp w (.row B ys.length c7 37 1 (na LX.cells ys)::R) w') (λ_ v _=>n-(intOf v).toNat) ?_ ?_
 .exact⟨0,0,none,[],[],D' _,rfl,rfl,j' _,by simp[Uk],λy h=>absurd h O9,hh⟩
 clear hh;rintro ρ' v7 v w' ⟨i,c7,B,ys,R,hi,rfl,rfl,hyl,hym,hyR,hh⟩;by_cases hlt:i<n
 .obtain⟨x,hxi⟩:=ea (l:=t) (k:=i) Z';have hmx:=G' hxi;obtain⟨ad,rfl,hr⟩:=hS.at_ Z';have hxn:=hx x hmx;have hxl:=(ht x hmx).ln;have hst:Uk row col ((t.map LX.l).take (i+1))=if i=row then Uk row col ((t.map LX.l).take i) else Uk row col ((t.map LX.l).take i)++[x.l.eraseIdx col]:=(by rw[oa (show(t.map LX.l)[i]?=some x.l by rw[V_,hxi];rfl),xN];rw[R_,i',C9 Z'])
  rw[<-hym] at hst;refine fa ?_;refine ub ya.out rfl ((hr.ext hh.below).recAt LX.len hxi 0 _ rfl) U' ?_;by_cases hir:i=row
  .rw[J' hir] at hst;refine fa ?_;refine⟨⟨i+1,c7,B,ys,R,Z',rfl,rfl,Z',hst.symm,hyR,hh⟩,by show n-(i+1)<n-i;omega, ?_⟩;exact Rc
  rw[L' hir] at hst;have hxa:=ht x hmx;obtain⟨xA,m,xc,xl⟩:=x;obtain rfl:m=n:=hxn;replace hxl:xl.length=m:=hxl;have hcl:=λw1 hb=>Ir xA m xc xl w1 (LX.at_.ext hxa hb) Z';refine fa ?_;refine qa (hcl _ hh.below) ja.out rfl U' ?_;rintro e_ w22 ⟨A22,c22,rfl,hown_,hb_⟩;refine⟨_,rfl, ?_⟩;replace hh:=hh.Aa (x:=.row _ _ _ _ _ _) hb_ hown_;obtain⟨g22,rfl⟩:=hh.Ob (i:=0) rfl Z';refine fa ?_;refine qa (FJ g22 m c22 col xl _ hh hxl hc hn) ja.out rfl U' ?_;rintro e_ w26 ⟨rfl,hh⟩;refine⟨_,rfl, ?_⟩;refine QG ?_;intro b27 w27 hh;refine Gx ?_;intro A28 c28 w28 hh;simp only[U_,F_] at hh;replace hh:=hh.sub (s_ _ _);refine fa ?_;replace hh:=hh.perm (P_ (l₁:=[_]));simp only[C',E'] at hh;refine⟨⟨i+1,c28,A28,ys++[⟨some ⟨g22,0,none⟩,m-1,c22,xl.eraseIdx col⟩],.row (some ⟨g22,0,none⟩) (m-1) c22 30 3 (na NR.cells (xl.eraseIdx col))::R,Z',rfl,by rw[Y_];rfl,by rw[Y_];show ys.length+1<=i+1;omega,by rw[hst,n_];rfl,λy hy=> ?_, ?_⟩,by show m-(i+1)<m-i;omega, ?_⟩
  .exact aeu
  .rw[Y_,La];exact hh
  exact Rc
 obtain rfl:n=i:=Z';rw[W_ (by rw[i'];omega)] at hym;refine fa ?_;exact⟨B,c7,ys,R,rfl,hym,hyR,hh⟩
def So(L:List (List NR)):Int:=L.foldl Wu 0
def Wy(L:List (List NR)):List (List Int):=L.map λl=>l.map λa=>Sy (nR a.ma).i ((nR a.ma).e-So L)
def Gm(L:List (List NR)):Dyadic:=Dyadic.ofIntWithPrec (Lx (Wy L)) (-(So L*L.length))
def MH(t:List LX):Qo 0 t=So (t.map LX.l):=by
 unfold Qo So;rw[List.foldl_map]
def nJ(rows:List WX)(X:List HE):Uh ((rows.map WX.row).reverse++X) rows ((List.range rows.length).map λi=>rows.length-1-i):=by
 have hP:∀i p:Nat,((List.range rows.length).map λi=>rows.length-1-i)[i]?=some p->i<rows.length/\p=rows.length-1-i:=λi p h=>by
  rw[V_] at h;by_cases hi:i<rows.length
  .rw[z9 hi] at h;exact⟨hi,(L_ h).symm⟩
  rw[t_ (by rw[u9];omega)] at h
  cases h
 refine⟨by simp,λi j p h1 h2=> ?_,λi x p hx h=> ?_⟩
 .have:=hP i p h1;have:=hP j p h2;omega
 obtain⟨h1,rfl⟩:=hP i p h;rw[X8 (by simp;omega),k8 (by simp;omega),i',show rows.length-1-(rows.length-1-i)=i by omega,V_,hx];rfl
def rQ(i m:Int):Sa (Sy i m).natAbs<=Sa i.natAbs+m.toNat:=by
 unfold Sy;refine Dc ?_;have h1:=Tb i.natAbs;split
 .rw[U8,D_];have:((2:Int)^m.toNat).natAbs=2^m.toNat:=by rw[X7];rfl
  rw[this];exact n8 h1 (Nat.two_pow_pos _)
 exact S9 (y7 _ _) (T9 h1 (m_ U' (Nat.le_add_right _ _)))
def lN{L:List (List NR)}(hl:L.length=n)(hr:∀l∈L,l.length=n)(hz:∀l∈L,∀a∈l,Sz K a.ma)(hlow: -(K:Int)<=So L):av n (4*K+7) (Wy L):=by
 refine⟨by unfold Wy;rw[i'];exact hl,λr hr2=> ?_,λr hr2 x hx=> ?_⟩
 .obtain⟨l,hl2,rfl⟩:=Z_.1 hr2;rw[i'];exact hr l hl2
 obtain⟨l,hl2,rfl⟩:=Z_.1 hr2;obtain⟨a,ha,rfl⟩:=Z_.1 hx;obtain⟨h1,h2,h3⟩:=(hz l hl2 a ha).nr;have h4:=rQ (nR a.ma).i ((nR a.ma).e-So L);have h5:=mh (nR a.ma).neg (nR a.ma).Qa;rw[show iv (nR a.ma).neg (nR a.ma).Qa=(nR a.ma).i from rfl] at h5;omega
def nM{n K:Nat}:∀(f k:Nat)(M:List (List Int))(last:Int)(t:Bool),f+k=n->av n (2^k*(K+1)-1) M->Sa last.natAbs<=2^k*(K+1)->Sa (Uu f k M last t).natAbs<=2^n*(K+1)
 |0,k,M,last,t,hn,_,hl=>by
  obtain rfl:k=n:=Z';rw[Uu];split
  .rw[Int.natAbs_neg];exact hl
  exact hl
 |f+1,k,M,last,t,hn,sq,hl=>by
  rw[Uu]
  cases h:Uy M k with
  |none=>exact D' _
  |some i=>
   have h1:=B6 h;have h2:=g_.1 (List.mem_of_find?_eq_some h);rw[sq.ln] at h2;have sq2:=sq.swp (k:=k) (i:=i) Z' h2;have hpw:2^(k+1)*(K+1)=2^k*(K+1)*2:=by rw[i_,Nat.mul_right_comm]
   have hp0:0<2^k*(K+1):=H7 (Nat.two_pow_pos k) (Nat.succ_pos K);obtain⟨_,_,_,_,z⟩:=sq2.at_ (i:=k) (j:=k) Z' Z';exact nM f (k+1) _ _ _ Z' ((sq2.qh Z').mono Z') Z'
def GK(sq:av n K M):Sa (Lx M).natAbs<=2^n*(K+1):=by
 unfold Lx;rw[sq.ln];exact nM n 0 M 1 false rfl (sq.mono Z') (N_ (show Sa (Int.natAbs 1)<=1 by decide+kernel) Z')
def pB(A:Option Addr)(n c K:Nat)(t:List LX)(w:World)(hT:Sc w)(hS:Sl w A n 1 (na LX.cells t))(ht:yH K t w)(hn:n<=4)(hx:∀x∈t,x.n=n)(hK:K<=10000):Calls prog 143 #[.slice A n c] w λr w'=>r=.returned (.tuple #[.agg #[.bool (nR (Gm (t.map LX.l))).neg,.string (nR (Gm (t.map LX.l))).Qa,.int .i64 (nR (Gm (t.map LX.l))).e],.int .i64 0])/\Below w.heap.size w w':=by
 have hh:=Hp.start w;have hln:=hS.Fa LX.len U';have hck:=λw1 hS1=>Tq A n c t w1 hS1 Z';rw[show ZN t=0 by
  unfold ZN;rw[L'];rintro (h|h)
  .omega
  obtain⟨x,hx1,hx2⟩:=k9.1 h;exact B9 hx2 (by rw[hx x hx1,hln])] at hck
 have hlow:=Av (K:=K) t 0 (λx hx a ha=>(ht.num x hx a ha).2) Z';rw[MH] at hlow;have hsq:av n (4*K+7) (Wy (t.map LX.l)):=by
  refine lN (by rw[i'];exact hln) (λl hl=> ?_) (λl hl a ha=> ?_) hlow.1
  .obtain⟨x,h1,rfl⟩:=Z_.1 hl;rw[<-hx x h1];exact(ht.at_ x h1).ln
  obtain⟨x,h1,rfl⟩:=Z_.1 hl;exact(ht.num x h1 a ha).2
 refine da (N:=26) (l:=[.slice A n c]) func143 rfl rfl (by simp) ?_;refine Jb ?_;intro b2 w2 hh;refine Oa hh (hck _ (hS.ext hh.below)) rfl ?_;intro w8 hh;refine fa ?_;refine qa (gD A n c K t _ (hT.hp hh) (hS.ext hh.below) (ht.ext hh.below) Z' Z') ja.out rfl U' ?_;rintro e_ w15 ⟨B,c',rows,rfl,hrw,h3⟩;refine⟨_,rfl, ?_⟩;replace hh:=hh.join h3;clear h3;simp only[C'] at hh;rw[MH] at hrw |-;have hrl:rows.length=n:=(by have:=J_ List.length hrw;rw[i',i'] at this;omega);have hM:rows.map WX.l=(Wy (t.map LX.l)).map (List.map iR):=(by have:=J_ (List.map Prod.snd) hrw;rw[Z9,Z9] at this;unfold Wy;rw[Z9,Z9];refine this.trans (y8 λx hx=> ?_);show x.l.map _=(x.l.map _).map _;rw[Z9];rfl);have hrn:∀x∈rows,x.n=n:=λx hx1=>(by have h1:(x.n,x.l)∈rows.map λx=>(x.n,x.l):=Z_.2 ⟨x,hx1,rfl⟩;rw[hrw] at h1;obtain⟨y,hy,e⟩:=Z_.1 h1;exact(J_ Prod.fst e).symm.trans (hx y hy));have hbar:=λw1 hT1 hh1=>Vy (w0:=w) (RR:=(rows.map WX.row).reverse++[.blk b2 30 [.bool false,.string (ByteArray.mk #[]),.int .i64 0] (0,0)]) B n c' rows _ _ (4*K+7) w1 hT1 hh1 hM hrn (nJ rows _) hsq hn Z';have hmk:=λw1 hT1=>Bf (iN (Lx (Wy (t.map LX.l)))) (iM (Lx (Wy (t.map LX.l)))) (So (t.map LX.l)*(n:Int)) w1 hT1;rw[td] at hmk;refine fa ?_;refine qa (hbar _ (hT.hp hh) hh) ja.out rfl U' ?_;rintro e_ w19 ⟨rfl,rows',RR',hh,hfr⟩;refine⟨_,rfl, ?_⟩;have hb2:HE.blk b2 30 [.bool false,.string (ByteArray.mk #[]),.int .i64 0] (0,0)∈RR':=(by refine G' (i:=rows.length) ?_;rw[hfr rows.length λh=>by obtain⟨i,hi,e⟩:=Z_.1 h;have:=g_.1 hi;omega,I9 (by simp)];simp);replace hh:=hh.sub (List.singleton_sublist.2 (F' _ hb2));have hbz:=GK hsq;have h16:2^n*(4*K+7+1)<=16*(4*K+7+1):=N9 _ (m_ (n:=2) U' hn);have hl1: -(40000:Int)<=So (t.map LX.l)*(n:Int):=(by refine Int.le_trans ?_ (Int.mul_le_mul_of_nonneg_right (show -(10000:Int)<=_ by omega) (l7 n));omega);have hl2:So (t.map LX.l)*(n:Int)<=0:=Int.mul_nonpos_of_nonpos_of_nonneg Z' (l7 n);replace hmk:=λw1 hT1=>hmk w1 hT1 (by rw[Lc];omega) Z' Z';rw[show Dyadic.ofIntWithPrec (Lx (Wy (t.map LX.l))) (-(So (t.map LX.l)*(n:Int)))=Gm (t.map LX.l) by unfold Gm;rw[i',hln]] at hmk;generalize Gm (t.map LX.l)=D at*;generalize So (t.map LX.l)=lo at*;refine fa ?_;rw[Y6];refine fa ?_;refine Oa hh (hmk _ (hT.hp hh)) rfl ?_;intro w25 hh;exact aas
def abp{L:List (List NR)}(hz:∀l∈L,∀a∈l,Sz K a.ma): -(K:Int)<=So L/\So L<=0:=by
 have:=Av (K:=K) (L.map λl=>⟨none,0,0,l⟩) 0 (λx hx a ha=>by
  obtain⟨l,hl,rfl⟩:=Z_.1 hx;exact hz l hl a ha) Z'
 rw[MH,Z9] at this;rwa[show L.map (LX.l ∘ λl=>⟨none,0,0,l⟩)=L from List.map_id L] at this
def abb{L:List (List NR)}(hl:L.length=n)(hn:n<=2)(hr:∀l∈L,l.length=n)(hz:∀l∈L,∀a∈l,Sz K a.ma):Sz (16*K+32) (Gm L):=by
 obtain⟨h1,h2⟩:=abp hz;have hb:=GK (lN hl hr hz h1);have h16:2^n*(4*K+7+1)<=4*(4*K+7+1):=N9 _ (m_ (n:=2) U' hn);have hl1: -(2*(K:Int))<=So L*(n:Int):=(by refine Int.le_trans ?_ (Int.mul_le_mul_of_nonneg_right h1 (l7 n));rw[Int.neg_mul,q6 (K:Int)];exact Int.neg_le_neg (Int.mul_le_mul_of_nonneg_right Z' (l7 K)));have hl2:So L*(n:Int)<=0:=Int.mul_nonpos_of_nonpos_of_nonneg h2 (l7 n);unfold Gm;rw[hl];generalize So L*(n:Int)=e at*;generalize Lx (Wy L)=z at*;refine⟨z*2^(16*(K:Int)+32+e).toNat,Bg _ Z', ?_⟩;rw[U8,show((2:Int)^(16*(K:Int)+32+e).toNat).natAbs=2^(16*(K:Int)+32+e).toNat by rw[X7];rfl];have h3:=Tb z.natAbs;refine T9 (n8 h3 (Nat.two_pow_pos _)) ?_;rw[<-D_];exact m_ U' Z'
def kO(L:List (List NR))(i k:Nat):Dyadic:=if((i:Int)+k) % 2=1 then -Gm (Uk k i L) else Gm (Uk k i L)
def iP(L:List (List NR))(n i:Nat):List NR:=(List.range n).map λk=>nR (kO L i k)
def fy(L:List (List NR))(n:Nat):List (List NR):=(List.range n).map λi=>iP L n i
def Mp(f:Nat->α)(k:Nat):(List.range (k+1)).map f=(List.range k).map f++[f k]:=by
 rw[P8,n_];rfl
def gN{L:List (List NR)}{row col:Nat}(hl:L.length=n)(hr:∀l∈L,l.length=n)(h1:row<n)(h2:col<n):(Uk row col L).length=n-1/\∀l∈Uk row col L,l.length=n-1/\∃q∈L,∀a∈l,a∈q:=by
 unfold Uk;refine⟨by rw[i',List.length_eraseIdx,J' Z',hl],λl h=> ?_⟩;obtain⟨q,hq,rfl⟩:=Z_.1 h;have hq2:=List.mem_of_mem_eraseIdx hq;exact⟨by rw[List.length_eraseIdx,hr q hq2,J' h2],q,hq2,λa ha=>List.mem_of_mem_eraseIdx ha⟩
def wI{L:List (List NR)}{i:Nat}(hl:L.length=n)(hn:n<=3)(hr:∀l∈L,l.length=n)(hz:∀l∈L,∀a∈l,Sz K a.ma)(hi:i<n)(hk:k<n):Sz (16*K+32) (Gm (Uk k i L))/\Sz (16*K+32) (kO L i k):=by
 obtain⟨h1,h2⟩:=gN hl hr hk hi;have:=abb (K:=K) h1 Z' (λl hl=>(h2 l hl).1) λl hl a ha=>(by obtain⟨_,q,hq,h⟩:=h2 l hl;exact hz q hq a (h a ha));refine⟨this, ?_⟩;unfold kO;split
 .exact this.neg
 exact this
def gO(A:Option Addr)(n c K:Nat)(t:List LX)(w:World)(hT:Sc w)(hS:Sl w A n 1 (na LX.cells t))(ht:yH K t w)(hn:n<=3)(hx:∀x∈t,x.n=n)(hK:K<=10000):Calls prog 144 #[.slice A n c] w λr w'=>∃(B:Option Addr)(c':Nat)(ys:List LX)(R:List HE),r=.returned (.tuple #[.slice B n c',.int .i64 0])/\ys.map LX.l=fy (t.map LX.l) n/\(∀y∈ys,y.n=n/\.row y.A y.n y.c 30 3 (na NR.cells y.l)∈R)/\Hp w (.row B n c' 37 1 (na LX.cells ys)::R) w':=by
 have hh:=Hp.start w;have hln:=hS.Fa LX.len U';have hck:=λw1 hS1=>Tq A n c t w1 hS1 Z';rw[show ZN t=0 by
  unfold ZN;rw[L'];rintro (h|h)
  .omega
  obtain⟨x,hx1,hx2⟩:=k9.1 h;exact B9 hx2 (by rw[hx x hx1,hln])] at hck
 obtain⟨L,hL⟩:∃L,L=t.map LX.l:=⟨_,rfl⟩;have hLn:L.length=n:=by rw[hL,i'];exact hln
 have hLr:∀l∈L,l.length=n:=λl hl=>(by rw[hL] at hl;obtain⟨x,h1,rfl⟩:=Z_.1 hl;rw[<-hx x h1];exact(ht.at_ x h1).ln);have hLz:∀l∈L,∀a∈l,a.ok/\Sz K a.ma:=λl hl a ha=>(by rw[hL] at hl;obtain⟨x,h1,rfl⟩:=Z_.1 hl;exact ht.num x h1 a ha);rw[<-hL];refine da (N:=52) (l:=[.slice A n c]) func144 rfl rfl (by simp) ?_;refine fa ?_;refine Oa hh (hck _ (hS.ext hh.below)) rfl ?_;intro w12 hh;refine fa ?_;replace hh:=hh.Lb 37 1;refine Ra [5,6,7,8,9,10,18,19,20,21,22,23,24,25,26,27,28,29,30,31,32,33,34,35,36,37,38,39,40,41,42,43,44,45,46,47,48,49,50] 5 18 (λv5 v w'=>∃(i c5:Nat)(B:Option Addr)(ys:List LX)(R:List HE),i<=n/\v=.int .i64 i/\v5=.slice B i c5/\ys.map LX.l=(List.range i).map (iP L n)/\(∀y∈ys,y.n=n/\.row y.A y.n y.c 30 3 (na NR.cells y.l)∈R)/\Hp w (.row B i c5 37 1 (na LX.cells ys)::R) w') (λ_ v _=>n-(intOf v).toNat) ?_ ?_
 .exact abv
 clear hh;rintro ρ' v5 v w' ⟨i,c5,B,ys,R,hi,rfl,rfl,hym,hyR,hh⟩;by_cases hlt:i<n
 .refine fa ?_;replace hh:=hh.Lb 30 3;refine Ra [7,8,9,10,23,24,25,26,27,28,29,30,31,32,33,34,35,36,37,38,39,40,41,42,43,44,45] 7 23 (λv7 v w'=>∃(k c7:Nat)(E:Option Addr),k<=n/\v=.int .i64 k/\v7=.slice E k c7/\Hp w (.row E k c7 30 3 (na NR.cells ((List.range k).map λk=>nR (kO L i k)))::.row B i c5 37 1 (na LX.cells ys)::R) w') (λ_ v _=>n-(intOf v).toNat) ?_ ?_
  .exact⟨0,0,none,D' _,rfl,rfl,hh⟩
  clear hh;rintro ρ2 v7 v w2 ⟨k,c7,E,hk,rfl,rfl,hh⟩;by_cases hkn:k<n
  .obtain⟨m1,m2⟩:=gN hLn hLr hkn hlt;obtain⟨z1,z2⟩:=wI hLn Z' hLr (λl hl a ha=>(hLz l hl a ha).2) hlt hkn;have hst:=Mp (λk=>nR (kO L i k)) k;have hng:=λw1 hT1=>Hi (nR (Gm (Uk k i L))) w1 hT1 (by have:=z1.nr;omega) (by have:=z1.nr;omega) (by have:=z1.nr;omega);rw[Za] at hng;have hco:kO L i k=if((i:Int)+k) % 2=1 then -Gm (Uk k i L) else Gm (Uk k i L):=rfl
   refine fa ?_;refine qa (bz A n c t k i _ (hT.hp hh) (hS.ext hh.below) (λx hx1=>(ht.at_ x hx1).ext hh.below) Z' hx hlt) ja.out rfl U' ?_;rintro e_ w30 ⟨D,c30,zs,R2,rfl,hzm,hzR,h3⟩;refine⟨_,rfl, ?_⟩;rw[<-hL] at hzm;replace hh:=hh.ext h3.below;have hzl:zs.length=n-1:=by rw[<-m1,<-hzm,i']
   have hdt:=λw1 hT1 hS1 hk1=>pB D zs.length c30 K zs w1 hT1 hS1 hk1 Z' (λx hx1=>by rw[(hzR x hx1).1,hzl]) hK;rw[hzm] at hdt;have htk:yH K zs w30:=⟨λx hx1=>jf (h3.own _ (F' _ (hzR x hx1).2)),λx hx1=>by rw[(hzR x hx1).1];omega,λx hx1 a ha=>by
    obtain⟨_,q,hq,h⟩:=m2 x.l (by rw[<-hzm];exact a6 hx1);exact hLz q hq a (h a ha)⟩
   have hzs:=h3.ra (i:=0) rfl;generalize Gm (Uk k i L)=dt at*;refine Oa hh (hdt _ (hT.hp hh) hzs htk) rfl ?_;intro w31 hh;by_cases hodd:((i:Int)+k) % 2=1
   .rw[J' hodd] at hco;refine Sb ?_;intro b9 w9 hh ws hh;refine iS rfl rfl U' ?_;refine fa ?_;refine Oa hh (hng _ (hT.hp hh)) rfl ?_;intro w40 hh;refine Jb ?_;intro ws hh;exact zZ
   rw[L' hodd] at hco;refine Sb ?_;intro b9 w9 hh ws hh;refine iS rfl rfl U' ?_;refine fa ?_;exact zZ
  obtain rfl:n=k:=Z';refine fa ?_;refine QG ?_;intro b48 w48 hh;refine Gx ?_;intro A49 c49 w49 hh;simp only[U_,F_] at hh;replace hh:=hh.sub (s_ _ _);refine fa ?_;replace hh:=hh.perm (P_ (l₁:=[_]));simp only[C',E'] at hh;refine⟨⟨i+1,c49,A49,ys++[⟨E,n,c7,iP L n i⟩],.row E n c7 30 3 (na NR.cells (iP L n i))::R,Z',rfl,rfl,by rw[n_,hym,Mp];rfl,λy hy=> ?_,by rw[La];exact hh⟩,by show n-(i+1)<n-i;omega, ?_⟩
  .exact aeu
  exact Rc
 obtain rfl:n=i:=Z';refine fa ?_;exact⟨B,c5,ys,R,rfl,hym,hyR,hh⟩
variable {o:Nat}
structure dV(E:Value->HE)(g o:Nat):Prop where
 ld:∀{w0 w:World}{Hr:List HE}{v:Value},Hp w0 (E v::Hr) w->w.cell? ⟨g,o,none⟩=some v
 st:∀{ro:Mode}{P:Program}{N:Nat}{ops:Array Oper}{Q:Kq}{ρ:Rf}{w w0:World}{rest:List Oper}{Hr:List HE}{ty:TypeId}{pos:String}{af:Array Edge}{t:TypeId}{x y:Operand}{by':Nat}{ag:Bool}{zc:List Value}{v v':Value},
  Hp w0 (E v::Hr) w->ev ρ x=.pointer (some ⟨g,o,none⟩)->ev ρ y=v'->v'.cells= #[v']->Dd P t=some (1,ag,by',zc)->v'.oneCell'=true->
  (∀w',Hp w0 (E v'::Hr) w'->WL ro P N ops Q rest ρ w')->WL ro P N ops Q (⟨none,.store t x y,ty,pos,af,none⟩::rest) ρ w
variable {m:Nat}
def Zc{g c i:Nat}{t:TypeId}{xs:List Value}(hi:i<xs.length):dV (λv=>.row (some ⟨g,0,none⟩) m c t 1 (xs.set i v)) g (i*1):=by
 refine⟨λ{w0 w Hr v} hh=> ?_,λ{ro P N ops Q ρ w w0 rest Hr ty pos af t' x y by' ag zc v v'} hh hx hy hc ht h1 k=> ?_⟩
 .exact hh.Zc (i:=0) (o:=i*1) rfl (by rw[I_];exact List.getElem?_set_self hi)
 refine Ab hh (i:=0) (vs:=[v']) hx rfl hy hc ht rfl (by rw[U9];omega) (by simp[h1]) λw' hh'=>k w' ?_;have e:Hb (xs.set i v) (i*1) [v']=xs.set i v':=(by rw[I_,jc (by rw[U9];exact hi),List.set_set]);rw[e] at hh';exact hh'
def tS(w:World)(a:Addr):Nat:=match w.cell? a with|some v=>lenOf v|none=>0
def rA(x:Dyadic)(m:Nat):List NR:=(List.range m).map λi=>nR (x^i)
def XT{x:Dyadic}{i:Nat}(h:i<m):(rA x m)[i]?=some (nR (x^i)):=by
 unfold rA;rw[V_,z9 h];rfl
def HG(x:Dyadic)(m:Nat):rA x (m+1)=rA x m++[nR (x^m)]:=by unfold rA;rw[P8,n_];rfl
def KI{E:Value->HE}{g:Nat}(hE:dV E g o)(x:NR)(n m:Nat)(A:Option Addr)(c k:Nat)(w:World)(hT:Sc w0)(hh:Hp w0 (E (.slice A m c)::.row A m c 30 3 (na NR.cells (rA x.ma m))::Hr) w)(hn:n<=127)(hm:m<=1000)(hx:x.ok/\Sz k x.ma)(hk:k<=1000):Calls prog 84 #[.pointer (some ⟨g,o,none⟩),.agg #[.bool x.neg,.string x.Qa,.int .i64 x.e],.int .i64 n] w λr w'=>r=.returned (.agg #[.bool (nR (x.ma^n)).neg,.string (nR (x.ma^n)).Qa,.int .i64 (nR (x.ma^n)).e])/\∃(A':Option Addr)(m' c':Nat),m'<=1000/\Hp w0 (E (.slice A' m' c')::.row A' m' c' 30 3 (na NR.cells (rA x.ma m'))::Hr) w':=by
 refine da (N:=61) (l:=[.pointer (some ⟨g,o,none⟩),.agg #[.bool x.neg,.string x.Qa,.int .i64 x.e],.int .i64 n]) func84 rfl rfl (by simp) ?_;refine Sb ?_;intro b4 w4 hh b6 w6 hh;refine ub ya.out rfl (hE.ld (hh.sub (.cons _ (.cons _ (A_ _))))) U' ?_;have hpow:∀q,q<=127->Sz 128000 (x.ma^q):=λq hq=>(by have h1:=hx.2.pow q;exact h1.mono (by have:=o9 hk hq;omega));by_cases h0:m=0
 .subst h0;refine fa ?_;refine Cd [] [0] [0,0,2,6,14,0,32,126,255,511,1023] 7 [[(0,none)],[(0,none)],[(14,some 1)],[(15,some 2)],[(16,some 3)],[],[(18,some 5)]] [(6,19),(5,18),(4,17),(3,16),(2,15),(1,14),(0,13)] hh mixed T' Pd rfl (by repeat (first|exact Cb|refine Xa ?_|refine Db ?_)) ?_;refine dmP ?_;refine dmP ?_;refine dnc ?_;refine ru ?_;refine pK ?_;refine dC (λ_ hj=>Tk 1 _ (hT.hp hj.hp) U' U') ?_;refine qq [_,_,_] ?_;refine xa ?_;intro f W hJ hV _;have hb_2:=hJ.bl;obtain⟨v19,v18,v17,v16,v15,v14,v13,_⟩:=hV;obtain⟨A19,c19,e19,f19⟩:Rows _ _ _ (f 6) W:=v19;replace hh:=hJ.hp;refine Da (Na (aa e19 (aa v18 (aa v17 (aa v16 (aa v15 (aa v14 (aa v13 Ea)))))))) ?_;dsimp only[Bb];clear e19 hJ;refine Gb hh (i:=3) rfl rfl rfl (f19) lb.out ya.out rfl U' (by first|rfl|exact Xb _|exact Nb _|exact Pa _|exact Ta NR.one _) Z' Z' U' ?_;intro A20 c20 w20 hh;simp only[U_,F_] at hh;refine fa ?_;replace hh:=hh.perm (P_ (l₁:=[_,_]));simp only[C',E'] at hh;refine hE.st (v':=.slice A20 (0+1) c20) hh rfl rfl rfl ya.out rfl ?_;intro ws hh
  replace hh:=hh.perm (P_ (l₁:=[_,_]));simp only[C',E'] at hh;replace hh:=hh.perm (P_ (l₁:=[_,_]));simp only[C',E'] at hh;refine fa ?_;have e0:na NR.cells (rA x.ma 0)++[.bool (nR ((1:Int):Dyadic)).neg,.string (nR ((1:Int):Dyadic)).Qa,.int .i64 (nR ((1:Int):Dyadic)).e]=na NR.cells (rA x.ma (0+1)):=by rw[HG,La,Lj,p7];rfl
  rw[e0] at hh;refine sy zL5 (λw'=>∃(m:Nat)(A:Option Addr)(c:Nat),0<m/\m<=1000/\Hp w0 (.blk b6 30 [.bool false,.string (ByteArray.mk #[]),.int .i64 0] (0,0)::.blk b4 30 [.bool x.neg,.string x.Qa,.int .i64 x.e] (0,0)::E (.slice A m c)::.row A m c 30 3 (na NR.cells (rA x.ma m))::Hr) w') (λw'=>n+1-tS w' ⟨g,o,none⟩) ?_ ?_
  .exact⟨0+1,_,_,U',U',hh⟩
  exact aat
 refine fa ?_;refine sy zL5 (λw'=>∃(m:Nat)(A:Option Addr)(c:Nat),0<m/\m<=1000/\Hp w0 (.blk b6 30 [.bool false,.string (ByteArray.mk #[]),.int .i64 0] (0,0)::.blk b4 30 [.bool x.neg,.string x.Qa,.int .i64 x.e] (0,0)::E (.slice A m c)::.row A m c 30 3 (na NR.cells (rA x.ma m))::Hr) w') (λw'=>n+1-tS w' ⟨g,o,none⟩) ?_ ?_
 .exact⟨m,A,c,Z',hm,hh⟩
 exact aat
variable {fuel:Nat}{ops:Array Oper}
def dR{L:Array Bool}(hne:Region.ready .any ops L≠[]) (h:∀i∈Region.ready .any ops L,∃o d,ops[i]?=some o/\o.dst=some d/\d<N/\OG P ops o ρ w λv w'=>WA P N ops Q fuel (L.setIfInBounds i true) (sc ρ d v) w'):WA P N ops Q (fuel+1) L ρ w:=by
 refine⟨λa hf=>wpAny_all rfl hne λi hi=> ?_⟩;obtain⟨o,d,ho,hd,hN,hg⟩:=h i hi;unfold wpOp;rw[ho];simp only[];exact hg.out a (λa w=>wpAny P .any ops (lift N Q) fuel (L.setIfInBounds i true) a w) (lift N Q) hf.at_ λv w' hk=>(by rw[hd];exact hk.out _ (hf.put hN v))
def waits(o:Oper)(j:Nat):Bool:=o.after.toList.any λe=>(e.on==j) && Region.binds .any e
abbrev Lv:=Nat->Value->List HE->Prop
def Spec(P:Program)(l:List Oper)(w0:World)(ρ:Rf)(dst:Nat->Nat)(m:Nat)(S:Lv)(pre:Nat->List HE)(rest:List HE)(i:Nat):Prop:=
 ∃o,l[i]?=some o/\∀(ρ1:Rf)(w1:World)(F:List HE)(R:Nat->List HE),(∀s,(∀j,j<m->dst j≠s)->ρ1 s=ρ s)->(∀j,waits o j=true->S j (ρ1 (dst j)) (R j)/\∀x∈R j,x∈F)->(∀x∈rest,x∈F)->Hp w0 (pre i++F) w1->
  OG P l.toArray o ρ1 w1 λv w2=>∃R',S i v R'/\Hp w0 (R'++F) w2
def All:Nat->(Nat->Prop)->Prop
 |0,_=>True
 |k+1,p=>All k p/\p k
def YP:∀{k:Nat}{p:Nat->Prop},(∀i,i<k->p i)->All k p
 |0,_,_=>trivial
 |k+1,_,h=>⟨YP λi hi=>h i Z',h k Z'⟩
def xp(n j:Nat):(Array.replicate n false).getD j false=false:=by
 rw[y9,H5];split<;>rfl
def All.get:∀{k:Nat}{p:Nat->Prop},All k p->∀i,i<k->p i
 |k+1,p,h,i,hi=>by
  by_cases e:i=k
  .rw[e];exact h.2
  exact All.get h.1 i Z'
def xZ(l:List Oper)(m N:Nat)(dst:Nat->Nat):Bool:=
 decide (m<=l.length) && ((List.range m).all λi=>match l[i]? with|some o=>(o.dst==some (dst i)) && decide (dst i<N) && (o.after.toList.all λe=> !Region.binds .any e||decide (e.on<i))|none=>false) &&
 decide ((List.range m).map dst).Nodup &&
 ((List.range (l.length-m)).all λk=>match l[m+k]? with|some o=>(List.range m).all λj=>waits o j|none=>false) &&
 ((List.range (l.length-m)).all λk=>Region.ready .any l.toArray (Ph l.length (m+k))==[m+k]) && (Region.ready .any l.toArray (Ph l.length l.length)==[])
def XA{l:List Oper}{L:Array Bool}{i:Nat}:i∈Region.ready .any l.toArray L↔i<l.length/\L.getD i true=false/\∃o,l[i]?=some o/\∀e∈o.after,Region.binds .any e=true->L.getD e.on false=true:=by
 unfold Region.ready;rw[j9,g_,show l.toArray.size=l.length by simp];constructor
 .rintro ⟨h1,h2⟩;have ho:l.toArray[i]?=some l[i]:=by simp[h1]
  rw[ho] at h2;simp only[M8,l9,Q_,z7] at h2;refine⟨h1,h2.1,l[i],by simp,λe he hb=> ?_⟩;have:=F6.1 h2.2 e he;simpa[hb] using this
 rintro ⟨h1,h2,o,ho,h3⟩;refine⟨h1, ?_⟩;rw[show l.toArray[i]?=some o by simpa using ho];exact aaU
def aD{L:Array Bool}(h:¬∀i,i<m->L.getD i false=true):∃i,i<m/\L.getD i false=false/\∀j,j<i->L.getD j false=true:=by
 induction m with
 |zero=>exact absurd (λi hi=>by omega) h
 |succ m ih=>
  by_cases h1:∀i,i<m->L.getD i false=true
  .refine⟨m,Z', ?_,h1⟩
   cases hc:L.getD m false with
   |false=>rfl
   |true=>
    refine absurd (λi hi=> ?_) h;by_cases e:i=m
    .rw[e];exact hc
    exact h1 i Z'
  obtain⟨i,h2,h3⟩:=ih h1;exact⟨i,Z',h3⟩
def vy{R:Nat->List HE}{i:Nat}(h:i<m)(rest:List HE):((List.range m).flatMap R++rest).Perm (R i++(((List.range m).filter (· !=i)).flatMap R++rest)):=by
 have h1:∀m,i<m->((List.range m).flatMap R).Perm (R i++((List.range m).filter (· !=i)).flatMap R):=λm=>by
  induction m with
  |zero=>intro h;omega
  |succ m ih=>
   intro h;rw[P8,q7,K7,q7];by_cases e:i=m
   .subst e;have h2:(List.range i).filter (· !=i)=List.range i:=List.filter_eq_self.2 λj hj=>by have:=g_.1 hj;simp;omega
    rw[h2,show[i].filter (· !=i)=[] by simp];simp only[G7,List.flatMap_nil,o_];exact O6
   rw[show[m].filter (· !=i)=[m] by simp;omega,<-l_];exact(ih Z').append_right _
 rw[<-l_];exact(h1 m h).append_right _
def JV{ρ':Rf}{f:Nat->Value}{ds:List (Nat×Nat)}(h1:∀p∈ds,ρ' p.2=f p.1)(h2:∀s,(∀p∈ds,p.2≠s)->ρ' s=ρ s)(hn:(ds.map (·.2)).Nodup):ρ'=Hf ρ f ds:=funext λs=>by
 obtain⟨h3,h4⟩:=Rj (ρ:=ρ) f ds s hn;by_cases h:∃p∈ds,p.2=s
 .obtain⟨p,hp,rfl⟩:=h;rw[h3 p.1 hp];exact h1 p hp
 rw[h4 λi hi=>h ⟨(i,s),hi,rfl⟩];exact h2 s λp hp e=>h ⟨p,hp,e⟩
def OG.imp{o:Oper}{K K':Value->World->Prop}(h:OG P ops o ρ w K)(hk:∀v w',K v w'->K' v w'):OG P ops o ρ w K':=⟨λa next Q ha hn=>h.out a next Q ha λv w' hv=>hn v w' (hk v w' hv)⟩
def gk{L:Array Bool}{i:Nat}(h:i<L.size):(L.setIfInBounds i true).getD j false=(decide (j=i)||L.getD j false):=by
 rw[y9,y9,Array.getElem?_setIfInBounds];by_cases e:i=j
 .subst e;simp[h]
 rw[L' e,O_ (λe2=>e e2.symm),d_]
def DP{L:Array Bool}{i:Nat}(h:i<L.size)(hu:L.getD i false=false):∀m,i<m->(List.range m).countP (λj=>(L.setIfInBounds i true).getD j false)=(List.range m).countP (λj=>L.getD j false)+1:=by
 have hlow:∀m,m<=i->(List.range m).countP (λj=>(L.setIfInBounds i true).getD j false)=(List.range m).countP (λj=>L.getD j false):=λm hm=>(by refine List.countP_congr λj hj=> ?_;have:=g_.1 hj;rw[gk h,O_ Z',d_]);intro m
 induction m with
 |zero=>intro h;omega
 |succ m ih=>
  intro hm;rw[P8,List.countP_append,List.countP_append];by_cases e:i=m
  .subst e;rw[hlow i (j' _),D5,D5,gk h,hu];simp
  rw[ih Z',D5,D5,gk h,O_ Z',d_];omega
def tI{L:Array Bool}(h:∀i,i<m->L.getD i false=true):(List.range m).countP (λj=>L.getD j false)=m:=by
 rw[List.countP_eq_length.2 λj hj=>h j (g_.1 hj),u9]
def Su{α β:Type}{f g:α->List β}:∀{l:List α},(∀x∈l,f x=g x)->l.flatMap f=l.flatMap g
 |[],_=>rfl
 |x::l,h=>by rw[G7,G7,h x q',Su λy hy=>h y (F' _ hy)]
def fI{p:Nat->Bool}(h:(List.range m).all p=true){i:Nat}(hi:i<m):p i=true:=u_.1 h i (g_.2 hi)
def acx{l:List Oper}{dst:Nat->Nat}{S:Lv}{pre:Nat->List HE}{rest:List HE}{ds:List (Nat×Nat)}(hds:∀p∈ds,p.1<m/\p.2=dst p.1)(hds2:∀i,i<m->(i,dst i)∈ds)(hnd:(ds.map (·.2)).Nodup)(hinj:∀i j,i<m->j<m->dst i=dst j->i=j) (hml:m<=l.length)(hop:∀i,i<m->∃o,l[i]?=some o/\o.dst=some (dst i)/\dst i<N/\∀e∈o.after,Region.binds .any e=true->e.on<i) (htl:∀k,m<=k->k<l.length->∃o,l[k]?=some o/\∀j,j<m->waits o j=true) (hrd:((List.range (l.length-m)).all λk=>Region.ready .any l.toArray (Ph l.length (m+k))==[m+k])=true)(hend:Region.ready .any l.toArray (Ph l.length l.length)=[]) (hs:All m (Spec P l w0 ρ dst m S pre rest)) (hfin:∀(f:Nat->Value)(R:Nat->List HE)(w':World),(∀i,i<m->S i (f i) (R i))->Hp w0 ((List.range m).flatMap R++rest) w'->WL .plain P N l.toArray Q (l.drop m) (Hf ρ f ds) w'):
  ∀(fuel:Nat)(L:Array Bool)(ρ1:Rf)(w1:World)(R:Nat->List HE),L.size=l.length->(∀j,m<=j->L.getD j false=false)->fuel+(List.range m).countP (λj=>L.getD j false)=l.length->(∀s,(∀j,j<m->L.getD j false=true->dst j≠s)->ρ1 s=ρ s)->(∀j,j<m->L.getD j false=true->S j (ρ1 (dst j)) (R j))->(∀j,j<m->L.getD j false=false->R j=pre j)->Hp w0 ((List.range m).flatMap R++rest) w1->WA P N l.toArray Q fuel L ρ1 w1:=by
 intro fuel
 induction fuel with
 |zero=>
  intro L ρ1 w1 R hsz htail hcnt hag hS hpre hh;have hall:∀i,i<m->L.getD i false=true:=by
   have h1:(List.range m).countP (λj=>L.getD j false)<=m:=by have:=List.countP_le_length (p:=λj=>L.getD j false) (l:=List.range m);rwa[u9] at this
   have h2:(List.range m).countP (λj=>L.getD j false)=(List.range m).length:=by rw[u9];omega
   intro i hi;exact List.countP_eq_length.1 h2 i (g_.2 hi)
  exact aeG
 |succ fuel ih=>
  intro L ρ1 w1 R hsz htail hcnt hag hS hpre hh;by_cases hall:∀i,i<m->L.getD i false=true
  .exact aeG
  have und:∀i,i<l.length->(L.getD i true=false↔L.getD i false=false):=λi hi=>by
   have h1:i<L.size:=by rw[hsz];exact hi
   rw[y9,y9,o6 h1];simp
  refine dR (λhnil=> ?_) λi hi=> ?_
  .obtain⟨i,h1,h2,h3⟩:=aD hall;obtain⟨o,ho,_,_,he⟩:=hop i h1;have:i∈Region.ready .any l.toArray L:=XA.2 ⟨Z',(und i Z').2 h2,o,ho,λe he1 he2=>h3 _ (he e he1 he2)⟩;rw[hnil] at this
   cases this
  obtain⟨hil,hun,o,ho,hed⟩:=XA.1 hi;rw[und i hil] at hun;have hwait:∀j,waits o j=true->L.getD j false=true:=λj hj=>(by obtain⟨e,he1,he2⟩:=k9.1 hj;rw[Q_,R8] at he2;rw[<-he2.1];exact hed e (by simpa using he1) he2.2);have him:i<m:=by
   obtain h|h:=Y9 i m
   .exact h
   obtain⟨o2,ho2,h2⟩:=htl i h hil;rw[ho] at ho2
   cases ho2
   exact absurd (λj hj=>hwait j (h2 j hj)) hall
  obtain⟨o2,ho2,hd,hN,hlt⟩:=hop i him;rw[ho] at ho2
  cases ho2
  obtain⟨o3,ho3,hsp⟩:=hs.get i him;rw[ho] at ho3
  cases ho3
  refine⟨o,dst i,by simpa using ho,hd,hN, ?_⟩;have hiL:i<L.size:=by rw[hsz];exact hil
  refine(hsp ρ1 w1 (((List.range m).filter (· !=i)).flatMap R++rest) R (λs hs2=>hag s λj hj _=>hs2 j hj) (λj hj=> ?_) (λx hx=>W8 _ hx) ?_).imp λv w' ⟨R',h1,h2⟩=> ?_
  .have hjd:=hwait j hj;have hjm:j<m:=(by obtain⟨e,he1,he2⟩:=k9.1 hj;rw[Q_,R8] at he2;have:=hlt e (by simpa using he1) he2.2;omega);refine⟨hS j hjm hjd,λx hx=>x9 _ (U7.2 ⟨j,j9.2 ⟨g_.2 hjm, ?_⟩,hx⟩)⟩;have:j≠i:=λe=>by rw[e,hun] at hjd;cases hjd
   simpa using this
  .rw[<-hpre i him hun];exact hh.perm (vy him rest)
  refine ih _ _ _ (λj=>if j=i then R' else R j) (by rw[Array.size_setIfInBounds];exact hsz) (λj hj=> ?_) (by rw[DP hiL hun m him];omega) (λs hs2=> ?_) (λj hj hjd=> ?_) (λj hj hjd=> ?_) ?_
  .rw[gk hiL,O_ Z',d_];exact htail j hj
  .have hne:dst i≠s:=hs2 i him (by rw[gk hiL];simp);rw[Eh _ (λe=>hne e.symm)];exact hag s λj hj hjd=>hs2 j hj (by rw[gk hiL,hjd];simp)
  .by_cases e:j=i
   .subst e;rw[J' rfl,Bs];exact h1
   rw[gk hiL,O_ e,d_] at hjd;rw[L' e,Eh _ (λe2=>e (hinj j i hj him e2))];exact hS j hj hjd
  .rw[gk hiL] at hjd;have e:j≠i:=λe=>by rw[e] at hjd;simp at hjd
   rw[O_ e,d_] at hjd;rw[L' e];exact hpre j hj hjd
  refine Hp.perm h2 (List.Perm.trans ?_ (vy (R:=λj=>if j=i then R' else R j) him rest).symm);rw[J' rfl];have:((List.range m).filter (· !=i)).flatMap (λj=>if j=i then R' else R j)=((List.range m).filter (· !=i)).flatMap R:=(by refine Su λj hj=> ?_;have:=(j9.1 hj).2;rw[L' (by simpa using this)]);rw[this]
variable {H:List HE}
def abM{id:Nat}{l:List Oper}(m:Nat)(dst:Nat->Nat)(S:Lv)(pre:Nat->List HE)(rest:List HE)(ds:List (Nat×Nat))(hh:Hp w0 H w)(hH:H.Perm ((List.range m).flatMap pre++rest))(hm:P.follows .mixedOrders=true) (hok:xZ l m N dst=true)(hds:ds=((List.range m).map λi=>(i,dst i)).reverse)(hs:All m (Spec P l w0 ρ dst m S pre rest)) (hfin:∀(f:Nat->Value)(R:Nat->List HE)(w':World),All m (λi=>S i (f i) (R i))->Hp w0 ((List.range m).flatMap R++rest) w'->WL .plain P N l.toArray Q (l.drop m) (Hf ρ f ds) w'):WC .plain P N (.region id l.toArray true) Q ρ w:=by
 refine Ko hh hm λw' hj=> ?_;simp only[xZ,Q_,K_] at hok;obtain⟨⟨⟨⟨⟨hml,h1⟩,h2⟩,h3⟩,h4⟩,h5⟩:=hok;have hop:∀i,i<m->∃o,l[i]?=some o/\o.dst=some (dst i)/\dst i<N/\∀e∈o.after,Region.binds .any e=true->e.on<i:=λi hi=>by
  have:=fI h1 hi;split at this
  .rename_i o ho;simp only[Q_,R8,K_] at this;refine⟨o,ho,this.1.1,this.1.2,λe he hb=> ?_⟩;have h6:=u_.1 this.2 e (by simpa using he);simpa[hb] using h6
  cases this
 have hmem:∀i,i<m->(i,dst i)∈ds:=λi hi=>by rw[hds,g8];exact Z_.2 ⟨i,g_.2 hi,rfl⟩
 have hmap:ds.map (·.2)=((List.range m).map dst).reverse:=by rw[hds,List.map_reverse,Z9];rfl
 refine acx (w0:=w0) (pre:=pre) (rest:=rest) (S:=S) (ds:=ds) (λp hp=> ?_) hmem (by rw[hmap];exact(List.reverse_perm _).nodup_iff.2 h2) (λi j hi hj he=> ?_) hml hop (λk hk hkl=> ?_) h4 (eq_of_beq h5) hs (λf R w2 hS hh2=>hfin f R w2 (YP hS) hh2) l.length (Array.replicate l.length false) ρ w' pre (by simp) (λj _=> ?_) ?_ (λs _=>rfl) (λj hj hjd=> ?_) (λj _ _=>rfl) (Hp.perm hj.hp hH)
 .rw[hds,g8] at hp;obtain⟨i,hi,rfl⟩:=Z_.1 hp;exact⟨g_.1 hi,rfl⟩
 .have hi2:((List.range m).map dst)[i]?=some (dst i):=by rw[V_,z9 hi];rfl
  have hj2:((List.range m).map dst)[j]?=some (dst j):=by rw[V_,z9 hj];rfl
  exact(List.getElem?_inj (by rw[i',u9];exact hi) h2).1 (by rw[hi2,hj2,he])
 .have:=fI h3 (show k-m<l.length-m by omega);rw[show m+(k-m)=k by omega] at this;split at this
  .rename_i o ho;exact⟨o,ho,λj hj=>fI this hj⟩
  cases this
 .exact xp _ _
 .rw[List.countP_eq_zero.2 λj _=>by rw[xp];decide];rfl
 rw[xp] at hjd
 cases hjd
def Vx(v:Value):Value->List HE->Prop:=λx R=>x=v/\R=[]
variable {ag:Bool}{by':Nat}{cs zc:List Value}{parts:Array (Nat×Operand)}
def yP(hh:Hp w0 H w){d:Option Nat}{ty:TypeId}{af:Array Edge}{t e:TypeId}{len sz:Nat}{ps:List (Nat×Value)}(ht:P.underlying t=some (.slice e))(hte:Dd P e=some (sz,ag,by',zc)) (hp:vD ρ parts.toList=ps)(hzl:zc.length=sz)(hf:Wk (λi=>some (i*sz,sz)) (Qg len zc) ps=some cs)(h0:¬len*sz=0)(hle:len<=1000)(hsl:len*sz<=16777216)(hl:cs.length=len*sz){K:Value->World->Prop} (hk:∀b w2,Hp w0 (.row (some ⟨b,0,none⟩) len len e sz cs::H) w2->K (.slice (some ⟨b,0,none⟩) len len) w2):OG P ops ⟨d,.buildSlice t len parts,ty,pos,af,none⟩ ρ w K:=by
 obtain⟨z,hz,hzc⟩:=ee (w:=w) hte;refine Od rfl (w':=w.alloc (.cells cs.toArray e)) (v:=.slice (some ⟨w.heap.size,0,none⟩) len len) ?_ (hk _ _ (hh.tD e sz len cs hl (by unfold maxLen;omega)));exact abQ
variable {vs:List Value}{fz:Nat×Nat}
def Hp.abY(h:Hp w0 H w){t:TypeId}(hm:HE.blk b t cs fz∈H)(hv:(cs.drop o).take n=vs):Rd w ⟨b,o,none⟩ vs:=let⟨_,hi⟩:=j_.1 hm;h.pb hi hv
def Hp.acp(h:Hp w0 H w){A:Option Addr}{c sz:Nat}{t:TypeId}{xs:List Value}(hm:HE.row A n c t sz xs∈H):Sl w A n sz xs:=let⟨_,hi⟩:=j_.1 hm;h.ra hi
def gE(xs:List NR)(m:ByteArray)(k:Nat):Dyadic:=match xs[k]?,m.data.toList[k]? with|some x,some e=>x.ma^e.toNat|_,_=>1
def xC(c:Dyadic)(xs:List NR)(m:ByteArray):Nat->Dyadic
 |0=>c
 |k+1=>xC c xs m k*gE xs m k
def Es(xs:List NR)(ts:List TR):Nat->Dyadic
 |0=>0
 |i+1=>Es xs ts i+(match ts[i]? with|some t=>xC t.c.ma xs t.m xs.length|none=>0)
def vn(p:PX)(n:Nat):Int:=if p.e=0 then(if(n:Int)=p.v then 0 else 1) else p.e
def Am(p:PX)(xs:List NR):NR:=if vn p xs.length=0 then nR (Es xs p.ts p.ts.length) else nR 0
abbrev QP:=Option Addr×Nat×Nat
def EH(ks:List QP):List Value:=ks.map λk=>.slice k.1 k.2.1 k.2.2
def pwE(y:NR)(k:QP):HE:=.row k.1 k.2.1 k.2.2 30 3 (na NR.cells (rA y.ma k.2.1))
def QN(ys:List NR)(ks:List QP):List HE:=List.zipWith pwE ys ks
def pN{w0 w:World}{H:List HE}(hh:Hp w0 H w):∀ys:List NR,Hp w0 (QN ys (List.replicate ys.length (none,0,0))++H) w
 |[]=>hh
 |y::ys=>(pN hh ys).Lb 30 3
def wY(ks:List QP):(EH ks).length=ks.length:=i' ..
def bY(ks:List QP)(i:Nat)(k:QP):EH (ks.set i k)=(EH ks).set i (.slice k.1 k.2.1 k.2.2):=by unfold EH;rw[Z8]
def Ms{α:Type}:∀{l:List α}{i:Nat}{a:α},l[i]?=some a->l.Perm (a::l.eraseIdx i)
 |[],i,a,h=>by cases h
 |b::l,0,a,h=>by cases h;exact List.Perm.refl _
 |b::l,i+1,a,h=>((Ms (l:=l) (i:=i) h).cons b).trans (.swap _ _ _)
def YQ{ys:List NR}{ks:List QP}{i:Nat}{y:NR}{k:QP}(hy:ys[i]?=some y)(hk:ks[i]?=some k):(QN ys ks)[i]?=some (pwE y k):=by
 unfold QN;rw[L8,hy,hk]
def AA:∀{ys:List NR}{ks:List QP}{i:Nat}{k:QP},(QN ys (ks.set i k)).eraseIdx i=(QN ys ks).eraseIdx i
 |[],_,_,_=>by unfold QN;simp
 |_::_,[],_,_=>by unfold QN;simp
 |y::ys,k0::ks,0,k=>rfl
 |y::ys,k0::ks,i+1,k=>(by show pwE y k0::(QN ys (ks.set i k)).eraseIdx i=pwE y k0::(QN ys ks).eraseIdx i;rw[AA])
def eY{xs:List NR}{m:ByteArray}{x:NR}{e:UInt8}(hx:xs[k]?=some x)(he:m.data.toList[k]?=some e):gE xs m k=x.ma^e.toNat:=by
 unfold gE;rw[hx,he]
def mD{xs:List NR}{m:ByteArray}{c:Dyadic}{q:Nat}(hc:Sz q c)(hq:q<=1000)(hx:∀x∈xs,Sz q x.ma)(hm:Ae m.data.toList=true):∀k,Sz (q+128000*k) (xC c xs m k)
 |0=>hc
 |k+1=>by
  refine((mD hc hq hx hm k).mul (l:=128000) ?_).mono Z';unfold gE;split
  .rename_i x e h1 h2;have he:=Tn hm h2;exact((hx x (G' h1)).pow e.toNat).mono (by have:=o9 hq (show e.toNat<=127 by omega);omega)
  exact Sz.one.mono Z'
def cV{xs:List NR}{ts:List TR}{q:Nat}(hq:q<=1000)(hx:∀x∈xs,Sz q x.ma)(ht:xg q ts)(hm:∀t∈ts,Ae t.m.data.toList=true)(hl:xs.length<=12):∀i,Sz (1600000+i) (Es xs ts i)
 |0=>Sz.zero _
 |i+1=>by
  show Sz (1600000+i+1) (Es xs ts i+_);refine(cV hq hx ht hm hl i).add ?_;split
  .rename_i t h;exact(mD (ht t (G' h)).2 hq hx (hm t (G' h)) xs.length).mono Z'
  exact Sz.zero _
def itN(w:World)(b:Nat):Nat:=match w.heap[b]? with|some (.stringIter _ p)=>p|_=>0
def iV(hh:Hp w0 H w){i p:Nat}{s:ByteArray}(hi:H[i]?=some (.it b s p)):itN w b=p:=by
 unfold itN;rw[(hh.at_ hi).2]
def Qu(p:PX)(ys:List NR)(xA:Option Addr)(xn xc:Nat)(k:Nat)(w:World)(hT:Sc w)(hp:p.at_ w)(lp:p.Zg k)(hS:Sl w xA xn 3 (na NR.cells ys))(hl:ys.length=xn)(hy:∀y∈ys,y.ok/\Sz k y.ma)(hk:k<=1000):Calls prog 28 #[.agg #[.int .i64 p.v,.slice p.A p.n p.c],.slice xA xn xc] w λr w'=>r=.returned (.tuple #[.agg #[.bool (Am p ys).neg,.string (Am p ys).Qa,.int .i64 (Am p ys).e],.int .i64 (vn p xn)])/\Below w.heap.size w w':=by
 have hh:=Hp.start w;subst hl;have hck:=λw1 hT1 hb=>rk p k w1 hT1 (hp.ext hb) lp;unfold Am vn;by_cases h0:p.e=0
 .rw[h0] at hck;simp only[J' h0];by_cases h1:(ys.length:Int)=p.v
  .simp only[J' h1];obtain⟨hf,h4,hmy,_⟩:=Ub h0;replace hf:=Pe.1 hf;obtain⟨pv,pA,pn,pc,ts⟩:=p;replace hpl:ts.length=pn:=hp.ln;replace hp:Sl w pA pn 4 (na TR.cells ts):=hp;have okp:xg k ts:=lp.ok;have szp:∀t∈ts,t.m.size<=100000:=lp.sz;replace hmy:∀t∈ts,pe pv t=true:=hmy;replace h4:ts.length<=4096:=h4;replace hf:0<=pv/\pv<=12:=hf;replace h1:(ys.length:Int)=pv:=h1;subst h1;have hyl:ys.length<=12:=Z';have Dz:∀i,i<=4096->Sz 1700000 (Es ys ts i):=λi hi=>(cV hk (λy h=>(hy y h).2) okp (λt h=>(I8.1 (hmy t h)).1) hyl i).mono Z';show Calls _ _ _ _ λr w'=>r=.returned (.tuple #[.agg #[.bool (nR (Es ys ts ts.length)).neg,.string (nR (Es ys ts ts.length)).Qa,.int .i64 (nR (Es ys ts ts.length)).e],.int .i64 0])/\Below w.heap.size w w';refine da (N:=64) (l:=[.agg #[.int .i64 ys.length,.slice pA pn pc],.slice xA ys.length xc]) func28 rfl rfl (by simp) ?_;refine Sb ?_;intro b2 w2 hh b4 w4 hh;refine bh ?_;intro w15 hh;refine fa ?_;refine Me (n:=ys.length) hh rfl rfl Z' Z' lb.out ya.out rfl Z' Z' U' ?_;intro b28 w28 hh;refine Jb ?_;intro b8 w8 hh
   rw[Om,show List.replicate ys.length (Value.slice none 0 0)=EH (List.replicate ys.length (none,0,0)) by unfold EH;rw[List.map_replicate]] at hh;replace hh:=(pN hh ys).perm O6;simp only[C',E'] at hh;refine Ba [10,11,12,13,32,33,34,35,36,37,38,39,40,41,42,43,44,45,46,47,48,49,50,51,52,53,54,55,56,57,58,59,60,61,62] 32 (λv w'=>∃(i:Nat)(ks:List QP),i<=pn/\v=.int .i64 i/\ks.length=ys.length/\(∀q∈ks,q.2.1<=1000)/\Hp w (.blk b8 30 [.bool (nR (Es ys ts i)).neg,.string (nR (Es ys ts i)).Qa,.int .i64 (nR (Es ys ts i)).e] (0,0)::.row (some ⟨b28,0,none⟩) ys.length ys.length 130 1 (EH ks)::.blk b4 30 [.bool false,.string (ByteArray.mk #[]),.int .i64 0] (0,0)::.blk b2 24 [.int .i64 ys.length,.slice pA pn pc] (0,0)::QN ys ks) w') (λv _=>pn-(intOf v).toNat) ?_ ?_
   .exact⟨0,_,D' _,rfl,H9,λq hq=>by rw[List.eq_of_mem_replicate hq];exact D' _,hh⟩
   clear hh;rintro ρ' v w' ⟨i,ks,hi,rfl,hkl,hkm,hh⟩;by_cases hlt:i<pn
   .obtain⟨x,hx⟩:=ea (l:=ts) (k:=i) Z';obtain⟨ad,rfl,hr⟩:=hp.at_ Z';have hxo:=okp x (G' hx);have hmx:=I8.1 (hmy x (G' hx));have hxz:(x.m.size:Int)=ys.length:=B9 hmx.2;refine fa ?_;refine Qn ?_;refine SP ?_;intro b10 w10 hh ws hh b11 w11 hh ws hh;refine er hh lb.out rfl U' ?_;intro b40 w40 hh;skip;refine fa ?_;refine sy [12,13,41,42,43,44,45,46,47,48,49,50,51,52,53,54,55,56,57] (λw'=>∃(q:Nat)(z:NR)(ks:List QP),q<=ys.length/\z.ok/\z.ma=xC x.c.ma ys x.m q/\ks.length=ys.length/\(∀q∈ks,q.2.1<=1000)/\Hp w (.it b40 x.m q::.blk b11 30 [.bool z.neg,.string z.Qa,.int .i64 z.e] (0,0)::.blk b10 72 [.string x.m,.bool x.c.neg,.string x.c.Qa,.int .i64 x.c.e] (0,0)::.blk b8 30 [.bool (nR (Es ys ts i)).neg,.string (nR (Es ys ts i)).Qa,.int .i64 (nR (Es ys ts i)).e] (0,0)::.row (some ⟨b28,0,none⟩) ys.length ys.length 130 1 (EH ks)::.blk b4 30 [.bool false,.string (ByteArray.mk #[]),.int .i64 0] (0,0)::.blk b2 24 [.int .i64 ys.length,.slice (some ad) pn pc] (0,0)::QN ys ks) w') (λw'=>ys.length-itN w' b40) ?_ ?_
    .exact⟨0,x.c,ks,D' _,hxo.1,rfl,hkl,hkm,hh⟩
    clear hh hkl hkm;rintro ρ' w' ⟨q,z,ks,hq,hzo,hzd,hkl,hkm,hh⟩;have hit:=iV hh (i:=0) rfl;have hzs:Sz 1600000 z.ma:=by rw[hzd];exact(mD hxo.2 hk (λy h=>(hy y h).2) hmx.1 q).mono Z'
    by_cases hlq:q<ys.length
    .obtain⟨y,hyq⟩:=ea (l:=ys) (k:=q) hlq;obtain⟨⟨ka,km,kc⟩,hkq⟩:=ea (l:=ks) (k:=q) Z';obtain⟨xad,rfl,hxr⟩:=hS.at_ Z';obtain⟨e,he⟩:=ea (l:=x.m.data.toList) (k:=q) (by rw[<-Tc];omega);have he8:=Tn hmx.1 he;have hyo:=hy y (G' hyq);have hkm0:km<=1000:=hkm _ (G' hkq);have hqk:q<(EH ks).length:=by rw[wY];omega
     have zp:Sz 128000 (y.ma^e.toNat):=(hyo.2.pow e.toNat).mono (by have:=o9 hk (show e.toNat<=127 by omega);omega);have hdm:=λA cc w1 hT1 hS1=>Ee A 2 cc [z,nR (y.ma^e.toNat)] w1 hT1 hS1 (by simpa using⟨hzo,zp.ok U'⟩) 1600000 (by simpa[Za] using⟨hzs,zp.mono U'⟩) U' U';rw[show Cf ([z,nR (y.ma^e.toNat)].map NR.ma)=z.ma*y.ma^e.toNat by show 1*z.ma*(nR _).ma=_;rw[Za,W7]] at hdm;have hcq:(EH ks)[q]?=some (.slice ka km kc):=by unfold EH;rw[V_,hkq];rfl
     refine sr ?_;refine vq hh (i:=0) rfl rfl he he8 U' ?_;intro w41 hh;simp only[U_] at hh;skip;refine fa ?_;replace hh:=hh.perm (P_ (l₁:=[_,_,_,_]));simp only[C',E'] at hh;replace hh:=hh.perm (((Ms (YQ hyq hkq)).append_left [_,_,_,_,_,_,_]).trans (List.perm_middle.trans (.swap _ _ _)));rw[<-Jn hcq] at hh;have mb11:(.blk b11 30 [.bool z.neg,.string z.Qa,.int .i64 z.e] (0,0):HE)∈(.it b40 x.m (q+1)::.blk b11 30 [.bool z.neg,.string z.Qa,.int .i64 z.e] (0,0)::.blk b10 72 [.string x.m,.bool x.c.neg,.string x.c.Qa,.int .i64 x.c.e] (0,0)::.blk b8 30 [.bool (nR (Es ys ts i)).neg,.string (nR (Es ys ts i)).Qa,.int .i64 (nR (Es ys ts i)).e] (0,0)::.blk b4 30 [.bool false,.string (ByteArray.mk #[]),.int .i64 0] (0,0)::.blk b2 24 [.int .i64 ys.length,.slice (some ad) pn pc] (0,0)::(QN ys ks).eraseIdx q):=by simp
     refine abM 13 (λi=>[45,46,47,48,49,50,51,52,53,54,55,56,57].getD i 0) (λi=>[Vx (.agg #[.bool z.neg,.string z.Qa,.int .i64 z.e]),Vx (.slice (some ⟨b28,0,none⟩) ys.length ys.length),Vx (.int .i64 q),Vx (.pointer (some ⟨b28,q*1,none⟩)),Vx (.slice (some xad) ys.length xc),Vx (.int .i64 q),Vx (.pointer (some (xad.add (q*3)))),Vx (.agg #[.bool y.neg,.string y.Qa,.int .i64 y.e]),Vx (.int .i32 e.toNat),Vx (.int .i64 e.toNat),λv R=>v=.agg #[.bool (nR (y.ma^e.toNat)).neg,.string (nR (y.ma^e.toNat)).Qa,.int .i64 (nR (y.ma^e.toNat)).e]/\∃(A2:Option Addr)(m2 c3:Nat),m2<=1000/\R=[.row (some ⟨b28,0,none⟩) ys.length ys.length 130 1 ((EH ks).set q (.slice A2 m2 c3)),.row A2 m2 c3 30 3 (na NR.cells (rA y.ma m2))],λv R=>∃b:Nat,v=.slice (some ⟨b,0,none⟩) 2 2/\R=[.row (some ⟨b,0,none⟩) 2 2 30 3 (na NR.cells [z,nR (y.ma^e.toNat)])],Vx (.agg #[.bool (nR (z.ma*y.ma^e.toNat)).neg,.string (nR (z.ma*y.ma^e.toNat)).Qa,.int .i64 (nR (z.ma*y.ma^e.toNat)).e])].getD i (Vx undef)) (λi=>[[],[],[],[],[],[],[],[],[],[],[.row (some ⟨b28,0,none⟩) ys.length ys.length 130 1 ((EH ks).set q (.slice ka km kc)),.row ka km kc 30 3 (na NR.cells (rA y.ma km))],[],[]].getD i []) (.it b40 x.m (q+1)::.blk b11 30 [.bool z.neg,.string z.Qa,.int .i64 z.e] (0,0)::.blk b10 72 [.string x.m,.bool x.c.neg,.string x.c.Qa,.int .i64 x.c.e] (0,0)::.blk b8 30 [.bool (nR (Es ys ts i)).neg,.string (nR (Es ys ts i)).Qa,.int .i64 (nR (Es ys ts i)).e] (0,0)::.blk b4 30 [.bool false,.string (ByteArray.mk #[]),.int .i64 0] (0,0)::.blk b2 24 [.int .i64 ys.length,.slice (some ad) pn pc] (0,0)::(QN ys ks).eraseIdx q) _ hh (List.Perm.refl _) mixed T' rfl ⟨⟨⟨⟨⟨⟨⟨⟨⟨⟨⟨⟨⟨trivial, ?s0⟩, ?s1⟩, ?s2⟩, ?s3⟩, ?s4⟩, ?s5⟩, ?s6⟩, ?s7⟩, ?s8⟩, ?s9⟩, ?s10⟩, ?s11⟩, ?s12⟩ ?fin
     case s0=>exact⟨_,rfl,λρ1 w1 F R ha hd hr (hh:Hp w F w1)=>Od rfl (Uv (vs:=[_,_,_]) ya.out (ha 11 U') (hh.abY (n:=3) (hr _ mb11) rfl) rfl) ⟨[],⟨rfl,rfl⟩,hh⟩⟩
     case s1=>exact⟨_,rfl,λρ1 w1 F R ha hd hr (hh:Hp w F w1)=>Od rfl (Jc (ha 7 U')) ⟨[],⟨rfl,rfl⟩,hh⟩⟩
     case s2=>exact⟨_,rfl,λρ1 w1 F R ha hd hr (hh:Hp w F w1)=>Od rfl (Jc (ha 12 U')) ⟨[],⟨rfl,rfl⟩,hh⟩⟩
     case s3=>exact⟨_,rfl,λρ1 w1 F R ha hd hr (hh:Hp w F w1)=>Od rfl (Np (k:=q) lb.out ya.size (show Vx (.slice (some ⟨b28,0,none⟩) ys.length ys.length) (ρ1 46) (R 1) from(hd 1 rfl).1).1 (show Vx (.int .i64 q) (ρ1 47) (R 2) from(hd 2 rfl).1).1 Z' Z') ⟨[],⟨rfl,rfl⟩,hh⟩⟩
     case s4=>exact⟨_,rfl,λρ1 w1 F R ha hd hr (hh:Hp w F w1)=>Od rfl (Jc (ha 1 U')) ⟨[],⟨rfl,rfl⟩,hh⟩⟩
     case s5=>exact⟨_,rfl,λρ1 w1 F R ha hd hr (hh:Hp w F w1)=>Od rfl (Jc (ha 12 U')) ⟨[],⟨rfl,rfl⟩,hh⟩⟩
     case s6=>exact⟨_,rfl,λρ1 w1 F R ha hd hr (hh:Hp w F w1)=>Od rfl (lg (k:=q) lb.out ya.size (show Vx (.slice (some xad) ys.length xc) (ρ1 49) (R 4) from(hd 4 rfl).1).1 (show Vx (.int .i64 q) (ρ1 50) (R 5) from(hd 5 rfl).1).1 Z' Z') ⟨[],⟨rfl,rfl⟩,hh⟩⟩
     case s7=>exact⟨_,rfl,λρ1 w1 F R ha hd hr (hh:Hp w F w1)=>Od rfl (Uv (vs:=[_,_,_]) ya.out (show Vx (.pointer (some (xad.add (q*3)))) (ρ1 51) (R 6) from(hd 6 rfl).1).1 ((hxr.ext hh.below).recAt NR.len hyq) rfl) ⟨[],⟨rfl,rfl⟩,hh⟩⟩
     case s8=>exact⟨_,rfl,λρ1 w1 F R ha hd hr (hh:Hp w F w1)=>Od rfl (Jc (ha 13 U')) ⟨[],⟨rfl,rfl⟩,hh⟩⟩
     case s9=>exact⟨_,rfl,λρ1 w1 F R ha hd hr (hh:Hp w F w1)=>Od rfl (Jx lb.out lb.out (show Vx (.int .i32 e.toNat) (ρ1 53) (R 8) from(hd 8 rfl).1).1 Z' Z') ⟨[],⟨rfl,rfl⟩,hh⟩⟩
     case s10=>exact⟨_,rfl,λρ1 w1 F R ha hd hr hh=>Pb rfl (qb ja.out (Ga (show Vx (.pointer (some ⟨b28,q*1,none⟩)) (ρ1 48) (R 3) from(hd 3 rfl).1).1 (Ga (show Vx (.agg #[.bool y.neg,.string y.Qa,.int .i64 y.e]) (ρ1 52) (R 7) from(hd 7 rfl).1).1 (Ga (show Vx (.int .i64 e.toNat) (ρ1 54) (R 9) from(hd 9 rfl).1).1 Fb)))) (KI (Zc (g:=b28) (m:=ys.length) (c:=ys.length) (i:=q) (t:=130) (xs:=EH ks) hqk) y e.toNat km ka kc k w1 hT hh Z' hkm0 hyo hk) λr w2 ⟨h1,A2,m2,c3,h2,h3⟩=>⟨_,h1,[_,_],⟨rfl,A2,m2,c3,h2,rfl⟩,h3⟩⟩
     case s11=>exact⟨_,rfl,λρ1 w1 F R ha hd hr (hh:Hp w F w1)=>yP (sz:=3) (cs:=na NR.cells [z,nR (y.ma^e.toNat)]) hh lb.out ya.out (show vD ρ1 [(0,.tmp 45),(1,.tmp 55)]=[(0,.agg #[.bool z.neg,.string z.Qa,.int .i64 z.e]),(1,.agg #[.bool (nR (y.ma^e.toNat)).neg,.string (nR (y.ma^e.toNat)).Qa,.int .i64 (nR (y.ma^e.toNat)).e])] from Rb (show ρ1 45=_ from(show Vx (.agg #[.bool z.neg,.string z.Qa,.int .i64 z.e]) (ρ1 45) (R 0) from(hd 0 rfl).1).1) (Rb (show ρ1 55=_ from(hd 10 rfl).1.1) oe)) rfl rfl U' U' U' rfl λb w2 h2=>⟨[_],⟨b,rfl,rfl⟩,h2⟩⟩
     case s12=>exact⟨_,rfl,λρ1 w1 F R ha hd hr (hh:Hp w F w1)=>let⟨b,e9,r9⟩:=(show ∃b:Nat,ρ1 56=.slice (some ⟨b,0,none⟩) 2 2/\R 11=[.row (some ⟨b,0,none⟩) 2 2 30 3 (na NR.cells [z,nR (y.ma^e.toNat)])] from(hd 11 rfl).1);Pb rfl (qb ja.out (Ga e9 Fb)) (hdm _ _ w1 (hT.hp hh) (hh.acp ((hd 11 rfl).2 _ (r9 ▸ q')))) λr w2 hq=>⟨_,hq.1,[],⟨rfl,rfl⟩,hh.ext hq.2⟩⟩
     clear hh;rintro f R W ⟨⟨⟨⟨⟨⟨⟨⟨⟨⟨⟨⟨⟨-,s0⟩,s1⟩,s2⟩,s3⟩,s4⟩,s5⟩,s6⟩,s7⟩,s8⟩,s9⟩,s10⟩,s11⟩,s12⟩ hh;obtain⟨e0,r0⟩:=s0;obtain⟨e1,r1⟩:=s1;obtain⟨e2,r2⟩:=s2;obtain⟨e3,r3⟩:=s3;obtain⟨e4,r4⟩:=s4;obtain⟨e5,r5⟩:=s5;obtain⟨e6,r6⟩:=s6;obtain⟨e7,r7⟩:=s7;obtain⟨e8,r8⟩:=s8;obtain⟨e9,r9⟩:=s9;obtain⟨e10,A2,m2,c3,hm2,r10⟩:=s10;obtain⟨b56,e11,r11⟩:=s11;obtain⟨e12,r12⟩:=s12;rw[show List.range 13=[0,1,2,3,4,5,6,7,8,9,10,11,12] from rfl] at hh;simp only[G7,List.flatMap_nil,r0,r1,r2,r3,r4,r5,r6,r7,r8,r9,r10,r11,r12,E',o_,C'] at hh;refine Da (Na (aa e12 (aa e11 (aa e10 (aa e9 (aa e8 (aa e7 (aa e6 (aa e5 (aa e4 (aa e3 (aa e2 (aa e1 (aa e0 Ea)))))))))))))) ?_;dsimp only[Bb];refine Jb ?_;intro ws hh;have hz2:Sz 1728000 (z.ma*y.ma^e.toNat):=(hzs.mul zp).mono Z';have e1:(EH ks).set q (.slice A2 m2 c3)=EH (ks.set q (A2,m2,c3)):=(bY ks q (A2,m2,c3)).symm;have hpk:=Ms (YQ hyq (show(ks.set q (A2,m2,c3))[q]?=some (A2,m2,c3) from List.getElem?_set_self Z'));rw[AA] at hpk;rw[e1] at hh
     replace hh:=hh.perm (P_ (l₁:=[_]));simp only[C',E'] at hh;replace hh:=hh.perm (P_ (l₁:=[_,_,_,_,_,_,_,_]));simp only[C',E'] at hh;replace hh:=hh.perm (P_ (l₁:=[_,_,_,_,_,_,_,_]));simp only[C',E'] at hh;replace hh:=hh.perm (P_ (l₁:=[_,_,_]));simp only[C',E'] at hh;replace hh:=hh.perm (P_ (l₁:=[_,_,_,_,_,_,_,_]));simp only[C',E'] at hh;replace hh:=hh.perm (P_ (l₁:=[_,_,_,_,_,_,_,_]));simp only[C',E'] at hh;replace hh:=hh.perm (P_ (l₁:=[_,_,_,_,_,_,_,_]));simp only[C',E'] at hh;replace hh:=hh.perm (P_ (l₁:=[_,_,_,_,_,_,_,_]));simp only[C',E'] at hh;replace hh:=hh.sub (.cons_cons _ (.cons_cons _ (.cons_cons _ (.cons_cons _ (.cons_cons _ (.cons_cons _ (.cons_cons _ (.cons_cons _ (.cons _ (A_ _))))))))));have hit2:=iV hh (i:=0) rfl
     refine⟨⟨q+1,nR (z.ma*y.ma^e.toNat),ks.set q (A2,m2,c3),Z',hz2.ok U',by rw[Za];show _=xC x.c.ma ys x.m q*gE ys x.m q;rw[<-hzd,eY hyq he],by rw[U9];exact hkl,λr hr=> ?_,hh.perm (hpk.symm.append_left [_,_,_,_,_,_,_])⟩,by rw[hit,hit2];omega, ?_⟩
     .obtain h|rfl:=J8 hr
      .exact hkm r h
      exact hm2
     exact Rc
    obtain rfl:q=ys.length:=Z';have hsm:=λA cc w1 hT1 hS1=>Kf A 2 cc [nR (Es ys ts i),z] w1 hT1 hS1 (by simpa using⟨(Dz i Z').ok U',hzo⟩) 1700000 (by simpa[Za] using⟨Dz i Z',hzs.mono U'⟩) U';rw[show rm ([nR (Es ys ts i),z].map NR.ma)=Es ys ts (i+1) by simp only[q_,G9,Rh,Za];show _=Es ys ts i+_;rw[hx,hzd]] at hsm;refine sr ?_;refine Oq hh (i:=0) rfl rfl Z' U' ?_;skip;refine fa ?_;refine Rq ?_;intro b60 w60 hh;refine Oa hh (hsm _ _ _ (hT.hp hh) (hh.ra (i:=0) rfl)) rfl ?_;intro w61 hh;refine Jb ?_;intro ws hh;replace hh:=hh.sub (p' _ (p' _ (p' _ (p' _ (I' _ (I' _ (I' _ (I' _ (A_ _)))))))));refine⟨⟨i+1,ks,Z',rfl,hkl,hkm,hh⟩,by show pn-(i+1)<pn-i;omega, ?_⟩;exact Rc
   obtain rfl:i=pn:=Z';refine Jb ?_;intro ws hh;refine bV (qd rfl (pd (vs:=[_,_,_]) ya.out (hh.pb (i:=2) (n:=3) rfl rfl) rfl) (gh (ej rfl) Be)) ?_;exact⟨by rw[hpl],hh.below⟩
  simp only[L' h1];rw[L' U'];exact ado
 simp only[L' h0];generalize p.e=e at*;exact ado
def ah1(a:NR):Bool:=decide ((8:Int)<a.Qa.size\/a.e< -60\/60<a.e)
structure SmQ(ts:List TR):Prop where
 n:ts.length<=10
 ok:xg 124 ts
 sz:∀t∈ts,t.m.size<=20
 ex:∀t∈ts,∀c∈t.m.data.toList,c.toNat<=6
variable {ts:List TR}
structure Em(v:Int)(k n D:Nat)(ts:List TR):Prop where
 e:Gf v ts=0
 ok:xg k ts
 sz:∀t∈ts,t.m.size<=100000
 len:ts.length<=n
 ex:∀t∈ts,∀c∈t.m.data.toList,c.toNat<=D
def HX{D:Nat}{l:List TR}(h:∀t∈l,∀c∈t.m.data.toList,c.toNat<=D):∀t∈sa l,∀c∈t.m.data.toList,c.toNat<=D:=λt ht=>by
 obtain⟨s,hs,e⟩:=Pf t ht;rw[<-e];exact h s hs
def WE{v:Int}{D:Nat}(i:Nat)(h:Em v k n D ts)(hk:k<=50000)(hn:n<=1000):Em v (k+24+n) n D (sa (Im i ts)):=by
 obtain⟨h1,h2,h3⟩:=eN (i:=i) h.e h.ok h.sz Z';obtain⟨m1,m2,m3⟩:=sX h1;have hl:(Im i ts).length<=n:=N_ (List.length_filterMap_le _ _) h.len;refine⟨We m1 m3 m2,Cg h2 Z' Z',jm h3,N_ (Vb _) hl,HX λs hs c hc=> ?_⟩;obtain⟨t,ht,hd⟩:=z8.1 hs;obtain⟨e,he,h0,rfl⟩:=Lt hd;replace hc:c∈(str (t.m.data.toList.set i (e-1))).data.toList:=hc;rw[Oc] at hc;obtain hc|rfl:=J8 hc
 .exact h.ex t ht c hc
 have h1:(1:UInt8)<=e:=by rw[UInt8.le_iff_toNat_le];show 1<=e.toNat;omega
 rw[UInt8.toNat_sub_of_le _ _ h1];have:=h.ex t ht e (G' he);omega
def pxD(v:Int)(ts:List TR):PX:=⟨v,none,0,0,ts⟩
def jU{g h:PX}(hv:g.v=h.v)(ht:g.ts=h.ts)(ys:List NR):Am g ys=Am h ys/\∀n,vn g n=vn h n:=by
 obtain⟨v,A,n,c,ts⟩:=g;obtain⟨v2,A2,n2,c2,ts2⟩:=h;obtain rfl:v=v2:=hv;obtain rfl:ts=ts2:=ht;exact⟨rfl,λ_=>rfl⟩
def Ek(p:PX)(ys:List NR)(i:Nat):NR:=Am (pxD p.v (sa (Im i p.ts))) ys
def Ak(ys:List NR)(p:PX):List NR:=(List.range ys.length).map (Ek p ys)
def rC(L:Option Addr)(n c:Nat)(ps:List PX)(X:Option Addr)(m cx:Nat)(ys:List NR)(k D:Nat)(w:World)(hT:Sc w)(hL:Sl w L n 2 (na PX.cells ps))(hn:n<=1000)(hp:∀p∈ps,p.at_ w/\p.Zg k/\p.v=m/\Em p.v k 100 D p.ts)(hX:Sl w X m 3 (na NR.cells ys))(hm:m<=1000)(hy:∀y∈ys,y.ok/\Sz k y.ma)(hk:k<=800):Calls prog 141 #[.slice L n c,.slice X m cx] w λr w'=>∃(B:Option Addr)(c':Nat)(zs:List LX)(R:List HE),r=.returned (.slice B n c')/\zs.map LX.l=ps.map (Ak ys)/\(∀z∈zs,z.n=m/\.row z.A z.n z.c 30 3 (na NR.cells z.l)∈R)/\Hp w (.row B n c' 37 1 (na LX.cells zs)::R) w':=by
 have hh:=Hp.start w;have hln:ps.length=n:=hL.Fa PX.len U';have hxl:ys.length=m:=hX.Fa NR.len U';refine da (N:=48) (l:=[.slice L n c,.slice X m cx]) func141 rfl rfl (by simp) ?_;refine fa ?_;replace hh:=hh.Lb 37 1;refine Ra [5,7,8,9,10,11,12,13,16,17,18,19,20,21,22,23,24,25,26,27,28,29,30,31,32,33,34,35,36,37,38,39,40,41,42,43,44,45,46] 5 16 (λv5 v w'=>∃(i c5:Nat)(B:Option Addr)(zs:List LX)(R:List HE),i<=n/\v=.int .i64 i/\v5=.slice B i c5/\zs.map LX.l=(ps.take i).map (Ak ys)/\(∀z∈zs,z.n=m/\.row z.A z.n z.c 30 3 (na NR.cells z.l)∈R)/\Hp w (.row B i c5 37 1 (na LX.cells zs)::R) w') (λ_ v _=>n-(intOf v).toNat) ?_ ?_
 .exact abv
 clear hh;rintro ρ' v5 v w' ⟨i,c5,B,zs,R,hi,rfl,rfl,hzm,hzR,hh⟩;by_cases hlt:i<n
 .obtain⟨p,hx⟩:=ea (l:=ps) (k:=i) Z';obtain⟨p1,p2,p3,p4⟩:=hp p (G' hx);obtain⟨ad,rfl,hr⟩:=hL.at_ Z';refine fa ?_;refine uE ?_;refine Sb ?_;intro b7 w7 hh ws hh;replace hh:=hh.Lb 30 3;refine Ra [8,9,10,11,12,13,22,23,24,25,26,27,28,29,30,31,32,33,34,35,36,37,38,39,40,41] 8 22 (λv8 v w'=>∃(j c8:Nat)(E:Option Addr),j<=m/\v=.int .i64 j/\v8=.slice E j c8/\Hp w (.row E j c8 30 3 (na NR.cells ((List.range j).map (Ek p ys)))::.blk b7 24 [.int .i64 p.v,.slice p.A p.n p.c] (0,0)::.row B i c5 37 1 (na LX.cells zs)::R) w') (λ_ v _=>m-(intOf v).toNat) ?_ ?_
  .exact⟨0,0,none,D' _,rfl,rfl,hh⟩
  clear hh;rintro ρ2 v8 v w2 ⟨j,c8,E,hj,rfl,rfl,hh⟩;by_cases hjm:j<m
  .have g0:=WE j p4 Z' U';have he:Bz p j=0:=(by unfold Bz PX.e;rw[p4.e,J' rfl,L' Z']);have hdv:=λw1 hT1 hb1=>Cz p j k w1 hT1 (p1.ext hb1) p2 Z';rw[he] at hdv;have hst:=Mp (Ek p ys) j;have om:∀(g:PX)(w1:World),g.v=p.v->g.ts=sa (Im j p.ts)->Sc w1->g.at_ w1->g.n<=g.c->Below w.heap.size w w1->Calls prog 28 #[.agg #[.int .i64 g.v,.slice g.A g.n g.c],.slice X m cx] w1 λr w'=>(∃e:Int,r=.returned (.tuple #[.agg #[.bool (Ek p ys j).neg,.string (Ek p ys j).Qa,.int .i64 (Ek p ys j).e],.int .i64 e]))/\Below w1.heap.size w1 w':=λg w1 gv gt hT1 ha hc hb=>(by have h:=Qu g ys X m cx (k+24+100) w1 hT1 ha ⟨by have:=ha.ln;have:=g0.len;rw[gt] at*;omega,hc,by rw[gt];exact g0.ok,by rw[gt];exact g0.sz⟩ (hX.ext hb) hxl (λy h=>⟨(hy y h).1,(hy y h).2.mono Z'⟩) Z';rw[(jU (g:=g) (h:=pxD p.v (sa (Im j p.ts))) gv gt ys).1] at h;exact h.mono λr w' h=>⟨⟨_,h.1⟩,h.2⟩);generalize Ek p ys j=s at*;refine fa ?_;refine qa (hdv _ (hT.hp hh) hh.below) ja.out rfl U' ?_;rintro e_ w28 ⟨g,og,rfl,h3⟩;refine⟨_,rfl, ?_⟩;replace hh:=hh.join h3;clear h3;simp only[C',E'] at hh;have gv:=og.v;have gt:=og.ts;rw[J' rfl] at gv gt;refine Sb ?_;intro b10 w10 hh ws hh;refine qa (om g _ gv gt (hT.hp hh) (hh.ra (i:=1) rfl) (hh.me (i:=1) rfl) hh.below) ja.out rfl U' ?_;rintro e_ w34 ⟨⟨e,rfl⟩,hb_⟩;refine⟨_,rfl, ?_⟩;replace hh:=hh.ext hb_;refine Sb ?_;intro b12 w12 hh ws hh;refine Nm ?_;intro b39 w39 hh;refine oQ ?_;intro A40 c40 w40 hh;simp only[U_,F_] at hh;replace hh:=hh.sub (s_ _ _);refine fa ?_;replace hh:=hh.perm (P_ (l₁:=[_,_,_,_,_]));simp only[C',E'] at hh;replace hh:=hh.perm (P_ (l₁:=[_,_,_,_,_]));simp only[C',E'] at hh;replace hh:=hh.perm (P_ (l₁:=[_,_,_,_,_]));simp only[C',E'] at hh
   replace hh:=hh.sub (I' _ (I' _ (I' _ (p' _ (p' _ (p' _ (A_ _)))))));refine⟨⟨j+1,c40,A40,Z',rfl,rfl,by rw[hst,La];exact hh.sub (I' _ (I' _ (I' _ (A_ _))))⟩,by show m-(j+1)<m-j;omega, ?_⟩;exact Rc
  obtain rfl:m=j:=Z';refine fa ?_;refine QG ?_;intro b44 w44 hh;refine tF ?_;intro A45 c45 w45 hh;simp only[U_,F_] at hh;replace hh:=hh.sub (s_ _ _);refine fa ?_;replace hh:=hh.perm (P_ (l₁:=[_,_]));simp only[C',E'] at hh;replace hh:=hh.sub (I' _ (I' _ (p' _ (A_ _))));refine⟨⟨i+1,c45,A45,zs++[⟨E,m,c8,Ak ys p⟩],.row E m c8 30 3 (na NR.cells (Ak ys p))::R,Z',rfl,rfl,by rw[n_,hzm,oa hx,n_];rfl,λy hy=> ?_,by rw[La];unfold Ak;rw[hxl];exact hh⟩,by show n-(i+1)<n-i;omega, ?_⟩
  .obtain hy|hy:=z_.1 hy
   .exact⟨(hzR y hy).1,F' _ (hzR y hy).2⟩
   obtain rfl:=T_.1 hy;exact⟨rfl,q'⟩
  exact Rc
 obtain rfl:n=i:=Z';rw[W_ Z'] at hzm;refine fa ?_;exact⟨B,c5,zs,R,rfl,hzm,hzR,hh⟩
def uB{x y:Dyadic}(hx:0<=x)(hy:0<=y):0<=x*y:=by
 rcases(by grind:x=0\/0<x) with h|h
 .rw[h,Dyadic.zero_mul];grind
 rcases(by grind:y=0\/0<y) with h2|h2
 .rw[h2,W5];grind
 have:=Lean.Grind.OrderedRing.mul_pos h h2;grind
def OJ{x:Dyadic}(hx:0<=x):∀n:Nat,0<=x^n
 |0=>by rw[p7];decide+kernel
 |n+1=>by rw[U5];exact uB (OJ hx n) hx
def PU{x:Dyadic}(hx:0<x):∀n:Nat,0<x^n
 |0=>by rw[p7];decide+kernel
 |n+1=>by rw[U5];exact Lean.Grind.OrderedRing.mul_pos (PU hx n) hx
variable {ds:List Nat}
def lL:∀(ds rs:List Nat)(ts:List Dyadic),(∀t∈ts,0<=t/\t<1)->0<=Az ds rs ts
 |[],_,_,_=>by show(0:Dyadic)<=1;decide+kernel
 |_::_,[],_,_=>by show(0:Dyadic)<=1;decide+kernel
 |_::_,_::_,[],_=>by show(0:Dyadic)<=1;decide+kernel
 |d::ds,r::rs,t::ts,h=>(by obtain⟨h1,h2⟩:=h t q';exact uB (uB (OJ h1 r) (OJ (by grind) (d-r))) (lL ds rs ts λt ht=>h t (F' _ ht)))
def tM:∀(ds:List Nat)(ts:List Dyadic),(∀t∈ts,0<=t/\t<1)->0<Az ds (Eb ds 0) ts
 |[],_,_=>by show(0:Dyadic)<1;decide+kernel
 |d::ds,[],_=>by show(0:Dyadic)<1;decide+kernel
 |d::ds,t::ts,h=>(by obtain⟨h1,h2⟩:=h t q';have e:Eb (d::ds) 0=0::Eb ds 0:=(by show 0 % (d+1)::Eb ds (0/(d+1))=_;rw[Nat.zero_mod,Nat.zero_div]);rw[e];refine Lean.Grind.OrderedRing.mul_pos ?_ (tM ds ts λt ht=>h t (F' _ ht));unfold Mt;rw[p7,W7];exact PU (by grind) _)
def SM{α:Type}:∀(l:List α)(f g:α->Dyadic),(∀a∈l,f a<=g a)->sm l f<=sm l g
 |[],_,_,_=>by show(0:Dyadic)<=0;grind
 |a::l,f,g,h=>(by have h1:=h a q';have h2:=SM l f g λa ha=>h a (F' _ ha);show f a+sm l f<=g a+sm l g;grind)
def CQ{Y ts:List Dyadic}(ht:∀t∈ts,0<=t/\t<1)(h:∀p,p<la ds->0<(Y[p]?).getD 0):0<jq ds Y ts:=by
 have hc:=Cc ds;obtain⟨N,hN⟩:∃N,la ds=N+1:=⟨la ds-1,Z'⟩;have h0:=Lean.Grind.OrderedRing.mul_pos (h 0 hc) (tM ds ts ht);unfold jq;rw[hN,List.range_succ_eq_map];show 0<_+sm _ _;have h1:sm (List.map Nat.succ (List.range N)) (λ_=>(0:Dyadic))<=sm (List.map Nat.succ (List.range N)) λp=>(Y[p]?).getD 0*Az ds (Eb ds p) ts:=SM _ _ _ λp hp=>(by obtain⟨q,hq,rfl⟩:=Z_.1 hp;have h2:=g_.1 hq;exact uB (by have:=h (q+1) Z';grind) (lL _ _ _ ht));rw[ko (λ_ _=>rfl)] at h1;grind
def Sz.ofNat(c:Nat)(h:c<256):Sz 8 ((c:Int):Dyadic):=
 ⟨(c:Int)*2^8,Bg (c:Int) U',by rw[U8,Int.natAbs_natCast];exact T9 (n8 h U') U'⟩
def BG(t:List Nat)(i:Nat):Dyadic:=Dyadic.ofIntWithPrec ((t[i]?).getD 0:Nat) 8
def DC(t:List Nat)(h:∀c∈t,c<256)(i:Nat):Sz 8 (BG t i)/\0<=BG t i/\BG t i<1:=by
 unfold BG;have h1:(t[i]?).getD 0<256:=by
  cases hc:t[i]? with
  |none=>decide
  |some c=>exact h c (G' hc)
 generalize (t[i]?).getD 0=c at*;refine⟨⟨c,rfl,by rw[Int.natAbs_natCast];exact T9 h1 U'⟩, ?_, ?_⟩
 .rw[<-Zh 8,ach];omega
 rw[show(1:Dyadic)=Dyadic.ofIntWithPrec 256 8 by decide+kernel,Tp];omega
def af4(s:SR)(a b:Dyadic):Prop:=(0<b/\s.lo.ma*b<=a/\a<=s.hi.ma*b)\/(b<0/\a<=s.lo.ma*b/\s.hi.ma*b<=a)
def HF(f:Dyadic->Dyadic->Bool):∀(r:List Dyadic)(a:Dyadic),r.foldl (λout a=>if f a out then a else out) a∈a::r
 |[],a=>q'
 |y::r,a=>by
  rw[F7];have h:=HF f r (if f y a then y else a);obtain h|h:=S_.1 h
  .rw[h];by_cases h2:f y a
   .rw[J' h2];exact F' _ q'
   rw[L' h2];exact q'
  exact F' _ (F' _ h)
def dY{f:Dyadic->Dyadic->Bool}{l:List Dyadic}(h:l≠[]):vg f l∈l:=by
 cases l with
 |nil=>exact absurd rfl h
 |cons a r=>exact HF f r a
def val_neg(ds:List Nat)(Y ts:List Dyadic):jq ds (Y.map λy=> -y) ts= -jq ds Y ts:=by
 have h:∀p:Nat,((Y.map λy=> -y)[p]?).getD 0= -1*(Y[p]?).getD 0:=λp=>by
  rw[V_]
  cases Y[p]? with
  |none=>show(0:Dyadic)= -1*0;grind
  |some y=>show -y= -1*y;grind
 have h1:jq ds (Y.map λy=> -y) ts= -1*jq ds Y ts:=(by unfold jq;rw[<-Vk];refine J_ _ (funext λp=> ?_);rw[h];grind);rw[h1];grind
def abO{Y ts:List Dyadic}(ht:∀t∈ts,0<=t/\t<1)(h:∀p,p<la ds->(Y[p]?).getD 0<0):jq ds Y ts<0:=by
 have h1:=CQ (ds:=ds) (Y:=Y.map λy=> -y) ht λp hp=>by
  have h2:=h p hp;rw[V_]
  cases hy:Y[p]? with
  |none=>rw[hy] at h2;exact absurd h2 (show ¬(0:Dyadic)<0 by grind)
  |some y=>rw[hy] at h2;show 0< -y;replace h2:y<0:=h2;grind
 rw[val_neg] at h1;grind
def BC(f:FX)(k:Nat)(w:World)(hT:Sc w)(hf:f.at_ w)(hl:f.Zg k)(he:f.e=0):Calls prog 138 #[.agg #[.slice f.A f.n f.a,.slice f.B f.m f.b]] w λr w'=>r=.returned (.bool (decide (Pj f.cs≠0)))/\Below w.heap.size w w':=by
 have hh:=Hp.start w;have hs:=λw1 hT1 (hb:Below w.heap.size w w1)=>Gu f k w1 hT1 (hf.ext hb) hl he;generalize Pj f.cs=g at*;by_cases h:g=0
 .subst h;refine da (N:=12) (l:=[.agg #[.slice f.A f.n f.a,.slice f.B f.m f.b]]) func138 rfl rfl (by simp) ?_;refine Jb ?_;intro b1 w1 hh;refine Oa hh (hs _ (hT.hp hh) hh.below) rfl ?_;intro w7 hh;refine fa ?_;exact⟨by rw[O_ (λx=>x rfl)],hh.below⟩
 refine da (N:=12) (l:=[.agg #[.slice f.A f.n f.a,.slice f.B f.m f.b]]) func138 rfl rfl (by simp) ?_;refine Jb ?_;intro b1 w1 hh;refine Oa hh (hs _ (hT.hp hh) hh.below) rfl ?_;intro w7 hh;exact uQ
def oE(A:Option Addr)(n c:Nat)(fs:List FX)(k:Nat)(w:World)(hT:Sc w)(hL:Sl w A n 2 (na FX.cells fs))(hn:n<=1000000)(hf:∀f∈fs,f.at_ w)(hl:∀f∈fs,f.Zg k)(he:∀f∈fs,f.e=0):Calls prog 73 #[.slice A n c] w λr w'=>r=.returned (.bool (fs.any λf=>decide (Pj f.cs≠0)))/\Below w.heap.size w w':=by
 have hh:=Hp.start w;refine da (N:=5) (l:=[.slice A n c]) func73 rfl rfl (by simp) ?_;refine fa ?_;refine Oa hh (Px A n c fs _ [] (λf=>decide (Pj f.cs≠0)) _ (hL.ext hh.below) hn λz w1 hz hb=>BC z k w1 ((hT.hp hh).ext hb) ((hf z hz).ext (hh.below.trans (hb.mono hh.below.size))) (hl z hz) (he z hz)) rfl ?_;intro w4 hh;refine fa ?_;exact⟨rfl,hh.below⟩
structure aaR(k:Nat)(ns:List Nat)(X:List Dyadic)(f:FX):Prop where
 is:f.is ns X
 d12:ns.length<=12
 d127:∀d∈ns,d<=127
 lx:X.length=la ns
 CP:la ns<=4096
 zx:∀x∈X,Sz k x
def WO{ns:List Nat}{X:List Dyadic}{f:FX}{p:Int}(h:aaR k ns X f)(hk:1600<=k)(hk2:k<=250000)(hp1: -1000<=p)(hp2:p<=1000):(Vw X ns p).fin 1002014:=by
 have hpk:=VF h.d12 h.d127 h.zx hk hk2;unfold Vw
 cases hps:Bh X ns with
 |nil=>
  exfalso;have h1:(Bh X ns).length=0:=by rw[hps];rfl
  have h2:=Cc ns;have h3:=h.lx;unfold Bh xz at h1;rw[a7,i',zv] at h1;omega
 |cons a l=>
  rw[hps] at hpk;obtain⟨h1,_⟩:=hpk _ (Co (-1) a l);obtain⟨h2,_⟩:=hpk _ (Co 1 a l);exact⟨cm.of ((fK p h1.zn h1.zw hp1 hp2).mono Z') U',cm.of ((fK p h2.zn.neg h2.zw hp1 hp2).neg.mono Z') U'⟩
def yT(p:Int)(o:Dyadic)(d:List Nat×List Dyadic):Dyadic:=vg (λx y=>decide (y<x)) [o,Dj (Vw d.2 d.1 p).lo.ma,Dj (Vw d.2 d.1 p).hi.ma]
def wi(p:Int)(ds:List (List Nat×List Dyadic)):Dyadic:=ds.foldl (yT p) 0
def LH(A:Option Addr)(n c:Nat)(fs:List FX)(ds:List (List Nat×List Dyadic))(p:Int)(k:Nat)(w:World)(hT:Sc w)(hL:Sl w A n 2 (na FX.cells fs))(hn:n<=1000000)(hf:∀f∈fs,f.at_ w)(hl:ds.length=n)(hg:∀(i:Nat)(f:FX)(d:List Nat×List Dyadic),fs[i]?=some f->ds[i]?=some d->aaR k d.1 d.2 f)(hk:1600<=k)(hk2:k<=250000)(hp1: -1000<=p)(hp2:p<=1000):Calls prog 75 #[.slice A n c,.int .i64 p] w λr w'=>r=.returned (.tuple #[.agg (NR.cells (nR (wi p ds))).toArray,.int .i64 0])/\Below w.heap.size w w':=by
 have hh:=Hp.start w;have hln:fs.length=n:=hL.Fa FX.len U';refine da (N:=39) (l:=[.slice A n c,.int .i64 p]) func75 rfl rfl (by simp) ?_;refine Dm ?_;intro b4 w4 hh b6 w6 hh ws hh;refine Ba [5,8,9,10,14,15,16,17,18,19,20,21,22,23,24,25,26,27,28,29,30,31,32,33,34,35,36,37] 14 (λv w'=>∃i:Nat,i<=n/\v=.int .i64 i/\Sz 1002014 (wi p (ds.take i))/\Hp w [.blk b6 30 (NR.cells (nR (wi p (ds.take i)))) (0,0),.blk b4 30 [.bool false,.string (ByteArray.mk #[]),.int .i64 0] (0,0)] w') (λv _=>n-(intOf v).toNat) ?_ ?_
 .exact⟨0,D' _,rfl,Sz.zero _,hh⟩
 clear hh;rintro ρ' v w' ⟨i,hi,rfl,zo,hh⟩;by_cases hlt:i<n
 .obtain⟨f,hx⟩:=ea (l:=fs) (k:=i) Z';obtain⟨d,hd⟩:=ea (l:=ds) (k:=i) Z';have g:=hg i f d hx hd;obtain⟨ad,rfl,hr⟩:=hL.at_ Z';have hsp:=λw1 hT1 hb=>zF f d.1 d.2 p k w1 hT1 ((hf f (G' hx)).ext hb) g.is g.d12 g.d127 g.lx g.CP g.zx hk hk2 hp1 hp2;have hfin:=WO g hk hk2 hp1 hp2;have hst:wi p (ds.take (i+1))=yT p (wi p (ds.take i)) d:=by unfold wi;rw[oa hd,V7];rfl
  unfold yT at hst;generalize Vw d.2 d.1 p=s at*;generalize wi p (ds.take i)=o at*;have h1:=hfin.1;have h2:=hfin.2;have ha1:=λw1 hT1=>Kv s.lo w1 hT1 (by have:=h1.ok.1;omega) (by have:=h1.ok.2.1;omega) (by have:=h1.ok.2.2;omega);have ha2:=λw1 hT1=>Kv s.hi w1 hT1 (by have:=h2.ok.1;omega) (by have:=h2.ok.2.1;omega) (by have:=h2.ok.2.2;omega);rw[show(if s.lo.ma<0 then -s.lo.ma else s.lo.ma)=Dj s.lo.ma from rfl] at ha1;rw[show(if s.hi.ma<0 then -s.hi.ma else s.hi.ma)=Dj s.hi.ma from rfl] at ha2;have z1:=Sz.Dj h1.sz;have z2:=Sz.Dj h2.sz;have hmx:=λA c w1 hT1 hS1=>Ly A 3 c [nR o,nR (Dj s.lo.ma),nR (Dj s.hi.ma)] w1 hT1 hS1 (by simpa using⟨zo.ok U',z1.ok U',z2.ok U'⟩) U';rw[show([nR o,nR (Dj s.lo.ma),nR (Dj s.hi.ma)].map NR.ma)=[o,Dj s.lo.ma,Dj s.hi.ma] by simp[Za]] at hmx;have zm:Sz 1002014 (vg (λx y=>decide (y<x)) [o,Dj s.lo.ma,Dj s.hi.ma]):=by
   have:=dY (f:=λx y=>decide (y<x)) (l:=[o,Dj s.lo.ma,Dj s.hi.ma]) (by simp);obtain h|h:=S_.1 this
   .rw[h];exact zo
   obtain h|h:=S_.1 h
   .rw[h];exact z1
   rw[T_.1 h];exact z2
  generalize Dj s.lo.ma=x at*;generalize Dj s.hi.ma=y at*;refine fa ?_;refine Wv ?_;refine Sb ?_;intro b8 w8 hh ws hh;refine Oa hh (hsp _ (hT.hp hh) hh.below) rfl ?_;intro w21 hh;replace hh:Hp _ (_::.blk _ _ [_,_,_] _::_) _:=hh;refine Sb ?_;intro b9 w9 hh ws hh;refine Ca 7 [[(6,none)],[(9,none)],[(29,some 1)],[(30,some 2)],[(9,none)],[(32,some 4)],[(33,some 5)]] [(6,34),(5,33),(4,32),(3,31),(2,30),(1,29),(0,28)] hh mixed T' ?_;refine Vd 2 [_,_,_] ?_;refine yd ?_;refine Vd 0 [_,_,_] ?_;refine dC (λ_ hj=>ha1 _ (hT.hp hj.hp)) ?_;refine yd ?_;refine Vd 0 [_,_,_] ?_;refine dC (λ_ hj=>ha2 _ (hT.hp hj.hp)) ?_;refine xa ?_;intro f W hJ hV;have hb_8:=hJ.bl;obtain⟨v34,v33,v32,v31,v30,v29,v28,_⟩:=hV;replace hh:=hJ.hp;refine Da (Na (aa v34 (aa v33 (aa v32 (aa v31 (aa v30 (aa v29 (aa v28 Ea)))))))) ?_;dsimp only[Bb];clear hJ;refine vc hh (cs:=[_,_,_,_,_,_,_,_,_]) lb.out ya.out (Rb (Ld rfl) (Rb (Ld rfl) (Rb (Ld rfl) oe))) rfl rfl U' U' U' rfl U' ?_;intro b35 w35 hh;refine Oa hh (hmx _ _ _ (hT.hp hh) (hh.ra (i:=0) rfl)) rfl ?_;intro w36 hh;refine Jb ?_;intro ws hh
  replace hh:=hh.sub (p' _ (p' _ (p' _ (I' _ (I' _ H_)))));refine⟨⟨i+1,Z',rfl,by rw[hst];exact zm,by rw[hst];exact hh⟩,by show n-(i+1)<n-i;omega, ?_⟩;exact Rc
 obtain rfl:n=i:=Z';rw[W_ Z'] at hh;refine Jb ?_;intro ws hh;refine bV (qd rfl (pd (vs:=[_,_,_]) ya.out (hh.pb (i:=1) (n:=3) rfl rfl) rfl) (gh (ej rfl) Be)) ?_;exact⟨rfl,hh.below⟩
variable {ps:List PX}
def Qt(ps:List PX)(b:List SR):Int:=match ps.find? (λp=>decide (pg p b []≠0)) with
 |some p=>pg p b []
 |none=>if ps.length=0\/ps.length≠b.length\/8<ps.length then 1 else 0
def SW{b:List SR}{i:Nat}{p:PX}(h:∀q∈ps.take i,pg q b []=0)(hp:ps[i]?=some p)(h0:pg p b []≠0):Qt ps b=pg p b []:=by
 have:ps.find? (λp=>decide (pg p b []≠0))=some p:=(by have hi:=(X_.1 hp).1;rw[<-P9 i ps,List.find?_append,L7.2 λx hx=>by simpa using h x hx,Ge hp,B5 (by simpa using h0)];rfl);unfold Qt;rw[this]
def sK{b:List SR}(h:∀q∈ps,pg q b []=0):Qt ps b=if ps.length=0\/ps.length≠b.length\/8<ps.length then 1 else 0:=by
 have:ps.find? (λp=>decide (pg p b []≠0))=none:=L7.2 λx hx=>by simpa using h x hx
 unfold Qt;rw[this]
structure SqP(k:Nat)(p:PX)(b:List SR)(w:World):Prop where
 at_:p.at_ w
 Zg:p.Zg k
 gr:Ql p b (gm p [])=0->Qe (k+k+16394) (Ac p.v p.ts) (k+1)<=440000
def Pq(L:Option Addr)(n c:Nat)(ps:List PX)(B:Option Addr)(m cb:Nat)(b:List SR)(k:Nat)(w:World)(hT:Sc w)(hL:Sl w L n 2 (na PX.cells ps))(hn:n<=1000)(hp:∀p∈ps,SqP k p b w)(hB:Sl w B m 6 (na SR.cells b))(hb:∀s∈b,s.fin k)(hm:m<=1000000)(hk:k<=1000):Calls prog 71 #[.slice L n c,.slice B m cb] w λr w'=>(Qt ps b≠0/\r=.returned (.tuple #[.slice none 0 0,.int .i64 (Qt ps b)])/\Below w.heap.size w w')\/(Qt ps b=0/\∃(A:Option Addr)(a:Nat)(fs:List FX)(R:List HE),r=.returned (.tuple #[.slice A n a,.int .i64 0])/\fs.length=n/\(∀(i:Nat)(p:PX)(f:FX),ps[i]?=some p->fs[i]?=some f->f.is (Ac p.v p.ts) (Uo (Ac p.v p.ts) (vd p (db b)).2))/\(∀f∈fs,f.rg∈R/\f.fg∈R)/\Hp w (.row A n a 78 2 (na FX.cells fs)::R) w'):=by
 have hh:=Hp.start w;have hln:ps.length=n:=hL.Fa PX.len U';have hbl:b.length=m:=hB.Fa SR.len U';refine da (N:=47) (l:=[.slice L n c,.slice B m cb]) func71 rfl rfl (by simp) ?_;refine fa ?_;replace hh:=hh.Lb 78 2;refine Ra [4,5,6,8,9,10,13,14,15,16,17,18,19,20,21,22,23,24,25,26,27,28,29,30] 6 13 (λv6 v w'=>∃(i c6:Nat)(A:Option Addr)(fs:List FX)(R:List HE),i<=n/\v=.int .i64 i/\v6=.slice A i c6/\fs.length=i/\(∀q∈ps.take i,pg q b []=0)/\(∀(j:Nat)(p:PX)(f:FX),ps[j]?=some p->fs[j]?=some f->f.is (Ac p.v p.ts) (Uo (Ac p.v p.ts) (vd p (db b)).2))/\(∀f∈fs,f.rg∈R/\f.fg∈R)/\Hp w (.row A i c6 78 2 (na FX.cells fs)::R) w') (λ_ v _=>n-(intOf v).toNat) ?_ ?_
 .exact⟨0,0,none,[],[],D' _,rfl,rfl,rfl,λq h=>absurd h O9,λj p f _ h=>by simp at h,λf h=>absurd h O9,hh⟩
 clear hh;rintro ρ' v6 v w' ⟨i,c6,A,fs,R,hi,rfl,rfl,hfl,hok,hfs,hR,hh⟩;by_cases hlt:i<n
 .obtain⟨p,hx⟩:=ea (l:=ps) (k:=i) Z';obtain⟨p1,p2,p3⟩:=hp p (G' hx);obtain⟨ad,rfl,hr⟩:=hL.at_ Z';have hof:=λw1 hT1 hb1=>TO p B m cb b none 0 0 [] k w1 hT1 (p1.ext hb1) p2 (hB.ext hb1) hb hm (Sl.nil _ _ _) U' (j' _) hk p3;replace hof:∀w1,Sc w1->Below w.heap.size w w1->Calls prog 94 #[.agg #[.int .i64 p.v,.slice p.A p.n p.c],.slice B m cb,.slice none 0 0] w1 λr w'=>∃g:FX,Out (pg p b []) (Ac p.v p.ts) (Uo (Ac p.v p.ts) (vd p (db b)).2) g/\r=.returned (.tuple #[.agg #[.slice g.A g.n g.a,.slice g.B g.m g.b],.int .i64 (pg p b [])])/\Hp w1 [g.rg,g.fg] w':=hof;have hbad:=λh=>SW hok hx h;have hX:∀f:FX,Out 0 (Ac p.v p.ts) (Uo (Ac p.v p.ts) (vd p (db b)).2) f->f.is (Ac p.v p.ts) (Uo (Ac p.v p.ts) (vd p (db b)).2):=λf o=>⟨o.ds,o.cs⟩;generalize hX2:Uo (Ac p.v p.ts) (vd p (db b)).2=X at hof hX;generalize hE:pg p b []=E at*;refine fa ?_;refine uE ?_;refine Sb ?_;intro b8 w8 hh ws hh;refine qa (hof _ (hT.hp hh) hh.below) ja.out rfl U' ?_;rintro e_ w20 ⟨g,o1,rfl,h3⟩;refine⟨_,rfl, ?_⟩;replace hh:=hh.join h3;simp only[C',E'] at hh;clear h3
  by_cases hE0:E=0
  .subst hE0;refine Sb ?_;intro b9 w9 hh ws hh;refine Sj ?_;intro b28 w28 hh;refine tN ?_;intro A29 c29 w29 hh;simp only[U_,F_] at hh;replace hh:=hh.sub (s_ _ _);refine fa ?_;replace hh:=hh.perm (P_ (l₁:=[_,_]));simp only[C',E'] at hh;replace hh:=hh.perm (P_ (l₁:=[_,_]));simp only[C',E'] at hh;replace hh:=hh.perm (P_ (l₁:=[_,_,_,_]));simp only[C',E'] at hh;replace hh:=hh.sub (I' _ (I' _ (I' _ (p' _ (p' _ (A_ _))))));refine⟨⟨i+1,c29,A29,fs++[g],g.rg::g.fg::R,Z',rfl,rfl,by rw[Y_,hfl];rfl,λq hq=> ?_,λj p2 f h1 h2=> ?_,λf hf=> ?_,by rw[La];exact hh⟩,by show n-(i+1)<n-i;omega, ?_⟩
   .rw[oa hx] at hq;obtain hq|hq:=z_.1 hq
    .exact hok q hq
    rw[T_.1 hq];exact hE
   .by_cases hj:j<i
    .rw[X8 Z'] at h2;exact hfs j p2 f h1 h2
    have hj2:=(X_.1 h2).1;rw[Y_,hfl] at hj2;obtain rfl:j=i:=by have:j<i+1:=hj2;omega
    rw[I9 Z',hfl,f_] at h2;obtain rfl:g=f:=L_ h2;rw[hx] at h1;obtain rfl:=L_ h1;rw[hX2];exact hX _ o1
   .exact aeT
   exact Rc
  refine Sb ?_;intro b9 w9 hh ws hh;exact .inl ⟨by rw[hbad hE0];exact hE0,by rw[hbad hE0],hh.below⟩
 obtain rfl:n=i:=Z';rw[W_ Z'] at hok;have hend:=sK hok;by_cases h0:n=0
 .subst h0;rw[J' (.inl hln)] at hend;exact pS
 by_cases h1:n=m
 .by_cases h8:8<n
  .rw[J' (.inr (.inr Z'))] at hend;exact pS
  rw[L' Z'] at hend;refine fa ?_;exact .inr ⟨hend,A,c6,fs,R,rfl,hfl,hfs,hR,hh⟩
 rw[J' (.inr (.inl Z'))] at hend;exact pS
abbrev FD:=List Nat×List Dyadic
structure iw(k:Nat)(d:FD):Prop where
 d12:d.1.length<=12
 d127:∀x∈d.1,x<=127
 lx:d.2.length=la d.1
 CP:la d.1<=200
 zx:∀x∈d.2,Sz k x
def kf(ds:List FD)(l:List NR):List FX:=List.zipWith (λd c=>MP d.1 (d.2.map λx=>x*c.ma)) ds l
def QE(A:Option Addr)(n c:Nat)(fs:List FX)(ds:List FD)(X:Option Addr)(cx:Nat)(l:List NR)(k q:Nat)(w:World)(hT:Sc w)(hL:Sl w A n 2 (na FX.cells fs))(hn:n<=1000)(hf:∀f∈fs,f.at_ w)(hd:ds.length=n)(hg:∀(i:Nat)(f:FX)(d:FD),fs[i]?=some f->ds[i]?=some d->f.is d.1 d.2)(hz:∀d∈ds,iw k d)(hX:Sl w X n 3 (na NR.cells l))(hl:∀a∈l,a.ok/\Sz q a.ma)(hk:k+q<=90000):Calls prog 145 #[.slice A n c,.slice X n cx] w λr w'=>∃g:FX,Out (Mb (kf ds l)) (maxD (kf ds l)) (gU ((kf ds l).map (Oi (maxD (kf ds l))))) g/\r=.returned (.tuple #[.agg #[.slice g.A g.n g.a,.slice g.B g.m g.b],.int .i64 (Mb (kf ds l))])/\Hp w [g.rg,g.fg] w':=by
 have hh:=Hp.start w;have hln:fs.length=n:=hL.Fa FX.len U';have hxl:l.length=n:=hX.Fa NR.len U';have hml:(kf ds l).length=n:=by unfold kf;rw[a7];omega
 refine da (N:=36) (l:=[.slice A n c,.slice X n cx]) func145 rfl rfl (by simp) ?_;refine Jb ?_;intro b4 w4 hh;replace hh:=hh.Lb 78 2;refine Ra [6,7,8,9,10,13,14,15,16,17,18,19,20,21,22,23,24,25,26,27,28,29,30,31] 6 13 (λv6 v w'=>∃(i c6:Nat)(B:Option Addr)(gs:List FX)(R:List HE),i<=n/\v=.int .i64 i/\v6=.slice B i c6/\gs.map FX.key=((kf ds l).take i).map FX.key/\(∀g∈gs,(g.rg∈R/\g.fg∈R)/\g.Zg 90000/\g.m<=200)/\Hp w (.row B i c6 78 2 (na FX.cells gs)::.blk b4 78 [.slice none 0 0,.slice none 0 0] (0,0)::R) w') (λ_ v _=>n-(intOf v).toNat) ?_ ?_
 .exact abv
 clear hh;rintro ρ' v6 v w' ⟨i,c6,B,gs,R,hi,rfl,rfl,hgk,hgR,hh⟩;by_cases hlt:i<n
 .obtain⟨f,hx⟩:=ea (l:=fs) (k:=i) Z';obtain⟨d,hdi⟩:=ea (l:=ds) (k:=i) Z';obtain⟨a,ha⟩:=ea (l:=l) (k:=i) Z';obtain⟨ad,rfl,hr⟩:=hL.at_ Z';obtain⟨ax,rfl,hcr⟩:=hX.at_ Z';have hfa:=hf f (G' hx);have hfi:=hg i f d hx hdi;obtain⟨a1,a2⟩:=hl a (G' ha);obtain⟨z1,z2,z3,z4,z5⟩:=hz d (G' hdi);have hsc:=λw1 hT1 hb1=>PQ f a 90000 w1 hT1 (hfa.ext hb1) (hfi.Zg hfa z1 z3 Z' (λx hx=>(z5 x hx).mono Z') U') a1 (a2.mono Z') U';rw[hfi.e z1 z2 z3 Z',show f.ns=d.1 by unfold FX.ns;rw[hfi.ds];exact Dh _,show(f.cs.map λx=>x.ma*a.ma)=d.2.map λx=>x*a.ma by rw[hfi.cs,Z9];exact y8 λx _=>by show(nR x).ma*a.ma=_;rw[Za]] at hsc;have hmi:(kf ds l)[i]?=some (MP d.1 (d.2.map λx=>x*a.ma)):=by unfold kf;rw[L8,hdi,ha]
  have hlx:(d.2.map λx=>x*a.ma).length=la d.1:=by rw[i'];exact z3
  have hzx:∀x∈(d.2.map λx=>x*a.ma),Sz 90000 x:=λx hx=>(by obtain⟨y,hy,rfl⟩:=Z_.1 hx;exact((z5 y hy).mul a2).mono hk);generalize (d.2.map λx=>x*a.ma)=Y at*;refine fa ?_;refine Wv ?_;refine Sb ?_;intro b8 w8 hh ws hh;refine Cd [9] [8] [0,0,0,6,14,31,63,127,127,0,767,2047] 10 [[(8,none)],[(1,none)],[(7,none)],[(20,some 1),(21,some 2)],[(22,some 3)],[(19,some 0),(23,some 4)],[(24,some 5)],[(18,some 6)],[(18,some 6)],[]] [(9,9),(8,26),(7,25),(6,18),(5,24),(4,23),(3,22),(2,21),(1,20),(0,19)] hh mixed T' (xi rfl ya.out Pd) rfl (by repeat (first|exact Cb|refine Xa ?_|refine Db ?_)) ?_;refine Vd 0 [_,_] ?_;refine De ?_;refine cd ?_;refine jj (i) ?_;refine Dn [_,_,_] (λ_ hj=>(hcr.ext hj.hp.below).recAt NR.len ha) ?_;refine Va (i:=5) (HI hh.sz 0 d.1 Y) (HI.ext) ?_ ?_
  .intro ρ1 w1 hj hR;exact Pb rfl (qb ja.out (Ga (show ρ1 19=Value.agg (List.toArray _) from hR.1) (Ga (show ρ1 23=Value.agg (List.toArray _) from hR.2.1) Fb))) (hsc _ (hT.hp hj.hp) hj.hp.below) (λ_ _ ⟨g,q1,q2,q3⟩=>⟨_,q2,q3.below,g,_,rfl,q1,hj.bl.size,q3⟩)
  refine Va (i:=6) (HI hh.sz 0 d.1 Y) (HI.ext) ?_ ?_
  .exact DR
  refine Va (i:=7) (RG hh.sz 0 d.1 Y) (RG.ext) ?_ ?_
  .exact yS
  refine Va (i:=8) (Is (.int .i64 0)) (Is.ext) ?_ ?_
  .exact UR
  refine Va (i:=9) (Gc _ 78 _) Gc.ext (λρ1 w1 hj hR=>Ui ya.out hj.bl (λv w2 h hb=>⟨hb,h⟩)) ?_;refine xa ?_;intro f W hJ hV _;have hb_5:=hJ.bl;obtain⟨v9,v26,v25,v18,v24,v23,v22,v21,v20,v19,_⟩:=hV;obtain⟨g24,u24,e24, -⟩:=v24;obtain⟨g18,u18,e18, -⟩:=v18;obtain⟨g25,u25,e25,o25,q25,h25⟩:=v25;obtain⟨b9,e9,hl9,hc9⟩:Gc _ _ _ (f 9) W:=v9;replace hh:=hJ.Qk hh hl9 hc9 q25 h25 (FX.ne h25 hc9 U' U');refine Da (Na (aa e9 (aa v26 (aa e25 (aa e18 (aa e24 (aa v23 (aa v22 (aa v21 (aa v20 (aa v19 Ea))))))))))) ?_;dsimp only[Bb];clear e24 e18 e25 e9 hJ;refine Jb ?_;intro ws hh;refine Sj ?_;intro b29 w29 hh;refine tN ?_;intro A30 c30 w30 hh;simp only[U_,F_] at hh;replace hh:=hh.sub (s_ _ _);refine fa ?_;replace hh:=hh.perm (P_ (l₁:=[_,_,_,_,_]));simp only[C',E'] at hh;replace hh:=hh.perm (P_ (l₁:=[_,_,_,_,_]));simp only[C',E'] at hh
  replace hh:=hh.sub (I' _ (I' _ (p' _ (I' _ (I' _ (p' _ (A_ _)))))));have g1:g25.is d.1 Y:=⟨o25.ds,o25.cs⟩;have g2:=hh.Hj (f:=g25) (G' (i:=2) rfl) (G' (i:=3) rfl);refine⟨⟨i+1,c30,A30,gs++[g25],g25.rg::g25.fg::R,Z',rfl,rfl,by rw[n_,hgk,oa hmi,n_,J7,J7,g1.agi g2],λy hy=> ?_,by rw[La];exact hh⟩,by show n-(i+1)<n-i;omega, ?_⟩
  .obtain hy|hy:=z_.1 hy
   .obtain⟨⟨h1,h2⟩,h3⟩:=hgR y hy;exact⟨⟨F' _ (F' _ h1),F' _ (F' _ h2)⟩,h3⟩
   obtain rfl:=T_.1 hy;exact⟨⟨q',F' _ q'⟩,g1.Zg g2 z1 hlx Z' hzx U',by rw[(g1.key g2).2];omega⟩
  exact Rc
 obtain rfl:n=i:=Z';rw[W_ Z'] at hgk;obtain⟨_,k2,k3,k4⟩:=pV hgk;rw[<-k2,<-k3,<-k4];refine fa ?_;refine qa (aa6 B n c6 gs 90000 _ (hT.hp hh) (hh.ra (i:=0) rfl) hn (λg hg=>hh.Hj (F' _ (F' _ (hgR g hg).1.1)) (F' _ (F' _ (hgR g hg).1.2))) (λg hg=>(hgR g hg).2.1) (λg hg=>(hgR g hg).2.2) U') ja.out rfl U' ?_;rintro e_ w33 ⟨g,og,rfl,h3⟩;refine⟨_,rfl, ?_⟩;replace hh:=hh.join h3;clear h3;simp only[C',E'] at hh;refine Jb ?_;intro ws hh;refine vM ?_;exact⟨g,og,rfl,hh.sub (I' _ (I' _ (R9 _)))⟩
def iq(b:List SR):List NR:=b.mapIdx λ_ s=>nR s.f.qh
def Jm(ps:List PX)(b:List SR):List (List NR):=ps.map (Ak (iq b))
variable {rs:List (List NR)}
def Iu(ds:List FD)(rs:List (List NR)):Int:=match rs.find? (λr=>decide (Mb (kf ds r)≠0)) with
 |some r=>Mb (kf ds r)
 |none=>0
def PX.Zg.ad7{g:PX}(h:g.Zg k)(hk:k<=j):g.Zg j:=⟨h.n,h.cap,h.ok.mono hk,h.sz⟩
def Em.mono{v:Int}{D:Nat}(h:Em v k n D ts)(hk:k<=j):Em v j n D ts:=⟨h.e,h.ok.mono hk,h.sz,h.len,h.ex⟩
def LN{ds:List FD}{i:Nat}{r:List NR}(h:∀q∈rs.take i,Mb (kf ds q)=0)(hr:rs[i]?=some r)(h0:Mb (kf ds r)≠0):Iu ds rs=Mb (kf ds r):=by
 have:rs.find? (λr=>decide (Mb (kf ds r)≠0))=some r:=(by rw[<-P9 i rs,List.find?_append,L7.2 λx hx=>by simpa using h x hx,Ge hr,B5 (by simpa using h0)];rfl);unfold Iu;rw[this]
def MN{ds:List FD}(h:∀q∈rs,Mb (kf ds q)=0):Iu ds rs=0:=by
 have:rs.find? (λr=>decide (Mb (kf ds r)≠0))=none:=L7.2 λx hx=>by simpa using h x hx
 unfold Iu;rw[this]
def uq(ps:List PX)(b:List SR)(ds:List FD):Int:=if Gm (Jm ps b)=0 then 4 else Iu ds (fy (Jm ps b) ps.length)
def Pw(ds:List FD)(r:List NR):FD:=(maxD (kf ds r),gU ((kf ds r).map (Oi (maxD (kf ds r)))))
def lr(ps:List PX)(b:List SR)(ds:List FD):List FD:=(fy (Jm ps b) ps.length).map (Pw ds)
def kC(L:Option Addr)(n c:Nat)(ps:List PX)(B:Option Addr)(cb:Nat)(b:List SR)(A:Option Addr)(ca:Nat)(fs:List FX)(ds:List FD)(k q kp D:Nat)(w:World)(hT:Sc w)(hL:Sl w L n 2 (na PX.cells ps))(hn:n<=3)(hp:∀p∈ps,p.at_ w/\p.Zg kp/\p.v=n/\Em p.v kp 100 D p.ts)(hB:Sl w B n 6 (na SR.cells b))(hb:∀s∈b,s.fin kp)(hkp:kp<=500)(hA:Sl w A n 2 (na FX.cells fs))(hf:∀f∈fs,f.at_ w)(hd:ds.length=n)(hg:∀(i:Nat)(f:FX)(d:FD),fs[i]?=some f->ds[i]?=some d->f.is d.1 d.2)(hz:∀d∈ds,iw k d)(hs:∀l∈Jm ps b,∀a∈l,a.ok/\Sz q a.ma)(hk:k+(16*q+32)<=90000):Calls prog 76 #[.slice L n c,.slice B n cb,.slice A n ca] w λr w'=>(uq ps b ds≠0/\r=.returned (.tuple #[.slice none 0 0,.int .i64 (uq ps b ds)])/\Below w.heap.size w w')\/(uq ps b ds=0/\∃(C:Option Addr)(cc:Nat)(gs:List FX)(R:List HE),r=.returned (.tuple #[.slice C n cc,.int .i64 0])/\gs.length=n/\(∀(i:Nat)(g:FX)(d:FD),gs[i]?=some g->(lr ps b ds)[i]?=some d->g.is d.1 d.2)/\(∀g∈gs,g.rg∈R/\g.fg∈R)/\Hp w (.row C n cc 78 2 (na FX.cells gs)::R) w'):=by
 have hh:=Hp.start w;have hln:ps.length=n:=hL.Fa PX.len U';have hbl:b.length=n:=hB.Fa SR.len U';have hyl:(iq b).length=n:=by unfold iq;rw[Q7];exact hbl
 have hyz:∀y∈iq b,y.ok/\Sz (kp+2) y.ma:=λy hy=>(by unfold iq at hy;obtain⟨i,hi,rfl⟩:=List.mem_mapIdx.1 hy;have h1:=SR.Yo (hb _ (List.getElem_mem hi)) Z';have h2:=Sz.qh h1.1.sz h1.2.sz;exact⟨h2.ok Z',by rw[Za];exact h2⟩);have hmd:=λw1 hT1 hb1=>eK B n cb b kp w1 hT1 (hB.ext hb1) hb Z' Z';rw[show(b.mapIdx λ_ s=>nR s.f.qh)=iq b from rfl] at hmd;refine da (N:=56) (l:=[.slice L n c,.slice B n cb,.slice A n ca]) func76 rfl rfl (by simp) ?_;refine fa ?_;refine qa (hmd _ (hT.hp hh) hh.below) ja.out rfl U' ?_;rintro e_ w20 ⟨A20,c20,rfl,hown_,hb_⟩;refine⟨_,rfl, ?_⟩;replace hh:=hh.Aa (x:=.row _ _ _ _ _ _) hb_ hown_;have hm20:=hh.ra (i:=0) rfl;refine qa (rC L n c ps _ n _ (iq b) (kp+2) D _ (hT.hp hh) (hL.ext hh.below) Z' (λp h=>⟨(hp p h).1.ext hh.below,(hp p h).2.1.ad7 Z',(hp p h).2.2.1,(hp p h).2.2.2.mono Z'⟩) hm20 Z' hyz Z') ja.out rfl U' ?_;rintro e_ w21 ⟨E,ce,zs,R1,rfl,hzm,hzR,h3⟩;refine⟨_,rfl, ?_⟩;replace hzm:zs.map LX.l=Jm ps b:=hzm;replace hh:=hh.join h3;clear h3 hm20;simp only[C',E'] at hh;have hTK:∀(w1:World)(H1:List HE),Hp w H1 w1->(∀e∈R1,e∈H1)->yH q zs w1:=λw1 H1 h1 hm=>⟨λx hx1=>jf (h1.own _ (hm _ (hzR x hx1).2)),λx hx1=>by rw[(hzR x hx1).1];omega,λx hx1 a ha=>hs x.l (by rw[<-hzm];exact a6 hx1) a ha⟩
 have hdt:=λw1 hT1 hS1 hk1=>pB E n ce q zs w1 hT1 hS1 hk1 Z' (λx hx1=>(hzR x hx1).1) Z';have had:=λw1 hT1 hS1 hk1=>gO E n ce q zs w1 hT1 hS1 hk1 Z' (λx hx1=>(hzR x hx1).1) Z';rw[hzm] at hdt had;unfold uq lr;rw[hln];have hsg:=λw1=>Pc (nR (Gm (Jm ps b))) w1;have haz:∀l∈fy (Jm ps b) n,∀a∈l,a.ok/\Sz (16*q+32) a.ma:=λl hl a ha=>(by unfold fy iP at hl;obtain⟨i,hi,rfl⟩:=Z_.1 hl;obtain⟨j,hj,rfl⟩:=Z_.1 ha;have h1:=(wI (L:=Jm ps b) (n:=n) (K:=q) (i:=i) (k:=j) (by unfold Jm;rw[i'];exact hln) hn (λl hl=>by unfold Jm Ak at hl;obtain⟨p,hp,rfl⟩:=Z_.1 hl;rw[i',u9];exact hyl) (λl hl a ha=>(hs l hl a ha).2) (g_.1 hi) (g_.1 hj)).2;exact⟨h1.ok Z',by rw[Za];exact h1⟩);have hal:(fy (Jm ps b) n).length=n:=by unfold fy;rw[i',u9]
 generalize Gm (Jm ps b)=d0 at*;generalize fy (Jm ps b) n=AJ at*;refine fa ?_;refine Oa hh (hdt _ (hT.hp hh) (hh.ra (i:=0) rfl) (hTK _ _ hh λe h=>F' _ (x9 _ h))) rfl ?_;intro w24 hh;by_cases h0:d0=0
 .subst h0;rw[J' rfl];rw[show(nR 0).i.sign=0 from rfl] at hsg;refine Sb ?_;intro b9 w9 hh ws hh;refine Oa hh (hsg _) rfl ?_;intro w28 hh;refine fa ?_;exact .inl ⟨U',rfl,hh.below⟩
 rw[L' h0];have hsn:(nR d0).i.sign≠0:=λh=>h0 (by
  rw[n6] at h;rw[<-adG d0,h,Zh])
 have hsb:=nk (nR d0).i;generalize (nR d0).i.sign=sg at*;refine Sb ?_;intro b9 w9 hh ws hh;refine Oa hh (hsg _) rfl ?_;intro w28 hh;refine fa ?_;replace hh:=hh.perm (P_ (l₁:=[_]));simp only[C',E'] at hh;refine qa (had _ (hT.hp hh) (hh.ra (i:=0) rfl) (hTK _ _ hh λe h=>F' _ (F' _ (x9 _ h)))) ja.out rfl U' ?_;rintro e_ w32 ⟨C,cc,ys,R2,rfl,hym,hyR,h3⟩;refine⟨_,rfl, ?_⟩;replace hh:=hh.join h3;clear h3;simp only[C',E'] at hh;have hAJ:∀(i:Nat)(y:LX),ys[i]?=some y->AJ[i]?=some y.l:=λi y hy=>by rw[<-hym,V_,hy];rfl
 have hyn:ys.length=n:=(hh.ra (i:=0) rfl).Fa LX.len U';refine fa ?_;replace hh:=hh.Lb 78 2;refine Ra [6,7,13,15,16,17,37,38,39,40,41,42,43,44,45,46,47,48,49,50,51,52,53,54] 13 37 (λv13 v w'=>∃(i c13:Nat)(G:Option Addr)(gs:List FX)(R:List HE),i<=n/\v=.int .i64 i/\v13=.slice G i c13/\gs.length=i/\(∀r∈AJ.take i,Mb (kf ds r)=0)/\(∀(j:Nat)(g:FX)(r:List NR),gs[j]?=some g->AJ[j]?=some r->g.is (Pw ds r).1 (Pw ds r).2)/\(∀g∈gs,g.rg∈R/\g.fg∈R)/\(∀y∈ys,.row y.A y.n y.c 30 3 (na NR.cells y.l)∈R)/\Hp w (.row G i c13 78 2 (na FX.cells gs)::.row C n cc 37 1 (na LX.cells ys)::R) w') (λ_ v _=>n-(intOf v).toNat) ?_ ?_
 .exact⟨0,0,none,[],_,D' _,rfl,rfl,rfl,λq h=>absurd h O9,λj g r h=>by simp at h,λf h=>absurd h O9,λy hy=>x9 _ (hyR y hy).2,hh⟩
 clear hh;rintro ρ' v13 v w' ⟨i,c13,G,gs,R,hi,rfl,rfl,hgl,hok,hgs,hR,hyR2,hh⟩;by_cases hlt:i<n
 .obtain⟨y,hyi⟩:=ea (l:=ys) (k:=i) Z';have hmy:=G' hyi;have hAi:=hAJ i y hyi;have hyo:=hyR2 y hmy;have hyn2:=(hyR y hmy).1;have hbad:=λh=>LN hok hAi h;obtain⟨yA,m,yc,yl⟩:=y;obtain rfl:m=n:=hyn2;replace hbad:Mb (kf ds yl)≠0->Iu ds AJ=Mb (kf ds yl):=hbad;replace hAi:AJ[i]?=some yl:=hAi;have hmx:=λw1 hT1 hb1 hS1=>QE A m ca fs ds yA yc yl k (16*q+32) w1 hT1 (hA.ext hb1) Z' (λf h=>(hf f h).ext hb1) hd hg hz hS1 (haz yl (G' hAi)) hk;have htr:∀g:FX,Out 0 (maxD (kf ds yl)) (gU ((kf ds yl).map (Oi (maxD (kf ds yl))))) g->g.is (Pw ds yl).1 (Pw ds yl).2:=λg o=>⟨o.ds,o.cs⟩;obtain⟨gC,rfl⟩:=hh.Ob (i:=1) rfl Z';generalize hmE:Mb (kf ds yl)=mE at*;refine fa ?_;refine ub ya.out rfl (hh.Gd (f:=LX.cells) (x:=⟨yA,m,yc,yl⟩) (l:=ys) (i:=1) rfl LX.len U' hyi 0 _ rfl) U' ?_;refine fa ?_;refine qa (hmx _ (hT.hp hh) hh.below (jf (hh.own _ (F' _ (F' _ hyo))))) ja.out rfl U' ?_;rintro e_ w44 ⟨g,og,rfl,h3⟩;refine⟨_,rfl, ?_⟩;replace hh:=hh.join h3;clear h3;simp only[C',E'] at hh;by_cases hE0:mE=0
  .subst hE0;refine Sb ?_;intro b16 w16 hh ws hh;refine Sj ?_;intro b52 w52 hh;refine oQ ?_;intro A53 c53 w53 hh;simp only[U_,F_] at hh;replace hh:=hh.sub (s_ _ _);refine fa ?_;replace hh:=hh.perm (P_ (l₁:=[_,_]));simp only[C',E'] at hh;replace hh:=hh.perm (P_ (l₁:=[_,_]));simp only[C',E'] at hh;replace hh:=hh.perm (P_ (l₁:=[_,_,_,_]));simp only[C',E'] at hh;replace hh:=hh.perm (P_ (l₁:=[_,_,_,_]));simp only[C',E'] at hh;replace hh:=hh.sub (I' _ (I' _ (I' _ (I' _ (p' _ (A_ _))))));refine⟨⟨i+1,c53,A53,gs++[g],g.rg::g.fg::R,Z',rfl,rfl,by rw[Y_,hgl];rfl,λr hr=> ?_,λj g2 r h1 h2=> ?_,λf hf=> ?_,λy hy=>F' _ (F' _ (hyR2 y hy)),by rw[La];exact hh⟩,by show m-(i+1)<m-i;omega, ?_⟩
   .rw[oa hAi] at hr;obtain hr|hr:=z_.1 hr
    .exact hok r hr
    rw[T_.1 hr];exact hmE
   .by_cases hj:j<i
    .rw[X8 Z'] at h1;exact hgs j g2 r h1 h2
    have hj2:=(X_.1 h1).1;rw[Y_,hgl] at hj2;obtain rfl:j=i:=by have:j<i+1:=hj2;omega
    rw[I9 Z',hgl,f_] at h1;obtain rfl:g=g2:=L_ h1;rw[hAi] at h2;obtain rfl:=L_ h2;exact htr g og
   .exact aeT
   exact Rc
  refine Sb ?_;intro b16 w16 hh ws hh;exact .inl ⟨by rw[hbad hE0];exact hE0,by rw[hbad hE0],hh.below⟩
 obtain rfl:n=i:=Z';rw[W_ (Nat.le_of_eq hal)] at hok;refine fa ?_;refine .inr ⟨MN hok,G,c13,gs,R,rfl,hgl,λj g d h1 h2=> ?_,hR,hh.sub (I' _ (p' _ (A_ _)))⟩;rw[V_] at h2
 cases hr:AJ[j]? with
 |none=>rw[hr] at h2;cases h2
 |some r=>
  rw[hr] at h2;obtain rfl:=L_ h2;exact hgs j g r h1 hr
def Bx:∀(N:Nat)(l:List Nat),l.Nodup->(∀x∈l,x<N)->l.length<=N
 |0,l,_,h=>by
  cases l with
  |nil=>exact j' _
  |cons x l=>exact absurd (h x q') Z'
 |N+1,l,hd,h=>by
  by_cases hm:N∈l
  .have h1:=Bx N (l.erase N) (hd.erase N) λx hx=>(by have:=(hd.mem_erase_iff).1 hx;have:=h x this.2;omega);rw[List.length_erase_of_mem hm] at h1;omega
  have:=Bx N l hd λx hx=>(by have:=h x hx;have:x≠N:=λe=>hm (e ▸ hx);omega);omega
def PW{l:List TR}(hr:jv l)(h:∀t∈l,Nj ds (Kc t.m)):l.length<=la ds:=by
 have h1:=Bx (la ds) (l.map λt=>Jd ds (Kc t.m)) (by
  unfold List.Nodup;rw[List.pairwise_map];refine List.Pairwise.imp_of_mem (λ{a b} ha hb hl e=> ?_) hr;have e2:Kc a.m=Kc b.m:=by rw[<-Wh (h a ha),e,Wh (h b hb)]
  rw[ZG e2,Og] at hl
  cases hl) (λx hx=>by
  obtain⟨t,ht,rfl⟩:=Z_.1 hx;exact Vj (h t ht))
 rwa[i'] at h1
def ab8{v:Nat}{l:List TR}{B:Nat->Nat}(hs:∀t∈l,t.m.size=v)(h:Al B l):∀t∈l,Nj ((List.range v).map B) (Kc t.m):=λt ht=>by
 rw[Vl];refine⟨by rw[Jk,hs t ht,i',u9],λi d r hd hr=> ?_⟩;have hi:=(X_.1 hd).1;rw[i',u9] at hi;rw[V_,z9 hi] at hd;have:=h t ht i;rw[HK,hr] at this;rw[<-L_ hd];exact this
def ar{v:Nat}{B:Nat->Nat}(h:Gf (v:Int) ts=0)(hb:Al B ts):ts.length<=la ((List.range v).map B):=by
 obtain⟨_,_,h3,h4⟩:=Ub h;refine PW h4.Eu (ab8 (λt ht=> ?_) hb);have:=h3 t ht;unfold pe at this;rw[Q_,K_] at this;omega
def YA{v:Int}{q p:List TR}{sub:List TR->Int×List TR}{j D K T B c N:Nat}(hv:Wg v=true)(hq:bj v K q)(hT:q.length<=T)(hD:∀t∈p,qg j t<=D)(hb:∀n,(sub (Ya p j n)).1=0->bj v B (sub (Ya p j n)).2/\(sub (Ya p j n)).2.length<=N) (hN:∀i,i<=128->(rb q sub p j i).1=0->(rb q sub p j i).2.length<=N)(hc:K+N*T+(N*T+N)<=c)(hS:B+D*c+N<=500000)(hc2:c<=100000)(hN4:N<=4096):
  ∀i,i<=128->(rb q sub p j i).1=0->bj v (B+(i+D-128)*c+N) (rb q sub p j i).2
 |0,_,_=>bj.nil hv
 |i+1,hi,h0=>by
  by_cases h1:i+1+D<=127
  .rw[wh hD _ h1];exact bj.nil hv
  have h2:(rb q sub p j i).1=0:=(by refine a8 λc=> ?_;rw[tj c (Nat.le_succ i)] at h0;exact c h0);have hle:(i+1+D-128)*c<=D*c:=N9 _ Z';have ih:=YA hv hq hT hD hb hN hc hS hc2 hN4 i Z' h2;have hNi:=hN i Z' h2;have hst:i+D<=127->rb q sub p j i=(0,[]):=wh hD i;have hmul:¬i+D<=127->(i+1+D-128)*c=(i+D-128)*c+c:=λh=>by rw[show i+1+D-128=(i+D-128)+1 by omega,n9]
  have hle0:(i+D-128)*c<=(i+1+D-128)*c:=N9 _ Z';rw[Ji] at h0 |-;unfold Ch at h0 |-;rw[L' (λh=>h h2)] at h0 |-;by_cases c1:(rb q sub p j i).2.length=0/\(Ya p j (127-i)).length=0
  .rw[J' c1];exact ih.mono Z'
  rw[L' c1] at h0 |-;by_cases c2:Ff (rb q sub p j i).2 q≠0
  .rw[J' c2] at h0;exact absurd h0 c2
  rw[L' c2] at h0 |-;by_cases c3:(sub (Ya p j (127-i))).1≠0
  .rw[J' c3] at h0;exact absurd h0 c3
  rw[L' c3] at h0 |-;by_cases c4:Qf (sa (Zb (rb q sub p j i).2 q)++(sub (Ya p j (127-i))).2)≠0
  .rw[J' c4] at h0;exact absurd h0 c4
  rw[L' c4];obtain⟨hs1,hs2⟩:=hb (127-i) Z';obtain⟨f1,f2,f3,f4⟩:=Ub ih.e;obtain⟨g1,g2,g3,g4⟩:=Ub hs1.e;by_cases hlow:i+D<=127
  .rw[hst hlow];have hl:(sa (Zb [] q)++(sub (Ya p j (127-i))).2).length<=N:=hs2;refine(Zl (k:=B) (n:=N) hv (λt ht=>g3 t ht) (λt ht=>hs1.ok t ht) (λt ht=>hs1.sz t ht) hl Z' Z').mono Z'
  have ht:=(pk (p:=(rb q sub p j i).2) (q:=q) Z');have hpl:(Zb (rb q sub p j i).2 q).length<=N*T:=by rw[rj];exact o9 hNi hT
  have hm:=hmul hlow;rw[hm] at hle |-;generalize (i+D-128)*c=y at*;generalize D*c=z at*;have hpo:=Rr ih.ok hq.ok Z';have hg1:=Cg (k:=B+y+N+K) (j:=B+y+N+K+N*T) hpo Z' Z';have hg2:=Vb (Zb (rb q sub p j i).2 q);have hmm:∀{P:TR->Prop},(∀t∈sa (Zb (rb q sub p j i).2 q),P t)->(∀t∈(sub (Ya p j (127-i))).2,P t)->∀t∈sa (Zb (rb q sub p j i).2 q)++(sub (Ya p j (127-i))).2,P t:=λa b t ht=>(z_.1 ht).elim (a t) (b t);refine⟨We hv (Er Z') (hmm (Hl (Yn f3 ht.2.1)) g3),Cg (k:=B+y+N+K+N*T) (hmm hg1 (hs1.ok.mono Z')) (by rw[Y_];omega) Z',jm (hmm (XE ih.ok hq.ok hq.sz Z' Z').2 hs1.sz)⟩
def iU{v T c:Nat}(hv:v<=12)(D:Nat->Nat)(hN:la ((List.range v).map D)<=N)(hc:K+N*T+(N*T+N)<=c)(hc2:c<=100000)(hN4:N<=4096):∀(qs:List (List TR))(j:Nat)(p:List TR)(ds:List Nat)(k:Nat),(∀(i:Nat)(q:List TR),qs[i]?=some q->bj v K q/\q.length<=T/\Al (λx=>if x=j+i then 1 else 0) q)->xg k p->ds.length=qs.length->(∀(i d:Nat),ds[i]?=some d->D (j+i)=d)->(∀t∈p,∀i,i<qs.length->qg (j+i) t<=D (j+i))->k+1+(ds.sum+ds.length)*c<=400000->(Je v qs j p).1=0->bj v (k+1+(ds.sum+ds.length)*c) (Je v qs j p).2/\(Je v qs j p).2.length<=N:=by
 intro qs
 induction qs with
 |nil=>
  intro j p ds k _ hok hds _ _ hB _;obtain rfl:ds=[]:=Z6.1 hds;have h1:bj v (k+1) (Je v [] j p).2:=(by refine Dt (ug hv) ?_ Z';exact WZ);refine⟨h1.mono (Nat.le_add_right _ _),N_ (ar h1.e (B:=λ_=>0) (Qy v _).sa) (N_ ?_ hN)⟩;have e:∀(f:Nat->Nat)(l:List Nat),la (l.map λ_=>0)<=la (l.map f):=λf l=>by
   induction l with
   |nil=>exact j' _
   |cons x l ih=>exact o9 (Nat.succ_le_succ (D' _)) ih
  exact e D _
 |cons q qs ih=>
  intro j p ds k hq hok hds hdD hp hB h0
  cases ds with
  |nil=>cases hds
  |cons d ds=>
   have hdj:D j=d:=hdD 0 d rfl;obtain⟨hq1,hq2,hq3⟩:=hq 0 q rfl;rw[q9] at hq3;rw[x6,E_] at hB |-;have hBe:(d+ds.sum+(ds.length+1))*c=(ds.sum+ds.length)*c+d*c+c:=by rw[show d+ds.sum+(ds.length+1)=(ds.sum+ds.length)+d+1 by omega,T7,T7,Y7]
   rw[hBe] at hB |-;have hNc:N<=c:=Z';have hpw:∀n,∀t∈Ya p j n,∀i,i<qs.length->qg (j+1+i) t<=D (j+1+i):=λn t ht i hi=>(by exact FZ);have hsub:∀n,(Je v qs (j+1) (Ya p j n)).1=0->bj v (k+1+(ds.sum+ds.length)*c) (Je v qs (j+1) (Ya p j n)).2/\(Je v qs (j+1) (Ya p j n)).2.length<=N:=λn hn=>by
    refine ih (j+1) (Ya p j n) ds k (λi r hr=> ?_) (λt ht=>hok t (Wi t ht)) (by simpa using hds) (λi e he=> ?_) (hpw n) Z' hn
    .have:=hq (i+1) r (by simpa using hr);rwa[show j+1+i=j+(i+1) by omega]
    have:=hdD (i+1) e (by simpa using he);rwa[show j+1+i=j+(i+1) by omega]
   have hsbn:∀n,(Je v qs (j+1) (Ya p j n)).1=0->Al (λx=>if j+1<=x/\x<j+1+qs.length then D x else 0) (Je v qs (j+1) (Ya p j n)).2:=λn hn=>LB qs (j+1) (Ya p j n) D (λi r hr=>by
    have:=(hq (i+1) r (by simpa using hr)).2.2;rwa[show j+1+i=j+(i+1) by omega]) (hpw n) hn
   have hDp:∀t∈p,qg j t<=d:=λt ht=>by rw[<-hdj];exact hp t ht 0 (by rw[E_];omega)
   rw[kt] at h0 |-;generalize Je v qs (j+1)=sub at hsub hsbn h0 |-;have hlim0:∀i,i<=128->(rb q sub p j i).1=0->Gf (v:Int) (rb q sub p j i).2=0:=λi hi hz=>by
    clear h0
    induction i with
    |zero=>exact(bj.nil (k:=0) (ug hv)).e
    |succ i ihi=>
     have h2:(rb q sub p j i).1=0:=(by refine a8 λc=> ?_;rw[tj c (Nat.le_succ i)] at hz;exact c hz);have e0:=ihi Z' h2;rw[Ji] at hz |-;unfold Ch at hz |-;rw[L' (λh=>h h2)] at hz |-;by_cases c1:(rb q sub p j i).2.length=0/\(Ya p j (127-i)).length=0
     .rw[J' c1];exact e0
     rw[L' c1] at hz |-;by_cases c2:Ff (rb q sub p j i).2 q≠0
     .rw[J' c2] at hz;exact absurd hz c2
     rw[L' c2] at hz |-;by_cases c3:(sub (Ya p j (127-i))).1≠0
     .rw[J' c3] at hz;exact absurd hz c3
     rw[L' c3] at hz |-;by_cases c4:Qf (sa (Zb (rb q sub p j i).2 q)++(sub (Ya p j (127-i))).2)≠0
     .rw[J' c4] at hz;exact absurd hz c4
     rw[L' c4];refine We (ug hv) (Er Z') λt ht=>(z_.1 ht).elim (Hl (Yn (Ub e0).2.2.1 (pk Z').2.1) t) ((Ub (hsub _ Z').1.e).2.2.1 t)
   have hbn:=Cs hq3 hDp (E:=λx=>if j+1<=x/\x<j+1+qs.length then D x else 0) (by rw[L' Z']) hsbn;have hNN:∀i,i<=128->(rb q sub p j i).1=0->(rb q sub p j i).2.length<=N:=λi hi hz=>by
    refine N_ (ar (hlim0 i hi hz) ((hbn i hi hz).mono (C:=D) λx=> ?_)) hN;by_cases hx:x=j
    .rw[J' hx,hx,hdj];omega
    rw[L' hx];split
    .exact j' _
    exact D' _
   have e:∀m,m=128->(rb q sub p j m).1=0->bj v (k+1+((ds.sum+ds.length)*c+d*c+c)) (rb q sub p j m).2/\(rb q sub p j m).2.length<=N:=λm hm hz=>(by have h3:=YA (ug hv) hq1 hq2 hDp hsub hNN hc Z' hc2 hN4 m Z' hz;rw[show m+d-128=d by omega] at h3;exact⟨h3.mono Z',hNN m Z' hz⟩);exact e 128 rfl h0
end Go.Proofs.YtbencocchdpikaaGreatDoor
