/- Lemmas for solveAll, part 8. -/
import Derived.OrdersIn
import Derived.Test.YtbencocchdpikaaGreatDoorZ7
set_option linter.all false
set_option maxHeartbeats 0
namespace Go.Proofs.YtbencocchdpikaaGreatDoor
open Go.Proofs.Tryz
open Go.RowKit
def GX(n:Nat)(s1 s1' s2 s2':Bool)(a1 a1' a2 a2':ByteArray)(e1 e1' e2 e2':Int)(w:World):(Op.equalIn (n+4) 36 (.agg #[.bool s1,.string a1,.int .i64 e1,.bool s2,.string a2,.int .i64 e2]) (.agg #[.bool s1',.string a1',.int .i64 e1',.bool s2',.string a2',.int .i64 e2'])).run prog w=.ok (((s1==s1' && a1==a1') && e1==e1') && ((s2==s2' && a2==a2') && e2==e2')) w:=by
 have h1:=λ(x x':Bool) (y y':ByteArray) (z z':Int)=>MV (P:=prog) (cs:= #[.bool x,.string y,.int .i64 z,.bool x',.string y',.int .i64 z']) (vs:= #[.bool x,.string y,.int .i64 z]) (off:=0) (ya.out (P:=prog) (t:=30)) rfl;have h2:=λ(x x':Bool) (y y':ByteArray) (z z':Int)=>MV (P:=prog) (cs:= #[.bool x,.string y,.int .i64 z,.bool x',.string y',.int .i64 z']) (vs:= #[.bool x',.string y',.int .i64 z']) (off:=3) (ya.out (P:=prog) (t:=30)) rfl;rw[Op.equalIn];simp[run_underlying Tryz.underlying36,h1,h2,GV]
 cases h:((s1==s1' && a1==a1') && e1==e1')<;>cases h':((s2==s2' && a2==a2') && e2==e2')<;>simp_all
variable {ρ:Rf}{w:World}{d:Option Nat}{ty u:TypeId}{pos:String}{af:Array Edge}{x y:Operand}{s:SR}
def rX{g:Option (Nat×Bool)}(hx:ev ρ x=.agg s.cells.toArray)(hy:ev ρ y=.agg s.cells.toArray):(execOp (ev ρ) ⟨d,.binOp .neq 36 x y u,ty,pos,af,g⟩).run prog w=.ok (.value (.bool false)) w:=by
 have h0:=GX 9996 s.lo.neg s.lo.neg s.hi.neg s.hi.neg s.lo.Qa s.lo.Qa s.hi.Qa s.hi.Qa s.lo.e s.lo.e s.hi.e s.hi.e w;rw[fm.2 rfl,fm.2 rfl] at h0;have h1:(Op.equal 36 (.agg s.cells.toArray) (.agg s.cells.toArray)).run prog w=.ok true w:=h0;simp only[execOp,hx,hy];simp[eqGuard,binOp,h1]
def yD(L:Option Addr)(n c:Nat)(b:List SR)(M:Option Addr)(c2:Nat)(w:World)(hS:Sl w L n 6 (na SR.cells b))(hS2:Sl w M n 6 (na SR.cells b))(hn:n<=1000000):Calls prog 79 #[.slice L n c,.slice M n c2] w λr w'=>r=.returned (.bool true)/\Below w.heap.size w w':=by
 have hh:=Hp.start w;have hln:=hS.Fa SR.len U';refine da (N:=26) (l:=[.slice L n c,.slice M n c2]) func79 rfl rfl (by simp) ?_;refine fa ?_;refine Ba [4,5,11,12,13,14,15,16,17,18,19,20,21,22,23,24,25] 5 (λv w'=>∃i:Nat,i<=n/\v=.int .i64 i/\Hp w [] w') (λv _=>n-(intOf v).toNat) ?_ ?_
 .exact⟨0,D' _,rfl,hh⟩
 clear hh;rintro ρ' v w' ⟨i,hi,rfl,hh⟩;by_cases hlt:i<n
 .obtain⟨s,hs⟩:=ea (l:=b) (k:=i) Z';obtain⟨ad,rfl,hr⟩:=hS.at_ Z';obtain⟨ad2,rfl,hr2⟩:=hS2.at_ Z';refine fa ?_;refine Ca 8 [[(0,none)],[(5,none)],[(17,some 0),(18,some 1)],[(19,some 2)],[(1,none)],[(5,none)],[(21,some 4),(22,some 5)],[(23,some 6)]] [(7,24),(6,23),(5,22),(4,21),(3,20),(2,19),(1,18),(0,17)] hh mixed T' ?_;refine Ee ?_;refine jd ?_;refine lj (i) ?_;refine Zm [_,_,_,_,_,_] (λ_ hj=>(hr.ext hj.hp.below).recAt SR.len hs) ?_;refine Ee ?_;refine jd ?_;refine lj (i) ?_;refine Zm [_,_,_,_,_,_] (λ_ hj=>(hr2.ext hj.hp.below).recAt SR.len hs) ?_;refine xa ?_;intro f W hJ hV;have hb_6:=hJ.bl;obtain⟨v24,v23,v22,v21,v20,v19,v18,v17,_⟩:=hV;replace hh:=hJ.hp;refine Ea (Na (aa v24 (aa v23 (aa v22 (aa v21 (aa v20 (aa v19 (aa v18 (aa v17 Da))))))))) ?_;dsimp only[Cb];clear hJ;refine Ia rfl rfl U' (rX (s:=s) rfl rfl) ?_;skip;refine fa ?_;exact Hy
 refine fa ?_;exact⟨rfl,hh.below⟩
def pZ(K:ZT):PX:=⟨1,none,0,0,zT K⟩
def PF:List SR:=[⟨⟨false,ByteArray.mk #[],0⟩,nR ((1:Int):Dyadic)⟩]
abbrev P1:ZT:=[([0],1)]
abbrev Q1:ZT:=[([0],1),([1],1)]
abbrev Q2:ZT:=[([1],1)]
abbrev Q3:ZT:=[([0], -1),([1],2)]
def oZ:Dyadic:=((1:Int):Dyadic)*Je (-1)
def ahn:NR:=nR (((1:Int):Dyadic)*Je (-2))
def jF(l:List Int):List Dyadic:=l.map λz:Int=>(z:Dyadic)
def cA:CV:=⟨PF.map SR.f,[1],jF [1,1],jF [1,2]⟩
def cB:CV:=⟨PF.map SR.f,[1],jF [1,1],jF [0,1]⟩
def cC:CV:=⟨PF.map SR.f,[1],jF [1,1],jF [-1,1]⟩
def R0:SR:=⟨nR 0,nR ((1:Int):Dyadic)⟩
def cD:CV:=⟨[R0.f.half (nR R0.f.Ch) false],[1],jF [1,1],jF [-1,0]⟩
def RA:RV:=⟨1,⟨nR oZ,nR ((1:Int):Dyadic)⟩,[]⟩
def RB:RV:=⟨2,SR0,[nR ((0:Int):Dyadic)]⟩
def RC:RV:=⟨2,SR0,[nR oZ]⟩
def VR{s:SR}{v:Int}(h:Cm [s] v):v=((0:Nat):Int):=by
 obtain⟨h,_⟩|⟨m,t,h,hv,_⟩:=h
 .cases h
 match m,h with
 |0,_=>exact hv
structure Eg(P:ZT):Prop where
 b:zB P=true
 g:Te (24+24+16394) (Cc 1 (zT P)) (24+1)<=440000
 f:agq (XP (pZ P) PF).ns ((XP (pZ P) PF).cs.map NR.ma)
def age(K:ZT):VP:=λv W=>∃p:PX,v=.agg #[.int .i64 p.v,.slice p.A p.n p.c]/\p.v=1/\p.ts=zT K/\p.at_ W/\p.n<=p.c/\p.n<=1000
def afo(R:RV):VP:=λv W=>∃g:Option Addr×Nat,v=.agg (R.cells g.1 1 g.2).toArray/\Sl W g.1 1 3 (na NR.cells R.at_)
def afX(base:Nat)(R:RV)(k:Int):VP:=λx W=>∃(g:Option Addr×Nat×Nat)(w1:World),x=.tuple #[.agg (R.cells g.1 g.2.1 g.2.2).toArray,.int .i64 k,.int .i64 0]/\True/\base<=w1.heap.size/\Hp w1 [.row g.1 g.2.1 g.2.2 30 3 (na NR.cells R.at_)] W
def afm(base:Nat)(R:RV):VP:=λx W=>∃(g:Option Addr×Nat×Nat)(w1:World),x=.agg (R.cells g.1 g.2.1 g.2.2).toArray/\True/\base<=w1.heap.size/\Hp w1 [.row g.1 g.2.1 g.2.2 30 3 (na NR.cells R.at_)] W
def lnX(A:Option Addr)(c:Nat)(B:Option Addr)(d:Nat)(a b:Int):FX:=⟨A,1,c,B,2,d,[1],[nR (a:Dyadic),nR (b:Dyadic)]⟩
def aiq(a:NR):Bool:=decide ((8:Int)<a.Qa.size\/a.e< -60\/60<a.e)
def FX.small(f:FX):Prop:=f.fh 124/\f.m<=60/\f.n<=20
abbrev fxL(l:List Int)(A:Option Addr)(a:Nat)(B:Option Addr)(b:Nat):FX:=⟨A,1,a,B,l.length,b,[(l.length:Int)-1],l.map λz:Int=>nR (z:Dyadic)⟩
def agT(ds:List Int)(cs:List NR):VP:=λv W=>∃g:FX,v=.agg #[.slice g.A g.n g.a,.slice g.B g.m g.b]/\g.ds=ds/\g.cs=cs/\g.at_ W
def uV(z:Int):NR:=nR (z:Dyadic)
def ac9(l:List Int):List SR:=l.map λz=>⟨nR 0,uV z⟩
def af5(d:Nat)(xs:List Dyadic)(i:Nat):Dyadic:=Cj xs (i+1)*(((i:Int)+1:Int):Dyadic)-Cj xs i*(((d:Int)-(i:Int):Int):Dyadic)
def ad3(d:Nat)(xs:List Dyadic):List Dyadic:=(List.range d).map (af5 d xs)
abbrev aia:=agb
def aem(q:Nat->Bool)(xs:List Dyadic)(i:Nat):List Dyadic:=((List.range i).filter q).map λp=>(xs[p]?).getD 0
def adJ(ap d:Nat)(p:Nat):Bool:=decide (p/ap % (d+1)<d)
def aeq(ns:List Nat)(a:Nat):List Nat:=ns.set a (ns.getD a 0-1)
def agp(ns:List Nat)(a:Nat)(xs:List Dyadic):List Dyadic:=if ns.getD a 0=0 then List.replicate xs.length 0 else aem (adJ (la (ns.drop (a+1))) (ns.getD a 0)) (rj (ns.drop (a+1)).reverse (ns.getD a 0) (ns.getD a 0) (ad3 (ns.getD a 0)) xs xs.length 0) xs.length
def gaX(ds:List Nat)(X:List Dyadic):Nat->List Dyadic
 |0=>X
 |k+1=>Ji ds (ds.length-1-k) (yg (ds.getD (ds.length-1-k) 0) 1 (-1)) (gaX ds X k)
def aeE(b:List SR)(i:Nat):Dyadic:=match b[i]? with|some s=>s.H-s.L|none=>0
def wP(b:List SR)(ns es:List Nat):Nat->Dyadic
 |0=>1
 |i+1=>wP b ns es i*aeE b i^(ns.getD i 0-es.getD i 0)
def aef(ns:List Nat)(p:Nat):List Nat:=(Fb ns.reverse p).reverse
def agl(b:List SR)(ns:List Nat)(C:List Dyadic)(p:Nat):TR:=⟨fX (Ua (aef ns p)),nR (Cj C p*wP b ns (aef ns p) b.length)⟩
def afC(b:List SR)(ns:List Nat)(C:List Dyadic):List TR:=(List.range (la ns)).map (agl b ns C)
def aez(v i:Nat)(s:SR):List TR:=ua (oC v i++Tk v (-s.L))
def acZ(b:List SR):List PX:=b.mapIdx λi s=>⟨b.length,none,0,0,aez b.length i s⟩
def afR(b:List SR)(ns:List Nat)(C:List Dyadic):PX:=⟨(ns.length:Int),none,0,0,ua (afC b ns C)⟩
def afK(fx:FX):List Dyadic:=gaX fx.ns.reverse (fx.cs.map NR.ma) fx.ns.length
def adP(fx:FX)(b:List SR):Int×List TR:=Ad (afR b fx.ns (afK fx)) (acZ b)
def afy(fx:FX)(b:List SR):Int:=if fx.e≠0 then fx.e else if Gk b≠0 then Gk b else if b.length≠fx.n then 1 else(adP fx b).1
def ahy(n k kb:Nat)(ns:List Nat):Nat:=k+520*n+(1+n+(kb+1)*ns.sum)
structure Marks(w0:World)(M:List Nat)(w:World):Prop where
 at_:∀D∈M,w0.heap.size<=D/\w.heap[D]?=some (.deferred (some []))
 nd:M.Nodup
def aii(d:Nat)(t:Dyadic)(xs:List Dyadic)(i:Nat):Dyadic:=sm (List.range i) λr=>Cj xs r*Yt d r t
def afY(K q:Nat)(X:List Dyadic):List Dyadic:=(X.drop (q*K)).take K
def evE(fx:FX)(m:Nat):Int:=if fx.e≠0 then fx.e else if m≠fx.n then 1 else 0
def evV(fx:FX)(tn:List NR):Dyadic:=if evE fx tn.length=0 then rq fx.ns.reverse (fx.cs.map NR.ma) (tn.map NR.ma).reverse else 0
variable {P:Program}{N:Nat}{Q:Kq}{ro:Option Nat}{D:List Deferred}
structure WR(ro:Option Nat)(D:List Deferred)(P:Program)(N:Nat)(ops:Array Oper)(Q:Kq)(fuel:Nat)(L:Array Bool)(ρ:Rf)(w:World):Prop where
 out:∀a,Yf N D a ρ->∀n,wpAnyIn (FW ro) n P .any ops (Vf N D Q) fuel L a w
instance:ya prog 211 1 false 8 [.nilFunc]:={}
def afH(es:List UInt8)(z:Int):VP:=λv W=>∃g:Option Addr×Nat,v=.agg #[.int .i64 es.length,.slice g.1 1 g.2]/\1<=g.2/\Sl W g.1 1 4 (na TR.cells [⟨str es,uV z⟩])
def smI(l:List Int):Bool:=l.all λz=>decide (z.natAbs<256)
def abo(es:List UInt8)(z:Int):PX:=⟨es.length,none,0,0,[⟨str es,uV z⟩]⟩
def isB(z:Int)(es:List UInt8)(bl ds l:List Int):Bool:=decide (z.natAbs<256/\es.length<=12/\pg (abo es z) (ac9 bl) ds=0/\Wo (ofN (abo es z) ds) (Ad (abo es z) (lb (ac9 bl))).2=l.map (λz:Int=>(z:Dyadic))/\Te (124+124+16394) (Cc es.length [⟨str es,uV z⟩]) (124+1)<=440000) && smI bl && smI l
abbrev fZ(A:Option Addr)(a:Nat)(B:Option Addr)(b:Nat):FX:=⟨A,1,a,B,3,b,[2],[0,0,4].map uV⟩
def kW(a:NR):Bool:=decide (3<(a.Qa.size:Int)\/a.e< -12\/12<a.e)
def Ck(a b:SR):Dyadic:=vf [a.lo.ma,b.hi.ma]
def QB(a b:SR):Int:=Yg (Ck a b) (Ck b a)
def nu(a:SR):Bool:=decide (a.lo.Qa=ByteArray.mk #[])
def ky{a:SR}(h:nu a=true):a.lo.ma=0:=by
 have h1:a.lo.Qa=ByteArray.mk #[]:=D9 h;unfold NR.ma NR.i;rw[h1,show iv a.lo.neg (ByteArray.mk #[])=0 by cases a.lo.neg<;>rfl];simp
def KO{a b:SR}(ha:nu a=true)(hb:nu b=true):QB a b=0:=by
 have e:∀x:Dyadic,vf [0,x]=0:=λx=>by show(1:Dyadic)*0*x=0;grind
 unfold QB Ck;rw[ky ha,ky hb,e,e,Lo]
def Uu(a:SR)(w:World):Calls prog 317 #[.agg (SR.cells a).toArray] w λr w'=>r=.returned (.bool (nu a))/\Below w.heap.size w w':=by
 have hh:=Hp.start w;by_cases h:a.lo.Qa=ByteArray.mk #[]
 .refine da (N:=8) (l:=[.agg (SR.cells a).toArray]) func317 rfl rfl (by simp) ?_;refine Lb ?_;intro b1 w1 hh;refine EM ?_;refine fa ?_;exact⟨by unfold nu;rw[N_ h],hh.below⟩
 refine da (N:=8) (l:=[.agg (SR.cells a).toArray]) func317 rfl rfl (by simp) ?_;refine Lb ?_;intro b1 w1 hh;refine oN ?_;refine fa ?_;exact⟨by unfold nu;rw[O_ h],hh.below⟩
variable {k:Nat}
def Zr(a:SR)(q:NR)(k:Nat)(w:World)(hT:Xc w)(ha:a.lo.ok)(hq:q.ok)(za:Sz k a.lo.ma)(zq:Sz k q.ma)(hk:k<=1000000):Calls prog 318 #[.agg (SR.cells a).toArray,.agg #[.bool q.neg,.string q.Qa,.int .i64 q.e]] w λr w'=>r=.returned (.agg (NR.cells (nR (vf [a.lo.ma,q.ma]))).toArray)/\Below w.heap.size w w':=by
 have hh:=Hp.start w;have hm:=λA cc w1 hT1 hS1=>Fe A 2 cc [a.lo,q] w1 hT1 hS1 (by simpa using⟨ha,hq⟩) k (by simpa using⟨za,zq⟩) Z' Z';refine da (N:=10) (l:=[.agg (SR.cells a).toArray,.agg #[.bool q.neg,.string q.Qa,.int .i64 q.e]]) func318 rfl rfl (by simp) ?_;refine Dm ?_;intro b2 w2 hh b3 w3 hh b4 w4 hh;refine Lr ?_;intro b8 w8 hh;refine Oa hh (hm _ _ _ (hT.hp hh) (hh.ra (i:=0) rfl)) rfl ?_;intro w9 hh;exact EN
structure sw(k:Nat)(a:SR):Prop where
 n:a.lo.ok
 w:a.hi.ok
 zn:Sz k a.lo.ma
 zw:Sz k a.hi.ma
def vA{a b:SR}(ha:sw k a)(hb:sw k b):Sz (1+k*2) (Ck a b):=Sz.prod (k:=k) (l:=[a.lo.ma,b.hi.ma]) (by simpa using⟨ha.zn,hb.zw⟩)
def tI(a b:SR)(k:Nat)(w:World)(hT:Xc w)(ha:sw k a)(hb:sw k b)(hk:k<=1000000):Calls prog 298 #[.agg (SR.cells a).toArray,.agg (SR.cells b).toArray] w λr w'=>r=.returned (.int .i64 (QB a b))/\Below w.heap.size w w':=by
 have hh:=Hp.start w;have h1:=λw1 hT1=>Zr a b.hi k w1 hT1 ha.n hb.w ha.zn hb.zw hk;have h2:=λw1 hT1=>Zr b a.hi k w1 hT1 hb.n ha.w hb.zn ha.zw hk;have o1:=(vA ha hb).ok Z';have o2:=(vA hb ha).ok Z';have hc:=λw1 hT1=>xh (nR (Ck a b)) (nR (Ck b a)) w1 hT1 o1 o2;rw[db,db] at hc;have hz:=λx y=>KO (a:=a) (b:=b) x y;unfold QB at hz |-;rw[show vf [a.lo.ma,b.hi.ma]=Ck a b from rfl] at h1;rw[show vf [b.lo.ma,a.hi.ma]=Ck b a from rfl] at h2;have n1:=λw1=>Uu a w1;have n2:=λw1=>Uu b w1;generalize Ck a b=x at*;generalize Ck b a=y at*;refine da (N:=20) (l:=[.agg (SR.cells a).toArray,.agg (SR.cells b).toArray]) func298 rfl rfl (by simp) ?_;refine Tb ?_;intro b2 w2 hh b3 w3 hh;refine Oa hh (n1 _) rfl ?_;intro w6 hh
 cases g1:nu a with
 |false=>
  exact adz
 |true=>
  refine fa ?_;refine Oa hh (n2 _) rfl ?_;intro w9 hh
  cases g2:nu b with
  |false=>
   exact adz
  |true=>
   refine fa ?_;exact⟨by rw[hz g1 g2],hh.below⟩
def xg(way:Int):SR->List SR->SR:=λa l=>l.foldl (λout x=>if QB x out=way then x else out) a
def SJ(way:Int)(a:SR)(l:List SR)(x:SR):xg way a (l++[x])=if QB x (xg way a l)=way then x else xg way a l:=by
 unfold xg;rw[Y7];rfl
def Oo(way:Int)(a:SR):∀l:List SR,xg way a l∈a::l:=λl=>by
 have h:∀(l:List SR)(b:SR),b∈a::l->∀r:List SR,(∀x∈r,x∈a::l)->r.foldl (λout x=>if QB x out=way then x else out) b∈a::l:=λl b hb r=>by
  induction r generalizing b with
  |nil=>exact λ_=>hb
  |cons y r ih=>
   intro hr;rw[J7];refine ih _ ?_ λx hx=>hr x (F' _ hx);split
   .exact hr y q'
   exact hb
 exact h l a q' l λx hx=>F' _ hx
def II(A:Option Addr)(n c:Nat)(a:SR)(l:List SR)(way:Int)(k:Nat)(w:World)(hT:Xc w)(hS:Sl w A n 6 (na SR.cells (a::l)))(hc:n<=c)(hn:n<=1000000)(hl:∀x∈a::l,sw k x)(hk:k<=1000000):Calls prog 264 #[.slice A n c,.int .i64 way] w λr w'=>r=.returned (.agg (SR.cells (xg way a l)).toArray)/\Below w.heap.size w w':=by
 have hh:=Hp.start w;have hln:l.length+1=n:=hS.Fa SR.len U';have hbk:Sl w (if c=1 then A else A.map (·.add (1*6))) (n-1) 6 (na SR.cells l):=hS.back (l:=1) Z' hc;obtain⟨ad,rfl,hr⟩:=hS.at_ Z';have h00:(a::l)[0]?=some a:=rfl;refine da (N:=26) (l:=[.slice (some ad) n c,.int .i64 way]) func264 rfl rfl (by simp) ?_;refine Lb ?_;intro b4 w4 hh;refine wb (vs:=[_,_,_,_,_,_]) ya.out rfl ((hr.ext hh.below).recAt SR.len h00) rfl U' ?_;refine Tb ?_;intro b5 w5 hh ws hh;refine CS ?_;refine fa ?_;refine Ba [7,14,15,16,17,18,19,20,21,22,23,24] 14 (λv w'=>∃i:Nat,i<=n-1/\v=.int .i64 i/\Hp w [.blk b5 276 (SR.cells (xg way a (l.take i))) (0,0),.blk b4 276 [.bool false,.string (ByteArray.mk #[]),.int .i64 0,.bool false,.string (ByteArray.mk #[]),.int .i64 0] (0,0)] w') (λv _=>n-1-(intOf v).toNat) ?_ ?_
 .exact⟨0,D' _,rfl,hh⟩
 clear hh;rintro ρ' v w' ⟨i,hi,rfl,hh⟩;by_cases hlt:i<n-1
 .obtain⟨x,hx⟩:=ea (l:=l) (k:=i) Z';obtain⟨ab,hAb,sb⟩:=hbk.at_ Z';have mm:Value.slice (if c=1 then some ad else(some ad:Option Addr).map (·.add (1*6))) (n-1) (c-1)=.slice (some ab) (n-1) (c-1):=by rw[hAb]
  have kx:=hl x (F' _ (G' hx));have kb:=hl (xg way a (l.take i)) (by
   obtain h|h:=T_.1 (Oo way a (l.take i))
   .rw[h];exact q'
   exact F' _ (N8 h))
  have hc1:=λw1 hT1=>tI x (xg way a (l.take i)) k w1 hT1 kx kb hk;have hst:xg way a (l.take (i+1))=if QB x (xg way a (l.take i))=way then x else xg way a (l.take i):=by rw[oa hx,SJ]
  generalize xg way a (l.take i)=o at*;refine fa ?_;refine CU ?_;refine wb (vs:=[_,_,_,_,_,_]) ya.out rfl ((sb.ext hh.below).recAt SR.len hx) rfl U' ?_;replace hh:Hp _ (.blk _ _ [_,_,_,_,_,_] _::_) _:=hh;refine Tb ?_;intro b7 w7 hh ws hh;refine Oa hh (hc1 _ (hT.hp hh)) rfl ?_;intro w20 hh;by_cases hw:QB x o=way
  .rw[J' hw] at hst;refine Lb ?_;intro ws hh;exact aaR
  rw[L' hw] at hst;refine fa ?_;exact aaR
 obtain rfl:i=n-1:=Z';rw[W_ Z'] at hh;exact ac3
def qh(X:List Dyadic)(ns:List Nat):List SR:=List.zipWith (λx q=>⟨nR x,q⟩) X (cz ns)
def QE(f:FX)(ns:List Nat)(X:List Dyadic)(w:World)(hT:Xc w)(hf:f.at_ w)(fi:f.is ns X)(h12:ns.length<=12)(h127:∀d∈ns,d<=127)(hx:X.length=la ns)(hc:la ns<=4096):Calls prog 214 #[.agg #[.slice f.A f.n f.a,.slice f.B f.m f.b]] w λr w'=>∃A c',r=.returned (.slice A f.m c')/\f.m<=c'/\w'.ownsRow w.heap.size 276 6 (.slice A f.m c') f.m (na SR.cells (qh X ns))/\Below w.heap.size w w':=by
 have hh:=Hp.start w;obtain⟨ln,lm⟩:=fi.key hf;obtain⟨A,n,ca,B,m,cb,ds,cs⟩:=f;have h1:ds=Ua ns:=fi.ds;have h2:cs=X.map nR:=fi.cs;subst h1 h2;have hD:Sl w A n 1 (jb (Ua ns)):=hf.dg;have hC:Sl w B m 3 (na NR.cells (X.map nR)):=hf.nm;replace lm:m=X.length:=lm;have hpos:=Ec ns;obtain⟨ad,rfl,hr⟩:=hC.at_ Z';have hwt:=λw1 hT1 hb=>En A n ca ns w1 hT1 (hD.ext hb) h12 h127 hc;refine da (N:=29) (l:=[.agg #[.slice A n ca,.slice (some ad) m cb]]) func214 rfl rfl (by simp) ?_;refine Lb ?_;intro b1 w1 hh;refine qa (hwt _ (hT.hp hh) hh.below) ja.out rfl U' ?_;rintro e_ w9 ⟨A9,c9,rfl,hown_,hb_⟩;refine⟨_,rfl, ?_⟩;replace hh:=hh.Aa (x:=.row _ _ _ _ _ _) hb_ hown_;refine fa ?_;replace hh:=hh.Nb 276 6;replace hh:=hh.sub (I' _ (I' _ (I' _ I_)));refine Ra [3,5,6,13,14,15,16,17,18,19,20,21,22,23,24,25,26,27] 3 13 (λv3 v w'=>∃(i c3:Nat)(O:Option Addr),i<=m/\v=.int .i64 i/\v3=.slice O i c3/\Hp w [.row O i c3 276 6 (na SR.cells ((qh X ns).take i)),.row A9 (la ns) c9 30 3 (na NR.cells (cz ns)),.blk b1 78 [.slice A n ca,.slice (some ad) m cb] (0,0)] w') (λ_ v _=>m-(intOf v).toNat) ?_ ?_
 .exact⟨0,0,none,D' _,rfl,rfl,hh⟩
 clear hh;rintro ρ' v3 v w' ⟨i,c3,O,hi,rfl,rfl,hh⟩;have hwl:(cz ns).length=la ns:=(hh.ra (i:=1) rfl).Fa NR.len U';have hpl:(qh X ns).length=m:=by unfold qh;rw[p7];omega
 by_cases hlt:i<m
 .obtain⟨x,hxi⟩:=ea (l:=X) (k:=i) Z';obtain⟨q,hq⟩:=ea (l:=cz ns) (k:=i) Z';have hxn:(X.map nR)[i]?=some (nR x):=by rw[V_,hxi];rfl
  have hp:(qh X ns)[i]?=some ⟨nR x,q⟩:=by unfold qh;rw[J8,hxi,hq]
  obtain⟨gw,rfl⟩:=hh.Pb (i:=1) rfl Z';refine fa ?_;refine wb (vs:=[_,_,_]) ya.out rfl ((hr.ext hh.below).recAt NR.len hxn) rfl U' ?_;refine Tb ?_;intro b6 w6 hh ws hh;refine Ca 8 [[(3,none)],[(6,none)],[(4,none)],[(5,none)],[(20,some 2),(21,some 3)],[(22,some 4)],[(19,some 1),(23,some 5)],[(24,some 6)]] [(7,25),(6,24),(5,23),(4,22),(3,21),(2,20),(1,19),(0,18)] hh mixed T' ?_;refine Ee ?_;refine Yd 0 [_,_,_] ?_;refine Ee ?_;refine jd ?_;refine Ft (i) ?_;refine Zm [_,_,_] (λ_ hj=>hj.hp.Jd (f:=NR.cells) (x:=q) (l:=cz ns) (i:=2) rfl NR.len U' hq) ?_;refine dB [_,_,_,_,_,_] ?_;refine uq [_,_,_,_,_,_] ?_;refine xa ?_;intro f W hJ hV;have hb_6:=hJ.bl;obtain⟨v25,v24,v23,v22,v21,v20,v19,v18,_⟩:=hV;obtain⟨A25,c25,e25,f25⟩:Rows _ _ _ (f 7) W:=v25;replace hh:=hJ.hp;refine Ea (Na (aa e25 (aa v24 (aa v23 (aa v22 (aa v21 (aa v20 (aa v19 (aa v18 Da))))))))) ?_;dsimp only[Cb];clear e25 hJ;refine Hb hh (i:=1) rfl rfl rfl (f25) mb.out ya.out rfl U' (by first|rfl|exact ic _|exact Ob _|exact Pa _|exact Ta NR.one _) Z' Z' U' ?_;intro A26 c26 w26 hh;simp only[U_,G_] at hh
  refine fa ?_;replace hh:=hh.sub (p' _ (I' _ (I' _ (I' _ I_))));refine⟨⟨i+1,c26,A26,Z',rfl,rfl, ?_⟩,by show m-(i+1)<m-i;omega, ?_⟩
  .rw[oa hp,Ma];exact hh
  exact Sc
 obtain rfl:i=m:=Z';rw[W_ Z'] at hh;refine fa ?_;exact⟨O,c3,rfl,hh.pe (i:=0) rfl,hh.own _ q',hh.below⟩
def LF(a:SR)(l:List SR)(p:Int):SR:=⟨(KJ (xg (-1) a l).lo.ma (xg (-1) a l).hi.ma p).lo,(KJ (xg 1 a l).lo.ma (xg 1 a l).hi.ma p).hi⟩
def ez(A:Option Addr)(n c:Nat)(a:SR)(l:List SR)(p:Int)(k:Nat)(w:World)(hT:Xc w)(hS:Sl w A n 6 (na SR.cells (a::l)))(hc:n<=c)(hn:n<=1000000)(hl:∀x∈a::l,sw k x/\x.hi.ma≠0)(hk:k<=250000)(hp1: -1000<=p)(hp2:p<=1000):Calls prog 213 #[.slice A n c,.int .i64 p] w λr w'=>r=.returned (.agg (SR.cells (LF a l p)).toArray)/\Below w.heap.size w w':=by
 have hh:=Hp.start w;have hb:=λway w1 hT1 hb1=>II A n c a l way k w1 hT1 (hS.ext hb1) hc hn (λx hx=>(hl x hx).1) Z';have hq:∀way w1,Xc w1->Calls prog 90 #[.agg (NR.cells (xg way a l).lo).toArray,.agg (NR.cells (xg way a l).hi).toArray,.int .i64 p] w1 λr w'=>r=.returned (.tuple #[.agg (SR.cells (KJ (xg way a l).lo.ma (xg way a l).hi.ma p)).toArray,.int .i64 0])/\Below w1.heap.size w1 w':=λway w1 hT1=>(by obtain⟨h1,h2⟩:=hl _ (Oo way a l);generalize xg way a l=o at*;exact IP o.lo o.hi p w1 hT1 h1.n h1.w (h1.zn.ok Z') (h1.zn.neg.ok Z') (h1.zw.ok Z') h2 ((oI p h1.zn.neg h1.zw hp1 hp2).ok Z') hp1 hp2);unfold LF;have hb1:=hb (-1);have hb2:=hb 1;have hq1:=hq (-1);have hq2:=hq 1;clear hb hq;generalize xg (-1) a l=x at*;generalize xg 1 a l=y at*;generalize KJ x.lo.ma x.hi.ma p=u at*;generalize KJ y.lo.ma y.hi.ma p=v at*;refine da (N:=38) (l:=[.slice A n c,.int .i64 p]) func213 rfl rfl (by simp) ?_;refine Lb ?_;intro b4 w4 hh;refine Oa hh (hb1 _ (hT.hp hh) hh.below) rfl ?_;intro w12 hh;refine mL ?_;refine Oa hh (hb2 _ (hT.hp hh) hh.below) rfl ?_;intro w14 hh;refine ZP ?_;intro b5 w5 hh b6 w6 hh ws hh ws hh;refine Oa hh (hq1 _ (hT.hp hh)) rfl ?_;intro w21 hh;refine Tb ?_;intro b7 w7 hh ws hh;refine Oa hh (hq2 _ (hT.hp hh)) rfl ?_;intro w30 hh;refine Dm ?_;intro b9 w9 hh ws hh ws hh;refine VN (td rfl (ud (vs:=[_,_,_,_,_,_]) ya.out (hh.qb (i:=4) (n:=6) rfl rfl) rfl) De) ?_;exact⟨rfl,hh.below⟩
def fM:∀{n k:Nat},k<=n->0<bin n k
 |0,0,_=>Nat.one_pos
 |n+1,0,_=>Nat.one_pos
 |n+1,k+1,h=>(by have:=fM (n:=n) (k:=k) Z';show 0<bin n k+bin n (k+1);omega)
def PM:∀(ds:List Nat)(p:Nat),0<wtR ds (Fb ds p)
 |[],_=>Nat.one_pos
 |d::ds,p=>H7 (fM (Nat.lt_succ_iff.1 (B_ p (Nat.succ_pos d)))) (PM ds _)
def acH{ns:List Nat}(h12:ns.length<=12)(h127:∀d∈ns,d<=127){q:NR}(h:q∈cz ns):q.ok/\Sz 1600 q.ma/\q.ma≠0:=by
 obtain⟨x,hx,rfl⟩:=i'.1 h;have hz:=NK hx h12 h127;obtain⟨p,_,rfl⟩:=i'.1 hx;rw[db];refine⟨hz.ok U',hz,λh=> ?_⟩;have h1:=PM ns.reverse p;have h2:((wtR ns.reverse (Fb ns.reverse p):Int):Dyadic)=((0:Int):Dyadic):=h;rw[<-Dyadic.toRat_inj] at h2;have h3:(wtR ns.reverse (Fb ns.reverse p):Int)=0:=by simpa using h2
 omega
def xE{X:List Dyadic}{ns:List Nat}(h12:ns.length<=12)(h127:∀d∈ns,d<=127)(hX:∀x∈X,Sz k x)(hk:1600<=k)(hk2:k<=250000):∀a∈qh X ns,sw k a/\a.hi.ma≠0:=λa ha=>by
 obtain⟨i,hi⟩:=j_.1 ha;unfold qh at hi;rw[J8] at hi
 cases hx:X[i]? with
 |none=>rw[hx] at hi;cases hi
 |some x=>
  cases hq:(cz ns)[i]? with
  |none=>rw[hx,hq] at hi;cases hi
  |some q=>
   rw[hx,hq] at hi;obtain rfl:=(L_ hi).symm;have zx:=hX x (G' hx);obtain⟨h1,h2,h3⟩:=acH h12 h127 (G' hq);exact⟨⟨zx.ok Z',h1,by rw[db];exact zx,h2.mono hk⟩,h3⟩
def Dx(X:List Dyadic)(ns:List Nat)(p:Int):SR:=match qh X ns with
 |[]=>SR0
 |a::l=>LF a l p
def UF(f:FX)(ns:List Nat)(X:List Dyadic)(p:Int)(k:Nat)(w:World)(hT:Xc w)(hf:f.at_ w)(fi:f.is ns X)(h12:ns.length<=12)(h127:∀d∈ns,d<=127)(hx:X.length=la ns)(hc:la ns<=4096)(hX:∀x∈X,Sz k x)(hk:1600<=k)(hk2:k<=250000)(hp1: -1000<=p)(hp2:p<=1000):Calls prog 139 #[.agg #[.slice f.A f.n f.a,.slice f.B f.m f.b],.int .i64 p] w λr w'=>r=.returned (.tuple #[.agg (SR.cells (Dx X ns p)).toArray,.int .i64 0])/\Below w.heap.size w w':=by
 have hh:=Hp.start w;have fl:=fi.fh hf h12 hx hc hX Z';have fe:=fi.e h12 h127 hx hc;have hck:=λw1 hT1 hb=>wm f k w1 hT1 (hf.ext hb) fl;rw[fe] at hck;have hpa:=λw1 hT1 hb=>QE f ns X w1 hT1 (hf.ext hb) fi h12 h127 hx hc;have hpk:=xE h12 h127 hX hk hk2;have hpos:=Ec ns;obtain⟨ln,lm⟩:=fi.key hf;unfold Dx
 cases hps:qh X ns with
 |nil=>
  exfalso;have h1:(qh X ns).length=0:=by rw[hps];rfl
  unfold qh cz at h1;rw[p7,Z_,Dv] at h1;omega
 |cons a l=>
  rw[hps] at hpk hpa;have hbt:=λA c w1 hT1 hS hcap=>ez A f.m c a l p k w1 hT1 hS hcap Z' hpk hk2 hp1 hp2;show Calls _ _ _ _ λr w'=>r=.returned (.tuple #[.agg (SR.cells (LF a l p)).toArray,.int .i64 0])/\Below w.heap.size w w';generalize LF a l p=S at*;refine da (N:=17) (l:=[.agg #[.slice f.A f.n f.a,.slice f.B f.m f.b],.int .i64 p]) func139 rfl rfl (by simp) ?_;refine Tb ?_;intro b2 w2 hh b4 w4 hh;refine eh ?_;intro w8 hh;refine fa ?_;refine qa (hpa _ (hT.hp hh) hh.below) ja.out rfl U' ?_;rintro e_ w14 ⟨A,c',rfl,hcap,ho,hb_⟩;refine⟨_,rfl, ?_⟩;replace hh:=hh.Aa (x:=.row _ _ _ _ _ _) hb_ ho;refine mI ?_;refine Oa hh (hbt _ _ _ (hT.hp hh) (hh.ra (i:=0) rfl) hcap) rfl ?_;intro w16 hh;refine Lb ?_;intro ws hh;refine SQ (td rfl (ud (vs:=[_,_,_,_,_,_]) ya.out (hh.qb (i:=1) (n:=6) rfl rfl) rfl) (mh (ej rfl) De)) ?_;exact⟨rfl,hh.below⟩
structure LX where
 A:Option Addr
 n:Nat
 c:Nat
 l:List NR
def LX.cells(x:LX):List Value:=[.slice x.A x.n x.c]
def LX.len:∀x:LX,x.cells.length=1:=λ_=>rfl
def LX.at_(x:LX)(w:World):Prop:=Sl w x.A x.n 3 (na NR.cells x.l)
variable {w':World}
def LX.at_.ext{x:LX}(h:x.at_ w)(hb:Below w.heap.size w w'):x.at_ w':=Sl.ext h hb
def LX.at_.ln{x:LX}(h:x.at_ w):x.l.length=x.n:=Sl.Fa h NR.len U'
def jK(A:Option Addr)(n c:Nat)(l:List LX)(g:FuncId)(cap:List Value)(p:LX->Bool)(w:World)(hS:Sl w A n 1 (na LX.cells l))(hn:n<=1000000)[ja prog g] (hg:∀(z:LX)(w1:World),z∈l->Below w.heap.size w w1->Calls prog g (.slice z.A z.n z.c::cap).toArray w1 λr w'=>r=.returned (.bool (p z))/\Below w1.heap.size w1 w'):Calls prog 299 #[.slice A n c,.func (.func g) #[] cap.toArray] w λr w'=>∃v,r=.returned (.int .i64 v)/\(0<=v↔l.any p=true)/\Below w.heap.size w w':=by
 have hh:=Hp.start w;have hln:=hS.Fa LX.len U';refine da (N:=19) (l:=[.slice A n c,.func (.func g) #[] cap.toArray]) func299 rfl rfl (by simp) ?_;refine fa ?_;refine Ba [4,5,8,9,10,11,12,13,14,15,16,17,18] 8 (λv w'=>∃i:Nat,i<=n/\v=.int .i64 i/\(l.take i).any p=false/\Hp w [] w') (λv _=>n-(intOf v).toNat) ?_ ?_
 .exact⟨0,D' _,rfl,rfl,hh⟩
 clear hh;rintro ρ' v w' ⟨i,hi,rfl,hall,hh⟩;by_cases hlt:i<n
 .obtain⟨z,hz⟩:=ea (l:=l) (k:=i) Z';obtain⟨ad,rfl,hr⟩:=hS.at_ Z';have hc:=λw1=>hg z w1 (G' hz)
  cases gz:p z with
  |true=>
   rw[gz] at hc;refine fa ?_;refine ub ya.out rfl ((hr.ext hh.below).recAt LX.len hz 0 _ rfl) U' ?_;exact kU
  |false=>
   rw[gz] at hc;refine fa ?_;refine ub ya.out rfl ((hr.ext hh.below).recAt LX.len hz 0 _ rfl) U' ?_;exact Ov
 exact pT
def gK(A:Option Addr)(n c:Nat)(l:List LX)(g:FuncId)(cap:List Value)(p:LX->Bool)(w:World)(hS:Sl w A n 1 (na LX.cells l))(hn:n<=1000000)[ja prog g] (hg:∀(z:LX)(w1:World),z∈l->Below w.heap.size w w1->Calls prog g (.slice z.A z.n z.c::cap).toArray w1 λr w'=>r=.returned (.bool (p z))/\Below w1.heap.size w1 w'):Calls prog 267 #[.slice A n c,.func (.func g) #[] cap.toArray] w λr w'=>r=.returned (.bool (l.any p))/\Below w.heap.size w w':=by
 have hh:=Hp.start w;refine da (N:=9) (l:=[.slice A n c,.func (.func g) #[] cap.toArray]) func267 rfl rfl (by simp) ?_;refine fa ?_;refine qa (jK A n c l g cap p _ (hS.ext hh.below) hn hg) ja.out rfl U' ?_;exact YT
def PO(t:List LX):Int:=if 8<t.length\/t.any (λx=>decide (x.n≠t.length))=true then 1 else 0
def Gz(x:LX)(n:Nat)(A:Option Addr)(c:Nat)(p:Addr)(w:World)(hp:w.cell? p=some (.slice A n c)):Calls prog 268 #[.slice x.A x.n x.c,.pointer (some p)] w λr w'=>r=.returned (.bool (decide (x.n≠n)))/\Below w.heap.size w w':=by
 have hh:=Hp.start w;by_cases h:x.n=n
 .refine da (N:=9) (l:=[.slice x.A x.n x.c,.pointer (some p)]) func268 rfl rfl (by simp) ?_;refine fa ?_;refine TG ?_;exact JX
 refine da (N:=9) (l:=[.slice x.A x.n x.c,.pointer (some p)]) func268 rfl rfl (by simp) ?_;refine fa ?_;refine TG ?_;exact jV
def Dq(A:Option Addr)(n c:Nat)(t:List LX)(w:World)(hS:Sl w A n 1 (na LX.cells t))(hn:n<=1000000):Calls prog 219 #[.slice A n c] w λr w'=>r=.returned (.int .i64 (PO t))/\Below w.heap.size w w':=by
 have hh:=Hp.start w;have hln:=hS.Fa LX.len U';unfold PO;by_cases h8:8<n
 .rw[J' (.inl Z')];refine da (N:=11) (l:=[.slice A n c]) func219 rfl rfl (by simp) ?_;refine Lb ?_;intro b1 w1 hh;exact⟨rfl,hh.below⟩
 have hS:=hS
 cases ga:t.any (λx=>decide (x.n≠n)) with
 |true=>
  rw[J' (.inr (by rw[hln];exact ga))];exact aeW
 |false=>
  rw[L' (λh=>h.elim Z' λh=>by rw[hln,ga] at h;cases h)];exact aeW
def Zu(a:Int)(l:List NR):Int:=l.foldl (λa x=>if(nR x.ma).e<a then(nR x.ma).e else a) a
def Uo(a:Int)(t:List LX):Int:=t.foldl (λa x=>Zu a x.l) a
def WN(a:Int)(l:List NR)(x:NR):Zu a (l++[x])=if(nR x.ma).e<Zu a l then(nR x.ma).e else Zu a l:=by unfold Zu;rw[Y7];rfl
def cO(a:Int)(t:List LX)(x:LX):Uo a (t++[x])=Zu (Uo a t) x.l:=by unfold Uo;rw[Y7];rfl
def scI(low:Int)(x:NR):IR:=iR (Vy (nR x.ma).i ((nR x.ma).e-low))
structure WX where
 A:Option Addr
 n:Nat
 c:Nat
 l:List IR
def WX.cells(x:WX):List Value:=[.slice x.A x.n x.c]
def WX.len:∀x:WX,x.cells.length=1:=λ_=>rfl
def WX.row(x:WX):HE:=.row x.A x.n x.c 28 2 (na IR.cells x.l)
variable {K:Nat}
structure TE(K:Nat)(t:List LX)(w:World):Prop where
 at_:∀x∈t,x.at_ w
 n:∀x∈t,x.n<=1000
 num:∀x∈t,∀a∈x.l,a.ok/\Sz K a.ma
def TE.ext{t:List LX}(h:TE K t w)(hb:Below w.heap.size w w'):TE K t w':=⟨λx hx=>(h.at_ x hx).ext hb,h.n,h.num⟩
def VK{K:Nat}:∀(l:List NR)(a:Int),(∀x∈l,Sz K x.ma)-> -(K:Int)<=a-> -(K:Int)<=Zu a l/\Zu a l<=a
 |[],a,_,h=>⟨h,k7 _⟩
 |x::l,a,hl,h=>(by have h1:=(hl x q').nr.2.1;obtain⟨h2,h3⟩:=VK l (if(nR x.ma).e<a then(nR x.ma).e else a) (λy hy=>hl y (F' _ hy)) (by split<;>omega);refine⟨h2,Int.le_trans h3 ?_⟩;split<;>omega)
def Iv{K:Nat}:∀(t:List LX)(a:Int),(∀x∈t,∀y∈x.l,Sz K y.ma)-> -(K:Int)<=a-> -(K:Int)<=Uo a t/\Uo a t<=a
 |[],a,_,h=>⟨h,k7 _⟩
 |x::t,a,ht,h=>(by obtain⟨h1,h2⟩:=VK x.l a (ht x q') h;obtain⟨h3,h4⟩:=Iv t (Zu a x.l) (λy hy=>ht y (F' _ hy)) h1;exact⟨h3,Int.le_trans h4 h2⟩)
def qC(A:Option Addr)(n c K:Nat)(t:List LX)(w:World)(hT:Xc w)(hS:Sl w A n 1 (na LX.cells t))(ht:TE K t w)(hn:n<=1000)(hK:K<=100000):Calls prog 220 #[.slice A n c] w λr w'=>∃(B:Option Addr)(c':Nat)(rows:List WX),r=.returned (.tuple #[.slice B n c',.int .i64 (-(Uo 0 t))])/\rows.map (λx=>(x.n,x.l))=t.map (λx=>(x.n,x.l.map (scI (Uo 0 t))))/\Hp w (.row B n c' 215 1 (na WX.cells rows)::(rows.map WX.row).reverse) w':=by
 have hh:=Hp.start w;have hln:=hS.Fa LX.len U';refine da (N:=68) (l:=[.slice A n c]) func220 rfl rfl (by simp) ?_;refine fa ?_;refine Ra [4,6,8,18,19,20,21,22,23,24,25,26,27,28,29,30,31,32,33,34] 4 18 (λv4 v w'=>∃i:Nat,i<=n/\v=.int .i64 i/\v4=.int .i64 (Uo 0 (t.take i))/\Hp w [] w') (λ_ v _=>n-(intOf v).toNat) ?_ ?_
 .exact⟨0,D' _,rfl,rfl,hh⟩
 clear hh;rintro ρ' v4 v w' ⟨i,hi,rfl,rfl,hh⟩;by_cases hlt:i<n
 .obtain⟨x,hx⟩:=ea (l:=t) (k:=i) Z';have hmx:=G' hx;obtain⟨ad,rfl,hr⟩:=hS.at_ Z';have hxn:=ht.n x hmx;have hxl:=(ht.at_ x hmx).ln;refine fa ?_;refine ub ya.out rfl ((hr.ext hh.below).recAt LX.len hx 0 _ rfl) U' ?_;refine fa ?_;refine Ra [4,8,24,25,26,27,28,29,30,31,32,33] 4 24 (λv4 v w'=>∃j:Nat,j<=x.n/\v=.int .i64 j/\v4=.int .i64 (Zu (Uo 0 (t.take i)) (x.l.take j))/\Hp w [] w') (λ_ v _=>x.n-(intOf v).toNat) ?_ ?_
  .exact⟨0,D' _,rfl,rfl,hh⟩
  clear hh;rintro ρ2 v4 v w2 ⟨j,hj,rfl,rfl,hh⟩;by_cases hjl:j<x.n
  .obtain⟨a,ha⟩:=ea (l:=x.l) (k:=j) Z';obtain⟨ok,za⟩:=ht.num x hmx a (G' ha);obtain⟨ax,hAx,sx⟩:=(ht.at_ x hmx).at_ Z';have mm:Value.slice x.A x.n x.c=.slice (some ax) x.n x.c:=by rw[hAx]
   have hf:=λw1 hT1=>Gd a w1 hT1 (by have:=ok.1;omega) (by have:=ok.2.1;omega) (by have:=ok.2.2;omega);have hst:=WN (Uo 0 (t.take i)) (x.l.take j) a;rw[<-oa ha] at hst;generalize Zu (Uo 0 (t.take i)) (x.l.take j)=lo at*;refine fa ?_;refine RL ?_;refine wb (vs:=[_,_,_]) ya.out rfl ((sx.ext hh.below).recAt NR.len ha) rfl U' ?_;refine Tb ?_;intro b8 w8 hh ws hh;refine Oa hh (hf _ (hT.hp hh)) rfl ?_;intro w30 hh;refine fa ?_;refine⟨⟨j+1,Z',rfl,by rw[hst];rfl,hh.sub (R9 _)⟩,by show x.n-(j+1)<x.n-j;omega, ?_⟩;exact Sc
  obtain rfl:j=x.n:=Z';rw[W_ (show x.l.length<=x.n by omega),<-cO,<-oa hx];refine fa ?_;refine⟨⟨i+1,Z',rfl,rfl,hh⟩,by show n-(i+1)<n-i;omega, ?_⟩;exact Sc
 obtain rfl:n=i:=Z';rw[W_ Z'];refine fa ?_;have hlb: -(100000:Int)<=Uo 0 t/\Uo 0 t<=0:=(by have:=Iv (K:=K) t 0 (λx hx a ha=>(ht.num x hx a ha).2) Z';omega);generalize Uo 0 t=low at*;replace hh:=hh.Nb 215 1;refine Ra [9,11,12,14,15,37,38,39,40,41,42,43,44,45,46,47,48,49,50,51,52,53,54,55,56,57,58,59,60,61,62,63,64] 9 37 (λv9 v w'=>∃(i c9:Nat)(B:Option Addr)(rows:List WX)(R:List HE),i<=n/\v=.int .i64 i/\v9=.slice B i c9/\rows.map (λx=>(x.n,x.l))=(t.take i).map (λx=>(x.n,x.l.map (scI low)))/\R=(rows.map WX.row).reverse/\Hp w (.row B i c9 215 1 (na WX.cells rows)::R) w') (λ_ v _=>n-(intOf v).toNat) ?_ ?_
 .exact⟨0,0,none,[],[],D' _,rfl,rfl,rfl,rfl,hh⟩
 clear hh;rintro ρ' v9 v w' ⟨i,c9,B,rows,R,hi,rfl,rfl,hrw,hro,hh⟩;by_cases hlt:i<n
 .obtain⟨x,hx⟩:=ea (l:=t) (k:=i) Z';have hmx:=G' hx;obtain⟨ad,rfl,hr⟩:=hS.at_ Z';have hxn:=ht.n x hmx;have hxl:=(ht.at_ x hmx).ln;refine fa ?_;refine ub ya.out rfl ((hr.ext hh.below).recAt LX.len hx 0 _ rfl) U' ?_;refine fa ?_;replace hh:=hh.Nb 28 2;refine Ra [12,14,15,43,44,45,46,47,48,49,50,51,52,53,54,55,56,57,58,59] 12 43 (λv12 v w'=>∃(j c12:Nat)(E:Option Addr),j<=x.n/\v=.int .i64 j/\v12=.slice E j c12/\Hp w (.row E j c12 28 2 (na IR.cells ((x.l.take j).map (scI low)))::.row B i c9 215 1 (na WX.cells rows)::R) w') (λ_ v _=>x.n-(intOf v).toNat) ?_ ?_
  .exact⟨0,0,none,D' _,rfl,rfl,hh⟩
  clear hh;rintro ρ2 v12 v w2 ⟨j,c12,E,hj,rfl,rfl,hh⟩;by_cases hjl:j<x.n
  .obtain⟨a,ha⟩:=ea (l:=x.l) (k:=j) Z';obtain⟨ok,za⟩:=ht.num x hmx a (G' ha);obtain⟨ax,hAx,sx⟩:=(ht.at_ x hmx).at_ Z';have mm:Value.slice x.A x.n x.c=.slice (some ax) x.n x.c:=by rw[hAx]
   have hf:=λw1 hT1=>Gd a w1 hT1 (by have:=ok.1;omega) (by have:=ok.2.1;omega) (by have:=ok.2.2;omega);obtain⟨n1,n2,n3⟩:=za.nr;have hsh:=λw1 hT1=>ti (nR a.ma).neg (nR a.ma).Qa ((nR a.ma).e-low) w1 hT1 Z' Z' Z';refine fa ?_;refine RL ?_;refine wb (vs:=[_,_,_]) ya.out rfl ((sx.ext hh.below).recAt NR.len ha) rfl U' ?_;refine Tb ?_;intro b14 w14 hh ws hh;refine Oa hh (hf _ (hT.hp hh)) rfl ?_;intro w48 hh;refine Tb ?_;intro b15 w15 hh ws hh;refine Oa hh (hsh _ (hT.hp hh)) rfl ?_;intro w56 hh;refine Zj ?_;intro b57 w57 hh;refine lH ?_;intro A58 c58 w58 hh;simp only[U_,G_] at hh;replace hh:=hh.sub (s_ _ _);refine fa ?_;replace hh:=hh.sub (p' _ (p' _ (I' _ (I' _ (A_ _)))));refine⟨⟨j+1,c58,A58,Z',rfl,rfl, ?_⟩,by show x.n-(j+1)<x.n-j;omega, ?_⟩
   .rw[oa ha,q_,Ma];exact hh
   exact Sc
  obtain rfl:j=x.n:=Z';rw[W_ (show x.l.length<=x.n by omega)] at hh;refine fa ?_;refine DE ?_;intro b62 w62 hh;refine Uy ?_;intro A63 c63 w63 hh;simp only[U_,G_] at hh;replace hh:=hh.sub (s_ _ _);refine fa ?_;replace hh:=hh.perm (P_ (l₁:=[_]));simp only[C',E'] at hh;refine⟨⟨i+1,c63,A63,rows++[⟨E,x.n,c12,x.l.map (scI low)⟩],WX.row ⟨E,x.n,c12,x.l.map (scI low)⟩::R,Z',rfl,rfl, ?_, ?_, ?_⟩,by show n-(i+1)<n-i;omega, ?_⟩
  .rw[q_,oa hx,q_,hrw];rfl
  .rw[q_,List.reverse_append,hro];rfl
  .rw[Ma];exact hh
  exact Sc
 obtain rfl:n=i:=Z';rw[W_ Z'] at hrw;refine fa ?_;exact⟨B,c9,rows,rfl,hrw,hro ▸ hh⟩
def qJ(A:Option Addr)(n c:Nat)(l:List WX)(g:FuncId)(cap:List Value)(p:WX->Bool)(w:World)(hS:Sl w A n 1 (na WX.cells l))(hn:n<=1000000)[ja prog g] (hg:∀(z:WX)(w1:World),z∈l->Below w.heap.size w w1->Calls prog g (.slice z.A z.n z.c::cap).toArray w1 λr w'=>r=.returned (.bool (p z))/\Below w1.heap.size w1 w'):Calls prog 269 #[.slice A n c,.func (.func g) #[] cap.toArray] w λr w'=>∃v:Int,r=.returned (.int .i64 v)/\((v= -1/\l.any p=false)\/∃(i:Nat)(x:WX),l[i]?=some x/\v=i/\p x=true/\(l.take i).any p=false)/\Below w.heap.size w w':=by
 have hh:=Hp.start w;have hln:=hS.Fa WX.len U';refine da (N:=19) (l:=[.slice A n c,.func (.func g) #[] cap.toArray]) func269 rfl rfl (by simp) ?_;refine fa ?_;refine Ba [4,5,8,9,10,11,12,13,14,15,16,17,18] 8 (λv w'=>∃i:Nat,i<=n/\v=.int .i64 i/\(l.take i).any p=false/\Hp w [] w') (λv _=>n-(intOf v).toNat) ?_ ?_
 .exact⟨0,D' _,rfl,rfl,hh⟩
 clear hh;rintro ρ' v w' ⟨i,hi,rfl,hall,hh⟩;by_cases hlt:i<n
 .obtain⟨z,hz⟩:=ea (l:=l) (k:=i) Z';obtain⟨ad,rfl,hr⟩:=hS.at_ Z';have hc:=λw1=>hg z w1 (G' hz)
  cases gz:p z with
  |true=>
   rw[gz] at hc;refine fa ?_;refine ub ya.out rfl ((hr.ext hh.below).recAt WX.len hz 0 _ rfl) U' ?_;refine JM ?_;rintro e_ w16 ⟨rfl,hb_⟩;refine⟨_,rfl, ?_⟩;replace hh:=hh.ext hb_;refine fa ?_;exact⟨_,rfl,.inr ⟨i,z,hz,rfl,gz,hall⟩,hh.below⟩
  |false=>
   rw[gz] at hc;refine fa ?_;refine ub ya.out rfl ((hr.ext hh.below).recAt WX.len hz 0 _ rfl) U' ?_;exact Ov
 rw[W_ Z'] at hall;refine fa ?_;exact⟨_,rfl,.inl ⟨rfl,hall⟩,hh.below⟩
def fI(x:WX)(k:Nat)(a:IR)(p:Addr)(w:World)(hp:w.cell? p=some (.int .i64 k))(hx:Sl w x.A x.n 2 (na IR.cells x.l))(ha:x.l[k]?=some a):Calls prog 270 #[.slice x.A x.n x.c,.pointer (some p)] w λr w'=>r=.returned (.bool (decide (a.v.sign≠0)))/\Below w.heap.size w w':=by
 have hh:=Hp.start w;have hln:=hx.Fa IR.len U';have hk:=(X_.1 ha).1;obtain⟨A,n,c,l⟩:=x;obtain⟨ad,rfl,hr⟩:=hx.at_ (by show 0<n;have:l.length=n:=hln;have:k<l.length:=hk;omega);have hln:l.length=n:=hln;have hk:k<l.length:=hk;have ha:l[k]?=some a:=ha;have hs:=λw1=>Kg a.neg a.Qa w1;rw[show iv a.neg a.Qa=a.v from rfl] at hs;by_cases h:a.v.sign=0
 .refine da (N:=10) (l:=[.slice (some ad) n c,.pointer (some p)]) func270 rfl rfl (by simp) ?_;refine fa ?_;refine TG ?_;refine fa ?_;refine wb (vs:=[_,_]) ya.out rfl ((hr.ext hh.below).recAt IR.len ha) rfl U' ?_;refine Oa hh (hs _) rfl ?_;intro w8 hh;rw[h];refine fa ?_;exact⟨by rw[O_ (λx=>x rfl)],hh.below⟩
 refine da (N:=10) (l:=[.slice (some ad) n c,.pointer (some p)]) func270 rfl rfl (by simp) ?_;refine fa ?_;refine TG ?_;refine fa ?_;refine wb (vs:=[_,_]) ya.out rfl ((hr.ext hh.below).recAt IR.len ha) rfl U' ?_;refine Oa hh (hs _) rfl ?_;intro w8 hh;generalize a.v.sign=g at*;exact jV
def dH(s:Bool)(a b:ByteArray)(w:World)(ha:a.size<=10000000)(hb:b.size<=10000000)(hb0:bN b≠0):Calls prog 227 #[.agg #[.bool s,.string a],.agg #[.bool true,.string b]] w λe w'=>∃x y,e=.returned (.tuple #[.agg #[.bool (iN (iv s a/iv true b)),.string (iM (iv s a/iv true b))],.agg #[.bool x,.string y],.bool true])/\Below w.heap.size w w':=by
 have hh:=Hp.start w;have hba:=Hf a;have hmod:bN a % bN b<bN b:=B_ _ Z';have hdm:bN b*(bN a/bN b)+bN a % bN b=bN a:=E9 _ _;have hdm':(bN b:Int)*((bN a/bN b:Nat):Int)+((bN a % bN b:Nat):Int)=(bN a:Int):=by rw[<-l9,<-L8,hdm]
 have hdv:=λw1=>Cs a b w1 Z' Z' hb0;generalize hq:bN a/bN b=q at*;generalize hr:bN a % bN b=r at*;have hqv:iv false (sN q)=(q:Int):=by unfold iv;rw[Ve,L' (by simp)]
 have eb:iv true b= -(bN b:Int):=by unfold iv;rw[J' rfl]
 rw[eb]
 cases s with
 |false=>
  have e3:iv false a=(bN a:Int):=by unfold iv;rw[L' (by simp)]
  have q1:iv false a / -(bN b:Int)= -(q:Int):=by rw[Int.ediv_neg,zl (iv false a) (bN b) q r (by rw[e3,<-hdm'];omega) Z' Z']
  rw[q1];have hng:=λw1=>Qg false (sN q) w1;have hfm:=λw1=>Ue (iN (-(q:Int))) (iM (-(q:Int))) w1;rw[hqv] at hng;rw[zd] at hfm;refine da (N:=51) (l:=[.agg #[.bool false,.string a],.agg #[.bool true,.string b]]) func227 rfl rfl (by simp) ?_;refine ZP ?_;intro b2 w2 hh b3 w3 hh b4 w4 hh b5 w5 hh;refine Oa hh (hdv _) rfl ?_;intro w14 hh;refine Tb ?_;intro ws hh ws hh;replace hh:=show Hp w (.blk b5 28 [.bool false,.string (sN r)] (0,0)::.blk b4 28 [.bool false,.string (sN q)] (0,0)::_) _ from hh;refine fa ?_;exact aaz
 |true=>
  have e3:iv true a= -(bN a:Int):=by unfold iv;rw[J' rfl]
  by_cases hr0:r=0
  .have hemp:sN r=ByteArray.mk #[]:=by rw[hr0,ki]
   have q1:iv true a / -(bN b:Int)=(q:Int):=by rw[Int.ediv_neg,zl (iv true a) (bN b) (-(q:Int)) 0 (by rw[e3,<-hdm',hr0,a7];omega) Z' Z',Y6]
   rw[q1];have hfm:=λw1=>Ue false (sN q) w1;rw[hqv] at hfm;refine da (N:=51) (l:=[.agg #[.bool true,.string a],.agg #[.bool true,.string b]]) func227 rfl rfl (by simp) ?_;refine ZP ?_;intro b2 w2 hh b3 w3 hh b4 w4 hh b5 w5 hh;refine Oa hh (hdv _) rfl ?_;intro w14 hh;refine Tb ?_;intro ws hh ws hh;replace hh:=show Hp w (.blk b5 28 [.bool false,.string (sN r)] (0,0)::.blk b4 28 [.bool false,.string (sN q)] (0,0)::_) _ from hh;refine fa ?_
   (first|refine Df rfl rfl (by first|rfl|assumption|decide) U' ?_|refine uf rfl rfl (by first|assumption|decide) U' ?_)
   refine fa ?_;refine Mj mb.out rfl rfl U' ?_;refine fa ?_;exact zW3
  have hemp:¬sN r=ByteArray.mk #[]:=λh=>hr0 (DC (h.trans ki.symm));have q1:iv true a / -(bN b:Int)=(q:Int)+1:=by rw[Int.ediv_neg,zl (iv true a) (bN b) (-((q:Int)+1)) ((bN b:Int)-(r:Int)) (by rw[e3,<-hdm',a7,Int.mul_add];omega) Z' Z',Y6]
  rw[q1];have hqz:(sN q).size<=10000000:=by rw[ph,<-hq];have:=Fc (S9 (q8 (bN a) (bN b)) (Ub (bN a)));omega
  have hrz:(sN r).size<=10000000:=by rw[ph,<-hr];have:=Fc (S9 (Nat.mod_le (bN a) (bN b)) (Ub (bN a)));omega
  have e1:([IR.mk false (sN q),iR 1].map IR.v).sum=(q:Int)+1:=(by exact aaZ);have hof:=λw1=>yj 1 w1 U' U';have had:=λA w1 h1=>Ml A 2 2 [IR.mk false (sN q),iR 1] w1 h1 U' (by intro x hx;obtain rfl|hx:=T_.1 hx;exact(show(sN q).size<=100000000 by omega);rw[S_.1 hx];exact(by decide+kernel));rw[e1] at had;have hsb:=λw1=>Lj false false b (sN r) w1 Z' Z';have hfm:=λw1=>Ue (iN ((q:Int)+1)) (iM ((q:Int)+1)) w1;rw[zd] at hfm;refine da (N:=51) (l:=[.agg #[.bool true,.string a],.agg #[.bool true,.string b]]) func227 rfl rfl (by simp) ?_;refine ZP ?_;intro b2 w2 hh b3 w3 hh b4 w4 hh b5 w5 hh;refine Oa hh (hdv _) rfl ?_;intro w14 hh;refine Tb ?_;intro ws hh ws hh;replace hh:=show Hp w (.blk b5 28 [.bool false,.string (sN r)] (0,0)::.blk b4 28 [.bool false,.string (sN q)] (0,0)::_) _ from hh;refine fa ?_
  (first|refine Df rfl rfl (by first|rfl|assumption|decide) U' ?_|refine uf rfl rfl (by first|assumption|decide) U' ?_)
  refine fa ?_;refine Ca 2 [[(4,none)],[]] [(1,33),(0,32)] hh mixed T' ?_;refine Yd 1 [_,_] ?_;refine dC (λ_ hj=>hof _) ?_;refine xa ?_;intro f W hJ hV;have hb_6:=hJ.bl;obtain⟨v33,v32,_⟩:=hV;replace hh:=hJ.hp;refine Ea (Na (aa v33 (aa v32 Da))) ?_;dsimp only[Cb];clear hJ;refine BH ?_;intro b34 w34 hh;refine Oa hh (had _ _ (hh.ra (i:=0) rfl)) rfl ?_;intro w35 hh;refine Lb ?_;intro ws hh;refine Oa hh (hsb _) rfl ?_;intro w40 hh;refine Lb ?_;intro ws hh;refine Mj mb.out rfl rfl U' ?_;refine fa ?_;exact zW9
variable {M:List (List Int)}{j:Nat}
def Em(M:List (List Int))(i j:Nat):Int:=(M.getD i []).getD j 0
variable {last:Int}
def GD(last a p q r:Int):Int:=(a*p-q*r)/last
variable {b:Nat}
def ji(M:List (List Int))(k i j:Nat)(last:Int):List (List Int):=M.mapIdx λa r=>if k<a/\a<=i then r.mapIdx λb x=>if k<b/\(a<i\/b<j) then GD last x (Em M k k) (r.getD k 0) (Em M k b) else x else r
def Vp(M:List (List Int))(k i:Nat):List (List Int):=(M.set k (M.getD i [])).set i (M.getD k [])
def Zy(M:List (List Int))(k:Nat):Option Nat:=(List.range M.length).find? λi=>decide (k<=i/\Em M i k≠0)
def jv:Nat->Nat->List (List Int)->Int->Bool->Int
 |0,_,_,last,t=>if t=true then -last else last
 |f+1,k,M,last,t=>match Zy M k with
  |none=>0
  |some i=>jv f (k+1) (ji (Vp M k i) k M.length 0 last) (Em (Vp M k i) k k) (if i=k then t else !t)
def Fx(M:List (List Int)):Int:=jv M.length 0 M 1 false
variable {n:Nat}
structure Mv(n b:Nat)(M:List (List Int)):Prop where
 ln:M.length=n
 row:∀r∈M,r.length=n
 sz:∀r∈M,∀x∈r,Sa x.natAbs<=b
def Fv{a p q r:Int}(ha:Sa a.natAbs<=b)(hp:Sa p.natAbs<=b)(hq:Sa q.natAbs<=b)(hr:Sa r.natAbs<=b):Sa (GD last a p q r).natAbs<=2*b+1:=by
 unfold GD;have h1:=Ub a.natAbs;have h2:=Ub p.natAbs;have h3:=Ub q.natAbs;have h4:=Ub r.natAbs;have e:∀{x c:Nat},x<2^c->c<=b->x<2^b:=λh h'=>V9 h (m_ U' h');have m1:(a*p).natAbs<2^(2*b):=(by rw[W8,Nat.two_mul,D_];exact Nat.mul_lt_mul_of_lt_of_lt (e h1 ha) (e h2 hp));have m2:(q*r).natAbs<2^(2*b):=(by rw[W8,Nat.two_mul,D_];exact Nat.mul_lt_mul_of_lt_of_lt (e h3 hq) (e h4 hr));refine Fc ?_;refine S9 (q7 _ _) ?_;rw[i_];omega
def Mv.mono{c:Nat}(h:Mv n b M)(hb:b<=c):Mv n c M:=⟨h.ln,h.row,λr hr x hx=>M_ (h.sz r hr x hx) hb⟩
def Mv.get(h:Mv n b M){i:Nat}(hi:i<n):∃r,M[i]?=some r/\r.length=n/\M.getD i []=r:=by
 obtain⟨r,hr⟩:=ea (l:=M) (k:=i) (by rw[h.ln];exact hi);exact⟨r,hr,h.row r (G' hr),by rw[J9,hr];rfl⟩
def Mv.at_(h:Mv n b M){i:Nat}(hi:i<n)(hj:j<n):∃r,M[i]?=some r/\r.length=n/\r[j]?=some (Em M i j)/\Sa (Em M i j).natAbs<=b:=by
 obtain⟨r,h1,h2,h3⟩:=h.get hi;obtain⟨x,hx⟩:=ea (l:=r) (k:=j) Z';have e:Em M i j=x:=(by unfold Em;rw[h3,J9,hx];rfl);exact⟨r,h1,h2,by rw[e];exact hx,by rw[e];exact h.sz r (G' h1) x (G' hx)⟩
def Mv.swp{i:Nat}(h:Mv n b M)(hk:k<n)(hi:i<n):Mv n b (Vp M k i):=by
 obtain⟨r,h1,_,h3⟩:=h.get hk;obtain⟨q,g1,_,g3⟩:=h.get hi;unfold Vp;rw[h3,g3];have hm:∀x∈(M.set k q).set i r,x∈M:=λx hx=>by
  obtain hx|rfl:=H8 hx
  .obtain hx|rfl:=H8 hx
   .exact hx
   exact G' g1
  exact G' h1
 exact⟨by rw[T9,T9];exact h.ln,λx hx=>h.row x (hm x hx),λx hx=>h.sz x (hm x hx)⟩
def Mv.Ch{i:Nat}(h:Mv n b M)(hk:k<n):Mv n (2*b+1) (ji M k i j last):=by
 have hm:∀x∈ji M k i j last,x.length=n/\∀y∈x,Sa y.natAbs<=2*b+1:=λx hx=>by
  unfold ji at hx;obtain⟨a,ha,rfl⟩:=List.mem_mapIdx.1 hx;have hr:M[a]?=some M[a]:=G8 ha;have hl:=h.row _ (G' hr);have hs:=h.sz _ (G' hr);split
  .refine⟨by rw[M7];exact hl,λy hy=> ?_⟩;obtain⟨c,hc,rfl⟩:=List.mem_mapIdx.1 hy;have hc2:c<n:=Z';obtain⟨_,_,_,_,z1⟩:=h.at_ hk hk;obtain⟨_,_,_,_,z2⟩:=h.at_ hk hc2;have z3:=hs _ (List.getElem_mem hc);have z4:Sa ((M[a]).getD k 0).natAbs<=b:=(by obtain⟨x,hx⟩:=ea (l:=M[a]) (k:=k) Z';rw[J9,hx];exact hs _ (G' hx));split
   .exact Fv z3 z1 z4 z2
   omega
  exact⟨hl,λy hy=>by have:=hs y hy;omega⟩
 exact⟨by unfold ji;rw[M7];exact h.ln,λx hx=>(hm x hx).1,λx hx=>(hm x hx).2⟩
def yV{N:List (List Int)}(h:∀i,k<=i->i<N.length->Em N i k=0):Zy N k=none:=by
 unfold Zy;rw[Q7];intro i hi;have:=h_.1 hi;rw[K_];exact λ⟨h1,h2⟩=>h2 (h i h1 this)
def oS{N:List (List Int)}(hk:k<=j)(hj:j<N.length)(h0:Em N j k≠0)(h:∀i,k<=i->i<j->Em N i k=0):Zy N k=some j:=by
 unfold Zy;rw[List.find?_range_eq_some];refine⟨N_ ⟨hk,h0⟩,h_.2 hj,λi hi=> ?_⟩;simp only[z7,u6];exact λ⟨h1,h2⟩=>h2 (h i h1 hi)
def AV{N:List (List Int)}{t:Bool}(hk:k<n)(h:Zy N k=none):jv (n-k) k N last t=0:=by
 rw[show n-k=(n-k-1)+1 by omega,jv,h]
def mU{N:List (List Int)}{t:Bool}(hk:k<n)(h:Zy N k=some j):jv (n-k) k N last t=jv (n-(k+1)) (k+1) (ji (Vp N k j) k N.length 0 last) (Em (Vp N k j) k k) (if j=k then t else !t):=by
 rw[show n-k=(n-(k+1))+1 by omega,jv,h]
structure si(RR:List HE)(rows:List WX)(P:List Nat):Prop where
 ln:P.length=rows.length
 nd:∀i j p:Nat,P[i]?=some p->P[j]?=some p->i=j
 at_:∀(i:Nat)(x:WX)(p:Nat),rows[i]?=some x->P[i]?=some p->RR[p]?=some x.row
variable {α:Type}
def bD{l:List α}{a:Nat}{x y:α}(ha:l[a]?=some x)(hb:l[b]?=some y)(c:Nat):((l.set a y).set b x)[c]?=l[if c=b then a else if c=a then b else c]?:=by
 have h1:=(X_.1 ha).1;have h2:=(X_.1 hb).1;rw[F9,F9,T9];by_cases e1:c=b
 .subst e1;rw[J' rfl,J' rfl,J' h2,ha]
 rw[L' (λh=>e1 h.symm),L' e1];by_cases e2:c=a
 .subst e2;rw[J' rfl,J' rfl,J' h1,hb]
 rw[L' (λh=>e2 h.symm),L' e2]
variable {PS:List Nat}
def sP{RS:List HE}{rows:List WX}{P:List Nat}{N:List (List Int)}{xk x:WX}(hin:si RS rows PS)(hM:rows.map WX.l=N.map (List.map iR))(hrn:∀x∈rows,x.n=n)(hPS:∀q,q∈PS->q∈P)(hk:rows[k]?=some xk)(hx:rows[j]?=some x):∃PS2,((rows.set k x).set j xk).map WX.l=(Vp N k j).map (List.map iR)/\(∀y∈(rows.set k x).set j xk,y.n=n)/\si RS ((rows.set k x).set j xk) PS2/\∀q,q∈PS2->q∈P:=by
 have h1:=(X_.1 hk).1;have h2:=(X_.1 hx).1;obtain⟨p,hp⟩:=ea (l:=PS) (k:=k) (by rw[hin.ln];exact h1);obtain⟨q,hq⟩:=ea (l:=PS) (k:=j) (by rw[hin.ln];exact h2);have hs:∀c d:Nat,(if c=j then k else if c=k then j else c)=(if d=j then k else if d=k then j else d)->c=d:=λc d h=>(by split at h<;>split at h<;>(try split at h)<;>(try split at h)<;>omega);refine⟨(PS.set k q).set j p, ?_, ?_,⟨?_, ?_, ?_⟩, ?_⟩
 .have hN:∀(i:Nat)(y:WX),rows[i]?=some y->∃r:List Int,N[i]?=some r/\y.l=r.map iR:=λi y hy=>by
   have h3:(rows.map WX.l)[i]?=some y.l:=by rw[V_,hy];rfl
   rw[hM,V_] at h3
   cases hn:N[i]? with
   |none=>rw[hn] at h3;cases h3
   |some r=>rw[hn] at h3;exact⟨r,rfl,(L_ h3).symm⟩
  obtain⟨r1,g1,g2⟩:=hN k xk hk;obtain⟨r2,g3,g4⟩:=hN j x hx;unfold Vp;rw[J9,J9,g1,g3,j9,j9,j9,j9,hM,g2,g4];rfl
 .intro y hy;obtain hy|rfl:=H8 hy
  .obtain hy|rfl:=H8 hy
   .exact hrn y hy
   exact hrn _ (G' hx)
  exact hrn _ (G' hk)
 .rw[T9,T9,T9,T9];exact hin.ln
 .intro a b c ha hb;rw[bD hp hq] at ha hb;exact hs a b (hin.nd _ _ c ha hb)
 .intro i y c hy hc;rw[bD hk hx] at hy;rw[bD hp hq] at hc;exact hin.at_ _ y c hy hc
 intro y hy;obtain hy|rfl:=H8 hy
 .obtain hy|rfl:=H8 hy
  .exact hPS y hy
  exact hPS _ (G' hq)
 exact hPS _ (G' hp)
def DN:ji M k (k+1) 0 last=M:=by
 unfold ji;refine U9 λa=> ?_;rw[Q9]
 cases M[a]? with
 |none=>rfl
 |some r=>
  refine J_ some ?_;split
  .refine U9 λb=> ?_;rw[Q9]
   cases r[b]? with
   |none=>rfl
   |some x=>refine J_ some (L' ?_);omega
  rfl
def YY{i:Nat}:ji M k i 0 last=ji M k i (k+1) last:=by
 unfold ji;refine U9 λa=> ?_;rw[Q9,Q9]
 cases M[a]? with
 |none=>rfl
 |some r=>
  refine J_ some ?_;split
  .refine U9 λb=> ?_;rw[Q9,Q9]
   cases r[b]? with
   |none=>rfl
   |some x=>refine J_ some (ite_congr (propext ?_) (λ_=>rfl) λ_=>rfl);omega
  rfl
def PY{i:Nat}(sq:Mv n b M):ji M k i n last=ji M k (i+1) 0 last:=by
 unfold ji;refine U9 λa=> ?_;rw[Q9,Q9]
 cases hr:M[a]? with
 |none=>rfl
 |some r=>
  have hl:=sq.row r (G' hr);refine J_ some ?_;dsimp only;by_cases h1:k<a/\a<=i
  .rw[J' h1,J' Z'];refine U9 λb=> ?_;rw[Q9,Q9]
   cases hb:r[b]? with
   |none=>rfl
   |some x=>
    have:=(X_.1 hb).1;refine J_ some (ite_congr (propext ?_) (λ_=>rfl) λ_=>rfl);omega
  rw[L' h1];split
  .refine U9 λb=> ?_;rw[Q9]
   cases hb:r[b]? with
   |none=>rfl
   |some x=>refine J_ some (L' ?_).symm;omega
  rfl
def Sx{z i a:Nat}(sq:Mv n z M)(ha:a<n)(hb:b<n)(h:¬(k<a/\a<=i/\k<b/\(a<i\/b<j))):Em (ji M k i j last) a b=Em M a b:=by
 obtain⟨r,h1,h2,h3,h4⟩:=sq.at_ ha hb;have e:(ji M k i j last)[a]?=some (if k<a/\a<=i then r.mapIdx λb x=>if k<b/\(a<i\/b<j) then GD last x (Em M k k) (r.getD k 0) (Em M k b) else x else r):=(by unfold ji;rw[Q9,h1];rfl);unfold Em at h3 |-;rw[J9 (l:=ji M k i j last),e,m9,J9];split
 .rename_i hc;rw[Q9,h3,K8,m9,L' Z']
 rw[h3];rfl
def aV{z i:Nat}{r:List Int}(sq:Mv n z M)(hk:k<i)(hi:i<n)(hkj:k<j)(hj:j<n)(hr:(ji M k i j last)[i]?=some r):(ji M k i j last).set i (r.set j (GD last (Em M i j) (Em M k k) (Em M i k) (Em M k j)))=ji M k i (j+1) last:=by
 obtain⟨q,h1,h2,h3,_⟩:=sq.at_ hi hj;have hg:M.getD i []=q:=by rw[J9,h1];rfl
 have g:∀c,(ji M k i c last)[i]?=some (q.mapIdx λb x=>if k<b/\b<c then GD last x (Em M k k) (q.getD k 0) (Em M k b) else x):=λc=>(by unfold ji;rw[Q9,h1];refine J_ some ?_;dsimp only;rw[J' Z'];refine congrFun (J_ List.mapIdx ?_) q;funext b x;refine ite_congr (propext ?_) (λ_=>rfl) λ_=>rfl;omega);have hk:Em M i k=q.getD k 0:=by unfold Em;rw[hg]
 rw[g j] at hr;obtain rfl:=L_ hr;have hl:i<(ji M k i j last).length:=by unfold ji;rw[M7,sq.ln];exact hi
 refine U9 λa=> ?_;rw[F9];by_cases ha:a=i
 .subst ha;rw[J' rfl,J' hl,g (j+1)];refine J_ some (U9 λb=> ?_);rw[F9,Q9,Q9,M7];by_cases hb:b=j
  .subst hb;rw[J' rfl,J' Z',h3,hk];refine J_ some ?_;dsimp only;rw[J' Z']
  rw[L' (λh=>hb h.symm)]
  cases q[b]? with
  |none=>rfl
  |some x=>
   refine J_ some (ite_congr (propext ?_) (λ_=>rfl) λ_=>rfl);omega
 rw[L' (λh=>ha h.symm)];unfold ji;rw[Q9,Q9]
 cases M[a]? with
 |none=>rfl
 |some r=>
  refine J_ some ?_;dsimp only;by_cases h5:k<a/\a<=i
  .rw[J' h5,J' h5];refine congrFun (J_ List.mapIdx ?_) r;funext b x;refine ite_congr (propext ?_) (λ_=>rfl) λ_=>rfl;omega
  rw[L' h5,L' h5]
def jH(s t:Bool)(a b:ByteArray)(w:World)(ha:a.size<=10000000)(hb:b.size<=10000000)(hb0:iv t b≠0):Calls prog 227 #[.agg #[.bool s,.string a],.agg #[.bool t,.string b]] w λe w'=>∃x y,e=.returned (.tuple #[.agg #[.bool (iN (iv s a/iv t b)),.string (iM (iv s a/iv t b))],.agg #[.bool x,.string y],.bool true])/\Below w.heap.size w w':=by
 have h0:bN b≠0:=λh=>hb0 (by unfold iv;rw[h];split<;>rfl)
 cases t with
 |false=>
  have:=Yv s a b w ha hb h0;rwa[show(bN b:Int)=iv false b by unfold iv;rw[L' (by simp)]] at this
 |true=>exact dH s a b w ha hb h0
def ll{rows:List WX}{x:WX}(h:rows[k]?=some x):(na WX.cells rows)[k*1]?=some (.slice x.A x.n x.c):=by
 have:=J_ List.head? (Bs WX.len h);rwa[List.head?_take,L' U',List.head?_drop] at this
def lZ{N:List (List Int)}{i:Nat}(hk:k<N.length)(hi:i<N.length):Em (Vp N k i) k j=Em N i j:=by
 unfold Em Vp;rw[J9 (l:=List.set _ _ _),F9,F9,T9,J' hi,J' rfl,J' hk];by_cases h:i=k
 .rw[J' h,h];rfl
 rw[L' h];rfl
variable {w0:World}
def si.at2{e1 e2 e3 e4:HE}{RS:List HE}{rows:List WX}{N:List (List Int)}{i:Nat}(h:si RS rows PS)(hh:Hp w0 (e1::e2::e3::e4::RS) w)(hM:rows.map WX.l=N.map (List.map iR))(hrn:∀x∈rows,x.n=n)(sq:Mv n b N)(hi:i<n):
  ∃(g c:Nat)(l:List IR)(p:Nat),rows[i]?=some ⟨some ⟨g,0,none⟩,n,c,l⟩/\PS[i]?=some p/\RS[p]?=some (.row (some ⟨g,0,none⟩) n c 28 2 (na IR.cells l))/\l.length=n/\∀j,j<n->l[j]?=some (iR (Em N i j)):=by
 have hln:rows.length=n:=by rw[<-Z_ (f:=WX.l),hM,Z_];exact sq.ln
 obtain⟨x,hx⟩:=ea (l:=rows) (k:=i) Z';obtain⟨p,hp⟩:=ea (l:=PS) (k:=i) (by rw[h.ln];omega);have hR:=h.at_ i x p hx hp;have hn:=hrn x (G' hx);obtain⟨A,m,c,l⟩:=x;obtain rfl:m=n:=hn;obtain⟨g,rfl⟩:=hh.Pb (i:=p+4) (show(e1::e2::e3::e4::RS)[p+4]?=some (.row A m c 28 2 (na IR.cells l)) from hR) Z';have h1:(rows.map WX.l)[i]?=some l:=by rw[V_,hx];rfl
 rw[hM,V_] at h1;obtain⟨r,hr,hrl,_⟩:=sq.get hi;rw[hr] at h1;obtain rfl:r.map iR=l:=L_ h1;refine⟨g,c,_,p,hx,hp,hR,by rw[Z_];exact hrl,λj hj=> ?_⟩;obtain⟨r',g1,_,g3,_⟩:=sq.at_ hi hj;rw[hr] at g1;obtain rfl:=L_ g1;rw[V_,g3];rfl
def Xy{l:List WX}{i:Nat}{x y:WX}(hx:l[i]?=some x)(h:y.cells=x.cells):na WX.cells (l.set i y)=na WX.cells l:=by
 unfold na;have:(l.set i y).map WX.cells=l.map WX.cells:=(by rw[j9,h];exact vn (by rw[V_,hx];rfl));rw[List.flatMap_def,List.flatMap_def,this]
variable {z:Int}
def si.wc{RS:List HE}{rows:List WX}{N N':List (List Int)}{i p:Nat}{A:Option Addr}{c:Nat}{l:List IR}(h:si RS rows PS)(hM:rows.map WX.l=N.map (List.map iR))(sq:Mv n b N)(hx:rows[i]?=some ⟨A,n,c,l⟩)(hp:PS[i]?=some p)(hN:∀{r:List Int},N[i]?=some r->N.set i (r.set j z)=N'):(rows.set i ⟨A,n,c,l.set j (iR z)⟩).map WX.l=N'.map (List.map iR)/\si (RS.set p (.row A n c 28 2 (na IR.cells (l.set j (iR z))))) (rows.set i ⟨A,n,c,l.set j (iR z)⟩) PS:=by
 have hpl:p<RS.length:=(X_.1 (h.at_ i _ p hx hp)).1;have hil:i<rows.length:=(X_.1 hx).1;constructor
 .have h1:(rows.map WX.l)[i]?=some l:=by rw[V_,hx];rfl
  rw[hM,V_] at h1;obtain⟨r,hr⟩:=ea (l:=N) (k:=i) (by rw[<-Z_ (f:=List.map iR),<-hM,Z_];exact hil);rw[hr] at h1;obtain rfl:r.map iR=l:=L_ h1;rw[j9,hM,<-hN hr,j9,j9]
 refine⟨by rw[T9];exact h.ln,h.nd,λa x q hx2 hq=> ?_⟩;rw[F9] at hx2;by_cases e:i=a
 .subst e;rw[J' rfl,J' hil] at hx2;obtain rfl:=L_ hx2;rw[hp] at hq;obtain rfl:=L_ hq;rw[F9,J' rfl,J' hpl];rfl
 rw[L' e] at hx2;rw[F9,L' (λe2=>e (h.nd i a p hp (by rw[e2];exact hq)))];exact h.at_ a x q hx2 hq
def jT(a b:Int):Ok ([iR a,iR b].map IR.v)=a*b:=by simp[Ok,xR]
def oV{a b:Int}(ha:Sa a.natAbs<=K)(hb:Sa b.natAbs<=K)(h:K<=8000000):([iR a,iR b].map λa=>a.Qa.size).sum<=100000000:=by
 have h1:(iR a).Qa.size=_:=Nc a;have h2:(iR b).Qa.size=_:=Nc b;simp[h1,h2];omega
def nQ{a b:Int}(ha:Sa a.natAbs<=K)(hb:Sa b.natAbs<=K)(h:K<=8000000):(iM (a*b)).size<=100000000:=by
 have:=Fv (last:=1) ha hb (show Sa (Int.natAbs 0)<=K from D' _) (show Sa (Int.natAbs 0)<=K from D' _);unfold GD at this;rw[Int.ediv_one,Int.zero_mul,Int.sub_zero] at this;rw[Nc];omega
def ab0{a b c d:Int}(ha:Sa a.natAbs<=K)(hb:Sa b.natAbs<=K)(hc:Sa c.natAbs<=K)(hd:Sa d.natAbs<=K)(h:K<=8000000):(iM (a*b-c*d)).size<=10000000:=by
 have:=Fv (last:=1) ha hb hc hd;unfold GD at this;rw[Int.ediv_one] at this;rw[Nc];omega
def Nl(z:Int)(v:Value)(_:World):Prop:=∃g:Bool×ByteArray,v=.tuple #[.agg #[.bool (iN z),.string (iM z)],.agg #[.bool g.1,.string g.2],.bool true]/\True
def Nl.ext(v:Value)(w w':World)(h:Nl z v w)(_:Below w.heap.size w w'):Nl z v w':=h
def Ns(v:Value)(_:World):Prop:=∃g:Bool×ByteArray,v=.agg #[.bool g.1,.string g.2]/\True
def Ns.ext(v:Value)(w w':World)(h:Ns v w)(_:Below w.heap.size w w'):Ns v w':=h
set_option maxHeartbeats 4000000 in
def pz{RR:List HE}(B:Option Addr)(n c:Nat)(rows:List WX)(M:List (List Int))(P:List Nat)(K:Nat)(w:World)(hT:Xc w)(hh:Hp w0 (.row B n c 215 1 (na WX.cells rows)::RR) w)(hM:rows.map WX.l=M.map (List.map iR))(hrn:∀x∈rows,x.n=n)(hin:si RR rows P)(sq:Mv n K M)(hn:n<=4)(hK:K<=100000):Calls prog 221 #[.slice B n c] w λr w'=>r=.returned (.agg #[.bool (iN (Fx M)),.string (iM (Fx M))])/\∃(rows':List WX)(RR':List HE),Hp w0 (.row B n c 215 1 (na WX.cells rows')::RR') w'/\(∀q,q∉P->RR'[q]?=RR[q]?):=by
 have hln:rows.length=n:=(hh.ra (i:=0) rfl).Fa WX.len U';refine da (N:=120) (l:=[.slice B n c]) func221 rfl rfl (by simp) ?_;refine sr ?_;refine Vv hh ?_;intro b2 w2 hh;refine sa (sr (mL (Ym (aI (sa (sr ?_))))));refine Oa hh (yj 1 _ U' U') rfl ?_;intro w13 hh;refine Vv hh ?_;intro b4 w4 hh;refine tf hh 0 [_,_] ?_;intro ws hh;replace hh:Hp _ (.blk _ _ [_,_] _::_) _:=hh;refine aB (sa (Xa (sr (mI (mI (sa (Oe ?_)))))));refine Ra [5,6,7,8,9,10,15,16,17,18,19,20,21,22,23,24,25,26,27,28,29,30,31,32,33,34,35,36,37,38,39,40,41,42,43,44,45,46,47,48,49,50,51,52,53,54,55,56,57,58,59,60,61,62,63,64,65,66,67,68,69,70,71,72,73,74,75,76,77,78,79,80,81,82,83,84,85,86,87,88,89,90,91,92,93,94,95,96,97,98,99,100,101,102,103,104,105,106,107,108,109,110,111,112,113,114,115] 5 15 (λv5 v w'=>∃(k:Nat)(t:Bool)(N:List (List Int))(last:Int)(rows:List WX)(RS:List HE)(PS:List Nat),k<=n/\v=.int .i64 k/\v5=.bool t/\jv (n-k) k N last t=Fx M/\rows.map WX.l=N.map (List.map iR)/\(∀x∈rows,x.n=n)/\si RS rows PS/\(∀q,q∈PS->q∈P)/\Mv n (2^k*(K+1)-1) N/\last≠0/\Sa last.natAbs<=2^k*(K+1)/\(∀q,q∉P->RS[q]?=RR[q]?)/\Hp w0 (.blk b4 28 [.bool (iN last),.string (iM last)] (0,0)::.blk b2 28 [.bool false,.string (ByteArray.mk #[])] (0,0)::.row B n c 215 1 (na WX.cells rows)::RS) w') (λ_ v _=>n-(intOf v).toNat) ?_ ?_
 .exact⟨0,false,M,1,rows,RR,P,D' _,rfl,rfl,by unfold Fx;rw[sq.ln];rfl,hM,hrn,hin,λ_ h=>h,sq.mono Z',U',M_ (show Sa (Int.natAbs 1)<=1 by decide+kernel) Z',λ_ _=>rfl,hh⟩
 clear hh hM hin;rintro ρ' v5 v w' ⟨k,t,N,last,rows,RS,PS,hk,rfl,rfl,hbar,hM,hrn,hin,hPS,sq,hl0,hlz,hfr,hh⟩;by_cases hlt:k<n
 .have hcap:=hh.pe (i:=2) rfl;have hrl:rows.length=n:=(hh.ra (i:=2) rfl).Fa WX.len U';have hpn:PS.length=n:=by rw[hin.ln];exact hrl
  have hrow:∀(i:Nat)(x:WX),rows[i]?=some x->∃(p:Nat)(r:List Int),PS[i]?=some p/\RS[p]?=some x.row/\N[i]?=some r/\x.l=r.map iR:=λi x hx=>by
   obtain⟨p,hp⟩:=ea (l:=PS) (k:=i) (by have:=(X_.1 hx).1;omega);have h1:(rows.map WX.l)[i]?=some x.l:=by rw[V_,hx];rfl
   rw[hM,V_] at h1;obtain⟨r,hr⟩:=ea (l:=N) (k:=i) (by rw[sq.ln];have:=(X_.1 hx).1;omega);rw[hr] at h1;exact⟨p,r,hp,hin.at_ i x p hx hp,hr,(L_ h1).symm⟩
  obtain⟨gB,rfl⟩:=hh.Pb (i:=2) rfl Z';refine sr ?_;refine wi (sa (Xa (cT (nc (Xb (Xa (Oe (sr (mI ?_)))))))));refine Vv hh ?_;intro b6 w6 hh;refine tf hh 0 [_] ?_;intro ws hh;replace hh:Hp _ (.blk _ _ [_] _::_) _:=hh;refine sa (sr (mL ?_));refine Bm hh 0 ?_;refine Ia rfl rfl U' (bg mb.out ya.size rfl rfl (l:=k) rfl Z' Z') ?_;refine Pu ?_;replace hh:=show Hp w0 (.blk b6 3 [.int .i64 k] (0,0)::_::_::.row (some ⟨gB,0,none⟩) n c 215 1 (na WX.cells rows)::_) ws from hh;have hcut:Sl ws (if c=k then(some ⟨gB,0,none⟩:Option Addr) else(some ⟨gB,0,none⟩:Option Addr).map (·.add (k*1))) (n-k) 1 (na WX.cells (rows.drop k)):=(by have:=(hh.ra (i:=3) rfl).back (l:=k) Z' hcap;rwa[show(na WX.cells rows).drop (k*1)=na WX.cells (rows.drop k) from ng WX.len rows k] at this);have hval:∀(i:Nat)(x:WX),rows[i]?=some x->(x.l.getD k ⟨false,ByteArray.mk #[]⟩).v=Em N i k:=λi x hx=>(by obtain⟨p,r,h1,h2,h3,h4⟩:=hrow i x hx;obtain⟨r',g1,g2,g3,_⟩:=sq.at_ (i:=i) (j:=k) (by have:=(X_.1 hx).1;omega) hlt;rw[h3] at g1;obtain rfl:=L_ g1;rw[J9,h4,V_,g3];exact xR _);have hp6:=hh.Uf (i:=0) (o:=0) rfl rfl;have hcl:∀(z:WX)(w1:World),z∈rows.drop k->Below ws.heap.size ws w1->Calls prog 270 #[.slice z.A z.n z.c,.pointer (some ⟨b6,0,none⟩)] w1 λr w'=>r=.returned (.bool (decide ((z.l.getD k ⟨false,ByteArray.mk #[]⟩).v.sign≠0)))/\Below w1.heap.size w1 w':=λz w1 hz hb=>by
   obtain⟨i,hi⟩:=j_.1 (m6 hz);obtain⟨p,r,h1,h2,h3,h4⟩:=hrow i z hi;have hrl:=sq.row r (G' h3);obtain⟨x,hx⟩:=ea (l:=r) (k:=k) Z';have ha:z.l[k]?=some (iR x):=by rw[h4,V_,hx];rfl
   rw[J9,ha];have hso:Sl ws z.A z.n 2 (na IR.cells z.l):=lf (hh.own z.row (T8 [_,_,_,_] (G' h2)));exact fI z k (iR x) _ w1 (vc hb hp6) (hso.ext hb) ha
  refine qa (qJ _ (n-k) (c-k) (rows.drop k) _ [.pointer (some ⟨b6,0,none⟩)] (λz=>decide ((z.l.getD k ⟨false,ByteArray.mk #[]⟩).v.sign≠0)) _ hcut Z' hcl) ja.out rfl U' ?_;rintro e_ w22 ⟨vi,rfl,hvi,hb_⟩;refine⟨_,rfl, ?_⟩;replace hh:=hh.ext hb_;clear hcl hcut;obtain⟨rfl,hno⟩|⟨i,x,hi,rfl,hpx,hfst⟩:=hvi
  .have hpn:Zy N k=none:=yV λi h1 h2=>(by rw[sq.ln] at h2;obtain⟨x,hx⟩:=ea (l:=rows) (k:=i) Z';have h3:=(p9.1 hno) x (j_.2 ⟨i-k,by rw[F8,show k+(i-k)=i by omega];exact hx⟩);rw[hval i x hx] at h3;exact aaH);rw[AV hlt hpn] at hbar;refine aI (sa (Xa (sr (mI ?_))));refine wi (sa (cT (sr ?_)));refine MA [_,_] ?_;refine tf hh 2 [_,_] ?_;intro ws hh;replace hh:Hp _ (_::_::.blk _ _ [_,_] _::_) _:=hh;refine sa (jj (Hm (xG (Hm (Hm (xG (Hm ?_)))))));refine wU ?_;rw[<-hbar];exact⟨rfl,rows,RS,hh.sub (.cons _ (.cons _ (.cons _ (A_ _)))),hfr⟩
  have hki:k+i<n:=by have:=(X_.1 hi).1;rw[K9] at this;omega
  have hxi:rows[k+i]?=some x:=by rw[F8] at hi;exact hi
  obtain⟨xk,hxk⟩:=ea (l:=rows) (k:=k) Z';have hpiv:Zy N k=some (k+i):=by
   refine oS Z' (by rw[sq.ln];exact hki) (λh=> ?_) λj h1 h2=> ?_
   .rw[hval _ _ hxi] at hpx;exact D9 hpx (by rw[h];rfl)
   obtain⟨y,hy⟩:=ea (l:=rows) (k:=j) Z';have h3:=(p9.1 hfst) y (j_.2 ⟨j-k,by rw[V7,J' Z',F8,show k+(j-k)=j by omega];exact hy⟩);rw[hval j y hy] at h3;exact aaH
  have hpv0:Em N (k+i) k≠0:=λh=>(by rw[hval _ _ hxi] at hpx;exact D9 hpx (by rw[h];rfl));rw[mU hlt hpiv] at hbar;have hsw:=sP hin hM hrn hPS hxk hxi;clear hfst hpx hval;refine aI (sa (Xa (sr (mI ?_))));refine wi (sa (cF (nc (Xb ?_))));refine Nt [5,26,27,28,29,30,31,32,33,34,35,36,37,38,39,40,41,42,43,44,45,46,47] 5 (λv5 w'=>∃(rows2:List WX)(PS2:List Nat),v5=.bool (if k+i=k then t else !t)/\rows2.map WX.l=(Vp N k (k+i)).map (List.map iR)/\(∀x∈rows2,x.n=n)/\si RS rows2 PS2/\(∀q,q∈PS2->q∈P)/\Hp w0 (.blk b6 3 [.int .i64 k] (0,0)::.blk b4 28 [.bool (iN last),.string (iM last)] (0,0)::.blk b2 28 [.bool false,.string (ByteArray.mk #[])] (0,0)::.row (some ⟨gB,0,none⟩) n c 215 1 (na WX.cells rows2)::RS) w') ?_ ?_
  .obtain⟨PS2,hA,hB,hC,hD⟩:=hsw;by_cases hi0:0<i
   .have hrc:=ue WX.len rows;have hx1:(na WX.cells rows)[(k+i)*1]?=some (.slice x.A x.n x.c):=ll hxi;have hx2:(na WX.cells rows)[k*1]?=some (.slice xk.A xk.n xk.c):=ll hxk;have hfin:∀w',Hp w0 (.blk b6 3 [.int .i64 k] (0,0)::.blk b4 28 [.bool (iN last),.string (iM last)] (0,0)::.blk b2 28 [.bool false,.string (ByteArray.mk #[])] (0,0)::.row (some ⟨gB,0,none⟩) n c 215 1 (Ib (Ib (na WX.cells rows) (k*1) (WX.cells x)) ((k+i)*1) (WX.cells xk))::RS) w'->∃(rows2:List WX)(PS2:List Nat),Value.bool (!t)=.bool (if k+i=k then t else !t)/\rows2.map WX.l=(Vp N k (k+i)).map (List.map iR)/\(∀x∈rows2,x.n=n)/\si RS rows2 PS2/\(∀q,q∈PS2->q∈P)/\Hp w0 (.blk b6 3 [.int .i64 k] (0,0)::.blk b4 28 [.bool (iN last),.string (iM last)] (0,0)::.blk b2 28 [.bool false,.string (ByteArray.mk #[])] (0,0)::.row (some ⟨gB,0,none⟩) n c 215 1 (na WX.cells rows2)::RS) w':=λw' hh=>(by rw[ee WX.len Z',ee WX.len (by rw[T9];omega)] at hh;exact⟨_,PS2,by rw[L' Z'],hA,hB,hC,hD,hh⟩);clear hA hB hC hD;refine sr (mI ?_);refine dw (sa (cT (Xa ?_)))
    refine al [2,3,4,5] [0,0,0,0,0,24,0,0,0,384,960,1984,0,0,12288,28672,65475,131011,262143,524287] 16 [[(0,none)],[(6,none)],[(0,none)],[(6,none)],[(7,none)],[(31,some 3),(32,some 4)],[(0,none)],[(6,none)],[(7,none)],[(35,some 7),(36,some 8)],[(34,some 6),(37,some 9)],[(38,some 10)],[(0,none)],[(6,none)],[(40,some 12),(41,some 13)],[(42,some 14)]] [(15,43),(14,42),(13,41),(12,40),(11,39),(10,38),(9,37),(8,36),(7,35),(6,34),(5,33),(4,32),(3,31),(2,30),(1,29),(0,28)] [([],7,[(15,43),(14,42),(13,41),(12,40),(11,39),(10,38),(9,37),(8,36),(7,35),(6,34),(1,29),(0,28)]),([4],6,[(15,43),(14,42),(13,41),(12,40),(11,39),(10,38),(9,37),(8,36),(7,35),(6,34),(4,32),(1,29),(0,28)]),([3],6,[(15,43),(14,42),(13,41),(12,40),(11,39),(10,38),(9,37),(8,36),(7,35),(6,34),(3,31),(1,29),(0,28)]),([3,4],5,[(15,43),(14,42),(13,41),(12,40),(11,39),(10,38),(9,37),(8,36),(7,35),(6,34),(4,32),(3,31),(1,29),(0,28)]),([3,4,5],4,[(15,43),(14,42),(13,41),(12,40),(11,39),(10,38),(9,37),(8,36),(7,35),(6,34),(5,33),(4,32),(3,31),(1,29),(0,28)]),([2],6,[(15,43),(14,42),(13,41),(12,40),(11,39),(10,38),(9,37),(8,36),(7,35),(6,34),(2,30),(1,29),(0,28)]),([2,4],5,[(15,43),(14,42),(13,41),(12,40),(11,39),(10,38),(9,37),(8,36),(7,35),(6,34),(4,32),(2,30),(1,29),(0,28)]),([2,3],5,[(15,43),(14,42),(13,41),(12,40),(11,39),(10,38),(9,37),(8,36),(7,35),(6,34),(3,31),(2,30),(1,29),(0,28)]),([2,3,4],4,[(15,43),(14,42),(13,41),(12,40),(11,39),(10,38),(9,37),(8,36),(7,35),(6,34),(4,32),(3,31),(2,30),(1,29),(0,28)]),([2,3,4,5],3,[(15,43),(14,42),(13,41),(12,40),(11,39),(10,38),(9,37),(8,36),(7,35),(6,34),(5,33),(4,32),(3,31),(2,30),(1,29),(0,28)])] hh mixed T' T' U' ?_
    refine Ee ?_;refine ze 0 ?_;refine Ee ?_;refine ze 0 ?_;refine jd ?_;refine Hs ?_;refine Ee ?_;refine ze 0 ?_;refine jd ?_;refine Hs ?_;refine Ft ((k+i)) ?_;refine Vo (λ_ hj=>hj.hp.cd (i:=3) rfl hx1) ?_;refine Ee ?_;refine ze 0 ?_;refine Ft (k) ?_;refine Vo (λ_ hj=>hj.hp.cd (i:=3) rfl hx2) ?_;refine xa ?_;intro p_ hp_;simp only[T_,O9,or_false] at hp_;obtain rfl|rfl|rfl|rfl|rfl|rfl|rfl|rfl|rfl|rfl:=hp_
    .intro f W hJ hV;have hb_10:=hJ.bl;obtain⟨v43,v42,v41,v40,v39,v38,v37,v36,v35,v34,v29,v28,_⟩:=hV;simp only[Gf];have e28:f 0=_:=v28;rw[e28];have e29:f 1=_:=v29;rw[e29];have e34:f 6=_:=v34;rw[e34];have e35:f 7=_:=v35;rw[e35];have e36:f 8=_:=v36;rw[e36];have e37:f 9=_:=v37;rw[e37];have e38:f 10=_:=v38;rw[e38];have e39:f 11=_:=v39;rw[e39];have e40:f 12=_:=v40;rw[e40];have e41:f 13=_:=v41;rw[e41];have e42:f 14=_:=v42;rw[e42];have e43:f 15=_:=v43;rw[e43];replace hh:=hJ.hp;clear e28 e29 e34 e35 e36 e37 e38 e39 e40 e41 e42 e43 hJ;refine Qm ?_;refine Zc ?_;refine Rb (i:=2) (by repeat (first|exact Eb|refine Ya ?_|refine Db ?_|refine Bb ?_)) rfl T' T' T' (λ_=>Lc rfl) U' ?_;refine Rb (i:=4) (by repeat (first|exact Eb|refine Ya ?_|refine Db ?_|refine Bb ?_)) rfl T' T' T' (λ_=>Lc rfl) U' ?_;refine VM ?_ ?_
     .refine Bm hh 0 ?_;exact xF
     exact yK
    .intro f W hJ hV;have hb_10:=hJ.bl;obtain⟨v43,v42,v41,v40,v39,v38,v37,v36,v35,v34,v32,v29,v28,_⟩:=hV;simp only[Gf];have e28:f 0=_:=v28;rw[e28];have e29:f 1=_:=v29;rw[e29];have e32:f 4=_:=v32;rw[e32];have e34:f 6=_:=v34;rw[e34];have e35:f 7=_:=v35;rw[e35];have e36:f 8=_:=v36;rw[e36];have e37:f 9=_:=v37;rw[e37];have e38:f 10=_:=v38;rw[e38];have e39:f 11=_:=v39;rw[e39];have e40:f 12=_:=v40;rw[e40];have e41:f 13=_:=v41;rw[e41];have e42:f 14=_:=v42;rw[e42];have e43:f 15=_:=v43;rw[e43];replace hh:=hJ.hp;clear e28 e29 e32 e34 e35 e36 e37 e38 e39 e40 e41 e42 e43 hJ;refine Qm ?_;refine Zc ?_;refine Rb (i:=2) (by repeat (first|exact Eb|refine Ya ?_|refine Db ?_|refine Bb ?_)) rfl T' T' T' (λ_=>Lc rfl) U' ?_;refine VM ?_ ?_
     .refine Bm hh 0 ?_;exact xF
     exact yK
    .intro f W hJ hV;have hb_10:=hJ.bl;obtain⟨v43,v42,v41,v40,v39,v38,v37,v36,v35,v34,v31,v29,v28,_⟩:=hV;simp only[Gf];have e28:f 0=_:=v28;rw[e28];have e29:f 1=_:=v29;rw[e29];have e31:f 3=_:=v31;rw[e31];have e34:f 6=_:=v34;rw[e34];have e35:f 7=_:=v35;rw[e35];have e36:f 8=_:=v36;rw[e36];have e37:f 9=_:=v37;rw[e37];have e38:f 10=_:=v38;rw[e38];have e39:f 11=_:=v39;rw[e39];have e40:f 12=_:=v40;rw[e40];have e41:f 13=_:=v41;rw[e41];have e42:f 14=_:=v42;rw[e42];have e43:f 15=_:=v43;rw[e43];replace hh:=hJ.hp;clear e28 e29 e31 e34 e35 e36 e37 e38 e39 e40 e41 e42 e43 hJ;refine Qm ?_;refine Zc ?_;refine Rb (i:=2) (by repeat (first|exact Eb|refine Ya ?_|refine Db ?_|refine Bb ?_)) rfl T' T' T' (λ_=>Lc rfl) U' ?_;refine Rb (i:=4) (by repeat (first|exact Eb|refine Ya ?_|refine Db ?_|refine Bb ?_)) rfl T' T' T' (λ_=>Lc rfl) U' ?_;refine Rb (i:=5) (by repeat (first|exact Eb|refine Ya ?_|refine Db ?_|refine Bb ?_)) rfl T' T' T' (λ_=>Dt rfl rfl Z' Z') U' ?_;refine EA ?_;exact EG
    .intro f W hJ hV;have hb_10:=hJ.bl;obtain⟨v43,v42,v41,v40,v39,v38,v37,v36,v35,v34,v32,v31,v29,v28,_⟩:=hV;simp only[Gf];have e28:f 0=_:=v28;rw[e28];have e29:f 1=_:=v29;rw[e29];have e31:f 3=_:=v31;rw[e31];have e32:f 4=_:=v32;rw[e32];have e34:f 6=_:=v34;rw[e34];have e35:f 7=_:=v35;rw[e35];have e36:f 8=_:=v36;rw[e36];have e37:f 9=_:=v37;rw[e37];have e38:f 10=_:=v38;rw[e38];have e39:f 11=_:=v39;rw[e39];have e40:f 12=_:=v40;rw[e40];have e41:f 13=_:=v41;rw[e41];have e42:f 14=_:=v42;rw[e42];have e43:f 15=_:=v43;rw[e43];replace hh:=hJ.hp;clear e28 e29 e31 e32 e34 e35 e36 e37 e38 e39 e40 e41 e42 e43 hJ;refine Qm ?_;refine Zc ?_;refine Rb (i:=2) (by repeat (first|exact Eb|refine Ya ?_|refine Db ?_|refine Bb ?_)) rfl T' T' T' (λ_=>Lc rfl) U' ?_;refine Rb (i:=5) (by repeat (first|exact Eb|refine Ya ?_|refine Db ?_|refine Bb ?_)) rfl T' T' T' (λ_=>Dt rfl rfl Z' Z') U' ?_;refine EA ?_;exact EG
    .intro f W hJ hV;have hb_10:=hJ.bl;obtain⟨v43,v42,v41,v40,v39,v38,v37,v36,v35,v34,v33,v32,v31,v29,v28,_⟩:=hV;simp only[Gf];have e28:f 0=_:=v28;rw[e28];have e29:f 1=_:=v29;rw[e29];have e31:f 3=_:=v31;rw[e31];have e32:f 4=_:=v32;rw[e32];have e33:f 5=_:=v33;rw[e33];have e34:f 6=_:=v34;rw[e34];have e35:f 7=_:=v35;rw[e35];have e36:f 8=_:=v36;rw[e36];have e37:f 9=_:=v37;rw[e37];have e38:f 10=_:=v38;rw[e38];have e39:f 11=_:=v39;rw[e39];have e40:f 12=_:=v40;rw[e40];have e41:f 13=_:=v41;rw[e41];have e42:f 14=_:=v42;rw[e42];have e43:f 15=_:=v43;rw[e43];replace hh:=hJ.hp;clear e28 e29 e31 e32 e33 e34 e35 e36 e37 e38 e39 e40 e41 e42 e43 hJ;refine Qm ?_;refine Zc ?_;refine Rb (i:=2) (by repeat (first|exact Eb|refine Ya ?_|refine Db ?_|refine Bb ?_)) rfl T' T' T' (λ_=>Lc rfl) U' ?_;refine EA ?_;exact EG
    .intro f W hJ hV;have hb_10:=hJ.bl;obtain⟨v43,v42,v41,v40,v39,v38,v37,v36,v35,v34,v30,v29,v28,_⟩:=hV;simp only[Gf];have e28:f 0=_:=v28;rw[e28];have e29:f 1=_:=v29;rw[e29];have e30:f 2=_:=v30;rw[e30];have e34:f 6=_:=v34;rw[e34];have e35:f 7=_:=v35;rw[e35];have e36:f 8=_:=v36;rw[e36];have e37:f 9=_:=v37;rw[e37];have e38:f 10=_:=v38;rw[e38];have e39:f 11=_:=v39;rw[e39];have e40:f 12=_:=v40;rw[e40];have e41:f 13=_:=v41;rw[e41];have e42:f 14=_:=v42;rw[e42];have e43:f 15=_:=v43;rw[e43];replace hh:=hJ.hp;clear e28 e29 e30 e34 e35 e36 e37 e38 e39 e40 e41 e42 e43 hJ;refine Qm ?_;refine Zc ?_;refine Rb (i:=4) (by repeat (first|exact Eb|refine Ya ?_|refine Db ?_|refine Bb ?_)) rfl T' T' T' (λ_=>Lc rfl) U' ?_;refine VM ?_ ?_
     .refine Bm hh 0 ?_;exact xF
     exact yK
    .intro f W hJ hV;have hb_10:=hJ.bl;obtain⟨v43,v42,v41,v40,v39,v38,v37,v36,v35,v34,v32,v30,v29,v28,_⟩:=hV;simp only[Gf];have e28:f 0=_:=v28;rw[e28];have e29:f 1=_:=v29;rw[e29];have e30:f 2=_:=v30;rw[e30];have e32:f 4=_:=v32;rw[e32];have e34:f 6=_:=v34;rw[e34];have e35:f 7=_:=v35;rw[e35];have e36:f 8=_:=v36;rw[e36];have e37:f 9=_:=v37;rw[e37];have e38:f 10=_:=v38;rw[e38];have e39:f 11=_:=v39;rw[e39];have e40:f 12=_:=v40;rw[e40];have e41:f 13=_:=v41;rw[e41];have e42:f 14=_:=v42;rw[e42];have e43:f 15=_:=v43;rw[e43];replace hh:=hJ.hp;clear e28 e29 e30 e32 e34 e35 e36 e37 e38 e39 e40 e41 e42 e43 hJ;refine Qm ?_;refine Zc ?_;refine VM ?_ ?_
     .refine Bm hh 0 ?_;exact xF
     exact yK
    .intro f W hJ hV;have hb_10:=hJ.bl;obtain⟨v43,v42,v41,v40,v39,v38,v37,v36,v35,v34,v31,v30,v29,v28,_⟩:=hV;simp only[Gf];have e28:f 0=_:=v28;rw[e28];have e29:f 1=_:=v29;rw[e29];have e30:f 2=_:=v30;rw[e30];have e31:f 3=_:=v31;rw[e31];have e34:f 6=_:=v34;rw[e34];have e35:f 7=_:=v35;rw[e35];have e36:f 8=_:=v36;rw[e36];have e37:f 9=_:=v37;rw[e37];have e38:f 10=_:=v38;rw[e38];have e39:f 11=_:=v39;rw[e39];have e40:f 12=_:=v40;rw[e40];have e41:f 13=_:=v41;rw[e41];have e42:f 14=_:=v42;rw[e42];have e43:f 15=_:=v43;rw[e43];replace hh:=hJ.hp;clear e28 e29 e30 e31 e34 e35 e36 e37 e38 e39 e40 e41 e42 e43 hJ;refine Qm ?_;refine Zc ?_;refine Rb (i:=4) (by repeat (first|exact Eb|refine Ya ?_|refine Db ?_|refine Bb ?_)) rfl T' T' T' (λ_=>Lc rfl) U' ?_;refine Rb (i:=5) (by repeat (first|exact Eb|refine Ya ?_|refine Db ?_|refine Bb ?_)) rfl T' T' T' (λ_=>Dt rfl rfl Z' Z') U' ?_;refine EA ?_;exact EG
    .intro f W hJ hV;have hb_10:=hJ.bl;obtain⟨v43,v42,v41,v40,v39,v38,v37,v36,v35,v34,v32,v31,v30,v29,v28,_⟩:=hV;simp only[Gf];have e28:f 0=_:=v28;rw[e28];have e29:f 1=_:=v29;rw[e29];have e30:f 2=_:=v30;rw[e30];have e31:f 3=_:=v31;rw[e31];have e32:f 4=_:=v32;rw[e32];have e34:f 6=_:=v34;rw[e34];have e35:f 7=_:=v35;rw[e35];have e36:f 8=_:=v36;rw[e36];have e37:f 9=_:=v37;rw[e37];have e38:f 10=_:=v38;rw[e38];have e39:f 11=_:=v39;rw[e39];have e40:f 12=_:=v40;rw[e40];have e41:f 13=_:=v41;rw[e41];have e42:f 14=_:=v42;rw[e42];have e43:f 15=_:=v43;rw[e43];replace hh:=hJ.hp;clear e28 e29 e30 e31 e32 e34 e35 e36 e37 e38 e39 e40 e41 e42 e43 hJ;refine Qm ?_;exact xF
    intro f W hJ hV;have hb_10:=hJ.bl;obtain⟨v43,v42,v41,v40,v39,v38,v37,v36,v35,v34,v33,v32,v31,v30,v29,v28,_⟩:=hV;simp only[Gf];have e28:f 0=_:=v28;rw[e28];have e29:f 1=_:=v29;rw[e29];have e30:f 2=_:=v30;rw[e30];have e31:f 3=_:=v31;rw[e31];have e32:f 4=_:=v32;rw[e32];have e33:f 5=_:=v33;rw[e33];have e34:f 6=_:=v34;rw[e34];have e35:f 7=_:=v35;rw[e35];have e36:f 8=_:=v36;rw[e36];have e37:f 9=_:=v37;rw[e37];have e38:f 10=_:=v38;rw[e38];have e39:f 11=_:=v39;rw[e39];have e40:f 12=_:=v40;rw[e40];have e41:f 13=_:=v41;rw[e41];have e42:f 14=_:=v42;rw[e42];have e43:f 15=_:=v43;rw[e43];replace hh:=hJ.hp;clear e28 e29 e30 e31 e32 e33 e34 e35 e36 e37 e38 e39 e40 e41 e42 e43 hJ;refine Qm ?_;refine Zc ?_;refine EA ?_;exact EG
   obtain rfl:i=0:=Z';rw[u9] at hxi hA hB hC |-;obtain rfl:xk=x:=by rw[hxi] at hxk;exact(L_ hxk).symm
   rw[List.set_set,vn hxk] at hA hB hC;refine sr (mI ?_);refine dw (sa (cF (nc (Xb ?_))));refine⟨⟨rows,PS2,by rw[J' rfl];rfl,hA,hB,hC,hD,hh⟩, ?_⟩;repeat refine Wc rfl ?_
   exact λ_ _=>rfl
  intro ρ2 v5 w1 ⟨rows2,PS2,hv5,hM2,hrn2,hin2,hPS2,hh⟩;subst hv5;have hpv:Em (Vp N k (k+i)) k k≠0:=(by rw[lZ (sq.ln ▸ hlt) (sq.ln ▸ hki)];exact hpv0);have sq2:=sq.swp (i:=k+i) hlt hki;have hN2:(Vp N k (k+i)).length=n:=sq2.ln;have hNl:N.length=n:=sq.ln;rw[hNl] at hbar;clear hsw hM hrn hin hPS hxi hxk hrow sq hpiv hpv0 hcap hrl hpn;generalize Vp N k (k+i)=N2 at*;generalize (if k+i=k then t else !t)=t2 at*;refine Xa (sr ?_);refine Bm hh 0 ?_;refine mj (aI (sa (Oe ?_)));refine Ba [8,9,10,50,51,52,53,54,55,56,57,58,59,60,61,62,63,64,65,66,67,68,69,70,71,72,73,74,75,76,77,78,79,80,81,82,83,84,85,86,87,88,89,90,91,92,93,94,95,96,97,98,99,100,101,102,103,104,105,106,107] 8 (λv w'=>∃(i:Nat)(rows3:List WX)(RS3:List HE),k+1<=i/\i<=n/\v=.int .i64 i/\rows3.map WX.l=(ji N2 k i 0 last).map (List.map iR)/\(∀x∈rows3,x.n=n)/\si RS3 rows3 PS2/\(∀q,q∉P->RS3[q]?=RR[q]?)/\Hp w0 (.blk b6 3 [.int .i64 k] (0,0)::.blk b4 28 [.bool (iN last),.string (iM last)] (0,0)::.blk b2 28 [.bool false,.string (ByteArray.mk #[])] (0,0)::.row (some ⟨gB,0,none⟩) n c 215 1 (na WX.cells rows3)::RS3) w') (λv _=>n-(intOf v).toNat) ?_ ?_
  .exact⟨k+1,rows2,RS,j' _,hlt,rfl,by rw[DN];exact hM2,hrn2,hin2,hfr,hh⟩
  clear hh hM2 hrn2 hin2 hfr;rintro ρ3 v w3 ⟨i,rows3,RS3,hi1,hi2,rfl,hM3,hrn3,hin3,hfr3,hh⟩;by_cases hit:i<n
  .refine Xa (sr (mI (mI ?_)));refine wi (sa (cT (nc (Xb (Xa (Oe (sr ?_)))))));refine Bm hh 0 ?_;refine mj (aI (sa (Oe ?_)));refine Ba [9,10,57,58,59,60,61,62,63,64,65,66,67,68,69,70,71,72,73,74,75,76,77,78,79,80,81,82,83,84,85,86,87,88,89,90,91,92,93,94,95,96,97,98,99,100,101,102,103,104,105,106,107] 9 (λv w'=>∃(j:Nat)(rows4:List WX)(RS4:List HE),k+1<=j/\j<=n/\v=.int .i64 j/\rows4.map WX.l=(ji N2 k i j last).map (List.map iR)/\(∀x∈rows4,x.n=n)/\si RS4 rows4 PS2/\(∀q,q∉P->RS4[q]?=RR[q]?)/\Hp w0 (.blk b6 3 [.int .i64 k] (0,0)::.blk b4 28 [.bool (iN last),.string (iM last)] (0,0)::.blk b2 28 [.bool false,.string (ByteArray.mk #[])] (0,0)::.row (some ⟨gB,0,none⟩) n c 215 1 (na WX.cells rows4)::RS4) w') (λv _=>n-(intOf v).toNat) ?_ ?_
   .exact⟨k+1,rows3,RS3,j' _,hlt,rfl,by rw[<-YY];exact hM3,hrn3,hin3,hfr3,hh⟩
   clear hh hM3 hrn3 hin3 hfr3;rintro ρ4 v w5 ⟨j,rows4,RS4,hj1,hj2,rfl,hM4,hrn4,hin4,hfr4,hh⟩;by_cases hjn:j<n
   .have sq4:=sq2.Ch (i:=i) (j:=j) (last:=last) hlt;obtain⟨gx,cx,lx,px,hx,hpx,hRx,hlx,hvx⟩:=hin4.at2 hh hM4 hrn4 sq4 hit;obtain⟨gy,cy,ly,py,hy,hpy,hRy,hly,hvy⟩:=hin4.at2 hh hM4 hrn4 sq4 hlt;have e1:=hvx j hjn;have e2:=hvy k hlt;have e3:=hvx k hlt;have e4:=hvy j hjn;rw[Sx sq2 hit hjn Z'] at e1;rw[Sx sq2 hlt hlt Z'] at e2;rw[Sx sq2 hit hlt Z'] at e3;rw[Sx sq2 hlt hjn Z'] at e4;obtain⟨_,_,_,_,z1⟩:=sq2.at_ hit hjn;obtain⟨_,_,_,_,z2⟩:=sq2.at_ hlt hlt;obtain⟨_,_,_,_,z3⟩:=sq2.at_ hit hlt;obtain⟨_,_,_,_,z4⟩:=sq2.at_ hlt hjn;have hfin:=hin4.wc hM4 sq4 hx hpx (aV (last:=last) sq2 Z' hit hj1 hjn);have hPq:=hPS2 px (G' hpx);have hbar4:=Fv (last:=last) z1 z2 z3 z4;unfold GD at hfin hbar4;have hk16:2^k*(K+1)<=1600016:=(by have:2^k<=2^4:=m_ U' Z';exact M_ (n9 this (show K+1<=100001 by omega)) U');generalize Em N2 i j=a1 at*;generalize Em N2 k k=a2 at*;generalize Em N2 i k=a3 at*;generalize Em N2 k j=a4 at*;have hmul1:=λA c w1 hS=>iq A 2 c [iR a1,iR a2] w1 hS U' (oV z1 z2 Z');have hmul2:=λA c w1 hS=>iq A 2 c [iR a3,iR a4] w1 hS U' (oV z3 z4 Z');rw[jT] at hmul1 hmul2;have hsub:=λw1=>Lj (iN (a1*a2)) (iN (a3*a4)) (iM (a1*a2)) (iM (a3*a4)) w1 (nQ z1 z2 Z') (nQ z3 z4 Z');rw[zd,zd] at hsub;have hdiv:=λw1=>jH (iN (a1*a2-a3*a4)) (iN last) (iM (a1*a2-a3*a4)) (iM last) w1 (ab0 z1 z2 z3 z4 Z') (by rw[Nc];omega) (by rw[zd];exact hl0);rw[zd,zd] at hdiv;generalize (a1*a2-a3*a4)/last=z at*;have hx1:=ll hx;have hy1:=ll hy;refine Xa (sr (mI (mI ?_)));refine wi (sa (cT (nc (Xb (Xa (Oe (Xa ?_)))))))
    refine Cd [33] [] [0,0,3,7,0,31,63,0,0,384,896,0,3968,8064,16383,32767,0,0,196608,458752,0,2031616,4128768,0,0,25165824,58720256,0,260046848,528482304,1073676288,2147483647,4294967295,0,17179869183] 34 [[(0,none)],[(8,none)],[(62,some 0),(63,some 1)],[(64,some 2)],[(9,none)],[(65,some 3),(66,some 4)],[(67,some 5)],[(0,none)],[(6,none)],[(69,some 7),(70,some 8)],[(71,some 9)],[(6,none)],[(72,some 10),(73,some 11)],[(74,some 12)],[(68,some 6),(75,some 13)],[(76,some 14)],[(0,none)],[(8,none)],[(78,some 16),(79,some 17)],[(80,some 18)],[(6,none)],[(81,some 19),(82,some 20)],[(83,some 21)],[(0,none)],[(6,none)],[(85,some 23),(86,some 24)],[(87,some 25)],[(9,none)],[(88,some 26),(89,some 27)],[(90,some 28)],[(84,some 22),(91,some 29)],[(92,some 30)],[(77,some 15),(93,some 31)],[]] [(33,10),(32,94),(31,93),(30,92),(29,91),(28,90),(27,89),(26,88),(25,87),(24,86),(23,85),(22,84),(21,83),(20,82),(19,81),(18,80),(17,79),(16,78),(15,77),(14,76),(13,75),(12,74),(11,73),(10,72),(9,71),(8,70),(7,69),(6,68),(5,67),(4,66),(3,65),(2,64),(1,63),(0,62)] hh mixed T' (Li rfl ya.out Od) rfl (by repeat (first|exact Eb|refine Ya ?_|refine Db ?_)) ?_
    refine Ee ?_;refine jd ?_;refine Ft (i) ?_;refine Vo (λ_ hj=>hj.hp.cd (i:=3) rfl hx1) ?_;refine jd ?_;refine Ft (j) ?_;refine Zm [_,_] (λ_ hj=>hj.hp.Jd (f:=IR.cells) (x:=iR a1) (l:=lx) (i:=px+4) hRx IR.len U' e1) ?_;refine Ee ?_;refine ze 0 ?_;refine Ft (k) ?_;refine Vo (λ_ hj=>hj.hp.cd (i:=3) rfl hy1) ?_;refine ze 0 ?_;refine Ft (k) ?_;refine Zm [_,_] (λ_ hj=>hj.hp.Jd (f:=IR.cells) (x:=iR a2) (l:=ly) (i:=py+4) hRy IR.len U' e2) ?_;refine uq [_,_,_,_] ?_;refine Va (i:=15) (Is (.agg #[.bool (iN (a1*a2)),.string (iM (a1*a2))])) Is.ext ?_ ?_
    .intro ρ1 w1 hj hR;obtain⟨A76,c76,h76,s76⟩:=hR.1;exact Qb rfl (pb ja.out (Ga h76 Gb)) (hmul1 A76 c76 _ s76) (λ_ _ hq=>⟨_,hq.1,hq.2,rfl⟩)
    refine Ee ?_;refine jd ?_;refine Ft (i) ?_;refine Vo (λ_ hj=>hj.hp.cd (i:=3) rfl hx1) ?_;refine ze 0 ?_;refine Ft (k) ?_;refine Zm [_,_] (λ_ hj=>hj.hp.Jd (f:=IR.cells) (x:=iR a3) (l:=lx) (i:=px+4) hRx IR.len U' e3) ?_;refine Ee ?_;refine ze 0 ?_;refine Ft (k) ?_;refine Vo (λ_ hj=>hj.hp.cd (i:=3) rfl hy1) ?_;refine jd ?_;refine Ft (j) ?_;refine Zm [_,_] (λ_ hj=>hj.hp.Jd (f:=IR.cells) (x:=iR a4) (l:=ly) (i:=py+4) hRy IR.len U' e4) ?_;refine uq [_,_,_,_] ?_;refine Va (i:=31) (Is (.agg #[.bool (iN (a3*a4)),.string (iM (a3*a4))])) Is.ext ?_ ?_
    .intro ρ1 w1 hj hR;obtain⟨A92,c92,h92,s92⟩:=hR.1;exact Qb rfl (pb ja.out (Ga h92 Gb)) (hmul2 A92 c92 _ s92) (λ_ _ hq=>⟨_,hq.1,hq.2,rfl⟩)
    refine dC (λ_ hj=>hsub _) ?_;refine Va (i:=33) (Ic _ 28 _) Ic.ext (λρ1 w1 hj hR=>Si ya.out hj.bl (λv w2 h hb=>⟨hb,h⟩)) ?_;refine xa ?_;intro f W hJ hV _;have hb_18:=hJ.bl;obtain⟨v10,v94,v93,v92,v91,v90,v89,v88,v87,v86,v85,v84,v83,v82,v81,v80,v79,v78,v77,v76,v75,v74,v73,v72,v71,v70,v69,v68,v67,v66,v65,v64,v63,v62,_⟩:=hV;obtain⟨A76,c76,e76,f76⟩:Rows _ _ _ (f 14) W:=v76;obtain⟨A92,c92,e92,f92⟩:Rows _ _ _ (f 30) W:=v92;obtain⟨b10,e10,hl10,hc10⟩:Ic _ _ _ (f 33) W:=v10;replace hh:=hJ.newVar hh hl10 hc10;refine Ea (Na (aa e10 (aa v94 (aa v93 (aa e92 (aa v91 (aa v90 (aa v89 (aa v88 (aa v87 (aa v86 (aa v85 (aa v84 (aa v83 (aa v82 (aa v81 (aa v80 (aa v79 (aa v78 (aa v77 (aa e76 (aa v75 (aa v74 (aa v73 (aa v72 (aa v71 (aa v70 (aa v69 (aa v68 (aa v67 (aa v66 (aa v65 (aa v64 (aa v63 (aa v62 Da))))))))))))))))))))))))))))))))))) ?_;dsimp only[Cb];clear e76 e92 e10 hJ;refine tf hh 0 [_,_] ?_;intro ws hh;replace hh:Hp _ (.blk _ _ [_,_] _::_) _:=hh;refine sa ?_
    refine Cd [] [10,11] [0,0,3,7,0,0,0,96,224,480,480,480,1023,5119] 12 [[(0,none)],[(8,none)],[(96,some 0),(97,some 1)],[(98,some 2)],[(9,none)],[(10,none)],[(4,none)],[(101,some 5),(102,some 6)],[(103,some 7)],[(95,some 8)],[(95,some 8)],[(95,some 8)]] [(11,106),(10,105),(9,104),(8,95),(7,103),(6,102),(5,101),(4,100),(3,99),(2,98),(1,97),(0,96)] hh mixed T' Od rfl (by repeat (first|exact Eb|refine Ya ?_|refine Db ?_)) ?_;refine Ee ?_;refine jd ?_;refine Ft (i) ?_;refine Vo (λ_ hj=>hj.hp.cd (i:=4) rfl hx1) ?_;refine jd ?_;refine Yd 0 [_,_] ?_;refine Yd 2 [_,_] ?_;refine Va (i:=7) (Nl z) (Nl.ext) ?_ ?_
    .intro ρ1 w1 hj hR;exact Qb rfl (pb ja.out (Ga (show ρ1 101=Value.agg (List.toArray _) from hR.1) (Ga (show ρ1 102=Value.agg (List.toArray _) from hR.2.1) Gb))) (hdiv w1) (λ_ _ ⟨x,y,hq,hb⟩=>⟨_,hq,hb,(x,y),rfl,trivial⟩)
    refine Va (i:=8) (Nl z) (Nl.ext) ?_ ?_
    .intro ρ1 w1 hj hR;obtain⟨g103,e103,o103⟩:=hR.1;exact Pd rfl (Lc e103) ⟨Below.refl _ _,g103,rfl,o103⟩
    refine Va (i:=9) (Is (.agg #[.bool (iN z),.string (iM z)])) (Is.ext) ?_ ?_
    .exact ad5
    refine Va (i:=10) (Ns) (Ns.ext) ?_ ?_
    .intro ρ1 w1 hj hR;obtain⟨g95,e95,o95⟩:=hR.1;exact Pd rfl (Le (show _=Value.tuple (List.toArray _) from e95) rfl) ⟨Below.refl _ _,g95,rfl,trivial⟩
    refine Va (i:=11) (Is (.bool true)) (Is.ext) ?_ ?_
    .exact ad5
    refine xa ?_;intro f W hJ hV _;have hb_19:=hJ.bl;obtain⟨v106,v105,v104,v95,v103,v102,v101,v100,v99,v98,v97,v96,_⟩:=hV;obtain⟨g103,e103,o103⟩:Nl z (f 7) W:=v103;obtain⟨g95,e95,o95⟩:Nl z (f 8) W:=v95;obtain⟨g105,e105,o105⟩:Ns (f 10) W:=v105;replace hh:=hJ.hp;refine Ea (Na (aa v106 (aa e105 (aa v104 (aa e95 (aa e103 (aa v102 (aa v101 (aa v100 (aa v99 (aa v98 (aa v97 (aa v96 Da))))))))))))) ?_;dsimp only[Cb];clear e103 e95 e105 hJ;refine Sd (k:=j) mb.out ya.size rfl rfl Z' Z' U' ?_;refine Ab hh (i:=px+5) (vs:=[_,_]) rfl hRx (Qd rfl) rfl ya.out rfl (by rw[ue IR.len,hlx];omega) rfl ?_;intro ws hh;replace hh:=show Hp w0 (_::_::_::_::_::RS4.set px (.row (some ⟨gx,0,none⟩) n cx 28 2 (Ib (na IR.cells lx) (j*2) (IR.cells (iR z))))) ws from hh;rw[ee IR.len Z'] at hh;refine Vn (Rt (Xb (Jb (mI ?_))));refine mj (aI (Vn (Xb ?_)));replace hh:=hh.sub (p' _ (I' _ (I' _ (I' _ (I' _ (A_ _))))))
    refine⟨⟨j+1,rows4.set i ⟨some ⟨gx,0,none⟩,n,cx,lx.set j (iR z)⟩,RS4.set px (.row (some ⟨gx,0,none⟩) n cx 28 2 (na IR.cells (lx.set j (iR z)))),Z',Z',rfl,hfin.1, ?_,hfin.2, ?_, ?_⟩,by show n-(j+1)<n-j;omega, ?_⟩
    .intro u hu;obtain hu|rfl:=H8 hu
     .exact hrn4 u hu
     rfl
    .intro q hq;rw[List.getElem?_set_ne (λe:px=q=>hq (e ▸ hPq))];exact hfr4 q hq
    .rw[Xy (y:=⟨some ⟨gx,0,none⟩,n,cx,lx.set j (iR z)⟩) hx rfl];exact hh
    exact Sc
   obtain rfl:n=j:=Z';rw[PY sq2] at hM4;refine Xa (sr (mI (mI ?_)));refine wi (sa (cF (Il (Ci (Ci (nq (Rt (Xb (Jb (mI ?_))))))))));refine mj (aI (Vn (Xb ?_)));refine⟨⟨i+1,rows4,RS4,Z',Z',rfl,hM4,hrn4,hin4,hfr4,hh⟩,by show n-(i+1)<n-i;omega, ?_⟩;exact Sc
  obtain rfl:n=i:=Z';have sq3:=sq2.Ch (i:=n) (j:=0) (last:=last) hlt;obtain⟨gy,cy,ly,py,hy,hpy,hRy,hly,hvy⟩:=hin3.at2 hh hM3 hrn3 sq3 hlt;have e2:=hvy k hlt;rw[Sx sq2 hlt hlt Z'] at e2;have hy1:=ll hy;refine Xa (sr (mI (mI ?_)));refine wi (sa (cF (Il (Ci (Ci (nq (Xb ?_)))))));refine Cd [] [] [0,0,3,7,0,31,63,127] 5 [[(0,none)],[(6,none)],[(108,some 0),(109,some 1)],[(110,some 2)],[(6,none)]] [(4,112),(3,111),(2,110),(1,109),(0,108)] hh mixed T' Od rfl (by repeat (first|exact Eb|refine Ya ?_|refine Db ?_)) ?_;refine Ee ?_;refine ze 0 ?_;refine Ft (k) ?_;refine Vo (λ_ hj=>hj.hp.cd (i:=3) rfl hy1) ?_;refine ze 0 ?_;refine xa ?_;intro f W hJ hV _;have hb_20:=hJ.bl;obtain⟨v112,v111,v110,v109,v108,_⟩:=hV;replace hh:=hJ.hp;refine Ea (Na (aa v112 (aa v111 (aa v110 (aa v109 (aa v108 Da)))))) ?_;dsimp only[Cb];clear hJ;refine Qm ?_;refine wb (vs:=[_,_]) ya.out rfl (hh.Jd (f:=IR.cells) (x:=iR (Em N2 k k)) (l:=ly) (i:=py+4) hRy IR.len U' e2) rfl U' ?_;refine tf hh 1 [_,_] ?_;intro ws hh;replace hh:Hp _ (_::.blk _ _ [_,_] _::_) _:=hh;refine Vn (Rt (Xb (Jb ?_)));refine mj (mI (Vn (Xb ?_)))
  replace hh:=hh.sub (p' _ (I' _ (I' _ (I' _ (A_ _)))));obtain⟨_,_,_,_,z2⟩:=sq2.at_ hlt hlt;have hpw:2^(k+1)*(K+1)=2^k*(K+1)*2:=by rw[i_,Nat.mul_right_comm]
  have hp0:0<2^k*(K+1):=H7 (Nat.two_pow_pos k) (Nat.succ_pos K);refine⟨⟨k+1,t2,ji N2 k n 0 last,Em N2 k k,rows3,RS3,PS2,Z',rfl,rfl,hbar,hM3,hrn3,hin3,hPS2,sq3.mono Z',hpv,Z',hfr3,hh⟩,by show n-(k+1)<n-k;omega, ?_⟩;exact Sc
 obtain rfl:n=k:=Z';rw[d_,jv] at hbar
 cases t with
 |true=>
  rw[J' rfl] at hbar;have hng:=λw1=>Qg (iN last) (iM last) w1;rw[zd] at hng;refine sr ?_;refine wi (sa (Xa (cF (Il (Ci (Ci (nq (Xb (Xa (sr (mB (sa (cT (sr ?_))))))))))))));refine Lk hh 0 [_,_] ?_;refine Oa hh (hng _) rfl ?_;intro w118 hh;refine tf hh 1 [_,_] ?_;intro ws hh;replace hh:Hp _ (_::.blk _ _ [_,_] _::_) _:=hh;refine sa (jj (Hm ?_));exact adh
 |false=>
  rw[L' U'] at hbar;refine sr ?_;refine wi (sa (Xa (cF (Il (Ci (Ci (nq (Xb (Xa (sr (mB (sa (cF (nc (Xb (Xa (Jb ?_)))))))))))))))));refine Lk hh 0 [_,_] ?_;refine tf hh 1 [_,_] ?_;intro ws hh;replace hh:Hp _ (_::.blk _ _ [_,_] _::_) _:=hh;refine sa (jj ?_);exact adh
variable {Hr:List HE}
def dI(g n c a:Nat)(l:List NR)(w:World)(hh:Hp w0 (.row (some ⟨g,0,none⟩) n c 30 3 (na NR.cells l)::Hr) w)(hl:l.length=n)(ha:a<n)(hn:n<=1000):Calls prog 271 #[.slice (some ⟨g,0,none⟩) n c,.int .i64 a,.int .i64 ((a:Int)+1)] w λr w'=>r=.returned (.slice (some ⟨g,0,none⟩) (n-1) c)/\Hp w0 (.row (some ⟨g,0,none⟩) (n-1) c 30 3 (na NR.cells (l.eraseIdx a))::Hr) w':=by
 have hc:=hh.pe (i:=0) rfl;refine da (N:=33) (l:=[.slice (some ⟨g,0,none⟩) n c,.int .i64 a,.int .i64 ((a:Int)+1)]) func271 rfl rfl (by simp) ?_;have hsl0:=λ(w1:World) (H1:Hp w0 (.row (some ⟨g,0,none⟩) n c 30 3 (na NR.cells l)::Hr) w1)=>H1.ra (i:=0) rfl;have her:na NR.cells (l.take a)++na NR.cells (l.drop (a+1))=na NR.cells (l.eraseIdx a):=(by rw[List.eraseIdx_eq_take_drop_succ,Ma]);refine fa ?_;refine MZ ?_;refine fa ?_;refine aas ?_;refine Ee ?_;refine jd ?_;refine PZ ?_;refine Ee ?_;refine jd ?_;refine aan ?_;refine xa ?_;intro f W hJ hV;have hb_5:=hJ.bl;obtain⟨v25,v24,v23,v22,v21,v20,_⟩:=hV;replace hh:=hJ.hp;refine pL ?_;dsimp only[Cb];clear hJ;have hbk:=(hsl0 _ hh).back (l:=a+1) (c:=c) Z' hc;obtain⟨ad,had⟩:∃ad,(if c=a+1 then some (⟨g,0,none⟩:Addr) else(some (⟨g,0,none⟩:Addr)).map (·.add ((a+1)*3)))=some ad:=(by split<;>exact⟨_,rfl⟩);rw[had] at hbk |-;rw[ng NR.len] at hbk;have hlr:=ue NR.len (l.drop (a+1));rw[K9] at hlr;have hrd:∀j u,(na NR.cells (l.drop (a+1)))[j]?=some u->W.cell? (ad.add j)=some u:=λj u hu=>(by have hj:=(X_.1 hu).1;exact qZ);refine np hh (i:=0) (a:=ad) (p:=a) (m:=n-(a+1)) rfl rfl rfl Z' Z' hbk.1 hrd (Ta NR.one _) mb.out ya.out U' ?_;intro w26 hh;simp only[U_] at hh;rw[Oh NR.len,her,show a+(n-(a+1))=n-1 by omega] at hh;rw[show a+(n-(a+1))=n-1 by omega];have hp31:(if c=n-1 then some (⟨g,0,none⟩:Addr) else(some (⟨g,0,none⟩:Addr)).map (·.add ((n-1)*3)))=some ⟨g,(n-1)*3,none⟩:=(by rw[L' Z'];show some ((⟨g,0,none⟩:Addr).add ((n-1)*3))=_;rw[ve,C_]);refine fa ?_;refine Ia rfl rfl U' (Ff (l:=n-1) (h:=n) mb.out ya.size rfl ⟨_,_,rfl,rfl⟩ ⟨_,_,rfl,rfl⟩ Z' Z') ?_;rw[hp31,show n-(n-1)=1 by omega];refine qm hh (i:=0) (o:=(n-1)*3) (m:=1) rfl rfl Z' Z' U' mb.out ya.out rfl rfl ?_;intro w32 hh;refine fa ?_;exact⟨rfl,hh⟩
def Bl(row col:Nat)(L:List (List NR)):List (List NR):=(L.eraseIdx row).map λl=>l.eraseIdx col
def yP{row col:Nat}{L:List (List NR)}{l:List NR}:Bl row col (L++[l])=if L.length=row then Bl row col L else Bl row col L++[l.eraseIdx col]:=by
 unfold Bl;by_cases h:L.length=row
 .rw[J' h,<-h,List.eraseIdx_append_of_length_le (j' _),d_,List.eraseIdx_of_length_le (j' _)];simp
 rw[L' h];by_cases h2:row<L.length
 .rw[List.eraseIdx_append_of_lt_length h2];simp
 rw[List.eraseIdx_of_length_le (l:=L++[l]) (by simp;omega),List.eraseIdx_of_length_le (l:=L) Z'];simp
def bz(A:Option Addr)(n c:Nat)(t:List LX)(row col:Nat)(w:World)(hT:Xc w)(hS:Sl w A n 1 (na LX.cells t))(ht:∀x∈t,x.at_ w)(hn:n<=1000)(hx:∀x∈t,x.n=n)(hc:col<n):Calls prog 222 #[.slice A n c,.int .i64 row,.int .i64 col] w λr w'=>∃(B:Option Addr)(c':Nat)(ys:List LX)(R:List HE),r=.returned (.slice B ys.length c')/\ys.map LX.l=Bl row col (t.map LX.l)/\(∀y∈ys,y.n=n-1/\.row y.A y.n y.c 30 3 (na NR.cells y.l)∈R)/\Hp w (.row B ys.length c' 37 1 (na LX.cells ys)::R) w':=by
 have hh:=Hp.start w;have hln:=hS.Fa LX.len U';refine da (N:=31) (l:=[.slice A n c,.int .i64 row,.int .i64 col]) func222 rfl rfl (by simp) ?_;refine fa ?_;replace hh:=hh.Nb 37 1;refine Ra [7,8,9,12,13,14,15,16,17,18,19,20,21,22,23,24,25,26,27,28,29] 7 12 (λv7 v w'=>∃(i c7:Nat)(B:Option Addr)(ys:List LX)(R:List HE),i<=n/\v=.int .i64 i/\v7=.slice B ys.length c7/\ys.length<=i/\ys.map LX.l=Bl row col ((t.map LX.l).take i)/\(∀y∈ys,y.n=n-1/\.row y.A y.n y.c 30 3 (na NR.cells y.l)∈R)/\Hp w (.row B ys.length c7 37 1 (na LX.cells ys)::R) w') (λ_ v _=>n-(intOf v).toNat) ?_ ?_
 .exact⟨0,0,none,[],[],D' _,rfl,rfl,j' _,by simp[Bl],λy h=>absurd h O9,hh⟩
 clear hh;rintro ρ' v7 v w' ⟨i,c7,B,ys,R,hi,rfl,rfl,hyl,hym,hyR,hh⟩;by_cases hlt:i<n
 .obtain⟨x,hxi⟩:=ea (l:=t) (k:=i) Z';have hmx:=G' hxi;obtain⟨ad,rfl,hr⟩:=hS.at_ Z';have hxn:=hx x hmx;have hxl:=(ht x hmx).ln;have hst:Bl row col ((t.map LX.l).take (i+1))=if i=row then Bl row col ((t.map LX.l).take i) else Bl row col ((t.map LX.l).take i)++[x.l.eraseIdx col]:=(by rw[oa (show(t.map LX.l)[i]?=some x.l by rw[V_,hxi];rfl),yP];rw[R_,Z_,y9 Z'])
  rw[<-hym] at hst;refine fa ?_;refine ub ya.out rfl ((hr.ext hh.below).recAt LX.len hxi 0 _ rfl) U' ?_;by_cases hir:i=row
  .rw[J' hir] at hst;refine fa ?_;refine⟨⟨i+1,c7,B,ys,R,Z',rfl,rfl,Z',hst.symm,hyR,hh⟩,by show n-(i+1)<n-i;omega, ?_⟩;exact Sc
  rw[L' hir] at hst;have hxa:=ht x hmx;obtain⟨xA,m,xc,xl⟩:=x;obtain rfl:m=n:=hxn;replace hxl:xl.length=m:=hxl;have hcl:=λw1 hb=>vq xA m xc xl w1 (LX.at_.ext hxa hb) Z';refine fa ?_;refine qa (hcl _ hh.below) ja.out rfl U' ?_;rintro e_ w22 ⟨A22,c22,rfl,hown_,hb_⟩;refine⟨_,rfl, ?_⟩;replace hh:=hh.Aa (x:=.row _ _ _ _ _ _) hb_ hown_;obtain⟨g22,rfl⟩:=hh.Pb (i:=0) rfl Z';refine fa ?_;refine qa (dI g22 m c22 col xl _ hh hxl hc hn) ja.out rfl U' ?_;rintro e_ w26 ⟨rfl,hh⟩;refine⟨_,rfl, ?_⟩;refine DE ?_;intro b27 w27 hh;refine Uy ?_;intro A28 c28 w28 hh;simp only[U_,G_] at hh;replace hh:=hh.sub (s_ _ _);refine fa ?_;replace hh:=hh.perm (P_ (l₁:=[_]));simp only[C',E'] at hh;refine⟨⟨i+1,c28,A28,ys++[⟨some ⟨g22,0,none⟩,m-1,c22,xl.eraseIdx col⟩],.row (some ⟨g22,0,none⟩) (m-1) c22 30 3 (na NR.cells (xl.eraseIdx col))::R,Z',rfl,by rw[Y_];rfl,by rw[Y_];show ys.length+1<=i+1;omega,by rw[hst,q_];rfl,λy hy=> ?_, ?_⟩,by show m-(i+1)<m-i;omega, ?_⟩
  .exact aeT
  .rw[Y_,Ma];exact hh
  exact Sc
 obtain rfl:n=i:=Z';rw[W_ (by rw[Z_];omega)] at hym;refine fa ?_;exact⟨B,c7,ys,R,rfl,hym,hyR,hh⟩
def Zo(L:List (List NR)):Int:=L.foldl Zu 0
def Yy(L:List (List NR)):List (List Int):=L.map λl=>l.map λa=>Vy (nR a.ma).i ((nR a.ma).e-Zo L)
def Km(L:List (List NR)):Dyadic:=Dyadic.ofIntWithPrec (Fx (Yy L)) (-(Zo L*L.length))
def MI(t:List LX):Uo 0 t=Zo (t.map LX.l):=by
 unfold Uo Zo;rw[List.foldl_map]
def RH(rows:List WX)(X:List HE):si ((rows.map WX.row).reverse++X) rows ((List.range rows.length).map λi=>rows.length-1-i):=by
 have hP:∀i p:Nat,((List.range rows.length).map λi=>rows.length-1-i)[i]?=some p->i<rows.length/\p=rows.length-1-i:=λi p h=>by
  rw[V_] at h;by_cases hi:i<rows.length
  .rw[x9 hi] at h;exact⟨hi,(L_ h).symm⟩
  rw[r_ (by rw[q9];omega)] at h
  cases h
 refine⟨by simp,λi j p h1 h2=> ?_,λi x p hx h=> ?_⟩
 .have:=hP i p h1;have:=hP j p h2;omega
 obtain⟨h1,rfl⟩:=hP i p h;rw[X8 (by simp;omega),Z7 (by simp;omega),Z_,show rows.length-1-(rows.length-1-i)=i by omega,V_,hx];rfl
def lV(i m:Int):Sa (Vy i m).natAbs<=Sa i.natAbs+m.toNat:=by
 unfold Vy;refine Fc ?_;have h1:=Ub i.natAbs;split
 .rw[W8,D_];have:((2:Int)^m.toNat).natAbs=2^m.toNat:=by rw[j8];rfl
  rw[this];exact x8 h1 (Nat.two_pow_pos _)
 exact S9 (q7 _ _) (V9 h1 (m_ U' (Nat.le_add_right _ _)))
def eM{L:List (List NR)}(hl:L.length=n)(hr:∀l∈L,l.length=n)(hz:∀l∈L,∀a∈l,Sz K a.ma)(hlow: -(K:Int)<=Zo L):Mv n (4*K+7) (Yy L):=by
 refine⟨by unfold Yy;rw[Z_];exact hl,λr hr2=> ?_,λr hr2 x hx=> ?_⟩
 .obtain⟨l,hl2,rfl⟩:=i'.1 hr2;rw[Z_];exact hr l hl2
 obtain⟨l,hl2,rfl⟩:=i'.1 hr2;obtain⟨a,ha,rfl⟩:=i'.1 hx;obtain⟨h1,h2,h3⟩:=(hz l hl2 a ha).nr;have h4:=lV (nR a.ma).i ((nR a.ma).e-Zo L);have h5:=nh (nR a.ma).neg (nR a.ma).Qa;rw[show iv (nR a.ma).neg (nR a.ma).Qa=(nR a.ma).i from rfl] at h5;omega
def bM{n K:Nat}:∀(f k:Nat)(M:List (List Int))(last:Int)(t:Bool),f+k=n->Mv n (2^k*(K+1)-1) M->Sa last.natAbs<=2^k*(K+1)->Sa (jv f k M last t).natAbs<=2^n*(K+1)
 |0,k,M,last,t,hn,_,hl=>by
  obtain rfl:k=n:=Z';rw[jv];split
  .rw[Int.natAbs_neg];exact hl
  exact hl
 |f+1,k,M,last,t,hn,sq,hl=>by
  rw[jv]
  cases h:Zy M k with
  |none=>exact D' _
  |some i=>
   have h1:=K6 h;have h2:=h_.1 (List.mem_of_find?_eq_some h);rw[sq.ln] at h2;have sq2:=sq.swp (k:=k) (i:=i) Z' h2;have hpw:2^(k+1)*(K+1)=2^k*(K+1)*2:=by rw[i_,Nat.mul_right_comm]
   have hp0:0<2^k*(K+1):=H7 (Nat.two_pow_pos k) (Nat.succ_pos K);obtain⟨_,_,_,_,z⟩:=sq2.at_ (i:=k) (j:=k) Z' Z';exact bM f (k+1) _ _ _ Z' ((sq2.Ch Z').mono Z') Z'
def nN(sq:Mv n K M):Sa (Fx M).natAbs<=2^n*(K+1):=by
 unfold Fx;rw[sq.ln];exact bM n 0 M 1 false rfl (sq.mono Z') (M_ (show Sa (Int.natAbs 1)<=1 by decide+kernel) Z')
def Wz(A:Option Addr)(n c K:Nat)(t:List LX)(w:World)(hT:Xc w)(hS:Sl w A n 1 (na LX.cells t))(ht:TE K t w)(hn:n<=4)(hx:∀x∈t,x.n=n)(hK:K<=10000):Calls prog 143 #[.slice A n c] w λr w'=>r=.returned (.tuple #[.agg #[.bool (nR (Km (t.map LX.l))).neg,.string (nR (Km (t.map LX.l))).Qa,.int .i64 (nR (Km (t.map LX.l))).e],.int .i64 0])/\Below w.heap.size w w':=by
 have hh:=Hp.start w;have hln:=hS.Fa LX.len U';have hck:=λw1 hS1=>Dq A n c t w1 hS1 Z';rw[show PO t=0 by
  unfold PO;rw[L'];rintro (h|h)
  .omega
  obtain⟨x,hx1,hx2⟩:=k9.1 h;exact D9 hx2 (by rw[hx x hx1,hln])] at hck
 have hlow:=Iv (K:=K) t 0 (λx hx a ha=>(ht.num x hx a ha).2) Z';rw[MI] at hlow;have hsq:Mv n (4*K+7) (Yy (t.map LX.l)):=by
  refine eM (by rw[Z_];exact hln) (λl hl=> ?_) (λl hl a ha=> ?_) hlow.1
  .obtain⟨x,h1,rfl⟩:=i'.1 hl;rw[<-hx x h1];exact(ht.at_ x h1).ln
  obtain⟨x,h1,rfl⟩:=i'.1 hl;exact(ht.num x h1 a ha).2
 refine da (N:=26) (l:=[.slice A n c]) func143 rfl rfl (by simp) ?_;refine Lb ?_;intro b2 w2 hh;refine Oa hh (hck _ (hS.ext hh.below)) rfl ?_;intro w8 hh;refine fa ?_;refine qa (qC A n c K t _ (hT.hp hh) (hS.ext hh.below) (ht.ext hh.below) Z' Z') ja.out rfl U' ?_;rintro e_ w15 ⟨B,c',rows,rfl,hrw,h3⟩;refine⟨_,rfl, ?_⟩;replace hh:=hh.join h3;clear h3;simp only[C'] at hh;rw[MI] at hrw |-;have hrl:rows.length=n:=(by have:=J_ List.length hrw;rw[Z_,Z_] at this;omega);have hM:rows.map WX.l=(Yy (t.map LX.l)).map (List.map iR):=(by have:=J_ (List.map Prod.snd) hrw;rw[Y9,Y9] at this;unfold Yy;rw[Y9,Y9];refine this.trans (m8 λx hx=> ?_);show x.l.map _=(x.l.map _).map _;rw[Y9];rfl);have hrn:∀x∈rows,x.n=n:=λx hx1=>(by have h1:(x.n,x.l)∈rows.map λx=>(x.n,x.l):=i'.2 ⟨x,hx1,rfl⟩;rw[hrw] at h1;obtain⟨y,hy,e⟩:=i'.1 h1;exact(J_ Prod.fst e).symm.trans (hx y hy));have hbar:=λw1 hT1 hh1=>pz (w0:=w) (RR:=(rows.map WX.row).reverse++[.blk b2 30 [.bool false,.string (ByteArray.mk #[]),.int .i64 0] (0,0)]) B n c' rows _ _ (4*K+7) w1 hT1 hh1 hM hrn (RH rows _) hsq hn Z';have hmk:=λw1 hT1=>yf (iN (Fx (Yy (t.map LX.l)))) (iM (Fx (Yy (t.map LX.l)))) (Zo (t.map LX.l)*(n:Int)) w1 hT1;rw[zd] at hmk;refine fa ?_;refine qa (hbar _ (hT.hp hh) hh) ja.out rfl U' ?_;rintro e_ w19 ⟨rfl,rows',RR',hh,hfr⟩;refine⟨_,rfl, ?_⟩;have hb2:HE.blk b2 30 [.bool false,.string (ByteArray.mk #[]),.int .i64 0] (0,0)∈RR':=(by refine G' (i:=rows.length) ?_;rw[hfr rows.length λh=>by obtain⟨i,hi,e⟩:=i'.1 h;have:=h_.1 hi;omega,H9 (by simp)];simp);replace hh:=hh.sub (List.singleton_sublist.2 (F' _ hb2));have hbz:=nN hsq;have h16:2^n*(4*K+7+1)<=16*(4*K+7+1):=M9 _ (m_ (n:=2) U' hn);have hl1: -(40000:Int)<=Zo (t.map LX.l)*(n:Int):=(by refine Int.le_trans ?_ (Int.mul_le_mul_of_nonneg_right (show -(10000:Int)<=_ by omega) (m7 n));omega);have hl2:Zo (t.map LX.l)*(n:Int)<=0:=Int.mul_nonpos_of_nonpos_of_nonneg Z' (m7 n);replace hmk:=λw1 hT1=>hmk w1 hT1 (by rw[Nc];omega) Z' Z';rw[show Dyadic.ofIntWithPrec (Fx (Yy (t.map LX.l))) (-(Zo (t.map LX.l)*(n:Int)))=Km (t.map LX.l) by unfold Km;rw[Z_,hln]] at hmk;generalize Km (t.map LX.l)=D at*;generalize Zo (t.map LX.l)=lo at*;refine fa ?_;rw[Y6];refine fa ?_;refine Oa hh (hmk _ (hT.hp hh)) rfl ?_;intro w25 hh;exact o0
def aca{L:List (List NR)}(hz:∀l∈L,∀a∈l,Sz K a.ma): -(K:Int)<=Zo L/\Zo L<=0:=by
 have:=Iv (K:=K) (L.map λl=>⟨none,0,0,l⟩) 0 (λx hx a ha=>by
  obtain⟨l,hl,rfl⟩:=i'.1 hx;exact hz l hl a ha) Z'
 rw[MI,Y9] at this;rwa[show L.map (LX.l ∘ λl=>⟨none,0,0,l⟩)=L from List.map_id L] at this
def abX{L:List (List NR)}(hl:L.length=n)(hn:n<=2)(hr:∀l∈L,l.length=n)(hz:∀l∈L,∀a∈l,Sz K a.ma):Sz (16*K+32) (Km L):=by
 obtain⟨h1,h2⟩:=aca hz;have hb:=nN (eM hl hr hz h1);have h16:2^n*(4*K+7+1)<=4*(4*K+7+1):=M9 _ (m_ (n:=2) U' hn);have hl1: -(2*(K:Int))<=Zo L*(n:Int):=(by refine Int.le_trans ?_ (Int.mul_le_mul_of_nonneg_right h1 (m7 n));rw[Int.neg_mul,H6 (K:Int)];exact Int.neg_le_neg (Int.mul_le_mul_of_nonneg_right Z' (m7 K)));have hl2:Zo L*(n:Int)<=0:=Int.mul_nonpos_of_nonpos_of_nonneg h2 (m7 n);unfold Km;rw[hl];generalize Zo L*(n:Int)=e at*;generalize Fx (Yy L)=z at*;refine⟨z*2^(16*(K:Int)+32+e).toNat,Lg _ Z', ?_⟩;rw[W8,show((2:Int)^(16*(K:Int)+32+e).toNat).natAbs=2^(16*(K:Int)+32+e).toNat by rw[j8];rfl];have h3:=Ub z.natAbs;refine V9 (x8 h3 (Nat.two_pow_pos _)) ?_;rw[<-D_];exact m_ U' Z'
def YN(L:List (List NR))(i k:Nat):Dyadic:=if((i:Int)+k) % 2=1 then -Km (Bl k i L) else Km (Bl k i L)
def mO(L:List (List NR))(n i:Nat):List NR:=(List.range n).map λk=>nR (YN L i k)
def Ux(L:List (List NR))(n:Nat):List (List NR):=(List.range n).map λi=>mO L n i
def mq(f:Nat->α)(k:Nat):(List.range (k+1)).map f=(List.range k).map f++[f k]:=by
 rw[O8,q_];rfl
def BL{L:List (List NR)}{row col:Nat}(hl:L.length=n)(hr:∀l∈L,l.length=n)(h1:row<n)(h2:col<n):(Bl row col L).length=n-1/\∀l∈Bl row col L,l.length=n-1/\∃q∈L,∀a∈l,a∈q:=by
 unfold Bl;refine⟨by rw[Z_,List.length_eraseIdx,J' Z',hl],λl h=> ?_⟩;obtain⟨q,hq,rfl⟩:=i'.1 h;have hq2:=List.mem_of_mem_eraseIdx hq;exact⟨by rw[List.length_eraseIdx,hr q hq2,J' h2],q,hq2,λa ha=>List.mem_of_mem_eraseIdx ha⟩
def VJ{L:List (List NR)}{i:Nat}(hl:L.length=n)(hn:n<=3)(hr:∀l∈L,l.length=n)(hz:∀l∈L,∀a∈l,Sz K a.ma)(hi:i<n)(hk:k<n):Sz (16*K+32) (Km (Bl k i L))/\Sz (16*K+32) (YN L i k):=by
 obtain⟨h1,h2⟩:=BL hl hr hk hi;have:=abX (K:=K) h1 Z' (λl hl=>(h2 l hl).1) λl hl a ha=>(by obtain⟨_,q,hq,h⟩:=h2 l hl;exact hz q hq a (h a ha));refine⟨this, ?_⟩;unfold YN;split
 .exact this.neg
 exact this
def SN(A:Option Addr)(n c K:Nat)(t:List LX)(w:World)(hT:Xc w)(hS:Sl w A n 1 (na LX.cells t))(ht:TE K t w)(hn:n<=3)(hx:∀x∈t,x.n=n)(hK:K<=10000):Calls prog 144 #[.slice A n c] w λr w'=>∃(B:Option Addr)(c':Nat)(ys:List LX)(R:List HE),r=.returned (.tuple #[.slice B n c',.int .i64 0])/\ys.map LX.l=Ux (t.map LX.l) n/\(∀y∈ys,y.n=n/\.row y.A y.n y.c 30 3 (na NR.cells y.l)∈R)/\Hp w (.row B n c' 37 1 (na LX.cells ys)::R) w':=by
 have hh:=Hp.start w;have hln:=hS.Fa LX.len U';have hck:=λw1 hS1=>Dq A n c t w1 hS1 Z';rw[show PO t=0 by
  unfold PO;rw[L'];rintro (h|h)
  .omega
  obtain⟨x,hx1,hx2⟩:=k9.1 h;exact D9 hx2 (by rw[hx x hx1,hln])] at hck
 obtain⟨L,hL⟩:∃L,L=t.map LX.l:=⟨_,rfl⟩;have hLn:L.length=n:=by rw[hL,Z_];exact hln
 have hLr:∀l∈L,l.length=n:=λl hl=>(by rw[hL] at hl;obtain⟨x,h1,rfl⟩:=i'.1 hl;rw[<-hx x h1];exact(ht.at_ x h1).ln);have hLz:∀l∈L,∀a∈l,a.ok/\Sz K a.ma:=λl hl a ha=>(by rw[hL] at hl;obtain⟨x,h1,rfl⟩:=i'.1 hl;exact ht.num x h1 a ha);rw[<-hL];refine da (N:=52) (l:=[.slice A n c]) func144 rfl rfl (by simp) ?_;refine fa ?_;refine Oa hh (hck _ (hS.ext hh.below)) rfl ?_;intro w12 hh;refine fa ?_;replace hh:=hh.Nb 37 1;refine Ra [5,6,7,8,9,10,18,19,20,21,22,23,24,25,26,27,28,29,30,31,32,33,34,35,36,37,38,39,40,41,42,43,44,45,46,47,48,49,50] 5 18 (λv5 v w'=>∃(i c5:Nat)(B:Option Addr)(ys:List LX)(R:List HE),i<=n/\v=.int .i64 i/\v5=.slice B i c5/\ys.map LX.l=(List.range i).map (mO L n)/\(∀y∈ys,y.n=n/\.row y.A y.n y.c 30 3 (na NR.cells y.l)∈R)/\Hp w (.row B i c5 37 1 (na LX.cells ys)::R) w') (λ_ v _=>n-(intOf v).toNat) ?_ ?_
 .exact abA
 clear hh;rintro ρ' v5 v w' ⟨i,c5,B,ys,R,hi,rfl,rfl,hym,hyR,hh⟩;by_cases hlt:i<n
 .refine fa ?_;replace hh:=hh.Nb 30 3;refine Ra [7,8,9,10,23,24,25,26,27,28,29,30,31,32,33,34,35,36,37,38,39,40,41,42,43,44,45] 7 23 (λv7 v w'=>∃(k c7:Nat)(E:Option Addr),k<=n/\v=.int .i64 k/\v7=.slice E k c7/\Hp w (.row E k c7 30 3 (na NR.cells ((List.range k).map λk=>nR (YN L i k)))::.row B i c5 37 1 (na LX.cells ys)::R) w') (λ_ v _=>n-(intOf v).toNat) ?_ ?_
  .exact⟨0,0,none,D' _,rfl,rfl,hh⟩
  clear hh;rintro ρ2 v7 v w2 ⟨k,c7,E,hk,rfl,rfl,hh⟩;by_cases hkn:k<n
  .obtain⟨m1,m2⟩:=BL hLn hLr hkn hlt;obtain⟨z1,z2⟩:=VJ hLn Z' hLr (λl hl a ha=>(hLz l hl a ha).2) hlt hkn;have hst:=mq (λk=>nR (YN L i k)) k;have hng:=λw1 hT1=>zi (nR (Km (Bl k i L))) w1 hT1 (by have:=z1.nr;omega) (by have:=z1.nr;omega) (by have:=z1.nr;omega);rw[db] at hng;have hco:YN L i k=if((i:Int)+k) % 2=1 then -Km (Bl k i L) else Km (Bl k i L):=rfl
   refine fa ?_;refine qa (bz A n c t k i _ (hT.hp hh) (hS.ext hh.below) (λx hx1=>(ht.at_ x hx1).ext hh.below) Z' hx hlt) ja.out rfl U' ?_;rintro e_ w30 ⟨D,c30,zs,R2,rfl,hzm,hzR,h3⟩;refine⟨_,rfl, ?_⟩;rw[<-hL] at hzm;replace hh:=hh.ext h3.below;have hzl:zs.length=n-1:=by rw[<-m1,<-hzm,Z_]
   have hdt:=λw1 hT1 hS1 hk1=>Wz D zs.length c30 K zs w1 hT1 hS1 hk1 Z' (λx hx1=>by rw[(hzR x hx1).1,hzl]) hK;rw[hzm] at hdt;have htk:TE K zs w30:=⟨λx hx1=>lf (h3.own _ (F' _ (hzR x hx1).2)),λx hx1=>by rw[(hzR x hx1).1];omega,λx hx1 a ha=>by
    obtain⟨_,q,hq,h⟩:=m2 x.l (by rw[<-hzm];exact k6 hx1);exact hLz q hq a (h a ha)⟩
   have hzs:=h3.ra (i:=0) rfl;generalize Km (Bl k i L)=dt at*;refine Oa hh (hdt _ (hT.hp hh) hzs htk) rfl ?_;intro w31 hh;by_cases hodd:((i:Int)+k) % 2=1
   .rw[J' hodd] at hco;refine Tb ?_;intro b9 w9 hh ws hh;refine OR rfl rfl U' ?_;refine fa ?_;refine Oa hh (hng _ (hT.hp hh)) rfl ?_;intro w40 hh;refine Lb ?_;intro ws hh;exact aa3
   rw[L' hodd] at hco;refine Tb ?_;intro b9 w9 hh ws hh;refine OR rfl rfl U' ?_;refine fa ?_;exact aa3
  obtain rfl:n=k:=Z';refine fa ?_;refine DE ?_;intro b48 w48 hh;refine Uy ?_;intro A49 c49 w49 hh;simp only[U_,G_] at hh;replace hh:=hh.sub (s_ _ _);refine fa ?_;replace hh:=hh.perm (P_ (l₁:=[_]));simp only[C',E'] at hh;refine⟨⟨i+1,c49,A49,ys++[⟨E,n,c7,mO L n i⟩],.row E n c7 30 3 (na NR.cells (mO L n i))::R,Z',rfl,rfl,by rw[q_,hym,mq];rfl,λy hy=> ?_,by rw[Ma];exact hh⟩,by show n-(i+1)<n-i;omega, ?_⟩
  .exact aeT
  exact Sc
 obtain rfl:n=i:=Z';refine fa ?_;exact⟨B,c5,ys,R,rfl,hym,hyR,hh⟩
variable {o:Nat}
structure IU(E:Value->HE)(g o:Nat):Prop where
 ld:∀{w0 w:World}{Hr:List HE}{v:Value},Hp w0 (E v::Hr) w->w.cell? ⟨g,o,none⟩=some v
 st:∀{ro:Mode}{P:Program}{N:Nat}{ops:Array Oper}{Q:Kq}{ρ:Rf}{w w0:World}{rest:List Oper}{Hr:List HE}{ty:TypeId}{pos:String}{af:Array Edge}{t:TypeId}{x y:Operand}{by':Nat}{ag:Bool}{zc:List Value}{v v':Value},
  Hp w0 (E v::Hr) w->ev ρ x=.pointer (some ⟨g,o,none⟩)->ev ρ y=v'->v'.cells= #[v']->Dd P t=some (1,ag,by',zc)->v'.oneCell'=true->
  (∀w',Hp w0 (E v'::Hr) w'->WL ro P N ops Q rest ρ w')->WL ro P N ops Q (⟨none,.store t x y,ty,pos,af,none⟩::rest) ρ w
variable {m:Nat}
def cd{g c i:Nat}{t:TypeId}{xs:List Value}(hi:i<xs.length):IU (λv=>.row (some ⟨g,0,none⟩) m c t 1 (xs.set i v)) g (i*1):=by
 refine⟨λ{w0 w Hr v} hh=> ?_,λ{ro P N ops Q ρ w w0 rest Hr ty pos af t' x y by' ag zc v v'} hh hx hy hc ht h1 k=> ?_⟩
 .exact hh.cd (i:=0) (o:=i*1) rfl (by rw[H_];exact List.getElem?_set_self hi)
 refine Ab hh (i:=0) (vs:=[v']) hx rfl hy hc ht rfl (by rw[T9];omega) (by simp[h1]) λw' hh'=>k w' ?_;have e:Ib (xs.set i v) (i*1) [v']=xs.set i v':=(by rw[H_,sc (by rw[T9];exact hi),List.set_set]);rw[e] at hh';exact hh'
def nS(w:World)(a:Addr):Nat:=match w.cell? a with|some v=>lenOf v|none=>0
def HA(x:Dyadic)(m:Nat):List NR:=(List.range m).map λi=>nR (x^i)
def JT{x:Dyadic}{i:Nat}(h:i<m):(HA x m)[i]?=some (nR (x^i)):=by
 unfold HA;rw[V_,x9 h];rfl
def CG(x:Dyadic)(m:Nat):HA x (m+1)=HA x m++[nR (x^m)]:=by unfold HA;rw[O8,q_];rfl
def eI{E:Value->HE}{g:Nat}(hE:IU E g o)(x:NR)(n m:Nat)(A:Option Addr)(c k:Nat)(w:World)(hT:Xc w0)(hh:Hp w0 (E (.slice A m c)::.row A m c 30 3 (na NR.cells (HA x.ma m))::Hr) w)(hn:n<=127)(hm:m<=1000)(hx:x.ok/\Sz k x.ma)(hk:k<=1000):Calls prog 84 #[.pointer (some ⟨g,o,none⟩),.agg #[.bool x.neg,.string x.Qa,.int .i64 x.e],.int .i64 n] w λr w'=>r=.returned (.agg #[.bool (nR (x.ma^n)).neg,.string (nR (x.ma^n)).Qa,.int .i64 (nR (x.ma^n)).e])/\∃(A':Option Addr)(m' c':Nat),m'<=1000/\Hp w0 (E (.slice A' m' c')::.row A' m' c' 30 3 (na NR.cells (HA x.ma m'))::Hr) w':=by
 refine da (N:=61) (l:=[.pointer (some ⟨g,o,none⟩),.agg #[.bool x.neg,.string x.Qa,.int .i64 x.e],.int .i64 n]) func84 rfl rfl (by simp) ?_;refine Tb ?_;intro b4 w4 hh b6 w6 hh;refine ub ya.out rfl (hE.ld (hh.sub (.cons _ (.cons _ (A_ _))))) U' ?_;have hpow:∀q,q<=127->Sz 128000 (x.ma^q):=λq hq=>(by have h1:=hx.2.pow q;exact h1.mono (by have:=n9 hk hq;omega));by_cases h0:m=0
 .subst h0;refine fa ?_;refine Cd [] [0] [0,0,2,6,14,0,32,126,255,511,1023] 7 [[(0,none)],[(0,none)],[(14,some 1)],[(15,some 2)],[(16,some 3)],[],[(18,some 5)]] [(6,19),(5,18),(4,17),(3,16),(2,15),(1,14),(0,13)] hh mixed T' Od rfl (by repeat (first|exact Eb|refine Ya ?_|refine Db ?_)) ?_;refine dmP ?_;refine dmP ?_;refine dnc ?_;refine ru ?_;refine QK ?_;refine dC (λ_ hj=>ml 1 _ (hT.hp hj.hp) U' U') ?_;refine uq [_,_,_] ?_;refine xa ?_;intro f W hJ hV _;have hb_2:=hJ.bl;obtain⟨v19,v18,v17,v16,v15,v14,v13,_⟩:=hV;obtain⟨A19,c19,e19,f19⟩:Rows _ _ _ (f 6) W:=v19;replace hh:=hJ.hp;refine Ea (Na (aa e19 (aa v18 (aa v17 (aa v16 (aa v15 (aa v14 (aa v13 Da)))))))) ?_;dsimp only[Cb];clear e19 hJ;refine Hb hh (i:=3) rfl rfl rfl (f19) mb.out ya.out rfl U' (by first|rfl|exact ic _|exact Ob _|exact Pa _|exact Ta NR.one _) Z' Z' U' ?_;intro A20 c20 w20 hh;simp only[U_,G_] at hh;refine fa ?_;replace hh:=hh.perm (P_ (l₁:=[_,_]));simp only[C',E'] at hh;refine hE.st (v':=.slice A20 (0+1) c20) hh rfl rfl rfl ya.out rfl ?_;intro ws hh
  replace hh:=hh.perm (P_ (l₁:=[_,_]));simp only[C',E'] at hh;replace hh:=hh.perm (P_ (l₁:=[_,_]));simp only[C',E'] at hh;refine fa ?_;have e0:na NR.cells (HA x.ma 0)++[.bool (nR ((1:Int):Dyadic)).neg,.string (nR ((1:Int):Dyadic)).Qa,.int .i64 (nR ((1:Int):Dyadic)).e]=na NR.cells (HA x.ma (0+1)):=by rw[CG,Ma,Dj,x7];rfl
  rw[e0] at hh;refine Yx zL5 (λw'=>∃(m:Nat)(A:Option Addr)(c:Nat),0<m/\m<=1000/\Hp w0 (.blk b6 30 [.bool false,.string (ByteArray.mk #[]),.int .i64 0] (0,0)::.blk b4 30 [.bool x.neg,.string x.Qa,.int .i64 x.e] (0,0)::E (.slice A m c)::.row A m c 30 3 (na NR.cells (HA x.ma m))::Hr) w') (λw'=>n+1-nS w' ⟨g,o,none⟩) ?_ ?_
  .exact⟨0+1,_,_,U',U',hh⟩
  exact W0
 refine fa ?_;refine Yx zL5 (λw'=>∃(m:Nat)(A:Option Addr)(c:Nat),0<m/\m<=1000/\Hp w0 (.blk b6 30 [.bool false,.string (ByteArray.mk #[]),.int .i64 0] (0,0)::.blk b4 30 [.bool x.neg,.string x.Qa,.int .i64 x.e] (0,0)::E (.slice A m c)::.row A m c 30 3 (na NR.cells (HA x.ma m))::Hr) w') (λw'=>n+1-nS w' ⟨g,o,none⟩) ?_ ?_
 .exact⟨m,A,c,Z',hm,hh⟩
 exact W0
variable {fuel:Nat}{ops:Array Oper}
def QR{L:Array Bool}(hne:Region.ready .any ops L≠[]) (h:∀i∈Region.ready .any ops L,∃o d,ops[i]?=some o/\o.dst=some d/\d<N/\OG P ops o ρ w λv w'=>WA P N ops Q fuel (L.setIfInBounds i true) (wc ρ d v) w'):WA P N ops Q (fuel+1) L ρ w:=by
 refine⟨λa hf=>wpAny_all rfl hne λi hi=> ?_⟩;obtain⟨o,d,ho,hd,hN,hg⟩:=h i hi;unfold wpOp;rw[ho];simp only[];exact hg.out a (λa w=>wpAny P .any ops (lift N Q) fuel (L.setIfInBounds i true) a w) (lift N Q) hf.at_ λv w' hk=>(by rw[hd];exact hk.out _ (hf.put hN v))
def waits(o:Oper)(j:Nat):Bool:=o.after.toList.any λe=>(e.on==j) && Region.binds .any e
abbrev Lv:=Nat->Value->List HE->Prop
def Spec(P:Program)(l:List Oper)(w0:World)(ρ:Rf)(dst:Nat->Nat)(m:Nat)(S:Lv)(pre:Nat->List HE)(rest:List HE)(i:Nat):Prop:=
 ∃o,l[i]?=some o/\∀(ρ1:Rf)(w1:World)(F:List HE)(R:Nat->List HE),(∀s,(∀j,j<m->dst j≠s)->ρ1 s=ρ s)->(∀j,waits o j=true->S j (ρ1 (dst j)) (R j)/\∀x∈R j,x∈F)->(∀x∈rest,x∈F)->Hp w0 (pre i++F) w1->
  OG P l.toArray o ρ1 w1 λv w2=>∃R',S i v R'/\Hp w0 (R'++F) w2
def All:Nat->(Nat->Prop)->Prop
 |0,_=>True
 |k+1,p=>All k p/\p k
def vQ:∀{k:Nat}{p:Nat->Prop},(∀i,i<k->p i)->All k p
 |0,_,_=>trivial
 |k+1,_,h=>⟨vQ λi hi=>h i Z',h k Z'⟩
def Lp(n j:Nat):(Array.replicate n false).getD j false=false:=by
 rw[B9,H5];split<;>rfl
def All.get:∀{k:Nat}{p:Nat->Prop},All k p->∀i,i<k->p i
 |k+1,p,h,i,hi=>by
  by_cases e:i=k
  .rw[e];exact h.2
  exact All.get h.1 i Z'
def aal(l:List Oper)(m N:Nat)(dst:Nat->Nat):Bool:=
 decide (m<=l.length) && ((List.range m).all λi=>match l[i]? with|some o=>(o.dst==some (dst i)) && decide (dst i<N) && (o.after.toList.all λe=> !Region.binds .any e||decide (e.on<i))|none=>false) &&
 decide ((List.range m).map dst).Nodup &&
 ((List.range (l.length-m)).all λk=>match l[m+k]? with|some o=>(List.range m).all λj=>waits o j|none=>false) &&
 ((List.range (l.length-m)).all λk=>Region.ready .any l.toArray (Qh l.length (m+k))==[m+k]) && (Region.ready .any l.toArray (Qh l.length l.length)==[])
def CA{l:List Oper}{L:Array Bool}{i:Nat}:i∈Region.ready .any l.toArray L↔i<l.length/\L.getD i true=false/\∃o,l[i]?=some o/\∀e∈o.after,Region.binds .any e=true->L.getD e.on false=true:=by
 unfold Region.ready;rw[Z8,h_,show l.toArray.size=l.length by simp];constructor
 .rintro ⟨h1,h2⟩;have ho:l.toArray[i]?=some l[i]:=by simp[h1]
  rw[ho] at h2;simp only[K8,m9,Q_,z7] at h2;refine⟨h1,h2.1,l[i],by simp,λe he hb=> ?_⟩;have:=F6.1 h2.2 e he;simpa[hb] using this
 rintro ⟨h1,h2,o,ho,h3⟩;refine⟨h1, ?_⟩;rw[show l.toArray[i]?=some o by simpa using ho];exact aaE
def iC{L:Array Bool}(h:¬∀i,i<m->L.getD i false=true):∃i,i<m/\L.getD i false=false/\∀j,j<i->L.getD j false=true:=by
 induction m with
 |zero=>exact absurd (λi hi=>by omega) h
 |succ m ih=>
  by_cases h1:∀i,i<m->L.getD i false=true
  .refine⟨m,Z', ?_,h1⟩
   cases hc:L.getD m false with
   |false=>rfl
   |true=>
    refine absurd (λi hi=> ?_) h;by_cases e:i=m
    .rw[e];exact hc
    exact h1 i Z'
  obtain⟨i,h2,h3⟩:=ih h1;exact⟨i,Z',h3⟩
def Iy{R:Nat->List HE}{i:Nat}(h:i<m)(rest:List HE):((List.range m).flatMap R++rest).Perm (R i++(((List.range m).filter (· !=i)).flatMap R++rest)):=by
 have h1:∀m,i<m->((List.range m).flatMap R).Perm (R i++((List.range m).filter (· !=i)).flatMap R):=λm=>by
  induction m with
  |zero=>intro h;omega
  |succ m ih=>
   intro h;rw[O8,n7,I7,n7];by_cases e:i=m
   .subst e;have h2:(List.range i).filter (· !=i)=List.range i:=List.filter_eq_self.2 λj hj=>by have:=h_.1 hj;simp;omega
    rw[h2,show[i].filter (· !=i)=[] by simp];simp only[D7,List.flatMap_nil,n_];exact R6
   rw[show[m].filter (· !=i)=[m] by simp;omega,<-l_];exact(ih Z').append_right _
 rw[<-l_];exact(h1 m h).append_right _
def NQ{ρ':Rf}{f:Nat->Value}{ds:List (Nat×Nat)}(h1:∀p∈ds,ρ' p.2=f p.1)(h2:∀s,(∀p∈ds,p.2≠s)->ρ' s=ρ s)(hn:(ds.map (·.2)).Nodup):ρ'=Gf ρ f ds:=funext λs=>by
 obtain⟨h3,h4⟩:=sk (ρ:=ρ) f ds s hn;by_cases h:∃p∈ds,p.2=s
 .obtain⟨p,hp,rfl⟩:=h;rw[h3 p.1 hp];exact h1 p hp
 rw[h4 λi hi=>h ⟨(i,s),hi,rfl⟩];exact h2 s λp hp e=>h ⟨p,hp,e⟩
def OG.imp{o:Oper}{K K':Value->World->Prop}(h:OG P ops o ρ w K)(hk:∀v w',K v w'->K' v w'):OG P ops o ρ w K':=⟨λa next Q ha hn=>h.out a next Q ha λv w' hv=>hn v w' (hk v w' hv)⟩
def jk{L:Array Bool}{i:Nat}(h:i<L.size):(L.setIfInBounds i true).getD j false=(decide (j=i)||L.getD j false):=by
 rw[B9,B9,Array.getElem?_setIfInBounds];by_cases e:i=j
 .subst e;simp[h]
 rw[L' e,O_ (λe2=>e e2.symm),f_]
def FP{L:Array Bool}{i:Nat}(h:i<L.size)(hu:L.getD i false=false):∀m,i<m->(List.range m).countP (λj=>(L.setIfInBounds i true).getD j false)=(List.range m).countP (λj=>L.getD j false)+1:=by
 have hlow:∀m,m<=i->(List.range m).countP (λj=>(L.setIfInBounds i true).getD j false)=(List.range m).countP (λj=>L.getD j false):=λm hm=>(by refine List.countP_congr λj hj=> ?_;have:=h_.1 hj;rw[jk h,O_ Z',f_]);intro m
 induction m with
 |zero=>intro h;omega
 |succ m ih=>
  intro hm;rw[O8,List.countP_append,List.countP_append];by_cases e:i=m
  .subst e;rw[hlow i (j' _),C5,C5,jk h,hu];simp
  rw[ih Z',C5,C5,jk h,O_ Z',f_];omega
def eJ{L:Array Bool}(h:∀i,i<m->L.getD i false=true):(List.range m).countP (λj=>L.getD j false)=m:=by
 rw[List.countP_eq_length.2 λj hj=>h j (h_.1 hj),q9]
def qu{α β:Type}{f g:α->List β}:∀{l:List α},(∀x∈l,f x=g x)->l.flatMap f=l.flatMap g
 |[],_=>rfl
 |x::l,h=>by rw[D7,D7,h x q',qu λy hy=>h y (F' _ hy)]
def ZJ{p:Nat->Bool}(h:(List.range m).all p=true){i:Nat}(hi:i<m):p i=true:=u_.1 h i (h_.2 hi)
def abO{l:List Oper}{dst:Nat->Nat}{S:Lv}{pre:Nat->List HE}{rest:List HE}{ds:List (Nat×Nat)}(hds:∀p∈ds,p.1<m/\p.2=dst p.1)(hds2:∀i,i<m->(i,dst i)∈ds)(hnd:(ds.map (·.2)).Nodup)(hinj:∀i j,i<m->j<m->dst i=dst j->i=j) (hml:m<=l.length)(hop:∀i,i<m->∃o,l[i]?=some o/\o.dst=some (dst i)/\dst i<N/\∀e∈o.after,Region.binds .any e=true->e.on<i) (htl:∀k,m<=k->k<l.length->∃o,l[k]?=some o/\∀j,j<m->waits o j=true) (hrd:((List.range (l.length-m)).all λk=>Region.ready .any l.toArray (Qh l.length (m+k))==[m+k])=true)(hend:Region.ready .any l.toArray (Qh l.length l.length)=[]) (hs:All m (Spec P l w0 ρ dst m S pre rest)) (hfin:∀(f:Nat->Value)(R:Nat->List HE)(w':World),(∀i,i<m->S i (f i) (R i))->Hp w0 ((List.range m).flatMap R++rest) w'->WL .plain P N l.toArray Q (l.drop m) (Gf ρ f ds) w'):
  ∀(fuel:Nat)(L:Array Bool)(ρ1:Rf)(w1:World)(R:Nat->List HE),L.size=l.length->(∀j,m<=j->L.getD j false=false)->fuel+(List.range m).countP (λj=>L.getD j false)=l.length->(∀s,(∀j,j<m->L.getD j false=true->dst j≠s)->ρ1 s=ρ s)->(∀j,j<m->L.getD j false=true->S j (ρ1 (dst j)) (R j))->(∀j,j<m->L.getD j false=false->R j=pre j)->Hp w0 ((List.range m).flatMap R++rest) w1->WA P N l.toArray Q fuel L ρ1 w1:=by
 intro fuel
 induction fuel with
 |zero=>
  intro L ρ1 w1 R hsz htail hcnt hag hS hpre hh;have hall:∀i,i<m->L.getD i false=true:=by
   have h1:(List.range m).countP (λj=>L.getD j false)<=m:=by have:=List.countP_le_length (p:=λj=>L.getD j false) (l:=List.range m);rwa[q9] at this
   have h2:(List.range m).countP (λj=>L.getD j false)=(List.range m).length:=by rw[q9];omega
   intro i hi;exact List.countP_eq_length.1 h2 i (h_.2 hi)
  exact adM
 |succ fuel ih=>
  intro L ρ1 w1 R hsz htail hcnt hag hS hpre hh;by_cases hall:∀i,i<m->L.getD i false=true
  .exact adM
  have und:∀i,i<l.length->(L.getD i true=false↔L.getD i false=false):=λi hi=>by
   have h1:i<L.size:=by rw[hsz];exact hi
   rw[B9,B9,a6 h1];simp
  refine QR (λhnil=> ?_) λi hi=> ?_
  .obtain⟨i,h1,h2,h3⟩:=iC hall;obtain⟨o,ho,_,_,he⟩:=hop i h1;have:i∈Region.ready .any l.toArray L:=CA.2 ⟨Z',(und i Z').2 h2,o,ho,λe he1 he2=>h3 _ (he e he1 he2)⟩;rw[hnil] at this
   cases this
  obtain⟨hil,hun,o,ho,hed⟩:=CA.1 hi;rw[und i hil] at hun;have hwait:∀j,waits o j=true->L.getD j false=true:=λj hj=>(by obtain⟨e,he1,he2⟩:=k9.1 hj;rw[Q_,Q8] at he2;rw[<-he2.1];exact hed e (by simpa using he1) he2.2);have him:i<m:=by
   obtain h|h:=Z9 i m
   .exact h
   obtain⟨o2,ho2,h2⟩:=htl i h hil;rw[ho] at ho2
   cases ho2
   exact absurd (λj hj=>hwait j (h2 j hj)) hall
  obtain⟨o2,ho2,hd,hN,hlt⟩:=hop i him;rw[ho] at ho2
  cases ho2
  obtain⟨o3,ho3,hsp⟩:=hs.get i him;rw[ho] at ho3
  cases ho3
  refine⟨o,dst i,by simpa using ho,hd,hN, ?_⟩;have hiL:i<L.size:=by rw[hsz];exact hil
  refine(hsp ρ1 w1 (((List.range m).filter (· !=i)).flatMap R++rest) R (λs hs2=>hag s λj hj _=>hs2 j hj) (λj hj=> ?_) (λx hx=>T8 _ hx) ?_).imp λv w' ⟨R',h1,h2⟩=> ?_
  .have hjd:=hwait j hj;have hjm:j<m:=(by obtain⟨e,he1,he2⟩:=k9.1 hj;rw[Q_,Q8] at he2;have:=hlt e (by simpa using he1) he2.2;omega);refine⟨hS j hjm hjd,λx hx=>z9 _ (X7.2 ⟨j,Z8.2 ⟨h_.2 hjm, ?_⟩,hx⟩)⟩;have:j≠i:=λe=>by rw[e,hun] at hjd;cases hjd
   simpa using this
  .rw[<-hpre i him hun];exact hh.perm (Iy him rest)
  refine ih _ _ _ (λj=>if j=i then R' else R j) (by rw[Array.size_setIfInBounds];exact hsz) (λj hj=> ?_) (by rw[FP hiL hun m him];omega) (λs hs2=> ?_) (λj hj hjd=> ?_) (λj hj hjd=> ?_) ?_
  .rw[jk hiL,O_ Z',f_];exact htail j hj
  .have hne:dst i≠s:=hs2 i him (by rw[jk hiL];simp);rw[Kh _ (λe=>hne e.symm)];exact hag s λj hj hjd=>hs2 j hj (by rw[jk hiL,hjd];simp)
  .by_cases e:j=i
   .subst e;rw[J' rfl,mr];exact h1
   rw[jk hiL,O_ e,f_] at hjd;rw[L' e,Kh _ (λe2=>e (hinj j i hj him e2))];exact hS j hj hjd
  .rw[jk hiL] at hjd;have e:j≠i:=λe=>by rw[e] at hjd;simp at hjd
   rw[O_ e,f_] at hjd;rw[L' e];exact hpre j hj hjd
  refine Hp.perm h2 (List.Perm.trans ?_ (Iy (R:=λj=>if j=i then R' else R j) him rest).symm);rw[J' rfl];have:((List.range m).filter (· !=i)).flatMap (λj=>if j=i then R' else R j)=((List.range m).filter (· !=i)).flatMap R:=(by refine qu λj hj=> ?_;have:=(Z8.1 hj).2;rw[L' (by simpa using this)]);rw[this]
def acm{id:Nat}{l:List Oper}{H:List HE}(m:Nat)(dst:Nat->Nat)(S:Lv)(pre:Nat->List HE)(rest:List HE)(ds:List (Nat×Nat))(hh:Hp w0 H w)(hH:H.Perm ((List.range m).flatMap pre++rest))(hm:P.follows .mixedOrders=true) (hok:aal l m N dst=true)(hds:ds=((List.range m).map λi=>(i,dst i)).reverse)(hs:All m (Spec P l w0 ρ dst m S pre rest)) (hfin:∀(f:Nat->Value)(R:Nat->List HE)(w':World),All m (λi=>S i (f i) (R i))->Hp w0 ((List.range m).flatMap R++rest) w'->WL .plain P N l.toArray Q (l.drop m) (Gf ρ f ds) w'):WC .plain P N (.region id l.toArray true) Q ρ w:=by
 refine Fo hh hm λw' hj=> ?_;simp only[aal,Q_,K_] at hok;obtain⟨⟨⟨⟨⟨hml,h1⟩,h2⟩,h3⟩,h4⟩,h5⟩:=hok;have hop:∀i,i<m->∃o,l[i]?=some o/\o.dst=some (dst i)/\dst i<N/\∀e∈o.after,Region.binds .any e=true->e.on<i:=λi hi=>by
  have:=ZJ h1 hi;split at this
  .rename_i o ho;simp only[Q_,Q8,K_] at this;refine⟨o,ho,this.1.1,this.1.2,λe he hb=> ?_⟩;have h6:=u_.1 this.2 e (by simpa using he);simpa[hb] using h6
  cases this
 have hmem:∀i,i<m->(i,dst i)∈ds:=λi hi=>by rw[hds,g8];exact i'.2 ⟨i,h_.2 hi,rfl⟩
 have hmap:ds.map (·.2)=((List.range m).map dst).reverse:=by rw[hds,List.map_reverse,Y9];rfl
 refine abO (w0:=w0) (pre:=pre) (rest:=rest) (S:=S) (ds:=ds) (λp hp=> ?_) hmem (by rw[hmap];exact(List.reverse_perm _).nodup_iff.2 h2) (λi j hi hj he=> ?_) hml hop (λk hk hkl=> ?_) h4 (eq_of_beq h5) hs (λf R w2 hS hh2=>hfin f R w2 (vQ hS) hh2) l.length (Array.replicate l.length false) ρ w' pre (by simp) (λj _=> ?_) ?_ (λs _=>rfl) (λj hj hjd=> ?_) (λj _ _=>rfl) (Hp.perm hj.hp hH)
 .rw[hds,g8] at hp;obtain⟨i,hi,rfl⟩:=i'.1 hp;exact⟨h_.1 hi,rfl⟩
 .have hi2:((List.range m).map dst)[i]?=some (dst i):=by rw[V_,x9 hi];rfl
  have hj2:((List.range m).map dst)[j]?=some (dst j):=by rw[V_,x9 hj];rfl
  exact(List.getElem?_inj (by rw[Z_,q9];exact hi) h2).1 (by rw[hi2,hj2,he])
 .have:=ZJ h3 (show k-m<l.length-m by omega);rw[show m+(k-m)=k by omega] at this;split at this
  .rename_i o ho;exact⟨o,ho,λj hj=>ZJ this hj⟩
  cases this
 .exact Lp _ _
 .rw[List.countP_eq_zero.2 λj _=>by rw[Lp];decide];rfl
 rw[Lp] at hjd
 cases hjd
def Pw(v:Value):Value->List HE->Prop:=λx R=>x=v/\R=[]
variable {ag:Bool}{by':Nat}{cs zc:List Value}{parts:Array (Nat×Operand)}
def EP{H:List HE}(hh:Hp w0 H w){d:Option Nat}{ty:TypeId}{af:Array Edge}{t e:TypeId}{len sz:Nat}{ps:List (Nat×Value)}(ht:P.underlying t=some (.slice e))(hte:Dd P e=some (sz,ag,by',zc)) (hp:AB ρ parts.toList=ps)(hzl:zc.length=sz)(hf:Pk (λi=>some (i*sz,sz)) (Cg len zc) ps=some cs)(h0:¬len*sz=0)(hle:len<=1000)(hsl:len*sz<=16777216)(hl:cs.length=len*sz){K:Value->World->Prop} (hk:∀b w2,Hp w0 (.row (some ⟨b,0,none⟩) len len e sz cs::H) w2->K (.slice (some ⟨b,0,none⟩) len len) w2):OG P ops ⟨d,.buildSlice t len parts,ty,pos,af,none⟩ ρ w K:=by
 obtain⟨z,hz,hzc⟩:=de (w:=w) hte;refine Pd rfl (w':=w.alloc (.cells cs.toArray e)) (v:=.slice (some ⟨w.heap.size,0,none⟩) len len) ?_ (hk _ _ (hh.tD e sz len cs hl (by unfold maxLen;omega)));exact abH
variable {vs:List Value}{fz:Nat×Nat}
def Hp.abh{H:List HE}(h:Hp w0 H w){t:TypeId}(hm:HE.blk b t cs fz∈H)(hv:(cs.drop o).take n=vs):Rd w ⟨b,o,none⟩ vs:=let⟨_,hi⟩:=j_.1 hm;h.qb hi hv
def Hp.ack{H:List HE}(h:Hp w0 H w){A:Option Addr}{c sz:Nat}{t:TypeId}{xs:List Value}(hm:HE.row A n c t sz xs∈H):Sl w A n sz xs:=let⟨_,hi⟩:=j_.1 hm;h.ra hi
def TF(xs:List NR)(m:ByteArray)(k:Nat):Dyadic:=match xs[k]?,m.data.toList[k]? with|some x,some e=>x.ma^e.toNat|_,_=>1
def wD(c:Dyadic)(xs:List NR)(m:ByteArray):Nat->Dyadic
 |0=>c
 |k+1=>wD c xs m k*TF xs m k
def Gs(xs:List NR)(ts:List TR):Nat->Dyadic
 |0=>0
 |i+1=>Gs xs ts i+(match ts[i]? with|some t=>wD t.c.ma xs t.m xs.length|none=>0)
def Om(p:PX)(n:Nat):Int:=if p.e=0 then(if(n:Int)=p.v then 0 else 1) else p.e
def Gm(p:PX)(xs:List NR):NR:=if Om p xs.length=0 then nR (Gs xs p.ts p.ts.length) else nR 0
abbrev YP:=Option Addr×Nat×Nat
def GH(ks:List YP):List Value:=ks.map λk=>.slice k.1 k.2.1 k.2.2
def pwE(y:NR)(k:YP):HE:=.row k.1 k.2.1 k.2.2 30 3 (na NR.cells (HA y.ma k.2.1))
def fP(ys:List NR)(ks:List YP):List HE:=List.zipWith pwE ys ks
def LM{w0 w:World}{H:List HE}(hh:Hp w0 H w):∀ys:List NR,Hp w0 (fP ys (List.replicate ys.length (none,0,0))++H) w
 |[]=>hh
 |y::ys=>(LM hh ys).Nb 30 3
def jY(ks:List YP):(GH ks).length=ks.length:=Z_ ..
def dZ(ks:List YP)(i:Nat)(k:YP):GH (ks.set i k)=(GH ks).set i (.slice k.1 k.2.1 k.2.2):=by unfold GH;rw[j9]
def Xs{α:Type}:∀{l:List α}{i:Nat}{a:α},l[i]?=some a->l.Perm (a::l.eraseIdx i)
 |[],i,a,h=>by cases h
 |b::l,0,a,h=>by cases h;exact List.Perm.refl _
 |b::l,i+1,a,h=>((Xs (l:=l) (i:=i) h).cons b).trans (.swap _ _ _)
def EV{ys:List NR}{ks:List YP}{i:Nat}{y:NR}{k:YP}(hy:ys[i]?=some y)(hk:ks[i]?=some k):(fP ys ks)[i]?=some (pwE y k):=by
 unfold fP;rw[J8,hy,hk]
def Oz:∀{ys:List NR}{ks:List YP}{i:Nat}{k:YP},(fP ys (ks.set i k)).eraseIdx i=(fP ys ks).eraseIdx i
 |[],_,_,_=>by unfold fP;simp
 |_::_,[],_,_=>by unfold fP;simp
 |y::ys,k0::ks,0,k=>rfl
 |y::ys,k0::ks,i+1,k=>(by show pwE y k0::(fP ys (ks.set i k)).eraseIdx i=pwE y k0::(fP ys ks).eraseIdx i;rw[Oz])
def wY{xs:List NR}{m:ByteArray}{x:NR}{e:UInt8}(hx:xs[k]?=some x)(he:m.data.toList[k]?=some e):TF xs m k=x.ma^e.toNat:=by
 unfold TF;rw[hx,he]
def FB{xs:List NR}{m:ByteArray}{c:Dyadic}{q:Nat}(hc:Sz q c)(hq:q<=1000)(hx:∀x∈xs,Sz q x.ma)(hm:Be m.data.toList=true):∀k,Sz (q+128000*k) (wD c xs m k)
 |0=>hc
 |k+1=>by
  refine((FB hc hq hx hm k).mul (l:=128000) ?_).mono Z';unfold TF;split
  .rename_i x e h1 h2;have he:=Xn hm h2;exact((hx x (G' h1)).pow e.toNat).mono (by have:=n9 hq (show e.toNat<=127 by omega);omega)
  exact Sz.one.mono Z'
def dQ{xs:List NR}{ts:List TR}{q:Nat}(hq:q<=1000)(hx:∀x∈xs,Sz q x.ma)(ht:zg q ts)(hm:∀t∈ts,Be t.m.data.toList=true)(hl:xs.length<=12):∀i,Sz (1600000+i) (Gs xs ts i)
 |0=>Sz.zero _
 |i+1=>by
  show Sz (1600000+i+1) (Gs xs ts i+_);refine(dQ hq hx ht hm hl i).add ?_;split
  .rename_i t h;exact(FB (ht t (G' h)).2 hq hx (hm t (G' h)) xs.length).mono Z'
  exact Sz.zero _
def itN(w:World)(b:Nat):Nat:=match w.heap[b]? with|some (.stringIter _ p)=>p|_=>0
def DQ{H:List HE}(hh:Hp w0 H w){i p:Nat}{s:ByteArray}(hi:H[i]?=some (.it b s p)):itN w b=p:=by
 unfold itN;rw[(hh.at_ hi).2]
def Ru(p:PX)(ys:List NR)(xA:Option Addr)(xn xc:Nat)(k:Nat)(w:World)(hT:Xc w)(hp:p.at_ w)(lp:p.fh k)(hS:Sl w xA xn 3 (na NR.cells ys))(hl:ys.length=xn)(hy:∀y∈ys,y.ok/\Sz k y.ma)(hk:k<=1000):Calls prog 28 #[.agg #[.int .i64 p.v,.slice p.A p.n p.c],.slice xA xn xc] w λr w'=>r=.returned (.tuple #[.agg #[.bool (Gm p ys).neg,.string (Gm p ys).Qa,.int .i64 (Gm p ys).e],.int .i64 (Om p xn)])/\Below w.heap.size w w':=by
 have hh:=Hp.start w;subst hl;have hck:=λw1 hT1 hb=>rk p k w1 hT1 (hp.ext hb) lp;unfold Gm Om;by_cases h0:p.e=0
 .rw[h0] at hck;simp only[J' h0];by_cases h1:(ys.length:Int)=p.v
  .simp only[J' h1];obtain⟨hf,h4,hmy,_⟩:=Vb h0;replace hf:=Qe.1 hf;obtain⟨pv,pA,pn,pc,ts⟩:=p;replace hpl:ts.length=pn:=hp.ln;replace hp:Sl w pA pn 4 (na TR.cells ts):=hp;have okp:zg k ts:=lp.ok;have szp:∀t∈ts,t.m.size<=100000:=lp.sz;replace hmy:∀t∈ts,re pv t=true:=hmy;replace h4:ts.length<=4096:=h4;replace hf:0<=pv/\pv<=12:=hf;replace h1:(ys.length:Int)=pv:=h1;subst h1;have hyl:ys.length<=12:=Z';have kz:∀i,i<=4096->Sz 1700000 (Gs ys ts i):=λi hi=>(dQ hk (λy h=>(hy y h).2) okp (λt h=>(E8.1 (hmy t h)).1) hyl i).mono Z';show Calls _ _ _ _ λr w'=>r=.returned (.tuple #[.agg #[.bool (nR (Gs ys ts ts.length)).neg,.string (nR (Gs ys ts ts.length)).Qa,.int .i64 (nR (Gs ys ts ts.length)).e],.int .i64 0])/\Below w.heap.size w w';refine da (N:=64) (l:=[.agg #[.int .i64 ys.length,.slice pA pn pc],.slice xA ys.length xc]) func28 rfl rfl (by simp) ?_;refine Tb ?_;intro b2 w2 hh b4 w4 hh;refine eh ?_;intro w15 hh;refine fa ?_;refine Xe (n:=ys.length) hh rfl rfl Z' Z' mb.out ya.out rfl Z' Z' U' ?_;intro b28 w28 hh;refine Lb ?_;intro b8 w8 hh
   rw[Jn,show List.replicate ys.length (Value.slice none 0 0)=GH (List.replicate ys.length (none,0,0)) by unfold GH;rw[List.map_replicate]] at hh;replace hh:=(LM hh ys).perm R6;simp only[C',E'] at hh;refine Ba [10,11,12,13,32,33,34,35,36,37,38,39,40,41,42,43,44,45,46,47,48,49,50,51,52,53,54,55,56,57,58,59,60,61,62] 32 (λv w'=>∃(i:Nat)(ks:List YP),i<=pn/\v=.int .i64 i/\ks.length=ys.length/\(∀q∈ks,q.2.1<=1000)/\Hp w (.blk b8 30 [.bool (nR (Gs ys ts i)).neg,.string (nR (Gs ys ts i)).Qa,.int .i64 (nR (Gs ys ts i)).e] (0,0)::.row (some ⟨b28,0,none⟩) ys.length ys.length 130 1 (GH ks)::.blk b4 30 [.bool false,.string (ByteArray.mk #[]),.int .i64 0] (0,0)::.blk b2 24 [.int .i64 ys.length,.slice pA pn pc] (0,0)::fP ys ks) w') (λv _=>pn-(intOf v).toNat) ?_ ?_
   .exact⟨0,_,D' _,rfl,I9,λq hq=>by rw[List.eq_of_mem_replicate hq];exact D' _,hh⟩
   clear hh;rintro ρ' v w' ⟨i,ks,hi,rfl,hkl,hkm,hh⟩;by_cases hlt:i<pn
   .obtain⟨x,hx⟩:=ea (l:=ts) (k:=i) Z';obtain⟨ad,rfl,hr⟩:=hp.at_ Z';have hxo:=okp x (G' hx);have hmx:=E8.1 (hmy x (G' hx));have hxz:(x.m.size:Int)=ys.length:=D9 hmx.2;refine fa ?_;refine rn ?_;refine ZP ?_;intro b10 w10 hh ws hh b11 w11 hh ws hh;refine Mr hh mb.out rfl U' ?_;intro b40 w40 hh;skip;refine fa ?_;refine Yx [12,13,41,42,43,44,45,46,47,48,49,50,51,52,53,54,55,56,57] (λw'=>∃(q:Nat)(z:NR)(ks:List YP),q<=ys.length/\z.ok/\z.ma=wD x.c.ma ys x.m q/\ks.length=ys.length/\(∀q∈ks,q.2.1<=1000)/\Hp w (.it b40 x.m q::.blk b11 30 [.bool z.neg,.string z.Qa,.int .i64 z.e] (0,0)::.blk b10 72 [.string x.m,.bool x.c.neg,.string x.c.Qa,.int .i64 x.c.e] (0,0)::.blk b8 30 [.bool (nR (Gs ys ts i)).neg,.string (nR (Gs ys ts i)).Qa,.int .i64 (nR (Gs ys ts i)).e] (0,0)::.row (some ⟨b28,0,none⟩) ys.length ys.length 130 1 (GH ks)::.blk b4 30 [.bool false,.string (ByteArray.mk #[]),.int .i64 0] (0,0)::.blk b2 24 [.int .i64 ys.length,.slice (some ad) pn pc] (0,0)::fP ys ks) w') (λw'=>ys.length-itN w' b40) ?_ ?_
    .exact⟨0,x.c,ks,D' _,hxo.1,rfl,hkl,hkm,hh⟩
    clear hh hkl hkm;rintro ρ' w' ⟨q,z,ks,hq,hzo,hzd,hkl,hkm,hh⟩;have hit:=DQ hh (i:=0) rfl;have hzs:Sz 1600000 z.ma:=by rw[hzd];exact(FB hxo.2 hk (λy h=>(hy y h).2) hmx.1 q).mono Z'
    by_cases hlq:q<ys.length
    .obtain⟨y,hyq⟩:=ea (l:=ys) (k:=q) hlq;obtain⟨⟨ka,km,kc⟩,hkq⟩:=ea (l:=ks) (k:=q) Z';obtain⟨xad,rfl,hxr⟩:=hS.at_ Z';obtain⟨e,he⟩:=ea (l:=x.m.data.toList) (k:=q) (by rw[<-Yc];omega);have he8:=Xn hmx.1 he;have hyo:=hy y (G' hyq);have hkm0:km<=1000:=hkm _ (G' hkq);have hqk:q<(GH ks).length:=by rw[jY];omega
     have zp:Sz 128000 (y.ma^e.toNat):=(hyo.2.pow e.toNat).mono (by have:=n9 hk (show e.toNat<=127 by omega);omega);have hdm:=λA cc w1 hT1 hS1=>Fe A 2 cc [z,nR (y.ma^e.toNat)] w1 hT1 hS1 (by simpa using⟨hzo,zp.ok U'⟩) 1600000 (by simpa[db] using⟨hzs,zp.mono U'⟩) U' U';rw[show vf ([z,nR (y.ma^e.toNat)].map NR.ma)=z.ma*y.ma^e.toNat by show 1*z.ma*(nR _).ma=_;rw[db,U7]] at hdm;have hcq:(GH ks)[q]?=some (.slice ka km kc):=by unfold GH;rw[V_,hkq];rfl
     refine sr ?_;refine er hh (i:=0) rfl rfl he he8 U' ?_;intro w41 hh;simp only[U_] at hh;skip;refine fa ?_;replace hh:=hh.perm (P_ (l₁:=[_,_,_,_]));simp only[C',E'] at hh;replace hh:=hh.perm (((Xs (EV hyq hkq)).append_left [_,_,_,_,_,_,_]).trans (List.perm_middle.trans (.swap _ _ _)));rw[<-vn hcq] at hh;have mb11:(.blk b11 30 [.bool z.neg,.string z.Qa,.int .i64 z.e] (0,0):HE)∈(.it b40 x.m (q+1)::.blk b11 30 [.bool z.neg,.string z.Qa,.int .i64 z.e] (0,0)::.blk b10 72 [.string x.m,.bool x.c.neg,.string x.c.Qa,.int .i64 x.c.e] (0,0)::.blk b8 30 [.bool (nR (Gs ys ts i)).neg,.string (nR (Gs ys ts i)).Qa,.int .i64 (nR (Gs ys ts i)).e] (0,0)::.blk b4 30 [.bool false,.string (ByteArray.mk #[]),.int .i64 0] (0,0)::.blk b2 24 [.int .i64 ys.length,.slice (some ad) pn pc] (0,0)::(fP ys ks).eraseIdx q):=by simp
     refine acm 13 (λi=>[45,46,47,48,49,50,51,52,53,54,55,56,57].getD i 0) (λi=>[Pw (.agg #[.bool z.neg,.string z.Qa,.int .i64 z.e]),Pw (.slice (some ⟨b28,0,none⟩) ys.length ys.length),Pw (.int .i64 q),Pw (.pointer (some ⟨b28,q*1,none⟩)),Pw (.slice (some xad) ys.length xc),Pw (.int .i64 q),Pw (.pointer (some (xad.add (q*3)))),Pw (.agg #[.bool y.neg,.string y.Qa,.int .i64 y.e]),Pw (.int .i32 e.toNat),Pw (.int .i64 e.toNat),λv R=>v=.agg #[.bool (nR (y.ma^e.toNat)).neg,.string (nR (y.ma^e.toNat)).Qa,.int .i64 (nR (y.ma^e.toNat)).e]/\∃(A2:Option Addr)(m2 c3:Nat),m2<=1000/\R=[.row (some ⟨b28,0,none⟩) ys.length ys.length 130 1 ((GH ks).set q (.slice A2 m2 c3)),.row A2 m2 c3 30 3 (na NR.cells (HA y.ma m2))],λv R=>∃b:Nat,v=.slice (some ⟨b,0,none⟩) 2 2/\R=[.row (some ⟨b,0,none⟩) 2 2 30 3 (na NR.cells [z,nR (y.ma^e.toNat)])],Pw (.agg #[.bool (nR (z.ma*y.ma^e.toNat)).neg,.string (nR (z.ma*y.ma^e.toNat)).Qa,.int .i64 (nR (z.ma*y.ma^e.toNat)).e])].getD i (Pw undef)) (λi=>[[],[],[],[],[],[],[],[],[],[],[.row (some ⟨b28,0,none⟩) ys.length ys.length 130 1 ((GH ks).set q (.slice ka km kc)),.row ka km kc 30 3 (na NR.cells (HA y.ma km))],[],[]].getD i []) (.it b40 x.m (q+1)::.blk b11 30 [.bool z.neg,.string z.Qa,.int .i64 z.e] (0,0)::.blk b10 72 [.string x.m,.bool x.c.neg,.string x.c.Qa,.int .i64 x.c.e] (0,0)::.blk b8 30 [.bool (nR (Gs ys ts i)).neg,.string (nR (Gs ys ts i)).Qa,.int .i64 (nR (Gs ys ts i)).e] (0,0)::.blk b4 30 [.bool false,.string (ByteArray.mk #[]),.int .i64 0] (0,0)::.blk b2 24 [.int .i64 ys.length,.slice (some ad) pn pc] (0,0)::(fP ys ks).eraseIdx q) _ hh (List.Perm.refl _) mixed T' rfl ⟨⟨⟨⟨⟨⟨⟨⟨⟨⟨⟨⟨⟨trivial, ?s0⟩, ?s1⟩, ?s2⟩, ?s3⟩, ?s4⟩, ?s5⟩, ?s6⟩, ?s7⟩, ?s8⟩, ?s9⟩, ?s10⟩, ?s11⟩, ?s12⟩ ?fin
     case s0=>exact⟨_,rfl,λρ1 w1 F R ha hd hr (hh:Hp w F w1)=>Pd rfl (Py (vs:=[_,_,_]) ya.out (ha 11 U') (hh.abh (n:=3) (hr _ mb11) rfl) rfl) ⟨[],⟨rfl,rfl⟩,hh⟩⟩
     case s1=>exact⟨_,rfl,λρ1 w1 F R ha hd hr (hh:Hp w F w1)=>Pd rfl (Lc (ha 7 U')) ⟨[],⟨rfl,rfl⟩,hh⟩⟩
     case s2=>exact⟨_,rfl,λρ1 w1 F R ha hd hr (hh:Hp w F w1)=>Pd rfl (Lc (ha 12 U')) ⟨[],⟨rfl,rfl⟩,hh⟩⟩
     case s3=>exact⟨_,rfl,λρ1 w1 F R ha hd hr (hh:Hp w F w1)=>Pd rfl (Up (k:=q) mb.out ya.size (show Pw (.slice (some ⟨b28,0,none⟩) ys.length ys.length) (ρ1 46) (R 1) from(hd 1 rfl).1).1 (show Pw (.int .i64 q) (ρ1 47) (R 2) from(hd 2 rfl).1).1 Z' Z') ⟨[],⟨rfl,rfl⟩,hh⟩⟩
     case s4=>exact⟨_,rfl,λρ1 w1 F R ha hd hr (hh:Hp w F w1)=>Pd rfl (Lc (ha 1 U')) ⟨[],⟨rfl,rfl⟩,hh⟩⟩
     case s5=>exact⟨_,rfl,λρ1 w1 F R ha hd hr (hh:Hp w F w1)=>Pd rfl (Lc (ha 12 U')) ⟨[],⟨rfl,rfl⟩,hh⟩⟩
     case s6=>exact⟨_,rfl,λρ1 w1 F R ha hd hr (hh:Hp w F w1)=>Pd rfl (mg (k:=q) mb.out ya.size (show Pw (.slice (some xad) ys.length xc) (ρ1 49) (R 4) from(hd 4 rfl).1).1 (show Pw (.int .i64 q) (ρ1 50) (R 5) from(hd 5 rfl).1).1 Z' Z') ⟨[],⟨rfl,rfl⟩,hh⟩⟩
     case s7=>exact⟨_,rfl,λρ1 w1 F R ha hd hr (hh:Hp w F w1)=>Pd rfl (Py (vs:=[_,_,_]) ya.out (show Pw (.pointer (some (xad.add (q*3)))) (ρ1 51) (R 6) from(hd 6 rfl).1).1 ((hxr.ext hh.below).recAt NR.len hyq) rfl) ⟨[],⟨rfl,rfl⟩,hh⟩⟩
     case s8=>exact⟨_,rfl,λρ1 w1 F R ha hd hr (hh:Hp w F w1)=>Pd rfl (Lc (ha 13 U')) ⟨[],⟨rfl,rfl⟩,hh⟩⟩
     case s9=>exact⟨_,rfl,λρ1 w1 F R ha hd hr (hh:Hp w F w1)=>Pd rfl (tx mb.out mb.out (show Pw (.int .i32 e.toNat) (ρ1 53) (R 8) from(hd 8 rfl).1).1 Z' Z') ⟨[],⟨rfl,rfl⟩,hh⟩⟩
     case s10=>exact⟨_,rfl,λρ1 w1 F R ha hd hr hh=>Qb rfl (pb ja.out (Ga (show Pw (.pointer (some ⟨b28,q*1,none⟩)) (ρ1 48) (R 3) from(hd 3 rfl).1).1 (Ga (show Pw (.agg #[.bool y.neg,.string y.Qa,.int .i64 y.e]) (ρ1 52) (R 7) from(hd 7 rfl).1).1 (Ga (show Pw (.int .i64 e.toNat) (ρ1 54) (R 9) from(hd 9 rfl).1).1 Gb)))) (eI (cd (g:=b28) (m:=ys.length) (c:=ys.length) (i:=q) (t:=130) (xs:=GH ks) hqk) y e.toNat km ka kc k w1 hT hh Z' hkm0 hyo hk) λr w2 ⟨h1,A2,m2,c3,h2,h3⟩=>⟨_,h1,[_,_],⟨rfl,A2,m2,c3,h2,rfl⟩,h3⟩⟩
     case s11=>exact⟨_,rfl,λρ1 w1 F R ha hd hr (hh:Hp w F w1)=>EP (sz:=3) (cs:=na NR.cells [z,nR (y.ma^e.toNat)]) hh mb.out ya.out (show AB ρ1 [(0,.tmp 45),(1,.tmp 55)]=[(0,.agg #[.bool z.neg,.string z.Qa,.int .i64 z.e]),(1,.agg #[.bool (nR (y.ma^e.toNat)).neg,.string (nR (y.ma^e.toNat)).Qa,.int .i64 (nR (y.ma^e.toNat)).e])] from Sb (show ρ1 45=_ from(show Pw (.agg #[.bool z.neg,.string z.Qa,.int .i64 z.e]) (ρ1 45) (R 0) from(hd 0 rfl).1).1) (Sb (show ρ1 55=_ from(hd 10 rfl).1.1) oe)) rfl rfl U' U' U' rfl λb w2 h2=>⟨[_],⟨b,rfl,rfl⟩,h2⟩⟩
     case s12=>exact⟨_,rfl,λρ1 w1 F R ha hd hr (hh:Hp w F w1)=>let⟨b,e9,r9⟩:=(show ∃b:Nat,ρ1 56=.slice (some ⟨b,0,none⟩) 2 2/\R 11=[.row (some ⟨b,0,none⟩) 2 2 30 3 (na NR.cells [z,nR (y.ma^e.toNat)])] from(hd 11 rfl).1);Qb rfl (pb ja.out (Ga e9 Gb)) (hdm _ _ w1 (hT.hp hh) (hh.ack ((hd 11 rfl).2 _ (r9 ▸ q')))) λr w2 hq=>⟨_,hq.1,[],⟨rfl,rfl⟩,hh.ext hq.2⟩⟩
     clear hh;rintro f R W ⟨⟨⟨⟨⟨⟨⟨⟨⟨⟨⟨⟨⟨-,s0⟩,s1⟩,s2⟩,s3⟩,s4⟩,s5⟩,s6⟩,s7⟩,s8⟩,s9⟩,s10⟩,s11⟩,s12⟩ hh;obtain⟨e0,r0⟩:=s0;obtain⟨e1,r1⟩:=s1;obtain⟨e2,r2⟩:=s2;obtain⟨e3,r3⟩:=s3;obtain⟨e4,r4⟩:=s4;obtain⟨e5,r5⟩:=s5;obtain⟨e6,r6⟩:=s6;obtain⟨e7,r7⟩:=s7;obtain⟨e8,r8⟩:=s8;obtain⟨e9,r9⟩:=s9;obtain⟨e10,A2,m2,c3,hm2,r10⟩:=s10;obtain⟨b56,e11,r11⟩:=s11;obtain⟨e12,r12⟩:=s12;rw[show List.range 13=[0,1,2,3,4,5,6,7,8,9,10,11,12] from rfl] at hh;simp only[D7,List.flatMap_nil,r0,r1,r2,r3,r4,r5,r6,r7,r8,r9,r10,r11,r12,E',n_,C'] at hh;refine Ea (Na (aa e12 (aa e11 (aa e10 (aa e9 (aa e8 (aa e7 (aa e6 (aa e5 (aa e4 (aa e3 (aa e2 (aa e1 (aa e0 Da)))))))))))))) ?_;dsimp only[Cb];refine Lb ?_;intro ws hh;have hz2:Sz 1728000 (z.ma*y.ma^e.toNat):=(hzs.mul zp).mono Z';have e1:(GH ks).set q (.slice A2 m2 c3)=GH (ks.set q (A2,m2,c3)):=(dZ ks q (A2,m2,c3)).symm;have hpk:=Xs (EV hyq (show(ks.set q (A2,m2,c3))[q]?=some (A2,m2,c3) from List.getElem?_set_self Z'));rw[Oz] at hpk;rw[e1] at hh
     replace hh:=hh.perm (P_ (l₁:=[_]));simp only[C',E'] at hh;replace hh:=hh.perm (P_ (l₁:=[_,_,_,_,_,_,_,_]));simp only[C',E'] at hh;replace hh:=hh.perm (P_ (l₁:=[_,_,_,_,_,_,_,_]));simp only[C',E'] at hh;replace hh:=hh.perm (P_ (l₁:=[_,_,_]));simp only[C',E'] at hh;replace hh:=hh.perm (P_ (l₁:=[_,_,_,_,_,_,_,_]));simp only[C',E'] at hh;replace hh:=hh.perm (P_ (l₁:=[_,_,_,_,_,_,_,_]));simp only[C',E'] at hh;replace hh:=hh.perm (P_ (l₁:=[_,_,_,_,_,_,_,_]));simp only[C',E'] at hh;replace hh:=hh.perm (P_ (l₁:=[_,_,_,_,_,_,_,_]));simp only[C',E'] at hh;replace hh:=hh.sub (.cons_cons _ (.cons_cons _ (.cons_cons _ (.cons_cons _ (.cons_cons _ (.cons_cons _ (.cons_cons _ (.cons_cons _ (.cons _ (A_ _))))))))));have hit2:=DQ hh (i:=0) rfl
     refine⟨⟨q+1,nR (z.ma*y.ma^e.toNat),ks.set q (A2,m2,c3),Z',hz2.ok U',by rw[db];show _=wD x.c.ma ys x.m q*TF ys x.m q;rw[<-hzd,wY hyq he],by rw[T9];exact hkl,λr hr=> ?_,hh.perm (hpk.symm.append_left [_,_,_,_,_,_,_])⟩,by rw[hit,hit2];omega, ?_⟩
     .obtain h|rfl:=H8 hr
      .exact hkm r h
      exact hm2
     exact Sc
    obtain rfl:q=ys.length:=Z';have hsm:=λA cc w1 hT1 hS1=>Qf A 2 cc [nR (Gs ys ts i),z] w1 hT1 hS1 (by simpa using⟨(kz i Z').ok U',hzo⟩) 1700000 (by simpa[db] using⟨kz i Z',hzs.mono U'⟩) U';rw[show jm ([nR (Gs ys ts i),z].map NR.ma)=Gs ys ts (i+1) by simp only[o_,G9,ni,db];show _=Gs ys ts i+_;rw[hx,hzd]] at hsm;refine sr ?_;refine Lq hh (i:=0) rfl rfl Z' U' ?_;skip;refine fa ?_;refine Lr ?_;intro b60 w60 hh;refine Oa hh (hsm _ _ _ (hT.hp hh) (hh.ra (i:=0) rfl)) rfl ?_;intro w61 hh;refine Lb ?_;intro ws hh;replace hh:=hh.sub (p' _ (p' _ (p' _ (p' _ (I' _ (I' _ (I' _ (I' _ (A_ _)))))))));refine⟨⟨i+1,ks,Z',rfl,hkl,hkm,hh⟩,by show pn-(i+1)<pn-i;omega, ?_⟩;exact Sc
   obtain rfl:i=pn:=Z';refine Lb ?_;intro ws hh;refine SQ (td rfl (ud (vs:=[_,_,_]) ya.out (hh.qb (i:=2) (n:=3) rfl rfl) rfl) (mh (ej rfl) De)) ?_;exact⟨by rw[hpl],hh.below⟩
  simp only[L' h1];rw[L' U'];exact adi
 simp only[L' h0];generalize p.e=e at*;exact adi
def ah2(a:NR):Bool:=decide ((8:Int)<a.Qa.size\/a.e< -60\/60<a.e)
structure SmQ(ts:List TR):Prop where
 n:ts.length<=10
 ok:zg 124 ts
 sz:∀t∈ts,t.m.size<=20
 ex:∀t∈ts,∀c∈t.m.data.toList,c.toNat<=6
variable {ts:List TR}
structure Am(v:Int)(k n D:Nat)(ts:List TR):Prop where
 e:Jf v ts=0
 ok:zg k ts
 sz:∀t∈ts,t.m.size<=100000
 len:ts.length<=n
 ex:∀t∈ts,∀c∈t.m.data.toList,c.toNat<=D
def IX{D:Nat}{l:List TR}(h:∀t∈l,∀c∈t.m.data.toList,c.toNat<=D):∀t∈ua l,∀c∈t.m.data.toList,c.toNat<=D:=λt ht=>by
 obtain⟨s,hs,e⟩:=Lf t ht;rw[<-e];exact h s hs
def iG{v:Int}{D:Nat}(i:Nat)(h:Am v k n D ts)(hk:k<=50000)(hn:n<=1000):Am v (k+24+n) n D (ua (Jm i ts)):=by
 obtain⟨h1,h2,h3⟩:=nL (i:=i) h.e h.ok h.sz Z';obtain⟨m1,m2,m3⟩:=LW h1;have hl:(Jm i ts).length<=n:=M_ (List.length_filterMap_le _ _) h.len;refine⟨Re m1 m3 m2,Fg h2 Z' Z',ym h3,M_ (Wb _) hl,IX λs hs c hc=> ?_⟩;obtain⟨t,ht,hd⟩:=B8.1 hs;obtain⟨e,he,h0,rfl⟩:=zt hd;replace hc:c∈(str (t.m.data.toList.set i (e-1))).data.toList:=hc;rw[Oc] at hc;obtain hc|rfl:=H8 hc
 .exact h.ex t ht c hc
 have h1:(1:UInt8)<=e:=by rw[UInt8.le_iff_toNat_le];show 1<=e.toNat;omega
 rw[UInt8.toNat_sub_of_le _ _ h1];have:=h.ex t ht e (G' he);omega
def pxD(v:Int)(ts:List TR):PX:=⟨v,none,0,0,ts⟩
def BS{g h:PX}(hv:g.v=h.v)(ht:g.ts=h.ts)(ys:List NR):Gm g ys=Gm h ys/\∀n,Om g n=Om h n:=by
 obtain⟨v,A,n,c,ts⟩:=g;obtain⟨v2,A2,n2,c2,ts2⟩:=h;obtain rfl:v=v2:=hv;obtain rfl:ts=ts2:=ht;exact⟨rfl,λ_=>rfl⟩
def wk(p:PX)(ys:List NR)(i:Nat):NR:=Gm (pxD p.v (ua (Jm i p.ts))) ys
def Hk(ys:List NR)(p:PX):List NR:=(List.range ys.length).map (wk p ys)
def LC(L:Option Addr)(n c:Nat)(ps:List PX)(X:Option Addr)(m cx:Nat)(ys:List NR)(k D:Nat)(w:World)(hT:Xc w)(hL:Sl w L n 2 (na PX.cells ps))(hn:n<=1000)(hp:∀p∈ps,p.at_ w/\p.fh k/\p.v=m/\Am p.v k 100 D p.ts)(hX:Sl w X m 3 (na NR.cells ys))(hm:m<=1000)(hy:∀y∈ys,y.ok/\Sz k y.ma)(hk:k<=800):Calls prog 141 #[.slice L n c,.slice X m cx] w λr w'=>∃(B:Option Addr)(c':Nat)(zs:List LX)(R:List HE),r=.returned (.slice B n c')/\zs.map LX.l=ps.map (Hk ys)/\(∀z∈zs,z.n=m/\.row z.A z.n z.c 30 3 (na NR.cells z.l)∈R)/\Hp w (.row B n c' 37 1 (na LX.cells zs)::R) w':=by
 have hh:=Hp.start w;have hln:ps.length=n:=hL.Fa PX.len U';have hxl:ys.length=m:=hX.Fa NR.len U';refine da (N:=48) (l:=[.slice L n c,.slice X m cx]) func141 rfl rfl (by simp) ?_;refine fa ?_;replace hh:=hh.Nb 37 1;refine Ra [5,7,8,9,10,11,12,13,16,17,18,19,20,21,22,23,24,25,26,27,28,29,30,31,32,33,34,35,36,37,38,39,40,41,42,43,44,45,46] 5 16 (λv5 v w'=>∃(i c5:Nat)(B:Option Addr)(zs:List LX)(R:List HE),i<=n/\v=.int .i64 i/\v5=.slice B i c5/\zs.map LX.l=(ps.take i).map (Hk ys)/\(∀z∈zs,z.n=m/\.row z.A z.n z.c 30 3 (na NR.cells z.l)∈R)/\Hp w (.row B i c5 37 1 (na LX.cells zs)::R) w') (λ_ v _=>n-(intOf v).toNat) ?_ ?_
 .exact abA
 clear hh;rintro ρ' v5 v w' ⟨i,c5,B,zs,R,hi,rfl,rfl,hzm,hzR,hh⟩;by_cases hlt:i<n
 .obtain⟨p,hx⟩:=ea (l:=ps) (k:=i) Z';obtain⟨p1,p2,p3,p4⟩:=hp p (G' hx);obtain⟨ad,rfl,hr⟩:=hL.at_ Z';refine fa ?_;refine eF ?_;refine Tb ?_;intro b7 w7 hh ws hh;replace hh:=hh.Nb 30 3;refine Ra [8,9,10,11,12,13,22,23,24,25,26,27,28,29,30,31,32,33,34,35,36,37,38,39,40,41] 8 22 (λv8 v w'=>∃(j c8:Nat)(E:Option Addr),j<=m/\v=.int .i64 j/\v8=.slice E j c8/\Hp w (.row E j c8 30 3 (na NR.cells ((List.range j).map (wk p ys)))::.blk b7 24 [.int .i64 p.v,.slice p.A p.n p.c] (0,0)::.row B i c5 37 1 (na LX.cells zs)::R) w') (λ_ v _=>m-(intOf v).toNat) ?_ ?_
  .exact⟨0,0,none,D' _,rfl,rfl,hh⟩
  clear hh;rintro ρ2 v8 v w2 ⟨j,c8,E,hj,rfl,rfl,hh⟩;by_cases hjm:j<m
  .have g0:=iG j p4 Z' U';have he:wz p j=0:=(by unfold wz PX.e;rw[p4.e,J' rfl,L' Z']);have hdv:=λw1 hT1 hb1=>Az p j k w1 hT1 (p1.ext hb1) p2 Z';rw[he] at hdv;have hst:=mq (wk p ys) j;have mm:∀(g:PX)(w1:World),g.v=p.v->g.ts=ua (Jm j p.ts)->Xc w1->g.at_ w1->g.n<=g.c->Below w.heap.size w w1->Calls prog 28 #[.agg #[.int .i64 g.v,.slice g.A g.n g.c],.slice X m cx] w1 λr w'=>(∃e:Int,r=.returned (.tuple #[.agg #[.bool (wk p ys j).neg,.string (wk p ys j).Qa,.int .i64 (wk p ys j).e],.int .i64 e]))/\Below w1.heap.size w1 w':=λg w1 gv gt hT1 ha hc hb=>(by have h:=Ru g ys X m cx (k+24+100) w1 hT1 ha ⟨by have:=ha.ln;have:=g0.len;rw[gt] at*;omega,hc,by rw[gt];exact g0.ok,by rw[gt];exact g0.sz⟩ (hX.ext hb) hxl (λy h=>⟨(hy y h).1,(hy y h).2.mono Z'⟩) Z';rw[(BS (g:=g) (h:=pxD p.v (ua (Jm j p.ts))) gv gt ys).1] at h;exact h.mono λr w' h=>⟨⟨_,h.1⟩,h.2⟩);generalize wk p ys j=s at*;refine fa ?_;refine qa (hdv _ (hT.hp hh) hh.below) ja.out rfl U' ?_;rintro e_ w28 ⟨g,og,rfl,h3⟩;refine⟨_,rfl, ?_⟩;replace hh:=hh.join h3;clear h3;simp only[C',E'] at hh;have gv:=og.v;have gt:=og.ts;rw[J' rfl] at gv gt;refine Tb ?_;intro b10 w10 hh ws hh;refine qa (mm g _ gv gt (hT.hp hh) (hh.ra (i:=1) rfl) (hh.pe (i:=1) rfl) hh.below) ja.out rfl U' ?_;rintro e_ w34 ⟨⟨e,rfl⟩,hb_⟩;refine⟨_,rfl, ?_⟩;replace hh:=hh.ext hb_;refine Tb ?_;intro b12 w12 hh ws hh;refine Un ?_;intro b39 w39 hh;refine CT ?_;intro A40 c40 w40 hh;simp only[U_,G_] at hh;replace hh:=hh.sub (s_ _ _);refine fa ?_;replace hh:=hh.perm (P_ (l₁:=[_,_,_,_,_]));simp only[C',E'] at hh;replace hh:=hh.perm (P_ (l₁:=[_,_,_,_,_]));simp only[C',E'] at hh;replace hh:=hh.perm (P_ (l₁:=[_,_,_,_,_]));simp only[C',E'] at hh
   replace hh:=hh.sub (I' _ (I' _ (I' _ (p' _ (p' _ (p' _ (A_ _)))))));refine⟨⟨j+1,c40,A40,Z',rfl,rfl,by rw[hst,Ma];exact hh.sub (I' _ (I' _ (I' _ (A_ _))))⟩,by show m-(j+1)<m-j;omega, ?_⟩;exact Sc
  obtain rfl:m=j:=Z';refine fa ?_;refine DE ?_;intro b44 w44 hh;refine lH ?_;intro A45 c45 w45 hh;simp only[U_,G_] at hh;replace hh:=hh.sub (s_ _ _);refine fa ?_;replace hh:=hh.perm (P_ (l₁:=[_,_]));simp only[C',E'] at hh;replace hh:=hh.sub (I' _ (I' _ (p' _ (A_ _))));refine⟨⟨i+1,c45,A45,zs++[⟨E,m,c8,Hk ys p⟩],.row E m c8 30 3 (na NR.cells (Hk ys p))::R,Z',rfl,rfl,by rw[q_,hzm,oa hx,q_];rfl,λy hy=> ?_,by rw[Ma];unfold Hk;rw[hxl];exact hh⟩,by show n-(i+1)<n-i;omega, ?_⟩
  .obtain hy|hy:=z_.1 hy
   .exact⟨(hzR y hy).1,F' _ (hzR y hy).2⟩
   obtain rfl:=S_.1 hy;exact⟨rfl,q'⟩
  exact Sc
 obtain rfl:n=i:=Z';rw[W_ Z'] at hzm;refine fa ?_;exact⟨B,c5,zs,R,rfl,hzm,hzR,hh⟩
def UC{x y:Dyadic}(hx:0<=x)(hy:0<=y):0<=x*y:=by
 rcases(by grind:x=0\/0<x) with h|h
 .rw[h,Dyadic.zero_mul];grind
 rcases(by grind:y=0\/0<y) with h2|h2
 .rw[h2,Q5];grind
 have:=Lean.Grind.OrderedRing.mul_pos h h2;grind
def JH{x:Dyadic}(hx:0<=x):∀n:Nat,0<=x^n
 |0=>by rw[x7];decide+kernel
 |n+1=>by rw[P5];exact UC (JH hx n) hx
def DT{x:Dyadic}(hx:0<x):∀n:Nat,0<x^n
 |0=>by rw[x7];decide+kernel
 |n+1=>by rw[P5];exact Lean.Grind.OrderedRing.mul_pos (DT hx n) hx
variable {ds:List Nat}
def cL:∀(ds rs:List Nat)(ts:List Dyadic),(∀t∈ts,0<=t/\t<1)->0<=Ez ds rs ts
 |[],_,_,_=>by show(0:Dyadic)<=1;decide+kernel
 |_::_,[],_,_=>by show(0:Dyadic)<=1;decide+kernel
 |_::_,_::_,[],_=>by show(0:Dyadic)<=1;decide+kernel
 |d::ds,r::rs,t::ts,h=>(by obtain⟨h1,h2⟩:=h t q';exact UC (UC (JH h1 r) (JH (by grind) (d-r))) (cL ds rs ts λt ht=>h t (F' _ ht)))
def yM:∀(ds:List Nat)(ts:List Dyadic),(∀t∈ts,0<=t/\t<1)->0<Ez ds (Fb ds 0) ts
 |[],_,_=>by show(0:Dyadic)<1;decide+kernel
 |d::ds,[],_=>by show(0:Dyadic)<1;decide+kernel
 |d::ds,t::ts,h=>(by obtain⟨h1,h2⟩:=h t q';have e:Fb (d::ds) 0=0::Fb ds 0:=(by show 0 % (d+1)::Fb ds (0/(d+1))=_;rw[Nat.zero_mod,Nat.zero_div]);rw[e];refine Lean.Grind.OrderedRing.mul_pos ?_ (yM ds ts λt ht=>h t (F' _ ht));unfold Yt;rw[x7,U7];exact DT (by grind) _)
def uL{α:Type}:∀(l:List α)(f g:α->Dyadic),(∀a∈l,f a<=g a)->sm l f<=sm l g
 |[],_,_,_=>by show(0:Dyadic)<=0;grind
 |a::l,f,g,h=>(by have h1:=h a q';have h2:=uL l f g λa ha=>h a (F' _ ha);show f a+sm l f<=g a+sm l g;grind)
def fU{Y ts:List Dyadic}(ht:∀t∈ts,0<=t/\t<1)(h:∀p,p<la ds->0<(Y[p]?).getD 0):0<rq ds Y ts:=by
 have hc:=Ec ds;obtain⟨N,hN⟩:∃N,la ds=N+1:=⟨la ds-1,Z'⟩;have h0:=Lean.Grind.OrderedRing.mul_pos (h 0 hc) (yM ds ts ht);unfold rq;rw[hN,List.range_succ_eq_map];show 0<_+sm _ _;have h1:sm (List.map Nat.succ (List.range N)) (λ_=>(0:Dyadic))<=sm (List.map Nat.succ (List.range N)) λp=>(Y[p]?).getD 0*Ez ds (Fb ds p) ts:=uL _ _ _ λp hp=>(by obtain⟨q,hq,rfl⟩:=i'.1 hp;have h2:=h_.1 hq;exact UC (by have:=h (q+1) Z';grind) (cL _ _ _ ht));rw[Po (λ_ _=>rfl)] at h1;grind
def Sz.ofNat(c:Nat)(h:c<256):Sz 8 ((c:Int):Dyadic):=
 ⟨(c:Int)*2^8,Lg (c:Int) U',by rw[W8,Int.natAbs_natCast];exact V9 (x8 h U') U'⟩
def yG(t:List Nat)(i:Nat):Dyadic:=Dyadic.ofIntWithPrec ((t[i]?).getD 0:Nat) 8
def lC(t:List Nat)(h:∀c∈t,c<256)(i:Nat):Sz 8 (yG t i)/\0<=yG t i/\yG t i<1:=by
 unfold yG;have h1:(t[i]?).getD 0<256:=by
  cases hc:t[i]? with
  |none=>decide
  |some c=>exact h c (G' hc)
 generalize (t[i]?).getD 0=c at*;refine⟨⟨c,rfl,by rw[Int.natAbs_natCast];exact V9 h1 U'⟩, ?_, ?_⟩
 .rw[<-ai 8,abq];omega
 rw[show(1:Dyadic)=Dyadic.ofIntWithPrec 256 8 by decide+kernel,Np];omega
def agh(s:SR)(a b:Dyadic):Prop:=(0<b/\s.lo.ma*b<=a/\a<=s.hi.ma*b)\/(b<0/\a<=s.lo.ma*b/\s.hi.ma*b<=a)
def OE(f:Dyadic->Dyadic->Bool):∀(r:List Dyadic)(a:Dyadic),r.foldl (λout a=>if f a out then a else out) a∈a::r
 |[],a=>q'
 |y::r,a=>by
  rw[J7];have h:=OE f r (if f y a then y else a);obtain h|h:=T_.1 h
  .rw[h];by_cases h2:f y a
   .rw[J' h2];exact F' _ q'
   rw[L' h2];exact q'
  exact F' _ (F' _ h)
def NY{f:Dyadic->Dyadic->Bool}{l:List Dyadic}(h:l≠[]):wg f l∈l:=by
 cases l with
 |nil=>exact absurd rfl h
 |cons a r=>exact OE f r a
def val_neg(ds:List Nat)(Y ts:List Dyadic):rq ds (Y.map λy=> -y) ts= -rq ds Y ts:=by
 have h:∀p:Nat,((Y.map λy=> -y)[p]?).getD 0= -1*(Y[p]?).getD 0:=λp=>by
  rw[V_]
  cases Y[p]? with
  |none=>show(0:Dyadic)= -1*0;grind
  |some y=>show -y= -1*y;grind
 have h1:rq ds (Y.map λy=> -y) ts= -1*rq ds Y ts:=(by unfold rq;rw[<-Qk];refine J_ _ (funext λp=> ?_);rw[h];grind);rw[h1];grind
def abE{Y ts:List Dyadic}(ht:∀t∈ts,0<=t/\t<1)(h:∀p,p<la ds->(Y[p]?).getD 0<0):rq ds Y ts<0:=by
 have h1:=fU (ds:=ds) (Y:=Y.map λy=> -y) ht λp hp=>by
  have h2:=h p hp;rw[V_]
  cases hy:Y[p]? with
  |none=>rw[hy] at h2;exact absurd h2 (show ¬(0:Dyadic)<0 by grind)
  |some y=>rw[hy] at h2;show 0< -y;replace h2:y<0:=h2;grind
 rw[val_neg] at h1;grind
def ED(f:FX)(k:Nat)(w:World)(hT:Xc w)(hf:f.at_ w)(hl:f.fh k)(he:f.e=0):Calls prog 138 #[.agg #[.slice f.A f.n f.a,.slice f.B f.m f.b]] w λr w'=>r=.returned (.bool (decide (Tj f.cs≠0)))/\Below w.heap.size w w':=by
 have hh:=Hp.start w;have hs:=λw1 hT1 (hb:Below w.heap.size w w1)=>uu f k w1 hT1 (hf.ext hb) hl he;generalize Tj f.cs=g at*;by_cases h:g=0
 .subst h;refine da (N:=12) (l:=[.agg #[.slice f.A f.n f.a,.slice f.B f.m f.b]]) func138 rfl rfl (by simp) ?_;refine Lb ?_;intro b1 w1 hh;refine Oa hh (hs _ (hT.hp hh) hh.below) rfl ?_;intro w7 hh;refine fa ?_;exact⟨by rw[O_ (λx=>x rfl)],hh.below⟩
 refine da (N:=12) (l:=[.agg #[.slice f.A f.n f.a,.slice f.B f.m f.b]]) func138 rfl rfl (by simp) ?_;refine Lb ?_;intro b1 w1 hh;refine Oa hh (hs _ (hT.hp hh) hh.below) rfl ?_;intro w7 hh;exact jV
def qG(A:Option Addr)(n c:Nat)(fs:List FX)(k:Nat)(w:World)(hT:Xc w)(hL:Sl w A n 2 (na FX.cells fs))(hn:n<=1000000)(hf:∀f∈fs,f.at_ w)(hl:∀f∈fs,f.fh k)(he:∀f∈fs,f.e=0):Calls prog 73 #[.slice A n c] w λr w'=>r=.returned (.bool (fs.any λf=>decide (Tj f.cs≠0)))/\Below w.heap.size w w':=by
 have hh:=Hp.start w;refine da (N:=5) (l:=[.slice A n c]) func73 rfl rfl (by simp) ?_;refine fa ?_;refine Oa hh (Cx A n c fs _ [] (λf=>decide (Tj f.cs≠0)) _ (hL.ext hh.below) hn λz w1 hz hb=>ED z k w1 ((hT.hp hh).ext hb) ((hf z hz).ext (hh.below.trans (hb.mono hh.below.size))) (hl z hz) (he z hz)) rfl ?_;intro w4 hh;refine fa ?_;exact⟨rfl,hh.below⟩
structure aaY(k:Nat)(ns:List Nat)(X:List Dyadic)(f:FX):Prop where
 is:f.is ns X
 d12:ns.length<=12
 d127:∀d∈ns,d<=127
 lx:X.length=la ns
 AN:la ns<=4096
 zx:∀x∈X,Sz k x
def oO{ns:List Nat}{X:List Dyadic}{f:FX}{p:Int}(h:aaY k ns X f)(hk:1600<=k)(hk2:k<=250000)(hp1: -1000<=p)(hp2:p<=1000):(Dx X ns p).fin 1002014:=by
 have hpk:=xE h.d12 h.d127 h.zx hk hk2;unfold Dx
 cases hps:qh X ns with
 |nil=>
  exfalso;have h1:(qh X ns).length=0:=by rw[hps];rfl
  have h2:=Ec ns;have h3:=h.lx;unfold qh cz at h1;rw[p7,Z_,Dv] at h1;omega
 |cons a l=>
  rw[hps] at hpk;obtain⟨h1,_⟩:=hpk _ (Oo (-1) a l);obtain⟨h2,_⟩:=hpk _ (Oo 1 a l);exact⟨tm.of ((oI p h1.zn h1.zw hp1 hp2).mono Z') U',tm.of ((oI p h2.zn.neg h2.zw hp1 hp2).neg.mono Z') U'⟩
def MU(p:Int)(o:Dyadic)(d:List Nat×List Dyadic):Dyadic:=wg (λx y=>decide (y<x)) [o,Oj (Dx d.2 d.1 p).lo.ma,Oj (Dx d.2 d.1 p).hi.ma]
def yi(p:Int)(ds:List (List Nat×List Dyadic)):Dyadic:=ds.foldl (MU p) 0
def kJ(A:Option Addr)(n c:Nat)(fs:List FX)(ds:List (List Nat×List Dyadic))(p:Int)(k:Nat)(w:World)(hT:Xc w)(hL:Sl w A n 2 (na FX.cells fs))(hn:n<=1000000)(hf:∀f∈fs,f.at_ w)(hl:ds.length=n)(hg:∀(i:Nat)(f:FX)(d:List Nat×List Dyadic),fs[i]?=some f->ds[i]?=some d->aaY k d.1 d.2 f)(hk:1600<=k)(hk2:k<=250000)(hp1: -1000<=p)(hp2:p<=1000):Calls prog 75 #[.slice A n c,.int .i64 p] w λr w'=>r=.returned (.tuple #[.agg (NR.cells (nR (yi p ds))).toArray,.int .i64 0])/\Below w.heap.size w w':=by
 have hh:=Hp.start w;have hln:fs.length=n:=hL.Fa FX.len U';refine da (N:=39) (l:=[.slice A n c,.int .i64 p]) func75 rfl rfl (by simp) ?_;refine Dm ?_;intro b4 w4 hh b6 w6 hh ws hh;refine Ba [5,8,9,10,14,15,16,17,18,19,20,21,22,23,24,25,26,27,28,29,30,31,32,33,34,35,36,37] 14 (λv w'=>∃i:Nat,i<=n/\v=.int .i64 i/\Sz 1002014 (yi p (ds.take i))/\Hp w [.blk b6 30 (NR.cells (nR (yi p (ds.take i)))) (0,0),.blk b4 30 [.bool false,.string (ByteArray.mk #[]),.int .i64 0] (0,0)] w') (λv _=>n-(intOf v).toNat) ?_ ?_
 .exact⟨0,D' _,rfl,Sz.zero _,hh⟩
 clear hh;rintro ρ' v w' ⟨i,hi,rfl,zo,hh⟩;by_cases hlt:i<n
 .obtain⟨f,hx⟩:=ea (l:=fs) (k:=i) Z';obtain⟨d,hd⟩:=ea (l:=ds) (k:=i) Z';have g:=hg i f d hx hd;obtain⟨ad,rfl,hr⟩:=hL.at_ Z';have hsp:=λw1 hT1 hb=>UF f d.1 d.2 p k w1 hT1 ((hf f (G' hx)).ext hb) g.is g.d12 g.d127 g.lx g.AN g.zx hk hk2 hp1 hp2;have hfin:=oO g hk hk2 hp1 hp2;have hst:yi p (ds.take (i+1))=MU p (yi p (ds.take i)) d:=by unfold yi;rw[oa hd,Y7];rfl
  unfold MU at hst;generalize Dx d.2 d.1 p=s at*;generalize yi p (ds.take i)=o at*;have h1:=hfin.1;have h2:=hfin.2;have ha1:=λw1 hT1=>Lw s.lo w1 hT1 (by have:=h1.ok.1;omega) (by have:=h1.ok.2.1;omega) (by have:=h1.ok.2.2;omega);have ha2:=λw1 hT1=>Lw s.hi w1 hT1 (by have:=h2.ok.1;omega) (by have:=h2.ok.2.1;omega) (by have:=h2.ok.2.2;omega);rw[show(if s.lo.ma<0 then -s.lo.ma else s.lo.ma)=Oj s.lo.ma from rfl] at ha1;rw[show(if s.hi.ma<0 then -s.hi.ma else s.hi.ma)=Oj s.hi.ma from rfl] at ha2;have z1:=Sz.Oj h1.sz;have z2:=Sz.Oj h2.sz;have hmx:=λA c w1 hT1 hS1=>ux A 3 c [nR o,nR (Oj s.lo.ma),nR (Oj s.hi.ma)] w1 hT1 hS1 (by simpa using⟨zo.ok U',z1.ok U',z2.ok U'⟩) U';rw[show([nR o,nR (Oj s.lo.ma),nR (Oj s.hi.ma)].map NR.ma)=[o,Oj s.lo.ma,Oj s.hi.ma] by simp[db]] at hmx;have zm:Sz 1002014 (wg (λx y=>decide (y<x)) [o,Oj s.lo.ma,Oj s.hi.ma]):=by
   have:=NY (f:=λx y=>decide (y<x)) (l:=[o,Oj s.lo.ma,Oj s.hi.ma]) (by simp);obtain h|h:=T_.1 this
   .rw[h];exact zo
   obtain h|h:=T_.1 h
   .rw[h];exact z1
   rw[S_.1 h];exact z2
  generalize Oj s.lo.ma=x at*;generalize Oj s.hi.ma=y at*;refine fa ?_;refine Vx ?_;refine Tb ?_;intro b8 w8 hh ws hh;refine Oa hh (hsp _ (hT.hp hh) hh.below) rfl ?_;intro w21 hh;replace hh:Hp _ (_::.blk _ _ [_,_,_] _::_) _:=hh;refine Tb ?_;intro b9 w9 hh ws hh;refine Ca 7 [[(6,none)],[(9,none)],[(29,some 1)],[(30,some 2)],[(9,none)],[(32,some 4)],[(33,some 5)]] [(6,34),(5,33),(4,32),(3,31),(2,30),(1,29),(0,28)] hh mixed T' ?_;refine Yd 2 [_,_,_] ?_;refine Bd ?_;refine Yd 0 [_,_,_] ?_;refine dC (λ_ hj=>ha1 _ (hT.hp hj.hp)) ?_;refine Bd ?_;refine Yd 0 [_,_,_] ?_;refine dC (λ_ hj=>ha2 _ (hT.hp hj.hp)) ?_;refine xa ?_;intro f W hJ hV;have hb_8:=hJ.bl;obtain⟨v34,v33,v32,v31,v30,v29,v28,_⟩:=hV;replace hh:=hJ.hp;refine Ea (Na (aa v34 (aa v33 (aa v32 (aa v31 (aa v30 (aa v29 (aa v28 Da)))))))) ?_;dsimp only[Cb];clear hJ;refine Bc hh (cs:=[_,_,_,_,_,_,_,_,_]) mb.out ya.out (Sb (Qd rfl) (Sb (Qd rfl) (Sb (Qd rfl) oe))) rfl rfl U' U' U' rfl U' ?_;intro b35 w35 hh;refine Oa hh (hmx _ _ _ (hT.hp hh) (hh.ra (i:=0) rfl)) rfl ?_;intro w36 hh;refine Lb ?_;intro ws hh
  replace hh:=hh.sub (p' _ (p' _ (p' _ (I' _ (I' _ I_)))));refine⟨⟨i+1,Z',rfl,by rw[hst];exact zm,by rw[hst];exact hh⟩,by show n-(i+1)<n-i;omega, ?_⟩;exact Sc
 obtain rfl:n=i:=Z';rw[W_ Z'] at hh;refine Lb ?_;intro ws hh;refine SQ (td rfl (ud (vs:=[_,_,_]) ya.out (hh.qb (i:=1) (n:=3) rfl rfl) rfl) (mh (ej rfl) De)) ?_;exact⟨rfl,hh.below⟩
variable {ps:List PX}
def Ks(ps:List PX)(b:List SR):Int:=match ps.find? (λp=>decide (pg p b []≠0)) with
 |some p=>pg p b []
 |none=>if ps.length=0\/ps.length≠b.length\/8<ps.length then 1 else 0
def UY{b:List SR}{i:Nat}{p:PX}(h:∀q∈ps.take i,pg q b []=0)(hp:ps[i]?=some p)(h0:pg p b []≠0):Ks ps b=pg p b []:=by
 have:ps.find? (λp=>decide (pg p b []≠0))=some p:=(by have hi:=(X_.1 hp).1;rw[<-P9 i ps,List.find?_append,Q7.2 λx hx=>by simpa using h x hx,Ie hp,M5 (by simpa using h0)];rfl);unfold Ks;rw[this]
def gL{b:List SR}(h:∀q∈ps,pg q b []=0):Ks ps b=if ps.length=0\/ps.length≠b.length\/8<ps.length then 1 else 0:=by
 have:ps.find? (λp=>decide (pg p b []≠0))=none:=Q7.2 λx hx=>by simpa using h x hx
 unfold Ks;rw[this]
structure SqP(k:Nat)(p:PX)(b:List SR)(w:World):Prop where
 at_:p.at_ w
 fh:p.fh k
 gr:um p b (gm p [])=0->Te (k+k+16394) (Cc p.v p.ts) (k+1)<=440000
def Yq(L:Option Addr)(n c:Nat)(ps:List PX)(B:Option Addr)(m cb:Nat)(b:List SR)(k:Nat)(w:World)(hT:Xc w)(hL:Sl w L n 2 (na PX.cells ps))(hn:n<=1000)(hp:∀p∈ps,SqP k p b w)(hB:Sl w B m 6 (na SR.cells b))(hb:∀s∈b,s.fin k)(hm:m<=1000000)(hk:k<=1000):Calls prog 71 #[.slice L n c,.slice B m cb] w λr w'=>(Ks ps b≠0/\r=.returned (.tuple #[.slice none 0 0,.int .i64 (Ks ps b)])/\Below w.heap.size w w')\/(Ks ps b=0/\∃(A:Option Addr)(a:Nat)(fs:List FX)(R:List HE),r=.returned (.tuple #[.slice A n a,.int .i64 0])/\fs.length=n/\(∀(i:Nat)(p:PX)(f:FX),ps[i]?=some p->fs[i]?=some f->f.is (Cc p.v p.ts) (Wo (Cc p.v p.ts) (Ad p (lb b)).2))/\(∀f∈fs,f.ug∈R/\f.cg∈R)/\Hp w (.row A n a 78 2 (na FX.cells fs)::R) w'):=by
 have hh:=Hp.start w;have hln:ps.length=n:=hL.Fa PX.len U';have hbl:b.length=m:=hB.Fa SR.len U';refine da (N:=47) (l:=[.slice L n c,.slice B m cb]) func71 rfl rfl (by simp) ?_;refine fa ?_;replace hh:=hh.Nb 78 2;refine Ra [4,5,6,8,9,10,13,14,15,16,17,18,19,20,21,22,23,24,25,26,27,28,29,30] 6 13 (λv6 v w'=>∃(i c6:Nat)(A:Option Addr)(fs:List FX)(R:List HE),i<=n/\v=.int .i64 i/\v6=.slice A i c6/\fs.length=i/\(∀q∈ps.take i,pg q b []=0)/\(∀(j:Nat)(p:PX)(f:FX),ps[j]?=some p->fs[j]?=some f->f.is (Cc p.v p.ts) (Wo (Cc p.v p.ts) (Ad p (lb b)).2))/\(∀f∈fs,f.ug∈R/\f.cg∈R)/\Hp w (.row A i c6 78 2 (na FX.cells fs)::R) w') (λ_ v _=>n-(intOf v).toNat) ?_ ?_
 .exact⟨0,0,none,[],[],D' _,rfl,rfl,rfl,λq h=>absurd h O9,λj p f _ h=>by simp at h,λf h=>absurd h O9,hh⟩
 clear hh;rintro ρ' v6 v w' ⟨i,c6,A,fs,R,hi,rfl,rfl,hfl,hok,hfs,hR,hh⟩;by_cases hlt:i<n
 .obtain⟨p,hx⟩:=ea (l:=ps) (k:=i) Z';obtain⟨p1,p2,p3⟩:=hp p (G' hx);obtain⟨ad,rfl,hr⟩:=hL.at_ Z';have hof:=λw1 hT1 hb1=>jP p B m cb b none 0 0 [] k w1 hT1 (p1.ext hb1) p2 (hB.ext hb1) hb hm (Sl.nil _ _ _) U' (j' _) hk p3;replace hof:∀w1,Xc w1->Below w.heap.size w w1->Calls prog 94 #[.agg #[.int .i64 p.v,.slice p.A p.n p.c],.slice B m cb,.slice none 0 0] w1 λr w'=>∃g:FX,Out (pg p b []) (Cc p.v p.ts) (Wo (Cc p.v p.ts) (Ad p (lb b)).2) g/\r=.returned (.tuple #[.agg #[.slice g.A g.n g.a,.slice g.B g.m g.b],.int .i64 (pg p b [])])/\Hp w1 [g.ug,g.cg] w':=hof;have hbad:=λh=>UY hok hx h;have hX:∀f:FX,Out 0 (Cc p.v p.ts) (Wo (Cc p.v p.ts) (Ad p (lb b)).2) f->f.is (Cc p.v p.ts) (Wo (Cc p.v p.ts) (Ad p (lb b)).2):=λf o=>⟨o.ds,o.cs⟩;generalize hX2:Wo (Cc p.v p.ts) (Ad p (lb b)).2=X at hof hX;generalize hE:pg p b []=E at*;refine fa ?_;refine eF ?_;refine Tb ?_;intro b8 w8 hh ws hh;refine qa (hof _ (hT.hp hh) hh.below) ja.out rfl U' ?_;rintro e_ w20 ⟨g,o1,rfl,h3⟩;refine⟨_,rfl, ?_⟩;replace hh:=hh.join h3;simp only[C',E'] at hh;clear h3
  by_cases hE0:E=0
  .subst hE0;refine Tb ?_;intro b9 w9 hh ws hh;refine Zj ?_;intro b28 w28 hh;refine gN ?_;intro A29 c29 w29 hh;simp only[U_,G_] at hh;replace hh:=hh.sub (s_ _ _);refine fa ?_;replace hh:=hh.perm (P_ (l₁:=[_,_]));simp only[C',E'] at hh;replace hh:=hh.perm (P_ (l₁:=[_,_]));simp only[C',E'] at hh;replace hh:=hh.perm (P_ (l₁:=[_,_,_,_]));simp only[C',E'] at hh;replace hh:=hh.sub (I' _ (I' _ (I' _ (p' _ (p' _ (A_ _))))));refine⟨⟨i+1,c29,A29,fs++[g],g.ug::g.cg::R,Z',rfl,rfl,by rw[Y_,hfl];rfl,λq hq=> ?_,λj p2 f h1 h2=> ?_,λf hf=> ?_,by rw[Ma];exact hh⟩,by show n-(i+1)<n-i;omega, ?_⟩
   .rw[oa hx] at hq;obtain hq|hq:=z_.1 hq
    .exact hok q hq
    rw[S_.1 hq];exact hE
   .by_cases hj:j<i
    .rw[X8 Z'] at h2;exact hfs j p2 f h1 h2
    have hj2:=(X_.1 h2).1;rw[Y_,hfl] at hj2;obtain rfl:j=i:=by have:j<i+1:=hj2;omega
    rw[H9 Z',hfl,d_] at h2;obtain rfl:g=f:=L_ h2;rw[hx] at h1;obtain rfl:=L_ h1;rw[hX2];exact hX _ o1
   .exact aeZ
   exact Sc
  refine Tb ?_;intro b9 w9 hh ws hh;exact .inl ⟨by rw[hbad hE0];exact hE0,by rw[hbad hE0],hh.below⟩
 obtain rfl:n=i:=Z';rw[W_ Z'] at hok;have hend:=gL hok;by_cases h0:n=0
 .subst h0;rw[J' (.inl hln)] at hend;exact sQ
 by_cases h1:n=m
 .by_cases h8:8<n
  .rw[J' (.inr (.inr Z'))] at hend;exact sQ
  rw[L' Z'] at hend;refine fa ?_;exact .inr ⟨hend,A,c6,fs,R,rfl,hfl,hfs,hR,hh⟩
 rw[J' (.inr (.inl Z'))] at hend;exact sQ
abbrev FD:=List Nat×List Dyadic
structure Zx(k:Nat)(d:FD):Prop where
 d12:d.1.length<=12
 d127:∀x∈d.1,x<=127
 lx:d.2.length=la d.1
 AN:la d.1<=200
 zx:∀x∈d.2,Sz k x
def pf(ds:List FD)(l:List NR):List FX:=List.zipWith (λd c=>TP d.1 (d.2.map λx=>x*c.ma)) ds l
def CH(A:Option Addr)(n c:Nat)(fs:List FX)(ds:List FD)(X:Option Addr)(cx:Nat)(l:List NR)(k q:Nat)(w:World)(hT:Xc w)(hL:Sl w A n 2 (na FX.cells fs))(hn:n<=1000)(hf:∀f∈fs,f.at_ w)(hd:ds.length=n)(hg:∀(i:Nat)(f:FX)(d:FD),fs[i]?=some f->ds[i]?=some d->f.is d.1 d.2)(hz:∀d∈ds,Zx k d)(hX:Sl w X n 3 (na NR.cells l))(hl:∀a∈l,a.ok/\Sz q a.ma)(hk:k+q<=90000):Calls prog 145 #[.slice A n c,.slice X n cx] w λr w'=>∃g:FX,Out (Mb (pf ds l)) (maxD (pf ds l)) (FT ((pf ds l).map (Oi (maxD (pf ds l))))) g/\r=.returned (.tuple #[.agg #[.slice g.A g.n g.a,.slice g.B g.m g.b],.int .i64 (Mb (pf ds l))])/\Hp w [g.ug,g.cg] w':=by
 have hh:=Hp.start w;have hln:fs.length=n:=hL.Fa FX.len U';have hxl:l.length=n:=hX.Fa NR.len U';have hml:(pf ds l).length=n:=by unfold pf;rw[p7];omega
 refine da (N:=36) (l:=[.slice A n c,.slice X n cx]) func145 rfl rfl (by simp) ?_;refine Lb ?_;intro b4 w4 hh;replace hh:=hh.Nb 78 2;refine Ra [6,7,8,9,10,13,14,15,16,17,18,19,20,21,22,23,24,25,26,27,28,29,30,31] 6 13 (λv6 v w'=>∃(i c6:Nat)(B:Option Addr)(gs:List FX)(R:List HE),i<=n/\v=.int .i64 i/\v6=.slice B i c6/\gs.map FX.key=((pf ds l).take i).map FX.key/\(∀g∈gs,(g.ug∈R/\g.cg∈R)/\g.fh 90000/\g.m<=200)/\Hp w (.row B i c6 78 2 (na FX.cells gs)::.blk b4 78 [.slice none 0 0,.slice none 0 0] (0,0)::R) w') (λ_ v _=>n-(intOf v).toNat) ?_ ?_
 .exact abA
 clear hh;rintro ρ' v6 v w' ⟨i,c6,B,gs,R,hi,rfl,rfl,hgk,hgR,hh⟩;by_cases hlt:i<n
 .obtain⟨f,hx⟩:=ea (l:=fs) (k:=i) Z';obtain⟨d,hdi⟩:=ea (l:=ds) (k:=i) Z';obtain⟨a,ha⟩:=ea (l:=l) (k:=i) Z';obtain⟨ad,rfl,hr⟩:=hL.at_ Z';obtain⟨ax,rfl,hcr⟩:=hX.at_ Z';have hfa:=hf f (G' hx);have hfi:=hg i f d hx hdi;obtain⟨a1,a2⟩:=hl a (G' ha);obtain⟨z1,z2,z3,z4,z5⟩:=hz d (G' hdi);have hsc:=λw1 hT1 hb1=>xT f a 90000 w1 hT1 (hfa.ext hb1) (hfi.fh hfa z1 z3 Z' (λx hx=>(z5 x hx).mono Z') U') a1 (a2.mono Z') U';rw[hfi.e z1 z2 z3 Z',show f.ns=d.1 by unfold FX.ns;rw[hfi.ds];exact Jh _,show(f.cs.map λx=>x.ma*a.ma)=d.2.map λx=>x*a.ma by rw[hfi.cs,Y9];exact m8 λx _=>by show(nR x).ma*a.ma=_;rw[db]] at hsc;have hmi:(pf ds l)[i]?=some (TP d.1 (d.2.map λx=>x*a.ma)):=by unfold pf;rw[J8,hdi,ha]
  have hlx:(d.2.map λx=>x*a.ma).length=la d.1:=by rw[Z_];exact z3
  have hzx:∀x∈(d.2.map λx=>x*a.ma),Sz 90000 x:=λx hx=>(by obtain⟨y,hy,rfl⟩:=i'.1 hx;exact((z5 y hy).mul a2).mono hk);generalize (d.2.map λx=>x*a.ma)=Y at*;refine fa ?_;refine Vx ?_;refine Tb ?_;intro b8 w8 hh ws hh;refine Cd [9] [8] [0,0,0,6,14,31,63,127,127,0,767,2047] 10 [[(8,none)],[(1,none)],[(7,none)],[(20,some 1),(21,some 2)],[(22,some 3)],[(19,some 0),(23,some 4)],[(24,some 5)],[(18,some 6)],[(18,some 6)],[]] [(9,9),(8,26),(7,25),(6,18),(5,24),(4,23),(3,22),(2,21),(1,20),(0,19)] hh mixed T' (Li rfl ya.out Od) rfl (by repeat (first|exact Eb|refine Ya ?_|refine Db ?_)) ?_;refine Yd 0 [_,_] ?_;refine Ee ?_;refine jd ?_;refine lj (i) ?_;refine Zm [_,_,_] (λ_ hj=>(hcr.ext hj.hp.below).recAt NR.len ha) ?_;refine Va (i:=5) (IH hh.sz 0 d.1 Y) (IH.ext) ?_ ?_
  .intro ρ1 w1 hj hR;exact Qb rfl (pb ja.out (Ga (show ρ1 19=Value.agg (List.toArray _) from hR.1) (Ga (show ρ1 23=Value.agg (List.toArray _) from hR.2.1) Gb))) (hsc _ (hT.hp hj.hp) hj.hp.below) (λ_ _ ⟨g,q1,q2,q3⟩=>⟨_,q2,q3.below,g,_,rfl,q1,hj.bl.size,q3⟩)
  refine Va (i:=6) (IH hh.sz 0 d.1 Y) (IH.ext) ?_ ?_
  .exact LR
  refine Va (i:=7) (tF hh.sz 0 d.1 Y) (tF.ext) ?_ ?_
  .exact KU
  refine Va (i:=8) (Is (.int .i64 0)) (Is.ext) ?_ ?_
  .exact eW
  refine Va (i:=9) (Ic _ 78 _) Ic.ext (λρ1 w1 hj hR=>Si ya.out hj.bl (λv w2 h hb=>⟨hb,h⟩)) ?_;refine xa ?_;intro f W hJ hV _;have hb_5:=hJ.bl;obtain⟨v9,v26,v25,v18,v24,v23,v22,v21,v20,v19,_⟩:=hV;obtain⟨g24,u24,e24, -⟩:=v24;obtain⟨g18,u18,e18, -⟩:=v18;obtain⟨g25,u25,e25,o25,q25,h25⟩:=v25;obtain⟨b9,e9,hl9,hc9⟩:Ic _ _ _ (f 9) W:=v9;replace hh:=hJ.Zk hh hl9 hc9 q25 h25 (FX.ne h25 hc9 U' U');refine Ea (Na (aa e9 (aa v26 (aa e25 (aa e18 (aa e24 (aa v23 (aa v22 (aa v21 (aa v20 (aa v19 Da))))))))))) ?_;dsimp only[Cb];clear e24 e18 e25 e9 hJ;refine Lb ?_;intro ws hh;refine Zj ?_;intro b29 w29 hh;refine gN ?_;intro A30 c30 w30 hh;simp only[U_,G_] at hh;replace hh:=hh.sub (s_ _ _);refine fa ?_;replace hh:=hh.perm (P_ (l₁:=[_,_,_,_,_]));simp only[C',E'] at hh;replace hh:=hh.perm (P_ (l₁:=[_,_,_,_,_]));simp only[C',E'] at hh
  replace hh:=hh.sub (I' _ (I' _ (p' _ (I' _ (I' _ (p' _ (A_ _)))))));have g1:g25.is d.1 Y:=⟨o25.ds,o25.cs⟩;have g2:=hh.Cj (f:=g25) (G' (i:=2) rfl) (G' (i:=3) rfl);refine⟨⟨i+1,c30,A30,gs++[g25],g25.ug::g25.cg::R,Z',rfl,rfl,by rw[q_,hgk,oa hmi,q_,G7,G7,g1.agt g2],λy hy=> ?_,by rw[Ma];exact hh⟩,by show n-(i+1)<n-i;omega, ?_⟩
  .obtain hy|hy:=z_.1 hy
   .obtain⟨⟨h1,h2⟩,h3⟩:=hgR y hy;exact⟨⟨F' _ (F' _ h1),F' _ (F' _ h2)⟩,h3⟩
   obtain rfl:=S_.1 hy;exact⟨⟨q',F' _ q'⟩,g1.fh g2 z1 hlx Z' hzx U',by rw[(g1.key g2).2];omega⟩
  exact Sc
 obtain rfl:n=i:=Z';rw[W_ Z'] at hgk;obtain⟨_,k2,k3,k4⟩:=AR hgk;rw[<-k2,<-k3,<-k4];refine fa ?_;refine qa (acM B n c6 gs 90000 _ (hT.hp hh) (hh.ra (i:=0) rfl) hn (λg hg=>hh.Cj (F' _ (F' _ (hgR g hg).1.1)) (F' _ (F' _ (hgR g hg).1.2))) (λg hg=>(hgR g hg).2.1) (λg hg=>(hgR g hg).2.2) U') ja.out rfl U' ?_;rintro e_ w33 ⟨g,og,rfl,h3⟩;refine⟨_,rfl, ?_⟩;replace hh:=hh.join h3;clear h3;simp only[C',E'] at hh;refine Lb ?_;intro ws hh;refine NL ?_;exact⟨g,og,rfl,hh.sub (I' _ (I' _ (R9 _)))⟩
def cq(b:List SR):List NR:=b.mapIdx λ_ s=>nR s.f.Ch
def Lm(ps:List PX)(b:List SR):List (List NR):=ps.map (Hk (cq b))
variable {rs:List (List NR)}
def wu(ds:List FD)(rs:List (List NR)):Int:=match rs.find? (λr=>decide (Mb (pf ds r)≠0)) with
 |some r=>Mb (pf ds r)
 |none=>0
def PX.fh.adD{g:PX}(h:g.fh k)(hk:k<=j):g.fh j:=⟨h.n,h.cap,h.ok.mono hk,h.sz⟩
def Am.mono{v:Int}{D:Nat}(h:Am v k n D ts)(hk:k<=j):Am v j n D ts:=⟨h.e,h.ok.mono hk,h.sz,h.len,h.ex⟩
def OP{ds:List FD}{i:Nat}{r:List NR}(h:∀q∈rs.take i,Mb (pf ds q)=0)(hr:rs[i]?=some r)(h0:Mb (pf ds r)≠0):wu ds rs=Mb (pf ds r):=by
 have:rs.find? (λr=>decide (Mb (pf ds r)≠0))=some r:=(by rw[<-P9 i rs,List.find?_append,Q7.2 λx hx=>by simpa using h x hx,Ie hr,M5 (by simpa using h0)];rfl);unfold wu;rw[this]
def MO{ds:List FD}(h:∀q∈rs,Mb (pf ds q)=0):wu ds rs=0:=by
 have:rs.find? (λr=>decide (Mb (pf ds r)≠0))=none:=Q7.2 λx hx=>by simpa using h x hx
 unfold wu;rw[this]
def ar(ps:List PX)(b:List SR)(ds:List FD):Int:=if Km (Lm ps b)=0 then 4 else wu ds (Ux (Lm ps b) ps.length)
def Gy(ds:List FD)(r:List NR):FD:=(maxD (pf ds r),FT ((pf ds r).map (Oi (maxD (pf ds r)))))
def ur(ps:List PX)(b:List SR)(ds:List FD):List FD:=(Ux (Lm ps b) ps.length).map (Gy ds)
def iD(L:Option Addr)(n c:Nat)(ps:List PX)(B:Option Addr)(cb:Nat)(b:List SR)(A:Option Addr)(ca:Nat)(fs:List FX)(ds:List FD)(k q kp D:Nat)(w:World)(hT:Xc w)(hL:Sl w L n 2 (na PX.cells ps))(hn:n<=3)(hp:∀p∈ps,p.at_ w/\p.fh kp/\p.v=n/\Am p.v kp 100 D p.ts)(hB:Sl w B n 6 (na SR.cells b))(hb:∀s∈b,s.fin kp)(hkp:kp<=500)(hA:Sl w A n 2 (na FX.cells fs))(hf:∀f∈fs,f.at_ w)(hd:ds.length=n)(hg:∀(i:Nat)(f:FX)(d:FD),fs[i]?=some f->ds[i]?=some d->f.is d.1 d.2)(hz:∀d∈ds,Zx k d)(hs:∀l∈Lm ps b,∀a∈l,a.ok/\Sz q a.ma)(hk:k+(16*q+32)<=90000):Calls prog 76 #[.slice L n c,.slice B n cb,.slice A n ca] w λr w'=>(ar ps b ds≠0/\r=.returned (.tuple #[.slice none 0 0,.int .i64 (ar ps b ds)])/\Below w.heap.size w w')\/(ar ps b ds=0/\∃(C:Option Addr)(cc:Nat)(gs:List FX)(R:List HE),r=.returned (.tuple #[.slice C n cc,.int .i64 0])/\gs.length=n/\(∀(i:Nat)(g:FX)(d:FD),gs[i]?=some g->(ur ps b ds)[i]?=some d->g.is d.1 d.2)/\(∀g∈gs,g.ug∈R/\g.cg∈R)/\Hp w (.row C n cc 78 2 (na FX.cells gs)::R) w'):=by
 have hh:=Hp.start w;have hln:ps.length=n:=hL.Fa PX.len U';have hbl:b.length=n:=hB.Fa SR.len U';have hyl:(cq b).length=n:=by unfold cq;rw[M7];exact hbl
 have hyz:∀y∈cq b,y.ok/\Sz (kp+2) y.ma:=λy hy=>(by unfold cq at hy;obtain⟨i,hi,rfl⟩:=List.mem_mapIdx.1 hy;have h1:=SR.gp (hb _ (List.getElem_mem hi)) Z';have h2:=Sz.Ch h1.1.sz h1.2.sz;exact⟨h2.ok Z',by rw[db];exact h2⟩);have hmd:=λw1 hT1 hb1=>OH B n cb b kp w1 hT1 (hB.ext hb1) hb Z' Z';rw[show(b.mapIdx λ_ s=>nR s.f.Ch)=cq b from rfl] at hmd;refine da (N:=56) (l:=[.slice L n c,.slice B n cb,.slice A n ca]) func76 rfl rfl (by simp) ?_;refine fa ?_;refine qa (hmd _ (hT.hp hh) hh.below) ja.out rfl U' ?_;rintro e_ w20 ⟨A20,c20,rfl,hown_,hb_⟩;refine⟨_,rfl, ?_⟩;replace hh:=hh.Aa (x:=.row _ _ _ _ _ _) hb_ hown_;have hm20:=hh.ra (i:=0) rfl;refine qa (LC L n c ps _ n _ (cq b) (kp+2) D _ (hT.hp hh) (hL.ext hh.below) Z' (λp h=>⟨(hp p h).1.ext hh.below,(hp p h).2.1.adD Z',(hp p h).2.2.1,(hp p h).2.2.2.mono Z'⟩) hm20 Z' hyz Z') ja.out rfl U' ?_;rintro e_ w21 ⟨E,ce,zs,R1,rfl,hzm,hzR,h3⟩;refine⟨_,rfl, ?_⟩;replace hzm:zs.map LX.l=Lm ps b:=hzm;replace hh:=hh.join h3;clear h3 hm20;simp only[C',E'] at hh;have hTK:∀(w1:World)(H1:List HE),Hp w H1 w1->(∀e∈R1,e∈H1)->TE q zs w1:=λw1 H1 h1 hm=>⟨λx hx1=>lf (h1.own _ (hm _ (hzR x hx1).2)),λx hx1=>by rw[(hzR x hx1).1];omega,λx hx1 a ha=>hs x.l (by rw[<-hzm];exact k6 hx1) a ha⟩
 have hdt:=λw1 hT1 hS1 hk1=>Wz E n ce q zs w1 hT1 hS1 hk1 Z' (λx hx1=>(hzR x hx1).1) Z';have had:=λw1 hT1 hS1 hk1=>SN E n ce q zs w1 hT1 hS1 hk1 Z' (λx hx1=>(hzR x hx1).1) Z';rw[hzm] at hdt had;unfold ar ur;rw[hln];have hsg:=λw1=>Qc (nR (Km (Lm ps b))) w1;have haz:∀l∈Ux (Lm ps b) n,∀a∈l,a.ok/\Sz (16*q+32) a.ma:=λl hl a ha=>(by unfold Ux mO at hl;obtain⟨i,hi,rfl⟩:=i'.1 hl;obtain⟨j,hj,rfl⟩:=i'.1 ha;have h1:=(VJ (L:=Lm ps b) (n:=n) (K:=q) (i:=i) (k:=j) (by unfold Lm;rw[Z_];exact hln) hn (λl hl=>by unfold Lm Hk at hl;obtain⟨p,hp,rfl⟩:=i'.1 hl;rw[Z_,q9];exact hyl) (λl hl a ha=>(hs l hl a ha).2) (h_.1 hi) (h_.1 hj)).2;exact⟨h1.ok Z',by rw[db];exact h1⟩);have hal:(Ux (Lm ps b) n).length=n:=by unfold Ux;rw[Z_,q9]
 generalize Km (Lm ps b)=d0 at*;generalize Ux (Lm ps b) n=AJ at*;refine fa ?_;refine Oa hh (hdt _ (hT.hp hh) (hh.ra (i:=0) rfl) (hTK _ _ hh λe h=>F' _ (z9 _ h))) rfl ?_;intro w24 hh;by_cases h0:d0=0
 .subst h0;rw[J' rfl];rw[show(nR 0).i.sign=0 from rfl] at hsg;refine Tb ?_;intro b9 w9 hh ws hh;refine Oa hh (hsg _) rfl ?_;intro w28 hh;refine fa ?_;exact .inl ⟨U',rfl,hh.below⟩
 rw[L' h0];have hsn:(nR d0).i.sign≠0:=λh=>h0 (by
  rw[W5] at h;rw[<-aeu d0,h,ai])
 have hsb:=Yj (nR d0).i;generalize (nR d0).i.sign=sg at*;refine Tb ?_;intro b9 w9 hh ws hh;refine Oa hh (hsg _) rfl ?_;intro w28 hh;refine fa ?_;replace hh:=hh.perm (P_ (l₁:=[_]));simp only[C',E'] at hh;refine qa (had _ (hT.hp hh) (hh.ra (i:=0) rfl) (hTK _ _ hh λe h=>F' _ (F' _ (z9 _ h)))) ja.out rfl U' ?_;rintro e_ w32 ⟨C,cc,ys,R2,rfl,hym,hyR,h3⟩;refine⟨_,rfl, ?_⟩;replace hh:=hh.join h3;clear h3;simp only[C',E'] at hh;have hAJ:∀(i:Nat)(y:LX),ys[i]?=some y->AJ[i]?=some y.l:=λi y hy=>by rw[<-hym,V_,hy];rfl
 have hyn:ys.length=n:=(hh.ra (i:=0) rfl).Fa LX.len U';refine fa ?_;replace hh:=hh.Nb 78 2;refine Ra [6,7,13,15,16,17,37,38,39,40,41,42,43,44,45,46,47,48,49,50,51,52,53,54] 13 37 (λv13 v w'=>∃(i c13:Nat)(G:Option Addr)(gs:List FX)(R:List HE),i<=n/\v=.int .i64 i/\v13=.slice G i c13/\gs.length=i/\(∀r∈AJ.take i,Mb (pf ds r)=0)/\(∀(j:Nat)(g:FX)(r:List NR),gs[j]?=some g->AJ[j]?=some r->g.is (Gy ds r).1 (Gy ds r).2)/\(∀g∈gs,g.ug∈R/\g.cg∈R)/\(∀y∈ys,.row y.A y.n y.c 30 3 (na NR.cells y.l)∈R)/\Hp w (.row G i c13 78 2 (na FX.cells gs)::.row C n cc 37 1 (na LX.cells ys)::R) w') (λ_ v _=>n-(intOf v).toNat) ?_ ?_
 .exact⟨0,0,none,[],_,D' _,rfl,rfl,rfl,λq h=>absurd h O9,λj g r h=>by simp at h,λf h=>absurd h O9,λy hy=>z9 _ (hyR y hy).2,hh⟩
 clear hh;rintro ρ' v13 v w' ⟨i,c13,G,gs,R,hi,rfl,rfl,hgl,hok,hgs,hR,hyR2,hh⟩;by_cases hlt:i<n
 .obtain⟨y,hyi⟩:=ea (l:=ys) (k:=i) Z';have hmy:=G' hyi;have hAi:=hAJ i y hyi;have hyo:=hyR2 y hmy;have hyn2:=(hyR y hmy).1;have hbad:=λh=>OP hok hAi h;obtain⟨yA,m,yc,yl⟩:=y;obtain rfl:m=n:=hyn2;replace hbad:Mb (pf ds yl)≠0->wu ds AJ=Mb (pf ds yl):=hbad;replace hAi:AJ[i]?=some yl:=hAi;have hmx:=λw1 hT1 hb1 hS1=>CH A m ca fs ds yA yc yl k (16*q+32) w1 hT1 (hA.ext hb1) Z' (λf h=>(hf f h).ext hb1) hd hg hz hS1 (haz yl (G' hAi)) hk;have htr:∀g:FX,Out 0 (maxD (pf ds yl)) (FT ((pf ds yl).map (Oi (maxD (pf ds yl))))) g->g.is (Gy ds yl).1 (Gy ds yl).2:=λg o=>⟨o.ds,o.cs⟩;obtain⟨gC,rfl⟩:=hh.Pb (i:=1) rfl Z';generalize hmE:Mb (pf ds yl)=mE at*;refine fa ?_;refine ub ya.out rfl (hh.Jd (f:=LX.cells) (x:=⟨yA,m,yc,yl⟩) (l:=ys) (i:=1) rfl LX.len U' hyi 0 _ rfl) U' ?_;refine fa ?_;refine qa (hmx _ (hT.hp hh) hh.below (lf (hh.own _ (F' _ (F' _ hyo))))) ja.out rfl U' ?_;rintro e_ w44 ⟨g,og,rfl,h3⟩;refine⟨_,rfl, ?_⟩;replace hh:=hh.join h3;clear h3;simp only[C',E'] at hh;by_cases hE0:mE=0
  .subst hE0;refine Tb ?_;intro b16 w16 hh ws hh;refine Zj ?_;intro b52 w52 hh;refine CT ?_;intro A53 c53 w53 hh;simp only[U_,G_] at hh;replace hh:=hh.sub (s_ _ _);refine fa ?_;replace hh:=hh.perm (P_ (l₁:=[_,_]));simp only[C',E'] at hh;replace hh:=hh.perm (P_ (l₁:=[_,_]));simp only[C',E'] at hh;replace hh:=hh.perm (P_ (l₁:=[_,_,_,_]));simp only[C',E'] at hh;replace hh:=hh.perm (P_ (l₁:=[_,_,_,_]));simp only[C',E'] at hh;replace hh:=hh.sub (I' _ (I' _ (I' _ (I' _ (p' _ (A_ _))))));refine⟨⟨i+1,c53,A53,gs++[g],g.ug::g.cg::R,Z',rfl,rfl,by rw[Y_,hgl];rfl,λr hr=> ?_,λj g2 r h1 h2=> ?_,λf hf=> ?_,λy hy=>F' _ (F' _ (hyR2 y hy)),by rw[Ma];exact hh⟩,by show m-(i+1)<m-i;omega, ?_⟩
   .rw[oa hAi] at hr;obtain hr|hr:=z_.1 hr
    .exact hok r hr
    rw[S_.1 hr];exact hmE
   .by_cases hj:j<i
    .rw[X8 Z'] at h1;exact hgs j g2 r h1 h2
    have hj2:=(X_.1 h1).1;rw[Y_,hgl] at hj2;obtain rfl:j=i:=by have:j<i+1:=hj2;omega
    rw[H9 Z',hgl,d_] at h1;obtain rfl:g=g2:=L_ h1;rw[hAi] at h2;obtain rfl:=L_ h2;exact htr g og
   .exact aeZ
   exact Sc
  refine Tb ?_;intro b16 w16 hh ws hh;exact .inl ⟨by rw[hbad hE0];exact hE0,by rw[hbad hE0],hh.below⟩
 obtain rfl:n=i:=Z';rw[W_ (Nat.le_of_eq hal)] at hok;refine fa ?_;refine .inr ⟨MO hok,G,c13,gs,R,rfl,hgl,λj g d h1 h2=> ?_,hR,hh.sub (I' _ (p' _ (A_ _)))⟩;rw[V_] at h2
 cases hr:AJ[j]? with
 |none=>rw[hr] at h2;cases h2
 |some r=>
  rw[hr] at h2;obtain rfl:=L_ h2;exact hgs j g r h1 hr
def wy:∀(N:Nat)(l:List Nat),l.Nodup->(∀x∈l,x<N)->l.length<=N
 |0,l,_,h=>by
  cases l with
  |nil=>exact j' _
  |cons x l=>exact absurd (h x q') Z'
 |N+1,l,hd,h=>by
  by_cases hm:N∈l
  .have h1:=wy N (l.erase N) (hd.erase N) λx hx=>(by have:=(hd.mem_erase_iff).1 hx;have:=h x this.2;omega);rw[List.length_erase_of_mem hm] at h1;omega
  have:=wy N l hd λx hx=>(by have:=h x hx;have:x≠N:=λe=>hm (e ▸ hx);omega);omega
def CY{l:List TR}(hr:Gv l)(h:∀t∈l,Rj ds (Mc t.m)):l.length<=la ds:=by
 have h1:=wy (la ds) (l.map λt=>Md ds (Mc t.m)) (by
  unfold List.Nodup;rw[List.pairwise_map];refine List.Pairwise.imp_of_mem (λ{a b} ha hb hl e=> ?_) hr;have e2:Mc a.m=Mc b.m:=by rw[<-gi (h a ha),e,gi (h b hb)]
  rw[EF e2,Bg] at hl
  cases hl) (λx hx=>by
  obtain⟨t,ht,rfl⟩:=i'.1 hx;exact uk (h t ht))
 rwa[Z_] at h1
def abc{v:Nat}{l:List TR}{B:Nat->Nat}(hs:∀t∈l,t.m.size=v)(h:Dl B l):∀t∈l,Rj ((List.range v).map B) (Mc t.m):=λt ht=>by
 rw[Yl];refine⟨by rw[gl,hs t ht,Z_,q9],λi d r hd hr=> ?_⟩;have hi:=(X_.1 hd).1;rw[Z_,q9] at hi;rw[V_,x9 hi] at hd;have:=h t ht i;rw[fL,hr] at this;rw[<-L_ hd];exact this
def Zq{v:Nat}{B:Nat->Nat}(h:Jf (v:Int) ts=0)(hb:Dl B ts):ts.length<=la ((List.range v).map B):=by
 obtain⟨_,_,h3,h4⟩:=Vb h;refine CY h4.Gu (abc (λt ht=> ?_) hb);have:=h3 t ht;unfold re at this;rw[Q_,K_] at this;omega
def kB{v:Int}{q p:List TR}{sub:List TR->Int×List TR}{j D K T B c N:Nat}(hv:Wg v=true)(hq:bj v K q)(hT:q.length<=T)(hD:∀t∈p,rg j t<=D)(hb:∀n,(sub (Za p j n)).1=0->bj v B (sub (Za p j n)).2/\(sub (Za p j n)).2.length<=N) (hN:∀i,i<=128->(rb q sub p j i).1=0->(rb q sub p j i).2.length<=N)(hc:K+N*T+(N*T+N)<=c)(hS:B+D*c+N<=500000)(hc2:c<=100000)(hN4:N<=4096):
  ∀i,i<=128->(rb q sub p j i).1=0->bj v (B+(i+D-128)*c+N) (rb q sub p j i).2
 |0,_,_=>bj.nil hv
 |i+1,hi,h0=>by
  by_cases h1:i+1+D<=127
  .rw[Dh hD _ h1];exact bj.nil hv
  have h2:(rb q sub p j i).1=0:=(by refine T7 λc=> ?_;rw[zj c (Nat.le_succ i)] at h0;exact c h0);have hle:(i+1+D-128)*c<=D*c:=M9 _ Z';have ih:=kB hv hq hT hD hb hN hc hS hc2 hN4 i Z' h2;have hNi:=hN i Z' h2;have hst:i+D<=127->rb q sub p j i=(0,[]):=Dh hD i;have hmul:¬i+D<=127->(i+1+D-128)*c=(i+D-128)*c+c:=λh=>by rw[show i+1+D-128=(i+D-128)+1 by omega,o9]
  have hle0:(i+D-128)*c<=(i+1+D-128)*c:=M9 _ Z';rw[Ki] at h0 |-;unfold Lh at h0 |-;rw[L' (λh=>h h2)] at h0 |-;by_cases c1:(rb q sub p j i).2.length=0/\(Za p j (127-i)).length=0
  .rw[J' c1];exact ih.mono Z'
  rw[L' c1] at h0 |-;by_cases c2:Mf (rb q sub p j i).2 q≠0
  .rw[J' c2] at h0;exact absurd h0 c2
  rw[L' c2] at h0 |-;by_cases c3:(sub (Za p j (127-i))).1≠0
  .rw[J' c3] at h0;exact absurd h0 c3
  rw[L' c3] at h0 |-;by_cases c4:Pf (ua (jc (rb q sub p j i).2 q)++(sub (Za p j (127-i))).2)≠0
  .rw[J' c4] at h0;exact absurd h0 c4
  rw[L' c4];obtain⟨hs1,hs2⟩:=hb (127-i) Z';obtain⟨f1,f2,f3,f4⟩:=Vb ih.e;obtain⟨g1,g2,g3,g4⟩:=Vb hs1.e;by_cases hlow:i+D<=127
  .rw[hst hlow];have hl:(ua (jc [] q)++(sub (Za p j (127-i))).2).length<=N:=hs2;refine(Fl (k:=B) (n:=N) hv (λt ht=>g3 t ht) (λt ht=>hs1.ok t ht) (λt ht=>hs1.sz t ht) hl Z' Z').mono Z'
  have ht:=(ek (p:=(rb q sub p j i).2) (q:=q) Z');have hpl:(jc (rb q sub p j i).2 q).length<=N*T:=by rw[wj];exact n9 hNi hT
  have hm:=hmul hlow;rw[hm] at hle |-;generalize (i+D-128)*c=y at*;generalize D*c=z at*;have hpo:=Vq ih.ok hq.ok Z';have hg1:=Fg (k:=B+y+N+K) (j:=B+y+N+K+N*T) hpo Z' Z';have hg2:=Wb (jc (rb q sub p j i).2 q);have hmm:∀{P:TR->Prop},(∀t∈ua (jc (rb q sub p j i).2 q),P t)->(∀t∈(sub (Za p j (127-i))).2,P t)->∀t∈ua (jc (rb q sub p j i).2 q)++(sub (Za p j (127-i))).2,P t:=λa b t ht=>(z_.1 ht).elim (a t) (b t);refine⟨Re hv (Gq Z') (hmm (dm (Ao f3 ht.2.1)) g3),Fg (k:=B+y+N+K+N*T) (hmm hg1 (hs1.ok.mono Z')) (by rw[Y_];omega) Z',ym (hmm (HG ih.ok hq.ok hq.sz Z' Z').2 hs1.sz)⟩
def qU{v T c:Nat}(hv:v<=12)(D:Nat->Nat)(hN:la ((List.range v).map D)<=N)(hc:K+N*T+(N*T+N)<=c)(hc2:c<=100000)(hN4:N<=4096):∀(qs:List (List TR))(j:Nat)(p:List TR)(ds:List Nat)(k:Nat),(∀(i:Nat)(q:List TR),qs[i]?=some q->bj v K q/\q.length<=T/\Dl (λx=>if x=j+i then 1 else 0) q)->zg k p->ds.length=qs.length->(∀(i d:Nat),ds[i]?=some d->D (j+i)=d)->(∀t∈p,∀i,i<qs.length->rg (j+i) t<=D (j+i))->k+1+(ds.sum+ds.length)*c<=400000->(Ke v qs j p).1=0->bj v (k+1+(ds.sum+ds.length)*c) (Ke v qs j p).2/\(Ke v qs j p).2.length<=N:=by
 intro qs
 induction qs with
 |nil=>
  intro j p ds k _ hok hds _ _ hB _;obtain rfl:ds=[]:=W6.1 hds;have h1:bj v (k+1) (Ke v [] j p).2:=(by refine Ut (vg hv) ?_ Z';exact ZZ);refine⟨h1.mono (Nat.le_add_right _ _),M_ (Zq h1.e (B:=λ_=>0) (Rx v _).ua) (M_ ?_ hN)⟩;have e:∀(f:Nat->Nat)(l:List Nat),la (l.map λ_=>0)<=la (l.map f):=λf l=>by
   induction l with
   |nil=>exact j' _
   |cons x l ih=>exact n9 (Nat.succ_le_succ (D' _)) ih
  exact e D _
 |cons q qs ih=>
  intro j p ds k hq hok hds hdD hp hB h0
  cases ds with
  |nil=>cases hds
  |cons d ds=>
   have hdj:D j=d:=hdD 0 d rfl;obtain⟨hq1,hq2,hq3⟩:=hq 0 q rfl;rw[u9] at hq3;rw[y6,E_] at hB |-;have hBe:(d+ds.sum+(ds.length+1))*c=(ds.sum+ds.length)*c+d*c+c:=by rw[show d+ds.sum+(ds.length+1)=(ds.sum+ds.length)+d+1 by omega,k8,k8,W7]
   rw[hBe] at hB |-;have hNc:N<=c:=Z';have hpw:∀n,∀t∈Za p j n,∀i,i<qs.length->rg (j+1+i) t<=D (j+1+i):=λn t ht i hi=>(by exact aa2);have hsub:∀n,(Ke v qs (j+1) (Za p j n)).1=0->bj v (k+1+(ds.sum+ds.length)*c) (Ke v qs (j+1) (Za p j n)).2/\(Ke v qs (j+1) (Za p j n)).2.length<=N:=λn hn=>by
    refine ih (j+1) (Za p j n) ds k (λi r hr=> ?_) (λt ht=>hok t (cj t ht)) (by simpa using hds) (λi e he=> ?_) (hpw n) Z' hn
    .have:=hq (i+1) r (by simpa using hr);rwa[show j+1+i=j+(i+1) by omega]
    have:=hdD (i+1) e (by simpa using he);rwa[show j+1+i=j+(i+1) by omega]
   have hsbn:∀n,(Ke v qs (j+1) (Za p j n)).1=0->Dl (λx=>if j+1<=x/\x<j+1+qs.length then D x else 0) (Ke v qs (j+1) (Za p j n)).2:=λn hn=>kD qs (j+1) (Za p j n) D (λi r hr=>by
    have:=(hq (i+1) r (by simpa using hr)).2.2;rwa[show j+1+i=j+(i+1) by omega]) (hpw n) hn
   have hDp:∀t∈p,rg j t<=d:=λt ht=>by rw[<-hdj];exact hp t ht 0 (by rw[E_];omega)
   rw[St] at h0 |-;generalize Ke v qs (j+1)=sub at hsub hsbn h0 |-;have hlim0:∀i,i<=128->(rb q sub p j i).1=0->Jf (v:Int) (rb q sub p j i).2=0:=λi hi hz=>by
    clear h0
    induction i with
    |zero=>exact(bj.nil (k:=0) (vg hv)).e
    |succ i ihi=>
     have h2:(rb q sub p j i).1=0:=(by refine T7 λc=> ?_;rw[zj c (Nat.le_succ i)] at hz;exact c hz);have e0:=ihi Z' h2;rw[Ki] at hz |-;unfold Lh at hz |-;rw[L' (λh=>h h2)] at hz |-;by_cases c1:(rb q sub p j i).2.length=0/\(Za p j (127-i)).length=0
     .rw[J' c1];exact e0
     rw[L' c1] at hz |-;by_cases c2:Mf (rb q sub p j i).2 q≠0
     .rw[J' c2] at hz;exact absurd hz c2
     rw[L' c2] at hz |-;by_cases c3:(sub (Za p j (127-i))).1≠0
     .rw[J' c3] at hz;exact absurd hz c3
     rw[L' c3] at hz |-;by_cases c4:Pf (ua (jc (rb q sub p j i).2 q)++(sub (Za p j (127-i))).2)≠0
     .rw[J' c4] at hz;exact absurd hz c4
     rw[L' c4];refine Re (vg hv) (Gq Z') λt ht=>(z_.1 ht).elim (dm (Ao (Vb e0).2.2.1 (ek Z').2.1) t) ((Vb (hsub _ Z').1.e).2.2.1 t)
   have hbn:=Xq hq3 hDp (E:=λx=>if j+1<=x/\x<j+1+qs.length then D x else 0) (by rw[L' Z']) hsbn;have hNN:∀i,i<=128->(rb q sub p j i).1=0->(rb q sub p j i).2.length<=N:=λi hi hz=>by
    refine M_ (Zq (hlim0 i hi hz) ((hbn i hi hz).mono (C:=D) λx=> ?_)) hN;by_cases hx:x=j
    .rw[J' hx,hx,hdj];omega
    rw[L' hx];split
    .exact j' _
    exact D' _
   have e:∀m,m=128->(rb q sub p j m).1=0->bj v (k+1+((ds.sum+ds.length)*c+d*c+c)) (rb q sub p j m).2/\(rb q sub p j m).2.length<=N:=λm hm hz=>(by have h3:=kB (vg hv) hq1 hq2 hDp hsub hNN hc Z' hc2 hN4 m Z' hz;rw[show m+d-128=d by omega] at h3;exact⟨h3.mono Z',hNN m Z' hz⟩);exact e 128 rfl h0
end Go.Proofs.YtbencocchdpikaaGreatDoor
