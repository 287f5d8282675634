/- Lemmas for ratioEncloses, part 10. -/
import Derived.OrdersIn
import Derived.Test.YtbencocchdpikaaGreatDoorZ10
set_option linter.all false
set_option maxHeartbeats 0
namespace Go.Proofs.YtbencocchdpikaaGreatDoor
open Go.Proofs.Tryz
open Go.RowKit
def sp(p:Int×Int):SR:=⟨nR (D p.1 0),nR (D p.2 0)⟩
variable {P:Program}{N:Nat}{Q:Kq}{O:Rf}{w:World}{ro:Option Nat}{D:List Deferred}
variable {ms:List Nat}{xs ys:List Dyadic}
variable {k1 k2:Nat}
variable {k:Nat}
variable {ts:List TR}
variable {p:PX}
variable {b:List SR}
variable {C:Nat}
variable {ls:List PX}
variable {α:Type}
variable {o:Nat}
variable {cs vs:List Value}{off:Nat}
def SX(n:Nat)(s1 D s2 a:Bool)(J b o c)(N d L e:Int)(w:World):(Op.equalIn (n+4) 36 (.agg #[.bool s1,.string J,.int .i64 N,.bool s2,.string o,.int .i64 L]) (.agg #[.bool D,.string b,.int .i64 d,.bool a,.string c,.int .i64 e])).run prog w=.ok (((s1==D && J==b) && N==d) && ((s2==a && o==c) && L==e)) w:=by
 have h1:=λ(x f:Bool) (y g:ByteArray) (z i:Int)=>pN (P:=prog) (cs:= #[.bool x,.string y,.int .i64 z,.bool f,.string g,.int .i64 i]) (vs:= #[.bool x,.string y,.int .i64 z]) (off:=0) (pa.out (P:=prog) (t:=30)) rfl;have h2:=λ(x f:Bool) (y g:ByteArray) (z i:Int)=>pN (P:=prog) (cs:= #[.bool x,.string y,.int .i64 z,.bool f,.string g,.int .i64 i]) (vs:= #[.bool f,.string g,.int .i64 i]) (off:=3) (pa.out (P:=prog) (t:=30)) rfl;rw[Op.equalIn];simp[run_underlying Tryz.underlying36,h1,h2,vK]
 cases h:((s1==D && J==b) && N==d)<;>cases S:((s2==a && o==c) && L==e)<;>simp_all
def Tt(L:Option Addr)(n c:Nat)(b:List NR)(M:Option Addr)(Y:Nat)(w:World)(J:Sl w L n 3 (la NR.cells b))(z:Sl w M n 3 (la NR.cells b))(B:n<=1000000):Zc 53 #[.slice L n c,.slice M n Y] w (.bool true):=by
 have I:=Hp.start w;have m:=J.Aa NR.len V';refine Ga func53 ?_;refine aeo ?_;clear I;rintro ρ' v V ⟨i,hi,rfl,I⟩;by_cases D:i<n
 .obtain⟨s,K⟩:=aa (l:=b) (k:=i) Z';obtain⟨a,rfl,H⟩:=J.at_ Z';obtain⟨q,rfl,G⟩:=z.at_ Z';refine ea ?_;refine qh 8 I ?_;refine ub ?_;refine Wi (i) ?_;refine fk [_,_,_] (λ_ hj=>(H.ext hj.hp.below).recAt NR.len K) ?_;refine ub ?_;refine Wi (i) ?_;refine fk [_,_,_] (λ_ hj=>(G.ext hj.hp.below).recAt NR.len K) ?_;refine dn ?_;intro W I;refine Xt rfl rfl (by first|assumption|rfl) V' ?_;refine ea ?_;exact aC
 refine ea ?_;exact⟨rfl,I.below⟩
def PI(p:Int×Int):List Value:=[.int .i64 p.1,.int .i64 p.2]
def acA(a:NR):Bool:=decide ((30:Int)<a.Ra.size\/a.e< -200\/200<a.e)
def afG(s:SR):Bool:=acA s.lo||acA s.hi
def agG(b:List SR)(p:List NR):Bool:=(decide (8<b.length)||decide (8<p.length))||(b.any afG||p.any acA)
def exB:List SR:=[sp (0,4),sp (0,2)]
def SR.le(s:SR):¬s.Zg<s.pe:=PU _ _
def SR.f_L(s:SR):s.f.pe=s.pe:=by
 have h:=s.le;show aJ (nR s.pe).fa (nR s.Zg).fa=s.pe;rw[Ta,Ta,aJ,R' h]
def SR.f_H(s:SR):s.f.Zg=s.Zg:=by
 have h:=s.le;show bJ (nR s.pe).fa (nR s.Zg).fa=s.Zg;rw[Ta,Ta,bJ];split
 .rfl
 rename_i g;grind
def agJ(b:List SR)(a:Nat)(s:SR)(u:Bool):List SR:=(b.map SR.f).set a (s.f.half (nR s.f.ai) u)
def jV{s:SR}(h:s.lo.fa<s.hi.fa):s.pe=s.lo.fa/\s.Zg=s.hi.fa:=by
 have h2:¬s.hi.fa<s.lo.fa:=by grind
 unfold SR.pe SR.Zg aJ bJ;rw[R' h2,Q' h];exact⟨rfl,rfl⟩
def kz:Ic (-1)+Ic (-1)=1:=by decide+kernel
variable {X:List Dyadic}
structure aW(l:List TR)(ns:List Nat)(b:List SR)(X:List Dyadic):Prop where
 len:X.length=da ns
 bl:b.length=ns.length
 up:∀s∈b,s.lo.fa<s.hi.fa
 vl:∀ts:List Dyadic,ts.length=ns.length->Ug ns.reverse X ts=uo (UT b ts.reverse) l
def qo(b:List SR)(a:Nat)(s:SR)(u:Bool):List SR:=(b.map SR.f).set a (s.f.half (nR s.f.ai) u)
def Bl{s:SR}(h:s.lo.fa<s.hi.fa):∃m,(nR s.f.ai).fa=m/\m+m=s.pe+s.Zg/\s.f.lo.fa=s.pe/\s.f.hi.fa=s.Zg/\s.pe<m/\m<s.Zg:=by
 obtain⟨X,Y⟩:=jV h;have N:s.f.lo.fa=s.pe:=Ta _;have a:s.f.hi.fa=s.Zg:=Ta _;refine⟨s.f.ai,Ta _, ?_,N,a, ?_⟩
 .unfold SR.ai;rw[N,a];have:=kz;grind
 have b:s.f.ai+s.f.ai=s.pe+s.Zg:=(by unfold SR.ai;rw[N,a];have:=kz;grind);rw[<-X,<-Y] at h;constructor<;>grind
def FY{a:Nat}{s:SR}{u:Bool}(F:∀s∈b,s.lo.fa<s.hi.fa)(K:b[a]?=some s):∀z∈qo b a s u,z.lo.fa<z.hi.fa:=λz o=>by
 have D:=O' K;obtain⟨m,S,N,L,X,E,H⟩:=Bl (F s D);obtain h|rfl:=Z5 o
 .obtain⟨y,hy,rfl⟩:=x'.1 h;obtain⟨c,f0,f1,f2,f3,f4,f5⟩:=Bl (F y hy);rw[f2,f3];grind
 cases u with
 |false=>show s.f.lo.fa<(nR s.f.ai).fa;rw[S,L];exact E
 |true=>show(nR s.f.ai).fa<s.f.hi.fa;rw[S,X];exact H
def MW{a:Nat}{s:SR}{u:Bool}{us:List Dyadic}{t:Dyadic}(F:∀s∈b,s.lo.fa<s.hi.fa)(K:b[a]?=some s)(hu:us[a]?=some t):UT (qo b a s u) us=UT b (us.set a (if u then Ic (-1)+(1-Ic (-1))*t else Ic (-1)*t)):=by
 have D:=O' K;have M:=(z'.1 K).1;have c:=(z'.1 hu).1;obtain⟨m,S,N,e,X,E,g⟩:=Bl (F s D);refine s_ λi=> ?_;unfold UT qo;rw[Y6,Y6,g_,g_];by_cases hi:a=i
 .subst hi;rw[Q' rfl,Q' rfl,Q' (by rw[B'];exact M),Q' c,K,hu];show some _=some _;congr 1;have h2:=kz
  cases u with
  |false=>
   have P:(s.f.half (nR s.f.ai) false).lo.fa<(s.f.half (nR s.f.ai) false).hi.fa:=by show s.f.lo.fa<(nR s.f.ai).fa;rw[S,e];exact E
   obtain⟨k1,k2⟩:=jV P;show(s.f.half (nR s.f.ai) false).pe+((s.f.half (nR s.f.ai) false).Zg-(s.f.half (nR s.f.ai) false).pe)*t=s.pe+(s.Zg-s.pe)*(Ic (-1)*t);rw[k1,k2];show s.f.lo.fa+((nR s.f.ai).fa-s.f.lo.fa)*t=s.pe+(s.Zg-s.pe)*(Ic (-1)*t);rw[S,e];have:m-s.pe=(s.Zg-s.pe)*Ic (-1):=by grind
   rw[this];grind
  |true=>
   have P:(s.f.half (nR s.f.ai) true).lo.fa<(s.f.half (nR s.f.ai) true).hi.fa:=by show(nR s.f.ai).fa<s.f.hi.fa;rw[S,X];exact g
   obtain⟨k1,k2⟩:=jV P;show(s.f.half (nR s.f.ai) true).pe+((s.f.half (nR s.f.ai) true).Zg-(s.f.half (nR s.f.ai) true).pe)*t=s.pe+(s.Zg-s.pe)*(Ic (-1)+(1-Ic (-1))*t);rw[k1,k2];show(nR s.f.ai).fa+(s.f.hi.fa-(nR s.f.ai).fa)*t=s.pe+(s.Zg-s.pe)*(Ic (-1)+(1-Ic (-1))*t);rw[S,X];have T:m=s.pe+(s.Zg-s.pe)*Ic (-1):=by grind
   have j:s.Zg-m=(s.Zg-s.pe)*(1-Ic (-1)):=by grind
   rw[j]
   conv=>lhs;rw[T]
   grind
 rw[R' hi,R' hi,C']
 cases hy:b[i]? with
 |none=>rfl
 |some y=>
  show some (y.f.pe+(y.f.Zg-y.f.pe)*_)=some (y.pe+(y.Zg-y.pe)*_);rw[SR.f_L,SR.f_H]
def aW.half{l:List TR}{ns:List Nat}{a:Nat}{s:SR}(h:aW l ns b X)(K:b[a]?=some s)(u:Bool):aW l ns (qo b a s u) (jk u (Ic (-1)) ns a X):=by
 have Y:=h.bl;have M:=(z'.1 K).1;refine⟨PQ _ _ _ _ _,by unfold qo;rw[I9,B'];exact Y,FY h.up K,λts S=> ?_⟩;obtain⟨t,hu⟩:=aa (l:=ts.reverse) (k:=a) (by rw[r'];omega);have v:ts=(ts.reverse.set a t).reverse:=by
  have:ts.reverse.set a t=ts.reverse:=by
   refine s_ λi=> ?_;rw[g_];by_cases hi:a=i
   .subst hi;rw[Q' rfl,Q' (by rw[r'];omega),hu]
   rw[R' hi]
  rw[this,I8]
 obtain⟨v1,v2⟩:=TP (ns:=ns) (a:=a) Z' (Ic (-1)) t X ts.reverse (by rw[r'];exact S);rw[MW h.up K hu]
 cases u with
 |false=>
  conv=>lhs;rw[v]
  rw[v1,h.vl _ (by simp;omega),I8];rfl
 |true=>
  conv=>lhs;rw[v]
  rw[v2,h.vl _ (by simp;omega),I8];rfl
def IV{h:Int}(F:XW b.length h=false):∃s,b[(h/2).toNat]?=some s/\Zu b h=some (qo b (h/2).toNat s (decide (h % 2=1))):=by
 unfold XW at F;have h1:=of_decide_eq_false F;have J:0<=h:=Z';have N:h.fdiv 2=h/2:=U5 _ V';have L:h.tdiv 2=h/2:=V6 J;rw[L] at h1;obtain⟨s,K⟩:=aa (l:=b) (k:=(h/2).toNat) Z';refine⟨s,K, ?_⟩;unfold Zu;rw[N,R' Z',K];rfl
def IQ{a:Nat}{s:SR}{u:Bool}(F:∀z∈b,z.fin k)(c:k+2<=3000000)(K:b[a]?=some s):∀z∈qo b a s u,z.fin (k+2):=by
 have M:=(z'.1 K).1;have h1:Zu b (2*(a:Int)+if u then 1 else 0)=some (qo b a s u):=by
  obtain⟨s2,h2,G⟩:=IV (b:=b) (h:=2*(a:Int)+if u then 1 else 0) (by
   unfold XW;refine m' ?_;rw[V6 (by split<;>omega)];split<;>omega)
  have N:((2*(a:Int)+if u then 1 else 0)/2).toNat=a:=by split<;>omega
  have L:decide ((2*(a:Int)+if u then 1 else 0) % 2=1)=u:=by
   cases u with
   |true=>exact w' (by show(2*(a:Int)+1) % 2=1;omega)
   |false=>exact m' (by show ¬(2*(a:Int)+0) % 2=1;omega)
  rw[N] at h2;rw[K] at h2;rw[G,N,L,P_ h2]
 exact(mK F c h1).1
def acW(J:b.length≠0)(h:∀s∈b,s.lo.fa<s.hi.fa):lj b=0:=by
 unfold lj;rw[R',R' J];rw[Bool.not_eq_true,P9];intro s K;have:=h s K;simpa using this
structure GL(p:PX)(b:List SR)(ns:List Nat)(X:List Dyadic):Prop where
 e:sf p b (sa ns)=0
 x:Aj ns (Qb p (Ca b)).2=X
def T0{ns:List Nat}(P:Ri p b ns)(h:CQ p b ns):aW p.ts ns b (Aj ns (Qb p (Ca b)).2):=⟨Wt _ _,P.nl.symm,λs K=>aK P.box K,h.vl⟩
def adX{l:List TR}{ns:List Nat}(h:aW l ns b X):aW l ns (b.map SR.f) X:=by
 have Y:=h.bl;refine⟨h.len,by rw[B'];exact Y,λz o=> ?_,λts S=> ?_⟩
 .obtain⟨y,hy,rfl⟩:=x'.1 o;obtain⟨N,f0,f1,f2,f3,f4,f5⟩:=Bl (h.up y hy);rw[f2,f3];grind
 rw[h.vl ts S];congr 1;unfold UT;refine s_ λi=> ?_;rw[Y6,Y6,C']
 cases hy:b[i]? with
 |none=>rfl
 |some y=>
  show some (y.pe+(y.Zg-y.pe)*_)=some (y.f.pe+(y.f.Zg-y.f.pe)*_);rw[SR.f_L,SR.f_H]
structure agD(p q:PX)(b:List SR)(ns:List Nat)(a:Nat)(X:List Dyadic):Prop where
 fQ:wC q.v 300 8 4 q.ts
 e:sf q b (sa (aeO ns a))=0
 grow:Ge (300+300+16394) (wb q.v q.ts) (300+1)<=440000
 x:Aj (aeO ns a) (Qb q (Ca b)).2=af8 ns a X
structure afD(E:Value->HE)(g o:Nat):Prop where
 ld:∀{w0 w:World}{Hr:List HE}{v:Value},Hp w0 (E v::Hr) w->w.cell? ⟨g,o,none⟩=some v
 st:∀{ro:Mode}{P:Program}{N:Nat}{ops:Array Oper}{Q:Kq}{O:Rf}{w w0:World}{rest:List Oper}{Hr:List HE}{ty:TypeId}{pos:String}{af:Array Edge}{t:TypeId}{x y:Operand}{by':Nat}{ag:Bool}{zc:List Value}{v v':Value},
  Hp w0 (E v::Hr) w->ev O x=.pointer (some ⟨g,o,none⟩)->ev O y=v'->v'.cells= #[v']->sd P t=some (1,ag,by',zc)->v'.oneCell'=true->
  (∀V,Hp w0 (E v'::Hr) V->WL ro P N ops Q rest O V)->WL ro P N ops Q (⟨none,.store t x y,ty,pos,af,none⟩::rest) O w
def agO(w:World)(a:Addr):Nat:=match w.cell? a with|some v=>lenOf v|none=>0
def pws(x:Dyadic)(m:Nat):List NR:=(List.range m).map λi=>nR (x^i)
def waits(o:Oper)(j:Nat):Bool:=o.after.toList.any λe=>(e.on==j) && Region.binds .any e
abbrev Lv:=Nat->Value->List HE->Prop
def Spec(P:Program)(l:List Oper)(w0:World)(O:Rf)(dst:Nat->Nat)(m:Nat)(S:Lv)(pre:Nat->List HE)(rest:List HE)(i:Nat):Prop:=
 ∃o,l[i]?=some o/\∀(U:Rf)(Z:World)(F:List HE)(R:Nat->List HE),(∀s,(∀j,j<m->dst j≠s)->U s=O s)->(∀j,waits o j=true->S j (U (dst j)) (R j)/\∀x∈R j,x∈F)->(∀x∈rest,x∈F)->Hp w0 (pre i++F) Z->
  OG P l.toArray o U Z λv q=>∃A,S i v A/\Hp w0 (A++F) q
def All:Nat->(Nat->Prop)->Prop
 |0,_=>True
 |k+1,p=>All k p/\p k
def ag3(l:List Oper)(m N:Nat)(dst:Nat->Nat):Bool:=
 decide (m<=l.length) && ((List.range m).all λi=>match l[i]? with|some o=>(o.dst==some (dst i)) && decide (dst i<N) && (o.after.toList.all λe=> !Region.binds .any e||decide (e.on<i))|none=>false) &&
 decide ((List.range m).map dst).Nodup &&
 ((List.range (l.length-m)).all λk=>match l[m+k]? with|some o=>(List.range m).all λj=>waits o j|none=>false) &&
 ((List.range (l.length-m)).all λk=>Region.ready .any l.toArray (ei l.length (m+k))==[m+k]) && (Region.ready .any l.toArray (ei l.length l.length)==[])
def Det(v:Value):Value->List HE->Prop:=λx R=>x=v/\R=[]
def afC(xs:List NR)(m:ByteArray)(k:Nat):Dyadic:=match xs[k]?,m.data.toList[k]? with|some x,some e=>x.fa^e.toNat|_,_=>1
def ad4(c:Dyadic)(xs:List NR)(m:ByteArray):Nat->Dyadic
 |0=>c
 |k+1=>ad4 c xs m k*afC xs m k
def evK(xs:List NR)(ts:List TR):Nat->Dyadic
 |0=>0
 |i+1=>evK xs ts i+(match ts[i]? with|some t=>ad4 t.c.fa xs t.m xs.length|none=>0)
def adu(p:PX)(n:Nat):Int:=if p.e=0 then(if(n:Int)=p.v then 0 else 1) else p.e
def agT(p:PX)(xs:List NR):NR:=if adu p xs.length=0 then nR (evK xs p.ts p.ts.length) else nR 0
abbrev PwK:=Option Addr×Nat×Nat
def pwC(a:List PwK):List Value:=a.map λk=>.slice k.1 k.2.1 k.2.2
def pwE(y:NR)(k:PwK):HE:=.row k.1 k.2.1 k.2.2 30 3 (la NR.cells (pws y.fa k.2.1))
def pwR(ys:List NR)(a:List PwK):List HE:=List.zipWith pwE ys a
def itN(w:World)(b:Nat):Nat:=match w.heap[b]? with|some (.stringIter _ p)=>p|_=>0
variable {b0:List SR}
structure OnC(p q:List TR)(b0:List SR)(c:CV):Prop where
 p:aW p c.D c.b c.X
 q:aW q c.D c.b c.Y
 inb:∀(i:Nat)(s z:SR),c.b[i]?=some s->b0[i]?=some z->z.pe<=s.lo.fa/\s.hi.fa<=z.Zg
 len:c.b.length=b0.length
def OnC.half{p q:List TR}{c:CV}{a:Nat}{s:SR}(h:OnC p q b0 c)(K:c.b[a]?=some s)(u:Bool):OnC p q b0 (c.half a s u):=by
 have M:=(z'.1 K).1;refine⟨h.p.half K u,h.q.half K u,λi x z C o=> ?_, ?_⟩
 .have C:(qo c.b a s u)[i]?=some x:=C;unfold qo at C;rw[g_] at C;by_cases hi:a=i
  .subst hi;rw[Q' rfl,Q' (by rw[B'];exact M)] at C;obtain⟨k1,k2⟩:=h.inb a s z K o;obtain⟨m,S,N,e,X,E,g⟩:=Bl (h.p.up s (O' K));obtain⟨T,j⟩:=jV (h.p.up s (O' K));rw[<-P_ C]
   cases u with
   |false=>
    show z.pe<=s.f.lo.fa/\(nR s.f.ai).fa<=z.Zg;rw[S,e];constructor<;>grind
   |true=>
    show z.pe<=(nR s.f.ai).fa/\s.f.hi.fa<=z.Zg;rw[S,X];constructor<;>grind
  rw[R' hi,C'] at C
  cases hy:c.b[i]? with
  |none=>rw[hy] at C;cases C
  |some y=>
   rw[hy] at C;have C:y.f=x:=P_ C;obtain⟨k1,k2⟩:=h.inb i y z hy o;obtain⟨m,S,N,e,X,E,g⟩:=Bl (h.p.up y (O' hy));obtain⟨T,j⟩:=jV (h.p.up y (O' hy));rw[<-C,e,X];constructor<;>grind
 show(qo c.b a s u).length=_;unfold qo;rw[I9,B'];exact h.len
def InC(N:List Dyadic)(c:CV):Prop:=∃us:List Dyadic,us.length=c.D.length/\(∀t∈us,0<=t/\t<1)/\UT c.b us=N
def vJ{f g:FX}(h:Zf f g=0):Nb [f,g]=0/\Gr ((kj (maxD [f,g]) g).map nR)≠0:=by
 unfold Zf at h;by_cases J:Nb [f,g]=0
 .rw[Q' J] at h;refine⟨J,λh1=> ?_⟩;rw[Q' h1] at h;exact absurd h V'
 rw[R' J] at h;exact absurd h J
def XC{c:CV}{g:Int}(W:c.ok)(J:Zf c.f c.g=0)(C: -1000<=g)(D:g<=1000):(De c.f c.g g).fin 1002014:=by
 obtain⟨H,K⟩:=vJ J;obtain⟨zx,zy⟩:=W.up H;have r:c.f.ds.length=c.f.n/\c.f.cs.length=c.f.m:=⟨Za _,B' _⟩;have u:c.g.ds.length=c.g.n/\c.g.cs.length=c.g.m:=⟨Za _,B' _⟩;have e:∀x∈[c.f,c.g],x.ds.length=x.n:=by simpa using⟨r.1,u.1⟩
 obtain⟨j,_,E⟩:=Nk H e;obtain⟨o,q,t⟩:=yh j e c.f (by simp);obtain⟨X,Y, -⟩:=yh j e c.g (by simp);have lx:=Ak o q;have ly:=Ak X Y;have A:=Wb (maxD [c.f,c.g]);rw[show De c.f c.g g=Se (Vj (kj (maxD [c.f,c.g]) c.f) (kj (maxD [c.f,c.g]) c.g) g) from Q' J];have d:=Dq (p:=g) (show(kj (maxD [c.f,c.g]) c.f).length=(kj (maxD [c.f,c.g]) c.g).length by omega);refine Ox (λh1=> ?_) (λs K=> ?_) V'
 .rw[h1,lx] at d;replace d:0=da (maxD [c.f,c.g]):=d;omega
 obtain⟨i,hi⟩:=r_.1 K;have v:=(z'.1 hi).1;rw[d] at v;obtain⟨a,M⟩:=aa v;obtain⟨b,F⟩:=aa (l:=kj (maxD [c.f,c.g]) c.g) (k:=i) Z';rw[Km M F] at hi;rw[<-P_ hi];unfold dr;rw[Ta,Ta];have Q:=zx a (O' M);have h:=zy b (O' F);exact⟨Ss g Q h C D,(Ss g Q.neg h C D).neg⟩
structure afY(q:List TR)(b0:List SR)(eps:Dyadic)(A:List NR):Prop where
 len:A.length=b0.length
 has:hasB b0 A=true
 ah9:Eh (uo (A.map NR.fa) q)<eps
 num:∀y∈A,y.ok/\Sz 1000 y.fa
def ahv(p q:List TR)(b0:List SR)(eps:Dyadic)(N:List Dyadic)(R:RV):Prop:=(R.k=1/\R.at_=[]/\af6 R.s (uo N p) (uo N q)/\R.s.fin 1002014)\/(R.k=2/\R.s=CK/\afY q b0 eps R.at_)
def wE:∀(n:Nat)(b:List SR),b.length=n+1->∃(a:Nat),Cm b (a:Int)/\a<b.length
 |0,b,h=>by
  match b,h with
  |[s],_=>exact⟨0,ey (b:=[]) s,Nat.zero_lt_one⟩
 |n+1,b,h=>by
  obtain⟨l,s,rfl⟩:∃l s,b=l++[s]:=⟨b.dropLast,b.getLast (by intro h1;rw[h1] at h;cases h),(List.dropLast_concat_getLast _).symm⟩;have Q:l.length=n+1:=by rw[D'] at h;simpa using h
  obtain⟨a,M,x⟩:=wE n l Q;obtain⟨h1,_⟩|⟨m,u,hu,hm,T,j⟩:=M
  .rw[h1] at Q;cases Q
  obtain rfl:a=m:=Z';by_cases hw:u.wid<s.wid
  .exact⟨l.length,rI T hw,by rw[D'];exact Nat.lt_succ_self _⟩
  exact⟨a,yH hu T j hw,by rw[D'];omega⟩
def yX{v w:Int}(h:Cm b v)(S:Cm b w):v=w:=by
 obtain⟨h1,h2⟩|⟨m,u,hu,hm,T,j⟩:=h
 .obtain⟨_,G⟩|⟨p,a,d,_⟩:=S
  .omega
  rw[h1] at d;cases d
 obtain⟨h1,_⟩|⟨p,a,d,c,q,s⟩:=S
 .rw[h1] at hu;cases hu
 obtain D|rfl|D:=u6 m p
 .exact absurd (s m u D hu) (T p a d)
 .omega
 exact absurd (j p a D d) (q m u hu)
def Cv:∀D:List Nat,ig D D=D
 |[]=>rfl
 |d::D=>(by show max d d::ig D D=_;rw[Cv D,Nat.max_self])
def Cp{B:Nat}:∀D:List Nat,(∀d∈D,d<=B)->da D<=(B+1)^D.length
 |[],_=>F' _
 |d::D,h=>(by rw[da,V_,B_,d'];exact O9 (Cp D λx C=>h x (u' _ C)) (by have:=h d E';omega))
variable {n:Nat}
structure Xk(p q:List TR)(b0:List SR)(n:Nat)(c:CV):Prop where
 on:OnC p q b0 c
 fin:∀s∈c.b,s.fin (124+2*n)
 d3:c.D.length<=3
 d0:c.D.length≠0
 d2:∀d∈c.D,d<=2
 zx:∀x∈c.X,Sz (50000+300*n) x
 zy:∀x∈c.Y,Sz (50000+300*n) x
variable {m:Nat}
def Xk.mono{p q:List TR}{c:CV}(h:Xk p q b0 n c)(hm:n<=m):Xk p q b0 m c:=
 ⟨h.on,λs K=>⟨⟨(h.fin s K).1.ok,(h.fin s K).1.sz.mono Z'⟩,(h.fin s K).2.ok,(h.fin s K).2.sz.mono Z'⟩,h.d3,h.d0,h.d2,λx C=>(h.zx x C).mono Z',λx C=>(h.zy x C).mono Z'⟩
def Xk.NA{p q:List TR}{c:CV}(h:Xk p q b0 n c):da c.D<=27:=
 p' (Cp c.D h.d2) (p' (K_ V' h.d3) V')
def Xk.ok{p q:List TR}{c:CV}(h:Xk p q b0 n c)(B:n<=50):c.ok:=by
 have E:=h.NA;have G:=h.d3;have hm:=h.mono B;have P:∀Z:List Dyadic,Z.length=da c.D->(∀x∈Z,Sz (50000+300*50) x)->∀x∈kj c.D (xn c.D Z),Sz 250000 x:=λZ Q o x C=>by
  have l:(xn c.D Z).ns=c.D:=Yg _;have L:(xn c.D Z).cs.map NR.fa=Z:=by show(Z.map nR).map NR.fa=_;rw[E_];exact(J9 λy _=>Ta y).trans (p8 _)
  unfold kj at C;rw[l,L] at C;have h1:=jD (ns:=c.D) (D:=c.D) (xs:=Z) (k:=50000+300*50) o rfl Z' (λd T=>by have:=h.d2 d T;omega) x C;have h2:da (xe c.D c.D)<=da c.D:=qi (ij rfl) λi a b M F=>(by rw[Nt F F] at M;have:=P_ M;omega);have G:da (xe c.D c.D)*da c.D<=27*27:=O9 Z' E;exact h1.mono Z'
 refine⟨λs K=>⟨⟨(hm.fin s K).1.ok,(hm.fin s K).1.sz.mono V'⟩,(hm.fin s K).2.ok,(hm.fin s K).2.sz.mono V'⟩,by have:=h.on.p.bl;omega,Z',λd T=>by have:=h.d2 d T;omega,Z',h.on.p.len,h.on.q.len,λx C=>(hm.zx x C).mono V',λx C=>(hm.zy x C).mono V',λ_=> ?_⟩;have e:maxD [c.f,c.g]=c.D:=(by show ig (ig ((sa c.D).map Int.toNat) ((sa c.D).map Int.toNat)) ((sa c.D).map Int.toNat)=_;rw[Yg,Cv,Cv]);rw[e];exact⟨P c.X h.on.p.len hm.zx,P c.Y h.on.q.len hm.zy⟩
def Xk.half{p q:List TR}{a:Nat}{c:CV}{s:SR}(h:Xk p q b0 n c)(B:n<=50)(K:c.b[a]?=some s)(u:Bool):Xk p q b0 (n+1) (c.half a s u):=by
 have M:=(z'.1 K).1;have Y:=h.on.p.bl;refine⟨h.on.half K u,λz o=> ?_,h.d3,h.d0,h.d2,λx C=> ?_,λx C=> ?_⟩
 .have:=IQ (u:=u) h.fin Z' K z o;rwa[show 124+2*n+2=124+2*(n+1) by omega] at this
 .exact(uN (D:=2) Z' h.d2 V' h.on.p.len Lo.1 Lo.2 h.zx x C).mono Z'
 exact(uN (D:=2) Z' h.d2 V' h.on.q.len Lo.1 Lo.2 h.zy x C).mono Z'
def sL{p q:List TR}{b0:List SR}{eps:Dyadic}{g bu:Int}(C: -1000<=g)(D:g<=1000)(r:bu<=40):∀(f n:Nat)(st:List CV)(l:List SR),(∀c∈st,Xk p q b0 n c)->bu+1<n+f->((n:Int)<=bu+1\/0<f)->∃R k e,Enc eps g bu f n st l R k e
 |0,n,[],l,_,_,_=>⟨dW,0,3,rfl,rfl,rfl⟩
 |f+1,n,[],l,_,_,_=>⟨dW,0,3,rfl,rfl,rfl⟩
 |0,n,c::st,l,h,j,B=>(by exfalso;omega)
 |f+1,n,c::st,l,h,j,_=>by
  by_cases F:bu<n
  .exact⟨dW,0,3,by rw[Enc,Q' F];exact⟨rfl,rfl,rfl⟩⟩
  have E:=h c E';have W:=E.ok Z';have i:∀d∈st,Xk p q b0 (n+1) d:=λd T=>(h d (u' _ T)).mono Z';by_cases J:Zf c.f c.g=0
  .have A:=XC (g:=g) W J C D;by_cases B:st=[]
   .exact⟨_,_,_,by rw[Enc,R' F,Q' J,Q' B];exact⟨W,⟨A.1.ok,A.2.ok⟩,rfl,rfl,rfl⟩⟩
   obtain⟨R,k,e,u⟩:=sL C D r f (n+1) st (l++[De c.f c.g g]) i Z' Z';exact⟨R,k,e,by rw[Enc,R' F,Q' J,R' B];exact⟨W,⟨A.1.ok,A.2.ok⟩,u⟩⟩
  by_cases h1:Gm c.g eps=0
  .exact⟨_,_,_,by rw[Enc,R' F,R' J,Q' h1];exact⟨W,rfl,rfl,rfl⟩⟩
  have Y:=E.on.p.bl;have PA:=E.d0;obtain⟨a,M,x⟩:=wE (c.b.length-1) c.b Z';obtain⟨s,K⟩:=aa x;obtain⟨R,k,e,u⟩:=sL C D r f (n+1) (c.half a s false::c.half a s true::st) l (λd T=>by
   obtain rfl|T:=y'.1 T
   .exact E.half Z' K false
   obtain rfl|T:=y'.1 T
   .exact E.half Z' K true
   exact i d T) Z' Z'
  exact⟨R,k,e,by rw[Enc,R' F,R' J,R' h1];exact⟨W,a,s,λv A=>yX A M,K,Z',u⟩⟩
def abI{ns:List Nat}(h:oB p b 27 9)(P:Ri p b ns)(J:(Qb p (Ca b)).1=0)(l:ns=wb p.v p.ts)(h2:∀d∈ns,d<=2):NI ns (Aj ns (Qb p (Ca b)).2):=by
 have K:=(h.small V' V' P J).2;have E:=h.NA P.e;refine⟨by rw[P.nl];exact P.jn,P.low,by rw[l];omega,Wt _ _,λx C=>(K x C).mono V'⟩
def ay{q:PX}(sp:oB p b 27 9)(sq:oB q b 27 9)(hb3:b.length<=3)(E:p.e=0->∀d∈wb p.v p.ts,d<=2)(N:q.e=0->∀d∈wb q.v q.ts,d<=2)(u:Hj p q b=0):(Ri p b (wb p.v p.ts)/\Ri q b (wb q.v q.ts))/\sf p b []=0/\sf q b []=0/\Xk p.ts q.ts b 1 (Zh p q b):=by
 unfold Hj at u;by_cases h1:sf p b []≠0
 .rw[Q' h1] at u;exact absurd u h1
 rw[R' h1] at u;by_cases h2:sf q b []≠0
 .rw[Q' h2] at u;exact absurd u h2
 rw[R' h2] at u;replace h1:=C9.1 h1;replace h2:=C9.1 h2;obtain⟨a1,G⟩:=ov h1;obtain⟨c1,Y⟩:=ov h2;have w:Ri p b (wb p.v p.ts):=(Ms a1).2;have h:Ri q b (wb q.v q.ts):=(Ms c1).2;have op:=adX (T0 w (iF w G sp.ok sp.box V' (sp.grow V' w.e)));have oq:=adX (T0 h (iF h Y sq.ok sq.box V' (sq.grow V' h.e)));have zp:=(sp.small V' V' w G).2;have zq:=(sq.small V' V' h Y).2;refine⟨⟨w,h⟩,h1,h2, ?_⟩;have r:(ie p b).ns=wb p.v p.ts:=Yg _;have nq:(ie q b).ns=wb q.v q.ts:=Yg _;have T:(ie p b).cs.map NR.fa=Aj (wb p.v p.ts) (Qb p (Ca b)).2:=by unfold ie xn;rw[E_];exact(J9 λy _=>Ta y).trans (p8 _)
 have C:(ie q b).cs.map NR.fa=Aj (wb q.v q.ts) (Qb q (Ca b)).2:=by unfold ie xn;rw[E_];exact(J9 λy _=>Ta y).trans (p8 _)
 have lf:(ie p b).ds.length=(ie p b).n/\(ie p b).cs.length=(ie p b).m:=⟨Za _,B' _⟩;have lg:(ie q b).ds.length=(ie q b).n/\(ie q b).cs.length=(ie q b).m:=⟨Za _,B' _⟩;have j:∀x∈[ie p b,ie q b],x.ds.length=x.n:=by simpa using⟨lf.1,lg.1⟩
 obtain⟨t,_,hc⟩:=Nk u j;obtain⟨M,r2,r3⟩:=yh t j (ie p b) (by simp);obtain⟨s1,s2, -⟩:=yh t j (ie q b) (by simp);have R:=JQ (B:=2) (f:=ie p b) (g:=ie q b) (by rw[r];exact E w.e) (by rw[nq];exact N h.e);have lx:=Ak M r2;have ly:=Ak s1 s2;have hlp:=w.nl;have hbp:=w.pos;have raise:∀(g:PX)(l:List TR),(ie g b).ns=wb g.v g.ts->(ie g b).cs.map NR.fa=Aj (wb g.v g.ts) (Qb g (Ca b)).2->(maxD [ie p b,ie q b]).length=(ie g b).ns.length->(∀(i x y:Nat),(ie g b).ns[i]?=some x->(maxD [ie p b,ie q b])[i]?=some y->x<=y)->aW l (wb g.v g.ts) (b.map SR.f) (Aj (wb g.v g.ts) (Qb g (Ca b)).2)->(∀x∈Aj (wb g.v g.ts) (Qb g (Ca b)).2,Sz 47000 x)->da (wb g.v g.ts)<=27->
   aW l (maxD [ie p b,ie q b]) (b.map SR.f) (kj (maxD [ie p b,ie q b]) (ie g b))/\∀x∈kj (maxD [ie p b,ie q b]) (ie g b),Sz (50000+300*1) x:=λg l A L Q hle W o F=>by
  refine⟨⟨Ak Q hle,by rw[Q,A];exact W.bl,W.up,λts X=> ?_⟩,λx hx=> ?_⟩
  .have:=oO (ns:=(ie g b).ns) (D:=maxD [ie p b,ie q b]) (xs:=(ie g b).cs.map NR.fa) (ts:=ts) Q.symm hle X;show Ug _ (Xi _ _ _) _=_;rw[this,L,A];exact W.vl ts (by rw[X,Q,A])
  have H:=p' (Cp _ R) (K_ (show 0<2+1 by decide) (show(maxD [ie p b,ie q b]).length<=3 by rw[M,r];omega));have h1:=jD (ns:=(ie g b).ns) (D:=maxD [ie p b,ie q b]) (xs:=(ie g b).cs.map NR.fa) (k:=47000) (by rw[L];exact o) Q.symm (by rw[M,r];omega) r3 x hx;have h2:da (xe (maxD [ie p b,ie q b]) (ie g b).ns)<=da (maxD [ie p b,ie q b]):=qi (ij Q) λi a c J S=>(by obtain⟨y,hy⟩:=aa (l:=(ie g b).ns) (k:=i) (by have:=(z'.1 S).1;omega);rw[Nt S hy] at J;have:=P_ J;omega);have h3:da (xe (maxD [ie p b,ie q b]) (ie g b).ns)*da (ie g b).ns<=(2+1)^3*27:=O9 Z' (by rw[A];exact F);exact h1.mono Z'
 obtain⟨x1,x2⟩:=raise p p.ts r T M r2 op zp (sp.NA w.e);obtain⟨y1,y2⟩:=raise q q.ts nq C s1 s2 oq zq (sq.NA h.e);refine⟨⟨x1,y1,λi s z K o=> ?_,B' _⟩,λs K=> ?_,by show(maxD _).length<=3;rw[M,r];omega,by show(maxD _).length≠0;rw[M,r];omega,R,x2,y2⟩
 .have K:(b.map SR.f)[i]?=some s:=K;rw[C',o] at K;have K:z.f=s:=P_ K;have P:z.lo.fa<z.hi.fa:=aK w.box (O' o);obtain⟨m,e0,e1,e2,e3,e4,e5⟩:=Bl P;rw[<-K,e2,e3];constructor<;>grind
 obtain⟨z,o,rfl⟩:=x'.1 K;have:=SR.Bw (sp.box z o) V';exact⟨⟨this.1.ok,this.1.sz.mono V'⟩,this.2.ok,this.2.sz.mono V'⟩
def jY{v:Int}(h:Ye v ts=0)(K:∀t∈ts,t.m.size<=3)(C:∀t∈ts,∀c∈t.m.data.toList,c.toNat<=2):da (wb v ts)<=27:=by
 have Q:=(Mi h).2.1
 cases ts with
 |nil=>
  have h1:=Cp (B:=0) (wb v []) (eA h λt S=>absurd S i_);rw[Nat.one_pow] at h1;omega
 |cons t ts=>
  have h1:=Cp (B:=2) _ (eA h C);have h2:=(Kb h).2.2.1 t E';unfold yf at h2;rw[Z_,Y_] at h2;have G:=K t E';exact p' h1 (p' (K_ V' (show(wb v (t::ts)).length<=3 by omega)) V')
def Gt(h1:p.ts.length<=5)(h2:Gh 124 p.ts)(G:∀t∈p.ts,t.m.size<=3/\∀c∈t.m.data.toList,c.toNat<=2)(F:∀s∈b,s.fin 124):oB p b 27 9/\(p.e=0->∀d∈wb p.v p.ts,d<=2):=
 ⟨⟨Z',h2,λt S=>p' (G t S).1 V',λt S c E=>p' ((G t S).2 c E) V',F,λh=>jY h (λt S=>(G t S).1) λt S=>(G t S).2,V'⟩,λh=>eA h λt S=>(G t S).2⟩
variable {bu:Int}{eps:NR}
def sW{q:PX}{g:Int}(sp:oB p b 27 9)(sq:oB q b 27 9)(x:b.length<=3)(A:p.e=0->∀d∈wb p.v p.ts,d<=2)(N:q.e=0->∀d∈wb q.v q.ts,d<=2)(C: -1000<=g)(D:g<=1000)(r:bu<=35):
  ∃R k e,Fm p q b eps g bu 40 R k e:=by
 by_cases h1:Hj p q b=0
 .by_cases h2:eps.i.sign<=0
  .exact⟨dW,0,1,by unfold Fm;rw[R' (λh=>h h1),Q' h2];exact⟨rfl,rfl,rfl⟩⟩
  obtain⟨_,_,_,o⟩:=ay sp sq x A N h1;obtain⟨R,k,e,h⟩:=sL (eps:=eps.fa) (bu:=bu) C D Z' 40 1 [Zh p q b] [] (λc E=>by rw[k'.1 E];exact o) Z' Z';exact⟨R,k,e,by unfold Fm;rw[R' (λh=>h h1),R' h2];exact h⟩
 exact⟨dW,0,_,by unfold Fm;rw[Q' h1];exact⟨rfl,rfl,rfl⟩⟩
def Gx(sp:oB p b 27 9)(h2:p.e=0->∀d∈wb p.v p.ts,d<=2):(Cg p b (Xj p [])=0->Ge (124+124+16394) (wb p.v p.ts) (124+1)<=440000)/\(sf p b []=0->NI (ie p b).ns ((ie p b).cs.map NR.fa)):=by
 refine⟨λh=>sp.grow V' (Ms h).2.e,λh=> ?_⟩;obtain⟨J,o⟩:=ov h;have P:Ri p b (wb p.v p.ts):=(Ms J).2;have B:(ie p b).ns=wb p.v p.ts:=Yg _;have E:(ie p b).cs.map NR.fa=Aj (wb p.v p.ts) (Qb p (Ca b)).2:=by unfold ie xn;rw[E_];exact(J9 λy _=>Ta y).trans (p8 _)
 rw[B,E];exact abI sp P o rfl (h2 P.e)
def Px{K:Nat}(y:124<=K/\K<=1000){c:List SR}{ns:List Nat}(P:Ri p b ns)(a:wC p.v 124 8 4 p.ts)(E:da ns<=100)(W:aW p.ts ns c X)(F:∀z∈c,z.fin K):GL p c ns X:=by
 have w:=P.nl;have Y:=W.bl;have L:c.length=b.length:=Z';have A:=P.pos;obtain⟨G,T,j⟩:=abY (k:=K) P.e (acW Z' W.up) Z' (by rw[L];exact P.v) Z' P.low Z' P.own F y.2;have d:=iF T j (a.ok.mono y.1) F y.2 (oC (k:=K) P.e a.ex (P.OX E) y.2);refine⟨G,val_inj (ds:=ns.reverse) (by rw[Wt,qb]) (by rw[W.len,qb]) λts S=> ?_⟩;rw[r'] at S;rw[d.vl ts S,W.vl ts S]
def DU{ns D:List Nat}(h:Ri p b ns)(Q:D.length=ns.length)(hle:∀(i x y:Nat),ns[i]?=some x->D[i]?=some y->x<=y)(h1:∀d∈D,d<=127)(h2:da D<=4096):Ri p b D:=
 ⟨h.e,h.box,h.pos,h.jn,h.v,Q.trans h.nl,h1,h2,λi d T t S=>by
  obtain⟨x,C⟩:=aa (l:=ns) (k:=i) (by have:=(z'.1 T).1;omega);exact p' (h.own i x C t S) (hle i x d C T)⟩
def vX{q:PX}(u:Hj p q b=0)(h:Ri p b (wb p.v p.ts)/\Ri q b (wb q.v q.ts))(h1:sf p b []=0)(h2:sf q b []=0):Ri p b (Zh p q b).D/\Ri q b (Zh p q b).D:=by
 unfold Hj at u;rw[R' (λc=>c h1),R' (λc=>c h2)] at u;have e:(ie p b).ns=wb p.v p.ts:=Yg _;have G:(ie q b).ns=wb q.v q.ts:=Yg _;have m:∀x∈[ie p b,ie q b],x.ds.length=x.n:=by simpa using⟨Za _,Za _⟩
 obtain⟨j,_,E⟩:=Nk u m;obtain⟨M,r,A⟩:=yh j m (ie p b) (by simp);obtain⟨s1,s2, -⟩:=yh j m (ie q b) (by simp);rw[e] at M r;rw[G] at s1 s2;exact⟨DU h.1 M r A E,DU h.2 s1 s2 A E⟩
def oB.fQ{s:Nat}(h:oB p b C s)(he:p.e=0):wC p.v 124 8 4 p.ts:=⟨he,h.ok,λt S=>p' (h.sz t S) V',h.n,h.ex⟩
def DW{q:PX}{c:CV}(sp:oB p b 27 9)(sq:oB q b 27 9)(g:Xk p.ts q.ts b n c)(B:n<=50)(hp:Ri p b c.D)(R:Ri q b c.D):GL p c.b c.D c.X/\GL q c.b c.D c.Y:=by
 have E:=g.NA;have F:∀z∈c.b,z.fin 224:=λz o=>⟨⟨(g.fin z o).1.ok,(g.fin z o).1.sz.mono Z'⟩,(g.fin z o).2.ok,(g.fin z o).2.sz.mono Z'⟩;exact⟨Px ⟨V',V'⟩ hp (sp.fQ hp.e) Z' g.on.p F,Px ⟨V',V'⟩ R (sq.fQ R.e) Z' g.on.q F⟩
def Zz{M D m d:Int}(r:0<D)(T:0<d)(h:M*d=m*D):M/D=m/d:=by
 rw[<-Int.mul_ediv_mul_of_pos_left M D T,h,X6 D d,Int.mul_ediv_mul_of_pos_left m d r]
def iS{x y:Dyadic}{p m d k:Int}(T:0<d)(h:(x*Ic p=Dyadic.ofIntWithPrec m k/\y=Dyadic.ofIntWithPrec d k)\/(x*Ic p= -Dyadic.ofIntWithPrec m k/\y= -Dyadic.ofIntWithPrec d k)):UA (nR x) (nR y) p=m/d:=by
 obtain⟨K,h1,h2⟩:=tq x y p;unfold UA;generalize Uw (nR x) (nR y) p=M at*;generalize Ow (nR x) (nR y) p=D at*;have C:x*Ic p=Dyadic.ofIntWithPrec M K:=(by rw[h1,<-tD,show p+K-p=K by omega]);have a:∀{M D:Int},Dyadic.ofIntWithPrec M K=Dyadic.ofIntWithPrec m k->Dyadic.ofIntWithPrec D K=Dyadic.ofIntWithPrec d k->M*d=m*D/\0<D:=λ{M D} N L=>by
  have X:Dyadic.ofIntWithPrec M K*Dyadic.ofIntWithPrec d k=Dyadic.ofIntWithPrec m k*Dyadic.ofIntWithPrec D K:=by rw[N,L]
  rw[uk,uk,Int.add_comm k K] at X;refine⟨aO X, ?_⟩;rw[<-Yk 0 D K,L,jf,<-jf k,Yk];exact T
 obtain⟨N,L⟩|⟨N,L⟩:=h
 .obtain⟨X,E⟩:=a (C.symm.trans N) (h2.symm.trans L);rw[R' Z'];exact Zz E T X
 have H:Dyadic.ofIntWithPrec (-M) K=Dyadic.ofIntWithPrec m k:=by rw[<-mn,<-C,N];grind
 have R:Dyadic.ofIntWithPrec (-D) K=Dyadic.ofIntWithPrec d k:=by rw[<-mn,<-h2,L];grind
 obtain⟨X,E⟩:=a H R;rw[Q' Z'];exact Zz E T X
def yV{m d:Int}(T:0<d): -((-m)/d)=m/d+if m % d=0 then 0 else 1:=by
 have h1:=Int.mul_ediv_add_emod m d;have h2:=Int.emod_nonneg m (show d≠0 by omega);have G:=Int.emod_lt_of_pos m T;by_cases J:m % d=0
 .rw[Q' J];have: -m=d*(-(m/d)):=by rw[j8];omega
  rw[this,Int.mul_ediv_cancel_left _ Z'];omega
 rw[R' J];have e:(-m)/d= -(m/d)-1:=(by refine((Int.ediv_emod_unique (r:=d-m % d) T).2 ⟨?_,Z',Z'⟩).1;rw[Int.mul_sub,j8,Int.mul_one];omega);rw[e];omega
def qW{x y:Dyadic}{p m d k:Int}(T:0<d)(h:(x*Ic p=Dyadic.ofIntWithPrec m k/\y=Dyadic.ofIntWithPrec d k)\/(x*Ic p= -Dyadic.ofIntWithPrec m k/\y= -Dyadic.ofIntWithPrec d k)):
  dr x y p=⟨nR (Dyadic.ofIntWithPrec (m/d) p),nR (Dyadic.ofIntWithPrec (m/d+if m % d=0 then 0 else 1) p)⟩:=by
 have h2:UA (nR (-x)) (nR y) p=(-m)/d:=by
  refine iS (k:=k) T ?_;rw[<-mn];obtain⟨N,L⟩|⟨N,L⟩:=h
  .exact .inl ⟨by rw[<-N];grind,L⟩
  exact .inr ⟨by grind,L⟩
 unfold dr gu;rw[iS T h,h2,mn,yV T]
def Sz.afR{p:Int}(h1: -(k:Int)<=p)(h2:p<=k):Sz (k+8) (Ic p):=Sz.two (p:= -p) Z' Z'
def pS{X Y:Dyadic}{K:Nat}(t:Sz K X)(g:Sz K Y)(hp:0<Y):∃(E low:Int)(k1 k2:Nat),(X≠0->E=(nR X).e/\low=if(nR Y).e<(nR X).e then(nR Y).e else(nR X).e)/\(X=0->E=(nR Y).e/\low=(nR Y).e)/\E-low=k1/\(nR Y).e-low=k2/\
  X=Dyadic.ofIntWithPrec ((nR X).i*2^k1) (-low)/\Y=Dyadic.ofIntWithPrec ((nR Y).i*2^k2) (-low)/\0<(nR Y).i*2^k2/\k1<=2*K/\k2<=2*K:=by
 obtain⟨p,n,o⟩:=t.nr;obtain⟨j,a,b⟩:=g.nr;have hy:0<(nR Y).i:=(by have h:=QP Y;rw[<-h,<-jf (-(nR Y).e),Yk] at hp;exact hp);by_cases J:X=0
 .refine⟨(nR Y).e,(nR Y).e,0,0,λh=>absurd J h,λ_=>⟨rfl,rfl⟩,Z',Z', ?_, ?_,Z',Z',Z'⟩
  .rw[J,show(nR (0:Dyadic)).i=0 from rfl,Int.zero_mul,jf]
  rw[Int.pow_zero,Int.mul_one,QP]
 refine⟨(nR X).e,if(nR Y).e<(nR X).e then(nR Y).e else(nR X).e,((nR X).e-if(nR Y).e<(nR X).e then(nR Y).e else(nR X).e).toNat,((nR Y).e-if(nR Y).e<(nR X).e then(nR Y).e else(nR X).e).toNat,λ_=>⟨rfl,rfl⟩,λh=>absurd h J, ?_, ?_, ?_, ?_,Int.mul_pos hy (o8 Z'), ?_, ?_⟩
 .split<;>omega
 .split<;>omega
 .rw[<-dh _ (show -(if(nR Y).e<(nR X).e then(nR Y).e else(nR X).e)= -(nR X).e+(((nR X).e-if(nR Y).e<(nR X).e then(nR Y).e else(nR X).e).toNat:Nat) by split<;>omega),QP]
 .rw[<-dh _ (show -(if(nR Y).e<(nR X).e then(nR Y).e else(nR X).e)= -(nR Y).e+(((nR Y).e-if(nR Y).e<(nR X).e then(nR Y).e else(nR X).e).toNat:Nat) by split<;>omega),QP]
 .split<;>omega
 split<;>omega
def PK(a b:NR)(p:Int)(K:Nat)(w:World)(ha:a.ok)(F:b.ok)(za:Sz K a.fa)(zb:Sz K b.fa)(hK:K<=250000)(h0:b.fa≠0)(hp1: -1000<=p)(hp2:p<=1000):Zc 114 #[.agg #[.bool a.neg,.string a.Ra,.int .i64 a.e],.agg #[.bool b.neg,.string b.Ra,.int .i64 b.e],.int .i64 p] w (.agg (SR.cells (dr a.fa b.fa p)).toArray):=by
 have I:=Hp.start w;obtain⟨a1,a2,a3⟩:=ha;obtain⟨c1,c2,c3⟩:=F;have hfa:=λZ=>ue a Z Z' Z' Z';have hfb:=λZ=>ue b Z Z' Z' Z';have oka:=za.nr;have okb:=zb.nr;have hsg:=λZ=>Hc (nR b.fa) Z Z';rw[NR.sign,Ta] at hsg;have z2:Sz (1000+8) (Ic p):=Sz.afR Z' Z';obtain⟨X,Y,u,hu,zX,zY,hY0,hd⟩:∃(X Y u:Dyadic),(0<b.fa->u=a.fa/\Y=b.fa)/\Sz (K+1008) X/\Sz K Y/\0<Y/\(X=u*Ic p)/\(¬0<b.fa->u= -a.fa/\Y= -b.fa):=by
  by_cases h:0<b.fa
  .exact⟨a.fa*Ic p,b.fa,a.fa,λ_=>⟨rfl,rfl⟩,za.mul z2,zb,h,rfl,λh'=>absurd h h'⟩
  exact⟨-a.fa*Ic p, -b.fa, -a.fa,λh'=>absurd h' h,za.neg.mul z2,zb.neg,by grind,rfl,λ_=>⟨rfl,rfl⟩⟩
 obtain⟨hXu,hd⟩:=hd;have hXY:(a.fa*Ic p=X/\b.fa=Y)\/(a.fa*Ic p= -X/\b.fa= -Y):=by
  by_cases h:0<b.fa
  .obtain⟨e1,e2⟩:=hu h;exact .inl ⟨by rw[hXu,e1],e2.symm⟩
  obtain⟨e1,e2⟩:=hd h;exact .inr ⟨by rw[hXu,e1];grind,by rw[e2];grind⟩
 obtain⟨E,low,k1,k2,c,heq,hk1,hk2,hX,hY,hdp,b1,b2⟩:=pS (zX.mono (show K+1008<=251008 by omega)) (zY.mono (show K<=251008 by omega)) hY0;have okX:=zX.nr;have okY:=zY.nr;have zu:Sz K u:=by
  by_cases h:0<b.fa
  .rw[(hu h).1];exact za
  rw[(hd h).1];exact za.neg
 have oku:=zu.nr;have hq:=qW (x:=a.fa) (y:=b.fa) (p:=p) (k:= -low) hdp (by rw[<-hX,<-hY];exact hXY);have bm:Wa ((nR X).i*2^k1).natAbs<=8*251008+2*251008:=p' (eg _ _) (by have:=mf (nR X).neg (nR X).Ra;unfold NR.i;omega);have bd:Wa ((nR Y).i*2^k2).natAbs<=8*251008+2*251008:=p' (eg _ _) (by have:=mf (nR Y).neg (nR Y).Ra;unfold NR.i;omega);have hs1:∀Z,Zc 187 #[.agg #[.bool (nR X).neg,.string (nR X).Ra],.int .i64 (E-low)] Z (.agg #[.bool (iN ((nR X).i*2^k1)),.string (iM ((nR X).i*2^k1))]):=λZ=>(by rw[hk1];exact Qr _ _ k1 Z Z' Z');have hs2:∀Z,Zc 187 #[.agg #[.bool (nR Y).neg,.string (nR Y).Ra],.int .i64 ((nR Y).e-low)] Z (.agg #[.bool (iN ((nR Y).i*2^k2)),.string (iM ((nR Y).i*2^k2))]):=λZ=>(by rw[hk2];exact Qr _ _ k2 Z Z' Z');generalize hM:(nR X).i*2^k1=M at*;generalize r:(nR Y).i*2^k2=D at*;have hneg:iN D=false:=m' Z';have hbd:((bN (iM D):Nat):Int)=D:=by rw[iM,Af];omega
 have hdv:=λZ=>Nx (iN M) (iM M) (iM D) Z (by rw[yc];omega) (by rw[yc];omega) Z';rw[Cd,hbd] at hdv;rw[hneg] at hs2;have bq:(iM (M/D)).size<=3000000:=(by have:=Hw (iN M) (iM M) (bN (iM D)) (n:=3000000) (by rw[yc];omega);rw[Cd,hbd] at this;exact this);have C:=λZ=>Em (z:=M/D) (e:= -p) (x:=Dyadic.ofIntWithPrec (M/D) p) Z (by rw[O7]) Z' Z' Z';have hsr:=λZ=>Ei (iN (M % D)) (iM (M % D)) Z (by
  have h1:=Int.emod_nonneg M (show D≠0 by omega);have h2:=Int.emod_lt_of_pos M hdp;have h3:Wa (M % D).natAbs<=Wa D.natAbs:=Am Z';rw[yc];omega)
 rw[Cd] at hsr;have hof:=λZ=>uq 1 Z Z' Z';have hpl:=λZ=>Wl (iN (M/D)) (iN 1) (iM (M/D)) (iM 1) Z Z' (by rw[yc];decide);rw[Cd,Cd] at hpl;have bq1:(iM (M/D+1)).size<=4000000:=(by have h1:=zk (M/D) 1;have h2:Wa (1:Int).natAbs=1:=Ws;rw[yc] at bq |-;omega);have s:=λZ=>Em (z:=M/D+1) (e:= -p) (x:=Dyadic.ofIntWithPrec (M/D+1) p) Z (by rw[O7]) Z' Z' Z';have hsh:=λZ=>Fk (nR u) p Z Z' Z' Z' Z' Z';rw[Ta,<-hXu] at hsh;have P:=λZ=>Hc (nR X) Z Z';have hX0:(nR X).i.sign=0↔X=0:=by
  rw[Z6];constructor
  .intro h;rw[<-QP X,h,jf]
  intro h;rw[h];rfl
 rw[hq];clear hq hX hY hM r bm bd hbd hneg hXY zX zY zu z2 za zb hk1 hk2 b1 b2;generalize hr:M % D=t at*;generalize M/D=q at*;by_cases h:0<b.fa
 .obtain⟨rfl,rfl⟩:=hu h;rw[Yn h] at hsg;refine Ga func114 ?_;refine Ii ?_;intro b3 w3 I b4 w4 I b6 w6 I;refine qh 3 I ?_;refine ub ?_;refine dC (λ_ hj=>hfa _) ?_;refine ub ?_;refine xa ?_;intro f W Q g;have hb_1:=Q.bl;obtain⟨v14,v13,v12,_⟩:=g;replace I:=Q.hp;refine Be ?_;clear Q;refine cd I (hfb _) ?_;intro w15 I;refine Ib ?_;intro ws I ws I;refine cd I (hsg _) ?_;intro w17 I;refine ea ?_;by_cases S:X=0
  .exact aa3
  obtain⟨rfl,hl⟩:=c S;have hs0:¬(nR X).i.sign=0:=λh=>S (hX0.1 h);generalize (nR X).i.sign=sg at*;refine cd I (hsh _) ?_;intro w25 I;refine Gb ?_;intro ws I;refine cd I (P _) ?_;intro w32 I;rw[<-hl];refine ea ?_;exact zW2
 obtain⟨rfl,rfl⟩:=hd h;rw[sj (show b.fa<0 by grind)] at hsg;have hna:=λZ=>Dn (nR a.fa) Z Z' Z' Z';have hnb:=λZ=>Dn (nR b.fa) Z Z' Z' Z';rw[Ta] at hna hnb;refine Ga func114 ?_;refine Ii ?_;intro b3 w3 I b4 w4 I b6 w6 I;refine qh 3 I ?_;refine ub ?_;refine dC (λ_ hj=>hfa _) ?_;refine ub ?_;refine dn ?_;intro W I;refine cd I (hfb _) ?_;intro w15 I;refine Ib ?_;intro ws I ws I;refine cd I (hsg _) ?_;intro w17 I;refine ea ?_;refine qh 3 I ?_;refine ub ?_;refine dC (λ_ hj=>hna _) ?_;refine ub ?_;refine dn ?_;intro W I;refine cd I (hnb _) ?_;intro w22 I;refine Ib ?_;intro ws I ws I;by_cases S:X=0
 .exact aa3
 obtain⟨rfl,hl⟩:=c S;have hs0:¬(nR X).i.sign=0:=λh=>S (hX0.1 h);generalize (nR X).i.sign=sg at*;refine cd I (hsh _) ?_;intro w25 I;refine Gb ?_;intro ws I;refine cd I (P _) ?_;intro w32 I;rw[<-hl];refine ea ?_;refine gz [19,20] [17,18] 21 I ?_;refine ub ?_;refine dC (λ_ hj=>hs1 _) ?_;refine ub ?_;refine dC (λ_ hj=>hs2 _) ?_;refine dC (λ_ hj=>hdv _) ?_;refine ub ?_;refine ua (i:=19) (Sa _ 28 _) Sa.ext (λU Z hj hR=>Xc pa.out hj.bl (λv w2 h F=>⟨F,h⟩)) ?_;refine ua (i:=20) (Sa _ 28 _) Sa.ext (λU Z hj hR=>Xc pa.out hj.bl (λv w2 h F=>⟨F,h⟩)) ?_;refine xa ?_;intro f W Q g r;obtain⟨v9,v8,v57,v56,v55,v39,v54,v53,v52,v51,v50,v49,v48,v47,v46,v45,v44,v43,v42,v41,v40,_⟩:=g;obtain⟨b8,L,T,R⟩:Sa _ _ _ (f 19) W:=v8;obtain⟨b9,l,m,A⟩:Sa _ _ _ (f 20) W:=v9;have c:=UJ r (i:=19) (j:=20) V' V' V' L l;replace I:=Q.qq I T R m A c;clear r c;refine Be ?_;clear L l Q;refine Ib ?_;intro ws I ws I;refine qh 10 I ?_;refine ub ?_;refine Ba (i:=2) (λU Z hj hR=>Cn (show U 59=Value.int _ _ from hR.1) Z' Z') ?_;refine dC (λ_ hj=>C _) ?_;refine ub ?_
 refine Ba (i:=6) (λU Z hj hR=>Cn (show U 63=Value.int _ _ from hR.1) Z' Z') ?_;refine dC (λ_ hj=>C _) ?_;refine ub ?_;refine ua (i:=9) (Sa _ 36 _) Sa.ext (λU Z hj hR=>Xc pa.out hj.bl (λv w2 h F=>⟨F,h⟩)) ?_;refine xa ?_;intro f W Q g;obtain⟨v11,v66,v65,v64,v63,v62,v61,v60,v59,v58,_⟩:=g;obtain⟨b11,H,J,B⟩:Sa _ _ _ (f 9) W:=v11;replace I:=Q.newVar I J B;refine Be ?_;clear H Q;refine Gb ?_;intro ws I;refine cd I (hsr _) ?_;intro w68 I;by_cases o:t=0
 .exact abb
 have hs9:¬t.sign=0:=λh=>o (Z6.1 h);generalize t.sign=sg2 at*;refine ea ?_;refine qh 5 I ?_;refine ub ?_;refine dC (λ_ hj=>hof _) ?_;refine dC (λ_ hj=>hpl _) ?_;refine Gv ?_;refine Ba (i:=4) (λU Z hj hR=>Cn (show U 73=Value.int _ _ from hR.1) Z' Z') ?_;refine dn ?_;intro W I;exact aap
def AO(q j:Nat):(q/2^j)/2=q/2^(j+1):=by rw[u9,B_]
def BB(L:FX)(bits:Int)(k:Nat)(w)(Y:L.at_ w)(hl:L.qf k):Zc 117 #[L.V,.int .i64 bits] w (.tuple #[.agg #[.bool (xm L bits).neg,.string (xm L bits).Ra,.int .i64 (xm L bits).e],.int .i64 (GJ L bits)]):=by
 have I:=Hp.start w;have hln:=Y.ln.1;have hlm:=Y.ln.2;have hck:=λZ hb=>Vx L k Z (Y.ext hb) hl;have h1000:=hl.w1;refine Ga func117 ?_;refine Ib ?_;intro b2 w2 I b4 w4 I;refine cd I (hck _ I.below) ?_;intro w12 I;by_cases J:L.e≠0
 .have eE:GJ L bits=L.e:=Q' J;unfold xm;rw[eE,R' J];generalize L.e=E at*;refine aeA ?_;intro ws I;exact⟨rfl,I.below⟩
 replace J:L.e=0:=C9.1 J;obtain⟨M,hnum,h12,g,hcnt,hmax⟩:=FX.fv J;refine zZ ?_;intro hnl F;rw[J];refine ea ?_;refine Jh 7 8 (λa v V=>∃i:Nat,i<=L.n/\v=.int .i64 i/\a=.int .i64 ((2^i:Nat):Int)/\Hp w [.blk b4 30 [.bool false,.string ⟨#[]⟩,.int .i64 0] (0,0),.blk b2 78 [.slice L.A L.n L.a,.slice L.B L.m L.b] (0,0)] V) (λ_ v _=>L.n-(intOf v).toNat) ?_ ?_
 .exact⟨0,N' _,rfl,rfl,I⟩
 clear I;rintro ρ' a_ v V ⟨i,hi,rfl,rfl,I⟩;by_cases hlt:i<L.n
 .have h2:2^(i+1)=2*2^i:=by rw[B_,d']
  have h3:2^i<=4096:=K_ (n:=2) V' (show i<=12 by omega);generalize 2^i=y at*;refine ea ?_;refine⟨⟨i+1,Z',rfl,by rw[h2,m_];rfl,I⟩,by show L.n-(i+1)<L.n-i;omega, ?_⟩;exact Sb
 obtain rfl:i=L.n:=Z';by_cases o:bits<0
 .have s:GJ L bits=1:=by rw[F];exact Q' (.inl o)
  exact aaZ
 by_cases P:((2^L.n:Nat):Int)<=bits
 .have s:GJ L bits=1:=by rw[F];exact Q' (.inr P)
  exact aaZ
 have s:GJ L bits=0:=by rw[F];exact R' λc=>c.elim o P
 unfold xm;rw[s,Q' rfl];obtain⟨q,rfl⟩:∃q:Nat,bits=q:=⟨bits.toNat,Z'⟩;rw[z9];have hq:q<2^L.n:=Z';have D:Sl w L.A L.n 1 (Fa (sa L.ns)):=by rw[<-M];exact Y.dg
 unfold cnP;have hel:(Tm L.ns (yo L.ns.length q)).length=L.n:=by rw[Tq,S6,Qv];omega
 have f:∀j d,L.ns[j]?=some d->(Tm L.ns (yo L.ns.length q))[j]?=some (d*Dm q j):=λj d T=>(by exact ada);generalize Tm L.ns (yo L.ns.length q)=es at*;generalize ((2^L.n:Nat):Int)=h at*;refine ea ?_;replace I:=I.yb 5 1;refine Wk [1,9,10,34,35,36,37,38,39,40,41,42,43,44,45,46,47,48,49,50,51,52,53,54,55,56,57] 1 9 10 (λe a v V=>∃(j cR:Nat)(R:Option Addr),j<=L.n/\v=.int .i64 j/\e=.int .i64 ((q/2^j:Nat):Int)/\a=.slice R j cR/\Hp w [.row R j cR 5 1 (jj ((bS es).take j)),.blk b4 30 [.bool false,.string ⟨#[]⟩,.int .i64 0] (0,0),.blk b2 78 [.slice L.A L.n L.a,.slice L.B L.m L.b] (0,0)] V) (λ_ _ v _=>L.n-(intOf v).toNat) ?_ ?_
 .exact⟨0,0,none,N' _,rfl,by show Value.int IntKind.i64 (q:Int)=_;rw[F7,y8],rfl,I⟩
 clear I;rintro ρ2 e_ a_ v w2 ⟨j,cR,R,hj,rfl,rfl,rfl,I⟩;by_cases hjn:j<L.n
 .obtain⟨d,T⟩:=aa (l:=L.ns) (k:=j) Z';have H:=f j d T;have hd7:=g d (O' T);have hgD:(Fa (sa L.ns))[j]?=some (.int .i64 (d:Int)):=Db (jc T);have u:=AO q j;have hbit:q/2^j % 2=Dm q j:=rfl;have hql:q/2^j<=4096:=p' (B8 _ _) (p' (O6 hq) (K_ (n:=2) V' (show L.n<=12 by omega)));obtain⟨ad,hMe,S⟩:=(D.ext I.below).at_ Z';have Ij:Value.slice L.A L.n L.a=.slice (some ad) L.n L.a:=by rw[hMe]
  generalize Dm q j=bt at*;generalize q/2^j=y at*;by_cases t:y % 2=1
  .refine iU ?_;refine sv (Ma pa.out rfl (S.Dl hgD)) ?_;refine vA ?_;refine xr ?_;intro b51 w51 I;refine Yl ?_;intro K X w52 I;refine jB ?_;intro I;have p:bt=1:=Z';rw[p,W_] at H;refine⟨⟨j+1,X,K,Z',rfl, ?_,rfl, ?_⟩,by show L.n-(j+1)<L.n-j;omega, ?_⟩
   .show Value.int IntKind.i64 _=_;rw[<-u];congr 1
   .rw[FM H Z'];exact I
   exact Sb
  refine ea ?_;refine xR ?_;intro b54 w54 I;refine Yl ?_;intro N c55 w55 I;refine jB ?_;intro I;have p:bt=0:=Z';rw[p,x8] at H;refine⟨⟨j+1,c55,N,Z',rfl, ?_,rfl, ?_⟩,by show L.n-(j+1)<L.n-j;omega, ?_⟩
  .show Value.int IntKind.i64 _=_;rw[<-u];congr 1
  .rw[FM H Z'];exact I
  exact Sb
 obtain rfl:j=L.n:=Z';rw[G' (by unfold bS;rw[B',Za];omega)] at I;have t:∀i,Dm q i<=1:=λi=>by unfold Dm;omega
 have C:∀(i d r:Nat),L.ns[i]?=some d->es[i]?=some r->r<=d:=λi d r T H=>(by rw[f i d T] at H;have h8:=O_ d (t i);have h9:=P_ H;omega);have hat:=λZ hS1=>Yx L.A L.n L.a L.ns es Z hS1 Z' Z' Z' C (λd T=>by have:=g d T;omega);have hz:Ec L.ns.reverse es.reverse<da L.ns:=by
  have h8:Ah L.ns.reverse es.reverse:=(Ag _ _).2 ⟨by rw[r',r'];omega,λi d r T H=>by
   have hi:=(z'.1 T).1;rw[r'] at hi;rw[l_ hi] at T;rw[l_ Z',show es.length-1-i=L.ns.length-1-i by omega] at H;exact C _ d r T H⟩
  have h9:=Xg h8;rwa[qb] at h9
 generalize Ec L.ns.reverse es.reverse=z at*;obtain⟨x,hx⟩:=aa (l:=L.cs) (k:=z) Z';obtain⟨Q,hAC,sC⟩:=Y.nm.at_ Z';have G:Value.slice L.B L.m L.b=.slice (some Q) L.m L.b:=by rw[hAC]
 rw[hx,F9];refine ea ?_;refine Od 7 I ?_;refine ua (i:=5) (Is (.string ⟨((bS es)).toArray⟩)) Is.ext ?_ ?_
 .intro U Z hj hR;exact ic rfl (Pe (l:=(bS es)) Qa.out Qa.out Qa.out (show U 62=Value.slice _ _ _ from hR.1) (hj.hp.ka (i:=0) rfl)) ⟨Below.refl _ _,rfl⟩
 refine dC (λ_ hj=>hat _ (D.ext hj.hp.below)) ?_;refine dn ?_;intro W I;refine Z1 ?_;intro ws I;refine kB (jb rfl (kb (vs:=[_,_,_]) pa.out (I.wa (i:=1) (n:=3) rfl rfl) rfl) (Dc (Sc rfl) Ub)) ?_;exact⟨rfl,I.below⟩
def YI:∀(l:List Int) {o:Int},o≠2->(∀s∈l,s≠2)->Ux o l=if(∀s∈l,s=o) then o else 0
 |[],o,_,_=>by rw[Q' (λ_ h=>absurd h i_)];rfl
 |s::r,o,W,Q=>by
  rw[Ux];by_cases h:o=s
  .subst h;rw[Q' (.inr rfl),YI r W λs K=>Q s (u' _ K)];by_cases h2:∀s∈r,s=o
   .rw[Q' h2,Q' (λs K=>by obtain rfl|K:=y'.1 K;exact rfl;exact h2 s K)]
   rw[R' h2,R' (λG=>h2 λs K=>G s (u' _ K))]
  rw[R' (λG=>G.elim W h),R' (λG=>h (G s E').symm)]
def MS{l:List NR}(Q:l≠[]):Gr l=if l.countP (λa=>decide (0<a.i.sign))=l.length then 1 else if l.countP (λa=>decide (a.i.sign<0))=l.length then -1 else 0:=by
 unfold Gr
 cases l with
 |nil=>exact absurd rfl Q
 |cons a r=>
  have F:=Yi a.i;have H:∀s∈r.map λa:NR=>a.i.sign,s≠2:=λs K=>(by obtain⟨c,_,rfl⟩:=x'.1 K;have:=Yi c.i;omega);rw[T_,Ux,Q' (.inl rfl),YI _ Z' H];by_cases h1:(a::r).countP (λa=>decide (0<a.i.sign))=(a::r).length
  .rw[Q' h1];have h2:=G6.1 h1;have G:∀c∈a::r,c.i.sign=1:=λc E=>(by have z:=j9 (h2 c E);have:=Yi c.i;omega);exact qZ
  rw[R' h1];by_cases P:(a::r).countP (λa=>decide (a.i.sign<0))=(a::r).length
  .rw[Q' P];have h2:=G6.1 P;have G:∀c∈a::r,c.i.sign= -1:=λc E=>(by have z:=j9 (h2 c E);have:=Yi c.i;omega);exact qZ
  rw[R' P];by_cases L:∀s∈r.map λa:NR=>a.i.sign,s=a.i.sign
  .rw[Q' L];have N:∀c∈a::r,c.i.sign=a.i.sign:=λc E=>by
    obtain rfl|E:=y'.1 E
    .rfl
    exact L _ (x'.2 ⟨c,E,rfl⟩)
   have B:¬0<a.i.sign:=λh=>h1 (G6.2 λc E=>w' (by rw[N c E];exact h));have X:¬a.i.sign<0:=λh=>P (G6.2 λc E=>w' (by rw[N c E];exact h));omega
  rw[R' L]
def LH(f:FX)(w)(Y:f.at_ w)(hm:0<f.m)(F:f.m<=1000000)(y:∀a∈f.cs,a.Ra.size<=10000000):Zc 113 #[f.V] w (.int .i64 (Gr f.cs)):=by
 have I:=Hp.start w;have c:f.cs.length=f.m:=Y.nm.Aa NR.len V';rw[MS (λh=>by rw[h] at c;exact absurd c (by show ¬0=f.m;omega))];have J:=Y.nm;refine Ga func113 ?_;refine Gb ?_;intro j Z I;refine Wk [3,4,5,6,7,8,9,10,11,12,13,14,15,16,17,18,19,20,21,22,23,24,25,26,27,28,29,30] 3 4 5 (λe v4 v V=>∃i:Nat,i<=f.m/\v=.int .i64 i/\e=.int .i64 ((f.cs.take i).countP λa=>decide (0<a.i.sign):Nat)/\v4=.int .i64 ((f.cs.take i).countP λa=>decide (a.i.sign<0):Nat)/\Hp w [.blk j 78 [.slice f.A f.n f.a,.slice f.B f.m f.b] (0,0)] V) (λ_ _ v _=>f.m-(intOf v).toNat) ?_ ?_
 .exact⟨0,N' _,rfl,rfl,rfl,I⟩
 clear I;rintro ρ' e v4 v V ⟨i,hi,rfl,rfl,rfl,I⟩;have q:(f.cs.take i).countP (λa=>decide (0<a.i.sign))<=i:=p' List.countP_le_length (by rw[q'];omega);have o:(f.cs.take i).countP (λa=>decide (a.i.sign<0))<=i:=p' List.countP_le_length (by rw[q'];omega);by_cases D:i<f.m
 .obtain⟨a,M⟩:=aa (l:=f.cs) (k:=i) Z';obtain⟨s,E,H⟩:=J.at_ Z';have K:=λZ=>Hc a Z (y a (O' M));have p:=Yi a.i;have t1:(f.cs.take (i+1)).countP (λa=>decide (0<a.i.sign))=(f.cs.take i).countP (λa=>decide (0<a.i.sign))+if 0<a.i.sign then 1 else 0:=by
   rw[ja M,List.countP_append,List.countP_singleton];by_cases h:0<a.i.sign
   .rw[Q' h,Q' (w' h)]
   rw[R' h,R' (by rw[m' h];decide)]
  have t2:(f.cs.take (i+1)).countP (λa=>decide (a.i.sign<0))=(f.cs.take i).countP (λa=>decide (a.i.sign<0))+if a.i.sign<0 then 1 else 0:=by
   rw[ja M,List.countP_append,List.countP_singleton];by_cases h:a.i.sign<0
   .rw[Q' h,Q' (w' h)]
   rw[R' h,R' (by rw[m' h];decide)]
  generalize (f.cs.take i).countP (λa=>decide (0<a.i.sign))=d at*;generalize (f.cs.take i).countP (λa=>decide (a.i.sign<0))=r at*;rw[E] at I |-;generalize a.i.sign=S at*;by_cases h1:0<S
  .rw[Q' h1] at t1;rw[R' Z'] at t2;refine abO ?_;intro g I G I;exact Sb
  rw[R' h1] at t1;by_cases h2:S<0
  .rw[Q' h2] at t2;refine abO ?_;intro g I G I;exact Sb
  rw[R' h2] at t2;refine abO ?_;intro g I G I;exact Sb
 obtain rfl:i=f.m:=Z';rw[G' Z'] at*;rw[c];generalize f.cs.countP (λa=>decide (0<a.i.sign))=d at*;generalize f.cs.countP (λa=>decide (a.i.sign<0))=r at*;by_cases h1:d=f.m
 .rw[Q' h1];refine ea ?_;exact⟨rfl,I.below⟩
 rw[R' h1];by_cases h2:r=f.m
 .rw[Q' h2];refine ea ?_;exact⟨rfl,I.below⟩
 rw[R' h2];refine ea ?_;exact⟨rfl,I.below⟩
def AG(a:NR)(w)(M:a.ok):Zc 119 #[a.V] w (.agg #[.bool (nR (Eh a.fa)).neg,.string (nR (Eh a.fa)).Ra,.int .i64 (nR (Eh a.fa)).e]):=by
 have I:=Hp.start w;obtain⟨J,o,b⟩:=M;have K:=λZ=>Hc a Z Z';rw[NR.sign] at K;by_cases h:a.fa<0
 .rw[sj h] at K;rw[show Eh a.fa= -a.fa from Q' h];refine Ga func119 ?_;refine Ib ?_;intro G Z I T q I;refine cd I (K _) ?_;intro y I;refine ea ?_;refine Gd I (Dn a _ Z' Z' Z') rfl ?_;intro f I;refine ZD ?_;intro ws I;exact⟨rfl,I.below⟩
 have E:¬uf a.fa 0<0:=λh2=>h ((Sn _ _).1 h2);generalize uf a.fa 0=c at*;rw[show Eh a.fa=a.fa from R' h];refine Ga func119 ?_;refine Ib ?_;intro G Z I T q I;refine cd I (K _) ?_;intro y I;refine ea ?_;refine Gd I (ue a _ Z' Z' Z') rfl ?_;exact xV
def UI(L)(n c:Nat)(l)(k:Nat)(w)(J:Sl w L n 3 (la NR.cells l))(Q:∀a∈l,a.ok)(u:∀a∈l,Sz k a.fa)(s:k<=3000000)(B:n<=1000000):Zc 115 #[.slice L n c] w (.agg (SR.cells ⟨nR (xc (λx y=>decide (x<y)) (l.map NR.fa)),nR (xc (λx y=>decide (y<x)) (l.map NR.fa))⟩).toArray):=by
 have I:=Hp.start w;have h1:=λZ F=>tL L n c l Z (J.ext F) Q k u s B;have h2:=λZ F=>zJ L n c l Z (J.ext F) Q k u s B;generalize xc (λx y=>decide (x<y)) (l.map NR.fa)=lo at*;generalize xc (λx y=>decide (y<x)) (l.map NR.fa)=hi at*;refine Ga func115 ?_;refine Gb ?_;intro T q I;refine cd I (h1 _ I.below) ?_;intro b I;refine mL ?_;refine cd I (h2 _ I.below) ?_;intro A I;refine abu ?_;intro ws I;exact⟨rfl,I.below⟩
def vw(L:Option Addr)(n c:Nat)(l:List SR)(k:Nat)(w:World)(J:Sl w L n 6 (la SR.cells l))(Q:∀s∈l,s.fin k)(u:k<=3000000)(hn:n<=100000):Zc 48 #[.slice L n c] w (.agg (SR.cells (Se l)).toArray):=by
 have I:=Hp.start w;have q:=J.Aa SR.len V';have Y:∀a∈Jg l,a.ok/\Sz k a.fa:=λa M=>by
  obtain⟨s,K,M⟩:=k9.1 M;obtain rfl|M:=y'.1 M
  .exact⟨(Q s K).1.ok,(Q s K).1.sz⟩
  rw[k'.1 M];exact⟨(Q s K).2.ok,(Q s K).2.sz⟩
 have x:=λA c' Z N=>UI A (2*n) c' (Jg l) k Z N (λa M=>(Y a M).1) (λa M=>(Y a M).2) u Z';refine Ga func48 ?_;refine Gb ?_;intro j w2 I;replace I:=I.yb 30 3;refine Jh 3 4 (λy v V=>∃(i e:Nat)(A:Option Addr),i<=n/\v=.int .i64 i/\y=.slice A (2*i) e/\Hp w [.row A (2*i) e 30 3 (la NR.cells (Jg (l.take i))),.blk j 36 [.bool false,.string (ByteArray.mk #[]),.int .i64 0,.bool false,.string (ByteArray.mk #[]),.int .i64 0] (0,0)] V) (λ_ v _=>n-(intOf v).toNat) ?_ ?_
 .exact⟨0,0,none,N' _,rfl,rfl,I⟩
 clear I;rintro ρ' y v V ⟨i,e,A,hi,rfl,rfl,I⟩;by_cases D:i<n
 .obtain⟨s,K⟩:=aa (l:=l) (k:=i) Z';obtain⟨ad,rfl,H⟩:=J.at_ Z';refine ea ?_;refine qh 12 I ?_;refine ub ?_;refine Wi (i) ?_;refine px ?_;refine fk [_,_,_] (λ_ hj=>((((H.ext hj.hp.below).recAt SR.len K).drop 0).take 3)) ?_;refine ub ?_;refine Wi (i) ?_;refine px ?_;refine fk [_,_,_] (λ_ hj=>((((H.ext hj.hp.below).recAt SR.len K).drop 3).take 3)) ?_;refine Nw [_,_,_,_,_,_] ?_;refine xa ?_;intro f W b m;obtain⟨G,P,v20,F,E,X,C,B,z,t,r,v11,_⟩:=m;obtain⟨T,p,o,f22⟩:Rows _ _ _ (f 11) W:=G;replace I:=b.hp;refine Be ?_;clear o b;refine pb I (i:=0) rfl rfl rfl (f22) Qa.out pa.out rfl V' (by first|rfl|exact kc _|exact Mb _|exact Ja _|exact Pa NR.one _) Z' Z' V' ?_;intro h g R I;simp only[l'] at I;refine ea ?_;replace I:=I.sub (P' _ (P' _ j'));refine⟨⟨i+1,g,h,Z',rfl,rfl, ?_⟩,by show n-(i+1)<n-i;omega, ?_⟩
  .rw[ja K,Jg,r8,Na];exact I
  exact Sb
 obtain rfl:i=n:=Z';rw[G' Z'] at I;refine ea ?_;refine cd I (x _ _ _ (I.ka (i:=0) rfl)) ?_;intro S I;refine Gb ?_;intro ws I;refine dJ (jb rfl (kb (vs:=[_,_,_,_,_,_]) pa.out (I.wa (i:=1) (n:=6) rfl rfl) rfl) Ub) ?_;exact⟨rfl,I.below⟩
def KH(g:FX)(eps:NR)(k:Nat)(w)(y:g.at_ w)(C:g.qf k)(he:eps.ok)(hz:Sz k eps.fa)(hk:k<=1000000):Zc 49 #[g.V,eps.V] w (.tuple #[.int .i64 (gl g eps.fa:Nat),.int .i64 (Gm g eps.fa)]):=by
 have I:=Hp.start w;have K:=λZ F=>Vx g k Z (y.ext F) C;unfold gl Gm;by_cases J:g.e≠0
 .rw[Q' J,Q' J];generalize g.e=E at*;refine Ga func49 ?_;refine Ib ?_;intro T w2 I s w3 I;refine cd I (K _ I.below) ?_;intro L I;refine ea ?_;exact⟨rfl,I.below⟩
 rw[R' J,R' J];replace J:g.e=0:=C9.1 J;rw[J] at K;have t:g.n<=12:=(by have h1:=(FX.fv J).2.2.1;have h2:=y.ln.1;unfold FX.ns at h1;rw[B'] at h1;omega);have X:2^g.n<=4096:=K_ (n:=2) Z' t;have hO:nu g eps.fa=(List.range (2^g.n)).find? λk:Nat=>decide (Eh (xm g (k:Int)).fa<eps.fa):=rfl;refine Ga func49 ?_;refine Ib ?_;intro T w2 I s w3 I;refine cd I (K _ I.below) ?_;intro L I;refine ea ?_;refine Jh 7 8 (λv7 v V=>∃i:Nat,i<=g.n/\v=.int .i64 i/\v7=.int .i64 (2^i:Nat)/\Hp w [.blk s 30 [.bool eps.neg,.string eps.Ra,.int .i64 eps.e] (0,0),.blk T 78 [.slice g.A g.n g.a,.slice g.B g.m g.b] (0,0)] V) (λ_ v _=>g.n-(intOf v).toNat) ?_ ?_
 .exact⟨0,N' _,rfl,rfl,I⟩
 clear I;rintro ρ' v7 v V ⟨i,hi,rfl,rfl,I⟩;by_cases hlt:i<g.n
 .have hp1:2^i*2<=4096:=p' (Nat.le_of_eq (B_ 2 i).symm) (p' (K_ Z' (show i+1<=g.n by omega)) X);generalize D:2^i=pi at*;refine ea ?_;refine⟨⟨i+1,Z',rfl,(show Value.int .i64 (2*(pi:Int))=Value.int .i64 ((2^(i+1):Nat):Int) by rw[B_,D];congr 1;omega),I⟩,by show g.n-(i+1)<g.n-i;omega, ?_⟩;exact Sb
 obtain rfl:i=g.n:=Z';generalize 2^g.n=M at*;refine ea ?_;refine rf 9 (λv V=>∃i:Nat,i<=M/\v=.int .i64 i/\(∀j,j<i->¬Eh (xm g (j:Int)).fa<eps.fa)/\Hp w [.blk s 30 [.bool eps.neg,.string eps.Ra,.int .i64 eps.e] (0,0),.blk T 78 [.slice g.A g.n g.a,.slice g.B g.m g.b] (0,0)] V) (λv _=>M-(intOf v).toNat) ?_ ?_
 .exact⟨0,N' _,rfl,λj hj=>absurd hj (A7 _),I⟩
 clear I;rintro ρ2 v w2 ⟨j,hj,rfl,c,I⟩;by_cases x:j<M
 .obtain⟨G,z1⟩:=qT (bits:=(j:Int)) C;have zA:Sz k (Eh (xm g (j:Int)).fa):=Sz.Eh z1;have o:=λZ F=>BB g (j:Int) k Z (y.ext F) C;have r:=λZ=>AG (xm g (j:Int)) Z G;have l:=λZ=>yn (nR (Eh (xm g (j:Int)).fa)) eps Z (zA.ok Z') he (hz.ok Z') (by have:=(zA.sub hz).nr.1;rw[Ta];omega);rw[Ta] at l;have hfn:M=M:=rfl;by_cases p:Eh (xm g (j:Int)).fa<eps.fa
  .have Y:nu g eps.fa=some j:=(by rw[hO];exact List.find?_range_eq_some.2 ⟨w' p,S_.2 x,λq R=>by rw[m' (c q R)];rfl⟩);rw[Y];rw[sj p] at l;generalize Eh (xm g (j:Int)).fa=A at*;generalize xm g (j:Int)=cv at*;generalize GJ g (j:Int)=ce at*;refine ea ?_;refine cd I (o _ I.below) ?_;intro N I;refine Ib ?_;intro z H I ws I;refine Od 3 I ?_;refine dC (λ_ hj=>r _) ?_;refine ub ?_;refine xa ?_;intro f W Q hV;have u:=Q.bl;obtain⟨v39,v38,v37,_⟩:=hV;replace I:=Q.hp;refine Be ?_;refine cd I (l _) ?_;intro S I;refine ea ?_;exact⟨rfl,I.below⟩
  have P:∀q:Nat,q=j->¬Eh (xm g (q:Int)).fa<eps.fa:=λq h=>by rw[h];exact p
  have hn:¬uf (Eh (xm g (j:Int)).fa) eps.fa<0:=λh=>p ((Sn _ _).1 h);generalize hA:Eh (xm g (j:Int)).fa=A at*;generalize uf A eps.fa=cc at*;generalize xm g (j:Int)=cv at*;generalize GJ g (j:Int)=ce at*;refine ea ?_;refine cd I (o _ I.below) ?_;intro N I;refine Ib ?_;intro z H I ws I;refine Od 3 I ?_;refine dC (λ_ hj=>r _) ?_;refine ub ?_;refine dn ?_;intro W I;refine cd I (l _) ?_;intro S I;refine AV ?_;intro I;refine⟨⟨j+1,Z',rfl,λq R=> ?_,I⟩,by show M-(j+1)<M-j;omega, ?_⟩
  .obtain h|h:=z_ q j
   .exact c q h
   exact P q Z'
  exact Sb
 obtain rfl:j=M:=Z';have Y:nu g eps.fa=none:=(by rw[hO,List.find?_eq_none];intro q R;rw[m' (c q (S_.1 R))];decide);rw[Y];refine ea ?_;exact⟨rfl,I.below⟩
end Go.Proofs.YtbencocchdpikaaGreatDoor
