/- Lemmas for ratioEncloses, part 2. -/
import Derived.Deep.AppendSrc
import Derived.Deep.Upon
import Derived.Test.YtbencocchdpikaaGreatDoorRows
import Derived.WalkKit
import Derived.ProofKit
import Derived.OpenShut
import Derived.Carry
import Init
import Derived.Laws.Externs
import Derived.Lib.Mul64
import Derived.Test.YtbencocchdpikaaGreatDoorZ1
set_option linter.all false
set_option maxHeartbeats 0
namespace Go.Proofs.YtbencocchdpikaaGreatDoor
open Go.Proofs.Tryz
open Go.RowKit
variable {ro:Mode}{P:Program}{N d:Nat}{ops:Array Oper}{Q:Kq}{O:Rf}{w:World}{rest:List Oper}{ty:TypeId}{pos:String}{af:Array Edge}{x:Operand}
def mI{k:IntKind}{a:Int}(p:WL ro P N ops Q rest (vd O d (.int k a)) w)(C:ev O x=.int k a:=by exact Ac rfl)(L:d<N:=by decide):WL ro P N ops Q (⟨some d,.move x,ty,pos,af,none⟩::rest) O w:=sv (Yd C) p L
def aI{k:IntKind}{a:Int}(p:WL ro P N ops Q rest (vd O d (.int k a)) w)(C:ev O x=.int k a:=by exact Ac rfl)(L:d<N:=by decide):WL ro P N ops Q (⟨some d,.assign x,ty,pos,af,none⟩::rest) O w:=sv (Sj C) p L
def mB{a:Bool}(p:WL ro P N ops Q rest (vd O d (ww a)) w)(C:ev O x=ww a:=by exact mq rfl)(L:d<N:=by decide):WL ro P N ops Q (⟨some d,.move x,ty,pos,af,none⟩::rest) O w:=sv (Yd C) p L
def aB{a:Bool}(p:WL ro P N ops Q rest (vd O d (ww a)) w)(C:ev O x=ww a:=by exact mq rfl)(L:d<N:=by decide):WL ro P N ops Q (⟨some d,.assign x,ty,pos,af,none⟩::rest) O w:=sv (Sj C) p L
def mS{a:t7}(p:WL ro P N ops Q rest (vd O d (wt a)) w)(C:ev O x=wt a:=by exact zD rfl)(L:d<N:=by decide):WL ro P N ops Q (⟨some d,.move x,ty,pos,af,none⟩::rest) O w:=sv (Yd C) p L
def aS{a:t7}(p:WL ro P N ops Q rest (vd O d (wt a)) w)(C:ev O x=wt a:=by exact zD rfl)(L:d<N:=by decide):WL ro P N ops Q (⟨some d,.assign x,ty,pos,af,none⟩::rest) O w:=sv (Sj C) p L
variable {n:Nat}
def mL{A:t6}{c:Nat}(p:WL ro P N ops Q rest (vd O d (wn A n c)) w)(C:ev O x=wn A n c:=by exact tu rfl)(L:d<N:=by decide):WL ro P N ops Q (⟨some d,.move x,ty,pos,af,none⟩::rest) O w:=sv (Yd C) p L
def aL{A:t6}{c:Nat}(p:WL ro P N ops Q rest (vd O d (wn A n c)) w)(C:ev O x=wn A n c:=by exact tu rfl)(L:d<N:=by decide):WL ro P N ops Q (⟨some d,.assign x,ty,pos,af,none⟩::rest) O w:=sv (Sj C) p L
def mT{l:List Value}(p:WL ro P N ops Q rest (vd O d (.tuple l.toArray)) w)(C:ev O x=.tuple l.toArray:=by exact acj rfl)(L:d<N:=by decide):WL ro P N ops Q (⟨some d,.move x,ty,pos,af,none⟩::rest) O w:=sv (Yd C) p L
def mF{f:Fn}{l r:List Value}(p:WL ro P N ops Q rest (vd O d (.func f l.toArray r.toArray)) w)(C:ev O x=.func f l.toArray r.toArray:=by exact Aq rfl)(L:d<N:=by decide):WL ro P N ops Q (⟨some d,.move x,ty,pos,af,none⟩::rest) O w:=sv (Yd C) p L
def aF{f:Fn}{l r:List Value}(p:WL ro P N ops Q rest (vd O d (.func f l.toArray r.toArray)) w)(C:ev O x=.func f l.toArray r.toArray:=by exact Aq rfl)(L:d<N:=by decide):WL ro P N ops Q (⟨some d,.assign x,ty,pos,af,none⟩::rest) O w:=sv (Sj C) p L
variable {H:List HE}{y:Operand}{t u:TypeId}
def Ji{k:IntKind}{a b:Int}{r:Bool}(p:WL ro P N ops Q rest (vd O d (ww r)) w)(C:ev O x=.int k a:=by exact rfl)(hy:ev O y=.int k b:=by exact rfl)(H:decide (a<b)=r:=by first|exact w' Z'|exact m' Z'|exact rfl)(L:d<N:=by decide):WL ro P N ops Q (⟨some d,.binOp .lss t x y u,ty,pos,af,none⟩::rest) O w:=sv (xM C hy) (by rw[H];exact p) L
def uV{k:IntKind}{a b:Int}{r:Bool}(p:WL ro P N ops Q rest (vd O d (ww r)) w)(C:ev O x=.int k a:=by exact rfl)(hy:ev O y=.int k b:=by exact rfl)(H:decide (a<=b)=r:=by first|exact w' Z'|exact m' Z'|exact rfl)(L:d<N:=by decide):WL ro P N ops Q (⟨some d,.binOp .leq t x y u,ty,pos,af,none⟩::rest) O w:=sv (SY C hy) (by rw[H];exact p) L
def Jr{k:IntKind}{a b:Int}{r:Bool}(p:WL ro P N ops Q rest (vd O d (ww r)) w)(C:ev O x=.int k a:=by exact rfl)(hy:ev O y=.int k b:=by exact rfl)(H:decide (b<a)=r:=by first|exact w' Z'|exact m' Z'|exact rfl)(L:d<N:=by decide):WL ro P N ops Q (⟨some d,.binOp .gtr t x y u,ty,pos,af,none⟩::rest) O w:=sv (BL C hy) (by rw[H];exact p) L
def Sy{k:IntKind}{a b:Int}{r:Bool}(p:WL ro P N ops Q rest (vd O d (ww r)) w)(C:ev O x=.int k a:=by exact rfl)(hy:ev O y=.int k b:=by exact rfl)(H:decide (b<=a)=r:=by first|exact w' Z'|exact m' Z'|exact rfl)(L:d<N:=by decide):WL ro P N ops Q (⟨some d,.binOp .geq t x y u,ty,pos,af,none⟩::rest) O w:=sv (SW C hy) (by rw[H];exact p) L
def zl{k:IntKind}{a b:Int}{r:Bool}(p:WL ro P N ops Q rest (vd O d (ww r)) w)(C:ev O x=.int k a:=by exact rfl)(hy:ev O y=.int k b:=by exact rfl)(H:decide (a=b)=r:=by first|exact w' Z'|exact m' Z'|exact rfl)(L:d<N:=by decide):WL ro P N ops Q (⟨some d,.binOp .eql t x y u,ty,pos,af,none⟩::rest) O w:=sv (YE C hy) (by rw[H];exact p) L
def Bk{k:IntKind}{a b:Int}{r:Bool}(p:WL ro P N ops Q rest (vd O d (ww r)) w)(C:ev O x=.int k a:=by exact rfl)(hy:ev O y=.int k b:=by exact rfl)(H:decide (a≠b)=r:=by first|exact w' Z'|exact m' Z'|exact rfl)(L:d<N:=by decide):WL ro P N ops Q (⟨some d,.binOp .neq t x y u,ty,pos,af,none⟩::rest) O w:=sv (iW C hy) (by rw[H];exact p) L
def al{a b:Int}(p:WL ro P N ops Q rest (vd O d (wd (a+b))) w)(C:ev O x=wd a:=by exact rfl)(hy:ev O y=wd b:=by exact rfl)(h1: -9223372036854775808<=a+b:=by omega)(h2:a+b<=9223372036854775807:=by omega)(L:d<N:=by decide):WL ro P N ops Q (⟨some d,.binOp .add t x y u,ty,pos,af,none⟩::rest) O w:=sv (HR C hy h1 h2) p L
def su{a b:Int}(p:WL ro P N ops Q rest (vd O d (wd (a-b))) w)(C:ev O x=wd a:=by exact rfl)(hy:ev O y=wd b:=by exact rfl)(h1: -9223372036854775808<=a-b:=by omega)(h2:a-b<=9223372036854775807:=by omega)(L:d<N:=by decide):WL ro P N ops Q (⟨some d,.binOp .sub t x y u,ty,pos,af,none⟩::rest) O w:=sv (CR C hy h1 h2) p L
def mulC{a b:Int}(p:WL ro P N ops Q rest (vd O d (wd (a*b))) w)(C:ev O x=wd a:=by exact rfl)(hy:ev O y=wd b:=by exact rfl)(h1: -9223372036854775808<=a*b:=by omega)(h2:a*b<=9223372036854775807:=by omega)(L:d<N:=by decide):WL ro P N ops Q (⟨some d,.binOp .mul t x y u,ty,pos,af,none⟩::rest) O w:=sv (QS C hy h1 h2) p L
variable {vs:List Value}
def ui{i:Nat}{v:Value}(p:WL ro P N ops Q rest (vd O d (v)) w)(C:ev O x=.tuple vs.toArray:=by exact rfl)(A:vs[i]?=some v:=by exact rfl)(L:d<N:=by decide):WL ro P N ops Q (⟨some d,.extract x i,ty,pos,af,none⟩::rest) O w:=sv (bc C A) p L
def dX{b:Bool}(p:WL ro P N ops Q rest (vd O d (ww !b)) w)(C:ev O x=ww b:=by exact rfl)(L:d<N:=by decide):WL ro P N ops Q (⟨some d,.unOp .not t x,ty,pos,af,none⟩::rest) O w:=sv (K1 C) p L
def Df{e:TypeId}{A:Option Addr}{c:Nat}[S:Qa P t (.slice e)](p:WL ro P N ops Q rest (vd O d (.int .i64 n)) w)(C:ev O x=.slice A n c:=by exact rfl)(L:d<N:=by decide):WL ro P N ops Q (⟨some d,.call ⟨.builtin .len, #[x], #[t]⟩,ty,pos,af,none⟩::rest) O w:=sv (pH S.out C) p L
variable {o off:Nat}
def Sk{s:TypeId}{f b:Nat}{q:TypeId}[Y:ae P s f off q](p:WL ro P N ops Q rest (vd O d (.pointer (some ⟨b,o+off,none⟩))) w)(C:ev O x=.pointer (some ⟨b,o,none⟩):=by exact rfl)(L:d<N:=by decide):WL ro P N ops Q (⟨some d,.fieldAddr s x f,ty,pos,af,none⟩::rest) O w:=sv (Mw Y.out C) p L
variable {by':Nat}{cs zc:List Value}{fz:Nat×Nat}{w0:World}
def im{b:Nat}{f:TypeId}{v:Value}(I:Hp w0 H w)(i:Nat)[S:pa P t n false by' zc](p:WL ro P N ops Q rest (vd O d (v)) w)(C:ev O x=.pointer (some ⟨b,o,none⟩):=by exact rfl)(hi:H[i]?=some (.blk b f cs fz):=by exact rfl)(A:cs[o]?=some v:=by exact rfl)(L:d<N:=by decide):WL ro P N ops Q (⟨some d,.load t x,ty,pos,af,none⟩::rest) O w:=sv (Ma S.out C (I.Dd hi A)) p L
def vf{b:Nat}{f:TypeId}(I:Hp w0 H w)(i:Nat)(vs:List Value)[S:pa P t n true by' zc](p:WL ro P N ops Q rest (vd O d (.agg vs.toArray)) w)(C:ev O x=.pointer (some ⟨b,o,none⟩):=by exact rfl)(hi:H[i]?=some (.blk b f cs fz):=by exact rfl)(A:(cs.drop o).take n=vs:=by exact rfl)(a:vs.length=n:=by exact rfl)(L:d<N:=by decide):WL ro P N ops Q (⟨some d,.load t x,ty,pos,af,none⟩::rest) O w:=sv (Ua S.out C (I.wa hi A) a) p L
variable {ag:Bool}
def ik(I:Hp w0 H w)[S:pa P t n ag by' zc](p:∀b V,Hp w0 (.blk b t zc (0,0)::H) V->WL ro P N ops Q rest (vd O d (.pointer (some ⟨b,0,none⟩))) V)(L:d<N:=by decide):WL ro P N ops Q (⟨some d,.alloc t,ty,pos,af,none⟩::rest) O w:=vS I S.out L p
def ar{v:Value}(I:Hp w0 H w)(cs:List Value)(p:∀b V,Hp w0 (.blk b t cs (0,0)::H) V->WL ro P N ops Q rest (vd O d (.pointer (some ⟨b,0,none⟩))) V)(C:ev O x=v:=by exact rfl)(E:v.cells=cs.toArray:=by exact rfl)(L:d<N:=by decide):WL ro P N ops Q (⟨some d,.box t x,ty,pos,af,none⟩::rest) O w:=kT I C E L p
def pd{f:TypeId}{b:Nat}{v:Value}(I:Hp w0 H w)(i:Nat)(vs:List Value)[S:pa P t n ag by' zc](p:∀V,Hp w0 (H.set i (.blk b f (xb cs o vs) fz)) V->WL ro P N ops Q rest O V)(C:ev O x=.pointer (some ⟨b,o,none⟩):=by exact rfl)(hi:H[i]?=some (.blk b f cs fz):=by exact rfl)(hy:ev O y=v:=by exact rfl)(E:v.cells=vs.toArray:=by exact rfl)(a:vs.length=n:=by exact rfl)(W:o+n<=cs.length:=by simp)(h1:(vs.all Value.oneCell')=true:=by exact rfl):WL ro P N ops Q (⟨none,.store t x y,ty,pos,af,none⟩::rest) O w:=It I C hi hy E S.out a W h1 p
variable {parts:Array (Nat×Operand)}
def qm{X:List (Nat×Value)}{pl:List (Nat×Nat)}(cs:List Value)[D:pa P t n true by' zc][s:nj P t pl](p:WL ro P N ops Q rest (vd O d (.agg cs.toArray)) w)(hp:ZI O parts.toList=X:=by exact rfl)(Y:ko (pl[·]?) zc X=some cs:=by exact rfl)(L:d<N:=by decide):WL ro P N ops Q (⟨some d,.build t parts,ty,pos,af,none⟩::rest) O w:=sv (Hn D.out s.out hp Y) p L
def lB{c a b:Operand}{v:Bool}(p:WL ro P N ops Q rest (vd O d (ww v)) w)(E:ev O c=ww true:=by exact rfl)(C:ev O a=ww v:=by exact mq rfl)(L:d<N:=by decide):WL ro P N ops Q (⟨some d,.pick c a b,ty,pos,af,none⟩::rest) O w:=sv (yG E C) p L
def VC{c a b:Operand}{v:Bool}(p:WL ro P N ops Q rest (vd O d (ww v)) w)(E:ev O c=ww false:=by exact rfl)(C:ev O b=ww v:=by exact mq rfl)(L:d<N:=by decide):WL ro P N ops Q (⟨some d,.pick c a b,ty,pos,af,none⟩::rest) O w:=sv (XI E C) p L
variable {j:Nat}
def gS{op:Op}{g:Nat}{b c:Bool}(p:WL ro P N ops Q rest (vd O d undef) w)(L:d<N:=by decide)(hj:(ops[j]?).bind (·.dst)=some g:=by exact rfl)(A:O g=ww c:=by exact rfl)(F:c≠b:=by decide):WL ro P N ops Q (⟨some d,op,ty,pos,af,some (j,b)⟩::rest) O w:=Hh L hj A F p
def gV{op:Op}{g:Nat}{b:Bool}(p:WL ro P N ops Q rest (vd O d undef) w)(L:d<N:=by decide)(hj:(ops[j]?).bind (·.dst)=some g:=by exact rfl)(F:nb (O g) b=true:=by exact rfl):WL ro P N ops Q (⟨some d,op,ty,pos,af,some (j,b)⟩::rest) O w:=Ip L hj F p
def gT{dd:Option Nat}{op:Op}{g:Nat}{b:Bool}(p:WL ro P N ops Q (⟨dd,op,ty,pos,af,none⟩::rest) O w)(hj:(ops[j]?).bind (·.dst)=some g:=by exact rfl)(A:O g=ww b:=by exact rfl):WL ro P N ops Q (⟨dd,op,ty,pos,af,some (j,b)⟩::rest) O w:=Fc hj A p
variable {R:Ending->World->Prop}{args:Array Operand}
def cdC{f:FuncId}{ts:Array TypeId}{v:Value}(I:Hp w0 H w)(E:Calls P f vs.toArray w λe V=>e=.returned v/\Below w.heap.size w V)[Y:ma P f](M:qw O args.toList=vs)(p:∀V,Hp w0 H V->WL ro P N ops Q rest (vd O d v) V)(L:d<N:=by decide):WL ro P N ops Q (⟨some d,.call ⟨.value (.func f),args,ts⟩,ty,pos,af,none⟩::rest) O w:=Lc E Y.out M L λ_ _ R=>⟨_,R.1,p _ (I.ext R.2)⟩
def sr{id:Nat}{y:Code}{l:List Oper}(h:WL ro P N l.toArray (Xd (λO w=>WC ro P N y Q O w) Q) l O w):WC ro P N (.seq (.region id l.toArray false) y) Q O w:=qa (mb h)
def cT{c:Operand}{x y:Code}(h:WC ro P N x Q O w)(E:ev O c=ww true:=by exact rfl):WC ro P N (.cond c x y) Q O w:=nO E h
def cF{c:Operand}{x y:Code}(h:WC ro P N y Q O w)(E:ev O c=ww false:=by exact rfl):WC ro P N (.cond c x y) Q O w:=oP E h
def qa1{fn:Func}{e:Exit}{t0:Tmp}{v0:Value}(h:R (.returned v0) w)(H:fn.results= #[.tmp t0]:=by exact rfl)(J:O t0=v0:=by first|exact Sc rfl|exact cm rfl|exact BC rfl|exact vP rfl|exact v_agg rfl|exact rfl)(he:e=.normal\/e=.ret:=by first|exact .inr rfl|exact .inl rfl):Bo P fn R e O w:=agz he H J h
variable {v1:Value}
def qa2{fn:Func}{e:Exit}{t0 t1:Tmp}{v0:Value}(h:R (.returned (.tuple #[v0,v1])) w)(H:fn.results= #[.tmp t0,.tmp t1]:=by exact rfl)(J:O t0=v0:=by first|exact Sc rfl|exact cm rfl|exact BC rfl|exact vP rfl|exact v_agg rfl|exact rfl)(h1:O t1=v1:=by first|exact Sc rfl|exact cm rfl|exact BC rfl|exact vP rfl|exact v_agg rfl|exact rfl)(he:e=.normal\/e=.ret:=by first|exact .inr rfl|exact .inl rfl):Bo P fn R e O w:=afV he H J h1 h
def qa3{fn:Func}{e:Exit}{t0 t1 t2:Tmp}{v0 v2:Value}(h:R (.returned (.tuple #[v0,v1,v2])) w)(H:fn.results= #[.tmp t0,.tmp t1,.tmp t2]:=by exact rfl)(J:O t0=v0:=by first|exact Sc rfl|exact cm rfl|exact BC rfl|exact vP rfl|exact v_agg rfl|exact rfl)(h1:O t1=v1:=by first|exact Sc rfl|exact cm rfl|exact BC rfl|exact vP rfl|exact v_agg rfl|exact rfl)(h2:O t2=v2:=by first|exact Sc rfl|exact cm rfl|exact BC rfl|exact vP rfl|exact v_agg rfl|exact rfl)(he:e=.normal\/e=.ret:=by first|exact .inr rfl|exact .inl rfl):Bo P fn R e O w:=afI he H J h1 h2 h
def dJ{fn:Func}{e:Exit}{Y:ResultVar}{v0:Value}(h1:mi P O w [Y] [v0])(h:R (.returned v0) w)(H:fn.results= #[Y]:=by exact rfl)(he:e=.normal\/e=.ret:=by first|exact .inr rfl|exact .inl rfl):Bo P fn R e O w:=adl he H h1 h
def kB{fn:Func}{e:Exit}{Y M:ResultVar}{v0:Value}(h1:mi P O w [Y,M] [v0,v1])(h:R (.returned (.tuple #[v0,v1])) w)(H:fn.results= #[Y,M]:=by exact rfl)(he:e=.normal\/e=.ret:=by first|exact .inr rfl|exact .inl rfl):Bo P fn R e O w:=aeG he H h1 h
def YH{fn:Func}{e:Exit}{Y M r:ResultVar}{v0 v2:Value}(h1:mi P O w [Y,M,r] [v0,v1,v2])(h:R (.returned (.tuple #[v0,v1,v2])) w)(H:fn.results= #[Y,M,r]:=by exact rfl)(he:e=.normal\/e=.ret:=by first|exact .inr rfl|exact .inl rfl):Bo P fn R e O w:=ae5 he H h1 h
class TS(P:Program)(t:TypeId)(n:outParam Nat):Prop where out:(P.info? t).map (·.size)=some n
instance {P:Program}{t n b:Nat}{ag:Bool}{zc:List Value}[pa P t n ag b zc]:TS P t n:=⟨pa.size⟩
variable {k:Nat}
def VZ(ops:Array Oper):Nat->Nat->Nat->Bool
 |0,_,_=>false
 |n+1,k,i=>match ops[k]? with
  |none=>false
  |some o=>(o.after.any λe=>Region.binds .any e && e.on==i)||o.after.any λe=>Region.binds .any e && VZ ops n e.on i
def av(ops:Array Oper)(L:Array Bool):Prop:=∀k o,ops[k]?=some o->L.getD k false=true->∀e∈o.after,Region.binds .any e=true->L.getD e.on false=true
variable {K:Value->World->Prop}{W:World}
def Jp{ops:Array Oper}{L:Array Bool}(E:av ops L):∀(n k i:Nat),(∀o,ops[k]?=some o->∀e∈o.after,Region.binds .any e=true->L.getD e.on false=true)->VZ ops n k i=true->L.getD i false=true
 |0,_,_,_,h=>by simp[VZ] at h
 |n+1,k,i,u,h=>by
  unfold VZ at h;split at h
  .cases h
  rename_i o W;rw[Z7] at h;obtain h|h:=h
  .obtain⟨e,he,h⟩:=Array.any_eq_true'.1 h;simp only[Z_,W8] at h;rw[<-h.2];exact u o W e he h.1
  obtain⟨e,he,h⟩:=Array.any_eq_true'.1 h;simp only[Z_] at h;have h1:=u o W e he h.1;exact Jp E n e.on i (λv K=>E e.on v K h1) h.2
variable {next:Rf->World->Prop}
structure OG(P:Program)(ops:Array Oper)(o:Oper)(O:Rf)(w:World)(K:Value->World->Prop):Prop where
 out:∀(a:Act)(next:Act->World->Prop)(Q:Exit->Act->World->Prop),(∀i,a.tmps.getD i undef=O i)->(∀v V,K v V->next (a.put o.dst v) V)->
  if Region.wanted o (yielded ops a.tmps) then o.wp P a w next Q\/(o.asks P a w/\LetsOut Q) else next (a.put o.dst undef) w
def vF{a:Act}(h:∀i,a.tmps.getD i undef=O i):a.eval=ev O:=by
 funext x
 cases x with
 |tmp t=>exact h t
 |_=>rfl
def ic{o:Oper}{v:Value}{V:World}(s:o.guard=none)(H:(execOp (ev O) o).run P w=.ok (.value v) V)(u:K v V):OG P ops o O w K:=
 ⟨λa next Q M B=>by
  rw[Q' (by simp[Region.wanted,s])];refine .inl ?_;unfold Oper.wp;rw[vF M,H];exact B _ _ u⟩
variable {Z:World}
def rb{o:Oper}{f:FuncId}{args:Array Value}(s:o.guard=none)(H:(execOp (ev O) o).run P w=.ok (.enter f args) Z)(E:Calls P f args Z R) (u:∀e V,R e V->∃v,e=.returned v/\K v V):OG P ops o O w K:=
 ⟨λa next Q M B=>by
  rw[Q' (by simp[Region.wanted,s])];refine .inl ?_;unfold Oper.wp;rw[vF M,H];show Calls P f args Z _;refine E.mono λe V hR=> ?_;obtain⟨v,rfl,b⟩:=u e V hR;exact B _ _ b⟩
def Nf{d:Option Nat}{op:Op}{ty:TypeId}{af:Array Edge}{g:Nat}{b:Bool} (hj:(ops[j]?).bind (·.dst)=some g)(A:O g=ww b)(h:OG P ops ⟨d,op,ty,pos,af,none⟩ O w K):OG P ops ⟨d,op,ty,pos,af,some (j,b)⟩ O w K:=
 ⟨λa next Q M B=>by
  have h1:Region.wanted ⟨d,op,ty,pos,af,some (j,b)⟩ (yielded ops a.tmps)=true:=by
   have h2:=M g;rw[A,K9] at h2
   cases G:a.tmps[g]? with
   |none=>rw[G] at h2;cases h2
   |some x=>
    rw[G] at h2;simp only[F9] at h2;subst h2;simp[Region.wanted,yielded,hj,G]
  have h2:=h.out a next Q M B;rw[Q' (by simp[Region.wanted])] at h2;rw[Q' h1];exact h2⟩
def TA{d:Option Nat}{op:Op}{ty:TypeId}{af:Array Edge}{g:Nat}{b c:Bool} (hj:(ops[j]?).bind (·.dst)=some g)(A:O g=ww c)(F:c≠b)(h:K undef w):OG P ops ⟨d,op,ty,pos,af,some (j,b)⟩ O w K:=
 ⟨λa next Q M B=>by
  have h1:Region.wanted ⟨d,op,ty,pos,af,some (j,b)⟩ (yielded ops a.tmps)=false:=by
   have h2:=M g;rw[A,K9] at h2
   cases G:a.tmps[g]? with
   |none=>rw[G] at h2;cases h2
   |some x=>
    rw[G] at h2;simp only[F9] at h2;subst h2;simp[Region.wanted,yielded,hj,G,F]
  rw[h1];exact B _ _ h⟩
def Oc(V:Nat->Value->World->Prop)(O U:Rf)(Z:World):List (Nat×Option Nat)->Prop
 |[]=>True
 |(t,some j)::r=>V j (U t) Z/\Oc V O U Z r
 |(t,none)::r=>U t=O t/\Oc V O U Z r
def DO(P:Program)(ops:Array Oper)(J:World->Prop)(h:Nat->Value->World->Prop)(O:Rf):Nat->List Oper->List (List (Nat×Option Nat))->Prop
 |i,o::os,s::ss=>((∀v w V,h i v w->Below w.heap.size w V->h i v V)/\∀U Z,J Z->Oc h O U Z s->OG P ops o U Z λv q=>Below Z.heap.size Z q/\h i v q)/\DO P ops J h O (i+1) os ss
 |_,[],[]=>True
 |_,_,_=>False
def kC{ops:Array Oper}{J:World->Prop}{j:Nat->Value->World->Prop}:∀(l:List Oper)(ss:List (List (Nat×Option Nat)))(i:Nat),DO P ops J j O i l ss->l.length=ss.length/\∀k o,l[k]?=some o->∃s,ss[k]?=some s/\(∀v w V,j (i+k) v w->Below w.heap.size w V->j (i+k) v V)/\∀U Z,J Z->Oc j O U Z s->OG P ops o U Z λv q=>Below Z.heap.size Z q/\j (i+k) v q
 |[],[],_,_=>⟨rfl,λk o h=>by simp at h⟩
 |[],_::_,_,h=>h.elim
 |_::_,[],_,h=>h.elim
 |o::l,s::ss,i,h=>by
  obtain⟨h1,h2⟩:=kC l ss (i+1) h.2;refine⟨by simp[h1],λk a u=> ?_⟩
  cases k with
  |zero=>
   simp only[q7,E8] at u;subst u;exact⟨s,rfl,h.1⟩
  |succ k=>
   obtain⟨s',K,G⟩:=h2 k a (by simpa using u);refine⟨s',by simpa using K, ?_⟩;have e:i+1+k=i+(k+1):=Z';rw[e] at G;exact G
def Yf(O:Rf)(f:Nat->Value):List (Nat×Nat)->Rf
 |[]=>O
 |(i,d)::r=>vd (Yf O f r) d (f i)
def ao(V:Nat->Value->World->Prop)(f:Nat->Value)(w:World):List (Nat×Nat)->Prop
 |[]=>True
 |(i,_)::r=>V i (f i) w/\ao V f w r
def ei(n k:Nat):Array Bool:=(List.replicate k true++List.replicate (n-k) false).toArray
variable {m:Nat}
def MJ(l:List Oper)(m N:Nat)(src:List (List (Nat×Option Nat)))(ds:List (Nat×Nat)):Bool:=
 let ops:=l.toArray
 let pre:=(List.range m).map λi=>((ops[i]?).bind (·.dst))
 (m<=l.length) && (src.length==m) &&
 (ds==(pre.zipIdx.filterMap λ(d,i)=>d.map λd=>(i,d)).reverse) && (decide (ds.map (·.2)).Nodup) && (ds.all λp=>p.2<N) &&
 ((List.range m).all λi=>match ops[i]?,src[i]? with
  |some o,some s=>((o.looksAt ops).all λt=>s.any λp=>p.1==t) &&
    s.all λp=>match p.2 with
     |some j=>(j<m) && ((ops[j]?).bind (·.dst)==some p.1) && VZ ops 16 i j
     |none=>(List.range m).all λj=> !((ops[j]?).bind (·.dst)==some p.1)||(j !=i && VZ ops 16 j i)
  |_,_=>false) &&
 (l.length==m||((List.range m).all λi=>VZ ops 16 m i)) &&
 ((List.range (l.length-m)).all λk=>Region.ready .any ops (ei l.length (m+k))==[m+k]) && (Region.ready .any ops (ei l.length l.length)==[]) &&
 ((List.range (l.length-m)).all λk=>k==0||VZ ops 16 (m+k) m) &&
 ((List.range l.length).all λi=>match ops[i]? with|some o=>o.after.all λe=> !Region.binds .any e||e.on<i|none=>false)
def sQ(n k i:Nat):(ei n k).getD i false=decide (i<k):=by
 unfold ei;rw[K9,L8];obtain h|h:=z_ i k
 .rw[o9 (by simpa using h)];simp[h]
 rw[R9 (by simpa using h),k6];have:¬i<k:=Z';split<;>simp[this]
def YT(n k:Nat)(u:k<n):(ei n k).setIfInBounds k true=ei n (k+1):=by
 unfold ei;rw[List.setIfInBounds_toArray];congr 1;apply s_;intro i;rw[g_];simp only[List.getElem?_append,M9,k6,D'];by_cases h1:k=i
 .subst h1;rw[Q' rfl,Q' Z',Q' (show k<k+1 by omega),Q' (show k<k+1 by omega)]
 rw[R' h1];by_cases h2:i<k
 .rw[Q' h2,Q' h2,Q' (show i<k+1 by omega),Q' (show i<k+1 by omega)]
 rw[R' h2,R' (show ¬i<k+1 by omega)];by_cases G:i-k<n-k
 .rw[Q' G,Q' (show i-(k+1)<n-(k+1) by omega)]
 rw[R' G,R' (show ¬i-(k+1)<n-(k+1) by omega)]
def jO(n k:Nat)(u:k<=n):(ei n k).size=n:=by simp[ei];omega
def Mr(n k:Nat):(ei n k).toList.countP (λb=>b)=k:=by
 simp[ei,n6]
def iq{L:Array Bool}(K:L.size=n)(u:k<=n)(h1:∀i,i<k->L.getD i false=true)(h2:∀i,k<=i->L.getD i false=false):L=ei n k:=by
 apply Array.ext
 .rw[K,jO n k u]
 intro i hi v;have N:L[i]=L.getD i false:=by simp[hi]
 have a:(ei n k)[i]=(ei n k).getD i false:=by simp[v]
 rw[N,a,sQ n k i];obtain h|h:=z_ i k
 .rw[h1 i h];simp[h]
 rw[h2 i h];have:¬i<k:=Z';simp[this]
variable {fuel:Nat}{D:List Deferred}
def Ny{l:List Oper}{b:Exit->Act->World->Prop}(m:Nat) (H:∀k,m<=k->k<l.length->Region.ready .any l.toArray (ei l.length k)=[k])(x:Region.ready .any l.toArray (ei l.length l.length)=[]):
  ∀(fuel k:Nat)(a:Act)(w:World),m<=k->k<=l.length->l.length<=fuel+k->wpList P l.toArray b (l.drop k) a w->wpAny P .any l.toArray b fuel (ei l.length k) a w
 |fuel,k,a,w,C,u,Y,h=>by
  obtain D|N:=z_ k l.length
  .cases fuel with
   |zero=>omega
   |succ fuel=>
    refine wpAny_all (H k C D) (by simp) λi hi=> ?_;obtain rfl:i=k:=by simpa using hi
    rw[m9 D] at h;unfold wpList at h;have W:l.toArray[i]?=some l[i]:=by simp[D]
    have p:=YT l.length i D;have M:∀a w,wpList P l.toArray b (l.drop (i+1)) a w->wpAny P .any l.toArray b fuel ((ei l.length i).setIfInBounds i true) a w:=λa w h=>(by rw[p];exact Ny m H x fuel (i+1) a w Z' Z' Z' h);unfold wpOp;rw[W];simp only[];split at h
    .rename_i hw;rw[Q' hw];exact h.imp (Oper.wp_mono M) id
    rename_i hw;rw[R' hw];exact M _ _ h
  obtain rfl:k=l.length:=Z';rw[List.drop_length] at h;exact wpAny_done x h fuel
structure DI(D:List Deferred)(N:Nat)(ops:Array Oper)(m:Nat)(O:Rf)(J:World->Prop)(V:Nat->Value->World->Prop)(L:Array Bool)(a:Act)(w:World):Prop where
 nd:a.defers=D
 sz:a.tmps.size=N
 j:J w
 ls:L.size=ops.size
 cl:av ops L
 tl:∀k,m<=k->L.getD k false=false
 vs:∀i d,i<m->L.getD i false=true->(ops[i]?).bind (·.dst)=some d->V i (a.tmps.getD d undef) w
 nx:∀s,(∀i,i<m->L.getD i false=true->(ops[i]?).bind (·.dst)≠some s)->a.tmps.getD s undef=O s
def Qd{L:Array Bool}{i:Nat}(hi:i<L.size):(L.setIfInBounds i true).getD j false=(decide (j=i)||L.getD j false):=by
 rw[K9,Array.getElem?_setIfInBounds];by_cases h:i=j
 .subst h;simp[hi]
 have:¬j=i:=λe=>h e.symm;simp[h,this]
def bf{a:Act}{d s:Nat}{v:Value}(T:d<a.tmps.size):(a.put (some d) v).tmps.getD s undef=if s=d then v else a.tmps.getD s undef:=by
 by_cases h:s=d
 .subst h;simp[Act.put,T]
 have:d≠s:=λe=>h e.symm;simp[Act.put,Array.getElem?_setIfInBounds_ne this,h]
def Oj(f:Nat->Value):∀(ds:List (Nat×Nat))(s:Nat),(ds.map (·.2)).Nodup->(∀i,(i,s)∈ds->Yf O f ds s=f i)/\((∀i,(i,s)∉ds)->Yf O f ds s=O s)
 |[],s,_=>⟨λi h=>by simp at h,λ_=>rfl⟩
 |(j,d)::r,s,h=>by
  rw[T_,G8] at h;obtain⟨h1,h2⟩:=Oj f r s h.2;constructor
  .intro i hi;obtain c|c:=y'.1 hi
   .injection c with N L
    subst N;subst L;exact bA _ _ _
   have E:s≠d:=λe=>h.1 (e ▸ x'.2 ⟨_,c,rfl⟩);exact(si _ E _).trans (h1 i c)
  intro B;have E:s≠d:=(by rintro rfl;exact B j E');exact(si _ E _).trans (h2 λi hi=>B i (u' _ hi))
def Lt{V:Nat->Value->World->Prop}{f:Nat->Value}{w:World}:∀(ds:List (Nat×Nat)),(∀p∈ds,V p.1 (f p.1) w)->ao V f w ds
 |[],_=>trivial
 |(i,d)::r,h=>⟨h (i,d) E',Lt r λp hp=>h p (u' _ hp)⟩
def Iq{V:Nat->Value->World->Prop}{U:Rf}{Z:World}:∀(s:List (Nat×Option Nat)),(∀p∈s,match p.2 with|some j=>V j (U p.1) Z|none=>U p.1=O p.1)->Oc V O U Z s
 |[],_=>trivial
 |(t,some j)::r,h=>⟨h (t,some j) E',Iq r λp hp=>h p (u' _ hp)⟩
 |(t,none)::r,h=>⟨h (t,none) E',Iq r λp hp=>h p (u' _ hp)⟩
theorem tW{id:Nat}{l:List Oper}(m:Nat)(src:List (List (Nat×Option Nat)))(ds:List (Nat×Nat))(J:World->Prop)(r:Nat->Value->World->Prop)(hm:P.follows .mixedOrders=true)(hok:MJ l m N src ds=true) (hJ:∀w V,J w->Below w.heap.size w V->J V)(h0:J w)(hops:DO P l.toArray J r O 0 (l.take m) src) (tail:∀f V,J V->ao r f V ds->WL ⟨none,D,false⟩ P N l.toArray Q (l.drop m) (Yf O f ds) V):WC ⟨none,D,false⟩ P N (.region id l.toArray true) Q O w:=by
 refine WC.Xo λa hf=>wp_region_any hm ?_;simp only[MJ,Z_,Y_,W8,M_,S_] at hok;obtain⟨⟨⟨⟨⟨⟨⟨⟨⟨⟨hml,_⟩,hds⟩,hnd⟩,hdN⟩,hrd⟩,Y⟩,hready⟩,hend⟩,hdep⟩,hedge⟩:=hok;have hdo:=(kC _ _ _ hops).2;have n:∀i d,i<m->((l.toArray[i]?).bind (·.dst))=some d->(i,d)∈ds:=λi d hi hd=>(by exact NY);have hdsm:∀i d,(i,d)∈ds->i<m/\((l.toArray[i]?).bind (·.dst))=some d:=λi d hp=>by
  refine eO ?_;(unhygienic intros)
  exact zW9
 have hone:∀i j d,i<m->j<m->((l.toArray[i]?).bind (·.dst))=some d->((l.toArray[j]?).bind (·.dst))=some d->i=j:=λi j d hi hj h1 h2=>by
  refine aau ?_;intro p1 p2 e1;injection e1 with _ e1
  omega
 have z:l.toArray.size=l.length:=by simp
 have full:∀(L:Array Bool)(a:Act)(w:World)(fuel:Nat),DI D N l.toArray m O J r L a w->(∀i,i<m->L.getD i false=true)->l.length<=fuel+m->wpAny P .any l.toArray (Ze N D Q) fuel L a w:=(by intro L a w fuel g X hfu;have hL:L=ei l.length m:=iq (by rw[g.ls,z]) hml X g.tl;refine XQ ?_;have hfits:Bf N D a (Yf O (λi=>match(l.toArray[i]?).bind (·.dst) with|some d=>a.tmps.getD d undef|none=>undef) ds):=(by exact aac);refine(tail _ w g.j (Lt ds λp hp=> ?_)).out a hfits;obtain⟨h1,h2⟩:=hdsm p.1 p.2 hp;exact YR);have key:∀(fuel:Nat)(L:Array Bool)(a:Act)(w:World),DI D N l.toArray m O J r L a w->fuel+L.toList.countP (λb=>b)=l.length->wpAny P .any l.toArray (Ze N D Q) fuel L a w:=by
  intro fuel
  induction fuel with
  |zero=>
   intro L a w g hc;have X:∀i,i<l.length->L.getD i false=true:=λi hi=>by
    refine yT ?_;intro h1 h2;have G:i<L.size:=by rw[g.ls,z];exact hi
    have:=h2 L[i] (by simp);simpa[G] using this
   exact abU
  |succ fuel ih=>
   intro L a w g hc;by_cases X:∀i,i<m->L.getD i false=true
   .refine full L a w (fuel+1) g X ?_;have hL:L=ei l.length m:=iq (by rw[g.ls,z]) hml X g.tl;rw[hL,Mr] at hc;omega
   have T:∃i,i<m/\L.getD i false=false:=(by exact abm);have c:∀i,i∈Region.ready .any l.toArray L↔i<l.length/\L.getD i true=false/\∃o,l.toArray[i]?=some o/\∀e∈o.after,Region.binds .any e=true->L.getD e.on false=true:=λi=>by
    unfold Region.ready;rw[A9,S_,z];constructor
    .rintro ⟨h1,h2⟩;have W:l.toArray[i]?=some l[i]:=by simp[h1]
     rw[W] at h2;simp only[n9,F9,Z_,o7] at h2;refine⟨h1,h2.1,l[i],W,λe he F=> ?_⟩;have:=X7.1 h2.2 e he;simpa[F] using this
    refine ad3 ?_;(unhygienic intros)
    cases F:Region.binds .any e with
    |false=>simp
    |true=>simpa[F] using G e he F
   refine⟨λhnil=> ?_,λi hi=> ?_⟩
   .exfalso;have hmin:∀k,(∃i,i<k/\i<m/\L.getD i false=false)->∃i,i<m/\L.getD i false=false/\∀j,j<i->L.getD j false=true:=by
     intro k
     induction k with
     |zero=>rintro ⟨i,h,_⟩;omega
     |succ k ihk=>
      refine Q0 ?_;intro i h1 h2 G hex;exact abS
    obtain⟨i0,h1,h2⟩:=T;obtain⟨i,hi,hu,hlow⟩:=hmin (i0+1) ⟨i0,Z',h1,h2⟩;have u:i<l.length:=Z';have hE:=hedge i u;have W:l.toArray[i]?=some l[i]:=by simp[u]
    rw[W] at hE;have hmem:i∈Region.ready .any l.toArray L:=(c i).2 ⟨u,by
     have G:i<L.size:=by rw[g.ls,z];exact u
     rw[K9] at hu |-;rw[D8 G] at hu |-;simpa using hu,l[i],W,λe he F=>by
     have:=X7.1 hE e he;simp only[F,V7,F_,Y_] at this;exact hlow _ this⟩
    rw[hnil] at hmem
    cases hmem
   obtain⟨u,hun,o,W,hed⟩:=(c i).1 hi;have S:i<L.size:=by rw[g.ls,z];exact u
   have hun':L.getD i false=false:=(by exact uY);have q:∀o',l.toArray[i]?=some o'->∀e∈o'.after,Region.binds .any e=true->L.getD e.on false=true:=λo' K=>(by rw[W] at K;injection K with K;subst K;exact hed);have E:i<m:=by
    obtain h|h:=z_ i m
    .exact h
    exfalso;obtain h2|h2:=z_ m i
    .refine OQ ?_;intro G h4;have:=Jp g.cl 16 i m q G;rw[g.tl m (F' _)] at this
     cases this
    obtain rfl:i=m:=Z';have h4:(l.length==i)=false:=by simp;omega
    rw[h4,F_] at Y;have h5:=M_.1 Y;obtain⟨j,hj,hju⟩:=T;have:=Jp g.cl 16 i j q (h5 j (by simpa using hj));rw[hju] at this
    cases this
   have hok':(l.take m)[i]?=some o:=(by rw[P8,Q' E];simpa using W);obtain⟨s,hs,hstab,hog⟩:=hdo i o hok';rw[i'] at hstab hog;have M:=hrd i E;rw[W,hs] at M;simp only[Z_,M_] at M;have hro:Oc r O (λt=>a.tmps.getD t undef) w s:=Iq s λp hp=>by
    have H:=M.2 p hp
    cases hp3:p.2 with
    |some j=>
     rw[hp3] at H;simp only[Z_,Y_,W8] at H;exact g.vs j p.1 H.1.1 (Jp g.cl 16 i j q H.2) H.1.2
    |none=>
     rw[hp3] at H;refine g.nx p.1 λj hj R B=> ?_;have h6:=M_.1 H j (by simpa using hj);rw[B] at h6;simp only[beq_self_eq_true,V7,F_,Z_] at h6;have:=Jp g.cl 16 j i (λo' K e he F=>g.cl j o' K R e he F) h6.2;rw[hun'] at this
     cases this
   have hgo:=(hog _ w g.j hro).out a (wpAny P .any l.toArray (Ze N D Q) fuel (L.setIfInBounds i true)) (Ze N D Q) (λ_=>rfl) (λv w2 hv=>by
    refine ih _ _ _ ?_ ?_
    .refine⟨?_, ?_,hJ _ _ g.j hv.1,by simpa using g.ls, ?_, ?_, ?_, ?_⟩
     .cases o.dst<;>exact g.nd
     .cases A:o.dst with
      |none=>exact g.sz
      |some d=>simpa[Act.put] using g.sz
     .intro k ok hk hkl e he F;rw[Qd S] at hkl |-;by_cases hki:k=i
      .subst hki;simp[q ok hk e he F]
      simp only[hki,decide_false,F_] at hkl;simp[g.cl k ok hk hkl e he F]
     .intro k hk;rw[Qd S,g.tl k hk];have:¬k=i:=Z';simp[this]
     .intro j d hj R B;rw[Qd S] at R;have hd1:∀C,o.dst=some C->C<a.tmps.size:=λC hd'=>(by rw[g.sz];exact hdN (i,C) (n i C E (by rw[W];exact hd')));by_cases hji:j=i
      .subst hji;refine cN ?_;intro B;exact hv.2
      simp only[hji,decide_false,F_] at R;have hold:=g.vs j d hj R B;have hdj:(j,d)∈ds:=n j d hj B;have hst:=(hdo j (l.toArray[j]?.getD default) (by
       have:j<l.length:=Z';rw[P8,Q' hj];simp[this])).choose_spec.2.1
      rw[i'] at hst;have hne:∀C,o.dst=some C->d≠C:=λC hd' e=>(by subst e;exact hji (hone j i d hj E B (by rw[W];exact hd')))
      cases A:o.dst with
      |none=>exact hst _ _ _ hold hv.1
      |some C=>
       rw[bf (hd1 C A),R' (hne C A)];exact hst _ _ _ hold hv.1
     refine CY ?_;(unhygienic intros)
     cases A:o.dst with
     |none=>exact hold
     |some C=>
      rw[bf (by rw[g.sz];exact hdN (i,C) (n i C E (by rw[W];exact A))),R' (λe=>hni (by rw[A,e]))];exact hold
    have hLi:L.toList[i]?=some false:=by
     have G:i<L.toList.length:=by simpa using S
     rw[D9 G];have:L.getD i false=L.toList[i]:=by simp[S]
     rw[<-this,hun']
    rw[e6,List.countP_set (by simpa using S)];have h4:L.toList[i]'(by simpa using S)=false:=(z'.1 hLi).2;rw[h4];simp only[D7,if_false,if_true];omega)
   unfold wpOp;rw[W];exact hgo
 have hJ0:J ({ w with drawn:=w.drawn+1 }:World):=hJ w _ h0 ⟨rfl,rfl,rfl,F' _,λ_ _=>rfl⟩;have hr0:∀i,(Array.replicate l.toArray.size false).getD i false=false:=λi=>(by exact fR);refine key _ _ _ _ ⟨hf.nd,hf.sz,hJ0,by simp,λk o _ hk=> ?_,λk _=>hr0 k,λi d _ hi=> ?_,λs _=>hf.at_ s⟩ ?_
 .rw[hr0] at hk;cases hk
 .rw[hr0] at hi;cases hi
 simp[n6]
def Is(c:Value):Value->World->Prop:=λv _=>v=c
def Is.ext{c:Value}(v:Value)(w V:World)(h:Is c v w)(_:Below w.heap.size w V):Is c v V:=h
structure JJ(w0:World)(H:List HE)(w W:World):Prop where
 hp:Hp w0 H W
 bl:Below w.heap.size w W
def JJ.ext{H:List HE}{c:World}(h:JJ w0 H w W)(F:Below W.heap.size W c):JJ w0 H w c:=⟨h.hp.ext F,h.bl.trans (F.mono h.bl.size)⟩
def JJ.start{H:List HE}(h:Hp w0 H w):JJ w0 H w w:=⟨h,Below.refl _ _⟩
def afg(n k:Nat)(cs:List Value):Value->World->Prop:=λv W=>∃b,v=wn (some ⟨b,0,none⟩) n n/\Sl W (some ⟨b,0,none⟩) n k cs
def Sa(w:World)(t:TypeId)(cs:List Value):Value->World->Prop:=λv W=>∃b,v=.pointer (some ⟨b,0,none⟩)/\w.heap.size<=b/\W.heap[b]?=some (.cells cs.toArray t (0,0))
def Sa.ext{t:TypeId}(v:Value)(Z q:World)(h:Sa w t cs v Z)(F:Below Z.heap.size Z q):Sa w t cs v q:=by
 obtain⟨b,h1,h2,G⟩:=h;have D:b<Z.heap.size:=by
  obtain D|N:=z_ b Z.heap.size
  .exact D
  rw[T6 N] at G;cases G
 exact⟨b,h1,h2,(F.block b D).trans G⟩
def vm{d:Option Nat}{ty:TypeId}{af:Array Edge}{t e:TypeId}{len sz:Nat}{X:List (Nat×Value)}(S:P.underlying t=some (.slice e))(D:sd P e=some (sz,ag,by',zc)) (hp:ZI O parts.toList=X)(f:zc.length=sz)(b:ko (λi=>some (i*sz,sz)) (hh len zc) X=some cs)(J:¬len*sz=0)(p:len*sz<=16777216)(Q:cs.length=len*sz) (c:∀v q,afg len sz cs v q->Below w.heap.size w q->K v q):OG P ops ⟨d,.buildSlice t len parts,ty,pos,af,none⟩ O w K:=by
 obtain⟨z,o,r⟩:=kf (w:=w) D;have Y:Below w.heap.size w (w.alloc (.cells cs.toArray e)):=(Below.refl _ _).alloc (F' _) _;refine ic rfl (V:=w.alloc (.cells cs.toArray e)) (v:=.slice (some ⟨w.heap.size,0,none⟩) len len) ?_ (c _ _ ⟨w.heap.size,rfl,Q,λ_=>⟨_,rfl,λj u hu=> ?_⟩⟩ Y)
 .have g:¬2^24<len*sz:=Z';have T:=Bx _ _ _ b;refine aaO ?_;intro T h a;simp[newRow]
 rw[Fe,i',cell_of_row _ w.heap.size j cs.toArray e (0,0) (heap_alloc_new w _)];simpa using hu
def Xc{d:Option Nat}{ty:TypeId}{af:Array Edge}{t:TypeId}{wr:World}(S:sd P t=some (n,ag,by',zc))(F:Below wr.heap.size wr w) (u:∀v q,Sa wr t zc v q->Below w.heap.size w q->K v q):OG P ops ⟨d,.alloc t,ty,pos,af,none⟩ O w K:=by
 obtain⟨z,o,r⟩:=kf (w:=w) S;exact ic rfl (V:=w.alloc (.cells zc.toArray t)) (v:=.pointer (some ⟨w.heap.size,0,none⟩)) (by simp[execOp,Instr.alloc,newVar,newRow,o,r]) (u _ _ ⟨w.heap.size,rfl,F.size,heap_alloc_new w _⟩ ((Below.refl _ _).alloc (F' _) _))
def JJ.newVar{H:List HE}{t:TypeId}{b:Nat}(h:JJ w0 H w W)(K:Hp w0 H w)(h2:w.heap.size<=b)(G:W.heap[b]?=some (.cells cs.toArray t (0,0))):Hp w0 (.blk b t cs (0,0)::H) W:=by
 refine⟨h.hp.below, ?_, ?_⟩
 .intro y hy;obtain rfl|hy:=y'.1 hy
  .exact⟨p' K.size h2,G,.inr (F' _)⟩
  exact h.hp.own y hy
 rw[C8];show(b::H.filterMap HE.id).Nodup;refine G8.2 ⟨λhm=> ?_,h.hp.nd⟩;obtain⟨y,hy,d⟩:=H9.1 hm;have:=(de (K.own y hy) d).2;omega
abbrev VP:=Value->World->Prop
def ke(pv:Nat->VP)(i:Nat)(V:VP):Nat->VP:=λj=>cond (Nat.beq j i) V (pv j)
def fW:Nat->VP:=λ_ _ _=>True
def DX(P:Program)(ops:Array Oper)(J:World->Prop)(O:Rf)(T:(Nat->VP)->Prop):Nat->(Nat->VP)->List Oper->List (List (Nat×Option Nat))->Prop
 |i,pv,o::os,s::ss=>∃h:VP,(∀v w V,h v w->Below w.heap.size w V->h v V)/\(∀U Z,J Z->Oc pv O U Z s->OG P ops o U Z λv q=>Below Z.heap.size Z q/\h v q)/\DX P ops J O T (i+1) (ke pv i h) os ss
 |_,pv,[],[]=>T pv
 |_,_,_,_=>False
def Ex(pv:Nat->VP)(i:Nat)(V:VP):ke pv i V i=V:=by simp[ke]
def Ql(pv:Nat->VP){i:Nat}(V:VP)(h:j≠i):ke pv i V j=pv j:=by
 have:Nat.beq j i=false:=by rw[Q7];intro h2;exact h (Nat.eq_of_beq_eq_true h2)
 simp only[ke,this,cond_false]
def Qk{V a:Nat->VP}{O U:Rf}{Z:World}(h:∀j v w,V j v w->a j v w):∀s,Oc V O U Z s->Oc a O U Z s
 |[],_=>trivial
 |(_,some _)::r,I=>⟨h _ _ _ I.1,Qk h r I.2⟩
 |(_,none)::r,I=>⟨I.1,Qk h r I.2⟩
def xH{P:Program}{ops:Array Oper}{J:World->Prop}{O:Rf}{T:(Nat->VP)->Prop}:∀(os:List Oper)(ss:List (List (Nat×Option Nat)))(i:Nat)(pv:Nat->VP),(∀j,i<=j->∀v w,pv j v w)->DX P ops J O T i pv os ss->
  ∃V,(∀j,j<i->V j=pv j)/\DO P ops J V O i os ss/\T V
 |[],[],_,pv,_,h=>⟨pv,λ_ _=>rfl,trivial,h⟩
 |[],_::_,_,_,_,h=>h.elim
 |_::_,[],_,_,_,h=>h.elim
 |o::os,s::ss,i,pv,n,⟨V,h1,h2,G⟩=>by
  obtain⟨a,z,b,L⟩:=xH os ss (i+1) (ke pv i V) (λj hj v w=>by rw[Ql _ _ Z'];exact n j Z' v w) G;refine aeD ?_;intro e;intro U Z hj H;rw[e];refine h2 U Z hj (Qk (λj v w I=> ?_) s H);obtain D|N:=z_ j i
  .rw[z j Z',Ql _ _ Z'] at I;exact I
  exact n j N v w
def tH{Q:Kq}{id:Nat}{l:List Oper}(m:Nat)(src:List (List (Nat×Option Nat)))(ds:List (Nat×Nat)){H:List HE}(I:Hp w0 H w)(hm:P.follows .mixedOrders=true)(y:MJ l m N src ds=true) (h:DX P l.toArray (JJ w0 H w) O (λj=>∀f V,JJ w0 H w V->ao j f V ds->WL ⟨none,D,false⟩ P N l.toArray Q (l.drop m) (Yf O f ds) V) 0 fW (l.take m) src):WC ⟨none,D,false⟩ P N (.region id l.toArray true) Q O w:=by
 obtain⟨j,_,h1,h2⟩:=xH _ _ _ _ (λ_ _ _ _=>trivial) h;exact tW m src ds (JJ w0 H w) j hm y (λ_ _ h F=>h.ext F) (JJ.start I) h1 h2
variable {J:World->Prop}{T:(Nat->VP)->Prop}{i:Nat}{pv:Nat->VP}
def xa(h:T pv):DX P ops J O T i pv [] []:=h
variable {os:List Oper}{s:List (Nat×Option Nat)}{ss:List (List (Nat×Option Nat))}
def ua{o:Oper}(h:VP)(h1:∀v w V,h v w->Below w.heap.size w V->h v V)(h2:∀U Z,J Z->Oc (pv) O U Z s->OG P ops o U Z λv q=>Below Z.heap.size Z q/\h v q) (k:DX P ops J O T (i+1) (ke pv i (h)) os ss):DX P ops J O T i pv (o::os) (s::ss):=⟨h,h1,h2,k⟩
variable {d:Option Nat}{op:Op}
def Ba{v:Value}(H:∀U Z,J Z->Oc (pv) O U Z s->(execOp (ev U) ⟨d,op,ty,pos,af,none⟩).run P Z=.ok (.value v) Z) (k:DX P ops J O T (i+1) (ke pv i (Is v)) os ss):DX P ops J O T i pv (⟨d,op,ty,pos,af,none⟩::os) (s::ss):=
 ua (Is v) Is.ext (λU Z hj h=>ic rfl (H U Z hj h) ⟨Below.refl _ _,rfl⟩) k
def iY{v:Value}{f:FuncId}{args:Array Value}(H:∀U Z,J Z->Oc (pv) O U Z s->(execOp (ev U) ⟨d,op,ty,pos,af,none⟩).run P Z=.ok (.enter f args) Z) (E:∀Z,J Z->Calls P f args Z λe V=>e=.returned v/\Below Z.heap.size Z V) (k:DX P ops J O T (i+1) (ke pv i (Is v)) os ss):DX P ops J O T i pv (⟨d,op,ty,pos,af,none⟩::os) (s::ss):=
 ua (Is v) Is.ext (λU Z hj h=>rb rfl (H U Z hj h) (E Z hj) λ_ _ R=>⟨v,R.1,R.2,rfl⟩) k
def Rows(n k:Nat)(cs:List Value):VP:=λv W=>∃A c,v=wn A n c/\Sl W A n k cs
def Rows.ext(v:Value)(w V:World)(h:Rows n k cs v w)(F:Below w.heap.size w V):Rows n k cs v V:=let⟨A,c,h1,h2⟩:=h;⟨A,c,h1,h2.ext F⟩
def CB{t e:TypeId}{len sz:Nat}{X:List (Nat×Value)}(S:P.underlying t=some (.slice e))(D:sd P e=some (sz,ag,by',zc)) (hp:∀U Z,J Z->Oc (pv) O U Z s->ZI U parts.toList=X)(f:zc.length=sz)(Y:ko (λi=>some (i*sz,sz)) (hh len zc) X=some cs)(a:¬len*sz=0)(p:len*sz<=16777216)(Q:cs.length=len*sz) (k:DX P ops J O T (i+1) (ke pv i (Rows len sz cs)) os ss):DX P ops J O T i pv (⟨d,.buildSlice t len parts,ty,pos,af,none⟩::os) (s::ss):=
 ua (Rows len sz cs) Rows.ext (λU Z hj h=>vm S D (hp U Z hj h) f Y a p Q λ_ _ ⟨_,A,K⟩ F=>⟨F,_,_,A,K⟩) k
def yF{b:Bool}{g:Nat}{v:Value}(hj:(ops[j]?).bind (·.dst)=some g)(A:∀U Z,J Z->Oc (pv) O U Z s->U g=ww b) (H:∀U Z,J Z->Oc (pv) O U Z s->(execOp (ev U) ⟨d,op,ty,pos,af,none⟩).run P Z=.ok (.value v) Z) (k:DX P ops J O T (i+1) (ke pv i (Is v)) os ss):DX P ops J O T i pv (⟨d,op,ty,pos,af,some (j,b)⟩::os) (s::ss):=
 ua (Is v) Is.ext (λU Z z h=>Nf hj (A U Z z h) (ic rfl (H U Z z h) ⟨Below.refl _ _,rfl⟩)) k
def ud{b:Bool}{g:Nat}{v:Value}{f:FuncId}{args:Array Value}(hj:(ops[j]?).bind (·.dst)=some g)(A:∀U Z,J Z->Oc (pv) O U Z s->U g=ww b) (H:∀U Z,J Z->Oc (pv) O U Z s->(execOp (ev U) ⟨d,op,ty,pos,af,none⟩).run P Z=.ok (.enter f args) Z) (E:∀Z,J Z->Calls P f args Z λe V=>e=.returned v/\Below Z.heap.size Z V) (k:DX P ops J O T (i+1) (ke pv i (Is v)) os ss):DX P ops J O T i pv (⟨d,op,ty,pos,af,some (j,b)⟩::os) (s::ss):=
 ua (Is v) Is.ext (λU Z z h=>Nf hj (A U Z z h) (rb rfl (H U Z z h) (E Z z) λ_ _ R=>⟨v,R.1,R.2,rfl⟩)) k
def TX{b c:Bool}{g:Nat}(hj:(ops[j]?).bind (·.dst)=some g)(A:∀U Z,J Z->Oc (pv) O U Z s->U g=ww c)(F:c≠b) (k:DX P ops J O T (i+1) (ke pv i (Is undef)) os ss):DX P ops J O T i pv (⟨d,op,ty,pos,af,some (j,b)⟩::os) (s::ss):=
 ua (Is undef) Is.ext (λU Z z h=>TA hj (A U Z z h) F ⟨Below.refl _ _,rfl⟩) k
variable {α:Type}
def la{α:Type}(f:α->List Value)(l:List α):List Value:=l.flatMap f
variable {f:α->List Value}{sz:Nat}
def ee(Y:∀x,(f x).length=sz)(l:List α):(la f l).length=l.length*sz:=by
 induction l with
 |nil=>simp[la]
 |cons x l W=>
  have:la f (x::l)=f x++la f l:=by simp[la]
  rw[this,D',Y,W,V_,U9];omega
def ri(x:α)(l:List α):la f (x::l)=f x++la f l:=by simp[la]
def Na(l m:List α):la f (l++m)=la f l++la f m:=by simp[la]
def Tj(x:α):la f [x]=f x:=by simp[la]
def Ai(Y:∀x,(f x).length=sz)(l:List α)(k:Nat):(la f l).drop (k*sz)=la f (l.drop k):=by
 induction l generalizing k with
 |nil=>simp[la]
 |cons x l W=>
  cases k with
  |zero=>simp
  |succ k=>rw[ri,U9,F8,<-Y x,List.drop_append,List.drop_succ_cons,<-W k,Y x];simp[Y x]
def wi(Y:∀x,(f x).length=sz)(l:List α)(k:Nat):(la f l).take (k*sz)=la f (l.take k):=by
 induction l generalizing k with
 |nil=>simp[la]
 |cons x l W=>
  cases k with
  |zero=>simp[la]
  |succ k=>rw[ri,U9,F8,J7,ri,<-W k,<-Y x,List.take_append];simp;exact G' (Nat.le_add_right _ _)
def eu(Y:∀x,(f x).length=sz){l:List α}{x:α}(h:l[k]?=some x):((la f l).drop (k*sz)).take sz=f x:=by
 obtain⟨h1,h2⟩:=z'.1 h;rw[Ai Y,m9 h1,h2,ri,W5 (by rw[Y];omega),G' (by rw[Y];omega)]
def Rd.recAt{b:Addr}{l:List α}(h:Rd w b (la f l))(Y:∀x,(f x).length=sz){x:α}(C:l[k]?=some x):Rd w (b.add (k*sz)) (f x):=by
 have:=h.elem k sz;rwa[eu Y C] at this
def Sl.Aa{A:t6}{l:List α}(h:Sl w A n sz (la f l))(Y:∀x,(f x).length=sz)(J:0<sz):l.length=n:=by
 have:=h.1;rw[ee Y] at this;exact Nat.eq_of_mul_eq_mul_right J this
def ve(Y:∀x,(f x).length=sz){l:List α}{y:α}(h:k<l.length):xb (la f l) (k*sz) (f y)=la f (l.set k y):=by
 unfold xb;rw[wi Y,Y,<-U9,Ai Y,J6,Q' h,Na,ri,J_]
def Pa(h:∀x,(f x).all Value.oneCell'=true)(l:List α):((la f l).all Value.oneCell')=true:=by
 rw[M_];intro v A;obtain⟨x,_,C⟩:=k9.1 A;exact M_.1 (h x) v C
def Wf{l:List α}{x:α}(h:l[k]?=some x):l.drop k=x::l.drop (k+1):=by
 obtain⟨h1,rfl⟩:=z'.1 h;exact m9 h1
def Sg{p:α->Bool}{l:List α}(h:l.any p=false):l.find? p=none:=by
 rw[List.find?_eq_none];intro x C;have:=P9.1 h x C;simpa using this
def Pm{p:α->Bool}{l:List α}{i:Nat}{x:α}(h:(l.take i).any p=false)(C:l[i]?=some x)(hp:p x=true):l.find? p=some x:=by
 have:l=l.take i++x::l.drop (i+1):=by rw[<-Wf C,Y9]
 rw[this,List.find?_append,Sg h,List.find?_cons_of_pos hp];rfl
def lr(acc:t3):List Edge->Nat
 |[]=>0
 |e::r=>bif Region.binds .any e then 1<<<e.on|||acc.getD e.on 0|||lr acc r else lr acc r
def Io:List Oper->t3->t3
 |[],acc=>acc
 |o::r,acc=>Io r (acc++[lr acc o.after.toList])
def js{acc:t3}{i:Nat}:∀{es:List Edge},(lr acc es).testBit i=true->∃e∈es,Region.binds .any e=true/\(e.on=i\/(acc.getD e.on 0).testBit i=true)
 |[],h=>by simp[lr] at h
 |e::r,h=>by
  unfold lr at h
  cases F:Region.binds .any e with
  |false=>
   rw[F,cond_false] at h;obtain⟨e',h1,h2⟩:=js h;exact⟨e',u' _ h1,h2⟩
  |true=>
   rw[F,cond_true,Nat.testBit_or,Nat.testBit_or,Z7,Z7] at h;obtain(h|h)|h:=h
   .refine⟨e,E',F,.inl ?_⟩;rw[Nat.one_shiftLeft,Nat.testBit_two_pow] at h;simpa using h
   .exact⟨e,E',F,.inr h⟩
   obtain⟨e',h1,h2⟩:=js h;exact⟨e',u' _ h1,h2⟩
def GF:∀(l:List Oper)(acc:t3),∃t,Io l acc=acc++t
 |[],acc=>⟨[],by simp[Io]⟩
 |o::r,acc=>(by obtain⟨t,h⟩:=GF r (acc++[lr acc o.after.toList]);exact⟨_,by rw[Io,h,J_]⟩)
def KL:∀(l:List Oper)(acc:t3)(k i:Nat),acc.length<=k->((Io l acc).getD k 0).testBit i=true->∃o,l[k-acc.length]?=some o/\∃e∈o.after,Region.binds .any e=true/\(e.on=i\/e.on<k/\((Io l acc).getD e.on 0).testBit i=true)
 |[],acc,k,i,u,h=>(by rw[Io,o_,X_ u] at h;simp at h)
 |o::r,acc,k,i,u,h=>by
  obtain D|N:=z_ acc.length k
  .have Q:(acc++[lr acc o.after.toList]).length=acc.length+1:=by simp
   obtain⟨v,h1,h2⟩:=KL r (acc++[lr acc o.after.toList]) k i Z' h;refine⟨v, ?_,h2⟩;rw[Q] at h1;rw[show k-acc.length=(k-(acc.length+1))+1 by omega,n7];exact h1
  obtain rfl:k=acc.length:=Z';obtain⟨t,S⟩:=GF r (acc++[lr acc o.after.toList]);refine⟨o,by rw[t_];rfl, ?_⟩;rw[Io,S] at h |-;rw[o_,J_,R9 (F' _),t_] at h;simp only[I',q7,F9,J'] at h;obtain⟨e,h1,h2,G⟩:=js h;refine⟨e,by simpa using h1,h2, ?_⟩;obtain G|G:=G
  .exact .inl G
  have z:e.on<acc.length:=by
   obtain P|P:=z_ e.on acc.length
   .exact P
   rw[o_,X_ P] at G;simp at G
  refine .inr ⟨z, ?_⟩;rw[o_,J_,o9 z,<-o_];exact G
def fh{l:List Oper}{M:t3}{L:Array Bool}(s:Io l []=M)(E:av l.toArray L):∀(k i:Nat),(∀o,l.toArray[k]?=some o->∀e∈o.after,Region.binds .any e=true->L.getD e.on false=true)->(M.getD k 0).testBit i=true->L.getD i false=true:=by
 intro k
 induction k using Nat.strongRecOn with
 |_ k a=>
  intro i u h;rw[<-s] at h;obtain⟨o,W,e,he,F,G⟩:=KL l [] k i (N' _) h;have K:l.toArray[k]?=some o:=by rw[L8];exact W
  have h1:=u o K e he F;obtain G|⟨G,z⟩:=G
  .rw[<-G];exact h1
  rw[s] at z;exact a e.on G i (λv q=>E e.on v q h1) z
def flL(n m:Nat)(X:t3):Array Bool:=((List.range n).map λi=>decide (i<m/\i∉X)).toArray
def ZR{i:Nat}{X:t3}(hi:i<n):(flL n m X).getD i true=decide (i<m/\i∉X):=by
 unfold flL;rw[K9,L8,C',y_ hi];rfl
def NP(Q:Kq):Prop:=∀c O w,¬Q (.panic c) O w
def Nc{fn:Func}:NP (Bo P fn R):=λ_ _ _ h=>h.1.elim nofun nofun
def Rb(h:NP Q):NP (Xd next Q):=λc O w R=>h c O w R
def Mc{id:Nat}(h:NP Q):NP (Fs id Q):=λc O w R=>h c O w R
def rA:Op->Bool
 |.extract _ _=>true
 |.move _=>true
 |_=>false
def acX(l:List Oper)(m:Nat)(X:t3)(i:Nat):Bool:=
 Region.free .any l.toArray (flL l.length m X) i && match l[i]? with
  |some ⟨some _,op,_,_,af,none⟩=>rA op && af.all λe=> !Region.binds .any e||(decide (e.on<m) && !X.contains e.on)
  |_=>false
def CO{l:List Oper}{X:t3}{i:Nat}(h:acX l m X i=true):Region.free .any l.toArray (flL l.length m X) i=true/\(∀o,l[i]?=some o->∀e∈o.after,Region.binds .any e=true->e.on<m/\e.on∉X)/\
  ∃d op ty pos af,l[i]?=some ⟨some d,op,ty,pos,af,none⟩/\rA op=true:=by
 unfold acX at h;rw[Z_] at h;obtain⟨h1,h2⟩:=h;split at h2
 .rename_i d op ty pos af W;rw[Z_] at h2;obtain⟨C,h2⟩:=h2;refine⟨h1,λo K e he F=> ?_,d,op,ty,pos,af,W,C⟩;rw[W] at K;injection K with K
  subst K;have:=X7.1 h2 e he;simp only[F,V7,F_,Z_,Y_,o7,List.contains_eq_mem,W6] at this;exact this
 cases h2
def Lh(l:List Oper)(m N:Nat)(src:List (List (Nat×Option Nat)))(ds:List (Nat×Nat))(X M:t3):Bool:=
 let ops:=l.toArray
 let pre:=(List.range m).map λi=>((ops[i]?).bind (·.dst))
 (m<=l.length) && (src.length==m) &&
 (ds==(pre.zipIdx.filterMap λ(d,i)=>d.map λd=>(i,d)).reverse) && (decide (ds.map (·.2)).Nodup) && (ds.all λp=>p.2<N) &&
 ((List.range m).all λi=>match ops[i]?,src[i]? with
  |some o,some s=>((o.looksAt ops).all λt=>s.any λp=>p.1==t) &&
    s.all λp=>match p.2 with
     |some j=>(j<m) && ((ops[j]?).bind (·.dst)==some p.1) && (M.getD i 0).testBit j
     |none=>(List.range m).all λj=> !((ops[j]?).bind (·.dst)==some p.1)||(j !=i && (M.getD j 0).testBit i)
  |_,_=>false) &&
 (l.length==m||((List.range m).all λi=>X.contains i||(M.getD m 0).testBit i)) &&
 ((List.range (l.length-m)).all λk=>Region.ready .any ops (ei l.length (m+k))==[m+k]) && (Region.ready .any ops (ei l.length l.length)==[]) &&
 ((List.range (l.length-m)).all λk=>k==0||(M.getD (m+k) 0).testBit m) &&
 ((List.range l.length).all λi=>match ops[i]? with|some o=>o.after.all λe=> !Region.binds .any e||e.on<i|none=>false) &&
 Region.noSelect ops && (X.all λi=>acX l m X i) && (Io l []==M)
def yv(P:Program)(l:List Oper):t3->Prop
 |[]=>True
 |i::r=>(∃d t ty pos af n ag by' zc,l[i]?=some ⟨some d,.alloc t,ty,pos,af,none⟩/\sd P t=some (n,ag,by',zc))/\yv P l r
def yv.at{l:List Oper}:∀{Y:t3},yv P l Y->∀i∈Y,∃d t ty pos af n ag by' zc,l[i]?=some ⟨some d,.alloc t,ty,pos,af,none⟩/\sd P t=some (n,ag,by',zc)
 |[],_,_,hi=>by simp at hi
 |j::r,h,i,hi=>by
  obtain rfl|hi:=y'.1 hi
  .exact h.1
  exact yv.at h.2 i hi
def Jo{l:List Oper}:yv P l []:=trivial
def Lq{l:List Oper}{i d t ty:Nat}{af:Array Edge}{r:t3}(h:l[i]?=some ⟨some d,.alloc t,ty,pos,af,none⟩)(S:sd P t=some (n,ag,by',zc))(H:yv P l r):yv P l (i::r):=⟨⟨d,t,ty,pos,af,n,ag,by',zc,h,S⟩,H⟩
def RI{d:Nat}{t ty:Nat}{af:Array Edge}(S:sd P t=some (n,ag,by',zc))(h:OG P ops ⟨some d,.alloc t,ty,pos,af,none⟩ O w K) (a:Act)(T:d<a.tmps.size)(next:Act->World->Prop)(Q:Exit->Act->World->Prop)(M:∀i,a.tmps.getD i undef=O i)(B:∀v V,K v V->(∃b,v=.pointer (some ⟨b,0,none⟩)/\w.heap.size<=b/\b<V.heap.size)->next (a.put (some d) v) V):
  if Region.wanted ⟨some d,.alloc t,ty,pos,af,none⟩ (yielded ops a.tmps) then(Oper.wp P ⟨some d,.alloc t,ty,pos,af,none⟩ a w next Q)\/((Oper.asks P ⟨some d,.alloc t,ty,pos,af,none⟩ a w)/\LetsOut Q) else next (a.put (some d) undef) w:=by
 have h1:=h.out a (λa' V=>∃v,a'=a.put (some d) v/\K v V) Q M λv V u=>⟨v,rfl,u⟩;have hw:Region.wanted ⟨some d,.alloc t,ty,pos,af,none⟩ (yielded ops a.tmps)=true:=by simp[Region.wanted]
 rw[Q' hw] at h1 |-;refine h1.imp (λh2=> ?_) id;obtain⟨z,o,r⟩:=kf (w:=w) S;have H:(execOp a.eval ⟨some d,.alloc t,ty,pos,af,none⟩).run P w=.ok (.value (.pointer (some ⟨w.heap.size,0,none⟩))) (w.alloc (.cells zc.toArray t)):=by simp[execOp,Instr.alloc,newVar,newRow,o,r]
 unfold Oper.wp at h2 |-;rw[H] at h2 |-;obtain⟨v,A,u⟩:∃v,a.put (some d) (.pointer (some ⟨w.heap.size,0,none⟩))=a.put (some d) v/\K v (w.alloc (.cells zc.toArray t)):=h2;have G:=C_ (λa':Act=>a'.tmps.getD d undef) A;simp only[bf T,Q'] at G;subst G;exact B _ _ u ⟨_,rfl,F' _,(X5.1 (heap_alloc_new w _)).1⟩
def XH{x:Operand}{ty d:Nat}{af:Array Edge}(f:Operand->Value)(w:World):(∃v,∀V,(execOp f ⟨some d,.extract x k,ty,pos,af,none⟩).run P V=.ok (.value v) V)\/∀a K,Oper.upon P ⟨some d,.extract x k,ty,pos,af,none⟩ a K (λ_ _ _=>False) ((execOp f ⟨some d,.extract x k,ty,pos,af,none⟩).run P w)->False:=by
 cases C:f x with
 |tuple xs=>
  cases u:xs[k]? with
  |some v=>exact .inl ⟨v,λV=>by simp[execOp,C,Instr.extract,u]⟩
  |none=>exact .inr λa K h=>by simp[execOp,C,Instr.extract,u,Oper.upon] at h
 |_=>exact .inr λa K h=>by simp[execOp,C,Instr.extract,Oper.upon] at h
def pure_run{op:Op}(hp:rA op=true){ty d:Nat}{af:Array Edge}(f:Operand->Value)(w:World):(∃v,∀V,(execOp f ⟨some d,op,ty,pos,af,none⟩).run P V=.ok (.value v) V)\/∀a K,Oper.upon P ⟨some d,op,ty,pos,af,none⟩ a K (λ_ _ _=>False) ((execOp f ⟨some d,op,ty,pos,af,none⟩).run P w)->False:=by
 unfold rA at hp;split at hp
 .exact XH f w
 .exact .inl ⟨_,λV=>by simp[execOp];rfl⟩
 cases hp
def SG{d:Nat}{op:Op}(hp:rA op=true){ty:Nat}{af:Array Edge}(h:OG P ops ⟨some d,op,ty,pos,af,none⟩ O w K)(a:Act)(T:d<a.tmps.size)(M:∀i,a.tmps.getD i undef=O i):
  ∃v,(∀V,(execOp a.eval ⟨some d,op,ty,pos,af,none⟩).run P V=.ok (.value v) V)/\K v w:=by
 have h1:=h.out a (λa' V=>∃v,a'=a.put (some d) v/\K v V) (λ_ _ _=>False) M λv V u=>⟨v,rfl,u⟩;rw[Q' (by simp[Region.wanted])] at h1;obtain h1|⟨_,_,_,h1⟩:=h1
 .unfold Oper.wp at h1;obtain⟨v,A⟩|B:=pure_run (P:=P) hp (d:=d) (ty:=ty) (pos:=pos) (af:=af) a.eval w
  .rw[A w] at h1;obtain⟨v',h2,u⟩:∃v',a.put (some d) v=a.put (some d) v'/\K v' w:=h1;have G:=C_ (λa':Act=>a'.tmps.getD d undef) h2;simp only[bf T,Q'] at G;subst G;exact⟨v,A,u⟩
  exact(B _ _ h1).elim
 exact h1.elim
structure DI2(D:List Deferred)(fr:t3)(N:Nat)(ops:Array Oper)(m:Nat)(O:Rf)(J:World->Prop)(V:Nat->Value->World->Prop)(L:Array Bool)(a:Act)(w:World):Prop where
 nd:a.defers=D
 sz:a.tmps.size=N
 j:J w
 ls:L.size=ops.size
 cl:av ops L
 tl:∀k,m<=k->L.getD k false=false
 vs:∀i d,i<m->L.getD i false=true->(ops[i]?).bind (·.dst)=some d->V i (a.tmps.getD d undef) w
 nx:∀s,(∀i,i<m->L.getD i false=true->(ops[i]?).bind (·.dst)≠some s)->a.tmps.getD s undef=O s
 fb:∀i∈fr,L.getD i false=true->∀d,(ops[i]?).bind (·.dst)=some d->∃b,a.tmps.getD d undef=.pointer (some ⟨b,0,none⟩)/\b<w.heap.size
 fd:∀i∈fr,∀j∈fr,i≠j->L.getD i false=true->L.getD j false=true->∀d e,(ops[i]?).bind (·.dst)=some d->(ops[j]?).bind (·.dst)=some e->a.tmps.getD d undef≠a.tmps.getD e undef
theorem WS{id:Nat}{l:List Oper}(fr fl M:t3)(m:Nat)(src:List (List (Nat×Option Nat)))(ds:List (Nat×Nat))(J:World->Prop)(r:Nat->Value->World->Prop)(hm:P.follows .mixedOrders=true)(hok:Lh l m N src ds fl M=true)(hfr:yv P l fr)(hfm:fr.all (λi=>i<m)=true)(hQp:NP Q) (hJ:∀w V,J w->Below w.heap.size w V->J V)(h0:J w)(hops:DO P l.toArray J r O 0 (l.take m) src) (tail:∀f V,J V->ao r f V ds->(∀i∈fr,∀j∈fr,i≠j->f i≠f j)->WL ⟨none,D,false⟩ P N l.toArray Q (l.drop m) (Yf O f ds) V):WC ⟨none,D,false⟩ P N (.region id l.toArray true) Q O w:=by
 refine ae0 ?_;(unhygienic intros)
 have hdo:=(kC _ _ _ hops).2;have u:∀i d,i<m->((l.toArray[i]?).bind (·.dst))=some d->(i,d)∈ds:=λi d hi hd=>(by exact NY);have hdsm:∀i d,(i,d)∈ds->i<m/\((l.toArray[i]?).bind (·.dst))=some d:=λi d hp=>by
  refine eO ?_;(unhygienic intros)
  exact zW9
 have hone:∀i j d,i<m->j<m->((l.toArray[i]?).bind (·.dst))=some d->((l.toArray[j]?).bind (·.dst))=some d->i=j:=λi j d hi hj h1 h2=>(by have p1:=u i d hi h1;have p2:=u j d hj h2;exact adm);have hnn:l.toArray.size=l.length:=by simp
 have F:∀i∈fr,i<m:=λi hi=>by simpa using M_.1 hfm i hi
 have full:∀(L:Array Bool)(a:Act)(w:World)(fuel:Nat),DI2 D fr N l.toArray m O J r L a w->(∀i,i<m->L.getD i false=true)->l.length<=fuel+m->wpAny P .any l.toArray (Ze N D Q) fuel L a w:=by
  intro L a w fuel g X hfu;have hL:L=ei l.length m:=iq (by rw[g.ls,hnn]) hml X g.tl;refine XQ ?_;have hfits:Bf N D a (Yf O (λi=>match(l.toArray[i]?).bind (·.dst) with|some d=>a.tmps.getD d undef|none=>undef) ds):=(by refine F0 ?_;intro s hs;rw[(Oj _ ds s hnd).2 λi hi=>hs ⟨i,hi⟩];exact g.nx s λi hi _ hd=>hs ⟨i,u i s hi hd⟩);refine(tail _ w g.j (Lt ds λp hp=> ?_) λi hi j hj hij=> ?_).out a hfits
  rotate_left
  .obtain⟨d,t,ty,pos,af,n,ag,by',zc,H,_⟩:=hfr.at i hi;obtain⟨e,t',ty',pos',af',n',ag',by'',zc',hj1,_⟩:=hfr.at j hj;have hi2:(l.toArray[i]?).bind (·.dst)=some d:=by rw[L8,H];rfl
   have hj2:(l.toArray[j]?).bind (·.dst)=some e:=by rw[L8,hj1];rfl
   rw[hi2,hj2];exact g.fd i hi j hj hij (X i (F i hi)) (X j (F j hj)) d e hi2 hj2
  obtain⟨h1,h2⟩:=hdsm p.1 p.2 hp;exact YR
 have key:∀(fuel:Nat)(L:Array Bool)(a:Act)(w:World),DI2 D fr N l.toArray m O J r L a w->fuel+L.toList.countP (λb=>b)=l.length->wpAny P .any l.toArray (Ze N D Q) fuel L a w:=by
  intro fuel
  induction fuel with
  |zero=>
   intro L a w g hc;have X:∀i,i<l.length->L.getD i false=true:=λi hi=>(by exact aat);exact abU
  |succ fuel ih=>
   intro L a w g hc;by_cases X:∀i,i<m->L.getD i false=true
   .refine full L a w (fuel+1) g X ?_;have hL:L=ei l.length m:=iq (by rw[g.ls,hnn]) hml X g.tl;rw[hL,Mr] at hc;omega
   have hsome:∃i,i<m/\L.getD i false=false:=(by exact abm);have q:∀i,i∈Region.ready .any l.toArray L↔i<l.length/\L.getD i true=false/\∃o,l.toArray[i]?=some o/\∀e∈o.after,Region.binds .any e=true->L.getD e.on false=true:=λi=>(by unfold Region.ready;rw[A9,S_,hnn];exact abT);have both:∀(i:Nat)(_:i<m)(o:Oper)(_:l.toArray[i]?=some o)(_:L.getD i false=false)(_:∀e∈o.after,Region.binds .any e=true->L.getD e.on false=true),
     OG P l.toArray o (λt=>a.tmps.getD t undef) w (λv w2=>Below w.heap.size w w2/\r i v w2)/\
     ∀v w2,(Below w.heap.size w w2/\r i v w2)->(i∈fr->∃b,v=.pointer (some ⟨b,0,none⟩)/\w.heap.size<=b/\b<w2.heap.size)->wpAny P .any l.toArray (Ze N D Q) fuel (L.setIfInBounds i true) (a.put o.dst v) w2:=λi E o W T hed=>by
    refine aaz ?_;intro S hed';have hok':(l.take m)[i]?=some o:=(by rw[P8,Q' E];simpa using W);refine DZ ?_;(unhygienic intros)
    have hro:Oc r O (λt=>a.tmps.getD t undef) w s:=Iq s λp hp=>by
     have hp2:=hrdi.2 p hp
     cases hp3:p.2 with
     |some j=>
      rw[hp3] at hp2;simp only[Z_,Y_,W8] at hp2;exact g.vs j p.1 hp2.1.1 (fh hM g.cl i j hed' hp2.2) hp2.1.2
     |none=>
      refine IZ ?_;(unhygienic intros)
      rw[T] at this
      cases this
    have A:∀v w2,(Below w.heap.size w w2/\r i v w2)->(i∈fr->∃b,v=.pointer (some ⟨b,0,none⟩)/\w.heap.size<=b/\b<w2.heap.size)->wpAny P .any l.toArray (Ze N D Q) fuel (L.setIfInBounds i true) (a.put o.dst v) w2:=λv w2 hv hfv=>by
     have hd1:∀C,o.dst=some C->C<a.tmps.size:=λC hd'=>(by rw[g.sz];exact hdN (i,C) (u i C E (by rw[W];exact hd')));have hput:∀j d,j<m->j≠i->(l.toArray[j]?).bind (·.dst)=some d->(a.put o.dst v).tmps.getD d undef=a.tmps.getD d undef:=λj d hj z B=>by
      cases hod:o.dst with
      |none=>rfl
      |some C=>rw[bf (hd1 C hod),R' λe=>z (hone j i d hj E B (by rw[W,e];exact hod))]
     refine aee ?_;intro hputi hfd;refine ih _ _ _ ?_ ?_
     .refine⟨?_, ?_,hJ _ _ g.j hv.1,by simpa using g.ls, ?_, ?_, ?_, ?_, ?_, ?_⟩
      .cases o.dst<;>exact g.nd
      .cases hod:o.dst with
       |none=>exact g.sz
       |some d=>simpa[Act.put] using g.sz
      .intro k ok hk hkl e he hb;rw[Qd S] at hkl |-;by_cases hki:k=i
       .subst hki;simp[hed' ok hk e he hb]
       simp only[hki,decide_false,F_] at hkl;simp[g.cl k ok hk hkl e he hb]
      .intro k hk;rw[Qd S,g.tl k hk];have:¬k=i:=Z';simp[this]
      .intro j d hj R B;rw[Qd S] at R;have hd1:∀C,o.dst=some C->C<a.tmps.size:=λC hd'=>(by rw[g.sz];exact hdN (i,C) (u i C E (by rw[W];exact hd')));by_cases z:j=i
       .subst z;refine cN ?_;(unhygienic intros)
        exact hv.2
       simp only[z,decide_false,F_] at R;have hold:=g.vs j d hj R B;have hdj:(j,d)∈ds:=u j d hj B;have hst:=(hdo j (l.toArray[j]?.getD default) (by
        have:j<l.length:=Z';rw[P8,Q' hj];simp[this])).choose_spec.2.1
       rw[i'] at hst;have hne:∀C,o.dst=some C->d≠C:=λC hd' e=>(by subst e;exact z (hone j i d hj E B (by rw[W];exact hd')))
       cases hod:o.dst with
       |none=>exact hst _ _ _ hold hv.1
       |some C=>
        rw[bf (hd1 C hod),R' (hne C hod)];exact hst _ _ _ hold hv.1
      .refine CY ?_;(unhygienic intros)
       cases hod:o.dst with
       |none=>exact hold
       |some C=>
        rw[bf (by rw[g.sz];exact hdN (i,C) (u i C E (by rw[W];exact hod))),R' (λe=>hni (by rw[hod,e]))];exact hold
      .intro j hj R d B;rw[Qd S] at R;by_cases z:j=i
       .subst z;obtain⟨b,hb1,_,hb3⟩:=hfv hj;exact⟨b,(hputi d B).trans hb1,hb3⟩
       simp only[z,decide_false,F_] at R;obtain⟨b,hb1,hb2⟩:=g.fb j hj R d B;exact⟨b,(hput j d (F j hj) z B).trans hb1,c_ hb2 hv.1.size⟩
      intro j hj k hk hjk R hkl d e B hke;rw[Qd S] at R hkl;by_cases z:j=i
      .subst z;have hkj:k≠j:=λe=>hjk e.symm;simp only[hkj,decide_false,F_] at hkl;rw[hputi d B,hput k e (F k hk) hkj hke];exact λhe=>hfd k hk hkj hkl hj e hke he.symm
      simp only[z,decide_false,F_] at R;by_cases hki:k=i
      .subst hki;rw[hputi e hke,hput j d (F j hj) z B];exact hfd j hj z R hk d B
      simp only[hki,decide_false,F_] at hkl;rw[hput j d (F j hj) z B,hput k e (F k hk) hki hke];exact g.fd j hj k hk hjk R hkl d e B hke
     have hLi:L.toList[i]?=some false:=by
      have G:i<L.toList.length:=by simpa using S
      rw[D9 G];have:L.getD i false=L.toList[i]:=by simp[S]
      rw[<-this,T]
     rw[e6,List.countP_set (by simpa using S)];have h4:L.toList[i]'(by simpa using S)=false:=(z'.1 hLi).2;rw[h4];simp only[D7,if_false,if_true];omega
    exact⟨hog _ w g.j hro,A⟩
   by_cases hnf:∀i,i<m->i∉fl->L.getD i false=true
   .obtain⟨i,E,T⟩:=hsome;have hif:i∈fl:=N8 λh=>by
     have h2:=hnf i E h;rw[T] at h2
     cases h2
    obtain⟨hfree,hedf,d,op,ty,pos,af,hlo,hpu⟩:=hfl i hif;have W:l.toArray[i]?=some ⟨some d,op,ty,pos,af,none⟩:=by rw[L8];exact hlo
    have hed:∀e∈af,Region.binds .any e=true->L.getD e.on false=true:=λe he hb=>(by obtain⟨h1,h2⟩:=hedf _ hlo e he hb;exact hnf e.on h1 h2);have Y:i<l.length:=Z';have S:i<L.size:=by rw[g.ls,hnn];exact Y
    have hunt:L.getD i true=false:=(by rw[K9] at T |-;rw[D8 S] at T |-;simpa using T);obtain⟨hog,A⟩:=both i E _ W T hed;obtain⟨v,hv,hk⟩:=SG hpu hog a (by rw[g.sz];exact hdN (i,d) (u i d E (by rw[W];rfl))) λ_=>rfl;refine wpAny_first (v:=v) W (Region.noSelect_spec hns) (λc a w ⟨ρ',_,hq⟩=>(hQp c ρ' w hq).elim) fuel L a w (λj oj hj z R hno=> ?_) ((q i).2 ⟨Y,hunt,_,W,hed⟩) (.inl ⟨by simp[Region.wanted],hv⟩) (A v w hk λhfr'=> ?_)
    .refine Region.free_spec W hfree j oj hj z ?_ hno;have hjlen:j<l.length:=by have:=(X5.1 hj).1;omega
     rw[ZR hjlen];rw[W6];rintro ⟨h1,h2⟩;have G:=hnf j h1 h2;have hjL:j<L.size:=by rw[g.ls,hnn];exact hjlen
     rw[K9] at G R;rw[D8 hjL] at G R;simp only[F9] at G R;rw[G] at R
     cases R
    obtain⟨C,t,ty',pos',af',n,ag,by',zc,H,_⟩:=hfr.at i hfr';rw[hlo] at H;injection H with H
    injection H with _ H
    subst H
    cases hpu
   have hsome2:∃i,i<m/\i∉fl/\L.getD i false=false:=by
    refine N8 λhn=>hnf λi hi hif=> ?_
    cases hc2:L.getD i false with
    |true=>rfl
    |false=>exact absurd ⟨i,hi,hif,hc2⟩ hn
   refine⟨λhnil=> ?_,λi hi=> ?_⟩
   .exfalso;have hmin:∀k,(∃i,i<k/\i<m/\L.getD i false=false)->∃i,i<m/\L.getD i false=false/\∀j,j<i->L.getD j false=true:=(by exact a0);obtain⟨i0,h1,h2⟩:=hsome;obtain⟨i,hi,hu,hlow⟩:=hmin (i0+1) ⟨i0,Z',h1,h2⟩;have Y:i<l.length:=Z';have hE:=hedge i Y;have W:l.toArray[i]?=some l[i]:=by simp[Y]
    rw[W] at hE;have hmem:i∈Region.ready .any l.toArray L:=(q i).2 ⟨Y,by
     have G:i<L.size:=by rw[g.ls,hnn];exact Y
     rw[K9] at hu |-;rw[D8 G] at hu |-;simpa using hu,l[i],W,λe he hb=>by
     have:=X7.1 hE e he;simp only[hb,V7,F_,Y_] at this;exact hlow _ this⟩
    rw[hnil] at hmem
    cases hmem
   obtain⟨Y,hun,o,W,hed⟩:=(q i).1 hi;have S:i<L.size:=by rw[g.ls,hnn];exact Y
   have T:L.getD i false=false:=(by exact uY);refine afH ?_;intro hed' E;obtain⟨hog,A⟩:=both i E o W T hed;have hgo:if Region.wanted o (yielded l.toArray a.tmps) then(o.wp P a w (wpAny P .any l.toArray (Ze N D Q) fuel (L.setIfInBounds i true)) (Ze N D Q))\/((o.asks P a w)/\LetsOut (Ze N D Q)) else wpAny P .any l.toArray (Ze N D Q) fuel (L.setIfInBounds i true) (a.put o.dst undef) w:=by
    by_cases hif:i∈fr
    .obtain⟨d,t,ty,pos,af,n,ag,by',zc,H,ht⟩:=hfr.at i hif;have ho2:o=⟨some d,.alloc t,ty,pos,af,none⟩:=by
      have h7:=W;rw[L8,H] at h7;injection h7 with h7
      exact h7.symm
     have hds:d<a.tmps.size:=(by rw[g.sz];exact hdN (i,d) (u i d E (by rw[W,ho2];rfl)));subst ho2;exact RI ht hog a hds _ _ (λ_=>rfl) λv V hk hb=>A v V hk λ_=>hb
    exact hog.out a _ _ (λ_=>rfl) λv w2 hv=>A v w2 hv λh=>absurd h hif
   unfold wpOp;rw[W];exact hgo
 exact adb
def JJ.qq{H:List HE}{t i:TypeId}{j:List Value}{b d:Nat}(h:JJ w0 H w W)(K:Hp w0 H w)(h2:w.heap.size<=b)(G:W.heap[b]?=some (.cells cs.toArray t (0,0))) (g:w.heap.size<=d)(a:W.heap[d]?=some (.cells j.toArray i (0,0)))(r:b≠d):Hp w0 (.blk d i j (0,0)::.blk b t cs (0,0)::H) W:=by
 have h1:=h.newVar K h2 G;refine⟨h.hp.below, ?_, ?_⟩
 .intro y hy;obtain rfl|hy:=y'.1 hy
  .exact⟨p' K.size g,a,.inr (F' _)⟩
  exact h1.own y hy
 rw[C8,C8];show(d::b::H.filterMap HE.id).Nodup;have B:∀c,w.heap.size<=c->c∉H.filterMap HE.id:=λc E hm=>(by obtain⟨y,hy,f⟩:=H9.1 hm;have:=(de (K.own y hy) f).2;omega);refine G8.2 ⟨λhm=> ?_,G8.2 ⟨B b h2,h.hp.nd⟩⟩;obtain e|hm:=y'.1 hm
 .exact r e.symm
 exact B d g hm
def fD{Q:Kq}{id:Nat}{l:List Oper}(Y X M:t3)(m:Nat)(src:List (List (Nat×Option Nat)))(ds:List (Nat×Nat)){H:List HE}(I:Hp w0 H w)(hm:P.follows .mixedOrders=true)(y:Lh l m N src ds X M=true) (k:yv P l Y)(L:Y.all (λi=>i<m)=true)(A:NP Q) (h:DX P l.toArray (JJ w0 H w) O (λo=>∀f V,JJ w0 H w V->ao o f V ds->(∀i∈Y,∀j∈Y,i≠j->f i≠f j)->WL ⟨none,D,false⟩ P N l.toArray Q (l.drop m) (Yf O f ds) V) 0 fW (l.take m) src):WC ⟨none,D,false⟩ P N (.region id l.toArray true) Q O w:=by
 obtain⟨o,_,h1,h2⟩:=xH _ _ _ _ (λ_ _ _ _=>trivial) h;exact WS Y X M m src ds (JJ w0 H w) o hm y k L A (λ_ _ h F=>h.ext F) (JJ.start I) h1 h2
def UJ{f:Nat->Value}{i b d:Nat}{Y:t3}(h:∀i∈Y,∀j∈Y,i≠j->f i≠f j)(hi:i∈Y)(hj:j∈Y)(C:i≠j)(h1:f i=.pointer (some ⟨b,0,none⟩))(h2:f j=.pointer (some ⟨d,0,none⟩)):b≠d:=λe=>h i hi j hj C (by rw[h1,h2,e])
def Ay(O:Rf):List (Nat×Value)->Rf
 |[]=>O
 |(d,v)::r=>vd (Ay O r) d v
def EqL(f:Nat->Value):List (Nat×Nat)->List (Nat×Value)->Prop
 |[],[]=>True
 |(i,d)::r,(C,v)::s=>(d=C/\f i=v)/\EqL f r s
 |_,_=>False
def Vu{O:Rf}{f:Nat->Value}:∀{ds:List (Nat×Nat)}{vs:List (Nat×Value)},EqL f ds vs->Yf O f ds=Ay O vs
 |[],[],_=>rfl
 |[],_::_,h=>h.elim
 |_::_,[],h=>h.elim
 |(i,d)::r,(C,v)::s,h=>(by obtain⟨⟨rfl,rfl⟩,h2⟩:=h;rw[Yf,Ay,Vu h2])
def DE{f:Nat->Value}:EqL f [] []:=trivial
def Gf{f:Nat->Value}{i d:Nat}{v:Value}{r:List (Nat×Nat)}{s:List (Nat×Value)}(h:f i=v)(H:EqL f r s):EqL f ((i,d)::r) ((d,v)::s):=⟨⟨rfl,h⟩,H⟩
def WE{Q:Kq}{l:List Oper}{ρ':Rf}(h:O=ρ')(k:WL ro P N ops Q l ρ' w):WL ro P N ops Q l O w:=h ▸ k
def Mx{op:Op}{g:Nat}{b:Bool}(hj:(ops[j]?).bind (·.dst)=some g)(A:O g=undef)(h:K undef w):OG P ops ⟨d,op,ty,pos,af,some (j,b)⟩ O w K:=
 ⟨λa next Q M B=>by
  have h1:Region.wanted ⟨d,op,ty,pos,af,some (j,b)⟩ (yielded ops a.tmps)=false:=by
   have h2:=M g;rw[A,K9] at h2
   cases G:a.tmps[g]? with
   |none=>simp[Region.wanted,yielded,hj,G]
   |some x=>
    rw[G] at h2;simp only[F9] at h2;subst h2;simp[Region.wanted,yielded,hj,G,undef]
  rw[h1];exact B _ _ h⟩
def BU{b:Bool}{op:Op}{g:Nat}(hj:(ops[j]?).bind (·.dst)=some g)(A:∀U Z,J Z->Oc (pv) O U Z s->U g=undef) (k:DX P ops J O T (i+1) (ke pv i (Is undef)) os ss):DX P ops J O T i pv (⟨d,op,ty,pos,af,some (j,b)⟩::os) (s::ss):=
 ua (Is undef) Is.ext (λU Z z h=>Mx hj (A U Z z h) ⟨Below.refl _ _,rfl⟩) k
def rl{b:Bool}{g:Nat}{t e:TypeId}{len sz:Nat}{X:List (Nat×Value)}(hj:(ops[j]?).bind (·.dst)=some g)(c:∀U Z,J Z->Oc (pv) O U Z s->U g=.bool b) (S:P.underlying t=some (.slice e))(D:sd P e=some (sz,ag,by',zc)) (hp:∀U Z,J Z->Oc (pv) O U Z s->ZI U parts.toList=X)(f:zc.length=sz)(Y:ko (λi=>some (i*sz,sz)) (hh len zc) X=some cs)(a:¬len*sz=0)(p:len*sz<=16777216)(Q:cs.length=len*sz) (k:DX P ops J O T (i+1) (ke pv i (Rows len sz cs)) os ss):DX P ops J O T i pv (⟨d,.buildSlice t len parts,ty,pos,af,some (j,b)⟩::os) (s::ss):=
 ua (Rows len sz cs) Rows.ext (λU Z z h=>Nf hj (c U Z z h) (vm S D (hp U Z z h) f Y a p Q λ_ _ ⟨_,A,K⟩ F=>⟨F,_,_,A,K⟩)) k
def Hp.Wc{f:α->List Value}{sz:Nat}{H:List HE}{i c e g:Nat}{l:List α}{x:α}(I:Hp w0 H w)(hi:H[i]?=some (.row (some ⟨g,0,none⟩) n c e sz (la f l)))(Y:∀x,(f x).length=sz)(J:0<sz)(C:l[k]?=some x):Rd w ⟨g,k*sz,none⟩ (f x):=by
 have K:=I.ka hi;have Q:=K.Aa Y J;obtain⟨b,h1,h2⟩:=K.2 (by have:=(z'.1 C).1;omega);injection h1 with h1
 subst h1;have G:=h2.recAt Y C;rwa[Fe,i'] at G
structure WA(P:Program)(N:Nat)(ops:Array Oper)(Q:Kq)(fuel:Nat)(L:Array Bool)(O:Rf)(w:World):Prop where
 out:∀a,Fits N a O->wpAny P .any ops (lift N Q) fuel L a w
def uz{o:Oper}{a:Act}{K:Act->World->Prop}{r:Result Next}(h:o.upon P a K (lift N (Xd next Q)) r):o.upon P a K (lift N Q) r:=by
 have hp:∀c a w,lift N (Xd next Q) (.panic c) a w->lift N Q (.panic c) a w:=λ_ _ _ h=>h;have W:LetsOut (lift N (Xd next Q))->LetsOut (lift N Q):=λ⟨a,w,h⟩=>⟨a,w,h⟩
 cases r with
 |ok n V=>
  cases n<;>simp only[Oper.upon] at h |- <;>first
   |exact h
   |exact Calls.mono h (λe b he=>by cases e<;>first|exact he|exact hp _ _ _ he|exact W he)
 |halt x V=>cases x<;>simp only[Oper.upon] at h |- <;>first|exact h|exact hp _ _ _ h|exact W h
variable {rs:t3}
def pM{L:Array Bool}(H:Region.ready .any ops L=rs)(E:rs≠[]) (h:∀i∈rs,∃o,ops[i]?=some o/\WL .plain P N ops (Xd (λO w=>WA P N ops Q fuel (L.setIfInBounds i true) O w) Q) [o] O w):WA P N ops Q (fuel+1) L O w:=by
 refine⟨λa Y=>wpAny_all H E λi hi=> ?_⟩;obtain⟨o,W,hw⟩:=h i hi;have h1:=hw.out a Y;have y:∀a w,wpList P ops (lift N (Xd (λO w=>WA P N ops Q fuel (L.setIfInBounds i true) O w) Q)) [] a w->wpAny P .any ops (lift N Q) fuel (L.setIfInBounds i true) a w:=λa w ⟨ρ',T,R⟩=>(by have x:WA P N ops Q fuel (L.setIfInBounds i true) ρ' w:=R;exact x.out a T);unfold wpOp;rw[W];simp only[];unfold wpList at h1;split at h1
 .rename_i K;rw[Q' K];refine h1.imp (λh2=>Oper.wp_mono y ?_) (λh2=>⟨h2.1, ?_⟩)
  .unfold Oper.wp at h2 |-;exact uz h2
  obtain⟨a',V,G⟩:=h2.2;exact⟨a',V,G⟩
 rename_i K;rw[R' K];exact y _ _ h1
def Oe{L:Array Bool}{i:Nat}{o:Oper}(H:Region.ready .any ops L=[i])(W:ops[i]?=some o) (h:WL .plain P N ops (Xd (λO w=>WA P N ops Q fuel (L.setIfInBounds i true) O w) Q) [o] O w):WA P N ops Q (fuel+1) L O w:=
 pM H (by simp) λj hj=>by
  obtain rfl:j=i:=by simpa using hj
  exact⟨o,W,h⟩
def dA{L:Array Bool}{i i2:Nat}{o v:Oper}(H:Region.ready .any ops L=[i,i2])(W:ops[i]?=some o)(q:ops[i2]?=some v) (h:WL .plain P N ops (Xd (λO w=>WA P N ops Q fuel (L.setIfInBounds i true) O w) Q) [o] O w) (h2:WL .plain P N ops (Xd (λO w=>WA P N ops Q fuel (L.setIfInBounds i2 true) O w) Q) [v] O w):WA P N ops Q (fuel+1) L O w:=
 pM H (by simp) λj hj=>by
  obtain rfl|hj:=y'.1 hj
  .exact⟨o,W,h⟩
  obtain rfl:j=i2:=by simpa using hj
  exact⟨v,q,h2⟩
def Bd{L:Array Bool}(h:WA P N ops Q fuel L O w):WL .plain P N ops (Xd (λO w=>WA P N ops Q fuel L O w) Q) [] O w:=ia h
def Mj{l:List Oper}{L:Array Bool}(m:Nat)(hm:m<=l.length)(b:L=ei l.length m)(Y:l.length<=fuel+m) (H:((List.range (l.length-m)).all λk=>Region.ready .any l.toArray (ei l.length (m+k))==[m+k])=true)(x:Region.ready .any l.toArray (ei l.length l.length)=[]) (h:WL .plain P N l.toArray Q (l.drop m) O w):WA P N l.toArray Q fuel L O w:=
 ⟨λa t=>by
  rw[b];refine Ny m (λk h1 h2=> ?_) x fuel m a w (F' _) hm Y (h.out a t);have G:=M_.1 H (k-m) (by simp;omega);rw[show m+(k-m)=k by omega] at G;exact eq_of_beq G⟩
def Xs{id:Nat}{l:List Oper}{H:List HE}(I:Hp w0 H w)(hm:P.follows .mixedOrders=true)(h:∀V,JJ w0 H w V->WA P N l.toArray Q l.length (Array.replicate l.length false) O V):WC .plain P N (.region id l.toArray true) Q O w:=by
 refine WC.Xo λa Y=>wp_region_any hm ?_;have F:Below w.heap.size w ({ w with drawn:=w.drawn+1 }:World):=⟨rfl,rfl,rfl,F' _,λ_ _=>rfl⟩;have:=(h _ ((JJ.start I).ext F)).out a Y;simpa using this
def pQ:t3->List (t3)
 |[]=>[[]]
 |x::r=>pQ r++(pQ r).map (x:: ·)
def sw(p:Nat->Bool):∀l:t3,l.filter p∈pQ l
 |[]=>by simp[pQ]
 |x::r=>by
  have W:=sw p r;rw[List.filter_cons,pQ];split
  .exact H_ _ (x'.2 ⟨_,W,rfl⟩)
  exact q9 _ W
def lD(n m:Nat)(X D:t3):Array Bool:=((List.range n).map λi=>decide (i<m/\(i∉X\/i∈D))).toArray
def cM(l:List Oper)(X D:t3):Bool:=D.all λi=>match l[i]? with
 |some o=>o.after.all λe=> !Region.binds .any e|| !X.contains e.on||D.contains e.on
 |none=>true
def dsD(ds:List (Nat×Nat))(X D:t3):List (Nat×Nat):=ds.filter λp=> !X.contains p.1||D.contains p.1
def uF(l:List Oper)(m:Nat)(X:t3)(ds:List (Nat×Nat)):List (t3×Nat×List (Nat×Nat)):=((pQ X).filter (cM l X)).map λD=>(D,l.length-(lD l.length m X D).toList.countP (λb=>b)-1,dsD ds X D)
def Zw(l:List Oper)(m N:Nat)(src:List (List (Nat×Option Nat)))(ds:List (Nat×Nat))(X M:t3):Bool:=
 let ops:=l.toArray
 let pre:=(List.range m).map λi=>((ops[i]?).bind (·.dst))
 (m<=l.length) && (src.length==m) &&
 (ds==(pre.zipIdx.filterMap λ(d,i)=>d.map λd=>(i,d)).reverse) && (decide (ds.map (·.2)).Nodup) && (ds.all λp=>p.2<N) &&
 ((List.range m).all λi=>match ops[i]?,src[i]? with
  |some o,some s=>((o.looksAt ops).all λt=>s.any λp=>p.1==t) &&
    s.all λp=>match p.2 with
     |some j=>(j<m) && ((ops[j]?).bind (·.dst)==some p.1) && (M.getD i 0).testBit j
     |none=>(List.range m).all λj=> !((ops[j]?).bind (·.dst)==some p.1)||(j !=i && (M.getD j 0).testBit i)
  |_,_=>false) &&
 (l.length==m||((List.range m).all λi=>X.contains i||(M.getD m 0).testBit i)) &&
 ((List.range (l.length-m)).all λk=>k==0||(M.getD (m+k) 0).testBit m) &&
 ((List.range l.length).all λi=>match ops[i]? with|some o=>o.after.all λe=> !Region.binds .any e||e.on<i|none=>false) && (Io l []==M)
theorem kG{id:Nat}{l:List Oper}(fr X M:t3)(m:Nat)(src:List (List (Nat×Option Nat)))(ds:List (Nat×Nat))(Ds:List (t3×Nat×List (Nat×Nat)))(J:World->Prop)(r:Nat->Value->World->Prop)(hm:P.follows .mixedOrders=true)(hok:Zw l m N src ds X M=true)(hDs:uF l m X ds=Ds)(hmn:m<l.length)(hfr:yv P l fr)(hfm:fr.all (λi=>i<m)=true) (hJ:∀w V,J w->Below w.heap.size w V->J V)(h0:J w)(hops:DO P l.toArray J r O 0 (l.take m) src) (tail:∀p∈Ds,∀f V,J V->ao r f V p.2.2->(∀i∈fr,∀j∈fr,i≠j->(!X.contains i||p.1.contains i)=true->(!X.contains j||p.1.contains j)=true->f i≠f j)->WL .plain P N l.toArray (Xd (λO w=>WA P N l.toArray Q p.2.1 ((lD l.length m X p.1).setIfInBounds m true) O w) Q) ((l.drop m).take 1) (Yf O f p.2.2) V):WC .plain P N (.region id l.toArray true) Q O w:=by
 refine WC.Xo λa hf=>wp_region_any hm ?_;simp only[Zw,Z_,Y_,W8,M_,S_] at hok;obtain⟨⟨⟨⟨⟨⟨⟨⟨⟨hml,_⟩,hds⟩,hnd⟩,hdN⟩,hrd⟩,htail⟩,hdep⟩,hedge⟩,hM⟩:=hok;have hdo:=(kC _ _ _ hops).2;have q:∀i d,i<m->((l.toArray[i]?).bind (·.dst))=some d->(i,d)∈ds:=λi d hi hd=>(by exact NY);have hdsm:∀i d,(i,d)∈ds->i<m/\((l.toArray[i]?).bind (·.dst))=some d:=λi d hp=>(by refine eO ?_;intro x k hx hxe;exact zW9);have hone:∀i j d,i<m->j<m->((l.toArray[i]?).bind (·.dst))=some d->((l.toArray[j]?).bind (·.dst))=some d->i=j:=λi j d hi hj h1 h2=>(by have p1:=q i d hi h1;have p2:=q j d hj h2;exact adm);have hnn:l.toArray.size=l.length:=by simp
 have A:∀i∈fr,i<m:=λi hi=>by simpa using M_.1 hfm i hi
 have part:∀(L:Array Bool)(a:Act)(w:World)(fuel:Nat),DI2 [] fr N l.toArray m O J r L a w->(∀i,i<m->i∉X->L.getD i false=true)->fuel+1+L.toList.countP (λb=>b)=l.length->∀o,l.toArray[m]?=some o->
   wpOp P l.toArray (lift N Q) m (wpAny P .any l.toArray (lift N Q) fuel (L.setIfInBounds m true)) a w:=by
  intro L a w fuel g Y hfu o W;have u:∀i,i∈X.filter (λi=>L.getD i false)↔i∈X/\L.getD i false=true:=λi=>by rw[A9]
  have hL:L=lD l.length m X (X.filter λi=>L.getD i false):=by
   apply Array.ext (by simp[lD,g.ls]);intro i h1 h2;have e1:L.getD i false=L[i]:=by simp[h1]
   rw[<-e1];simp only[lD,List.getElem_toArray,List.getElem_map,List.getElem_range];obtain h|h:=z_ i m
   .by_cases D:i∈X
    .cases hc:L.getD i false with
     |true=>exact(w' ⟨h,.inr ((u i).2 ⟨D,hc⟩)⟩).symm
     |false=>exact(m' λI=>I.2.elim (λhn=>hn D) λhd=>by rw[((u i).1 hd).2] at hc;cases hc).symm
    rw[Y i h D];exact(w' ⟨h,.inl D⟩).symm
   rw[g.tl i h];exact(m' λI=>by omega).symm
  have hcl:cM l X (X.filter λi=>L.getD i false)=true:=M_.2 λi hi=>by
   obtain⟨h1,h2⟩:=(u i).1 hi
   cases hli:l[i]? with
   |none=>rfl
   |some oi=>
    refine X7.2 λe he=> ?_
    cases hb:Region.binds .any e with
    |false=>rfl
    |true=>
     have G:=g.cl i oi (by rw[L8];exact hli) h2 e he hb;by_cases hef:e.on∈X
     .rw[Z7];exact .inr (c6.2 ((u _).2 ⟨hef,G⟩))
     simp[hef]
  have hmem:(X.filter (λi=>L.getD i false),l.length-(lD l.length m X (X.filter λi=>L.getD i false)).toList.countP (λb=>b)-1,dsD ds X (X.filter λi=>L.getD i false))∈Ds:=(by rw[<-hDs];exact x'.2 ⟨_,A9.2 ⟨sw _ _,hcl⟩,rfl⟩);have hfu':l.length-L.toList.countP (λb=>b)-1=fuel:=Z';have htl:=tail _ hmem;simp only[<-hL,hfu'] at htl;have hsub:∀p∈dsD ds X (X.filter λi=>L.getD i false),p∈ds/\L.getD p.1 false=true:=λp hp=>by
   obtain⟨h1,h2⟩:=A9.1 hp;refine⟨h1, ?_⟩;simp only[Z7,o7,List.contains_eq_mem,W6,Y_] at h2;obtain h2|h2:=h2
   .exact Y _ (hdsm _ _ h1).1 h2
   exact((u _).1 h2).2
  have hnd':((dsD ds X (X.filter λi=>L.getD i false)).map (·.2)).Nodup:=(List.filter_sublist.map _).nodup hnd;have hfits:Fits N a (Yf O (λi=>match(l.toArray[i]?).bind (·.dst) with|some d=>a.tmps.getD d undef|none=>undef) (dsD ds X (X.filter λi=>L.getD i false))):=by
   refine⟨g.nd,g.sz,λs=> ?_⟩;by_cases hs:∃i,(i,s)∈dsD ds X (X.filter λi=>L.getD i false)
   .obtain⟨i,hi⟩:=hs;rw[(Oj _ _ s hnd').1 i hi,(hdsm i s (hsub _ hi).1).2]
   rw[(Oj _ _ s hnd').2 λi hi=>hs ⟨i,hi⟩];refine g.nx s λi hi hil hd=>hs ⟨i,A9.2 ⟨q i s hi hd, ?_⟩⟩;by_cases D:i∈X
   .rw[Z7];exact .inr (c6.2 ((u i).2 ⟨D,hil⟩))
   simp[D]
  have h1:=(htl (λi=>match(l.toArray[i]?).bind (·.dst) with|some d=>a.tmps.getD d undef|none=>undef) w g.j (Lt _ λp hp=>by
   obtain⟨h1,h2⟩:=hsub p hp;obtain⟨G,h4⟩:=hdsm p.1 p.2 h1;have:=g.vs p.1 p.2 G h2 h4;rw[h4];exact this) λi hi j hj hij hpi hpj=>by
    obtain⟨d,t,ty,pos,af,n,ag,by',zc,hi1,_⟩:=hfr.at i hi;obtain⟨e,t',ty',pos',af',n',ag',by'',zc',hj1,_⟩:=hfr.at j hj;have hi2:(l.toArray[i]?).bind (·.dst)=some d:=by rw[L8,hi1];rfl
    have hj2:(l.toArray[j]?).bind (·.dst)=some e:=by rw[L8,hj1];rfl
    have hup:∀i∈fr,(!X.contains i||(X.filter λi=>L.getD i false).contains i)=true->L.getD i false=true:=λi hi hp=>by
     by_cases hf:i∈X
     .rw[c6.2 hf,V7,F_] at hp;exact((u i).1 (c6.1 hp)).2
     exact Y i (A i hi) hf
    rw[hi2,hj2];exact g.fd i hi j hj hij (hup i hi hpi) (hup j hj hpj) d e hi2 hj2).out a hfits
  have hone':(l.drop m).take 1=[o]:=(by rw[L8] at W;obtain⟨h2,G⟩:=z'.1 W;rw[m9 h2,G];rfl);rw[hone'] at h1;have hK:∀a w,wpList P l.toArray (lift N (Xd (λO w=>WA P N l.toArray Q fuel (L.setIfInBounds m true) O w) Q)) [] a w->wpAny P .any l.toArray (lift N Q) fuel (L.setIfInBounds m true) a w:=λa w ⟨ρ',hf',hq⟩=>(by have hq':WA P N l.toArray Q fuel (L.setIfInBounds m true) ρ' w:=hq;exact hq'.out a hf');unfold wpOp;rw[W];simp only[];unfold wpList at h1;split at h1
  .rename_i hwt;rw[Q' hwt];refine h1.imp (λh2=>Oper.wp_mono hK ?_) (λh2=>⟨h2.1, ?_⟩)
   .unfold Oper.wp at h2 |-;exact uz h2
   obtain⟨a',V,G⟩:=h2.2;exact⟨a',V,G⟩
  rename_i hwt;rw[R' hwt];exact hK _ _ h1
 have key:∀(fuel:Nat)(L:Array Bool)(a:Act)(w:World),DI2 [] fr N l.toArray m O J r L a w->fuel+L.toList.countP (λb=>b)=l.length->wpAny P .any l.toArray (lift N Q) fuel L a w:=by
  intro fuel
  induction fuel with
  |zero=>
   intro L a w g hc;have Y:∀i,i<l.length->L.getD i false=true:=λi hi=>(by exact aat);have h1:=Y m hmn;rw[g.tl m (F' _)] at h1
   cases h1
  |succ fuel ih=>
   intro L a w g hc;have c:∀i,i∈Region.ready .any l.toArray L↔i<l.length/\L.getD i true=false/\∃o,l.toArray[i]?=some o/\∀e∈o.after,Region.binds .any e=true->L.getD e.on false=true:=λi=>(by unfold Region.ready;rw[A9,S_,hnn];exact abT);have both:∀(i:Nat)(_:i<m)(o:Oper)(_:l.toArray[i]?=some o)(_:L.getD i false=false)(_:∀e∈o.after,Region.binds .any e=true->L.getD e.on false=true),
     OG P l.toArray o (λt=>a.tmps.getD t undef) w (λv w2=>Below w.heap.size w w2/\r i v w2)/\
     ∀v w2,(Below w.heap.size w w2/\r i v w2)->(i∈fr->∃b,v=.pointer (some ⟨b,0,none⟩)/\w.heap.size<=b/\b<w2.heap.size)->wpAny P .any l.toArray (lift N Q) fuel (L.setIfInBounds i true) (a.put o.dst v) w2:=λi E o W hun' hed=>by
    refine aaz ?_;intro S hed';have hok':(l.take m)[i]?=some o:=(by rw[P8,Q' E];simpa using W);refine DZ ?_;(unhygienic intros)
    have hro:Oc r O (λt=>a.tmps.getD t undef) w s:=Iq s λp hp=>by
     have hp2:=hrdi.2 p hp
     cases hp3:p.2 with
     |some j=>
      rw[hp3] at hp2;simp only[Z_,Y_,W8] at hp2;exact g.vs j p.1 hp2.1.1 (fh hM g.cl i j hed' hp2.2) hp2.1.2
     |none=>
      refine IZ ?_;(unhygienic intros)
      rw[hun'] at this
      cases this
    have H:∀v w2,(Below w.heap.size w w2/\r i v w2)->(i∈fr->∃b,v=.pointer (some ⟨b,0,none⟩)/\w.heap.size<=b/\b<w2.heap.size)->wpAny P .any l.toArray (lift N Q) fuel (L.setIfInBounds i true) (a.put o.dst v) w2:=λv w2 hv hfv=>by
     have hd1:∀C,o.dst=some C->C<a.tmps.size:=λC hd'=>(by rw[g.sz];exact hdN (i,C) (q i C E (by rw[W];exact hd')));have hput:∀j d,j<m->j≠i->(l.toArray[j]?).bind (·.dst)=some d->(a.put o.dst v).tmps.getD d undef=a.tmps.getD d undef:=λj d hj z B=>by
      cases T:o.dst with
      |none=>rfl
      |some C=>rw[bf (hd1 C T),R' λe=>z (hone j i d hj E B (by rw[W,e];exact T))]
     have hputi:∀d,(l.toArray[i]?).bind (·.dst)=some d->(a.put o.dst v).tmps.getD d undef=v:=λd hd=>(by rw[W] at hd;simp only[A6] at hd;rw[hd,bf (hd1 d hd),Q' rfl]);have hfd:∀j∈fr,j≠i->L.getD j false=true->i∈fr->∀e,(l.toArray[j]?).bind (·.dst)=some e->a.tmps.getD e undef≠v:=λj hj z R D e hje heq=>by
      obtain⟨b,hb1,hb2⟩:=g.fb j hj R e hje;obtain⟨b',hv1,hb3,_⟩:=hfv D;rw[hb1,hv1] at heq;injection heq with heq
      injection heq with heq
      injection heq with heq
      omega
     refine ih _ _ _ ?_ ?_
     .refine⟨?_, ?_,hJ _ _ g.j hv.1,by simpa using g.ls, ?_, ?_, ?_, ?_, ?_, ?_⟩
      .cases o.dst<;>exact g.nd
      .cases T:o.dst with
       |none=>exact g.sz
       |some d=>simpa[Act.put] using g.sz
      .intro k ok hk F e he hb;rw[Qd S] at F |-;by_cases hki:k=i
       .subst hki;simp[hed' ok hk e he hb]
       simp only[hki,decide_false,F_] at F;simp[g.cl k ok hk F e he hb]
      .intro k hk;rw[Qd S,g.tl k hk];have:¬k=i:=Z';simp[this]
      .intro j d hj R B;rw[Qd S] at R;have hd1:∀C,o.dst=some C->C<a.tmps.size:=λC hd'=>(by rw[g.sz];exact hdN (i,C) (q i C E (by rw[W];exact hd')));by_cases z:j=i
       .subst z;refine cN ?_;intro B;exact hv.2
       simp only[z,decide_false,F_] at R;have hold:=g.vs j d hj R B;have hdj:(j,d)∈ds:=q j d hj B;have hst:=(hdo j (l.toArray[j]?.getD default) (by
        have:j<l.length:=Z';rw[P8,Q' hj];simp[this])).choose_spec.2.1
       rw[i'] at hst;have hne:∀C,o.dst=some C->d≠C:=λC hd' e=>(by subst e;exact z (hone j i d hj E B (by rw[W];exact hd')))
       cases T:o.dst with
       |none=>exact hst _ _ _ hold hv.1
       |some C=>
        rw[bf (hd1 C T),R' (hne C T)];exact hst _ _ _ hold hv.1
      .refine CY ?_;(unhygienic intros)
       cases T:o.dst with
       |none=>exact hold
       |some C=>
        rw[bf (by rw[g.sz];exact hdN (i,C) (q i C E (by rw[W];exact T))),R' (λe=>hni (by rw[T,e]))];exact hold
      .intro j hj R d B;rw[Qd S] at R;by_cases z:j=i
       .subst z;obtain⟨b,hb1,_,hb3⟩:=hfv hj;exact⟨b,(hputi d B).trans hb1,hb3⟩
       simp only[z,decide_false,F_] at R;obtain⟨b,hb1,hb2⟩:=g.fb j hj R d B;exact⟨b,(hput j d (A j hj) z B).trans hb1,c_ hb2 hv.1.size⟩
      intro j hj k hk hjk R F d e B hke;rw[Qd S] at R F;by_cases z:j=i
      .subst z;have hkj:k≠j:=λe=>hjk e.symm;simp only[hkj,decide_false,F_] at F;rw[hputi d B,hput k e (A k hk) hkj hke];exact λhe=>hfd k hk hkj F hj e hke he.symm
      simp only[z,decide_false,F_] at R;by_cases hki:k=i
      .subst hki;rw[hputi e hke,hput j d (A j hj) z B];exact hfd j hj z R hk d B
      simp only[hki,decide_false,F_] at F;rw[hput j d (A j hj) z B,hput k e (A k hk) hki hke];exact g.fd j hj k hk hjk R F d e B hke
     have hLi:L.toList[i]?=some false:=by
      have G:i<L.toList.length:=by simpa using S
      rw[D9 G];have:L.getD i false=L.toList[i]:=by simp[S]
      rw[<-this,hun']
     rw[e6,List.countP_set (by simpa using S)];have h4:L.toList[i]'(by simpa using S)=false:=(z'.1 hLi).2;rw[h4];simp only[D7,if_false,if_true];omega
    exact⟨hog _ w g.j hro,H⟩
   refine⟨λhnil=> ?_,λi hi=> ?_⟩
   .exfalso;have hmin:∀k,(∃i,i<k/\i<m+1/\L.getD i false=false)->∃i,i<m+1/\L.getD i false=false/\∀j,j<i->L.getD j false=true:=by
     intro k
     induction k with
     |zero=>rintro ⟨i,h,_⟩;omega
     |succ k ihk=>
      rintro ⟨i,h1,h2,G⟩;by_cases hex:∃i,i<k/\i<m+1/\L.getD i false=false
      .exact ihk hex
      exact abS
    obtain⟨i,hi,hu,hlow⟩:=hmin (m+1) ⟨m,Z',Z',g.tl m (F' _)⟩;have hil:i<l.length:=Z';have hE:=hedge i hil;have W:l.toArray[i]?=some l[i]:=by simp[hil]
    rw[W] at hE;have hmem:i∈Region.ready .any l.toArray L:=(c i).2 ⟨hil,by
     have G:i<L.size:=by rw[g.ls,hnn];exact hil
     rw[K9] at hu |-;rw[D8 G] at hu |-;simpa using hu,l[i],W,λe he hb=>by
     have:=X7.1 hE e he;simp only[hb,V7,F_,Y_] at this;exact hlow _ this⟩
    rw[hnil] at hmem
    cases hmem
   obtain⟨hil,hun,o,W,hed⟩:=(c i).1 hi;have S:i<L.size:=by rw[g.ls,hnn];exact hil
   have hun':L.getD i false=false:=(by exact uY);have hed':∀o',l.toArray[i]?=some o'->∀e∈o'.after,Region.binds .any e=true->L.getD e.on false=true:=λo' K=>(by rw[W] at K;injection K with K;subst K;exact hed);obtain E|E:=z_ i m
   .obtain⟨hog,H⟩:=both i E o W hun' hed;have hgo:if Region.wanted o (yielded l.toArray a.tmps) then(o.wp P a w (wpAny P .any l.toArray (lift N Q) fuel (L.setIfInBounds i true)) (lift N Q))\/((o.asks P a w)/\LetsOut (lift N Q)) else wpAny P .any l.toArray (lift N Q) fuel (L.setIfInBounds i true) (a.put o.dst undef) w:=by
     by_cases D:i∈fr
     .obtain⟨d,t,ty,pos,af,n,ag,by',zc,hi1,ht⟩:=hfr.at i D;have ho2:o=⟨some d,.alloc t,ty,pos,af,none⟩:=by
       have h7:=W;rw[L8,hi1] at h7;injection h7 with h7
       exact h7.symm
      have hds:d<a.tmps.size:=(by rw[g.sz];exact hdN (i,d) (q i d E (by rw[W,ho2];rfl)));subst ho2;exact RI ht hog a hds _ _ (λ_=>rfl) λv V hk hb=>H v V hk λ_=>hb
     exact hog.out a _ _ (λ_=>rfl) λv w2 hv=>H v w2 hv λh=>absurd h D
    unfold wpOp;rw[W];exact hgo
   obtain h2|h2:=z_ m i
   .exfalso;refine OQ ?_;intro G h4;have:=fh hM g.cl i m hed' G;rw[g.tl m (F' _)] at this
    cases this
   obtain rfl:i=m:=Z';refine part L a w fuel g (λj hj hjf=> ?_) hc o W;have h4:(l.length==i)=false:=by simp;omega
   rw[h4,F_] at htail;have h6:=M_.1 htail j (by simpa using hj);have h7:X.contains j=false:=by simpa using hjf
   rw[h7,F_] at h6;exact fh hM g.cl i j hed' h6
 exact adb
def CD{x y:Value}{b d:Nat}(h:x≠y)(h1:x=.pointer (some ⟨b,0,none⟩))(h2:y=.pointer (some ⟨d,0,none⟩)):b≠d:=λe=>h (by rw[h1,h2,e])
def bK{Q:Kq}{id:Nat}{l:List Oper}(Y X M:t3)(m:Nat)(src:List (List (Nat×Option Nat)))(ds:List (Nat×Nat))(a:List (t3×Nat×List (Nat×Nat))){H:List HE}(I:Hp w0 H w)(hm:P.follows .mixedOrders=true)(y:Zw l m N src ds X M=true)(b:uF l m X ds=a)(c:m<l.length)(k:yv P l Y)(L:Y.all (λi=>i<m)=true) (h:DX P l.toArray (JJ w0 H w) O (λo=>∀p∈a,∀f V,JJ w0 H w V->ao o f V p.2.2->(∀i∈Y,∀j∈Y,i≠j->(!X.contains i||p.1.contains i)=true->(!X.contains j||p.1.contains j)=true->f i≠f j)->WL .plain P N l.toArray (Xd (λO w=>WA P N l.toArray Q p.2.1 ((lD l.length m X p.1).setIfInBounds m true) O w) Q) ((l.drop m).take 1) (Yf O f p.2.2) V) 0 fW (l.take m) src):WC .plain P N (.region id l.toArray true) Q O w:=by
 obtain⟨o,_,h1,h2⟩:=xH _ _ _ _ (λ_ _ _ _=>trivial) h;exact kG Y X M m src ds a (JJ w0 H w) o hm y b c k L (λ_ _ h F=>h.ext F) (JJ.start I) h1 h2
def wh{Q:Kq}{id:Nat}{l:List Oper}(X M:t3)(m:Nat)(src:List (List (Nat×Option Nat)))(ds:List (Nat×Nat))(a:List (t3×Nat×List (Nat×Nat))){H:List HE}(I:Hp w0 H w)(hm:P.follows .mixedOrders=true)(y:Zw l m N src ds X M=true)(o:uF l m X ds=a)(Y:m<l.length) (h:DX P l.toArray (JJ w0 H w) O (λj=>∀p∈a,∀f V,JJ w0 H w V->ao j f V p.2.2->WL .plain P N l.toArray (Xd (λO w=>WA P N l.toArray Q p.2.1 ((lD l.length m X p.1).setIfInBounds m true) O w) Q) ((l.drop m).take 1) (Yf O f p.2.2) V) 0 fW (l.take m) src):WC .plain P N (.region id l.toArray true) Q O w:=by
 obtain⟨j,_,h1,h2⟩:=xH _ _ _ _ (λ_ _ _ _=>trivial) h;exact kG [] X M m src ds a (JJ w0 H w) j hm y o Y Jo rfl (λ_ _ h F=>h.ext F) (JJ.start I) h1 λp hp f V hj A _=>h2 p hp f V hj A
variable {lo:Operand}
def Bg{d:Option Nat}{ty:TypeId}{af:Array Edge}{g:Option (Nat×Bool)}{t e:TypeId}{x:Operand}{A:Option Addr}{c l sz:Nat}{k:IntKind}{m:Int}(S:P.underlying t=some (.slice e))(M:(P.info? e).map (·.size)=some sz)(C:ev O x=.slice A n c)(p:ev O lo=.int k m) (hm:m=(l:Int))(h1:l<=n)(h2:n<=c):(execOp (ev O) ⟨d,.slice t x (some lo) none none,ty,pos,af,g⟩).run P w=.ok (.value (.slice (if c=l then A else A.map (·.add (l*sz))) (n-l) (c-l))) w:=
 Th (lo:=some lo) (hi:=none) (l:=l) (h:=n) S M C ⟨k,m,p,hm⟩ rfl h1 h2
def Sl.front{A:t6}{xs:List Value}(h:Sl w A n k xs)(hm:m<=n):Sl w A m k (xs.take (m*k)):=by
 have hle:m*k<=n*k:=n_ _ hm;refine⟨by rw[q',h.1];omega,λJ=> ?_⟩;obtain⟨b,h1,h2⟩:=h.2 Z';exact⟨b,h1,h2.take _⟩
def Sl.back{A:t6}{l c:Nat}{xs:List Value}(h:Sl w A n k xs)(Q:l<=n)(E:n<=c):Sl w (if c=l then A else A.map (·.add (l*k))) (n-l) k (xs.drop (l*k)):=by
 have h1:=h.cut Q (F' n) E;have h2:((xs.drop (l*k)).take ((n-l)*k))=xs.drop (l*k):=G' (by rw[Q9,h.1,Nat.sub_mul];exact F' _);rwa[h2] at h1
variable {base:Nat}
def aH(base:Nat)(t:TypeId)(sz:Nat):VP:=λv W=>∃g,v=wn (some ⟨g,0,none⟩) 0 0/\W.ownsRow base t sz (wn (some ⟨g,0,none⟩) 0 0) 0 []
def Vr(base:Nat)(t:TypeId)(n sz:Nat)(cs:List Value):VP:=λv W=>∃A c,v=wn A n c/\W.ownsRow base t sz (wn A n c) n cs
def wj{V:World}{t:TypeId}{sz c:Nat}{A:t6}{xs:List Value}(h:w.ownsRow base t sz (wn A n c) n xs)(F:Below w.heap.size w V):V.ownsRow base t sz (wn A n c) n xs:=by
 refine⟨h.1,h.2.imp id ?_⟩;rintro ⟨g,cap,cur,h1,h2,G,z⟩;have D:g<w.heap.size:=by
  obtain h|h:=z_ g w.heap.size
  .exact h
  rw[T6 h] at G;cases G
 exact⟨g,cap,cur,h1,h2,(F.block g D).trans G,z⟩
def aH.ext{t:TypeId}{sz:Nat}(v:Value)(w V:World)(h:aH base t sz v w)(F:Below w.heap.size w V):aH base t sz v V:=let⟨g,h1,h2⟩:=h;⟨g,h1,wj h2 F⟩
def Vr.ext{t:TypeId}{sz:Nat}(v:Value)(w V:World)(h:Vr base t n sz cs v w)(F:Below w.heap.size w V):Vr base t n sz cs v V:=let⟨A,c,h1,h2⟩:=h;⟨A,c,h1,wj h2 F⟩
def JJ.UE{H:List HE}{t:TypeId}{c sz:Nat}{A:t6}(K:Hp w0 H w)(h:Hp w0 H W)(a:W.ownsRow w.heap.size t sz (wn A n c) n cs):Hp w0 (.row A n c t sz cs::H) W:=by
 refine⟨h.below,λx C=> ?_, ?_⟩
 .obtain rfl|C:=y'.1 C
  .refine⟨a.1,a.2.imp id ?_⟩;rintro ⟨g,cap,cur,h1,h2,G⟩;exact⟨g,cap,cur,h1,p' K.size h2,G⟩
  exact h.own x C
 rw[C8];obtain⟨h1,_⟩|⟨g,cap,cur,h1,h2,_⟩:=a.2
 .injection h1 with N
  subst N;exact h.nd
 injection h1 with N
 subst N;show(g::H.filterMap HE.id).Nodup;refine G8.2 ⟨λhm=> ?_,h.nd⟩;obtain⟨y,hy,d⟩:=H9.1 hm;have:=(de (K.own y hy) d).2;omega
def ZO{t e:TypeId}{sz:Nat}(a:P.underlying t=some (.slice e))(D:sd P e=some (sz,ag,by',zc))(Q:∀Z,J Z->base<=Z.heap.size) (k:DX P ops J O T (i+1) (ke pv i (aH base e sz)) os ss):DX P ops J O T i pv (⟨d,.buildSlice t 0 #[],ty,pos,af,none⟩::os) (s::ss):=
 ua (aH base e sz) aH.ext (λU Z z h=>by
  have F:Below Z.heap.size Z (Z.alloc (.cells #[] e)):=(Below.refl _ _).alloc (F' _) _;refine ic rfl (V:=Z.alloc (.cells #[] e)) (v:=.slice (some ⟨Z.heap.size,0,none⟩) 0 0) ?_ ⟨F,Z.heap.size,rfl,by simp,.inr ⟨Z.heap.size,0, #[],rfl,Q Z z,heap_alloc_new Z _,F' _,by unfold maxLen;omega,by simp,by simp⟩⟩;have S:Array.range 0= #[]:=rfl;simp[execOp,Instr.buildSlice,run_underlying a,qe D,Instr.fill,newRow,S]) k
variable {c':Nat}{news:List Value}
def YA{g:Nat}{t ty e:TypeId}{sz:Nat}(S:P.underlying t=some (.slice e))(D:sd P e=some (sz,ag,by',zc))(f:zc.length=sz)(M:0<sz) (W:w.ownsRow base e sz (.slice (some ⟨g,0,none⟩) 0 0) 0 []){B:Option Addr}(p:Sl w B m sz news)(h1:∀u∈news,u.oneCell'=true) (X:m<=maxLen)(a:m*by'<=140737488355328)(v:base<=w.heap.size):
  ∃T Y V,(Builtin.append_ #[t,t] ty #[.slice (some ⟨g,0,none⟩) 0 0,.slice B m c']).run P w=.ok (.slice T m Y) V/\V.ownsRow base e sz (.slice T m Y) m news/\Below w.heap.size w V:=by
 obtain⟨i,z,dd,hi,C,o,K,G,x,_⟩:=df D;obtain J|J:=a9 m
 .subst J;have y:news=[]:=s9 (by simpa using p.1);subst y;refine⟨_,_,w, ?_,W,Below.refl _ _⟩;exact aex
 obtain⟨b,rfl,H⟩:=p.2 J;have F:Src P i.size t (.slice (some b) m c') m news w:=Src.ofSlice w S b m c' news (by rw[K];exact p.1) H h1;refine aaa ?_;intro l h;have n:∀c:Option Addr,(Builtin.firstCells i.size 0 (.slice c 0 0)).run P w.drew=.ok ([]:List Value).toArray w.drew:=λc=>by
  cases c with
  |none=>exact run_firstCells_none w.drew i.size 0 0 0
  |some q=>exact run_firstCells_some w.drew i.size 0 q 0 0 [] (by simp) (λj u hu=>by simp at hu)
 have R:=run_append_grow_src w t t ty e i z S hi o (some ⟨g,0,none⟩) 0 0 [] (n _) _ m news F Z' h l;have E:=run_append_grow_src w t t ty e i z S hi o none 0 0 [] (n _) _ m news F Z' h l;obtain⟨T,Y,V,d,r,A,_⟩:=tm (P:=P) (w:=w) base t ty e sz by' ag zc S D f M none 0 0 [] (World.ownsRow_nil w base e sz) (some b) m c' news ⟨p.1,λ_=>⟨b,rfl,H⟩⟩ h1 Z' (by rw[i'];exact a) v;rw[E,<-R] at d;rw[i'] at d r;rw[J'] at r;exact⟨T,Y,V,d,r,A.os,A.tape,A.output,A.size,λk s=>A.block k s (by simp)⟩
def QK{t e:TypeId}{x y:Operand}{sz:Nat}(C:∀U Z,J Z->Oc (pv) O U Z s->aH base e sz (ev U x) Z)(hy:∀U Z,J Z->Oc (pv) O U Z s->∃B c',ev U y=.slice B m c'/\Sl Z B m sz news) (S:P.underlying t=some (.slice e))(D:sd P e=some (sz,ag,by',zc))(f:zc.length=sz)(M:0<sz)(h1:news.all Value.oneCell'=true)(X:m<=maxLen)(a:m*by'<=140737488355328)(Q:∀Z,J Z->base<=Z.heap.size) (k:DX P ops J O T (i+1) (ke pv i (Vr base e m sz news)) os ss):DX P ops J O T i pv (⟨d,.call ⟨.builtin .append, #[x,y], #[t,t]⟩,ty,pos,af,none⟩::os) (s::ss):=
 ua (Vr base e m sz news) Vr.ext (λU Z z h=>by
  obtain⟨g,N,W⟩:=C U Z z h;obtain⟨B,c',L,p⟩:=hy U Z z h;obtain⟨b,Y,V,c,r,A⟩:=YA (P:=P) (ty:=ty) (c':=c') S D f M W p (λu hu=>M_.1 h1 u hu) X a (Q Z z);refine ic rfl (V:=V) (v:=.slice b m Y) ?_ ⟨A,b,Y,rfl,r⟩;simp only[execOp,resolve,invoke,builtin,Sem.run_bind,Sem.run_pure,Result.andThen_ok,Q6,T_,f_,N,L,c]) k
def OG.mono{o:Oper}{K':Value->World->Prop}(h:OG P ops o O w K)(u:∀v V,K v V->K' v V):OG P ops o O w K':=
 ⟨λa next Q M B=>h.out a next Q M λv V A=>B v V (u v V A)⟩
structure DI6(D:List Deferred)(N:Nat)(ops:Array Oper)(m μ:Nat)(O:Rf)(J:Bool->World->Prop)(V:Nat->Value->World->Prop)(L:Array Bool)(a:Act)(w:World):Prop where
 nd:a.defers=D
 sz:a.tmps.size=N
 j:J (L.getD μ false) w
 ls:L.size=ops.size
 cl:av ops L
 tl:∀k,m<=k->L.getD k false=false
 vs:∀i d,i<m->L.getD i false=true->(ops[i]?).bind (·.dst)=some d->V i (a.tmps.getD d undef) w
 nx:∀s,(∀i,i<m->L.getD i false=true->(ops[i]?).bind (·.dst)≠some s)->a.tmps.getD s undef=O s
theorem QU{id:Nat}{l:List Oper}(M:t3)(m μ:Nat)(src:List (List (Nat×Option Nat)))(ds:List (Nat×Nat))(J:Bool->World->Prop)(r:Nat->Value->World->Prop)(hm:P.follows .mixedOrders=true)(hok:Lh l m N src ds [] M=true)(hμ:μ<m) (h0:J false ({ w with drawn:=w.drawn+1 }:World))(hops:∀i o,i<m->l[i]?=some o->∃s,src[i]?=some s/\∀U Z (f:Bool),J f Z->(i=μ->f=false)->Oc r O U Z s->OG P l.toArray o U Z λv q=>J (decide (μ=i)||f) q/\(∀j u,j≠i->r j u Z->r j u q)/\r i v q) (tail:∀f V,J true V->ao r f V ds->WL ⟨none,D,false⟩ P N l.toArray Q (l.drop m) (Yf O f ds) V):WC ⟨none,D,false⟩ P N (.region id l.toArray true) Q O w:=by
 refine WC.Xo λa hf=>wp_region_any hm ?_;simp only[Lh,Z_,Y_,W8,M_,S_] at hok;obtain⟨⟨⟨⟨⟨⟨⟨⟨⟨⟨⟨⟨⟨hml,_⟩,hds⟩,hnd⟩,hdN⟩,hrd⟩,htail⟩,hready⟩,hend⟩,hdep⟩,hedge⟩,hns⟩,_⟩,hM⟩:=hok;have n:∀i d,i<m->((l.toArray[i]?).bind (·.dst))=some d->(i,d)∈ds:=λi d hi hd=>(by exact NY);have hdsm:∀i d,(i,d)∈ds->i<m/\((l.toArray[i]?).bind (·.dst))=some d:=λi d hp=>by
  refine eO ?_;(unhygienic intros)
  exact zW9
 have hone:∀i j d,i<m->j<m->((l.toArray[i]?).bind (·.dst))=some d->((l.toArray[j]?).bind (·.dst))=some d->i=j:=λi j d hi hj h1 h2=>by
  refine aau ?_;intro p1 p2 e1;injection e1 with _ e1
  omega
 have F:l.toArray.size=l.length:=by simp
 have full:∀(L:Array Bool)(a:Act)(w:World)(fuel:Nat),DI6 D N l.toArray m μ O J r L a w->(∀i,i<m->L.getD i false=true)->l.length<=fuel+m->wpAny P .any l.toArray (Ze N D Q) fuel L a w:=(by intro L a w fuel g X hfu;have hL:L=ei l.length m:=iq (by rw[g.ls,F]) hml X g.tl;refine XQ ?_;have hfits:Bf N D a (Yf O (λi=>match(l.toArray[i]?).bind (·.dst) with|some d=>a.tmps.getD d undef|none=>undef) ds):=(by exact aac);refine(tail _ w (by have:=g.j;rwa[X μ hμ] at this) (Lt ds λp hp=> ?_)).out a hfits;obtain⟨h1,h2⟩:=hdsm p.1 p.2 hp;exact YR);have key:∀(fuel:Nat)(L:Array Bool)(a:Act)(w:World),DI6 D N l.toArray m μ O J r L a w->fuel+L.toList.countP (λb=>b)=l.length->wpAny P .any l.toArray (Ze N D Q) fuel L a w:=by
  intro fuel
  induction fuel with
  |zero=>
   intro L a w g hc;have X:∀i,i<l.length->L.getD i false=true:=λi hi=>by
    refine yT ?_;intro h1 h2;have G:i<L.size:=by rw[g.ls,F];exact hi
    have:=h2 L[i] (by simp);simpa[G] using this
   exact abU
  |succ fuel ih=>
   intro L a w g hc;by_cases X:∀i,i<m->L.getD i false=true
   .refine full L a w (fuel+1) g X ?_;have hL:L=ei l.length m:=iq (by rw[g.ls,F]) hml X g.tl;rw[hL,Mr] at hc;omega
   have hsome:∃i,i<m/\L.getD i false=false:=(by exact abm);have c:∀i,i∈Region.ready .any l.toArray L↔i<l.length/\L.getD i true=false/\∃o,l.toArray[i]?=some o/\∀e∈o.after,Region.binds .any e=true->L.getD e.on false=true:=λi=>(by unfold Region.ready;rw[A9,S_,F];exact abT);have both:∀(i:Nat)(_:i<m)(o:Oper)(_:l.toArray[i]?=some o)(_:L.getD i false=false)(_:∀e∈o.after,Region.binds .any e=true->L.getD e.on false=true),
     OG P l.toArray o (λt=>a.tmps.getD t undef) w (λv q=>J (decide (μ=i)||L.getD μ false) q/\(∀j u,j≠i->r j u w->r j u q)/\r i v q)/\
     ∀v q,(J (decide (μ=i)||L.getD μ false) q/\(∀j u,j≠i->r j u w->r j u q)/\r i v q)->wpAny P .any l.toArray (Ze N D Q) fuel (L.setIfInBounds i true) (a.put o.dst v) q:=λi E o W T hed=>by
    have S:i<L.size:=by rw[g.ls,F];omega
    have z:∀o',l.toArray[i]?=some o'->∀e∈o'.after,Region.binds .any e=true->L.getD e.on false=true:=λo' K=>(by rw[W] at K;injection K with K;subst K;exact hed);obtain⟨s,hs,hog⟩:=hops i o E (by rw[<-L8];exact W);have hrdi:=hrd i E;rw[W,hs] at hrdi;simp only[Z_,M_] at hrdi;have hro:Oc r O (λt=>a.tmps.getD t undef) w s:=Iq s λp hp=>by
     have H:=hrdi.2 p hp
     cases hp3:p.2 with
     |some j=>
      rw[hp3] at H;simp only[Z_,Y_,W8] at H;exact g.vs j p.1 H.1.1 (fh hM g.cl i j z H.2) H.1.2
     |none=>
      rw[hp3] at H;refine g.nx p.1 λj hj R B=> ?_;have h6:=M_.1 H j (by simpa using hj);rw[B] at h6;simp only[beq_self_eq_true,V7,F_,Z_] at h6;have:=fh hM g.cl j i (λo' K e he hb=>g.cl j o' K R e he hb) h6.2;rw[T] at this
      cases this
    have A:∀v q,(J (decide (μ=i)||L.getD μ false) q/\(∀j u,j≠i->r j u w->r j u q)/\r i v q)->wpAny P .any l.toArray (Ze N D Q) fuel (L.setIfInBounds i true) (a.put o.dst v) q:=λv q hv=>by
     refine ih _ _ _ ?_ ?_
     .refine⟨?_, ?_,by rw[Qd S];exact hv.1,by simpa using g.ls, ?_, ?_, ?_, ?_⟩
      .cases o.dst<;>exact g.nd
      .cases hod:o.dst with
       |none=>exact g.sz
       |some d=>simpa[Act.put] using g.sz
      .intro k ok hk hkl e he hb;rw[Qd S] at hkl |-;by_cases hki:k=i
       .subst hki;simp[z ok hk e he hb]
       simp only[hki,decide_false,F_] at hkl;simp[g.cl k ok hk hkl e he hb]
      .intro k hk;rw[Qd S,g.tl k hk];have:¬k=i:=Z';simp[this]
      .intro j d hj R B;rw[Qd S] at R;have hd1:∀C,o.dst=some C->C<a.tmps.size:=λC hd'=>(by rw[g.sz];exact hdN (i,C) (n i C E (by rw[W];exact hd')));by_cases hji:j=i
       .subst hji;refine cN ?_;(unhygienic intros)
        exact hv.2.2
       simp only[hji,decide_false,F_] at R;have hold:=g.vs j d hj R B;have hdj:(j,d)∈ds:=n j d hj B;have hne:∀C,o.dst=some C->d≠C:=λC hd' e=>(by subst e;exact hji (hone j i d hj E B (by rw[W];exact hd')))
       cases hod:o.dst with
       |none=>exact hv.2.1 j _ hji hold
       |some C=>
        rw[bf (hd1 C hod),R' (hne C hod)];exact hv.2.1 j _ hji hold
      refine CY ?_;(unhygienic intros)
      cases hod:o.dst with
      |none=>exact hold
      |some C=>
       rw[bf (by rw[g.sz];exact hdN (i,C) (n i C E (by rw[W];exact hod))),R' (λe=>hni (by rw[hod,e]))];exact hold
     have hLi:L.toList[i]?=some false:=by
      have G:i<L.toList.length:=by simpa using S
      rw[D9 G];have:L.getD i false=L.toList[i]:=by simp[S]
      rw[<-this,T]
     rw[e6,List.countP_set (by simpa using S)];have h4:L.toList[i]'(by simpa using S)=false:=(z'.1 hLi).2;rw[h4];simp only[D7,if_false,if_true];omega
    exact⟨hog _ w _ g.j (λe=>by subst e;exact T) hro,A⟩
   refine⟨λhnil=> ?_,λi hi=> ?_⟩
   .exfalso;have hmin:∀k,(∃i,i<k/\i<m/\L.getD i false=false)->∃i,i<m/\L.getD i false=false/\∀j,j<i->L.getD j false=true:=(by exact a0);obtain⟨i0,h1,h2⟩:=hsome;obtain⟨i,hi,hu,hlow⟩:=hmin (i0+1) ⟨i0,Z',h1,h2⟩;have Y:i<l.length:=Z';have hE:=hedge i Y;have W:l.toArray[i]?=some l[i]:=by simp[Y]
    rw[W] at hE;have hmem:i∈Region.ready .any l.toArray L:=(c i).2 ⟨Y,by
     have G:i<L.size:=by rw[g.ls,F];exact Y
     rw[K9] at hu |-;rw[D8 G] at hu |-;simpa using hu,l[i],W,λe he hb=>by
     have:=X7.1 hE e he;simp only[hb,V7,F_,Y_] at this;exact hlow _ this⟩
    rw[hnil] at hmem
    cases hmem
   obtain⟨Y,hun,o,W,hed⟩:=(c i).1 hi;have S:i<L.size:=by rw[g.ls,F];exact Y
   have T:L.getD i false=false:=(by exact uY);have z:∀o',l.toArray[i]?=some o'->∀e∈o'.after,Region.binds .any e=true->L.getD e.on false=true:=λo' K=>(by rw[W] at K;injection K with K;subst K;exact hed);have E:i<m:=by
    obtain h|h:=z_ i m
    .exact h
    exfalso;obtain h2|h2:=z_ m i
    .refine OQ ?_;intro G h4;have:=fh hM g.cl i m z G;rw[g.tl m (F' _)] at this
     cases this
    obtain rfl:i=m:=Z';have h4:(l.length==i)=false:=by simp;omega
    rw[h4,F_] at htail;have h5:=M_.1 htail;obtain⟨j,hj,hju⟩:=hsome;have h6:=h5 j (by simpa using hj);simp only[List.contains_nil,F_] at h6;have:=fh hM g.cl i j z h6;rw[hju] at this
    cases this
   obtain⟨hog,A⟩:=both i E o W T hed;have hgo:=hog.out a (wpAny P .any l.toArray (Ze N D Q) fuel (L.setIfInBounds i true)) (Ze N D Q) (λ_=>rfl) λv q hv=>A v q hv;unfold wpOp;rw[W];exact hgo
 have hr0:∀i,(Array.replicate l.toArray.size false).getD i false=false:=λi=>(by exact fR);refine key _ _ _ _ ⟨hf.nd,hf.sz,by rw[hr0];exact h0,by simp,λk o _ hk=> ?_,λk _=>hr0 k,λi d _ hi=> ?_,λs _=>hf.at_ s⟩ ?_
 .rw[hr0] at hk;cases hk
 .rw[hr0] at hi;cases hi
 simp[n6]
def Sts(h:Nat->VP):t3->Prop
 |[]=>True
 |i::r=>(∀v w V,h i v w->h i v V)/\Sts h r
def GV{j:Nat->VP}:∀{l:t3},Sts j l->∀i∈l,∀v w V,j i v w->j i v V
 |_::_,h,i,hi=>by
  obtain rfl|hi:=y'.1 hi
  .exact h.1
  exact GV h.2 i hi
structure JC(w0:World)(H:List HE)(W:World):Prop where
 hp:Hp w0 H W
def VJ{P:Program}{ops:Array Oper}{J:World->Prop}{O:Rf}{T:(Nat->VP)->Prop}:∀(os:List Oper)(ss:List (List (Nat×Option Nat)))(i:Nat)(pv:Nat->VP),(∀j,i<=j->∀v w,pv j v w)->DX P ops J O T i pv os ss->
  ∃V,(∀j,j<i->V j=pv j)/\(∀j,i+os.length<=j->∀v w,V j v w)/\DO P ops J V O i os ss/\T V
 |[],[],_,pv,n,h=>⟨pv,λ_ _=>rfl,λj hj=>n j (by simpa using hj),trivial,h⟩
 |[],_::_,_,_,_,h=>h.elim
 |_::_,[],_,_,_,h=>h.elim
 |o::os,s::ss,i,pv,n,⟨V,h1,h2,G⟩=>by
  obtain⟨a,z,m,b,L⟩:=VJ os ss (i+1) (ke pv i V) (λj hj v w=>by rw[Ql _ _ Z'];exact n j Z' v w) G;have e:a i=V:=by rw[z i Z',Ex]
  refine⟨a,λj hj=>by rw[z j Z',Ql _ _ Z'],λj hj=>m j (by simp only[V_] at hj;omega),⟨⟨?_, ?_⟩,b⟩,L⟩
  .rw[e];exact h1
  intro U Z hj H;rw[e];refine h2 U Z hj (Qk (λj v w I=> ?_) s H);obtain D|N:=z_ j i
  .rw[z j Z',Ql _ _ Z'] at I;exact I
  exact n j N v w
def xQ{Q:Kq}{id:Nat}{l:List Oper}(M:t3)(m X:Nat)(src:List (List (Nat×Option Nat)))(ds:List (Nat×Nat)){H C:List HE}(I:Hp w0 H w)(F:World->Prop)(hc:C.Sublist H)(hm:P.follows .mixedOrders=true)(y:Lh l m N src ds [] M=true)(hμ:X<m) (hF:∀w V,F w->Below w.heap.size w V->F V)(W:∀w,F w->Hp w0 C w) (h:DX P l.toArray (JC w0 C) O (λB=>∃o s g,l[X]?=some o/\src[X]?=some s/\(∀v w V,g v w->Below w.heap.size w V->g v V)/\(∀U Z,Hp w0 H Z->Oc B O U Z s->OG P l.toArray o U Z λv q=>F q/\g v q)/\
   DX P l.toArray (JC w0 C) O (λp=>Sts p ((List.range m).filter (· !=X))/\∀f V,F V->ao p f V ds->WL ⟨none,D,false⟩ P N l.toArray Q (l.drop m) (Yf O f ds) V) (X+1) (ke B X g) ((l.take m).drop (X+1)) (src.drop (X+1))) 0 fW (l.take X) (src.take X)):WC ⟨none,D,false⟩ P N (.region id l.toArray true) Q O w:=by
 obtain⟨B,_,T,d1,o,s,g,ho,hs,R,hog,h2⟩:=VJ _ _ _ _ (λ_ _ _ _=>trivial) h;have hml:m<=l.length:=(by simp only[Lh,Z_,Y_] at y;exact y.1.1.1.1.1.1.1.1.1.1.1.1.1);have hlt:(l.take X).length=X:=by rw[q'];omega
 rw[hlt,i'] at T;obtain⟨p,b1,b2,d2,S,e⟩:=VJ _ _ _ _ (λj hj v w=>by rw[Ql _ _ Z'];exact T j Z' v w) h2;have E:((l.take m).drop (X+1)).length=m-(X+1):=by rw[Q9,q'];omega
 rw[E] at b2;have n:p X=g:=by rw[b1 X Z',Ex]
 have r:∀j,j<X->p j=B j:=λj hj=>by rw[b1 j Z',Ql _ _ Z']
 have k:∀j,j≠X->∀u w V,p j u w->p j u V:=λj hj u w V hu=>by
  obtain G|G:=z_ j m
  .exact GV S j (A9.2 ⟨S_.2 G,by simpa using hj⟩) u w V hu
  exact b2 j Z' u V
 have t:∀j v w,p j v w->B j v w:=λj v w A=>by
  obtain G|G:=z_ j X
  .rw[<-r j G];exact A
  exact T j G v w
 have x:∀(f:Bool) Z,(if f then F Z else Hp w0 H Z)->JC w0 C Z:=λf Z hj=>by
  cases f with
  |true=>exact⟨W Z hj⟩
  |false=>exact⟨Hp.sub hj hc⟩
 have K:∀(f:Bool) Z q,(if f then F Z else Hp w0 H Z)->Below Z.heap.size Z q->(if f then F q else Hp w0 H q):=λf Z q hj hb=>by
  cases f with
  |true=>exact hF Z q hj hb
  |false=>exact Hp.ext hj hb
 refine QU M m X src ds (λf w=>if f then F w else Hp w0 H w) p hm y hμ ?_ ?_ (λf V hj A=>e f V hj A)
 .exact I.ext ⟨rfl,rfl,rfl,F' _,λ_ _=>rfl⟩
 intro i oi him c;obtain G|G|G:=u6 i X
 .obtain⟨s',a,L,b⟩:=(kC _ _ _ d1).2 i oi (by rw[P8,Q' G];exact c);rw[P8,Q' G] at a;rw[i'] at L b;refine⟨s',a,λU Z f hj _ J=>(b U Z (x f Z hj) (Qk t s' J)).mono λv q A=>⟨?_,λj u z hu=> ?_, ?_⟩⟩
  .rw[m' Z',F_];exact K f Z q hj A.1
  .by_cases d:j=X
   .subst d;rw[n] at hu |-;exact R u Z q hu A.1
   exact k j d u Z q hu
  rw[r i G];exact A.2
 .subst G;rw[ho] at c
  cases c
  refine⟨s,hs,λU Z f hj hf J=> ?_⟩;have Y:=hf rfl;subst Y;refine(hog U Z hj (Qk t s J)).mono λv q A=>⟨?_,λj u z hu=>k j z u Z q hu, ?_⟩
  .rw[w' rfl,Bool.true_or];exact A.1
  rw[n];exact A.2
 obtain⟨s',a,L,b⟩:=(kC _ _ _ d2).2 (i-(X+1)) oi (by rw[U8,show X+1+(i-(X+1))=i by omega,P8,Q' him];exact c);rw[U8,show X+1+(i-(X+1))=i by omega] at a;rw[show X+1+(i-(X+1))=i by omega] at L b;refine⟨s',a,λU Z f hj _ J=>(b U Z (x f Z hj) J).mono λv q A=>⟨?_,λj u z hu=> ?_,A.2⟩⟩
 .rw[m' Z',F_];exact K f Z q hj A.1
 by_cases d:j=X
 .subst d;rw[n] at hu |-;exact R u Z q hu A.1
 exact k j d u Z q hu
def Gv{k:IntKind}{a:Int}(p:DX P ops J O T (i+1) (ke pv i (Is (.int k a))) os ss)(C:∀U Z,J Z->Oc pv O U Z s->ev U x=.int k a:=by intro U Z hj hR;first|exact hR.1|exact hR.2.1|exact hR.2.2.1|exact rfl):DX P ops J O T i pv (⟨d,.move x,ty,pos,af,none⟩::os) (s::ss):=Ba (λU Z hj h=>Yd (C U Z hj h)) p
def daI{k:IntKind}{a:Int}(p:DX P ops J O T (i+1) (ke pv i (Is (.int k a))) os ss)(C:∀U Z,J Z->Oc pv O U Z s->ev U x=.int k a:=by intro U Z hj hR;first|exact hR.1|exact hR.2.1|exact hR.2.2.1|exact rfl):DX P ops J O T i pv (⟨d,.assign x,ty,pos,af,none⟩::os) (s::ss):=Ba (λU Z hj h=>Sj (C U Z hj h)) p
def dmB{a:Bool}(p:DX P ops J O T (i+1) (ke pv i (Is (ww a))) os ss)(C:∀U Z,J Z->Oc pv O U Z s->ev U x=ww a:=by intro U Z hj hR;first|exact hR.1|exact hR.2.1|exact hR.2.2.1|exact rfl):DX P ops J O T i pv (⟨d,.move x,ty,pos,af,none⟩::os) (s::ss):=Ba (λU Z hj h=>Yd (C U Z hj h)) p
def dmS{a:t7}(p:DX P ops J O T (i+1) (ke pv i (Is (wt a))) os ss)(C:∀U Z,J Z->Oc pv O U Z s->ev U x=wt a:=by intro U Z hj hR;first|exact hR.1|exact hR.2.1|exact hR.2.2.1|exact rfl):DX P ops J O T i pv (⟨d,.move x,ty,pos,af,none⟩::os) (s::ss):=Ba (λU Z hj h=>Yd (C U Z hj h)) p
def daS{a:t7}(p:DX P ops J O T (i+1) (ke pv i (Is (wt a))) os ss)(C:∀U Z,J Z->Oc pv O U Z s->ev U x=wt a:=by intro U Z hj hR;first|exact hR.1|exact hR.2.1|exact hR.2.2.1|exact rfl):DX P ops J O T i pv (⟨d,.assign x,ty,pos,af,none⟩::os) (s::ss):=Ba (λU Z hj h=>Sj (C U Z hj h)) p
def OA{A:t6}{c:Nat}(p:DX P ops J O T (i+1) (ke pv i (Is (wn A n c))) os ss)(C:∀U Z,J Z->Oc pv O U Z s->ev U x=wn A n c:=by intro U Z hj hR;first|exact hR.1|exact hR.2.1|exact hR.2.2.1|exact rfl):DX P ops J O T i pv (⟨d,.move x,ty,pos,af,none⟩::os) (s::ss):=Ba (λU Z hj h=>Yd (C U Z hj h)) p
def dmT{l:List Value}(p:DX P ops J O T (i+1) (ke pv i (Is (.tuple l.toArray))) os ss)(C:∀U Z,J Z->Oc pv O U Z s->ev U x=.tuple l.toArray:=by intro U Z hj hR;first|exact hR.1|exact hR.2.1|exact hR.2.2.1|exact rfl):DX P ops J O T i pv (⟨d,.move x,ty,pos,af,none⟩::os) (s::ss):=Ba (λU Z hj h=>Yd (C U Z hj h)) p
def dmF{f:Fn}{l r:List Value}(p:DX P ops J O T (i+1) (ke pv i (Is (.func f l.toArray r.toArray))) os ss)(C:∀U Z,J Z->Oc pv O U Z s->ev U x=.func f l.toArray r.toArray:=by intro U Z hj hR;first|exact hR.1|exact hR.2.1|exact hR.2.2.1|exact rfl):DX P ops J O T i pv (⟨d,.move x,ty,pos,af,none⟩::os) (s::ss):=Ba (λU Z hj h=>Yd (C U Z hj h)) p
def XJ{c:TypeId}{f b:Nat}{q:TypeId}[Y:ae P c f off q](p:DX P ops J O T (i+1) (ke pv i (Is (.pointer (some ⟨b,o+off,none⟩)))) os ss)(C:∀U Z,J Z->Oc pv O U Z s->ev U x=.pointer (some ⟨b,o,none⟩):=by intro U Z hj hR;first|exact hR.1|exact hR.2.1|exact hR.2.2.1|exact rfl):DX P ops J O T i pv (⟨d,.fieldAddr c x f,ty,pos,af,none⟩::os) (s::ss):=Ba (λU Z hj h=>Mw Y.out (C U Z hj h)) p
def px{c:TypeId}{f:Nat}{b:Addr}{q:TypeId}[Y:ae P c f off q](p:DX P ops J O T (i+1) (ke pv i (Is (.pointer (some (b.add off))))) os ss)(C:∀U Z,J Z->Oc pv O U Z s->ev U x=.pointer (some b):=by intro U Z hj hR;first|exact hR.1|exact hR.2.1|exact hR.2.2.1|exact rfl):DX P ops J O T i pv (⟨d,.fieldAddr c x f,ty,pos,af,none⟩::os) (s::ss):=Ba (λU Z hj h=>Zi Y.out (C U Z hj h)) p
def Ym{b:Addr}{v:Value}(E:∀Z,J Z->Z.cell? b=some v)[S:pa P t n false by' zc](p:DX P ops J O T (i+1) (ke pv i (Is (v))) os ss)(C:∀U Z,J Z->Oc pv O U Z s->ev U x=.pointer (some b):=by intro U Z hj hR;first|exact hR.1|exact hR.2.1|exact hR.2.2.1|exact rfl):DX P ops J O T i pv (⟨d,.load t x,ty,pos,af,none⟩::os) (s::ss):=Ba (λU Z hj h=>Ma S.out (C U Z hj h) (E Z hj)) p
def fk{b:Addr}(vs:List Value)(E:∀Z,J Z->Rd Z b vs)[S:pa P t n true by' zc](p:DX P ops J O T (i+1) (ke pv i (Is (.agg vs.toArray))) os ss)(C:∀U Z,J Z->Oc pv O U Z s->ev U x=.pointer (some b):=by intro U Z hj hR;first|exact hR.1|exact hR.2.1|exact hR.2.2.1|exact rfl)(Q:vs.length=n:=by exact rfl):DX P ops J O T i pv (⟨d,.load t x,ty,pos,af,none⟩::os) (s::ss):=Ba (λU Z hj h=>Ua S.out (C U Z hj h) (E Z hj) Q) p
def QM{H:List HE}{b:Nat}{f:TypeId}{v:Value}(j:Nat)[S:pa P t n false by' zc](p:DX P ops (JJ w0 H w) O T (i+1) (ke pv i (Is (v))) os ss)(C:∀U Z,JJ w0 H w Z->Oc pv O U Z s->ev U x=.pointer (some ⟨b,o,none⟩):=by intro U Z hj hR;first|exact hR.1|exact hR.2.1|exact hR.2.2.1|exact rfl)(hi:H[j]?=some (.blk b f cs fz):=by exact rfl)(A:cs[o]?=some v:=by exact rfl):DX P ops (JJ w0 H w) O T i pv (⟨d,.load t x,ty,pos,af,none⟩::os) (s::ss):=Ba (λU Z hj h=>Ma S.out (C U Z hj h) (hj.hp.Dd hi A)) p
def Ee{H:List HE}{b:Nat}{f:TypeId}(j:Nat)(vs:List Value)[S:pa P t n true by' zc](p:DX P ops (JJ w0 H w) O T (i+1) (ke pv i (Is (.agg vs.toArray))) os ss)(C:∀U Z,JJ w0 H w Z->Oc pv O U Z s->ev U x=.pointer (some ⟨b,o,none⟩):=by intro U Z hj hR;first|exact hR.1|exact hR.2.1|exact hR.2.2.1|exact rfl)(hi:H[j]?=some (.blk b f cs fz):=by exact rfl)(A:(cs.drop o).take n=vs:=by exact rfl)(Q:vs.length=n:=by exact rfl):DX P ops (JJ w0 H w) O T i pv (⟨d,.load t x,ty,pos,af,none⟩::os) (s::ss):=Ba (λU Z hj h=>Ua S.out (C U Z hj h) (hj.hp.wa hi A) Q) p
def afa{e:TypeId}{B:Option Addr}{c:Nat}[S:Qa P t (.slice e)](p:DX P ops J O T (i+1) (ke pv i (Is (.int .i64 n))) os ss)(C:∀U Z,J Z->Oc pv O U Z s->ev U x=.slice B n c:=by intro U Z hj hR;first|exact hR.1|exact hR.2.1|exact hR.2.2.1|exact rfl):DX P ops J O T i pv (⟨d,.call ⟨.builtin .len, #[x], #[t]⟩,ty,pos,af,none⟩::os) (s::ss):=Ba (λU Z hj h=>pH S.out (C U Z hj h)) p
def lY{k:IntKind}{a b:Int}{r:Bool}(p:DX P ops J O T (i+1) (ke pv i (Is (ww r))) os ss)(C:∀U Z,J Z->Oc pv O U Z s->ev U x=.int k a:=by intro U Z hj hR;first|exact hR.1|exact hR.2.1|exact hR.2.2.1|exact rfl)(hy:∀U Z,J Z->Oc pv O U Z s->ev U y=.int k b:=by intro U Z hj hR;first|exact hR.1|exact hR.2.1|exact hR.2.2.1|exact rfl)(H:decide (a<b)=r:=by first|exact w' Z'|exact m' Z'|exact rfl):DX P ops J O T i pv (⟨d,.binOp .lss t x y u,ty,pos,af,none⟩::os) (s::ss):=Ba (λU Z hj h=>by rw[<-H];exact xM (C U Z hj h) (hy U Z hj h)) p
def agA{k:IntKind}{a b:Int}{r:Bool}(p:DX P ops J O T (i+1) (ke pv i (Is (ww r))) os ss)(C:∀U Z,J Z->Oc pv O U Z s->ev U x=.int k a:=by intro U Z hj hR;first|exact hR.1|exact hR.2.1|exact hR.2.2.1|exact rfl)(hy:∀U Z,J Z->Oc pv O U Z s->ev U y=.int k b:=by intro U Z hj hR;first|exact hR.1|exact hR.2.1|exact hR.2.2.1|exact rfl)(H:decide (b<a)=r:=by first|exact w' Z'|exact m' Z'|exact rfl):DX P ops J O T i pv (⟨d,.binOp .gtr t x y u,ty,pos,af,none⟩::os) (s::ss):=Ba (λU Z hj h=>by rw[<-H];exact BL (C U Z hj h) (hy U Z hj h)) p
def afF{k:IntKind}{a b:Int}{r:Bool}(p:DX P ops J O T (i+1) (ke pv i (Is (ww r))) os ss)(C:∀U Z,J Z->Oc pv O U Z s->ev U x=.int k a:=by intro U Z hj hR;first|exact hR.1|exact hR.2.1|exact hR.2.2.1|exact rfl)(hy:∀U Z,J Z->Oc pv O U Z s->ev U y=.int k b:=by intro U Z hj hR;first|exact hR.1|exact hR.2.1|exact hR.2.2.1|exact rfl)(H:decide (a=b)=r:=by first|exact w' Z'|exact m' Z'|exact rfl):DX P ops J O T i pv (⟨d,.binOp .eql t x y u,ty,pos,af,none⟩::os) (s::ss):=Ba (λU Z hj h=>by rw[<-H];exact YE (C U Z hj h) (hy U Z hj h)) p
def afZ{a b:Int}(p:DX P ops J O T (i+1) (ke pv i (Is (wd (a+b)))) os ss)(C:∀U Z,J Z->Oc pv O U Z s->ev U x=wd a:=by intro U Z hj hR;first|exact hR.1|exact hR.2.1|exact hR.2.2.1|exact rfl)(hy:∀U Z,J Z->Oc pv O U Z s->ev U y=wd b:=by intro U Z hj hR;first|exact hR.1|exact hR.2.1|exact hR.2.2.1|exact rfl)(h1: -9223372036854775808<=a+b:=by omega)(h2:a+b<=9223372036854775807:=by omega):DX P ops J O T i pv (⟨d,.binOp .add t x y u,ty,pos,af,none⟩::os) (s::ss):=Ba (λU Z hj h=>HR (C U Z hj h) (hy U Z hj h) h1 h2) p
def afA{a b:Int}(p:DX P ops J O T (i+1) (ke pv i (Is (wd (a-b)))) os ss)(C:∀U Z,J Z->Oc pv O U Z s->ev U x=wd a:=by intro U Z hj hR;first|exact hR.1|exact hR.2.1|exact hR.2.2.1|exact rfl)(hy:∀U Z,J Z->Oc pv O U Z s->ev U y=wd b:=by intro U Z hj hR;first|exact hR.1|exact hR.2.1|exact hR.2.2.1|exact rfl)(h1: -9223372036854775808<=a-b:=by omega)(h2:a-b<=9223372036854775807:=by omega):DX P ops J O T i pv (⟨d,.binOp .sub t x y u,ty,pos,af,none⟩::os) (s::ss):=Ba (λU Z hj h=>CR (C U Z hj h) (hy U Z hj h) h1 h2) p
def agi{a b:Int}(p:DX P ops J O T (i+1) (ke pv i (Is (wd (a*b)))) os ss)(C:∀U Z,J Z->Oc pv O U Z s->ev U x=wd a:=by intro U Z hj hR;first|exact hR.1|exact hR.2.1|exact hR.2.2.1|exact rfl)(hy:∀U Z,J Z->Oc pv O U Z s->ev U y=wd b:=by intro U Z hj hR;first|exact hR.1|exact hR.2.1|exact hR.2.2.1|exact rfl)(h1: -9223372036854775808<=a*b:=by omega)(h2:a*b<=9223372036854775807:=by omega):DX P ops J O T i pv (⟨d,.binOp .mul t x y u,ty,pos,af,none⟩::os) (s::ss):=Ba (λU Z hj h=>QS (C U Z hj h) (hy U Z hj h) h1 h2) p
def af0{b:Bool}(p:DX P ops J O T (i+1) (ke pv i (Is (ww !b))) os ss)(C:∀U Z,J Z->Oc pv O U Z s->ev U x=ww b:=by intro U Z hj hR;first|exact hR.1|exact hR.2.1|exact hR.2.2.1|exact rfl):DX P ops J O T i pv (⟨d,.unOp .not t x,ty,pos,af,none⟩::os) (s::ss):=Ba (λU Z hj h=>K1 (C U Z hj h)) p
def dex{v:Value}(p:DX P ops J O T (i+1) (ke pv i (Is (v))) os ss)(C:∀U Z,J Z->Oc pv O U Z s->ev U x=.tuple vs.toArray:=by intro U Z hj hR;first|exact hR.1|exact hR.2.1|exact hR.2.2.1|exact rfl)(A:vs[j]?=some v:=by exact rfl):DX P ops J O T i pv (⟨d,.extract x j,ty,pos,af,none⟩::os) (s::ss):=Ba (λU Z hj h=>bc (C U Z hj h) A) p
def dpT{c a b:Operand}{v:Bool}(p:DX P ops J O T (i+1) (ke pv i (Is (ww v))) os ss)(E:∀U Z,J Z->Oc pv O U Z s->ev U c=ww true:=by intro U Z hj hR;first|exact hR.1|exact hR.2.1|exact hR.2.2.1|exact rfl)(C:∀U Z,J Z->Oc pv O U Z s->ev U a=ww v:=by intro U Z hj hR;first|exact hR.1|exact hR.2.1|exact hR.2.2.1|exact rfl):DX P ops J O T i pv (⟨d,.pick c a b,ty,pos,af,none⟩::os) (s::ss):=Ba (λU Z hj h=>yG (E U Z hj h) (C U Z hj h)) p
def dpF{c a b:Operand}{v:Bool}(p:DX P ops J O T (i+1) (ke pv i (Is (ww v))) os ss)(E:∀U Z,J Z->Oc pv O U Z s->ev U c=ww false:=by intro U Z hj hR;first|exact hR.1|exact hR.2.1|exact hR.2.2.1|exact rfl)(C:∀U Z,J Z->Oc pv O U Z s->ev U b=ww v:=by intro U Z hj hR;first|exact hR.1|exact hR.2.1|exact hR.2.2.1|exact rfl):DX P ops J O T i pv (⟨d,.pick c a b,ty,pos,af,none⟩::os) (s::ss):=Ba (λU Z hj h=>XI (E U Z hj h) (C U Z hj h)) p
def Ku{e:TypeId}{b c sz:Nat}{q:IntKind}{m:Int}(k:Nat)[S:Qa P t (.slice e)][K:TS P e sz](p:DX P ops J O T (i+1) (ke pv i (Is (.pointer (some ⟨b,k*sz,none⟩)))) os ss)(C:∀U Z,J Z->Oc pv O U Z s->ev U x=.slice (some ⟨b,0,none⟩) n c:=by intro U Z hj hR;first|exact hR.1|exact hR.2.1|exact hR.2.2.1|exact rfl)(hy:∀U Z,J Z->Oc pv O U Z s->ev U y=.int q m:=by intro U Z hj hR;first|exact hR.1|exact hR.2.1|exact hR.2.2.1|exact rfl)(hm:m=(k:Int):=by omega)(h1:k<n:=by omega):DX P ops J O T i pv (⟨d,.indexAddr t x y,ty,pos,af,none⟩::os) (s::ss):=Ba (λU Z hj h=>Kc S.out K.out (C U Z hj h) (hy U Z hj h) hm h1) p
def Wi{e:TypeId}{b:Addr}{c sz:Nat}{q:IntKind}{m:Int}(k:Nat)[S:Qa P t (.slice e)][K:TS P e sz](p:DX P ops J O T (i+1) (ke pv i (Is (.pointer (some (b.add (k*sz)))))) os ss)(C:∀U Z,J Z->Oc pv O U Z s->ev U x=.slice (some b) n c:=by intro U Z hj hR;first|exact hR.1|exact hR.2.1|exact hR.2.2.1|exact rfl)(hy:∀U Z,J Z->Oc pv O U Z s->ev U y=.int q m:=by intro U Z hj hR;first|exact hR.1|exact hR.2.1|exact hR.2.2.1|exact rfl)(hm:m=(k:Int):=by omega)(h1:k<n:=by omega):DX P ops J O T i pv (⟨d,.indexAddr t x y,ty,pos,af,none⟩::os) (s::ss):=Ba (λU Z hj h=>Eb S.out K.out (C U Z hj h) (hy U Z hj h) hm h1) p
def dC{f:FuncId}{ts:Array TypeId}{v:Value}(E:∀Z,J Z->Calls P f vs.toArray Z λe V=>e=.returned v/\Below Z.heap.size Z V)(p:DX P ops J O T (i+1) (ke pv i (Is (v))) os ss)(M:∀U Z,J Z->Oc pv O U Z s->qw U args.toList=vs:=by intro U Z hj hR;repeat (first|exact Oa|(apply na;first|exact hR.1|exact hR.2.1|exact hR.2.2.1|exact hR.2.2.2.1|exact rfl)))(Y:Eo P f=true:=by exact fi):DX P ops J O T i pv (⟨d,.call ⟨.value (.func f),args,ts⟩,ty,pos,af,none⟩::os) (s::ss):=iY (λU Z hj h=>Ha Y (M U Z hj h)) E p
def dB{X:List (Nat×Value)}{pl:List (Nat×Nat)}(cs:List Value)[D:pa P t n true by' zc][a:nj P t pl](p:DX P ops J O T (i+1) (ke pv i (Is (.agg cs.toArray))) os ss)(hp:∀U Z,J Z->Oc pv O U Z s->ZI U parts.toList=X:=by intro U Z hj hR;repeat (first|exact Ld|(apply Bb;first|exact hR.1|exact hR.2.1|exact hR.2.2.1|exact hR.2.2.2.1|exact rfl)))(Y:ko (pl[·]?) zc X=some cs:=by exact rfl):DX P ops J O T i pv (⟨d,.build t parts,ty,pos,af,none⟩::os) (s::ss):=Ba (λU Z hj h=>Hn D.out a.out (hp U Z hj h) Y) p
def Nw{e:TypeId}{len sz:Nat}{X:List (Nat×Value)}(cs:List Value)[S:Qa P t (.slice e)][D:pa P e sz ag by' zc](b:DX P ops J O T (i+1) (ke pv i (Rows len sz cs)) os ss)(hp:∀U Z,J Z->Oc pv O U Z s->ZI U parts.toList=X:=by intro U Z hj hR;repeat (first|exact Ld|(apply Bb;first|exact hR.1|exact hR.2.1|exact hR.2.2.1|exact hR.2.2.2.1|exact rfl)))(f:zc.length=sz:=by exact rfl)(Y:ko (λi=>some (i*sz,sz)) (hh len zc) X=some cs:=by exact rfl)(a:¬len*sz=0:=by decide)(p:len*sz<=16777216:=by decide)(Q:cs.length=len*sz:=by exact rfl):DX P ops J O T i pv (⟨d,.buildSlice t len parts,ty,pos,af,none⟩::os) (s::ss):=CB S.out D.out hp f Y a p Q b
def dS{b c:Bool}{op:Op}{g:Nat}(p:DX P ops J O T (i+1) (ke pv i (Is (undef))) os ss)(hj:(ops[j]?).bind (·.dst)=some g:=by exact rfl)(A:∀U Z,J Z->Oc pv O U Z s->U g=ww c:=by intro U Z hj hR;first|exact hR.1|exact hR.2.1|exact hR.2.2.1|exact hR.2.2.2.1)(F:c≠b:=by decide):DX P ops J O T i pv (⟨d,op,ty,pos,af,some (j,b)⟩::os) (s::ss):=TX hj A F p
def dU{b:Bool}{op:Op}{g:Nat}(p:DX P ops J O T (i+1) (ke pv i (Is (undef))) os ss)(hj:(ops[j]?).bind (·.dst)=some g:=by exact rfl)(A:∀U Z,J Z->Oc pv O U Z s->U g=undef:=by intro U Z hj hR;first|exact hR.1|exact hR.2.1|exact hR.2.2.1|exact hR.2.2.2.1):DX P ops J O T i pv (⟨d,op,ty,pos,af,some (j,b)⟩::os) (s::ss):=BU hj A p
def dG{b:Bool}{op:Op}{g:Nat}(p:DX P ops J O T i pv (⟨d,op,ty,pos,af,none⟩::os) (s::ss))(hj:(ops[j]?).bind (·.dst)=some g:=by exact rfl)(A:∀U Z,J Z->Oc pv O U Z s->U g=ww b:=by intro U Z hj hR;first|exact hR.1|exact hR.2.1|exact hR.2.2.1|exact hR.2.2.2.1):DX P ops J O T i pv (⟨d,op,ty,pos,af,some (j,b)⟩::os) (s::ss):=let⟨V,h1,h2,G⟩:=p;⟨V,h1,λU Z l h=>Nf hj (A U Z l h) (h2 U Z l h),G⟩
abbrev Zc(f:FuncId)(a:Array Value)(w:World)(v:Value):Prop:=Calls prog f a w λr V=>r=.returned v/\Below w.heap.size w V
def kcb{a b:α}(h:a=b:=by(conv=>lhs;cbv)<;>rfl):a=b:=h
def Ga{f:FuncId}{fn:Func}{c:Code}{l:List Value}(Y:P.funcs[f]?=some fn)(h:WC .plain P N c (Bo P fn R) (fG l) w)(B:fn.ntmps=N:=by(conv=>lhs;whnf)<;>rfl)(F:fn.body=some c:=by rfl)(M:l.length<=N:=by simp):Calls P f l.toArray w R:=bV Y F B M h
variable {d:Nat}
def cd{f:FuncId}{ts:Array TypeId}{v:Value}(I:Hp w0 H w)(E:Calls P f vs.toArray w λe V=>e=.returned v/\Below w.heap.size w V)(p:∀V,Hp w0 H V->WL ro P N ops Q rest (vd O d v) V)(L:d<N:=by decide)(Y:Eo P f=true:=by kernel_rfl)(M:qw O args.toList=vs:=by exact rfl):WL ro P N ops Q (⟨some d,.call ⟨.value (.func f),args,ts⟩,ty,pos,af,none⟩::rest) O w:=Lc E Y M L λ_ _ R=>⟨_,R.1,p _ (I.ext R.2)⟩
def Gd{f:FuncId}{ts:Array TypeId}{v:Value}(I:Hp w0 H w)(E:Calls P f vs.toArray w λe V=>e=.returned v/\Below w.heap.size w V)(M:qw O args.toList=vs)(p:∀V,Hp w0 H V->WL ro P N ops Q rest (vd O d v) V)(L:d<N:=by decide)(Y:Eo P f=true:=by kernel_rfl):WL ro P N ops Q (⟨some d,.call ⟨.value (.func f),args,ts⟩,ty,pos,af,none⟩::rest) O w:=Lc E Y M L λ_ _ R=>⟨_,R.1,p _ (I.ext R.2)⟩
def cr{f:FuncId}{ts:Array TypeId}{xs:List Value}{t:TypeId}(I:Hp w0 H w)(E:Calls P f vs.toArray w λe V=>∃A c,e=.returned (wn A n c)/\V.ownsRow w.heap.size t k (wn A n c) n xs/\Below w.heap.size w V)(p:∀A c V,Hp w0 (.row A n c t k xs::H) V->WL ro P N ops Q rest (vd O d (wn A n c)) V)(L:d<N:=by decide)(Y:Eo P f=true:=by kernel_rfl)(M:qw O args.toList=vs:=by exact rfl):WL ro P N ops Q (⟨some d,.call ⟨.value (.func f),args,ts⟩,ty,pos,af,none⟩::rest) O w:=Lc E Y M L λ_ _ ⟨A,c,R,W,F⟩=>⟨_,R,p A c _ (I.Ed (x:=.row _ _ _ _ _ _) F W)⟩
def vU{f:FuncId}{ts:Array TypeId}{xs:List Value}{t:TypeId}(I:Hp w0 H w)(E:Calls P f vs.toArray w λe V=>∃A c,e=.returned (wn A n c)/\V.ownsRow w.heap.size t k (wn A n c) n xs/\Below w.heap.size w V)(M:qw O args.toList=vs)(p:∀A c V,Hp w0 (.row A n c t k xs::H) V->WL ro P N ops Q rest (vd O d (wn A n c)) V)(L:d<N:=by decide)(Y:Eo P f=true:=by kernel_rfl):WL ro P N ops Q (⟨some d,.call ⟨.value (.func f),args,ts⟩,ty,pos,af,none⟩::rest) O w:=Lc E Y M L λ_ _ ⟨A,c,R,W,F⟩=>⟨_,R,p A c _ (I.Ed (x:=.row _ _ _ _ _ _) F W)⟩
def BP{f:FuncId}{ts:Array TypeId}{xs:List Value}{t:TypeId}(I:Hp w0 H w)(E:Calls P f vs.toArray w λe V=>∃b c,e=.returned (wn (some ⟨b,0,none⟩) n c)/\V.ownsRow w.heap.size t k (wn (some ⟨b,0,none⟩) n c) n xs/\Below w.heap.size w V)(p:∀b c V,Hp w0 (.row (some ⟨b,0,none⟩) n c t k xs::H) V->WL ro P N ops Q rest (vd O d (wn (some ⟨b,0,none⟩) n c)) V)(L:d<N:=by decide)(Y:Eo P f=true:=by kernel_rfl)(M:qw O args.toList=vs:=by exact rfl):WL ro P N ops Q (⟨some d,.call ⟨.value (.func f),args,ts⟩,ty,pos,af,none⟩::rest) O w:=Lc E Y M L λ_ _ ⟨A,c,R,W,F⟩=>⟨_,R,p _ c _ (I.Ed (x:=.row _ _ _ _ _ _) F W)⟩
def kX{f:FuncId}{ts:Array TypeId}{xs:List Value}{t:TypeId}(I:Hp w0 H w)(E:Calls P f vs.toArray w λe V=>∃b c,e=.returned (wn (some ⟨b,0,none⟩) n c)/\V.ownsRow w.heap.size t k (wn (some ⟨b,0,none⟩) n c) n xs/\Below w.heap.size w V)(M:qw O args.toList=vs)(p:∀b c V,Hp w0 (.row (some ⟨b,0,none⟩) n c t k xs::H) V->WL ro P N ops Q rest (vd O d (wn (some ⟨b,0,none⟩) n c)) V)(L:d<N:=by decide)(Y:Eo P f=true:=by kernel_rfl):WL ro P N ops Q (⟨some d,.call ⟨.value (.func f),args,ts⟩,ty,pos,af,none⟩::rest) O w:=Lc E Y M L λ_ _ ⟨A,c,R,W,F⟩=>⟨_,R,p _ c _ (I.Ed (x:=.row _ _ _ _ _ _) F W)⟩
def Vg{f:FuncId}{ts:Array TypeId}(E:Calls P f vs.toArray w R)(p:∀e V,R e V->∃v,e=.returned v/\WL ro P N ops Q rest (vd O d v) V)(L:d<N:=by decide)(Y:Eo P f=true:=by kernel_rfl)(M:qw O args.toList=vs:=by exact rfl):WL ro P N ops Q (⟨some d,.call ⟨.value (.func f),args,ts⟩,ty,pos,af,none⟩::rest) O w:=Lc E Y M L p
def Hi{f:FuncId}{ts:Array TypeId}(E:Calls P f vs.toArray w R)(M:qw O args.toList=vs)(p:∀e V,R e V->∃v,e=.returned v/\WL ro P N ops Q rest (vd O d v) V)(L:d<N:=by decide)(Y:Eo P f=true:=by kernel_rfl):WL ro P N ops Q (⟨some d,.call ⟨.value (.func f),args,ts⟩,ty,pos,af,none⟩::rest) O w:=Lc E Y M L p
def eW:Code->t3
 |.region _ ops _=>ops.toList.filterMap (·.dst)
 |.seq a b=>eW a++eW b
 |.cond _ a b=>eW a++eW b
 |.block _ c=>eW c
 |.loop c=>eW c
 |.scope c=>eW c
 |.rangeFunc _ X a b=>X.toList++(eW a++eW b)
 |_=>[]
def aeu(a:Nat):t3->t3
 |[]=>[a]
 |b::l=>if a<b then a::b::l else if a=b then b::l else b::aeu a l
def moC(c:Code):t3:=(eW c).foldr aeu []
variable {c:Code}{mods:t3}
def rf(s0:Nat)(I:Value->World->Prop)(X:Value->World->Nat)(J:I (O s0) w) (round:∀ρ' v0 V,I v0 V->WC ro P N c (Xd (λK q=>I (K s0) q/\X (K s0) q<X v0 V/\Gg mods K O) Q) (vd (mask mods ρ' O) s0 v0) V)(_:moC c=mods:=by exact kcb):WC ro P N (.loop c) Q O w:=WU mods s0 I X J round
def Jh(s0 s1:Nat)(I:Value->Value->World->Prop)(X:Value->Value->World->Nat)(J:I (O s0) (O s1) w) (round:∀ρ' v0 v1 V,I v0 v1 V->WC ro P N c (Xd (λK q=>I (K s0) (K s1) q/\X (K s0) (K s1) q<X v0 v1 V/\Gg mods K O) Q) (vd (vd (mask mods ρ' O) s0 v0) s1 v1) V)(_:moC c=mods:=by exact kcb):WC ro P N (.loop c) Q O w:=xU mods s0 s1 I X J round
def jW(l:List Oper)(m:Nat):List (List (Nat×Option Nat)):=
 let M:=Io l []
 let ops:=l.toArray
 (l.take m).zipIdx.map λ(o,i)=>((o.looksAt ops).eraseDups).map λt=>
  (t,(List.range m).find? λj=>((l[j]?).bind (·.dst)==some t) && (M.getD i 0).testBit j)
def dsT(l:List Oper)(m:Nat):List (Nat×Nat):=((l.take m).zipIdx.filterMap λ(o,i)=>o.dst.map λd=>(i,d)).reverse
def EqV(pv:Nat->VP):List (Nat×Nat)->List (Nat×Value)->Prop
 |[],[]=>True
 |(i,d)::r,(C,v)::s=>(d=C/\pv i=Is v)/\EqV pv r s
 |_,_=>False
def SU{V:VP}{i:Nat}(h:j<i):ke pv i V j=pv j:=by
 have:j.beq i=false:=by
  cases F:j.beq i with
  |false=>rfl
  |true=>exact absurd (Nat.eq_of_beq_eq_true F) (Nat.ne_of_lt h)
 show(bif j.beq i then V else pv j)=_;rw[this];rfl
def EqW(n:Nat)(pv:Nat->VP)(ds:List (Nat×Nat))(vs:List (Nat×Value)):Prop:=(∀p∈ds,p.1<n)/\EqV pv ds vs
def aN{pv a:Nat->VP}:∀{r:List (Nat×Nat)}{s:List (Nat×Value)},(∀p∈r,a p.1=pv p.1)->EqV pv r s->EqV a r s
 |[],[],_,_=>trivial
 |[],_::_,_,h=>h.elim
 |_::_,[],_,h=>h.elim
 |(j,d)::r,(C,v)::s,F,⟨⟨h1,h2⟩,G⟩=>⟨⟨h1,(F _ E').trans h2⟩,aN (λp hp=>F p (u' _ hp)) G⟩
def JL:EqW n pv [] []:=⟨λ_ h=>absurd h i_,trivial⟩
def rz{i:Nat}{V:VP}{r:List (Nat×Nat)}{s:List (Nat×Value)}(h:EqW i pv r s):EqW (i+1) (ke pv i V) r s:=
 ⟨λp hp=>Nat.lt_succ_of_lt (h.1 p hp),aN (λp hp=>SU (h.1 p hp)) h.2⟩
def MN{i d:Nat}{v:Value}{r:List (Nat×Nat)}{s:List (Nat×Value)}(h:EqW i pv r s):EqW (i+1) (ke pv i (Is v)) ((i,d)::r) ((d,v)::s):=
 ⟨λp hp=>by
  obtain rfl|hp:=y'.1 hp
  .exact Nat.lt_succ_self _
  exact Nat.lt_succ_of_lt (h.1 p hp),⟨rfl,Ex _ _ _⟩,(rz h).2⟩
def EqV.to{pv:Nat->VP}{f:Nat->Value}{W:World}:∀{ds:List (Nat×Nat)}{vs:List (Nat×Value)},EqV pv ds vs->ao pv f W ds->EqL f ds vs
 |[],[],_,_=>trivial
 |[],_::_,h,_=>h.elim
 |_::_,[],h,_=>h.elim
 |(i,d)::r,(C,v)::s,⟨⟨h1,h2⟩,G⟩,h=>⟨⟨h1,by have:=h.1;rw[h2] at this;exact this⟩,EqV.to G h.2⟩
def yL{P:Program}{ops:Array Oper}{J:World->Prop}{O:Rf}{T f:(Nat->VP)->Prop}(S:∀V,T V->f V):∀{l:List Oper}{s:List (List (Nat×Option Nat))}{i:Nat}{pv:Nat->VP},DX P ops J O T i pv l s->DX P ops J O f i pv l s
 |[],[],_,_,h=>S _ h
 |_::_,_::_,_,_,⟨V,h1,h2,G⟩=>⟨V,h1,h2,yL S G⟩
 |[],_::_,_,_,h=>h.elim
 |_::_,[],_,_,h=>h.elim
variable {id:Nat}{l:List Oper}{src:List (List (Nat×Option Nat))}{ds:List (Nat×Nat)}
def qh(m:Nat)(I:Hp w0 H w)(h:DX P l.toArray (JJ w0 H w) O (λj=>∀f V,JJ w0 H w V->ao j f V ds->WL ⟨none,D,false⟩ P N l.toArray Q (l.drop m) (Yf O f ds) V) 0 fW (l.take m) src) (_:(jW l m,dsT l m)=(src,ds):=by exact kcb)(hm:P.follows .mixedOrders=true:=by exact mixed)(y:Lh l m N src ds [] (Io l [])=true:=by kernel_rfl)(A:NP Q:=by repeat (first|exact Nc|refine Rb ?_|refine Mc ?_|refine np_scope ?_)):WC ⟨none,D,false⟩ P N (.region id l.toArray true) Q O w:=
 fD [] [] (Io l []) m src ds I hm y Jo rfl A (yL (λ_ h f V h1 h2 _=>h f V h1 h2) h)
def gz(a X:t3)(m:Nat)(I:Hp w0 H w)(h:DX P l.toArray (JJ w0 H w) O (λo=>∀f V,JJ w0 H w V->ao o f V ds->(∀i∈a,∀j∈a,i≠j->f i≠f j)->WL ⟨none,D,false⟩ P N l.toArray Q (l.drop m) (Yf O f ds) V) 0 fW (l.take m) src) (_:(jW l m,dsT l m)=(src,ds):=by exact kcb)(hm:P.follows .mixedOrders=true:=by exact mixed)(y:Lh l m N src ds X (Io l [])=true:=by kernel_rfl)(x:yv P l a:=by repeat (first|exact Jo|refine Lq rfl pa.out ?_))(M:a.all (λi=>i<m)=true:=by rfl)(A:NP Q:=by repeat (first|exact Nc|refine Rb ?_|refine Mc ?_|refine np_scope ?_)):WC ⟨none,D,false⟩ P N (.region id l.toArray true) Q O w:=
 fD a X (Io l []) m src ds I hm y x M A h
variable {ρ':Rf}
def dn{M:Mode}{D:List Oper}{i:Nat}{vs:List (Nat×Value)}(k:∀W,Hp w0 H W->WL M P N ops Q D ρ' W)(h:EqW i pv ds vs:=by repeat (first|exact JL|apply MN|apply rz))(e:Ay O vs=ρ':=by dsimp only[Ay]<;>rfl):DX P ops (JJ w0 H w) O (λj=>∀f V,JJ w0 H w V->ao j f V ds->WL M P N ops Q D (Yf O f ds) V) i pv [] []:=
 λf W hj a=>by rw[Vu (h.2.to a),e];exact k W hj.hp
def dn2{M:Mode}{D:List Oper}{i:Nat}{a:t3}{vs:List (Nat×Value)}(k:∀W,Hp w0 H W->WL M P N ops Q D ρ' W)(h:EqW i pv ds vs:=by repeat (first|exact JL|apply MN|apply rz))(e:Ay O vs=ρ':=by dsimp only[Ay]<;>rfl):DX P ops (JJ w0 H w) O (λo=>∀f V,JJ w0 H w V->ao o f V ds->(∀i∈a,∀j∈a,i≠j->f i≠f j)->WL M P N ops Q D (Yf O f ds) V) i pv [] []:=
 λf W hj b _=>by rw[Vu (h.2.to b),e];exact k W hj.hp
def Be{M:Mode}{D:List Oper}{f:Nat->Value}{vs:List (Nat×Value)}(k:WL M P N ops Q D ρ' w)(h:EqL f ds vs:=by repeat (first|exact DE|(apply Gf;(first|assumption|rfl))))(e:Ay O vs=ρ':=by dsimp only[Ay]<;>rfl):WL M P N ops Q D (Yf O f ds) w:=WE (Vu h) (e ▸ k)
structure KP(q:Prop):Prop where o:q
def dg1{p q:Prop}(kQ:q)(e:KP q->p:=by intro kQ;(first|refine Gv ?_|refine dmS ?_|refine OA ?_|refine dmB ?_|refine dmG ?_|refine dmT ?_|refine dmF ?_|refine dmP ?_|refine daI ?_|refine daS ?_|refine daL ?_|refine daB ?_|refine daG ?_|refine daT ?_|refine daF ?_|refine daP ?_|refine dnc ?_|refine XJ ?_|refine px ?_|refine afa ?_|refine lY ?_|refine dleq ?_|refine agA ?_|refine dgeq ?_|refine afF ?_|refine dneq ?_|refine afZ ?_|refine afA ?_|refine agi ?_|refine af0 ?_|refine dex ?_|refine dpT ?_|refine dpF ?_|refine QM 0 ?_|refine QM 1 ?_|refine QM 2 ?_|refine QM 3 ?_|refine QM 4 ?_|refine QM 5 ?_|refine QM 6 ?_|refine QM 7 ?_|refine QM 8 ?_|refine Ee 0 [_,_] ?_|refine Ee 0 [_,_,_] ?_|refine Ee 0 [_,_,_,_] ?_|refine Ee 0 [_,_,_,_,_] ?_|refine Ee 0 [_,_,_,_,_,_] ?_|refine Ee 0 [_,_,_,_,_,_,_] ?_|refine Ee 0 [_,_,_,_,_,_,_,_] ?_|refine Ee 0 [_,_,_,_,_,_,_,_,_] ?_|refine Ee 0 [_,_,_,_,_,_,_,_,_,_] ?_|refine Ee 0 [_,_,_,_,_,_,_,_,_,_,_,_] ?_|refine Ee 1 [_,_] ?_|refine Ee 1 [_,_,_] ?_|refine Ee 1 [_,_,_,_] ?_|refine Ee 1 [_,_,_,_,_] ?_|refine Ee 1 [_,_,_,_,_,_] ?_|refine Ee 1 [_,_,_,_,_,_,_] ?_|refine Ee 1 [_,_,_,_,_,_,_,_] ?_|refine Ee 1 [_,_,_,_,_,_,_,_,_] ?_|refine Ee 1 [_,_,_,_,_,_,_,_,_,_] ?_|refine Ee 1 [_,_,_,_,_,_,_,_,_,_,_,_] ?_|refine Ee 2 [_,_] ?_|refine Ee 2 [_,_,_] ?_|refine Ee 2 [_,_,_,_] ?_|refine Ee 2 [_,_,_,_,_] ?_|refine Ee 2 [_,_,_,_,_,_] ?_|refine Ee 2 [_,_,_,_,_,_,_] ?_|refine Ee 2 [_,_,_,_,_,_,_,_] ?_|refine Ee 2 [_,_,_,_,_,_,_,_,_] ?_|refine Ee 2 [_,_,_,_,_,_,_,_,_,_] ?_|refine Ee 2 [_,_,_,_,_,_,_,_,_,_,_,_] ?_|refine Ee 3 [_,_] ?_|refine Ee 3 [_,_,_] ?_|refine Ee 3 [_,_,_,_] ?_|refine Ee 3 [_,_,_,_,_] ?_|refine Ee 3 [_,_,_,_,_,_] ?_|refine Ee 3 [_,_,_,_,_,_,_] ?_|refine Ee 3 [_,_,_,_,_,_,_,_] ?_|refine Ee 3 [_,_,_,_,_,_,_,_,_] ?_|refine Ee 3 [_,_,_,_,_,_,_,_,_,_] ?_|refine Ee 3 [_,_,_,_,_,_,_,_,_,_,_,_] ?_|refine Ee 4 [_,_] ?_|refine Ee 4 [_,_,_] ?_|refine Ee 4 [_,_,_,_] ?_|refine Ee 4 [_,_,_,_,_] ?_|refine Ee 4 [_,_,_,_,_,_] ?_|refine Ee 4 [_,_,_,_,_,_,_] ?_|refine Ee 4 [_,_,_,_,_,_,_,_] ?_|refine Ee 4 [_,_,_,_,_,_,_,_,_] ?_|refine Ee 4 [_,_,_,_,_,_,_,_,_,_] ?_|refine Ee 4 [_,_,_,_,_,_,_,_,_,_,_,_] ?_|refine Ee 5 [_,_] ?_|refine Ee 5 [_,_,_] ?_|refine Ee 5 [_,_,_,_] ?_|refine Ee 5 [_,_,_,_,_] ?_|refine Ee 5 [_,_,_,_,_,_] ?_|refine Ee 5 [_,_,_,_,_,_,_] ?_|refine Ee 5 [_,_,_,_,_,_,_,_] ?_|refine Ee 5 [_,_,_,_,_,_,_,_,_] ?_|refine Ee 5 [_,_,_,_,_,_,_,_,_,_] ?_|refine Ee 5 [_,_,_,_,_,_,_,_,_,_,_,_] ?_|refine Ee 6 [_,_] ?_|refine Ee 6 [_,_,_] ?_|refine Ee 6 [_,_,_,_] ?_|refine Ee 6 [_,_,_,_,_] ?_|refine Ee 6 [_,_,_,_,_,_] ?_|refine Ee 6 [_,_,_,_,_,_,_] ?_|refine Ee 6 [_,_,_,_,_,_,_,_] ?_|refine Ee 6 [_,_,_,_,_,_,_,_,_] ?_|refine Ee 6 [_,_,_,_,_,_,_,_,_,_] ?_|refine Ee 6 [_,_,_,_,_,_,_,_,_,_,_,_] ?_|refine Ee 7 [_,_] ?_|refine Ee 7 [_,_,_] ?_|refine Ee 7 [_,_,_,_] ?_|refine Ee 7 [_,_,_,_,_] ?_|refine Ee 7 [_,_,_,_,_,_] ?_|refine Ee 7 [_,_,_,_,_,_,_] ?_|refine Ee 7 [_,_,_,_,_,_,_,_] ?_|refine Ee 7 [_,_,_,_,_,_,_,_,_] ?_|refine Ee 7 [_,_,_,_,_,_,_,_,_,_] ?_|refine Ee 7 [_,_,_,_,_,_,_,_,_,_,_,_] ?_|refine Ee 8 [_,_] ?_|refine Ee 8 [_,_,_] ?_|refine Ee 8 [_,_,_,_] ?_|refine Ee 8 [_,_,_,_,_] ?_|refine Ee 8 [_,_,_,_,_,_] ?_|refine Ee 8 [_,_,_,_,_,_,_] ?_|refine Ee 8 [_,_,_,_,_,_,_,_] ?_|refine Ee 8 [_,_,_,_,_,_,_,_,_] ?_|refine Ee 8 [_,_,_,_,_,_,_,_,_,_] ?_|refine Ee 8 [_,_,_,_,_,_,_,_,_,_,_,_] ?_|refine dB [_] ?_|refine dB [_,_] ?_|refine dB [_,_,_] ?_|refine dB [_,_,_,_] ?_|refine dB [_,_,_,_,_] ?_|refine dB [_,_,_,_,_,_] ?_|refine dB [_,_,_,_,_,_,_] ?_|refine dB [_,_,_,_,_,_,_,_] ?_|refine dB [_,_,_,_,_,_,_,_,_] ?_|refine dB [_,_,_,_,_,_,_,_,_,_] ?_|refine dB [_,_,_,_,_,_,_,_,_,_,_] ?_|refine dB [_,_,_,_,_,_,_,_,_,_,_,_] ?_);exact kQ.o):p:=e ⟨kQ⟩
def ub{p q:Prop}(kQ:q)(e:KP q->p:=by intro kQ;(repeat (first|refine dg1 ?_|refine dS ?_|refine dU ?_|(refine dG ?_;refine dg1 ?_)));exact kQ.o):p:=e ⟨kQ⟩
variable {q:Prop}
def Od(m:Nat)(I:Hp w0 H w)(kQ:q)(J:(jW l m,dsT l m)=(src,ds):=by exact kcb)(hm:P.follows .mixedOrders=true:=by exact mixed)(y:Lh l m N src ds [] (Io l [])=true:=by kernel_rfl)(A:NP Q:=by repeat (first|exact Nc|refine Rb ?_|refine Mc ?_|refine np_scope ?_))(e:KP q->DX P l.toArray (JJ w0 H w) O (λh=>∀f V,JJ w0 H w V->ao h f V ds->WL ⟨none,D,false⟩ P N l.toArray Q (l.drop m) (Yf O f ds) V) 0 fW (l.take m) src:=by intro kQ;refine ub ?_;exact kQ.o):WC ⟨none,D,false⟩ P N (.region id l.toArray true) Q O w:=qh m I (e ⟨kQ⟩) J hm y A
def lW(a X:t3)(m:Nat)(I:Hp w0 H w)(kQ:q)(J:(jW l m,dsT l m)=(src,ds):=by exact kcb)(hm:P.follows .mixedOrders=true:=by exact mixed)(y:Lh l m N src ds X (Io l [])=true:=by kernel_rfl)(x:yv P l a:=by repeat (first|exact Jo|refine Lq rfl pa.out ?_))(M:a.all (λi=>i<m)=true:=by rfl)(A:NP Q:=by repeat (first|exact Nc|refine Rb ?_|refine Mc ?_|refine np_scope ?_))(e:KP q->DX P l.toArray (JJ w0 H w) O (λh=>∀f V,JJ w0 H w V->ao h f V ds->(∀i∈a,∀j∈a,i≠j->f i≠f j)->WL ⟨none,D,false⟩ P N l.toArray Q (l.drop m) (Yf O f ds) V) 0 fW (l.take m) src:=by intro kQ;refine ub ?_;exact kQ.o):WC ⟨none,D,false⟩ P N (.region id l.toArray true) Q O w:=gz a X m I (e ⟨kQ⟩) J hm y x M A
open Go.ChangeShapes Go.WideShapes Go.ChangeAt Go.RowKit
variable {H:Type}{enc:TypeId×Value->H}
def tr(Q:laidOutB P=true){W c:World}(F:Below W.heap.size W c)(sp:Nat->Bool):∀(ts:List TypeId)(vs:List Value)(ds:List (DataW H))(X:List MemPlace),(∀t∈ts,P.readableRec t=true/\t<P.types.size)->(∀x∈X,x.block<W.heap.size)->(∀x∈X,sp x.block=true)->DataW.TrodAll enc P W 0 (λ_=>true) true ts vs ds X->DataW.TrodAll enc P c 0 sp true ts vs ds X
 |[],vs,ds,X,_,_,_,h=>(by obtain⟨rfl,rfl,rfl⟩:=trodAll_nil h;exact trodAll_mk0)
 |t::ts,vs,ds,X,a,D,i,h=>by
  obtain⟨v,b,d,e,p,q,rfl,rfl,rfl,J,Y⟩:=trodAll_cons h;refine trodAll_cons_mk (WideElems.Trod_stays Q (a t E').1 (a t E').2 J (λx C=>F.same (D x (q9 _ C))) (λx C=>i x (q9 _ C))) (tr Q F sp ts b e q (λt S=>a t (u' _ S)) (λx C=>D x (H_ _ C)) (λx C=>i x (H_ _ C)) Y)
def PT{f:Func}{s:ChangeSpec}{c:World}{args:Array Value}{ds:List (DataW H)}{before:List MemPlace}{tb:TypeId} (g:DataW.Whole enc P f.params.toList s.vars false W args.toList ds [] before)(A:s.vars=[])(Q:laidOutB P=true)(r:∀t∈f.params.toList,P.readableRec t=true/\t<P.types.size) (e:f.resultTypes= #[tb])(a:P.underlying tb=some .bool)(m:(s.fn H (ds++[])).results=[.lit (.bool true)])(i:(s.fn H (ds++[])).args=ds)(l:(s.fn H (ds++[])).vars=[])(F:Below W.heap.size W c):
  s.post enc P f false true false false W args (.bool true) c:=by
 have D:∀p∈before,p.block<W.heap.size:=λp hp=>by simpa using g.lt p hp
 have hold:∀p∈before,(λb=>decide (b<W.heap.size)) p.block=true:=λp hp=>by simpa using D p hp
 have n:=g;obtain⟨v,pv,R,q,j,u,B⟩:=n;rw[A] at q;obtain⟨_,rfl⟩:=trodVars_none q;have C:before=v:=by rw[j,I_]
 subst C;have h:∀sp:Nat->Bool,(∀p∈before,sp p.block=true)->DataW.TrodAll enc P c 0 sp true f.params.toList args.toList (s.fn H (ds++[])).args before:=λsp o=>(by rw[i];exact tr Q F sp _ _ _ _ r D o R);have k:∀sp:Nat->Bool,DataW.TrodVars enc P c sp s.vars (s.fn H (ds++[])).vars []:=λsp=>(by rw[A,l];rfl);have hR:∀(b:Nat)(sp:Nat->Bool)(T:Bool),DataW.TrodAll enc P c b sp T f.resultTypes.toList ((Value.bool true).resultList f.resultTypes.size) (s.fn H (ds++[])).results []:=λb sp T=>(by rw[e,m];exact trodAll_cons_mk (shut_bool a _) trodAll_mk0);refine⟨ds,[],before,[],before,[],g,hR _ _ _,h _ hold,k _,World.keptBut_mono (λp hp=>⟨hp, ?_⟩) (F.frame (· ∈before)),λ_=> ?_⟩
 .exact .inr (.inl hp)
 refine⟨ok_one e rfl (okWide_bool_mk a _),_,_,([]++before)++[],⟨[]++before,[],trodAll_append (h _ (λ_ _=>rfl)) (hR _ _ _),k _,rfl, ?_, ?_⟩, ?_⟩
 .intro b off hp;have d:=u b off (by simpa using hp);rw[F.frozen (D _ (by simpa using hp))];exact d
 .intro M
  cases M
 intro p hp _;simpa using hp
variable {cy:Nat}{H:List HE}
def WM(I:Hp w0 H w){t s e:TypeId}{x y:Operand}{i b c dl dc sz:Nat}{B:Option Addr}{xs:List Value}(hi:H[i]?=some (.row (some ⟨b,0,none⟩) m c e sz xs))(hx:ev O x=.slice (some ⟨b,o,none⟩) dl dc)(hy:ev O y=.slice B n cy) (p:Sl w B n sz news)(ht:P.underlying t=some (.slice e))(W:sd P e=some (sz,ag,by',zc))(ho:o+min n dl*sz<=xs.length)(h1:(news.all Value.oneCell')=true)(hN:d<N) (kk:∀V,Hp w0 (H.set i (.row (some ⟨b,0,none⟩) m c e sz (xb xs o (news.take (min n dl*sz))))) V->WL ro P N ops Q rest (vd O d (.int .i64 ((min n dl:Nat):Int))) V):
  WL ro P N ops Q (⟨some d,.call ⟨.builtin .copy, #[x,y], #[t,s]⟩,ty,pos,af,none⟩::rest) O w:=by
 obtain⟨inf,z,dd,hti,hd,hz,S,hby,hzc,_⟩:=df W;have K:=I.at_ hi;obtain⟨hlen,h2⟩:=K;have G:=p.1;have hmin:min n dl*sz<=n*sz:=n_ _ (Nat.min_le_left _ _);have r:(news.take (min n dl*sz)).length=min n dl*sz:=by rw[q'];omega
 have E:∀v∈news.take (min n dl*sz),v.oneCell'=true:=λv hv=>M_.1 h1 v (Z8 hv);have k:(Builtin.firstCells sz (min n dl) (.slice B n cy)).run P w=.ok (news.take (min n dl*sz)).toArray w:=by
  cases B with
  |none=>
   have J:n=0:=by
    obtain J|J:=a9 n
    .exact J
    obtain⟨A,h1,_⟩:=p.2 J;cases h1
   subst J;simp[Builtin.firstCells]
  |some A=>
   have M:∀j u,(news.take (min n dl*sz))[j]?=some u->w.cell? (A.add j)=some u:=by
    intro j u hj;rw[P8] at hj;split at hj
    .obtain J|J:=a9 n
     .subst J;have:news=[]:=s9 (by simpa using G);simp[this] at hj
     obtain⟨ad',he,L⟩:=p.2 J;injection he with he
     subst he;exact L j u hj
    cases hj
   have:=run_loadCells_list (P:=P) w A _ M;rw[r] at this;simpa[Builtin.firstCells] using this
 generalize news.take (min n dl*sz)=vs at r E k kk;rw[<-r] at ho;obtain⟨h2,_⟩|⟨g,cap,cur,hv,hg,F,q,C,a,f⟩:=h2
 .injection h2 with h2;cases h2
 injection hv with R hn X
 injection R with R
 injection R with R
 subst R;subst X;have h:cur.size=cur.toList.length:=by simp
 have hle:m*sz<=c*sz:=n_ _ q;obtain⟨V,hr,Y,T,hs⟩:=Pf (P:=P) (b:=b) (t:=e) (fz:=(0,0)) o vs 0 cur.toList w (by simpa using F) (.inr (F' _)) (by rw[<-h];omega) E;refine Jb rfl rfl hN (V:=V) (v:=.int .i64 ((min n dl:Nat):Int)) ?_ (kk V (I.grown hi T (.inl rfl) ⟨by rw[Qe Z'];exact hlen,.inr ⟨b,c,(xb cur.toList o vs).toArray,rfl,hg,by simpa using Y,q,C, ?_, ?_⟩⟩))
 .have D:Nat.min n dl=min n dl:=rfl;simp only[execOp,resolve,invoke,hx,hy,Q6,T_,f_];simp[builtin,Builtin.copy_,run_underlying ht,Builtin.lenOf,sizeOf,typeInfo,hti,S,D,k,hr,goInt]
 .simp only[B7];rw[Qe (by rw[<-h];omega),<-h,a]
 simp only[xb];rw[<-f];have h5:o+vs.length<=m*sz:=Z';have h6:m*sz<=cur.toList.length:=by rw[<-h,a];exact hle
 refine abc ?_;congr 2;congr 1;omega
def Ka(B:Nat):t3->Nat
 |[]=>0
 |d::l=>d+B*Ka B l
def Fb(B:Nat):Nat->Nat->t3
 |0,_=>[]
 |k+1,n=>n % B::Fb B k (n/B)
def fe:t3->t3
 |[]=>[]
 |d::l=>match fe l with
  |[]=>if d=0 then[] else[d]
  |e::m=>d::e::m
def ya(B n:Nat):t3:=fe (Fb B (n.log2+1) n)
def Dg(B:Nat)(l:t3):Prop:=∀d∈l,d<B
variable {B:Nat}
def Dg.nil:Dg B []:=λ_ h=>(nomatch h)
def Dg.cons{d:Nat}{l:t3}(h:d<B)(Q:Dg B l):Dg B (d::l):=λx C=>by
 obtain rfl|C:=y'.1 C
 .exact h
 exact Q x C
def Dg.head{d:Nat}{l:t3}(h:Dg B (d::l)):d<B:=h d E'
def Dg.tail{d:Nat}{l:t3}(h:Dg B (d::l)):Dg B l:=λx C=>h x (u' _ C)
def Dg.append{l m:t3}(h:Dg B l)(S:Dg B m):Dg B (l++m):=λx C=>by
 obtain C|C:=A_.1 C
 .exact h x C
 exact S x C
def Dg.sub{l m:t3}(h:Dg B l)(S:m.Sublist l):Dg B m:=λx C=>h x (S.subset C)
def Dg.take{l:t3}(h:Dg B l)(n:Nat):Dg B (l.take n):=h.sub (List.take_sublist n l)
def Dg.drop{l:t3}(h:Dg B l)(n:Nat):Dg B (l.drop n):=h.sub (List.drop_sublist n l)
def Dg.at_{l:t3}(h:Dg B l){i d:Nat}(hi:l[i]?=some d):d<B:=h d (O' hi)
def Dg.dR{l:t3}(h:Dg B l)(i:Nat){d:Nat}(T:d<B):Dg B (l.set i d):=λx C=>by
 obtain C|rfl:=Z5 C
 .exact h x C
 exact T
def Dg.Je(E:0<B)(n:Nat):Dg B (List.replicate n 0):=λx C=>by rw[List.eq_of_mem_replicate C];exact E
def Jc(l:t3)(m):Ka B (l++m)=Ka B l+B^l.length*Ka B m:=by
 induction l with
 |nil=>simp[Ka]
 |cons d l W=>simp only[I',Ka,W,V_,B_];rw[j_,P7];congr 2;rw[<-V9,d' B]
def ug{l:t3}(h:Dg B l):Ka B l<B^l.length:=by
 induction l with
 |nil=>simp[Ka]
 |cons d l W=>
  have h1:=W h.tail;have h2:=h.head;simp only[Ka,V_,B_]
  calc d+B*Ka B l<B+B*Ka B l:=by omega
   _=B*(Ka B l+1):=by rw[j_,W_,F8]
   _<=B*B^l.length:=O_ _ h1
   _=B^l.length*B:=d' _ _
def Dj(n:Nat):Ka B (List.replicate n 0)=0:=by
 induction n with
 |zero=>rfl
 |succ n W=>simp[a8,Ka,W]
def Da(k n:Nat):(Fb B k n).length=k:=by
 induction k generalizing n with
 |zero=>rfl
 |succ k W=>simp[Fb,W]
def Ke(E:0<B)(k n:Nat):Dg B (Fb B k n):=by
 induction k generalizing n with
 |zero=>exact Dg.nil
 |succ k W=>exact Dg.cons (R_ _ E) (W _)
def IU(k n:Nat):Ka B (Fb B k n)=n % B^k:=by
 induction k generalizing n with
 |zero=>simp[Fb,Ka,Nat.mod_one]
 |succ k W=>rw[Fb,Ka,W,B_,d' (B^k),Nat.mod_mul]
def Pb(h:n<B^k):Ka B (Fb B k n)=n:=by rw[IU,G_ h]
def pt{l:t3}(h:Dg B l):Fb B l.length (Ka B l)=l:=by
 induction l with
 |nil=>rfl
 |cons d l W=>
  have T:=h.head;simp only[V_,Fb,Ka];rw[V8,G_ T,B9 _ _ Z',k_ T,i',W h.tail]
def JE{l m:t3}(Q:Dg B l)(hm:Dg B m)(hlen:l.length=m.length)(h:Ka B l=Ka B m):l=m:=by
 rw[<-pt Q,<-pt hm,hlen,h]
def ej(k n i:Nat)(h:i<k):(Fb B k n)[i]?=some (n/B^i % B):=by
 induction k generalizing n i with
 |zero=>omega
 |succ k W=>
  cases i with
  |zero=>simp[Fb]
  |succ i=>simp only[Fb,n7];rw[W _ _ Z',u9,B_,d' B]
def Fx{l:t3}(h:Dg B l){i d:Nat}(hi:l[i]?=some d):Ka B l/B^i % B=d:=by
 have h1:=ej (B:=B) l.length (Ka B l) i (z'.1 hi).1;rw[pt h,hi] at h1;injection h1 with h1
 exact h1.symm
def Cu{l:t3}(h:Dg B l){i:Nat}(hi:l.length<=i)(E:0<B):Ka B l/B^i=0:=
 k_ (c_ (ug h) (K_ E hi))
def Rg(l:t3)(i:Nat)(h:i<=l.length):Ka B l=Ka B (l.take i)+B^i*Ka B (l.drop i):=by
 have:=Jc (B:=B) (l.take i) (l.drop i);rw[Y9,List.length_take_of_le h] at this;exact this
def II{l:t3}(h:Dg B l)(i:Nat)(E:0<B):Ka B (l.drop i)=Ka B l/B^i:=by
 by_cases hi:i<=l.length
 .rw[Rg l i hi];have h1:=ug (h.take i);rw[List.length_take_of_le hi] at h1;rw[B9 _ _ (L_ E),k_ h1,i']
 rw[l6 Z',Cu h Z' E];rfl
def OS{l:t3}(h:Dg B l)(i:Nat)(hi:i<=l.length):Ka B (l.take i)=Ka B l % B^i:=by
 rw[Rg l i hi,V8,G_];have h1:=ug (h.take i);rwa[List.length_take_of_le hi] at h1
def Ni(l):Ka B (fe l)=Ka B l:=by
 induction l with
 |nil=>rfl
 |cons d l W=>
  simp only[fe,Ka];split
  .rename_i h;rw[h] at W;simp only[Ka] at W;split
   .rename_i J;rw[J,<-W];simp[Ka]
   rw[<-W];simp[Ka]
  rename_i e m h;rw[h] at W;rw[<-W];rfl
def Kk(l:t3):fe l=l.take (fe l).length:=by
 induction l with
 |nil=>rfl
 |cons d l W=>
  simp only[fe];split
  .split
   .rfl
   simp
  rename_i e m h;rw[h] at W;simp only[V_,J7] at W |-;rw[<-W]
def Ie(l):(fe l).length<=l.length:=by
 have:=C_ List.length (Kk l);rw[q'] at this;omega
def MC(l):(fe l).getLast?≠some 0:=by
 induction l with
 |nil=>simp[fe]
 |cons d l W=>
  simp only[fe];split
  .split
   .simp
   simpa
  rename_i e m h;rw[h] at W;rwa[List.getLast?_cons_cons]
def Dg.cut{l:t3}(h:Dg B l):Dg B (fe l):=by rw[Kk];exact h.take _
def tQ{l:t3}(h:l.getLast?≠some 0):fe l=l:=by
 induction l with
 |nil=>rfl
 |cons d l W=>
  cases l with
  |nil=>simp only[fe];rw[R'];intro J;subst J;simp at h
  |cons e m=>
   rw[List.getLast?_cons_cons] at h;rw[fe,W h]
def jz(l:t3):fe (l++[0])=fe l:=by
 induction l with
 |nil=>simp[fe]
 |cons d l W=>simp only[I',fe,W]
def nC{l:t3}{d:Nat}(h:d≠0):fe (l++[d])=l++[d]:=tQ (by simpa using h)
def Can(B:Nat)(l:t3):Prop:=Dg B l/\l.getLast?≠some 0
def Can.cut{l:t3}(h:Dg B l):Can B (fe l):=⟨h.cut,MC l⟩
def ZQ{l:t3}(h:l.getLast?≠some 0)(a:l≠[]):B^(l.length-1)<=Ka B l:=by
 have h1:=List.dropLast_concat_getLast a;have h2:l.getLast a≠0:=(by intro J;apply h;rw[List.getLast?_eq_some_getLast a,J]);rw[<-h1,Jc];simp only[D',List.length_dropLast,V_,G7];have:l.length-1+(0+1)-1=l.length-1:=Z';rw[this];simp only[Ka,x8,N9];exact p' (Y5 _ (Nat.pos_of_ne_zero h2)) (Nat.le_add_left _ _)
def Can.iy{l m:t3}(Q:Can B l)(hm:Can B m)(E:1<B)(h:Ka B l<=Ka B m):l.length<=m.length:=by
 obtain D|N:=z_ m.length l.length
 .exfalso;have a:l≠[]:=by intro J;simp[J] at D
  have h1:=ZQ (B:=B) Q.2 a;have h2:=ug hm.1;have G:B^m.length<=B^(l.length-1):=K_ Z' Z';exact Nat.lt_irrefl _ (c_ h2 (p' G (p' h1 h)))
 exact N
def Can.inj{l m:t3}(Q:Can B l)(hm:Can B m)(E:1<B)(h:Ka B l=Ka B m):l=m:=
 JE Q.1 hm.1 (Nat.le_antisymm (Q.iy hm E (Nat.le_of_eq h)) (hm.iy Q E (Nat.le_of_eq h.symm))) h
def te(E:0<B)(n:Nat):Can B (ya B n):=Can.cut (Ke E _ _)
def tI(E:1<B)(n:Nat):n<B^(n.log2+1):=by
 have h1:n<2^(n.log2+1):=Nat.lt_log2_self;exact c_ h1 (Nat.pow_le_pow_left E _)
def He(E:1<B)(n:Nat):Ka B (ya B n)=n:=by
 rw[ya,Ni,Pb (tI E n)]
def VG(E:1<B){l:t3}(h:Can B l):ya B (Ka B l)=l:=(te Z' _).inj h E (He E _)
def Qg(E:1<B){l:t3}(h:Dg B l):fe l=ya B (Ka B l):=by
 rw[<-Ni,VG E (Can.cut h)]
def uh(E:1<B):ya B 0=[]:=(te Z' 0).inj ⟨Dg.nil,by simp⟩ E (by rw[He E];rfl)
def yu(E:1<B):ya B n=[]↔n=0:=by
 constructor
 .intro h;have:=He E n;rw[h] at this;exact this.symm
 intro h;rw[h,uh E]
def jg(E:1<B)(h:n<B^k):(ya B n).length<=k:=by
 have h1:fe (Fb B k n)=ya B n:=by rw[Qg E (Ke Z' _ _),Pb h]
 have:=Ie (Fb B k n);rw[h1,Da] at this;exact this
def zn(E:1<B)(n:Nat):n<B^(ya B n).length:=by
 have:=ug (te (B:=B) Z' n).1;rwa[He E] at this
def Jj(E:1<B){a b:Nat}(h:a<=b):(ya B a).length<=(ya B b).length:=(te Z' a).iy (te Z' b) E (by rw[He E,He E];exact h)
def HA(E:1<B){i:Nat}(h:i<(ya B n).length):(ya B n)[i]?=some (n/B^i % B):=by
 have h1:=D9 h;rw[h1];have h2:=Fx (te (B:=B) Z' n).1 h1;rw[He E] at h2;rw[h2]
def JP(E:1<B)(h:n≠0):ya B n=n % B::ya B (n/B):=by
 refine(te Z' n).inj ⟨Dg.cons (R_ _ Z') (te Z' _).1, ?_⟩ E ?_
 .cases T:ya B (n/B) with
  |nil=>
   rw[yu E] at T;have:n=n % B:=by have:=L9 n B;rw[T] at this;simpa using this.symm
   simp only[List.getLast?_singleton];intro J;injection J with J;omega
  |cons e m=>
   rw[List.getLast?_cons_cons,<-T];exact(te Z' _).2
 rw[He E,Ka,He E];have:=L9 n B;omega
def sT(E:1<B)(h:n<B^k):Fb B k n=ya B n++List.replicate (k-(ya B n).length) 0:=by
 have Q:=jg E h;refine JE (B:=B) (Ke Z' _ _) ((te Z' _).1.append (Dg.Je Z' _)) ?_ ?_
 .rw[Da,D',M9];omega
 rw[Pb h,Jc,He E,Dj];simp
def PA:t3->Nat
 |[]=>0
 |d::_=>d
def rT(ys:t3):Ka B ys=PA ys+B*Ka B ys.tail:=by cases ys<;>simp[Ka,PA]
def acz{ys:t3}(h:Dg B ys)(E:0<B):PA ys<B:=by
 cases ys with
 |nil=>exact E
 |cons d l=>exact h.head
def Dg.tl{ys:t3}(h:Dg B ys):Dg B ys.tail:=by
 cases ys with
 |nil=>exact h
 |cons d l=>exact h.tail
def bz(ys:t3)(i:Nat):PA (ys.drop i)=(ys[i]?).getD 0:=by
 induction ys generalizing i with
 |nil=>simp[PA]
 |cons d l W=>cases i with
  |zero=>rfl
  |succ i=>simpa using W i
def tail_drop(ys:t3)(i:Nat):(ys.drop i).tail=ys.drop (i+1):=by
 induction ys generalizing i with
 |nil=>simp
 |cons d l W=>cases i with
  |zero=>rfl
  |succ i=>simp
def hI{B a b:Nat}(E:0<B)(h:a+B*b<B*n):b+a/B<n:=by
 have h1:(a+B*b)/B<n:=by rw[S9 E,d' n];exact h
 rw[B9 _ _ E] at h1;omega
def ah(B:Nat):t3->t3->Nat->Nat->t3
 |[],_,_,_=>[]
 |x::xs,ys,m,c=>(x+PA ys*m+c) % B::ah B xs ys.tail m ((x+PA ys*m+c)/B)
def Qn(xs ys)(m c:Nat):(ah B xs ys m c).length=xs.length:=by
 induction xs generalizing ys c with
 |nil=>rfl
 |cons x xs W=>simp[ah,W]
def Yz(E:0<B)(xs ys)(m c:Nat):Dg B (ah B xs ys m c):=by
 exact C0
def vv(E:0<B)(xs:t3)(ys)(m c:Nat)(h:Ka B xs+Ka B ys*m+c<B^xs.length):Ka B (ah B xs ys m c)=Ka B xs+Ka B ys*m+c:=by
 induction xs generalizing ys c with
 |nil=>simp only[G7,F7,Ka] at h;simp only[ah,Ka];omega
 |cons x xs W=>
  have e:Ka B (x::xs)+Ka B ys*m+c=(x+PA ys*m+c)+B*(Ka B xs+Ka B ys.tail*m):=(by rw[Ka,rT ys,K8,j_,V9];omega);rw[V_,B_,d' _ B,e] at h;have h1:=hI E h;simp only[ah,Ka];rw[W _ _ h1,<-Ka,e,j_];have:=N7 (x+PA ys*m+c) B;omega
def Xr(B:Nat):t3->t3->Nat->t3
 |[],_,_=>[]
 |x::xs,ys,b=>(x+B-PA ys-b) % B::Xr B xs ys.tail (if x<PA ys+b then 1 else 0)
def DF(B:Nat):t3->t3->Nat->Nat
 |[],_,b=>b
 |x::xs,ys,b=>DF B xs ys.tail (if x<PA ys+b then 1 else 0)
def fH(xs ys)(c:Nat):(Xr B xs ys c).length=xs.length:=by
 induction xs generalizing ys c with
 |nil=>rfl
 |cons x xs W=>simp[Xr,W]
def qN(E:0<B)(xs ys)(c:Nat):Dg B (Xr B xs ys c):=by
 exact C0
def xG(E:0<B)(xs ys)(b:Nat)(C:Dg B xs)(hy:Dg B ys)(F:b<=1)(h:Ka B ys+b<=Ka B xs):Ka B (Xr B xs ys b)+Ka B ys+b=Ka B xs/\DF B xs ys b=0:=by
 induction xs generalizing ys b with
 |nil=>simp only[Ka] at h;simp only[Xr,DF,Ka];omega
 |cons x xs W=>
  have S:=C.head;have K:=acz hy E;have e:=rT (B:=B) ys;simp only[Ka,Xr,DF] at h |-;by_cases D:x<PA ys+b
  .rw[Q' D];have h1:Ka B ys.tail+1<=Ka B xs:=(by refine R6 λhle=> ?_;have:=O_ B hle;omega);obtain⟨i1,i2⟩:=W ys.tail 1 C.tail hy.tl Z' h1;refine⟨?_,i2⟩;have h2:=C_ (B* ·) i1;simp only[j_] at h2;rw[G_ Z'];omega
  rw[R' D];have h1:Ka B ys.tail+0<=Ka B xs:=(by refine x6 λhle=> ?_;have:=O_ B (Nat.succ_le_of_lt hle);simp only[p9,N9] at this;omega);obtain⟨i1,i2⟩:=W ys.tail 0 C.tail hy.tl Z' h1;refine⟨?_,i2⟩;have h2:=C_ (B* ·) i1;simp only[j_,N9] at h2;have G:x+B-PA ys-b=(x-PA ys-b)+B:=Z';rw[G,Nat.add_mod_right,G_ Z'];omega
def XL(xs)(i d:Nat)(hi:xs[i]?=some o):Ka B (xs.set i d)+B^i*o=Ka B xs+B^i*d:=by
 induction xs generalizing i with
 |nil=>simp at hi
 |cons x xs W=>
  cases i with
  |zero=>simp only[q7,E8] at hi;subst hi;simp only[l',Ka,F7,R8];omega
  |succ i=>
   have:=C_ (B* ·) (W i hi);simp only[j_,<-V9] at this;simp only[Z9,Ka,B_,d' _ B];omega
def DJ{l m:t3}{x y:Nat}(Q:Dg B l)(hlen:l.length=m.length)(h:x<y):Ka B (l++[x])<Ka B (m++[y]):=by
 rw[Jc,Jc,hlen];have h1:=ug Q;rw[hlen] at h1;have h2:B^m.length*(x+1)<=B^m.length*y:=O_ _ h;simp only[Ka,x8,N9,p9] at h2 |-;omega
def Gi(a b:Nat):Int:=if a<b then -1 else if b<a then 1 else 0
def Xl{a b:Nat}(h:a<b):Gi a b= -1:=by simp[Gi,h]
def lu{a b:Nat}(h:b<a):Gi a b=1:=by simp only[Gi];rw[R' Z',Q' h]
def RM{a b:Nat}(h:a=b):Gi a b=0:=by simp only[Gi];rw[R' Z',R' Z']
def PC{xs ys:t3}{x y:Nat}(C:Dg B xs)(v:xs[k]?=some x)(E:ys[k]?=some y)(T:xs.drop (k+1)=ys.drop (k+1))(D:x<y):Ka B xs<Ka B ys:=by
 have lx:=(z'.1 v).1;have ly:=(z'.1 E).1;rw[Rg xs (k+1) lx,Rg ys (k+1) ly,T];have N:xs.take (k+1)=xs.take k++[x]:=by rw[List.take_add_one,v];rfl
 have L:ys.take (k+1)=ys.take k++[y]:=by rw[List.take_add_one,E];rfl
 have:=DJ (B:=B) (m:=ys.take k) (C.take k) (by rw[q',q'];omega) D;rw[N,L];omega
def yE{xs ys:t3}{x y:Nat}(v:xs[k]?=some x)(E:ys[k]?=some y)(T:xs.drop (k+1)=ys.drop (k+1))(h:x=y):xs.drop k=ys.drop k:=by
 obtain⟨lx,ex⟩:=z'.1 v;obtain⟨ly,c⟩:=z'.1 E;rw[m9 lx,m9 ly,T,ex,c,h]
def Bt{v:Nat}(E:0<B)(hj:j<k)(a:n+B^j*v<B^k)(A:n/B^j % B+v<B):(Fb B k n).set j (n/B^j % B+v)=Fb B k (n+B^j*v):=by
 refine JE (B:=B) ((Ke E _ _).dR _ A) (Ke E _ _) (by rw[I9,Da,Da]) ?_;have h1:=XL (B:=B) (Fb B k n) j (n/B^j % B+v) (ej k n j hj);rw[Pb Z'] at h1;rw[Pb a];rw[j_] at h1;omega
def Pu(k:Nat):Fb B k 0=List.replicate k 0:=by
 induction k with
 |zero=>rfl
 |succ k W=>simp[Fb,W,a8]
def oH(s:List UInt8):t3:=(s.map UInt8.toNat).reverse
def bn(s:List UInt8):Nat:=Ka 256 (oH s)
def sb(n:Nat):List UInt8:=((ya 256 n).map UInt8.ofNat).reverse
def Yr(s):(oH s).length=s.length:=by simp[oH]
def YD(s):Dg 256 (oH s):=λd T=>by
 obtain⟨c,_,rfl⟩:=x'.1 (s8.1 T);exact c.toNat_lt
def u2(s:List UInt8):bn s<256^s.length:=by have:=ug (YD s);rwa[Yr] at this
def LR{s:List UInt8}{i:Nat}{c:UInt8}(hi:i<s.length)(h:s[s.length-1-i]?=some c):(oH s)[i]?=some c.toNat:=by
 unfold oH;rw[l_ (by simpa using hi),B',C',h];rfl
def JV(n:Nat):oH (sb n)=ya 256 n:=by
 unfold oH sb;rw[List.map_reverse,I8,E_];have:∀l:t3,Dg 256 l->l.map (UInt8.toNat ∘ UInt8.ofNat)=l:=by
  intro l
  induction l with
  |nil=>intro _;rfl
  |cons d l W=>
   intro h;have T:=h.head;simp only[T_,W h.tail,Function.comp];congr 1;simp only[M6];omega
 exact this _ (te Z' n).1
def adt(n:Nat):bn (sb n)=n:=by rw[bn,JV,He Z']
def vQ(n:Nat):(sb n).length=(ya 256 n).length:=by simp[sb]
def YY{s t:List UInt8}(h:oH s=oH t):s=t:=by
 have h1:=List.reverse_inj.1 h;exact(List.map_inj_right λa b h=>g7.1 h).1 h1
def adJ{s:List UInt8}(h:oH s=ya 256 n):s=sb n:=YY (by rw[h,JV])
def aX:sb 0=[]:=by rw[sb,uh Z'];rfl
def KV(s):bn (0::s)=bn s:=by
 unfold bn oH;rw[T_,Y8,Jc];simp[Ka]
def aeb{s:List UInt8}(h:s.head?≠some 0):sb (bn s)=s:=by
 refine(adJ ?_).symm;rw[bn,VG Z' ⟨YD s, ?_⟩];unfold oH;rw[List.getLast?_reverse,List.head?_map]
 cases s with
 |nil=>simp
 |cons c s=>
  simp only[List.head?_cons,n9];intro J;injection J with J
  apply h;simp only[List.head?_cons];congr 1;exact g7.1 (by simpa using J)
def Wa(n:Nat):Nat:=(ya 2 n).length
def Jm:Wa 0=0:=by rw[Wa,uh Z'];rfl
def wc(n:Nat):n<2^Wa n:=zn Z' n
def Uc(h:n<2^k):Wa n<=k:=jg Z' h
def jE(h:n≠0):2^(Wa n-1)<=n:=by
 have h1:=ZQ (B:=2) (te (B:=2) Z' n).2 (λJ=>h ((yu Z').1 J));rwa[He Z'] at h1
def Gp(h:n≠0):0<Wa n:=by
 rw[Wa];have:ya 2 n≠[]:=λJ=>h ((yu Z').1 J);exact E7.2 this
def uD(h1:n<2^k)(h2:2^(k-1)<=n):Wa n=k:=by
 have G:=Uc h1;obtain h|h:=z_ (Wa n) k
 .have z:=wc n;have P:2^Wa n<=2^(k-1):=K_ Z' Z';omega
 omega
def wI{B b:Nat}(E:B=2^b){l:t3}{d:Nat}(Q:Dg B l)(hlen:l.length=m)(T:d≠0):Wa (Ka B (l++[d]))=b*m+Wa d:=by
 have D:=ug Q;rw[hlen] at D;have hp:B^m=2^(b*m):=by rw[E,<-W9]
 rw[Jc,hlen];simp only[Ka,x8,N9];rw[hp] at D |-;apply uD
 .have h1:=wc d;have h2:2^(b*m)*(d+1)<=2^(b*m)*2^Wa d:=O_ _ h1;rw[Q_];rw[p9] at h2;omega
 have h1:=jE T;have h2:=Gp T;have e:b*m+Wa d-1=b*m+(Wa d-1):=Z';rw[e,Q_];have G:2^(b*m)*2^(Wa d-1)<=2^(b*m)*d:=O_ _ h1;omega
def iK{a c s:Nat}(h:a<2^s):a|||(c*2^s)=a+c*2^s:=by
 have h1:=Nat.shiftLeft_add_eq_or_of_lt h c;rw[Nat.shiftLeft_eq] at h1;rw[Nat.or_comm,<-h1,F8]
def kY{i c:Nat}(n:Nat)(B:n<256^i)(E:c<256)(hi:i/8<k):
  n/18446744073709551616^(i/8) % 18446744073709551616<2^(i % 8*8)/\c*2^(i % 8*8)<18446744073709551616/\
  (Fb 18446744073709551616 k n).set (i/8) (n/18446744073709551616^(i/8) % 18446744073709551616+c*2^(i % 8*8))=Fb 18446744073709551616 k (n+256^i*c):=by
 refine CZ ?_;intro g a hp;have h1:n/18446744073709551616^(i/8)<2^(i % 8*8):=(by rw[S9 (L_ V'),d',<-hp];exact B);have K:2^(i % 8*8)*256<=18446744073709551616:=(by rw[a,g,<-Q_];exact K_ Z' Z');have h2:n/18446744073709551616^(i/8) % 18446744073709551616<2^(i % 8*8):=X9 (Nat.mod_le _ _) h1;have G:(c+1)*2^(i % 8*8)<=256*2^(i % 8*8):=n_ _ E;rw[U9] at G;have A:0<2^(i % 8*8):=L_ Z';refine⟨h2,Z', ?_⟩;have z:256^i*c=18446744073709551616^(i/8)*(c*2^(i % 8*8)):=by rw[hp,V9,d' c]
 rw[z];refine Bt V' hi ?_ Z';rw[<-z];have P:256^i*(c+1)<=256^i*256:=O_ _ E;have L:256^i*256<=18446744073709551616^k:=by
  have:256^i*256=2^(8*(i+1)):=by rw[a,<-W9,<-Q_];congr 1
  rw[this,g,<-W9];exact K_ Z' Z'
 rw[p9] at P;omega
def XO(n i:Nat):n/18446744073709551616^(i/8) % 18446744073709551616/2^(i % 8*8) % 256=n/256^i % 256:=by
 refine CZ ?_;intro g a hp;rw[hp,<-u9];generalize n/18446744073709551616^(i/8)=m;have e:(18446744073709551616:Nat)=2^(i % 8*8)*2^(64-i % 8*8):=by rw[<-Q_,g];congr 1;omega
 rw[e,Nat.mod_mul_right_div_self];have L:2^(64-i % 8*8)=256*2^(56-i % 8*8):=by rw[a,<-Q_];congr 1;omega
 rw[L,Nat.mod_mul_right_mod]
def pC(n j s:Nat)(K:s<64)(J:0<s):(n/18446744073709551616^j % 18446744073709551616/2^s)<2^(64-s)/\
  n/18446744073709551616^j % 18446744073709551616/2^s+n/18446744073709551616^(j+1) % 2^s*2^(64-s)=n/2^(64*j+s) % 18446744073709551616:=by
 have g:(18446744073709551616:Nat)=2^64:=by decide
 have e:(18446744073709551616:Nat)=2^s*2^(64-s):=by rw[<-Q_,g];congr 1;omega
 have hp:(18446744073709551616:Nat)^(j+1)=18446744073709551616^j*18446744073709551616:=B_ ..;rw[hp,<-u9,Q_,W9,<-g,<-u9];generalize n/18446744073709551616^j=m;have N:m % 18446744073709551616/2^s=m/2^s % 2^(64-s):=by rw[e,Nat.mod_mul_right_div_self]
 rw[N];refine⟨R_ _ (L_ Z'), ?_⟩;have L:m/18446744073709551616=m/2^s/2^(64-s):=by rw[e,<-u9]
 rw[L];generalize m/2^s=q;have X:(18446744073709551616:Nat)=2^(64-s)*2^s:=by rw[d'];exact e
 rw[X,Nat.mod_mul,d' (2^(64-s))]
def ab0{d s:Nat}(T:d<18446744073709551616)(K:s<=64):d*2^s % 18446744073709551616+d/2^(64-s)*18446744073709551616=d*2^s/\d/2^(64-s)<2^s:=by
 have g:(18446744073709551616:Nat)=2^64:=by decide
 have e:(18446744073709551616:Nat)=2^(64-s)*2^s:=by rw[<-Q_,g];congr 1;omega
 have h1:d*2^s/18446744073709551616=d/2^(64-s):=by rw[e,Nat.mul_div_mul_right _ _ (L_ Z')]
 rw[<-h1];constructor
 .have:=N7 (d*2^s) 18446744073709551616;omega
 rw[h1,S9 (L_ Z'),d',<-e];exact T
def str(l:List UInt8):t7:=⟨l.toArray⟩
def ed(l):(str l).data.toList=l:=by simp[str]
def Uu{a b:t7}(h:a.data.toList=b.data.toList):a=b:=by
 cases a;cases b;congr 1;exact C7 h
def eR(s:t7):str s.data.toList=s:=Uu (ed _)
def eh(l):(str l).size=l.length:=by simp[str,ByteArray.size]
def td(s:t7):s.size=s.data.toList.length:=(H6).symm
def Lx(a b:List UInt8):str a++str b=str (a++b):=by
 apply Uu;simp[str]
def Fa(l:t4):List Value:=l.map (Value.int .i64)
def Hb(l):(Fa l).length=l.length:=by simp[Fa]
def Qp(a:t4)(b):Fa (a++b)=Fa a++Fa b:=by simp[Fa]
def Db{l:t4}{x:Int}(h:l[k]?=some x):(Fa l)[k]?=some (wd x):=by simp[Fa,h]
def WK(a:List UInt8)(b):jj (a++b)=jj a++jj b:=by simp[jj]
def Ja(l):((Fa l).all Value.oneCell')=true:=by simp[Fa,Value.oneCell']
def xk(l:List t7):List Value:=l.map Value.string
def Bp(l:List t7):(xk l).length=l.length:=by simp[xk]
def Gu{l:List t7}{x:t7}(h:l[k]?=some x):(xk l)[k]?=some (wt x):=by simp[xk,h]
def ja{l:List α}{x:α}(h:l[k]?=some x):l.take (k+1)=l.take k++[x]:=by rw[List.take_add_one,h];rfl
def aa{l:List α}(h:k<l.length):∃x,l[k]?=some x:=⟨_,D9 h⟩
def Le(l:List UInt8):Bool:=l.all λc=>decide (c.toNat<128)
def NO(l:List UInt8)(c:UInt8):Le (l++[c])=(Le l && decide (c.toNat<128)):=by simp[Le]
def KF{l:List UInt8}{c:UInt8}(h:l[k]?=some c)(E:¬c.toNat<128):Le l=false:=by
 rw[<-Y9 (k+1) l,ja h];simp only[Le,z6];simp;omega
def kq{l:List UInt8}(h:Le l=true){c:UInt8}(E:l[k]?=some c):c.toNat<128:=by
 have:=M_.1 h c (O' E);simpa using this
def Tb(x:Int):Bool:=decide (0<=x) && decide (x<=127)
def Wq(x:Int):UInt8:=UInt8.ofNat x.toNat
def RT(xs:t4):List UInt8:=if xs.all Tb then xs.map Wq else[]
def cW(xs:t4):Int:=if xs.all Tb then 0 else 3
def acV{xs:t4}{x:Int}(C:xs[k]?=some x)(h:Tb x=false):RT xs=[]/\cW xs=3:=by
 have:xs.all Tb=false:=by
  cases E:xs.all Tb with
  |false=>rfl
  |true=>rw[M_.1 E x (O' C)] at h;cases h
 simp[RT,cW,this]
def iu{xs:t4}(h:xs.all Tb=true):RT xs=xs.map Wq/\cW xs=0:=by simp[RT,cW,h]
def HG{p:α->Bool}{l:List α}{x:α}(h:l[k]?=some x)(h1:(l.take k).all p=true)(h2:p x=true):(l.take (k+1)).all p=true:=by
 rw[ja h,z6,h1];simp[h2]
def OE{x:Int}(h:0<=x)(h2:x<=255):IntKind.u8.wrap x=x:=by
 have:IntKind.u8.wrap x=x % 256:=rfl;rw[this];omega
def rq{x:Int}(h:Tb x=true):Value.int .u8 x=.int .u8 (Wq x).toNat:=by
 simp only[Tb,Z_,Y_] at h;congr 1;simp only[Wq,M6];omega
def jT{xs:t4}{x:Int}(C:xs[k]?=some x)(h:Tb x=true):jj ((xs.take k).map Wq)++[.int .u8 x]=jj ((xs.take (k+1)).map Wq):=by
 rw[ja C,q_,WK,rq h];rfl
def ints(l:List UInt8):t4:=l.map λc=>(c.toNat:Int)
def Qj(l:List UInt8):t4:=if Le l then ints l else[]
def ahE(l:List UInt8):Int:=(Qj l).sum
def jd(l):(ints l).length=l.length:=by simp[ints]
def Rz{l:List UInt8}{c:UInt8}(h:l[k]?=some c):Fa (ints (l.take k))++[wd c.toNat]=Fa (ints (l.take (k+1))):=by
 rw[ja h];simp[Fa,ints]
def lenOf:Value->Nat|.slice _ n _=>n|_=>0
def Wm{l:List UInt8}(h:Le l=true):Qj l=ints l:=by simp[Qj,h]
def VR{l:List UInt8}(h:Le l=false):Qj l=[]:=by simp[Qj,h]
def pE{l:List UInt8}{c:UInt8}(h:l[k]?=some c):(ints l)[k]?=some (c.toNat:Int):=by simp[ints,h]
def BM{l:List UInt8}{x:Int}(h:(Qj l)[k]?=some x):0<=x/\x<=127:=by
 unfold Qj at h;split at h
 .rename_i hm;simp only[ints,C',y9] at h;obtain⟨c,E,rfl⟩:=h;have:=kq hm E;omega
 simp at h
def Ch(f:Int->Int->Int)(a b:List UInt8):Option (t4):=
 if Le a && (Le b && decide ((b.length:Int)=a.length)) then some (List.zipWith f (ints a) (ints b)) else none
def mulL(a b:List UInt8):List UInt8×Int:=
 match Ch (· + ·) a b with|some l=>(RT l,cW l)|none=>([],1)
def aib(a b:List UInt8):List UInt8×Bool:=
 match Ch (· - ·) a b with|some l=>(RT l,decide (cW l=0))|none=>([],false)
def qL{f:Int->Int->Int}{a b:t4}{x y:Int}(C:a[k]?=some x)(hy:b[k]?=some y):(List.zipWith f a b)[k]?=some (f x y):=by
 simp[A8,C,hy]
def Uo(f:Int->Int->Int)(a b:t4)(k:Nat):t4:=(List.zipWith f a b).take k++b.drop k
def nT(f:Int->Int->Int)(a b):Uo f a b 0=b:=by simp[Uo]
def cX{f:Int->Int->Int}{a b:t4}(h:a.length=b.length)(u:k<=b.length):(Uo f a b k).length=b.length:=by
 simp[Uo,h];omega
def acI{f:Int->Int->Int}{a b:t4}(h:a.length=b.length){y:Int}(hy:b[k]?=some y):(Uo f a b k)[k]?=some y:=by
 have u:k<b.length:=(z'.1 hy).1;unfold Uo;rw[R9 (by simp[h];omega)];simp[h,T9 (O6 u),hy]
def KW{f:Int->Int->Int}{a b:t4}(h:a.length=b.length){x y:Int}(C:a[k]?=some x)(hy:b[k]?=some y):
  xb (Fa (Uo f a b k)) k [wd (f x y)]=Fa (Uo f a b (k+1)):=by
 have u:k<b.length:=(z'.1 hy).1;have Q:((List.zipWith f a b).take k).length=k:=by simp[h];omega
 have N:(Uo f a b k).take k=(List.zipWith f a b).take k:=(by unfold Uo;rw[W5 Z',G' Z']);have L:(Uo f a b k).drop (k+1)=b.drop (k+1):=(by unfold Uo;rw[List.drop_append,Q,T8 Z',show k+1-k=1 by omega,U7];simp);simp only[xb,Fa,<-List.map_take,<-z7,V_,G7,i',N,L];unfold Uo;rw[ja (qL C hy)];simp
def aV{f:Int->Int->Int}{a b:t4}(h:a.length=b.length):Uo f a b b.length=List.zipWith f a b:=by
 unfold Uo;rw[G' (by simp[h]),List.drop_length,I_]
def ek{l:t4}(y:Int)(h:k<l.length):xb (Fa l) (k*1) [wd y]=Fa (l.set k y):=by
 rw[W_,Cc (by rw[Hb];exact h)];unfold Fa;rw[c9]
structure KQ(q:Prop):Prop where o:q
def giW  (h:WL ro P N ops Q (l) O w):WL ro P N ops Q (l) O w:=h
def giC  (h:WC ro P N c Q O w):WC ro P N c Q O w:=h
def giN  (h:WL ro P N ops Q ([]) O w):WL ro P N ops Q ([]) O w:=h
variable {dd:Option Nat}
def giM  (h:WL ro P N ops Q (⟨dd,.move x,ty,pos,af,none⟩::rest) O w):WL ro P N ops Q (⟨dd,.move x,ty,pos,af,none⟩::rest) O w:=h
def giA  (h:WL ro P N ops Q (⟨dd,.assign x,ty,pos,af,none⟩::rest) O w):WL ro P N ops Q (⟨dd,.assign x,ty,pos,af,none⟩::rest) O w:=h
variable {g:Nat×Bool}
def giG  (h:WL ro P N ops Q (⟨dd,op,ty,pos,af,some g⟩::rest) O w):WL ro P N ops Q (⟨dd,op,ty,pos,af,some g⟩::rest) O w:=h
def giL  (h:WL ro P N ops Q (⟨dd,.load t x,ty,pos,af,none⟩::rest) O w):WL ro P N ops Q (⟨dd,.load t x,ty,pos,af,none⟩::rest) O w:=h
def giB{b:BinOp}(h:WL ro P N ops Q (⟨dd,.binOp b t x y u,ty,pos,af,none⟩::rest) O w):WL ro P N ops Q (⟨dd,.binOp b t x y u,ty,pos,af,none⟩::rest) O w:=h
def giD{X:Array (Nat×Operand)}(h:WL ro P N ops Q (⟨dd,.build t X,ty,pos,af,none⟩::rest) O w):WL ro P N ops Q (⟨dd,.build t X,ty,pos,af,none⟩::rest) O w:=h
def giX  (h:WL ro P N ops Q (⟨dd,.box t x,ty,pos,af,none⟩::rest) O w):WL ro P N ops Q (⟨dd,.box t x,ty,pos,af,none⟩::rest) O w:=h
def giS  (h:WL ro P N ops Q (⟨dd,.store t x y,ty,pos,af,none⟩::rest) O w):WL ro P N ops Q (⟨dd,.store t x y,ty,pos,af,none⟩::rest) O w:=h
def gl1{b:Nat}{f:TypeId}{v:Value}(I:Hp w0 H w)[S:pa P t n false by' zc](p:WL ro P N ops Q rest (vd O d v) w)(C:ev O x=.pointer (some ⟨b,o,none⟩):=by exact rfl)(hi:HE.blk b f cs fz∈H:=by repeat (first|exact E'|apply u'))(A:cs[o]?=some v:=by exact rfl)(L:d<N:=by decide):WL ro P N ops Q (⟨some d,.load t x,ty,pos,af,none⟩::rest) O w:=let⟨_,h⟩:=List.getElem?_of_mem hi;HW S.out C (I.Dd h A) L p
def glg{b:Nat}{f:TypeId}(I:Hp w0 H w)[S:pa P t n true by' zc](p:WL ro P N ops Q rest (vd O d (.agg vs.toArray)) w)(C:ev O x=.pointer (some ⟨b,o,none⟩):=by exact rfl)(hi:HE.blk b f cs fz∈H:=by repeat (first|exact E'|apply u'))(A:(cs.drop o).take n=vs:=by simp only[x9,J7,T7,List.drop_succ_cons,i',Nat.reduceAdd]<;>rfl)(a:vs.length=n:=by exact rfl)(L:d<N:=by decide):WL ro P N ops Q (⟨some d,.load t x,ty,pos,af,none⟩::rest) O w:=let⟨_,h⟩:=List.getElem?_of_mem hi;abw S.out C (I.wa h A) a L p
def gbx{v:Value}(I:Hp w0 H w)(p:∀b V,Hp w0 (.blk b t cs (0,0)::H) V->WL ro P N ops Q rest (vd O d (.pointer (some ⟨b,0,none⟩))) V)(C:ev O x=v:=by first|exact Ac rfl|exact tu rfl|exact zD rfl|exact mq rfl|exact Xe rfl|exact sy rfl|exact Aq rfl|exact ev_pnil rfl|exact ix rfl)(E:v.cells=cs.toArray:=by exact rfl)(L:d<N:=by decide):WL ro P N ops Q (⟨some d,.box t x,ty,pos,af,none⟩::rest) O w:=kT I C E L p
variable {H':List HE}
inductive qK:List HE->HE->HE->List HE->Prop
 |here {x y:HE}{H:List HE}:qK (x::H) x y (y::H)
 |there {x y z:HE}{H H':List HE} (h:qK H x y H'):qK (z::H) x y (z::H')
def qK.at_{x y:HE}{H:List HE}(h:qK H x y H'):∃i:Nat,H[i]?=some x/\H.set i y=H':=by
 induction h with
 |here=>exact⟨0,rfl,rfl⟩
 |there h W=>
  obtain⟨i,h1,h2⟩:=W;exact⟨i+1,h1,by rw[Z9,h2]⟩
def gst{f:TypeId}{b:Nat}{j:List Value}{v:Value}(I:Hp w0 H w)[S:pa P t n ag by' zc](p:∀V,Hp w0 H' V->WL ro P N ops Q rest O V)(C:ev O x=.pointer (some ⟨b,o,none⟩):=by exact rfl)(hy:ev O y=v:=by first|exact Ac rfl|exact tu rfl|exact zD rfl|exact mq rfl|exact Xe rfl|exact sy rfl|exact Aq rfl|exact ev_pnil rfl|exact ix rfl)(E:v.cells=vs.toArray:=by exact rfl)(hm:qK H (.blk b f cs fz) (.blk b f j fz) H':=by repeat (first|exact .here|apply qK.there))(K:xb cs o vs=j:=by simp only[xb,x9,J7,T7,List.drop_succ_cons,J',I',V_,G7,i',Nat.reduceAdd]<;>rfl)(a:vs.length=n:=by exact rfl)(W:o+n<=cs.length:=by simp)(h1:(vs.all Value.oneCell')=true:=by exact rfl):WL ro P N ops Q (⟨none,.store t x y,ty,pos,af,none⟩::rest) O w:=by
 subst K;obtain⟨i,h2,rfl⟩:=hm.at_;exact It I C h2 hy E S.out a W h1 p
def ea{p q:Prop}(kQ:q)(e:KQ q->p:=by intro kQ;(repeat (first|(refine giW ?_;first|(refine giM ?_;first|refine mI ?_|refine mL ?_|refine mS ?_|refine mB ?_|refine mG ?_|refine mT ?_|refine mP ?_|refine mF ?_|refine s_move (by first|exact Aq rfl|exact ix rfl) V' ?_)|(refine giA ?_;first|refine aI ?_|refine aL ?_|refine aS ?_|refine aB ?_|refine aG ?_|refine aT ?_|refine aP ?_|refine aF ?_|refine tV (by first|exact Aq rfl|exact ix rfl) V' ?_)|(refine giN ?_;first|refine ia ?_|refine Ti ?_)|(refine giG ?_;first|refine gS ?_|refine gT ?_|refine gV ?_|refine wl_guard_skip0 rfl rfl V' ?_)|refine Sk ?_|(refine giL ?_;first|refine gl1 I ?_|refine glg I ?_|refine im I 0 ?_|refine im I 1 ?_|refine im I 2 ?_|refine im I 3 ?_|refine im I 4 ?_|refine im I 5 ?_|refine vf I 0 [_,_] ?_|refine vf I 0 [_,_,_] ?_|refine vf I 0 [_,_,_,_,_,_] ?_|refine vf I 1 [_,_] ?_|refine vf I 1 [_,_,_] ?_|refine vf I 1 [_,_,_,_,_,_] ?_|refine vf I 2 [_,_] ?_|refine vf I 2 [_,_,_] ?_|refine vf I 2 [_,_,_,_,_,_] ?_|refine vf I 3 [_,_] ?_|refine vf I 3 [_,_,_] ?_|refine vf I 3 [_,_,_,_,_,_] ?_|refine vf I 4 [_,_] ?_|refine vf I 4 [_,_,_] ?_|refine vf I 4 [_,_,_,_,_,_] ?_)|(refine giB ?_;first|refine al ?_|refine su ?_|refine Ji ?_|refine zl ?_|refine Bk ?_|refine uV ?_|refine Jr ?_|refine Sy ?_|refine mulC ?_|refine GW Qa.out rfl rfl V' ?_|refine abk rfl rfl Z' Z' Z' V' ?_|refine abx rfl rfl Z' Z' V' ?_|refine s_cat rfl rfl (by simp only[eh,td];omega) V' ?_)|refine Df ?_|refine ui ?_|refine lB ?_|refine VC ?_|refine dX ?_|refine uK Qa.out pa.size rfl rfl rfl Z' V' ?_|refine pO Qa.out pa.size rfl rfl rfl Z' V' ?_|refine s_indexOff Qa.out pa.size rfl rfl rfl Z' V' ?_|refine IG Qa.out pa.size rfl rfl Z' Z' V' ?_|refine YG Qa.out rfl rfl Z' (by assumption) V' ?_|(refine giD ?_;first|refine qm [_] ?_|refine qm [_,_] ?_|refine qm [_,_,_] ?_|refine qm [_,_,_,_] ?_|refine qm [_,_,_,_,_] ?_|refine qm [_,_,_,_,_,_] ?_|refine qm [_,_,_,_,_,_,_] ?_|refine qm [_,_,_,_,_,_,_,_] ?_|refine qm [_,_,_,_,_,_,_,_,_] ?_|refine qm [_,_,_,_,_,_,_,_,_,_] ?_|refine qm [_,_,_,_,_,_,_,_,_,_,_] ?_|refine qm [_,_,_,_,_,_,_,_,_,_,_,_] ?_)|refine s_nilCheck rfl V' ?_|refine kO Qa.out rfl V' ?_|refine acK rfl Z' Z' V' ?_|refine wD ae.out rfl V' ?_|refine uL Qa.out Qa.out rfl Z' Z' V' ?_|refine RJ Qa.out Qa.out rfl V' ?_|refine s_field1 ae.out pa.out rfl rfl V' ?_|refine DY ae.out pa.out rfl rfl V' ?_|refine adr rfl rfl V' ?_|refine ae3 rfl rfl V' ?_)|(refine giC ?_;first|refine mb ?_|refine qa ?_|refine cT ?_|refine cF ?_|refine db ?_|refine je ?_|refine Oh ?_|refine Pc ?_|refine wc_label ?_|refine wc_scope ?_)|refine Va ?_|refine Ad ?_|refine Mf ?_|refine Dp ?_|refine bk ?_|refine gk ?_|refine abX V' ?_|refine sc_norm ?_|refine sc_ret ?_|refine sc_exit ?_|refine qa1 ?_|refine qa2 ?_|refine qa3 ?_));exact kQ.o):p:=e ⟨kQ⟩
def ggb{p q:Prop}(kQ:q)(e:KQ q->p:=by intro kQ;(first|(refine ik I ?_;intro b_ w_ I;revert b_ w_ I)|(refine giX ?_;(first|refine gbx I ?_|refine ar I [_] ?_|refine ar I [_,_] ?_|refine ar I [_,_,_] ?_|refine ar I [_,_,_,_] ?_|refine ar I [_,_,_,_,_] ?_|refine ar I [_,_,_,_,_,_] ?_|refine ar I [_,_,_,_,_,_,_] ?_|refine ar I [_,_,_,_,_,_,_,_] ?_);intro b_ w_ I;revert b_ w_ I)|(refine giS ?_;first|(refine gst I ?_;intro w_ I;revert w_ I)|((first|refine pd I 0 [_] ?_|refine pd I 0 [_,_] ?_|refine pd I 0 [_,_,_] ?_|refine pd I 0 [_,_,_,_] ?_|refine pd I 0 [_,_,_,_,_] ?_|refine pd I 0 [_,_,_,_,_,_] ?_|refine pd I 0 [_,_,_,_,_,_,_] ?_);intro w_ I;(first|replace I:Hp _ (.blk _ _ [_] _::_) _:=I|replace I:Hp _ (.blk _ _ [_,_] _::_) _:=I|replace I:Hp _ (.blk _ _ [_,_,_] _::_) _:=I|replace I:Hp _ (.blk _ _ [_,_,_,_] _::_) _:=I|replace I:Hp _ (.blk _ _ [_,_,_,_,_] _::_) _:=I|replace I:Hp _ (.blk _ _ [_,_,_,_,_,_] _::_) _:=I|replace I:Hp _ (.blk _ _ [_,_,_,_,_,_,_] _::_) _:=I|replace I:Hp _ (.blk _ _ [_,_,_,_,_,_,_,_] _::_) _:=I|replace I:Hp _ (.blk _ _ [_,_,_,_,_,_,_,_,_] _::_) _:=I|replace I:Hp _ (.blk _ _ [_,_,_,_,_,_,_,_,_,_] _::_) _:=I|replace I:Hp _ (.blk _ _ [_,_,_,_,_,_,_,_,_,_,_] _::_) _:=I|replace I:Hp _ (.blk _ _ [_,_,_,_,_,_,_,_,_,_,_,_] _::_) _:=I|replace I:Hp _ (.blk _ _ [_,_,_,_,_,_,_,_,_,_,_,_,_] _::_) _:=I|replace I:Hp _ (.blk _ _ [_,_,_,_,_,_,_,_,_,_,_,_,_,_] _::_) _:=I);revert w_ I)|((first|refine pd I 1 [_] ?_|refine pd I 1 [_,_] ?_|refine pd I 1 [_,_,_] ?_|refine pd I 1 [_,_,_,_] ?_|refine pd I 1 [_,_,_,_,_] ?_|refine pd I 1 [_,_,_,_,_,_] ?_|refine pd I 1 [_,_,_,_,_,_,_] ?_);intro w_ I;(first|replace I:Hp _ (_::.blk _ _ [_] _::_) _:=I|replace I:Hp _ (_::.blk _ _ [_,_] _::_) _:=I|replace I:Hp _ (_::.blk _ _ [_,_,_] _::_) _:=I|replace I:Hp _ (_::.blk _ _ [_,_,_,_] _::_) _:=I|replace I:Hp _ (_::.blk _ _ [_,_,_,_,_] _::_) _:=I|replace I:Hp _ (_::.blk _ _ [_,_,_,_,_,_] _::_) _:=I|replace I:Hp _ (_::.blk _ _ [_,_,_,_,_,_,_] _::_) _:=I|replace I:Hp _ (_::.blk _ _ [_,_,_,_,_,_,_,_] _::_) _:=I|replace I:Hp _ (_::.blk _ _ [_,_,_,_,_,_,_,_,_] _::_) _:=I|replace I:Hp _ (_::.blk _ _ [_,_,_,_,_,_,_,_,_,_] _::_) _:=I|replace I:Hp _ (_::.blk _ _ [_,_,_,_,_,_,_,_,_,_,_] _::_) _:=I|replace I:Hp _ (_::.blk _ _ [_,_,_,_,_,_,_,_,_,_,_,_] _::_) _:=I|replace I:Hp _ (_::.blk _ _ [_,_,_,_,_,_,_,_,_,_,_,_,_] _::_) _:=I|replace I:Hp _ (_::.blk _ _ [_,_,_,_,_,_,_,_,_,_,_,_,_,_] _::_) _:=I);revert w_ I)|((first|refine pd I 2 [_] ?_|refine pd I 2 [_,_] ?_|refine pd I 2 [_,_,_] ?_|refine pd I 2 [_,_,_,_] ?_|refine pd I 2 [_,_,_,_,_] ?_|refine pd I 2 [_,_,_,_,_,_] ?_|refine pd I 2 [_,_,_,_,_,_,_] ?_);intro w_ I;(first|replace I:Hp _ (_::_::.blk _ _ [_] _::_) _:=I|replace I:Hp _ (_::_::.blk _ _ [_,_] _::_) _:=I|replace I:Hp _ (_::_::.blk _ _ [_,_,_] _::_) _:=I|replace I:Hp _ (_::_::.blk _ _ [_,_,_,_] _::_) _:=I|replace I:Hp _ (_::_::.blk _ _ [_,_,_,_,_] _::_) _:=I|replace I:Hp _ (_::_::.blk _ _ [_,_,_,_,_,_] _::_) _:=I|replace I:Hp _ (_::_::.blk _ _ [_,_,_,_,_,_,_] _::_) _:=I|replace I:Hp _ (_::_::.blk _ _ [_,_,_,_,_,_,_,_] _::_) _:=I|replace I:Hp _ (_::_::.blk _ _ [_,_,_,_,_,_,_,_,_] _::_) _:=I|replace I:Hp _ (_::_::.blk _ _ [_,_,_,_,_,_,_,_,_,_] _::_) _:=I|replace I:Hp _ (_::_::.blk _ _ [_,_,_,_,_,_,_,_,_,_,_] _::_) _:=I|replace I:Hp _ (_::_::.blk _ _ [_,_,_,_,_,_,_,_,_,_,_,_] _::_) _:=I|replace I:Hp _ (_::_::.blk _ _ [_,_,_,_,_,_,_,_,_,_,_,_,_] _::_) _:=I|replace I:Hp _ (_::_::.blk _ _ [_,_,_,_,_,_,_,_,_,_,_,_,_,_] _::_) _:=I);revert w_ I)|((first|refine pd I 3 [_] ?_|refine pd I 3 [_,_] ?_|refine pd I 3 [_,_,_] ?_|refine pd I 3 [_,_,_,_] ?_|refine pd I 3 [_,_,_,_,_] ?_|refine pd I 3 [_,_,_,_,_,_] ?_|refine pd I 3 [_,_,_,_,_,_,_] ?_);intro w_ I;(first|replace I:Hp _ (_::_::_::.blk _ _ [_] _::_) _:=I|replace I:Hp _ (_::_::_::.blk _ _ [_,_] _::_) _:=I|replace I:Hp _ (_::_::_::.blk _ _ [_,_,_] _::_) _:=I|replace I:Hp _ (_::_::_::.blk _ _ [_,_,_,_] _::_) _:=I|replace I:Hp _ (_::_::_::.blk _ _ [_,_,_,_,_] _::_) _:=I|replace I:Hp _ (_::_::_::.blk _ _ [_,_,_,_,_,_] _::_) _:=I|replace I:Hp _ (_::_::_::.blk _ _ [_,_,_,_,_,_,_] _::_) _:=I|replace I:Hp _ (_::_::_::.blk _ _ [_,_,_,_,_,_,_,_] _::_) _:=I|replace I:Hp _ (_::_::_::.blk _ _ [_,_,_,_,_,_,_,_,_] _::_) _:=I|replace I:Hp _ (_::_::_::.blk _ _ [_,_,_,_,_,_,_,_,_,_] _::_) _:=I|replace I:Hp _ (_::_::_::.blk _ _ [_,_,_,_,_,_,_,_,_,_,_] _::_) _:=I|replace I:Hp _ (_::_::_::.blk _ _ [_,_,_,_,_,_,_,_,_,_,_,_] _::_) _:=I|replace I:Hp _ (_::_::_::.blk _ _ [_,_,_,_,_,_,_,_,_,_,_,_,_] _::_) _:=I|replace I:Hp _ (_::_::_::.blk _ _ [_,_,_,_,_,_,_,_,_,_,_,_,_,_] _::_) _:=I);revert w_ I)|((first|refine pd I 4 [_] ?_|refine pd I 4 [_,_] ?_|refine pd I 4 [_,_,_] ?_|refine pd I 4 [_,_,_,_] ?_|refine pd I 4 [_,_,_,_,_] ?_|refine pd I 4 [_,_,_,_,_,_] ?_|refine pd I 4 [_,_,_,_,_,_,_] ?_);intro w_ I;(first|replace I:Hp _ (_::_::_::_::.blk _ _ [_] _::_) _:=I|replace I:Hp _ (_::_::_::_::.blk _ _ [_,_] _::_) _:=I|replace I:Hp _ (_::_::_::_::.blk _ _ [_,_,_] _::_) _:=I|replace I:Hp _ (_::_::_::_::.blk _ _ [_,_,_,_] _::_) _:=I|replace I:Hp _ (_::_::_::_::.blk _ _ [_,_,_,_,_] _::_) _:=I|replace I:Hp _ (_::_::_::_::.blk _ _ [_,_,_,_,_,_] _::_) _:=I|replace I:Hp _ (_::_::_::_::.blk _ _ [_,_,_,_,_,_,_] _::_) _:=I|replace I:Hp _ (_::_::_::_::.blk _ _ [_,_,_,_,_,_,_,_] _::_) _:=I|replace I:Hp _ (_::_::_::_::.blk _ _ [_,_,_,_,_,_,_,_,_] _::_) _:=I|replace I:Hp _ (_::_::_::_::.blk _ _ [_,_,_,_,_,_,_,_,_,_] _::_) _:=I|replace I:Hp _ (_::_::_::_::.blk _ _ [_,_,_,_,_,_,_,_,_,_,_] _::_) _:=I|replace I:Hp _ (_::_::_::_::.blk _ _ [_,_,_,_,_,_,_,_,_,_,_,_] _::_) _:=I|replace I:Hp _ (_::_::_::_::.blk _ _ [_,_,_,_,_,_,_,_,_,_,_,_,_] _::_) _:=I|replace I:Hp _ (_::_::_::_::.blk _ _ [_,_,_,_,_,_,_,_,_,_,_,_,_,_] _::_) _:=I);revert w_ I)|((first|refine pd I 5 [_] ?_|refine pd I 5 [_,_] ?_|refine pd I 5 [_,_,_] ?_|refine pd I 5 [_,_,_,_] ?_|refine pd I 5 [_,_,_,_,_] ?_|refine pd I 5 [_,_,_,_,_,_] ?_|refine pd I 5 [_,_,_,_,_,_,_] ?_);intro w_ I;(first|replace I:Hp _ (_::_::_::_::_::.blk _ _ [_] _::_) _:=I|replace I:Hp _ (_::_::_::_::_::.blk _ _ [_,_] _::_) _:=I|replace I:Hp _ (_::_::_::_::_::.blk _ _ [_,_,_] _::_) _:=I|replace I:Hp _ (_::_::_::_::_::.blk _ _ [_,_,_,_] _::_) _:=I|replace I:Hp _ (_::_::_::_::_::.blk _ _ [_,_,_,_,_] _::_) _:=I|replace I:Hp _ (_::_::_::_::_::.blk _ _ [_,_,_,_,_,_] _::_) _:=I|replace I:Hp _ (_::_::_::_::_::.blk _ _ [_,_,_,_,_,_,_] _::_) _:=I|replace I:Hp _ (_::_::_::_::_::.blk _ _ [_,_,_,_,_,_,_,_] _::_) _:=I|replace I:Hp _ (_::_::_::_::_::.blk _ _ [_,_,_,_,_,_,_,_,_] _::_) _:=I|replace I:Hp _ (_::_::_::_::_::.blk _ _ [_,_,_,_,_,_,_,_,_,_] _::_) _:=I|replace I:Hp _ (_::_::_::_::_::.blk _ _ [_,_,_,_,_,_,_,_,_,_,_] _::_) _:=I|replace I:Hp _ (_::_::_::_::_::.blk _ _ [_,_,_,_,_,_,_,_,_,_,_,_] _::_) _:=I|replace I:Hp _ (_::_::_::_::_::.blk _ _ [_,_,_,_,_,_,_,_,_,_,_,_,_] _::_) _:=I|replace I:Hp _ (_::_::_::_::_::.blk _ _ [_,_,_,_,_,_,_,_,_,_,_,_,_,_] _::_) _:=I);revert w_ I)|((first|refine pd I 6 [_] ?_|refine pd I 6 [_,_] ?_|refine pd I 6 [_,_,_] ?_|refine pd I 6 [_,_,_,_] ?_|refine pd I 6 [_,_,_,_,_] ?_|refine pd I 6 [_,_,_,_,_,_] ?_|refine pd I 6 [_,_,_,_,_,_,_] ?_);intro w_ I;(first|replace I:Hp _ (_::_::_::_::_::_::.blk _ _ [_] _::_) _:=I|replace I:Hp _ (_::_::_::_::_::_::.blk _ _ [_,_] _::_) _:=I|replace I:Hp _ (_::_::_::_::_::_::.blk _ _ [_,_,_] _::_) _:=I|replace I:Hp _ (_::_::_::_::_::_::.blk _ _ [_,_,_,_] _::_) _:=I|replace I:Hp _ (_::_::_::_::_::_::.blk _ _ [_,_,_,_,_] _::_) _:=I|replace I:Hp _ (_::_::_::_::_::_::.blk _ _ [_,_,_,_,_,_] _::_) _:=I|replace I:Hp _ (_::_::_::_::_::_::.blk _ _ [_,_,_,_,_,_,_] _::_) _:=I|replace I:Hp _ (_::_::_::_::_::_::.blk _ _ [_,_,_,_,_,_,_,_] _::_) _:=I|replace I:Hp _ (_::_::_::_::_::_::.blk _ _ [_,_,_,_,_,_,_,_,_] _::_) _:=I|replace I:Hp _ (_::_::_::_::_::_::.blk _ _ [_,_,_,_,_,_,_,_,_,_] _::_) _:=I|replace I:Hp _ (_::_::_::_::_::_::.blk _ _ [_,_,_,_,_,_,_,_,_,_,_] _::_) _:=I|replace I:Hp _ (_::_::_::_::_::_::.blk _ _ [_,_,_,_,_,_,_,_,_,_,_,_] _::_) _:=I|replace I:Hp _ (_::_::_::_::_::_::.blk _ _ [_,_,_,_,_,_,_,_,_,_,_,_,_] _::_) _:=I|replace I:Hp _ (_::_::_::_::_::_::.blk _ _ [_,_,_,_,_,_,_,_,_,_,_,_,_,_] _::_) _:=I);revert w_ I)));exact kQ.o):p:=e ⟨kQ⟩
def Gb{p q:Prop}(kQ:q)(e:KQ q->p:=by intro kQ;refine ea ?_;refine ggb ?_;(first|(intro b_ w_ I;refine ea ?_;revert b_ w_ I)|(intro w_ I;refine ea ?_;revert w_ I));exact kQ.o):p:=e ⟨kQ⟩
def Ib{p q:Prop}(kQ:q)(e:KQ q->p:=by intro kQ;refine ea ?_;refine ggb ?_;(first|(intro b_ w_ I;refine Gb ?_;revert b_ w_ I)|(intro w_ I;refine Gb ?_;revert w_ I));exact kQ.o):p:=e ⟨kQ⟩
def Ii{p q:Prop}(kQ:q)(e:KQ q->p:=by intro kQ;refine ea ?_;refine ggb ?_;(first|(intro b_ w_ I;refine Ib ?_;revert b_ w_ I)|(intro w_ I;refine Ib ?_;revert w_ I));exact kQ.o):p:=e ⟨kQ⟩
def Kx{p q:Prop}(kQ:q)(e:KQ q->p:=by intro kQ;refine ea ?_;refine ggb ?_;(first|(intro b_ w_ I;refine Ii ?_;revert b_ w_ I)|(intro w_ I;refine Ii ?_;revert w_ I));exact kQ.o):p:=e ⟨kQ⟩
def gg5{p q:Prop}(kQ:q)(e:KQ q->p:=by intro kQ;refine ea ?_;refine ggb ?_;(first|(intro b_ w_ I;refine Kx ?_;revert b_ w_ I)|(intro w_ I;refine Kx ?_;revert w_ I));exact kQ.o):p:=e ⟨kQ⟩
def Jl{f:FuncId}{ts:Array TypeId}{v:Value}(E:(callFunc f vs.toArray).run P w=.ok (.value v) w)(M:qw O args.toList=vs)(L:d<N)(p:WL .plain P N ops Q rest (vd O d v) w):
  WL .plain P N ops Q (⟨some d,.call ⟨.value (.func f),args,ts⟩,ty,pos,af,none⟩::rest) O w:=by
 have H:(execOp (ev O) ⟨some d,.call ⟨.value (.func f),args,ts⟩,ty,pos,af,none⟩).run P w=.ok (.value v) w:=(by have C:ev O (.func f)=.func (.func f) #[] #[]:=rfl;simp only[execOp,resolve,Deferred.ofValue,C,invoke,yq args M];simpa using E);exact Jb rfl rfl L H p
def Tk(x y c:Nat)(E:c<=1)(w:World):(callFunc 310 #[.int .u64 x,.int .u64 y,.int .u64 c]).run prog w=
   .ok (.value (.tuple #[.int .u64 (((x+y+c) % 18446744073709551616:Nat):Int),.int .u64 (((x+y+c)/18446744073709551616:Nat):Int)])) w:=by
 rw[run_callFunc_extern func310 U' U' U' (e:=add64Entry) U',run_add64 x y c Z' Z' Z' Z'];simp only[Result.andThen];congr 5<;>omega
def XU:Array Value->Sem Value:=λargs=>do
 let(x,y,b) <-Extern.MathBitsCarry.three "Sub64" args
 pure (Extern.MathBitsCarry.pair ((x+Extern.MathBitsCarry.m64-y-b) % Extern.MathBitsCarry.m64) (if x<y+b then 1 else 0))
def rJ(x y b:Nat)(F:b<=1)(w:World):(XU #[.int .u64 x,.int .u64 y,.int .u64 b]).run P w=
   .ok (.tuple #[.int .u64 (((x+18446744073709551616-y-b) % 18446744073709551616:Nat):Int),.int .u64 ((if x<y+b then 1 else 0:Nat):Int)]) w:=by
 have:b=0\/b=1:=Z';obtain rfl|rfl:=this<;>rfl
def uC(x y b:Nat)(F:b<=1)(w:World):(callFunc 311 #[.int .u64 x,.int .u64 y,.int .u64 b]).run prog w=
   .ok (.value (.tuple #[.int .u64 (((x+18446744073709551616-y-b) % 18446744073709551616:Nat):Int),.int .u64 ((if x<y+b then 1 else 0:Nat):Int)])) w:=by
 rw[run_callFunc_extern func311 U' U' U' (e:=XU) U',rJ x y b F];rfl
def Gw(x y:Nat)(w)(C:x<18446744073709551616)(hy:y<18446744073709551616):Zc 316 #[.int .u64 (x:Int),.int .u64 (y:Int)] w (.tuple #[.int .u64 ((x*y/18446744073709551616:Nat):Int),.int .u64 ((x*y % 18446744073709551616:Nat):Int)]):=by
 refine Ga func316 ?_;refine ea ?_;refine qS ?_;refine ea ?_;refine AR ?_;refine HC ?_;refine ea ?_;refine sv (Fh rfl rfl) ?_;refine ea ?_;refine sv (Fh rfl rfl) ?_;refine mI ?_;refine HC ?_;refine sv (zg rfl rfl) ?_;refine ea ?_;refine qS ?_;refine ea ?_;refine HC ?_;refine ea ?_;refine sv (Fh rfl rfl) ?_;refine sv (zg rfl rfl) ?_;refine ea ?_;refine sv (Fh rfl rfl) ?_;refine mI ?_;refine sv (zg rfl rfl) ?_;refine mI ?_;refine HC ?_;refine sv (zg rfl rfl) ?_;refine ea ?_;refine sv (Fh rfl rfl) ?_;refine ea ?_;obtain⟨X,p,c,f⟩:=Lib.mul64_hi x y C hy;have i:=Lib.half_mul_le (a:=x/4294967296) (b:=y/4294967296) Z' Z';have l:=Lib.half_mul_le (a:=x/4294967296) (b:=y % 4294967296) Z' Z';have d:=Lib.half_mul_le (a:=x % 4294967296) (b:=y/4294967296) Z' Z';have em:∀z:Nat,z &&& 4294967295=z % 4294967296:=λz=>Nat.and_two_pow_sub_one_eq_mod z 32;simp only[em];have F:x*y/18446744073709551616<18446744073709551616:=(by rw[S9 Z'];exact L6 C hy);refine⟨?_,Below.refl _ _⟩;congr 5;rw[G_ X,G_ (show x/4294967296*(y % 4294967296)<18446744073709551616 by omega),G_ p,G_ (show x % 4294967296*(y/4294967296)<18446744073709551616 by omega),G_ c,G_ (show x/4294967296*(y/4294967296)<18446744073709551616 by omega)];have key:∀A T V:Nat,A+T+V<18446744073709551616->((A+T) % 18446744073709551616+V) % 18446744073709551616=A+T+V:=by intro A T V h;omega
 rw[<-f] at F |-;exact C_ Nat.cast (key _ _ _ F)
def Yh{x:Nat}(hm:2^k=m)(h:m<=x):Wa x=k+Wa (x/m):=by
 subst hm;have J:x/2^k≠0:=(by have:=(Nat.div_pos_iff (a:=x) (b:=2^k)).2 ⟨L_ Z',h⟩;omega);have h1:=wc (x/2^k);have h2:=jE J;have G:=Gp J;have z:=L9 x (2^k);have P:=R_ x (L_ (n:=k) (show 0<2 by omega));apply uD
 .rw[Q_];have:2^k*(x/2^k+1)<=2^k*2^Wa (x/2^k):=O_ _ h1;rw[p9] at this;omega
 have e:k+Wa (x/2^k)-1=k+(Wa (x/2^k)-1):=Z';rw[e,Q_];have:2^k*2^(Wa (x/2^k)-1)<=2^k*(x/2^k):=O_ _ h2;omega
def Ll{T:t7}(S:T.data.toList=(List.range 256).map λn=>UInt8.ofNat (Wa n))(h:n<256):∃c:UInt8,T.data.toList[n]?=some c/\c.toNat=Wa n/\Wa n<=8:=by
 have F:Wa n<=8:=Uc Z';refine⟨UInt8.ofNat (Wa n), ?_, ?_,F⟩
 .rw[S,C',y_ h];rfl
 rw[M6];omega
def qI(x:Nat)(w)(C:x<18446744073709551616):Zc 319 #[.int .u64 (x:Int)] w (wd (Wa x)):=by
 refine Ga func319 ?_;by_cases o:4294967296<=x
 .have:=Yh (x:=x) (k:=32) (m:=4294967296) rfl o;refine sr (aI (ia (qa (sr (mI ?_)))));refine Sy (ia (cT (sr (mI ?_))));refine HC ?_;refine aI (ia (mb (aI (ia (qa (sr (mI ?_)))))));by_cases g:65536<=(x/4294967296)
  .have:=Yh (x:=(x/4294967296)) (k:=16) (m:=65536) rfl g;refine B0 ?_;by_cases a:256<=((x/4294967296)/65536)
   .have:=Yh (x:=((x/4294967296)/65536)) (k:=8) (m:=256) rfl a;refine AW ?_;obtain⟨B,b,z,L⟩:=Ll (T:=_) U' (n:=(((x/4294967296)/65536)/256)) Z';exact BI
   refine jN ?_;obtain⟨B,b,z,L⟩:=Ll (T:=_) U' (n:=(((x/4294967296)/65536))) Z';exact BI
  refine Sy (ia (cF (db (Va (qa (sr (mI ?_)))))));by_cases a:256<=((x/4294967296))
  .have:=Yh (x:=((x/4294967296))) (k:=8) (m:=256) rfl a;refine AW ?_;obtain⟨B,b,z,L⟩:=Ll (T:=_) U' (n:=(((x/4294967296))/256)) Z';exact BI
  refine jN ?_;obtain⟨B,b,z,L⟩:=Ll (T:=_) U' (n:=(((x/4294967296)))) Z';exact BI
 refine sr (aI (ia (qa (sr (mI ?_)))));refine Sy (ia (cF (db (Va (qa (sr (mI ?_)))))));by_cases g:65536<=(x)
 .have:=Yh (x:=(x)) (k:=16) (m:=65536) rfl g;refine B0 ?_;by_cases a:256<=((x)/65536)
  .have:=Yh (x:=((x)/65536)) (k:=8) (m:=256) rfl a;refine AW ?_;obtain⟨B,b,z,L⟩:=Ll (T:=_) U' (n:=(((x)/65536)/256)) Z';exact BI
  refine jN ?_;obtain⟨B,b,z,L⟩:=Ll (T:=_) U' (n:=(((x)/65536))) Z';exact BI
 refine Sy (ia (cF (db (Va (qa (sr (mI ?_)))))));by_cases a:256<=((x))
 .have:=Yh (x:=((x))) (k:=8) (m:=256) rfl a;refine AW ?_;obtain⟨B,b,z,L⟩:=Ll (T:=_) U' (n:=(((x))/256)) Z';exact BI
 refine jN ?_;obtain⟨B,b,z,L⟩:=Ll (T:=_) U' (n:=(((x)))) Z';exact BI
def Ir(x:Nat)(w)(C:x<18446744073709551616):Zc 303 #[.int .u64 (x:Int)] w (wd (64-(Wa x:Int))):=by
 have I:=Hp.start w;have F:Wa x<=64:=Uc (by simpa using C);refine Ga func303 ?_;refine ea ?_;refine cd I (qI _ _ C) ?_;intro y I;refine ea ?_;exact⟨rfl,I.below⟩
def tz(n:Nat):Nat:=Int.trailingZeros (n:Int)
def NL(k m:Nat):tz (2^k*(2*m+1))=k:=by
 have h:=Int.trailingZeros_shiftLeft (x:=2*(m:Int)+1) Z' k;rw[Int.trailingZeros_two_mul_add_one,Int.shiftLeft_eq] at h;unfold tz;have e:((2^k*(2*m+1):Nat):Int)=(2*(m:Int)+1)*2^k:=(by rw[m_,y6,X6];rfl);rw[e];have L:(((2^k:Nat)):Int)=2^k:=by simp
 rw[<-L] at h |-;simpa using h
def jx(h:n≠0):∃m,n=2^tz n*(2*m+1):=by
 have:∀b n:Nat,n<=b->n≠0->∃k m,n=2^k*(2*m+1):=by
  intro b
  induction b with
  |zero=>intro n h1 h2;omega
  |succ b W=>
   intro n h1 h2;obtain h|h:=Nat.mod_two_eq_zero_or_one n
   .obtain⟨k,m,u⟩:=W (n/2) Z' Z';exact⟨k+1,m,by rw[B_,d' (2^k),V9,<-u];omega⟩
   exact⟨0,n/2,Z'⟩
 obtain⟨k,m,u⟩:=this n n (F' _) h;exact⟨m,by rw[u,NL]⟩
def YC(h:n≠0)(B:n<2^k):tz n<k:=by
 obtain⟨m,hm⟩:=jx h;obtain h1|h1:=z_ (tz n) k
 .exact h1
 have h2:2^k<=2^tz n:=K_ Z' h1;have G:2^tz n*1<=2^tz n*(2*m+1):=O_ _ Z';omega
def EI(m p j:Nat)(h:m+p+1=2^j):(2*m+1) &&& (2*p+1)=1:=by
 apply Nat.eq_of_testBit_eq;intro i;rw[Nat.testBit_and]
 cases i with
 |zero=>simp
 |succ i=>
  rw[Nat.testBit_succ,Nat.testBit_succ,Nat.testBit_succ];have N:(2*m+1)/2=m:=Z';have L:(2*p+1)/2=p:=Z';have X:p=2^j-(m+1):=Z';rw[N,L,X,Nat.testBit_two_pow_sub_succ Z']
  cases hi:m.testBit i<;>simp
def IX{x:Nat}(C:x=2^k*(2*m+1))(D:x<18446744073709551616):x &&& (18446744073709551616-x) % 18446744073709551616=2^k:=by
 have g:(18446744073709551616:Nat)=2^64:=by decide
 have u:k<64:=(by have:=YC (n:=x) (k:=64) (by rw[C];exact Nat.mul_ne_zero (Nat.pos_iff_ne_zero.1 (L_ Z')) Z') (by rw[<-g];exact D);rwa[C,NL] at this);have hp:(18446744073709551616:Nat)=2^k*(2*2^(63-k)):=by rw[g,<-Nat.pow_succ',<-Q_];congr 1;omega
 have hm:m<2^(63-k):=(by rw[C,hp] at D;have:=Nat.lt_of_mul_lt_mul_left D;omega);have e:(18446744073709551616-x) % 18446744073709551616=2^k*(2*(2^(63-k)-(m+1))+1):=(by have h1:2*(2^(63-k)-(m+1))+1=2*2^(63-k)-(2*m+1):=Z';rw[h1,Nat.mul_sub,<-hp,<-C,G_];have:0<2^k*(2*m+1):=H7 (L_ Z') Z';omega);rw[e,C];have h2:=EI m (2^(63-k)-(m+1)) (63-k) Z';have G:=C_ (· <<<k) h2;rw[Nat.shiftLeft_and_distrib] at G;simp only[Nat.shiftLeft_eq,R8] at G;rw[d' (2^k),d' (2^k)];exact G
def SK:t3:=[0,1,56,2,57,49,28,3,61,58,42,50,38,29,17,4,62,47,59,36,45,43,51,22,53,39,33,30,24,18,12,5,63,55,48,27,60,41,37,16,46,35,44,21,52,32,23,11,54,26,40,15,34,20,31,10,25,14,19,9,13,8,7,6]
def Nd(w:World):Prop:=Rd w ⟨0,0,none⟩ (Bh SK)
def Nd.ext{V:World}(h:Nd w)(F:Below w.heap.size w V):Nd V:=Rd.ext h F
def Nd.hp{V:World}{H:List HE}(h:Nd w)(I:Hp w H V):Nd V:=Rd.ext h I.below
def acY:∀k:Fin 64,SK[2^k.val*285870213051353865 % 18446744073709551616/288230376151711744]?=some k.val/\2^k.val*285870213051353865 % 18446744073709551616/288230376151711744<64:=by decide+kernel
def SJ(x:Nat)(w)(C:x<18446744073709551616)(J:x≠0)(S:Nd w):Zc 252 #[.int .u64 (x:Int)] w (wd (tz x)):=by
 have I:=Hp.start w;obtain⟨m,hm⟩:=jx J;have u:tz x<64:=YC J (by simpa using C);have M:=IX hm C;obtain⟨t1,t2⟩:=acY ⟨tz x,u⟩;simp only at t1 t2;have E:=(show Rd w _ _ from S).Dl (qs t1);refine Ga func252 ?_;refine ea ?_;refine sv (UQ rfl (by first|assumption|omega)) ?_;refine sv (tK rfl rfl C (R_ _ V')) ?_;rw[M];skip;refine sv (Fh (b:=285870213051353865) rfl rfl) ?_;refine sv (Xp (s:=58) (m:=288230376151711744) rfl rfl V' V') ?_;refine sv (jJ Qa.out pa.size rfl rfl rfl Z') ?_;refine sv (Ma pa.out rfl (E)) ?_;refine ea ?_;exact⟨rfl,I.below⟩
end Go.Proofs.YtbencocchdpikaaGreatDoor
