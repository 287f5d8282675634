/- Lemmas for ratioHolds, part 3. -/
import Derived.Deep.AppendSrc
import Derived.Deep.Upon
import Init
import Derived.Laws.Externs
import Derived.Lib.Mul64
import Derived.Test.YtmchncaiffbpaaaGreatDoorZ2
namespace Go.Proofs.YtmchncaiffbpaaaGreatDoor
variable {K:Value→World→Prop}{M rs:List Nat}{N b b' base by' c dj fuel j k m n:Nat}{P:Program}{R:Ending→World→Prop}{W w w' w0 w1:World}{ad:Addr}{ag:Bool}{cs zc:List Value}{lo:Operand}{next:Rf→World→Prop}{ops:Array Oper}{parts:Array (Nat×Operand)}{pos:String}{ps:List (Nat×Value)}{t':TypeId}{α:Type}{ρ:Rf}
open Go.RowKit
section
variable {D:List Deferred}
section
variable {P:Program}{N:Nat}{Q:Kq}{ρ:Rf}{w:World}
def S3 (ops:Array Oper):Nat→Nat→Nat→Bool
 |0,_,_=>false
 |n+1,k,i=>match ops[k]? with
  |none=>false
  |some o=>(o.after.any fun e=>Region.binds .any e && e.on==i)||o.after.any fun e=>Region.binds .any e && S3 ops n e.on i
def sE (ops:Array Oper) (L:Array Bool):Prop:=∀k o,ops[k]?=some o→L.getD k false=true→∀e∈o.after,Region.binds .any e=true→L.getD e.on false=true
theorem nT {ops:Array Oper}{L:Array Bool} (hc:sE ops L):∀(n k i:Nat),(∀o,ops[k]?=some o→∀e∈o.after,Region.binds .any e=true→L.getD e.on false=true)→S3 ops n k i=true→L.getD i false=true
 |0,_,_,_,h=>by simp [S3] at h
 |n+1,k,i,hk,h=>by
  unfold S3 at h;split at h
  ·cases h
  ·rename_i o ho;rw [aaL] at h
   rcases h with h|h
   ·obtain ⟨e,he,h⟩:=Array.any_eq_true'.1 h;simp only [YP,Z6] at h;rw [←h.2];exact hk o ho e he h.1
   ·obtain ⟨e,he,h⟩:=Array.any_eq_true'.1 h;simp only [YP] at h;have h1:=hk o ho e he h.1;exact nT hc n e.on i (fun o' ho'=>hc e.on o' ho' h1) h.2
structure OG (P:Program) (ops:Array Oper) (o:Oper) (ρ:Rf) (w:World) (K:Value→World→Prop):Prop where
 out:∀(a:Act) (next:Act→World→Prop) (Q:Exit→Act→World→Prop),(∀i,a.tmps.getD i undef=ρ i)→(∀v w',K v w'→next (a.put o.dst v) w')→
  if Region.wanted o (yielded ops a.tmps) then o.wp P a w next Q∨(o.asks P a w∧LetsOut Q) else next (a.put o.dst undef) w
theorem AA {a:Act} (h:∀i,a.tmps.getD i undef=ρ i):a.eval=ev ρ:=by
 funext x
 cases x with
 |tmp t=>exact h t
 |_=>rfl
theorem fI {o:Oper}{v:Value} (hg:o.guard=none) (hr:(execOp (ev ρ) o).run P w=.ok (.value v) w') (hk:K v w'):OG P ops o ρ w K:=
 ⟨fun a next Q ha hn=>by
  rw [Yt (by simp [Region.wanted,hg])];refine .inl ?_;unfold Oper.wp;rw [AA ha,hr];exact hn _ _ hk⟩
theorem bV {o:Oper}{f:FuncId}{args:Array Value} (hg:o.guard=none) (hr:(execOp (ev ρ) o).run P w=.ok (.enter f args) w1) (hc:Calls P f args w1 R)
  (hk:∀e w',R e w'→∃v,e=.returned v∧K v w'):OG P ops o ρ w K:=
 ⟨fun a next Q ha hn=>by
  rw [Yt (by simp [Region.wanted,hg])];refine .inl ?_;unfold Oper.wp;rw [AA ha,hr];show Calls P f args w1 _;refine hc.mono fun e w' hR=> ?_;obtain ⟨v,rfl,hkv⟩:=hk e w' hR;exact hn _ _ hkv⟩
theorem eN {d:Option Nat}{op:Op}{ty:TypeId}{af:Array Edge}{b:Bool}
  (hj:(ops[j]?).bind (·.dst)=some dj) (hv:ρ dj=.bool b) (h:OG P ops ⟨d,op,ty,pos,af,none⟩ ρ w K):OG P ops ⟨d,op,ty,pos,af,some (j,b)⟩ ρ w K:=
 ⟨fun a next Q ha hn=>by
  have h1:Region.wanted ⟨d,op,ty,pos,af,some (j,b)⟩ (yielded ops a.tmps)=true:=by
   have h2:=ha dj;rw [hv,ZL] at h2
   cases h3:a.tmps[dj]? with
   |none=>rw [h3] at h2;cases h2
   |some x=>
    rw [h3] at h2;simp only [ZO] at h2;subst h2;simp [Region.wanted,yielded,hj,h3]
  have h2:=h.out a next Q ha hn;rw [Yt (by simp [Region.wanted])] at h2;rw [Yt h1];exact h2⟩
theorem xQ {d:Option Nat}{op:Op}{ty:TypeId}{af:Array Edge}{b c:Bool}
  (hj:(ops[j]?).bind (·.dst)=some dj) (hv:ρ dj=.bool c) (hb:c≠b) (h:K undef w):OG P ops ⟨d,op,ty,pos,af,some (j,b)⟩ ρ w K:=
 ⟨fun a next Q ha hn=>by
  have h1:Region.wanted ⟨d,op,ty,pos,af,some (j,b)⟩ (yielded ops a.tmps)=false:=by
   have h2:=ha dj;rw [hv,ZL] at h2
   cases h3:a.tmps[dj]? with
   |none=>rw [h3] at h2;cases h2
   |some x=>
    rw [h3] at h2;simp only [ZO] at h2;subst h2;simp [Region.wanted,yielded,hj,h3,hb]
  rw [h1];exact hn _ _ h⟩
def dp (V:Nat→Value→World→Prop) (ρ ρ1:Rf) (w1:World):List (Nat×Option Nat)→Prop
 |[]=>True
 |(t,some j)::r=>V j (ρ1 t) w1∧dp V ρ ρ1 w1 r
 |(t,none)::r=>ρ1 t=ρ t∧dp V ρ ρ1 w1 r
def DO (P:Program) (ops:Array Oper) (J:World→Prop) (V:Nat→Value→World→Prop) (ρ:Rf):Nat→List Oper→List (List (Nat×Option Nat))→Prop
 |i,o::os,s::ss=>((∀v w w',V i v w→Below w.heap.size w w'→V i v w')∧∀ρ1 w1,J w1→dp V ρ ρ1 w1 s→OG P ops o ρ1 w1 fun v w2=>Below w1.heap.size w1 w2∧V i v w2)∧DO P ops J V ρ (i+1) os ss
 |_,[],[]=>True
 |_,_,_=>False
theorem zA {ops:Array Oper}{J:World→Prop}{V:Nat→Value→World→Prop}:∀(l:List Oper) (ss:List (List (Nat×Option Nat))) (i:Nat),DO P ops J V ρ i l ss→l.length=ss.length∧∀k o,l[k]?=some o→∃s,ss[k]?=some s∧
  (∀v w w',V (i+k) v w→Below w.heap.size w w'→V (i+k) v w')∧∀ρ1 w1,J w1→dp V ρ ρ1 w1 s→OG P ops o ρ1 w1 fun v w2=>Below w1.heap.size w1 w2∧V (i+k) v w2
 |[],[],_,_=>⟨rfl,fun k o h=>by simp at h⟩
 |[],_::_,_,h=>h.elim
 |_::_,[],_,h=>h.elim
 |o::l,s::ss,i,h=>by
  obtain ⟨h1,h2⟩:=zA l ss (i+1) h.2;refine ⟨by simp [h1],fun k o' hk=> ?_⟩
  cases k with
  |zero=>
   simp only [abh,aag] at hk;subst hk;exact ⟨s,rfl,h.1⟩
  |succ k=>
   obtain ⟨s',hs,h3⟩:=h2 k o' (by simpa using hk);refine ⟨s',by simpa using hs, ?_⟩;have e:i+1+k=i+(k+1):=Yo;rw [e] at h3;exact h3
def ix (ρ:Rf) (f:Nat→Value):List (Nat×Nat)→Rf
 |[]=>ρ
 |(i,d)::r=>cP (ix ρ f r) d (f i)
def ub (V:Nat→Value→World→Prop) (f:Nat→Value) (w:World):List (Nat×Nat)→Prop
 |[]=>True
 |(i,_)::r=>V i (f i) w∧ub V f w r
def jY (n k:Nat):Array Bool:=(List.replicate k true++List.replicate (n-k) false).toArray
def Fa (l:List Oper) (m N:Nat) (src:List (List (Nat×Option Nat))) (ds:List (Nat×Nat)):Bool:=
 let ops:=l.toArray
 let pre:=(List.range m).map fun i=>((ops[i]?).bind (·.dst))
 (m≤l.length) && (src.length==m) &&
 (ds==(pre.zipIdx.filterMap fun (d,i)=>d.map fun d=>(i,d)).reverse) && (decide (ds.map (·.2)).Nodup) && (ds.all fun p=>p.2<N) &&
 ((List.range m).all fun i=>match ops[i]?,src[i]? with
  |some o,some s=>((o.looksAt ops).all fun t=>s.any fun p=>p.1==t) &&
    s.all fun p=>match p.2 with
     |some j=>(j<m) && ((ops[j]?).bind (·.dst)==some p.1) && S3 ops 16 i j
     |none=>(List.range m).all fun j=> !((ops[j]?).bind (·.dst)==some p.1)||(j !=i && S3 ops 16 j i)
  |_,_=>false) &&
 (l.length==m||((List.range m).all fun i=>S3 ops 16 m i)) &&
 ((List.range (l.length-m)).all fun k=>Region.ready .any ops (jY l.length (m+k))==[m+k]) && (Region.ready .any ops (jY l.length l.length)==[]) &&
 ((List.range (l.length-m)).all fun k=>k==0||S3 ops 16 (m+k) m) &&
 ((List.range l.length).all fun i=>match ops[i]? with|some o=>o.after.all fun e=> !Region.binds .any e||e.on<i|none=>false)
theorem Kx (n k i:Nat):(jY n k).getD i false=decide (i<k):=by
 unfold jY;rw [ZL,aar]
 rcases Zb i k with h|h
 ·rw [aav (by simpa using h)];simp [h]
 ·rw [ZC (by simpa using h),abP];have:¬i<k:=Yo;split<;>simp [this]
theorem NQ (n k:Nat) (hk:k<n):(jY n k).setIfInBounds k true=jY n (k+1):=by
 unfold jY;rw [List.setIfInBounds_toArray];congr 1;apply ZI;intro i;rw [aaf];simp only [List.getElem?_append,ZG,abP,YE];by_cases h1:k=i
 ·subst h1;rw [Yt rfl,Yt Yo,Yt (show k<k+1 by omega),Yt (show k<k+1 by omega)]
 ·rw [Yu h1];by_cases h2:i<k
  ·rw [Yt h2,Yt h2,Yt (show i<k+1 by omega),Yt (show i<k+1 by omega)]
  ·rw [Yu h2,Yu (show ¬i<k+1 by omega)];by_cases h3:i-k<n-k
   ·rw [Yt h3,Yt (show i-(k+1)<n-(k+1) by omega)]
   ·rw [Yu h3,Yu (show ¬i-(k+1)<n-(k+1) by omega)]
theorem KN (n k:Nat) (hk:k≤n):(jY n k).size=n:=by simp [jY];omega
theorem Ga (n k:Nat):(jY n k).toList.countP (fun b=>b)=k:=by
 simp [jY,abQ]
theorem uq {L:Array Bool} (hs:L.size=n) (hk:k≤n) (h1:∀i,i<k→L.getD i false=true) (h2:∀i,k≤i→L.getD i false=false):L=jY n k:=by
 apply Array.ext
 ·rw [hs,KN n k hk]
 ·intro i hi hi2;have e1:L[i]=L.getD i false:=by simp [hi]
  have e2:(jY n k)[i]=(jY n k).getD i false:=by simp [hi2]
  rw [e1,e2,Kx n k i]
  rcases Zb i k with h|h
  ·rw [h1 i h];simp [h]
  ·rw [h2 i h];have:¬i<k:=Yo;simp [this]
theorem om {l:List Oper}{Q':Exit→Act→World→Prop} (m:Nat)
  (hr:∀k,m≤k→k<l.length→Region.ready .any l.toArray (jY l.length k)=[k]) (hend:Region.ready .any l.toArray (jY l.length l.length)=[]):
  ∀(fuel k:Nat) (a:Act) (w:World),m≤k→k≤l.length→l.length≤fuel+k→wpList P l.toArray Q' (l.drop k) a w→wpAny P .any l.toArray Q' fuel (jY l.length k) a w
 |fuel,k,a,w,hmk,hk,hf,h=>by
  rcases Zb k l.length with hlt|hge
  ·cases fuel with
   |zero=>omega
   |succ fuel=>
    refine wpAny_all (hr k hmk hlt) (by simp) fun i hi=> ?_;obtain rfl:i=k:=by simpa using hi
    rw [aal hlt] at h;unfold wpList at h;have ho:l.toArray[i]?=some l[i]:=by simp [hlt]
    have hset:=NQ l.length i hlt;have hgo:∀a w,wpList P l.toArray Q' (l.drop (i+1)) a w→wpAny P .any l.toArray Q' fuel ((jY l.length i).setIfInBounds i true) a w:=fun a w h=>by
     rw [hset];exact om m hr hend fuel (i+1) a w Yo Yo Yo h
    unfold wpOp;rw [ho];simp only [];split at h
    ·rename_i hw;rw [Yt hw];exact h.imp (Oper.wp_mono hgo) id
    ·rename_i hw;rw [Yu hw];exact hgo _ _ h
  ·obtain rfl:k=l.length:=Yo;rw [List.drop_length] at h;exact wpAny_done hend h fuel
structure DI (D:List Deferred) (N:Nat) (ops:Array Oper) (m:Nat) (ρ:Rf) (J:World→Prop) (V:Nat→Value→World→Prop) (L:Array Bool) (a:Act) (w:World):Prop where
 nd:a.defers=D
 sz:a.tmps.size=N
 j:J w
 ls:L.size=ops.size
 cl:sE ops L
 tl:∀k,m≤k→L.getD k false=false
 vs:∀i d,i<m→L.getD i false=true→(ops[i]?).bind (·.dst)=some d→V i (a.tmps.getD d undef) w
 old:∀s,(∀i,i<m→L.getD i false=true→(ops[i]?).bind (·.dst)≠some s)→a.tmps.getD s undef=ρ s
theorem cS {L:Array Bool}{i:Nat} (hi:i<L.size):(L.setIfInBounds i true).getD j false=(decide (j=i)||L.getD j false):=by
 rw [ZL,Array.getElem?_setIfInBounds];by_cases h:i=j
 ·subst h;simp [hi]
 ·have:¬j=i:=fun e=>h e.symm;simp [h,this]
theorem eH {a:Act}{d s:Nat}{v:Value} (hd:d<a.tmps.size):(a.put (some d) v).tmps.getD s undef=if s=d then v else a.tmps.getD s undef:=by
 by_cases h:s=d
 ·subst h;simp [Act.put,hd]
 ·have:d≠s:=fun e=>h e.symm;simp [Act.put,Array.getElem?_setIfInBounds_ne this,h]
theorem mr (f:Nat→Value):∀(ds:List (Nat×Nat)) (s:Nat),(ds.map (·.2)).Nodup→(∀i,(i,s)∈ds→ix ρ f ds s=f i)∧((∀i,(i,s)∉ds)→ix ρ f ds s=ρ s)
 |[],s,_=>⟨fun i h=>by simp at h,fun _=>rfl⟩
 |(j,d)::r,s,h=>by
  rw [Y6,aaa] at h;obtain ⟨h1,h2⟩:=mr f r s h.2;constructor
  ·intro i hi
   rcases YH.1 hi with hi'|hi'
   ·injection hi' with e1 e2
    subst e1;subst e2;exact jK _ _ _
   ·have hne:s≠d:=fun e=>h.1 (e ▸ YF.2 ⟨_,hi',rfl⟩);exact (bF _ hne _).trans (h1 i hi')
  ·intro hn;have hne:s≠d:=by
    rintro rfl;exact hn j YD
   exact (bF _ hne _).trans (h2 fun i hi=>hn i (YK _ hi))
theorem qO {V:Nat→Value→World→Prop}{f:Nat→Value}{w:World}:∀(ds:List (Nat×Nat)),(∀p∈ds,V p.1 (f p.1) w)→ub V f w ds
 |[],_=>trivial
 |(i,d)::r,h=>⟨h (i,d) YD,qO r fun p hp=>h p (YK _ hp)⟩
theorem pb {V:Nat→Value→World→Prop}{ρ1:Rf}{w1:World}:∀(s:List (Nat×Option Nat)),(∀p∈s,match p.2 with|some j=>V j (ρ1 p.1) w1|none=>ρ1 p.1=ρ p.1)→dp V ρ ρ1 w1 s
 |[],_=>trivial
 |(t,some j)::r,h=>⟨h (t,some j) YD,pb r fun p hp=>h p (YK _ hp)⟩
 |(t,none)::r,h=>⟨h (t,none) YD,pb r fun p hp=>h p (YK _ hp)⟩
theorem Qo {id:Nat}{l:List Oper} (m:Nat) (src:List (List (Nat×Option Nat))) (ds:List (Nat×Nat)) (J:World→Prop) (V:Nat→Value→World→Prop) (hm:P.follows .mixedOrders=true) (hok:Fa l m N src ds=true)
  (hJ:∀w w',J w→Below w.heap.size w w'→J w') (h0:J w) (hops:DO P l.toArray J V ρ 0 (l.take m) src)
  (tail:∀f w',J w'→ub V f w' ds→WL ⟨none,D,false⟩ P N l.toArray Q (l.drop m) (ix ρ f ds) w'):WC ⟨none,D,false⟩ P N (.region id l.toArray true) Q ρ w:=by
 refine WC.nU fun a hf=>wp_region_any hm ?_;simp only [Fa,YP,YX,Z6,Y0,Zi] at hok;obtain ⟨⟨⟨⟨⟨⟨⟨⟨⟨⟨hml,_⟩,hds⟩,hnd⟩,hdN⟩,hrd⟩,htail⟩,hready⟩,hend⟩,hdep⟩,hedge⟩:=hok;have hdo:=(zA _ _ _ hops).2;have hpre:∀i d,i<m→((l.toArray[i]?).bind (·.dst))=some d→(i,d)∈ds:=fun i d hi hd=>by
  exact PM
 have hdsm:∀i d,(i,d)∈ds→i<m∧((l.toArray[i]?).bind (·.dst))=some d:=fun i d hp=>by
  exact O8
 have hone:∀i j d,i<m→j<m→((l.toArray[i]?).bind (·.dst))=some d→((l.toArray[j]?).bind (·.dst))=some d→i=j:=fun i j d hi hj h1 h2=>by
  exact Qg
 have hnn:l.toArray.size=l.length:=by simp
 have full:∀(L:Array Bool) (a:Act) (w:World) (fuel:Nat),DI D N l.toArray m ρ J V L a w→(∀i,i<m→L.getD i false=true)→l.length≤fuel+m→wpAny P .any l.toArray (dO N D Q) fuel L a w:=by
  intro L a w fuel hI hall hfu;have hL:L=jY l.length m:=uq (by rw [hI.ls,hnn]) hml hall hI.tl;rw [hL];refine om m (fun k h1 h2=> ?_) hend fuel m a w (YA _) hml hfu ?_
  ·exact N9
  ·have hfits:fL N D a (ix ρ (fun i=>match (l.toArray[i]?).bind (·.dst) with|some d=>a.tmps.getD d undef|none=>undef) ds):=by
    exact TK
   refine (tail _ w hI.j (qO ds fun p hp=> ?_)).out a hfits;obtain ⟨h1,h2⟩:=hdsm p.1 p.2 hp;exact Mb
 have key:∀(fuel:Nat) (L:Array Bool) (a:Act) (w:World),DI D N l.toArray m ρ J V L a w→fuel+L.toList.countP (fun b=>b)=l.length→wpAny P .any l.toArray (dO N D Q) fuel L a w:=by
  intro fuel
  induction fuel with
  |zero=>
   exact Tq
  |succ fuel ih=>
   intro L a w hI hc;by_cases hall:∀i,i<m→L.getD i false=true
   ·exact Ut
   ·have hsome:∃i,i<m∧L.getD i false=false:=by
     exact T8
    have hready_spec:∀i,i∈Region.ready .any l.toArray L↔i<l.length∧L.getD i true=false∧∃o,l.toArray[i]?=some o∧∀e∈o.after,Region.binds .any e=true→L.getD e.on false=true:=fun i=>by
     exact QM
    refine ⟨fun hnil=> ?_,fun i hi=> ?_⟩
    ·exact WO
    ·obtain ⟨hil,hun,o,ho,hed⟩:=(hready_spec i).1 hi;have hiL:i<L.size:=by rw [hI.ls,hnn];exact hil
     have hun':L.getD i false=false:=by
      exact Ps
     have hed':∀o',l.toArray[i]?=some o'→∀e∈o'.after,Region.binds .any e=true→L.getD e.on false=true:=fun o' ho'=>by
      exact Qx
     have him:i<m:=by
      rcases Zb i m with h|h
      ·exact h
      ·exfalso
       rcases Zb m i with h2|h2
       ·have h3:=hdep (i-m) Yo;rw [show m+(i-m)=i by omega] at h3;have h4:(i-m==0)=false:=by simp;omega
        rw [h4,Zd] at h3;have:=nT hI.cl 16 i m hed' h3;rw [hI.tl m (YA _)] at this
        cases this
       ·obtain rfl:i=m:=Yo;have h4:(l.length==i)=false:=by simp;omega
        rw [h4,Zd] at htail;have h5:=Y0.1 htail;obtain ⟨j,hj,hju⟩:=hsome;have:=nT hI.cl 16 i j hed' (h5 j (by simpa using hj));rw [hju] at this
        cases this
     have hok':(l.take m)[i]?=some o:=by
      rw [ZX,Yt him];simpa using ho
     obtain ⟨s,hs,hstab,hog⟩:=hdo i o hok';rw [YZ] at hstab hog;have hrdi:=hrd i him;rw [ho,hs] at hrdi;simp only [YP,Y0] at hrdi;have hro:dp V ρ (fun t=>a.tmps.getD t undef) w s:=pb s fun p hp=>by
      have hp2:=hrdi.2 p hp
      cases hp3:p.2 with
      |some j=>
       rw [hp3] at hp2;simp only [YP,YX,Z6] at hp2;exact hI.vs j p.1 hp2.1.1 (nT hI.cl 16 i j hed' hp2.2) hp2.1.2
      |none=>
       rw [hp3] at hp2;refine hI.old p.1 fun j hj hjl hjd=> ?_;have h6:=Y0.1 hp2 j (by simpa using hj);rw [hjd] at h6;simp only [beq_self_eq_true,abb,Zd,YP] at h6;have:=nT hI.cl 16 j i (fun o' ho' e he hb=>hI.cl j o' ho' hjl e he hb) h6.2;rw [hun'] at this
       cases this
     have hgo:=(hog _ w hI.j hro).out a (wpAny P .any l.toArray (dO N D Q) fuel (L.setIfInBounds i true)) (dO N D Q) (fun _=>rfl) (fun v w2 hv=>by
      refine ih _ _ _ ?_ ?_
      ·refine ⟨?_, ?_,hJ _ _ hI.j hv.1,by simpa using hI.ls, ?_, ?_, ?_, ?_⟩
       ·cases o.dst<;>exact hI.nd
       ·cases hod:o.dst with
        |none=>exact hI.sz
        |some d=>simpa [Act.put] using hI.sz
       ·intro k ok hk hkl e he hb;rw [cS hiL] at hkl ⊢;by_cases hki:k=i
        ·subst hki;simp [hed' ok hk e he hb]
        ·simp only [hki,decide_false,Zd] at hkl;simp [hI.cl k ok hk hkl e he hb]
       ·intro k hk;rw [cS hiL,hI.tl k hk];have:¬k=i:=Yo;simp [this]
       ·intro j d hj hjl hjd;rw [cS hiL] at hjl;have hd1:∀d',o.dst=some d'→d'<a.tmps.size:=fun d' hd'=>by
         rw [hI.sz];exact hdN (i,d') (hpre i d' him (by rw [ho];exact hd'))
        by_cases hji:j=i
        ·subst hji;rw [ho] at hjd;simp only [aaE] at hjd;rw [hjd,eH (hd1 d hjd),Yt rfl];exact hv.2
        ·simp only [hji,decide_false,Zd] at hjl;have hold:=hI.vs j d hj hjl hjd;have hdj:(j,d)∈ds:=hpre j d hj hjd;have hst:=(hdo j (l.toArray[j]?.getD default) (by
          have:j<l.length:=Yo;rw [ZX,Yt hj];simp [this])).choose_spec.2.1
         rw [YZ] at hst;have hne:∀d',o.dst=some d'→d≠d':=fun d' hd' e=>by
          subst e;exact hji (hone j i d hj him hjd (by rw [ho];exact hd'))
         cases hod:o.dst with
         |none=>exact hst _ _ _ hold hv.1
         |some d'=>
          rw [eH (hd1 d' hod),Yu (hne d' hod)];exact hst _ _ _ hold hv.1
       ·intro s' hs';have hni:((l.toArray[i]?).bind (·.dst))≠some s':=hs' i him (by rw [cS hiL];simp);have hold:=hI.old s' fun j hj hjl=>hs' j hj (by rw [cS hiL];simp [hjl]);rw [ho] at hni;simp only [aaE] at hni
        cases hod:o.dst with
        |none=>exact hold
        |some d'=>
         rw [eH (by rw [hI.sz];exact hdN (i,d') (hpre i d' him (by rw [ho];exact hod))),Yu (fun e=>hni (by rw [hod,e]))];exact hold
      ·have hLi:L.toList[i]?=some false:=by
        have h3:i<L.toList.length:=by simpa using hiL
        rw [ZP h3];have:L.getD i false=L.toList[i]:=by simp [hiL]
        rw [←this,hun']
       rw [abR,List.countP_set (by simpa using hiL)];have h4:L.toList[i]'(by simpa using hiL)=false:=(YL.1 hLi).2;rw [h4];simp only [abt,if_false,if_true];omega)
     unfold wpOp;rw [ho];exact hgo
 have hJ0:J ({ w with drawn:=w.drawn+1 }:World):=hJ w _ h0 ⟨rfl,rfl,rfl,YA _,fun _ _=>rfl⟩;have hr0:∀i,(Array.replicate l.toArray.size false).getD i false=false:=fun i=>by
  exact My
 refine key _ _ _ _ ⟨hf.nd,hf.sz,hJ0,by simp,fun k o _ hk=> ?_,fun k _=>hr0 k,fun i d _ hi=> ?_,fun s _=>hf.at_ s⟩ ?_
 ·rw [hr0] at hk;cases hk
 ·rw [hr0] at hi;cases hi
 ·simp [abQ]
def Is (c:Value):Value→World→Prop:=fun v _=>v=c
theorem Is.ext {c:Value} (v:Value) (w w':World) (h:Is c v w) (_:Below w.heap.size w w'):Is c v w':=h
structure JJ (w0:World) (H:List HE) (w W:World):Prop where
 hp:Hp w0 H W
 bl:Below w.heap.size w W
theorem JJ.ext {H:List HE}{W':World} (h:JJ w0 H w W) (hb:Below W.heap.size W W'):JJ w0 H w W':=⟨h.hp.ext hb,h.bl.trans (hb.mono h.bl.size)⟩
theorem JJ.start {H:List HE} (h:Hp w0 H w):JJ w0 H w w:=⟨h,Below.refl _ _⟩
def U4 (n k:Nat) (cs:List Value):Value→World→Prop:=fun v W=>∃b,v=.slice (some ⟨b,0,none⟩) n n∧Sl W (some ⟨b,0,none⟩) n k cs
def cw (w:World) (t:TypeId) (cs:List Value):Value→World→Prop:=fun v W=>∃b,v=.pointer (some ⟨b,0,none⟩)∧w.heap.size≤b∧W.heap[b]?=some (.cells cs.toArray t (0,0))
theorem cw.ext {t:TypeId} (v:Value) (w1 w2:World) (h:cw w t cs v w1) (hb:Below w1.heap.size w1 w2):cw w t cs v w2:=by
 obtain ⟨b,h1,h2,h3⟩:=h;have hlt:b<w1.heap.size:=by
  rcases Zb b w1.heap.size with hlt|hge
  ·exact hlt
  ·rw [abk hge] at h3;cases h3
 exact ⟨b,h1,h2,(hb.block b hlt).trans h3⟩
theorem lW {d:Option Nat}{ty:TypeId}{af:Array Edge}{t e:TypeId}{len sz:Nat} (ht:P.underlying t=some (.slice e)) (hte:eu P e=some (sz,ag,by',zc))
  (hp:BR ρ parts.toList=ps) (hzl:zc.length=sz) (hf:mj (fun i=>some (i*sz,sz)) (iK len zc) ps=some cs) (h0:¬len*sz=0) (hsl:len*sz≤16777216) (hl:cs.length=len*sz)
  (hk:∀v w2,U4 len sz cs v w2→Below w.heap.size w w2→K v w2):OG P ops ⟨d,.buildSlice t len parts,ty,pos,af,none⟩ ρ w K:=by
 obtain ⟨z,hz,hzc⟩:=fF (w:=w) hte;have hbl:Below w.heap.size w (w.alloc (.cells cs.toArray e)):=(Below.refl _ _).alloc (YA _) _;refine fI rfl (w':=w.alloc (.cells cs.toArray e)) (v:=.slice (some ⟨w.heap.size,0,none⟩) len len) ?_ (hk _ _ ⟨w.heap.size,rfl,hl,fun _=>⟨_,rfl,fun j u hu=> ?_⟩⟩ hbl)
 ·exact Vq
 ·rw [fw,YZ,cell_of_row _ w.heap.size j cs.toArray e (0,0) (heap_alloc_new w _)];simpa using hu
theorem iJ {d:Option Nat}{ty:TypeId}{af:Array Edge}{t:TypeId}{wr:World} (ht:eu P t=some (n,ag,by',zc)) (hb:Below wr.heap.size wr w)
  (hk:∀v w2,cw wr t zc v w2→Below w.heap.size w w2→K v w2):OG P ops ⟨d,.alloc t,ty,pos,af,none⟩ ρ w K:=by
 obtain ⟨z,hz,hzc⟩:=fF (w:=w) ht;exact fI rfl (w':=w.alloc (.cells zc.toArray t)) (v:=.pointer (some ⟨w.heap.size,0,none⟩)) (by simp [execOp,Instr.alloc,newVar,newRow,hz,hzc]) (hk _ _ ⟨w.heap.size,rfl,hb.size,heap_alloc_new w _⟩ ((Below.refl _ _).alloc (YA _) _))
theorem JJ.newVar {H:List HE}{t:TypeId} (h:JJ w0 H w W) (hs:Hp w0 H w) (h2:w.heap.size≤b) (h3:W.heap[b]?=some (.cells cs.toArray t (0,0))):Hp w0 (.blk b t cs (0,0)::H) W:=by
 refine ⟨h.hp.below, ?_, ?_⟩
 ·intro y hy
  rcases YH.1 hy with rfl|hy
  ·exact ⟨Y1 hs.size h2,h3,.inr (YA _)⟩
  ·exact h.hp.own y hy
 ·rw [Z4];show (b::H.filterMap HE.id).Nodup;refine aaa.2 ⟨fun hm=> ?_,h.hp.nd⟩;exact T4
end
section
abbrev VP:=Value→World→Prop
def ff (pv:Nat→VP) (i:Nat) (V:VP):Nat→VP:=fun j=>cond (Nat.beq j i) V (pv j)
def UU:Nat→VP:=fun _ _ _=>True
def DX (P:Program) (ops:Array Oper) (J:World→Prop) (ρ:Rf) (T:(Nat→VP)→Prop):Nat→(Nat→VP)→List Oper→List (List (Nat×Option Nat))→Prop
 |i,pv,o::os,s::ss=>∃V:VP,(∀v w w',V v w→Below w.heap.size w w'→V v w')∧(∀ρ1 w1,J w1→dp pv ρ ρ1 w1 s→OG P ops o ρ1 w1 fun v w2=>Below w1.heap.size w1 w2∧V v w2)∧DX P ops J ρ T (i+1) (ff pv i V) os ss
 |_,pv,[],[]=>T pv
 |_,_,_,_=>False
theorem A0 (pv:Nat→VP) (i:Nat) (V:VP):ff pv i V i=V:=by simp [ff]
theorem lQ (pv:Nat→VP) {i:Nat} (V:VP) (h:j≠i):ff pv i V j=pv j:=by
 have:Nat.beq j i=false:=by rw [abx];intro h2;exact h (Nat.eq_of_beq_eq_true h2)
 simp only [ff,this,cond_false]
theorem kP {V V':Nat→VP}{ρ ρ1:Rf}{w1:World} (h:∀j v w,V j v w→V' j v w):∀s,dp V ρ ρ1 w1 s→dp V' ρ ρ1 w1 s
 |[],_=>trivial
 |(_,some _)::r,hh=>⟨h _ _ _ hh.1,kP h r hh.2⟩
 |(_,none)::r,hh=>⟨hh.1,kP h r hh.2⟩
theorem B7 {P:Program}{ops:Array Oper}{J:World→Prop}{ρ:Rf}{T:(Nat→VP)→Prop}:∀(os:List Oper) (ss:List (List (Nat×Option Nat))) (i:Nat) (pv:Nat→VP),(∀j,i≤j→∀v w,pv j v w)→DX P ops J ρ T i pv os ss→
  ∃V,(∀j,j<i→V j=pv j)∧DO P ops J V ρ i os ss∧T V
 |[],[],_,pv,_,h=>⟨pv,fun _ _=>rfl,trivial,h⟩
 |[],_::_,_,_,_,h=>h.elim
 |_::_,[],_,_,_,h=>h.elim
 |o::os,s::ss,i,pv,hpv,⟨V,h1,h2,h3⟩=>by
  obtain ⟨V',h4,h5,h6⟩:=B7 os ss (i+1) (ff pv i V) (fun j hj v w=>by rw [lQ _ _ Yo];exact hpv j Yo v w) h3;have e:V' i=V:=by rw [h4 i Yo,A0]
  refine ⟨V',fun j hj=>by rw [h4 j Yo,lQ _ _ Yo],⟨⟨?_, ?_⟩,h5⟩,h6⟩
  ·rw [e];exact h1
  ·intro ρ1 w1 hj hr;rw [e];refine h2 ρ1 w1 hj (kP (fun j v w hh=> ?_) s hr)
   rcases Zb j i with hlt|hge
   ·rw [h4 j Yo,lQ _ _ Yo] at hh;exact hh
   ·exact hpv j hge v w
theorem aK {Q:Kq}{id:Nat}{l:List Oper} (m:Nat) (src:List (List (Nat×Option Nat))) (ds:List (Nat×Nat)) {H:List HE} (hh:Hp w0 H w) (hm:P.follows .mixedOrders=true) (hok:Fa l m N src ds=true)
  (h:DX P l.toArray (JJ w0 H w) ρ (fun V=>∀f w',JJ w0 H w w'→ub V f w' ds→WL ⟨none,D,false⟩ P N l.toArray Q (l.drop m) (ix ρ f ds) w') 0 UU (l.take m) src):WC ⟨none,D,false⟩ P N (.region id l.toArray true) Q ρ w:=by
 obtain ⟨V,_,h1,h2⟩:=B7 _ _ _ _ (fun _ _ _ _=>trivial) h;exact Qo m src ds (JJ w0 H w) V hm hok (fun _ _ h hb=>h.ext hb) (JJ.start hh) h1 h2
variable {P:Program}{ops:Array Oper}{J:World→Prop}{ρ:Rf}{T:(Nat→VP)→Prop}{i:Nat}{pv:Nat→VP}{os:List Oper}{s:List (Nat×Option Nat)}{ss:List (List (Nat×Option Nat))}{d:Option Nat}{op:Op}{ty:TypeId}{pos:String}{af:Array Edge}
theorem aH (h:T pv):DX P ops J ρ T i pv [] []:=h
theorem a7 {o:Oper} (V:VP) (h1:∀v w w',V v w→Below w.heap.size w w'→V v w') (h2:∀ρ1 w1,J w1→dp (pv) ρ ρ1 w1 s→OG P ops o ρ1 w1 fun v w2=>Below w1.heap.size w1 w2∧V v w2)
  (k:DX P ops J ρ T (i+1) (ff pv i (V)) os ss):DX P ops J ρ T i pv (o::os) (s::ss):=⟨V,h1,h2,k⟩
theorem bB {v:Value} (hr:∀ρ1 w1,J w1→dp (pv) ρ ρ1 w1 s→(execOp (ev ρ1) ⟨d,op,ty,pos,af,none⟩).run P w1=.ok (.value v) w1)
  (k:DX P ops J ρ T (i+1) (ff pv i (Is v)) os ss):DX P ops J ρ T i pv (⟨d,op,ty,pos,af,none⟩::os) (s::ss):=
 a7 (Is v) Is.ext (fun ρ1 w1 hj h=>fI rfl (hr ρ1 w1 hj h) ⟨Below.refl _ _,rfl⟩) k
theorem Pu {v:Value}{f:FuncId}{args:Array Value} (hr:∀ρ1 w1,J w1→dp (pv) ρ ρ1 w1 s→(execOp (ev ρ1) ⟨d,op,ty,pos,af,none⟩).run P w1=.ok (.enter f args) w1)
  (hc:∀w1,J w1→Calls P f args w1 fun e w'=>e=.returned v∧Below w1.heap.size w1 w')
  (k:DX P ops J ρ T (i+1) (ff pv i (Is v)) os ss):DX P ops J ρ T i pv (⟨d,op,ty,pos,af,none⟩::os) (s::ss):=
 a7 (Is v) Is.ext (fun ρ1 w1 hj h=>bV rfl (hr ρ1 w1 hj h) (hc w1 hj) fun _ _ hq=>⟨v,hq.1,hq.2,rfl⟩) k
def Rows (n k:Nat) (cs:List Value):VP:=fun v W=>∃A c,v=.slice A n c∧Sl W A n k cs
theorem Rows.ext (v:Value) (w w':World) (h:Rows n k cs v w) (hb:Below w.heap.size w w'):Rows n k cs v w':=let ⟨A,c,h1,h2⟩:=h;⟨A,c,h1,h2.ext hb⟩
theorem xM {t e:TypeId}{len sz:Nat} (ht:P.underlying t=some (.slice e)) (hte:eu P e=some (sz,ag,by',zc))
  (hp:∀ρ1 w1,J w1→dp (pv) ρ ρ1 w1 s→BR ρ1 parts.toList=ps) (hzl:zc.length=sz) (hf:mj (fun i=>some (i*sz,sz)) (iK len zc) ps=some cs) (h0:¬len*sz=0) (hsl:len*sz≤16777216) (hl:cs.length=len*sz)
  (k:DX P ops J ρ T (i+1) (ff pv i (Rows len sz cs)) os ss):DX P ops J ρ T i pv (⟨d,.buildSlice t len parts,ty,pos,af,none⟩::os) (s::ss):=
 a7 (Rows len sz cs) Rows.ext (fun ρ1 w1 hj h=>lW ht hte (hp ρ1 w1 hj h) hzl hf h0 hsl hl fun _ _ ⟨_,hv,hs⟩ hb=>⟨hb,_,_,hv,hs⟩) k
theorem Bs {b:Bool}{v:Value} (hj:(ops[j]?).bind (·.dst)=some dj) (hv:∀ρ1 w1,J w1→dp (pv) ρ ρ1 w1 s→ρ1 dj=.bool b)
  (hr:∀ρ1 w1,J w1→dp (pv) ρ ρ1 w1 s→(execOp (ev ρ1) ⟨d,op,ty,pos,af,none⟩).run P w1=.ok (.value v) w1)
  (k:DX P ops J ρ T (i+1) (ff pv i (Is v)) os ss):DX P ops J ρ T i pv (⟨d,op,ty,pos,af,some (j,b)⟩::os) (s::ss):=
 a7 (Is v) Is.ext (fun ρ1 w1 hj' h=>eN hj (hv ρ1 w1 hj' h) (fI rfl (hr ρ1 w1 hj' h) ⟨Below.refl _ _,rfl⟩)) k
theorem eR {b:Bool}{v:Value}{f:FuncId}{args:Array Value} (hj:(ops[j]?).bind (·.dst)=some dj) (hv:∀ρ1 w1,J w1→dp (pv) ρ ρ1 w1 s→ρ1 dj=.bool b)
  (hr:∀ρ1 w1,J w1→dp (pv) ρ ρ1 w1 s→(execOp (ev ρ1) ⟨d,op,ty,pos,af,none⟩).run P w1=.ok (.enter f args) w1)
  (hc:∀w1,J w1→Calls P f args w1 fun e w'=>e=.returned v∧Below w1.heap.size w1 w')
  (k:DX P ops J ρ T (i+1) (ff pv i (Is v)) os ss):DX P ops J ρ T i pv (⟨d,op,ty,pos,af,some (j,b)⟩::os) (s::ss):=
 a7 (Is v) Is.ext (fun ρ1 w1 hj' h=>eN hj (hv ρ1 w1 hj' h) (bV rfl (hr ρ1 w1 hj' h) (hc w1 hj') fun _ _ hq=>⟨v,hq.1,hq.2,rfl⟩)) k
theorem pd {b c:Bool} (hj:(ops[j]?).bind (·.dst)=some dj) (hv:∀ρ1 w1,J w1→dp (pv) ρ ρ1 w1 s→ρ1 dj=.bool c) (hb:c≠b)
  (k:DX P ops J ρ T (i+1) (ff pv i (Is undef)) os ss):DX P ops J ρ T i pv (⟨d,op,ty,pos,af,some (j,b)⟩::os) (s::ss):=
 a7 (Is undef) Is.ext (fun ρ1 w1 hj' h=>xQ hj (hv ρ1 w1 hj' h) hb ⟨Below.refl _ _,rfl⟩) k
end
end
def aA {α:Type} (f:α→List Value) (l:List α):List Value:=l.flatMap f
section
variable {α:Type}{f:α→List Value}{sz:Nat}
theorem fj (hf:∀x,(f x).length=sz) (l:List α):(aA f l).length=l.length*sz:=by
 induction l with
 |nil=>simp [aA]
 |cons x l ih=>
  have:aA f (x::l)=f x++aA f l:=by simp [aA]
  rw [this,YE,hf,ih,Y3,ZA];omega
theorem iV (x:α) (l:List α):aA f (x::l)=f x++aA f l:=by simp [aA]
theorem bM (l m:List α):aA f (l++m)=aA f l++aA f m:=by simp [aA]
theorem rA (x:α):aA f [x]=f x:=by simp [aA]
theorem iS (hf:∀x,(f x).length=sz) (l:List α) (k:Nat):(aA f l).drop (k*sz)=aA f (l.drop k):=by
 induction l generalizing k with
 |nil=>simp [aA]
 |cons x l ih=>
  cases k with
  |zero=>simp
  |succ k=>rw [iV,ZA,aat,←hf x,List.drop_append,List.drop_succ_cons,←ih k,hf x];simp [hf x]
theorem jw (hf:∀x,(f x).length=sz) (l:List α) (k:Nat):(aA f l).take (k*sz)=aA f (l.take k):=by
 induction l generalizing k with
 |nil=>simp [aA]
 |cons x l ih=>
  cases k with
  |zero=>simp [aA]
  |succ k=>rw [iV,ZA,aat,abq,iV,←ih k,←hf x,List.take_append];simp;exact YC (Nat.le_add_right _ _)
theorem vN (hf:∀x,(f x).length=sz) {l:List α}{x:α} (h:l[k]?=some x):((aA f l).drop (k*sz)).take sz=f x:=by
 obtain ⟨h1,h2⟩:=YL.1 h;rw [iS hf,aal h1,h2,iV,List.take_append_of_le_length (by rw [hf];omega),YC (by rw [hf];omega)]
theorem Rd.recAt {l:List α} (h:Rd w ad (aA f l)) (hf:∀x,(f x).length=sz) {x:α} (hx:l[k]?=some x):Rd w (ad.add (k*sz)) (f x):=by
 have:=h.elem k sz;rwa [vN hf hx] at this
theorem Sl.bk {A:Option Addr}{l:List α} (h:Sl w A n sz (aA f l)) (hf:∀x,(f x).length=sz) (h0:0<sz):l.length=n:=by
 have:=h.1;rw [fj hf] at this;exact Nat.eq_of_mul_eq_mul_right h0 this
theorem eX (hf:∀x,(f x).length=sz) {l:List α}{y:α} (h:k<l.length):cm (aA f l) (k*sz) (f y)=aA f (l.set k y):=by
 unfold cm;rw [jw hf,hf,←ZA,iS hf,abO,Yt h,bM,iV,Y5]
theorem bK (h:∀x,(f x).all Value.oneCell'=true) (l:List α):((aA f l).all Value.oneCell')=true:=by
 rw [Y0];intro v hv;obtain ⟨x,_,hx⟩:=aak.1 hv;exact Y0.1 (h x) v hx
end
theorem im {l:List α}{x:α} (h:l[k]?=some x):l.drop k=x::l.drop (k+1):=by
 obtain ⟨h1,rfl⟩:=YL.1 h;exact aal h1
theorem j6 {p:α→Bool}{l:List α} (h:l.any p=false):l.find? p=none:=by
 rw [List.find?_eq_none];intro x hx;have:=aab.1 h x hx;simpa using this
theorem r6 {p:α→Bool}{l:List α}{i:Nat}{x:α} (h:(l.take i).any p=false) (hx:l[i]?=some x) (hp:p x=true):l.find? p=some x:=by
 have:l=l.take i++x::l.drop (i+1):=by rw [←im hx,Zy]
 rw [this,List.find?_append,j6 h,List.find?_cons_of_pos hp]
 rfl
section
variable {D:List Deferred}
section
variable {P:Program}{N:Nat}{Q:Kq}{ρ:Rf}{w:World}
def pI (acc:List Nat):List Edge→Nat
 |[]=>0
 |e::r=>bif Region.binds .any e then 1<<<e.on|||acc.getD e.on 0|||pI acc r else pI acc r
def vj:List Oper→List Nat→List Nat
 |[],acc=>acc
 |o::r,acc=>vj r (acc++[pI acc o.after.toList])
theorem pR {acc:List Nat}{i:Nat}:∀{es:List Edge},(pI acc es).testBit i=true→∃e∈es,Region.binds .any e=true∧(e.on=i∨(acc.getD e.on 0).testBit i=true)
 |[],h=>by simp [pI] at h
 |e::r,h=>by
  unfold pI at h
  cases hb:Region.binds .any e with
  |false=>
   rw [hb,cond_false] at h;obtain ⟨e',h1,h2⟩:=pR h;exact ⟨e',YK _ h1,h2⟩
  |true=>
   rw [hb,cond_true,Nat.testBit_or,Nat.testBit_or,aaL,aaL] at h
   rcases h with (h|h)|h
   ·refine ⟨e,YD,hb,.inl ?_⟩;rw [Nat.one_shiftLeft,Nat.testBit_two_pow] at h;simpa using h
   ·exact ⟨e,YD,hb,.inr h⟩
   ·obtain ⟨e',h1,h2⟩:=pR h;exact ⟨e',YK _ h1,h2⟩
theorem B0:∀(l:List Oper) (acc:List Nat),∃t,vj l acc=acc++t
 |[],acc=>⟨[],by simp [vj]⟩
 |o::r,acc=>by
  obtain ⟨t,h⟩:=B0 r (acc++[pI acc o.after.toList]);exact ⟨_,by rw [vj,h,Y5]⟩
theorem Ia:∀(l:List Oper) (acc:List Nat) (k i:Nat),acc.length≤k→((vj l acc).getD k 0).testBit i=true→∃o,l[k-acc.length]?=some o∧∃e∈o.after,Region.binds .any e=true∧(e.on=i∨e.on<k∧((vj l acc).getD e.on 0).testBit i=true)
 |[],acc,k,i,hk,h=>by
  rw [vj,aao,YQ hk] at h;simp at h
 |o::r,acc,k,i,hk,h=>by
  rcases Zb acc.length k with hlt|hge
  ·have hl:(acc++[pI acc o.after.toList]).length=acc.length+1:=by simp
   obtain ⟨o',h1,h2⟩:=Ia r (acc++[pI acc o.after.toList]) k i Yo h;refine ⟨o', ?_,h2⟩;rw [hl] at h1;rw [show k-acc.length=(k-(acc.length+1))+1 by omega,abe];exact h1
  ·obtain rfl:k=acc.length:=Yo;obtain ⟨t,ht⟩:=B0 r (acc++[pI acc o.after.toList]);refine ⟨o,by rw [Zn];rfl, ?_⟩;rw [vj,ht] at h ⊢;rw [aao,Y5,ZC (YA _),Zn] at h;simp only [YB,abh,ZO,Yz] at h;obtain ⟨e,h1,h2,h3⟩:=pR h;refine ⟨e,by simpa using h1,h2, ?_⟩
   rcases h3 with h3|h3
   ·exact .inl h3
   ·have h4:e.on<acc.length:=by
     rcases Zb e.on acc.length with h5|h5
     ·exact h5
     ·rw [aao,YQ h5] at h3;simp at h3
    refine .inr ⟨h4, ?_⟩;rw [aao,Y5,aav h4,←aao];exact h3
theorem jc {l:List Oper}{L:Array Bool} (hM:vj l []=M) (hc:sE l.toArray L):∀(k i:Nat),(∀o,l.toArray[k]?=some o→∀e∈o.after,Region.binds .any e=true→L.getD e.on false=true)→(M.getD k 0).testBit i=true→L.getD i false=true:=by
 intro k
 induction k using Nat.strongRecOn with
 |_ k ih=>
  intro i hk h;rw [←hM] at h;obtain ⟨o,ho,e,he,hb,h3⟩:=Ia l [] k i (Yx _) h;have ho':l.toArray[k]?=some o:=by rw [aar];exact ho
  have h1:=hk o ho' e he hb
  rcases h3 with h3|⟨h3,h4⟩
  ·rw [←h3];exact h1
  ·rw [hM] at h4;exact ih e.on h3 i (fun o' ho2=>hc e.on o' ho2 h1) h4
def Wr (n m:Nat) (fl:List Nat):Array Bool:=((List.range n).map fun i=>decide (i<m∧i∉fl)).toArray
theorem OR {i:Nat}{fl:List Nat} (hi:i<n):(Wr n m fl).getD i true=decide (i<m∧i∉fl):=by
 unfold Wr;rw [ZL,aar,YJ,ZF hi]
 rfl
def NP (Q:Kq):Prop:=∀c ρ w,¬Q (.panic c) ρ w
theorem cz {fn:Func}:NP (oC P fn R):=fun _ _ _ h=>h.1.elim nofun nofun
theorem bR (h:NP Q):NP (cM next Q):=fun c ρ w hq=>h c ρ w hq
theorem cG {id:Nat} (h:NP Q):NP (qo id Q):=fun c ρ w hq=>h c ρ w hq
def wN:Op→Bool
 |.extract _ _=>true
 |.move _=>true
 |_=>false
def Uc (l:List Oper) (m:Nat) (fl:List Nat) (i:Nat):Bool:=
 Region.free .any l.toArray (Wr l.length m fl) i && match l[i]? with
  |some ⟨some _,op,_,_,af,none⟩=>wN op && af.all fun e=> !Region.binds .any e||(decide (e.on<m) && !fl.contains e.on)
  |_=>false
theorem Kk {l:List Oper}{fl:List Nat}{i:Nat} (h:Uc l m fl i=true):Region.free .any l.toArray (Wr l.length m fl) i=true∧(∀o,l[i]?=some o→∀e∈o.after,Region.binds .any e=true→e.on<m∧e.on∉fl)∧
  ∃d op ty pos af,l[i]?=some ⟨some d,op,ty,pos,af,none⟩∧wN op=true:=by
 unfold Uc at h;rw [YP] at h;obtain ⟨h1,h2⟩:=h;split at h2
 ·rename_i d op ty pos af ho;rw [YP] at h2;obtain ⟨hpu,h2⟩:=h2;refine ⟨h1,fun o ho' e he hb=> ?_,d,op,ty,pos,af,ho,hpu⟩;rw [ho] at ho';injection ho' with ho'
  subst ho';have:=abJ.1 h2 e he;simp only [hb,abb,Zd,YP,YX,abw,List.contains_eq_mem,abL] at this;exact this
 ·cases h2
def lI (l:List Oper) (m N:Nat) (src:List (List (Nat×Option Nat))) (ds:List (Nat×Nat)) (fl M:List Nat):Bool:=
 let ops:=l.toArray
 let pre:=(List.range m).map fun i=>((ops[i]?).bind (·.dst))
 (m≤l.length) && (src.length==m) &&
 (ds==(pre.zipIdx.filterMap fun (d,i)=>d.map fun d=>(i,d)).reverse) && (decide (ds.map (·.2)).Nodup) && (ds.all fun p=>p.2<N) &&
 ((List.range m).all fun i=>match ops[i]?,src[i]? with
  |some o,some s=>((o.looksAt ops).all fun t=>s.any fun p=>p.1==t) &&
    s.all fun p=>match p.2 with
     |some j=>(j<m) && ((ops[j]?).bind (·.dst)==some p.1) && (M.getD i 0).testBit j
     |none=>(List.range m).all fun j=> !((ops[j]?).bind (·.dst)==some p.1)||(j !=i && (M.getD j 0).testBit i)
  |_,_=>false) &&
 (l.length==m||((List.range m).all fun i=>fl.contains i||(M.getD m 0).testBit i)) &&
 ((List.range (l.length-m)).all fun k=>Region.ready .any ops (jY l.length (m+k))==[m+k]) && (Region.ready .any ops (jY l.length l.length)==[]) &&
 ((List.range (l.length-m)).all fun k=>k==0||(M.getD (m+k) 0).testBit m) &&
 ((List.range l.length).all fun i=>match ops[i]? with|some o=>o.after.all fun e=> !Region.binds .any e||e.on<i|none=>false) &&
 Region.noSelect ops && (fl.all fun i=>Uc l m fl i) && (vj l []==M)
def wb (P:Program) (l:List Oper):List Nat→Prop
 |[]=>True
 |i::r=>(∃d t ty pos af n ag by' zc,l[i]?=some ⟨some d,.alloc t,ty,pos,af,none⟩∧eu P t=some (n,ag,by',zc))∧wb P l r
theorem wb.at {l:List Oper}:∀{fr:List Nat},wb P l fr→∀i∈fr,∃d t ty pos af n ag by' zc,l[i]?=some ⟨some d,.alloc t,ty,pos,af,none⟩∧eu P t=some (n,ag,by',zc)
 |[],_,_,hi=>by simp at hi
 |j::r,h,i,hi=>by
  rcases YH.1 hi with rfl|hi
  ·exact h.1
  ·exact wb.at h.2 i hi
theorem eI {l:List Oper}:wb P l []:=trivial
theorem j3 {l:List Oper}{i d t ty:Nat}{af:Array Edge}{r:List Nat} (h:l[i]?=some ⟨some d,.alloc t,ty,pos,af,none⟩) (ht:eu P t=some (n,ag,by',zc)) (hr:wb P l r):wb P l (i::r):=⟨⟨d,t,ty,pos,af,n,ag,by',zc,h,ht⟩,hr⟩
theorem N5 {d:Nat}{t ty:Nat}{af:Array Edge} (ht:eu P t=some (n,ag,by',zc)) (h:OG P ops ⟨some d,.alloc t,ty,pos,af,none⟩ ρ w K)
  (a:Act) (hd:d<a.tmps.size) (next:Act→World→Prop) (Q:Exit→Act→World→Prop) (ha:∀i,a.tmps.getD i undef=ρ i) (hn:∀v w',K v w'→(∃b,v=.pointer (some ⟨b,0,none⟩)∧w.heap.size≤b∧b<w'.heap.size)→next (a.put (some d) v) w'):
  if Region.wanted ⟨some d,.alloc t,ty,pos,af,none⟩ (yielded ops a.tmps) then (Oper.wp P ⟨some d,.alloc t,ty,pos,af,none⟩ a w next Q)∨((Oper.asks P ⟨some d,.alloc t,ty,pos,af,none⟩ a w)∧LetsOut Q) else next (a.put (some d) undef) w:=by
 have h1:=h.out a (fun a' w'=>∃v,a'=a.put (some d) v∧K v w') Q ha fun v w' hk=>⟨v,rfl,hk⟩;have hw:Region.wanted ⟨some d,.alloc t,ty,pos,af,none⟩ (yielded ops a.tmps)=true:=by simp [Region.wanted]
 rw [Yt hw] at h1 ⊢;refine h1.imp (fun h2=> ?_) id;obtain ⟨z,hz,hzc⟩:=fF (w:=w) ht;have hr:(execOp a.eval ⟨some d,.alloc t,ty,pos,af,none⟩).run P w=.ok (.value (.pointer (some ⟨w.heap.size,0,none⟩))) (w.alloc (.cells zc.toArray t)):=by simp [execOp,Instr.alloc,newVar,newRow,hz,hzc]
 unfold Oper.wp at h2 ⊢;rw [hr] at h2 ⊢;obtain ⟨v,hv,hk⟩:∃v,a.put (some d) (.pointer (some ⟨w.heap.size,0,none⟩))=a.put (some d) v∧K v (w.alloc (.cells zc.toArray t)):=h2;have h3:=Ze (fun a':Act=>a'.tmps.getD d undef) hv;simp only [eH hd,Yt] at h3;subst h3;exact hn _ _ hk ⟨_,rfl,YA _,(aa9.1 (heap_alloc_new w _)).1⟩
theorem DT {x:Operand}{ty d:Nat}{af:Array Edge} (f:Operand→Value) (w:World):(∃v,∀w',(execOp f ⟨some d,.extract x k,ty,pos,af,none⟩).run P w'=.ok (.value v) w')∨∀a K,Oper.upon P ⟨some d,.extract x k,ty,pos,af,none⟩ a K (fun _ _ _=>False) ((execOp f ⟨some d,.extract x k,ty,pos,af,none⟩).run P w)→False:=by
 cases hx:f x with
 |tuple xs=>
  cases hk:xs[k]? with
  |some v=>exact .inl ⟨v,fun w'=>by simp [execOp,hx,Instr.extract,hk]⟩
  |none=>exact .inr fun a K h=>by simp [execOp,hx,Instr.extract,hk,Oper.upon] at h
 |_=>exact .inr fun a K h=>by simp [execOp,hx,Instr.extract,Oper.upon] at h
theorem pure_run {op:Op} (hp:wN op=true) {ty d:Nat}{af:Array Edge} (f:Operand→Value) (w:World):(∃v,∀w',(execOp f ⟨some d,op,ty,pos,af,none⟩).run P w'=.ok (.value v) w')∨∀a K,Oper.upon P ⟨some d,op,ty,pos,af,none⟩ a K (fun _ _ _=>False) ((execOp f ⟨some d,op,ty,pos,af,none⟩).run P w)→False:=by
 unfold wN at hp;split at hp
 ·exact DT f w
 ·exact .inl ⟨_,fun w'=>by simp [execOp];rfl⟩
 ·cases hp
theorem CU {d:Nat}{op:Op} (hp:wN op=true) {ty:Nat}{af:Array Edge} (h:OG P ops ⟨some d,op,ty,pos,af,none⟩ ρ w K) (a:Act) (hd:d<a.tmps.size) (ha:∀i,a.tmps.getD i undef=ρ i):
  ∃v,(∀w',(execOp a.eval ⟨some d,op,ty,pos,af,none⟩).run P w'=.ok (.value v) w')∧K v w:=by
 have h1:=h.out a (fun a' w'=>∃v,a'=a.put (some d) v∧K v w') (fun _ _ _=>False) ha fun v w' hk=>⟨v,rfl,hk⟩;rw [Yt (by simp [Region.wanted])] at h1
 rcases h1 with h1|⟨_,_,_,h1⟩
 ·unfold Oper.wp at h1
  rcases pure_run (P:=P) hp (d:=d) (ty:=ty) (pos:=pos) (af:=af) a.eval w with ⟨v,hv⟩|hn
  ·rw [hv w] at h1;obtain ⟨v',h2,hk⟩:∃v',a.put (some d) v=a.put (some d) v'∧K v' w:=h1;have h3:=Ze (fun a':Act=>a'.tmps.getD d undef) h2;simp only [eH hd,Yt] at h3;subst h3;exact ⟨v,hv,hk⟩
  ·exact (hn _ _ h1).elim
 ·exact h1.elim
structure Wu (D:List Deferred) (fr:List Nat) (N:Nat) (ops:Array Oper) (m:Nat) (ρ:Rf) (J:World→Prop) (V:Nat→Value→World→Prop) (L:Array Bool) (a:Act) (w:World):Prop where
 nd:a.defers=D
 sz:a.tmps.size=N
 j:J w
 ls:L.size=ops.size
 cl:sE ops L
 tl:∀k,m≤k→L.getD k false=false
 vs:∀i d,i<m→L.getD i false=true→(ops[i]?).bind (·.dst)=some d→V i (a.tmps.getD d undef) w
 old:∀s,(∀i,i<m→L.getD i false=true→(ops[i]?).bind (·.dst)≠some s)→a.tmps.getD s undef=ρ s
 fb:∀i∈fr,L.getD i false=true→∀d,(ops[i]?).bind (·.dst)=some d→∃b,a.tmps.getD d undef=.pointer (some ⟨b,0,none⟩)∧b<w.heap.size
 fd:∀i∈fr,∀j∈fr,i≠j→L.getD i false=true→L.getD j false=true→∀d e,(ops[i]?).bind (·.dst)=some d→(ops[j]?).bind (·.dst)=some e→a.tmps.getD d undef≠a.tmps.getD e undef
theorem LH {id:Nat}{l:List Oper} (fr fl M:List Nat) (m:Nat) (src:List (List (Nat×Option Nat))) (ds:List (Nat×Nat)) (J:World→Prop) (V:Nat→Value→World→Prop) (hm:P.follows .mixedOrders=true) (hok:lI l m N src ds fl M=true) (hfr:wb P l fr) (hfm:fr.all (fun i=>i<m)=true) (hQp:NP Q)
  (hJ:∀w w',J w→Below w.heap.size w w'→J w') (h0:J w) (hops:DO P l.toArray J V ρ 0 (l.take m) src)
  (tail:∀f w',J w'→ub V f w' ds→(∀i∈fr,∀j∈fr,i≠j→f i≠f j)→WL ⟨none,D,false⟩ P N l.toArray Q (l.drop m) (ix ρ f ds) w'):WC ⟨none,D,false⟩ P N (.region id l.toArray true) Q ρ w:=by
 refine WC.nU fun a hf=>wp_region_any hm ?_;simp only [lI,YP,YX,Z6,Y0,Zi] at hok;obtain ⟨⟨⟨⟨⟨⟨⟨⟨⟨⟨⟨⟨⟨hml,_⟩,hds⟩,hnd⟩,hdN⟩,hrd⟩,htail⟩,hready⟩,hend⟩,hdep⟩,hedge⟩,hns⟩,hflo⟩,hM⟩:=hok;have hfl:=fun i hi=>Kk (hflo i hi);have hdo:=(zA _ _ _ hops).2;have hpre:∀i d,i<m→((l.toArray[i]?).bind (·.dst))=some d→(i,d)∈ds:=fun i d hi hd=>by
  exact PM
 have hdsm:∀i d,(i,d)∈ds→i<m∧((l.toArray[i]?).bind (·.dst))=some d:=fun i d hp=>by
  exact O8
 have hone:∀i j d,i<m→j<m→((l.toArray[i]?).bind (·.dst))=some d→((l.toArray[j]?).bind (·.dst))=some d→i=j:=fun i j d hi hj h1 h2=>by
  exact Qg
 have hnn:l.toArray.size=l.length:=by simp
 have hfm':∀i∈fr,i<m:=fun i hi=>by simpa using Y0.1 hfm i hi
 have full:∀(L:Array Bool) (a:Act) (w:World) (fuel:Nat),Wu D fr N l.toArray m ρ J V L a w→(∀i,i<m→L.getD i false=true)→l.length≤fuel+m→wpAny P .any l.toArray (dO N D Q) fuel L a w:=by
  intro L a w fuel hI hall hfu;have hL:L=jY l.length m:=uq (by rw [hI.ls,hnn]) hml hall hI.tl;rw [hL];refine om m (fun k h1 h2=> ?_) hend fuel m a w (YA _) hml hfu ?_
  ·exact N9
  ·have hfits:fL N D a (ix ρ (fun i=>match (l.toArray[i]?).bind (·.dst) with|some d=>a.tmps.getD d undef|none=>undef) ds):=by
    exact TK
   refine (tail _ w hI.j (qO ds fun p hp=> ?_) fun i hi j hj hij=> ?_).out a hfits
   rotate_left
   ·obtain ⟨d,t,ty,pos,af,n,ag,by',zc,hi1,_⟩:=hfr.at i hi;obtain ⟨e,t',ty',pos',af',n',ag',by'',zc',hj1,_⟩:=hfr.at j hj;have hi2:(l.toArray[i]?).bind (·.dst)=some d:=by rw [aar,hi1];rfl
    have hj2:(l.toArray[j]?).bind (·.dst)=some e:=by rw [aar,hj1];rfl
    rw [hi2,hj2];exact hI.fd i hi j hj hij (hall i (hfm' i hi)) (hall j (hfm' j hj)) d e hi2 hj2
   obtain ⟨h1,h2⟩:=hdsm p.1 p.2 hp;exact Mb
 have key:∀(fuel:Nat) (L:Array Bool) (a:Act) (w:World),Wu D fr N l.toArray m ρ J V L a w→fuel+L.toList.countP (fun b=>b)=l.length→wpAny P .any l.toArray (dO N D Q) fuel L a w:=by
  intro fuel
  induction fuel with
  |zero=>
   exact Tq
  |succ fuel ih=>
   intro L a w hI hc;by_cases hall:∀i,i<m→L.getD i false=true
   ·exact Ut
   ·have hsome:∃i,i<m∧L.getD i false=false:=by
     exact T8
    have hready_spec:∀i,i∈Region.ready .any l.toArray L↔i<l.length∧L.getD i true=false∧∃o,l.toArray[i]?=some o∧∀e∈o.after,Region.binds .any e=true→L.getD e.on false=true:=fun i=>by
     exact QM
    have both:∀(i:Nat) (_:i<m) (o:Oper) (_:l.toArray[i]?=some o) (_:L.getD i false=false) (_:∀e∈o.after,Region.binds .any e=true→L.getD e.on false=true),
      OG P l.toArray o (fun t=>a.tmps.getD t undef) w (fun v w2=>Below w.heap.size w w2∧V i v w2)∧
      ∀v w2,(Below w.heap.size w w2∧V i v w2)→(i∈fr→∃b,v=.pointer (some ⟨b,0,none⟩)∧w.heap.size≤b∧b<w2.heap.size)→wpAny P .any l.toArray (dO N D Q) fuel (L.setIfInBounds i true) (a.put o.dst v) w2:=fun i him o ho hun' hed=>by
     have hiL:i<L.size:=by rw [hI.ls,hnn];omega
     have hed':∀o',l.toArray[i]?=some o'→∀e∈o'.after,Region.binds .any e=true→L.getD e.on false=true:=fun o' ho'=>by
      rw [ho] at ho';injection ho' with ho';subst ho';exact hed
     have hok':(l.take m)[i]?=some o:=by
      rw [ZX,Yt him];simpa using ho
     obtain ⟨s,hs,hstab,hog⟩:=hdo i o hok';rw [YZ] at hstab hog;have hrdi:=hrd i him;rw [ho,hs] at hrdi;simp only [YP,Y0] at hrdi;have hro:dp V ρ (fun t=>a.tmps.getD t undef) w s:=pb s fun p hp=>by
      have hp2:=hrdi.2 p hp
      cases hp3:p.2 with
      |some j=>
       rw [hp3] at hp2;simp only [YP,YX,Z6] at hp2;exact hI.vs j p.1 hp2.1.1 (jc hM hI.cl i j hed' hp2.2) hp2.1.2
      |none=>
       rw [hp3] at hp2;refine hI.old p.1 fun j hj hjl hjd=> ?_;have h6:=Y0.1 hp2 j (by simpa using hj);rw [hjd] at h6;simp only [beq_self_eq_true,abb,Zd,YP] at h6;have:=jc hM hI.cl j i (fun o' ho' e he hb=>hI.cl j o' ho' hjl e he hb) h6.2;rw [hun'] at this
       cases this
     have hnext:∀v w2,(Below w.heap.size w w2∧V i v w2)→(i∈fr→∃b,v=.pointer (some ⟨b,0,none⟩)∧w.heap.size≤b∧b<w2.heap.size)→wpAny P .any l.toArray (dO N D Q) fuel (L.setIfInBounds i true) (a.put o.dst v) w2:=fun v w2 hv hfv=>by
      have hd1:∀d',o.dst=some d'→d'<a.tmps.size:=fun d' hd'=>by
       rw [hI.sz];exact hdN (i,d') (hpre i d' him (by rw [ho];exact hd'))
      have hput:∀j d,j<m→j≠i→(l.toArray[j]?).bind (·.dst)=some d→(a.put o.dst v).tmps.getD d undef=a.tmps.getD d undef:=fun j d hj hji hjd=>by
       cases hod:o.dst with
       |none=>rfl
       |some d'=>rw [eH (hd1 d' hod),Yu fun e=>hji (hone j i d hj him hjd (by rw [ho,e];exact hod))]
      have hputi:∀d,(l.toArray[i]?).bind (·.dst)=some d→(a.put o.dst v).tmps.getD d undef=v:=fun d hd=>by
       rw [ho] at hd;simp only [aaE] at hd;rw [hd,eH (hd1 d hd),Yt rfl]
      have hfd:∀j∈fr,j≠i→L.getD j false=true→i∈fr→∀e,(l.toArray[j]?).bind (·.dst)=some e→a.tmps.getD e undef≠v:=fun j hj hji hjl hif e hje heq=>by
       obtain ⟨b,hb1,hb2⟩:=hI.fb j hj hjl e hje;obtain ⟨b',hv1,hb3,_⟩:=hfv hif;rw [hb1,hv1] at heq;injection heq with heq
       injection heq with heq
       injection heq with heq
       omega
      refine ih _ _ _ ?_ ?_
      ·refine ⟨?_, ?_,hJ _ _ hI.j hv.1,by simpa using hI.ls, ?_, ?_, ?_, ?_, ?_, ?_⟩
       ·cases o.dst<;>exact hI.nd
       ·cases hod:o.dst with
        |none=>exact hI.sz
        |some d=>simpa [Act.put] using hI.sz
       ·intro k ok hk hkl e he hb;rw [cS hiL] at hkl ⊢;by_cases hki:k=i
        ·subst hki;simp [hed' ok hk e he hb]
        ·simp only [hki,decide_false,Zd] at hkl;simp [hI.cl k ok hk hkl e he hb]
       ·intro k hk;rw [cS hiL,hI.tl k hk];have:¬k=i:=Yo;simp [this]
       ·intro j d hj hjl hjd;rw [cS hiL] at hjl;have hd1:∀d',o.dst=some d'→d'<a.tmps.size:=fun d' hd'=>by
         rw [hI.sz];exact hdN (i,d') (hpre i d' him (by rw [ho];exact hd'))
        by_cases hji:j=i
        ·subst hji;rw [ho] at hjd;simp only [aaE] at hjd;rw [hjd,eH (hd1 d hjd),Yt rfl];exact hv.2
        ·simp only [hji,decide_false,Zd] at hjl;have hold:=hI.vs j d hj hjl hjd;have hdj:(j,d)∈ds:=hpre j d hj hjd;have hst:=(hdo j (l.toArray[j]?.getD default) (by
          have:j<l.length:=Yo;rw [ZX,Yt hj];simp [this])).choose_spec.2.1
         rw [YZ] at hst;have hne:∀d',o.dst=some d'→d≠d':=fun d' hd' e=>by
          subst e;exact hji (hone j i d hj him hjd (by rw [ho];exact hd'))
         cases hod:o.dst with
         |none=>exact hst _ _ _ hold hv.1
         |some d'=>
          rw [eH (hd1 d' hod),Yu (hne d' hod)];exact hst _ _ _ hold hv.1
       ·intro s' hs';have hni:((l.toArray[i]?).bind (·.dst))≠some s':=hs' i him (by rw [cS hiL];simp);have hold:=hI.old s' fun j hj hjl=>hs' j hj (by rw [cS hiL];simp [hjl]);rw [ho] at hni;simp only [aaE] at hni
        cases hod:o.dst with
        |none=>exact hold
        |some d'=>
         rw [eH (by rw [hI.sz];exact hdN (i,d') (hpre i d' him (by rw [ho];exact hod))),Yu (fun e=>hni (by rw [hod,e]))];exact hold
       ·intro j hj hjl d hjd;rw [cS hiL] at hjl;by_cases hji:j=i
        ·subst hji;obtain ⟨b,hb1,_,hb3⟩:=hfv hj;exact ⟨b,(hputi d hjd).trans hb1,hb3⟩
        ·simp only [hji,decide_false,Zd] at hjl;obtain ⟨b,hb1,hb2⟩:=hI.fb j hj hjl d hjd;exact ⟨b,(hput j d (hfm' j hj) hji hjd).trans hb1,Zl hb2 hv.1.size⟩
       ·intro j hj k hk hjk hjl hkl d e hjd hke;rw [cS hiL] at hjl hkl;by_cases hji:j=i
        ·subst hji;have hkj:k≠j:=fun e=>hjk e.symm;simp only [hkj,decide_false,Zd] at hkl;rw [hputi d hjd,hput k e (hfm' k hk) hkj hke];exact fun he=>hfd k hk hkj hkl hj e hke he.symm
        ·simp only [hji,decide_false,Zd] at hjl;by_cases hki:k=i
         ·subst hki;rw [hputi e hke,hput j d (hfm' j hj) hji hjd];exact hfd j hj hji hjl hk d hjd
         ·simp only [hki,decide_false,Zd] at hkl;rw [hput j d (hfm' j hj) hji hjd,hput k e (hfm' k hk) hki hke];exact hI.fd j hj k hk hjk hjl hkl d e hjd hke
      ·have hLi:L.toList[i]?=some false:=by
        have h3:i<L.toList.length:=by simpa using hiL
        rw [ZP h3];have:L.getD i false=L.toList[i]:=by simp [hiL]
        rw [←this,hun']
       rw [abR,List.countP_set (by simpa using hiL)];have h4:L.toList[i]'(by simpa using hiL)=false:=(YL.1 hLi).2;rw [h4];simp only [abt,if_false,if_true];omega
     exact ⟨hog _ w hI.j hro,hnext⟩
    by_cases hnf:∀i,i<m→i∉fl→L.getD i false=true
    ·obtain ⟨i,him,hun'⟩:=hsome;have hif:i∈fl:=aa1 fun h=>by
      have h2:=hnf i him h;rw [hun'] at h2
      cases h2
     obtain ⟨hfree,hedf,d,op,ty,pos,af,hlo,hpu⟩:=hfl i hif;have ho:l.toArray[i]?=some ⟨some d,op,ty,pos,af,none⟩:=by rw [aar];exact hlo
     have hed:∀e∈af,Region.binds .any e=true→L.getD e.on false=true:=fun e he hb=>by
      obtain ⟨h1,h2⟩:=hedf _ hlo e he hb;exact hnf e.on h1 h2
     have hil:i<l.length:=Yo;have hiL:i<L.size:=by rw [hI.ls,hnn];exact hil
     have hunt:L.getD i true=false:=by
      rw [ZL] at hun' ⊢;rw [aaD hiL] at hun' ⊢;simpa using hun'
     obtain ⟨hog,hnext⟩:=both i him _ ho hun' hed;obtain ⟨v,hv,hk⟩:=CU hpu hog a (by rw [hI.sz];exact hdN (i,d) (hpre i d him (by rw [ho];rfl))) fun _=>rfl;refine wpAny_first (v:=v) ho (Region.noSelect_spec hns) (fun c a w ⟨ρ',_,hq⟩=>(hQp c ρ' w hq).elim) fuel L a w (fun j oj hj hji hjl hno=> ?_) ((hready_spec i).2 ⟨hil,hunt,_,ho,hed⟩) (.inl ⟨by simp [Region.wanted],hv⟩) (hnext v w hk fun hfr'=> ?_)
     ·refine Region.free_spec ho hfree j oj hj hji ?_ hno;have hjlen:j<l.length:=by have:=(aa9.1 hj).1;omega
      rw [OR hjlen];rw [abL];rintro ⟨h1,h2⟩;have h3:=hnf j h1 h2;have hjL:j<L.size:=by rw [hI.ls,hnn];exact hjlen
      rw [ZL] at h3 hjl;rw [aaD hjL] at h3 hjl;simp only [ZO] at h3 hjl;rw [h3] at hjl
      cases hjl
     ·obtain ⟨d',t,ty',pos',af',n,ag,by',zc,hi1,_⟩:=hfr.at i hfr';rw [hlo] at hi1;injection hi1 with hi1
      injection hi1 with _ hi1
      subst hi1
      cases hpu
    have hsome2:∃i,i<m∧i∉fl∧L.getD i false=false:=by
     refine aa1 fun hn=>hnf fun i hi hif=> ?_
     cases hc2:L.getD i false with
     |true=>rfl
     |false=>exact absurd ⟨i,hi,hif,hc2⟩ hn
    refine ⟨fun hnil=> ?_,fun i hi=> ?_⟩
    ·exact WO
    ·obtain ⟨hil,hun,o,ho,hed⟩:=(hready_spec i).1 hi;have hiL:i<L.size:=by rw [hI.ls,hnn];exact hil
     have hun':L.getD i false=false:=by
      exact Ps
     have hed':∀o',l.toArray[i]?=some o'→∀e∈o'.after,Region.binds .any e=true→L.getD e.on false=true:=fun o' ho'=>by
      exact Qx
     have him:i<m:=by
      rcases Zb i m with h|h
      ·exact h
      ·exfalso
       rcases Zb m i with h2|h2
       ·exact TT
       ·obtain rfl:i=m:=Yo;have h4:(l.length==i)=false:=by simp;omega
        rw [h4,Zd] at htail;have h5:=Y0.1 htail;obtain ⟨j,hj,hjf,hju⟩:=hsome2;have h6:=h5 j (by simpa using hj);have h7:fl.contains j=false:=by simpa using hjf
        rw [h7,Zd] at h6;have:=jc hM hI.cl i j hed' h6;rw [hju] at this
        cases this
     obtain ⟨hog,hnext⟩:=both i him o ho hun' hed;have hgo:if Region.wanted o (yielded l.toArray a.tmps) then (o.wp P a w (wpAny P .any l.toArray (dO N D Q) fuel (L.setIfInBounds i true)) (dO N D Q))∨((o.asks P a w)∧LetsOut (dO N D Q)) else wpAny P .any l.toArray (dO N D Q) fuel (L.setIfInBounds i true) (a.put o.dst undef) w:=by
      exact Wk
     unfold wpOp;rw [ho];exact hgo
 exact VT
theorem JJ.Bq {H:List HE}{t:TypeId}{cs':List Value} (h:JJ w0 H w W) (hs:Hp w0 H w) (h2:w.heap.size≤b) (h3:W.heap[b]?=some (.cells cs.toArray t (0,0)))
  (h2':w.heap.size≤b') (h3':W.heap[b']?=some (.cells cs'.toArray t' (0,0))) (hbb:b≠b'):Hp w0 (.blk b' t' cs' (0,0)::.blk b t cs (0,0)::H) W:=by
 have h1:=h.newVar hs h2 h3;refine ⟨h.hp.below, ?_, ?_⟩
 ·intro y hy
  rcases YH.1 hy with rfl|hy
  ·exact ⟨Y1 hs.size h2',h3',.inr (YA _)⟩
  ·exact h1.own y hy
 ·rw [Z4,Z4];show (b'::b::H.filterMap HE.id).Nodup;have hn:∀c,w.heap.size≤c→c∉H.filterMap HE.id:=fun c hc hm=>by
   exact T4
  refine aaa.2 ⟨fun hm=> ?_,aaa.2 ⟨hn b h2,h.hp.nd⟩⟩
  rcases YH.1 hm with e|hm
  ·exact hbb e.symm
  ·exact hn b' h2' hm
end
theorem ej {Q:Kq}{id:Nat}{l:List Oper} (fr fl M:List Nat) (m:Nat) (src:List (List (Nat×Option Nat))) (ds:List (Nat×Nat)) {H:List HE} (hh:Hp w0 H w) (hm:P.follows .mixedOrders=true) (hok:lI l m N src ds fl M=true)
  (hfr:wb P l fr) (hfm:fr.all (fun i=>i<m)=true) (hQp:NP Q)
  (h:DX P l.toArray (JJ w0 H w) ρ (fun V=>∀f w',JJ w0 H w w'→ub V f w' ds→(∀i∈fr,∀j∈fr,i≠j→f i≠f j)→WL ⟨none,D,false⟩ P N l.toArray Q (l.drop m) (ix ρ f ds) w') 0 UU (l.take m) src):WC ⟨none,D,false⟩ P N (.region id l.toArray true) Q ρ w:=by
 obtain ⟨V,_,h1,h2⟩:=B7 _ _ _ _ (fun _ _ _ _=>trivial) h;exact LH fr fl M m src ds (JJ w0 H w) V hm hok hfr hfm hQp (fun _ _ h hb=>h.ext hb) (JJ.start hh) h1 h2
end
section
variable {ro:Mode}
def bP (ρ:Rf):List (Nat×Value)→Rf
 |[]=>ρ
 |(d,v)::r=>cP (bP ρ r) d v
def VZ (f:Nat→Value):List (Nat×Nat)→List (Nat×Value)→Prop
 |[],[]=>True
 |(i,d)::r,(d',v)::s=>(d=d'∧f i=v)∧VZ f r s
 |_,_=>False
theorem a6 {ρ:Rf}{f:Nat→Value}:∀{ds:List (Nat×Nat)}{vs:List (Nat×Value)},VZ f ds vs→ix ρ f ds=bP ρ vs
 |[],[],_=>rfl
 |[],_::_,h=>h.elim
 |_::_,[],h=>h.elim
 |(i,d)::r,(d',v)::s,h=>by
  obtain ⟨⟨rfl,rfl⟩,h2⟩:=h;rw [ix,bP,a6 h2]
theorem aO {f:Nat→Value}:VZ f [] []:=trivial
theorem ae {f:Nat→Value}{i d:Nat}{v:Value}{r:List (Nat×Nat)}{s:List (Nat×Value)} (h:f i=v) (hr:VZ f r s):VZ f ((i,d)::r) ((d,v)::s):=⟨⟨rfl,h⟩,hr⟩
theorem aN {Q:Kq}{l:List Oper}{ρ':Rf} (h:ρ=ρ') (k:WL ro P N ops Q l ρ' w):WL ro P N ops Q l ρ w:=h ▸ k
section
variable {P:Program}{ops:Array Oper}{J:World→Prop}{ρ:Rf}{T:(Nat→VP)→Prop}{i:Nat}{pv:Nat→VP}{os:List Oper}{s:List (Nat×Option Nat)}{ss:List (List (Nat×Option Nat))}{d:Option Nat}{ty:TypeId}{pos:String}{af:Array Edge}
theorem vC {op:Op}{b:Bool} (hj:(ops[j]?).bind (·.dst)=some dj) (hv:ρ dj=undef) (h:K undef w):OG P ops ⟨d,op,ty,pos,af,some (j,b)⟩ ρ w K:=
 ⟨fun a next Q ha hn=>by
  have h1:Region.wanted ⟨d,op,ty,pos,af,some (j,b)⟩ (yielded ops a.tmps)=false:=by
   have h2:=ha dj;rw [hv,ZL] at h2
   cases h3:a.tmps[dj]? with
   |none=>simp [Region.wanted,yielded,hj,h3]
   |some x=>
    rw [h3] at h2;simp only [ZO] at h2;subst h2;simp [Region.wanted,yielded,hj,h3,undef]
  rw [h1];exact hn _ _ h⟩
theorem BL {b:Bool}{op:Op} (hj:(ops[j]?).bind (·.dst)=some dj) (hv:∀ρ1 w1,J w1→dp (pv) ρ ρ1 w1 s→ρ1 dj=undef)
  (k:DX P ops J ρ T (i+1) (ff pv i (Is undef)) os ss):DX P ops J ρ T i pv (⟨d,op,ty,pos,af,some (j,b)⟩::os) (s::ss):=
 a7 (Is undef) Is.ext (fun ρ1 w1 hj' h=>vC hj (hv ρ1 w1 hj' h) ⟨Below.refl _ _,rfl⟩) k
theorem gY {b:Bool}{t e:TypeId}{len sz:Nat} (hj:(ops[j]?).bind (·.dst)=some dj) (hg:∀ρ1 w1,J w1→dp (pv) ρ ρ1 w1 s→ρ1 dj=.bool b)
  (ht:P.underlying t=some (.slice e)) (hte:eu P e=some (sz,ag,by',zc))
  (hp:∀ρ1 w1,J w1→dp (pv) ρ ρ1 w1 s→BR ρ1 parts.toList=ps) (hzl:zc.length=sz) (hf:mj (fun i=>some (i*sz,sz)) (iK len zc) ps=some cs) (h0:¬len*sz=0) (hsl:len*sz≤16777216) (hl:cs.length=len*sz)
  (k:DX P ops J ρ T (i+1) (ff pv i (Rows len sz cs)) os ss):DX P ops J ρ T i pv (⟨d,.buildSlice t len parts,ty,pos,af,some (j,b)⟩::os) (s::ss):=
 a7 (Rows len sz cs) Rows.ext (fun ρ1 w1 hj' h=>eN hj (hg ρ1 w1 hj' h) (lW ht hte (hp ρ1 w1 hj' h) hzl hf h0 hsl hl fun _ _ ⟨_,hv,hs⟩ hb=>⟨hb,_,_,hv,hs⟩)) k
end
theorem Hp.dT {f:α→List Value}{sz:Nat}{H:List HE}{i e g:Nat}{l:List α}{x:α} (hh:Hp w0 H w) (hi:H[i]?=some (.row (some ⟨g,0,none⟩) n c e sz (aA f l))) (hf:∀x,(f x).length=sz) (h0:0<sz) (hx:l[k]?=some x):Rd w ⟨g,k*sz,none⟩ (f x):=by
 have hs:=hh.az hi;have hl:=hs.bk hf h0;obtain ⟨ad,h1,h2⟩:=hs.2 (by have:=(YL.1 hx).1;omega);injection h1 with h1
 subst h1;have h3:=h2.recAt hf hx;rwa [fw,YZ] at h3
end
section
variable {ro:Mode}
section
variable {P:Program}{ρ:Rf}{w:World}
end
end
section
variable {ro:Mode}
section
variable {P:Program}{ρ:Rf}{w:World}
end
section
variable {P:Program}{N:Nat}{ops:Array Oper}{Q:Kq}{ρ:Rf}{w:World}{rest:List Oper}{d ty:Nat}{pos:String}{af:Array Edge}
end
end
section
variable {P:Program}{N:Nat}{Q:Kq}{ρ:Rf}{w:World}
structure WA (P:Program) (N:Nat) (ops:Array Oper) (Q:Kq) (fuel:Nat) (L:Array Bool) (ρ:Rf) (w:World):Prop where
 out:∀a,Fits N a ρ→wpAny P .any ops (lift N Q) fuel L a w
theorem uX {o:Oper}{a:Act}{K:Act→World→Prop}{r:Result Next} (h:o.upon P a K (lift N (cM next Q)) r):o.upon P a K (lift N Q) r:=by
 have hp:∀c a w,lift N (cM next Q) (.panic c) a w→lift N Q (.panic c) a w:=fun _ _ _ h=>h;have ho:LetsOut (lift N (cM next Q))→LetsOut (lift N Q):=fun ⟨a,w,h⟩=>⟨a,w,h⟩
 cases r with
 |ok n w'=>
  cases n<;>simp only [Oper.upon] at h ⊢ <;>first
   |exact h
   |exact Calls.mono h (fun e w'' he=>by cases e<;>first|exact he|exact hp _ _ _ he|exact ho he)
 |halt x w'=>cases x<;>simp only [Oper.upon] at h ⊢ <;>first|exact h|exact hp _ _ _ h|exact ho h
theorem HH {L:Array Bool} (hr:Region.ready .any ops L=rs) (hne:rs≠[])
  (h:∀i∈rs,∃o,ops[i]?=some o∧WL .plain P N ops (cM (fun ρ w=>WA P N ops Q fuel (L.setIfInBounds i true) ρ w) Q) [o] ρ w):WA P N ops Q (fuel+1) L ρ w:=by
 refine ⟨fun a hf=>wpAny_all hr hne fun i hi=> ?_⟩;obtain ⟨o,ho,hw⟩:=h i hi;have h1:=hw.out a hf;have hK:∀a w,wpList P ops (lift N (cM (fun ρ w=>WA P N ops Q fuel (L.setIfInBounds i true) ρ w) Q)) [] a w→wpAny P .any ops (lift N Q) fuel (L.setIfInBounds i true) a w:=fun a w ⟨ρ',hf',hq⟩=>by
  have hq':WA P N ops Q fuel (L.setIfInBounds i true) ρ' w:=hq;exact hq'.out a hf'
 unfold wpOp;rw [ho];simp only [];unfold wpList at h1;split at h1
 ·rename_i hwt;rw [Yt hwt];refine h1.imp (fun h2=>Oper.wp_mono hK ?_) (fun h2=>⟨h2.1, ?_⟩)
  ·unfold Oper.wp at h2 ⊢;exact uX h2
  ·obtain ⟨a',w',h3⟩:=h2.2;exact ⟨a',w',h3⟩
 ·rename_i hwt;rw [Yu hwt];exact hK _ _ h1
theorem fC {L:Array Bool}{i:Nat}{o:Oper} (hr:Region.ready .any ops L=[i]) (ho:ops[i]?=some o)
  (h:WL .plain P N ops (cM (fun ρ w=>WA P N ops Q fuel (L.setIfInBounds i true) ρ w) Q) [o] ρ w):WA P N ops Q (fuel+1) L ρ w:=
 HH hr (by simp) fun j hj=>by
  obtain rfl:j=i:=by simpa using hj
  exact ⟨o,ho,h⟩
theorem xg {L:Array Bool}{i i2:Nat}{o o2:Oper} (hr:Region.ready .any ops L=[i,i2]) (ho:ops[i]?=some o) (ho2:ops[i2]?=some o2)
  (h:WL .plain P N ops (cM (fun ρ w=>WA P N ops Q fuel (L.setIfInBounds i true) ρ w) Q) [o] ρ w)
  (h2:WL .plain P N ops (cM (fun ρ w=>WA P N ops Q fuel (L.setIfInBounds i2 true) ρ w) Q) [o2] ρ w):WA P N ops Q (fuel+1) L ρ w:=
 HH hr (by simp) fun j hj=>by
  rcases YH.1 hj with rfl|hj
  ·exact ⟨o,ho,h⟩
  ·obtain rfl:j=i2:=by simpa using hj
   exact ⟨o2,ho2,h2⟩
theorem eA {L:Array Bool} (h:WA P N ops Q fuel L ρ w):WL .plain P N ops (cM (fun ρ w=>WA P N ops Q fuel L ρ w) Q) [] ρ w:=aa h
theorem jL {l:List Oper}{L:Array Bool} (m:Nat) (hm:m≤l.length) (hL:L=jY l.length m) (hf:l.length≤fuel+m)
  (hr:((List.range (l.length-m)).all fun k=>Region.ready .any l.toArray (jY l.length (m+k))==[m+k])=true) (hend:Region.ready .any l.toArray (jY l.length l.length)=[])
  (h:WL .plain P N l.toArray Q (l.drop m) ρ w):WA P N l.toArray Q fuel L ρ w:=
 ⟨fun a hfits=>by
  rw [hL];refine om m (fun k h1 h2=> ?_) hend fuel m a w (YA _) hm hf (h.out a hfits);have h3:=Y0.1 hr (k-m) (by simp;omega);rw [show m+(k-m)=k by omega] at h3;exact eq_of_beq h3⟩
theorem rU {id:Nat}{l:List Oper}{H:List HE} (hh:Hp w0 H w) (hm:P.follows .mixedOrders=true) (h:∀w',JJ w0 H w w'→WA P N l.toArray Q l.length (Array.replicate l.length false) ρ w'):WC .plain P N (.region id l.toArray true) Q ρ w:=by
 refine WC.nU fun a hf=>wp_region_any hm ?_;have hb:Below w.heap.size w ({ w with drawn:=w.drawn+1 }:World):=⟨rfl,rfl,rfl,YA _,fun _ _=>rfl⟩;have:=(h _ ((JJ.start hh).ext hb)).out a hf;simpa using this
end
section
variable {P:Program}{N:Nat}{Q:Kq}{ρ:Rf}{w:World}
def Kt:List Nat→List (List Nat)
 |[]=>[[]]
 |x::r=>Kt r++(Kt r).map (x:: ·)
theorem tS (p:Nat→Bool):∀l:List Nat,l.filter p∈Kt l
 |[]=>by simp [Kt]
 |x::r=>by
  have ih:=tS p r;rw [List.filter_cons,Kt];split
  ·exact Zu _ (YF.2 ⟨_,ih,rfl⟩)
  ·exact Z3 _ ih
def lD (n m:Nat) (fl D:List Nat):Array Bool:=((List.range n).map fun i=>decide (i<m∧(i∉fl∨i∈D))).toArray
def It (l:List Oper) (fl D:List Nat):Bool:=D.all fun i=>match l[i]? with
 |some o=>o.after.all fun e=> !Region.binds .any e|| !fl.contains e.on||D.contains e.on
 |none=>true
def UT (ds:List (Nat×Nat)) (fl D:List Nat):List (Nat×Nat):=ds.filter fun p=> !fl.contains p.1||D.contains p.1
def Au (l:List Oper) (m:Nat) (fl:List Nat) (ds:List (Nat×Nat)):List (List Nat×Nat×List (Nat×Nat)):=
 ((Kt fl).filter (It l fl)).map fun D=>(D,l.length-(lD l.length m fl D).toList.countP (fun b=>b)-1,UT ds fl D)
def ux (l:List Oper) (m N:Nat) (src:List (List (Nat×Option Nat))) (ds:List (Nat×Nat)) (fl M:List Nat):Bool:=
 let ops:=l.toArray
 let pre:=(List.range m).map fun i=>((ops[i]?).bind (·.dst))
 (m≤l.length) && (src.length==m) &&
 (ds==(pre.zipIdx.filterMap fun (d,i)=>d.map fun d=>(i,d)).reverse) && (decide (ds.map (·.2)).Nodup) && (ds.all fun p=>p.2<N) &&
 ((List.range m).all fun i=>match ops[i]?,src[i]? with
  |some o,some s=>((o.looksAt ops).all fun t=>s.any fun p=>p.1==t) &&
    s.all fun p=>match p.2 with
     |some j=>(j<m) && ((ops[j]?).bind (·.dst)==some p.1) && (M.getD i 0).testBit j
     |none=>(List.range m).all fun j=> !((ops[j]?).bind (·.dst)==some p.1)||(j !=i && (M.getD j 0).testBit i)
  |_,_=>false) &&
 (l.length==m||((List.range m).all fun i=>fl.contains i||(M.getD m 0).testBit i)) &&
 ((List.range (l.length-m)).all fun k=>k==0||(M.getD (m+k) 0).testBit m) &&
 ((List.range l.length).all fun i=>match ops[i]? with|some o=>o.after.all fun e=> !Region.binds .any e||e.on<i|none=>false) && (vj l []==M)
theorem Cv {id:Nat}{l:List Oper} (fr fl M:List Nat) (m:Nat) (src:List (List (Nat×Option Nat))) (ds:List (Nat×Nat)) (Ds:List (List Nat×Nat×List (Nat×Nat))) (J:World→Prop) (V:Nat→Value→World→Prop) (hm:P.follows .mixedOrders=true) (hok:ux l m N src ds fl M=true) (hDs:Au l m fl ds=Ds) (hmn:m<l.length) (hfr:wb P l fr) (hfm:fr.all (fun i=>i<m)=true)
  (hJ:∀w w',J w→Below w.heap.size w w'→J w') (h0:J w) (hops:DO P l.toArray J V ρ 0 (l.take m) src)
  (tail:∀p∈Ds,∀f w',J w'→ub V f w' p.2.2→(∀i∈fr,∀j∈fr,i≠j→(!fl.contains i||p.1.contains i)=true→(!fl.contains j||p.1.contains j)=true→f i≠f j)→WL .plain P N l.toArray (cM (fun ρ w=>WA P N l.toArray Q p.2.1 ((lD l.length m fl p.1).setIfInBounds m true) ρ w) Q) ((l.drop m).take 1) (ix ρ f p.2.2) w'):WC .plain P N (.region id l.toArray true) Q ρ w:=by
 refine WC.nU fun a hf=>wp_region_any hm ?_;simp only [ux,YP,YX,Z6,Y0,Zi] at hok;obtain ⟨⟨⟨⟨⟨⟨⟨⟨⟨hml,_⟩,hds⟩,hnd⟩,hdN⟩,hrd⟩,htail⟩,hdep⟩,hedge⟩,hM⟩:=hok;have hdo:=(zA _ _ _ hops).2;have hpre:∀i d,i<m→((l.toArray[i]?).bind (·.dst))=some d→(i,d)∈ds:=fun i d hi hd=>by
  exact PM
 have hdsm:∀i d,(i,d)∈ds→i<m∧((l.toArray[i]?).bind (·.dst))=some d:=fun i d hp=>by
  exact O8
 have hone:∀i j d,i<m→j<m→((l.toArray[i]?).bind (·.dst))=some d→((l.toArray[j]?).bind (·.dst))=some d→i=j:=fun i j d hi hj h1 h2=>by
  exact Qg
 have hnn:l.toArray.size=l.length:=by simp
 have hfm':∀i∈fr,i<m:=fun i hi=>by simpa using Y0.1 hfm i hi
 have part:∀(L:Array Bool) (a:Act) (w:World) (fuel:Nat),Wu [] fr N l.toArray m ρ J V L a w→(∀i,i<m→i∉fl→L.getD i false=true)→fuel+1+L.toList.countP (fun b=>b)=l.length→∀o,l.toArray[m]?=some o→
   wpOp P l.toArray (lift N Q) m (wpAny P .any l.toArray (lift N Q) fuel (L.setIfInBounds m true)) a w:=by
  intro L a w fuel hI hall hfu o ho;have hflt:∀i,i∈fl.filter (fun i=>L.getD i false)↔i∈fl∧L.getD i false=true:=fun i=>by rw [Z0]
  have hL:L=lD l.length m fl (fl.filter fun i=>L.getD i false):=by
   apply Array.ext (by simp [lD,hI.ls]);intro i h1 h2;have e1:L.getD i false=L[i]:=by simp [h1]
   rw [←e1];simp only [lD,List.getElem_toArray,List.getElem_map,List.getElem_range]
   rcases Zb i m with h|h
   ·by_cases hif:i∈fl
    ·cases hc:L.getD i false with
     |true=>exact (YN ⟨h,.inr ((hflt i).2 ⟨hif,hc⟩)⟩).symm
     |false=>exact (YS fun hh=>hh.2.elim (fun hn=>hn hif) fun hd=>by rw [((hflt i).1 hd).2] at hc;cases hc).symm
    ·rw [hall i h hif];exact (YN ⟨h,.inl hif⟩).symm
   ·rw [hI.tl i h];exact (YS fun hh=>by omega).symm
  have hcl:It l fl (fl.filter fun i=>L.getD i false)=true:=Y0.2 fun i hi=>by
   obtain ⟨h1,h2⟩:=(hflt i).1 hi
   cases hli:l[i]? with
   |none=>rfl
   |some oi=>
    refine abJ.2 fun e he=> ?_
    cases hb:Region.binds .any e with
    |false=>rfl
    |true=>
     have h3:=hI.cl i oi (by rw [aar];exact hli) h2 e he hb;by_cases hef:e.on∈fl
     ·rw [aaL];exact .inr (abT.2 ((hflt _).2 ⟨hef,h3⟩))
     ·simp [hef]
  have hmem:(fl.filter (fun i=>L.getD i false),l.length-(lD l.length m fl (fl.filter fun i=>L.getD i false)).toList.countP (fun b=>b)-1,UT ds fl (fl.filter fun i=>L.getD i false))∈Ds:=by
   rw [←hDs];exact YF.2 ⟨_,Z0.2 ⟨tS _ _,hcl⟩,rfl⟩
  have hfu':l.length-L.toList.countP (fun b=>b)-1=fuel:=Yo;have htl:=tail _ hmem;simp only [←hL,hfu'] at htl;have hsub:∀p∈UT ds fl (fl.filter fun i=>L.getD i false),p∈ds∧L.getD p.1 false=true:=fun p hp=>by
   obtain ⟨h1,h2⟩:=Z0.1 hp;refine ⟨h1, ?_⟩;simp only [aaL,abw,List.contains_eq_mem,abL,YX] at h2
   rcases h2 with h2|h2
   ·exact hall _ (hdsm _ _ h1).1 h2
   ·exact ((hflt _).1 h2).2
  have hnd':((UT ds fl (fl.filter fun i=>L.getD i false)).map (·.2)).Nodup:=(List.filter_sublist.map _).nodup hnd;have hfits:Fits N a (ix ρ (fun i=>match (l.toArray[i]?).bind (·.dst) with|some d=>a.tmps.getD d undef|none=>undef) (UT ds fl (fl.filter fun i=>L.getD i false))):=by
   refine ⟨hI.nd,hI.sz,fun s=> ?_⟩;by_cases hs:∃i,(i,s)∈UT ds fl (fl.filter fun i=>L.getD i false)
   ·obtain ⟨i,hi⟩:=hs;rw [(mr _ _ s hnd').1 i hi,(hdsm i s (hsub _ hi).1).2]
   ·rw [(mr _ _ s hnd').2 fun i hi=>hs ⟨i,hi⟩];refine hI.old s fun i hi hil hd=>hs ⟨i,Z0.2 ⟨hpre i s hi hd, ?_⟩⟩;by_cases hif:i∈fl
    ·rw [aaL];exact .inr (abT.2 ((hflt i).2 ⟨hif,hil⟩))
    ·simp [hif]
  have h1:=(htl (fun i=>match (l.toArray[i]?).bind (·.dst) with|some d=>a.tmps.getD d undef|none=>undef) w hI.j (qO _ fun p hp=>by
   obtain ⟨h1,h2⟩:=hsub p hp;obtain ⟨h3,h4⟩:=hdsm p.1 p.2 h1;have:=hI.vs p.1 p.2 h3 h2 h4;rw [h4];exact this) fun i hi j hj hij hpi hpj=>by
    obtain ⟨d,t,ty,pos,af,n,ag,by',zc,hi1,_⟩:=hfr.at i hi;obtain ⟨e,t',ty',pos',af',n',ag',by'',zc',hj1,_⟩:=hfr.at j hj;have hi2:(l.toArray[i]?).bind (·.dst)=some d:=by rw [aar,hi1];rfl
    have hj2:(l.toArray[j]?).bind (·.dst)=some e:=by rw [aar,hj1];rfl
    have hup:∀i∈fr,(!fl.contains i||(fl.filter fun i=>L.getD i false).contains i)=true→L.getD i false=true:=fun i hi hp=>by
     by_cases hf:i∈fl
     ·rw [abT.2 hf,abb,Zd] at hp;exact ((hflt i).1 (abT.1 hp)).2
     ·exact hall i (hfm' i hi) hf
    rw [hi2,hj2];exact hI.fd i hi j hj hij (hup i hi hpi) (hup j hj hpj) d e hi2 hj2).out a hfits
  have hone':(l.drop m).take 1=[o]:=by
   rw [aar] at ho;obtain ⟨h2,h3⟩:=YL.1 ho;rw [aal h2,h3]
   rfl
  rw [hone'] at h1;have hK:∀a w,wpList P l.toArray (lift N (cM (fun ρ w=>WA P N l.toArray Q fuel (L.setIfInBounds m true) ρ w) Q)) [] a w→wpAny P .any l.toArray (lift N Q) fuel (L.setIfInBounds m true) a w:=fun a w ⟨ρ',hf',hq⟩=>by
   have hq':WA P N l.toArray Q fuel (L.setIfInBounds m true) ρ' w:=hq;exact hq'.out a hf'
  unfold wpOp;rw [ho];simp only [];unfold wpList at h1;split at h1
  ·rename_i hwt;rw [Yt hwt];refine h1.imp (fun h2=>Oper.wp_mono hK ?_) (fun h2=>⟨h2.1, ?_⟩)
   ·unfold Oper.wp at h2 ⊢;exact uX h2
   ·obtain ⟨a',w',h3⟩:=h2.2;exact ⟨a',w',h3⟩
  ·rename_i hwt;rw [Yu hwt];exact hK _ _ h1
 have key:∀(fuel:Nat) (L:Array Bool) (a:Act) (w:World),Wu [] fr N l.toArray m ρ J V L a w→fuel+L.toList.countP (fun b=>b)=l.length→wpAny P .any l.toArray (lift N Q) fuel L a w:=by
  intro fuel
  induction fuel with
  |zero=>
   intro L a w hI hc;have hall:∀i,i<l.length→L.getD i false=true:=fun i hi=>by
    exact SD
   have h1:=hall m hmn;rw [hI.tl m (YA _)] at h1
   cases h1
  |succ fuel ih=>
   intro L a w hI hc
   ·have hready_spec:∀i,i∈Region.ready .any l.toArray L↔i<l.length∧L.getD i true=false∧∃o,l.toArray[i]?=some o∧∀e∈o.after,Region.binds .any e=true→L.getD e.on false=true:=fun i=>by
     exact QM
    have both:∀(i:Nat) (_:i<m) (o:Oper) (_:l.toArray[i]?=some o) (_:L.getD i false=false) (_:∀e∈o.after,Region.binds .any e=true→L.getD e.on false=true),
      OG P l.toArray o (fun t=>a.tmps.getD t undef) w (fun v w2=>Below w.heap.size w w2∧V i v w2)∧
      ∀v w2,(Below w.heap.size w w2∧V i v w2)→(i∈fr→∃b,v=.pointer (some ⟨b,0,none⟩)∧w.heap.size≤b∧b<w2.heap.size)→wpAny P .any l.toArray (lift N Q) fuel (L.setIfInBounds i true) (a.put o.dst v) w2:=fun i him o ho hun' hed=>by
     have hiL:i<L.size:=by rw [hI.ls,hnn];omega
     have hed':∀o',l.toArray[i]?=some o'→∀e∈o'.after,Region.binds .any e=true→L.getD e.on false=true:=fun o' ho'=>by
      rw [ho] at ho';injection ho' with ho';subst ho';exact hed
     have hok':(l.take m)[i]?=some o:=by
      rw [ZX,Yt him];simpa using ho
     obtain ⟨s,hs,hstab,hog⟩:=hdo i o hok';rw [YZ] at hstab hog;have hrdi:=hrd i him;rw [ho,hs] at hrdi;simp only [YP,Y0] at hrdi;have hro:dp V ρ (fun t=>a.tmps.getD t undef) w s:=pb s fun p hp=>by
      have hp2:=hrdi.2 p hp
      cases hp3:p.2 with
      |some j=>
       rw [hp3] at hp2;simp only [YP,YX,Z6] at hp2;exact hI.vs j p.1 hp2.1.1 (jc hM hI.cl i j hed' hp2.2) hp2.1.2
      |none=>
       rw [hp3] at hp2;refine hI.old p.1 fun j hj hjl hjd=> ?_;have h6:=Y0.1 hp2 j (by simpa using hj);rw [hjd] at h6;simp only [beq_self_eq_true,abb,Zd,YP] at h6;have:=jc hM hI.cl j i (fun o' ho' e he hb=>hI.cl j o' ho' hjl e he hb) h6.2;rw [hun'] at this
       cases this
     have hnext:∀v w2,(Below w.heap.size w w2∧V i v w2)→(i∈fr→∃b,v=.pointer (some ⟨b,0,none⟩)∧w.heap.size≤b∧b<w2.heap.size)→wpAny P .any l.toArray (lift N Q) fuel (L.setIfInBounds i true) (a.put o.dst v) w2:=fun v w2 hv hfv=>by
      have hd1:∀d',o.dst=some d'→d'<a.tmps.size:=fun d' hd'=>by
       rw [hI.sz];exact hdN (i,d') (hpre i d' him (by rw [ho];exact hd'))
      have hput:∀j d,j<m→j≠i→(l.toArray[j]?).bind (·.dst)=some d→(a.put o.dst v).tmps.getD d undef=a.tmps.getD d undef:=fun j d hj hji hjd=>by
       cases hod:o.dst with
       |none=>rfl
       |some d'=>rw [eH (hd1 d' hod),Yu fun e=>hji (hone j i d hj him hjd (by rw [ho,e];exact hod))]
      have hputi:∀d,(l.toArray[i]?).bind (·.dst)=some d→(a.put o.dst v).tmps.getD d undef=v:=fun d hd=>by
       rw [ho] at hd;simp only [aaE] at hd;rw [hd,eH (hd1 d hd),Yt rfl]
      have hfd:∀j∈fr,j≠i→L.getD j false=true→i∈fr→∀e,(l.toArray[j]?).bind (·.dst)=some e→a.tmps.getD e undef≠v:=fun j hj hji hjl hif e hje heq=>by
       obtain ⟨b,hb1,hb2⟩:=hI.fb j hj hjl e hje;obtain ⟨b',hv1,hb3,_⟩:=hfv hif;rw [hb1,hv1] at heq;injection heq with heq
       injection heq with heq
       injection heq with heq
       omega
      refine ih _ _ _ ?_ ?_
      ·refine ⟨?_, ?_,hJ _ _ hI.j hv.1,by simpa using hI.ls, ?_, ?_, ?_, ?_, ?_, ?_⟩
       ·cases o.dst<;>exact hI.nd
       ·cases hod:o.dst with
        |none=>exact hI.sz
        |some d=>simpa [Act.put] using hI.sz
       ·intro k ok hk hkl e he hb;rw [cS hiL] at hkl ⊢;by_cases hki:k=i
        ·subst hki;simp [hed' ok hk e he hb]
        ·simp only [hki,decide_false,Zd] at hkl;simp [hI.cl k ok hk hkl e he hb]
       ·intro k hk;rw [cS hiL,hI.tl k hk];have:¬k=i:=Yo;simp [this]
       ·intro j d hj hjl hjd;rw [cS hiL] at hjl;have hd1:∀d',o.dst=some d'→d'<a.tmps.size:=fun d' hd'=>by
         rw [hI.sz];exact hdN (i,d') (hpre i d' him (by rw [ho];exact hd'))
        by_cases hji:j=i
        ·subst hji;rw [ho] at hjd;simp only [aaE] at hjd;rw [hjd,eH (hd1 d hjd),Yt rfl];exact hv.2
        ·simp only [hji,decide_false,Zd] at hjl;have hold:=hI.vs j d hj hjl hjd;have hdj:(j,d)∈ds:=hpre j d hj hjd;have hst:=(hdo j (l.toArray[j]?.getD default) (by
          have:j<l.length:=Yo;rw [ZX,Yt hj];simp [this])).choose_spec.2.1
         rw [YZ] at hst;have hne:∀d',o.dst=some d'→d≠d':=fun d' hd' e=>by
          subst e;exact hji (hone j i d hj him hjd (by rw [ho];exact hd'))
         cases hod:o.dst with
         |none=>exact hst _ _ _ hold hv.1
         |some d'=>
          rw [eH (hd1 d' hod),Yu (hne d' hod)];exact hst _ _ _ hold hv.1
       ·intro s' hs';have hni:((l.toArray[i]?).bind (·.dst))≠some s':=hs' i him (by rw [cS hiL];simp);have hold:=hI.old s' fun j hj hjl=>hs' j hj (by rw [cS hiL];simp [hjl]);rw [ho] at hni;simp only [aaE] at hni
        cases hod:o.dst with
        |none=>exact hold
        |some d'=>
         rw [eH (by rw [hI.sz];exact hdN (i,d') (hpre i d' him (by rw [ho];exact hod))),Yu (fun e=>hni (by rw [hod,e]))];exact hold
       ·intro j hj hjl d hjd;rw [cS hiL] at hjl;by_cases hji:j=i
        ·subst hji;obtain ⟨b,hb1,_,hb3⟩:=hfv hj;exact ⟨b,(hputi d hjd).trans hb1,hb3⟩
        ·simp only [hji,decide_false,Zd] at hjl;obtain ⟨b,hb1,hb2⟩:=hI.fb j hj hjl d hjd;exact ⟨b,(hput j d (hfm' j hj) hji hjd).trans hb1,Zl hb2 hv.1.size⟩
       ·intro j hj k hk hjk hjl hkl d e hjd hke;rw [cS hiL] at hjl hkl;by_cases hji:j=i
        ·subst hji;have hkj:k≠j:=fun e=>hjk e.symm;simp only [hkj,decide_false,Zd] at hkl;rw [hputi d hjd,hput k e (hfm' k hk) hkj hke];exact fun he=>hfd k hk hkj hkl hj e hke he.symm
        ·simp only [hji,decide_false,Zd] at hjl;by_cases hki:k=i
         ·subst hki;rw [hputi e hke,hput j d (hfm' j hj) hji hjd];exact hfd j hj hji hjl hk d hjd
         ·simp only [hki,decide_false,Zd] at hkl;rw [hput j d (hfm' j hj) hji hjd,hput k e (hfm' k hk) hki hke];exact hI.fd j hj k hk hjk hjl hkl d e hjd hke
      ·have hLi:L.toList[i]?=some false:=by
        have h3:i<L.toList.length:=by simpa using hiL
        rw [ZP h3];have:L.getD i false=L.toList[i]:=by simp [hiL]
        rw [←this,hun']
       rw [abR,List.countP_set (by simpa using hiL)];have h4:L.toList[i]'(by simpa using hiL)=false:=(YL.1 hLi).2;rw [h4];simp only [abt,if_false,if_true];omega
     exact ⟨hog _ w hI.j hro,hnext⟩
    refine ⟨fun hnil=> ?_,fun i hi=> ?_⟩
    ·exfalso;have hmin:∀k,(∃i,i<k∧i<m+1∧L.getD i false=false)→∃i,i<m+1∧L.getD i false=false∧∀j,j<i→L.getD j false=true:=by
      intro k
      induction k with
      |zero=>rintro ⟨i,h,_⟩;omega
      |succ k ihk=>
       rintro ⟨i,h1,h2,h3⟩;by_cases hex:∃i,i<k∧i<m+1∧L.getD i false=false
       ·exact ihk hex
       ·exact Sw
     obtain ⟨i,hi,hu,hlow⟩:=hmin (m+1) ⟨m,Yo,Yo,hI.tl m (YA _)⟩;exact S5
    ·obtain ⟨hil,hun,o,ho,hed⟩:=(hready_spec i).1 hi;have hiL:i<L.size:=by rw [hI.ls,hnn];exact hil
     have hun':L.getD i false=false:=by
      exact Ps
     have hed':∀o',l.toArray[i]?=some o'→∀e∈o'.after,Region.binds .any e=true→L.getD e.on false=true:=fun o' ho'=>by
      exact Qx
     rcases Zb i m with him|him
     ·obtain ⟨hog,hnext⟩:=both i him o ho hun' hed;have hgo:if Region.wanted o (yielded l.toArray a.tmps) then (o.wp P a w (wpAny P .any l.toArray (lift N Q) fuel (L.setIfInBounds i true)) (lift N Q))∨((o.asks P a w)∧LetsOut (lift N Q)) else wpAny P .any l.toArray (lift N Q) fuel (L.setIfInBounds i true) (a.put o.dst undef) w:=by
       exact Wk
      unfold wpOp;rw [ho];exact hgo
     ·rcases Zb m i with h2|h2
      ·exfalso;exact TT
      ·obtain rfl:i=m:=Yo;refine part L a w fuel hI (fun j hj hjf=> ?_) hc o ho;have h4:(l.length==i)=false:=by simp;omega
       rw [h4,Zd] at htail;have h6:=Y0.1 htail j (by simpa using hj);have h7:fl.contains j=false:=by simpa using hjf
       rw [h7,Zd] at h6;exact jc hM hI.cl i j hed' h6
 exact VT
end
theorem Af {x y:Value} (h:x≠y) (h1:x=.pointer (some ⟨b,0,none⟩)) (h2:y=.pointer (some ⟨b',0,none⟩)):b≠b':=fun e=>h (by rw [h1,h2,e])
theorem FI {Q:Kq}{id:Nat}{l:List Oper} (fr fl M:List Nat) (m:Nat) (src:List (List (Nat×Option Nat))) (ds:List (Nat×Nat)) (Ds:List (List Nat×Nat×List (Nat×Nat))) {H:List HE} (hh:Hp w0 H w) (hm:P.follows .mixedOrders=true) (hok:ux l m N src ds fl M=true) (hDs:Au l m fl ds=Ds) (hmn:m<l.length) (hfr:wb P l fr) (hfm:fr.all (fun i=>i<m)=true)
  (h:DX P l.toArray (JJ w0 H w) ρ (fun V=>∀p∈Ds,∀f w',JJ w0 H w w'→ub V f w' p.2.2→(∀i∈fr,∀j∈fr,i≠j→(!fl.contains i||p.1.contains i)=true→(!fl.contains j||p.1.contains j)=true→f i≠f j)→WL .plain P N l.toArray (cM (fun ρ w=>WA P N l.toArray Q p.2.1 ((lD l.length m fl p.1).setIfInBounds m true) ρ w) Q) ((l.drop m).take 1) (ix ρ f p.2.2) w') 0 UU (l.take m) src):WC .plain P N (.region id l.toArray true) Q ρ w:=by
 obtain ⟨V,_,h1,h2⟩:=B7 _ _ _ _ (fun _ _ _ _=>trivial) h;exact Cv fr fl M m src ds Ds (JJ w0 H w) V hm hok hDs hmn hfr hfm (fun _ _ h hb=>h.ext hb) (JJ.start hh) h1 h2
theorem kO {Q:Kq}{id:Nat}{l:List Oper} (fl M:List Nat) (m:Nat) (src:List (List (Nat×Option Nat))) (ds:List (Nat×Nat)) (Ds:List (List Nat×Nat×List (Nat×Nat))) {H:List HE} (hh:Hp w0 H w) (hm:P.follows .mixedOrders=true) (hok:ux l m N src ds fl M=true) (hDs:Au l m fl ds=Ds) (hmn:m<l.length)
  (h:DX P l.toArray (JJ w0 H w) ρ (fun V=>∀p∈Ds,∀f w',JJ w0 H w w'→ub V f w' p.2.2→WL .plain P N l.toArray (cM (fun ρ w=>WA P N l.toArray Q p.2.1 ((lD l.length m fl p.1).setIfInBounds m true) ρ w) Q) ((l.drop m).take 1) (ix ρ f p.2.2) w') 0 UU (l.take m) src):WC .plain P N (.region id l.toArray true) Q ρ w:=by
 obtain ⟨V,_,h1,h2⟩:=B7 _ _ _ _ (fun _ _ _ _=>trivial) h;exact Cv [] fl M m src ds Ds (JJ w0 H w) V hm hok hDs hmn eI rfl (fun _ _ h hb=>h.ext hb) (JJ.start hh) h1 fun p hp f w' hj hv _=>h2 p hp f w' hj hv
theorem gZ {d:Option Nat}{ty:TypeId}{af:Array Edge}{g:Option (Nat×Bool)}{t e:TypeId}{x:Operand}{A:Option Addr}{l sz:Nat}{k:IntKind}{m:Int} (ht:P.underlying t=some (.slice e)) (hsz:(P.info? e).map (·.size)=some sz) (hx:ev ρ x=.slice A n c) (hlo:ev ρ lo=.int k m)
  (hm:m=(l:Int)) (h1:l≤n) (h2:n≤c):(execOp (ev ρ) ⟨d,.slice t x (some lo) none none,ty,pos,af,g⟩).run P w=.ok (.value (.slice (if c=l then A else A.map (·.add (l*sz))) (n-l) (c-l))) w:=
 jn (lo:=some lo) (hi:=none) (l:=l) (h:=n) ht hsz hx ⟨k,m,hlo,hm⟩ rfl h1 h2
theorem Sl.front {A:Option Addr}{xs:List Value} (h:Sl w A n k xs) (hm:m≤n):Sl w A m k (xs.take (m*k)):=by
 have hle:m*k≤n*k:=Zo _ hm;refine ⟨by rw [YM,h.1];omega,fun h0=> ?_⟩;obtain ⟨ad,h1,h2⟩:=h.2 Yo;exact ⟨ad,h1,h2.take _⟩
theorem Sl.back {A:Option Addr}{l:Nat}{xs:List Value} (h:Sl w A n k xs) (hl:l≤n) (hc:n≤c):Sl w (if c=l then A else A.map (·.add (l*k))) (n-l) k (xs.drop (l*k)):=by
 have h1:=h.cut hl (YA n) hc;have h2:((xs.drop (l*k)).take ((n-l)*k))=xs.drop (l*k):=YC (by rw [Zz,h.1,Nat.sub_mul];exact YA _);rwa [h2] at h1
def X5 (base:Nat) (t:TypeId) (sz:Nat):VP:=fun v W=>∃g,v=.slice (some ⟨g,0,none⟩) 0 0∧W.ownsRow base t sz (.slice (some ⟨g,0,none⟩) 0 0) 0 []
def xh (base:Nat) (t:TypeId) (n sz:Nat) (cs:List Value):VP:=fun v W=>∃A c,v=.slice A n c∧W.ownsRow base t sz (.slice A n c) n cs
theorem k8 {t:TypeId}{sz:Nat}{A:Option Addr}{xs:List Value} (h:w.ownsRow base t sz (.slice A n c) n xs) (hb:Below w.heap.size w w'):w'.ownsRow base t sz (.slice A n c) n xs:=by
 refine ⟨h.1,h.2.imp id ?_⟩;rintro ⟨g,cap,cur,h1,h2,h3,h4⟩;have hlt:g<w.heap.size:=by
  rcases Zb g w.heap.size with h|h
  ·exact h
  ·rw [abk h] at h3;cases h3
 exact ⟨g,cap,cur,h1,h2,(hb.block g hlt).trans h3,h4⟩
theorem xh.ext {t:TypeId}{sz:Nat} (v:Value) (w w':World) (h:xh base t n sz cs v w) (hb:Below w.heap.size w w'):xh base t n sz cs v w':=let ⟨A,c,h1,h2⟩:=h;⟨A,c,h1,k8 h2 hb⟩
theorem JJ.EJ {H:List HE}{t:TypeId}{sz:Nat}{A:Option Addr} (hs:Hp w0 H w) (h:Hp w0 H W) (ho:W.ownsRow w.heap.size t sz (.slice A n c) n cs):Hp w0 (.row A n c t sz cs::H) W:=by
 refine ⟨h.below,fun x hx=> ?_, ?_⟩
 ·rcases YH.1 hx with rfl|hx
  ·refine ⟨ho.1,ho.2.imp id ?_⟩;rintro ⟨g,cap,cur,h1,h2,h3⟩;exact ⟨g,cap,cur,h1,Y1 hs.size h2,h3⟩
  ·exact h.own x hx
 ·rw [Z4]
  rcases ho.2 with ⟨h1,_⟩|⟨g,cap,cur,h1,h2,_⟩
  ·injection h1 with e1
   subst e1;exact h.nd
  ·injection h1 with e1
   subst e1;show (g::H.filterMap HE.id).Nodup;refine aaa.2 ⟨fun hm=> ?_,h.nd⟩;exact T4
section
variable {P:Program}{ops:Array Oper}{J:World→Prop}{ρ:Rf}{T:(Nat→VP)→Prop}{i:Nat}{pv:Nat→VP}{os:List Oper}{s:List (Nat×Option Nat)}{ss:List (List (Nat×Option Nat))}{d:Option Nat}{ty:TypeId}{pos:String}{af:Array Edge}
end
section
variable {D:List Deferred}
section
variable {P:Program}{N:Nat}{Q:Kq}{ρ:Rf}{w:World}
theorem OG.mono {o:Oper}{K':Value→World→Prop} (h:OG P ops o ρ w K) (hk:∀v w',K v w'→K' v w'):OG P ops o ρ w K':=
 ⟨fun a next Q ha hn=>h.out a next Q ha fun v w' hv=>hn v w' (hk v w' hv)⟩
structure XB (D:List Deferred) (N:Nat) (ops:Array Oper) (m μ:Nat) (ρ:Rf) (J:Bool→World→Prop) (V:Nat→Value→World→Prop) (L:Array Bool) (a:Act) (w:World):Prop where
 nd:a.defers=D
 sz:a.tmps.size=N
 j:J (L.getD μ false) w
 ls:L.size=ops.size
 cl:sE ops L
 tl:∀k,m≤k→L.getD k false=false
 vs:∀i d,i<m→L.getD i false=true→(ops[i]?).bind (·.dst)=some d→V i (a.tmps.getD d undef) w
 old:∀s,(∀i,i<m→L.getD i false=true→(ops[i]?).bind (·.dst)≠some s)→a.tmps.getD s undef=ρ s
theorem Ng {id:Nat}{l:List Oper} (M:List Nat) (m μ:Nat) (src:List (List (Nat×Option Nat))) (ds:List (Nat×Nat)) (J:Bool→World→Prop) (V:Nat→Value→World→Prop) (hm:P.follows .mixedOrders=true) (hok:lI l m N src ds [] M=true) (hμ:μ<m)
  (h0:J false ({ w with drawn:=w.drawn+1 }:World)) (hops:∀i o,i<m→l[i]?=some o→∃s,src[i]?=some s∧∀ρ1 w1 (f:Bool),J f w1→(i=μ→f=false)→dp V ρ ρ1 w1 s→OG P l.toArray o ρ1 w1 fun v w2=>J (decide (μ=i)||f) w2∧(∀j u,j≠i→V j u w1→V j u w2)∧V i v w2)
  (tail:∀f w',J true w'→ub V f w' ds→WL ⟨none,D,false⟩ P N l.toArray Q (l.drop m) (ix ρ f ds) w'):WC ⟨none,D,false⟩ P N (.region id l.toArray true) Q ρ w:=by
 refine WC.nU fun a hf=>wp_region_any hm ?_;simp only [lI,YP,YX,Z6,Y0,Zi] at hok;obtain ⟨⟨⟨⟨⟨⟨⟨⟨⟨⟨⟨⟨⟨hml,_⟩,hds⟩,hnd⟩,hdN⟩,hrd⟩,htail⟩,hready⟩,hend⟩,hdep⟩,hedge⟩,hns⟩,_⟩,hM⟩:=hok;have hpre:∀i d,i<m→((l.toArray[i]?).bind (·.dst))=some d→(i,d)∈ds:=fun i d hi hd=>by
  exact PM
 have hdsm:∀i d,(i,d)∈ds→i<m∧((l.toArray[i]?).bind (·.dst))=some d:=fun i d hp=>by
  exact O8
 have hone:∀i j d,i<m→j<m→((l.toArray[i]?).bind (·.dst))=some d→((l.toArray[j]?).bind (·.dst))=some d→i=j:=fun i j d hi hj h1 h2=>by
  exact Qg
 have hnn:l.toArray.size=l.length:=by simp
 have full:∀(L:Array Bool) (a:Act) (w:World) (fuel:Nat),XB D N l.toArray m μ ρ J V L a w→(∀i,i<m→L.getD i false=true)→l.length≤fuel+m→wpAny P .any l.toArray (dO N D Q) fuel L a w:=by
  intro L a w fuel hI hall hfu;have hL:L=jY l.length m:=uq (by rw [hI.ls,hnn]) hml hall hI.tl;rw [hL];refine om m (fun k h1 h2=> ?_) hend fuel m a w (YA _) hml hfu ?_
  ·exact N9
  ·have hfits:fL N D a (ix ρ (fun i=>match (l.toArray[i]?).bind (·.dst) with|some d=>a.tmps.getD d undef|none=>undef) ds):=by
    exact TK
   refine (tail _ w (by have:=hI.j;rwa [hall μ hμ] at this) (qO ds fun p hp=> ?_)).out a hfits;obtain ⟨h1,h2⟩:=hdsm p.1 p.2 hp;exact Mb
 have key:∀(fuel:Nat) (L:Array Bool) (a:Act) (w:World),XB D N l.toArray m μ ρ J V L a w→fuel+L.toList.countP (fun b=>b)=l.length→wpAny P .any l.toArray (dO N D Q) fuel L a w:=by
  intro fuel
  induction fuel with
  |zero=>
   exact Tq
  |succ fuel ih=>
   intro L a w hI hc;by_cases hall:∀i,i<m→L.getD i false=true
   ·exact Ut
   ·have hsome:∃i,i<m∧L.getD i false=false:=by
     exact T8
    have hready_spec:∀i,i∈Region.ready .any l.toArray L↔i<l.length∧L.getD i true=false∧∃o,l.toArray[i]?=some o∧∀e∈o.after,Region.binds .any e=true→L.getD e.on false=true:=fun i=>by
     exact QM
    have both:∀(i:Nat) (_:i<m) (o:Oper) (_:l.toArray[i]?=some o) (_:L.getD i false=false) (_:∀e∈o.after,Region.binds .any e=true→L.getD e.on false=true),
      OG P l.toArray o (fun t=>a.tmps.getD t undef) w (fun v w2=>J (decide (μ=i)||L.getD μ false) w2∧(∀j u,j≠i→V j u w→V j u w2)∧V i v w2)∧
      ∀v w2,(J (decide (μ=i)||L.getD μ false) w2∧(∀j u,j≠i→V j u w→V j u w2)∧V i v w2)→wpAny P .any l.toArray (dO N D Q) fuel (L.setIfInBounds i true) (a.put o.dst v) w2:=fun i him o ho hun' hed=>by
     have hiL:i<L.size:=by rw [hI.ls,hnn];omega
     have hed':∀o',l.toArray[i]?=some o'→∀e∈o'.after,Region.binds .any e=true→L.getD e.on false=true:=fun o' ho'=>by
      rw [ho] at ho';injection ho' with ho';subst ho';exact hed
     obtain ⟨s,hs,hog⟩:=hops i o him (by rw [←aar];exact ho);have hrdi:=hrd i him;rw [ho,hs] at hrdi;simp only [YP,Y0] at hrdi;have hro:dp V ρ (fun t=>a.tmps.getD t undef) w s:=pb s fun p hp=>by
      have hp2:=hrdi.2 p hp
      cases hp3:p.2 with
      |some j=>
       rw [hp3] at hp2;simp only [YP,YX,Z6] at hp2;exact hI.vs j p.1 hp2.1.1 (jc hM hI.cl i j hed' hp2.2) hp2.1.2
      |none=>
       rw [hp3] at hp2;refine hI.old p.1 fun j hj hjl hjd=> ?_;have h6:=Y0.1 hp2 j (by simpa using hj);rw [hjd] at h6;simp only [beq_self_eq_true,abb,Zd,YP] at h6;have:=jc hM hI.cl j i (fun o' ho' e he hb=>hI.cl j o' ho' hjl e he hb) h6.2;rw [hun'] at this
       cases this
     have hnext:∀v w2,(J (decide (μ=i)||L.getD μ false) w2∧(∀j u,j≠i→V j u w→V j u w2)∧V i v w2)→wpAny P .any l.toArray (dO N D Q) fuel (L.setIfInBounds i true) (a.put o.dst v) w2:=fun v w2 hv=>by
      refine ih _ _ _ ?_ ?_
      ·refine ⟨?_, ?_,by rw [cS hiL];exact hv.1,by simpa using hI.ls, ?_, ?_, ?_, ?_⟩
       ·cases o.dst<;>exact hI.nd
       ·cases hod:o.dst with
        |none=>exact hI.sz
        |some d=>simpa [Act.put] using hI.sz
       ·intro k ok hk hkl e he hb;rw [cS hiL] at hkl ⊢;by_cases hki:k=i
        ·subst hki;simp [hed' ok hk e he hb]
        ·simp only [hki,decide_false,Zd] at hkl;simp [hI.cl k ok hk hkl e he hb]
       ·intro k hk;rw [cS hiL,hI.tl k hk];have:¬k=i:=Yo;simp [this]
       ·intro j d hj hjl hjd;rw [cS hiL] at hjl;have hd1:∀d',o.dst=some d'→d'<a.tmps.size:=fun d' hd'=>by
         rw [hI.sz];exact hdN (i,d') (hpre i d' him (by rw [ho];exact hd'))
        by_cases hji:j=i
        ·subst hji;rw [ho] at hjd;simp only [aaE] at hjd;rw [hjd,eH (hd1 d hjd),Yt rfl];exact hv.2.2
        ·simp only [hji,decide_false,Zd] at hjl;have hold:=hI.vs j d hj hjl hjd;have hdj:(j,d)∈ds:=hpre j d hj hjd;have hne:∀d',o.dst=some d'→d≠d':=fun d' hd' e=>by
          subst e;exact hji (hone j i d hj him hjd (by rw [ho];exact hd'))
         cases hod:o.dst with
         |none=>exact hv.2.1 j _ hji hold
         |some d'=>
          rw [eH (hd1 d' hod),Yu (hne d' hod)];exact hv.2.1 j _ hji hold
       ·intro s' hs';have hni:((l.toArray[i]?).bind (·.dst))≠some s':=hs' i him (by rw [cS hiL];simp);have hold:=hI.old s' fun j hj hjl=>hs' j hj (by rw [cS hiL];simp [hjl]);rw [ho] at hni;simp only [aaE] at hni
        cases hod:o.dst with
        |none=>exact hold
        |some d'=>
         rw [eH (by rw [hI.sz];exact hdN (i,d') (hpre i d' him (by rw [ho];exact hod))),Yu (fun e=>hni (by rw [hod,e]))];exact hold
      ·have hLi:L.toList[i]?=some false:=by
        have h3:i<L.toList.length:=by simpa using hiL
        rw [ZP h3];have:L.getD i false=L.toList[i]:=by simp [hiL]
        rw [←this,hun']
       rw [abR,List.countP_set (by simpa using hiL)];have h4:L.toList[i]'(by simpa using hiL)=false:=(YL.1 hLi).2;rw [h4];simp only [abt,if_false,if_true];omega
     exact ⟨hog _ w _ hI.j (fun e=>by subst e;exact hun') hro,hnext⟩
    refine ⟨fun hnil=> ?_,fun i hi=> ?_⟩
    ·exact WO
    ·obtain ⟨hil,hun,o,ho,hed⟩:=(hready_spec i).1 hi;have hiL:i<L.size:=by rw [hI.ls,hnn];exact hil
     have hun':L.getD i false=false:=by
      exact Ps
     have hed':∀o',l.toArray[i]?=some o'→∀e∈o'.after,Region.binds .any e=true→L.getD e.on false=true:=fun o' ho'=>by
      exact Qx
     have him:i<m:=by
      rcases Zb i m with h|h
      ·exact h
      ·exfalso
       rcases Zb m i with h2|h2
       ·exact TT
       ·obtain rfl:i=m:=Yo;have h4:(l.length==i)=false:=by simp;omega
        rw [h4,Zd] at htail;have h5:=Y0.1 htail;obtain ⟨j,hj,hju⟩:=hsome;have h6:=h5 j (by simpa using hj);simp only [List.contains_nil,Zd] at h6;have:=jc hM hI.cl i j hed' h6;rw [hju] at this
        cases this
     obtain ⟨hog,hnext⟩:=both i him o ho hun' hed;have hgo:=hog.out a (wpAny P .any l.toArray (dO N D Q) fuel (L.setIfInBounds i true)) (dO N D Q) (fun _=>rfl) fun v w2 hv=>hnext v w2 hv;unfold wpOp;rw [ho];exact hgo
 have hr0:∀i,(Array.replicate l.toArray.size false).getD i false=false:=fun i=>by
  exact My
 refine key _ _ _ _ ⟨hf.nd,hf.sz,by rw [hr0];exact h0,by simp,fun k o _ hk=> ?_,fun k _=>hr0 k,fun i d _ hi=> ?_,fun s _=>hf.at_ s⟩ ?_
 ·rw [hr0] at hk;cases hk
 ·rw [hr0] at hi;cases hi
 ·simp [abQ]
end
def Wt (V:Nat→VP):List Nat→Prop
 |[]=>True
 |i::r=>(∀v w w',V i v w→V i v w')∧Wt V r
theorem Ns {V:Nat→VP}:∀{l:List Nat},Wt V l→∀i∈l,∀v w w',V i v w→V i v w'
 |_::_,h,i,hi=>by
  rcases YH.1 hi with rfl|hi
  ·exact h.1
  ·exact Ns h.2 i hi
structure JC (w0:World) (H:List HE) (W:World):Prop where
 hp:Hp w0 H W
theorem Fq {P:Program}{ops:Array Oper}{J:World→Prop}{ρ:Rf}{T:(Nat→VP)→Prop}:∀(os:List Oper) (ss:List (List (Nat×Option Nat))) (i:Nat) (pv:Nat→VP),(∀j,i≤j→∀v w,pv j v w)→DX P ops J ρ T i pv os ss→
  ∃V,(∀j,j<i→V j=pv j)∧(∀j,i+os.length≤j→∀v w,V j v w)∧DO P ops J V ρ i os ss∧T V
 |[],[],_,pv,hpv,h=>⟨pv,fun _ _=>rfl,fun j hj=>hpv j (by simpa using hj),trivial,h⟩
 |[],_::_,_,_,_,h=>h.elim
 |_::_,[],_,_,_,h=>h.elim
 |o::os,s::ss,i,pv,hpv,⟨V,h1,h2,h3⟩=>by
  obtain ⟨V',h4,h4',h5,h6⟩:=Fq os ss (i+1) (ff pv i V) (fun j hj v w=>by rw [lQ _ _ Yo];exact hpv j Yo v w) h3;have e:V' i=V:=by rw [h4 i Yo,A0]
  refine ⟨V',fun j hj=>by rw [h4 j Yo,lQ _ _ Yo],fun j hj=>h4' j (by simp only [Y3] at hj;omega),⟨⟨?_, ?_⟩,h5⟩,h6⟩
  ·rw [e];exact h1
  ·intro ρ1 w1 hj hr;rw [e];refine h2 ρ1 w1 hj (kP (fun j v w hh=> ?_) s hr)
   rcases Zb j i with hlt|hge
   ·rw [h4 j Yo,lQ _ _ Yo] at hh;exact hh
   ·exact hpv j hge v w
theorem Jl {Q:Kq}{id:Nat}{l:List Oper} (M:List Nat) (m μ:Nat) (src:List (List (Nat×Option Nat))) (ds:List (Nat×Nat)) {H Hc:List HE} (hh:Hp w0 H w) (F:World→Prop) (hc:Hc.Sublist H) (hm:P.follows .mixedOrders=true) (hok:lI l m N src ds [] M=true) (hμ:μ<m)
  (hF:∀w w',F w→Below w.heap.size w w'→F w') (hFc:∀w,F w→Hp w0 Hc w)
  (h:DX P l.toArray (JC w0 Hc) ρ (fun V1=>∃o s Vm,l[μ]?=some o∧src[μ]?=some s∧(∀v w w',Vm v w→Below w.heap.size w w'→Vm v w')∧(∀ρ1 w1,Hp w0 H w1→dp V1 ρ ρ1 w1 s→OG P l.toArray o ρ1 w1 fun v w2=>F w2∧Vm v w2)∧
   DX P l.toArray (JC w0 Hc) ρ (fun V=>Wt V ((List.range m).filter (· !=μ))∧∀f w',F w'→ub V f w' ds→WL ⟨none,D,false⟩ P N l.toArray Q (l.drop m) (ix ρ f ds) w') (μ+1) (ff V1 μ Vm) ((l.take m).drop (μ+1)) (src.drop (μ+1))) 0 UU (l.take μ) (src.take μ)):WC ⟨none,D,false⟩ P N (.region id l.toArray true) Q ρ w:=by
 obtain ⟨V1,_,a1,d1,o,s,Vm,ho,hs,hst,hog,h2⟩:=Fq _ _ _ _ (fun _ _ _ _=>trivial) h;have hml:m≤l.length:=by
  simp only [lI,YP,YX] at hok;exact hok.1.1.1.1.1.1.1.1.1.1.1.1.1
 have hlt:(l.take μ).length=μ:=by rw [YM];omega
 rw [hlt,YZ] at a1;obtain ⟨V,b1,b2,d2,hsts,htail⟩:=Fq _ _ _ _ (fun j hj v w=>by rw [lQ _ _ Yo];exact a1 j Yo v w) h2;have hlt2:((l.take m).drop (μ+1)).length=m-(μ+1):=by rw [Zz,YM];omega
 rw [hlt2] at b2;have eμ:V μ=Vm:=by rw [b1 μ Yo,A0]
 have elt:∀j,j<μ→V j=V1 j:=fun j hj=>by rw [b1 j Yo,lQ _ _ Yo]
 have hsw:∀j,j≠μ→∀u w w',V j u w→V j u w':=fun j hj u w w' hu=>by
  rcases Zb j m with h3|h3
  ·exact Ns hsts j (Z0.2 ⟨Zi.2 h3,by simpa using hj⟩) u w w' hu
  ·exact b2 j Yo u w'
 have hV1:∀j v w,V j v w→V1 j v w:=fun j v w hv=>by
  rcases Zb j μ with h3|h3
  ·rw [←elt j h3];exact hv
  ·exact a1 j h3 v w
 have hJc:∀(f:Bool) w1,(if f then F w1 else Hp w0 H w1)→JC w0 Hc w1:=fun f w1 hj=>by
  cases f with
  |true=>exact ⟨hFc w1 hj⟩
  |false=>exact ⟨Hp.sub hj hc⟩
 have hJe:∀(f:Bool) w1 w2,(if f then F w1 else Hp w0 H w1)→Below w1.heap.size w1 w2→(if f then F w2 else Hp w0 H w2):=fun f w1 w2 hj hb=>by
  cases f with
  |true=>exact hF w1 w2 hj hb
  |false=>exact Hp.ext hj hb
 refine Ng M m μ src ds (fun f w=>if f then F w else Hp w0 H w) V hm hok hμ ?_ ?_ (fun f w' hj hv=>htail f w' hj hv)
 ·exact hh.ext ⟨rfl,rfl,rfl,YA _,fun _ _=>rfl⟩
 ·intro i oi him hoi
  rcases Nat.lt_trichotomy i μ with h3|h3|h3
  ·obtain ⟨s',hs',hst',hog'⟩:=(zA _ _ _ d1).2 i oi (by rw [ZX,Yt h3];exact hoi);rw [ZX,Yt h3] at hs';rw [YZ] at hst' hog';refine ⟨s',hs',fun ρ1 w1 f hj _ hr=>(hog' ρ1 w1 (hJc f w1 hj) (kP hV1 s' hr)).mono fun v w2 hv=>⟨?_,fun j u hji hu=> ?_, ?_⟩⟩
   ·rw [YS Yo,Zd];exact hJe f w1 w2 hj hv.1
   ·exact Rr
   ·rw [elt i h3];exact hv.2
  ·subst h3;rw [ho] at hoi
   cases hoi
   refine ⟨s,hs,fun ρ1 w1 f hj hf hr=> ?_⟩;have hf0:=hf rfl;subst hf0;refine (hog ρ1 w1 hj (kP hV1 s hr)).mono fun v w2 hv=>⟨?_,fun j u hji hu=>hsw j hji u w1 w2 hu, ?_⟩
   ·rw [YN rfl,Bool.true_or];exact hv.1
   ·rw [eμ];exact hv.2
  ·obtain ⟨s',hs',hst',hog'⟩:=(zA _ _ _ d2).2 (i-(μ+1)) oi (by rw [ZW,show μ+1+(i-(μ+1))=i by omega,ZX,Yt him];exact hoi);rw [ZW,show μ+1+(i-(μ+1))=i by omega] at hs';rw [show μ+1+(i-(μ+1))=i by omega] at hst' hog';refine ⟨s',hs',fun ρ1 w1 f hj _ hr=>(hog' ρ1 w1 (hJc f w1 hj) hr).mono fun v w2 hv=>⟨?_,fun j u hji hu=> ?_,hv.2⟩⟩
   ·rw [YS Yo,Zd];exact hJe f w1 w2 hj hv.1
   ·exact Rr
end
variable {args:Array Operand}{ft:TypeId}{fz:Nat×Nat}{o off:Nat}{r:Bool}{vs:List Value}
section
variable {P:Program}{ops:Array Oper}{J:World→Prop}{ρ:Rf}{T:(Nat→VP)→Prop}{i:Nat}{pv:Nat→VP}{os:List Oper}{s:List (Nat×Option Nat)}{ss:List (List (Nat×Option Nat))}{d:Option Nat}{ty:TypeId}{pos:String}{af:Array Edge}{x y:Operand}{t u:TypeId}
theorem dJ {k:IntKind}{a:Int} (kk:DX P ops J ρ T (i+1) (ff pv i (Is (.int k a))) os ss) (hx:∀ρ1 w1,J w1→dp pv ρ ρ1 w1 s→ev ρ1 x=.int k a:=by intro ρ1 w1 hj hR;first|exact hR.1|exact hR.2.1|exact hR.2.2.1|exact rfl):DX P ops J ρ T i pv (⟨d,.move x,ty,pos,af,none⟩::os) (s::ss):=bB (fun ρ1 w1 hj h=>fV (hx ρ1 w1 hj h)) kk
theorem XG {k:IntKind}{a:Int} (kk:DX P ops J ρ T (i+1) (ff pv i (Is (.int k a))) os ss) (hx:∀ρ1 w1,J w1→dp pv ρ ρ1 w1 s→ev ρ1 x=.int k a:=by intro ρ1 w1 hj hR;first|exact hR.1|exact hR.2.1|exact hR.2.2.1|exact rfl):DX P ops J ρ T i pv (⟨d,.assign x,ty,pos,af,none⟩::os) (s::ss):=bB (fun ρ1 w1 hj h=>Dq (hx ρ1 w1 hj h)) kk
theorem mV {a:Bool} (kk:DX P ops J ρ T (i+1) (ff pv i (Is (.bool a))) os ss) (hx:∀ρ1 w1,J w1→dp pv ρ ρ1 w1 s→ev ρ1 x=.bool a:=by intro ρ1 w1 hj hR;first|exact hR.1|exact hR.2.1|exact hR.2.2.1|exact rfl):DX P ops J ρ T i pv (⟨d,.move x,ty,pos,af,none⟩::os) (s::ss):=bB (fun ρ1 w1 hj h=>fV (hx ρ1 w1 hj h)) kk
theorem XV {a:ByteArray} (kk:DX P ops J ρ T (i+1) (ff pv i (Is (.string a))) os ss) (hx:∀ρ1 w1,J w1→dp pv ρ ρ1 w1 s→ev ρ1 x=.string a:=by intro ρ1 w1 hj hR;first|exact hR.1|exact hR.2.1|exact hR.2.2.1|exact rfl):DX P ops J ρ T i pv (⟨d,.move x,ty,pos,af,none⟩::os) (s::ss):=bB (fun ρ1 w1 hj h=>fV (hx ρ1 w1 hj h)) kk
theorem gI {A:Option Addr} (kk:DX P ops J ρ T (i+1) (ff pv i (Is (.slice A n c))) os ss) (hx:∀ρ1 w1,J w1→dp pv ρ ρ1 w1 s→ev ρ1 x=.slice A n c:=by intro ρ1 w1 hj hR;first|exact hR.1|exact hR.2.1|exact hR.2.2.1|exact rfl):DX P ops J ρ T i pv (⟨d,.move x,ty,pos,af,none⟩::os) (s::ss):=bB (fun ρ1 w1 hj h=>fV (hx ρ1 w1 hj h)) kk
theorem WH {l:List Value} (kk:DX P ops J ρ T (i+1) (ff pv i (Is (.tuple l.toArray))) os ss) (hx:∀ρ1 w1,J w1→dp pv ρ ρ1 w1 s→ev ρ1 x=.tuple l.toArray:=by intro ρ1 w1 hj hR;first|exact hR.1|exact hR.2.1|exact hR.2.2.1|exact rfl):DX P ops J ρ T i pv (⟨d,.move x,ty,pos,af,none⟩::os) (s::ss):=bB (fun ρ1 w1 hj h=>fV (hx ρ1 w1 hj h)) kk
theorem PJ {f:Fn}{l r:List Value} (kk:DX P ops J ρ T (i+1) (ff pv i (Is (.func f l.toArray r.toArray))) os ss) (hx:∀ρ1 w1,J w1→dp pv ρ ρ1 w1 s→ev ρ1 x=.func f l.toArray r.toArray:=by intro ρ1 w1 hj hR;first|exact hR.1|exact hR.2.1|exact hR.2.2.1|exact rfl):DX P ops J ρ T i pv (⟨d,.move x,ty,pos,af,none⟩::os) (s::ss):=bB (fun ρ1 w1 hj h=>fV (hx ρ1 w1 hj h)) kk
theorem dR {c:TypeId}{f:Nat} [hf:fB P c f off ft] (kk:DX P ops J ρ T (i+1) (ff pv i (Is (.pointer (some ⟨b,o+off,none⟩)))) os ss) (hx:∀ρ1 w1,J w1→dp pv ρ ρ1 w1 s→ev ρ1 x=.pointer (some ⟨b,o,none⟩):=by intro ρ1 w1 hj hR;first|exact hR.1|exact hR.2.1|exact hR.2.2.1|exact rfl):DX P ops J ρ T i pv (⟨d,.fieldAddr c x f,ty,pos,af,none⟩::os) (s::ss):=bB (fun ρ1 w1 hj h=>tM hf.out (hx ρ1 w1 hj h)) kk
theorem Jz {c:TypeId}{f:Nat} [hf:fB P c f off ft] (kk:DX P ops J ρ T (i+1) (ff pv i (Is (.pointer (some (ad.add off))))) os ss) (hx:∀ρ1 w1,J w1→dp pv ρ ρ1 w1 s→ev ρ1 x=.pointer (some ad):=by intro ρ1 w1 hj hR;first|exact hR.1|exact hR.2.1|exact hR.2.2.1|exact rfl):DX P ops J ρ T i pv (⟨d,.fieldAddr c x f,ty,pos,af,none⟩::os) (s::ss):=bB (fun ρ1 w1 hj h=>q9 hf.out (hx ρ1 w1 hj h)) kk
theorem x7 {v:Value} (hc:∀w1,J w1→w1.cell? ad=some v) [ht:aJ P t n false by' zc] (kk:DX P ops J ρ T (i+1) (ff pv i (Is (v))) os ss) (hx:∀ρ1 w1,J w1→dp pv ρ ρ1 w1 s→ev ρ1 x=.pointer (some ad):=by intro ρ1 w1 hj hR;first|exact hR.1|exact hR.2.1|exact hR.2.2.1|exact rfl):DX P ops J ρ T i pv (⟨d,.load t x,ty,pos,af,none⟩::os) (s::ss):=bB (fun ρ1 w1 hj h=>iL ht.out (hx ρ1 w1 hj h) (hc w1 hj)) kk
theorem pW (vs:List Value) (hc:∀w1,J w1→Rd w1 ad vs) [ht:aJ P t n true by' zc] (kk:DX P ops J ρ T (i+1) (ff pv i (Is (.agg vs.toArray))) os ss) (hx:∀ρ1 w1,J w1→dp pv ρ ρ1 w1 s→ev ρ1 x=.pointer (some ad):=by intro ρ1 w1 hj hR;first|exact hR.1|exact hR.2.1|exact hR.2.2.1|exact rfl) (hl:vs.length=n:=by exact rfl):DX P ops J ρ T i pv (⟨d,.load t x,ty,pos,af,none⟩::os) (s::ss):=bB (fun ρ1 w1 hj h=>Fe ht.out (hx ρ1 w1 hj h) (hc w1 hj) hl) kk
theorem fW {H:List HE}{v:Value} (j:Nat) [ht:aJ P t n false by' zc] (kk:DX P ops (JJ w0 H w) ρ T (i+1) (ff pv i (Is (v))) os ss) (hx:∀ρ1 w1,JJ w0 H w w1→dp pv ρ ρ1 w1 s→ev ρ1 x=.pointer (some ⟨b,o,none⟩):=by intro ρ1 w1 hj hR;first|exact hR.1|exact hR.2.1|exact hR.2.2.1|exact rfl) (hi:H[j]?=some (.blk b t' cs fz):=by exact rfl) (hv:cs[o]?=some v:=by exact rfl):DX P ops (JJ w0 H w) ρ T i pv (⟨d,.load t x,ty,pos,af,none⟩::os) (s::ss):=bB (fun ρ1 w1 hj h=>iL ht.out (hx ρ1 w1 hj h) (hj.hp.dk hi hv)) kk
theorem dK {H:List HE} (j:Nat) (vs:List Value) [ht:aJ P t n true by' zc] (kk:DX P ops (JJ w0 H w) ρ T (i+1) (ff pv i (Is (.agg vs.toArray))) os ss) (hx:∀ρ1 w1,JJ w0 H w w1→dp pv ρ ρ1 w1 s→ev ρ1 x=.pointer (some ⟨b,o,none⟩):=by intro ρ1 w1 hj hR;first|exact hR.1|exact hR.2.1|exact hR.2.2.1|exact rfl) (hi:H[j]?=some (.blk b t' cs fz):=by exact rfl) (hv:(cs.drop o).take n=vs:=by exact rfl) (hl:vs.length=n:=by exact rfl):DX P ops (JJ w0 H w) ρ T i pv (⟨d,.load t x,ty,pos,af,none⟩::os) (s::ss):=bB (fun ρ1 w1 hj h=>Fe ht.out (hx ρ1 w1 hj h) (hj.hp.aQ hi hv) hl) kk
theorem qe {e:TypeId}{B:Option Addr} [ht:bG P t (.slice e)] (kk:DX P ops J ρ T (i+1) (ff pv i (Is (.int .i64 n))) os ss) (hx:∀ρ1 w1,J w1→dp pv ρ ρ1 w1 s→ev ρ1 x=.slice B n c:=by intro ρ1 w1 hj hR;first|exact hR.1|exact hR.2.1|exact hR.2.2.1|exact rfl):DX P ops J ρ T i pv (⟨d,.call ⟨.builtin .len, #[x], #[t]⟩,ty,pos,af,none⟩::os) (s::ss):=bB (fun ρ1 w1 hj h=>CZ ht.out (hx ρ1 w1 hj h)) kk
theorem AB {k:IntKind}{a b:Int} (kk:DX P ops J ρ T (i+1) (ff pv i (Is (.bool r))) os ss) (hx:∀ρ1 w1,J w1→dp pv ρ ρ1 w1 s→ev ρ1 x=.int k a:=by intro ρ1 w1 hj hR;first|exact hR.1|exact hR.2.1|exact hR.2.2.1|exact rfl) (hy:∀ρ1 w1,J w1→dp pv ρ ρ1 w1 s→ev ρ1 y=.int k b:=by intro ρ1 w1 hj hR;first|exact hR.1|exact hR.2.1|exact hR.2.2.1|exact rfl) (hr:decide (a<b)=r:=by first|exact YN Yo|exact YS Yo|exact rfl):DX P ops J ρ T i pv (⟨d,.binOp .lss t x y u,ty,pos,af,none⟩::os) (s::ss):=bB (fun ρ1 w1 hj h=>by rw [←hr];exact IK (hx ρ1 w1 hj h) (hy ρ1 w1 hj h)) kk
theorem WQ {k:IntKind}{a b:Int} (kk:DX P ops J ρ T (i+1) (ff pv i (Is (.bool r))) os ss) (hx:∀ρ1 w1,J w1→dp pv ρ ρ1 w1 s→ev ρ1 x=.int k a:=by intro ρ1 w1 hj hR;first|exact hR.1|exact hR.2.1|exact hR.2.2.1|exact rfl) (hy:∀ρ1 w1,J w1→dp pv ρ ρ1 w1 s→ev ρ1 y=.int k b:=by intro ρ1 w1 hj hR;first|exact hR.1|exact hR.2.1|exact hR.2.2.1|exact rfl) (hr:decide (a≤b)=r:=by first|exact YN Yo|exact YS Yo|exact rfl):DX P ops J ρ T i pv (⟨d,.binOp .leq t x y u,ty,pos,af,none⟩::os) (s::ss):=bB (fun ρ1 w1 hj h=>by rw [←hr];exact Hi (hx ρ1 w1 hj h) (hy ρ1 w1 hj h)) kk
theorem QR {k:IntKind}{a b:Int} (kk:DX P ops J ρ T (i+1) (ff pv i (Is (.bool r))) os ss) (hx:∀ρ1 w1,J w1→dp pv ρ ρ1 w1 s→ev ρ1 x=.int k a:=by intro ρ1 w1 hj hR;first|exact hR.1|exact hR.2.1|exact hR.2.2.1|exact rfl) (hy:∀ρ1 w1,J w1→dp pv ρ ρ1 w1 s→ev ρ1 y=.int k b:=by intro ρ1 w1 hj hR;first|exact hR.1|exact hR.2.1|exact hR.2.2.1|exact rfl) (hr:decide (b<a)=r:=by first|exact YN Yo|exact YS Yo|exact rfl):DX P ops J ρ T i pv (⟨d,.binOp .gtr t x y u,ty,pos,af,none⟩::os) (s::ss):=bB (fun ρ1 w1 hj h=>by rw [←hr];exact HG (hx ρ1 w1 hj h) (hy ρ1 w1 hj h)) kk
theorem wv {k:IntKind}{a b:Int} (kk:DX P ops J ρ T (i+1) (ff pv i (Is (.bool r))) os ss) (hx:∀ρ1 w1,J w1→dp pv ρ ρ1 w1 s→ev ρ1 x=.int k a:=by intro ρ1 w1 hj hR;first|exact hR.1|exact hR.2.1|exact hR.2.2.1|exact rfl) (hy:∀ρ1 w1,J w1→dp pv ρ ρ1 w1 s→ev ρ1 y=.int k b:=by intro ρ1 w1 hj hR;first|exact hR.1|exact hR.2.1|exact hR.2.2.1|exact rfl) (hr:decide (a=b)=r:=by first|exact YN Yo|exact YS Yo|exact rfl):DX P ops J ρ T i pv (⟨d,.binOp .eql t x y u,ty,pos,af,none⟩::os) (s::ss):=bB (fun ρ1 w1 hj h=>by rw [←hr];exact H0 (hx ρ1 w1 hj h) (hy ρ1 w1 hj h)) kk
theorem qT {a b:Int} (kk:DX P ops J ρ T (i+1) (ff pv i (Is (.int .i64 (a+b)))) os ss) (hx:∀ρ1 w1,J w1→dp pv ρ ρ1 w1 s→ev ρ1 x=.int .i64 a:=by intro ρ1 w1 hj hR;first|exact hR.1|exact hR.2.1|exact hR.2.2.1|exact rfl) (hy:∀ρ1 w1,J w1→dp pv ρ ρ1 w1 s→ev ρ1 y=.int .i64 b:=by intro ρ1 w1 hj hR;first|exact hR.1|exact hR.2.1|exact hR.2.2.1|exact rfl) (h1: -9223372036854775808≤a+b:=by omega) (h2:a+b≤9223372036854775807:=by omega):DX P ops J ρ T i pv (⟨d,.binOp .add t x y u,ty,pos,af,none⟩::os) (s::ss):=bB (fun ρ1 w1 hj h=>OL (hx ρ1 w1 hj h) (hy ρ1 w1 hj h) h1 h2) kk
theorem tZ {a b:Int} (kk:DX P ops J ρ T (i+1) (ff pv i (Is (.int .i64 (a-b)))) os ss) (hx:∀ρ1 w1,J w1→dp pv ρ ρ1 w1 s→ev ρ1 x=.int .i64 a:=by intro ρ1 w1 hj hR;first|exact hR.1|exact hR.2.1|exact hR.2.2.1|exact rfl) (hy:∀ρ1 w1,J w1→dp pv ρ ρ1 w1 s→ev ρ1 y=.int .i64 b:=by intro ρ1 w1 hj hR;first|exact hR.1|exact hR.2.1|exact hR.2.2.1|exact rfl) (h1: -9223372036854775808≤a-b:=by omega) (h2:a-b≤9223372036854775807:=by omega):DX P ops J ρ T i pv (⟨d,.binOp .sub t x y u,ty,pos,af,none⟩::os) (s::ss):=bB (fun ρ1 w1 hj h=>M4 (hx ρ1 w1 hj h) (hy ρ1 w1 hj h) h1 h2) kk
theorem Vl {a b:Int} (kk:DX P ops J ρ T (i+1) (ff pv i (Is (.int .i64 (a*b)))) os ss) (hx:∀ρ1 w1,J w1→dp pv ρ ρ1 w1 s→ev ρ1 x=.int .i64 a:=by intro ρ1 w1 hj hR;first|exact hR.1|exact hR.2.1|exact hR.2.2.1|exact rfl) (hy:∀ρ1 w1,J w1→dp pv ρ ρ1 w1 s→ev ρ1 y=.int .i64 b:=by intro ρ1 w1 hj hR;first|exact hR.1|exact hR.2.1|exact hR.2.2.1|exact rfl) (h1: -9223372036854775808≤a*b:=by omega) (h2:a*b≤9223372036854775807:=by omega):DX P ops J ρ T i pv (⟨d,.binOp .mul t x y u,ty,pos,af,none⟩::os) (s::ss):=bB (fun ρ1 w1 hj h=>Mk (hx ρ1 w1 hj h) (hy ρ1 w1 hj h) h1 h2) kk
theorem JM {b:Bool} (kk:DX P ops J ρ T (i+1) (ff pv i (Is (.bool !b))) os ss) (hx:∀ρ1 w1,J w1→dp pv ρ ρ1 w1 s→ev ρ1 x=.bool b:=by intro ρ1 w1 hj hR;first|exact hR.1|exact hR.2.1|exact hR.2.2.1|exact rfl):DX P ops J ρ T i pv (⟨d,.unOp .not t x,ty,pos,af,none⟩::os) (s::ss):=bB (fun ρ1 w1 hj h=>Rc (hx ρ1 w1 hj h)) kk
theorem UE {v:Value} (kk:DX P ops J ρ T (i+1) (ff pv i (Is (v))) os ss) (hx:∀ρ1 w1,J w1→dp pv ρ ρ1 w1 s→ev ρ1 x=.tuple vs.toArray:=by intro ρ1 w1 hj hR;first|exact hR.1|exact hR.2.1|exact hR.2.2.1|exact rfl) (hv:vs[j]?=some v:=by exact rfl):DX P ops J ρ T i pv (⟨d,.extract x j,ty,pos,af,none⟩::os) (s::ss):=bB (fun ρ1 w1 hj h=>eM (hx ρ1 w1 hj h) hv) kk
theorem KT {c a b:Operand}{v:Bool} (kk:DX P ops J ρ T (i+1) (ff pv i (Is (.bool v))) os ss) (hc:∀ρ1 w1,J w1→dp pv ρ ρ1 w1 s→ev ρ1 c=.bool true:=by intro ρ1 w1 hj hR;first|exact hR.1|exact hR.2.1|exact hR.2.2.1|exact rfl) (hx:∀ρ1 w1,J w1→dp pv ρ ρ1 w1 s→ev ρ1 a=.bool v:=by intro ρ1 w1 hj hR;first|exact hR.1|exact hR.2.1|exact hR.2.2.1|exact rfl):DX P ops J ρ T i pv (⟨d,.pick c a b,ty,pos,af,none⟩::os) (s::ss):=bB (fun ρ1 w1 hj h=>Dp (hc ρ1 w1 hj h) (hx ρ1 w1 hj h)) kk
theorem P0 {c a b:Operand}{v:Bool} (kk:DX P ops J ρ T (i+1) (ff pv i (Is (.bool v))) os ss) (hc:∀ρ1 w1,J w1→dp pv ρ ρ1 w1 s→ev ρ1 c=.bool false:=by intro ρ1 w1 hj hR;first|exact hR.1|exact hR.2.1|exact hR.2.2.1|exact rfl) (hx:∀ρ1 w1,J w1→dp pv ρ ρ1 w1 s→ev ρ1 b=.bool v:=by intro ρ1 w1 hj hR;first|exact hR.1|exact hR.2.1|exact hR.2.2.1|exact rfl):DX P ops J ρ T i pv (⟨d,.pick c a b,ty,pos,af,none⟩::os) (s::ss):=bB (fun ρ1 w1 hj h=>C7 (hc ρ1 w1 hj h) (hx ρ1 w1 hj h)) kk
theorem EG {e:TypeId}{sz:Nat}{q:IntKind}{m:Int} (k:Nat) [ht:bG P t (.slice e)] [hs:TS P e sz] (kk:DX P ops J ρ T (i+1) (ff pv i (Is (.pointer (some ⟨b,k*sz,none⟩)))) os ss) (hx:∀ρ1 w1,J w1→dp pv ρ ρ1 w1 s→ev ρ1 x=.slice (some ⟨b,0,none⟩) n c:=by intro ρ1 w1 hj hR;first|exact hR.1|exact hR.2.1|exact hR.2.2.1|exact rfl) (hy:∀ρ1 w1,J w1→dp pv ρ ρ1 w1 s→ev ρ1 y=.int q m:=by intro ρ1 w1 hj hR;first|exact hR.1|exact hR.2.1|exact hR.2.2.1|exact rfl) (hm:m=(k:Int):=by omega) (h1:k<n:=by omega):DX P ops J ρ T i pv (⟨d,.indexAddr t x y,ty,pos,af,none⟩::os) (s::ss):=bB (fun ρ1 w1 hj h=>vH ht.out hs.out (hx ρ1 w1 hj h) (hy ρ1 w1 hj h) hm h1) kk
theorem np {e:TypeId}{sz:Nat}{q:IntKind}{m:Int} (k:Nat) [ht:bG P t (.slice e)] [hs:TS P e sz] (kk:DX P ops J ρ T (i+1) (ff pv i (Is (.pointer (some (ad.add (k*sz)))))) os ss) (hx:∀ρ1 w1,J w1→dp pv ρ ρ1 w1 s→ev ρ1 x=.slice (some ad) n c:=by intro ρ1 w1 hj hR;first|exact hR.1|exact hR.2.1|exact hR.2.2.1|exact rfl) (hy:∀ρ1 w1,J w1→dp pv ρ ρ1 w1 s→ev ρ1 y=.int q m:=by intro ρ1 w1 hj hR;first|exact hR.1|exact hR.2.1|exact hR.2.2.1|exact rfl) (hm:m=(k:Int):=by omega) (h1:k<n:=by omega):DX P ops J ρ T i pv (⟨d,.indexAddr t x y,ty,pos,af,none⟩::os) (s::ss):=bB (fun ρ1 w1 hj h=>ju ht.out hs.out (hx ρ1 w1 hj h) (hy ρ1 w1 hj h) hm h1) kk
theorem dC {f:FuncId}{ts:Array TypeId}{v:Value} (hc:∀w1,J w1→Calls P f vs.toArray w1 fun e w'=>e=.returned v∧Below w1.heap.size w1 w') [hf:au P f] (kk:DX P ops J ρ T (i+1) (ff pv i (Is (v))) os ss) (ha:∀ρ1 w1,J w1→dp pv ρ ρ1 w1 s→yg ρ1 args.toList=vs:=by intro ρ1 w1 hj hR;repeat (first|exact bh|(apply aC;first|exact hR.1|exact hR.2.1|exact hR.2.2.1|exact hR.2.2.2.1|exact rfl))):DX P ops J ρ T i pv (⟨d,.call ⟨.value (.func f),args,ts⟩,ty,pos,af,none⟩::os) (s::ss):=Pu (fun ρ1 w1 hj h=>bf hf.out (ha ρ1 w1 hj h)) hc kk
theorem dB {pl:List (Nat×Nat)} (cs:List Value) [hte:aJ P t n true by' zc] [hpl:ko P t pl] (kk:DX P ops J ρ T (i+1) (ff pv i (Is (.agg cs.toArray))) os ss) (hp:∀ρ1 w1,J w1→dp pv ρ ρ1 w1 s→BR ρ1 parts.toList=ps:=by intro ρ1 w1 hj hR;repeat (first|exact dN|(apply bQ;first|exact hR.1|exact hR.2.1|exact hR.2.2.1|exact hR.2.2.2.1|exact rfl))) (hf:mj (pl[·]?) zc ps=some cs:=by exact rfl):DX P ops J ρ T i pv (⟨d,.build t parts,ty,pos,af,none⟩::os) (s::ss):=bB (fun ρ1 w1 hj h=>mJ hte.out hpl.out (hp ρ1 w1 hj h) hf) kk
theorem x3 {e:TypeId}{len sz:Nat} (cs:List Value) [ht:bG P t (.slice e)] [hte:aJ P e sz ag by' zc] (kk:DX P ops J ρ T (i+1) (ff pv i (Rows len sz cs)) os ss) (hp:∀ρ1 w1,J w1→dp pv ρ ρ1 w1 s→BR ρ1 parts.toList=ps:=by intro ρ1 w1 hj hR;repeat (first|exact dN|(apply bQ;first|exact hR.1|exact hR.2.1|exact hR.2.2.1|exact hR.2.2.2.1|exact rfl))) (hzl:zc.length=sz:=by exact rfl) (hf:mj (fun i=>some (i*sz,sz)) (iK len zc) ps=some cs:=by exact rfl) (h0:¬len*sz=0:=by decide) (hsl:len*sz≤16777216:=by decide) (hl:cs.length=len*sz:=by exact rfl):DX P ops J ρ T i pv (⟨d,.buildSlice t len parts,ty,pos,af,none⟩::os) (s::ss):=xM ht.out hte.out hp hzl hf h0 hsl hl kk
theorem dS {b c:Bool}{op:Op} (kk:DX P ops J ρ T (i+1) (ff pv i (Is (undef))) os ss) (hj:(ops[j]?).bind (·.dst)=some dj:=by exact rfl) (hv:∀ρ1 w1,J w1→dp pv ρ ρ1 w1 s→ρ1 dj=.bool c:=by intro ρ1 w1 hj hR;first|exact hR.1|exact hR.2.1|exact hR.2.2.1|exact hR.2.2.2.1) (hb:c≠b:=by decide):DX P ops J ρ T i pv (⟨d,op,ty,pos,af,some (j,b)⟩::os) (s::ss):=pd hj hv hb kk
theorem dU {b:Bool}{op:Op} (kk:DX P ops J ρ T (i+1) (ff pv i (Is (undef))) os ss) (hj:(ops[j]?).bind (·.dst)=some dj:=by exact rfl) (hv:∀ρ1 w1,J w1→dp pv ρ ρ1 w1 s→ρ1 dj=undef:=by intro ρ1 w1 hj hR;first|exact hR.1|exact hR.2.1|exact hR.2.2.1|exact hR.2.2.2.1):DX P ops J ρ T i pv (⟨d,op,ty,pos,af,some (j,b)⟩::os) (s::ss):=BL hj hv kk
theorem dG {b:Bool}{op:Op} (kk:DX P ops J ρ T i pv (⟨d,op,ty,pos,af,none⟩::os) (s::ss)) (hj:(ops[j]?).bind (·.dst)=some dj:=by exact rfl) (hv:∀ρ1 w1,J w1→dp pv ρ ρ1 w1 s→ρ1 dj=.bool b:=by intro ρ1 w1 hj hR;first|exact hR.1|exact hR.2.1|exact hR.2.2.1|exact hR.2.2.2.1):DX P ops J ρ T i pv (⟨d,op,ty,pos,af,some (j,b)⟩::os) (s::ss):=let ⟨V,h1,h2,h3⟩:=kk;⟨V,h1,fun ρ1 w1 hj1 h=>eN hj (hv ρ1 w1 hj1 h) (h2 ρ1 w1 hj1 h),h3⟩
end
variable {cy:Nat}{ys:List Nat}
section
variable {ro:Mode}
section
variable {P:Program}{N:Nat}{ops:Array Oper}{Q:Kq}{ρ:Rf}{w w0:World}{rest:List Oper}{H:List HE}{d:Nat}{ty:TypeId}{pos:String}{af:Array Edge}
theorem HT (hh:Hp w0 H w) {t s e:TypeId}{x y:Operand}{i dl dc sz:Nat}{B:Option Addr}{xs news:List Value} (hi:H[i]?=some (.row (some ⟨b,0,none⟩) m c e sz xs)) (hx:ev ρ x=.slice (some ⟨b,o,none⟩) dl dc) (hy:ev ρ y=.slice B n cy)
  (hsl:Sl w B n sz news) (ht:P.underlying t=some (.slice e)) (hte:eu P e=some (sz,ag,by',zc)) (ho:o+min n dl*sz≤xs.length) (h1:(news.all Value.oneCell')=true) (hN:d<N)
  (kk:∀w',Hp w0 (H.set i (.row (some ⟨b,0,none⟩) m c e sz (cm xs o (news.take (min n dl*sz))))) w'→WL ro P N ops Q rest (cP ρ d (.int .i64 ((min n dl:Nat):Int))) w'):
  WL ro P N ops Q (⟨some d,.call ⟨.builtin .copy, #[x,y], #[t,s]⟩,ty,pos,af,none⟩::rest) ρ w:=by
 obtain ⟨inf,z,dd,hti,hd,hz,hsz,hby,hzc,_⟩:=gW hte;have hrow:=hh.at_ hi;obtain ⟨hlen,h2⟩:=hrow;have hnl:=hsl.1;have hmin:min n dl*sz≤n*sz:=Zo _ (Nat.min_le_left _ _);have hvl:(news.take (min n dl*sz)).length=min n dl*sz:=by rw [YM];omega
 have h1':∀v∈news.take (min n dl*sz),v.oneCell'=true:=fun v hv=>Y0.1 h1 v (aad hv);have hcells:(Builtin.firstCells sz (min n dl) (.slice B n cy)).run P w=.ok (news.take (min n dl*sz)).toArray w:=by
  cases B with
  |none=>
   have h0:n=0:=by
    rcases aac n with h0|h0
    ·exact h0
    ·obtain ⟨ad,h1,_⟩:=hsl.2 h0;cases h1
   subst h0;simp [Builtin.firstCells]
  |some ad=>
   have hrd:∀j u,(news.take (min n dl*sz))[j]?=some u→w.cell? (ad.add j)=some u:=by
    intro j u hj;rw [ZX] at hj;split at hj
    ·rcases aac n with h0|h0
     ·subst h0;have:news=[]:=aai (by simpa using hnl);simp [this] at hj
     ·obtain ⟨ad',he,hr'⟩:=hsl.2 h0;injection he with he
      subst he;exact hr' j u hj
    ·cases hj
   have:=run_loadCells_list (P:=P) w ad _ hrd;rw [hvl] at this;simpa [Builtin.firstCells] using this
 generalize news.take (min n dl*sz)=vs at hvl h1' hcells kk;rw [←hvl] at ho
 rcases h2 with ⟨h2,_⟩|⟨g,cap,cur,hv,hg,hheap,hmc,hcm,hcur,htake⟩
 ·injection h2 with h2;cases h2
 ·injection hv with hA hn hcap
  injection hA with hA
  injection hA with hA
  subst hA;subst hcap;have hcl:cur.size=cur.toList.length:=by simp
  have hle:m*sz≤c*sz:=Zo _ hmc;obtain ⟨w',hr,hb',hgr,hs⟩:=hZ (P:=P) (b:=b) (t:=e) (fz:=(0,0)) o vs 0 cur.toList w (by simpa using hheap) (.inr (YA _)) (by rw [←hcl];omega) h1';refine aV rfl rfl hN (w':=w') (v:=.int .i64 ((min n dl:Nat):Int)) ?_ (kk w' (hh.grown hi hgr (.inl rfl) ⟨by rw [fU Yo];exact hlen,.inr ⟨b,c,(cm cur.toList o vs).toArray,rfl,hg,by simpa using hb',hmc,hcm, ?_, ?_⟩⟩))
  ·have hmm:Nat.min n dl=min n dl:=rfl;simp only [execOp,resolve,invoke,hx,hy,List.map_toArray,Y6,Zv];simp [builtin,Builtin.copy_,run_underlying ht,Builtin.lenOf,sizeOf,typeInfo,hti,hsz,hmm,hcells,hr,goInt]
  ·simp only [abf];rw [fU (by rw [←hcl];omega),←hcl,hcur]
  ·exact UX
end
end
def aZ (B:Nat):List Nat→Nat
 |[]=>0
 |d::l=>d+B*aZ B l
def bX (B:Nat):Nat→Nat→List Nat
 |0,_=>[]
 |k+1,n=>n % B::bX B k (n/B)
def eJ:List Nat→List Nat
 |[]=>[]
 |d::l=>match eJ l with
  |[]=>if d=0 then [] else [d]
  |e::m=>d::e::m
def aR (B n:Nat):List Nat:=eJ (bX B (n.log2+1) n)
def Dg (B:Nat) (l:List Nat):Prop:=∀d∈l,d<B
section
variable {B:Nat}
theorem Dg.nil:Dg B []:=fun _ h=>(nomatch h)
theorem Dg.cons {d:Nat}{l:List Nat} (h:d<B) (hl:Dg B l):Dg B (d::l):=fun x hx=>by
 rcases YH.1 hx with rfl|hx
 ·exact h
 ·exact hl x hx
theorem Dg.head {d:Nat}{l:List Nat} (h:Dg B (d::l)):d<B:=h d YD
theorem Dg.tail {d:Nat}{l:List Nat} (h:Dg B (d::l)):Dg B l:=fun x hx=>h x (YK _ hx)
theorem Dg.append {l m:List Nat} (h:Dg B l) (h':Dg B m):Dg B (l++m):=fun x hx=>by
 rcases Zm.1 hx with hx|hx
 ·exact h x hx
 ·exact h' x hx
theorem Dg.sub {l m:List Nat} (h:Dg B l) (h':m.Sublist l):Dg B m:=fun x hx=>h x (h'.subset hx)
theorem Dg.take {l:List Nat} (h:Dg B l) (n:Nat):Dg B (l.take n):=h.sub (List.take_sublist n l)
theorem Dg.drop {l:List Nat} (h:Dg B l) (n:Nat):Dg B (l.drop n):=h.sub (List.drop_sublist n l)
theorem Dg.at_ {l:List Nat} (h:Dg B l) {i d:Nat} (hi:l[i]?=some d):d<B:=h d (Yy hi)
theorem Dg.LY {l:List Nat} (h:Dg B l) (i:Nat) {d:Nat} (hd:d<B):Dg B (l.set i d):=fun x hx=>by
 rcases List.mem_or_eq_of_mem_set hx with hx|rfl
 ·exact h x hx
 ·exact hd
theorem Dg.fi (hB:0<B) (n:Nat):Dg B (List.replicate n 0):=fun x hx=>by rw [List.eq_of_mem_replicate hx];exact hB
theorem db (l m:List Nat):aZ B (l++m)=aZ B l+B^l.length*aZ B m:=by
 induction l with
 |nil=>simp [aZ]
 |cons d l ih=>simp only [YB,aZ,ih,Y3,Zh];rw [Zj,abc];congr 2;rw [←Zw,YO B]
theorem gQ {l:List Nat} (h:Dg B l):aZ B l<B^l.length:=by
 induction l with
 |nil=>simp [aZ]
 |cons d l ih=>
  have h1:=ih h.tail;have h2:=h.head;simp only [aZ,Y3,Zh]
  calc d+B*aZ B l<B+B*aZ B l:=by omega
   _=B*(aZ B l+1):=by rw [Zj,YV,aat]
   _≤B*B^l.length:=Y4 _ h1
   _=B^l.length*B:=YO _ _
theorem kb (n:Nat):aZ B (List.replicate n 0)=0:=by
 induction n with
 |zero=>rfl
 |succ n ih=>simp [aaT,aZ,ih]
theorem aW (k n:Nat):(bX B k n).length=k:=by
 induction k generalizing n with
 |zero=>rfl
 |succ k ih=>simp [bX,ih]
theorem gP (hB:0<B) (k n:Nat):Dg B (bX B k n):=by
 induction k generalizing n with
 |zero=>exact Dg.nil
 |succ k ih=>exact Dg.cons (YU _ hB) (ih _)
theorem NS (k n:Nat):aZ B (bX B k n)=n % B^k:=by
 induction k generalizing n with
 |zero=>simp [bX,aZ,Nat.mod_one]
 |succ k ih=>rw [bX,aZ,ih,Zh,YO (B^k),Nat.mod_mul]
theorem cX (h:n<B^k):aZ B (bX B k n)=n:=by rw [NS,Za h]
theorem rv {l:List Nat} (h:Dg B l):bX B l.length (aZ B l)=l:=by
 induction l with
 |nil=>rfl
 |cons d l ih=>
  have hd:=h.head;simp only [Y3,bX,aZ];rw [aaA,Za hd,ZR _ _ Yo,Zt hd,YZ,ih h.tail]
theorem AH {l m:List Nat} (hl:Dg B l) (hm:Dg B m) (hlen:l.length=m.length) (h:aZ B l=aZ B m):l=m:=by
 rw [←rv hl,←rv hm,hlen,h]
theorem jV (k n i:Nat) (h:i<k):(bX B k n)[i]?=some (n/B^i % B):=by
 induction k generalizing n i with
 |zero=>omega
 |succ k ih=>
  cases i with
  |zero=>simp [bX]
  |succ i=>simp only [bX,abe];rw [ih _ _ Yo,ZS,Zh,YO B]
theorem um {l:List Nat} (h:Dg B l) {i d:Nat} (hi:l[i]?=some d):aZ B l/B^i % B=d:=by
 have h1:=jV (B:=B) l.length (aZ B l) i (YL.1 hi).1;rw [rv h,hi] at h1;injection h1 with h1
 exact h1.symm
theorem qF {l:List Nat} (h:Dg B l) {i:Nat} (hi:l.length≤i) (hB:0<B):aZ B l/B^i=0:=
 Zt (Zl (gQ h) (Zf hB hi))
theorem ic (l:List Nat) (i:Nat) (h:i≤l.length):aZ B l=aZ B (l.take i)+B^i*aZ B (l.drop i):=by
 have:=db (B:=B) (l.take i) (l.drop i);rw [Zy,List.length_take_of_le h] at this;exact this
theorem CQ {l:List Nat} (h:Dg B l) (i:Nat) (hB:0<B):aZ B (l.drop i)=aZ B l/B^i:=by
 by_cases hi:i≤l.length
 ·rw [ic l i hi];have h1:=gQ (h.take i);rw [List.length_take_of_le hi] at h1;rw [ZR _ _ (YY hB),Zt h1,YZ]
 ·rw [abS Yo,qF h Yo hB];rfl
theorem Le {l:List Nat} (h:Dg B l) (i:Nat) (hi:i≤l.length):aZ B (l.take i)=aZ B l % B^i:=by
 rw [ic l i hi,aaA,Za];have h1:=gQ (h.take i);rwa [List.length_take_of_le hi] at h1
theorem jP (l:List Nat):aZ B (eJ l)=aZ B l:=by
 induction l with
 |nil=>rfl
 |cons d l ih=>
  simp only [eJ,aZ];split
  ·rename_i h;rw [h] at ih;simp only [aZ] at ih;split
   ·rename_i h0;rw [h0,←ih];simp [aZ]
   ·rw [←ih];simp [aZ]
  ·rename_i e m h;rw [h] at ih;rw [←ih];rfl
theorem kG (l:List Nat):eJ l=l.take (eJ l).length:=by
 induction l with
 |nil=>rfl
 |cons d l ih=>
  simp only [eJ];split
  ·split
   ·rfl
   ·simp
  ·rename_i e m h;rw [h] at ih;simp only [Y3,abq] at ih ⊢;rw [←ih]
theorem fh (l:List Nat):(eJ l).length≤l.length:=by
 have:=Ze List.length (kG l);rw [YM] at this;omega
theorem yz (l:List Nat):(eJ l).getLast?≠some 0:=by
 induction l with
 |nil=>simp [eJ]
 |cons d l ih=>
  simp only [eJ];split
  ·split
   ·simp
   ·simpa
  ·rename_i e m h;rw [h] at ih;rwa [List.getLast?_cons_cons]
theorem Dg.cut {l:List Nat} (h:Dg B l):Dg B (eJ l):=by rw [kG];exact h.take _
theorem J2 {l:List Nat} (h:l.getLast?≠some 0):eJ l=l:=by
 induction l with
 |nil=>rfl
 |cons d l ih=>
  cases l with
  |nil=>simp only [eJ];rw [Yu];intro h0;subst h0;simp at h
  |cons e m=>
   rw [List.getLast?_cons_cons] at h;rw [eJ,ih h]
theorem vh (l:List Nat):eJ (l++[0])=eJ l:=by
 induction l with
 |nil=>simp [eJ]
 |cons d l ih=>simp only [YB,eJ,ih]
theorem yy {l:List Nat}{d:Nat} (h:d≠0):eJ (l++[d])=l++[d]:=J2 (by simpa using h)
def Can (B:Nat) (l:List Nat):Prop:=Dg B l∧l.getLast?≠some 0
theorem Can.cut {l:List Nat} (h:Dg B l):Can B (eJ l):=⟨h.cut,yz l⟩
theorem Nf {l:List Nat} (h:l.getLast?≠some 0) (hn:l≠[]):B^(l.length-1)≤aZ B l:=by
 have h1:=List.dropLast_concat_getLast hn;have h2:l.getLast hn≠0:=by
  intro h0;apply h;rw [List.getLast?_eq_some_getLast hn,h0]
 rw [←h1,db];simp only [YE,List.length_dropLast,Y3,abn];have:l.length-1+(0+1)-1=l.length-1:=Yo;rw [this];simp only [aZ,aaK,ZM];exact Y1 (abM _ (Nat.pos_of_ne_zero h2)) (Nat.le_add_left _ _)
theorem Can.vw {l m:List Nat} (hl:Can B l) (hm:Can B m) (hB:1<B) (h:aZ B l≤aZ B m):l.length≤m.length:=by
 rcases Zb m.length l.length with hlt|hge
 ·exfalso;have hn:l≠[]:=by intro h0;simp [h0] at hlt
  have h1:=Nf (B:=B) hl.2 hn;have h2:=gQ hm.1;have h3:B^m.length≤B^(l.length-1):=Zf Yo Yo;exact Nat.lt_irrefl _ (Zl h2 (Y1 h3 (Y1 h1 h)))
 ·exact hge
theorem Can.inj {l m:List Nat} (hl:Can B l) (hm:Can B m) (hB:1<B) (h:aZ B l=aZ B m):l=m:=
 AH hl.1 hm.1 (Nat.le_antisymm (hl.vw hm hB (Nat.le_of_eq h)) (hm.vw hl hB (Nat.le_of_eq h.symm))) h
theorem eW (hB:0<B) (n:Nat):Can B (aR B n):=Can.cut (gP hB _ _)
theorem CD (hB:1<B) (n:Nat):n<B^(n.log2+1):=by
 have h1:n<2^(n.log2+1):=Nat.lt_log2_self;exact Zl h1 (Nat.pow_le_pow_left hB _)
theorem fk (hB:1<B) (n:Nat):aZ B (aR B n)=n:=by
 rw [aR,jP,cX (CD hB n)]
theorem CI (hB:1<B) {l:List Nat} (h:Can B l):aR B (aZ B l)=l:=
 (eW Yo _).inj h hB (fk hB _)
theorem jB (hB:1<B) {l:List Nat} (h:Dg B l):eJ l=aR B (aZ B l):=by
 rw [←jP,CI hB (Can.cut h)]
theorem iT (hB:1<B):aR B 0=[]:=(eW Yo 0).inj ⟨Dg.nil,by simp⟩ hB (by rw [fk hB];rfl)
theorem rz (hB:1<B):aR B n=[]↔n=0:=by
 constructor
 ·intro h;have:=fk hB n;rw [h] at this;exact this.symm
 ·intro h;rw [h,iT hB]
theorem gL (hB:1<B) (h:n<B^k):(aR B n).length≤k:=by
 have h1:eJ (bX B k n)=aR B n:=by rw [jB hB (gP Yo _ _),cX h]
 have:=fh (bX B k n);rw [h1,aW] at this;exact this
theorem m8 (hB:1<B) (n:Nat):n<B^(aR B n).length:=by
 have:=gQ (eW (B:=B) Yo n).1;rwa [fk hB] at this
theorem ke (hB:1<B) {a:Nat} (h:a≤b):(aR B a).length≤(aR B b).length:=
 (eW Yo a).vw (eW Yo b) hB (by rw [fk hB,fk hB];exact h)
theorem uW (hB:1<B) {i:Nat} (h:i<(aR B n).length):(aR B n)[i]?=some (n/B^i % B):=by
 have h1:=ZP h;rw [h1];have h2:=um (eW (B:=B) Yo n).1 h1;rw [fk hB] at h2;rw [h2]
theorem J4 (hB:1<B) (h:n≠0):aR B n=n % B::aR B (n/B):=by
 refine (eW Yo n).inj ⟨Dg.cons (YU _ Yo) (eW Yo _).1, ?_⟩ hB ?_
 ·cases hd:aR B (n/B) with
  |nil=>
   rw [rz hB] at hd;have:n=n % B:=by have:=ZJ n B;rw [hd] at this;simpa using this.symm
   simp only [List.getLast?_singleton];intro h0;injection h0 with h0;omega
  |cons e m=>
   rw [List.getLast?_cons_cons,←hd];exact (eW Yo _).2
 ·rw [fk hB,aZ,fk hB];have:=ZJ n B;omega
theorem LS (hB:1<B) (h:n<B^k):bX B k n=aR B n++List.replicate (k-(aR B n).length) 0:=by
 have hl:=gL hB h;refine AH (B:=B) (gP Yo _ _) ((eW Yo _).1.append (Dg.fi Yo _)) ?_ ?_
 ·rw [aW,YE,ZG];omega
 ·rw [cX h,db,fk hB,kb];simp
end
section
variable {B:Nat}
def BH:List Nat→Nat
 |[]=>0
 |d::_=>d
theorem LR (ys:List Nat):aZ B ys=BH ys+B*aZ B ys.tail:=by cases ys<;>simp [aZ,BH]
theorem Tr (h:Dg B ys) (hB:0<B):BH ys<B:=by
 cases ys with
 |nil=>exact hB
 |cons d l=>exact h.head
theorem Dg.tl (h:Dg B ys):Dg B ys.tail:=by
 cases ys with
 |nil=>exact h
 |cons d l=>exact h.tail
theorem vz (ys:List Nat) (i:Nat):BH (ys.drop i)=(ys[i]?).getD 0:=by
 induction ys generalizing i with
 |nil=>simp [BH]
 |cons d l ih=>cases i with
  |zero=>rfl
  |succ i=>simpa using ih i
theorem tail_drop (ys:List Nat) (i:Nat):(ys.drop i).tail=ys.drop (i+1):=by
 induction ys generalizing i with
 |nil=>simp
 |cons d l ih=>cases i with
  |zero=>rfl
  |succ i=>simp
theorem CS {B a:Nat} (hB:0<B) (h:a+B*b<B*n):b+a/B<n:=by
 have h1:(a+B*b)/B<n:=by rw [ZH hB,YO n];exact h
 rw [ZR _ _ hB] at h1;omega
def iz (B:Nat):List Nat→List Nat→Nat→Nat→List Nat
 |[],_,_,_=>[]
 |x::xs,ys,m,c=>(x+BH ys*m+c) % B::iz B xs ys.tail m ((x+BH ys*m+c)/B)
theorem mH (xs ys:List Nat) (m c:Nat):(iz B xs ys m c).length=xs.length:=by
 induction xs generalizing ys c with
 |nil=>rfl
 |cons x xs ih=>simp [iz,ih]
theorem wG (hB:0<B) (xs ys:List Nat) (m c:Nat):Dg B (iz B xs ys m c):=by
 exact SU
theorem sA (hB:0<B) (xs ys:List Nat) (m c:Nat) (h:aZ B xs+aZ B ys*m+c<B^xs.length):aZ B (iz B xs ys m c)=aZ B xs+aZ B ys*m+c:=by
 induction xs generalizing ys c with
 |nil=>simp only [abn,aa4,aZ] at h;simp only [iz,aZ];omega
 |cons x xs ih=>
  have e:aZ B (x::xs)+aZ B ys*m+c=(x+BH ys*m+c)+B*(aZ B xs+aZ B ys.tail*m):=by
   rw [aZ,LR ys,aaJ,Zj,Zw];omega
  rw [Y3,Zh,YO _ B,e] at h;have h1:=CS hB h;simp only [iz,aZ];rw [ih _ _ h1,←aZ,e,Zj];have:=aba (x+BH ys*m+c) B;omega
def qp (B:Nat):List Nat→List Nat→Nat→List Nat
 |[],_,_=>[]
 |x::xs,ys,b=>(x+B-BH ys-b) % B::qp B xs ys.tail (if x<BH ys+b then 1 else 0)
def D9 (B:Nat):List Nat→List Nat→Nat→Nat
 |[],_,b=>b
 |x::xs,ys,b=>D9 B xs ys.tail (if x<BH ys+b then 1 else 0)
theorem CT (xs ys:List Nat) (c:Nat):(qp B xs ys c).length=xs.length:=by
 induction xs generalizing ys c with
 |nil=>rfl
 |cons x xs ih=>simp [qp,ih]
theorem I1 (hB:0<B) (xs ys:List Nat) (c:Nat):Dg B (qp B xs ys c):=by
 exact SU
theorem Dw (hB:0<B) (xs ys:List Nat) (b:Nat) (hx:Dg B xs) (hy:Dg B ys) (hb:b≤1) (h:aZ B ys+b≤aZ B xs):aZ B (qp B xs ys b)+aZ B ys+b=aZ B xs∧D9 B xs ys b=0:=by
 induction xs generalizing ys b with
 |nil=>simp only [aZ] at h;simp only [qp,D9,aZ];omega
 |cons x xs ih=>
  have hx0:=hx.head;have hy0:=Tr hy hB;have e:=LR (B:=B) ys;simp only [aZ,qp,D9] at h ⊢;by_cases hlt:x<BH ys+b
  ·rw [Yt hlt];have h1:aZ B ys.tail+1≤aZ B xs:=by
    refine abl fun hle=> ?_;have:=Y4 B hle;omega
   obtain ⟨i1,i2⟩:=ih ys.tail 1 hx.tail hy.tl Yo h1;refine ⟨?_,i2⟩;have h2:=Ze (B* ·) i1;simp only [Zj] at h2;rw [Za Yo];omega
  ·rw [Yu hlt];have h1:aZ B ys.tail+0≤aZ B xs:=by
    refine abI fun hle=> ?_;have:=Y4 B (Nat.succ_le_of_lt hle);simp only [ZZ,ZM] at this;omega
   obtain ⟨i1,i2⟩:=ih ys.tail 0 hx.tail hy.tl Yo h1;refine ⟨?_,i2⟩;have h2:=Ze (B* ·) i1;simp only [Zj,ZM] at h2;have h3:x+B-BH ys-b=(x-BH ys-b)+B:=Yo;rw [h3,Nat.add_mod_right,Za Yo];omega
theorem Jc (xs:List Nat) (i d:Nat) (hi:xs[i]?=some o):aZ B (xs.set i d)+B^i*o=aZ B xs+B^i*d:=by
 induction xs generalizing i with
 |nil=>simp at hi
 |cons x xs ih=>
  cases i with
  |zero=>simp only [abh,aag] at hi;subst hi;simp only [YG,aZ,aa4,aaC];omega
  |succ i=>
   have:=Ze (B* ·) (ih i hi);simp only [Zj,←Zw] at this;simp only [Y8,aZ,Zh,YO _ B];omega
theorem FA {l m:List Nat}{x y:Nat} (hl:Dg B l) (hlen:l.length=m.length) (h:x<y):aZ B (l++[x])<aZ B (m++[y]):=by
 rw [db,db,hlen];have h1:=gQ hl;rw [hlen] at h1;have h2:B^m.length*(x+1)≤B^m.length*y:=Y4 _ h;simp only [aZ,aaK,ZM,ZZ] at h2 ⊢;omega
def jH (a b:Nat):Int:=if a<b then -1 else if b<a then 1 else 0
theorem lF {a:Nat} (h:a<b):jH a b= -1:=by simp [jH,h]
theorem qD {a:Nat} (h:b<a):jH a b=1:=by simp only [jH];rw [Yu Yo,Yt h]
theorem Hm {a:Nat} (h:a=b):jH a b=0:=by simp only [jH];rw [Yu Yo,Yu Yo]
theorem ze {xs:List Nat}{x y:Nat} (hx:Dg B xs) (hxk:xs[k]?=some x) (hyk:ys[k]?=some y) (hd:xs.drop (k+1)=ys.drop (k+1)) (hlt:x<y):aZ B xs<aZ B ys:=by
 have lx:=(YL.1 hxk).1;have ly:=(YL.1 hyk).1;rw [ic xs (k+1) lx,ic ys (k+1) ly,hd];have e1:xs.take (k+1)=xs.take k++[x]:=by rw [List.take_add_one,hxk];rfl
 have e2:ys.take (k+1)=ys.take k++[y]:=by rw [List.take_add_one,hyk];rfl
 have:=FA (B:=B) (m:=ys.take k) (hx.take k) (by rw [YM,YM];omega) hlt;rw [e1,e2];omega
theorem AE {xs:List Nat}{x y:Nat} (hxk:xs[k]?=some x) (hyk:ys[k]?=some y) (hd:xs.drop (k+1)=ys.drop (k+1)) (h:x=y):xs.drop k=ys.drop k:=by
 obtain ⟨lx,ex⟩:=YL.1 hxk;obtain ⟨ly,ey⟩:=YL.1 hyk;rw [aal lx,aal ly,hd,ex,ey,h]
end
section
variable {B:Nat}
theorem qW {v:Nat} (hB:0<B) (hj:j<k) (hn:n+B^j*v<B^k) (hv:n/B^j % B+v<B):(bX B k n).set j (n/B^j % B+v)=bX B k (n+B^j*v):=by
 refine AH (B:=B) ((gP hB _ _).LY _ hv) (gP hB _ _) (by rw [aas,aW,aW]) ?_;have h1:=Jc (B:=B) (bX B k n) j (n/B^j % B+v) (jV k n j hj);rw [cX Yo] at h1;rw [cX hn];rw [Zj] at h1;omega
theorem sK (k:Nat):bX B k 0=List.replicate k 0:=by
 induction k with
 |zero=>rfl
 |succ k ih=>simp [bX,ih,aaT]
def B5 (s:List UInt8):List Nat:=(s.map UInt8.toNat).reverse
def bn (s:List UInt8):Nat:=aZ 256 (B5 s)
def sb (n:Nat):List UInt8:=((aR 256 n).map UInt8.ofNat).reverse
theorem p9 (s:List UInt8):(B5 s).length=s.length:=by simp [B5]
theorem Ah (s:List UInt8):Dg 256 (B5 s):=fun d hd=>by
 obtain ⟨c,_,rfl⟩:=YF.1 (aau.1 hd);exact c.toNat_lt
theorem RT (s:List UInt8):bn s<256^s.length:=by have:=gQ (Ah s);rwa [p9] at this
theorem Lh {s:List UInt8}{i:Nat}{c:UInt8} (hi:i<s.length) (h:s[s.length-1-i]?=some c):(B5 s)[i]?=some c.toNat:=by
 unfold B5;rw [aam (by simpa using hi),YI,YJ,h];rfl
theorem Np (n:Nat):B5 (sb n)=aR 256 n:=by
 unfold B5 sb;rw [List.map_reverse,abW,Zs];have:∀l:List Nat,Dg 256 l→l.map (UInt8.toNat ∘ UInt8.ofNat)=l:=by
  intro l
  induction l with
  |nil=>intro _;rfl
  |cons d l ih=>
   intro h;have hd:=h.head;simp only [Y6,ih h.tail,Function.comp];congr 1;simp only [abz];omega
 exact this _ (eW Yo n).1
theorem U5 (n:Nat):bn (sb n)=n:=by rw [bn,Np,fk Yo]
theorem Ka (n:Nat):(sb n).length=(aR 256 n).length:=by simp [sb]
theorem Qj {s t:List UInt8} (h:B5 s=B5 t):s=t:=by
 have h1:=List.reverse_inj.1 h;exact (List.map_inj_right fun a b h=>abj.1 h).1 h1
theorem VS {s:List UInt8} (h:B5 s=aR 256 n):s=sb n:=Qj (by rw [h,Np])
theorem Pv:sb 0=[]:=by rw [sb,iT Yo];rfl
theorem Lj (s:List UInt8):bn (0::s)=bn s:=by
 unfold bn B5;rw [Y6,aaS,db];simp [aZ]
theorem VB {s:List UInt8} (h:s.head?≠some 0):sb (bn s)=s:=by
 refine (VS ?_).symm;rw [bn,CI Yo ⟨Ah s, ?_⟩];unfold B5;rw [List.getLast?_reverse,List.head?_map]
 cases s with
 |nil=>simp
 |cons c s=>
  simp only [List.head?_cons,aaj];intro h0;injection h0 with h0
  apply h;simp only [List.head?_cons];congr 1;exact abj.1 (by simpa using h0)
end
def bE (n:Nat):Nat:=(aR 2 n).length
theorem mn:bE 0=0:=by rw [bE,iT Yo];rfl
theorem cR (n:Nat):n<2^bE n:=m8 Yo n
theorem dy (h:n<2^k):bE n≤k:=gL Yo h
theorem Aj (h:n≠0):2^(bE n-1)≤n:=by
 have h1:=Nf (B:=2) (eW (B:=2) Yo n).2 (fun h0=>h ((rz Yo).1 h0));rwa [fk Yo] at h1
theorem nO (h:n≠0):0<bE n:=by
 rw [bE];have:aR 2 n≠[]:=fun h0=>h ((rz Yo).1 h0);exact List.length_pos_iff.2 this
theorem Ak (h1:n<2^k) (h2:2^(k-1)≤n):bE n=k:=by
 have h3:=dy h1
 rcases Zb (bE n) k with h|h
 ·have h4:=cR n;have h5:2^bE n≤2^(k-1):=Zf Yo Yo;omega
 ·omega
theorem Cp {B:Nat} (hB:B=2^b) {l:List Nat}{d:Nat} (hl:Dg B l) (hlen:l.length=m) (hd:d≠0):bE (aZ B (l++[d]))=b*m+bE d:=by
 have hlt:=gQ hl;rw [hlen] at hlt;have hp:B^m=2^(b*m):=by rw [hB,←Zk]
 rw [db,hlen];simp only [aZ,aaK,ZM];rw [hp] at hlt ⊢;apply Ak
 ·have h1:=cR d;have h2:2^(b*m)*(d+1)≤2^(b*m)*2^bE d:=Y4 _ h1;rw [YW];rw [ZZ] at h2;omega
 ·have h1:=Aj hd;have h2:=nO hd;have e:b*m+bE d-1=b*m+(bE d-1):=Yo;rw [e,YW];have h3:2^(b*m)*2^(bE d-1)≤2^(b*m)*d:=Y4 _ h1;omega
theorem Fz {a s:Nat} (h:a<2^s):a|||(c*2^s)=a+c*2^s:=by
 have h1:=Nat.shiftLeft_add_eq_or_of_lt h c;rw [Nat.shiftLeft_eq] at h1;rw [Nat.or_comm,←h1,aat]
theorem Qm {i:Nat} (n:Nat) (hn:n<256^i) (hc:c<256) (hi:i/8<k):
  n/18446744073709551616^(i/8) % 18446744073709551616<2^(i % 8*8)∧c*2^(i % 8*8)<18446744073709551616∧
  (bX 18446744073709551616 k n).set (i/8) (n/18446744073709551616^(i/8) % 18446744073709551616+c*2^(i % 8*8))=bX 18446744073709551616 k (n+256^i*c):=by
 have hW:(18446744073709551616:Nat)=2^64:=by decide
 have h256:(256:Nat)=2^8:=by decide
 have hp:256^i=18446744073709551616^(i/8)*2^(i % 8*8):=by
  rw [hW,h256,←Zk,←Zk,←YW];congr 1;omega
 have h1:n/18446744073709551616^(i/8)<2^(i % 8*8):=by
  rw [ZH (YY Yp),YO,←hp];exact hn
 have hs:2^(i % 8*8)*256≤18446744073709551616:=by
  rw [h256,hW,←YW];exact Zf Yo Yo
 have h2:n/18446744073709551616^(i/8) % 18446744073709551616<2^(i % 8*8):=Zr (Nat.mod_le _ _) h1;have h3:(c+1)*2^(i % 8*8)≤256*2^(i % 8*8):=Zo _ hc;rw [ZA] at h3;have hpos:0<2^(i % 8*8):=YY Yo;refine ⟨h2,Yo, ?_⟩;have h4:256^i*c=18446744073709551616^(i/8)*(c*2^(i % 8*8)):=by rw [hp,Zw,YO c]
 rw [h4];refine qW Yp hi ?_ Yo;rw [←h4];have h5:256^i*(c+1)≤256^i*256:=Y4 _ hc;have h6:256^i*256≤18446744073709551616^k:=by
  have:256^i*256=2^(8*(i+1)):=by rw [h256,←Zk,←YW];congr 1
  rw [this,hW,←Zk];exact Zf Yo Yo
 rw [ZZ] at h5;omega
theorem JD (n i:Nat):n/18446744073709551616^(i/8) % 18446744073709551616/2^(i % 8*8) % 256=n/256^i % 256:=by
 have hW:(18446744073709551616:Nat)=2^64:=by decide
 have h256:(256:Nat)=2^8:=by decide
 have hp:256^i=18446744073709551616^(i/8)*2^(i % 8*8):=by
  rw [hW,h256,←Zk,←Zk,←YW];congr 1;omega
 rw [hp,←ZS];generalize n/18446744073709551616^(i/8)=m;have e:(18446744073709551616:Nat)=2^(i % 8*8)*2^(64-i % 8*8):=by rw [←YW,hW];congr 1;omega
 rw [e,Nat.mod_mul_right_div_self];have e2:2^(64-i % 8*8)=256*2^(56-i % 8*8):=by rw [h256,←YW];congr 1;omega
 rw [e2,Nat.mod_mul_right_mod]
theorem zF (n j s:Nat) (hs:s<64) (h0:0<s):
  (n/18446744073709551616^j % 18446744073709551616/2^s)<2^(64-s)∧
  n/18446744073709551616^j % 18446744073709551616/2^s+n/18446744073709551616^(j+1) % 2^s*2^(64-s)=n/2^(64*j+s) % 18446744073709551616:=by
 have hW:(18446744073709551616:Nat)=2^64:=by decide
 have e:(18446744073709551616:Nat)=2^s*2^(64-s):=by rw [←YW,hW];congr 1;omega
 have hp:(18446744073709551616:Nat)^(j+1)=18446744073709551616^j*18446744073709551616:=Zh ..;rw [hp,←ZS,YW,Zk,←hW,←ZS];generalize n/18446744073709551616^j=m;have e1:m % 18446744073709551616/2^s=m/2^s % 2^(64-s):=by rw [e,Nat.mod_mul_right_div_self]
 rw [e1];refine ⟨YU _ (YY Yo), ?_⟩;have e2:m/18446744073709551616=m/2^s/2^(64-s):=by rw [e,←ZS]
 rw [e2];generalize m/2^s=q;have e3:(18446744073709551616:Nat)=2^(64-s)*2^s:=by rw [YO];exact e
 rw [e3,Nat.mod_mul,YO (2^(64-s))]
theorem TB {d s:Nat} (hd:d<18446744073709551616) (hs:s≤64):d*2^s % 18446744073709551616+d/2^(64-s)*18446744073709551616=d*2^s∧d/2^(64-s)<2^s:=by
 have hW:(18446744073709551616:Nat)=2^64:=by decide
 have e:(18446744073709551616:Nat)=2^(64-s)*2^s:=by rw [←YW,hW];congr 1;omega
 have h1:d*2^s/18446744073709551616=d/2^(64-s):=by rw [e,Nat.mul_div_mul_right _ _ (YY Yo)]
 rw [←h1];constructor
 ·have:=aba (d*2^s) 18446744073709551616;omega
 ·rw [h1,ZH (YY Yo),YO,←e];exact hd
def str (l:List UInt8):ByteArray:=⟨l.toArray⟩
theorem eL (l:List UInt8):(str l).data.toList=l:=by simp [str]
theorem Bj {a b:ByteArray} (h:a.data.toList=b.data.toList):a=b:=by
 cases a;cases b;congr 1;exact Array.ext' h
theorem NB (s:ByteArray):str s.data.toList=s:=Bj (eL _)
theorem k6 (l:List UInt8):(str l).size=l.length:=by simp [str,ByteArray.size]
theorem fJ (s:ByteArray):s.size=s.data.toList.length:=(Array.length_toList).symm
def bD (l:List Int):List Value:=l.map (Value.int .i64)
theorem cQ (l:List Int):(bD l).length=l.length:=by simp [bD]
theorem Df (a b:List Int):bD (a++b)=bD a++bD b:=by simp [bD]
theorem cK {l:List Int}{x:Int} (h:l[k]?=some x):(bD l)[k]?=some (.int .i64 x):=by simp [bD,h]
theorem Gg (a b:List UInt8):nB (a++b)=nB a++nB b:=by simp [nB]
theorem bI (l:List Int):((bD l).all Value.oneCell')=true:=by simp [bD,Value.oneCell']
def Dj (l:List ByteArray):List Value:=l.map Value.string
theorem tw (l:List ByteArray):(Dj l).length=l.length:=by simp [Dj]
theorem G1 {l:List ByteArray}{x:ByteArray} (h:l[k]?=some x):(Dj l)[k]?=some (.string x):=by simp [Dj,h]
theorem aw {l:List α}{x:α} (h:l[k]?=some x):l.take (k+1)=l.take k++[x]:=by rw [List.take_add_one,h];rfl
theorem ao {l:List α} (h:k<l.length):∃x,l[k]?=some x:=⟨_,ZP h⟩
def fR (l:List UInt8):Bool:=l.all fun c=>decide (c.toNat<128)
theorem Ky (l:List UInt8) (c:UInt8):fR (l++[c])=(fR l && decide (c.toNat<128)):=by simp [fR]
theorem D3 {l:List UInt8}{c:UInt8} (h:l[k]?=some c) (hc:¬c.toNat<128):fR l=false:=by
 rw [←Zy (k+1) l,aw h];simp only [fR,List.all_append];simp;omega
theorem uj {l:List UInt8} (h:fR l=true) {c:UInt8} (hc:l[k]?=some c):c.toNat<128:=by
 have:=Y0.1 h c (Yy hc);simpa using this
def eC (x:Int):Bool:=decide (0≤x) && decide (x≤127)
def z5 (x:Int):UInt8:=UInt8.ofNat x.toNat
def OT (xs:List Int):List UInt8:=if xs.all eC then xs.map z5 else []
def QC (xs:List Int):Int:=if xs.all eC then 0 else 3
theorem Tj {xs:List Int}{x:Int} (hx:xs[k]?=some x) (h:eC x=false):OT xs=[]∧QC xs=3:=by
 have:xs.all eC=false:=by
  cases hc:xs.all eC with
  |false=>rfl
  |true=>rw [Y0.1 hc x (Yy hx)] at h;cases h
 simp [OT,QC,this]
theorem uD {xs:List Int} (h:xs.all eC=true):OT xs=xs.map z5∧QC xs=0:=by simp [OT,QC,h]
theorem Nc {p:α→Bool}{l:List α}{x:α} (h:l[k]?=some x) (h1:(l.take k).all p=true) (h2:p x=true):(l.take (k+1)).all p=true:=by
 rw [aw h,List.all_append,h1];simp [h2]
theorem PT {x:Int} (h:0≤x) (h2:x≤255):IntKind.u8.wrap x=x:=by
 have:IntKind.u8.wrap x=x % 256:=rfl;rw [this];omega
theorem uI {x:Int} (h:eC x=true):Value.int .u8 x=.int .u8 (z5 x).toNat:=by
 simp only [eC,YP,YX] at h;congr 1;simp only [z5,abz];omega
theorem Oq {xs:List Int}{x:Int} (hx:xs[k]?=some x) (h:eC x=true):nB ((xs.take k).map z5)++[.int .u8 x]=nB ((xs.take (k+1)).map z5):=by
 rw [aw hx,ZD,Gg,uI h];rfl
def ints (l:List UInt8):List Int:=l.map fun c=>(c.toNat:Int)
def kg (l:List UInt8):List Int:=if fR l then ints l else []
def Yc (l:List UInt8):Int:=(kg l).sum
theorem dz (l:List UInt8):(ints l).length=l.length:=by simp [ints]
theorem xw {l:List UInt8}{c:UInt8} (h:l[k]?=some c):bD (ints (l.take k))++[.int .i64 c.toNat]=bD (ints (l.take (k+1))):=by
 rw [aw h];simp [bD,ints]
def lenOf:Value→Nat|.slice _ n _=>n|_=>0
theorem mb {l:List UInt8} (h:fR l=true):kg l=ints l:=by simp [kg,h]
theorem LG {l:List UInt8} (h:fR l=false):kg l=[]:=by simp [kg,h]
theorem Po {l:List UInt8}{c:UInt8} (h:l[k]?=some c):(ints l)[k]?=some (c.toNat:Int):=by simp [ints,h]
theorem IV {l:List UInt8}{x:Int} (h:(kg l)[k]?=some x):0≤x∧x≤127:=by
 unfold kg at h;split at h
 ·rename_i hm;simp only [ints,YJ,aay] at h;obtain ⟨c,hc,rfl⟩:=h;have:=uj hm hc;omega
 ·simp at h
def kn (f:Int→Int→Int) (a b:List UInt8):Option (List Int):=
 if fR a && (fR b && decide ((b.length:Int)=a.length)) then some (List.zipWith f (ints a) (ints b)) else none
def mulL (a b:List UInt8):List UInt8×Int:=
 match kn (· + ·) a b with|some l=>(OT l,QC l)|none=>([],1)
def XY (a b:List UInt8):List UInt8×Bool:=
 match kn (· - ·) a b with|some l=>(OT l,decide (QC l=0))|none=>([],false)
theorem Lb {f:Int→Int→Int}{a b:List Int}{x y:Int} (hx:a[k]?=some x) (hy:b[k]?=some y):(List.zipWith f a b)[k]?=some (f x y):=by
 simp [aaY,hx,hy]
def oB (f:Int→Int→Int) (a b:List Int) (k:Nat):List Int:=(List.zipWith f a b).take k++b.drop k
theorem Mv (f:Int→Int→Int) (a b:List Int):oB f a b 0=b:=by simp [oB]
theorem Qr {f:Int→Int→Int}{a b:List Int} (h:a.length=b.length) (hk:k≤b.length):(oB f a b k).length=b.length:=by
 simp [oB,h];omega
theorem Tk {f:Int→Int→Int}{a b:List Int} (h:a.length=b.length) {y:Int} (hy:b[k]?=some y):(oB f a b k)[k]?=some y:=by
 have hk:k<b.length:=(YL.1 hy).1;unfold oB;rw [ZC (by simp [h];omega)];simp [h,ZK (Nat.le_of_lt hk),hy]
theorem O6 {f:Int→Int→Int}{a b:List Int} (h:a.length=b.length) {x y:Int} (hx:a[k]?=some x) (hy:b[k]?=some y):
  cm (bD (oB f a b k)) k [.int .i64 (f x y)]=bD (oB f a b (k+1)):=by
 have hk:k<b.length:=(YL.1 hy).1;have hl:((List.zipWith f a b).take k).length=k:=by simp [h];omega
 have e1:(oB f a b k).take k=(List.zipWith f a b).take k:=by
  unfold oB;rw [List.take_append_of_le_length Yo,YC Yo]
 have e2:(oB f a b k).drop (k+1)=b.drop (k+1):=by
  unfold oB;rw [List.drop_append,hl,aaw Yo,show k+1-k=1 by omega,aaM];simp
 simp only [cm,bD,←List.map_take,←aaV,Y3,abn,YZ,e1,e2];unfold oB;rw [aw (Lb hx hy)];simp
theorem LX {f:Int→Int→Int}{a b:List Int} (h:a.length=b.length):oB f a b b.length=List.zipWith f a b:=by
 unfold oB;rw [YC (by simp [h]),List.drop_length,Y7]
theorem lv {l:List Int} (y:Int) (h:k<l.length):cm (bD l) (k*1) [.int .i64 y]=bD (l.set k y):=by
 rw [YV,de (by rw [cQ];exact h)];unfold bD;rw [aaB]
section
variable {P:Program}{N:Nat}{ops:Array Oper}{Q:Kq}{ρ:Rf}{w:World}{rest:List Oper}{d:Nat}{ty:TypeId}{pos:String}{af:Array Edge}
theorem lH {f:FuncId}{ts:Array TypeId}{v:Value} (hc:(callFunc f vs.toArray).run P w=.ok (.value v) w) (ha:yg ρ args.toList=vs) (hN:d<N) (kk:WL .plain P N ops Q rest (cP ρ d v) w):
  WL .plain P N ops Q (⟨some d,.call ⟨.value (.func f),args,ts⟩,ty,pos,af,none⟩::rest) ρ w:=by
 have hr:(execOp (ev ρ) ⟨some d,.call ⟨.value (.func f),args,ts⟩,ty,pos,af,none⟩).run P w=.ok (.value v) w:=by
  have hx:ev ρ (.func f)=.func (.func f) #[] #[]:=rfl;simp only [execOp,resolve,Deferred.ofValue,hx,invoke,oT args ha];simpa using hc
 exact aV rfl rfl hN hr kk
end
theorem kN (x y c:Nat) (hc:c≤1) (w:World):
  (callFunc 240 #[.int .u64 x,.int .u64 y,.int .u64 c]).run Tryz.prog w=
   .ok (.value (.tuple #[.int .u64 (((x+y+c) % 18446744073709551616:Nat):Int),.int .u64 (((x+y+c)/18446744073709551616:Nat):Int)])) w:=by
 rw [run_callFunc_extern Tryz.func240 Yq Yq Yq (e:=add64Entry) Yq,run_add64 x y c Yo Yo Yo Yo];simp only [Result.andThen];congr 5<;>omega
def LP:Array Value→Sem Value:=fun args=>do
 let (x,y,b) ←Extern.MathBitsCarry.three "Sub64" args
 pure (Extern.MathBitsCarry.pair ((x+Extern.MathBitsCarry.m64-y-b) % Extern.MathBitsCarry.m64) (if x<y+b then 1 else 0))
theorem Gq (x y b:Nat) (hb:b≤1) (w:World):
  (LP #[.int .u64 x,.int .u64 y,.int .u64 b]).run P w=
   .ok (.tuple #[.int .u64 (((x+18446744073709551616-y-b) % 18446744073709551616:Nat):Int),.int .u64 ((if x<y+b then 1 else 0:Nat):Int)]) w:=by
 have:b=0∨b=1:=Yo
 rcases this with rfl|rfl<;>rfl
theorem zk (x y b:Nat) (hb:b≤1) (w:World):
  (callFunc 249 #[.int .u64 x,.int .u64 y,.int .u64 b]).run Tryz.prog w=
   .ok (.value (.tuple #[.int .u64 (((x+18446744073709551616-y-b) % 18446744073709551616:Nat):Int),.int .u64 ((if x<y+b then 1 else 0:Nat):Int)])) w:=by
 rw [run_callFunc_extern Tryz.func249 Yq Yq Yq (e:=LP) Yq,Gq x y b hb]
 rfl
theorem tX (x y:Nat) (w:World) (hx:x<18446744073709551616) (hy:y<18446744073709551616):
  Calls Tryz.prog 239 #[.int .u64 (x:Int),.int .u64 (y:Int)] w fun e w'=>e=.returned (.tuple #[.int .u64 ((x*y/18446744073709551616:Nat):Int),.int .u64 ((x*y % 18446744073709551616:Nat):Int)])∧Below w.heap.size w w':=by
 refine aj (N:=51) (l:=[.int .u64 (x:Int),.int .u64 (y:Int)]) Tryz.func239 rfl rfl (by simp) ?_;refine sr (aI (aI (aa (sr (mI ?_)))));refine BO ?_;refine aI (aa (sr (mI ?_)));refine tj ?_;refine aI (aa (sr (mI ?_)));refine BO ?_;refine aI (aa (sr (mI ?_)));refine tj ?_;refine aI (aa (sr (mI (mI ?_))));refine gO rfl rfl Yp ?_;refine aI (aa (sr (mI (mI ?_))));refine gO rfl rfl Yp ?_;refine mI ?_;refine tj ?_;refine fM rfl rfl Yp ?_;refine aI (aa (sr (mI ?_)));refine BO ?_;refine aI (aa (sr (mI ?_)));refine tj ?_;refine aI (aa (sr (mI (mI (mI ?_)))));refine gO rfl rfl Yp ?_;refine fM rfl rfl Yp ?_;refine aI (aa (sr (mI (mI ?_))));refine gO rfl rfl Yp ?_;refine mI ?_;refine fM rfl rfl Yp ?_;refine mI ?_;refine tj ?_;refine fM rfl rfl Yp ?_;refine aI (aa (sr (mI (mI ?_))));refine gO rfl rfl Yp ?_;refine aI (aa (av ?_));refine yf ?_;obtain ⟨bd,bt,bw,hhi⟩:=Lib.mul64_hi x y hx hy;have ba:=Lib.half_mul_le (a:=x/4294967296) (b:=y/4294967296) Yo Yo;have bb:=Lib.half_mul_le (a:=x/4294967296) (b:=y % 4294967296) Yo Yo;have bc:=Lib.half_mul_le (a:=x % 4294967296) (b:=y/4294967296) Yo Yo
 have em:∀z:Nat,z &&& 4294967295=z % 4294967296:=fun z=>Nat.and_two_pow_sub_one_eq_mod z 32;simp only [em];have hb:x*y/18446744073709551616<18446744073709551616:=by
  rw [ZH Yo];exact abB hx hy
 refine ⟨?_,Below.refl _ _⟩;congr 5;rw [Za bd,Za (show x/4294967296*(y % 4294967296)<18446744073709551616 by omega),Za bt,Za (show x % 4294967296*(y/4294967296)<18446744073709551616 by omega),Za bw,Za (show x/4294967296*(y/4294967296)<18446744073709551616 by omega)];have key:∀A T V:Nat,A+T+V<18446744073709551616→((A+T) % 18446744073709551616+V) % 18446744073709551616=A+T+V:=by intro A T V h;omega
 rw [←hhi] at hb ⊢;exact Ze Nat.cast (key _ _ _ hb)
theorem jf {x:Nat} (hm:2^k=m) (h:m≤x):bE x=k+bE (x/m):=by
 subst hm;have h0:x/2^k≠0:=by
  have:=(Nat.div_pos_iff (a:=x) (b:=2^k)).2 ⟨YY Yo,h⟩;omega
 have h1:=cR (x/2^k);have h2:=Aj h0;have h3:=nO h0;have h4:=ZJ x (2^k);have h5:=YU x (YY (n:=k) (show 0<2 by omega));apply Ak
 ·rw [YW];have:2^k*(x/2^k+1)≤2^k*2^bE (x/2^k):=Y4 _ h1;rw [ZZ] at this;omega
 ·have e:k+bE (x/2^k)-1=k+(bE (x/2^k)-1):=Yo;rw [e,YW];have:2^k*2^(bE (x/2^k)-1)≤2^k*(x/2^k):=Y4 _ h2;omega
theorem lP {T:ByteArray} (hT:T.data.toList=(List.range 256).map fun n=>UInt8.ofNat (bE n)) (h:n<256):∃c:UInt8,T.data.toList[n]?=some c∧c.toNat=bE n∧bE n≤8:=by
 have hb:bE n≤8:=dy Yo;refine ⟨UInt8.ofNat (bE n), ?_, ?_,hb⟩
 ·rw [hT,YJ,ZF h];rfl
 ·rw [abz];omega
theorem Cg (x:Nat) (w:World) (hx:x<18446744073709551616):
  Calls Tryz.prog 232 #[.int .u64 (x:Int)] w fun e w'=>e=.returned (.int .i64 (bE x))∧Below w.heap.size w w':=by
 refine aj (N:=25) (l:=[.int .u64 (x:Int)]) Tryz.func232 rfl rfl (by simp) ?_;by_cases h32:4294967296≤x
 ·have:=jf (x:=x) (k:=32) (m:=4294967296) rfl h32;refine sr (aI (aa (ah (sr (mI ?_)))));refine dF (aa (cT (sr (mI ?_))));refine tj ?_;refine aI (aa (ak (aI (aa (ah (sr (mI ?_)))))));by_cases h16:65536≤(x/4294967296)
  ·have:=jf (x:=(x/4294967296)) (k:=16) (m:=65536) rfl h16;refine dF (aa (cT (sr (mI ?_))));refine m0 (s:=16) (m:=65536) rfl rfl Yp Yp Yp ?_;refine aI (aa (ak (mI ?_)));refine a8 (aI (aa (ah (sr (mI ?_)))));by_cases h8:256≤((x/4294967296)/65536)
   ·have:=jf (x:=((x/4294967296)/65536)) (k:=8) (m:=256) rfl h8;refine dF (aa (cT (sr (mI ?_))));refine HA ?_;refine aI (aa (ak (mI ?_)));refine a8 (aI (aa (sr (mI (mI ?_)))));refine md ?_;obtain ⟨cc,hcc,hcv,hcb⟩:=lP (T:=_) Yq (n:=(((x/4294967296)/65536)/256)) Yo;exact El
   ·refine HD ?_;refine md ?_;obtain ⟨cc,hcc,hcv,hcb⟩:=lP (T:=_) Yq (n:=(((x/4294967296)/65536))) Yo;exact El
  ·refine dF (aa (cF (aq (ai (ah (sr (mI ?_)))))));by_cases h8:256≤((x/4294967296))
   ·have:=jf (x:=((x/4294967296))) (k:=8) (m:=256) rfl h8;refine dF (aa (cT (sr (mI ?_))));refine HA ?_;refine aI (aa (ak (mI ?_)));refine a8 (aI (aa (sr (mI (mI ?_)))));refine md ?_;obtain ⟨cc,hcc,hcv,hcb⟩:=lP (T:=_) Yq (n:=(((x/4294967296))/256)) Yo;exact El
   ·refine HD ?_;refine md ?_;obtain ⟨cc,hcc,hcv,hcb⟩:=lP (T:=_) Yq (n:=(((x/4294967296)))) Yo;exact El
 ·refine sr (aI (aa (ah (sr (mI ?_)))));refine dF (aa (cF (aq (ai (ah (sr (mI ?_)))))));by_cases h16:65536≤(x)
  ·have:=jf (x:=(x)) (k:=16) (m:=65536) rfl h16;refine dF (aa (cT (sr (mI ?_))));refine m0 (s:=16) (m:=65536) rfl rfl Yp Yp Yp ?_;refine aI (aa (ak (mI ?_)));refine a8 (aI (aa (ah (sr (mI ?_)))));by_cases h8:256≤((x)/65536)
   ·have:=jf (x:=((x)/65536)) (k:=8) (m:=256) rfl h8;refine dF (aa (cT (sr (mI ?_))));refine HA ?_;refine aI (aa (ak (mI ?_)));refine a8 (aI (aa (sr (mI (mI ?_)))));refine md ?_;obtain ⟨cc,hcc,hcv,hcb⟩:=lP (T:=_) Yq (n:=(((x)/65536)/256)) Yo;exact El
   ·refine HD ?_;refine md ?_;obtain ⟨cc,hcc,hcv,hcb⟩:=lP (T:=_) Yq (n:=(((x)/65536))) Yo;exact El
  ·refine dF (aa (cF (aq (ai (ah (sr (mI ?_)))))));by_cases h8:256≤((x))
   ·have:=jf (x:=((x))) (k:=8) (m:=256) rfl h8;refine dF (aa (cT (sr (mI ?_))));refine HA ?_;refine aI (aa (ak (mI ?_)));refine a8 (aI (aa (sr (mI (mI ?_)))));refine md ?_;obtain ⟨cc,hcc,hcv,hcb⟩:=lP (T:=_) Yq (n:=(((x))/256)) Yo;exact El
   ·refine HD ?_;refine md ?_;obtain ⟨cc,hcc,hcv,hcb⟩:=lP (T:=_) Yq (n:=(((x)))) Yo;exact El
theorem qd (x:Nat) (w:World) (hx:x<18446744073709551616):
  Calls Tryz.prog 210 #[.int .u64 (x:Int)] w fun e w'=>e=.returned (.int .i64 (64-(bE x:Int)))∧Below w.heap.size w w':=by
 have hh:=Hp.start w;have hb:bE x≤64:=dy (by simpa using hx);refine aj (N:=6) (l:=[.int .u64 (x:Int)]) Tryz.func210 rfl rfl (by simp) ?_;refine sr (aI (aa (sr (mI ?_))));refine bj hh (Cg _ _ hx) rfl ?_;intro w4 hh;refine ee (aI (aa (av ?_)));refine dH ?_;exact ⟨rfl,hh.below⟩
def tz (n:Nat):Nat:=Int.trailingZeros (n:Int)
theorem GZ (k m:Nat):tz (2^k*(2*m+1))=k:=by
 have h:=Int.trailingZeros_shiftLeft (x:=2*(m:Int)+1) Yo k;rw [Int.trailingZeros_two_mul_add_one,Int.shiftLeft_eq] at h;unfold tz;have e:((2^k*(2*m+1):Nat):Int)=(2*(m:Int)+1)*2^k:=by
  rw [ZB,abF,Int.mul_comm];rfl
 rw [e];have e2:(((2^k:Nat)):Int)=2^k:=by simp
 rw [←e2] at h ⊢;simpa using h
theorem uK (h:n≠0):∃m,n=2^tz n*(2*m+1):=by
 have:∀b n:Nat,n≤b→n≠0→∃k m,n=2^k*(2*m+1):=by
  intro b
  induction b with
  |zero=>intro n h1 h2;omega
  |succ b ih=>
   intro n h1 h2
   rcases Nat.mod_two_eq_zero_or_one n with h|h
   ·obtain ⟨k,m,hk⟩:=ih (n/2) Yo Yo;exact ⟨k+1,m,by rw [Zh,YO (2^k),Zw,←hk];omega⟩
   ·exact ⟨0,n/2,Yo⟩
 obtain ⟨k,m,hk⟩:=this n n (YA _) h;exact ⟨m,by rw [hk,GZ]⟩
theorem zf (h:n≠0) (hn:n<2^k):tz n<k:=by
 obtain ⟨m,hm⟩:=uK h
 rcases Zb (tz n) k with h1|h1
 ·exact h1
 ·have h2:2^k≤2^tz n:=Zf Yo h1;have h3:2^tz n*1≤2^tz n*(2*m+1):=Y4 _ Yo;omega
theorem DS (m m' j:Nat) (h:m+m'+1=2^j):(2*m+1) &&& (2*m'+1)=1:=by
 apply Nat.eq_of_testBit_eq;intro i;rw [Nat.testBit_and]
 cases i with
 |zero=>simp
 |succ i=>
  rw [Nat.testBit_succ,Nat.testBit_succ,Nat.testBit_succ];have e1:(2*m+1)/2=m:=Yo;have e2:(2*m'+1)/2=m':=Yo;have e3:m'=2^j-(m+1):=Yo;rw [e1,e2,e3,Nat.testBit_two_pow_sub_succ Yo]
  cases hi:m.testBit i<;>simp
theorem Pj {x:Nat} (hx:x=2^k*(2*m+1)) (hlt:x<18446744073709551616):x &&& (18446744073709551616-x) % 18446744073709551616=2^k:=by
 have hW:(18446744073709551616:Nat)=2^64:=by decide
 have hk:k<64:=by
  have:=zf (n:=x) (k:=64) (by rw [hx];exact Nat.mul_ne_zero (Nat.pos_iff_ne_zero.1 (YY Yo)) Yo) (by rw [←hW];exact hlt);rwa [hx,GZ] at this
 have hp:(18446744073709551616:Nat)=2^k*(2*2^(63-k)):=by rw [hW,←Nat.pow_succ',←YW];congr 1;omega
 have hm:m<2^(63-k):=by
  rw [hx,hp] at hlt;have:=Nat.lt_of_mul_lt_mul_left hlt;omega
 have e:(18446744073709551616-x) % 18446744073709551616=2^k*(2*(2^(63-k)-(m+1))+1):=by
  have h1:2*(2^(63-k)-(m+1))+1=2*2^(63-k)-(2*m+1):=Yo;rw [h1,Nat.mul_sub,←hp,←hx,Za];have:0<2^k*(2*m+1):=Nat.mul_pos (YY Yo) Yo;omega
 rw [e,hx];have h2:=DS m (2^(63-k)-(m+1)) (63-k) Yo;have h3:=Ze (· <<<k) h2;rw [Nat.shiftLeft_and_distrib] at h3;simp only [Nat.shiftLeft_eq,aaC] at h3;rw [YO (2^k),YO (2^k)];exact h3
def Fw:List Nat:=[0,1,56,2,57,49,28,3,61,58,42,50,38,29,17,4,62,47,59,36,45,43,51,22,53,39,33,30,24,18,12,5,63,55,48,27,60,41,37,16,46,35,44,21,52,32,23,11,54,26,40,15,34,20,31,10,25,14,19,9,13,8,7,6]
def dP (w:World):Prop:=Rd w ⟨0,0,none⟩ (iE Fw)
theorem dP.ext (h:dP w) (hb:Below w.heap.size w w'):dP w':=Rd.ext h hb
theorem dP.hp {H:List HE} (h:dP w) (hh:Hp w H w'):dP w':=Rd.ext h hh.below
theorem TW:∀k:Fin 64,Fw[2^k.val*285870213051353865 % 18446744073709551616/288230376151711744]?=some k.val∧2^k.val*285870213051353865 % 18446744073709551616/288230376151711744<64:=by decide+kernel
theorem EV (x:Nat) (w:World) (hx:x<18446744073709551616) (h0:x≠0) (hT:dP w):
  Calls Tryz.prog 178 #[.int .u64 (x:Int)] w fun e w'=>e=.returned (.int .i64 (tz x))∧Below w.heap.size w w':=by
 have hh:=Hp.start w;obtain ⟨m,hm⟩:=uK h0;have hk:tz x<64:=zf h0 (by simpa using hx);have ha:=Pj hm hx;obtain ⟨t1,t2⟩:=TW ⟨tz x,hk⟩;simp only at t1 t2;have hc:=(show Rd w _ _ from hT).tN (qh t1);refine aj (N:=14) (l:=[.int .u64 (x:Int)]) Tryz.func178 rfl rfl (by simp) ?_;refine sr (aI (aa (ah (sr (mI ?_)))));refine cH (aa (cF (aq (ai (sr (mI (mI ?_)))))));refine Ml rfl (by first|assumption|omega) Yp ?_;refine EY rfl rfl hx (YU _ Yp) Yp ?_;rw [ha];skip;refine gO (b:=285870213051353865) rfl rfl Yp ?_;refine m0 (s:=58) (m:=288230376151711744) rfl rfl Yp Yp Yp ?_;refine Gk bG.out aJ.size rfl rfl rfl Yo Yp ?_;refine bY aJ.out rfl (hc) Yp ?_;refine vi ?_;exact BF
end Go.Proofs.YtmchncaiffbpaaaGreatDoor
