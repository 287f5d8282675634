/- Lemmas for bernBacks, part 3. -/
import Derived.Deep.AppendSrc
import Derived.Deep.Upon
import Init
import Derived.Laws.Externs
import Derived.Lib.Mul64
import Derived.Test.YtolamocnngihpaaGreatDoorZ2
namespace Go.Proofs.YtolamocnngihpaaGreatDoor
variable {K:Value→World→Prop}{M rs:List Nat}{N b base by' c c' dj fuel j k m n:Nat}{P:Program}{R:Ending→World→Prop}{W w w' w0 w1:World}{ad:Addr}{ag:Bool}{cs news zc:List Value}{next:Rf→World→Prop}{ops:Array Oper}{parts:Array (Nat×Operand)}{pos:String}{ps:List (Nat×Value)}{α:Type}{ρ:Rf}
open Go.RowKit
section
variable {D:List Deferred}
section
variable {P:Program}{N:Nat}{Q:Kq}{ρ:Rf}{w:World}
def RL (ops:Array Oper):Nat→Nat→Nat→Bool
 |0,_,_=>false
 |n+1,k,i=>match ops[k]? with
  |none=>false
  |some o=>(o.after.any fun e=>Region.binds .any e && e.on==i)||o.after.any fun e=>Region.binds .any e && RL ops n e.on i
def qJ (ops:Array Oper) (L:Array Bool):Prop:=∀k o,ops[k]?=some o→L.getD k false=true→∀e∈o.after,Region.binds .any e=true→L.getD e.on false=true
theorem oN {ops:Array Oper}{L:Array Bool} (hc:qJ ops L):∀(n k i:Nat),(∀o,ops[k]?=some o→∀e∈o.after,Region.binds .any e=true→L.getD e.on false=true)→RL ops n k i=true→L.getD i false=true
 |0,_,_,_,h=>by simp [RL] at h
 |n+1,k,i,hk,h=>by
  unfold RL at h;split at h
  ·cases h
  ·rename_i o ho;rw [aaL] at h
   rcases h with h|h
   ·obtain ⟨e,he,h⟩:=Array.any_eq_true'.1 h;simp only [YU,aam] at h;rw [←h.2];exact hk o ho e he h.1
   ·obtain ⟨e,he,h⟩:=Array.any_eq_true'.1 h;simp only [YU] at h;have h1:=hk o ho e he h.1;exact oN hc n e.on i (fun o' ho'=>hc e.on o' ho' h1) h.2
structure OG (P:Program) (ops:Array Oper) (o:Oper) (ρ:Rf) (w:World) (K:Value→World→Prop):Prop where
 out:∀(a:Act) (next:Act→World→Prop) (Q:Exit→Act→World→Prop),(∀i,a.tmps.getD i undef=ρ i)→(∀v w',K v w'→next (a.put o.dst v) w')→
  if Region.wanted o (yielded ops a.tmps) then o.wp P a w next Q∨(o.asks P a w∧LetsOut Q) else next (a.put o.dst undef) w
theorem GN {a:Act} (h:∀i,a.tmps.getD i undef=ρ i):a.eval=ev ρ:=by
 funext x
 cases x with
 |tmp t=>exact h t
 |_=>rfl
theorem eJ {o:Oper}{v:Value} (hg:o.guard=none) (hr:(execOp (ev ρ) o).run P w=.ok (.value v) w') (hk:K v w'):OG P ops o ρ w K:=
 ⟨fun a next Q ha hn=>by
  rw [YA (by simp [Region.wanted,hg])];refine .inl ?_;unfold Oper.wp;rw [GN ha,hr];exact hn _ _ hk⟩
theorem bk {o:Oper}{f:FuncId}{args:Array Value} (hg:o.guard=none) (hr:(execOp (ev ρ) o).run P w=.ok (.enter f args) w1) (hc:Calls P f args w1 R)
  (hk:∀e w',R e w'→∃v,e=.returned v∧K v w'):OG P ops o ρ w K:=
 ⟨fun a next Q ha hn=>by
  rw [YA (by simp [Region.wanted,hg])];refine .inl ?_;unfold Oper.wp;rw [GN ha,hr];show Calls P f args w1 _;refine hc.mono fun e w' hR=> ?_;obtain ⟨v,rfl,hkv⟩:=hk e w' hR;exact hn _ _ hkv⟩
theorem bz {d:Option Nat}{op:Op}{ty:TypeId}{af:Array Edge}{b:Bool}
  (hj:(ops[j]?).bind (·.dst)=some dj) (hv:ρ dj=.bool b) (h:OG P ops ⟨d,op,ty,pos,af,none⟩ ρ w K):OG P ops ⟨d,op,ty,pos,af,some (j,b)⟩ ρ w K:=
 ⟨fun a next Q ha hn=>by
  have h1:Region.wanted ⟨d,op,ty,pos,af,some (j,b)⟩ (yielded ops a.tmps)=true:=by
   have h2:=ha dj;rw [hv,ZI] at h2
   cases h3:a.tmps[dj]? with
   |none=>rw [h3] at h2;cases h2
   |some x=>
    rw [h3] at h2;simp only [ZY] at h2;subst h2;simp [Region.wanted,yielded,hj,h3]
  have h2:=h.out a next Q ha hn;rw [YA (by simp [Region.wanted])] at h2;rw [YA h1];exact h2⟩
theorem xD {d:Option Nat}{op:Op}{ty:TypeId}{af:Array Edge}{b c:Bool}
  (hj:(ops[j]?).bind (·.dst)=some dj) (hv:ρ dj=.bool c) (hb:c≠b) (h:K undef w):OG P ops ⟨d,op,ty,pos,af,some (j,b)⟩ ρ w K:=
 ⟨fun a next Q ha hn=>by
  have h1:Region.wanted ⟨d,op,ty,pos,af,some (j,b)⟩ (yielded ops a.tmps)=false:=by
   have h2:=ha dj;rw [hv,ZI] at h2
   cases h3:a.tmps[dj]? with
   |none=>rw [h3] at h2;cases h2
   |some x=>
    rw [h3] at h2;simp only [ZY] at h2;subst h2;simp [Region.wanted,yielded,hj,h3,hb]
  rw [h1];exact hn _ _ h⟩
def dw (V:Nat→Value→World→Prop) (ρ ρ1:Rf) (w1:World):List (Nat×Option Nat)→Prop
 |[]=>True
 |(t,some j)::r=>V j (ρ1 t) w1∧dw V ρ ρ1 w1 r
 |(t,none)::r=>ρ1 t=ρ t∧dw V ρ ρ1 w1 r
def DO (P:Program) (ops:Array Oper) (J:World→Prop) (V:Nat→Value→World→Prop) (ρ:Rf):Nat→List Oper→List (List (Nat×Option Nat))→Prop
 |i,o::os,s::ss=>((∀v w w',V i v w→Below w.heap.size w w'→V i v w')∧∀ρ1 w1,J w1→dw V ρ ρ1 w1 s→OG P ops o ρ1 w1 fun v w2=>Below w1.heap.size w1 w2∧V i v w2)∧DO P ops J V ρ (i+1) os ss
 |_,[],[]=>True
 |_,_,_=>False
theorem G7 {ops:Array Oper}{J:World→Prop}{V:Nat→Value→World→Prop}:∀(l:List Oper) (ss:List (List (Nat×Option Nat))) (i:Nat),DO P ops J V ρ i l ss→l.length=ss.length∧∀k o,l[k]?=some o→∃s,ss[k]?=some s∧
  (∀v w w',V (i+k) v w→Below w.heap.size w w'→V (i+k) v w')∧∀ρ1 w1,J w1→dw V ρ ρ1 w1 s→OG P ops o ρ1 w1 fun v w2=>Below w1.heap.size w1 w2∧V (i+k) v w2
 |[],[],_,_=>⟨rfl,fun k o h=>by simp at h⟩
 |[],_::_,_,h=>h.elim
 |_::_,[],_,h=>h.elim
 |o::l,s::ss,i,h=>by
  obtain ⟨h1,h2⟩:=G7 l ss (i+1) h.2;refine ⟨by simp [h1],fun k o' hk=> ?_⟩
  cases k with
  |zero=>
   simp only [abf,aaf] at hk;subst hk;exact ⟨s,rfl,h.1⟩
  |succ k=>
   obtain ⟨s',hs,h3⟩:=h2 k o' (by simpa using hk);refine ⟨s',by simpa using hs, ?_⟩;have e:i+1+k=i+(k+1):=Yv;rw [e] at h3;exact h3
def m8 (ρ:Rf) (f:Nat→Value):List (Nat×Nat)→Rf
 |[]=>ρ
 |(i,d)::r=>cY (m8 ρ f r) d (f i)
def Cf (V:Nat→Value→World→Prop) (f:Nat→Value) (w:World):List (Nat×Nat)→Prop
 |[]=>True
 |(i,_)::r=>V i (f i) w∧Cf V f w r
def jW (n k:Nat):Array Bool:=(List.replicate k true++List.replicate (n-k) false).toArray
def Es (l:List Oper) (m N:Nat) (src:List (List (Nat×Option Nat))) (ds:List (Nat×Nat)):Bool:=
 let ops:=l.toArray
 let pre:=(List.range m).map fun i=>((ops[i]?).bind (·.dst))
 (m≤l.length) && (src.length==m) &&
 (ds==(pre.zipIdx.filterMap fun (d,i)=>d.map fun d=>(i,d)).reverse) && (decide (ds.map (·.2)).Nodup) && (ds.all fun p=>p.2<N) &&
 ((List.range m).all fun i=>match ops[i]?,src[i]? with
  |some o,some s=>((o.looksAt ops).all fun t=>s.any fun p=>p.1==t) &&
    s.all fun p=>match p.2 with
     |some j=>(j<m) && ((ops[j]?).bind (·.dst)==some p.1) && RL ops 16 i j
     |none=>(List.range m).all fun j=> !((ops[j]?).bind (·.dst)==some p.1)||(j !=i && RL ops 16 j i)
  |_,_=>false) &&
 (l.length==m||((List.range m).all fun i=>RL ops 16 m i)) &&
 ((List.range (l.length-m)).all fun k=>Region.ready .any ops (jW l.length (m+k))==[m+k]) && (Region.ready .any ops (jW l.length l.length)==[]) &&
 ((List.range (l.length-m)).all fun k=>k==0||RL ops 16 (m+k) m) &&
 ((List.range l.length).all fun i=>match ops[i]? with|some o=>o.after.all fun e=> !Region.binds .any e||e.on<i|none=>false)
theorem Jf (n k i:Nat):(jW n k).getD i false=decide (i<k):=by
 unfold jW;rw [ZI,aaN]
 rcases Zj i k with h|h
 ·rw [aaM (by simpa using h)];simp [h]
 ·rw [ZQ (by simpa using h),List.getElem?_replicate];have:¬i<k:=Yv;split<;>simp [this]
theorem K0 (n k:Nat) (hk:k<n):(jW n k).setIfInBounds k true=jW n (k+1):=by
 unfold jW;rw [List.setIfInBounds_toArray];congr 1;apply ZN;intro i;rw [aal];simp only [List.getElem?_append,ZX,List.getElem?_replicate,YK];by_cases h1:k=i
 ·subst h1;rw [YA rfl,YA Yv,YA (show k<k+1 by omega),YA (show k<k+1 by omega)]
 ·rw [YB h1];by_cases h2:i<k
  ·rw [YA h2,YA h2,YA (show i<k+1 by omega),YA (show i<k+1 by omega)]
  ·rw [YB h2,YB (show ¬i<k+1 by omega)];by_cases h3:i-k<n-k
   ·rw [YA h3,YA (show i-(k+1)<n-(k+1) by omega)]
   ·rw [YB h3,YB (show ¬i-(k+1)<n-(k+1) by omega)]
theorem J0 (n k:Nat) (hk:k≤n):(jW n k).size=n:=by simp [jW];omega
theorem Ez (n k:Nat):(jW n k).toList.countP (fun b=>b)=k:=by
 simp [jW,List.countP_replicate]
theorem z8 {L:Array Bool} (hs:L.size=n) (hk:k≤n) (h1:∀i,i<k→L.getD i false=true) (h2:∀i,k≤i→L.getD i false=false):L=jW n k:=by
 apply Array.ext
 ·rw [hs,J0 n k hk]
 ·intro i hi hi2;have e1:L[i]=L.getD i false:=by simp [hi]
  have e2:(jW n k)[i]=(jW n k).getD i false:=by simp [hi2]
  rw [e1,e2,Jf n k i]
  rcases Zj i k with h|h
  ·rw [h1 i h];simp [h]
  ·rw [h2 i h];have:¬i<k:=Yv;simp [this]
theorem rm {l:List Oper}{Q':Exit→Act→World→Prop} (m:Nat)
  (hr:∀k,m≤k→k<l.length→Region.ready .any l.toArray (jW l.length k)=[k]) (hend:Region.ready .any l.toArray (jW l.length l.length)=[]):
  ∀(fuel k:Nat) (a:Act) (w:World),m≤k→k≤l.length→l.length≤fuel+k→wpList P l.toArray Q' (l.drop k) a w→wpAny P .any l.toArray Q' fuel (jW l.length k) a w
 |fuel,k,a,w,hmk,hk,hf,h=>by
  rcases Zj k l.length with hlt|hge
  ·cases fuel with
   |zero=>omega
   |succ fuel=>
    refine wpAny_all (hr k hmk hlt) (by simp) fun i hi=> ?_;obtain rfl:i=k:=by simpa using hi
    rw [ZR hlt] at h;unfold wpList at h;have ho:l.toArray[i]?=some l[i]:=by simp [hlt]
    have hset:=K0 l.length i hlt;have hgo:∀a w,wpList P l.toArray Q' (l.drop (i+1)) a w→wpAny P .any l.toArray Q' fuel ((jW l.length i).setIfInBounds i true) a w:=fun a w h=>by
     rw [hset];exact rm m hr hend fuel (i+1) a w Yv Yv Yv h
    unfold wpOp;rw [ho];simp only [];split at h
    ·rename_i hw;rw [YA hw];exact h.imp (Oper.wp_mono hgo) id
    ·rename_i hw;rw [YB hw];exact hgo _ _ h
  ·obtain rfl:k=l.length:=Yv;rw [List.drop_length] at h;exact wpAny_done hend h fuel
structure DI (D:List Deferred) (N:Nat) (ops:Array Oper) (m:Nat) (ρ:Rf) (J:World→Prop) (V:Nat→Value→World→Prop) (L:Array Bool) (a:Act) (w:World):Prop where
 nd:a.defers=D
 sz:a.tmps.size=N
 j:J w
 ls:L.size=ops.size
 cl:qJ ops L
 tl:∀k,m≤k→L.getD k false=false
 vs:∀i d,i<m→L.getD i false=true→(ops[i]?).bind (·.dst)=some d→V i (a.tmps.getD d undef) w
 L7:∀s,(∀i,i<m→L.getD i false=true→(ops[i]?).bind (·.dst)≠some s)→a.tmps.getD s undef=ρ s
theorem eh {L:Array Bool}{i:Nat} (hi:i<L.size):(L.setIfInBounds i true).getD j false=(decide (j=i)||L.getD j false):=by
 rw [ZI,Array.getElem?_setIfInBounds];by_cases h:i=j
 ·subst h;simp [hi]
 ·have:¬j=i:=fun e=>h e.symm;simp [h,this]
theorem eR {a:Act}{d s:Nat}{v:Value} (hd:d<a.tmps.size):(a.put (some d) v).tmps.getD s undef=if s=d then v else a.tmps.getD s undef:=by
 by_cases h:s=d
 ·subst h;simp [Act.put,hd]
 ·have:d≠s:=fun e=>h e.symm;simp [Act.put,Array.getElem?_setIfInBounds_ne this,h]
theorem m0 (f:Nat→Value):∀(ds:List (Nat×Nat)) (s:Nat),(ds.map (·.2)).Nodup→(∀i,(i,s)∈ds→m8 ρ f ds s=f i)∧((∀i,(i,s)∉ds)→m8 ρ f ds s=ρ s)
 |[],s,_=>⟨fun i h=>by simp at h,fun _=>rfl⟩
 |(j,d)::r,s,h=>by
  rw [Y1,aar] at h;obtain ⟨h1,h2⟩:=m0 f r s h.2;constructor
  ·intro i hi
   rcases YS.1 hi with hi'|hi'
   ·injection hi' with e1 e2
    subst e1;subst e2;exact ju _ _ _
   ·have hne:s≠d:=fun e=>h.1 (e ▸ YR.2 ⟨_,hi',rfl⟩);exact (bI _ hne _).trans (h1 i hi')
  ·intro hn;have hne:s≠d:=by
    rintro rfl;exact hn j YL
   exact (bI _ hne _).trans (h2 fun i hi=>hn i (YP _ hi))
theorem uO {V:Nat→Value→World→Prop}{f:Nat→Value}{w:World}:∀(ds:List (Nat×Nat)),(∀p∈ds,V p.1 (f p.1) w)→Cf V f w ds
 |[],_=>trivial
 |(i,d)::r,h=>⟨h (i,d) YL,uO r fun p hp=>h p (YP _ hp)⟩
theorem rF {V:Nat→Value→World→Prop}{ρ1:Rf}{w1:World}:∀(s:List (Nat×Option Nat)),(∀p∈s,match p.2 with|some j=>V j (ρ1 p.1) w1|none=>ρ1 p.1=ρ p.1)→dw V ρ ρ1 w1 s
 |[],_=>trivial
 |(t,some j)::r,h=>⟨h (t,some j) YL,rF r fun p hp=>h p (YP _ hp)⟩
 |(t,none)::r,h=>⟨h (t,none) YL,rF r fun p hp=>h p (YP _ hp)⟩
theorem PE {id:Nat}{l:List Oper} (m:Nat) (src:List (List (Nat×Option Nat))) (ds:List (Nat×Nat)) (J:World→Prop) (V:Nat→Value→World→Prop) (hm:P.follows .mixedOrders=true) (hok:Es l m N src ds=true)
  (hJ:∀w w',J w→Below w.heap.size w w'→J w') (h0:J w) (hops:DO P l.toArray J V ρ 0 (l.take m) src)
  (tail:∀f w',J w'→Cf V f w' ds→WL ⟨none,D,false⟩ P N l.toArray Q (l.drop m) (m8 ρ f ds) w'):WC ⟨none,D,false⟩ P N (.region id l.toArray true) Q ρ w:=by
 refine WC.rD fun a hf=>wp_region_any hm ?_;simp only [Es,YU,YY,aam,Y6,ZA] at hok;obtain ⟨⟨⟨⟨⟨⟨⟨⟨⟨⟨hml,_⟩,hds⟩,hnd⟩,hdN⟩,hrd⟩,htail⟩,hready⟩,hend⟩,hdep⟩,hedge⟩:=hok;have hdo:=(G7 _ _ _ hops).2;have hpre:∀i d,i<m→((l.toArray[i]?).bind (·.dst))=some d→(i,d)∈ds:=fun i d hi hd=>by
  exact S0
 have hdsm:∀i d,(i,d)∈ds→i<m∧((l.toArray[i]?).bind (·.dst))=some d:=fun i d hp=>by
  exact SW
 have hone:∀i j d,i<m→j<m→((l.toArray[i]?).bind (·.dst))=some d→((l.toArray[j]?).bind (·.dst))=some d→i=j:=fun i j d hi hj h1 h2=>by
  exact Tg
 have hnn:l.toArray.size=l.length:=by simp
 have full:∀(L:Array Bool) (a:Act) (w:World) (fuel:Nat),DI D N l.toArray m ρ J V L a w→(∀i,i<m→L.getD i false=true)→l.length≤fuel+m→wpAny P .any l.toArray (ea N D Q) fuel L a w:=by
  intro L a w fuel hI hall hfu;have hL:L=jW l.length m:=z8 (by rw [hI.ls,hnn]) hml hall hI.tl;rw [hL];refine rm m (fun k h1 h2=> ?_) hend fuel m a w (YE _) hml hfu ?_
  ·have:=hready (k-m) Yv;rwa [show m+(k-m)=k by omega] at this
  ·have hfits:fi N D a (m8 ρ (fun i=>match (l.toArray[i]?).bind (·.dst) with|some d=>a.tmps.getD d undef|none=>undef) ds):=by
    exact VY
   refine (tail _ w hI.j (uO ds fun p hp=> ?_)).out a hfits;obtain ⟨h1,h2⟩:=hdsm p.1 p.2 hp;have:=hI.vs p.1 p.2 h1 (hall _ h1) h2;rw [h2];exact this
 have key:∀(fuel:Nat) (L:Array Bool) (a:Act) (w:World),DI D N l.toArray m ρ J V L a w→fuel+L.toList.countP (fun b=>b)=l.length→wpAny P .any l.toArray (ea N D Q) fuel L a w:=by
  intro fuel
  induction fuel with
  |zero=>
   exact Ve
  |succ fuel ih=>
   intro L a w hI hc;by_cases hall:∀i,i<m→L.getD i false=true
   ·exact QD
   ·have hsome:∃i,i<m∧L.getD i false=false:=by
     exact QO
    have hready_spec:∀i,i∈Region.ready .any l.toArray L↔i<l.length∧L.getD i true=false∧∃o,l.toArray[i]?=some o∧∀e∈o.after,Region.binds .any e=true→L.getD e.on false=true:=fun i=>by
     exact Ud
    refine ⟨fun hnil=> ?_,fun i hi=> ?_⟩
    ·exact VH
    ·obtain ⟨hil,hun,o,ho,hed⟩:=(hready_spec i).1 hi;have hiL:i<L.size:=by rw [hI.ls,hnn];exact hil
     have hun':L.getD i false=false:=by
      exact TK
     have hed':∀o',l.toArray[i]?=some o'→∀e∈o'.after,Region.binds .any e=true→L.getD e.on false=true:=fun o' ho'=>by
      exact LN
     have him:i<m:=by
      rcases Zj i m with h|h
      ·exact h
      ·exfalso
       rcases Zj m i with h2|h2
       ·have h3:=hdep (i-m) Yv;rw [show m+(i-m)=i by omega] at h3;have h4:(i-m==0)=false:=by simp;omega
        rw [h4,ZD] at h3;have:=oN hI.cl 16 i m hed' h3;rw [hI.tl m (YE _)] at this
        cases this
       ·obtain rfl:i=m:=Yv;have h4:(l.length==i)=false:=by simp;omega
        rw [h4,ZD] at htail;have h5:=Y6.1 htail;obtain ⟨j,hj,hju⟩:=hsome;have:=oN hI.cl 16 i j hed' (h5 j (by simpa using hj));rw [hju] at this
        cases this
     have hok':(l.take m)[i]?=some o:=by
      rw [Z9,YA him];simpa using ho
     obtain ⟨s,hs,hstab,hog⟩:=hdo i o hok';rw [Y0] at hstab hog;have hrdi:=hrd i him;rw [ho,hs] at hrdi;simp only [YU,Y6] at hrdi;have hro:dw V ρ (fun t=>a.tmps.getD t undef) w s:=rF s fun p hp=>by
      have hp2:=hrdi.2 p hp
      cases hp3:p.2 with
      |some j=>
       rw [hp3] at hp2;simp only [YU,YY,aam] at hp2;exact hI.vs j p.1 hp2.1.1 (oN hI.cl 16 i j hed' hp2.2) hp2.1.2
      |none=>
       rw [hp3] at hp2;refine hI.L7 p.1 fun j hj hjl hjd=> ?_;have h6:=Y6.1 hp2 j (by simpa using hj);rw [hjd] at h6;simp only [beq_self_eq_true,Bool.not_true,ZD,YU] at h6;have:=oN hI.cl 16 j i (fun o' ho' e he hb=>hI.cl j o' ho' hjl e he hb) h6.2;rw [hun'] at this
       cases this
     have hgo:=(hog _ w hI.j hro).out a (wpAny P .any l.toArray (ea N D Q) fuel (L.setIfInBounds i true)) (ea N D Q) (fun _=>rfl) (fun v w2 hv=>by
      refine ih _ _ _ ?_ ?_
      ·refine ⟨?_, ?_,hJ _ _ hI.j hv.1,by simpa using hI.ls, ?_, ?_, ?_, ?_⟩
       ·cases o.dst<;>exact hI.nd
       ·cases hod:o.dst with
        |none=>exact hI.sz
        |some d=>simpa [Act.put] using hI.sz
       ·intro k ok hk hkl e he hb;rw [eh hiL] at hkl ⊢;by_cases hki:k=i
        ·subst hki;simp [hed' ok hk e he hb]
        ·simp only [hki,decide_false,ZD] at hkl;simp [hI.cl k ok hk hkl e he hb]
       ·intro k hk;rw [eh hiL,hI.tl k hk];have:¬k=i:=Yv;simp [this]
       ·intro j d hj hjl hjd;rw [eh hiL] at hjl;have hd1:∀d',o.dst=some d'→d'<a.tmps.size:=fun d' hd'=>by
         rw [hI.sz];exact hdN (i,d') (hpre i d' him (by rw [ho];exact hd'))
        by_cases hji:j=i
        ·subst hji;rw [ho] at hjd;simp only [aaP] at hjd;rw [hjd,eR (hd1 d hjd),YA rfl];exact hv.2
        ·simp only [hji,decide_false,ZD] at hjl;have hold:=hI.vs j d hj hjl hjd;have hdj:(j,d)∈ds:=hpre j d hj hjd;have hst:=(hdo j (l.toArray[j]?.getD default) (by
          have:j<l.length:=Yv;rw [Z9,YA hj];simp [this])).choose_spec.2.1
         rw [Y0] at hst;have hne:∀d',o.dst=some d'→d≠d':=fun d' hd' e=>by
          subst e;exact hji (hone j i d hj him hjd (by rw [ho];exact hd'))
         cases hod:o.dst with
         |none=>exact hst _ _ _ hold hv.1
         |some d'=>
          rw [eR (hd1 d' hod),YB (hne d' hod)];exact hst _ _ _ hold hv.1
       ·intro s' hs';have hni:((l.toArray[i]?).bind (·.dst))≠some s':=hs' i him (by rw [eh hiL];simp);have hold:=hI.L7 s' fun j hj hjl=>hs' j hj (by rw [eh hiL];simp [hjl]);rw [ho] at hni;simp only [aaP] at hni
        cases hod:o.dst with
        |none=>exact hold
        |some d'=>
         rw [eR (by rw [hI.sz];exact hdN (i,d') (hpre i d' him (by rw [ho];exact hod))),YB (fun e=>hni (by rw [hod,e]))];exact hold
      ·have hLi:L.toList[i]?=some false:=by
        have h3:i<L.toList.length:=by simpa using hiL
        rw [Z1 h3];have:L.getD i false=L.toList[i]:=by simp [hiL]
        rw [←this,hun']
       rw [Array.toList_setIfInBounds,List.countP_set (by simpa using hiL)];have h4:L.toList[i]'(by simpa using hiL)=false:=(YQ.1 hLi).2;rw [h4];simp only [abG,if_false,if_true];omega)
     unfold wpOp;rw [ho];exact hgo
 have hJ0:J ({ w with drawn:=w.drawn+1 }:World):=hJ w _ h0 ⟨rfl,rfl,rfl,YE _,fun _ _=>rfl⟩;have hr0:∀i,(Array.replicate l.toArray.size false).getD i false=false:=fun i=>by
  rw [ZI,Array.getElem?_replicate];split<;>rfl
 refine key _ _ _ _ ⟨hf.nd,hf.sz,hJ0,by simp,fun k o _ hk=> ?_,fun k _=>hr0 k,fun i d _ hi=> ?_,fun s _=>hf.at_ s⟩ ?_
 ·rw [hr0] at hk;cases hk
 ·rw [hr0] at hi;cases hi
 ·simp [List.countP_replicate]
def Is (c:Value):Value→World→Prop:=fun v _=>v=c
theorem Is.ext {c:Value} (v:Value) (w w':World) (h:Is c v w) (_:Below w.heap.size w w'):Is c v w':=h
structure JJ (w0:World) (H:List HE) (w W:World):Prop where
 hp:Hp w0 H W
 bl:Below w.heap.size w W
theorem JJ.ext {H:List HE}{W':World} (h:JJ w0 H w W) (hb:Below W.heap.size W W'):JJ w0 H w W':=⟨h.hp.ext hb,h.bl.trans (hb.mono h.bl.size)⟩
theorem JJ.start {H:List HE} (h:Hp w0 H w):JJ w0 H w w:=⟨h,Below.refl _ _⟩
def Vf (n k:Nat) (cs:List Value):Value→World→Prop:=fun v W=>∃b,v=.slice (some ⟨b,0,none⟩) n n∧Sl W (some ⟨b,0,none⟩) n k cs
def cS (w:World) (t:TypeId) (cs:List Value):Value→World→Prop:=fun v W=>∃b,v=.pointer (some ⟨b,0,none⟩)∧w.heap.size≤b∧W.heap[b]?=some (.cells cs.toArray t (0,0))
theorem cS.ext {t:TypeId} (v:Value) (w1 w2:World) (h:cS w t cs v w1) (hb:Below w1.heap.size w1 w2):cS w t cs v w2:=by
 obtain ⟨b,h1,h2,h3⟩:=h;have hlt:b<w1.heap.size:=by
  rcases Zj b w1.heap.size with hlt|hge
  ·exact hlt
  ·rw [abn hge] at h3;cases h3
 exact ⟨b,h1,h2,(hb.block b hlt).trans h3⟩
theorem jR {d:Option Nat}{ty:TypeId}{af:Array Edge}{t e:TypeId}{len sz:Nat} (ht:P.underlying t=some (.slice e)) (hte:dH P e=some (sz,ag,by',zc))
  (hp:ya ρ parts.toList=ps) (hzl:zc.length=sz) (hf:lN (fun i=>some (i*sz,sz)) (gu len zc) ps=some cs) (h0:¬len*sz=0) (hsl:len*sz≤16777216) (hl:cs.length=len*sz)
  (hk:∀v w2,Vf len sz cs v w2→Below w.heap.size w w2→K v w2):OG P ops ⟨d,.buildSlice t len parts,ty,pos,af,none⟩ ρ w K:=by
 obtain ⟨z,hz,hzc⟩:=ek (w:=w) hte;have hbl:Below w.heap.size w (w.alloc (.cells cs.toArray e)):=(Below.refl _ _).alloc (YE _) _;refine eJ rfl (w':=w.alloc (.cells cs.toArray e)) (v:=.slice (some ⟨w.heap.size,0,none⟩) len len) ?_ (hk _ _ ⟨w.heap.size,rfl,hl,fun _=>⟨_,rfl,fun j u hu=> ?_⟩⟩ hbl)
 ·exact T2
 ·rw [gh,Y0,cell_of_row _ w.heap.size j cs.toArray e (0,0) (heap_alloc_new w _)];simpa using hu
theorem gP {d:Option Nat}{ty:TypeId}{af:Array Edge}{t:TypeId}{wr:World} (ht:dH P t=some (n,ag,by',zc)) (hb:Below wr.heap.size wr w)
  (hk:∀v w2,cS wr t zc v w2→Below w.heap.size w w2→K v w2):OG P ops ⟨d,.alloc t,ty,pos,af,none⟩ ρ w K:=by
 obtain ⟨z,hz,hzc⟩:=ek (w:=w) ht;exact eJ rfl (w':=w.alloc (.cells zc.toArray t)) (v:=.pointer (some ⟨w.heap.size,0,none⟩)) (by simp [execOp,Instr.alloc,newVar,newRow,hz,hzc]) (hk _ _ ⟨w.heap.size,rfl,hb.size,heap_alloc_new w _⟩ ((Below.refl _ _).alloc (YE _) _))
theorem JJ.newVar {H:List HE}{t:TypeId} (h:JJ w0 H w W) (hs:Hp w0 H w) (h2:w.heap.size≤b) (h3:W.heap[b]?=some (.cells cs.toArray t (0,0))):Hp w0 (.blk b t cs (0,0)::H) W:=by
 refine ⟨h.hp.below, ?_, ?_⟩
 ·intro y hy
  rcases YS.1 hy with rfl|hy
  ·exact ⟨Y2 hs.size h2,h3,.inr (YE _)⟩
  ·exact h.hp.own y hy
 ·rw [aap];show (b::H.filterMap HE.id).Nodup;refine aar.2 ⟨fun hm=> ?_,h.hp.nd⟩;obtain ⟨y,hy,hyb⟩:=ZJ.1 hm;have:=(eA (hs.own y hy) hyb).2;omega
end
section
abbrev VP:=Value→World→Prop
def eI (pv:Nat→VP) (i:Nat) (V:VP):Nat→VP:=fun j=>cond (Nat.beq j i) V (pv j)
def WV:Nat→VP:=fun _ _ _=>True
def DX (P:Program) (ops:Array Oper) (J:World→Prop) (ρ:Rf) (T:(Nat→VP)→Prop):Nat→(Nat→VP)→List Oper→List (List (Nat×Option Nat))→Prop
 |i,pv,o::os,s::ss=>∃V:VP,(∀v w w',V v w→Below w.heap.size w w'→V v w')∧(∀ρ1 w1,J w1→dw pv ρ ρ1 w1 s→OG P ops o ρ1 w1 fun v w2=>Below w1.heap.size w1 w2∧V v w2)∧DX P ops J ρ T (i+1) (eI pv i V) os ss
 |_,pv,[],[]=>T pv
 |_,_,_,_=>False
theorem Ob (pv:Nat→VP) (i:Nat) (V:VP):eI pv i V i=V:=by simp [eI]
theorem Bm (pv:Nat→VP) {i:Nat} (V:VP) (h:j≠i):eI pv i V j=pv j:=by
 have:Nat.beq j i=false:=by rw [aaV];intro h2;exact h (Nat.eq_of_beq_eq_true h2)
 simp only [eI,this,cond_false]
theorem tg {V V':Nat→VP}{ρ ρ1:Rf}{w1:World} (h:∀j v w,V j v w→V' j v w):∀s,dw V ρ ρ1 w1 s→dw V' ρ ρ1 w1 s
 |[],_=>trivial
 |(_,some _)::r,hh=>⟨h _ _ _ hh.1,tg h r hh.2⟩
 |(_,none)::r,hh=>⟨hh.1,tg h r hh.2⟩
theorem HU {P:Program}{ops:Array Oper}{J:World→Prop}{ρ:Rf}{T:(Nat→VP)→Prop}:∀(os:List Oper) (ss:List (List (Nat×Option Nat))) (i:Nat) (pv:Nat→VP),(∀j,i≤j→∀v w,pv j v w)→DX P ops J ρ T i pv os ss→
  ∃V,(∀j,j<i→V j=pv j)∧DO P ops J V ρ i os ss∧T V
 |[],[],_,pv,_,h=>⟨pv,fun _ _=>rfl,trivial,h⟩
 |[],_::_,_,_,_,h=>h.elim
 |_::_,[],_,_,_,h=>h.elim
 |o::os,s::ss,i,pv,hpv,⟨V,h1,h2,h3⟩=>by
  obtain ⟨V',h4,h5,h6⟩:=HU os ss (i+1) (eI pv i V) (fun j hj v w=>by rw [Bm _ _ Yv];exact hpv j Yv v w) h3;have e:V' i=V:=by rw [h4 i Yv,Ob]
  refine ⟨V',fun j hj=>by rw [h4 j Yv,Bm _ _ Yv],⟨⟨?_, ?_⟩,h5⟩,h6⟩
  ·rw [e];exact h1
  ·intro ρ1 w1 hj hr;rw [e];refine h2 ρ1 w1 hj (tg (fun j v w hh=> ?_) s hr)
   rcases Zj j i with hlt|hge
   ·rw [h4 j Yv,Bm _ _ Yv] at hh;exact hh
   ·exact hpv j hge v w
theorem aW {Q:Kq}{id:Nat}{l:List Oper} (m:Nat) (src:List (List (Nat×Option Nat))) (ds:List (Nat×Nat)) {H:List HE} (hh:Hp w0 H w) (hm:P.follows .mixedOrders=true) (hok:Es l m N src ds=true)
  (h:DX P l.toArray (JJ w0 H w) ρ (fun V=>∀f w',JJ w0 H w w'→Cf V f w' ds→WL ⟨none,D,false⟩ P N l.toArray Q (l.drop m) (m8 ρ f ds) w') 0 WV (l.take m) src):WC ⟨none,D,false⟩ P N (.region id l.toArray true) Q ρ w:=by
 obtain ⟨V,_,h1,h2⟩:=HU _ _ _ _ (fun _ _ _ _=>trivial) h;exact PE m src ds (JJ w0 H w) V hm hok (fun _ _ h hb=>h.ext hb) (JJ.start hh) h1 h2
variable {P:Program}{ops:Array Oper}{J:World→Prop}{ρ:Rf}{T:(Nat→VP)→Prop}{i:Nat}{pv:Nat→VP}{os:List Oper}{s:List (Nat×Option Nat)}{ss:List (List (Nat×Option Nat))}{d:Option Nat}{op:Op}{ty:TypeId}{pos:String}{af:Array Edge}
theorem aM (h:T pv):DX P ops J ρ T i pv [] []:=h
theorem aO {o:Oper} (V:VP) (h1:∀v w w',V v w→Below w.heap.size w w'→V v w') (h2:∀ρ1 w1,J w1→dw (pv) ρ ρ1 w1 s→OG P ops o ρ1 w1 fun v w2=>Below w1.heap.size w1 w2∧V v w2)
  (k:DX P ops J ρ T (i+1) (eI pv i (V)) os ss):DX P ops J ρ T i pv (o::os) (s::ss):=⟨V,h1,h2,k⟩
theorem bu {v:Value} (hr:∀ρ1 w1,J w1→dw (pv) ρ ρ1 w1 s→(execOp (ev ρ1) ⟨d,op,ty,pos,af,none⟩).run P w1=.ok (.value v) w1)
  (k:DX P ops J ρ T (i+1) (eI pv i (Is v)) os ss):DX P ops J ρ T i pv (⟨d,op,ty,pos,af,none⟩::os) (s::ss):=
 aO (Is v) Is.ext (fun ρ1 w1 hj h=>eJ rfl (hr ρ1 w1 hj h) ⟨Below.refl _ _,rfl⟩) k
theorem Pw {v:Value}{f:FuncId}{args:Array Value} (hr:∀ρ1 w1,J w1→dw (pv) ρ ρ1 w1 s→(execOp (ev ρ1) ⟨d,op,ty,pos,af,none⟩).run P w1=.ok (.enter f args) w1)
  (hc:∀w1,J w1→Calls P f args w1 fun e w'=>e=.returned v∧Below w1.heap.size w1 w')
  (k:DX P ops J ρ T (i+1) (eI pv i (Is v)) os ss):DX P ops J ρ T i pv (⟨d,op,ty,pos,af,none⟩::os) (s::ss):=
 aO (Is v) Is.ext (fun ρ1 w1 hj h=>bk rfl (hr ρ1 w1 hj h) (hc w1 hj) fun _ _ hq=>⟨v,hq.1,hq.2,rfl⟩) k
def Rows (n k:Nat) (cs:List Value):VP:=fun v W=>∃A c,v=.slice A n c∧Sl W A n k cs
theorem Rows.ext (v:Value) (w w':World) (h:Rows n k cs v w) (hb:Below w.heap.size w w'):Rows n k cs v w':=let ⟨A,c,h1,h2⟩:=h;⟨A,c,h1,h2.ext hb⟩
theorem xI {t e:TypeId}{len sz:Nat} (ht:P.underlying t=some (.slice e)) (hte:dH P e=some (sz,ag,by',zc))
  (hp:∀ρ1 w1,J w1→dw (pv) ρ ρ1 w1 s→ya ρ1 parts.toList=ps) (hzl:zc.length=sz) (hf:lN (fun i=>some (i*sz,sz)) (gu len zc) ps=some cs) (h0:¬len*sz=0) (hsl:len*sz≤16777216) (hl:cs.length=len*sz)
  (k:DX P ops J ρ T (i+1) (eI pv i (Rows len sz cs)) os ss):DX P ops J ρ T i pv (⟨d,.buildSlice t len parts,ty,pos,af,none⟩::os) (s::ss):=
 aO (Rows len sz cs) Rows.ext (fun ρ1 w1 hj h=>jR ht hte (hp ρ1 w1 hj h) hzl hf h0 hsl hl fun _ _ ⟨_,hv,hs⟩ hb=>⟨hb,_,_,hv,hs⟩) k
theorem uN {b:Bool}{v:Value} (hj:(ops[j]?).bind (·.dst)=some dj) (hv:∀ρ1 w1,J w1→dw (pv) ρ ρ1 w1 s→ρ1 dj=.bool b)
  (hr:∀ρ1 w1,J w1→dw (pv) ρ ρ1 w1 s→(execOp (ev ρ1) ⟨d,op,ty,pos,af,none⟩).run P w1=.ok (.value v) w1)
  (k:DX P ops J ρ T (i+1) (eI pv i (Is v)) os ss):DX P ops J ρ T i pv (⟨d,op,ty,pos,af,some (j,b)⟩::os) (s::ss):=
 aO (Is v) Is.ext (fun ρ1 w1 hj' h=>bz hj (hv ρ1 w1 hj' h) (eJ rfl (hr ρ1 w1 hj' h) ⟨Below.refl _ _,rfl⟩)) k
theorem g8 {b:Bool}{v:Value}{f:FuncId}{args:Array Value} (hj:(ops[j]?).bind (·.dst)=some dj) (hv:∀ρ1 w1,J w1→dw (pv) ρ ρ1 w1 s→ρ1 dj=.bool b)
  (hr:∀ρ1 w1,J w1→dw (pv) ρ ρ1 w1 s→(execOp (ev ρ1) ⟨d,op,ty,pos,af,none⟩).run P w1=.ok (.enter f args) w1)
  (hc:∀w1,J w1→Calls P f args w1 fun e w'=>e=.returned v∧Below w1.heap.size w1 w')
  (k:DX P ops J ρ T (i+1) (eI pv i (Is v)) os ss):DX P ops J ρ T i pv (⟨d,op,ty,pos,af,some (j,b)⟩::os) (s::ss):=
 aO (Is v) Is.ext (fun ρ1 w1 hj' h=>bz hj (hv ρ1 w1 hj' h) (bk rfl (hr ρ1 w1 hj' h) (hc w1 hj') fun _ _ hq=>⟨v,hq.1,hq.2,rfl⟩)) k
theorem pJ {b c:Bool} (hj:(ops[j]?).bind (·.dst)=some dj) (hv:∀ρ1 w1,J w1→dw (pv) ρ ρ1 w1 s→ρ1 dj=.bool c) (hb:c≠b)
  (k:DX P ops J ρ T (i+1) (eI pv i (Is undef)) os ss):DX P ops J ρ T i pv (⟨d,op,ty,pos,af,some (j,b)⟩::os) (s::ss):=
 aO (Is undef) Is.ext (fun ρ1 w1 hj' h=>xD hj (hv ρ1 w1 hj' h) hb ⟨Below.refl _ _,rfl⟩) k
end
end
def aD {α:Type} (f:α→List Value) (l:List α):List Value:=l.flatMap f
section
variable {α:Type}{f:α→List Value}{sz:Nat}
theorem eS (hf:∀x,(f x).length=sz) (l:List α):(aD f l).length=l.length*sz:=by
 induction l with
 |nil=>simp [aD]
 |cons x l ih=>
  have:aD f (x::l)=f x++aD f l:=by simp [aD]
  rw [this,YK,hf,ih,YZ,ZE];omega
theorem g6 (x:α) (l:List α):aD f (x::l)=f x++aD f l:=by simp [aD]
theorem bZ (l m:List α):aD f (l++m)=aD f l++aD f m:=by simp [aD]
theorem iB (x:α):aD f [x]=f x:=by simp [aD]
theorem hZ (hf:∀x,(f x).length=sz) (l:List α) (k:Nat):(aD f l).drop (k*sz)=aD f (l.drop k):=by
 induction l generalizing k with
 |nil=>simp [aD]
 |cons x l ih=>
  cases k with
  |zero=>simp
  |succ k=>rw [g6,ZE,aat,←hf x,List.drop_append,List.drop_succ_cons,←ih k,hf x];simp [hf x]
theorem jO (hf:∀x,(f x).length=sz) (l:List α) (k:Nat):(aD f l).take (k*sz)=aD f (l.take k):=by
 induction l generalizing k with
 |nil=>simp [aD]
 |cons x l ih=>
  cases k with
  |zero=>simp [aD]
  |succ k=>rw [g6,ZE,aat,List.take_succ_cons,g6,←ih k,←hf x,List.take_append];simp;exact YG (Nat.le_add_right _ _)
theorem rl (hf:∀x,(f x).length=sz) {l:List α}{x:α} (h:l[k]?=some x):((aD f l).drop (k*sz)).take sz=f x:=by
 obtain ⟨h1,h2⟩:=YQ.1 h;rw [hZ hf,ZR h1,h2,g6,abP (by rw [hf];omega),YG (by rw [hf];omega)]
theorem Rd.recAt {l:List α} (h:Rd w ad (aD f l)) (hf:∀x,(f x).length=sz) {x:α} (hx:l[k]?=some x):Rd w (ad.add (k*sz)) (f x):=by
 have:=h.elem k sz;rwa [rl hf hx] at this
theorem Sl.bh {A:Option Addr}{l:List α} (h:Sl w A n sz (aD f l)) (hf:∀x,(f x).length=sz) (h0:0<sz):l.length=n:=by
 have:=h.1;rw [eS hf] at this;exact Nat.eq_of_mul_eq_mul_right h0 this
theorem jZ (hf:∀x,(f x).length=sz) {l:List α}{y:α} (h:k<l.length):cM (aD f l) (k*sz) (f y)=aD f (l.set k y):=by
 unfold cM;rw [jO hf,hf,←ZE,hZ hf,abF,YA h,bZ,g6,Ze]
theorem bD (h:∀x,(f x).all Value.oneCell'=true) (l:List α):((aD f l).all Value.oneCell')=true:=by
 rw [Y6];intro v hv;obtain ⟨x,_,hx⟩:=aai.1 hv;exact Y6.1 (h x) v hx
end
theorem gC {l:List α}{x:α} (h:l[k]?=some x):l.drop k=x::l.drop (k+1):=by
 obtain ⟨h1,rfl⟩:=YQ.1 h;exact ZR h1
theorem iW {p:α→Bool}{l:List α} (h:l.any p=false):l.find? p=none:=by
 rw [List.find?_eq_none];intro x hx;have:=aaa.1 h x hx;simpa using this
theorem zD {p:α→Bool}{l:List α}{i:Nat}{x:α} (h:(l.take i).any p=false) (hx:l[i]?=some x) (hp:p x=true):l.find? p=some x:=by
 have:l=l.take i++x::l.drop (i+1):=by rw [←gC hx,Zv]
 rw [this,List.find?_append,iW h,List.find?_cons_of_pos hp]
 rfl
section
variable {D:List Deferred}
section
variable {P:Program}{N:Nat}{Q:Kq}{ρ:Rf}{w:World}
def p7 (acc:List Nat):List Edge→Nat
 |[]=>0
 |e::r=>bif Region.binds .any e then 1<<<e.on|||acc.getD e.on 0|||p7 acc r else p7 acc r
def xr:List Oper→List Nat→List Nat
 |[],acc=>acc
 |o::r,acc=>xr r (acc++[p7 acc o.after.toList])
theorem qx {acc:List Nat}{i:Nat}:∀{es:List Edge},(p7 acc es).testBit i=true→∃e∈es,Region.binds .any e=true∧(e.on=i∨(acc.getD e.on 0).testBit i=true)
 |[],h=>by simp [p7] at h
 |e::r,h=>by
  unfold p7 at h
  cases hb:Region.binds .any e with
  |false=>
   rw [hb,cond_false] at h;obtain ⟨e',h1,h2⟩:=qx h;exact ⟨e',YP _ h1,h2⟩
  |true=>
   rw [hb,cond_true,Nat.testBit_or,Nat.testBit_or,aaL,aaL] at h
   rcases h with (h|h)|h
   ·refine ⟨e,YL,hb,.inl ?_⟩;rw [Nat.one_shiftLeft,Nat.testBit_two_pow] at h;simpa using h
   ·exact ⟨e,YL,hb,.inr h⟩
   ·obtain ⟨e',h1,h2⟩:=qx h;exact ⟨e',YP _ h1,h2⟩
theorem DW:∀(l:List Oper) (acc:List Nat),∃t,xr l acc=acc++t
 |[],acc=>⟨[],by simp [xr]⟩
 |o::r,acc=>by
  obtain ⟨t,h⟩:=DW r (acc++[p7 acc o.after.toList]);exact ⟨_,by rw [xr,h,Ze]⟩
theorem Gn:∀(l:List Oper) (acc:List Nat) (k i:Nat),acc.length≤k→((xr l acc).getD k 0).testBit i=true→∃o,l[k-acc.length]?=some o∧∃e∈o.after,Region.binds .any e=true∧(e.on=i∨e.on<k∧((xr l acc).getD e.on 0).testBit i=true)
 |[],acc,k,i,hk,h=>by
  rw [xr,Zo,Y7 hk] at h;simp at h
 |o::r,acc,k,i,hk,h=>by
  rcases Zj acc.length k with hlt|hge
  ·have hl:(acc++[p7 acc o.after.toList]).length=acc.length+1:=by simp
   obtain ⟨o',h1,h2⟩:=Gn r (acc++[p7 acc o.after.toList]) k i Yv h;refine ⟨o', ?_,h2⟩;rw [hl] at h1;rw [show k-acc.length=(k-(acc.length+1))+1 by omega,aaY];exact h1
  ·obtain rfl:k=acc.length:=Yv;obtain ⟨t,ht⟩:=DW r (acc++[p7 acc o.after.toList]);refine ⟨o,by rw [Zu];rfl, ?_⟩;rw [xr,ht] at h ⊢;rw [Zo,Ze,ZQ (YE _),Zu] at h;simp only [YJ,abf,ZY,YH] at h;obtain ⟨e,h1,h2,h3⟩:=qx h;refine ⟨e,by simpa using h1,h2, ?_⟩
   rcases h3 with h3|h3
   ·exact .inl h3
   ·have h4:e.on<acc.length:=by
     rcases Zj e.on acc.length with h5|h5
     ·exact h5
     ·rw [Zo,Y7 h5] at h3;simp at h3
    refine .inr ⟨h4, ?_⟩;rw [Zo,Ze,aaM h4,←Zo];exact h3
theorem kY {l:List Oper}{L:Array Bool} (hM:xr l []=M) (hc:qJ l.toArray L):∀(k i:Nat),(∀o,l.toArray[k]?=some o→∀e∈o.after,Region.binds .any e=true→L.getD e.on false=true)→(M.getD k 0).testBit i=true→L.getD i false=true:=by
 intro k
 induction k using Nat.strongRecOn with
 |_ k ih=>
  intro i hk h;rw [←hM] at h;obtain ⟨o,ho,e,he,hb,h3⟩:=Gn l [] k i (YD _) h;have ho':l.toArray[k]?=some o:=by rw [aaN];exact ho
  have h1:=hk o ho' e he hb
  rcases h3 with h3|⟨h3,h4⟩
  ·rw [←h3];exact h1
  ·rw [hM] at h4;exact ih e.on h3 i (fun o' ho2=>hc e.on o' ho2 h1) h4
def Wk (n m:Nat) (fl:List Nat):Array Bool:=((List.range n).map fun i=>decide (i<m∧i∉fl)).toArray
theorem Nd {i:Nat}{fl:List Nat} (hi:i<n):(Wk n m fl).getD i true=decide (i<m∧i∉fl):=by
 unfold Wk;rw [ZI,aaN,YN,Zx hi]
 rfl
def NP (Q:Kq):Prop:=∀c ρ w,¬Q (.panic c) ρ w
theorem cz {fn:Func}:NP (nX P fn R):=fun _ _ _ h=>h.1.elim nofun nofun
theorem bU (h:NP Q):NP (cU next Q):=fun c ρ w hq=>h c ρ w hq
theorem cw {id:Nat} (h:NP Q):NP (sI id Q):=fun c ρ w hq=>h c ρ w hq
def vJ:Op→Bool
 |.extract _ _=>true
 |.move _=>true
 |_=>false
def TF (l:List Oper) (m:Nat) (fl:List Nat) (i:Nat):Bool:=
 Region.free .any l.toArray (Wk l.length m fl) i && match l[i]? with
  |some ⟨some _,op,_,_,af,none⟩=>vJ op && af.all fun e=> !Region.binds .any e||(decide (e.on<m) && !fl.contains e.on)
  |_=>false
theorem JY {l:List Oper}{fl:List Nat}{i:Nat} (h:TF l m fl i=true):Region.free .any l.toArray (Wk l.length m fl) i=true∧(∀o,l[i]?=some o→∀e∈o.after,Region.binds .any e=true→e.on<m∧e.on∉fl)∧
  ∃d op ty pos af,l[i]?=some ⟨some d,op,ty,pos,af,none⟩∧vJ op=true:=by
 unfold TF at h;rw [YU] at h;obtain ⟨h1,h2⟩:=h;split at h2
 ·rename_i d op ty pos af ho;rw [YU] at h2;obtain ⟨hpu,h2⟩:=h2;refine ⟨h1,fun o ho' e he hb=> ?_,d,op,ty,pos,af,ho,hpu⟩;rw [ho] at ho';injection ho' with ho'
  subst ho';have:=abL.1 h2 e he;simp only [hb,Bool.not_true,ZD,YU,YY,aby,List.contains_eq_mem,abO] at this;exact this
 ·cases h2
def z3 (l:List Oper) (m N:Nat) (src:List (List (Nat×Option Nat))) (ds:List (Nat×Nat)) (fl M:List Nat):Bool:=
 let ops:=l.toArray
 let pre:=(List.range m).map fun i=>((ops[i]?).bind (·.dst))
 (m≤l.length) && (src.length==m) &&
 (ds==(pre.zipIdx.filterMap fun (d,i)=>d.map fun d=>(i,d)).reverse) && (decide (ds.map (·.2)).Nodup) && (ds.all fun p=>p.2<N) &&
 ((List.range m).all fun i=>match ops[i]?,src[i]? with
  |some o,some s=>((o.looksAt ops).all fun t=>s.any fun p=>p.1==t) &&
    s.all fun p=>match p.2 with
     |some j=>(j<m) && ((ops[j]?).bind (·.dst)==some p.1) && (M.getD i 0).testBit j
     |none=>(List.range m).all fun j=> !((ops[j]?).bind (·.dst)==some p.1)||(j !=i && (M.getD j 0).testBit i)
  |_,_=>false) &&
 (l.length==m||((List.range m).all fun i=>fl.contains i||(M.getD m 0).testBit i)) &&
 ((List.range (l.length-m)).all fun k=>Region.ready .any ops (jW l.length (m+k))==[m+k]) && (Region.ready .any ops (jW l.length l.length)==[]) &&
 ((List.range (l.length-m)).all fun k=>k==0||(M.getD (m+k) 0).testBit m) &&
 ((List.range l.length).all fun i=>match ops[i]? with|some o=>o.after.all fun e=> !Region.binds .any e||e.on<i|none=>false) &&
 Region.noSelect ops && (fl.all fun i=>TF l m fl i) && (xr l []==M)
def Au (P:Program) (l:List Oper):List Nat→Prop
 |[]=>True
 |i::r=>(∃d t ty pos af n ag by' zc,l[i]?=some ⟨some d,.alloc t,ty,pos,af,none⟩∧dH P t=some (n,ag,by',zc))∧Au P l r
theorem Au.at {l:List Oper}:∀{fr:List Nat},Au P l fr→∀i∈fr,∃d t ty pos af n ag by' zc,l[i]?=some ⟨some d,.alloc t,ty,pos,af,none⟩∧dH P t=some (n,ag,by',zc)
 |[],_,_,hi=>by simp at hi
 |j::r,h,i,hi=>by
  rcases YS.1 hi with rfl|hi
  ·exact h.1
  ·exact Au.at h.2 i hi
theorem dr {l:List Oper}:Au P l []:=trivial
theorem jL {l:List Oper}{i d t ty:Nat}{af:Array Edge}{r:List Nat} (h:l[i]?=some ⟨some d,.alloc t,ty,pos,af,none⟩) (ht:dH P t=some (n,ag,by',zc)) (hr:Au P l r):Au P l (i::r):=⟨⟨d,t,ty,pos,af,n,ag,by',zc,h,ht⟩,hr⟩
theorem LR {d:Nat}{t ty:Nat}{af:Array Edge} (ht:dH P t=some (n,ag,by',zc)) (h:OG P ops ⟨some d,.alloc t,ty,pos,af,none⟩ ρ w K)
  (a:Act) (hd:d<a.tmps.size) (next:Act→World→Prop) (Q:Exit→Act→World→Prop) (ha:∀i,a.tmps.getD i undef=ρ i) (hn:∀v w',K v w'→(∃b,v=.pointer (some ⟨b,0,none⟩)∧w.heap.size≤b∧b<w'.heap.size)→next (a.put (some d) v) w'):
  if Region.wanted ⟨some d,.alloc t,ty,pos,af,none⟩ (yielded ops a.tmps) then (Oper.wp P ⟨some d,.alloc t,ty,pos,af,none⟩ a w next Q)∨((Oper.asks P ⟨some d,.alloc t,ty,pos,af,none⟩ a w)∧LetsOut Q) else next (a.put (some d) undef) w:=by
 have h1:=h.out a (fun a' w'=>∃v,a'=a.put (some d) v∧K v w') Q ha fun v w' hk=>⟨v,rfl,hk⟩;have hw:Region.wanted ⟨some d,.alloc t,ty,pos,af,none⟩ (yielded ops a.tmps)=true:=by simp [Region.wanted]
 rw [YA hw] at h1 ⊢;refine h1.imp (fun h2=> ?_) id;obtain ⟨z,hz,hzc⟩:=ek (w:=w) ht;have hr:(execOp a.eval ⟨some d,.alloc t,ty,pos,af,none⟩).run P w=.ok (.value (.pointer (some ⟨w.heap.size,0,none⟩))) (w.alloc (.cells zc.toArray t)):=by simp [execOp,Instr.alloc,newVar,newRow,hz,hzc]
 unfold Oper.wp at h2 ⊢;rw [hr] at h2 ⊢;obtain ⟨v,hv,hk⟩:∃v,a.put (some d) (.pointer (some ⟨w.heap.size,0,none⟩))=a.put (some d) v∧K v (w.alloc (.cells zc.toArray t)):=h2;have h3:=Zz (fun a':Act=>a'.tmps.getD d undef) hv;simp only [eR hd,YA] at h3;subst h3;exact hn _ _ hk ⟨_,rfl,YE _,(abo.1 (heap_alloc_new w _)).1⟩
theorem CX {x:Operand}{ty d:Nat}{af:Array Edge} (f:Operand→Value) (w:World):(∃v,∀w',(execOp f ⟨some d,.extract x k,ty,pos,af,none⟩).run P w'=.ok (.value v) w')∨∀a K,Oper.upon P ⟨some d,.extract x k,ty,pos,af,none⟩ a K (fun _ _ _=>False) ((execOp f ⟨some d,.extract x k,ty,pos,af,none⟩).run P w)→False:=by
 cases hx:f x with
 |tuple xs=>
  cases hk:xs[k]? with
  |some v=>exact .inl ⟨v,fun w'=>by simp [execOp,hx,Instr.extract,hk]⟩
  |none=>exact .inr fun a K h=>by simp [execOp,hx,Instr.extract,hk,Oper.upon] at h
 |_=>exact .inr fun a K h=>by simp [execOp,hx,Instr.extract,Oper.upon] at h
theorem pure_run {op:Op} (hp:vJ op=true) {ty d:Nat}{af:Array Edge} (f:Operand→Value) (w:World):(∃v,∀w',(execOp f ⟨some d,op,ty,pos,af,none⟩).run P w'=.ok (.value v) w')∨∀a K,Oper.upon P ⟨some d,op,ty,pos,af,none⟩ a K (fun _ _ _=>False) ((execOp f ⟨some d,op,ty,pos,af,none⟩).run P w)→False:=by
 unfold vJ at hp;split at hp
 ·exact CX f w
 ·exact .inl ⟨_,fun w'=>by simp [execOp];rfl⟩
 ·cases hp
theorem Dc {d:Nat}{op:Op} (hp:vJ op=true) {ty:Nat}{af:Array Edge} (h:OG P ops ⟨some d,op,ty,pos,af,none⟩ ρ w K) (a:Act) (hd:d<a.tmps.size) (ha:∀i,a.tmps.getD i undef=ρ i):
  ∃v,(∀w',(execOp a.eval ⟨some d,op,ty,pos,af,none⟩).run P w'=.ok (.value v) w')∧K v w:=by
 have h1:=h.out a (fun a' w'=>∃v,a'=a.put (some d) v∧K v w') (fun _ _ _=>False) ha fun v w' hk=>⟨v,rfl,hk⟩;rw [YA (by simp [Region.wanted])] at h1
 rcases h1 with h1|⟨_,_,_,h1⟩
 ·unfold Oper.wp at h1
  rcases pure_run (P:=P) hp (d:=d) (ty:=ty) (pos:=pos) (af:=af) a.eval w with ⟨v,hv⟩|hn
  ·rw [hv w] at h1;obtain ⟨v',h2,hk⟩:∃v',a.put (some d) v=a.put (some d) v'∧K v' w:=h1;have h3:=Zz (fun a':Act=>a'.tmps.getD d undef) h2;simp only [eR hd,YA] at h3;subst h3;exact ⟨v,hv,hk⟩
  ·exact (hn _ _ h1).elim
 ·exact h1.elim
structure Wn (D:List Deferred) (fr:List Nat) (N:Nat) (ops:Array Oper) (m:Nat) (ρ:Rf) (J:World→Prop) (V:Nat→Value→World→Prop) (L:Array Bool) (a:Act) (w:World):Prop where
 nd:a.defers=D
 sz:a.tmps.size=N
 j:J w
 ls:L.size=ops.size
 cl:qJ ops L
 tl:∀k,m≤k→L.getD k false=false
 vs:∀i d,i<m→L.getD i false=true→(ops[i]?).bind (·.dst)=some d→V i (a.tmps.getD d undef) w
 L7:∀s,(∀i,i<m→L.getD i false=true→(ops[i]?).bind (·.dst)≠some s)→a.tmps.getD s undef=ρ s
 fb:∀i∈fr,L.getD i false=true→∀d,(ops[i]?).bind (·.dst)=some d→∃b,a.tmps.getD d undef=.pointer (some ⟨b,0,none⟩)∧b<w.heap.size
 fd:∀i∈fr,∀j∈fr,i≠j→L.getD i false=true→L.getD j false=true→∀d e,(ops[i]?).bind (·.dst)=some d→(ops[j]?).bind (·.dst)=some e→a.tmps.getD d undef≠a.tmps.getD e undef
theorem KT {id:Nat}{l:List Oper} (fr fl M:List Nat) (m:Nat) (src:List (List (Nat×Option Nat))) (ds:List (Nat×Nat)) (J:World→Prop) (V:Nat→Value→World→Prop) (hm:P.follows .mixedOrders=true) (hok:z3 l m N src ds fl M=true) (hfr:Au P l fr) (hfm:fr.all (fun i=>i<m)=true) (hQp:NP Q)
  (hJ:∀w w',J w→Below w.heap.size w w'→J w') (h0:J w) (hops:DO P l.toArray J V ρ 0 (l.take m) src)
  (tail:∀f w',J w'→Cf V f w' ds→(∀i∈fr,∀j∈fr,i≠j→f i≠f j)→WL ⟨none,D,false⟩ P N l.toArray Q (l.drop m) (m8 ρ f ds) w'):WC ⟨none,D,false⟩ P N (.region id l.toArray true) Q ρ w:=by
 refine WC.rD fun a hf=>wp_region_any hm ?_;simp only [z3,YU,YY,aam,Y6,ZA] at hok;obtain ⟨⟨⟨⟨⟨⟨⟨⟨⟨⟨⟨⟨⟨hml,_⟩,hds⟩,hnd⟩,hdN⟩,hrd⟩,htail⟩,hready⟩,hend⟩,hdep⟩,hedge⟩,hns⟩,hflo⟩,hM⟩:=hok;have hfl:=fun i hi=>JY (hflo i hi);have hdo:=(G7 _ _ _ hops).2;have hpre:∀i d,i<m→((l.toArray[i]?).bind (·.dst))=some d→(i,d)∈ds:=fun i d hi hd=>by
  exact S0
 have hdsm:∀i d,(i,d)∈ds→i<m∧((l.toArray[i]?).bind (·.dst))=some d:=fun i d hp=>by
  exact SW
 have hone:∀i j d,i<m→j<m→((l.toArray[i]?).bind (·.dst))=some d→((l.toArray[j]?).bind (·.dst))=some d→i=j:=fun i j d hi hj h1 h2=>by
  exact Tg
 have hnn:l.toArray.size=l.length:=by simp
 have hfm':∀i∈fr,i<m:=fun i hi=>by simpa using Y6.1 hfm i hi
 have full:∀(L:Array Bool) (a:Act) (w:World) (fuel:Nat),Wn D fr N l.toArray m ρ J V L a w→(∀i,i<m→L.getD i false=true)→l.length≤fuel+m→wpAny P .any l.toArray (ea N D Q) fuel L a w:=by
  intro L a w fuel hI hall hfu;have hL:L=jW l.length m:=z8 (by rw [hI.ls,hnn]) hml hall hI.tl;rw [hL];refine rm m (fun k h1 h2=> ?_) hend fuel m a w (YE _) hml hfu ?_
  ·have:=hready (k-m) Yv;rwa [show m+(k-m)=k by omega] at this
  ·have hfits:fi N D a (m8 ρ (fun i=>match (l.toArray[i]?).bind (·.dst) with|some d=>a.tmps.getD d undef|none=>undef) ds):=by
    exact VY
   refine (tail _ w hI.j (uO ds fun p hp=> ?_) fun i hi j hj hij=> ?_).out a hfits
   rotate_left
   ·obtain ⟨d,t,ty,pos,af,n,ag,by',zc,hi1,_⟩:=hfr.at i hi;obtain ⟨e,t',ty',pos',af',n',ag',by'',zc',hj1,_⟩:=hfr.at j hj;have hi2:(l.toArray[i]?).bind (·.dst)=some d:=by rw [aaN,hi1];rfl
    have hj2:(l.toArray[j]?).bind (·.dst)=some e:=by rw [aaN,hj1];rfl
    rw [hi2,hj2];exact hI.fd i hi j hj hij (hall i (hfm' i hi)) (hall j (hfm' j hj)) d e hi2 hj2
   obtain ⟨h1,h2⟩:=hdsm p.1 p.2 hp;have:=hI.vs p.1 p.2 h1 (hall _ h1) h2;rw [h2];exact this
 have key:∀(fuel:Nat) (L:Array Bool) (a:Act) (w:World),Wn D fr N l.toArray m ρ J V L a w→fuel+L.toList.countP (fun b=>b)=l.length→wpAny P .any l.toArray (ea N D Q) fuel L a w:=by
  intro fuel
  induction fuel with
  |zero=>
   exact Ve
  |succ fuel ih=>
   intro L a w hI hc;by_cases hall:∀i,i<m→L.getD i false=true
   ·exact QD
   ·have hsome:∃i,i<m∧L.getD i false=false:=by
     exact QO
    have hready_spec:∀i,i∈Region.ready .any l.toArray L↔i<l.length∧L.getD i true=false∧∃o,l.toArray[i]?=some o∧∀e∈o.after,Region.binds .any e=true→L.getD e.on false=true:=fun i=>by
     exact Ud
    have both:∀(i:Nat) (_:i<m) (o:Oper) (_:l.toArray[i]?=some o) (_:L.getD i false=false) (_:∀e∈o.after,Region.binds .any e=true→L.getD e.on false=true),
      OG P l.toArray o (fun t=>a.tmps.getD t undef) w (fun v w2=>Below w.heap.size w w2∧V i v w2)∧
      ∀v w2,(Below w.heap.size w w2∧V i v w2)→(i∈fr→∃b,v=.pointer (some ⟨b,0,none⟩)∧w.heap.size≤b∧b<w2.heap.size)→wpAny P .any l.toArray (ea N D Q) fuel (L.setIfInBounds i true) (a.put o.dst v) w2:=fun i him o ho hun' hed=>by
     have hiL:i<L.size:=by rw [hI.ls,hnn];omega
     have hed':∀o',l.toArray[i]?=some o'→∀e∈o'.after,Region.binds .any e=true→L.getD e.on false=true:=fun o' ho'=>by
      rw [ho] at ho';injection ho' with ho';subst ho';exact hed
     have hok':(l.take m)[i]?=some o:=by
      rw [Z9,YA him];simpa using ho
     obtain ⟨s,hs,hstab,hog⟩:=hdo i o hok';rw [Y0] at hstab hog;have hrdi:=hrd i him;rw [ho,hs] at hrdi;simp only [YU,Y6] at hrdi;have hro:dw V ρ (fun t=>a.tmps.getD t undef) w s:=rF s fun p hp=>by
      have hp2:=hrdi.2 p hp
      cases hp3:p.2 with
      |some j=>
       rw [hp3] at hp2;simp only [YU,YY,aam] at hp2;exact hI.vs j p.1 hp2.1.1 (kY hM hI.cl i j hed' hp2.2) hp2.1.2
      |none=>
       rw [hp3] at hp2;refine hI.L7 p.1 fun j hj hjl hjd=> ?_;have h6:=Y6.1 hp2 j (by simpa using hj);rw [hjd] at h6;simp only [beq_self_eq_true,Bool.not_true,ZD,YU] at h6;have:=kY hM hI.cl j i (fun o' ho' e he hb=>hI.cl j o' ho' hjl e he hb) h6.2;rw [hun'] at this
       cases this
     have hnext:∀v w2,(Below w.heap.size w w2∧V i v w2)→(i∈fr→∃b,v=.pointer (some ⟨b,0,none⟩)∧w.heap.size≤b∧b<w2.heap.size)→wpAny P .any l.toArray (ea N D Q) fuel (L.setIfInBounds i true) (a.put o.dst v) w2:=fun v w2 hv hfv=>by
      have hd1:∀d',o.dst=some d'→d'<a.tmps.size:=fun d' hd'=>by
       rw [hI.sz];exact hdN (i,d') (hpre i d' him (by rw [ho];exact hd'))
      have hput:∀j d,j<m→j≠i→(l.toArray[j]?).bind (·.dst)=some d→(a.put o.dst v).tmps.getD d undef=a.tmps.getD d undef:=fun j d hj hji hjd=>by
       cases hod:o.dst with
       |none=>rfl
       |some d'=>rw [eR (hd1 d' hod),YB fun e=>hji (hone j i d hj him hjd (by rw [ho,e];exact hod))]
      have hputi:∀d,(l.toArray[i]?).bind (·.dst)=some d→(a.put o.dst v).tmps.getD d undef=v:=fun d hd=>by
       rw [ho] at hd;simp only [aaP] at hd;rw [hd,eR (hd1 d hd),YA rfl]
      have hfd:∀j∈fr,j≠i→L.getD j false=true→i∈fr→∀e,(l.toArray[j]?).bind (·.dst)=some e→a.tmps.getD e undef≠v:=fun j hj hji hjl hif e hje heq=>by
       obtain ⟨b,hb1,hb2⟩:=hI.fb j hj hjl e hje;obtain ⟨b',hv1,hb3,_⟩:=hfv hif;rw [hb1,hv1] at heq;injection heq with heq
       injection heq with heq
       injection heq with heq
       omega
      refine ih _ _ _ ?_ ?_
      ·refine ⟨?_, ?_,hJ _ _ hI.j hv.1,by simpa using hI.ls, ?_, ?_, ?_, ?_, ?_, ?_⟩
       ·cases o.dst<;>exact hI.nd
       ·cases hod:o.dst with
        |none=>exact hI.sz
        |some d=>simpa [Act.put] using hI.sz
       ·intro k ok hk hkl e he hb;rw [eh hiL] at hkl ⊢;by_cases hki:k=i
        ·subst hki;simp [hed' ok hk e he hb]
        ·simp only [hki,decide_false,ZD] at hkl;simp [hI.cl k ok hk hkl e he hb]
       ·intro k hk;rw [eh hiL,hI.tl k hk];have:¬k=i:=Yv;simp [this]
       ·intro j d hj hjl hjd;rw [eh hiL] at hjl;have hd1:∀d',o.dst=some d'→d'<a.tmps.size:=fun d' hd'=>by
         rw [hI.sz];exact hdN (i,d') (hpre i d' him (by rw [ho];exact hd'))
        by_cases hji:j=i
        ·subst hji;rw [ho] at hjd;simp only [aaP] at hjd;rw [hjd,eR (hd1 d hjd),YA rfl];exact hv.2
        ·simp only [hji,decide_false,ZD] at hjl;have hold:=hI.vs j d hj hjl hjd;have hdj:(j,d)∈ds:=hpre j d hj hjd;have hst:=(hdo j (l.toArray[j]?.getD default) (by
          have:j<l.length:=Yv;rw [Z9,YA hj];simp [this])).choose_spec.2.1
         rw [Y0] at hst;have hne:∀d',o.dst=some d'→d≠d':=fun d' hd' e=>by
          subst e;exact hji (hone j i d hj him hjd (by rw [ho];exact hd'))
         cases hod:o.dst with
         |none=>exact hst _ _ _ hold hv.1
         |some d'=>
          rw [eR (hd1 d' hod),YB (hne d' hod)];exact hst _ _ _ hold hv.1
       ·intro s' hs';have hni:((l.toArray[i]?).bind (·.dst))≠some s':=hs' i him (by rw [eh hiL];simp);have hold:=hI.L7 s' fun j hj hjl=>hs' j hj (by rw [eh hiL];simp [hjl]);rw [ho] at hni;simp only [aaP] at hni
        cases hod:o.dst with
        |none=>exact hold
        |some d'=>
         rw [eR (by rw [hI.sz];exact hdN (i,d') (hpre i d' him (by rw [ho];exact hod))),YB (fun e=>hni (by rw [hod,e]))];exact hold
       ·intro j hj hjl d hjd;rw [eh hiL] at hjl;by_cases hji:j=i
        ·subst hji;obtain ⟨b,hb1,_,hb3⟩:=hfv hj;exact ⟨b,(hputi d hjd).trans hb1,hb3⟩
        ·simp only [hji,decide_false,ZD] at hjl;obtain ⟨b,hb1,hb2⟩:=hI.fb j hj hjl d hjd;exact ⟨b,(hput j d (hfm' j hj) hji hjd).trans hb1,ZC hb2 hv.1.size⟩
       ·intro j hj k hk hjk hjl hkl d e hjd hke;rw [eh hiL] at hjl hkl;by_cases hji:j=i
        ·subst hji;have hkj:k≠j:=fun e=>hjk e.symm;simp only [hkj,decide_false,ZD] at hkl;rw [hputi d hjd,hput k e (hfm' k hk) hkj hke];exact fun he=>hfd k hk hkj hkl hj e hke he.symm
        ·simp only [hji,decide_false,ZD] at hjl;by_cases hki:k=i
         ·subst hki;rw [hputi e hke,hput j d (hfm' j hj) hji hjd];exact hfd j hj hji hjl hk d hjd
         ·simp only [hki,decide_false,ZD] at hkl;rw [hput j d (hfm' j hj) hji hjd,hput k e (hfm' k hk) hki hke];exact hI.fd j hj k hk hjk hjl hkl d e hjd hke
      ·have hLi:L.toList[i]?=some false:=by
        have h3:i<L.toList.length:=by simpa using hiL
        rw [Z1 h3];have:L.getD i false=L.toList[i]:=by simp [hiL]
        rw [←this,hun']
       rw [Array.toList_setIfInBounds,List.countP_set (by simpa using hiL)];have h4:L.toList[i]'(by simpa using hiL)=false:=(YQ.1 hLi).2;rw [h4];simp only [abG,if_false,if_true];omega
     exact ⟨hog _ w hI.j hro,hnext⟩
    by_cases hnf:∀i,i<m→i∉fl→L.getD i false=true
    ·obtain ⟨i,him,hun'⟩:=hsome;have hif:i∈fl:=aaF fun h=>by
      have h2:=hnf i him h;rw [hun'] at h2
      cases h2
     obtain ⟨hfree,hedf,d,op,ty,pos,af,hlo,hpu⟩:=hfl i hif;have ho:l.toArray[i]?=some ⟨some d,op,ty,pos,af,none⟩:=by rw [aaN];exact hlo
     have hed:∀e∈af,Region.binds .any e=true→L.getD e.on false=true:=fun e he hb=>by
      obtain ⟨h1,h2⟩:=hedf _ hlo e he hb;exact hnf e.on h1 h2
     have hil:i<l.length:=Yv;have hiL:i<L.size:=by rw [hI.ls,hnn];exact hil
     have hunt:L.getD i true=false:=by
      rw [ZI] at hun' ⊢;rw [aaQ hiL] at hun' ⊢;simpa using hun'
     obtain ⟨hog,hnext⟩:=both i him _ ho hun' hed;obtain ⟨v,hv,hk⟩:=Dc hpu hog a (by rw [hI.sz];exact hdN (i,d) (hpre i d him (by rw [ho];rfl))) fun _=>rfl;refine wpAny_first (v:=v) ho (Region.noSelect_spec hns) (fun c a w ⟨ρ',_,hq⟩=>(hQp c ρ' w hq).elim) fuel L a w (fun j oj hj hji hjl hno=> ?_) ((hready_spec i).2 ⟨hil,hunt,_,ho,hed⟩) (.inl ⟨by simp [Region.wanted],hv⟩) (hnext v w hk fun hfr'=> ?_)
     ·refine Region.free_spec ho hfree j oj hj hji ?_ hno;have hjlen:j<l.length:=by have:=(abo.1 hj).1;omega
      rw [Nd hjlen];rw [abO];rintro ⟨h1,h2⟩;have h3:=hnf j h1 h2;have hjL:j<L.size:=by rw [hI.ls,hnn];exact hjlen
      rw [ZI] at h3 hjl;rw [aaQ hjL] at h3 hjl;simp only [ZY] at h3 hjl;rw [h3] at hjl
      cases hjl
     ·obtain ⟨d',t,ty',pos',af',n,ag,by',zc,hi1,_⟩:=hfr.at i hfr';rw [hlo] at hi1;injection hi1 with hi1
      injection hi1 with _ hi1
      subst hi1
      cases hpu
    have hsome2:∃i,i<m∧i∉fl∧L.getD i false=false:=by
     refine aaF fun hn=>hnf fun i hi hif=> ?_
     cases hc2:L.getD i false with
     |true=>rfl
     |false=>exact absurd ⟨i,hi,hif,hc2⟩ hn
    refine ⟨fun hnil=> ?_,fun i hi=> ?_⟩
    ·exact VH
    ·obtain ⟨hil,hun,o,ho,hed⟩:=(hready_spec i).1 hi;have hiL:i<L.size:=by rw [hI.ls,hnn];exact hil
     have hun':L.getD i false=false:=by
      exact TK
     have hed':∀o',l.toArray[i]?=some o'→∀e∈o'.after,Region.binds .any e=true→L.getD e.on false=true:=fun o' ho'=>by
      exact LN
     have him:i<m:=by
      rcases Zj i m with h|h
      ·exact h
      ·exfalso
       rcases Zj m i with h2|h2
       ·exact U5
       ·obtain rfl:i=m:=Yv;have h4:(l.length==i)=false:=by simp;omega
        rw [h4,ZD] at htail;have h5:=Y6.1 htail;obtain ⟨j,hj,hjf,hju⟩:=hsome2;have h6:=h5 j (by simpa using hj);have h7:fl.contains j=false:=by simpa using hjf
        rw [h7,ZD] at h6;have:=kY hM hI.cl i j hed' h6;rw [hju] at this
        cases this
     obtain ⟨hog,hnext⟩:=both i him o ho hun' hed;have hgo:if Region.wanted o (yielded l.toArray a.tmps) then (o.wp P a w (wpAny P .any l.toArray (ea N D Q) fuel (L.setIfInBounds i true)) (ea N D Q))∨((o.asks P a w)∧LetsOut (ea N D Q)) else wpAny P .any l.toArray (ea N D Q) fuel (L.setIfInBounds i true) (a.put o.dst undef) w:=by
      by_cases hif:i∈fr
      ·obtain ⟨d,t,ty,pos,af,n,ag,by',zc,hi1,ht⟩:=hfr.at i hif;have ho2:o=⟨some d,.alloc t,ty,pos,af,none⟩:=by
        have h7:=ho;rw [aaN,hi1] at h7;injection h7 with h7
        exact h7.symm
       have hds:d<a.tmps.size:=by
        rw [hI.sz];exact hdN (i,d) (hpre i d him (by rw [ho,ho2];rfl))
       subst ho2;exact LR ht hog a hds _ _ (fun _=>rfl) fun v w' hk hb=>hnext v w' hk fun _=>hb
      ·exact hog.out a _ _ (fun _=>rfl) fun v w2 hv=>hnext v w2 hv fun h=>absurd h hif
     unfold wpOp;rw [ho];exact hgo
 exact Vi
end
theorem cP {Q:Kq}{id:Nat}{l:List Oper} (fr fl M:List Nat) (m:Nat) (src:List (List (Nat×Option Nat))) (ds:List (Nat×Nat)) {H:List HE} (hh:Hp w0 H w) (hm:P.follows .mixedOrders=true) (hok:z3 l m N src ds fl M=true)
  (hfr:Au P l fr) (hfm:fr.all (fun i=>i<m)=true) (hQp:NP Q)
  (h:DX P l.toArray (JJ w0 H w) ρ (fun V=>∀f w',JJ w0 H w w'→Cf V f w' ds→(∀i∈fr,∀j∈fr,i≠j→f i≠f j)→WL ⟨none,D,false⟩ P N l.toArray Q (l.drop m) (m8 ρ f ds) w') 0 WV (l.take m) src):WC ⟨none,D,false⟩ P N (.region id l.toArray true) Q ρ w:=by
 obtain ⟨V,_,h1,h2⟩:=HU _ _ _ _ (fun _ _ _ _=>trivial) h;exact KT fr fl M m src ds (JJ w0 H w) V hm hok hfr hfm hQp (fun _ _ h hb=>h.ext hb) (JJ.start hh) h1 h2
end
section
variable {ro:Mode}
def bO (ρ:Rf):List (Nat×Value)→Rf
 |[]=>ρ
 |(d,v)::r=>cY (bO ρ r) d v
def Vh (f:Nat→Value):List (Nat×Nat)→List (Nat×Value)→Prop
 |[],[]=>True
 |(i,d)::r,(d',v)::s=>(d=d'∧f i=v)∧Vh f r s
 |_,_=>False
theorem bg {ρ:Rf}{f:Nat→Value}:∀{ds:List (Nat×Nat)}{vs:List (Nat×Value)},Vh f ds vs→m8 ρ f ds=bO ρ vs
 |[],[],_=>rfl
 |[],_::_,h=>h.elim
 |_::_,[],h=>h.elim
 |(i,d)::r,(d',v)::s,h=>by
  obtain ⟨⟨rfl,rfl⟩,h2⟩:=h;rw [m8,bO,bg h2]
theorem aR {f:Nat→Value}:Vh f [] []:=trivial
theorem ae {f:Nat→Value}{i d:Nat}{v:Value}{r:List (Nat×Nat)}{s:List (Nat×Value)} (h:f i=v) (hr:Vh f r s):Vh f ((i,d)::r) ((d,v)::s):=⟨⟨rfl,h⟩,hr⟩
theorem aQ {Q:Kq}{l:List Oper}{ρ':Rf} (h:ρ=ρ') (k:WL ro P N ops Q l ρ' w):WL ro P N ops Q l ρ w:=h ▸ k
section
variable {P:Program}{ops:Array Oper}{J:World→Prop}{ρ:Rf}{T:(Nat→VP)→Prop}{i:Nat}{pv:Nat→VP}{os:List Oper}{s:List (Nat×Option Nat)}{ss:List (List (Nat×Option Nat))}{d:Option Nat}{ty:TypeId}{pos:String}{af:Array Edge}
theorem vd {op:Op}{b:Bool} (hj:(ops[j]?).bind (·.dst)=some dj) (hv:ρ dj=undef) (h:K undef w):OG P ops ⟨d,op,ty,pos,af,some (j,b)⟩ ρ w K:=
 ⟨fun a next Q ha hn=>by
  have h1:Region.wanted ⟨d,op,ty,pos,af,some (j,b)⟩ (yielded ops a.tmps)=false:=by
   have h2:=ha dj;rw [hv,ZI] at h2
   cases h3:a.tmps[dj]? with
   |none=>simp [Region.wanted,yielded,hj,h3]
   |some x=>
    rw [h3] at h2;simp only [ZY] at h2;subst h2;simp [Region.wanted,yielded,hj,h3,undef]
  rw [h1];exact hn _ _ h⟩
theorem BH {b:Bool}{op:Op} (hj:(ops[j]?).bind (·.dst)=some dj) (hv:∀ρ1 w1,J w1→dw (pv) ρ ρ1 w1 s→ρ1 dj=undef)
  (k:DX P ops J ρ T (i+1) (eI pv i (Is undef)) os ss):DX P ops J ρ T i pv (⟨d,op,ty,pos,af,some (j,b)⟩::os) (s::ss):=
 aO (Is undef) Is.ext (fun ρ1 w1 hj' h=>vd hj (hv ρ1 w1 hj' h) ⟨Below.refl _ _,rfl⟩) k
theorem bp {b:Bool}{t e:TypeId}{len sz:Nat} (hj:(ops[j]?).bind (·.dst)=some dj) (hg:∀ρ1 w1,J w1→dw (pv) ρ ρ1 w1 s→ρ1 dj=.bool b)
  (ht:P.underlying t=some (.slice e)) (hte:dH P e=some (sz,ag,by',zc))
  (hp:∀ρ1 w1,J w1→dw (pv) ρ ρ1 w1 s→ya ρ1 parts.toList=ps) (hzl:zc.length=sz) (hf:lN (fun i=>some (i*sz,sz)) (gu len zc) ps=some cs) (h0:¬len*sz=0) (hsl:len*sz≤16777216) (hl:cs.length=len*sz)
  (k:DX P ops J ρ T (i+1) (eI pv i (Rows len sz cs)) os ss):DX P ops J ρ T i pv (⟨d,.buildSlice t len parts,ty,pos,af,some (j,b)⟩::os) (s::ss):=
 aO (Rows len sz cs) Rows.ext (fun ρ1 w1 hj' h=>bz hj (hg ρ1 w1 hj' h) (jR ht hte (hp ρ1 w1 hj' h) hzl hf h0 hsl hl fun _ _ ⟨_,hv,hs⟩ hb=>⟨hb,_,_,hv,hs⟩)) k
end
theorem Hp.iu {f:α→List Value}{sz:Nat}{H:List HE}{i e g:Nat}{l:List α}{x:α} (hh:Hp w0 H w) (hi:H[i]?=some (.row (some ⟨g,0,none⟩) n c e sz (aD f l))) (hf:∀x,(f x).length=sz) (h0:0<sz) (hx:l[k]?=some x):Rd w ⟨g,k*sz,none⟩ (f x):=by
 have hs:=hh.aG hi;have hl:=hs.bh hf h0;obtain ⟨ad,h1,h2⟩:=hs.2 (by have:=(YQ.1 hx).1;omega);injection h1 with h1
 subst h1;have h3:=h2.recAt hf hx;rwa [gh,Y0] at h3
end
section
variable {ro:Mode}
section
variable {P:Program}{ρ:Rf}{w:World}
end
end
section
variable {ro:Mode}
section
variable {P:Program}{ρ:Rf}{w:World}
end
section
variable {P:Program}{N:Nat}{ops:Array Oper}{Q:Kq}{ρ:Rf}{w:World}{rest:List Oper}{d ty:Nat}{pos:String}{af:Array Edge}
end
end
section
variable {P:Program}{N:Nat}{Q:Kq}{ρ:Rf}{w:World}
structure WA (P:Program) (N:Nat) (ops:Array Oper) (Q:Kq) (fuel:Nat) (L:Array Bool) (ρ:Rf) (w:World):Prop where
 out:∀a,Fits N a ρ→wpAny P .any ops (lift N Q) fuel L a w
theorem wB {o:Oper}{a:Act}{K:Act→World→Prop}{r:Result Next} (h:o.upon P a K (lift N (cU next Q)) r):o.upon P a K (lift N Q) r:=by
 have hp:∀c a w,lift N (cU next Q) (.panic c) a w→lift N Q (.panic c) a w:=fun _ _ _ h=>h;have ho:LetsOut (lift N (cU next Q))→LetsOut (lift N Q):=fun ⟨a,w,h⟩=>⟨a,w,h⟩
 cases r with
 |ok n w'=>
  cases n<;>simp only [Oper.upon] at h ⊢ <;>first
   |exact h
   |exact Calls.mono h (fun e w'' he=>by cases e<;>first|exact he|exact hp _ _ _ he|exact ho he)
 |halt x w'=>cases x<;>simp only [Oper.upon] at h ⊢ <;>first|exact h|exact hp _ _ _ h|exact ho h
theorem G0 {L:Array Bool} (hr:Region.ready .any ops L=rs) (hne:rs≠[])
  (h:∀i∈rs,∃o,ops[i]?=some o∧WL .plain P N ops (cU (fun ρ w=>WA P N ops Q fuel (L.setIfInBounds i true) ρ w) Q) [o] ρ w):WA P N ops Q (fuel+1) L ρ w:=by
 refine ⟨fun a hf=>wpAny_all hr hne fun i hi=> ?_⟩;obtain ⟨o,ho,hw⟩:=h i hi;have h1:=hw.out a hf;have hK:∀a w,wpList P ops (lift N (cU (fun ρ w=>WA P N ops Q fuel (L.setIfInBounds i true) ρ w) Q)) [] a w→wpAny P .any ops (lift N Q) fuel (L.setIfInBounds i true) a w:=fun a w ⟨ρ',hf',hq⟩=>by
  have hq':WA P N ops Q fuel (L.setIfInBounds i true) ρ' w:=hq;exact hq'.out a hf'
 unfold wpOp;rw [ho];simp only [];unfold wpList at h1;split at h1
 ·rename_i hwt;rw [YA hwt];refine h1.imp (fun h2=>Oper.wp_mono hK ?_) (fun h2=>⟨h2.1, ?_⟩)
  ·unfold Oper.wp at h2 ⊢;exact wB h2
  ·obtain ⟨a',w',h3⟩:=h2.2;exact ⟨a',w',h3⟩
 ·rename_i hwt;rw [YB hwt];exact hK _ _ h1
theorem gK {L:Array Bool}{i:Nat}{o:Oper} (hr:Region.ready .any ops L=[i]) (ho:ops[i]?=some o)
  (h:WL .plain P N ops (cU (fun ρ w=>WA P N ops Q fuel (L.setIfInBounds i true) ρ w) Q) [o] ρ w):WA P N ops Q (fuel+1) L ρ w:=
 G0 hr (by simp) fun j hj=>by
  obtain rfl:j=i:=by simpa using hj
  exact ⟨o,ho,h⟩
theorem u3 {L:Array Bool}{i i2:Nat}{o o2:Oper} (hr:Region.ready .any ops L=[i,i2]) (ho:ops[i]?=some o) (ho2:ops[i2]?=some o2)
  (h:WL .plain P N ops (cU (fun ρ w=>WA P N ops Q fuel (L.setIfInBounds i true) ρ w) Q) [o] ρ w)
  (h2:WL .plain P N ops (cU (fun ρ w=>WA P N ops Q fuel (L.setIfInBounds i2 true) ρ w) Q) [o2] ρ w):WA P N ops Q (fuel+1) L ρ w:=
 G0 hr (by simp) fun j hj=>by
  rcases YS.1 hj with rfl|hj
  ·exact ⟨o,ho,h⟩
  ·obtain rfl:j=i2:=by simpa using hj
   exact ⟨o2,ho2,h2⟩
theorem fJ {L:Array Bool} (h:WA P N ops Q fuel L ρ w):WL .plain P N ops (cU (fun ρ w=>WA P N ops Q fuel L ρ w) Q) [] ρ w:=aa h
theorem lV {l:List Oper}{L:Array Bool} (m:Nat) (hm:m≤l.length) (hL:L=jW l.length m) (hf:l.length≤fuel+m)
  (hr:((List.range (l.length-m)).all fun k=>Region.ready .any l.toArray (jW l.length (m+k))==[m+k])=true) (hend:Region.ready .any l.toArray (jW l.length l.length)=[])
  (h:WL .plain P N l.toArray Q (l.drop m) ρ w):WA P N l.toArray Q fuel L ρ w:=
 ⟨fun a hfits=>by
  rw [hL];refine rm m (fun k h1 h2=> ?_) hend fuel m a w (YE _) hm hf (h.out a hfits);have h3:=Y6.1 hr (k-m) (by simp;omega);rw [show m+(k-m)=k by omega] at h3;exact eq_of_beq h3⟩
theorem rY {id:Nat}{l:List Oper}{H:List HE} (hh:Hp w0 H w) (hm:P.follows .mixedOrders=true) (h:∀w',JJ w0 H w w'→WA P N l.toArray Q l.length (Array.replicate l.length false) ρ w'):WC .plain P N (.region id l.toArray true) Q ρ w:=by
 refine WC.rD fun a hf=>wp_region_any hm ?_;have hb:Below w.heap.size w ({ w with drawn:=w.drawn+1 }:World):=⟨rfl,rfl,rfl,YE _,fun _ _=>rfl⟩;have:=(h _ ((JJ.start hh).ext hb)).out a hf;simpa using this
end
section
variable {P:Program}{N:Nat}{Q:Kq}{ρ:Rf}{w:World}
def J8:List Nat→List (List Nat)
 |[]=>[[]]
 |x::r=>J8 r++(J8 r).map (x:: ·)
theorem tM (p:Nat→Bool):∀l:List Nat,l.filter p∈J8 l
 |[]=>by simp [J8]
 |x::r=>by
  have ih:=tM p r;rw [List.filter_cons,J8];split
  ·exact Z5 _ (YR.2 ⟨_,ih,rfl⟩)
  ·exact aan _ ih
def lD (n m:Nat) (fl D:List Nat):Array Bool:=((List.range n).map fun i=>decide (i<m∧(i∉fl∨i∈D))).toArray
def Gx (l:List Oper) (fl D:List Nat):Bool:=D.all fun i=>match l[i]? with
 |some o=>o.after.all fun e=> !Region.binds .any e|| !fl.contains e.on||D.contains e.on
 |none=>true
def Uw (ds:List (Nat×Nat)) (fl D:List Nat):List (Nat×Nat):=ds.filter fun p=> !fl.contains p.1||D.contains p.1
def GL (l:List Oper) (m:Nat) (fl:List Nat) (ds:List (Nat×Nat)):List (List Nat×Nat×List (Nat×Nat)):=
 ((J8 fl).filter (Gx l fl)).map fun D=>(D,l.length-(lD l.length m fl D).toList.countP (fun b=>b)-1,Uw ds fl D)
def AB (l:List Oper) (m N:Nat) (src:List (List (Nat×Option Nat))) (ds:List (Nat×Nat)) (fl M:List Nat):Bool:=
 let ops:=l.toArray
 let pre:=(List.range m).map fun i=>((ops[i]?).bind (·.dst))
 (m≤l.length) && (src.length==m) &&
 (ds==(pre.zipIdx.filterMap fun (d,i)=>d.map fun d=>(i,d)).reverse) && (decide (ds.map (·.2)).Nodup) && (ds.all fun p=>p.2<N) &&
 ((List.range m).all fun i=>match ops[i]?,src[i]? with
  |some o,some s=>((o.looksAt ops).all fun t=>s.any fun p=>p.1==t) &&
    s.all fun p=>match p.2 with
     |some j=>(j<m) && ((ops[j]?).bind (·.dst)==some p.1) && (M.getD i 0).testBit j
     |none=>(List.range m).all fun j=> !((ops[j]?).bind (·.dst)==some p.1)||(j !=i && (M.getD j 0).testBit i)
  |_,_=>false) &&
 (l.length==m||((List.range m).all fun i=>fl.contains i||(M.getD m 0).testBit i)) &&
 ((List.range (l.length-m)).all fun k=>k==0||(M.getD (m+k) 0).testBit m) &&
 ((List.range l.length).all fun i=>match ops[i]? with|some o=>o.after.all fun e=> !Region.binds .any e||e.on<i|none=>false) && (xr l []==M)
theorem Ns {id:Nat}{l:List Oper} (fl M:List Nat) (m:Nat) (src:List (List (Nat×Option Nat))) (ds:List (Nat×Nat)) (Ds:List (List Nat×Nat×List (Nat×Nat))) (J:World→Prop) (V:Nat→Value→World→Prop) (hm:P.follows .mixedOrders=true) (hok:AB l m N src ds fl M=true) (hDs:GL l m fl ds=Ds) (hmn:m<l.length)
  (hJ:∀w w',J w→Below w.heap.size w w'→J w') (h0:J w) (hops:DO P l.toArray J V ρ 0 (l.take m) src)
  (tail:∀p∈Ds,∀f w',J w'→Cf V f w' p.2.2→WL .plain P N l.toArray (cU (fun ρ w=>WA P N l.toArray Q p.2.1 ((lD l.length m fl p.1).setIfInBounds m true) ρ w) Q) ((l.drop m).take 1) (m8 ρ f p.2.2) w'):WC .plain P N (.region id l.toArray true) Q ρ w:=by
 refine WC.rD fun a hf=>wp_region_any hm ?_;simp only [AB,YU,YY,aam,Y6,ZA] at hok;obtain ⟨⟨⟨⟨⟨⟨⟨⟨⟨hml,_⟩,hds⟩,hnd⟩,hdN⟩,hrd⟩,htail⟩,hdep⟩,hedge⟩,hM⟩:=hok;have hdo:=(G7 _ _ _ hops).2;have hpre:∀i d,i<m→((l.toArray[i]?).bind (·.dst))=some d→(i,d)∈ds:=fun i d hi hd=>by
  exact S0
 have hdsm:∀i d,(i,d)∈ds→i<m∧((l.toArray[i]?).bind (·.dst))=some d:=fun i d hp=>by
  exact SW
 have hone:∀i j d,i<m→j<m→((l.toArray[i]?).bind (·.dst))=some d→((l.toArray[j]?).bind (·.dst))=some d→i=j:=fun i j d hi hj h1 h2=>by
  exact Tg
 have hnn:l.toArray.size=l.length:=by simp
 have part:∀(L:Array Bool) (a:Act) (w:World) (fuel:Nat),Wn [] [] N l.toArray m ρ J V L a w→(∀i,i<m→i∉fl→L.getD i false=true)→fuel+1+L.toList.countP (fun b=>b)=l.length→∀o,l.toArray[m]?=some o→
   wpOp P l.toArray (lift N Q) m (wpAny P .any l.toArray (lift N Q) fuel (L.setIfInBounds m true)) a w:=by
  intro L a w fuel hI hall hfu o ho;have hflt:∀i,i∈fl.filter (fun i=>L.getD i false)↔i∈fl∧L.getD i false=true:=fun i=>by rw [ZP]
  have hL:L=lD l.length m fl (fl.filter fun i=>L.getD i false):=by
   apply Array.ext (by simp [lD,hI.ls]);intro i h1 h2;have e1:L.getD i false=L[i]:=by simp [h1]
   rw [←e1];simp only [lD,List.getElem_toArray,List.getElem_map,List.getElem_range]
   rcases Zj i m with h|h
   ·by_cases hif:i∈fl
    ·cases hc:L.getD i false with
     |true=>exact (YV ⟨h,.inr ((hflt i).2 ⟨hif,hc⟩)⟩).symm
     |false=>exact (Y3 fun hh=>hh.2.elim (fun hn=>hn hif) fun hd=>by rw [((hflt i).1 hd).2] at hc;cases hc).symm
    ·rw [hall i h hif];exact (YV ⟨h,.inl hif⟩).symm
   ·rw [hI.tl i h];exact (Y3 fun hh=>by omega).symm
  have hcl:Gx l fl (fl.filter fun i=>L.getD i false)=true:=Y6.2 fun i hi=>by
   obtain ⟨h1,h2⟩:=(hflt i).1 hi
   cases hli:l[i]? with
   |none=>rfl
   |some oi=>
    refine abL.2 fun e he=> ?_
    cases hb:Region.binds .any e with
    |false=>rfl
    |true=>
     have h3:=hI.cl i oi (by rw [aaN];exact hli) h2 e he hb;by_cases hef:e.on∈fl
     ·rw [aaL];exact .inr (List.contains_iff_mem.2 ((hflt _).2 ⟨hef,h3⟩))
     ·simp [hef]
  have hmem:(fl.filter (fun i=>L.getD i false),l.length-(lD l.length m fl (fl.filter fun i=>L.getD i false)).toList.countP (fun b=>b)-1,Uw ds fl (fl.filter fun i=>L.getD i false))∈Ds:=by
   rw [←hDs];exact YR.2 ⟨_,ZP.2 ⟨tM _ _,hcl⟩,rfl⟩
  have hfu':l.length-L.toList.countP (fun b=>b)-1=fuel:=Yv;have htl:=tail _ hmem;simp only [←hL,hfu'] at htl;have hsub:∀p∈Uw ds fl (fl.filter fun i=>L.getD i false),p∈ds∧L.getD p.1 false=true:=fun p hp=>by
   obtain ⟨h1,h2⟩:=ZP.1 hp;refine ⟨h1, ?_⟩;simp only [aaL,aby,List.contains_eq_mem,abO,YY] at h2
   rcases h2 with h2|h2
   ·exact hall _ (hdsm _ _ h1).1 h2
   ·exact ((hflt _).1 h2).2
  have hnd':((Uw ds fl (fl.filter fun i=>L.getD i false)).map (·.2)).Nodup:=(List.filter_sublist.map _).nodup hnd;have hfits:Fits N a (m8 ρ (fun i=>match (l.toArray[i]?).bind (·.dst) with|some d=>a.tmps.getD d undef|none=>undef) (Uw ds fl (fl.filter fun i=>L.getD i false))):=by
   refine ⟨hI.nd,hI.sz,fun s=> ?_⟩;by_cases hs:∃i,(i,s)∈Uw ds fl (fl.filter fun i=>L.getD i false)
   ·obtain ⟨i,hi⟩:=hs;rw [(m0 _ _ s hnd').1 i hi,(hdsm i s (hsub _ hi).1).2]
   ·rw [(m0 _ _ s hnd').2 fun i hi=>hs ⟨i,hi⟩];refine hI.L7 s fun i hi hil hd=>hs ⟨i,ZP.2 ⟨hpre i s hi hd, ?_⟩⟩;by_cases hif:i∈fl
    ·rw [aaL];exact .inr (List.contains_iff_mem.2 ((hflt i).2 ⟨hif,hil⟩))
    ·simp [hif]
  have h1:=(htl (fun i=>match (l.toArray[i]?).bind (·.dst) with|some d=>a.tmps.getD d undef|none=>undef) w hI.j (uO _ fun p hp=>by
   obtain ⟨h1,h2⟩:=hsub p hp;obtain ⟨h3,h4⟩:=hdsm p.1 p.2 h1;have:=hI.vs p.1 p.2 h3 h2 h4;rw [h4];exact this)).out a hfits
  have hone':(l.drop m).take 1=[o]:=by
   rw [aaN] at ho;obtain ⟨h2,h3⟩:=YQ.1 ho;rw [ZR h2,h3]
   rfl
  rw [hone'] at h1;have hK:∀a w,wpList P l.toArray (lift N (cU (fun ρ w=>WA P N l.toArray Q fuel (L.setIfInBounds m true) ρ w) Q)) [] a w→wpAny P .any l.toArray (lift N Q) fuel (L.setIfInBounds m true) a w:=fun a w ⟨ρ',hf',hq⟩=>by
   have hq':WA P N l.toArray Q fuel (L.setIfInBounds m true) ρ' w:=hq;exact hq'.out a hf'
  unfold wpOp;rw [ho];simp only [];unfold wpList at h1;split at h1
  ·rename_i hwt;rw [YA hwt];refine h1.imp (fun h2=>Oper.wp_mono hK ?_) (fun h2=>⟨h2.1, ?_⟩)
   ·unfold Oper.wp at h2 ⊢;exact wB h2
   ·obtain ⟨a',w',h3⟩:=h2.2;exact ⟨a',w',h3⟩
  ·rename_i hwt;rw [YB hwt];exact hK _ _ h1
 have key:∀(fuel:Nat) (L:Array Bool) (a:Act) (w:World),Wn [] [] N l.toArray m ρ J V L a w→fuel+L.toList.countP (fun b=>b)=l.length→wpAny P .any l.toArray (lift N Q) fuel L a w:=by
  intro fuel
  induction fuel with
  |zero=>
   intro L a w hI hc;have hall:∀i,i<l.length→L.getD i false=true:=fun i hi=>by
    exact SN
   have h1:=hall m hmn;rw [hI.tl m (YE _)] at h1
   cases h1
  |succ fuel ih=>
   intro L a w hI hc
   ·have hready_spec:∀i,i∈Region.ready .any l.toArray L↔i<l.length∧L.getD i true=false∧∃o,l.toArray[i]?=some o∧∀e∈o.after,Region.binds .any e=true→L.getD e.on false=true:=fun i=>by
     exact Ud
    have both:∀(i:Nat) (_:i<m) (o:Oper) (_:l.toArray[i]?=some o) (_:L.getD i false=false) (_:∀e∈o.after,Region.binds .any e=true→L.getD e.on false=true),
      OG P l.toArray o (fun t=>a.tmps.getD t undef) w (fun v w2=>Below w.heap.size w w2∧V i v w2)∧
      ∀v w2,(Below w.heap.size w w2∧V i v w2)→(i∈([]:List Nat)→∃b,v=.pointer (some ⟨b,0,none⟩)∧w.heap.size≤b∧b<w2.heap.size)→wpAny P .any l.toArray (lift N Q) fuel (L.setIfInBounds i true) (a.put o.dst v) w2:=fun i him o ho hun' hed=>by
     have hiL:i<L.size:=by rw [hI.ls,hnn];omega
     have hed':∀o',l.toArray[i]?=some o'→∀e∈o'.after,Region.binds .any e=true→L.getD e.on false=true:=fun o' ho'=>by
      rw [ho] at ho';injection ho' with ho';subst ho';exact hed
     have hok':(l.take m)[i]?=some o:=by
      rw [Z9,YA him];simpa using ho
     obtain ⟨s,hs,hstab,hog⟩:=hdo i o hok';rw [Y0] at hstab hog;have hrdi:=hrd i him;rw [ho,hs] at hrdi;simp only [YU,Y6] at hrdi;have hro:dw V ρ (fun t=>a.tmps.getD t undef) w s:=rF s fun p hp=>by
      have hp2:=hrdi.2 p hp
      cases hp3:p.2 with
      |some j=>
       rw [hp3] at hp2;simp only [YU,YY,aam] at hp2;exact hI.vs j p.1 hp2.1.1 (kY hM hI.cl i j hed' hp2.2) hp2.1.2
      |none=>
       rw [hp3] at hp2;refine hI.L7 p.1 fun j hj hjl hjd=> ?_;have h6:=Y6.1 hp2 j (by simpa using hj);rw [hjd] at h6;simp only [beq_self_eq_true,Bool.not_true,ZD,YU] at h6;have:=kY hM hI.cl j i (fun o' ho' e he hb=>hI.cl j o' ho' hjl e he hb) h6.2;rw [hun'] at this
       cases this
     have hnext:∀v w2,(Below w.heap.size w w2∧V i v w2)→(i∈([]:List Nat)→∃b,v=.pointer (some ⟨b,0,none⟩)∧w.heap.size≤b∧b<w2.heap.size)→wpAny P .any l.toArray (lift N Q) fuel (L.setIfInBounds i true) (a.put o.dst v) w2:=fun v w2 hv hfv=>by
      have hd1:∀d',o.dst=some d'→d'<a.tmps.size:=fun d' hd'=>by
       rw [hI.sz];exact hdN (i,d') (hpre i d' him (by rw [ho];exact hd'))
      have hput:∀j d,j<m→j≠i→(l.toArray[j]?).bind (·.dst)=some d→(a.put o.dst v).tmps.getD d undef=a.tmps.getD d undef:=fun j d hj hji hjd=>by
       cases hod:o.dst with
       |none=>rfl
       |some d'=>rw [eR (hd1 d' hod),YB fun e=>hji (hone j i d hj him hjd (by rw [ho,e];exact hod))]
      have hputi:∀d,(l.toArray[i]?).bind (·.dst)=some d→(a.put o.dst v).tmps.getD d undef=v:=fun d hd=>by
       rw [ho] at hd;simp only [aaP] at hd;rw [hd,eR (hd1 d hd),YA rfl]
      refine ih _ _ _ ?_ ?_
      ·refine ⟨?_, ?_,hJ _ _ hI.j hv.1,by simpa using hI.ls, ?_, ?_, ?_, ?_, ?_, ?_⟩
       ·cases o.dst<;>exact hI.nd
       ·cases hod:o.dst with
        |none=>exact hI.sz
        |some d=>simpa [Act.put] using hI.sz
       ·intro k ok hk hkl e he hb;rw [eh hiL] at hkl ⊢;by_cases hki:k=i
        ·subst hki;simp [hed' ok hk e he hb]
        ·simp only [hki,decide_false,ZD] at hkl;simp [hI.cl k ok hk hkl e he hb]
       ·intro k hk;rw [eh hiL,hI.tl k hk];have:¬k=i:=Yv;simp [this]
       ·intro j d hj hjl hjd;rw [eh hiL] at hjl;have hd1:∀d',o.dst=some d'→d'<a.tmps.size:=fun d' hd'=>by
         rw [hI.sz];exact hdN (i,d') (hpre i d' him (by rw [ho];exact hd'))
        by_cases hji:j=i
        ·subst hji;rw [ho] at hjd;simp only [aaP] at hjd;rw [hjd,eR (hd1 d hjd),YA rfl];exact hv.2
        ·simp only [hji,decide_false,ZD] at hjl;have hold:=hI.vs j d hj hjl hjd;have hdj:(j,d)∈ds:=hpre j d hj hjd;have hst:=(hdo j (l.toArray[j]?.getD default) (by
          have:j<l.length:=Yv;rw [Z9,YA hj];simp [this])).choose_spec.2.1
         rw [Y0] at hst;have hne:∀d',o.dst=some d'→d≠d':=fun d' hd' e=>by
          subst e;exact hji (hone j i d hj him hjd (by rw [ho];exact hd'))
         cases hod:o.dst with
         |none=>exact hst _ _ _ hold hv.1
         |some d'=>
          rw [eR (hd1 d' hod),YB (hne d' hod)];exact hst _ _ _ hold hv.1
       ·intro s' hs';have hni:((l.toArray[i]?).bind (·.dst))≠some s':=hs' i him (by rw [eh hiL];simp);have hold:=hI.L7 s' fun j hj hjl=>hs' j hj (by rw [eh hiL];simp [hjl]);rw [ho] at hni;simp only [aaP] at hni
        cases hod:o.dst with
        |none=>exact hold
        |some d'=>
         rw [eR (by rw [hI.sz];exact hdN (i,d') (hpre i d' him (by rw [ho];exact hod))),YB (fun e=>hni (by rw [hod,e]))];exact hold
       ·intro j hj
        cases hj
       ·intro j hj
        cases hj
      ·have hLi:L.toList[i]?=some false:=by
        have h3:i<L.toList.length:=by simpa using hiL
        rw [Z1 h3];have:L.getD i false=L.toList[i]:=by simp [hiL]
        rw [←this,hun']
       rw [Array.toList_setIfInBounds,List.countP_set (by simpa using hiL)];have h4:L.toList[i]'(by simpa using hiL)=false:=(YQ.1 hLi).2;rw [h4];simp only [abG,if_false,if_true];omega
     exact ⟨hog _ w hI.j hro,hnext⟩
    refine ⟨fun hnil=> ?_,fun i hi=> ?_⟩
    ·exfalso;have hmin:∀k,(∃i,i<k∧i<m+1∧L.getD i false=false)→∃i,i<m+1∧L.getD i false=false∧∀j,j<i→L.getD j false=true:=by
      intro k
      induction k with
      |zero=>rintro ⟨i,h,_⟩;omega
      |succ k ihk=>
       rintro ⟨i,h1,h2,h3⟩;by_cases hex:∃i,i<k∧i<m+1∧L.getD i false=false
       ·exact ihk hex
       ·exact Sq
     obtain ⟨i,hi,hu,hlow⟩:=hmin (m+1) ⟨m,Yv,Yv,hI.tl m (YE _)⟩;exact Q6
    ·obtain ⟨hil,hun,o,ho,hed⟩:=(hready_spec i).1 hi;have hiL:i<L.size:=by rw [hI.ls,hnn];exact hil
     have hun':L.getD i false=false:=by
      exact TK
     have hed':∀o',l.toArray[i]?=some o'→∀e∈o'.after,Region.binds .any e=true→L.getD e.on false=true:=fun o' ho'=>by
      exact LN
     rcases Zj i m with him|him
     ·obtain ⟨hog,hnext⟩:=both i him o ho hun' hed;have hgo:=hog.out a (wpAny P .any l.toArray (lift N Q) fuel (L.setIfInBounds i true)) (lift N Q) (fun _=>rfl) fun v w2 hv=>hnext v w2 hv fun h=>nomatch h;unfold wpOp;rw [ho];exact hgo
     ·rcases Zj m i with h2|h2
      ·exfalso;exact U5
      ·obtain rfl:i=m:=Yv;refine part L a w fuel hI (fun j hj hjf=> ?_) hc o ho;have h4:(l.length==i)=false:=by simp;omega
       rw [h4,ZD] at htail;have h6:=Y6.1 htail j (by simpa using hj);have h7:fl.contains j=false:=by simpa using hjf
       rw [h7,ZD] at h6;exact kY hM hI.cl i j hed' h6
 exact Vi
end
theorem mn {Q:Kq}{id:Nat}{l:List Oper} (fl M:List Nat) (m:Nat) (src:List (List (Nat×Option Nat))) (ds:List (Nat×Nat)) (Ds:List (List Nat×Nat×List (Nat×Nat))) {H:List HE} (hh:Hp w0 H w) (hm:P.follows .mixedOrders=true) (hok:AB l m N src ds fl M=true) (hDs:GL l m fl ds=Ds) (hmn:m<l.length)
  (h:DX P l.toArray (JJ w0 H w) ρ (fun V=>∀p∈Ds,∀f w',JJ w0 H w w'→Cf V f w' p.2.2→WL .plain P N l.toArray (cU (fun ρ w=>WA P N l.toArray Q p.2.1 ((lD l.length m fl p.1).setIfInBounds m true) ρ w) Q) ((l.drop m).take 1) (m8 ρ f p.2.2) w') 0 WV (l.take m) src):WC .plain P N (.region id l.toArray true) Q ρ w:=by
 obtain ⟨V,_,h1,h2⟩:=HU _ _ _ _ (fun _ _ _ _=>trivial) h;exact Ns fl M m src ds Ds (JJ w0 H w) V hm hok hDs hmn (fun _ _ h hb=>h.ext hb) (JJ.start hh) h1 h2
theorem gJ {d:Option Nat}{ty:TypeId}{af:Array Edge}{g:Option (Nat×Bool)}{t e:TypeId}{x lo:Operand}{A:Option Addr}{l sz:Nat}{k:IntKind}{m:Int} (ht:P.underlying t=some (.slice e)) (hsz:(P.info? e).map (·.size)=some sz) (hx:ev ρ x=.slice A n c) (hlo:ev ρ lo=.int k m)
  (hm:m=(l:Int)) (h1:l≤n) (h2:n≤c):(execOp (ev ρ) ⟨d,.slice t x (some lo) none none,ty,pos,af,g⟩).run P w=.ok (.value (.slice (if c=l then A else A.map (·.add (l*sz))) (n-l) (c-l))) w:=
 jQ (lo:=some lo) (hi:=none) (l:=l) (h:=n) ht hsz hx ⟨k,m,hlo,hm⟩ rfl h1 h2
theorem Sl.front {A:Option Addr}{xs:List Value} (h:Sl w A n k xs) (hm:m≤n):Sl w A m k (xs.take (m*k)):=by
 have hle:m*k≤n*k:=ZH _ hm;refine ⟨by rw [YW,h.1];omega,fun h0=> ?_⟩;obtain ⟨ad,h1,h2⟩:=h.2 Yv;exact ⟨ad,h1,h2.take _⟩
theorem Sl.back {A:Option Addr}{l:Nat}{xs:List Value} (h:Sl w A n k xs) (hl:l≤n) (hc:n≤c):Sl w (if c=l then A else A.map (·.add (l*k))) (n-l) k (xs.drop (l*k)):=by
 have h1:=h.cut hl (YE n) hc;have h2:((xs.drop (l*k)).take ((n-l)*k))=xs.drop (l*k):=YG (by rw [ZM,h.1,Nat.sub_mul];exact YE _);rwa [h2] at h1
def Bo (base:Nat) (t:TypeId) (sz:Nat):VP:=fun v W=>∃g,v=.slice (some ⟨g,0,none⟩) 0 0∧W.ownsRow base t sz (.slice (some ⟨g,0,none⟩) 0 0) 0 []
def ru (base:Nat) (t:TypeId) (n sz:Nat) (cs:List Value):VP:=fun v W=>∃A c,v=.slice A n c∧W.ownsRow base t sz (.slice A n c) n cs
theorem qy {t:TypeId}{sz:Nat}{A:Option Addr}{xs:List Value} (h:w.ownsRow base t sz (.slice A n c) n xs) (hb:Below w.heap.size w w'):w'.ownsRow base t sz (.slice A n c) n xs:=by
 refine ⟨h.1,h.2.imp id ?_⟩;rintro ⟨g,cap,cur,h1,h2,h3,h4⟩;have hlt:g<w.heap.size:=by
  rcases Zj g w.heap.size with h|h
  ·exact h
  ·rw [abn h] at h3;cases h3
 exact ⟨g,cap,cur,h1,h2,(hb.block g hlt).trans h3,h4⟩
theorem Bo.ext {t:TypeId}{sz:Nat} (v:Value) (w w':World) (h:Bo base t sz v w) (hb:Below w.heap.size w w'):Bo base t sz v w':=let ⟨g,h1,h2⟩:=h;⟨g,h1,qy h2 hb⟩
theorem ru.ext {t:TypeId}{sz:Nat} (v:Value) (w w':World) (h:ru base t n sz cs v w) (hb:Below w.heap.size w w'):ru base t n sz cs v w':=let ⟨A,c,h1,h2⟩:=h;⟨A,c,h1,qy h2 hb⟩
theorem JJ.FJ {H:List HE}{t:TypeId}{sz:Nat}{A:Option Addr} (hs:Hp w0 H w) (h:Hp w0 H W) (ho:W.ownsRow w.heap.size t sz (.slice A n c) n cs):Hp w0 (.row A n c t sz cs::H) W:=by
 refine ⟨h.below,fun x hx=> ?_, ?_⟩
 ·rcases YS.1 hx with rfl|hx
  ·refine ⟨ho.1,ho.2.imp id ?_⟩;rintro ⟨g,cap,cur,h1,h2,h3⟩;exact ⟨g,cap,cur,h1,Y2 hs.size h2,h3⟩
  ·exact h.own x hx
 ·rw [aap]
  rcases ho.2 with ⟨h1,_⟩|⟨g,cap,cur,h1,h2,_⟩
  ·injection h1 with e1
   subst e1;exact h.nd
  ·injection h1 with e1
   subst e1;show (g::H.filterMap HE.id).Nodup;refine aar.2 ⟨fun hm=> ?_,h.nd⟩;obtain ⟨y,hy,hyb⟩:=ZJ.1 hm;have:=(eA (hs.own y hy) hyb).2;omega
section
variable {P:Program}{ops:Array Oper}{J:World→Prop}{ρ:Rf}{T:(Nat→VP)→Prop}{i:Nat}{pv:Nat→VP}{os:List Oper}{s:List (Nat×Option Nat)}{ss:List (List (Nat×Option Nat))}{d:Option Nat}{ty:TypeId}{pos:String}{af:Array Edge}
theorem y9 {t e:TypeId}{sz:Nat} (ht:P.underlying t=some (.slice e)) (hte:dH P e=some (sz,ag,by',zc)) (hJ:∀w1,J w1→base≤w1.heap.size)
  (k:DX P ops J ρ T (i+1) (eI pv i (Bo base e sz)) os ss):DX P ops J ρ T i pv (⟨d,.buildSlice t 0 #[],ty,pos,af,none⟩::os) (s::ss):=
 aO (Bo base e sz) Bo.ext (fun ρ1 w1 hj' h=>by
  have hb:Below w1.heap.size w1 (w1.alloc (.cells #[] e)):=(Below.refl _ _).alloc (YE _) _;refine eJ rfl (w':=w1.alloc (.cells #[] e)) (v:=.slice (some ⟨w1.heap.size,0,none⟩) 0 0) ?_ ⟨hb,w1.heap.size,rfl,by simp,.inr ⟨w1.heap.size,0, #[],rfl,hJ w1 hj',heap_alloc_new w1 _,YE _,by unfold maxLen;omega,by simp,by simp⟩⟩;have e0:Array.range 0= #[]:=rfl;simp [execOp,Instr.buildSlice,run_underlying ht,fk hte,Instr.fill,newRow,e0]) k
theorem xJ {g:Nat}{t ty e:TypeId}{sz:Nat} (ht:P.underlying t=some (.slice e)) (hte:dH P e=some (sz,ag,by',zc)) (hzl:zc.length=sz) (hsz:0<sz)
  (hown:w.ownsRow base e sz (.slice (some ⟨g,0,none⟩) 0 0) 0 []) {B:Option Addr} (hsl:Sl w B m sz news) (h1:∀u∈news,u.oneCell'=true)
  (h63:m≤maxLen) (hbytes:m*by'≤140737488355328) (hbase:base≤w.heap.size):
  ∃A' c2 w',(Builtin.append_ #[t,t] ty #[.slice (some ⟨g,0,none⟩) 0 0,.slice B m c']).run P w=.ok (.slice A' m c2) w'∧w'.ownsRow base e sz (.slice A' m c2) m news∧Below w.heap.size w w':=by
 obtain ⟨i,z,dd,hi,hd,hz,hs,hby,hzc,_⟩:=ez hte
 rcases aak m with h0|h0
 ·subst h0;have hnews:news=[]:=ZO (by simpa using hsl.1);subst hnews;refine ⟨_,_,w, ?_,hown,Below.refl _ _⟩;exact UQ
 ·obtain ⟨ad,rfl,hr⟩:=hsl.2 h0;have hsrc:Src P i.size t (.slice (some ad) m c') m news w:=Src.ofSlice w ht ad m c' news (by rw [hs];exact hsl.1) hr h1;have hfit:Builtin.nextslicecap (0+m) 0*i.bytes≤281474976710656:=growslice_fits Yv (by rw [hby,Y0];exact hbytes);have hb63:((0+m:Nat):Int)≤9223372036854775807:=by unfold maxLen at h63;omega
  have hone:∀base2:Option Addr,(Builtin.firstCells i.size 0 (.slice base2 0 0)).run P w.drew=.ok ([]:List Value).toArray w.drew:=fun base2=>by
   exact Uy
  have hA:=run_append_grow_src w t t ty e i z ht hi hz (some ⟨g,0,none⟩) 0 0 [] (hone _) _ m news hsrc Yv hb63 hfit;have hB:=run_append_grow_src w t t ty e i z ht hi hz none 0 0 [] (hone _) _ m news hsrc Yv hb63 hfit;obtain ⟨A',c2,w',r1,r2,r3,_⟩:=l7 (P:=P) (w:=w) base t ty e sz by' ag zc ht hte hzl hsz none 0 0 [] (World.ownsRow_nil w base e sz) (some ad) m c' news ⟨hsl.1,fun _=>⟨ad,rfl,hr⟩⟩ h1 Yv (by rw [Y0];exact hbytes) hbase;rw [hB,←hA] at r1;rw [Y0] at r1 r2;rw [YH] at r2;exact ⟨A',c2,w',r1,r2,r3.os,r3.tape,r3.output,r3.size,fun k hk=>r3.block k hk (by simp)⟩
theorem E4 {t e:TypeId}{x y:Operand}{sz:Nat} (hx:∀ρ1 w1,J w1→dw (pv) ρ ρ1 w1 s→Bo base e sz (ev ρ1 x) w1) (hy:∀ρ1 w1,J w1→dw (pv) ρ ρ1 w1 s→∃B c',ev ρ1 y=.slice B m c'∧Sl w1 B m sz news)
  (ht:P.underlying t=some (.slice e)) (hte:dH P e=some (sz,ag,by',zc)) (hzl:zc.length=sz) (hsz:0<sz) (h1:news.all Value.oneCell'=true) (h63:m≤maxLen) (hbytes:m*by'≤140737488355328) (hJ:∀w1,J w1→base≤w1.heap.size)
  (k:DX P ops J ρ T (i+1) (eI pv i (ru base e m sz news)) os ss):DX P ops J ρ T i pv (⟨d,.call ⟨.builtin .append, #[x,y], #[t,t]⟩,ty,pos,af,none⟩::os) (s::ss):=
 aO (ru base e m sz news) ru.ext (fun ρ1 w1 hj' h=>by
  obtain ⟨g,e1,ho⟩:=hx ρ1 w1 hj' h;obtain ⟨B,c',e2,hsl⟩:=hy ρ1 w1 hj' h;obtain ⟨A',c2,w',r1,r2,r3⟩:=xJ (P:=P) (ty:=ty) (c':=c') ht hte hzl hsz ho hsl (fun u hu=>Y6.1 h1 u hu) h63 hbytes (hJ w1 hj');refine eJ rfl (w':=w') (v:=.slice A' m c2) ?_ ⟨r3,A',c2,rfl,r2⟩;simp only [execOp,resolve,invoke,builtin,Sem.run_bind,Sem.run_pure,Result.andThen_ok,abH,Y1,Zp,e1,e2,r1]) k
end
section
variable {D:List Deferred}
section
variable {P:Program}{N:Nat}{Q:Kq}{ρ:Rf}{w:World}
structure Yg (D:List Deferred) (N:Nat) (ops:Array Oper) (m μ:Nat) (ρ:Rf) (J:Bool→World→Prop) (V:Nat→Value→World→Prop) (L:Array Bool) (a:Act) (w:World):Prop where
 nd:a.defers=D
 sz:a.tmps.size=N
 j:J (L.getD μ false) w
 ls:L.size=ops.size
 cl:qJ ops L
 tl:∀k,m≤k→L.getD k false=false
 vs:∀i d,i<m→L.getD i false=true→(ops[i]?).bind (·.dst)=some d→V i (a.tmps.getD d undef) w
 L7:∀s,(∀i,i<m→L.getD i false=true→(ops[i]?).bind (·.dst)≠some s)→a.tmps.getD s undef=ρ s
end
def Yb (V:Nat→VP):List Nat→Prop
 |[]=>True
 |i::r=>(∀v w w',V i v w→V i v w')∧Yb V r
structure JC (w0:World) (H:List HE) (W:World):Prop where
 hp:Hp w0 H W
end
variable {args:Array Operand}{ft t':TypeId}{fz:Nat×Nat}{o off:Nat}{r:Bool}{vs:List Value}
section
variable {P:Program}{ops:Array Oper}{J:World→Prop}{ρ:Rf}{T:(Nat→VP)→Prop}{i:Nat}{pv:Nat→VP}{os:List Oper}{s:List (Nat×Option Nat)}{ss:List (List (Nat×Option Nat))}{d:Option Nat}{ty:TypeId}{pos:String}{af:Array Edge}{x y:Operand}{t u:TypeId}
theorem cZ {k:IntKind}{a:Int} (kk:DX P ops J ρ T (i+1) (eI pv i (Is (.int k a))) os ss) (hx:∀ρ1 w1,J w1→dw pv ρ ρ1 w1 s→ev ρ1 x=.int k a:=by intro ρ1 w1 hj hR;first|exact hR.1|exact hR.2.1|exact hR.2.2.1|exact rfl):DX P ops J ρ T i pv (⟨d,.move x,ty,pos,af,none⟩::os) (s::ss):=bu (fun ρ1 w1 hj h=>fy (hx ρ1 w1 hj h)) kk
theorem j9 {a:Bool} (kk:DX P ops J ρ T (i+1) (eI pv i (Is (.bool a))) os ss) (hx:∀ρ1 w1,J w1→dw pv ρ ρ1 w1 s→ev ρ1 x=.bool a:=by intro ρ1 w1 hj hR;first|exact hR.1|exact hR.2.1|exact hR.2.2.1|exact rfl):DX P ops J ρ T i pv (⟨d,.move x,ty,pos,af,none⟩::os) (s::ss):=bu (fun ρ1 w1 hj h=>fy (hx ρ1 w1 hj h)) kk
theorem Wj {a:ByteArray} (kk:DX P ops J ρ T (i+1) (eI pv i (Is (.string a))) os ss) (hx:∀ρ1 w1,J w1→dw pv ρ ρ1 w1 s→ev ρ1 x=.string a:=by intro ρ1 w1 hj hR;first|exact hR.1|exact hR.2.1|exact hR.2.2.1|exact rfl):DX P ops J ρ T i pv (⟨d,.move x,ty,pos,af,none⟩::os) (s::ss):=bu (fun ρ1 w1 hj h=>fy (hx ρ1 w1 hj h)) kk
theorem Xx {a:ByteArray} (kk:DX P ops J ρ T (i+1) (eI pv i (Is (.string a))) os ss) (hx:∀ρ1 w1,J w1→dw pv ρ ρ1 w1 s→ev ρ1 x=.string a:=by intro ρ1 w1 hj hR;first|exact hR.1|exact hR.2.1|exact hR.2.2.1|exact rfl):DX P ops J ρ T i pv (⟨d,.assign x,ty,pos,af,none⟩::os) (s::ss):=bu (fun ρ1 w1 hj h=>D6 (hx ρ1 w1 hj h)) kk
theorem eQ {A:Option Addr} (kk:DX P ops J ρ T (i+1) (eI pv i (Is (.slice A n c))) os ss) (hx:∀ρ1 w1,J w1→dw pv ρ ρ1 w1 s→ev ρ1 x=.slice A n c:=by intro ρ1 w1 hj hR;first|exact hR.1|exact hR.2.1|exact hR.2.2.1|exact rfl):DX P ops J ρ T i pv (⟨d,.move x,ty,pos,af,none⟩::os) (s::ss):=bu (fun ρ1 w1 hj h=>fy (hx ρ1 w1 hj h)) kk
theorem Wl {l:List Value} (kk:DX P ops J ρ T (i+1) (eI pv i (Is (.tuple l.toArray))) os ss) (hx:∀ρ1 w1,J w1→dw pv ρ ρ1 w1 s→ev ρ1 x=.tuple l.toArray:=by intro ρ1 w1 hj hR;first|exact hR.1|exact hR.2.1|exact hR.2.2.1|exact rfl):DX P ops J ρ T i pv (⟨d,.move x,ty,pos,af,none⟩::os) (s::ss):=bu (fun ρ1 w1 hj h=>fy (hx ρ1 w1 hj h)) kk
theorem PB {f:Fn}{l r:List Value} (kk:DX P ops J ρ T (i+1) (eI pv i (Is (.func f l.toArray r.toArray))) os ss) (hx:∀ρ1 w1,J w1→dw pv ρ ρ1 w1 s→ev ρ1 x=.func f l.toArray r.toArray:=by intro ρ1 w1 hj hR;first|exact hR.1|exact hR.2.1|exact hR.2.2.1|exact rfl):DX P ops J ρ T i pv (⟨d,.move x,ty,pos,af,none⟩::os) (s::ss):=bu (fun ρ1 w1 hj h=>fy (hx ρ1 w1 hj h)) kk
theorem cX {c:TypeId}{f:Nat} [hf:gG P c f off ft] (kk:DX P ops J ρ T (i+1) (eI pv i (Is (.pointer (some ⟨b,o+off,none⟩)))) os ss) (hx:∀ρ1 w1,J w1→dw pv ρ ρ1 w1 s→ev ρ1 x=.pointer (some ⟨b,o,none⟩):=by intro ρ1 w1 hj hR;first|exact hR.1|exact hR.2.1|exact hR.2.2.1|exact rfl):DX P ops J ρ T i pv (⟨d,.fieldAddr c x f,ty,pos,af,none⟩::os) (s::ss):=bu (fun ρ1 w1 hj h=>tS hf.out (hx ρ1 w1 hj h)) kk
theorem qG {c:TypeId}{f:Nat} [hf:gG P c f off ft] (kk:DX P ops J ρ T (i+1) (eI pv i (Is (.pointer (some (ad.add off))))) os ss) (hx:∀ρ1 w1,J w1→dw pv ρ ρ1 w1 s→ev ρ1 x=.pointer (some ad):=by intro ρ1 w1 hj hR;first|exact hR.1|exact hR.2.1|exact hR.2.2.1|exact rfl):DX P ops J ρ T i pv (⟨d,.fieldAddr c x f,ty,pos,af,none⟩::os) (s::ss):=bu (fun ρ1 w1 hj h=>qZ hf.out (hx ρ1 w1 hj h)) kk
theorem pK {v:Value} (hc:∀w1,J w1→w1.cell? ad=some v) [ht:aU P t n false by' zc] (kk:DX P ops J ρ T (i+1) (eI pv i (Is (v))) os ss) (hx:∀ρ1 w1,J w1→dw pv ρ ρ1 w1 s→ev ρ1 x=.pointer (some ad):=by intro ρ1 w1 hj hR;first|exact hR.1|exact hR.2.1|exact hR.2.2.1|exact rfl):DX P ops J ρ T i pv (⟨d,.load t x,ty,pos,af,none⟩::os) (s::ss):=bu (fun ρ1 w1 hj h=>jT ht.out (hx ρ1 w1 hj h) (hc w1 hj)) kk
theorem nF (vs:List Value) (hc:∀w1,J w1→Rd w1 ad vs) [ht:aU P t n true by' zc] (kk:DX P ops J ρ T (i+1) (eI pv i (Is (.agg vs.toArray))) os ss) (hx:∀ρ1 w1,J w1→dw pv ρ ρ1 w1 s→ev ρ1 x=.pointer (some ad):=by intro ρ1 w1 hj hR;first|exact hR.1|exact hR.2.1|exact hR.2.2.1|exact rfl) (hl:vs.length=n:=by exact rfl):DX P ops J ρ T i pv (⟨d,.load t x,ty,pos,af,none⟩::os) (s::ss):=bu (fun ρ1 w1 hj h=>FO ht.out (hx ρ1 w1 hj h) (hc w1 hj) hl) kk
theorem dT {H:List HE}{v:Value} (j:Nat) [ht:aU P t n false by' zc] (kk:DX P ops (JJ w0 H w) ρ T (i+1) (eI pv i (Is (v))) os ss) (hx:∀ρ1 w1,JJ w0 H w w1→dw pv ρ ρ1 w1 s→ev ρ1 x=.pointer (some ⟨b,o,none⟩):=by intro ρ1 w1 hj hR;first|exact hR.1|exact hR.2.1|exact hR.2.2.1|exact rfl) (hi:H[j]?=some (.blk b t' cs fz):=by exact rfl) (hv:cs[o]?=some v:=by exact rfl):DX P ops (JJ w0 H w) ρ T i pv (⟨d,.load t x,ty,pos,af,none⟩::os) (s::ss):=bu (fun ρ1 w1 hj h=>jT ht.out (hx ρ1 w1 hj h) (hj.hp.eT hi hv)) kk
theorem ef {H:List HE} (j:Nat) (vs:List Value) [ht:aU P t n true by' zc] (kk:DX P ops (JJ w0 H w) ρ T (i+1) (eI pv i (Is (.agg vs.toArray))) os ss) (hx:∀ρ1 w1,JJ w0 H w w1→dw pv ρ ρ1 w1 s→ev ρ1 x=.pointer (some ⟨b,o,none⟩):=by intro ρ1 w1 hj hR;first|exact hR.1|exact hR.2.1|exact hR.2.2.1|exact rfl) (hi:H[j]?=some (.blk b t' cs fz):=by exact rfl) (hv:(cs.drop o).take n=vs:=by exact rfl) (hl:vs.length=n:=by exact rfl):DX P ops (JJ w0 H w) ρ T i pv (⟨d,.load t x,ty,pos,af,none⟩::os) (s::ss):=bu (fun ρ1 w1 hj h=>FO ht.out (hx ρ1 w1 hj h) (hj.hp.cn hi hv) hl) kk
theorem sY {e:TypeId}{B:Option Addr} [ht:bo P t (.slice e)] (kk:DX P ops J ρ T (i+1) (eI pv i (Is (.int .i64 n))) os ss) (hx:∀ρ1 w1,J w1→dw pv ρ ρ1 w1 s→ev ρ1 x=.slice B n c:=by intro ρ1 w1 hj hR;first|exact hR.1|exact hR.2.1|exact hR.2.2.1|exact rfl):DX P ops J ρ T i pv (⟨d,.call ⟨.builtin .len, #[x], #[t]⟩,ty,pos,af,none⟩::os) (s::ss):=bu (fun ρ1 w1 hj h=>D7 ht.out (hx ρ1 w1 hj h)) kk
theorem JS {k:IntKind}{a b:Int} (kk:DX P ops J ρ T (i+1) (eI pv i (Is (.bool r))) os ss) (hx:∀ρ1 w1,J w1→dw pv ρ ρ1 w1 s→ev ρ1 x=.int k a:=by intro ρ1 w1 hj hR;first|exact hR.1|exact hR.2.1|exact hR.2.2.1|exact rfl) (hy:∀ρ1 w1,J w1→dw pv ρ ρ1 w1 s→ev ρ1 y=.int k b:=by intro ρ1 w1 hj hR;first|exact hR.1|exact hR.2.1|exact hR.2.2.1|exact rfl) (hr:decide (a<b)=r:=by first|exact YV Yv|exact Y3 Yv|exact rfl):DX P ops J ρ T i pv (⟨d,.binOp .lss t x y u,ty,pos,af,none⟩::os) (s::ss):=bu (fun ρ1 w1 hj h=>by rw [←hr];exact H5 (hx ρ1 w1 hj h) (hy ρ1 w1 hj h)) kk
theorem IQ {k:IntKind}{a b:Int} (kk:DX P ops J ρ T (i+1) (eI pv i (Is (.bool r))) os ss) (hx:∀ρ1 w1,J w1→dw pv ρ ρ1 w1 s→ev ρ1 x=.int k a:=by intro ρ1 w1 hj hR;first|exact hR.1|exact hR.2.1|exact hR.2.2.1|exact rfl) (hy:∀ρ1 w1,J w1→dw pv ρ ρ1 w1 s→ev ρ1 y=.int k b:=by intro ρ1 w1 hj hR;first|exact hR.1|exact hR.2.1|exact hR.2.2.1|exact rfl) (hr:decide (b<a)=r:=by first|exact YV Yv|exact Y3 Yv|exact rfl):DX P ops J ρ T i pv (⟨d,.binOp .gtr t x y u,ty,pos,af,none⟩::os) (s::ss):=bu (fun ρ1 w1 hj h=>by rw [←hr];exact Ht (hx ρ1 w1 hj h) (hy ρ1 w1 hj h)) kk
theorem qO {k:IntKind}{a b:Int} (kk:DX P ops J ρ T (i+1) (eI pv i (Is (.bool r))) os ss) (hx:∀ρ1 w1,J w1→dw pv ρ ρ1 w1 s→ev ρ1 x=.int k a:=by intro ρ1 w1 hj hR;first|exact hR.1|exact hR.2.1|exact hR.2.2.1|exact rfl) (hy:∀ρ1 w1,J w1→dw pv ρ ρ1 w1 s→ev ρ1 y=.int k b:=by intro ρ1 w1 hj hR;first|exact hR.1|exact hR.2.1|exact hR.2.2.1|exact rfl) (hr:decide (a=b)=r:=by first|exact YV Yv|exact Y3 Yv|exact rfl):DX P ops J ρ T i pv (⟨d,.binOp .eql t x y u,ty,pos,af,none⟩::os) (s::ss):=bu (fun ρ1 w1 hj h=>by rw [←hr];exact Ij (hx ρ1 w1 hj h) (hy ρ1 w1 hj h)) kk
theorem r6 {a b:Int} (kk:DX P ops J ρ T (i+1) (eI pv i (Is (.int .i64 (a+b)))) os ss) (hx:∀ρ1 w1,J w1→dw pv ρ ρ1 w1 s→ev ρ1 x=.int .i64 a:=by intro ρ1 w1 hj hR;first|exact hR.1|exact hR.2.1|exact hR.2.2.1|exact rfl) (hy:∀ρ1 w1,J w1→dw pv ρ ρ1 w1 s→ev ρ1 y=.int .i64 b:=by intro ρ1 w1 hj hR;first|exact hR.1|exact hR.2.1|exact hR.2.2.1|exact rfl) (h1: -9223372036854775808≤a+b:=by omega) (h2:a+b≤9223372036854775807:=by omega):DX P ops J ρ T i pv (⟨d,.binOp .add t x y u,ty,pos,af,none⟩::os) (s::ss):=bu (fun ρ1 w1 hj h=>K8 (hx ρ1 w1 hj h) (hy ρ1 w1 hj h) h1 h2) kk
theorem qE {a b:Int} (kk:DX P ops J ρ T (i+1) (eI pv i (Is (.int .i64 (a-b)))) os ss) (hx:∀ρ1 w1,J w1→dw pv ρ ρ1 w1 s→ev ρ1 x=.int .i64 a:=by intro ρ1 w1 hj hR;first|exact hR.1|exact hR.2.1|exact hR.2.2.1|exact rfl) (hy:∀ρ1 w1,J w1→dw pv ρ ρ1 w1 s→ev ρ1 y=.int .i64 b:=by intro ρ1 w1 hj hR;first|exact hR.1|exact hR.2.1|exact hR.2.2.1|exact rfl) (h1: -9223372036854775808≤a-b:=by omega) (h2:a-b≤9223372036854775807:=by omega):DX P ops J ρ T i pv (⟨d,.binOp .sub t x y u,ty,pos,af,none⟩::os) (s::ss):=bu (fun ρ1 w1 hj h=>Mp (hx ρ1 w1 hj h) (hy ρ1 w1 hj h) h1 h2) kk
theorem V3 {a b:Int} (kk:DX P ops J ρ T (i+1) (eI pv i (Is (.int .i64 (a*b)))) os ss) (hx:∀ρ1 w1,J w1→dw pv ρ ρ1 w1 s→ev ρ1 x=.int .i64 a:=by intro ρ1 w1 hj hR;first|exact hR.1|exact hR.2.1|exact hR.2.2.1|exact rfl) (hy:∀ρ1 w1,J w1→dw pv ρ ρ1 w1 s→ev ρ1 y=.int .i64 b:=by intro ρ1 w1 hj hR;first|exact hR.1|exact hR.2.1|exact hR.2.2.1|exact rfl) (h1: -9223372036854775808≤a*b:=by omega) (h2:a*b≤9223372036854775807:=by omega):DX P ops J ρ T i pv (⟨d,.binOp .mul t x y u,ty,pos,af,none⟩::os) (s::ss):=bu (fun ρ1 w1 hj h=>Lt (hx ρ1 w1 hj h) (hy ρ1 w1 hj h) h1 h2) kk
theorem xy {b:Bool} (kk:DX P ops J ρ T (i+1) (eI pv i (Is (.bool !b))) os ss) (hx:∀ρ1 w1,J w1→dw pv ρ ρ1 w1 s→ev ρ1 x=.bool b:=by intro ρ1 w1 hj hR;first|exact hR.1|exact hR.2.1|exact hR.2.2.1|exact rfl):DX P ops J ρ T i pv (⟨d,.unOp .not t x,ty,pos,af,none⟩::os) (s::ss):=bu (fun ρ1 w1 hj h=>Rn (hx ρ1 w1 hj h)) kk
theorem Px {v:Value} (kk:DX P ops J ρ T (i+1) (eI pv i (Is (v))) os ss) (hx:∀ρ1 w1,J w1→dw pv ρ ρ1 w1 s→ev ρ1 x=.tuple vs.toArray:=by intro ρ1 w1 hj hR;first|exact hR.1|exact hR.2.1|exact hR.2.2.1|exact rfl) (hv:vs[j]?=some v:=by exact rfl):DX P ops J ρ T i pv (⟨d,.extract x j,ty,pos,af,none⟩::os) (s::ss):=bu (fun ρ1 w1 hj h=>gk (hx ρ1 w1 hj h) hv) kk
theorem Bt {c a b:Operand}{v:Bool} (kk:DX P ops J ρ T (i+1) (eI pv i (Is (.bool v))) os ss) (hc:∀ρ1 w1,J w1→dw pv ρ ρ1 w1 s→ev ρ1 c=.bool true:=by intro ρ1 w1 hj hR;first|exact hR.1|exact hR.2.1|exact hR.2.2.1|exact rfl) (hx:∀ρ1 w1,J w1→dw pv ρ ρ1 w1 s→ev ρ1 a=.bool v:=by intro ρ1 w1 hj hR;first|exact hR.1|exact hR.2.1|exact hR.2.2.1|exact rfl):DX P ops J ρ T i pv (⟨d,.pick c a b,ty,pos,af,none⟩::os) (s::ss):=bu (fun ρ1 w1 hj h=>Cm (hc ρ1 w1 hj h) (hx ρ1 w1 hj h)) kk
theorem Kh {c a b:Operand}{v:Bool} (kk:DX P ops J ρ T (i+1) (eI pv i (Is (.bool v))) os ss) (hc:∀ρ1 w1,J w1→dw pv ρ ρ1 w1 s→ev ρ1 c=.bool false:=by intro ρ1 w1 hj hR;first|exact hR.1|exact hR.2.1|exact hR.2.2.1|exact rfl) (hx:∀ρ1 w1,J w1→dw pv ρ ρ1 w1 s→ev ρ1 b=.bool v:=by intro ρ1 w1 hj hR;first|exact hR.1|exact hR.2.1|exact hR.2.2.1|exact rfl):DX P ops J ρ T i pv (⟨d,.pick c a b,ty,pos,af,none⟩::os) (s::ss):=bu (fun ρ1 w1 hj h=>Cp (hc ρ1 w1 hj h) (hx ρ1 w1 hj h)) kk
theorem N2 {e:TypeId}{sz:Nat}{q:IntKind}{m:Int} (k:Nat) [ht:bo P t (.slice e)] [hs:TS P e sz] (kk:DX P ops J ρ T (i+1) (eI pv i (Is (.pointer (some ⟨b,k*sz,none⟩)))) os ss) (hx:∀ρ1 w1,J w1→dw pv ρ ρ1 w1 s→ev ρ1 x=.slice (some ⟨b,0,none⟩) n c:=by intro ρ1 w1 hj hR;first|exact hR.1|exact hR.2.1|exact hR.2.2.1|exact rfl) (hy:∀ρ1 w1,J w1→dw pv ρ ρ1 w1 s→ev ρ1 y=.int q m:=by intro ρ1 w1 hj hR;first|exact hR.1|exact hR.2.1|exact hR.2.2.1|exact rfl) (hm:m=(k:Int):=by omega) (h1:k<n:=by omega):DX P ops J ρ T i pv (⟨d,.indexAddr t x y,ty,pos,af,none⟩::os) (s::ss):=bu (fun ρ1 w1 hj h=>m7 ht.out hs.out (hx ρ1 w1 hj h) (hy ρ1 w1 hj h) hm h1) kk
theorem jA {e:TypeId}{sz:Nat}{q:IntKind}{m:Int} (k:Nat) [ht:bo P t (.slice e)] [hs:TS P e sz] (kk:DX P ops J ρ T (i+1) (eI pv i (Is (.pointer (some (ad.add (k*sz)))))) os ss) (hx:∀ρ1 w1,J w1→dw pv ρ ρ1 w1 s→ev ρ1 x=.slice (some ad) n c:=by intro ρ1 w1 hj hR;first|exact hR.1|exact hR.2.1|exact hR.2.2.1|exact rfl) (hy:∀ρ1 w1,J w1→dw pv ρ ρ1 w1 s→ev ρ1 y=.int q m:=by intro ρ1 w1 hj hR;first|exact hR.1|exact hR.2.1|exact hR.2.2.1|exact rfl) (hm:m=(k:Int):=by omega) (h1:k<n:=by omega):DX P ops J ρ T i pv (⟨d,.indexAddr t x y,ty,pos,af,none⟩::os) (s::ss):=bu (fun ρ1 w1 hj h=>gl ht.out hs.out (hx ρ1 w1 hj h) (hy ρ1 w1 hj h) hm h1) kk
theorem dC {f:FuncId}{ts:Array TypeId}{v:Value} (hc:∀w1,J w1→Calls P f vs.toArray w1 fun e w'=>e=.returned v∧Below w1.heap.size w1 w') [hf:aw P f] (kk:DX P ops J ρ T (i+1) (eI pv i (Is (v))) os ss) (ha:∀ρ1 w1,J w1→dw pv ρ ρ1 w1 s→zt ρ1 args.toList=vs:=by intro ρ1 w1 hj hR;repeat (first|exact bf|(apply az;first|exact hR.1|exact hR.2.1|exact hR.2.2.1|exact hR.2.2.2.1|exact rfl))):DX P ops J ρ T i pv (⟨d,.call ⟨.value (.func f),args,ts⟩,ty,pos,af,none⟩::os) (s::ss):=Pw (fun ρ1 w1 hj h=>aV hf.out (ha ρ1 w1 hj h)) hc kk
theorem dB {pl:List (Nat×Nat)} (cs:List Value) [hte:aU P t n true by' zc] [hpl:nw P t pl] (kk:DX P ops J ρ T (i+1) (eI pv i (Is (.agg cs.toArray))) os ss) (hp:∀ρ1 w1,J w1→dw pv ρ ρ1 w1 s→ya ρ1 parts.toList=ps:=by intro ρ1 w1 hj hR;repeat (first|exact cx|(apply aX;first|exact hR.1|exact hR.2.1|exact hR.2.2.1|exact hR.2.2.2.1|exact rfl))) (hf:lN (pl[·]?) zc ps=some cs:=by exact rfl):DX P ops J ρ T i pv (⟨d,.build t parts,ty,pos,af,none⟩::os) (s::ss):=bu (fun ρ1 w1 hj h=>uQ hte.out hpl.out (hp ρ1 w1 hj h) hf) kk
theorem pL {e:TypeId}{len sz:Nat} (cs:List Value) [ht:bo P t (.slice e)] [hte:aU P e sz ag by' zc] (kk:DX P ops J ρ T (i+1) (eI pv i (Rows len sz cs)) os ss) (hp:∀ρ1 w1,J w1→dw pv ρ ρ1 w1 s→ya ρ1 parts.toList=ps:=by intro ρ1 w1 hj hR;repeat (first|exact cx|(apply aX;first|exact hR.1|exact hR.2.1|exact hR.2.2.1|exact hR.2.2.2.1|exact rfl))) (hzl:zc.length=sz:=by exact rfl) (hf:lN (fun i=>some (i*sz,sz)) (gu len zc) ps=some cs:=by exact rfl) (h0:¬len*sz=0:=by decide) (hsl:len*sz≤16777216:=by decide) (hl:cs.length=len*sz:=by exact rfl):DX P ops J ρ T i pv (⟨d,.buildSlice t len parts,ty,pos,af,none⟩::os) (s::ss):=xI ht.out hte.out hp hzl hf h0 hsl hl kk
theorem dS {b c:Bool}{op:Op} (kk:DX P ops J ρ T (i+1) (eI pv i (Is (undef))) os ss) (hj:(ops[j]?).bind (·.dst)=some dj:=by exact rfl) (hv:∀ρ1 w1,J w1→dw pv ρ ρ1 w1 s→ρ1 dj=.bool c:=by intro ρ1 w1 hj hR;first|exact hR.1|exact hR.2.1|exact hR.2.2.1|exact hR.2.2.2.1) (hb:c≠b:=by decide):DX P ops J ρ T i pv (⟨d,op,ty,pos,af,some (j,b)⟩::os) (s::ss):=pJ hj hv hb kk
theorem dU {b:Bool}{op:Op} (kk:DX P ops J ρ T (i+1) (eI pv i (Is (undef))) os ss) (hj:(ops[j]?).bind (·.dst)=some dj:=by exact rfl) (hv:∀ρ1 w1,J w1→dw pv ρ ρ1 w1 s→ρ1 dj=undef:=by intro ρ1 w1 hj hR;first|exact hR.1|exact hR.2.1|exact hR.2.2.1|exact hR.2.2.2.1):DX P ops J ρ T i pv (⟨d,op,ty,pos,af,some (j,b)⟩::os) (s::ss):=BH hj hv kk
theorem dG {b:Bool}{op:Op} (kk:DX P ops J ρ T i pv (⟨d,op,ty,pos,af,none⟩::os) (s::ss)) (hj:(ops[j]?).bind (·.dst)=some dj:=by exact rfl) (hv:∀ρ1 w1,J w1→dw pv ρ ρ1 w1 s→ρ1 dj=.bool b:=by intro ρ1 w1 hj hR;first|exact hR.1|exact hR.2.1|exact hR.2.2.1|exact hR.2.2.2.1):DX P ops J ρ T i pv (⟨d,op,ty,pos,af,some (j,b)⟩::os) (s::ss):=let ⟨V,h1,h2,h3⟩:=kk;⟨V,h1,fun ρ1 w1 hj1 h=>bz hj (hv ρ1 w1 hj1 h) (h2 ρ1 w1 hj1 h),h3⟩
end
variable {cy:Nat}
section
variable {ro:Mode}
section
variable {P:Program}{N:Nat}{ops:Array Oper}{Q:Kq}{ρ:Rf}{w w0:World}{rest:List Oper}{H:List HE}{d:Nat}{ty:TypeId}{pos:String}{af:Array Edge}
theorem PA (hh:Hp w0 H w) {t s e:TypeId}{x y:Operand}{i dl dc sz:Nat}{B:Option Addr}{xs:List Value} (hi:H[i]?=some (.row (some ⟨b,0,none⟩) m c e sz xs)) (hx:ev ρ x=.slice (some ⟨b,o,none⟩) dl dc) (hy:ev ρ y=.slice B n cy)
  (hsl:Sl w B n sz news) (ht:P.underlying t=some (.slice e)) (hte:dH P e=some (sz,ag,by',zc)) (ho:o+min n dl*sz≤xs.length) (h1:(news.all Value.oneCell')=true) (hN:d<N)
  (kk:∀w',Hp w0 (H.set i (.row (some ⟨b,0,none⟩) m c e sz (cM xs o (news.take (min n dl*sz))))) w'→WL ro P N ops Q rest (cY ρ d (.int .i64 ((min n dl:Nat):Int))) w'):
  WL ro P N ops Q (⟨some d,.call ⟨.builtin .copy, #[x,y], #[t,s]⟩,ty,pos,af,none⟩::rest) ρ w:=by
 obtain ⟨inf,z,dd,hti,hd,hz,hsz,hby,hzc,_⟩:=ez hte;have hrow:=hh.at_ hi;obtain ⟨hlen,h2⟩:=hrow;have hnl:=hsl.1;have hmin:min n dl*sz≤n*sz:=ZH _ (Nat.min_le_left _ _);have hvl:(news.take (min n dl*sz)).length=min n dl*sz:=by rw [YW];omega
 have h1':∀v∈news.take (min n dl*sz),v.oneCell'=true:=fun v hv=>Y6.1 h1 v (aau hv);have hcells:(Builtin.firstCells sz (min n dl) (.slice B n cy)).run P w=.ok (news.take (min n dl*sz)).toArray w:=by
  cases B with
  |none=>
   have h0:n=0:=by
    rcases aak n with h0|h0
    ·exact h0
    ·obtain ⟨ad,h1,_⟩:=hsl.2 h0;cases h1
   subst h0;simp [Builtin.firstCells]
  |some ad=>
   have hrd:∀j u,(news.take (min n dl*sz))[j]?=some u→w.cell? (ad.add j)=some u:=by
    intro j u hj;rw [Z9] at hj;split at hj
    ·rcases aak n with h0|h0
     ·subst h0;have:news=[]:=ZO (by simpa using hnl);simp [this] at hj
     ·obtain ⟨ad',he,hr'⟩:=hsl.2 h0;injection he with he
      subst he;exact hr' j u hj
    ·cases hj
   have:=run_loadCells_list (P:=P) w ad _ hrd;rw [hvl] at this;simpa [Builtin.firstCells] using this
 generalize news.take (min n dl*sz)=vs at hvl h1' hcells kk;rw [←hvl] at ho
 rcases h2 with ⟨h2,_⟩|⟨g,cap,cur,hv,hg,hheap,hmc,hcm,hcur,htake⟩
 ·injection h2 with h2;cases h2
 ·injection hv with hA hn hcap
  injection hA with hA
  injection hA with hA
  subst hA;subst hcap;have hcl:cur.size=cur.toList.length:=by simp
  have hle:m*sz≤c*sz:=ZH _ hmc;obtain ⟨w',hr,hb',hgr,hs⟩:=iz (P:=P) (b:=b) (t:=e) (fz:=(0,0)) o vs 0 cur.toList w (by simpa using hheap) (.inr (YE _)) (by rw [←hcl];omega) h1';refine aZ rfl rfl hN (w':=w') (v:=.int .i64 ((min n dl:Nat):Int)) ?_ (kk w' (hh.grown hi hgr (.inl rfl) ⟨by rw [gp Yv];exact hlen,.inr ⟨b,c,(cM cur.toList o vs).toArray,rfl,hg,by simpa using hb',hmc,hcm, ?_, ?_⟩⟩))
  ·have hmm:Nat.min n dl=min n dl:=rfl;simp only [execOp,resolve,invoke,hx,hy,abH,Y1,Zp];simp [builtin,Builtin.copy_,run_underlying ht,Builtin.lenOf,sizeOf,typeInfo,hti,hsz,hmm,hcells,hr,goInt]
  ·simp only [abc];rw [gp (by rw [←hcl];omega),←hcl,hcur]
  ·exact US
end
end
def bR (B:Nat):List Nat→Nat
 |[]=>0
 |d::l=>d+B*bR B l
def ct (B:Nat):Nat→Nat→List Nat
 |0,_=>[]
 |k+1,n=>n % B::ct B k (n/B)
def eu:List Nat→List Nat
 |[]=>[]
 |d::l=>match eu l with
  |[]=>if d=0 then [] else [d]
  |e::m=>d::e::m
def a9 (B n:Nat):List Nat:=eu (ct B (n.log2+1) n)
def Dg (B:Nat) (l:List Nat):Prop:=∀d∈l,d<B
section
variable {B:Nat}
theorem Dg.nil:Dg B []:=fun _ h=>(nomatch h)
theorem Dg.cons {d:Nat}{l:List Nat} (h:d<B) (hl:Dg B l):Dg B (d::l):=fun x hx=>by
 rcases YS.1 hx with rfl|hx
 ·exact h
 ·exact hl x hx
theorem Dg.head {d:Nat}{l:List Nat} (h:Dg B (d::l)):d<B:=h d YL
theorem Dg.tail {d:Nat}{l:List Nat} (h:Dg B (d::l)):Dg B l:=fun x hx=>h x (YP _ hx)
theorem Dg.append {l m:List Nat} (h:Dg B l) (h':Dg B m):Dg B (l++m):=fun x hx=>by
 rcases Zb.1 hx with hx|hx
 ·exact h x hx
 ·exact h' x hx
theorem Dg.sub {l m:List Nat} (h:Dg B l) (h':m.Sublist l):Dg B m:=fun x hx=>h x (h'.subset hx)
theorem Dg.take {l:List Nat} (h:Dg B l) (n:Nat):Dg B (l.take n):=h.sub (List.take_sublist n l)
theorem Dg.drop {l:List Nat} (h:Dg B l) (n:Nat):Dg B (l.drop n):=h.sub (List.drop_sublist n l)
theorem Dg.at_ {l:List Nat} (h:Dg B l) {i d:Nat} (hi:l[i]?=some d):d<B:=h d (YF hi)
theorem Dg.Pa {l:List Nat} (h:Dg B l) (i:Nat) {d:Nat} (hd:d<B):Dg B (l.set i d):=fun x hx=>by
 rcases List.mem_or_eq_of_mem_set hx with hx|rfl
 ·exact h x hx
 ·exact hd
theorem Dg.gY (hB:0<B) (n:Nat):Dg B (List.replicate n 0):=fun x hx=>by rw [List.eq_of_mem_replicate hx];exact hB
theorem fu (l m:List Nat):bR B (l++m)=bR B l+B^l.length*bR B m:=by
 induction l with
 |nil=>simp [bR]
 |cons d l ih=>simp only [YJ,bR,ih,YZ,Zn];rw [Zt,abk];congr 2;rw [←Zw,Za B]
theorem jv {l:List Nat} (h:Dg B l):bR B l<B^l.length:=by
 induction l with
 |nil=>simp [bR]
 |cons d l ih=>
  have h1:=ih h.tail;have h2:=h.head;simp only [bR,YZ,Zn]
  calc d+B*bR B l<B+B*bR B l:=by omega
   _=B*(bR B l+1):=by rw [Zt,YX,aat]
   _≤B*B^l.length:=Zc _ h1
   _=B^l.length*B:=Za _ _
theorem tf (n:Nat):bR B (List.replicate n 0)=0:=by
 induction n with
 |zero=>rfl
 |succ n ih=>simp [aax,bR,ih]
theorem a7 (k n:Nat):(ct B k n).length=k:=by
 induction k generalizing n with
 |zero=>rfl
 |succ k ih=>simp [ct,ih]
theorem fC (hB:0<B) (k n:Nat):Dg B (ct B k n):=by
 induction k generalizing n with
 |zero=>exact Dg.nil
 |succ k ih=>exact Dg.cons (Y8 _ hB) (ih _)
theorem KS (k n:Nat):bR B (ct B k n)=n % B^k:=by
 induction k generalizing n with
 |zero=>simp [ct,bR,Nat.mod_one]
 |succ k ih=>rw [ct,bR,ih,Zn,Za (B^k),Nat.mod_mul]
theorem da (h:n<B^k):bR B (ct B k n)=n:=by rw [KS,Zk h]
theorem uS {l:List Nat} (h:Dg B l):ct B l.length (bR B l)=l:=by
 induction l with
 |nil=>rfl
 |cons d l ih=>
  have hd:=h.head;simp only [YZ,ct,bR];rw [aaD,Zk hd,Z3 _ _ Yv,ZG hd,Y0,ih h.tail]
theorem AQ {l m:List Nat} (hl:Dg B l) (hm:Dg B m) (hlen:l.length=m.length) (h:bR B l=bR B m):l=m:=by
 rw [←uS hl,←uS hm,hlen,h]
theorem jz (k n i:Nat) (h:i<k):(ct B k n)[i]?=some (n/B^i % B):=by
 induction k generalizing n i with
 |zero=>omega
 |succ k ih=>
  cases i with
  |zero=>simp [ct]
  |succ i=>simp only [ct,aaY];rw [ih _ _ Yv,aae,Zn,Za B]
theorem uz {l:List Nat} (h:Dg B l) {i d:Nat} (hi:l[i]?=some d):bR B l/B^i % B=d:=by
 have h1:=jz (B:=B) l.length (bR B l) i (YQ.1 hi).1;rw [uS h,hi] at h1;injection h1 with h1
 exact h1.symm
theorem vk {l:List Nat} (h:Dg B l) {i:Nat} (hi:l.length≤i) (hB:0<B):bR B l/B^i=0:=
 ZG (ZC (jv h) (Zf hB hi))
theorem jU (l:List Nat) (i:Nat) (h:i≤l.length):bR B l=bR B (l.take i)+B^i*bR B (l.drop i):=by
 have:=fu (B:=B) (l.take i) (l.drop i);rw [Zv,List.length_take_of_le h] at this;exact this
theorem mK (l:List Nat):bR B (eu l)=bR B l:=by
 induction l with
 |nil=>rfl
 |cons d l ih=>
  simp only [eu,bR];split
  ·rename_i h;rw [h] at ih;simp only [bR] at ih;split
   ·rename_i h0;rw [h0,←ih];simp [bR]
   ·rw [←ih];simp [bR]
  ·rename_i e m h;rw [h] at ih;rw [←ih];rfl
theorem kF (l:List Nat):eu l=l.take (eu l).length:=by
 induction l with
 |nil=>rfl
 |cons d l ih=>
  simp only [eu];split
  ·split
   ·rfl
   ·simp
  ·rename_i e m h;rw [h] at ih;simp only [YZ,List.take_succ_cons] at ih ⊢;rw [←ih]
theorem gi (l:List Nat):(eu l).length≤l.length:=by
 have:=Zz List.length (kF l);rw [YW] at this;omega
theorem yu (l:List Nat):(eu l).getLast?≠some 0:=by
 induction l with
 |nil=>simp [eu]
 |cons d l ih=>
  simp only [eu];split
  ·split
   ·simp
   ·simpa
  ·rename_i e m h;rw [h] at ih;rwa [List.getLast?_cons_cons]
theorem Dg.cut {l:List Nat} (h:Dg B l):Dg B (eu l):=by rw [kF];exact h.take _
theorem J9 {l:List Nat} (h:l.getLast?≠some 0):eu l=l:=by
 induction l with
 |nil=>rfl
 |cons d l ih=>
  cases l with
  |nil=>simp only [eu];rw [YB];intro h0;subst h0;simp at h
  |cons e m=>
   rw [List.getLast?_cons_cons] at h;rw [eu,ih h]
theorem wY (l:List Nat):eu (l++[0])=eu l:=by
 induction l with
 |nil=>simp [eu]
 |cons d l ih=>simp only [YJ,eu,ih]
theorem xS {l:List Nat}{d:Nat} (h:d≠0):eu (l++[d])=l++[d]:=J9 (by simpa using h)
def Can (B:Nat) (l:List Nat):Prop:=Dg B l∧l.getLast?≠some 0
theorem Can.cut {l:List Nat} (h:Dg B l):Can B (eu l):=⟨h.cut,yu l⟩
theorem Nq {l:List Nat} (h:l.getLast?≠some 0) (hn:l≠[]):B^(l.length-1)≤bR B l:=by
 have h1:=List.dropLast_concat_getLast hn;have h2:l.getLast hn≠0:=by
  intro h0;apply h;rw [List.getLast?_eq_some_getLast hn,h0]
 rw [←h1,fu];simp only [YK,List.length_dropLast,YZ,abv];have:l.length-1+(0+1)-1=l.length-1:=Yv;rw [this];simp only [bR,Nat.mul_zero,aab];exact Y2 (abQ _ (Nat.pos_of_ne_zero h2)) (Nat.le_add_left _ _)
theorem Can.xm {l m:List Nat} (hl:Can B l) (hm:Can B m) (hB:1<B) (h:bR B l≤bR B m):l.length≤m.length:=by
 rcases Zj m.length l.length with hlt|hge
 ·exfalso;have hn:l≠[]:=by intro h0;simp [h0] at hlt
  have h1:=Nq (B:=B) hl.2 hn;have h2:=jv hm.1;have h3:B^m.length≤B^(l.length-1):=Zf Yv Yv;exact Nat.lt_irrefl _ (ZC h2 (Y2 h3 (Y2 h1 h)))
 ·exact hge
theorem Can.inj {l m:List Nat} (hl:Can B l) (hm:Can B m) (hB:1<B) (h:bR B l=bR B m):l=m:=
 AQ hl.1 hm.1 (Nat.le_antisymm (hl.xm hm hB (Nat.le_of_eq h)) (hm.xm hl hB (Nat.le_of_eq h.symm))) h
theorem eG (hB:0<B) (n:Nat):Can B (a9 B n):=Can.cut (fC hB _ _)
theorem CD (hB:1<B) (n:Nat):n<B^(n.log2+1):=by
 have h1:n<2^(n.log2+1):=Nat.lt_log2_self;exact ZC h1 (Nat.pow_le_pow_left hB _)
theorem eB (hB:1<B) (n:Nat):bR B (a9 B n)=n:=by
 rw [a9,mK,da (CD hB n)]
theorem DA (hB:1<B) {l:List Nat} (h:Can B l):a9 B (bR B l)=l:=
 (eG Yv _).inj h hB (eB hB _)
theorem jg (hB:1<B) {l:List Nat} (h:Dg B l):eu l=a9 B (bR B l):=by
 rw [←mK,DA hB (Can.cut h)]
theorem hU (hB:1<B):a9 B 0=[]:=(eG Yv 0).inj ⟨Dg.nil,by simp⟩ hB (by rw [eB hB];rfl)
theorem xb (hB:1<B):a9 B n=[]↔n=0:=by
 constructor
 ·intro h;have:=eB hB n;rw [h] at this;exact this.symm
 ·intro h;rw [h,hU hB]
theorem jh (hB:1<B) (h:n<B^k):(a9 B n).length≤k:=by
 have h1:eu (ct B k n)=a9 B n:=by rw [jg hB (fC Yv _ _),da h]
 have:=gi (ct B k n);rw [h1,a7] at this;exact this
theorem rA (hB:1<B) (n:Nat):n<B^(a9 B n).length:=by
 have:=jv (eG (B:=B) Yv n).1;rwa [eB hB] at this
theorem pW (hB:1<B) {a:Nat} (h:a≤b):(a9 B a).length≤(a9 B b).length:=
 (eG Yv a).xm (eG Yv b) hB (by rw [eB hB,eB hB];exact h)
theorem CH (hB:1<B) {i:Nat} (h:i<(a9 B n).length):(a9 B n)[i]?=some (n/B^i % B):=by
 have h1:=Z1 h;rw [h1];have h2:=uz (eG (B:=B) Yv n).1 h1;rw [eB hB] at h2;rw [h2]
theorem J2 (hB:1<B) (h:n≠0):a9 B n=n % B::a9 B (n/B):=by
 refine (eG Yv n).inj ⟨Dg.cons (Y8 _ Yv) (eG Yv _).1, ?_⟩ hB ?_
 ·cases hd:a9 B (n/B) with
  |nil=>
   rw [xb hB] at hd;have:n=n % B:=by have:=aah n B;rw [hd] at this;simpa using this.symm
   simp only [List.getLast?_singleton];intro h0;injection h0 with h0;omega
  |cons e m=>
   rw [List.getLast?_cons_cons,←hd];exact (eG Yv _).2
 ·rw [eB hB,bR,eB hB];have:=aah n B;omega
theorem L4 (hB:1<B) (h:n<B^k):ct B k n=a9 B n++List.replicate (k-(a9 B n).length) 0:=by
 have hl:=jh hB h;refine AQ (B:=B) (fC Yv _ _) ((eG Yv _).1.append (Dg.gY Yv _)) ?_ ?_
 ·rw [a7,YK,ZX];omega
 ·rw [da h,fu,eB hB,tf];simp
end
section
variable {B:Nat}
def Bs:List Nat→Nat
 |[]=>0
 |d::_=>d
theorem Mk (ys:List Nat):bR B ys=Bs ys+B*bR B ys.tail:=by cases ys<;>simp [bR,Bs]
theorem Uu {ys:List Nat} (h:Dg B ys) (hB:0<B):Bs ys<B:=by
 cases ys with
 |nil=>exact hB
 |cons d l=>exact h.head
theorem Dg.tl {ys:List Nat} (h:Dg B ys):Dg B ys.tail:=by
 cases ys with
 |nil=>exact h
 |cons d l=>exact h.tail
theorem vV (ys:List Nat) (i:Nat):Bs (ys.drop i)=(ys[i]?).getD 0:=by
 induction ys generalizing i with
 |nil=>simp [Bs]
 |cons d l ih=>cases i with
  |zero=>rfl
  |succ i=>simpa using ih i
theorem tail_drop (ys:List Nat) (i:Nat):(ys.drop i).tail=ys.drop (i+1):=by
 induction ys generalizing i with
 |nil=>simp
 |cons d l ih=>cases i with
  |zero=>rfl
  |succ i=>simp
theorem C1 {B a:Nat} (hB:0<B) (h:a+B*b<B*n):b+a/B<n:=by
 have h1:(a+B*b)/B<n:=by rw [Z2 hB,Za n];exact h
 rw [Z3 _ _ hB] at h1;omega
def iY (B:Nat):List Nat→List Nat→Nat→Nat→List Nat
 |[],_,_,_=>[]
 |x::xs,ys,m,c=>(x+Bs ys*m+c) % B::iY B xs ys.tail m ((x+Bs ys*m+c)/B)
theorem rJ (xs ys:List Nat) (m c:Nat):(iY B xs ys m c).length=xs.length:=by
 induction xs generalizing ys c with
 |nil=>rfl
 |cons x xs ih=>simp [iY,ih]
theorem BB (hB:0<B) (xs ys:List Nat) (m c:Nat):Dg B (iY B xs ys m c):=by
 exact SF
theorem yz (hB:0<B) (xs ys:List Nat) (m c:Nat) (h:bR B xs+bR B ys*m+c<B^xs.length):bR B (iY B xs ys m c)=bR B xs+bR B ys*m+c:=by
 induction xs generalizing ys c with
 |nil=>simp only [abv,aa9,bR] at h;simp only [iY,bR];omega
 |cons x xs ih=>
  have e:bR B (x::xs)+bR B ys*m+c=(x+Bs ys*m+c)+B*(bR B xs+bR B ys.tail*m):=by
   rw [bR,Mk ys,aay,Zt,Zw];omega
  rw [YZ,Zn,Za _ B,e] at h;have h1:=C1 hB h;simp only [iY,bR];rw [ih _ _ h1,←bR,e,Zt];have:=abe (x+Bs ys*m+c) B;omega
def ui (B:Nat):List Nat→List Nat→Nat→List Nat
 |[],_,_=>[]
 |x::xs,ys,b=>(x+B-Bs ys-b) % B::ui B xs ys.tail (if x<Bs ys+b then 1 else 0)
def CT (B:Nat):List Nat→List Nat→Nat→Nat
 |[],_,b=>b
 |x::xs,ys,b=>CT B xs ys.tail (if x<Bs ys+b then 1 else 0)
theorem OM (hB:0<B) (xs ys:List Nat) (c:Nat):Dg B (ui B xs ys c):=by
 exact SF
theorem Mo (hB:0<B) (xs ys:List Nat) (b:Nat) (hx:Dg B xs) (hy:Dg B ys) (hb:b≤1) (h:bR B ys+b≤bR B xs):bR B (ui B xs ys b)+bR B ys+b=bR B xs∧CT B xs ys b=0:=by
 induction xs generalizing ys b with
 |nil=>simp only [bR] at h;simp only [ui,CT,bR];omega
 |cons x xs ih=>
  have hx0:=hx.head;have hy0:=Uu hy hB;have e:=Mk (B:=B) ys;simp only [bR,ui,CT] at h ⊢;by_cases hlt:x<Bs ys+b
  ·rw [YA hlt];have h1:bR B ys.tail+1≤bR B xs:=by
    refine abu fun hle=> ?_;have:=Zc B hle;omega
   obtain ⟨i1,i2⟩:=ih ys.tail 1 hx.tail hy.tl Yv h1;refine ⟨?_,i2⟩;have h2:=Zz (B* ·) i1;simp only [Zt] at h2;rw [Zk Yv];omega
  ·rw [YB hlt];have h1:bR B ys.tail+0≤bR B xs:=by
    refine Nat.le_of_not_lt fun hle=> ?_;have:=Zc B (Nat.succ_le_of_lt hle);simp only [aad,aab] at this;omega
   obtain ⟨i1,i2⟩:=ih ys.tail 0 hx.tail hy.tl Yv h1;refine ⟨?_,i2⟩;have h2:=Zz (B* ·) i1;simp only [Zt,aab] at h2;have h3:x+B-Bs ys-b=(x-Bs ys-b)+B:=Yv;rw [h3,Nat.add_mod_right,Zk Yv];omega
theorem N9 (xs:List Nat) (i d:Nat) (hi:xs[i]?=some o):bR B (xs.set i d)+B^i*o=bR B xs+B^i*d:=by
 induction xs generalizing i with
 |nil=>simp at hi
 |cons x xs ih=>
  cases i with
  |zero=>simp only [abf,aaf] at hi;subst hi;simp only [YM,bR,aa9,aaH];omega
  |succ i=>
   have:=Zz (B* ·) (ih i hi);simp only [Zt,←Zw] at this;simp only [Zg,bR,Zn,Za _ B];omega
theorem FM {l m:List Nat}{x y:Nat} (hl:Dg B l) (hlen:l.length=m.length) (h:x<y):bR B (l++[x])<bR B (m++[y]):=by
 rw [fu,fu,hlen];have h1:=jv hl;rw [hlen] at h1;have h2:B^m.length*(x+1)≤B^m.length*y:=Zc _ h;simp only [bR,Nat.mul_zero,aab,aad] at h2 ⊢;omega
def mg (a b:Nat):Int:=if a<b then -1 else if b<a then 1 else 0
theorem np {a:Nat} (h:a<b):mg a b= -1:=by simp [mg,h]
theorem zV {a:Nat} (h:b<a):mg a b=1:=by simp only [mg];rw [YB Yv,YA h]
theorem GI {a:Nat} (h:a=b):mg a b=0:=by simp only [mg];rw [YB Yv,YB Yv]
theorem yD {xs ys:List Nat}{x y:Nat} (hx:Dg B xs) (hxk:xs[k]?=some x) (hyk:ys[k]?=some y) (hd:xs.drop (k+1)=ys.drop (k+1)) (hlt:x<y):bR B xs<bR B ys:=by
 have lx:=(YQ.1 hxk).1;have ly:=(YQ.1 hyk).1;rw [jU xs (k+1) lx,jU ys (k+1) ly,hd];have e1:xs.take (k+1)=xs.take k++[x]:=by rw [List.take_add_one,hxk];rfl
 have e2:ys.take (k+1)=ys.take k++[y]:=by rw [List.take_add_one,hyk];rfl
 have:=FM (B:=B) (m:=ys.take k) (hx.take k) (by rw [YW,YW];omega) hlt;rw [e1,e2];omega
theorem Bd {xs ys:List Nat}{x y:Nat} (hxk:xs[k]?=some x) (hyk:ys[k]?=some y) (hd:xs.drop (k+1)=ys.drop (k+1)) (h:x=y):xs.drop k=ys.drop k:=by
 obtain ⟨lx,ex⟩:=YQ.1 hxk;obtain ⟨ly,ey⟩:=YQ.1 hyk;rw [ZR lx,ZR ly,hd,ex,ey,h]
end
section
variable {B:Nat}
theorem rU {v:Nat} (hB:0<B) (hj:j<k) (hn:n+B^j*v<B^k) (hv:n/B^j % B+v<B):(ct B k n).set j (n/B^j % B+v)=ct B k (n+B^j*v):=by
 refine AQ (B:=B) ((fC hB _ _).Pa _ hv) (fC hB _ _) (by rw [aaX,a7,a7]) ?_;have h1:=N9 (B:=B) (ct B k n) j (n/B^j % B+v) (jz k n j hj);rw [da Yv] at h1;rw [da hn];rw [Zt] at h1;omega
theorem sQ (k:Nat):ct B k 0=List.replicate k 0:=by
 induction k with
 |zero=>rfl
 |succ k ih=>simp [ct,ih,aax]
def Ei (s:List UInt8):List Nat:=(s.map UInt8.toNat).reverse
def bn (s:List UInt8):Nat:=bR 256 (Ei s)
def sb (n:Nat):List UInt8:=((a9 256 n).map UInt8.ofNat).reverse
theorem qB (s:List UInt8):(Ei s).length=s.length:=by simp [Ei]
theorem Ab (s:List UInt8):Dg 256 (Ei s):=fun d hd=>by
 obtain ⟨c,_,rfl⟩:=YR.1 (aa0.1 hd);exact c.toNat_lt
theorem Ri (s:List UInt8):bn s<256^s.length:=by have:=jv (Ab s);rwa [qB] at this
theorem KA {s:List UInt8}{i:Nat}{c:UInt8} (hi:i<s.length) (h:s[s.length-1-i]?=some c):(Ei s)[i]?=some c.toNat:=by
 unfold Ei;rw [Z4 (by simpa using hi),YO,YN,h];rfl
theorem LG (n:Nat):Ei (sb n)=a9 256 n:=by
 unfold Ei sb;rw [List.map_reverse,aaT,Zy];have:∀l:List Nat,Dg 256 l→l.map (UInt8.toNat ∘ UInt8.ofNat)=l:=by
  intro l
  induction l with
  |nil=>intro _;rfl
  |cons d l ih=>
   intro h;have hd:=h.head;simp only [Y1,ih h.tail,Function.comp];congr 1;simp only [abA];omega
 exact this _ (eG Yv n).1
theorem VD (n:Nat):bn (sb n)=n:=by rw [bn,LG,eB Yv]
theorem JV (n:Nat):(sb n).length=(a9 256 n).length:=by simp [sb]
theorem O2 {s t:List UInt8} (h:Ei s=Ei t):s=t:=by
 have h1:=List.reverse_inj.1 h;exact (List.map_inj_right fun a b h=>abq.1 h).1 h1
theorem Vx {s:List UInt8} (h:Ei s=a9 256 n):s=sb n:=O2 (by rw [h,LG])
theorem O6:sb 0=[]:=by rw [sb,hU Yv];rfl
theorem MV (s:List UInt8):bn (0::s)=bn s:=by
 unfold bn Ei;rw [Y1,aaC,fu];simp [bR]
theorem V8 {s:List UInt8} (h:s.head?≠some 0):sb (bn s)=s:=by
 refine (Vx ?_).symm;rw [bn,DA Yv ⟨Ab s, ?_⟩];unfold Ei;rw [List.getLast?_reverse,List.head?_map]
 cases s with
 |nil=>simp
 |cons c s=>
  simp only [List.head?_cons,Z0];intro h0;injection h0 with h0
  apply h;simp only [List.head?_cons];congr 1;exact abq.1 (by simpa using h0)
end
def bX (n:Nat):Nat:=(a9 2 n).length
theorem mJ:bX 0=0:=by rw [bX,hU Yv];rfl
theorem dD (n:Nat):n<2^bX n:=rA Yv n
theorem eb (h:n<2^k):bX n≤k:=jh Yv h
theorem HB (h:n≠0):2^(bX n-1)≤n:=by
 have h1:=Nq (B:=2) (eG (B:=2) Yv n).2 (fun h0=>h ((xb Yv).1 h0));rwa [eB Yv] at h1
theorem rB (h:n≠0):0<bX n:=by
 rw [bX];have:a9 2 n≠[]:=fun h0=>h ((xb Yv).1 h0);exact List.length_pos_iff.2 this
theorem Hc (h1:n<2^k) (h2:2^(k-1)≤n):bX n=k:=by
 have h3:=eb h1
 rcases Zj (bX n) k with h|h
 ·have h4:=dD n;have h5:2^bX n≤2^(k-1):=Zf Yv Yv;omega
 ·omega
theorem Lx {B:Nat} (hB:B=2^b) {l:List Nat}{d:Nat} (hl:Dg B l) (hlen:l.length=m) (hd:d≠0):bX (bR B (l++[d]))=b*m+bX d:=by
 have hlt:=jv hl;rw [hlen] at hlt;have hp:B^m=2^(b*m):=by rw [hB,←Zm]
 rw [fu,hlen];simp only [bR,Nat.mul_zero,aab];rw [hp] at hlt ⊢;apply Hc
 ·have h1:=dD d;have h2:2^(b*m)*(d+1)≤2^(b*m)*2^bX d:=Zc _ h1;rw [Y4];rw [aad] at h2;omega
 ·have h1:=HB hd;have h2:=rB hd;have e:b*m+bX d-1=b*m+(bX d-1):=Yv;rw [e,Y4];have h3:2^(b*m)*2^(bX d-1)≤2^(b*m)*d:=Zc _ h1;omega
theorem Gb {a s:Nat} (h:a<2^s):a|||(c*2^s)=a+c*2^s:=by
 have h1:=Nat.shiftLeft_add_eq_or_of_lt h c;rw [Nat.shiftLeft_eq] at h1;rw [Nat.or_comm,←h1,aat]
theorem PC {i:Nat} (n:Nat) (hn:n<256^i) (hc:c<256) (hi:i/8<k):
  n/18446744073709551616^(i/8) % 18446744073709551616<2^(i % 8*8)∧c*2^(i % 8*8)<18446744073709551616∧
  (ct 18446744073709551616 k n).set (i/8) (n/18446744073709551616^(i/8) % 18446744073709551616+c*2^(i % 8*8))=ct 18446744073709551616 k (n+256^i*c):=by
 have hW:(18446744073709551616:Nat)=2^64:=by decide
 have h256:(256:Nat)=2^8:=by decide
 have hp:256^i=18446744073709551616^(i/8)*2^(i % 8*8):=by
  rw [hW,h256,←Zm,←Zm,←Y4];congr 1;omega
 have h1:n/18446744073709551616^(i/8)<2^(i % 8*8):=by
  rw [Z2 (Zd Yw),Za,←hp];exact hn
 have hs:2^(i % 8*8)*256≤18446744073709551616:=by
  rw [h256,hW,←Y4];exact Zf Yv Yv
 have h2:n/18446744073709551616^(i/8) % 18446744073709551616<2^(i % 8*8):=ZF (Nat.mod_le _ _) h1;have h3:(c+1)*2^(i % 8*8)≤256*2^(i % 8*8):=ZH _ hc;rw [ZE] at h3;have hpos:0<2^(i % 8*8):=Zd Yv;refine ⟨h2,Yv, ?_⟩;have h4:256^i*c=18446744073709551616^(i/8)*(c*2^(i % 8*8)):=by rw [hp,Zw,Za c]
 rw [h4];refine rU Yw hi ?_ Yv;rw [←h4];have h5:256^i*(c+1)≤256^i*256:=Zc _ hc;have h6:256^i*256≤18446744073709551616^k:=by
  have:256^i*256=2^(8*(i+1)):=by rw [h256,←Zm,←Y4];congr 1
  rw [this,hW,←Zm];exact Zf Yv Yv
 rw [aad] at h5;omega
theorem J4 (n i:Nat):n/18446744073709551616^(i/8) % 18446744073709551616/2^(i % 8*8) % 256=n/256^i % 256:=by
 have hW:(18446744073709551616:Nat)=2^64:=by decide
 have h256:(256:Nat)=2^8:=by decide
 have hp:256^i=18446744073709551616^(i/8)*2^(i % 8*8):=by
  rw [hW,h256,←Zm,←Zm,←Y4];congr 1;omega
 rw [hp,←aae];generalize n/18446744073709551616^(i/8)=m;have e:(18446744073709551616:Nat)=2^(i % 8*8)*2^(64-i % 8*8):=by rw [←Y4,hW];congr 1;omega
 rw [e,Nat.mod_mul_right_div_self];have e2:2^(64-i % 8*8)=256*2^(56-i % 8*8):=by rw [h256,←Y4];congr 1;omega
 rw [e2,Nat.mod_mul_right_mod]
theorem yj (n j s:Nat) (hs:s<64) (h0:0<s):
  (n/18446744073709551616^j % 18446744073709551616/2^s)<2^(64-s)∧
  n/18446744073709551616^j % 18446744073709551616/2^s+n/18446744073709551616^(j+1) % 2^s*2^(64-s)=n/2^(64*j+s) % 18446744073709551616:=by
 have hW:(18446744073709551616:Nat)=2^64:=by decide
 have e:(18446744073709551616:Nat)=2^s*2^(64-s):=by rw [←Y4,hW];congr 1;omega
 have hp:(18446744073709551616:Nat)^(j+1)=18446744073709551616^j*18446744073709551616:=Zn ..;rw [hp,←aae,Y4,Zm,←hW,←aae];generalize n/18446744073709551616^j=m;have e1:m % 18446744073709551616/2^s=m/2^s % 2^(64-s):=by rw [e,Nat.mod_mul_right_div_self]
 rw [e1];refine ⟨Y8 _ (Zd Yv), ?_⟩;have e2:m/18446744073709551616=m/2^s/2^(64-s):=by rw [e,←aae]
 rw [e2];generalize m/2^s=q;have e3:(18446744073709551616:Nat)=2^(64-s)*2^s:=by rw [Za];exact e
 rw [e3,Nat.mod_mul,Za (2^(64-s))]
theorem TV {d s:Nat} (hd:d<18446744073709551616) (hs:s≤64):d*2^s % 18446744073709551616+d/2^(64-s)*18446744073709551616=d*2^s∧d/2^(64-s)<2^s:=by
 have hW:(18446744073709551616:Nat)=2^64:=by decide
 have e:(18446744073709551616:Nat)=2^(64-s)*2^s:=by rw [←Y4,hW];congr 1;omega
 have h1:d*2^s/18446744073709551616=d/2^(64-s):=by rw [e,Nat.mul_div_mul_right _ _ (Zd Yv)]
 rw [←h1];constructor
 ·have:=abe (d*2^s) 18446744073709551616;omega
 ·rw [h1,Z2 (Zd Yv),Za,←e];exact hd
def str (l:List UInt8):ByteArray:=⟨l.toArray⟩
theorem dY (l:List UInt8):(str l).data.toList=l:=by simp [str]
theorem sW {a b:ByteArray} (h:a.data.toList=b.data.toList):a=b:=by
 cases a;cases b;congr 1;exact Array.ext' h
theorem TH (s:ByteArray):str s.data.toList=s:=sW (dY _)
theorem jm (l:List UInt8):(str l).size=l.length:=by simp [str,ByteArray.size]
theorem dP (s:ByteArray):s.size=s.data.toList.length:=(Array.length_toList).symm
theorem wG (a b:List UInt8):str a++str b=str (a++b):=by
 apply sW;simp [str]
def bQ (l:List Int):List Value:=l.map (Value.int .i64)
theorem cD (l:List Int):(bQ l).length=l.length:=by simp [bQ]
theorem DF (a b:List Int):bQ (a++b)=bQ a++bQ b:=by simp [bQ]
theorem cL {l:List Int}{x:Int} (h:l[k]?=some x):(bQ l)[k]?=some (.int .i64 x):=by simp [bQ,h]
theorem Gi (a b:List UInt8):mM (a++b)=mM a++mM b:=by simp [mM]
theorem br (l:List Int):((bQ l).all Value.oneCell')=true:=by simp [bQ,Value.oneCell']
def iw (l:List ByteArray):List Value:=l.map Value.string
theorem nH (l:List ByteArray):(iw l).length=l.length:=by simp [iw]
theorem sw {l:List ByteArray}{x:ByteArray} (h:l[k]?=some x):(iw l)[k]?=some (.string x):=by simp [iw,h]
theorem aC {l:List α}{x:α} (h:l[k]?=some x):l.take (k+1)=l.take k++[x]:=by rw [List.take_add_one,h];rfl
theorem ao {l:List α} (h:k<l.length):∃x,l[k]?=some x:=⟨_,Z1 h⟩
def eK (l:List UInt8):Bool:=l.all fun c=>decide (c.toNat<128)
theorem JZ (l:List UInt8) (c:UInt8):eK (l++[c])=(eK l && decide (c.toNat<128)):=by simp [eK]
theorem Ct {l:List UInt8}{c:UInt8} (h:l[k]?=some c) (hc:¬c.toNat<128):eK l=false:=by
 rw [←Zv (k+1) l,aC h];simp only [eK,List.all_append];simp;omega
theorem oW {l:List UInt8} (h:eK l=true) {c:UInt8} (hc:l[k]?=some c):c.toNat<128:=by
 have:=Y6.1 h c (YF hc);simpa using this
def cJ (x:Int):Bool:=decide (0≤x) && decide (x≤127)
def qf (x:Int):UInt8:=UInt8.ofNat x.toNat
def Kg (xs:List Int):List UInt8:=if xs.all cJ then xs.map qf else []
def N5 (xs:List Int):Int:=if xs.all cJ then 0 else 3
theorem TG {xs:List Int}{x:Int} (hx:xs[k]?=some x) (h:cJ x=false):Kg xs=[]∧N5 xs=3:=by
 have:xs.all cJ=false:=by
  cases hc:xs.all cJ with
  |false=>rfl
  |true=>rw [Y6.1 hc x (YF hx)] at h;cases h
 simp [Kg,N5,this]
theorem pr {xs:List Int} (h:xs.all cJ=true):Kg xs=xs.map qf∧N5 xs=0:=by simp [Kg,N5,h]
theorem BS {p:α→Bool}{l:List α}{x:α} (h:l[k]?=some x) (h1:(l.take k).all p=true) (h2:p x=true):(l.take (k+1)).all p=true:=by
 rw [aC h,List.all_append,h1];simp [h2]
theorem zI {x:Int} (h:0≤x) (h2:x≤255):IntKind.u8.wrap x=x:=by
 have:IntKind.u8.wrap x=x % 256:=rfl;rw [this];omega
theorem oT {x:Int} (h:cJ x=true):Value.int .u8 x=.int .u8 (qf x).toNat:=by
 simp only [cJ,YU,YY] at h;congr 1;simp only [qf,abA];omega
theorem Lw {xs:List Int}{x:Int} (hx:xs[k]?=some x) (h:cJ x=true):mM ((xs.take k).map qf)++[.int .u8 x]=mM ((xs.take (k+1)).map qf):=by
 rw [aC hx,Zq,Gi,oT h];rfl
def ints (l:List UInt8):List Int:=l.map fun c=>(c.toNat:Int)
def jw (l:List UInt8):List Int:=if eK l then ints l else []
def X1 (l:List UInt8):Int:=(jw l).sum
theorem dE (l:List UInt8):(ints l).length=l.length:=by simp [ints]
theorem vZ {l:List UInt8}{c:UInt8} (h:l[k]?=some c):bQ (ints (l.take k))++[.int .i64 c.toNat]=bQ (ints (l.take (k+1))):=by
 rw [aC h];simp [bQ,ints]
def lenOf:Value→Nat|.slice _ n _=>n|_=>0
theorem kJ {l:List UInt8} (h:eK l=true):jw l=ints l:=by simp [jw,h]
theorem Mr {l:List UInt8} (h:eK l=false):jw l=[]:=by simp [jw,h]
theorem AE {l:List UInt8}{c:UInt8} (h:l[k]?=some c):(ints l)[k]?=some (c.toNat:Int):=by simp [ints,h]
theorem HY {l:List UInt8}{x:Int} (h:(jw l)[k]?=some x):0≤x∧x≤127:=by
 unfold jw at h;split at h
 ·rename_i hm;simp only [ints,YN,aao] at h;obtain ⟨c,hc,rfl⟩:=h;have:=oW hm hc;omega
 ·simp at h
def ig (f:Int→Int→Int) (a b:List UInt8):Option (List Int):=
 if eK a && (eK b && decide ((b.length:Int)=a.length)) then some (List.zipWith f (ints a) (ints b)) else none
def mulL (a b:List UInt8):List UInt8×Int:=
 match ig (· + ·) a b with|some l=>(Kg l,N5 l)|none=>([],1)
def XM (a b:List UInt8):List UInt8×Bool:=
 match ig (· - ·) a b with|some l=>(Kg l,decide (N5 l=0))|none=>([],false)
theorem Gl {f:Int→Int→Int}{a b:List Int}{x y:Int} (hx:a[k]?=some x) (hy:b[k]?=some y):(List.zipWith f a b)[k]?=some (f x y):=by
 simp [List.getElem?_zipWith,hx,hy]
def oF (f:Int→Int→Int) (a b:List Int) (k:Nat):List Int:=(List.zipWith f a b).take k++b.drop k
theorem Kx (f:Int→Int→Int) (a b:List Int):oF f a b 0=b:=by simp [oF]
theorem Pc {f:Int→Int→Int}{a b:List Int} (h:a.length=b.length) (hk:k≤b.length):(oF f a b k).length=b.length:=by
 simp [oF,h];omega
theorem Tq {f:Int→Int→Int}{a b:List Int} (h:a.length=b.length) {y:Int} (hy:b[k]?=some y):(oF f a b k)[k]?=some y:=by
 have hk:k<b.length:=(YQ.1 hy).1;unfold oF;rw [ZQ (by simp [h];omega)];simp [h,ZB (Nat.le_of_lt hk),hy]
theorem O7 {f:Int→Int→Int}{a b:List Int} (h:a.length=b.length) {x y:Int} (hx:a[k]?=some x) (hy:b[k]?=some y):
  cM (bQ (oF f a b k)) k [.int .i64 (f x y)]=bQ (oF f a b (k+1)):=by
 have hk:k<b.length:=(YQ.1 hy).1;have hl:((List.zipWith f a b).take k).length=k:=by simp [h];omega
 have e1:(oF f a b k).take k=(List.zipWith f a b).take k:=by
  unfold oF;rw [abP Yv,YG Yv]
 have e2:(oF f a b k).drop (k+1)=b.drop (k+1):=by
  unfold oF;rw [List.drop_append,hl,ZZ Yv,show k+1-k=1 by omega,List.drop_drop];simp
 simp only [cM,bQ,←abj,←aa7,YZ,abv,Y0,e1,e2];unfold oF;rw [aC (Gl hx hy)];simp
theorem K3 {f:Int→Int→Int}{a b:List Int} (h:a.length=b.length):oF f a b b.length=List.zipWith f a b:=by
 unfold oF;rw [YG (by simp [h]),List.drop_length,Y9]
theorem tR {l:List Int} (y:Int) (h:k<l.length):cM (bQ l) (k*1) [.int .i64 y]=bQ (l.set k y):=by
 rw [YX,dp (by rw [cD];exact h)];unfold bQ;rw [aa3]
section
variable {P:Program}{N:Nat}{ops:Array Oper}{Q:Kq}{ρ:Rf}{w:World}{rest:List Oper}{d:Nat}{ty:TypeId}{pos:String}{af:Array Edge}
theorem lX {f:FuncId}{ts:Array TypeId}{v:Value} (hc:(callFunc f vs.toArray).run P w=.ok (.value v) w) (ha:zt ρ args.toList=vs) (hN:d<N) (kk:WL .plain P N ops Q rest (cY ρ d v) w):
  WL .plain P N ops Q (⟨some d,.call ⟨.value (.func f),args,ts⟩,ty,pos,af,none⟩::rest) ρ w:=by
 have hr:(execOp (ev ρ) ⟨some d,.call ⟨.value (.func f),args,ts⟩,ty,pos,af,none⟩).run P w=.ok (.value v) w:=by
  have hx:ev ρ (.func f)=.func (.func f) #[] #[]:=rfl;simp only [execOp,resolve,Deferred.ofValue,hx,invoke,o8 args ha];simpa using hc
 exact aZ rfl rfl hN hr kk
end
theorem kI (x y c:Nat) (hc:c≤1) (w:World):
  (callFunc 225 #[.int .u64 x,.int .u64 y,.int .u64 c]).run Tryz.prog w=
   .ok (.value (.tuple #[.int .u64 (((x+y+c) % 18446744073709551616:Nat):Int),.int .u64 (((x+y+c)/18446744073709551616:Nat):Int)])) w:=by
 rw [run_callFunc_extern Tryz.func225 Yx Yx Yx (e:=add64Entry) Yx,run_add64 x y c Yv Yv Yv Yv];simp only [Result.andThen];congr 5<;>omega
def Nw:Array Value→Sem Value:=fun args=>do
 let (x,y,b) ←Extern.MathBitsCarry.three "Sub64" args
 pure (Extern.MathBitsCarry.pair ((x+Extern.MathBitsCarry.m64-y-b) % Extern.MathBitsCarry.m64) (if x<y+b then 1 else 0))
theorem Gf (x y b:Nat) (hb:b≤1) (w:World):
  (Nw #[.int .u64 x,.int .u64 y,.int .u64 b]).run P w=
   .ok (.tuple #[.int .u64 (((x+18446744073709551616-y-b) % 18446744073709551616:Nat):Int),.int .u64 ((if x<y+b then 1 else 0:Nat):Int)]) w:=by
 have:b=0∨b=1:=Yv
 rcases this with rfl|rfl<;>rfl
theorem zg (x y b:Nat) (hb:b≤1) (w:World):
  (callFunc 226 #[.int .u64 x,.int .u64 y,.int .u64 b]).run Tryz.prog w=
   .ok (.value (.tuple #[.int .u64 (((x+18446744073709551616-y-b) % 18446744073709551616:Nat):Int),.int .u64 ((if x<y+b then 1 else 0:Nat):Int)])) w:=by
 rw [run_callFunc_extern Tryz.func226 Yx Yx Yx (e:=Nw) Yx,Gf x y b hb]
 rfl
theorem tw (x y:Nat) (w:World) (hx:x<18446744073709551616) (hy:y<18446744073709551616):
  Calls Tryz.prog 224 #[.int .u64 (x:Int),.int .u64 (y:Int)] w fun e w'=>e=.returned (.tuple #[.int .u64 ((x*y/18446744073709551616:Nat):Int),.int .u64 ((x*y % 18446744073709551616:Nat):Int)])∧Below w.heap.size w w':=by
 refine ak (N:=51) (l:=[.int .u64 (x:Int),.int .u64 (y:Int)]) Tryz.func224 rfl rfl (by simp) ?_;refine sr (aI (aI (aa (sr (mI ?_)))));refine Lv ?_;refine aI (aa (sr (mI ?_)));refine zf ?_;refine aI (aa (sr (mI ?_)));refine Lv ?_;refine aI (aa (sr (mI ?_)));refine zf ?_;refine aI (aa (sr (mI (mI ?_))));refine s9 rfl rfl Yw ?_;refine aI (aa (sr (mI (mI ?_))));refine s9 rfl rfl Yw ?_;refine mI ?_;refine zf ?_;refine jt rfl rfl Yw ?_;refine aI (aa (sr (mI ?_)));refine Lv ?_;refine aI (aa (sr (mI ?_)));refine zf ?_;refine aI (aa (sr (mI (mI (mI ?_)))));refine s9 rfl rfl Yw ?_;refine jt rfl rfl Yw ?_;refine aI (aa (sr (mI (mI ?_))));refine s9 rfl rfl Yw ?_;refine mI ?_;refine jt rfl rfl Yw ?_;refine mI ?_;refine zf ?_;refine jt rfl rfl Yw ?_;refine aI (aa (sr (mI (mI ?_))));refine s9 rfl rfl Yw ?_;refine aI (aa (ay ?_));refine HI ?_;obtain ⟨bd,bt,bw,hhi⟩:=Lib.mul64_hi x y hx hy;have ba:=Lib.half_mul_le (a:=x/4294967296) (b:=y/4294967296) Yv Yv;have bb:=Lib.half_mul_le (a:=x/4294967296) (b:=y % 4294967296) Yv Yv;have bc:=Lib.half_mul_le (a:=x % 4294967296) (b:=y/4294967296) Yv Yv
 have em:∀z:Nat,z &&& 4294967295=z % 4294967296:=fun z=>Nat.and_two_pow_sub_one_eq_mod z 32;simp only [em];have hb:x*y/18446744073709551616<18446744073709551616:=by
  rw [Z2 Yv];exact Nat.mul_lt_mul'' hx hy
 refine ⟨?_,Below.refl _ _⟩;congr 5;rw [Zk bd,Zk (show x/4294967296*(y % 4294967296)<18446744073709551616 by omega),Zk bt,Zk (show x % 4294967296*(y/4294967296)<18446744073709551616 by omega),Zk bw,Zk (show x/4294967296*(y/4294967296)<18446744073709551616 by omega)];have key:∀A T V:Nat,A+T+V<18446744073709551616→((A+T) % 18446744073709551616+V) % 18446744073709551616=A+T+V:=by intro A T V h;omega
 rw [←hhi] at hb ⊢;exact Zz Nat.cast (key _ _ _ hb)
theorem iQ {x:Nat} (hm:2^k=m) (h:m≤x):bX x=k+bX (x/m):=by
 subst hm;have h0:x/2^k≠0:=by
  have:=(Nat.div_pos_iff (a:=x) (b:=2^k)).2 ⟨Zd Yv,h⟩;omega
 have h1:=dD (x/2^k);have h2:=HB h0;have h3:=rB h0;have h4:=aah x (2^k);have h5:=Y8 x (Zd (n:=k) (show 0<2 by omega));apply Hc
 ·rw [Y4];have:2^k*(x/2^k+1)≤2^k*2^bX (x/2^k):=Zc _ h1;rw [aad] at this;omega
 ·have e:k+bX (x/2^k)-1=k+(bX (x/2^k)-1):=Yv;rw [e,Y4];have:2^k*2^(bX (x/2^k)-1)≤2^k*(x/2^k):=Zc _ h2;omega
theorem lQ {T:ByteArray} (hT:T.data.toList=(List.range 256).map fun n=>UInt8.ofNat (bX n)) (h:n<256):∃c:UInt8,T.data.toList[n]?=some c∧c.toNat=bX n∧bX n≤8:=by
 have hb:bX n≤8:=eb Yv;refine ⟨UInt8.ofNat (bX n), ?_, ?_,hb⟩
 ·rw [hT,YN,Zx h];rfl
 ·rw [abA];omega
theorem BP (x:Nat) (w:World) (hx:x<18446744073709551616):
  Calls Tryz.prog 227 #[.int .u64 (x:Int)] w fun e w'=>e=.returned (.int .i64 (bX x))∧Below w.heap.size w w':=by
 refine ak (N:=25) (l:=[.int .u64 (x:Int)]) Tryz.func227 rfl rfl (by simp) ?_;by_cases h32:4294967296≤x
 ·have:=iQ (x:=x) (k:=32) (m:=4294967296) rfl h32;refine sr (aI (aa (ai (sr (mI ?_)))));refine ej (aa (cT (sr (mI ?_))));refine zf ?_;refine aI (aa (ar (aI (aa (ai (sr (mI ?_)))))));by_cases h16:65536≤(x/4294967296)
  ·have:=iQ (x:=(x/4294967296)) (k:=16) (m:=65536) rfl h16;refine ej (aa (cT (sr (mI ?_))));refine nj (s:=16) (m:=65536) rfl rfl Yw Yw Yw ?_;refine aI (aa (ar (mI ?_)));refine bm (aI (aa (ai (sr (mI ?_)))));by_cases h8:256≤((x/4294967296)/65536)
   ·have:=iQ (x:=((x/4294967296)/65536)) (k:=8) (m:=256) rfl h8;refine ej (aa (cT (sr (mI ?_))));refine Hj ?_;refine aI (aa (ar (mI ?_)));refine bm (aI (aa (sr (mI (mI ?_)))));refine nu ?_;obtain ⟨cc,hcc,hcv,hcb⟩:=lQ (T:=_) Yx (n:=(((x/4294967296)/65536)/256)) Yv;exact Db
   ·refine GM ?_;refine nu ?_;obtain ⟨cc,hcc,hcv,hcb⟩:=lQ (T:=_) Yx (n:=(((x/4294967296)/65536))) Yv;exact Db
  ·refine ej (aa (cF (au (aj (ai (sr (mI ?_)))))));by_cases h8:256≤((x/4294967296))
   ·have:=iQ (x:=((x/4294967296))) (k:=8) (m:=256) rfl h8;refine ej (aa (cT (sr (mI ?_))));refine Hj ?_;refine aI (aa (ar (mI ?_)));refine bm (aI (aa (sr (mI (mI ?_)))));refine nu ?_;obtain ⟨cc,hcc,hcv,hcb⟩:=lQ (T:=_) Yx (n:=(((x/4294967296))/256)) Yv;exact Db
   ·refine GM ?_;refine nu ?_;obtain ⟨cc,hcc,hcv,hcb⟩:=lQ (T:=_) Yx (n:=(((x/4294967296)))) Yv;exact Db
 ·refine sr (aI (aa (ai (sr (mI ?_)))));refine ej (aa (cF (au (aj (ai (sr (mI ?_)))))));by_cases h16:65536≤(x)
  ·have:=iQ (x:=(x)) (k:=16) (m:=65536) rfl h16;refine ej (aa (cT (sr (mI ?_))));refine nj (s:=16) (m:=65536) rfl rfl Yw Yw Yw ?_;refine aI (aa (ar (mI ?_)));refine bm (aI (aa (ai (sr (mI ?_)))));by_cases h8:256≤((x)/65536)
   ·have:=iQ (x:=((x)/65536)) (k:=8) (m:=256) rfl h8;refine ej (aa (cT (sr (mI ?_))));refine Hj ?_;refine aI (aa (ar (mI ?_)));refine bm (aI (aa (sr (mI (mI ?_)))));refine nu ?_;obtain ⟨cc,hcc,hcv,hcb⟩:=lQ (T:=_) Yx (n:=(((x)/65536)/256)) Yv;exact Db
   ·refine GM ?_;refine nu ?_;obtain ⟨cc,hcc,hcv,hcb⟩:=lQ (T:=_) Yx (n:=(((x)/65536))) Yv;exact Db
  ·refine ej (aa (cF (au (aj (ai (sr (mI ?_)))))));by_cases h8:256≤((x))
   ·have:=iQ (x:=((x))) (k:=8) (m:=256) rfl h8;refine ej (aa (cT (sr (mI ?_))));refine Hj ?_;refine aI (aa (ar (mI ?_)));refine bm (aI (aa (sr (mI (mI ?_)))));refine nu ?_;obtain ⟨cc,hcc,hcv,hcb⟩:=lQ (T:=_) Yx (n:=(((x))/256)) Yv;exact Db
   ·refine GM ?_;refine nu ?_;obtain ⟨cc,hcc,hcv,hcb⟩:=lQ (T:=_) Yx (n:=(((x)))) Yv;exact Db
theorem El (x:Nat) (w:World) (hx:x<18446744073709551616):
  Calls Tryz.prog 217 #[.int .u64 (x:Int)] w fun e w'=>e=.returned (.int .i64 (64-(bX x:Int)))∧Below w.heap.size w w':=by
 have hh:=Hp.start w;have hb:bX x≤64:=eb (by simpa using hx);refine ak (N:=6) (l:=[.int .u64 (x:Int)]) Tryz.func217 rfl rfl (by simp) ?_;refine sr (aI (aa (sr (mI ?_))));refine bA hh (BP _ _ hx) rfl ?_;intro w4 hh;refine eP (aI (aa (ay ?_)));refine dh ?_;exact ⟨rfl,hh.below⟩
def tz (n:Nat):Nat:=Int.trailingZeros (n:Int)
theorem Hw (k m:Nat):tz (2^k*(2*m+1))=k:=by
 have h:=Int.trailingZeros_shiftLeft (x:=2*(m:Int)+1) Yv k;rw [Int.trailingZeros_two_mul_add_one,Int.shiftLeft_eq] at h;unfold tz;have e:((2^k*(2*m+1):Nat):Int)=(2*(m:Int)+1)*2^k:=by
  rw [ZU,Int.natCast_pow,Int.mul_comm];rfl
 rw [e];have e2:(((2^k:Nat)):Int)=2^k:=by simp
 rw [←e2] at h ⊢;simpa using h
theorem ur (h:n≠0):∃m,n=2^tz n*(2*m+1):=by
 have:∀b n:Nat,n≤b→n≠0→∃k m,n=2^k*(2*m+1):=by
  intro b
  induction b with
  |zero=>intro n h1 h2;omega
  |succ b ih=>
   intro n h1 h2
   rcases Nat.mod_two_eq_zero_or_one n with h|h
   ·obtain ⟨k,m,hk⟩:=ih (n/2) Yv Yv;exact ⟨k+1,m,by rw [Zn,Za (2^k),Zw,←hk];omega⟩
   ·exact ⟨0,n/2,Yv⟩
 obtain ⟨k,m,hk⟩:=this n n (YE _) h;exact ⟨m,by rw [hk,Hw]⟩
theorem yo (h:n≠0) (hn:n<2^k):tz n<k:=by
 obtain ⟨m,hm⟩:=ur h
 rcases Zj (tz n) k with h1|h1
 ·exact h1
 ·have h2:2^k≤2^tz n:=Zf Yv h1;have h3:2^tz n*1≤2^tz n*(2*m+1):=Zc _ Yv;omega
theorem BG (m m' j:Nat) (h:m+m'+1=2^j):(2*m+1) &&& (2*m'+1)=1:=by
 apply Nat.eq_of_testBit_eq;intro i;rw [Nat.testBit_and]
 cases i with
 |zero=>simp
 |succ i=>
  rw [Nat.testBit_succ,Nat.testBit_succ,Nat.testBit_succ];have e1:(2*m+1)/2=m:=Yv;have e2:(2*m'+1)/2=m':=Yv;have e3:m'=2^j-(m+1):=Yv;rw [e1,e2,e3,Nat.testBit_two_pow_sub_succ Yv]
  cases hi:m.testBit i<;>simp
theorem OS {x:Nat} (hx:x=2^k*(2*m+1)) (hlt:x<18446744073709551616):x &&& (18446744073709551616-x) % 18446744073709551616=2^k:=by
 have hW:(18446744073709551616:Nat)=2^64:=by decide
 have hk:k<64:=by
  have:=yo (n:=x) (k:=64) (by rw [hx];exact Nat.mul_ne_zero (Nat.pos_iff_ne_zero.1 (Zd Yv)) Yv) (by rw [←hW];exact hlt);rwa [hx,Hw] at this
 have hp:(18446744073709551616:Nat)=2^k*(2*2^(63-k)):=by rw [hW,←Nat.pow_succ',←Y4];congr 1;omega
 have hm:m<2^(63-k):=by
  rw [hx,hp] at hlt;have:=Nat.lt_of_mul_lt_mul_left hlt;omega
 have e:(18446744073709551616-x) % 18446744073709551616=2^k*(2*(2^(63-k)-(m+1))+1):=by
  have h1:2*(2^(63-k)-(m+1))+1=2*2^(63-k)-(2*m+1):=Yv;rw [h1,Nat.mul_sub,←hp,←hx,Zk];have:0<2^k*(2*m+1):=Nat.mul_pos (Zd Yv) Yv;omega
 rw [e,hx];have h2:=BG m (2^(63-k)-(m+1)) (63-k) Yv;have h3:=Zz (· <<<k) h2;rw [Nat.shiftLeft_and_distrib] at h3;simp only [Nat.shiftLeft_eq,aaH] at h3;rw [Za (2^k),Za (2^k)];exact h3
def EC:List Nat:=[0,1,56,2,57,49,28,3,61,58,42,50,38,29,17,4,62,47,59,36,45,43,51,22,53,39,33,30,24,18,12,5,63,55,48,27,60,41,37,16,46,35,44,21,52,32,23,11,54,26,40,15,34,20,31,10,25,14,19,9,13,8,7,6]
def e8 (w:World):Prop:=Rd w ⟨0,0,none⟩ (ij EC)
theorem e8.ext (h:e8 w) (hb:Below w.heap.size w w'):e8 w':=Rd.ext h hb
theorem e8.hp {H:List HE} (h:e8 w) (hh:Hp w H w'):e8 w':=Rd.ext h hh.below
theorem TX:∀k:Fin 64,EC[2^k.val*285870213051353865 % 18446744073709551616/288230376151711744]?=some k.val∧2^k.val*285870213051353865 % 18446744073709551616/288230376151711744<64:=by decide+kernel
theorem FA (x:Nat) (w:World) (hx:x<18446744073709551616) (h0:x≠0) (hT:e8 w):
  Calls Tryz.prog 162 #[.int .u64 (x:Int)] w fun e w'=>e=.returned (.int .i64 (tz x))∧Below w.heap.size w w':=by
 have hh:=Hp.start w;obtain ⟨m,hm⟩:=ur h0;have hk:tz x<64:=yo h0 (by simpa using hx);have ha:=OS hm hx;obtain ⟨t1,t2⟩:=TX ⟨tz x,hk⟩;simp only at t1 t2;have hc:=(show Rd w _ _ from hT).xv (qH t1);refine ak (N:=14) (l:=[.int .u64 (x:Int)]) Tryz.func162 rfl rfl (by simp) ?_;refine sr (aI (aa (ai (sr (mI ?_)))));refine di (aa (cF (au (aj (sr (mI (mI ?_)))))));refine Ky rfl (by first|assumption|omega) Yw ?_;refine Fm rfl rfl hx (Y8 _ Yw) Yw ?_;rw [ha];skip;refine s9 (b:=285870213051353865) rfl rfl Yw ?_;refine nj (s:=58) (m:=288230376151711744) rfl rfl Yw Yw Yw ?_;refine Fa bo.out aU.size rfl rfl rfl Yv Yw ?_;refine cv aU.out rfl (hc) Yw ?_;refine vP ?_;exact xA
end Go.Proofs.YtolamocnngihpaaGreatDoor
