/- Lemmas for bernParts, part 3. -/
import Derived.Deep.AppendSrc
import Derived.Deep.Upon
import Init
import Derived.Laws.Externs
import Derived.Lib.Mul64
import Derived.Test.YtolamocnngihpaaGreatDoorZ2
namespace Go.Proofs.YtolamocnngihpaaGreatDoor
variable {K:Value→World→Prop}{M rs:List Nat}{N b base by' c c' dj fuel j k m n:Nat}{P:Program}{R:Ending→World→Prop}{W W' w w' w0 w1:World}{ad:Addr}{ag:Bool}{cs news xs zc:List Value}{next:Rf→World→Prop}{o:Oper}{ops:Array Oper}{parts:Array (Nat×Operand)}{pos:String}{ps:List (Nat×Value)}{α:Type}{ρ:Rf}
open Go.RowKit
section
variable {D:List Deferred}
section
variable {P:Program}{N:Nat}{Q:Kq}{ρ:Rf}{w:World}
def Qo (ops:Array Oper):Nat→Nat→Nat→Bool
 |0,_,_=>false
 |n+1,k,i=>match ops[k]? with
  |none=>false
  |some o=>(o.after.any fun e=>Region.binds .any e && e.on==i)||o.after.any fun e=>Region.binds .any e && Qo ops n e.on i
def pd (ops:Array Oper) (L:Array Bool):Prop:=∀k o,ops[k]?=some o→L.getD k false=true→∀e∈o.after,Region.binds .any e=true→L.getD e.on false=true
theorem mM {ops:Array Oper}{L:Array Bool} (hc:pd ops L):∀(n k i:Nat),(∀o,ops[k]?=some o→∀e∈o.after,Region.binds .any e=true→L.getD e.on false=true)→Qo ops n k i=true→L.getD i false=true
 |0,_,_,_,h=>by simp [Qo] at h
 |n+1,k,i,hk,h=>by
  unfold Qo at h;split at h
  ·cases h
  ·rename_i o ho;rw [X4] at h
   rcases h with h|h
   ·obtain ⟨e,he,h⟩:=Array.any_eq_true'.1 h;simp only [Wm,Xy] at h;rw [←h.2];exact hk o ho e he h.1
   ·obtain ⟨e,he,h⟩:=Array.any_eq_true'.1 h;simp only [Wm] at h;have h1:=hk o ho e he h.1;exact mM hc n e.on i (fun o' ho'=>hc e.on o' ho' h1) h.2
structure OG (P:Program) (ops:Array Oper) (o:Oper) (ρ:Rf) (w:World) (K:Value→World→Prop):Prop where
 out:∀(a:Act) (next:Act→World→Prop) (Q:Exit→Act→World→Prop),(∀i,a.tmps.getD i undef=ρ i)→(∀v w',K v w'→next (a.put o.dst v) w')→
  if Region.wanted o (yielded ops a.tmps) then o.wp P a w next Q∨(o.asks P a w∧LetsOut Q) else next (a.put o.dst undef) w
theorem Ge {a:Act} (h:∀i,a.tmps.getD i undef=ρ i):a.eval=ev ρ:=by
 funext x
 cases x with
 |tmp t=>exact h t
 |_=>rfl
theorem dv {v:Value} (hg:o.guard=none) (hr:(execOp (ev ρ) o).run P w=.ok (.value v) w') (hk:K v w'):OG P ops o ρ w K:=
 ⟨fun a next Q ha hn=>by
  rw [V5 (by simp [Region.wanted,hg])];refine .inl ?_;unfold Oper.wp;rw [Ge ha,hr];exact hn _ _ hk⟩
theorem bf {f:FuncId}{args:Array Value} (hg:o.guard=none) (hr:(execOp (ev ρ) o).run P w=.ok (.enter f args) w1) (hc:Calls P f args w1 R)
  (hk:∀e w',R e w'→∃v,e=.returned v∧K v w'):OG P ops o ρ w K:=
 ⟨fun a next Q ha hn=>by
  rw [V5 (by simp [Region.wanted,hg])];refine .inl ?_;unfold Oper.wp;rw [Ge ha,hr];show Calls P f args w1 _;refine hc.mono fun e w' hR=> ?_;obtain ⟨v,rfl,hkv⟩:=hk e w' hR;exact hn _ _ hkv⟩
theorem bo {d:Option Nat}{op:Op}{ty:TypeId}{af:Array Edge}{b:Bool}
  (hj:(ops[j]?).bind (·.dst)=some dj) (hv:ρ dj=.bool b) (h:OG P ops ⟨d,op,ty,pos,af,none⟩ ρ w K):OG P ops ⟨d,op,ty,pos,af,some (j,b)⟩ ρ w K:=
 ⟨fun a next Q ha hn=>by
  have h1:Region.wanted ⟨d,op,ty,pos,af,some (j,b)⟩ (yielded ops a.tmps)=true:=by
   have h2:=ha dj;rw [hv,Xo] at h2
   cases h3:a.tmps[dj]? with
   |none=>rw [h3] at h2;cases h2
   |some x=>
    rw [h3] at h2;simp only [Xj] at h2;subst h2;simp [Region.wanted,yielded,hj,h3]
  have h2:=h.out a next Q ha hn;rw [V5 (by simp [Region.wanted])] at h2;rw [V5 h1];exact h2⟩
theorem vx {d:Option Nat}{op:Op}{ty:TypeId}{af:Array Edge}{b c:Bool}
  (hj:(ops[j]?).bind (·.dst)=some dj) (hv:ρ dj=.bool c) (hb:c≠b) (h:K undef w):OG P ops ⟨d,op,ty,pos,af,some (j,b)⟩ ρ w K:=
 ⟨fun a next Q ha hn=>by
  have h1:Region.wanted ⟨d,op,ty,pos,af,some (j,b)⟩ (yielded ops a.tmps)=false:=by
   have h2:=ha dj;rw [hv,Xo] at h2
   cases h3:a.tmps[dj]? with
   |none=>rw [h3] at h2;cases h2
   |some x=>
    rw [h3] at h2;simp only [Xj] at h2;subst h2;simp [Region.wanted,yielded,hj,h3,hb]
  rw [h1];exact hn _ _ h⟩
def cZ (V:Nat→Value→World→Prop) (ρ ρ1:Rf) (w1:World):List (Nat×Option Nat)→Prop
 |[]=>True
 |(t,some j)::r=>V j (ρ1 t) w1∧cZ V ρ ρ1 w1 r
 |(t,none)::r=>ρ1 t=ρ t∧cZ V ρ ρ1 w1 r
def DO (P:Program) (ops:Array Oper) (J:World→Prop) (V:Nat→Value→World→Prop) (ρ:Rf):Nat→List Oper→List (List (Nat×Option Nat))→Prop
 |i,o::os,s::ss=>((∀v w w',V i v w→Below w.heap.size w w'→V i v w')∧∀ρ1 w1,J w1→cZ V ρ ρ1 w1 s→OG P ops o ρ1 w1 fun v w2=>Below w1.heap.size w1 w2∧V i v w2)∧DO P ops J V ρ (i+1) os ss
 |_,[],[]=>True
 |_,_,_=>False
theorem Ev {ops:Array Oper}{J:World→Prop}{V:Nat→Value→World→Prop}:∀(l:List Oper) (ss:List (List (Nat×Option Nat))) (i:Nat),DO P ops J V ρ i l ss→l.length=ss.length∧∀k o,l[k]?=some o→∃s,ss[k]?=some s∧
  (∀v w w',V (i+k) v w→Below w.heap.size w w'→V (i+k) v w')∧∀ρ1 w1,J w1→cZ V ρ ρ1 w1 s→OG P ops o ρ1 w1 fun v w2=>Below w1.heap.size w1 w2∧V (i+k) v w2
 |[],[],_,_=>⟨rfl,fun k o h=>by simp at h⟩
 |[],_::_,_,h=>h.elim
 |_::_,[],_,h=>h.elim
 |o::l,s::ss,i,h=>by
  obtain ⟨h1,h2⟩:=Ev l ss (i+1) h.2;refine ⟨by simp [h1],fun k o' hk=> ?_⟩
  cases k with
  |zero=>
   simp only [YI,XN] at hk;subst hk;exact ⟨s,rfl,h.1⟩
  |succ k=>
   obtain ⟨s',hs,h3⟩:=h2 k o' (by simpa using hk);refine ⟨s',by simpa using hs, ?_⟩;have e:i+1+k=i+(k+1):=VZ;rw [e] at h3;exact h3
def kZ (ρ:Rf) (f:Nat→Value):List (Nat×Nat)→Rf
 |[]=>ρ
 |(i,d)::r=>cH (kZ ρ f r) d (f i)
def vw (V:Nat→Value→World→Prop) (f:Nat→Value) (w:World):List (Nat×Nat)→Prop
 |[]=>True
 |(i,_)::r=>V i (f i) w∧vw V f w r
def iY (n k:Nat):Array Bool:=(List.replicate k true++List.replicate (n-k) false).toArray
def Df (l:List Oper) (m N:Nat) (src:List (List (Nat×Option Nat))) (ds:List (Nat×Nat)):Bool:=
 let ops:=l.toArray
 let pre:=(List.range m).map fun i=>((ops[i]?).bind (·.dst))
 (m≤l.length) && (src.length==m) &&
 (ds==(pre.zipIdx.filterMap fun (d,i)=>d.map fun d=>(i,d)).reverse) && (decide (ds.map (·.2)).Nodup) && (ds.all fun p=>p.2<N) &&
 ((List.range m).all fun i=>match ops[i]?,src[i]? with
  |some o,some s=>((o.looksAt ops).all fun t=>s.any fun p=>p.1==t) &&
    s.all fun p=>match p.2 with
     |some j=>(j<m) && ((ops[j]?).bind (·.dst)==some p.1) && Qo ops 16 i j
     |none=>(List.range m).all fun j=> !((ops[j]?).bind (·.dst)==some p.1)||(j !=i && Qo ops 16 j i)
  |_,_=>false) &&
 (l.length==m||((List.range m).all fun i=>Qo ops 16 m i)) &&
 ((List.range (l.length-m)).all fun k=>Region.ready .any ops (iY l.length (m+k))==[m+k]) && (Region.ready .any ops (iY l.length l.length)==[]) &&
 ((List.range (l.length-m)).all fun k=>k==0||Qo ops 16 (m+k) m) &&
 ((List.range l.length).all fun i=>match ops[i]? with|some o=>o.after.all fun e=> !Region.binds .any e||e.on<i|none=>false)
theorem Hn (n k i:Nat):(iY n k).getD i false=decide (i<k):=by
 unfold iY;rw [Xo,Ys]
 rcases WW i k with h|h
 ·rw [Yh (by simpa using h)];simp [h]
 ·rw [Xt (by simpa using h),Zv];have:¬i<k:=VZ;split<;>simp [this]
theorem Il (n k:Nat) (hk:k<n):(iY n k).setIfInBounds k true=iY n (k+1):=by
 unfold iY;rw [List.setIfInBounds_toArray];congr 1;apply XK;intro i;rw [XB];simp only [List.getElem?_append,XD,Zv,We];by_cases h1:k=i
 ·subst h1;rw [V5 rfl,V5 VZ,V5 (show k<k+1 by omega),V5 (show k<k+1 by omega)]
 ·rw [V6 h1];by_cases h2:i<k
  ·rw [V5 h2,V5 h2,V5 (show i<k+1 by omega),V5 (show i<k+1 by omega)]
  ·rw [V6 h2,V6 (show ¬i<k+1 by omega)];by_cases h3:i-k<n-k
   ·rw [V5 h3,V5 (show i-(k+1)<n-(k+1) by omega)]
   ·rw [V6 h3,V6 (show ¬i-(k+1)<n-(k+1) by omega)]
theorem GZ (n k:Nat) (hk:k≤n):(iY n k).size=n:=by simp [iY];omega
theorem Ck (n k:Nat):(iY n k).toList.countP (fun b=>b)=k:=by
 simp [iY,List.countP_replicate]
theorem sO {L:Array Bool} (hs:L.size=n) (hk:k≤n) (h1:∀i,i<k→L.getD i false=true) (h2:∀i,k≤i→L.getD i false=false):L=iY n k:=by
 apply Array.ext
 ·rw [hs,GZ n k hk]
 ·intro i hi hi2;have e1:L[i]=L.getD i false:=by simp [hi]
  have e2:(iY n k)[i]=(iY n k).getD i false:=by simp [hi2]
  rw [e1,e2,Hn n k i]
  rcases WW i k with h|h
  ·rw [h1 i h];simp [h]
  ·rw [h2 i h];have:¬i<k:=VZ;simp [this]
theorem mr {l:List Oper}{Q':Exit→Act→World→Prop} (m:Nat)
  (hr:∀k,m≤k→k<l.length→Region.ready .any l.toArray (iY l.length k)=[k]) (hend:Region.ready .any l.toArray (iY l.length l.length)=[]):
  ∀(fuel k:Nat) (a:Act) (w:World),m≤k→k≤l.length→l.length≤fuel+k→wpList P l.toArray Q' (l.drop k) a w→wpAny P .any l.toArray Q' fuel (iY l.length k) a w
 |fuel,k,a,w,hmk,hk,hf,h=>by
  rcases WW k l.length with hlt|hge
  ·cases fuel with
   |zero=>omega
   |succ fuel=>
    refine wpAny_all (hr k hmk hlt) (by simp) fun i hi=> ?_;obtain rfl:i=k:=by simpa using hi
    rw [Xv hlt] at h;unfold wpList at h;have ho:l.toArray[i]?=some l[i]:=by simp [hlt]
    have hset:=Il l.length i hlt;have hgo:∀a w,wpList P l.toArray Q' (l.drop (i+1)) a w→wpAny P .any l.toArray Q' fuel ((iY l.length i).setIfInBounds i true) a w:=fun a w h=>by
     rw [hset];exact mr m hr hend fuel (i+1) a w VZ VZ VZ h
    unfold wpOp;rw [ho];simp only [];split at h
    ·rename_i hw;rw [V5 hw];exact h.imp (Oper.wp_mono hgo) id
    ·rename_i hw;rw [V6 hw];exact hgo _ _ h
  ·obtain rfl:k=l.length:=VZ;rw [List.drop_length] at h;exact wpAny_done hend h fuel
structure DI (D:List Deferred) (N:Nat) (ops:Array Oper) (m:Nat) (ρ:Rf) (J:World→Prop) (V:Nat→Value→World→Prop) (L:Array Bool) (a:Act) (w:World):Prop where
 nd:a.defers=D
 sz:a.tmps.size=N
 j:J w
 ls:L.size=ops.size
 cl:pd ops L
 tl:∀k,m≤k→L.getD k false=false
 vs:∀i d,i<m→L.getD i false=true→(ops[i]?).bind (·.dst)=some d→V i (a.tmps.getD d undef) w
 H8:∀s,(∀i,i<m→L.getD i false=true→(ops[i]?).bind (·.dst)≠some s)→a.tmps.getD s undef=ρ s
theorem cJ {L:Array Bool}{i:Nat} (hi:i<L.size):(L.setIfInBounds i true).getD j false=(decide (j=i)||L.getD j false):=by
 rw [Xo,Array.getElem?_setIfInBounds];by_cases h:i=j
 ·subst h;simp [hi]
 ·have:¬j=i:=fun e=>h e.symm;simp [h,this]
theorem dr {a:Act}{d s:Nat}{v:Value} (hd:d<a.tmps.size):(a.put (some d) v).tmps.getD s undef=if s=d then v else a.tmps.getD s undef:=by
 by_cases h:s=d
 ·subst h;simp [Act.put,hd]
 ·have:d≠s:=fun e=>h e.symm;simp [Act.put,Array.getElem?_setIfInBounds_ne this,h]
theorem lR (f:Nat→Value):∀(ds:List (Nat×Nat)) (s:Nat),(ds.map (·.2)).Nodup→(∀i,(i,s)∈ds→kZ ρ f ds s=f i)∧((∀i,(i,s)∉ds)→kZ ρ f ds s=ρ s)
 |[],s,_=>⟨fun i h=>by simp at h,fun _=>rfl⟩
 |(j,d)::r,s,h=>by
  rw [Wv,XR] at h;obtain ⟨h1,h2⟩:=lR f r s h.2;constructor
  ·intro i hi
   rcases Wp.1 hi with hi'|hi'
   ·injection hi' with e1 e2
    subst e1;subst e2;exact iu _ _ _
   ·have hne:s≠d:=fun e=>h.1 (e ▸ Wo.2 ⟨_,hi',rfl⟩);exact (bu _ hne _).trans (h1 i hi')
  ·intro hn;have hne:s≠d:=by
    rintro rfl;exact hn j Wj
   exact (bu _ hne _).trans (h2 fun i hi=>hn i (Wl _ hi))
theorem qp {V:Nat→Value→World→Prop}{f:Nat→Value}{w:World}:∀(ds:List (Nat×Nat)),(∀p∈ds,V p.1 (f p.1) w)→vw V f w ds
 |[],_=>trivial
 |(i,d)::r,h=>⟨h (i,d) Wj,qp r fun p hp=>h p (Wl _ hp)⟩
theorem nS {V:Nat→Value→World→Prop}{ρ1:Rf}{w1:World}:∀(s:List (Nat×Option Nat)),(∀p∈s,match p.2 with|some j=>V j (ρ1 p.1) w1|none=>ρ1 p.1=ρ p.1)→cZ V ρ ρ1 w1 s
 |[],_=>trivial
 |(t,some j)::r,h=>⟨h (t,some j) Wj,nS r fun p hp=>h p (Wl _ hp)⟩
 |(t,none)::r,h=>⟨h (t,none) Wj,nS r fun p hp=>h p (Wl _ hp)⟩
theorem LR {id:Nat}{l:List Oper} (m:Nat) (src:List (List (Nat×Option Nat))) (ds:List (Nat×Nat)) (J:World→Prop) (V:Nat→Value→World→Prop) (hm:P.follows .mixedOrders=true) (hok:Df l m N src ds=true)
  (hJ:∀w w',J w→Below w.heap.size w w'→J w') (h0:J w) (hops:DO P l.toArray J V ρ 0 (l.take m) src)
  (tail:∀f w',J w'→vw V f w' ds→WL ⟨none,D,false⟩ P N l.toArray Q (l.drop m) (kZ ρ f ds) w'):WC ⟨none,D,false⟩ P N (.region id l.toArray true) Q ρ w:=by
 refine WC.mY fun a hf=>wp_region_any hm ?_;simp only [Df,Wm,Wt,Xy,Wq,Xn] at hok;obtain ⟨⟨⟨⟨⟨⟨⟨⟨⟨⟨hml,_⟩,hds⟩,hnd⟩,hdN⟩,hrd⟩,htail⟩,hready⟩,hend⟩,hdep⟩,hedge⟩:=hok;have hdo:=(Ev _ _ _ hops).2;have hpre:∀i d,i<m→((l.toArray[i]?).bind (·.dst))=some d→(i,d)∈ds:=fun i d hi hd=>by
  exact Mu
 have hdsm:∀i d,(i,d)∈ds→i<m∧((l.toArray[i]?).bind (·.dst))=some d:=fun i d hp=>by
  exact NG
 have hone:∀i j d,i<m→j<m→((l.toArray[i]?).bind (·.dst))=some d→((l.toArray[j]?).bind (·.dst))=some d→i=j:=fun i j d hi hj h1 h2=>by
  exact NV
 have hnn:l.toArray.size=l.length:=by simp
 have full:∀(L:Array Bool) (a:Act) (w:World) (fuel:Nat),DI D N l.toArray m ρ J V L a w→(∀i,i<m→L.getD i false=true)→l.length≤fuel+m→wpAny P .any l.toArray (dw N D Q) fuel L a w:=by
  intro L a w fuel hI hall hfu;have hL:L=iY l.length m:=sO (by rw [hI.ls,hnn]) hml hall hI.tl;rw [hL];refine mr m (fun k h1 h2=> ?_) hend fuel m a w (V9 _) hml hfu ?_
  ·exact Ls
  ·have hfits:eA N D a (kZ ρ (fun i=>match (l.toArray[i]?).bind (·.dst) with|some d=>a.tmps.getD d undef|none=>undef) ds):=by
    exact Ru
   refine (tail _ w hI.j (qp ds fun p hp=> ?_)).out a hfits;obtain ⟨h1,h2⟩:=hdsm p.1 p.2 hp;have:=hI.vs p.1 p.2 h1 (hall _ h1) h2;rw [h2];exact this
 have key:∀(fuel:Nat) (L:Array Bool) (a:Act) (w:World),DI D N l.toArray m ρ J V L a w→fuel+L.toList.countP (fun b=>b)=l.length→wpAny P .any l.toArray (dw N D Q) fuel L a w:=by
  intro fuel
  induction fuel with
  |zero=>
   exact R1
  |succ fuel ih=>
   intro L a w hI hc;by_cases hall:∀i,i<m→L.getD i false=true
   ·exact R5
   ·have hsome:∃i,i<m∧L.getD i false=false:=by
     exact Rz
    have hready_spec:∀i,i∈Region.ready .any l.toArray L↔i<l.length∧L.getD i true=false∧∃o,l.toArray[i]?=some o∧∀e∈o.after,Region.binds .any e=true→L.getD e.on false=true:=fun i=>by
     exact Nk
    refine ⟨fun hnil=> ?_,fun i hi=> ?_⟩
    ·exfalso;have hmin:∀k,(∃i,i<k∧i<m∧L.getD i false=false)→∃i,i<m∧L.getD i false=false∧∀j,j<i→L.getD j false=true:=by
      intro k
      induction k with
      |zero=>rintro ⟨i,h,_⟩;omega
      |succ k ihk=>
       rintro ⟨i,h1,h2,h3⟩;by_cases hex:∃i,i<k∧i<m∧L.getD i false=false
       ·exact ihk hex
       ·exact S6
     obtain ⟨i0,h1,h2⟩:=hsome;obtain ⟨i,hi,hu,hlow⟩:=hmin (i0+1) ⟨i0,VZ,h1,h2⟩;exact Ty
    ·obtain ⟨hil,hun,o,ho,hed⟩:=(hready_spec i).1 hi;have hiL:i<L.size:=by rw [hI.ls,hnn];exact hil
     have hun':L.getD i false=false:=by
      exact Sq
     have hed':∀o',l.toArray[i]?=some o'→∀e∈o'.after,Region.binds .any e=true→L.getD e.on false=true:=fun o' ho'=>by
      exact Jw
     have him:i<m:=by
      rcases WW i m with h|h
      ·exact h
      ·exfalso
       rcases WW m i with h2|h2
       ·have h3:=hdep (i-m) VZ;rw [show m+(i-m)=i by omega] at h3;have h4:(i-m==0)=false:=by simp;omega
        rw [h4,W4] at h3;have:=mM hI.cl 16 i m hed' h3;rw [hI.tl m (V9 _)] at this
        cases this
       ·obtain rfl:i=m:=VZ;have h4:(l.length==i)=false:=by simp;omega
        rw [h4,W4] at htail;have h5:=Wq.1 htail;obtain ⟨j,hj,hju⟩:=hsome;have:=mM hI.cl 16 i j hed' (h5 j (by simpa using hj));rw [hju] at this
        cases this
     have hok':(l.take m)[i]?=some o:=by
      rw [XF,V5 him];simpa using ho
     obtain ⟨s,hs,hstab,hog⟩:=hdo i o hok';rw [Ws] at hstab hog;have hrdi:=hrd i him;rw [ho,hs] at hrdi;simp only [Wm,Wq] at hrdi;have hro:cZ V ρ (fun t=>a.tmps.getD t undef) w s:=nS s fun p hp=>by
      have hp2:=hrdi.2 p hp
      cases hp3:p.2 with
      |some j=>
       rw [hp3] at hp2;simp only [Wm,Wt,Xy] at hp2;exact hI.vs j p.1 hp2.1.1 (mM hI.cl 16 i j hed' hp2.2) hp2.1.2
      |none=>
       rw [hp3] at hp2;refine hI.H8 p.1 fun j hj hjl hjd=> ?_;have h6:=Wq.1 hp2 j (by simpa using hj);rw [hjd] at h6;simp only [beq_self_eq_true,Y1,W4,Wm] at h6;have:=mM hI.cl 16 j i (fun o' ho' e he hb=>hI.cl j o' ho' hjl e he hb) h6.2;rw [hun'] at this
       cases this
     have hgo:=(hog _ w hI.j hro).out a (wpAny P .any l.toArray (dw N D Q) fuel (L.setIfInBounds i true)) (dw N D Q) (fun _=>rfl) (fun v w2 hv=>by
      refine ih _ _ _ ?_ ?_
      ·refine ⟨?_, ?_,hJ _ _ hI.j hv.1,by simpa using hI.ls, ?_, ?_, ?_, ?_⟩
       ·cases o.dst<;>exact hI.nd
       ·cases hod:o.dst with
        |none=>exact hI.sz
        |some d=>simpa [Act.put] using hI.sz
       ·intro k ok hk hkl e he hb;rw [cJ hiL] at hkl ⊢;by_cases hki:k=i
        ·subst hki;simp [hed' ok hk e he hb]
        ·simp only [hki,decide_false,W4] at hkl;simp [hI.cl k ok hk hkl e he hb]
       ·intro k hk;rw [cJ hiL,hI.tl k hk];have:¬k=i:=VZ;simp [this]
       ·intro j d hj hjl hjd;rw [cJ hiL] at hjl;have hd1:∀d',o.dst=some d'→d'<a.tmps.size:=fun d' hd'=>by
         rw [hI.sz];exact hdN (i,d') (hpre i d' him (by rw [ho];exact hd'))
        by_cases hji:j=i
        ·subst hji;rw [ho] at hjd;simp only [X2] at hjd;rw [hjd,dr (hd1 d hjd),V5 rfl];exact hv.2
        ·simp only [hji,decide_false,W4] at hjl;have hold:=hI.vs j d hj hjl hjd;have hdj:(j,d)∈ds:=hpre j d hj hjd;have hst:=(hdo j (l.toArray[j]?.getD default) (by
          have:j<l.length:=VZ;rw [XF,V5 hj];simp [this])).choose_spec.2.1
         rw [Ws] at hst;have hne:∀d',o.dst=some d'→d≠d':=fun d' hd' e=>by
          subst e;exact hji (hone j i d hj him hjd (by rw [ho];exact hd'))
         cases hod:o.dst with
         |none=>exact hst _ _ _ hold hv.1
         |some d'=>
          rw [dr (hd1 d' hod),V6 (hne d' hod)];exact hst _ _ _ hold hv.1
       ·intro s' hs';have hni:((l.toArray[i]?).bind (·.dst))≠some s':=hs' i him (by rw [cJ hiL];simp);have hold:=hI.H8 s' fun j hj hjl=>hs' j hj (by rw [cJ hiL];simp [hjl]);rw [ho] at hni;simp only [X2] at hni
        cases hod:o.dst with
        |none=>exact hold
        |some d'=>
         rw [dr (by rw [hI.sz];exact hdN (i,d') (hpre i d' him (by rw [ho];exact hod))),V6 (fun e=>hni (by rw [hod,e]))];exact hold
      ·have hLi:L.toList[i]?=some false:=by
        have h3:i<L.toList.length:=by simpa using hiL
        rw [Xz h3];have:L.getD i false=L.toList[i]:=by simp [hiL]
        rw [←this,hun']
       rw [ZF,List.countP_set (by simpa using hiL)];have h4:L.toList[i]'(by simpa using hiL)=false:=(Wk.1 hLi).2;rw [h4];simp only [Y5,if_false,if_true];omega)
     unfold wpOp;rw [ho];exact hgo
 have hJ0:J ({ w with drawn:=w.drawn+1 }:World):=hJ w _ h0 ⟨rfl,rfl,rfl,V9 _,fun _ _=>rfl⟩;have hr0:∀i,(Array.replicate l.toArray.size false).getD i false=false:=fun i=>by
  rw [Xo,Array.getElem?_replicate];split<;>rfl
 refine key _ _ _ _ ⟨hf.nd,hf.sz,hJ0,by simp,fun k o _ hk=> ?_,fun k _=>hr0 k,fun i d _ hi=> ?_,fun s _=>hf.at_ s⟩ ?_
 ·rw [hr0] at hk;cases hk
 ·rw [hr0] at hi;cases hi
 ·simp [List.countP_replicate]
def Is (c:Value):Value→World→Prop:=fun v _=>v=c
theorem Is.ext {c:Value} (v:Value) (w w':World) (h:Is c v w) (_:Below w.heap.size w w'):Is c v w':=h
structure JJ (w0:World) (H:List HE) (w W:World):Prop where
 hp:Hp w0 H W
 bl:Below w.heap.size w W
theorem JJ.ext {H:List HE} (h:JJ w0 H w W) (hb:Below W.heap.size W W'):JJ w0 H w W':=⟨h.hp.ext hb,h.bl.trans (hb.mono h.bl.size)⟩
theorem JJ.start {H:List HE} (h:Hp w0 H w):JJ w0 H w w:=⟨h,Below.refl _ _⟩
def SO (n k:Nat) (cs:List Value):Value→World→Prop:=fun v W=>∃b,v=.slice (some ⟨b,0,none⟩) n n∧Sl W (some ⟨b,0,none⟩) n k cs
def cu (w:World) (t:TypeId) (cs:List Value):Value→World→Prop:=fun v W=>∃b,v=.pointer (some ⟨b,0,none⟩)∧w.heap.size≤b∧W.heap[b]?=some (.cells cs.toArray t (0,0))
theorem cu.ext {t:TypeId} (v:Value) (w1 w2:World) (h:cu w t cs v w1) (hb:Below w1.heap.size w1 w2):cu w t cs v w2:=by
 obtain ⟨b,h1,h2,h3⟩:=h;have hlt:b<w1.heap.size:=by
  rcases WW b w1.heap.size with hlt|hge
  ·exact hlt
  ·rw [YO hge] at h3;cases h3
 exact ⟨b,h1,h2,(hb.block b hlt).trans h3⟩
theorem je {d:Option Nat}{ty:TypeId}{af:Array Edge}{t e:TypeId}{len sz:Nat} (ht:P.underlying t=some (.slice e)) (hte:cQ P e=some (sz,ag,by',zc))
  (hp:wB ρ parts.toList=ps) (hzl:zc.length=sz) (hf:kI (fun i=>some (i*sz,sz)) (eI len zc) ps=some cs) (h0:¬len*sz=0) (hsl:len*sz≤16777216) (hl:cs.length=len*sz)
  (hk:∀v w2,SO len sz cs v w2→Below w.heap.size w w2→K v w2):OG P ops ⟨d,.buildSlice t len parts,ty,pos,af,none⟩ ρ w K:=by
 obtain ⟨z,hz,hzc⟩:=dy (w:=w) hte;have hbl:Below w.heap.size w (w.alloc (.cells cs.toArray e)):=(Below.refl _ _).alloc (V9 _) _;refine dv rfl (w':=w.alloc (.cells cs.toArray e)) (v:=.slice (some ⟨w.heap.size,0,none⟩) len len) ?_ (hk _ _ ⟨w.heap.size,rfl,hl,fun _=>⟨_,rfl,fun j u hu=> ?_⟩⟩ hbl)
 ·exact RV
 ·rw [eW,Ws,cell_of_row _ w.heap.size j cs.toArray e (0,0) (heap_alloc_new w _)];simpa using hu
theorem gL {d:Option Nat}{ty:TypeId}{af:Array Edge}{t:TypeId}{wr:World} (ht:cQ P t=some (n,ag,by',zc)) (hb:Below wr.heap.size wr w)
  (hk:∀v w2,cu wr t zc v w2→Below w.heap.size w w2→K v w2):OG P ops ⟨d,.alloc t,ty,pos,af,none⟩ ρ w K:=by
 obtain ⟨z,hz,hzc⟩:=dy (w:=w) ht;exact dv rfl (w':=w.alloc (.cells zc.toArray t)) (v:=.pointer (some ⟨w.heap.size,0,none⟩)) (by simp [execOp,Instr.alloc,newVar,newRow,hz,hzc]) (hk _ _ ⟨w.heap.size,rfl,hb.size,heap_alloc_new w _⟩ ((Below.refl _ _).alloc (V9 _) _))
theorem JJ.newVar {H:List HE}{t:TypeId} (h:JJ w0 H w W) (hs:Hp w0 H w) (h2:w.heap.size≤b) (h3:W.heap[b]?=some (.cells cs.toArray t (0,0))):Hp w0 (.blk b t cs (0,0)::H) W:=by
 refine ⟨h.hp.below, ?_, ?_⟩
 ·intro y hy
  rcases Wp.1 hy with rfl|hy
  ·exact ⟨WK hs.size h2,h3,.inr (V9 _)⟩
  ·exact h.hp.own y hy
 ·rw [XE];show (b::H.filterMap HE.id).Nodup;refine XR.2 ⟨fun hm=> ?_,h.hp.nd⟩;obtain ⟨y,hy,hyb⟩:=Xp.1 hm;have:=(ea (hs.own y hy) hyb).2;omega
end
section
abbrev VP:=Value→World→Prop
def dK (pv:Nat→VP) (i:Nat) (V:VP):Nat→VP:=fun j=>cond (Nat.beq j i) V (pv j)
def SJ:Nat→VP:=fun _ _ _=>True
def DX (P:Program) (ops:Array Oper) (J:World→Prop) (ρ:Rf) (T:(Nat→VP)→Prop):Nat→(Nat→VP)→List Oper→List (List (Nat×Option Nat))→Prop
 |i,pv,o::os,s::ss=>∃V:VP,(∀v w w',V v w→Below w.heap.size w w'→V v w')∧(∀ρ1 w1,J w1→cZ pv ρ ρ1 w1 s→OG P ops o ρ1 w1 fun v w2=>Below w1.heap.size w1 w2∧V v w2)∧DX P ops J ρ T (i+1) (dK pv i V) os ss
 |_,pv,[],[]=>T pv
 |_,_,_,_=>False
theorem y5 (pv:Nat→VP) (i:Nat) (V:VP):dK pv i V i=V:=by simp [dK]
theorem lN (pv:Nat→VP) {i:Nat} (V:VP) (h:j≠i):dK pv i V j=pv j:=by
 have:Nat.beq j i=false:=by rw [YK];intro h2;exact h (Nat.eq_of_beq_eq_true h2)
 simp only [dK,this,cond_false]
theorem nE {V V':Nat→VP}{ρ ρ1:Rf}{w1:World} (h:∀j v w,V j v w→V' j v w):∀s,cZ V ρ ρ1 w1 s→cZ V' ρ ρ1 w1 s
 |[],_=>trivial
 |(_,some _)::r,hh=>⟨h _ _ _ hh.1,nE h r hh.2⟩
 |(_,none)::r,hh=>⟨hh.1,nE h r hh.2⟩
theorem FZ {P:Program}{ops:Array Oper}{J:World→Prop}{ρ:Rf}{T:(Nat→VP)→Prop}:∀(os:List Oper) (ss:List (List (Nat×Option Nat))) (i:Nat) (pv:Nat→VP),(∀j,i≤j→∀v w,pv j v w)→DX P ops J ρ T i pv os ss→
  ∃V,(∀j,j<i→V j=pv j)∧DO P ops J V ρ i os ss∧T V
 |[],[],_,pv,_,h=>⟨pv,fun _ _=>rfl,trivial,h⟩
 |[],_::_,_,_,_,h=>h.elim
 |_::_,[],_,_,_,h=>h.elim
 |o::os,s::ss,i,pv,hpv,⟨V,h1,h2,h3⟩=>by
  obtain ⟨V',h4,h5,h6⟩:=FZ os ss (i+1) (dK pv i V) (fun j hj v w=>by rw [lN _ _ VZ];exact hpv j VZ v w) h3;have e:V' i=V:=by rw [h4 i VZ,y5]
  refine ⟨V',fun j hj=>by rw [h4 j VZ,lN _ _ VZ],⟨⟨?_, ?_⟩,h5⟩,h6⟩
  ·rw [e];exact h1
  ·intro ρ1 w1 hj hr;rw [e];refine h2 ρ1 w1 hj (nE (fun j v w hh=> ?_) s hr)
   rcases WW j i with hlt|hge
   ·rw [h4 j VZ,lN _ _ VZ] at hh;exact hh
   ·exact hpv j hge v w
theorem aN {Q:Kq}{id:Nat}{l:List Oper} (m:Nat) (src:List (List (Nat×Option Nat))) (ds:List (Nat×Nat)) {H:List HE} (hh:Hp w0 H w) (hm:P.follows .mixedOrders=true) (hok:Df l m N src ds=true)
  (h:DX P l.toArray (JJ w0 H w) ρ (fun V=>∀f w',JJ w0 H w w'→vw V f w' ds→WL ⟨none,D,false⟩ P N l.toArray Q (l.drop m) (kZ ρ f ds) w') 0 SJ (l.take m) src):WC ⟨none,D,false⟩ P N (.region id l.toArray true) Q ρ w:=by
 obtain ⟨V,_,h1,h2⟩:=FZ _ _ _ _ (fun _ _ _ _=>trivial) h;exact LR m src ds (JJ w0 H w) V hm hok (fun _ _ h hb=>h.ext hb) (JJ.start hh) h1 h2
variable {P:Program}{ops:Array Oper}{J:World→Prop}{ρ:Rf}{T:(Nat→VP)→Prop}{i:Nat}{pv:Nat→VP}{os:List Oper}{s:List (Nat×Option Nat)}{ss:List (List (Nat×Option Nat))}{d:Option Nat}{op:Op}{ty:TypeId}{pos:String}{af:Array Edge}
theorem aG (h:T pv):DX P ops J ρ T i pv [] []:=h
theorem aP (V:VP) (h1:∀v w w',V v w→Below w.heap.size w w'→V v w') (h2:∀ρ1 w1,J w1→cZ (pv) ρ ρ1 w1 s→OG P ops o ρ1 w1 fun v w2=>Below w1.heap.size w1 w2∧V v w2)
  (k:DX P ops J ρ T (i+1) (dK pv i (V)) os ss):DX P ops J ρ T i pv (o::os) (s::ss):=⟨V,h1,h2,k⟩
theorem a6 {v:Value} (hr:∀ρ1 w1,J w1→cZ (pv) ρ ρ1 w1 s→(execOp (ev ρ1) ⟨d,op,ty,pos,af,none⟩).run P w1=.ok (.value v) w1)
  (k:DX P ops J ρ T (i+1) (dK pv i (Is v)) os ss):DX P ops J ρ T i pv (⟨d,op,ty,pos,af,none⟩::os) (s::ss):=
 aP (Is v) Is.ext (fun ρ1 w1 hj h=>dv rfl (hr ρ1 w1 hj h) ⟨Below.refl _ _,rfl⟩) k
theorem NY {v:Value}{f:FuncId}{args:Array Value} (hr:∀ρ1 w1,J w1→cZ (pv) ρ ρ1 w1 s→(execOp (ev ρ1) ⟨d,op,ty,pos,af,none⟩).run P w1=.ok (.enter f args) w1)
  (hc:∀w1,J w1→Calls P f args w1 fun e w'=>e=.returned v∧Below w1.heap.size w1 w')
  (k:DX P ops J ρ T (i+1) (dK pv i (Is v)) os ss):DX P ops J ρ T i pv (⟨d,op,ty,pos,af,none⟩::os) (s::ss):=
 aP (Is v) Is.ext (fun ρ1 w1 hj h=>bf rfl (hr ρ1 w1 hj h) (hc w1 hj) fun _ _ hq=>⟨v,hq.1,hq.2,rfl⟩) k
def Rows (n k:Nat) (cs:List Value):VP:=fun v W=>∃A c,v=.slice A n c∧Sl W A n k cs
theorem Rows.ext (v:Value) (w w':World) (h:Rows n k cs v w) (hb:Below w.heap.size w w'):Rows n k cs v w':=let ⟨A,c,h1,h2⟩:=h;⟨A,c,h1,h2.ext hb⟩
theorem vy {t e:TypeId}{len sz:Nat} (ht:P.underlying t=some (.slice e)) (hte:cQ P e=some (sz,ag,by',zc))
  (hp:∀ρ1 w1,J w1→cZ (pv) ρ ρ1 w1 s→wB ρ1 parts.toList=ps) (hzl:zc.length=sz) (hf:kI (fun i=>some (i*sz,sz)) (eI len zc) ps=some cs) (h0:¬len*sz=0) (hsl:len*sz≤16777216) (hl:cs.length=len*sz)
  (k:DX P ops J ρ T (i+1) (dK pv i (Rows len sz cs)) os ss):DX P ops J ρ T i pv (⟨d,.buildSlice t len parts,ty,pos,af,none⟩::os) (s::ss):=
 aP (Rows len sz cs) Rows.ext (fun ρ1 w1 hj h=>je ht hte (hp ρ1 w1 hj h) hzl hf h0 hsl hl fun _ _ ⟨_,hv,hs⟩ hb=>⟨hb,_,_,hv,hs⟩) k
theorem x9 {b:Bool}{v:Value} (hj:(ops[j]?).bind (·.dst)=some dj) (hv:∀ρ1 w1,J w1→cZ (pv) ρ ρ1 w1 s→ρ1 dj=.bool b)
  (hr:∀ρ1 w1,J w1→cZ (pv) ρ ρ1 w1 s→(execOp (ev ρ1) ⟨d,op,ty,pos,af,none⟩).run P w1=.ok (.value v) w1)
  (k:DX P ops J ρ T (i+1) (dK pv i (Is v)) os ss):DX P ops J ρ T i pv (⟨d,op,ty,pos,af,some (j,b)⟩::os) (s::ss):=
 aP (Is v) Is.ext (fun ρ1 w1 hj' h=>bo hj (hv ρ1 w1 hj' h) (dv rfl (hr ρ1 w1 hj' h) ⟨Below.refl _ _,rfl⟩)) k
theorem l5 {b:Bool}{v:Value}{f:FuncId}{args:Array Value} (hj:(ops[j]?).bind (·.dst)=some dj) (hv:∀ρ1 w1,J w1→cZ (pv) ρ ρ1 w1 s→ρ1 dj=.bool b)
  (hr:∀ρ1 w1,J w1→cZ (pv) ρ ρ1 w1 s→(execOp (ev ρ1) ⟨d,op,ty,pos,af,none⟩).run P w1=.ok (.enter f args) w1)
  (hc:∀w1,J w1→Calls P f args w1 fun e w'=>e=.returned v∧Below w1.heap.size w1 w')
  (k:DX P ops J ρ T (i+1) (dK pv i (Is v)) os ss):DX P ops J ρ T i pv (⟨d,op,ty,pos,af,some (j,b)⟩::os) (s::ss):=
 aP (Is v) Is.ext (fun ρ1 w1 hj' h=>bo hj (hv ρ1 w1 hj' h) (bf rfl (hr ρ1 w1 hj' h) (hc w1 hj') fun _ _ hq=>⟨v,hq.1,hq.2,rfl⟩)) k
theorem yV {b c:Bool} (hj:(ops[j]?).bind (·.dst)=some dj) (hv:∀ρ1 w1,J w1→cZ (pv) ρ ρ1 w1 s→ρ1 dj=.bool c) (hb:c≠b)
  (k:DX P ops J ρ T (i+1) (dK pv i (Is undef)) os ss):DX P ops J ρ T i pv (⟨d,op,ty,pos,af,some (j,b)⟩::os) (s::ss):=
 aP (Is undef) Is.ext (fun ρ1 w1 hj' h=>vx hj (hv ρ1 w1 hj' h) hb ⟨Below.refl _ _,rfl⟩) k
end
end
def aA {α:Type} (f:α→List Value) (l:List α):List Value:=l.flatMap f
section
variable {α:Type}{f:α→List Value}{sz:Nat}
theorem fy (hf:∀x,(f x).length=sz) (l:List α):(aA f l).length=l.length*sz:=by
 induction l with
 |nil=>simp [aA]
 |cons x l ih=>
  have:aA f (x::l)=f x++aA f l:=by simp [aA]
  rw [this,We,hf,ih,WH,Xs];omega
theorem iS (x:α) (l:List α):aA f (x::l)=f x++aA f l:=by simp [aA]
theorem bK (l m:List α):aA f (l++m)=aA f l++aA f m:=by simp [aA]
theorem jv (x:α):aA f [x]=f x:=by simp [aA]
theorem jU (hf:∀x,(f x).length=sz) (l:List α) (k:Nat):(aA f l).drop (k*sz)=aA f (l.drop k):=by
 induction l generalizing k with
 |nil=>simp [aA]
 |cons x l ih=>
  cases k with
  |zero=>simp
  |succ k=>rw [iS,Xs,X6,←hf x,List.drop_append,List.drop_succ_cons,←ih k,hf x];simp [hf x]
theorem lh (hf:∀x,(f x).length=sz) (l:List α) (k:Nat):(aA f l).take (k*sz)=aA f (l.take k):=by
 induction l generalizing k with
 |nil=>simp [aA]
 |cons x l ih=>
  cases k with
  |zero=>simp [aA]
  |succ k=>rw [iS,Xs,X6,Zr,iS,←ih k,←hf x,List.take_append];simp;exact Wc (Nat.le_add_right _ _)
theorem tu (hf:∀x,(f x).length=sz) {l:List α}{x:α} (h:l[k]?=some x):((aA f l).drop (k*sz)).take sz=f x:=by
 obtain ⟨h1,h2⟩:=Wk.1 h;rw [jU hf,Xv h1,h2,iS,Zw (by rw [hf];omega),Wc (by rw [hf];omega)]
theorem Rd.recAt {l:List α} (h:Rd w ad (aA f l)) (hf:∀x,(f x).length=sz) {x:α} (hx:l[k]?=some x):Rd w (ad.add (k*sz)) (f x):=by
 have:=h.elem k sz;rwa [tu hf hx] at this
theorem Sl.bE {A:Option Addr}{l:List α} (h:Sl w A n sz (aA f l)) (hf:∀x,(f x).length=sz) (h0:0<sz):l.length=n:=by
 have:=h.1;rw [fy hf] at this;exact Nat.eq_of_mul_eq_mul_right h0 this
theorem jk (hf:∀x,(f x).length=sz) {l:List α}{y:α} (h:k<l.length):cd (aA f l) (k*sz) (f y)=aA f (l.set k y):=by
 unfold cd;rw [lh hf,hf,←Xs,jU hf,Y6,V5 h,bK,iS,WY]
theorem bU (h:∀x,(f x).all Value.oneCell'=true) (l:List α):((aA f l).all Value.oneCell')=true:=by
 rw [Wq];intro v hv;obtain ⟨x,_,hx⟩:=Yq.1 hv;exact Wq.1 (h x) v hx
end
theorem ix {l:List α}{x:α} (h:l[k]?=some x):l.drop k=x::l.drop (k+1):=by
 obtain ⟨h1,rfl⟩:=Wk.1 h;exact Xv h1
theorem jY {p:α→Bool}{l:List α} (h:l.any p=false):l.find? p=none:=by
 rw [List.find?_eq_none];intro x hx;have:=Ya.1 h x hx;simpa using this
theorem wg {p:α→Bool}{l:List α}{i:Nat}{x:α} (h:(l.take i).any p=false) (hx:l[i]?=some x) (hp:p x=true):l.find? p=some x:=by
 have:l=l.take i++x::l.drop (i+1):=by rw [←ix hx,W9]
 rw [this,List.find?_append,jY h,List.find?_cons_of_pos hp]
 rfl
section
variable {D:List Deferred}
section
variable {P:Program}{N:Nat}{Q:Kq}{ρ:Rf}{w:World}
def oI (acc:List Nat):List Edge→Nat
 |[]=>0
 |e::r=>bif Region.binds .any e then 1<<<e.on|||acc.getD e.on 0|||oI acc r else oI acc r
def uq:List Oper→List Nat→List Nat
 |[],acc=>acc
 |o::r,acc=>uq r (acc++[oI acc o.after.toList])
theorem oS {acc:List Nat}{i:Nat}:∀{es:List Edge},(oI acc es).testBit i=true→∃e∈es,Region.binds .any e=true∧(e.on=i∨(acc.getD e.on 0).testBit i=true)
 |[],h=>by simp [oI] at h
 |e::r,h=>by
  unfold oI at h
  cases hb:Region.binds .any e with
  |false=>
   rw [hb,cond_false] at h;obtain ⟨e',h1,h2⟩:=oS h;exact ⟨e',Wl _ h1,h2⟩
  |true=>
   rw [hb,cond_true,Nat.testBit_or,Nat.testBit_or,X4,X4] at h
   rcases h with (h|h)|h
   ·refine ⟨e,Wj,hb,.inl ?_⟩;rw [Nat.one_shiftLeft,Nat.testBit_two_pow] at h;simpa using h
   ·exact ⟨e,Wj,hb,.inr h⟩
   ·obtain ⟨e',h1,h2⟩:=oS h;exact ⟨e',Wl _ h1,h2⟩
theorem AQ:∀(l:List Oper) (acc:List Nat),∃t,uq l acc=acc++t
 |[],acc=>⟨[],by simp [uq]⟩
 |o::r,acc=>by
  obtain ⟨t,h⟩:=AQ r (acc++[oI acc o.after.toList]);exact ⟨_,by rw [uq,h,WY]⟩
theorem Fw:∀(l:List Oper) (acc:List Nat) (k i:Nat),acc.length≤k→((uq l acc).getD k 0).testBit i=true→∃o,l[k-acc.length]?=some o∧∃e∈o.after,Region.binds .any e=true∧(e.on=i∨e.on<k∧((uq l acc).getD e.on 0).testBit i=true)
 |[],acc,k,i,hk,h=>by
  rw [uq,Xl,WN hk] at h;simp at h
 |o::r,acc,k,i,hk,h=>by
  rcases WW acc.length k with hlt|hge
  ·have hl:(acc++[oI acc o.after.toList]).length=acc.length+1:=by simp
   obtain ⟨o',h1,h2⟩:=Fw r (acc++[oI acc o.after.toList]) k i VZ h;refine ⟨o', ?_,h2⟩;rw [hl] at h1;rw [show k-acc.length=(k-(acc.length+1))+1 by omega,YT];exact h1
  ·obtain rfl:k=acc.length:=VZ;obtain ⟨t,ht⟩:=AQ r (acc++[oI acc o.after.toList]);refine ⟨o,by rw [Xc];rfl, ?_⟩;rw [uq,ht] at h ⊢;rw [Xl,WY,Xt (V9 _),Xc] at h;simp only [Wf,YI,Xj,Wd] at h;obtain ⟨e,h1,h2,h3⟩:=oS h;refine ⟨e,by simpa using h1,h2, ?_⟩
   rcases h3 with h3|h3
   ·exact .inl h3
   ·have h4:e.on<acc.length:=by
     rcases WW e.on acc.length with h5|h5
     ·exact h5
     ·rw [Xl,WN h5] at h3;simp at h3
    refine .inr ⟨h4, ?_⟩;rw [Xl,WY,Yh h4,←Xl];exact h3
theorem gk {l:List Oper}{L:Array Bool} (hM:uq l []=M) (hc:pd l.toArray L):∀(k i:Nat),(∀o,l.toArray[k]?=some o→∀e∈o.after,Region.binds .any e=true→L.getD e.on false=true)→(M.getD k 0).testBit i=true→L.getD i false=true:=by
 intro k
 induction k using Nat.strongRecOn with
 |_ k ih=>
  intro i hk h;rw [←hM] at h;obtain ⟨o,ho,e,he,hb,h3⟩:=Fw l [] k i (V8 _) h;have ho':l.toArray[k]?=some o:=by rw [Ys];exact ho
  have h1:=hk o ho' e he hb
  rcases h3 with h3|⟨h3,h4⟩
  ·rw [←h3];exact h1
  ·rw [hM] at h4;exact ih e.on h3 i (fun o' ho2=>hc e.on o' ho2 h1) h4
def TX (n m:Nat) (fl:List Nat):Array Bool:=((List.range n).map fun i=>decide (i<m∧i∉fl)).toArray
theorem Lo {i:Nat}{fl:List Nat} (hi:i<n):(TX n m fl).getD i true=decide (i<m∧i∉fl):=by
 unfold TX;rw [Xo,Ys,Wg,W8 hi]
 rfl
def NP (Q:Kq):Prop:=∀c ρ w,¬Q (.panic c) ρ w
theorem cD {fn:Func}:NP (m7 P fn R):=fun _ _ _ h=>h.1.elim nofun nofun
theorem bT (h:NP Q):NP (cG next Q):=fun c ρ w hq=>h c ρ w hq
theorem cE {id:Nat} (h:NP Q):NP (qN id Q):=fun c ρ w hq=>h c ρ w hq
def s8:Op→Bool
 |.extract _ _=>true
 |.move _=>true
 |_=>false
def RQ (l:List Oper) (m:Nat) (fl:List Nat) (i:Nat):Bool:=
 Region.free .any l.toArray (TX l.length m fl) i && match l[i]? with
  |some ⟨some _,op,_,_,af,none⟩=>s8 op && af.all fun e=> !Region.binds .any e||(decide (e.on<m) && !fl.contains e.on)
  |_=>false
theorem wO {l:List Oper}{fl:List Nat}{i:Nat} (h:RQ l m fl i=true):Region.free .any l.toArray (TX l.length m fl) i=true∧(∀o,l[i]?=some o→∀e∈o.after,Region.binds .any e=true→e.on<m∧e.on∉fl)∧
  ∃d op ty pos af,l[i]?=some ⟨some d,op,ty,pos,af,none⟩∧s8 op=true:=by
 unfold RQ at h;rw [Wm] at h;obtain ⟨h1,h2⟩:=h;split at h2
 ·rename_i d op ty pos af ho;rw [Wm] at h2;obtain ⟨hpu,h2⟩:=h2;refine ⟨h1,fun o ho' e he hb=> ?_,d,op,ty,pos,af,ho,hpu⟩;rw [ho] at ho';injection ho' with ho'
  subst ho';have:=Zi.1 h2 e he;simp only [hb,Y1,W4,Wm,Wt,Za,ZD,Yo] at this;exact this
 ·cases h2
def nH (l:List Oper) (m N:Nat) (src:List (List (Nat×Option Nat))) (ds:List (Nat×Nat)) (fl M:List Nat):Bool:=
 let ops:=l.toArray
 let pre:=(List.range m).map fun i=>((ops[i]?).bind (·.dst))
 (m≤l.length) && (src.length==m) &&
 (ds==(pre.zipIdx.filterMap fun (d,i)=>d.map fun d=>(i,d)).reverse) && (decide (ds.map (·.2)).Nodup) && (ds.all fun p=>p.2<N) &&
 ((List.range m).all fun i=>match ops[i]?,src[i]? with
  |some o,some s=>((o.looksAt ops).all fun t=>s.any fun p=>p.1==t) &&
    s.all fun p=>match p.2 with
     |some j=>(j<m) && ((ops[j]?).bind (·.dst)==some p.1) && (M.getD i 0).testBit j
     |none=>(List.range m).all fun j=> !((ops[j]?).bind (·.dst)==some p.1)||(j !=i && (M.getD j 0).testBit i)
  |_,_=>false) &&
 (l.length==m||((List.range m).all fun i=>fl.contains i||(M.getD m 0).testBit i)) &&
 ((List.range (l.length-m)).all fun k=>Region.ready .any ops (iY l.length (m+k))==[m+k]) && (Region.ready .any ops (iY l.length l.length)==[]) &&
 ((List.range (l.length-m)).all fun k=>k==0||(M.getD (m+k) 0).testBit m) &&
 ((List.range l.length).all fun i=>match ops[i]? with|some o=>o.after.all fun e=> !Region.binds .any e||e.on<i|none=>false) &&
 Region.noSelect ops && (fl.all fun i=>RQ l m fl i) && (uq l []==M)
def td (P:Program) (l:List Oper):List Nat→Prop
 |[]=>True
 |i::r=>(∃d t ty pos af n ag by' zc,l[i]?=some ⟨some d,.alloc t,ty,pos,af,none⟩∧cQ P t=some (n,ag,by',zc))∧td P l r
theorem td.at {l:List Oper}:∀{fr:List Nat},td P l fr→∀i∈fr,∃d t ty pos af n ag by' zc,l[i]?=some ⟨some d,.alloc t,ty,pos,af,none⟩∧cQ P t=some (n,ag,by',zc)
 |[],_,_,hi=>by simp at hi
 |j::r,h,i,hi=>by
  rcases Wp.1 hi with rfl|hi
  ·exact h.1
  ·exact td.at h.2 i hi
theorem eX {l:List Oper}:td P l []:=trivial
theorem nO {l:List Oper}{i d t ty:Nat}{af:Array Edge}{r:List Nat} (h:l[i]?=some ⟨some d,.alloc t,ty,pos,af,none⟩) (ht:cQ P t=some (n,ag,by',zc)) (hr:td P l r):td P l (i::r):=⟨⟨d,t,ty,pos,af,n,ag,by',zc,h,ht⟩,hr⟩
theorem K3 {d:Nat}{t ty:Nat}{af:Array Edge} (ht:cQ P t=some (n,ag,by',zc)) (h:OG P ops ⟨some d,.alloc t,ty,pos,af,none⟩ ρ w K)
  (a:Act) (hd:d<a.tmps.size) (next:Act→World→Prop) (Q:Exit→Act→World→Prop) (ha:∀i,a.tmps.getD i undef=ρ i) (hn:∀v w',K v w'→(∃b,v=.pointer (some ⟨b,0,none⟩)∧w.heap.size≤b∧b<w'.heap.size)→next (a.put (some d) v) w'):
  if Region.wanted ⟨some d,.alloc t,ty,pos,af,none⟩ (yielded ops a.tmps) then (Oper.wp P ⟨some d,.alloc t,ty,pos,af,none⟩ a w next Q)∨((Oper.asks P ⟨some d,.alloc t,ty,pos,af,none⟩ a w)∧LetsOut Q) else next (a.put (some d) undef) w:=by
 have h1:=h.out a (fun a' w'=>∃v,a'=a.put (some d) v∧K v w') Q ha fun v w' hk=>⟨v,rfl,hk⟩;have hw:Region.wanted ⟨some d,.alloc t,ty,pos,af,none⟩ (yielded ops a.tmps)=true:=by simp [Region.wanted]
 rw [V5 hw] at h1 ⊢;refine h1.imp (fun h2=> ?_) id;obtain ⟨z,hz,hzc⟩:=dy (w:=w) ht;have hr:(execOp a.eval ⟨some d,.alloc t,ty,pos,af,none⟩).run P w=.ok (.value (.pointer (some ⟨w.heap.size,0,none⟩))) (w.alloc (.cells zc.toArray t)):=by simp [execOp,Instr.alloc,newVar,newRow,hz,hzc]
 unfold Oper.wp at h2 ⊢;rw [hr] at h2 ⊢;obtain ⟨v,hv,hk⟩:∃v,a.put (some d) (.pointer (some ⟨w.heap.size,0,none⟩))=a.put (some d) v∧K v (w.alloc (.cells zc.toArray t)):=h2;have h3:=Xm (fun a':Act=>a'.tmps.getD d undef) hv;simp only [dr hd,V5] at h3;subst h3;exact hn _ _ hk ⟨_,rfl,V9 _,(YY.1 (heap_alloc_new w _)).1⟩
theorem Af {x:Operand}{ty d:Nat}{af:Array Edge} (f:Operand→Value) (w:World):(∃v,∀w',(execOp f ⟨some d,.extract x k,ty,pos,af,none⟩).run P w'=.ok (.value v) w')∨∀a K,Oper.upon P ⟨some d,.extract x k,ty,pos,af,none⟩ a K (fun _ _ _=>False) ((execOp f ⟨some d,.extract x k,ty,pos,af,none⟩).run P w)→False:=by
 cases hx:f x with
 |tuple xs=>
  cases hk:xs[k]? with
  |some v=>exact .inl ⟨v,fun w'=>by simp [execOp,hx,Instr.extract,hk]⟩
  |none=>exact .inr fun a K h=>by simp [execOp,hx,Instr.extract,hk,Oper.upon] at h
 |_=>exact .inr fun a K h=>by simp [execOp,hx,Instr.extract,Oper.upon] at h
theorem pure_run {op:Op} (hp:s8 op=true) {ty d:Nat}{af:Array Edge} (f:Operand→Value) (w:World):(∃v,∀w',(execOp f ⟨some d,op,ty,pos,af,none⟩).run P w'=.ok (.value v) w')∨∀a K,Oper.upon P ⟨some d,op,ty,pos,af,none⟩ a K (fun _ _ _=>False) ((execOp f ⟨some d,op,ty,pos,af,none⟩).run P w)→False:=by
 unfold s8 at hp;split at hp
 ·exact Af f w
 ·exact .inl ⟨_,fun w'=>by simp [execOp];rfl⟩
 ·cases hp
theorem Ao {d:Nat}{op:Op} (hp:s8 op=true) {ty:Nat}{af:Array Edge} (h:OG P ops ⟨some d,op,ty,pos,af,none⟩ ρ w K) (a:Act) (hd:d<a.tmps.size) (ha:∀i,a.tmps.getD i undef=ρ i):
  ∃v,(∀w',(execOp a.eval ⟨some d,op,ty,pos,af,none⟩).run P w'=.ok (.value v) w')∧K v w:=by
 have h1:=h.out a (fun a' w'=>∃v,a'=a.put (some d) v∧K v w') (fun _ _ _=>False) ha fun v w' hk=>⟨v,rfl,hk⟩;rw [V5 (by simp [Region.wanted])] at h1
 rcases h1 with h1|⟨_,_,_,h1⟩
 ·unfold Oper.wp at h1
  rcases pure_run (P:=P) hp (d:=d) (ty:=ty) (pos:=pos) (af:=af) a.eval w with ⟨v,hv⟩|hn
  ·rw [hv w] at h1;obtain ⟨v',h2,hk⟩:∃v',a.put (some d) v=a.put (some d) v'∧K v' w:=h1;have h3:=Xm (fun a':Act=>a'.tmps.getD d undef) h2;simp only [dr hd,V5] at h3;subst h3;exact ⟨v,hv,hk⟩
  ·exact (hn _ _ h1).elim
 ·exact h1.elim
structure T3 (D:List Deferred) (fr:List Nat) (N:Nat) (ops:Array Oper) (m:Nat) (ρ:Rf) (J:World→Prop) (V:Nat→Value→World→Prop) (L:Array Bool) (a:Act) (w:World):Prop where
 nd:a.defers=D
 sz:a.tmps.size=N
 j:J w
 ls:L.size=ops.size
 cl:pd ops L
 tl:∀k,m≤k→L.getD k false=false
 vs:∀i d,i<m→L.getD i false=true→(ops[i]?).bind (·.dst)=some d→V i (a.tmps.getD d undef) w
 H8:∀s,(∀i,i<m→L.getD i false=true→(ops[i]?).bind (·.dst)≠some s)→a.tmps.getD s undef=ρ s
 fb:∀i∈fr,L.getD i false=true→∀d,(ops[i]?).bind (·.dst)=some d→∃b,a.tmps.getD d undef=.pointer (some ⟨b,0,none⟩)∧b<w.heap.size
 fd:∀i∈fr,∀j∈fr,i≠j→L.getD i false=true→L.getD j false=true→∀d e,(ops[i]?).bind (·.dst)=some d→(ops[j]?).bind (·.dst)=some e→a.tmps.getD d undef≠a.tmps.getD e undef
theorem Iu {id:Nat}{l:List Oper} (fr fl M:List Nat) (m:Nat) (src:List (List (Nat×Option Nat))) (ds:List (Nat×Nat)) (J:World→Prop) (V:Nat→Value→World→Prop) (hm:P.follows .mixedOrders=true) (hok:nH l m N src ds fl M=true) (hfr:td P l fr) (hfm:fr.all (fun i=>i<m)=true) (hQp:NP Q)
  (hJ:∀w w',J w→Below w.heap.size w w'→J w') (h0:J w) (hops:DO P l.toArray J V ρ 0 (l.take m) src)
  (tail:∀f w',J w'→vw V f w' ds→(∀i∈fr,∀j∈fr,i≠j→f i≠f j)→WL ⟨none,D,false⟩ P N l.toArray Q (l.drop m) (kZ ρ f ds) w'):WC ⟨none,D,false⟩ P N (.region id l.toArray true) Q ρ w:=by
 refine WC.mY fun a hf=>wp_region_any hm ?_;simp only [nH,Wm,Wt,Xy,Wq,Xn] at hok;obtain ⟨⟨⟨⟨⟨⟨⟨⟨⟨⟨⟨⟨⟨hml,_⟩,hds⟩,hnd⟩,hdN⟩,hrd⟩,htail⟩,hready⟩,hend⟩,hdep⟩,hedge⟩,hns⟩,hflo⟩,hM⟩:=hok;have hfl:=fun i hi=>wO (hflo i hi);have hdo:=(Ev _ _ _ hops).2;have hpre:∀i d,i<m→((l.toArray[i]?).bind (·.dst))=some d→(i,d)∈ds:=fun i d hi hd=>by
  exact Mu
 have hdsm:∀i d,(i,d)∈ds→i<m∧((l.toArray[i]?).bind (·.dst))=some d:=fun i d hp=>by
  exact NG
 have hone:∀i j d,i<m→j<m→((l.toArray[i]?).bind (·.dst))=some d→((l.toArray[j]?).bind (·.dst))=some d→i=j:=fun i j d hi hj h1 h2=>by
  exact NV
 have hnn:l.toArray.size=l.length:=by simp
 have hfm':∀i∈fr,i<m:=fun i hi=>by simpa using Wq.1 hfm i hi
 have full:∀(L:Array Bool) (a:Act) (w:World) (fuel:Nat),T3 D fr N l.toArray m ρ J V L a w→(∀i,i<m→L.getD i false=true)→l.length≤fuel+m→wpAny P .any l.toArray (dw N D Q) fuel L a w:=by
  intro L a w fuel hI hall hfu;have hL:L=iY l.length m:=sO (by rw [hI.ls,hnn]) hml hall hI.tl;rw [hL];refine mr m (fun k h1 h2=> ?_) hend fuel m a w (V9 _) hml hfu ?_
  ·exact Ls
  ·have hfits:eA N D a (kZ ρ (fun i=>match (l.toArray[i]?).bind (·.dst) with|some d=>a.tmps.getD d undef|none=>undef) ds):=by
    exact Ru
   refine (tail _ w hI.j (qp ds fun p hp=> ?_) fun i hi j hj hij=> ?_).out a hfits
   rotate_left
   ·exact Sk
   obtain ⟨h1,h2⟩:=hdsm p.1 p.2 hp;have:=hI.vs p.1 p.2 h1 (hall _ h1) h2;rw [h2];exact this
 have key:∀(fuel:Nat) (L:Array Bool) (a:Act) (w:World),T3 D fr N l.toArray m ρ J V L a w→fuel+L.toList.countP (fun b=>b)=l.length→wpAny P .any l.toArray (dw N D Q) fuel L a w:=by
  intro fuel
  induction fuel with
  |zero=>
   exact R1
  |succ fuel ih=>
   intro L a w hI hc;by_cases hall:∀i,i<m→L.getD i false=true
   ·exact R5
   ·have hsome:∃i,i<m∧L.getD i false=false:=by
     exact Rz
    have hready_spec:∀i,i∈Region.ready .any l.toArray L↔i<l.length∧L.getD i true=false∧∃o,l.toArray[i]?=some o∧∀e∈o.after,Region.binds .any e=true→L.getD e.on false=true:=fun i=>by
     exact Nk
    have both:∀(i:Nat) (_:i<m) (o:Oper) (_:l.toArray[i]?=some o) (_:L.getD i false=false) (_:∀e∈o.after,Region.binds .any e=true→L.getD e.on false=true),
      OG P l.toArray o (fun t=>a.tmps.getD t undef) w (fun v w2=>Below w.heap.size w w2∧V i v w2)∧
      ∀v w2,(Below w.heap.size w w2∧V i v w2)→(i∈fr→∃b,v=.pointer (some ⟨b,0,none⟩)∧w.heap.size≤b∧b<w2.heap.size)→wpAny P .any l.toArray (dw N D Q) fuel (L.setIfInBounds i true) (a.put o.dst v) w2:=fun i him o ho hun' hed=>by
     have hiL:i<L.size:=by rw [hI.ls,hnn];omega
     have hed':∀o',l.toArray[i]?=some o'→∀e∈o'.after,Region.binds .any e=true→L.getD e.on false=true:=fun o' ho'=>by
      rw [ho] at ho';injection ho' with ho';subst ho';exact hed
     have hok':(l.take m)[i]?=some o:=by
      rw [XF,V5 him];simpa using ho
     obtain ⟨s,hs,hstab,hog⟩:=hdo i o hok';rw [Ws] at hstab hog;have hrdi:=hrd i him;rw [ho,hs] at hrdi;simp only [Wm,Wq] at hrdi;have hro:cZ V ρ (fun t=>a.tmps.getD t undef) w s:=nS s fun p hp=>by
      have hp2:=hrdi.2 p hp
      cases hp3:p.2 with
      |some j=>
       rw [hp3] at hp2;simp only [Wm,Wt,Xy] at hp2;exact hI.vs j p.1 hp2.1.1 (gk hM hI.cl i j hed' hp2.2) hp2.1.2
      |none=>
       rw [hp3] at hp2;refine hI.H8 p.1 fun j hj hjl hjd=> ?_;have h6:=Wq.1 hp2 j (by simpa using hj);rw [hjd] at h6;simp only [beq_self_eq_true,Y1,W4,Wm] at h6;have:=gk hM hI.cl j i (fun o' ho' e he hb=>hI.cl j o' ho' hjl e he hb) h6.2;rw [hun'] at this
       cases this
     have hnext:∀v w2,(Below w.heap.size w w2∧V i v w2)→(i∈fr→∃b,v=.pointer (some ⟨b,0,none⟩)∧w.heap.size≤b∧b<w2.heap.size)→wpAny P .any l.toArray (dw N D Q) fuel (L.setIfInBounds i true) (a.put o.dst v) w2:=fun v w2 hv hfv=>by
      have hd1:∀d',o.dst=some d'→d'<a.tmps.size:=fun d' hd'=>by
       rw [hI.sz];exact hdN (i,d') (hpre i d' him (by rw [ho];exact hd'))
      have hput:∀j d,j<m→j≠i→(l.toArray[j]?).bind (·.dst)=some d→(a.put o.dst v).tmps.getD d undef=a.tmps.getD d undef:=fun j d hj hji hjd=>by
       cases hod:o.dst with
       |none=>rfl
       |some d'=>rw [dr (hd1 d' hod),V6 fun e=>hji (hone j i d hj him hjd (by rw [ho,e];exact hod))]
      have hputi:∀d,(l.toArray[i]?).bind (·.dst)=some d→(a.put o.dst v).tmps.getD d undef=v:=fun d hd=>by
       rw [ho] at hd;simp only [X2] at hd;rw [hd,dr (hd1 d hd),V5 rfl]
      have hfd:∀j∈fr,j≠i→L.getD j false=true→i∈fr→∀e,(l.toArray[j]?).bind (·.dst)=some e→a.tmps.getD e undef≠v:=fun j hj hji hjl hif e hje heq=>by
       obtain ⟨b,hb1,hb2⟩:=hI.fb j hj hjl e hje;obtain ⟨b',hv1,hb3,_⟩:=hfv hif;rw [hb1,hv1] at heq;injection heq with heq
       injection heq with heq
       injection heq with heq
       omega
      refine ih _ _ _ ?_ ?_
      ·refine ⟨?_, ?_,hJ _ _ hI.j hv.1,by simpa using hI.ls, ?_, ?_, ?_, ?_, ?_, ?_⟩
       ·cases o.dst<;>exact hI.nd
       ·cases hod:o.dst with
        |none=>exact hI.sz
        |some d=>simpa [Act.put] using hI.sz
       ·intro k ok hk hkl e he hb;rw [cJ hiL] at hkl ⊢;by_cases hki:k=i
        ·subst hki;simp [hed' ok hk e he hb]
        ·simp only [hki,decide_false,W4] at hkl;simp [hI.cl k ok hk hkl e he hb]
       ·intro k hk;rw [cJ hiL,hI.tl k hk];have:¬k=i:=VZ;simp [this]
       ·intro j d hj hjl hjd;rw [cJ hiL] at hjl;have hd1:∀d',o.dst=some d'→d'<a.tmps.size:=fun d' hd'=>by
         rw [hI.sz];exact hdN (i,d') (hpre i d' him (by rw [ho];exact hd'))
        by_cases hji:j=i
        ·subst hji;rw [ho] at hjd;simp only [X2] at hjd;rw [hjd,dr (hd1 d hjd),V5 rfl];exact hv.2
        ·simp only [hji,decide_false,W4] at hjl;have hold:=hI.vs j d hj hjl hjd;have hdj:(j,d)∈ds:=hpre j d hj hjd;have hst:=(hdo j (l.toArray[j]?.getD default) (by
          have:j<l.length:=VZ;rw [XF,V5 hj];simp [this])).choose_spec.2.1
         rw [Ws] at hst;have hne:∀d',o.dst=some d'→d≠d':=fun d' hd' e=>by
          subst e;exact hji (hone j i d hj him hjd (by rw [ho];exact hd'))
         cases hod:o.dst with
         |none=>exact hst _ _ _ hold hv.1
         |some d'=>
          rw [dr (hd1 d' hod),V6 (hne d' hod)];exact hst _ _ _ hold hv.1
       ·intro s' hs';have hni:((l.toArray[i]?).bind (·.dst))≠some s':=hs' i him (by rw [cJ hiL];simp);have hold:=hI.H8 s' fun j hj hjl=>hs' j hj (by rw [cJ hiL];simp [hjl]);rw [ho] at hni;simp only [X2] at hni
        cases hod:o.dst with
        |none=>exact hold
        |some d'=>
         rw [dr (by rw [hI.sz];exact hdN (i,d') (hpre i d' him (by rw [ho];exact hod))),V6 (fun e=>hni (by rw [hod,e]))];exact hold
       ·intro j hj hjl d hjd;rw [cJ hiL] at hjl;by_cases hji:j=i
        ·subst hji;obtain ⟨b,hb1,_,hb3⟩:=hfv hj;exact ⟨b,(hputi d hjd).trans hb1,hb3⟩
        ·simp only [hji,decide_false,W4] at hjl;obtain ⟨b,hb1,hb2⟩:=hI.fb j hj hjl d hjd;exact ⟨b,(hput j d (hfm' j hj) hji hjd).trans hb1,Xe hb2 hv.1.size⟩
       ·intro j hj k hk hjk hjl hkl d e hjd hke;rw [cJ hiL] at hjl hkl;by_cases hji:j=i
        ·subst hji;have hkj:k≠j:=fun e=>hjk e.symm;simp only [hkj,decide_false,W4] at hkl;rw [hputi d hjd,hput k e (hfm' k hk) hkj hke];exact fun he=>hfd k hk hkj hkl hj e hke he.symm
        ·simp only [hji,decide_false,W4] at hjl;by_cases hki:k=i
         ·subst hki;rw [hputi e hke,hput j d (hfm' j hj) hji hjd];exact hfd j hj hji hjl hk d hjd
         ·simp only [hki,decide_false,W4] at hkl;rw [hput j d (hfm' j hj) hji hjd,hput k e (hfm' k hk) hki hke];exact hI.fd j hj k hk hjk hjl hkl d e hjd hke
      ·have hLi:L.toList[i]?=some false:=by
        have h3:i<L.toList.length:=by simpa using hiL
        rw [Xz h3];have:L.getD i false=L.toList[i]:=by simp [hiL]
        rw [←this,hun']
       rw [ZF,List.countP_set (by simpa using hiL)];have h4:L.toList[i]'(by simpa using hiL)=false:=(Wk.1 hLi).2;rw [h4];simp only [Y5,if_false,if_true];omega
     exact ⟨hog _ w hI.j hro,hnext⟩
    exact UW
 exact Re
end
theorem eC {Q:Kq}{id:Nat}{l:List Oper} (fr fl M:List Nat) (m:Nat) (src:List (List (Nat×Option Nat))) (ds:List (Nat×Nat)) {H:List HE} (hh:Hp w0 H w) (hm:P.follows .mixedOrders=true) (hok:nH l m N src ds fl M=true)
  (hfr:td P l fr) (hfm:fr.all (fun i=>i<m)=true) (hQp:NP Q)
  (h:DX P l.toArray (JJ w0 H w) ρ (fun V=>∀f w',JJ w0 H w w'→vw V f w' ds→(∀i∈fr,∀j∈fr,i≠j→f i≠f j)→WL ⟨none,D,false⟩ P N l.toArray Q (l.drop m) (kZ ρ f ds) w') 0 SJ (l.take m) src):WC ⟨none,D,false⟩ P N (.region id l.toArray true) Q ρ w:=by
 obtain ⟨V,_,h1,h2⟩:=FZ _ _ _ _ (fun _ _ _ _=>trivial) h;exact Iu fr fl M m src ds (JJ w0 H w) V hm hok hfr hfm hQp (fun _ _ h hb=>h.ext hb) (JJ.start hh) h1 h2
end
section
variable {ro:Mode}
def bI (ρ:Rf):List (Nat×Value)→Rf
 |[]=>ρ
 |(d,v)::r=>cH (bI ρ r) d v
def SD (f:Nat→Value):List (Nat×Nat)→List (Nat×Value)→Prop
 |[],[]=>True
 |(i,d)::r,(d',v)::s=>(d=d'∧f i=v)∧SD f r s
 |_,_=>False
theorem bg {ρ:Rf}{f:Nat→Value}:∀{ds:List (Nat×Nat)}{vs:List (Nat×Value)},SD f ds vs→kZ ρ f ds=bI ρ vs
 |[],[],_=>rfl
 |[],_::_,h=>h.elim
 |_::_,[],h=>h.elim
 |(i,d)::r,(d',v)::s,h=>by
  obtain ⟨⟨rfl,rfl⟩,h2⟩:=h;rw [kZ,bI,bg h2]
theorem aT {f:Nat→Value}:SD f [] []:=trivial
theorem ae {f:Nat→Value}{i d:Nat}{v:Value}{r:List (Nat×Nat)}{s:List (Nat×Value)} (h:f i=v) (hr:SD f r s):SD f ((i,d)::r) ((d,v)::s):=⟨⟨rfl,h⟩,hr⟩
theorem aU {Q:Kq}{l:List Oper}{ρ':Rf} (h:ρ=ρ') (k:WL ro P N ops Q l ρ' w):WL ro P N ops Q l ρ w:=h ▸ k
section
variable {P:Program}{ops:Array Oper}{J:World→Prop}{ρ:Rf}{T:(Nat→VP)→Prop}{i:Nat}{pv:Nat→VP}{os:List Oper}{s:List (Nat×Option Nat)}{ss:List (List (Nat×Option Nat))}{d:Option Nat}{ty:TypeId}{pos:String}{af:Array Edge}
theorem uO {op:Op}{b:Bool} (hj:(ops[j]?).bind (·.dst)=some dj) (hv:ρ dj=undef) (h:K undef w):OG P ops ⟨d,op,ty,pos,af,some (j,b)⟩ ρ w K:=
 ⟨fun a next Q ha hn=>by
  have h1:Region.wanted ⟨d,op,ty,pos,af,some (j,b)⟩ (yielded ops a.tmps)=false:=by
   have h2:=ha dj;rw [hv,Xo] at h2
   cases h3:a.tmps[dj]? with
   |none=>simp [Region.wanted,yielded,hj,h3]
   |some x=>
    rw [h3] at h2;simp only [Xj] at h2;subst h2;simp [Region.wanted,yielded,hj,h3,undef]
  rw [h1];exact hn _ _ h⟩
theorem Bt {b:Bool}{op:Op} (hj:(ops[j]?).bind (·.dst)=some dj) (hv:∀ρ1 w1,J w1→cZ (pv) ρ ρ1 w1 s→ρ1 dj=undef)
  (k:DX P ops J ρ T (i+1) (dK pv i (Is undef)) os ss):DX P ops J ρ T i pv (⟨d,op,ty,pos,af,some (j,b)⟩::os) (s::ss):=
 aP (Is undef) Is.ext (fun ρ1 w1 hj' h=>uO hj (hv ρ1 w1 hj' h) ⟨Below.refl _ _,rfl⟩) k
theorem bh {b:Bool}{t e:TypeId}{len sz:Nat} (hj:(ops[j]?).bind (·.dst)=some dj) (hg:∀ρ1 w1,J w1→cZ (pv) ρ ρ1 w1 s→ρ1 dj=.bool b)
  (ht:P.underlying t=some (.slice e)) (hte:cQ P e=some (sz,ag,by',zc))
  (hp:∀ρ1 w1,J w1→cZ (pv) ρ ρ1 w1 s→wB ρ1 parts.toList=ps) (hzl:zc.length=sz) (hf:kI (fun i=>some (i*sz,sz)) (eI len zc) ps=some cs) (h0:¬len*sz=0) (hsl:len*sz≤16777216) (hl:cs.length=len*sz)
  (k:DX P ops J ρ T (i+1) (dK pv i (Rows len sz cs)) os ss):DX P ops J ρ T i pv (⟨d,.buildSlice t len parts,ty,pos,af,some (j,b)⟩::os) (s::ss):=
 aP (Rows len sz cs) Rows.ext (fun ρ1 w1 hj' h=>bo hj (hg ρ1 w1 hj' h) (je ht hte (hp ρ1 w1 hj' h) hzl hf h0 hsl hl fun _ _ ⟨_,hv,hs⟩ hb=>⟨hb,_,_,hv,hs⟩)) k
end
theorem Hp.iF {f:α→List Value}{sz:Nat}{H:List HE}{i e g:Nat}{l:List α}{x:α} (hh:Hp w0 H w) (hi:H[i]?=some (.row (some ⟨g,0,none⟩) n c e sz (aA f l))) (hf:∀x,(f x).length=sz) (h0:0<sz) (hx:l[k]?=some x):Rd w ⟨g,k*sz,none⟩ (f x):=by
 have hs:=hh.aD hi;have hl:=hs.bE hf h0;obtain ⟨ad,h1,h2⟩:=hs.2 (by have:=(Wk.1 hx).1;omega);injection h1 with h1
 subst h1;have h3:=h2.recAt hf hx;rwa [eW,Ws] at h3
end
section
variable {ro:Mode}
section
variable {P:Program}{ρ:Rf}{w:World}
end
end
section
variable {ro:Mode}
section
variable {P:Program}{ρ:Rf}{w:World}
end
section
variable {P:Program}{N:Nat}{ops:Array Oper}{Q:Kq}{ρ:Rf}{w:World}{rest:List Oper}{d ty:Nat}{pos:String}{af:Array Edge}
end
end
section
variable {P:Program}{N:Nat}{Q:Kq}{ρ:Rf}{w:World}
structure WA (P:Program) (N:Nat) (ops:Array Oper) (Q:Kq) (fuel:Nat) (L:Array Bool) (ρ:Rf) (w:World):Prop where
 out:∀a,Fits N a ρ→wpAny P .any ops (lift N Q) fuel L a w
theorem tJ {a:Act}{K:Act→World→Prop}{r:Result Next} (h:o.upon P a K (lift N (cG next Q)) r):o.upon P a K (lift N Q) r:=by
 have hp:∀c a w,lift N (cG next Q) (.panic c) a w→lift N Q (.panic c) a w:=fun _ _ _ h=>h;have ho:LetsOut (lift N (cG next Q))→LetsOut (lift N Q):=fun ⟨a,w,h⟩=>⟨a,w,h⟩
 cases r with
 |ok n w'=>
  cases n<;>simp only [Oper.upon] at h ⊢ <;>first
   |exact h
   |exact Calls.mono h (fun e w'' he=>by cases e<;>first|exact he|exact hp _ _ _ he|exact ho he)
 |halt x w'=>cases x<;>simp only [Oper.upon] at h ⊢ <;>first|exact h|exact hp _ _ _ h|exact ho h
theorem E0 {L:Array Bool} (hr:Region.ready .any ops L=rs) (hne:rs≠[])
  (h:∀i∈rs,∃o,ops[i]?=some o∧WL .plain P N ops (cG (fun ρ w=>WA P N ops Q fuel (L.setIfInBounds i true) ρ w) Q) [o] ρ w):WA P N ops Q (fuel+1) L ρ w:=by
 refine ⟨fun a hf=>wpAny_all hr hne fun i hi=> ?_⟩;obtain ⟨o,ho,hw⟩:=h i hi;have h1:=hw.out a hf;have hK:∀a w,wpList P ops (lift N (cG (fun ρ w=>WA P N ops Q fuel (L.setIfInBounds i true) ρ w) Q)) [] a w→wpAny P .any ops (lift N Q) fuel (L.setIfInBounds i true) a w:=fun a w ⟨ρ',hf',hq⟩=>by
  have hq':WA P N ops Q fuel (L.setIfInBounds i true) ρ' w:=hq;exact hq'.out a hf'
 unfold wpOp;rw [ho];simp only [];unfold wpList at h1;split at h1
 ·rename_i hwt;rw [V5 hwt];refine h1.imp (fun h2=>Oper.wp_mono hK ?_) (fun h2=>⟨h2.1, ?_⟩)
  ·unfold Oper.wp at h2 ⊢;exact tJ h2
  ·obtain ⟨a',w',h3⟩:=h2.2;exact ⟨a',w',h3⟩
 ·rename_i hwt;rw [V6 hwt];exact hK _ _ h1
theorem fV {L:Array Bool}{i:Nat} (hr:Region.ready .any ops L=[i]) (ho:ops[i]?=some o)
  (h:WL .plain P N ops (cG (fun ρ w=>WA P N ops Q fuel (L.setIfInBounds i true) ρ w) Q) [o] ρ w):WA P N ops Q (fuel+1) L ρ w:=
 E0 hr (by simp) fun j hj=>by
  obtain rfl:j=i:=by simpa using hj
  exact ⟨o,ho,h⟩
theorem tf {L:Array Bool}{i i2:Nat}{o2:Oper} (hr:Region.ready .any ops L=[i,i2]) (ho:ops[i]?=some o) (ho2:ops[i2]?=some o2)
  (h:WL .plain P N ops (cG (fun ρ w=>WA P N ops Q fuel (L.setIfInBounds i true) ρ w) Q) [o] ρ w)
  (h2:WL .plain P N ops (cG (fun ρ w=>WA P N ops Q fuel (L.setIfInBounds i2 true) ρ w) Q) [o2] ρ w):WA P N ops Q (fuel+1) L ρ w:=
 E0 hr (by simp) fun j hj=>by
  rcases Wp.1 hj with rfl|hj
  ·exact ⟨o,ho,h⟩
  ·obtain rfl:j=i2:=by simpa using hj
   exact ⟨o2,ho2,h2⟩
theorem fw {L:Array Bool} (h:WA P N ops Q fuel L ρ w):WL .plain P N ops (cG (fun ρ w=>WA P N ops Q fuel L ρ w) Q) [] ρ w:=aa h
theorem kF {l:List Oper}{L:Array Bool} (m:Nat) (hm:m≤l.length) (hL:L=iY l.length m) (hf:l.length≤fuel+m)
  (hr:((List.range (l.length-m)).all fun k=>Region.ready .any l.toArray (iY l.length (m+k))==[m+k])=true) (hend:Region.ready .any l.toArray (iY l.length l.length)=[])
  (h:WL .plain P N l.toArray Q (l.drop m) ρ w):WA P N l.toArray Q fuel L ρ w:=
 ⟨fun a hfits=>by
  rw [hL];refine mr m (fun k h1 h2=> ?_) hend fuel m a w (V9 _) hm hf (h.out a hfits);have h3:=Wq.1 hr (k-m) (by simp;omega);rw [show m+(k-m)=k by omega] at h3;exact eq_of_beq h3⟩
theorem qz {id:Nat}{l:List Oper}{H:List HE} (hh:Hp w0 H w) (hm:P.follows .mixedOrders=true) (h:∀w',JJ w0 H w w'→WA P N l.toArray Q l.length (Array.replicate l.length false) ρ w'):WC .plain P N (.region id l.toArray true) Q ρ w:=by
 refine WC.mY fun a hf=>wp_region_any hm ?_;have hb:Below w.heap.size w ({ w with drawn:=w.drawn+1 }:World):=⟨rfl,rfl,rfl,V9 _,fun _ _=>rfl⟩;have:=(h _ ((JJ.start hh).ext hb)).out a hf;simpa using this
end
section
variable {P:Program}{N:Nat}{Q:Kq}{ρ:Rf}{w:World}
def GJ:List Nat→List (List Nat)
 |[]=>[[]]
 |x::r=>GJ r++(GJ r).map (x:: ·)
theorem rO (p:Nat→Bool):∀l:List Nat,l.filter p∈GJ l
 |[]=>by simp [GJ]
 |x::r=>by
  have ih:=rO p r;rw [List.filter_cons,GJ];split
  ·exact XU _ (Wo.2 ⟨_,ih,rfl⟩)
  ·exact X5 _ ih
def lD (n m:Nat) (fl D:List Nat):Array Bool:=((List.range n).map fun i=>decide (i<m∧(i∉fl∨i∈D))).toArray
def Er (l:List Oper) (fl D:List Nat):Bool:=D.all fun i=>match l[i]? with
 |some o=>o.after.all fun e=> !Region.binds .any e|| !fl.contains e.on||D.contains e.on
 |none=>true
def Se (ds:List (Nat×Nat)) (fl D:List Nat):List (Nat×Nat):=ds.filter fun p=> !fl.contains p.1||D.contains p.1
def FK (l:List Oper) (m:Nat) (fl:List Nat) (ds:List (Nat×Nat)):List (List Nat×Nat×List (Nat×Nat)):=
 ((GJ fl).filter (Er l fl)).map fun D=>(D,l.length-(lD l.length m fl D).toList.countP (fun b=>b)-1,Se ds fl D)
def zd (l:List Oper) (m N:Nat) (src:List (List (Nat×Option Nat))) (ds:List (Nat×Nat)) (fl M:List Nat):Bool:=
 let ops:=l.toArray
 let pre:=(List.range m).map fun i=>((ops[i]?).bind (·.dst))
 (m≤l.length) && (src.length==m) &&
 (ds==(pre.zipIdx.filterMap fun (d,i)=>d.map fun d=>(i,d)).reverse) && (decide (ds.map (·.2)).Nodup) && (ds.all fun p=>p.2<N) &&
 ((List.range m).all fun i=>match ops[i]?,src[i]? with
  |some o,some s=>((o.looksAt ops).all fun t=>s.any fun p=>p.1==t) &&
    s.all fun p=>match p.2 with
     |some j=>(j<m) && ((ops[j]?).bind (·.dst)==some p.1) && (M.getD i 0).testBit j
     |none=>(List.range m).all fun j=> !((ops[j]?).bind (·.dst)==some p.1)||(j !=i && (M.getD j 0).testBit i)
  |_,_=>false) &&
 (l.length==m||((List.range m).all fun i=>fl.contains i||(M.getD m 0).testBit i)) &&
 ((List.range (l.length-m)).all fun k=>k==0||(M.getD (m+k) 0).testBit m) &&
 ((List.range l.length).all fun i=>match ops[i]? with|some o=>o.after.all fun e=> !Region.binds .any e||e.on<i|none=>false) && (uq l []==M)
theorem KA {id:Nat}{l:List Oper} (fl M:List Nat) (m:Nat) (src:List (List (Nat×Option Nat))) (ds:List (Nat×Nat)) (Ds:List (List Nat×Nat×List (Nat×Nat))) (J:World→Prop) (V:Nat→Value→World→Prop) (hm:P.follows .mixedOrders=true) (hok:zd l m N src ds fl M=true) (hDs:FK l m fl ds=Ds) (hmn:m<l.length)
  (hJ:∀w w',J w→Below w.heap.size w w'→J w') (h0:J w) (hops:DO P l.toArray J V ρ 0 (l.take m) src)
  (tail:∀p∈Ds,∀f w',J w'→vw V f w' p.2.2→WL .plain P N l.toArray (cG (fun ρ w=>WA P N l.toArray Q p.2.1 ((lD l.length m fl p.1).setIfInBounds m true) ρ w) Q) ((l.drop m).take 1) (kZ ρ f p.2.2) w'):WC .plain P N (.region id l.toArray true) Q ρ w:=by
 refine WC.mY fun a hf=>wp_region_any hm ?_;simp only [zd,Wm,Wt,Xy,Wq,Xn] at hok;obtain ⟨⟨⟨⟨⟨⟨⟨⟨⟨hml,_⟩,hds⟩,hnd⟩,hdN⟩,hrd⟩,htail⟩,hdep⟩,hedge⟩,hM⟩:=hok;have hdo:=(Ev _ _ _ hops).2;have hpre:∀i d,i<m→((l.toArray[i]?).bind (·.dst))=some d→(i,d)∈ds:=fun i d hi hd=>by
  exact Mu
 have hdsm:∀i d,(i,d)∈ds→i<m∧((l.toArray[i]?).bind (·.dst))=some d:=fun i d hp=>by
  exact NG
 have hone:∀i j d,i<m→j<m→((l.toArray[i]?).bind (·.dst))=some d→((l.toArray[j]?).bind (·.dst))=some d→i=j:=fun i j d hi hj h1 h2=>by
  exact NV
 have hnn:l.toArray.size=l.length:=by simp
 have part:∀(L:Array Bool) (a:Act) (w:World) (fuel:Nat),T3 [] [] N l.toArray m ρ J V L a w→(∀i,i<m→i∉fl→L.getD i false=true)→fuel+1+L.toList.countP (fun b=>b)=l.length→∀o,l.toArray[m]?=some o→
   wpOp P l.toArray (lift N Q) m (wpAny P .any l.toArray (lift N Q) fuel (L.setIfInBounds m true)) a w:=by
  intro L a w fuel hI hall hfu o ho;have hflt:∀i,i∈fl.filter (fun i=>L.getD i false)↔i∈fl∧L.getD i false=true:=fun i=>by rw [XI]
  have hL:L=lD l.length m fl (fl.filter fun i=>L.getD i false):=by
   apply Array.ext (by simp [lD,hI.ls]);intro i h1 h2;have e1:L.getD i false=L[i]:=by simp [h1]
   rw [←e1];simp only [lD,List.getElem_toArray,List.getElem_map,List.getElem_range]
   rcases WW i m with h|h
   ·by_cases hif:i∈fl
    ·cases hc:L.getD i false with
     |true=>exact (Wr ⟨h,.inr ((hflt i).2 ⟨hif,hc⟩)⟩).symm
     |false=>exact (WG fun hh=>hh.2.elim (fun hn=>hn hif) fun hd=>by rw [((hflt i).1 hd).2] at hc;cases hc).symm
    ·rw [hall i h hif];exact (Wr ⟨h,.inl hif⟩).symm
   ·rw [hI.tl i h];exact (WG fun hh=>by omega).symm
  have hcl:Er l fl (fl.filter fun i=>L.getD i false)=true:=Wq.2 fun i hi=>by
   obtain ⟨h1,h2⟩:=(hflt i).1 hi
   cases hli:l[i]? with
   |none=>rfl
   |some oi=>
    refine Zi.2 fun e he=> ?_
    cases hb:Region.binds .any e with
    |false=>rfl
    |true=>
     have h3:=hI.cl i oi (by rw [Ys];exact hli) h2 e he hb;by_cases hef:e.on∈fl
     ·rw [X4];exact .inr (List.contains_iff_mem.2 ((hflt _).2 ⟨hef,h3⟩))
     ·simp [hef]
  have hmem:(fl.filter (fun i=>L.getD i false),l.length-(lD l.length m fl (fl.filter fun i=>L.getD i false)).toList.countP (fun b=>b)-1,Se ds fl (fl.filter fun i=>L.getD i false))∈Ds:=by
   rw [←hDs];exact Wo.2 ⟨_,XI.2 ⟨rO _ _,hcl⟩,rfl⟩
  have hfu':l.length-L.toList.countP (fun b=>b)-1=fuel:=VZ;have htl:=tail _ hmem;simp only [←hL,hfu'] at htl;have hsub:∀p∈Se ds fl (fl.filter fun i=>L.getD i false),p∈ds∧L.getD p.1 false=true:=fun p hp=>by
   obtain ⟨h1,h2⟩:=XI.1 hp;refine ⟨h1, ?_⟩;simp only [X4,Za,ZD,Yo,Wt] at h2
   rcases h2 with h2|h2
   ·exact hall _ (hdsm _ _ h1).1 h2
   ·exact ((hflt _).1 h2).2
  have hnd':((Se ds fl (fl.filter fun i=>L.getD i false)).map (·.2)).Nodup:=(List.filter_sublist.map _).nodup hnd;have hfits:Fits N a (kZ ρ (fun i=>match (l.toArray[i]?).bind (·.dst) with|some d=>a.tmps.getD d undef|none=>undef) (Se ds fl (fl.filter fun i=>L.getD i false))):=by
   refine ⟨hI.nd,hI.sz,fun s=> ?_⟩;by_cases hs:∃i,(i,s)∈Se ds fl (fl.filter fun i=>L.getD i false)
   ·obtain ⟨i,hi⟩:=hs;rw [(lR _ _ s hnd').1 i hi,(hdsm i s (hsub _ hi).1).2]
   ·rw [(lR _ _ s hnd').2 fun i hi=>hs ⟨i,hi⟩];refine hI.H8 s fun i hi hil hd=>hs ⟨i,XI.2 ⟨hpre i s hi hd, ?_⟩⟩;by_cases hif:i∈fl
    ·rw [X4];exact .inr (List.contains_iff_mem.2 ((hflt i).2 ⟨hif,hil⟩))
    ·simp [hif]
  have h1:=(htl (fun i=>match (l.toArray[i]?).bind (·.dst) with|some d=>a.tmps.getD d undef|none=>undef) w hI.j (qp _ fun p hp=>by
   obtain ⟨h1,h2⟩:=hsub p hp;obtain ⟨h3,h4⟩:=hdsm p.1 p.2 h1;have:=hI.vs p.1 p.2 h3 h2 h4;rw [h4];exact this)).out a hfits
  have hone':(l.drop m).take 1=[o]:=by
   rw [Ys] at ho;obtain ⟨h2,h3⟩:=Wk.1 ho;rw [Xv h2,h3]
   rfl
  rw [hone'] at h1;have hK:∀a w,wpList P l.toArray (lift N (cG (fun ρ w=>WA P N l.toArray Q fuel (L.setIfInBounds m true) ρ w) Q)) [] a w→wpAny P .any l.toArray (lift N Q) fuel (L.setIfInBounds m true) a w:=fun a w ⟨ρ',hf',hq⟩=>by
   have hq':WA P N l.toArray Q fuel (L.setIfInBounds m true) ρ' w:=hq;exact hq'.out a hf'
  unfold wpOp;rw [ho];simp only [];unfold wpList at h1;split at h1
  ·rename_i hwt;rw [V5 hwt];refine h1.imp (fun h2=>Oper.wp_mono hK ?_) (fun h2=>⟨h2.1, ?_⟩)
   ·unfold Oper.wp at h2 ⊢;exact tJ h2
   ·obtain ⟨a',w',h3⟩:=h2.2;exact ⟨a',w',h3⟩
  ·rename_i hwt;rw [V6 hwt];exact hK _ _ h1
 have key:∀(fuel:Nat) (L:Array Bool) (a:Act) (w:World),T3 [] [] N l.toArray m ρ J V L a w→fuel+L.toList.countP (fun b=>b)=l.length→wpAny P .any l.toArray (lift N Q) fuel L a w:=by
  intro fuel
  induction fuel with
  |zero=>
   intro L a w hI hc;have hall:∀i,i<l.length→L.getD i false=true:=fun i hi=>by
    exact PM
   have h1:=hall m hmn;rw [hI.tl m (V9 _)] at h1
   cases h1
  |succ fuel ih=>
   intro L a w hI hc
   ·have hready_spec:∀i,i∈Region.ready .any l.toArray L↔i<l.length∧L.getD i true=false∧∃o,l.toArray[i]?=some o∧∀e∈o.after,Region.binds .any e=true→L.getD e.on false=true:=fun i=>by
     exact Nk
    have both:∀(i:Nat) (_:i<m) (o:Oper) (_:l.toArray[i]?=some o) (_:L.getD i false=false) (_:∀e∈o.after,Region.binds .any e=true→L.getD e.on false=true),
      OG P l.toArray o (fun t=>a.tmps.getD t undef) w (fun v w2=>Below w.heap.size w w2∧V i v w2)∧
      ∀v w2,(Below w.heap.size w w2∧V i v w2)→(i∈([]:List Nat)→∃b,v=.pointer (some ⟨b,0,none⟩)∧w.heap.size≤b∧b<w2.heap.size)→wpAny P .any l.toArray (lift N Q) fuel (L.setIfInBounds i true) (a.put o.dst v) w2:=fun i him o ho hun' hed=>by
     have hiL:i<L.size:=by rw [hI.ls,hnn];omega
     have hed':∀o',l.toArray[i]?=some o'→∀e∈o'.after,Region.binds .any e=true→L.getD e.on false=true:=fun o' ho'=>by
      rw [ho] at ho';injection ho' with ho';subst ho';exact hed
     have hok':(l.take m)[i]?=some o:=by
      rw [XF,V5 him];simpa using ho
     obtain ⟨s,hs,hstab,hog⟩:=hdo i o hok';rw [Ws] at hstab hog;have hrdi:=hrd i him;rw [ho,hs] at hrdi;simp only [Wm,Wq] at hrdi;have hro:cZ V ρ (fun t=>a.tmps.getD t undef) w s:=nS s fun p hp=>by
      have hp2:=hrdi.2 p hp
      cases hp3:p.2 with
      |some j=>
       rw [hp3] at hp2;simp only [Wm,Wt,Xy] at hp2;exact hI.vs j p.1 hp2.1.1 (gk hM hI.cl i j hed' hp2.2) hp2.1.2
      |none=>
       rw [hp3] at hp2;refine hI.H8 p.1 fun j hj hjl hjd=> ?_;have h6:=Wq.1 hp2 j (by simpa using hj);rw [hjd] at h6;simp only [beq_self_eq_true,Y1,W4,Wm] at h6;have:=gk hM hI.cl j i (fun o' ho' e he hb=>hI.cl j o' ho' hjl e he hb) h6.2;rw [hun'] at this
       cases this
     have hnext:∀v w2,(Below w.heap.size w w2∧V i v w2)→(i∈([]:List Nat)→∃b,v=.pointer (some ⟨b,0,none⟩)∧w.heap.size≤b∧b<w2.heap.size)→wpAny P .any l.toArray (lift N Q) fuel (L.setIfInBounds i true) (a.put o.dst v) w2:=fun v w2 hv hfv=>by
      have hd1:∀d',o.dst=some d'→d'<a.tmps.size:=fun d' hd'=>by
       rw [hI.sz];exact hdN (i,d') (hpre i d' him (by rw [ho];exact hd'))
      have hput:∀j d,j<m→j≠i→(l.toArray[j]?).bind (·.dst)=some d→(a.put o.dst v).tmps.getD d undef=a.tmps.getD d undef:=fun j d hj hji hjd=>by
       cases hod:o.dst with
       |none=>rfl
       |some d'=>rw [dr (hd1 d' hod),V6 fun e=>hji (hone j i d hj him hjd (by rw [ho,e];exact hod))]
      have hputi:∀d,(l.toArray[i]?).bind (·.dst)=some d→(a.put o.dst v).tmps.getD d undef=v:=fun d hd=>by
       rw [ho] at hd;simp only [X2] at hd;rw [hd,dr (hd1 d hd),V5 rfl]
      refine ih _ _ _ ?_ ?_
      ·refine ⟨?_, ?_,hJ _ _ hI.j hv.1,by simpa using hI.ls, ?_, ?_, ?_, ?_, ?_, ?_⟩
       ·cases o.dst<;>exact hI.nd
       ·cases hod:o.dst with
        |none=>exact hI.sz
        |some d=>simpa [Act.put] using hI.sz
       ·intro k ok hk hkl e he hb;rw [cJ hiL] at hkl ⊢;by_cases hki:k=i
        ·subst hki;simp [hed' ok hk e he hb]
        ·simp only [hki,decide_false,W4] at hkl;simp [hI.cl k ok hk hkl e he hb]
       ·intro k hk;rw [cJ hiL,hI.tl k hk];have:¬k=i:=VZ;simp [this]
       ·intro j d hj hjl hjd;rw [cJ hiL] at hjl;have hd1:∀d',o.dst=some d'→d'<a.tmps.size:=fun d' hd'=>by
         rw [hI.sz];exact hdN (i,d') (hpre i d' him (by rw [ho];exact hd'))
        by_cases hji:j=i
        ·subst hji;rw [ho] at hjd;simp only [X2] at hjd;rw [hjd,dr (hd1 d hjd),V5 rfl];exact hv.2
        ·simp only [hji,decide_false,W4] at hjl;have hold:=hI.vs j d hj hjl hjd;have hdj:(j,d)∈ds:=hpre j d hj hjd;have hst:=(hdo j (l.toArray[j]?.getD default) (by
          have:j<l.length:=VZ;rw [XF,V5 hj];simp [this])).choose_spec.2.1
         rw [Ws] at hst;have hne:∀d',o.dst=some d'→d≠d':=fun d' hd' e=>by
          subst e;exact hji (hone j i d hj him hjd (by rw [ho];exact hd'))
         cases hod:o.dst with
         |none=>exact hst _ _ _ hold hv.1
         |some d'=>
          rw [dr (hd1 d' hod),V6 (hne d' hod)];exact hst _ _ _ hold hv.1
       ·intro s' hs';have hni:((l.toArray[i]?).bind (·.dst))≠some s':=hs' i him (by rw [cJ hiL];simp);have hold:=hI.H8 s' fun j hj hjl=>hs' j hj (by rw [cJ hiL];simp [hjl]);rw [ho] at hni;simp only [X2] at hni
        cases hod:o.dst with
        |none=>exact hold
        |some d'=>
         rw [dr (by rw [hI.sz];exact hdN (i,d') (hpre i d' him (by rw [ho];exact hod))),V6 (fun e=>hni (by rw [hod,e]))];exact hold
       ·intro j hj
        cases hj
       ·intro j hj
        cases hj
      ·have hLi:L.toList[i]?=some false:=by
        have h3:i<L.toList.length:=by simpa using hiL
        rw [Xz h3];have:L.getD i false=L.toList[i]:=by simp [hiL]
        rw [←this,hun']
       rw [ZF,List.countP_set (by simpa using hiL)];have h4:L.toList[i]'(by simpa using hiL)=false:=(Wk.1 hLi).2;rw [h4];simp only [Y5,if_false,if_true];omega
     exact ⟨hog _ w hI.j hro,hnext⟩
    refine ⟨fun hnil=> ?_,fun i hi=> ?_⟩
    ·exfalso;have hmin:∀k,(∃i,i<k∧i<m+1∧L.getD i false=false)→∃i,i<m+1∧L.getD i false=false∧∀j,j<i→L.getD j false=true:=by
      intro k
      induction k with
      |zero=>rintro ⟨i,h,_⟩;omega
      |succ k ihk=>
       rintro ⟨i,h1,h2,h3⟩;by_cases hex:∃i,i<k∧i<m+1∧L.getD i false=false
       ·exact ihk hex
       ·exact S6
     obtain ⟨i,hi,hu,hlow⟩:=hmin (m+1) ⟨m,VZ,VZ,hI.tl m (V9 _)⟩;exact Ty
    ·obtain ⟨hil,hun,o,ho,hed⟩:=(hready_spec i).1 hi;have hiL:i<L.size:=by rw [hI.ls,hnn];exact hil
     have hun':L.getD i false=false:=by
      exact Sq
     have hed':∀o',l.toArray[i]?=some o'→∀e∈o'.after,Region.binds .any e=true→L.getD e.on false=true:=fun o' ho'=>by
      exact Jw
     rcases WW i m with him|him
     ·obtain ⟨hog,hnext⟩:=both i him o ho hun' hed;have hgo:=hog.out a (wpAny P .any l.toArray (lift N Q) fuel (L.setIfInBounds i true)) (lift N Q) (fun _=>rfl) fun v w2 hv=>hnext v w2 hv fun h=>nomatch h;unfold wpOp;rw [ho];exact hgo
     ·rcases WW m i with h2|h2
      ·exfalso;exact Pf
      ·obtain rfl:i=m:=VZ;refine part L a w fuel hI (fun j hj hjf=> ?_) hc o ho;have h4:(l.length==i)=false:=by simp;omega
       rw [h4,W4] at htail;have h6:=Wq.1 htail j (by simpa using hj);have h7:fl.contains j=false:=by simpa using hjf
       rw [h7,W4] at h6;exact gk hM hI.cl i j hed' h6
 exact Re
end
theorem qY {Q:Kq}{id:Nat}{l:List Oper} (fl M:List Nat) (m:Nat) (src:List (List (Nat×Option Nat))) (ds:List (Nat×Nat)) (Ds:List (List Nat×Nat×List (Nat×Nat))) {H:List HE} (hh:Hp w0 H w) (hm:P.follows .mixedOrders=true) (hok:zd l m N src ds fl M=true) (hDs:FK l m fl ds=Ds) (hmn:m<l.length)
  (h:DX P l.toArray (JJ w0 H w) ρ (fun V=>∀p∈Ds,∀f w',JJ w0 H w w'→vw V f w' p.2.2→WL .plain P N l.toArray (cG (fun ρ w=>WA P N l.toArray Q p.2.1 ((lD l.length m fl p.1).setIfInBounds m true) ρ w) Q) ((l.drop m).take 1) (kZ ρ f p.2.2) w') 0 SJ (l.take m) src):WC .plain P N (.region id l.toArray true) Q ρ w:=by
 obtain ⟨V,_,h1,h2⟩:=FZ _ _ _ _ (fun _ _ _ _=>trivial) h;exact KA fl M m src ds Ds (JJ w0 H w) V hm hok hDs hmn (fun _ _ h hb=>h.ext hb) (JJ.start hh) h1 h2
theorem gK {d:Option Nat}{ty:TypeId}{af:Array Edge}{g:Option (Nat×Bool)}{t e:TypeId}{x lo:Operand}{A:Option Addr}{l sz:Nat}{k:IntKind}{m:Int} (ht:P.underlying t=some (.slice e)) (hsz:(P.info? e).map (·.size)=some sz) (hx:ev ρ x=.slice A n c) (hlo:ev ρ lo=.int k m)
  (hm:m=(l:Int)) (h1:l≤n) (h2:n≤c):(execOp (ev ρ) ⟨d,.slice t x (some lo) none none,ty,pos,af,g⟩).run P w=.ok (.value (.slice (if c=l then A else A.map (·.add (l*sz))) (n-l) (c-l))) w:=
 gU (lo:=some lo) (hi:=none) (l:=l) (h:=n) ht hsz hx ⟨k,m,hlo,hm⟩ rfl h1 h2
theorem Sl.front {A:Option Addr} (h:Sl w A n k xs) (hm:m≤n):Sl w A m k (xs.take (m*k)):=by
 have hle:m*k≤n*k:=Xr _ hm;refine ⟨by rw [Ww,h.1];omega,fun h0=> ?_⟩;obtain ⟨ad,h1,h2⟩:=h.2 VZ;exact ⟨ad,h1,h2.take _⟩
theorem Sl.back {A:Option Addr}{l:Nat} (h:Sl w A n k xs) (hl:l≤n) (hc:n≤c):Sl w (if c=l then A else A.map (·.add (l*k))) (n-l) k (xs.drop (l*k)):=by
 have h1:=h.cut hl (V9 n) hc;have h2:((xs.drop (l*k)).take ((n-l)*k))=xs.drop (l*k):=Wc (by rw [Xu,h.1,Nat.sub_mul];exact V9 _);rwa [h2] at h1
def yt (base:Nat) (t:TypeId) (sz:Nat):VP:=fun v W=>∃g,v=.slice (some ⟨g,0,none⟩) 0 0∧W.ownsRow base t sz (.slice (some ⟨g,0,none⟩) 0 0) 0 []
def mw (base:Nat) (t:TypeId) (n sz:Nat) (cs:List Value):VP:=fun v W=>∃A c,v=.slice A n c∧W.ownsRow base t sz (.slice A n c) n cs
theorem lP {t:TypeId}{sz:Nat}{A:Option Addr} (h:w.ownsRow base t sz (.slice A n c) n xs) (hb:Below w.heap.size w w'):w'.ownsRow base t sz (.slice A n c) n xs:=by
 refine ⟨h.1,h.2.imp id ?_⟩;rintro ⟨g,cap,cur,h1,h2,h3,h4⟩;have hlt:g<w.heap.size:=by
  rcases WW g w.heap.size with h|h
  ·exact h
  ·rw [YO h] at h3;cases h3
 exact ⟨g,cap,cur,h1,h2,(hb.block g hlt).trans h3,h4⟩
theorem yt.ext {t:TypeId}{sz:Nat} (v:Value) (w w':World) (h:yt base t sz v w) (hb:Below w.heap.size w w'):yt base t sz v w':=let ⟨g,h1,h2⟩:=h;⟨g,h1,lP h2 hb⟩
theorem mw.ext {t:TypeId}{sz:Nat} (v:Value) (w w':World) (h:mw base t n sz cs v w) (hb:Below w.heap.size w w'):mw base t n sz cs v w':=let ⟨A,c,h1,h2⟩:=h;⟨A,c,h1,lP h2 hb⟩
theorem JJ.yI {H:List HE}{t:TypeId}{sz:Nat}{A:Option Addr} (hs:Hp w0 H w) (h:Hp w0 H W) (ho:W.ownsRow w.heap.size t sz (.slice A n c) n cs):Hp w0 (.row A n c t sz cs::H) W:=by
 refine ⟨h.below,fun x hx=> ?_, ?_⟩
 ·rcases Wp.1 hx with rfl|hx
  ·refine ⟨ho.1,ho.2.imp id ?_⟩;rintro ⟨g,cap,cur,h1,h2,h3⟩;exact ⟨g,cap,cur,h1,WK hs.size h2,h3⟩
  ·exact h.own x hx
 ·rw [XE]
  rcases ho.2 with ⟨h1,_⟩|⟨g,cap,cur,h1,h2,_⟩
  ·injection h1 with e1
   subst e1;exact h.nd
  ·injection h1 with e1
   subst e1;show (g::H.filterMap HE.id).Nodup;refine XR.2 ⟨fun hm=> ?_,h.nd⟩;obtain ⟨y,hy,hyb⟩:=Xp.1 hm;have:=(ea (hs.own y hy) hyb).2;omega
section
variable {P:Program}{ops:Array Oper}{J:World→Prop}{ρ:Rf}{T:(Nat→VP)→Prop}{i:Nat}{pv:Nat→VP}{os:List Oper}{s:List (Nat×Option Nat)}{ss:List (List (Nat×Option Nat))}{d:Option Nat}{ty:TypeId}{pos:String}{af:Array Edge}
theorem qS {t e:TypeId}{sz:Nat} (ht:P.underlying t=some (.slice e)) (hte:cQ P e=some (sz,ag,by',zc)) (hJ:∀w1,J w1→base≤w1.heap.size)
  (k:DX P ops J ρ T (i+1) (dK pv i (yt base e sz)) os ss):DX P ops J ρ T i pv (⟨d,.buildSlice t 0 #[],ty,pos,af,none⟩::os) (s::ss):=
 aP (yt base e sz) yt.ext (fun ρ1 w1 hj' h=>by
  have hb:Below w1.heap.size w1 (w1.alloc (.cells #[] e)):=(Below.refl _ _).alloc (V9 _) _;refine dv rfl (w':=w1.alloc (.cells #[] e)) (v:=.slice (some ⟨w1.heap.size,0,none⟩) 0 0) ?_ ⟨hb,w1.heap.size,rfl,by simp,.inr ⟨w1.heap.size,0, #[],rfl,hJ w1 hj',heap_alloc_new w1 _,V9 _,by unfold maxLen;omega,by simp,by simp⟩⟩;have e0:Array.range 0= #[]:=rfl;simp [execOp,Instr.buildSlice,run_underlying ht,eG hte,Instr.fill,newRow,e0]) k
theorem vI {g:Nat}{t ty e:TypeId}{sz:Nat} (ht:P.underlying t=some (.slice e)) (hte:cQ P e=some (sz,ag,by',zc)) (hzl:zc.length=sz) (hsz:0<sz)
  (hown:w.ownsRow base e sz (.slice (some ⟨g,0,none⟩) 0 0) 0 []) {B:Option Addr} (hsl:Sl w B m sz news) (h1:∀u∈news,u.oneCell'=true)
  (h63:m≤maxLen) (hbytes:m*by'≤140737488355328) (hbase:base≤w.heap.size):
  ∃A' c2 w',(Builtin.append_ #[t,t] ty #[.slice (some ⟨g,0,none⟩) 0 0,.slice B m c']).run P w=.ok (.slice A' m c2) w'∧w'.ownsRow base e sz (.slice A' m c2) m news∧Below w.heap.size w w':=by
 obtain ⟨i,z,dd,hi,hd,hz,hs,hby,hzc,_⟩:=dx hte
 rcases XM m with h0|h0
 ·subst h0;have hnews:news=[]:=XA (by simpa using hsl.1);subst hnews;refine ⟨_,_,w, ?_,hown,Below.refl _ _⟩;exact SN
 ·obtain ⟨ad,rfl,hr⟩:=hsl.2 h0;have hsrc:Src P i.size t (.slice (some ad) m c') m news w:=Src.ofSlice w ht ad m c' news (by rw [hs];exact hsl.1) hr h1;have hfit:Builtin.nextslicecap (0+m) 0*i.bytes≤281474976710656:=growslice_fits VZ (by rw [hby,Ws];exact hbytes);have hb63:((0+m:Nat):Int)≤9223372036854775807:=by unfold maxLen at h63;omega
  have hone:∀base2:Option Addr,(Builtin.firstCells i.size 0 (.slice base2 0 0)).run P w.drew=.ok ([]:List Value).toArray w.drew:=fun base2=>by
   exact Tz
  have hA:=run_append_grow_src w t t ty e i z ht hi hz (some ⟨g,0,none⟩) 0 0 [] (hone _) _ m news hsrc VZ hb63 hfit;have hB:=run_append_grow_src w t t ty e i z ht hi hz none 0 0 [] (hone _) _ m news hsrc VZ hb63 hfit;obtain ⟨A',c2,w',r1,r2,r3,_⟩:=jd (P:=P) (w:=w) base t ty e sz by' ag zc ht hte hzl hsz none 0 0 [] (World.ownsRow_nil w base e sz) (some ad) m c' news ⟨hsl.1,fun _=>⟨ad,rfl,hr⟩⟩ h1 VZ (by rw [Ws];exact hbytes) hbase;rw [hB,←hA] at r1;rw [Ws] at r1 r2;rw [Wd] at r2;exact ⟨A',c2,w',r1,r2,r3.os,r3.tape,r3.output,r3.size,fun k hk=>r3.block k hk (by simp)⟩
theorem ur {t e:TypeId}{x y:Operand}{sz:Nat} (hx:∀ρ1 w1,J w1→cZ (pv) ρ ρ1 w1 s→yt base e sz (ev ρ1 x) w1) (hy:∀ρ1 w1,J w1→cZ (pv) ρ ρ1 w1 s→∃B c',ev ρ1 y=.slice B m c'∧Sl w1 B m sz news)
  (ht:P.underlying t=some (.slice e)) (hte:cQ P e=some (sz,ag,by',zc)) (hzl:zc.length=sz) (hsz:0<sz) (h1:news.all Value.oneCell'=true) (h63:m≤maxLen) (hbytes:m*by'≤140737488355328) (hJ:∀w1,J w1→base≤w1.heap.size)
  (k:DX P ops J ρ T (i+1) (dK pv i (mw base e m sz news)) os ss):DX P ops J ρ T i pv (⟨d,.call ⟨.builtin .append, #[x,y], #[t,t]⟩,ty,pos,af,none⟩::os) (s::ss):=
 aP (mw base e m sz news) mw.ext (fun ρ1 w1 hj' h=>by
  obtain ⟨g,e1,ho⟩:=hx ρ1 w1 hj' h;obtain ⟨B,c',e2,hsl⟩:=hy ρ1 w1 hj' h;obtain ⟨A',c2,w',r1,r2,r3⟩:=vI (P:=P) (ty:=ty) (c':=c') ht hte hzl hsz ho hsl (fun u hu=>Wq.1 h1 u hu) h63 hbytes (hJ w1 hj');refine dv rfl (w':=w') (v:=.slice A' m c2) ?_ ⟨r3,A',c2,rfl,r2⟩;simp only [execOp,resolve,invoke,builtin,Sem.run_bind,Sem.run_pure,Result.andThen_ok,Yn,Wv,WV,e1,e2,r1]) k
end
section
variable {D:List Deferred}
section
variable {P:Program}{N:Nat}{Q:Kq}{ρ:Rf}{w:World}
structure VS (D:List Deferred) (N:Nat) (ops:Array Oper) (m μ:Nat) (ρ:Rf) (J:Bool→World→Prop) (V:Nat→Value→World→Prop) (L:Array Bool) (a:Act) (w:World):Prop where
 nd:a.defers=D
 sz:a.tmps.size=N
 j:J (L.getD μ false) w
 ls:L.size=ops.size
 cl:pd ops L
 tl:∀k,m≤k→L.getD k false=false
 vs:∀i d,i<m→L.getD i false=true→(ops[i]?).bind (·.dst)=some d→V i (a.tmps.getD d undef) w
 H8:∀s,(∀i,i<m→L.getD i false=true→(ops[i]?).bind (·.dst)≠some s)→a.tmps.getD s undef=ρ s
end
def Vr (V:Nat→VP):List Nat→Prop
 |[]=>True
 |i::r=>(∀v w w',V i v w→V i v w')∧Vr V r
structure JC (w0:World) (H:List HE) (W:World):Prop where
 hp:Hp w0 H W
end
variable {args:Array Operand}{ft t':TypeId}{fz:Nat×Nat}{off:Nat}{r:Bool}{vs:List Value}
section
variable {P:Program}{ops:Array Oper}{J:World→Prop}{ρ:Rf}{T:(Nat→VP)→Prop}{i:Nat}{pv:Nat→VP}{os:List Oper}{s:List (Nat×Option Nat)}{ss:List (List (Nat×Option Nat))}{d:Option Nat}{ty:TypeId}{pos:String}{af:Array Edge}{x y:Operand}{t u:TypeId}
theorem dn {k:IntKind}{a:Int} (kk:DX P ops J ρ T (i+1) (dK pv i (Is (.int k a))) os ss) (hx:∀ρ1 w1,J w1→cZ pv ρ ρ1 w1 s→ev ρ1 x=.int k a:=by intro ρ1 w1 hj hR;first|exact hR.1|exact hR.2.1|exact hR.2.2.1|exact rfl):DX P ops J ρ T i pv (⟨d,.move x,ty,pos,af,none⟩::os) (s::ss):=a6 (fun ρ1 w1 hj h=>eO (hx ρ1 w1 hj h)) kk
theorem od {a:Bool} (kk:DX P ops J ρ T (i+1) (dK pv i (Is (.bool a))) os ss) (hx:∀ρ1 w1,J w1→cZ pv ρ ρ1 w1 s→ev ρ1 x=.bool a:=by intro ρ1 w1 hj hR;first|exact hR.1|exact hR.2.1|exact hR.2.2.1|exact rfl):DX P ops J ρ T i pv (⟨d,.move x,ty,pos,af,none⟩::os) (s::ss):=a6 (fun ρ1 w1 hj h=>eO (hx ρ1 w1 hj h)) kk
theorem UM {a:ByteArray} (kk:DX P ops J ρ T (i+1) (dK pv i (Is (.string a))) os ss) (hx:∀ρ1 w1,J w1→cZ pv ρ ρ1 w1 s→ev ρ1 x=.string a:=by intro ρ1 w1 hj hR;first|exact hR.1|exact hR.2.1|exact hR.2.2.1|exact rfl):DX P ops J ρ T i pv (⟨d,.move x,ty,pos,af,none⟩::os) (s::ss):=a6 (fun ρ1 w1 hj h=>eO (hx ρ1 w1 hj h)) kk
theorem fD {A:Option Addr} (kk:DX P ops J ρ T (i+1) (dK pv i (Is (.slice A n c))) os ss) (hx:∀ρ1 w1,J w1→cZ pv ρ ρ1 w1 s→ev ρ1 x=.slice A n c:=by intro ρ1 w1 hj hR;first|exact hR.1|exact hR.2.1|exact hR.2.2.1|exact rfl):DX P ops J ρ T i pv (⟨d,.move x,ty,pos,af,none⟩::os) (s::ss):=a6 (fun ρ1 w1 hj h=>eO (hx ρ1 w1 hj h)) kk
theorem UH {l:List Value} (kk:DX P ops J ρ T (i+1) (dK pv i (Is (.tuple l.toArray))) os ss) (hx:∀ρ1 w1,J w1→cZ pv ρ ρ1 w1 s→ev ρ1 x=.tuple l.toArray:=by intro ρ1 w1 hj hR;first|exact hR.1|exact hR.2.1|exact hR.2.2.1|exact rfl):DX P ops J ρ T i pv (⟨d,.move x,ty,pos,af,none⟩::os) (s::ss):=a6 (fun ρ1 w1 hj h=>eO (hx ρ1 w1 hj h)) kk
theorem Ng {f:Fn}{l r:List Value} (kk:DX P ops J ρ T (i+1) (dK pv i (Is (.func f l.toArray r.toArray))) os ss) (hx:∀ρ1 w1,J w1→cZ pv ρ ρ1 w1 s→ev ρ1 x=.func f l.toArray r.toArray:=by intro ρ1 w1 hj hR;first|exact hR.1|exact hR.2.1|exact hR.2.2.1|exact rfl):DX P ops J ρ T i pv (⟨d,.move x,ty,pos,af,none⟩::os) (s::ss):=a6 (fun ρ1 w1 hj h=>eO (hx ρ1 w1 hj h)) kk
theorem da {c:TypeId}{f o:Nat} [hf:fQ P c f off ft] (kk:DX P ops J ρ T (i+1) (dK pv i (Is (.pointer (some ⟨b,o+off,none⟩)))) os ss) (hx:∀ρ1 w1,J w1→cZ pv ρ ρ1 w1 s→ev ρ1 x=.pointer (some ⟨b,o,none⟩):=by intro ρ1 w1 hj hR;first|exact hR.1|exact hR.2.1|exact hR.2.2.1|exact rfl):DX P ops J ρ T i pv (⟨d,.fieldAddr c x f,ty,pos,af,none⟩::os) (s::ss):=a6 (fun ρ1 w1 hj h=>rU hf.out (hx ρ1 w1 hj h)) kk
theorem P3 {c:TypeId}{f:Nat} [hf:fQ P c f off ft] (kk:DX P ops J ρ T (i+1) (dK pv i (Is (.pointer (some (ad.add off))))) os ss) (hx:∀ρ1 w1,J w1→cZ pv ρ ρ1 w1 s→ev ρ1 x=.pointer (some ad):=by intro ρ1 w1 hj hR;first|exact hR.1|exact hR.2.1|exact hR.2.2.1|exact rfl):DX P ops J ρ T i pv (⟨d,.fieldAddr c x f,ty,pos,af,none⟩::os) (s::ss):=a6 (fun ρ1 w1 hj h=>qf hf.out (hx ρ1 w1 hj h)) kk
theorem uF {v:Value} (hc:∀w1,J w1→w1.cell? ad=some v) [ht:aJ P t n false by' zc] (kk:DX P ops J ρ T (i+1) (dK pv i (Is (v))) os ss) (hx:∀ρ1 w1,J w1→cZ pv ρ ρ1 w1 s→ev ρ1 x=.pointer (some ad):=by intro ρ1 w1 hj hR;first|exact hR.1|exact hR.2.1|exact hR.2.2.1|exact rfl):DX P ops J ρ T i pv (⟨d,.load t x,ty,pos,af,none⟩::os) (s::ss):=a6 (fun ρ1 w1 hj h=>fj ht.out (hx ρ1 w1 hj h) (hc w1 hj)) kk
theorem qK (vs:List Value) (hc:∀w1,J w1→Rd w1 ad vs) [ht:aJ P t n true by' zc] (kk:DX P ops J ρ T (i+1) (dK pv i (Is (.agg vs.toArray))) os ss) (hx:∀ρ1 w1,J w1→cZ pv ρ ρ1 w1 s→ev ρ1 x=.pointer (some ad):=by intro ρ1 w1 hj hR;first|exact hR.1|exact hR.2.1|exact hR.2.2.1|exact rfl) (hl:vs.length=n:=by exact rfl):DX P ops J ρ T i pv (⟨d,.load t x,ty,pos,af,none⟩::os) (s::ss):=a6 (fun ρ1 w1 hj h=>CR ht.out (hx ρ1 w1 hj h) (hc w1 hj) hl) kk
theorem dN {H:List HE}{o:Nat}{v:Value} (j:Nat) [ht:aJ P t n false by' zc] (kk:DX P ops (JJ w0 H w) ρ T (i+1) (dK pv i (Is (v))) os ss) (hx:∀ρ1 w1,JJ w0 H w w1→cZ pv ρ ρ1 w1 s→ev ρ1 x=.pointer (some ⟨b,o,none⟩):=by intro ρ1 w1 hj hR;first|exact hR.1|exact hR.2.1|exact hR.2.2.1|exact rfl) (hi:H[j]?=some (.blk b t' cs fz):=by exact rfl) (hv:cs[o]?=some v:=by exact rfl):DX P ops (JJ w0 H w) ρ T i pv (⟨d,.load t x,ty,pos,af,none⟩::os) (s::ss):=a6 (fun ρ1 w1 hj h=>fj ht.out (hx ρ1 w1 hj h) (hj.hp.dO hi hv)) kk
theorem eJ {H:List HE}{o:Nat} (j:Nat) (vs:List Value) [ht:aJ P t n true by' zc] (kk:DX P ops (JJ w0 H w) ρ T (i+1) (dK pv i (Is (.agg vs.toArray))) os ss) (hx:∀ρ1 w1,JJ w0 H w w1→cZ pv ρ ρ1 w1 s→ev ρ1 x=.pointer (some ⟨b,o,none⟩):=by intro ρ1 w1 hj hR;first|exact hR.1|exact hR.2.1|exact hR.2.2.1|exact rfl) (hi:H[j]?=some (.blk b t' cs fz):=by exact rfl) (hv:(cs.drop o).take n=vs:=by exact rfl) (hl:vs.length=n:=by exact rfl):DX P ops (JJ w0 H w) ρ T i pv (⟨d,.load t x,ty,pos,af,none⟩::os) (s::ss):=a6 (fun ρ1 w1 hj h=>CR ht.out (hx ρ1 w1 hj h) (hj.hp.bP hi hv) hl) kk
theorem C9 {e:TypeId}{B:Option Addr} [ht:a9 P t (.slice e)] (kk:DX P ops J ρ T (i+1) (dK pv i (Is (.int .i64 n))) os ss) (hx:∀ρ1 w1,J w1→cZ pv ρ ρ1 w1 s→ev ρ1 x=.slice B n c:=by intro ρ1 w1 hj hR;first|exact hR.1|exact hR.2.1|exact hR.2.2.1|exact rfl):DX P ops J ρ T i pv (⟨d,.call ⟨.builtin .len, #[x], #[t]⟩,ty,pos,af,none⟩::os) (s::ss):=a6 (fun ρ1 w1 hj h=>AH ht.out (hx ρ1 w1 hj h)) kk
theorem Rm {k:IntKind}{a b:Int} (kk:DX P ops J ρ T (i+1) (dK pv i (Is (.bool r))) os ss) (hx:∀ρ1 w1,J w1→cZ pv ρ ρ1 w1 s→ev ρ1 x=.int k a:=by intro ρ1 w1 hj hR;first|exact hR.1|exact hR.2.1|exact hR.2.2.1|exact rfl) (hy:∀ρ1 w1,J w1→cZ pv ρ ρ1 w1 s→ev ρ1 y=.int k b:=by intro ρ1 w1 hj hR;first|exact hR.1|exact hR.2.1|exact hR.2.2.1|exact rfl) (hr:decide (b<a)=r:=by first|exact Wr VZ|exact WG VZ|exact rfl):DX P ops J ρ T i pv (⟨d,.binOp .gtr t x y u,ty,pos,af,none⟩::os) (s::ss):=a6 (fun ρ1 w1 hj h=>by rw [←hr];exact EW (hx ρ1 w1 hj h) (hy ρ1 w1 hj h)) kk
theorem zt {k:IntKind}{a b:Int} (kk:DX P ops J ρ T (i+1) (dK pv i (Is (.bool r))) os ss) (hx:∀ρ1 w1,J w1→cZ pv ρ ρ1 w1 s→ev ρ1 x=.int k a:=by intro ρ1 w1 hj hR;first|exact hR.1|exact hR.2.1|exact hR.2.2.1|exact rfl) (hy:∀ρ1 w1,J w1→cZ pv ρ ρ1 w1 s→ev ρ1 y=.int k b:=by intro ρ1 w1 hj hR;first|exact hR.1|exact hR.2.1|exact hR.2.2.1|exact rfl) (hr:decide (a=b)=r:=by first|exact Wr VZ|exact WG VZ|exact rfl):DX P ops J ρ T i pv (⟨d,.binOp .eql t x y u,ty,pos,af,none⟩::os) (s::ss):=a6 (fun ρ1 w1 hj h=>by rw [←hr];exact FG (hx ρ1 w1 hj h) (hy ρ1 w1 hj h)) kk
theorem nX {a b:Int} (kk:DX P ops J ρ T (i+1) (dK pv i (Is (.int .i64 (a+b)))) os ss) (hx:∀ρ1 w1,J w1→cZ pv ρ ρ1 w1 s→ev ρ1 x=.int .i64 a:=by intro ρ1 w1 hj hR;first|exact hR.1|exact hR.2.1|exact hR.2.2.1|exact rfl) (hy:∀ρ1 w1,J w1→cZ pv ρ ρ1 w1 s→ev ρ1 y=.int .i64 b:=by intro ρ1 w1 hj hR;first|exact hR.1|exact hR.2.1|exact hR.2.2.1|exact rfl) (h1: -9223372036854775808≤a+b:=by omega) (h2:a+b≤9223372036854775807:=by omega):DX P ops J ρ T i pv (⟨d,.binOp .add t x y u,ty,pos,af,none⟩::os) (s::ss):=a6 (fun ρ1 w1 hj h=>Lv (hx ρ1 w1 hj h) (hy ρ1 w1 hj h) h1 h2) kk
theorem so {a b:Int} (kk:DX P ops J ρ T (i+1) (dK pv i (Is (.int .i64 (a-b)))) os ss) (hx:∀ρ1 w1,J w1→cZ pv ρ ρ1 w1 s→ev ρ1 x=.int .i64 a:=by intro ρ1 w1 hj hR;first|exact hR.1|exact hR.2.1|exact hR.2.2.1|exact rfl) (hy:∀ρ1 w1,J w1→cZ pv ρ ρ1 w1 s→ev ρ1 y=.int .i64 b:=by intro ρ1 w1 hj hR;first|exact hR.1|exact hR.2.1|exact hR.2.2.1|exact rfl) (h1: -9223372036854775808≤a-b:=by omega) (h2:a-b≤9223372036854775807:=by omega):DX P ops J ρ T i pv (⟨d,.binOp .sub t x y u,ty,pos,af,none⟩::os) (s::ss):=a6 (fun ρ1 w1 hj h=>Ke (hx ρ1 w1 hj h) (hy ρ1 w1 hj h) h1 h2) kk
theorem Dq {a b:Int} (kk:DX P ops J ρ T (i+1) (dK pv i (Is (.int .i64 (a*b)))) os ss) (hx:∀ρ1 w1,J w1→cZ pv ρ ρ1 w1 s→ev ρ1 x=.int .i64 a:=by intro ρ1 w1 hj hR;first|exact hR.1|exact hR.2.1|exact hR.2.2.1|exact rfl) (hy:∀ρ1 w1,J w1→cZ pv ρ ρ1 w1 s→ev ρ1 y=.int .i64 b:=by intro ρ1 w1 hj hR;first|exact hR.1|exact hR.2.1|exact hR.2.2.1|exact rfl) (h1: -9223372036854775808≤a*b:=by omega) (h2:a*b≤9223372036854775807:=by omega):DX P ops J ρ T i pv (⟨d,.binOp .mul t x y u,ty,pos,af,none⟩::os) (s::ss):=a6 (fun ρ1 w1 hj h=>Ka (hx ρ1 w1 hj h) (hy ρ1 w1 hj h) h1 h2) kk
theorem GF {b:Bool} (kk:DX P ops J ρ T (i+1) (dK pv i (Is (.bool !b))) os ss) (hx:∀ρ1 w1,J w1→cZ pv ρ ρ1 w1 s→ev ρ1 x=.bool b:=by intro ρ1 w1 hj hR;first|exact hR.1|exact hR.2.1|exact hR.2.2.1|exact rfl):DX P ops J ρ T i pv (⟨d,.unOp .not t x,ty,pos,af,none⟩::os) (s::ss):=a6 (fun ρ1 w1 hj h=>OU (hx ρ1 w1 hj h)) kk
theorem SZ {v:Value} (kk:DX P ops J ρ T (i+1) (dK pv i (Is (v))) os ss) (hx:∀ρ1 w1,J w1→cZ pv ρ ρ1 w1 s→ev ρ1 x=.tuple vs.toArray:=by intro ρ1 w1 hj hR;first|exact hR.1|exact hR.2.1|exact hR.2.2.1|exact rfl) (hv:vs[j]?=some v:=by exact rfl):DX P ops J ρ T i pv (⟨d,.extract x j,ty,pos,af,none⟩::os) (s::ss):=a6 (fun ρ1 w1 hj h=>fK (hx ρ1 w1 hj h) hv) kk
theorem G3 {c a b:Operand}{v:Bool} (kk:DX P ops J ρ T (i+1) (dK pv i (Is (.bool v))) os ss) (hc:∀ρ1 w1,J w1→cZ pv ρ ρ1 w1 s→ev ρ1 c=.bool true:=by intro ρ1 w1 hj hR;first|exact hR.1|exact hR.2.1|exact hR.2.2.1|exact rfl) (hx:∀ρ1 w1,J w1→cZ pv ρ ρ1 w1 s→ev ρ1 a=.bool v:=by intro ρ1 w1 hj hR;first|exact hR.1|exact hR.2.1|exact hR.2.2.1|exact rfl):DX P ops J ρ T i pv (⟨d,.pick c a b,ty,pos,af,none⟩::os) (s::ss):=a6 (fun ρ1 w1 hj h=>Aj (hc ρ1 w1 hj h) (hx ρ1 w1 hj h)) kk
theorem Mt {c a b:Operand}{v:Bool} (kk:DX P ops J ρ T (i+1) (dK pv i (Is (.bool v))) os ss) (hc:∀ρ1 w1,J w1→cZ pv ρ ρ1 w1 s→ev ρ1 c=.bool false:=by intro ρ1 w1 hj hR;first|exact hR.1|exact hR.2.1|exact hR.2.2.1|exact rfl) (hx:∀ρ1 w1,J w1→cZ pv ρ ρ1 w1 s→ev ρ1 b=.bool v:=by intro ρ1 w1 hj hR;first|exact hR.1|exact hR.2.1|exact hR.2.2.1|exact rfl):DX P ops J ρ T i pv (⟨d,.pick c a b,ty,pos,af,none⟩::os) (s::ss):=a6 (fun ρ1 w1 hj h=>BM (hc ρ1 w1 hj h) (hx ρ1 w1 hj h)) kk
theorem Gn {e:TypeId}{sz:Nat}{q:IntKind}{m:Int} (k:Nat) [ht:a9 P t (.slice e)] [hs:TS P e sz] (kk:DX P ops J ρ T (i+1) (dK pv i (Is (.pointer (some ⟨b,k*sz,none⟩)))) os ss) (hx:∀ρ1 w1,J w1→cZ pv ρ ρ1 w1 s→ev ρ1 x=.slice (some ⟨b,0,none⟩) n c:=by intro ρ1 w1 hj hR;first|exact hR.1|exact hR.2.1|exact hR.2.2.1|exact rfl) (hy:∀ρ1 w1,J w1→cZ pv ρ ρ1 w1 s→ev ρ1 y=.int q m:=by intro ρ1 w1 hj hR;first|exact hR.1|exact hR.2.1|exact hR.2.2.1|exact rfl) (hm:m=(k:Int):=by omega) (h1:k<n:=by omega):DX P ops J ρ T i pv (⟨d,.indexAddr t x y,ty,pos,af,none⟩::os) (s::ss):=a6 (fun ρ1 w1 hj h=>lW ht.out hs.out (hx ρ1 w1 hj h) (hy ρ1 w1 hj h) hm h1) kk
theorem nC {e:TypeId}{sz:Nat}{q:IntKind}{m:Int} (k:Nat) [ht:a9 P t (.slice e)] [hs:TS P e sz] (kk:DX P ops J ρ T (i+1) (dK pv i (Is (.pointer (some (ad.add (k*sz)))))) os ss) (hx:∀ρ1 w1,J w1→cZ pv ρ ρ1 w1 s→ev ρ1 x=.slice (some ad) n c:=by intro ρ1 w1 hj hR;first|exact hR.1|exact hR.2.1|exact hR.2.2.1|exact rfl) (hy:∀ρ1 w1,J w1→cZ pv ρ ρ1 w1 s→ev ρ1 y=.int q m:=by intro ρ1 w1 hj hR;first|exact hR.1|exact hR.2.1|exact hR.2.2.1|exact rfl) (hm:m=(k:Int):=by omega) (h1:k<n:=by omega):DX P ops J ρ T i pv (⟨d,.indexAddr t x y,ty,pos,af,none⟩::os) (s::ss):=a6 (fun ρ1 w1 hj h=>ep ht.out hs.out (hx ρ1 w1 hj h) (hy ρ1 w1 hj h) hm h1) kk
theorem dC {f:FuncId}{ts:Array TypeId}{v:Value} (hc:∀w1,J w1→Calls P f vs.toArray w1 fun e w'=>e=.returned v∧Below w1.heap.size w1 w') [hf:au P f] (kk:DX P ops J ρ T (i+1) (dK pv i (Is (v))) os ss) (ha:∀ρ1 w1,J w1→cZ pv ρ ρ1 w1 s→wR ρ1 args.toList=vs:=by intro ρ1 w1 hj hR;repeat (first|exact a8|(apply aw;first|exact hR.1|exact hR.2.1|exact hR.2.2.1|exact hR.2.2.2.1|exact rfl))):DX P ops J ρ T i pv (⟨d,.call ⟨.value (.func f),args,ts⟩,ty,pos,af,none⟩::os) (s::ss):=NY (fun ρ1 w1 hj h=>aQ hf.out (ha ρ1 w1 hj h)) hc kk
theorem dB {pl:List (Nat×Nat)} (cs:List Value) [hte:aJ P t n true by' zc] [hpl:lL P t pl] (kk:DX P ops J ρ T (i+1) (dK pv i (Is (.agg cs.toArray))) os ss) (hp:∀ρ1 w1,J w1→cZ pv ρ ρ1 w1 s→wB ρ1 parts.toList=ps:=by intro ρ1 w1 hj hR;repeat (first|exact bW|(apply aV;first|exact hR.1|exact hR.2.1|exact hR.2.2.1|exact hR.2.2.2.1|exact rfl))) (hf:kI (pl[·]?) zc ps=some cs:=by exact rfl):DX P ops J ρ T i pv (⟨d,.build t parts,ty,pos,af,none⟩::os) (s::ss):=a6 (fun ρ1 w1 hj h=>pO hte.out hpl.out (hp ρ1 w1 hj h) hf) kk
theorem rh {e:TypeId}{len sz:Nat} (cs:List Value) [ht:a9 P t (.slice e)] [hte:aJ P e sz ag by' zc] (kk:DX P ops J ρ T (i+1) (dK pv i (Rows len sz cs)) os ss) (hp:∀ρ1 w1,J w1→cZ pv ρ ρ1 w1 s→wB ρ1 parts.toList=ps:=by intro ρ1 w1 hj hR;repeat (first|exact bW|(apply aV;first|exact hR.1|exact hR.2.1|exact hR.2.2.1|exact hR.2.2.2.1|exact rfl))) (hzl:zc.length=sz:=by exact rfl) (hf:kI (fun i=>some (i*sz,sz)) (eI len zc) ps=some cs:=by exact rfl) (h0:¬len*sz=0:=by decide) (hsl:len*sz≤16777216:=by decide) (hl:cs.length=len*sz:=by exact rfl):DX P ops J ρ T i pv (⟨d,.buildSlice t len parts,ty,pos,af,none⟩::os) (s::ss):=vy ht.out hte.out hp hzl hf h0 hsl hl kk
theorem dS {b c:Bool}{op:Op} (kk:DX P ops J ρ T (i+1) (dK pv i (Is (undef))) os ss) (hj:(ops[j]?).bind (·.dst)=some dj:=by exact rfl) (hv:∀ρ1 w1,J w1→cZ pv ρ ρ1 w1 s→ρ1 dj=.bool c:=by intro ρ1 w1 hj hR;first|exact hR.1|exact hR.2.1|exact hR.2.2.1|exact hR.2.2.2.1) (hb:c≠b:=by decide):DX P ops J ρ T i pv (⟨d,op,ty,pos,af,some (j,b)⟩::os) (s::ss):=yV hj hv hb kk
theorem dU {b:Bool}{op:Op} (kk:DX P ops J ρ T (i+1) (dK pv i (Is (undef))) os ss) (hj:(ops[j]?).bind (·.dst)=some dj:=by exact rfl) (hv:∀ρ1 w1,J w1→cZ pv ρ ρ1 w1 s→ρ1 dj=undef:=by intro ρ1 w1 hj hR;first|exact hR.1|exact hR.2.1|exact hR.2.2.1|exact hR.2.2.2.1):DX P ops J ρ T i pv (⟨d,op,ty,pos,af,some (j,b)⟩::os) (s::ss):=Bt hj hv kk
theorem dG {b:Bool}{op:Op} (kk:DX P ops J ρ T i pv (⟨d,op,ty,pos,af,none⟩::os) (s::ss)) (hj:(ops[j]?).bind (·.dst)=some dj:=by exact rfl) (hv:∀ρ1 w1,J w1→cZ pv ρ ρ1 w1 s→ρ1 dj=.bool b:=by intro ρ1 w1 hj hR;first|exact hR.1|exact hR.2.1|exact hR.2.2.1|exact hR.2.2.2.1):DX P ops J ρ T i pv (⟨d,op,ty,pos,af,some (j,b)⟩::os) (s::ss):=let ⟨V,h1,h2,h3⟩:=kk;⟨V,h1,fun ρ1 w1 hj1 h=>bo hj (hv ρ1 w1 hj1 h) (h2 ρ1 w1 hj1 h),h3⟩
end
variable {cy:Nat}
section
variable {ro:Mode}
section
variable {P:Program}{N:Nat}{ops:Array Oper}{Q:Kq}{ρ:Rf}{w w0:World}{rest:List Oper}{H:List HE}{d:Nat}{ty:TypeId}{pos:String}{af:Array Edge}
theorem Ma (hh:Hp w0 H w) {t s e:TypeId}{x y:Operand}{i o dl dc sz:Nat}{B:Option Addr} (hi:H[i]?=some (.row (some ⟨b,0,none⟩) m c e sz xs)) (hx:ev ρ x=.slice (some ⟨b,o,none⟩) dl dc) (hy:ev ρ y=.slice B n cy)
  (hsl:Sl w B n sz news) (ht:P.underlying t=some (.slice e)) (hte:cQ P e=some (sz,ag,by',zc)) (ho:o+min n dl*sz≤xs.length) (h1:(news.all Value.oneCell')=true) (hN:d<N)
  (kk:∀w',Hp w0 (H.set i (.row (some ⟨b,0,none⟩) m c e sz (cd xs o (news.take (min n dl*sz))))) w'→WL ro P N ops Q rest (cH ρ d (.int .i64 ((min n dl:Nat):Int))) w'):
  WL ro P N ops Q (⟨some d,.call ⟨.builtin .copy, #[x,y], #[t,s]⟩,ty,pos,af,none⟩::rest) ρ w:=by
 obtain ⟨inf,z,dd,hti,hd,hz,hsz,hby,hzc,_⟩:=dx hte;have hrow:=hh.at_ hi;obtain ⟨hlen,h2⟩:=hrow;have hnl:=hsl.1;have hmin:min n dl*sz≤n*sz:=Xr _ (Nat.min_le_left _ _);have hvl:(news.take (min n dl*sz)).length=min n dl*sz:=by rw [Ww];omega
 have h1':∀v∈news.take (min n dl*sz),v.oneCell'=true:=fun v hv=>Wq.1 h1 v (Yd hv);have hcells:(Builtin.firstCells sz (min n dl) (.slice B n cy)).run P w=.ok (news.take (min n dl*sz)).toArray w:=by
  cases B with
  |none=>
   have h0:n=0:=by
    rcases XM n with h0|h0
    ·exact h0
    ·obtain ⟨ad,h1,_⟩:=hsl.2 h0;cases h1
   subst h0;simp [Builtin.firstCells]
  |some ad=>
   have hrd:∀j u,(news.take (min n dl*sz))[j]?=some u→w.cell? (ad.add j)=some u:=by
    intro j u hj;rw [XF] at hj;split at hj
    ·rcases XM n with h0|h0
     ·subst h0;have:news=[]:=XA (by simpa using hnl);simp [this] at hj
     ·obtain ⟨ad',he,hr'⟩:=hsl.2 h0;injection he with he
      subst he;exact hr' j u hj
    ·cases hj
   have:=run_loadCells_list (P:=P) w ad _ hrd;rw [hvl] at this;simpa [Builtin.firstCells] using this
 generalize news.take (min n dl*sz)=vs at hvl h1' hcells kk;rw [←hvl] at ho
 rcases h2 with ⟨h2,_⟩|⟨g,cap,cur,hv,hg,hheap,hmc,hcm,hcur,htake⟩
 ·injection h2 with h2;cases h2
 ·injection hv with hA hn hcap
  injection hA with hA
  injection hA with hA
  subst hA;subst hcap;have hcl:cur.size=cur.toList.length:=by simp
  have hle:m*sz≤c*sz:=Xr _ hmc;obtain ⟨w',hr,hb',hgr,hs⟩:=fJ (P:=P) (b:=b) (t:=e) (fz:=(0,0)) o vs 0 cur.toList w (by simpa using hheap) (.inr (V9 _)) (by rw [←hcl];omega) h1';refine aR rfl rfl hN (w':=w') (v:=.int .i64 ((min n dl:Nat):Int)) ?_ (kk w' (hh.grown hi hgr (.inl rfl) ⟨by rw [eM VZ];exact hlen,.inr ⟨b,c,(cd cur.toList o vs).toArray,rfl,hg,by simpa using hb',hmc,hcm, ?_, ?_⟩⟩))
  ·have hmm:Nat.min n dl=min n dl:=rfl;simp only [execOp,resolve,invoke,hx,hy,Yn,Wv,WV];simp [builtin,Builtin.copy_,run_underlying ht,Builtin.lenOf,sizeOf,typeInfo,hti,hsz,hmm,hcells,hr,goInt]
  ·simp only [Yj];rw [eM (by rw [←hcl];omega),←hcl,hcur]
  ·exact Tr
end
end
def bD (B:Nat):List Nat→Nat
 |[]=>0
 |d::l=>d+B*bD B l
def bO (B:Nat):Nat→Nat→List Nat
 |0,_=>[]
 |k+1,n=>n % B::bO B k (n/B)
def dX:List Nat→List Nat
 |[]=>[]
 |d::l=>match dX l with
  |[]=>if d=0 then [] else [d]
  |e::m=>d::e::m
def aY (B n:Nat):List Nat:=dX (bO B (n.log2+1) n)
def Dg (B:Nat) (l:List Nat):Prop:=∀d∈l,d<B
section
variable {B:Nat}
theorem Dg.nil:Dg B []:=fun _ h=>(nomatch h)
theorem Dg.cons {d:Nat}{l:List Nat} (h:d<B) (hl:Dg B l):Dg B (d::l):=fun x hx=>by
 rcases Wp.1 hx with rfl|hx
 ·exact h
 ·exact hl x hx
theorem Dg.head {d:Nat}{l:List Nat} (h:Dg B (d::l)):d<B:=h d Wj
theorem Dg.tail {d:Nat}{l:List Nat} (h:Dg B (d::l)):Dg B l:=fun x hx=>h x (Wl _ hx)
theorem Dg.append {l m:List Nat} (h:Dg B l) (h':Dg B m):Dg B (l++m):=fun x hx=>by
 rcases W3.1 hx with hx|hx
 ·exact h x hx
 ·exact h' x hx
theorem Dg.sub {l m:List Nat} (h:Dg B l) (h':m.Sublist l):Dg B m:=fun x hx=>h x (h'.subset hx)
theorem Dg.take {l:List Nat} (h:Dg B l) (n:Nat):Dg B (l.take n):=h.sub (List.take_sublist n l)
theorem Dg.drop {l:List Nat} (h:Dg B l) (n:Nat):Dg B (l.drop n):=h.sub (List.drop_sublist n l)
theorem Dg.at_ {l:List Nat} (h:Dg B l) {i d:Nat} (hi:l[i]?=some d):d<B:=h d (Wb hi)
theorem Dg.Mb {l:List Nat} (h:Dg B l) (i:Nat) {d:Nat} (hd:d<B):Dg B (l.set i d):=fun x hx=>by
 rcases List.mem_or_eq_of_mem_set hx with hx|rfl
 ·exact h x hx
 ·exact hd
theorem Dg.fW (hB:0<B) (n:Nat):Dg B (List.replicate n 0):=fun x hx=>by rw [List.eq_of_mem_replicate hx];exact hB
theorem eN (l m:List Nat):bD B (l++m)=bD B l+B^l.length*bD B m:=by
 induction l with
 |nil=>simp [bD]
 |cons d l ih=>simp only [Wf,bD,ih,WH,W0];rw [W7,Y7];congr 2;rw [←Xb,Wz B]
theorem iD {l:List Nat} (h:Dg B l):bD B l<B^l.length:=by
 induction l with
 |nil=>simp [bD]
 |cons d l ih=>
  have h1:=ih h.tail;have h2:=h.head;simp only [bD,WH,W0]
  calc d+B*bD B l<B+B*bD B l:=by omega
   _=B*(bD B l+1):=by rw [W7,Wn,X6]
   _≤B*B^l.length:=WM _ h1
   _=B^l.length*B:=Wz _ _
theorem rA (n:Nat):bD B (List.replicate n 0)=0:=by
 induction n with
 |zero=>rfl
 |succ n ih=>simp [Yp,bD,ih]
theorem aX (k n:Nat):(bO B k n).length=k:=by
 induction k generalizing n with
 |zero=>rfl
 |succ k ih=>simp [bO,ih]
theorem eT (hB:0<B) (k n:Nat):Dg B (bO B k n):=by
 induction k generalizing n with
 |zero=>exact Dg.nil
 |succ k ih=>exact Dg.cons (WB _ hB) (ih _)
theorem Kz (k n:Nat):bD B (bO B k n)=n % B^k:=by
 induction k generalizing n with
 |zero=>simp [bO,bD,Nat.mod_one]
 |succ k ih=>rw [bO,bD,ih,W0,Wz (B^k),Nat.mod_mul]
theorem cL (h:n<B^k):bD B (bO B k n)=n:=by rw [Kz,WU h]
theorem tL {l:List Nat} (h:Dg B l):bO B l.length (bD B l)=l:=by
 induction l with
 |nil=>rfl
 |cons d l ih=>
  have hd:=h.head;simp only [WH,bO,bD];rw [XV,WU hd,Xw _ _ VZ,Xa hd,Ws,ih h.tail]
theorem yx {l m:List Nat} (hl:Dg B l) (hm:Dg B m) (hlen:l.length=m.length) (h:bD B l=bD B m):l=m:=by
 rw [←tL hl,←tL hm,hlen,h]
theorem iA (k n i:Nat) (h:i<k):(bO B k n)[i]?=some (n/B^i % B):=by
 induction k generalizing n i with
 |zero=>omega
 |succ k ih=>
  cases i with
  |zero=>simp [bO]
  |succ i=>simp only [bO,YT];rw [ih _ _ VZ,XG,W0,Wz B]
theorem sJ {l:List Nat} (h:Dg B l) {i d:Nat} (hi:l[i]?=some d):bD B l/B^i % B=d:=by
 have h1:=iA (B:=B) l.length (bD B l) i (Wk.1 hi).1;rw [tL h,hi] at h1;injection h1 with h1
 exact h1.symm
theorem tg {l:List Nat} (h:Dg B l) {i:Nat} (hi:l.length≤i) (hB:0<B):bD B l/B^i=0:=
 Xa (Xe (iD h) (WS hB hi))
theorem jf (l:List Nat) (i:Nat) (h:i≤l.length):bD B l=bD B (l.take i)+B^i*bD B (l.drop i):=by
 have:=eN (B:=B) (l.take i) (l.drop i);rw [W9,List.length_take_of_le h] at this;exact this
theorem lr (l:List Nat):bD B (dX l)=bD B l:=by
 induction l with
 |nil=>rfl
 |cons d l ih=>
  simp only [dX,bD];split
  ·rename_i h;rw [h] at ih;simp only [bD] at ih;split
   ·rename_i h0;rw [h0,←ih];simp [bD]
   ·rw [←ih];simp [bD]
  ·rename_i e m h;rw [h] at ih;rw [←ih];rfl
theorem jV (l:List Nat):dX l=l.take (dX l).length:=by
 induction l with
 |nil=>rfl
 |cons d l ih=>
  simp only [dX];split
  ·split
   ·rfl
   ·simp
  ·rename_i e m h;rw [h] at ih;simp only [WH,Zr] at ih ⊢;rw [←ih]
theorem fF (l:List Nat):(dX l).length≤l.length:=by
 have:=Xm List.length (jV l);rw [Ww] at this;omega
theorem wv (l:List Nat):(dX l).getLast?≠some 0:=by
 induction l with
 |nil=>simp [dX]
 |cons d l ih=>
  simp only [dX];split
  ·split
   ·simp
   ·simpa
  ·rename_i e m h;rw [h] at ih;rwa [List.getLast?_cons_cons]
theorem Dg.cut {l:List Nat} (h:Dg B l):Dg B (dX l):=by rw [jV];exact h.take _
theorem Hc {l:List Nat} (h:l.getLast?≠some 0):dX l=l:=by
 induction l with
 |nil=>rfl
 |cons d l ih=>
  cases l with
  |nil=>simp only [dX];rw [V6];intro h0;subst h0;simp at h
  |cons e m=>
   rw [List.getLast?_cons_cons] at h;rw [dX,ih h]
theorem sY (l:List Nat):dX (l++[0])=dX l:=by
 induction l with
 |nil=>simp [dX]
 |cons d l ih=>simp only [Wf,dX,ih]
theorem xn {l:List Nat}{d:Nat} (h:d≠0):dX (l++[d])=l++[d]:=Hc (by simpa using h)
def Can (B:Nat) (l:List Nat):Prop:=Dg B l∧l.getLast?≠some 0
theorem Can.cut {l:List Nat} (h:Dg B l):Can B (dX l):=⟨h.cut,wv l⟩
theorem IJ {l:List Nat} (h:l.getLast?≠some 0) (hn:l≠[]):B^(l.length-1)≤bD B l:=by
 have h1:=List.dropLast_concat_getLast hn;have h2:l.getLast hn≠0:=by
  intro h0;apply h;rw [List.getLast?_eq_some_getLast hn,h0]
 rw [←h1,eN];simp only [We,List.length_dropLast,WH,YZ];have:l.length-1+(0+1)-1=l.length-1:=VZ;rw [this];simp only [bD,Nat.mul_zero,XZ];exact WK (ZC _ (Nat.pos_of_ne_zero h2)) (Nat.le_add_left _ _)
theorem Can.vc {l m:List Nat} (hl:Can B l) (hm:Can B m) (hB:1<B) (h:bD B l≤bD B m):l.length≤m.length:=by
 rcases WW m.length l.length with hlt|hge
 ·exfalso;have hn:l≠[]:=by intro h0;simp [h0] at hlt
  have h1:=IJ (B:=B) hl.2 hn;have h2:=iD hm.1;have h3:B^m.length≤B^(l.length-1):=WS VZ VZ;exact Nat.lt_irrefl _ (Xe h2 (WK h3 (WK h1 h)))
 ·exact hge
theorem Can.inj {l m:List Nat} (hl:Can B l) (hm:Can B m) (hB:1<B) (h:bD B l=bD B m):l=m:=
 yx hl.1 hm.1 (Nat.le_antisymm (hl.vc hm hB (Nat.le_of_eq h)) (hm.vc hl hB (Nat.le_of_eq h.symm))) h
theorem dZ (hB:0<B) (n:Nat):Can B (aY B n):=Can.cut (eT hB _ _)
theorem Aa (hB:1<B) (n:Nat):n<B^(n.log2+1):=by
 have h1:n<2^(n.log2+1):=Nat.lt_log2_self;exact Xe h1 (Nat.pow_le_pow_left hB _)
theorem ee (hB:1<B) (n:Nat):bD B (aY B n)=n:=by
 rw [aY,lr,cL (Aa hB n)]
theorem AB (hB:1<B) {l:List Nat} (h:Can B l):aY B (bD B l)=l:=
 (dZ VZ _).inj h hB (ee hB _)
theorem hU (hB:1<B) {l:List Nat} (h:Dg B l):dX l=aY B (bD B l):=by
 rw [←lr,AB hB (Can.cut h)]
theorem gp (hB:1<B):aY B 0=[]:=(dZ VZ 0).inj ⟨Dg.nil,by simp⟩ hB (by rw [ee hB];rfl)
theorem uy (hB:1<B):aY B n=[]↔n=0:=by
 constructor
 ·intro h;have:=ee hB n;rw [h] at this;exact this.symm
 ·intro h;rw [h,gp hB]
theorem ij (hB:1<B) (h:n<B^k):(aY B n).length≤k:=by
 have h1:dX (bO B k n)=aY B n:=by rw [hU hB (eT VZ _ _),cL h]
 have:=fF (bO B k n);rw [h1,aX] at this;exact this
theorem qy (hB:1<B) (n:Nat):n<B^(aY B n).length:=by
 have:=iD (dZ (B:=B) VZ n).1;rwa [ee hB] at this
theorem oC (hB:1<B) {a:Nat} (h:a≤b):(aY B a).length≤(aY B b).length:=
 (dZ VZ a).vc (dZ VZ b) hB (by rw [ee hB,ee hB];exact h)
theorem Ay (hB:1<B) {i:Nat} (h:i<(aY B n).length):(aY B n)[i]?=some (n/B^i % B):=by
 have h1:=Xz h;rw [h1];have h2:=sJ (dZ (B:=B) VZ n).1 h1;rw [ee hB] at h2;rw [h2]
theorem GP (hB:1<B) (h:n≠0):aY B n=n % B::aY B (n/B):=by
 refine (dZ VZ n).inj ⟨Dg.cons (WB _ VZ) (dZ VZ _).1, ?_⟩ hB ?_
 ·cases hd:aY B (n/B) with
  |nil=>
   rw [uy hB] at hd;have:n=n % B:=by have:=XT n B;rw [hd] at this;simpa using this.symm
   simp only [List.getLast?_singleton];intro h0;injection h0 with h0;omega
  |cons e m=>
   rw [List.getLast?_cons_cons,←hd];exact (dZ VZ _).2
 ·rw [ee hB,bD,ee hB];have:=XT n B;omega
theorem JF (hB:1<B) (h:n<B^k):bO B k n=aY B n++List.replicate (k-(aY B n).length) 0:=by
 have hl:=ij hB h;refine yx (B:=B) (eT VZ _ _) ((dZ VZ _).1.append (Dg.fW VZ _)) ?_ ?_
 ·rw [aX,We,XD];omega
 ·rw [cL h,eN,ee hB,rA];simp
end
section
variable {B:Nat}
def vD:List Nat→Nat
 |[]=>0
 |d::_=>d
theorem Ip (ys:List Nat):bD B ys=vD ys+B*bD B ys.tail:=by cases ys<;>simp [bD,vD]
theorem QM {ys:List Nat} (h:Dg B ys) (hB:0<B):vD ys<B:=by
 cases ys with
 |nil=>exact hB
 |cons d l=>exact h.head
theorem Dg.tl {ys:List Nat} (h:Dg B ys):Dg B ys.tail:=by
 cases ys with
 |nil=>exact h
 |cons d l=>exact h.tail
theorem tY (ys:List Nat) (i:Nat):vD (ys.drop i)=(ys[i]?).getD 0:=by
 induction ys generalizing i with
 |nil=>simp [vD]
 |cons d l ih=>cases i with
  |zero=>rfl
  |succ i=>simpa using ih i
theorem tail_drop (ys:List Nat) (i:Nat):(ys.drop i).tail=ys.drop (i+1):=by
 induction ys generalizing i with
 |nil=>simp
 |cons d l ih=>cases i with
  |zero=>rfl
  |succ i=>simp
theorem Bz {B a:Nat} (hB:0<B) (h:a+B*b<B*n):b+a/B<n:=by
 have h1:(a+B*b)/B<n:=by rw [XH hB,Wz n];exact h
 rw [Xw _ _ hB] at h1;omega
def hH (B:Nat):List Nat→List Nat→Nat→Nat→List Nat
 |[],_,_,_=>[]
 |x::xs,ys,m,c=>(x+vD ys*m+c) % B::hH B xs ys.tail m ((x+vD ys*m+c)/B)
theorem pq (xs ys:List Nat) (m c:Nat):(hH B xs ys m c).length=xs.length:=by
 induction xs generalizing ys c with
 |nil=>rfl
 |cons x xs ih=>simp [hH,ih]
theorem AF (hB:0<B) (xs ys:List Nat) (m c:Nat):Dg B (hH B xs ys m c):=by
 exact Pm
theorem wM (hB:0<B) (xs ys:List Nat) (m c:Nat) (h:bD B xs+bD B ys*m+c<B^xs.length):bD B (hH B xs ys m c)=bD B xs+bD B ys*m+c:=by
 induction xs generalizing ys c with
 |nil=>simp only [YZ,YA,bD] at h;simp only [hH,bD];omega
 |cons x xs ih=>
  have e:bD B (x::xs)+bD B ys*m+c=(x+vD ys*m+c)+B*(bD B xs+bD B ys.tail*m):=by
   rw [bD,Ip ys,Yl,W7,Xb];omega
  rw [WH,W0,Wz _ B,e] at h;have h1:=Bz hB h;simp only [hH,bD];rw [ih _ _ h1,←bD,e,W7];have:=YP (x+vD ys*m+c) B;omega
def sv (B:Nat):List Nat→List Nat→Nat→List Nat
 |[],_,_=>[]
 |x::xs,ys,b=>(x+B-vD ys-b) % B::sv B xs ys.tail (if x<vD ys+b then 1 else 0)
def zG (B:Nat):List Nat→List Nat→Nat→Nat
 |[],_,b=>b
 |x::xs,ys,b=>zG B xs ys.tail (if x<vD ys+b then 1 else 0)
theorem M1 (hB:0<B) (xs ys:List Nat) (c:Nat):Dg B (sv B xs ys c):=by
 exact Pm
theorem Kw (hB:0<B) (xs ys:List Nat) (b:Nat) (hx:Dg B xs) (hy:Dg B ys) (hb:b≤1) (h:bD B ys+b≤bD B xs):bD B (sv B xs ys b)+bD B ys+b=bD B xs∧zG B xs ys b=0:=by
 induction xs generalizing ys b with
 |nil=>simp only [bD] at h;simp only [sv,zG,bD];omega
 |cons x xs ih=>
  have hx0:=hx.head;have hy0:=QM hy hB;have e:=Ip (B:=B) ys;simp only [bD,sv,zG] at h ⊢;by_cases hlt:x<vD ys+b
  ·rw [V5 hlt];have h1:bD B ys.tail+1≤bD B xs:=by
    refine Y0 fun hle=> ?_;have:=WM B hle;omega
   obtain ⟨i1,i2⟩:=ih ys.tail 1 hx.tail hy.tl VZ h1;refine ⟨?_,i2⟩;have h2:=Xm (B* ·) i1;simp only [W7] at h2;rw [WU VZ];omega
  ·rw [V6 hlt];have h1:bD B ys.tail+0≤bD B xs:=by
    refine Nat.le_of_not_lt fun hle=> ?_;have:=WM B (Nat.succ_le_of_lt hle);simp only [XC,XZ] at this;omega
   obtain ⟨i1,i2⟩:=ih ys.tail 0 hx.tail hy.tl VZ h1;refine ⟨?_,i2⟩;have h2:=Xm (B* ·) i1;simp only [W7,XZ] at h2;have h3:x+B-vD ys-b=(x-vD ys-b)+B:=VZ;rw [h3,Nat.add_mod_right,WU VZ];omega
theorem Nc (xs:List Nat) (i d:Nat) {o:Nat} (hi:xs[i]?=some o):bD B (xs.set i d)+B^i*o=bD B xs+B^i*d:=by
 induction xs generalizing i with
 |nil=>simp at hi
 |cons x xs ih=>
  cases i with
  |zero=>simp only [YI,XN] at hi;subst hi;simp only [Wh,bD,YA,XP];omega
  |succ i=>
   have:=Xm (B* ·) (ih i hi);simp only [W7,←Xb] at this;simp only [WI,bD,W0,Wz _ B];omega
theorem CY {l m:List Nat}{x y:Nat} (hl:Dg B l) (hlen:l.length=m.length) (h:x<y):bD B (l++[x])<bD B (m++[y]):=by
 rw [eN,eN,hlen];have h1:=iD hl;rw [hlen] at h1;have h2:B^m.length*(x+1)≤B^m.length*y:=WM _ h;simp only [bD,Nat.mul_zero,XZ,XC] at h2 ⊢;omega
def ld (a b:Nat):Int:=if a<b then -1 else if b<a then 1 else 0
theorem lK {a:Nat} (h:a<b):ld a b= -1:=by simp [ld,h]
theorem yE {a:Nat} (h:b<a):ld a b=1:=by simp only [ld];rw [V6 VZ,V5 h]
theorem EG {a:Nat} (h:a=b):ld a b=0:=by simp only [ld];rw [V6 VZ,V6 VZ]
theorem wy {xs ys:List Nat}{x y:Nat} (hx:Dg B xs) (hxk:xs[k]?=some x) (hyk:ys[k]?=some y) (hd:xs.drop (k+1)=ys.drop (k+1)) (hlt:x<y):bD B xs<bD B ys:=by
 have lx:=(Wk.1 hxk).1;have ly:=(Wk.1 hyk).1;rw [jf xs (k+1) lx,jf ys (k+1) ly,hd];have e1:xs.take (k+1)=xs.take k++[x]:=by rw [List.take_add_one,hxk];rfl
 have e2:ys.take (k+1)=ys.take k++[y]:=by rw [List.take_add_one,hyk];rfl
 have:=CY (B:=B) (m:=ys.take k) (hx.take k) (by rw [Ww,Ww];omega) hlt;rw [e1,e2];omega
theorem zr {xs ys:List Nat}{x y:Nat} (hxk:xs[k]?=some x) (hyk:ys[k]?=some y) (hd:xs.drop (k+1)=ys.drop (k+1)) (h:x=y):xs.drop k=ys.drop k:=by
 obtain ⟨lx,ex⟩:=Wk.1 hxk;obtain ⟨ly,ey⟩:=Wk.1 hyk;rw [Xv lx,Xv ly,hd,ex,ey,h]
end
section
variable {B:Nat}
theorem pz {v:Nat} (hB:0<B) (hj:j<k) (hn:n+B^j*v<B^k) (hv:n/B^j % B+v<B):(bO B k n).set j (n/B^j % B+v)=bO B k (n+B^j*v):=by
 refine yx (B:=B) ((eT hB _ _).Mb _ hv) (eT hB _ _) (by rw [X8,aX,aX]) ?_;have h1:=Nc (B:=B) (bO B k n) j (n/B^j % B+v) (iA k n j hj);rw [cL VZ] at h1;rw [cL hn];rw [W7] at h1;omega
theorem qP (k:Nat):bO B k 0=List.replicate k 0:=by
 induction k with
 |zero=>rfl
 |succ k ih=>simp [bO,ih,Yp]
def zK (s:List UInt8):List Nat:=(s.map UInt8.toNat).reverse
def bn (s:List UInt8):Nat:=bD 256 (zK s)
def sb (n:Nat):List UInt8:=((aY 256 n).map UInt8.ofNat).reverse
theorem oW (s:List UInt8):(zK s).length=s.length:=by simp [zK]
theorem zl (s:List UInt8):Dg 256 (zK s):=fun d hd=>by
 obtain ⟨c,_,rfl⟩:=Wo.1 (YX.1 hd);exact c.toNat_lt
theorem OJ (s:List UInt8):bn s<256^s.length:=by have:=iD (zl s);rwa [oW] at this
theorem JM {s:List UInt8}{i:Nat}{c:UInt8} (hi:i<s.length) (h:s[s.length-1-i]?=some c):(zK s)[i]?=some c.toNat:=by
 unfold zK;rw [Xh (by simpa using hi),Wi,Wg,h];rfl
theorem KS (n:Nat):zK (sb n)=aY 256 n:=by
 unfold zK sb;rw [List.map_reverse,YM,W6];have:∀l:List Nat,Dg 256 l→l.map (UInt8.toNat ∘ UInt8.ofNat)=l:=by
  intro l
  induction l with
  |nil=>intro _;rfl
  |cons d l ih=>
   intro h;have hd:=h.head;simp only [Wv,ih h.tail,Function.comp];congr 1;simp only [Zf];omega
 exact this _ (dZ VZ n).1
theorem Tf (n:Nat):bn (sb n)=n:=by rw [bn,KS,ee VZ]
theorem GD (n:Nat):(sb n).length=(aY 256 n).length:=by simp [sb]
theorem MN {s t:List UInt8} (h:zK s=zK t):s=t:=by
 have h1:=List.reverse_inj.1 h;exact (List.map_inj_right fun a b h=>Y2.1 h).1 h1
theorem SA {s:List UInt8} (h:zK s=aY 256 n):s=sb n:=MN (by rw [h,KS])
theorem NH:sb 0=[]:=by rw [sb,gp VZ];rfl
theorem I3 (s:List UInt8):bn (0::s)=bn s:=by
 unfold bn zK;rw [Wv,Zg,eN];simp [bD]
theorem TP {s:List UInt8} (h:s.head?≠some 0):sb (bn s)=s:=by
 refine (SA ?_).symm;rw [bn,AB VZ ⟨zl s, ?_⟩];unfold zK;rw [List.getLast?_reverse,List.head?_map]
 cases s with
 |nil=>simp
 |cons c s=>
  simp only [List.head?_cons,Xx];intro h0;injection h0 with h0
  apply h;simp only [List.head?_cons];congr 1;exact Y2.1 (by simpa using h0)
end
def bG (n:Nat):Nat:=(aY 2 n).length
theorem lC:bG 0=0:=by rw [bG,gp VZ];rfl
theorem db (n:Nat):n<2^bG n:=qy VZ n
theorem dL (h:n<2^k):bG n≤k:=ij VZ h
theorem E7 (h:n≠0):2^(bG n-1)≤n:=by
 have h1:=IJ (B:=2) (dZ (B:=2) VZ n).2 (fun h0=>h ((uy VZ).1 h0));rwa [ee VZ] at h1
theorem qJ (h:n≠0):0<bG n:=by
 rw [bG];have:aY 2 n≠[]:=fun h0=>h ((uy VZ).1 h0);exact List.length_pos_iff.2 this
theorem Ed (h1:n<2^k) (h2:2^(k-1)≤n):bG n=k:=by
 have h3:=dL h1
 rcases WW (bG n) k with h|h
 ·have h4:=db n;have h5:2^bG n≤2^(k-1):=WS VZ VZ;omega
 ·omega
theorem I1 {B:Nat} (hB:B=2^b) {l:List Nat}{d:Nat} (hl:Dg B l) (hlen:l.length=m) (hd:d≠0):bG (bD B (l++[d]))=b*m+bG d:=by
 have hlt:=iD hl;rw [hlen] at hlt;have hp:B^m=2^(b*m):=by rw [hB,←W5]
 rw [eN,hlen];simp only [bD,Nat.mul_zero,XZ];rw [hp] at hlt ⊢;apply Ed
 ·have h1:=db d;have h2:2^(b*m)*(d+1)≤2^(b*m)*2^bG d:=WM _ h1;rw [Wy];rw [XC] at h2;omega
 ·have h1:=E7 hd;have h2:=qJ hd;have e:b*m+bG d-1=b*m+(bG d-1):=VZ;rw [e,Wy];have h3:2^(b*m)*2^(bG d-1)≤2^(b*m)*d:=WM _ h1;omega
theorem Cs {a s:Nat} (h:a<2^s):a|||(c*2^s)=a+c*2^s:=by
 have h1:=Nat.shiftLeft_add_eq_or_of_lt h c;rw [Nat.shiftLeft_eq] at h1;rw [Nat.or_comm,←h1,X6]
theorem MQ {i:Nat} (n:Nat) (hn:n<256^i) (hc:c<256) (hi:i/8<k):
  n/18446744073709551616^(i/8) % 18446744073709551616<2^(i % 8*8)∧c*2^(i % 8*8)<18446744073709551616∧
  (bO 18446744073709551616 k n).set (i/8) (n/18446744073709551616^(i/8) % 18446744073709551616+c*2^(i % 8*8))=bO 18446744073709551616 k (n+256^i*c):=by
 have hW:(18446744073709551616:Nat)=2^64:=by decide
 have h256:(256:Nat)=2^8:=by decide
 have hp:256^i=18446744073709551616^(i/8)*2^(i % 8*8):=by
  rw [hW,h256,←W5,←W5,←Wy];congr 1;omega
 have h1:n/18446744073709551616^(i/8)<2^(i % 8*8):=by
  rw [XH (WQ V0),Wz,←hp];exact hn
 have hs:2^(i % 8*8)*256≤18446744073709551616:=by
  rw [h256,hW,←Wy];exact WS VZ VZ
 have h2:n/18446744073709551616^(i/8) % 18446744073709551616<2^(i % 8*8):=Xi (Nat.mod_le _ _) h1;have h3:(c+1)*2^(i % 8*8)≤256*2^(i % 8*8):=Xr _ hc;rw [Xs] at h3;have hpos:0<2^(i % 8*8):=WQ VZ;refine ⟨h2,VZ, ?_⟩;have h4:256^i*c=18446744073709551616^(i/8)*(c*2^(i % 8*8)):=by rw [hp,Xb,Wz c]
 rw [h4];refine pz V0 hi ?_ VZ;rw [←h4];have h5:256^i*(c+1)≤256^i*256:=WM _ hc;have h6:256^i*256≤18446744073709551616^k:=by
  have:256^i*256=2^(8*(i+1)):=by rw [h256,←W5,←Wy];congr 1
  rw [this,hW,←W5];exact WS VZ VZ
 rw [XC] at h5;omega
theorem HU (n i:Nat):n/18446744073709551616^(i/8) % 18446744073709551616/2^(i % 8*8) % 256=n/256^i % 256:=by
 have hW:(18446744073709551616:Nat)=2^64:=by decide
 have h256:(256:Nat)=2^8:=by decide
 have hp:256^i=18446744073709551616^(i/8)*2^(i % 8*8):=by
  rw [hW,h256,←W5,←W5,←Wy];congr 1;omega
 rw [hp,←XG];generalize n/18446744073709551616^(i/8)=m;have e:(18446744073709551616:Nat)=2^(i % 8*8)*2^(64-i % 8*8):=by rw [←Wy,hW];congr 1;omega
 rw [e,Nat.mod_mul_right_div_self];have e2:2^(64-i % 8*8)=256*2^(56-i % 8*8):=by rw [h256,←Wy];congr 1;omega
 rw [e2,Nat.mod_mul_right_mod]
theorem xa (n j s:Nat) (hs:s<64) (h0:0<s):
  (n/18446744073709551616^j % 18446744073709551616/2^s)<2^(64-s)∧
  n/18446744073709551616^j % 18446744073709551616/2^s+n/18446744073709551616^(j+1) % 2^s*2^(64-s)=n/2^(64*j+s) % 18446744073709551616:=by
 have hW:(18446744073709551616:Nat)=2^64:=by decide
 have e:(18446744073709551616:Nat)=2^s*2^(64-s):=by rw [←Wy,hW];congr 1;omega
 have hp:(18446744073709551616:Nat)^(j+1)=18446744073709551616^j*18446744073709551616:=W0 ..;rw [hp,←XG,Wy,W5,←hW,←XG];generalize n/18446744073709551616^j=m;have e1:m % 18446744073709551616/2^s=m/2^s % 2^(64-s):=by rw [e,Nat.mod_mul_right_div_self]
 rw [e1];refine ⟨WB _ (WQ VZ), ?_⟩;have e2:m/18446744073709551616=m/2^s/2^(64-s):=by rw [e,←XG]
 rw [e2];generalize m/2^s=q;have e3:(18446744073709551616:Nat)=2^(64-s)*2^s:=by rw [Wz];exact e
 rw [e3,Nat.mod_mul,Wz (2^(64-s))]
theorem QV {d s:Nat} (hd:d<18446744073709551616) (hs:s≤64):d*2^s % 18446744073709551616+d/2^(64-s)*18446744073709551616=d*2^s∧d/2^(64-s)<2^s:=by
 have hW:(18446744073709551616:Nat)=2^64:=by decide
 have e:(18446744073709551616:Nat)=2^(64-s)*2^s:=by rw [←Wy,hW];congr 1;omega
 have h1:d*2^s/18446744073709551616=d/2^(64-s):=by rw [e,Nat.mul_div_mul_right _ _ (WQ VZ)]
 rw [←h1];constructor
 ·have:=YP (d*2^s) 18446744073709551616;omega
 ·rw [h1,XH (WQ VZ),Wz,←e];exact hd
def str (l:List UInt8):ByteArray:=⟨l.toArray⟩
theorem dV (l:List UInt8):(str l).data.toList=l:=by simp [str]
theorem uR {a b:ByteArray} (h:a.data.toList=b.data.toList):a=b:=by
 cases a;cases b;congr 1;exact YQ h
theorem RT (s:ByteArray):str s.data.toList=s:=uR (dV _)
theorem jr (l:List UInt8):(str l).size=l.length:=by simp [str,ByteArray.size]
theorem eh (s:ByteArray):s.size=s.data.toList.length:=(Zo).symm
theorem Ct (a b:List UInt8):str a++str b=str (a++b):=by
 apply uR;simp [str]
def a7 (l:List Int):List Value:=l.map (Value.int .i64)
theorem bQ (l:List Int):(a7 l).length=l.length:=by simp [a7]
theorem bR {l:List Int}{x:Int} (h:l[k]?=some x):(a7 l)[k]?=some (.int .i64 x):=by simp [a7,h]
theorem DL (a b:List UInt8):jB (a++b)=jB a++jB b:=by simp [jB]
theorem bB (l:List Int):((a7 l).all Value.oneCell')=true:=by simp [a7,Value.oneCell']
def gM (l:List ByteArray):List Value:=l.map Value.string
theorem mE (l:List ByteArray):(gM l).length=l.length:=by simp [gM]
theorem nQ {l:List ByteArray}{x:ByteArray} (h:l[k]?=some x):(gM l)[k]?=some (.string x):=by simp [gM,h]
theorem ay {l:List α}{x:α} (h:l[k]?=some x):l.take (k+1)=l.take k++[x]:=by rw [List.take_add_one,h];rfl
theorem al {l:List α} (h:k<l.length):∃x,l[k]?=some x:=⟨_,Xz h⟩
def eS (l:List UInt8):Bool:=l.all fun c=>decide (c.toNat<128)
theorem Hy (l:List UInt8) (c:UInt8):eS (l++[c])=(eS l && decide (c.toNat<128)):=by simp [eS]
theorem LJ {l:List UInt8}{c:UInt8} (h:l[k]?=some c) (hc:¬c.toNat<128):eS l=false:=by
 rw [←W9 (k+1) l,ay h];simp only [eS,List.all_append];simp;omega
theorem sK {l:List UInt8} (h:eS l=true) {c:UInt8} (hc:l[k]?=some c):c.toNat<128:=by
 have:=Wq.1 h c (Wb hc);simpa using this
def ck (x:Int):Bool:=decide (0≤x) && decide (x≤127)
def qR (x:Int):UInt8:=UInt8.ofNat x.toNat
def Jv (xs:List Int):List UInt8:=if xs.all ck then xs.map qR else []
def Oh (xs:List Int):Int:=if xs.all ck then 0 else 3
theorem QA {xs:List Int}{x:Int} (hx:xs[k]?=some x) (h:ck x=false):Jv xs=[]∧Oh xs=3:=by
 have:xs.all ck=false:=by
  cases hc:xs.all ck with
  |false=>rfl
  |true=>rw [Wq.1 hc x (Wb hx)] at h;cases h
 simp [Jv,Oh,this]
theorem p7 {xs:List Int} (h:xs.all ck=true):Jv xs=xs.map qR∧Oh xs=0:=by simp [Jv,Oh,h]
theorem Le {p:α→Bool}{l:List α}{x:α} (h:l[k]?=some x) (h1:(l.take k).all p=true) (h2:p x=true):(l.take (k+1)).all p=true:=by
 rw [ay h,List.all_append,h1];simp [h2]
theorem EF {x:Int} (h:0≤x) (h2:x≤255):IntKind.u8.wrap x=x:=by
 have:IntKind.u8.wrap x=x % 256:=rfl;rw [this];omega
theorem qa {x:Int} (h:ck x=true):Value.int .u8 x=.int .u8 (qR x).toNat:=by
 simp only [ck,Wm,Wt] at h;congr 1;simp only [qR,Zf];omega
theorem Kh {xs:List Int}{x:Int} (hx:xs[k]?=some x) (h:ck x=true):jB ((xs.take k).map qR)++[.int .u8 x]=jB ((xs.take (k+1)).map qR):=by
 rw [ay hx,WX,DL,qa h];rfl
def ints (l:List UInt8):List Int:=l.map fun c=>(c.toNat:Int)
def il (l:List UInt8):List Int:=if eS l then ints l else []
def Va (l:List UInt8):Int:=(il l).sum
theorem di (l:List UInt8):(ints l).length=l.length:=by simp [ints]
theorem uD {l:List UInt8}{c:UInt8} (h:l[k]?=some c):a7 (ints (l.take k))++[.int .i64 c.toNat]=a7 (ints (l.take (k+1))):=by
 rw [ay h];simp [a7,ints]
def lenOf:Value→Nat|.slice _ n _=>n|_=>0
theorem jS {l:List UInt8} (h:eS l=true):il l=ints l:=by simp [il,h]
theorem IA {l:List UInt8} (h:eS l=false):il l=[]:=by simp [il,h]
theorem LW {l:List UInt8}{c:UInt8} (h:l[k]?=some c):(ints l)[k]?=some (c.toNat:Int):=by simp [ints,h]
theorem F2 {l:List UInt8}{x:Int} (h:(il l)[k]?=some x):0≤x∧x≤127:=by
 unfold il at h;split at h
 ·rename_i hm;simp only [ints,Wg,Ym] at h;obtain ⟨c,hc,rfl⟩:=h;have:=sK hm hc;omega
 ·simp at h
def jA (f:Int→Int→Int) (a b:List UInt8):Option (List Int):=
 if eS a && (eS b && decide ((b.length:Int)=a.length)) then some (List.zipWith f (ints a) (ints b)) else none
def mulL (a b:List UInt8):List UInt8×Int:=
 match jA (· + ·) a b with|some l=>(Jv l,Oh l)|none=>([],1)
def Vt (a b:List UInt8):List UInt8×Bool:=
 match jA (· - ·) a b with|some l=>(Jv l,decide (Oh l=0))|none=>([],false)
theorem JI {f:Int→Int→Int}{a b:List Int}{x y:Int} (hx:a[k]?=some x) (hy:b[k]?=some y):(List.zipWith f a b)[k]?=some (f x y):=by
 simp [List.getElem?_zipWith,hx,hy]
def ni (f:Int→Int→Int) (a b:List Int) (k:Nat):List Int:=(List.zipWith f a b).take k++b.drop k
theorem Kf (f:Int→Int→Int) (a b:List Int):ni f a b 0=b:=by simp [ni]
theorem NQ {f:Int→Int→Int}{a b:List Int} (h:a.length=b.length) (hk:k≤b.length):(ni f a b k).length=b.length:=by
 simp [ni,h];omega
theorem QJ {f:Int→Int→Int}{a b:List Int} (h:a.length=b.length) {y:Int} (hy:b[k]?=some y):(ni f a b k)[k]?=some y:=by
 have hk:k<b.length:=(Wk.1 hy).1;unfold ni;rw [Xt (by simp [h];omega)];simp [h,Xg (Nat.le_of_lt hk),hy]
theorem L3 {f:Int→Int→Int}{a b:List Int} (h:a.length=b.length) {x y:Int} (hx:a[k]?=some x) (hy:b[k]?=some y):
  cd (a7 (ni f a b k)) k [.int .i64 (f x y)]=a7 (ni f a b (k+1)):=by
 have hk:k<b.length:=(Wk.1 hy).1;have hl:((List.zipWith f a b).take k).length=k:=by simp [h];omega
 have e1:(ni f a b k).take k=(List.zipWith f a b).take k:=by
  unfold ni;rw [Zw VZ,Wc VZ]
 have e2:(ni f a b k).drop (k+1)=b.drop (k+1):=by
  unfold ni;rw [List.drop_append,hl,XX VZ,show k+1-k=1 by omega,List.drop_drop];simp
 simp only [cd,a7,←YV,←Yy,WH,YZ,Ws,e1,e2];unfold ni;rw [ay (JI hx hy)];simp
theorem IV {f:Int→Int→Int}{a b:List Int} (h:a.length=b.length):ni f a b b.length=List.zipWith f a b:=by
 unfold ni;rw [Wc (by simp [h]),List.drop_length,WJ]
theorem rI {l:List Int} (y:Int) (h:k<l.length):cd (a7 l) (k*1) [.int .i64 y]=a7 (l.set k y):=by
 rw [Wn,cN (by rw [bQ];exact h)];unfold a7;rw [YC]
section
variable {P:Program}{N:Nat}{ops:Array Oper}{Q:Kq}{ρ:Rf}{w:World}{rest:List Oper}{d:Nat}{ty:TypeId}{pos:String}{af:Array Edge}
theorem kH {f:FuncId}{ts:Array TypeId}{v:Value} (hc:(callFunc f vs.toArray).run P w=.ok (.value v) w) (ha:wR ρ args.toList=vs) (hN:d<N) (kk:WL .plain P N ops Q rest (cH ρ d v) w):
  WL .plain P N ops Q (⟨some d,.call ⟨.value (.func f),args,ts⟩,ty,pos,af,none⟩::rest) ρ w:=by
 have hr:(execOp (ev ρ) ⟨some d,.call ⟨.value (.func f),args,ts⟩,ty,pos,af,none⟩).run P w=.ok (.value v) w:=by
  have hx:ev ρ (.func f)=.func (.func f) #[] #[]:=rfl;simp only [execOp,resolve,Deferred.ofValue,hx,invoke,nq args ha];simpa using hc
 exact aR rfl rfl hN hr kk
end
theorem jX (x y c:Nat) (hc:c≤1) (w:World):
  (callFunc 225 #[.int .u64 x,.int .u64 y,.int .u64 c]).run Tryz.prog w=
   .ok (.value (.tuple #[.int .u64 (((x+y+c) % 18446744073709551616:Nat):Int),.int .u64 (((x+y+c)/18446744073709551616:Nat):Int)])) w:=by
 rw [run_callFunc_extern Tryz.func225 V2 V2 V2 (e:=add64Entry) V2,run_add64 x y c VZ VZ VZ VZ];simp only [Result.andThen];congr 5<;>omega
def JH:Array Value→Sem Value:=fun args=>do
 let (x,y,b) ←Extern.MathBitsCarry.three "Sub64" args
 pure (Extern.MathBitsCarry.pair ((x+Extern.MathBitsCarry.m64-y-b) % Extern.MathBitsCarry.m64) (if x<y+b then 1 else 0))
theorem D8 (x y b:Nat) (hb:b≤1) (w:World):
  (JH #[.int .u64 x,.int .u64 y,.int .u64 b]).run P w=
   .ok (.tuple #[.int .u64 (((x+18446744073709551616-y-b) % 18446744073709551616:Nat):Int),.int .u64 ((if x<y+b then 1 else 0:Nat):Int)]) w:=by
 have:b=0∨b=1:=VZ
 rcases this with rfl|rfl<;>rfl
theorem xz (x y b:Nat) (hb:b≤1) (w:World):
  (callFunc 226 #[.int .u64 x,.int .u64 y,.int .u64 b]).run Tryz.prog w=
   .ok (.value (.tuple #[.int .u64 (((x+18446744073709551616-y-b) % 18446744073709551616:Nat):Int),.int .u64 ((if x<y+b then 1 else 0:Nat):Int)])) w:=by
 rw [run_callFunc_extern Tryz.func226 V2 V2 V2 (e:=JH) V2,D8 x y b hb]
 rfl
theorem rS (x y:Nat) (w:World) (hx:x<18446744073709551616) (hy:y<18446744073709551616):
  Calls Tryz.prog 224 #[.int .u64 (x:Int),.int .u64 (y:Int)] w fun e w'=>e=.returned (.tuple #[.int .u64 ((x*y/18446744073709551616:Nat):Int),.int .u64 ((x*y % 18446744073709551616:Nat):Int)])∧Below w.heap.size w w':=by
 refine aj (N:=51) (l:=[.int .u64 (x:Int),.int .u64 (y:Int)]) Tryz.func224 rfl rfl (by simp) ?_;refine sr (aI (aI (aa (sr (mI ?_)))));refine Jt ?_;refine aI (aa (sr (mI ?_)));refine xr ?_;refine aI (aa (sr (mI ?_)));refine Jt ?_;refine aI (aa (sr (mI ?_)));refine xr ?_;refine aI (aa (sr (mI (mI ?_))));refine ri rfl rfl V0 ?_;refine aI (aa (sr (mI (mI ?_))));refine ri rfl rfl V0 ?_;refine mI ?_;refine xr ?_;refine gW rfl rfl V0 ?_;refine aI (aa (sr (mI ?_)));refine Jt ?_;refine aI (aa (sr (mI ?_)));refine xr ?_;refine aI (aa (sr (mI (mI (mI ?_)))));refine ri rfl rfl V0 ?_;refine gW rfl rfl V0 ?_;refine aI (aa (sr (mI (mI ?_))));refine ri rfl rfl V0 ?_;refine mI ?_;refine gW rfl rfl V0 ?_;refine mI ?_;refine xr ?_;refine gW rfl rfl V0 ?_;refine aI (aa (sr (mI (mI ?_))));refine ri rfl rfl V0 ?_;refine aI (aa (av ?_));refine LP ?_;obtain ⟨bd,bt,bw,hhi⟩:=Lib.mul64_hi x y hx hy;have ba:=Lib.half_mul_le (a:=x/4294967296) (b:=y/4294967296) VZ VZ;have bb:=Lib.half_mul_le (a:=x/4294967296) (b:=y % 4294967296) VZ VZ;have bc:=Lib.half_mul_le (a:=x % 4294967296) (b:=y/4294967296) VZ VZ
 have em:∀z:Nat,z &&& 4294967295=z % 4294967296:=fun z=>Nat.and_two_pow_sub_one_eq_mod z 32;simp only [em];have hb:x*y/18446744073709551616<18446744073709551616:=by
  rw [XH VZ];exact Nat.mul_lt_mul'' hx hy
 refine ⟨?_,Below.refl _ _⟩;congr 5;rw [WU bd,WU (show x/4294967296*(y % 4294967296)<18446744073709551616 by omega),WU bt,WU (show x % 4294967296*(y/4294967296)<18446744073709551616 by omega),WU bw,WU (show x/4294967296*(y/4294967296)<18446744073709551616 by omega)];have key:∀A T V:Nat,A+T+V<18446744073709551616→((A+T) % 18446744073709551616+V) % 18446744073709551616=A+T+V:=by intro A T V h;omega
 rw [←hhi] at hb ⊢;exact Xm Nat.cast (key _ _ _ hb)
theorem gZ {x:Nat} (hm:2^k=m) (h:m≤x):bG x=k+bG (x/m):=by
 subst hm;have h0:x/2^k≠0:=by
  have:=(Nat.div_pos_iff (a:=x) (b:=2^k)).2 ⟨WQ VZ,h⟩;omega
 have h1:=db (x/2^k);have h2:=E7 h0;have h3:=qJ h0;have h4:=XT x (2^k);have h5:=WB x (WQ (n:=k) (show 0<2 by omega));apply Ed
 ·rw [Wy];have:2^k*(x/2^k+1)≤2^k*2^bG (x/2^k):=WM _ h1;rw [XC] at this;omega
 ·have e:k+bG (x/2^k)-1=k+(bG (x/2^k)-1):=VZ;rw [e,Wy];have:2^k*2^(bG (x/2^k)-1)≤2^k*(x/2^k):=WM _ h2;omega
theorem kv {T:ByteArray} (hT:T.data.toList=(List.range 256).map fun n=>UInt8.ofNat (bG n)) (h:n<256):∃c:UInt8,T.data.toList[n]?=some c∧c.toNat=bG n∧bG n≤8:=by
 have hb:bG n≤8:=dL VZ;refine ⟨UInt8.ofNat (bG n), ?_, ?_,hb⟩
 ·rw [hT,Wg,W8 h];rfl
 ·rw [Zf];omega
theorem A0 (x:Nat) (w:World) (hx:x<18446744073709551616):
  Calls Tryz.prog 227 #[.int .u64 (x:Int)] w fun e w'=>e=.returned (.int .i64 (bG x))∧Below w.heap.size w w':=by
 refine aj (N:=25) (l:=[.int .u64 (x:Int)]) Tryz.func227 rfl rfl (by simp) ?_;by_cases h32:4294967296≤x
 ·have:=gZ (x:=x) (k:=32) (m:=4294967296) rfl h32;refine sr (aI (aa (ah (sr (mI ?_)))));refine dP (aa (cT (sr (mI ?_))));refine xr ?_;refine aI (aa (ak (aI (aa (ah (sr (mI ?_)))))));by_cases h16:65536≤(x/4294967296)
  ·have:=gZ (x:=(x/4294967296)) (k:=16) (m:=65536) rfl h16;refine dP (aa (cT (sr (mI ?_))));refine l8 (s:=16) (m:=65536) rfl rfl V0 V0 V0 ?_;refine aI (aa (ak (mI ?_)));refine bj (aI (aa (ah (sr (mI ?_)))));by_cases h8:256≤((x/4294967296)/65536)
   ·have:=gZ (x:=((x/4294967296)/65536)) (k:=8) (m:=256) rfl h8;refine dP (aa (cT (sr (mI ?_))));refine EC ?_;refine aI (aa (ak (mI ?_)));refine bj (aI (aa (sr (mI (mI ?_)))));refine kV ?_;obtain ⟨cc,hcc,hcv,hcb⟩:=kv (T:=_) V2 (n:=(((x/4294967296)/65536)/256)) VZ;exact BC
   ·refine E9 ?_;refine kV ?_;obtain ⟨cc,hcc,hcv,hcb⟩:=kv (T:=_) V2 (n:=(((x/4294967296)/65536))) VZ;exact BC
  ·refine dP (aa (cF (ao (ai (ah (sr (mI ?_)))))));by_cases h8:256≤((x/4294967296))
   ·have:=gZ (x:=((x/4294967296))) (k:=8) (m:=256) rfl h8;refine dP (aa (cT (sr (mI ?_))));refine EC ?_;refine aI (aa (ak (mI ?_)));refine bj (aI (aa (sr (mI (mI ?_)))));refine kV ?_;obtain ⟨cc,hcc,hcv,hcb⟩:=kv (T:=_) V2 (n:=(((x/4294967296))/256)) VZ;exact BC
   ·refine E9 ?_;refine kV ?_;obtain ⟨cc,hcc,hcv,hcb⟩:=kv (T:=_) V2 (n:=(((x/4294967296)))) VZ;exact BC
 ·refine sr (aI (aa (ah (sr (mI ?_)))));refine dP (aa (cF (ao (ai (ah (sr (mI ?_)))))));by_cases h16:65536≤(x)
  ·have:=gZ (x:=(x)) (k:=16) (m:=65536) rfl h16;refine dP (aa (cT (sr (mI ?_))));refine l8 (s:=16) (m:=65536) rfl rfl V0 V0 V0 ?_;refine aI (aa (ak (mI ?_)));refine bj (aI (aa (ah (sr (mI ?_)))));by_cases h8:256≤((x)/65536)
   ·have:=gZ (x:=((x)/65536)) (k:=8) (m:=256) rfl h8;refine dP (aa (cT (sr (mI ?_))));refine EC ?_;refine aI (aa (ak (mI ?_)));refine bj (aI (aa (sr (mI (mI ?_)))));refine kV ?_;obtain ⟨cc,hcc,hcv,hcb⟩:=kv (T:=_) V2 (n:=(((x)/65536)/256)) VZ;exact BC
   ·refine E9 ?_;refine kV ?_;obtain ⟨cc,hcc,hcv,hcb⟩:=kv (T:=_) V2 (n:=(((x)/65536))) VZ;exact BC
  ·refine dP (aa (cF (ao (ai (ah (sr (mI ?_)))))));by_cases h8:256≤((x))
   ·have:=gZ (x:=((x))) (k:=8) (m:=256) rfl h8;refine dP (aa (cT (sr (mI ?_))));refine EC ?_;refine aI (aa (ak (mI ?_)));refine bj (aI (aa (sr (mI (mI ?_)))));refine kV ?_;obtain ⟨cc,hcc,hcv,hcb⟩:=kv (T:=_) V2 (n:=(((x))/256)) VZ;exact BC
   ·refine E9 ?_;refine kV ?_;obtain ⟨cc,hcc,hcv,hcb⟩:=kv (T:=_) V2 (n:=(((x)))) VZ;exact BC
theorem Dl (x:Nat) (w:World) (hx:x<18446744073709551616):
  Calls Tryz.prog 217 #[.int .u64 (x:Int)] w fun e w'=>e=.returned (.int .i64 (64-(bG x:Int)))∧Below w.heap.size w w':=by
 have hh:=Hp.start w;have hb:bG x≤64:=dL (by simpa using hx);refine aj (N:=6) (l:=[.int .u64 (x:Int)]) Tryz.func217 rfl rfl (by simp) ?_;refine sr (aI (aa (sr (mI ?_))));refine bq hh (A0 _ _ hx) rfl ?_;intro w4 hh;refine dQ (aI (aa (av ?_)));refine cW ?_;exact ⟨rfl,hh.below⟩
def tz (n:Nat):Nat:=Int.trailingZeros (n:Int)
theorem FE (k m:Nat):tz (2^k*(2*m+1))=k:=by
 have h:=Int.trailingZeros_shiftLeft (x:=2*(m:Int)+1) VZ k;rw [Int.trailingZeros_two_mul_add_one,Int.shiftLeft_eq] at h;unfold tz;have e:((2^k*(2*m+1):Nat):Int)=(2*(m:Int)+1)*2^k:=by
  rw [Xk,Zm,Ze];rfl
 rw [e];have e2:(((2^k:Nat)):Int)=2^k:=by simp
 rw [←e2] at h ⊢;simpa using h
theorem sI (h:n≠0):∃m,n=2^tz n*(2*m+1):=by
 have:∀b n:Nat,n≤b→n≠0→∃k m,n=2^k*(2*m+1):=by
  intro b
  induction b with
  |zero=>intro n h1 h2;omega
  |succ b ih=>
   intro n h1 h2
   rcases Nat.mod_two_eq_zero_or_one n with h|h
   ·obtain ⟨k,m,hk⟩:=ih (n/2) VZ VZ;exact ⟨k+1,m,by rw [W0,Wz (2^k),Xb,←hk];omega⟩
   ·exact ⟨0,n/2,VZ⟩
 obtain ⟨k,m,hk⟩:=this n n (V9 _) h;exact ⟨m,by rw [hk,FE]⟩
theorem xy (h:n≠0) (hn:n<2^k):tz n<k:=by
 obtain ⟨m,hm⟩:=sI h
 rcases WW (tz n) k with h1|h1
 ·exact h1
 ·have h2:2^k≤2^tz n:=WS VZ h1;have h3:2^tz n*1≤2^tz n*(2*m+1):=WM _ VZ;omega
theorem Cc (m m' j:Nat) (h:m+m'+1=2^j):(2*m+1) &&& (2*m'+1)=1:=by
 apply Nat.eq_of_testBit_eq;intro i;rw [Nat.testBit_and]
 cases i with
 |zero=>simp
 |succ i=>
  rw [Nat.testBit_succ,Nat.testBit_succ,Nat.testBit_succ];have e1:(2*m+1)/2=m:=VZ;have e2:(2*m'+1)/2=m':=VZ;have e3:m'=2^j-(m+1):=VZ;rw [e1,e2,e3,Nat.testBit_two_pow_sub_succ VZ]
  cases hi:m.testBit i<;>simp
theorem NK {x:Nat} (hx:x=2^k*(2*m+1)) (hlt:x<18446744073709551616):x &&& (18446744073709551616-x) % 18446744073709551616=2^k:=by
 have hW:(18446744073709551616:Nat)=2^64:=by decide
 have hk:k<64:=by
  have:=xy (n:=x) (k:=64) (by rw [hx];exact Nat.mul_ne_zero (Nat.pos_iff_ne_zero.1 (WQ VZ)) VZ) (by rw [←hW];exact hlt);rwa [hx,FE] at this
 have hp:(18446744073709551616:Nat)=2^k*(2*2^(63-k)):=by rw [hW,←Nat.pow_succ',←Wy];congr 1;omega
 have hm:m<2^(63-k):=by
  rw [hx,hp] at hlt;have:=Nat.lt_of_mul_lt_mul_left hlt;omega
 have e:(18446744073709551616-x) % 18446744073709551616=2^k*(2*(2^(63-k)-(m+1))+1):=by
  have h1:2*(2^(63-k)-(m+1))+1=2*2^(63-k)-(2*m+1):=VZ;rw [h1,Nat.mul_sub,←hp,←hx,WU];have:0<2^k*(2*m+1):=Nat.mul_pos (WQ VZ) VZ;omega
 rw [e,hx];have h2:=Cc m (2^(63-k)-(m+1)) (63-k) VZ;have h3:=Xm (· <<<k) h2;rw [Nat.shiftLeft_and_distrib] at h3;simp only [Nat.shiftLeft_eq,XP] at h3;rw [Wz (2^k),Wz (2^k)];exact h3
def Cp:List Nat:=[0,1,56,2,57,49,28,3,61,58,42,50,38,29,17,4,62,47,59,36,45,43,51,22,53,39,33,30,24,18,12,5,63,55,48,27,60,41,37,16,46,35,44,21,52,32,23,11,54,26,40,15,34,20,31,10,25,14,19,9,13,8,7,6]
def er (w:World):Prop:=Rd w ⟨0,0,none⟩ (gE Cp)
theorem er.ext (h:er w) (hb:Below w.heap.size w w'):er w':=Rd.ext h hb
theorem er.hp {H:List HE} (h:er w) (hh:Hp w H w'):er w':=Rd.ext h hh.below
theorem RD:∀k:Fin 64,Cp[2^k.val*285870213051353865 % 18446744073709551616/288230376151711744]?=some k.val∧2^k.val*285870213051353865 % 18446744073709551616/288230376151711744<64:=by decide+kernel
theorem DH (x:Nat) (w:World) (hx:x<18446744073709551616) (h0:x≠0) (hT:er w):
  Calls Tryz.prog 162 #[.int .u64 (x:Int)] w fun e w'=>e=.returned (.int .i64 (tz x))∧Below w.heap.size w w':=by
 have hh:=Hp.start w;obtain ⟨m,hm⟩:=sI h0;have hk:tz x<64:=xy h0 (by simpa using hx);have ha:=NK hm hx;obtain ⟨t1,t2⟩:=RD ⟨tz x,hk⟩;simp only at t1 t2;have hc:=(show Rd w _ _ from hT).wN (oT t1);refine aj (N:=14) (l:=[.int .u64 (x:Int)]) Tryz.func162 rfl rfl (by simp) ?_;refine sr (aI (aa (ah (sr (mI ?_)))));refine ct (aa (cF (ao (ai (sr (mI (mI ?_)))))));refine K7 rfl (by first|assumption|omega) V0 ?_;refine DM rfl rfl hx (WB _ V0) V0 ?_;rw [ha];skip;refine ri (b:=285870213051353865) rfl rfl V0 ?_;refine l8 (s:=58) (m:=288230376151711744) rfl rfl V0 V0 V0 ?_;refine DZ a9.out aJ.size rfl rfl rfl VZ V0 ?_;refine bX aJ.out rfl (hc) V0 ?_;refine wH ?_;exact yG
end Go.Proofs.YtolamocnngihpaaGreatDoor
