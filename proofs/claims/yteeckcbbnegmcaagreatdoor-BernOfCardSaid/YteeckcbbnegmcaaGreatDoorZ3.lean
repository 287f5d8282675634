/- Lemmas for bernOf, part 3. -/
import Derived.Deep.AppendSrc
import Derived.Deep.Upon
import Init
import Derived.Laws.Externs
import Derived.Lib.Mul64
import Derived.Test.YteeckcbbnegmcaaGreatDoorZ2
namespace Go.Proofs.YteeckcbbnegmcaaGreatDoor
variable {K:Value→World→Prop}{M rs:List Nat}{N b base by' c c' dj fuel j k m n:Nat}{P:Program}{R:Ending→World→Prop}{W w w' w0 w1:World}{ad:Addr}{ag:Bool}{cs news xs zc:List Value}{next:Rf→World→Prop}{ops:Array Oper}{parts:Array (Nat×Operand)}{pos:String}{ps:List (Nat×Value)}{α:Type}{ρ:Rf}
open Go.RowKit
section
variable {D:List Deferred}
section
variable {P:Program}{N:Nat}{Q:Kq}{ρ:Rf}{w:World}
def O6 (ops:Array Oper):Nat→Nat→Nat→Bool
 |0,_,_=>false
 |n+1,k,i=>match ops[k]? with
  |none=>false
  |some o=>(o.after.any fun e=>Region.binds .any e && e.on==i)||o.after.any fun e=>Region.binds .any e && O6 ops n e.on i
def rh (ops:Array Oper) (L:Array Bool):Prop:=∀k o,ops[k]?=some o→L.getD k false=true→∀e∈o.after,Region.binds .any e=true→L.getD e.on false=true
theorem nc {ops:Array Oper}{L:Array Bool} (hc:rh ops L):∀(n k i:Nat),(∀o,ops[k]?=some o→∀e∈o.after,Region.binds .any e=true→L.getD e.on false=true)→O6 ops n k i=true→L.getD i false=true
 |0,_,_,_,h=>by simp [O6] at h
 |n+1,k,i,hk,h=>by
  unfold O6 at h;split at h
  ·cases h
  ·rename_i o ho;rw [Yd] at h
   rcases h with h|h
   ·obtain ⟨e,he,h⟩:=Array.any_eq_true'.1 h;simp only [Wl,XK] at h;rw [←h.2];exact hk o ho e he h.1
   ·obtain ⟨e,he,h⟩:=Array.any_eq_true'.1 h;simp only [Wl] at h;have h1:=hk o ho e he h.1;exact nc hc n e.on i (fun o' ho'=>hc e.on o' ho' h1) h.2
structure OG (P:Program) (ops:Array Oper) (o:Oper) (ρ:Rf) (w:World) (K:Value→World→Prop):Prop where
 out:∀(a:Act) (next:Act→World→Prop) (Q:Exit→Act→World→Prop),(∀i,a.tmps.getD i undef=ρ i)→(∀v w',K v w'→next (a.put o.dst v) w')→
  if Region.wanted o (yielded ops a.tmps) then o.wp P a w next Q∨(o.asks P a w∧LetsOut Q) else next (a.put o.dst undef) w
theorem Gs {a:Act} (h:∀i,a.tmps.getD i undef=ρ i):a.eval=ev ρ:=by
 funext x
 cases x with
 |tmp t=>exact h t
 |_=>rfl
theorem eI {o:Oper}{v:Value} (hg:o.guard=none) (hr:(execOp (ev ρ) o).run P w=.ok (.value v) w') (hk:K v w'):OG P ops o ρ w K:=
 ⟨fun a next Q ha hn=>by
  rw [V2 (by simp [Region.wanted,hg])];refine .inl ?_;unfold Oper.wp;rw [Gs ha,hr];exact hn _ _ hk⟩
theorem bh {o:Oper}{f:FuncId}{args:Array Value} (hg:o.guard=none) (hr:(execOp (ev ρ) o).run P w=.ok (.enter f args) w1) (hc:Calls P f args w1 R)
  (hk:∀e w',R e w'→∃v,e=.returned v∧K v w'):OG P ops o ρ w K:=
 ⟨fun a next Q ha hn=>by
  rw [V2 (by simp [Region.wanted,hg])];refine .inl ?_;unfold Oper.wp;rw [Gs ha,hr];show Calls P f args w1 _;refine hc.mono fun e w' hR=> ?_;obtain ⟨v,rfl,hkv⟩:=hk e w' hR;exact hn _ _ hkv⟩
theorem bz {d:Option Nat}{op:Op}{ty:TypeId}{af:Array Edge}{b:Bool}
  (hj:(ops[j]?).bind (·.dst)=some dj) (hv:ρ dj=.bool b) (h:OG P ops ⟨d,op,ty,pos,af,none⟩ ρ w K):OG P ops ⟨d,op,ty,pos,af,some (j,b)⟩ ρ w K:=
 ⟨fun a next Q ha hn=>by
  have h1:Region.wanted ⟨d,op,ty,pos,af,some (j,b)⟩ (yielded ops a.tmps)=true:=by
   have h2:=ha dj;rw [hv,Xf] at h2
   cases h3:a.tmps[dj]? with
   |none=>rw [h3] at h2;cases h2
   |some x=>
    rw [h3] at h2;simp only [Xq] at h2;subst h2;simp [Region.wanted,yielded,hj,h3]
  have h2:=h.out a next Q ha hn;rw [V2 (by simp [Region.wanted])] at h2;rw [V2 h1];exact h2⟩
theorem vT {d:Option Nat}{op:Op}{ty:TypeId}{af:Array Edge}{b c:Bool}
  (hj:(ops[j]?).bind (·.dst)=some dj) (hv:ρ dj=.bool c) (hb:c≠b) (h:K undef w):OG P ops ⟨d,op,ty,pos,af,some (j,b)⟩ ρ w K:=
 ⟨fun a next Q ha hn=>by
  have h1:Region.wanted ⟨d,op,ty,pos,af,some (j,b)⟩ (yielded ops a.tmps)=false:=by
   have h2:=ha dj;rw [hv,Xf] at h2
   cases h3:a.tmps[dj]? with
   |none=>rw [h3] at h2;cases h2
   |some x=>
    rw [h3] at h2;simp only [Xq] at h2;subst h2;simp [Region.wanted,yielded,hj,h3,hb]
  rw [h1];exact hn _ _ h⟩
def de (V:Nat→Value→World→Prop) (ρ ρ1:Rf) (w1:World):List (Nat×Option Nat)→Prop
 |[]=>True
 |(t,some j)::r=>V j (ρ1 t) w1∧de V ρ ρ1 w1 r
 |(t,none)::r=>ρ1 t=ρ t∧de V ρ ρ1 w1 r
def DO (P:Program) (ops:Array Oper) (J:World→Prop) (V:Nat→Value→World→Prop) (ρ:Rf):Nat→List Oper→List (List (Nat×Option Nat))→Prop
 |i,o::os,s::ss=>((∀v w w',V i v w→Below w.heap.size w w'→V i v w')∧∀ρ1 w1,J w1→de V ρ ρ1 w1 s→OG P ops o ρ1 w1 fun v w2=>Below w1.heap.size w1 w2∧V i v w2)∧DO P ops J V ρ (i+1) os ss
 |_,[],[]=>True
 |_,_,_=>False
theorem GA {ops:Array Oper}{J:World→Prop}{V:Nat→Value→World→Prop}:∀(l:List Oper) (ss:List (List (Nat×Option Nat))) (i:Nat),DO P ops J V ρ i l ss→l.length=ss.length∧∀k o,l[k]?=some o→∃s,ss[k]?=some s∧
  (∀v w w',V (i+k) v w→Below w.heap.size w w'→V (i+k) v w')∧∀ρ1 w1,J w1→de V ρ ρ1 w1 s→OG P ops o ρ1 w1 fun v w2=>Below w1.heap.size w1 w2∧V (i+k) v w2
 |[],[],_,_=>⟨rfl,fun k o h=>by simp at h⟩
 |[],_::_,_,h=>h.elim
 |_::_,[],_,h=>h.elim
 |o::l,s::ss,i,h=>by
  obtain ⟨h1,h2⟩:=GA l ss (i+1) h.2;refine ⟨by simp [h1],fun k o' hk=> ?_⟩
  cases k with
  |zero=>
   simp only [YN,XO] at hk;subst hk;exact ⟨s,rfl,h.1⟩
  |succ k=>
   obtain ⟨s',hs,h3⟩:=h2 k o' (by simpa using hk);refine ⟨s',by simpa using hs, ?_⟩;have e:i+1+k=i+(k+1):=VX;rw [e] at h3;exact h3
def lE (ρ:Rf) (f:Nat→Value):List (Nat×Nat)→Rf
 |[]=>ρ
 |(i,d)::r=>cL (lE ρ f r) d (f i)
def zO (V:Nat→Value→World→Prop) (f:Nat→Value) (w:World):List (Nat×Nat)→Prop
 |[]=>True
 |(i,_)::r=>V i (f i) w∧zO V f w r
def jN (n k:Nat):Array Bool:=(List.replicate k true++List.replicate (n-k) false).toArray
def CP (l:List Oper) (m N:Nat) (src:List (List (Nat×Option Nat))) (ds:List (Nat×Nat)):Bool:=
 let ops:=l.toArray
 let pre:=(List.range m).map fun i=>((ops[i]?).bind (·.dst))
 (m≤l.length) && (src.length==m) &&
 (ds==(pre.zipIdx.filterMap fun (d,i)=>d.map fun d=>(i,d)).reverse) && (decide (ds.map (·.2)).Nodup) && (ds.all fun p=>p.2<N) &&
 ((List.range m).all fun i=>match ops[i]?,src[i]? with
  |some o,some s=>((o.looksAt ops).all fun t=>s.any fun p=>p.1==t) &&
    s.all fun p=>match p.2 with
     |some j=>(j<m) && ((ops[j]?).bind (·.dst)==some p.1) && O6 ops 16 i j
     |none=>(List.range m).all fun j=> !((ops[j]?).bind (·.dst)==some p.1)||(j !=i && O6 ops 16 j i)
  |_,_=>false) &&
 (l.length==m||((List.range m).all fun i=>O6 ops 16 m i)) &&
 ((List.range (l.length-m)).all fun k=>Region.ready .any ops (jN l.length (m+k))==[m+k]) && (Region.ready .any ops (jN l.length l.length)==[]) &&
 ((List.range (l.length-m)).all fun k=>k==0||O6 ops 16 (m+k) m) &&
 ((List.range l.length).all fun i=>match ops[i]? with|some o=>o.after.all fun e=> !Region.binds .any e||e.on<i|none=>false)
theorem HW (n k i:Nat):(jN n k).getD i false=decide (i<k):=by
 unfold jN;rw [Xf,Yj]
 rcases WX i k with h|h
 ·rw [Yp (by simpa using h)];simp [h]
 ·rw [Xm (by simpa using h),List.getElem?_replicate];have:¬i<k:=VX;split<;>simp [this]
theorem Lu (n k:Nat) (hk:k<n):(jN n k).setIfInBounds k true=jN n (k+1):=by
 unfold jN;rw [List.setIfInBounds_toArray];congr 1;apply XN;intro i;rw [Yf];simp only [List.getElem?_append,Xo,List.getElem?_replicate,Wc];by_cases h1:k=i
 ·subst h1;rw [V2 rfl,V2 VX,V2 (show k<k+1 by omega),V2 (show k<k+1 by omega)]
 ·rw [V3 h1];by_cases h2:i<k
  ·rw [V2 h2,V2 h2,V2 (show i<k+1 by omega),V2 (show i<k+1 by omega)]
  ·rw [V3 h2,V3 (show ¬i<k+1 by omega)];by_cases h3:i-k<n-k
   ·rw [V2 h3,V2 (show i-(k+1)<n-(k+1) by omega)]
   ·rw [V3 h3,V3 (show ¬i-(k+1)<n-(k+1) by omega)]
theorem Hm (n k:Nat) (hk:k≤n):(jN n k).size=n:=by simp [jN];omega
theorem DA (n k:Nat):(jN n k).toList.countP (fun b=>b)=k:=by
 simp [jN,List.countP_replicate]
theorem xV {L:Array Bool} (hs:L.size=n) (hk:k≤n) (h1:∀i,i<k→L.getD i false=true) (h2:∀i,k≤i→L.getD i false=false):L=jN n k:=by
 apply Array.ext
 ·rw [hs,Hm n k hk]
 ·intro i hi hi2;have e1:L[i]=L.getD i false:=by simp [hi]
  have e2:(jN n k)[i]=(jN n k).getD i false:=by simp [hi2]
  rw [e1,e2,HW n k i]
  rcases WX i k with h|h
  ·rw [h1 i h];simp [h]
  ·rw [h2 i h];have:¬i<k:=VX;simp [this]
theorem p6 {l:List Oper}{Q':Exit→Act→World→Prop} (m:Nat)
  (hr:∀k,m≤k→k<l.length→Region.ready .any l.toArray (jN l.length k)=[k]) (hend:Region.ready .any l.toArray (jN l.length l.length)=[]):
  ∀(fuel k:Nat) (a:Act) (w:World),m≤k→k≤l.length→l.length≤fuel+k→wpList P l.toArray Q' (l.drop k) a w→wpAny P .any l.toArray Q' fuel (jN l.length k) a w
 |fuel,k,a,w,hmk,hk,hf,h=>by
  rcases WX k l.length with hlt|hge
  ·cases fuel with
   |zero=>omega
   |succ fuel=>
    refine wpAny_all (hr k hmk hlt) (by simp) fun i hi=> ?_;obtain rfl:i=k:=by simpa using hi
    rw [Xl hlt] at h;unfold wpList at h;have ho:l.toArray[i]?=some l[i]:=by simp [hlt]
    have hset:=Lu l.length i hlt;have hgo:∀a w,wpList P l.toArray Q' (l.drop (i+1)) a w→wpAny P .any l.toArray Q' fuel ((jN l.length i).setIfInBounds i true) a w:=fun a w h=>by
     rw [hset];exact p6 m hr hend fuel (i+1) a w VX VX VX h
    unfold wpOp;rw [ho];simp only [];split at h
    ·rename_i hw;rw [V2 hw];exact h.imp (Oper.wp_mono hgo) id
    ·rename_i hw;rw [V3 hw];exact hgo _ _ h
  ·obtain rfl:k=l.length:=VX;rw [List.drop_length] at h;exact wpAny_done hend h fuel
structure DI (D:List Deferred) (N:Nat) (ops:Array Oper) (m:Nat) (ρ:Rf) (J:World→Prop) (V:Nat→Value→World→Prop) (L:Array Bool) (a:Act) (w:World):Prop where
 nd:a.defers=D
 sz:a.tmps.size=N
 j:J w
 ls:L.size=ops.size
 cl:rh ops L
 tl:∀k,m≤k→L.getD k false=false
 vs:∀i d,i<m→L.getD i false=true→(ops[i]?).bind (·.dst)=some d→V i (a.tmps.getD d undef) w
 LB:∀s,(∀i,i<m→L.getD i false=true→(ops[i]?).bind (·.dst)≠some s)→a.tmps.getD s undef=ρ s
theorem dP {L:Array Bool}{i:Nat} (hi:i<L.size):(L.setIfInBounds i true).getD j false=(decide (j=i)||L.getD j false):=by
 rw [Xf,Array.getElem?_setIfInBounds];by_cases h:i=j
 ·subst h;simp [hi]
 ·have:¬j=i:=fun e=>h e.symm;simp [h,this]
theorem eA {a:Act}{d s:Nat}{v:Value} (hd:d<a.tmps.size):(a.put (some d) v).tmps.getD s undef=if s=d then v else a.tmps.getD s undef:=by
 by_cases h:s=d
 ·subst h;simp [Act.put,hd]
 ·have:d≠s:=fun e=>h e.symm;simp [Act.put,Array.getElem?_setIfInBounds_ne this,h]
theorem lY (f:Nat→Value):∀(ds:List (Nat×Nat)) (s:Nat),(ds.map (·.2)).Nodup→(∀i,(i,s)∈ds→lE ρ f ds s=f i)∧((∀i,(i,s)∉ds)→lE ρ f ds s=ρ s)
 |[],s,_=>⟨fun i h=>by simp at h,fun _=>rfl⟩
 |(j,d)::r,s,h=>by
  rw [Wv,X2] at h;obtain ⟨h1,h2⟩:=lY f r s h.2;constructor
  ·intro i hi
   rcases Wk.1 hi with hi'|hi'
   ·injection hi' with e1 e2
    subst e1;subst e2;exact iQ _ _ _
   ·have hne:s≠d:=fun e=>h.1 (e ▸ Wn.2 ⟨_,hi',rfl⟩);exact (bD _ hne _).trans (h1 i hi')
  ·intro hn;have hne:s≠d:=by
    rintro rfl;exact hn j We
   exact (bD _ hne _).trans (h2 fun i hi=>hn i (Wg _ hi))
theorem sS {V:Nat→Value→World→Prop}{f:Nat→Value}{w:World}:∀(ds:List (Nat×Nat)),(∀p∈ds,V p.1 (f p.1) w)→zO V f w ds
 |[],_=>trivial
 |(i,d)::r,h=>⟨h (i,d) We,sS r fun p hp=>h p (Wg _ hp)⟩
theorem qP {V:Nat→Value→World→Prop}{ρ1:Rf}{w1:World}:∀(s:List (Nat×Option Nat)),(∀p∈s,match p.2 with|some j=>V j (ρ1 p.1) w1|none=>ρ1 p.1=ρ p.1)→de V ρ ρ1 w1 s
 |[],_=>trivial
 |(t,some j)::r,h=>⟨h (t,some j) We,qP r fun p hp=>h p (Wg _ hp)⟩
 |(t,none)::r,h=>⟨h (t,none) We,qP r fun p hp=>h p (Wg _ hp)⟩
theorem NG {id:Nat}{l:List Oper} (m:Nat) (src:List (List (Nat×Option Nat))) (ds:List (Nat×Nat)) (J:World→Prop) (V:Nat→Value→World→Prop) (hm:P.follows .mixedOrders=true) (hok:CP l m N src ds=true)
  (hJ:∀w w',J w→Below w.heap.size w w'→J w') (h0:J w) (hops:DO P l.toArray J V ρ 0 (l.take m) src)
  (tail:∀f w',J w'→zO V f w' ds→WL ⟨none,D,false⟩ P N l.toArray Q (l.drop m) (lE ρ f ds) w'):WC ⟨none,D,false⟩ P N (.region id l.toArray true) Q ρ w:=by
 refine WC.qS fun a hf=>wp_region_any hm ?_;simp only [CP,Wl,Wt,XK,Ww,Xx] at hok;obtain ⟨⟨⟨⟨⟨⟨⟨⟨⟨⟨hml,_⟩,hds⟩,hnd⟩,hdN⟩,hrd⟩,htail⟩,hready⟩,hend⟩,hdep⟩,hedge⟩:=hok;have hdo:=(GA _ _ _ hops).2;have hpre:∀i d,i<m→((l.toArray[i]?).bind (·.dst))=some d→(i,d)∈ds:=fun i d hi hd=>by
  exact RQ
 have hdsm:∀i d,(i,d)∈ds→i<m∧((l.toArray[i]?).bind (·.dst))=some d:=fun i d hp=>by
  exact Qr
 have hone:∀i j d,i<m→j<m→((l.toArray[i]?).bind (·.dst))=some d→((l.toArray[j]?).bind (·.dst))=some d→i=j:=fun i j d hi hj h1 h2=>by
  exact QE
 have hnn:l.toArray.size=l.length:=by simp
 have full:∀(L:Array Bool) (a:Act) (w:World) (fuel:Nat),DI D N l.toArray m ρ J V L a w→(∀i,i<m→L.getD i false=true)→l.length≤fuel+m→wpAny P .any l.toArray (dK N D Q) fuel L a w:=by
  intro L a w fuel hI hall hfu;have hL:L=jN l.length m:=xV (by rw [hI.ls,hnn]) hml hall hI.tl;rw [hL];refine p6 m (fun k h1 h2=> ?_) hend fuel m a w (V8 _) hml hfu ?_
  ·have:=hready (k-m) VX;rwa [show m+(k-m)=k by omega] at this
  ·have hfits:eW N D a (lE ρ (fun i=>match (l.toArray[i]?).bind (·.dst) with|some d=>a.tmps.getD d undef|none=>undef) ds):=by
    exact TE
   refine (tail _ w hI.j (sS ds fun p hp=> ?_)).out a hfits;obtain ⟨h1,h2⟩:=hdsm p.1 p.2 hp;have:=hI.vs p.1 p.2 h1 (hall _ h1) h2;rw [h2];exact this
 have key:∀(fuel:Nat) (L:Array Bool) (a:Act) (w:World),DI D N l.toArray m ρ J V L a w→fuel+L.toList.countP (fun b=>b)=l.length→wpAny P .any l.toArray (dK N D Q) fuel L a w:=by
  intro fuel
  induction fuel with
  |zero=>
   exact SZ
  |succ fuel ih=>
   intro L a w hI hc;by_cases hall:∀i,i<m→L.getD i false=true
   ·exact NX
   ·have hsome:∃i,i<m∧L.getD i false=false:=by
     exact Px
    have hready_spec:∀i,i∈Region.ready .any l.toArray L↔i<l.length∧L.getD i true=false∧∃o,l.toArray[i]?=some o∧∀e∈o.after,Region.binds .any e=true→L.getD e.on false=true:=fun i=>by
     exact RD
    refine ⟨fun hnil=> ?_,fun i hi=> ?_⟩
    ·exact Tk
    ·obtain ⟨hil,hun,o,ho,hed⟩:=(hready_spec i).1 hi;have hiL:i<L.size:=by rw [hI.ls,hnn];exact hil
     have hun':L.getD i false=false:=by
      exact Rz
     have hed':∀o',l.toArray[i]?=some o'→∀e∈o'.after,Region.binds .any e=true→L.getD e.on false=true:=fun o' ho'=>by
      exact I4
     have him:i<m:=by
      rcases WX i m with h|h
      ·exact h
      ·exfalso
       rcases WX m i with h2|h2
       ·have h3:=hdep (i-m) VX;rw [show m+(i-m)=i by omega] at h3;have h4:(i-m==0)=false:=by simp;omega
        rw [h4,W7] at h3;have:=nc hI.cl 16 i m hed' h3;rw [hI.tl m (V8 _)] at this
        cases this
       ·obtain rfl:i=m:=VX;have h4:(l.length==i)=false:=by simp;omega
        rw [h4,W7] at htail;have h5:=Ww.1 htail;obtain ⟨j,hj,hju⟩:=hsome;have:=nc hI.cl 16 i j hed' (h5 j (by simpa using hj));rw [hju] at this
        cases this
     have hok':(l.take m)[i]?=some o:=by
      rw [XL,V2 him];simpa using ho
     obtain ⟨s,hs,hstab,hog⟩:=hdo i o hok';rw [Wr] at hstab hog;have hrdi:=hrd i him;rw [ho,hs] at hrdi;simp only [Wl,Ww] at hrdi;have hro:de V ρ (fun t=>a.tmps.getD t undef) w s:=qP s fun p hp=>by
      have hp2:=hrdi.2 p hp
      cases hp3:p.2 with
      |some j=>
       rw [hp3] at hp2;simp only [Wl,Wt,XK] at hp2;exact hI.vs j p.1 hp2.1.1 (nc hI.cl 16 i j hed' hp2.2) hp2.1.2
      |none=>
       rw [hp3] at hp2;refine hI.LB p.1 fun j hj hjl hjd=> ?_;have h6:=Ww.1 hp2 j (by simpa using hj);rw [hjd] at h6;simp only [beq_self_eq_true,Bool.not_true,W7,Wl] at h6;have:=nc hI.cl 16 j i (fun o' ho' e he hb=>hI.cl j o' ho' hjl e he hb) h6.2;rw [hun'] at this
       cases this
     have hgo:=(hog _ w hI.j hro).out a (wpAny P .any l.toArray (dK N D Q) fuel (L.setIfInBounds i true)) (dK N D Q) (fun _=>rfl) (fun v w2 hv=>by
      refine ih _ _ _ ?_ ?_
      ·refine ⟨?_, ?_,hJ _ _ hI.j hv.1,by simpa using hI.ls, ?_, ?_, ?_, ?_⟩
       ·cases o.dst<;>exact hI.nd
       ·cases hod:o.dst with
        |none=>exact hI.sz
        |some d=>simpa [Act.put] using hI.sz
       ·intro k ok hk hkl e he hb;rw [dP hiL] at hkl ⊢;by_cases hki:k=i
        ·subst hki;simp [hed' ok hk e he hb]
        ·simp only [hki,decide_false,W7] at hkl;simp [hI.cl k ok hk hkl e he hb]
       ·intro k hk;rw [dP hiL,hI.tl k hk];have:¬k=i:=VX;simp [this]
       ·intro j d hj hjl hjd;rw [dP hiL] at hjl;have hd1:∀d',o.dst=some d'→d'<a.tmps.size:=fun d' hd'=>by
         rw [hI.sz];exact hdN (i,d') (hpre i d' him (by rw [ho];exact hd'))
        by_cases hji:j=i
        ·subst hji;rw [ho] at hjd;simp only [Yb] at hjd;rw [hjd,eA (hd1 d hjd),V2 rfl];exact hv.2
        ·simp only [hji,decide_false,W7] at hjl;have hold:=hI.vs j d hj hjl hjd;have hdj:(j,d)∈ds:=hpre j d hj hjd;have hst:=(hdo j (l.toArray[j]?.getD default) (by
          have:j<l.length:=VX;rw [XL,V2 hj];simp [this])).choose_spec.2.1
         rw [Wr] at hst;have hne:∀d',o.dst=some d'→d≠d':=fun d' hd' e=>by
          subst e;exact hji (hone j i d hj him hjd (by rw [ho];exact hd'))
         cases hod:o.dst with
         |none=>exact hst _ _ _ hold hv.1
         |some d'=>
          rw [eA (hd1 d' hod),V3 (hne d' hod)];exact hst _ _ _ hold hv.1
       ·intro s' hs';have hni:((l.toArray[i]?).bind (·.dst))≠some s':=hs' i him (by rw [dP hiL];simp);have hold:=hI.LB s' fun j hj hjl=>hs' j hj (by rw [dP hiL];simp [hjl]);rw [ho] at hni;simp only [Yb] at hni
        cases hod:o.dst with
        |none=>exact hold
        |some d'=>
         rw [eA (by rw [hI.sz];exact hdN (i,d') (hpre i d' him (by rw [ho];exact hod))),V3 (fun e=>hni (by rw [hod,e]))];exact hold
      ·have hLi:L.toList[i]?=some false:=by
        have h3:i<L.toList.length:=by simpa using hiL
        rw [Xp h3];have:L.getD i false=L.toList[i]:=by simp [hiL]
        rw [←this,hun']
       rw [Array.toList_setIfInBounds,List.countP_set (by simpa using hiL)];have h4:L.toList[i]'(by simpa using hiL)=false:=(Wi.1 hLi).2;rw [h4];simp only [Y2,if_false,if_true];omega)
     unfold wpOp;rw [ho];exact hgo
 have hJ0:J ({ w with drawn:=w.drawn+1 }:World):=hJ w _ h0 ⟨rfl,rfl,rfl,V8 _,fun _ _=>rfl⟩;have hr0:∀i,(Array.replicate l.toArray.size false).getD i false=false:=fun i=>by
  rw [Xf,Array.getElem?_replicate];split<;>rfl
 refine key _ _ _ _ ⟨hf.nd,hf.sz,hJ0,by simp,fun k o _ hk=> ?_,fun k _=>hr0 k,fun i d _ hi=> ?_,fun s _=>hf.at_ s⟩ ?_
 ·rw [hr0] at hk;cases hk
 ·rw [hr0] at hi;cases hi
 ·simp [List.countP_replicate]
def Is (c:Value):Value→World→Prop:=fun v _=>v=c
theorem Is.ext {c:Value} (v:Value) (w w':World) (h:Is c v w) (_:Below w.heap.size w w'):Is c v w':=h
structure JJ (w0:World) (H:List HE) (w W:World):Prop where
 hp:Hp w0 H W
 bl:Below w.heap.size w W
theorem JJ.ext {H:List HE}{W':World} (h:JJ w0 H w W) (hb:Below W.heap.size W W'):JJ w0 H w W':=⟨h.hp.ext hb,h.bl.trans (hb.mono h.bl.size)⟩
theorem JJ.start {H:List HE} (h:Hp w0 H w):JJ w0 H w w:=⟨h,Below.refl _ _⟩
def SE (n k:Nat) (cs:List Value):Value→World→Prop:=fun v W=>∃b,v=.slice (some ⟨b,0,none⟩) n n∧Sl W (some ⟨b,0,none⟩) n k cs
def cO (w:World) (t:TypeId) (cs:List Value):Value→World→Prop:=fun v W=>∃b,v=.pointer (some ⟨b,0,none⟩)∧w.heap.size≤b∧W.heap[b]?=some (.cells cs.toArray t (0,0))
theorem cO.ext {t:TypeId} (v:Value) (w1 w2:World) (h:cO w t cs v w1) (hb:Below w1.heap.size w1 w2):cO w t cs v w2:=by
 obtain ⟨b,h1,h2,h3⟩:=h;have hlt:b<w1.heap.size:=by
  rcases WX b w1.heap.size with hlt|hge
  ·exact hlt
  ·rw [YQ hge] at h3;cases h3
 exact ⟨b,h1,h2,(hb.block b hlt).trans h3⟩
theorem jD {d:Option Nat}{ty:TypeId}{af:Array Edge}{t e:TypeId}{len sz:Nat} (ht:P.underlying t=some (.slice e)) (hte:di P e=some (sz,ag,by',zc))
  (hp:wq ρ parts.toList=ps) (hzl:zc.length=sz) (hf:k7 (fun i=>some (i*sz,sz)) (fa len zc) ps=some cs) (h0:¬len*sz=0) (hsl:len*sz≤16777216) (hl:cs.length=len*sz)
  (hk:∀v w2,SE len sz cs v w2→Below w.heap.size w w2→K v w2):OG P ops ⟨d,.buildSlice t len parts,ty,pos,af,none⟩ ρ w K:=by
 obtain ⟨z,hz,hzc⟩:=dA (w:=w) hte;have hbl:Below w.heap.size w (w.alloc (.cells cs.toArray e)):=(Below.refl _ _).alloc (V8 _) _;refine eI rfl (w':=w.alloc (.cells cs.toArray e)) (v:=.slice (some ⟨w.heap.size,0,none⟩) len len) ?_ (hk _ _ ⟨w.heap.size,rfl,hl,fun _=>⟨_,rfl,fun j u hu=> ?_⟩⟩ hbl)
 ·exact QC
 ·rw [fP,Wr,cell_of_row _ w.heap.size j cs.toArray e (0,0) (heap_alloc_new w _)];simpa using hu
theorem g8 {d:Option Nat}{ty:TypeId}{af:Array Edge}{t:TypeId}{wr:World} (ht:di P t=some (n,ag,by',zc)) (hb:Below wr.heap.size wr w)
  (hk:∀v w2,cO wr t zc v w2→Below w.heap.size w w2→K v w2):OG P ops ⟨d,.alloc t,ty,pos,af,none⟩ ρ w K:=by
 obtain ⟨z,hz,hzc⟩:=dA (w:=w) ht;exact eI rfl (w':=w.alloc (.cells zc.toArray t)) (v:=.pointer (some ⟨w.heap.size,0,none⟩)) (by simp [execOp,Instr.alloc,newVar,newRow,hz,hzc]) (hk _ _ ⟨w.heap.size,rfl,hb.size,heap_alloc_new w _⟩ ((Below.refl _ _).alloc (V8 _) _))
theorem JJ.newVar {H:List HE}{t:TypeId} (h:JJ w0 H w W) (hs:Hp w0 H w) (h2:w.heap.size≤b) (h3:W.heap[b]?=some (.cells cs.toArray t (0,0))):Hp w0 (.blk b t cs (0,0)::H) W:=by
 refine ⟨h.hp.below, ?_, ?_⟩
 ·intro y hy
  rcases Wk.1 hy with rfl|hy
  ·exact ⟨Wz hs.size h2,h3,.inr (V8 _)⟩
  ·exact h.hp.own y hy
 ·rw [XS];show (b::H.filterMap HE.id).Nodup;refine X2.2 ⟨fun hm=> ?_,h.hp.nd⟩;obtain ⟨y,hy,hyb⟩:=Xe.1 hm;have:=(dY (hs.own y hy) hyb).2;omega
end
section
abbrev VP:=Value→World→Prop
def ew (pv:Nat→VP) (i:Nat) (V:VP):Nat→VP:=fun j=>cond (Nat.beq j i) V (pv j)
def Uv:Nat→VP:=fun _ _ _=>True
def DX (P:Program) (ops:Array Oper) (J:World→Prop) (ρ:Rf) (T:(Nat→VP)→Prop):Nat→(Nat→VP)→List Oper→List (List (Nat×Option Nat))→Prop
 |i,pv,o::os,s::ss=>∃V:VP,(∀v w w',V v w→Below w.heap.size w w'→V v w')∧(∀ρ1 w1,J w1→de pv ρ ρ1 w1 s→OG P ops o ρ1 w1 fun v w2=>Below w1.heap.size w1 w2∧V v w2)∧DX P ops J ρ T (i+1) (ew pv i V) os ss
 |_,pv,[],[]=>T pv
 |_,_,_,_=>False
theorem MF (pv:Nat→VP) (i:Nat) (V:VP):ew pv i V i=V:=by simp [ew]
theorem yQ (pv:Nat→VP) {i:Nat} (V:VP) (h:j≠i):ew pv i V j=pv j:=by
 have:Nat.beq j i=false:=by rw [Yv];intro h2;exact h (Nat.eq_of_beq_eq_true h2)
 simp only [ew,this,cond_false]
theorem ru {V V':Nat→VP}{ρ ρ1:Rf}{w1:World} (h:∀j v w,V j v w→V' j v w):∀s,de V ρ ρ1 w1 s→de V' ρ ρ1 w1 s
 |[],_=>trivial
 |(_,some _)::r,hh=>⟨h _ _ _ hh.1,ru h r hh.2⟩
 |(_,none)::r,hh=>⟨hh.1,ru h r hh.2⟩
theorem Fo {P:Program}{ops:Array Oper}{J:World→Prop}{ρ:Rf}{T:(Nat→VP)→Prop}:∀(os:List Oper) (ss:List (List (Nat×Option Nat))) (i:Nat) (pv:Nat→VP),(∀j,i≤j→∀v w,pv j v w)→DX P ops J ρ T i pv os ss→
  ∃V,(∀j,j<i→V j=pv j)∧DO P ops J V ρ i os ss∧T V
 |[],[],_,pv,_,h=>⟨pv,fun _ _=>rfl,trivial,h⟩
 |[],_::_,_,_,_,h=>h.elim
 |_::_,[],_,_,_,h=>h.elim
 |o::os,s::ss,i,pv,hpv,⟨V,h1,h2,h3⟩=>by
  obtain ⟨V',h4,h5,h6⟩:=Fo os ss (i+1) (ew pv i V) (fun j hj v w=>by rw [yQ _ _ VX];exact hpv j VX v w) h3;have e:V' i=V:=by rw [h4 i VX,MF]
  refine ⟨V',fun j hj=>by rw [h4 j VX,yQ _ _ VX],⟨⟨?_, ?_⟩,h5⟩,h6⟩
  ·rw [e];exact h1
  ·intro ρ1 w1 hj hr;rw [e];refine h2 ρ1 w1 hj (ru (fun j v w hh=> ?_) s hr)
   rcases WX j i with hlt|hge
   ·rw [h4 j VX,yQ _ _ VX] at hh;exact hh
   ·exact hpv j hge v w
theorem aT {Q:Kq}{id:Nat}{l:List Oper} (m:Nat) (src:List (List (Nat×Option Nat))) (ds:List (Nat×Nat)) {H:List HE} (hh:Hp w0 H w) (hm:P.follows .mixedOrders=true) (hok:CP l m N src ds=true)
  (h:DX P l.toArray (JJ w0 H w) ρ (fun V=>∀f w',JJ w0 H w w'→zO V f w' ds→WL ⟨none,D,false⟩ P N l.toArray Q (l.drop m) (lE ρ f ds) w') 0 Uv (l.take m) src):WC ⟨none,D,false⟩ P N (.region id l.toArray true) Q ρ w:=by
 obtain ⟨V,_,h1,h2⟩:=Fo _ _ _ _ (fun _ _ _ _=>trivial) h;exact NG m src ds (JJ w0 H w) V hm hok (fun _ _ h hb=>h.ext hb) (JJ.start hh) h1 h2
variable {P:Program}{ops:Array Oper}{J:World→Prop}{ρ:Rf}{T:(Nat→VP)→Prop}{i:Nat}{pv:Nat→VP}{os:List Oper}{s:List (Nat×Option Nat)}{ss:List (List (Nat×Option Nat))}{d:Option Nat}{op:Op}{ty:TypeId}{pos:String}{af:Array Edge}
theorem aJ (h:T pv):DX P ops J ρ T i pv [] []:=h
theorem aN {o:Oper} (V:VP) (h1:∀v w w',V v w→Below w.heap.size w w'→V v w') (h2:∀ρ1 w1,J w1→de (pv) ρ ρ1 w1 s→OG P ops o ρ1 w1 fun v w2=>Below w1.heap.size w1 w2∧V v w2)
  (k:DX P ops J ρ T (i+1) (ew pv i (V)) os ss):DX P ops J ρ T i pv (o::os) (s::ss):=⟨V,h1,h2,k⟩
theorem bm {v:Value} (hr:∀ρ1 w1,J w1→de (pv) ρ ρ1 w1 s→(execOp (ev ρ1) ⟨d,op,ty,pos,af,none⟩).run P w1=.ok (.value v) w1)
  (k:DX P ops J ρ T (i+1) (ew pv i (Is v)) os ss):DX P ops J ρ T i pv (⟨d,op,ty,pos,af,none⟩::os) (s::ss):=
 aN (Is v) Is.ext (fun ρ1 w1 hj h=>eI rfl (hr ρ1 w1 hj h) ⟨Below.refl _ _,rfl⟩) k
theorem NN {v:Value}{f:FuncId}{args:Array Value} (hr:∀ρ1 w1,J w1→de (pv) ρ ρ1 w1 s→(execOp (ev ρ1) ⟨d,op,ty,pos,af,none⟩).run P w1=.ok (.enter f args) w1)
  (hc:∀w1,J w1→Calls P f args w1 fun e w'=>e=.returned v∧Below w1.heap.size w1 w')
  (k:DX P ops J ρ T (i+1) (ew pv i (Is v)) os ss):DX P ops J ρ T i pv (⟨d,op,ty,pos,af,none⟩::os) (s::ss):=
 aN (Is v) Is.ext (fun ρ1 w1 hj h=>bh rfl (hr ρ1 w1 hj h) (hc w1 hj) fun _ _ hq=>⟨v,hq.1,hq.2,rfl⟩) k
def Rows (n k:Nat) (cs:List Value):VP:=fun v W=>∃A c,v=.slice A n c∧Sl W A n k cs
theorem Rows.ext (v:Value) (w w':World) (h:Rows n k cs v w) (hb:Below w.heap.size w w'):Rows n k cs v w':=let ⟨A,c,h1,h2⟩:=h;⟨A,c,h1,h2.ext hb⟩
theorem vK {t e:TypeId}{len sz:Nat} (ht:P.underlying t=some (.slice e)) (hte:di P e=some (sz,ag,by',zc))
  (hp:∀ρ1 w1,J w1→de (pv) ρ ρ1 w1 s→wq ρ1 parts.toList=ps) (hzl:zc.length=sz) (hf:k7 (fun i=>some (i*sz,sz)) (fa len zc) ps=some cs) (h0:¬len*sz=0) (hsl:len*sz≤16777216) (hl:cs.length=len*sz)
  (k:DX P ops J ρ T (i+1) (ew pv i (Rows len sz cs)) os ss):DX P ops J ρ T i pv (⟨d,.buildSlice t len parts,ty,pos,af,none⟩::os) (s::ss):=
 aN (Rows len sz cs) Rows.ext (fun ρ1 w1 hj h=>jD ht hte (hp ρ1 w1 hj h) hzl hf h0 hsl hl fun _ _ ⟨_,hv,hs⟩ hb=>⟨hb,_,_,hv,hs⟩) k
theorem yi {b:Bool}{v:Value} (hj:(ops[j]?).bind (·.dst)=some dj) (hv:∀ρ1 w1,J w1→de (pv) ρ ρ1 w1 s→ρ1 dj=.bool b)
  (hr:∀ρ1 w1,J w1→de (pv) ρ ρ1 w1 s→(execOp (ev ρ1) ⟨d,op,ty,pos,af,none⟩).run P w1=.ok (.value v) w1)
  (k:DX P ops J ρ T (i+1) (ew pv i (Is v)) os ss):DX P ops J ρ T i pv (⟨d,op,ty,pos,af,some (j,b)⟩::os) (s::ss):=
 aN (Is v) Is.ext (fun ρ1 w1 hj' h=>bz hj (hv ρ1 w1 hj' h) (eI rfl (hr ρ1 w1 hj' h) ⟨Below.refl _ _,rfl⟩)) k
theorem iZ {b:Bool}{v:Value}{f:FuncId}{args:Array Value} (hj:(ops[j]?).bind (·.dst)=some dj) (hv:∀ρ1 w1,J w1→de (pv) ρ ρ1 w1 s→ρ1 dj=.bool b)
  (hr:∀ρ1 w1,J w1→de (pv) ρ ρ1 w1 s→(execOp (ev ρ1) ⟨d,op,ty,pos,af,none⟩).run P w1=.ok (.enter f args) w1)
  (hc:∀w1,J w1→Calls P f args w1 fun e w'=>e=.returned v∧Below w1.heap.size w1 w')
  (k:DX P ops J ρ T (i+1) (ew pv i (Is v)) os ss):DX P ops J ρ T i pv (⟨d,op,ty,pos,af,some (j,b)⟩::os) (s::ss):=
 aN (Is v) Is.ext (fun ρ1 w1 hj' h=>bz hj (hv ρ1 w1 hj' h) (bh rfl (hr ρ1 w1 hj' h) (hc w1 hj') fun _ _ hq=>⟨v,hq.1,hq.2,rfl⟩)) k
theorem nP {b c:Bool} (hj:(ops[j]?).bind (·.dst)=some dj) (hv:∀ρ1 w1,J w1→de (pv) ρ ρ1 w1 s→ρ1 dj=.bool c) (hb:c≠b)
  (k:DX P ops J ρ T (i+1) (ew pv i (Is undef)) os ss):DX P ops J ρ T i pv (⟨d,op,ty,pos,af,some (j,b)⟩::os) (s::ss):=
 aN (Is undef) Is.ext (fun ρ1 w1 hj' h=>vT hj (hv ρ1 w1 hj' h) hb ⟨Below.refl _ _,rfl⟩) k
end
end
def az {α:Type} (f:α→List Value) (l:List α):List Value:=l.flatMap f
section
variable {α:Type}{f:α→List Value}{sz:Nat}
theorem fw (hf:∀x,(f x).length=sz) (l:List α):(az f l).length=l.length*sz:=by
 induction l with
 |nil=>simp [az]
 |cons x l ih=>
  have:az f (x::l)=f x++az f l:=by simp [az]
  rw [this,Wc,hf,ih,Wx,Xj];omega
theorem gE (x:α) (l:List α):az f (x::l)=f x++az f l:=by simp [az]
theorem bG (l m:List α):az f (l++m)=az f l++az f m:=by simp [az]
theorem fR (x:α):az f [x]=f x:=by simp [az]
theorem gH (hf:∀x,(f x).length=sz) (l:List α) (k:Nat):(az f l).drop (k*sz)=az f (l.drop k):=by
 induction l generalizing k with
 |nil=>simp [az]
 |cons x l ih=>
  cases k with
  |zero=>simp
  |succ k=>rw [gE,Xj,XY,←hf x,List.drop_append,List.drop_succ_cons,←ih k,hf x];simp [hf x]
theorem jz (hf:∀x,(f x).length=sz) (l:List α) (k:Nat):(az f l).take (k*sz)=az f (l.take k):=by
 induction l generalizing k with
 |nil=>simp [az]
 |cons x l ih=>
  cases k with
  |zero=>simp [az]
  |succ k=>rw [gE,Xj,XY,List.take_succ_cons,gE,←ih k,←hf x,List.take_append];simp;exact Wa (Nat.le_add_right _ _)
theorem vj (hf:∀x,(f x).length=sz) {l:List α}{x:α} (h:l[k]?=some x):((az f l).drop (k*sz)).take sz=f x:=by
 obtain ⟨h1,h2⟩:=Wi.1 h;rw [gH hf,Xl h1,h2,gE,Zp (by rw [hf];omega),Wa (by rw [hf];omega)]
theorem Rd.recAt {l:List α} (h:Rd w ad (az f l)) (hf:∀x,(f x).length=sz) {x:α} (hx:l[k]?=some x):Rd w (ad.add (k*sz)) (f x):=by
 have:=h.elem k sz;rwa [vj hf hx] at this
theorem Sl.bg {A:Option Addr}{l:List α} (h:Sl w A n sz (az f l)) (hf:∀x,(f x).length=sz) (h0:0<sz):l.length=n:=by
 have:=h.1;rw [fw hf] at this;exact Nat.eq_of_mul_eq_mul_right h0 this
theorem jE (hf:∀x,(f x).length=sz) {l:List α}{y:α} (h:k<l.length):cz (az f l) (k*sz) (f y)=az f (l.set k y):=by
 unfold cz;rw [jz hf,hf,←Xj,gH hf,Zg,V2 h,bG,gE,WQ]
theorem bu (h:∀x,(f x).all Value.oneCell'=true) (l:List α):((az f l).all Value.oneCell')=true:=by
 rw [Ww];intro v hv;obtain ⟨x,_,hx⟩:=X7.1 hv;exact Ww.1 (h x) v hx
end
theorem gK {l:List α}{x:α} (h:l[k]?=some x):l.drop k=x::l.drop (k+1):=by
 obtain ⟨h1,rfl⟩:=Wi.1 h;exact Xl h1
theorem ju {p:α→Bool}{l:List α} (h:l.any p=false):l.find? p=none:=by
 rw [List.find?_eq_none];intro x hx;have:=XD.1 h x hx;simpa using this
theorem xa {p:α→Bool}{l:List α}{i:Nat}{x:α} (h:(l.take i).any p=false) (hx:l[i]?=some x) (hp:p x=true):l.find? p=some x:=by
 have:l=l.take i++x::l.drop (i+1):=by rw [←gK hx,W4]
 rw [this,List.find?_append,ju h,List.find?_cons_of_pos hp]
 rfl
section
variable {D:List Deferred}
section
variable {P:Program}{N:Nat}{Q:Kq}{ρ:Rf}{w:World}
def oQ (acc:List Nat):List Edge→Nat
 |[]=>0
 |e::r=>bif Region.binds .any e then 1<<<e.on|||acc.getD e.on 0|||oQ acc r else oQ acc r
def vd:List Oper→List Nat→List Nat
 |[],acc=>acc
 |o::r,acc=>vd r (acc++[oQ acc o.after.toList])
theorem pb {acc:List Nat}{i:Nat}:∀{es:List Edge},(oQ acc es).testBit i=true→∃e∈es,Region.binds .any e=true∧(e.on=i∨(acc.getD e.on 0).testBit i=true)
 |[],h=>by simp [oQ] at h
 |e::r,h=>by
  unfold oQ at h
  cases hb:Region.binds .any e with
  |false=>
   rw [hb,cond_false] at h;obtain ⟨e',h1,h2⟩:=pb h;exact ⟨e',Wg _ h1,h2⟩
  |true=>
   rw [hb,cond_true,Nat.testBit_or,Nat.testBit_or,Yd,Yd] at h
   rcases h with (h|h)|h
   ·refine ⟨e,We,hb,.inl ?_⟩;rw [Nat.one_shiftLeft,Nat.testBit_two_pow] at h;simpa using h
   ·exact ⟨e,We,hb,.inr h⟩
   ·obtain ⟨e',h1,h2⟩:=pb h;exact ⟨e',Wg _ h1,h2⟩
theorem BZ:∀(l:List Oper) (acc:List Nat),∃t,vd l acc=acc++t
 |[],acc=>⟨[],by simp [vd]⟩
 |o::r,acc=>by
  obtain ⟨t,h⟩:=BZ r (acc++[oQ acc o.after.toList]);exact ⟨_,by rw [vd,h,WQ]⟩
theorem EL:∀(l:List Oper) (acc:List Nat) (k i:Nat),acc.length≤k→((vd l acc).getD k 0).testBit i=true→∃o,l[k-acc.length]?=some o∧∃e∈o.after,Region.binds .any e=true∧(e.on=i∨e.on<k∧((vd l acc).getD e.on 0).testBit i=true)
 |[],acc,k,i,hk,h=>by
  rw [vd,Xw,WK hk] at h;simp at h
 |o::r,acc,k,i,hk,h=>by
  rcases WX acc.length k with hlt|hge
  ·have hl:(acc++[oQ acc o.after.toList]).length=acc.length+1:=by simp
   obtain ⟨o',h1,h2⟩:=EL r (acc++[oQ acc o.after.toList]) k i VX h;refine ⟨o', ?_,h2⟩;rw [hl] at h1;rw [show k-acc.length=(k-(acc.length+1))+1 by omega,YB];exact h1
  ·obtain rfl:k=acc.length:=VX;obtain ⟨t,ht⟩:=BZ r (acc++[oQ acc o.after.toList]);refine ⟨o,by rw [W9];rfl, ?_⟩;rw [vd,ht] at h ⊢;rw [Xw,WQ,Xm (V8 _),W9] at h;simp only [Wb,YN,Xq,V9] at h;obtain ⟨e,h1,h2,h3⟩:=pb h;refine ⟨e,by simpa using h1,h2, ?_⟩
   rcases h3 with h3|h3
   ·exact .inl h3
   ·have h4:e.on<acc.length:=by
     rcases WX e.on acc.length with h5|h5
     ·exact h5
     ·rw [Xw,WK h5] at h3;simp at h3
    refine .inr ⟨h4, ?_⟩;rw [Xw,WQ,Yp h4,←Xw];exact h3
theorem kD {l:List Oper}{L:Array Bool} (hM:vd l []=M) (hc:rh l.toArray L):∀(k i:Nat),(∀o,l.toArray[k]?=some o→∀e∈o.after,Region.binds .any e=true→L.getD e.on false=true)→(M.getD k 0).testBit i=true→L.getD i false=true:=by
 intro k
 induction k using Nat.strongRecOn with
 |_ k ih=>
  intro i hk h;rw [←hM] at h;obtain ⟨o,ho,e,he,hb,h3⟩:=EL l [] k i (V5 _) h;have ho':l.toArray[k]?=some o:=by rw [Yj];exact ho
  have h1:=hk o ho' e he hb
  rcases h3 with h3|⟨h3,h4⟩
  ·rw [←h3];exact h1
  ·rw [hM] at h4;exact ih e.on h3 i (fun o' ho2=>hc e.on o' ho2 h1) h4
def TY (n m:Nat) (fl:List Nat):Array Bool:=((List.range n).map fun i=>decide (i<m∧i∉fl)).toArray
theorem KZ {i:Nat}{fl:List Nat} (hi:i<n):(TY n m fl).getD i true=decide (i<m∧i∉fl):=by
 unfold TY;rw [Xf,Yj,Wf,Xc hi]
 rfl
def NP (Q:Kq):Prop:=∀c ρ w,¬Q (.panic c) ρ w
theorem cj {fn:Func}:NP (nt P fn R):=fun _ _ _ h=>h.1.elim nofun nofun
theorem bP (h:NP Q):NP (cI next Q):=fun c ρ w hq=>h c ρ w hq
theorem cg {id:Nat} (h:NP Q):NP (rb id Q):=fun c ρ w hq=>h c ρ w hq
def tM:Op→Bool
 |.extract _ _=>true
 |.move _=>true
 |_=>false
def R6 (l:List Oper) (m:Nat) (fl:List Nat) (i:Nat):Bool:=
 Region.free .any l.toArray (TY l.length m fl) i && match l[i]? with
  |some ⟨some _,op,_,_,af,none⟩=>tM op && af.all fun e=> !Region.binds .any e||(decide (e.on<m) && !fl.contains e.on)
  |_=>false
theorem HG {l:List Oper}{fl:List Nat}{i:Nat} (h:R6 l m fl i=true):Region.free .any l.toArray (TY l.length m fl) i=true∧(∀o,l[i]?=some o→∀e∈o.after,Region.binds .any e=true→e.on<m∧e.on∉fl)∧
  ∃d op ty pos af,l[i]?=some ⟨some d,op,ty,pos,af,none⟩∧tM op=true:=by
 unfold R6 at h;rw [Wl] at h;obtain ⟨h1,h2⟩:=h;split at h2
 ·rename_i d op ty pos af ho;rw [Wl] at h2;obtain ⟨hpu,h2⟩:=h2;refine ⟨h1,fun o ho' e he hb=> ?_,d,op,ty,pos,af,ho,hpu⟩;rw [ho] at ho';injection ho' with ho'
  subst ho';have:=Zf.1 h2 e he;simp only [hb,Bool.not_true,W7,Wl,Wt,Y5,List.contains_eq_mem,Zh] at this;exact this
 ·cases h2
def zg (l:List Oper) (m N:Nat) (src:List (List (Nat×Option Nat))) (ds:List (Nat×Nat)) (fl M:List Nat):Bool:=
 let ops:=l.toArray
 let pre:=(List.range m).map fun i=>((ops[i]?).bind (·.dst))
 (m≤l.length) && (src.length==m) &&
 (ds==(pre.zipIdx.filterMap fun (d,i)=>d.map fun d=>(i,d)).reverse) && (decide (ds.map (·.2)).Nodup) && (ds.all fun p=>p.2<N) &&
 ((List.range m).all fun i=>match ops[i]?,src[i]? with
  |some o,some s=>((o.looksAt ops).all fun t=>s.any fun p=>p.1==t) &&
    s.all fun p=>match p.2 with
     |some j=>(j<m) && ((ops[j]?).bind (·.dst)==some p.1) && (M.getD i 0).testBit j
     |none=>(List.range m).all fun j=> !((ops[j]?).bind (·.dst)==some p.1)||(j !=i && (M.getD j 0).testBit i)
  |_,_=>false) &&
 (l.length==m||((List.range m).all fun i=>fl.contains i||(M.getD m 0).testBit i)) &&
 ((List.range (l.length-m)).all fun k=>Region.ready .any ops (jN l.length (m+k))==[m+k]) && (Region.ready .any ops (jN l.length l.length)==[]) &&
 ((List.range (l.length-m)).all fun k=>k==0||(M.getD (m+k) 0).testBit m) &&
 ((List.range l.length).all fun i=>match ops[i]? with|some o=>o.after.all fun e=> !Region.binds .any e||e.on<i|none=>false) &&
 Region.noSelect ops && (fl.all fun i=>R6 l m fl i) && (vd l []==M)
def x7 (P:Program) (l:List Oper):List Nat→Prop
 |[]=>True
 |i::r=>(∃d t ty pos af n ag by' zc,l[i]?=some ⟨some d,.alloc t,ty,pos,af,none⟩∧di P t=some (n,ag,by',zc))∧x7 P l r
theorem x7.at {l:List Oper}:∀{fr:List Nat},x7 P l fr→∀i∈fr,∃d t ty pos af n ag by' zc,l[i]?=some ⟨some d,.alloc t,ty,pos,af,none⟩∧di P t=some (n,ag,by',zc)
 |[],_,_,hi=>by simp at hi
 |j::r,h,i,hi=>by
  rcases Wk.1 hi with rfl|hi
  ·exact h.1
  ·exact x7.at h.2 i hi
theorem da {l:List Oper}:x7 P l []:=trivial
theorem kn {l:List Oper}{i d t ty:Nat}{af:Array Edge}{r:List Nat} (h:l[i]?=some ⟨some d,.alloc t,ty,pos,af,none⟩) (ht:di P t=some (n,ag,by',zc)) (hr:x7 P l r):x7 P l (i::r):=⟨⟨d,t,ty,pos,af,n,ag,by',zc,h,ht⟩,hr⟩
theorem ID {d:Nat}{t ty:Nat}{af:Array Edge} (ht:di P t=some (n,ag,by',zc)) (h:OG P ops ⟨some d,.alloc t,ty,pos,af,none⟩ ρ w K)
  (a:Act) (hd:d<a.tmps.size) (next:Act→World→Prop) (Q:Exit→Act→World→Prop) (ha:∀i,a.tmps.getD i undef=ρ i) (hn:∀v w',K v w'→(∃b,v=.pointer (some ⟨b,0,none⟩)∧w.heap.size≤b∧b<w'.heap.size)→next (a.put (some d) v) w'):
  if Region.wanted ⟨some d,.alloc t,ty,pos,af,none⟩ (yielded ops a.tmps) then (Oper.wp P ⟨some d,.alloc t,ty,pos,af,none⟩ a w next Q)∨((Oper.asks P ⟨some d,.alloc t,ty,pos,af,none⟩ a w)∧LetsOut Q) else next (a.put (some d) undef) w:=by
 have h1:=h.out a (fun a' w'=>∃v,a'=a.put (some d) v∧K v w') Q ha fun v w' hk=>⟨v,rfl,hk⟩;have hw:Region.wanted ⟨some d,.alloc t,ty,pos,af,none⟩ (yielded ops a.tmps)=true:=by simp [Region.wanted]
 rw [V2 hw] at h1 ⊢;refine h1.imp (fun h2=> ?_) id;obtain ⟨z,hz,hzc⟩:=dA (w:=w) ht;have hr:(execOp a.eval ⟨some d,.alloc t,ty,pos,af,none⟩).run P w=.ok (.value (.pointer (some ⟨w.heap.size,0,none⟩))) (w.alloc (.cells zc.toArray t)):=by simp [execOp,Instr.alloc,newVar,newRow,hz,hzc]
 unfold Oper.wp at h2 ⊢;rw [hr] at h2 ⊢;obtain ⟨v,hv,hk⟩:∃v,a.put (some d) (.pointer (some ⟨w.heap.size,0,none⟩))=a.put (some d) v∧K v (w.alloc (.cells zc.toArray t)):=h2;have h3:=W8 (fun a':Act=>a'.tmps.getD d undef) hv;simp only [eA hd,V2] at h3;subst h3;exact hn _ _ hk ⟨_,rfl,V8 _,(YT.1 (heap_alloc_new w _)).1⟩
theorem BR {x:Operand}{ty d:Nat}{af:Array Edge} (f:Operand→Value) (w:World):(∃v,∀w',(execOp f ⟨some d,.extract x k,ty,pos,af,none⟩).run P w'=.ok (.value v) w')∨∀a K,Oper.upon P ⟨some d,.extract x k,ty,pos,af,none⟩ a K (fun _ _ _=>False) ((execOp f ⟨some d,.extract x k,ty,pos,af,none⟩).run P w)→False:=by
 cases hx:f x with
 |tuple xs=>
  cases hk:xs[k]? with
  |some v=>exact .inl ⟨v,fun w'=>by simp [execOp,hx,Instr.extract,hk]⟩
  |none=>exact .inr fun a K h=>by simp [execOp,hx,Instr.extract,hk,Oper.upon] at h
 |_=>exact .inr fun a K h=>by simp [execOp,hx,Instr.extract,Oper.upon] at h
theorem pure_run {op:Op} (hp:tM op=true) {ty d:Nat}{af:Array Edge} (f:Operand→Value) (w:World):(∃v,∀w',(execOp f ⟨some d,op,ty,pos,af,none⟩).run P w'=.ok (.value v) w')∨∀a K,Oper.upon P ⟨some d,op,ty,pos,af,none⟩ a K (fun _ _ _=>False) ((execOp f ⟨some d,op,ty,pos,af,none⟩).run P w)→False:=by
 unfold tM at hp;split at hp
 ·exact BR f w
 ·exact .inl ⟨_,fun w'=>by simp [execOp];rfl⟩
 ·cases hp
theorem zQ {d:Nat}{op:Op} (hp:tM op=true) {ty:Nat}{af:Array Edge} (h:OG P ops ⟨some d,op,ty,pos,af,none⟩ ρ w K) (a:Act) (hd:d<a.tmps.size) (ha:∀i,a.tmps.getD i undef=ρ i):
  ∃v,(∀w',(execOp a.eval ⟨some d,op,ty,pos,af,none⟩).run P w'=.ok (.value v) w')∧K v w:=by
 have h1:=h.out a (fun a' w'=>∃v,a'=a.put (some d) v∧K v w') (fun _ _ _=>False) ha fun v w' hk=>⟨v,rfl,hk⟩;rw [V2 (by simp [Region.wanted])] at h1
 rcases h1 with h1|⟨_,_,_,h1⟩
 ·unfold Oper.wp at h1
  rcases pure_run (P:=P) hp (d:=d) (ty:=ty) (pos:=pos) (af:=af) a.eval w with ⟨v,hv⟩|hn
  ·rw [hv w] at h1;obtain ⟨v',h2,hk⟩:∃v',a.put (some d) v=a.put (some d) v'∧K v' w:=h1;have h3:=W8 (fun a':Act=>a'.tmps.getD d undef) h2;simp only [eA hd,V2] at h3;subst h3;exact ⟨v,hv,hk⟩
  ·exact (hn _ _ h1).elim
 ·exact h1.elim
structure T2 (D:List Deferred) (fr:List Nat) (N:Nat) (ops:Array Oper) (m:Nat) (ρ:Rf) (J:World→Prop) (V:Nat→Value→World→Prop) (L:Array Bool) (a:Act) (w:World):Prop where
 nd:a.defers=D
 sz:a.tmps.size=N
 j:J w
 ls:L.size=ops.size
 cl:rh ops L
 tl:∀k,m≤k→L.getD k false=false
 vs:∀i d,i<m→L.getD i false=true→(ops[i]?).bind (·.dst)=some d→V i (a.tmps.getD d undef) w
 LB:∀s,(∀i,i<m→L.getD i false=true→(ops[i]?).bind (·.dst)≠some s)→a.tmps.getD s undef=ρ s
 fb:∀i∈fr,L.getD i false=true→∀d,(ops[i]?).bind (·.dst)=some d→∃b,a.tmps.getD d undef=.pointer (some ⟨b,0,none⟩)∧b<w.heap.size
 fd:∀i∈fr,∀j∈fr,i≠j→L.getD i false=true→L.getD j false=true→∀d e,(ops[i]?).bind (·.dst)=some d→(ops[j]?).bind (·.dst)=some e→a.tmps.getD d undef≠a.tmps.getD e undef
theorem Jk {id:Nat}{l:List Oper} (fr fl M:List Nat) (m:Nat) (src:List (List (Nat×Option Nat))) (ds:List (Nat×Nat)) (J:World→Prop) (V:Nat→Value→World→Prop) (hm:P.follows .mixedOrders=true) (hok:zg l m N src ds fl M=true) (hfr:x7 P l fr) (hfm:fr.all (fun i=>i<m)=true) (hQp:NP Q)
  (hJ:∀w w',J w→Below w.heap.size w w'→J w') (h0:J w) (hops:DO P l.toArray J V ρ 0 (l.take m) src)
  (tail:∀f w',J w'→zO V f w' ds→(∀i∈fr,∀j∈fr,i≠j→f i≠f j)→WL ⟨none,D,false⟩ P N l.toArray Q (l.drop m) (lE ρ f ds) w'):WC ⟨none,D,false⟩ P N (.region id l.toArray true) Q ρ w:=by
 refine WC.qS fun a hf=>wp_region_any hm ?_;simp only [zg,Wl,Wt,XK,Ww,Xx] at hok;obtain ⟨⟨⟨⟨⟨⟨⟨⟨⟨⟨⟨⟨⟨hml,_⟩,hds⟩,hnd⟩,hdN⟩,hrd⟩,htail⟩,hready⟩,hend⟩,hdep⟩,hedge⟩,hns⟩,hflo⟩,hM⟩:=hok;have hfl:=fun i hi=>HG (hflo i hi);have hdo:=(GA _ _ _ hops).2;have hpre:∀i d,i<m→((l.toArray[i]?).bind (·.dst))=some d→(i,d)∈ds:=fun i d hi hd=>by
  exact RQ
 have hdsm:∀i d,(i,d)∈ds→i<m∧((l.toArray[i]?).bind (·.dst))=some d:=fun i d hp=>by
  exact Qr
 have hone:∀i j d,i<m→j<m→((l.toArray[i]?).bind (·.dst))=some d→((l.toArray[j]?).bind (·.dst))=some d→i=j:=fun i j d hi hj h1 h2=>by
  exact QE
 have hnn:l.toArray.size=l.length:=by simp
 have hfm':∀i∈fr,i<m:=fun i hi=>by simpa using Ww.1 hfm i hi
 have full:∀(L:Array Bool) (a:Act) (w:World) (fuel:Nat),T2 D fr N l.toArray m ρ J V L a w→(∀i,i<m→L.getD i false=true)→l.length≤fuel+m→wpAny P .any l.toArray (dK N D Q) fuel L a w:=by
  intro L a w fuel hI hall hfu;have hL:L=jN l.length m:=xV (by rw [hI.ls,hnn]) hml hall hI.tl;rw [hL];refine p6 m (fun k h1 h2=> ?_) hend fuel m a w (V8 _) hml hfu ?_
  ·have:=hready (k-m) VX;rwa [show m+(k-m)=k by omega] at this
  ·have hfits:eW N D a (lE ρ (fun i=>match (l.toArray[i]?).bind (·.dst) with|some d=>a.tmps.getD d undef|none=>undef) ds):=by
    exact TE
   refine (tail _ w hI.j (sS ds fun p hp=> ?_) fun i hi j hj hij=> ?_).out a hfits
   rotate_left
   ·obtain ⟨d,t,ty,pos,af,n,ag,by',zc,hi1,_⟩:=hfr.at i hi;obtain ⟨e,t',ty',pos',af',n',ag',by'',zc',hj1,_⟩:=hfr.at j hj;have hi2:(l.toArray[i]?).bind (·.dst)=some d:=by rw [Yj,hi1];rfl
    have hj2:(l.toArray[j]?).bind (·.dst)=some e:=by rw [Yj,hj1];rfl
    rw [hi2,hj2];exact hI.fd i hi j hj hij (hall i (hfm' i hi)) (hall j (hfm' j hj)) d e hi2 hj2
   obtain ⟨h1,h2⟩:=hdsm p.1 p.2 hp;have:=hI.vs p.1 p.2 h1 (hall _ h1) h2;rw [h2];exact this
 have key:∀(fuel:Nat) (L:Array Bool) (a:Act) (w:World),T2 D fr N l.toArray m ρ J V L a w→fuel+L.toList.countP (fun b=>b)=l.length→wpAny P .any l.toArray (dK N D Q) fuel L a w:=by
  intro fuel
  induction fuel with
  |zero=>
   exact SZ
  |succ fuel ih=>
   intro L a w hI hc;by_cases hall:∀i,i<m→L.getD i false=true
   ·exact NX
   ·have hsome:∃i,i<m∧L.getD i false=false:=by
     exact Px
    have hready_spec:∀i,i∈Region.ready .any l.toArray L↔i<l.length∧L.getD i true=false∧∃o,l.toArray[i]?=some o∧∀e∈o.after,Region.binds .any e=true→L.getD e.on false=true:=fun i=>by
     exact RD
    have both:∀(i:Nat) (_:i<m) (o:Oper) (_:l.toArray[i]?=some o) (_:L.getD i false=false) (_:∀e∈o.after,Region.binds .any e=true→L.getD e.on false=true),
      OG P l.toArray o (fun t=>a.tmps.getD t undef) w (fun v w2=>Below w.heap.size w w2∧V i v w2)∧
      ∀v w2,(Below w.heap.size w w2∧V i v w2)→(i∈fr→∃b,v=.pointer (some ⟨b,0,none⟩)∧w.heap.size≤b∧b<w2.heap.size)→wpAny P .any l.toArray (dK N D Q) fuel (L.setIfInBounds i true) (a.put o.dst v) w2:=fun i him o ho hun' hed=>by
     have hiL:i<L.size:=by rw [hI.ls,hnn];omega
     have hed':∀o',l.toArray[i]?=some o'→∀e∈o'.after,Region.binds .any e=true→L.getD e.on false=true:=fun o' ho'=>by
      rw [ho] at ho';injection ho' with ho';subst ho';exact hed
     have hok':(l.take m)[i]?=some o:=by
      rw [XL,V2 him];simpa using ho
     obtain ⟨s,hs,hstab,hog⟩:=hdo i o hok';rw [Wr] at hstab hog;have hrdi:=hrd i him;rw [ho,hs] at hrdi;simp only [Wl,Ww] at hrdi;have hro:de V ρ (fun t=>a.tmps.getD t undef) w s:=qP s fun p hp=>by
      have hp2:=hrdi.2 p hp
      cases hp3:p.2 with
      |some j=>
       rw [hp3] at hp2;simp only [Wl,Wt,XK] at hp2;exact hI.vs j p.1 hp2.1.1 (kD hM hI.cl i j hed' hp2.2) hp2.1.2
      |none=>
       rw [hp3] at hp2;refine hI.LB p.1 fun j hj hjl hjd=> ?_;have h6:=Ww.1 hp2 j (by simpa using hj);rw [hjd] at h6;simp only [beq_self_eq_true,Bool.not_true,W7,Wl] at h6;have:=kD hM hI.cl j i (fun o' ho' e he hb=>hI.cl j o' ho' hjl e he hb) h6.2;rw [hun'] at this
       cases this
     have hnext:∀v w2,(Below w.heap.size w w2∧V i v w2)→(i∈fr→∃b,v=.pointer (some ⟨b,0,none⟩)∧w.heap.size≤b∧b<w2.heap.size)→wpAny P .any l.toArray (dK N D Q) fuel (L.setIfInBounds i true) (a.put o.dst v) w2:=fun v w2 hv hfv=>by
      have hd1:∀d',o.dst=some d'→d'<a.tmps.size:=fun d' hd'=>by
       rw [hI.sz];exact hdN (i,d') (hpre i d' him (by rw [ho];exact hd'))
      have hput:∀j d,j<m→j≠i→(l.toArray[j]?).bind (·.dst)=some d→(a.put o.dst v).tmps.getD d undef=a.tmps.getD d undef:=fun j d hj hji hjd=>by
       cases hod:o.dst with
       |none=>rfl
       |some d'=>rw [eA (hd1 d' hod),V3 fun e=>hji (hone j i d hj him hjd (by rw [ho,e];exact hod))]
      have hputi:∀d,(l.toArray[i]?).bind (·.dst)=some d→(a.put o.dst v).tmps.getD d undef=v:=fun d hd=>by
       rw [ho] at hd;simp only [Yb] at hd;rw [hd,eA (hd1 d hd),V2 rfl]
      have hfd:∀j∈fr,j≠i→L.getD j false=true→i∈fr→∀e,(l.toArray[j]?).bind (·.dst)=some e→a.tmps.getD e undef≠v:=fun j hj hji hjl hif e hje heq=>by
       obtain ⟨b,hb1,hb2⟩:=hI.fb j hj hjl e hje;obtain ⟨b',hv1,hb3,_⟩:=hfv hif;rw [hb1,hv1] at heq;injection heq with heq
       injection heq with heq
       injection heq with heq
       omega
      refine ih _ _ _ ?_ ?_
      ·refine ⟨?_, ?_,hJ _ _ hI.j hv.1,by simpa using hI.ls, ?_, ?_, ?_, ?_, ?_, ?_⟩
       ·cases o.dst<;>exact hI.nd
       ·cases hod:o.dst with
        |none=>exact hI.sz
        |some d=>simpa [Act.put] using hI.sz
       ·intro k ok hk hkl e he hb;rw [dP hiL] at hkl ⊢;by_cases hki:k=i
        ·subst hki;simp [hed' ok hk e he hb]
        ·simp only [hki,decide_false,W7] at hkl;simp [hI.cl k ok hk hkl e he hb]
       ·intro k hk;rw [dP hiL,hI.tl k hk];have:¬k=i:=VX;simp [this]
       ·intro j d hj hjl hjd;rw [dP hiL] at hjl;have hd1:∀d',o.dst=some d'→d'<a.tmps.size:=fun d' hd'=>by
         rw [hI.sz];exact hdN (i,d') (hpre i d' him (by rw [ho];exact hd'))
        by_cases hji:j=i
        ·subst hji;rw [ho] at hjd;simp only [Yb] at hjd;rw [hjd,eA (hd1 d hjd),V2 rfl];exact hv.2
        ·simp only [hji,decide_false,W7] at hjl;have hold:=hI.vs j d hj hjl hjd;have hdj:(j,d)∈ds:=hpre j d hj hjd;have hst:=(hdo j (l.toArray[j]?.getD default) (by
          have:j<l.length:=VX;rw [XL,V2 hj];simp [this])).choose_spec.2.1
         rw [Wr] at hst;have hne:∀d',o.dst=some d'→d≠d':=fun d' hd' e=>by
          subst e;exact hji (hone j i d hj him hjd (by rw [ho];exact hd'))
         cases hod:o.dst with
         |none=>exact hst _ _ _ hold hv.1
         |some d'=>
          rw [eA (hd1 d' hod),V3 (hne d' hod)];exact hst _ _ _ hold hv.1
       ·intro s' hs';have hni:((l.toArray[i]?).bind (·.dst))≠some s':=hs' i him (by rw [dP hiL];simp);have hold:=hI.LB s' fun j hj hjl=>hs' j hj (by rw [dP hiL];simp [hjl]);rw [ho] at hni;simp only [Yb] at hni
        cases hod:o.dst with
        |none=>exact hold
        |some d'=>
         rw [eA (by rw [hI.sz];exact hdN (i,d') (hpre i d' him (by rw [ho];exact hod))),V3 (fun e=>hni (by rw [hod,e]))];exact hold
       ·intro j hj hjl d hjd;rw [dP hiL] at hjl;by_cases hji:j=i
        ·subst hji;obtain ⟨b,hb1,_,hb3⟩:=hfv hj;exact ⟨b,(hputi d hjd).trans hb1,hb3⟩
        ·simp only [hji,decide_false,W7] at hjl;obtain ⟨b,hb1,hb2⟩:=hI.fb j hj hjl d hjd;exact ⟨b,(hput j d (hfm' j hj) hji hjd).trans hb1,Xa hb2 hv.1.size⟩
       ·intro j hj k hk hjk hjl hkl d e hjd hke;rw [dP hiL] at hjl hkl;by_cases hji:j=i
        ·subst hji;have hkj:k≠j:=fun e=>hjk e.symm;simp only [hkj,decide_false,W7] at hkl;rw [hputi d hjd,hput k e (hfm' k hk) hkj hke];exact fun he=>hfd k hk hkj hkl hj e hke he.symm
        ·simp only [hji,decide_false,W7] at hjl;by_cases hki:k=i
         ·subst hki;rw [hputi e hke,hput j d (hfm' j hj) hji hjd];exact hfd j hj hji hjl hk d hjd
         ·simp only [hki,decide_false,W7] at hkl;rw [hput j d (hfm' j hj) hji hjd,hput k e (hfm' k hk) hki hke];exact hI.fd j hj k hk hjk hjl hkl d e hjd hke
      ·have hLi:L.toList[i]?=some false:=by
        have h3:i<L.toList.length:=by simpa using hiL
        rw [Xp h3];have:L.getD i false=L.toList[i]:=by simp [hiL]
        rw [←this,hun']
       rw [Array.toList_setIfInBounds,List.countP_set (by simpa using hiL)];have h4:L.toList[i]'(by simpa using hiL)=false:=(Wi.1 hLi).2;rw [h4];simp only [Y2,if_false,if_true];omega
     exact ⟨hog _ w hI.j hro,hnext⟩
    by_cases hnf:∀i,i<m→i∉fl→L.getD i false=true
    ·obtain ⟨i,him,hun'⟩:=hsome;have hif:i∈fl:=Yq fun h=>by
      have h2:=hnf i him h;rw [hun'] at h2
      cases h2
     obtain ⟨hfree,hedf,d,op,ty,pos,af,hlo,hpu⟩:=hfl i hif;have ho:l.toArray[i]?=some ⟨some d,op,ty,pos,af,none⟩:=by rw [Yj];exact hlo
     have hed:∀e∈af,Region.binds .any e=true→L.getD e.on false=true:=fun e he hb=>by
      obtain ⟨h1,h2⟩:=hedf _ hlo e he hb;exact hnf e.on h1 h2
     have hil:i<l.length:=VX;have hiL:i<L.size:=by rw [hI.ls,hnn];exact hil
     have hunt:L.getD i true=false:=by
      rw [Xf] at hun' ⊢;rw [Yg hiL] at hun' ⊢;simpa using hun'
     obtain ⟨hog,hnext⟩:=both i him _ ho hun' hed;obtain ⟨v,hv,hk⟩:=zQ hpu hog a (by rw [hI.sz];exact hdN (i,d) (hpre i d him (by rw [ho];rfl))) fun _=>rfl;refine wpAny_first (v:=v) ho (Region.noSelect_spec hns) (fun c a w ⟨ρ',_,hq⟩=>(hQp c ρ' w hq).elim) fuel L a w (fun j oj hj hji hjl hno=> ?_) ((hready_spec i).2 ⟨hil,hunt,_,ho,hed⟩) (.inl ⟨by simp [Region.wanted],hv⟩) (hnext v w hk fun hfr'=> ?_)
     ·refine Region.free_spec ho hfree j oj hj hji ?_ hno;have hjlen:j<l.length:=by have:=(YT.1 hj).1;omega
      rw [KZ hjlen];rw [Zh];rintro ⟨h1,h2⟩;have h3:=hnf j h1 h2;have hjL:j<L.size:=by rw [hI.ls,hnn];exact hjlen
      rw [Xf] at h3 hjl;rw [Yg hjL] at h3 hjl;simp only [Xq] at h3 hjl;rw [h3] at hjl
      cases hjl
     ·obtain ⟨d',t,ty',pos',af',n,ag,by',zc,hi1,_⟩:=hfr.at i hfr';rw [hlo] at hi1;injection hi1 with hi1
      injection hi1 with _ hi1
      subst hi1
      cases hpu
    have hsome2:∃i,i<m∧i∉fl∧L.getD i false=false:=by
     refine Yq fun hn=>hnf fun i hi hif=> ?_
     cases hc2:L.getD i false with
     |true=>rfl
     |false=>exact absurd ⟨i,hi,hif,hc2⟩ hn
    refine ⟨fun hnil=> ?_,fun i hi=> ?_⟩
    ·exact Tk
    ·obtain ⟨hil,hun,o,ho,hed⟩:=(hready_spec i).1 hi;have hiL:i<L.size:=by rw [hI.ls,hnn];exact hil
     have hun':L.getD i false=false:=by
      exact Rz
     have hed':∀o',l.toArray[i]?=some o'→∀e∈o'.after,Region.binds .any e=true→L.getD e.on false=true:=fun o' ho'=>by
      exact I4
     have him:i<m:=by
      rcases WX i m with h|h
      ·exact h
      ·exfalso
       rcases WX m i with h2|h2
       ·exact Tu
       ·obtain rfl:i=m:=VX;have h4:(l.length==i)=false:=by simp;omega
        rw [h4,W7] at htail;have h5:=Ww.1 htail;obtain ⟨j,hj,hjf,hju⟩:=hsome2;have h6:=h5 j (by simpa using hj);have h7:fl.contains j=false:=by simpa using hjf
        rw [h7,W7] at h6;have:=kD hM hI.cl i j hed' h6;rw [hju] at this
        cases this
     obtain ⟨hog,hnext⟩:=both i him o ho hun' hed;have hgo:if Region.wanted o (yielded l.toArray a.tmps) then (o.wp P a w (wpAny P .any l.toArray (dK N D Q) fuel (L.setIfInBounds i true)) (dK N D Q))∨((o.asks P a w)∧LetsOut (dK N D Q)) else wpAny P .any l.toArray (dK N D Q) fuel (L.setIfInBounds i true) (a.put o.dst undef) w:=by
      by_cases hif:i∈fr
      ·obtain ⟨d,t,ty,pos,af,n,ag,by',zc,hi1,ht⟩:=hfr.at i hif;have ho2:o=⟨some d,.alloc t,ty,pos,af,none⟩:=by
        have h7:=ho;rw [Yj,hi1] at h7;injection h7 with h7
        exact h7.symm
       have hds:d<a.tmps.size:=by
        rw [hI.sz];exact hdN (i,d) (hpre i d him (by rw [ho,ho2];rfl))
       subst ho2;exact ID ht hog a hds _ _ (fun _=>rfl) fun v w' hk hb=>hnext v w' hk fun _=>hb
      ·exact hog.out a _ _ (fun _=>rfl) fun v w2 hv=>hnext v w2 hv fun h=>absurd h hif
     unfold wpOp;rw [ho];exact hgo
 exact Ss
end
theorem cH {Q:Kq}{id:Nat}{l:List Oper} (fr fl M:List Nat) (m:Nat) (src:List (List (Nat×Option Nat))) (ds:List (Nat×Nat)) {H:List HE} (hh:Hp w0 H w) (hm:P.follows .mixedOrders=true) (hok:zg l m N src ds fl M=true)
  (hfr:x7 P l fr) (hfm:fr.all (fun i=>i<m)=true) (hQp:NP Q)
  (h:DX P l.toArray (JJ w0 H w) ρ (fun V=>∀f w',JJ w0 H w w'→zO V f w' ds→(∀i∈fr,∀j∈fr,i≠j→f i≠f j)→WL ⟨none,D,false⟩ P N l.toArray Q (l.drop m) (lE ρ f ds) w') 0 Uv (l.take m) src):WC ⟨none,D,false⟩ P N (.region id l.toArray true) Q ρ w:=by
 obtain ⟨V,_,h1,h2⟩:=Fo _ _ _ _ (fun _ _ _ _=>trivial) h;exact Jk fr fl M m src ds (JJ w0 H w) V hm hok hfr hfm hQp (fun _ _ h hb=>h.ext hb) (JJ.start hh) h1 h2
end
section
variable {ro:Mode}
def bH (ρ:Rf):List (Nat×Value)→Rf
 |[]=>ρ
 |(d,v)::r=>cL (bH ρ r) d v
def S9 (f:Nat→Value):List (Nat×Nat)→List (Nat×Value)→Prop
 |[],[]=>True
 |(i,d)::r,(d',v)::s=>(d=d'∧f i=v)∧S9 f r s
 |_,_=>False
theorem a8 {ρ:Rf}{f:Nat→Value}:∀{ds:List (Nat×Nat)}{vs:List (Nat×Value)},S9 f ds vs→lE ρ f ds=bH ρ vs
 |[],[],_=>rfl
 |[],_::_,h=>h.elim
 |_::_,[],h=>h.elim
 |(i,d)::r,(d',v)::s,h=>by
  obtain ⟨⟨rfl,rfl⟩,h2⟩:=h;rw [lE,bH,a8 h2]
theorem aQ {f:Nat→Value}:S9 f [] []:=trivial
theorem ae {f:Nat→Value}{i d:Nat}{v:Value}{r:List (Nat×Nat)}{s:List (Nat×Value)} (h:f i=v) (hr:S9 f r s):S9 f ((i,d)::r) ((d,v)::s):=⟨⟨rfl,h⟩,hr⟩
theorem aR {Q:Kq}{l:List Oper}{ρ':Rf} (h:ρ=ρ') (k:WL ro P N ops Q l ρ' w):WL ro P N ops Q l ρ w:=h ▸ k
section
variable {P:Program}{ops:Array Oper}{J:World→Prop}{ρ:Rf}{T:(Nat→VP)→Prop}{i:Nat}{pv:Nat→VP}{os:List Oper}{s:List (Nat×Option Nat)}{ss:List (List (Nat×Option Nat))}{d:Option Nat}{ty:TypeId}{pos:String}{af:Array Edge}
theorem uk {op:Op}{b:Bool} (hj:(ops[j]?).bind (·.dst)=some dj) (hv:ρ dj=undef) (h:K undef w):OG P ops ⟨d,op,ty,pos,af,some (j,b)⟩ ρ w K:=
 ⟨fun a next Q ha hn=>by
  have h1:Region.wanted ⟨d,op,ty,pos,af,some (j,b)⟩ (yielded ops a.tmps)=false:=by
   have h2:=ha dj;rw [hv,Xf] at h2
   cases h3:a.tmps[dj]? with
   |none=>simp [Region.wanted,yielded,hj,h3]
   |some x=>
    rw [h3] at h2;simp only [Xq] at h2;subst h2;simp [Region.wanted,yielded,hj,h3,undef]
  rw [h1];exact hn _ _ h⟩
theorem zY {b:Bool}{op:Op} (hj:(ops[j]?).bind (·.dst)=some dj) (hv:∀ρ1 w1,J w1→de (pv) ρ ρ1 w1 s→ρ1 dj=undef)
  (k:DX P ops J ρ T (i+1) (ew pv i (Is undef)) os ss):DX P ops J ρ T i pv (⟨d,op,ty,pos,af,some (j,b)⟩::os) (s::ss):=
 aN (Is undef) Is.ext (fun ρ1 w1 hj' h=>uk hj (hv ρ1 w1 hj' h) ⟨Below.refl _ _,rfl⟩) k
theorem bo {b:Bool}{t e:TypeId}{len sz:Nat} (hj:(ops[j]?).bind (·.dst)=some dj) (hg:∀ρ1 w1,J w1→de (pv) ρ ρ1 w1 s→ρ1 dj=.bool b)
  (ht:P.underlying t=some (.slice e)) (hte:di P e=some (sz,ag,by',zc))
  (hp:∀ρ1 w1,J w1→de (pv) ρ ρ1 w1 s→wq ρ1 parts.toList=ps) (hzl:zc.length=sz) (hf:k7 (fun i=>some (i*sz,sz)) (fa len zc) ps=some cs) (h0:¬len*sz=0) (hsl:len*sz≤16777216) (hl:cs.length=len*sz)
  (k:DX P ops J ρ T (i+1) (ew pv i (Rows len sz cs)) os ss):DX P ops J ρ T i pv (⟨d,.buildSlice t len parts,ty,pos,af,some (j,b)⟩::os) (s::ss):=
 aN (Rows len sz cs) Rows.ext (fun ρ1 w1 hj' h=>bz hj (hg ρ1 w1 hj' h) (jD ht hte (hp ρ1 w1 hj' h) hzl hf h0 hsl hl fun _ _ ⟨_,hv,hs⟩ hb=>⟨hb,_,_,hv,hs⟩)) k
end
theorem Hp.fY {f:α→List Value}{sz:Nat}{H:List HE}{i e g:Nat}{l:List α}{x:α} (hh:Hp w0 H w) (hi:H[i]?=some (.row (some ⟨g,0,none⟩) n c e sz (az f l))) (hf:∀x,(f x).length=sz) (h0:0<sz) (hx:l[k]?=some x):Rd w ⟨g,k*sz,none⟩ (f x):=by
 have hs:=hh.aC hi;have hl:=hs.bg hf h0;obtain ⟨ad,h1,h2⟩:=hs.2 (by have:=(Wi.1 hx).1;omega);injection h1 with h1
 subst h1;have h3:=h2.recAt hf hx;rwa [fP,Wr] at h3
end
section
variable {ro:Mode}
section
variable {P:Program}{ρ:Rf}{w:World}
end
end
section
variable {ro:Mode}
section
variable {P:Program}{ρ:Rf}{w:World}
end
section
variable {P:Program}{N:Nat}{ops:Array Oper}{Q:Kq}{ρ:Rf}{w:World}{rest:List Oper}{d ty:Nat}{pos:String}{af:Array Edge}
end
end
section
variable {P:Program}{N:Nat}{Q:Kq}{ρ:Rf}{w:World}
structure WA (P:Program) (N:Nat) (ops:Array Oper) (Q:Kq) (fuel:Nat) (L:Array Bool) (ρ:Rf) (w:World):Prop where
 out:∀a,Fits N a ρ→wpAny P .any ops (lift N Q) fuel L a w
theorem u2 {o:Oper}{a:Act}{K:Act→World→Prop}{r:Result Next} (h:o.upon P a K (lift N (cI next Q)) r):o.upon P a K (lift N Q) r:=by
 have hp:∀c a w,lift N (cI next Q) (.panic c) a w→lift N Q (.panic c) a w:=fun _ _ _ h=>h;have ho:LetsOut (lift N (cI next Q))→LetsOut (lift N Q):=fun ⟨a,w,h⟩=>⟨a,w,h⟩
 cases r with
 |ok n w'=>
  cases n<;>simp only [Oper.upon] at h ⊢ <;>first
   |exact h
   |exact Calls.mono h (fun e w'' he=>by cases e<;>first|exact he|exact hp _ _ _ he|exact ho he)
 |halt x w'=>cases x<;>simp only [Oper.upon] at h ⊢ <;>first|exact h|exact hp _ _ _ h|exact ho h
theorem EV {L:Array Bool} (hr:Region.ready .any ops L=rs) (hne:rs≠[])
  (h:∀i∈rs,∃o,ops[i]?=some o∧WL .plain P N ops (cI (fun ρ w=>WA P N ops Q fuel (L.setIfInBounds i true) ρ w) Q) [o] ρ w):WA P N ops Q (fuel+1) L ρ w:=by
 refine ⟨fun a hf=>wpAny_all hr hne fun i hi=> ?_⟩;obtain ⟨o,ho,hw⟩:=h i hi;have h1:=hw.out a hf;have hK:∀a w,wpList P ops (lift N (cI (fun ρ w=>WA P N ops Q fuel (L.setIfInBounds i true) ρ w) Q)) [] a w→wpAny P .any ops (lift N Q) fuel (L.setIfInBounds i true) a w:=fun a w ⟨ρ',hf',hq⟩=>by
  have hq':WA P N ops Q fuel (L.setIfInBounds i true) ρ' w:=hq;exact hq'.out a hf'
 unfold wpOp;rw [ho];simp only [];unfold wpList at h1;split at h1
 ·rename_i hwt;rw [V2 hwt];refine h1.imp (fun h2=>Oper.wp_mono hK ?_) (fun h2=>⟨h2.1, ?_⟩)
  ·unfold Oper.wp at h2 ⊢;exact u2 h2
  ·obtain ⟨a',w',h3⟩:=h2.2;exact ⟨a',w',h3⟩
 ·rename_i hwt;rw [V3 hwt];exact hK _ _ h1
theorem gp {L:Array Bool}{i:Nat}{o:Oper} (hr:Region.ready .any ops L=[i]) (ho:ops[i]?=some o)
  (h:WL .plain P N ops (cI (fun ρ w=>WA P N ops Q fuel (L.setIfInBounds i true) ρ w) Q) [o] ρ w):WA P N ops Q (fuel+1) L ρ w:=
 EV hr (by simp) fun j hj=>by
  obtain rfl:j=i:=by simpa using hj
  exact ⟨o,ho,h⟩
theorem uM {L:Array Bool}{i i2:Nat}{o o2:Oper} (hr:Region.ready .any ops L=[i,i2]) (ho:ops[i]?=some o) (ho2:ops[i2]?=some o2)
  (h:WL .plain P N ops (cI (fun ρ w=>WA P N ops Q fuel (L.setIfInBounds i true) ρ w) Q) [o] ρ w)
  (h2:WL .plain P N ops (cI (fun ρ w=>WA P N ops Q fuel (L.setIfInBounds i2 true) ρ w) Q) [o2] ρ w):WA P N ops Q (fuel+1) L ρ w:=
 EV hr (by simp) fun j hj=>by
  rcases Wk.1 hj with rfl|hj
  ·exact ⟨o,ho,h⟩
  ·obtain rfl:j=i2:=by simpa using hj
   exact ⟨o2,ho2,h2⟩
theorem fk {L:Array Bool} (h:WA P N ops Q fuel L ρ w):WL .plain P N ops (cI (fun ρ w=>WA P N ops Q fuel L ρ w) Q) [] ρ w:=aa h
theorem j3 {l:List Oper}{L:Array Bool} (m:Nat) (hm:m≤l.length) (hL:L=jN l.length m) (hf:l.length≤fuel+m)
  (hr:((List.range (l.length-m)).all fun k=>Region.ready .any l.toArray (jN l.length (m+k))==[m+k])=true) (hend:Region.ready .any l.toArray (jN l.length l.length)=[])
  (h:WL .plain P N l.toArray Q (l.drop m) ρ w):WA P N l.toArray Q fuel L ρ w:=
 ⟨fun a hfits=>by
  rw [hL];refine p6 m (fun k h1 h2=> ?_) hend fuel m a w (V8 _) hm hf (h.out a hfits);have h3:=Ww.1 hr (k-m) (by simp;omega);rw [show m+(k-m)=k by omega] at h3;exact eq_of_beq h3⟩
theorem qz {id:Nat}{l:List Oper}{H:List HE} (hh:Hp w0 H w) (hm:P.follows .mixedOrders=true) (h:∀w',JJ w0 H w w'→WA P N l.toArray Q l.length (Array.replicate l.length false) ρ w'):WC .plain P N (.region id l.toArray true) Q ρ w:=by
 refine WC.qS fun a hf=>wp_region_any hm ?_;have hb:Below w.heap.size w ({ w with drawn:=w.drawn+1 }:World):=⟨rfl,rfl,rfl,V8 _,fun _ _=>rfl⟩;have:=(h _ ((JJ.start hh).ext hb)).out a hf;simpa using this
end
section
variable {P:Program}{N:Nat}{Q:Kq}{ρ:Rf}{w:World}
def HS:List Nat→List (List Nat)
 |[]=>[[]]
 |x::r=>HS r++(HS r).map (x:: ·)
theorem rU (p:Nat→Bool):∀l:List Nat,l.filter p∈HS l
 |[]=>by simp [HS]
 |x::r=>by
  have ih:=rU p r;rw [List.filter_cons,HS];split
  ·exact XA _ (Wn.2 ⟨_,ih,rfl⟩)
  ·exact XX _ ih
def lD (n m:Nat) (fl D:List Nat):Array Bool:=((List.range n).map fun i=>decide (i<m∧(i∉fl∨i∈D))).toArray
def F1 (l:List Oper) (fl D:List Nat):Bool:=D.all fun i=>match l[i]? with
 |some o=>o.after.all fun e=> !Region.binds .any e|| !fl.contains e.on||D.contains e.on
 |none=>true
def R7 (ds:List (Nat×Nat)) (fl D:List Nat):List (Nat×Nat):=ds.filter fun p=> !fl.contains p.1||D.contains p.1
def FT (l:List Oper) (m:Nat) (fl:List Nat) (ds:List (Nat×Nat)):List (List Nat×Nat×List (Nat×Nat)):=
 ((HS fl).filter (F1 l fl)).map fun D=>(D,l.length-(lD l.length m fl D).toList.countP (fun b=>b)-1,R7 ds fl D)
def y8 (l:List Oper) (m N:Nat) (src:List (List (Nat×Option Nat))) (ds:List (Nat×Nat)) (fl M:List Nat):Bool:=
 let ops:=l.toArray
 let pre:=(List.range m).map fun i=>((ops[i]?).bind (·.dst))
 (m≤l.length) && (src.length==m) &&
 (ds==(pre.zipIdx.filterMap fun (d,i)=>d.map fun d=>(i,d)).reverse) && (decide (ds.map (·.2)).Nodup) && (ds.all fun p=>p.2<N) &&
 ((List.range m).all fun i=>match ops[i]?,src[i]? with
  |some o,some s=>((o.looksAt ops).all fun t=>s.any fun p=>p.1==t) &&
    s.all fun p=>match p.2 with
     |some j=>(j<m) && ((ops[j]?).bind (·.dst)==some p.1) && (M.getD i 0).testBit j
     |none=>(List.range m).all fun j=> !((ops[j]?).bind (·.dst)==some p.1)||(j !=i && (M.getD j 0).testBit i)
  |_,_=>false) &&
 (l.length==m||((List.range m).all fun i=>fl.contains i||(M.getD m 0).testBit i)) &&
 ((List.range (l.length-m)).all fun k=>k==0||(M.getD (m+k) 0).testBit m) &&
 ((List.range l.length).all fun i=>match ops[i]? with|some o=>o.after.all fun e=> !Region.binds .any e||e.on<i|none=>false) && (vd l []==M)
theorem Ji {id:Nat}{l:List Oper} (fl M:List Nat) (m:Nat) (src:List (List (Nat×Option Nat))) (ds:List (Nat×Nat)) (Ds:List (List Nat×Nat×List (Nat×Nat))) (J:World→Prop) (V:Nat→Value→World→Prop) (hm:P.follows .mixedOrders=true) (hok:y8 l m N src ds fl M=true) (hDs:FT l m fl ds=Ds) (hmn:m<l.length)
  (hJ:∀w w',J w→Below w.heap.size w w'→J w') (h0:J w) (hops:DO P l.toArray J V ρ 0 (l.take m) src)
  (tail:∀p∈Ds,∀f w',J w'→zO V f w' p.2.2→WL .plain P N l.toArray (cI (fun ρ w=>WA P N l.toArray Q p.2.1 ((lD l.length m fl p.1).setIfInBounds m true) ρ w) Q) ((l.drop m).take 1) (lE ρ f p.2.2) w'):WC .plain P N (.region id l.toArray true) Q ρ w:=by
 refine WC.qS fun a hf=>wp_region_any hm ?_;simp only [y8,Wl,Wt,XK,Ww,Xx] at hok;obtain ⟨⟨⟨⟨⟨⟨⟨⟨⟨hml,_⟩,hds⟩,hnd⟩,hdN⟩,hrd⟩,htail⟩,hdep⟩,hedge⟩,hM⟩:=hok;have hdo:=(GA _ _ _ hops).2;have hpre:∀i d,i<m→((l.toArray[i]?).bind (·.dst))=some d→(i,d)∈ds:=fun i d hi hd=>by
  exact RQ
 have hdsm:∀i d,(i,d)∈ds→i<m∧((l.toArray[i]?).bind (·.dst))=some d:=fun i d hp=>by
  exact Qr
 have hone:∀i j d,i<m→j<m→((l.toArray[i]?).bind (·.dst))=some d→((l.toArray[j]?).bind (·.dst))=some d→i=j:=fun i j d hi hj h1 h2=>by
  exact QE
 have hnn:l.toArray.size=l.length:=by simp
 have part:∀(L:Array Bool) (a:Act) (w:World) (fuel:Nat),T2 [] [] N l.toArray m ρ J V L a w→(∀i,i<m→i∉fl→L.getD i false=true)→fuel+1+L.toList.countP (fun b=>b)=l.length→∀o,l.toArray[m]?=some o→
   wpOp P l.toArray (lift N Q) m (wpAny P .any l.toArray (lift N Q) fuel (L.setIfInBounds m true)) a w:=by
  intro L a w fuel hI hall hfu o ho;have hflt:∀i,i∈fl.filter (fun i=>L.getD i false)↔i∈fl∧L.getD i false=true:=fun i=>by rw [Xy]
  have hL:L=lD l.length m fl (fl.filter fun i=>L.getD i false):=by
   apply Array.ext (by simp [lD,hI.ls]);intro i h1 h2;have e1:L.getD i false=L[i]:=by simp [h1]
   rw [←e1];simp only [lD,List.getElem_toArray,List.getElem_map,List.getElem_range]
   rcases WX i m with h|h
   ·by_cases hif:i∈fl
    ·cases hc:L.getD i false with
     |true=>exact (Wm ⟨h,.inr ((hflt i).2 ⟨hif,hc⟩)⟩).symm
     |false=>exact (Wu fun hh=>hh.2.elim (fun hn=>hn hif) fun hd=>by rw [((hflt i).1 hd).2] at hc;cases hc).symm
    ·rw [hall i h hif];exact (Wm ⟨h,.inl hif⟩).symm
   ·rw [hI.tl i h];exact (Wu fun hh=>by omega).symm
  have hcl:F1 l fl (fl.filter fun i=>L.getD i false)=true:=Ww.2 fun i hi=>by
   obtain ⟨h1,h2⟩:=(hflt i).1 hi
   cases hli:l[i]? with
   |none=>rfl
   |some oi=>
    refine Zf.2 fun e he=> ?_
    cases hb:Region.binds .any e with
    |false=>rfl
    |true=>
     have h3:=hI.cl i oi (by rw [Yj];exact hli) h2 e he hb;by_cases hef:e.on∈fl
     ·rw [Yd];exact .inr (List.contains_iff_mem.2 ((hflt _).2 ⟨hef,h3⟩))
     ·simp [hef]
  have hmem:(fl.filter (fun i=>L.getD i false),l.length-(lD l.length m fl (fl.filter fun i=>L.getD i false)).toList.countP (fun b=>b)-1,R7 ds fl (fl.filter fun i=>L.getD i false))∈Ds:=by
   rw [←hDs];exact Wn.2 ⟨_,Xy.2 ⟨rU _ _,hcl⟩,rfl⟩
  have hfu':l.length-L.toList.countP (fun b=>b)-1=fuel:=VX;have htl:=tail _ hmem;simp only [←hL,hfu'] at htl;have hsub:∀p∈R7 ds fl (fl.filter fun i=>L.getD i false),p∈ds∧L.getD p.1 false=true:=fun p hp=>by
   obtain ⟨h1,h2⟩:=Xy.1 hp;refine ⟨h1, ?_⟩;simp only [Yd,Y5,List.contains_eq_mem,Zh,Wt] at h2
   rcases h2 with h2|h2
   ·exact hall _ (hdsm _ _ h1).1 h2
   ·exact ((hflt _).1 h2).2
  have hnd':((R7 ds fl (fl.filter fun i=>L.getD i false)).map (·.2)).Nodup:=(List.filter_sublist.map _).nodup hnd;have hfits:Fits N a (lE ρ (fun i=>match (l.toArray[i]?).bind (·.dst) with|some d=>a.tmps.getD d undef|none=>undef) (R7 ds fl (fl.filter fun i=>L.getD i false))):=by
   refine ⟨hI.nd,hI.sz,fun s=> ?_⟩;by_cases hs:∃i,(i,s)∈R7 ds fl (fl.filter fun i=>L.getD i false)
   ·obtain ⟨i,hi⟩:=hs;rw [(lY _ _ s hnd').1 i hi,(hdsm i s (hsub _ hi).1).2]
   ·rw [(lY _ _ s hnd').2 fun i hi=>hs ⟨i,hi⟩];refine hI.LB s fun i hi hil hd=>hs ⟨i,Xy.2 ⟨hpre i s hi hd, ?_⟩⟩;by_cases hif:i∈fl
    ·rw [Yd];exact .inr (List.contains_iff_mem.2 ((hflt i).2 ⟨hif,hil⟩))
    ·simp [hif]
  have h1:=(htl (fun i=>match (l.toArray[i]?).bind (·.dst) with|some d=>a.tmps.getD d undef|none=>undef) w hI.j (sS _ fun p hp=>by
   obtain ⟨h1,h2⟩:=hsub p hp;obtain ⟨h3,h4⟩:=hdsm p.1 p.2 h1;have:=hI.vs p.1 p.2 h3 h2 h4;rw [h4];exact this)).out a hfits
  have hone':(l.drop m).take 1=[o]:=by
   rw [Yj] at ho;obtain ⟨h2,h3⟩:=Wi.1 ho;rw [Xl h2,h3]
   rfl
  rw [hone'] at h1;have hK:∀a w,wpList P l.toArray (lift N (cI (fun ρ w=>WA P N l.toArray Q fuel (L.setIfInBounds m true) ρ w) Q)) [] a w→wpAny P .any l.toArray (lift N Q) fuel (L.setIfInBounds m true) a w:=fun a w ⟨ρ',hf',hq⟩=>by
   have hq':WA P N l.toArray Q fuel (L.setIfInBounds m true) ρ' w:=hq;exact hq'.out a hf'
  unfold wpOp;rw [ho];simp only [];unfold wpList at h1;split at h1
  ·rename_i hwt;rw [V2 hwt];refine h1.imp (fun h2=>Oper.wp_mono hK ?_) (fun h2=>⟨h2.1, ?_⟩)
   ·unfold Oper.wp at h2 ⊢;exact u2 h2
   ·obtain ⟨a',w',h3⟩:=h2.2;exact ⟨a',w',h3⟩
  ·rename_i hwt;rw [V3 hwt];exact hK _ _ h1
 have key:∀(fuel:Nat) (L:Array Bool) (a:Act) (w:World),T2 [] [] N l.toArray m ρ J V L a w→fuel+L.toList.countP (fun b=>b)=l.length→wpAny P .any l.toArray (lift N Q) fuel L a w:=by
  intro fuel
  induction fuel with
  |zero=>
   intro L a w hI hc;have hall:∀i,i<l.length→L.getD i false=true:=fun i hi=>by
    exact Ph
   have h1:=hall m hmn;rw [hI.tl m (V8 _)] at h1
   cases h1
  |succ fuel ih=>
   intro L a w hI hc
   ·have hready_spec:∀i,i∈Region.ready .any l.toArray L↔i<l.length∧L.getD i true=false∧∃o,l.toArray[i]?=some o∧∀e∈o.after,Region.binds .any e=true→L.getD e.on false=true:=fun i=>by
     exact RD
    have both:∀(i:Nat) (_:i<m) (o:Oper) (_:l.toArray[i]?=some o) (_:L.getD i false=false) (_:∀e∈o.after,Region.binds .any e=true→L.getD e.on false=true),
      OG P l.toArray o (fun t=>a.tmps.getD t undef) w (fun v w2=>Below w.heap.size w w2∧V i v w2)∧
      ∀v w2,(Below w.heap.size w w2∧V i v w2)→(i∈([]:List Nat)→∃b,v=.pointer (some ⟨b,0,none⟩)∧w.heap.size≤b∧b<w2.heap.size)→wpAny P .any l.toArray (lift N Q) fuel (L.setIfInBounds i true) (a.put o.dst v) w2:=fun i him o ho hun' hed=>by
     have hiL:i<L.size:=by rw [hI.ls,hnn];omega
     have hed':∀o',l.toArray[i]?=some o'→∀e∈o'.after,Region.binds .any e=true→L.getD e.on false=true:=fun o' ho'=>by
      rw [ho] at ho';injection ho' with ho';subst ho';exact hed
     have hok':(l.take m)[i]?=some o:=by
      rw [XL,V2 him];simpa using ho
     obtain ⟨s,hs,hstab,hog⟩:=hdo i o hok';rw [Wr] at hstab hog;have hrdi:=hrd i him;rw [ho,hs] at hrdi;simp only [Wl,Ww] at hrdi;have hro:de V ρ (fun t=>a.tmps.getD t undef) w s:=qP s fun p hp=>by
      have hp2:=hrdi.2 p hp
      cases hp3:p.2 with
      |some j=>
       rw [hp3] at hp2;simp only [Wl,Wt,XK] at hp2;exact hI.vs j p.1 hp2.1.1 (kD hM hI.cl i j hed' hp2.2) hp2.1.2
      |none=>
       rw [hp3] at hp2;refine hI.LB p.1 fun j hj hjl hjd=> ?_;have h6:=Ww.1 hp2 j (by simpa using hj);rw [hjd] at h6;simp only [beq_self_eq_true,Bool.not_true,W7,Wl] at h6;have:=kD hM hI.cl j i (fun o' ho' e he hb=>hI.cl j o' ho' hjl e he hb) h6.2;rw [hun'] at this
       cases this
     have hnext:∀v w2,(Below w.heap.size w w2∧V i v w2)→(i∈([]:List Nat)→∃b,v=.pointer (some ⟨b,0,none⟩)∧w.heap.size≤b∧b<w2.heap.size)→wpAny P .any l.toArray (lift N Q) fuel (L.setIfInBounds i true) (a.put o.dst v) w2:=fun v w2 hv hfv=>by
      have hd1:∀d',o.dst=some d'→d'<a.tmps.size:=fun d' hd'=>by
       rw [hI.sz];exact hdN (i,d') (hpre i d' him (by rw [ho];exact hd'))
      have hput:∀j d,j<m→j≠i→(l.toArray[j]?).bind (·.dst)=some d→(a.put o.dst v).tmps.getD d undef=a.tmps.getD d undef:=fun j d hj hji hjd=>by
       cases hod:o.dst with
       |none=>rfl
       |some d'=>rw [eA (hd1 d' hod),V3 fun e=>hji (hone j i d hj him hjd (by rw [ho,e];exact hod))]
      have hputi:∀d,(l.toArray[i]?).bind (·.dst)=some d→(a.put o.dst v).tmps.getD d undef=v:=fun d hd=>by
       rw [ho] at hd;simp only [Yb] at hd;rw [hd,eA (hd1 d hd),V2 rfl]
      refine ih _ _ _ ?_ ?_
      ·refine ⟨?_, ?_,hJ _ _ hI.j hv.1,by simpa using hI.ls, ?_, ?_, ?_, ?_, ?_, ?_⟩
       ·cases o.dst<;>exact hI.nd
       ·cases hod:o.dst with
        |none=>exact hI.sz
        |some d=>simpa [Act.put] using hI.sz
       ·intro k ok hk hkl e he hb;rw [dP hiL] at hkl ⊢;by_cases hki:k=i
        ·subst hki;simp [hed' ok hk e he hb]
        ·simp only [hki,decide_false,W7] at hkl;simp [hI.cl k ok hk hkl e he hb]
       ·intro k hk;rw [dP hiL,hI.tl k hk];have:¬k=i:=VX;simp [this]
       ·intro j d hj hjl hjd;rw [dP hiL] at hjl;have hd1:∀d',o.dst=some d'→d'<a.tmps.size:=fun d' hd'=>by
         rw [hI.sz];exact hdN (i,d') (hpre i d' him (by rw [ho];exact hd'))
        by_cases hji:j=i
        ·subst hji;rw [ho] at hjd;simp only [Yb] at hjd;rw [hjd,eA (hd1 d hjd),V2 rfl];exact hv.2
        ·simp only [hji,decide_false,W7] at hjl;have hold:=hI.vs j d hj hjl hjd;have hdj:(j,d)∈ds:=hpre j d hj hjd;have hst:=(hdo j (l.toArray[j]?.getD default) (by
          have:j<l.length:=VX;rw [XL,V2 hj];simp [this])).choose_spec.2.1
         rw [Wr] at hst;have hne:∀d',o.dst=some d'→d≠d':=fun d' hd' e=>by
          subst e;exact hji (hone j i d hj him hjd (by rw [ho];exact hd'))
         cases hod:o.dst with
         |none=>exact hst _ _ _ hold hv.1
         |some d'=>
          rw [eA (hd1 d' hod),V3 (hne d' hod)];exact hst _ _ _ hold hv.1
       ·intro s' hs';have hni:((l.toArray[i]?).bind (·.dst))≠some s':=hs' i him (by rw [dP hiL];simp);have hold:=hI.LB s' fun j hj hjl=>hs' j hj (by rw [dP hiL];simp [hjl]);rw [ho] at hni;simp only [Yb] at hni
        cases hod:o.dst with
        |none=>exact hold
        |some d'=>
         rw [eA (by rw [hI.sz];exact hdN (i,d') (hpre i d' him (by rw [ho];exact hod))),V3 (fun e=>hni (by rw [hod,e]))];exact hold
       ·intro j hj
        cases hj
       ·intro j hj
        cases hj
      ·have hLi:L.toList[i]?=some false:=by
        have h3:i<L.toList.length:=by simpa using hiL
        rw [Xp h3];have:L.getD i false=L.toList[i]:=by simp [hiL]
        rw [←this,hun']
       rw [Array.toList_setIfInBounds,List.countP_set (by simpa using hiL)];have h4:L.toList[i]'(by simpa using hiL)=false:=(Wi.1 hLi).2;rw [h4];simp only [Y2,if_false,if_true];omega
     exact ⟨hog _ w hI.j hro,hnext⟩
    refine ⟨fun hnil=> ?_,fun i hi=> ?_⟩
    ·exfalso;have hmin:∀k,(∃i,i<k∧i<m+1∧L.getD i false=false)→∃i,i<m+1∧L.getD i false=false∧∀j,j<i→L.getD j false=true:=by
      intro k
      induction k with
      |zero=>rintro ⟨i,h,_⟩;omega
      |succ k ihk=>
       rintro ⟨i,h1,h2,h3⟩;by_cases hex:∃i,i<k∧i<m+1∧L.getD i false=false
       ·exact ihk hex
       ·exact N2
     obtain ⟨i,hi,hu,hlow⟩:=hmin (m+1) ⟨m,VX,VX,hI.tl m (V8 _)⟩;exact PZ
    ·obtain ⟨hil,hun,o,ho,hed⟩:=(hready_spec i).1 hi;have hiL:i<L.size:=by rw [hI.ls,hnn];exact hil
     have hun':L.getD i false=false:=by
      exact Rz
     have hed':∀o',l.toArray[i]?=some o'→∀e∈o'.after,Region.binds .any e=true→L.getD e.on false=true:=fun o' ho'=>by
      exact I4
     rcases WX i m with him|him
     ·obtain ⟨hog,hnext⟩:=both i him o ho hun' hed;have hgo:=hog.out a (wpAny P .any l.toArray (lift N Q) fuel (L.setIfInBounds i true)) (lift N Q) (fun _=>rfl) fun v w2 hv=>hnext v w2 hv fun h=>nomatch h;unfold wpOp;rw [ho];exact hgo
     ·rcases WX m i with h2|h2
      ·exfalso;exact Tu
      ·obtain rfl:i=m:=VX;refine part L a w fuel hI (fun j hj hjf=> ?_) hc o ho;have h4:(l.length==i)=false:=by simp;omega
       rw [h4,W7] at htail;have h6:=Ww.1 htail j (by simpa using hj);have h7:fl.contains j=false:=by simpa using hjf
       rw [h7,W7] at h6;exact kD hM hI.cl i j hed' h6
 exact Ss
end
theorem kg {Q:Kq}{id:Nat}{l:List Oper} (fl M:List Nat) (m:Nat) (src:List (List (Nat×Option Nat))) (ds:List (Nat×Nat)) (Ds:List (List Nat×Nat×List (Nat×Nat))) {H:List HE} (hh:Hp w0 H w) (hm:P.follows .mixedOrders=true) (hok:y8 l m N src ds fl M=true) (hDs:FT l m fl ds=Ds) (hmn:m<l.length)
  (h:DX P l.toArray (JJ w0 H w) ρ (fun V=>∀p∈Ds,∀f w',JJ w0 H w w'→zO V f w' p.2.2→WL .plain P N l.toArray (cI (fun ρ w=>WA P N l.toArray Q p.2.1 ((lD l.length m fl p.1).setIfInBounds m true) ρ w) Q) ((l.drop m).take 1) (lE ρ f p.2.2) w') 0 Uv (l.take m) src):WC .plain P N (.region id l.toArray true) Q ρ w:=by
 obtain ⟨V,_,h1,h2⟩:=Fo _ _ _ _ (fun _ _ _ _=>trivial) h;exact Ji fl M m src ds Ds (JJ w0 H w) V hm hok hDs hmn (fun _ _ h hb=>h.ext hb) (JJ.start hh) h1 h2
theorem gl {d:Option Nat}{ty:TypeId}{af:Array Edge}{g:Option (Nat×Bool)}{t e:TypeId}{x lo:Operand}{A:Option Addr}{l sz:Nat}{k:IntKind}{m:Int} (ht:P.underlying t=some (.slice e)) (hsz:(P.info? e).map (·.size)=some sz) (hx:ev ρ x=.slice A n c) (hlo:ev ρ lo=.int k m)
  (hm:m=(l:Int)) (h1:l≤n) (h2:n≤c):(execOp (ev ρ) ⟨d,.slice t x (some lo) none none,ty,pos,af,g⟩).run P w=.ok (.value (.slice (if c=l then A else A.map (·.add (l*sz))) (n-l) (c-l))) w:=
 jm (lo:=some lo) (hi:=none) (l:=l) (h:=n) ht hsz hx ⟨k,m,hlo,hm⟩ rfl h1 h2
theorem Sl.front {A:Option Addr} (h:Sl w A n k xs) (hm:m≤n):Sl w A m k (xs.take (m*k)):=by
 have hle:m*k≤n*k:=Xi _ hm;refine ⟨by rw [Wp,h.1];omega,fun h0=> ?_⟩;obtain ⟨ad,h1,h2⟩:=h.2 VX;exact ⟨ad,h1,h2.take _⟩
theorem Sl.back {A:Option Addr}{l:Nat} (h:Sl w A n k xs) (hl:l≤n) (hc:n≤c):Sl w (if c=l then A else A.map (·.add (l*k))) (n-l) k (xs.drop (l*k)):=by
 have h1:=h.cut hl (V8 n) hc;have h2:((xs.drop (l*k)).take ((n-l)*k))=xs.drop (l*k):=Wa (by rw [Xk,h.1,Nat.sub_mul];exact V8 _);rwa [h2] at h1
def Be (base:Nat) (t:TypeId) (sz:Nat):VP:=fun v W=>∃g,v=.slice (some ⟨g,0,none⟩) 0 0∧W.ownsRow base t sz (.slice (some ⟨g,0,none⟩) 0 0) 0 []
def pV (base:Nat) (t:TypeId) (n sz:Nat) (cs:List Value):VP:=fun v W=>∃A c,v=.slice A n c∧W.ownsRow base t sz (.slice A n c) n cs
theorem pF {t:TypeId}{sz:Nat}{A:Option Addr} (h:w.ownsRow base t sz (.slice A n c) n xs) (hb:Below w.heap.size w w'):w'.ownsRow base t sz (.slice A n c) n xs:=by
 refine ⟨h.1,h.2.imp id ?_⟩;rintro ⟨g,cap,cur,h1,h2,h3,h4⟩;have hlt:g<w.heap.size:=by
  rcases WX g w.heap.size with h|h
  ·exact h
  ·rw [YQ h] at h3;cases h3
 exact ⟨g,cap,cur,h1,h2,(hb.block g hlt).trans h3,h4⟩
theorem Be.ext {t:TypeId}{sz:Nat} (v:Value) (w w':World) (h:Be base t sz v w) (hb:Below w.heap.size w w'):Be base t sz v w':=let ⟨g,h1,h2⟩:=h;⟨g,h1,pF h2 hb⟩
theorem pV.ext {t:TypeId}{sz:Nat} (v:Value) (w w':World) (h:pV base t n sz cs v w) (hb:Below w.heap.size w w'):pV base t n sz cs v w':=let ⟨A,c,h1,h2⟩:=h;⟨A,c,h1,pF h2 hb⟩
theorem JJ.Dc {H:List HE}{t:TypeId}{sz:Nat}{A:Option Addr} (hs:Hp w0 H w) (h:Hp w0 H W) (ho:W.ownsRow w.heap.size t sz (.slice A n c) n cs):Hp w0 (.row A n c t sz cs::H) W:=by
 refine ⟨h.below,fun x hx=> ?_, ?_⟩
 ·rcases Wk.1 hx with rfl|hx
  ·refine ⟨ho.1,ho.2.imp id ?_⟩;rintro ⟨g,cap,cur,h1,h2,h3⟩;exact ⟨g,cap,cur,h1,Wz hs.size h2,h3⟩
  ·exact h.own x hx
 ·rw [XS]
  rcases ho.2 with ⟨h1,_⟩|⟨g,cap,cur,h1,h2,_⟩
  ·injection h1 with e1
   subst e1;exact h.nd
  ·injection h1 with e1
   subst e1;show (g::H.filterMap HE.id).Nodup;refine X2.2 ⟨fun hm=> ?_,h.nd⟩;obtain ⟨y,hy,hyb⟩:=Xe.1 hm;have:=(dY (hs.own y hy) hyb).2;omega
section
variable {P:Program}{ops:Array Oper}{J:World→Prop}{ρ:Rf}{T:(Nat→VP)→Prop}{i:Nat}{pv:Nat→VP}{os:List Oper}{s:List (Nat×Option Nat)}{ss:List (List (Nat×Option Nat))}{d:Option Nat}{ty:TypeId}{pos:String}{af:Array Edge}
theorem GQ {t e:TypeId}{sz:Nat} (ht:P.underlying t=some (.slice e)) (hte:di P e=some (sz,ag,by',zc)) (hJ:∀w1,J w1→base≤w1.heap.size)
  (k:DX P ops J ρ T (i+1) (ew pv i (Be base e sz)) os ss):DX P ops J ρ T i pv (⟨d,.buildSlice t 0 #[],ty,pos,af,none⟩::os) (s::ss):=
 aN (Be base e sz) Be.ext (fun ρ1 w1 hj' h=>by
  have hb:Below w1.heap.size w1 (w1.alloc (.cells #[] e)):=(Below.refl _ _).alloc (V8 _) _;refine eI rfl (w':=w1.alloc (.cells #[] e)) (v:=.slice (some ⟨w1.heap.size,0,none⟩) 0 0) ?_ ⟨hb,w1.heap.size,rfl,by simp,.inr ⟨w1.heap.size,0, #[],rfl,hJ w1 hj',heap_alloc_new w1 _,V8 _,by unfold maxLen;omega,by simp,by simp⟩⟩;have e0:Array.range 0= #[]:=rfl;simp [execOp,Instr.buildSlice,run_underlying ht,eZ hte,Instr.fill,newRow,e0]) k
theorem vA {g:Nat}{t ty e:TypeId}{sz:Nat} (ht:P.underlying t=some (.slice e)) (hte:di P e=some (sz,ag,by',zc)) (hzl:zc.length=sz) (hsz:0<sz)
  (hown:w.ownsRow base e sz (.slice (some ⟨g,0,none⟩) 0 0) 0 []) {B:Option Addr} (hsl:Sl w B m sz news) (h1:∀u∈news,u.oneCell'=true)
  (h63:m≤maxLen) (hbytes:m*by'≤140737488355328) (hbase:base≤w.heap.size):
  ∃A' c2 w',(Builtin.append_ #[t,t] ty #[.slice (some ⟨g,0,none⟩) 0 0,.slice B m c']).run P w=.ok (.slice A' m c2) w'∧w'.ownsRow base e sz (.slice A' m c2) m news∧Below w.heap.size w w':=by
 obtain ⟨i,z,dd,hi,hd,hz,hs,hby,hzc,_⟩:=dV hte
 rcases XP m with h0|h0
 ·subst h0;have hnews:news=[]:=Xt (by simpa using hsl.1);subst hnews;refine ⟨_,_,w, ?_,hown,Below.refl _ _⟩;exact Tl
 ·obtain ⟨ad,rfl,hr⟩:=hsl.2 h0;have hsrc:Src P i.size t (.slice (some ad) m c') m news w:=Src.ofSlice w ht ad m c' news (by rw [hs];exact hsl.1) hr h1;have hfit:Builtin.nextslicecap (0+m) 0*i.bytes≤281474976710656:=growslice_fits VX (by rw [hby,Wr];exact hbytes);have hb63:((0+m:Nat):Int)≤9223372036854775807:=by unfold maxLen at h63;omega
  have hone:∀base2:Option Addr,(Builtin.firstCells i.size 0 (.slice base2 0 0)).run P w.drew=.ok ([]:List Value).toArray w.drew:=fun base2=>by
   exact TG
  have hA:=run_append_grow_src w t t ty e i z ht hi hz (some ⟨g,0,none⟩) 0 0 [] (hone _) _ m news hsrc VX hb63 hfit;have hB:=run_append_grow_src w t t ty e i z ht hi hz none 0 0 [] (hone _) _ m news hsrc VX hb63 hfit;obtain ⟨A',c2,w',r1,r2,r3,_⟩:=lj (P:=P) (w:=w) base t ty e sz by' ag zc ht hte hzl hsz none 0 0 [] (World.ownsRow_nil w base e sz) (some ad) m c' news ⟨hsl.1,fun _=>⟨ad,rfl,hr⟩⟩ h1 VX (by rw [Wr];exact hbytes) hbase;rw [hB,←hA] at r1;rw [Wr] at r1 r2;rw [V9] at r2;exact ⟨A',c2,w',r1,r2,r3.os,r3.tape,r3.output,r3.size,fun k hk=>r3.block k hk (by simp)⟩
theorem DC {t e:TypeId}{x y:Operand}{sz:Nat} (hx:∀ρ1 w1,J w1→de (pv) ρ ρ1 w1 s→Be base e sz (ev ρ1 x) w1) (hy:∀ρ1 w1,J w1→de (pv) ρ ρ1 w1 s→∃B c',ev ρ1 y=.slice B m c'∧Sl w1 B m sz news)
  (ht:P.underlying t=some (.slice e)) (hte:di P e=some (sz,ag,by',zc)) (hzl:zc.length=sz) (hsz:0<sz) (h1:news.all Value.oneCell'=true) (h63:m≤maxLen) (hbytes:m*by'≤140737488355328) (hJ:∀w1,J w1→base≤w1.heap.size)
  (k:DX P ops J ρ T (i+1) (ew pv i (pV base e m sz news)) os ss):DX P ops J ρ T i pv (⟨d,.call ⟨.builtin .append, #[x,y], #[t,t]⟩,ty,pos,af,none⟩::os) (s::ss):=
 aN (pV base e m sz news) pV.ext (fun ρ1 w1 hj' h=>by
  obtain ⟨g,e1,ho⟩:=hx ρ1 w1 hj' h;obtain ⟨B,c',e2,hsl⟩:=hy ρ1 w1 hj' h;obtain ⟨A',c2,w',r1,r2,r3⟩:=vA (P:=P) (ty:=ty) (c':=c') ht hte hzl hsz ho hsl (fun u hu=>Ww.1 h1 u hu) h63 hbytes (hJ w1 hj');refine eI rfl (w':=w') (v:=.slice A' m c2) ?_ ⟨r3,A',c2,rfl,r2⟩;simp only [execOp,resolve,invoke,builtin,Sem.run_bind,Sem.run_pure,Result.andThen_ok,YK,Wv,WV,e1,e2,r1]) k
end
section
variable {D:List Deferred}
section
variable {P:Program}{N:Nat}{Q:Kq}{ρ:Rf}{w:World}
structure VK (D:List Deferred) (N:Nat) (ops:Array Oper) (m μ:Nat) (ρ:Rf) (J:Bool→World→Prop) (V:Nat→Value→World→Prop) (L:Array Bool) (a:Act) (w:World):Prop where
 nd:a.defers=D
 sz:a.tmps.size=N
 j:J (L.getD μ false) w
 ls:L.size=ops.size
 cl:rh ops L
 tl:∀k,m≤k→L.getD k false=false
 vs:∀i d,i<m→L.getD i false=true→(ops[i]?).bind (·.dst)=some d→V i (a.tmps.getD d undef) w
 LB:∀s,(∀i,i<m→L.getD i false=true→(ops[i]?).bind (·.dst)≠some s)→a.tmps.getD s undef=ρ s
end
def U9 (V:Nat→VP):List Nat→Prop
 |[]=>True
 |i::r=>(∀v w w',V i v w→V i v w')∧U9 V r
structure JC (w0:World) (H:List HE) (W:World):Prop where
 hp:Hp w0 H W
end
variable {args:Array Operand}{ft t':TypeId}{fz:Nat×Nat}{o off:Nat}{r:Bool}{vs:List Value}
section
variable {P:Program}{ops:Array Oper}{J:World→Prop}{ρ:Rf}{T:(Nat→VP)→Prop}{i:Nat}{pv:Nat→VP}{os:List Oper}{s:List (Nat×Option Nat)}{ss:List (List (Nat×Option Nat))}{d:Option Nat}{ty:TypeId}{pos:String}{af:Array Edge}{x y:Operand}{t u:TypeId}
theorem cM {k:IntKind}{a:Int} (kk:DX P ops J ρ T (i+1) (ew pv i (Is (.int k a))) os ss) (hx:∀ρ1 w1,J w1→de pv ρ ρ1 w1 s→ev ρ1 x=.int k a:=by intro ρ1 w1 hj hR;first|exact hR.1|exact hR.2.1|exact hR.2.2.1|exact rfl):DX P ops J ρ T i pv (⟨d,.move x,ty,pos,af,none⟩::os) (s::ss):=bm (fun ρ1 w1 hj h=>fh (hx ρ1 w1 hj h)) kk
theorem jV {a:Bool} (kk:DX P ops J ρ T (i+1) (ew pv i (Is (.bool a))) os ss) (hx:∀ρ1 w1,J w1→de pv ρ ρ1 w1 s→ev ρ1 x=.bool a:=by intro ρ1 w1 hj hR;first|exact hR.1|exact hR.2.1|exact hR.2.2.1|exact rfl):DX P ops J ρ T i pv (⟨d,.move x,ty,pos,af,none⟩::os) (s::ss):=bm (fun ρ1 w1 hj h=>fh (hx ρ1 w1 hj h)) kk
theorem T5 {a:ByteArray} (kk:DX P ops J ρ T (i+1) (ew pv i (Is (.string a))) os ss) (hx:∀ρ1 w1,J w1→de pv ρ ρ1 w1 s→ev ρ1 x=.string a:=by intro ρ1 w1 hj hR;first|exact hR.1|exact hR.2.1|exact hR.2.2.1|exact rfl):DX P ops J ρ T i pv (⟨d,.move x,ty,pos,af,none⟩::os) (s::ss):=bm (fun ρ1 w1 hj h=>fh (hx ρ1 w1 hj h)) kk
theorem UC {a:ByteArray} (kk:DX P ops J ρ T (i+1) (ew pv i (Is (.string a))) os ss) (hx:∀ρ1 w1,J w1→de pv ρ ρ1 w1 s→ev ρ1 x=.string a:=by intro ρ1 w1 hj hR;first|exact hR.1|exact hR.2.1|exact hR.2.2.1|exact rfl):DX P ops J ρ T i pv (⟨d,.assign x,ty,pos,af,none⟩::os) (s::ss):=bm (fun ρ1 w1 hj h=>Cs (hx ρ1 w1 hj h)) kk
theorem dI {A:Option Addr} (kk:DX P ops J ρ T (i+1) (ew pv i (Is (.slice A n c))) os ss) (hx:∀ρ1 w1,J w1→de pv ρ ρ1 w1 s→ev ρ1 x=.slice A n c:=by intro ρ1 w1 hj hR;first|exact hR.1|exact hR.2.1|exact hR.2.2.1|exact rfl):DX P ops J ρ T i pv (⟨d,.move x,ty,pos,af,none⟩::os) (s::ss):=bm (fun ρ1 w1 hj h=>fh (hx ρ1 w1 hj h)) kk
theorem T1 {l:List Value} (kk:DX P ops J ρ T (i+1) (ew pv i (Is (.tuple l.toArray))) os ss) (hx:∀ρ1 w1,J w1→de pv ρ ρ1 w1 s→ev ρ1 x=.tuple l.toArray:=by intro ρ1 w1 hj hR;first|exact hR.1|exact hR.2.1|exact hR.2.2.1|exact rfl):DX P ops J ρ T i pv (⟨d,.move x,ty,pos,af,none⟩::os) (s::ss):=bm (fun ρ1 w1 hj h=>fh (hx ρ1 w1 hj h)) kk
theorem M8 {f:Fn}{l r:List Value} (kk:DX P ops J ρ T (i+1) (ew pv i (Is (.func f l.toArray r.toArray))) os ss) (hx:∀ρ1 w1,J w1→de pv ρ ρ1 w1 s→ev ρ1 x=.func f l.toArray r.toArray:=by intro ρ1 w1 hj hR;first|exact hR.1|exact hR.2.1|exact hR.2.2.1|exact rfl):DX P ops J ρ T i pv (⟨d,.move x,ty,pos,af,none⟩::os) (s::ss):=bm (fun ρ1 w1 hj h=>fh (hx ρ1 w1 hj h)) kk
theorem cP {c:TypeId}{f:Nat} [hf:fB P c f off ft] (kk:DX P ops J ρ T (i+1) (ew pv i (Is (.pointer (some ⟨b,o+off,none⟩)))) os ss) (hx:∀ρ1 w1,J w1→de pv ρ ρ1 w1 s→ev ρ1 x=.pointer (some ⟨b,o,none⟩):=by intro ρ1 w1 hj hR;first|exact hR.1|exact hR.2.1|exact hR.2.2.1|exact rfl):DX P ops J ρ T i pv (⟨d,.fieldAddr c x f,ty,pos,af,none⟩::os) (s::ss):=bm (fun ρ1 w1 hj h=>rR hf.out (hx ρ1 w1 hj h)) kk
theorem nJ {c:TypeId}{f:Nat} [hf:fB P c f off ft] (kk:DX P ops J ρ T (i+1) (ew pv i (Is (.pointer (some (ad.add off))))) os ss) (hx:∀ρ1 w1,J w1→de pv ρ ρ1 w1 s→ev ρ1 x=.pointer (some ad):=by intro ρ1 w1 hj hR;first|exact hR.1|exact hR.2.1|exact hR.2.2.1|exact rfl):DX P ops J ρ T i pv (⟨d,.fieldAddr c x f,ty,pos,af,none⟩::os) (s::ss):=bm (fun ρ1 w1 hj h=>ql hf.out (hx ρ1 w1 hj h)) kk
theorem mO {v:Value} (hc:∀w1,J w1→w1.cell? ad=some v) [ht:aO P t n false by' zc] (kk:DX P ops J ρ T (i+1) (ew pv i (Is (v))) os ss) (hx:∀ρ1 w1,J w1→de pv ρ ρ1 w1 s→ev ρ1 x=.pointer (some ad):=by intro ρ1 w1 hj hR;first|exact hR.1|exact hR.2.1|exact hR.2.2.1|exact rfl):DX P ops J ρ T i pv (⟨d,.load t x,ty,pos,af,none⟩::os) (s::ss):=bm (fun ρ1 w1 hj h=>ij ht.out (hx ρ1 w1 hj h) (hc w1 hj)) kk
theorem mJ (vs:List Value) (hc:∀w1,J w1→Rd w1 ad vs) [ht:aO P t n true by' zc] (kk:DX P ops J ρ T (i+1) (ew pv i (Is (.agg vs.toArray))) os ss) (hx:∀ρ1 w1,J w1→de pv ρ ρ1 w1 s→ev ρ1 x=.pointer (some ad):=by intro ρ1 w1 hj hR;first|exact hR.1|exact hR.2.1|exact hR.2.2.1|exact rfl) (hl:vs.length=n:=by exact rfl):DX P ops J ρ T i pv (⟨d,.load t x,ty,pos,af,none⟩::os) (s::ss):=bm (fun ρ1 w1 hj h=>Dk ht.out (hx ρ1 w1 hj h) (hc w1 hj) hl) kk
theorem dL {H:List HE}{v:Value} (j:Nat) [ht:aO P t n false by' zc] (kk:DX P ops (JJ w0 H w) ρ T (i+1) (ew pv i (Is (v))) os ss) (hx:∀ρ1 w1,JJ w0 H w w1→de pv ρ ρ1 w1 s→ev ρ1 x=.pointer (some ⟨b,o,none⟩):=by intro ρ1 w1 hj hR;first|exact hR.1|exact hR.2.1|exact hR.2.2.1|exact rfl) (hi:H[j]?=some (.blk b t' cs fz):=by exact rfl) (hv:cs[o]?=some v:=by exact rfl):DX P ops (JJ w0 H w) ρ T i pv (⟨d,.load t x,ty,pos,af,none⟩::os) (s::ss):=bm (fun ρ1 w1 hj h=>ij ht.out (hx ρ1 w1 hj h) (hj.hp.eC hi hv)) kk
theorem ee {H:List HE} (j:Nat) (vs:List Value) [ht:aO P t n true by' zc] (kk:DX P ops (JJ w0 H w) ρ T (i+1) (ew pv i (Is (.agg vs.toArray))) os ss) (hx:∀ρ1 w1,JJ w0 H w w1→de pv ρ ρ1 w1 s→ev ρ1 x=.pointer (some ⟨b,o,none⟩):=by intro ρ1 w1 hj hR;first|exact hR.1|exact hR.2.1|exact hR.2.2.1|exact rfl) (hi:H[j]?=some (.blk b t' cs fz):=by exact rfl) (hv:(cs.drop o).take n=vs:=by exact rfl) (hl:vs.length=n:=by exact rfl):DX P ops (JJ w0 H w) ρ T i pv (⟨d,.load t x,ty,pos,af,none⟩::os) (s::ss):=bm (fun ρ1 w1 hj h=>Dk ht.out (hx ρ1 w1 hj h) (hj.hp.bZ hi hv) hl) kk
theorem rE {e:TypeId}{B:Option Addr} [ht:bj P t (.slice e)] (kk:DX P ops J ρ T (i+1) (ew pv i (Is (.int .i64 n))) os ss) (hx:∀ρ1 w1,J w1→de pv ρ ρ1 w1 s→ev ρ1 x=.slice B n c:=by intro ρ1 w1 hj hR;first|exact hR.1|exact hR.2.1|exact hR.2.2.1|exact rfl):DX P ops J ρ T i pv (⟨d,.call ⟨.builtin .len, #[x], #[t]⟩,ty,pos,af,none⟩::os) (s::ss):=bm (fun ρ1 w1 hj h=>BD ht.out (hx ρ1 w1 hj h)) kk
theorem y3 {k:IntKind}{a b:Int} (kk:DX P ops J ρ T (i+1) (ew pv i (Is (.bool r))) os ss) (hx:∀ρ1 w1,J w1→de pv ρ ρ1 w1 s→ev ρ1 x=.int k a:=by intro ρ1 w1 hj hR;first|exact hR.1|exact hR.2.1|exact hR.2.2.1|exact rfl) (hy:∀ρ1 w1,J w1→de pv ρ ρ1 w1 s→ev ρ1 y=.int k b:=by intro ρ1 w1 hj hR;first|exact hR.1|exact hR.2.1|exact hR.2.2.1|exact rfl) (hr:decide (a<b)=r:=by first|exact Wm VX|exact Wu VX|exact rfl):DX P ops J ρ T i pv (⟨d,.binOp .lss t x y u,ty,pos,af,none⟩::os) (s::ss):=bm (fun ρ1 w1 hj h=>by rw [←hr];exact Fw (hx ρ1 w1 hj h) (hy ρ1 w1 hj h)) kk
theorem Hg {k:IntKind}{a b:Int} (kk:DX P ops J ρ T (i+1) (ew pv i (Is (.bool r))) os ss) (hx:∀ρ1 w1,J w1→de pv ρ ρ1 w1 s→ev ρ1 x=.int k a:=by intro ρ1 w1 hj hR;first|exact hR.1|exact hR.2.1|exact hR.2.2.1|exact rfl) (hy:∀ρ1 w1,J w1→de pv ρ ρ1 w1 s→ev ρ1 y=.int k b:=by intro ρ1 w1 hj hR;first|exact hR.1|exact hR.2.1|exact hR.2.2.1|exact rfl) (hr:decide (b<a)=r:=by first|exact Wm VX|exact Wu VX|exact rfl):DX P ops J ρ T i pv (⟨d,.binOp .gtr t x y u,ty,pos,af,none⟩::os) (s::ss):=bm (fun ρ1 w1 hj h=>by rw [←hr];exact Gq (hx ρ1 w1 hj h) (hy ρ1 w1 hj h)) kk
theorem sy {k:IntKind}{a b:Int} (kk:DX P ops J ρ T (i+1) (ew pv i (Is (.bool r))) os ss) (hx:∀ρ1 w1,J w1→de pv ρ ρ1 w1 s→ev ρ1 x=.int k a:=by intro ρ1 w1 hj hR;first|exact hR.1|exact hR.2.1|exact hR.2.2.1|exact rfl) (hy:∀ρ1 w1,J w1→de pv ρ ρ1 w1 s→ev ρ1 y=.int k b:=by intro ρ1 w1 hj hR;first|exact hR.1|exact hR.2.1|exact hR.2.2.1|exact rfl) (hr:decide (a=b)=r:=by first|exact Wm VX|exact Wu VX|exact rfl):DX P ops J ρ T i pv (⟨d,.binOp .eql t x y u,ty,pos,af,none⟩::os) (s::ss):=bm (fun ρ1 w1 hj h=>by rw [←hr];exact Gh (hx ρ1 w1 hj h) (hy ρ1 w1 hj h)) kk
theorem qG {a b:Int} (kk:DX P ops J ρ T (i+1) (ew pv i (Is (.int .i64 (a+b)))) os ss) (hx:∀ρ1 w1,J w1→de pv ρ ρ1 w1 s→ev ρ1 x=.int .i64 a:=by intro ρ1 w1 hj hR;first|exact hR.1|exact hR.2.1|exact hR.2.2.1|exact rfl) (hy:∀ρ1 w1,J w1→de pv ρ ρ1 w1 s→ev ρ1 y=.int .i64 b:=by intro ρ1 w1 hj hR;first|exact hR.1|exact hR.2.1|exact hR.2.2.1|exact rfl) (h1: -9223372036854775808≤a+b:=by omega) (h2:a+b≤9223372036854775807:=by omega):DX P ops J ρ T i pv (⟨d,.binOp .add t x y u,ty,pos,af,none⟩::os) (s::ss):=bm (fun ρ1 w1 hj h=>Ld (hx ρ1 w1 hj h) (hy ρ1 w1 hj h) h1 h2) kk
theorem pE {a b:Int} (kk:DX P ops J ρ T (i+1) (ew pv i (Is (.int .i64 (a-b)))) os ss) (hx:∀ρ1 w1,J w1→de pv ρ ρ1 w1 s→ev ρ1 x=.int .i64 a:=by intro ρ1 w1 hj hR;first|exact hR.1|exact hR.2.1|exact hR.2.2.1|exact rfl) (hy:∀ρ1 w1,J w1→de pv ρ ρ1 w1 s→ev ρ1 y=.int .i64 b:=by intro ρ1 w1 hj hR;first|exact hR.1|exact hR.2.1|exact hR.2.2.1|exact rfl) (h1: -9223372036854775808≤a-b:=by omega) (h2:a-b≤9223372036854775807:=by omega):DX P ops J ρ T i pv (⟨d,.binOp .sub t x y u,ty,pos,af,none⟩::os) (s::ss):=bm (fun ρ1 w1 hj h=>KQ (hx ρ1 w1 hj h) (hy ρ1 w1 hj h) h1 h2) kk
theorem Tr {a b:Int} (kk:DX P ops J ρ T (i+1) (ew pv i (Is (.int .i64 (a*b)))) os ss) (hx:∀ρ1 w1,J w1→de pv ρ ρ1 w1 s→ev ρ1 x=.int .i64 a:=by intro ρ1 w1 hj hR;first|exact hR.1|exact hR.2.1|exact hR.2.2.1|exact rfl) (hy:∀ρ1 w1,J w1→de pv ρ ρ1 w1 s→ev ρ1 y=.int .i64 b:=by intro ρ1 w1 hj hR;first|exact hR.1|exact hR.2.1|exact hR.2.2.1|exact rfl) (h1: -9223372036854775808≤a*b:=by omega) (h2:a*b≤9223372036854775807:=by omega):DX P ops J ρ T i pv (⟨d,.binOp .mul t x y u,ty,pos,af,none⟩::os) (s::ss):=bm (fun ρ1 w1 hj h=>J0 (hx ρ1 w1 hj h) (hy ρ1 w1 hj h) h1 h2) kk
theorem vM {b:Bool} (kk:DX P ops J ρ T (i+1) (ew pv i (Is (.bool !b))) os ss) (hx:∀ρ1 w1,J w1→de pv ρ ρ1 w1 s→ev ρ1 x=.bool b:=by intro ρ1 w1 hj hR;first|exact hR.1|exact hR.2.1|exact hR.2.2.1|exact rfl):DX P ops J ρ T i pv (⟨d,.unOp .not t x,ty,pos,af,none⟩::os) (s::ss):=bm (fun ρ1 w1 hj h=>Ox (hx ρ1 w1 hj h)) kk
theorem LU {v:Value} (kk:DX P ops J ρ T (i+1) (ew pv i (Is (v))) os ss) (hx:∀ρ1 w1,J w1→de pv ρ ρ1 w1 s→ev ρ1 x=.tuple vs.toArray:=by intro ρ1 w1 hj hR;first|exact hR.1|exact hR.2.1|exact hR.2.2.1|exact rfl) (hv:vs[j]?=some v:=by exact rfl):DX P ops J ρ T i pv (⟨d,.extract x j,ty,pos,af,none⟩::os) (s::ss):=bm (fun ρ1 w1 hj h=>fT (hx ρ1 w1 hj h) hv) kk
theorem Gj {c a b:Operand}{v:Bool} (kk:DX P ops J ρ T (i+1) (ew pv i (Is (.bool v))) os ss) (hc:∀ρ1 w1,J w1→de pv ρ ρ1 w1 s→ev ρ1 c=.bool true:=by intro ρ1 w1 hj hR;first|exact hR.1|exact hR.2.1|exact hR.2.2.1|exact rfl) (hx:∀ρ1 w1,J w1→de pv ρ ρ1 w1 s→ev ρ1 a=.bool v:=by intro ρ1 w1 hj hR;first|exact hR.1|exact hR.2.1|exact hR.2.2.1|exact rfl):DX P ops J ρ T i pv (⟨d,.pick c a b,ty,pos,af,none⟩::os) (s::ss):=bm (fun ρ1 w1 hj h=>Cb (hc ρ1 w1 hj h) (hx ρ1 w1 hj h)) kk
theorem H9 {c a b:Operand}{v:Bool} (kk:DX P ops J ρ T (i+1) (ew pv i (Is (.bool v))) os ss) (hc:∀ρ1 w1,J w1→de pv ρ ρ1 w1 s→ev ρ1 c=.bool false:=by intro ρ1 w1 hj hR;first|exact hR.1|exact hR.2.1|exact hR.2.2.1|exact rfl) (hx:∀ρ1 w1,J w1→de pv ρ ρ1 w1 s→ev ρ1 b=.bool v:=by intro ρ1 w1 hj hR;first|exact hR.1|exact hR.2.1|exact hR.2.2.1|exact rfl):DX P ops J ρ T i pv (⟨d,.pick c a b,ty,pos,af,none⟩::os) (s::ss):=bm (fun ρ1 w1 hj h=>zI (hc ρ1 w1 hj h) (hx ρ1 w1 hj h)) kk
theorem FG {e:TypeId}{sz:Nat}{q:IntKind}{m:Int} (k:Nat) [ht:bj P t (.slice e)] [hs:TS P e sz] (kk:DX P ops J ρ T (i+1) (ew pv i (Is (.pointer (some ⟨b,k*sz,none⟩)))) os ss) (hx:∀ρ1 w1,J w1→de pv ρ ρ1 w1 s→ev ρ1 x=.slice (some ⟨b,0,none⟩) n c:=by intro ρ1 w1 hj hR;first|exact hR.1|exact hR.2.1|exact hR.2.2.1|exact rfl) (hy:∀ρ1 w1,J w1→de pv ρ ρ1 w1 s→ev ρ1 y=.int q m:=by intro ρ1 w1 hj hR;first|exact hR.1|exact hR.2.1|exact hR.2.2.1|exact rfl) (hm:m=(k:Int):=by omega) (h1:k<n:=by omega):DX P ops J ρ T i pv (⟨d,.indexAddr t x y,ty,pos,af,none⟩::os) (s::ss):=bm (fun ρ1 w1 hj h=>mA ht.out hs.out (hx ρ1 w1 hj h) (hy ρ1 w1 hj h) hm h1) kk
theorem iL {e:TypeId}{sz:Nat}{q:IntKind}{m:Int} (k:Nat) [ht:bj P t (.slice e)] [hs:TS P e sz] (kk:DX P ops J ρ T (i+1) (ew pv i (Is (.pointer (some (ad.add (k*sz)))))) os ss) (hx:∀ρ1 w1,J w1→de pv ρ ρ1 w1 s→ev ρ1 x=.slice (some ad) n c:=by intro ρ1 w1 hj hR;first|exact hR.1|exact hR.2.1|exact hR.2.2.1|exact rfl) (hy:∀ρ1 w1,J w1→de pv ρ ρ1 w1 s→ev ρ1 y=.int q m:=by intro ρ1 w1 hj hR;first|exact hR.1|exact hR.2.1|exact hR.2.2.1|exact rfl) (hm:m=(k:Int):=by omega) (h1:k<n:=by omega):DX P ops J ρ T i pv (⟨d,.indexAddr t x y,ty,pos,af,none⟩::os) (s::ss):=bm (fun ρ1 w1 hj h=>iE ht.out hs.out (hx ρ1 w1 hj h) (hy ρ1 w1 hj h) hm h1) kk
theorem dC {f:FuncId}{ts:Array TypeId}{v:Value} (hc:∀w1,J w1→Calls P f vs.toArray w1 fun e w'=>e=.returned v∧Below w1.heap.size w1 w') [hf:ar P f] (kk:DX P ops J ρ T (i+1) (ew pv i (Is (v))) os ss) (ha:∀ρ1 w1,J w1→de pv ρ ρ1 w1 s→xq ρ1 args.toList=vs:=by intro ρ1 w1 hj hR;repeat (first|exact a6|(apply av;first|exact hR.1|exact hR.2.1|exact hR.2.2.1|exact hR.2.2.2.1|exact rfl))):DX P ops J ρ T i pv (⟨d,.call ⟨.value (.func f),args,ts⟩,ty,pos,af,none⟩::os) (s::ss):=NN (fun ρ1 w1 hj h=>aP hf.out (ha ρ1 w1 hj h)) hc kk
theorem dB {pl:List (Nat×Nat)} (cs:List Value) [hte:aO P t n true by' zc] [hpl:lv P t pl] (kk:DX P ops J ρ T (i+1) (ew pv i (Is (.agg cs.toArray))) os ss) (hp:∀ρ1 w1,J w1→de pv ρ ρ1 w1 s→wq ρ1 parts.toList=ps:=by intro ρ1 w1 hj hR;repeat (first|exact ct|(apply aX;first|exact hR.1|exact hR.2.1|exact hR.2.2.1|exact hR.2.2.2.1|exact rfl))) (hf:k7 (pl[·]?) zc ps=some cs:=by exact rfl):DX P ops J ρ T i pv (⟨d,.build t parts,ty,pos,af,none⟩::os) (s::ss):=bm (fun ρ1 w1 hj h=>sJ hte.out hpl.out (hp ρ1 w1 hj h) hf) kk
theorem oB {e:TypeId}{len sz:Nat} (cs:List Value) [ht:bj P t (.slice e)] [hte:aO P e sz ag by' zc] (kk:DX P ops J ρ T (i+1) (ew pv i (Rows len sz cs)) os ss) (hp:∀ρ1 w1,J w1→de pv ρ ρ1 w1 s→wq ρ1 parts.toList=ps:=by intro ρ1 w1 hj hR;repeat (first|exact ct|(apply aX;first|exact hR.1|exact hR.2.1|exact hR.2.2.1|exact hR.2.2.2.1|exact rfl))) (hzl:zc.length=sz:=by exact rfl) (hf:k7 (fun i=>some (i*sz,sz)) (fa len zc) ps=some cs:=by exact rfl) (h0:¬len*sz=0:=by decide) (hsl:len*sz≤16777216:=by decide) (hl:cs.length=len*sz:=by exact rfl):DX P ops J ρ T i pv (⟨d,.buildSlice t len parts,ty,pos,af,none⟩::os) (s::ss):=vK ht.out hte.out hp hzl hf h0 hsl hl kk
theorem dS {b c:Bool}{op:Op} (kk:DX P ops J ρ T (i+1) (ew pv i (Is (undef))) os ss) (hj:(ops[j]?).bind (·.dst)=some dj:=by exact rfl) (hv:∀ρ1 w1,J w1→de pv ρ ρ1 w1 s→ρ1 dj=.bool c:=by intro ρ1 w1 hj hR;first|exact hR.1|exact hR.2.1|exact hR.2.2.1|exact hR.2.2.2.1) (hb:c≠b:=by decide):DX P ops J ρ T i pv (⟨d,op,ty,pos,af,some (j,b)⟩::os) (s::ss):=nP hj hv hb kk
theorem dU {b:Bool}{op:Op} (kk:DX P ops J ρ T (i+1) (ew pv i (Is (undef))) os ss) (hj:(ops[j]?).bind (·.dst)=some dj:=by exact rfl) (hv:∀ρ1 w1,J w1→de pv ρ ρ1 w1 s→ρ1 dj=undef:=by intro ρ1 w1 hj hR;first|exact hR.1|exact hR.2.1|exact hR.2.2.1|exact hR.2.2.2.1):DX P ops J ρ T i pv (⟨d,op,ty,pos,af,some (j,b)⟩::os) (s::ss):=zY hj hv kk
theorem dG {b:Bool}{op:Op} (kk:DX P ops J ρ T i pv (⟨d,op,ty,pos,af,none⟩::os) (s::ss)) (hj:(ops[j]?).bind (·.dst)=some dj:=by exact rfl) (hv:∀ρ1 w1,J w1→de pv ρ ρ1 w1 s→ρ1 dj=.bool b:=by intro ρ1 w1 hj hR;first|exact hR.1|exact hR.2.1|exact hR.2.2.1|exact hR.2.2.2.1):DX P ops J ρ T i pv (⟨d,op,ty,pos,af,some (j,b)⟩::os) (s::ss):=let ⟨V,h1,h2,h3⟩:=kk;⟨V,h1,fun ρ1 w1 hj1 h=>bz hj (hv ρ1 w1 hj1 h) (h2 ρ1 w1 hj1 h),h3⟩
end
variable {cy:Nat}
section
variable {ro:Mode}
section
variable {P:Program}{N:Nat}{ops:Array Oper}{Q:Kq}{ρ:Rf}{w w0:World}{rest:List Oper}{H:List HE}{d:Nat}{ty:TypeId}{pos:String}{af:Array Edge}
theorem MZ (hh:Hp w0 H w) {t s e:TypeId}{x y:Operand}{i dl dc sz:Nat}{B:Option Addr} (hi:H[i]?=some (.row (some ⟨b,0,none⟩) m c e sz xs)) (hx:ev ρ x=.slice (some ⟨b,o,none⟩) dl dc) (hy:ev ρ y=.slice B n cy)
  (hsl:Sl w B n sz news) (ht:P.underlying t=some (.slice e)) (hte:di P e=some (sz,ag,by',zc)) (ho:o+min n dl*sz≤xs.length) (h1:(news.all Value.oneCell')=true) (hN:d<N)
  (kk:∀w',Hp w0 (H.set i (.row (some ⟨b,0,none⟩) m c e sz (cz xs o (news.take (min n dl*sz))))) w'→WL ro P N ops Q rest (cL ρ d (.int .i64 ((min n dl:Nat):Int))) w'):
  WL ro P N ops Q (⟨some d,.call ⟨.builtin .copy, #[x,y], #[t,s]⟩,ty,pos,af,none⟩::rest) ρ w:=by
 obtain ⟨inf,z,dd,hti,hd,hz,hsz,hby,hzc,_⟩:=dV hte;have hrow:=hh.at_ hi;obtain ⟨hlen,h2⟩:=hrow;have hnl:=hsl.1;have hmin:min n dl*sz≤n*sz:=Xi _ (Nat.min_le_left _ _);have hvl:(news.take (min n dl*sz)).length=min n dl*sz:=by rw [Wp];omega
 have h1':∀v∈news.take (min n dl*sz),v.oneCell'=true:=fun v hv=>Ww.1 h1 v (X1 hv);have hcells:(Builtin.firstCells sz (min n dl) (.slice B n cy)).run P w=.ok (news.take (min n dl*sz)).toArray w:=by
  cases B with
  |none=>
   have h0:n=0:=by
    rcases XP n with h0|h0
    ·exact h0
    ·obtain ⟨ad,h1,_⟩:=hsl.2 h0;cases h1
   subst h0;simp [Builtin.firstCells]
  |some ad=>
   have hrd:∀j u,(news.take (min n dl*sz))[j]?=some u→w.cell? (ad.add j)=some u:=by
    intro j u hj;rw [XL] at hj;split at hj
    ·rcases XP n with h0|h0
     ·subst h0;have:news=[]:=Xt (by simpa using hnl);simp [this] at hj
     ·obtain ⟨ad',he,hr'⟩:=hsl.2 h0;injection he with he
      subst he;exact hr' j u hj
    ·cases hj
   have:=run_loadCells_list (P:=P) w ad _ hrd;rw [hvl] at this;simpa [Builtin.firstCells] using this
 generalize news.take (min n dl*sz)=vs at hvl h1' hcells kk;rw [←hvl] at ho
 rcases h2 with ⟨h2,_⟩|⟨g,cap,cur,hv,hg,hheap,hmc,hcm,hcur,htake⟩
 ·injection h2 with h2;cases h2
 ·injection hv with hA hn hcap
  injection hA with hA
  injection hA with hA
  subst hA;subst hcap;have hcl:cur.size=cur.toList.length:=by simp
  have hle:m*sz≤c*sz:=Xi _ hmc;obtain ⟨w',hr,hb',hgr,hs⟩:=fV (P:=P) (b:=b) (t:=e) (fz:=(0,0)) o vs 0 cur.toList w (by simpa using hheap) (.inr (V8 _)) (by rw [←hcl];omega) h1';refine aV rfl rfl hN (w':=w') (v:=.int .i64 ((min n dl:Nat):Int)) ?_ (kk w' (hh.grown hi hgr (.inl rfl) ⟨by rw [fj VX];exact hlen,.inr ⟨b,c,(cz cur.toList o vs).toArray,rfl,hg,by simpa using hb',hmc,hcm, ?_, ?_⟩⟩))
  ·have hmm:Nat.min n dl=min n dl:=rfl;simp only [execOp,resolve,invoke,hx,hy,YK,Wv,WV];simp [builtin,Builtin.copy_,run_underlying ht,Builtin.lenOf,sizeOf,typeInfo,hti,hsz,hmm,hcells,hr,goInt]
  ·simp only [Yl];rw [fj (by rw [←hcl];omega),←hcl,hcur]
  ·exact SJ
end
end
def bJ (B:Nat):List Nat→Nat
 |[]=>0
 |d::l=>d+B*bJ B l
def bW (B:Nat):Nat→Nat→List Nat
 |0,_=>[]
 |k+1,n=>n % B::bW B k (n/B)
def dW:List Nat→List Nat
 |[]=>[]
 |d::l=>match dW l with
  |[]=>if d=0 then [] else [d]
  |e::m=>d::e::m
def a0 (B n:Nat):List Nat:=dW (bW B (n.log2+1) n)
def Dg (B:Nat) (l:List Nat):Prop:=∀d∈l,d<B
section
variable {B:Nat}
theorem Dg.nil:Dg B []:=fun _ h=>(nomatch h)
theorem Dg.cons {d:Nat}{l:List Nat} (h:d<B) (hl:Dg B l):Dg B (d::l):=fun x hx=>by
 rcases Wk.1 hx with rfl|hx
 ·exact h
 ·exact hl x hx
theorem Dg.head {d:Nat}{l:List Nat} (h:Dg B (d::l)):d<B:=h d We
theorem Dg.tail {d:Nat}{l:List Nat} (h:Dg B (d::l)):Dg B l:=fun x hx=>h x (Wg _ hx)
theorem Dg.append {l m:List Nat} (h:Dg B l) (h':Dg B m):Dg B (l++m):=fun x hx=>by
 rcases WI.1 hx with hx|hx
 ·exact h x hx
 ·exact h' x hx
theorem Dg.sub {l m:List Nat} (h:Dg B l) (h':m.Sublist l):Dg B m:=fun x hx=>h x (h'.subset hx)
theorem Dg.take {l:List Nat} (h:Dg B l) (n:Nat):Dg B (l.take n):=h.sub (List.take_sublist n l)
theorem Dg.drop {l:List Nat} (h:Dg B l) (n:Nat):Dg B (l.drop n):=h.sub (List.drop_sublist n l)
theorem Dg.at_ {l:List Nat} (h:Dg B l) {i d:Nat} (hi:l[i]?=some d):d<B:=h d (V7 hi)
theorem Dg.MO {l:List Nat} (h:Dg B l) (i:Nat) {d:Nat} (hd:d<B):Dg B (l.set i d):=fun x hx=>by
 rcases List.mem_or_eq_of_mem_set hx with hx|rfl
 ·exact h x hx
 ·exact hd
theorem Dg.gC (hB:0<B) (n:Nat):Dg B (List.replicate n 0):=fun x hx=>by rw [List.eq_of_mem_replicate hx];exact hB
theorem fi (l m:List Nat):bJ B (l++m)=bJ B l+B^l.length*bJ B m:=by
 induction l with
 |nil=>simp [bJ]
 |cons d l ih=>simp only [Wb,bJ,ih,Wx,WY];rw [W0,Nat.add_assoc];congr 2;rw [←W6,WB B]
theorem ja {l:List Nat} (h:Dg B l):bJ B l<B^l.length:=by
 induction l with
 |nil=>simp [bJ]
 |cons d l ih=>
  have h1:=ih h.tail;have h2:=h.head;simp only [bJ,Wx,WY]
  calc d+B*bJ B l<B+B*bJ B l:=by omega
   _=B*(bJ B l+1):=by rw [W0,Wo,XY]
   _≤B*B^l.length:=WS _ h1
   _=B^l.length*B:=WB _ _
theorem rk (n:Nat):bJ B (List.replicate n 0)=0:=by
 induction n with
 |zero=>rfl
 |succ n ih=>simp [Yi,bJ,ih]
theorem aZ (k n:Nat):(bW B k n).length=k:=by
 induction k generalizing n with
 |zero=>rfl
 |succ k ih=>simp [bW,ih]
theorem fm (hB:0<B) (k n:Nat):Dg B (bW B k n):=by
 induction k generalizing n with
 |zero=>exact Dg.nil
 |succ k ih=>exact Dg.cons (Wy _ hB) (ih _)
theorem JX (k n:Nat):bJ B (bW B k n)=n % B^k:=by
 induction k generalizing n with
 |zero=>simp [bW,bJ,Nat.mod_one]
 |succ k ih=>rw [bW,bJ,ih,WY,WB (B^k),Nat.mod_mul]
theorem cN (h:n<B^k):bJ B (bW B k n)=n:=by rw [JX,WU h]
theorem uS {l:List Nat} (h:Dg B l):bW B l.length (bJ B l)=l:=by
 induction l with
 |nil=>rfl
 |cons d l ih=>
  have hd:=h.head;simp only [Wx,bW,bJ];rw [Yh,WU hd,XC _ _ VX,Xg hd,Wr,ih h.tail]
theorem ya {l m:List Nat} (hl:Dg B l) (hm:Dg B m) (hlen:l.length=m.length) (h:bJ B l=bJ B m):l=m:=by
 rw [←uS hl,←uS hm,hlen,h]
theorem iX (k n i:Nat) (h:i<k):(bW B k n)[i]?=some (n/B^i % B):=by
 induction k generalizing n i with
 |zero=>omega
 |succ k ih=>
  cases i with
  |zero=>simp [bW]
  |succ i=>simp only [bW,YB];rw [ih _ _ VX,XQ,WY,WB B]
theorem sK {l:List Nat} (h:Dg B l) {i d:Nat} (hi:l[i]?=some d):bJ B l/B^i % B=d:=by
 have h1:=iX (B:=B) l.length (bJ B l) i (Wi.1 hi).1;rw [uS h,hi] at h1;injection h1 with h1
 exact h1.symm
theorem uz {l:List Nat} (h:Dg B l) {i:Nat} (hi:l.length≤i) (hB:0<B):bJ B l/B^i=0:=
 Xg (Xa (ja h) (WM hB hi))
theorem jB (l:List Nat) (i:Nat) (h:i≤l.length):bJ B l=bJ B (l.take i)+B^i*bJ B (l.drop i):=by
 have:=fi (B:=B) (l.take i) (l.drop i);rw [W4,List.length_take_of_le h] at this;exact this
theorem lF (l:List Nat):bJ B (dW l)=bJ B l:=by
 induction l with
 |nil=>rfl
 |cons d l ih=>
  simp only [dW,bJ];split
  ·rename_i h;rw [h] at ih;simp only [bJ] at ih;split
   ·rename_i h0;rw [h0,←ih];simp [bJ]
   ·rw [←ih];simp [bJ]
  ·rename_i e m h;rw [h] at ih;rw [←ih];rfl
theorem km (l:List Nat):dW l=l.take (dW l).length:=by
 induction l with
 |nil=>rfl
 |cons d l ih=>
  simp only [dW];split
  ·split
   ·rfl
   ·simp
  ·rename_i e m h;rw [h] at ih;simp only [Wx,List.take_succ_cons] at ih ⊢;rw [←ih]
theorem fO (l:List Nat):(dW l).length≤l.length:=by
 have:=W8 List.length (km l);rw [Wp] at this;omega
theorem wV (l:List Nat):(dW l).getLast?≠some 0:=by
 induction l with
 |nil=>simp [dW]
 |cons d l ih=>
  simp only [dW];split
  ·split
   ·simp
   ·simpa
  ·rename_i e m h;rw [h] at ih;rwa [List.getLast?_cons_cons]
theorem Dg.cut {l:List Nat} (h:Dg B l):Dg B (dW l):=by rw [km];exact h.take _
theorem HJ {l:List Nat} (h:l.getLast?≠some 0):dW l=l:=by
 induction l with
 |nil=>rfl
 |cons d l ih=>
  cases l with
  |nil=>simp only [dW];rw [V3];intro h0;subst h0;simp at h
  |cons e m=>
   rw [List.getLast?_cons_cons] at h;rw [dW,ih h]
theorem tg (l:List Nat):dW (l++[0])=dW l:=by
 induction l with
 |nil=>simp [dW]
 |cons d l ih=>simp only [Wb,dW,ih]
theorem wX {l:List Nat}{d:Nat} (h:d≠0):dW (l++[d])=l++[d]:=HJ (by simpa using h)
def Can (B:Nat) (l:List Nat):Prop:=Dg B l∧l.getLast?≠some 0
theorem Can.cut {l:List Nat} (h:Dg B l):Can B (dW l):=⟨h.cut,wV l⟩
theorem KO {l:List Nat} (h:l.getLast?≠some 0) (hn:l≠[]):B^(l.length-1)≤bJ B l:=by
 have h1:=List.dropLast_concat_getLast hn;have h2:l.getLast hn≠0:=by
  intro h0;apply h;rw [List.getLast?_eq_some_getLast hn,h0]
 rw [←h1,fi];simp only [Wc,List.length_dropLast,Wx,YS];have:l.length-1+(0+1)-1=l.length-1:=VX;rw [this];simp only [bJ,Nat.mul_zero,XT];exact Wz (Zn _ (Nat.pos_of_ne_zero h2)) (Nat.le_add_left _ _)
theorem Can.vr {l m:List Nat} (hl:Can B l) (hm:Can B m) (hB:1<B) (h:bJ B l≤bJ B m):l.length≤m.length:=by
 rcases WX m.length l.length with hlt|hge
 ·exfalso;have hn:l≠[]:=by intro h0;simp [h0] at hlt
  have h1:=KO (B:=B) hl.2 hn;have h2:=ja hm.1;have h3:B^m.length≤B^(l.length-1):=WM VX VX;exact Nat.lt_irrefl _ (Xa h2 (Wz h3 (Wz h1 h)))
 ·exact hge
theorem Can.inj {l m:List Nat} (hl:Can B l) (hm:Can B m) (hB:1<B) (h:bJ B l=bJ B m):l=m:=
 ya hl.1 hm.1 (Nat.le_antisymm (hl.vr hm hB (Nat.le_of_eq h)) (hm.vr hl hB (Nat.le_of_eq h.symm))) h
theorem eb (hB:0<B) (n:Nat):Can B (a0 B n):=Can.cut (fm hB _ _)
theorem zX (hB:1<B) (n:Nat):n<B^(n.log2+1):=by
 have h1:n<2^(n.log2+1):=Nat.lt_log2_self;exact Xa h1 (Nat.pow_le_pow_left hB _)
theorem ea (hB:1<B) (n:Nat):bJ B (a0 B n)=n:=by
 rw [a0,lF,cN (zX hB n)]
theorem Ag (hB:1<B) {l:List Nat} (h:Can B l):a0 B (bJ B l)=l:=
 (eb VX _).inj h hB (ea hB _)
theorem iB (hB:1<B) {l:List Nat} (h:Dg B l):dW l=a0 B (bJ B l):=by
 rw [←lF,Ag hB (Can.cut h)]
theorem gG (hB:1<B):a0 B 0=[]:=(eb VX 0).inj ⟨Dg.nil,by simp⟩ hB (by rw [ea hB];rfl)
theorem uo (hB:1<B):a0 B n=[]↔n=0:=by
 constructor
 ·intro h;have:=ea hB n;rw [h] at this;exact this.symm
 ·intro h;rw [h,gG hB]
theorem iF (hB:1<B) (h:n<B^k):(a0 B n).length≤k:=by
 have h1:dW (bW B k n)=a0 B n:=by rw [iB hB (fm VX _ _),cN h]
 have:=fO (bW B k n);rw [h1,aZ] at this;exact this
theorem qQ (hB:1<B) (n:Nat):n<B^(a0 B n).length:=by
 have:=ja (eb (B:=B) VX n).1;rwa [ea hB] at this
theorem oK (hB:1<B) {a:Nat} (h:a≤b):(a0 B a).length≤(a0 B b).length:=
 (eb VX a).vr (eb VX b) hB (by rw [ea hB,ea hB];exact h)
theorem BA (hB:1<B) {i:Nat} (h:i<(a0 B n).length):(a0 B n)[i]?=some (n/B^i % B):=by
 have h1:=Xp h;rw [h1];have h2:=sK (eb (B:=B) VX n).1 h1;rw [ea hB] at h2;rw [h2]
theorem Hx (hB:1<B) (h:n≠0):a0 B n=n % B::a0 B (n/B):=by
 refine (eb VX n).inj ⟨Dg.cons (Wy _ VX) (eb VX _).1, ?_⟩ hB ?_
 ·cases hd:a0 B (n/B) with
  |nil=>
   rw [uo hB] at hd;have:n=n % B:=by have:=XH n B;rw [hd] at this;simpa using this.symm
   simp only [List.getLast?_singleton];intro h0;injection h0 with h0;omega
  |cons e m=>
   rw [List.getLast?_cons_cons,←hd];exact (eb VX _).2
 ·rw [ea hB,bJ,ea hB];have:=XH n B;omega
theorem JF (hB:1<B) (h:n<B^k):bW B k n=a0 B n++List.replicate (k-(a0 B n).length) 0:=by
 have hl:=iF hB h;refine ya (B:=B) (fm VX _ _) ((eb VX _).1.append (Dg.gC VX _)) ?_ ?_
 ·rw [aZ,Wc,Xo];omega
 ·rw [cN h,fi,ea hB,rk];simp
end
section
variable {B:Nat}
def zG:List Nat→Nat
 |[]=>0
 |d::_=>d
theorem JL (ys:List Nat):bJ B ys=zG ys+B*bJ B ys.tail:=by cases ys<;>simp [bJ,zG]
theorem Ru {ys:List Nat} (h:Dg B ys) (hB:0<B):zG ys<B:=by
 cases ys with
 |nil=>exact hB
 |cons d l=>exact h.head
theorem Dg.tl {ys:List Nat} (h:Dg B ys):Dg B ys.tail:=by
 cases ys with
 |nil=>exact h
 |cons d l=>exact h.tail
theorem ug (ys:List Nat) (i:Nat):zG (ys.drop i)=(ys[i]?).getD 0:=by
 induction ys generalizing i with
 |nil=>simp [zG]
 |cons d l ih=>cases i with
  |zero=>rfl
  |succ i=>simpa using ih i
theorem tail_drop (ys:List Nat) (i:Nat):(ys.drop i).tail=ys.drop (i+1):=by
 induction ys generalizing i with
 |nil=>simp
 |cons d l ih=>cases i with
  |zero=>rfl
  |succ i=>simp
theorem zU {B a:Nat} (hB:0<B) (h:a+B*b<B*n):b+a/B<n:=by
 have h1:(a+B*b)/B<n:=by rw [Xv hB,WB n];exact h
 rw [XC _ _ hB] at h1;omega
def iC (B:Nat):List Nat→List Nat→Nat→Nat→List Nat
 |[],_,_,_=>[]
 |x::xs,ys,m,c=>(x+zG ys*m+c) % B::iC B xs ys.tail m ((x+zG ys*m+c)/B)
theorem pX (xs ys:List Nat) (m c:Nat):(iC B xs ys m c).length=xs.length:=by
 induction xs generalizing ys c with
 |nil=>rfl
 |cons x xs ih=>simp [iC,ih]
theorem Bk (hB:0<B) (xs ys:List Nat) (m c:Nat):Dg B (iC B xs ys m c):=by
 exact Pn
theorem wm (hB:0<B) (xs ys:List Nat) (m c:Nat) (h:bJ B xs+bJ B ys*m+c<B^xs.length):bJ B (iC B xs ys m c)=bJ B xs+bJ B ys*m+c:=by
 induction xs generalizing ys c with
 |nil=>simp only [YS,YF,bJ] at h;simp only [iC,bJ];omega
 |cons x xs ih=>
  have e:bJ B (x::xs)+bJ B ys*m+c=(x+zG ys*m+c)+B*(bJ B xs+bJ B ys.tail*m):=by
   rw [bJ,JL ys,Ya,W0,W6];omega
  rw [Wx,WY,WB _ B,e] at h;have h1:=zU hB h;simp only [iC,bJ];rw [ih _ _ h1,←bJ,e,W0];have:=YJ (x+zG ys*m+c) B;omega
def sA (B:Nat):List Nat→List Nat→Nat→List Nat
 |[],_,_=>[]
 |x::xs,ys,b=>(x+B-zG ys-b) % B::sA B xs ys.tail (if x<zG ys+b then 1 else 0)
def Al (B:Nat):List Nat→List Nat→Nat→Nat
 |[],_,b=>b
 |x::xs,ys,b=>Al B xs ys.tail (if x<zG ys+b then 1 else 0)
theorem M4 (hB:0<B) (xs ys:List Nat) (c:Nat):Dg B (sA B xs ys c):=by
 exact Pn
theorem Kz (hB:0<B) (xs ys:List Nat) (b:Nat) (hx:Dg B xs) (hy:Dg B ys) (hb:b≤1) (h:bJ B ys+b≤bJ B xs):bJ B (sA B xs ys b)+bJ B ys+b=bJ B xs∧Al B xs ys b=0:=by
 induction xs generalizing ys b with
 |nil=>simp only [bJ] at h;simp only [sA,Al,bJ];omega
 |cons x xs ih=>
  have hx0:=hx.head;have hy0:=Ru hy hB;have e:=JL (B:=B) ys;simp only [bJ,sA,Al] at h ⊢;by_cases hlt:x<zG ys+b
  ·rw [V2 hlt];have h1:bJ B ys.tail+1≤bJ B xs:=by
    refine YR fun hle=> ?_;have:=WS B hle;omega
   obtain ⟨i1,i2⟩:=ih ys.tail 1 hx.tail hy.tl VX h1;refine ⟨?_,i2⟩;have h2:=W8 (B* ·) i1;simp only [W0] at h2;rw [WU VX];omega
  ·rw [V3 hlt];have h1:bJ B ys.tail+0≤bJ B xs:=by
    refine Nat.le_of_not_lt fun hle=> ?_;have:=WS B (Nat.succ_le_of_lt hle);simp only [XI,XT] at this;omega
   obtain ⟨i1,i2⟩:=ih ys.tail 0 hx.tail hy.tl VX h1;refine ⟨?_,i2⟩;have h2:=W8 (B* ·) i1;simp only [W0,XT] at h2;have h3:x+B-zG ys-b=(x-zG ys-b)+B:=VX;rw [h3,Nat.add_mod_right,WU VX];omega
theorem Mh (xs:List Nat) (i d:Nat) (hi:xs[i]?=some o):bJ B (xs.set i d)+B^i*o=bJ B xs+B^i*d:=by
 induction xs generalizing i with
 |nil=>simp at hi
 |cons x xs ih=>
  cases i with
  |zero=>simp only [YN,XO] at hi;subst hi;simp only [Wd,bJ,YF,X5];omega
  |succ i=>
   have:=W8 (B* ·) (ih i hi);simp only [W0,←W6] at this;simp only [WH,bJ,WY,WB _ B];omega
theorem Es {l m:List Nat}{x y:Nat} (hl:Dg B l) (hlen:l.length=m.length) (h:x<y):bJ B (l++[x])<bJ B (m++[y]):=by
 rw [fi,fi,hlen];have h1:=ja hl;rw [hlen] at h1;have h2:B^m.length*(x+1)≤B^m.length*y:=WS _ h;simp only [bJ,Nat.mul_zero,XT,XI] at h2 ⊢;omega
def lB (a b:Nat):Int:=if a<b then -1 else if b<a then 1 else 0
theorem ma {a:Nat} (h:a<b):lB a b= -1:=by simp [lB,h]
theorem yC {a:Nat} (h:b<a):lB a b=1:=by simp only [lB];rw [V3 VX,V2 h]
theorem Fj {a:Nat} (h:a=b):lB a b=0:=by simp only [lB];rw [V3 VX,V3 VX]
theorem wC {xs ys:List Nat}{x y:Nat} (hx:Dg B xs) (hxk:xs[k]?=some x) (hyk:ys[k]?=some y) (hd:xs.drop (k+1)=ys.drop (k+1)) (hlt:x<y):bJ B xs<bJ B ys:=by
 have lx:=(Wi.1 hxk).1;have ly:=(Wi.1 hyk).1;rw [jB xs (k+1) lx,jB ys (k+1) ly,hd];have e1:xs.take (k+1)=xs.take k++[x]:=by rw [List.take_add_one,hxk];rfl
 have e2:ys.take (k+1)=ys.take k++[y]:=by rw [List.take_add_one,hyk];rfl
 have:=Es (B:=B) (m:=ys.take k) (hx.take k) (by rw [Wp,Wp];omega) hlt;rw [e1,e2];omega
theorem zv {xs ys:List Nat}{x y:Nat} (hxk:xs[k]?=some x) (hyk:ys[k]?=some y) (hd:xs.drop (k+1)=ys.drop (k+1)) (h:x=y):xs.drop k=ys.drop k:=by
 obtain ⟨lx,ex⟩:=Wi.1 hxk;obtain ⟨ly,ey⟩:=Wi.1 hyk;rw [Xl lx,Xl ly,hd,ex,ey,h]
end
section
variable {B:Nat}
theorem p5 {v:Nat} (hB:0<B) (hj:j<k) (hn:n+B^j*v<B^k) (hv:n/B^j % B+v<B):(bW B k n).set j (n/B^j % B+v)=bW B k (n+B^j*v):=by
 refine ya (B:=B) ((fm hB _ _).MO _ hv) (fm hB _ _) (by rw [YU,aZ,aZ]) ?_;have h1:=Mh (B:=B) (bW B k n) j (n/B^j % B+v) (iX k n j hj);rw [cN VX] at h1;rw [cN hn];rw [W0] at h1;omega
theorem rH (k:Nat):bW B k 0=List.replicate k 0:=by
 induction k with
 |zero=>rfl
 |succ k ih=>simp [bW,ih,Yi]
def Cf (s:List UInt8):List Nat:=(s.map UInt8.toNat).reverse
def bn (s:List UInt8):Nat:=bJ 256 (Cf s)
def sb (n:Nat):List UInt8:=((a0 256 n).map UInt8.ofNat).reverse
theorem pk (s:List UInt8):(Cf s).length=s.length:=by simp [Cf]
theorem yP (s:List UInt8):Dg 256 (Cf s):=fun d hd=>by
 obtain ⟨c,_,rfl⟩:=Wn.1 (YE.1 hd);exact c.toNat_lt
theorem PH (s:List UInt8):bn s<256^s.length:=by have:=ja (yP s);rwa [pk] at this
theorem I6 {s:List UInt8}{i:Nat}{c:UInt8} (hi:i<s.length) (h:s[s.length-1-i]?=some c):(Cf s)[i]?=some c.toNat:=by
 unfold Cf;rw [XE (by simpa using hi),Wh,Wf,h];rfl
theorem Jg (n:Nat):Cf (sb n)=a0 256 n:=by
 unfold Cf sb;rw [List.map_reverse,YD,W5];have:∀l:List Nat,Dg 256 l→l.map (UInt8.toNat ∘ UInt8.ofNat)=l:=by
  intro l
  induction l with
  |nil=>intro _;rfl
  |cons d l ih=>
   intro h;have hd:=h.head;simp only [Wv,ih h.tail,Function.comp];congr 1;simp only [Y9];omega
 exact this _ (eb VX n).1
theorem TA (n:Nat):bn (sb n)=n:=by rw [bn,Jg,ea VX]
theorem Hc (n:Nat):(sb n).length=(a0 256 n).length:=by simp [sb]
theorem Ni {s t:List UInt8} (h:Cf s=Cf t):s=t:=by
 have h1:=List.reverse_inj.1 h;exact (List.map_inj_right fun a b h=>YP.1 h).1 h1
theorem Tm {s:List UInt8} (h:Cf s=a0 256 n):s=sb n:=Ni (by rw [h,Jg])
theorem MX:sb 0=[]:=by rw [sb,gG VX];rfl
theorem KD (s:List UInt8):bn (0::s)=bn s:=by
 unfold bn Cf;rw [Wv,Y6,fi];simp [bJ]
theorem Ty {s:List UInt8} (h:s.head?≠some 0):sb (bn s)=s:=by
 refine (Tm ?_).symm;rw [bn,Ag VX ⟨yP s, ?_⟩];unfold Cf;rw [List.getLast?_reverse,List.head?_map]
 cases s with
 |nil=>simp
 |cons c s=>
  simp only [List.head?_cons,XJ];intro h0;injection h0 with h0
  apply h;simp only [List.head?_cons];congr 1;exact YP.1 (by simpa using h0)
end
def bO (n:Nat):Nat:=(a0 2 n).length
theorem lU:bO 0=0:=by rw [bO,gG VX];rfl
theorem dk (n:Nat):n<2^bO n:=qQ VX n
theorem dO (h:n<2^k):bO n≤k:=iF VX h
theorem Fz (h:n≠0):2^(bO n-1)≤n:=by
 have h1:=KO (B:=2) (eb (B:=2) VX n).2 (fun h0=>h ((uo VX).1 h0));rwa [ea VX] at h1
theorem pM (h:n≠0):0<bO n:=by
 rw [bO];have:a0 2 n≠[]:=fun h0=>h ((uo VX).1 h0);exact Za.2 this
theorem EJ (h1:n<2^k) (h2:2^(k-1)≤n):bO n=k:=by
 have h3:=dO h1
 rcases WX (bO n) k with h|h
 ·have h4:=dk n;have h5:2^bO n≤2^(k-1):=WM VX VX;omega
 ·omega
theorem KM {B:Nat} (hB:B=2^b) {l:List Nat}{d:Nat} (hl:Dg B l) (hlen:l.length=m) (hd:d≠0):bO (bJ B (l++[d]))=b*m+bO d:=by
 have hlt:=ja hl;rw [hlen] at hlt;have hp:B^m=2^(b*m):=by rw [hB,←WW]
 rw [fi,hlen];simp only [bJ,Nat.mul_zero,XT];rw [hp] at hlt ⊢;apply EJ
 ·have h1:=dk d;have h2:2^(b*m)*(d+1)≤2^(b*m)*2^bO d:=WS _ h1;rw [Ws];rw [XI] at h2;omega
 ·have h1:=Fz hd;have h2:=pM hd;have e:b*m+bO d-1=b*m+(bO d-1):=VX;rw [e,Ws];have h3:2^(b*m)*2^(bO d-1)≤2^(b*m)*d:=WS _ h1;omega
theorem D7 {a s:Nat} (h:a<2^s):a|||(c*2^s)=a+c*2^s:=by
 have h1:=Nat.shiftLeft_add_eq_or_of_lt h c;rw [Nat.shiftLeft_eq] at h1;rw [Nat.or_comm,←h1,XY]
theorem Mq {i:Nat} (n:Nat) (hn:n<256^i) (hc:c<256) (hi:i/8<k):
  n/18446744073709551616^(i/8) % 18446744073709551616<2^(i % 8*8)∧c*2^(i % 8*8)<18446744073709551616∧
  (bW 18446744073709551616 k n).set (i/8) (n/18446744073709551616^(i/8) % 18446744073709551616+c*2^(i % 8*8))=bW 18446744073709551616 k (n+256^i*c):=by
 have hW:(18446744073709551616:Nat)=2^64:=by decide
 have h256:(256:Nat)=2^8:=by decide
 have hp:256^i=18446744073709551616^(i/8)*2^(i % 8*8):=by
  rw [hW,h256,←WW,←WW,←Ws];congr 1;omega
 have h1:n/18446744073709551616^(i/8)<2^(i % 8*8):=by
  rw [Xv (WJ VY),WB,←hp];exact hn
 have hs:2^(i % 8*8)*256≤18446744073709551616:=by
  rw [h256,hW,←Ws];exact WM VX VX
 have h2:n/18446744073709551616^(i/8) % 18446744073709551616<2^(i % 8*8):=Xb (Nat.mod_le _ _) h1;have h3:(c+1)*2^(i % 8*8)≤256*2^(i % 8*8):=Xi _ hc;rw [Xj] at h3;have hpos:0<2^(i % 8*8):=WJ VX;refine ⟨h2,VX, ?_⟩;have h4:256^i*c=18446744073709551616^(i/8)*(c*2^(i % 8*8)):=by rw [hp,W6,WB c]
 rw [h4];refine p5 VY hi ?_ VX;rw [←h4];have h5:256^i*(c+1)≤256^i*256:=WS _ hc;have h6:256^i*256≤18446744073709551616^k:=by
  have:256^i*256=2^(8*(i+1)):=by rw [h256,←WW,←Ws];congr 1
  rw [this,hW,←WW];exact WM VX VX
 rw [XI] at h5;omega
theorem HI (n i:Nat):n/18446744073709551616^(i/8) % 18446744073709551616/2^(i % 8*8) % 256=n/256^i % 256:=by
 have hW:(18446744073709551616:Nat)=2^64:=by decide
 have h256:(256:Nat)=2^8:=by decide
 have hp:256^i=18446744073709551616^(i/8)*2^(i % 8*8):=by
  rw [hW,h256,←WW,←WW,←Ws];congr 1;omega
 rw [hp,←XQ];generalize n/18446744073709551616^(i/8)=m;have e:(18446744073709551616:Nat)=2^(i % 8*8)*2^(64-i % 8*8):=by rw [←Ws,hW];congr 1;omega
 rw [e,Nat.mod_mul_right_div_self];have e2:2^(64-i % 8*8)=256*2^(56-i % 8*8):=by rw [h256,←Ws];congr 1;omega
 rw [e2,Nat.mod_mul_right_mod]
theorem wA (n j s:Nat) (hs:s<64) (h0:0<s):
  (n/18446744073709551616^j % 18446744073709551616/2^s)<2^(64-s)∧
  n/18446744073709551616^j % 18446744073709551616/2^s+n/18446744073709551616^(j+1) % 2^s*2^(64-s)=n/2^(64*j+s) % 18446744073709551616:=by
 have hW:(18446744073709551616:Nat)=2^64:=by decide
 have e:(18446744073709551616:Nat)=2^s*2^(64-s):=by rw [←Ws,hW];congr 1;omega
 have hp:(18446744073709551616:Nat)^(j+1)=18446744073709551616^j*18446744073709551616:=WY ..;rw [hp,←XQ,Ws,WW,←hW,←XQ];generalize n/18446744073709551616^j=m;have e1:m % 18446744073709551616/2^s=m/2^s % 2^(64-s):=by rw [e,Nat.mod_mul_right_div_self]
 rw [e1];refine ⟨Wy _ (WJ VX), ?_⟩;have e2:m/18446744073709551616=m/2^s/2^(64-s):=by rw [e,←XQ]
 rw [e2];generalize m/2^s=q;have e3:(18446744073709551616:Nat)=2^(64-s)*2^s:=by rw [WB];exact e
 rw [e3,Nat.mod_mul,WB (2^(64-s))]
theorem Qo {d s:Nat} (hd:d<18446744073709551616) (hs:s≤64):d*2^s % 18446744073709551616+d/2^(64-s)*18446744073709551616=d*2^s∧d/2^(64-s)<2^s:=by
 have hW:(18446744073709551616:Nat)=2^64:=by decide
 have e:(18446744073709551616:Nat)=2^(64-s)*2^s:=by rw [←Ws,hW];congr 1;omega
 have h1:d*2^s/18446744073709551616=d/2^(64-s):=by rw [e,Nat.mul_div_mul_right _ _ (WJ VX)]
 rw [←h1];constructor
 ·have:=YJ (d*2^s) 18446744073709551616;omega
 ·rw [h1,Xv (WJ VX),WB,←e];exact hd
def str (l:List UInt8):ByteArray:=⟨l.toArray⟩
theorem dT (l:List UInt8):(str l).data.toList=l:=by simp [str]
theorem u3 {a b:ByteArray} (h:a.data.toList=b.data.toList):a=b:=by
 cases a;cases b;congr 1;exact Array.ext' h
theorem R5 (s:ByteArray):str s.data.toList=s:=u3 (dT _)
theorem jb (l:List UInt8):(str l).size=l.length:=by simp [str,ByteArray.size]
theorem dD (s:ByteArray):s.size=s.data.toList.length:=(Array.length_toList).symm
theorem tK (a b:List UInt8):str a++str b=str (a++b):=by
 apply u3;simp [str]
def bC (l:List Int):List Value:=l.map (Value.int .i64)
theorem bV (l:List Int):(bC l).length=l.length:=by simp [bC]
theorem sv (a b:List Int):bC (a++b)=bC a++bC b:=by simp [bC]
theorem cw {l:List Int}{x:Int} (h:l[k]?=some x):(bC l)[k]?=some (.int .i64 x):=by simp [bC,h]
theorem Da (a b:List UInt8):lX (a++b)=lX a++lX b:=by simp [lX]
theorem a7 (l:List Int):((bC l).all Value.oneCell')=true:=by simp [bC,Value.oneCell']
def iq (l:List ByteArray):List Value:=l.map Value.string
theorem na (l:List ByteArray):(iq l).length=l.length:=by simp [iq]
theorem s7 {l:List ByteArray}{x:ByteArray} (h:l[k]?=some x):(iq l)[k]?=some (.string x):=by simp [iq,h]
theorem aw {l:List α}{x:α} (h:l[k]?=some x):l.take (k+1)=l.take k++[x]:=by rw [List.take_add_one,h];rfl
theorem ak {l:List α} (h:k<l.length):∃x,l[k]?=some x:=⟨_,Xp h⟩
def ef (l:List UInt8):Bool:=l.all fun c=>decide (c.toNat<128)
theorem Hq (l:List UInt8) (c:UInt8):ef (l++[c])=(ef l && decide (c.toNat<128)):=by simp [ef]
theorem Ba {l:List UInt8}{c:UInt8} (h:l[k]?=some c) (hc:¬c.toNat<128):ef l=false:=by
 rw [←W4 (k+1) l,aw h];simp only [ef,List.all_append];simp;omega
theorem oa {l:List UInt8} (h:ef l=true) {c:UInt8} (hc:l[k]?=some c):c.toNat<128:=by
 have:=Ww.1 h c (V7 hc);simpa using this
def cE (x:Int):Bool:=decide (0≤x) && decide (x≤127)
def pw (x:Int):UInt8:=UInt8.ofNat x.toNat
def H8 (xs:List Int):List UInt8:=if xs.all cE then xs.map pw else []
def LC (xs:List Int):Int:=if xs.all cE then 0 else 3
theorem RB {xs:List Int}{x:Int} (hx:xs[k]?=some x) (h:cE x=false):H8 xs=[]∧LC xs=3:=by
 have:xs.all cE=false:=by
  cases hc:xs.all cE with
  |false=>rfl
  |true=>rw [Ww.1 hc x (V7 hx)] at h;cases h
 simp [H8,LC,this]
theorem nF {xs:List Int} (h:xs.all cE=true):H8 xs=xs.map pw∧LC xs=0:=by simp [H8,LC,h]
theorem Cp {p:α→Bool}{l:List α}{x:α} (h:l[k]?=some x) (h1:(l.take k).all p=true) (h2:p x=true):(l.take (k+1)).all p=true:=by
 rw [aw h,List.all_append,h1];simp [h2]
theorem x8 {x:Int} (h:0≤x) (h2:x≤255):IntKind.u8.wrap x=x:=by
 have:IntKind.u8.wrap x=x % 256:=rfl;rw [this];omega
theorem n8 {x:Int} (h:cE x=true):Value.int .u8 x=.int .u8 (pw x).toNat:=by
 simp only [cE,Wl,Wt] at h;congr 1;simp only [pw,Y9];omega
theorem I8 {xs:List Int}{x:Int} (hx:xs[k]?=some x) (h:cE x=true):lX ((xs.take k).map pw)++[.int .u8 x]=lX ((xs.take (k+1)).map pw):=by
 rw [aw hx,WT,Da,n8 h];rfl
def ints (l:List UInt8):List Int:=l.map fun c=>(c.toNat:Int)
def iT (l:List UInt8):List Int:=if ef l then ints l else []
def Vi (l:List UInt8):Int:=(iT l).sum
theorem df (l:List UInt8):(ints l).length=l.length:=by simp [ints]
theorem ux {l:List UInt8}{c:UInt8} (h:l[k]?=some c):bC (ints (l.take k))++[.int .i64 c.toNat]=bC (ints (l.take (k+1))):=by
 rw [aw h];simp [bC,ints]
def lenOf:Value→Nat|.slice _ n _=>n|_=>0
theorem ko {l:List UInt8} (h:ef l=true):iT l=ints l:=by simp [iT,h]
theorem K6 {l:List UInt8} (h:ef l=false):iT l=[]:=by simp [iT,h]
theorem y4 {l:List UInt8}{c:UInt8} (h:l[k]?=some c):(ints l)[k]?=some (c.toNat:Int):=by simp [ints,h]
theorem Gw {l:List UInt8}{x:Int} (h:(iT l)[k]?=some x):0≤x∧x≤127:=by
 unfold iT at h;split at h
 ·rename_i hm;simp only [ints,Wf,Yk] at h;obtain ⟨c,hc,rfl⟩:=h;have:=oa hm hc;omega
 ·simp at h
def gQ (f:Int→Int→Int) (a b:List UInt8):Option (List Int):=
 if ef a && (ef b && decide ((b.length:Int)=a.length)) then some (List.zipWith f (ints a) (ints b)) else none
def mulL (a b:List UInt8):List UInt8×Int:=
 match gQ (· + ·) a b with|some l=>(H8 l,LC l)|none=>([],1)
def Vw (a b:List UInt8):List UInt8×Bool:=
 match gQ (· - ·) a b with|some l=>(H8 l,decide (LC l=0))|none=>([],false)
theorem C9 {f:Int→Int→Int}{a b:List Int}{x y:Int} (hx:a[k]?=some x) (hy:b[k]?=some y):(List.zipWith f a b)[k]?=some (f x y):=by
 simp [List.getElem?_zipWith,hx,hy]
def m8 (f:Int→Int→Int) (a b:List Int) (k:Nat):List Int:=(List.zipWith f a b).take k++b.drop k
theorem Lo (f:Int→Int→Int) (a b:List Int):m8 f a b 0=b:=by simp [m8]
theorem Mo {f:Int→Int→Int}{a b:List Int} (h:a.length=b.length) (hk:k≤b.length):(m8 f a b k).length=b.length:=by
 simp [m8,h];omega
theorem Rq {f:Int→Int→Int}{a b:List Int} (h:a.length=b.length) {y:Int} (hy:b[k]?=some y):(m8 f a b k)[k]?=some y:=by
 have hk:k<b.length:=(Wi.1 hy).1;unfold m8;rw [Xm (by simp [h];omega)];simp [h,Xd (Nat.le_of_lt hk),hy]
theorem MP {f:Int→Int→Int}{a b:List Int} (h:a.length=b.length) {x y:Int} (hx:a[k]?=some x) (hy:b[k]?=some y):
  cz (bC (m8 f a b k)) k [.int .i64 (f x y)]=bC (m8 f a b (k+1)):=by
 have hk:k<b.length:=(Wi.1 hy).1;have hl:((List.zipWith f a b).take k).length=k:=by simp [h];omega
 have e1:(m8 f a b k).take k=(List.zipWith f a b).take k:=by
  unfold m8;rw [Zp VX,Wa VX]
 have e2:(m8 f a b k).drop (k+1)=b.drop (k+1):=by
  unfold m8;rw [List.drop_append,hl,XB VX,show k+1-k=1 by omega,List.drop_drop];simp
 simp only [cz,bC,←YY,←YG,Wx,YS,Wr,e1,e2];unfold m8;rw [aw (C9 hx hy)];simp
theorem Jj {f:Int→Int→Int}{a b:List Int} (h:a.length=b.length):m8 f a b b.length=List.zipWith f a b:=by
 unfold m8;rw [Wa (by simp [h]),List.drop_length,WG]
theorem rT {l:List Int} (y:Int) (h:k<l.length):cz (bC l) (k*1) [.int .i64 y]=bC (l.set k y):=by
 rw [Wo,cV (by rw [bV];exact h)];unfold bC;rw [YI]
section
variable {P:Program}{N:Nat}{ops:Array Oper}{Q:Kq}{ρ:Rf}{w:World}{rest:List Oper}{d:Nat}{ty:TypeId}{pos:String}{af:Array Edge}
theorem kN {f:FuncId}{ts:Array TypeId}{v:Value} (hc:(callFunc f vs.toArray).run P w=.ok (.value v) w) (ha:xq ρ args.toList=vs) (hN:d<N) (kk:WL .plain P N ops Q rest (cL ρ d v) w):
  WL .plain P N ops Q (⟨some d,.call ⟨.value (.func f),args,ts⟩,ty,pos,af,none⟩::rest) ρ w:=by
 have hr:(execOp (ev ρ) ⟨some d,.call ⟨.value (.func f),args,ts⟩,ty,pos,af,none⟩).run P w=.ok (.value v) w:=by
  have hx:ev ρ (.func f)=.func (.func f) #[] #[]:=rfl;simp only [execOp,resolve,Deferred.ofValue,hx,invoke,oe args ha];simpa using hc
 exact aV rfl rfl hN hr kk
end
theorem ke (x y c:Nat) (hc:c≤1) (w:World):
  (callFunc 261 #[.int .u64 x,.int .u64 y,.int .u64 c]).run Tryz.prog w=
   .ok (.value (.tuple #[.int .u64 (((x+y+c) % 18446744073709551616:Nat):Int),.int .u64 (((x+y+c)/18446744073709551616:Nat):Int)])) w:=by
 rw [run_callFunc_extern Tryz.func261 VZ VZ VZ (e:=add64Entry) VZ,run_add64 x y c VX VX VX VX];simp only [Result.andThen];congr 5<;>omega
def K2:Array Value→Sem Value:=fun args=>do
 let (x,y,b) ←Extern.MathBitsCarry.three "Sub64" args
 pure (Extern.MathBitsCarry.pair ((x+Extern.MathBitsCarry.m64-y-b) % Extern.MathBitsCarry.m64) (if x<y+b then 1 else 0))
theorem CM (x y b:Nat) (hb:b≤1) (w:World):
  (K2 #[.int .u64 x,.int .u64 y,.int .u64 b]).run P w=
   .ok (.tuple #[.int .u64 (((x+18446744073709551616-y-b) % 18446744073709551616:Nat):Int),.int .u64 ((if x<y+b then 1 else 0:Nat):Int)]) w:=by
 have:b=0∨b=1:=VX
 rcases this with rfl|rfl<;>rfl
theorem wJ (x y b:Nat) (hb:b≤1) (w:World):
  (callFunc 262 #[.int .u64 x,.int .u64 y,.int .u64 b]).run Tryz.prog w=
   .ok (.value (.tuple #[.int .u64 (((x+18446744073709551616-y-b) % 18446744073709551616:Nat):Int),.int .u64 ((if x<y+b then 1 else 0:Nat):Int)])) w:=by
 rw [run_callFunc_extern Tryz.func262 VZ VZ VZ (e:=K2) VZ,CM x y b hb]
 rfl
theorem r8 (x y:Nat) (w:World) (hx:x<18446744073709551616) (hy:y<18446744073709551616):
  Calls Tryz.prog 267 #[.int .u64 (x:Int),.int .u64 (y:Int)] w fun e w'=>e=.returned (.tuple #[.int .u64 ((x*y/18446744073709551616:Nat):Int),.int .u64 ((x*y % 18446744073709551616:Nat):Int)])∧Below w.heap.size w w':=by
 refine aj (N:=51) (l:=[.int .u64 (x:Int),.int .u64 (y:Int)]) Tryz.func267 rfl rfl (by simp) ?_;refine sr (aI (aI (aa (sr (mI ?_)))));refine Ik ?_;refine aI (aa (sr (mI ?_)));refine wZ ?_;refine aI (aa (sr (mI ?_)));refine Ik ?_;refine aI (aa (sr (mI ?_)));refine wZ ?_;refine aI (aa (sr (mI (mI ?_))));refine rC rfl rfl VY ?_;refine aI (aa (sr (mI (mI ?_))));refine rC rfl rfl VY ?_;refine mI ?_;refine wZ ?_;refine jd rfl rfl VY ?_;refine aI (aa (sr (mI ?_)));refine Ik ?_;refine aI (aa (sr (mI ?_)));refine wZ ?_;refine aI (aa (sr (mI (mI (mI ?_)))));refine rC rfl rfl VY ?_;refine jd rfl rfl VY ?_;refine aI (aa (sr (mI (mI ?_))));refine rC rfl rfl VY ?_;refine mI ?_;refine jd rfl rfl VY ?_;refine mI ?_;refine wZ ?_;refine jd rfl rfl VY ?_;refine aI (aa (sr (mI (mI ?_))));refine rC rfl rfl VY ?_;refine aI (aa (au ?_));refine Gb ?_;obtain ⟨bd,bt,bw,hhi⟩:=Lib.mul64_hi x y hx hy;have ba:=Lib.half_mul_le (a:=x/4294967296) (b:=y/4294967296) VX VX;have bb:=Lib.half_mul_le (a:=x/4294967296) (b:=y % 4294967296) VX VX;have bc:=Lib.half_mul_le (a:=x % 4294967296) (b:=y/4294967296) VX VX
 have em:∀z:Nat,z &&& 4294967295=z % 4294967296:=fun z=>Nat.and_two_pow_sub_one_eq_mod z 32;simp only [em];have hb:x*y/18446744073709551616<18446744073709551616:=by
  rw [Xv VX];exact Nat.mul_lt_mul'' hx hy
 refine ⟨?_,Below.refl _ _⟩;congr 5;rw [WU bd,WU (show x/4294967296*(y % 4294967296)<18446744073709551616 by omega),WU bt,WU (show x % 4294967296*(y/4294967296)<18446744073709551616 by omega),WU bw,WU (show x/4294967296*(y/4294967296)<18446744073709551616 by omega)];have key:∀A T V:Nat,A+T+V<18446744073709551616→((A+T) % 18446744073709551616+V) % 18446744073709551616=A+T+V:=by intro A T V h;omega
 rw [←hhi] at hb ⊢;exact W8 Nat.cast (key _ _ _ hb)
theorem im {x:Nat} (hm:2^k=m) (h:m≤x):bO x=k+bO (x/m):=by
 subst hm;have h0:x/2^k≠0:=by
  have:=(Nat.div_pos_iff (a:=x) (b:=2^k)).2 ⟨WJ VX,h⟩;omega
 have h1:=dk (x/2^k);have h2:=Fz h0;have h3:=pM h0;have h4:=XH x (2^k);have h5:=Wy x (WJ (n:=k) (show 0<2 by omega));apply EJ
 ·rw [Ws];have:2^k*(x/2^k+1)≤2^k*2^bO (x/2^k):=WS _ h1;rw [XI] at this;omega
 ·have e:k+bO (x/2^k)-1=k+(bO (x/2^k)-1):=VX;rw [e,Ws];have:2^k*2^(bO (x/2^k)-1)≤2^k*(x/2^k):=WS _ h2;omega
theorem kY {T:ByteArray} (hT:T.data.toList=(List.range 256).map fun n=>UInt8.ofNat (bO n)) (h:n<256):∃c:UInt8,T.data.toList[n]?=some c∧c.toNat=bO n∧bO n≤8:=by
 have hb:bO n≤8:=dO VX;refine ⟨UInt8.ofNat (bO n), ?_, ?_,hb⟩
 ·rw [hT,Wf,Xc h];rfl
 ·rw [Y9];omega
theorem B7 (x:Nat) (w:World) (hx:x<18446744073709551616):
  Calls Tryz.prog 271 #[.int .u64 (x:Int)] w fun e w'=>e=.returned (.int .i64 (bO x))∧Below w.heap.size w w':=by
 refine aj (N:=25) (l:=[.int .u64 (x:Int)]) Tryz.func271 rfl rfl (by simp) ?_;by_cases h32:4294967296≤x
 ·have:=im (x:=x) (k:=32) (m:=4294967296) rfl h32;refine sr (aI (aa (ah (sr (mI ?_)))));refine dJ (aa (cT (sr (mI ?_))));refine wZ ?_;refine aI (aa (al (aI (aa (ah (sr (mI ?_)))))));by_cases h16:65536≤(x/4294967296)
  ·have:=im (x:=(x/4294967296)) (k:=16) (m:=65536) rfl h16;refine dJ (aa (cT (sr (mI ?_))));refine md (s:=16) (m:=65536) rfl rfl VY VY VY ?_;refine aI (aa (al (mI ?_)));refine a9 (aI (aa (ah (sr (mI ?_)))));by_cases h8:256≤((x/4294967296)/65536)
   ·have:=im (x:=((x/4294967296)/65536)) (k:=8) (m:=256) rfl h8;refine dJ (aa (cT (sr (mI ?_))));refine FA ?_;refine aI (aa (al (mI ?_)));refine a9 (aI (aa (sr (mI (mI ?_)))));refine mH ?_;obtain ⟨cc,hcc,hcv,hcb⟩:=kY (T:=_) VZ (n:=(((x/4294967296)/65536)/256)) VX;exact Cg
   ·refine Ff ?_;refine mH ?_;obtain ⟨cc,hcc,hcv,hcb⟩:=kY (T:=_) VZ (n:=(((x/4294967296)/65536))) VX;exact Cg
  ·refine dJ (aa (cF (ao (ai (ah (sr (mI ?_)))))));by_cases h8:256≤((x/4294967296))
   ·have:=im (x:=((x/4294967296))) (k:=8) (m:=256) rfl h8;refine dJ (aa (cT (sr (mI ?_))));refine FA ?_;refine aI (aa (al (mI ?_)));refine a9 (aI (aa (sr (mI (mI ?_)))));refine mH ?_;obtain ⟨cc,hcc,hcv,hcb⟩:=kY (T:=_) VZ (n:=(((x/4294967296))/256)) VX;exact Cg
   ·refine Ff ?_;refine mH ?_;obtain ⟨cc,hcc,hcv,hcb⟩:=kY (T:=_) VZ (n:=(((x/4294967296)))) VX;exact Cg
 ·refine sr (aI (aa (ah (sr (mI ?_)))));refine dJ (aa (cF (ao (ai (ah (sr (mI ?_)))))));by_cases h16:65536≤(x)
  ·have:=im (x:=(x)) (k:=16) (m:=65536) rfl h16;refine dJ (aa (cT (sr (mI ?_))));refine md (s:=16) (m:=65536) rfl rfl VY VY VY ?_;refine aI (aa (al (mI ?_)));refine a9 (aI (aa (ah (sr (mI ?_)))));by_cases h8:256≤((x)/65536)
   ·have:=im (x:=((x)/65536)) (k:=8) (m:=256) rfl h8;refine dJ (aa (cT (sr (mI ?_))));refine FA ?_;refine aI (aa (al (mI ?_)));refine a9 (aI (aa (sr (mI (mI ?_)))));refine mH ?_;obtain ⟨cc,hcc,hcv,hcb⟩:=kY (T:=_) VZ (n:=(((x)/65536)/256)) VX;exact Cg
   ·refine Ff ?_;refine mH ?_;obtain ⟨cc,hcc,hcv,hcb⟩:=kY (T:=_) VZ (n:=(((x)/65536))) VX;exact Cg
  ·refine dJ (aa (cF (ao (ai (ah (sr (mI ?_)))))));by_cases h8:256≤((x))
   ·have:=im (x:=((x))) (k:=8) (m:=256) rfl h8;refine dJ (aa (cT (sr (mI ?_))));refine FA ?_;refine aI (aa (al (mI ?_)));refine a9 (aI (aa (sr (mI (mI ?_)))));refine mH ?_;obtain ⟨cc,hcc,hcv,hcb⟩:=kY (T:=_) VZ (n:=(((x))/256)) VX;exact Cg
   ·refine Ff ?_;refine mH ?_;obtain ⟨cc,hcc,hcv,hcb⟩:=kY (T:=_) VZ (n:=(((x)))) VX;exact Cg
theorem CT (x:Nat) (w:World) (hx:x<18446744073709551616):
  Calls Tryz.prog 260 #[.int .u64 (x:Int)] w fun e w'=>e=.returned (.int .i64 (64-(bO x:Int)))∧Below w.heap.size w w':=by
 have hh:=Hp.start w;have hb:bO x≤64:=dO (by simpa using hx);refine aj (N:=6) (l:=[.int .u64 (x:Int)]) Tryz.func260 rfl rfl (by simp) ?_;refine sr (aI (aa (sr (mI ?_))));refine br hh (B7 _ _ hx) rfl ?_;intro w4 hh;refine dQ (aI (aa (au ?_)));refine cS ?_;exact ⟨rfl,hh.below⟩
def tz (n:Nat):Nat:=Int.trailingZeros (n:Int)
theorem Ez (k m:Nat):tz (2^k*(2*m+1))=k:=by
 have h:=Int.trailingZeros_shiftLeft (x:=2*(m:Int)+1) VX k;rw [Int.trailingZeros_two_mul_add_one,Int.shiftLeft_eq] at h;unfold tz;have e:((2^k*(2*m+1):Nat):Int)=(2*(m:Int)+1)*2^k:=by
  rw [Xn,Int.natCast_pow,Int.mul_comm];rfl
 rw [e];have e2:(((2^k:Nat)):Int)=2^k:=by simp
 rw [←e2] at h ⊢;simpa using h
theorem sM (h:n≠0):∃m,n=2^tz n*(2*m+1):=by
 have:∀b n:Nat,n≤b→n≠0→∃k m,n=2^k*(2*m+1):=by
  intro b
  induction b with
  |zero=>intro n h1 h2;omega
  |succ b ih=>
   intro n h1 h2
   rcases Nat.mod_two_eq_zero_or_one n with h|h
   ·obtain ⟨k,m,hk⟩:=ih (n/2) VX VX;exact ⟨k+1,m,by rw [WY,WB (2^k),W6,←hk];omega⟩
   ·exact ⟨0,n/2,VX⟩
 obtain ⟨k,m,hk⟩:=this n n (V8 _) h;exact ⟨m,by rw [hk,Ez]⟩
theorem xP (h:n≠0) (hn:n<2^k):tz n<k:=by
 obtain ⟨m,hm⟩:=sM h
 rcases WX (tz n) k with h1|h1
 ·exact h1
 ·have h2:2^k≤2^tz n:=WM VX h1;have h3:2^tz n*1≤2^tz n*(2*m+1):=WS _ VX;omega
theorem Ae (m m' j:Nat) (h:m+m'+1=2^j):(2*m+1) &&& (2*m'+1)=1:=by
 apply Nat.eq_of_testBit_eq;intro i;rw [Nat.testBit_and]
 cases i with
 |zero=>simp
 |succ i=>
  rw [Nat.testBit_succ,Nat.testBit_succ,Nat.testBit_succ];have e1:(2*m+1)/2=m:=VX;have e2:(2*m'+1)/2=m':=VX;have e3:m'=2^j-(m+1):=VX;rw [e1,e2,e3,Nat.testBit_two_pow_sub_succ VX]
  cases hi:m.testBit i<;>simp
theorem LH {x:Nat} (hx:x=2^k*(2*m+1)) (hlt:x<18446744073709551616):x &&& (18446744073709551616-x) % 18446744073709551616=2^k:=by
 have hW:(18446744073709551616:Nat)=2^64:=by decide
 have hk:k<64:=by
  have:=xP (n:=x) (k:=64) (by rw [hx];exact Nat.mul_ne_zero (Nat.pos_iff_ne_zero.1 (WJ VX)) VX) (by rw [←hW];exact hlt);rwa [hx,Ez] at this
 have hp:(18446744073709551616:Nat)=2^k*(2*2^(63-k)):=by rw [hW,←Nat.pow_succ',←Ws];congr 1;omega
 have hm:m<2^(63-k):=by
  rw [hx,hp] at hlt;have:=Nat.lt_of_mul_lt_mul_left hlt;omega
 have e:(18446744073709551616-x) % 18446744073709551616=2^k*(2*(2^(63-k)-(m+1))+1):=by
  have h1:2*(2^(63-k)-(m+1))+1=2*2^(63-k)-(2*m+1):=VX;rw [h1,Nat.mul_sub,←hp,←hx,WU];have:0<2^k*(2*m+1):=Nat.mul_pos (WJ VX) VX;omega
 rw [e,hx];have h2:=Ae m (2^(63-k)-(m+1)) (63-k) VX;have h3:=W8 (· <<<k) h2;rw [Nat.shiftLeft_and_distrib] at h3;simp only [Nat.shiftLeft_eq,X5] at h3;rw [WB (2^k),WB (2^k)];exact h3
def DZ:List Nat:=[0,1,56,2,57,49,28,3,61,58,42,50,38,29,17,4,62,47,59,36,45,43,51,22,53,39,33,30,24,18,12,5,63,55,48,27,60,41,37,16,46,35,44,21,52,32,23,11,54,26,40,15,34,20,31,10,25,14,19,9,13,8,7,6]
def eK (w:World):Prop:=Rd w ⟨0,0,none⟩ (gP DZ)
theorem eK.ext (h:eK w) (hb:Below w.heap.size w w'):eK w':=Rd.ext h hb
theorem eK.hp {H:List HE} (h:eK w) (hh:Hp w H w'):eK w':=Rd.ext h hh.below
theorem QJ:∀k:Fin 64,DZ[2^k.val*285870213051353865 % 18446744073709551616/288230376151711744]?=some k.val∧2^k.val*285870213051353865 % 18446744073709551616/288230376151711744<64:=by decide+kernel
theorem Ed (x:Nat) (w:World) (hx:x<18446744073709551616) (h0:x≠0) (hT:eK w):
  Calls Tryz.prog 225 #[.int .u64 (x:Int)] w fun e w'=>e=.returned (.int .i64 (tz x))∧Below w.heap.size w w':=by
 have hh:=Hp.start w;obtain ⟨m,hm⟩:=sM h0;have hk:tz x<64:=xP h0 (by simpa using hx);have ha:=LH hm hx;obtain ⟨t1,t2⟩:=QJ ⟨tz x,hk⟩;simp only at t1 t2;have hc:=(show Rd w _ _ from hT).su (pz t1);refine aj (N:=14) (l:=[.int .u64 (x:Int)]) Tryz.func225 rfl rfl (by simp) ?_;refine sr (aI (aa (ah (sr (mI ?_)))));refine cB (aa (cF (ao (ai (sr (mI (mI ?_)))))));refine Kl rfl (by first|assumption|omega) VY ?_;refine DS rfl rfl hx (Wy _ VY) VY ?_;rw [ha];skip;refine rC (b:=285870213051353865) rfl rfl VY ?_;refine md (s:=58) (m:=288230376151711744) rfl rfl VY VY VY ?_;refine Dj bj.out aO.size rfl rfl rfl VX VY ?_;refine bX aO.out rfl (hc) VY ?_;refine qb ?_;exact vJ
end Go.Proofs.YteeckcbbnegmcaaGreatDoor
