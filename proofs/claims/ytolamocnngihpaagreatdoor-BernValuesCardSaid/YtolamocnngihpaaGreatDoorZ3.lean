/- Lemmas for bernValues, part 3. -/
import Derived.Deep.AppendSrc
import Derived.Deep.Upon
import Init
import Derived.Laws.Externs
import Derived.Lib.Mul64
import Derived.Test.YtolamocnngihpaaGreatDoorZ2
namespace Go.Proofs.YtolamocnngihpaaGreatDoor
variable {K:Value→World→Prop}{M rs:List Nat}{N b base by' c c' dj fuel j k m n:Nat}{P:Program}{R:Ending→World→Prop}{W W' w w' w0 w1:World}{ad:Addr}{ag:Bool}{cs news zc:List Value}{next:Rf→World→Prop}{ops:Array Oper}{parts:Array (Nat×Operand)}{pos:String}{ps:List (Nat×Value)}{α:Type}{ρ:Rf}
open Go.RowKit
section
variable {D:List Deferred}
section
variable {P:Program}{N:Nat}{Q:Kq}{ρ:Rf}{w:World}
def Rj (ops:Array Oper):Nat→Nat→Nat→Bool
 |0,_,_=>false
 |n+1,k,i=>match ops[k]? with
  |none=>false
  |some o=>(o.after.any fun e=>Region.binds .any e && e.on==i)||o.after.any fun e=>Region.binds .any e && Rj ops n e.on i
def oR (ops:Array Oper) (L:Array Bool):Prop:=∀k o,ops[k]?=some o→L.getD k false=true→∀e∈o.after,Region.binds .any e=true→L.getD e.on false=true
theorem mw {ops:Array Oper}{L:Array Bool} (hc:oR ops L):∀(n k i:Nat),(∀o,ops[k]?=some o→∀e∈o.after,Region.binds .any e=true→L.getD e.on false=true)→Rj ops n k i=true→L.getD i false=true
 |0,_,_,_,h=>by simp [Rj] at h
 |n+1,k,i,hk,h=>by
  unfold Rj at h;split at h
  ·cases h
  ·rename_i o ho;rw [Zo] at h
   rcases h with h|h
   ·obtain ⟨e,he,h⟩:=Array.any_eq_true'.1 h;simp only [XF,YA] at h;rw [←h.2];exact hk o ho e he h.1
   ·obtain ⟨e,he,h⟩:=Array.any_eq_true'.1 h;simp only [XF] at h;have h1:=hk o ho e he h.1;exact mw hc n e.on i (fun o' ho'=>hc e.on o' ho' h1) h.2
structure OG (P:Program) (ops:Array Oper) (o:Oper) (ρ:Rf) (w:World) (K:Value→World→Prop):Prop where
 out:∀(a:Act) (next:Act→World→Prop) (Q:Exit→Act→World→Prop),(∀i,a.tmps.getD i undef=ρ i)→(∀v w',K v w'→next (a.put o.dst v) w')→
  if Region.wanted o (yielded ops a.tmps) then o.wp P a w next Q∨(o.asks P a w∧LetsOut Q) else next (a.put o.dst undef) w
theorem EX {a:Act} (h:∀i,a.tmps.getD i undef=ρ i):a.eval=ev ρ:=by
 funext x
 cases x with
 |tmp t=>exact h t
 |_=>rfl
theorem db {o:Oper}{v:Value} (hg:o.guard=none) (hr:(execOp (ev ρ) o).run P w=.ok (.value v) w') (hk:K v w'):OG P ops o ρ w K:=
 ⟨fun a next Q ha hn=>by
  rw [Xo (by simp [Region.wanted,hg])];refine .inl ?_;unfold Oper.wp;rw [EX ha,hr];exact hn _ _ hk⟩
theorem aY {o:Oper}{f:FuncId}{args:Array Value} (hg:o.guard=none) (hr:(execOp (ev ρ) o).run P w=.ok (.enter f args) w1) (hc:Calls P f args w1 R)
  (hk:∀e w',R e w'→∃v,e=.returned v∧K v w'):OG P ops o ρ w K:=
 ⟨fun a next Q ha hn=>by
  rw [Xo (by simp [Region.wanted,hg])];refine .inl ?_;unfold Oper.wp;rw [EX ha,hr];show Calls P f args w1 _;refine hc.mono fun e w' hR=> ?_;obtain ⟨v,rfl,hkv⟩:=hk e w' hR;exact hn _ _ hkv⟩
theorem a9 {d:Option Nat}{op:Op}{ty:TypeId}{af:Array Edge}{b:Bool}
  (hj:(ops[j]?).bind (·.dst)=some dj) (hv:ρ dj=.bool b) (h:OG P ops ⟨d,op,ty,pos,af,none⟩ ρ w K):OG P ops ⟨d,op,ty,pos,af,some (j,b)⟩ ρ w K:=
 ⟨fun a next Q ha hn=>by
  have h1:Region.wanted ⟨d,op,ty,pos,af,some (j,b)⟩ (yielded ops a.tmps)=true:=by
   have h2:=ha dj;rw [hv,Yn] at h2
   cases h3:a.tmps[dj]? with
   |none=>rw [h3] at h2;cases h2
   |some x=>
    rw [h3] at h2;simp only [YF] at h2;subst h2;simp [Region.wanted,yielded,hj,h3]
  have h2:=h.out a next Q ha hn;rw [Xo (by simp [Region.wanted])] at h2;rw [Xo h1];exact h2⟩
theorem wv {d:Option Nat}{op:Op}{ty:TypeId}{af:Array Edge}{b c:Bool}
  (hj:(ops[j]?).bind (·.dst)=some dj) (hv:ρ dj=.bool c) (hb:c≠b) (h:K undef w):OG P ops ⟨d,op,ty,pos,af,some (j,b)⟩ ρ w K:=
 ⟨fun a next Q ha hn=>by
  have h1:Region.wanted ⟨d,op,ty,pos,af,some (j,b)⟩ (yielded ops a.tmps)=false:=by
   have h2:=ha dj;rw [hv,Yn] at h2
   cases h3:a.tmps[dj]? with
   |none=>rw [h3] at h2;cases h2
   |some x=>
    rw [h3] at h2;simp only [YF] at h2;subst h2;simp [Region.wanted,yielded,hj,h3,hb]
  rw [h1];exact hn _ _ h⟩
def cS (V:Nat→Value→World→Prop) (ρ ρ1:Rf) (w1:World):List (Nat×Option Nat)→Prop
 |[]=>True
 |(t,some j)::r=>V j (ρ1 t) w1∧cS V ρ ρ1 w1 r
 |(t,none)::r=>ρ1 t=ρ t∧cS V ρ ρ1 w1 r
def DO (P:Program) (ops:Array Oper) (J:World→Prop) (V:Nat→Value→World→Prop) (ρ:Rf):Nat→List Oper→List (List (Nat×Option Nat))→Prop
 |i,o::os,s::ss=>((∀v w w',V i v w→Below w.heap.size w w'→V i v w')∧∀ρ1 w1,J w1→cS V ρ ρ1 w1 s→OG P ops o ρ1 w1 fun v w2=>Below w1.heap.size w1 w2∧V i v w2)∧DO P ops J V ρ (i+1) os ss
 |_,[],[]=>True
 |_,_,_=>False
theorem Ga {ops:Array Oper}{J:World→Prop}{V:Nat→Value→World→Prop}:∀(l:List Oper) (ss:List (List (Nat×Option Nat))) (i:Nat),DO P ops J V ρ i l ss→l.length=ss.length∧∀k o,l[k]?=some o→∃s,ss[k]?=some s∧
  (∀v w w',V (i+k) v w→Below w.heap.size w w'→V (i+k) v w')∧∀ρ1 w1,J w1→cS V ρ ρ1 w1 s→OG P ops o ρ1 w1 fun v w2=>Below w1.heap.size w1 w2∧V (i+k) v w2
 |[],[],_,_=>⟨rfl,fun k o h=>by simp at h⟩
 |[],_::_,_,h=>h.elim
 |_::_,[],_,h=>h.elim
 |o::l,s::ss,i,h=>by
  obtain ⟨h1,h2⟩:=Ga l ss (i+1) h.2;refine ⟨by simp [h1],fun k o' hk=> ?_⟩
  cases k with
  |zero=>
   simp only [Z6,Y9] at hk;subst hk;exact ⟨s,rfl,h.1⟩
  |succ k=>
   obtain ⟨s',hs,h3⟩:=h2 k o' (by simpa using hk);refine ⟨s',by simpa using hs, ?_⟩;have e:i+1+k=i+(k+1):=Xj;rw [e] at h3;exact h3
def jT (ρ:Rf) (f:Nat→Value):List (Nat×Nat)→Rf
 |[]=>ρ
 |(i,d)::r=>cG (jT ρ f r) d (f i)
def wH (V:Nat→Value→World→Prop) (f:Nat→Value) (w:World):List (Nat×Nat)→Prop
 |[]=>True
 |(i,_)::r=>V i (f i) w∧wH V f w r
def gR (n k:Nat):Array Bool:=(List.replicate k true++List.replicate (n-k) false).toArray
def DS (l:List Oper) (m N:Nat) (src:List (List (Nat×Option Nat))) (ds:List (Nat×Nat)):Bool:=
 let ops:=l.toArray
 let pre:=(List.range m).map fun i=>((ops[i]?).bind (·.dst))
 (m≤l.length) && (src.length==m) &&
 (ds==(pre.zipIdx.filterMap fun (d,i)=>d.map fun d=>(i,d)).reverse) && (decide (ds.map (·.2)).Nodup) && (ds.all fun p=>p.2<N) &&
 ((List.range m).all fun i=>match ops[i]?,src[i]? with
  |some o,some s=>((o.looksAt ops).all fun t=>s.any fun p=>p.1==t) &&
    s.all fun p=>match p.2 with
     |some j=>(j<m) && ((ops[j]?).bind (·.dst)==some p.1) && Rj ops 16 i j
     |none=>(List.range m).all fun j=> !((ops[j]?).bind (·.dst)==some p.1)||(j !=i && Rj ops 16 j i)
  |_,_=>false) &&
 (l.length==m||((List.range m).all fun i=>Rj ops 16 m i)) &&
 ((List.range (l.length-m)).all fun k=>Region.ready .any ops (gR l.length (m+k))==[m+k]) && (Region.ready .any ops (gR l.length l.length)==[]) &&
 ((List.range (l.length-m)).all fun k=>k==0||Rj ops 16 (m+k) m) &&
 ((List.range l.length).all fun i=>match ops[i]? with|some o=>o.after.all fun e=> !Region.binds .any e||e.on<i|none=>false)
theorem HX (n k i:Nat):(gR n k).getD i false=decide (i<k):=by
 unfold gR;rw [Yn,ZI]
 rcases Yb i k with h|h
 ·rw [ZN (by simpa using h)];simp [h]
 ·rw [YD (by simpa using h),List.getElem?_replicate];have:¬i<k:=Xj;split<;>simp [this]
theorem KX (n k:Nat) (hk:k<n):(gR n k).setIfInBounds k true=gR n (k+1):=by
 unfold gR;rw [List.setIfInBounds_toArray];congr 1;apply YG;intro i;rw [Zw];simp only [List.getElem?_append,YP,List.getElem?_replicate,Xy];by_cases h1:k=i
 ·subst h1;rw [Xo rfl,Xo Xj,Xo (show k<k+1 by omega),Xo (show k<k+1 by omega)]
 ·rw [Xp h1];by_cases h2:i<k
  ·rw [Xo h2,Xo h2,Xo (show i<k+1 by omega),Xo (show i<k+1 by omega)]
  ·rw [Xp h2,Xp (show ¬i<k+1 by omega)];by_cases h3:i-k<n-k
   ·rw [Xo h3,Xo (show i-(k+1)<n-(k+1) by omega)]
   ·rw [Xp h3,Xp (show ¬i-(k+1)<n-(k+1) by omega)]
theorem H9 (n k:Nat) (hk:k≤n):(gR n k).size=n:=by simp [gR];omega
theorem ED (n k:Nat):(gR n k).toList.countP (fun b=>b)=k:=by
 simp [gR,List.countP_replicate]
theorem pW {L:Array Bool} (hs:L.size=n) (hk:k≤n) (h1:∀i,i<k→L.getD i false=true) (h2:∀i,k≤i→L.getD i false=false):L=gR n k:=by
 apply Array.ext
 ·rw [hs,H9 n k hk]
 ·intro i hi hi2;have e1:L[i]=L.getD i false:=by simp [hi]
  have e2:(gR n k)[i]=(gR n k).getD i false:=by simp [hi2]
  rw [e1,e2,HX n k i]
  rcases Yb i k with h|h
  ·rw [h1 i h];simp [h]
  ·rw [h2 i h];have:¬i<k:=Xj;simp [this]
theorem mW {l:List Oper}{Q':Exit→Act→World→Prop} (m:Nat)
  (hr:∀k,m≤k→k<l.length→Region.ready .any l.toArray (gR l.length k)=[k]) (hend:Region.ready .any l.toArray (gR l.length l.length)=[]):
  ∀(fuel k:Nat) (a:Act) (w:World),m≤k→k≤l.length→l.length≤fuel+k→wpList P l.toArray Q' (l.drop k) a w→wpAny P .any l.toArray Q' fuel (gR l.length k) a w
 |fuel,k,a,w,hmk,hk,hf,h=>by
  rcases Yb k l.length with hlt|hge
  ·cases fuel with
   |zero=>omega
   |succ fuel=>
    refine wpAny_all (hr k hmk hlt) (by simp) fun i hi=> ?_;obtain rfl:i=k:=by simpa using hi
    rw [YH hlt] at h;unfold wpList at h;have ho:l.toArray[i]?=some l[i]:=by simp [hlt]
    have hset:=KX l.length i hlt;have hgo:∀a w,wpList P l.toArray Q' (l.drop (i+1)) a w→wpAny P .any l.toArray Q' fuel ((gR l.length i).setIfInBounds i true) a w:=fun a w h=>by
     rw [hset];exact mW m hr hend fuel (i+1) a w Xj Xj Xj h
    unfold wpOp;rw [ho];simp only [];split at h
    ·rename_i hw;rw [Xo hw];exact h.imp (Oper.wp_mono hgo) id
    ·rename_i hw;rw [Xp hw];exact hgo _ _ h
  ·obtain rfl:k=l.length:=Xj;rw [List.drop_length] at h;exact wpAny_done hend h fuel
structure DI (D:List Deferred) (N:Nat) (ops:Array Oper) (m:Nat) (ρ:Rf) (J:World→Prop) (V:Nat→Value→World→Prop) (L:Array Bool) (a:Act) (w:World):Prop where
 nd:a.defers=D
 sz:a.tmps.size=N
 j:J w
 ls:L.size=ops.size
 cl:oR ops L
 tl:∀k,m≤k→L.getD k false=false
 vs:∀i d,i<m→L.getD i false=true→(ops[i]?).bind (·.dst)=some d→V i (a.tmps.getD d undef) w
 Hx:∀s,(∀i,i<m→L.getD i false=true→(ops[i]?).bind (·.dst)≠some s)→a.tmps.getD s undef=ρ s
theorem cI {L:Array Bool}{i:Nat} (hi:i<L.size):(L.setIfInBounds i true).getD j false=(decide (j=i)||L.getD j false):=by
 rw [Yn,Array.getElem?_setIfInBounds];by_cases h:i=j
 ·subst h;simp [hi]
 ·have:¬j=i:=fun e=>h e.symm;simp [h,this]
theorem dp {a:Act}{d s:Nat}{v:Value} (hd:d<a.tmps.size):(a.put (some d) v).tmps.getD s undef=if s=d then v else a.tmps.getD s undef:=by
 by_cases h:s=d
 ·subst h;simp [Act.put,hd]
 ·have:d≠s:=fun e=>h e.symm;simp [Act.put,Array.getElem?_setIfInBounds_ne this,h]
theorem kG (f:Nat→Value):∀(ds:List (Nat×Nat)) (s:Nat),(ds.map (·.2)).Nodup→(∀i,(i,s)∈ds→jT ρ f ds s=f i)∧((∀i,(i,s)∉ds)→jT ρ f ds s=ρ s)
 |[],s,_=>⟨fun i h=>by simp at h,fun _=>rfl⟩
 |(j,d)::r,s,h=>by
  rw [XQ,Zs] at h;obtain ⟨h1,h2⟩:=kG f r s h.2;constructor
  ·intro i hi
   rcases XL.1 hi with hi'|hi'
   ·injection hi' with e1 e2
    subst e1;subst e2;exact gJ _ _ _
   ·have hne:s≠d:=fun e=>h.1 (e ▸ XG.2 ⟨_,hi',rfl⟩);exact (bo _ hne _).trans (h1 i hi')
  ·intro hn;have hne:s≠d:=by
    rintro rfl;exact hn j XB
   exact (bo _ hne _).trans (h2 fun i hi=>hn i (XD _ hi))
theorem qx {V:Nat→Value→World→Prop}{f:Nat→Value}{w:World}:∀(ds:List (Nat×Nat)),(∀p∈ds,V p.1 (f p.1) w)→wH V f w ds
 |[],_=>trivial
 |(i,d)::r,h=>⟨h (i,d) XB,qx r fun p hp=>h p (XD _ hp)⟩
theorem nj {V:Nat→Value→World→Prop}{ρ1:Rf}{w1:World}:∀(s:List (Nat×Option Nat)),(∀p∈s,match p.2 with|some j=>V j (ρ1 p.1) w1|none=>ρ1 p.1=ρ p.1)→cS V ρ ρ1 w1 s
 |[],_=>trivial
 |(t,some j)::r,h=>⟨h (t,some j) XB,nj r fun p hp=>h p (XD _ hp)⟩
 |(t,none)::r,h=>⟨h (t,none) XB,nj r fun p hp=>h p (XD _ hp)⟩
theorem Nh {id:Nat}{l:List Oper} (m:Nat) (src:List (List (Nat×Option Nat))) (ds:List (Nat×Nat)) (J:World→Prop) (V:Nat→Value→World→Prop) (hm:P.follows .mixedOrders=true) (hok:DS l m N src ds=true)
  (hJ:∀w w',J w→Below w.heap.size w w'→J w') (h0:J w) (hops:DO P l.toArray J V ρ 0 (l.take m) src)
  (tail:∀f w',J w'→wH V f w' ds→WL ⟨none,D,false⟩ P N l.toArray Q (l.drop m) (jT ρ f ds) w'):WC ⟨none,D,false⟩ P N (.region id l.toArray true) Q ρ w:=by
 refine WC.mO fun a hf=>wp_region_any hm ?_;simp only [DS,XF,XN,YA,XI,XT] at hok;obtain ⟨⟨⟨⟨⟨⟨⟨⟨⟨⟨hml,_⟩,hds⟩,hnd⟩,hdN⟩,hrd⟩,htail⟩,hready⟩,hend⟩,hdep⟩,hedge⟩:=hok;have hdo:=(Ga _ _ _ hops).2;have hpre:∀i d,i<m→((l.toArray[i]?).bind (·.dst))=some d→(i,d)∈ds:=fun i d hi hd=>by
  exact NK
 have hdsm:∀i d,(i,d)∈ds→i<m∧((l.toArray[i]?).bind (·.dst))=some d:=fun i d hp=>by
  exact OR
 have hone:∀i j d,i<m→j<m→((l.toArray[i]?).bind (·.dst))=some d→((l.toArray[j]?).bind (·.dst))=some d→i=j:=fun i j d hi hj h1 h2=>by
  exact Pg
 have hnn:l.toArray.size=l.length:=by simp
 have full:∀(L:Array Bool) (a:Act) (w:World) (fuel:Nat),DI D N l.toArray m ρ J V L a w→(∀i,i<m→L.getD i false=true)→l.length≤fuel+m→wpAny P .any l.toArray (du N D Q) fuel L a w:=by
  intro L a w fuel hI hall hfu;have hL:L=gR l.length m:=pW (by rw [hI.ls,hnn]) hml hall hI.tl;rw [hL];refine mW m (fun k h1 h2=> ?_) hend fuel m a w (Xr _) hml hfu ?_
  ·exact Sk
  ·have hfits:eA N D a (jT ρ (fun i=>match (l.toArray[i]?).bind (·.dst) with|some d=>a.tmps.getD d undef|none=>undef) ds):=by
    exact RH
   refine (tail _ w hI.j (qx ds fun p hp=> ?_)).out a hfits;obtain ⟨h1,h2⟩:=hdsm p.1 p.2 hp;have:=hI.vs p.1 p.2 h1 (hall _ h1) h2;rw [h2];exact this
 have key:∀(fuel:Nat) (L:Array Bool) (a:Act) (w:World),DI D N l.toArray m ρ J V L a w→fuel+L.toList.countP (fun b=>b)=l.length→wpAny P .any l.toArray (du N D Q) fuel L a w:=by
  intro fuel
  induction fuel with
  |zero=>
   exact Sw
  |succ fuel ih=>
   intro L a w hI hc;by_cases hall:∀i,i<m→L.getD i false=true
   ·exact SK
   ·have hsome:∃i,i<m∧L.getD i false=false:=by
     exact Rp
    have hready_spec:∀i,i∈Region.ready .any l.toArray L↔i<l.length∧L.getD i true=false∧∃o,l.toArray[i]?=some o∧∀e∈o.after,Region.binds .any e=true→L.getD e.on false=true:=fun i=>by
     exact NO
    refine ⟨fun hnil=> ?_,fun i hi=> ?_⟩
    ·exfalso;have hmin:∀k,(∃i,i<k∧i<m∧L.getD i false=false)→∃i,i<m∧L.getD i false=false∧∀j,j<i→L.getD j false=true:=by
      intro k
      induction k with
      |zero=>rintro ⟨i,h,_⟩;omega
      |succ k ihk=>
       rintro ⟨i,h1,h2,h3⟩;by_cases hex:∃i,i<k∧i<m∧L.getD i false=false
       ·exact ihk hex
       ·exact Uh
     obtain ⟨i0,h1,h2⟩:=hsome;obtain ⟨i,hi,hu,hlow⟩:=hmin (i0+1) ⟨i0,Xj,h1,h2⟩;exact TV
    ·obtain ⟨hil,hun,o,ho,hed⟩:=(hready_spec i).1 hi;have hiL:i<L.size:=by rw [hI.ls,hnn];exact hil
     have hun':L.getD i false=false:=by
      exact TJ
     have hed':∀o',l.toArray[i]?=some o'→∀e∈o'.after,Region.binds .any e=true→L.getD e.on false=true:=fun o' ho'=>by
      exact JI
     have him:i<m:=by
      rcases Yb i m with h|h
      ·exact h
      ·exfalso
       rcases Yb m i with h2|h2
       ·have h3:=hdep (i-m) Xj;rw [show m+(i-m)=i by omega] at h3;have h4:(i-m==0)=false:=by simp;omega
        rw [h4,X2] at h3;have:=mw hI.cl 16 i m hed' h3;rw [hI.tl m (Xr _)] at this
        cases this
       ·obtain rfl:i=m:=Xj;have h4:(l.length==i)=false:=by simp;omega
        rw [h4,X2] at htail;have h5:=XI.1 htail;obtain ⟨j,hj,hju⟩:=hsome;have:=mw hI.cl 16 i j hed' (h5 j (by simpa using hj));rw [hju] at this
        cases this
     have hok':(l.take m)[i]?=some o:=by
      rw [YL,Xo him];simpa using ho
     obtain ⟨s,hs,hstab,hog⟩:=hdo i o hok';rw [XJ] at hstab hog;have hrdi:=hrd i him;rw [ho,hs] at hrdi;simp only [XF,XI] at hrdi;have hro:cS V ρ (fun t=>a.tmps.getD t undef) w s:=nj s fun p hp=>by
      have hp2:=hrdi.2 p hp
      cases hp3:p.2 with
      |some j=>
       rw [hp3] at hp2;simp only [XF,XN,YA] at hp2;exact hI.vs j p.1 hp2.1.1 (mw hI.cl 16 i j hed' hp2.2) hp2.1.2
      |none=>
       rw [hp3] at hp2;refine hI.Hx p.1 fun j hj hjl hjd=> ?_;have h6:=XI.1 hp2 j (by simpa using hj);rw [hjd] at h6;simp only [beq_self_eq_true,aaq,X2,XF] at h6;have:=mw hI.cl 16 j i (fun o' ho' e he hb=>hI.cl j o' ho' hjl e he hb) h6.2;rw [hun'] at this
       cases this
     have hgo:=(hog _ w hI.j hro).out a (wpAny P .any l.toArray (du N D Q) fuel (L.setIfInBounds i true)) (du N D Q) (fun _=>rfl) (fun v w2 hv=>by
      refine ih _ _ _ ?_ ?_
      ·refine ⟨?_, ?_,hJ _ _ hI.j hv.1,by simpa using hI.ls, ?_, ?_, ?_, ?_⟩
       ·cases o.dst<;>exact hI.nd
       ·cases hod:o.dst with
        |none=>exact hI.sz
        |some d=>simpa [Act.put] using hI.sz
       ·intro k ok hk hkl e he hb;rw [cI hiL] at hkl ⊢;by_cases hki:k=i
        ·subst hki;simp [hed' ok hk e he hb]
        ·simp only [hki,decide_false,X2] at hkl;simp [hI.cl k ok hk hkl e he hb]
       ·intro k hk;rw [cI hiL,hI.tl k hk];have:¬k=i:=Xj;simp [this]
       ·intro j d hj hjl hjd;rw [cI hiL] at hjl;have hd1:∀d',o.dst=some d'→d'<a.tmps.size:=fun d' hd'=>by
         rw [hI.sz];exact hdN (i,d') (hpre i d' him (by rw [ho];exact hd'))
        by_cases hji:j=i
        ·subst hji;rw [ho] at hjd;simp only [Zl] at hjd;rw [hjd,dp (hd1 d hjd),Xo rfl];exact hv.2
        ·simp only [hji,decide_false,X2] at hjl;have hold:=hI.vs j d hj hjl hjd;have hdj:(j,d)∈ds:=hpre j d hj hjd;have hst:=(hdo j (l.toArray[j]?.getD default) (by
          have:j<l.length:=Xj;rw [YL,Xo hj];simp [this])).choose_spec.2.1
         rw [XJ] at hst;have hne:∀d',o.dst=some d'→d≠d':=fun d' hd' e=>by
          subst e;exact hji (hone j i d hj him hjd (by rw [ho];exact hd'))
         cases hod:o.dst with
         |none=>exact hst _ _ _ hold hv.1
         |some d'=>
          rw [dp (hd1 d' hod),Xp (hne d' hod)];exact hst _ _ _ hold hv.1
       ·intro s' hs';have hni:((l.toArray[i]?).bind (·.dst))≠some s':=hs' i him (by rw [cI hiL];simp);have hold:=hI.Hx s' fun j hj hjl=>hs' j hj (by rw [cI hiL];simp [hjl]);rw [ho] at hni;simp only [Zl] at hni
        cases hod:o.dst with
        |none=>exact hold
        |some d'=>
         rw [dp (by rw [hI.sz];exact hdN (i,d') (hpre i d' him (by rw [ho];exact hod))),Xp (fun e=>hni (by rw [hod,e]))];exact hold
      ·have hLi:L.toList[i]?=some false:=by
        have h3:i<L.toList.length:=by simpa using hiL
        rw [YI h3];have:L.getD i false=L.toList[i]:=by simp [hiL]
        rw [←this,hun']
       rw [aaZ,List.countP_set (by simpa using hiL)];have h4:L.toList[i]'(by simpa using hiL)=false:=(XE.1 hLi).2;rw [h4];simp only [aab,if_false,if_true];omega)
     unfold wpOp;rw [ho];exact hgo
 have hJ0:J ({ w with drawn:=w.drawn+1 }:World):=hJ w _ h0 ⟨rfl,rfl,rfl,Xr _,fun _ _=>rfl⟩;have hr0:∀i,(Array.replicate l.toArray.size false).getD i false=false:=fun i=>by
  rw [Yn,aaY];split<;>rfl
 refine key _ _ _ _ ⟨hf.nd,hf.sz,hJ0,by simp,fun k o _ hk=> ?_,fun k _=>hr0 k,fun i d _ hi=> ?_,fun s _=>hf.at_ s⟩ ?_
 ·rw [hr0] at hk;cases hk
 ·rw [hr0] at hi;cases hi
 ·simp [List.countP_replicate]
def Is (c:Value):Value→World→Prop:=fun v _=>v=c
theorem Is.ext {c:Value} (v:Value) (w w':World) (h:Is c v w) (_:Below w.heap.size w w'):Is c v w':=h
structure JJ (w0:World) (H:List HE) (w W:World):Prop where
 hp:Hp w0 H W
 bl:Below w.heap.size w W
theorem JJ.ext {H:List HE} (h:JJ w0 H w W) (hb:Below W.heap.size W W'):JJ w0 H w W':=⟨h.hp.ext hb,h.bl.trans (hb.mono h.bl.size)⟩
theorem JJ.start {H:List HE} (h:Hp w0 H w):JJ w0 H w w:=⟨h,Below.refl _ _⟩
def UE (n k:Nat) (cs:List Value):Value→World→Prop:=fun v W=>∃b,v=.slice (some ⟨b,0,none⟩) n n∧Sl W (some ⟨b,0,none⟩) n k cs
def dm (w:World) (t:TypeId) (cs:List Value):Value→World→Prop:=fun v W=>∃b,v=.pointer (some ⟨b,0,none⟩)∧w.heap.size≤b∧W.heap[b]?=some (.cells cs.toArray t (0,0))
theorem dm.ext {t:TypeId} (v:Value) (w1 w2:World) (h:dm w t cs v w1) (hb:Below w1.heap.size w1 w2):dm w t cs v w2:=by
 obtain ⟨b,h1,h2,h3⟩:=h;have hlt:b<w1.heap.size:=by
  rcases Yb b w1.heap.size with hlt|hge
  ·exact hlt
  ·rw [Z5 hge] at h3;cases h3
 exact ⟨b,h1,h2,(hb.block b hlt).trans h3⟩
theorem jn {d:Option Nat}{ty:TypeId}{af:Array Edge}{t e:TypeId}{len sz:Nat} (ht:P.underlying t=some (.slice e)) (hte:cQ P e=some (sz,ag,by',zc))
  (hp:wh ρ parts.toList=ps) (hzl:zc.length=sz) (hf:ky (fun i=>some (i*sz,sz)) (eZ len zc) ps=some cs) (h0:¬len*sz=0) (hsl:len*sz≤16777216) (hl:cs.length=len*sz)
  (hk:∀v w2,UE len sz cs v w2→Below w.heap.size w w2→K v w2):OG P ops ⟨d,.buildSlice t len parts,ty,pos,af,none⟩ ρ w K:=by
 obtain ⟨z,hz,hzc⟩:=dx (w:=w) hte;have hbl:Below w.heap.size w (w.alloc (.cells cs.toArray e)):=(Below.refl _ _).alloc (Xr _) _;refine db rfl (w':=w.alloc (.cells cs.toArray e)) (v:=.slice (some ⟨w.heap.size,0,none⟩) len len) ?_ (hk _ _ ⟨w.heap.size,rfl,hl,fun _=>⟨_,rfl,fun j u hu=> ?_⟩⟩ hbl)
 ·exact Oh
 ·rw [eS,XJ,cell_of_row _ w.heap.size j cs.toArray e (0,0) (heap_alloc_new w _)];simpa using hu
theorem jz {d:Option Nat}{ty:TypeId}{af:Array Edge}{t:TypeId}{wr:World} (ht:cQ P t=some (n,ag,by',zc)) (hb:Below wr.heap.size wr w)
  (hk:∀v w2,dm wr t zc v w2→Below w.heap.size w w2→K v w2):OG P ops ⟨d,.alloc t,ty,pos,af,none⟩ ρ w K:=by
 obtain ⟨z,hz,hzc⟩:=dx (w:=w) ht;exact db rfl (w':=w.alloc (.cells zc.toArray t)) (v:=.pointer (some ⟨w.heap.size,0,none⟩)) (by simp [execOp,Instr.alloc,newVar,newRow,hz,hzc]) (hk _ _ ⟨w.heap.size,rfl,hb.size,heap_alloc_new w _⟩ ((Below.refl _ _).alloc (Xr _) _))
theorem JJ.newVar {H:List HE}{t:TypeId} (h:JJ w0 H w W) (hs:Hp w0 H w) (h2:w.heap.size≤b) (h3:W.heap[b]?=some (.cells cs.toArray t (0,0))):Hp w0 (.blk b t cs (0,0)::H) W:=by
 refine ⟨h.hp.below, ?_, ?_⟩
 ·intro y hy
  rcases XL.1 hy with rfl|hy
  ·exact ⟨XV hs.size h2,h3,.inr (Xr _)⟩
  ·exact h.hp.own y hy
 ·rw [Zk];show (b::H.filterMap HE.id).Nodup;refine Zs.2 ⟨fun hm=> ?_,h.hp.nd⟩;obtain ⟨y,hy,hyb⟩:=Yx.1 hm;have:=(eb (hs.own y hy) hyb).2;omega
end
section
abbrev VP:=Value→World→Prop
def dD (pv:Nat→VP) (i:Nat) (V:VP):Nat→VP:=fun j=>cond (Nat.beq j i) V (pv j)
def TU:Nat→VP:=fun _ _ _=>True
def DX (P:Program) (ops:Array Oper) (J:World→Prop) (ρ:Rf) (T:(Nat→VP)→Prop):Nat→(Nat→VP)→List Oper→List (List (Nat×Option Nat))→Prop
 |i,pv,o::os,s::ss=>∃V:VP,(∀v w w',V v w→Below w.heap.size w w'→V v w')∧(∀ρ1 w1,J w1→cS pv ρ ρ1 w1 s→OG P ops o ρ1 w1 fun v w2=>Below w1.heap.size w1 w2∧V v w2)∧DX P ops J ρ T (i+1) (dD pv i V) os ss
 |_,pv,[],[]=>T pv
 |_,_,_,_=>False
theorem z5 (pv:Nat→VP) (i:Nat) (V:VP):dD pv i V i=V:=by simp [dD]
theorem l8 (pv:Nat→VP) {i:Nat} (V:VP) (h:j≠i):dD pv i V j=pv j:=by
 have:Nat.beq j i=false:=by rw [Z4];intro h2;exact h (Nat.eq_of_beq_eq_true h2)
 simp only [dD,this,cond_false]
theorem nL {V V':Nat→VP}{ρ ρ1:Rf}{w1:World} (h:∀j v w,V j v w→V' j v w):∀s,cS V ρ ρ1 w1 s→cS V' ρ ρ1 w1 s
 |[],_=>trivial
 |(_,some _)::r,hh=>⟨h _ _ _ hh.1,nL h r hh.2⟩
 |(_,none)::r,hh=>⟨hh.1,nL h r hh.2⟩
theorem Gs {P:Program}{ops:Array Oper}{J:World→Prop}{ρ:Rf}{T:(Nat→VP)→Prop}:∀(os:List Oper) (ss:List (List (Nat×Option Nat))) (i:Nat) (pv:Nat→VP),(∀j,i≤j→∀v w,pv j v w)→DX P ops J ρ T i pv os ss→
  ∃V,(∀j,j<i→V j=pv j)∧DO P ops J V ρ i os ss∧T V
 |[],[],_,pv,_,h=>⟨pv,fun _ _=>rfl,trivial,h⟩
 |[],_::_,_,_,_,h=>h.elim
 |_::_,[],_,_,_,h=>h.elim
 |o::os,s::ss,i,pv,hpv,⟨V,h1,h2,h3⟩=>by
  obtain ⟨V',h4,h5,h6⟩:=Gs os ss (i+1) (dD pv i V) (fun j hj v w=>by rw [l8 _ _ Xj];exact hpv j Xj v w) h3;have e:V' i=V:=by rw [h4 i Xj,z5]
  refine ⟨V',fun j hj=>by rw [h4 j Xj,l8 _ _ Xj],⟨⟨?_, ?_⟩,h5⟩,h6⟩
  ·rw [e];exact h1
  ·intro ρ1 w1 hj hr;rw [e];refine h2 ρ1 w1 hj (nL (fun j v w hh=> ?_) s hr)
   rcases Yb j i with hlt|hge
   ·rw [h4 j Xj,l8 _ _ Xj] at hh;exact hh
   ·exact hpv j hge v w
theorem a0 {Q:Kq}{id:Nat}{l:List Oper} (m:Nat) (src:List (List (Nat×Option Nat))) (ds:List (Nat×Nat)) {H:List HE} (hh:Hp w0 H w) (hm:P.follows .mixedOrders=true) (hok:DS l m N src ds=true)
  (h:DX P l.toArray (JJ w0 H w) ρ (fun V=>∀f w',JJ w0 H w w'→wH V f w' ds→WL ⟨none,D,false⟩ P N l.toArray Q (l.drop m) (jT ρ f ds) w') 0 TU (l.take m) src):WC ⟨none,D,false⟩ P N (.region id l.toArray true) Q ρ w:=by
 obtain ⟨V,_,h1,h2⟩:=Gs _ _ _ _ (fun _ _ _ _=>trivial) h;exact Nh m src ds (JJ w0 H w) V hm hok (fun _ _ h hb=>h.ext hb) (JJ.start hh) h1 h2
variable {P:Program}{ops:Array Oper}{J:World→Prop}{ρ:Rf}{T:(Nat→VP)→Prop}{i:Nat}{pv:Nat→VP}{os:List Oper}{s:List (Nat×Option Nat)}{ss:List (List (Nat×Option Nat))}{d:Option Nat}{op:Op}{ty:TypeId}{pos:String}{af:Array Edge}
theorem aO (h:T pv):DX P ops J ρ T i pv [] []:=h
theorem aQ {o:Oper} (V:VP) (h1:∀v w w',V v w→Below w.heap.size w w'→V v w') (h2:∀ρ1 w1,J w1→cS (pv) ρ ρ1 w1 s→OG P ops o ρ1 w1 fun v w2=>Below w1.heap.size w1 w2∧V v w2)
  (k:DX P ops J ρ T (i+1) (dD pv i (V)) os ss):DX P ops J ρ T i pv (o::os) (s::ss):=⟨V,h1,h2,k⟩
theorem bj {v:Value} (hr:∀ρ1 w1,J w1→cS (pv) ρ ρ1 w1 s→(execOp (ev ρ1) ⟨d,op,ty,pos,af,none⟩).run P w1=.ok (.value v) w1)
  (k:DX P ops J ρ T (i+1) (dD pv i (Is v)) os ss):DX P ops J ρ T i pv (⟨d,op,ty,pos,af,none⟩::os) (s::ss):=
 aQ (Is v) Is.ext (fun ρ1 w1 hj h=>db rfl (hr ρ1 w1 hj h) ⟨Below.refl _ _,rfl⟩) k
theorem ND {v:Value}{f:FuncId}{args:Array Value} (hr:∀ρ1 w1,J w1→cS (pv) ρ ρ1 w1 s→(execOp (ev ρ1) ⟨d,op,ty,pos,af,none⟩).run P w1=.ok (.enter f args) w1)
  (hc:∀w1,J w1→Calls P f args w1 fun e w'=>e=.returned v∧Below w1.heap.size w1 w')
  (k:DX P ops J ρ T (i+1) (dD pv i (Is v)) os ss):DX P ops J ρ T i pv (⟨d,op,ty,pos,af,none⟩::os) (s::ss):=
 aQ (Is v) Is.ext (fun ρ1 w1 hj h=>aY rfl (hr ρ1 w1 hj h) (hc w1 hj) fun _ _ hq=>⟨v,hq.1,hq.2,rfl⟩) k
def Rows (n k:Nat) (cs:List Value):VP:=fun v W=>∃A c,v=.slice A n c∧Sl W A n k cs
theorem Rows.ext (v:Value) (w w':World) (h:Rows n k cs v w) (hb:Below w.heap.size w w'):Rows n k cs v w':=let ⟨A,c,h1,h2⟩:=h;⟨A,c,h1,h2.ext hb⟩
theorem J8 {f:FuncId}{args:Array Value}{t:TypeId}{nn:World→Nat} (hr:∀ρ1 w1,J w1→cS (pv) ρ ρ1 w1 s→(execOp (ev ρ1) ⟨d,op,ty,pos,af,none⟩).run P w1=.ok (.enter f args) w1)
  (hc:∀w1,J w1→Calls P f args w1 fun e w'=>∃A c,e=.returned (.slice A n c)∧w'.ownsRow (nn w1) t k (.slice A n c) n cs∧Below w1.heap.size w1 w')
  (kk:DX P ops J ρ T (i+1) (dD pv i (Rows n k cs)) os ss):DX P ops J ρ T i pv (⟨d,op,ty,pos,af,none⟩::os) (s::ss):=
 aQ (Rows n k cs) Rows.ext (fun ρ1 w1 hj h=>aY rfl (hr ρ1 w1 hj h) (hc w1 hj) fun _ _ ⟨A,c,hq,ho,hb⟩=>⟨_,hq,hb,A,c,rfl,jM ho⟩) kk
theorem wu {t e:TypeId}{len sz:Nat} (ht:P.underlying t=some (.slice e)) (hte:cQ P e=some (sz,ag,by',zc))
  (hp:∀ρ1 w1,J w1→cS (pv) ρ ρ1 w1 s→wh ρ1 parts.toList=ps) (hzl:zc.length=sz) (hf:ky (fun i=>some (i*sz,sz)) (eZ len zc) ps=some cs) (h0:¬len*sz=0) (hsl:len*sz≤16777216) (hl:cs.length=len*sz)
  (k:DX P ops J ρ T (i+1) (dD pv i (Rows len sz cs)) os ss):DX P ops J ρ T i pv (⟨d,.buildSlice t len parts,ty,pos,af,none⟩::os) (s::ss):=
 aQ (Rows len sz cs) Rows.ext (fun ρ1 w1 hj h=>jn ht hte (hp ρ1 w1 hj h) hzl hf h0 hsl hl fun _ _ ⟨_,hv,hs⟩ hb=>⟨hb,_,_,hv,hs⟩) k
theorem zw {b:Bool}{v:Value} (hj:(ops[j]?).bind (·.dst)=some dj) (hv:∀ρ1 w1,J w1→cS (pv) ρ ρ1 w1 s→ρ1 dj=.bool b)
  (hr:∀ρ1 w1,J w1→cS (pv) ρ ρ1 w1 s→(execOp (ev ρ1) ⟨d,op,ty,pos,af,none⟩).run P w1=.ok (.value v) w1)
  (k:DX P ops J ρ T (i+1) (dD pv i (Is v)) os ss):DX P ops J ρ T i pv (⟨d,op,ty,pos,af,some (j,b)⟩::os) (s::ss):=
 aQ (Is v) Is.ext (fun ρ1 w1 hj' h=>a9 hj (hv ρ1 w1 hj' h) (db rfl (hr ρ1 w1 hj' h) ⟨Below.refl _ _,rfl⟩)) k
theorem lT {b:Bool}{v:Value}{f:FuncId}{args:Array Value} (hj:(ops[j]?).bind (·.dst)=some dj) (hv:∀ρ1 w1,J w1→cS (pv) ρ ρ1 w1 s→ρ1 dj=.bool b)
  (hr:∀ρ1 w1,J w1→cS (pv) ρ ρ1 w1 s→(execOp (ev ρ1) ⟨d,op,ty,pos,af,none⟩).run P w1=.ok (.enter f args) w1)
  (hc:∀w1,J w1→Calls P f args w1 fun e w'=>e=.returned v∧Below w1.heap.size w1 w')
  (k:DX P ops J ρ T (i+1) (dD pv i (Is v)) os ss):DX P ops J ρ T i pv (⟨d,op,ty,pos,af,some (j,b)⟩::os) (s::ss):=
 aQ (Is v) Is.ext (fun ρ1 w1 hj' h=>a9 hj (hv ρ1 w1 hj' h) (aY rfl (hr ρ1 w1 hj' h) (hc w1 hj') fun _ _ hq=>⟨v,hq.1,hq.2,rfl⟩)) k
theorem yU {b c:Bool} (hj:(ops[j]?).bind (·.dst)=some dj) (hv:∀ρ1 w1,J w1→cS (pv) ρ ρ1 w1 s→ρ1 dj=.bool c) (hb:c≠b)
  (k:DX P ops J ρ T (i+1) (dD pv i (Is undef)) os ss):DX P ops J ρ T i pv (⟨d,op,ty,pos,af,some (j,b)⟩::os) (s::ss):=
 aQ (Is undef) Is.ext (fun ρ1 w1 hj' h=>wv hj (hv ρ1 w1 hj' h) hb ⟨Below.refl _ _,rfl⟩) k
end
end
def ay {α:Type} (f:α→List Value) (l:List α):List Value:=l.flatMap f
section
variable {α:Type}{f:α→List Value}{sz:Nat}
theorem dY (hf:∀x,(f x).length=sz) (l:List α):(ay f l).length=l.length*sz:=by
 induction l with
 |nil=>simp [ay]
 |cons x l ih=>
  have:ay f (x::l)=f x++ay f l:=by simp [ay]
  rw [this,Xy,hf,ih,XR,Yw];omega
theorem j1 (x:α) (l:List α):ay f (x::l)=f x++ay f l:=by simp [ay]
theorem bD (l m:List α):ay f (l++m)=ay f l++ay f m:=by simp [ay]
theorem iC (x:α):ay f [x]=f x:=by simp [ay]
theorem iy (hf:∀x,(f x).length=sz) (l:List α) (k:Nat):(ay f l).drop (k*sz)=ay f (l.drop k):=by
 induction l generalizing k with
 |nil=>simp [ay]
 |cons x l ih=>
  cases k with
  |zero=>simp
  |succ k=>rw [j1,Yw,Zh,←hf x,List.drop_append,List.drop_succ_cons,←ih k,hf x];simp [hf x]
theorem jg (hf:∀x,(f x).length=sz) (l:List α) (k:Nat):(ay f l).take (k*sz)=ay f (l.take k):=by
 induction l generalizing k with
 |nil=>simp [ay]
 |cons x l ih=>
  cases k with
  |zero=>simp [ay]
  |succ k=>rw [j1,Yw,Zh,List.take_succ_cons,j1,←ih k,←hf x,List.take_append];simp;exact Xz (Nat.le_add_right _ _)
theorem qo (hf:∀x,(f x).length=sz) {l:List α}{x:α} (h:l[k]?=some x):((ay f l).drop (k*sz)).take sz=f x:=by
 obtain ⟨h1,h2⟩:=XE.1 h;rw [iy hf,YH h1,h2,j1,aaX (by rw [hf];omega),Xz (by rw [hf];omega)]
theorem Rd.recAt {l:List α} (h:Rd w ad (ay f l)) (hf:∀x,(f x).length=sz) {x:α} (hx:l[k]?=some x):Rd w (ad.add (k*sz)) (f x):=by
 have:=h.elem k sz;rwa [qo hf hx] at this
theorem Sl.bp {A:Option Addr}{l:List α} (h:Sl w A n sz (ay f l)) (hf:∀x,(f x).length=sz) (h0:0<sz):l.length=n:=by
 have:=h.1;rw [dY hf] at this;exact Nat.eq_of_mul_eq_mul_right h0 this
theorem il (hf:∀x,(f x).length=sz) {l:List α}{y:α} (h:k<l.length):cm (ay f l) (k*sz) (f y)=ay f (l.set k y):=by
 unfold cm;rw [jg hf,hf,←Yw,iy hf,aaK,Xo h,bD,j1,Ya]
theorem bT (h:∀x,(f x).all Value.oneCell'=true) (l:List α):((ay f l).all Value.oneCell')=true:=by
 rw [XI];intro v hv;obtain ⟨x,_,hx⟩:=Zq.1 hv;exact XI.1 (h x) v hx
end
theorem gm {l:List α}{x:α} (h:l[k]?=some x):l.drop k=x::l.drop (k+1):=by
 obtain ⟨h1,rfl⟩:=XE.1 h;exact YH h1
theorem j2 {p:α→Bool}{l:List α} (h:l.any p=false):l.find? p=none:=by
 rw [List.find?_eq_none];intro x hx;have:=Zf.1 h x hx;simpa using this
theorem xX {p:α→Bool}{l:List α}{i:Nat}{x:α} (h:(l.take i).any p=false) (hx:l[i]?=some x) (hp:p x=true):l.find? p=some x:=by
 have:l=l.take i++x::l.drop (i+1):=by rw [←gm hx,Yg]
 rw [this,List.find?_append,j2 h,List.find?_cons_of_pos hp]
 rfl
section
variable {D:List Deferred}
section
variable {P:Program}{N:Nat}{Q:Kq}{ρ:Rf}{w:World}
def om (acc:List Nat):List Edge→Nat
 |[]=>0
 |e::r=>bif Region.binds .any e then 1<<<e.on|||acc.getD e.on 0|||om acc r else om acc r
def uW:List Oper→List Nat→List Nat
 |[],acc=>acc
 |o::r,acc=>uW r (acc++[om acc o.after.toList])
theorem oT {acc:List Nat}{i:Nat}:∀{es:List Edge},(om acc es).testBit i=true→∃e∈es,Region.binds .any e=true∧(e.on=i∨(acc.getD e.on 0).testBit i=true)
 |[],h=>by simp [om] at h
 |e::r,h=>by
  unfold om at h
  cases hb:Region.binds .any e with
  |false=>
   rw [hb,cond_false] at h;obtain ⟨e',h1,h2⟩:=oT h;exact ⟨e',XD _ h1,h2⟩
  |true=>
   rw [hb,cond_true,Nat.testBit_or,Nat.testBit_or,Zo,Zo] at h
   rcases h with (h|h)|h
   ·refine ⟨e,XB,hb,.inl ?_⟩;rw [Nat.one_shiftLeft,Nat.testBit_two_pow] at h;simpa using h
   ·exact ⟨e,XB,hb,.inr h⟩
   ·obtain ⟨e',h1,h2⟩:=oT h;exact ⟨e',XD _ h1,h2⟩
theorem Cm:∀(l:List Oper) (acc:List Nat),∃t,uW l acc=acc++t
 |[],acc=>⟨[],by simp [uW]⟩
 |o::r,acc=>by
  obtain ⟨t,h⟩:=Cm r (acc++[om acc o.after.toList]);exact ⟨_,by rw [uW,h,Ya]⟩
theorem F8:∀(l:List Oper) (acc:List Nat) (k i:Nat),acc.length≤k→((uW l acc).getD k 0).testBit i=true→∃o,l[k-acc.length]?=some o∧∃e∈o.after,Region.binds .any e=true∧(e.on=i∨e.on<k∧((uW l acc).getD e.on 0).testBit i=true)
 |[],acc,k,i,hk,h=>by
  rw [uW,YM,X1 hk] at h;simp at h
 |o::r,acc,k,i,hk,h=>by
  rcases Yb acc.length k with hlt|hge
  ·have hl:(acc++[om acc o.after.toList]).length=acc.length+1:=by simp
   obtain ⟨o',h1,h2⟩:=F8 r (acc++[om acc o.after.toList]) k i Xj h;refine ⟨o', ?_,h2⟩;rw [hl] at h1;rw [show k-acc.length=(k-(acc.length+1))+1 by omega,aaa];exact h1
  ·obtain rfl:k=acc.length:=Xj;obtain ⟨t,ht⟩:=Cm r (acc++[om acc o.after.toList]);refine ⟨o,by rw [Yq];rfl, ?_⟩;rw [uW,ht] at h ⊢;rw [YM,Ya,YD (Xr _),Yq] at h;simp only [Xw,Z6,YF,Xu] at h;obtain ⟨e,h1,h2,h3⟩:=oT h;refine ⟨e,by simpa using h1,h2, ?_⟩
   rcases h3 with h3|h3
   ·exact .inl h3
   ·have h4:e.on<acc.length:=by
     rcases Yb e.on acc.length with h5|h5
     ·exact h5
     ·rw [YM,X1 h5] at h3;simp at h3
    refine .inr ⟨h4, ?_⟩;rw [YM,Ya,ZN h4,←YM];exact h3
theorem fW {l:List Oper}{L:Array Bool} (hM:uW l []=M) (hc:oR l.toArray L):∀(k i:Nat),(∀o,l.toArray[k]?=some o→∀e∈o.after,Region.binds .any e=true→L.getD e.on false=true)→(M.getD k 0).testBit i=true→L.getD i false=true:=by
 intro k
 induction k using Nat.strongRecOn with
 |_ k ih=>
  intro i hk h;rw [←hM] at h;obtain ⟨o,ho,e,he,hb,h3⟩:=F8 l [] k i (Xs _) h;have ho':l.toArray[k]?=some o:=by rw [ZI];exact ho
  have h1:=hk o ho' e he hb
  rcases h3 with h3|⟨h3,h4⟩
  ·rw [←h3];exact h1
  ·rw [hM] at h4;exact ih e.on h3 i (fun o' ho2=>hc e.on o' ho2 h1) h4
def UW (n m:Nat) (fl:List Nat):Array Bool:=((List.range n).map fun i=>decide (i<m∧i∉fl)).toArray
theorem Mj {i:Nat}{fl:List Nat} (hi:i<n):(UW n m fl).getD i true=decide (i<m∧i∉fl):=by
 unfold UW;rw [Yn,ZI,Xx,Yh hi]
 rfl
def NP (Q:Kq):Prop:=∀c ρ w,¬Q (.panic c) ρ w
theorem cu {fn:Func}:NP (mH P fn R):=fun _ _ _ h=>h.1.elim nofun nofun
theorem bQ (h:NP Q):NP (cB next Q):=fun c ρ w hq=>h c ρ w hq
theorem ct {id:Nat} (h:NP Q):NP (qY id Q):=fun c ρ w hq=>h c ρ w hq
def vn:Op→Bool
 |.extract _ _=>true
 |.move _=>true
 |_=>false
def Sv (l:List Oper) (m:Nat) (fl:List Nat) (i:Nat):Bool:=
 Region.free .any l.toArray (UW l.length m fl) i && match l[i]? with
  |some ⟨some _,op,_,_,af,none⟩=>vn op && af.all fun e=> !Region.binds .any e||(decide (e.on<m) && !fl.contains e.on)
  |_=>false
theorem xJ {l:List Oper}{fl:List Nat}{i:Nat} (h:Sv l m fl i=true):Region.free .any l.toArray (UW l.length m fl) i=true∧(∀o,l[i]?=some o→∀e∈o.after,Region.binds .any e=true→e.on<m∧e.on∉fl)∧
  ∃d op ty pos af,l[i]?=some ⟨some d,op,ty,pos,af,none⟩∧vn op=true:=by
 unfold Sv at h;rw [XF] at h;obtain ⟨h1,h2⟩:=h;split at h2
 ·rename_i d op ty pos af ho;rw [XF] at h2;obtain ⟨hpu,h2⟩:=h2;refine ⟨h1,fun o ho' e he hb=> ?_,d,op,ty,pos,af,ho,hpu⟩;rw [ho] at ho';injection ho' with ho'
  subst ho';have:=aaf.1 h2 e he;simp only [hb,aaq,X2,XF,XN,Z1,aaP,Z3] at this;exact this
 ·cases h2
def nF (l:List Oper) (m N:Nat) (src:List (List (Nat×Option Nat))) (ds:List (Nat×Nat)) (fl M:List Nat):Bool:=
 let ops:=l.toArray
 let pre:=(List.range m).map fun i=>((ops[i]?).bind (·.dst))
 (m≤l.length) && (src.length==m) &&
 (ds==(pre.zipIdx.filterMap fun (d,i)=>d.map fun d=>(i,d)).reverse) && (decide (ds.map (·.2)).Nodup) && (ds.all fun p=>p.2<N) &&
 ((List.range m).all fun i=>match ops[i]?,src[i]? with
  |some o,some s=>((o.looksAt ops).all fun t=>s.any fun p=>p.1==t) &&
    s.all fun p=>match p.2 with
     |some j=>(j<m) && ((ops[j]?).bind (·.dst)==some p.1) && (M.getD i 0).testBit j
     |none=>(List.range m).all fun j=> !((ops[j]?).bind (·.dst)==some p.1)||(j !=i && (M.getD j 0).testBit i)
  |_,_=>false) &&
 (l.length==m||((List.range m).all fun i=>fl.contains i||(M.getD m 0).testBit i)) &&
 ((List.range (l.length-m)).all fun k=>Region.ready .any ops (gR l.length (m+k))==[m+k]) && (Region.ready .any ops (gR l.length l.length)==[]) &&
 ((List.range (l.length-m)).all fun k=>k==0||(M.getD (m+k) 0).testBit m) &&
 ((List.range l.length).all fun i=>match ops[i]? with|some o=>o.after.all fun e=> !Region.binds .any e||e.on<i|none=>false) &&
 Region.noSelect ops && (fl.all fun i=>Sv l m fl i) && (uW l []==M)
def uQ (P:Program) (l:List Oper):List Nat→Prop
 |[]=>True
 |i::r=>(∃d t ty pos af n ag by' zc,l[i]?=some ⟨some d,.alloc t,ty,pos,af,none⟩∧cQ P t=some (n,ag,by',zc))∧uQ P l r
theorem uQ.at {l:List Oper}:∀{fr:List Nat},uQ P l fr→∀i∈fr,∃d t ty pos af n ag by' zc,l[i]?=some ⟨some d,.alloc t,ty,pos,af,none⟩∧cQ P t=some (n,ag,by',zc)
 |[],_,_,hi=>by simp at hi
 |j::r,h,i,hi=>by
  rcases XL.1 hi with rfl|hi
  ·exact h.1
  ·exact uQ.at h.2 i hi
theorem dO {l:List Oper}:uQ P l []:=trivial
theorem jV {l:List Oper}{i d t ty:Nat}{af:Array Edge}{r:List Nat} (h:l[i]?=some ⟨some d,.alloc t,ty,pos,af,none⟩) (ht:cQ P t=some (n,ag,by',zc)) (hr:uQ P l r):uQ P l (i::r):=⟨⟨d,t,ty,pos,af,n,ag,by',zc,h,ht⟩,hr⟩
theorem J1 {d:Nat}{t ty:Nat}{af:Array Edge} (ht:cQ P t=some (n,ag,by',zc)) (h:OG P ops ⟨some d,.alloc t,ty,pos,af,none⟩ ρ w K)
  (a:Act) (hd:d<a.tmps.size) (next:Act→World→Prop) (Q:Exit→Act→World→Prop) (ha:∀i,a.tmps.getD i undef=ρ i) (hn:∀v w',K v w'→(∃b,v=.pointer (some ⟨b,0,none⟩)∧w.heap.size≤b∧b<w'.heap.size)→next (a.put (some d) v) w'):
  if Region.wanted ⟨some d,.alloc t,ty,pos,af,none⟩ (yielded ops a.tmps) then (Oper.wp P ⟨some d,.alloc t,ty,pos,af,none⟩ a w next Q)∨((Oper.asks P ⟨some d,.alloc t,ty,pos,af,none⟩ a w)∧LetsOut Q) else next (a.put (some d) undef) w:=by
 have h1:=h.out a (fun a' w'=>∃v,a'=a.put (some d) v∧K v w') Q ha fun v w' hk=>⟨v,rfl,hk⟩;have hw:Region.wanted ⟨some d,.alloc t,ty,pos,af,none⟩ (yielded ops a.tmps)=true:=by simp [Region.wanted]
 rw [Xo hw] at h1 ⊢;refine h1.imp (fun h2=> ?_) id;obtain ⟨z,hz,hzc⟩:=dx (w:=w) ht;have hr:(execOp a.eval ⟨some d,.alloc t,ty,pos,af,none⟩).run P w=.ok (.value (.pointer (some ⟨w.heap.size,0,none⟩))) (w.alloc (.cells zc.toArray t)):=by simp [execOp,Instr.alloc,newVar,newRow,hz,hzc]
 unfold Oper.wp at h2 ⊢;rw [hr] at h2 ⊢;obtain ⟨v,hv,hk⟩:∃v,a.put (some d) (.pointer (some ⟨w.heap.size,0,none⟩))=a.put (some d) v∧K v (w.alloc (.cells zc.toArray t)):=h2;have h3:=Yu (fun a':Act=>a'.tmps.getD d undef) hv;simp only [dp hd,Xo] at h3;subst h3;exact hn _ _ hk ⟨_,rfl,Xr _,(aam.1 (heap_alloc_new w _)).1⟩
theorem Bv {x:Operand}{ty d:Nat}{af:Array Edge} (f:Operand→Value) (w:World):(∃v,∀w',(execOp f ⟨some d,.extract x k,ty,pos,af,none⟩).run P w'=.ok (.value v) w')∨∀a K,Oper.upon P ⟨some d,.extract x k,ty,pos,af,none⟩ a K (fun _ _ _=>False) ((execOp f ⟨some d,.extract x k,ty,pos,af,none⟩).run P w)→False:=by
 cases hx:f x with
 |tuple xs=>
  cases hk:xs[k]? with
  |some v=>exact .inl ⟨v,fun w'=>by simp [execOp,hx,Instr.extract,hk]⟩
  |none=>exact .inr fun a K h=>by simp [execOp,hx,Instr.extract,hk,Oper.upon] at h
 |_=>exact .inr fun a K h=>by simp [execOp,hx,Instr.extract,Oper.upon] at h
theorem pure_run {op:Op} (hp:vn op=true) {ty d:Nat}{af:Array Edge} (f:Operand→Value) (w:World):(∃v,∀w',(execOp f ⟨some d,op,ty,pos,af,none⟩).run P w'=.ok (.value v) w')∨∀a K,Oper.upon P ⟨some d,op,ty,pos,af,none⟩ a K (fun _ _ _=>False) ((execOp f ⟨some d,op,ty,pos,af,none⟩).run P w)→False:=by
 unfold vn at hp;split at hp
 ·exact Bv f w
 ·exact .inl ⟨_,fun w'=>by simp [execOp];rfl⟩
 ·cases hp
theorem BR {d:Nat}{op:Op} (hp:vn op=true) {ty:Nat}{af:Array Edge} (h:OG P ops ⟨some d,op,ty,pos,af,none⟩ ρ w K) (a:Act) (hd:d<a.tmps.size) (ha:∀i,a.tmps.getD i undef=ρ i):
  ∃v,(∀w',(execOp a.eval ⟨some d,op,ty,pos,af,none⟩).run P w'=.ok (.value v) w')∧K v w:=by
 have h1:=h.out a (fun a' w'=>∃v,a'=a.put (some d) v∧K v w') (fun _ _ _=>False) ha fun v w' hk=>⟨v,rfl,hk⟩;rw [Xo (by simp [Region.wanted])] at h1
 rcases h1 with h1|⟨_,_,_,h1⟩
 ·unfold Oper.wp at h1
  rcases pure_run (P:=P) hp (d:=d) (ty:=ty) (pos:=pos) (af:=af) a.eval w with ⟨v,hv⟩|hn
  ·rw [hv w] at h1;obtain ⟨v',h2,hk⟩:∃v',a.put (some d) v=a.put (some d) v'∧K v' w:=h1;have h3:=Yu (fun a':Act=>a'.tmps.getD d undef) h2;simp only [dp hd,Xo] at h3;subst h3;exact ⟨v,hv,hk⟩
  ·exact (hn _ _ h1).elim
 ·exact h1.elim
structure UX (D:List Deferred) (fr:List Nat) (N:Nat) (ops:Array Oper) (m:Nat) (ρ:Rf) (J:World→Prop) (V:Nat→Value→World→Prop) (L:Array Bool) (a:Act) (w:World):Prop where
 nd:a.defers=D
 sz:a.tmps.size=N
 j:J w
 ls:L.size=ops.size
 cl:oR ops L
 tl:∀k,m≤k→L.getD k false=false
 vs:∀i d,i<m→L.getD i false=true→(ops[i]?).bind (·.dst)=some d→V i (a.tmps.getD d undef) w
 Hx:∀s,(∀i,i<m→L.getD i false=true→(ops[i]?).bind (·.dst)≠some s)→a.tmps.getD s undef=ρ s
 fb:∀i∈fr,L.getD i false=true→∀d,(ops[i]?).bind (·.dst)=some d→∃b,a.tmps.getD d undef=.pointer (some ⟨b,0,none⟩)∧b<w.heap.size
 fd:∀i∈fr,∀j∈fr,i≠j→L.getD i false=true→L.getD j false=true→∀d e,(ops[i]?).bind (·.dst)=some d→(ops[j]?).bind (·.dst)=some e→a.tmps.getD d undef≠a.tmps.getD e undef
theorem Ko {id:Nat}{l:List Oper} (fr fl M:List Nat) (m:Nat) (src:List (List (Nat×Option Nat))) (ds:List (Nat×Nat)) (J:World→Prop) (V:Nat→Value→World→Prop) (hm:P.follows .mixedOrders=true) (hok:nF l m N src ds fl M=true) (hfr:uQ P l fr) (hfm:fr.all (fun i=>i<m)=true) (hQp:NP Q)
  (hJ:∀w w',J w→Below w.heap.size w w'→J w') (h0:J w) (hops:DO P l.toArray J V ρ 0 (l.take m) src)
  (tail:∀f w',J w'→wH V f w' ds→(∀i∈fr,∀j∈fr,i≠j→f i≠f j)→WL ⟨none,D,false⟩ P N l.toArray Q (l.drop m) (jT ρ f ds) w'):WC ⟨none,D,false⟩ P N (.region id l.toArray true) Q ρ w:=by
 refine WC.mO fun a hf=>wp_region_any hm ?_;simp only [nF,XF,XN,YA,XI,XT] at hok;obtain ⟨⟨⟨⟨⟨⟨⟨⟨⟨⟨⟨⟨⟨hml,_⟩,hds⟩,hnd⟩,hdN⟩,hrd⟩,htail⟩,hready⟩,hend⟩,hdep⟩,hedge⟩,hns⟩,hflo⟩,hM⟩:=hok;have hfl:=fun i hi=>xJ (hflo i hi);have hdo:=(Ga _ _ _ hops).2;have hpre:∀i d,i<m→((l.toArray[i]?).bind (·.dst))=some d→(i,d)∈ds:=fun i d hi hd=>by
  exact NK
 have hdsm:∀i d,(i,d)∈ds→i<m∧((l.toArray[i]?).bind (·.dst))=some d:=fun i d hp=>by
  exact OR
 have hone:∀i j d,i<m→j<m→((l.toArray[i]?).bind (·.dst))=some d→((l.toArray[j]?).bind (·.dst))=some d→i=j:=fun i j d hi hj h1 h2=>by
  exact Pg
 have hnn:l.toArray.size=l.length:=by simp
 have hfm':∀i∈fr,i<m:=fun i hi=>by simpa using XI.1 hfm i hi
 have full:∀(L:Array Bool) (a:Act) (w:World) (fuel:Nat),UX D fr N l.toArray m ρ J V L a w→(∀i,i<m→L.getD i false=true)→l.length≤fuel+m→wpAny P .any l.toArray (du N D Q) fuel L a w:=by
  intro L a w fuel hI hall hfu;have hL:L=gR l.length m:=pW (by rw [hI.ls,hnn]) hml hall hI.tl;rw [hL];refine mW m (fun k h1 h2=> ?_) hend fuel m a w (Xr _) hml hfu ?_
  ·exact Sk
  ·have hfits:eA N D a (jT ρ (fun i=>match (l.toArray[i]?).bind (·.dst) with|some d=>a.tmps.getD d undef|none=>undef) ds):=by
    exact RH
   refine (tail _ w hI.j (qx ds fun p hp=> ?_) fun i hi j hj hij=> ?_).out a hfits
   rotate_left
   ·exact TE
   obtain ⟨h1,h2⟩:=hdsm p.1 p.2 hp;have:=hI.vs p.1 p.2 h1 (hall _ h1) h2;rw [h2];exact this
 have key:∀(fuel:Nat) (L:Array Bool) (a:Act) (w:World),UX D fr N l.toArray m ρ J V L a w→fuel+L.toList.countP (fun b=>b)=l.length→wpAny P .any l.toArray (du N D Q) fuel L a w:=by
  intro fuel
  induction fuel with
  |zero=>
   exact Sw
  |succ fuel ih=>
   intro L a w hI hc;by_cases hall:∀i,i<m→L.getD i false=true
   ·exact SK
   ·have hsome:∃i,i<m∧L.getD i false=false:=by
     exact Rp
    have hready_spec:∀i,i∈Region.ready .any l.toArray L↔i<l.length∧L.getD i true=false∧∃o,l.toArray[i]?=some o∧∀e∈o.after,Region.binds .any e=true→L.getD e.on false=true:=fun i=>by
     exact NO
    have both:∀(i:Nat) (_:i<m) (o:Oper) (_:l.toArray[i]?=some o) (_:L.getD i false=false) (_:∀e∈o.after,Region.binds .any e=true→L.getD e.on false=true),
      OG P l.toArray o (fun t=>a.tmps.getD t undef) w (fun v w2=>Below w.heap.size w w2∧V i v w2)∧
      ∀v w2,(Below w.heap.size w w2∧V i v w2)→(i∈fr→∃b,v=.pointer (some ⟨b,0,none⟩)∧w.heap.size≤b∧b<w2.heap.size)→wpAny P .any l.toArray (du N D Q) fuel (L.setIfInBounds i true) (a.put o.dst v) w2:=fun i him o ho hun' hed=>by
     have hiL:i<L.size:=by rw [hI.ls,hnn];omega
     have hed':∀o',l.toArray[i]?=some o'→∀e∈o'.after,Region.binds .any e=true→L.getD e.on false=true:=fun o' ho'=>by
      rw [ho] at ho';injection ho' with ho';subst ho';exact hed
     have hok':(l.take m)[i]?=some o:=by
      rw [YL,Xo him];simpa using ho
     obtain ⟨s,hs,hstab,hog⟩:=hdo i o hok';rw [XJ] at hstab hog;have hrdi:=hrd i him;rw [ho,hs] at hrdi;simp only [XF,XI] at hrdi;have hro:cS V ρ (fun t=>a.tmps.getD t undef) w s:=nj s fun p hp=>by
      have hp2:=hrdi.2 p hp
      cases hp3:p.2 with
      |some j=>
       rw [hp3] at hp2;simp only [XF,XN,YA] at hp2;exact hI.vs j p.1 hp2.1.1 (fW hM hI.cl i j hed' hp2.2) hp2.1.2
      |none=>
       rw [hp3] at hp2;refine hI.Hx p.1 fun j hj hjl hjd=> ?_;have h6:=XI.1 hp2 j (by simpa using hj);rw [hjd] at h6;simp only [beq_self_eq_true,aaq,X2,XF] at h6;have:=fW hM hI.cl j i (fun o' ho' e he hb=>hI.cl j o' ho' hjl e he hb) h6.2;rw [hun'] at this
       cases this
     have hnext:∀v w2,(Below w.heap.size w w2∧V i v w2)→(i∈fr→∃b,v=.pointer (some ⟨b,0,none⟩)∧w.heap.size≤b∧b<w2.heap.size)→wpAny P .any l.toArray (du N D Q) fuel (L.setIfInBounds i true) (a.put o.dst v) w2:=fun v w2 hv hfv=>by
      have hd1:∀d',o.dst=some d'→d'<a.tmps.size:=fun d' hd'=>by
       rw [hI.sz];exact hdN (i,d') (hpre i d' him (by rw [ho];exact hd'))
      have hput:∀j d,j<m→j≠i→(l.toArray[j]?).bind (·.dst)=some d→(a.put o.dst v).tmps.getD d undef=a.tmps.getD d undef:=fun j d hj hji hjd=>by
       cases hod:o.dst with
       |none=>rfl
       |some d'=>rw [dp (hd1 d' hod),Xp fun e=>hji (hone j i d hj him hjd (by rw [ho,e];exact hod))]
      have hputi:∀d,(l.toArray[i]?).bind (·.dst)=some d→(a.put o.dst v).tmps.getD d undef=v:=fun d hd=>by
       rw [ho] at hd;simp only [Zl] at hd;rw [hd,dp (hd1 d hd),Xo rfl]
      have hfd:∀j∈fr,j≠i→L.getD j false=true→i∈fr→∀e,(l.toArray[j]?).bind (·.dst)=some e→a.tmps.getD e undef≠v:=fun j hj hji hjl hif e hje heq=>by
       obtain ⟨b,hb1,hb2⟩:=hI.fb j hj hjl e hje;obtain ⟨b',hv1,hb3,_⟩:=hfv hif;rw [hb1,hv1] at heq;injection heq with heq
       injection heq with heq
       injection heq with heq
       omega
      refine ih _ _ _ ?_ ?_
      ·refine ⟨?_, ?_,hJ _ _ hI.j hv.1,by simpa using hI.ls, ?_, ?_, ?_, ?_, ?_, ?_⟩
       ·cases o.dst<;>exact hI.nd
       ·cases hod:o.dst with
        |none=>exact hI.sz
        |some d=>simpa [Act.put] using hI.sz
       ·intro k ok hk hkl e he hb;rw [cI hiL] at hkl ⊢;by_cases hki:k=i
        ·subst hki;simp [hed' ok hk e he hb]
        ·simp only [hki,decide_false,X2] at hkl;simp [hI.cl k ok hk hkl e he hb]
       ·intro k hk;rw [cI hiL,hI.tl k hk];have:¬k=i:=Xj;simp [this]
       ·intro j d hj hjl hjd;rw [cI hiL] at hjl;have hd1:∀d',o.dst=some d'→d'<a.tmps.size:=fun d' hd'=>by
         rw [hI.sz];exact hdN (i,d') (hpre i d' him (by rw [ho];exact hd'))
        by_cases hji:j=i
        ·subst hji;rw [ho] at hjd;simp only [Zl] at hjd;rw [hjd,dp (hd1 d hjd),Xo rfl];exact hv.2
        ·simp only [hji,decide_false,X2] at hjl;have hold:=hI.vs j d hj hjl hjd;have hdj:(j,d)∈ds:=hpre j d hj hjd;have hst:=(hdo j (l.toArray[j]?.getD default) (by
          have:j<l.length:=Xj;rw [YL,Xo hj];simp [this])).choose_spec.2.1
         rw [XJ] at hst;have hne:∀d',o.dst=some d'→d≠d':=fun d' hd' e=>by
          subst e;exact hji (hone j i d hj him hjd (by rw [ho];exact hd'))
         cases hod:o.dst with
         |none=>exact hst _ _ _ hold hv.1
         |some d'=>
          rw [dp (hd1 d' hod),Xp (hne d' hod)];exact hst _ _ _ hold hv.1
       ·intro s' hs';have hni:((l.toArray[i]?).bind (·.dst))≠some s':=hs' i him (by rw [cI hiL];simp);have hold:=hI.Hx s' fun j hj hjl=>hs' j hj (by rw [cI hiL];simp [hjl]);rw [ho] at hni;simp only [Zl] at hni
        cases hod:o.dst with
        |none=>exact hold
        |some d'=>
         rw [dp (by rw [hI.sz];exact hdN (i,d') (hpre i d' him (by rw [ho];exact hod))),Xp (fun e=>hni (by rw [hod,e]))];exact hold
       ·intro j hj hjl d hjd;rw [cI hiL] at hjl;by_cases hji:j=i
        ·subst hji;obtain ⟨b,hb1,_,hb3⟩:=hfv hj;exact ⟨b,(hputi d hjd).trans hb1,hb3⟩
        ·simp only [hji,decide_false,X2] at hjl;obtain ⟨b,hb1,hb2⟩:=hI.fb j hj hjl d hjd;exact ⟨b,(hput j d (hfm' j hj) hji hjd).trans hb1,Yt hb2 hv.1.size⟩
       ·intro j hj k hk hjk hjl hkl d e hjd hke;rw [cI hiL] at hjl hkl;by_cases hji:j=i
        ·subst hji;have hkj:k≠j:=fun e=>hjk e.symm;simp only [hkj,decide_false,X2] at hkl;rw [hputi d hjd,hput k e (hfm' k hk) hkj hke];exact fun he=>hfd k hk hkj hkl hj e hke he.symm
        ·simp only [hji,decide_false,X2] at hjl;by_cases hki:k=i
         ·subst hki;rw [hputi e hke,hput j d (hfm' j hj) hji hjd];exact hfd j hj hji hjl hk d hjd
         ·simp only [hki,decide_false,X2] at hkl;rw [hput j d (hfm' j hj) hji hjd,hput k e (hfm' k hk) hki hke];exact hI.fd j hj k hk hjk hjl hkl d e hjd hke
      ·have hLi:L.toList[i]?=some false:=by
        have h3:i<L.toList.length:=by simpa using hiL
        rw [YI h3];have:L.getD i false=L.toList[i]:=by simp [hiL]
        rw [←this,hun']
       rw [aaZ,List.countP_set (by simpa using hiL)];have h4:L.toList[i]'(by simpa using hiL)=false:=(XE.1 hLi).2;rw [h4];simp only [aab,if_false,if_true];omega
     exact ⟨hog _ w hI.j hro,hnext⟩
    exact Wi
 exact S9
end
theorem dy {Q:Kq}{id:Nat}{l:List Oper} (fr fl M:List Nat) (m:Nat) (src:List (List (Nat×Option Nat))) (ds:List (Nat×Nat)) {H:List HE} (hh:Hp w0 H w) (hm:P.follows .mixedOrders=true) (hok:nF l m N src ds fl M=true)
  (hfr:uQ P l fr) (hfm:fr.all (fun i=>i<m)=true) (hQp:NP Q)
  (h:DX P l.toArray (JJ w0 H w) ρ (fun V=>∀f w',JJ w0 H w w'→wH V f w' ds→(∀i∈fr,∀j∈fr,i≠j→f i≠f j)→WL ⟨none,D,false⟩ P N l.toArray Q (l.drop m) (jT ρ f ds) w') 0 TU (l.take m) src):WC ⟨none,D,false⟩ P N (.region id l.toArray true) Q ρ w:=by
 obtain ⟨V,_,h1,h2⟩:=Gs _ _ _ _ (fun _ _ _ _=>trivial) h;exact Ko fr fl M m src ds (JJ w0 H w) V hm hok hfr hfm hQp (fun _ _ h hb=>h.ext hb) (JJ.start hh) h1 h2
end
section
variable {ro:Mode}
def cd (ρ:Rf):List (Nat×Value)→Rf
 |[]=>ρ
 |(d,v)::r=>cG (cd ρ r) d v
def UD (f:Nat→Value):List (Nat×Nat)→List (Nat×Value)→Prop
 |[],[]=>True
 |(i,d)::r,(d',v)::s=>(d=d'∧f i=v)∧UD f r s
 |_,_=>False
theorem bm {ρ:Rf}{f:Nat→Value}:∀{ds:List (Nat×Nat)}{vs:List (Nat×Value)},UD f ds vs→jT ρ f ds=cd ρ vs
 |[],[],_=>rfl
 |[],_::_,h=>h.elim
 |_::_,[],h=>h.elim
 |(i,d)::r,(d',v)::s,h=>by
  obtain ⟨⟨rfl,rfl⟩,h2⟩:=h;rw [jT,cd,bm h2]
theorem aV {f:Nat→Value}:UD f [] []:=trivial
theorem ae {f:Nat→Value}{i d:Nat}{v:Value}{r:List (Nat×Nat)}{s:List (Nat×Value)} (h:f i=v) (hr:UD f r s):UD f ((i,d)::r) ((d,v)::s):=⟨⟨rfl,h⟩,hr⟩
theorem aW {Q:Kq}{l:List Oper}{ρ':Rf} (h:ρ=ρ') (k:WL ro P N ops Q l ρ' w):WL ro P N ops Q l ρ w:=h ▸ k
section
variable {P:Program}{ops:Array Oper}{J:World→Prop}{ρ:Rf}{T:(Nat→VP)→Prop}{i:Nat}{pv:Nat→VP}{os:List Oper}{s:List (Nat×Option Nat)}{ss:List (List (Nat×Option Nat))}{d:Option Nat}{ty:TypeId}{pos:String}{af:Array Edge}
theorem vF {op:Op}{b:Bool} (hj:(ops[j]?).bind (·.dst)=some dj) (hv:ρ dj=undef) (h:K undef w):OG P ops ⟨d,op,ty,pos,af,some (j,b)⟩ ρ w K:=
 ⟨fun a next Q ha hn=>by
  have h1:Region.wanted ⟨d,op,ty,pos,af,some (j,b)⟩ (yielded ops a.tmps)=false:=by
   have h2:=ha dj;rw [hv,Yn] at h2
   cases h3:a.tmps[dj]? with
   |none=>simp [Region.wanted,yielded,hj,h3]
   |some x=>
    rw [h3] at h2;simp only [YF] at h2;subst h2;simp [Region.wanted,yielded,hj,h3,undef]
  rw [h1];exact hn _ _ h⟩
theorem AP {b:Bool}{op:Op} (hj:(ops[j]?).bind (·.dst)=some dj) (hv:∀ρ1 w1,J w1→cS (pv) ρ ρ1 w1 s→ρ1 dj=undef)
  (k:DX P ops J ρ T (i+1) (dD pv i (Is undef)) os ss):DX P ops J ρ T i pv (⟨d,op,ty,pos,af,some (j,b)⟩::os) (s::ss):=
 aQ (Is undef) Is.ext (fun ρ1 w1 hj' h=>vF hj (hv ρ1 w1 hj' h) ⟨Below.refl _ _,rfl⟩) k
theorem a7 {b:Bool}{t e:TypeId}{len sz:Nat} (hj:(ops[j]?).bind (·.dst)=some dj) (hg:∀ρ1 w1,J w1→cS (pv) ρ ρ1 w1 s→ρ1 dj=.bool b)
  (ht:P.underlying t=some (.slice e)) (hte:cQ P e=some (sz,ag,by',zc))
  (hp:∀ρ1 w1,J w1→cS (pv) ρ ρ1 w1 s→wh ρ1 parts.toList=ps) (hzl:zc.length=sz) (hf:ky (fun i=>some (i*sz,sz)) (eZ len zc) ps=some cs) (h0:¬len*sz=0) (hsl:len*sz≤16777216) (hl:cs.length=len*sz)
  (k:DX P ops J ρ T (i+1) (dD pv i (Rows len sz cs)) os ss):DX P ops J ρ T i pv (⟨d,.buildSlice t len parts,ty,pos,af,some (j,b)⟩::os) (s::ss):=
 aQ (Rows len sz cs) Rows.ext (fun ρ1 w1 hj' h=>a9 hj (hg ρ1 w1 hj' h) (jn ht hte (hp ρ1 w1 hj' h) hzl hf h0 hsl hl fun _ _ ⟨_,hv,hs⟩ hb=>⟨hb,_,_,hv,hs⟩)) k
end
theorem Hp.fV {f:α→List Value}{sz:Nat}{H:List HE}{i e g:Nat}{l:List α}{x:α} (hh:Hp w0 H w) (hi:H[i]?=some (.row (some ⟨g,0,none⟩) n c e sz (ay f l))) (hf:∀x,(f x).length=sz) (h0:0<sz) (hx:l[k]?=some x):Rd w ⟨g,k*sz,none⟩ (f x):=by
 have hs:=hh.aC hi;have hl:=hs.bp hf h0;obtain ⟨ad,h1,h2⟩:=hs.2 (by have:=(XE.1 hx).1;omega);injection h1 with h1
 subst h1;have h3:=h2.recAt hf hx;rwa [eS,XJ] at h3
end
section
variable {ro:Mode}
section
variable {P:Program}{ρ:Rf}{w:World}
end
end
section
variable {ro:Mode}
section
variable {P:Program}{ρ:Rf}{w:World}
theorem uJ {d:Option Nat}{ty:Nat}{af:Array Edge}{g:Option (Nat×Bool)}{x:Operand}{a:Addr} (hx:ev ρ x=.pointer (some a)):
  (execOp (ev ρ) ⟨d,.nilCheck x,ty,pos,af,g⟩).run P w=.ok (.value (.pointer (some a))) w:=by simp [execOp,hx]
end
section
variable {P:Program}{N:Nat}{ops:Array Oper}{Q:Kq}{ρ:Rf}{w:World}{rest:List Oper}{d ty:Nat}{pos:String}{af:Array Edge}
theorem kr {x:Operand}{a:Addr} (hx:ev ρ x=.pointer (some a)) (hN:d<N) (kk:WL ro P N ops Q rest (cG ρ d (.pointer (some a))) w):WL ro P N ops Q (⟨some d,.nilCheck x,ty,pos,af,none⟩::rest) ρ w:=aP rfl rfl hN (uJ hx) kk
end
end
section
variable {P:Program}{N:Nat}{Q:Kq}{ρ:Rf}{w:World}
structure WA (P:Program) (N:Nat) (ops:Array Oper) (Q:Kq) (fuel:Nat) (L:Array Bool) (ρ:Rf) (w:World):Prop where
 out:∀a,Fits N a ρ→wpAny P .any ops (lift N Q) fuel L a w
theorem tS {o:Oper}{a:Act}{K:Act→World→Prop}{r:Result Next} (h:o.upon P a K (lift N (cB next Q)) r):o.upon P a K (lift N Q) r:=by
 have hp:∀c a w,lift N (cB next Q) (.panic c) a w→lift N Q (.panic c) a w:=fun _ _ _ h=>h;have ho:LetsOut (lift N (cB next Q))→LetsOut (lift N Q):=fun ⟨a,w,h⟩=>⟨a,w,h⟩
 cases r with
 |ok n w'=>
  cases n<;>simp only [Oper.upon] at h ⊢ <;>first
   |exact h
   |exact Calls.mono h (fun e w'' he=>by cases e<;>first|exact he|exact hp _ _ _ he|exact ho he)
 |halt x w'=>cases x<;>simp only [Oper.upon] at h ⊢ <;>first|exact h|exact hp _ _ _ h|exact ho h
theorem F0 {L:Array Bool} (hr:Region.ready .any ops L=rs) (hne:rs≠[])
  (h:∀i∈rs,∃o,ops[i]?=some o∧WL .plain P N ops (cB (fun ρ w=>WA P N ops Q fuel (L.setIfInBounds i true) ρ w) Q) [o] ρ w):WA P N ops Q (fuel+1) L ρ w:=by
 refine ⟨fun a hf=>wpAny_all hr hne fun i hi=> ?_⟩;obtain ⟨o,ho,hw⟩:=h i hi;have h1:=hw.out a hf;have hK:∀a w,wpList P ops (lift N (cB (fun ρ w=>WA P N ops Q fuel (L.setIfInBounds i true) ρ w) Q)) [] a w→wpAny P .any ops (lift N Q) fuel (L.setIfInBounds i true) a w:=fun a w ⟨ρ',hf',hq⟩=>by
  have hq':WA P N ops Q fuel (L.setIfInBounds i true) ρ' w:=hq;exact hq'.out a hf'
 unfold wpOp;rw [ho];simp only [];unfold wpList at h1;split at h1
 ·rename_i hwt;rw [Xo hwt];refine h1.imp (fun h2=>Oper.wp_mono hK ?_) (fun h2=>⟨h2.1, ?_⟩)
  ·unfold Oper.wp at h2 ⊢;exact tS h2
  ·obtain ⟨a',w',h3⟩:=h2.2;exact ⟨a',w',h3⟩
 ·rename_i hwt;rw [Xp hwt];exact hK _ _ h1
theorem gi {L:Array Bool}{i:Nat}{o:Oper} (hr:Region.ready .any ops L=[i]) (ho:ops[i]?=some o)
  (h:WL .plain P N ops (cB (fun ρ w=>WA P N ops Q fuel (L.setIfInBounds i true) ρ w) Q) [o] ρ w):WA P N ops Q (fuel+1) L ρ w:=
 F0 hr (by simp) fun j hj=>by
  obtain rfl:j=i:=by simpa using hj
  exact ⟨o,ho,h⟩
theorem vj {L:Array Bool}{i i2:Nat}{o o2:Oper} (hr:Region.ready .any ops L=[i,i2]) (ho:ops[i]?=some o) (ho2:ops[i2]?=some o2)
  (h:WL .plain P N ops (cB (fun ρ w=>WA P N ops Q fuel (L.setIfInBounds i true) ρ w) Q) [o] ρ w)
  (h2:WL .plain P N ops (cB (fun ρ w=>WA P N ops Q fuel (L.setIfInBounds i2 true) ρ w) Q) [o2] ρ w):WA P N ops Q (fuel+1) L ρ w:=
 F0 hr (by simp) fun j hj=>by
  rcases XL.1 hj with rfl|hj
  ·exact ⟨o,ho,h⟩
  ·obtain rfl:j=i2:=by simpa using hj
   exact ⟨o2,ho2,h2⟩
theorem ff {L:Array Bool} (h:WA P N ops Q fuel L ρ w):WL .plain P N ops (cB (fun ρ w=>WA P N ops Q fuel L ρ w) Q) [] ρ w:=aa h
theorem jH {l:List Oper}{L:Array Bool} (m:Nat) (hm:m≤l.length) (hL:L=gR l.length m) (hf:l.length≤fuel+m)
  (hr:((List.range (l.length-m)).all fun k=>Region.ready .any l.toArray (gR l.length (m+k))==[m+k])=true) (hend:Region.ready .any l.toArray (gR l.length l.length)=[])
  (h:WL .plain P N l.toArray Q (l.drop m) ρ w):WA P N l.toArray Q fuel L ρ w:=
 ⟨fun a hfits=>by
  rw [hL];refine mW m (fun k h1 h2=> ?_) hend fuel m a w (Xr _) hm hf (h.out a hfits);have h3:=XI.1 hr (k-m) (by simp;omega);rw [show m+(k-m)=k by omega] at h3;exact eq_of_beq h3⟩
theorem nO {id:Nat}{l:List Oper}{H:List HE} (hh:Hp w0 H w) (hm:P.follows .mixedOrders=true) (h:∀w',JJ w0 H w w'→WA P N l.toArray Q l.length (Array.replicate l.length false) ρ w'):WC .plain P N (.region id l.toArray true) Q ρ w:=by
 refine WC.mO fun a hf=>wp_region_any hm ?_;have hb:Below w.heap.size w ({ w with drawn:=w.drawn+1 }:World):=⟨rfl,rfl,rfl,Xr _,fun _ _=>rfl⟩;have:=(h _ ((JJ.start hh).ext hb)).out a hf;simpa using this
end
section
variable {P:Program}{N:Nat}{Q:Kq}{ρ:Rf}{w:World}
def IA:List Nat→List (List Nat)
 |[]=>[[]]
 |x::r=>IA r++(IA r).map (x:: ·)
theorem sx (p:Nat→Bool):∀l:List Nat,l.filter p∈IA l
 |[]=>by simp [IA]
 |x::r=>by
  have ih:=sx p r;rw [List.filter_cons,IA];split
  ·exact Y2 _ (XG.2 ⟨_,ih,rfl⟩)
  ·exact Y7 _ ih
def lD (n m:Nat) (fl D:List Nat):Array Bool:=((List.range n).map fun i=>decide (i<m∧(i∉fl∨i∈D))).toArray
def Gj (l:List Oper) (fl D:List Nat):Bool:=D.all fun i=>match l[i]? with
 |some o=>o.after.all fun e=> !Region.binds .any e|| !fl.contains e.on||D.contains e.on
 |none=>true
def Tc (ds:List (Nat×Nat)) (fl D:List Nat):List (Nat×Nat):=ds.filter fun p=> !fl.contains p.1||D.contains p.1
def GK (l:List Oper) (m:Nat) (fl:List Nat) (ds:List (Nat×Nat)):List (List Nat×Nat×List (Nat×Nat)):=
 ((IA fl).filter (Gj l fl)).map fun D=>(D,l.length-(lD l.length m fl D).toList.countP (fun b=>b)-1,Tc ds fl D)
def zf (l:List Oper) (m N:Nat) (src:List (List (Nat×Option Nat))) (ds:List (Nat×Nat)) (fl M:List Nat):Bool:=
 let ops:=l.toArray
 let pre:=(List.range m).map fun i=>((ops[i]?).bind (·.dst))
 (m≤l.length) && (src.length==m) &&
 (ds==(pre.zipIdx.filterMap fun (d,i)=>d.map fun d=>(i,d)).reverse) && (decide (ds.map (·.2)).Nodup) && (ds.all fun p=>p.2<N) &&
 ((List.range m).all fun i=>match ops[i]?,src[i]? with
  |some o,some s=>((o.looksAt ops).all fun t=>s.any fun p=>p.1==t) &&
    s.all fun p=>match p.2 with
     |some j=>(j<m) && ((ops[j]?).bind (·.dst)==some p.1) && (M.getD i 0).testBit j
     |none=>(List.range m).all fun j=> !((ops[j]?).bind (·.dst)==some p.1)||(j !=i && (M.getD j 0).testBit i)
  |_,_=>false) &&
 (l.length==m||((List.range m).all fun i=>fl.contains i||(M.getD m 0).testBit i)) &&
 ((List.range (l.length-m)).all fun k=>k==0||(M.getD (m+k) 0).testBit m) &&
 ((List.range l.length).all fun i=>match ops[i]? with|some o=>o.after.all fun e=> !Region.binds .any e||e.on<i|none=>false) && (uW l []==M)
theorem Jr {id:Nat}{l:List Oper} (fl M:List Nat) (m:Nat) (src:List (List (Nat×Option Nat))) (ds:List (Nat×Nat)) (Ds:List (List Nat×Nat×List (Nat×Nat))) (J:World→Prop) (V:Nat→Value→World→Prop) (hm:P.follows .mixedOrders=true) (hok:zf l m N src ds fl M=true) (hDs:GK l m fl ds=Ds) (hmn:m<l.length)
  (hJ:∀w w',J w→Below w.heap.size w w'→J w') (h0:J w) (hops:DO P l.toArray J V ρ 0 (l.take m) src)
  (tail:∀p∈Ds,∀f w',J w'→wH V f w' p.2.2→WL .plain P N l.toArray (cB (fun ρ w=>WA P N l.toArray Q p.2.1 ((lD l.length m fl p.1).setIfInBounds m true) ρ w) Q) ((l.drop m).take 1) (jT ρ f p.2.2) w'):WC .plain P N (.region id l.toArray true) Q ρ w:=by
 refine WC.mO fun a hf=>wp_region_any hm ?_;simp only [zf,XF,XN,YA,XI,XT] at hok;obtain ⟨⟨⟨⟨⟨⟨⟨⟨⟨hml,_⟩,hds⟩,hnd⟩,hdN⟩,hrd⟩,htail⟩,hdep⟩,hedge⟩,hM⟩:=hok;have hdo:=(Ga _ _ _ hops).2;have hpre:∀i d,i<m→((l.toArray[i]?).bind (·.dst))=some d→(i,d)∈ds:=fun i d hi hd=>by
  exact NK
 have hdsm:∀i d,(i,d)∈ds→i<m∧((l.toArray[i]?).bind (·.dst))=some d:=fun i d hp=>by
  exact OR
 have hone:∀i j d,i<m→j<m→((l.toArray[i]?).bind (·.dst))=some d→((l.toArray[j]?).bind (·.dst))=some d→i=j:=fun i j d hi hj h1 h2=>by
  exact Pg
 have hnn:l.toArray.size=l.length:=by simp
 have part:∀(L:Array Bool) (a:Act) (w:World) (fuel:Nat),UX [] [] N l.toArray m ρ J V L a w→(∀i,i<m→i∉fl→L.getD i false=true)→fuel+1+L.toList.countP (fun b=>b)=l.length→∀o,l.toArray[m]?=some o→
   wpOp P l.toArray (lift N Q) m (wpAny P .any l.toArray (lift N Q) fuel (L.setIfInBounds m true)) a w:=by
  intro L a w fuel hI hall hfu o ho;have hflt:∀i,i∈fl.filter (fun i=>L.getD i false)↔i∈fl∧L.getD i false=true:=fun i=>by rw [YC]
  have hL:L=lD l.length m fl (fl.filter fun i=>L.getD i false):=by
   apply Array.ext (by simp [lD,hI.ls]);intro i h1 h2;have e1:L.getD i false=L[i]:=by simp [h1]
   rw [←e1];simp only [lD,List.getElem_toArray,List.getElem_map,List.getElem_range]
   rcases Yb i m with h|h
   ·by_cases hif:i∈fl
    ·cases hc:L.getD i false with
     |true=>exact (XH ⟨h,.inr ((hflt i).2 ⟨hif,hc⟩)⟩).symm
     |false=>exact (XM fun hh=>hh.2.elim (fun hn=>hn hif) fun hd=>by rw [((hflt i).1 hd).2] at hc;cases hc).symm
    ·rw [hall i h hif];exact (XH ⟨h,.inl hif⟩).symm
   ·rw [hI.tl i h];exact (XM fun hh=>by omega).symm
  have hcl:Gj l fl (fl.filter fun i=>L.getD i false)=true:=XI.2 fun i hi=>by
   obtain ⟨h1,h2⟩:=(hflt i).1 hi
   cases hli:l[i]? with
   |none=>rfl
   |some oi=>
    refine aaf.2 fun e he=> ?_
    cases hb:Region.binds .any e with
    |false=>rfl
    |true=>
     have h3:=hI.cl i oi (by rw [ZI];exact hli) h2 e he hb;by_cases hef:e.on∈fl
     ·rw [Zo];exact .inr (List.contains_iff_mem.2 ((hflt _).2 ⟨hef,h3⟩))
     ·simp [hef]
  have hmem:(fl.filter (fun i=>L.getD i false),l.length-(lD l.length m fl (fl.filter fun i=>L.getD i false)).toList.countP (fun b=>b)-1,Tc ds fl (fl.filter fun i=>L.getD i false))∈Ds:=by
   rw [←hDs];exact XG.2 ⟨_,YC.2 ⟨sx _ _,hcl⟩,rfl⟩
  have hfu':l.length-L.toList.countP (fun b=>b)-1=fuel:=Xj;have htl:=tail _ hmem;simp only [←hL,hfu'] at htl;have hsub:∀p∈Tc ds fl (fl.filter fun i=>L.getD i false),p∈ds∧L.getD p.1 false=true:=fun p hp=>by
   obtain ⟨h1,h2⟩:=YC.1 hp;refine ⟨h1, ?_⟩;simp only [Zo,Z1,aaP,Z3,XN] at h2
   rcases h2 with h2|h2
   ·exact hall _ (hdsm _ _ h1).1 h2
   ·exact ((hflt _).1 h2).2
  have hnd':((Tc ds fl (fl.filter fun i=>L.getD i false)).map (·.2)).Nodup:=(List.filter_sublist.map _).nodup hnd;have hfits:Fits N a (jT ρ (fun i=>match (l.toArray[i]?).bind (·.dst) with|some d=>a.tmps.getD d undef|none=>undef) (Tc ds fl (fl.filter fun i=>L.getD i false))):=by
   refine ⟨hI.nd,hI.sz,fun s=> ?_⟩;by_cases hs:∃i,(i,s)∈Tc ds fl (fl.filter fun i=>L.getD i false)
   ·obtain ⟨i,hi⟩:=hs;rw [(kG _ _ s hnd').1 i hi,(hdsm i s (hsub _ hi).1).2]
   ·rw [(kG _ _ s hnd').2 fun i hi=>hs ⟨i,hi⟩];refine hI.Hx s fun i hi hil hd=>hs ⟨i,YC.2 ⟨hpre i s hi hd, ?_⟩⟩;by_cases hif:i∈fl
    ·rw [Zo];exact .inr (List.contains_iff_mem.2 ((hflt i).2 ⟨hif,hil⟩))
    ·simp [hif]
  have h1:=(htl (fun i=>match (l.toArray[i]?).bind (·.dst) with|some d=>a.tmps.getD d undef|none=>undef) w hI.j (qx _ fun p hp=>by
   obtain ⟨h1,h2⟩:=hsub p hp;obtain ⟨h3,h4⟩:=hdsm p.1 p.2 h1;have:=hI.vs p.1 p.2 h3 h2 h4;rw [h4];exact this)).out a hfits
  have hone':(l.drop m).take 1=[o]:=by
   rw [ZI] at ho;obtain ⟨h2,h3⟩:=XE.1 ho;rw [YH h2,h3]
   rfl
  rw [hone'] at h1;have hK:∀a w,wpList P l.toArray (lift N (cB (fun ρ w=>WA P N l.toArray Q fuel (L.setIfInBounds m true) ρ w) Q)) [] a w→wpAny P .any l.toArray (lift N Q) fuel (L.setIfInBounds m true) a w:=fun a w ⟨ρ',hf',hq⟩=>by
   have hq':WA P N l.toArray Q fuel (L.setIfInBounds m true) ρ' w:=hq;exact hq'.out a hf'
  unfold wpOp;rw [ho];simp only [];unfold wpList at h1;split at h1
  ·rename_i hwt;rw [Xo hwt];refine h1.imp (fun h2=>Oper.wp_mono hK ?_) (fun h2=>⟨h2.1, ?_⟩)
   ·unfold Oper.wp at h2 ⊢;exact tS h2
   ·obtain ⟨a',w',h3⟩:=h2.2;exact ⟨a',w',h3⟩
  ·rename_i hwt;rw [Xp hwt];exact hK _ _ h1
 have key:∀(fuel:Nat) (L:Array Bool) (a:Act) (w:World),UX [] [] N l.toArray m ρ J V L a w→fuel+L.toList.countP (fun b=>b)=l.length→wpAny P .any l.toArray (lift N Q) fuel L a w:=by
  intro fuel
  induction fuel with
  |zero=>
   intro L a w hI hc;have hall:∀i,i<l.length→L.getD i false=true:=fun i hi=>by
    exact Rc
   have h1:=hall m hmn;rw [hI.tl m (Xr _)] at h1
   cases h1
  |succ fuel ih=>
   intro L a w hI hc
   ·have hready_spec:∀i,i∈Region.ready .any l.toArray L↔i<l.length∧L.getD i true=false∧∃o,l.toArray[i]?=some o∧∀e∈o.after,Region.binds .any e=true→L.getD e.on false=true:=fun i=>by
     exact NO
    have both:∀(i:Nat) (_:i<m) (o:Oper) (_:l.toArray[i]?=some o) (_:L.getD i false=false) (_:∀e∈o.after,Region.binds .any e=true→L.getD e.on false=true),
      OG P l.toArray o (fun t=>a.tmps.getD t undef) w (fun v w2=>Below w.heap.size w w2∧V i v w2)∧
      ∀v w2,(Below w.heap.size w w2∧V i v w2)→(i∈([]:List Nat)→∃b,v=.pointer (some ⟨b,0,none⟩)∧w.heap.size≤b∧b<w2.heap.size)→wpAny P .any l.toArray (lift N Q) fuel (L.setIfInBounds i true) (a.put o.dst v) w2:=fun i him o ho hun' hed=>by
     have hiL:i<L.size:=by rw [hI.ls,hnn];omega
     have hed':∀o',l.toArray[i]?=some o'→∀e∈o'.after,Region.binds .any e=true→L.getD e.on false=true:=fun o' ho'=>by
      rw [ho] at ho';injection ho' with ho';subst ho';exact hed
     have hok':(l.take m)[i]?=some o:=by
      rw [YL,Xo him];simpa using ho
     obtain ⟨s,hs,hstab,hog⟩:=hdo i o hok';rw [XJ] at hstab hog;have hrdi:=hrd i him;rw [ho,hs] at hrdi;simp only [XF,XI] at hrdi;have hro:cS V ρ (fun t=>a.tmps.getD t undef) w s:=nj s fun p hp=>by
      have hp2:=hrdi.2 p hp
      cases hp3:p.2 with
      |some j=>
       rw [hp3] at hp2;simp only [XF,XN,YA] at hp2;exact hI.vs j p.1 hp2.1.1 (fW hM hI.cl i j hed' hp2.2) hp2.1.2
      |none=>
       rw [hp3] at hp2;refine hI.Hx p.1 fun j hj hjl hjd=> ?_;have h6:=XI.1 hp2 j (by simpa using hj);rw [hjd] at h6;simp only [beq_self_eq_true,aaq,X2,XF] at h6;have:=fW hM hI.cl j i (fun o' ho' e he hb=>hI.cl j o' ho' hjl e he hb) h6.2;rw [hun'] at this
       cases this
     have hnext:∀v w2,(Below w.heap.size w w2∧V i v w2)→(i∈([]:List Nat)→∃b,v=.pointer (some ⟨b,0,none⟩)∧w.heap.size≤b∧b<w2.heap.size)→wpAny P .any l.toArray (lift N Q) fuel (L.setIfInBounds i true) (a.put o.dst v) w2:=fun v w2 hv hfv=>by
      have hd1:∀d',o.dst=some d'→d'<a.tmps.size:=fun d' hd'=>by
       rw [hI.sz];exact hdN (i,d') (hpre i d' him (by rw [ho];exact hd'))
      have hput:∀j d,j<m→j≠i→(l.toArray[j]?).bind (·.dst)=some d→(a.put o.dst v).tmps.getD d undef=a.tmps.getD d undef:=fun j d hj hji hjd=>by
       cases hod:o.dst with
       |none=>rfl
       |some d'=>rw [dp (hd1 d' hod),Xp fun e=>hji (hone j i d hj him hjd (by rw [ho,e];exact hod))]
      have hputi:∀d,(l.toArray[i]?).bind (·.dst)=some d→(a.put o.dst v).tmps.getD d undef=v:=fun d hd=>by
       rw [ho] at hd;simp only [Zl] at hd;rw [hd,dp (hd1 d hd),Xo rfl]
      refine ih _ _ _ ?_ ?_
      ·refine ⟨?_, ?_,hJ _ _ hI.j hv.1,by simpa using hI.ls, ?_, ?_, ?_, ?_, ?_, ?_⟩
       ·cases o.dst<;>exact hI.nd
       ·cases hod:o.dst with
        |none=>exact hI.sz
        |some d=>simpa [Act.put] using hI.sz
       ·intro k ok hk hkl e he hb;rw [cI hiL] at hkl ⊢;by_cases hki:k=i
        ·subst hki;simp [hed' ok hk e he hb]
        ·simp only [hki,decide_false,X2] at hkl;simp [hI.cl k ok hk hkl e he hb]
       ·intro k hk;rw [cI hiL,hI.tl k hk];have:¬k=i:=Xj;simp [this]
       ·intro j d hj hjl hjd;rw [cI hiL] at hjl;have hd1:∀d',o.dst=some d'→d'<a.tmps.size:=fun d' hd'=>by
         rw [hI.sz];exact hdN (i,d') (hpre i d' him (by rw [ho];exact hd'))
        by_cases hji:j=i
        ·subst hji;rw [ho] at hjd;simp only [Zl] at hjd;rw [hjd,dp (hd1 d hjd),Xo rfl];exact hv.2
        ·simp only [hji,decide_false,X2] at hjl;have hold:=hI.vs j d hj hjl hjd;have hdj:(j,d)∈ds:=hpre j d hj hjd;have hst:=(hdo j (l.toArray[j]?.getD default) (by
          have:j<l.length:=Xj;rw [YL,Xo hj];simp [this])).choose_spec.2.1
         rw [XJ] at hst;have hne:∀d',o.dst=some d'→d≠d':=fun d' hd' e=>by
          subst e;exact hji (hone j i d hj him hjd (by rw [ho];exact hd'))
         cases hod:o.dst with
         |none=>exact hst _ _ _ hold hv.1
         |some d'=>
          rw [dp (hd1 d' hod),Xp (hne d' hod)];exact hst _ _ _ hold hv.1
       ·intro s' hs';have hni:((l.toArray[i]?).bind (·.dst))≠some s':=hs' i him (by rw [cI hiL];simp);have hold:=hI.Hx s' fun j hj hjl=>hs' j hj (by rw [cI hiL];simp [hjl]);rw [ho] at hni;simp only [Zl] at hni
        cases hod:o.dst with
        |none=>exact hold
        |some d'=>
         rw [dp (by rw [hI.sz];exact hdN (i,d') (hpre i d' him (by rw [ho];exact hod))),Xp (fun e=>hni (by rw [hod,e]))];exact hold
       ·intro j hj
        cases hj
       ·intro j hj
        cases hj
      ·have hLi:L.toList[i]?=some false:=by
        have h3:i<L.toList.length:=by simpa using hiL
        rw [YI h3];have:L.getD i false=L.toList[i]:=by simp [hiL]
        rw [←this,hun']
       rw [aaZ,List.countP_set (by simpa using hiL)];have h4:L.toList[i]'(by simpa using hiL)=false:=(XE.1 hLi).2;rw [h4];simp only [aab,if_false,if_true];omega
     exact ⟨hog _ w hI.j hro,hnext⟩
    refine ⟨fun hnil=> ?_,fun i hi=> ?_⟩
    ·exfalso;have hmin:∀k,(∃i,i<k∧i<m+1∧L.getD i false=false)→∃i,i<m+1∧L.getD i false=false∧∀j,j<i→L.getD j false=true:=by
      intro k
      induction k with
      |zero=>rintro ⟨i,h,_⟩;omega
      |succ k ihk=>
       rintro ⟨i,h1,h2,h3⟩;by_cases hex:∃i,i<k∧i<m+1∧L.getD i false=false
       ·exact ihk hex
       ·exact Uh
     obtain ⟨i,hi,hu,hlow⟩:=hmin (m+1) ⟨m,Xj,Xj,hI.tl m (Xr _)⟩;exact TV
    ·obtain ⟨hil,hun,o,ho,hed⟩:=(hready_spec i).1 hi;have hiL:i<L.size:=by rw [hI.ls,hnn];exact hil
     have hun':L.getD i false=false:=by
      exact TJ
     have hed':∀o',l.toArray[i]?=some o'→∀e∈o'.after,Region.binds .any e=true→L.getD e.on false=true:=fun o' ho'=>by
      exact JI
     rcases Yb i m with him|him
     ·obtain ⟨hog,hnext⟩:=both i him o ho hun' hed;have hgo:=hog.out a (wpAny P .any l.toArray (lift N Q) fuel (L.setIfInBounds i true)) (lift N Q) (fun _=>rfl) fun v w2 hv=>hnext v w2 hv fun h=>nomatch h;unfold wpOp;rw [ho];exact hgo
     ·rcases Yb m i with h2|h2
      ·exfalso;exact QM
      ·obtain rfl:i=m:=Xj;refine part L a w fuel hI (fun j hj hjf=> ?_) hc o ho;have h4:(l.length==i)=false:=by simp;omega
       rw [h4,X2] at htail;have h6:=XI.1 htail j (by simpa using hj);have h7:fl.contains j=false:=by simpa using hjf
       rw [h7,X2] at h6;exact fW hM hI.cl i j hed' h6
 exact S9
end
theorem qW {Q:Kq}{id:Nat}{l:List Oper} (fl M:List Nat) (m:Nat) (src:List (List (Nat×Option Nat))) (ds:List (Nat×Nat)) (Ds:List (List Nat×Nat×List (Nat×Nat))) {H:List HE} (hh:Hp w0 H w) (hm:P.follows .mixedOrders=true) (hok:zf l m N src ds fl M=true) (hDs:GK l m fl ds=Ds) (hmn:m<l.length)
  (h:DX P l.toArray (JJ w0 H w) ρ (fun V=>∀p∈Ds,∀f w',JJ w0 H w w'→wH V f w' p.2.2→WL .plain P N l.toArray (cB (fun ρ w=>WA P N l.toArray Q p.2.1 ((lD l.length m fl p.1).setIfInBounds m true) ρ w) Q) ((l.drop m).take 1) (jT ρ f p.2.2) w') 0 TU (l.take m) src):WC .plain P N (.region id l.toArray true) Q ρ w:=by
 obtain ⟨V,_,h1,h2⟩:=Gs _ _ _ _ (fun _ _ _ _=>trivial) h;exact Jr fl M m src ds Ds (JJ w0 H w) V hm hok hDs hmn (fun _ _ h hb=>h.ext hb) (JJ.start hh) h1 h2
theorem gL {d:Option Nat}{ty:TypeId}{af:Array Edge}{g:Option (Nat×Bool)}{t e:TypeId}{x lo:Operand}{A:Option Addr}{l sz:Nat}{k:IntKind}{m:Int} (ht:P.underlying t=some (.slice e)) (hsz:(P.info? e).map (·.size)=some sz) (hx:ev ρ x=.slice A n c) (hlo:ev ρ lo=.int k m)
  (hm:m=(l:Int)) (h1:l≤n) (h2:n≤c):(execOp (ev ρ) ⟨d,.slice t x (some lo) none none,ty,pos,af,g⟩).run P w=.ok (.value (.slice (if c=l then A else A.map (·.add (l*sz))) (n-l) (c-l))) w:=
 gW (lo:=some lo) (hi:=none) (l:=l) (h:=n) ht hsz hx ⟨k,m,hlo,hm⟩ rfl h1 h2
theorem Sl.front {A:Option Addr}{xs:List Value} (h:Sl w A n k xs) (hm:m≤n):Sl w A m k (xs.take (m*k)):=by
 have hle:m*k≤n*k:=Yr _ hm;refine ⟨by rw [XP,h.1];omega,fun h0=> ?_⟩;obtain ⟨ad,h1,h2⟩:=h.2 Xj;exact ⟨ad,h1,h2.take _⟩
theorem Sl.back {A:Option Addr}{l:Nat}{xs:List Value} (h:Sl w A n k xs) (hl:l≤n) (hc:n≤c):Sl w (if c=l then A else A.map (·.add (l*k))) (n-l) k (xs.drop (l*k)):=by
 have h1:=h.cut hl (Xr n) hc;have h2:((xs.drop (l*k)).take ((n-l)*k))=xs.drop (l*k):=Xz (by rw [Yz,h.1,Nat.sub_mul];exact Xr _);rwa [h2] at h1
def Dr (base:Nat) (t:TypeId) (sz:Nat):VP:=fun v W=>∃g,v=.slice (some ⟨g,0,none⟩) 0 0∧W.ownsRow base t sz (.slice (some ⟨g,0,none⟩) 0 0) 0 []
def n8 (base:Nat) (t:TypeId) (n sz:Nat) (cs:List Value):VP:=fun v W=>∃A c,v=.slice A n c∧W.ownsRow base t sz (.slice A n c) n cs
theorem pq {t:TypeId}{sz:Nat}{A:Option Addr}{xs:List Value} (h:w.ownsRow base t sz (.slice A n c) n xs) (hb:Below w.heap.size w w'):w'.ownsRow base t sz (.slice A n c) n xs:=by
 refine ⟨h.1,h.2.imp id ?_⟩;rintro ⟨g,cap,cur,h1,h2,h3,h4⟩;have hlt:g<w.heap.size:=by
  rcases Yb g w.heap.size with h|h
  ·exact h
  ·rw [Z5 h] at h3;cases h3
 exact ⟨g,cap,cur,h1,h2,(hb.block g hlt).trans h3,h4⟩
theorem Dr.ext {t:TypeId}{sz:Nat} (v:Value) (w w':World) (h:Dr base t sz v w) (hb:Below w.heap.size w w'):Dr base t sz v w':=let ⟨g,h1,h2⟩:=h;⟨g,h1,pq h2 hb⟩
theorem n8.ext {t:TypeId}{sz:Nat} (v:Value) (w w':World) (h:n8 base t n sz cs v w) (hb:Below w.heap.size w w'):n8 base t n sz cs v w':=let ⟨A,c,h1,h2⟩:=h;⟨A,c,h1,pq h2 hb⟩
theorem JJ.Ls {H:List HE}{t:TypeId}{sz:Nat}{A:Option Addr} (hs:Hp w0 H w) (h:Hp w0 H W) (ho:W.ownsRow w.heap.size t sz (.slice A n c) n cs):Hp w0 (.row A n c t sz cs::H) W:=by
 refine ⟨h.below,fun x hx=> ?_, ?_⟩
 ·rcases XL.1 hx with rfl|hx
  ·refine ⟨ho.1,ho.2.imp id ?_⟩;rintro ⟨g,cap,cur,h1,h2,h3⟩;exact ⟨g,cap,cur,h1,XV hs.size h2,h3⟩
  ·exact h.own x hx
 ·rw [Zk]
  rcases ho.2 with ⟨h1,_⟩|⟨g,cap,cur,h1,h2,_⟩
  ·injection h1 with e1
   subst e1;exact h.nd
  ·injection h1 with e1
   subst e1;show (g::H.filterMap HE.id).Nodup;refine Zs.2 ⟨fun hm=> ?_,h.nd⟩;obtain ⟨y,hy,hyb⟩:=Yx.1 hm;have:=(eb (hs.own y hy) hyb).2;omega
section
variable {P:Program}{ops:Array Oper}{J:World→Prop}{ρ:Rf}{T:(Nat→VP)→Prop}{i:Nat}{pv:Nat→VP}{os:List Oper}{s:List (Nat×Option Nat)}{ss:List (List (Nat×Option Nat))}{d:Option Nat}{ty:TypeId}{pos:String}{af:Array Edge}
theorem HW {t e:TypeId}{sz:Nat} (ht:P.underlying t=some (.slice e)) (hte:cQ P e=some (sz,ag,by',zc)) (hJ:∀w1,J w1→base≤w1.heap.size)
  (k:DX P ops J ρ T (i+1) (dD pv i (Dr base e sz)) os ss):DX P ops J ρ T i pv (⟨d,.buildSlice t 0 #[],ty,pos,af,none⟩::os) (s::ss):=
 aQ (Dr base e sz) Dr.ext (fun ρ1 w1 hj' h=>by
  have hb:Below w1.heap.size w1 (w1.alloc (.cells #[] e)):=(Below.refl _ _).alloc (Xr _) _;refine db rfl (w':=w1.alloc (.cells #[] e)) (v:=.slice (some ⟨w1.heap.size,0,none⟩) 0 0) ?_ ⟨hb,w1.heap.size,rfl,by simp,.inr ⟨w1.heap.size,0, #[],rfl,hJ w1 hj',heap_alloc_new w1 _,Xr _,by unfold maxLen;omega,by simp,by simp⟩⟩;have e0:Array.range 0= #[]:=rfl;simp [execOp,Instr.buildSlice,run_underlying ht,eM hte,Instr.fill,newRow,e0]) k
theorem wz {g:Nat}{t ty e:TypeId}{sz:Nat} (ht:P.underlying t=some (.slice e)) (hte:cQ P e=some (sz,ag,by',zc)) (hzl:zc.length=sz) (hsz:0<sz)
  (hown:w.ownsRow base e sz (.slice (some ⟨g,0,none⟩) 0 0) 0 []) {B:Option Addr} (hsl:Sl w B m sz news) (h1:∀u∈news,u.oneCell'=true)
  (h63:m≤maxLen) (hbytes:m*by'≤140737488355328) (hbase:base≤w.heap.size):
  ∃A' c2 w',(Builtin.append_ #[t,t] ty #[.slice (some ⟨g,0,none⟩) 0 0,.slice B m c']).run P w=.ok (.slice A' m c2) w'∧w'.ownsRow base e sz (.slice A' m c2) m news∧Below w.heap.size w w':=by
 obtain ⟨i,z,dd,hi,hd,hz,hs,hby,hzc,_⟩:=dI hte
 rcases Y3 m with h0|h0
 ·subst h0;have hnews:news=[]:=Y0 (by simpa using hsl.1);subst hnews;refine ⟨_,_,w, ?_,hown,Below.refl _ _⟩
  cases B with
  |none=>exact run_append_nothing w t t ty e i ht hi _ 0 0 (Xr _) _ (Src.ofNil w ht c')
  |some ad=>exact run_append_nothing w t t ty e i ht hi _ 0 0 (Xr _) _ (Src.ofSlice w ht ad 0 c' [] (by simp) (fun j u hu=>by simp at hu) (fun u hu=>by cases hu))
 ·obtain ⟨ad,rfl,hr⟩:=hsl.2 h0;have hsrc:Src P i.size t (.slice (some ad) m c') m news w:=Src.ofSlice w ht ad m c' news (by rw [hs];exact hsl.1) hr h1;have hfit:Builtin.nextslicecap (0+m) 0*i.bytes≤281474976710656:=growslice_fits Xj (by rw [hby,XJ];exact hbytes);have hb63:((0+m:Nat):Int)≤9223372036854775807:=by unfold maxLen at h63;omega
  have hone:∀base2:Option Addr,(Builtin.firstCells i.size 0 (.slice base2 0 0)).run P w.drew=.ok ([]:List Value).toArray w.drew:=fun base2=>by
   cases base2 with
   |none=>exact run_firstCells_none w.drew i.size 0 0 0
   |some a2=>exact run_firstCells_some w.drew i.size 0 a2 0 0 [] (by simp) (fun j u hu=>by simp at hu)
  have hA:=run_append_grow_src w t t ty e i z ht hi hz (some ⟨g,0,none⟩) 0 0 [] (hone _) _ m news hsrc Xj hb63 hfit;have hB:=run_append_grow_src w t t ty e i z ht hi hz none 0 0 [] (hone _) _ m news hsrc Xj hb63 hfit;obtain ⟨A',c2,w',r1,r2,r3,_⟩:=kX (P:=P) (w:=w) base t ty e sz by' ag zc ht hte hzl hsz none 0 0 [] (World.ownsRow_nil w base e sz) (some ad) m c' news ⟨hsl.1,fun _=>⟨ad,rfl,hr⟩⟩ h1 Xj (by rw [XJ];exact hbytes) hbase;rw [hB,←hA] at r1;rw [XJ] at r1 r2;rw [Xu] at r2;exact ⟨A',c2,w',r1,r2,r3.os,r3.tape,r3.output,r3.size,fun k hk=>r3.block k hk (by simp)⟩
theorem Dn {t e:TypeId}{x y:Operand}{sz:Nat} (hx:∀ρ1 w1,J w1→cS (pv) ρ ρ1 w1 s→Dr base e sz (ev ρ1 x) w1) (hy:∀ρ1 w1,J w1→cS (pv) ρ ρ1 w1 s→∃B c',ev ρ1 y=.slice B m c'∧Sl w1 B m sz news)
  (ht:P.underlying t=some (.slice e)) (hte:cQ P e=some (sz,ag,by',zc)) (hzl:zc.length=sz) (hsz:0<sz) (h1:news.all Value.oneCell'=true) (h63:m≤maxLen) (hbytes:m*by'≤140737488355328) (hJ:∀w1,J w1→base≤w1.heap.size)
  (k:DX P ops J ρ T (i+1) (dD pv i (n8 base e m sz news)) os ss):DX P ops J ρ T i pv (⟨d,.call ⟨.builtin .append, #[x,y], #[t,t]⟩,ty,pos,af,none⟩::os) (s::ss):=
 aQ (n8 base e m sz news) n8.ext (fun ρ1 w1 hj' h=>by
  obtain ⟨g,e1,ho⟩:=hx ρ1 w1 hj' h;obtain ⟨B,c',e2,hsl⟩:=hy ρ1 w1 hj' h;obtain ⟨A',c2,w',r1,r2,r3⟩:=wz (P:=P) (ty:=ty) (c':=c') ht hte hzl hsz ho hsl (fun u hu=>XI.1 h1 u hu) h63 hbytes (hJ w1 hj');refine db rfl (w':=w') (v:=.slice A' m c2) ?_ ⟨r3,A',c2,rfl,r2⟩;simp only [execOp,resolve,invoke,builtin,Sem.run_bind,Sem.run_pure,Result.andThen_ok,aax,XQ,Ye,e1,e2,r1]) k
end
section
variable {D:List Deferred}
section
variable {P:Program}{N:Nat}{Q:Kq}{ρ:Rf}{w:World}
structure W8 (D:List Deferred) (N:Nat) (ops:Array Oper) (m μ:Nat) (ρ:Rf) (J:Bool→World→Prop) (V:Nat→Value→World→Prop) (L:Array Bool) (a:Act) (w:World):Prop where
 nd:a.defers=D
 sz:a.tmps.size=N
 j:J (L.getD μ false) w
 ls:L.size=ops.size
 cl:oR ops L
 tl:∀k,m≤k→L.getD k false=false
 vs:∀i d,i<m→L.getD i false=true→(ops[i]?).bind (·.dst)=some d→V i (a.tmps.getD d undef) w
 Hx:∀s,(∀i,i<m→L.getD i false=true→(ops[i]?).bind (·.dst)≠some s)→a.tmps.getD s undef=ρ s
end
def Wu (V:Nat→VP):List Nat→Prop
 |[]=>True
 |i::r=>(∀v w w',V i v w→V i v w')∧Wu V r
structure JC (w0:World) (H:List HE) (W:World):Prop where
 hp:Hp w0 H W
end
variable {args:Array Operand}{ft t':TypeId}{fz:Nat×Nat}{o off:Nat}{r:Bool}{vs:List Value}
section
variable {P:Program}{ops:Array Oper}{J:World→Prop}{ρ:Rf}{T:(Nat→VP)→Prop}{i:Nat}{pv:Nat→VP}{os:List Oper}{s:List (Nat×Option Nat)}{ss:List (List (Nat×Option Nat))}{d:Option Nat}{ty:TypeId}{pos:String}{af:Array Edge}{x y:Operand}{t u:TypeId}
theorem dJ {k:IntKind}{a:Int} (kk:DX P ops J ρ T (i+1) (dD pv i (Is (.int k a))) os ss) (hx:∀ρ1 w1,J w1→cS pv ρ ρ1 w1 s→ev ρ1 x=.int k a:=by intro ρ1 w1 hj hR;first|exact hR.1|exact hR.2.1|exact hR.2.2.1|exact rfl):DX P ops J ρ T i pv (⟨d,.move x,ty,pos,af,none⟩::os) (s::ss):=bj (fun ρ1 w1 hj h=>dF (hx ρ1 w1 hj h)) kk
theorem oQ {a:Bool} (kk:DX P ops J ρ T (i+1) (dD pv i (Is (.bool a))) os ss) (hx:∀ρ1 w1,J w1→cS pv ρ ρ1 w1 s→ev ρ1 x=.bool a:=by intro ρ1 w1 hj hR;first|exact hR.1|exact hR.2.1|exact hR.2.2.1|exact rfl):DX P ops J ρ T i pv (⟨d,.move x,ty,pos,af,none⟩::os) (s::ss):=bj (fun ρ1 w1 hj h=>dF (hx ρ1 w1 hj h)) kk
theorem WH {a:ByteArray} (kk:DX P ops J ρ T (i+1) (dD pv i (Is (.string a))) os ss) (hx:∀ρ1 w1,J w1→cS pv ρ ρ1 w1 s→ev ρ1 x=.string a:=by intro ρ1 w1 hj hR;first|exact hR.1|exact hR.2.1|exact hR.2.2.1|exact rfl):DX P ops J ρ T i pv (⟨d,.move x,ty,pos,af,none⟩::os) (s::ss):=bj (fun ρ1 w1 hj h=>dF (hx ρ1 w1 hj h)) kk
theorem fS {A:Option Addr} (kk:DX P ops J ρ T (i+1) (dD pv i (Is (.slice A n c))) os ss) (hx:∀ρ1 w1,J w1→cS pv ρ ρ1 w1 s→ev ρ1 x=.slice A n c:=by intro ρ1 w1 hj hR;first|exact hR.1|exact hR.2.1|exact hR.2.2.1|exact rfl):DX P ops J ρ T i pv (⟨d,.move x,ty,pos,af,none⟩::os) (s::ss):=bj (fun ρ1 w1 hj h=>dF (hx ρ1 w1 hj h)) kk
theorem Ur {l:List Value} (kk:DX P ops J ρ T (i+1) (dD pv i (Is (.tuple l.toArray))) os ss) (hx:∀ρ1 w1,J w1→cS pv ρ ρ1 w1 s→ev ρ1 x=.tuple l.toArray:=by intro ρ1 w1 hj hR;first|exact hR.1|exact hR.2.1|exact hR.2.2.1|exact rfl):DX P ops J ρ T i pv (⟨d,.move x,ty,pos,af,none⟩::os) (s::ss):=bj (fun ρ1 w1 hj h=>dF (hx ρ1 w1 hj h)) kk
theorem Nt {f:Fn}{l r:List Value} (kk:DX P ops J ρ T (i+1) (dD pv i (Is (.func f l.toArray r.toArray))) os ss) (hx:∀ρ1 w1,J w1→cS pv ρ ρ1 w1 s→ev ρ1 x=.func f l.toArray r.toArray:=by intro ρ1 w1 hj hR;first|exact hR.1|exact hR.2.1|exact hR.2.2.1|exact rfl):DX P ops J ρ T i pv (⟨d,.move x,ty,pos,af,none⟩::os) (s::ss):=bj (fun ρ1 w1 hj h=>dF (hx ρ1 w1 hj h)) kk
theorem Tf {a:Option Addr} (kk:DX P ops J ρ T (i+1) (dD pv i (Is (.pointer a))) os ss) (hx:∀ρ1 w1,J w1→cS pv ρ ρ1 w1 s→ev ρ1 x=.pointer a:=by intro ρ1 w1 hj hR;first|exact hR.1|exact hR.2.1|exact hR.2.2.1|exact rfl):DX P ops J ρ T i pv (⟨d,.move x,ty,pos,af,none⟩::os) (s::ss):=bj (fun ρ1 w1 hj h=>dF (hx ρ1 w1 hj h)) kk
theorem UO {a:Addr} (kk:DX P ops J ρ T (i+1) (dD pv i (Is (.pointer (some a)))) os ss) (hx:∀ρ1 w1,J w1→cS pv ρ ρ1 w1 s→ev ρ1 x=.pointer (some a):=by intro ρ1 w1 hj hR;first|exact hR.1|exact hR.2.1|exact hR.2.2.1|exact rfl):DX P ops J ρ T i pv (⟨d,.nilCheck x,ty,pos,af,none⟩::os) (s::ss):=bj (fun ρ1 w1 hj h=>uJ (hx ρ1 w1 hj h)) kk
theorem ej {c:TypeId}{f:Nat} [hf:fQ P c f off ft] (kk:DX P ops J ρ T (i+1) (dD pv i (Is (.pointer (some ⟨b,o+off,none⟩)))) os ss) (hx:∀ρ1 w1,J w1→cS pv ρ ρ1 w1 s→ev ρ1 x=.pointer (some ⟨b,o,none⟩):=by intro ρ1 w1 hj hR;first|exact hR.1|exact hR.2.1|exact hR.2.2.1|exact rfl):DX P ops J ρ T i pv (⟨d,.fieldAddr c x f,ty,pos,af,none⟩::os) (s::ss):=bj (fun ρ1 w1 hj h=>rR hf.out (hx ρ1 w1 hj h)) kk
theorem IU {c:TypeId}{f:Nat} [hf:fQ P c f off ft] (kk:DX P ops J ρ T (i+1) (dD pv i (Is (.pointer (some (ad.add off))))) os ss) (hx:∀ρ1 w1,J w1→cS pv ρ ρ1 w1 s→ev ρ1 x=.pointer (some ad):=by intro ρ1 w1 hj hR;first|exact hR.1|exact hR.2.1|exact hR.2.2.1|exact rfl):DX P ops J ρ T i pv (⟨d,.fieldAddr c x f,ty,pos,af,none⟩::os) (s::ss):=bj (fun ρ1 w1 hj h=>pG hf.out (hx ρ1 w1 hj h)) kk
theorem qS {v:Value} (hc:∀w1,J w1→w1.cell? ad=some v) [ht:aM P t n false by' zc] (kk:DX P ops J ρ T (i+1) (dD pv i (Is (v))) os ss) (hx:∀ρ1 w1,J w1→cS pv ρ ρ1 w1 s→ev ρ1 x=.pointer (some ad):=by intro ρ1 w1 hj hR;first|exact hR.1|exact hR.2.1|exact hR.2.2.1|exact rfl):DX P ops J ρ T i pv (⟨d,.load t x,ty,pos,af,none⟩::os) (s::ss):=bj (fun ρ1 w1 hj h=>jN ht.out (hx ρ1 w1 hj h) (hc w1 hj)) kk
theorem so (vs:List Value) (hc:∀w1,J w1→Rd w1 ad vs) [ht:aM P t n true by' zc] (kk:DX P ops J ρ T (i+1) (dD pv i (Is (.agg vs.toArray))) os ss) (hx:∀ρ1 w1,J w1→cS pv ρ ρ1 w1 s→ev ρ1 x=.pointer (some ad):=by intro ρ1 w1 hj hR;first|exact hR.1|exact hR.2.1|exact hR.2.2.1|exact rfl) (hl:vs.length=n:=by exact rfl):DX P ops J ρ T i pv (⟨d,.load t x,ty,pos,af,none⟩::os) (s::ss):=bj (fun ρ1 w1 hj h=>vp ht.out (hx ρ1 w1 hj h) (hc w1 hj) hl) kk
theorem fN {H:List HE}{v:Value} (j:Nat) [ht:aM P t n false by' zc] (kk:DX P ops (JJ w0 H w) ρ T (i+1) (dD pv i (Is (v))) os ss) (hx:∀ρ1 w1,JJ w0 H w w1→cS pv ρ ρ1 w1 s→ev ρ1 x=.pointer (some ⟨b,o,none⟩):=by intro ρ1 w1 hj hR;first|exact hR.1|exact hR.2.1|exact hR.2.2.1|exact rfl) (hi:H[j]?=some (.blk b t' cs fz):=by exact rfl) (hv:cs[o]?=some v:=by exact rfl):DX P ops (JJ w0 H w) ρ T i pv (⟨d,.load t x,ty,pos,af,none⟩::os) (s::ss):=bj (fun ρ1 w1 hj h=>jN ht.out (hx ρ1 w1 hj h) (hj.hp.dE hi hv)) kk
theorem fG {H:List HE} (j:Nat) (vs:List Value) [ht:aM P t n true by' zc] (kk:DX P ops (JJ w0 H w) ρ T (i+1) (dD pv i (Is (.agg vs.toArray))) os ss) (hx:∀ρ1 w1,JJ w0 H w w1→cS pv ρ ρ1 w1 s→ev ρ1 x=.pointer (some ⟨b,o,none⟩):=by intro ρ1 w1 hj hR;first|exact hR.1|exact hR.2.1|exact hR.2.2.1|exact rfl) (hi:H[j]?=some (.blk b t' cs fz):=by exact rfl) (hv:(cs.drop o).take n=vs:=by exact rfl) (hl:vs.length=n:=by exact rfl):DX P ops (JJ w0 H w) ρ T i pv (⟨d,.load t x,ty,pos,af,none⟩::os) (s::ss):=bj (fun ρ1 w1 hj h=>vp ht.out (hx ρ1 w1 hj h) (hj.hp.bY hi hv) hl) kk
theorem AU {e:TypeId}{B:Option Addr} [ht:bh P t (.slice e)] (kk:DX P ops J ρ T (i+1) (dD pv i (Is (.int .i64 n))) os ss) (hx:∀ρ1 w1,J w1→cS pv ρ ρ1 w1 s→ev ρ1 x=.slice B n c:=by intro ρ1 w1 hj hR;first|exact hR.1|exact hR.2.1|exact hR.2.2.1|exact rfl):DX P ops J ρ T i pv (⟨d,.call ⟨.builtin .len, #[x], #[t]⟩,ty,pos,af,none⟩::os) (s::ss):=bj (fun ρ1 w1 hj h=>Bz ht.out (hx ρ1 w1 hj h)) kk
theorem SM {k:IntKind}{a b:Int} (kk:DX P ops J ρ T (i+1) (dD pv i (Is (.bool r))) os ss) (hx:∀ρ1 w1,J w1→cS pv ρ ρ1 w1 s→ev ρ1 x=.int k a:=by intro ρ1 w1 hj hR;first|exact hR.1|exact hR.2.1|exact hR.2.2.1|exact rfl) (hy:∀ρ1 w1,J w1→cS pv ρ ρ1 w1 s→ev ρ1 y=.int k b:=by intro ρ1 w1 hj hR;first|exact hR.1|exact hR.2.1|exact hR.2.2.1|exact rfl) (hr:decide (b<a)=r:=by first|exact XH Xj|exact XM Xj|exact rfl):DX P ops J ρ T i pv (⟨d,.binOp .gtr t x y u,ty,pos,af,none⟩::os) (s::ss):=bj (fun ρ1 w1 hj h=>by rw [←hr];exact Fb (hx ρ1 w1 hj h) (hy ρ1 w1 hj h)) kk
theorem yH {k:IntKind}{a b:Int} (kk:DX P ops J ρ T (i+1) (dD pv i (Is (.bool r))) os ss) (hx:∀ρ1 w1,J w1→cS pv ρ ρ1 w1 s→ev ρ1 x=.int k a:=by intro ρ1 w1 hj hR;first|exact hR.1|exact hR.2.1|exact hR.2.2.1|exact rfl) (hy:∀ρ1 w1,J w1→cS pv ρ ρ1 w1 s→ev ρ1 y=.int k b:=by intro ρ1 w1 hj hR;first|exact hR.1|exact hR.2.1|exact hR.2.2.1|exact rfl) (hr:decide (a=b)=r:=by first|exact XH Xj|exact XM Xj|exact rfl):DX P ops J ρ T i pv (⟨d,.binOp .eql t x y u,ty,pos,af,none⟩::os) (s::ss):=bj (fun ρ1 w1 hj h=>by rw [←hr];exact GS (hx ρ1 w1 hj h) (hy ρ1 w1 hj h)) kk
theorem rL {a b:Int} (kk:DX P ops J ρ T (i+1) (dD pv i (Is (.int .i64 (a+b)))) os ss) (hx:∀ρ1 w1,J w1→cS pv ρ ρ1 w1 s→ev ρ1 x=.int .i64 a:=by intro ρ1 w1 hj hR;first|exact hR.1|exact hR.2.1|exact hR.2.2.1|exact rfl) (hy:∀ρ1 w1,J w1→cS pv ρ ρ1 w1 s→ev ρ1 y=.int .i64 b:=by intro ρ1 w1 hj hR;first|exact hR.1|exact hR.2.1|exact hR.2.2.1|exact rfl) (h1: -9223372036854775808≤a+b:=by omega) (h2:a+b≤9223372036854775807:=by omega):DX P ops J ρ T i pv (⟨d,.binOp .add t x y u,ty,pos,af,none⟩::os) (s::ss):=bj (fun ρ1 w1 hj h=>Ma (hx ρ1 w1 hj h) (hy ρ1 w1 hj h) h1 h2) kk
theorem vx {a b:Int} (kk:DX P ops J ρ T (i+1) (dD pv i (Is (.int .i64 (a-b)))) os ss) (hx:∀ρ1 w1,J w1→cS pv ρ ρ1 w1 s→ev ρ1 x=.int .i64 a:=by intro ρ1 w1 hj hR;first|exact hR.1|exact hR.2.1|exact hR.2.2.1|exact rfl) (hy:∀ρ1 w1,J w1→cS pv ρ ρ1 w1 s→ev ρ1 y=.int .i64 b:=by intro ρ1 w1 hj hR;first|exact hR.1|exact hR.2.1|exact hR.2.2.1|exact rfl) (h1: -9223372036854775808≤a-b:=by omega) (h2:a-b≤9223372036854775807:=by omega):DX P ops J ρ T i pv (⟨d,.binOp .sub t x y u,ty,pos,af,none⟩::os) (s::ss):=bj (fun ρ1 w1 hj h=>LZ (hx ρ1 w1 hj h) (hy ρ1 w1 hj h) h1 h2) kk
theorem Nq {a b:Int} (kk:DX P ops J ρ T (i+1) (dD pv i (Is (.int .i64 (a*b)))) os ss) (hx:∀ρ1 w1,J w1→cS pv ρ ρ1 w1 s→ev ρ1 x=.int .i64 a:=by intro ρ1 w1 hj hR;first|exact hR.1|exact hR.2.1|exact hR.2.2.1|exact rfl) (hy:∀ρ1 w1,J w1→cS pv ρ ρ1 w1 s→ev ρ1 y=.int .i64 b:=by intro ρ1 w1 hj hR;first|exact hR.1|exact hR.2.1|exact hR.2.2.1|exact rfl) (h1: -9223372036854775808≤a*b:=by omega) (h2:a*b≤9223372036854775807:=by omega):DX P ops J ρ T i pv (⟨d,.binOp .mul t x y u,ty,pos,af,none⟩::os) (s::ss):=bj (fun ρ1 w1 hj h=>JT (hx ρ1 w1 hj h) (hy ρ1 w1 hj h) h1 h2) kk
theorem H7 {b:Bool} (kk:DX P ops J ρ T (i+1) (dD pv i (Is (.bool !b))) os ss) (hx:∀ρ1 w1,J w1→cS pv ρ ρ1 w1 s→ev ρ1 x=.bool b:=by intro ρ1 w1 hj hR;first|exact hR.1|exact hR.2.1|exact hR.2.2.1|exact rfl):DX P ops J ρ T i pv (⟨d,.unOp .not t x,ty,pos,af,none⟩::os) (s::ss):=bj (fun ρ1 w1 hj h=>QZ (hx ρ1 w1 hj h)) kk
theorem J4 {v:Value} (kk:DX P ops J ρ T (i+1) (dD pv i (Is (v))) os ss) (hx:∀ρ1 w1,J w1→cS pv ρ ρ1 w1 s→ev ρ1 x=.tuple vs.toArray:=by intro ρ1 w1 hj hR;first|exact hR.1|exact hR.2.1|exact hR.2.2.1|exact rfl) (hv:vs[j]?=some v:=by exact rfl):DX P ops J ρ T i pv (⟨d,.extract x j,ty,pos,af,none⟩::os) (s::ss):=bj (fun ρ1 w1 hj h=>fB (hx ρ1 w1 hj h) hv) kk
theorem Hf {c a b:Operand}{v:Bool} (kk:DX P ops J ρ T (i+1) (dD pv i (Is (.bool v))) os ss) (hc:∀ρ1 w1,J w1→cS pv ρ ρ1 w1 s→ev ρ1 c=.bool true:=by intro ρ1 w1 hj hR;first|exact hR.1|exact hR.2.1|exact hR.2.2.1|exact rfl) (hx:∀ρ1 w1,J w1→cS pv ρ ρ1 w1 s→ev ρ1 a=.bool v:=by intro ρ1 w1 hj hR;first|exact hR.1|exact hR.2.1|exact hR.2.2.1|exact rfl):DX P ops J ρ T i pv (⟨d,.pick c a b,ty,pos,af,none⟩::os) (s::ss):=bj (fun ρ1 w1 hj h=>Cz (hc ρ1 w1 hj h) (hx ρ1 w1 hj h)) kk
theorem O4 {c a b:Operand}{v:Bool} (kk:DX P ops J ρ T (i+1) (dD pv i (Is (.bool v))) os ss) (hc:∀ρ1 w1,J w1→cS pv ρ ρ1 w1 s→ev ρ1 c=.bool false:=by intro ρ1 w1 hj hR;first|exact hR.1|exact hR.2.1|exact hR.2.2.1|exact rfl) (hx:∀ρ1 w1,J w1→cS pv ρ ρ1 w1 s→ev ρ1 b=.bool v:=by intro ρ1 w1 hj hR;first|exact hR.1|exact hR.2.1|exact hR.2.2.1|exact rfl):DX P ops J ρ T i pv (⟨d,.pick c a b,ty,pos,af,none⟩::os) (s::ss):=bj (fun ρ1 w1 hj h=>Cl (hc ρ1 w1 hj h) (hx ρ1 w1 hj h)) kk
theorem LC {e:TypeId}{sz:Nat}{q:IntKind}{m:Int} (k:Nat) [ht:bh P t (.slice e)] [hs:TS P e sz] (kk:DX P ops J ρ T (i+1) (dD pv i (Is (.pointer (some ⟨b,k*sz,none⟩)))) os ss) (hx:∀ρ1 w1,J w1→cS pv ρ ρ1 w1 s→ev ρ1 x=.slice (some ⟨b,0,none⟩) n c:=by intro ρ1 w1 hj hR;first|exact hR.1|exact hR.2.1|exact hR.2.2.1|exact rfl) (hy:∀ρ1 w1,J w1→cS pv ρ ρ1 w1 s→ev ρ1 y=.int q m:=by intro ρ1 w1 hj hR;first|exact hR.1|exact hR.2.1|exact hR.2.2.1|exact rfl) (hm:m=(k:Int):=by omega) (h1:k<n:=by omega):DX P ops J ρ T i pv (⟨d,.indexAddr t x y,ty,pos,af,none⟩::os) (s::ss):=bj (fun ρ1 w1 hj h=>lX ht.out hs.out (hx ρ1 w1 hj h) (hy ρ1 w1 hj h) hm h1) kk
theorem ow {e:TypeId}{sz:Nat}{q:IntKind}{m:Int} (k:Nat) [ht:bh P t (.slice e)] [hs:TS P e sz] (kk:DX P ops J ρ T (i+1) (dD pv i (Is (.pointer (some (ad.add (k*sz)))))) os ss) (hx:∀ρ1 w1,J w1→cS pv ρ ρ1 w1 s→ev ρ1 x=.slice (some ad) n c:=by intro ρ1 w1 hj hR;first|exact hR.1|exact hR.2.1|exact hR.2.2.1|exact rfl) (hy:∀ρ1 w1,J w1→cS pv ρ ρ1 w1 s→ev ρ1 y=.int q m:=by intro ρ1 w1 hj hR;first|exact hR.1|exact hR.2.1|exact hR.2.2.1|exact rfl) (hm:m=(k:Int):=by omega) (h1:k<n:=by omega):DX P ops J ρ T i pv (⟨d,.indexAddr t x y,ty,pos,af,none⟩::os) (s::ss):=bj (fun ρ1 w1 hj h=>fC ht.out hs.out (hx ρ1 w1 hj h) (hy ρ1 w1 hj h) hm h1) kk
theorem dC {f:FuncId}{ts:Array TypeId}{v:Value} (hc:∀w1,J w1→Calls P f vs.toArray w1 fun e w'=>e=.returned v∧Below w1.heap.size w1 w') [hf:ar P f] (kk:DX P ops J ρ T (i+1) (dD pv i (Is (v))) os ss) (ha:∀ρ1 w1,J w1→cS pv ρ ρ1 w1 s→wc ρ1 args.toList=vs:=by intro ρ1 w1 hj hR;repeat (first|exact aU|(apply av;first|exact hR.1|exact hR.2.1|exact hR.2.2.1|exact hR.2.2.2.1|exact rfl))):DX P ops J ρ T i pv (⟨d,.call ⟨.value (.func f),args,ts⟩,ty,pos,af,none⟩::os) (s::ss):=ND (fun ρ1 w1 hj h=>aJ hf.out (ha ρ1 w1 hj h)) hc kk
theorem dB {pl:List (Nat×Nat)} (cs:List Value) [hte:aM P t n true by' zc] [hpl:ml P t pl] (kk:DX P ops J ρ T (i+1) (dD pv i (Is (.agg cs.toArray))) os ss) (hp:∀ρ1 w1,J w1→cS pv ρ ρ1 w1 s→wh ρ1 parts.toList=ps:=by intro ρ1 w1 hj hR;repeat (first|exact bZ|(apply aN;first|exact hR.1|exact hR.2.1|exact hR.2.2.1|exact hR.2.2.2.1|exact rfl))) (hf:ky (pl[·]?) zc ps=some cs:=by exact rfl):DX P ops J ρ T i pv (⟨d,.build t parts,ty,pos,af,none⟩::os) (s::ss):=bj (fun ρ1 w1 hj h=>tH hte.out hpl.out (hp ρ1 w1 hj h) hf) kk
theorem rD {e:TypeId}{len sz:Nat} (cs:List Value) [ht:bh P t (.slice e)] [hte:aM P e sz ag by' zc] (kk:DX P ops J ρ T (i+1) (dD pv i (Rows len sz cs)) os ss) (hp:∀ρ1 w1,J w1→cS pv ρ ρ1 w1 s→wh ρ1 parts.toList=ps:=by intro ρ1 w1 hj hR;repeat (first|exact bZ|(apply aN;first|exact hR.1|exact hR.2.1|exact hR.2.2.1|exact hR.2.2.2.1|exact rfl))) (hzl:zc.length=sz:=by exact rfl) (hf:ky (fun i=>some (i*sz,sz)) (eZ len zc) ps=some cs:=by exact rfl) (h0:¬len*sz=0:=by decide) (hsl:len*sz≤16777216:=by decide) (hl:cs.length=len*sz:=by exact rfl):DX P ops J ρ T i pv (⟨d,.buildSlice t len parts,ty,pos,af,none⟩::os) (s::ss):=wu ht.out hte.out hp hzl hf h0 hsl hl kk
theorem dS {b c:Bool}{op:Op} (kk:DX P ops J ρ T (i+1) (dD pv i (Is (undef))) os ss) (hj:(ops[j]?).bind (·.dst)=some dj:=by exact rfl) (hv:∀ρ1 w1,J w1→cS pv ρ ρ1 w1 s→ρ1 dj=.bool c:=by intro ρ1 w1 hj hR;first|exact hR.1|exact hR.2.1|exact hR.2.2.1|exact hR.2.2.2.1) (hb:c≠b:=by decide):DX P ops J ρ T i pv (⟨d,op,ty,pos,af,some (j,b)⟩::os) (s::ss):=yU hj hv hb kk
theorem dU {b:Bool}{op:Op} (kk:DX P ops J ρ T (i+1) (dD pv i (Is (undef))) os ss) (hj:(ops[j]?).bind (·.dst)=some dj:=by exact rfl) (hv:∀ρ1 w1,J w1→cS pv ρ ρ1 w1 s→ρ1 dj=undef:=by intro ρ1 w1 hj hR;first|exact hR.1|exact hR.2.1|exact hR.2.2.1|exact hR.2.2.2.1):DX P ops J ρ T i pv (⟨d,op,ty,pos,af,some (j,b)⟩::os) (s::ss):=AP hj hv kk
theorem dG {b:Bool}{op:Op} (kk:DX P ops J ρ T i pv (⟨d,op,ty,pos,af,none⟩::os) (s::ss)) (hj:(ops[j]?).bind (·.dst)=some dj:=by exact rfl) (hv:∀ρ1 w1,J w1→cS pv ρ ρ1 w1 s→ρ1 dj=.bool b:=by intro ρ1 w1 hj hR;first|exact hR.1|exact hR.2.1|exact hR.2.2.1|exact hR.2.2.2.1):DX P ops J ρ T i pv (⟨d,op,ty,pos,af,some (j,b)⟩::os) (s::ss):=let ⟨V,h1,h2,h3⟩:=kk;⟨V,h1,fun ρ1 w1 hj1 h=>a9 hj (hv ρ1 w1 hj1 h) (h2 ρ1 w1 hj1 h),h3⟩
end
variable {cy:Nat}
section
variable {ro:Mode}
section
variable {P:Program}{N:Nat}{ops:Array Oper}{Q:Kq}{ρ:Rf}{w w0:World}{rest:List Oper}{H:List HE}{d:Nat}{ty:TypeId}{pos:String}{af:Array Edge}
theorem OZ (hh:Hp w0 H w) {t s e:TypeId}{x y:Operand}{i dl dc sz:Nat}{B:Option Addr}{xs:List Value} (hi:H[i]?=some (.row (some ⟨b,0,none⟩) m c e sz xs)) (hx:ev ρ x=.slice (some ⟨b,o,none⟩) dl dc) (hy:ev ρ y=.slice B n cy)
  (hsl:Sl w B n sz news) (ht:P.underlying t=some (.slice e)) (hte:cQ P e=some (sz,ag,by',zc)) (ho:o+min n dl*sz≤xs.length) (h1:(news.all Value.oneCell')=true) (hN:d<N)
  (kk:∀w',Hp w0 (H.set i (.row (some ⟨b,0,none⟩) m c e sz (cm xs o (news.take (min n dl*sz))))) w'→WL ro P N ops Q rest (cG ρ d (.int .i64 ((min n dl:Nat):Int))) w'):
  WL ro P N ops Q (⟨some d,.call ⟨.builtin .copy, #[x,y], #[t,s]⟩,ty,pos,af,none⟩::rest) ρ w:=by
 obtain ⟨inf,z,dd,hti,hd,hz,hsz,hby,hzc,_⟩:=dI hte;have hrow:=hh.at_ hi;obtain ⟨hlen,h2⟩:=hrow;have hnl:=hsl.1;have hmin:min n dl*sz≤n*sz:=Yr _ (Nat.min_le_left _ _);have hvl:(news.take (min n dl*sz)).length=min n dl*sz:=by rw [XP];omega
 have h1':∀v∈news.take (min n dl*sz),v.oneCell'=true:=fun v hv=>XI.1 h1 v (YY hv);have hcells:(Builtin.firstCells sz (min n dl) (.slice B n cy)).run P w=.ok (news.take (min n dl*sz)).toArray w:=by
  cases B with
  |none=>
   have h0:n=0:=by
    rcases Y3 n with h0|h0
    ·exact h0
    ·obtain ⟨ad,h1,_⟩:=hsl.2 h0;cases h1
   subst h0;simp [Builtin.firstCells]
  |some ad=>
   have hrd:∀j u,(news.take (min n dl*sz))[j]?=some u→w.cell? (ad.add j)=some u:=by
    intro j u hj;rw [YL] at hj;split at hj
    ·rcases Y3 n with h0|h0
     ·subst h0;have:news=[]:=Y0 (by simpa using hnl);simp [this] at hj
     ·obtain ⟨ad',he,hr'⟩:=hsl.2 h0;injection he with he
      subst he;exact hr' j u hj
    ·cases hj
   have:=run_loadCells_list (P:=P) w ad _ hrd;rw [hvl] at this;simpa [Builtin.firstCells] using this
 generalize news.take (min n dl*sz)=vs at hvl h1' hcells kk;rw [←hvl] at ho
 rcases h2 with ⟨h2,_⟩|⟨g,cap,cur,hv,hg,hheap,hmc,hcm,hcur,htake⟩
 ·injection h2 with h2;cases h2
 ·injection hv with hA hn hcap
  injection hA with hA
  injection hA with hA
  subst hA;subst hcap;have hcl:cur.size=cur.toList.length:=by simp
  have hle:m*sz≤c*sz:=Yr _ hmc;obtain ⟨w',hr,hb',hgr,hs⟩:=gG (P:=P) (b:=b) (t:=e) (fz:=(0,0)) o vs 0 cur.toList w (by simpa using hheap) (.inr (Xr _)) (by rw [←hcl];omega) h1';refine aP rfl rfl hN (w':=w') (v:=.int .i64 ((min n dl:Nat):Int)) ?_ (kk w' (hh.grown hi hgr (.inl rfl) ⟨by rw [fw Xj];exact hlen,.inr ⟨b,c,(cm cur.toList o vs).toArray,rfl,hg,by simpa using hb',hmc,hcm, ?_, ?_⟩⟩))
  ·have hmm:Nat.min n dl=min n dl:=rfl;simp only [execOp,resolve,invoke,hx,hy,aax,XQ,Ye];simp [builtin,Builtin.copy_,run_underlying ht,Builtin.lenOf,sizeOf,typeInfo,hti,hsz,hmm,hcells,hr,goInt]
  ·simp only [ZL];rw [fw (by rw [←hcl];omega),←hcl,hcur]
  ·exact TN
end
end
def bB (B:Nat):List Nat→Nat
 |[]=>0
 |d::l=>d+B*bB B l
def bV (B:Nat):Nat→Nat→List Nat
 |0,_=>[]
 |k+1,n=>n % B::bV B k (n/B)
def dX:List Nat→List Nat
 |[]=>[]
 |d::l=>match dX l with
  |[]=>if d=0 then [] else [d]
  |e::m=>d::e::m
def aZ (B n:Nat):List Nat:=dX (bV B (n.log2+1) n)
def Dg (B:Nat) (l:List Nat):Prop:=∀d∈l,d<B
section
variable {B:Nat}
theorem Dg.nil:Dg B []:=fun _ h=>(nomatch h)
theorem Dg.cons {d:Nat}{l:List Nat} (h:d<B) (hl:Dg B l):Dg B (d::l):=fun x hx=>by
 rcases XL.1 hx with rfl|hx
 ·exact h
 ·exact hl x hx
theorem Dg.head {d:Nat}{l:List Nat} (h:Dg B (d::l)):d<B:=h d XB
theorem Dg.tail {d:Nat}{l:List Nat} (h:Dg B (d::l)):Dg B l:=fun x hx=>h x (XD _ hx)
theorem Dg.append {l m:List Nat} (h:Dg B l) (h':Dg B m):Dg B (l++m):=fun x hx=>by
 rcases X3.1 hx with hx|hx
 ·exact h x hx
 ·exact h' x hx
theorem Dg.sub {l m:List Nat} (h:Dg B l) (h':m.Sublist l):Dg B m:=fun x hx=>h x (h'.subset hx)
theorem Dg.take {l:List Nat} (h:Dg B l) (n:Nat):Dg B (l.take n):=h.sub (List.take_sublist n l)
theorem Dg.drop {l:List Nat} (h:Dg B l) (n:Nat):Dg B (l.drop n):=h.sub (List.drop_sublist n l)
theorem Dg.at_ {l:List Nat} (h:Dg B l) {i d:Nat} (hi:l[i]?=some d):d<B:=h d (Xt hi)
theorem Dg.NA {l:List Nat} (h:Dg B l) (i:Nat) {d:Nat} (hd:d<B):Dg B (l.set i d):=fun x hx=>by
 rcases aaC hx with hx|rfl
 ·exact h x hx
 ·exact hd
theorem Dg.gh (hB:0<B) (n:Nat):Dg B (List.replicate n 0):=fun x hx=>by rw [List.eq_of_mem_replicate hx];exact hB
theorem eO (l m:List Nat):bB B (l++m)=bB B l+B^l.length*bB B m:=by
 induction l with
 |nil=>simp [bB]
 |cons d l ih=>simp only [Xw,bB,ih,XR,Yj];rw [Yl,ZU];congr 2;rw [←Yp,XY B]
theorem iI {l:List Nat} (h:Dg B l):bB B l<B^l.length:=by
 induction l with
 |nil=>simp [bB]
 |cons d l ih=>
  have h1:=ih h.tail;have h2:=h.head;simp only [bB,XR,Yj]
  calc d+B*bB B l<B+B*bB B l:=by omega
   _=B*(bB B l+1):=by rw [Yl,XK,Zh]
   _≤B*B^l.length:=X4 _ h1
   _=B^l.length*B:=XY _ _
theorem qT (n:Nat):bB B (List.replicate n 0)=0:=by
 induction n with
 |zero=>rfl
 |succ n ih=>simp [ZB,bB,ih]
theorem aT (k n:Nat):(bV B k n).length=k:=by
 induction k generalizing n with
 |zero=>rfl
 |succ k ih=>simp [bV,ih]
theorem gk (hB:0<B) (k n:Nat):Dg B (bV B k n):=by
 induction k generalizing n with
 |zero=>exact Dg.nil
 |succ k ih=>exact Dg.cons (XW _ hB) (ih _)
theorem KV (k n:Nat):bB B (bV B k n)=n % B^k:=by
 induction k generalizing n with
 |zero=>simp [bV,bB,Nat.mod_one]
 |succ k ih=>rw [bV,bB,ih,Yj,XY (B^k),Nat.mod_mul]
theorem dq (h:n<B^k):bB B (bV B k n)=n:=by rw [KV,X5 h]
theorem u7 {l:List Nat} (h:Dg B l):bV B l.length (bB B l)=l:=by
 induction l with
 |nil=>rfl
 |cons d l ih=>
  have hd:=h.head;simp only [XR,bV,bB];rw [YW,X5 hd,Yy _ _ Xj,Yk hd,XJ,ih h.tail]
theorem yT {l m:List Nat} (hl:Dg B l) (hm:Dg B m) (hlen:l.length=m.length) (h:bB B l=bB B m):l=m:=by
 rw [←u7 hl,←u7 hm,hlen,h]
theorem iF (k n i:Nat) (h:i<k):(bV B k n)[i]?=some (n/B^i % B):=by
 induction k generalizing n i with
 |zero=>omega
 |succ k ih=>
  cases i with
  |zero=>simp [bV]
  |succ i=>simp only [bV,aaa];rw [ih _ _ Xj,Y6,Yj,XY B]
theorem tG {l:List Nat} (h:Dg B l) {i d:Nat} (hi:l[i]?=some d):bB B l/B^i % B=d:=by
 have h1:=iF (B:=B) l.length (bB B l) i (XE.1 hi).1;rw [u7 h,hi] at h1;injection h1 with h1
 exact h1.symm
theorem tT {l:List Nat} (h:Dg B l) {i:Nat} (hi:l.length≤i) (hB:0<B):bB B l/B^i=0:=
 Yk (Yt (iI h) (Yf hB hi))
theorem jm (l:List Nat) (i:Nat) (h:i≤l.length):bB B l=bB B (l.take i)+B^i*bB B (l.drop i):=by
 have:=eO (B:=B) (l.take i) (l.drop i);rw [Yg,List.length_take_of_le h] at this;exact this
theorem lL (l:List Nat):bB B (dX l)=bB B l:=by
 induction l with
 |nil=>rfl
 |cons d l ih=>
  simp only [dX,bB];split
  ·rename_i h;rw [h] at ih;simp only [bB] at ih;split
   ·rename_i h0;rw [h0,←ih];simp [bB]
   ·rw [←ih];simp [bB]
  ·rename_i e m h;rw [h] at ih;rw [←ih];rfl
theorem j0 (l:List Nat):dX l=l.take (dX l).length:=by
 induction l with
 |nil=>rfl
 |cons d l ih=>
  simp only [dX];split
  ·split
   ·rfl
   ·simp
  ·rename_i e m h;rw [h] at ih;simp only [XR,List.take_succ_cons] at ih ⊢;rw [←ih]
theorem fg (l:List Nat):(dX l).length≤l.length:=by
 have:=Yu List.length (j0 l);rw [XP] at this;omega
theorem xI (l:List Nat):(dX l).getLast?≠some 0:=by
 induction l with
 |nil=>simp [dX]
 |cons d l ih=>
  simp only [dX];split
  ·split
   ·simp
   ·simpa
  ·rename_i e m h;rw [h] at ih;rwa [List.getLast?_cons_cons]
theorem Dg.cut {l:List Nat} (h:Dg B l):Dg B (dX l):=by rw [j0];exact h.take _
theorem HC {l:List Nat} (h:l.getLast?≠some 0):dX l=l:=by
 induction l with
 |nil=>rfl
 |cons d l ih=>
  cases l with
  |nil=>simp only [dX];rw [Xp];intro h0;subst h0;simp at h
  |cons e m=>
   rw [List.getLast?_cons_cons] at h;rw [dX,ih h]
theorem uF (l:List Nat):dX (l++[0])=dX l:=by
 induction l with
 |nil=>simp [dX]
 |cons d l ih=>simp only [Xw,dX,ih]
theorem xg {l:List Nat}{d:Nat} (h:d≠0):dX (l++[d])=l++[d]:=HC (by simpa using h)
def Can (B:Nat) (l:List Nat):Prop:=Dg B l∧l.getLast?≠some 0
theorem Can.cut {l:List Nat} (h:Dg B l):Can B (dX l):=⟨h.cut,xI l⟩
theorem K2 {l:List Nat} (h:l.getLast?≠some 0) (hn:l≠[]):B^(l.length-1)≤bB B l:=by
 have h1:=List.dropLast_concat_getLast hn;have h2:l.getLast hn≠0:=by
  intro h0;apply h;rw [List.getLast?_eq_some_getLast hn,h0]
 rw [←h1,eO];simp only [Xy,List.length_dropLast,XR,aae];have:l.length-1+(0+1)-1=l.length-1:=Xj;rw [this];simp only [bB,Nat.mul_zero,YX];exact XV (aaO _ (Nat.pos_of_ne_zero h2)) (Nat.le_add_left _ _)
theorem Can.uo {l m:List Nat} (hl:Can B l) (hm:Can B m) (hB:1<B) (h:bB B l≤bB B m):l.length≤m.length:=by
 rcases Yb m.length l.length with hlt|hge
 ·exfalso;have hn:l≠[]:=by intro h0;simp [h0] at hlt
  have h1:=K2 (B:=B) hl.2 hn;have h2:=iI hm.1;have h3:B^m.length≤B^(l.length-1):=Yf Xj Xj;exact Nat.lt_irrefl _ (Yt h2 (XV h3 (XV h1 h)))
 ·exact hge
theorem Can.inj {l m:List Nat} (hl:Can B l) (hm:Can B m) (hB:1<B) (h:bB B l=bB B m):l=m:=
 yT hl.1 hm.1 (Nat.le_antisymm (hl.uo hm hB (Nat.le_of_eq h)) (hm.uo hl hB (Nat.le_of_eq h.symm))) h
theorem ea (hB:0<B) (n:Nat):Can B (aZ B n):=Can.cut (gk hB _ _)
theorem Cn (hB:1<B) (n:Nat):n<B^(n.log2+1):=by
 have h1:n<2^(n.log2+1):=Nat.lt_log2_self;exact Yt h1 (Nat.pow_le_pow_left hB _)
theorem ee (hB:1<B) (n:Nat):bB B (aZ B n)=n:=by
 rw [aZ,lL,dq (Cn hB n)]
theorem BP (hB:1<B) {l:List Nat} (h:Can B l):aZ B (bB B l)=l:=
 (ea Xj _).inj h hB (ee hB _)
theorem ie (hB:1<B) {l:List Nat} (h:Dg B l):dX l=aZ B (bB B l):=by
 rw [←lL,BP hB (Can.cut h)]
theorem gu (hB:1<B):aZ B 0=[]:=(ea Xj 0).inj ⟨Dg.nil,by simp⟩ hB (by rw [ee hB];rfl)
theorem ud (hB:1<B):aZ B n=[]↔n=0:=by
 constructor
 ·intro h;have:=ee hB n;rw [h] at this;exact this.symm
 ·intro h;rw [h,gu hB]
theorem iz (hB:1<B) (h:n<B^k):(aZ B n).length≤k:=by
 have h1:dX (bV B k n)=aZ B n:=by rw [ie hB (gk Xj _ _),dq h]
 have:=fg (bV B k n);rw [h1,aT] at this;exact this
theorem p6 (hB:1<B) (n:Nat):n<B^(aZ B n).length:=by
 have:=iI (ea (B:=B) Xj n).1;rwa [ee hB] at this
theorem oE (hB:1<B) {a:Nat} (h:a≤b):(aZ B a).length≤(aZ B b).length:=
 (ea Xj a).uo (ea Xj b) hB (by rw [ee hB,ee hB];exact h)
theorem At (hB:1<B) {i:Nat} (h:i<(aZ B n).length):(aZ B n)[i]?=some (n/B^i % B):=by
 have h1:=YI h;rw [h1];have h2:=tG (ea (B:=B) Xj n).1 h1;rw [ee hB] at h2;rw [h2]
theorem GX (hB:1<B) (h:n≠0):aZ B n=n % B::aZ B (n/B):=by
 refine (ea Xj n).inj ⟨Dg.cons (XW _ Xj) (ea Xj _).1, ?_⟩ hB ?_
 ·cases hd:aZ B (n/B) with
  |nil=>
   rw [ud hB] at hd;have:n=n % B:=by have:=Y8 n B;rw [hd] at this;simpa using this.symm
   simp only [List.getLast?_singleton];intro h0;injection h0 with h0;omega
  |cons e m=>
   rw [List.getLast?_cons_cons,←hd];exact (ea Xj _).2
 ·rw [ee hB,bB,ee hB];have:=Y8 n B;omega
theorem KW (hB:1<B) (h:n<B^k):bV B k n=aZ B n++List.replicate (k-(aZ B n).length) 0:=by
 have hl:=iz hB h;refine yT (B:=B) (gk Xj _ _) ((ea Xj _).1.append (Dg.gh Xj _)) ?_ ?_
 ·rw [aT,Xy,YP];omega
 ·rw [dq h,eO,ee hB,qT];simp
end
section
variable {B:Nat}
def Ab:List Nat→Nat
 |[]=>0
 |d::_=>d
theorem LO (ys:List Nat):bB B ys=Ab ys+B*bB B ys.tail:=by cases ys<;>simp [bB,Ab]
theorem Rx {ys:List Nat} (h:Dg B ys) (hB:0<B):Ab ys<B:=by
 cases ys with
 |nil=>exact hB
 |cons d l=>exact h.head
theorem Dg.tl {ys:List Nat} (h:Dg B ys):Dg B ys.tail:=by
 cases ys with
 |nil=>exact h
 |cons d l=>exact h.tail
theorem ur (ys:List Nat) (i:Nat):Ab (ys.drop i)=(ys[i]?).getD 0:=by
 induction ys generalizing i with
 |nil=>simp [Ab]
 |cons d l ih=>cases i with
  |zero=>rfl
  |succ i=>simpa using ih i
theorem tail_drop (ys:List Nat) (i:Nat):(ys.drop i).tail=ys.drop (i+1):=by
 induction ys generalizing i with
 |nil=>simp
 |cons d l ih=>cases i with
  |zero=>rfl
  |succ i=>simp
theorem BD {B a:Nat} (hB:0<B) (h:a+B*b<B*n):b+a/B<n:=by
 have h1:(a+B*b)/B<n:=by rw [YR hB,XY n];exact h
 rw [Yy _ _ hB] at h1;omega
def im (B:Nat):List Nat→List Nat→Nat→Nat→List Nat
 |[],_,_,_=>[]
 |x::xs,ys,m,c=>(x+Ab ys*m+c) % B::im B xs ys.tail m ((x+Ab ys*m+c)/B)
theorem pS (xs ys:List Nat) (m c:Nat):(im B xs ys m c).length=xs.length:=by
 induction xs generalizing ys c with
 |nil=>rfl
 |cons x xs ih=>simp [im,ih]
theorem CM (hB:0<B) (xs ys:List Nat) (m c:Nat):Dg B (im B xs ys m c):=by
 exact Pu
theorem yp (hB:0<B) (xs ys:List Nat) (m c:Nat) (h:bB B xs+bB B ys*m+c<B^xs.length):bB B (im B xs ys m c)=bB B xs+bB B ys*m+c:=by
 induction xs generalizing ys c with
 |nil=>simp only [aae,ZY,bB] at h;simp only [im,bB];omega
 |cons x xs ih=>
  have e:bB B (x::xs)+bB B ys*m+c=(x+Ab ys*m+c)+B*(bB B xs+bB B ys.tail*m):=by
   rw [bB,LO ys,Zc,Yl,Yp];omega
  rw [XR,Yj,XY _ B,e] at h;have h1:=BD hB h;simp only [im,bB];rw [ih _ _ h1,←bB,e,Yl];have:=Z8 (x+Ab ys*m+c) B;omega
def tg (B:Nat):List Nat→List Nat→Nat→List Nat
 |[],_,_=>[]
 |x::xs,ys,b=>(x+B-Ab ys-b) % B::tg B xs ys.tail (if x<Ab ys+b then 1 else 0)
def BA (B:Nat):List Nat→List Nat→Nat→Nat
 |[],_,b=>b
 |x::xs,ys,b=>BA B xs ys.tail (if x<Ab ys+b then 1 else 0)
theorem Nj (hB:0<B) (xs ys:List Nat) (c:Nat):Dg B (tg B xs ys c):=by
 exact Pu
theorem Mq (hB:0<B) (xs ys:List Nat) (b:Nat) (hx:Dg B xs) (hy:Dg B ys) (hb:b≤1) (h:bB B ys+b≤bB B xs):bB B (tg B xs ys b)+bB B ys+b=bB B xs∧BA B xs ys b=0:=by
 induction xs generalizing ys b with
 |nil=>simp only [bB] at h;simp only [tg,BA,bB];omega
 |cons x xs ih=>
  have hx0:=hx.head;have hy0:=Rx hy hB;have e:=LO (B:=B) ys;simp only [bB,tg,BA] at h ⊢;by_cases hlt:x<Ab ys+b
  ·rw [Xo hlt];have h1:bB B ys.tail+1≤bB B xs:=by
    refine aav fun hle=> ?_;have:=X4 B hle;omega
   obtain ⟨i1,i2⟩:=ih ys.tail 1 hx.tail hy.tl Xj h1;refine ⟨?_,i2⟩;have h2:=Yu (B* ·) i1;simp only [Yl] at h2;rw [X5 Xj];omega
  ·rw [Xp hlt];have h1:bB B ys.tail+0≤bB B xs:=by
    refine Nat.le_of_not_lt fun hle=> ?_;have:=X4 B (Nat.succ_le_of_lt hle);simp only [YS,YX] at this;omega
   obtain ⟨i1,i2⟩:=ih ys.tail 0 hx.tail hy.tl Xj h1;refine ⟨?_,i2⟩;have h2:=Yu (B* ·) i1;simp only [Yl,YX] at h2;have h3:x+B-Ab ys-b=(x-Ab ys-b)+B:=Xj;rw [h3,Nat.add_mod_right,X5 Xj];omega
theorem MQ (xs:List Nat) (i d:Nat) (hi:xs[i]?=some o):bB B (xs.set i d)+B^i*o=bB B xs+B^i*d:=by
 induction xs generalizing i with
 |nil=>simp at hi
 |cons x xs ih=>
  cases i with
  |zero=>simp only [Z6,Y9] at hi;subst hi;simp only [XC,bB,ZY,Zd];omega
  |succ i=>
   have:=Yu (B* ·) (ih i hi);simp only [Yl,←Yp] at this;simp only [X6,bB,Yj,XY _ B];omega
theorem C8 {l m:List Nat}{x y:Nat} (hl:Dg B l) (hlen:l.length=m.length) (h:x<y):bB B (l++[x])<bB B (m++[y]):=by
 rw [eO,eO,hlen];have h1:=iI hl;rw [hlen] at h1;have h2:B^m.length*(x+1)≤B^m.length*y:=X4 _ h;simp only [bB,Nat.mul_zero,YX,YS] at h2 ⊢;omega
def lE (a b:Nat):Int:=if a<b then -1 else if b<a then 1 else 0
theorem l7 {a:Nat} (h:a<b):lE a b= -1:=by simp [lE,h]
theorem yK {a:Nat} (h:b<a):lE a b=1:=by simp only [lE];rw [Xp Xj,Xo h]
theorem EG {a:Nat} (h:a=b):lE a b=0:=by simp only [lE];rw [Xp Xj,Xp Xj]
theorem xz {xs ys:List Nat}{x y:Nat} (hx:Dg B xs) (hxk:xs[k]?=some x) (hyk:ys[k]?=some y) (hd:xs.drop (k+1)=ys.drop (k+1)) (hlt:x<y):bB B xs<bB B ys:=by
 have lx:=(XE.1 hxk).1;have ly:=(XE.1 hyk).1;rw [jm xs (k+1) lx,jm ys (k+1) ly,hd];have e1:xs.take (k+1)=xs.take k++[x]:=by rw [List.take_add_one,hxk];rfl
 have e2:ys.take (k+1)=ys.take k++[y]:=by rw [List.take_add_one,hyk];rfl
 have:=C8 (B:=B) (m:=ys.take k) (hx.take k) (by rw [XP,XP];omega) hlt;rw [e1,e2];omega
theorem y7 {xs ys:List Nat}{x y:Nat} (hxk:xs[k]?=some x) (hyk:ys[k]?=some y) (hd:xs.drop (k+1)=ys.drop (k+1)) (h:x=y):xs.drop k=ys.drop k:=by
 obtain ⟨lx,ex⟩:=XE.1 hxk;obtain ⟨ly,ey⟩:=XE.1 hyk;rw [YH lx,YH ly,hd,ex,ey,h]
end
section
variable {B:Nat}
theorem qb {v:Nat} (hB:0<B) (hj:j<k) (hn:n+B^j*v<B^k) (hv:n/B^j % B+v<B):(bV B k n).set j (n/B^j % B+v)=bV B k (n+B^j*v):=by
 refine yT (B:=B) ((gk hB _ _).NA _ hv) (gk hB _ _) (by rw [ZG,aT,aT]) ?_;have h1:=MQ (B:=B) (bV B k n) j (n/B^j % B+v) (iF k n j hj);rw [dq Xj] at h1;rw [dq hn];rw [Yl] at h1;omega
theorem rE (k:Nat):bV B k 0=List.replicate k 0:=by
 induction k with
 |zero=>rfl
 |succ k ih=>simp [bV,ih,ZB]
def Ah (s:List UInt8):List Nat:=(s.map UInt8.toNat).reverse
def bn (s:List UInt8):Nat:=bB 256 (Ah s)
def sb (n:Nat):List UInt8:=((aZ 256 n).map UInt8.ofNat).reverse
theorem oM (s:List UInt8):(Ah s).length=s.length:=by simp [Ah]
theorem y5 (s:List UInt8):Dg 256 (Ah s):=fun d hd=>by
 obtain ⟨c,_,rfl⟩:=XG.1 (Zt.1 hd);exact c.toNat_lt
theorem QB (s:List UInt8):bn s<256^s.length:=by have:=iI (y5 s);rwa [oM] at this
theorem MA {s:List UInt8}{i:Nat}{c:UInt8} (hi:i<s.length) (h:s[s.length-1-i]?=some c):(Ah s)[i]?=some c.toNat:=by
 unfold Ah;rw [Ze (by simpa using hi),XA,Xx,h];rfl
theorem Jp (n:Nat):Ah (sb n)=aZ 256 n:=by
 unfold Ah sb;rw [List.map_reverse,ZK,Ym];have:∀l:List Nat,Dg 256 l→l.map (UInt8.toNat ∘ UInt8.ofNat)=l:=by
  intro l
  induction l with
  |nil=>intro _;rfl
  |cons d l ih=>
   intro h;have hd:=h.head;simp only [XQ,ih h.tail,Function.comp];congr 1;simp only [aaz];omega
 exact this _ (ea Xj n).1
theorem Tk (n:Nat):bn (sb n)=n:=by rw [bn,Jp,ee Xj]
theorem IG (n:Nat):(sb n).length=(aZ 256 n).length:=by simp [sb]
theorem Pf {s t:List UInt8} (h:Ah s=Ah t):s=t:=by
 have h1:=List.reverse_inj.1 h;exact (List.map_inj_right fun a b h=>aar.1 h).1 h1
theorem Uz {s:List UInt8} (h:Ah s=aZ 256 n):s=sb n:=Pf (by rw [h,Jp])
theorem Od:sb 0=[]:=by rw [sb,gu Xj];rfl
theorem Kw (s:List UInt8):bn (0::s)=bn s:=by
 unfold bn Ah;rw [XQ,ZP,eO];simp [bB]
theorem T1 {s:List UInt8} (h:s.head?≠some 0):sb (bn s)=s:=by
 refine (Uz ?_).symm;rw [bn,BP Xj ⟨y5 s, ?_⟩];unfold Ah;rw [List.getLast?_reverse,List.head?_map]
 cases s with
 |nil=>simp
 |cons c s=>
  simp only [List.head?_cons,Za];intro h0;injection h0 with h0
  apply h;simp only [List.head?_cons];congr 1;exact aar.1 (by simpa using h0)
end
def bG (n:Nat):Nat:=(aZ 2 n).length
theorem lB:bG 0=0:=by rw [bG,gu Xj];rfl
theorem dt (n:Nat):n<2^bG n:=p6 Xj n
theorem dK (h:n<2^k):bG n≤k:=iz Xj h
theorem Gh (h:n≠0):2^(bG n-1)≤n:=by
 have h1:=K2 (B:=2) (ea (B:=2) Xj n).2 (fun h0=>h ((ud Xj).1 h0));rwa [ee Xj] at h1
theorem qi (h:n≠0):0<bG n:=by
 rw [bG];have:aZ 2 n≠[]:=fun h0=>h ((ud Xj).1 h0);exact List.length_pos_iff.2 this
theorem E4 (h1:n<2^k) (h2:2^(k-1)≤n):bG n=k:=by
 have h3:=dK h1
 rcases Yb (bG n) k with h|h
 ·have h4:=dt n;have h5:2^bG n≤2^(k-1):=Yf Xj Xj;omega
 ·omega
theorem I8 {B:Nat} (hB:B=2^b) {l:List Nat}{d:Nat} (hl:Dg B l) (hlen:l.length=m) (hd:d≠0):bG (bB B (l++[d]))=b*m+bG d:=by
 have hlt:=iI hl;rw [hlen] at hlt;have hp:B^m=2^(b*m):=by rw [hB,←Yi]
 rw [eO,hlen];simp only [bB,Nat.mul_zero,YX];rw [hp] at hlt ⊢;apply E4
 ·have h1:=dt d;have h2:2^(b*m)*(d+1)≤2^(b*m)*2^bG d:=X4 _ h1;rw [XS];rw [YS] at h2;omega
 ·have h1:=Gh hd;have h2:=qi hd;have e:b*m+bG d-1=b*m+(bG d-1):=Xj;rw [e,XS];have h3:2^(b*m)*2^(bG d-1)≤2^(b*m)*d:=X4 _ h1;omega
theorem Ef {a s:Nat} (h:a<2^s):a|||(c*2^s)=a+c*2^s:=by
 have h1:=Nat.shiftLeft_add_eq_or_of_lt h c;rw [Nat.shiftLeft_eq] at h1;rw [Nat.or_comm,←h1,Zh]
theorem Ok {i:Nat} (n:Nat) (hn:n<256^i) (hc:c<256) (hi:i/8<k):
  n/18446744073709551616^(i/8) % 18446744073709551616<2^(i % 8*8)∧c*2^(i % 8*8)<18446744073709551616∧
  (bV 18446744073709551616 k n).set (i/8) (n/18446744073709551616^(i/8) % 18446744073709551616+c*2^(i % 8*8))=bV 18446744073709551616 k (n+256^i*c):=by
 have hW:(18446744073709551616:Nat)=2^64:=by decide
 have h256:(256:Nat)=2^8:=by decide
 have hp:256^i=18446744073709551616^(i/8)*2^(i % 8*8):=by
  rw [hW,h256,←Yi,←Yi,←XS];congr 1;omega
 have h1:n/18446744073709551616^(i/8)<2^(i % 8*8):=by
  rw [YR (X7 Xk),XY,←hp];exact hn
 have hs:2^(i % 8*8)*256≤18446744073709551616:=by
  rw [h256,hW,←XS];exact Yf Xj Xj
 have h2:n/18446744073709551616^(i/8) % 18446744073709551616<2^(i % 8*8):=Yv (Nat.mod_le _ _) h1;have h3:(c+1)*2^(i % 8*8)≤256*2^(i % 8*8):=Yr _ hc;rw [Yw] at h3;have hpos:0<2^(i % 8*8):=X7 Xj;refine ⟨h2,Xj, ?_⟩;have h4:256^i*c=18446744073709551616^(i/8)*(c*2^(i % 8*8)):=by rw [hp,Yp,XY c]
 rw [h4];refine qb Xk hi ?_ Xj;rw [←h4];have h5:256^i*(c+1)≤256^i*256:=X4 _ hc;have h6:256^i*256≤18446744073709551616^k:=by
  have:256^i*256=2^(8*(i+1)):=by rw [h256,←Yi,←XS];congr 1
  rw [this,hW,←Yi];exact Yf Xj Xj
 rw [YS] at h5;omega
theorem Ia (n i:Nat):n/18446744073709551616^(i/8) % 18446744073709551616/2^(i % 8*8) % 256=n/256^i % 256:=by
 have hW:(18446744073709551616:Nat)=2^64:=by decide
 have h256:(256:Nat)=2^8:=by decide
 have hp:256^i=18446744073709551616^(i/8)*2^(i % 8*8):=by
  rw [hW,h256,←Yi,←Yi,←XS];congr 1;omega
 rw [hp,←Y6];generalize n/18446744073709551616^(i/8)=m;have e:(18446744073709551616:Nat)=2^(i % 8*8)*2^(64-i % 8*8):=by rw [←XS,hW];congr 1;omega
 rw [e,Nat.mod_mul_right_div_self];have e2:2^(64-i % 8*8)=256*2^(56-i % 8*8):=by rw [h256,←XS];congr 1;omega
 rw [e2,Nat.mod_mul_right_mod]
theorem xR (n j s:Nat) (hs:s<64) (h0:0<s):
  (n/18446744073709551616^j % 18446744073709551616/2^s)<2^(64-s)∧
  n/18446744073709551616^j % 18446744073709551616/2^s+n/18446744073709551616^(j+1) % 2^s*2^(64-s)=n/2^(64*j+s) % 18446744073709551616:=by
 have hW:(18446744073709551616:Nat)=2^64:=by decide
 have e:(18446744073709551616:Nat)=2^s*2^(64-s):=by rw [←XS,hW];congr 1;omega
 have hp:(18446744073709551616:Nat)^(j+1)=18446744073709551616^j*18446744073709551616:=Yj ..;rw [hp,←Y6,XS,Yi,←hW,←Y6];generalize n/18446744073709551616^j=m;have e1:m % 18446744073709551616/2^s=m/2^s % 2^(64-s):=by rw [e,Nat.mod_mul_right_div_self]
 rw [e1];refine ⟨XW _ (X7 Xj), ?_⟩;have e2:m/18446744073709551616=m/2^s/2^(64-s):=by rw [e,←Y6]
 rw [e2];generalize m/2^s=q;have e3:(18446744073709551616:Nat)=2^(64-s)*2^s:=by rw [XY];exact e
 rw [e3,Nat.mod_mul,XY (2^(64-s))]
theorem R5 {d s:Nat} (hd:d<18446744073709551616) (hs:s≤64):d*2^s % 18446744073709551616+d/2^(64-s)*18446744073709551616=d*2^s∧d/2^(64-s)<2^s:=by
 have hW:(18446744073709551616:Nat)=2^64:=by decide
 have e:(18446744073709551616:Nat)=2^(64-s)*2^s:=by rw [←XS,hW];congr 1;omega
 have h1:d*2^s/18446744073709551616=d/2^(64-s):=by rw [e,Nat.mul_div_mul_right _ _ (X7 Xj)]
 rw [←h1];constructor
 ·have:=Z8 (d*2^s) 18446744073709551616;omega
 ·rw [h1,YR (X7 Xj),XY,←e];exact hd
def str (l:List UInt8):ByteArray:=⟨l.toArray⟩
theorem dH (l:List UInt8):(str l).data.toList=l:=by simp [str]
theorem uR {a b:ByteArray} (h:a.data.toList=b.data.toList):a=b:=by
 cases a;cases b;congr 1;exact Array.ext' h
theorem Si (s:ByteArray):str s.data.toList=s:=uR (dH _)
theorem lf (l:List UInt8):(str l).size=l.length:=by simp [str,ByteArray.size]
theorem dQ (s:ByteArray):s.size=s.data.toList.length:=(aas).symm
def bu (l:List Int):List Value:=l.map (Value.int .i64)
theorem bX (l:List Int):(bu l).length=l.length:=by simp [bu]
theorem ck {l:List Int}{x:Int} (h:l[k]?=some x):(bu l)[k]?=some (.int .i64 x):=by simp [bu,h]
theorem CW (a b:List UInt8):nV (a++b)=nV a++nV b:=by simp [nV]
theorem bF (l:List Int):((bu l).all Value.oneCell')=true:=by simp [bu,Value.oneCell']
def lV (l:List ByteArray):List Value:=l.map Value.string
theorem rT (l:List ByteArray):(lV l).length=l.length:=by simp [lV]
theorem F7 {l:List ByteArray}{x:ByteArray} (h:l[k]?=some x):(lV l)[k]?=some (.string x):=by simp [lV,h]
theorem az {l:List α}{x:α} (h:l[k]?=some x):l.take (k+1)=l.take k++[x]:=by rw [List.take_add_one,h];rfl
theorem ak {l:List α} (h:k<l.length):∃x,l[k]?=some x:=⟨_,YI h⟩
def eK (l:List UInt8):Bool:=l.all fun c=>decide (c.toNat<128)
theorem Hy (l:List UInt8) (c:UInt8):eK (l++[c])=(eK l && decide (c.toNat<128)):=by simp [eK]
theorem Jk {l:List UInt8}{c:UInt8} (h:l[k]?=some c) (hc:¬c.toNat<128):eK l=false:=by
 rw [←Yg (k+1) l,az h];simp only [eK,List.all_append];simp;omega
theorem nI {l:List UInt8} (h:eK l=true) {c:UInt8} (hc:l[k]?=some c):c.toNat<128:=by
 have:=XI.1 h c (Xt hc);simpa using this
def cH (x:Int):Bool:=decide (0≤x) && decide (x≤127)
def zU (x:Int):UInt8:=UInt8.ofNat x.toNat
def MC (xs:List Int):List UInt8:=if xs.all cH then xs.map zU else []
def On (xs:List Int):Int:=if xs.all cH then 0 else 3
theorem Sp {xs:List Int}{x:Int} (hx:xs[k]?=some x) (h:cH x=false):MC xs=[]∧On xs=3:=by
 have:xs.all cH=false:=by
  cases hc:xs.all cH with
  |false=>rfl
  |true=>rw [XI.1 hc x (Xt hx)] at h;cases h
 simp [MC,On,this]
theorem pV {xs:List Int} (h:xs.all cH=true):MC xs=xs.map zU∧On xs=0:=by simp [MC,On,h]
theorem Mr {p:α→Bool}{l:List α}{x:α} (h:l[k]?=some x) (h1:(l.take k).all p=true) (h2:p x=true):(l.take (k+1)).all p=true:=by
 rw [az h,List.all_append,h1];simp [h2]
theorem Pj {x:Int} (h:0≤x) (h2:x≤255):IntKind.u8.wrap x=x:=by
 have:IntKind.u8.wrap x=x % 256:=rfl;rw [this];omega
theorem tp {x:Int} (h:cH x=true):Value.int .u8 x=.int .u8 (zU x).toNat:=by
 simp only [cH,XF,XN] at h;congr 1;simp only [zU,aaz];omega
theorem KO {xs:List Int}{x:Int} (hx:xs[k]?=some x) (h:cH x=true):nV ((xs.take k).map zU)++[.int .u8 x]=nV ((xs.take (k+1)).map zU):=by
 rw [az hx,Yc,CW,tp h];rfl
def ints (l:List UInt8):List Int:=l.map fun c=>(c.toNat:Int)
def iG (l:List UInt8):List Int:=if eK l then ints l else []
def WQ (l:List UInt8):Int:=(iG l).sum
theorem dh (l:List UInt8):(ints l).length=l.length:=by simp [ints]
theorem uH {l:List UInt8}{c:UInt8} (h:l[k]?=some c):bu (ints (l.take k))++[.int .i64 c.toNat]=bu (ints (l.take (k+1))):=by
 rw [az h];simp [bu,ints]
def lenOf:Value→Nat|.slice _ n _=>n|_=>0
theorem jW {l:List UInt8} (h:eK l=true):iG l=ints l:=by simp [iG,h]
theorem Mb {l:List UInt8} (h:eK l=false):iG l=[]:=by simp [iG,h]
theorem OE {l:List UInt8}{c:UInt8} (h:l[k]?=some c):(ints l)[k]?=some (c.toNat:Int):=by simp [ints,h]
theorem FB {l:List UInt8}{x:Int} (h:(iG l)[k]?=some x):0≤x∧x≤127:=by
 unfold iG at h;split at h
 ·rename_i hm;simp only [ints,Xx,Zp] at h;obtain ⟨c,hc,rfl⟩:=h;have:=nI hm hc;omega
 ·simp at h
def jv (f:Int→Int→Int) (a b:List UInt8):Option (List Int):=
 if eK a && (eK b && decide ((b.length:Int)=a.length)) then some (List.zipWith f (ints a) (ints b)) else none
def mulL (a b:List UInt8):List UInt8×Int:=
 match jv (· + ·) a b with|some l=>(MC l,On l)|none=>([],1)
def WG (a b:List UInt8):List UInt8×Bool:=
 match jv (· - ·) a b with|some l=>(MC l,decide (On l=0))|none=>([],false)
theorem MB {f:Int→Int→Int}{a b:List Int}{x y:Int} (hx:a[k]?=some x) (hy:b[k]?=some y):(List.zipWith f a b)[k]?=some (f x y):=by
 simp [List.getElem?_zipWith,hx,hy]
def m0 (f:Int→Int→Int) (a b:List Int) (k:Nat):List Int:=(List.zipWith f a b).take k++b.drop k
theorem LA (f:Int→Int→Int) (a b:List Int):m0 f a b 0=b:=by simp [m0]
theorem OW {f:Int→Int→Int}{a b:List Int} (h:a.length=b.length) (hk:k≤b.length):(m0 f a b k).length=b.length:=by
 simp [m0,h];omega
theorem SZ {f:Int→Int→Int}{a b:List Int} (h:a.length=b.length) {y:Int} (hy:b[k]?=some y):(m0 f a b k)[k]?=some y:=by
 have hk:k<b.length:=(XE.1 hy).1;unfold m0;rw [YD (by simp [h];omega)];simp [h,Ys (Nat.le_of_lt hk),hy]
theorem MW {f:Int→Int→Int}{a b:List Int} (h:a.length=b.length) {x y:Int} (hx:a[k]?=some x) (hy:b[k]?=some y):
  cm (bu (m0 f a b k)) k [.int .i64 (f x y)]=bu (m0 f a b (k+1)):=by
 have hk:k<b.length:=(XE.1 hy).1;have hl:((List.zipWith f a b).take k).length=k:=by simp [h];omega
 have e1:(m0 f a b k).take k=(List.zipWith f a b).take k:=by
  unfold m0;rw [aaX Xj,Xz Xj]
 have e2:(m0 f a b k).drop (k+1)=b.drop (k+1):=by
  unfold m0;rw [List.drop_append,hl,Zj Xj,show k+1-k=1 by omega,Z9];simp
 simp only [cm,bu,←Zx,←Zr,XR,aae,XJ,e1,e2];unfold m0;rw [az (MB hx hy)];simp
theorem JN {f:Int→Int→Int}{a b:List Int} (h:a.length=b.length):m0 f a b b.length=List.zipWith f a b:=by
 unfold m0;rw [Xz (by simp [h]),List.drop_length,XZ]
theorem se {l:List Int} (y:Int) (h:k<l.length):cm (bu l) (k*1) [.int .i64 y]=bu (l.set k y):=by
 rw [XK,cM (by rw [bX];exact h)];unfold bu;rw [Zv]
section
variable {P:Program}{N:Nat}{ops:Array Oper}{Q:Kq}{ρ:Rf}{w:World}{rest:List Oper}{d:Nat}{ty:TypeId}{pos:String}{af:Array Edge}
theorem kI {f:FuncId}{ts:Array TypeId}{v:Value} (hc:(callFunc f vs.toArray).run P w=.ok (.value v) w) (ha:wc ρ args.toList=vs) (hN:d<N) (kk:WL .plain P N ops Q rest (cG ρ d v) w):
  WL .plain P N ops Q (⟨some d,.call ⟨.value (.func f),args,ts⟩,ty,pos,af,none⟩::rest) ρ w:=by
 have hr:(execOp (ev ρ) ⟨some d,.call ⟨.value (.func f),args,ts⟩,ty,pos,af,none⟩).run P w=.ok (.value v) w:=by
  have hx:ev ρ (.func f)=.func (.func f) #[] #[]:=rfl;simp only [execOp,resolve,Deferred.ofValue,hx,invoke,nC args ha];simpa using hc
 exact aP rfl rfl hN hr kk
end
theorem jX (x y c:Nat) (hc:c≤1) (w:World):
  (callFunc 225 #[.int .u64 x,.int .u64 y,.int .u64 c]).run Tryz.prog w=
   .ok (.value (.tuple #[.int .u64 (((x+y+c) % 18446744073709551616:Nat):Int),.int .u64 (((x+y+c)/18446744073709551616:Nat):Int)])) w:=by
 rw [run_callFunc_extern Tryz.func225 Xl Xl Xl (e:=add64Entry) Xl,run_add64 x y c Xj Xj Xj Xj];simp only [Result.andThen];congr 5<;>omega
def Mi:Array Value→Sem Value:=fun args=>do
 let (x,y,b) ←Extern.MathBitsCarry.three "Sub64" args
 pure (Extern.MathBitsCarry.pair ((x+Extern.MathBitsCarry.m64-y-b) % Extern.MathBitsCarry.m64) (if x<y+b then 1 else 0))
theorem Ep (x y b:Nat) (hb:b≤1) (w:World):
  (Mi #[.int .u64 x,.int .u64 y,.int .u64 b]).run P w=
   .ok (.tuple #[.int .u64 (((x+18446744073709551616-y-b) % 18446744073709551616:Nat):Int),.int .u64 ((if x<y+b then 1 else 0:Nat):Int)]) w:=by
 have:b=0∨b=1:=Xj
 rcases this with rfl|rfl<;>rfl
theorem xu (x y b:Nat) (hb:b≤1) (w:World):
  (callFunc 226 #[.int .u64 x,.int .u64 y,.int .u64 b]).run Tryz.prog w=
   .ok (.value (.tuple #[.int .u64 (((x+18446744073709551616-y-b) % 18446744073709551616:Nat):Int),.int .u64 ((if x<y+b then 1 else 0:Nat):Int)])) w:=by
 rw [run_callFunc_extern Tryz.func226 Xl Xl Xl (e:=Mi) Xl,Ep x y b hb]
 rfl
theorem sH (x y:Nat) (w:World) (hx:x<18446744073709551616) (hy:y<18446744073709551616):
  Calls Tryz.prog 224 #[.int .u64 (x:Int),.int .u64 (y:Int)] w fun e w'=>e=.returned (.tuple #[.int .u64 ((x*y/18446744073709551616:Nat):Int),.int .u64 ((x*y % 18446744073709551616:Nat):Int)])∧Below w.heap.size w w':=by
 refine aj (N:=51) (l:=[.int .u64 (x:Int),.int .u64 (y:Int)]) Tryz.func224 rfl rfl (by simp) ?_;refine sr (aI (aI (aa (sr (mI ?_)))));refine Kx ?_;refine aI (aa (sr (mI ?_)));refine wW ?_;refine aI (aa (sr (mI ?_)));refine Kx ?_;refine aI (aa (sr (mI ?_)));refine wW ?_;refine aI (aa (sr (mI (mI ?_))));refine q9 rfl rfl Xk ?_;refine aI (aa (sr (mI (mI ?_))));refine q9 rfl rfl Xk ?_;refine mI ?_;refine wW ?_;refine iL rfl rfl Xk ?_;refine aI (aa (sr (mI ?_)));refine Kx ?_;refine aI (aa (sr (mI ?_)));refine wW ?_;refine aI (aa (sr (mI (mI (mI ?_)))));refine q9 rfl rfl Xk ?_;refine iL rfl rfl Xk ?_;refine aI (aa (sr (mI (mI ?_))));refine q9 rfl rfl Xk ?_;refine mI ?_;refine iL rfl rfl Xk ?_;refine mI ?_;refine wW ?_;refine iL rfl rfl Xk ?_;refine aI (aa (sr (mI (mI ?_))));refine q9 rfl rfl Xk ?_;refine aI (aa (aw ?_));refine ML ?_;obtain ⟨bd,bt,bw,hhi⟩:=Lib.mul64_hi x y hx hy;have ba:=Lib.half_mul_le (a:=x/4294967296) (b:=y/4294967296) Xj Xj;have bb:=Lib.half_mul_le (a:=x/4294967296) (b:=y % 4294967296) Xj Xj;have bc:=Lib.half_mul_le (a:=x % 4294967296) (b:=y/4294967296) Xj Xj
 have em:∀z:Nat,z &&& 4294967295=z % 4294967296:=fun z=>Nat.and_two_pow_sub_one_eq_mod z 32;simp only [em];have hb:x*y/18446744073709551616<18446744073709551616:=by
  rw [YR Xj];exact Nat.mul_lt_mul'' hx hy
 refine ⟨?_,Below.refl _ _⟩;congr 5;rw [X5 bd,X5 (show x/4294967296*(y % 4294967296)<18446744073709551616 by omega),X5 bt,X5 (show x % 4294967296*(y/4294967296)<18446744073709551616 by omega),X5 bw,X5 (show x/4294967296*(y/4294967296)<18446744073709551616 by omega)];have key:∀A T V:Nat,A+T+V<18446744073709551616→((A+T) % 18446744073709551616+V) % 18446744073709551616=A+T+V:=by intro A T V h;omega
 rw [←hhi] at hb ⊢;exact Yu Nat.cast (key _ _ _ hb)
theorem gQ {x:Nat} (hm:2^k=m) (h:m≤x):bG x=k+bG (x/m):=by
 subst hm;have h0:x/2^k≠0:=by
  have:=(Nat.div_pos_iff (a:=x) (b:=2^k)).2 ⟨X7 Xj,h⟩;omega
 have h1:=dt (x/2^k);have h2:=Gh h0;have h3:=qi h0;have h4:=Y8 x (2^k);have h5:=XW x (X7 (n:=k) (show 0<2 by omega));apply E4
 ·rw [XS];have:2^k*(x/2^k+1)≤2^k*2^bG (x/2^k):=X4 _ h1;rw [YS] at this;omega
 ·have e:k+bG (x/2^k)-1=k+(bG (x/2^k)-1):=Xj;rw [e,XS];have:2^k*2^(bG (x/2^k)-1)≤2^k*(x/2^k):=X4 _ h2;omega
theorem kW {T:ByteArray} (hT:T.data.toList=(List.range 256).map fun n=>UInt8.ofNat (bG n)) (h:n<256):∃c:UInt8,T.data.toList[n]?=some c∧c.toNat=bG n∧bG n≤8:=by
 have hb:bG n≤8:=dK Xj;refine ⟨UInt8.ofNat (bG n), ?_, ?_,hb⟩
 ·rw [hT,Xx,Yh h];rfl
 ·rw [aaz];omega
theorem Ax (x:Nat) (w:World) (hx:x<18446744073709551616):
  Calls Tryz.prog 227 #[.int .u64 (x:Int)] w fun e w'=>e=.returned (.int .i64 (bG x))∧Below w.heap.size w w':=by
 refine aj (N:=25) (l:=[.int .u64 (x:Int)]) Tryz.func227 rfl rfl (by simp) ?_;by_cases h32:4294967296≤x
 ·have:=gQ (x:=x) (k:=32) (m:=4294967296) rfl h32;refine sr (aI (aa (ah (sr (mI ?_)))));refine dL (aa (cT (sr (mI ?_))));refine wW ?_;refine aI (aa (al (aI (aa (ah (sr (mI ?_)))))));by_cases h16:65536≤(x/4294967296)
  ·have:=gQ (x:=(x/4294967296)) (k:=16) (m:=65536) rfl h16;refine dL (aa (cT (sr (mI ?_))));refine l5 (s:=16) (m:=65536) rfl rfl Xk Xk Xk ?_;refine aI (aa (al (mI ?_)));refine bk (aI (aa (ah (sr (mI ?_)))));by_cases h8:256≤((x/4294967296)/65536)
   ·have:=gQ (x:=((x/4294967296)/65536)) (k:=8) (m:=256) rfl h8;refine dL (aa (cT (sr (mI ?_))));refine GM ?_;refine aI (aa (al (mI ?_)));refine bk (aI (aa (sr (mI (mI ?_)))));refine mm ?_;obtain ⟨cc,hcc,hcv,hcb⟩:=kW (T:=_) Xl (n:=(((x/4294967296)/65536)/256)) Xj;exact Bm
   ·refine Gl ?_;refine mm ?_;obtain ⟨cc,hcc,hcv,hcb⟩:=kW (T:=_) Xl (n:=(((x/4294967296)/65536))) Xj;exact Bm
  ·refine dL (aa (cF (aq (ai (ah (sr (mI ?_)))))));by_cases h8:256≤((x/4294967296))
   ·have:=gQ (x:=((x/4294967296))) (k:=8) (m:=256) rfl h8;refine dL (aa (cT (sr (mI ?_))));refine GM ?_;refine aI (aa (al (mI ?_)));refine bk (aI (aa (sr (mI (mI ?_)))));refine mm ?_;obtain ⟨cc,hcc,hcv,hcb⟩:=kW (T:=_) Xl (n:=(((x/4294967296))/256)) Xj;exact Bm
   ·refine Gl ?_;refine mm ?_;obtain ⟨cc,hcc,hcv,hcb⟩:=kW (T:=_) Xl (n:=(((x/4294967296)))) Xj;exact Bm
 ·refine sr (aI (aa (ah (sr (mI ?_)))));refine dL (aa (cF (aq (ai (ah (sr (mI ?_)))))));by_cases h16:65536≤(x)
  ·have:=gQ (x:=(x)) (k:=16) (m:=65536) rfl h16;refine dL (aa (cT (sr (mI ?_))));refine l5 (s:=16) (m:=65536) rfl rfl Xk Xk Xk ?_;refine aI (aa (al (mI ?_)));refine bk (aI (aa (ah (sr (mI ?_)))));by_cases h8:256≤((x)/65536)
   ·have:=gQ (x:=((x)/65536)) (k:=8) (m:=256) rfl h8;refine dL (aa (cT (sr (mI ?_))));refine GM ?_;refine aI (aa (al (mI ?_)));refine bk (aI (aa (sr (mI (mI ?_)))));refine mm ?_;obtain ⟨cc,hcc,hcv,hcb⟩:=kW (T:=_) Xl (n:=(((x)/65536)/256)) Xj;exact Bm
   ·refine Gl ?_;refine mm ?_;obtain ⟨cc,hcc,hcv,hcb⟩:=kW (T:=_) Xl (n:=(((x)/65536))) Xj;exact Bm
  ·refine dL (aa (cF (aq (ai (ah (sr (mI ?_)))))));by_cases h8:256≤((x))
   ·have:=gQ (x:=((x))) (k:=8) (m:=256) rfl h8;refine dL (aa (cT (sr (mI ?_))));refine GM ?_;refine aI (aa (al (mI ?_)));refine bk (aI (aa (sr (mI (mI ?_)))));refine mm ?_;obtain ⟨cc,hcc,hcv,hcb⟩:=kW (T:=_) Xl (n:=(((x))/256)) Xj;exact Bm
   ·refine Gl ?_;refine mm ?_;obtain ⟨cc,hcc,hcv,hcb⟩:=kW (T:=_) Xl (n:=(((x)))) Xj;exact Bm
theorem Ex (x:Nat) (w:World) (hx:x<18446744073709551616):
  Calls Tryz.prog 217 #[.int .u64 (x:Int)] w fun e w'=>e=.returned (.int .i64 (64-(bG x:Int)))∧Below w.heap.size w w':=by
 have hh:=Hp.start w;have hb:bG x≤64:=dK (by simpa using hx);refine aj (N:=6) (l:=[.int .u64 (x:Int)]) Tryz.func217 rfl rfl (by simp) ?_;refine sr (aI (aa (sr (mI ?_))));refine bA hh (Ax _ _ hx) rfl ?_;intro w4 hh;refine ep (aI (aa (aw ?_)));refine df ?_;exact ⟨rfl,hh.below⟩
def tz (n:Nat):Nat:=Int.trailingZeros (n:Int)
theorem F3 (k m:Nat):tz (2^k*(2*m+1))=k:=by
 have h:=Int.trailingZeros_shiftLeft (x:=2*(m:Int)+1) Xj k;rw [Int.trailingZeros_two_mul_add_one,Int.shiftLeft_eq] at h;unfold tz;have e:((2^k*(2*m+1):Nat):Int)=(2*(m:Int)+1)*2^k:=by
  rw [YB,aak,Int.mul_comm];rfl
 rw [e];have e2:(((2^k:Nat)):Int)=2^k:=by simp
 rw [←e2] at h ⊢;simpa using h
theorem tj (h:n≠0):∃m,n=2^tz n*(2*m+1):=by
 have:∀b n:Nat,n≤b→n≠0→∃k m,n=2^k*(2*m+1):=by
  intro b
  induction b with
  |zero=>intro n h1 h2;omega
  |succ b ih=>
   intro n h1 h2
   rcases Nat.mod_two_eq_zero_or_one n with h|h
   ·obtain ⟨k,m,hk⟩:=ih (n/2) Xj Xj;exact ⟨k+1,m,by rw [Yj,XY (2^k),Yp,←hk];omega⟩
   ·exact ⟨0,n/2,Xj⟩
 obtain ⟨k,m,hk⟩:=this n n (Xr _) h;exact ⟨m,by rw [hk,F3]⟩
theorem xl (h:n≠0) (hn:n<2^k):tz n<k:=by
 obtain ⟨m,hm⟩:=tj h
 rcases Yb (tz n) k with h1|h1
 ·exact h1
 ·have h2:2^k≤2^tz n:=Yf Xj h1;have h3:2^tz n*1≤2^tz n*(2*m+1):=X4 _ Xj;omega
theorem CA (m m' j:Nat) (h:m+m'+1=2^j):(2*m+1) &&& (2*m'+1)=1:=by
 apply Nat.eq_of_testBit_eq;intro i;rw [Nat.testBit_and]
 cases i with
 |zero=>simp
 |succ i=>
  rw [Nat.testBit_succ,Nat.testBit_succ,Nat.testBit_succ];have e1:(2*m+1)/2=m:=Xj;have e2:(2*m'+1)/2=m':=Xj;have e3:m'=2^j-(m+1):=Xj;rw [e1,e2,e3,Nat.testBit_two_pow_sub_succ Xj]
  cases hi:m.testBit i<;>simp
theorem OD {x:Nat} (hx:x=2^k*(2*m+1)) (hlt:x<18446744073709551616):x &&& (18446744073709551616-x) % 18446744073709551616=2^k:=by
 have hW:(18446744073709551616:Nat)=2^64:=by decide
 have hk:k<64:=by
  have:=xl (n:=x) (k:=64) (by rw [hx];exact Nat.mul_ne_zero (Nat.pos_iff_ne_zero.1 (X7 Xj)) Xj) (by rw [←hW];exact hlt);rwa [hx,F3] at this
 have hp:(18446744073709551616:Nat)=2^k*(2*2^(63-k)):=by rw [hW,←Nat.pow_succ',←XS];congr 1;omega
 have hm:m<2^(63-k):=by
  rw [hx,hp] at hlt;have:=Nat.lt_of_mul_lt_mul_left hlt;omega
 have e:(18446744073709551616-x) % 18446744073709551616=2^k*(2*(2^(63-k)-(m+1))+1):=by
  have h1:2*(2^(63-k)-(m+1))+1=2*2^(63-k)-(2*m+1):=Xj;rw [h1,Nat.mul_sub,←hp,←hx,X5];have:0<2^k*(2*m+1):=Nat.mul_pos (X7 Xj) Xj;omega
 rw [e,hx];have h2:=CA m (2^(63-k)-(m+1)) (63-k) Xj;have h3:=Yu (· <<<k) h2;rw [Nat.shiftLeft_and_distrib] at h3;simp only [Nat.shiftLeft_eq,Zd] at h3;rw [XY (2^k),XY (2^k)];exact h3
def Ey:List Nat:=[0,1,56,2,57,49,28,3,61,58,42,50,38,29,17,4,62,47,59,36,45,43,51,22,53,39,33,30,24,18,12,5,63,55,48,27,60,41,37,16,46,35,44,21,52,32,23,11,54,26,40,15,34,20,31,10,25,14,19,9,13,8,7,6]
def dN (w:World):Prop:=Rd w ⟨0,0,none⟩ (gI Ey)
theorem dN.ext (h:dN w) (hb:Below w.heap.size w w'):dN w':=Rd.ext h hb
theorem dN.hp {H:List HE} (h:dN w) (hh:Hp w H w'):dN w':=Rd.ext h hh.below
theorem RJ:∀k:Fin 64,Ey[2^k.val*285870213051353865 % 18446744073709551616/288230376151711744]?=some k.val∧2^k.val*285870213051353865 % 18446744073709551616/288230376151711744<64:=by decide+kernel
theorem DU (x:Nat) (w:World) (hx:x<18446744073709551616) (h0:x≠0) (hT:dN w):
  Calls Tryz.prog 162 #[.int .u64 (x:Int)] w fun e w'=>e=.returned (.int .i64 (tz x))∧Below w.heap.size w w':=by
 have hh:=Hp.start w;obtain ⟨m,hm⟩:=tj h0;have hk:tz x<64:=xl h0 (by simpa using hx);have ha:=OD hm hx;obtain ⟨t1,t2⟩:=RJ ⟨tz x,hk⟩;simp only at t1 t2;have hc:=(show Rd w _ _ from hT).wj (ru t1);refine aj (N:=14) (l:=[.int .u64 (x:Int)]) Tryz.func162 rfl rfl (by simp) ?_;refine sr (aI (aa (ah (sr (mI ?_)))));refine cR (aa (cF (aq (ai (sr (mI (mI ?_)))))));refine Lc rfl (by first|assumption|omega) Xk ?_;refine DK rfl rfl hx (XW _ Xk) Xk ?_;rw [ha];skip;refine q9 (b:=285870213051353865) rfl rfl Xk ?_;refine l5 (s:=58) (m:=288230376151711744) rfl rfl Xk Xk Xk ?_;refine D4 bh.out aM.size rfl rfl rfl Xj Xk ?_;refine bU aM.out rfl (hc) Xk ?_;refine BT ?_;exact Ag
end Go.Proofs.YtolamocnngihpaaGreatDoor
