/- Lemmas for solveAll, part 3. -/
import Derived.Deep.AppendSrc
import Derived.Deep.Upon
import Init
import Derived.Laws.Externs
import Derived.Lib.Mul64
import Derived.Test.YtbencocchdpikaaGreatDoorZ2
set_option linter.all false
set_option maxHeartbeats 0
namespace Go.Proofs.YtbencocchdpikaaGreatDoor
open Go.Proofs.Tryz
open Go.RowKit
variable {k n:Nat}{ops:Array Oper}
def kZ(ops:Array Oper):Nat->Nat->Nat->Bool
 |0,_,_=>false
 |n+1,k,i=>match ops[k]? with
  |none=>false
  |some o=>(o.after.any λe=>Region.binds .any e && e.on==i)||o.after.any λe=>Region.binds .any e && kZ ops n e.on i
def fq(ops:Array Oper)(L:Array Bool):Prop:=∀k o,ops[k]?=some o->L.getD k false=true->∀e∈o.after,Region.binds .any e=true->L.getD e.on false=true
def dn{ops:Array Oper}{L:Array Bool}(hc:fq ops L):∀(n k i:Nat),(∀o,ops[k]?=some o->∀e∈o.after,Region.binds .any e=true->L.getD e.on false=true)->kZ ops n k i=true->L.getD i false=true
 |0,_,_,_,h=>by simp[kZ] at h
 |n+1,k,i,hk,h=>by
  unfold kZ at h;split at h
  .cases h
  rename_i o ho;rw[C7] at h;obtain h|h:=h
  .obtain⟨e,he,h⟩:=Array.any_eq_true'.1 h;simp only[Q_,R8] at h;rw[<-h.2];exact hk o ho e he h.1
  obtain⟨e,he,h⟩:=Array.any_eq_true'.1 h;simp only[Q_] at h;have h1:=hk o ho e he h.1;exact dn hc n e.on i (λo' ho'=>hc e.on o' ho' h1) h.2
variable {w' w:World}{next:Rf->World->Prop}{P:Program}{Q:Kq}{ρ:Rf}
structure OG(P:Program)(ops:Array Oper)(o:Oper)(ρ:Rf)(w:World)(K:Value->World->Prop):Prop where
 out:∀(a:Act)(next:Act->World->Prop)(Q:Exit->Act->World->Prop),(∀i,a.tmps.getD i undef=ρ i)->(∀v w',K v w'->next (a.put o.dst v) w')->
  if Region.wanted o (yielded ops a.tmps) then o.wp P a w next Q\/(o.asks P a w/\LetsOut Q) else next (a.put o.dst undef) w
def AM{a:Act}(h:∀i,a.tmps.getD i undef=ρ i):a.eval=ev ρ:=by
 funext x
 cases x with
 |tmp t=>exact h t
 |_=>rfl
def Od{o:Oper}{K:Value->World->Prop}{v:Value}(hg:o.guard=none)(hr:(execOp (ev ρ) o).run P w=.ok (.value v) w')(hk:K v w'):OG P ops o ρ w K:=
 ⟨λa next Q ha hn=>by
  rw[J' (by simp[Region.wanted,hg])];refine .inl ?_;unfold Oper.wp;rw[AM ha,hr];exact hn _ _ hk⟩
variable {R:Ending->World->Prop}{w1:World}
def Pb{o:Oper}{K:Value->World->Prop}{f:FuncId}{args:Array Value}(hg:o.guard=none)(hr:(execOp (ev ρ) o).run P w=.ok (.enter f args) w1)(hc:Calls P f args w1 R) (hk:∀e w',R e w'->∃v,e=.returned v/\K v w'):OG P ops o ρ w K:=
 ⟨λa next Q ha hn=>by
  rw[J' (by simp[Region.wanted,hg])];refine .inl ?_;unfold Oper.wp;rw[AM ha,hr];show Calls P f args w1 _;refine hc.mono λe w' hR=> ?_;obtain⟨v,rfl,hkv⟩:=hk e w' hR;exact hn _ _ hkv⟩
variable {b dj j:Nat}{pos:String}
def Dk{K:Value->World->Prop}{d:Option Nat}{op:Op}{ty:TypeId}{af:Array Edge}{b:Bool} (hj:(ops[j]?).bind (·.dst)=some dj)(hv:ρ dj=.bool b)(h:OG P ops ⟨d,op,ty,pos,af,none⟩ ρ w K):OG P ops ⟨d,op,ty,pos,af,some (j,b)⟩ ρ w K:=
 ⟨λa next Q ha hn=>by
  have h1:Region.wanted ⟨d,op,ty,pos,af,some (j,b)⟩ (yielded ops a.tmps)=true:=by
   have h2:=ha dj;rw[hv,y9] at h2
   cases h3:a.tmps[dj]? with
   |none=>rw[h3] at h2;cases h2
   |some x=>
    rw[h3] at h2;simp only[l9] at h2;subst h2;simp[Region.wanted,yielded,hj,h3]
  have h2:=h.out a next Q ha hn;rw[J' (by simp[Region.wanted])] at h2;rw[J' h1];exact h2⟩
def yz{K:Value->World->Prop}{d:Option Nat}{op:Op}{ty:TypeId}{af:Array Edge}{b c:Bool} (hj:(ops[j]?).bind (·.dst)=some dj)(hv:ρ dj=.bool c)(hb:c≠b)(h:K undef w):OG P ops ⟨d,op,ty,pos,af,some (j,b)⟩ ρ w K:=
 ⟨λa next Q ha hn=>by
  have h1:Region.wanted ⟨d,op,ty,pos,af,some (j,b)⟩ (yielded ops a.tmps)=false:=by
   have h2:=ha dj;rw[hv,y9] at h2
   cases h3:a.tmps[dj]? with
   |none=>rw[h3] at h2;cases h2
   |some x=>
    rw[h3] at h2;simp only[l9] at h2;subst h2;simp[Region.wanted,yielded,hj,h3,hb]
  rw[h1];exact hn _ _ h⟩
def Xc(V:Nat->Value->World->Prop)(ρ ρ1:Rf)(w1:World):List (Nat×Option Nat)->Prop
 |[]=>True
 |(t,some j)::r=>V j (ρ1 t) w1/\Xc V ρ ρ1 w1 r
 |(t,none)::r=>ρ1 t=ρ t/\Xc V ρ ρ1 w1 r
def DO(P:Program)(ops:Array Oper)(J:World->Prop)(V:Nat->Value->World->Prop)(ρ:Rf):Nat->List Oper->List (List (Nat×Option Nat))->Prop
 |i,o::os,s::ss=>((∀v w w',V i v w->Below w.heap.size w w'->V i v w')/\∀ρ1 w1,J w1->Xc V ρ ρ1 w1 s->OG P ops o ρ1 w1 λv w2=>Below w1.heap.size w1 w2/\V i v w2)/\DO P ops J V ρ (i+1) os ss
 |_,[],[]=>True
 |_,_,_=>False
def FM{ops:Array Oper}{J:World->Prop}{V:Nat->Value->World->Prop}:∀(l:List Oper)(ss:List (List (Nat×Option Nat)))(i:Nat),DO P ops J V ρ i l ss->l.length=ss.length/\∀k o,l[k]?=some o->∃s,ss[k]?=some s/\(∀v w w',V (i+k) v w->Below w.heap.size w w'->V (i+k) v w')/\∀ρ1 w1,J w1->Xc V ρ ρ1 w1 s->OG P ops o ρ1 w1 λv w2=>Below w1.heap.size w1 w2/\V (i+k) v w2
 |[],[],_,_=>⟨rfl,λk o h=>by simp at h⟩
 |[],_::_,_,h=>h.elim
 |_::_,[],_,h=>h.elim
 |o::l,s::ss,i,h=>by
  obtain⟨h1,h2⟩:=FM l ss (i+1) h.2;refine⟨by simp[h1],λk o' hk=> ?_⟩
  cases k with
  |zero=>
   simp only[U6,S8] at hk;subst hk;exact⟨s,rfl,h.1⟩
  |succ k=>
   obtain⟨s',hs,h3⟩:=h2 k o' (by simpa using hk);refine⟨s',by simpa using hs, ?_⟩;have e:i+1+k=i+(k+1):=Z';rw[e] at h3;exact h3
def Hf(ρ:Rf)(f:Nat->Value):List (Nat×Nat)->Rf
 |[]=>ρ
 |(i,d)::r=>sc (Hf ρ f r) d (f i)
def wB(V:Nat->Value->World->Prop)(f:Nat->Value)(w:World):List (Nat×Nat)->Prop
 |[]=>True
 |(i,_)::r=>V i (f i) w/\wB V f w r
def Ph(n k:Nat):Array Bool:=(List.replicate k true++List.replicate (n-k) false).toArray
variable {m N:Nat}
def XJ(l:List Oper)(m N:Nat)(src:List (List (Nat×Option Nat)))(ds:List (Nat×Nat)):Bool:=
 let ops:=l.toArray
 let pre:=(List.range m).map λi=>((ops[i]?).bind (·.dst))
 (m<=l.length) && (src.length==m) &&
 (ds==(pre.zipIdx.filterMap λ(d,i)=>d.map λd=>(i,d)).reverse) && (decide (ds.map (·.2)).Nodup) && (ds.all λp=>p.2<N) &&
 ((List.range m).all λi=>match ops[i]?,src[i]? with
  |some o,some s=>((o.looksAt ops).all λt=>s.any λp=>p.1==t) &&
    s.all λp=>match p.2 with
     |some j=>(j<m) && ((ops[j]?).bind (·.dst)==some p.1) && kZ ops 16 i j
     |none=>(List.range m).all λj=> !((ops[j]?).bind (·.dst)==some p.1)||(j !=i && kZ ops 16 j i)
  |_,_=>false) &&
 (l.length==m||((List.range m).all λi=>kZ ops 16 m i)) &&
 ((List.range (l.length-m)).all λk=>Region.ready .any ops (Ph l.length (m+k))==[m+k]) && (Region.ready .any ops (Ph l.length l.length)==[]) &&
 ((List.range (l.length-m)).all λk=>k==0||kZ ops 16 (m+k) m) &&
 ((List.range l.length).all λi=>match ops[i]? with|some o=>o.after.all λe=> !Region.binds .any e||e.on<i|none=>false)
def KO(n k i:Nat):(Ph n k).getD i false=decide (i<k):=by
 unfold Ph;rw[y9,j8];obtain h|h:=Y9 i k
 .rw[X8 (by simpa using h)];simp[h]
 rw[I9 (by simpa using h),K5];have:¬i<k:=Z';split<;>simp[this]
def jR(n k:Nat)(hk:k<n):(Ph n k).setIfInBounds k true=Ph n (k+1):=by
 unfold Ph;rw[List.setIfInBounds_toArray];congr 1;apply V9;intro i;rw[F9];simp only[List.getElem?_append,H9,K5,Y_];by_cases h1:k=i
 .subst h1;rw[J' rfl,J' Z',J' (show k<k+1 by omega),J' (show k<k+1 by omega)]
 rw[L' h1];by_cases h2:i<k
 .rw[J' h2,J' h2,J' (show i<k+1 by omega),J' (show i<k+1 by omega)]
 rw[L' h2,L' (show ¬i<k+1 by omega)];by_cases h3:i-k<n-k
 .rw[J' h3,J' (show i-(k+1)<n-(k+1) by omega)]
 rw[L' h3,L' (show ¬i-(k+1)<n-(k+1) by omega)]
def lO(n k:Nat)(hk:k<=n):(Ph n k).size=n:=by simp[Ph];omega
def DJ(n k:Nat):(Ph n k).toList.countP (λb=>b)=k:=by
 simp[Ph,List.countP_replicate]
def Iv{L:Array Bool}(hs:L.size=n)(hk:k<=n)(h1:∀i,i<k->L.getD i false=true)(h2:∀i,k<=i->L.getD i false=false):L=Ph n k:=by
 apply Array.ext
 .rw[hs,lO n k hk]
 intro i hi hi2;have e1:L[i]=L.getD i false:=by simp[hi]
 have e2:(Ph n k)[i]=(Ph n k).getD i false:=by simp[hi2]
 rw[e1,e2,KO n k i];obtain h|h:=Y9 i k
 .rw[h1 i h];simp[h]
 rw[h2 i h];have:¬i<k:=Z';simp[this]
variable {fuel:Nat}
def kr{l:List Oper}{Q':Exit->Act->World->Prop}(m:Nat) (hr:∀k,m<=k->k<l.length->Region.ready .any l.toArray (Ph l.length k)=[k])(hend:Region.ready .any l.toArray (Ph l.length l.length)=[]):
  ∀(fuel k:Nat)(a:Act)(w:World),m<=k->k<=l.length->l.length<=fuel+k->wpList P l.toArray Q' (l.drop k) a w->wpAny P .any l.toArray Q' fuel (Ph l.length k) a w
 |fuel,k,a,w,hmk,hk,hf,h=>by
  obtain hlt|hge:=Y9 k l.length
  .cases fuel with
   |zero=>omega
   |succ fuel=>
    refine wpAny_all (hr k hmk hlt) (by simp) λi hi=> ?_;obtain rfl:i=k:=by simpa using hi
    rw[m8 hlt] at h;unfold wpList at h;have ho:l.toArray[i]?=some l[i]:=by simp[hlt]
    have hset:=jR l.length i hlt;have hgo:∀a w,wpList P l.toArray Q' (l.drop (i+1)) a w->wpAny P .any l.toArray Q' fuel ((Ph l.length i).setIfInBounds i true) a w:=λa w h=>(by rw[hset];exact kr m hr hend fuel (i+1) a w Z' Z' Z' h);unfold wpOp;rw[ho];simp only[];split at h
    .rename_i hw;rw[J' hw];exact h.imp (Oper.wp_mono hgo) id
    rename_i hw;rw[L' hw];exact hgo _ _ h
  obtain rfl:k=l.length:=Z';rw[List.drop_length] at h;exact wpAny_done hend h fuel
variable {D:List Deferred}
structure DI(D:List Deferred)(N:Nat)(ops:Array Oper)(m:Nat)(ρ:Rf)(J:World->Prop)(V:Nat->Value->World->Prop)(L:Array Bool)(a:Act)(w:World):Prop where
 nd:a.defers=D
 sz:a.tmps.size=N
 j:J w
 ls:L.size=ops.size
 cl:fq ops L
 tl:∀k,m<=k->L.getD k false=false
 vs:∀i d,i<m->L.getD i false=true->(ops[i]?).bind (·.dst)=some d->V i (a.tmps.getD d undef) w
 ju:∀s,(∀i,i<m->L.getD i false=true->(ops[i]?).bind (·.dst)≠some s)->a.tmps.getD s undef=ρ s
def Md{L:Array Bool}{i:Nat}(hi:i<L.size):(L.setIfInBounds i true).getD j false=(decide (j=i)||L.getD j false):=by
 rw[y9,Array.getElem?_setIfInBounds];by_cases h:i=j
 .subst h;simp[hi]
 have:¬j=i:=λe=>h e.symm;simp[h,this]
def Fe{a:Act}{d s:Nat}{v:Value}(hd:d<a.tmps.size):(a.put (some d) v).tmps.getD s undef=if s=d then v else a.tmps.getD s undef:=by
 by_cases h:s=d
 .subst h;simp[Act.put,hd]
 have:d≠s:=λe=>h e.symm;simp[Act.put,Array.getElem?_setIfInBounds_ne this,h]
def Rj(f:Nat->Value):∀(ds:List (Nat×Nat))(s:Nat),(ds.map (·.2)).Nodup->(∀i,(i,s)∈ds->Hf ρ f ds s=f i)/\((∀i,(i,s)∉ds)->Hf ρ f ds s=ρ s)
 |[],s,_=>⟨λi h=>by simp at h,λ_=>rfl⟩
 |(j,d)::r,s,h=>by
  rw[q_,I7] at h;obtain⟨h1,h2⟩:=Rj f r s h.2;constructor
  .intro i hi;obtain hi'|hi':=S_.1 hi
   .injection hi' with e1 e2
    subst e1;subst e2;exact Bs _ _ _
   have hne:s≠d:=λe=>h.1 (e ▸ Z_.2 ⟨_,hi',rfl⟩);exact(Eh _ hne _).trans (h1 i hi')
  intro hn;have hne:s≠d:=(by rintro rfl;exact hn j q');exact(Eh _ hne _).trans (h2 λi hi=>hn i (F' _ hi))
def lv{V:Nat->Value->World->Prop}{f:Nat->Value}{w:World}:∀(ds:List (Nat×Nat)),(∀p∈ds,V p.1 (f p.1) w)->wB V f w ds
 |[],_=>trivial
 |(i,d)::r,h=>⟨h (i,d) q',lv r λp hp=>h p (F' _ hp)⟩
def Nq{V:Nat->Value->World->Prop}{ρ1:Rf}{w1:World}:∀(s:List (Nat×Option Nat)),(∀p∈s,match p.2 with|some j=>V j (ρ1 p.1) w1|none=>ρ1 p.1=ρ p.1)->Xc V ρ ρ1 w1 s
 |[],_=>trivial
 |(t,some j)::r,h=>⟨h (t,some j) q',Nq r λp hp=>h p (F' _ hp)⟩
 |(t,none)::r,h=>⟨h (t,none) q',Nq r λp hp=>h p (F' _ hp)⟩
def PY{id:Nat}{l:List Oper}(m:Nat)(src:List (List (Nat×Option Nat)))(ds:List (Nat×Nat))(J:World->Prop)(V:Nat->Value->World->Prop)(hm:P.follows .mixedOrders=true)(hok:XJ l m N src ds=true) (hJ:∀w w',J w->Below w.heap.size w w'->J w')(h0:J w)(hops:DO P l.toArray J V ρ 0 (l.take m) src) (tail:∀f w',J w'->wB V f w' ds->WL ⟨none,D,false⟩ P N l.toArray Q (l.drop m) (Hf ρ f ds) w'):WC ⟨none,D,false⟩ P N (.region id l.toArray true) Q ρ w:=by
 refine WC.mn λa hf=>wp_region_any hm ?_;simp only[XJ,Q_,K_,R8,u_,g_] at hok;obtain⟨⟨⟨⟨⟨⟨⟨⟨⟨⟨hml,_⟩,hds⟩,hnd⟩,hdN⟩,hrd⟩,htail⟩,hready⟩,hend⟩,hdep⟩,hedge⟩:=hok;have hdo:=(FM _ _ _ hops).2;have hpre:∀i d,i<m->((l.toArray[i]?).bind (·.dst))=some d->(i,d)∈ds:=λi d hi hd=>(by exact acn);have hdsm:∀i d,(i,d)∈ds->i<m/\((l.toArray[i]?).bind (·.dst))=some d:=λi d hp=>(by exact acz);have hone:∀i j d,i<m->j<m->((l.toArray[i]?).bind (·.dst))=some d->((l.toArray[j]?).bind (·.dst))=some d->i=j:=λi j d hi hj h1 h2=>(by exact acF);have hnn:l.toArray.size=l.length:=by simp
 have full:∀(L:Array Bool)(a:Act)(w:World)(fuel:Nat),DI D N l.toArray m ρ J V L a w->(∀i,i<m->L.getD i false=true)->l.length<=fuel+m->wpAny P .any l.toArray (Zf N D Q) fuel L a w:=by
  intro L a w fuel hI hall hfu;have hL:L=Ph l.length m:=Iv (by rw[hI.ls,hnn]) hml hall hI.tl;rw[hL];refine kr m (λk h1 h2=> ?_) hend fuel m a w (j' _) hml hfu ?_
  .have:=hready (k-m) Z';rwa[show m+(k-m)=k by omega] at this
  have hfits:Sf N D a (Hf ρ (λi=>match(l.toArray[i]?).bind (·.dst) with|some d=>a.tmps.getD d undef|none=>undef) ds):=(by exact ac3);refine(tail _ w hI.j (lv ds λp hp=> ?_)).out a hfits;obtain⟨h1,h2⟩:=hdsm p.1 p.2 hp;have:=hI.vs p.1 p.2 h1 (hall _ h1) h2;rw[h2];exact this
 have key:∀(fuel:Nat)(L:Array Bool)(a:Act)(w:World),DI D N l.toArray m ρ J V L a w->fuel+L.toList.countP (λb=>b)=l.length->wpAny P .any l.toArray (Zf N D Q) fuel L a w:=by
  intro fuel
  induction fuel with
  |zero=>
   exact acW
  |succ fuel ih=>
   intro L a w hI hc;by_cases hall:∀i,i<m->L.getD i false=true
   .exact aeR
   have hsome:∃i,i<m/\L.getD i false=false:=(by exact aen);have hready_spec:∀i,i∈Region.ready .any l.toArray L↔i<l.length/\L.getD i true=false/\∃o,l.toArray[i]?=some o/\∀e∈o.after,Region.binds .any e=true->L.getD e.on false=true:=λi=>(by exact acb);refine⟨λhnil=> ?_,λi hi=> ?_⟩
   .exact adS
   obtain⟨hil,hun,o,ho,hed⟩:=(hready_spec i).1 hi;have hiL:i<L.size:=by rw[hI.ls,hnn];exact hil
   have hun':L.getD i false=false:=(by exact abg);have hed':∀o',l.toArray[i]?=some o'->∀e∈o'.after,Region.binds .any e=true->L.getD e.on false=true:=λo' ho'=>(by exact GU);have him:i<m:=by
    obtain h|h:=Y9 i m
    .exact h
    exfalso;obtain h2|h2:=Y9 m i
    .have h3:=hdep (i-m) Z';rw[show m+(i-m)=i by omega] at h3;have h4:(i-m==0)=false:=by simp;omega
     rw[h4,d_] at h3;have:=dn hI.cl 16 i m hed' h3;rw[hI.tl m (j' _)] at this
     cases this
    obtain rfl:i=m:=Z';have h4:(l.length==i)=false:=by simp;omega
    rw[h4,d_] at htail;have h5:=u_.1 htail;obtain⟨j,hj,hju⟩:=hsome;have:=dn hI.cl 16 i j hed' (h5 j (by simpa using hj));rw[hju] at this
    cases this
   have hok':(l.take m)[i]?=some o:=(by rw[Z7,J' him];simpa using ho);obtain⟨s,hs,hstab,hog⟩:=hdo i o hok';rw[C_] at hstab hog;have hrdi:=hrd i him;rw[ho,hs] at hrdi;simp only[Q_,u_] at hrdi;have hro:Xc V ρ (λt=>a.tmps.getD t undef) w s:=Nq s λp hp=>by
    have hp2:=hrdi.2 p hp
    cases hp3:p.2 with
    |some j=>
     rw[hp3] at hp2;simp only[Q_,K_,R8] at hp2;exact hI.vs j p.1 hp2.1.1 (dn hI.cl 16 i j hed' hp2.2) hp2.1.2
    |none=>
     rw[hp3] at hp2;refine hI.ju p.1 λj hj hjl hjd=> ?_;have h6:=u_.1 hp2 j (by simpa using hj);rw[hjd] at h6;simp only[beq_self_eq_true,E6,d_,Q_] at h6;have:=dn hI.cl 16 j i (λo' ho' e he hb=>hI.cl j o' ho' hjl e he hb) h6.2;rw[hun'] at this
     cases this
   have hgo:=(hog _ w hI.j hro).out a (wpAny P .any l.toArray (Zf N D Q) fuel (L.setIfInBounds i true)) (Zf N D Q) (λ_=>rfl) (λv w2 hv=>by
    refine ih _ _ _ ?_ ?_
    .refine⟨?_, ?_,hJ _ _ hI.j hv.1,by simpa using hI.ls, ?_, ?_, ?_, ?_⟩
     .cases o.dst<;>exact hI.nd
     .cases hod:o.dst with
      |none=>exact hI.sz
      |some d=>simpa[Act.put] using hI.sz
     .intro k ok hk hkl e he hb;rw[Md hiL] at hkl |-;by_cases hki:k=i
      .subst hki;simp[hed' ok hk e he hb]
      simp only[hki,decide_false,d_] at hkl;simp[hI.cl k ok hk hkl e he hb]
     .intro k hk;rw[Md hiL,hI.tl k hk];have:¬k=i:=Z';simp[this]
     .intro j d hj hjl hjd;rw[Md hiL] at hjl;have hd1:∀d',o.dst=some d'->d'<a.tmps.size:=λd' hd'=>(by rw[hI.sz];exact hdN (i,d') (hpre i d' him (by rw[ho];exact hd')));by_cases hji:j=i
      .subst hji;rw[ho] at hjd;simp only[E7] at hjd;rw[hjd,Fe (hd1 d hjd),J' rfl];exact hv.2
      simp only[hji,decide_false,d_] at hjl;have hold:=hI.vs j d hj hjl hjd;have hdj:(j,d)∈ds:=hpre j d hj hjd;have hst:=(hdo j (l.toArray[j]?.getD default) (by
       have:j<l.length:=Z';rw[Z7,J' hj];simp[this])).choose_spec.2.1
      rw[C_] at hst;have hne:∀d',o.dst=some d'->d≠d':=λd' hd' e=>(by subst e;exact hji (hone j i d hj him hjd (by rw[ho];exact hd')))
      cases hod:o.dst with
      |none=>exact hst _ _ _ hold hv.1
      |some d'=>
       rw[Fe (hd1 d' hod),L' (hne d' hod)];exact hst _ _ _ hold hv.1
     intro s' hs';have hni:((l.toArray[i]?).bind (·.dst))≠some s':=hs' i him (by rw[Md hiL];simp);have hold:=hI.ju s' λj hj hjl=>hs' j hj (by rw[Md hiL];simp[hjl]);rw[ho] at hni;simp only[E7] at hni
     cases hod:o.dst with
     |none=>exact hold
     |some d'=>
      rw[Fe (by rw[hI.sz];exact hdN (i,d') (hpre i d' him (by rw[ho];exact hod))),L' (λe=>hni (by rw[hod,e]))];exact hold
    have hLi:L.toList[i]?=some false:=by
     have h3:i<L.toList.length:=by simpa using hiL
     rw[D8 h3];have:L.getD i false=L.toList[i]:=by simp[hiL]
     rw[<-this,hun']
    rw[Array.toList_setIfInBounds,List.countP_set (by simpa using hiL)];have h4:L.toList[i]'(by simpa using hiL)=false:=(X_.1 hLi).2;rw[h4];simp only[Q5,if_false,if_true];omega)
   unfold wpOp;rw[ho];exact hgo
 have hJ0:J ({ w with drawn:=w.drawn+1 }:World):=hJ w _ h0 ⟨rfl,rfl,rfl,j' _,λ_ _=>rfl⟩;have hr0:∀i,(Array.replicate l.toArray.size false).getD i false=false:=λi=>(by rw[y9,H5];split<;>rfl);refine key _ _ _ _ ⟨hf.nd,hf.sz,hJ0,by simp,λk o _ hk=> ?_,λk _=>hr0 k,λi d _ hi=> ?_,λs _=>hf.at_ s⟩ ?_
 .rw[hr0] at hk;cases hk
 .rw[hr0] at hi;cases hi
 simp[List.countP_replicate]
def Is(c:Value):Value->World->Prop:=λv _=>v=c
def Is.ext{c:Value}(v:Value)(w w':World)(h:Is c v w)(_:Below w.heap.size w w'):Is c v w':=h
variable {H:List HE}{W w0:World}
structure JJ(w0:World)(H:List HE)(w W:World):Prop where
 hp:Hp w0 H W
 bl:Below w.heap.size w W
def JJ.ext{W':World}(h:JJ w0 H w W)(hb:Below W.heap.size W W'):JJ w0 H w W':=⟨h.hp.ext hb,h.bl.trans (hb.mono h.bl.size)⟩
def JJ.start(h:Hp w0 H w):JJ w0 H w w:=⟨h,Below.refl _ _⟩
variable {cs:List Value}
def aeV(n k:Nat)(cs:List Value):Value->World->Prop:=λv W=>∃b,v=.slice (some ⟨b,0,none⟩) n n/\Sl W (some ⟨b,0,none⟩) n k cs
def Gc(w:World)(t:TypeId)(cs:List Value):Value->World->Prop:=λv W=>∃b,v=.pointer (some ⟨b,0,none⟩)/\w.heap.size<=b/\W.heap[b]?=some (.cells cs.toArray t (0,0))
def Gc.ext{t:TypeId}(v:Value)(w1 w2:World)(h:Gc w t cs v w1)(hb:Below w1.heap.size w1 w2):Gc w t cs v w2:=by
 obtain⟨b,h1,h2,h3⟩:=h;have hlt:b<w1.heap.size:=by
  obtain hlt|hge:=Y9 b w1.heap.size
  .exact hlt
  rw[y5 hge] at h3;cases h3
 exact⟨b,h1,h2,(hb.block b hlt).trans h3⟩
variable {by':Nat}{ag:Bool}{zc:List Value}{parts:Array (Nat×Operand)}
def Hk{d:Option Nat}{ty:TypeId}{af:Array Edge}{t e:TypeId}{len sz:Nat}{ps:List (Nat×Value)}(ht:P.underlying t=some (.slice e))(hte:Dd P e=some (sz,ag,by',zc)) (hp:vD ρ parts.toList=ps)(hzl:zc.length=sz)(hf:Wk (λi=>some (i*sz,sz)) (Qg len zc) ps=some cs)(h0:¬len*sz=0)(hsl:len*sz<=16777216)(hl:cs.length=len*sz){K:Value->World->Prop} (hk:∀v w2,aeV len sz cs v w2->Below w.heap.size w w2->K v w2):OG P ops ⟨d,.buildSlice t len parts,ty,pos,af,none⟩ ρ w K:=by
 obtain⟨z,hz,hzc⟩:=ee (w:=w) hte;have hbl:Below w.heap.size w (w.alloc (.cells cs.toArray e)):=(Below.refl _ _).alloc (j' _) _;refine Od rfl (w':=w.alloc (.cells cs.toArray e)) (v:=.slice (some ⟨w.heap.size,0,none⟩) len len) ?_ (hk _ _ ⟨w.heap.size,rfl,hl,λ_=>⟨_,rfl,λj u hu=> ?_⟩⟩ hbl)
 .exact abQ
 rw[qe,C_,cell_of_row _ w.heap.size j cs.toArray e (0,0) (heap_alloc_new w _)];simpa using hu
def Ui{d:Option Nat}{ty:TypeId}{af:Array Edge}{t:TypeId}{wr:World}(ht:Dd P t=some (n,ag,by',zc))(hb:Below wr.heap.size wr w){K:Value->World->Prop} (hk:∀v w2,Gc wr t zc v w2->Below w.heap.size w w2->K v w2):OG P ops ⟨d,.alloc t,ty,pos,af,none⟩ ρ w K:=by
 obtain⟨z,hz,hzc⟩:=ee (w:=w) ht;exact Od rfl (w':=w.alloc (.cells zc.toArray t)) (v:=.pointer (some ⟨w.heap.size,0,none⟩)) (by simp[execOp,Instr.alloc,newVar,newRow,hz,hzc]) (hk _ _ ⟨w.heap.size,rfl,hb.size,heap_alloc_new w _⟩ ((Below.refl _ _).alloc (j' _) _))
def JJ.newVar{t:TypeId}(h:JJ w0 H w W)(hs:Hp w0 H w)(h2:w.heap.size<=b)(h3:W.heap[b]?=some (.cells cs.toArray t (0,0))):Hp w0 (.blk b t cs (0,0)::H) W:=by
 refine⟨h.hp.below, ?_, ?_⟩
 .intro y hy;obtain rfl|hy:=S_.1 hy
  .exact⟨N_ hs.size h2,h3,.inr (j' _)⟩
  exact h.hp.own y hy
 rw[o7];show(b::H.filterMap HE.id).Nodup;refine I7.2 ⟨λhm=> ?_,h.hp.nd⟩;exact ab3
abbrev VP:=Value->World->Prop
def se(pv:Nat->VP)(i:Nat)(V:VP):Nat->VP:=λj=>cond (Nat.beq j i) V (pv j)
def noV:Nat->VP:=λ_ _ _=>True
def DX(P:Program)(ops:Array Oper)(J:World->Prop)(ρ:Rf)(T:(Nat->VP)->Prop):Nat->(Nat->VP)->List Oper->List (List (Nat×Option Nat))->Prop
 |i,pv,o::os,s::ss=>∃V:VP,(∀v w w',V v w->Below w.heap.size w w'->V v w')/\(∀ρ1 w1,J w1->Xc pv ρ ρ1 w1 s->OG P ops o ρ1 w1 λv w2=>Below w1.heap.size w1 w2/\V v w2)/\DX P ops J ρ T (i+1) (se pv i V) os ss
 |_,pv,[],[]=>T pv
 |_,_,_,_=>False
def xX(pv:Nat->VP)(i:Nat)(V:VP):se pv i V i=V:=by simp[se]
def lC(pv:Nat->VP){i:Nat}(V:VP)(h:j≠i):se pv i V j=pv j:=by
 have:Nat.beq j i=false:=by rw[y6];intro h2;exact h (Nat.eq_of_beq_eq_true h2)
 simp only[se,this,cond_false]
def Xs{V V':Nat->VP}{ρ ρ1:Rf}{w1:World}(h:∀j v w,V j v w->V' j v w):∀s,Xc V ρ ρ1 w1 s->Xc V' ρ ρ1 w1 s
 |[],_=>trivial
 |(_,some _)::r,hh=>⟨h _ _ _ hh.1,Xs h r hh.2⟩
 |(_,none)::r,hh=>⟨hh.1,Xs h r hh.2⟩
def jF{P:Program}{ops:Array Oper}{J:World->Prop}{ρ:Rf}{T:(Nat->VP)->Prop}:∀(os:List Oper)(ss:List (List (Nat×Option Nat)))(i:Nat)(pv:Nat->VP),(∀j,i<=j->∀v w,pv j v w)->DX P ops J ρ T i pv os ss->
  ∃V,(∀j,j<i->V j=pv j)/\DO P ops J V ρ i os ss/\T V
 |[],[],_,pv,_,h=>⟨pv,λ_ _=>rfl,trivial,h⟩
 |[],_::_,_,_,_,h=>h.elim
 |_::_,[],_,_,_,h=>h.elim
 |o::os,s::ss,i,pv,hpv,⟨V,h1,h2,h3⟩=>by
  obtain⟨V',h4,h5,h6⟩:=jF os ss (i+1) (se pv i V) (λj hj v w=>by rw[lC _ _ Z'];exact hpv j Z' v w) h3;have e:V' i=V:=by rw[h4 i Z',xX]
  refine⟨V',λj hj=>by rw[h4 j Z',lC _ _ Z'],⟨⟨?_, ?_⟩,h5⟩,h6⟩
  .rw[e];exact h1
  intro ρ1 w1 hj hr;rw[e];refine h2 ρ1 w1 hj (Xs (λj v w hh=> ?_) s hr);obtain hlt|hge:=Y9 j i
  .rw[h4 j Z',lC _ _ Z'] at hh;exact hh
  exact hpv j hge v w
def Ca{Q:Kq}{id:Nat}{l:List Oper}(m:Nat)(src:List (List (Nat×Option Nat)))(ds:List (Nat×Nat))(hh:Hp w0 H w)(hm:P.follows .mixedOrders=true)(hok:XJ l m N src ds=true) (h:DX P l.toArray (JJ w0 H w) ρ (λV=>∀f w',JJ w0 H w w'->wB V f w' ds->WL ⟨none,D,false⟩ P N l.toArray Q (l.drop m) (Hf ρ f ds) w') 0 noV (l.take m) src):WC ⟨none,D,false⟩ P N (.region id l.toArray true) Q ρ w:=by
 obtain⟨V,_,h1,h2⟩:=jF _ _ _ _ (λ_ _ _ _=>trivial) h;exact PY m src ds (JJ w0 H w) V hm hok (λ_ _ h hb=>h.ext hb) (JJ.start hh) h1 h2
variable {J:World->Prop}{T:(Nat->VP)->Prop}{i:Nat}{pv:Nat->VP}
def xa(h:T pv):DX P ops J ρ T i pv [] []:=h
variable {os:List Oper}{s:List (Nat×Option Nat)}{ss:List (List (Nat×Option Nat))}
def Va{o:Oper}(V:VP)(h1:∀v w w',V v w->Below w.heap.size w w'->V v w')(h2:∀ρ1 w1,J w1->Xc (pv) ρ ρ1 w1 s->OG P ops o ρ1 w1 λv w2=>Below w1.heap.size w1 w2/\V v w2) (k:DX P ops J ρ T (i+1) (se pv i (V)) os ss):DX P ops J ρ T i pv (o::os) (s::ss):=⟨V,h1,h2,k⟩
variable {d:Option Nat}{op:Op}{ty:TypeId}{af:Array Edge}
def Wa{v:Value}(hr:∀ρ1 w1,J w1->Xc (pv) ρ ρ1 w1 s->(execOp (ev ρ1) ⟨d,op,ty,pos,af,none⟩).run P w1=.ok (.value v) w1) (k:DX P ops J ρ T (i+1) (se pv i (Is v)) os ss):DX P ops J ρ T i pv (⟨d,op,ty,pos,af,none⟩::os) (s::ss):=
 Va (Is v) Is.ext (λρ1 w1 hj h=>Od rfl (hr ρ1 w1 hj h) ⟨Below.refl _ _,rfl⟩) k
def jW{v:Value}{f:FuncId}{args:Array Value}(hr:∀ρ1 w1,J w1->Xc (pv) ρ ρ1 w1 s->(execOp (ev ρ1) ⟨d,op,ty,pos,af,none⟩).run P w1=.ok (.enter f args) w1) (hc:∀w1,J w1->Calls P f args w1 λe w'=>e=.returned v/\Below w1.heap.size w1 w') (k:DX P ops J ρ T (i+1) (se pv i (Is v)) os ss):DX P ops J ρ T i pv (⟨d,op,ty,pos,af,none⟩::os) (s::ss):=
 Va (Is v) Is.ext (λρ1 w1 hj h=>Pb rfl (hr ρ1 w1 hj h) (hc w1 hj) λ_ _ hq=>⟨v,hq.1,hq.2,rfl⟩) k
def Rows(n k:Nat)(cs:List Value):VP:=λv W=>∃A c,v=.slice A n c/\Sl W A n k cs
def Rows.ext(v:Value)(w w':World)(h:Rows n k cs v w)(hb:Below w.heap.size w w'):Rows n k cs v w':=let⟨A,c,h1,h2⟩:=h;⟨A,c,h1,h2.ext hb⟩
def cz{t e:TypeId}{len sz:Nat}{ps:List (Nat×Value)}(ht:P.underlying t=some (.slice e))(hte:Dd P e=some (sz,ag,by',zc)) (hp:∀ρ1 w1,J w1->Xc (pv) ρ ρ1 w1 s->vD ρ1 parts.toList=ps)(hzl:zc.length=sz)(hf:Wk (λi=>some (i*sz,sz)) (Qg len zc) ps=some cs)(h0:¬len*sz=0)(hsl:len*sz<=16777216)(hl:cs.length=len*sz) (k:DX P ops J ρ T (i+1) (se pv i (Rows len sz cs)) os ss):DX P ops J ρ T i pv (⟨d,.buildSlice t len parts,ty,pos,af,none⟩::os) (s::ss):=
 Va (Rows len sz cs) Rows.ext (λρ1 w1 hj h=>Hk ht hte (hp ρ1 w1 hj h) hzl hf h0 hsl hl λ_ _ ⟨_,hv,hs⟩ hb=>⟨hb,_,_,hv,hs⟩) k
def kD{b:Bool}{v:Value}(hj:(ops[j]?).bind (·.dst)=some dj)(hv:∀ρ1 w1,J w1->Xc (pv) ρ ρ1 w1 s->ρ1 dj=.bool b) (hr:∀ρ1 w1,J w1->Xc (pv) ρ ρ1 w1 s->(execOp (ev ρ1) ⟨d,op,ty,pos,af,none⟩).run P w1=.ok (.value v) w1) (k:DX P ops J ρ T (i+1) (se pv i (Is v)) os ss):DX P ops J ρ T i pv (⟨d,op,ty,pos,af,some (j,b)⟩::os) (s::ss):=
 Va (Is v) Is.ext (λρ1 w1 hj' h=>Dk hj (hv ρ1 w1 hj' h) (Od rfl (hr ρ1 w1 hj' h) ⟨Below.refl _ _,rfl⟩)) k
def Ul{b:Bool}{v:Value}{f:FuncId}{args:Array Value}(hj:(ops[j]?).bind (·.dst)=some dj)(hv:∀ρ1 w1,J w1->Xc (pv) ρ ρ1 w1 s->ρ1 dj=.bool b) (hr:∀ρ1 w1,J w1->Xc (pv) ρ ρ1 w1 s->(execOp (ev ρ1) ⟨d,op,ty,pos,af,none⟩).run P w1=.ok (.enter f args) w1) (hc:∀w1,J w1->Calls P f args w1 λe w'=>e=.returned v/\Below w1.heap.size w1 w') (k:DX P ops J ρ T (i+1) (se pv i (Is v)) os ss):DX P ops J ρ T i pv (⟨d,op,ty,pos,af,some (j,b)⟩::os) (s::ss):=
 Va (Is v) Is.ext (λρ1 w1 hj' h=>Dk hj (hv ρ1 w1 hj' h) (Pb rfl (hr ρ1 w1 hj' h) (hc w1 hj') λ_ _ hq=>⟨v,hq.1,hq.2,rfl⟩)) k
def Vn{b c:Bool}(hj:(ops[j]?).bind (·.dst)=some dj)(hv:∀ρ1 w1,J w1->Xc (pv) ρ ρ1 w1 s->ρ1 dj=.bool c)(hb:c≠b) (k:DX P ops J ρ T (i+1) (se pv i (Is undef)) os ss):DX P ops J ρ T i pv (⟨d,op,ty,pos,af,some (j,b)⟩::os) (s::ss):=
 Va (Is undef) Is.ext (λρ1 w1 hj' h=>yz hj (hv ρ1 w1 hj' h) hb ⟨Below.refl _ _,rfl⟩) k
variable {α:Type}
def na{α:Type}(f:α->List Value)(l:List α):List Value:=l.flatMap f
variable {f:α->List Value}{sz:Nat}
def ve(hf:∀x,(f x).length=sz)(l:List α):(na f l).length=l.length*sz:=by
 induction l with
 |nil=>simp[na]
 |cons x l ih=>
  have:na f (x::l)=f x++na f l:=by simp[na]
  rw[this,Y_,hf,ih,E_,n9];omega
def Fh(x:α)(l:List α):na f (x::l)=f x++na f l:=by simp[na]
def La(l m:List α):na f (l++m)=na f l++na f m:=by simp[na]
def Lj(x:α):na f [x]=f x:=by simp[na]
def ig(hf:∀x,(f x).length=sz)(l:List α)(k:Nat):(na f l).drop (k*sz)=na f (l.drop k):=by
 induction l generalizing k with
 |nil=>simp[na]
 |cons x l ih=>
  cases k with
  |zero=>simp
  |succ k=>rw[Fh,n9,o8,<-hf x,List.drop_append,List.drop_succ_cons,<-ih k,hf x];simp[hf x]
def Ih(hf:∀x,(f x).length=sz)(l:List α)(k:Nat):(na f l).take (k*sz)=na f (l.take k):=by
 induction l generalizing k with
 |nil=>simp[na]
 |cons x l ih=>
  cases k with
  |zero=>simp[na]
  |succ k=>rw[Fh,n9,o8,k7,Fh,<-ih k,<-hf x,List.take_append];simp;exact W_ (Nat.le_add_right _ _)
def zr(hf:∀x,(f x).length=sz){l:List α}{x:α}(h:l[k]?=some x):((na f l).drop (k*sz)).take sz=f x:=by
 obtain⟨h1,h2⟩:=X_.1 h;rw[ig hf,m8 h1,h2,Fh,List.take_append_of_le_length (by rw[hf];omega),W_ (by rw[hf];omega)]
variable {ad:Addr}
def Rd.recAt{l:List α}(h:Rd w ad (na f l))(hf:∀x,(f x).length=sz){x:α}(hx:l[k]?=some x):Rd w (ad.add (k*sz)) (f x):=by
 have:=h.elem k sz;rwa[zr hf hx] at this
def Sl.Fa{A:Option Addr}{l:List α}(h:Sl w A n sz (na f l))(hf:∀x,(f x).length=sz)(h0:0<sz):l.length=n:=by
 have:=h.1;rw[ve hf] at this;exact Nat.eq_of_mul_eq_mul_right h0 this
def de(hf:∀x,(f x).length=sz){l:List α}{y:α}(h:k<l.length):Hb (na f l) (k*sz) (f y)=na f (l.set k y):=by
 unfold Hb;rw[Ih hf,hf,<-n9,ig hf,X5,J' h,La,Fh,l_]
def Ta(h:∀x,(f x).all Value.oneCell'=true)(l:List α):((na f l).all Value.oneCell')=true:=by
 rw[u_];intro v hv;obtain⟨x,_,hx⟩:=U7.1 hv;exact u_.1 (h x) v hx
def Ge{l:List α}{x:α}(h:l[k]?=some x):l.drop k=x::l.drop (k+1):=by
 obtain⟨h1,rfl⟩:=X_.1 h;exact m8 h1
def Gh{p:α->Bool}{l:List α}(h:l.any p=false):l.find? p=none:=by
 rw[L7];intro x hx;have:=p9.1 h x hx;simpa using this
def Et{p:α->Bool}{l:List α}{i:Nat}{x:α}(h:(l.take i).any p=false)(hx:l[i]?=some x)(hp:p x=true):l.find? p=some x:=by
 have:l=l.take i++x::l.drop (i+1):=by rw[<-Ge hx,P9]
 rw[this,List.find?_append,Gh h,B5 hp];rfl
def Wo(acc:List Nat):List Edge->Nat
 |[]=>0
 |e::r=>bif Region.binds .any e then 1<<<e.on|||acc.getD e.on 0|||Wo acc r else Wo acc r
def Ow:List Oper->List Nat->List Nat
 |[],acc=>acc
 |o::r,acc=>Ow r (acc++[Wo acc o.after.toList])
def Pp{acc:List Nat}{i:Nat}:∀{es:List Edge},(Wo acc es).testBit i=true->∃e∈es,Region.binds .any e=true/\(e.on=i\/(acc.getD e.on 0).testBit i=true)
 |[],h=>by simp[Wo] at h
 |e::r,h=>by
  unfold Wo at h
  cases hb:Region.binds .any e with
  |false=>
   rw[hb,cond_false] at h;obtain⟨e',h1,h2⟩:=Pp h;exact⟨e',F' _ h1,h2⟩
  |true=>
   rw[hb,cond_true,Nat.testBit_or,Nat.testBit_or,C7,C7] at h;obtain(h|h)|h:=h
   .refine⟨e,q',hb,.inl ?_⟩;rw[Nat.one_shiftLeft,Nat.testBit_two_pow] at h;simpa using h
   .exact⟨e,q',hb,.inr h⟩
   obtain⟨e',h1,h2⟩:=Pp h;exact⟨e',F' _ h1,h2⟩
def JF:∀(l:List Oper)(acc:List Nat),∃t,Ow l acc=acc++t
 |[],acc=>⟨[],by simp[Ow]⟩
 |o::r,acc=>(by obtain⟨t,h⟩:=JF r (acc++[Wo acc o.after.toList]);exact⟨_,by rw[Ow,h,l_]⟩)
def PK:∀(l:List Oper)(acc:List Nat)(k i:Nat),acc.length<=k->((Ow l acc).getD k 0).testBit i=true->∃o,l[k-acc.length]?=some o/\∃e∈o.after,Region.binds .any e=true/\(e.on=i\/e.on<k/\((Ow l acc).getD e.on 0).testBit i=true)
 |[],acc,k,i,hk,h=>(by rw[Ow,K9,t_ hk] at h;simp at h)
 |o::r,acc,k,i,hk,h=>by
  obtain hlt|hge:=Y9 acc.length k
  .have hl:(acc++[Wo acc o.after.toList]).length=acc.length+1:=by simp
   obtain⟨o',h1,h2⟩:=PK r (acc++[Wo acc o.after.toList]) k i Z' h;refine⟨o', ?_,h2⟩;rw[hl] at h1;rw[show k-acc.length=(k-(acc.length+1))+1 by omega,N6];exact h1
  obtain rfl:k=acc.length:=Z';obtain⟨t,ht⟩:=JF r (acc++[Wo acc o.after.toList]);refine⟨o,by rw[f_];rfl, ?_⟩;rw[Ow,ht] at h |-;rw[K9,l_,I9 (j' _),f_] at h;simp only[C',U6,l9,E'] at h;obtain⟨e,h1,h2,h3⟩:=Pp h;refine⟨e,by simpa using h1,h2, ?_⟩;obtain h3|h3:=h3
  .exact .inl h3
  have h4:e.on<acc.length:=by
   obtain h5|h5:=Y9 e.on acc.length
   .exact h5
   rw[K9,t_ h5] at h3;simp at h3
  refine .inr ⟨h4, ?_⟩;rw[K9,l_,X8 h4,<-K9];exact h3
def Bj{l:List Oper}{M:List Nat}{L:Array Bool}(hM:Ow l []=M)(hc:fq l.toArray L):∀(k i:Nat),(∀o,l.toArray[k]?=some o->∀e∈o.after,Region.binds .any e=true->L.getD e.on false=true)->(M.getD k 0).testBit i=true->L.getD i false=true:=by
 intro k
 induction k using Nat.strongRecOn with
 |_ k ih=>
  intro i hk h;rw[<-hM] at h;obtain⟨o,ho,e,he,hb,h3⟩:=PK l [] k i (D' _) h;have ho':l.toArray[k]?=some o:=by rw[j8];exact ho
  have h1:=hk o ho' e he hb;obtain h3|⟨h3,h4⟩:=h3
  .rw[<-h3];exact h1
  rw[hM] at h4;exact ih e.on h3 i (λo' ho2=>hc e.on o' ho2 h1) h4
def flL(n m:Nat)(fl:List Nat):Array Bool:=((List.range n).map λi=>decide (i<m/\i∉fl)).toArray
def VV{i:Nat}{fl:List Nat}(hi:i<n):(flL n m fl).getD i true=decide (i<m/\i∉fl):=by
 unfold flL;rw[y9,j8,V_,z9 hi];rfl
def NP(Q:Kq):Prop:=∀c ρ w,¬Q (.panic c) ρ w
def Cb{fn:Func}:NP (Po P fn R):=λ_ _ _ h=>h.1.elim nofun nofun
def Xa(h:NP Q):NP (re next Q):=λc ρ w hq=>h c ρ w hq
def Db{id:Nat}(h:NP Q):NP (Zp id Q):=λc ρ w hq=>h c ρ w hq
def Ky:Op->Bool
 |.extract _ _=>true
 |.move _=>true
 |_=>false
def abm(l:List Oper)(m:Nat)(fl:List Nat)(i:Nat):Bool:=
 Region.free .any l.toArray (flL l.length m fl) i && match l[i]? with
  |some ⟨some _,op,_,_,af,none⟩=>Ky op && af.all λe=> !Region.binds .any e||(decide (e.on<m) && !fl.contains e.on)
  |_=>false
def zN{l:List Oper}{fl:List Nat}{i:Nat}(h:abm l m fl i=true):Region.free .any l.toArray (flL l.length m fl) i=true/\(∀o,l[i]?=some o->∀e∈o.after,Region.binds .any e=true->e.on<m/\e.on∉fl)/\
  ∃d op ty pos af,l[i]?=some ⟨some d,op,ty,pos,af,none⟩/\Ky op=true:=by
 unfold abm at h;rw[Q_] at h;obtain⟨h1,h2⟩:=h;split at h2
 .rename_i d op ty pos af ho;rw[Q_] at h2;obtain⟨hpu,h2⟩:=h2;refine⟨h1,λo ho' e he hb=> ?_,d,op,ty,pos,af,ho,hpu⟩;rw[ho] at ho';injection ho' with ho'
  subst ho';have:=F6.1 h2 e he;simp only[hb,E6,d_,Q_,K_,z7,List.contains_eq_mem,I6] at this;exact this
 cases h2
def vB(l:List Oper)(m N:Nat)(src:List (List (Nat×Option Nat)))(ds:List (Nat×Nat))(fl M:List Nat):Bool:=
 let ops:=l.toArray
 let pre:=(List.range m).map λi=>((ops[i]?).bind (·.dst))
 (m<=l.length) && (src.length==m) &&
 (ds==(pre.zipIdx.filterMap λ(d,i)=>d.map λd=>(i,d)).reverse) && (decide (ds.map (·.2)).Nodup) && (ds.all λp=>p.2<N) &&
 ((List.range m).all λi=>match ops[i]?,src[i]? with
  |some o,some s=>((o.looksAt ops).all λt=>s.any λp=>p.1==t) &&
    s.all λp=>match p.2 with
     |some j=>(j<m) && ((ops[j]?).bind (·.dst)==some p.1) && (M.getD i 0).testBit j
     |none=>(List.range m).all λj=> !((ops[j]?).bind (·.dst)==some p.1)||(j !=i && (M.getD j 0).testBit i)
  |_,_=>false) &&
 (l.length==m||((List.range m).all λi=>fl.contains i||(M.getD m 0).testBit i)) &&
 ((List.range (l.length-m)).all λk=>Region.ready .any ops (Ph l.length (m+k))==[m+k]) && (Region.ready .any ops (Ph l.length l.length)==[]) &&
 ((List.range (l.length-m)).all λk=>k==0||(M.getD (m+k) 0).testBit m) &&
 ((List.range l.length).all λi=>match ops[i]? with|some o=>o.after.all λe=> !Region.binds .any e||e.on<i|none=>false) &&
 Region.noSelect ops && (fl.all λi=>abm l m fl i) && (Ow l []==M)
def Xx(P:Program)(l:List Oper):List Nat->Prop
 |[]=>True
 |i::r=>(∃d t ty pos af n ag by' zc,l[i]?=some ⟨some d,.alloc t,ty,pos,af,none⟩/\Dd P t=some (n,ag,by',zc))/\Xx P l r
def Xx.at{l:List Oper}:∀{fr:List Nat},Xx P l fr->∀i∈fr,∃d t ty pos af n ag by' zc,l[i]?=some ⟨some d,.alloc t,ty,pos,af,none⟩/\Dd P t=some (n,ag,by',zc)
 |[],_,_,hi=>by simp at hi
 |j::r,h,i,hi=>by
  obtain rfl|hi:=S_.1 hi
  .exact h.1
  exact Xx.at h.2 i hi
def Pd{l:List Oper}:Xx P l []:=trivial
def xi{l:List Oper}{i d t ty:Nat}{af:Array Edge}{r:List Nat}(h:l[i]?=some ⟨some d,.alloc t,ty,pos,af,none⟩)(ht:Dd P t=some (n,ag,by',zc))(hr:Xx P l r):Xx P l (i::r):=⟨⟨d,t,ty,pos,af,n,ag,by',zc,h,ht⟩,hr⟩
def TU{d:Nat}{t ty:Nat}{af:Array Edge}{K:Value->World->Prop}(ht:Dd P t=some (n,ag,by',zc))(h:OG P ops ⟨some d,.alloc t,ty,pos,af,none⟩ ρ w K) (a:Act)(hd:d<a.tmps.size)(next:Act->World->Prop)(Q:Exit->Act->World->Prop)(ha:∀i,a.tmps.getD i undef=ρ i)(hn:∀v w',K v w'->(∃b,v=.pointer (some ⟨b,0,none⟩)/\w.heap.size<=b/\b<w'.heap.size)->next (a.put (some d) v) w'):
  if Region.wanted ⟨some d,.alloc t,ty,pos,af,none⟩ (yielded ops a.tmps) then(Oper.wp P ⟨some d,.alloc t,ty,pos,af,none⟩ a w next Q)\/((Oper.asks P ⟨some d,.alloc t,ty,pos,af,none⟩ a w)/\LetsOut Q) else next (a.put (some d) undef) w:=by
 have h1:=h.out a (λa' w'=>∃v,a'=a.put (some d) v/\K v w') Q ha λv w' hk=>⟨v,rfl,hk⟩;have hw:Region.wanted ⟨some d,.alloc t,ty,pos,af,none⟩ (yielded ops a.tmps)=true:=by simp[Region.wanted]
 rw[J' hw] at h1 |-;refine h1.imp (λh2=> ?_) id;obtain⟨z,hz,hzc⟩:=ee (w:=w) ht;have hr:(execOp a.eval ⟨some d,.alloc t,ty,pos,af,none⟩).run P w=.ok (.value (.pointer (some ⟨w.heap.size,0,none⟩))) (w.alloc (.cells zc.toArray t)):=by simp[execOp,Instr.alloc,newVar,newRow,hz,hzc]
 unfold Oper.wp at h2 |-;rw[hr] at h2 |-;obtain⟨v,hv,hk⟩:∃v,a.put (some d) (.pointer (some ⟨w.heap.size,0,none⟩))=a.put (some d) v/\K v (w.alloc (.cells zc.toArray t)):=h2;have h3:=J_ (λa':Act=>a'.tmps.getD d undef) hv;simp only[Fe hd,J'] at h3;subst h3;exact hn _ _ hk ⟨_,rfl,j' _,(Array.getElem?_eq_some_iff.1 (heap_alloc_new w _)).1⟩
def FG{x:Operand}{ty d:Nat}{af:Array Edge}(f:Operand->Value)(w:World):(∃v,∀w',(execOp f ⟨some d,.extract x k,ty,pos,af,none⟩).run P w'=.ok (.value v) w')\/∀a K,Oper.upon P ⟨some d,.extract x k,ty,pos,af,none⟩ a K (λ_ _ _=>False) ((execOp f ⟨some d,.extract x k,ty,pos,af,none⟩).run P w)->False:=by
 cases hx:f x with
 |tuple xs=>
  cases hk:xs[k]? with
  |some v=>exact .inl ⟨v,λw'=>by simp[execOp,hx,Instr.extract,hk]⟩
  |none=>exact .inr λa K h=>by simp[execOp,hx,Instr.extract,hk,Oper.upon] at h
 |_=>exact .inr λa K h=>by simp[execOp,hx,Instr.extract,Oper.upon] at h
def pure_run{op:Op}(hp:Ky op=true){ty d:Nat}{af:Array Edge}(f:Operand->Value)(w:World):(∃v,∀w',(execOp f ⟨some d,op,ty,pos,af,none⟩).run P w'=.ok (.value v) w')\/∀a K,Oper.upon P ⟨some d,op,ty,pos,af,none⟩ a K (λ_ _ _=>False) ((execOp f ⟨some d,op,ty,pos,af,none⟩).run P w)->False:=by
 unfold Ky at hp;split at hp
 .exact FG f w
 .exact .inl ⟨_,λw'=>by simp[execOp];rfl⟩
 cases hp
def DG{d:Nat}{op:Op}(hp:Ky op=true){ty:Nat}{af:Array Edge}{K:Value->World->Prop}(h:OG P ops ⟨some d,op,ty,pos,af,none⟩ ρ w K)(a:Act)(hd:d<a.tmps.size)(ha:∀i,a.tmps.getD i undef=ρ i):
  ∃v,(∀w',(execOp a.eval ⟨some d,op,ty,pos,af,none⟩).run P w'=.ok (.value v) w')/\K v w:=by
 have h1:=h.out a (λa' w'=>∃v,a'=a.put (some d) v/\K v w') (λ_ _ _=>False) ha λv w' hk=>⟨v,rfl,hk⟩;rw[J' (by simp[Region.wanted])] at h1;obtain h1|⟨_,_,_,h1⟩:=h1
 .unfold Oper.wp at h1;obtain⟨v,hv⟩|hn:=pure_run (P:=P) hp (d:=d) (ty:=ty) (pos:=pos) (af:=af) a.eval w
  .rw[hv w] at h1;obtain⟨v',h2,hk⟩:∃v',a.put (some d) v=a.put (some d) v'/\K v' w:=h1;have h3:=J_ (λa':Act=>a'.tmps.getD d undef) h2;simp only[Fe hd,J'] at h3;subst h3;exact⟨v,hv,hk⟩
  exact(hn _ _ h1).elim
 exact h1.elim
structure DI2(D:List Deferred)(fr:List Nat)(N:Nat)(ops:Array Oper)(m:Nat)(ρ:Rf)(J:World->Prop)(V:Nat->Value->World->Prop)(L:Array Bool)(a:Act)(w:World):Prop where
 nd:a.defers=D
 sz:a.tmps.size=N
 j:J w
 ls:L.size=ops.size
 cl:fq ops L
 tl:∀k,m<=k->L.getD k false=false
 vs:∀i d,i<m->L.getD i false=true->(ops[i]?).bind (·.dst)=some d->V i (a.tmps.getD d undef) w
 ju:∀s,(∀i,i<m->L.getD i false=true->(ops[i]?).bind (·.dst)≠some s)->a.tmps.getD s undef=ρ s
 fb:∀i∈fr,L.getD i false=true->∀d,(ops[i]?).bind (·.dst)=some d->∃b,a.tmps.getD d undef=.pointer (some ⟨b,0,none⟩)/\b<w.heap.size
 fd:∀i∈fr,∀j∈fr,i≠j->L.getD i false=true->L.getD j false=true->∀d e,(ops[i]?).bind (·.dst)=some d->(ops[j]?).bind (·.dst)=some e->a.tmps.getD d undef≠a.tmps.getD e undef
variable {b':Nat}{t':TypeId}
def BQ{id:Nat}{l:List Oper}(fr fl M:List Nat)(m:Nat)(src:List (List (Nat×Option Nat)))(ds:List (Nat×Nat))(J:World->Prop)(V:Nat->Value->World->Prop)(hm:P.follows .mixedOrders=true)(hok:vB l m N src ds fl M=true)(hfr:Xx P l fr)(hfm:fr.all (λi=>i<m)=true)(hQp:NP Q) (hJ:∀w w',J w->Below w.heap.size w w'->J w')(h0:J w)(hops:DO P l.toArray J V ρ 0 (l.take m) src) (tail:∀f w',J w'->wB V f w' ds->(∀i∈fr,∀j∈fr,i≠j->f i≠f j)->WL ⟨none,D,false⟩ P N l.toArray Q (l.drop m) (Hf ρ f ds) w'):WC ⟨none,D,false⟩ P N (.region id l.toArray true) Q ρ w:=by
 refine WC.mn λa hf=>wp_region_any hm ?_;simp only[vB,Q_,K_,R8,u_,g_] at hok;obtain⟨⟨⟨⟨⟨⟨⟨⟨⟨⟨⟨⟨⟨hml,_⟩,hds⟩,hnd⟩,hdN⟩,hrd⟩,htail⟩,hready⟩,hend⟩,hdep⟩,hedge⟩,hns⟩,hflo⟩,hM⟩:=hok;have hfl:=λi hi=>zN (hflo i hi);have hdo:=(FM _ _ _ hops).2;have hpre:∀i d,i<m->((l.toArray[i]?).bind (·.dst))=some d->(i,d)∈ds:=λi d hi hd=>(by exact acn);have hdsm:∀i d,(i,d)∈ds->i<m/\((l.toArray[i]?).bind (·.dst))=some d:=λi d hp=>(by exact acz);have hone:∀i j d,i<m->j<m->((l.toArray[i]?).bind (·.dst))=some d->((l.toArray[j]?).bind (·.dst))=some d->i=j:=λi j d hi hj h1 h2=>(by exact acF);have hnn:l.toArray.size=l.length:=by simp
 have hfm':∀i∈fr,i<m:=λi hi=>by simpa using u_.1 hfm i hi
 have full:∀(L:Array Bool)(a:Act)(w:World)(fuel:Nat),DI2 D fr N l.toArray m ρ J V L a w->(∀i,i<m->L.getD i false=true)->l.length<=fuel+m->wpAny P .any l.toArray (Zf N D Q) fuel L a w:=by
  intro L a w fuel hI hall hfu;have hL:L=Ph l.length m:=Iv (by rw[hI.ls,hnn]) hml hall hI.tl;rw[hL];refine kr m (λk h1 h2=> ?_) hend fuel m a w (j' _) hml hfu ?_
  .have:=hready (k-m) Z';rwa[show m+(k-m)=k by omega] at this
  have hfits:Sf N D a (Hf ρ (λi=>match(l.toArray[i]?).bind (·.dst) with|some d=>a.tmps.getD d undef|none=>undef) ds):=(by exact ac3);refine(tail _ w hI.j (lv ds λp hp=> ?_) λi hi j hj hij=> ?_).out a hfits
  rotate_left
  .obtain⟨d,t,ty,pos,af,n,ag,by',zc,hi1,_⟩:=hfr.at i hi;obtain⟨e,t',ty',pos',af',n',ag',by'',zc',hj1,_⟩:=hfr.at j hj;have hi2:(l.toArray[i]?).bind (·.dst)=some d:=by rw[j8,hi1];rfl
   have hj2:(l.toArray[j]?).bind (·.dst)=some e:=by rw[j8,hj1];rfl
   rw[hi2,hj2];exact hI.fd i hi j hj hij (hall i (hfm' i hi)) (hall j (hfm' j hj)) d e hi2 hj2
  obtain⟨h1,h2⟩:=hdsm p.1 p.2 hp;have:=hI.vs p.1 p.2 h1 (hall _ h1) h2;rw[h2];exact this
 have key:∀(fuel:Nat)(L:Array Bool)(a:Act)(w:World),DI2 D fr N l.toArray m ρ J V L a w->fuel+L.toList.countP (λb=>b)=l.length->wpAny P .any l.toArray (Zf N D Q) fuel L a w:=by
  intro fuel
  induction fuel with
  |zero=>
   exact acW
  |succ fuel ih=>
   intro L a w hI hc;by_cases hall:∀i,i<m->L.getD i false=true
   .exact aeR
   have hsome:∃i,i<m/\L.getD i false=false:=(by exact aen);have hready_spec:∀i,i∈Region.ready .any l.toArray L↔i<l.length/\L.getD i true=false/\∃o,l.toArray[i]?=some o/\∀e∈o.after,Region.binds .any e=true->L.getD e.on false=true:=λi=>(by exact acb);have both:∀(i:Nat)(_:i<m)(o:Oper)(_:l.toArray[i]?=some o)(_:L.getD i false=false)(_:∀e∈o.after,Region.binds .any e=true->L.getD e.on false=true),
     OG P l.toArray o (λt=>a.tmps.getD t undef) w (λv w2=>Below w.heap.size w w2/\V i v w2)/\
     ∀v w2,(Below w.heap.size w w2/\V i v w2)->(i∈fr->∃b,v=.pointer (some ⟨b,0,none⟩)/\w.heap.size<=b/\b<w2.heap.size)->wpAny P .any l.toArray (Zf N D Q) fuel (L.setIfInBounds i true) (a.put o.dst v) w2:=λi him o ho hun' hed=>by
    have hiL:i<L.size:=by rw[hI.ls,hnn];omega
    have hed':∀o',l.toArray[i]?=some o'->∀e∈o'.after,Region.binds .any e=true->L.getD e.on false=true:=λo' ho'=>(by rw[ho] at ho';injection ho' with ho';subst ho';exact hed);have hok':(l.take m)[i]?=some o:=(by rw[Z7,J' him];simpa using ho);obtain⟨s,hs,hstab,hog⟩:=hdo i o hok';rw[C_] at hstab hog;have hrdi:=hrd i him;rw[ho,hs] at hrdi;simp only[Q_,u_] at hrdi;have hro:Xc V ρ (λt=>a.tmps.getD t undef) w s:=Nq s λp hp=>by
     have hp2:=hrdi.2 p hp
     cases hp3:p.2 with
     |some j=>
      rw[hp3] at hp2;simp only[Q_,K_,R8] at hp2;exact hI.vs j p.1 hp2.1.1 (Bj hM hI.cl i j hed' hp2.2) hp2.1.2
     |none=>
      rw[hp3] at hp2;refine hI.ju p.1 λj hj hjl hjd=> ?_;have h6:=u_.1 hp2 j (by simpa using hj);rw[hjd] at h6;simp only[beq_self_eq_true,E6,d_,Q_] at h6;have:=Bj hM hI.cl j i (λo' ho' e he hb=>hI.cl j o' ho' hjl e he hb) h6.2;rw[hun'] at this
      cases this
    have hnext:∀v w2,(Below w.heap.size w w2/\V i v w2)->(i∈fr->∃b,v=.pointer (some ⟨b,0,none⟩)/\w.heap.size<=b/\b<w2.heap.size)->wpAny P .any l.toArray (Zf N D Q) fuel (L.setIfInBounds i true) (a.put o.dst v) w2:=λv w2 hv hfv=>by
     have hd1:∀d',o.dst=some d'->d'<a.tmps.size:=λd' hd'=>(by rw[hI.sz];exact hdN (i,d') (hpre i d' him (by rw[ho];exact hd')));have hput:∀j d,j<m->j≠i->(l.toArray[j]?).bind (·.dst)=some d->(a.put o.dst v).tmps.getD d undef=a.tmps.getD d undef:=λj d hj hji hjd=>by
      cases hod:o.dst with
      |none=>rfl
      |some d'=>rw[Fe (hd1 d' hod),L' λe=>hji (hone j i d hj him hjd (by rw[ho,e];exact hod))]
     have hputi:∀d,(l.toArray[i]?).bind (·.dst)=some d->(a.put o.dst v).tmps.getD d undef=v:=λd hd=>(by rw[ho] at hd;simp only[E7] at hd;rw[hd,Fe (hd1 d hd),J' rfl]);have hfd:∀j∈fr,j≠i->L.getD j false=true->i∈fr->∀e,(l.toArray[j]?).bind (·.dst)=some e->a.tmps.getD e undef≠v:=λj hj hji hjl hif e hje heq=>by
      obtain⟨b,hb1,hb2⟩:=hI.fb j hj hjl e hje;obtain⟨b',hv1,hb3,_⟩:=hfv hif;rw[hb1,hv1] at heq;injection heq with heq
      injection heq with heq
      injection heq with heq
      omega
     refine ih _ _ _ ?_ ?_
     .refine⟨?_, ?_,hJ _ _ hI.j hv.1,by simpa using hI.ls, ?_, ?_, ?_, ?_, ?_, ?_⟩
      .cases o.dst<;>exact hI.nd
      .cases hod:o.dst with
       |none=>exact hI.sz
       |some d=>simpa[Act.put] using hI.sz
      .intro k ok hk hkl e he hb;rw[Md hiL] at hkl |-;by_cases hki:k=i
       .subst hki;simp[hed' ok hk e he hb]
       simp only[hki,decide_false,d_] at hkl;simp[hI.cl k ok hk hkl e he hb]
      .intro k hk;rw[Md hiL,hI.tl k hk];have:¬k=i:=Z';simp[this]
      .intro j d hj hjl hjd;rw[Md hiL] at hjl;have hd1:∀d',o.dst=some d'->d'<a.tmps.size:=λd' hd'=>(by rw[hI.sz];exact hdN (i,d') (hpre i d' him (by rw[ho];exact hd')));by_cases hji:j=i
       .subst hji;rw[ho] at hjd;simp only[E7] at hjd;rw[hjd,Fe (hd1 d hjd),J' rfl];exact hv.2
       simp only[hji,decide_false,d_] at hjl;have hold:=hI.vs j d hj hjl hjd;have hdj:(j,d)∈ds:=hpre j d hj hjd;have hst:=(hdo j (l.toArray[j]?.getD default) (by
        have:j<l.length:=Z';rw[Z7,J' hj];simp[this])).choose_spec.2.1
       rw[C_] at hst;have hne:∀d',o.dst=some d'->d≠d':=λd' hd' e=>(by subst e;exact hji (hone j i d hj him hjd (by rw[ho];exact hd')))
       cases hod:o.dst with
       |none=>exact hst _ _ _ hold hv.1
       |some d'=>
        rw[Fe (hd1 d' hod),L' (hne d' hod)];exact hst _ _ _ hold hv.1
      .intro s' hs';have hni:((l.toArray[i]?).bind (·.dst))≠some s':=hs' i him (by rw[Md hiL];simp);have hold:=hI.ju s' λj hj hjl=>hs' j hj (by rw[Md hiL];simp[hjl]);rw[ho] at hni;simp only[E7] at hni
       cases hod:o.dst with
       |none=>exact hold
       |some d'=>
        rw[Fe (by rw[hI.sz];exact hdN (i,d') (hpre i d' him (by rw[ho];exact hod))),L' (λe=>hni (by rw[hod,e]))];exact hold
      .intro j hj hjl d hjd;rw[Md hiL] at hjl;by_cases hji:j=i
       .subst hji;obtain⟨b,hb1,_,hb3⟩:=hfv hj;exact⟨b,(hputi d hjd).trans hb1,hb3⟩
       simp only[hji,decide_false,d_] at hjl;obtain⟨b,hb1,hb2⟩:=hI.fb j hj hjl d hjd;exact⟨b,(hput j d (hfm' j hj) hji hjd).trans hb1,T9 hb2 hv.1.size⟩
      intro j hj k hk hjk hjl hkl d e hjd hke;rw[Md hiL] at hjl hkl;by_cases hji:j=i
      .subst hji;have hkj:k≠j:=λe=>hjk e.symm;simp only[hkj,decide_false,d_] at hkl;rw[hputi d hjd,hput k e (hfm' k hk) hkj hke];exact λhe=>hfd k hk hkj hkl hj e hke he.symm
      simp only[hji,decide_false,d_] at hjl;by_cases hki:k=i
      .subst hki;rw[hputi e hke,hput j d (hfm' j hj) hji hjd];exact hfd j hj hji hjl hk d hjd
      simp only[hki,decide_false,d_] at hkl;rw[hput j d (hfm' j hj) hji hjd,hput k e (hfm' k hk) hki hke];exact hI.fd j hj k hk hjk hjl hkl d e hjd hke
     have hLi:L.toList[i]?=some false:=by
      have h3:i<L.toList.length:=by simpa using hiL
      rw[D8 h3];have:L.getD i false=L.toList[i]:=by simp[hiL]
      rw[<-this,hun']
     rw[Array.toList_setIfInBounds,List.countP_set (by simpa using hiL)];have h4:L.toList[i]'(by simpa using hiL)=false:=(X_.1 hLi).2;rw[h4];simp only[Q5,if_false,if_true];omega
    exact⟨hog _ w hI.j hro,hnext⟩
   by_cases hnf:∀i,i<m->i∉fl->L.getD i false=true
   .obtain⟨i,him,hun'⟩:=hsome;have hif:i∈fl:=a8 λh=>by
     have h2:=hnf i him h;rw[hun'] at h2
     cases h2
    obtain⟨hfree,hedf,d,op,ty,pos,af,hlo,hpu⟩:=hfl i hif;have ho:l.toArray[i]?=some ⟨some d,op,ty,pos,af,none⟩:=by rw[j8];exact hlo
    have hed:∀e∈af,Region.binds .any e=true->L.getD e.on false=true:=λe he hb=>(by obtain⟨h1,h2⟩:=hedf _ hlo e he hb;exact hnf e.on h1 h2);have hil:i<l.length:=Z';have hiL:i<L.size:=by rw[hI.ls,hnn];exact hil
    have hunt:L.getD i true=false:=(by rw[y9] at hun' |-;rw[o6 hiL] at hun' |-;simpa using hun');obtain⟨hog,hnext⟩:=both i him _ ho hun' hed;obtain⟨v,hv,hk⟩:=DG hpu hog a (by rw[hI.sz];exact hdN (i,d) (hpre i d him (by rw[ho];rfl))) λ_=>rfl;refine wpAny_first (v:=v) ho (Region.noSelect_spec hns) (λc a w ⟨ρ',_,hq⟩=>(hQp c ρ' w hq).elim) fuel L a w (λj oj hj hji hjl hno=> ?_) ((hready_spec i).2 ⟨hil,hunt,_,ho,hed⟩) (.inl ⟨by simp[Region.wanted],hv⟩) (hnext v w hk λhfr'=> ?_)
    .refine Region.free_spec ho hfree j oj hj hji ?_ hno;have hjlen:j<l.length:=by have:=(Array.getElem?_eq_some_iff.1 hj).1;omega
     rw[VV hjlen];rw[I6];rintro ⟨h1,h2⟩;have h3:=hnf j h1 h2;have hjL:j<L.size:=by rw[hI.ls,hnn];exact hjlen
     rw[y9] at h3 hjl;rw[o6 hjL] at h3 hjl;simp only[l9] at h3 hjl;rw[h3] at hjl
     cases hjl
    obtain⟨d',t,ty',pos',af',n,ag,by',zc,hi1,_⟩:=hfr.at i hfr';rw[hlo] at hi1;injection hi1 with hi1
    injection hi1 with _ hi1
    subst hi1
    cases hpu
   have hsome2:∃i,i<m/\i∉fl/\L.getD i false=false:=by
    refine a8 λhn=>hnf λi hi hif=> ?_
    cases hc2:L.getD i false with
    |true=>rfl
    |false=>exact absurd ⟨i,hi,hif,hc2⟩ hn
   refine⟨λhnil=> ?_,λi hi=> ?_⟩
   .exact adS
   obtain⟨hil,hun,o,ho,hed⟩:=(hready_spec i).1 hi;have hiL:i<L.size:=by rw[hI.ls,hnn];exact hil
   have hun':L.getD i false=false:=(by exact abg);have hed':∀o',l.toArray[i]?=some o'->∀e∈o'.after,Region.binds .any e=true->L.getD e.on false=true:=λo' ho'=>(by exact GU);have him:i<m:=by
    obtain h|h:=Y9 i m
    .exact h
    exfalso;obtain h2|h2:=Y9 m i
    .exact aep
    obtain rfl:i=m:=Z';have h4:(l.length==i)=false:=by simp;omega
    rw[h4,d_] at htail;have h5:=u_.1 htail;obtain⟨j,hj,hjf,hju⟩:=hsome2;have h6:=h5 j (by simpa using hj);have h7:fl.contains j=false:=by simpa using hjf
    rw[h7,d_] at h6;have:=Bj hM hI.cl i j hed' h6;rw[hju] at this
    cases this
   obtain⟨hog,hnext⟩:=both i him o ho hun' hed;have hgo:if Region.wanted o (yielded l.toArray a.tmps) then(o.wp P a w (wpAny P .any l.toArray (Zf N D Q) fuel (L.setIfInBounds i true)) (Zf N D Q))\/((o.asks P a w)/\LetsOut (Zf N D Q)) else wpAny P .any l.toArray (Zf N D Q) fuel (L.setIfInBounds i true) (a.put o.dst undef) w:=(by exact aeq)
   unfold wpOp;rw[ho];exact hgo
 exact adO
def JJ.TD{t:TypeId}{cs':List Value}(h:JJ w0 H w W)(hs:Hp w0 H w)(h2:w.heap.size<=b)(h3:W.heap[b]?=some (.cells cs.toArray t (0,0))) (h2':w.heap.size<=b')(h3':W.heap[b']?=some (.cells cs'.toArray t' (0,0)))(hbb:b≠b'):Hp w0 (.blk b' t' cs' (0,0)::.blk b t cs (0,0)::H) W:=by
 have h1:=h.newVar hs h2 h3;refine⟨h.hp.below, ?_, ?_⟩
 .intro y hy;obtain rfl|hy:=S_.1 hy
  .exact⟨N_ hs.size h2',h3',.inr (j' _)⟩
  exact h1.own y hy
 rw[o7,o7];show(b'::b::H.filterMap HE.id).Nodup;have hn:∀c,w.heap.size<=c->c∉H.filterMap HE.id:=λc hc hm=>(by exact ab3);refine I7.2 ⟨λhm=> ?_,I7.2 ⟨hn b h2,h.hp.nd⟩⟩;obtain e|hm:=S_.1 hm
 .exact hbb e.symm
 exact hn b' h2' hm
def Cd{Q:Kq}{id:Nat}{l:List Oper}(fr fl M:List Nat)(m:Nat)(src:List (List (Nat×Option Nat)))(ds:List (Nat×Nat))(hh:Hp w0 H w)(hm:P.follows .mixedOrders=true)(hok:vB l m N src ds fl M=true) (hfr:Xx P l fr)(hfm:fr.all (λi=>i<m)=true)(hQp:NP Q) (h:DX P l.toArray (JJ w0 H w) ρ (λV=>∀f w',JJ w0 H w w'->wB V f w' ds->(∀i∈fr,∀j∈fr,i≠j->f i≠f j)->WL ⟨none,D,false⟩ P N l.toArray Q (l.drop m) (Hf ρ f ds) w') 0 noV (l.take m) src):WC ⟨none,D,false⟩ P N (.region id l.toArray true) Q ρ w:=by
 obtain⟨V,_,h1,h2⟩:=jF _ _ _ _ (λ_ _ _ _=>trivial) h;exact BQ fr fl M m src ds (JJ w0 H w) V hm hok hfr hfm hQp (λ_ _ h hb=>h.ext hb) (JJ.start hh) h1 h2
def Bb(ρ:Rf):List (Nat×Value)->Rf
 |[]=>ρ
 |(d,v)::r=>sc (Bb ρ r) d v
def EqL(f:Nat->Value):List (Nat×Nat)->List (Nat×Value)->Prop
 |[],[]=>True
 |(i,d)::r,(d',v)::s=>(d=d'/\f i=v)/\EqL f r s
 |_,_=>False
def Na{ρ:Rf}{f:Nat->Value}:∀{ds:List (Nat×Nat)}{vs:List (Nat×Value)},EqL f ds vs->Hf ρ f ds=Bb ρ vs
 |[],[],_=>rfl
 |[],_::_,h=>h.elim
 |_::_,[],h=>h.elim
 |(i,d)::r,(d',v)::s,h=>(by obtain⟨⟨rfl,rfl⟩,h2⟩:=h;rw[Hf,Bb,Na h2])
def Ea{f:Nat->Value}:EqL f [] []:=trivial
def aa{f:Nat->Value}{i d:Nat}{v:Value}{r:List (Nat×Nat)}{s:List (Nat×Value)}(h:f i=v)(hr:EqL f r s):EqL f ((i,d)::r) ((d,v)::s):=⟨⟨rfl,h⟩,hr⟩
variable {ro:Mode}
def Da{Q:Kq}{l:List Oper}{ρ':Rf}(h:ρ=ρ')(k:WL ro P N ops Q l ρ' w):WL ro P N ops Q l ρ w:=h ▸ k
def Cy{K:Value->World->Prop}{op:Op}{b:Bool}(hj:(ops[j]?).bind (·.dst)=some dj)(hv:ρ dj=undef)(h:K undef w):OG P ops ⟨d,op,ty,pos,af,some (j,b)⟩ ρ w K:=
 ⟨λa next Q ha hn=>by
  have h1:Region.wanted ⟨d,op,ty,pos,af,some (j,b)⟩ (yielded ops a.tmps)=false:=by
   have h2:=ha dj;rw[hv,y9] at h2
   cases h3:a.tmps[dj]? with
   |none=>simp[Region.wanted,yielded,hj,h3]
   |some x=>
    rw[h3] at h2;simp only[l9] at h2;subst h2;simp[Region.wanted,yielded,hj,h3,undef]
  rw[h1];exact hn _ _ h⟩
def kH{b:Bool}{op:Op}(hj:(ops[j]?).bind (·.dst)=some dj)(hv:∀ρ1 w1,J w1->Xc (pv) ρ ρ1 w1 s->ρ1 dj=undef) (k:DX P ops J ρ T (i+1) (se pv i (Is undef)) os ss):DX P ops J ρ T i pv (⟨d,op,ty,pos,af,some (j,b)⟩::os) (s::ss):=
 Va (Is undef) Is.ext (λρ1 w1 hj' h=>Cy hj (hv ρ1 w1 hj' h) ⟨Below.refl _ _,rfl⟩) k
def Hp.Gd{f:α->List Value}{sz:Nat}{i c e g:Nat}{l:List α}{x:α}(hh:Hp w0 H w)(hi:H[i]?=some (.row (some ⟨g,0,none⟩) n c e sz (na f l)))(hf:∀x,(f x).length=sz)(h0:0<sz)(hx:l[k]?=some x):Rd w ⟨g,k*sz,none⟩ (f x):=by
 have hs:=hh.ra hi;have hl:=hs.Fa hf h0;obtain⟨ad,h1,h2⟩:=hs.2 (by have:=(X_.1 hx).1;omega);injection h1 with h1
 subst h1;have h3:=h2.recAt hf hx;rwa[qe,C_] at h3
def Kx{d:Option Nat}{ty:Nat}{af:Array Edge}{g:Option (Nat×Bool)}{x:Operand}{a:Addr}(hx:ev ρ x=.pointer (some a)):(execOp (ev ρ) ⟨d,.nilCheck x,ty,pos,af,g⟩).run P w=.ok (.value (.pointer (some a))) w:=by simp[execOp,hx]
variable {rest:List Oper}{d ty:Nat}
def ZI{x:Operand}{a:Addr}(hx:ev ρ x=.pointer (some a))(hN:d<N)(kk:WL ro P N ops Q rest (sc ρ d (.pointer (some a))) w):WL ro P N ops Q (⟨some d,.nilCheck x,ty,pos,af,none⟩::rest) ρ w:=Ia rfl rfl hN (Kx hx) kk
structure WA(P:Program)(N:Nat)(ops:Array Oper)(Q:Kq)(fuel:Nat)(L:Array Bool)(ρ:Rf)(w:World):Prop where
 out:∀a,Fits N a ρ->wpAny P .any ops (lift N Q) fuel L a w
def Ux{o:Oper}{a:Act}{K:Act->World->Prop}{r:Result Next}(h:o.upon P a K (lift N (re next Q)) r):o.upon P a K (lift N Q) r:=by
 have hp:∀c a w,lift N (re next Q) (.panic c) a w->lift N Q (.panic c) a w:=λ_ _ _ h=>h;have ho:LetsOut (lift N (re next Q))->LetsOut (lift N Q):=λ⟨a,w,h⟩=>⟨a,w,h⟩
 cases r with
 |ok n w'=>
  cases n<;>simp only[Oper.upon] at h |- <;>first
   |exact h
   |exact Calls.mono h (λe w'' he=>by cases e<;>first|exact he|exact hp _ _ _ he|exact ho he)
 |halt x w'=>cases x<;>simp only[Oper.upon] at h |- <;>first|exact h|exact hp _ _ _ h|exact ho h
def kM{L:Array Bool}{rs:List Nat}(hr:Region.ready .any ops L=rs)(hne:rs≠[]) (h:∀i∈rs,∃o,ops[i]?=some o/\WL .plain P N ops (re (λρ w=>WA P N ops Q fuel (L.setIfInBounds i true) ρ w) Q) [o] ρ w):WA P N ops Q (fuel+1) L ρ w:=by
 refine⟨λa hf=>wpAny_all hr hne λi hi=> ?_⟩;obtain⟨o,ho,hw⟩:=h i hi;have h1:=hw.out a hf;have hK:∀a w,wpList P ops (lift N (re (λρ w=>WA P N ops Q fuel (L.setIfInBounds i true) ρ w) Q)) [] a w->wpAny P .any ops (lift N Q) fuel (L.setIfInBounds i true) a w:=λa w ⟨ρ',hf',hq⟩=>(by have hq':WA P N ops Q fuel (L.setIfInBounds i true) ρ' w:=hq;exact hq'.out a hf');unfold wpOp;rw[ho];simp only[];unfold wpList at h1;split at h1
 .rename_i hwt;rw[J' hwt];refine h1.imp (λh2=>Oper.wp_mono hK ?_) (λh2=>⟨h2.1, ?_⟩)
  .unfold Oper.wp at h2 |-;exact Ux h2
  obtain⟨a',w',h3⟩:=h2.2;exact⟨a',w',h3⟩
 rename_i hwt;rw[L' hwt];exact hK _ _ h1
def ze{L:Array Bool}{i:Nat}{o:Oper}(hr:Region.ready .any ops L=[i])(ho:ops[i]?=some o) (h:WL .plain P N ops (re (λρ w=>WA P N ops Q fuel (L.setIfInBounds i true) ρ w) Q) [o] ρ w):WA P N ops Q (fuel+1) L ρ w:=
 kM hr (by simp) λj hj=>by
  obtain rfl:j=i:=by simpa using hj
  exact⟨o,ho,h⟩
def Gt{L:Array Bool}{i i2:Nat}{o o2:Oper}(hr:Region.ready .any ops L=[i,i2])(ho:ops[i]?=some o)(ho2:ops[i2]?=some o2) (h:WL .plain P N ops (re (λρ w=>WA P N ops Q fuel (L.setIfInBounds i true) ρ w) Q) [o] ρ w) (h2:WL .plain P N ops (re (λρ w=>WA P N ops Q fuel (L.setIfInBounds i2 true) ρ w) Q) [o2] ρ w):WA P N ops Q (fuel+1) L ρ w:=
 kM hr (by simp) λj hj=>by
  obtain rfl|hj:=S_.1 hj
  .exact⟨o,ho,h⟩
  obtain rfl:j=i2:=by simpa using hj
  exact⟨o2,ho2,h2⟩
def Yc{L:Array Bool}(h:WA P N ops Q fuel L ρ w):WL .plain P N ops (re (λρ w=>WA P N ops Q fuel L ρ w) Q) [] ρ w:=ua h
def Sg{l:List Oper}{L:Array Bool}(m:Nat)(hm:m<=l.length)(hL:L=Ph l.length m)(hf:l.length<=fuel+m) (hr:((List.range (l.length-m)).all λk=>Region.ready .any l.toArray (Ph l.length (m+k))==[m+k])=true)(hend:Region.ready .any l.toArray (Ph l.length l.length)=[]) (h:WL .plain P N l.toArray Q (l.drop m) ρ w):WA P N l.toArray Q fuel L ρ w:=
 ⟨λa hfits=>by
  rw[hL];refine kr m (λk h1 h2=> ?_) hend fuel m a w (j' _) hm hf (h.out a hfits);have h3:=u_.1 hr (k-m) (by simp;omega);rw[show m+(k-m)=k by omega] at h3;exact eq_of_beq h3⟩
def Ko{id:Nat}{l:List Oper}(hh:Hp w0 H w)(hm:P.follows .mixedOrders=true)(h:∀w',JJ w0 H w w'->WA P N l.toArray Q l.length (Array.replicate l.length false) ρ w'):WC .plain P N (.region id l.toArray true) Q ρ w:=by
 refine WC.mn λa hf=>wp_region_any hm ?_;have hb:Below w.heap.size w ({ w with drawn:=w.drawn+1 }:World):=⟨rfl,rfl,rfl,j' _,λ_ _=>rfl⟩;have:=(h _ ((JJ.start hh).ext hb)).out a hf;simpa using this
def AP:List Nat->List (List Nat)
 |[]=>[[]]
 |x::r=>AP r++(AP r).map (x:: ·)
def wu(p:Nat->Bool):∀l:List Nat,l.filter p∈AP l
 |[]=>by simp[AP]
 |x::r=>by
  have ih:=wu p r;rw[List.filter_cons,AP];split
  .exact W8 _ (Z_.2 ⟨_,ih,rfl⟩)
  exact x9 _ ih
def lD(n m:Nat)(fl D:List Nat):Array Bool:=((List.range n).map λi=>decide (i<m/\(i∉fl\/i∈D))).toArray
def TM(l:List Oper)(fl D:List Nat):Bool:=D.all λi=>match l[i]? with
 |some o=>o.after.all λe=> !Region.binds .any e|| !fl.contains e.on||D.contains e.on
 |none=>true
def dsD(ds:List (Nat×Nat))(fl D:List Nat):List (Nat×Nat):=ds.filter λp=> !fl.contains p.1||D.contains p.1
def fD(l:List Oper)(m:Nat)(fl:List Nat)(ds:List (Nat×Nat)):List (List Nat×Nat×List (Nat×Nat)):=((AP fl).filter (TM l fl)).map λD=>(D,l.length-(lD l.length m fl D).toList.countP (λb=>b)-1,dsD ds fl D)
def Hv(l:List Oper)(m N:Nat)(src:List (List (Nat×Option Nat)))(ds:List (Nat×Nat))(fl M:List Nat):Bool:=
 let ops:=l.toArray
 let pre:=(List.range m).map λi=>((ops[i]?).bind (·.dst))
 (m<=l.length) && (src.length==m) &&
 (ds==(pre.zipIdx.filterMap λ(d,i)=>d.map λd=>(i,d)).reverse) && (decide (ds.map (·.2)).Nodup) && (ds.all λp=>p.2<N) &&
 ((List.range m).all λi=>match ops[i]?,src[i]? with
  |some o,some s=>((o.looksAt ops).all λt=>s.any λp=>p.1==t) &&
    s.all λp=>match p.2 with
     |some j=>(j<m) && ((ops[j]?).bind (·.dst)==some p.1) && (M.getD i 0).testBit j
     |none=>(List.range m).all λj=> !((ops[j]?).bind (·.dst)==some p.1)||(j !=i && (M.getD j 0).testBit i)
  |_,_=>false) &&
 (l.length==m||((List.range m).all λi=>fl.contains i||(M.getD m 0).testBit i)) &&
 ((List.range (l.length-m)).all λk=>k==0||(M.getD (m+k) 0).testBit m) &&
 ((List.range l.length).all λi=>match ops[i]? with|some o=>o.after.all λe=> !Region.binds .any e||e.on<i|none=>false) && (Ow l []==M)
def NG{id:Nat}{l:List Oper}(fr fl M:List Nat)(m:Nat)(src:List (List (Nat×Option Nat)))(ds:List (Nat×Nat))(Ds:List (List Nat×Nat×List (Nat×Nat)))(J:World->Prop)(V:Nat->Value->World->Prop)(hm:P.follows .mixedOrders=true)(hok:Hv l m N src ds fl M=true)(hDs:fD l m fl ds=Ds)(hmn:m<l.length)(hfr:Xx P l fr)(hfm:fr.all (λi=>i<m)=true) (hJ:∀w w',J w->Below w.heap.size w w'->J w')(h0:J w)(hops:DO P l.toArray J V ρ 0 (l.take m) src) (tail:∀p∈Ds,∀f w',J w'->wB V f w' p.2.2->(∀i∈fr,∀j∈fr,i≠j->(!fl.contains i||p.1.contains i)=true->(!fl.contains j||p.1.contains j)=true->f i≠f j)->WL .plain P N l.toArray (re (λρ w=>WA P N l.toArray Q p.2.1 ((lD l.length m fl p.1).setIfInBounds m true) ρ w) Q) ((l.drop m).take 1) (Hf ρ f p.2.2) w'):WC .plain P N (.region id l.toArray true) Q ρ w:=by
 refine WC.mn λa hf=>wp_region_any hm ?_;simp only[Hv,Q_,K_,R8,u_,g_] at hok;obtain⟨⟨⟨⟨⟨⟨⟨⟨⟨hml,_⟩,hds⟩,hnd⟩,hdN⟩,hrd⟩,htail⟩,hdep⟩,hedge⟩,hM⟩:=hok;have hdo:=(FM _ _ _ hops).2;have hpre:∀i d,i<m->((l.toArray[i]?).bind (·.dst))=some d->(i,d)∈ds:=λi d hi hd=>(by exact acn);have hdsm:∀i d,(i,d)∈ds->i<m/\((l.toArray[i]?).bind (·.dst))=some d:=λi d hp=>(by exact acz);have hone:∀i j d,i<m->j<m->((l.toArray[i]?).bind (·.dst))=some d->((l.toArray[j]?).bind (·.dst))=some d->i=j:=λi j d hi hj h1 h2=>(by exact acF);have hnn:l.toArray.size=l.length:=by simp
 have hfm':∀i∈fr,i<m:=λi hi=>by simpa using u_.1 hfm i hi
 have part:∀(L:Array Bool)(a:Act)(w:World)(fuel:Nat),DI2 [] fr N l.toArray m ρ J V L a w->(∀i,i<m->i∉fl->L.getD i false=true)->fuel+1+L.toList.countP (λb=>b)=l.length->∀o,l.toArray[m]?=some o->
   wpOp P l.toArray (lift N Q) m (wpAny P .any l.toArray (lift N Q) fuel (L.setIfInBounds m true)) a w:=by
  intro L a w fuel hI hall hfu o ho;have hflt:∀i,i∈fl.filter (λi=>L.getD i false)↔i∈fl/\L.getD i false=true:=λi=>by rw[j9]
  have hL:L=lD l.length m fl (fl.filter λi=>L.getD i false):=by
   apply Array.ext (by simp[lD,hI.ls]);intro i h1 h2;have e1:L.getD i false=L[i]:=by simp[h1]
   rw[<-e1];simp only[lD,List.getElem_toArray,List.getElem_map,List.getElem_range];obtain h|h:=Y9 i m
   .by_cases hif:i∈fl
    .cases hc:L.getD i false with
     |true=>exact(M_ ⟨h,.inr ((hflt i).2 ⟨hif,hc⟩)⟩).symm
     |false=>exact(O_ λhh=>hh.2.elim (λhn=>hn hif) λhd=>by rw[((hflt i).1 hd).2] at hc;cases hc).symm
    rw[hall i h hif];exact(M_ ⟨h,.inl hif⟩).symm
   rw[hI.tl i h];exact(O_ λhh=>by omega).symm
  have hcl:TM l fl (fl.filter λi=>L.getD i false)=true:=u_.2 λi hi=>by
   obtain⟨h1,h2⟩:=(hflt i).1 hi
   cases hli:l[i]? with
   |none=>rfl
   |some oi=>
    refine F6.2 λe he=> ?_
    cases hb:Region.binds .any e with
    |false=>rfl
    |true=>
     have h3:=hI.cl i oi (by rw[j8];exact hli) h2 e he hb;by_cases hef:e.on∈fl
     .rw[C7];exact .inr (O5.2 ((hflt _).2 ⟨hef,h3⟩))
     simp[hef]
  have hmem:(fl.filter (λi=>L.getD i false),l.length-(lD l.length m fl (fl.filter λi=>L.getD i false)).toList.countP (λb=>b)-1,dsD ds fl (fl.filter λi=>L.getD i false))∈Ds:=(by rw[<-hDs];exact Z_.2 ⟨_,j9.2 ⟨wu _ _,hcl⟩,rfl⟩);have hfu':l.length-L.toList.countP (λb=>b)-1=fuel:=Z';have htl:=tail _ hmem;simp only[<-hL,hfu'] at htl;have hsub:∀p∈dsD ds fl (fl.filter λi=>L.getD i false),p∈ds/\L.getD p.1 false=true:=λp hp=>by
   obtain⟨h1,h2⟩:=j9.1 hp;refine⟨h1, ?_⟩;simp only[C7,z7,List.contains_eq_mem,I6,K_] at h2;obtain h2|h2:=h2
   .exact hall _ (hdsm _ _ h1).1 h2
   exact((hflt _).1 h2).2
  have hnd':((dsD ds fl (fl.filter λi=>L.getD i false)).map (·.2)).Nodup:=(List.filter_sublist.map _).nodup hnd;have hfits:Fits N a (Hf ρ (λi=>match(l.toArray[i]?).bind (·.dst) with|some d=>a.tmps.getD d undef|none=>undef) (dsD ds fl (fl.filter λi=>L.getD i false))):=by
   refine⟨hI.nd,hI.sz,λs=> ?_⟩;by_cases hs:∃i,(i,s)∈dsD ds fl (fl.filter λi=>L.getD i false)
   .obtain⟨i,hi⟩:=hs;rw[(Rj _ _ s hnd').1 i hi,(hdsm i s (hsub _ hi).1).2]
   rw[(Rj _ _ s hnd').2 λi hi=>hs ⟨i,hi⟩];refine hI.ju s λi hi hil hd=>hs ⟨i,j9.2 ⟨hpre i s hi hd, ?_⟩⟩;by_cases hif:i∈fl
   .rw[C7];exact .inr (O5.2 ((hflt i).2 ⟨hif,hil⟩))
   simp[hif]
  have h1:=(htl (λi=>match(l.toArray[i]?).bind (·.dst) with|some d=>a.tmps.getD d undef|none=>undef) w hI.j (lv _ λp hp=>by
   obtain⟨h1,h2⟩:=hsub p hp;obtain⟨h3,h4⟩:=hdsm p.1 p.2 h1;have:=hI.vs p.1 p.2 h3 h2 h4;rw[h4];exact this) λi hi j hj hij hpi hpj=>by
    obtain⟨d,t,ty,pos,af,n,ag,by',zc,hi1,_⟩:=hfr.at i hi;obtain⟨e,t',ty',pos',af',n',ag',by'',zc',hj1,_⟩:=hfr.at j hj;have hi2:(l.toArray[i]?).bind (·.dst)=some d:=by rw[j8,hi1];rfl
    have hj2:(l.toArray[j]?).bind (·.dst)=some e:=by rw[j8,hj1];rfl
    have hup:∀i∈fr,(!fl.contains i||(fl.filter λi=>L.getD i false).contains i)=true->L.getD i false=true:=λi hi hp=>by
     by_cases hf:i∈fl
     .rw[O5.2 hf,E6,d_] at hp;exact((hflt i).1 (O5.1 hp)).2
     exact hall i (hfm' i hi) hf
    rw[hi2,hj2];exact hI.fd i hi j hj hij (hup i hi hpi) (hup j hj hpj) d e hi2 hj2).out a hfits
  have hone':(l.drop m).take 1=[o]:=(by rw[j8] at ho;obtain⟨h2,h3⟩:=X_.1 ho;rw[m8 h2,h3];rfl);rw[hone'] at h1;have hK:∀a w,wpList P l.toArray (lift N (re (λρ w=>WA P N l.toArray Q fuel (L.setIfInBounds m true) ρ w) Q)) [] a w->wpAny P .any l.toArray (lift N Q) fuel (L.setIfInBounds m true) a w:=λa w ⟨ρ',hf',hq⟩=>(by have hq':WA P N l.toArray Q fuel (L.setIfInBounds m true) ρ' w:=hq;exact hq'.out a hf');unfold wpOp;rw[ho];simp only[];unfold wpList at h1;split at h1
  .rename_i hwt;rw[J' hwt];refine h1.imp (λh2=>Oper.wp_mono hK ?_) (λh2=>⟨h2.1, ?_⟩)
   .unfold Oper.wp at h2 |-;exact Ux h2
   obtain⟨a',w',h3⟩:=h2.2;exact⟨a',w',h3⟩
  rename_i hwt;rw[L' hwt];exact hK _ _ h1
 have key:∀(fuel:Nat)(L:Array Bool)(a:Act)(w:World),DI2 [] fr N l.toArray m ρ J V L a w->fuel+L.toList.countP (λb=>b)=l.length->wpAny P .any l.toArray (lift N Q) fuel L a w:=by
  intro fuel
  induction fuel with
  |zero=>
   intro L a w hI hc;have hall:∀i,i<l.length->L.getD i false=true:=λi hi=>(by exact jZ);have h1:=hall m hmn;rw[hI.tl m (j' _)] at h1
   cases h1
  |succ fuel ih=>
   intro L a w hI hc;have hready_spec:∀i,i∈Region.ready .any l.toArray L↔i<l.length/\L.getD i true=false/\∃o,l.toArray[i]?=some o/\∀e∈o.after,Region.binds .any e=true->L.getD e.on false=true:=λi=>(by exact acb);have both:∀(i:Nat)(_:i<m)(o:Oper)(_:l.toArray[i]?=some o)(_:L.getD i false=false)(_:∀e∈o.after,Region.binds .any e=true->L.getD e.on false=true),
     OG P l.toArray o (λt=>a.tmps.getD t undef) w (λv w2=>Below w.heap.size w w2/\V i v w2)/\
     ∀v w2,(Below w.heap.size w w2/\V i v w2)->(i∈fr->∃b,v=.pointer (some ⟨b,0,none⟩)/\w.heap.size<=b/\b<w2.heap.size)->wpAny P .any l.toArray (lift N Q) fuel (L.setIfInBounds i true) (a.put o.dst v) w2:=λi him o ho hun' hed=>by
    have hiL:i<L.size:=by rw[hI.ls,hnn];omega
    have hed':∀o',l.toArray[i]?=some o'->∀e∈o'.after,Region.binds .any e=true->L.getD e.on false=true:=λo' ho'=>(by rw[ho] at ho';injection ho' with ho';subst ho';exact hed);have hok':(l.take m)[i]?=some o:=(by rw[Z7,J' him];simpa using ho);obtain⟨s,hs,hstab,hog⟩:=hdo i o hok';rw[C_] at hstab hog;have hrdi:=hrd i him;rw[ho,hs] at hrdi;simp only[Q_,u_] at hrdi;have hro:Xc V ρ (λt=>a.tmps.getD t undef) w s:=Nq s λp hp=>by
     have hp2:=hrdi.2 p hp
     cases hp3:p.2 with
     |some j=>
      rw[hp3] at hp2;simp only[Q_,K_,R8] at hp2;exact hI.vs j p.1 hp2.1.1 (Bj hM hI.cl i j hed' hp2.2) hp2.1.2
     |none=>
      rw[hp3] at hp2;refine hI.ju p.1 λj hj hjl hjd=> ?_;have h6:=u_.1 hp2 j (by simpa using hj);rw[hjd] at h6;simp only[beq_self_eq_true,E6,d_,Q_] at h6;have:=Bj hM hI.cl j i (λo' ho' e he hb=>hI.cl j o' ho' hjl e he hb) h6.2;rw[hun'] at this
      cases this
    have hnext:∀v w2,(Below w.heap.size w w2/\V i v w2)->(i∈fr->∃b,v=.pointer (some ⟨b,0,none⟩)/\w.heap.size<=b/\b<w2.heap.size)->wpAny P .any l.toArray (lift N Q) fuel (L.setIfInBounds i true) (a.put o.dst v) w2:=λv w2 hv hfv=>by
     have hd1:∀d',o.dst=some d'->d'<a.tmps.size:=λd' hd'=>(by rw[hI.sz];exact hdN (i,d') (hpre i d' him (by rw[ho];exact hd')));have hput:∀j d,j<m->j≠i->(l.toArray[j]?).bind (·.dst)=some d->(a.put o.dst v).tmps.getD d undef=a.tmps.getD d undef:=λj d hj hji hjd=>by
      cases hod:o.dst with
      |none=>rfl
      |some d'=>rw[Fe (hd1 d' hod),L' λe=>hji (hone j i d hj him hjd (by rw[ho,e];exact hod))]
     have hputi:∀d,(l.toArray[i]?).bind (·.dst)=some d->(a.put o.dst v).tmps.getD d undef=v:=λd hd=>(by rw[ho] at hd;simp only[E7] at hd;rw[hd,Fe (hd1 d hd),J' rfl]);have hfd:∀j∈fr,j≠i->L.getD j false=true->i∈fr->∀e,(l.toArray[j]?).bind (·.dst)=some e->a.tmps.getD e undef≠v:=λj hj hji hjl hif e hje heq=>by
      obtain⟨b,hb1,hb2⟩:=hI.fb j hj hjl e hje;obtain⟨b',hv1,hb3,_⟩:=hfv hif;rw[hb1,hv1] at heq;injection heq with heq
      injection heq with heq
      injection heq with heq
      omega
     refine ih _ _ _ ?_ ?_
     .refine⟨?_, ?_,hJ _ _ hI.j hv.1,by simpa using hI.ls, ?_, ?_, ?_, ?_, ?_, ?_⟩
      .cases o.dst<;>exact hI.nd
      .cases hod:o.dst with
       |none=>exact hI.sz
       |some d=>simpa[Act.put] using hI.sz
      .intro k ok hk hkl e he hb;rw[Md hiL] at hkl |-;by_cases hki:k=i
       .subst hki;simp[hed' ok hk e he hb]
       simp only[hki,decide_false,d_] at hkl;simp[hI.cl k ok hk hkl e he hb]
      .intro k hk;rw[Md hiL,hI.tl k hk];have:¬k=i:=Z';simp[this]
      .intro j d hj hjl hjd;rw[Md hiL] at hjl;have hd1:∀d',o.dst=some d'->d'<a.tmps.size:=λd' hd'=>(by rw[hI.sz];exact hdN (i,d') (hpre i d' him (by rw[ho];exact hd')));by_cases hji:j=i
       .subst hji;rw[ho] at hjd;simp only[E7] at hjd;rw[hjd,Fe (hd1 d hjd),J' rfl];exact hv.2
       simp only[hji,decide_false,d_] at hjl;have hold:=hI.vs j d hj hjl hjd;have hdj:(j,d)∈ds:=hpre j d hj hjd;have hst:=(hdo j (l.toArray[j]?.getD default) (by
        have:j<l.length:=Z';rw[Z7,J' hj];simp[this])).choose_spec.2.1
       rw[C_] at hst;have hne:∀d',o.dst=some d'->d≠d':=λd' hd' e=>(by subst e;exact hji (hone j i d hj him hjd (by rw[ho];exact hd')))
       cases hod:o.dst with
       |none=>exact hst _ _ _ hold hv.1
       |some d'=>
        rw[Fe (hd1 d' hod),L' (hne d' hod)];exact hst _ _ _ hold hv.1
      .intro s' hs';have hni:((l.toArray[i]?).bind (·.dst))≠some s':=hs' i him (by rw[Md hiL];simp);have hold:=hI.ju s' λj hj hjl=>hs' j hj (by rw[Md hiL];simp[hjl]);rw[ho] at hni;simp only[E7] at hni
       cases hod:o.dst with
       |none=>exact hold
       |some d'=>
        rw[Fe (by rw[hI.sz];exact hdN (i,d') (hpre i d' him (by rw[ho];exact hod))),L' (λe=>hni (by rw[hod,e]))];exact hold
      .intro j hj hjl d hjd;rw[Md hiL] at hjl;by_cases hji:j=i
       .subst hji;obtain⟨b,hb1,_,hb3⟩:=hfv hj;exact⟨b,(hputi d hjd).trans hb1,hb3⟩
       simp only[hji,decide_false,d_] at hjl;obtain⟨b,hb1,hb2⟩:=hI.fb j hj hjl d hjd;exact⟨b,(hput j d (hfm' j hj) hji hjd).trans hb1,T9 hb2 hv.1.size⟩
      intro j hj k hk hjk hjl hkl d e hjd hke;rw[Md hiL] at hjl hkl;by_cases hji:j=i
      .subst hji;have hkj:k≠j:=λe=>hjk e.symm;simp only[hkj,decide_false,d_] at hkl;rw[hputi d hjd,hput k e (hfm' k hk) hkj hke];exact λhe=>hfd k hk hkj hkl hj e hke he.symm
      simp only[hji,decide_false,d_] at hjl;by_cases hki:k=i
      .subst hki;rw[hputi e hke,hput j d (hfm' j hj) hji hjd];exact hfd j hj hji hjl hk d hjd
      simp only[hki,decide_false,d_] at hkl;rw[hput j d (hfm' j hj) hji hjd,hput k e (hfm' k hk) hki hke];exact hI.fd j hj k hk hjk hjl hkl d e hjd hke
     have hLi:L.toList[i]?=some false:=by
      have h3:i<L.toList.length:=by simpa using hiL
      rw[D8 h3];have:L.getD i false=L.toList[i]:=by simp[hiL]
      rw[<-this,hun']
     rw[Array.toList_setIfInBounds,List.countP_set (by simpa using hiL)];have h4:L.toList[i]'(by simpa using hiL)=false:=(X_.1 hLi).2;rw[h4];simp only[Q5,if_false,if_true];omega
    exact⟨hog _ w hI.j hro,hnext⟩
   refine⟨λhnil=> ?_,λi hi=> ?_⟩
   .exfalso;have hmin:∀k,(∃i,i<k/\i<m+1/\L.getD i false=false)->∃i,i<m+1/\L.getD i false=false/\∀j,j<i->L.getD j false=true:=by
     intro k
     induction k with
     |zero=>rintro ⟨i,h,_⟩;omega
     |succ k ihk=>
      rintro ⟨i,h1,h2,h3⟩;by_cases hex:∃i,i<k/\i<m+1/\L.getD i false=false
      .exact ihk hex
      exact aaM
    obtain⟨i,hi,hu,hlow⟩:=hmin (m+1) ⟨m,Z',Z',hI.tl m (j' _)⟩;exact GZ
   obtain⟨hil,hun,o,ho,hed⟩:=(hready_spec i).1 hi;have hiL:i<L.size:=by rw[hI.ls,hnn];exact hil
   have hun':L.getD i false=false:=(by exact abg);have hed':∀o',l.toArray[i]?=some o'->∀e∈o'.after,Region.binds .any e=true->L.getD e.on false=true:=λo' ho'=>(by exact GU);obtain him|him:=Y9 i m
   .obtain⟨hog,hnext⟩:=both i him o ho hun' hed;have hgo:if Region.wanted o (yielded l.toArray a.tmps) then(o.wp P a w (wpAny P .any l.toArray (lift N Q) fuel (L.setIfInBounds i true)) (lift N Q))\/((o.asks P a w)/\LetsOut (lift N Q)) else wpAny P .any l.toArray (lift N Q) fuel (L.setIfInBounds i true) (a.put o.dst undef) w:=(by exact aeq)
    unfold wpOp;rw[ho];exact hgo
   obtain h2|h2:=Y9 m i
   .exfalso;exact aep
   obtain rfl:i=m:=Z';refine part L a w fuel hI (λj hj hjf=> ?_) hc o ho;have h4:(l.length==i)=false:=by simp;omega
   rw[h4,d_] at htail;have h6:=u_.1 htail j (by simpa using hj);have h7:fl.contains j=false:=by simpa using hjf
   rw[h7,d_] at h6;exact Bj hM hI.cl i j hed' h6
 exact adO
def tC{x y:Value}(h:x≠y)(h1:x=.pointer (some ⟨b,0,none⟩))(h2:y=.pointer (some ⟨b',0,none⟩)):b≠b':=λe=>h (by rw[h1,h2,e])
def cI{Q:Kq}{id:Nat}{l:List Oper}(fr fl M:List Nat)(m:Nat)(src:List (List (Nat×Option Nat)))(ds:List (Nat×Nat))(Ds:List (List Nat×Nat×List (Nat×Nat)))(hh:Hp w0 H w)(hm:P.follows .mixedOrders=true)(hok:Hv l m N src ds fl M=true)(hDs:fD l m fl ds=Ds)(hmn:m<l.length)(hfr:Xx P l fr)(hfm:fr.all (λi=>i<m)=true) (h:DX P l.toArray (JJ w0 H w) ρ (λV=>∀p∈Ds,∀f w',JJ w0 H w w'->wB V f w' p.2.2->(∀i∈fr,∀j∈fr,i≠j->(!fl.contains i||p.1.contains i)=true->(!fl.contains j||p.1.contains j)=true->f i≠f j)->WL .plain P N l.toArray (re (λρ w=>WA P N l.toArray Q p.2.1 ((lD l.length m fl p.1).setIfInBounds m true) ρ w) Q) ((l.drop m).take 1) (Hf ρ f p.2.2) w') 0 noV (l.take m) src):WC .plain P N (.region id l.toArray true) Q ρ w:=by
 obtain⟨V,_,h1,h2⟩:=jF _ _ _ _ (λ_ _ _ _=>trivial) h;exact NG fr fl M m src ds Ds (JJ w0 H w) V hm hok hDs hmn hfr hfm (λ_ _ h hb=>h.ext hb) (JJ.start hh) h1 h2
def jl{Q:Kq}{id:Nat}{l:List Oper}(fl M:List Nat)(m:Nat)(src:List (List (Nat×Option Nat)))(ds:List (Nat×Nat))(Ds:List (List Nat×Nat×List (Nat×Nat)))(hh:Hp w0 H w)(hm:P.follows .mixedOrders=true)(hok:Hv l m N src ds fl M=true)(hDs:fD l m fl ds=Ds)(hmn:m<l.length) (h:DX P l.toArray (JJ w0 H w) ρ (λV=>∀p∈Ds,∀f w',JJ w0 H w w'->wB V f w' p.2.2->WL .plain P N l.toArray (re (λρ w=>WA P N l.toArray Q p.2.1 ((lD l.length m fl p.1).setIfInBounds m true) ρ w) Q) ((l.drop m).take 1) (Hf ρ f p.2.2) w') 0 noV (l.take m) src):WC .plain P N (.region id l.toArray true) Q ρ w:=by
 obtain⟨V,_,h1,h2⟩:=jF _ _ _ _ (λ_ _ _ _=>trivial) h;exact NG [] fl M m src ds Ds (JJ w0 H w) V hm hok hDs hmn Pd rfl (λ_ _ h hb=>h.ext hb) (JJ.start hh) h1 λp hp f w' hj hv _=>h2 p hp f w' hj hv
variable {lo:Operand}
def Yf{d:Option Nat}{ty:TypeId}{af:Array Edge}{g:Option (Nat×Bool)}{t e:TypeId}{x:Operand}{A:Option Addr}{c l sz:Nat}{k:IntKind}{m:Int}(ht:P.underlying t=some (.slice e))(hsz:(P.info? e).map (·.size)=some sz)(hx:ev ρ x=.slice A n c)(hlo:ev ρ lo=.int k m) (hm:m=(l:Int))(h1:l<=n)(h2:n<=c):(execOp (ev ρ) ⟨d,.slice t x (some lo) none none,ty,pos,af,g⟩).run P w=.ok (.value (.slice (if c=l then A else A.map (·.add (l*sz))) (n-l) (c-l))) w:=
 Ef (lo:=some lo) (hi:=none) (l:=l) (h:=n) ht hsz hx ⟨k,m,hlo,hm⟩ rfl h1 h2
def Sl.front{A:Option Addr}{xs:List Value}(h:Sl w A n k xs)(hm:m<=n):Sl w A m k (xs.take (m*k)):=by
 have hle:m*k<=n*k:=N9 _ hm;refine⟨by rw[R_,h.1];omega,λh0=> ?_⟩;obtain⟨ad,h1,h2⟩:=h.2 Z';exact⟨ad,h1,h2.take _⟩
def Sl.back{A:Option Addr}{l c:Nat}{xs:List Value}(h:Sl w A n k xs)(hl:l<=n)(hc:n<=c):Sl w (if c=l then A else A.map (·.add (l*k))) (n-l) k (xs.drop (l*k)):=by
 have h1:=h.cut hl (j' n) hc;have h2:((xs.drop (l*k)).take ((n-l)*k))=xs.drop (l*k):=W_ (by rw[M9,h.1,Nat.sub_mul];exact j' _);rwa[h2] at h1
variable {base:Nat}
def ahP(base:Nat)(t:TypeId)(sz:Nat):VP:=λv W=>∃g,v=.slice (some ⟨g,0,none⟩) 0 0/\W.ownsRow base t sz (.slice (some ⟨g,0,none⟩) 0 0) 0 []
def OC(base:Nat)(t:TypeId)(n sz:Nat)(cs:List Value):VP:=λv W=>∃A c,v=.slice A n c/\W.ownsRow base t sz (.slice A n c) n cs
def aK{t:TypeId}{sz c:Nat}{A:Option Addr}{xs:List Value}(h:w.ownsRow base t sz (.slice A n c) n xs)(hb:Below w.heap.size w w'):w'.ownsRow base t sz (.slice A n c) n xs:=by
 refine⟨h.1,h.2.imp id ?_⟩;rintro ⟨g,cap,cur,h1,h2,h3,h4⟩;have hlt:g<w.heap.size:=by
  obtain h|h:=Y9 g w.heap.size
  .exact h
  rw[y5 h] at h3;cases h3
 exact⟨g,cap,cur,h1,h2,(hb.block g hlt).trans h3,h4⟩
def OC.ext{t:TypeId}{sz:Nat}(v:Value)(w w':World)(h:OC base t n sz cs v w)(hb:Below w.heap.size w w'):OC base t n sz cs v w':=let⟨A,c,h1,h2⟩:=h;⟨A,c,h1,aK h2 hb⟩
def JJ.AU{t:TypeId}{c sz:Nat}{A:Option Addr}(hs:Hp w0 H w)(h:Hp w0 H W)(ho:W.ownsRow w.heap.size t sz (.slice A n c) n cs):Hp w0 (.row A n c t sz cs::H) W:=by
 refine⟨h.below,λx hx=> ?_, ?_⟩
 .obtain rfl|hx:=S_.1 hx
  .refine⟨ho.1,ho.2.imp id ?_⟩;rintro ⟨g,cap,cur,h1,h2,h3⟩;exact⟨g,cap,cur,h1,N_ hs.size h2,h3⟩
  exact h.own x hx
 rw[o7];obtain⟨h1,_⟩|⟨g,cap,cur,h1,h2,_⟩:=ho.2
 .injection h1 with e1
  subst e1;exact h.nd
 injection h1 with e1
 subst e1;show(g::H.filterMap HE.id).Nodup;refine I7.2 ⟨λhm=> ?_,h.nd⟩;exact ab3
structure DI6(D:List Deferred)(N:Nat)(ops:Array Oper)(m μ:Nat)(ρ:Rf)(J:Bool->World->Prop)(V:Nat->Value->World->Prop)(L:Array Bool)(a:Act)(w:World):Prop where
 nd:a.defers=D
 sz:a.tmps.size=N
 j:J (L.getD μ false) w
 ls:L.size=ops.size
 cl:fq ops L
 tl:∀k,m<=k->L.getD k false=false
 vs:∀i d,i<m->L.getD i false=true->(ops[i]?).bind (·.dst)=some d->V i (a.tmps.getD d undef) w
 ju:∀s,(∀i,i<m->L.getD i false=true->(ops[i]?).bind (·.dst)≠some s)->a.tmps.getD s undef=ρ s
def Sts(V:Nat->VP):List Nat->Prop
 |[]=>True
 |i::r=>(∀v w w',V i v w->V i v w')/\Sts V r
structure JC(w0:World)(H:List HE)(W:World):Prop where
 hp:Hp w0 H W
variable {d:Option Nat}{ty:TypeId}{x:Operand}
def cd{k:IntKind}{a:Int}(kk:DX P ops J ρ T (i+1) (se pv i (Is (.int k a))) os ss)(hx:∀ρ1 w1,J w1->Xc pv ρ ρ1 w1 s->ev ρ1 x=.int k a:=by intro ρ1 w1 hj hR;first|exact hR.1|exact hR.2.1|exact hR.2.2.1|exact rfl):DX P ops J ρ T i pv (⟨d,.move x,ty,pos,af,none⟩::os) (s::ss):=Wa (λρ1 w1 hj h=>Jc (hx ρ1 w1 hj h)) kk
def daI{k:IntKind}{a:Int}(kk:DX P ops J ρ T (i+1) (se pv i (Is (.int k a))) os ss)(hx:∀ρ1 w1,J w1->Xc pv ρ ρ1 w1 s->ev ρ1 x=.int k a:=by intro ρ1 w1 hj hR;first|exact hR.1|exact hR.2.1|exact hR.2.2.1|exact rfl):DX P ops J ρ T i pv (⟨d,.assign x,ty,pos,af,none⟩::os) (s::ss):=Wa (λρ1 w1 hj h=>zG (hx ρ1 w1 hj h)) kk
def Qr{a:Bool}(kk:DX P ops J ρ T (i+1) (se pv i (Is (.bool a))) os ss)(hx:∀ρ1 w1,J w1->Xc pv ρ ρ1 w1 s->ev ρ1 x=.bool a:=by intro ρ1 w1 hj hR;first|exact hR.1|exact hR.2.1|exact hR.2.2.1|exact rfl):DX P ops J ρ T i pv (⟨d,.move x,ty,pos,af,none⟩::os) (s::ss):=Wa (λρ1 w1 hj h=>Jc (hx ρ1 w1 hj h)) kk
def dmS{a:ByteArray}(kk:DX P ops J ρ T (i+1) (se pv i (Is (.string a))) os ss)(hx:∀ρ1 w1,J w1->Xc pv ρ ρ1 w1 s->ev ρ1 x=.string a:=by intro ρ1 w1 hj hR;first|exact hR.1|exact hR.2.1|exact hR.2.2.1|exact rfl):DX P ops J ρ T i pv (⟨d,.move x,ty,pos,af,none⟩::os) (s::ss):=Wa (λρ1 w1 hj h=>Jc (hx ρ1 w1 hj h)) kk
def De{A:Option Addr}{c:Nat}(kk:DX P ops J ρ T (i+1) (se pv i (Is (.slice A n c))) os ss)(hx:∀ρ1 w1,J w1->Xc pv ρ ρ1 w1 s->ev ρ1 x=.slice A n c:=by intro ρ1 w1 hj hR;first|exact hR.1|exact hR.2.1|exact hR.2.2.1|exact rfl):DX P ops J ρ T i pv (⟨d,.move x,ty,pos,af,none⟩::os) (s::ss):=Wa (λρ1 w1 hj h=>Jc (hx ρ1 w1 hj h)) kk
def dmT{l:List Value}(kk:DX P ops J ρ T (i+1) (se pv i (Is (.tuple l.toArray))) os ss)(hx:∀ρ1 w1,J w1->Xc pv ρ ρ1 w1 s->ev ρ1 x=.tuple l.toArray:=by intro ρ1 w1 hj hR;first|exact hR.1|exact hR.2.1|exact hR.2.2.1|exact rfl):DX P ops J ρ T i pv (⟨d,.move x,ty,pos,af,none⟩::os) (s::ss):=Wa (λρ1 w1 hj h=>Jc (hx ρ1 w1 hj h)) kk
variable {r:Bool}
def AX{f:Fn}{l r:List Value}(kk:DX P ops J ρ T (i+1) (se pv i (Is (.func f l.toArray r.toArray))) os ss)(hx:∀ρ1 w1,J w1->Xc pv ρ ρ1 w1 s->ev ρ1 x=.func f l.toArray r.toArray:=by intro ρ1 w1 hj hR;first|exact hR.1|exact hR.2.1|exact hR.2.2.1|exact rfl):DX P ops J ρ T i pv (⟨d,.move x,ty,pos,af,none⟩::os) (s::ss):=Wa (λρ1 w1 hj h=>Jc (hx ρ1 w1 hj h)) kk
def dmP{a:Option Addr}(kk:DX P ops J ρ T (i+1) (se pv i (Is (.pointer a))) os ss)(hx:∀ρ1 w1,J w1->Xc pv ρ ρ1 w1 s->ev ρ1 x=.pointer a:=by intro ρ1 w1 hj hR;first|exact hR.1|exact hR.2.1|exact hR.2.2.1|exact rfl):DX P ops J ρ T i pv (⟨d,.move x,ty,pos,af,none⟩::os) (s::ss):=Wa (λρ1 w1 hj h=>Jc (hx ρ1 w1 hj h)) kk
def dnc{a:Addr}(kk:DX P ops J ρ T (i+1) (se pv i (Is (.pointer (some a)))) os ss)(hx:∀ρ1 w1,J w1->Xc pv ρ ρ1 w1 s->ev ρ1 x=.pointer (some a):=by intro ρ1 w1 hj hR;first|exact hR.1|exact hR.2.1|exact hR.2.2.1|exact rfl):DX P ops J ρ T i pv (⟨d,.nilCheck x,ty,pos,af,none⟩::os) (s::ss):=Wa (λρ1 w1 hj h=>Kx (hx ρ1 w1 hj h)) kk
variable {ft:TypeId}{o off:Nat}
def yd{c:TypeId}{f:Nat}[hf:Wd P c f off ft](kk:DX P ops J ρ T (i+1) (se pv i (Is (.pointer (some ⟨b,o+off,none⟩)))) os ss)(hx:∀ρ1 w1,J w1->Xc pv ρ ρ1 w1 s->ev ρ1 x=.pointer (some ⟨b,o,none⟩):=by intro ρ1 w1 hj hR;first|exact hR.1|exact hR.2.1|exact hR.2.2.1|exact rfl):DX P ops J ρ T i pv (⟨d,.fieldAddr c x f,ty,pos,af,none⟩::os) (s::ss):=Wa (λρ1 w1 hj h=>iu hf.out (hx ρ1 w1 hj h)) kk
def ru{c:TypeId}{f:Nat}[hf:Wd P c f off ft](kk:DX P ops J ρ T (i+1) (se pv i (Is (.pointer (some (ad.add off))))) os ss)(hx:∀ρ1 w1,J w1->Xc pv ρ ρ1 w1 s->ev ρ1 x=.pointer (some ad):=by intro ρ1 w1 hj hR;first|exact hR.1|exact hR.2.1|exact hR.2.2.1|exact rfl):DX P ops J ρ T i pv (⟨d,.fieldAddr c x f,ty,pos,af,none⟩::os) (s::ss):=Wa (λρ1 w1 hj h=>Fq hf.out (hx ρ1 w1 hj h)) kk
variable {t:TypeId}
def Ro{v:Value}(hc:∀w1,J w1->w1.cell? ad=some v)[ht:ya P t n false by' zc](kk:DX P ops J ρ T (i+1) (se pv i (Is (v))) os ss)(hx:∀ρ1 w1,J w1->Xc pv ρ ρ1 w1 s->ev ρ1 x=.pointer (some ad):=by intro ρ1 w1 hj hR;first|exact hR.1|exact hR.2.1|exact hR.2.2.1|exact rfl):DX P ops J ρ T i pv (⟨d,.load t x,ty,pos,af,none⟩::os) (s::ss):=Wa (λρ1 w1 hj h=>Tg ht.out (hx ρ1 w1 hj h) (hc w1 hj)) kk
variable {vs:List Value}
def Dn(vs:List Value)(hc:∀w1,J w1->Rd w1 ad vs)[ht:ya P t n true by' zc](kk:DX P ops J ρ T (i+1) (se pv i (Is (.agg vs.toArray))) os ss)(hx:∀ρ1 w1,J w1->Xc pv ρ ρ1 w1 s->ev ρ1 x=.pointer (some ad):=by intro ρ1 w1 hj hR;first|exact hR.1|exact hR.2.1|exact hR.2.2.1|exact rfl)(hl:vs.length=n:=by exact rfl):DX P ops J ρ T i pv (⟨d,.load t x,ty,pos,af,none⟩::os) (s::ss):=Wa (λρ1 w1 hj h=>Uv ht.out (hx ρ1 w1 hj h) (hc w1 hj) hl) kk
variable {fz:Nat×Nat}
def xe{v:Value}(j:Nat)[ht:ya P t n false by' zc](kk:DX P ops (JJ w0 H w) ρ T (i+1) (se pv i (Is (v))) os ss)(hx:∀ρ1 w1,JJ w0 H w w1->Xc pv ρ ρ1 w1 s->ev ρ1 x=.pointer (some ⟨b,o,none⟩):=by intro ρ1 w1 hj hR;first|exact hR.1|exact hR.2.1|exact hR.2.2.1|exact rfl)(hi:H[j]?=some (.blk b t' cs fz):=by exact rfl)(hv:cs[o]?=some v:=by exact rfl):DX P ops (JJ w0 H w) ρ T i pv (⟨d,.load t x,ty,pos,af,none⟩::os) (s::ss):=Wa (λρ1 w1 hj h=>Tg ht.out (hx ρ1 w1 hj h) (hj.hp.eg hi hv)) kk
def Vd(j:Nat)(vs:List Value)[ht:ya P t n true by' zc](kk:DX P ops (JJ w0 H w) ρ T (i+1) (se pv i (Is (.agg vs.toArray))) os ss)(hx:∀ρ1 w1,JJ w0 H w w1->Xc pv ρ ρ1 w1 s->ev ρ1 x=.pointer (some ⟨b,o,none⟩):=by intro ρ1 w1 hj hR;first|exact hR.1|exact hR.2.1|exact hR.2.2.1|exact rfl)(hi:H[j]?=some (.blk b t' cs fz):=by exact rfl)(hv:(cs.drop o).take n=vs:=by exact rfl)(hl:vs.length=n:=by exact rfl):DX P ops (JJ w0 H w) ρ T i pv (⟨d,.load t x,ty,pos,af,none⟩::os) (s::ss):=Wa (λρ1 w1 hj h=>Uv ht.out (hx ρ1 w1 hj h) (hj.hp.pb hi hv) hl) kk
def Vp{e:TypeId}{B:Option Addr}{c:Nat}[ht:lb P t (.slice e)](kk:DX P ops J ρ T (i+1) (se pv i (Is (.int .i64 n))) os ss)(hx:∀ρ1 w1,J w1->Xc pv ρ ρ1 w1 s->ev ρ1 x=.slice B n c:=by intro ρ1 w1 hj hR;first|exact hR.1|exact hR.2.1|exact hR.2.2.1|exact rfl):DX P ops J ρ T i pv (⟨d,.call ⟨.builtin .len, #[x], #[t]⟩,ty,pos,af,none⟩::os) (s::ss):=Wa (λρ1 w1 hj h=>iG ht.out (hx ρ1 w1 hj h)) kk
variable {y:Operand}{u:TypeId}
def rB{k:IntKind}{a b:Int}(kk:DX P ops J ρ T (i+1) (se pv i (Is (.bool r))) os ss)(hx:∀ρ1 w1,J w1->Xc pv ρ ρ1 w1 s->ev ρ1 x=.int k a:=by intro ρ1 w1 hj hR;first|exact hR.1|exact hR.2.1|exact hR.2.2.1|exact rfl)(hy:∀ρ1 w1,J w1->Xc pv ρ ρ1 w1 s->ev ρ1 y=.int k b:=by intro ρ1 w1 hj hR;first|exact hR.1|exact hR.2.1|exact hR.2.2.1|exact rfl)(hr:decide (a<b)=r:=by first|exact M_ Z'|exact O_ Z'|exact rfl):DX P ops J ρ T i pv (⟨d,.binOp .lss t x y u,ty,pos,af,none⟩::os) (s::ss):=Wa (λρ1 w1 hj h=>by rw[<-hr];exact BM (hx ρ1 w1 hj h) (hy ρ1 w1 hj h)) kk
def acr{k:IntKind}{a b:Int}(kk:DX P ops J ρ T (i+1) (se pv i (Is (.bool r))) os ss)(hx:∀ρ1 w1,J w1->Xc pv ρ ρ1 w1 s->ev ρ1 x=.int k a:=by intro ρ1 w1 hj hR;first|exact hR.1|exact hR.2.1|exact hR.2.2.1|exact rfl)(hy:∀ρ1 w1,J w1->Xc pv ρ ρ1 w1 s->ev ρ1 y=.int k b:=by intro ρ1 w1 hj hR;first|exact hR.1|exact hR.2.1|exact hR.2.2.1|exact rfl)(hr:decide (b<a)=r:=by first|exact M_ Z'|exact O_ Z'|exact rfl):DX P ops J ρ T i pv (⟨d,.binOp .gtr t x y u,ty,pos,af,none⟩::os) (s::ss):=Wa (λρ1 w1 hj h=>by rw[<-hr];exact fM (hx ρ1 w1 hj h) (hy ρ1 w1 hj h)) kk
def UT{k:IntKind}{a b:Int}(kk:DX P ops J ρ T (i+1) (se pv i (Is (.bool r))) os ss)(hx:∀ρ1 w1,J w1->Xc pv ρ ρ1 w1 s->ev ρ1 x=.int k a:=by intro ρ1 w1 hj hR;first|exact hR.1|exact hR.2.1|exact hR.2.2.1|exact rfl)(hy:∀ρ1 w1,J w1->Xc pv ρ ρ1 w1 s->ev ρ1 y=.int k b:=by intro ρ1 w1 hj hR;first|exact hR.1|exact hR.2.1|exact hR.2.2.1|exact rfl)(hr:decide (a=b)=r:=by first|exact M_ Z'|exact O_ Z'|exact rfl):DX P ops J ρ T i pv (⟨d,.binOp .eql t x y u,ty,pos,af,none⟩::os) (s::ss):=Wa (λρ1 w1 hj h=>by rw[<-hr];exact TL (hx ρ1 w1 hj h) (hy ρ1 w1 hj h)) kk
def afC{k:IntKind}{a b:Int}(kk:DX P ops J ρ T (i+1) (se pv i (Is (.bool r))) os ss)(hx:∀ρ1 w1,J w1->Xc pv ρ ρ1 w1 s->ev ρ1 x=.int k a:=by intro ρ1 w1 hj hR;first|exact hR.1|exact hR.2.1|exact hR.2.2.1|exact rfl)(hy:∀ρ1 w1,J w1->Xc pv ρ ρ1 w1 s->ev ρ1 y=.int k b:=by intro ρ1 w1 hj hR;first|exact hR.1|exact hR.2.1|exact hR.2.2.1|exact rfl)(hr:decide (a≠b)=r:=by first|exact M_ Z'|exact O_ Z'|exact rfl):DX P ops J ρ T i pv (⟨d,.binOp .neq t x y u,ty,pos,af,none⟩::os) (s::ss):=Wa (λρ1 w1 hj h=>by rw[<-hr];exact oM (hx ρ1 w1 hj h) (hy ρ1 w1 hj h)) kk
def xt{a b:Int}(kk:DX P ops J ρ T (i+1) (se pv i (Is (.int .i64 (a+b)))) os ss)(hx:∀ρ1 w1,J w1->Xc pv ρ ρ1 w1 s->ev ρ1 x=.int .i64 a:=by intro ρ1 w1 hj hR;first|exact hR.1|exact hR.2.1|exact hR.2.2.1|exact rfl)(hy:∀ρ1 w1,J w1->Xc pv ρ ρ1 w1 s->ev ρ1 y=.int .i64 b:=by intro ρ1 w1 hj hR;first|exact hR.1|exact hR.2.1|exact hR.2.2.1|exact rfl)(h1: -9223372036854775808<=a+b:=by omega)(h2:a+b<=9223372036854775807:=by omega):DX P ops J ρ T i pv (⟨d,.binOp .add t x y u,ty,pos,af,none⟩::os) (s::ss):=Wa (λρ1 w1 hj h=>Ys (hx ρ1 w1 hj h) (hy ρ1 w1 hj h) h1 h2) kk
def Tu{a b:Int}(kk:DX P ops J ρ T (i+1) (se pv i (Is (.int .i64 (a-b)))) os ss)(hx:∀ρ1 w1,J w1->Xc pv ρ ρ1 w1 s->ev ρ1 x=.int .i64 a:=by intro ρ1 w1 hj hR;first|exact hR.1|exact hR.2.1|exact hR.2.2.1|exact rfl)(hy:∀ρ1 w1,J w1->Xc pv ρ ρ1 w1 s->ev ρ1 y=.int .i64 b:=by intro ρ1 w1 hj hR;first|exact hR.1|exact hR.2.1|exact hR.2.2.1|exact rfl)(h1: -9223372036854775808<=a-b:=by omega)(h2:a-b<=9223372036854775807:=by omega):DX P ops J ρ T i pv (⟨d,.binOp .sub t x y u,ty,pos,af,none⟩::os) (s::ss):=Wa (λρ1 w1 hj h=>sT (hx ρ1 w1 hj h) (hy ρ1 w1 hj h) h1 h2) kk
def ace{a b:Int}(kk:DX P ops J ρ T (i+1) (se pv i (Is (.int .i64 (a*b)))) os ss)(hx:∀ρ1 w1,J w1->Xc pv ρ ρ1 w1 s->ev ρ1 x=.int .i64 a:=by intro ρ1 w1 hj hR;first|exact hR.1|exact hR.2.1|exact hR.2.2.1|exact rfl)(hy:∀ρ1 w1,J w1->Xc pv ρ ρ1 w1 s->ev ρ1 y=.int .i64 b:=by intro ρ1 w1 hj hR;first|exact hR.1|exact hR.2.1|exact hR.2.2.1|exact rfl)(h1: -9223372036854775808<=a*b:=by omega)(h2:a*b<=9223372036854775807:=by omega):DX P ops J ρ T i pv (⟨d,.binOp .mul t x y u,ty,pos,af,none⟩::os) (s::ss):=Wa (λρ1 w1 hj h=>ET (hx ρ1 w1 hj h) (hy ρ1 w1 hj h) h1 h2) kk
def BP{b:Bool}(kk:DX P ops J ρ T (i+1) (se pv i (Is (.bool !b))) os ss)(hx:∀ρ1 w1,J w1->Xc pv ρ ρ1 w1 s->ev ρ1 x=.bool b:=by intro ρ1 w1 hj hR;first|exact hR.1|exact hR.2.1|exact hR.2.2.1|exact rfl):DX P ops J ρ T i pv (⟨d,.unOp .not t x,ty,pos,af,none⟩::os) (s::ss):=Wa (λρ1 w1 hj h=>aaQ (hx ρ1 w1 hj h)) kk
def dex{v:Value}(kk:DX P ops J ρ T (i+1) (se pv i (Is (v))) os ss)(hx:∀ρ1 w1,J w1->Xc pv ρ ρ1 w1 s->ev ρ1 x=.tuple vs.toArray:=by intro ρ1 w1 hj hR;first|exact hR.1|exact hR.2.1|exact hR.2.2.1|exact rfl)(hv:vs[j]?=some v:=by exact rfl):DX P ops J ρ T i pv (⟨d,.extract x j,ty,pos,af,none⟩::os) (s::ss):=Wa (λρ1 w1 hj h=>Ke (hx ρ1 w1 hj h) hv) kk
def dpT{c a b:Operand}{v:Bool}(kk:DX P ops J ρ T (i+1) (se pv i (Is (.bool v))) os ss)(hc:∀ρ1 w1,J w1->Xc pv ρ ρ1 w1 s->ev ρ1 c=.bool true:=by intro ρ1 w1 hj hR;first|exact hR.1|exact hR.2.1|exact hR.2.2.1|exact rfl)(hx:∀ρ1 w1,J w1->Xc pv ρ ρ1 w1 s->ev ρ1 a=.bool v:=by intro ρ1 w1 hj hR;first|exact hR.1|exact hR.2.1|exact hR.2.2.1|exact rfl):DX P ops J ρ T i pv (⟨d,.pick c a b,ty,pos,af,none⟩::os) (s::ss):=Wa (λρ1 w1 hj h=>IG (hc ρ1 w1 hj h) (hx ρ1 w1 hj h)) kk
def iW{c a b:Operand}{v:Bool}(kk:DX P ops J ρ T (i+1) (se pv i (Is (.bool v))) os ss)(hc:∀ρ1 w1,J w1->Xc pv ρ ρ1 w1 s->ev ρ1 c=.bool false:=by intro ρ1 w1 hj hR;first|exact hR.1|exact hR.2.1|exact hR.2.2.1|exact rfl)(hx:∀ρ1 w1,J w1->Xc pv ρ ρ1 w1 s->ev ρ1 b=.bool v:=by intro ρ1 w1 hj hR;first|exact hR.1|exact hR.2.1|exact hR.2.2.1|exact rfl):DX P ops J ρ T i pv (⟨d,.pick c a b,ty,pos,af,none⟩::os) (s::ss):=Wa (λρ1 w1 hj h=>uF (hc ρ1 w1 hj h) (hx ρ1 w1 hj h)) kk
def Kt{e:TypeId}{c sz:Nat}{q:IntKind}{m:Int}(k:Nat)[ht:lb P t (.slice e)][hs:TS P e sz](kk:DX P ops J ρ T (i+1) (se pv i (Is (.pointer (some ⟨b,k*sz,none⟩)))) os ss)(hx:∀ρ1 w1,J w1->Xc pv ρ ρ1 w1 s->ev ρ1 x=.slice (some ⟨b,0,none⟩) n c:=by intro ρ1 w1 hj hR;first|exact hR.1|exact hR.2.1|exact hR.2.2.1|exact rfl)(hy:∀ρ1 w1,J w1->Xc pv ρ ρ1 w1 s->ev ρ1 y=.int q m:=by intro ρ1 w1 hj hR;first|exact hR.1|exact hR.2.1|exact hR.2.2.1|exact rfl)(hm:m=(k:Int):=by omega)(h1:k<n:=by omega):DX P ops J ρ T i pv (⟨d,.indexAddr t x y,ty,pos,af,none⟩::os) (s::ss):=Wa (λρ1 w1 hj h=>Np ht.out hs.out (hx ρ1 w1 hj h) (hy ρ1 w1 hj h) hm h1) kk
def jj{e:TypeId}{c sz:Nat}{q:IntKind}{m:Int}(k:Nat)[ht:lb P t (.slice e)][hs:TS P e sz](kk:DX P ops J ρ T (i+1) (se pv i (Is (.pointer (some (ad.add (k*sz)))))) os ss)(hx:∀ρ1 w1,J w1->Xc pv ρ ρ1 w1 s->ev ρ1 x=.slice (some ad) n c:=by intro ρ1 w1 hj hR;first|exact hR.1|exact hR.2.1|exact hR.2.2.1|exact rfl)(hy:∀ρ1 w1,J w1->Xc pv ρ ρ1 w1 s->ev ρ1 y=.int q m:=by intro ρ1 w1 hj hR;first|exact hR.1|exact hR.2.1|exact hR.2.2.1|exact rfl)(hm:m=(k:Int):=by omega)(h1:k<n:=by omega):DX P ops J ρ T i pv (⟨d,.indexAddr t x y,ty,pos,af,none⟩::os) (s::ss):=Wa (λρ1 w1 hj h=>lg ht.out hs.out (hx ρ1 w1 hj h) (hy ρ1 w1 hj h) hm h1) kk
variable {args:Array Operand}
def dC{f:FuncId}{ts:Array TypeId}{v:Value}(hc:∀w1,J w1->Calls P f vs.toArray w1 λe w'=>e=.returned v/\Below w1.heap.size w1 w')[hf:ja P f](kk:DX P ops J ρ T (i+1) (se pv i (Is (v))) os ss)(ha:∀ρ1 w1,J w1->Xc pv ρ ρ1 w1 s->Dz ρ1 args.toList=vs:=by intro ρ1 w1 hj hR;repeat (first|exact Fb|(apply Ga;first|exact hR.1|exact hR.2.1|exact hR.2.2.1|exact hR.2.2.2.1|exact rfl))):DX P ops J ρ T i pv (⟨d,.call ⟨.value (.func f),args,ts⟩,ty,pos,af,none⟩::os) (s::ss):=jW (λρ1 w1 hj h=>qb hf.out (ha ρ1 w1 hj h)) hc kk
def dB{ps:List (Nat×Value)}{pl:List (Nat×Nat)}(cs:List Value)[hte:ya P t n true by' zc][hpl:Qi P t pl](kk:DX P ops J ρ T (i+1) (se pv i (Is (.agg cs.toArray))) os ss)(hp:∀ρ1 w1,J w1->Xc pv ρ ρ1 w1 s->vD ρ1 parts.toList=ps:=by intro ρ1 w1 hj hR;repeat (first|exact oe|(apply Rb;first|exact hR.1|exact hR.2.1|exact hR.2.2.1|exact hR.2.2.2.1|exact rfl)))(hf:Wk (pl[·]?) zc ps=some cs:=by exact rfl):DX P ops J ρ T i pv (⟨d,.build t parts,ty,pos,af,none⟩::os) (s::ss):=Wa (λρ1 w1 hj h=>HD hte.out hpl.out (hp ρ1 w1 hj h) hf) kk
def qq{e:TypeId}{len sz:Nat}{ps:List (Nat×Value)}(cs:List Value)[ht:lb P t (.slice e)][hte:ya P e sz ag by' zc](kk:DX P ops J ρ T (i+1) (se pv i (Rows len sz cs)) os ss)(hp:∀ρ1 w1,J w1->Xc pv ρ ρ1 w1 s->vD ρ1 parts.toList=ps:=by intro ρ1 w1 hj hR;repeat (first|exact oe|(apply Rb;first|exact hR.1|exact hR.2.1|exact hR.2.2.1|exact hR.2.2.2.1|exact rfl)))(hzl:zc.length=sz:=by exact rfl)(hf:Wk (λi=>some (i*sz,sz)) (Qg len zc) ps=some cs:=by exact rfl)(h0:¬len*sz=0:=by decide)(hsl:len*sz<=16777216:=by decide)(hl:cs.length=len*sz:=by exact rfl):DX P ops J ρ T i pv (⟨d,.buildSlice t len parts,ty,pos,af,none⟩::os) (s::ss):=cz ht.out hte.out hp hzl hf h0 hsl hl kk
def dS{b c:Bool}{op:Op}(kk:DX P ops J ρ T (i+1) (se pv i (Is (undef))) os ss)(hj:(ops[j]?).bind (·.dst)=some dj:=by exact rfl)(hv:∀ρ1 w1,J w1->Xc pv ρ ρ1 w1 s->ρ1 dj=.bool c:=by intro ρ1 w1 hj hR;first|exact hR.1|exact hR.2.1|exact hR.2.2.1|exact hR.2.2.2.1)(hb:c≠b:=by decide):DX P ops J ρ T i pv (⟨d,op,ty,pos,af,some (j,b)⟩::os) (s::ss):=Vn hj hv hb kk
def dU{b:Bool}{op:Op}(kk:DX P ops J ρ T (i+1) (se pv i (Is (undef))) os ss)(hj:(ops[j]?).bind (·.dst)=some dj:=by exact rfl)(hv:∀ρ1 w1,J w1->Xc pv ρ ρ1 w1 s->ρ1 dj=undef:=by intro ρ1 w1 hj hR;first|exact hR.1|exact hR.2.1|exact hR.2.2.1|exact hR.2.2.2.1):DX P ops J ρ T i pv (⟨d,op,ty,pos,af,some (j,b)⟩::os) (s::ss):=kH hj hv kk
def dG{b:Bool}{op:Op}(kk:DX P ops J ρ T i pv (⟨d,op,ty,pos,af,none⟩::os) (s::ss))(hj:(ops[j]?).bind (·.dst)=some dj:=by exact rfl)(hv:∀ρ1 w1,J w1->Xc pv ρ ρ1 w1 s->ρ1 dj=.bool b:=by intro ρ1 w1 hj hR;first|exact hR.1|exact hR.2.1|exact hR.2.2.1|exact hR.2.2.2.1):DX P ops J ρ T i pv (⟨d,op,ty,pos,af,some (j,b)⟩::os) (s::ss):=let⟨V,h1,h2,h3⟩:=kk;⟨V,h1,λρ1 w1 hj1 h=>Dk hj (hv ρ1 w1 hj1 h) (h2 ρ1 w1 hj1 h),h3⟩
variable {cy d:Nat}
def YL(hh:Hp w0 H w){t s e:TypeId}{x y:Operand}{i c dl dc sz:Nat}{B:Option Addr}{xs news:List Value}(hi:H[i]?=some (.row (some ⟨b,0,none⟩) m c e sz xs))(hx:ev ρ x=.slice (some ⟨b,o,none⟩) dl dc)(hy:ev ρ y=.slice B n cy) (hsl:Sl w B n sz news)(ht:P.underlying t=some (.slice e))(hte:Dd P e=some (sz,ag,by',zc))(ho:o+min n dl*sz<=xs.length)(h1:(news.all Value.oneCell')=true)(hN:d<N) (kk:∀w',Hp w0 (H.set i (.row (some ⟨b,0,none⟩) m c e sz (Hb xs o (news.take (min n dl*sz))))) w'->WL ro P N ops Q rest (sc ρ d (.int .i64 ((min n dl:Nat):Int))) w'):
  WL ro P N ops Q (⟨some d,.call ⟨.builtin .copy, #[x,y], #[t,s]⟩,ty,pos,af,none⟩::rest) ρ w:=by
 obtain⟨inf,z,dd,hti,hd,hz,hsz,hby,hzc,_⟩:=bf hte;have hrow:=hh.at_ hi;obtain⟨hlen,h2⟩:=hrow;have hnl:=hsl.1;have hmin:min n dl*sz<=n*sz:=N9 _ (Nat.min_le_left _ _);have hvl:(news.take (min n dl*sz)).length=min n dl*sz:=by rw[R_];omega
 have h1':∀v∈news.take (min n dl*sz),v.oneCell'=true:=λv hv=>u_.1 h1 v (N8 hv);have hcells:(Builtin.firstCells sz (min n dl) (.slice B n cy)).run P w=.ok (news.take (min n dl*sz)).toArray w:=by
  cases B with
  |none=>
   have h0:n=0:=by
    obtain h0|h0:=x8 n
    .exact h0
    obtain⟨ad,h1,_⟩:=hsl.2 h0;cases h1
   subst h0;simp[Builtin.firstCells]
  |some ad=>
   have hrd:∀j u,(news.take (min n dl*sz))[j]?=some u->w.cell? (ad.add j)=some u:=by
    intro j u hj;rw[Z7] at hj;split at hj
    .obtain h0|h0:=x8 n
     .subst h0;have:news=[]:=C8 (by simpa using hnl);simp[this] at hj
     obtain⟨ad',he,hr'⟩:=hsl.2 h0;injection he with he
     subst he;exact hr' j u hj
    cases hj
   have:=run_loadCells_list (P:=P) w ad _ hrd;rw[hvl] at this;simpa[Builtin.firstCells] using this
 generalize news.take (min n dl*sz)=vs at hvl h1' hcells kk;rw[<-hvl] at ho;obtain⟨h2,_⟩|⟨g,cap,cur,hv,hg,hheap,hmc,hcm,hcur,htake⟩:=h2
 .injection h2 with h2;cases h2
 injection hv with hA hn hcap
 injection hA with hA
 injection hA with hA
 subst hA;subst hcap;have hcl:cur.size=cur.toList.length:=by simp
 have hle:m*sz<=c*sz:=N9 _ hmc;obtain⟨w',hr,hb',hgr,hs⟩:=fh (P:=P) (b:=b) (t:=e) (fz:=(0,0)) o vs 0 cur.toList w (by simpa using hheap) (.inr (j' _)) (by rw[<-hcl];omega) h1';refine Ia rfl rfl hN (w':=w') (v:=.int .i64 ((min n dl:Nat):Int)) ?_ (kk w' (hh.grown hi hgr (.inl rfl) ⟨by rw[Ze Z'];exact hlen,.inr ⟨b,c,(Hb cur.toList o vs).toArray,rfl,hg,by simpa using hb',hmc,hcm, ?_, ?_⟩⟩))
 .have hmm:Nat.min n dl=min n dl:=rfl;simp only[execOp,resolve,invoke,hx,hy,List.map_toArray,q_,G9];simp[builtin,Builtin.copy_,run_underlying ht,Builtin.lenOf,sizeOf,typeInfo,hti,hsz,hmm,hcells,hr,goInt]
 .simp only[S6];rw[Ze (by rw[<-hcl];omega),<-hcl,hcur]
 exact aeH
def Ka(B:Nat):List Nat->Nat
 |[]=>0
 |d::l=>d+B*Ka B l
def Ib(B:Nat):Nat->Nat->List Nat
 |0,_=>[]
 |k+1,n=>n % B::Ib B k (n/B)
def Xd:List Nat->List Nat
 |[]=>[]
 |d::l=>match Xd l with
  |[]=>if d=0 then[] else[d]
  |e::m=>d::e::m
def Ha(B n:Nat):List Nat:=Xd (Ib B (n.log2+1) n)
def Dg(B:Nat)(l:List Nat):Prop:=∀d∈l,d<B
variable {B:Nat}
def Dg.nil:Dg B []:=λ_ h=>(nomatch h)
def Dg.cons{d:Nat}{l:List Nat}(h:d<B)(hl:Dg B l):Dg B (d::l):=λx hx=>by
 obtain rfl|hx:=S_.1 hx
 .exact h
 exact hl x hx
def Dg.head{d:Nat}{l:List Nat}(h:Dg B (d::l)):d<B:=h d q'
def Dg.tail{d:Nat}{l:List Nat}(h:Dg B (d::l)):Dg B l:=λx hx=>h x (F' _ hx)
def Dg.append{l m:List Nat}(h:Dg B l)(h':Dg B m):Dg B (l++m):=λx hx=>by
 obtain hx|hx:=z_.1 hx
 .exact h x hx
 exact h' x hx
def Dg.sub{l m:List Nat}(h:Dg B l)(h':m.Sublist l):Dg B m:=λx hx=>h x (h'.subset hx)
def Dg.take{l:List Nat}(h:Dg B l)(n:Nat):Dg B (l.take n):=h.sub (List.take_sublist n l)
def Dg.drop{l:List Nat}(h:Dg B l)(n:Nat):Dg B (l.drop n):=h.sub (List.drop_sublist n l)
def Dg.at_{l:List Nat}(h:Dg B l){i d:Nat}(hi:l[i]?=some d):d<B:=h d (G' hi)
def Dg.UW{l:List Nat}(h:Dg B l)(i:Nat){d:Nat}(hd:d<B):Dg B (l.set i d):=λx hx=>by
 obtain hx|rfl:=J8 hx
 .exact h x hx
 exact hd
def Dg.ie(hB:0<B)(n:Nat):Dg B (List.replicate n 0):=λx hx=>by rw[List.eq_of_mem_replicate hx];exact hB
def Hc(l m:List Nat):Ka B (l++m)=Ka B l+B^l.length*Ka B m:=by
 induction l with
 |nil=>simp[Ka]
 |cons d l ih=>simp only[C',Ka,ih,E_,i_];rw[X9,R6];congr 2;rw[<-J9,G_ B]
def Jf{l:List Nat}(h:Dg B l):Ka B l<B^l.length:=by
 induction l with
 |nil=>simp[Ka]
 |cons d l ih=>
  have h1:=ih h.tail;have h2:=h.head;simp only[Ka,E_,i_]
  calc d+B*Ka B l<B+B*Ka B l:=by omega
   _=B*(Ka B l+1):=by rw[X9,I_,o8]
   _<=B*B^l.length:=k_ _ h1
   _=B^l.length*B:=G_ _ _
def Ai(n:Nat):Ka B (List.replicate n 0)=0:=by
 induction n with
 |zero=>rfl
 |succ n ih=>simp[B7,Ka,ih]
def Ja(k n:Nat):(Ib B k n).length=k:=by
 induction k generalizing n with
 |zero=>rfl
 |succ k ih=>simp[Ib,ih]
def Lf(hB:0<B)(k n:Nat):Dg B (Ib B k n):=by
 induction k generalizing n with
 |zero=>exact Dg.nil
 |succ k ih=>exact Dg.cons (B_ _ hB) (ih _)
def WQ(k n:Nat):Ka B (Ib B k n)=n % B^k:=by
 induction k generalizing n with
 |zero=>simp[Ib,Ka,Nat.mod_one]
 |succ k ih=>rw[Ib,Ka,ih,i_,G_ (B^k),Nat.mod_mul]
def Fc(h:n<B^k):Ka B (Ib B k n)=n:=by rw[WQ,h_ h]
def Bq{l:List Nat}(h:Dg B l):Ib B l.length (Ka B l)=l:=by
 induction l with
 |nil=>rfl
 |cons d l ih=>
  have hd:=h.head;simp only[E_,Ib,Ka];rw[R7,h_ hd,Q8 _ _ Z',L9 hd,C_,ih h.tail]
def jD{l m:List Nat}(hl:Dg B l)(hm:Dg B m)(hlen:l.length=m.length)(h:Ka B l=Ka B m):l=m:=by
 rw[<-Bq hl,<-Bq hm,hlen,h]
def Yh(k n i:Nat)(h:i<k):(Ib B k n)[i]?=some (n/B^i % B):=by
 induction k generalizing n i with
 |zero=>omega
 |succ k ih=>
  cases i with
  |zero=>simp[Ib]
  |succ i=>simp only[Ib,N6];rw[ih _ _ Z',V8,i_,G_ B]
def Fv{l:List Nat}(h:Dg B l){i d:Nat}(hi:l[i]?=some d):Ka B l/B^i % B=d:=by
 have h1:=Yh (B:=B) l.length (Ka B l) i (X_.1 hi).1;rw[Bq h,hi] at h1;injection h1 with h1
 exact h1.symm
def Cq{l:List Nat}(h:Dg B l){i:Nat}(hi:l.length<=i)(hB:0<B):Ka B l/B^i=0:=
 L9 (T9 (Jf h) (m_ hB hi))
def jg(l:List Nat)(i:Nat)(h:i<=l.length):Ka B l=Ka B (l.take i)+B^i*Ka B (l.drop i):=by
 have:=Hc (B:=B) (l.take i) (l.drop i);rw[P9,List.length_take_of_le h] at this;exact this
def pG{l:List Nat}(h:Dg B l)(i:Nat)(hB:0<B):Ka B (l.drop i)=Ka B l/B^i:=by
 by_cases hi:i<=l.length
 .rw[jg l i hi];have h1:=Jf (h.take i);rw[List.length_take_of_le hi] at h1;rw[Q8 _ _ (r_ hB),L9 h1,C_]
 rw[F5 Z',Cq h Z' hB];rfl
def BU{l:List Nat}(h:Dg B l)(i:Nat)(hi:i<=l.length):Ka B (l.take i)=Ka B l % B^i:=by
 rw[jg l i hi,R7,h_];have h1:=Jf (h.take i);rwa[List.length_take_of_le hi] at h1
def ai(l:List Nat):Ka B (Xd l)=Ka B l:=by
 induction l with
 |nil=>rfl
 |cons d l ih=>
  simp only[Xd,Ka];split
  .rename_i h;rw[h] at ih;simp only[Ka] at ih;split
   .rename_i h0;rw[h0,<-ih];simp[Ka]
   rw[<-ih];simp[Ka]
  rename_i e m h;rw[h] at ih;rw[<-ih];rfl
def wj(l:List Nat):Xd l=l.take (Xd l).length:=by
 induction l with
 |nil=>rfl
 |cons d l ih=>
  simp only[Xd];split
  .split
   .rfl
   simp
  rename_i e m h;rw[h] at ih;simp only[E_,k7] at ih |-;rw[<-ih]
def ue(l:List Nat):(Xd l).length<=l.length:=by
 have:=J_ List.length (wj l);rw[R_] at this;omega
def iA(l:List Nat):(Xd l).getLast?≠some 0:=by
 induction l with
 |nil=>simp[Xd]
 |cons d l ih=>
  simp only[Xd];split
  .split
   .simp
   simpa
  rename_i e m h;rw[h] at ih;rwa[List.getLast?_cons_cons]
def Dg.cut{l:List Nat}(h:Dg B l):Dg B (Xd l):=by rw[wj];exact h.take _
def JO{l:List Nat}(h:l.getLast?≠some 0):Xd l=l:=by
 induction l with
 |nil=>rfl
 |cons d l ih=>
  cases l with
  |nil=>simp only[Xd];rw[L'];intro h0;subst h0;simp at h
  |cons e m=>
   rw[List.getLast?_cons_cons] at h;rw[Xd,ih h]
def Nv(l:List Nat):Xd (l++[0])=Xd l:=by
 induction l with
 |nil=>simp[Xd]
 |cons d l ih=>simp only[C',Xd,ih]
def IA{l:List Nat}{d:Nat}(h:d≠0):Xd (l++[d])=l++[d]:=JO (by simpa using h)
def Can(B:Nat)(l:List Nat):Prop:=Dg B l/\l.getLast?≠some 0
def Can.cut{l:List Nat}(h:Dg B l):Can B (Xd l):=⟨h.cut,iA l⟩
def MQ{l:List Nat}(h:l.getLast?≠some 0)(hn:l≠[]):B^(l.length-1)<=Ka B l:=by
 have h1:=List.dropLast_concat_getLast hn;have h2:l.getLast hn≠0:=(by intro h0;apply h;rw[List.getLast?_eq_some_getLast hn,h0]);rw[<-h1,Hc];simp only[Y_,List.length_dropLast,E_,g7];have:l.length-1+(0+1)-1=l.length-1:=Z';rw[this];simp only[Ka,N7,q9];exact N_ (L5 _ (Nat.pos_of_ne_zero h2)) (Nat.le_add_left _ _)
def Can.Zw{l m:List Nat}(hl:Can B l)(hm:Can B m)(hB:1<B)(h:Ka B l<=Ka B m):l.length<=m.length:=by
 obtain hlt|hge:=Y9 m.length l.length
 .exfalso;have hn:l≠[]:=by intro h0;simp[h0] at hlt
  have h1:=MQ (B:=B) hl.2 hn;have h2:=Jf hm.1;have h3:B^m.length<=B^(l.length-1):=m_ Z' Z';exact Nat.lt_irrefl _ (T9 h2 (N_ h3 (N_ h1 h)))
 exact hge
def Can.inj{l m:List Nat}(hl:Can B l)(hm:Can B m)(hB:1<B)(h:Ka B l=Ka B m):l=m:=
 jD hl.1 hm.1 (Nat.le_antisymm (hl.Zw hm hB (Nat.le_of_eq h)) (hm.Zw hl hB (Nat.le_of_eq h.symm))) h
def ae(hB:0<B)(n:Nat):Can B (Ha B n):=Can.cut (Lf hB _ _)
def JG(hB:1<B)(n:Nat):n<B^(n.log2+1):=by
 have h1:n<2^(n.log2+1):=Nat.lt_log2_self;exact T9 h1 (Nat.pow_le_pow_left hB _)
def we(hB:1<B)(n:Nat):Ka B (Ha B n)=n:=by
 rw[Ha,ai,Fc (JG hB n)]
def cG(hB:1<B){l:List Nat}(h:Can B l):Ha B (Ka B l)=l:=(ae Z' _).inj h hB (we hB _)
def Lh(hB:1<B){l:List Nat}(h:Dg B l):Xd l=Ha B (Ka B l):=by
 rw[<-ai,cG hB (Can.cut h)]
def Yg(hB:1<B):Ha B 0=[]:=(ae Z' 0).inj ⟨Dg.nil,by simp⟩ hB (by rw[we hB];rfl)
def Gr(hB:1<B):Ha B n=[]↔n=0:=by
 constructor
 .intro h;have:=we hB n;rw[h] at this;exact this.symm
 intro h;rw[h,Yg hB]
def yf(hB:1<B)(h:n<B^k):(Ha B n).length<=k:=by
 have h1:Xd (Ib B k n)=Ha B n:=by rw[Lh hB (Lf Z' _ _),Fc h]
 have:=ue (Ib B k n);rw[h1,Ja] at this;exact this
def Ll(hB:1<B)(n:Nat):n<B^(Ha B n).length:=by
 have:=Jf (ae (B:=B) Z' n).1;rwa[we hB] at this
def Ni(hB:1<B){a:Nat}(h:a<=b):(Ha B a).length<=(Ha B b).length:=(ae Z' a).Zw (ae Z' b) hB (by rw[we hB,we hB];exact h)
def Py(hB:1<B){i:Nat}(h:i<(Ha B n).length):(Ha B n)[i]?=some (n/B^i % B):=by
 have h1:=D8 h;rw[h1];have h2:=Fv (ae (B:=B) Z' n).1 h1;rw[we hB] at h2;rw[h2]
def LO(hB:1<B)(h:n≠0):Ha B n=n % B::Ha B (n/B):=by
 refine(ae Z' n).inj ⟨Dg.cons (B_ _ Z') (ae Z' _).1, ?_⟩ hB ?_
 .cases hd:Ha B (n/B) with
  |nil=>
   rw[Gr hB] at hd;have:n=n % B:=by have:=E9 n B;rw[hd] at this;simpa using this.symm
   simp only[List.getLast?_singleton];intro h0;injection h0 with h0;omega
  |cons e m=>
   rw[List.getLast?_cons_cons,<-hd];exact(ae Z' _).2
 rw[we hB,Ka,we hB];have:=E9 n B;omega
def wU(hB:1<B)(h:n<B^k):Ib B k n=Ha B n++List.replicate (k-(Ha B n).length) 0:=by
 have hl:=yf hB h;refine jD (B:=B) (Lf Z' _ _) ((ae Z' _).1.append (Dg.ie Z' _)) ?_ ?_
 .rw[Ja,Y_,H9];omega
 rw[Fc h,Hc,we hB,Ai];simp
def XD:List Nat->Nat
 |[]=>0
 |d::_=>d
variable {ys:List Nat}
def OS(ys:List Nat):Ka B ys=XD ys+B*Ka B ys.tail:=by cases ys<;>simp[Ka,XD]
def abG(h:Dg B ys)(hB:0<B):XD ys<B:=by
 cases ys with
 |nil=>exact hB
 |cons d l=>exact h.head
def Dg.tl(h:Dg B ys):Dg B ys.tail:=by
 cases ys with
 |nil=>exact h
 |cons d l=>exact h.tail
def Yw(ys:List Nat)(i:Nat):XD (ys.drop i)=(ys[i]?).getD 0:=by
 induction ys generalizing i with
 |nil=>simp[XD]
 |cons d l ih=>cases i with
  |zero=>rfl
  |succ i=>simpa using ih i
def tail_drop(ys:List Nat)(i:Nat):(ys.drop i).tail=ys.drop (i+1):=by
 induction ys generalizing i with
 |nil=>simp
 |cons d l ih=>cases i with
  |zero=>rfl
  |succ i=>simp
def dF{B a:Nat}(hB:0<B)(h:a+B*b<B*n):b+a/B<n:=by
 have h1:(a+B*b)/B<n:=by rw[D9 hB,G_ n];exact h
 rw[Q8 _ _ hB] at h1;omega
def Pg(B:Nat):List Nat->List Nat->Nat->Nat->List Nat
 |[],_,_,_=>[]
 |x::xs,ys,m,c=>(x+XD ys*m+c) % B::Pg B xs ys.tail m ((x+XD ys*m+c)/B)
def Rl(xs ys:List Nat)(m c:Nat):(Pg B xs ys m c).length=xs.length:=by
 induction xs generalizing ys c with
 |nil=>rfl
 |cons x xs ih=>simp[Pg,ih]
def wy(hB:0<B)(xs ys:List Nat)(m c:Nat):Dg B (Pg B xs ys m c):=by
 exact AZ
def Ns(hB:0<B)(xs ys:List Nat)(m c:Nat)(h:Ka B xs+Ka B ys*m+c<B^xs.length):Ka B (Pg B xs ys m c)=Ka B xs+Ka B ys*m+c:=by
 induction xs generalizing ys c with
 |nil=>simp only[g7,Q6,Ka] at h;simp only[Pg,Ka];omega
 |cons x xs ih=>
  have e:Ka B (x::xs)+Ka B ys*m+c=(x+XD ys*m+c)+B*(Ka B xs+Ka B ys.tail*m):=(by rw[Ka,OS ys,T7,X9,J9];omega);rw[E_,i_,G_ _ B,e] at h;have h1:=dF hB h;simp only[Pg,Ka];rw[ih _ _ h1,<-Ka,e,X9];have:=P6 (x+XD ys*m+c) B;omega
def Yp(B:Nat):List Nat->List Nat->Nat->List Nat
 |[],_,_=>[]
 |x::xs,ys,b=>(x+B-XD ys-b) % B::Yp B xs ys.tail (if x<XD ys+b then 1 else 0)
def SG(B:Nat):List Nat->List Nat->Nat->Nat
 |[],_,b=>b
 |x::xs,ys,b=>SG B xs ys.tail (if x<XD ys+b then 1 else 0)
def xG(xs ys:List Nat)(c:Nat):(Yp B xs ys c).length=xs.length:=by
 induction xs generalizing ys c with
 |nil=>rfl
 |cons x xs ih=>simp[Yp,ih]
def wM(hB:0<B)(xs ys:List Nat)(c:Nat):Dg B (Yp B xs ys c):=by
 exact AZ
def FF(hB:0<B)(xs ys:List Nat)(b:Nat)(hx:Dg B xs)(hy:Dg B ys)(hb:b<=1)(h:Ka B ys+b<=Ka B xs):Ka B (Yp B xs ys b)+Ka B ys+b=Ka B xs/\SG B xs ys b=0:=by
 induction xs generalizing ys b with
 |nil=>simp only[Ka] at h;simp only[Yp,SG,Ka];omega
 |cons x xs ih=>
  have hx0:=hx.head;have hy0:=abG hy hB;have e:=OS (B:=B) ys;simp only[Ka,Yp,SG] at h |-;by_cases hlt:x<XD ys+b
  .rw[J' hlt];have h1:Ka B ys.tail+1<=Ka B xs:=(by refine H6 λhle=> ?_;have:=k_ B hle;omega);obtain⟨i1,i2⟩:=ih ys.tail 1 hx.tail hy.tl Z' h1;refine⟨?_,i2⟩;have h2:=J_ (B* ·) i1;simp only[X9] at h2;rw[h_ Z'];omega
  rw[L' hlt];have h1:Ka B ys.tail+0<=Ka B xs:=(by refine k6 λhle=> ?_;have:=k_ B (Nat.succ_le_of_lt hle);simp only[O8,q9] at this;omega);obtain⟨i1,i2⟩:=ih ys.tail 0 hx.tail hy.tl Z' h1;refine⟨?_,i2⟩;have h2:=J_ (B* ·) i1;simp only[X9,q9] at h2;have h3:x+B-XD ys-b=(x-XD ys-b)+B:=Z';rw[h3,Nat.add_mod_right,h_ Z'];omega
def kN(xs:List Nat)(i d:Nat)(hi:xs[i]?=some o):Ka B (xs.set i d)+B^i*o=Ka B xs+B^i*d:=by
 induction xs generalizing i with
 |nil=>simp at hi
 |cons x xs ih=>
  cases i with
  |zero=>simp only[U6,S8] at hi;subst hi;simp only[U_,Ka,Q6,Y7];omega
  |succ i=>
   have:=J_ (B* ·) (ih i hi);simp only[X9,<-J9] at this;simp only[F_,Ka,i_,G_ _ B];omega
def GH{l m:List Nat}{x y:Nat}(hl:Dg B l)(hlen:l.length=m.length)(h:x<y):Ka B (l++[x])<Ka B (m++[y]):=by
 rw[Hc,Hc,hlen];have h1:=Jf hl;rw[hlen] at h1;have h2:B^m.length*(x+1)<=B^m.length*y:=k_ _ h;simp only[Ka,N7,q9,O8] at h2 |-;omega
def Qh(a b:Nat):Int:=if a<b then -1 else if b<a then 1 else 0
def Uj{a:Nat}(h:a<b):Qh a b= -1:=by simp[Qh,h]
def vr{a:Nat}(h:b<a):Qh a b=1:=by simp only[Qh];rw[L' Z',J' h]
def NM{a:Nat}(h:a=b):Qh a b=0:=by simp only[Qh];rw[L' Z',L' Z']
def Nz{xs:List Nat}{x y:Nat}(hx:Dg B xs)(hxk:xs[k]?=some x)(hyk:ys[k]?=some y)(hd:xs.drop (k+1)=ys.drop (k+1))(hlt:x<y):Ka B xs<Ka B ys:=by
 have lx:=(X_.1 hxk).1;have ly:=(X_.1 hyk).1;rw[jg xs (k+1) lx,jg ys (k+1) ly,hd];have e1:xs.take (k+1)=xs.take k++[x]:=by rw[List.take_add_one,hxk];rfl
 have e2:ys.take (k+1)=ys.take k++[y]:=by rw[List.take_add_one,hyk];rfl
 have:=GH (B:=B) (m:=ys.take k) (hx.take k) (by rw[R_,R_];omega) hlt;rw[e1,e2];omega
def KD{xs:List Nat}{x y:Nat}(hxk:xs[k]?=some x)(hyk:ys[k]?=some y)(hd:xs.drop (k+1)=ys.drop (k+1))(h:x=y):xs.drop k=ys.drop k:=by
 obtain⟨lx,ex⟩:=X_.1 hxk;obtain⟨ly,ey⟩:=X_.1 hyk;rw[m8 lx,m8 ly,hd,ex,ey,h]
def ir{v:Nat}(hB:0<B)(hj:j<k)(hn:n+B^j*v<B^k)(hv:n/B^j % B+v<B):(Ib B k n).set j (n/B^j % B+v)=Ib B k (n+B^j*v):=by
 refine jD (B:=B) ((Lf hB _ _).UW _ hv) (Lf hB _ _) (by rw[U9,Ja,Ja]) ?_;have h1:=kN (B:=B) (Ib B k n) j (n/B^j % B+v) (Yh k n j hj);rw[Fc Z'] at h1;rw[Fc hn];rw[X9] at h1;omega
def Nt(k:Nat):Ib B k 0=List.replicate k 0:=by
 induction k with
 |zero=>rfl
 |succ k ih=>simp[Ib,ih,B7]
def uG(s:List UInt8):List Nat:=(s.map UInt8.toNat).reverse
def bn(s:List UInt8):Nat:=Ka 256 (uG s)
def sb(n:Nat):List UInt8:=((Ha 256 n).map UInt8.ofNat).reverse
def Xp(s:List UInt8):(uG s).length=s.length:=by simp[uG]
def NC(s:List UInt8):Dg 256 (uG s):=λd hd=>by
 obtain⟨c,_,rfl⟩:=Z_.1 (g8.1 hd);exact c.toNat_lt
def aaC(s:List UInt8):bn s<256^s.length:=by have:=Jf (NC s);rwa[Xp] at this
def lV{s:List UInt8}{i:Nat}{c:UInt8}(hi:i<s.length)(h:s[s.length-1-i]?=some c):(uG s)[i]?=some c.toNat:=by
 unfold uG;rw[k8 (by simpa using hi),i',V_,h];rfl
def rT(n:Nat):uG (sb n)=Ha 256 n:=by
 unfold uG sb;rw[List.map_reverse,u6,Z9];have:∀l:List Nat,Dg 256 l->l.map (UInt8.toNat ∘ UInt8.ofNat)=l:=by
  intro l
  induction l with
  |nil=>intro _;rfl
  |cons d l ih=>
   intro h;have hd:=h.head;simp only[q_,ih h.tail,Function.comp];congr 1;simp only[j6];omega
 exact this _ (ae Z' n).1
def aev(n:Nat):bn (sb n)=n:=by rw[bn,rT,we Z']
def WN(n:Nat):(sb n).length=(Ha 256 n).length:=by simp[sb]
def SY{s t:List UInt8}(h:uG s=uG t):s=t:=by
 have h1:=List.reverse_inj.1 h;exact(List.map_inj_right λa b h=>K6.1 h).1 h1
def aeI{s:List UInt8}(h:uG s=Ha 256 n):s=sb n:=SY (by rw[h,rT])
def QY:sb 0=[]:=by rw[sb,Yg Z'];rfl
def OQ(s:List UInt8):bn (0::s)=bn s:=by
 unfold bn uG;rw[q_,D7,Hc];simp[Ka]
def adw{s:List UInt8}(h:s.head?≠some 0):sb (bn s)=s:=by
 refine(aeI ?_).symm;rw[bn,cG Z' ⟨NC s, ?_⟩];unfold uG;rw[List.getLast?_reverse,List.head?_map]
 cases s with
 |nil=>simp
 |cons c s=>
  simp only[List.head?_cons,M8];intro h0;injection h0 with h0
  apply h;simp only[List.head?_cons];congr 1;exact K6.1 (by simpa using h0)
def Sa(n:Nat):Nat:=(Ha 2 n).length
def Ik:Sa 0=0:=by rw[Sa,Yg Z'];rfl
def Tb(n:Nat):n<2^Sa n:=Ll Z' n
def Dc(h:n<2^k):Sa n<=k:=yf Z' h
def uC(h:n≠0):2^(Sa n-1)<=n:=by
 have h1:=MQ (B:=2) (ae (B:=2) Z' n).2 (λh0=>h ((Gr Z').1 h0));rwa[we Z'] at h1
def En(h:n≠0):0<Sa n:=by
 rw[Sa];have:Ha 2 n≠[]:=λh0=>h ((Gr Z').1 h0);exact List.length_pos_iff.2 this
def oC(h1:n<2^k)(h2:2^(k-1)<=n):Sa n=k:=by
 have h3:=Dc h1;obtain h|h:=Y9 (Sa n) k
 .have h4:=Tb n;have h5:2^Sa n<=2^(k-1):=m_ Z' Z';omega
 omega
def iH{B:Nat}(hB:B=2^b){l:List Nat}{d:Nat}(hl:Dg B l)(hlen:l.length=m)(hd:d≠0):Sa (Ka B (l++[d]))=b*m+Sa d:=by
 have hlt:=Jf hl;rw[hlen] at hlt;have hp:B^m=2^(b*m):=by rw[hB,<-W9]
 rw[Hc,hlen];simp only[Ka,N7,q9];rw[hp] at hlt |-;apply oC
 .have h1:=Tb d;have h2:2^(b*m)*(d+1)<=2^(b*m)*2^Sa d:=k_ _ h1;rw[D_];rw[O8] at h2;omega
 have h1:=uC hd;have h2:=En hd;have e:b*m+Sa d-1=b*m+(Sa d-1):=Z';rw[e,D_];have h3:2^(b*m)*2^(Sa d-1)<=2^(b*m)*d:=k_ _ h1;omega
def BI{a c s:Nat}(h:a<2^s):a|||(c*2^s)=a+c*2^s:=by
 have h1:=Nat.shiftLeft_add_eq_or_of_lt h c;rw[Nat.shiftLeft_eq] at h1;rw[Nat.or_comm,<-h1,o8]
def NY{i c:Nat}(n:Nat)(hn:n<256^i)(hc:c<256)(hi:i/8<k):
  n/18446744073709551616^(i/8) % 18446744073709551616<2^(i % 8*8)/\c*2^(i % 8*8)<18446744073709551616/\
  (Ib 18446744073709551616 k n).set (i/8) (n/18446744073709551616^(i/8) % 18446744073709551616+c*2^(i % 8*8))=Ib 18446744073709551616 k (n+256^i*c):=by
 have hW:(18446744073709551616:Nat)=2^64:=by decide
 have h256:(256:Nat)=2^8:=by decide
 have hp:256^i=18446744073709551616^(i/8)*2^(i % 8*8):=(by rw[hW,h256,<-W9,<-W9,<-D_];congr 1;omega);have h1:n/18446744073709551616^(i/8)<2^(i % 8*8):=(by rw[D9 (r_ U'),G_,<-hp];exact hn);have hs:2^(i % 8*8)*256<=18446744073709551616:=(by rw[h256,hW,<-D_];exact m_ Z' Z');have h2:n/18446744073709551616^(i/8) % 18446744073709551616<2^(i % 8*8):=S9 (Nat.mod_le _ _) h1;have h3:(c+1)*2^(i % 8*8)<=256*2^(i % 8*8):=N9 _ hc;rw[n9] at h3;have hpos:0<2^(i % 8*8):=r_ Z';refine⟨h2,Z', ?_⟩;have h4:256^i*c=18446744073709551616^(i/8)*(c*2^(i % 8*8)):=by rw[hp,J9,G_ c]
 rw[h4];refine ir U' hi ?_ Z';rw[<-h4];have h5:256^i*(c+1)<=256^i*256:=k_ _ hc;have h6:256^i*256<=18446744073709551616^k:=by
  have:256^i*256=2^(8*(i+1)):=by rw[h256,<-W9,<-D_];congr 1
  rw[this,hW,<-W9];exact m_ Z' Z'
 rw[O8] at h5;omega
def zO(n i:Nat):n/18446744073709551616^(i/8) % 18446744073709551616/2^(i % 8*8) % 256=n/256^i % 256:=by
 have hW:(18446744073709551616:Nat)=2^64:=by decide
 have h256:(256:Nat)=2^8:=by decide
 have hp:256^i=18446744073709551616^(i/8)*2^(i % 8*8):=(by rw[hW,h256,<-W9,<-W9,<-D_];congr 1;omega);rw[hp,<-V8];generalize n/18446744073709551616^(i/8)=m;have e:(18446744073709551616:Nat)=2^(i % 8*8)*2^(64-i % 8*8):=by rw[<-D_,hW];congr 1;omega
 rw[e,Nat.mod_mul_right_div_self];have e2:2^(64-i % 8*8)=256*2^(56-i % 8*8):=by rw[h256,<-D_];congr 1;omega
 rw[e2,Nat.mod_mul_right_mod]
def Gz(n j s:Nat)(hs:s<64)(h0:0<s):(n/18446744073709551616^j % 18446744073709551616/2^s)<2^(64-s)/\
  n/18446744073709551616^j % 18446744073709551616/2^s+n/18446744073709551616^(j+1) % 2^s*2^(64-s)=n/2^(64*j+s) % 18446744073709551616:=by
 have hW:(18446744073709551616:Nat)=2^64:=by decide
 have e:(18446744073709551616:Nat)=2^s*2^(64-s):=by rw[<-D_,hW];congr 1;omega
 have hp:(18446744073709551616:Nat)^(j+1)=18446744073709551616^j*18446744073709551616:=i_ ..;rw[hp,<-V8,D_,W9,<-hW,<-V8];generalize n/18446744073709551616^j=m;have e1:m % 18446744073709551616/2^s=m/2^s % 2^(64-s):=by rw[e,Nat.mod_mul_right_div_self]
 rw[e1];refine⟨B_ _ (r_ Z'), ?_⟩;have e2:m/18446744073709551616=m/2^s/2^(64-s):=by rw[e,<-V8]
 rw[e2];generalize m/2^s=q;have e3:(18446744073709551616:Nat)=2^(64-s)*2^s:=by rw[G_];exact e
 rw[e3,Nat.mod_mul,G_ (2^(64-s))]
def acA{d s:Nat}(hd:d<18446744073709551616)(hs:s<=64):d*2^s % 18446744073709551616+d/2^(64-s)*18446744073709551616=d*2^s/\d/2^(64-s)<2^s:=by
 have hW:(18446744073709551616:Nat)=2^64:=by decide
 have e:(18446744073709551616:Nat)=2^(64-s)*2^s:=by rw[<-D_,hW];congr 1;omega
 have h1:d*2^s/18446744073709551616=d/2^(64-s):=by rw[e,Nat.mul_div_mul_right _ _ (r_ Z')]
 rw[<-h1];constructor
 .have:=P6 (d*2^s) 18446744073709551616;omega
 rw[h1,D9 (r_ Z'),G_,<-e];exact hd
def str(l:List UInt8):ByteArray:=⟨l.toArray⟩
def Oc(l:List UInt8):(str l).data.toList=l:=by simp[str]
def Cw{a b:ByteArray}(h:a.data.toList=b.data.toList):a=b:=by
 cases a;cases b;congr 1;exact L6 h
def pR(s:ByteArray):str s.data.toList=s:=Cw (Oc _)
def yg(l:List UInt8):(str l).size=l.length:=by simp[str,ByteArray.size]
def Tc(s:ByteArray):s.size=s.data.toList.length:=(Array.length_toList).symm
def jb(l:List Int):List Value:=l.map (Value.int .i64)
def Wb(l:List Int):(jb l).length=l.length:=by simp[jb]
def BE(a b:List Int):jb (a++b)=jb a++jb b:=by simp[jb]
def Uc{l:List Int}{x:Int}(h:l[k]?=some x):(jb l)[k]?=some (.int .i64 x):=by simp[jb,h]
def CI(a b:List UInt8):ij (a++b)=ij a++ij b:=by simp[ij]
def Pa(l:List Int):((jb l).all Value.oneCell')=true:=by simp[jb,Value.oneCell']
def qF(l:List ByteArray):List Value:=l.map Value.string
def eu(l:List ByteArray):(qF l).length=l.length:=by simp[qF]
def CM{l:List ByteArray}{x:ByteArray}(h:l[k]?=some x):(qF l)[k]?=some (.string x):=by simp[qF,h]
def oa{l:List α}{x:α}(h:l[k]?=some x):l.take (k+1)=l.take k++[x]:=by rw[List.take_add_one,h];rfl
def ea{l:List α}(h:k<l.length):∃x,l[k]?=some x:=⟨_,D8 h⟩
def Ae(l:List UInt8):Bool:=l.all λc=>decide (c.toNat<128)
def nO(l:List UInt8)(c:UInt8):Ae (l++[c])=(Ae l && decide (c.toNat<128)):=by simp[Ae]
def yV{l:List UInt8}{c:UInt8}(h:l[k]?=some c)(hc:¬c.toNat<128):Ae l=false:=by
 rw[<-P9 (k+1) l,oa h];simp only[Ae,Z5];simp;omega
def Tn{l:List UInt8}(h:Ae l=true){c:UInt8}(hc:l[k]?=some c):c.toNat<128:=by
 have:=u_.1 h c (G' hc);simpa using this
def Td(x:Int):Bool:=decide (0<=x) && decide (x<=127)
def XB(x:Int):UInt8:=UInt8.ofNat x.toNat
def eW(xs:List Int):List UInt8:=if xs.all Td then xs.map XB else[]
def HY(xs:List Int):Int:=if xs.all Td then 0 else 3
def abD{xs:List Int}{x:Int}(hx:xs[k]?=some x)(h:Td x=false):eW xs=[]/\HY xs=3:=by
 have:xs.all Td=false:=by
  cases hc:xs.all Td with
  |false=>rfl
  |true=>rw[u_.1 hc x (G' hx)] at h;cases h
 simp[eW,HY,this]
def Jv{xs:List Int}(h:xs.all Td=true):eW xs=xs.map XB/\HY xs=0:=by simp[eW,HY,h]
def VQ{p:α->Bool}{l:List α}{x:α}(h:l[k]?=some x)(h1:(l.take k).all p=true)(h2:p x=true):(l.take (k+1)).all p=true:=by
 rw[oa h,Z5,h1];simp[h2]
def mX{x:Int}(h:0<=x)(h2:x<=255):IntKind.u8.wrap x=x:=by
 have:IntKind.u8.wrap x=x % 256:=rfl;rw[this];omega
def Dv{x:Int}(h:Td x=true):Value.int .u8 x=.int .u8 (XB x).toNat:=by
 simp only[Td,Q_,K_] at h;congr 1;simp only[XB,j6];omega
def RT{xs:List Int}{x:Int}(hx:xs[k]?=some x)(h:Td x=true):ij ((xs.take k).map XB)++[.int .u8 x]=ij ((xs.take (k+1)).map XB):=by
 rw[oa hx,n_,CI,Dv h];rfl
def ints(l:List UInt8):List Int:=l.map λc=>(c.toNat:Int)
def cj(l:List UInt8):List Int:=if Ae l then ints l else[]
def ah5(l:List UInt8):Int:=(cj l).sum
def jd(l:List UInt8):(ints l).length=l.length:=by simp[ints]
def Zx{l:List UInt8}{c:UInt8}(h:l[k]?=some c):jb (ints (l.take k))++[.int .i64 c.toNat]=jb (ints (l.take (k+1))):=by
 rw[oa h];simp[jb,ints]
def lenOf:Value->Nat|.slice _ n _=>n|_=>0
def il{l:List UInt8}(h:Ae l=true):cj l=ints l:=by simp[cj,h]
def wV{l:List UInt8}(h:Ae l=false):cj l=[]:=by simp[cj,h]
def qW{l:List UInt8}{c:UInt8}(h:l[k]?=some c):(ints l)[k]?=some (c.toNat:Int):=by simp[ints,h]
def qK{l:List UInt8}{x:Int}(h:(cj l)[k]?=some x):0<=x/\x<=127:=by
 unfold cj at h;split at h
 .rename_i hm;simp only[ints,V_,T8] at h;obtain⟨c,hc,rfl⟩:=h;have:=Tn hm hc;omega
 simp at h
def Yi(f:Int->Int->Int)(a b:List UInt8):Option (List Int):=
 if Ae a && (Ae b && decide ((b.length:Int)=a.length)) then some (List.zipWith f (ints a) (ints b)) else none
def mulL(a b:List UInt8):List UInt8×Int:=
 match Yi (· + ·) a b with|some l=>(eW l,HY l)|none=>([],1)
def ahE(a b:List UInt8):List UInt8×Bool:=
 match Yi (· - ·) a b with|some l=>(eW l,decide (HY l=0))|none=>([],false)
def WV{f:Int->Int->Int}{a b:List Int}{x y:Int}(hx:a[k]?=some x)(hy:b[k]?=some y):(List.zipWith f a b)[k]?=some (f x y):=by
 simp[L8,hx,hy]
def kn(f:Int->Int->Int)(a b:List Int)(k:Nat):List Int:=(List.zipWith f a b).take k++b.drop k
def yQ(f:Int->Int->Int)(a b:List Int):kn f a b 0=b:=by simp[kn]
def eZ{f:Int->Int->Int}{a b:List Int}(h:a.length=b.length)(hk:k<=b.length):(kn f a b k).length=b.length:=by
 simp[kn,h];omega
def acs{f:Int->Int->Int}{a b:List Int}(h:a.length=b.length){y:Int}(hy:b[k]?=some y):(kn f a b k)[k]?=some y:=by
 have hk:k<b.length:=(X_.1 hy).1;unfold kn;rw[I9 (by simp[h];omega)];simp[h,C9 (Nat.le_of_lt hk),hy]
def uY{f:Int->Int->Int}{a b:List Int}(h:a.length=b.length){x y:Int}(hx:a[k]?=some x)(hy:b[k]?=some y):
  Hb (jb (kn f a b k)) k [.int .i64 (f x y)]=jb (kn f a b (k+1)):=by
 have hk:k<b.length:=(X_.1 hy).1;have hl:((List.zipWith f a b).take k).length=k:=by simp[h];omega
 have e1:(kn f a b k).take k=(List.zipWith f a b).take k:=(by unfold kn;rw[List.take_append_of_le_length Z',W_ Z']);have e2:(kn f a b k).drop (k+1)=b.drop (k+1):=(by unfold kn;rw[List.drop_append,hl,B8 Z',show k+1-k=1 by omega,u7];simp);simp only[Hb,jb,<-List.map_take,<-J6,E_,g7,C_,e1,e2];unfold kn;rw[oa (WV hx hy)];simp
def MV{f:Int->Int->Int}{a b:List Int}(h:a.length=b.length):kn f a b b.length=List.zipWith f a b:=by
 unfold kn;rw[W_ (by simp[h]),List.drop_length,o_]
def ek{l:List Int}(y:Int)(h:k<l.length):Hb (jb l) (k*1) [.int .i64 y]=jb (l.set k y):=by
 rw[I_,jc (by rw[Wb];exact h)];unfold jb;rw[Z8]
structure KQ(q:Prop):Prop where o:q
variable {l:List Oper}
def giW  (h:WL ro P N ops Q (l) ρ w):WL ro P N ops Q (l) ρ w:=h
variable {c:Code}
def giC  (h:WC ro P N c Q ρ w):WC ro P N c Q ρ w:=h
def giN  (h:WL ro P N ops Q ([]) ρ w):WL ro P N ops Q ([]) ρ w:=h
variable {dd:Option Nat}
def giM  (h:WL ro P N ops Q (⟨dd,.move x,ty,pos,af,none⟩::rest) ρ w):WL ro P N ops Q (⟨dd,.move x,ty,pos,af,none⟩::rest) ρ w:=h
def giA  (h:WL ro P N ops Q (⟨dd,.assign x,ty,pos,af,none⟩::rest) ρ w):WL ro P N ops Q (⟨dd,.assign x,ty,pos,af,none⟩::rest) ρ w:=h
variable {g:Nat×Bool}
def giG  (h:WL ro P N ops Q (⟨dd,op,ty,pos,af,some g⟩::rest) ρ w):WL ro P N ops Q (⟨dd,op,ty,pos,af,some g⟩::rest) ρ w:=h
def giL  (h:WL ro P N ops Q (⟨dd,.load t x,ty,pos,af,none⟩::rest) ρ w):WL ro P N ops Q (⟨dd,.load t x,ty,pos,af,none⟩::rest) ρ w:=h
def giB{b:BinOp}(h:WL ro P N ops Q (⟨dd,.binOp b t x y u,ty,pos,af,none⟩::rest) ρ w):WL ro P N ops Q (⟨dd,.binOp b t x y u,ty,pos,af,none⟩::rest) ρ w:=h
def giD{ps:Array (Nat×Operand)}(h:WL ro P N ops Q (⟨dd,.build t ps,ty,pos,af,none⟩::rest) ρ w):WL ro P N ops Q (⟨dd,.build t ps,ty,pos,af,none⟩::rest) ρ w:=h
def giX  (h:WL ro P N ops Q (⟨dd,.box t x,ty,pos,af,none⟩::rest) ρ w):WL ro P N ops Q (⟨dd,.box t x,ty,pos,af,none⟩::rest) ρ w:=h
def giS  (h:WL ro P N ops Q (⟨dd,.store t x y,ty,pos,af,none⟩::rest) ρ w):WL ro P N ops Q (⟨dd,.store t x y,ty,pos,af,none⟩::rest) ρ w:=h
def gl1{v:Value}(hh:Hp w0 H w)[ht:ya P t n false by' zc](kk:WL ro P N ops Q rest (sc ρ d v) w)(hx:ev ρ x=.pointer (some ⟨b,o,none⟩):=by exact rfl)(hi:HE.blk b t' cs fz∈H:=by repeat (first|exact q'|apply F'))(hv:cs[o]?=some v:=by exact rfl)(hN:d<N:=by decide):WL ro P N ops Q (⟨some d,.load t x,ty,pos,af,none⟩::rest) ρ w:=let⟨_,h⟩:=List.getElem?_of_mem hi;ub ht.out hx (hh.eg h hv) hN kk
def glg(hh:Hp w0 H w)[ht:ya P t n true by' zc](kk:WL ro P N ops Q rest (sc ρ d (.agg vs.toArray)) w)(hx:ev ρ x=.pointer (some ⟨b,o,none⟩):=by exact rfl)(hi:HE.blk b t' cs fz∈H:=by repeat (first|exact q'|apply F'))(hv:(cs.drop o).take n=vs:=by simp only[K8,k7,j7,List.drop_succ_cons,C_,Nat.reduceAdd]<;>rfl)(hl:vs.length=n:=by exact rfl)(hN:d<N:=by decide):WL ro P N ops Q (⟨some d,.load t x,ty,pos,af,none⟩::rest) ρ w:=let⟨_,h⟩:=List.getElem?_of_mem hi;wb ht.out hx (hh.pb h hv) hl hN kk
def gbx{v:Value}(hh:Hp w0 H w)(kk:∀b w',Hp w0 (.blk b t cs (0,0)::H) w'->WL ro P N ops Q rest (sc ρ d (.pointer (some ⟨b,0,none⟩))) w')(hx:ev ρ x=v:=by first|exact Bc rfl|exact rp rfl|exact HC rfl|exact Fo rfl|exact Ld rfl|exact TH rfl|exact Sn rfl|exact PM rfl|exact rv rfl)(hc:v.cells=cs.toArray:=by exact rfl)(hN:d<N:=by decide):WL ro P N ops Q (⟨some d,.box t x,ty,pos,af,none⟩::rest) ρ w:=bW hh hx hc hN kk
variable {H':List HE}
inductive oJ:List HE->HE->HE->List HE->Prop
 |here {x y:HE}{H:List HE}:oJ (x::H) x y (y::H)
 |there {x y z:HE}{H H':List HE} (h:oJ H x y H'):oJ (z::H) x y (z::H')
def oJ.at_{x y:HE}(h:oJ H x y H'):∃i:Nat,H[i]?=some x/\H.set i y=H':=by
 induction h with
 |here=>exact⟨0,rfl,rfl⟩
 |there h ih=>
  obtain⟨i,h1,h2⟩:=ih;exact⟨i+1,h1,by rw[F_,h2]⟩
def gst{cs':List Value}{v:Value}(hh:Hp w0 H w)[ht:ya P t n ag by' zc](kk:∀w',Hp w0 H' w'->WL ro P N ops Q rest ρ w')(hx:ev ρ x=.pointer (some ⟨b,o,none⟩):=by exact rfl)(hy:ev ρ y=v:=by first|exact Bc rfl|exact rp rfl|exact HC rfl|exact Fo rfl|exact Ld rfl|exact TH rfl|exact Sn rfl|exact PM rfl|exact rv rfl)(hc:v.cells=vs.toArray:=by exact rfl)(hm:oJ H (.blk b t' cs fz) (.blk b t' cs' fz) H':=by repeat (first|exact .here|apply oJ.there))(hs:Hb cs o vs=cs':=by simp only[Hb,K8,k7,j7,List.drop_succ_cons,E',C',E_,g7,C_,Nat.reduceAdd]<;>rfl)(hl:vs.length=n:=by exact rfl)(ho:o+n<=cs.length:=by simp)(h1:(vs.all Value.oneCell')=true:=by exact rfl):WL ro P N ops Q (⟨none,.store t x y,ty,pos,af,none⟩::rest) ρ w:=by
 subst hs;obtain⟨i,h2,rfl⟩:=hm.at_;exact Yx hh hx h2 hy hc ht.out hl ho h1 kk
def fa{p q:Prop}(kQ:q)(e:KQ q->p:=by intro kQ;(repeat (first|(refine giW ?_;first|(refine giM ?_;first|refine mI ?_|refine mL ?_|refine mS ?_|refine mB ?_|refine mG ?_|refine mT ?_|refine mP ?_|refine mF ?_|refine Bl (by first|exact Sn rfl|exact rv rfl) U' ?_)|(refine giA ?_;first|refine aI ?_|refine aL ?_|refine aS ?_|refine aB ?_|refine aG ?_|refine aT ?_|refine aP ?_|refine aF ?_|refine ki (by first|exact Sn rfl|exact rv rfl) U' ?_)|(refine giN ?_;first|refine ua ?_|refine Gp ?_)|(refine giG ?_;first|refine gS ?_|refine gT ?_|refine gV ?_|refine uw rfl rfl U' ?_)|refine Hu ?_|(refine giL ?_;first|refine gl1 hh ?_|refine glg hh ?_|refine xm hh 0 ?_|refine xm hh 1 ?_|refine xm hh 2 ?_|refine xm hh 3 ?_|refine xm hh 4 ?_|refine xm hh 5 ?_|refine zl hh 0 [_,_] ?_|refine zl hh 0 [_,_,_] ?_|refine zl hh 0 [_,_,_,_,_,_] ?_|refine zl hh 1 [_,_] ?_|refine zl hh 1 [_,_,_] ?_|refine zl hh 1 [_,_,_,_,_,_] ?_|refine zl hh 2 [_,_] ?_|refine zl hh 2 [_,_,_] ?_|refine zl hh 2 [_,_,_,_,_,_] ?_|refine zl hh 3 [_,_] ?_|refine zl hh 3 [_,_,_] ?_|refine zl hh 3 [_,_,_,_,_,_] ?_|refine zl hh 4 [_,_] ?_|refine zl hh 4 [_,_,_] ?_|refine zl hh 4 [_,_,_,_,_,_] ?_)|(refine giB ?_;first|refine lj ?_|refine Rp ?_|refine Bi ?_|refine WW ?_|refine afr ?_|refine afw ?_|refine qx ?_|refine It ?_|refine mulC ?_|refine qX lb.out rfl rfl U' ?_|refine KJ rfl rfl Z' Z' Z' U' ?_|refine YS rfl rfl Z' Z' U' ?_|refine s_cat rfl rfl (by simp only[yg,Tc];omega) U' ?_)|refine Vq ?_|refine dv ?_|refine pkT ?_|refine pkF ?_|refine CS ?_|refine Nd lb.out ya.size rfl rfl rfl Z' U' ?_|refine zd lb.out ya.size rfl rfl rfl Z' U' ?_|refine Gl lb.out ya.size rfl rfl rfl Z' U' ?_|refine PG lb.out ya.size rfl rfl Z' Z' U' ?_|refine Cu lb.out rfl rfl Z' (by assumption) U' ?_|(refine giD ?_;first|refine NA [_] ?_|refine NA [_,_] ?_|refine NA [_,_,_] ?_|refine NA [_,_,_,_] ?_|refine NA [_,_,_,_,_] ?_|refine NA [_,_,_,_,_,_] ?_|refine NA [_,_,_,_,_,_,_] ?_|refine NA [_,_,_,_,_,_,_,_] ?_|refine NA [_,_,_,_,_,_,_,_,_] ?_|refine NA [_,_,_,_,_,_,_,_,_,_] ?_|refine NA [_,_,_,_,_,_,_,_,_,_,_] ?_|refine NA [_,_,_,_,_,_,_,_,_,_,_,_] ?_)|refine ZI rfl U' ?_|refine Ft lb.out rfl U' ?_|refine aW rfl Z' Z' U' ?_|refine Fl Wd.out rfl U' ?_|refine Hy lb.out lb.out rfl Z' Z' U' ?_|refine QI lb.out lb.out rfl U' ?_|refine VU Wd.out ya.out rfl rfl U' ?_|refine zY Wd.out ya.out rfl rfl U' ?_|refine ad9 rfl rfl U' ?_|refine aeN rfl rfl U' ?_)|(refine giC ?_;first|refine Kb ?_|refine mb ?_|refine cT ?_|refine cF ?_|refine Mc ?_|refine Bn ?_|refine Ol ?_|refine cg ?_|refine TV ?_|refine xS ?_)|refine wc ?_|refine Mz ?_|refine yi ?_|refine Tv ?_|refine FT ?_|refine Lp ?_|refine acC U' ?_|refine yX ?_|refine aa5 ?_|refine EX ?_|refine qa1 ?_|refine qa2 ?_|refine qa3 ?_));exact kQ.o):p:=e ⟨kQ⟩
def OP{p q:Prop}(kQ:q)(e:KQ q->p:=by intro kQ;(first|(refine sw hh ?_;intro b_ w_ hh;revert b_ w_ hh)|(refine giX ?_;(first|refine gbx hh ?_|refine YD hh [_] ?_|refine YD hh [_,_] ?_|refine YD hh [_,_,_] ?_|refine YD hh [_,_,_,_] ?_|refine YD hh [_,_,_,_,_] ?_|refine YD hh [_,_,_,_,_,_] ?_|refine YD hh [_,_,_,_,_,_,_] ?_|refine YD hh [_,_,_,_,_,_,_,_] ?_);intro b_ w_ hh;revert b_ w_ hh)|(refine giS ?_;first|(refine gst hh ?_;intro w_ hh;revert w_ hh)|((first|refine rf hh 0 [_] ?_|refine rf hh 0 [_,_] ?_|refine rf hh 0 [_,_,_] ?_|refine rf hh 0 [_,_,_,_] ?_|refine rf hh 0 [_,_,_,_,_] ?_|refine rf hh 0 [_,_,_,_,_,_] ?_|refine rf hh 0 [_,_,_,_,_,_,_] ?_);intro w_ hh;(first|replace hh:Hp _ (.blk _ _ [_] _::_) _:=hh|replace hh:Hp _ (.blk _ _ [_,_] _::_) _:=hh|replace hh:Hp _ (.blk _ _ [_,_,_] _::_) _:=hh|replace hh:Hp _ (.blk _ _ [_,_,_,_] _::_) _:=hh|replace hh:Hp _ (.blk _ _ [_,_,_,_,_] _::_) _:=hh|replace hh:Hp _ (.blk _ _ [_,_,_,_,_,_] _::_) _:=hh|replace hh:Hp _ (.blk _ _ [_,_,_,_,_,_,_] _::_) _:=hh|replace hh:Hp _ (.blk _ _ [_,_,_,_,_,_,_,_] _::_) _:=hh|replace hh:Hp _ (.blk _ _ [_,_,_,_,_,_,_,_,_] _::_) _:=hh|replace hh:Hp _ (.blk _ _ [_,_,_,_,_,_,_,_,_,_] _::_) _:=hh|replace hh:Hp _ (.blk _ _ [_,_,_,_,_,_,_,_,_,_,_] _::_) _:=hh|replace hh:Hp _ (.blk _ _ [_,_,_,_,_,_,_,_,_,_,_,_] _::_) _:=hh|replace hh:Hp _ (.blk _ _ [_,_,_,_,_,_,_,_,_,_,_,_,_] _::_) _:=hh|replace hh:Hp _ (.blk _ _ [_,_,_,_,_,_,_,_,_,_,_,_,_,_] _::_) _:=hh);revert w_ hh)|((first|refine rf hh 1 [_] ?_|refine rf hh 1 [_,_] ?_|refine rf hh 1 [_,_,_] ?_|refine rf hh 1 [_,_,_,_] ?_|refine rf hh 1 [_,_,_,_,_] ?_|refine rf hh 1 [_,_,_,_,_,_] ?_|refine rf hh 1 [_,_,_,_,_,_,_] ?_);intro w_ hh;(first|replace hh:Hp _ (_::.blk _ _ [_] _::_) _:=hh|replace hh:Hp _ (_::.blk _ _ [_,_] _::_) _:=hh|replace hh:Hp _ (_::.blk _ _ [_,_,_] _::_) _:=hh|replace hh:Hp _ (_::.blk _ _ [_,_,_,_] _::_) _:=hh|replace hh:Hp _ (_::.blk _ _ [_,_,_,_,_] _::_) _:=hh|replace hh:Hp _ (_::.blk _ _ [_,_,_,_,_,_] _::_) _:=hh|replace hh:Hp _ (_::.blk _ _ [_,_,_,_,_,_,_] _::_) _:=hh|replace hh:Hp _ (_::.blk _ _ [_,_,_,_,_,_,_,_] _::_) _:=hh|replace hh:Hp _ (_::.blk _ _ [_,_,_,_,_,_,_,_,_] _::_) _:=hh|replace hh:Hp _ (_::.blk _ _ [_,_,_,_,_,_,_,_,_,_] _::_) _:=hh|replace hh:Hp _ (_::.blk _ _ [_,_,_,_,_,_,_,_,_,_,_] _::_) _:=hh|replace hh:Hp _ (_::.blk _ _ [_,_,_,_,_,_,_,_,_,_,_,_] _::_) _:=hh|replace hh:Hp _ (_::.blk _ _ [_,_,_,_,_,_,_,_,_,_,_,_,_] _::_) _:=hh|replace hh:Hp _ (_::.blk _ _ [_,_,_,_,_,_,_,_,_,_,_,_,_,_] _::_) _:=hh);revert w_ hh)|((first|refine rf hh 2 [_] ?_|refine rf hh 2 [_,_] ?_|refine rf hh 2 [_,_,_] ?_|refine rf hh 2 [_,_,_,_] ?_|refine rf hh 2 [_,_,_,_,_] ?_|refine rf hh 2 [_,_,_,_,_,_] ?_|refine rf hh 2 [_,_,_,_,_,_,_] ?_);intro w_ hh;(first|replace hh:Hp _ (_::_::.blk _ _ [_] _::_) _:=hh|replace hh:Hp _ (_::_::.blk _ _ [_,_] _::_) _:=hh|replace hh:Hp _ (_::_::.blk _ _ [_,_,_] _::_) _:=hh|replace hh:Hp _ (_::_::.blk _ _ [_,_,_,_] _::_) _:=hh|replace hh:Hp _ (_::_::.blk _ _ [_,_,_,_,_] _::_) _:=hh|replace hh:Hp _ (_::_::.blk _ _ [_,_,_,_,_,_] _::_) _:=hh|replace hh:Hp _ (_::_::.blk _ _ [_,_,_,_,_,_,_] _::_) _:=hh|replace hh:Hp _ (_::_::.blk _ _ [_,_,_,_,_,_,_,_] _::_) _:=hh|replace hh:Hp _ (_::_::.blk _ _ [_,_,_,_,_,_,_,_,_] _::_) _:=hh|replace hh:Hp _ (_::_::.blk _ _ [_,_,_,_,_,_,_,_,_,_] _::_) _:=hh|replace hh:Hp _ (_::_::.blk _ _ [_,_,_,_,_,_,_,_,_,_,_] _::_) _:=hh|replace hh:Hp _ (_::_::.blk _ _ [_,_,_,_,_,_,_,_,_,_,_,_] _::_) _:=hh|replace hh:Hp _ (_::_::.blk _ _ [_,_,_,_,_,_,_,_,_,_,_,_,_] _::_) _:=hh|replace hh:Hp _ (_::_::.blk _ _ [_,_,_,_,_,_,_,_,_,_,_,_,_,_] _::_) _:=hh);revert w_ hh)|((first|refine rf hh 3 [_] ?_|refine rf hh 3 [_,_] ?_|refine rf hh 3 [_,_,_] ?_|refine rf hh 3 [_,_,_,_] ?_|refine rf hh 3 [_,_,_,_,_] ?_|refine rf hh 3 [_,_,_,_,_,_] ?_|refine rf hh 3 [_,_,_,_,_,_,_] ?_);intro w_ hh;(first|replace hh:Hp _ (_::_::_::.blk _ _ [_] _::_) _:=hh|replace hh:Hp _ (_::_::_::.blk _ _ [_,_] _::_) _:=hh|replace hh:Hp _ (_::_::_::.blk _ _ [_,_,_] _::_) _:=hh|replace hh:Hp _ (_::_::_::.blk _ _ [_,_,_,_] _::_) _:=hh|replace hh:Hp _ (_::_::_::.blk _ _ [_,_,_,_,_] _::_) _:=hh|replace hh:Hp _ (_::_::_::.blk _ _ [_,_,_,_,_,_] _::_) _:=hh|replace hh:Hp _ (_::_::_::.blk _ _ [_,_,_,_,_,_,_] _::_) _:=hh|replace hh:Hp _ (_::_::_::.blk _ _ [_,_,_,_,_,_,_,_] _::_) _:=hh|replace hh:Hp _ (_::_::_::.blk _ _ [_,_,_,_,_,_,_,_,_] _::_) _:=hh|replace hh:Hp _ (_::_::_::.blk _ _ [_,_,_,_,_,_,_,_,_,_] _::_) _:=hh|replace hh:Hp _ (_::_::_::.blk _ _ [_,_,_,_,_,_,_,_,_,_,_] _::_) _:=hh|replace hh:Hp _ (_::_::_::.blk _ _ [_,_,_,_,_,_,_,_,_,_,_,_] _::_) _:=hh|replace hh:Hp _ (_::_::_::.blk _ _ [_,_,_,_,_,_,_,_,_,_,_,_,_] _::_) _:=hh|replace hh:Hp _ (_::_::_::.blk _ _ [_,_,_,_,_,_,_,_,_,_,_,_,_,_] _::_) _:=hh);revert w_ hh)|((first|refine rf hh 4 [_] ?_|refine rf hh 4 [_,_] ?_|refine rf hh 4 [_,_,_] ?_|refine rf hh 4 [_,_,_,_] ?_|refine rf hh 4 [_,_,_,_,_] ?_|refine rf hh 4 [_,_,_,_,_,_] ?_|refine rf hh 4 [_,_,_,_,_,_,_] ?_);intro w_ hh;(first|replace hh:Hp _ (_::_::_::_::.blk _ _ [_] _::_) _:=hh|replace hh:Hp _ (_::_::_::_::.blk _ _ [_,_] _::_) _:=hh|replace hh:Hp _ (_::_::_::_::.blk _ _ [_,_,_] _::_) _:=hh|replace hh:Hp _ (_::_::_::_::.blk _ _ [_,_,_,_] _::_) _:=hh|replace hh:Hp _ (_::_::_::_::.blk _ _ [_,_,_,_,_] _::_) _:=hh|replace hh:Hp _ (_::_::_::_::.blk _ _ [_,_,_,_,_,_] _::_) _:=hh|replace hh:Hp _ (_::_::_::_::.blk _ _ [_,_,_,_,_,_,_] _::_) _:=hh|replace hh:Hp _ (_::_::_::_::.blk _ _ [_,_,_,_,_,_,_,_] _::_) _:=hh|replace hh:Hp _ (_::_::_::_::.blk _ _ [_,_,_,_,_,_,_,_,_] _::_) _:=hh|replace hh:Hp _ (_::_::_::_::.blk _ _ [_,_,_,_,_,_,_,_,_,_] _::_) _:=hh|replace hh:Hp _ (_::_::_::_::.blk _ _ [_,_,_,_,_,_,_,_,_,_,_] _::_) _:=hh|replace hh:Hp _ (_::_::_::_::.blk _ _ [_,_,_,_,_,_,_,_,_,_,_,_] _::_) _:=hh|replace hh:Hp _ (_::_::_::_::.blk _ _ [_,_,_,_,_,_,_,_,_,_,_,_,_] _::_) _:=hh|replace hh:Hp _ (_::_::_::_::.blk _ _ [_,_,_,_,_,_,_,_,_,_,_,_,_,_] _::_) _:=hh);revert w_ hh)|((first|refine rf hh 5 [_] ?_|refine rf hh 5 [_,_] ?_|refine rf hh 5 [_,_,_] ?_|refine rf hh 5 [_,_,_,_] ?_|refine rf hh 5 [_,_,_,_,_] ?_|refine rf hh 5 [_,_,_,_,_,_] ?_|refine rf hh 5 [_,_,_,_,_,_,_] ?_);intro w_ hh;(first|replace hh:Hp _ (_::_::_::_::_::.blk _ _ [_] _::_) _:=hh|replace hh:Hp _ (_::_::_::_::_::.blk _ _ [_,_] _::_) _:=hh|replace hh:Hp _ (_::_::_::_::_::.blk _ _ [_,_,_] _::_) _:=hh|replace hh:Hp _ (_::_::_::_::_::.blk _ _ [_,_,_,_] _::_) _:=hh|replace hh:Hp _ (_::_::_::_::_::.blk _ _ [_,_,_,_,_] _::_) _:=hh|replace hh:Hp _ (_::_::_::_::_::.blk _ _ [_,_,_,_,_,_] _::_) _:=hh|replace hh:Hp _ (_::_::_::_::_::.blk _ _ [_,_,_,_,_,_,_] _::_) _:=hh|replace hh:Hp _ (_::_::_::_::_::.blk _ _ [_,_,_,_,_,_,_,_] _::_) _:=hh|replace hh:Hp _ (_::_::_::_::_::.blk _ _ [_,_,_,_,_,_,_,_,_] _::_) _:=hh|replace hh:Hp _ (_::_::_::_::_::.blk _ _ [_,_,_,_,_,_,_,_,_,_] _::_) _:=hh|replace hh:Hp _ (_::_::_::_::_::.blk _ _ [_,_,_,_,_,_,_,_,_,_,_] _::_) _:=hh|replace hh:Hp _ (_::_::_::_::_::.blk _ _ [_,_,_,_,_,_,_,_,_,_,_,_] _::_) _:=hh|replace hh:Hp _ (_::_::_::_::_::.blk _ _ [_,_,_,_,_,_,_,_,_,_,_,_,_] _::_) _:=hh|replace hh:Hp _ (_::_::_::_::_::.blk _ _ [_,_,_,_,_,_,_,_,_,_,_,_,_,_] _::_) _:=hh);revert w_ hh)|((first|refine rf hh 6 [_] ?_|refine rf hh 6 [_,_] ?_|refine rf hh 6 [_,_,_] ?_|refine rf hh 6 [_,_,_,_] ?_|refine rf hh 6 [_,_,_,_,_] ?_|refine rf hh 6 [_,_,_,_,_,_] ?_|refine rf hh 6 [_,_,_,_,_,_,_] ?_);intro w_ hh;(first|replace hh:Hp _ (_::_::_::_::_::_::.blk _ _ [_] _::_) _:=hh|replace hh:Hp _ (_::_::_::_::_::_::.blk _ _ [_,_] _::_) _:=hh|replace hh:Hp _ (_::_::_::_::_::_::.blk _ _ [_,_,_] _::_) _:=hh|replace hh:Hp _ (_::_::_::_::_::_::.blk _ _ [_,_,_,_] _::_) _:=hh|replace hh:Hp _ (_::_::_::_::_::_::.blk _ _ [_,_,_,_,_] _::_) _:=hh|replace hh:Hp _ (_::_::_::_::_::_::.blk _ _ [_,_,_,_,_,_] _::_) _:=hh|replace hh:Hp _ (_::_::_::_::_::_::.blk _ _ [_,_,_,_,_,_,_] _::_) _:=hh|replace hh:Hp _ (_::_::_::_::_::_::.blk _ _ [_,_,_,_,_,_,_,_] _::_) _:=hh|replace hh:Hp _ (_::_::_::_::_::_::.blk _ _ [_,_,_,_,_,_,_,_,_] _::_) _:=hh|replace hh:Hp _ (_::_::_::_::_::_::.blk _ _ [_,_,_,_,_,_,_,_,_,_] _::_) _:=hh|replace hh:Hp _ (_::_::_::_::_::_::.blk _ _ [_,_,_,_,_,_,_,_,_,_,_] _::_) _:=hh|replace hh:Hp _ (_::_::_::_::_::_::.blk _ _ [_,_,_,_,_,_,_,_,_,_,_,_] _::_) _:=hh|replace hh:Hp _ (_::_::_::_::_::_::.blk _ _ [_,_,_,_,_,_,_,_,_,_,_,_,_] _::_) _:=hh|replace hh:Hp _ (_::_::_::_::_::_::.blk _ _ [_,_,_,_,_,_,_,_,_,_,_,_,_,_] _::_) _:=hh);revert w_ hh)));exact kQ.o):p:=e ⟨kQ⟩
def Jb{p q:Prop}(kQ:q)(e:KQ q->p:=by intro kQ;refine fa ?_;refine OP ?_;(first|(intro b_ w_ hh;refine fa ?_;revert b_ w_ hh)|(intro w_ hh;refine fa ?_;revert w_ hh));exact kQ.o):p:=e ⟨kQ⟩
def Sb{p q:Prop}(kQ:q)(e:KQ q->p:=by intro kQ;refine fa ?_;refine OP ?_;(first|(intro b_ w_ hh;refine Jb ?_;revert b_ w_ hh)|(intro w_ hh;refine Jb ?_;revert w_ hh));exact kQ.o):p:=e ⟨kQ⟩
def Dm{p q:Prop}(kQ:q)(e:KQ q->p:=by intro kQ;refine fa ?_;refine OP ?_;(first|(intro b_ w_ hh;refine Sb ?_;revert b_ w_ hh)|(intro w_ hh;refine Sb ?_;revert w_ hh));exact kQ.o):p:=e ⟨kQ⟩
def SP{p q:Prop}(kQ:q)(e:KQ q->p:=by intro kQ;refine fa ?_;refine OP ?_;(first|(intro b_ w_ hh;refine Dm ?_;revert b_ w_ hh)|(intro w_ hh;refine Dm ?_;revert w_ hh));exact kQ.o):p:=e ⟨kQ⟩
def gg5{p q:Prop}(kQ:q)(e:KQ q->p:=by intro kQ;refine fa ?_;refine OP ?_;(first|(intro b_ w_ hh;refine SP ?_;revert b_ w_ hh)|(intro w_ hh;refine SP ?_;revert w_ hh));exact kQ.o):p:=e ⟨kQ⟩
def gg6{p q:Prop}(kQ:q)(e:KQ q->p:=by intro kQ;refine fa ?_;refine OP ?_;(first|(intro b_ w_ hh;refine gg5 ?_;revert b_ w_ hh)|(intro w_ hh;refine gg5 ?_;revert w_ hh));exact kQ.o):p:=e ⟨kQ⟩
def gg7{p q:Prop}(kQ:q)(e:KQ q->p:=by intro kQ;refine fa ?_;refine OP ?_;(first|(intro b_ w_ hh;refine gg6 ?_;revert b_ w_ hh)|(intro w_ hh;refine gg6 ?_;revert w_ hh));exact kQ.o):p:=e ⟨kQ⟩
def gg8{p q:Prop}(kQ:q)(e:KQ q->p:=by intro kQ;refine fa ?_;refine OP ?_;(first|(intro b_ w_ hh;refine gg7 ?_;revert b_ w_ hh)|(intro w_ hh;refine gg7 ?_;revert w_ hh));exact kQ.o):p:=e ⟨kQ⟩
def gg9{p q:Prop}(kQ:q)(e:KQ q->p:=by intro kQ;refine fa ?_;refine OP ?_;(first|(intro b_ w_ hh;refine gg8 ?_;revert b_ w_ hh)|(intro w_ hh;refine gg8 ?_;revert w_ hh));exact kQ.o):p:=e ⟨kQ⟩
def ac0{p q:Prop}(kQ:q)(e:KQ q->p:=by intro kQ;refine fa ?_;refine OP ?_;(first|(intro b_ w_ hh;refine gg9 ?_;revert b_ w_ hh)|(intro w_ hh;refine gg9 ?_;revert w_ hh));exact kQ.o):p:=e ⟨kQ⟩
def acS{p q:Prop}(kQ:q)(e:KQ q->p:=by intro kQ;refine fa ?_;refine OP ?_;(first|(intro b_ w_ hh;refine ac0 ?_;revert b_ w_ hh)|(intro w_ hh;refine ac0 ?_;revert w_ hh));exact kQ.o):p:=e ⟨kQ⟩
def ahv{p q:Prop}(kQ:q)(e:KQ q->p:=by intro kQ;refine fa ?_;refine OP ?_;(first|(intro b_ w_ hh;refine acS ?_;revert b_ w_ hh)|(intro w_ hh;refine acS ?_;revert w_ hh));exact kQ.o):p:=e ⟨kQ⟩
def jk{f:FuncId}{ts:Array TypeId}{v:Value}(hc:(callFunc f vs.toArray).run P w=.ok (.value v) w)(ha:Dz ρ args.toList=vs)(hN:d<N)(kk:WL .plain P N ops Q rest (sc ρ d v) w):
  WL .plain P N ops Q (⟨some d,.call ⟨.value (.func f),args,ts⟩,ty,pos,af,none⟩::rest) ρ w:=by
 have hr:(execOp (ev ρ) ⟨some d,.call ⟨.value (.func f),args,ts⟩,ty,pos,af,none⟩).run P w=.ok (.value v) w:=(by have hx:ev ρ (.func f)=.func (.func f) #[] #[]:=rfl;simp only[execOp,resolve,Deferred.ofValue,hx,invoke,rq args ha];simpa using hc);exact Ia rfl rfl hN hr kk
def qj(x y c:Nat)(hc:c<=1)(w:World):(callFunc 310 #[.int .u64 x,.int .u64 y,.int .u64 c]).run prog w=
   .ok (.value (.tuple #[.int .u64 (((x+y+c) % 18446744073709551616:Nat):Int),.int .u64 (((x+y+c)/18446744073709551616:Nat):Int)])) w:=by
 rw[run_callFunc_extern func310 T' T' T' (e:=add64Entry) T',run_add64 x y c Z' Z' Z' Z'];simp only[Result.andThen];congr 5<;>omega
def rU:Array Value->Sem Value:=λargs=>do
 let(x,y,b) <-Extern.MathBitsCarry.three "Sub64" args
 pure (Extern.MathBitsCarry.pair ((x+Extern.MathBitsCarry.m64-y-b) % Extern.MathBitsCarry.m64) (if x<y+b then 1 else 0))
def QJ(x y b:Nat)(hb:b<=1)(w:World):(rU #[.int .u64 x,.int .u64 y,.int .u64 b]).run P w=
   .ok (.tuple #[.int .u64 (((x+18446744073709551616-y-b) % 18446744073709551616:Nat):Int),.int .u64 ((if x<y+b then 1 else 0:Nat):Int)]) w:=by
 have:b=0\/b=1:=Z';obtain rfl|rfl:=this<;>rfl
def nA(x y b:Nat)(hb:b<=1)(w:World):(callFunc 311 #[.int .u64 x,.int .u64 y,.int .u64 b]).run prog w=
   .ok (.value (.tuple #[.int .u64 (((x+18446744073709551616-y-b) % 18446744073709551616:Nat):Int),.int .u64 ((if x<y+b then 1 else 0:Nat):Int)])) w:=by
 rw[run_callFunc_extern func311 T' T' T' (e:=rU) T',QJ x y b hb];rfl
def tu(x y:Nat)(w:World)(hx:x<18446744073709551616)(hy:y<18446744073709551616):Calls prog 316 #[.int .u64 (x:Int),.int .u64 (y:Int)] w λe w'=>e=.returned (.tuple #[.int .u64 ((x*y/18446744073709551616:Nat):Int),.int .u64 ((x*y % 18446744073709551616:Nat):Int)])/\Below w.heap.size w w':=by
 refine da (N:=51) (l:=[.int .u64 (x:Int),.int .u64 (y:Int)]) func316 rfl rfl (by simp) ?_;refine fa ?_;refine mH ?_;refine fa ?_;refine lu ?_;refine fa ?_;refine mH ?_;refine fa ?_;refine lu ?_;refine fa ?_;refine Df rfl rfl U' ?_;refine fa ?_;refine Df rfl rfl U' ?_;refine mI ?_;refine lu ?_;refine Ye rfl rfl U' ?_;refine fa ?_;refine mH ?_;refine fa ?_;refine lu ?_;refine fa ?_;refine Df rfl rfl U' ?_;refine Ye rfl rfl U' ?_;refine fa ?_;refine Df rfl rfl U' ?_;refine mI ?_;refine Ye rfl rfl U' ?_;refine mI ?_;refine lu ?_;refine Ye rfl rfl U' ?_;refine fa ?_;refine Df rfl rfl U' ?_;refine fa ?_;obtain⟨bd,bt,bw,hhi⟩:=Lib.mul64_hi x y hx hy;have ba:=Lib.half_mul_le (a:=x/4294967296) (b:=y/4294967296) Z' Z';have bb:=Lib.half_mul_le (a:=x/4294967296) (b:=y % 4294967296) Z' Z';have bc:=Lib.half_mul_le (a:=x % 4294967296) (b:=y/4294967296) Z' Z';have em:∀z:Nat,z &&& 4294967295=z % 4294967296:=λz=>Nat.and_two_pow_sub_one_eq_mod z 32;simp only[em];have hb:x*y/18446744073709551616<18446744073709551616:=(by rw[D9 Z'];exact R5 hx hy);refine⟨?_,Below.refl _ _⟩;congr 5;rw[h_ bd,h_ (show x/4294967296*(y % 4294967296)<18446744073709551616 by omega),h_ bt,h_ (show x % 4294967296*(y/4294967296)<18446744073709551616 by omega),h_ bw,h_ (show x/4294967296*(y/4294967296)<18446744073709551616 by omega)];have key:∀A T V:Nat,A+T+V<18446744073709551616->((A+T) % 18446744073709551616+V) % 18446744073709551616=A+T+V:=by intro A T V h;omega
 rw[<-hhi] at hb |-;exact J_ Nat.cast (key _ _ _ hb)
def uh{x:Nat}(hm:2^k=m)(h:m<=x):Sa x=k+Sa (x/m):=by
 subst hm;have h0:x/2^k≠0:=(by have:=(Nat.div_pos_iff (a:=x) (b:=2^k)).2 ⟨r_ Z',h⟩;omega);have h1:=Tb (x/2^k);have h2:=uC h0;have h3:=En h0;have h4:=E9 x (2^k);have h5:=B_ x (r_ (n:=k) (show 0<2 by omega));apply oC
 .rw[D_];have:2^k*(x/2^k+1)<=2^k*2^Sa (x/2^k):=k_ _ h1;rw[O8] at this;omega
 have e:k+Sa (x/2^k)-1=k+(Sa (x/2^k)-1):=Z';rw[e,D_];have:2^k*2^(Sa (x/2^k)-1)<=2^k*(x/2^k):=k_ _ h2;omega
def Qj{T:ByteArray}(hT:T.data.toList=(List.range 256).map λn=>UInt8.ofNat (Sa n))(h:n<256):∃c:UInt8,T.data.toList[n]?=some c/\c.toNat=Sa n/\Sa n<=8:=by
 have hb:Sa n<=8:=Dc Z';refine⟨UInt8.ofNat (Sa n), ?_, ?_,hb⟩
 .rw[hT,V_,z9 h];rfl
 rw[j6];omega
def rG(x:Nat)(w:World)(hx:x<18446744073709551616):Calls prog 319 #[.int .u64 (x:Int)] w λe w'=>e=.returned (.int .i64 (Sa x))/\Below w.heap.size w w':=by
 refine da (N:=25) (l:=[.int .u64 (x:Int)]) func319 rfl rfl (by simp) ?_;by_cases h32:4294967296<=x
 .have:=uh (x:=x) (k:=32) (m:=4294967296) rfl h32;refine sr (aI (ua (mb (sr (mI ?_)))));refine It (ua (cT (sr (mI ?_))));refine lu ?_;refine aI (ua (Kb (aI (ua (mb (sr (mI ?_)))))));by_cases h16:65536<=(x/4294967296)
  .have:=uh (x:=(x/4294967296)) (k:=16) (m:=65536) rfl h16;refine It (ua (cT (sr (mI ?_))));refine Kl (s:=16) (m:=65536) rfl rfl U' U' U' ?_;refine aI (ua (Kb (mI ?_)));refine lj (aI (ua (mb (sr (mI ?_)))));by_cases h8:256<=((x/4294967296)/65536)
   .have:=uh (x:=((x/4294967296)/65536)) (k:=8) (m:=256) rfl h8;refine It (ua (cT (sr (mI ?_))));refine KL ?_;refine aI (ua (Kb (mI ?_)));refine lj (aI (ua (sr (mI (mI ?_)))));refine Sk ?_;obtain⟨cc,hcc,hcv,hcb⟩:=Qj (T:=_) T' (n:=(((x/4294967296)/65536)/256)) Z';exact xF
   refine KM ?_;refine Sk ?_;obtain⟨cc,hcc,hcv,hcb⟩:=Qj (T:=_) T' (n:=(((x/4294967296)/65536))) Z';exact xF
  refine It (ua (cF (Mc (wc (mb (sr (mI ?_)))))));by_cases h8:256<=((x/4294967296))
  .have:=uh (x:=((x/4294967296))) (k:=8) (m:=256) rfl h8;refine It (ua (cT (sr (mI ?_))));refine KL ?_;refine aI (ua (Kb (mI ?_)));refine lj (aI (ua (sr (mI (mI ?_)))));refine Sk ?_;obtain⟨cc,hcc,hcv,hcb⟩:=Qj (T:=_) T' (n:=(((x/4294967296))/256)) Z';exact xF
  refine KM ?_;refine Sk ?_;obtain⟨cc,hcc,hcv,hcb⟩:=Qj (T:=_) T' (n:=(((x/4294967296)))) Z';exact xF
 refine sr (aI (ua (mb (sr (mI ?_)))));refine It (ua (cF (Mc (wc (mb (sr (mI ?_)))))));by_cases h16:65536<=(x)
 .have:=uh (x:=(x)) (k:=16) (m:=65536) rfl h16;refine It (ua (cT (sr (mI ?_))));refine Kl (s:=16) (m:=65536) rfl rfl U' U' U' ?_;refine aI (ua (Kb (mI ?_)));refine lj (aI (ua (mb (sr (mI ?_)))));by_cases h8:256<=((x)/65536)
  .have:=uh (x:=((x)/65536)) (k:=8) (m:=256) rfl h8;refine It (ua (cT (sr (mI ?_))));refine KL ?_;refine aI (ua (Kb (mI ?_)));refine lj (aI (ua (sr (mI (mI ?_)))));refine Sk ?_;obtain⟨cc,hcc,hcv,hcb⟩:=Qj (T:=_) T' (n:=(((x)/65536)/256)) Z';exact xF
  refine KM ?_;refine Sk ?_;obtain⟨cc,hcc,hcv,hcb⟩:=Qj (T:=_) T' (n:=(((x)/65536))) Z';exact xF
 refine It (ua (cF (Mc (wc (mb (sr (mI ?_)))))));by_cases h8:256<=((x))
 .have:=uh (x:=((x))) (k:=8) (m:=256) rfl h8;refine It (ua (cT (sr (mI ?_))));refine KL ?_;refine aI (ua (Kb (mI ?_)));refine lj (aI (ua (sr (mI (mI ?_)))));refine Sk ?_;obtain⟨cc,hcc,hcv,hcb⟩:=Qj (T:=_) T' (n:=(((x))/256)) Z';exact xF
 refine KM ?_;refine Sk ?_;obtain⟨cc,hcc,hcv,hcb⟩:=Qj (T:=_) T' (n:=(((x)))) Z';exact xF
def nq(x:Nat)(w:World)(hx:x<18446744073709551616):Calls prog 303 #[.int .u64 (x:Int)] w λe w'=>e=.returned (.int .i64 (64-(Sa x:Int)))/\Below w.heap.size w w':=by
 have hh:=Hp.start w;have hb:Sa x<=64:=Dc (by simpa using hx);refine da (N:=6) (l:=[.int .u64 (x:Int)]) func303 rfl rfl (by simp) ?_;refine fa ?_;refine Oa hh (rG _ _ hx) rfl ?_;intro w4 hh;refine fa ?_;exact⟨rfl,hh.below⟩
def tz(n:Nat):Nat:=Int.trailingZeros (n:Int)
def ZK(k m:Nat):tz (2^k*(2*m+1))=k:=by
 have h:=Int.trailingZeros_shiftLeft (x:=2*(m:Int)+1) Z' k;rw[Int.trailingZeros_two_mul_add_one,Int.shiftLeft_eq] at h;unfold tz;have e:((2^k*(2*m+1):Nat):Int)=(2*(m:Int)+1)*2^k:=(by rw[m9,Int.natCast_pow,q6];rfl);rw[e];have e2:(((2^k:Nat)):Int)=2^k:=by simp
 rw[<-e2] at h |-;simpa using h
def Gv(h:n≠0):∃m,n=2^tz n*(2*m+1):=by
 have:∀b n:Nat,n<=b->n≠0->∃k m,n=2^k*(2*m+1):=by
  intro b
  induction b with
  |zero=>intro n h1 h2;omega
  |succ b ih=>
   intro n h1 h2;obtain h|h:=Nat.mod_two_eq_zero_or_one n
   .obtain⟨k,m,hk⟩:=ih (n/2) Z' Z';exact⟨k+1,m,by rw[i_,G_ (2^k),J9,<-hk];omega⟩
   exact⟨0,n/2,Z'⟩
 obtain⟨k,m,hk⟩:=this n n (j' _) h;exact⟨m,by rw[hk,ZK]⟩
def Qz(h:n≠0)(hn:n<2^k):tz n<k:=by
 obtain⟨m,hm⟩:=Gv h;obtain h1|h1:=Y9 (tz n) k
 .exact h1
 have h2:2^k<=2^tz n:=m_ Z' h1;have h3:2^tz n*1<=2^tz n*(2*m+1):=k_ _ Z';omega
def UF(m m' j:Nat)(h:m+m'+1=2^j):(2*m+1) &&& (2*m'+1)=1:=by
 apply Nat.eq_of_testBit_eq;intro i;rw[Nat.testBit_and]
 cases i with
 |zero=>simp
 |succ i=>
  rw[Nat.testBit_succ,Nat.testBit_succ,Nat.testBit_succ];have e1:(2*m+1)/2=m:=Z';have e2:(2*m'+1)/2=m':=Z';have e3:m'=2^j-(m+1):=Z';rw[e1,e2,e3,Nat.testBit_two_pow_sub_succ Z']
  cases hi:m.testBit i<;>simp
def JW{x:Nat}(hx:x=2^k*(2*m+1))(hlt:x<18446744073709551616):x &&& (18446744073709551616-x) % 18446744073709551616=2^k:=by
 have hW:(18446744073709551616:Nat)=2^64:=by decide
 have hk:k<64:=(by have:=Qz (n:=x) (k:=64) (by rw[hx];exact Nat.mul_ne_zero (Nat.pos_iff_ne_zero.1 (r_ Z')) Z') (by rw[<-hW];exact hlt);rwa[hx,ZK] at this);have hp:(18446744073709551616:Nat)=2^k*(2*2^(63-k)):=by rw[hW,<-Nat.pow_succ',<-D_];congr 1;omega
 have hm:m<2^(63-k):=(by rw[hx,hp] at hlt;have:=Nat.lt_of_mul_lt_mul_left hlt;omega);have e:(18446744073709551616-x) % 18446744073709551616=2^k*(2*(2^(63-k)-(m+1))+1):=(by have h1:2*(2^(63-k)-(m+1))+1=2*2^(63-k)-(2*m+1):=Z';rw[h1,Nat.mul_sub,<-hp,<-hx,h_];have:0<2^k*(2*m+1):=H7 (r_ Z') Z';omega);rw[e,hx];have h2:=UF m (2^(63-k)-(m+1)) (63-k) Z';have h3:=J_ (· <<<k) h2;rw[Nat.shiftLeft_and_distrib] at h3;simp only[Nat.shiftLeft_eq,Y7] at h3;rw[G_ (2^k),G_ (2^k)];exact h3
def gK:List Nat:=[0,1,56,2,57,49,28,3,61,58,42,50,38,29,17,4,62,47,59,36,45,43,51,22,53,39,33,30,24,18,12,5,63,55,48,27,60,41,37,16,46,35,44,21,52,32,23,11,54,26,40,15,34,20,31,10,25,14,19,9,13,8,7,6]
def Sc(w:World):Prop:=Rd w ⟨0,0,none⟩ (Kg gK)
def Sc.ext(h:Sc w)(hb:Below w.heap.size w w'):Sc w':=Rd.ext h hb
def Sc.hp(h:Sc w)(hh:Hp w H w'):Sc w':=Rd.ext h hh.below
def abj:∀k:Fin 64,gK[2^k.val*285870213051353865 % 18446744073709551616/288230376151711744]?=some k.val/\2^k.val*285870213051353865 % 18446744073709551616/288230376151711744<64:=by decide+kernel
def FH(x:Nat)(w:World)(hx:x<18446744073709551616)(h0:x≠0)(hT:Sc w):Calls prog 252 #[.int .u64 (x:Int)] w λe w'=>e=.returned (.int .i64 (tz x))/\Below w.heap.size w w':=by
 have hh:=Hp.start w;obtain⟨m,hm⟩:=Gv h0;have hk:tz x<64:=Qz h0 (by simpa using hx);have ha:=JW hm hx;obtain⟨t1,t2⟩:=abj ⟨tz x,hk⟩;simp only at t1 t2;have hc:=(show Rd w _ _ from hT).aw (yp t1);refine da (N:=14) (l:=[.int .u64 (x:Int)]) func252 rfl rfl (by simp) ?_;refine fa ?_;refine JT rfl (by first|assumption|omega) U' ?_;refine TI rfl rfl hx (B_ _ U') U' ?_;rw[ha];skip;refine Df (b:=285870213051353865) rfl rfl U' ?_;refine Kl (s:=58) (m:=288230376151711744) rfl rfl U' U' U' ?_;refine WH lb.out ya.size rfl rfl rfl Z' U' ?_;refine ub ya.out rfl (hc) U' ?_;refine fa ?_;exact⟨rfl,hh.below⟩
end Go.Proofs.YtbencocchdpikaaGreatDoor
