/- The row and the card of BernParts. -/
import Derived.Test.YtolamocnngihpaaGreatDoorCards
import Derived.Test.YtolamocnngihpaaGreatDoorTie
import Derived.SevenTiedAt
import Derived.Test.YtolamocnngihpaaGreatDoorZ7
namespace Go.Proofs.YtolamocnngihpaaGreatDoor
open Go.RowKit
def iC (fx:FX) (ax sd:Int):Int:=if ej fx ax≠0 then ej fx ax else if sd=0∨sd=1 then 0 else 1
theorem KR (fx:FX) (ax sd:Int) (k:Nat) (w:World) (hT:er w) (hf:fx.at_ w) (hl:fx.km k) (hE:iC fx ax sd≠0):
  Calls Tryz.prog 16 #[.agg #[.slice fx.A fx.n fx.a,.slice fx.B fx.m fx.b],.int .i64 ax,.int .i64 sd] w fun r w'=>r=.returned (.tuple #[.agg #[.slice none 0 0,.slice none 0 0],.int .i64 (iC fx ax sd)])∧Below w.heap.size w w':=by
 have hh:=Hp.start w;have hhas:=fun w1 hT1 hb=>oK fx ax k w1 hT1 (hf.ext hb) hl;unfold iC at hE ⊢;generalize ej fx ax=C at*;refine aj (N:=70) (l:=[.agg #[.slice fx.A fx.n fx.a,.slice fx.B fx.m fx.b],.int .i64 ax,.int .i64 sd]) Tryz.func16 rfl rfl (by simp) ?_;refine sr ?_;refine bV hh [_,_] ?_;intro b3 w3 hh;refine bJ hh ?_;intro b6 w6 hh;refine aI (aa (ah (sr ?_)));refine bY hh 1 [_,_] (mI ?_);refine Bd ?_;intro w15 hh;by_cases hC:C=0
 ·subst hC;rw [V6 (fun c=>c rfl)] at hE ⊢;by_cases hs:sd=0∨sd=1
  ·rw [V5 hs] at hE;exact absurd rfl hE
  ·rw [V6 hs];have h1:sd≠0:=fun c=>hs (.inl c);have h2:sd≠1:=fun c=>hs (.inr c);refine aI (aa (sr (mI ?_)));refine mg ?_;refine cY (mB (gT (mI (gT ?_))));refine cY ?_;refine fi ?_;exact Lf
 ·rw [V5 hC];exact Ll
variable {K:Value→World→Prop}{N b base by' c c' j k m n:Nat}{P:Program}{S:World→World→Prop}{W W' w w' w0 ws:World}{ag:Bool}{cs news xs zc:List Value}{o:Oper}{ops:Array Oper}{pos:String}{pv:Nat→VP}{ρ:Rf}
section
variable {D:List Deferred}
section
variable {P:Program}{N:Nat}{Q:Kq}{ρ:Rf}{w:World}
def RK (k:Nat) (S:World→World→Prop) (i:Nat) (w w':World):Prop:=if i=k then S w w' else Below w.heap.size w w'
theorem UC {i:Nat}{J:World→Prop} (hJ:∀w w',J w→Below w.heap.size w w'→J w') (hJS:∀w w',J w→S w w'→J w') (h:J w) (hr:RK k S i w w'):J w':=by
 unfold RK at hr;split at hr
 ·exact hJS _ _ h hr
 ·exact hJ _ _ h hr
theorem Mk {i:Nat} (hSz:∀w w',S w w'→w.heap.size≤w'.heap.size) (hr:RK k S i w w'):w.heap.size≤w'.heap.size:=by
 unfold RK at hr;split at hr
 ·exact hSz _ _ hr
 ·exact hr.size
def M8:List Nat→(Nat→VP)→Nat→VP
 |[],V=>V
 |x::r,V=>dK (M8 r V) x fun _ _=>True
theorem Fo {V:Nat→VP}{i:Nat}{v:Value}{w:World}:∀{X:List Nat},(i∉X→V i v w)→M8 X V i v w
 |[],h=>h (fun h=>by cases h)
 |x::r,h=>by
  by_cases e:i=x
  ·subst e;show dK _ _ _ _ _ _;rw [y5]
   trivial
  ·show dK _ _ _ _ _ _;rw [lN _ _ e];exact Fo fun h2=>h fun h3=>(Wp.1 h3).elim e h2
def C4 (m k:Nat) (X Y M:List Nat) (src:List (List (Nat×Option Nat))):Bool:=
 decide (k<m) && ((List.range m).all fun i=>(src.getD i []).all fun p=>match p.2 with|some j=> !X.contains j||i==k||(M.getD k 0).testBit i|none=>true) &&
 (List.range m).all fun j=>X.contains j||Y.contains j||j==k||(M.getD j 0).testBit k
def T2 (P:Program) (ops:Array Oper) (J:World→Prop) (V:Nat→Value→World→Prop) (R:Nat→World→World→Prop) (ρ:Rf):Nat→List Oper→List (List (Nat×Option Nat))→Prop
 |i,o::os,s::ss=>((∀v w w',V i v w→Below w.heap.size w w'→V i v w')∧∀ρ1 w1,J w1→cZ V ρ ρ1 w1 s→OG P ops o ρ1 w1 fun v w2=>R i w1 w2∧V i v w2)∧T2 P ops J V R ρ (i+1) os ss
 |_,[],[]=>True
 |_,_,_=>False
theorem KG {ops:Array Oper}{J:World→Prop}{V:Nat→Value→World→Prop}{R:Nat→World→World→Prop}:∀(l:List Oper) (ss:List (List (Nat×Option Nat))) (i:Nat),T2 P ops J V R ρ i l ss→l.length=ss.length∧∀k o,l[k]?=some o→∃s,ss[k]?=some s∧
  (∀v w w',V (i+k) v w→Below w.heap.size w w'→V (i+k) v w')∧∀ρ1 w1,J w1→cZ V ρ ρ1 w1 s→OG P ops o ρ1 w1 fun v w2=>R (i+k) w1 w2∧V (i+k) v w2
 |[],[],_,_=>⟨rfl,fun k o h=>by simp at h⟩
 |[],_::_,_,h=>h.elim
 |_::_,[],_,h=>h.elim
 |o::l,s::ss,i,h=>by
  obtain ⟨h1,h2⟩:=KG l ss (i+1) h.2;refine ⟨by simp [h1],fun k o' hk=> ?_⟩
  cases k with
  |zero=>
   simp only [YI,XN] at hk;subst hk;exact ⟨s,rfl,h.1⟩
  |succ k=>
   obtain ⟨s',hs,h3⟩:=h2 k o' (by simpa using hk);refine ⟨s',by simpa using hs, ?_⟩;have e:i+1+k=i+(k+1):=VZ;rw [e] at h3;exact h3
structure U3 (D:List Deferred) (fr:List Nat) (N:Nat) (ops:Array Oper) (m k0:Nat) (X:List Nat) (ρ:Rf) (J:World→Prop) (V:Nat→Value→World→Prop) (L:Array Bool) (a:Act) (w:World):Prop where
 nd:a.defers=D
 sz:a.tmps.size=N
 j:J w
 ls:L.size=ops.size
 cl:pd ops L
 tl:∀k,m≤k→L.getD k false=false
 vs:∀i d,i<m→L.getD i false=true→(ops[i]?).bind (·.dst)=some d→(i∈X→L.getD k0 false=false)→V i (a.tmps.getD d undef) w
 H8:∀s,(∀i,i<m→L.getD i false=true→(ops[i]?).bind (·.dst)≠some s)→a.tmps.getD s undef=ρ s
 fb:∀i∈fr,L.getD i false=true→∀d,(ops[i]?).bind (·.dst)=some d→∃b,a.tmps.getD d undef=.pointer (some ⟨b,0,none⟩)∧b<w.heap.size
 fd:∀i∈fr,∀j∈fr,i≠j→L.getD i false=true→L.getD j false=true→∀d e,(ops[i]?).bind (·.dst)=some d→(ops[j]?).bind (·.dst)=some e→a.tmps.getD d undef≠a.tmps.getD e undef
theorem Jp {id:Nat}{l:List Oper} (fr fl M:List Nat) (m k0:Nat) (X Y:List Nat) (S:World→World→Prop) (src:List (List (Nat×Option Nat))) (ds:List (Nat×Nat)) (J:World→Prop) (V:Nat→Value→World→Prop) (hm:P.follows .mixedOrders=true) (hok:nH l m N src ds fl M=true) (hkl:C4 m k0 X Y M src=true) (hfr:td P l fr) (hfm:fr.all (fun i=>i<m)=true) (hQp:NP Q)
  (hJ:∀w w',J w→Below w.heap.size w w'→J w') (hJS:∀w w',J w→S w w'→J w') (hSz:∀w w',S w w'→w.heap.size≤w'.heap.size) (h0:J w) (hops:T2 P l.toArray J V (RK k0 S) ρ 0 (l.take m) src) (hY:∀j,j∈Y→∀v w w',V j v w→S w w'→V j v w')
  (tail:∀f w',J w'→vw (M8 X V) f w' ds→(∀i∈fr,∀j∈fr,i≠j→f i≠f j)→WL ⟨none,D,false⟩ P N l.toArray Q (l.drop m) (kZ ρ f ds) w'):WC ⟨none,D,false⟩ P N (.region id l.toArray true) Q ρ w:=by
 refine WC.mY fun a hf=>wp_region_any hm ?_;simp only [nH,Wm,Wt,Xy,Wq,Xn] at hok;obtain ⟨⟨⟨⟨⟨⟨⟨⟨⟨⟨⟨⟨⟨hml,_⟩,hds⟩,hnd⟩,hdN⟩,hrd⟩,htail⟩,hready⟩,hend⟩,hdep⟩,hedge⟩,hns⟩,hflo⟩,hM⟩:=hok;have hfl:=fun i hi=>wO (hflo i hi);have hdo:=(KG _ _ _ hops).2;unfold C4 at hkl;simp only [Wm,Wt,Wq,Xn] at hkl;obtain ⟨⟨hkm,hkr⟩,hky⟩:=hkl;have hXr:∀i,i<m→∀s,src[i]?=some s→∀p∈s,∀j,p.2=some j→j∈X→i=k0∨(M.getD k0 0).testBit i=true:=fun i hi s hs p hp j hj hX=>by
  have h1:=hkr i hi;rw [Xl,hs] at h1;have h2:=h1 p hp;rw [hj] at h2;simp only [X4,Za,ZD,Xy,Yo] at h2
  rcases h2 with (h2|h2)|h2
  ·exact absurd hX h2
  ·exact .inl h2
  ·exact .inr h2
 have hpre:∀i d,i<m→((l.toArray[i]?).bind (·.dst))=some d→(i,d)∈ds:=fun i d hi hd=>by
  exact Mu
 have hdsm:∀i d,(i,d)∈ds→i<m∧((l.toArray[i]?).bind (·.dst))=some d:=fun i d hp=>by
  exact NG
 have hone:∀i j d,i<m→j<m→((l.toArray[i]?).bind (·.dst))=some d→((l.toArray[j]?).bind (·.dst))=some d→i=j:=fun i j d hi hj h1 h2=>by
  exact NV
 have hnn:l.toArray.size=l.length:=by simp
 have hfm':∀i∈fr,i<m:=fun i hi=>by simpa using Wq.1 hfm i hi
 have full:∀(L:Array Bool) (a:Act) (w:World) (fuel:Nat),U3 D fr N l.toArray m k0 X ρ J V L a w→(∀i,i<m→L.getD i false=true)→l.length≤fuel+m→wpAny P .any l.toArray (dw N D Q) fuel L a w:=by
  intro L a w fuel hI hall hfu;have hL:L=iY l.length m:=sO (by rw [hI.ls,hnn]) hml hall hI.tl;rw [hL];refine mr m (fun k h1 h2=> ?_) hend fuel m a w (V9 _) hml hfu ?_
  ·exact Ls
  ·have hfits:eA N D a (kZ ρ (fun i=>match (l.toArray[i]?).bind (·.dst) with|some d=>a.tmps.getD d undef|none=>undef) ds):=by
    exact Ru
   refine (tail _ w hI.j (qp ds fun p hp=> ?_) fun i hi j hj hij=> ?_).out a hfits
   rotate_left
   ·exact Sk
   obtain ⟨h1,h2⟩:=hdsm p.1 p.2 hp;refine Fo fun hX=> ?_;have:=hI.vs p.1 p.2 h1 (hall _ h1) h2 (fun h=>absurd h hX);rw [h2];exact this
 have key:∀(fuel:Nat) (L:Array Bool) (a:Act) (w:World),U3 D fr N l.toArray m k0 X ρ J V L a w→fuel+L.toList.countP (fun b=>b)=l.length→wpAny P .any l.toArray (dw N D Q) fuel L a w:=by
  intro fuel
  induction fuel with
  |zero=>
   exact R1
  |succ fuel ih=>
   intro L a w hI hc;by_cases hall:∀i,i<m→L.getD i false=true
   ·exact R5
   ·have hsome:∃i,i<m∧L.getD i false=false:=by
     exact Rz
    have hready_spec:∀i,i∈Region.ready .any l.toArray L↔i<l.length∧L.getD i true=false∧∃o,l.toArray[i]?=some o∧∀e∈o.after,Region.binds .any e=true→L.getD e.on false=true:=fun i=>by
     exact Nk
    have both:∀(i:Nat) (_:i<m) (o:Oper) (_:l.toArray[i]?=some o) (_:L.getD i false=false) (_:∀e∈o.after,Region.binds .any e=true→L.getD e.on false=true),
      OG P l.toArray o (fun t=>a.tmps.getD t undef) w (fun v w2=>RK k0 S i w w2∧V i v w2)∧
      ∀v w2,(RK k0 S i w w2∧V i v w2)→(i∈fr→∃b,v=.pointer (some ⟨b,0,none⟩)∧w.heap.size≤b∧b<w2.heap.size)→wpAny P .any l.toArray (dw N D Q) fuel (L.setIfInBounds i true) (a.put o.dst v) w2:=fun i him o ho hun' hed=>by
     have hiL:i<L.size:=by rw [hI.ls,hnn];omega
     have hed':∀o',l.toArray[i]?=some o'→∀e∈o'.after,Region.binds .any e=true→L.getD e.on false=true:=fun o' ho'=>by
      rw [ho] at ho';injection ho' with ho';subst ho';exact hed
     have hok':(l.take m)[i]?=some o:=by
      rw [XF,V5 him];simpa using ho
     obtain ⟨s,hs,hstab,hog⟩:=hdo i o hok';rw [Ws] at hstab hog;have hrdi:=hrd i him;rw [ho,hs] at hrdi;simp only [Wm,Wq] at hrdi;have hro:cZ V ρ (fun t=>a.tmps.getD t undef) w s:=nS s fun p hp=>by
      have hp2:=hrdi.2 p hp
      cases hp3:p.2 with
      |some j=>
       rw [hp3] at hp2;simp only [Wm,Wt,Xy] at hp2;refine hI.vs j p.1 hp2.1.1 (gk hM hI.cl i j hed' hp2.2) hp2.1.2 fun hX=> ?_
       rcases hXr i him s hs p hp j hp3 hX with rfl|hd
       ·exact hun'
       ·cases hc9:L.getD k0 false with
        |false=>rfl
        |true=>
         have h8:=gk hM hI.cl k0 i (fun o' ho' e he hb=>hI.cl k0 o' ho' hc9 e he hb) hd;rw [hun'] at h8
         cases h8
      |none=>
       rw [hp3] at hp2;refine hI.H8 p.1 fun j hj hjl hjd=> ?_;have h6:=Wq.1 hp2 j (by simpa using hj);rw [hjd] at h6;simp only [beq_self_eq_true,Y1,W4,Wm] at h6;have:=gk hM hI.cl j i (fun o' ho' e he hb=>hI.cl j o' ho' hjl e he hb) h6.2;rw [hun'] at this
       cases this
     have hnext:∀v w2,(RK k0 S i w w2∧V i v w2)→(i∈fr→∃b,v=.pointer (some ⟨b,0,none⟩)∧w.heap.size≤b∧b<w2.heap.size)→wpAny P .any l.toArray (dw N D Q) fuel (L.setIfInBounds i true) (a.put o.dst v) w2:=fun v w2 hv hfv=>by
      have hd1:∀d',o.dst=some d'→d'<a.tmps.size:=fun d' hd'=>by
       rw [hI.sz];exact hdN (i,d') (hpre i d' him (by rw [ho];exact hd'))
      have hput:∀j d,j<m→j≠i→(l.toArray[j]?).bind (·.dst)=some d→(a.put o.dst v).tmps.getD d undef=a.tmps.getD d undef:=fun j d hj hji hjd=>by
       cases hod:o.dst with
       |none=>rfl
       |some d'=>rw [dr (hd1 d' hod),V6 fun e=>hji (hone j i d hj him hjd (by rw [ho,e];exact hod))]
      have hputi:∀d,(l.toArray[i]?).bind (·.dst)=some d→(a.put o.dst v).tmps.getD d undef=v:=fun d hd=>by
       rw [ho] at hd;simp only [X2] at hd;rw [hd,dr (hd1 d hd),V5 rfl]
      have hfd:∀j∈fr,j≠i→L.getD j false=true→i∈fr→∀e,(l.toArray[j]?).bind (·.dst)=some e→a.tmps.getD e undef≠v:=fun j hj hji hjl hif e hje heq=>by
       obtain ⟨b,hb1,hb2⟩:=hI.fb j hj hjl e hje;obtain ⟨b',hv1,hb3,_⟩:=hfv hif;rw [hb1,hv1] at heq;injection heq with heq
       injection heq with heq
       injection heq with heq
       omega
      refine ih _ _ _ ?_ ?_
      ·refine ⟨?_, ?_,UC hJ hJS hI.j hv.1,by simpa using hI.ls, ?_, ?_, ?_, ?_, ?_, ?_⟩
       ·cases o.dst<;>exact hI.nd
       ·cases hod:o.dst with
        |none=>exact hI.sz
        |some d=>simpa [Act.put] using hI.sz
       ·intro k ok hk hkl e he hb;rw [cJ hiL] at hkl ⊢;by_cases hki:k=i
        ·subst hki;simp [hed' ok hk e he hb]
        ·simp only [hki,decide_false,W4] at hkl;simp [hI.cl k ok hk hkl e he hb]
       ·intro k hk;rw [cJ hiL,hI.tl k hk];have:¬k=i:=VZ;simp [this]
       ·intro j d hj hjl hjd hX;rw [cJ hiL] at hjl;rw [cJ hiL] at hX;have hd1:∀d',o.dst=some d'→d'<a.tmps.size:=fun d' hd'=>by
         rw [hI.sz];exact hdN (i,d') (hpre i d' him (by rw [ho];exact hd'))
        by_cases hji:j=i
        ·subst hji;rw [ho] at hjd;simp only [X2] at hjd;rw [hjd,dr (hd1 d hjd),V5 rfl];exact hv.2
        ·simp only [hji,decide_false,W4] at hjl;have hX2:j∈X→i≠k0∧L.getD k0 false=false:=fun h=>by
          have h8:=hX h;rw [Bool.or_eq_false_iff,Yo] at h8;exact ⟨fun e=>h8.1 e.symm,h8.2⟩
         have hold:=hI.vs j d hj hjl hjd fun h=>(hX2 h).2;have hdj:(j,d)∈ds:=hpre j d hj hjd;have hst:=(hdo j (l.toArray[j]?.getD default) (by
          have:j<l.length:=VZ;rw [XF,V5 hj];simp [this])).choose_spec.2.1
         rw [Ws] at hst;replace hst:∀v w w',V j v w→RK k0 S i w w'→V j v w':=fun v w w' h1 h2=>by
          unfold RK at h2;by_cases hik:i=k0
          ·rw [V5 hik] at h2;have h3:=hky j hj;simp only [X4,ZD,Wt,Xy] at h3
           rcases h3 with ((h3|h3)|h3)|h3
           ·exact absurd hik (hX2 h3).1
           ·exact hY j h3 v w w' h1 h2
           ·exact absurd (h3.trans hik.symm) hji
           ·have h8:=gk hM hI.cl j k0 (fun o' ho' e he hb=>hI.cl j o' ho' hjl e he hb) h3;rw [←hik,hun'] at h8
            cases h8
          ·rw [V6 hik] at h2;exact hst v w w' h1 h2
         have hne:∀d',o.dst=some d'→d≠d':=fun d' hd' e=>by
          subst e;exact hji (hone j i d hj him hjd (by rw [ho];exact hd'))
         cases hod:o.dst with
         |none=>exact hst _ _ _ hold hv.1
         |some d'=>
          rw [dr (hd1 d' hod),V6 (hne d' hod)];exact hst _ _ _ hold hv.1
       ·intro s' hs';have hni:((l.toArray[i]?).bind (·.dst))≠some s':=hs' i him (by rw [cJ hiL];simp);have hold:=hI.H8 s' fun j hj hjl=>hs' j hj (by rw [cJ hiL];simp [hjl]);rw [ho] at hni;simp only [X2] at hni
        cases hod:o.dst with
        |none=>exact hold
        |some d'=>
         rw [dr (by rw [hI.sz];exact hdN (i,d') (hpre i d' him (by rw [ho];exact hod))),V6 (fun e=>hni (by rw [hod,e]))];exact hold
       ·intro j hj hjl d hjd;rw [cJ hiL] at hjl;by_cases hji:j=i
        ·subst hji;obtain ⟨b,hb1,_,hb3⟩:=hfv hj;exact ⟨b,(hputi d hjd).trans hb1,hb3⟩
        ·simp only [hji,decide_false,W4] at hjl;obtain ⟨b,hb1,hb2⟩:=hI.fb j hj hjl d hjd;exact ⟨b,(hput j d (hfm' j hj) hji hjd).trans hb1,Xe hb2 (Mk hSz hv.1)⟩
       ·intro j hj k hk hjk hjl hkl d e hjd hke;rw [cJ hiL] at hjl hkl;by_cases hji:j=i
        ·subst hji;have hkj:k≠j:=fun e=>hjk e.symm;simp only [hkj,decide_false,W4] at hkl;rw [hputi d hjd,hput k e (hfm' k hk) hkj hke];exact fun he=>hfd k hk hkj hkl hj e hke he.symm
        ·simp only [hji,decide_false,W4] at hjl;by_cases hki:k=i
         ·subst hki;rw [hputi e hke,hput j d (hfm' j hj) hji hjd];exact hfd j hj hji hjl hk d hjd
         ·simp only [hki,decide_false,W4] at hkl;rw [hput j d (hfm' j hj) hji hjd,hput k e (hfm' k hk) hki hke];exact hI.fd j hj k hk hjk hjl hkl d e hjd hke
      ·have hLi:L.toList[i]?=some false:=by
        have h3:i<L.toList.length:=by simpa using hiL
        rw [Xz h3];have:L.getD i false=L.toList[i]:=by simp [hiL]
        rw [←this,hun']
       rw [ZF,List.countP_set (by simpa using hiL)];have h4:L.toList[i]'(by simpa using hiL)=false:=(Wk.1 hLi).2;rw [h4];simp only [Y5,if_false,if_true];omega
     exact ⟨hog _ w hI.j hro,hnext⟩
    exact UW
 exact Re
end
section
def Sc (P:Program) (ops:Array Oper) (J:World→Prop) (R:Nat→World→World→Prop) (ρ:Rf) (T:(Nat→VP)→Prop):Nat→(Nat→VP)→List Oper→List (List (Nat×Option Nat))→Prop
 |i,pv,o::os,s::ss=>∃V:VP,(∀v w w',V v w→Below w.heap.size w w'→V v w')∧(∀ρ1 w1,J w1→cZ pv ρ ρ1 w1 s→OG P ops o ρ1 w1 fun v w2=>R i w1 w2∧V v w2)∧Sc P ops J R ρ T (i+1) (dK pv i V) os ss
 |_,pv,[],[]=>T pv
 |_,_,_,_=>False
theorem FO {K':Value→World→Prop} (h:OG P ops o ρ w K) (hk:∀v w',K v w'→K' v w'):OG P ops o ρ w K':=⟨fun a next Q ha hn=>h.out a next Q ha fun v w' h2=>hn v w' (hk v w' h2)⟩
theorem DB {P:Program}{ops:Array Oper}{J:World→Prop}{R:Nat→World→World→Prop}{ρ:Rf}{T:(Nat→VP)→Prop}{os2:List Oper}{ss2:List (List (Nat×Option Nat))}:∀(os:List Oper) (ss:List (List (Nat×Option Nat))) (i:Nat) (pv:Nat→VP),(∀j w w',i≤j→j<i+os.length→Below w.heap.size w w'→R j w w')→
  DX P ops J ρ (fun pv=>Sc P ops J R ρ T (i+os.length) pv os2 ss2) i pv os ss→Sc P ops J R ρ T i pv (os++os2) (ss++ss2)
 |[],[],_,_,_,h=>h
 |[],_::_,_,_,_,h=>h.elim
 |_::_,[],_,_,_,h=>h.elim
 |o::os,s::ss,i,pv,hR,⟨V,h1,h2,h3⟩=>by
  refine ⟨V,h1,fun ρ1 w1 hj hr=>FO (h2 ρ1 w1 hj hr) fun v w2 h=>⟨hR i w1 w2 (V9 _) (by simp) h.1,h.2⟩,DB os ss (i+1) (dK pv i V) (fun j w w' a b=>hR j w w' VZ (by simp only [WH];omega)) ?_⟩;rw [show i+1+os.length=i+(o::os).length by simp only [WH];omega];exact h3
theorem K0 {P:Program}{ops:Array Oper}{J:World→Prop}{R:Nat→World→World→Prop}{ρ:Rf}{T:(Nat→VP)→Prop}:∀(os:List Oper) (ss:List (List (Nat×Option Nat))) (i:Nat) (pv:Nat→VP),(∀j,i≤j→∀v w,pv j v w)→Sc P ops J R ρ T i pv os ss→
  ∃V,(∀j,j<i→V j=pv j)∧T2 P ops J V R ρ i os ss∧T V
 |[],[],_,pv,_,h=>⟨pv,fun _ _=>rfl,trivial,h⟩
 |[],_::_,_,_,_,h=>h.elim
 |_::_,[],_,_,_,h=>h.elim
 |o::os,s::ss,i,pv,hpv,⟨V,h1,h2,h3⟩=>by
  obtain ⟨V',h4,h5,h6⟩:=K0 os ss (i+1) (dK pv i V) (fun j hj v w=>by rw [lN _ _ VZ];exact hpv j VZ v w) h3;have e:V' i=V:=by rw [h4 i VZ,y5]
  refine ⟨V',fun j hj=>by rw [h4 j VZ,lN _ _ VZ],⟨⟨?_, ?_⟩,h5⟩,h6⟩
  ·rw [e];exact h1
  ·intro ρ1 w1 hj hr;rw [e];refine h2 ρ1 w1 hj (nE (fun j v w hh=> ?_) s hr)
   rcases WW j i with hlt|hge
   ·rw [h4 j VZ,lN _ _ VZ] at hh;exact hh
   ·exact hpv j hge v w
structure Ext (b:Nat) (e:TypeId) (w w':World):Prop where
 bl:Below b w w'
 sz:w.heap.size≤w'.heap.size
 rest:∀g,g<w.heap.size→w'.heap[g]?=w.heap[g]?∨∃xs xs',w.heap[g]?=some (.cells xs e (0,0))∧w'.heap[g]?=some (.cells xs' e (0,0))∧xs'.size=xs.size
def wz (S:World→World→Prop) (pv:Nat→VP):List Nat→Prop
 |[]=>True
 |j::r=>(∀v w w',pv j v w→S w w'→pv j v w')∧wz S pv r
theorem Cg {S:World→World→Prop}{pv:Nat→VP}:∀{Y:List Nat},wz S pv Y→∀j,j∈Y→∀v w w',pv j v w→S w w'→pv j v w'
 |[],_,_,h=>by cases h
 |_::_,⟨h1,h2⟩,j,h=>by
  rcases Wp.1 h with rfl|h
  ·exact h1
  ·exact Cg h2 j h
theorem KX:wz S pv []:=trivial
theorem fI {r:List Nat} (h:∀v w w',pv j v w→S w w'→pv j v w') (k:wz S pv r):wz S pv (j::r):=⟨h,k⟩
theorem Is.uQ {c:Value} (v:Value) (w w':World) (h:Is c v w) (_:S w w'):Is c v w':=h
theorem cu.uQ {e t:TypeId} (hte:t≠e) (v:Value) (w w':World) (h:cu ws t cs v w) (hx:Ext b e w w'):cu ws t cs v w':=by
 obtain ⟨g,h1,h2,h3⟩:=h;have hlt:g<w.heap.size:=by
  rcases WW g w.heap.size with hlt|hge
  ·exact hlt
  ·rw [YO hge] at h3;cases h3
 refine ⟨g,h1,h2, ?_⟩
 rcases hx.rest g hlt with h|⟨xs,_,h,_,_⟩
 ·rw [h];exact h3
 ·rw [h3] at h;injection h with h
  injection h with _ h _
  exact absurd h hte
theorem JJ.Ub {H:List HE}{e:TypeId} (hs:Hp w0 H w) (h:JJ w0 H w W) (hx:Ext w.heap.size e W W'):JJ w0 H w W':=by
 have hb:Below w.heap.size w W':=h.bl.trans hx.bl;exact ⟨hs.ext hb,hb⟩
theorem GX {Q:Kq}{id:Nat}{l:List Oper} (fr fl M:List Nat) (m k0:Nat) (X Y:List Nat) (e:TypeId) (src:List (List (Nat×Option Nat))) (ds:List (Nat×Nat)) {H:List HE} (hh:Hp w0 H w) (hm:P.follows .mixedOrders=true) (hok:nH l m N src ds fl M=true) (hkl:C4 m k0 X Y M src=true) (hfr:td P l fr) (hfm:fr.all (fun i=>i<m)=true) (hQp:NP Q)
  (h:DX P l.toArray (JJ w0 H w) ρ (fun pv=>Sc P l.toArray (JJ w0 H w) (RK k0 (Ext w.heap.size e)) ρ (fun V=>wz (Ext w.heap.size e) V Y∧∀f w',JJ w0 H w w'→vw (M8 X V) f w' ds→(∀i∈fr,∀j∈fr,i≠j→f i≠f j)→WL ⟨none,D,false⟩ P N l.toArray Q (l.drop m) (kZ ρ f ds) w') (0+((l.take m).take k0).length) pv ((l.take m).drop k0) (src.drop k0)) 0 SJ ((l.take m).take k0) (src.take k0)):WC ⟨none,D,false⟩ P N (.region id l.toArray true) Q ρ w:=by
 have h1:=DB _ _ 0 SJ (fun j w w' _ hj hb=>by
  have hne:j≠k0:=by
   rw [Ww] at hj;omega
  unfold RK;rw [V6 hne];exact hb) h
 rw [W9,W9] at h1;obtain ⟨V,_,h2,h3,h4⟩:=K0 _ _ _ _ (fun _ _ _ _=>trivial) h1;exact Jp fr fl M m k0 X Y (Ext w.heap.size e) src ds (JJ w0 H w) V hm hok hkl hfr hfm hQp (fun _ _ h hb=>h.ext hb) (fun _ _ h hx=>JJ.Ub hh h hx) (fun _ _ hx=>hx.sz) (JJ.start hh) h2 (Cg h3) h4
theorem Jz {J:World→Prop}{T:(Nat→VP)→Prop}{os:List Oper}{s:List (Nat×Option Nat)}{ss:List (List (Nat×Option Nat))} (V:VP) (h1:∀v w w',V v w→Below w.heap.size w w'→V v w') (h2:∀ρ1 w1,J w1→cZ pv ρ ρ1 w1 s→OG P ops o ρ1 w1 fun v w2=>S w1 w2∧V v w2)
  (k2:DX P ops J ρ T (k+1) (dK pv k V) os ss):Sc P ops J (RK k S) ρ T k pv (o::os) (s::ss):=by
 refine ⟨V,h1,fun ρ1 w1 hj hr=>FO (h2 ρ1 w1 hj hr) fun v w2 h=>⟨by unfold RK;rw [V5 rfl];exact h.1,h.2⟩, ?_⟩;have h3:=DB (os2:=[]) (ss2:=[]) (R:=RK k S) (T:=T) os ss (k+1) (dK pv k V) (fun j w w' h _ hb=>by unfold RK;rw [V6 VZ];exact hb) k2;rwa [WJ,WJ] at h3
theorem CI {t ty e:TypeId}{sz:Nat}{A B:Option Addr}{v:Value} (ht:P.underlying t=some (.slice e)) (hte:cQ P e=some (sz,ag,by',zc)) (hown:w.ownsRow base e sz (.slice A n c) n xs) (hsl:Sl w B m sz news) (h1:∀u∈news,u.oneCell'=true) (h63:n+m≤maxLen) (hbytes:(n+m)*by'≤140737488355328) (hb:base≤w.heap.size)
  (hrun:(Builtin.append_ #[t,t] ty #[.slice A n c,.slice B m c']).run P w=.ok v w') (hg:w.grownBy w' (A.map (·.block))):Ext base e w w':=by
 rcases hown.2 with ⟨e1,_⟩|⟨g,cap,cur,e1,h2,h3,h4,_,h5,h6⟩
 ·injection e1 with e1
  subst e1;exact ⟨⟨hg.os,hg.tape,hg.output,hg.size,fun k hk=>hg.block k VZ (by simp)⟩,hg.size,fun k hk=>.inl (hg.block k hk (by simp))⟩
 ·injection e1 with e1 _ e3
  subst e1 e3;refine ⟨⟨hg.os,hg.tape,hg.output,hg.size,fun k hk=>hg.block k VZ (fun h=>by injection h with h;have h:k=g:=h;omega)⟩,hg.size,fun k hk=> ?_⟩;by_cases hkg:k=g
  ·subst hkg;obtain ⟨i,z,dd,hi,hd,hz,hs,hby,hzc,_⟩:=dx hte
   rcases XM m with h0|h0
   ·subst h0;have hnews:news=[]:=XA (by simpa using hsl.1);subst hnews;have hr:(Builtin.append_ #[t,t] ty #[.slice (some ⟨k,0,none⟩) n c,.slice B 0 c']).run P w=.ok (.slice (some ⟨k,0,none⟩) n c) w:=by
     cases B with
     |none=>exact run_append_nothing w t t ty e i ht hi _ n c h4 _ (Src.ofNil w ht c')
     |some ad=>exact run_append_nothing w t t ty e i ht hi _ n c h4 _ (Src.ofSlice w ht ad 0 c' [] (by simp) (fun j u hu=>by simp at hu) (fun u hu=>by cases hu))
    rw [hr] at hrun;injection hrun with _ hrun
    exact .inl (by rw [hrun])
   ·obtain ⟨ad,rfl,hrd⟩:=hsl.2 h0;by_cases hroom:n+m≤c
    ·have hfit:n*sz+news.length≤cur.size:=by rw [hsl.1,h5,←Yl];exact Xr _ hroom
     subst hs;have hr:=run_append_room (P:=P) w t ty e i ht hi k n c cur h3 ad m c' news hsl.1 hrd h1 hroom hfit;rw [hr] at hrun;injection hrun with _ hrun
     subst hrun;refine .inr ⟨_,_,h3,setRow_heap w k cur _ e _ h3, ?_⟩;simp only [Yj,We,Ww,Xu,Zo];omega
    ·subst hs;subst hby;have hsmall:n+m≤9223372036854775807:=by simp only [maxLen] at h63;omega
     have hr:=run_append_grow (P:=P) w t ty e i z ht hi hz ⟨k,0,none⟩ n c xs hown.1 (hown.cells (g:=k) rfl) ad m c' news hsl.1 hrd VZ VZ (growslice_fits VZ hbytes);rw [hr] at hrun;injection hrun with _ hrun
     subst hrun;exact .inl (((Below.refl w.heap.size w.drew).alloc (V9 _) _).block k hk)
  ·exact .inl (hg.block k hk (fun h=>by injection h with h;have h:k=g:=h;exact hkg h))
def T0 (w:World) (t:TypeId) (n:Nat):VP:=fun v W=>∃(b:Nat) (cs:List Value),v=.pointer (some ⟨b,0,none⟩)∧w.heap.size≤b∧cs.length=n∧W.heap[b]?=some (.cells cs.toArray t (0,0))
theorem Cx {d:Option Nat}{ty:TypeId}{af:Array Edge}{t e:TypeId}{x y:Operand}{sz:Nat} (hx:mw base e n sz xs (ev ρ x) w) (hy:∃B c',ev ρ y=.slice B m c'∧Sl w B m sz news)
  (ht:P.underlying t=some (.slice e)) (hte:cQ P e=some (sz,ag,by',zc)) (hzl:zc.length=sz) (hsz:0<sz) (h1:news.all Value.oneCell'=true) (h63:n+m≤maxLen) (hbytes:(n+m)*by'≤140737488355328) (hb:base≤w.heap.size):
  OG P ops ⟨d,.call ⟨.builtin .append, #[x,y], #[t,t]⟩,ty,pos,af,none⟩ ρ w fun v w2=>Ext base e w w2∧mw base e (n+m) sz (xs++news) v w2:=by
 obtain ⟨A,c,e1,ho⟩:=hx;obtain ⟨B,c',e2,hsl⟩:=hy;obtain ⟨A',c2,w',r1,r2,r3,_⟩:=jd (P:=P) (w:=w) base t ty e sz by' ag zc ht hte hzl hsz A n c xs ho B m c' news hsl (fun u hu=>Wq.1 h1 u hu) h63 hbytes hb;refine dv rfl (w':=w') (v:=.slice A' (n+m) c2) ?_ ⟨CI ht hte ho hsl (fun u hu=>Wq.1 h1 u hu) h63 hbytes hb r1 r3,A',c2,rfl,r2⟩;simp only [execOp,resolve,invoke,builtin,Sem.run_bind,Sem.run_pure,Result.andThen_ok,Yn,Wv,WV,e1,e2,r1]
def Hd (base:Nat) (t:TypeId) (n sz:Nat) (cs:List Value):VP:=fun v W=>∃A c,v=.agg #[.slice A n c,.slice none 0 0]∧W.ownsRow base t sz (.slice A n c) n cs
theorem Hd.ext {t:TypeId}{sz:Nat} (v:Value) (w w':World) (h:Hd base t n sz cs v w) (hb:Below w.heap.size w w'):Hd base t n sz cs v w':=let ⟨A,c,h1,h2⟩:=h;⟨A,c,h1,lP h2 hb⟩
theorem JJ.G8 {H:List HE}{t e:TypeId}{sz:Nat}{A:Option Addr} (h:JJ w0 H w W) (hs:Hp w0 H w) (h2:w.heap.size≤b) (h3:W.heap[b]?=some (.cells cs.toArray t (0,0))) (ho:W.ownsRow w.heap.size e sz (.slice A n c) n xs) (hte:t≠e):Hp w0 (.blk b t cs (0,0)::.row A n c e sz xs::H) W:=by
 have h4:=JJ.yI hs h.hp ho;have h5:=h.newVar hs h2 h3;refine ⟨h4.below,fun x hx=> ?_, ?_⟩
 ·rcases Wp.1 hx with rfl|hx
  ·exact h5.own _ Wj
  ·exact h4.own x hx
 ·rw [XE];show (b::List.filterMap HE.id (.row A n c e sz xs::H)).Nodup;refine XR.2 ⟨fun hm=> ?_,h4.nd⟩;have h6:=h5.nd;rw [XE] at h6;have h7:=(XR.1 (show (b::List.filterMap HE.id H).Nodup from h6)).1;rw [XE] at hm
  rcases ho.2 with ⟨e1,_⟩|⟨g,cap,cur,e1,_,e3,_⟩
  ·injection e1 with e1
   subst e1;exact h7 hm
  ·injection e1 with e1
   subst e1
   rcases Wp.1 (show b∈g::List.filterMap HE.id H from hm) with rfl|hm
   ·rw [h3] at e3;injection e3 with e3
    injection e3 with _ e3 _
    exact hte e3
   ·exact h7 hm
end
end
theorem lM (fx:FX) (ax:Int) (k:Nat) (w:World) (hf:fx.at_ w) (hl:fx.km k):
  Calls Tryz.prog 72 #[.agg #[.slice fx.A fx.n fx.a,.slice fx.B fx.m fx.b],.int .i64 ax] w fun r w'=>r=.returned (.int .i64 (ej fx ax))∧Below w.heap.size w w':=by
 have hh:=Hp.start w;have hck:=fun w1 hb=>Ca fx k w1 (hf.ext hb) hl;by_cases h0:fx.e=0
 ·by_cases h1:ax<0
  ·rw [show ej fx ax=1 by unfold ej;rw [V6 VZ,V5 (.inl h1)]];refine F0 ?_;refine sr ?_;refine bV hh [_,_] ?_;intro b2 w2 hh;refine aI (aa (ah (sr ?_)));refine bY hh 0 [_,_] ?_;refine bq hh (hck _ hh.below) rfl ?_;exact Qr
  ·by_cases h2:(fx.n:Int)≤ax
   ·rw [show ej fx ax=1 by unfold ej;rw [V6 VZ,V5 (.inr h2)]];refine F0 ?_;refine sr ?_;refine bV hh [_,_] ?_;intro b2 w2 hh;refine aI (aa (ah (sr ?_)));refine bY hh 0 [_,_] ?_;refine bq hh (hck _ hh.below) rfl ?_;exact Ov
   ·rw [show ej fx ax=0 by unfold ej;rw [V6 VZ,V6 VZ]];refine F0 ?_;refine sr ?_;refine bV hh [_,_] ?_;intro b2 w2 hh;refine aI (aa (ah (sr ?_)));refine bY hh 0 [_,_] ?_;refine bq hh (hck _ hh.below) rfl ?_;exact TJ
 ·rw [show ej fx ax=fx.e by unfold ej;rw [V5 h0]];refine F0 ?_;refine sr ?_;refine bV hh [_,_] ?_;intro b2 w2 hh;refine aI (aa (ah (sr ?_)));refine bY hh 0 [_,_] ?_;refine bq hh (hck _ hh.below) rfl ?_;intro w7 hh;exact NL
theorem HW (fx:FX) (ax sd:Int) (k:Nat) (w:World) (hf:fx.at_ w) (hl:fx.km k) (hE:iC fx ax sd≠0):
  Calls Tryz.prog 21 #[.agg #[.slice fx.A fx.n fx.a,.slice fx.B fx.m fx.b],.int .i64 ax,.int .i64 sd] w fun r w'=>r=.returned (.tuple #[.agg #[.slice none 0 0,.slice none 0 0],.int .i64 (iC fx ax sd)])∧Below w.heap.size w w':=by
 have hh:=Hp.start w;have hhas:=fun w1 hb=>lM fx ax k w1 (hf.ext hb) hl;unfold iC at hE ⊢;generalize ej fx ax=C at*;by_cases hC:C=0
 ·subst hC;rw [V6 (fun c=>c rfl)] at hE ⊢;by_cases hs:sd=0∨sd=1
  ·rw [V5 hs] at hE;exact absurd rfl hE
  ·rw [V6 hs];by_cases h1:sd<0
   ·refine Lq ?_;refine sr ?_;refine bV hh [_,_] ?_;intro b3 w3 hh;refine bJ hh ?_;intro b6 w6 hh;refine aI (aa (ah (sr ?_)));refine bY hh 1 [_,_] (mI ?_);refine bq hh (hhas _ hh.below) rfl ?_;intro w14 hh;refine aI (aa (sr (mI ?_)));refine mg ?_;refine a0 (mB ?_);refine gS (gS ?_);refine fi ?_;exact Lf
   ·have h2:1<sd:=VZ;refine Lq ?_;refine sr ?_;refine bV hh [_,_] ?_;intro b3 w3 hh;refine bJ hh ?_;intro b6 w6 hh;refine aI (aa (ah (sr ?_)));refine bY hh 1 [_,_] (mI ?_);refine bq hh (hhas _ hh.below) rfl ?_;intro w14 hh;refine aI (aa (sr (mI ?_)));refine mg ?_;refine a0 (mB (gT (mI (gT ?_))));refine bH ?_;refine dR ?_;exact Lf
 ·rw [V5 hC];refine Lq ?_;refine sr ?_;refine bV hh [_,_] ?_;intro b3 w3 hh;refine bJ hh ?_;intro b6 w6 hh;refine aI (aa (ah (sr ?_)));refine bY hh 1 [_,_] (mI ?_);refine bq hh (hhas _ hh.below) rfl ?_;intro w14 hh;exact Ll
theorem zU (fx:FX) (a d:Nat) (sd:Nat) (k:Nat) (w:World) (hf:fx.at_ w) (hl:fx.km k) (hcap:fx.n≤fx.a) (h0:fx.e=0) (hd:fx.ns[a]?=some d) (hsd:sd=0∨sd=1):
  Calls Tryz.prog 21 #[.agg #[.slice fx.A fx.n fx.a,.slice fx.B fx.m fx.b],.int .i64 a,.int .i64 sd] w fun r w'=>∃g:FX,g.ds=fx.ds.eraseIdx a∧g.cs=(jC (ar (fx.ns.drop (a+1))) d (d*sd) (fx.cs.map NR.d) fx.m).map nR∧g.n≤100000∧g.m≤1000000∧r=.returned (.tuple #[.agg #[.slice g.A g.n g.a,.slice g.B g.m g.b],.int .i64 0])∧Hp w [g.mP,g.mi] w':=by
 have hh:=Hp.start w;obtain ⟨hdeg,hnum,h12,hlow,hcnt,hmax⟩:=FX.fv h0;have hln:=hf.ln.1;have hlm:=hf.ln.2;have hnl:fx.ns.length=fx.n:=by unfold FX.ns;rw [Wi];exact hln
 have ha:=(Wk.1 hd).1;have hd127:=hlow d (Wb hd);have hE:ej fx (a:Int)=0:=by unfold ej;rw [V6 VZ,V6 VZ]
 have hhas:=fun w1 hb=>lM fx (a:Int) k w1 (hf.ext hb) hl;rw [hE] at hhas;have hdg:Sl w fx.A fx.n 1 (a7 (bp fx.ns)):=by rw [←hdeg];exact hf.dg
 have hgd:(a7 fx.ds)[a]?=some (.int .i64 (d:Int)):=by rw [hdeg];exact bR (ez hd)
 obtain ⟨ad0,hAD,sD⟩:=hf.dg.at_ VZ;have su:Value.slice fx.A fx.n fx.a=.slice (some ad0) fx.n fx.a:=by rw [hAD]
 obtain ⟨t,ht,htd⟩:∃t:Nat,(sd:Int)*(d:Int)=(t:Int)∧d*sd=t:=⟨d*sd,by rw [Xk,Ze],rfl⟩;have hpb:t≤127:=by rw [←htd];rcases hsd with rfl|rfl<;>omega
 rw [htd];have ho1:((a7 fx.ds).take (a*1)).all Value.oneCell'=true:=Wq.2 fun x hx=>Wq.1 (bB fx.ds) x (Yd hx);have ho2:((a7 fx.ds).drop ((a+1)*1)).all Value.oneCell'=true:=Wq.2 fun x hx=>Wq.1 (bB fx.ds) x (Y4 hx);have her:(a7 fx.ds).take (a*1)++(a7 fx.ds).drop ((a+1)*1)=a7 (fx.ds.eraseIdx a):=by
  rw [List.eraseIdx_eq_take_drop_succ];simp [a7]
 have hrw:=fun w1 hb=>lT fx.A fx.n fx.a fx.ns w1 (hdg.ext hb) VZ hlow VZ;refine aj (N:=74) (l:=[.agg #[.slice fx.A fx.n fx.a,.slice fx.B fx.m fx.b],.int .i64 a,.int .i64 sd]) Tryz.func21 rfl rfl (by simp) ?_;refine sr ?_;refine bV hh [_,_] ?_;intro b3 w3 hh;refine bJ hh ?_;intro b6 w6 hh;refine aI (aa (ah (sr ?_)));refine bY hh 1 [_,_] (mI ?_);refine bq hh (hhas _ hh.below) rfl ?_;intro w14 hh;refine aI (aa (sr (mI ?_)));refine mg ?_;refine a0 (mB (gT (mI (gT ?_))));refine bH ?_;refine dR ?_;refine aa (cF (ao (ai (ah ?_))));refine GX [13] [] [0,0,2,0,14,31,0,64,0,256,960,2047,4095,0,16383] 14 11 [0,5] [1,2,3,4,6,7,8,9,10,13] 3 [[],[(3,none)],[(27,some 1)],[(1,none)],[(28,some 2),(29,some 3)],[(26,some 0),(30,some 4)],[(3,none)],[(32,some 6)],[(1,none)],[(34,some 8)],[(33,some 7),(35,some 9)],[(31,some 5),(36,some 10)],[(37,some 11)],[]] [(13,9),(12,38),(11,37),(10,36),(9,35),(8,34),(7,33),(6,32),(5,31),(4,30),(3,29),(2,28),(1,27),(0,26)] hh mixed V2 V0 (nO rfl aJ.out eX) rfl (by repeat (first|exact cD|refine bT ?_|refine cE ?_)) ?_
 refine qS (i:=0) a9.out aJ.out (fun w1 hj=>hj.bl.size) ?_;refine da ?_;refine dN 1 ?_;refine dn ?_;refine a6 (i:=4) (fun ρ1 w1 hj hR=>pK (h:=a) a9.out aJ.size (show ρ1 28=Value.slice _ _ _ from hR.1) (show ρ1 29=Value.int _ _ from hR.2.1) VZ VZ) ?_;refine ur (i:=5) (fun ρ1 w1 hj hR=>hR.1) (fun ρ1 w1 hj hR=>⟨_,_,(show ρ1 30=Value.slice _ _ _ from hR.2.1),((hf.dg.ext hj.hp.below).front (m:=a) VZ)⟩) a9.out aJ.out rfl V0 (by first|rfl|assumption) (by unfold maxLen;omega) VZ (fun w1 hj=>hj.bl.size) ?_;refine da ?_;refine dN 1 ?_;refine dn ?_;refine nX ?_;refine a6 (i:=10) (fun ρ1 w1 hj hR=>gK (l:=(a+1)) a9.out aJ.size (show ρ1 33=Value.slice _ _ _ from hR.1) (show ρ1 35=Value.int _ _ from hR.2.1) VZ VZ VZ) ?_;refine aG ?_;refine Jz (k:=11) _ mw.ext (fun ρ1 w1 hj hR=>Cx (hR.1) ⟨_,_,(show ρ1 36=Value.slice _ _ _ from hR.2.1),((hf.dg.ext hj.hp.below).back (l:=a+1) VZ hcap)⟩ a9.out aJ.out rfl V0 (by first|rfl|assumption) (by unfold maxLen;omega) VZ hj.bl.size) ?_;refine aP (i:=12) (Hd w14.heap.size 3 (a+(fx.n-(a+1))) 1 (a7 (fx.ds.eraseIdx a))) (Hd.ext) ?_ ?_
 ·intro ρ1 w1 hj hR;exact let ⟨A,c,e1,o1⟩:=hR.1;dv rfl (pO (cs:=[_,_]) aJ.out lL.out (aV e1 bW) rfl) ⟨Below.refl _ _,A,c,rfl,her ▸ o1⟩
 refine aP (i:=13) (cu _ 33 _) cu.ext (fun ρ1 w1 hj hR=>gL aJ.out hj.bl (fun v w2 h hb=>⟨hb,h⟩)) ?_;refine aG ?_;refine ⟨(fI Is.uQ (fI Is.uQ (fI Is.uQ (fI Is.uQ (fI Is.uQ (fI Is.uQ (fI Is.uQ (fI Is.uQ (fI Is.uQ (fI (cu.uQ V0) KX)))))))))), ?_⟩;intro f W hJ hV _;have hb_6:=hJ.bl;obtain ⟨v9,v38,v37,v36,v35,v34,v33,v32,v31,v30,v29,v28,v27,v26,_⟩:=hV;obtain ⟨A38,c38,e38,o38⟩:Hd _ _ _ _ _ (f 12) W:=v38;obtain ⟨b9,e9,hl9,hc9⟩:cu _ _ _ (f 13) W:=v9;replace hh:=hJ.G8 hh hl9 hc9 o38 V0;clear o38;refine aU (bg (ae e9 (ae e38 (ae rfl (ae v36 (ae v35 (ae v34 (ae v33 (ae v32 (ae rfl (ae v30 (ae v29 (ae v28 (ae v27 (ae rfl aT))))))))))))))) ?_;dsimp only [bI];clear e38 e9 hJ;have hen:a+(fx.n-(a+1))=fx.n-1:=VZ;have hcp:=cn fx.ns;rw [hen] at hh;replace hh:=show Hp w (.blk b9 33 [.slice none 0 0,.slice none 0 0] (0,0)::.row A38 (fx.n-1) c38 3 1 (a7 (fx.ds.eraseIdx a))::_) _ from hh;rw [hen];refine bL hh 0 [_,_] ?_;intro ws hh;replace hh:Hp _ (.blk _ _ [_,_] _::_) _:=hh;refine aa (sr (bC ?_));refine bA hh 3 ?_;refine aE (hrw _ hh.below) au.out rfl V0 ?_;rintro e_ w41 ⟨A41,c41,rfl,hown_,hb_⟩;refine ⟨_,rfl, ?_⟩
 replace hh:=hh.aO (x:=.row _ _ _ _ _ _) hb_ hown_;obtain ⟨g41,rfl⟩:=hh.bZ (i:=0) rfl VZ;refine xi ?_;replace hh:=hh.cx 40 3;replace hh:=hh.perm (WZ (l₁:=[_,_]));simp only [Wf,Wd] at hh;have hdigs:∀i,(cq fx.ns.reverse i).reverse[a]?=some (i/ar (fx.ns.drop (a+1)) % (d+1)):=fun i=>by
  have hlen:(cq fx.ns.reverse i).length=fx.n:=by rw [kd,WE];omega
  have h1:fx.ns.reverse[fx.n-1-a]?=some d:=by
   rw [Xh VZ,show fx.ns.length-1-(fx.n-1-a)=a by omega];exact hd
  rw [Xh VZ,hlen,ED i h1,List.take_reverse,bM,show fx.ns.length-(fx.n-1-a)=a+1 by omega]
 generalize ar (fx.ns.drop (a+1))=ap at*;refine aW [11,42,43,44,45,46,47,48,49,50,51,52,53,54,55,56,57,58,59,60,61,62,63,64,65,66,67,68,69,70,71,72] 11
  (fun v w'=>∃(i cC:Nat) (C:Option Addr),i≤fx.m∧v=.int .i64 i∧Hp w [.blk b9 33 [.slice A38 (fx.n-1) c38,.slice C (jC ap d t (fx.cs.map NR.d) i).length cC] (0,0),.row C (jC ap d t (fx.cs.map NR.d) i).length cC 40 3 (aA NR.cells ((jC ap d t (fx.cs.map NR.d) i).map nR)),.row (some ⟨g41,0,none⟩) (ar fx.ns) c41 9 1 (gM (kr fx.ns)),.row A38 (fx.n-1) c38 3 1 (a7 (fx.ds.eraseIdx a)),.blk b6 33 [.slice none 0 0,.slice none 0 0] (0,0),.blk b3 33 [.slice fx.A fx.n fx.a,.slice fx.B fx.m fx.b] (0,0)] w')
  (fun v _=>fx.m-(intOf v).toNat) ?_ ?_
 ·exact ⟨0,0,none,V8 _,rfl,hh⟩
 ·clear hh;rintro ρ' v w' ⟨i,cC,C,hi,rfl,hh⟩;by_cases hlt:i<fx.m
  ·obtain ⟨x,hx⟩:=al (l:=fx.cs) (k:=i) VZ;obtain ⟨adC,hAC,sC⟩:=hf.nm.at_ VZ;have hevC:Value.slice fx.B fx.m fx.b=.slice (some adC) fx.m fx.b:=by rw [hAC]
   have hxd:((fx.cs.map NR.d)[i]?).getD 0=x.d:=by rw [Wg,hx];rfl
   have hxn:nR x.d=x:=by
    exact SQ
   have hst:=wQ ap d t (fx.cs.map NR.d) i;rw [hxd] at hst;have hfl:(jC ap d t (fx.cs.map NR.d) i).length≤i:=by
    unfold jC;exact RL
   have hrp:=nQ (pG (ns:=fx.ns) (p:=i) VZ);have hdg2:=hdigs i;have hr7:i/ap % (d+1)≤127:=by
    have:=WB (i/ap) (show 0<d+1 by omega);omega
   generalize i/ap % (d+1)=r at*;generalize (cq fx.ns.reverse i).reverse=rr at*;obtain ⟨c2,hc2,hcr⟩:=zN hdg2 VZ;have hc3:(fX (bp rr)).data.toList[(a:Int).toNat]?=some c2:=hc2;generalize hF:jC ap d t (fx.cs.map NR.d) i=F at*;by_cases hrt:r=t
   ·rw [V5 hrt] at hst;refine ah (sr (mI (mL (aF ?_))));refine oH ?_;refine O3 ?_;refine fD ?_;refine dn ?_;refine Gn (i) ?_;refine Qh ?_;refine dn ?_;refine PC ?_;refine a6 (i:=6) (fun ρ1 w1 hj hR=>j5 a9.out a9.out (show ρ1 53=Value.int _ _ from hR.1) VZ VZ) ?_;refine dn ?_;refine da ?_;refine dN 5 ?_;refine dn ?_;refine aP (i:=11) (Is (.pointer (some (ad0.add (a*1))))) (Is.ext) ?_ ?_
    ·exact TF
    refine xN ?_;refine Dq ?_;refine aG ?_;intro f W hJ hV;have hb_11:=hJ.bl;obtain ⟨v61,v60,v59,v58,v57,v56,v55,v54,v53,v52,v51,v50,v49,v48,_⟩:=hV;replace hh:=hJ.hp;refine PW ?_;dsimp only [bI];clear hJ;refine ct (aa (cT ?_));refine aN 8 [[(9,none)],[(63,some 0)],[(3,none)],[(65,some 2)],[(11,none)],[(66,some 3),(67,some 4)],[(68,some 5)],[(69,some 6)]] [(7,70),(6,69),(5,68),(4,67),(3,66),(2,65),(1,64),(0,63)] hh mixed V2 ?_;refine da ?_;refine dN 0 ?_;refine da ?_;refine dN 5 ?_;refine dn ?_;refine aP (i:=5) (Is (.pointer (some (adC.add (i*3))))) (Is.ext) ?_ ?_
    ·intro ρ1 w1 hj hR;exact dv rfl (ep (k:=i) a9.out aJ.size ((show ρ1 66=Value.slice _ _ _ from hR.1).trans hevC) (show ρ1 67=Value.int _ _ from hR.2.1) VZ VZ) ⟨Below.refl _ _,rfl⟩
    refine qK [_,_,_] (fun _ hj=>(sC.ext hj.hp.below).recAt NR.len hx) ?_;refine rh [_,_,_] ?_;refine aG ?_;intro f W hJ hV;have hb_12:=hJ.bl;obtain ⟨v70,v69,v68,v67,v66,v65,v64,v63,_⟩:=hV;obtain ⟨A70,c70,e70,f70⟩:Rows _ _ _ (f 7) W:=v70;replace hh:=hJ.hp;refine aU (bg (ae e70 (ae v69 (ae v68 (ae v67 (ae v66 (ae v65 (ae v64 (ae v63 aT))))))))) ?_;dsimp only [bI];clear e70 hJ;refine cv hh (i:=1) rfl rfl rfl (f70) a9.out aJ.out rfl V0 (by first|rfl|exact dz _|exact cX _|exact bB _|exact bU NR.one _) VZ VZ V0 ?_;intro A71 c71 w71 hh;simp only [Wh,WI] at hh;refine bC ?_;refine bL hh 0 [_] ?_;intro ws hh;replace hh:Hp _ (.blk _ _ [_,_] _::_) _:=hh;refine xB ?_;refine bj (aI (az (ai ?_)));replace hh:=hh.sub (V7 _ (V7 _ (V7 _ (V7 _ (V7 _ (V7 _ Wx))))));refine ⟨⟨i+1,c71,A71,VZ,rfl, ?_⟩,by show fx.m-(i+1)<fx.m-i;omega, ?_⟩
    ·exact Tk
    ·exact dF
   ·rw [V6 hrt,WJ] at hst;refine ah (sr (mI (mL (aF ?_))));refine oH ?_;refine O3 ?_;refine fD ?_;refine dn ?_;refine Gn (i) ?_;refine Qh ?_;refine dn ?_;refine PC ?_;refine a6 (i:=6) (fun ρ1 w1 hj hR=>j5 a9.out a9.out (show ρ1 53=Value.int _ _ from hR.1) VZ VZ) ?_;refine dn ?_;refine da ?_;refine dN 5 ?_;refine dn ?_;refine aP (i:=11) (Is (.pointer (some (ad0.add (a*1))))) (Is.ext) ?_ ?_
    ·exact TF
    refine xN ?_;refine Dq ?_;refine aG ?_;intro f W hJ hV;have hb_11:=hJ.bl;obtain ⟨v61,v60,v59,v58,v57,v56,v55,v54,v53,v52,v51,v50,v49,v48,_⟩:=hV;replace hh:=hJ.hp;refine PW ?_;dsimp only [bI];clear hJ;refine ct (aa (cF (ao (bF (ai (ak (mI ?_)))))));refine bj (aI (az (ai ?_)));refine ⟨⟨i+1,cC,C,VZ,rfl,by rw [hst];exact hh⟩,by show fx.m-(i+1)<fx.m-i;omega, ?_⟩;exact dF
  ·obtain rfl:i=fx.m:=VZ;refine ah (sr (mI (mL (aF ?_))));refine a0 (aa (cF (aZ (aC (aC (br (ai (sr ?_))))))));refine bY hh 0 [_,_] ?_;refine bL hh 4 [_,_] ?_;intro ws hh;replace hh:Hp _ (_::_::_::_::.blk _ _ [_,_] _::_) _:=hh;refine aI (aa (av ?_));refine LN (dT rfl (dW (vs:=[_,_]) aJ.out (hh.bP (i:=4) (n:=2) rfl rfl) rfl) (iB (jh rfl) e8)) ?_;refine ⟨⟨A38,fx.n-1,c38,C,(jC ap d t (fx.cs.map NR.d) fx.m).length,cC,fx.ds.eraseIdx a,(jC ap d t (fx.cs.map NR.d) fx.m).map nR⟩,rfl,rfl,by show fx.n-1≤100000;omega, ?_,rfl,hh.sub (.cons _ (.cons_cons _ (.cons _ (.cons_cons _ (Xq _)))))⟩;show (jC ap d t (fx.cs.map NR.d) fx.m).length≤1000000;exact Pz
variable {X:List Dyadic}
def HR (ds:List Nat) (X:List Dyadic):Nat→List Dyadic
 |0=>X
 |k+1=>gR ds (ds.length-1-k) (eV (ds.getD (ds.length-1-k) 0) 1 (-1)) (HR ds X k)
theorem BH (ds:List Nat) (X:List Dyadic) (k:Nat):HR ds X (k+1)=gR ds (ds.length-1-k) (eV (ds.getD (ds.length-1-k) 0) 1 (-1)) (HR ds X k):=rfl
theorem Mm {ds:List Nat} (h:X.length=ar ds) (k:Nat):(HR ds X k).length=ar ds:=by
 cases k with
 |zero=>exact h
 |succ k=>rw [BH,oL]
theorem Ha {ds:List Nat}{a d:Nat} (hx:∀x∈X,Sz k x) (hd:ds.getD a 0=d) (hd7:d≤127):∀x∈gR ds a (eV d 1 (-1)) X,Sz (k+520) x:=fun x h=>by
 obtain ⟨p,_,rfl⟩:=Wo.1 h;have hr:(cq ds p).getD a 0≤d:=by rw [←hd];exact ui a (kC ds p)
 have h2:=BW (l:=List.range (ds.getD a 0+1)) (f:=fun i=>co ds X ((cq ds p).set a i)*eV d 1 (-1) i ((cq ds p).getD a 0)) (k:=k+(130+2*(1*d))) fun i _=>by
  refine Sz.mul ?_ (y3 Sz.one (show Sz 1 (-1:Dyadic) from Sz.one.neg) hd7 hr);exact SP
 rw [Ye,hd] at h2;rw [hd];exact h2.mono VZ
theorem JZ {ds:List Nat}{X:List Dyadic}{k:Nat} (h:∀x∈X,Sz k x) (hd:∀d∈ds,d≤127):∀i,∀x∈HR ds X i,Sz (k+520*i) x
 |0=>h
 |i+1=>fun x hx=>(Ha (JZ h hd i) rfl (BP hd _) x hx).mono VZ
def Dv (b:List SR) (i:Nat):Dyadic:=match b[i]? with|some s=>s.H-s.L|none=>0
def wP (b:List SR) (ns es:List Nat):Nat→Dyadic
 |0=>1
 |i+1=>wP b ns es i*Dv b i^(ns.getD i 0-es.getD i 0)
def jL (ns:List Nat) (p:Nat):List Nat:=(cq ns.reverse p).reverse
def RI (b:List SR) (ns:List Nat) (C:List Dyadic) (p:Nat):TR:=⟨fX (bp (jL ns p)),nR (iX C p*wP b ns (jL ns p) b.length)⟩
def mq (b:List SR) (ns:List Nat) (C:List Dyadic):List TR:=(List.range (ar ns)).map (RI b ns C)
def uT (v i:Nat) (s:SR):List TR:=aM (nZ v i++lG v (-s.L))
def md (b:List SR):List PX:=b.mapIdx fun i s=>⟨b.length,none,0,0,uT b.length i s⟩
theorem uJ {b:List SR}{i:Nat}{s:SR} (h:b[i]?=some s):(md b)[i]?=some ⟨b.length,none,0,0,uT b.length i s⟩:=by
 unfold md;rw [List.getElem?_mapIdx,h]
 rfl
theorem GI (b:List SR):(md b).length=b.length:=by unfold md;rw [List.length_mapIdx]
theorem zO {v i:Nat}{s:SR} (h:v≤12) (hs:s.fin k) (hk:k≤100000):kS (v:Int) (k+10) (uT v i s)∧(uT v i s).length≤2:=by
 have h1:=sQ (i:=i) h;have h2:=sG h (SR.Mh hs).neg VZ;have hl:(nZ v i++lG v (-s.L)).length≤2:=by
  rw [We];have a1:(nZ v i).length≤1:=cB _;have a2:(lG v (-s.L)).length≤1:=cB _;omega
 have hm:∀{P:TR→Prop},(∀t∈nZ v i,P t)→(∀t∈lG v (-s.L),P t)→∀t∈nZ v i++lG v (-s.L),P t:=fun a b t ht=>(W3.1 ht).elim (a t) (b t);refine ⟨(j2 (k:=k+4) (n:=2) (jc h) (hm (dH h1.e).2.2.1 (dH h2.e).2.2.1) (hm (h1.ok.mono VZ) (h2.ok.mono VZ)) (hm h1.sz h2.sz) hl V0 VZ).mono VZ,WK (cB _) hl⟩
theorem L5 {r:List Nat} (h:∀d∈r,d≤255):gu (fX (bp r))=r:=by
 unfold gu fX bp;rw [dV,W6,W6];refine (XW fun d hd=> ?_).trans (List.map_id r);have:=h d hd;show (qR (d:Int)).toNat=d;obtain ⟨c,hc,e⟩:=zN (l:=[d]) (i:=0) rfl this;unfold fX bp at hc;rw [dV] at hc;rw [show qR (d:Int)=c from WT hc];exact e
theorem Gk {ns:List Nat} (p:Nat):mh ns.reverse (jL ns p).reverse:=by unfold jL;rw [YM];exact kC _ _
theorem m8 (ns:List Nat) (p:Nat):(jL ns p).length=ns.length:=by
 have:=yN (Gk (ns:=ns) p);rwa [WE,WE] at this
theorem yv {ns:List Nat}{p i d r:Nat} (hd:ns[i]?=some d) (hr:(jL ns p)[i]?=some r):r≤d:=by
 have h1:=(Wk.1 hd).1;have h2:=m8 ns p;refine ((iP _ _).1 (Gk (ns:=ns) p)).2 (ns.length-1-i) d r ?_ ?_
 ·rw [Xh VZ,show ns.length-1-(ns.length-1-i)=i by omega];exact hd
 ·rw [Xh VZ,show (jL ns p).length-1-(ns.length-1-i)=i by omega];exact hr
theorem Bx {ns:List Nat}{B p:Nat} (h:∀d∈ns,d≤B):∀r∈jL ns p,r≤B:=fun r hr=>by
 obtain ⟨i,hi⟩:=Yc.1 hr;have h1:=(Wk.1 hi).1;rw [m8] at h1;obtain ⟨d,hd⟩:=al (l:=ns) (k:=i) h1;exact WK (yv hd hi) (h d (Wb hd))
theorem y9 {ns:List Nat}{p:Nat} (h:∀d∈ns,d≤127):gu (fX (bp (jL ns p)))=jL ns p:=L5 fun r hr=>WK (Bx h r hr) V0
theorem AJ (b:List SR) (ns:List Nat) (C:List Dyadic):(mq b ns C).length=ar ns:=by simp [mq]
theorem MM {b:List SR}{ns:List Nat}{C:List Dyadic}{p:Nat} (h:p<ar ns):(mq b ns C)[p]?=some (RI b ns C p):=by
 unfold mq;rw [Wg,W8 h]
 rfl
theorem Jy {b:List SR}{ns es:List Nat}{k:Nat} (hb:∀s∈b,s.fin k):∀i,i≤ns.length→Sz (1+i+(k+1)*(ns.take i).sum) (wP b ns es i)
 |0,_=>Sz.one.mono VZ
 |i+1,hi=>by
  have h1:=Jy (es:=es) (ns:=ns) hb i VZ;obtain ⟨d,hd⟩:=al (l:=ns) (k:=i) hi;have hg:ns.getD i 0=d:=by rw [Xl,hd];rfl
  have hw:Sz (k+1) (Dv b i):=by
   unfold Dv
   cases h:b[i]? with
   |none=>exact Sz.zero _
   |some s=>exact ((SR.Sf (hb s (Wb h))).sub (SR.Mh (hb s (Wb h)))).mono VZ
  have h2:=hw.BK (show ns.getD i 0-es.getD i 0≤d by omega);have h3:=h1.mul h2;rw [ay hd,List.sum_append,List.sum_singleton,W7];exact h3.mono VZ
theorem QT {b:List SR}{ns:List Nat}{C:List Dyadic}{K:Nat} (hb:∀s∈b,s.fin k) (hbl:b.length=ns.length) (hC:∀x∈C,Sz K x) (hlow:∀d∈ns,d≤127) (hN:ns.length≤100000) (hK:K+(1+ns.length+(k+1)*ns.sum)≤2999000):jG (K+(1+ns.length+(k+1)*ns.sum)) (mq b ns C)∧(∀t∈mq b ns C,fY (ns.length:Int) t=true)∧(∀t∈mq b ns C,t.m.size≤100000∧∃p,gu t.m=jL ns p):=by
 refine ⟨fun t ht=> ?_,fun t ht=> ?_,fun t ht=> ?_⟩
 ·obtain ⟨p,hp,rfl⟩:=Wo.1 ht;have h1:=Jy (ns:=ns) (es:=jL ns p) hb ns.length (V9 _);rw [Y3] at h1;have h2:=(yJ hC p).mul h1;show (nR (iX C p*wP b ns (jL ns p) b.length)).ok∧Sz _ (nR (iX C p*wP b ns (jL ns p) b.length)).d;rw [hbl,cj];exact ⟨h2.ok VZ,h2⟩
 ·obtain ⟨p,hp,rfl⟩:=Wo.1 ht;have h1:=y9 (p:=p) hlow;have h2:(fX (bp (jL ns p))).size=ns.length:=by rw [←qu,h1,m8]
  unfold fY;rw [Wm,Wt];refine ⟨?_,by show ((fX (bp (jL ns p))).size:Int)=_;rw [h2]⟩;unfold eS;rw [Wq];intro c hc;have:c.toNat∈gu (fX (bp (jL ns p))):=Wo.2 ⟨c,hc,rfl⟩;rw [h1] at this;exact Wr (by have:=Bx hlow c.toNat this;omega)
 ·obtain ⟨p,hp,rfl⟩:=Wo.1 ht;have h1:=y9 (p:=p) hlow;have h2:(fX (bp (jL ns p))).size=ns.length:=by rw [←qu,h1,m8]
  exact ⟨by show (fX (bp (jL ns p))).size≤100000;omega,p,h1⟩
theorem JW {b:List SR}{ns:List Nat}{C:List Dyadic} (h12:ns.length≤12) (hm:∀t∈mq b ns C,fY (ns.length:Int) t=true) (hc:ar ns≤4096):qk (ns.length:Int) (mq b ns C)=0:=by
 have hl:=AJ b ns C;unfold qk;rw [V6,V6 VZ,lY VZ];rintro (h|h)
 ·rw [jc h12] at h;cases h
 ·obtain ⟨t,ht,h2⟩:=Yb.1 h;rw [hm t ht] at h2
  cases h2
theorem GV {b:List SR}{os:List PX}{R:List HE}{kb:Nat} (hcp:AP ((md b).map fun g=>⟨g.v,none,g.ts.length,0,g.ts⟩) os R) (hol:os.length=b.length) (h12:b.length≤12) (hb:∀s∈b,s.fin kb) (hkb:kb≤1000):∀o∈os,o.km (kb+10)∧o.ts.length≤2:=fun o ho=>by
 obtain ⟨j,hj⟩:=Yc.1 ho;have hjn:j<os.length:=(Wk.1 hj).1;obtain ⟨s,hs⟩:=al (l:=b) (k:=j) VZ;obtain ⟨po,pl⟩:=zO (v:=b.length) (i:=j) h12 (hb s (Wb hs)) VZ;have hx:=uJ hs;generalize uT b.length j s=Q at hx po pl;obtain ⟨e1,e2,e3⟩:=hcp.eq j ⟨b.length,none,Q.length,0,Q⟩ o (by rw [Wg,hx];rfl) hj;replace e2:o.ts=Q:=e2;replace e3:o.n=Q.length:=e3;exact OS
def NF (b:List SR) (ns:List Nat) (C:List Dyadic):PX:=⟨(ns.length:Int),none,0,0,aM (mq b ns C)⟩
def MJ (fx:FX):List Dyadic:=HR fx.ns.reverse (fx.cs.map NR.d) fx.ns.length
def AD (fx:FX) (b:List SR):Int×List TR:=fM (NF b fx.ns (MJ fx)) (md b)
def qX (fx:FX) (b:List SR):Int:=if fx.e≠0 then fx.e else if nk b≠0 then nk b else if b.length≠fx.n then 1 else (AD fx b).1
def si (n k kb:Nat) (ns:List Nat):Nat:=k+520*n+(1+n+(kb+1)*ns.sum)
set_option maxRecDepth 10000 in
theorem A5 (fx:FX) (L:Option Addr) (n c:Nat) (b:List SR) (k kb:Nat) (w:World) (hT:er w) (hf:fx.at_ w) (hl:fx.km k) (hcap:fx.n≤fx.a) (hB:Sl w L n 6 (aA SR.cells b)) (hb:∀s∈b,s.fin kb) (hn:n≤1000000) (hkb:kb≤1000)
  (hK:fx.e=0→fx.n=n→si n k kb fx.ns≤400000) (hgr:fx.e=0→fx.n=n→gH (kb+16394) fx.ns (si n k kb fx.ns+4097)≤440000):
  Calls Tryz.prog 28 #[.agg #[.slice fx.A fx.n fx.a,.slice fx.B fx.m fx.b],.slice L n c] w fun r w'=>∃g:PX,fL (qX fx b) n (AD fx b).2 g∧r=.returned (.tuple #[.agg #[.int .i64 g.v,.slice g.A g.n g.c],.int .i64 (qX fx b)])∧Hp w [g.row] w':=by
 have hh:=Hp.start w;have hbl:b.length=n:=hB.bE SR.len V0;have hok:∀s∈b,s.ok:=fun s hs=>⟨(hb s hs).1.ok,(hb s hs).2.ok⟩;have hck:=fun w1 hT1 hb1=>sE fx k w1 hT1 (hf.ext hb1) hl;have hbc:=fun w1 hT1 hb1=>pN L n c b w1 hT1 (hB.ext hb1) hok hn;by_cases h0:fx.e=0
 ·by_cases h1:nk b=0
  ·by_cases h2:n=fx.n
   ·have hE:qX fx b=(AD fx b).1:=by unfold qX;rw [V6 VZ,V6 VZ,V6 VZ]
    have hpos:0<n:=by
     rw [←hbl];by_cases h:b.length=0
     ·unfold nk at h1;rw [V5 h] at h1;split at h1<;>omega
     ·omega
    obtain ⟨hdeg,hnum,h12,hlow,hcnt,hmax⟩:=FX.fv h0;have hln:=hf.ln.1;have hlm:=hf.ln.2;have hnl:fx.ns.length=n:=by unfold FX.ns;rw [Wi];omega
    have hdg:Sl w fx.A fx.n 1 (a7 (bp fx.ns)):=by rw [←hdeg];exact hf.dg
    obtain ⟨X,hX⟩:∃X,X=fx.cs.map NR.d:=⟨_,rfl⟩;have hC:MJ fx=HR fx.ns.reverse X n:=by unfold MJ;rw [hX,hnl]
    rw [←hX] at hnum;have hXl:X.length=ar fx.ns:=by rw [hX,Wi];exact hcnt
    have hXz:∀x∈X,Sz k x:=fun x h=>by
     rw [hX] at h;obtain ⟨z,hz,rfl⟩:=Wo.1 h;exact (hl.num z hz).2
    have hSX:Sl w fx.B fx.m 3 (aA NR.cells (X.map nR)):=by rw [←hnum];exact hf.nm
    have hmc:fx.m=ar fx.ns:=VZ;have hK:=hK h0 h2.symm;have hgr:=hgr h0 h2.symm;have hR:AD fx b=fM (NF b fx.ns (MJ fx)) (md b):=rfl;rw [hC] at hR;rw [hE];clear hE hC;generalize AD fx b=R0 at*;subst hR;have hfo:=fun w1 hT1 hb1=>rR L n c b w1 hT1 (hB.ext hb1) hok hn;generalize fx.ns=ns at*;generalize fx.ds=ds at*;generalize fx.cs=cs at*;have hdgw:∀(H:List HE) (w1:World),Hp w H w1→Sl w1 fx.A fx.n 1 (a7 (bp ns)):=fun H w1 h=>hdg.ext h.below;have hgX:∀j,(HR ns.reverse X j).length=ar ns:=fun j=>by rw [Mm (by rw [bM];exact hXl),bM]
    have hgZ:=JZ (ds:=ns.reverse) hXz (fun d hd=>hlow d (YX.1 hd));rw [h0] at hck;rw [h1] at hbc;refine EH ?_;refine sr ?_;refine bV hh [_,_] ?_;intro b2 w2 hh;refine bJ hh ?_;intro b4 w4 hh;refine aI (aa (ah (sr ?_)));refine bY hh 1 [_,_] ?_;refine eQ ?_;intro w28 hh;refine aI (aa (sr (mI ?_)));refine ue ?_;refine bq hh (hbc _ (hT.hp hh) hh.below) rfl ?_;intro w34 hh;refine aI (aa (sr (mI ?_)));refine rB ?_;refine bA hh 1 ?_;refine aF ?_;refine cY (aa (cF (ao (ai (sr (bC ?_))))));refine bA hh 1 ?_;refine aL (aa (ah (sr (bC ?_))));refine bA hh 1 ?_;refine aF (mI (aa (aq ?_)));refine bz [8,9,51,52,53,54,55,56,57,58,59,60] 8 51
     (fun q v w'=>∃(j:Nat) (A:Option Addr) (ac:Nat) (R:List HE),j≤n∧v=.int .i64 j∧q=.slice A fx.m ac∧(∀(H:List HE) (w1:World),Hp w (H++R) w1→Sl w1 A fx.m 3 (aA NR.cells ((HR ns.reverse X j).map nR)))∧Hp w (.blk b4 24 [.int .i64 0,.slice none 0 0] (0,0)::.blk b2 33 [.slice fx.A fx.n fx.a,.slice fx.B fx.m fx.b] (0,0)::R) w')
     (fun _ v _=>n-(intOf v).toNat) ?_ ?_
    ·exact ⟨0,fx.B,fx.b,[],V8 _,rfl,rfl,fun H w1 h=>hSX.ext h.below,hh⟩
    ·clear hh;rintro ρ' q_ v w' ⟨j,A,ac,R,hj,rfl,rfl,hrd,hh⟩;by_cases hlt:j<n
     ·obtain ⟨d,hd⟩:=al (l:=ns) (k:=j) VZ;have hd7:=hlow d (Wb hd);have hof:=fun w1 hs=>jJ fx.A fx.n fx.a j d ns w1 hs hcap VZ hd hlow VZ;have hrm:ns.reverse=(ns.drop (j+1)).reverse++d::(ns.take j).reverse:=qB hd;have hcn:fx.m=ar ((ns.drop (j+1)).reverse++d::(ns.take j).reverse):=by rw [←hrm,bM];exact hmc
      have hli:=fun w1 hT1 hS1=>mR 81 (ns.drop (j+1)).reverse (ns.take j).reverse d (d+1) (kK d (eV d 1 (-1))) A fx.m ac (k+520*j) (HR ns.reverse X j) w1 hT1 hS1 hcn VZ (V9 _) hd7 (hgZ j) (fun Y E ec w2 hT2 hy hs=>uu E (d+1) ec d Y (k+520*j) w2 hT2 hs rfl hd7 hy (by unfold si at hK;omega)) (fun Y _=>by simp [kK]);have hM:=H9 (M:=eV d 1 (-1)) (A:=(ns.drop (j+1)).reverse) (B:=(ns.take j).reverse) (X:=HR ns.reverse X j) ((hgX j).trans (hmc.symm.trans hcn));have hsu:=BH ns.reverse X j;have hgd:ns.reverse.getD (ns.reverse.length-1-j) 0=d:=by
       rw [Xl,Xh (by rw [WE];omega),WE,show ns.length-1-(ns.length-1-j)=j by omega,hd]
       rfl
      rw [hgd,show ns.reverse.length-1-j=(ns.drop (j+1)).reverse.length by rw [WE,WE,Xu];omega] at hsu;rw [hgX j,←hrm,←hsu,←hmc] at hM;rw [hM,bM] at hli;clear hM hsu hgd hcn;refine sr ?_;refine a0 (aa (ah (cT (ao (ai (ah (aq (sr (mI (aI (aa (ak (bC ?_)))))))))))));refine bA hh 1 ?_;refine mI ?_;refine bq hh (hof _ (hdgw _ _ hh)) rfl ?_;intro w57 hh;refine mL ?_;refine aE (hli _ (hT.hp hh) (hrd [_,_] _ hh)) au.out rfl V0 ?_;rintro e_ w59 ⟨E,ec,rfl,h4⟩;refine ⟨_,rfl, ?_⟩;replace hh:=hh.join h4;clear h4;simp only [Wf,Wd] at hh;refine lf ?_;refine bj (mI (az (ai ?_)));replace hh:=hh.sub (V7 _ (V7 _ (V7 _ (Xf _))));replace hh:=hh.perm (WZ (l₁:=[_,_]));simp only [Wf,Wd] at hh;replace hh:=hh.perm (WZ (l₁:=[_,_]));simp only [Wf,Wd] at hh;replace hh:=hh.sub (.cons_cons _ (.cons_cons _ (.cons_cons _ (Xq _))))
      refine ⟨⟨j+1,E,ec,[.row E fx.m ec 40 3 (aA NR.cells ((HR ns.reverse X (j+1)).map nR))],VZ,rfl,rfl,fun H w1 h=>iw (h.own _ (XU _ (Wu.2 rfl))),hh⟩,by show n-(j+1)<n-j;omega, ?_⟩;exact dF
     ·obtain rfl:n=j:=VZ;obtain ⟨adC,rfl⟩:∃ad,A=some ad:=let ⟨ad,e,_⟩:=(hrd [_,_] _ hh).at_ (by have:=cn ns;omega);⟨ad,e⟩;generalize hCC:HR ns.reverse X n=C at*;have hCl:C.length=ar ns:=by rw [←hCC];exact hgX n
      have hCz:∀x∈C,Sz (k+520*n) x:=by rw [←hCC];have:=hgZ n;exact this
      clear hgX hgZ;refine sr ?_;refine oE ?_;refine aE (hfo _ (hT.hp hh) hh.below) au.out rfl V0 ?_;rintro e_ w62 ⟨A62,c62,rfl,hown_,hb_⟩;refine ⟨_,rfl, ?_⟩;replace hh:=hh.aO (x:=.row _ _ _ _ _ _) hb_ hown_;obtain ⟨adS,hAS⟩:∃ad,A62=some ad:=let ⟨ad,e,_⟩:=(hh.aD (i:=0) rfl).at_ hpos;⟨ad,e⟩;rw [hAS] at hh ⊢;clear hAS;refine aL (aa (sr (aL (aa (ah (sr (mL (aF (mI (aa (aq ?_)))))))))));replace hh:=hh.cx 24 2;refine bz [10,11,12,13,14,15,16,17,18,65,66,67,68,69,70,71,72,73,74,75,76,77,78,79,80,81,82,83,84,85,86,87,88,89,90,91,92,93,94,95,96,97] 10 65
       (fun a v w'=>∃(i c3:Nat) (A:Option Addr) (os:List PX) (R2:List HE),i≤n∧v=.int .i64 i∧a=.slice A i c3∧os.length=i∧AP ((md b).map fun g=>⟨g.v,none,g.ts.length,0,g.ts⟩) os R2∧Hp w (.row A i c3 24 2 (aA PX.cells os)::.row (some adS) n c62 70 6 (aA SR.cells (b.map SR.f))::.blk b4 24 [.int .i64 0,.slice none 0 0] (0,0)::.blk b2 33 [.slice fx.A fx.n fx.a,.slice fx.B fx.m fx.b] (0,0)::(R2++R)) w')
       (fun _ v _=>n-(intOf v).toNat) ?_ ?_
      ·exact Oz
      ·clear hh;rintro ρ2 a_ v w2 ⟨i,c3,A,os,R2,hi,rfl,rfl,hol,hcp,hh⟩;by_cases hlt2:i<n
       ·obtain ⟨s,hs⟩:=al (l:=b) (k:=i) VZ;have hsf:=hb s (Wb hs);have hsn:(b.map SR.f)[i]?=some s.f:=by rw [Wg,hs];rfl
        have zL:=SR.Mh hsf;obtain ⟨po,pl⟩:=zO (v:=n) (i:=i) VZ hsf VZ;have vo:=sQ (v:=n) (i:=i) VZ;have co:=sG (v:=n) VZ zL.neg VZ;have hva:=fun w1 hT1=>tB (n:Int) (i:Int) w1 hT1;rw [Px VZ hlt2] at hva;rw [Xd] at hva;have zLo:(nR s.L).ok:=zL.ok VZ;have hng:=fun w1 hT1=>oN (nR s.L) w1 hT1 (by have:=zLo.1;omega) (by have:=zLo.2.1;omega) (by have:=zLo.2.2;omega);rw [cj] at hng;have hcn:=fun w1 hT1=>jN (n:Int) (nR (-s.L)) kb w1 hT1 ⟨zL.neg.ok VZ,by rw [cj];exact zL.neg⟩ VZ;rw [PU VZ] at hcn;have hV:aM [⟨mz n i,nR ((1:Int):Dyadic)⟩]=nZ n i:=rfl;have hC:aM [⟨fO n,nR (-s.L)⟩]=lG n (-s.L):=rfl;have hP:aM (nZ n i++lG n (-s.L))=uT n i s:=rfl;have tl1:(nZ n i).length≤1:=cB _;have ul1:(lG n (-s.L)).length≤1:=cB _;have hps:=uJ hs;rw [hbl] at hps;rw [hV] at hva;rw [hC] at hcn;clear hV hC;generalize nZ n i=VL at*;generalize lG n (-s.L)=CL at*;generalize uT n i s=PL at*;obtain ⟨ad',e',hrS⟩:=(hh.aD (i:=1) rfl).at_ hpos;obtain rfl:=WT e';refine sr ?_;refine dY ?_;refine cA ?_;refine cz (vs:=[_,_,_,_,_,_]) aJ.out rfl (hrS.recAt SR.len hsn) rfl V0 ?_
        refine bJ hh ?_;intro b12 w12 hh;refine aI ?_;refine bL hh 0 [_,_,_,_,_,_] ?_;intro ws hh;replace hh:Hp _ (.blk _ _ [_,_,_,_,_,_] _::_) _:=hh;refine aa (sr (mL (aF (mI ?_))));replace hh:=show Hp w (.blk b12 70 [.bool (nR s.L).neg,.string (nR s.L).bk,.int .i64 (nR s.L).e,.bool (nR s.H).neg,.string (nR s.H).bk,.int .i64 (nR s.H).e] (0,0)::_) _ from hh;refine aE (hva _ (hT.hp hh)) au.out rfl V0 ?_;rintro e_ w74 ⟨t,ot,rfl,h4⟩;refine ⟨_,rfl, ?_⟩;have htc:t.n≤t.c:=h4.eZ (i:=0) rfl;replace hh:=hh.join h4;clear h4;simp only [Wf,Wd] at hh;obtain ⟨tv,tA,tn,tc,tt⟩:=t;replace hh:=show Hp w (.row tA tn tc 80 4 (aA TR.cells tt)::_) _ from hh;have et:VL=tt:=ot.t0.symm;have ev_:tv=(n:Int):=ot.v0;subst et ev_;have tln:VL.length=tn:=(hh.aD (i:=0) rfl).bE TR.len V0;refine mT ?_;refine dE ?_;refine dE ?_;refine bJ hh ?_;intro b13 w13 hh;refine bL hh 0 [_,_] ?_;intro ws hh;replace hh:Hp _ (.blk _ _ [_,_] _::_) _:=hh;refine aI (aa (sr (mL (aF (bC ?_)))));refine bY hh 2 [_,_,_] ?_;refine bq hh (hng _ (hT.hp hh)) rfl ?_;intro w82 hh;refine aE (hcn _ (hT.hp hh)) au.out rfl V0 ?_
        rintro e_ w83 ⟨u,ou,rfl,h4⟩;refine ⟨_,rfl, ?_⟩;have huc:u.n≤u.c:=h4.eZ (i:=0) rfl;replace hh:=hh.join h4;clear h4;simp only [Wf,Wd] at hh;obtain ⟨uv,uA,un,uc,ut⟩:=u;replace hh:=show Hp w (.row uA un uc 80 4 (aA TR.cells ut)::_) _ from hh;have et:CL=ut:=ou.t0.symm;have ev_:uv=(n:Int):=ou.v0;subst et ev_;have uln:CL.length=un:=(hh.aD (i:=0) rfl).bE TR.len V0;refine mT ?_;refine dE ?_;refine dE ?_;refine bJ hh ?_;intro b15 w15 hh;refine bL hh 0 [_,_] ?_;intro ws hh;replace hh:Hp _ (.blk _ _ [_,_] _::_) _:=hh;refine aI (aa (sr ?_));refine bY hh 2 [_,_] ?_;refine bY hh 0 [_,_] ?_;refine Fq ?_;intro b89 w89 hh;have hlp:gC [⟨n,tA,tn,tc,VL⟩,⟨n,uA,un,uc,CL⟩]=0:=qb vo.e co.e rfl;have had:=fun A3 w1 hT1 hS1 s1 s2=>oU A3 2 2 [⟨n,tA,tn,tc,VL⟩,⟨n,uA,un,uc,CL⟩] (kb+10) w1 hT1 hS1 V0 (fun g hg=>by
         rcases Wp.1 hg with rfl|hg
         ·exact s1
         ·rw [Wu.1 hg];exact s2) (fun g hg=>by
         rcases Wp.1 hg with rfl|hg
         ·exact ⟨by show tn≤1000000;omega,htc,vo.ok.mono VZ,vo.sz⟩
         ·rw [Wu.1 hg];exact ⟨by show un≤1000000;omega,huc,co.ok.mono VZ,co.sz⟩) VZ
        unfold Hq at had;rw [V5 hlp,Jg] at had;dsimp only at had;rw [hP] at had;rw [lY (l:=VL++CL) (by rw [We];omega)] at had;refine aE (had _ _ (hT.hp hh) (hh.aD (i:=0) rfl) (hh.aD (i:=4) rfl) (hh.aD (i:=2) rfl)) au.out rfl V0 ?_;rintro e_ w90 ⟨z,oz,rfl,h4⟩;refine ⟨_,rfl, ?_⟩;have hzc:z.n≤z.c:=h4.eZ (i:=0) rfl;replace hh:=hh.join h4;clear h4;simp only [Wf,Wd] at hh;replace hh:=show Hp w (.row z.A z.n z.c 80 4 (aA TR.cells z.ts)::_) _ from hh;have zln:z.ts.length=z.n:=(hh.aD (i:=0) rfl).bE TR.len V0;refine mT ?_;refine dE ?_;refine dE ?_;refine bJ hh ?_;intro b17 w17 hh;refine bL hh 0 [_,_] ?_;intro ws hh;replace hh:Hp _ (.blk _ _ [_,_] _::_) _:=hh;refine aI (aa (ak (mL ?_)));refine bY hh 0 [_,_] ?_;refine cV hh (cs:=[_,_]) a9.out aJ.out (aV (g6 rfl) bW) rfl rfl V0 V0 V0 rfl V0 ?_;intro b95 w95 hh;refine cv hh (i:=9) rfl rfl rfl (hh.aD (i:=0) rfl) a9.out aJ.out rfl V0 (by first|rfl|exact dz _|exact cX _|exact bB _|exact bU NR.one _) VZ VZ V0 ?_;intro A96 c96 w96 hh;simp only [Wh,WI] at hh;replace hh:=hh.sub (WO _ _)
        refine lf ?_;refine bj (mI (az (ai ?_)));replace hh:=hh.sub (Wa _ (V7 _ (Wa _ (Wa _ (Wa _ (Wa _ (Wa _ (Wa _ (V7 _ (V7 _ (V7 _ (V7 _ (Xf _)))))))))))));replace hh:=hh.perm (WZ (l₁:=[_,_,_,_]));simp only [Wf,Wd] at hh;replace hh:=hh.perm (WZ (l₁:=[_,_,_,_]));simp only [Wf,Wd] at hh;replace hh:=hh.perm (WZ (l₁:=[_,_,_,_]));simp only [Wf,Wd] at hh;replace hh:=hh.perm (WZ (l₁:=[_,_,_,_]));simp only [Wf,Wd] at hh;have hcp2:=hcp.add (g:=⟨n,none,PL.length,0,PL⟩) (o:=z) (by rw [hol,Wg,hps];rfl) ⟨oz.v0,oz.t0,by rw [←zln,oz.t0]⟩ hzc;refine ⟨⟨i+1,c96,A96,os++[z],z.row::R2,VZ,rfl,rfl,by rw [We,hol];rfl,hcp2,by rw [bK,jv];exact hh⟩,by show n-(i+1)<n-i;omega, ?_⟩;exact dF
       ·obtain rfl:n=i:=VZ;have hol2:os.length=((md b).map fun g=>(⟨g.v,none,g.ts.length,0,g.ts⟩:PX)).length:=by rw [Wi,GI];omega
        have hkey:=hcp.key hol2;rw [W6] at hkey;replace hkey:os.map PX.norm=(md b).map PX.norm:=hkey;have hoc:n≤c3:=hh.eZ (i:=0) rfl;have hn12:n≤12:=VZ;have hxb:(mq b ns C).length=ar ns:=AJ b ns C;obtain ⟨bo1,bo2,bo3⟩:=QT (C:=C) (ns:=ns) hb VZ hCz hlow VZ (by rw [hnl];unfold si at hK;omega);have hmk:=JW (b:=b) (C:=C) (ns:=ns) VZ bo2 hmax;have hal:mj (bp ns)=kr ns:=by unfold mj;rw [show rD 1 (bp ns)=true from yS ns 1 hlow VZ (V9 _)];rfl
        have hall:=fun w1 hD=>Hi fx.A fx.n fx.a (bp ns) w1 hD VZ;rw [hal,xL] at hall;have hrd2:∀(H:List HE) (w1:World),Hp w (H++(R2++R)) w1→Sl w1 (some adC) fx.m 3 (aA NR.cells (C.map nR)):=fun H w1 h=>hrd (H++R2) w1 (by rw [WY];exact h);have hmy:=hcp.my;generalize hRR:(R2++R:List HE)=RR at*;refine sr ?_;refine a0 (aa (ah (cF (aZ (aC (aC (br (ai (sr (aL (aa (ah (sr (bC ?_))))))))))))));refine bA hh 3 ?_;refine aE (hall _ (hdgw _ _ hh)) au.out rfl V0 ?_;rintro e_ w100 ⟨A100,c100,rfl,hown_,hb_⟩;refine ⟨_,rfl, ?_⟩;replace hh:=hh.aO (x:=.row _ _ _ _ _ _) hb_ hown_;refine aF (mI (aa (aq ?_)));replace hh:=hh.cx 80 4;refine bz [19,20,21,22,23,24,102,103,104,105,106,107,108,109,110,111,112,113,114,115,116,117,118,119,120,121,122,123,124,125,126,127,128,129,130,131,132,133,134,135,136,137,138,139,140,141,142,143,144,145,146,147,148] 19 102
         (fun a v w'=>∃(i c1:Nat) (D:Option Addr),i≤ar ns∧v=.int .i64 i∧a=.slice D i c1∧Hp w (.row D i c1 80 4 (aA TR.cells ((mq b ns C).take i))::.row A100 (ar ns) c100 9 1 (gM (kr ns))::.row A n c3 24 2 (aA PX.cells os)::.row (some adS) n c62 70 6 (aA SR.cells (b.map SR.f))::.blk b4 24 [.int .i64 0,.slice none 0 0] (0,0)::.blk b2 33 [.slice fx.A fx.n fx.a,.slice fx.B fx.m fx.b] (0,0)::RR) w')
         (fun _ v _=>ar ns-(intOf v).toNat) ?_ ?_
        ·exact ⟨0,0,none,V8 _,rfl,rfl,hh⟩
        ·clear hh;rintro ρ3 a_ v w3 ⟨i,c1,D,hi2,rfl,rfl,hh⟩;by_cases hlt3:i<ar ns
         ·obtain ⟨x,hx⟩:=al (l:=C) (k:=i) VZ;have hxn:(C.map nR)[i]?=some (nR x):=by rw [Wg,hx];rfl
          have zx:=hCz x (Wb hx);have hax:iX C i=x:=by unfold iX;rw [hx];rfl
          have hti:=MM (b:=b) (C:=C) hlt3;have hms:(gM (kr ns))[i]?=some (.string (fX (bp (jL ns i)))):=by unfold gM;rw [Wg,pG hlt3];rfl
          have hmm:=bo2 _ (Wb hti);have hmz:=(bo3 _ (Wb hti)).1;have hrl:=m8 ns i;have hrr:∀(q d r:Nat),ns[q]?=some d→(jL ns i)[q]?=some r→r≤d:=fun q d r h1 h2=>yv h1 h2;have hes:=y9 (p:=i) hlow;unfold RI at hti hmm hmz;rw [hax] at hti;generalize fX (bp (jL ns i))=M at*;generalize jL ns i=es at*;have hex:il M.data.toList=bp es:=by rw [jS (by unfold fY at hmm;rw [Wm] at hmm;exact hmm.1),xu,hes]
          have hel:(il M.data.toList).length=n:=by rw [hex,gJ];omega
          have hxp:=fun w1=>g8 M w1 hmz;rw [hel,hex] at hxp;obtain ⟨ad',e',hrC⟩:=(hrd2 [_,_,_,_,_,_] _ hh).at_ VZ;obtain rfl:=WT e';obtain ⟨ga,rfl⟩:=hh.bZ (i:=1) rfl VZ;refine sr ?_;refine dY ?_;refine fP ?_;refine Lz ?_;refine aI (aS (aa (sr (mL (mI ?_)))));refine cK a9.out aJ.size rfl rfl rfl VZ V0 ?_;refine cz (vs:=[_,_,_]) aJ.out rfl (hrC.recAt NR.len hxn) rfl V0 ?_;refine bJ hh ?_;intro b22 w22 hh;refine bL hh 0 [_,_,_] ?_;intro ws hh;replace hh:Hp _ (.blk _ _ [_,_,_] _::_) _:=hh;refine aa (ah (sr (mS ?_)));refine aE (hxp _) au.out rfl V0 ?_;rintro e_ w112 ⟨A112,c112,rfl,hown_,hb_⟩;refine ⟨_,rfl, ?_⟩;replace hh:=hh.aO (x:=.row _ _ _ _ _ _) hb_ hown_;refine aF (mI (aa (aq ?_)));rw [show x=x*wP b ns es 0 by show x=x*1;rw [Dyadic.mul_one]] at hh;refine aW [23,24,114,115,116,117,118,119,120,121,122,123,124,125,126,127,128,129,130,131,132,133,134,135,136,137,138,139,140,141] 114
           (fun v w'=>∃q:Nat,q≤n∧v=.int .i64 q∧Hp w (.row A112 n c112 3 1 (a7 (bp es))::.blk b22 40 [.bool (nR (x*wP b ns es q)).neg,.string (nR (x*wP b ns es q)).bk,.int .i64 (nR (x*wP b ns es q)).e] (0,0)::.row D i c1 80 4 (aA TR.cells ((mq b ns C).take i))::.row (some ⟨ga,0,none⟩) (ar ns) c100 9 1 (gM (kr ns))::.row A n c3 24 2 (aA PX.cells os)::.row (some adS) n c62 70 6 (aA SR.cells (b.map SR.f))::.blk b4 24 [.int .i64 0,.slice none 0 0] (0,0)::.blk b2 33 [.slice fx.A fx.n fx.a,.slice fx.B fx.m fx.b] (0,0)::RR) w')
           (fun v _=>n-(intOf v).toNat) ?_ ?_
          ·exact ⟨0,V8 _,rfl,hh⟩
          ·clear hh;rintro ρ4 v w4 ⟨q,hq,rfl,hh⟩;by_cases hqn:q<n
           ·obtain ⟨s,hs⟩:=al (l:=b) (k:=q) VZ;obtain ⟨d,hd⟩:=al (l:=ns) (k:=q) VZ;obtain ⟨r,hr⟩:=al (l:=es) (k:=q) VZ;have hsf:=hb s (Wb hs);have hsn:(b.map SR.f)[q]?=some s.f:=by rw [Wg,hs];rfl
            have hrd3:=hrr q d r hd hr;have hd7:=hlow d (Wb hd);have hgE:=bR (ez hr);have hgD:(a7 (bp ns))[q]?=some (.int .i64 (d:Int)):=bR (ez hd);have zW:=(SR.Sf hsf).sub (SR.Mh hsf);have hsu:=fun w1 hT1=>l9 (nR s.H) (nR s.L) w1 hT1 ((SR.Sf hsf).ok VZ) ((SR.Mh hsf).ok VZ) kb (by rw [cj];exact SR.Sf hsf) (by rw [cj];exact SR.Mh hsf) VZ;rw [cj,cj] at hsu;have hwi:wP b ns es (q+1)=wP b ns es q*(s.H-s.L)^(d-r):=by
             show wP b ns es q*Dv b q^(ns.getD q 0-es.getD q 0)=_;rw [show Dv b q=s.H-s.L by unfold Dv;rw [hs],Xl,Xl,hd,hr]
             rfl
            have zq:=zx.mul (Jy (es:=es) (ns:=ns) hb q VZ);have hsum:(ns.take q).sum≤ns.sum:=by
             conv=>rhs;rw [←W9 q ns,List.sum_append]
             omega
            have hsum2:=WM (kb+1) hsum;have hnw:=zW.nr;have hpm:(d-r)*(nR (s.H-s.L)).bk.size≤1000000:=WK (Yr (show d-r≤127 by omega) (show (nR (s.H-s.L)).bk.size≤1100 by omega)) V0;have hpw:=fun w1 hT1=>uX (nR (s.H-s.L)) ((d:Int)-(r:Int)) w1 hT1 (zW.ok VZ) (by rw [show ((d:Int)-(r:Int)).toNat=d-r by omega];exact hpm) VZ;rw [cj,show ((d:Int)-(r:Int)).toNat=d-r by omega] at hpw;have zp:=zW.BK (show d-r≤127 by omega);have hm2:=fun A cc w1 hT1 hS1=>fk A 2 cc [nR (x*wP b ns es q),nR ((s.H-s.L)^(d-r))] w1 hT1 hS1 (by simpa using ⟨zq.ok (by unfold si at hK;omega),zp.ok VZ⟩) 600000 (by simpa [cj] using ⟨zq.mono (by unfold si at hK;omega),zp.mono VZ⟩) VZ VZ;rw [show ik ([nR (x*wP b ns es q),nR ((s.H-s.L)^(d-r))].map NR.d)=x*wP b ns es (q+1) by simp only [Wv,WV,cj];show 1*(x*wP b ns es q)*_=_;rw [Yt,hwi,Dyadic.mul_assoc]] at hm2;obtain ⟨ad',e',hrS⟩:=(hh.aD (i:=5) rfl).at_ hpos;obtain rfl:=WT e';obtain ⟨adD,hAD,hrD⟩:=(hdgw _ _ hh).at_ VZ
            have su:Value.slice fx.A fx.n fx.a=.slice (some adD) fx.n fx.a:=by rw [hAD]
            clear hwi;generalize x*wP b ns es q=y at*;generalize hy2:x*wP b ns es (q+1)=y2 at*;generalize (s.H-s.L)^(d-r)=u at*;obtain ⟨ge,rfl⟩:=hh.bZ (i:=0) rfl VZ;refine sr ?_;refine dY ?_;refine dq (k:=q) a9.out aJ.size rfl rfl VZ VZ V0 ?_;refine ji ?_;refine aI (aI (aa ?_));refine aN 20 [[(22,none)],[(1,none)],[(23,none)],[(120,some 1),(121,some 2)],[(122,some 3)],[(123,some 4)],[(1,none)],[(23,none)],[(125,some 6),(126,some 7)],[(127,some 8)],[(128,some 9)],[(124,some 5),(129,some 10)],[(2,none)],[(131,some 12)],[(23,none)],[(132,some 13),(133,some 14)],[(134,some 15)],[(24,none)],[(135,some 16),(136,some 17)],[(130,some 11),(137,some 18)]] [(19,138),(18,137),(17,136),(16,135),(15,134),(14,133),(13,132),(12,131),(11,130),(10,129),(9,128),(8,127),(7,126),(6,125),(5,124),(4,123),(3,122),(2,121),(1,120),(0,119)] hh mixed V2 ?_;refine eJ 1 [_,_,_] ?_;refine fD ?_;refine dn ?_;refine nC (q) ?_;refine P3 ?_;refine qK [_,_,_] (fun _ hj=>((((hrS.ext hj.bl).recAt SR.len hsn).drop 3).take 3)) ?_;refine fD ?_;refine dn ?_;refine nC (q) ?_;refine P3 ?_
            refine qK [_,_,_] (fun _ hj=>((((hrS.ext hj.bl).recAt SR.len hsn).drop 0).take 3)) ?_;refine dC (fun _ hj=>hsu _ (hT.hp hj.hp)) ?_;refine da ?_;refine dN 7 ?_;refine dn ?_;refine aP (i:=15) (Is (.pointer (some (adD.add (q*1))))) (Is.ext) ?_ ?_
            ·intro ρ1 w1 hj hR;exact dv rfl (ep (k:=q) a9.out aJ.size ((show ρ1 132=Value.slice _ _ _ from hR.1).trans su) (show ρ1 133=Value.int _ _ from hR.2.1) VZ VZ) ⟨Below.refl _ _,rfl⟩
            refine uF (fun _ hj=>(hrD.ext hj.bl).wN hgD) ?_;refine dn ?_;refine so ?_;refine dC (fun _ hj=>hpw _ (hT.hp hj.hp)) ?_;refine aG ?_;intro f W hJ hV;have hb_33:=hJ.bl;obtain ⟨v138,v137,v136,v135,v134,v133,v132,v131,v130,v129,v128,v127,v126,v125,v124,v123,v122,v121,v120,v119,_⟩:=hV;replace hh:=hJ.hp;refine aU (bg (ae v138 (ae v137 (ae v136 (ae v135 (ae v134 (ae v133 (ae v132 (ae v131 (ae v130 (ae v129 (ae v128 (ae v127 (ae v126 (ae v125 (ae v124 (ae v123 (ae v122 (ae v121 (ae v120 (ae v119 aT))))))))))))))))))))) ?_;dsimp only [bI];clear hJ;refine xI ?_;intro b139 w139 hh;refine bq hh (hm2 _ _ _ (hT.hp hh) (hh.aD (i:=0) rfl)) rfl ?_;intro w140 hh;refine bL hh 2 [_,_,_] ?_;intro ws hh;replace hh:Hp _ (_::_::.blk _ _ [_,_,_] _::_) _:=hh;refine fN ?_;refine bj (mI (az (ai ?_)));replace hh:=hh.sub (Wa _ (V7 _ (V7 _ (V7 _ (V7 _ (V7 _ (V7 _ (V7 _ (V7 _ (Xf _))))))))))
            refine ⟨⟨q+1,VZ,rfl,by rw [hy2];exact hh⟩,by show n-(q+1)<n-q;omega, ?_⟩;exact dF
           ·obtain rfl:n=q:=VZ;rw [hbl] at hti;refine sr ?_;refine a0 (aa (ah (cF (aZ (aC (aC (br (ai (ak (mL (mS ?_)))))))))));refine bY hh 1 [_,_,_] ?_;refine fe [_,_,_,_] ?_;refine Ch ?_;intro b146 w146 hh;refine Ql ?_;intro A147 c147 w147 hh;simp only [Wh,WI] at hh;replace hh:=hh.sub (WO _ _);refine lf ?_;refine bj (mI (az (ai ?_)));have e1:aA TR.cells ((mq b ns C).take i)++[.string M,.bool (nR (x*wP b ns es n)).neg,.string (nR (x*wP b ns es n)).bk,.int .i64 (nR (x*wP b ns es n)).e]=aA TR.cells ((mq b ns C).take (i+1)):=by rw [ay hti,bK,jv];rfl
            replace hh:=hh.sub (Wa _ (Wa _ (V7 _ (V7 _ (V7 _ (V7 _ (V7 _ (V7 _ (Xf _)))))))));replace hh:=show Hp w (.row A147 (i+1) c147 80 4 (aA TR.cells ((mq b ns C).take i)++[.string M,.bool (nR (x*wP b ns es n)).neg,.string (nR (x*wP b ns es n)).bk,.int .i64 (nR (x*wP b ns es n)).e])::_) _ from hh;rw [e1] at hh;refine ⟨⟨i+1,c147,A147,VZ,rfl,rfl,hh⟩,by show ar ns-(i+1)<ar ns-i;omega, ?_⟩;exact dF
         ·obtain rfl:ar ns=i:=VZ;rw [Wc VZ] at hh;have hbz:=fun t ht=>(bo3 t ht).1;have hmA:=fun w1 hT1 hS1=>mF (n:Int) D (ar ns) c1 (mq b ns C) (si n k kb ns) w1 hT1 hS1 VZ VZ (bo1.mono (by rw [hnl];exact V9 _)) hbz;rw [hnl] at hmk bo2;rw [hmk] at hmA;refine sr ?_;refine a0 (aa (ah (cF (aZ (aC (aC (br (ai (sr (mL (aF (mL ?_))))))))))));refine aE (hmA _ (hT.hp hh) (hh.aD (i:=0) rfl)) au.out rfl V0 ?_;rintro e_ w153 ⟨g,og,rfl,h4⟩;refine ⟨_,rfl, ?_⟩;have hgc:g.n≤g.c:=h4.eZ (i:=0) rfl;replace hh:=hh.join h4;clear h4;simp only [Wf,Wd] at hh;obtain ⟨gv,gA,gn,gc,gt⟩:=g;replace hh:=show Hp w (.row gA gn gc 80 4 (aA TR.cells gt)::_) _ from hh;replace hgc:gn≤gc:=hgc;have et:aM (mq b ns C)=gt:=og.t0.symm;have ev_:gv=(n:Int):=og.v0;subst ev_;have gln:gt.length=gn:=(hh.aD (i:=0) rfl).bE TR.len V0;have gl2:gt.length≤4096:=by rw [←et];exact WK (cB _) VZ
          have gok:kS (n:Int) (si n k kb ns+4096) gt:=by
           rw [←et];exact j2 (jc hn12) bo2 (bo1.mono (by rw [hnl];exact V9 _)) hbz VZ (V9 _) VZ
          have hgex:∀(i d:Nat),ns[i]?=some d→d≤127∧∀t∈gt,kp i t≤d:=fun i d hd=>⟨hlow d (Wb hd),fun t ht=>by
           rw [←et] at ht;obtain ⟨s,hs,e⟩:=iQ t ht;obtain ⟨_,p,hp⟩:=bo3 s hs;rw [Fg,←e,hp]
           cases hr:(jL ns p)[i]? with
           |none=>exact V8 _
           |some r=>exact yv hd hr⟩
          have hall:=GV hcp VZ VZ hb VZ;have hhv:gm (md b)=n:=by
           obtain ⟨s,hs⟩:=al (l:=b) (k:=0) VZ;rw [m6 (uJ hs),hbl]
          obtain ⟨ks,kh⟩:=Gi (o:=⟨(n:Int),gA,gn,gc,gt⟩) (p:=NF b ns C) (by show (n:Int)=(ns.length:Int);omega) et.symm hkey;have hfit:Uo ⟨(n:Int),gA,gn,gc,gt⟩ os (si n k kb ns+4096) (kb+10) 2 (kb+16394) ns:=⟨VZ,hgex,hgr,VZ,VZ,fun g hg=>(hall g hg).1,fun g hg=>(hall g hg).2⟩;have hsu:=fun w1 hT1 ha hs hm hc=>qC ⟨(n:Int),gA,gn,gc,gt⟩ A c3 os (si n k kb ns+4096) (kb+10) 2 (kb+16394) ns w1 hT1 ha ⟨by show gn≤1000000;omega,hgc,gok.ok,gok.sz⟩ hs hm hc hfit;rw [ks,kh,hhv,hol] at hsu;generalize fM (NF b ns C) (md b)=R0 at*;refine mT ?_;refine dE ?_;refine dE ?_;refine bJ hh ?_;intro b25 w25 hh;refine bL hh 0 [_,_] ?_;intro ws hh;replace hh:Hp _ (.blk _ _ [_,_] _::_) _:=hh;refine aI (aa (ah (sr (mI ?_))));refine te ?_;refine bY hh 0 [_,_] (mL ?_);refine aE (hsu _ (hT.hp hh) (hh.aD (i:=1) rfl) (hh.aD (i:=4) rfl) (fun z hz=>F5 hh (Wl _ (Wl _ (Wl _ (Wl _ (Wl _ (Wl _ (Wl _ (Wl _ (hRR ▸ X5 R (hmy z hz).1)))))))))) hoc) au.out rfl V0 ?_
          rintro e_ w162 ⟨z,oz,rfl,h4⟩;refine ⟨_,rfl, ?_⟩;replace hh:=hh.join h4;clear h4;simp only [Wf,Wd] at hh;refine dE ?_;refine dE ?_;refine bL hh 7 [_,_] ?_;intro ws hh;replace hh:Hp _ (_::_::_::_::_::_::_::.blk _ _ [_,_] _::_) _:=hh;refine aI (aa (av ?_));refine LN (dT rfl (dW (vs:=[_,_]) aJ.out (hh.bP (i:=7) (n:=2) rfl rfl) rfl) (iB (jh rfl) e8)) ?_;exact ⟨z,oz,rfl,hh.sub (V7 _ (Xq _))⟩
   ·have hE:qX fx b=1:=by unfold qX;rw [V6 VZ,V6 VZ,V5 VZ]
    rw [h0] at hck;rw [h1] at hbc;rw [hE];have hln:=hf.ln.1;refine EH ?_;refine sr ?_;refine bV hh [_,_] ?_;intro b2 w2 hh;refine bJ hh ?_;intro b4 w4 hh;refine aI (aa (ah (sr ?_)));refine bY hh 1 [_,_] ?_;refine eQ ?_;intro w28 hh;refine aI (aa (sr (mI ?_)));refine ue ?_;refine bq hh (hbc _ (hT.hp hh) hh.below) rfl ?_;intro w34 hh;refine aI (aa (sr (mI ?_)));refine rB ?_;refine bA hh 1 ?_;refine aF ?_;refine cY (aa (cT (sr ?_)));refine fe [_,_] ?_;exact SC
  ·have hE:qX fx b=nk b:=by unfold qX;rw [V6 VZ,V5 h1]
   rw [h0] at hck;rw [hE];refine EH ?_;refine sr ?_;refine bV hh [_,_] ?_;intro b2 w2 hh;refine bJ hh ?_;intro b4 w4 hh;refine aI (aa (ah (sr ?_)));refine bY hh 1 [_,_] ?_;refine eQ ?_;intro w28 hh;refine aI (aa (sr (mI ?_)));refine ue ?_;refine bq hh (hbc _ (hT.hp hh) hh.below) rfl ?_;intro w34 hh;exact Pe
 ·have hE:qX fx b=fx.e:=by unfold qX;rw [V5 h0]
  rw [hE];refine EH ?_;refine sr ?_;refine bV hh [_,_] ?_;intro b2 w2 hh;refine bJ hh ?_;intro b4 w4 hh;refine aI (aa (ah (sr ?_)));refine bY hh 1 [_,_] ?_;refine eQ ?_;intro w28 hh;exact Pe
def UQ:List (Nat→Dyadic)→List Nat→Dyadic
 |f::fs,r::rs=>f r*UQ fs rs
 |_,_=>1
def vG (ds:List Nat) (X:List Dyadic) (fs:List (Nat→Dyadic)):Dyadic:=sR ds fun row=>co ds X row*UQ fs row
def Tt (ds:List Nat) (ts:List Dyadic):List (Nat→Dyadic):=List.zipWith (fun d t r=>vz d r t) ds ts
def U9 (ts:List Dyadic):List (Nat→Dyadic):=ts.map fun t r=>t^r
def Vm (ds:List Nat) (ts:List Dyadic) (k:Nat):List (Nat→Dyadic):=(Tt ds ts).take (ds.length-k)++(U9 ts).drop (ds.length-k)
def wT (b:List SR) (ns:List Nat):Nat→Dyadic
 |0=>1
 |i+1=>wT b ns i*Dv b i^(ns.getD i 0)
structure UL (p:PX) (b:List SR) (fx:FX) (ns:List Nat):Prop where
 e:qX fx b=0
 q:(AD fx b).2=aM (p.ts.map (rl (wT b ns b.length)))
 s:Hs p (wT b ns b.length)=0
 n:(aM (p.ts.map (rl (wT b ns b.length)))).length≤8
theorem AZ (ns:List Nat) (a:Nat):(dJ ns a).length=ns.length:=by unfold dJ;rw [X8]
theorem F1 {ns:List Nat}{a i d':Nat} (h:(dJ ns a)[i]?=some d'):∃d,ns[i]?=some d∧d'=if i=a then d-1 else d:=by
 unfold dJ at h;rw [XB] at h;by_cases hi:a=i
 ·subst hi;rw [V5 rfl] at h;by_cases hl:a<ns.length
  ·obtain ⟨d,hd⟩:=al hl;rw [V5 hl,Xl,hd] at h;exact ⟨d,hd,by rw [V5 rfl];exact (WT h).symm⟩
  ·rw [V6 hl] at h;cases h
 ·rw [V6 hi] at h;exact ⟨d',h,by rw [V6 (fun c=>hi c.symm)]⟩
theorem Oi {ns:List Nat}{a:Nat}:∀(i x y:Nat),(dJ ns a)[i]?=some x→ns[i]?=some y→x≤y:=fun i x y hx hy=>by
 obtain ⟨d,hd,e⟩:=F1 hx;rw [hy] at hd;obtain rfl:=WT hd;split at e<;>omega
theorem Ko {ns:List Nat}{a d:Nat} (h:ns[a]?=some d):(dJ ns a).reverse=(ns.drop (a+1)).reverse++(d-1)::(ns.take a).reverse:=by
 have ha:=(Wk.1 h).1;have h1:(dJ ns a)[a]?=some (d-1):=by
  unfold dJ;rw [XB,V5 rfl,V5 ha,Xl,h]
  rfl
 rw [qB h1];unfold dJ;rw [List.drop_set_of_lt (Nat.lt_succ_self a),List.take_set_of_le (V9 a)]
structure Uw (p q:PX) (b:List SR) (ns:List Nat) (a:Nat) (X:List Dyadic):Prop where
 Uj:J3 q.v 300 8 4 q.ts
 e:vR q b (bp (dJ ns a))=0
 grow:gH (300+300+16394) (lV q.v q.ts) (300+1)≤440000
 x:zJ (dJ ns a) (fM q (cw b)).2=lZ ns a X
variable {rs:List Nat}
theorem Nh {l:List Nat}{a x:Nat} (hl:l.length=n) (hk:k=n-1-a) (ha:a<n):l.set k x=(l.reverse.set a x).reverse:=by
 refine XK fun i=> ?_
 rcases WW i n with h|h
 ·rw [Xh (by rw [X8,WE];omega),X8,WE,hl,XB,XB,Xh VZ,hl,show n-1-(n-1-i)=i by omega,WE];by_cases h1:k=i
  ·rw [V5 h1,V5 VZ,V5 VZ,V5 VZ]
  ·rw [V6 h1,V6 VZ]
 ·rw [WN (by rw [X8];omega),WN (by rw [WE,X8,WE];omega)]
theorem Nj {rr:List Nat}{ex:List Value}{a:Nat} (h:a<rr.length) (hm:m=j) (hj:j+1<256):cd (jB (fX (bp rr)).data.toList++ex) (a*1) [.int .u8 (((m+1) % 256:Nat):Int)]=jB (bS (rr.set a (j+1)))++ex:=by
 subst hm;have e1:(fX (bp rr)).data.toList=bS rr:=rfl;have hl:(jB (bS rr)).length=rr.length:=by rw [iU];unfold bS;rw [Wi,gJ]
 rw [e1,Wn,cN (by rw [We];omega),List.set_append_left _ _ VZ];congr 1;unfold jB bS bp;rw [W6,W6,W6,W6,YC];congr 1
theorem IG {ns:List Nat} (hl:rs.length=ns.length) (hok:∀(i d r:Nat),ns[i]?=some d→rs[i]?=some r→r≤d):eu ns.reverse rs.reverse<ar ns:=by
 have h8:mh ns.reverse rs.reverse:=(iP _ _).2 ⟨by rw [WE,WE];omega,fun i d r hd hr=>by
  have hi:=(Wk.1 hd).1;rw [WE] at hi;rw [Xh hi] at hd;rw [Xh VZ,show rs.length-1-i=ns.length-1-i by omega] at hr;exact hok _ d r hd hr⟩
 have h9:=lX h8;rwa [bM] at h9
theorem OE (a:NR) (y:Dyadic) (w:World) (ha:a.ok) (hy:(nR y).ok):
  Calls Tryz.prog 75 #[.agg #[.bool a.neg,.string a.bk,.int .i64 a.e],.agg #[.bool (nR y).neg,.string (nR y).bk,.int .i64 (nR y).e]] w fun r w'=>r=.returned (.agg #[.bool (nR (a.d*y)).neg,.string (nR (a.d*y)).bk,.int .i64 (nR (a.d*y)).e])∧Below w.heap.size w w':=by
 have:=ql a (nR y) w (by have:=ha.1;omega) (by have:=hy.1;omega) (by have:=ha.2;omega) (by have:=ha.2;omega) (by have:=hy.2;omega) (by have:=hy.2;omega);rwa [cj] at this
theorem zD (fx:FX) (ax:Int) (k:Nat) (w:World) (hf:fx.at_ w) (hl:fx.km k) (hE:ej fx ax≠0):
  Calls Tryz.prog 23 #[.agg #[.slice fx.A fx.n fx.a,.slice fx.B fx.m fx.b],.int .i64 ax] w fun r w'=>r=.returned (.tuple #[.agg #[.slice none 0 0,.slice none 0 0],.int .i64 (ej fx ax)])∧Below w.heap.size w w':=by
 have hh:=Hp.start w;have hhas:=fun w1 hb=>lM fx ax k w1 (hf.ext hb) hl;generalize ej fx ax=C at*;refine aj (N:=110) (l:=[.agg #[.slice fx.A fx.n fx.a,.slice fx.B fx.m fx.b],.int .i64 ax]) Tryz.func23 rfl rfl (by simp) ?_;refine sr ?_;refine bV hh [_,_] ?_;intro b2 w2 hh;refine bJ hh ?_;intro b4 w4 hh;refine aI (aa (ah (sr ?_)));refine bY hh 1 [_,_] (mI ?_);refine bq hh (hhas _ hh.below) rfl ?_;intro w17 hh;exact Ll
theorem vC (fx:FX) (a d:Nat) (k:Nat) (w:World) (hf:fx.at_ w) (hl:fx.km k) (hk:k≤500000) (h0:fx.e=0) (hd:fx.ns[a]?=some d):
  Calls Tryz.prog 23 #[.agg #[.slice fx.A fx.n fx.a,.slice fx.B fx.m fx.b],.int .i64 a] w fun r w'=>∃g:FX,Out 0 (dJ fx.ns a) (lZ fx.ns a (fx.cs.map NR.d)) g∧r=.returned (.tuple #[.agg #[.slice g.A g.n g.a,.slice g.B g.m g.b],.int .i64 0])∧Hp w [g.mP,g.mi] w':=by
 have hh:=Hp.start w;obtain ⟨hdeg,hnum,h12,hlow,hcnt,hmax⟩:=FX.fv h0;have hln:=hf.ln.1;have hlm:=hf.ln.2;have hnl:fx.ns.length=fx.n:=by unfold FX.ns;rw [Wi];exact hln
 have ha:=(Wk.1 hd).1;have hd127:=hlow d (Wb hd);have hE:ej fx (a:Int)=0:=by unfold ej;rw [V6 VZ,V6 VZ]
 have hhas:=fun w1 hb=>lM fx (a:Int) k w1 (hf.ext hb) hl;rw [hE] at hhas;have hdg:Sl w fx.A fx.n 1 (a7 (bp fx.ns)):=by rw [←hdeg];exact hf.dg
 have hgd:(a7 (bp fx.ns))[a]?=some (.int .i64 (d:Int)):=bR (ez hd);obtain ⟨ad0,hAD,sD⟩:=hdg.at_ VZ;have su:Value.slice fx.A fx.n fx.a=.slice (some ad0) fx.n fx.a:=by rw [hAD]
 have hone2:=bB (bp fx.ns);refine aj (N:=110) (l:=[.agg #[.slice fx.A fx.n fx.a,.slice fx.B fx.m fx.b],.int .i64 a]) Tryz.func23 rfl rfl (by simp) ?_;refine sr ?_;refine bV hh [_,_] ?_;intro b2 w2 hh;refine bJ hh ?_;intro b4 w4 hh;refine aI (aa (ah (sr ?_)));refine bY hh 1 [_,_] (mI ?_);refine bq hh (hhas _ hh.below) rfl ?_;intro w17 hh;refine aI (aa (sr (mI ?_)));refine te ?_;refine iG hh a9.out aJ.out V0 ?_;intro b22 w22 hh;refine bC ?_;refine bA hh 2 ?_;refine pS rfl rfl (hdg.ext hh.below) a9.out aJ.out rfl V0 hone2 (by unfold maxLen;omega) VZ V0 ?_ ?_
 ·intro h;omega
 ·intro A25 c25 w25 h0_ hb_ ho;replace hh:=hh.aO (x:=.row _ _ _ _ _ _) hb_ ho;obtain ⟨g25,rfl⟩:=hh.bZ (i:=0) rfl VZ;refine fe [_,_] ?_;refine bJ hh ?_;intro b7 w7 hh;refine bL hh 0 [_,_] ?_;intro ws hh;replace hh:Hp _ (.blk _ _ [_,_] _::_) _:=hh;refine aa (sr (bC ?_));refine bA hh 4 ?_;refine mI ?_;refine I2 ?_;refine Fa ?_;replace hh:=show Hp w (.blk b7 33 [.slice (some ⟨g25,0,none⟩) fx.n c25,.slice none 0 0] (0,0)::_) _ from hh;have hil:(a7 (bp fx.ns)).length=fx.n:=by rw [bQ,gJ];exact hnl
  refine aI (aa (sr (bC ?_)));refine bA hh 0 ?_;refine mI (mI ?_);refine dQ ?_;refine j0 rfl rfl V0 ?_;refine xM ?_;refine KN ?_;intro ws hh;simp only [Wh,WI] at hh;have hg:fx.ns.getD a 0=d:=by rw [Xl,hd];rfl
  have hsp:cd (a7 (bp fx.ns)) (a*1) [.int .i64 (if 0>(d:Int)-1 then 0 else (d:Int)-1)]=a7 (bp (dJ fx.ns a)):=by
   have h8:(if 0>(d:Int)-1 then 0 else (d:Int)-1)=((d-1:Nat):Int):=by split<;>omega
   rw [h8,Wn];unfold cd dJ;rw [hg,Y6,V5 ha];simp [a7,bp]
  rw [hsp] at hh;have hDl:(dJ fx.ns a).length=fx.n:=by rw [AZ];exact hnl
  have hDle:ar (dJ fx.ns a)≤ar fx.ns:=we (AZ _ _) Oi;have hDlow:∀x∈dJ fx.ns a,x≤127:=fun x hx=>by
   obtain ⟨i,hi⟩:=Yc.1 hx;obtain ⟨y,hy,e⟩:=F1 hi;have:=hlow y (Wb hy);split at e<;>omega
  have hDr:=Ko hd;have hcD:=cn (dJ fx.ns a);have hrw:=fun c0 w1 hs=>lT (some ⟨g25,0,none⟩) fx.n c0 (dJ fx.ns a) w1 hs VZ hDlow VZ;refine aa (sr (bC ?_));refine bA hh 0 ?_;refine aE (hrw _ _ (hh.aD (i:=1) rfl)) au.out rfl V0 ?_;rintro e_ w41 ⟨A41,c41,rfl,hown_,hb_⟩;refine ⟨_,rfl, ?_⟩;replace hh:=hh.aO (x:=.row _ _ _ _ _ _) hb_ hown_;obtain ⟨g41,rfl⟩:=hh.bZ (i:=0) rfl VZ;refine xi ?_;replace hh:=hh.cx 40 3;replace hh:=hh.sub (V7 _ (V7 _ (V7 _ (V7 _ (Wa _ (V7 _ (V7 _ Wx)))))));replace hh:=hh.perm (WZ (l₁:=[_,_]));simp only [Wf,Wd] at hh;have hXl:(fx.cs.map NR.d).length=ar fx.ns:=by rw [Wi];exact hcnt
  have hzero:d=0→dJ fx.ns a=fx.ns∧lZ fx.ns a (fx.cs.map NR.d)=List.replicate (ar fx.ns) 0:=fun h=>by
   subst h;refine ⟨?_, ?_⟩
   ·unfold dJ;rw [hg];refine XK fun i=> ?_;rw [XB];by_cases hi:a=i
    ·subst hi;rw [V5 rfl,V5 VZ,hd]
    ·rw [V6 hi]
   ·unfold lZ;rw [hg,V5 rfl,hXl]
  have hslp:∀e,d=e+1→lZ fx.ns a (fx.cs.map NR.d)=Dt (fx.ns.drop (a+1)).reverse e (fx.cs.map NR.d):=fun e h=>by
   subst h;unfold lZ;rw [hg,V6 VZ,←bM (fx.ns.drop (a+1))]
   rfl
  have hrm:=qB hd;have hdl:(lZ fx.ns a (fx.cs.map NR.d)).length=ar (dJ fx.ns a):=by
   by_cases h:d=0
   ·rw [(hzero h).1,(hzero h).2,XD]
   ·obtain ⟨e,rfl⟩:∃e,d=e+1:=⟨d-1,VZ⟩;rw [hslp e rfl,Ab (B:=(fx.ns.take a).reverse) (by rw [hXl,←hrm,bM]),←bM (dJ fx.ns a),hDr,Nat.add_sub_cancel]
  refine aW [10,11,12,13,14,42,43,44,45,46,47,48,49,50,51,52,53,54,55,56,57,58,59,60,61,62,63,64,65,66,67,68,69,70,71,72,73,74,75,76,77,78,79,80,81,82,83,84,85,86,87,88,89,90,91,92,93,94,95,96,97,98,99,100,101,102,103,104,105,106,107,108] 10
   (fun v w'=>∃(i cC:Nat) (C:Option Addr),i≤ar (dJ fx.ns a)∧v=.int .i64 i∧Hp w [.blk b7 33 [.slice (some ⟨g25,0,none⟩) fx.n c25,.slice C i cC] (0,0),.row C i cC 40 3 (aA NR.cells (((lZ fx.ns a (fx.cs.map NR.d)).take i).map nR)),.row (some ⟨g41,0,none⟩) (ar (dJ fx.ns a)) c41 9 1 (gM (kr (dJ fx.ns a))),.row (some ⟨g25,0,none⟩) fx.n c25 3 1 (a7 (bp (dJ fx.ns a))),.blk b4 33 [.slice none 0 0,.slice none 0 0] (0,0),.blk b2 33 [.slice fx.A fx.n fx.a,.slice fx.B fx.m fx.b] (0,0)] w')
   (fun v _=>ar (dJ fx.ns a)-(intOf v).toNat) ?_ ?_
  ·exact ⟨0,0,none,V8 _,rfl,hh⟩
  ·clear hh;rintro ρ' v w' ⟨i,cC,C,hi,rfl,hh⟩;by_cases hlt:i<ar (dJ fx.ns a)
   ·by_cases vD:d=0
    ·have hat:(lZ fx.ns a (fx.cs.map NR.d))[i]?=some 0:=by
      obtain ⟨a1,a2⟩:=hzero vD;rw [a2,Zv,V5 (by rw [←a1];exact hlt)]
     subst vD;refine ah (sr (mI (mL (aF ?_))));refine Ez ?_;refine ct (aa (cT (sr (bC ?_))));refine bA hh 0 ?_;refine fe [_,_,_] ?_;refine mG ?_;intro b53 w53 hh;refine Bb ?_;intro A54 c54 w54 hh;simp only [Wh,WI] at hh;replace hh:=hh.sub (WO _ _);refine bC ?_;refine bL hh 0 [_] ?_;intro ws hh;replace hh:Hp _ (.blk _ _ [_,_] _::_) _:=hh;refine aa (aZ (aC (br (ai (ak (mI ?_))))));refine bj (aI (az (ai ?_)));replace hh:=hh.sub (V7 _ (V7 _ (V7 _ (V7 _ (V7 _ (V7 _ Wx))))));refine ⟨⟨i+1,c54,A54,VZ,rfl,by rw [ay hat,WX,bK];exact hh⟩,by show ar (dJ fx.ns a)-(i+1)<ar (dJ fx.ns a)-i;omega, ?_⟩;exact dF
    ·obtain ⟨e,rfl⟩:∃e,d=e+1:=⟨d-1,VZ⟩;rw [Nat.add_sub_cancel] at hDr;have hXr:(fx.cs.map NR.d).length=ar ((fx.ns.drop (a+1)).reverse++(e+1)::(fx.ns.take a).reverse):=by rw [hXl,←hrm,bM]
     obtain ⟨j,hj1,hje,hat⟩:=Q6 hXr (p:=i) (by rw [←hDr,bM];exact hlt);rw [←hslp e rfl,←hrm,←hDr] at hat;rw [←hDr] at hj1;have hrp:=nQ (pG hlt);have hrl:(cq (dJ fx.ns a).reverse i).length=fx.n:=by rw [kd,WE];exact hDl
     have hAl:(fx.ns.drop (a+1)).reverse.length=fx.n-1-a:=by rw [WE,Xu];omega
     have hdo:=Jo (kC (dJ fx.ns a).reverse i);rw [hAl] at hj1 hat;have hra:(cq (dJ fx.ns a).reverse i).reverse[a]?=some j:=by rw [Xh VZ,hrl];exact hj1
     have hrv:(cq (dJ fx.ns a).reverse i)=(cq (dJ fx.ns a).reverse i).reverse.reverse:=(YM _).symm;have hsr:(cq (dJ fx.ns a).reverse i).set (fx.n-1-a) (j+1)=((cq (dJ fx.ns a).reverse i).reverse.set a (j+1)).reverse:=by
      exact Nh hrl rfl VZ
     rw [hsr] at hat;generalize hrr:(cq (dJ fx.ns a).reverse i).reverse=rr at*;rw [hrv] at hat;refine ah (sr (mI (mL (aF ?_))));refine Ez ?_;refine ct (aa (cF (ao (ai (sr (mL (mI ?_)))))));refine rH ?_;refine Ce ?_;have hrrl:rr.length=fx.n:=by rw [←hrr,WE];exact hrl
     obtain ⟨c2,hc2,hcr⟩:=zN hra VZ;have hbl:(fX (bp rr)).data.toList.length=fx.n:=by
      show ((bp rr).map qR).length=fx.n;rw [Wi,gJ];exact hrrl
     have hbs:(fX (bp rr)).size=fx.n:=by rw [eh];exact hbl
     refine xS hh a9.out a9.out a9.out rfl V0 ?_;intro g60 c60 x60 w60 hh;have hcl:(jB (fX (bp rr)).data.toList++x60)[a]?=some (.int .u8 (c2.toNat:Int)):=by
      rw [Yh (by rw [iU];omega)];unfold jB;rw [Wg,hc2]
      rfl
     generalize (((jB (fX (bp rr)).data.toList++x60).length,(jB (fX (bp rr)).data.toList++x60).length+1):Nat×Nat)=fz at hh;refine aL (aa (sr (mL (mI ?_))));refine xM ?_;refine bX aJ.out rfl (hh.dO (i:=0) rfl (by first|assumption|(simp only [Wn];assumption))) V0 ?_;refine wH ?_;refine aI (aa (sr (mL (mI ?_))));refine xM ?_;refine bX aJ.out rfl (hh.dO (i:=0) rfl (by first|assumption|(simp only [Wn];assumption))) V0 ?_;refine gW (b:=1) rfl rfl V0 ?_;refine xM ?_;refine tH hh (i:=0) (vs:=[_]) rfl rfl (cP rfl) rfl aJ.out rfl (by rw [We,iU];omega) rfl ?_;intro ws hh;simp only [Wh] at hh;rw [Nj VZ hcr VZ] at hh;subst hcr;clear hcl;generalize c2.toNat=j at*;have hsl:(rr.set a (j+1)).length=fx.n:=by rw [X8];exact hrrl
     have hok2:∀(i d r:Nat),fx.ns[i]?=some d→rr[i]?=some r→r≤d:=fun i' d' r' h1 h2=>by
      have h3:(dJ fx.ns a)[i']?=some (if a=i' then e else d'):=by
       unfold dJ;rw [hg,Nat.add_sub_cancel,XB];by_cases hi':a=i'
       ·rw [V5 hi',V5 hi',V5 ha]
       ·rw [V6 hi',V6 hi',h1]
      have h4:=hdo i' _ r' h3 h2;by_cases hi':a=i'
      ·subst hi';rw [V5 rfl] at h4;have:=WT (hd.symm.trans h1);omega
      ·rwa [V6 hi'] at h4
     have hok1:∀(i d r:Nat),fx.ns[i]?=some d→(rr.set a (j+1))[i]?=some r→r≤d:=fun i' d' r' h1 h2=>by
      rw [XB] at h2;by_cases hi':a=i'
      ·subst hi';rw [V5 rfl,V5 VZ] at h2;have:=WT h2;have:=WT (hd.symm.trans h1);omega
      ·rw [V6 hi'] at h2;exact hok2 i' d' r' h1 h2
     have hat1:=fun w1 hS1=>pf fx.A fx.n fx.a fx.ns (rr.set a (j+1)) w1 hS1 VZ VZ VZ hok1 (fun d hd=>by have:=hlow d hd;omega);have hat2:=fun w1 hS1=>pf fx.A fx.n fx.a fx.ns rr w1 hS1 VZ VZ VZ hok2 (fun d hd=>by have:=hlow d hd;omega);have hz1:=IG VZ hok1;have hz2:=IG VZ hok2;have hbl2:(bS (rr.set a (j+1))).length=fx.n:=by
      unfold bS;rw [Wi,gJ];exact hsl
     clear hok1 hok2 hra;generalize rr.set a (j+1)=rr1 at*;generalize eu fx.ns.reverse rr1.reverse=z1 at*;generalize eu fx.ns.reverse rr.reverse=z2 at*;obtain ⟨x1,hx1⟩:=al (l:=fx.cs) (k:=z1) VZ;obtain ⟨x2,hx2⟩:=al (l:=fx.cs) (k:=z2) VZ;rw [Wg,Wg,hx1,hx2,Xx,Xx,Xj,Xj] at hat;obtain ⟨ok1,sz1⟩:=hl.num x1 (Wb hx1);obtain ⟨ok2,sz2⟩:=hl.num x2 (Wb hx2);have zn:∀n:Nat,n<256→Sz 24 (nD n):=fun n hn=>JK (m:=(n:Int)) (e:=0) VZ V0 V0;have zj:=zn (j+1) VZ;have zk:=zn (e+1-j) VZ;have hof1:=fun w1=>gD ((j:Int)+1) w1 VZ VZ;have hof2:=fun w1=>gD (((e+1:Nat):Int)-(j:Int)) w1 VZ VZ;rw [show (((j:Int)+1:Int):Dyadic)=nD (j+1) from rfl] at hof1;rw [show ((((e+1:Nat):Int)-(j:Int):Int):Dyadic)=nD (e+1-j) by unfold nD;congr 1;omega] at hof2;have htm1:=fun w1=>OE x1 (nD (j+1)) w1 ok1 (zj.ok VZ);have htm2:=fun w1=>OE x2 (nD (e+1-j)) w1 ok2 (zk.ok VZ);have zp1:=sz1.mul zj;have zp2:=sz2.mul zk
     have hsb:=fun w1=>CF (nR (x1.d*nD (j+1))) (nR (x2.d*nD (e+1-j))) w1 (zp1.ok VZ) (zp2.ok VZ) (by rw [cj];exact zp2.ok VZ);rw [cj,cj] at hsb;generalize nR (nD (j+1))=n1 at*;generalize nR (nD (e+1-j))=n2 at*;generalize nR (x1.d*nD (j+1))=p1 at*;generalize nR (x2.d*nD (e+1-j))=p2 at*;generalize x1.d*nD (j+1)-x2.d*nD (e+1-j)=y at*;obtain ⟨adC,hAC,sC⟩:=hf.nm.at_ VZ;have hevC:Value.slice fx.B fx.m fx.b=.slice (some adC) fx.m fx.b:=by rw [hAC]
     refine aa (ah ?_);refine aN 14 [[(2,none)],[(72,some 0)],[(2,none)],[(74,some 2)],[(11,none)],[(76,some 4)],[(75,some 3),(77,some 5)],[(73,some 1),(78,some 6)],[(79,some 7)],[(12,none)],[(81,some 9)],[(82,some 10)],[(80,some 8),(83,some 11)],[]] [(13,13),(12,84),(11,83),(10,82),(9,81),(8,80),(7,79),(6,78),(5,77),(4,76),(3,75),(2,74),(1,73),(0,72)] hh mixed V2 ?_;refine da ?_;refine dN 6 ?_;refine da ?_;refine dN 6 ?_;refine fD ?_;refine aP (i:=5) (Is (.string ⟨((bS rr1)).toArray⟩)) Is.ext ?_ ?_
     ·intro ρ1 w1 hj hR;exact dv rfl (gi (l:=(bS rr1)) a9.out a9.out a9.out (show ρ1 76=Value.slice _ _ _ from hR.1) (hj.hp.L6 (i:=0) rfl (hbl2.trans hbs.symm))) ⟨Below.refl _ _,rfl⟩
     refine dC (fun _ hj=>hat1 _ (hdg.ext hj.hp.below)) ?_;refine aP (i:=7) (Is (.pointer (some (adC.add (z1*3))))) (Is.ext) ?_ ?_
     ·intro ρ1 w1 hj hR;exact dv rfl (ep (k:=z1) a9.out aJ.size ((show ρ1 73=Value.slice _ _ _ from hR.1).trans hevC) (show ρ1 78=Value.int _ _ from hR.2.1) VZ VZ) ⟨Below.refl _ _,rfl⟩
     refine qK [_,_,_] (fun _ hj=>(sC.ext hj.hp.below).recAt NR.len hx1) ?_;refine dn ?_;refine nX ?_;refine dC (fun _ hj=>hof1 _) ?_;refine dC (fun _ hj=>htm1 _) ?_;refine aP (i:=13) (cu _ 40 _) cu.ext (fun ρ1 w1 hj hR=>gL aJ.out hj.bl (fun v w2 h hb=>⟨hb,h⟩)) ?_;refine aG ?_;intro f W hJ hV;have hb_16:=hJ.bl;obtain ⟨v13,v84,v83,v82,v81,v80,v79,v78,v77,v76,v75,v74,v73,v72,_⟩:=hV;obtain ⟨b13,e13,hl13,hc13⟩:cu _ _ _ (f 13) W:=v13;replace hh:=hJ.newVar hh hl13 hc13;refine aU (bg (ae e13 (ae v84 (ae v83 (ae v82 (ae v81 (ae v80 (ae v79 (ae v78 (ae v77 (ae v76 (ae v75 (ae v74 (ae v73 (ae v72 aT))))))))))))))) ?_;dsimp only [bI];clear e13 hJ;refine bL hh 0 [_,_,_] ?_;intro ws hh;replace hh:Hp _ (.blk _ _ [_,_,_] _::_) _:=hh;refine aa (ah ?_)
     refine aN 17 [[(2,none)],[(85,some 0)],[(2,none)],[(87,some 2)],[(9,none)],[(10,none)],[(89,some 4),(90,some 5)],[(91,some 6)],[(88,some 3),(92,some 7)],[(86,some 1),(93,some 8)],[(94,some 9)],[(8,none)],[(12,none)],[(96,some 11),(97,some 12)],[(98,some 13)],[(95,some 10),(99,some 14)],[]] [(16,14),(15,100),(14,99),(13,98),(12,97),(11,96),(10,95),(9,94),(8,93),(7,92),(6,91),(5,90),(4,89),(3,88),(2,87),(1,86),(0,85)] hh mixed V2 ?_;refine da ?_;refine dN 7 ?_;refine da ?_;refine dN 7 ?_;refine fD ?_;refine dn ?_;refine Gn (i) ?_;refine a6 (i:=7) (fun ρ1 w1 hj hR=>fj aJ.out (show ρ1 91=Value.pointer _ from hR.1) (hj.hp.eK (i:=4) rfl (by first|assumption|(simp only [Wn];assumption)))) ?_;refine dC (fun _ hj=>hat2 _ (hdg.ext hj.hp.below)) ?_;refine aP (i:=9) (Is (.pointer (some (adC.add (z2*3))))) (Is.ext) ?_ ?_
     ·intro ρ1 w1 hj hR;exact dv rfl (ep (k:=z2) a9.out aJ.size ((show ρ1 86=Value.slice _ _ _ from hR.1).trans hevC) (show ρ1 93=Value.int _ _ from hR.2.1) VZ VZ) ⟨Below.refl _ _,rfl⟩
     refine qK [_,_,_] (fun _ hj=>(sC.ext hj.hp.below).recAt NR.len hx2) ?_;refine dn ?_;refine dn ?_;refine so ?_;refine dC (fun _ hj=>hof2 _) ?_;refine dC (fun _ hj=>htm2 _) ?_;refine aP (i:=16) (cu _ 40 _) cu.ext (fun ρ1 w1 hj hR=>gL aJ.out hj.bl (fun v w2 h hb=>⟨hb,h⟩)) ?_;refine aG ?_;intro f W hJ hV;have hb_17:=hJ.bl;obtain ⟨v14,v100,v99,v98,v97,v96,v95,v94,v93,v92,v91,v90,v89,v88,v87,v86,v85,_⟩:=hV;obtain ⟨b14,e14,hl14,hc14⟩:cu _ _ _ (f 16) W:=v14;replace hh:=hJ.newVar hh hl14 hc14;refine aU (bg (ae e14 (ae v100 (ae v99 (ae v98 (ae v97 (ae v96 (ae v95 (ae v94 (ae v93 (ae v92 (ae v91 (ae v90 (ae v89 (ae v88 (ae v87 (ae v86 (ae v85 aT)))))))))))))))))) ?_;dsimp only [bI];clear e14 hJ;refine bL hh 0 [_,_,_] ?_;intro ws hh;replace hh:Hp _ (.blk _ _ [_,_,_] _::_) _:=hh;refine aa ?_;replace hh:=hh.perm (WZ (l₁:=[_,_,_,_]));simp only [Wf,Wd] at hh;replace hh:=hh.perm (WZ (l₁:=[_,_,_,_]));simp only [Wf,Wd] at hh
     refine aN 6 [[(7,none)],[(101,some 0)],[(13,none)],[(14,none)],[(103,some 2),(104,some 3)],[(105,some 4)]] [(5,106),(4,105),(3,104),(2,103),(1,102),(0,101)] hh mixed V2 ?_;refine da ?_;refine dN 0 ?_;refine eJ 3 [_,_,_] ?_;refine eJ 2 [_,_,_] ?_;refine dC (fun _ hj=>hsb _) ?_;refine rh [_,_,_] ?_;refine aG ?_;intro f W hJ hV;have hb_18:=hJ.bl;obtain ⟨v106,v105,v104,v103,v102,v101,_⟩:=hV;obtain ⟨A106,c106,e106,f106⟩:Rows _ _ _ (f 5) W:=v106;replace hh:=hJ.hp;refine aU (bg (ae e106 (ae v105 (ae v104 (ae v103 (ae v102 (ae v101 aT))))))) ?_;dsimp only [bI];clear e106 hJ;refine cv hh (i:=1) rfl rfl rfl (f106) a9.out aJ.out rfl V0 (by first|rfl|exact dz _|exact cX _|exact bB _|exact bU NR.one _) VZ VZ V0 ?_;intro A107 c107 w107 hh;simp only [Wh,WI] at hh;refine bC ?_;refine bL hh 0 [_] ?_;intro ws hh;replace hh:Hp _ (.blk _ _ [_,_] _::_) _:=hh;refine xB ?_;refine bj (aI (az (ai ?_)))
     replace hh:=hh.sub (V7 _ (V7 _ (Wa _ (Wa _ (Wa _ (V7 _ (V7 _ (V7 _ (V7 _ Wx)))))))));refine ⟨⟨i+1,c107,A107,VZ,rfl,by rw [ay hat,WX,bK];exact hh⟩,by show ar (dJ fx.ns a)-(i+1)<ar (dJ fx.ns a)-i;omega, ?_⟩;exact dF
   ·obtain rfl:i=ar (dJ fx.ns a):=VZ;rw [Wc VZ] at hh;refine ah (sr (mI (mL (aF ?_))));refine a0 (aa (cF (aZ (aC (aC (br (ai (sr ?_))))))));refine bY hh 0 [_,_] ?_;refine bL hh 4 [_,_] ?_;intro ws hh;replace hh:Hp _ (_::_::_::_::.blk _ _ [_,_] _::_) _:=hh;refine aI (aa (av ?_));refine LN (dT rfl (dW (vs:=[_,_]) aJ.out (hh.bP (i:=4) (n:=2) rfl rfl) rfl) (iB (jh rfl) e8)) ?_;exact ⟨⟨some ⟨g25,0,none⟩,fx.n,c25,C,ar (dJ fx.ns a),cC,bp (dJ fx.ns a),(lZ fx.ns a (fx.cs.map NR.d)).map nR⟩,⟨rfl,rfl,by show fx.n≤100000;omega,by show ar (dJ fx.ns a)≤1000000;omega⟩,rfl,hh.sub (.cons _ (.cons_cons _ (.cons _ (.cons_cons _ (Xq _)))))⟩
def x5 (fx:FX) (bits:Int):Int:=if fx.e≠0 then fx.e else if bits<0∨((2^fx.n:Nat):Int)≤bits then 1 else 0
def k9 (k i:Nat):Nat:=k/2^i % 2
def ma (n k:Nat):List Nat:=(List.range n).map (k9 k)
def T5 (ns:List Nat) (k:Nat):Nat:=eu ns.reverse (kY ns (ma ns.length k)).reverse
def zw (fx:FX) (bits:Int):NR:=if x5 fx bits=0 then (fx.cs[T5 fx.ns bits.toNat]?).getD (nR 0) else nR 0
theorem nL:∀(ds ks:List Nat),kY ds ks=List.zipWith (· * ·) ds ks
 |[],_=>by rw [kY];rfl
 |_::_,[]=>by rw [kY];rfl
 |d::ds,k::ks=>by rw [kY,nL ds ks];rfl
theorem qT (n k:Nat):(ma n k).length=n:=by unfold ma;simp
theorem GQ:∀b∈ma n k,b≤1:=fun b hb=>by
 obtain ⟨i,_,rfl⟩:=Wo.1 hb;unfold k9;omega
theorem MX (h:n≤12):IntKind.i64.wrap ((1:Int)*2^(min ((n:Int)).toNat IntKind.i64.bits))=((2^n:Nat):Int):=by
 have:∀m:Nat,m≤12→IntKind.i64.wrap ((1:Int)*2^(min ((m:Int)).toNat IntKind.i64.bits))=((2^m:Nat):Int):=by decide
 exact this n h
theorem yh (fx:FX) (bits:Int) (k:Nat) (w:World) (hT:er w) (hf:fx.at_ w) (hl:fx.km k) (hb1: -9223372036854775808≤bits) (hb2:bits≤9223372036854775807):
  Calls Tryz.prog 14 #[.agg #[.slice fx.A fx.n fx.a,.slice fx.B fx.m fx.b],.int .i64 bits] w fun r w'=>r=.returned (.tuple #[.agg #[.bool (zw fx bits).neg,.string (zw fx bits).bk,.int .i64 (zw fx bits).e],.int .i64 (x5 fx bits)])∧Below w.heap.size w w':=by
 have hh:=Hp.start w;have hln:=hf.ln.1;have hlm:=hf.ln.2;have hck:=fun w1 hT1 hb=>sE fx k w1 hT1 (hf.ext hb) hl;have h1000:=hl.Qx;by_cases h0:fx.e≠0
 ·have eE:x5 fx bits=fx.e:=V5 h0;unfold zw;rw [eE,V6 h0];generalize fx.e=E at*;refine K6 ?_;refine sr ?_;refine bV hh [_,_] ?_;intro b2 w2 hh;refine bJ hh ?_;intro b4 w4 hh;refine aI (aa (ah (sr ?_)));refine bY hh 1 [_,_] ?_;refine eQ ?_;intro w11 hh;exact O5
 ·replace h0:fx.e=0:=Yg.1 h0;obtain ⟨hdeg,hnum,h12,hlow,hcnt,hmax⟩:=FX.fv h0;have hnl:fx.ns.length=fx.n:=by unfold FX.ns;rw [Wi];exact hln
  have hE:x5 fx bits=if bits<0∨((2^fx.n:Nat):Int)≤bits then 1 else 0:=by unfold x5;rw [V6 (fun c=>c h0)]
  rw [h0] at hck;have hsh:=MX (n:=fx.n) VZ;by_cases hneg:bits<0
  ·have hE1:x5 fx bits=1:=by rw [hE];exact V5 (.inl hneg)
   unfold zw;rw [hE1,V6 V0];refine K6 ?_;refine sr ?_;refine bV hh [_,_] ?_;intro b2 w2 hh;refine bJ hh ?_;intro b4 w4 hh;refine aI (aa (ah (sr ?_)));refine bY hh 1 [_,_] ?_;refine eQ ?_;intro w11 hh;refine aI (aa (sr (mI ?_)));refine mg ?_;refine a0 (mB ?_);refine gS (gS (gS (gS ?_)));refine jg ?_;refine gS ?_;refine fi ?_;exact Ff
  ·by_cases hbig:((2^fx.n:Nat):Int)≤bits
   ·have hE1:x5 fx bits=1:=by rw [hE];exact V5 (.inr hbig)
    unfold zw;rw [hE1,V6 V0];refine K6 ?_;refine sr ?_;refine bV hh [_,_] ?_;intro b2 w2 hh;refine bJ hh ?_;intro b4 w4 hh;refine aI (aa (ah (sr ?_)));refine bY hh 1 [_,_] ?_;refine eQ ?_;intro w11 hh;refine aI (aa (sr (mI ?_)));refine mg ?_;refine a0 (mB (gT (mI (gT (bC (gT ?_))))));refine bA hh 1 ?_;refine gT (aF ?_);refine aH rfl rfl ?_;refine Om rfl rfl VZ V0 ?_;rw [hsh];generalize ((2^fx.n:Nat):Int)=Z at*;refine gT ?_;refine dP ?_;refine dR ?_;exact Ff
   ·have hE1:x5 fx bits=0:=by rw [hE];exact V6 fun c=>c.elim hneg hbig
    unfold zw;rw [hE1,V5 rfl];clear hE hE1;obtain ⟨q,rfl⟩:∃q:Nat,bits=q:=⟨bits.toNat,VZ⟩;rw [Xd];have hsD:Sl w fx.A fx.n 1 (a7 (bp fx.ns)):=by rw [←hdeg];exact hf.dg
    unfold T5;have hel:(kY fx.ns (ma fx.ns.length q)).length=fx.n:=by rw [nL,Zt,qT];omega
    have heat:∀j d,fx.ns[j]?=some d→(kY fx.ns (ma fx.ns.length q))[j]?=some (d*k9 q j):=fun j d hd=>by
     exact To
    have hok:=B1 fx.ns (ma fx.ns.length q) (qT _ _) GQ;generalize kY fx.ns (ma fx.ns.length q)=es at*;refine aj (N:=52) (l:=[.agg #[.slice fx.A fx.n fx.a,.slice fx.B fx.m fx.b],.int .i64 (q:Int)]) Tryz.func14 rfl rfl (by simp) ?_;refine sr ?_;refine bV hh [_,_] ?_;intro b2 w2 hh;refine bJ hh ?_;intro b4 w4 hh;refine aI (aa (ah (sr ?_)));refine bY hh 1 [_,_] ?_;refine eQ ?_;intro w11 hh;refine aI (aa (sr (mI ?_)));refine mg ?_;refine a0 (mB (gT (mI (gT (bC (gT ?_))))));refine bA hh 1 ?_;refine gT (aF ?_);refine aH rfl rfl ?_;refine Om rfl rfl VZ V0 ?_;rw [hsh];generalize hZZ:((2^fx.n:Nat):Int)=Z at*;refine gT ?_;refine dP ?_;refine dR ?_;refine aa (cF (ao (ai (sr (aI (aa (ah (sr (bC ?_)))))))));refine bA hh 1 ?_;refine aF (mI (aa (aq ?_)));refine bz [7,8,9,30,31,32,33,34,35,36,37,38,39,40,41,42,43,44,45,46] 7 30
     (fun a v w'=>∃(j z:Nat),j≤fx.n∧v=.int .i64 j∧a=.int .i64 z∧z=eu (fx.ns.take j).reverse (es.take j).reverse∧z<ar (fx.ns.take j)∧Hp w [.blk b4 40 [.bool false,.string ⟨#[]⟩,.int .i64 0] (0,0),.blk b2 33 [.slice fx.A fx.n fx.a,.slice fx.B fx.m fx.b] (0,0)] w')
     (fun _ v _=>fx.n-(intOf v).toNat) ?_ ?_
    ·exact KH
    ·clear hh;rintro ρ3 a_ v w3 ⟨j,z,hj,rfl,rfl,hz,hz2,hh⟩;by_cases hjn:j<fx.n
     ·obtain ⟨d,hd⟩:=al (l:=fx.ns) (k:=j) VZ;have hr:=heat j d hd;have hd7:=hlow d (Wb hd);have hgD:(a7 (bp fx.ns))[j]?=some (.int .i64 (d:Int)):=bR (ez hd);have hst:=vk hd hr;have hcs:=uZ hd;rw [bM,bM] at hcs;rw [←hz] at hst;have hct:=gg fx.ns (j+1);have hb1:k9 q j≤1:=by unfold k9;omega
      have hdb:d*k9 q j≤d:=by
       have:=WM d hb1;omega
      have hnew:d*k9 q j+(d+1)*z<(d+1)*ar (fx.ns.take j):=by
       have:(d+1)*(z+1)≤(d+1)*ar (fx.ns.take j):=WM _ hz2;rw [XC] at this;omega
      have hpr:(z:Int)*((d:Int)+1)=(((d+1)*z:Nat):Int):=by rw [Wz,Xk,X7];rfl
      have hpr2:(d:Int)*((k9 q j:Nat):Int)=((d*k9 q j:Nat):Int):=by rw [Xk]
      have hbit:((q:Int).fdiv (2^(min ((j:Int)).toNat IntKind.i64.bits))) % 2=((k9 q j:Nat):Int):=by
       have hm2:min ((j:Int)).toNat IntKind.i64.bits=j:=by
        show min j 64=j;omega
       rw [hm2,Int.fdiv_eq_ediv_of_nonneg _ (by exact Int.le_of_lt (Int.pow_pos V0))];unfold k9;rw [Int.natCast_emod,Int.natCast_ediv,Zm]
       rfl
      obtain ⟨ad,hMe,hsr2⟩:=(hsD.ext hh.below).at_ VZ;have su:Value.slice fx.A fx.n fx.a=.slice (some ad) fx.n fx.a:=by rw [hMe]
      refine sr ?_;refine dY ?_;refine IY ?_;refine bX aJ.out rfl (hsr2.wN hgD) V0 ?_;refine aI (aI (aa (ak (mI (mI ?_)))));refine bj ?_;refine mulC (mI (mI (mI ?_)));refine TG rfl rfl VZ V0 ?_;refine DW rfl rfl V0 ?_;rw [hbit];refine mulC ?_;refine bj (aI (az (bF (ai (ak ?_)))));refine bj (mI (az (ai ?_)));rw [hpr,hpr2];refine ⟨⟨j+1,d*k9 q j+(d+1)*z,VZ,rfl, ?_,hst.symm,VZ,hh⟩,by show fx.n-(j+1)<fx.n-j;omega, ?_⟩
      ·show Value.int IntKind.i64 ((((d+1)*z:Nat):Int)+((d*k9 q j:Nat):Int))=_;rw [show (((d+1)*z:Nat):Int)+((d*k9 q j:Nat):Int)=((d*k9 q j+(d+1)*z:Nat):Int) by omega]
      ·exact dF
     ·obtain rfl:j=fx.n:=VZ;rw [Wc VZ,Wc VZ] at hz;rw [Wc VZ] at hz2;obtain ⟨x,hx⟩:=al (l:=fx.cs) (k:=z) VZ;obtain ⟨adC,hAC,sC⟩:=hf.nm.at_ VZ;have hevC:Value.slice fx.B fx.m fx.b=.slice (some adC) fx.m fx.b:=by rw [hAC]
      rw [←hz,hx,Xj];refine sr ?_;refine LL ?_;refine bA hh 1 ?_;refine mI ?_;refine cK (k:=z) a9.out aJ.size hevC rfl VZ VZ V0 ?_;refine Fc ?_;refine bL hh 0 [_,_,_] ?_;intro ws hh;replace hh:Hp _ (.blk _ _ [_,_,_] _::_) _:=hh;refine aI (aa (av ?_));exact PH
theorem Hl (q j:Nat):(q/2^j)/2=q/2^(j+1):=by rw [XG,W0]
theorem vB (fx:FX) (bits:Int) (k:Nat) (w:World) (hf:fx.at_ w) (hl:fx.km k):
  Calls Tryz.prog 20 #[.agg #[.slice fx.A fx.n fx.a,.slice fx.B fx.m fx.b],.int .i64 bits] w fun r w'=>r=.returned (.tuple #[.agg #[.bool (zw fx bits).neg,.string (zw fx bits).bk,.int .i64 (zw fx bits).e],.int .i64 (x5 fx bits)])∧Below w.heap.size w w':=by
 have hh:=Hp.start w;have hln:=hf.ln.1;have hlm:=hf.ln.2;have hck:=fun w1 hb=>Ca fx k w1 (hf.ext hb) hl;have h1000:=hl.Qx;refine aj (N:=67) (l:=[.agg #[.slice fx.A fx.n fx.a,.slice fx.B fx.m fx.b],.int .i64 bits]) Tryz.func20 rfl rfl (by simp) ?_;refine sr ?_;refine bV hh [_,_] ?_;intro b2 w2 hh;refine bJ hh ?_;intro b4 w4 hh;refine aI (aa (ah (sr ?_)));refine bY hh 1 [_,_] ?_;refine bq hh (hck _ hh.below) rfl ?_;intro w12 hh;by_cases h0:fx.e≠0
 ·have eE:x5 fx bits=fx.e:=V5 h0;unfold zw;rw [eE,V6 h0];generalize fx.e=E at*;exact O5
 ·replace h0:fx.e=0:=Yg.1 h0;obtain ⟨hdeg,hnum,h12,hlow,hcnt,hmax⟩:=FX.fv h0;have hnl:fx.ns.length=fx.n:=by unfold FX.ns;rw [Wi];exact hln
  have hE:x5 fx bits=if bits<0∨((2^fx.n:Nat):Int)≤bits then 1 else 0:=by unfold x5;rw [V6 (fun c=>c h0)]
  rw [h0];refine aI (aa (sr (mI ?_)));refine cY (aa (cF (ao (ai (sr (aI (aa (ah (sr (aI (aa (aq ?_))))))))))));refine bz [7,8,17,18,19,20,21,22,23,24,25] 7 8
   (fun a v w'=>∃i:Nat,i≤fx.n∧v=.int .i64 i∧a=.int .i64 ((2^i:Nat):Int)∧Hp w [.blk b4 40 [.bool false,.string ⟨#[]⟩,.int .i64 0] (0,0),.blk b2 33 [.slice fx.A fx.n fx.a,.slice fx.B fx.m fx.b] (0,0)] w')
   (fun _ v _=>fx.n-(intOf v).toNat) ?_ ?_
  ·exact ⟨0,V8 _,rfl,rfl,hh⟩
  ·clear hh;rintro ρ' a_ v w' ⟨i,hi,rfl,rfl,hh⟩;by_cases hlt:i<fx.n
   ·have h2:2^(i+1)=2*2^i:=by rw [W0,Wz]
    have h3:2^i≤4096:=WS (n:=2) V0 (show i≤12 by omega);generalize 2^i=y at*;refine ah (sr (mI (bC ?_)));refine bA hh 1 ?_;refine aF ?_;refine a0 (aa (cT (ao (ai (ah (aq (ak (mI ?_))))))));refine mulC (aI (az (bF (ai (ak (mI ?_))))));refine bj (aI (az (ai ?_)));refine ⟨⟨i+1,VZ,rfl,by rw [h2,Xk];rfl,hh⟩,by show fx.n-(i+1)<fx.n-i;omega, ?_⟩;exact dF
   ·obtain rfl:i=fx.n:=VZ;by_cases hneg:bits<0
    ·have hE1:x5 fx bits=1:=by rw [hE];exact V5 (.inl hneg)
     unfold zw;rw [hE1,V6 V0];generalize ((2^fx.n:Nat):Int)=Z at*;refine ah (sr (mI (bC ?_)));refine bA hh 1 ?_;refine aF ?_;refine KD ?_;refine a0 (mB ?_);refine gS (gS (gS ?_));refine fi ?_;exact Ff
    ·by_cases hbig:((2^fx.n:Nat):Int)≤bits
     ·have hE1:x5 fx bits=1:=by rw [hE];exact V5 (.inr hbig)
      unfold zw;rw [hE1,V6 V0];generalize ((2^fx.n:Nat):Int)=Z at*;refine ah (sr (mI (bC ?_)));refine bA hh 1 ?_;refine aF ?_;refine KD ?_;refine a0 (mB (gT (mI (gT (mI (gT ?_))))));refine dP ?_;refine dR ?_;exact Ff
     ·have hE1:x5 fx bits=0:=by rw [hE];exact V6 fun c=>c.elim hneg hbig
      unfold zw;rw [hE1,V5 rfl];clear hE hE1;obtain ⟨q,rfl⟩:∃q:Nat,bits=q:=⟨bits.toNat,VZ⟩;rw [Xd];have hq:q<2^fx.n:=VZ;have hsD:Sl w fx.A fx.n 1 (a7 (bp fx.ns)):=by rw [←hdeg];exact hf.dg
      unfold T5;have hel:(kY fx.ns (ma fx.ns.length q)).length=fx.n:=by rw [nL,Zt,qT];omega
      have heat:∀j d,fx.ns[j]?=some d→(kY fx.ns (ma fx.ns.length q))[j]?=some (d*k9 q j):=fun j d hd=>by
       exact To
      generalize kY fx.ns (ma fx.ns.length q)=es at*;generalize ((2^fx.n:Nat):Int)=Z at*;refine ah (sr (mI (bC ?_)));refine bA hh 1 ?_;refine aF ?_;refine KD ?_;refine a0 (mB (gT (mI (gT (mI (gT ?_))))));refine dP ?_;refine dR ?_;refine aa (cF (ao (ai (sr (aL (aa (ah (sr (aI (aa (aq ?_)))))))))));replace hh:=hh.cx 5 1;refine ux [1,9,10,34,35,36,37,38,39,40,41,42,43,44,45,46,47,48,49,50,51,52,53,54,55,56,57] 1 9 10
       (fun e a v w'=>∃(j cR:Nat) (R:Option Addr),j≤fx.n∧v=.int .i64 j∧e=.int .i64 ((q/2^j:Nat):Int)∧a=.slice R j cR∧Hp w [.row R j cR 5 1 (jB ((bS es).take j)),.blk b4 40 [.bool false,.string ⟨#[]⟩,.int .i64 0] (0,0),.blk b2 33 [.slice fx.A fx.n fx.a,.slice fx.B fx.m fx.b] (0,0)] w')
       (fun _ _ v _=>fx.n-(intOf v).toNat) ?_ ?_
      ·exact ⟨0,0,none,V8 _,rfl,by show Value.int IntKind.i64 (q:Int)=_;rw [YA,YG],rfl,hh⟩
      ·clear hh;rintro ρ2 e_ a_ v w2 ⟨j,cR,R,hj,rfl,rfl,rfl,hh⟩;by_cases hjn:j<fx.n
       ·obtain ⟨d,hd⟩:=al (l:=fx.ns) (k:=j) VZ;have hr:=heat j d hd;have hd7:=hlow d (Wb hd);have hgD:(a7 (bp fx.ns))[j]?=some (.int .i64 (d:Int)):=bR (ez hd);have hhb:=Hl q j;have hbit:q/2^j % 2=k9 q j:=rfl;have hql:q/2^j≤4096:=WK (Yw _ _) (WK (Nat.le_of_lt hq) (WS (n:=2) V0 (show fx.n≤12 by omega)));obtain ⟨ad,hMe,hsr2⟩:=(hsD.ext hh.below).at_ VZ;have su:Value.slice fx.A fx.n fx.a=.slice (some ad) fx.n fx.a:=by rw [hMe]
        generalize k9 q j=bt at*;generalize q/2^j=y at*;by_cases hb1:y % 2=1
        ·refine ah (sr (mI (bC ?_)));refine bA hh 2 ?_;refine aF ?_;refine Ez ?_;refine oB ?_;refine ct (aa (cT (ak (mL (bC ?_)))));refine bA hh 2 ?_;refine mI ?_;refine IY ?_;refine bX aJ.out rfl (hsr2.wN hgD) V0 ?_;refine kV ?_;refine ub ?_;intro b51 w51 hh;refine nj ?_;intro A52 c52 w52 hh;simp only [Wh,WI] at hh;replace hh:=hh.sub (WO _ _);refine aL (aa (ak (mI ?_)));refine me ?_;refine Ai ?_;refine bj (aI (az (ai ?_)));have hbt:bt=1:=VZ;rw [hbt,Wn] at hr;refine ⟨⟨j+1,c52,A52,VZ,rfl, ?_,rfl, ?_⟩,by show fx.n-(j+1)<fx.n-j;omega, ?_⟩
         ·show Value.int IntKind.i64 _=_;rw [←hhb];congr 1
         ·rw [FM hr VZ];exact hh
         ·exact dF
        ·refine ah (sr (mI (bC ?_)));refine bA hh 2 ?_;refine aF ?_;refine Ez ?_;refine oB ?_;refine ct (aa (cF (ak (mL ?_))));refine IF ?_;intro b54 w54 hh;refine nj ?_;intro A55 c55 w55 hh;simp only [Wh,WI] at hh;replace hh:=hh.sub (WO _ _);refine aL (aa (ak (mI ?_)));refine me ?_;refine Ai ?_;refine bj (aI (az (ai ?_)));have hbt:bt=0:=VZ;rw [hbt,Nat.mul_zero] at hr;refine ⟨⟨j+1,c55,A55,VZ,rfl, ?_,rfl, ?_⟩,by show fx.n-(j+1)<fx.n-j;omega, ?_⟩
         ·show Value.int IntKind.i64 _=_;rw [←hhb];congr 1
         ·rw [FM hr VZ];exact hh
         ·exact dF
       ·obtain rfl:j=fx.n:=VZ;rw [Wc (by unfold bS;rw [Wi,gJ];omega)] at hh;have hb1:∀i,k9 q i≤1:=fun i=>by unfold k9;omega
        have hok:∀(i d r:Nat),fx.ns[i]?=some d→es[i]?=some r→r≤d:=fun i d r hd hr=>by
         rw [heat i d hd] at hr;have h8:=WM d (hb1 i);have h9:=WT hr;omega
        have hat:=fun w1 hS1=>pf fx.A fx.n fx.a fx.ns es w1 hS1 VZ VZ VZ hok (fun d hd=>by have:=hlow d hd;omega);have hz:eu fx.ns.reverse es.reverse<ar fx.ns:=by
         have h8:mh fx.ns.reverse es.reverse:=(iP _ _).2 ⟨by rw [WE,WE];omega,fun i d r hd hr=>by
          have hi:=(Wk.1 hd).1;rw [WE] at hi;rw [Xh hi] at hd;rw [Xh VZ,show es.length-1-i=fx.ns.length-1-i by omega] at hr;exact hok _ d r hd hr⟩
         have h9:=lX h8;rwa [bM] at h9
        generalize eu fx.ns.reverse es.reverse=z at*;obtain ⟨x,hx⟩:=al (l:=fx.cs) (k:=z) VZ;obtain ⟨adC,hAC,sC⟩:=hf.nm.at_ VZ;have hevC:Value.slice fx.B fx.m fx.b=.slice (some adC) fx.m fx.b:=by rw [hAC]
        rw [hx,Xj];refine ah (sr (mI (bC ?_)));refine bA hh 2 ?_;refine aF ?_;refine a0 (aa (cF (aZ (aC (aC (br (ai (ah ?_))))))));refine aN 7 [[(2,none)],[(58,some 0)],[(2,none)],[(60,some 2)],[(9,none)],[(62,some 4)],[(61,some 3),(63,some 5)]] [(6,64),(5,63),(4,62),(3,61),(2,60),(1,59),(0,58)] hh mixed V2 ?_;refine da ?_;refine dN 2 ?_;refine da ?_;refine dN 2 ?_;refine fD ?_;refine aP (i:=5) (Is (.string ⟨((bS es)).toArray⟩)) Is.ext ?_ ?_
        ·intro ρ1 w1 hj hR;exact dv rfl (gi (l:=(bS es)) a9.out a9.out a9.out (show ρ1 62=Value.slice _ _ _ from hR.1) (hj.hp.aD (i:=0) rfl)) ⟨Below.refl _ _,rfl⟩
        refine dC (fun _ hj=>hat _ (hsD.ext hj.hp.below)) ?_;refine aG ?_;intro f W hJ hV;have hb_19:=hJ.bl;obtain ⟨v64,v63,v62,v61,v60,v59,v58,_⟩:=hV;replace hh:=hJ.hp;refine aU (bg (ae v64 (ae v63 (ae v62 (ae v61 (ae v60 (ae v59 (ae v58 aT)))))))) ?_;dsimp only [bI];clear hJ;refine cK (k:=z) a9.out aJ.size hevC rfl VZ VZ V0 ?_;refine Fc ?_;refine bL hh 1 [_,_,_] ?_;intro ws hh;replace hh:Hp _ (_::.blk _ _ [_,_,_] _::_) _:=hh;refine aI (aa (av ?_));refine LN (dT rfl (dW (vs:=[_,_,_]) aJ.out (hh.bP (i:=1) (n:=3) rfl rfl) rfl) (iB (jh rfl) e8)) ?_;exact ⟨rfl,hh.below⟩
theorem KI {ns:List Nat}{a d r:Nat} (h1:ns[a]?=some d) (h2:rs[a]?=some r):Ah (ns.take (a+1)).reverse (rs.take (a+1)).reverse=Ah (ns.take a).reverse (rs.take a).reverse*bin d r:=by
 rw [ay h1,ay h2,Y8,Y8];show bin d r*_=_*bin d r;exact Wz _ _
theorem My {d r:Nat} (h:r≤d):vr d (r:Int)=nD (bin d r):=by
 unfold vr;rw [V6 VZ,Xd]
theorem QR {ns:List Nat}{i:Nat} (h:i<ar ns):(xY ns)[i]?=some (nR (nD (Ah ns.reverse (cq ns.reverse i)))):=by
 unfold xY zz;rw [Wg,Wg,W8 (by rw [bM];exact h)]
 rfl
theorem u4 (A:Option Addr) (n c:Nat) (ns:List Nat) (w:World) (hS:Sl w A n 1 (a7 (bp ns))) (h12:ns.length≤12) (hlow:∀d∈ns,d≤127) (hmax:ar ns≤4096):
  Calls Tryz.prog 27 #[.slice A n c] w fun r w'=>∃(B:Option Addr) (c':Nat),r=.returned (.slice B (ar ns) c')∧Hp w [.row B (ar ns) c' 40 3 (aA NR.cells (xY ns))] w':=by
 have hh:=Hp.start w;have hln:ns.length=n:=by have:=hS.1;simpa [a7,bp] using this
 have hct:=fun w1 hb=>jb A n c (bp ns) w1 (hS.ext hb) VZ;rw [wZ hlow hmax] at hct;have hrw:=fun w1 hb=>lT A n c ns w1 (hS.ext hb) h12 hlow VZ;have hcp:=cn ns;have hwl:(xY ns).length=ar ns:=by unfold xY zz;rw [Wi,Wi,Ye,bM]
 refine Ew ?_;refine sr (aL (aa (sr (mL ?_))));refine bq hh (hct _ hh.below) rfl ?_;intro w10 hh;refine aI (aa (ah (sr (mL (aF ?_)))));refine bH (mB (gT (mI (gT ?_))));refine a0 ?_;refine dR ?_;refine mB (gT (mI (gT ?_)));refine bH ?_;refine dR ?_;refine aa (cF (ao (ai (sr (aL (aa (sr (mL ?_))))))));refine aE (hrw _ hh.below) au.out rfl V0 ?_;rintro e_ w23 ⟨A23,c23,rfl,hown_,hb_⟩;refine ⟨_,rfl, ?_⟩;replace hh:=hh.aO (x:=.row _ _ _ _ _ _) hb_ hown_;obtain ⟨g23,rfl⟩:=hh.bZ (i:=0) rfl VZ;refine xi ?_;replace hh:=hh.cx 40 3;refine bz [4,6,7,8,24,25,26,27,28,29,30,31,32,33,34,35,36,37,38,39,40,41,42,43,44,45,46,47,48,49,50,51,52,53] 4 6
  (fun a v w'=>∃(i cC:Nat) (C:Option Addr),i≤ar ns∧v=.int .i64 i∧a=.slice C i cC∧Hp w [.row C i cC 40 3 (aA NR.cells ((xY ns).take i)),.row (some ⟨g23,0,none⟩) (ar ns) c23 9 1 (gM (kr ns))] w')
  (fun _ v _=>ar ns-(intOf v).toNat) ?_ ?_
 ·exact ⟨0,0,none,V8 _,rfl,rfl,hh⟩
 ·clear hh;rintro ρ' a_ v w' ⟨i,cC,C,hi,rfl,rfl,hh⟩;by_cases hlt:i<ar ns
  ·have hat:=QR hlt;have hrp:=nQ (pG hlt);have hrr:=Jo (kC ns.reverse i);have hrl:(cq ns.reverse i).reverse.length=n:=by rw [WE,kd,WE];omega
   have hrv:(cq ns.reverse i)=(cq ns.reverse i).reverse.reverse:=(YM _).symm;generalize (cq ns.reverse i).reverse=rr at*;rw [hrv] at hat;clear hrv;refine ah (sr (mI (mI ?_)));refine a0 (aa (cT (ao (ai (ah (aq (sr ?_)))))));refine bq hh (gD 1 _ VZ VZ) rfl ?_;intro w29 hh;refine bJ hh ?_;intro b7 w7 hh;refine bL hh 0 [_,_,_] ?_;intro ws hh;replace hh:Hp _ (.blk _ _ [_,_,_] _::_) _:=hh;refine aa (ah (sr (aI (aa (aq ?_)))));have e10:(((1:Int)):Dyadic)=nD (Ah (ns.take 0).reverse (rr.take 0).reverse):=rfl;rw [e10] at hh;refine aW [8,30,31,32,33,34,35,36,37,38,39,40,41,42,43,44,45,46,47,48,49] 8
    (fun v w'=>∃a:Nat,a≤n∧v=.int .i64 a∧Sz (10+130*a) (nD (Ah (ns.take a).reverse (rr.take a).reverse))∧Hp w [.blk b7 40 [.bool (nR (nD (Ah (ns.take a).reverse (rr.take a).reverse))).neg,.string (nR (nD (Ah (ns.take a).reverse (rr.take a).reverse))).bk,.int .i64 (nR (nD (Ah (ns.take a).reverse (rr.take a).reverse))).e] (0,0),.row C i cC 40 3 (aA NR.cells ((xY ns).take i)),.row (some ⟨g23,0,none⟩) (ar ns) c23 9 1 (gM (kr ns))] w')
    (fun v _=>n-(intOf v).toNat) ?_ ?_
   ·exact ⟨0,V8 _,rfl,Sz.one.mono V0,hh⟩
   ·clear hh;rintro ρ2 v w2 ⟨a,ha,rfl,hz,hh⟩;by_cases hlt2:a<n
    ·obtain ⟨d,hd⟩:=al (l:=ns) (k:=a) VZ;obtain ⟨r,hr⟩:=al (l:=rr) (k:=a) VZ;have hrd2:=hrr a d r hd hr;have hd7:=hlow d (Wb hd);obtain ⟨c2,hc2,hcr⟩:=zN hr VZ;subst hcr;have hc3:(fX (bp rr)).data.toList[(a:Int).toNat]?=some c2:=hc2;have hgD:(a7 (bp ns))[a]?=some (.int .i64 (d:Int)):=bR (ez hd);have hst:nD (Ah (ns.take a).reverse (rr.take a).reverse)*vr d (c2.toNat:Int)=nD (Ah (ns.take (a+1)).reverse (rr.take (a+1)).reverse):=by rw [KI hd hr,My hrd2,JD]
     have zc:=DY (n:=d) (c2.toNat:Int) VZ;have hcho:=fun w1=>tZ d (d:Int) (c2.toNat:Int) w1 VZ rfl VZ VZ;have hz3:Sz (10+130*(a+1)) (nD (Ah (ns.take (a+1)).reverse (rr.take (a+1)).reverse)):=by
      rw [←hst];exact (hz.mul zc).mono VZ
     generalize vr d (c2.toNat:Int)=z2 at*;have okz:=hz.ok VZ;have okc:=zc.ok VZ;have hmul:=fun w1=>ql (nR (nD (Ah (ns.take a).reverse (rr.take a).reverse))) (nR z2) w1 (by have:=okz.1;omega) (by have:=okc.1;omega) (by have:=okz.2;omega) (by have:=okz.2;omega) (by have:=okc.2;omega) (by have:=okc.2;omega);rw [cj,cj,hst] at hmul;obtain ⟨ad,rfl,hsr2⟩:=hS.at_ VZ;refine ah (sr (mI (mL (aF ?_))));refine EB ?_;refine aN 13 [[(7,none)],[(0,none)],[(8,none)],[(37,some 1),(38,some 2)],[(39,some 3)],[(5,none)],[(6,none)],[(41,some 5),(42,some 6)],[(43,some 7)],[(8,none)],[(44,some 8),(45,some 9)],[(46,some 10)],[(40,some 4),(47,some 11)]] [(12,48),(11,47),(10,46),(9,45),(8,44),(7,43),(6,42),(5,41),(4,40),(3,39),(2,38),(1,37),(0,36)] hh mixed V2 ?_;refine eJ 0 [_,_,_] ?_;refine fD ?_;refine dn ?_;refine nC (a) ?_;refine a6 (i:=4) (fun ρ1 w1 hj hR=>fj aJ.out (show ρ1 39=Value.pointer _ from hR.1) ((hsr2.ext hj.hp.below).wN (by assumption))) ?_;refine fD ?_;refine dn ?_;refine Gn (i) ?_
     refine a6 (i:=8) (fun ρ1 w1 hj hR=>fj aJ.out (show ρ1 43=Value.pointer _ from hR.1) (hj.hp.eK (i:=2) rfl (by first|assumption|(simp only [Wn];assumption)))) ?_;refine dn ?_;refine a6 (i:=10) (fun ρ1 w1 hj hR=>jq a9.out (show ρ1 44=Value.string _ from hR.1) (show ρ1 45=Value.int _ _ from hR.2.1) VZ (by assumption)) ?_;refine a6 (i:=11) (fun ρ1 w1 hj hR=>j5 a9.out a9.out (show ρ1 46=Value.int _ _ from hR.1) VZ VZ) ?_;refine dC (fun _ hj=>hcho _) ?_;refine aG ?_;intro f W hJ hV;have hb_13:=hJ.bl;obtain ⟨v48,v47,v46,v45,v44,v43,v42,v41,v40,v39,v38,v37,v36,_⟩:=hV;replace hh:=hJ.hp;refine aU (bg (ae v48 (ae v47 (ae v46 (ae v45 (ae v44 (ae v43 (ae v42 (ae v41 (ae v40 (ae v39 (ae v38 (ae v37 (ae v36 aT)))))))))))))) ?_;dsimp only [bI];clear hJ;refine bq hh (hmul _) rfl ?_;intro w49 hh;refine bL hh 0 [_,_,_] ?_;intro ws hh;replace hh:Hp _ (.blk _ _ [_,_,_] _::_) _:=hh;refine xB ?_;refine bj (aI (az (ai ?_)));refine ⟨⟨a+1,VZ,rfl,hz3,hh⟩,by show n-(a+1)<n-a;omega, ?_⟩;exact dF
    ·obtain rfl:a=n:=VZ;rw [Wc VZ,Wc VZ] at hh;refine ah (sr (mI (mL (aF ?_))));refine a0 (aa (cF (aZ (aC (aC (br (ai (ak (mL ?_)))))))));refine bY hh 0 [_,_,_] ?_;refine mG ?_;intro b52 w52 hh;refine Bb ?_;intro A53 c53 w53 hh;simp only [Wh,WI] at hh;replace hh:=hh.sub (WO _ _);refine pQ ?_;refine bj (aI (az (ai ?_)));replace hh:=hh.sub (Wa _ (V7 _ (V7 _ Wx)));refine ⟨⟨i+1,c53,A53,VZ,rfl,rfl,by rw [ay hat,bK,jv];exact hh⟩,by show ar ns-(i+1)<ar ns-i;omega, ?_⟩;exact dF
  ·obtain rfl:i=ar ns:=VZ;rw [Wc VZ] at hh;refine ah (sr (mI (mI ?_)));refine F9 ?_;refine cW ?_;exact ⟨C,cC,rfl,hh.sub (X1 [_] _)⟩
def vv (ds:List Int):Bool:=decide (ds.length≤12) && decide (eR 1 ds≠0)
theorem xT (A:Option Addr) (n c:Nat) (ds:List Int) (w:World) (hS:Sl w A n 1 (a7 ds)) (hn:n≤1000000) (hb:vv ds=false):
  Calls Tryz.prog 26 #[.slice A n c] w fun r w'=>r=.returned (.slice none 0 0)∧Below w.heap.size w w':=by
 have hh:=Hp.start w;have hln:ds.length=n:=by have:=hS.1;simpa [a7] using this
 have hcnt:=fun w1 hb=>ef A n c ds w1 (hS.ext hb) hn;by_cases h1:12<n
 ·refine aj (N:=52) (l:=[.slice A n c]) Tryz.func26 rfl rfl (by simp) ?_;refine wA ?_;refine bH (mB ?_);refine gS ?_;refine jg ?_;refine gS ?_;refine fi ?_;exact KT
 ·have h2:eR 1 ds=0:=by
   exact O8
  rw [h2] at hcnt;refine aj (N:=52) (l:=[.slice A n c]) Tryz.func26 rfl rfl (by simp) ?_;refine wA ?_;refine bH (mB (gT (mL ?_)));refine aH rfl rfl ?_;refine bq hh (hcnt _ hh.below) rfl ?_;intro w16 hh;refine gT ?_;refine ct ?_;refine dR ?_;exact KT
theorem yw (A:Option Addr) (n c:Nat) (ds:List Int) (w:World) (hS:Sl w A n 1 (a7 ds)) (hn:n≤1000000) (hb:vv ds=false):
  Calls Tryz.prog 27 #[.slice A n c] w fun r w'=>r=.returned (.slice none 0 0)∧Below w.heap.size w w':=by
 have hh:=Hp.start w;have hln:ds.length=n:=by have:=hS.1;simpa [a7] using this
 have hct:=fun w1 hb=>jb A n c ds w1 (hS.ext hb) hn;have hbd:12<n∨kn ds<0∨4096<kn ds:=by
  by_cases h1:12<n
  ·exact .inl h1
  ·have h2:eR 1 ds=0:=by
    exact O8
   cases h3:ds.any (fun d=> !ck d) with
   |true=>exact .inr (.inl (by unfold kn;rw [h3,V5 rfl];decide))
   |false=>
    obtain ⟨ns,rfl,hlow⟩:=lz h3;have h8:=ir ns 1 (V9 _) V0 hlow;rw [show eR ((1:Nat):Int) (bp ns)=eR 1 (bp ns) from rfl,h2,XP] at h8;have hp:=cn ns;by_cases hc:ar ns≤4096
    ·rw [V5 hc] at h8;omega
    ·have h9:=qi ns 1 (V9 _) V0;rw [XP,show sl ((1:Nat):Int) (bp ns)=sl 1 (bp ns) from rfl] at h9;refine .inr (.inr ?_);unfold kn;rw [h3,V6 V0,h9];omega
 generalize kn ds=K at*;by_cases h1:12<n
 ·refine Ew ?_;refine sr (aL (aa (sr (mL ?_))));refine bq hh (hct _ hh.below) rfl ?_;intro w10 hh;refine aI (aa (ah (sr (mL (aF ?_)))));refine bH (mB ?_);refine gS (gS ?_);refine fi ?_;refine mB ?_;refine gS (gS ?_);refine fi ?_;exact KT
 ·by_cases h2:K<0
  ·refine Ew ?_;refine sr (aL (aa (sr (mL ?_))));refine bq hh (hct _ hh.below) rfl ?_;intro w10 hh;refine aI (aa (ah (sr (mL (aF ?_)))));refine bH (mB (gT (mI (gT ?_))));refine a0 ?_;refine dR ?_;refine mB ?_;refine gS (gS ?_);refine fi ?_;exact KT
  ·have h3:4096<K:=VZ;refine Ew ?_;refine sr (aL (aa (sr (mL ?_))));refine bq hh (hct _ hh.below) rfl ?_;intro w10 hh;refine aI (aa (ah (sr (mL (aF ?_)))));refine bH (mB (gT (mI (gT ?_))));refine a0 ?_;refine dR ?_;refine mB (gT (mI (gT ?_)));refine bH ?_;refine dR ?_;exact KT
def tD (a:NR):Bool:=decide ((8:Int)<a.bk.size∨a.e< -60∨60<a.e)
theorem RP {a:NR} (h:tD a=false):a.ok∧Sz 124 a.d:=by
 have h':=of_decide_eq_false h;have h1:(a.bk.size:Int)≤8:=VZ;have h2: -60≤a.e:=VZ;have h3:a.e≤60:=VZ;exact ⟨⟨VZ,VZ,VZ⟩,Sz.raw (m:=64) (E:=60) VZ h2 h3⟩
def FX.small (f:FX):Prop:=f.km 124∧f.m≤60∧f.n≤20
variable {ds:List Int}
abbrev VQ (l:List Int) (A:Option Addr) (a:Nat) (B:Option Addr) (b:Nat):FX:=⟨A,1,a,B,l.length,b,[(l.length:Int)-1],l.map fun z:Int=>nR (z:Dyadic)⟩
def wD (ds:List Int) (cs:List NR):VP:=fun v W=>∃g:FX,v=.agg #[.slice g.A g.n g.a,.slice g.B g.m g.b]∧g.ds=ds∧g.cs=cs∧g.at_ W
theorem wD.ext {cs:List NR} (v:Value) (w w':World) (h:wD ds cs v w) (hb:Below w.heap.size w w'):wD ds cs v w':=let ⟨g,h1,h2,h3,h4⟩:=h;⟨g,h1,h2,h3,h4.ext hb⟩
variable {parts:Array (Nat×Operand)}{ps:List (Nat×Value)}{z:Int}
section
variable {P:Program}{ρ:Rf}{w:World}
theorem QP {d:Option Nat}{ty:TypeId}{af:Array Edge}{t e:TypeId}{len sz:Nat} (ht:P.underlying t=some (.slice e)) (hte:cQ P e=some (sz,ag,by',zc))
  (hp:wB ρ parts.toList=ps) (hzl:zc.length=sz) (hf:kI (fun i=>some (i*sz,sz)) (eI len zc) ps=some cs) (h0:¬len*sz=0) (hsl:len*sz≤16777216) (hl:cs.length=len*sz) (hn:len≤1000000) (hbs:base≤w.heap.size)
  (hk:∀v w2,mw base e len sz cs v w2→Below w.heap.size w w2→K v w2):OG P ops ⟨d,.buildSlice t len parts,ty,pos,af,none⟩ ρ w K:=by
 obtain ⟨z,hz,hzc⟩:=dy (w:=w) hte;have hbl:Below w.heap.size w (w.alloc (.cells cs.toArray e)):=(Below.refl _ _).alloc (V9 _) _;refine dv rfl (w':=w.alloc (.cells cs.toArray e)) (v:=.slice (some ⟨w.heap.size,0,none⟩) len len) ?_ (hk _ _ ⟨_,_,rfl,hl,.inr ⟨w.heap.size,len,cs.toArray,rfl,hbs,heap_alloc_new w _,V9 _,by unfold maxLen;omega,by simpa using hl,by rw [←hl];simp⟩⟩ hbl);exact RV
end
def eH (z:Int):NR:=nR (z:Dyadic)
def j7 (l:List Int):List SR:=l.map fun z=>⟨nR 0,eH z⟩
theorem pM (h:z.natAbs<256):(eH z).ok∧Sz 24 (eH z).d:=by
 have z1:Sz 24 ((z:Int):Dyadic):=JK (m:=z) (e:=0) h V0 V0;exact ⟨z1.ok V0,by unfold eH;rw [cj];exact z1⟩
theorem lE (l:List Int) (A:Option Addr) (n c:Nat) (w:World) (hS:Sl w A n 1 (a7 l)) (hl:∀z∈l,z.natAbs<256) (hn:n≤1000):
  Calls Tryz.prog 37 #[.slice A n c] w fun r w'=>∃B c',r=.returned (.slice B n c')∧Hp w [.row B n c' 40 3 (aA NR.cells (l.map eH))] w':=by
 have hh:=Hp.start w;have hln:l.length=n:=by have:=hS.1;rw [bQ] at this;omega
 refine aj (N:=20) (l:=[.slice A n c]) Tryz.func37 rfl rfl (by simp) ?_;refine sr (aL (aa (sr (aL (aa (ah (sr (aI (aa (aq ?_))))))))));replace hh:=hh.cx 40 3;refine bz [3,4,5,6,7,8,9,10,11,12,13,14,15,16,17,18] 3 4
  (fun a v w'=>∃(i c1:Nat) (B:Option Addr),i≤n∧v=.int .i64 i∧a=.slice B i c1∧Hp w [.row B i c1 40 3 (aA NR.cells ((l.take i).map eH))] w')
  (fun _ v _=>n-(intOf v).toNat) ?_ ?_
 ·exact ⟨0,0,none,V8 _,rfl,rfl,hh⟩
 ·clear hh;rintro ρ' a_ v w' ⟨i,c1,B,hi,rfl,rfl,hh⟩;by_cases hlt:i<n
  ·obtain ⟨z,hz⟩:=al (l:=l) (k:=i) VZ;have hgz:=bR hz;have hzb:=hl z (Wb hz);obtain ⟨ad,rfl,hr⟩:=hS.at_ VZ;refine ah (sr (mI (mL (aF ?_))));refine JE ?_;refine cA ?_;refine bX aJ.out rfl ((hr.ext hh.below).wN hgz) V0 ?_;refine bq hh (gD z _ VZ VZ) rfl ?_;intro w16 hh;refine mG ?_;intro b17 w17 hh;refine nj ?_;intro A18 c18 w18 hh;simp only [Wh,WI] at hh;replace hh:=hh.sub (WO _ _);refine pQ ?_;refine bj (aI (az (ai ?_)));refine ⟨⟨i+1,c18,A18,VZ,rfl,rfl, ?_⟩,by show n-(i+1)<n-i;omega, ?_⟩
   ·rw [ay hz,WX,bK];exact hh
   ·exact dF
  ·exact Tn
theorem C2 (l:List Int) (A:Option Addr) (n c:Nat) (w:World) (hS:Sl w A n 1 (a7 l)) (hl:∀z∈l,z.natAbs<256) (hn:n≤1000):
  Calls Tryz.prog 40 #[.slice A n c] w fun r w'=>∃B c',r=.returned (.slice B n c')∧Hp w [.row B n c' 70 6 (aA SR.cells (j7 l))] w':=by
 have hh:=Hp.start w;have hln:l.length=n:=by have:=hS.1;rw [bQ] at this;omega
 refine aj (N:=21) (l:=[.slice A n c]) Tryz.func40 rfl rfl (by simp) ?_;refine sr (aL (aa (sr (aL (aa (ah (sr (aI (aa (aq ?_))))))))));replace hh:=hh.cx 70 6;refine bz [3,4,5,6,7,8,9,10,11,12,13,14,15,16,17,18,19] 3 4
  (fun a v w'=>∃(i c1:Nat) (B:Option Addr),i≤n∧v=.int .i64 i∧a=.slice B i c1∧Hp w [.row B i c1 70 6 (aA SR.cells (j7 (l.take i)))] w')
  (fun _ v _=>n-(intOf v).toNat) ?_ ?_
 ·exact ⟨0,0,none,V8 _,rfl,rfl,hh⟩
 ·clear hh;rintro ρ' a_ v w' ⟨i,c1,B,hi,rfl,rfl,hh⟩;by_cases hlt:i<n
  ·obtain ⟨z,hz⟩:=al (l:=l) (k:=i) VZ;have hgz:=bR hz;have hzb:=hl z (Wb hz);obtain ⟨ad,rfl,hr⟩:=hS.at_ VZ;have e1:aA SR.cells (j7 (l.take (i+1)))=aA SR.cells (j7 (l.take i))++[.bool false,.string (ByteArray.mk #[]),.int .i64 0,.bool (nR (z:Dyadic)).neg,.string (nR (z:Dyadic)).bk,.int .i64 (nR (z:Dyadic)).e]:=by
    unfold j7;rw [ay hz,WX,bK,Wv,WV,jv,lH]
    rfl
   refine ah (sr (mI (mL (aF ?_))));refine JE ?_;refine cA ?_;refine bX aJ.out rfl ((hr.ext hh.below).wN hgz) V0 ?_;refine bq hh (gD z _ VZ VZ) rfl ?_;intro w16 hh;refine fe [_,_,_,_,_,_] ?_;refine Oq ?_;intro b18 w18 hh;refine nj ?_;intro A19 c19 w19 hh;simp only [Wh,WI] at hh;replace hh:=hh.sub (WO _ _);refine pQ ?_;refine bj (aI (az (ai ?_)));refine ⟨⟨i+1,c19,A19,VZ,rfl,rfl, ?_⟩,by show n-(i+1)<n-i;omega, ?_⟩
   ·rw [e1];exact hh
   ·exact dF
  ·exact Tn
theorem yP (z:Int) (es:List UInt8) (A:Option Addr) (n c:Nat) (w:World) (hS:Sl w A n 1 (jB es)) (hz:z.natAbs<256) (hn:es.length=n) (hn2:n≤1000):
  Calls Tryz.prog 42 #[.int .i64 z,.slice A n c] w fun r w'=>∃B c',r=.returned (.agg #[.int .i64 n,.slice B 1 c'])∧Hp w [.row B 1 c' 80 4 (aA TR.cells [⟨str es,eH z⟩])] w':=by
 have hh:=Hp.start w;refine aj (N:=14) (l:=[.int .i64 z,.slice A n c]) Tryz.func42 rfl rfl (by simp) ?_;refine sr ?_;refine bJ hh ?_;intro b4 w4 hh;refine aa (ah ?_);refine aN 8 [[(1,none)],[(5,some 0)],[(1,none)],[(7,some 2)],[(0,none)],[(9,some 4)],[(8,some 3),(10,some 5)],[(11,some 6)]] [(7,12),(6,11),(5,10),(4,9),(3,8),(2,7),(1,6),(0,5)] hh mixed V2 ?_;refine fD ?_;refine C9 ?_;refine fD ?_;refine aP (i:=3) (Is (.string ⟨(es).toArray⟩)) Is.ext ?_ ?_
 ·intro ρ1 w1 hj hR;exact dv rfl (gi (l:=es) a9.out a9.out a9.out (show ρ1 7=Value.slice _ _ _ from hR.1) (hS.ext hj.hp.below)) ⟨Below.refl _ _,rfl⟩
 refine dn ?_;refine dC (fun _ hj=>gD z _ VZ VZ) ?_;refine dB [_,_,_,_] ?_;refine aP (i:=7) (mw hh.sz 80 1 4 (aA TR.cells [⟨str es,eH z⟩])) (mw.ext) ?_ ?_
 ·intro ρ1 w1 hj hR;exact QP (sz:=4) a9.out aJ.out (show wB ρ1 [(0,.tmp 11)]=[(0,.agg #[.string (str es),.bool (eH z).neg,.string (eH z).bk,.int .i64 (eH z).e])] from aV (show ρ1 11=_ from hR.1) bW) rfl rfl V0 V0 rfl V0 hj.bl.size fun v w2 h hb=>⟨hb,h⟩
 refine aG ?_;intro f W hJ hV;have hb_1:=hJ.bl;obtain ⟨v12,v11,v10,v9,v8,v7,v6,v5,_⟩:=hV;obtain ⟨A12,c12,e12,o12⟩:mw _ _ _ _ _ (f 7) W:=v12;replace hh:=JJ.yI hh hJ.hp o12;clear o12;refine aU (bg (ae e12 (ae v11 (ae v10 (ae v9 (ae v8 (ae v7 (ae v6 (ae v5 aT))))))))) ?_;dsimp only [bI];clear e12 hJ;refine fe [_,_] ?_;refine bL hh 1 [_,_] ?_;intro ws hh;replace hh:Hp _ (_::.blk _ _ [_,_] _::_) _:=hh;refine aa (av ?_);refine xc ?_;exact ⟨A12,c12,rfl,hh.sub (V7 _ (Xq _))⟩
theorem HN (p:PX) (L:Option Addr) (n c:Nat) (b:List SR) (M:Option Addr) (m mc:Nat) (ds:List Int) (A:Option Addr) (k ac:Nat) (l:List Int) (w:World) (hT:er w) (hp:p.at_ w) (lp:p.km 124) (hB:Sl w L n 6 (aA SR.cells b)) (hb:∀s∈b,s.fin 124) (hn:n≤1000) (hD:Sl w M m 1 (a7 ds)) (hm:m≤1000) (hmc:m≤mc)
  (hgr:gH (124+124+16394) (lV p.v p.ts) (124+1)≤440000) (hS:Sl w A k 1 (a7 l)) (hl:∀z∈l,z.natAbs<256) (hk:k≤1000) (hE:vR p b ds=0) (hX:zJ (Q5 p ds) (fM p (cw b)).2=l.map fun z:Int=>(z:Dyadic)):
  Calls Tryz.prog 41 #[.agg #[.int .i64 p.v,.slice p.A p.n p.c],.slice L n c,.slice M m mc,.slice A k ac] w fun r w'=>r=.returned (.bool true)∧Below w.heap.size w w':=by
 have hh:=Hp.start w;have hof:=fun w1 hT1 hb1=>HK p L n c b M m mc ds 124 w1 hT1 (hp.ext hb1) lp (hB.ext hb1) hb VZ (hD.ext hb1) VZ hmc V0 (fun _=>hgr);rw [hE,hX] at hof;have hro:=fun w1 hb1=>lE l A k ac w1 (hS.ext hb1) hl hk;have hll:l.length=k:=by have:=hS.1;rw [bQ] at this;omega
 refine aj (N:=27) (l:=[.agg #[.int .i64 p.v,.slice p.A p.n p.c],.slice L n c,.slice M m mc,.slice A k ac]) Tryz.func41 rfl rfl (by simp) ?_;refine sr ?_;refine bV hh [_,_] ?_;intro b4 w4 hh;refine aB (aa (sr ?_));refine bY hh 0 [_,_] (mL (mL ?_));refine aE (hof _ (hT.hp hh) hh.below) au.out rfl V0 ?_;rintro e_ w15 ⟨g,og,rfl,h4⟩;refine ⟨_,rfl, ?_⟩;replace hh:=hh.join h4;clear h4;simp only [Wf,Wd] at hh;have hcs:g.cs=l.map eH:=by
  rw [og.cs];show (l.map fun z:Int=>(z:Dyadic)).map nR=_;rw [W6]
  rfl
 replace hh:=show Hp w (.row g.B g.m g.b 40 3 (aA NR.cells g.cs)::.row g.A g.n g.a 3 1 (a7 g.ds)::_) _ from hh;rw [hcs] at hh;have hgm:g.m=k:=by have:=(hh.aD (i:=0) rfl).bE NR.len V0;rw [Wi] at this;omega
 refine mT ?_;refine dE ?_;refine dE ?_;refine bJ hh ?_;intro b9 w9 hh;refine bL hh 0 [_,_] ?_;intro ws hh;replace hh:Hp _ (.blk _ _ [_,_] _::_) _:=hh;refine aI (aa (ah ?_));refine aN 7 [[(10,none)],[(18,some 0)],[(19,some 1)],[(9,none),(20,some 2)],[(21,some 3),(20,some 2)],[(3,none),(20,some 2)],[(23,some 5),(20,some 2)]] [(6,24),(5,23),(4,22),(3,21),(2,20),(1,19),(0,18)] hh mixed V2 ?_;refine dn ?_;refine zt ?_;refine od ?_;refine dG (da ?_);refine dG (dN 0 ?_);refine dG (fD ?_);refine aP (i:=6) (Rows k 3 (aA NR.cells (l.map eH))) (Rows.ext) ?_ ?_
 ·intro ρ1 w1 hj hR;exact bo rfl (show ρ1 20=Value.bool _ from hR.2.1) (bf rfl (aQ au.out (aw (show ρ1 23=Value.slice _ _ _ from hR.1) a8)) (hro w1 hj.hp.below) (fun _ _ ⟨B,c',hq,h3⟩=>⟨_,hq,h3.below,B,c',rfl,h3.aD (i:=0) rfl⟩))
 refine aG ?_;intro f W hJ hV;have hb_2:=hJ.bl;obtain ⟨v24,v23,v22,v21,v20,v19,v18,_⟩:=hV;obtain ⟨A24,c24,e24,f24⟩:Rows _ _ _ (f 6) W:=v24;replace hh:=hJ.hp;refine aU (bg (ae e24 (ae v23 (ae v22 (ae v21 (ae v20 (ae v19 (ae v18 aT)))))))) ?_;dsimp only [bI];clear e24 hJ;have hsg:=hh.aD (i:=1) rfl;rw [hgm];rw [hgm] at hsg;refine aH rfl rfl ?_;refine bq hh (jw g.B k g.b (l.map eH) A24 c24 _ hsg f24 VZ) rfl ?_;intro w25 hh;refine fi ?_;exact vP
def eB (es:List UInt8) (z:Int):VP:=fun v W=>∃g:Option Addr×Nat,v=.agg #[.int .i64 es.length,.slice g.1 1 g.2]∧1≤g.2∧Sl W g.1 1 4 (aA TR.cells [⟨str es,eH z⟩])
theorem eB.ext {es:List UInt8} (v:Value) (w w':World) (h:eB es z v w) (hb:Below w.heap.size w w'):eB es z v w':=let ⟨g,h1,h2,h3⟩:=h;⟨g,h1,h2,h3.ext hb⟩
def Tu (l:List Int):Bool:=l.all fun z=>decide (z.natAbs<256)
theorem ng {l:List Int} (h:Tu l=true):∀z∈l,z.natAbs<256:=fun z hz=>XQ (Wq.1 h z hz)
theorem TT (l:List Int) (A:Option Addr) (n c:Nat) (w:World) (hS:Sl w A n 1 (a7 l)) (hl:Tu l=true) (hn:n≤1000):Calls Tryz.prog 37 #[.slice A n c] w fun r w'=>∃v,r=.returned v∧Rows n 3 (aA NR.cells (l.map eH)) v w'∧Below w.heap.size w w':=
 (lE l A n c w hS (ng hl) hn).mono fun r w' ⟨B,c',hr,h3⟩=>⟨_,hr,⟨B,c',rfl,h3.aD (i:=0) rfl⟩,h3.below⟩
theorem HB (l:List Int) (A:Option Addr) (n c:Nat) (w:World) (hS:Sl w A n 1 (a7 l)) (hl:Tu l=true) (hn:n≤1000):Calls Tryz.prog 40 #[.slice A n c] w fun r w'=>∃v,r=.returned v∧Rows n 6 (aA SR.cells (j7 l)) v w'∧Below w.heap.size w w':=
 (C2 l A n c w hS (ng hl) hn).mono fun r w' ⟨B,c',hr,h3⟩=>⟨_,hr,⟨B,c',rfl,h3.aD (i:=0) rfl⟩,h3.below⟩
theorem qL (z:Int) (es:List UInt8) (A:Option Addr) (n c:Nat) (w:World) (hS:Sl w A n 1 (jB es)) (hz:z.natAbs<256) (hn:es.length=n) (hn2:n≤1000):Calls Tryz.prog 42 #[.int .i64 z,.slice A n c] w fun r w'=>∃v,r=.returned v∧eB es z v w'∧Below w.heap.size w w':=
 (yP z es A n c w hS hz hn hn2).mono fun r w' ⟨B,c',hr,h3⟩=>⟨_,hr,⟨(B,c'),by rw [hn],h3.eZ (i:=0) rfl,h3.aD (i:=0) rfl⟩,h3.below⟩
def Nx (es:List UInt8) (z:Int):PX:=⟨es.length,none,0,0,[⟨str es,eH z⟩]⟩
theorem LH {p q:PX} (hv:p.v=q.v) (ht:p.ts=q.ts) (b:List SR) (ds:List Int):vR p b ds=vR q b ds∧Q5 p ds=Q5 q ds∧fM p (cw b)=fM q (cw b):=by
 obtain ⟨pv,pA,pn,pc,pt⟩:=p;obtain ⟨qv,qA,qn,qc,qt⟩:=q;replace hv:pv=qv:=hv;replace ht:pt=qt:=ht;subst hv ht;exact ⟨rfl,rfl,rfl⟩
def UI (z:Int) (es:List UInt8) (bl ds l:List Int):Bool:=decide (z.natAbs<256∧es.length≤12∧vR (Nx es z) (j7 bl) ds=0∧zJ (Q5 (Nx es z) ds) (fM (Nx es z) (cw (j7 bl))).2=l.map (fun z:Int=>(z:Dyadic))∧gH (124+124+16394) (lV es.length [⟨str es,eH z⟩]) (124+1)≤440000) && Tu bl && Tu l
theorem SW (z:Int) (es:List UInt8) (bl ds l:List Int) (A:Option Addr) (c:Nat) (B:Option Addr) (n bc:Nat) (M:Option Addr) (m mc:Nat) (D:Option Addr) (k dc:Nat) (w:World) (hT:er w) (o:1≤c∧Sl w A 1 4 (aA TR.cells [⟨str es,eH z⟩])) (hB:Sl w B n 6 (aA SR.cells (j7 bl))) (hM:Sl w M m 1 (a7 ds)) (hmc:m≤mc) (hS:Sl w D k 1 (a7 l))
  (hn:n≤1000) (hm:m≤1000) (hk:k≤1000) (hc:UI z es bl ds l=true):
  Calls Tryz.prog 41 #[.agg #[.int .i64 es.length,.slice A 1 c],.slice B n bc,.slice M m mc,.slice D k dc] w fun r w'=>r=.returned (.bool true)∧Below w.heap.size w w':=by
 unfold UI at hc;rw [Wm,Wm] at hc;obtain ⟨⟨hc,hbl⟩,hl⟩:=hc;obtain ⟨hz,hes,hE,hX,hg⟩:=XQ hc;have hk1:=LH (p:=⟨es.length,A,1,c,[⟨str es,eH z⟩]⟩) (q:=Nx es z) rfl rfl (j7 bl) ds;refine HN ⟨es.length,A,1,c,[⟨str es,eH z⟩]⟩ B n bc (j7 bl) M m mc ds D k dc l w hT o.2 ⟨by show 1≤1000000;decide,o.1,fun t ht=> ?_,fun t ht=> ?_⟩ hB (fun s hs=> ?_) hn hM hm hmc hg hS (ng hl) hk (hk1.1.trans hE) (by rw [hk1.2.1,hk1.2.2];exact hX)
 ·rw [Wu.1 ht];exact ⟨(pM hz).1,(pM hz).2.mono V0⟩
 ·rw [Wu.1 ht];show (str es).size≤100000;rw [jr];omega
 ·obtain ⟨y,hy,rfl⟩:=Wo.1 hs;have h1:=pM (ng hbl y hy);exact ⟨⟨(Sz.zero 124).ok V0,by show Sz 124 (nR 0).d;rw [cj];exact Sz.zero _⟩,⟨h1.1,h1.2.mono V0⟩⟩
abbrev fZ (A:Option Addr) (a:Nat) (B:Option Addr) (b:Nat):FX:=⟨A,1,a,B,3,b,[2],[0,0,4].map eH⟩
theorem DD (A:Option Addr) (a:Nat) (B:Option Addr) (b:Nat):(fZ A a B b).km 24:=⟨by show 1≤1000;decide,by show 3≤100000;decide,fun c hc=>by
 obtain ⟨z,hz,rfl⟩:=Wo.1 hc;exact pM (ng (l:=[0,0,4]) V0 z hz)⟩
theorem NA (A:Option Addr) (a:Nat) (B:Option Addr) (b:Nat) (L:Option Addr) (lc:Nat) (w:World) (hT:er w) (hf:(fZ A a B b).at_ w) (hb:3≤b) (hS:Sl w L 1 3 (aA NR.cells [nR (((1:Int):Dyadic)*p5 (-1))])):
  Calls Tryz.prog 10 #[.agg #[.slice A 1 a,.slice B 3 b],.slice L 1 lc] w fun r w'=>r=.returned (.tuple #[.agg #[.bool (nR ((1:Int):Dyadic)).neg,.string (nR ((1:Int):Dyadic)).bk,.int .i64 (nR ((1:Int):Dyadic)).e],.int .i64 0])∧Below w.heap.size w w':=by
 have z:Sz 25 (((1:Int):Dyadic)*p5 (-1)):=(show Sz 24 ((1:Int):Dyadic) from JK (m:=1) (e:=0) V0 V0 V0).mul (show Sz 1 (p5 (-1)) from ⟨1,by decide+kernel,V0⟩);have hE:Kb (fZ none 0 none 0) 1=0:=by decide+kernel
 have hV:Nr (fZ none 0 none 0) [nR (((1:Int):Dyadic)*p5 (-1))]=((1:Int):Dyadic):=by decide+kernel
 have hns:(fZ A a B b).ns=[2]:=rfl;have:=zZ (fZ A a B b) L 1 lc [nR (((1:Int):Dyadic)*p5 (-1))] 24 30 (2+2*(30*2)+(2+1)) w hT hf (DD A a B b) hb hS (fun s hs=>by
  rw [Wu.1 hs,cj];exact ⟨Ol.of (z.mono V0) V0,((show Sz 25 (1:Dyadic) from Sz.one.mono V0).sub z).mono V0⟩) V0 (fun _ d hd=>by
  rw [hns,Wu] at hd;subst hd;decide) (by show 24+1*_≤500000;decide)
 rw [show Kb (fZ A a B b) 1=0 from hE,show Nr (fZ A a B b) [nR (((1:Int):Dyadic)*p5 (-1))]=((1:Int):Dyadic) from hV] at this;exact this
theorem Um (A:Option Addr) (a:Nat) (B:Option Addr) (b:Nat) (w:World) (hT:er w) (hf:(fZ A a B b).at_ w) (ha:1≤a):
  Calls Tryz.prog 22 #[.agg #[.slice A 1 a,.slice B 3 b],.int .i64 0] w fun r w'=>∃g:FX,Out 0 [1] ([0,8].map fun z:Int=>(z:Dyadic)) g∧r=.returned (.tuple #[.agg #[.slice g.A g.n g.a,.slice g.B g.m g.b],.int .i64 0])∧Hp w [g.mP,g.mi] w':=by
 have hE:ej (fZ none 0 none 0) 0=0:=by decide+kernel
 have hN:dJ [2] 0=[1]:=by decide+kernel
 have hX:lZ [2] 0 (([0,0,4].map eH).map NR.d)=[0,8].map fun z:Int=>(z:Dyadic):=by decide+kernel
 have:=pT (fZ A a B b) 0 24 w hT hf (DD A a B b) ha V0;rw [show ej (fZ A a B b) 0=0 from hE,show dJ (fZ A a B b).ns (0:Int).toNat=[1] from hN,show lZ (fZ A a B b).ns (0:Int).toNat ((fZ A a B b).cs.map NR.d)=_ from hX] at this;exact this
theorem TU (A:Option Addr) (a:Nat) (B:Option Addr) (b:Nat) (L:Option Addr) (lc:Nat) (w:World) (hT:er w) (hf:(fZ A a B b).at_ w) (ha:1≤a) (hL:Sl w L 1 6 (aA SR.cells (j7 [2]))):
  Calls Tryz.prog 28 #[.agg #[.slice A 1 a,.slice B 3 b],.slice L 1 lc] w fun r w'=>∃g:PX,fL 0 1 [⟨str [2],eH 4⟩] g∧r=.returned (.tuple #[.agg #[.int .i64 g.v,.slice g.A g.n g.c],.int .i64 0])∧Hp w [g.row] w':=by
 have hE:qX (fZ none 0 none 0) (j7 [2])=0:=by decide+kernel
 have hR:(AD (fZ none 0 none 0) (j7 [2])).2=[⟨str [2],eH 4⟩]:=by kernel_rfl
 have hG:si 1 24 24 [2]≤400000∧gH (24+16394) [2] (si 1 24 24 [2]+4097)≤440000:=by decide+kernel
 have:=A5 (fZ A a B b) L 1 lc (j7 [2]) 24 24 w hT hf (DD A a B b) ha hL (fun s hs=>by
  obtain ⟨y,hy,rfl⟩:=Wo.1 hs;have h1:=pM (ng (l:=[2]) V0 y hy);exact ⟨⟨(Sz.zero 24).ok V0,by show Sz 24 (nR 0).d;rw [cj];exact Sz.zero _⟩,⟨h1.1,h1.2⟩⟩) V0 V0 (fun _ _=>hG.1) (fun _ _=>hG.2)
 rw [show qX (fZ A a B b) (j7 [2])=0 from hE,show (AD (fZ A a B b) (j7 [2])).2=_ from hR] at this;exact this
theorem U5 (ns:List Nat) (l:List Int) (A:Option Addr) (n c:Nat) (w:World) (hT:er w) (hS:Sl w A n 1 (a7 (bp ns))) (h:(decide (ns.length≤12∧ar ns≤4096) && ns.all (fun d=>decide (d≤127)) && decide ((zz ns).map (fun k:Nat=>(k:Int))=l))=true):
  Calls Tryz.prog 26 #[.slice A n c] w fun r w'=>∃v,r=.returned v∧Rows (ar ns) 3 (aA NR.cells (l.map eH)) v w'∧Below w.heap.size w w':=by
 rw [Wm,Wm] at h;obtain ⟨⟨h1,h2⟩,h3⟩:=h;have h1:=XQ h1;have e:l.map eH=xY ns:=by
  rw [←XQ h3,W6]
  rfl
 rw [e];exact (mN A n c ns w hT hS h1.1 (fun d hd=>XQ (Wq.1 h2 d hd)) h1.2).mono fun r w' ⟨B,c',hr,ho,hb⟩=>⟨_,hr,⟨B,c',rfl,iw ho⟩,hb⟩
theorem R9 (g:FX) (h:FX) (w:World) (og:Out 0 [1] ([0,8].map fun z:Int=>(z:Dyadic)) g) (hg:g.at_ w) (oh:h.ds=[1]∧h.cs=[0,8].map eH∧h.at_ w):
  Calls Tryz.prog 24 #[.agg #[.slice g.A g.n g.a,.slice g.B g.m g.b],.agg #[.slice h.A h.n h.a,.slice h.B h.m h.b]] w fun r w'=>r=.returned (.bool true)∧Below w.heap.size w w':=
 kD g h w hg oh.2.2 ⟨og.ds.trans oh.1.symm,og.cs.trans oh.2.1.symm⟩ og.n og.m
theorem Qt (p:PX) (q:Option Addr×Nat) (w:World) (op:fL 0 1 [⟨str [2],eH 4⟩] p) (hp:p.at_ w) (hq:1≤q.2∧Sl w q.1 1 4 (aA TR.cells [⟨str [2],eH 4⟩])):
  Calls Tryz.prog 32 #[.agg #[.int .i64 p.v,.slice p.A p.n p.c],.agg #[.int .i64 1,.slice q.1 1 q.2]] w fun r w'=>r=.returned (.bool true)∧Below w.heap.size w w':=by
 have hv:p.v=1:=op.v;have ht:p.ts=[⟨str [2],eH 4⟩]:=op.ts;have hn:p.n=1:=by have:=hp.ln;rw [ht] at this;exact this.symm
 refine (Aw p ⟨1,q.1,1,q.2,[⟨str [2],eH 4⟩]⟩ w hp hq.2 VZ (by show 1≤1000000;decide)).mono fun r w' ⟨v,hr,hi,hb⟩=> ?_;rw [hr,hi.2 ⟨hv,ht⟩];exact ⟨rfl,hb⟩
set_option maxRecDepth 100000 in
theorem qh (w:World) (hT:er w):Calls Tryz.prog 8 #[] w fun r w'=>r=.returned (.bool true)∧Below w.heap.size w w':=by
 have hh:=Hp.start w;refine aj (N:=116) (l:=[]) Tryz.func8 rfl rfl (by simp) ?_;refine sr (aB (aa (sr ?_)));refine IF ?_;intro b8 w8 hh;refine cV hh (cs:=[_,_,_]) a9.out aJ.out (aV rfl (aV rfl (aV rfl bW))) rfl rfl V0 V0 V0 rfl V0 ?_;intro b9 w9 hh;refine aE (lE [0,0,4] _ 3 _ _ (hh.aD (i:=0) rfl) (ng V0) V0) au.out rfl V0 ?_;rintro e_ w10 ⟨A1,c1,rfl,h2⟩;refine ⟨_,rfl, ?_⟩;have hc1:3≤c1:=h2.eZ (i:=0) rfl;replace hh:=hh.join h2;simp only [Wf,Wd] at hh;clear h2;replace hh:=hh.sub (V7 _ (Wa _ (V7 _ Wx)));refine fe [_,_] ?_;refine bJ hh ?_;intro b1 w1 hh;refine bL hh 0 [_,_] ?_;intro ws hh;replace hh:Hp _ (.blk _ _ [_,_] _::_) _:=hh;refine aa (ah ?_);refine eC [8] [7] [0,0,2,6,15,31,63,63,0,383,1023] 9 [[(1,none)],[],[(14,some 1)],[(15,some 2)],[(13,some 0),(16,some 3)],[(17,some 4)],[(12,some 5)],[(12,some 5)],[]] [(8,2),(7,19),(6,18),(5,12),(4,17),(3,16),(2,15),(1,14),(0,13)] hh mixed V2 (nO rfl aJ.out eX) rfl (by repeat (first|exact cD|refine bT ?_|refine cE ?_)) ?_;refine eJ 0 [_,_] ?_
 refine dC (fun _ hj=>gD 1 _ V0 V0) ?_;refine dC (fun _ hj=>yk (nR ((1:Int):Dyadic)) (-1) _ (by decide+kernel) (by decide+kernel) (by decide+kernel) V0 V0) ?_;refine rh [_,_,_] ?_;refine aP (i:=4) (Is (.tuple #[.agg #[.bool (nR ((1:Int):Dyadic)).neg,.string (nR ((1:Int):Dyadic)).bk,.int .i64 (nR ((1:Int):Dyadic)).e],.int .i64 0])) Is.ext ?_ ?_
 ·intro ρ1 w1 hj hR;obtain ⟨A16,c16,h16,s16⟩:=hR.2.1;exact bf rfl (aQ au.out (aw (show ρ1 13=Value.agg (List.toArray _) from hR.1) (aw h16 a8))) (NA (some ⟨b8,0,none⟩) 1 A1 c1 A16 c16 _ (hT.hp hj.hp) ⟨hj.hp.aD (i:=2) rfl,hj.hp.aD (i:=1) rfl⟩ hc1 s16) (fun _ _ hq=>⟨_,hq.1,hq.2,rfl⟩)
 refine UH ?_;refine SZ ?_;refine SZ ?_;refine aP (i:=8) (cu _ 40 _) cu.ext (fun ρ1 w1 hj hR=>gL aJ.out hj.bl (fun v w2 h hb=>⟨hb,h⟩)) ?_;refine aG ?_;intro f W hJ hV _;have hb_2:=hJ.bl;obtain ⟨v2,v19,v18,v12,v17,v16,v15,v14,v13,_⟩:=hV;obtain ⟨A16,c16,e16,f16⟩:Rows _ _ _ (f 3) W:=v16;obtain ⟨b2,e2,hl2,hc2⟩:cu _ _ _ (f 8) W:=v2;replace hh:=hJ.newVar hh hl2 hc2;refine aU (bg (ae e2 (ae v19 (ae v18 (ae v12 (ae v17 (ae e16 (ae v15 (ae v14 (ae v13 aT)))))))))) ?_;dsimp only [bI];clear e16 e2 hJ;refine bL hh 0 [_,_,_] ?_;intro ws hh;replace hh:Hp _ (.blk _ _ [_,_,_] _::_) _:=hh;refine aI (aa (sr ?_));refine bY hh 1 [_,_] ?_;refine aE (Um (some ⟨b8,0,none⟩) 1 A1 c1 _ (hT.hp hh) ⟨hh.aD (i:=3) rfl,hh.aD (i:=2) rfl⟩ (V9 _)) au.out rfl V0 ?_;rintro e_ w22 ⟨g,og,rfl,h4⟩;refine ⟨_,rfl, ?_⟩;replace hh:=hh.join h4;clear h4;simp only [Wf,Wd] at hh;replace hh:=show Hp w (.row g.B g.m g.b 40 3 (aA NR.cells g.cs)::.row g.A g.n g.a 3 1 (a7 g.ds)::_) _ from hh;refine mT ?_;refine dE ?_;refine dE ?_;refine bJ hh ?_;intro b4 w4 hh;refine bL hh 0 [_,_] ?_;intro ws hh
 replace hh:Hp _ (.blk _ _ [_,_] _::_) _:=hh;refine aI (aa (ah ?_));refine eC [7] [6] [0,0,2,7,15,31,31,0,191,511] 8 [[(1,none)],[],[(27,some 1)],[(26,some 0),(28,some 2)],[(29,some 3)],[(25,some 4)],[(25,some 4)],[]] [(7,6),(6,31),(5,30),(4,25),(3,29),(2,28),(1,27),(0,26)] hh mixed V2 (nO rfl aJ.out eX) rfl (by repeat (first|exact cD|refine bT ?_|refine cE ?_)) ?_;refine eJ 4 [_,_] ?_;refine rh [_] ?_;refine aP (i:=2) (Rows 1 6 (aA SR.cells (j7 [2]))) Rows.ext ?_ ?_
 ·intro ρ1 w1 hj hR;obtain ⟨A27,c27,h27,s27⟩:=hR.1;exact bf rfl (aQ au.out (aw h27 a8)) (HB [2] A27 1 c27 _ s27 V0 V0) (fun _ _ ⟨v,hq,hp,hb⟩=>⟨v,hq,hb,hp⟩)
 refine aP (i:=3) (j8 hh.sz 0 1 [⟨str [2],eH 4⟩]) (j8.ext) ?_ ?_
 ·intro ρ1 w1 hj hR;obtain ⟨A28,c28,h28,s28⟩:=hR.2.1;exact bf rfl (aQ au.out (aw (show ρ1 26=Value.agg (List.toArray _) from hR.1) (aw h28 a8))) (TU (some ⟨b8,0,none⟩) 1 A1 c1 A28 c28 w1 (hT.hp hj.hp) ⟨hj.hp.aD (i:=6) rfl,hj.hp.aD (i:=5) rfl⟩ (V9 _) s28) (fun _ _ ⟨g,og,hq,h3⟩=>⟨_,hq,h3.below,g,w1,rfl,og,hj.bl.size,h3⟩)
 refine aP (i:=4) (j8 hh.sz 0 1 [⟨str [2],eH 4⟩]) (j8.ext) ?_ ?_
 ·exact QO
 refine aP (i:=5) (kg hh.sz 0 1 [⟨str [2],eH 4⟩]) (kg.ext) ?_ ?_
 ·exact Rs
 refine aP (i:=6) (Is (.int .i64 0)) (Is.ext) ?_ ?_
 ·exact R4
 refine aP (i:=7) (cu _ 24 _) cu.ext (fun ρ1 w1 hj hR=>gL aJ.out hj.bl (fun v w2 h hb=>⟨hb,h⟩)) ?_;refine aG ?_;intro f W hJ hV _;have hb_4:=hJ.bl;obtain ⟨v6,v31,v30,v25,v29,v28,v27,v26,_⟩:=hV;obtain ⟨A27,c27,e27,f27⟩:Rows _ _ _ (f 1) W:=v27;obtain ⟨A28,c28,e28,f28⟩:Rows _ _ _ (f 2) W:=v28;obtain ⟨g29,u29,e29, -⟩:=v29;obtain ⟨g25,u25,e25, -⟩:=v25;obtain ⟨g30,u30,e30,o30,q30,h30⟩:=v30;obtain ⟨b6,e6,hl6,hc6⟩:cu _ _ _ (f 7) W:=v6;replace hh:=hJ.rb hh hl6 hc6 q30 h30 (PX.ne h30 hc6 V0);refine aU (bg (ae e6 (ae v31 (ae e30 (ae e25 (ae e29 (ae e28 (ae e27 (ae v26 aT))))))))) ?_;dsimp only [bI];clear e27 e28 e29 e25 e30 e6 hJ;refine bL hh 0 [_,_] ?_;intro ws hh;replace hh:Hp _ (.blk _ _ [_,_] _::_) _:=hh;refine aI (aa (ah ?_))
 refine eC [] [] [0,1,0,7,0,31,63,127,255,127,1023,127,4095,8191,16383,32767,65535,32767,262143,32767,1048575,2097151,4194303,8388607,16777215,8388607,67108863,8388607,8388607,536870911,1073741823,2147483647,4294967295,8589934591,4294967295,34359738367,4294967295,137438953471,274877906943,549755813887,1099511627775,1099511627775,4398046511103,8796093022207,17592186044415,35184372088831,70368744177663,140737488355327,281474976710655,562949953421311,562949953421311,562949953421311,2814749767106559,8444249301319679,18014398509481983,36028797018963967,72057594037927935,144115188075855871,288230376151711743,576460752303423487,1152921504606846975,2305843009213693951,2305843009213693951,6917529027641081855,18446744073709551615,36893488147419103231,73786976294838206463,147573952589676412927,295147905179352825855,590295810358705651711,1180591620717411303423,2361183241434822606847,4722366482869645213695,2361183241434822606847,18889465931478580854783,37778931862957161709567,75557863725914323419135,151115727451828646838271,302231454903657293676543,604462909807314587353087,302231454903657293676543,2417851639229258349412351,4835703278458516698824703,9671406556917033397649407,19342813113834066795298815] 81 [[],[(32,some 0)],[],[(34,some 2)],[],[(33,some 1),(35,some 3),(36,some 4)],[(37,some 5)],[(38,some 6)],[(39,some 7),(38,some 6)],[(38,some 6)],[(41,some 9),(38,some 6)],[(38,some 6)],[(40,some 8),(42,some 10),(43,some 11),(38,some 6)],[(38,some 6),(44,some 12)],[(45,some 13)],[(46,some 14)],[(47,some 15),(46,some 14)],[(46,some 14)],[(49,some 17),(46,some 14)],[(46,some 14)],[(48,some 16),(50,some 18),(51,some 19),(46,some 14)],[(46,some 14),(52,some 20)],[(53,some 21)],[(54,some 22)],[(55,some 23),(54,some 22)],[(54,some 22)],[(57,some 25),(54,some 22)],[(54,some 22)],[(54,some 22)],[(56,some 24),(58,some 26),(59,some 27),(60,some 28),(54,some 22)],[(54,some 22),(61,some 29)],[(62,some 30)],[(63,some 31)],[(64,some 32),(63,some 31)],[(63,some 31)],[(66,some 34),(63,some 31)],[(63,some 31)],[(65,some 33),(67,some 35),(68,some 36),(63,some 31)],[(63,some 31),(69,some 37)],[(70,some 38)],[(2,none),(71,some 39)],[(71,some 39)],[(72,some 40),(73,some 41),(71,some 39)],[(71,some 39),(74,some 42)],[(75,some 43)],[(3,none),(76,some 44)],[(77,some 45),(76,some 44)],[(76,some 44),(78,some 46)],[(79,some 47)],[(4,none),(80,some 48)],[(80,some 48)],[(80,some 48)],[(83,some 51),(80,some 48)],[(82,some 50),(84,some 52),(80,some 48)],[(81,some 49),(85,some 53),(80,some 48)],[(80,some 48),(86,some 54)],[(87,some 55)],[(5,none),(88,some 56)],[(89,some 57),(88,some 56)],[(88,some 56),(90,some 58)],[(91,some 59)],[(6,none),(92,some 60)],[(92,some 60)],[(94,some 62),(92,some 60)],[(93,some 61),(95,some 63),(92,some 60)],[(92,some 60),(96,some 64)],[(97,some 65)],[(7,none),(98,some 66)],[(99,some 67),(98,some 66)],[(98,some 66),(100,some 68)],[(101,some 69)],[(102,some 70)],[(103,some 71),(102,some 70)],[(102,some 70)],[(105,some 73),(102,some 70)],[(104,some 72),(106,some 74),(102,some 70)],[(102,some 70),(107,some 75)],[(108,some 76)],[(109,some 77)],[(110,some 78),(109,some 77)],[(109,some 77)]] [(80,112),(79,111),(78,110),(77,109),(76,108),(75,107),(74,106),(73,105),(72,104),(71,103),(70,102),(69,101),(68,100),(67,99),(66,98),(65,97),(64,96),(63,95),(62,94),(61,93),(60,92),(59,91),(58,90),(57,89),(56,88),(55,87),(54,86),(53,85),(52,84),(51,83),(50,82),(49,81),(48,80),(47,79),(46,78),(45,77),(44,76),(43,75),(42,74),(41,73),(40,72),(39,71),(38,70),(37,69),(36,68),(35,67),(34,66),(33,65),(32,64),(31,63),(30,62),(29,61),(28,60),(27,59),(26,58),(25,57),(24,56),(23,55),(22,54),(21,53),(20,52),(19,51),(18,50),(17,49),(16,48),(15,47),(14,46),(13,45),(12,44),(11,43),(10,42),(9,41),(8,40),(7,39),(6,38),(5,37),(4,36),(3,35),(2,34),(1,33),(0,32)] hh mixed V2 eX rfl (by repeat (first|exact cD|refine bT ?_|refine cE ?_)) ?_
 refine rh [_] ?_;refine aP (i:=1) (eB [1] 1) eB.ext ?_ ?_
 ·intro ρ1 w1 hj hR;obtain ⟨A32,c32,h32,s32⟩:=hR.1;exact bf rfl (aQ au.out (aw rfl (aw h32 a8))) (qL 1 [1] A32 1 c32 _ s32 V0 rfl V0) (fun _ _ ⟨v,hq,hp,hb⟩=>⟨v,hq,hb,hp⟩)
 refine rh [_] ?_;refine aP (i:=3) (Rows 1 6 (aA SR.cells (j7 [1]))) Rows.ext ?_ ?_
 ·intro ρ1 w1 hj hR;obtain ⟨A34,c34,h34,s34⟩:=hR.1;exact bf rfl (aQ au.out (aw h34 a8)) (HB [1] A34 1 c34 _ s34 rfl V0) (fun _ _ ⟨v,hq,hp,hb⟩=>⟨v,hq,hb,hp⟩)
 refine rh [_,_] ?_;refine aP (i:=5) (Is (.bool true)) Is.ext ?_ ?_
 ·intro ρ1 w1 hj hR;obtain ⟨A35,c35,h35,s35⟩:=hR.2.1;obtain ⟨A36,c36,h36,s36⟩:=hR.2.2.1;obtain ⟨g33,e33,o33⟩:=hR.1;exact bf rfl (aQ au.out (aw e33 (aw h35 (aw rfl (aw h36 a8))))) (SW 1 [1] [1] [] [0,1] g33.1 g33.2 A35 1 c35 none 0 0 A36 2 c36 _ (hT.hp hj.hp) o33 s35 (Sl.nil _ _ _) V0 s36 V0 V0 V0 (by decide+kernel)) (fun _ _ hq=>⟨_,hq.1,hq.2,rfl⟩)
 refine od ?_;refine bh (i:=7) (cs:=[_]) rfl (fun ρ1 w1 hj hR=>(show ρ1 38=Value.bool _ from hR.1)) a9.out aJ.out (fun ρ1 w1 hj hR=>(aV rfl bW)) rfl rfl V0 V0 rfl ?_;refine aP (i:=8) (eB [1] 1) eB.ext ?_ ?_
 ·intro ρ1 w1 hj hR;obtain ⟨A39,c39,h39,s39⟩:=hR.1;refine bo rfl ((show ρ1 38=Value.bool _ from hR.2.1)) ?_;exact bf rfl (aQ au.out (aw rfl (aw h39 a8))) (qL 1 [1] A39 1 c39 _ s39 V0 rfl V0) (fun _ _ ⟨v,hq,hp,hb⟩=>⟨v,hq,hb,hp⟩)
 refine bh (i:=9) (cs:=[_]) rfl (fun ρ1 w1 hj hR=>(show ρ1 38=Value.bool _ from hR.1)) a9.out aJ.out (fun ρ1 w1 hj hR=>(aV rfl bW)) rfl rfl V0 V0 rfl ?_;refine aP (i:=10) (Rows 1 6 (aA SR.cells (j7 [4]))) Rows.ext ?_ ?_
 ·intro ρ1 w1 hj hR;obtain ⟨A41,c41,h41,s41⟩:=hR.1;refine bo rfl ((show ρ1 38=Value.bool _ from hR.2.1)) ?_;exact bf rfl (aQ au.out (aw h41 a8)) (HB [4] A41 1 c41 _ s41 rfl V0) (fun _ _ ⟨v,hq,hp,hb⟩=>⟨v,hq,hb,hp⟩)
 refine bh (i:=11) (cs:=[_,_]) rfl (fun ρ1 w1 hj hR=>(show ρ1 38=Value.bool _ from hR.1)) a9.out aJ.out (fun ρ1 w1 hj hR=>(aV rfl (aV rfl bW))) rfl rfl V0 V0 rfl ?_;refine aP (i:=12) (Is (.bool true)) Is.ext ?_ ?_
 ·intro ρ1 w1 hj hR;obtain ⟨A42,c42,h42,s42⟩:=hR.2.1;obtain ⟨A43,c43,h43,s43⟩:=hR.2.2.1;obtain ⟨g40,e40,o40⟩:=hR.1;refine bo rfl ((show ρ1 38=Value.bool _ from hR.2.2.2.1)) ?_;exact bf rfl (aQ au.out (aw e40 (aw h42 (aw rfl (aw h43 a8))))) (SW 1 [1] [4] [] [0,4] g40.1 g40.2 A42 1 c42 none 0 0 A43 2 c43 _ (hT.hp hj.hp) o40 s42 (Sl.nil _ _ _) V0 s43 V0 V0 V0 (by decide+kernel)) (fun _ _ hq=>⟨_,hq.1,hq.2,rfl⟩)
 refine G3 ?_;refine od ?_;refine bh (i:=15) (cs:=[_]) rfl (fun ρ1 w1 hj hR=>(show ρ1 46=Value.bool _ from hR.1)) a9.out aJ.out (fun ρ1 w1 hj hR=>(aV rfl bW)) rfl rfl V0 V0 rfl ?_;refine aP (i:=16) (eB [2] 1) eB.ext ?_ ?_
 ·intro ρ1 w1 hj hR;obtain ⟨A47,c47,h47,s47⟩:=hR.1;refine bo rfl ((show ρ1 46=Value.bool _ from hR.2.1)) ?_;exact bf rfl (aQ au.out (aw rfl (aw h47 a8))) (qL 1 [2] A47 1 c47 _ s47 V0 rfl V0) (fun _ _ ⟨v,hq,hp,hb⟩=>⟨v,hq,hb,hp⟩)
 refine bh (i:=17) (cs:=[_]) rfl (fun ρ1 w1 hj hR=>(show ρ1 46=Value.bool _ from hR.1)) a9.out aJ.out (fun ρ1 w1 hj hR=>(aV rfl bW)) rfl rfl V0 V0 rfl ?_;refine aP (i:=18) (Rows 1 6 (aA SR.cells (j7 [2]))) Rows.ext ?_ ?_
 ·intro ρ1 w1 hj hR;obtain ⟨A49,c49,h49,s49⟩:=hR.1;refine bo rfl ((show ρ1 46=Value.bool _ from hR.2.1)) ?_;exact bf rfl (aQ au.out (aw h49 a8)) (HB [2] A49 1 c49 _ s49 rfl V0) (fun _ _ ⟨v,hq,hp,hb⟩=>⟨v,hq,hb,hp⟩)
 refine bh (i:=19) (cs:=[_,_,_]) rfl (fun ρ1 w1 hj hR=>(show ρ1 46=Value.bool _ from hR.1)) a9.out aJ.out (fun ρ1 w1 hj hR=>(aV rfl (aV rfl (aV rfl bW)))) rfl rfl V0 V0 rfl ?_;refine aP (i:=20) (Is (.bool true)) Is.ext ?_ ?_
 ·intro ρ1 w1 hj hR;obtain ⟨A50,c50,h50,s50⟩:=hR.2.1;obtain ⟨A51,c51,h51,s51⟩:=hR.2.2.1;obtain ⟨g48,e48,o48⟩:=hR.1;refine bo rfl ((show ρ1 46=Value.bool _ from hR.2.2.2.1)) ?_;exact bf rfl (aQ au.out (aw e48 (aw h50 (aw rfl (aw h51 a8))))) (SW 1 [2] [2] [] [0,0,4] g48.1 g48.2 A50 1 c50 none 0 0 A51 3 c51 _ (hT.hp hj.hp) o48 s50 (Sl.nil _ _ _) V0 s51 V0 V0 V0 (by decide+kernel)) (fun _ _ hq=>⟨_,hq.1,hq.2,rfl⟩)
 refine G3 ?_;refine od ?_;refine bh (i:=23) (cs:=[_]) rfl (fun ρ1 w1 hj hR=>(show ρ1 54=Value.bool _ from hR.1)) a9.out aJ.out (fun ρ1 w1 hj hR=>(aV rfl bW)) rfl rfl V0 V0 rfl ?_;refine aP (i:=24) (eB [0] 3) eB.ext ?_ ?_
 ·intro ρ1 w1 hj hR;obtain ⟨A55,c55,h55,s55⟩:=hR.1;refine bo rfl ((show ρ1 54=Value.bool _ from hR.2.1)) ?_;exact bf rfl (aQ au.out (aw rfl (aw h55 a8))) (qL 3 [0] A55 1 c55 _ s55 V0 rfl V0) (fun _ _ ⟨v,hq,hp,hb⟩=>⟨v,hq,hb,hp⟩)
 refine bh (i:=25) (cs:=[_]) rfl (fun ρ1 w1 hj hR=>(show ρ1 54=Value.bool _ from hR.1)) a9.out aJ.out (fun ρ1 w1 hj hR=>(aV rfl bW)) rfl rfl V0 V0 rfl ?_;refine aP (i:=26) (Rows 1 6 (aA SR.cells (j7 [1]))) Rows.ext ?_ ?_
 ·intro ρ1 w1 hj hR;obtain ⟨A57,c57,h57,s57⟩:=hR.1;refine bo rfl ((show ρ1 54=Value.bool _ from hR.2.1)) ?_;exact bf rfl (aQ au.out (aw h57 a8)) (HB [1] A57 1 c57 _ s57 rfl V0) (fun _ _ ⟨v,hq,hp,hb⟩=>⟨v,hq,hb,hp⟩)
 refine aP (i:=27) (iV 1 1 (a7 [2])) (iV.ext) ?_ ?_
 ·intro ρ1 w1 hj hR;exact bo rfl (show ρ1 54=Value.bool _ from hR.1) (je (sz:=1) a9.out aJ.out (show wB ρ1 [(0,.const (.int .i64 2))]=[(0,.int .i64 2)] from rfl) rfl rfl V0 V0 rfl fun v w2 h hb=>⟨hb,h⟩)
 refine bh (i:=28) (cs:=[_,_,_]) rfl (fun ρ1 w1 hj hR=>(show ρ1 54=Value.bool _ from hR.1)) a9.out aJ.out (fun ρ1 w1 hj hR=>(aV rfl (aV rfl (aV rfl bW)))) rfl rfl V0 V0 rfl ?_;refine aP (i:=29) (Is (.bool true)) Is.ext ?_ ?_
 ·intro ρ1 w1 hj hR;obtain ⟨A58,c58,h58,s58⟩:=hR.2.1;obtain ⟨A60,c60,h60,s60⟩:=hR.2.2.2.1;obtain ⟨g56,e56,o56⟩:=hR.1;obtain ⟨g59,e59,o59⟩:=hR.2.2.1;refine bo rfl ((show ρ1 54=Value.bool _ from hR.2.2.2.2.1)) ?_;exact bf rfl (aQ au.out (aw e56 (aw h58 (aw e59 (aw h60 a8))))) (SW 3 [0] [1] [2] [3,6,3] g56.1 g56.2 A58 1 c58 (some ⟨g59,0,none⟩) 1 1 A60 3 c60 _ (hT.hp hj.hp) o56 s58 o59 V0 s60 V0 V0 V0 (by decide+kernel)) (fun _ _ hq=>⟨_,hq.1,hq.2,rfl⟩)
 refine G3 ?_;refine od ?_;refine bh (i:=32) (cs:=[_,_]) rfl (fun ρ1 w1 hj hR=>(show ρ1 63=Value.bool _ from hR.1)) a9.out aJ.out (fun ρ1 w1 hj hR=>(aV rfl (aV rfl bW))) rfl rfl V0 V0 rfl ?_;refine aP (i:=33) (eB [1,1] 1) eB.ext ?_ ?_
 ·intro ρ1 w1 hj hR;obtain ⟨A64,c64,h64,s64⟩:=hR.1;refine bo rfl ((show ρ1 63=Value.bool _ from hR.2.1)) ?_;exact bf rfl (aQ au.out (aw rfl (aw h64 a8))) (qL 1 [1,1] A64 2 c64 _ s64 V0 rfl V0) (fun _ _ ⟨v,hq,hp,hb⟩=>⟨v,hq,hb,hp⟩)
 refine bh (i:=34) (cs:=[_,_]) rfl (fun ρ1 w1 hj hR=>(show ρ1 63=Value.bool _ from hR.1)) a9.out aJ.out (fun ρ1 w1 hj hR=>(aV rfl (aV rfl bW))) rfl rfl V0 V0 rfl ?_;refine aP (i:=35) (Rows 2 6 (aA SR.cells (j7 [1,1]))) Rows.ext ?_ ?_
 ·intro ρ1 w1 hj hR;obtain ⟨A66,c66,h66,s66⟩:=hR.1;refine bo rfl ((show ρ1 63=Value.bool _ from hR.2.1)) ?_;exact bf rfl (aQ au.out (aw h66 a8)) (HB [1,1] A66 2 c66 _ s66 rfl V0) (fun _ _ ⟨v,hq,hp,hb⟩=>⟨v,hq,hb,hp⟩)
 refine bh (i:=36) (cs:=[_,_,_,_]) rfl (fun ρ1 w1 hj hR=>(show ρ1 63=Value.bool _ from hR.1)) a9.out aJ.out (fun ρ1 w1 hj hR=>(aV rfl (aV rfl (aV rfl (aV rfl bW))))) rfl rfl V0 V0 rfl ?_;refine aP (i:=37) (Is (.bool true)) Is.ext ?_ ?_
 ·intro ρ1 w1 hj hR;obtain ⟨A67,c67,h67,s67⟩:=hR.2.1;obtain ⟨A68,c68,h68,s68⟩:=hR.2.2.1;obtain ⟨g65,e65,o65⟩:=hR.1;refine bo rfl ((show ρ1 63=Value.bool _ from hR.2.2.2.1)) ?_;exact bf rfl (aQ au.out (aw e65 (aw h67 (aw rfl (aw h68 a8))))) (SW 1 [1,1] [1,1] [] [0,0,0,1] g65.1 g65.2 A67 2 c67 none 0 0 A68 4 c68 _ (hT.hp hj.hp) o65 s67 (Sl.nil _ _ _) V0 s68 V0 V0 V0 (by decide+kernel)) (fun _ _ hq=>⟨_,hq.1,hq.2,rfl⟩)
 refine G3 ?_;refine od ?_;refine dG (eJ 5 [_,_,_] ?_);refine l5 (i:=41) rfl (fun ρ1 w1 hj hR=>(show ρ1 71=Value.bool _ from hR.1)) (fun ρ1 w1 hj hR=>aQ au.out (aw rfl a8)) (fun w1 hj=>gD 1 _ V0 V0) ?_;refine x9 (i:=42) rfl (fun ρ1 w1 hj hR=>(show ρ1 71=Value.bool _ from hR.2.2.1)) (fun ρ1 w1 hj hR=>F6 (show ρ1 72=Value.agg (List.toArray _) from hR.1) (show ρ1 73=Value.agg (List.toArray _) from hR.2.1) (by first|assumption|rfl)) ?_;refine G3 ?_;refine od ?_;refine dG (dn ?_);refine dG (zt ?_);refine G3 ?_;refine od ?_;refine dG (eJ 2 [_,_] ?_);refine bh (i:=50) (cs:=[_]) rfl (fun ρ1 w1 hj hR=>(show ρ1 80=Value.bool _ from hR.1)) a9.out aJ.out (fun ρ1 w1 hj hR=>(aV rfl bW)) rfl rfl V0 V0 rfl ?_;refine bh (i:=51) (cs:=[_,_]) rfl (fun ρ1 w1 hj hR=>(show ρ1 80=Value.bool _ from hR.1)) a9.out aJ.out (fun ρ1 w1 hj hR=>(aV rfl (aV rfl bW))) rfl rfl V0 V0 rfl ?_;refine aP (i:=52) (Rows 2 3 (aA NR.cells ([0,8].map eH))) Rows.ext ?_ ?_
 ·intro ρ1 w1 hj hR;obtain ⟨A83,c83,h83,s83⟩:=hR.1;refine bo rfl ((show ρ1 80=Value.bool _ from hR.2.1)) ?_;exact bf rfl (aQ au.out (aw h83 a8)) (TT [0,8] A83 2 c83 _ s83 rfl V0) (fun _ _ ⟨v,hq,hp,hb⟩=>⟨v,hq,hb,hp⟩)
 refine aP (i:=53) (wD [1] ([0,8].map eH)) (wD.ext) ?_ ?_
 ·intro ρ1 w1 hj hR;obtain ⟨A82,c82,h82,s82⟩:=hR.1;obtain ⟨A84,c84,h84,s84⟩:=hR.2.1;exact bo rfl (show ρ1 80=Value.bool _ from hR.2.2.1) (dv rfl (pO (cs:=[_,_]) aJ.out lL.out (aV h82 (aV h84 bW)) rfl) ⟨Below.refl _ _,⟨A82,1,c82,A84,2,c84,[1],[0,8].map eH⟩,rfl,rfl,rfl,⟨s82,s84⟩⟩)
 refine aP (i:=54) (Is (.bool true)) Is.ext ?_ ?_
 ·intro ρ1 w1 hj hR;obtain ⟨g85,e85,o85⟩:=hR.2.1;refine bo rfl ((show ρ1 80=Value.bool _ from hR.2.2.1)) ?_;exact bf rfl (aQ au.out (aw (show ρ1 81=Value.agg (List.toArray _) from hR.1) (aw e85 a8))) (R9 g g85 _ og ⟨hj.hp.aD (i:=4) rfl,hj.hp.aD (i:=3) rfl⟩ o85) (fun _ _ hq=>⟨_,hq.1,hq.2,rfl⟩)
 refine G3 ?_;refine od ?_;refine dG (dn ?_);refine dG (zt ?_);refine G3 ?_;refine od ?_;refine dG (eJ 0 [_,_] ?_);refine bh (i:=62) (cs:=[_]) rfl (fun ρ1 w1 hj hR=>(show ρ1 92=Value.bool _ from hR.1)) a9.out aJ.out (fun ρ1 w1 hj hR=>(aV rfl bW)) rfl rfl V0 V0 rfl ?_;refine aP (i:=63) (eB [2] 4) eB.ext ?_ ?_
 ·intro ρ1 w1 hj hR;obtain ⟨A94,c94,h94,s94⟩:=hR.1;refine bo rfl ((show ρ1 92=Value.bool _ from hR.2.1)) ?_;exact bf rfl (aQ au.out (aw rfl (aw h94 a8))) (qL 4 [2] A94 1 c94 _ s94 V0 rfl V0) (fun _ _ ⟨v,hq,hp,hb⟩=>⟨v,hq,hb,hp⟩)
 refine aP (i:=64) (Is (.bool true)) Is.ext ?_ ?_
 ·intro ρ1 w1 hj hR;obtain ⟨g95,e95,o95⟩:=hR.2.1;refine bo rfl ((show ρ1 92=Value.bool _ from hR.2.2.1)) ?_;exact bf rfl (aQ au.out (aw (show ρ1 93=Value.agg (List.toArray _) from hR.1) (aw e95 a8))) (Qt g30 g95 _ o30 (hj.hp.aD (i:=1) rfl) o95) (fun _ _ hq=>⟨_,hq.1,hq.2,rfl⟩)
 refine G3 ?_;refine od ?_;refine dG (dn ?_);refine dG (zt ?_);refine G3 ?_;refine od ?_;refine bh (i:=71) (cs:=[_]) rfl (fun ρ1 w1 hj hR=>(show ρ1 102=Value.bool _ from hR.1)) a9.out aJ.out (fun ρ1 w1 hj hR=>(aV rfl bW)) rfl rfl V0 V0 rfl ?_;refine aP (i:=72) (Rows 3 3 (aA NR.cells ([1,2,1].map eH))) Rows.ext ?_ ?_
 ·intro ρ1 w1 hj hR;obtain ⟨A103,c103,h103,s103⟩:=hR.1;refine bo rfl ((show ρ1 102=Value.bool _ from hR.2.1)) ?_;exact bf rfl (aQ au.out (aw h103 a8)) (U5 [2] [1,2,1] A103 1 c103 _ (hT.hp hj.hp) s103 (by decide+kernel)) (fun _ _ ⟨v,hq,hp,hb⟩=>⟨v,hq,hb,hp⟩)
 refine bh (i:=73) (cs:=[_,_,_]) rfl (fun ρ1 w1 hj hR=>(show ρ1 102=Value.bool _ from hR.1)) a9.out aJ.out (fun ρ1 w1 hj hR=>(aV rfl (aV rfl (aV rfl bW)))) rfl rfl V0 V0 rfl ?_;refine aP (i:=74) (Rows 3 3 (aA NR.cells ([1,2,1].map eH))) Rows.ext ?_ ?_
 ·intro ρ1 w1 hj hR;obtain ⟨A105,c105,h105,s105⟩:=hR.1;refine bo rfl ((show ρ1 102=Value.bool _ from hR.2.1)) ?_;exact bf rfl (aQ au.out (aw h105 a8)) (TT [1,2,1] A105 3 c105 _ s105 rfl V0) (fun _ _ ⟨v,hq,hp,hb⟩=>⟨v,hq,hb,hp⟩)
 refine aP (i:=75) (Is (.bool true)) Is.ext ?_ ?_
 ·intro ρ1 w1 hj hR;obtain ⟨A104,c104,h104,s104⟩:=hR.1;obtain ⟨A106,c106,h106,s106⟩:=hR.2.1;refine bo rfl ((show ρ1 102=Value.bool _ from hR.2.2.1)) ?_;exact bf rfl (aQ au.out (aw h104 (aw h106 a8))) (jw A104 3 c104 ([1,2,1].map eH) A106 c106 _ s104 s106 V0) (fun _ _ hq=>⟨_,hq.1,hq.2,rfl⟩)
 refine G3 ?_;refine od ?_;refine bh (i:=78) (cs:=[_,_]) rfl (fun ρ1 w1 hj hR=>(show ρ1 109=Value.bool _ from hR.1)) a9.out aJ.out (fun ρ1 w1 hj hR=>(aV rfl (aV rfl bW))) rfl rfl V0 V0 rfl ?_;refine aP (i:=79) (Rows 6 3 (aA NR.cells ([1,2,1,1,2,1].map eH))) Rows.ext ?_ ?_
 ·intro ρ1 w1 hj hR;obtain ⟨A110,c110,h110,s110⟩:=hR.1;refine bo rfl ((show ρ1 109=Value.bool _ from hR.2.1)) ?_;exact bf rfl (aQ au.out (aw h110 a8)) (U5 [1,2] [1,2,1,1,2,1] A110 2 c110 _ (hT.hp hj.hp) s110 (by decide+kernel)) (fun _ _ ⟨v,hq,hp,hb⟩=>⟨v,hq,hb,hp⟩)
 refine bh (i:=80) (cs:=[_,_,_,_,_,_]) rfl (fun ρ1 w1 hj hR=>(show ρ1 109=Value.bool _ from hR.1)) a9.out aJ.out (fun ρ1 w1 hj hR=>(aV rfl (aV rfl (aV rfl (aV rfl (aV rfl (aV rfl bW))))))) rfl rfl V0 V0 rfl ?_;refine aG ?_;intro f W hJ hV _;have hb_5:=hJ.bl;obtain ⟨v112,v111,v110,v109,v108,v107,v106,v105,v104,v103,v102,v101,v100,v99,v98,v97,v96,v95,v94,v93,v92,v91,v90,v89,v88,v87,v86,v85,v84,v83,v82,v81,v80,v79,v78,v77,v76,v75,v74,v73,v72,v71,v70,v69,v68,v67,v66,v65,v64,v63,v62,v61,v60,v59,v58,v57,v56,v55,v54,v53,v52,v51,v50,v49,v48,v47,v46,v45,v44,v43,v42,v41,v40,v39,v38,v37,v36,v35,v34,v33,v32,_⟩:=hV;obtain ⟨A32,c32,e32,f32⟩:Rows _ _ _ (f 0) W:=v32;obtain ⟨g33,e33,o33⟩:eB [1] 1 (f 1) W:=v33;obtain ⟨A34,c34,e34,f34⟩:Rows _ _ _ (f 2) W:=v34;obtain ⟨A35,c35,e35,f35⟩:Rows _ _ _ (f 3) W:=v35;obtain ⟨A36,c36,e36,f36⟩:Rows _ _ _ (f 4) W:=v36;obtain ⟨A39,c39,e39,f39⟩:Rows _ _ _ (f 7) W:=v39;obtain ⟨g40,e40,o40⟩:eB [1] 1 (f 8) W:=v40;obtain ⟨A41,c41,e41,f41⟩:Rows _ _ _ (f 9) W:=v41;obtain ⟨A42,c42,e42,f42⟩:Rows _ _ _ (f 10) W:=v42
 obtain ⟨A43,c43,e43,f43⟩:Rows _ _ _ (f 11) W:=v43;obtain ⟨A47,c47,e47,f47⟩:Rows _ _ _ (f 15) W:=v47;obtain ⟨g48,e48,o48⟩:eB [2] 1 (f 16) W:=v48;obtain ⟨A49,c49,e49,f49⟩:Rows _ _ _ (f 17) W:=v49;obtain ⟨A50,c50,e50,f50⟩:Rows _ _ _ (f 18) W:=v50;obtain ⟨A51,c51,e51,f51⟩:Rows _ _ _ (f 19) W:=v51;obtain ⟨A55,c55,e55,f55⟩:Rows _ _ _ (f 23) W:=v55;obtain ⟨g56,e56,o56⟩:eB [0] 3 (f 24) W:=v56;obtain ⟨A57,c57,e57,f57⟩:Rows _ _ _ (f 25) W:=v57;obtain ⟨A58,c58,e58,f58⟩:Rows _ _ _ (f 26) W:=v58;obtain ⟨g59,e59,o59⟩:iV 1 1 (a7 [2]) (f 27) W:=v59;obtain ⟨A60,c60,e60,f60⟩:Rows _ _ _ (f 28) W:=v60;obtain ⟨A64,c64,e64,f64⟩:Rows _ _ _ (f 32) W:=v64;obtain ⟨g65,e65,o65⟩:eB [1,1] 1 (f 33) W:=v65;obtain ⟨A66,c66,e66,f66⟩:Rows _ _ _ (f 34) W:=v66;obtain ⟨A67,c67,e67,f67⟩:Rows _ _ _ (f 35) W:=v67;obtain ⟨A68,c68,e68,f68⟩:Rows _ _ _ (f 36) W:=v68;obtain ⟨A82,c82,e82,f82⟩:Rows _ _ _ (f 50) W:=v82;obtain ⟨A83,c83,e83,f83⟩:Rows _ _ _ (f 51) W:=v83;obtain ⟨A84,c84,e84,f84⟩:Rows _ _ _ (f 52) W:=v84;obtain ⟨g85,e85,o85⟩:wD [1] ([0,8].map eH) (f 53) W:=v85
 obtain ⟨A94,c94,e94,f94⟩:Rows _ _ _ (f 62) W:=v94;obtain ⟨g95,e95,o95⟩:eB [2] 4 (f 63) W:=v95;obtain ⟨A103,c103,e103,f103⟩:Rows _ _ _ (f 71) W:=v103;obtain ⟨A104,c104,e104,f104⟩:Rows _ _ _ (f 72) W:=v104;obtain ⟨A105,c105,e105,f105⟩:Rows _ _ _ (f 73) W:=v105;obtain ⟨A106,c106,e106,f106⟩:Rows _ _ _ (f 74) W:=v106;obtain ⟨A110,c110,e110,f110⟩:Rows _ _ _ (f 78) W:=v110;obtain ⟨A111,c111,e111,f111⟩:Rows _ _ _ (f 79) W:=v111;obtain ⟨A112,c112,e112,f112⟩:Rows _ _ _ (f 80) W:=v112;replace hh:=hJ.hp
 refine aU (bg (ae e112 (ae e111 (ae e110 (ae v109 (ae v108 (ae v107 (ae e106 (ae e105 (ae e104 (ae e103 (ae v102 (ae v101 (ae v100 (ae v99 (ae v98 (ae v97 (ae v96 (ae e95 (ae e94 (ae v93 (ae v92 (ae v91 (ae v90 (ae v89 (ae v88 (ae v87 (ae v86 (ae e85 (ae e84 (ae e83 (ae e82 (ae v81 (ae v80 (ae v79 (ae v78 (ae v77 (ae v76 (ae v75 (ae v74 (ae v73 (ae v72 (ae v71 (ae v70 (ae v69 (ae e68 (ae e67 (ae e66 (ae e65 (ae e64 (ae v63 (ae v62 (ae v61 (ae e60 (ae e59 (ae e58 (ae e57 (ae e56 (ae e55 (ae v54 (ae v53 (ae v52 (ae e51 (ae e50 (ae e49 (ae e48 (ae e47 (ae v46 (ae v45 (ae v44 (ae e43 (ae e42 (ae e41 (ae e40 (ae e39 (ae v38 (ae v37 (ae e36 (ae e35 (ae e34 (ae e33 (ae e32 aT)))))))))))))))))))))))))))))))))))))))))))))))))))))))))))))))))))))))))))))))))) ?_;dsimp only [bI];clear e32 e33 e34 e35 e36 e39 e40 e41 e42 e43 e47 e48 e49 e50 e51 e55 e56 e57 e58 e59 e60 e64 e65 e66 e67 e68 e82 e83 e84 e85 e94 e95 e103 e104 e105 e106 e110 e111 e112 hJ;refine aH rfl rfl ?_;refine aE (lE [1,2,1,1,2,1] A112 6 c112 _ f112 (ng rfl) V0) au.out rfl V0 ?_;rintro e_ w113 ⟨A113,c113,rfl,h2⟩;refine ⟨_,rfl, ?_⟩;replace hh:=hh.ext h2.below;refine aH rfl rfl ?_
 refine bq hh (jw A111 6 c111 ([1,2,1,1,2,1].map eH) A113 c113 _ (f111.ext h2.below) (h2.aD (i:=0) rfl) V0) rfl ?_;intro w114 hh;refine fi ?_;exact vP
theorem oQ (a:NR) (w:World):
  Calls Tryz.prog 36 #[.agg #[.bool a.neg,.string a.bk,.int .i64 a.e]] w fun r w'=>r=.returned (.bool (tD a))∧Below w.heap.size w w':=by
 have hh:=Hp.start w;by_cases h1:(8:Int)<a.bk.size
 ·refine Ei ?_;refine sr ?_;refine bV hh [_,_,_] ?_;intro b1 w1 hh;refine aB (aa (sr (bC (bC ?_))));refine bA hh 0 ?_;refine cg a9.out rfl V0 ?_;refine bH (mB ?_);refine gS (gS (gS ?_));refine fi ?_;refine mB ?_;refine gS (gS (gS ?_));refine fi ?_;refine aB (aa (av ?_));refine cW ?_;refine ⟨?_,hh.below⟩;unfold tD;rw [Wr (.inl h1)]
 ·by_cases h2:a.e< -60
  ·refine Ei ?_;refine sr ?_;refine bV hh [_,_,_] ?_;intro b1 w1 hh;refine aB (aa (sr (bC (bC ?_))));refine bA hh 0 ?_;refine cg a9.out rfl V0 ?_;refine bH (mB (gT (bC (gT ?_))));refine bA hh 0 ?_;refine gT ?_;refine a0 ?_;refine dR ?_;refine mB ?_;refine gS (gS (gS ?_));refine fi ?_;refine aB (aa (av ?_));refine cW ?_;refine ⟨?_,hh.below⟩;unfold tD;rw [Wr (.inr (.inl h2))]
  ·by_cases h3:60<a.e
   ·refine Ei ?_;refine sr ?_;refine bV hh [_,_,_] ?_;intro b1 w1 hh;refine aB (aa (sr (bC (bC ?_))));refine bA hh 0 ?_;refine cg a9.out rfl V0 ?_;refine bH (mB (gT (bC (gT ?_))));refine bA hh 0 ?_;refine gT ?_;refine a0 ?_;refine dR ?_;refine mB (gT (bC (gT ?_)));refine bA hh 0 ?_;refine gT ?_;refine bH ?_;refine dR ?_;refine aB (aa (av ?_));refine cW ?_;refine ⟨?_,hh.below⟩;unfold tD;rw [Wr (.inr (.inr h3))]
   ·refine Ei ?_;refine sr ?_;refine bV hh [_,_,_] ?_;intro b1 w1 hh;refine aB (aa (sr (bC (bC ?_))));refine bA hh 0 ?_;refine cg a9.out rfl V0 ?_;refine bH (mB (gT (bC (gT ?_))));refine bA hh 0 ?_;refine gT ?_;refine a0 ?_;refine dR ?_;refine mB (gT (bC (gT ?_)));refine bA hh 0 ?_;refine gT ?_;refine bH ?_;refine dR ?_;refine aB (aa (av ?_));refine cW ?_;refine ⟨?_,hh.below⟩;unfold tD;rw [WG VZ]
theorem zf (A:Option Addr) (n c:Nat) (ds:List Int) (w:World) (hS:Sl w A n 1 (a7 ds)):
  Calls Tryz.prog 70 #[.slice A n c] w fun r w'=>∃b:Bool,r=.returned (.bool b)∧(b=false→n≤20∧(kn ds≤4096→kn ds≤200∧∀d∈ds,¬(6<d∧d<128)))∧Below w.heap.size w w':=by
 have hh:=Hp.start w;have hln:ds.length=n:=by have:=hS.1;simpa [a7] using this
 by_cases h1:20<n
 ·refine aj (N:=32) (l:=[.slice A n c]) Tryz.func70 rfl rfl (by simp) ?_;refine uH ?_;refine bH (aa (cT (sr (aB (aa (av (aK ?_)))))));exact Iz
 ·have hc:=fun w1 hb=>jb A n c ds w1 (hS.ext hb) VZ;generalize kn ds=q at*;by_cases h4:4096<q
  ·refine aj (N:=32) (l:=[.slice A n c]) Tryz.func70 rfl rfl (by simp) ?_;refine uH ?_;refine bH (aa (cF (ao (ai (sr (mL ?_))))));refine bq hh (hc _ hh.below) rfl ?_;intro w9 hh;refine aI (aa (ah (sr (mI ?_))));refine bH (aa (cT (sr (aB (aa (av (aK ?_)))))));refine cW ?_;exact ⟨_,rfl,fun _=>⟨VZ,fun h=>absurd h VZ⟩,hh.below⟩
  ·refine aj (N:=32) (l:=[.slice A n c]) Tryz.func70 rfl rfl (by simp) ?_;refine uH ?_;refine bH (aa (cF (ao (ai (sr (mL ?_))))));refine bq hh (hc _ hh.below) rfl ?_;intro w9 hh;refine aI (aa (ah (sr (mI ?_))));refine bH (aa (cF (ao (ai (ah (sr (aI (aa (aq ?_)))))))));refine aW [2,4,12,13,14,15,16,17,18,19,20,21,22,23,24,25,26,27,28,29] 4
    (fun v w'=>∃i:Nat,i≤n∧v=.int .i64 i∧(∀d∈ds.take i,¬(6<d∧d<128))∧Hp w [] w')
    (fun v _=>n-(intOf v).toNat) ?_ ?_
   ·exact ⟨0,V8 _,rfl,fun d hd=>(nomatch hd),hh⟩
   ·clear hh;rintro ρ2 v w2 ⟨j,hj,rfl,hall,hh⟩;by_cases hlt:j<n
    ·obtain ⟨d,hd⟩:=al (l:=ds) (k:=j) VZ;have hgd:=bR hd;obtain ⟨a1,rfl,hr⟩:=hS.at_ VZ;by_cases h6:6<d
     ·by_cases h128:d<128
      ·refine ah (sr (mI (mL (aF ?_))));refine kT ?_;refine kx ?_;refine gP ?_;refine bH (mB (gT (mL (gT (mI (gT ?_))))));refine kx ?_;refine gT ?_;refine gP ?_;refine gT ?_;refine a0 ?_;refine fi ?_;exact MK
      ·refine ah (sr (mI (mL (aF ?_))));refine kT ?_;refine kx ?_;refine gP ?_;refine bH (mB (gT (mL (gT (mI (gT ?_))))));refine kx ?_;refine gT ?_;refine gP ?_;refine gT ?_;refine a0 ?_;refine fi ?_;exact PE
     ·refine ah (sr (mI (mL (aF ?_))));refine kT ?_;refine kx ?_;refine gP ?_;refine bH (mB ?_);refine gS (gS (gS (gS (gS ?_))));refine dR ?_;exact PE
    ·rw [Wc VZ] at hall;by_cases h3:200<q
     ·refine ah (sr (mI (mL (aF ?_))));refine a0 (aa (cF (aZ (aC (aC (br (ai (sr (mI ?_)))))))));refine bH (aB (aa (av ?_)));exact Iz
     ·refine ah (sr (mI (mL (aF ?_))));refine a0 (aa (cF (aZ (aC (aC (br (ai (sr (mI ?_)))))))));refine bH (aB (aa (av ?_)));refine cW ?_;exact ⟨_,rfl,fun _=>⟨VZ,fun _=>⟨VZ,hall⟩⟩,hh.below⟩
theorem z7 (A:Option Addr) (n c:Nat) (xs:List NR) (B:Option Addr) (m d:Nat) (b:List SR) (w:World) (hS:Sl w A n 3 (aA NR.cells xs)) (hB:Sl w B m 6 (aA SR.cells b)):
  Calls Tryz.prog 7 #[.slice A n c,.slice B m d] w fun r w'=>∃v:Bool,r=.returned (.bool v)∧(v=false→n≤200∧m≤20∧(∀x∈xs,tD x=false)∧∀s∈b,s.fin 124)∧Below w.heap.size w w':=by
 have hh:=Hp.start w;have hln:xs.length=n:=hS.bE NR.len V0;have hlb:b.length=m:=hB.bE SR.len V0;by_cases h1:200<n
 ·refine J6 ?_;refine uH ?_;refine bH (mB ?_);refine gS (gS (gS ?_));refine fi ?_;refine aa (cT (sr (aB (aa (av (aK ?_))))));exact Iz
 ·by_cases h2:20<m
  ·refine J6 ?_;refine uH ?_;refine vV ?_;refine bH ?_;refine dR ?_;refine aa (cT (sr (aB (aa (av (aK ?_))))));exact Iz
  ·refine J6 ?_;refine uH ?_;refine vV ?_;refine bH ?_;refine dR ?_;refine aa (cF (ao (ai (ah (sr (aI (aa (aq ?_))))))));refine aW [4,5,15,16,17,18,19,20,21,22,23,24,25] 5
    (fun x w'=>∃i:Nat,i≤n∧x=.int .i64 i∧(∀x∈xs.take i,tD x=false)∧Hp w [] w')
    (fun v _=>n-(intOf v).toNat) ?_ ?_
   ·exact ⟨0,V8 _,rfl,fun t ht=>(nomatch ht),hh⟩
   ·clear hh;rintro ρ' x_ w' ⟨i,hi,rfl,hall,hh⟩;by_cases hlt:i<n
    ·obtain ⟨x,hx⟩:=al (l:=xs) (k:=i) VZ;obtain ⟨ad,rfl,hr⟩:=hS.at_ VZ;have hfa:=fun w1=>oQ x w1;refine ah (sr (mI (mL (aF ?_))));refine kT ?_;refine cA ?_;refine cz (vs:=[_,_,_]) aJ.out rfl ((hr.ext hh.below).recAt NR.len hx) rfl V0 ?_;refine bq hh (hfa _) rfl ?_;intro w25 hh
     cases hf:tD x with
     |true=>
      exact MK
     |false=>
      refine pH ?_;refine bj (aI (az (ai ?_)));refine ⟨⟨i+1,VZ,rfl,fun t ht=> ?_,hh⟩,by show n-(i+1)<n-i;omega, ?_⟩
      ·rw [ay hx] at ht
       rcases W3.1 ht with ht|ht
       ·exact hall t ht
       ·rw [Wu.1 ht];exact hf
      ·exact dF
    ·rw [Wc VZ] at hall;refine ah (sr (mI (mL (aF ?_))));refine a0 (aa (cF (aZ (aC (aC (br (ai (ah (sr (aI (aa (aq ?_))))))))))));refine aW [4,6,26,27,28,29,30,31,32,33,34,35,36,37,38,39,40,41,42,43,44,45] 6
      (fun x w'=>∃i:Nat,i≤m∧x=.int .i64 i∧(∀s∈b.take i,s.fin 124)∧Hp w [] w')
      (fun v _=>m-(intOf v).toNat) ?_ ?_
     ·exact ⟨0,V8 _,rfl,fun t ht=>(nomatch ht),hh⟩
     ·clear hh;rintro ρ' x_ w' ⟨j,hj,rfl,hbx,hh⟩;by_cases hlt2:j<m
      ·obtain ⟨s,hs⟩:=al (l:=b) (k:=j) VZ;obtain ⟨ad,rfl,hr⟩:=hB.at_ VZ;have hf1:=fun w1=>oQ s.lo w1;have hf2:=fun w1=>oQ s.hi w1;refine ah (sr (mI (mL (aF ?_))));refine kT ?_;refine kx ?_;refine s7 ?_;refine cz (vs:=[_,_,_]) aJ.out rfl (((((hr.ext hh.below).recAt SR.len hs).drop 0).take 3)) rfl V0 ?_
       cases hg1:tD s.lo with
       |true=>
        rw [hg1] at hf1;refine bq hh (hf1 _) rfl ?_;intro w37 hh;refine mB ?_;refine gS (gS (gS (gS ?_)));refine jg ?_;refine jg ?_;refine fi ?_;exact MK
       |false=>
        rw [hg1] at hf1;refine bq hh (hf1 _) rfl ?_;intro w37 hh;refine mB (gT (mL (gT (mI (gT ?_)))));refine kx ?_;refine gT ?_;refine s7 ?_;refine aH rfl rfl ?_;refine cz (vs:=[_,_,_]) aJ.out rfl (((((hr.ext hh.below).recAt SR.len hs).drop 3).take 3)) rfl V0 ?_
        cases hg2:tD s.hi with
        |true=>
         rw [hg2] at hf2;refine aH rfl rfl ?_;refine bq hh (hf2 _) rfl ?_;intro w44 hh;refine dR ?_;exact MK
        |false=>
         rw [hg2] at hf2;refine aH rfl rfl ?_;refine bq hh (hf2 _) rfl ?_;intro w44 hh;refine dR ?_;refine pH ?_;refine bj (aI (az (ai ?_)));refine ⟨⟨j+1,VZ,rfl,fun t ht=> ?_,hh⟩,by show m-(j+1)<m-j;omega, ?_⟩
         ·rw [ay hs] at ht
          rcases W3.1 ht with ht|ht
          ·exact hbx t ht
          ·rw [Wu.1 ht];obtain ⟨a1,a2⟩:=RP hg1;obtain ⟨a3,a4⟩:=RP hg2;exact ⟨⟨a1,a2⟩,⟨a3,a4⟩⟩
         ·exact dF
      ·rw [Wc VZ] at hbx;refine ah (sr (mI (mL (aF ?_))));refine Ft ?_;refine cW ?_;exact ⟨_,rfl,fun _=>⟨VZ,VZ,hall,hbx⟩,hh.below⟩
variable {ax:Int}{fx:FX}
structure rQ (fx:FX) (ax sd:Int) (g:FX):Prop where
 ds:g.ds=if iC fx ax sd=0 then fx.ds.eraseIdx ax.toNat else []
 cs:g.cs=if iC fx ax sd=0 then (jC (ar (fx.ns.drop (ax.toNat+1))) (fx.ns.getD ax.toNat 0) (fx.ns.getD ax.toNat 0*sd.toNat) (fx.cs.map NR.d) fx.m).map nR else []
 n:g.n≤100000
 m:g.m≤1000000
theorem Gl (h:ej fx ax=0) (hln:fx.ds.length=fx.n):fx.e=0∧∃a d:Nat,ax=a∧fx.ns[a]?=some d:=by
 unfold ej at h;by_cases h0:fx.e=0
 ·rw [V6 (fun c=>c h0)] at h;by_cases h1:ax<0∨(fx.n:Int)≤ax
  ·rw [V5 h1] at h;cases h
  ·obtain ⟨d,hd⟩:=al (l:=fx.ns) (k:=ax.toNat) (by unfold FX.ns;rw [Wi];omega);exact ⟨h0,ax.toNat,d,VZ,hd⟩
 ·rw [V5 h0] at h;exact absurd h h0
theorem BV {sd:Int} (h:iC fx ax sd=0) (hln:fx.ds.length=fx.n):fx.e=0∧∃a d s:Nat,ax=a∧sd=s∧(s=0∨s=1)∧fx.ns[a]?=some d:=by
 unfold iC at h;by_cases h0:ej fx ax=0
 ·rw [V6 (fun c=>c h0)] at h;by_cases h1:sd=0∨sd=1
  ·obtain ⟨a1,a,d,a2,a3⟩:=Gl h0 hln;exact ⟨a1,a,d,sd.toNat,a2,VZ,VZ,a3⟩
  ·rw [V6 h1] at h;cases h
 ·rw [V5 h0] at h;exact absurd h h0
theorem Lx (fx:FX) (ax sd:Int) (k:Nat) (w:World) (hT:er w) (hf:fx.at_ w) (hl:fx.km k) (hcap:fx.n≤fx.a):
  Calls Tryz.prog 16 #[.agg #[.slice fx.A fx.n fx.a,.slice fx.B fx.m fx.b],.int .i64 ax,.int .i64 sd] w fun r w'=>∃g:FX,rQ fx ax sd g∧r=.returned (.tuple #[.agg #[.slice g.A g.n g.a,.slice g.B g.m g.b],.int .i64 (iC fx ax sd)])∧Hp w [g.mP,g.mi] w':=by
 by_cases hE:iC fx ax sd=0
 ·obtain ⟨h0,a,d,s,rfl,rfl,hs,hd⟩:=BV hE hf.ln.1;have hg:fx.ns.getD a 0=d:=by rw [Xl,hd];rfl
  refine (CH fx a d s k w hT hf hl hcap h0 hd hs).mono fun r w' ⟨g,h1,h2,h3,h4,h5,h6⟩=>⟨g,⟨?_, ?_,h3,h4⟩,by rw [hE];exact h5,h6⟩
  ·rw [V5 hE,Xd];exact h1
  ·rw [V5 hE,Xd,Xd,hg];exact h2
 ·exact (KR fx ax sd k w hT hf hl hE).mono fun r w' ⟨hr,hb⟩=>⟨FX.nil,⟨(V6 hE).symm,(V6 hE).symm,V0,V0⟩,hr,((Hp.start w).ext hb).JX⟩
theorem GA (fx:FX) (ax sd:Int) (k:Nat) (w:World) (hf:fx.at_ w) (hl:fx.km k) (hcap:fx.n≤fx.a):
  Calls Tryz.prog 21 #[.agg #[.slice fx.A fx.n fx.a,.slice fx.B fx.m fx.b],.int .i64 ax,.int .i64 sd] w fun r w'=>∃g:FX,rQ fx ax sd g∧r=.returned (.tuple #[.agg #[.slice g.A g.n g.a,.slice g.B g.m g.b],.int .i64 (iC fx ax sd)])∧Hp w [g.mP,g.mi] w':=by
 by_cases hE:iC fx ax sd=0
 ·obtain ⟨h0,a,d,s,rfl,rfl,hs,hd⟩:=BV hE hf.ln.1;have hg:fx.ns.getD a 0=d:=by rw [Xl,hd];rfl
  refine (zU fx a d s k w hf hl hcap h0 hd hs).mono fun r w' ⟨g,h1,h2,h3,h4,h5,h6⟩=>⟨g,⟨?_, ?_,h3,h4⟩,by rw [hE];exact h5,h6⟩
  ·rw [V5 hE,Xd];exact h1
  ·rw [V5 hE,Xd,Xd,hg];exact h2
 ·exact (HW fx ax sd k w hf hl hE).mono fun r w' ⟨hr,hb⟩=>⟨FX.nil,⟨(V6 hE).symm,(V6 hE).symm,V0,V0⟩,hr,((Hp.start w).ext hb).JX⟩
theorem Az (fx:FX) (ax:Int) (k:Nat) (w:World) (hf:fx.at_ w) (hl:fx.km k) (hk:k≤500000):
  Calls Tryz.prog 23 #[.agg #[.slice fx.A fx.n fx.a,.slice fx.B fx.m fx.b],.int .i64 ax] w fun r w'=>∃g:FX,Out (ej fx ax) (dJ fx.ns ax.toNat) (lZ fx.ns ax.toNat (fx.cs.map NR.d)) g∧r=.returned (.tuple #[.agg #[.slice g.A g.n g.a,.slice g.B g.m g.b],.int .i64 (ej fx ax)])∧Hp w [g.mP,g.mi] w':=by
 by_cases hE:ej fx ax=0
 ·obtain ⟨h0,a,d,rfl,hd⟩:=Gl hE hf.ln.1;rw [hE,Xd];exact vC fx a d k w hf hl hk h0 hd
 ·exact (zD fx ax k w hf hl hE).mono fun r w' ⟨hr,hb⟩=>⟨FX.nil,.err hE,hr,((Hp.start w).ext hb).JX⟩
def GS (ds:List Int):List NR:=if vv ds=true then xY (ds.map Int.toNat) else []
theorem ze (h:vv ds=true):ds=bp (ds.map Int.toNat)∧(ds.map Int.toNat).length≤12∧(∀d∈ds.map Int.toNat,d≤127)∧ar (ds.map Int.toNat)≤4096:=by
 unfold vv at h;rw [Wm,Wt,Wt] at h;obtain ⟨h1,h2⟩:=h;have ha:ds.any (fun d=> !ck d)=false:=by
  rw [YK];exact fun c=>h2 (BX ds 1 c)
 obtain ⟨ns,rfl,hlow⟩:=lz ha;rw [Du];refine ⟨rfl,by rw [gJ] at h1;exact h1,hlow, ?_⟩;have h3:=ir ns 1 V0 V0 hlow;rw [XP] at h3;by_cases h4:ar ns≤4096
 ·exact h4
 ·rw [V6 h4] at h3;exact absurd h3 h2
theorem xX (h:vv ds=true):(GS ds).length=ar (ds.map Int.toNat):=by
 unfold GS;rw [V5 h];unfold xY zz;rw [Wi,Wi,Ye,bM]
theorem B3 (A:Option Addr) (n c:Nat) (ds:List Int) (w:World) (hT:er w) (hS:Sl w A n 1 (a7 ds)) (hn:n≤1000000):
  Calls Tryz.prog 26 #[.slice A n c] w fun r w'=>∃v,r=.returned v∧Rows (GS ds).length 3 (aA NR.cells (GS ds)) v w'∧Below w.heap.size w w':=by
 by_cases h:vv ds=true
 ·obtain ⟨h1,h2,h3,h4⟩:=ze h;rw [xX h];unfold GS;rw [V5 h];generalize ds.map Int.toNat=ns at*;subst h1;exact (mN A n c ns w hT hS h2 h3 h4).mono fun r w' ⟨B,c',hr,ho,hb⟩=>⟨_,hr,⟨B,c',rfl,iw ho⟩,hb⟩
 ·unfold GS;rw [V6 h];exact (xT A n c ds w hS hn (by simpa using h)).mono fun r w' ⟨hr,hb⟩=>⟨_,hr,⟨none,0,rfl,Sl.nil _ _ _⟩,hb⟩
theorem yb (A:Option Addr) (n c:Nat) (ds:List Int) (w:World) (hS:Sl w A n 1 (a7 ds)) (hn:n≤1000000):
  Calls Tryz.prog 27 #[.slice A n c] w fun r w'=>∃v,r=.returned v∧Rows (GS ds).length 3 (aA NR.cells (GS ds)) v w'∧Below w.heap.size w w':=by
 by_cases h:vv ds=true
 ·obtain ⟨h1,h2,h3,h4⟩:=ze h;rw [xX h];unfold GS;rw [V5 h];generalize ds.map Int.toNat=ns at*;subst h1;exact (u4 A n c ns w hS h2 h3 h4).mono fun r w' ⟨B,c',hr,ho⟩=>⟨_,hr,⟨B,c',rfl,ho.aD (i:=0) rfl⟩,ho.below⟩
 ·unfold GS;rw [V6 h];exact (yw A n c ds w hS hn (by simpa using h)).mono fun r w' ⟨hr,hb⟩=>⟨_,hr,⟨none,0,rfl,Sl.nil _ _ _⟩,hb⟩
theorem y4 (fx:FX) (w:World) (hf:fx.at_ w):
  Calls Tryz.prog 18 #[.agg #[.slice fx.A fx.n fx.a,.slice fx.B fx.m fx.b]] w fun r w'=>∃b:Bool,r=.returned (.bool b)∧(b=false→fx.m≤200∧fx.km 124∧(fx.e=0→∀d∈fx.ns,d≤6))∧Below w.heap.size w w':=by
 have hh:=Hp.start w;refine aj (N:=11) (l:=[.agg #[.slice fx.A fx.n fx.a,.slice fx.B fx.m fx.b]]) Tryz.func18 rfl rfl (by simp) ?_;refine sr ?_;refine bV hh [_,_] ?_;intro b1 w1 hh;refine aB (aa (sr (bC ?_)));refine bA hh 0 ?_;refine aE (zf fx.A fx.n fx.a fx.ds _ (hf.dg.ext hh.below)) au.out rfl V0 ?_;rintro e_ w5 ⟨b1,rfl,hb1,hb_⟩;refine ⟨_,rfl, ?_⟩;replace hh:=hh.ext hb_
 cases b1 with
 |true=>
  refine mB ?_;refine gS (gS ?_);refine jg ?_;refine fi ?_;refine aB (aa (av ?_));exact Iz
 |false=>
  obtain ⟨Qx,hst⟩:=hb1 rfl;refine mB (gT (bC (gT ?_)));refine bA hh 0 ?_;refine aH rfl rfl ?_;refine aE (z7 fx.B fx.m fx.b fx.cs none 0 0 [] _ (hf.nm.ext hh.below) (Sl.nil _ _ _)) au.out rfl V0 ?_;rintro e_ w9 ⟨b2,rfl,hb2,hb_⟩;refine ⟨_,rfl, ?_⟩;replace hh:=hh.ext hb_;refine dR ?_;refine aB (aa (av ?_));refine cW ?_;refine ⟨_,rfl,fun h=> ?_,hh.below⟩;obtain ⟨m2,_,hall,_⟩:=hb2 h;refine ⟨m2,⟨VZ,VZ,fun c hc=>RP (hall c hc)⟩,fun h0 d hd=> ?_⟩;obtain ⟨hdeg,hnum,h12,hlow,hcnt,hmax⟩:=FX.fv h0;have hc:=wZ hlow hmax;rw [←hdeg] at hc;have hd7:=hlow d hd;have:=(hst VZ).2 d (by rw [hdeg];exact Wo.2 ⟨d,hd,rfl⟩);omega
theorem Lr.Ul {g:FX}{R:List HE} (h:Lr R g) (hh:Hp w R w'):g.n≤g.a:=by
 rcases h with rfl|⟨_,rfl⟩
 ·exact hh.eZ (i:=1) rfl
 ·exact hh.eZ (i:=0) rfl
theorem rQ.same {g h:FX}{sd:Int} (h1:rQ fx ax sd g) (h2:rQ fx ax sd h):g.ds=h.ds∧g.cs=h.cs:=⟨h1.ds.trans h2.ds.symm,h1.cs.trans h2.cs.symm⟩
set_option maxRecDepth 10000 in
theorem sf (fx:FX) (bits ax sd:Int) (w:World) (hT:er w) (hf:fx.at_ w) (hcap:fx.n≤fx.a) (hb1: -9223372036854775808≤bits) (hb2:bits≤9223372036854775807):
  Calls Tryz.prog 4 #[.agg #[.slice fx.A fx.n fx.a,.slice fx.B fx.m fx.b],.int .i64 bits,.int .i64 ax,.int .i64 sd] w fun r w'=>r=.returned (.bool true)∧Below w.heap.size w w':=by
 have hh:=Hp.start w;refine aj (N:=116) (l:=[.agg #[.slice fx.A fx.n fx.a,.slice fx.B fx.m fx.b],.int .i64 bits,.int .i64 ax,.int .i64 sd]) Tryz.func4 rfl rfl (by simp) ?_;refine sr ?_;refine bV hh [_,_] ?_;intro b4 w4 hh;refine aB (aa (ah (sr ?_)));refine bY hh 0 [_,_] ?_;refine aE (y4 fx _ (hf.ext hh.below)) au.out rfl V0 ?_;rintro e_ w23 ⟨b1,rfl,hlg,hb_⟩;refine ⟨_,rfl, ?_⟩;replace hh:=hh.ext hb_
 cases b1 with
 |true=>
  refine aa (cT (sr ?_));refine bq hh (qh _ (hT.hp hh)) rfl ?_;intro w24 hh;refine aB (aa (av (aK ?_)));refine cW ?_;exact ⟨rfl,hh.below⟩
 |false=>
  obtain ⟨m2,hl,_⟩:=hlg rfl;have Qx:=hl.Qx;refine uk ?_;refine bY hh 0 [_,_] ?_;refine aE (Tx fx _ (hf.ext hh.below) VZ VZ) au.out rfl V0 ?_;rintro e_ w26 ⟨o,R,d1,d2,d3,d4,rfl,hmi,h2⟩;refine ⟨_,rfl, ?_⟩;have hocap:=hmi.Ul h2;replace hh:Hp w (_::R) _:=(hh.join h2).perm List.perm_append_comm;clear h2;have hol:o.cs.length=o.m:=by rw [d2,d4];exact hf.ln.2
  have ol:o.km 124:=⟨by rw [d3];omega,by rw [d4];omega,by rw [d2];exact hl.num⟩;have k1:x5 o bits=x5 fx bits:=by unfold x5 FX.e;rw [d1,d2,d3]
  have k2:zw o bits=zw fx bits:=by unfold zw FX.ns;rw [k1,d1,d2]
  have k3:ej o ax=ej fx ax:=by unfold ej FX.e;rw [d1,d2,d3]
  have k4:iC o ax sd=iC fx ax sd:=by unfold iC;rw [k3]
  have k6:o.ns=fx.ns:=by unfold FX.ns;rw [d1]
  have k5:∀g,rQ o ax sd g→rQ fx ax sd g:=fun g h=>⟨by have:=h.ds;rwa [k4,d1] at this,by have:=h.cs;rwa [k4,k6,d2,d4] at this,h.n,h.m⟩;have hcn:=fun w1 hT1 ho=>yh o bits 124 w1 hT1 ho ol hb1 hb2;rw [k1,k2] at hcn;have hrc:=fun w1 hb=>vB fx bits 124 w1 (hf.ext hb) hl;have hfa:=fun w1 hT1 ho=>(Lx o ax sd 124 w1 hT1 ho ol hocap).mono fun r w' ⟨g,h1,h2,h3⟩=>show ∃g:FX,rQ fx ax sd g∧r=Ending.returned (.tuple #[.agg #[.slice g.A g.n g.a,.slice g.B g.m g.b],.int .i64 (iC fx ax sd)])∧Hp w1 [g.mP,g.mi] w' from ⟨g,k5 g h1,by rw [←k4];exact h2,h3⟩;have hrf:=fun w1 hb=>GA fx ax sd 124 w1 (hf.ext hb) hl hcap;have hde:=fun w1 hT1 ho=>pT o ax 124 w1 hT1 ho ol hocap V0;rw [k3,k6,d2] at hde;have hrd:=fun w1 hb=>Az fx ax 124 w1 (hf.ext hb) hl V0;have hwa:=fun w1 hT1 hS=>B3 o.A o.n o.a fx.ds w1 hT1 (d1 ▸ hS) VZ;have hwb:=fun w1 hb=>yb fx.A fx.n fx.a fx.ds w1 (hf.dg.ext hb) VZ;clear k1 k2 k3 k4 k5 k6;generalize x5 fx bits=E1 at*;generalize zw fx bits=V1 at*;generalize hE2:iC fx ax sd=E2 at*;generalize ej fx ax=E3 at*;generalize lZ fx.ns ax.toNat (fx.cs.map NR.d)=X3 at*
  generalize dJ fx.ns ax.toNat=D3 at*;have hwn:(GS fx.ds).length≤1000000:=by
   by_cases h:vv fx.ds=true
   ·have:=(ze h).2.2.2;rw [xX h];omega
   ·unfold GS;rw [V6 h];exact V8 _
  generalize GS fx.ds=wts at*;refine bJ hh ?_;intro b9 w9 hh;refine bL hh 0 [_,_] ?_;intro ws hh;replace hh:Hp _ (.blk _ _ [_,_] _::_) _:=hh;refine aa (sr ?_);refine bY hh 0 [_,_] (mI ?_);refine bq hh (hcn _ (hT.hp hh) (hmi.at_ hol (fun x hx=>by simp [hx]) hh)) rfl ?_;intro w30 hh;refine mT ?_;refine dE ?_;refine dE ?_;refine bJ hh ?_;intro b10 w10 hh;refine bL hh 0 [_,_,_] ?_;intro ws hh;replace hh:Hp _ (.blk _ _ [_,_,_] _::_) _:=hh;refine aI (aa (sr ?_));refine bY hh 2 [_,_] (mI ?_);refine bq hh (hrc _ hh.below) rfl ?_;intro w36 hh;refine mT ?_;refine dE ?_;refine dE ?_;refine bJ hh ?_;intro b12 w12 hh;refine bL hh 0 [_,_,_] ?_;intro ws hh;replace hh:Hp _ (.blk _ _ [_,_,_] _::_) _:=hh;refine aI (aa (sr ?_));refine bY hh 2 [_,_] (mI (mI ?_));refine aE (hfa _ (hT.hp hh) (hmi.at_ hol (fun x hx=>by simp [hx]) hh)) au.out rfl V0 ?_;rintro e_ w43 ⟨x1,o1,rfl,h2⟩;refine ⟨_,rfl, ?_⟩;replace hh:=hh.join h2;clear h2;simp only [Wf,Wd] at hh;replace hh:=show Hp w (.row x1.B x1.m x1.b 40 3 (aA NR.cells x1.cs)::.row x1.A x1.n x1.a 3 1 (a7 x1.ds)::_) _ from hh;refine mT ?_;refine dE ?_;refine dE ?_;refine bJ hh ?_
  intro b14 w14 hh;refine bL hh 0 [_,_] ?_;intro ws hh;replace hh:Hp _ (.blk _ _ [_,_] _::_) _:=hh;refine aI (aa (sr ?_));refine bY hh 6 [_,_] (mI (mI ?_));refine aE (hrf _ hh.below) au.out rfl V0 ?_;rintro e_ w50 ⟨y1,o2,rfl,h2⟩;refine ⟨_,rfl, ?_⟩;replace hh:=hh.join h2;clear h2;simp only [Wf,Wd] at hh;replace hh:=show Hp w (.row y1.B y1.m y1.b 40 3 (aA NR.cells y1.cs)::.row y1.A y1.n y1.a 3 1 (a7 y1.ds)::_) _ from hh;refine mT ?_;refine dE ?_;refine dE ?_;refine bJ hh ?_;intro b16 w16 hh;refine bL hh 0 [_,_] ?_;intro ws hh;replace hh:Hp _ (.blk _ _ [_,_] _::_) _:=hh;refine aI (aa (sr ?_));refine bY hh 8 [_,_] (mI ?_);refine aE (hde _ (hT.hp hh) (hmi.at_ hol (fun x hx=>by simp [hx]) hh)) au.out rfl V0 ?_;rintro e_ w56 ⟨x2,o3,rfl,h2⟩;refine ⟨_,rfl, ?_⟩;replace hh:=hh.join h2;clear h2;simp only [Wf,Wd] at hh;replace hh:=show Hp w (.row x2.B x2.m x2.b 40 3 (aA NR.cells x2.cs)::.row x2.A x2.n x2.a 3 1 (a7 x2.ds)::_) _ from hh;refine mT ?_;refine dE ?_;refine dE ?_;refine bJ hh ?_;intro b18 w18 hh;refine bL hh 0 [_,_] ?_;intro ws hh;replace hh:Hp _ (.blk _ _ [_,_] _::_) _:=hh
  refine aI (aa (sr ?_));refine bY hh 12 [_,_] (mI ?_);refine aE (hrd _ hh.below) au.out rfl V0 ?_;rintro e_ w62 ⟨y2,o4,rfl,h2⟩;refine ⟨_,rfl, ?_⟩;replace hh:=hh.join h2;clear h2;simp only [Wf,Wd] at hh;replace hh:=show Hp w (.row y2.B y2.m y2.b 40 3 (aA NR.cells y2.cs)::.row y2.A y2.n y2.a 3 1 (a7 y2.ds)::_) _ from hh;refine mT ?_;refine dE ?_;refine dE ?_;refine bJ hh ?_;intro b20 w20 hh;refine bL hh 0 [_,_] ?_;intro ws hh;replace hh:Hp _ (.blk _ _ [_,_] _::_) _:=hh;refine aI (aa (ah (sr ?_)));refine bY hh 13 [_,_,_] ?_;refine bY hh 12 [_,_,_] ?_;refine EU ?_;refine mB (gT (mI (gT (mI (gT ?_)))));refine cY ?_;refine dR ?_;refine mB (gT ?_);refine bY hh 9 [_,_] (gT ?_);refine bY hh 6 [_,_] ?_;refine aH rfl rfl ?_;refine bq hh (kD x1 y1 _ ⟨hh.aD (i:=11) rfl,hh.aD (i:=10) rfl⟩ ⟨hh.aD (i:=8) rfl,hh.aD (i:=7) rfl⟩ (o1.same o2) o1.n o1.m) rfl ?_;intro w76 hh;refine gT ?_;refine gj ?_;refine dR ?_;refine mB (gT (mI (gT (mI (gT ?_)))));refine cY ?_;refine dR ?_;refine mB (gT ?_);refine bY hh 3 [_,_] (gT ?_);refine bY hh 0 [_,_] ?_;refine aH rfl rfl ?_
  refine bq hh (kD x2 y2 _ ⟨hh.aD (i:=5) rfl,hh.aD (i:=4) rfl⟩ ⟨hh.aD (i:=2) rfl,hh.aD (i:=1) rfl⟩ (o3.same o4) o3.n o3.m) rfl ?_;intro w87 hh;refine gT ?_;refine gj ?_;refine dR ?_;refine mB (gT (mI (gT (mI (gT ?_)))));refine cY ?_;refine dR ?_;refine rV ?_;refine bA hh 9 ?_;replace hh:=hh.sub (Wa _ (Wa _ (Wa _ (V7 _ (V7 _ (V7 _ (Wa _ (Wa _ (Wa _ (V7 _ (V7 _ (Wa _ (Wa _ (Wa _ (V7 _ (V7 _ (Xf _)))))))))))))))));replace hh:=hh.perm (WZ (l₁:=[_,_,_,_]));simp only [Wf,Wd] at hh;refine uN hh (i:=0) rfl rfl a9.out aJ.out rfl rfl ?_;intro wc hh;simp only [Wh] at hh;replace hh:=hh.sub (Wa _ (V7 _ (V7 _ (V7 _ (Wa _ (V7 _ (V7 _ (Xf _))))))));refine aa (sr (bC ?_));refine bA hh 0 ?_
  replace hh:=hh.perm (WZ (l₁:=[_]));simp only [Wf,Wd] at hh;refine uN hh (i:=0) rfl rfl a9.out aJ.out rfl rfl ?_;intro wc hh;simp only [Wh] at hh;replace hh:=hh.sub (Wa _ (V7 _ (V7 _ (V7 _ (V7 _ (Xf _))))));refine aa (sr (bC ?_));refine bA hh 0 ?_;replace hh:=hh.perm (WZ (l₁:=[_]));simp only [Wf,Wd] at hh;refine uN hh (i:=0) rfl rfl a9.out aJ.out rfl rfl ?_;intro wc hh;simp only [Wh] at hh;replace hh:=hh.sub (Wa _ (Wa _ (V7 _ (V7 _ (Xf _)))));refine aa (ah ?_);refine aN 10 [[(9,none)],[(101,some 0)],[(102,some 1)],[(4,none)],[(104,some 3)],[(105,some 4)],[(103,some 2),(106,some 5)],[(107,some 6)],[(9,none),(108,some 7)],[(4,none),(108,some 7)]] [(9,110),(8,109),(7,108),(6,107),(5,106),(4,105),(3,104),(2,103),(1,102),(0,101)] hh mixed V2 ?_;refine da ?_;refine dN 0 ?_
  refine aP (i:=2) (Rows wts.length 3 (aA NR.cells wts)) Rows.ext ?_ ?_
  ·intro ρ1 w1 hj hR;exact bf rfl (aQ au.out (aw (show ρ1 102=Value.slice _ _ _ from hR.1) a8)) (hwa _ (hT.hp hj.hp) (hmi.at_ hol (fun x hx=>by simp [hx]) hj.hp).dg) (fun _ _ ⟨v,hq,hp,hb⟩=>⟨v,hq,hb,hp⟩)
  refine da ?_;refine dN 1 ?_;refine aP (i:=5) (Rows wts.length 3 (aA NR.cells wts)) Rows.ext ?_ ?_
  ·intro ρ1 w1 hj hR;exact bf rfl (aQ au.out (aw (show ρ1 105=Value.slice _ _ _ from hR.1) a8)) (hwb _ hj.hp.below) (fun _ _ ⟨v,hq,hp,hb⟩=>⟨v,hq,hb,hp⟩)
  refine aP (i:=6) (Is (.bool true)) Is.ext ?_ ?_
  ·intro ρ1 w1 hj hR;obtain ⟨A103,c103,h103,s103⟩:=hR.1;obtain ⟨A106,c106,h106,s106⟩:=hR.2.1;exact bf rfl (aQ au.out (aw h103 (aw h106 a8))) (jw A103 wts.length c103 wts A106 c106 _ s103 s106 hwn) (fun _ _ hq=>⟨_,hq.1,hq.2,rfl⟩)
  refine od ?_;refine dG (eJ 0 [_,_] ?_);refine dG (eJ 1 [_,_] ?_);refine aG ?_;intro f W hJ hV;have hb_15:=hJ.bl;obtain ⟨v110,v109,v108,v107,v106,v105,v104,v103,v102,v101,_⟩:=hV;obtain ⟨A103,c103,e103,f103⟩:Rows _ _ _ (f 2) W:=v103;obtain ⟨A106,c106,e106,f106⟩:Rows _ _ _ (f 5) W:=v106;replace hh:=hJ.hp;refine aU (bg (ae v110 (ae v109 (ae v108 (ae v107 (ae e106 (ae v105 (ae v104 (ae e103 (ae v102 (ae v101 aT))))))))))) ?_;dsimp only [bI];clear e103 e106 hJ;refine aH rfl rfl ?_;refine bq hh (kD o fx _ (hmi.at_ hol (fun x hx=>by simp [hx]) hh) (hf.ext hh.below) ⟨d1,d2⟩ VZ VZ) rfl ?_;intro w111 hh;refine fi ?_;refine mB ?_;refine aH rfl rfl ?_;refine bq hh (qh _ (hT.hp hh)) rfl ?_;intro w114 hh;refine fi ?_;exact vP
end Go.Proofs.YtolamocnngihpaaGreatDoor
namespace Go.Proofs.YtolamocnngihpaaGreatDoor.bernParts
open Go.ChangeShapes Go.WideShapes Go.ChangeAt Go.RowKit Go.ChangeMaps
theorem own:ownKnob Tryz.prog.godebug=none:=by kernel_rfl
set_option maxRecDepth 100000 in
theorem lifted (os:Os) (started:os.Started) (H:Type) (enc:TypeId×Value→H):
  ReturnsInHanded {} Tryz.checked os 4 .any (fun w args=>(Rows.bernPartsSpec.pre enc Tryz.prog Tryz.f4 Rows.bernPartsRow.domain false w args∧laidMetH Tryz.prog Rows.bernPartsRow.laid w)∧sizedMet enc Tryz.prog Tryz.f4 (OpenSpec.ofChange Rows.bernPartsSpec) false w args)
   (Rows.bernPartsSpec.post enc Tryz.prog Tryz.f4 false true false false):=by
 refine returnsInHanded_of_change_and (C:=Tryz.checked) (X:=fun w _=>laidMetH Tryz.prog Rows.bernPartsRow.laid w) (fun _ _ _ hh h=>h.of_heap hh) own started V2 Tryz.func4
  (ChangeSpec.witness_shaped (enc:=enc) (C:=Tryz.checked) (os:=os) (X:=fun w _=>laidMetH Tryz.prog Rows.bernPartsRow.laid w) false (World.laidAll Tryz.prog os Rows.bernPartsRow.laid) #[.agg #[.slice none 0 0,.slice none 0 0],.int .i64 0,.int .i64 0,.int .i64 0] 8 (World.laidAll_os _ _ _)
   (World.shaped_of_ZipB V2 V2) V2 V2 V2
   (by rw [MakeChecks.laidMetH_plain _ _ _ V2];exact laidMet_laidAll _ V2 V2)) ?_
 intro W base args ds gs before hval0 hW hc _ hL _;have hval:∀(j:Nat) t v,Tryz.f4.params[j]?=some t→args[j]?=some v→Value.okWide Tryz.prog W .any base t v:=hval0;have hW':=hW;obtain ⟨p,q,hA0,hV,rfl,hfz,hnd⟩:=hW;have hA:DataW.TrodAll enc Tryz.prog W 0 (fun _=>true) true Tryz.f4.params.toList args.toList ds p:=hA0;rw [Tryz.params4] at hA hval;obtain ⟨v0,vs0,d0,ds0,p0,q0,hargs,rfl,rfl,h0,r0⟩:=trodAll_cons hA;obtain ⟨v1,vs1,d1,ds1,p1,q1,rfl,rfl,rfl,h1,r1⟩:=trodAll_cons r0;obtain ⟨v2,vs2,d2,ds2,p2,q2,rfl,rfl,rfl,h2,r2⟩:=trodAll_cons r1;obtain ⟨v3,vs3,d3,ds3,p3,q3,rfl,rfl,rfl,h3,r3⟩:=trodAll_cons r2;obtain ⟨rfl,rfl,rfl⟩:=trodAll_nil r3;obtain rfl:args= #[v0,v1,v2,v3]:=by cases args;simp_all
 obtain ⟨rfl,rfl⟩:=trodVars_none hV;obtain ⟨f0,rfl,hS0,hR0⟩:=CO (hval 0 33 v0 rfl rfl) h0;obtain ⟨x1,rfl,rfl,rfl,b1⟩:=open_int Tryz.underlying3 (hval 1 3 v1 rfl rfl) h1;obtain ⟨x2,rfl,rfl,rfl,b2⟩:=open_int Tryz.underlying3 (hval 2 3 v2 rfl rfl) h2;obtain ⟨x3,rfl,rfl,rfl,b3⟩:=open_int Tryz.underlying3 (hval 3 3 v3 rfl rfl) h3;refine (sf f0 x1 x2 x3 W (zF hL) hS0 hR0 (bounds_i64 b1).1 (bounds_i64 b1).2).mono fun e W' ⟨he,hb⟩=> ?_;subst he;exact ⟨_,rfl,Jm hW' rfl V2 (by rw [Tryz.params4];exact XQ V2) V2 Tryz.underlying4 rfl rfl rfl hb⟩
set_option maxHeartbeats 8000000 in
theorem row_holds:Rows.BernPartsSaid:=
 OpenClaim.holds_of_wide 4 Tryz.f4 rfl rfl rfl rfl rfl rfl rfl ⟨rfl,rfl,rfl,rfl,rfl⟩ rfl rfl rfl rfl rfl (by as_aux_lemma=>kernel_rfl) Tryz.func4 (by rw [joinedFacts];simp only [Wm];and_intros<;>as_aux_lemma=>kernel_rfl)
  (XQ (by as_aux_lemma=>kernel_rfl)) (by unfold Func.isWrapper;first|(rw [V5 (by decide+kernel)];kernel_rfl)|(rw [V6 (by decide+kernel)];exact ⟨rfl,rfl⟩))
  (fun os started H enc _=>lifted os started H enc)
set_option maxHeartbeats 8000000 in
theorem holds:Rows.BernPartsCardSaid:=
 Claim7.holds_tied_plain_at .later [] [.data,.data,.pinned] true (true, "15fc428570404c1c4f877d5cd081ecd01040701ee8595d1e80cdc073447d7c3e") false row_holds (fun _ h=>by cases h) (by as_aux_lemma=>kernel_rfl) (fun _ h=>by cases h) bernParts_row_tie rfl ⟨rfl,rfl⟩ (by as_aux_lemma=>kernel_rfl) rfl
  (fun f fn hf hfn=>by
   obtain rfl:f=4:=WT ((show Tryz.prog.funcNamed "ogee/ogeelaw12.BernParts" =some 4 by as_aux_lemma=>kernel_rfl).symm.trans hf)|>.symm;obtain rfl:fn=Tryz.f4:=(WT (Tryz.func4.symm.trans hfn)).symm;exact ⟨by as_aux_lemma=>kernel_rfl,fun j t ht=>by
    rw [Tryz.params4] at ht;have hm:t∈[33,3,3,3]:=by simpa using Array.mem_of_getElem? ht
    have hall:([33,3,3,3].all fun u=> !Tryz.prog.wantsStandIn u)=true:=by as_aux_lemma=>kernel_rfl
    exact (show Tryz.prog.wantsStandIn t=false by simpa using Wq.1 hall t hm)⟩)
  (by as_aux_lemma=>kernel_rfl)
#print axioms holds
end Go.Proofs.YtolamocnngihpaaGreatDoor.bernParts
