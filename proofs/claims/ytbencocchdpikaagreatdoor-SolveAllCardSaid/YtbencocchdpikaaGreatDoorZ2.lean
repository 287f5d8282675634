/- Lemmas for solveAll, part 2. -/
import Derived.WalkKit
import Derived.WalkLawsBesides
import Derived.Below
import Derived.Laws.OwnMore
import Derived.Laws.Rows
import Derived.RegionTactic
import Derived.ControlIn
import Derived.TacticsIn
import Derived.AtR
import Derived.Deep.AppendLies
import Derived.Maps.AppendAt
import Derived.OwnWalk
import Derived.Test.YtbencocchdpikaaGreatDoorProg
import Derived.KernelRfl
import Derived.Test.YtbencocchdpikaaGreatDoorZ1
set_option linter.all false
namespace Go.Proofs.YtbencocchdpikaaGreatDoor
open Go.Proofs.Tryz
open Go.RowKit
abbrev Rf:=Nat->Value
def sc(ρ:Rf)(d:Nat)(v:Value):Rf:=λi=>bif Nat.beq i d then v else ρ i
def ev(ρ:Rf):Operand->Value
 |.tmp t=>ρ t
 |.const v=>v
 |.global g=>.pointer (some ⟨g,0,none⟩)
 |.func f=>.func (.func f) #[] #[]
structure Sf(N:Nat)(D:List Deferred)(a:Act)(ρ:Rf):Prop where
 nd:a.defers=D
 sz:a.tmps.size=N
 at_:∀i,a.tmps.getD i undef=ρ i
abbrev Fits(N:Nat)(a:Act)(ρ:Rf):Prop:=Sf N [] a ρ
def Sf.eval{N:Nat}{D:List Deferred}{a:Act}{ρ:Rf}(h:Sf N D a ρ):a.eval=ev ρ:=by
 funext x
 cases x with
 |tmp t=>exact h.at_ t
 |_=>rfl
def Bs(ρ:Rf)(d:Nat)(v:Value):sc ρ d v d=v:=by simp[sc]
def Eh(ρ:Rf){d i:Nat}(h:i≠d)(v:Value):sc ρ d v i=ρ i:=by
 have hb:Nat.beq i d=false:=by
  cases hb:Nat.beq i d
  .rfl
  exact absurd (Nat.eq_of_beq_eq_true hb) h
 simp only[sc,hb,cond_false]
def Sf.put{N:Nat}{D:List Deferred}{a:Act}{ρ:Rf}(h:Sf N D a ρ){d:Nat}(hd:d<N)(v:Value):Sf N D (a.put (some d) v) (sc ρ d v):=by
 refine⟨h.nd,by simp[Act.put,h.sz],λi=> ?_⟩;by_cases hi:i=d
 .subst hi;rw[Bs];simp[Act.put,h.sz,hd]
 rw[Eh ρ hi,<-h.at_ i];have:d≠i:=λe=>hi e.symm;simp[Act.put,Array.getElem?_setIfInBounds_ne this]
abbrev Kq:=Exit->Rf->World->Prop
def Zf(N:Nat)(D:List Deferred)(Q:Kq):Exit->Act->World->Prop:=λe a w=>∃ρ,Sf N D a ρ/\Q e ρ w
abbrev lift(N:Nat)(Q:Kq):Exit->Act->World->Prop:=Zf N [] Q
structure Mode where
 round:Option Nat:=none
 D:List Deferred:=[]
 any:Bool:=false
abbrev Mode.plain:Mode:={}
def FW(ro:Option Nat):Fence:={ Fence.wide with round:=ro }
structure WC(ro:Mode)(P:Program)(N:Nat)(c:Code)(Q:Kq)(ρ:Rf)(w:World):Prop where
 Yl:ro.any=false->∀a,Sf N ro.D a ρ->c.wp P (Zf N ro.D Q) a w
 rn:∀a,Sf N ro.D a ρ->∀n,c.wpIn (FW ro.round) n P (Zf N ro.D Q) a w
structure WL(ro:Mode)(P:Program)(N:Nat)(ops:Array Oper)(Q:Kq)(l:List Oper)(ρ:Rf)(w:World):Prop where
 Yl:ro.any=false->∀a,Sf N ro.D a ρ->wpList P ops (Zf N ro.D Q) l a w
 rn:∀a,Sf N ro.D a ρ->∀n,wpListIn (FW ro.round) n P ops (Zf N ro.D Q) l a w
def re(next:Rf->World->Prop)(Q:Kq):Kq
 |.normal,ρ,w=>next ρ w
 |e,ρ,w=>Q e ρ w
def Zp(id:Nat)(Q:Kq):Kq
 |.exit id',ρ,w=>if id'=id then Q .normal ρ w else Q (.exit id') ρ w
 |e,ρ,w=>Q e ρ w
variable {P:Program}{N:Nat}{Q:Kq}{ρ:Rf}{w:World}
def WC.mn{D:List Deferred}{c:Code}(h:∀a,Sf N D a ρ->c.wp P (Zf N D Q) a w):WC ⟨none,D,false⟩ P N c Q ρ w:=⟨λ_=>h,λa hf _=>wpIn_wide.2 (h a hf)⟩
def WC.out{D:List Deferred}{c:Code}(h:WC ⟨none,D,false⟩ P N c Q ρ w):∀a,Sf N D a ρ->c.wp P (Zf N D Q) a w:=h.Yl rfl
def WL.out{D:List Deferred}{ops:Array Oper}{l:List Oper}(h:WL ⟨none,D,false⟩ P N ops Q l ρ w):∀a,Sf N D a ρ->wpList P ops (Zf N D Q) l a w:=h.Yl rfl
def FA{D:List Deferred}{Q Q':Kq}(h:∀e ρ w,Q e ρ w->Q' e ρ w)(e:Exit)(a:Act)(w:World):Zf N D Q e a w->Zf N D Q' e a w:=
 λ⟨ρ,hf,hq⟩=>⟨ρ,hf,h _ _ _ hq⟩
variable {ro:Mode}
def WC.mono{c:Code}{Q':Kq}(h:WC ro P N c Q ρ w)(hq:∀e ρ w,Q e ρ w->Q' e ρ w):WC ro P N c Q' ρ w:=
 ⟨λhm a hf=>wp_mono (h.Yl hm a hf) (FA hq),λa hf n=>wpIn_mono (h.rn a hf n) (FA hq)⟩
def mb{x y:Code}(h:WC ro P N x (re (λρ w=>WC ro P N y Q ρ w) Q) ρ w):WC ro P N (.seq x y) Q ρ w:=
 ⟨λhm a hf=>wp_seq (wp_mono (h.Yl hm a hf) λe a' w' ⟨ρ',hf',hq⟩=>by
  cases e with
  |normal=>exact hq.Yl hm a' hf'
  |_=>exact⟨ρ',hf',hq⟩),
 λa hf n=>wpIn_seq (wpIn_mono (h.rn a hf n) λe a' w' ⟨ρ',hf',hq⟩=>by
  cases e with
  |normal=>exact hq.rn a' hf' n
  |_=>exact⟨ρ',hf',hq⟩)⟩
def Mc(h:Q .normal ρ w):WC ro P N .skip Q ρ w:=⟨λ_ _ hf=>wp_skip ⟨ρ,hf,h⟩,λ_ hf _=>wpIn_skip ⟨ρ,hf,h⟩⟩
def Bn(h:Q .ret ρ w):WC ro P N .ret Q ρ w:=⟨λ_ _ hf=>wp_ret ⟨ρ,hf,h⟩,λ_ hf _=>wpIn_ret ⟨ρ,hf,h⟩⟩
def Ol{id:Nat}(h:Q (.exit id) ρ w):WC ro P N (.exit id) Q ρ w:=⟨λ_ _ hf=>wp_exit ⟨ρ,hf,h⟩,λ_ hf _=>wpIn_exit ⟨ρ,hf,h⟩⟩
def TV{l:Nat}(h:Q .normal ρ w):WC ro P N (.label l) Q ρ w:=⟨λ_ _ hf=>wp_label ⟨ρ,hf,h⟩,λ_ hf _=>wpIn_label ⟨ρ,hf,h⟩⟩
def cg{id:Nat}{c:Code}(h:WC ro P N c (Zp id Q) ρ w):WC ro P N (.block id c) Q ρ w:=
 have key:∀(D:List Deferred) e a' w',Zf N D (Zp id Q) e a' w'->Exit.inBlock id (Zf N D Q) e a' w':=λD e a' w' ⟨ρ',hf',hq⟩=>by
  cases e with
  |exit id'=>
   by_cases hid:id'=id
   .simp only[Zp,hid,if_true] at hq;simp only[Exit.inBlock,hid,if_true];exact⟨ρ',hf',hq⟩
   simp only[Zp,hid,if_false] at hq;simp only[Exit.inBlock,hid,if_false];exact⟨ρ',hf',hq⟩
  |_=>exact⟨ρ',hf',hq⟩
 ⟨λhm a hf=>wp_block (wp_mono (h.Yl hm a hf) (key _)),λa hf n=>wpIn_block (wpIn_mono (h.rn a hf n) (key _))⟩
def UO{c:Operand}{x y:Code}(hc:ev ρ c=.bool true)(h:WC ro P N x Q ρ w):WC ro P N (.cond c x y) Q ρ w:=
 ⟨λhm a hf=>wp_cond_true (by rw[hf.eval];exact hc) (h.Yl hm a hf),λa hf n=>wpIn_cond_true (by rw[hf.eval];exact hc) (h.rn a hf n)⟩
def KN{c:Operand}{x y:Code}(hc:ev ρ c=.bool false)(h:WC ro P N y Q ρ w):WC ro P N (.cond c x y) Q ρ w:=
 ⟨λhm a hf=>wp_cond_false (by rw[hf.eval];exact hc) (h.Yl hm a hf),λa hf n=>wpIn_cond_false (by rw[hf.eval];exact hc) (h.rn a hf n)⟩
def Kb{id:Nat}{l:List Oper}(h:WL ro P N l.toArray Q l ρ w):WC ro P N (.region id l.toArray false) Q ρ w:=
 ⟨λhm a hf=>wp_region_lit (h.Yl hm a hf),λa hf n=>wpIn_region_lit (h.rn a hf n)⟩
def wc{next:Rf->World->Prop}(h:next ρ w):re next Q .normal ρ w:=h
def Mz{next:Rf->World->Prop}(h:Q .ret ρ w):re next Q .ret ρ w:=h
def yi{next:Rf->World->Prop}{id:Nat}(h:Q (.exit id) ρ w):re next Q (.exit id) ρ w:=h
def Tv{id:Nat}(h:Q .normal ρ w):Zp id Q .normal ρ w:=h
def FT{id:Nat}(h:Q .ret ρ w):Zp id Q .ret ρ w:=h
def Lp{id:Nat}(h:Q .normal ρ w):Zp id Q (.exit id) ρ w:=by simpa[Zp] using h
def acC{id id':Nat}(hne:id'≠id)(h:Q (.exit id') ρ w):Zp id Q (.exit id') ρ w:=by simpa[Zp,hne] using h
def mask(mods:List Nat)(ρ' ρ:Rf):Rf:=λi=>bif mods.contains i then ρ' i else ρ i
def Jg(mods:List Nat)(ρ1 ρ:Rf):Prop:=∀i,mods.contains i=false->ρ1 i=ρ i
def Xe(mods:List Nat)(ρ' ρ:Rf):Jg mods (mask mods ρ' ρ) ρ:=λi hi=>by simp only[mask,hi,cond_false]
def Wc{mods:List Nat}{ρ1 ρ:Rf}{d:Nat}{v:Value}(hd:mods.contains d=true)(h:Jg mods ρ1 ρ):Jg mods (sc ρ1 d v) ρ:=λi hi=>by
 rw[Eh ρ1 (λe=>by rw[e,hd] at hi;cases hi)];exact h i hi
def Ce{mods mods2:List Nat}{ρ' ρ1 ρ:Rf}(hm:(mods2.all λi=>mods.contains i)=true)(h:Jg mods ρ1 ρ):Jg mods (mask mods2 ρ' ρ1) ρ:=λi hi=>by
 have h2:mods2.contains i=false:=by
  cases hc:mods2.contains i with
  |false=>rfl
  |true=>
   have:=u_.1 hm i (by simpa using hc);rw[this] at hi;cases hi
 simp only[mask,h2,cond_false];exact h i hi
def P'{p:Prop}(h:p:=by repeat (first|exact Xe _ _ _|refine Wc rfl ?_|refine Ce rfl ?_)):p:=h
def O'{p:Prop}(h:p:=by(repeat (first|exact Xe _ _ _|refine Wc rfl ?_|refine Ce rfl ?_));exact λ_ _=>rfl):p:=h
def Ug{mods:List Nat}{ρ1 ρ:Rf}(h:Jg mods ρ1 ρ):mask mods ρ1 ρ=ρ1:=by
 funext i;simp only[mask]
 cases hc:mods.contains i with
 |true=>rfl
 |false=>simpa using(h i hc).symm
def Le(ρ:Rf)(d:Nat):sc ρ d (ρ d)=ρ:=by
 funext i;by_cases h:i=d
 .subst h;rw[Bs]
 rw[Eh ρ h]
def Gq{c:Code}(I:Rf->World->Prop)(μ:Rf->World->Nat)(h0:I ρ w) (round:∀ρ w,I ρ w->WC ro P N c (re (λρ' w'=>I ρ' w'/\μ ρ' w'<μ ρ w) Q) ρ w):WC ro P N (.loop c) Q ρ w:=by
 refine⟨λhm a hf=> ?_,λa hf n=> ?_⟩
 .refine wp_loop (λa w=>∃ρ,Sf N ro.D a ρ/\I ρ w) (λa w=>μ (λi=>a.tmps.getD i undef) w) ⟨ρ,hf,h0⟩ ?_;rintro a w ⟨ρ,hf,hi⟩;refine wp_mono ((round ρ w hi).Yl hm a hf) ?_;exact aes
 refine wpIn_loop (λa w=>∃ρ,Sf N ro.D a ρ/\I ρ w) (λa w=>μ (λi=>a.tmps.getD i undef) w) ⟨ρ,hf,h0⟩ ?_;rintro a w ⟨ρ,hf,hi⟩;refine wpIn_mono ((round ρ w hi).rn a hf n) ?_;exact aes
def sy{c:Code}(mods:List Nat)(I:World->Prop)(μ:World->Nat)(h0:I  w) (round:∀ρ' w',I  w'->WC ro P N c (re (λρ2 w2=>I  w2/\μ  w2<μ  w'/\Jg mods ρ2 ρ) Q) (mask mods ρ' ρ) w'):WC ro P N (.loop c) Q ρ w:=
 Gq (λρ1 w1=>I  w1/\Jg mods ρ1 ρ) (λρ1 w1=>μ  w1) ⟨h0,λ_ _=>rfl⟩ λρ1 w1 ⟨hi,ha⟩=>by
  have h:=round ρ1  w1 hi;rw[Ug ha] at h;exact h.mono λe ρ2 w2 hq=>by
   cases e with
   |normal=>exact⟨⟨hq.1,hq.2.2⟩,hq.2.1⟩
   |_=>exact hq
def Ba{c:Code}(mods:List Nat)(s0:Nat)(I:Value->World->Prop)(μ:Value->World->Nat)(h0:I (ρ s0) w) (round:∀ρ' v0 w',I v0 w'->WC ro P N c (re (λρ2 w2=>I (ρ2 s0) w2/\μ (ρ2 s0) w2<μ v0 w'/\Jg mods ρ2 ρ) Q) (sc (mask mods ρ' ρ) s0 v0) w'):WC ro P N (.loop c) Q ρ w:=
 Gq (λρ1 w1=>I (ρ1 s0) w1/\Jg mods ρ1 ρ) (λρ1 w1=>μ (ρ1 s0) w1) ⟨h0,λ_ _=>rfl⟩ λρ1 w1 ⟨hi,ha⟩=>by
  have h:=round ρ1 (ρ1 s0) w1 hi;rw[Ug ha,Le] at h;exact h.mono λe ρ2 w2 hq=>by
   cases e with
   |normal=>exact⟨⟨hq.1,hq.2.2⟩,hq.2.1⟩
   |_=>exact hq
def Ra{c:Code}(mods:List Nat)(s0 s1:Nat)(I:Value->Value->World->Prop)(μ:Value->Value->World->Nat)(h0:I (ρ s0) (ρ s1) w) (round:∀ρ' v0 v1 w',I v0 v1 w'->WC ro P N c (re (λρ2 w2=>I (ρ2 s0) (ρ2 s1) w2/\μ (ρ2 s0) (ρ2 s1) w2<μ v0 v1 w'/\Jg mods ρ2 ρ) Q) (sc (sc (mask mods ρ' ρ) s0 v0) s1 v1) w'):WC ro P N (.loop c) Q ρ w:=
 Gq (λρ1 w1=>I (ρ1 s0) (ρ1 s1) w1/\Jg mods ρ1 ρ) (λρ1 w1=>μ (ρ1 s0) (ρ1 s1) w1) ⟨h0,λ_ _=>rfl⟩ λρ1 w1 ⟨hi,ha⟩=>by
  have h:=round ρ1 (ρ1 s0) (ρ1 s1) w1 hi;rw[Ug ha,Le,Le] at h;exact h.mono λe ρ2 w2 hq=>by
   cases e with
   |normal=>exact⟨⟨hq.1,hq.2.2⟩,hq.2.1⟩
   |_=>exact hq
def ay{c:Code}(mods:List Nat)(s0 s1 s2:Nat)(I:Value->Value->Value->World->Prop)(μ:Value->Value->Value->World->Nat)(h0:I (ρ s0) (ρ s1) (ρ s2) w) (round:∀ρ' v0 v1 v2 w',I v0 v1 v2 w'->WC ro P N c (re (λρ2 w2=>I (ρ2 s0) (ρ2 s1) (ρ2 s2) w2/\μ (ρ2 s0) (ρ2 s1) (ρ2 s2) w2<μ v0 v1 v2 w'/\Jg mods ρ2 ρ) Q) (sc (sc (sc (mask mods ρ' ρ) s0 v0) s1 v1) s2 v2) w'):WC ro P N (.loop c) Q ρ w:=
 Gq (λρ1 w1=>I (ρ1 s0) (ρ1 s1) (ρ1 s2) w1/\Jg mods ρ1 ρ) (λρ1 w1=>μ (ρ1 s0) (ρ1 s1) (ρ1 s2) w1) ⟨h0,λ_ _=>rfl⟩ λρ1 w1 ⟨hi,ha⟩=>by
  have h:=round ρ1 (ρ1 s0) (ρ1 s1) (ρ1 s2) w1 hi;rw[Ug ha,Le,Le,Le] at h;exact h.mono λe ρ2 w2 hq=>by
   cases e with
   |normal=>exact⟨⟨hq.1,hq.2.2⟩,hq.2.1⟩
   |_=>exact hq
def cU{c:Code}(mods:List Nat)(s0 s1 s2 s3:Nat)(I:Value->Value->Value->Value->World->Prop)(μ:Value->Value->Value->Value->World->Nat)(h0:I (ρ s0) (ρ s1) (ρ s2) (ρ s3) w) (round:∀ρ' v0 v1 v2 v3 w',I v0 v1 v2 v3 w'->WC ro P N c (re (λρ2 w2=>I (ρ2 s0) (ρ2 s1) (ρ2 s2) (ρ2 s3) w2/\μ (ρ2 s0) (ρ2 s1) (ρ2 s2) (ρ2 s3) w2<μ v0 v1 v2 v3 w'/\Jg mods ρ2 ρ) Q) (sc (sc (sc (sc (mask mods ρ' ρ) s0 v0) s1 v1) s2 v2) s3 v3) w'):WC ro P N (.loop c) Q ρ w:=
 Gq (λρ1 w1=>I (ρ1 s0) (ρ1 s1) (ρ1 s2) (ρ1 s3) w1/\Jg mods ρ1 ρ) (λρ1 w1=>μ (ρ1 s0) (ρ1 s1) (ρ1 s2) (ρ1 s3) w1) ⟨h0,λ_ _=>rfl⟩ λρ1 w1 ⟨hi,ha⟩=>by
  have h:=round ρ1 (ρ1 s0) (ρ1 s1) (ρ1 s2) (ρ1 s3) w1 hi;rw[Ug ha,Le,Le,Le,Le] at h;exact h.mono λe ρ2 w2 hq=>by
   cases e with
   |normal=>exact⟨⟨hq.1,hq.2.2⟩,hq.2.1⟩
   |_=>exact hq
inductive WU(P:Program)(ρ:Rf)(w:World):ResultVar->Value->Prop
 |tmp (t:Tmp) {v:Value} (h:ρ t=v):WU P ρ w (.tmp t) v
 |cell (p:Tmp) (t:TypeId) {a:Addr}{v:Value} (hp:ρ p=.pointer (some a)) (h:(loadVar t a).run P w=.ok v w):WU P ρ w (.cell p t) v
def gi(P:Program)(ρ:Rf)(w:World):List ResultVar->List Value->Prop
 |[],[]=>True
 |r::rs,v::vs=>WU P ρ w r v/\gi P ρ w rs vs
 |_,_=>False
def oG:List Value->Value
 |[v]=>v
 |vs=>.tuple vs.toArray
def Po(P:Program)(fn:Func)(R:Ending->World->Prop):Kq:=λe ρ w=>
 (e=.normal\/e=.ret)/\∃v,(∀tmps:Array Value,(∀i,tmps.getD i undef=ρ i)->(results fn tmps).run P w=.ok v w)/\R (.returned v) w
def bM{P:Program}{ρ:Rf}{w:World}{f:ResultVar->Sem Value}(h1:∀t,(f (.tmp t)).run P w=.ok (ρ t) w) (h2:∀p t a v,ρ p=.pointer (some a)->(loadVar t a).run P w=.ok v w->(f (.cell p t)).run P w=.ok v w):∀(rs:List ResultVar)(vs:List Value),gi P ρ w rs vs->(rs.mapM f).run P w=.ok vs w
 |[],[],_=>by simp
 |[],_::_,h=>h.elim
 |_::_,[],h=>h.elim
 |r::rs,v::vs,h=>by
  have ih:=bM h1 h2 rs vs h.2;obtain⟨h3,_⟩:=h;rw[List.mapM_cons]
  cases h3 with
  |tmp t hv=>rw[Sem.run_bind,h1,Result.andThen_ok,Sem.run_bind,ih,Result.andThen_ok,Sem.run_pure,hv]
  |cell p t hp hl=>rw[Sem.run_bind,h2 _ _ _ _ hp hl,Result.andThen_ok,Sem.run_bind,ih,Result.andThen_ok,Sem.run_pure]
def El{P:Program}{fn:Func}{R:Ending->World->Prop}{ρ:Rf}{w:World}{rs:List ResultVar}{vs:List Value}{e:Exit}(he:e=.normal\/e=.ret)(hr:fn.results=rs.toArray) (hv:gi P ρ w rs vs)(h:R (.returned (oG vs)) w):Po P fn R e ρ w:=by
 refine⟨he,oG vs,λtmps ht=> ?_,h⟩;unfold results;rw[hr,Sem.run_bind,List.mapM_toArray,Sem.run_map,bM (ρ:=ρ) (λt=>by simp[ht]) (λp t a v hp hl=>by simp[ht,hp,asAddr,hl]) rs vs hv];simp only[Result.andThen_ok]
 match vs with
 |[]=>simp[oG]
 |[v]=>simp[oG]
 |_::_::_=>simp[oG]
def Be{P:Program}{ρ:Rf}{w:World}:gi P ρ w [] []:=trivial
def gh{P:Program}{ρ:Rf}{w:World}{t:Tmp}{v:Value}{rs:List ResultVar}{vs:List Value}(h:ρ t=v)(k:gi P ρ w rs vs):gi P ρ w (.tmp t::rs) (v::vs):=⟨.tmp t h,k⟩
def qd{P:Program}{ρ:Rf}{w:World}{p:Tmp}{t:TypeId}{a:Addr}{v:Value}{rs:List ResultVar}{vs:List Value}(hp:ρ p=.pointer (some a))(h:(loadVar t a).run P w=.ok v w)(k:gi P ρ w rs vs):gi P ρ w (.cell p t::rs) (v::vs):=⟨.cell p t hp h,k⟩
def aft{P:Program}{fn:Func}{R:Ending->World->Prop}{ρ:Rf}{w:World}{t:Tmp}{e:Exit}{v:Value}(he:e=.normal\/e=.ret)(hr:fn.results= #[.tmp t])(hv:ρ t=v)(h:R (.returned v) w):Po P fn R e ρ w:=
 El he hr (gh hv Be) h
def af0{P:Program}{fn:Func}{R:Ending->World->Prop}{ρ:Rf}{w:World}{t u:Tmp}{e:Exit}{v x:Value}(he:e=.normal\/e=.ret)(hr:fn.results= #[.tmp t,.tmp u])(hv:ρ t=v)(hx:ρ u=x)(h:R (.returned (.tuple #[v,x])) w):Po P fn R e ρ w:=
 El he hr (gh hv (gh hx Be)) h
def afn{P:Program}{fn:Func}{R:Ending->World->Prop}{ρ:Rf}{w:World}{t u s:Tmp}{e:Exit}{v x y:Value}(he:e=.normal\/e=.ret)(hr:fn.results= #[.tmp t,.tmp u,.tmp s])(hv:ρ t=v)(hx:ρ u=x)(hy:ρ s=y)(h:R (.returned (.tuple #[v,x,y])) w):Po P fn R e ρ w:=
 El he hr (gh hv (gh hx (gh hy Be))) h
def af3{P:Program}{fn:Func}{R:Ending->World->Prop}{ρ:Rf}{w:World}{e:Exit}(he:e=.normal\/e=.ret)(hr:fn.results= #[])(h:R (.returned (.tuple #[])) w):Po P fn R e ρ w:=
 El he hr Be h
def aei{P:Program}{fn:Func}{R:Ending->World->Prop}{ρ:Rf}{w:World}{r:ResultVar}{e:Exit}{v:Value}(he:e=.normal\/e=.ret)(hr:fn.results= #[r])(h1:gi P ρ w [r] [v])(h:R (.returned v) w):Po P fn R e ρ w:=
 El he hr h1 h
def acV{P:Program}{fn:Func}{R:Ending->World->Prop}{ρ:Rf}{w:World}{r s:ResultVar}{e:Exit}{v x:Value}(he:e=.normal\/e=.ret)(hr:fn.results= #[r,s])(h1:gi P ρ w [r,s] [v,x])(h:R (.returned (.tuple #[v,x])) w):Po P fn R e ρ w:=
 El he hr h1 h
def aer{P:Program}{fn:Func}{R:Ending->World->Prop}{ρ:Rf}{w:World}{r s t:ResultVar}{e:Exit}{v x y:Value}(he:e=.normal\/e=.ret)(hr:fn.results= #[r,s,t])(h1:gi P ρ w [r,s,t] [v,x,y])(h:R (.returned (.tuple #[v,x,y])) w):Po P fn R e ρ w:=
 El he hr h1 h
def DZ(l:List Value):Rf:=λi=>l.getD i undef
def da{P:Program}{f:FuncId}{fn:Func}{c:Code}{N:Nat}{l:List Value}{w:World}{R:Ending->World->Prop} (hf:P.funcs[f]?=some fn)(hb:fn.body=some c)(hn:fn.ntmps=N)(ha:l.length<=N) (h:WC .plain P N c (Po P fn R) (DZ l) w):Calls P f l.toArray w R:=by
 refine calls_of_wp hf hb ?_;refine wp_mono (h.out _ ⟨rfl,by simp[hn];omega,λi=> ?_⟩) ?_
 .simp only[DZ];obtain hi|hi:=Y9 i l.length
  .rw[y9,Array.getElem?_append_left (by simpa using hi)];simp[K9]
  rw[y9,Array.getElem?_append_right (by simpa using hi)];simp only[K9,t_ hi,Option.getD_none,H5];split<;>rfl
 rintro e a w' ⟨ρ',hf',he,v,hr,hR⟩;obtain rfl|rfl:=he<;>exact⟨hf'.nd,v,hr _ hf'.at_,hR⟩
def Eo{f:Operand->Value}{o:Oper}{x:Next}{w':World}(ro:Option Nat)(h:(execOp f o).run P w=.ok x w')(hx:∀d,x≠.defer d):(o.semAt ro f).run P w=.ok x w':=by
 cases hop:o.op with
 |defer c=>
  exfalso;unfold execOp at h;rw[hop] at h;simp only[Sem.run_bind] at h
  cases h2:(resolve f c o.type).run P w with
  |ok v w2=>
   rw[h2] at h;simp at h;exact hx _ h.1.symm
  |halt e w2=>
   rw[h2] at h;simp[Result.andThen] at h
 |_=>rw[Oper.semAt_eq _ _ _ (by rw[hop];intro c hc;cases hc)];exact h
def JE{r1:Option Nat}{n:Nat}{f:FuncId}{args:Array Value}{R:Ending->World->Prop}(h:Calls P f args w R):CallsIn (FW r1) n P f args w R:=(callsIn_wide (n:=n)).2 h
variable {ops:Array Oper}
def Gp(h:Q .normal ρ w):WL ro P N ops Q [] ρ w:=⟨λ_ _ hf=>wpList_nil ⟨ρ,hf,h⟩,λ_ hf _=>wpListIn_nil ⟨ρ,hf,h⟩⟩
def ua{next:Rf->World->Prop}{Q':Kq}(h:next ρ w):WL ro P N ops (re next Q') [] ρ w:=Gp h
variable {rest:List Oper}
def Ia{o:Oper}{d:Nat}{v:Value}{w':World}(hg:o.guard=none)(hd:o.dst=some d)(hN:d<N) (hr:(execOp (ev ρ) o).run P w=.ok (.value v) w')(k:WL ro P N ops Q rest (sc ρ d v) w'):WL ro P N ops Q (o::rest) ρ w:=
 ⟨λhm a hf=>wpList_plain hg λK hK=>by
  unfold Oper.wp;rw[hf.eval,hr];show K (a.put o.dst v) w';rw[hd];exact hK _ _ (k.Yl hm _ (hf.put hN v)),
 λa hf n=>wpListIn_plain hg λK hK=>by
  refine⟨λ_ _=>trivial, ?_⟩;rw[hf.eval,Eo _ hr (λ_ h=>by cases h)];show K (a.put o.dst v) w';rw[hd];exact hK _ _ (k.rn _ (hf.put hN v) n)⟩
def gL{o:Oper}{w':World}(hg:o.guard=none)(hd:o.dst=none) (hr:(execOp (ev ρ) o).run P w=.ok .skip w')(k:WL ro P N ops Q rest ρ w'):WL ro P N ops Q (o::rest) ρ w:=
 ⟨λhm a hf=>wpList_plain hg λK hK=>by
  unfold Oper.wp;rw[hf.eval,hr];show K (a.put o.dst undef) w';rw[hd];exact hK _ _ (k.Yl hm _ hf),
 λa hf n=>wpListIn_plain hg λK hK=>by
  refine⟨λ_ _=>trivial, ?_⟩;rw[hf.eval,Eo _ hr (λ_ h=>by cases h)];show K (a.put o.dst undef) w';rw[hd];exact hK _ _ (k.rn _ hf n)⟩
def VG{o:Oper}{d:Nat}{f:FuncId}{args:Array Value}{w1:World}{R:Ending->World->Prop}(hg:o.guard=none)(hd:o.dst=some d)(hN:d<N) (hr:(execOp (ev ρ) o).run P w=.ok (.enter f args) w1)(hc:Calls P f args w1 R) (k:∀e w',R e w'->∃v,e=.returned v/\WL ro P N ops Q rest (sc ρ d v) w'):WL ro P N ops Q (o::rest) ρ w:=
 ⟨λhm a hf=>wpList_plain hg λK hK=>by
  unfold Oper.wp;rw[hf.eval,hr];show Calls P f args w1 _;refine hc.mono λe w' hR=> ?_;obtain⟨v,rfl,hk⟩:=k e w' hR;show K (a.put o.dst v) w';rw[hd];exact hK _ _ (hk.Yl hm _ (hf.put hN v)),
 λa hf n=>wpListIn_plain hg λK hK=>by
  refine⟨λ_ _=>trivial, ?_⟩;rw[hf.eval,Eo _ hr (λ_ h=>by cases h)];refine⟨λh=>(by cases h), ?_⟩;refine JE (hc.mono λe w' hR=> ?_);obtain⟨v,rfl,hk⟩:=k e w' hR;show K (a.put o.dst v) w';rw[hd];exact hK _ _ (hk.rn _ (hf.put hN v) n)⟩
def wk{d:Option Nat}{op:Op}{ty:TypeId}{pos:String}{af:Array Edge}{j dj:Nat}{b:Bool} (hj:(ops[j]?).bind (·.dst)=some dj)(hv:ρ dj=.bool b)(k:WL ro P N ops Q (⟨d,op,ty,pos,af,none⟩::rest) ρ w):
  WL ro P N ops Q (⟨d,op,ty,pos,af,some (j,b)⟩::rest) ρ w:=
 have h0:∀D a,Sf N D a ρ->Region.wanted ⟨d,op,ty,pos,af,some (j,b)⟩ (yielded ops a.tmps)=true:=λD a hf=>by
  have h2:=hf.at_ dj;rw[hv,y9] at h2
  cases h3:a.tmps[dj]? with
  |none=>rw[h3] at h2;cases h2
  |some x=>
   rw[h3] at h2;simp only[l9] at h2;subst h2;simp[Region.wanted,yielded,hj,h3]
 ⟨λhm a hf=>by
  have h2:=k.Yl hm a hf;unfold wpList at h2 |-;rw[J' (h0 _ a hf)];rw[J' (by simp[Region.wanted])] at h2;exact h2,
 λa hf n=>by
  have h2:=k.rn a hf n;unfold wpListIn at h2 |-;rw[J' (h0 _ a hf)];rw[J' (by simp[Region.wanted])] at h2;exact h2⟩
def qp{d:Nat}{op:Op}{ty:TypeId}{pos:String}{af:Array Edge}{j dj:Nat}{b c:Bool}(hN:d<N) (hj:(ops[j]?).bind (·.dst)=some dj)(hv:ρ dj=.bool c)(hb:c≠b)(k:WL ro P N ops Q rest (sc ρ d undef) w):
  WL ro P N ops Q (⟨some d,op,ty,pos,af,some (j,b)⟩::rest) ρ w:=
 have h0:∀D a,Sf N D a ρ->Region.wanted ⟨some d,op,ty,pos,af,some (j,b)⟩ (yielded ops a.tmps)=false:=λD a hf=>by
  have h2:=hf.at_ dj;rw[hv,y9] at h2
  cases h3:a.tmps[dj]? with
  |none=>rw[h3] at h2;cases h2
  |some x=>
   rw[h3] at h2;simp only[l9] at h2;subst h2;simp[Region.wanted,yielded,hj,h3,hb]
 ⟨λhm a hf=>by
  unfold wpList;rw[h0 _ a hf];exact k.Yl hm _ (hf.put hN undef),
 λa hf n=>by
  unfold wpListIn;rw[h0 _ a hf];exact⟨λ_ _=>trivial,k.rn _ (hf.put hN undef) n⟩⟩
def nb(v:Value)(b:Bool):Bool:=match v with|.bool c=>c !=b|_=>true
def Aw{d:Nat}{op:Op}{ty:TypeId}{pos:String}{af:Array Edge}{j dj:Nat}{b:Bool}(hN:d<N) (hj:(ops[j]?).bind (·.dst)=some dj)(hb:nb (ρ dj) b=true)(k:WL ro P N ops Q rest (sc ρ d undef) w):
  WL ro P N ops Q (⟨some d,op,ty,pos,af,some (j,b)⟩::rest) ρ w:=by
 cases hv:ρ dj with
 |bool c=>
  rw[hv] at hb;exact qp hN hj hv (by simpa[nb] using hb) k
 |_=>
  have h0:∀D a,Sf N D a ρ->Region.wanted ⟨some d,op,ty,pos,af,some (j,b)⟩ (yielded ops a.tmps)=false:=λD a hf=>by
   have h2:=hf.at_ dj;rw[hv,y9] at h2
   cases h3:a.tmps[dj]? with
   |none=>simp[Region.wanted,yielded,hj,h3]
   |some x=>
    rw[h3] at h2;simp only[l9] at h2;subst h2;simp[Region.wanted,yielded,hj,h3]
  refine⟨λhm a hf=> ?_,λa hf n=> ?_⟩
  .unfold wpList;rw[h0 _ a hf];exact k.Yl hm _ (hf.put hN undef)
  unfold wpListIn;rw[h0 _ a hf];exact⟨λ_ _=>trivial,k.rn _ (hf.put hN undef) n⟩
def uw{op:Op}{ty:TypeId}{pos:String}{af:Array Edge}{j dj:Nat}{b c:Bool} (hj:(ops[j]?).bind (·.dst)=some dj)(hv:ρ dj=.bool c)(hb:c≠b)(k:WL ro P N ops Q rest ρ w):
  WL ro P N ops Q (⟨none,op,ty,pos,af,some (j,b)⟩::rest) ρ w:=
 have h0:∀D a,Sf N D a ρ->Region.wanted ⟨none,op,ty,pos,af,some (j,b)⟩ (yielded ops a.tmps)=false:=λD a hf=>by
  have h2:=hf.at_ dj;rw[hv,y9] at h2
  cases h3:a.tmps[dj]? with
  |none=>rw[h3] at h2;cases h2
  |some x=>
   rw[h3] at h2;simp only[l9] at h2;subst h2;simp[Region.wanted,yielded,hj,h3,hb]
 ⟨λhm a hf=>by
  unfold wpList;rw[h0 _ a hf];exact k.Yl hm _ hf,
 λa hf n=>by
  unfold wpListIn;rw[h0 _ a hf];exact⟨λ_ _=>trivial,k.rn _ hf n⟩⟩
variable {d:Option Nat}{ty:TypeId}{pos:String}{af:Array Edge}{g:Option (Nat×Bool)}
def Jc{x:Operand}{v:Value}(hx:ev ρ x=v):(execOp (ev ρ) ⟨d,.move x,ty,pos,af,g⟩).run P w=.ok (.value v) w:=by simp[execOp,hx]
def zG{x:Operand}{v:Value}(hx:ev ρ x=v):(execOp (ev ρ) ⟨d,.assign x,ty,pos,af,g⟩).run P w=.ok (.value v) w:=by simp[execOp,hx]
def IG{c a b:Operand}{v:Value}(hc:ev ρ c=.bool true)(hx:ev ρ a=v):(execOp (ev ρ) ⟨d,.pick c a b,ty,pos,af,g⟩).run P w=.ok (.value v) w:=by simp[execOp,asBool,hc,hx]
def uF{c a b:Operand}{v:Value}(hc:ev ρ c=.bool false)(hx:ev ρ b=v):(execOp (ev ρ) ⟨d,.pick c a b,ty,pos,af,g⟩).run P w=.ok (.value v) w:=by simp[execOp,asBool,hc,hx]
variable {t u:TypeId}{x y:Operand}{k:IntKind}{a b:Int}
def BZ(hx:ev ρ x=.int k a)(hy:ev ρ y=.int k b):(execOp (ev ρ) ⟨d,.binOp .add t x y u,ty,pos,af,g⟩).run P w=.ok (.value (.int k (k.wrap (a+b)))) w:=by
 simp[execOp,hx,hy,eqGuard,binOp,Op.intArith]
def NZ(hx:ev ρ x=.int k a)(hy:ev ρ y=.int k b):(execOp (ev ρ) ⟨d,.binOp .sub t x y u,ty,pos,af,g⟩).run P w=.ok (.value (.int k (k.wrap (a-b)))) w:=by
 simp[execOp,hx,hy,eqGuard,binOp,Op.intArith]
def qZ(hx:ev ρ x=.int k a)(hy:ev ρ y=.int k b):(execOp (ev ρ) ⟨d,.binOp .mul t x y u,ty,pos,af,g⟩).run P w=.ok (.value (.int k (k.wrap (a*b)))) w:=by
 simp[execOp,hx,hy,eqGuard,binOp,Op.intArith]
def aaw(hx:ev ρ x=.int k a)(hy:ev ρ y=.int k b)(hb:b≠0):(execOp (ev ρ) ⟨d,.binOp .quo t x y u,ty,pos,af,g⟩).run P w=.ok (.value (.int k (k.wrap (a.tdiv b)))) w:=by
 simp[execOp,hx,hy,eqGuard,binOp,Op.intDiv,hb]
def N0(hx:ev ρ x=.int k a)(hy:ev ρ y=.int k b)(hb:b≠0):(execOp (ev ρ) ⟨d,.binOp .rem t x y u,ty,pos,af,g⟩).run P w=.ok (.value (.int k (a.tmod b))) w:=by
 simp[execOp,hx,hy,eqGuard,binOp,Op.intDiv,hb]
def aaq(hx:ev ρ x=.int k a)(hy:ev ρ y=.int k b):(execOp (ev ρ) ⟨d,.binOp .and t x y u,ty,pos,af,g⟩).run P w=.ok (.value (.int k (k.wrap (BitVec.ofInt k.bits a &&& BitVec.ofInt k.bits b).toNat))) w:=by
 simp[execOp,hx,hy,eqGuard,binOp,Op.intBits]
def afX(hx:ev ρ x=.int k a)(hy:ev ρ y=.int k b):(execOp (ev ρ) ⟨d,.binOp .or t x y u,ty,pos,af,g⟩).run P w=.ok (.value (.int k (k.wrap (BitVec.ofInt k.bits a|||BitVec.ofInt k.bits b).toNat))) w:=by
 simp[execOp,hx,hy,eqGuard,binOp,Op.intBits]
def aek{k':IntKind}(hx:ev ρ x=.int k a)(hy:ev ρ y=.int k' b)(hb:0<=b):(execOp (ev ρ) ⟨d,.binOp .shl t x y u,ty,pos,af,g⟩).run P w=.ok (.value (.int k (k.wrap (a*2^(min b.toNat k.bits))))) w:=by
 simp[execOp,hx,hy,eqGuard,binOp,Op.shift,show ¬b<0 by omega]
def acR{k':IntKind}(hx:ev ρ x=.int k a)(hy:ev ρ y=.int k' b)(hb:0<=b):(execOp (ev ρ) ⟨d,.binOp .shr t x y u,ty,pos,af,g⟩).run P w=.ok (.value (.int k (a.fdiv (2^(min b.toNat k.bits))))) w:=by
 simp[execOp,hx,hy,eqGuard,binOp,Op.shift,show ¬b<0 by omega]
def rE{op:BinOp}:(eqGuard op t x y (.int k a) (.int k b)).run P w=.ok () w:=by
 unfold eqGuard;cases op<;>simp
def Ym{op:BinOp}{r:Bool}(hx:ev ρ x=.int k a)(hy:ev ρ y=.int k b)(hop:(Op.intCmp op a b).run P w=.ok (.bool r) w)(hc:op=.eql\/op=.neq\/op=.lss\/op=.leq\/op=.gtr\/op=.geq):(execOp (ev ρ) ⟨d,.binOp op t x y u,ty,pos,af,g⟩).run P w=.ok (.value (.bool r)) w:=by
 obtain h|h|h|h|h|h:=hc<;>subst h<;>simp[execOp,hx,hy,rE,binOp,hop]
def NX(hx:ev ρ x=.int k a)(hy:ev ρ y=.int k b)(h:a<b):(execOp (ev ρ) ⟨d,.binOp .lss t x y u,ty,pos,af,g⟩).run P w=.ok (.value (.bool true)) w:=
 Ym hx hy (by simp[Op.intCmp,h]) (by simp)
def lW(hx:ev ρ x=.int k a)(hy:ev ρ y=.int k b)(h:¬a<b):(execOp (ev ρ) ⟨d,.binOp .lss t x y u,ty,pos,af,g⟩).run P w=.ok (.value (.bool false)) w:=
 Ym hx hy (by simp[Op.intCmp];omega) (by simp)
def DW(hx:ev ρ x=.int k a)(hy:ev ρ y=.int k b)(h:a<=b):(execOp (ev ρ) ⟨d,.binOp .leq t x y u,ty,pos,af,g⟩).run P w=.ok (.value (.bool true)) w:=
 Ym hx hy (by simp[Op.intCmp,h]) (by simp)
def MW(hx:ev ρ x=.int k a)(hy:ev ρ y=.int k b)(h:¬a<=b):(execOp (ev ρ) ⟨d,.binOp .leq t x y u,ty,pos,af,g⟩).run P w=.ok (.value (.bool false)) w:=
 Ym hx hy (by simp[Op.intCmp];omega) (by simp)
def gZ(hx:ev ρ x=.int k a)(hy:ev ρ y=.int k b)(h:b<a):(execOp (ev ρ) ⟨d,.binOp .gtr t x y u,ty,pos,af,g⟩).run P w=.ok (.value (.bool true)) w:=
 Ym hx hy (by simp[Op.intCmp,h]) (by simp)
def rY(hx:ev ρ x=.int k a)(hy:ev ρ y=.int k b)(h:¬b<a):(execOp (ev ρ) ⟨d,.binOp .gtr t x y u,ty,pos,af,g⟩).run P w=.ok (.value (.bool false)) w:=
 Ym hx hy (by simp[Op.intCmp];omega) (by simp)
def kX(hx:ev ρ x=.int k a)(hy:ev ρ y=.int k b)(h:b<=a):(execOp (ev ρ) ⟨d,.binOp .geq t x y u,ty,pos,af,g⟩).run P w=.ok (.value (.bool true)) w:=
 Ym hx hy (by simp[Op.intCmp,h]) (by simp)
def dZ(hx:ev ρ x=.int k a)(hy:ev ρ y=.int k b)(h:¬b<=a):(execOp (ev ρ) ⟨d,.binOp .geq t x y u,ty,pos,af,g⟩).run P w=.ok (.value (.bool false)) w:=
 Ym hx hy (by simp[Op.intCmp];omega) (by simp)
def RW(hx:ev ρ x=.int k a)(hy:ev ρ y=.int k b)(h:a≠b):(execOp (ev ρ) ⟨d,.binOp .neq t x y u,ty,pos,af,g⟩).run P w=.ok (.value (.bool true)) w:=
 Ym hx hy (by simp[Op.intCmp,h]) (by simp)
def nW(hx:ev ρ x=.int k a)(hy:ev ρ y=.int k b)(h:a=b):(execOp (ev ρ) ⟨d,.binOp .neq t x y u,ty,pos,af,g⟩).run P w=.ok (.value (.bool false)) w:=
 Ym hx hy (by simp[Op.intCmp,h]) (by simp)
def TL(hx:ev ρ x=.int k a)(hy:ev ρ y=.int k b):(execOp (ev ρ) ⟨d,.binOp .eql t x y u,ty,pos,af,g⟩).run P w=.ok (.value (.bool (decide (a=b)))) w:=
 Ym hx hy (by simp[Op.intCmp];rw[Bool.eq_iff_iff];simp) (by simp)
def HZ(hx:ev ρ x=.int k a):(execOp (ev ρ) ⟨d,.unOp .neg t x,ty,pos,af,g⟩).run P w=.ok (.value (.int k (k.wrap (-a)))) w:=by
 simp[execOp,hx,Op.unary,Op.intArith]
def yj{n:Int}(h1: -9223372036854775808<=n)(h2:n<=9223372036854775807):IntKind.i64.wrap n=n:=IntWalk.i64_in n ⟨h1,h2⟩
def Ys(hx:ev ρ x=.int .i64 a)(hy:ev ρ y=.int .i64 b)(h1: -9223372036854775808<=a+b)(h2:a+b<=9223372036854775807):(execOp (ev ρ) ⟨d,.binOp .add t x y u,ty,pos,af,g⟩).run P w=.ok (.value (.int .i64 (a+b))) w:=by
 rw[BZ hx hy,yj h1 h2]
def sT(hx:ev ρ x=.int .i64 a)(hy:ev ρ y=.int .i64 b)(h1: -9223372036854775808<=a-b)(h2:a-b<=9223372036854775807):(execOp (ev ρ) ⟨d,.binOp .sub t x y u,ty,pos,af,g⟩).run P w=.ok (.value (.int .i64 (a-b))) w:=by
 rw[NZ hx hy,yj h1 h2]
def ET(hx:ev ρ x=.int .i64 a)(hy:ev ρ y=.int .i64 b)(h1: -9223372036854775808<=a*b)(h2:a*b<=9223372036854775807):(execOp (ev ρ) ⟨d,.binOp .mul t x y u,ty,pos,af,g⟩).run P w=.ok (.value (.int .i64 (a*b))) w:=by
 rw[qZ hx hy,yj h1 h2]
def xV(hx:ev ρ x=.int .i64 a)(h1: -9223372036854775808<= -a)(h2: -a<=9223372036854775807):(execOp (ev ρ) ⟨d,.unOp .neg t x,ty,pos,af,g⟩).run P w=.ok (.value (.int .i64 (-a))) w:=by
 rw[HZ hx,yj h1 h2]
def Ps(hx:ev ρ x=.int .i64 a)(hy:ev ρ y=.int .i64 b)(ha:0<=a)(hb:0<b)(h2:a<=9223372036854775807):(execOp (ev ρ) ⟨d,.binOp .quo t x y u,ty,pos,af,g⟩).run P w=.ok (.value (.int .i64 (a/b))) w:=by
 have h3:a/b<=a:=Int.ediv_le_self b ha;have h4:0<=a/b:=Int.ediv_nonneg ha Z';rw[aaw hx hy Z',Int.tdiv_eq_ediv_of_nonneg ha,yj Z' Z']
def Ln(hx:ev ρ x=.int .i64 a)(hy:ev ρ y=.int .i64 b)(ha:0<=a)(hb:0<b):(execOp (ev ρ) ⟨d,.binOp .rem t x y u,ty,pos,af,g⟩).run P w=.ok (.value (.int .i64 (a % b))) w:=by
 rw[N0 hx hy Z',Int.tmod_eq_emod_of_nonneg ha]
def aaQ{t:TypeId}{x:Operand}{b:Bool}(hx:ev ρ x=.bool b):(execOp (ev ρ) ⟨d,.unOp .not t x,ty,pos,af,g⟩).run P w=.ok (.value (.bool !b)) w:=by
 simp[execOp,hx,Op.unary]
variable {a b:Bool}
def eD(n:Nat)(ht:P.underlying t=some .bool):(Op.equalIn (n+1) t (.bool a) (.bool b)).run P w=.ok (a==b) w:=by
 simp[Op.equalIn,run_underlying ht]
def Wx(ht:P.underlying t=some .bool):(Op.equal t (.bool a) (.bool b)).run P w=.ok (a==b) w:=eD 9999 ht
def Nx(ht:P.underlying t=some .bool):(binOp .eql t (.bool a) (.bool b)).run P w=.ok (.bool (a==b)) w:=by
 simp only[binOp];simp[Wx ht]
def Ey(ht:P.underlying t=some .bool):(binOp .neq t (.bool a) (.bool b)).run P w=.ok (.bool (a !=b)) w:=by
 simp only[binOp];simp[Wx ht,bne]
def dy(ht:P.underlying t=some .bool)(hx:ev ρ x=.bool a)(hy:ev ρ y=.bool b):(execOp (ev ρ) ⟨d,.binOp .eql t x y u,ty,pos,af,g⟩).run P w=.ok (.value (.bool (a==b))) w:=by
 simp only[execOp,hx,hy,eqGuard];simp[Nx ht]
def Dl(ht:P.underlying t=some .bool)(hx:ev ρ x=.bool a)(hy:ev ρ y=.bool b):(execOp (ev ρ) ⟨d,.binOp .neq t x y u,ty,pos,af,g⟩).run P w=.ok (.value (.bool (a !=b))) w:=by
 simp only[execOp,hx,hy,eqGuard];simp[Ey ht]
variable {a b:ByteArray}
def CH{op:BinOp}:(eqGuard op t x y (.string a) (.string b)).run P w=.ok () w:=by
 unfold eqGuard;cases op<;>simp
def qG{op:BinOp}{r:Value}(hx:ev ρ x=.string a)(hy:ev ρ y=.string b)(hs:op≠.shl/\op≠.shr)(hop:(Op.stringOp op a b).run P w=.ok r w):(execOp (ev ρ) ⟨d,.binOp op t x y u,ty,pos,af,g⟩).run P w=.ok (.value r) w:=by
 cases op<;>simp_all [execOp,CH,binOp]
def Wz(hx:ev ρ x=.string a)(hy:ev ρ y=.string b):(execOp (ev ρ) ⟨d,.binOp .eql t x y u,ty,pos,af,g⟩).run P w=.ok (.value (.bool (a.toList==b.toList))) w:=
 qG hx hy (by simp) (by simp[Op.stringOp])
def Zz(hx:ev ρ x=.string a)(hy:ev ρ y=.string b):(execOp (ev ρ) ⟨d,.binOp .neq t x y u,ty,pos,af,g⟩).run P w=.ok (.value (.bool !(a.toList==b.toList))) w:=
 qG hx hy (by simp) (by simp[Op.stringOp])
def lT{a b:ByteArray}:(a.toList==b.toList)=decide (a=b):=by
 have key:∀s:ByteArray,s.toList=s.data.toList:=λs=>(by exact adV);rw[Bool.eq_iff_iff,R8,K_,key,key];constructor
 .intro h;cases a;cases b;congr 1;exact L6 h
 intro h;rw[h]
def EF(hx:ev ρ x=.string a)(hy:ev ρ y=.string b)(h:a=b):(execOp (ev ρ) ⟨d,.binOp .eql t x y u,ty,pos,af,g⟩).run P w=.ok (.value (.bool true)) w:=by
 rw[Wz hx hy,lT];simp[h]
def RE(hx:ev ρ x=.string a)(hy:ev ρ y=.string b)(h:¬a=b):(execOp (ev ρ) ⟨d,.binOp .eql t x y u,ty,pos,af,g⟩).run P w=.ok (.value (.bool false)) w:=by
 rw[Wz hx hy,lT];simp[h]
def jG(hx:ev ρ x=.string a)(hy:ev ρ y=.string b)(h:¬a=b):(execOp (ev ρ) ⟨d,.binOp .neq t x y u,ty,pos,af,g⟩).run P w=.ok (.value (.bool true)) w:=by
 rw[Zz hx hy,lT];simp[h]
def sH(hx:ev ρ x=.string a)(hy:ev ρ y=.string b)(h:a=b):(execOp (ev ρ) ⟨d,.binOp .neq t x y u,ty,pos,af,g⟩).run P w=.ok (.value (.bool false)) w:=by
 rw[Zz hx hy,lT];simp[h]
def HN(hx:ev ρ x=.string a)(hy:ev ρ y=.string b):(execOp (ev ρ) ⟨d,.binOp .lss t x y u,ty,pos,af,g⟩).run P w=.ok (.value (.bool (Op.bytesLess a.toList b.toList))) w:=
 qG hx hy (by simp) (by simp[Op.stringOp])
def oP(hx:ev ρ x=.string a)(hy:ev ρ y=.string b):(execOp (ev ρ) ⟨d,.binOp .gtr t x y u,ty,pos,af,g⟩).run P w=.ok (.value (.bool !(Op.bytesLess a.toList b.toList||a.toList==b.toList))) w:=
 qG hx hy (by simp) (by simp[Op.stringOp])
def OO(hx:ev ρ x=.string a)(hy:ev ρ y=.string b):(execOp (ev ρ) ⟨d,.binOp .geq t x y u,ty,pos,af,g⟩).run P w=.ok (.value (.bool !(Op.bytesLess a.toList b.toList))) w:=
 qG hx hy (by simp) (by simp[Op.stringOp])
def tm{s t:TypeId}{x:Operand}{k k':IntKind}{a:Int}{sd:TypeDesc}(hs:P.underlying s=some sd)(ht:P.underlying t=some (.int k))(hx:ev ρ x=.int k' a):(execOp (ev ρ) ⟨d,.convert s t x,ty,pos,af,g⟩).run P w=.ok (.value (.int k (k.wrap a))) w:=by
 simp[execOp,hx,convert,run_underlying hs,run_underlying ht,Conv.intToInt]
def Jx{s t:TypeId}{x:Operand}{k':IntKind}{a:Int}{sd:TypeDesc}(hs:P.underlying s=some sd)(ht:P.underlying t=some (.int .i64))(hx:ev ρ x=.int k' a)(h1: -9223372036854775808<=a)(h2:a<=9223372036854775807):(execOp (ev ρ) ⟨d,.convert s t x,ty,pos,af,g⟩).run P w=.ok (.value (.int .i64 a)) w:=by
 rw[tm hs ht hx,yj h1 h2]
def Ke{x:Operand}{i:Nat}{vs:List Value}{v:Value}(hx:ev ρ x=.tuple vs.toArray)(hv:vs[i]?=some v):(execOp (ev ρ) ⟨d,.extract x i,ty,pos,af,g⟩).run P w=.ok (.value v) w:=by
 simp[execOp,hx,Instr.extract,hv]
def Dz(ρ:Rf):List Operand->List Value
 |[]=>[]
 |x::l=>ev ρ x::Dz ρ l
def rq{ρ:Rf}(args:Array Operand){vs:List Value}(h:Dz ρ args.toList=vs):args.map (ev ρ)=vs.toArray:=by
 have h1:∀l:List Operand,l.map (ev ρ)=Dz ρ l:=by
  intro l
  induction l with
  |nil=>rfl
  |cons a l ih=>simp only[q_,ih];rfl
 subst h;rw[<-h1];apply L6;simp
def YJ{fn:Fn}{first captured:Array Operand}{fs cs:List Value}(hf:Dz ρ first.toList=fs)(hc:Dz ρ captured.toList=cs):(execOp (ev ρ) ⟨d,.makeFunc fn first captured,ty,pos,af,g⟩).run P w=.ok (.value (.func fn fs.toArray cs.toArray)) w:=by
 simp[execOp,rq _ hf,rq _ hc,Instr.makeFunc]
def ej{i:Nat}{k:IntKind}{n:Int}(h:ρ i=.int k n):ρ i=.int k n:=h
def Ck{i:Nat}{b:Bool}(h:ρ i=.bool b):ρ i=.bool b:=h
def jB{i:Nat}{s:ByteArray}(h:ρ i=.string s):ρ i=.string s:=h
def BO{i:Nat}{A:Option Addr}{n c:Nat}(h:ρ i=.slice A n c):ρ i=.slice A n c:=h
def Bc{x:Operand}{k:IntKind}{n:Int}(h:ev ρ x=.int k n):ev ρ x=.int k n:=h
def Fo{x:Operand}{b:Bool}(h:ev ρ x=.bool b):ev ρ x=.bool b:=h
def HC{x:Operand}{s:ByteArray}(h:ev ρ x=.string s):ev ρ x=.string s:=h
def rp{x:Operand}{A:Option Addr}{n c:Nat}(h:ev ρ x=.slice A n c):ev ρ x=.slice A n c:=h
def TH{x:Operand}{a:Addr}(h:ev ρ x=.pointer (some a)):ev ρ x=.pointer (some a):=h
def PM{x:Operand}(h:ev ρ x=.pointer none):ev ρ x=.pointer none:=h
def Ld{x:Operand}{l:List Value}(h:ev ρ x=.agg l.toArray):ev ρ x=.agg l.toArray:=h
def QQ{x:Operand}{l:List Value}(h:ev ρ x=.tuple l.toArray):ev ρ x=.tuple l.toArray:=h
def Sn{x:Operand}{f:Fn}{a b:List Value}(h:ev ρ x=.func f a.toArray b.toArray):ev ρ x=.func f a.toArray b.toArray:=h
def rv{x:Operand}(h:ev ρ x=.nilFunc):ev ρ x=.nilFunc:=h
def BN{x:Operand}{t:TypeId}{s:ByteArray}(ht:P.underlying t=some .string)(hx:ev ρ x=.string s):(execOp (ev ρ) ⟨d,.call ⟨.builtin .len, #[x], #[t]⟩,ty,pos,af,g⟩).run P w=.ok (.value (.int .i64 s.size)) w:=by
 simp[execOp,resolve,invoke,builtin,Builtin.len_,hx,run_underlying ht,goInt]
def iG{x:Operand}{t e:TypeId}{A:Option Addr}{n c:Nat}(ht:P.underlying t=some (.slice e))(hx:ev ρ x=.slice A n c):(execOp (ev ρ) ⟨d,.call ⟨.builtin .len, #[x], #[t]⟩,ty,pos,af,g⟩).run P w=.ok (.value (.int .i64 n)) w:=by
 simp[execOp,resolve,invoke,builtin,Builtin.len_,hx,run_underlying ht,goInt]
def adg{x y:Operand}{ts:Array TypeId}{k:IntKind}{a b:Int}(hx:ev ρ x=.int k a)(hy:ev ρ y=.int k b):(execOp (ev ρ) ⟨d,.call ⟨.builtin .min, #[x,y],ts⟩,ty,pos,af,g⟩).run P w=.ok (.value (.int k (if b<a then b else a))) w:=by
 simp[execOp,resolve,invoke,builtin,Builtin.min_,Builtin.min2,hx,hy,List.foldlM]
def adX{x y:Operand}{ts:Array TypeId}{k:IntKind}{a b:Int}(hx:ev ρ x=.int k a)(hy:ev ρ y=.int k b):(execOp (ev ρ) ⟨d,.call ⟨.builtin .max, #[x,y],ts⟩,ty,pos,af,g⟩).run P w=.ok (.value (.int k (if b>a then b else a))) w:=by
 simp[execOp,resolve,invoke,builtin,Builtin.max_,Builtin.max2,hx,hy,List.foldlM]
def Lu{t:TypeId}{x i:Operand}{s:ByteArray}{n:Int}{k:IntKind}{c:UInt8}(ht:P.underlying t=some .string)(hx:ev ρ x=.string s)(hi:ev ρ i=.int k n) (h0:0<=n)(hc:s.data.toList[n.toNat]?=some c):(execOp (ev ρ) ⟨d,.index t x i,ty,pos,af,g⟩).run P w=.ok (.value (.int .u8 c.toNat)) w:=by
 have hs:s[n.toNat]?=some c:=by
  rw[<-hc];obtain⟨h1,h2⟩:=X_.1 hc;have h3:n.toNat<s.size:=by simpa using h1
  rw[getElem?_pos s n.toNat h3,getElem?_pos s.data.toList n.toNat h1];rfl
 simp[execOp,hx,hi,Instr.index,asIntOf,run_underlying ht,h0,hs]
def tG{t:TypeId}{x:Operand}{lo hi:Option Operand}{s:ByteArray}{l h:Nat}(ht:P.underlying t=some .string)(hx:ev ρ x=.string s) (hlo:match lo with|none=>l=0|some o=>∃(k:IntKind)(n:Int),ev ρ o=.int k n/\n=l)(hhi:match hi with|none=>h=s.size|some o=>∃(k:IntKind)(n:Int),ev ρ o=.int k n/\n=h) (h1:l<=h)(h2:h<=s.size):(execOp (ev ρ) ⟨d,.slice t x lo hi none,ty,pos,af,g⟩).run P w=.ok (.value (.string (s.extract l h))) w:=by
 have e1:(l:Int)<=h:=Z';have e2:(h:Int)<=s.size:=Z'
 cases lo<;>cases hi<;>simp only[] at hlo hhi
 .subst hlo;subst hhi;simp[execOp,hx,Instr.sliceAt,Instr.slice,run_underlying ht,Instr.sliceBounds]
 .obtain⟨k2,n2,hv2,rfl⟩:=hhi;subst hlo;simp[execOp,hx,Instr.sliceAt,Instr.slice,run_underlying ht,Instr.sliceBounds,Instr.sliceBound,asIntOf,hv2,h2]
 .obtain⟨k2,n2,hv2,rfl⟩:=hlo;subst hhi;simp[execOp,hx,Instr.sliceAt,Instr.slice,run_underlying ht,Instr.sliceBounds,Instr.sliceBound,asIntOf,hv2,h1]
 obtain⟨k2,n2,hv2,rfl⟩:=hhi;obtain⟨k3,n3,hv3,rfl⟩:=hlo;simp[execOp,hx,Instr.sliceAt,Instr.slice,run_underlying ht,Instr.sliceBounds,Instr.sliceBound,asIntOf,hv2,hv3,h1,h2]
def Ef{t e:TypeId}{x:Operand}{lo hi:Option Operand}{A:Option Addr}{n c l h sz:Nat}(ht:P.underlying t=some (.slice e))(hsz:(P.info? e).map (·.size)=some sz)(hx:ev ρ x=.slice A n c) (hlo:match lo with|none=>l=0|some o=>∃(k:IntKind)(n:Int),ev ρ o=.int k n/\n=l)(hhi:match hi with|none=>h=n|some o=>∃(k:IntKind)(n:Int),ev ρ o=.int k n/\n=h) (h1:l<=h)(h2:h<=c):(execOp (ev ρ) ⟨d,.slice t x lo hi none,ty,pos,af,g⟩).run P w=.ok (.value (.slice (if c=l then A else A.map (·.add (l*sz))) (h-l) (c-l))) w:=by
 obtain⟨i,hi1,hi2⟩:=T8.1 hsz;have e1:(l:Int)<=h:=Z';have e2:(h:Int)<=c:=Z'
 cases lo<;>cases hi<;>simp only[] at hlo hhi
 .subst hlo;subst hhi;simp[execOp,hx,Instr.sliceAt,Instr.slice,run_underlying ht,Instr.sliceBounds,sizeOf,typeInfo,hi1]
 .obtain⟨k2,n2,hv2,rfl⟩:=hhi;subst hlo;simp[execOp,hx,Instr.sliceAt,Instr.slice,run_underlying ht,Instr.sliceBounds,Instr.sliceBound,asIntOf,hv2,h2,sizeOf,typeInfo,hi1]
 .obtain⟨k2,n2,hv2,rfl⟩:=hlo;subst hhi;simp[execOp,hx,Instr.sliceAt,Instr.slice,run_underlying ht,Instr.sliceBounds,Instr.sliceBound,asIntOf,hv2,h1,sizeOf,typeInfo,hi1,hi2]
 obtain⟨k2,n2,hv2,rfl⟩:=hhi;obtain⟨k3,n3,hv3,rfl⟩:=hlo;simp[execOp,hx,Instr.sliceAt,Instr.slice,run_underlying ht,Instr.sliceBounds,Instr.sliceBound,asIntOf,hv2,hv3,h1,h2,sizeOf,typeInfo,hi1,hi2]
def Se{t e:TypeId}{x i:Operand}{ad:Addr}{n c sz:Nat}{k:IntKind}{m:Int}(ht:P.underlying t=some (.slice e))(hsz:(P.info? e).map (·.size)=some sz)(hx:ev ρ x=.slice (some ad) n c)(hi:ev ρ i=.int k m) (h0:0<=m)(h1:m<n):(execOp (ev ρ) ⟨d,.indexAddr t x i,ty,pos,af,g⟩).run P w=.ok (.value (.pointer (some (ad.add (m.toNat*sz))))) w:=by
 obtain⟨i,hi1,hi2⟩:=T8.1 hsz;simp[execOp,hx,hi,Instr.indexAt,asIntOf,run_underlying ht,sizeOf,typeInfo,hi1,hi2,h0,h1]
def Np{t e:TypeId}{x i:Operand}{b n c sz k:Nat}{kk:IntKind}{m:Int}(ht:P.underlying t=some (.slice e))(hsz:(P.info? e).map (·.size)=some sz)(hx:ev ρ x=.slice (some ⟨b,0,none⟩) n c)(hi:ev ρ i=.int kk m) (hm:m=(k:Int))(h1:k<n):(execOp (ev ρ) ⟨d,.indexAddr t x i,ty,pos,af,g⟩).run P w=.ok (.value (.pointer (some ⟨b,k*sz,none⟩))) w:=by
 have h:=Se (P:=P) (w:=w) (d:=d) (ty:=ty) (pos:=pos) (af:=af) (g:=g) ht hsz hx hi Z' Z';rw[h,hm];have:(⟨b,0,none⟩:Addr).add (((k:Int)).toNat*sz)=⟨b,k*sz,none⟩:=by
  unfold Addr.add;split
  .rename_i h0;rw[p8] at h0;rw[h0]
  rw[p8];simp
 rw[this]
def XV{x:Operand}{args:Array Operand}{ts:Array TypeId}{f:FuncId}{fn:Func}{first cap:Array Value}{vs:Array Value}(hf:P.funcs[f]?=some fn)(hb:fn.body.isNone=false)(hn:(fn.name== "runtime.NumGoroutine")=false) (hx:ev ρ x=.func (.func f) first cap)(ha:args.map (ev ρ)=vs):(execOp (ev ρ) ⟨d,.call ⟨.value x,args,ts⟩,ty,pos,af,g⟩).run P w=.ok (.enter f (first++vs++cap)) w:=by
 have h1:¬fn.name= "runtime.NumGoroutine" :=by simpa using hn
 have h2:¬fn.body=none:=by intro h;simp[h] at hb
 simp[execOp,resolve,Deferred.ofValue,hx,ha,invoke,callFunc,program,Sem.run,hf,h1,h2]
def Dd(P:Program)(t:TypeId):Option (Nat×Bool×Nat×List Value):=
 match P.info? t,P.underlying t with
 |some i,some d=>i.zero.map λz=>(i.size,(match d with|.struct _|.array _ _=>true|_=>false),i.bytes,z.cells.toList)
 |_,_=>none
def bf{P:Program}{t:TypeId}{n by':Nat}{ag:Bool}{zc:List Value}(h:Dd P t=some (n,ag,by',zc)):
  ∃i z d,P.info? t=some i/\P.underlying t=some d/\i.zero=some z/\i.size=n/\i.bytes=by'/\z.cells=zc.toArray/\(match d with|.struct _|.array _ _=>true|_=>false)=ag:=by
 unfold Dd at h;split at h
 .rename_i i d hi hd;obtain⟨z,hz,he⟩:=T8.1 h;simp only[Prod.mk.injEq] at he;exact⟨i,z,d,hi,hd,hz,he.1,he.2.2.1,by rw[<-he.2.2.2],he.2.1⟩
 cases h
variable {n by':Nat}{ag:Bool}{zc:List Value}
def zf(h:Dd P t=some (n,ag,by',zc)):(sizeOf t).run P w=.ok n w:=by
 obtain⟨i,z,d,hi,hd,hz,hs,_⟩:=bf h;simp[sizeOf,typeInfo,hi,hs]
def zh(h:Dd P t=some (n,ag,by',zc)):(isAgg t).run P w=.ok ag w:=by
 obtain⟨i,z,d,hi,hd,hz,hs,_,_,ha⟩:=bf h;simp only[isAgg,Sem.run_bind,run_underlying hd,Result.andThen_ok];subst ha
 cases d<;>rfl
def ee(h:Dd P t=some (n,ag,by',zc)):∃z,(zeroValue t).run P w=.ok z w/\z.cells=zc.toArray:=by
 obtain⟨i,z,d,hi,hd,hz,hs,_,hc,_⟩:=bf h;exact⟨z,by simp[zeroValue,typeInfo,hi,hz],hc⟩
def Rd(w:World)(ad:Addr)(vs:List Value):Prop:=∀j u,vs[j]?=some u->w.cell? (ad.add j)=some u
def Sl(w:World)(A:Option Addr)(n k:Nat)(xs:List Value):Prop:=xs.length=n*k/\(0<n->∃ad,A=some ad/\Rd w ad xs)
def qe(b o n:Nat):(⟨b,o,none⟩:Addr).add n=⟨b,o+n,none⟩:=by
 unfold Addr.add;split
 .rename_i h;subst h;rfl
 rfl
def Xq(a:Addr)(i j:Nat):(a.add i).add j=a.add (i+j):=by
 unfold Addr.add;by_cases hi:i=0<;>by_cases hj:j=0<;>simp[hi,hj,R6]
def vv{w:World}{a:Addr}{v:Value}(h:w.cell? a=some v):a.block<w.heap.size:=block_lt_of_cell h
def ic{w w':World}(h:Below w.heap.size w w'){a:Addr}{v:Value}(hc:w.cell? a=some v):w'.cell? a=some v:=(h.cell (vv hc)).trans hc
def Rd.ext{w w':World}{ad:Addr}{vs:List Value}(h:Rd w ad vs)(hb:Below w.heap.size w w'):Rd w' ad vs:=λj u hu=>ic hb (h j u hu)
def Sl.ext{w w':World}{A:Option Addr}{n k:Nat}{xs:List Value}(h:Sl w A n k xs)(hb:Below w.heap.size w w'):Sl w' A n k xs:=
 ⟨h.1,λhn=>let⟨ad,ha,hr⟩:=h.2 hn;⟨ad,ha,hr.ext hb⟩⟩
def Rd.drop{w:World}{ad:Addr}{vs:List Value}(h:Rd w ad vs)(i:Nat):Rd w (ad.add i) (vs.drop i):=λj u hu=>by
 rw[Xq];exact h _ u (by rw[<-hu,H8])
def Rd.take{w:World}{ad:Addr}{vs:List Value}(h:Rd w ad vs)(n:Nat):Rd w ad (vs.take n):=λj u hu=>by
 rw[Z7] at hu;split at hu
 .exact h _ u hu
 cases hu
def Rd.cell{w:World}{ad:Addr}{vs:List Value}(h:Rd w ad vs){i:Nat}{v:Value}(hv:vs[i]?=some v):w.cell? (ad.add i)=some v:=h i v hv
def Sl.nil(w:World)(A:Option Addr)(k:Nat):Sl w A 0 k []:=⟨by simp,λh=>absurd h Z'⟩
def Sl.at_{w:World}{A:Option Addr}{n k:Nat}{xs:List Value}(h:Sl w A n k xs)(hn:0<n):∃ad,A=some ad/\Rd w ad xs:=h.2 hn
def Rd.elem{w:World}{ad:Addr}{xs:List Value}(h:Rd w ad xs)(i k:Nat):Rd w (ad.add (i*k)) ((xs.drop (i*k)).take k):=(h.drop _).take _
def Sl.cut{w:World}{A:Option Addr}{n k c l m:Nat}{xs:List Value}(h:Sl w A n k xs)(hl:l<=m)(hm:m<=n)(hc:n<=c):
  Sl w (if c=l then A else A.map (·.add (l*k))) (m-l) k ((xs.drop (l*k)).take ((m-l)*k)):=by
 have hle:l*k+(m-l)*k<=n*k:=(by rw[<-T7];exact N9 _ Z');refine⟨by rw[R_,M9,h.1];omega,λhn=> ?_⟩;obtain⟨ad,rfl,hr⟩:=h.2 Z';rw[L' Z'];exact⟨_,rfl,(hr.drop _).take _⟩
inductive HE where
 |blk (b:Nat)(t:TypeId)(cs:List Value)(fz:Nat×Nat)
 |row (A:Option Addr)(n c:Nat)(t:TypeId)(sz:Nat)(xs:List Value)
 |ob (b:Nat)(o:Obj)
abbrev HE.it(b:Nat)(s:ByteArray)(pos:Nat):HE:=.ob b (.stringIter s pos)
def HE.id:HE->Option Nat
 |.blk b _ _ _=>some b
 |.row A _ _ _ _ _=>A.map (·.block)
 |.ob b _=>some b
def HE.holds(base:Nat)(w:World):HE->Prop
 |.blk b t cs fz=>base<=b/\w.heap[b]?=some (.cells cs.toArray t fz)/\(cs.length<=fz.1\/fz.2<=fz.1)
 |.row A n c t sz xs=>w.ownsRow base t sz (.slice A n c) n xs
 |.ob b o=>base<=b/\w.heap[b]?=some o
structure Hp(w0:World)(H:List HE)(w:World):Prop where
 below:Below w0.heap.size w0 w
 own:∀x∈H,x.holds w0.heap.size w
 nd:(H.filterMap HE.id).Nodup
def Hp.start(w:World):Hp w [] w:=⟨Below.refl _ _,λ_ h=>(nomatch h),List.nodup_nil⟩
variable {w0:World}{H:List HE}
def Hp.size(h:Hp w0 H w):w0.heap.size<=w.heap.size:=h.below.size
def Lg{base:Nat}{x:HE}(h:x.holds base w){b:Nat}(hb:x.id=some b):base<=b/\b<w.heap.size:=by
 cases x with
 |blk b' t cs fz=>
  obtain rfl:b'=b:=by simpa[HE.id] using hb
  refine⟨h.1, ?_⟩;obtain hlt|hge:=Y9 b' w.heap.size
  .exact hlt
  have:=h.2.1;rw[y5 hge] at this;cases this
 |row A n c t sz xs=>
  cases A with
  |none=>simp[HE.id] at hb
  |some a=>exact World.ownsRow.lt h b (by simpa[HE.id,Value.ownBlock] using hb)
 |ob b' o=>
  obtain rfl:b'=b:=by simpa[HE.id] using hb
  refine⟨h.1, ?_⟩;obtain hlt|hge:=Y9 b' w.heap.size
  .exact hlt
  have:=h.2;rw[y5 hge] at this;cases this
variable {w':World}
def Tw{base:Nat}{x:HE}(h:x.holds base w)(hk:∀b,x.id=some b->w'.heap[b]?=w.heap[b]?):x.holds base w':=by
 cases x with
 |blk b t cs fz=>exact⟨h.1,(hk b rfl).trans h.2.1,h.2.2⟩
 |row A n c t sz xs=>
  obtain⟨h1,h2⟩:=h;refine⟨h1, ?_⟩;obtain h2|⟨g,cap,cur,hv,hg,hh,r⟩:=h2
  .exact .inl h2
  have hA:A=some ⟨g,0,none⟩:=by injection hv
  subst hA;exact .inr ⟨g,cap,cur,hv,hg,(hk g rfl).trans hh,r⟩
 |ob b o=>exact⟨h.1,(hk b rfl).trans h.2⟩
def Hp.ext(h:Hp w0 H w)(hb:Below w.heap.size w w'):Hp w0 H w':=
 ⟨h.below.trans (hb.mono h.size),λx hx=>Tw (h.own x hx) λ_ hi=>hb.block _ (Lg (h.own x hx) hi).2,h.nd⟩
def Hp.sub(h:Hp w0 H w){H':List HE}(hs:H'.Sublist H):Hp w0 H' w:=⟨h.below,λx hx=>h.own x (hs.subset hx),h.nd.sublist (hs.filterMap _)⟩
def Hp.at_(h:Hp w0 H w){i:Nat}{x:HE}(hi:H[i]?=some x):x.holds w0.heap.size w:=h.own x (G' hi)
def Hp.Aa(h:Hp w0 H w)(hb:Below w.heap.size w w'){x:HE}(hx:x.holds w.heap.size w'):Hp w0 (x::H) w':=by
 have h':=h.ext hb;refine⟨h'.below, ?_, ?_⟩
 .intro y hy;obtain rfl|hy:=S_.1 hy
  .cases y with
   |blk b t cs fz=>exact⟨N_ h.size hx.1,hx.2⟩
   |row A n c t sz xs=>
    obtain⟨h1,h2⟩:=hx;exact⟨h1,h2.imp id λ⟨g,cap,cur,hv,hg,r⟩=>⟨g,cap,cur,hv,N_ h.size hg,r⟩⟩
   |ob b o=>exact⟨N_ h.size hx.1,hx.2⟩
  exact h'.own y hy
 rw[o7];split
 .exact h'.nd
 rename_i b hb';refine I7.2 ⟨λhm=> ?_,h'.nd⟩;obtain⟨y,hy,hyb⟩:=z8.1 hm;have h1:=(Lg hx hb').1;have h2:=(Lg (h.own y hy) hyb).2;omega
def Hp.UW(h:Hp w0 H w){i:Nat}{x y:HE}(hi:H[i]?=some x)(hid:∀b,y.id=some b->x.id=some b\/w.heap.size<=b) (hb:Below w0.heap.size w0 w')(hk:∀b,b<w.heap.size->x.id≠some b->w'.heap[b]?=w.heap[b]?)(hy:y.holds w0.heap.size w'):Hp w0 (H.set i y) w':=by
 obtain⟨hlt,hx⟩:=X_.1 hi;have hsplit:H=H.take i++x::H.drop (i+1):=(by rw[<-hx,<-m8 hlt,P9]);have hset:H.set i y=H.take i++y::H.drop (i+1):=by rw[X5,J' hlt]
 have hnd:=h.nd;rw[hsplit,N5] at hnd;have hother:∀z,z∈H.take i\/z∈H.drop (i+1)->z∈H/\(∀b,z.id=some b->x.id≠some b):=by
  intro z hz;refine⟨hz.elim N8 l6,λb hzb hxb=> ?_⟩;rw[o7,hxb] at hnd;simp only[] at hnd;rw[List.nodup_append] at hnd;obtain hz|hz:=hz
  .exact hnd.2.2 b (z8.2 ⟨z,hz,hzb⟩) b (q') rfl
  exact(I7.1 hnd.2.1).1 (z8.2 ⟨z,hz,hzb⟩)
 have hold:∀z,z∈H.take i\/z∈H.drop (i+1)->z.holds w0.heap.size w':=λz hz=>(by obtain⟨hm,hne⟩:=hother z hz;exact Tw (h.own z hm) λb hzb=>hk b (Lg (h.own z hm) hzb).2 (hne b hzb));rw[hset];refine⟨hb, ?_, ?_⟩
 .intro z hz;obtain hz|hz:=z_.1 hz
  .exact hold z (.inl hz)
  obtain rfl|hz:=S_.1 hz
  .exact hy
  exact hold z (.inr hz)
 rw[N5];have hsub:((H.take i).filterMap HE.id++(H.drop (i+1)).filterMap HE.id).Nodup:=(by refine hnd.sublist (List.Sublist.append (A_ _) ?_);exact List.Sublist.filterMap _ (s_ _ _));rw[o7];split
 .exact hsub
 rename_i b hyb;have hfresh:∀z,z∈H.take i\/z∈H.drop (i+1)->z.id≠some b:=λz hz hzb=>by
  obtain⟨hm,hne⟩:=hother z hz;obtain h1|h1:=hid b hyb
  .exact hne b hzb h1
  have:=(Lg (h.own z hm) hzb).2;omega
 rw[List.nodup_append] at hsub |-;refine⟨hsub.1,I7.2 ⟨λhm=> ?_,hsub.2.1⟩,λu hu v hv=> ?_⟩
 .obtain⟨z,hz,hzb⟩:=z8.1 hm;exact hfresh z (.inr hz) hzb
 obtain rfl|hv:=S_.1 hv
 .rintro rfl;obtain⟨z,hz,hzb⟩:=z8.1 hu;exact hfresh z (.inl hz) hzb
 exact hsub.2.2 u hu v hv
def Hp.jK(h:Hp w0 H w){i b:Nat}{t:TypeId}{cs:List Value}{fz:Nat×Nat}(hi:H[i]?=some (.blk b t cs fz)):Rd w ⟨b,0,none⟩ cs:=λj u hu=>by
 have h1:=(h.at_ hi).2.1;rw[qe,C_,cell_of_row w b j _ t fz h1];simpa using hu
def Hp.eg(h:Hp w0 H w){i b o:Nat}{t:TypeId}{cs:List Value}{fz:Nat×Nat}{v:Value}(hi:H[i]?=some (.blk b t cs fz))(hv:cs[o]?=some v):w.cell? ⟨b,o,none⟩=some v:=by
 have:=h.jK hi o v hv;rwa[qe,C_] at this
def Hp.pb(h:Hp w0 H w){i b o n:Nat}{t:TypeId}{cs vs:List Value}{fz:Nat×Nat}(hi:H[i]?=some (.blk b t cs fz))(hv:(cs.drop o).take n=vs):Rd w ⟨b,o,none⟩ vs:=by
 have:=((h.jK hi).drop o).take n;rwa[qe,C_,hv] at this
def jf{base:Nat}{t:TypeId}{A:Option Addr}{n c sz:Nat}{xs:List Value}(h:w.ownsRow base t sz (.slice A n c) n xs):Sl w A n sz xs:=by
 refine⟨h.1,λhn=> ?_⟩;obtain⟨g,cap,hv,_,hlt⟩:=h.form hn;have hA:A=some ⟨g,0,none⟩:=by injection hv
 subst hA;exact⟨_,rfl,h.cells (g:=g) rfl⟩
def Hp.Ob(h:Hp w0 H w){i n c sz:Nat}{A:Option Addr}{t:TypeId}{xs:List Value}(hi:H[i]?=some (.row A n c t sz xs))(hn:0<n):∃g,A=some ⟨g,0,none⟩:=by
 obtain⟨g,cap,hv,_⟩:=World.ownsRow.form (h.at_ hi) hn;injection hv with hA
 exact⟨g,hA⟩
def Hp.Zc(h:Hp w0 H w){i b n c sz o:Nat}{t:TypeId}{xs:List Value}{v:Value}(hi:H[i]?=some (.row (some ⟨b,0,none⟩) n c t sz xs))(hv:xs[o]?=some v):w.cell? ⟨b,o,none⟩=some v:=by
 have:=World.ownsRow.cells (h.at_ hi) (g:=b) rfl o v hv;rwa[qe,C_] at this
def Hp.vW(h:Hp w0 H w){i n c sz:Nat}{A:Option Addr}{t:TypeId}{xs:List Value}(hi:H[i]?=some (.row A n c t sz xs)):xs.length=n*sz:=(h.at_ hi).1
def Hp.ra(h:Hp w0 H w){i n c sz:Nat}{A:Option Addr}{t:TypeId}{xs:List Value}(hi:H[i]?=some (.row A n c t sz xs)):Sl w A n sz xs:=jf (h.at_ hi)
def Uv{t:TypeId}{x:Operand}{ad:Addr}{n by':Nat}{zc vs:List Value}(ht:Dd P t=some (n,true,by',zc))(hx:ev ρ x=.pointer (some ad))(hr:Rd w ad vs)(hl:vs.length=n):(execOp (ev ρ) ⟨d,.load t x,ty,pos,af,g⟩).run P w=.ok (.value (.agg vs.toArray)) w:=by
 subst hl;simp[execOp,hx,Instr.loadAt,Instr.sureAddr,loadVar,zh ht,zf ht,run_loadCells_list (P:=P) w ad vs hr]
def Tg{t:TypeId}{x:Operand}{ad:Addr}{n by':Nat}{zc:List Value}{v:Value}(ht:Dd P t=some (n,false,by',zc))(hx:ev ρ x=.pointer (some ad))(hc:w.cell? ad=some v):(execOp (ev ρ) ⟨d,.load t x,ty,pos,af,g⟩).run P w=.ok (.value v) w:=by
 simp[execOp,hx,Instr.loadAt,Instr.sureAddr,loadVar,zh ht,run_load,hc]
def pd{t:TypeId}{ad:Addr}{n by':Nat}{zc vs:List Value}(ht:Dd P t=some (n,true,by',zc))(hr:Rd w ad vs)(hl:vs.length=n):(loadVar t ad).run P w=.ok (.agg vs.toArray) w:=by
 subst hl;simp[loadVar,zh ht,zf ht,run_loadCells_list (P:=P) w ad vs hr]
def qf(P:Program)(s:TypeId)(i:Nat):Option (Nat×TypeId):=
 match P.underlying s with
 |some (.struct fs)=>match fs[i]? with
  |some f=>if P.cellsOf f.type=0 then none else some (f.offset,f.type)
  |none=>none
 |_=>none
def iu{s:TypeId}{x:Operand}{f b o off:Nat}{ft:TypeId}(hf:qf P s f=some (off,ft))(hx:ev ρ x=.pointer (some ⟨b,o,none⟩)):(execOp (ev ρ) ⟨d,.fieldAddr s x f,ty,pos,af,g⟩).run P w=.ok (.value (.pointer (some ⟨b,o+off,none⟩))) w:=by
 unfold qf at hf;split at hf
 .rename_i fs hs;split at hf
  .rename_i fd hfd;split at hf
   .cases hf
   rename_i hc;simp only[S8,Prod.mk.injEq] at hf;obtain⟨rfl,rfl⟩:=hf;have hsz:∃i,P.info? fd.type=some i/\i.size≠0:=(by exact aan);obtain⟨i,hi,hi0⟩:=hsz;simp[execOp,hx,Instr.fieldAt,run_underlying hs,hfd,Instr.sureAddr,fieldPlace,sizeOf,typeInfo,hi,hi0,qe]
  cases hf
 cases hf
def Fq{s:TypeId}{x:Operand}{f off:Nat}{ad:Addr}{ft:TypeId}(hf:qf P s f=some (off,ft))(hx:ev ρ x=.pointer (some ad)):(execOp (ev ρ) ⟨d,.fieldAddr s x f,ty,pos,af,g⟩).run P w=.ok (.value (.pointer (some (ad.add off)))) w:=by
 unfold qf at hf;split at hf
 .rename_i fs hs;split at hf
  .rename_i fd hfd;split at hf
   .cases hf
   rename_i hc;simp only[S8,Prod.mk.injEq] at hf;obtain⟨rfl,rfl⟩:=hf;have hsz:∃i,P.info? fd.type=some i/\i.size≠0:=(by exact aan);obtain⟨i,hi,hi0⟩:=hsz;simp[execOp,hx,Instr.fieldAt,run_underlying hs,hfd,Instr.sureAddr,fieldPlace,sizeOf,typeInfo,hi,hi0]
  cases hf
 cases hf
def mV{s:TypeId}{x:Operand}{f off n by':Nat}{ft:TypeId}{cs:Array Value}{v:Value}{zc:List Value}(hf:qf P s f=some (off,ft))(ht:Dd P ft=some (n,false,by',zc))(hx:ev ρ x=.agg cs)(hv:cs[off]?=some v):(execOp (ev ρ) ⟨d,.field s x f,ty,pos,af,g⟩).run P w=.ok (.value v) w:=by
 unfold qf at hf;split at hf
 .rename_i fs hs;split at hf
  .rename_i fd hfd;split at hf
   .cases hf
   simp only[S8,Prod.mk.injEq] at hf;obtain⟨rfl,rfl⟩:=hf;simp[execOp,hx,Instr.field,run_underlying hs,hfd,asAgg,part,zh ht,hv]
  cases hf
 cases hf
def kW{s:TypeId}{x:Operand}{f off n by':Nat}{ft:TypeId}{cs vs:Array Value}{zc:List Value}(hf:qf P s f=some (off,ft))(ht:Dd P ft=some (n,true,by',zc))(hx:ev ρ x=.agg cs)(hv:cs.extract off (off+n)=vs):(execOp (ev ρ) ⟨d,.field s x f,ty,pos,af,g⟩).run P w=.ok (.value (.agg vs)) w:=by
 unfold qf at hf;split at hf
 .rename_i fs hs;split at hf
  .rename_i fd hfd;split at hf
   .cases hf
   simp only[S8,Prod.mk.injEq] at hf;obtain⟨rfl,rfl⟩:=hf;simp[execOp,hx,Instr.field,run_underlying hs,hfd,asAgg,part,zh ht,zf ht,hv]
  cases hf
 cases hf
def Hb(cs:List Value)(o:Nat)(vs:List Value):List Value:=cs.take o++vs++cs.drop (o+vs.length)
def Ze{cs vs:List Value}{o:Nat}(h:o+vs.length<=cs.length):(Hb cs o vs).length=cs.length:=by
 simp only[Hb,Y_,R_,M9];omega
def Sv(cs:List Value)(o:Nat):Hb cs o []=cs:=by simp[Hb]
def zu{cs vs:List Value}{o:Nat}{v:Value}(h:o+(v::vs).length<=cs.length):Hb cs o (v::vs)=Hb (cs.set o v) (o+1) vs:=by
 simp only[E_] at h;have h0:cs.set o v=cs.take o++v::cs.drop (o+1):=by rw[X5,J' Z']
 have h2:(cs.take o).length=o:=by simp;omega
 have h1:(cs.set o v).take (o+1)=cs.take o++[v]:=(by rw[h0,List.take_append,h2,W_ Z'];simp);have h3:(cs.set o v).drop (o+1+vs.length)=cs.drop (o+1+vs.length):=List.drop_set_of_lt Z';unfold Hb;rw[h1,h3];simp[R6,o8 1]
def qz{a b c:World}{r:Option Nat}(h:a.grownBy b r)(k:b.grownBy c r):a.grownBy c r:=
 ⟨k.os.trans h.os,k.tape.trans h.tape,k.output.trans h.output,N_ h.size k.size,λi hi hne=>(k.block i (T9 hi h.size) hne).trans (h.block i hi hne)⟩
def gF(w:World)(b o:Nat)(v:Value):w.grownBy (w.setCell ⟨b,o,none⟩ v) (some b):=
 ⟨rfl,rfl,rfl,by simp[World.setCell],λk _ hne=>Below.heap_setCell w _ v k (λe=>hne (by rw[e]))⟩
def fh{b:Nat}{t:TypeId}{fz:Nat×Nat}(o:Nat):∀(vs:List Value)(i:Nat)(cs:List Value)(w:World),w.heap[b]?=some (.cells cs.toArray t fz)->(cs.length<=fz.1\/fz.2<=fz.1)->
  o+i+vs.length<=cs.length->(∀v∈vs,v.oneCell'=true)->
  ∃w',(storeCells ⟨b,o,none⟩ vs i).run P w=.ok () w'/\w'.heap[b]?=some (.cells (Hb cs (o+i) vs).toArray t fz)/\w.grownBy w' (some b)/\w'.heap.size=w.heap.size
 |[],i,cs,w,hw,_,_,_=>⟨w,by simp[storeCells],by rw[Sv];exact hw,World.grownBy.refl _ _,rfl⟩
 |v::vs,i,cs,w,hw,hf,hl,h1=>by
  simp only[E_] at hl;have hoi:o+i<cs.length:=Z';have hc:w.cell? ⟨b,o+i,none⟩=some cs[o+i]:=(by rw[cell_of_row w b (o+i) _ t fz hw];simp[D8 hoi]);have hfr:w.frozen? ⟨b,o+i,none⟩=false:=(by simp only[World.frozen?,hw];obtain hf|hf:=hf<;>simp<;>omega);have hw2:(w.setCell ⟨b,o+i,none⟩ v).heap[b]?=some (.cells (cs.set (o+i) v).toArray t fz):=(by simp[World.setCell,Array.getElem?_modify,hw]);obtain⟨w',hr,hb',hg,hs⟩:=fh (b:=b) (t:=t) (fz:=fz) o vs (i+1) (cs.set (o+i) v) _ hw2 (by simpa using hf) (by simp;omega) (λu hu=>h1 u (F' _ hu));refine⟨w', ?_, ?_,qz (gF w b (o+i) v) hg,hs.trans (by simp[World.setCell])⟩
  .simp only[storeCells,Sem.run_bind,qe,run_store P w ⟨b,o+i,none⟩ v .plain (h1 v (q')),hc,hfr];simpa using hr
  rw[zu (by simp;omega)];exact hb'
def Wk(pl:Nat->Option (Nat×Nat)):List Value->List (Nat×Value)->Option (List Value)
 |cs,[]=>some cs
 |cs,(i,v)::r=>
  match pl i with
  |none=>none
  |some (off,size)=>if v.cells.toList.length≠size\/cs.length<off+v.cells.toList.length then none else Wk pl (Hb cs off v.cells.toList) r
def Qq:∀(vs:List Value)(k o:Nat)(cs:List Value),o+k+vs.length<=cs.length->(vs.zipIdx k).foldl (λ(cs:Array Value) (x:Value×Nat)=>cs.setIfInBounds (o+x.2) x.1) cs.toArray=(Hb cs (o+k) vs).toArray
 |[],k,o,cs,_=>by simp[Sv]
 |v::vs,k,o,cs,h=>(by rw[List.zipIdx_cons,F7];simp only[List.setIfInBounds_toArray];rw[Qq vs (k+1) o (cs.set (o+k) v) (by simp at h |-;omega),zu (by simp at h |-;omega)];rfl)
def CC{pl:Nat->Option (Nat×Nat)}:∀(ps:List (Nat×Value))(zs cs:List Value),Wk pl zs ps=some cs->Instr.fill pl zs.toArray ps=some cs.toArray
 |[],zs,cs,h=>by simp only[Wk,S8] at h;subst h;rfl
 |(i,v)::r,zs,cs,h=>by
  unfold Wk at h;unfold Instr.fill;split at h
  .cases h
  rename_i off size hpl;split at h
  .cases h
  rename_i hc;simp only[ne_eq,not_or,Decidable.not_not,Nat.not_lt] at hc;simp only[hpl];have h1:¬((v.cells.size≠size||decide (off+v.cells.size>zs.toArray.size))=true):=by
   have e:v.cells.size=v.cells.toList.length:=by simp
   simp only[e,hc.1,S6,C7,K_,ne_eq,not_true,decide_false,Q5,false_or];omega
  rw[L' h1];have h2:v.cells.zipIdx.foldl (λ(cs:Array Value) (x:Value×Nat)=>cs.setIfInBounds (off+x.2) x.1) zs.toArray=(Hb zs off v.cells.toList).toArray:=(by have:=Qq v.cells.toList 0 off zs Z';rw[q9] at this;rw[<-this,<-Array.foldl_toList,Array.toList_zipIdx]);exact(J_ (λx=>Instr.fill pl x r) h2).trans (CC r _ cs h)
def Qg:Nat->List Value->List Value
 |0,_=>[]
 |n+1,zc=>zc++Qg n zc
def Zi(n:Nat)(zc:List Value):(Qg n zc).length=n*zc.length:=by
 induction n with
 |zero=>simp[Qg]
 |succ n ih=>simp[Qg,ih,T7,o8]
def QB:∀(n:Nat)(zc:List Value)(i:Nat),i<n*zc.length->(Qg n zc)[i]?=zc[i % zc.length]?
 |0,zc,i,h=>by simp at h
 |n+1,zc,i,h=>by
  unfold Qg;obtain hi|hi:=Y9 i zc.length
  .rw[X8 hi,h_ hi]
  rw[I9 hi,QB n zc (i-zc.length) (by rw[T7] at h;omega)];congr 1;rw[Nat.mod_eq_sub_mod hi]
def jx(n:Nat)(zc:List Value):(Array.range (n*zc.length)).map (λi=>zc.toArray[i % zc.length]!)=(Qg n zc).toArray:=by
 apply Array.ext_getElem?;intro i;obtain h|h:=Y9 i (n*zc.length)
 .have hpos:0<zc.length:=by
   obtain h0|h0:=x8 zc.length
   .rw[h0] at h;omega
   exact h0
  have hm:i % zc.length<zc.length:=B_ _ hpos;simp[h,QB n zc i h,D8 hm]
 have h2:(Qg n zc).length<=i:=by rw[Zi];exact h
 simp[h2,h]
def vD(ρ:Rf):List (Nat×Operand)->List (Nat×Value)
 |[]=>[]
 |(i,x)::l=>(i,ev ρ x)::vD ρ l
def MK{ρ:Rf}(parts:Array (Nat×Operand)){ps:List (Nat×Value)}(h:vD ρ parts.toList=ps):(parts.map λ(i,x)=>(i,ev ρ x))=ps.toArray:=by
 have h1:∀l:List (Nat×Operand),l.map (λ(i,x)=>(i,ev ρ x))=vD ρ l:=by
  intro l
  induction l with
  |nil=>rfl
  |cons a l ih=>simp only[q_,ih];rfl
 subst h;rw[<-h1];apply L6;simp
def Jw{w':World}{r:Option Nat}(h:Below w0.heap.size w0 w)(hg:w.grownBy w' r)(hr:∀k,r=some k->w0.heap.size<=k):Below w0.heap.size w0 w':=h.grown hg h.size hr
def Hp.grown{w':World}{x y:HE}{i:Nat}(h:Hp w0 H w)(hi:H[i]?=some x)(hg:w.grownBy w' x.id)(hid:y.id=x.id\/y.id=none\/y.id=some w.heap.size)(hy:y.holds w0.heap.size w'):Hp w0 (H.set i y) w':=by
 refine h.UW hi (λb hb=> ?_) (Jw h.below hg λk hk=>(Lg (h.at_ hi) hk).1) (λb hlt hne=>hg.block b hlt (λe=>hne e.symm)) hy;obtain e|e|e:=hid
 .exact .inl (by rw[<-e];exact hb)
 .rw[e] at hb;cases hb
 rw[e] at hb;injection hb with hb
 exact .inr Z'
def Hp.Lb(h:Hp w0 H w)(t:TypeId)(sz:Nat):Hp w0 (.row none 0 0 t sz []::H) w:=
 ⟨h.below,λx hx=>by
  obtain rfl|hx:=S_.1 hx
  .exact World.ownsRow_nil _ _ _ _
  exact h.own x hx,by show(List.filterMap HE.id H).Nodup;exact h.nd⟩
def Hp.qL(h:Hp w0 H w)(t:TypeId)(cs:List Value):Hp w0 (.blk w.heap.size t cs (0,0)::H) (w.alloc (.cells cs.toArray t)):=
 h.Aa ((Below.refl _ _).alloc (j' _) _) ⟨j' _,heap_alloc_new w _,.inr (j' _)⟩
def Hp.tD(h:Hp w0 H w)(t:TypeId)(sz n:Nat)(cs:List Value)(hl:cs.length=n*sz)(hn:n<=maxLen):Hp w0 (.row (some ⟨w.heap.size,0,none⟩) n n t sz cs::H) (w.alloc (.cells cs.toArray t)):=
 h.Aa ((Below.refl _ _).alloc (j' _) _) ⟨hl,.inr ⟨w.heap.size,n,cs.toArray,rfl,j' _,heap_alloc_new w _,j' _,hn,by simpa using hl,by simp only[W_ (show cs.length<=n*sz by omega)]⟩⟩
variable {d:Nat}
def bW(hh:Hp w0 H w){t:TypeId}{x:Operand}{cs:List Value}{v:Value}(hx:ev ρ x=v)(hc:v.cells=cs.toArray)(hN:d<N) (k:∀b w',Hp w0 (.blk b t cs (0,0)::H) w'->WL ro P N ops Q rest (sc ρ d (.pointer (some ⟨b,0,none⟩))) w'):WL ro P N ops Q (⟨some d,.box t x,ty,pos,af,none⟩::rest) ρ w:=
 Ia rfl rfl hN (w':=w.alloc (.cells cs.toArray t)) (v:=.pointer (some ⟨w.heap.size,0,none⟩)) (by simp[execOp,hx,Instr.box,newVar,newRow,hc]) (k _ _ (hh.qL t cs))
def dT(hh:Hp w0 H w){t:TypeId}{n by':Nat}{ag:Bool}{zc:List Value}(ht:Dd P t=some (n,ag,by',zc))(hN:d<N) (k:∀b w',Hp w0 (.blk b t zc (0,0)::H) w'->WL ro P N ops Q rest (sc ρ d (.pointer (some ⟨b,0,none⟩))) w'):WL ro P N ops Q (⟨some d,.alloc t,ty,pos,af,none⟩::rest) ρ w:=by
 obtain⟨z,hz,hzc⟩:=ee (w:=w) ht;exact Ia rfl rfl hN (w':=w.alloc (.cells zc.toArray t)) (v:=.pointer (some ⟨w.heap.size,0,none⟩)) (by simp[execOp,Instr.alloc,newVar,newRow,hz,hzc]) (k _ _ (hh.qL t zc))
def Yx(hh:Hp w0 H w){t t':TypeId}{x y:Operand}{i b o n by':Nat}{ag:Bool}{zc cs vs:List Value}{fz:Nat×Nat}{v:Value}(hx:ev ρ x=.pointer (some ⟨b,o,none⟩))(hi:H[i]?=some (.blk b t' cs fz)) (hy:ev ρ y=v)(hc:v.cells=vs.toArray)(ht:Dd P t=some (n,ag,by',zc))(hl:vs.length=n)(ho:o+n<=cs.length)(h1:(vs.all Value.oneCell')=true) (k:∀w',Hp w0 (H.set i (.blk b t' (Hb cs o vs) fz)) w'->WL ro P N ops Q rest ρ w'):WL ro P N ops Q (⟨none,.store t x y,ty,pos,af,none⟩::rest) ρ w:=by
 have hb:=hh.at_ hi;obtain⟨w',hr,hb',hg,hs⟩:=fh (P:=P) (b:=b) (t:=t') (fz:=fz) o vs 0 cs w hb.2.1 hb.2.2 Z' (by simpa using h1);refine gL rfl rfl (w':=w') ?_ (k w' (hh.grown hi hg (.inl rfl) ⟨hb.1,by simpa using hb',by rw[Ze Z'];exact hb.2.2⟩));simp[execOp,hx,hy,Instr.storeAt,Instr.sureAddr,storeVar,zf ht,hl,hc,hr]
def Ab(hh:Hp w0 H w){t t':TypeId}{x y:Operand}{i b o n m c sz by':Nat}{ag:Bool}{zc xs vs:List Value}{v:Value}(hx:ev ρ x=.pointer (some ⟨b,o,none⟩))(hi:H[i]?=some (.row (some ⟨b,0,none⟩) m c t' sz xs)) (hy:ev ρ y=v)(hc:v.cells=vs.toArray)(ht:Dd P t=some (n,ag,by',zc))(hl:vs.length=n)(ho:o+n<=xs.length)(h1:(vs.all Value.oneCell')=true) (k:∀w',Hp w0 (H.set i (.row (some ⟨b,0,none⟩) m c t' sz (Hb xs o vs))) w'->WL ro P N ops Q rest ρ w'):WL ro P N ops Q (⟨none,.store t x y,ty,pos,af,none⟩::rest) ρ w:=by
 have hrow:=hh.at_ hi;obtain⟨hlen,h2⟩:=hrow;obtain⟨h2,_⟩|⟨g,cap,cur,hv,hg,hheap,hmc,hcm,hcur,htake⟩:=h2
 .injection h2 with h2;cases h2
 injection hv with hA hn hcap
 injection hA with hA
 injection hA with hA
 subst hA;subst hcap;have hcl:cur.size=cur.toList.length:=by simp
 have hle:m*sz<=c*sz:=N9 _ hmc;obtain⟨w',hr,hb',hgr,hs⟩:=fh (P:=P) (b:=b) (t:=t') (fz:=(0,0)) o vs 0 cur.toList w (by simpa using hheap) (.inr (j' _)) (by rw[<-hcl];omega) (by simpa using h1);refine gL rfl rfl (w':=w') ?_ (k w' (hh.grown hi hgr (.inl rfl) ⟨by rw[Ze Z'];exact hlen,.inr ⟨b,c,(Hb cur.toList o vs).toArray,rfl,hg,by simpa using hb',hmc,hcm, ?_, ?_⟩⟩))
 .simp[execOp,hx,hy,Instr.storeAt,Instr.sureAddr,storeVar,zf ht,hl,hc,hr]
 .simp only[S6];rw[Ze (by rw[<-hcl];omega),<-hcl,hcur]
 exact aeH
def vc(hh:Hp w0 H w){t e:TypeId}{len sz by':Nat}{ag:Bool}{parts:Array (Nat×Operand)}{ps:List (Nat×Value)}{zc cs:List Value}(ht:P.underlying t=some (.slice e))(hte:Dd P e=some (sz,ag,by',zc)) (hp:vD ρ parts.toList=ps)(hzl:zc.length=sz)(hf:Wk (λi=>some (i*sz,sz)) (Qg len zc) ps=some cs)(h0:¬len*sz=0)(hle:len<=1000)(hsl:len*sz<=16777216)(hl:cs.length=len*sz)(hN:d<N) (k:∀b w',Hp w0 (.row (some ⟨b,0,none⟩) len len e sz cs::H) w'->WL ro P N ops Q rest (sc ρ d (.slice (some ⟨b,0,none⟩) len len)) w'):WL ro P N ops Q (⟨some d,.buildSlice t len parts,ty,pos,af,none⟩::rest) ρ w:=by
 obtain⟨z,hz,hzc⟩:=ee (w:=w) hte;refine Ia rfl rfl hN (w':=w.alloc (.cells cs.toArray e)) (v:=.slice (some ⟨w.heap.size,0,none⟩) len len) ?_ (k _ _ (hh.tD e sz len cs hl (by unfold maxLen;omega)));exact abQ
def Zr(P:Program)(t:TypeId):Option (List (Nat×Nat)):=
 match P.underlying t with
 |some (.struct fs)=>fs.toList.mapM λf=>(P.info? f.type).map λi=>(f.offset,i.size)
 |_=>none
def Xw{P:Program}{w:World}:∀(l:List Field)(pl:List (Nat×Nat)),(l.mapM λf=>(P.info? f.type).map λi=>(f.offset,i.size))=some pl->(l.mapM (m:=Sem) λf=>do pure (f.offset,<-sizeOf f.type)).run P w=.ok pl w
 |[],pl,h=>(by simp at h;subst h;simp)
 |f::l,pl,h=>by
  rw[List.mapM_cons] at h
  cases hi:P.info? f.type with
  |none=>simp[hi] at h
  |some i=>
   cases hr:l.mapM (λf=>(P.info? f.type).map λi=>(f.offset,i.size)) with
   |none=>simp[hr] at h
   |some pl'=>
    simp[hi,hr] at h;have ih:=Xw (w:=w) l pl' hr;have hs:(sizeOf f.type).run P w=.ok i.size w:=by simp[sizeOf,typeInfo,hi]
    rw[List.mapM_cons,Sem.run_bind,Sem.run_bind,hs,Result.andThen_ok,Sem.run_pure,Result.andThen_ok,Sem.run_bind,ih,Result.andThen_ok,Sem.run_pure,h]
def HD{dd:Option Nat}{g:Option (Nat×Bool)}{t:TypeId}{n by':Nat}{parts:Array (Nat×Operand)}{ps:List (Nat×Value)}{zc cs:List Value}{pl:List (Nat×Nat)}(hte:Dd P t=some (n,true,by',zc)) (hpl:Zr P t=some pl) (hp:vD ρ parts.toList=ps)(hf:Wk (pl[·]?) zc ps=some cs):(execOp (ev ρ) ⟨dd,.build t parts,ty,pos,af,g⟩).run P w=.ok (.value (.agg cs.toArray)) w:=by
 obtain⟨z,hz,hzc⟩:=ee (w:=w) hte;unfold Zr at hpl;split at hpl
 .rename_i fs hfs;have h1:=Xw (w:=w) _ _ hpl;have h2:(fs.mapM (m:=Sem) λf=>do pure (f.offset,<-sizeOf f.type)).run P w=.ok pl.toArray w:=by
   have e:fs=fs.toList.toArray:=by simp
   rw[e,List.mapM_toArray,Sem.run_map,h1];rfl
  have hf':=CC _ _ _ hf;have hpp:(λ(x:Nat)=>pl.toArray[x]?)=λx=>pl[x]?:=by funext x;simp
  have hp':=MK parts hp;simp only[execOp,hp',Instr.build,Sem.run_bind,hz,Result.andThen_ok,run_underlying hfs,h2,hzc,hpp,hf',Sem.run_pure]
 cases hpl
def ri(A:Option Addr)(n c:Nat):(Value.slice A n c).ownBlock=A.map (·.block):=by cases A<;>rfl
def Om(n:Nat)(z:Value):Qg n [z]=List.replicate n z:=by
 induction n with
 |zero=>rfl
 |succ n ih=>simp[Qg,ih,B7]
def YG{w:World}{ad:Addr}{xs:List Value}{m:Int}{k:Nat}{v:Value}(h:Rd w ad xs)(hx:xs[k]?=some v)(hm:m=(k:Int)):w.cell? (ad.add (m.toNat*1))=some v:=by
 subst hm;simpa using h k v hx
def ij(l:List UInt8):List Value:=l.map λc=>.int .u8 c.toNat
def Ii(l:List UInt8):(ij l).length=l.length:=by simp[ij]
def Cr(base:Nat)(t ty e:TypeId)(i:TypeInfo)(ht:P.underlying t=some (.slice e))(hi:P.info? e=some i) (v:Value)(n:Nat)(xs:List Value)(sz:Nat)(hown:w.ownsRow base e sz v n xs)(c:Nat):(Builtin.append_ #[t,t] ty #[v,.slice none 0 c]).run P w=.ok v w:=by
 obtain⟨rfl,rfl⟩|⟨g,cap,cur,rfl,_,_,hnc,_⟩:=hown.2
 .simp[Builtin.append_,run_underlying ht,sizeOf,typeInfo,hi,Builtin.lenOf,Builtin.firstCells]
 simp[Builtin.append_,run_underlying ht,sizeOf,typeInfo,hi,Builtin.lenOf,Builtin.firstCells,hnc,storeCells]
def lz(base:Nat)(t ty e:TypeId)(sz by':Nat)(ag:Bool)(zc:List Value)(ht:P.underlying t=some (.slice e))(hte:Dd P e=some (sz,ag,by',zc))(hzl:zc.length=sz)(hsz:0<sz) (A:Option Addr)(n c:Nat)(xs:List Value)(hown:w.ownsRow base e sz (.slice A n c) n xs)(B:Option Addr)(m c':Nat)(news:List Value)(hsl:Sl w B m sz news)(h1:∀u∈news,u.oneCell'=true) (h63:n+m<=maxLen)(hbytes:(n+m)*by'<=140737488355328)(hbase:base<=w.heap.size):
  ∃A' c2 w',(Builtin.append_ #[t,t] ty #[.slice A n c,.slice B m c']).run P w=.ok (.slice A' (n+m) c2) w'/\w'.ownsRow base e sz (.slice A' (n+m) c2) (n+m) (xs++news)/\
   w.grownBy w' (A.map (·.block))/\(A'.map (·.block)=A.map (·.block)\/A'.map (·.block)=none\/A'.map (·.block)=some w.heap.size):=by
 obtain⟨i,z,d,hi,hd,hz,hs,hby,hzc,_⟩:=bf hte;have hzs:z.cells.size=sz:=by rw[hzc];simpa using hzl
 have fin:∀(ad:Addr),B=some ad->Rd w ad news->∃A' c2 w',(Builtin.append_ #[t,t] ty #[.slice A n c,.slice B m c']).run P w=.ok (.slice A' (n+m) c2) w'/\w'.ownsRow base e sz (.slice A' (n+m) c2) (n+m) (xs++news)/\
   w.grownBy w' (A.map (·.block))/\(A'.map (·.block)=A.map (·.block)\/A'.map (·.block)=none\/A'.map (·.block)=some w.heap.size):=by
  rintro ad rfl hr;obtain⟨v',w',hrun,h2,h3,_,h5⟩:=run_append_own_at (P:=P) w base t ty e i z sz by' ht hi hz hs hby hzs hsz (.slice A n c) n xs hown ad m c' news hsl.1 hr h1 h63 hbytes hbase;rw[ri] at h3;obtain⟨hv,h0⟩|⟨g,cap,cur,hv,r⟩:=h2.2
  .subst hv;refine⟨none,0,w',by rw[hrun,h0],by rw[h0];exact h0 ▸ h2,h3,.inr (.inl rfl)⟩
  subst hv;refine⟨_,_,w',hrun,h2,h3, ?_⟩;obtain h5|h5:=h5
  .exact .inl (by rw[<-ri _ (n+m) cap,h5,ri])
  exact .inr (.inr (by rw[<-ri _ (n+m) cap,h5]))
 obtain h0|h0:=x8 m
 .subst h0;have hnews:news=[]:=C8 (by simpa using hsl.1);subst hnews
  cases B with
  |none=>exact⟨A,c,w,Cr base t ty e i ht hi _ n xs sz hown c',by simpa using hown,World.grownBy.refl _ _,.inl rfl⟩
  |some ad=>exact fin ad rfl (λj u hu=>by simp at hu)
 obtain⟨ad,hB,hr⟩:=hsl.2 h0;exact fin ad hB hr
def jz{A:Option Addr}{n c:Nat}{l:List UInt8}(h:Sl w A n 1 (ij l)):(Conv.bytesToString (.slice A n c)).run P w=.ok (.string ⟨l.toArray⟩) w:=by
 have hn:l.length=n:=by have:=h.1;rw[Ii] at this;omega
 cases A with
 |none=>
  have h0:n=0:=by
   obtain h0|h0:=x8 n
   .exact h0
   obtain⟨ad,h1,_⟩:=h.2 h0;cases h1
  have:l=[]:=C8 Z';subst this;simp[Conv.bytesToString,ByteArray.empty,ByteArray.emptyWithCapacity];rfl
 |some a=>
  have hr:Rd w a (ij l):=by
   obtain h0|h0:=x8 n
   .have:l=[]:=C8 Z';subst this;intro j u hu;simp[ij] at hu
   obtain⟨ad,h1,h2⟩:=h.2 h0;injection h1 with h1;subst h1;exact h2
  have e1:ij l=(l.map λc:UInt8=>(c.toNat:Int)).map (Value.int .u8):=by simp[ij]
  have hld:=run_loadCells_list (P:=P) w a (ij l) hr;rw[Ii,hn,e1] at hld;rw[run_bytesToString w a n c _ hld];congr 2;have:∀(l:List UInt8)(s:ByteArray),(l.map λc:UInt8=>(c.toNat:Int)).foldl (λr n=>r.push (UInt8.ofNat n.toNat)) s=⟨s.data++l.toArray⟩:=by
   intro l
   induction l with
   |nil=>intro s;simp
   |cons c l ih=>
    intro s;simp only[q_,F7];rw[ih];have:(s.push (UInt8.ofNat ((c.toNat:Int)).toNat)).data=s.data.push c:=by simp[ByteArray.push]
    rw[this];congr 1;apply L6;simp
  rw[this];congr 1;apply L6;simp[ByteArray.empty,ByteArray.emptyWithCapacity];rfl
def Gb(hh:Hp w0 H w){t e:TypeId}{s x:Operand}{i n c m c' sz by':Nat}{ag:Bool}{A B:Option Addr}{zc xs news:List Value}(hi:H[i]?=some (.row A n c e sz xs))(hs:ev ρ s=.slice A n c)(hx:ev ρ x=.slice B m c') (hsl:Sl w B m sz news)(ht:P.underlying t=some (.slice e))(hte:Dd P e=some (sz,ag,by',zc))(hzl:zc.length=sz)(hsz:0<sz)(h1:(news.all Value.oneCell')=true) (h63:n+m<=9223372036854775807)(hbytes:(n+m)*by'<=140737488355328)(hN:d<N) (k:∀A' c2 w',Hp w0 (H.set i (.row A' (n+m) c2 e sz (xs++news))) w'->WL ro P N ops Q rest (sc ρ d (.slice A' (n+m) c2)) w'):
  WL ro P N ops Q (⟨some d,.call ⟨.builtin .append, #[s,x], #[t,t]⟩,ty,pos,af,none⟩::rest) ρ w:=by
 obtain⟨A',c2,w',hr,hown,hg,hid⟩:=lz (P:=P) w0.heap.size t ty e sz by' ag zc ht hte hzl hsz A n c xs (hh.at_ hi) B m c' news hsl (by simpa using h1) (by unfold maxLen;omega) hbytes hh.size;refine Ia rfl rfl hN (w':=w') (v:=.slice A' (n+m) c2) ?_ (k A' c2 w' (hh.grown hi hg hid hown));simp only[execOp,resolve,invoke,builtin,Sem.run_bind,Sem.run_pure,Result.andThen_ok,List.map_toArray,q_,G9,hs,hx,hr]
def Me(hh:Hp w0 H w){t e:TypeId}{l cp:Operand}{kl kc:IntKind}{L C:Int}{n sz by':Nat}{ag:Bool}{zc:List Value}(hl:ev ρ l=.int kl L)(hc:ev ρ cp=.int kc C)(hL:L=(n:Int))(hC:C=(n:Int)) (ht:P.underlying t=some (.slice e))(hte:Dd P e=some (sz,ag,by',zc))(hzl:zc.length=sz)(hb:by'*n<=281474976710656)(h63:n<=9223372036854775807)(hN:d<N) (k:∀b w',Hp w0 (.row (some ⟨b,0,none⟩) n n e sz (Qg n zc)::H) w'->WL ro P N ops Q rest (sc ρ d (.slice (some ⟨b,0,none⟩) n n)) w'):
  WL ro P N ops Q (⟨some d,.makeSlice t l cp,ty,pos,af,none⟩::rest) ρ w:=by
 obtain⟨i,z,dd,hi,hd,hz,hs,hby,hzc,_⟩:=bf hte;subst hL;subst hC;obtain⟨w',hr,hown,hg⟩:=run_make_full (P:=P) w w.heap.size t e i z sz ht hi hz hs kl kc n (by rw[hby];exact hb) (by unfold maxLen;omega) (j' _);have hzz:(madeCells z.cells (n*sz)).toList=Qg n zc:=(by exact UZ);rw[hzz] at hown;refine Ia rfl rfl hN (w':=w') (v:=.slice (some ⟨w.heap.size,0,none⟩) n n) ?_ (k _ w' (hh.Aa ⟨hg.os,hg.tape,hg.output,hg.size,λj hj=>hg.block j hj (by simp)⟩ hown));simp[execOp,hl,hc,hr]
def Ry(hh:Hp w0 H w){t e:TypeId}{sz by':Nat}{ag:Bool}{zc:List Value}(ht:P.underlying t=some (.slice e))(hte:Dd P e=some (sz,ag,by',zc))(hN:d<N) (k:∀b w',Hp w0 (.row (some ⟨b,0,none⟩) 0 0 e sz []::H) w'->WL ro P N ops Q rest (sc ρ d (.slice (some ⟨b,0,none⟩) 0 0)) w'):WL ro P N ops Q (⟨some d,.buildSlice t 0 #[],ty,pos,af,none⟩::rest) ρ w:=by
 refine Ia rfl rfl hN (w':=w.alloc (.cells #[] e)) (v:=.slice (some ⟨w.heap.size,0,none⟩) 0 0) ?_ (k _ _ (hh.tD e sz 0 [] (by simp) (by unfold maxLen;omega)));have e0:Array.range 0= #[]:=rfl;simp[execOp,Instr.buildSlice,run_underlying ht,zf hte,Instr.fill,newRow,e0]
def ik{dd:Option Nat}{g:Option (Nat×Bool)}{s t e:TypeId}{x:Operand}{A:Option Addr}{n c:Nat}{l:List UInt8}(hs:P.underlying s=some (.slice e))(he:P.underlying e=some (.int .u8))(ht:P.underlying t=some .string) (hx:ev ρ x=.slice A n c)(h:Sl w A n 1 (ij l)):(execOp (ev ρ) ⟨dd,.convert s t x,ty,pos,af,g⟩).run P w=.ok (.value (.string ⟨l.toArray⟩)) w:=by
 simp[execOp,hx,run_convert_bytes_string w s t e A n c hs he ht,jz h]
def YC(hh:Hp w0 H w){s t e:TypeId}{x:Operand}{b:ByteArray}(hs:P.underlying s=some .string)(ht:P.underlying t=some (.slice e))(he:P.underlying e=some (.int .u8))(hx:ev ρ x=.string b)(hN:d<N) (k:∀g c ex w',Hp w0 (.blk g e (ij b.data.toList++ex) ((ij b.data.toList++ex).length,(ij b.data.toList++ex).length+1)::H) w'->WL ro P N ops Q rest (sc ρ d (.slice (some ⟨g,0,none⟩) b.size c)) w'):
  WL ro P N ops Q (⟨some d,.convert s t x,ty,pos,af,none⟩::rest) ρ w:=by
 let c:=grownCap w b.size 0 e
 let ex:List Value:=List.replicate (c-b.size) (.int .u8 0)
 let cells:List Value:=ij b.data.toList++ex
 let w1:=w.drew.alloc (.cells cells.toArray e)
 let w':=w1.freeze ⟨w.heap.size,cells.length,none⟩ 1
 have hw1:w1.heap[w.heap.size]?=some (.cells cells.toArray e (0,0)):=heap_alloc_new w.drew _;have hheap:w'.heap[w.heap.size]?=some (.cells cells.toArray e (cells.length,cells.length+1)):=(by show(w1.heap.modify w.heap.size _)[w.heap.size]?=_;rw[Array.getElem?_modify,J' rfl,hw1];simp);have hbl:Below w.heap.size w w':=by
  refine⟨rfl,rfl,rfl, ?_,λj hj=> ?_⟩
  .show w.heap.size<=(w1.heap.modify w.heap.size _).size;rw[Array.size_modify];show w.heap.size<=w1.heap.size;simp[w1]
  show(w1.heap.modify w.heap.size _)[j]?=_;rw[Array.getElem?_modify,L' Z'];exact Below.heap_alloc w.drew _ j hj
 refine Ia rfl rfl hN (w':=w') (v:=.slice (some ⟨w.heap.size,0,none⟩) b.size c) ?_ (k w.heap.size c ex w' (hh.Aa hbl ⟨j' _,hheap,.inl (j' _)⟩));have harr:(b.data.map λb=>Value.int .u8 b.toNat)++Array.replicate (c-b.size) (Value.int .u8 0)=cells.toArray:=(by apply L6;simp[cells,ex,ij]);have hsh:w1.shape? w.heap.size=some (e,cells.length):=by simp[World.shape?,hw1]
 have hch:(choose (.appendCap b.size 0 e)).run P w=.ok c w.drew:=by simp[choose,Sem.run,Question.forced,grownCap,c]
 have hnr:(newRow e cells.toArray).run P w.drew=.ok ⟨w.heap.size,0,none⟩ w1:=by simp[newRow,w1]
 have hms:(markStringish ⟨w.heap.size,0,none⟩).run P w1=.ok () w':=by simp[markStringish,shape,Sem.run,hsh,freeze,w']
 simp only[execOp,hx,convert,Sem.run_bind,run_underlying hs,run_underlying ht,run_underlying he,Result.andThen_ok,Conv.stringToBytes];rw[hch,Result.andThen_ok,harr,hnr,Result.andThen_ok,hms,Result.andThen_ok,Sem.run_pure,Result.andThen_ok,Sem.run_pure]
def er(hh:Hp w0 H w){t:TypeId}{x:Operand}{s:ByteArray}(ht:P.underlying t=some .string)(hx:ev ρ x=.string s)(hN:d<N) (k:∀b w',Hp w0 (.it b s 0::H) w'->WL ro P N ops Q rest (sc ρ d (.pointer (some ⟨b,0,none⟩))) w'):WL ro P N ops Q (⟨some d,.range t x,ty,pos,af,none⟩::rest) ρ w:=by
 refine Ia rfl rfl hN (w':=w.alloc (.stringIter s 0)) (v:=.pointer (some ⟨w.heap.size,0,none⟩)) (by simp[execOp,hx,Instr.range,run_underlying ht]) (k _ _ (hh.Aa ((Below.refl _ _).alloc (j' _) _) ⟨j' _,heap_alloc_new w _⟩))
def Oq(hh:Hp w0 H w){x:Operand}{i b p:Nat}{s:ByteArray}(hi:H[i]?=some (.it b s p))(hx:ev ρ x=.pointer (some ⟨b,0,none⟩))(hp:¬p<s.size)(hN:d<N) (k:WL ro P N ops Q rest (sc ρ d (.tuple #[.bool false])) w):WL ro P N ops Q (⟨some d,.next x true,ty,pos,af,none⟩::rest) ρ w:=by
 have h1:=(hh.at_ hi).2;refine Ia rfl rfl hN (w':=w) (v:=.tuple #[.bool false]) ?_ k;simp[execOp,hx,Instr.next,getObj,Sem.run,h1,hp]
def vq(hh:Hp w0 H w){x:Operand}{i b p:Nat}{s:ByteArray}{c:UInt8}(hi:H[i]?=some (.it b s p))(hx:ev ρ x=.pointer (some ⟨b,0,none⟩))(hc:s.data.toList[p]?=some c)(h128:c.toNat<128)(hN:d<N) (k:∀w',Hp w0 (H.set i (.it b s (p+1))) w'->WL ro P N ops Q rest (sc ρ d (.tuple #[.bool true,.int .i64 p,.int .i32 c.toNat])) w'):WL ro P N ops Q (⟨some d,.next x true,ty,pos,af,none⟩::rest) ρ w:=by
 have h1:=(hh.at_ hi).2;obtain⟨hlt,hcc⟩:=X_.1 hc;have hlt':p<s.size:=by simpa using hlt
 have hget:s.get! p=c:=(by have:s.get! p=s.data[p]! :=rfl;rw[this,getElem!_pos s.data p hlt'];simpa using hcc);have hdec:Utf8.decode s p=(c.toNat,1):=(by unfold Utf8.decode;simp only[q9,hget];rw[J' h128])
 let w':World:={ w with heap:=w.heap.setIfInBounds b (.stringIter s (p+1)) }
 have hb:=Lg (hh.at_ hi) (b:=b) rfl;have hg:w.grownBy w' (some b):=⟨rfl,rfl,rfl,by simp[w'],λk _ hne=>by
  show(w.heap.setIfInBounds b _)[k]?=_;rw[Array.getElem?_setIfInBounds_ne (λe=>hne (by rw[e]))]⟩
 refine Ia rfl rfl hN (w':=w') (v:=.tuple #[.bool true,.int .i64 p,.int .i32 c.toNat]) ?_ (k w' (hh.grown hi hg (.inl rfl) ⟨hb.1, ?_⟩))
 .simp[execOp,hx,Instr.next,getObj,setObj,Sem.run,h1,hlt',hdec,goInt,w']
 show(w.heap.setIfInBounds b _)[b]?=_;simp[hb.2]
class UK(k:IntKind)(b:outParam Nat)(M:outParam Nat):Prop where
 bits:k.bits=b
 sgn:k.signed=false
 pow:2^b=M
instance:UK .u8 8 256:=⟨rfl,rfl,rfl⟩
instance:UK .u16 16 65536:=⟨rfl,rfl,rfl⟩
instance:UK .u32 32 4294967296:=⟨rfl,rfl,rfl⟩
instance:UK .u64 64 18446744073709551616:=⟨rfl,rfl,rfl⟩
def UK.wrap{k:IntKind}{b M:Nat}[h:UK k b M](n:Nat):k.wrap (n:Int)=((n % M:Nat):Int):=by
 unfold IntKind.wrap;have hM:(2:Int)^k.bits=(M:Int):=by rw[h.bits,<-h.pow];simp
 simp only[h.sgn,hM,Bool.false_and];simp
def UK.As{k:IntKind}{b M:Nat}[UK k b M]{n:Nat}(hn:n<M):k.wrap (n:Int)=(n:Int):=by rw[UK.wrap,h_ hn]
def UK.wrap_add{k:IntKind}{b M:Nat}[h:UK k b M](z:Int):k.wrap (z+M)=k.wrap z:=by
 unfold IntKind.wrap;have hM:(2:Int)^k.bits=(M:Int):=by rw[h.bits,<-h.pow];simp
 simp[hM]
variable {d:Option Nat}{q M a b:Nat}
def abe[UK k q M](hx:ev ρ x=.int k (a:Int))(hy:ev ρ y=.int k (b:Int)):(execOp (ev ρ) ⟨d,.binOp .add t x y u,ty,pos,af,g⟩).run P w=.ok (.value (.int k (((a+b) % M:Nat):Int))) w:=by
 rw[BZ hx hy,<-F8,UK.wrap]
def acu[UK k q M](hx:ev ρ x=.int k (a:Int))(hy:ev ρ y=.int k (b:Int))(hb:b<=M):(execOp (ev ρ) ⟨d,.binOp .sub t x y u,ty,pos,af,g⟩).run P w=.ok (.value (.int k (((a+M-b) % M:Nat):Int))) w:=by
 rw[NZ hx hy,<-UK.wrap (k:=k)];have h:((a+M-b:Nat):Int)=(a:Int)-b+M:=Z';rw[h,UK.wrap_add]
def acD[UK k q M](hx:ev ρ x=.int k (a:Int))(hy:ev ρ y=.int k (b:Int)):(execOp (ev ρ) ⟨d,.binOp .mul t x y u,ty,pos,af,g⟩).run P w=.ok (.value (.int k (((a*b) % M:Nat):Int))) w:=by
 rw[qZ hx hy,<-m9,UK.wrap]
def cW[UK k q M](hx:ev ρ x=.int k (a:Int))(hy:ev ρ y=.int k (b:Int))(hb:0<b)(ha:a<M):(execOp (ev ρ) ⟨d,.binOp .quo t x y u,ty,pos,af,g⟩).run P w=.ok (.value (.int k ((a/b:Nat):Int))) w:=by
 rw[aaw hx hy Z',<-Int.ofNat_tdiv,UK.As (S9 (l8 _ _) ha)]
def aV(hx:ev ρ x=.int k (a:Int))(hy:ev ρ y=.int k (b:Int))(hb:0<b):(execOp (ev ρ) ⟨d,.binOp .rem t x y u,ty,pos,af,g⟩).run P w=.ok (.value (.int k ((a % b:Nat):Int))) w:=by
 rw[N0 hx hy Z',<-Int.ofNat_tmod]
def Oo(n:Nat)(a:Nat):BitVec.ofInt n (a:Int)=BitVec.ofNat n a:=by simp
def aeB[h:UK k q M](hx:ev ρ x=.int k (a:Int))(hy:ev ρ y=.int k (b:Int))(ha:a<M)(hb:b<M):(execOp (ev ρ) ⟨d,.binOp .or t x y u,ty,pos,af,g⟩).run P w=.ok (.value (.int k ((a|||b:Nat):Int))) w:=by
 rw[afX hx hy,Oo,Oo,BitVec.toNat_or,BitVec.toNat_ofNat,BitVec.toNat_ofNat,h.bits,h.pow,h_ ha,h_ hb,UK.As];rw[<-h.pow] at ha hb |-;exact Nat.or_lt_two_pow ha hb
def abX[h:UK k q M](hx:ev ρ x=.int k (a:Int))(hy:ev ρ y=.int k (b:Int))(ha:a<M)(hb:b<M):(execOp (ev ρ) ⟨d,.binOp .and t x y u,ty,pos,af,g⟩).run P w=.ok (.value (.int k ((a &&& b:Nat):Int))) w:=by
 rw[aaq hx hy,Oo,Oo,BitVec.toNat_and,BitVec.toNat_ofNat,BitVec.toNat_ofNat,h.bits,h.pow,h_ ha,h_ hb,UK.As];exact S9 Nat.and_le_left ha
def nx[h:UK k q M]{k':IntKind}{s:Int}(hx:ev ρ x=.int k (a:Int))(hy:ev ρ y=.int k' s)(hs:0<=s/\s<=q):(execOp (ev ρ) ⟨d,.binOp .shl t x y u,ty,pos,af,g⟩).run P w=.ok (.value (.int k (((a*2^s.toNat) % M:Nat):Int))) w:=by
 have e:(a:Int)*2^(min s.toNat k.bits)=((a*2^s.toNat:Nat):Int):=(by rw[h.bits,C9 Z',m9,Int.natCast_pow];rfl);rw[aek hx hy hs.1,e,UK.wrap]
def IH[h:UK k q M]{k':IntKind}{s:Int}(hx:ev ρ x=.int k (a:Int))(hy:ev ρ y=.int k' s)(hs:0<=s/\s<=q):(execOp (ev ρ) ⟨d,.binOp .shr t x y u,ty,pos,af,g⟩).run P w=.ok (.value (.int k ((a/2^s.toNat:Nat):Int))) w:=by
 rw[acR hx hy hs.1,h.bits,C9 Z',Int.fdiv_eq_ediv_of_nonneg _ (Int.le_of_lt (Int.pow_pos Z'))];simp
def zX[UK k q M]{k':IntKind}{s m:Nat}(hx:ev ρ x=.int k (a:Int))(hy:ev ρ y=.int k' (s:Int))(hs:s<=q)(hm:2^s=m):(execOp (ev ρ) ⟨d,.binOp .shr t x y u,ty,pos,af,g⟩).run P w=.ok (.value (.int k ((a/m:Nat):Int))) w:=by
 rw[IH hx hy Z',<-hm];rfl
def abP[h:UK k q M](hx:ev ρ x=.int k (a:Int))(ha:a<=M):(execOp (ev ρ) ⟨d,.unOp .neg t x,ty,pos,af,g⟩).run P w=.ok (.value (.int k (((M-a) % M:Nat):Int))) w:=by
 rw[HZ hx,<-UK.wrap (k:=k)];have e:((M-a:Nat):Int)= -(a:Int)+M:=Z';rw[e,UK.wrap_add]
def rW[UK k q M]{s t:TypeId}{k':IntKind}{sd:TypeDesc}(hs:P.underlying s=some sd)(ht:P.underlying t=some (.int k))(hx:ev ρ x=.int k' (a:Int)):(execOp (ev ρ) ⟨d,.convert s t x,ty,pos,af,g⟩).run P w=.ok (.value (.int k ((a % M:Nat):Int))) w:=by
 rw[tm hs ht hx,UK.wrap]
def Iy[UK k q M]{s t:TypeId}{k':IntKind}{sd:TypeDesc}(hs:P.underlying s=some sd)(ht:P.underlying t=some (.int k))(hx:ev ρ x=.int k' (a:Int))(ha:a<M):(execOp (ev ρ) ⟨d,.convert s t x,ty,pos,af,g⟩).run P w=.ok (.value (.int k (a:Int))) w:=by
 rw[tm hs ht hx,UK.As ha]
variable {a b:Int}
def BM(hx:ev ρ x=.int k a)(hy:ev ρ y=.int k b):(execOp (ev ρ) ⟨d,.binOp .lss t x y u,ty,pos,af,g⟩).run P w=.ok (.value (.bool (decide (a<b)))) w:=by
 by_cases h:a<b
 .rw[NX hx hy h,M_ h]
 rw[lW hx hy h,O_ h]
def uX(hx:ev ρ x=.int k a)(hy:ev ρ y=.int k b):(execOp (ev ρ) ⟨d,.binOp .leq t x y u,ty,pos,af,g⟩).run P w=.ok (.value (.bool (decide (a<=b)))) w:=by
 by_cases h:a<=b
 .rw[DW hx hy h,M_ h]
 rw[MW hx hy h,O_ h]
def fM(hx:ev ρ x=.int k a)(hy:ev ρ y=.int k b):(execOp (ev ρ) ⟨d,.binOp .gtr t x y u,ty,pos,af,g⟩).run P w=.ok (.value (.bool (decide (b<a)))) w:=by
 by_cases h:b<a
 .rw[gZ hx hy h,M_ h]
 rw[rY hx hy h,O_ h]
def TW(hx:ev ρ x=.int k a)(hy:ev ρ y=.int k b):(execOp (ev ρ) ⟨d,.binOp .geq t x y u,ty,pos,af,g⟩).run P w=.ok (.value (.bool (decide (b<=a)))) w:=by
 by_cases h:b<=a
 .rw[kX hx hy h,M_ h]
 rw[dZ hx hy h,O_ h]
def oM(hx:ev ρ x=.int k a)(hy:ev ρ y=.int k b):(execOp (ev ρ) ⟨d,.binOp .neq t x y u,ty,pos,af,g⟩).run P w=.ok (.value (.bool (decide (a≠b)))) w:=by
 by_cases h:a=b
 .rw[nW hx hy h,O_ (by simpa using h)]
 rw[RW hx hy h,M_ h]
variable {a b:Bool}
def EY(ht:P.underlying t=some .bool)(hx:ev ρ x=.bool a)(hy:ev ρ y=.bool b)(h:a=b):(execOp (ev ρ) ⟨d,.binOp .eql t x y u,ty,pos,af,g⟩).run P w=.ok (.value (.bool true)) w:=by
 rw[dy ht hx hy,h,beq_self_eq_true]
def KY(ht:P.underlying t=some .bool)(hx:ev ρ x=.bool a)(hy:ev ρ y=.bool b)(h:¬a=b):(execOp (ev ρ) ⟨d,.binOp .eql t x y u,ty,pos,af,g⟩).run P w=.ok (.value (.bool false)) w:=by
 rw[dy ht hx hy,beq_false_of_ne h]
def GW(ht:P.underlying t=some .bool)(hx:ev ρ x=.bool a)(hy:ev ρ y=.bool b)(h:¬a=b):(execOp (ev ρ) ⟨d,.binOp .neq t x y u,ty,pos,af,g⟩).run P w=.ok (.value (.bool true)) w:=by
 rw[Dl ht hx hy,bne,beq_false_of_ne h];rfl
def vX(ht:P.underlying t=some .bool)(hx:ev ρ x=.bool a)(hy:ev ρ y=.bool b)(h:a=b):(execOp (ev ρ) ⟨d,.binOp .neq t x y u,ty,pos,af,g⟩).run P w=.ok (.value (.bool false)) w:=by
 rw[Dl ht hx hy,bne,h,beq_self_eq_true];rfl
def lg{t e:TypeId}{x i:Operand}{ad:Addr}{n c sz k:Nat}{kk:IntKind}{m:Int}(ht:P.underlying t=some (.slice e))(hsz:(P.info? e).map (·.size)=some sz)(hx:ev ρ x=.slice (some ad) n c)(hi:ev ρ i=.int kk m) (hm:m=(k:Int))(h1:k<n):(execOp (ev ρ) ⟨d,.indexAddr t x i,ty,pos,af,g⟩).run P w=.ok (.value (.pointer (some (ad.add (k*sz))))) w:=by
 rw[Se ht hsz hx hi Z' Z',hm];rfl
def UI{t e:TypeId}{x i:Operand}{b o n c sz k:Nat}{kk:IntKind}{m:Int}(ht:P.underlying t=some (.slice e))(hsz:(P.info? e).map (·.size)=some sz)(hx:ev ρ x=.slice (some ⟨b,o,none⟩) n c)(hi:ev ρ i=.int kk m) (hm:m=(k:Int))(h1:k<n):(execOp (ev ρ) ⟨d,.indexAddr t x i,ty,pos,af,g⟩).run P w=.ok (.value (.pointer (some ⟨b,o+k*sz,none⟩))) w:=by
 rw[Se ht hsz hx hi Z' Z',hm,qe];rfl
def sI{t e:TypeId}{x i:Operand}{ad:Addr}{n sz k:Nat}{kk:IntKind}{m:Int}(ht:P.underlying t=some (.array n e))(hsz:(P.info? e).map (·.size)=some sz)(hx:ev ρ x=.pointer (some ad))(hi:ev ρ i=.int kk m) (hm:m=(k:Int))(h1:k<n):(execOp (ev ρ) ⟨d,.indexAddr t x i,ty,pos,af,g⟩).run P w=.ok (.value (.pointer (some (ad.add (k*sz))))) w:=by
 obtain⟨i,hi1,hi2⟩:=T8.1 hsz;have h2:(k:Int)<n:=Z';subst hm;simp[execOp,hx,hi,Instr.indexAt,asIntOf,run_underlying ht,sizeOf,typeInfo,hi1,hi2,Instr.sureAddr,h1]
def Uw{t e:TypeId}{x hi:Operand}{A:Option Addr}{n c h sz:Nat}{k:IntKind}{m:Int}(ht:P.underlying t=some (.slice e))(hsz:(P.info? e).map (·.size)=some sz)(hx:ev ρ x=.slice A n c)(hhi:ev ρ hi=.int k m) (hm:m=(h:Int))(h2:h<=c):(execOp (ev ρ) ⟨d,.slice t x none (some hi) none,ty,pos,af,g⟩).run P w=.ok (.value (.slice A h c)) w:=by
 rw[Ef (lo:=none) (hi:=some hi) (l:=0) (h:=h) ht hsz hx rfl ⟨k,m,hhi,hm⟩ (D' _) h2];congr 3
 cases A with
 |none=>simp
 |some ad=>simp[Addr.add]
def eJ{t e:TypeId}{x lo:Operand}{b o n c l sz:Nat}{k:IntKind}{m:Int}(ht:P.underlying t=some (.slice e))(hsz:(P.info? e).map (·.size)=some sz)(hx:ev ρ x=.slice (some ⟨b,o,none⟩) n c)(hlo:ev ρ lo=.int k m) (hm:m=(l:Int))(h1:l<=n)(h2:n<=c)(h3:l<c):(execOp (ev ρ) ⟨d,.slice t x (some lo) none none,ty,pos,af,g⟩).run P w=.ok (.value (.slice (some ⟨b,o+l*sz,none⟩) (n-l) (c-l))) w:=by
 rw[Ef (lo:=some lo) (hi:=none) (l:=l) (h:=n) ht hsz hx ⟨k,m,hlo,hm⟩ rfl h1 h2,L' Z'];simp only[M8,qe]
def DH{t e:TypeId}{x lo:Operand}{ad:Addr}{n c l sz:Nat}{k:IntKind}{m:Int}(ht:P.underlying t=some (.slice e))(hsz:(P.info? e).map (·.size)=some sz)(hx:ev ρ x=.slice (some ad) n c)(hlo:ev ρ lo=.int k m) (hm:m=(l:Int))(h1:l<=n)(h2:n<=c)(h3:l<c):(execOp (ev ρ) ⟨d,.slice t x (some lo) none none,ty,pos,af,g⟩).run P w=.ok (.value (.slice (some (ad.add (l*sz))) (n-l) (c-l))) w:=by
 rw[Ef (lo:=some lo) (hi:=none) (l:=l) (h:=n) ht hsz hx ⟨k,m,hlo,hm⟩ rfl h1 h2,L' Z'];rfl
def Rd.aw{w:World}{ad:Addr}{xs:List Value}{k:Nat}{v:Value}(h:Rd w ad xs)(hx:xs[k]?=some v):w.cell? (ad.add (k*1))=some v:=by
 rw[I_];exact h k v hx
def nc(l:List Nat):List Value:=l.map λ(d:Nat)=>.int .u64 (d:Int)
def Ma(l:List Nat):(nc l).length=l.length:=by simp[nc]
def Yd{l:List Nat}{k d:Nat}(h:l[k]?=some d):(nc l)[k]?=some (.int .u64 (d:Int)):=by simp[nc,h]
def Vf(l:List Nat)(k d:Nat):(nc l).set k (.int .u64 (d:Int))=nc (l.set k d):=by simp[nc,Z8]
def eG(a b:List Nat):nc (a++b)=nc a++nc b:=by simp[nc]
def VA(a:List Nat)(k:Nat):nc (a.take k)=(nc a).take k:=by simp[nc,List.map_take]
def TA(a:List Nat)(k:Nat):nc (a.drop k)=(nc a).drop k:=by simp[nc,J6]
def Nb(l:List Nat):((nc l).all Value.oneCell')=true:=by simp[nc,Value.oneCell']
def zj(n:Nat):Qg n [Value.int .u64 0]=nc (List.replicate n 0):=by rw[Om];simp[nc]
def Kg(l:List Nat):List Value:=l.map λ(d:Nat)=>.int .u8 (d:Int)
def Nc(l:List Nat):(Kg l).length=l.length:=by simp[Kg]
def yp{l:List Nat}{k d:Nat}(h:l[k]?=some d):(Kg l)[k]?=some (.int .u8 (d:Int)):=by simp[Kg,h]
def Ur(l:List Nat)(k d:Nat):(Kg l).set k (.int .u8 (d:Int))=Kg (l.set k d):=by simp[Kg,Z8]
def Mv(a b:List Nat):Kg (a++b)=Kg a++Kg b:=by simp[Kg]
def eF(a:List Nat)(k:Nat):Kg (a.take k)=(Kg a).take k:=by simp[Kg,List.map_take]
def Xb(l:List Nat):((Kg l).all Value.oneCell')=true:=by simp[Kg,Value.oneCell']
def Dq(n:Nat):Qg n [Value.int .u8 0]=Kg (List.replicate n 0):=by rw[Om];simp[Kg]
def MO{l:List Nat}(h:∀d∈l,d<256):Kg l=ij (l.map UInt8.ofNat):=by
 rw[Kg,ij,Z9];apply y8;intro d hd;have:=h d hd;simp only[Function.comp,j6];congr 2;omega
def Sl.rD{w:World}{ad:Addr}{n:Nat}{ys:List Nat}{k d:Nat}(h:Sl w (some ad) n 1 (nc ys))(hd:ys[k]?=some d):w.cell? (ad.add (k*1))=some (.int .u64 (d:Int)):=by
 have hl:=h.1;have hk:=(X_.1 hd).1;rw[Ma] at hl;obtain⟨ad',he,hr⟩:=h.2 Z';injection he with he
 subst he;exact hr.aw (Yd hd)
def MB{pre done r post:List Nat}{x:Nat}:(pre++(done++x::r)++post)[pre.length+done.length]?=some x:=by
 rw[l_,I9 Z',l_,I9 Z'];simp
def Bo{pre done r post:List Nat}{x y:Nat}:(pre++(done++x::r)++post).set (pre.length+done.length) y=pre++((done++[y])++r)++post:=by
 rw[l_,q8 _ _ Z',l_,q8 _ _ Z'];simp
def jc{cs:List Value}{o:Nat}{v:Value}(h:o<cs.length):Hb cs o [v]=cs.set o v:=by
 unfold Hb;rw[X5,J' h];simp
def Hp.front{w0 w:World}{H:List HE}{x:HE}(h:Hp w0 H w)(i:Nat)(hi:H[i]?=some x):Hp w0 (x::H.eraseIdx i) w:=by
 have hp:H.Perm (x::H.eraseIdx i):=by
  clear h
  induction H generalizing i with
  |nil=>simp at hi
  |cons y H ih=>
   cases i with
   |zero=>simp at hi;subst hi;simp
   |succ i=>
    simp only[N6] at hi;simp only[List.eraseIdx_cons_succ];exact((ih i hi).cons y).trans (List.Perm.swap x y _)
 exact⟨h.below,λy hy=>h.own y (hp.mem_iff.2 hy),(hp.filterMap _).nodup_iff.1 h.nd⟩
def Hp.oD{w0 w:World}{H:List HE}{A:Option Addr}{n c:Nat}{t:TypeId}{sz:Nat}{xs:List Value}(h:Hp w0 (.row A n c t sz xs::H) w){k:Nat}(hk:k<=n):Hp w0 (.row A k c t sz (xs.take (k*sz))::H) w:=by
 refine⟨h.below,λy hy=> ?_,h.nd⟩;obtain rfl|hy:=S_.1 hy
 .have h1:w.ownsRow w0.heap.size t sz (.slice A n c) n xs:=h.own _ q';obtain⟨h2,h3⟩:=h1;have hkn:k*sz<=n*sz:=N9 _ hk;refine⟨by rw[R_];omega, ?_⟩;obtain⟨h3,h4⟩|⟨g,cap,cur,hv,hb,hg,h4,h5,h6,h7⟩:=h3
  .injection h3 with h5 h6 h7
   subst h5 h6 h7;exact .inl ⟨by rw[show k=0 by omega],Z'⟩
  injection hv with h8 h9 h10
  subst h8;refine .inr ⟨g,cap,cur,by rw[h10],hb,hg,Z',h5,h6, ?_⟩;rw[<-h7,List.take_take,C9 hkn]
 exact h.own y (F' _ hy)
def Hp.Ve{w0 w:World}{H:List HE}{A:Option Addr}{n c:Nat}{t:TypeId}{sz:Nat}{xs:List Value}{i:Nat}(h:Hp w0 H w)(hi:H[i]?=some (.row A n c t sz xs)):n<=c:=by
 have h1:w.ownsRow w0.heap.size t sz (.slice A n c) n xs:=h.at_ hi;obtain⟨h3,h4⟩|⟨g,cap,cur,hv,hb,hg,h4,h5,h6,h7⟩:=h1.2
 .omega
 injection hv with h8 h9 h10
 omega
variable {d:Nat}
def Bl{x:Operand}{v:Value}(hx:ev ρ x=v)(hN:d<N)(kk:WL ro P N ops Q rest (sc ρ d v) w):
  WL ro P N ops Q (⟨some d,.move x,ty,pos,af,none⟩::rest) ρ w:=Ia rfl rfl hN (Jc hx) kk
def ki{x:Operand}{v:Value}(hx:ev ρ x=v)(hN:d<N)(kk:WL ro P N ops Q rest (sc ρ d v) w):
  WL ro P N ops Q (⟨some d,.assign x,ty,pos,af,none⟩::rest) ρ w:=Ia rfl rfl hN (zG hx) kk
def UP{c a b:Operand}{v:Value}(hc:ev ρ c=.bool true)(hx:ev ρ a=v)(hN:d<N)(kk:WL ro P N ops Q rest (sc ρ d v) w):
  WL ro P N ops Q (⟨some d,.pick c a b,ty,pos,af,none⟩::rest) ρ w:=Ia rfl rfl hN (IG hc hx) kk
def cR{c a b:Operand}{v:Value}(hc:ev ρ c=.bool false)(hx:ev ρ b=v)(hN:d<N)(kk:WL ro P N ops Q rest (sc ρ d v) w):
  WL ro P N ops Q (⟨some d,.pick c a b,ty,pos,af,none⟩::rest) ρ w:=Ia rfl rfl hN (uF hc hx) kk
variable {a b:Int}
def yK(hx:ev ρ x=.int k a)(hy:ev ρ y=.int k b)(hN:d<N)(kk:WL ro P N ops Q rest (sc ρ d (.bool (decide (a=b)))) w):
  WL ro P N ops Q (⟨some d,.binOp .eql t x y u,ty,pos,af,none⟩::rest) ρ w:=Ia rfl rfl hN (TL hx hy) kk
def acw(hx:ev ρ x=.int .i64 a)(hy:ev ρ y=.int .i64 b)(h1: -9223372036854775808<=a+b)(h2:a+b<=9223372036854775807)(hN:d<N)(kk:WL ro P N ops Q rest (sc ρ d (.int .i64 (a+b))) w):
  WL ro P N ops Q (⟨some d,.binOp .add t x y u,ty,pos,af,none⟩::rest) ρ w:=Ia rfl rfl hN (Ys hx hy h1 h2) kk
def abF(hx:ev ρ x=.int .i64 a)(hy:ev ρ y=.int .i64 b)(h1: -9223372036854775808<=a-b)(h2:a-b<=9223372036854775807)(hN:d<N)(kk:WL ro P N ops Q rest (sc ρ d (.int .i64 (a-b))) w):
  WL ro P N ops Q (⟨some d,.binOp .sub t x y u,ty,pos,af,none⟩::rest) ρ w:=Ia rfl rfl hN (sT hx hy h1 h2) kk
def abK(hx:ev ρ x=.int .i64 a)(hy:ev ρ y=.int .i64 b)(h1: -9223372036854775808<=a*b)(h2:a*b<=9223372036854775807)(hN:d<N)(kk:WL ro P N ops Q rest (sc ρ d (.int .i64 (a*b))) w):
  WL ro P N ops Q (⟨some d,.binOp .mul t x y u,ty,pos,af,none⟩::rest) ρ w:=Ia rfl rfl hN (ET hx hy h1 h2) kk
def aW(hx:ev ρ x=.int .i64 a)(h1: -9223372036854775808<= -a)(h2: -a<=9223372036854775807)(hN:d<N)(kk:WL ro P N ops Q rest (sc ρ d (.int .i64 (-a))) w):
  WL ro P N ops Q (⟨some d,.unOp .neg t x,ty,pos,af,none⟩::rest) ρ w:=Ia rfl rfl hN (xV hx h1 h2) kk
def KJ(hx:ev ρ x=.int .i64 a)(hy:ev ρ y=.int .i64 b)(ha:0<=a)(hb:0<b)(h2:a<=9223372036854775807)(hN:d<N)(kk:WL ro P N ops Q rest (sc ρ d (.int .i64 (a/b))) w):
  WL ro P N ops Q (⟨some d,.binOp .quo t x y u,ty,pos,af,none⟩::rest) ρ w:=Ia rfl rfl hN (Ps hx hy ha hb h2) kk
def YS(hx:ev ρ x=.int .i64 a)(hy:ev ρ y=.int .i64 b)(ha:0<=a)(hb:0<b)(hN:d<N)(kk:WL ro P N ops Q rest (sc ρ d (.int .i64 (a % b))) w):
  WL ro P N ops Q (⟨some d,.binOp .rem t x y u,ty,pos,af,none⟩::rest) ρ w:=Ia rfl rfl hN (Ln hx hy ha hb) kk
def adt{t:TypeId}{x:Operand}{b:Bool}(hx:ev ρ x=.bool b)(hN:d<N)(kk:WL ro P N ops Q rest (sc ρ d (.bool !b)) w):
  WL ro P N ops Q (⟨some d,.unOp .not t x,ty,pos,af,none⟩::rest) ρ w:=Ia rfl rfl hN (aaQ hx) kk
variable {a b:Bool}
def Gj(ht:P.underlying t=some .bool)(hx:ev ρ x=.bool a)(hy:ev ρ y=.bool b)(hN:d<N)(kk:WL ro P N ops Q rest (sc ρ d (.bool (a !=b))) w):
  WL ro P N ops Q (⟨some d,.binOp .neq t x y u,ty,pos,af,none⟩::rest) ρ w:=Ia rfl rfl hN (Dl ht hx hy) kk
variable {a b:ByteArray}
def ak(hx:ev ρ x=.string a)(hy:ev ρ y=.string b)(h:a=b)(hN:d<N)(kk:WL ro P N ops Q rest (sc ρ d (.bool true)) w):
  WL ro P N ops Q (⟨some d,.binOp .eql t x y u,ty,pos,af,none⟩::rest) ρ w:=Ia rfl rfl hN (EF hx hy h) kk
def Zj(hx:ev ρ x=.string a)(hy:ev ρ y=.string b)(h:¬a=b)(hN:d<N)(kk:WL ro P N ops Q rest (sc ρ d (.bool false)) w):
  WL ro P N ops Q (⟨some d,.binOp .eql t x y u,ty,pos,af,none⟩::rest) ρ w:=Ia rfl rfl hN (RE hx hy h) kk
def uf(hx:ev ρ x=.string a)(hy:ev ρ y=.string b)(h:¬a=b)(hN:d<N)(kk:WL ro P N ops Q rest (sc ρ d (.bool true)) w):
  WL ro P N ops Q (⟨some d,.binOp .neq t x y u,ty,pos,af,none⟩::rest) ρ w:=Ia rfl rfl hN (jG hx hy h) kk
def vf(hx:ev ρ x=.string a)(hy:ev ρ y=.string b)(h:a=b)(hN:d<N)(kk:WL ro P N ops Q rest (sc ρ d (.bool false)) w):
  WL ro P N ops Q (⟨some d,.binOp .neq t x y u,ty,pos,af,none⟩::rest) ρ w:=Ia rfl rfl hN (sH hx hy h) kk
def Ct(hx:ev ρ x=.string a)(hy:ev ρ y=.string b)(hN:d<N)(kk:WL ro P N ops Q rest (sc ρ d (.bool (Op.bytesLess a.toList b.toList))) w):
  WL ro P N ops Q (⟨some d,.binOp .lss t x y u,ty,pos,af,none⟩::rest) ρ w:=Ia rfl rfl hN (HN hx hy) kk
def pP(hx:ev ρ x=.string a)(hy:ev ρ y=.string b)(hN:d<N)(kk:WL ro P N ops Q rest (sc ρ d (.bool !(Op.bytesLess a.toList b.toList||a.toList==b.toList))) w):
  WL ro P N ops Q (⟨some d,.binOp .gtr t x y u,ty,pos,af,none⟩::rest) ρ w:=Ia rfl rfl hN (oP hx hy) kk
def Uz(hx:ev ρ x=.string a)(hy:ev ρ y=.string b)(hN:d<N)(kk:WL ro P N ops Q rest (sc ρ d (.bool !(Op.bytesLess a.toList b.toList))) w):
  WL ro P N ops Q (⟨some d,.binOp .geq t x y u,ty,pos,af,none⟩::rest) ρ w:=Ia rfl rfl hN (OO hx hy) kk
def QI{s t:TypeId}{x:Operand}{k k':IntKind}{a:Int}{sd:TypeDesc}(hs:P.underlying s=some sd)(ht:P.underlying t=some (.int k))(hx:ev ρ x=.int k' a)(hN:d<N)(kk:WL ro P N ops Q rest (sc ρ d (.int k (k.wrap a))) w):
  WL ro P N ops Q (⟨some d,.convert s t x,ty,pos,af,none⟩::rest) ρ w:=Ia rfl rfl hN (tm hs ht hx) kk
def Hy{s t:TypeId}{x:Operand}{k':IntKind}{a:Int}{sd:TypeDesc}(hs:P.underlying s=some sd)(ht:P.underlying t=some (.int .i64))(hx:ev ρ x=.int k' a)(h1: -9223372036854775808<=a)(h2:a<=9223372036854775807)(hN:d<N)(kk:WL ro P N ops Q rest (sc ρ d (.int .i64 a)) w):
  WL ro P N ops Q (⟨some d,.convert s t x,ty,pos,af,none⟩::rest) ρ w:=Ia rfl rfl hN (Jx hs ht hx h1 h2) kk
def wO{x:Operand}{i:Nat}{vs:List Value}{v:Value}(hx:ev ρ x=.tuple vs.toArray)(hv:vs[i]?=some v)(hN:d<N)(kk:WL ro P N ops Q rest (sc ρ d v) w):
  WL ro P N ops Q (⟨some d,.extract x i,ty,pos,af,none⟩::rest) ρ w:=Ia rfl rfl hN (Ke hx hv) kk
def NH{fn:Fn}{first captured:Array Operand}{fs cs:List Value}(hf:Dz ρ first.toList=fs)(hc:Dz ρ captured.toList=cs)(hN:d<N)(kk:WL ro P N ops Q rest (sc ρ d (.func fn fs.toArray cs.toArray)) w):
  WL ro P N ops Q (⟨some d,.makeFunc fn first captured,ty,pos,af,none⟩::rest) ρ w:=Ia rfl rfl hN (YJ hf hc) kk
def Ft{x:Operand}{t:TypeId}{s:ByteArray}(ht:P.underlying t=some .string)(hx:ev ρ x=.string s)(hN:d<N)(kk:WL ro P N ops Q rest (sc ρ d (.int .i64 s.size)) w):
  WL ro P N ops Q (⟨some d,.call ⟨.builtin .len, #[x], #[t]⟩,ty,pos,af,none⟩::rest) ρ w:=Ia rfl rfl hN (BN ht hx) kk
def KU{x:Operand}{t e:TypeId}{A:Option Addr}{n c:Nat}(ht:P.underlying t=some (.slice e))(hx:ev ρ x=.slice A n c)(hN:d<N)(kk:WL ro P N ops Q rest (sc ρ d (.int .i64 n)) w):
  WL ro P N ops Q (⟨some d,.call ⟨.builtin .len, #[x], #[t]⟩,ty,pos,af,none⟩::rest) ρ w:=Ia rfl rfl hN (iG ht hx) kk
def aeN{x y:Operand}{ts:Array TypeId}{k:IntKind}{a b:Int}(hx:ev ρ x=.int k a)(hy:ev ρ y=.int k b)(hN:d<N)(kk:WL ro P N ops Q rest (sc ρ d (.int k (if b<a then b else a))) w):
  WL ro P N ops Q (⟨some d,.call ⟨.builtin .min, #[x,y],ts⟩,ty,pos,af,none⟩::rest) ρ w:=Ia rfl rfl hN (adg hx hy) kk
def ad9{x y:Operand}{ts:Array TypeId}{k:IntKind}{a b:Int}(hx:ev ρ x=.int k a)(hy:ev ρ y=.int k b)(hN:d<N)(kk:WL ro P N ops Q rest (sc ρ d (.int k (if b>a then b else a))) w):
  WL ro P N ops Q (⟨some d,.call ⟨.builtin .max, #[x,y],ts⟩,ty,pos,af,none⟩::rest) ρ w:=Ia rfl rfl hN (adX hx hy) kk
def Cu{t:TypeId}{x i:Operand}{s:ByteArray}{n:Int}{k:IntKind}{c:UInt8}(ht:P.underlying t=some .string)(hx:ev ρ x=.string s)(hi:ev ρ i=.int k n) (h0:0<=n)(hc:s.data.toList[n.toNat]?=some c)(hN:d<N)(kk:WL ro P N ops Q rest (sc ρ d (.int .u8 c.toNat)) w):
  WL ro P N ops Q (⟨some d,.index t x i,ty,pos,af,none⟩::rest) ρ w:=Ia rfl rfl hN (Lu ht hx hi h0 hc) kk
def Ou{t:TypeId}{x:Operand}{lo hi:Option Operand}{s:ByteArray}{l h:Nat}(ht:P.underlying t=some .string)(hx:ev ρ x=.string s) (hlo:match lo with|none=>l=0|some o=>∃(k:IntKind)(n:Int),ev ρ o=.int k n/\n=l)(hhi:match hi with|none=>h=s.size|some o=>∃(k:IntKind)(n:Int),ev ρ o=.int k n/\n=h) (h1:l<=h)(h2:h<=s.size)(hN:d<N)(kk:WL ro P N ops Q rest (sc ρ d (.string (s.extract l h))) w):
  WL ro P N ops Q (⟨some d,.slice t x lo hi none,ty,pos,af,none⟩::rest) ρ w:=Ia rfl rfl hN (tG ht hx hlo hhi h1 h2) kk
def PG{t e:TypeId}{x i:Operand}{ad:Addr}{n c sz:Nat}{k:IntKind}{m:Int}(ht:P.underlying t=some (.slice e))(hsz:(P.info? e).map (·.size)=some sz)(hx:ev ρ x=.slice (some ad) n c)(hi:ev ρ i=.int k m) (h0:0<=m)(h1:m<n)(hN:d<N)(kk:WL ro P N ops Q rest (sc ρ d (.pointer (some (ad.add (m.toNat*sz))))) w):
  WL ro P N ops Q (⟨some d,.indexAddr t x i,ty,pos,af,none⟩::rest) ρ w:=Ia rfl rfl hN (Se ht hsz hx hi h0 h1) kk
def Nd{t e:TypeId}{x i:Operand}{b n c sz k:Nat}{kk:IntKind}{m:Int}(ht:P.underlying t=some (.slice e))(hsz:(P.info? e).map (·.size)=some sz)(hx:ev ρ x=.slice (some ⟨b,0,none⟩) n c)(hi:ev ρ i=.int kk m) (hm:m=(k:Int))(h1:k<n)(hN:d<N)(kk:WL ro P N ops Q rest (sc ρ d (.pointer (some ⟨b,k*sz,none⟩))) w):
  WL ro P N ops Q (⟨some d,.indexAddr t x i,ty,pos,af,none⟩::rest) ρ w:=Ia rfl rfl hN (Np ht hsz hx hi hm h1) kk
def wb{t:TypeId}{x:Operand}{ad:Addr}{n by':Nat}{zc vs:List Value}(ht:Dd P t=some (n,true,by',zc))(hx:ev ρ x=.pointer (some ad))(hr:Rd w ad vs)(hl:vs.length=n)(hN:d<N)(kk:WL ro P N ops Q rest (sc ρ d (.agg vs.toArray)) w):
  WL ro P N ops Q (⟨some d,.load t x,ty,pos,af,none⟩::rest) ρ w:=Ia rfl rfl hN (Uv ht hx hr hl) kk
def ub{t:TypeId}{x:Operand}{ad:Addr}{n by':Nat}{zc:List Value}{v:Value}(ht:Dd P t=some (n,false,by',zc))(hx:ev ρ x=.pointer (some ad))(hc:w.cell? ad=some v)(hN:d<N)(kk:WL ro P N ops Q rest (sc ρ d v) w):
  WL ro P N ops Q (⟨some d,.load t x,ty,pos,af,none⟩::rest) ρ w:=Ia rfl rfl hN (Tg ht hx hc) kk
def TE{s:TypeId}{x:Operand}{f b o off:Nat}{ft:TypeId}(hf:qf P s f=some (off,ft))(hx:ev ρ x=.pointer (some ⟨b,o,none⟩))(hN:d<N)(kk:WL ro P N ops Q rest (sc ρ d (.pointer (some ⟨b,o+off,none⟩))) w):
  WL ro P N ops Q (⟨some d,.fieldAddr s x f,ty,pos,af,none⟩::rest) ρ w:=Ia rfl rfl hN (iu hf hx) kk
def Fl{s:TypeId}{x:Operand}{f off:Nat}{ad:Addr}{ft:TypeId}(hf:qf P s f=some (off,ft))(hx:ev ρ x=.pointer (some ad))(hN:d<N)(kk:WL ro P N ops Q rest (sc ρ d (.pointer (some (ad.add off)))) w):
  WL ro P N ops Q (⟨some d,.fieldAddr s x f,ty,pos,af,none⟩::rest) ρ w:=Ia rfl rfl hN (Fq hf hx) kk
def VU{s:TypeId}{x:Operand}{f off n by':Nat}{ft:TypeId}{cs:Array Value}{v:Value}{zc:List Value}(hf:qf P s f=some (off,ft))(ht:Dd P ft=some (n,false,by',zc))(hx:ev ρ x=.agg cs)(hv:cs[off]?=some v)(hN:d<N)(kk:WL ro P N ops Q rest (sc ρ d v) w):
  WL ro P N ops Q (⟨some d,.field s x f,ty,pos,af,none⟩::rest) ρ w:=Ia rfl rfl hN (mV hf ht hx hv) kk
def zY{s:TypeId}{x:Operand}{f off n by':Nat}{ft:TypeId}{cs vs:Array Value}{zc:List Value}(hf:qf P s f=some (off,ft))(ht:Dd P ft=some (n,true,by',zc))(hx:ev ρ x=.agg cs)(hv:cs.extract off (off+n)=vs)(hN:d<N)(kk:WL ro P N ops Q rest (sc ρ d (.agg vs)) w):
  WL ro P N ops Q (⟨some d,.field s x f,ty,pos,af,none⟩::rest) ρ w:=Ia rfl rfl hN (kW hf ht hx hv) kk
def gY{t:TypeId}{n by':Nat}{parts:Array (Nat×Operand)}{ps:List (Nat×Value)}{zc cs:List Value}{pl:List (Nat×Nat)}(hte:Dd P t=some (n,true,by',zc)) (hpl:Zr P t=some pl) (hp:vD ρ parts.toList=ps)(hf:Wk (pl[·]?) zc ps=some cs)(hN:d<N)(kk:WL ro P N ops Q rest (sc ρ d (.agg cs.toArray)) w):
  WL ro P N ops Q (⟨some d,.build t parts,ty,pos,af,none⟩::rest) ρ w:=Ia rfl rfl hN (HD hte hpl hp hf) kk
def nu{s t e:TypeId}{x:Operand}{A:Option Addr}{n c:Nat}{l:List UInt8}(hs:P.underlying s=some (.slice e))(he:P.underlying e=some (.int .u8))(ht:P.underlying t=some .string) (hx:ev ρ x=.slice A n c)(h:Sl w A n 1 (ij l))(hN:d<N)(kk:WL ro P N ops Q rest (sc ρ d (.string ⟨l.toArray⟩)) w):
  WL ro P N ops Q (⟨some d,.convert s t x,ty,pos,af,none⟩::rest) ρ w:=Ia rfl rfl hN (ik hs he ht hx h) kk
variable {a b:Nat}
def Ye[UK k q M](hx:ev ρ x=.int k (a:Int))(hy:ev ρ y=.int k (b:Int))(hN:d<N)(kk:WL ro P N ops Q rest (sc ρ d (.int k (((a+b) % M:Nat):Int))) w):
  WL ro P N ops Q (⟨some d,.binOp .add t x y u,ty,pos,af,none⟩::rest) ρ w:=Ia rfl rfl hN (abe hx hy) kk
def Up[UK k q M](hx:ev ρ x=.int k (a:Int))(hy:ev ρ y=.int k (b:Int))(hb:b<=M)(hN:d<N)(kk:WL ro P N ops Q rest (sc ρ d (.int k (((a+M-b) % M:Nat):Int))) w):
  WL ro P N ops Q (⟨some d,.binOp .sub t x y u,ty,pos,af,none⟩::rest) ρ w:=Ia rfl rfl hN (acu hx hy hb) kk
def Df[UK k q M](hx:ev ρ x=.int k (a:Int))(hy:ev ρ y=.int k (b:Int))(hN:d<N)(kk:WL ro P N ops Q rest (sc ρ d (.int k (((a*b) % M:Nat):Int))) w):
  WL ro P N ops Q (⟨some d,.binOp .mul t x y u,ty,pos,af,none⟩::rest) ρ w:=Ia rfl rfl hN (acD hx hy) kk
def XH[UK k q M](hx:ev ρ x=.int k (a:Int))(hy:ev ρ y=.int k (b:Int))(hb:0<b)(ha:a<M)(hN:d<N)(kk:WL ro P N ops Q rest (sc ρ d (.int k ((a/b:Nat):Int))) w):
  WL ro P N ops Q (⟨some d,.binOp .quo t x y u,ty,pos,af,none⟩::rest) ρ w:=Ia rfl rfl hN (cW hx hy hb ha) kk
def SJ(hx:ev ρ x=.int k (a:Int))(hy:ev ρ y=.int k (b:Int))(hb:0<b)(hN:d<N)(kk:WL ro P N ops Q rest (sc ρ d (.int k ((a % b:Nat):Int))) w):
  WL ro P N ops Q (⟨some d,.binOp .rem t x y u,ty,pos,af,none⟩::rest) ρ w:=Ia rfl rfl hN (aV hx hy hb) kk
def aeO[h:UK k q M](hx:ev ρ x=.int k (a:Int))(hy:ev ρ y=.int k (b:Int))(ha:a<M)(hb:b<M)(hN:d<N)(kk:WL ro P N ops Q rest (sc ρ d (.int k ((a|||b:Nat):Int))) w):
  WL ro P N ops Q (⟨some d,.binOp .or t x y u,ty,pos,af,none⟩::rest) ρ w:=Ia rfl rfl hN (aeB hx hy ha hb) kk
def TI[h:UK k q M](hx:ev ρ x=.int k (a:Int))(hy:ev ρ y=.int k (b:Int))(ha:a<M)(hb:b<M)(hN:d<N)(kk:WL ro P N ops Q rest (sc ρ d (.int k ((a &&& b:Nat):Int))) w):
  WL ro P N ops Q (⟨some d,.binOp .and t x y u,ty,pos,af,none⟩::rest) ρ w:=Ia rfl rfl hN (abX hx hy ha hb) kk
def rJ[h:UK k q M]{k':IntKind}{s:Int}(hx:ev ρ x=.int k (a:Int))(hy:ev ρ y=.int k' s)(hs:0<=s/\s<=q)(hN:d<N)(kk:WL ro P N ops Q rest (sc ρ d (.int k (((a*2^s.toNat) % M:Nat):Int))) w):
  WL ro P N ops Q (⟨some d,.binOp .shl t x y u,ty,pos,af,none⟩::rest) ρ w:=Ia rfl rfl hN (nx hx hy hs) kk
def nw[h:UK k q M]{k':IntKind}{s:Int}(hx:ev ρ x=.int k (a:Int))(hy:ev ρ y=.int k' s)(hs:0<=s/\s<=q)(hN:d<N)(kk:WL ro P N ops Q rest (sc ρ d (.int k ((a/2^s.toNat:Nat):Int))) w):
  WL ro P N ops Q (⟨some d,.binOp .shr t x y u,ty,pos,af,none⟩::rest) ρ w:=Ia rfl rfl hN (IH hx hy hs) kk
def Kl[UK k q M]{k':IntKind}{s m:Nat}(hx:ev ρ x=.int k (a:Int))(hy:ev ρ y=.int k' (s:Int))(hs:s<=q)(hm:2^s=m)(hN:d<N)(kk:WL ro P N ops Q rest (sc ρ d (.int k ((a/m:Nat):Int))) w):
  WL ro P N ops Q (⟨some d,.binOp .shr t x y u,ty,pos,af,none⟩::rest) ρ w:=Ia rfl rfl hN (zX hx hy hs hm) kk
def JT[h:UK k q M](hx:ev ρ x=.int k (a:Int))(ha:a<=M)(hN:d<N)(kk:WL ro P N ops Q rest (sc ρ d (.int k (((M-a) % M:Nat):Int))) w):
  WL ro P N ops Q (⟨some d,.unOp .neg t x,ty,pos,af,none⟩::rest) ρ w:=Ia rfl rfl hN (abP hx ha) kk
def mY[UK k q M]{s t:TypeId}{k':IntKind}{sd:TypeDesc}(hs:P.underlying s=some sd)(ht:P.underlying t=some (.int k))(hx:ev ρ x=.int k' (a:Int))(hN:d<N)(kk:WL ro P N ops Q rest (sc ρ d (.int k ((a % M:Nat):Int))) w):
  WL ro P N ops Q (⟨some d,.convert s t x,ty,pos,af,none⟩::rest) ρ w:=Ia rfl rfl hN (rW hs ht hx) kk
def vJ[UK k q M]{s t:TypeId}{k':IntKind}{sd:TypeDesc}(hs:P.underlying s=some sd)(ht:P.underlying t=some (.int k))(hx:ev ρ x=.int k' (a:Int))(ha:a<M)(hN:d<N)(kk:WL ro P N ops Q rest (sc ρ d (.int k (a:Int))) w):
  WL ro P N ops Q (⟨some d,.convert s t x,ty,pos,af,none⟩::rest) ρ w:=Ia rfl rfl hN (Iy hs ht hx ha) kk
variable {a b:Int}
def nY(hx:ev ρ x=.int k a)(hy:ev ρ y=.int k b)(hN:d<N)(kk:WL ro P N ops Q rest (sc ρ d (.bool (decide (a<b)))) w):
  WL ro P N ops Q (⟨some d,.binOp .lss t x y u,ty,pos,af,none⟩::rest) ρ w:=Ia rfl rfl hN (BM hx hy) kk
def oW(hx:ev ρ x=.int k a)(hy:ev ρ y=.int k b)(hN:d<N)(kk:WL ro P N ops Q rest (sc ρ d (.bool (decide (a<=b)))) w):
  WL ro P N ops Q (⟨some d,.binOp .leq t x y u,ty,pos,af,none⟩::rest) ρ w:=Ia rfl rfl hN (uX hx hy) kk
def fY(hx:ev ρ x=.int k a)(hy:ev ρ y=.int k b)(hN:d<N)(kk:WL ro P N ops Q rest (sc ρ d (.bool (decide (b<a)))) w):
  WL ro P N ops Q (⟨some d,.binOp .gtr t x y u,ty,pos,af,none⟩::rest) ρ w:=Ia rfl rfl hN (fM hx hy) kk
def mW(hx:ev ρ x=.int k a)(hy:ev ρ y=.int k b)(hN:d<N)(kk:WL ro P N ops Q rest (sc ρ d (.bool (decide (b<=a)))) w):
  WL ro P N ops Q (⟨some d,.binOp .geq t x y u,ty,pos,af,none⟩::rest) ρ w:=Ia rfl rfl hN (TW hx hy) kk
def WY(hx:ev ρ x=.int k a)(hy:ev ρ y=.int k b)(hN:d<N)(kk:WL ro P N ops Q rest (sc ρ d (.bool (decide (a≠b)))) w):
  WL ro P N ops Q (⟨some d,.binOp .neq t x y u,ty,pos,af,none⟩::rest) ρ w:=Ia rfl rfl hN (oM hx hy) kk
variable {a b:Bool}
def QK(ht:P.underlying t=some .bool)(hx:ev ρ x=.bool a)(hy:ev ρ y=.bool b)(h:a=b)(hN:d<N)(kk:WL ro P N ops Q rest (sc ρ d (.bool true)) w):
  WL ro P N ops Q (⟨some d,.binOp .eql t x y u,ty,pos,af,none⟩::rest) ρ w:=Ia rfl rfl hN (EY ht hx hy h) kk
def KX(ht:P.underlying t=some .bool)(hx:ev ρ x=.bool a)(hy:ev ρ y=.bool b)(h:¬a=b)(hN:d<N)(kk:WL ro P N ops Q rest (sc ρ d (.bool false)) w):
  WL ro P N ops Q (⟨some d,.binOp .eql t x y u,ty,pos,af,none⟩::rest) ρ w:=Ia rfl rfl hN (KY ht hx hy h) kk
def JL(ht:P.underlying t=some .bool)(hx:ev ρ x=.bool a)(hy:ev ρ y=.bool b)(h:¬a=b)(hN:d<N)(kk:WL ro P N ops Q rest (sc ρ d (.bool true)) w):
  WL ro P N ops Q (⟨some d,.binOp .neq t x y u,ty,pos,af,none⟩::rest) ρ w:=Ia rfl rfl hN (GW ht hx hy h) kk
def DY(ht:P.underlying t=some .bool)(hx:ev ρ x=.bool a)(hy:ev ρ y=.bool b)(h:a=b)(hN:d<N)(kk:WL ro P N ops Q rest (sc ρ d (.bool false)) w):
  WL ro P N ops Q (⟨some d,.binOp .neq t x y u,ty,pos,af,none⟩::rest) ρ w:=Ia rfl rfl hN (vX ht hx hy h) kk
def zd{t e:TypeId}{x i:Operand}{ad:Addr}{n c sz k:Nat}{kk:IntKind}{m:Int}(ht:P.underlying t=some (.slice e))(hsz:(P.info? e).map (·.size)=some sz)(hx:ev ρ x=.slice (some ad) n c)(hi:ev ρ i=.int kk m) (hm:m=(k:Int))(h1:k<n)(hN:d<N)(kk:WL ro P N ops Q rest (sc ρ d (.pointer (some (ad.add (k*sz))))) w):
  WL ro P N ops Q (⟨some d,.indexAddr t x i,ty,pos,af,none⟩::rest) ρ w:=Ia rfl rfl hN (lg ht hsz hx hi hm h1) kk
def Gl{t e:TypeId}{x i:Operand}{b o n c sz k:Nat}{kk:IntKind}{m:Int}(ht:P.underlying t=some (.slice e))(hsz:(P.info? e).map (·.size)=some sz)(hx:ev ρ x=.slice (some ⟨b,o,none⟩) n c)(hi:ev ρ i=.int kk m) (hm:m=(k:Int))(h1:k<n)(hN:d<N)(kk:WL ro P N ops Q rest (sc ρ d (.pointer (some ⟨b,o+k*sz,none⟩))) w):
  WL ro P N ops Q (⟨some d,.indexAddr t x i,ty,pos,af,none⟩::rest) ρ w:=Ia rfl rfl hN (UI ht hsz hx hi hm h1) kk
def WH{t e:TypeId}{x i:Operand}{ad:Addr}{n sz k:Nat}{kk:IntKind}{m:Int}(ht:P.underlying t=some (.array n e))(hsz:(P.info? e).map (·.size)=some sz)(hx:ev ρ x=.pointer (some ad))(hi:ev ρ i=.int kk m) (hm:m=(k:Int))(h1:k<n)(hN:d<N)(kk:WL ro P N ops Q rest (sc ρ d (.pointer (some (ad.add (k*sz))))) w):
  WL ro P N ops Q (⟨some d,.indexAddr t x i,ty,pos,af,none⟩::rest) ρ w:=Ia rfl rfl hN (sI ht hsz hx hi hm h1) kk
def Pn{t e:TypeId}{x hi:Operand}{A:Option Addr}{n c h sz:Nat}{k:IntKind}{m:Int}(ht:P.underlying t=some (.slice e))(hsz:(P.info? e).map (·.size)=some sz)(hx:ev ρ x=.slice A n c)(hhi:ev ρ hi=.int k m) (hm:m=(h:Int))(h2:h<=c)(hN:d<N)(kk:WL ro P N ops Q rest (sc ρ d (.slice A h c)) w):
  WL ro P N ops Q (⟨some d,.slice t x none (some hi) none,ty,pos,af,none⟩::rest) ρ w:=Ia rfl rfl hN (Uw ht hsz hx hhi hm h2) kk
def ZH{t e:TypeId}{x lo:Operand}{b o n c l sz:Nat}{k:IntKind}{m:Int}(ht:P.underlying t=some (.slice e))(hsz:(P.info? e).map (·.size)=some sz)(hx:ev ρ x=.slice (some ⟨b,o,none⟩) n c)(hlo:ev ρ lo=.int k m) (hm:m=(l:Int))(h1:l<=n)(h2:n<=c)(h3:l<c)(hN:d<N)(kk:WL ro P N ops Q rest (sc ρ d (.slice (some ⟨b,o+l*sz,none⟩) (n-l) (c-l))) w):
  WL ro P N ops Q (⟨some d,.slice t x (some lo) none none,ty,pos,af,none⟩::rest) ρ w:=Ia rfl rfl hN (eJ ht hsz hx hlo hm h1 h2 h3) kk
def rH{t e:TypeId}{x lo:Operand}{ad:Addr}{n c l sz:Nat}{k:IntKind}{m:Int}(ht:P.underlying t=some (.slice e))(hsz:(P.info? e).map (·.size)=some sz)(hx:ev ρ x=.slice (some ad) n c)(hlo:ev ρ lo=.int k m) (hm:m=(l:Int))(h1:l<=n)(h2:n<=c)(h3:l<c)(hN:d<N)(kk:WL ro P N ops Q rest (sc ρ d (.slice (some (ad.add (l*sz))) (n-l) (c-l))) w):
  WL ro P N ops Q (⟨some d,.slice t x (some lo) none none,ty,pos,af,none⟩::rest) ρ w:=Ia rfl rfl hN (DH ht hsz hx hlo hm h1 h2 h3) kk
def Fb:Dz ρ []=[]:=rfl
def Ga{x:Operand}{l:List Operand}{v:Value}{r:List Value}(hx:ev ρ x=v)(h:Dz ρ l=r):Dz ρ (x::l)=v::r:=by simp only[Dz,hx,h]
def oe:vD ρ []=[]:=rfl
def Rb{i:Nat}{x:Operand}{l:List (Nat×Operand)}{v:Value}{r:List (Nat×Value)}(hx:ev ρ x=v)(h:vD ρ l=r):vD ρ ((i,x)::l)=(i,v)::r:=by simp only[vD,hx,h]
def dK(P:Program)(f:FuncId):Bool:=match P.funcs[f]? with|some fn=> !fn.body.isNone && !(fn.name== "runtime.NumGoroutine")|none=>false
def Pz{P:Program}{f:FuncId}(h:dK P f=true):∃fn,P.funcs[f]?=some fn/\fn.body.isNone=false/\(fn.name== "runtime.NumGoroutine")=false:=by
 unfold dK at h;split at h
 .rename_i fn hf;simp only[Q_,z7] at h;exact⟨fn,hf,h.1,h.2⟩
 cases h
def qb{dd:Option Nat}{g:Option (Nat×Bool)}{f:FuncId}{args:Array Operand}{ts:Array TypeId}{vs:List Value}(hf:dK P f=true)(ha:Dz ρ args.toList=vs):(execOp (ev ρ) ⟨dd,.call ⟨.value (.func f),args,ts⟩,ty,pos,af,g⟩).run P w=.ok (.enter f vs.toArray) w:=by
 obtain⟨fn,h1,h2,h3⟩:=Pz hf;have:=XV (P:=P) (w:=w) (d:=dd) (ty:=ty) (pos:=pos) (af:=af) (g:=g) (ts:=ts) h1 h2 h3 (show ev ρ (.func f)=.func (.func f) #[] #[] from rfl) (rq args ha);simpa using this
def ON{dd:Option Nat}{g:Option (Nat×Bool)}{x:Operand}{f:FuncId}{args:Array Operand}{ts:Array TypeId}{first cap vs:List Value}(hf:dK P f=true)(hx:ev ρ x=.func (.func f) first.toArray cap.toArray)(ha:first++(Dz ρ args.toList++cap)=vs):(execOp (ev ρ) ⟨dd,.call ⟨.value x,args,ts⟩,ty,pos,af,g⟩).run P w=.ok (.enter f vs.toArray) w:=by
 obtain⟨fn,h1,h2,h3⟩:=Pz hf;have:=XV (P:=P) (w:=w) (d:=dd) (ty:=ty) (pos:=pos) (af:=af) (g:=g) (ts:=ts) h1 h2 h3 hx (rq args rfl);subst ha;simpa using this
def qa{f:FuncId}{args:Array Operand}{ts:Array TypeId}{vs:List Value}{R:Ending->World->Prop}(hc:Calls P f vs.toArray w R)(hf:dK P f=true)(ha:Dz ρ args.toList=vs)(hN:d<N) (kk:∀e w',R e w'->∃v,e=.returned v/\WL ro P N ops Q rest (sc ρ d v) w'):WL ro P N ops Q (⟨some d,.call ⟨.value (.func f),args,ts⟩,ty,pos,af,none⟩::rest) ρ w:=
 VG rfl rfl hN (qb hf ha) hc kk
def qi{x:Operand}{f:FuncId}{args:Array Operand}{ts:Array TypeId}{first cap vs:List Value}{R:Ending->World->Prop}(hc:Calls P f vs.toArray w R)(hf:dK P f=true)(hx:ev ρ x=.func (.func f) first.toArray cap.toArray)(ha:first++(Dz ρ args.toList++cap)=vs)(hN:d<N) (kk:∀e w',R e w'->∃v,e=.returned v/\WL ro P N ops Q rest (sc ρ d v) w'):WL ro P N ops Q (⟨some d,.call ⟨.value x,args,ts⟩,ty,pos,af,none⟩::rest) ρ w:=
 VG rfl rfl hN (ON hf hx ha) hc kk
set_option maxRecDepth 100000
class lb(P:Program)(t:TypeId)(d:outParam TypeDesc):Prop where out:P.underlying t=some d:=by kernel_rfl
variable {b:Nat}
class ya(P:Program)(t:TypeId)(n:outParam Nat)(ag:outParam Bool)(b:outParam Nat)(zc:outParam (List Value)):Prop where out:Dd P t=some (n,ag,b,zc):=by kernel_rfl
class Wd(P:Program)(s:TypeId)(f:Nat)(off:outParam Nat)(ft:outParam TypeId):Prop where out:qf P s f=some (off,ft):=by kernel_rfl
class Qi(P:Program)(s:TypeId)(pl:outParam (List (Nat×Nat))):Prop where out:Zr P s=some pl:=by kernel_rfl
class ja(P:Program)(f:FuncId):Prop where out:dK P f=true:=by kernel_rfl
def ya.size{t:TypeId}[h:ya P t n ag b zc]:(P.info? t).map (·.size)=some n:=by
 obtain⟨i,z,d,hi,hd,hz,hs,_⟩:=bf h.out;rw[hi,M8,hs]
instance:lb prog 2 (.int .i64):={}
instance:ya prog 2 1 false 8 [.int .i64 0]:={}
instance:lb prog 3 (.int .i64):={}
instance:ya prog 3 1 false 8 [.int .i64 0]:={}
instance:lb prog 4 (.bool):={}
instance:ya prog 4 1 false 1 [.bool false]:={}
instance:lb prog 5 (.int .u8):={}
instance:ya prog 5 1 false 1 [.int .u8 0]:={}
instance:lb prog 6 (.int .u8):={}
instance:ya prog 6 1 false 1 [.int .u8 0]:={}
instance:ya prog 7 4 true 24 [.int .i64 0,.int .i64 0,.bool false,.int .u8 0]:={}
instance:Wd prog 7 0 0 2:={}
instance:Wd prog 7 1 1 3:={}
instance:Wd prog 7 2 2 4:={}
instance:Wd prog 7 3 3 6:={}
instance:Qi prog 7 [(0,1),(1,1),(2,1),(3,1)]:={}
instance:ya prog 8 4 true 24 [.int .i64 0,.int .i64 0,.bool false,.int .u8 0]:={}
instance:Wd prog 8 0 0 2:={}
instance:Wd prog 8 1 1 3:={}
instance:Wd prog 8 2 2 4:={}
instance:Wd prog 8 3 3 6:={}
instance:Qi prog 8 [(0,1),(1,1),(2,1),(3,1)]:={}
instance:lb prog 9 (.string):={}
instance:ya prog 9 1 false 16 [.string { data:= #[] }]:={}
instance:lb prog 10 (.string):={}
instance:ya prog 10 1 false 16 [.string { data:= #[] }]:={}
instance:lb prog 11 (.string):={}
instance:ya prog 11 1 false 16 [.string { data:= #[] }]:={}
instance:lb prog 12 (.int .u64):={}
instance:ya prog 12 1 false 8 [.int .u64 0]:={}
instance:ya prog 13 2 true 24 [.string { data:= #[] },.int .u64 0]:={}
instance:Wd prog 13 0 0 9:={}
instance:Wd prog 13 1 1 12:={}
instance:Qi prog 13 [(0,1),(1,1)]:={}
instance:ya prog 14 2 true 24 [.string { data:= #[] },.int .u64 0]:={}
instance:Wd prog 14 0 0 9:={}
instance:Wd prog 14 1 1 12:={}
instance:Qi prog 14 [(0,1),(1,1)]:={}
instance:lb prog 15 (.pointer 347):={}
instance:ya prog 15 1 false 8 [.pointer none]:={}
instance:lb prog 16 (.pointer 350):={}
instance:ya prog 16 1 false 8 [.pointer none]:={}
instance:lb prog 17 (.pointer 359):={}
instance:ya prog 17 1 false 8 [.pointer none]:={}
instance:ya prog 18 1 true 8 [.pointer none]:={}
instance:Wd prog 18 0 0 17:={}
instance:Qi prog 18 [(0,1)]:={}
instance:ya prog 19 1 true 8 [.pointer none]:={}
instance:Wd prog 19 0 0 17:={}
instance:Qi prog 19 [(0,1)]:={}
instance:lb prog 21 (.int .i32):={}
instance:ya prog 21 1 false 4 [.int .i32 0]:={}
instance:lb prog 22 (.slice 72):={}
instance:ya prog 22 1 false 24 [.slice none 0 0]:={}
instance:ya prog 23 2 true 32 [.int .i64 0,.slice none 0 0]:={}
instance:Wd prog 23 0 0 3:={}
instance:Wd prog 23 1 1 22:={}
instance:Qi prog 23 [(0,1),(1,1)]:={}
instance:ya prog 24 2 true 32 [.int .i64 0,.slice none 0 0]:={}
instance:Wd prog 24 0 0 3:={}
instance:Wd prog 24 1 1 22:={}
instance:Qi prog 24 [(0,1),(1,1)]:={}
instance:lb prog 25 (.slice 36):={}
instance:ya prog 25 1 false 24 [.slice none 0 0]:={}
instance:lb prog 26 (.slice 36):={}
instance:ya prog 26 1 false 24 [.slice none 0 0]:={}
instance:ya prog 27 2 true 24 [.bool false,.string { data:= #[] }]:={}
instance:Wd prog 27 0 0 4:={}
instance:Wd prog 27 1 1 9:={}
instance:Qi prog 27 [(0,1),(1,1)]:={}
instance:ya prog 28 2 true 24 [.bool false,.string { data:= #[] }]:={}
instance:Wd prog 28 0 0 4:={}
instance:Wd prog 28 1 1 9:={}
instance:Qi prog 28 [(0,1),(1,1)]:={}
instance:ya prog 29 3 true 32 [.bool false,.string { data:= #[] },.int .i64 0]:={}
instance:Wd prog 29 0 0 28:={}
instance:Wd prog 29 1 2 3:={}
instance:Qi prog 29 [(0,2),(2,1)]:={}
instance:ya prog 30 3 true 32 [.bool false,.string { data:= #[] },.int .i64 0]:={}
instance:Wd prog 30 0 0 28:={}
instance:Wd prog 30 1 2 3:={}
instance:Qi prog 30 [(0,2),(2,1)]:={}
instance:ya prog 35 6 true 64 [.bool false,.string { data:= #[] },.int .i64 0,.bool false,.string { data:= #[] },.int .i64 0]:={}
instance:Wd prog 35 0 0 30:={}
instance:Wd prog 35 1 3 30:={}
instance:Qi prog 35 [(0,3),(3,3)]:={}
instance:ya prog 36 6 true 64 [.bool false,.string { data:= #[] },.int .i64 0,.bool false,.string { data:= #[] },.int .i64 0]:={}
instance:Wd prog 36 0 0 30:={}
instance:Wd prog 36 1 3 30:={}
instance:Qi prog 36 [(0,3),(3,3)]:={}
instance:lb prog 37 (.slice 30):={}
instance:ya prog 37 1 false 24 [.slice none 0 0]:={}
instance:lb prog 38 (.slice 30):={}
instance:ya prog 38 1 false 24 [.slice none 0 0]:={}
instance:ya prog 39 8 true 96 [.int .i64 0,.bool false,.string { data:= #[] },.int .i64 0,.bool false,.string { data:= #[] },.int .i64 0,.slice none 0 0]:={}
instance:Wd prog 39 0 0 3:={}
instance:Wd prog 39 1 1 36:={}
instance:Wd prog 39 2 7 38:={}
instance:Qi prog 39 [(0,1),(1,6),(7,1)]:={}
instance:ya prog 40 8 true 96 [.int .i64 0,.bool false,.string { data:= #[] },.int .i64 0,.bool false,.string { data:= #[] },.int .i64 0,.slice none 0 0]:={}
instance:Wd prog 40 0 0 3:={}
instance:Wd prog 40 1 1 36:={}
instance:Wd prog 40 2 7 38:={}
instance:Qi prog 40 [(0,1),(1,6),(7,1)]:={}
instance:lb prog 41 (.int .i64):={}
instance:ya prog 41 1 false 8 [.int .i64 0]:={}
instance:lb prog 47 (.slice 24):={}
instance:ya prog 47 1 false 24 [.slice none 0 0]:={}
instance:lb prog 48 (.slice 5):={}
instance:ya prog 48 1 false 24 [.slice none 0 0]:={}
instance:lb prog 55 (.slice 60):={}
instance:ya prog 55 1 false 24 [.slice none 0 0]:={}
instance:ya prog 59 5 true 64 [.int .i64 0,.slice none 0 0,.bool false,.string { data:= #[] },.int .i64 0]:={}
instance:Wd prog 59 0 0 3:={}
instance:Wd prog 59 1 1 26:={}
instance:Wd prog 59 2 2 30:={}
instance:Qi prog 59 [(0,1),(1,1),(2,3)]:={}
instance:ya prog 60 5 true 64 [.int .i64 0,.slice none 0 0,.bool false,.string { data:= #[] },.int .i64 0]:={}
instance:Wd prog 60 0 0 3:={}
instance:Wd prog 60 1 1 26:={}
instance:Wd prog 60 2 2 30:={}
instance:Qi prog 60 [(0,1),(1,1),(2,3)]:={}
instance:ya prog 71 4 true 48 [.string { data:= #[] },.bool false,.string { data:= #[] },.int .i64 0]:={}
instance:Wd prog 71 0 0 9:={}
instance:Wd prog 71 1 1 30:={}
instance:Qi prog 71 [(0,1),(1,3)]:={}
instance:ya prog 72 4 true 48 [.string { data:= #[] },.bool false,.string { data:= #[] },.int .i64 0]:={}
instance:Wd prog 72 0 0 9:={}
instance:Wd prog 72 1 1 30:={}
instance:Qi prog 72 [(0,1),(1,3)]:={}
instance:lb prog 76 (.slice 3):={}
instance:ya prog 76 1 false 24 [.slice none 0 0]:={}
instance:ya prog 77 2 true 48 [.slice none 0 0,.slice none 0 0]:={}
instance:Wd prog 77 0 0 76:={}
instance:Wd prog 77 1 1 37:={}
instance:Qi prog 77 [(0,1),(1,1)]:={}
instance:ya prog 78 2 true 48 [.slice none 0 0,.slice none 0 0]:={}
instance:Wd prog 78 0 0 76:={}
instance:Wd prog 78 1 1 37:={}
instance:Qi prog 78 [(0,1),(1,1)]:={}
instance:ya prog 83 5 true 120 [.slice none 0 0,.slice none 0 0,.slice none 0 0,.slice none 0 0,.slice none 0 0]:={}
instance:Wd prog 83 0 0 26:={}
instance:Wd prog 83 1 1 78:={}
instance:Wd prog 83 2 3 78:={}
instance:Qi prog 83 [(0,1),(1,2),(3,2)]:={}
instance:ya prog 84 5 true 120 [.slice none 0 0,.slice none 0 0,.slice none 0 0,.slice none 0 0,.slice none 0 0]:={}
instance:Wd prog 84 0 0 26:={}
instance:Wd prog 84 1 1 78:={}
instance:Wd prog 84 2 3 78:={}
instance:Qi prog 84 [(0,1),(1,2),(3,2)]:={}
instance:lb prog 87 (.slice 84):={}
instance:ya prog 87 1 false 24 [.slice none 0 0]:={}
instance:lb prog 95 (.slice 78):={}
instance:ya prog 95 1 false 24 [.slice none 0 0]:={}
instance:lb prog 99 (.slice 26):={}
instance:ya prog 99 1 false 24 [.slice none 0 0]:={}
instance:lb prog 122 (.int .i64):={}
instance:ya prog 122 1 false 8 [.int .i64 0]:={}
instance:ya prog 123 5 true 56 [.int .i64 0,.bool false,.string { data:= #[] },.bool false,.string { data:= #[] }]:={}
instance:Wd prog 123 0 0 122:={}
instance:Wd prog 123 1 1 28:={}
instance:Wd prog 123 2 3 28:={}
instance:Qi prog 123 [(0,1),(1,2),(3,2)]:={}
instance:ya prog 124 5 true 56 [.int .i64 0,.bool false,.string { data:= #[] },.bool false,.string { data:= #[] }]:={}
instance:Wd prog 124 0 0 122:={}
instance:Wd prog 124 1 1 28:={}
instance:Wd prog 124 2 3 28:={}
instance:Qi prog 124 [(0,1),(1,2),(3,2)]:={}
instance:lb prog 128 (.slice 130):={}
instance:ya prog 128 1 false 24 [.slice none 0 0]:={}
instance:ya prog 129 1 true 24 [.slice none 0 0]:={}
instance:Wd prog 129 0 0 37:={}
instance:Qi prog 129 [(0,1)]:={}
instance:ya prog 130 1 true 24 [.slice none 0 0]:={}
instance:Wd prog 130 0 0 37:={}
instance:Qi prog 130 [(0,1)]:={}
instance:lb prog 147 (.slice 9):={}
instance:ya prog 147 1 false 24 [.slice none 0 0]:={}
instance:ya prog 158 6 true 64 [.bool false,.string { data:= #[] },.int .i64 0,.bool false,.string { data:= #[] },.int .i64 0]:={}
instance:Wd prog 158 0 0 36:={}
instance:Qi prog 158 [(0,6)]:={}
instance:ya prog 159 6 true 64 [.bool false,.string { data:= #[] },.int .i64 0,.bool false,.string { data:= #[] },.int .i64 0]:={}
instance:Wd prog 159 0 0 36:={}
instance:Qi prog 159 [(0,6)]:={}
instance:lb prog 172 (.slice 37):={}
instance:ya prog 172 1 false 24 [.slice none 0 0]:={}
instance:ya prog 179 9 true 96 [.bool false,.string { data:= #[] },.int .i64 0,.bool false,.string { data:= #[] },.int .i64 0,.bool false,.string { data:= #[] },.int .i64 0]:={}
instance:Wd prog 179 0 0 36:={}
instance:Wd prog 179 1 6 30:={}
instance:Qi prog 179 [(0,6),(6,3)]:={}
instance:ya prog 180 9 true 96 [.bool false,.string { data:= #[] },.int .i64 0,.bool false,.string { data:= #[] },.int .i64 0,.bool false,.string { data:= #[] },.int .i64 0]:={}
instance:Wd prog 180 0 0 36:={}
instance:Wd prog 180 1 6 30:={}
instance:Qi prog 180 [(0,6),(6,3)]:={}
instance:lb prog 186 (.pointer 130):={}
instance:ya prog 186 1 false 8 [.pointer none]:={}
instance:ya prog 195 2 true 16 [.int .i64 0,.int .i64 0]:={}
instance:Wd prog 195 0 0 3:={}
instance:Wd prog 195 1 1 3:={}
instance:Qi prog 195 [(0,1),(1,1)]:={}
instance:ya prog 196 2 true 16 [.int .i64 0,.int .i64 0]:={}
instance:Wd prog 196 0 0 3:={}
instance:Wd prog 196 1 1 3:={}
instance:Qi prog 196 [(0,1),(1,1)]:={}
instance:lb prog 215 (.slice 28):={}
instance:ya prog 215 1 false 24 [.slice none 0 0]:={}
instance:lb prog 216 (.string):={}
instance:ya prog 216 1 false 16 [.string { data:= #[] }]:={}
instance:ya prog 217 2 true 24 [.string { data:= #[] },.bool false]:={}
instance:Wd prog 217 0 0 216:={}
instance:Wd prog 217 1 1 4:={}
instance:Qi prog 217 [(0,1),(1,1)]:={}
instance:ya prog 218 2 true 24 [.string { data:= #[] },.bool false]:={}
instance:Wd prog 218 0 0 216:={}
instance:Wd prog 218 1 1 4:={}
instance:Qi prog 218 [(0,1),(1,1)]:={}
instance:lb prog 223 (.int .u64):={}
instance:ya prog 223 1 false 8 [.int .u64 0]:={}
instance:lb prog 232 (.slice 276):={}
instance:ya prog 232 1 false 24 [.slice none 0 0]:={}
instance:lb prog 238 (.slice 215):={}
instance:ya prog 238 1 false 24 [.slice none 0 0]:={}
instance:ya prog 255 6 true 64 [.bool false,.string { data:= #[] },.int .i64 0,.bool false,.string { data:= #[] },.int .i64 0]:={}
instance:Wd prog 255 0 0 30:={}
instance:Wd prog 255 1 3 30:={}
instance:Qi prog 255 [(0,3),(3,3)]:={}
instance:ya prog 256 6 true 64 [.bool false,.string { data:= #[] },.int .i64 0,.bool false,.string { data:= #[] },.int .i64 0]:={}
instance:Wd prog 256 0 0 30:={}
instance:Wd prog 256 1 3 30:={}
instance:Qi prog 256 [(0,3),(3,3)]:={}
instance:lb prog 265 (.slice 223):={}
instance:ya prog 265 1 false 24 [.slice none 0 0]:={}
instance:lb prog 266 (.slice 223):={}
instance:ya prog 266 1 false 24 [.slice none 0 0]:={}
instance:ya prog 275 6 true 64 [.bool false,.string { data:= #[] },.int .i64 0,.bool false,.string { data:= #[] },.int .i64 0]:={}
instance:Wd prog 275 0 0 30:={}
instance:Wd prog 275 1 3 30:={}
instance:Qi prog 275 [(0,3),(3,3)]:={}
instance:ya prog 276 6 true 64 [.bool false,.string { data:= #[] },.int .i64 0,.bool false,.string { data:= #[] },.int .i64 0]:={}
instance:Wd prog 276 0 0 30:={}
instance:Wd prog 276 1 3 30:={}
instance:Qi prog 276 [(0,3),(3,3)]:={}
instance:lb prog 298 (.array 64 5):={}
instance:ya prog 298 64 true 64 [.int .u8 0,.int .u8 0,.int .u8 0,.int .u8 0,.int .u8 0,.int .u8 0,.int .u8 0,.int .u8 0,.int .u8 0,.int .u8 0,.int .u8 0,.int .u8 0,.int .u8 0,.int .u8 0,.int .u8 0,.int .u8 0,.int .u8 0,.int .u8 0,.int .u8 0,.int .u8 0,.int .u8 0,.int .u8 0,.int .u8 0,.int .u8 0,.int .u8 0,.int .u8 0,.int .u8 0,.int .u8 0,.int .u8 0,.int .u8 0,.int .u8 0,.int .u8 0,.int .u8 0,.int .u8 0,.int .u8 0,.int .u8 0,.int .u8 0,.int .u8 0,.int .u8 0,.int .u8 0,.int .u8 0,.int .u8 0,.int .u8 0,.int .u8 0,.int .u8 0,.int .u8 0,.int .u8 0,.int .u8 0,.int .u8 0,.int .u8 0,.int .u8 0,.int .u8 0,.int .u8 0,.int .u8 0,.int .u8 0,.int .u8 0,.int .u8 0,.int .u8 0,.int .u8 0,.int .u8 0,.int .u8 0,.int .u8 0,.int .u8 0,.int .u8 0]:={}
instance:lb prog 299 (.int .u64):={}
instance:ya prog 299 1 false 8 [.int .u64 0]:={}
instance:ya prog 310 2 true 48 [.slice none 0 0,.slice none 0 0]:={}
instance:Wd prog 310 0 0 266:={}
instance:Wd prog 310 1 1 266:={}
instance:Qi prog 310 [(0,1),(1,1)]:={}
instance:ya prog 311 2 true 48 [.slice none 0 0,.slice none 0 0]:={}
instance:Wd prog 311 0 0 266:={}
instance:Wd prog 311 1 1 266:={}
instance:Qi prog 311 [(0,1),(1,1)]:={}
instance:lb prog 318 (.array 256 4):={}
instance:lb prog 319 (.array 256 4):={}
instance:lb prog 323 (.pointer 319):={}
instance:ya prog 323 1 false 8 [.pointer none]:={}
instance:lb prog 338 (.array 256 5):={}
instance:ya prog 339 2 true 2 [.int .u8 0,.int .u8 0]:={}
instance:Wd prog 339 0 0 5:={}
instance:Wd prog 339 1 1 5:={}
instance:Qi prog 339 [(0,1),(1,1)]:={}
instance:ya prog 340 2 true 2 [.int .u8 0,.int .u8 0]:={}
instance:Wd prog 340 0 0 5:={}
instance:Wd prog 340 1 1 5:={}
instance:Qi prog 340 [(0,1),(1,1)]:={}
instance:lb prog 341 (.array 16 340):={}
instance:ya prog 341 32 true 32 [.int .u8 0,.int .u8 0,.int .u8 0,.int .u8 0,.int .u8 0,.int .u8 0,.int .u8 0,.int .u8 0,.int .u8 0,.int .u8 0,.int .u8 0,.int .u8 0,.int .u8 0,.int .u8 0,.int .u8 0,.int .u8 0,.int .u8 0,.int .u8 0,.int .u8 0,.int .u8 0,.int .u8 0,.int .u8 0,.int .u8 0,.int .u8 0,.int .u8 0,.int .u8 0,.int .u8 0,.int .u8 0,.int .u8 0,.int .u8 0,.int .u8 0,.int .u8 0]:={}
instance:lb prog 345 (.pointer 362):={}
instance:ya prog 345 1 false 8 [.pointer none]:={}
instance:ya prog 346 4 true 40 [.pointer none,.pointer none,.pointer none,.string { data:= #[] }]:={}
instance:Wd prog 346 0 0 17:={}
instance:Wd prog 346 1 1 17:={}
instance:Wd prog 346 2 2 17:={}
instance:Wd prog 346 3 3 9:={}
instance:Qi prog 346 [(0,1),(1,1),(2,1),(3,1)]:={}
instance:ya prog 347 4 true 40 [.pointer none,.pointer none,.pointer none,.string { data:= #[] }]:={}
instance:Wd prog 347 0 0 17:={}
instance:Wd prog 347 1 1 17:={}
instance:Wd prog 347 2 2 17:={}
instance:Wd prog 347 3 3 9:={}
instance:Qi prog 347 [(0,1),(1,1),(2,1),(3,1)]:={}
instance:lb prog 348 (.array 0 16):={}
instance:ya prog 348 0 true 0 []:={}
instance:ya prog 349 0 true 0 []:={}
instance:Qi prog 349 [(0,0)]:={}
instance:ya prog 350 0 true 0 []:={}
instance:Qi prog 350 [(0,0)]:={}
instance:lb prog 351 (.int .u32):={}
instance:ya prog 351 1 false 4 [.int .u32 0]:={}
instance:lb prog 352 (.int .u8):={}
instance:ya prog 352 1 false 1 [.int .u8 0]:={}
instance:lb prog 353 (.int .u8):={}
instance:ya prog 353 1 false 1 [.int .u8 0]:={}
instance:lb prog 355 (.pointer 5):={}
instance:ya prog 355 1 false 8 [.pointer none]:={}
instance:lb prog 356 (.int .i32):={}
instance:ya prog 356 1 false 4 [.int .i32 0]:={}
instance:lb prog 357 (.int .i32):={}
instance:ya prog 357 1 false 4 [.int .i32 0]:={}
instance:ya prog 358 11 true 48 [.int .u64 0,.int .u64 0,.int .u32 0,.int .u8 0,.int .u8 0,.int .u8 0,.int .u8 0,.nilFunc,.pointer none,.int .i32 0,.int .i32 0]:={}
instance:ya prog 359 11 true 48 [.int .u64 0,.int .u64 0,.int .u32 0,.int .u8 0,.int .u8 0,.int .u8 0,.int .u8 0,.nilFunc,.pointer none,.int .i32 0,.int .i32 0]:={}
instance:ya prog 361 1 true 16 [.string { data:= #[] }]:={}
instance:Wd prog 361 0 0 9:={}
instance:Qi prog 361 [(0,1)]:={}
instance:ya prog 362 1 true 16 [.string { data:= #[] }]:={}
instance:Wd prog 362 0 0 9:={}
instance:Qi prog 362 [(0,1)]:={}
def mixed:prog.follows .mixedOrders=true:=by kernel_rfl
instance:ja prog 3:={}
instance:ja prog 4:={}
instance:ja prog 5:={}
instance:ja prog 6:={}
instance:ja prog 7:={}
instance:ja prog 8:={}
instance:ja prog 9:={}
instance:ja prog 10:={}
instance:ja prog 11:={}
instance:ja prog 12:={}
instance:ja prog 13:={}
instance:ja prog 14:={}
instance:ja prog 15:={}
instance:ja prog 16:={}
instance:ja prog 17:={}
instance:ja prog 18:={}
instance:ja prog 19:={}
instance:ja prog 20:={}
instance:ja prog 21:={}
instance:ja prog 22:={}
instance:ja prog 23:={}
instance:ja prog 24:={}
instance:ja prog 25:={}
instance:ja prog 26:={}
instance:ja prog 27:={}
instance:ja prog 28:={}
instance:ja prog 29:={}
instance:ja prog 30:={}
instance:ja prog 31:={}
instance:ja prog 32:={}
instance:ja prog 33:={}
instance:ja prog 34:={}
instance:ja prog 35:={}
instance:ja prog 36:={}
instance:ja prog 37:={}
instance:ja prog 38:={}
instance:ja prog 39:={}
instance:ja prog 40:={}
instance:ja prog 41:={}
instance:ja prog 42:={}
instance:ja prog 43:={}
instance:ja prog 44:={}
instance:ja prog 45:={}
instance:ja prog 46:={}
instance:ja prog 47:={}
instance:ja prog 48:={}
instance:ja prog 49:={}
instance:ja prog 50:={}
instance:ja prog 51:={}
instance:ja prog 52:={}
instance:ja prog 53:={}
instance:ja prog 54:={}
instance:ja prog 55:={}
instance:ja prog 56:={}
instance:ja prog 57:={}
instance:ja prog 58:={}
instance:ja prog 59:={}
instance:ja prog 60:={}
instance:ja prog 61:={}
instance:ja prog 62:={}
instance:ja prog 63:={}
instance:ja prog 64:={}
instance:ja prog 65:={}
instance:ja prog 66:={}
instance:ja prog 67:={}
instance:ja prog 68:={}
instance:ja prog 69:={}
instance:ja prog 70:={}
instance:ja prog 71:={}
instance:ja prog 72:={}
instance:ja prog 73:={}
instance:ja prog 74:={}
instance:ja prog 75:={}
instance:ja prog 76:={}
instance:ja prog 77:={}
instance:ja prog 78:={}
instance:ja prog 79:={}
instance:ja prog 80:={}
instance:ja prog 81:={}
instance:ja prog 82:={}
instance:ja prog 83:={}
instance:ja prog 84:={}
instance:ja prog 85:={}
instance:ja prog 86:={}
instance:ja prog 87:={}
instance:ja prog 88:={}
instance:ja prog 89:={}
instance:ja prog 90:={}
instance:ja prog 91:={}
instance:ja prog 92:={}
instance:ja prog 93:={}
instance:ja prog 94:={}
instance:ja prog 95:={}
instance:ja prog 96:={}
instance:ja prog 97:={}
instance:ja prog 98:={}
instance:ja prog 99:={}
instance:ja prog 100:={}
instance:ja prog 101:={}
instance:ja prog 102:={}
instance:ja prog 103:={}
instance:ja prog 104:={}
instance:ja prog 105:={}
instance:ja prog 106:={}
instance:ja prog 107:={}
instance:ja prog 108:={}
instance:ja prog 109:={}
instance:ja prog 110:={}
instance:ja prog 111:={}
instance:ja prog 112:={}
instance:ja prog 113:={}
instance:ja prog 114:={}
instance:ja prog 115:={}
instance:ja prog 116:={}
instance:ja prog 117:={}
instance:ja prog 118:={}
instance:ja prog 119:={}
instance:ja prog 120:={}
instance:ja prog 121:={}
instance:ja prog 122:={}
instance:ja prog 123:={}
instance:ja prog 124:={}
instance:ja prog 125:={}
instance:ja prog 126:={}
instance:ja prog 127:={}
instance:ja prog 128:={}
instance:ja prog 129:={}
instance:ja prog 130:={}
instance:ja prog 131:={}
instance:ja prog 132:={}
instance:ja prog 133:={}
instance:ja prog 134:={}
instance:ja prog 135:={}
instance:ja prog 136:={}
instance:ja prog 137:={}
instance:ja prog 138:={}
instance:ja prog 139:={}
instance:ja prog 140:={}
instance:ja prog 141:={}
instance:ja prog 142:={}
instance:ja prog 143:={}
instance:ja prog 144:={}
instance:ja prog 145:={}
instance:ja prog 146:={}
instance:ja prog 147:={}
instance:ja prog 148:={}
instance:ja prog 149:={}
instance:ja prog 150:={}
instance:ja prog 151:={}
instance:ja prog 152:={}
instance:ja prog 153:={}
instance:ja prog 154:={}
instance:ja prog 155:={}
instance:ja prog 156:={}
instance:ja prog 157:={}
instance:ja prog 158:={}
instance:ja prog 159:={}
instance:ja prog 160:={}
instance:ja prog 161:={}
instance:ja prog 162:={}
instance:ja prog 163:={}
instance:ja prog 164:={}
instance:ja prog 165:={}
instance:ja prog 166:={}
instance:ja prog 167:={}
instance:ja prog 168:={}
instance:ja prog 169:={}
instance:ja prog 170:={}
instance:ja prog 171:={}
instance:ja prog 172:={}
instance:ja prog 173:={}
instance:ja prog 174:={}
instance:ja prog 175:={}
instance:ja prog 176:={}
instance:ja prog 177:={}
instance:ja prog 178:={}
instance:ja prog 179:={}
instance:ja prog 180:={}
instance:ja prog 181:={}
instance:ja prog 182:={}
instance:ja prog 183:={}
instance:ja prog 184:={}
instance:ja prog 185:={}
instance:ja prog 186:={}
instance:ja prog 187:={}
instance:ja prog 188:={}
instance:ja prog 189:={}
instance:ja prog 190:={}
instance:ja prog 191:={}
instance:ja prog 192:={}
instance:ja prog 193:={}
instance:ja prog 194:={}
instance:ja prog 195:={}
instance:ja prog 196:={}
instance:ja prog 197:={}
instance:ja prog 198:={}
instance:ja prog 199:={}
instance:ja prog 200:={}
instance:ja prog 201:={}
instance:ja prog 202:={}
instance:ja prog 203:={}
instance:ja prog 204:={}
instance:ja prog 205:={}
instance:ja prog 206:={}
instance:ja prog 207:={}
instance:ja prog 208:={}
instance:ja prog 209:={}
instance:ja prog 210:={}
instance:ja prog 211:={}
instance:ja prog 212:={}
instance:ja prog 213:={}
instance:ja prog 214:={}
instance:ja prog 215:={}
instance:ja prog 216:={}
instance:ja prog 217:={}
instance:ja prog 218:={}
instance:ja prog 219:={}
instance:ja prog 220:={}
instance:ja prog 221:={}
instance:ja prog 222:={}
instance:ja prog 223:={}
instance:ja prog 224:={}
instance:ja prog 225:={}
instance:ja prog 226:={}
instance:ja prog 227:={}
instance:ja prog 228:={}
instance:ja prog 229:={}
instance:ja prog 230:={}
instance:ja prog 231:={}
instance:ja prog 232:={}
instance:ja prog 233:={}
instance:ja prog 234:={}
instance:ja prog 235:={}
instance:ja prog 236:={}
instance:ja prog 237:={}
instance:ja prog 238:={}
instance:ja prog 239:={}
instance:ja prog 240:={}
instance:ja prog 241:={}
instance:ja prog 242:={}
instance:ja prog 243:={}
instance:ja prog 244:={}
instance:ja prog 245:={}
instance:ja prog 246:={}
instance:ja prog 247:={}
instance:ja prog 248:={}
instance:ja prog 249:={}
instance:ja prog 250:={}
instance:ja prog 251:={}
instance:ja prog 252:={}
instance:ja prog 253:={}
instance:ja prog 254:={}
instance:ja prog 255:={}
instance:ja prog 256:={}
instance:ja prog 257:={}
instance:ja prog 258:={}
instance:ja prog 259:={}
instance:ja prog 260:={}
instance:ja prog 261:={}
instance:ja prog 262:={}
instance:ja prog 263:={}
instance:ja prog 264:={}
instance:ja prog 265:={}
instance:ja prog 266:={}
instance:ja prog 267:={}
instance:ja prog 268:={}
instance:ja prog 269:={}
instance:ja prog 270:={}
instance:ja prog 271:={}
instance:ja prog 272:={}
instance:ja prog 273:={}
instance:ja prog 274:={}
instance:ja prog 275:={}
instance:ja prog 276:={}
instance:ja prog 277:={}
instance:ja prog 278:={}
instance:ja prog 279:={}
instance:ja prog 280:={}
instance:ja prog 281:={}
instance:ja prog 282:={}
instance:ja prog 283:={}
instance:ja prog 284:={}
instance:ja prog 285:={}
instance:ja prog 286:={}
instance:ja prog 287:={}
instance:ja prog 288:={}
instance:ja prog 289:={}
instance:ja prog 290:={}
instance:ja prog 291:={}
instance:ja prog 292:={}
instance:ja prog 293:={}
instance:ja prog 294:={}
instance:ja prog 295:={}
instance:ja prog 296:={}
instance:ja prog 297:={}
instance:ja prog 298:={}
instance:ja prog 299:={}
instance:ja prog 300:={}
instance:ja prog 301:={}
instance:ja prog 302:={}
instance:ja prog 303:={}
instance:ja prog 304:={}
instance:ja prog 305:={}
instance:ja prog 306:={}
instance:ja prog 307:={}
instance:ja prog 308:={}
instance:ja prog 309:={}
instance:ja prog 312:={}
instance:ja prog 313:={}
instance:ja prog 314:={}
instance:ja prog 315:={}
instance:ja prog 316:={}
instance:ja prog 317:={}
instance:ja prog 318:={}
instance:ja prog 319:={}
instance:ja prog 320:={}
instance:ja prog 321:={}
instance:ja prog 322:={}
instance:ja prog 324:={}
instance:ja prog 325:={}
instance:ja prog 326:={}
instance:ja prog 327:={}
instance:ja prog 328:={}
instance:ja prog 329:={}
instance:ja prog 330:={}
instance:ja prog 331:={}
instance:ja prog 332:={}
instance:ja prog 333:={}
def mI{k:IntKind}{a:Int}(kk:WL ro P N ops Q rest (sc ρ d (.int k a)) w)(hx:ev ρ x=.int k a:=by exact Bc rfl)(hN:d<N:=by decide):WL ro P N ops Q (⟨some d,.move x,ty,pos,af,none⟩::rest) ρ w:=Bl hx hN kk
def aI{k:IntKind}{a:Int}(kk:WL ro P N ops Q rest (sc ρ d (.int k a)) w)(hx:ev ρ x=.int k a:=by exact Bc rfl)(hN:d<N:=by decide):WL ro P N ops Q (⟨some d,.assign x,ty,pos,af,none⟩::rest) ρ w:=ki hx hN kk
def mB{a:Bool}(kk:WL ro P N ops Q rest (sc ρ d (.bool a)) w)(hx:ev ρ x=.bool a:=by exact Fo rfl)(hN:d<N:=by decide):WL ro P N ops Q (⟨some d,.move x,ty,pos,af,none⟩::rest) ρ w:=Bl hx hN kk
def aB{a:Bool}(kk:WL ro P N ops Q rest (sc ρ d (.bool a)) w)(hx:ev ρ x=.bool a:=by exact Fo rfl)(hN:d<N:=by decide):WL ro P N ops Q (⟨some d,.assign x,ty,pos,af,none⟩::rest) ρ w:=ki hx hN kk
def mS{a:ByteArray}(kk:WL ro P N ops Q rest (sc ρ d (.string a)) w)(hx:ev ρ x=.string a:=by exact HC rfl)(hN:d<N:=by decide):WL ro P N ops Q (⟨some d,.move x,ty,pos,af,none⟩::rest) ρ w:=Bl hx hN kk
def aS{a:ByteArray}(kk:WL ro P N ops Q rest (sc ρ d (.string a)) w)(hx:ev ρ x=.string a:=by exact HC rfl)(hN:d<N:=by decide):WL ro P N ops Q (⟨some d,.assign x,ty,pos,af,none⟩::rest) ρ w:=ki hx hN kk
def mL{A:Option Addr}{c:Nat}(kk:WL ro P N ops Q rest (sc ρ d (.slice A n c)) w)(hx:ev ρ x=.slice A n c:=by exact rp rfl)(hN:d<N:=by decide):WL ro P N ops Q (⟨some d,.move x,ty,pos,af,none⟩::rest) ρ w:=Bl hx hN kk
def aL{A:Option Addr}{c:Nat}(kk:WL ro P N ops Q rest (sc ρ d (.slice A n c)) w)(hx:ev ρ x=.slice A n c:=by exact rp rfl)(hN:d<N:=by decide):WL ro P N ops Q (⟨some d,.assign x,ty,pos,af,none⟩::rest) ρ w:=ki hx hN kk
def mG{l:List Value}(kk:WL ro P N ops Q rest (sc ρ d (.agg l.toArray)) w)(hx:ev ρ x=.agg l.toArray:=by exact Ld rfl)(hN:d<N:=by decide):WL ro P N ops Q (⟨some d,.move x,ty,pos,af,none⟩::rest) ρ w:=Bl hx hN kk
def aG{l:List Value}(kk:WL ro P N ops Q rest (sc ρ d (.agg l.toArray)) w)(hx:ev ρ x=.agg l.toArray:=by exact Ld rfl)(hN:d<N:=by decide):WL ro P N ops Q (⟨some d,.assign x,ty,pos,af,none⟩::rest) ρ w:=ki hx hN kk
def mT{l:List Value}(kk:WL ro P N ops Q rest (sc ρ d (.tuple l.toArray)) w)(hx:ev ρ x=.tuple l.toArray:=by exact QQ rfl)(hN:d<N:=by decide):WL ro P N ops Q (⟨some d,.move x,ty,pos,af,none⟩::rest) ρ w:=Bl hx hN kk
def aT{l:List Value}(kk:WL ro P N ops Q rest (sc ρ d (.tuple l.toArray)) w)(hx:ev ρ x=.tuple l.toArray:=by exact QQ rfl)(hN:d<N:=by decide):WL ro P N ops Q (⟨some d,.assign x,ty,pos,af,none⟩::rest) ρ w:=ki hx hN kk
variable {r:Bool}
def mF{f:Fn}{l r:List Value}(kk:WL ro P N ops Q rest (sc ρ d (.func f l.toArray r.toArray)) w)(hx:ev ρ x=.func f l.toArray r.toArray:=by exact Sn rfl)(hN:d<N:=by decide):WL ro P N ops Q (⟨some d,.move x,ty,pos,af,none⟩::rest) ρ w:=Bl hx hN kk
def aF{f:Fn}{l r:List Value}(kk:WL ro P N ops Q rest (sc ρ d (.func f l.toArray r.toArray)) w)(hx:ev ρ x=.func f l.toArray r.toArray:=by exact Sn rfl)(hN:d<N:=by decide):WL ro P N ops Q (⟨some d,.assign x,ty,pos,af,none⟩::rest) ρ w:=ki hx hN kk
def mP{a:Option Addr}(kk:WL ro P N ops Q rest (sc ρ d (.pointer a)) w)(hx:ev ρ x=.pointer a:=by exact rfl)(hN:d<N:=by decide):WL ro P N ops Q (⟨some d,.move x,ty,pos,af,none⟩::rest) ρ w:=Bl hx hN kk
def aP{a:Option Addr}(kk:WL ro P N ops Q rest (sc ρ d (.pointer a)) w)(hx:ev ρ x=.pointer a:=by exact rfl)(hN:d<N:=by decide):WL ro P N ops Q (⟨some d,.assign x,ty,pos,af,none⟩::rest) ρ w:=ki hx hN kk
def Bi{k:IntKind}{a b:Int}(kk:WL ro P N ops Q rest (sc ρ d (.bool r)) w)(hx:ev ρ x=.int k a:=by exact rfl)(hy:ev ρ y=.int k b:=by exact rfl)(hr:decide (a<b)=r:=by first|exact M_ Z'|exact O_ Z'|exact rfl)(hN:d<N:=by decide):WL ro P N ops Q (⟨some d,.binOp .lss t x y u,ty,pos,af,none⟩::rest) ρ w:=nY hx hy hN (by rw[hr];exact kk)
def afw{k:IntKind}{a b:Int}(kk:WL ro P N ops Q rest (sc ρ d (.bool r)) w)(hx:ev ρ x=.int k a:=by exact rfl)(hy:ev ρ y=.int k b:=by exact rfl)(hr:decide (a<=b)=r:=by first|exact M_ Z'|exact O_ Z'|exact rfl)(hN:d<N:=by decide):WL ro P N ops Q (⟨some d,.binOp .leq t x y u,ty,pos,af,none⟩::rest) ρ w:=oW hx hy hN (by rw[hr];exact kk)
def qx{k:IntKind}{a b:Int}(kk:WL ro P N ops Q rest (sc ρ d (.bool r)) w)(hx:ev ρ x=.int k a:=by exact rfl)(hy:ev ρ y=.int k b:=by exact rfl)(hr:decide (b<a)=r:=by first|exact M_ Z'|exact O_ Z'|exact rfl)(hN:d<N:=by decide):WL ro P N ops Q (⟨some d,.binOp .gtr t x y u,ty,pos,af,none⟩::rest) ρ w:=fY hx hy hN (by rw[hr];exact kk)
def It{k:IntKind}{a b:Int}(kk:WL ro P N ops Q rest (sc ρ d (.bool r)) w)(hx:ev ρ x=.int k a:=by exact rfl)(hy:ev ρ y=.int k b:=by exact rfl)(hr:decide (b<=a)=r:=by first|exact M_ Z'|exact O_ Z'|exact rfl)(hN:d<N:=by decide):WL ro P N ops Q (⟨some d,.binOp .geq t x y u,ty,pos,af,none⟩::rest) ρ w:=mW hx hy hN (by rw[hr];exact kk)
def WW{k:IntKind}{a b:Int}(kk:WL ro P N ops Q rest (sc ρ d (.bool r)) w)(hx:ev ρ x=.int k a:=by exact rfl)(hy:ev ρ y=.int k b:=by exact rfl)(hr:decide (a=b)=r:=by first|exact M_ Z'|exact O_ Z'|exact rfl)(hN:d<N:=by decide):WL ro P N ops Q (⟨some d,.binOp .eql t x y u,ty,pos,af,none⟩::rest) ρ w:=yK hx hy hN (by rw[hr];exact kk)
def afr{k:IntKind}{a b:Int}(kk:WL ro P N ops Q rest (sc ρ d (.bool r)) w)(hx:ev ρ x=.int k a:=by exact rfl)(hy:ev ρ y=.int k b:=by exact rfl)(hr:decide (a≠b)=r:=by first|exact M_ Z'|exact O_ Z'|exact rfl)(hN:d<N:=by decide):WL ro P N ops Q (⟨some d,.binOp .neq t x y u,ty,pos,af,none⟩::rest) ρ w:=WY hx hy hN (by rw[hr];exact kk)
def lj{a b:Int}(kk:WL ro P N ops Q rest (sc ρ d (.int .i64 (a+b))) w)(hx:ev ρ x=.int .i64 a:=by exact rfl)(hy:ev ρ y=.int .i64 b:=by exact rfl)(h1: -9223372036854775808<=a+b:=by omega)(h2:a+b<=9223372036854775807:=by omega)(hN:d<N:=by decide):WL ro P N ops Q (⟨some d,.binOp .add t x y u,ty,pos,af,none⟩::rest) ρ w:=acw hx hy h1 h2 hN kk
def Rp{a b:Int}(kk:WL ro P N ops Q rest (sc ρ d (.int .i64 (a-b))) w)(hx:ev ρ x=.int .i64 a:=by exact rfl)(hy:ev ρ y=.int .i64 b:=by exact rfl)(h1: -9223372036854775808<=a-b:=by omega)(h2:a-b<=9223372036854775807:=by omega)(hN:d<N:=by decide):WL ro P N ops Q (⟨some d,.binOp .sub t x y u,ty,pos,af,none⟩::rest) ρ w:=abF hx hy h1 h2 hN kk
def mulC{a b:Int}(kk:WL ro P N ops Q rest (sc ρ d (.int .i64 (a*b))) w)(hx:ev ρ x=.int .i64 a:=by exact rfl)(hy:ev ρ y=.int .i64 b:=by exact rfl)(h1: -9223372036854775808<=a*b:=by omega)(h2:a*b<=9223372036854775807:=by omega)(hN:d<N:=by decide):WL ro P N ops Q (⟨some d,.binOp .mul t x y u,ty,pos,af,none⟩::rest) ρ w:=abK hx hy h1 h2 hN kk
variable {vs:List Value}
def dv{i:Nat}{v:Value}(kk:WL ro P N ops Q rest (sc ρ d (v)) w)(hx:ev ρ x=.tuple vs.toArray:=by exact rfl)(hv:vs[i]?=some v:=by exact rfl)(hN:d<N:=by decide):WL ro P N ops Q (⟨some d,.extract x i,ty,pos,af,none⟩::rest) ρ w:=wO hx hv hN kk
def CS{b:Bool}(kk:WL ro P N ops Q rest (sc ρ d (.bool !b)) w)(hx:ev ρ x=.bool b:=by exact rfl)(hN:d<N:=by decide):WL ro P N ops Q (⟨some d,.unOp .not t x,ty,pos,af,none⟩::rest) ρ w:=adt hx hN kk
def Vq{e:TypeId}{A:Option Addr}{c:Nat}[ht:lb P t (.slice e)](kk:WL ro P N ops Q rest (sc ρ d (.int .i64 n)) w)(hx:ev ρ x=.slice A n c:=by exact rfl)(hN:d<N:=by decide):WL ro P N ops Q (⟨some d,.call ⟨.builtin .len, #[x], #[t]⟩,ty,pos,af,none⟩::rest) ρ w:=KU ht.out hx hN kk
variable {o off:Nat}{ft:TypeId}
def Hu{s:TypeId}{f:Nat}[hf:Wd P s f off ft](kk:WL ro P N ops Q rest (sc ρ d (.pointer (some ⟨b,o+off,none⟩))) w)(hx:ev ρ x=.pointer (some ⟨b,o,none⟩):=by exact rfl)(hN:d<N:=by decide):WL ro P N ops Q (⟨some d,.fieldAddr s x f,ty,pos,af,none⟩::rest) ρ w:=TE hf.out hx hN kk
variable {cs:List Value}{t':TypeId}{fz:Nat×Nat}
def xm{v:Value}(hh:Hp w0 H w)(i:Nat)[ht:ya P t n false by' zc](kk:WL ro P N ops Q rest (sc ρ d (v)) w)(hx:ev ρ x=.pointer (some ⟨b,o,none⟩):=by exact rfl)(hi:H[i]?=some (.blk b t' cs fz):=by exact rfl)(hv:cs[o]?=some v:=by exact rfl)(hN:d<N:=by decide):WL ro P N ops Q (⟨some d,.load t x,ty,pos,af,none⟩::rest) ρ w:=ub ht.out hx (hh.eg hi hv) hN kk
def zl(hh:Hp w0 H w)(i:Nat)(vs:List Value)[ht:ya P t n true by' zc](kk:WL ro P N ops Q rest (sc ρ d (.agg vs.toArray)) w)(hx:ev ρ x=.pointer (some ⟨b,o,none⟩):=by exact rfl)(hi:H[i]?=some (.blk b t' cs fz):=by exact rfl)(hv:(cs.drop o).take n=vs:=by exact rfl)(hl:vs.length=n:=by exact rfl)(hN:d<N:=by decide):WL ro P N ops Q (⟨some d,.load t x,ty,pos,af,none⟩::rest) ρ w:=wb ht.out hx (hh.pb hi hv) hl hN kk
def sw(hh:Hp w0 H w)[ht:ya P t n ag by' zc](kk:∀b w',Hp w0 (.blk b t zc (0,0)::H) w'->WL ro P N ops Q rest (sc ρ d (.pointer (some ⟨b,0,none⟩))) w')(hN:d<N:=by decide):WL ro P N ops Q (⟨some d,.alloc t,ty,pos,af,none⟩::rest) ρ w:=dT hh ht.out hN kk
def YD{v:Value}(hh:Hp w0 H w)(cs:List Value)(kk:∀b w',Hp w0 (.blk b t cs (0,0)::H) w'->WL ro P N ops Q rest (sc ρ d (.pointer (some ⟨b,0,none⟩))) w')(hx:ev ρ x=v:=by exact rfl)(hc:v.cells=cs.toArray:=by exact rfl)(hN:d<N:=by decide):WL ro P N ops Q (⟨some d,.box t x,ty,pos,af,none⟩::rest) ρ w:=bW hh hx hc hN kk
def rf{v:Value}(hh:Hp w0 H w)(i:Nat)(vs:List Value)[ht:ya P t n ag by' zc](kk:∀w',Hp w0 (H.set i (.blk b t' (Hb cs o vs) fz)) w'->WL ro P N ops Q rest ρ w')(hx:ev ρ x=.pointer (some ⟨b,o,none⟩):=by exact rfl)(hi:H[i]?=some (.blk b t' cs fz):=by exact rfl)(hy:ev ρ y=v:=by exact rfl)(hc:v.cells=vs.toArray:=by exact rfl)(hl:vs.length=n:=by exact rfl)(ho:o+n<=cs.length:=by simp)(h1:(vs.all Value.oneCell')=true:=by exact rfl):WL ro P N ops Q (⟨none,.store t x y,ty,pos,af,none⟩::rest) ρ w:=Yx hh hx hi hy hc ht.out hl ho h1 kk
variable {parts:Array (Nat×Operand)}
def NA{ps:List (Nat×Value)}{pl:List (Nat×Nat)}(cs:List Value)[hte:ya P t n true by' zc][hpl:Qi P t pl](kk:WL ro P N ops Q rest (sc ρ d (.agg cs.toArray)) w)(hp:vD ρ parts.toList=ps:=by exact rfl)(hf:Wk (pl[·]?) zc ps=some cs:=by exact rfl)(hN:d<N:=by decide):WL ro P N ops Q (⟨some d,.build t parts,ty,pos,af,none⟩::rest) ρ w:=gY hte.out hpl.out hp hf hN kk
def pkT{c a b:Operand}{v:Bool}(kk:WL ro P N ops Q rest (sc ρ d (.bool v)) w)(hc:ev ρ c=.bool true:=by exact rfl)(hx:ev ρ a=.bool v:=by exact Fo rfl)(hN:d<N:=by decide):WL ro P N ops Q (⟨some d,.pick c a b,ty,pos,af,none⟩::rest) ρ w:=UP hc hx hN kk
def pkF{c a b:Operand}{v:Bool}(kk:WL ro P N ops Q rest (sc ρ d (.bool v)) w)(hc:ev ρ c=.bool false:=by exact rfl)(hx:ev ρ b=.bool v:=by exact Fo rfl)(hN:d<N:=by decide):WL ro P N ops Q (⟨some d,.pick c a b,ty,pos,af,none⟩::rest) ρ w:=cR hc hx hN kk
variable {dj j:Nat}
def gS{op:Op}{b c:Bool}(kk:WL ro P N ops Q rest (sc ρ d undef) w)(hN:d<N:=by decide)(hj:(ops[j]?).bind (·.dst)=some dj:=by exact rfl)(hv:ρ dj=.bool c:=by exact rfl)(hb:c≠b:=by decide):WL ro P N ops Q (⟨some d,op,ty,pos,af,some (j,b)⟩::rest) ρ w:=qp hN hj hv hb kk
def gV{op:Op}{b:Bool}(kk:WL ro P N ops Q rest (sc ρ d undef) w)(hN:d<N:=by decide)(hj:(ops[j]?).bind (·.dst)=some dj:=by exact rfl)(hb:nb (ρ dj) b=true:=by exact rfl):WL ro P N ops Q (⟨some d,op,ty,pos,af,some (j,b)⟩::rest) ρ w:=Aw hN hj hb kk
def gT{dd:Option Nat}{op:Op}{b:Bool}(kk:WL ro P N ops Q (⟨dd,op,ty,pos,af,none⟩::rest) ρ w)(hj:(ops[j]?).bind (·.dst)=some dj:=by exact rfl)(hv:ρ dj=.bool b:=by exact rfl):WL ro P N ops Q (⟨dd,op,ty,pos,af,some (j,b)⟩::rest) ρ w:=wk hj hv kk
variable {args:Array Operand}
def Oa{f:FuncId}{ts:Array TypeId}{v:Value}(hh:Hp w0 H w)(hc:Calls P f vs.toArray w λe w'=>e=.returned v/\Below w.heap.size w w')[hf:ja P f](ha:Dz ρ args.toList=vs)(kk:∀w',Hp w0 H w'->WL ro P N ops Q rest (sc ρ d v) w')(hN:d<N:=by decide):WL ro P N ops Q (⟨some d,.call ⟨.value (.func f),args,ts⟩,ty,pos,af,none⟩::rest) ρ w:=qa hc hf.out ha hN λ_ _ hq=>⟨_,hq.1,kk _ (hh.ext hq.2)⟩
def sr{id:Nat}{y:Code}{l:List Oper}(h:WL ro P N l.toArray (re (λρ w=>WC ro P N y Q ρ w) Q) l ρ w):WC ro P N (.seq (.region id l.toArray false) y) Q ρ w:=mb (Kb h)
def cT{c:Operand}{x y:Code}(h:WC ro P N x Q ρ w)(hc:ev ρ c=.bool true:=by exact rfl):WC ro P N (.cond c x y) Q ρ w:=UO hc h
def cF{c:Operand}{x y:Code}(h:WC ro P N y Q ρ w)(hc:ev ρ c=.bool false:=by exact rfl):WC ro P N (.cond c x y) Q ρ w:=KN hc h
variable {R:Ending->World->Prop}
def qa1{fn:Func}{e:Exit}{t0:Tmp}{v0:Value}(h:R (.returned v0) w)(hr:fn.results= #[.tmp t0]:=by exact rfl)(h0:ρ t0=v0:=by first|exact ej rfl|exact Ck rfl|exact jB rfl|exact BO rfl|exact v_agg rfl|exact rfl)(he:e=.normal\/e=.ret:=by first|exact .inr rfl|exact .inl rfl):Po P fn R e ρ w:=aft he hr h0 h
variable {v1:Value}
def qa2{fn:Func}{e:Exit}{t0 t1:Tmp}{v0:Value}(h:R (.returned (.tuple #[v0,v1])) w)(hr:fn.results= #[.tmp t0,.tmp t1]:=by exact rfl)(h0:ρ t0=v0:=by first|exact ej rfl|exact Ck rfl|exact jB rfl|exact BO rfl|exact v_agg rfl|exact rfl)(h1:ρ t1=v1:=by first|exact ej rfl|exact Ck rfl|exact jB rfl|exact BO rfl|exact v_agg rfl|exact rfl)(he:e=.normal\/e=.ret:=by first|exact .inr rfl|exact .inl rfl):Po P fn R e ρ w:=af0 he hr h0 h1 h
def qa3{fn:Func}{e:Exit}{t0 t1 t2:Tmp}{v0 v2:Value}(h:R (.returned (.tuple #[v0,v1,v2])) w)(hr:fn.results= #[.tmp t0,.tmp t1,.tmp t2]:=by exact rfl)(h0:ρ t0=v0:=by first|exact ej rfl|exact Ck rfl|exact jB rfl|exact BO rfl|exact v_agg rfl|exact rfl)(h1:ρ t1=v1:=by first|exact ej rfl|exact Ck rfl|exact jB rfl|exact BO rfl|exact v_agg rfl|exact rfl)(h2:ρ t2=v2:=by first|exact ej rfl|exact Ck rfl|exact jB rfl|exact BO rfl|exact v_agg rfl|exact rfl)(he:e=.normal\/e=.ret:=by first|exact .inr rfl|exact .inl rfl):Po P fn R e ρ w:=afn he hr h0 h1 h2 h
def jP{fn:Func}{e:Exit}{r0:ResultVar}{v0:Value}(h1:gi P ρ w [r0] [v0])(h:R (.returned v0) w)(hr:fn.results= #[r0]:=by exact rfl)(he:e=.normal\/e=.ret:=by first|exact .inr rfl|exact .inl rfl):Po P fn R e ρ w:=aei he hr h1 h
def bV{fn:Func}{e:Exit}{r0 r1:ResultVar}{v0:Value}(h1:gi P ρ w [r0,r1] [v0,v1])(h:R (.returned (.tuple #[v0,v1])) w)(hr:fn.results= #[r0,r1]:=by exact rfl)(he:e=.normal\/e=.ret:=by first|exact .inr rfl|exact .inl rfl):Po P fn R e ρ w:=acV he hr h1 h
def qc3{fn:Func}{e:Exit}{r0 r1 r2:ResultVar}{v0 v2:Value}(h1:gi P ρ w [r0,r1,r2] [v0,v1,v2])(h:R (.returned (.tuple #[v0,v1,v2])) w)(hr:fn.results= #[r0,r1,r2]:=by exact rfl)(he:e=.normal\/e=.ret:=by first|exact .inr rfl|exact .inl rfl):Po P fn R e ρ w:=aer he hr h1 h
class TS(P:Program)(t:TypeId)(n:outParam Nat):Prop where out:(P.info? t).map (·.size)=some n
instance {P:Program}{t n b:Nat}{ag:Bool}{zc:List Value}[ya P t n ag b zc]:TS P t n:=⟨ya.size⟩
end Go.Proofs.YtbencocchdpikaaGreatDoor
