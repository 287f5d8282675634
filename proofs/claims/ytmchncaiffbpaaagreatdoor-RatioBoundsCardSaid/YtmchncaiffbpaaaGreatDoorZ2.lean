/- Lemmas for ratioBounds, part 2. -/
import Derived.WalkKit
import Derived.WalkLawsBesides
import Derived.Below
import Derived.Laws.OwnMore
import Derived.Laws.Rows
import Derived.RegionTactic
import Derived.ControlIn
import Derived.TacticsIn
import Derived.AtR
import Derived.Deep.AppendLies
import Derived.Maps.AppendAt
import Derived.OwnWalk
import Derived.Test.YtmchncaiffbpaaaGreatDoorProg
import Derived.KernelRfl
import Derived.Test.YtmchncaiffbpaaaGreatDoorZ1
set_option linter.all false
namespace Go.Proofs.YtmchncaiffbpaaaGreatDoor
open Go.RowKit
abbrev Rf:=Nat→Value
def cm (ρ:Rf) (d:Nat) (v:Value):Rf:=fun i=>bif Nat.beq i d then v else ρ i
def ev (ρ:Rf):Operand→Value
 |.tmp t=>ρ t
 |.const v=>v
 |.global g=>.pointer (some ⟨g,0,none⟩)
 |.func f=>.func (.func f) #[] #[]
structure fw (N:Nat) (D:List Deferred) (a:Act) (ρ:Rf):Prop where
 nd:a.defers=D
 sz:a.tmps.size=N
 at_:∀i,a.tmps.getD i undef=ρ i
abbrev Fits (N:Nat) (a:Act) (ρ:Rf):Prop:=fw N [] a ρ
theorem fw.eval {N:Nat}{D:List Deferred}{a:Act}{ρ:Rf} (h:fw N D a ρ):a.eval=ev ρ:=by
 funext x
 cases x with
 |tmp t=>exact h.at_ t
 |_=>rfl
theorem vL (ρ:Rf) (d:Nat) (v:Value):cm ρ d v d=v:=by simp [cm]
theorem jh (ρ:Rf) {d i:Nat} (h:i≠d) (v:Value):cm ρ d v i=ρ i:=by
 have hb:Nat.beq i d=false:=by
  cases hb:Nat.beq i d
  ·rfl
  ·exact absurd (Nat.eq_of_beq_eq_true hb) h
 simp only [cm,hb,cond_false]
theorem fw.put {N:Nat}{D:List Deferred}{a:Act}{ρ:Rf} (h:fw N D a ρ) {d:Nat} (hd:d<N) (v:Value):fw N D (a.put (some d) v) (cm ρ d v):=by
 refine ⟨h.nd,by simp [Act.put,h.sz],fun i=> ?_⟩;by_cases hi:i=d
 ·subst hi;rw [vL];simp [Act.put,h.sz,hd]
 ·rw [jh ρ hi,←h.at_ i];have:d≠i:=fun e=>hi e.symm;simp [Act.put,Array.getElem?_setIfInBounds_ne this]
abbrev Kq:=Exit→Rf→World→Prop
def fj (N:Nat) (D:List Deferred) (Q:Kq):Exit→Act→World→Prop:=fun e a w=>∃ρ,fw N D a ρ∧Q e ρ w
abbrev lift (N:Nat) (Q:Kq):Exit→Act→World→Prop:=fj N [] Q
structure Mode where
 round:Option Nat:=none
 D:List Deferred:=[]
 any:Bool:=false
abbrev Mode.plain:Mode:={}
def FW (ro:Option Nat):Fence:={ Fence.wide with round:=ro }
structure WC (ro:Mode) (P:Program) (N:Nat) (c:Code) (Q:Kq) (ρ:Rf) (w:World):Prop where
 nF:ro.any=false→∀a,fw N ro.D a ρ→c.wp P (fj N ro.D Q) a w
 k5:∀a,fw N ro.D a ρ→∀n,c.wpIn (FW ro.round) n P (fj N ro.D Q) a w
structure WL (ro:Mode) (P:Program) (N:Nat) (ops:Array Oper) (Q:Kq) (l:List Oper) (ρ:Rf) (w:World):Prop where
 nF:ro.any=false→∀a,fw N ro.D a ρ→wpList P ops (fj N ro.D Q) l a w
 k5:∀a,fw N ro.D a ρ→∀n,wpListIn (FW ro.round) n P ops (fj N ro.D Q) l a w
def ek (next:Rf→World→Prop) (Q:Kq):Kq
 |.normal,ρ,w=>next ρ w
 |e,ρ,w=>Q e ρ w
def qJ (id:Nat) (Q:Kq):Kq
 |.exit id',ρ,w=>if id'=id then Q .normal ρ w else Q (.exit id') ρ w
 |e,ρ,w=>Q e ρ w
section code
variable {ro:Mode}{P:Program}{N:Nat}{Q:Kq}{ρ:Rf}{w:World}
theorem WC.oC {D:List Deferred}{c:Code} (h:∀a,fw N D a ρ→c.wp P (fj N D Q) a w):WC ⟨none,D,false⟩ P N c Q ρ w:=⟨fun _=>h,fun a hf _=>wpIn_wide.2 (h a hf)⟩
theorem WC.out {D:List Deferred}{c:Code} (h:WC ⟨none,D,false⟩ P N c Q ρ w):∀a,fw N D a ρ→c.wp P (fj N D Q) a w:=h.nF rfl
theorem Mn {r:Option Nat}{D:List Deferred}{c:Code} (h:WC ⟨r,D,false⟩ P N c Q ρ w):WC ⟨r,D,true⟩ P N c Q ρ w:=⟨fun h=>(by cases h),h.k5⟩
theorem WL.out {D:List Deferred}{ops:Array Oper}{l:List Oper} (h:WL ⟨none,D,false⟩ P N ops Q l ρ w):∀a,fw N D a ρ→wpList P ops (fj N D Q) l a w:=h.nF rfl
theorem yv {D:List Deferred}{Q Q':Kq} (h:∀e ρ w,Q e ρ w→Q' e ρ w) (e:Exit) (a:Act) (w:World):fj N D Q e a w→fj N D Q' e a w:=
 fun ⟨ρ,hf,hq⟩=>⟨ρ,hf,h _ _ _ hq⟩
theorem WC.mono {c:Code}{Q':Kq} (h:WC ro P N c Q ρ w) (hq:∀e ρ w,Q e ρ w→Q' e ρ w):WC ro P N c Q' ρ w:=
 ⟨fun hm a hf=>wp_mono (h.nF hm a hf) (yv hq),fun a hf n=>wpIn_mono (h.k5 a hf n) (yv hq)⟩
theorem bX {x y:Code} (h:WC ro P N x (ek (fun ρ w=>WC ro P N y Q ρ w) Q) ρ w):WC ro P N (.seq x y) Q ρ w:=
 ⟨fun hm a hf=>wp_seq (wp_mono (h.nF hm a hf) fun e a' w' ⟨ρ',hf',hq⟩=>by
  cases e with
  |normal=>exact hq.nF hm a' hf'
  |_=>exact ⟨ρ',hf',hq⟩),
 fun a hf n=>wpIn_seq (wpIn_mono (h.k5 a hf n) fun e a' w' ⟨ρ',hf',hq⟩=>by
  cases e with
  |normal=>exact hq.k5 a' hf' n
  |_=>exact ⟨ρ',hf',hq⟩)⟩
theorem dP (h:Q .normal ρ w):WC ro P N .skip Q ρ w:=⟨fun _ _ hf=>wp_skip ⟨ρ,hf,h⟩,fun _ hf _=>wpIn_skip ⟨ρ,hf,h⟩⟩
theorem xz (h:Q .ret ρ w):WC ro P N .ret Q ρ w:=⟨fun _ _ hf=>wp_ret ⟨ρ,hf,h⟩,fun _ hf _=>wpIn_ret ⟨ρ,hf,h⟩⟩
theorem Aq {id:Nat} (h:Q (.exit id) ρ w):WC ro P N (.exit id) Q ρ w:=⟨fun _ _ hf=>wp_exit ⟨ρ,hf,h⟩,fun _ hf _=>wpIn_exit ⟨ρ,hf,h⟩⟩
theorem MJ {l:Nat} (h:Q .normal ρ w):WC ro P N (.label l) Q ρ w:=⟨fun _ _ hf=>wp_label ⟨ρ,hf,h⟩,fun _ hf _=>wpIn_label ⟨ρ,hf,h⟩⟩
theorem k9 {id:Nat}{c:Code} (h:WC ro P N c (qJ id Q) ρ w):WC ro P N (.block id c) Q ρ w:=
 have key:∀(D:List Deferred) e a' w',fj N D (qJ id Q) e a' w'→Exit.inBlock id (fj N D Q) e a' w':=fun D e a' w' ⟨ρ',hf',hq⟩=>by
  cases e with
  |exit id'=>
   by_cases hid:id'=id
   ·simp only [qJ,hid,if_true] at hq;simp only [Exit.inBlock,hid,if_true];exact ⟨ρ',hf',hq⟩
   ·simp only [qJ,hid,if_false] at hq;simp only [Exit.inBlock,hid,if_false];exact ⟨ρ',hf',hq⟩
  |_=>exact ⟨ρ',hf',hq⟩
 ⟨fun hm a hf=>wp_block (wp_mono (h.nF hm a hf) (key _)),fun a hf n=>wpIn_block (wpIn_mono (h.k5 a hf n) (key _))⟩
theorem Kc {c:Operand}{x y:Code} (hc:ev ρ c=.bool true) (h:WC ro P N x Q ρ w):WC ro P N (.cond c x y) Q ρ w:=
 ⟨fun hm a hf=>wp_cond_true (by rw [hf.eval];exact hc) (h.nF hm a hf),fun a hf n=>wpIn_cond_true (by rw [hf.eval];exact hc) (h.k5 a hf n)⟩
theorem Jy {c:Operand}{x y:Code} (hc:ev ρ c=.bool false) (h:WC ro P N y Q ρ w):WC ro P N (.cond c x y) Q ρ w:=
 ⟨fun hm a hf=>wp_cond_false (by rw [hf.eval];exact hc) (h.nF hm a hf),fun a hf n=>wpIn_cond_false (by rw [hf.eval];exact hc) (h.k5 a hf n)⟩
theorem bZ {id:Nat}{l:List Oper} (h:WL ro P N l.toArray Q l ρ w):WC ro P N (.region id l.toArray false) Q ρ w:=
 ⟨fun hm a hf=>wp_region_lit (h.nF hm a hf),fun a hf n=>wpIn_region_lit (h.k5 a hf n)⟩
theorem eF {next:Rf→World→Prop} (h:next ρ w):ek next Q .normal ρ w:=h
theorem Wv {next:Rf→World→Prop} (h:Q .ret ρ w):ek next Q .ret ρ w:=h
theorem vR {next:Rf→World→Prop}{id:Nat} (h:Q (.exit id) ρ w):ek next Q (.exit id) ρ w:=h
theorem LY {id:Nat} (h:Q .normal ρ w):qJ id Q .normal ρ w:=h
theorem VR {id:Nat} (h:Q .ret ρ w):qJ id Q .ret ρ w:=h
theorem Gy {id:Nat} (h:Q .normal ρ w):qJ id Q (.exit id) ρ w:=by simpa [qJ] using h
theorem Uh {id id':Nat} (hne:id'≠id) (h:Q (.exit id') ρ w):qJ id Q (.exit id') ρ w:=by simpa [qJ,hne] using h
def mask (mods:List Nat) (ρ' ρ:Rf):Rf:=fun i=>bif mods.contains i then ρ' i else ρ i
def iw (mods:List Nat) (ρ1 ρ:Rf):Prop:=∀i,mods.contains i=false→ρ1 i=ρ i
theorem fN (mods:List Nat) (ρ' ρ:Rf):iw mods (mask mods ρ' ρ) ρ:=fun i hi=>by simp only [mask,hi,cond_false]
theorem dH {mods:List Nat}{ρ1 ρ:Rf}{d:Nat}{v:Value} (hd:mods.contains d=true) (h:iw mods ρ1 ρ):iw mods (cm ρ1 d v) ρ:=fun i hi=>by
 rw [jh ρ1 (fun e=>by rw [e,hd] at hi;cases hi)];exact h i hi
theorem eW {mods mods2:List Nat}{ρ' ρ1 ρ:Rf} (hm:(mods2.all fun i=>mods.contains i)=true) (h:iw mods ρ1 ρ):iw mods (mask mods2 ρ' ρ1) ρ:=fun i hi=>by
 have h2:mods2.contains i=false:=by
  cases hc:mods2.contains i with
  |false=>rfl
  |true=>
   have:=aai.1 hm i (by simpa using hc);rw [this] at hi;cases hi
 simp only [mask,h2,cond_false];exact h i hi
theorem ZE {p:Prop} (h:p:=by repeat (first|exact fN _ _ _|refine dH rfl ?_|refine eW rfl ?_)):p:=h
theorem ZF {p:Prop} (h:p:=by (repeat (first|exact fN _ _ _|refine dH rfl ?_|refine eW rfl ?_));exact fun _ _=>rfl):p:=h
theorem iC {mods:List Nat}{ρ1 ρ:Rf} (h:iw mods ρ1 ρ):mask mods ρ1 ρ=ρ1:=by
 funext i;simp only [mask]
 cases hc:mods.contains i with
 |true=>rfl
 |false=>simpa using (h i hc).symm
theorem fI (ρ:Rf) (d:Nat):cm ρ d (ρ d)=ρ:=by
 funext i;by_cases h:i=d
 ·subst h;rw [vL]
 ·rw [jh ρ h]
theorem rR {c:Code} (I:Rf→World→Prop) (μ:Rf→World→Nat) (h0:I ρ w)
  (round:∀ρ w,I ρ w→WC ro P N c (ek (fun ρ' w'=>I ρ' w'∧μ ρ' w'<μ ρ w) Q) ρ w):WC ro P N (.loop c) Q ρ w:=by
 refine ⟨fun hm a hf=> ?_,fun a hf n=> ?_⟩
 ·refine wp_loop (fun a w=>∃ρ,fw N ro.D a ρ∧I ρ w) (fun a w=>μ (fun i=>a.tmps.getD i undef) w) ⟨ρ,hf,h0⟩ ?_;rintro a w ⟨ρ,hf,hi⟩;refine wp_mono ((round ρ w hi).nF hm a hf) ?_;exact WY
 ·refine wpIn_loop (fun a w=>∃ρ,fw N ro.D a ρ∧I ρ w) (fun a w=>μ (fun i=>a.tmps.getD i undef) w) ⟨ρ,hf,h0⟩ ?_;rintro a w ⟨ρ,hf,hi⟩;refine wpIn_mono ((round ρ w hi).k5 a hf n) ?_;exact WY
theorem Ms {c:Code} (mods:List Nat) (I:World→Prop) (μ:World→Nat) (h0:I  w)
  (round:∀ρ' w',I  w'→WC ro P N c (ek (fun ρ2 w2=>I  w2∧μ  w2<μ  w'∧iw mods ρ2 ρ) Q) (mask mods ρ' ρ) w'):WC ro P N (.loop c) Q ρ w:=
 rR (fun ρ1 w1=>I  w1∧iw mods ρ1 ρ) (fun ρ1 w1=>μ  w1) ⟨h0,fun _ _=>rfl⟩ fun ρ1 w1 ⟨hi,ha⟩=>by
  have h:=round ρ1  w1 hi;rw [iC ha] at h;exact h.mono fun e ρ2 w2 hq=>by
   cases e with
   |normal=>exact ⟨⟨hq.1,hq.2.2⟩,hq.2.1⟩
   |_=>exact hq
theorem aD {c:Code} (mods:List Nat) (s0:Nat) (I:Value→World→Prop) (μ:Value→World→Nat) (h0:I (ρ s0) w)
  (round:∀ρ' v0 w',I v0 w'→WC ro P N c (ek (fun ρ2 w2=>I (ρ2 s0) w2∧μ (ρ2 s0) w2<μ v0 w'∧iw mods ρ2 ρ) Q) (cm (mask mods ρ' ρ) s0 v0) w'):WC ro P N (.loop c) Q ρ w:=
 rR (fun ρ1 w1=>I (ρ1 s0) w1∧iw mods ρ1 ρ) (fun ρ1 w1=>μ (ρ1 s0) w1) ⟨h0,fun _ _=>rfl⟩ fun ρ1 w1 ⟨hi,ha⟩=>by
  have h:=round ρ1 (ρ1 s0) w1 hi;rw [iC ha,fI] at h;exact h.mono fun e ρ2 w2 hq=>by
   cases e with
   |normal=>exact ⟨⟨hq.1,hq.2.2⟩,hq.2.1⟩
   |_=>exact hq
theorem a7 {c:Code} (mods:List Nat) (s0 s1:Nat) (I:Value→Value→World→Prop) (μ:Value→Value→World→Nat) (h0:I (ρ s0) (ρ s1) w)
  (round:∀ρ' v0 v1 w',I v0 v1 w'→WC ro P N c (ek (fun ρ2 w2=>I (ρ2 s0) (ρ2 s1) w2∧μ (ρ2 s0) (ρ2 s1) w2<μ v0 v1 w'∧iw mods ρ2 ρ) Q) (cm (cm (mask mods ρ' ρ) s0 v0) s1 v1) w'):WC ro P N (.loop c) Q ρ w:=
 rR (fun ρ1 w1=>I (ρ1 s0) (ρ1 s1) w1∧iw mods ρ1 ρ) (fun ρ1 w1=>μ (ρ1 s0) (ρ1 s1) w1) ⟨h0,fun _ _=>rfl⟩ fun ρ1 w1 ⟨hi,ha⟩=>by
  have h:=round ρ1 (ρ1 s0) (ρ1 s1) w1 hi;rw [iC ha,fI,fI] at h;exact h.mono fun e ρ2 w2 hq=>by
   cases e with
   |normal=>exact ⟨⟨hq.1,hq.2.2⟩,hq.2.1⟩
   |_=>exact hq
theorem oH {c:Code} (mods:List Nat) (s0 s1 s2:Nat) (I:Value→Value→Value→World→Prop) (μ:Value→Value→Value→World→Nat) (h0:I (ρ s0) (ρ s1) (ρ s2) w)
  (round:∀ρ' v0 v1 v2 w',I v0 v1 v2 w'→WC ro P N c (ek (fun ρ2 w2=>I (ρ2 s0) (ρ2 s1) (ρ2 s2) w2∧μ (ρ2 s0) (ρ2 s1) (ρ2 s2) w2<μ v0 v1 v2 w'∧iw mods ρ2 ρ) Q) (cm (cm (cm (mask mods ρ' ρ) s0 v0) s1 v1) s2 v2) w'):WC ro P N (.loop c) Q ρ w:=
 rR (fun ρ1 w1=>I (ρ1 s0) (ρ1 s1) (ρ1 s2) w1∧iw mods ρ1 ρ) (fun ρ1 w1=>μ (ρ1 s0) (ρ1 s1) (ρ1 s2) w1) ⟨h0,fun _ _=>rfl⟩ fun ρ1 w1 ⟨hi,ha⟩=>by
  have h:=round ρ1 (ρ1 s0) (ρ1 s1) (ρ1 s2) w1 hi;rw [iC ha,fI,fI,fI] at h;exact h.mono fun e ρ2 w2 hq=>by
   cases e with
   |normal=>exact ⟨⟨hq.1,hq.2.2⟩,hq.2.1⟩
   |_=>exact hq
theorem MK {c:Code} (mods:List Nat) (s0 s1 s2 s3:Nat) (I:Value→Value→Value→Value→World→Prop) (μ:Value→Value→Value→Value→World→Nat) (h0:I (ρ s0) (ρ s1) (ρ s2) (ρ s3) w)
  (round:∀ρ' v0 v1 v2 v3 w',I v0 v1 v2 v3 w'→WC ro P N c (ek (fun ρ2 w2=>I (ρ2 s0) (ρ2 s1) (ρ2 s2) (ρ2 s3) w2∧μ (ρ2 s0) (ρ2 s1) (ρ2 s2) (ρ2 s3) w2<μ v0 v1 v2 v3 w'∧iw mods ρ2 ρ) Q) (cm (cm (cm (cm (mask mods ρ' ρ) s0 v0) s1 v1) s2 v2) s3 v3) w'):WC ro P N (.loop c) Q ρ w:=
 rR (fun ρ1 w1=>I (ρ1 s0) (ρ1 s1) (ρ1 s2) (ρ1 s3) w1∧iw mods ρ1 ρ) (fun ρ1 w1=>μ (ρ1 s0) (ρ1 s1) (ρ1 s2) (ρ1 s3) w1) ⟨h0,fun _ _=>rfl⟩ fun ρ1 w1 ⟨hi,ha⟩=>by
  have h:=round ρ1 (ρ1 s0) (ρ1 s1) (ρ1 s2) (ρ1 s3) w1 hi;rw [iC ha,fI,fI,fI,fI] at h;exact h.mono fun e ρ2 w2 hq=>by
   cases e with
   |normal=>exact ⟨⟨hq.1,hq.2.2⟩,hq.2.1⟩
   |_=>exact hq
end code
inductive Lc (P:Program) (ρ:Rf) (w:World):ResultVar→Value→Prop
 |tmp (t:Tmp) {v:Value} (h:ρ t=v):Lc P ρ w (.tmp t) v
 |cell (p:Tmp) (t:TypeId) {a:Addr}{v:Value} (hp:ρ p=.pointer (some a)) (h:(loadVar t a).run P w=.ok v w):Lc P ρ w (.cell p t) v
def iT (P:Program) (ρ:Rf) (w:World):List ResultVar→List Value→Prop
 |[],[]=>True
 |r::rs,v::vs=>Lc P ρ w r v∧iT P ρ w rs vs
 |_,_=>False
def y8:List Value→Value
 |[v]=>v
 |vs=>.tuple vs.toArray
def nP (P:Program) (fn:Func) (R:Ending→World→Prop):Kq:=fun e ρ w=>
 (e=.normal∨e=.ret)∧∃v,(∀tmps:Array Value,(∀i,tmps.getD i undef=ρ i)→(results fn tmps).run P w=.ok v w)∧R (.returned v) w
theorem HM {P:Program}{ρ:Rf}{w:World}{f:ResultVar→Sem Value} (h1:∀t,(f (.tmp t)).run P w=.ok (ρ t) w)
  (h2:∀p t a v,ρ p=.pointer (some a)→(loadVar t a).run P w=.ok v w→(f (.cell p t)).run P w=.ok v w):∀(rs:List ResultVar) (vs:List Value),iT P ρ w rs vs→
  (rs.mapM f).run P w=.ok vs w
 |[],[],_=>by simp
 |[],_::_,h=>h.elim
 |_::_,[],h=>h.elim
 |r::rs,v::vs,h=>by
  have ih:=HM h1 h2 rs vs h.2;obtain ⟨h3,_⟩:=h;rw [List.mapM_cons]
  cases h3 with
  |tmp t hv=>rw [Sem.run_bind,h1,Result.andThen_ok,Sem.run_bind,ih,Result.andThen_ok,Sem.run_pure,hv]
  |cell p t hp hl=>rw [Sem.run_bind,h2 _ _ _ _ hp hl,Result.andThen_ok,Sem.run_bind,ih,Result.andThen_ok,Sem.run_pure]
theorem lP {P:Program}{fn:Func}{R:Ending→World→Prop}{ρ:Rf}{w:World}{rs:List ResultVar}{vs:List Value}{e:Exit} (he:e=.normal∨e=.ret) (hr:fn.results=rs.toArray)
  (hv:iT P ρ w rs vs) (h:R (.returned (y8 vs)) w):nP P fn R e ρ w:=by
 refine ⟨he,y8 vs,fun tmps ht=> ?_,h⟩;unfold results;rw [hr,Sem.run_bind,List.mapM_toArray,Sem.run_map,HM (ρ:=ρ) (fun t=>by simp [ht]) (fun p t a v hp hl=>by simp [ht,hp,asAddr,hl]) rs vs hv];simp only [Result.andThen_ok]
 match vs with
 |[]=>simp [y8]
 |[v]=>simp [y8]
 |_::_::_=>simp [y8]
theorem cV {P:Program}{ρ:Rf}{w:World}:iT P ρ w [] []:=trivial
theorem dL {P:Program}{ρ:Rf}{w:World}{t:Tmp}{v:Value}{rs:List ResultVar}{vs:List Value} (h:ρ t=v) (k:iT P ρ w rs vs):iT P ρ w (.tmp t::rs) (v::vs):=⟨.tmp t h,k⟩
theorem bH {P:Program}{ρ:Rf}{w:World}{p:Tmp}{t:TypeId}{a:Addr}{v:Value}{rs:List ResultVar}{vs:List Value} (hp:ρ p=.pointer (some a)) (h:(loadVar t a).run P w=.ok v w) (k:iT P ρ w rs vs):iT P ρ w (.cell p t::rs) (v::vs):=⟨.cell p t hp h,k⟩
theorem Ym {P:Program}{fn:Func}{R:Ending→World→Prop}{ρ:Rf}{w:World}{t:Tmp}{e:Exit}{v:Value} (he:e=.normal∨e=.ret) (hr:fn.results= #[.tmp t]) (hv:ρ t=v) (h:R (.returned v) w):nP P fn R e ρ w:=
 lP he hr (dL hv cV) h
theorem X1 {P:Program}{fn:Func}{R:Ending→World→Prop}{ρ:Rf}{w:World}{t u:Tmp}{e:Exit}{v x:Value} (he:e=.normal∨e=.ret) (hr:fn.results= #[.tmp t,.tmp u]) (hv:ρ t=v) (hx:ρ u=x) (h:R (.returned (.tuple #[v,x])) w):nP P fn R e ρ w:=
 lP he hr (dL hv (dL hx cV)) h
theorem Yc {P:Program}{fn:Func}{R:Ending→World→Prop}{ρ:Rf}{w:World}{t u s:Tmp}{e:Exit}{v x y:Value} (he:e=.normal∨e=.ret) (hr:fn.results= #[.tmp t,.tmp u,.tmp s]) (hv:ρ t=v) (hx:ρ u=x) (hy:ρ s=y) (h:R (.returned (.tuple #[v,x,y])) w):nP P fn R e ρ w:=
 lP he hr (dL hv (dL hx (dL hy cV))) h
theorem Qu {P:Program}{fn:Func}{R:Ending→World→Prop}{ρ:Rf}{w:World}{e:Exit} (he:e=.normal∨e=.ret) (hr:fn.results= #[]) (h:R (.returned (.tuple #[])) w):nP P fn R e ρ w:=
 lP he hr cV h
theorem VQ {P:Program}{fn:Func}{R:Ending→World→Prop}{ρ:Rf}{w:World}{r:ResultVar}{e:Exit}{v:Value} (he:e=.normal∨e=.ret) (hr:fn.results= #[r]) (h1:iT P ρ w [r] [v]) (h:R (.returned v) w):nP P fn R e ρ w:=
 lP he hr h1 h
theorem Wz {P:Program}{fn:Func}{R:Ending→World→Prop}{ρ:Rf}{w:World}{r s:ResultVar}{e:Exit}{v x:Value} (he:e=.normal∨e=.ret) (hr:fn.results= #[r,s]) (h1:iT P ρ w [r,s] [v,x]) (h:R (.returned (.tuple #[v,x])) w):nP P fn R e ρ w:=
 lP he hr h1 h
theorem V9 {P:Program}{fn:Func}{R:Ending→World→Prop}{ρ:Rf}{w:World}{r s t:ResultVar}{e:Exit}{v x y:Value} (he:e=.normal∨e=.ret) (hr:fn.results= #[r,s,t]) (h1:iT P ρ w [r,s,t] [v,x,y]) (h:R (.returned (.tuple #[v,x,y])) w):nP P fn R e ρ w:=
 lP he hr h1 h
def Iz (l:List Value):Rf:=fun i=>l.getD i undef
theorem ae {P:Program}{f:FuncId}{fn:Func}{c:Code}{N:Nat}{l:List Value}{w:World}{R:Ending→World→Prop}
  (hf:P.funcs[f]?=some fn) (hb:fn.body=some c) (hn:fn.ntmps=N) (ha:l.length≤N)
  (h:WC .plain P N c (nP P fn R) (Iz l) w):Calls P f l.toArray w R:=by
 refine calls_of_wp hf hb ?_;refine wp_mono (h.out _ ⟨rfl,by simp [hn];omega,fun i=> ?_⟩) ?_
 ·exact U0
 ·rintro e a w' ⟨ρ',hf',he,v,hr,hR⟩
  rcases he with rfl|rfl<;>exact ⟨hf'.nd,v,hr _ hf'.at_,hR⟩
section
variable {ro:Mode}{P:Program}{N:Nat}{ops:Array Oper}{Q:Kq}{ρ:Rf}{w:World}{rest:List Oper}
theorem mA {f:Operand→Value}{o:Oper}{x:Next}{w':World} (ro:Option Nat) (h:(execOp f o).run P w=.ok x w') (hx:∀d,x≠.defer d):(o.semAt ro f).run P w=.ok x w':=by
 cases hop:o.op with
 |defer c=>
  exfalso;unfold execOp at h;rw [hop] at h;simp only [Sem.run_bind] at h
  cases h2:(resolve f c o.type).run P w with
  |ok v w2=>
   rw [h2] at h;simp at h;exact hx _ h.1.symm
  |halt e w2=>
   rw [h2] at h;simp [Result.andThen] at h
 |_=>rw [Oper.semAt_eq _ _ _ (by rw [hop];intro c hc;cases hc)];exact h
theorem Ca {r1:Option Nat}{n:Nat}{f:FuncId}{args:Array Value}{R:Ending→World→Prop} (h:Calls P f args w R):CallsIn (FW r1) n P f args w R:=(callsIn_wide (n:=n)).2 h
theorem OE (h:Q .normal ρ w):WL ro P N ops Q [] ρ w:=⟨fun _ _ hf=>wpList_nil ⟨ρ,hf,h⟩,fun _ hf _=>wpListIn_nil ⟨ρ,hf,h⟩⟩
theorem aN {next:Rf→World→Prop}{Q':Kq} (h:next ρ w):WL ro P N ops (ek next Q') [] ρ w:=OE h
theorem aR {o:Oper}{d:Nat}{v:Value}{w':World} (hg:o.guard=none) (hd:o.dst=some d) (hN:d<N)
  (hr:(execOp (ev ρ) o).run P w=.ok (.value v) w') (k:WL ro P N ops Q rest (cm ρ d v) w'):WL ro P N ops Q (o::rest) ρ w:=
 ⟨fun hm a hf=>wpList_plain hg fun K hK=>by
  unfold Oper.wp;rw [hf.eval,hr];show K (a.put o.dst v) w';rw [hd];exact hK _ _ (k.nF hm _ (hf.put hN v)),
 fun a hf n=>wpListIn_plain hg fun K hK=>by
  refine ⟨fun _ _=>trivial, ?_⟩;rw [hf.eval,mA _ hr (fun _ h=>by cases h)];show K (a.put o.dst v) w';rw [hd];exact hK _ _ (k.k5 _ (hf.put hN v) n)⟩
theorem Aa {o:Oper}{w':World} (hg:o.guard=none) (hd:o.dst=none)
  (hr:(execOp (ev ρ) o).run P w=.ok .skip w') (k:WL ro P N ops Q rest ρ w'):WL ro P N ops Q (o::rest) ρ w:=
 ⟨fun hm a hf=>wpList_plain hg fun K hK=>by
  unfold Oper.wp;rw [hf.eval,hr];show K (a.put o.dst undef) w';rw [hd];exact hK _ _ (k.nF hm _ hf),
 fun a hf n=>wpListIn_plain hg fun K hK=>by
  refine ⟨fun _ _=>trivial, ?_⟩;rw [hf.eval,mA _ hr (fun _ h=>by cases h)];show K (a.put o.dst undef) w';rw [hd];exact hK _ _ (k.k5 _ hf n)⟩
theorem CS {o:Oper}{d:Nat}{f:FuncId}{args:Array Value}{w1:World}{R:Ending→World→Prop} (hg:o.guard=none) (hd:o.dst=some d) (hN:d<N)
  (hr:(execOp (ev ρ) o).run P w=.ok (.enter f args) w1) (hc:Calls P f args w1 R)
  (k:∀e w',R e w'→∃v,e=.returned v∧WL ro P N ops Q rest (cm ρ d v) w'):WL ro P N ops Q (o::rest) ρ w:=
 ⟨fun hm a hf=>wpList_plain hg fun K hK=>by
  unfold Oper.wp;rw [hf.eval,hr];show Calls P f args w1 _;refine hc.mono fun e w' hR=> ?_;obtain ⟨v,rfl,hk⟩:=k e w' hR;show K (a.put o.dst v) w';rw [hd];exact hK _ _ (hk.nF hm _ (hf.put hN v)),
 fun a hf n=>wpListIn_plain hg fun K hK=>by
  refine ⟨fun _ _=>trivial, ?_⟩;rw [hf.eval,mA _ hr (fun _ h=>by cases h)];refine ⟨fun h=>(by cases h), ?_⟩;refine Ca (hc.mono fun e w' hR=> ?_);obtain ⟨v,rfl,hk⟩:=k e w' hR;show K (a.put o.dst v) w';rw [hd];exact hK _ _ (hk.k5 _ (hf.put hN v) n)⟩
theorem l8 {d:Option Nat}{op:Op}{ty:TypeId}{pos:String}{af:Array Edge}{j dj:Nat}{b:Bool}
  (hj:(ops[j]?).bind (·.dst)=some dj) (hv:ρ dj=.bool b) (k:WL ro P N ops Q (⟨d,op,ty,pos,af,none⟩::rest) ρ w):
  WL ro P N ops Q (⟨d,op,ty,pos,af,some (j,b)⟩::rest) ρ w:=
 have h0:∀D a,fw N D a ρ→Region.wanted ⟨d,op,ty,pos,af,some (j,b)⟩ (yielded ops a.tmps)=true:=fun D a hf=>by
  have h2:=hf.at_ dj;rw [hv,aa2] at h2
  cases h3:a.tmps[dj]? with
  |none=>rw [h3] at h2;cases h2
  |some x=>
   rw [h3] at h2;simp only [aa1] at h2;subst h2;simp [Region.wanted,yielded,hj,h3]
 ⟨fun hm a hf=>by
  have h2:=k.nF hm a hf;unfold wpList at h2 ⊢;rw [ZH (h0 _ a hf)];rw [ZH (by simp [Region.wanted])] at h2;exact h2,
 fun a hf n=>by
  have h2:=k.k5 a hf n;unfold wpListIn at h2 ⊢;rw [ZH (h0 _ a hf)];rw [ZH (by simp [Region.wanted])] at h2;exact h2⟩
theorem pY {d:Nat}{op:Op}{ty:TypeId}{pos:String}{af:Array Edge}{j dj:Nat}{b c:Bool} (hN:d<N)
  (hj:(ops[j]?).bind (·.dst)=some dj) (hv:ρ dj=.bool c) (hb:c≠b) (k:WL ro P N ops Q rest (cm ρ d undef) w):
  WL ro P N ops Q (⟨some d,op,ty,pos,af,some (j,b)⟩::rest) ρ w:=
 have h0:∀D a,fw N D a ρ→Region.wanted ⟨some d,op,ty,pos,af,some (j,b)⟩ (yielded ops a.tmps)=false:=fun D a hf=>by
  have h2:=hf.at_ dj;rw [hv,aa2] at h2
  cases h3:a.tmps[dj]? with
  |none=>rw [h3] at h2;cases h2
  |some x=>
   rw [h3] at h2;simp only [aa1] at h2;subst h2;simp [Region.wanted,yielded,hj,h3,hb]
 ⟨fun hm a hf=>by
  unfold wpList;rw [h0 _ a hf];exact k.nF hm _ (hf.put hN undef),
 fun a hf n=>by
  unfold wpListIn;rw [h0 _ a hf];exact ⟨fun _ _=>trivial,k.k5 _ (hf.put hN undef) n⟩⟩
def nb (v:Value) (b:Bool):Bool:=match v with|.bool c=>c !=b|_=>true
theorem u9 {d:Nat}{op:Op}{ty:TypeId}{pos:String}{af:Array Edge}{j dj:Nat}{b:Bool} (hN:d<N)
  (hj:(ops[j]?).bind (·.dst)=some dj) (hb:nb (ρ dj) b=true) (k:WL ro P N ops Q rest (cm ρ d undef) w):
  WL ro P N ops Q (⟨some d,op,ty,pos,af,some (j,b)⟩::rest) ρ w:=by
 cases hv:ρ dj with
 |bool c=>
  rw [hv] at hb;exact pY hN hj hv (by simpa [nb] using hb) k
 |_=>
  have h0:∀D a,fw N D a ρ→Region.wanted ⟨some d,op,ty,pos,af,some (j,b)⟩ (yielded ops a.tmps)=false:=fun D a hf=>by
   have h2:=hf.at_ dj;rw [hv,aa2] at h2
   cases h3:a.tmps[dj]? with
   |none=>simp [Region.wanted,yielded,hj,h3]
   |some x=>
    rw [h3] at h2;simp only [aa1] at h2;subst h2;simp [Region.wanted,yielded,hj,h3]
  refine ⟨fun hm a hf=> ?_,fun a hf n=> ?_⟩
  ·unfold wpList;rw [h0 _ a hf];exact k.nF hm _ (hf.put hN undef)
  ·unfold wpListIn;rw [h0 _ a hf];exact ⟨fun _ _=>trivial,k.k5 _ (hf.put hN undef) n⟩
theorem vk {op:Op}{ty:TypeId}{pos:String}{af:Array Edge}{j dj:Nat}{b c:Bool}
  (hj:(ops[j]?).bind (·.dst)=some dj) (hv:ρ dj=.bool c) (hb:c≠b) (k:WL ro P N ops Q rest ρ w):
  WL ro P N ops Q (⟨none,op,ty,pos,af,some (j,b)⟩::rest) ρ w:=
 have h0:∀D a,fw N D a ρ→Region.wanted ⟨none,op,ty,pos,af,some (j,b)⟩ (yielded ops a.tmps)=false:=fun D a hf=>by
  have h2:=hf.at_ dj;rw [hv,aa2] at h2
  cases h3:a.tmps[dj]? with
  |none=>rw [h3] at h2;cases h2
  |some x=>
   rw [h3] at h2;simp only [aa1] at h2;subst h2;simp [Region.wanted,yielded,hj,h3,hb]
 ⟨fun hm a hf=>by
  unfold wpList;rw [h0 _ a hf];exact k.nF hm _ hf,
 fun a hf n=>by
  unfold wpListIn;rw [h0 _ a hf];exact ⟨fun _ _=>trivial,k.k5 _ hf n⟩⟩
end
section
variable {P:Program}{ρ:Rf}{w:World}{d:Option Nat}{ty:TypeId}{pos:String}{af:Array Edge}{g:Option (Nat×Bool)}
theorem fZ {x:Operand}{v:Value} (hx:ev ρ x=v):(execOp (ev ρ) ⟨d,.move x,ty,pos,af,g⟩).run P w=.ok (.value v) w:=by simp [execOp,hx]
theorem BV {x:Operand}{v:Value} (hx:ev ρ x=v):(execOp (ev ρ) ⟨d,.assign x,ty,pos,af,g⟩).run P w=.ok (.value v) w:=by simp [execOp,hx]
theorem Cq {c a b:Operand}{v:Value} (hc:ev ρ c=.bool true) (hx:ev ρ a=v):(execOp (ev ρ) ⟨d,.pick c a b,ty,pos,af,g⟩).run P w=.ok (.value v) w:=by simp [execOp,asBool,hc,hx]
theorem Dz {c a b:Operand}{v:Value} (hc:ev ρ c=.bool false) (hx:ev ρ b=v):(execOp (ev ρ) ⟨d,.pick c a b,ty,pos,af,g⟩).run P w=.ok (.value v) w:=by simp [execOp,asBool,hc,hx]
section ints
variable {t u:TypeId}{x y:Operand}{k:IntKind}{a b:Int}
theorem Sg (hx:ev ρ x=.int k a) (hy:ev ρ y=.int k b):(execOp (ev ρ) ⟨d,.binOp .add t x y u,ty,pos,af,g⟩).run P w=.ok (.value (.int k (k.wrap (a+b)))) w:=by
 simp [execOp,hx,hy,eqGuard,binOp,Op.intArith]
theorem Ru (hx:ev ρ x=.int k a) (hy:ev ρ y=.int k b):(execOp (ev ρ) ⟨d,.binOp .sub t x y u,ty,pos,af,g⟩).run P w=.ok (.value (.int k (k.wrap (a-b)))) w:=by
 simp [execOp,hx,hy,eqGuard,binOp,Op.intArith]
theorem TN (hx:ev ρ x=.int k a) (hy:ev ρ y=.int k b):(execOp (ev ρ) ⟨d,.binOp .mul t x y u,ty,pos,af,g⟩).run P w=.ok (.value (.int k (k.wrap (a*b)))) w:=by
 simp [execOp,hx,hy,eqGuard,binOp,Op.intArith]
theorem Su (hx:ev ρ x=.int k a) (hy:ev ρ y=.int k b) (hb:b≠0):(execOp (ev ρ) ⟨d,.binOp .quo t x y u,ty,pos,af,g⟩).run P w=.ok (.value (.int k (k.wrap (a.tdiv b)))) w:=by
 simp [execOp,hx,hy,eqGuard,binOp,Op.intDiv,hb]
theorem TC (hx:ev ρ x=.int k a) (hy:ev ρ y=.int k b) (hb:b≠0):(execOp (ev ρ) ⟨d,.binOp .rem t x y u,ty,pos,af,g⟩).run P w=.ok (.value (.int k (a.tmod b))) w:=by
 simp [execOp,hx,hy,eqGuard,binOp,Op.intDiv,hb]
theorem TH (hx:ev ρ x=.int k a) (hy:ev ρ y=.int k b):(execOp (ev ρ) ⟨d,.binOp .and t x y u,ty,pos,af,g⟩).run P w=.ok (.value (.int k (k.wrap (BitVec.ofInt k.bits a &&& BitVec.ofInt k.bits b).toNat))) w:=by
 simp [execOp,hx,hy,eqGuard,binOp,Op.intBits]
theorem Yo (hx:ev ρ x=.int k a) (hy:ev ρ y=.int k b):(execOp (ev ρ) ⟨d,.binOp .or t x y u,ty,pos,af,g⟩).run P w=.ok (.value (.int k (k.wrap (BitVec.ofInt k.bits a|||BitVec.ofInt k.bits b).toNat))) w:=by
 simp [execOp,hx,hy,eqGuard,binOp,Op.intBits]
theorem Sc {k':IntKind} (hx:ev ρ x=.int k a) (hy:ev ρ y=.int k' b) (hb:0≤b):(execOp (ev ρ) ⟨d,.binOp .shl t x y u,ty,pos,af,g⟩).run P w=.ok (.value (.int k (k.wrap (a*2^(min b.toNat k.bits))))) w:=by
 simp [execOp,hx,hy,eqGuard,binOp,Op.shift,show ¬b<0 by omega]
theorem S3 {k':IntKind} (hx:ev ρ x=.int k a) (hy:ev ρ y=.int k' b) (hb:0≤b):(execOp (ev ρ) ⟨d,.binOp .shr t x y u,ty,pos,af,g⟩).run P w=.ok (.value (.int k (a.fdiv (2^(min b.toNat k.bits))))) w:=by
 simp [execOp,hx,hy,eqGuard,binOp,Op.shift,show ¬b<0 by omega]
theorem CT {op:BinOp}:(eqGuard op t x y (.int k a) (.int k b)).run P w=.ok () w:=by
 unfold eqGuard;cases op<;>simp
theorem n9 {op:BinOp}{r:Bool} (hx:ev ρ x=.int k a) (hy:ev ρ y=.int k b) (hop:(Op.intCmp op a b).run P w=.ok (.bool r) w) (hc:op=.eql∨op=.neq∨op=.lss∨op=.leq∨op=.gtr∨op=.geq):
  (execOp (ev ρ) ⟨d,.binOp op t x y u,ty,pos,af,g⟩).run P w=.ok (.value (.bool r)) w:=by
 rcases hc with h|h|h|h|h|h<;>subst h<;>simp [execOp,hx,hy,CT,binOp,hop]
theorem QN (hx:ev ρ x=.int k a) (hy:ev ρ y=.int k b) (h:a<b):(execOp (ev ρ) ⟨d,.binOp .lss t x y u,ty,pos,af,g⟩).run P w=.ok (.value (.bool true)) w:=
 n9 hx hy (by simp [Op.intCmp,h]) (by simp)
theorem QH (hx:ev ρ x=.int k a) (hy:ev ρ y=.int k b) (h:¬a<b):(execOp (ev ρ) ⟨d,.binOp .lss t x y u,ty,pos,af,g⟩).run P w=.ok (.value (.bool false)) w:=
 n9 hx hy (by simp [Op.intCmp];omega) (by simp)
theorem QV (hx:ev ρ x=.int k a) (hy:ev ρ y=.int k b) (h:a≤b):(execOp (ev ρ) ⟨d,.binOp .leq t x y u,ty,pos,af,g⟩).run P w=.ok (.value (.bool true)) w:=
 n9 hx hy (by simp [Op.intCmp,h]) (by simp)
theorem P9 (hx:ev ρ x=.int k a) (hy:ev ρ y=.int k b) (h:¬a≤b):(execOp (ev ρ) ⟨d,.binOp .leq t x y u,ty,pos,af,g⟩).run P w=.ok (.value (.bool false)) w:=
 n9 hx hy (by simp [Op.intCmp];omega) (by simp)
theorem Pf (hx:ev ρ x=.int k a) (hy:ev ρ y=.int k b) (h:b<a):(execOp (ev ρ) ⟨d,.binOp .gtr t x y u,ty,pos,af,g⟩).run P w=.ok (.value (.bool true)) w:=
 n9 hx hy (by simp [Op.intCmp,h]) (by simp)
theorem Ps (hx:ev ρ x=.int k a) (hy:ev ρ y=.int k b) (h:¬b<a):(execOp (ev ρ) ⟨d,.binOp .gtr t x y u,ty,pos,af,g⟩).run P w=.ok (.value (.bool false)) w:=
 n9 hx hy (by simp [Op.intCmp];omega) (by simp)
theorem Pe (hx:ev ρ x=.int k a) (hy:ev ρ y=.int k b) (h:b≤a):(execOp (ev ρ) ⟨d,.binOp .geq t x y u,ty,pos,af,g⟩).run P w=.ok (.value (.bool true)) w:=
 n9 hx hy (by simp [Op.intCmp,h]) (by simp)
theorem Q9 (hx:ev ρ x=.int k a) (hy:ev ρ y=.int k b) (h:¬b≤a):(execOp (ev ρ) ⟨d,.binOp .geq t x y u,ty,pos,af,g⟩).run P w=.ok (.value (.bool false)) w:=
 n9 hx hy (by simp [Op.intCmp];omega) (by simp)
theorem P0 (hx:ev ρ x=.int k a) (hy:ev ρ y=.int k b) (h:a≠b):(execOp (ev ρ) ⟨d,.binOp .neq t x y u,ty,pos,af,g⟩).run P w=.ok (.value (.bool true)) w:=
 n9 hx hy (by simp [Op.intCmp,h]) (by simp)
theorem Pg (hx:ev ρ x=.int k a) (hy:ev ρ y=.int k b) (h:a=b):(execOp (ev ρ) ⟨d,.binOp .neq t x y u,ty,pos,af,g⟩).run P w=.ok (.value (.bool false)) w:=
 n9 hx hy (by simp [Op.intCmp,h]) (by simp)
theorem HH (hx:ev ρ x=.int k a) (hy:ev ρ y=.int k b):(execOp (ev ρ) ⟨d,.binOp .eql t x y u,ty,pos,af,g⟩).run P w=.ok (.value (.bool (decide (a=b)))) w:=
 n9 hx hy (by simp [Op.intCmp];rw [Bool.eq_iff_iff];simp) (by simp)
theorem S8 (hx:ev ρ x=.int k a):(execOp (ev ρ) ⟨d,.unOp .neg t x,ty,pos,af,g⟩).run P w=.ok (.value (.int k (k.wrap (-a)))) w:=by
 simp [execOp,hx,Op.unary,Op.intArith]
theorem kY {n:Int} (h1: -9223372036854775808≤n) (h2:n≤9223372036854775807):IntKind.i64.wrap n=n:=IntWalk.i64_in n ⟨h1,h2⟩
theorem OB (hx:ev ρ x=.int .i64 a) (hy:ev ρ y=.int .i64 b) (h1: -9223372036854775808≤a+b) (h2:a+b≤9223372036854775807):(execOp (ev ρ) ⟨d,.binOp .add t x y u,ty,pos,af,g⟩).run P w=.ok (.value (.int .i64 (a+b))) w:=by
 rw [Sg hx hy,kY h1 h2]
theorem M8 (hx:ev ρ x=.int .i64 a) (hy:ev ρ y=.int .i64 b) (h1: -9223372036854775808≤a-b) (h2:a-b≤9223372036854775807):(execOp (ev ρ) ⟨d,.binOp .sub t x y u,ty,pos,af,g⟩).run P w=.ok (.value (.int .i64 (a-b))) w:=by
 rw [Ru hx hy,kY h1 h2]
theorem MS (hx:ev ρ x=.int .i64 a) (hy:ev ρ y=.int .i64 b) (h1: -9223372036854775808≤a*b) (h2:a*b≤9223372036854775807):(execOp (ev ρ) ⟨d,.binOp .mul t x y u,ty,pos,af,g⟩).run P w=.ok (.value (.int .i64 (a*b))) w:=by
 rw [TN hx hy,kY h1 h2]
theorem wC (hx:ev ρ x=.int .i64 a) (h1: -9223372036854775808≤ -a) (h2: -a≤9223372036854775807):(execOp (ev ρ) ⟨d,.unOp .neg t x,ty,pos,af,g⟩).run P w=.ok (.value (.int .i64 (-a))) w:=by
 rw [S8 hx,kY h1 h2]
theorem u4 (hx:ev ρ x=.int .i64 a) (hy:ev ρ y=.int .i64 b) (ha:0≤a) (hb:0<b) (h2:a≤9223372036854775807):(execOp (ev ρ) ⟨d,.binOp .quo t x y u,ty,pos,af,g⟩).run P w=.ok (.value (.int .i64 (a/b))) w:=by
 have h3:a/b≤a:=Int.ediv_le_self b ha;have h4:0≤a/b:=Int.ediv_nonneg ha ZB;rw [Su hx hy ZB,Int.tdiv_eq_ediv_of_nonneg ha,kY ZB ZB]
theorem qi (hx:ev ρ x=.int .i64 a) (hy:ev ρ y=.int .i64 b) (ha:0≤a) (hb:0<b):(execOp (ev ρ) ⟨d,.binOp .rem t x y u,ty,pos,af,g⟩).run P w=.ok (.value (.int .i64 (a % b))) w:=by
 rw [TC hx hy ZB,Int.tmod_eq_emod_of_nonneg ha]
end ints
theorem SO {t:TypeId}{x:Operand}{b:Bool} (hx:ev ρ x=.bool b):(execOp (ev ρ) ⟨d,.unOp .not t x,ty,pos,af,g⟩).run P w=.ok (.value (.bool !b)) w:=by
 simp [execOp,hx,Op.unary]
section bools
variable {t u:TypeId}{x y:Operand}{a b:Bool}
theorem Bs (n:Nat) (ht:P.underlying t=some .bool):(Op.equalIn (n+1) t (.bool a) (.bool b)).run P w=.ok (a==b) w:=by
 simp [Op.equalIn,run_underlying ht]
theorem xG (ht:P.underlying t=some .bool):(Op.equal t (.bool a) (.bool b)).run P w=.ok (a==b) w:=Bs 9999 ht
theorem wz (ht:P.underlying t=some .bool):(binOp .eql t (.bool a) (.bool b)).run P w=.ok (.bool (a==b)) w:=by
 simp only [binOp];simp [xG ht]
theorem wx (ht:P.underlying t=some .bool):(binOp .neq t (.bool a) (.bool b)).run P w=.ok (.bool (a !=b)) w:=by
 simp only [binOp];simp [xG ht,bne]
theorem xb (ht:P.underlying t=some .bool) (hx:ev ρ x=.bool a) (hy:ev ρ y=.bool b):(execOp (ev ρ) ⟨d,.binOp .eql t x y u,ty,pos,af,g⟩).run P w=.ok (.value (.bool (a==b))) w:=by
 simp only [execOp,hx,hy,eqGuard];simp [wz ht]
theorem mO (ht:P.underlying t=some .bool) (hx:ev ρ x=.bool a) (hy:ev ρ y=.bool b):(execOp (ev ρ) ⟨d,.binOp .neq t x y u,ty,pos,af,g⟩).run P w=.ok (.value (.bool (a !=b))) w:=by
 simp only [execOp,hx,hy,eqGuard];simp [wx ht]
end bools
section l4
variable {t u:TypeId}{x y:Operand}{a b:ByteArray}
theorem Dx {op:BinOp}:(eqGuard op t x y (.string a) (.string b)).run P w=.ok () w:=by
 unfold eqGuard;cases op<;>simp
theorem zJ {op:BinOp}{r:Value} (hx:ev ρ x=.string a) (hy:ev ρ y=.string b) (hs:op≠.shl∧op≠.shr) (hop:(Op.stringOp op a b).run P w=.ok r w):
  (execOp (ev ρ) ⟨d,.binOp op t x y u,ty,pos,af,g⟩).run P w=.ok (.value r) w:=by
 cases op<;>simp_all [execOp,Dx,binOp]
theorem yt (hx:ev ρ x=.string a) (hy:ev ρ y=.string b):(execOp (ev ρ) ⟨d,.binOp .eql t x y u,ty,pos,af,g⟩).run P w=.ok (.value (.bool (a.toList==b.toList))) w:=
 zJ hx hy (by simp) (by simp [Op.stringOp])
theorem zv (hx:ev ρ x=.string a) (hy:ev ρ y=.string b):(execOp (ev ρ) ⟨d,.binOp .neq t x y u,ty,pos,af,g⟩).run P w=.ok (.value (.bool !(a.toList==b.toList))) w:=
 zJ hx hy (by simp) (by simp [Op.stringOp])
theorem Ou {a b:ByteArray}:(a.toList==b.toList)=decide (a=b):=by
 have key:∀s:ByteArray,s.toList=s.data.toList:=fun s=>by
  exact Wp
 rw [Bool.eq_iff_iff,abo,aad,key,key];constructor
 ·intro h;cases a;cases b;congr 1;exact aco h
 ·intro h;rw [h]
theorem Du (hx:ev ρ x=.string a) (hy:ev ρ y=.string b) (h:a=b):(execOp (ev ρ) ⟨d,.binOp .eql t x y u,ty,pos,af,g⟩).run P w=.ok (.value (.bool true)) w:=by
 rw [yt hx hy,Ou];simp [h]
theorem B9 (hx:ev ρ x=.string a) (hy:ev ρ y=.string b) (h:¬a=b):(execOp (ev ρ) ⟨d,.binOp .eql t x y u,ty,pos,af,g⟩).run P w=.ok (.value (.bool false)) w:=by
 rw [yt hx hy,Ou];simp [h]
theorem Cg (hx:ev ρ x=.string a) (hy:ev ρ y=.string b) (h:¬a=b):(execOp (ev ρ) ⟨d,.binOp .neq t x y u,ty,pos,af,g⟩).run P w=.ok (.value (.bool true)) w:=by
 rw [zv hx hy,Ou];simp [h]
theorem Em (hx:ev ρ x=.string a) (hy:ev ρ y=.string b) (h:a=b):(execOp (ev ρ) ⟨d,.binOp .neq t x y u,ty,pos,af,g⟩).run P w=.ok (.value (.bool false)) w:=by
 rw [zv hx hy,Ou];simp [h]
theorem Jz (hx:ev ρ x=.string a) (hy:ev ρ y=.string b):(execOp (ev ρ) ⟨d,.binOp .lss t x y u,ty,pos,af,g⟩).run P w=.ok (.value (.bool (Op.bytesLess a.toList b.toList))) w:=
 zJ hx hy (by simp) (by simp [Op.stringOp])
theorem JR (hx:ev ρ x=.string a) (hy:ev ρ y=.string b):(execOp (ev ρ) ⟨d,.binOp .gtr t x y u,ty,pos,af,g⟩).run P w=.ok (.value (.bool !(Op.bytesLess a.toList b.toList||a.toList==b.toList))) w:=
 zJ hx hy (by simp) (by simp [Op.stringOp])
theorem JH (hx:ev ρ x=.string a) (hy:ev ρ y=.string b):(execOp (ev ρ) ⟨d,.binOp .geq t x y u,ty,pos,af,g⟩).run P w=.ok (.value (.bool !(Op.bytesLess a.toList b.toList))) w:=
 zJ hx hy (by simp) (by simp [Op.stringOp])
theorem VO (hx:ev ρ x=.string a) (hy:ev ρ y=.string b) (h:a.size+b.size≤9223372036854775807):(execOp (ev ρ) ⟨d,.binOp .add t x y u,ty,pos,af,g⟩).run P w=.ok (.value (.string (a++b))) w:=
 zJ hx hy (by simp) (by
  have:¬((a.size+b.size:Nat):Int)>IntKind.i64.max:=by
   have:IntKind.i64.max=9223372036854775807:=by decide
   omega
  simp only [Op.stringOp,ZG this];simp)
end l4
theorem kX {s t:TypeId}{x:Operand}{k k':IntKind}{a:Int}{sd:TypeDesc} (hs:P.underlying s=some sd) (ht:P.underlying t=some (.int k)) (hx:ev ρ x=.int k' a):
  (execOp (ev ρ) ⟨d,.convert s t x,ty,pos,af,g⟩).run P w=.ok (.value (.int k (k.wrap a))) w:=by
 simp [execOp,hx,convert,run_underlying hs,run_underlying ht,Conv.intToInt]
theorem qk {s t:TypeId}{x:Operand}{k':IntKind}{a:Int}{sd:TypeDesc} (hs:P.underlying s=some sd) (ht:P.underlying t=some (.int .i64)) (hx:ev ρ x=.int k' a) (h1: -9223372036854775808≤a) (h2:a≤9223372036854775807):
  (execOp (ev ρ) ⟨d,.convert s t x,ty,pos,af,g⟩).run P w=.ok (.value (.int .i64 a)) w:=by
 rw [kX hs ht hx,kY h1 h2]
theorem ej {x:Operand}{i:Nat}{vs:List Value}{v:Value} (hx:ev ρ x=.tuple vs.toArray) (hv:vs[i]?=some v):
  (execOp (ev ρ) ⟨d,.extract x i,ty,pos,af,g⟩).run P w=.ok (.value v) w:=by
 simp [execOp,hx,Instr.extract,hv]
def y4 (ρ:Rf):List Operand→List Value
 |[]=>[]
 |x::l=>ev ρ x::y4 ρ l
theorem pq {ρ:Rf} (args:Array Operand) {vs:List Value} (h:y4 ρ args.toList=vs):args.map (ev ρ)=vs.toArray:=by
 have h1:∀l:List Operand,l.map (ev ρ)=y4 ρ l:=by
  intro l
  induction l with
  |nil=>rfl
  |cons a l ih=>simp only [aaj,ih];rfl
 subst h;rw [←h1];apply aco;simp
theorem qd {fn:Fn}{first captured:Array Operand}{fs cs:List Value} (hf:y4 ρ first.toList=fs) (hc:y4 ρ captured.toList=cs):
  (execOp (ev ρ) ⟨d,.makeFunc fn first captured,ty,pos,af,g⟩).run P w=.ok (.value (.func fn fs.toArray cs.toArray)) w:=by
 simp [execOp,pq _ hf,pq _ hc,Instr.makeFunc]
theorem ep {i:Nat}{k:IntKind}{n:Int} (h:ρ i=.int k n):ρ i=.int k n:=h
theorem lV {i:Nat}{b:Bool} (h:ρ i=.bool b):ρ i=.bool b:=h
theorem zD {i:Nat}{s:ByteArray} (h:ρ i=.string s):ρ i=.string s:=h
theorem Kk {i:Nat}{A:Option Addr}{n c:Nat} (h:ρ i=.slice A n c):ρ i=.slice A n c:=h
theorem cz {x:Operand}{k:IntKind}{n:Int} (h:ev ρ x=.int k n):ev ρ x=.int k n:=h
theorem pe {x:Operand}{b:Bool} (h:ev ρ x=.bool b):ev ρ x=.bool b:=h
theorem AA {x:Operand}{s:ByteArray} (h:ev ρ x=.string s):ev ρ x=.string s:=h
theorem yG {x:Operand}{A:Option Addr}{n c:Nat} (h:ev ρ x=.slice A n c):ev ρ x=.slice A n c:=h
theorem wG {x:Operand}{a:Addr} (h:ev ρ x=.pointer (some a)):ev ρ x=.pointer (some a):=h
theorem G1 {x:Operand} (h:ev ρ x=.pointer none):ev ρ x=.pointer none:=h
theorem eD {x:Operand}{l:List Value} (h:ev ρ x=.agg l.toArray):ev ρ x=.agg l.toArray:=h
theorem ML {x:Operand}{l:List Value} (h:ev ρ x=.tuple l.toArray):ev ρ x=.tuple l.toArray:=h
theorem pC {x:Operand}{f:Fn}{a b:List Value} (h:ev ρ x=.func f a.toArray b.toArray):ev ρ x=.func f a.toArray b.toArray:=h
theorem uL {x:Operand} (h:ev ρ x=.nilFunc):ev ρ x=.nilFunc:=h
theorem Jb {x:Operand}{t:TypeId}{s:ByteArray} (ht:P.underlying t=some .string) (hx:ev ρ x=.string s):
  (execOp (ev ρ) ⟨d,.call ⟨.builtin .len, #[x], #[t]⟩,ty,pos,af,g⟩).run P w=.ok (.value (.int .i64 s.size)) w:=by
 simp [execOp,resolve,invoke,builtin,Builtin.len_,hx,run_underlying ht,goInt]
theorem BO {x:Operand}{t e:TypeId}{A:Option Addr}{n c:Nat} (ht:P.underlying t=some (.slice e)) (hx:ev ρ x=.slice A n c):
  (execOp (ev ρ) ⟨d,.call ⟨.builtin .len, #[x], #[t]⟩,ty,pos,af,g⟩).run P w=.ok (.value (.int .i64 n)) w:=by
 simp [execOp,resolve,invoke,builtin,Builtin.len_,hx,run_underlying ht,goInt]
theorem R8 {x y:Operand}{ts:Array TypeId}{k:IntKind}{a b:Int} (hx:ev ρ x=.int k a) (hy:ev ρ y=.int k b):
  (execOp (ev ρ) ⟨d,.call ⟨.builtin .min, #[x,y],ts⟩,ty,pos,af,g⟩).run P w=.ok (.value (.int k (if b<a then b else a))) w:=by
 simp [execOp,resolve,invoke,builtin,Builtin.min_,Builtin.min2,hx,hy,List.foldlM]
theorem Ly {x y:Operand}{ts:Array TypeId}{k:IntKind}{a b:Int} (hx:ev ρ x=.int k a) (hy:ev ρ y=.int k b):
  (execOp (ev ρ) ⟨d,.call ⟨.builtin .max, #[x,y],ts⟩,ty,pos,af,g⟩).run P w=.ok (.value (.int k (if b>a then b else a))) w:=by
 simp [execOp,resolve,invoke,builtin,Builtin.max_,Builtin.max2,hx,hy,List.foldlM]
theorem ow {t:TypeId}{x i:Operand}{s:ByteArray}{n:Int}{k:IntKind}{c:UInt8} (ht:P.underlying t=some .string) (hx:ev ρ x=.string s) (hi:ev ρ i=.int k n)
  (h0:0≤n) (hc:s.data.toList[n.toNat]?=some c):(execOp (ev ρ) ⟨d,.index t x i,ty,pos,af,g⟩).run P w=.ok (.value (.int .u8 c.toNat)) w:=by
 have hs:s[n.toNat]?=some c:=by
  rw [←hc];obtain ⟨h1,h2⟩:=ZV.1 hc;have h3:n.toNat<s.size:=by simpa using h1
  rw [getElem?_pos s n.toNat h3,getElem?_pos s.data.toList n.toNat h1]
  rfl
 simp [execOp,hx,hi,Instr.index,asIntOf,run_underlying ht,h0,hs]
theorem CR {t:TypeId}{x:Operand}{lo hi:Option Operand}{s:ByteArray}{l h:Nat} (ht:P.underlying t=some .string) (hx:ev ρ x=.string s)
  (hlo:match lo with|none=>l=0|some o=>∃(k:IntKind) (n:Int),ev ρ o=.int k n∧n=l) (hhi:match hi with|none=>h=s.size|some o=>∃(k:IntKind) (n:Int),ev ρ o=.int k n∧n=h)
  (h1:l≤h) (h2:h≤s.size):(execOp (ev ρ) ⟨d,.slice t x lo hi none,ty,pos,af,g⟩).run P w=.ok (.value (.string (s.extract l h))) w:=by
 have e1:(l:Int)≤h:=ZB;have e2:(h:Int)≤s.size:=ZB
 cases lo<;>cases hi<;>simp only [] at hlo hhi
 ·subst hlo;subst hhi;simp [execOp,hx,Instr.sliceAt,Instr.slice,run_underlying ht,Instr.sliceBounds]
 ·obtain ⟨k2,n2,hv2,rfl⟩:=hhi;subst hlo;simp [execOp,hx,Instr.sliceAt,Instr.slice,run_underlying ht,Instr.sliceBounds,Instr.sliceBound,asIntOf,hv2,h2]
 ·obtain ⟨k2,n2,hv2,rfl⟩:=hlo;subst hhi;simp [execOp,hx,Instr.sliceAt,Instr.slice,run_underlying ht,Instr.sliceBounds,Instr.sliceBound,asIntOf,hv2,h1]
 ·obtain ⟨k2,n2,hv2,rfl⟩:=hhi;obtain ⟨k3,n3,hv3,rfl⟩:=hlo;simp [execOp,hx,Instr.sliceAt,Instr.slice,run_underlying ht,Instr.sliceBounds,Instr.sliceBound,asIntOf,hv2,hv3,h1,h2]
theorem je {t e:TypeId}{x:Operand}{lo hi:Option Operand}{A:Option Addr}{n c l h sz:Nat} (ht:P.underlying t=some (.slice e)) (hsz:(P.info? e).map (·.size)=some sz) (hx:ev ρ x=.slice A n c)
  (hlo:match lo with|none=>l=0|some o=>∃(k:IntKind) (n:Int),ev ρ o=.int k n∧n=l) (hhi:match hi with|none=>h=n|some o=>∃(k:IntKind) (n:Int),ev ρ o=.int k n∧n=h)
  (h1:l≤h) (h2:h≤c):(execOp (ev ρ) ⟨d,.slice t x lo hi none,ty,pos,af,g⟩).run P w=.ok (.value (.slice (if c=l then A else A.map (·.add (l*sz))) (h-l) (c-l))) w:=by
 obtain ⟨i,hi1,hi2⟩:=abA.1 hsz;have e1:(l:Int)≤h:=ZB;have e2:(h:Int)≤c:=ZB
 cases lo<;>cases hi<;>simp only [] at hlo hhi
 ·subst hlo;subst hhi;simp [execOp,hx,Instr.sliceAt,Instr.slice,run_underlying ht,Instr.sliceBounds,sizeOf,typeInfo,hi1]
 ·obtain ⟨k2,n2,hv2,rfl⟩:=hhi;subst hlo;simp [execOp,hx,Instr.sliceAt,Instr.slice,run_underlying ht,Instr.sliceBounds,Instr.sliceBound,asIntOf,hv2,h2,sizeOf,typeInfo,hi1]
 ·obtain ⟨k2,n2,hv2,rfl⟩:=hlo;subst hhi;simp [execOp,hx,Instr.sliceAt,Instr.slice,run_underlying ht,Instr.sliceBounds,Instr.sliceBound,asIntOf,hv2,h1,sizeOf,typeInfo,hi1,hi2]
 ·obtain ⟨k2,n2,hv2,rfl⟩:=hhi;obtain ⟨k3,n3,hv3,rfl⟩:=hlo;simp [execOp,hx,Instr.sliceAt,Instr.slice,run_underlying ht,Instr.sliceBounds,Instr.sliceBound,asIntOf,hv2,hv3,h1,h2,sizeOf,typeInfo,hi1,hi2]
theorem ck {t e:TypeId}{x i:Operand}{ad:Addr}{n c sz:Nat}{k:IntKind}{m:Int} (ht:P.underlying t=some (.slice e)) (hsz:(P.info? e).map (·.size)=some sz) (hx:ev ρ x=.slice (some ad) n c) (hi:ev ρ i=.int k m)
  (h0:0≤m) (h1:m<n):(execOp (ev ρ) ⟨d,.indexAddr t x i,ty,pos,af,g⟩).run P w=.ok (.value (.pointer (some (ad.add (m.toNat*sz))))) w:=by
 obtain ⟨i,hi1,hi2⟩:=abA.1 hsz;simp [execOp,hx,hi,Instr.indexAt,asIntOf,run_underlying ht,sizeOf,typeInfo,hi1,hi2,h0,h1]
theorem qE {t e:TypeId}{x i:Operand}{b n c sz k:Nat}{kk:IntKind}{m:Int} (ht:P.underlying t=some (.slice e)) (hsz:(P.info? e).map (·.size)=some sz) (hx:ev ρ x=.slice (some ⟨b,0,none⟩) n c) (hi:ev ρ i=.int kk m)
  (hm:m=(k:Int)) (h1:k<n):(execOp (ev ρ) ⟨d,.indexAddr t x i,ty,pos,af,g⟩).run P w=.ok (.value (.pointer (some ⟨b,k*sz,none⟩))) w:=by
 have h:=ck (P:=P) (w:=w) (d:=d) (ty:=ty) (pos:=pos) (af:=af) (g:=g) ht hsz hx hi ZB ZB;rw [h,hm];have:(⟨b,0,none⟩:Addr).add (((k:Int)).toNat*sz)=⟨b,k*sz,none⟩:=by
  unfold Addr.add;split
  ·rename_i h0;rw [abc] at h0;rw [h0]
  ·rw [abc];simp
 rw [this]
theorem OL {x:Operand}{args:Array Operand}{ts:Array TypeId}{f:FuncId}{fn:Func}{first cap:Array Value}{vs:Array Value} (hf:P.funcs[f]?=some fn) (hb:fn.body.isNone=false) (hn:(fn.name== "runtime.NumGoroutine")=false)
  (hx:ev ρ x=.func (.func f) first cap) (ha:args.map (ev ρ)=vs):(execOp (ev ρ) ⟨d,.call ⟨.value x,args,ts⟩,ty,pos,af,g⟩).run P w=.ok (.enter f (first++vs++cap)) w:=by
 have h1:¬fn.name= "runtime.NumGoroutine" :=by simpa using hn
 have h2:¬fn.body=none:=by intro h;simp [h] at hb
 simp [execOp,resolve,Deferred.ofValue,hx,ha,invoke,callFunc,program,Sem.run,hf,h1,h2]
end
def dv (P:Program) (t:TypeId):Option (Nat×Bool×Nat×List Value):=
 match P.info? t,P.underlying t with
 |some i,some d=>i.zero.map fun z=>(i.size,(match d with|.struct _|.array _ _=>true|_=>false),i.bytes,z.cells.toList)
 |_,_=>none
theorem fe {P:Program}{t:TypeId}{n by':Nat}{ag:Bool}{zc:List Value} (h:dv P t=some (n,ag,by',zc)):
  ∃i z d,P.info? t=some i∧P.underlying t=some d∧i.zero=some z∧i.size=n∧i.bytes=by'∧z.cells=zc.toArray∧(match d with|.struct _|.array _ _=>true|_=>false)=ag:=by
 unfold dv at h;split at h
 ·rename_i i d hi hd;obtain ⟨z,hz,he⟩:=abA.1 h;simp only [Prod.mk.injEq] at he;exact ⟨i,z,d,hi,hd,hz,he.1,he.2.2.1,by rw [←he.2.2.2],he.2.1⟩
 ·cases h
section
variable {P:Program}{w:World}{t:TypeId}{n by':Nat}{ag:Bool}{zc:List Value}
theorem fL (h:dv P t=some (n,ag,by',zc)):(sizeOf t).run P w=.ok n w:=by
 obtain ⟨i,z,d,hi,hd,hz,hs,_⟩:=fe h;simp [sizeOf,typeInfo,hi,hs]
theorem j0 (h:dv P t=some (n,ag,by',zc)):(isAgg t).run P w=.ok ag w:=by
 obtain ⟨i,z,d,hi,hd,hz,hs,_,_,ha⟩:=fe h;simp only [isAgg,Sem.run_bind,run_underlying hd,Result.andThen_ok];subst ha
 cases d<;>rfl
theorem fh (h:dv P t=some (n,ag,by',zc)):∃z,(zeroValue t).run P w=.ok z w∧z.cells=zc.toArray:=by
 obtain ⟨i,z,d,hi,hd,hz,hs,_,hc,_⟩:=fe h;exact ⟨z,by simp [zeroValue,typeInfo,hi,hz],hc⟩
end
def Rd (w:World) (ad:Addr) (vs:List Value):Prop:=∀j u,vs[j]?=some u→w.cell? (ad.add j)=some u
def Sl (w:World) (A:Option Addr) (n k:Nat) (xs:List Value):Prop:=xs.length=n*k∧(0<n→∃ad,A=some ad∧Rd w ad xs)
theorem eI (b o n:Nat):(⟨b,o,none⟩:Addr).add n=⟨b,o+n,none⟩:=by
 unfold Addr.add;split
 ·rename_i h;subst h;rfl
 ·rfl
theorem rX (a:Addr) (i j:Nat):(a.add i).add j=a.add (i+j):=by
 unfold Addr.add;by_cases hi:i=0<;>by_cases hj:j=0<;>simp [hi,hj,acS]
theorem o4 {w:World}{a:Addr}{v:Value} (h:w.cell? a=some v):a.block<w.heap.size:=block_lt_of_cell h
theorem bD {w w':World} (h:Below w.heap.size w w') {a:Addr}{v:Value} (hc:w.cell? a=some v):w'.cell? a=some v:=(h.cell (o4 hc)).trans hc
theorem Rd.ext {w w':World}{ad:Addr}{vs:List Value} (h:Rd w ad vs) (hb:Below w.heap.size w w'):Rd w' ad vs:=fun j u hu=>bD hb (h j u hu)
theorem Sl.ext {w w':World}{A:Option Addr}{n k:Nat}{xs:List Value} (h:Sl w A n k xs) (hb:Below w.heap.size w w'):Sl w' A n k xs:=
 ⟨h.1,fun hn=>let ⟨ad,ha,hr⟩:=h.2 hn;⟨ad,ha,hr.ext hb⟩⟩
theorem Rd.drop {w:World}{ad:Addr}{vs:List Value} (h:Rd w ad vs) (i:Nat):Rd w (ad.add i) (vs.drop i):=fun j u hu=>by
 rw [rX];exact h _ u (by rw [←hu,abv])
theorem Rd.take {w:World}{ad:Addr}{vs:List Value} (h:Rd w ad vs) (n:Nat):Rd w ad (vs.take n):=fun j u hu=>by
 rw [abC] at hu;split at hu
 ·exact h _ u hu
 ·cases hu
theorem Rd.cell {w:World}{ad:Addr}{vs:List Value} (h:Rd w ad vs) {i:Nat}{v:Value} (hv:vs[i]?=some v):w.cell? (ad.add i)=some v:=h i v hv
theorem Sl.nil (w:World) (A:Option Addr) (k:Nat):Sl w A 0 k []:=⟨by simp,fun h=>absurd h ZB⟩
theorem Sl.at_ {w:World}{A:Option Addr}{n k:Nat}{xs:List Value} (h:Sl w A n k xs) (hn:0<n):∃ad,A=some ad∧Rd w ad xs:=h.2 hn
theorem Rd.elem {w:World}{ad:Addr}{xs:List Value} (h:Rd w ad xs) (i k:Nat):Rd w (ad.add (i*k)) ((xs.drop (i*k)).take k):=(h.drop _).take _
theorem Sl.cut {w:World}{A:Option Addr}{n k c l m:Nat}{xs:List Value} (h:Sl w A n k xs) (hl:l≤m) (hm:m≤n) (hc:n≤c):
  Sl w (if c=l then A else A.map (·.add (l*k))) (m-l) k ((xs.drop (l*k)).take ((m-l)*k)):=by
 have hle:l*k+(m-l)*k≤n*k:=by
  rw [←ab1];exact aaV _ ZB
 refine ⟨by rw [Z1,aaU,h.1];omega,fun hn=> ?_⟩;obtain ⟨ad,rfl,hr⟩:=h.2 ZB;rw [ZG ZB];exact ⟨_,rfl,(hr.drop _).take _⟩
inductive HE where
 |blk (b:Nat) (t:TypeId) (cs:List Value) (fz:Nat×Nat)
 |row (A:Option Addr) (n c:Nat) (t:TypeId) (sz:Nat) (xs:List Value)
 |ob (b:Nat) (o:Obj)
abbrev HE.it (b:Nat) (s:ByteArray) (pos:Nat):HE:=.ob b (.stringIter s pos)
def HE.id:HE→Option Nat
 |.blk b _ _ _=>some b
 |.row A _ _ _ _ _=>A.map (·.block)
 |.ob b _=>some b
def HE.holds (base:Nat) (w:World):HE→Prop
 |.blk b t cs fz=>base≤b∧w.heap[b]?=some (.cells cs.toArray t fz)∧(cs.length≤fz.1∨fz.2≤fz.1)
 |.row A n c t sz xs=>w.ownsRow base t sz (.slice A n c) n xs
 |.ob b o=>base≤b∧w.heap[b]?=some o
structure Hp (w0:World) (H:List HE) (w:World):Prop where
 below:Below w0.heap.size w0 w
 own:∀x∈H,x.holds w0.heap.size w
 nd:(H.filterMap HE.id).Nodup
section
variable {w0 w w':World}{H:List HE}
theorem Hp.start (w:World):Hp w [] w:=⟨Below.refl _ _,fun _ h=>(nomatch h),List.nodup_nil⟩
theorem Hp.size (h:Hp w0 H w):w0.heap.size≤w.heap.size:=h.below.size
theorem eL {base:Nat}{x:HE} (h:x.holds base w) {b:Nat} (hb:x.id=some b):base≤b∧b<w.heap.size:=by
 cases x with
 |blk b' t cs fz=>
  obtain rfl:b'=b:=by simpa [HE.id] using hb
  refine ⟨h.1, ?_⟩
  rcases aap b' w.heap.size with hlt|hge
  ·exact hlt
  ·have:=h.2.1;rw [acD hge] at this;cases this
 |row A n c t sz xs=>
  cases A with
  |none=>simp [HE.id] at hb
  |some a=>exact World.ownsRow.lt h b (by simpa [HE.id,Value.ownBlock] using hb)
 |ob b' o=>
  obtain rfl:b'=b:=by simpa [HE.id] using hb
  refine ⟨h.1, ?_⟩
  rcases aap b' w.heap.size with hlt|hge
  ·exact hlt
  ·have:=h.2;rw [acD hge] at this;cases this
theorem kZ {base:Nat}{x:HE} (h:x.holds base w) (hk:∀b,x.id=some b→w'.heap[b]?=w.heap[b]?):x.holds base w':=by
 cases x with
 |blk b t cs fz=>exact ⟨h.1,(hk b rfl).trans h.2.1,h.2.2⟩
 |row A n c t sz xs=>
  obtain ⟨h1,h2⟩:=h;refine ⟨h1, ?_⟩
  rcases h2 with h2|⟨g,cap,cur,hv,hg,hh,r⟩
  ·exact .inl h2
  ·have hA:A=some ⟨g,0,none⟩:=by injection hv
   subst hA;exact .inr ⟨g,cap,cur,hv,hg,(hk g rfl).trans hh,r⟩
 |ob b o=>exact ⟨h.1,(hk b rfl).trans h.2⟩
theorem Hp.ext (h:Hp w0 H w) (hb:Below w.heap.size w w'):Hp w0 H w':=
 ⟨h.below.trans (hb.mono h.size),fun x hx=>kZ (h.own x hx) fun _ hi=>hb.block _ (eL (h.own x hx) hi).2,h.nd⟩
theorem Hp.sub (h:Hp w0 H w) {H':List HE} (hs:H'.Sublist H):Hp w0 H' w:=⟨h.below,fun x hx=>h.own x (hs.subset hx),h.nd.sublist (hs.filterMap _)⟩
theorem Hp.at_ (h:Hp w0 H w) {i:Nat}{x:HE} (hi:H[i]?=some x):x.holds w0.heap.size w:=h.own x (ZL hi)
theorem Hp.aE (h:Hp w0 H w) (hb:Below w.heap.size w w') {x:HE} (hx:x.holds w.heap.size w'):Hp w0 (x::H) w':=by
 have h':=h.ext hb;refine ⟨h'.below, ?_, ?_⟩
 ·intro y hy
  rcases ZZ.1 hy with rfl|hy
  ·cases y with
   |blk b t cs fz=>exact ⟨aac h.size hx.1,hx.2⟩
   |row A n c t sz xs=>
    obtain ⟨h1,h2⟩:=hx;exact ⟨h1,h2.imp id fun ⟨g,cap,cur,hv,hg,r⟩=>⟨g,cap,cur,hv,aac h.size hg,r⟩⟩
   |ob b o=>exact ⟨aac h.size hx.1,hx.2⟩
  ·exact h'.own y hy
 ·rw [abL];split
  ·exact h'.nd
  ·rename_i b hb';refine abG.2 ⟨fun hm=> ?_,h'.nd⟩;obtain ⟨y,hy,hyb⟩:=aa5.1 hm;have h1:=(eL hx hb').1;have h2:=(eL (h.own y hy) hyb).2;omega
theorem Hp.NW (h:Hp w0 H w) {i:Nat}{x y:HE} (hi:H[i]?=some x) (hid:∀b,y.id=some b→x.id=some b∨w.heap.size≤b)
  (hb:Below w0.heap.size w0 w') (hk:∀b,b<w.heap.size→x.id≠some b→w'.heap[b]?=w.heap[b]?) (hy:y.holds w0.heap.size w'):Hp w0 (H.set i y) w':=by
 obtain ⟨hlt,hx⟩:=ZV.1 hi;have hsplit:H=H.take i++x::H.drop (i+1):=by
  rw [←hx,←abi hlt,aaL]
 have hset:H.set i y=H.take i++y::H.drop (i+1):=by rw [ac3,ZH hlt]
 have hnd:=h.nd;rw [hsplit,adn] at hnd;have hother:∀z,z∈H.take i∨z∈H.drop (i+1)→z∈H∧(∀b,z.id=some b→x.id≠some b):=by
  intro z hz;refine ⟨hz.elim abw ado,fun b hzb hxb=> ?_⟩;rw [abL,hxb] at hnd;simp only [] at hnd;rw [List.nodup_append] at hnd
  rcases hz with hz|hz
  ·exact hnd.2.2 b (aa5.2 ⟨z,hz,hzb⟩) b (ZQ) rfl
  ·exact (abG.1 hnd.2.1).1 (aa5.2 ⟨z,hz,hzb⟩)
 have hold:∀z,z∈H.take i∨z∈H.drop (i+1)→z.holds w0.heap.size w':=fun z hz=>by
  obtain ⟨hm,hne⟩:=hother z hz;exact kZ (h.own z hm) fun b hzb=>hk b (eL (h.own z hm) hzb).2 (hne b hzb)
 rw [hset];refine ⟨hb, ?_, ?_⟩
 ·intro z hz
  rcases aav.1 hz with hz|hz
  ·exact hold z (.inl hz)
  ·rcases ZZ.1 hz with rfl|hz
   ·exact hy
   ·exact hold z (.inr hz)
 ·rw [adn];have hsub:((H.take i).filterMap HE.id++(H.drop (i+1)).filterMap HE.id).Nodup:=by
   refine hnd.sublist (List.Sublist.append (aay _) ?_);exact List.Sublist.filterMap _ (aan _ _)
  rw [abL];split
  ·exact hsub
  ·rename_i b hyb;have hfresh:∀z,z∈H.take i∨z∈H.drop (i+1)→z.id≠some b:=fun z hz hzb=>by
    obtain ⟨hm,hne⟩:=hother z hz
    rcases hid b hyb with h1|h1
    ·exact hne b hzb h1
    ·have:=(eL (h.own z hm) hzb).2;omega
   rw [List.nodup_append] at hsub ⊢;refine ⟨hsub.1,abG.2 ⟨fun hm=> ?_,hsub.2.1⟩,fun u hu v hv=> ?_⟩
   ·obtain ⟨z,hz,hzb⟩:=aa5.1 hm;exact hfresh z (.inr hz) hzb
   ·rcases ZZ.1 hv with rfl|hv
    ·rintro rfl;obtain ⟨z,hz,hzb⟩:=aa5.1 hu;exact hfresh z (.inl hz) hzb
    ·exact hsub.2.2 u hu v hv
end
section
variable {w0 w w':World}{H:List HE}
theorem Hp.oF (h:Hp w0 H w) {i b:Nat}{t:TypeId}{cs:List Value}{fz:Nat×Nat} (hi:H[i]?=some (.blk b t cs fz)):Rd w ⟨b,0,none⟩ cs:=fun j u hu=>by
 have h1:=(h.at_ hi).2.1;rw [eI,Z9,cell_of_row w b j _ t fz h1];simpa using hu
theorem Hp.dA (h:Hp w0 H w) {i b o:Nat}{t:TypeId}{cs:List Value}{fz:Nat×Nat}{v:Value} (hi:H[i]?=some (.blk b t cs fz)) (hv:cs[o]?=some v):w.cell? ⟨b,o,none⟩=some v:=by
 have:=h.oF hi o v hv;rwa [eI,Z9] at this
theorem Hp.aK (h:Hp w0 H w) {i b o n:Nat}{t:TypeId}{cs vs:List Value}{fz:Nat×Nat} (hi:H[i]?=some (.blk b t cs fz)) (hv:(cs.drop o).take n=vs):Rd w ⟨b,o,none⟩ vs:=by
 have:=((h.oF hi).drop o).take n;rwa [eI,Z9,hv] at this
theorem gW {base:Nat}{t:TypeId}{A:Option Addr}{n c sz:Nat}{xs:List Value} (h:w.ownsRow base t sz (.slice A n c) n xs):Sl w A n sz xs:=by
 refine ⟨h.1,fun hn=> ?_⟩;obtain ⟨g,cap,hv,_,hlt⟩:=h.form hn;have hA:A=some ⟨g,0,none⟩:=by injection hv
 subst hA;exact ⟨_,rfl,h.cells (g:=g) rfl⟩
theorem Hp.bL (h:Hp w0 H w) {i n c sz:Nat}{A:Option Addr}{t:TypeId}{xs:List Value} (hi:H[i]?=some (.row A n c t sz xs)) (hn:0<n):∃g,A=some ⟨g,0,none⟩:=by
 obtain ⟨g,cap,hv,_⟩:=World.ownsRow.form (h.at_ hi) hn;injection hv with hA
 exact ⟨g,hA⟩
theorem Hp.dZ (h:Hp w0 H w) {i b n c sz o:Nat}{t:TypeId}{xs:List Value}{v:Value} (hi:H[i]?=some (.row (some ⟨b,0,none⟩) n c t sz xs)) (hv:xs[o]?=some v):w.cell? ⟨b,o,none⟩=some v:=by
 have:=World.ownsRow.cells (h.at_ hi) (g:=b) rfl o v hv;rwa [eI,Z9] at this
theorem Hp.Rh (h:Hp w0 H w) {i n c sz:Nat}{A:Option Addr}{t:TypeId}{xs:List Value} (hi:H[i]?=some (.row A n c t sz xs)):xs.length=n*sz:=(h.at_ hi).1
theorem Hp.ar (h:Hp w0 H w) {i n c sz:Nat}{A:Option Addr}{t:TypeId}{xs:List Value} (hi:H[i]?=some (.row A n c t sz xs)):Sl w A n sz xs:=gW (h.at_ hi)
end
section
variable {P:Program}{ρ:Rf}{w:World}{d:Option Nat}{ty:TypeId}{pos:String}{af:Array Edge}{g:Option (Nat×Bool)}
theorem Gv {t:TypeId}{x:Operand}{ad:Addr}{n by':Nat}{zc vs:List Value} (ht:dv P t=some (n,true,by',zc)) (hx:ev ρ x=.pointer (some ad)) (hr:Rd w ad vs) (hl:vs.length=n):
  (execOp (ev ρ) ⟨d,.load t x,ty,pos,af,g⟩).run P w=.ok (.value (.agg vs.toArray)) w:=by
 subst hl;simp [execOp,hx,Instr.loadAt,Instr.sureAddr,loadVar,j0 ht,fL ht,run_loadCells_list (P:=P) w ad vs hr]
theorem eB {t:TypeId}{x:Operand}{ad:Addr}{n by':Nat}{zc:List Value}{v:Value} (ht:dv P t=some (n,false,by',zc)) (hx:ev ρ x=.pointer (some ad)) (hc:w.cell? ad=some v):
  (execOp (ev ρ) ⟨d,.load t x,ty,pos,af,g⟩).run P w=.ok (.value v) w:=by
 simp [execOp,hx,Instr.loadAt,Instr.sureAddr,loadVar,j0 ht,run_load,hc]
theorem bG {t:TypeId}{ad:Addr}{n by':Nat}{zc vs:List Value} (ht:dv P t=some (n,true,by',zc)) (hr:Rd w ad vs) (hl:vs.length=n):
  (loadVar t ad).run P w=.ok (.agg vs.toArray) w:=by
 subst hl;simp [loadVar,j0 ht,fL ht,run_loadCells_list (P:=P) w ad vs hr]
def iP (P:Program) (s:TypeId) (i:Nat):Option (Nat×TypeId):=
 match P.underlying s with
 |some (.struct fs)=>match fs[i]? with
  |some f=>if P.cellsOf f.type=0 then none else some (f.offset,f.type)
  |none=>none
 |_=>none
theorem ud {s:TypeId}{x:Operand}{f b o off:Nat}{ft:TypeId} (hf:iP P s f=some (off,ft)) (hx:ev ρ x=.pointer (some ⟨b,o,none⟩)):
  (execOp (ev ρ) ⟨d,.fieldAddr s x f,ty,pos,af,g⟩).run P w=.ok (.value (.pointer (some ⟨b,o+off,none⟩))) w:=by
 unfold iP at hf;split at hf
 ·rename_i fs hs;split at hf
  ·rename_i fd hfd;split at hf
   ·cases hf
   ·rename_i hc;simp only [abB,Prod.mk.injEq] at hf;obtain ⟨rfl,rfl⟩:=hf;have hsz:∃i,P.info? fd.type=some i∧i.size≠0:=by
     exact So
    obtain ⟨i,hi,hi0⟩:=hsz;simp [execOp,hx,Instr.fieldAt,run_underlying hs,hfd,Instr.sureAddr,fieldPlace,sizeOf,typeInfo,hi,hi0,eI]
  ·cases hf
 ·cases hf
theorem sk {s:TypeId}{x:Operand}{f off:Nat}{ad:Addr}{ft:TypeId} (hf:iP P s f=some (off,ft)) (hx:ev ρ x=.pointer (some ad)):
  (execOp (ev ρ) ⟨d,.fieldAddr s x f,ty,pos,af,g⟩).run P w=.ok (.value (.pointer (some (ad.add off)))) w:=by
 unfold iP at hf;split at hf
 ·rename_i fs hs;split at hf
  ·rename_i fd hfd;split at hf
   ·cases hf
   ·rename_i hc;simp only [abB,Prod.mk.injEq] at hf;obtain ⟨rfl,rfl⟩:=hf;have hsz:∃i,P.info? fd.type=some i∧i.size≠0:=by
     exact So
    obtain ⟨i,hi,hi0⟩:=hsz;simp [execOp,hx,Instr.fieldAt,run_underlying hs,hfd,Instr.sureAddr,fieldPlace,sizeOf,typeInfo,hi,hi0]
  ·cases hf
 ·cases hf
theorem Qf {s:TypeId}{x:Operand}{f off n by':Nat}{ft:TypeId}{cs vs:Array Value}{zc:List Value} (hf:iP P s f=some (off,ft)) (ht:dv P ft=some (n,true,by',zc)) (hx:ev ρ x=.agg cs) (hv:cs.extract off (off+n)=vs):
  (execOp (ev ρ) ⟨d,.field s x f,ty,pos,af,g⟩).run P w=.ok (.value (.agg vs)) w:=by
 unfold iP at hf;split at hf
 ·rename_i fs hs;split at hf
  ·rename_i fd hfd;split at hf
   ·cases hf
   ·simp only [abB,Prod.mk.injEq] at hf;obtain ⟨rfl,rfl⟩:=hf;simp [execOp,hx,Instr.field,run_underlying hs,hfd,asAgg,part,j0 ht,fL ht,hv]
  ·cases hf
 ·cases hf
end
section
variable {ro:Mode}
def bO (cs:List Value) (o:Nat) (vs:List Value):List Value:=cs.take o++vs++cs.drop (o+vs.length)
theorem eX {cs vs:List Value}{o:Nat} (h:o+vs.length≤cs.length):(bO cs o vs).length=cs.length:=by
 simp only [bO,ZS,Z1,aaU];omega
theorem wW (cs:List Value) (o:Nat):bO cs o []=cs:=by simp [bO]
theorem ua {cs vs:List Value}{o:Nat}{v:Value} (h:o+(v::vs).length≤cs.length):bO cs o (v::vs)=bO (cs.set o v) (o+1) vs:=by
 simp only [aae] at h;have h0:cs.set o v=cs.take o++v::cs.drop (o+1):=by rw [ac3,ZH ZB]
 have h2:(cs.take o).length=o:=by simp;omega
 have h1:(cs.set o v).take (o+1)=cs.take o++[v]:=by
  rw [h0,List.take_append,h2,ZO ZB];simp
 have h3:(cs.set o v).drop (o+1+vs.length)=cs.drop (o+1+vs.length):=List.drop_set_of_lt ZB;unfold bO;rw [h1,h3];simp [acS,abF 1]
theorem xY {a b c:World}{r:Option Nat} (h:a.grownBy b r) (k:b.grownBy c r):a.grownBy c r:=
 ⟨k.os.trans h.os,k.tape.trans h.tape,k.output.trans h.output,aac h.size k.size,fun i hi hne=>(k.block i (aaF hi h.size) hne).trans (h.block i hi hne)⟩
theorem Dl (w:World) (b o:Nat) (v:Value):w.grownBy (w.setCell ⟨b,o,none⟩ v) (some b):=
 ⟨rfl,rfl,rfl,by simp [World.setCell],fun k _ hne=>Below.heap_setCell w _ v k (fun e=>hne (by rw [e]))⟩
section
variable {P:Program}
theorem fQ {b:Nat}{t:TypeId}{fz:Nat×Nat} (o:Nat):∀(vs:List Value) (i:Nat) (cs:List Value) (w:World),w.heap[b]?=some (.cells cs.toArray t fz)→(cs.length≤fz.1∨fz.2≤fz.1)→
  o+i+vs.length≤cs.length→(∀v∈vs,v.oneCell'=true)→
  ∃w',(storeCells ⟨b,o,none⟩ vs i).run P w=.ok () w'∧w'.heap[b]?=some (.cells (bO cs (o+i) vs).toArray t fz)∧w.grownBy w' (some b)∧w'.heap.size=w.heap.size
 |[],i,cs,w,hw,_,_,_=>⟨w,by simp [storeCells],by rw [wW];exact hw,World.grownBy.refl _ _,rfl⟩
 |v::vs,i,cs,w,hw,hf,hl,h1=>by
  simp only [aae] at hl;have hoi:o+i<cs.length:=ZB;have hc:w.cell? ⟨b,o+i,none⟩=some cs[o+i]:=by
   rw [cell_of_row w b (o+i) _ t fz hw];simp [aa6 hoi]
  have hfr:w.frozen? ⟨b,o+i,none⟩=false:=by
   simp only [World.frozen?,hw]
   rcases hf with hf|hf<;>simp<;>omega
  have hw2:(w.setCell ⟨b,o+i,none⟩ v).heap[b]?=some (.cells (cs.set (o+i) v).toArray t fz):=by
   simp [World.setCell,Array.getElem?_modify,hw]
  obtain ⟨w',hr,hb',hg,hs⟩:=fQ (b:=b) (t:=t) (fz:=fz) o vs (i+1) (cs.set (o+i) v) _ hw2 (by simpa using hf) (by simp;omega) (fun u hu=>h1 u (Z0 _ hu));refine ⟨w', ?_, ?_,xY (Dl w b (o+i) v) hg,hs.trans (by simp [World.setCell])⟩
  ·simp only [storeCells,Sem.run_bind,eI,run_store P w ⟨b,o+i,none⟩ v .plain (h1 v (ZQ)),hc,hfr];simpa using hr
  ·rw [ua (by simp;omega)];exact hb'
end
def mm (pl:Nat→Option (Nat×Nat)):List Value→List (Nat×Value)→Option (List Value)
 |cs,[]=>some cs
 |cs,(i,v)::r=>
  match pl i with
  |none=>none
  |some (off,size)=>if v.cells.toList.length≠size∨cs.length<off+v.cells.toList.length then none else mm pl (bO cs off v.cells.toList) r
theorem se:∀(vs:List Value) (k o:Nat) (cs:List Value),o+k+vs.length≤cs.length→
  (vs.zipIdx k).foldl (fun (cs:Array Value) (x:Value×Nat)=>cs.setIfInBounds (o+x.2) x.1) cs.toArray=(bO cs (o+k) vs).toArray
 |[],k,o,cs,_=>by simp [wW]
 |v::vs,k,o,cs,h=>by
  rw [List.zipIdx_cons,abZ];simp only [List.setIfInBounds_toArray];rw [se vs (k+1) o (cs.set (o+k) v) (by simp at h ⊢;omega),ua (by simp at h ⊢;omega)]
  rfl
theorem Aw {pl:Nat→Option (Nat×Nat)}:∀(ps:List (Nat×Value)) (zs cs:List Value),mm pl zs ps=some cs→Instr.fill pl zs.toArray ps=some cs.toArray
 |[],zs,cs,h=>by simp only [mm,abB] at h;subst h;rfl
 |(i,v)::r,zs,cs,h=>by
  unfold mm at h;unfold Instr.fill;split at h
  ·cases h
  ·rename_i off size hpl;split at h
   ·cases h
   ·rename_i hc;simp only [ne_eq,not_or,Decidable.not_not,Nat.not_lt] at hc;simp only [hpl];have h1:¬((v.cells.size≠size||decide (off+v.cells.size>zs.toArray.size))=true):=by
     have e:v.cells.size=v.cells.toList.length:=by simp
     simp only [e,hc.1,acC,ab3,aad,ne_eq,not_true,decide_false,acK,false_or];omega
    rw [ZG h1];have h2:v.cells.zipIdx.foldl (fun (cs:Array Value) (x:Value×Nat)=>cs.setIfInBounds (off+x.2) x.1) zs.toArray=(bO zs off v.cells.toList).toArray:=by
     have:=se v.cells.toList 0 off zs ZB;rw [aa8] at this;rw [←this,←Array.foldl_toList,Array.toList_zipIdx]
    exact (aat (fun x=>Instr.fill pl x r) h2).trans (Aw r _ cs h)
def hZ:Nat→List Value→List Value
 |0,_=>[]
 |n+1,zc=>zc++hZ n zc
theorem j8 (n:Nat) (zc:List Value):(hZ n zc).length=n*zc.length:=by
 induction n with
 |zero=>simp [hZ]
 |succ n ih=>simp [hZ,ih,ab1,abF]
theorem Ay:∀(n:Nat) (zc:List Value) (i:Nat),i<n*zc.length→(hZ n zc)[i]?=zc[i % zc.length]?
 |0,zc,i,h=>by simp at h
 |n+1,zc,i,h=>by
  unfold hZ
  rcases aap i zc.length with hi|hi
  ·rw [abf hi,aas hi]
  ·rw [aa0 hi,Ay n zc (i-zc.length) (by rw [ab1] at h;omega)];congr 1;rw [Nat.mod_eq_sub_mod hi]
theorem wT (n:Nat) (zc:List Value):(Array.range (n*zc.length)).map (fun i=>zc.toArray[i % zc.length]!)=(hZ n zc).toArray:=by
 apply Array.ext_getElem?;intro i
 rcases aap i (n*zc.length) with h|h
 ·have hpos:0<zc.length:=by
   rcases abp zc.length with h0|h0
   ·rw [h0] at h;omega
   ·exact h0
  have hm:i % zc.length<zc.length:=aab _ hpos;simp [h,Ay n zc i h,aa6 hm]
 ·have h2:(hZ n zc).length≤i:=by rw [j8];exact h
  simp [h2,h]
def Dt (ρ:Rf):List (Nat×Operand)→List (Nat×Value)
 |[]=>[]
 |(i,x)::l=>(i,ev ρ x)::Dt ρ l
theorem H8 {ρ:Rf} (parts:Array (Nat×Operand)) {ps:List (Nat×Value)} (h:Dt ρ parts.toList=ps):(parts.map fun (i,x)=>(i,ev ρ x))=ps.toArray:=by
 have h1:∀l:List (Nat×Operand),l.map (fun (i,x)=>(i,ev ρ x))=Dt ρ l:=by
  intro l
  induction l with
  |nil=>rfl
  |cons a l ih=>simp only [aaj,ih];rfl
 subst h;rw [←h1];apply aco;simp
section
variable {P:Program}{N:Nat}{ops:Array Oper}{Q:Kq}{ρ:Rf}{w w0:World}{rest:List Oper}{H:List HE}{d:Nat}{ty:TypeId}{pos:String}{af:Array Edge}
theorem wh {w':World}{r:Option Nat} (h:Below w0.heap.size w0 w) (hg:w.grownBy w' r) (hr:∀k,r=some k→w0.heap.size≤k):Below w0.heap.size w0 w':=h.grown hg h.size hr
theorem Hp.grown {w':World}{x y:HE}{i:Nat} (h:Hp w0 H w) (hi:H[i]?=some x) (hg:w.grownBy w' x.id) (hid:y.id=x.id∨y.id=none∨y.id=some w.heap.size) (hy:y.holds w0.heap.size w'):Hp w0 (H.set i y) w':=by
 refine h.NW hi (fun b hb=> ?_) (wh h.below hg fun k hk=>(eL (h.at_ hi) hk).1) (fun b hlt hne=>hg.block b hlt (fun e=>hne e.symm)) hy
 rcases hid with e|e|e
 ·exact .inl (by rw [←e];exact hb)
 ·rw [e] at hb;cases hb
 ·rw [e] at hb;injection hb with hb
  exact .inr ZB
theorem Hp.cq (h:Hp w0 H w) (t:TypeId) (sz:Nat):Hp w0 (.row none 0 0 t sz []::H) w:=
 ⟨h.below,fun x hx=>by
  rcases ZZ.1 hx with rfl|hx
  ·exact World.ownsRow_nil _ _ _ _
  ·exact h.own x hx,by show (List.filterMap HE.id H).Nodup;exact h.nd⟩
theorem Hp.Hf (h:Hp w0 H w) (t:TypeId) (cs:List Value):Hp w0 (.blk w.heap.size t cs (0,0)::H) (w.alloc (.cells cs.toArray t)):=
 h.aE ((Below.refl _ _).alloc (ZM _) _) ⟨ZM _,heap_alloc_new w _,.inr (ZM _)⟩
theorem Hp.Ix (h:Hp w0 H w) (t:TypeId) (sz n:Nat) (cs:List Value) (hl:cs.length=n*sz) (hn:n≤maxLen):Hp w0 (.row (some ⟨w.heap.size,0,none⟩) n n t sz cs::H) (w.alloc (.cells cs.toArray t)):=
 h.aE ((Below.refl _ _).alloc (ZM _) _) ⟨hl,.inr ⟨w.heap.size,n,cs.toArray,rfl,ZM _,heap_alloc_new w _,ZM _,hn,by simpa using hl,by simp only [ZO (show cs.length≤n*sz by omega)]⟩⟩
theorem Ov (hh:Hp w0 H w) {t:TypeId}{x:Operand}{cs:List Value}{v:Value} (hx:ev ρ x=v) (hc:v.cells=cs.toArray) (hN:d<N)
  (k:∀b w',Hp w0 (.blk b t cs (0,0)::H) w'→WL ro P N ops Q rest (cm ρ d (.pointer (some ⟨b,0,none⟩))) w'):WL ro P N ops Q (⟨some d,.box t x,ty,pos,af,none⟩::rest) ρ w:=
 aR rfl rfl hN (w':=w.alloc (.cells cs.toArray t)) (v:=.pointer (some ⟨w.heap.size,0,none⟩)) (by simp [execOp,hx,Instr.box,newVar,newRow,hc]) (k _ _ (hh.Hf t cs))
theorem K6 (hh:Hp w0 H w) {t:TypeId}{n by':Nat}{ag:Bool}{zc:List Value} (ht:dv P t=some (n,ag,by',zc)) (hN:d<N)
  (k:∀b w',Hp w0 (.blk b t zc (0,0)::H) w'→WL ro P N ops Q rest (cm ρ d (.pointer (some ⟨b,0,none⟩))) w'):WL ro P N ops Q (⟨some d,.alloc t,ty,pos,af,none⟩::rest) ρ w:=by
 obtain ⟨z,hz,hzc⟩:=fh (w:=w) ht;exact aR rfl rfl hN (w':=w.alloc (.cells zc.toArray t)) (v:=.pointer (some ⟨w.heap.size,0,none⟩)) (by simp [execOp,Instr.alloc,newVar,newRow,hz,hzc]) (k _ _ (hh.Hf t zc))
theorem xD (hh:Hp w0 H w) {t t':TypeId}{x y:Operand}{i b o n by':Nat}{ag:Bool}{zc cs vs:List Value}{fz:Nat×Nat}{v:Value} (hx:ev ρ x=.pointer (some ⟨b,o,none⟩)) (hi:H[i]?=some (.blk b t' cs fz))
  (hy:ev ρ y=v) (hc:v.cells=vs.toArray) (ht:dv P t=some (n,ag,by',zc)) (hl:vs.length=n) (ho:o+n≤cs.length) (h1:(vs.all Value.oneCell')=true)
  (k:∀w',Hp w0 (H.set i (.blk b t' (bO cs o vs) fz)) w'→WL ro P N ops Q rest ρ w'):WL ro P N ops Q (⟨none,.store t x y,ty,pos,af,none⟩::rest) ρ w:=by
 have hb:=hh.at_ hi;obtain ⟨w',hr,hb',hg,hs⟩:=fQ (P:=P) (b:=b) (t:=t') (fz:=fz) o vs 0 cs w hb.2.1 hb.2.2 ZB (by simpa using h1);refine Aa rfl rfl (w':=w') ?_ (k w' (hh.grown hi hg (.inl rfl) ⟨hb.1,by simpa using hb',by rw [eX ZB];exact hb.2.2⟩));exact UA
theorem bV (hh:Hp w0 H w) {t t':TypeId}{x y:Operand}{i b o n m c sz by':Nat}{ag:Bool}{zc xs vs:List Value}{v:Value} (hx:ev ρ x=.pointer (some ⟨b,o,none⟩)) (hi:H[i]?=some (.row (some ⟨b,0,none⟩) m c t' sz xs))
  (hy:ev ρ y=v) (hc:v.cells=vs.toArray) (ht:dv P t=some (n,ag,by',zc)) (hl:vs.length=n) (ho:o+n≤xs.length) (h1:(vs.all Value.oneCell')=true)
  (k:∀w',Hp w0 (H.set i (.row (some ⟨b,0,none⟩) m c t' sz (bO xs o vs))) w'→WL ro P N ops Q rest ρ w'):WL ro P N ops Q (⟨none,.store t x y,ty,pos,af,none⟩::rest) ρ w:=by
 have hrow:=hh.at_ hi;obtain ⟨hlen,h2⟩:=hrow
 rcases h2 with ⟨h2,_⟩|⟨g,cap,cur,hv,hg,hheap,hmc,hcm,hcur,htake⟩
 ·injection h2 with h2;cases h2
 ·injection hv with hA hn hcap
  injection hA with hA
  injection hA with hA
  subst hA;subst hcap;have hcl:cur.size=cur.toList.length:=by simp
  have hle:m*sz≤c*sz:=aaV _ hmc;obtain ⟨w',hr,hb',hgr,hs⟩:=fQ (P:=P) (b:=b) (t:=t') (fz:=(0,0)) o vs 0 cur.toList w (by simpa using hheap) (.inr (ZM _)) (by rw [←hcl];omega) (by simpa using h1);refine Aa rfl rfl (w':=w') ?_ (k w' (hh.grown hi hgr (.inl rfl) ⟨by rw [eX ZB];exact hlen,.inr ⟨b,c,(bO cur.toList o vs).toArray,rfl,hg,by simpa using hb',hmc,hcm, ?_, ?_⟩⟩))
  ·exact UA
  ·simp only [acC];rw [eX (by rw [←hcl];omega),←hcl,hcur]
  ·exact W9
theorem de (hh:Hp w0 H w) {t e:TypeId}{len sz by':Nat}{ag:Bool}{parts:Array (Nat×Operand)}{ps:List (Nat×Value)}{zc cs:List Value} (ht:P.underlying t=some (.slice e)) (hte:dv P e=some (sz,ag,by',zc))
  (hp:Dt ρ parts.toList=ps) (hzl:zc.length=sz) (hf:mm (fun i=>some (i*sz,sz)) (hZ len zc) ps=some cs) (h0:¬len*sz=0) (hle:len≤1000) (hsl:len*sz≤16777216) (hl:cs.length=len*sz) (hN:d<N)
  (k:∀b w',Hp w0 (.row (some ⟨b,0,none⟩) len len e sz cs::H) w'→WL ro P N ops Q rest (cm ρ d (.slice (some ⟨b,0,none⟩) len len)) w'):WL ro P N ops Q (⟨some d,.buildSlice t len parts,ty,pos,af,none⟩::rest) ρ w:=by
 obtain ⟨z,hz,hzc⟩:=fh (w:=w) hte;refine aR rfl rfl hN (w':=w.alloc (.cells cs.toArray e)) (v:=.slice (some ⟨w.heap.size,0,none⟩) len len) ?_ (k _ _ (hh.Ix e sz len cs hl (by unfold maxLen;omega)));exact VY
def si (P:Program) (t:TypeId):Option (List (Nat×Nat)):=
 match P.underlying t with
 |some (.struct fs)=>fs.toList.mapM fun f=>(P.info? f.type).map fun i=>(f.offset,i.size)
 |_=>none
theorem xp {P:Program}{w:World}:∀(l:List Field) (pl:List (Nat×Nat)),(l.mapM fun f=>(P.info? f.type).map fun i=>(f.offset,i.size))=some pl→
  (l.mapM (m:=Sem) fun f=>do pure (f.offset,←sizeOf f.type)).run P w=.ok pl w
 |[],pl,h=>by
  simp at h;subst h;simp
 |f::l,pl,h=>by
  rw [List.mapM_cons] at h
  cases hi:P.info? f.type with
  |none=>simp [hi] at h
  |some i=>
   cases hr:l.mapM (fun f=>(P.info? f.type).map fun i=>(f.offset,i.size)) with
   |none=>simp [hr] at h
   |some pl'=>
    simp [hi,hr] at h;have ih:=xp (w:=w) l pl' hr;have hs:(sizeOf f.type).run P w=.ok i.size w:=by simp [sizeOf,typeInfo,hi]
    rw [List.mapM_cons,Sem.run_bind,Sem.run_bind,hs,Result.andThen_ok,Sem.run_pure,Result.andThen_ok,Sem.run_bind,ih,Result.andThen_ok,Sem.run_pure,h]
theorem mW {dd:Option Nat}{g:Option (Nat×Bool)}{t:TypeId}{n by':Nat}{parts:Array (Nat×Operand)}{ps:List (Nat×Value)}{zc cs:List Value}{pl:List (Nat×Nat)} (hte:dv P t=some (n,true,by',zc))
  (hpl:si P t=some pl)
  (hp:Dt ρ parts.toList=ps) (hf:mm (pl[·]?) zc ps=some cs):
  (execOp (ev ρ) ⟨dd,.build t parts,ty,pos,af,g⟩).run P w=.ok (.value (.agg cs.toArray)) w:=by
 obtain ⟨z,hz,hzc⟩:=fh (w:=w) hte;unfold si at hpl;split at hpl
 ·rename_i fs hfs;have h1:=xp (w:=w) _ _ hpl;have h2:(fs.mapM (m:=Sem) fun f=>do pure (f.offset,←sizeOf f.type)).run P w=.ok pl.toArray w:=by
   have e:fs=fs.toList.toArray:=by simp
   rw [e,List.mapM_toArray,Sem.run_map,h1]
   rfl
  have hf':=Aw _ _ _ hf;have hpp:(fun (x:Nat)=>pl.toArray[x]?)=fun x=>pl[x]?:=by funext x;simp
  have hp':=H8 parts hp;simp only [execOp,hp',Instr.build,Sem.run_bind,hz,Result.andThen_ok,run_underlying hfs,h2,hzc,hpp,hf',Sem.run_pure]
 ·cases hpl
end
end
section
variable {ro:Mode}
theorem jH (A:Option Addr) (n c:Nat):(Value.slice A n c).ownBlock=A.map (·.block):=by cases A<;>rfl
theorem qP (n:Nat) (z:Value):hZ n [z]=List.replicate n z:=by
 induction n with
 |zero=>rfl
 |succ n ih=>simp [hZ,ih,acm]
theorem la {w:World}{ad:Addr}{xs:List Value}{m:Int}{k:Nat}{v:Value} (h:Rd w ad xs) (hx:xs[k]?=some v) (hm:m=(k:Int)):w.cell? (ad.add (m.toNat*1))=some v:=by
 subst hm;simpa using h k v hx
def jQ (l:List UInt8):List Value:=l.map fun c=>.int .u8 c.toNat
theorem gI (l:List UInt8):(jQ l).length=l.length:=by simp [jQ]
section
variable {P:Program}{w:World}
theorem rF (base:Nat) (t ty e:TypeId) (i:TypeInfo) (ht:P.underlying t=some (.slice e)) (hi:P.info? e=some i)
  (v:Value) (n:Nat) (xs:List Value) (sz:Nat) (hown:w.ownsRow base e sz v n xs) (c:Nat):(Builtin.append_ #[t,t] ty #[v,.slice none 0 c]).run P w=.ok v w:=by
 rcases hown.2 with ⟨rfl,rfl⟩|⟨g,cap,cur,rfl,_,_,hnc,_⟩
 ·simp [Builtin.append_,run_underlying ht,sizeOf,typeInfo,hi,Builtin.lenOf,Builtin.firstCells]
 ·simp [Builtin.append_,run_underlying ht,sizeOf,typeInfo,hi,Builtin.lenOf,Builtin.firstCells,hnc,storeCells]
theorem l7 (base:Nat) (t ty e:TypeId) (sz by':Nat) (ag:Bool) (zc:List Value) (ht:P.underlying t=some (.slice e)) (hte:dv P e=some (sz,ag,by',zc)) (hzl:zc.length=sz) (hsz:0<sz)
  (A:Option Addr) (n c:Nat) (xs:List Value) (hown:w.ownsRow base e sz (.slice A n c) n xs) (B:Option Addr) (m c':Nat) (news:List Value) (hsl:Sl w B m sz news) (h1:∀u∈news,u.oneCell'=true)
  (h63:n+m≤maxLen) (hbytes:(n+m)*by'≤140737488355328) (hbase:base≤w.heap.size):
  ∃A' c2 w',(Builtin.append_ #[t,t] ty #[.slice A n c,.slice B m c']).run P w=.ok (.slice A' (n+m) c2) w'∧w'.ownsRow base e sz (.slice A' (n+m) c2) (n+m) (xs++news)∧
   w.grownBy w' (A.map (·.block))∧(A'.map (·.block)=A.map (·.block)∨A'.map (·.block)=none∨A'.map (·.block)=some w.heap.size):=by
 obtain ⟨i,z,d,hi,hd,hz,hs,hby,hzc,_⟩:=fe hte;have hzs:z.cells.size=sz:=by rw [hzc];simpa using hzl
 have fin:∀(ad:Addr),B=some ad→Rd w ad news→∃A' c2 w',(Builtin.append_ #[t,t] ty #[.slice A n c,.slice B m c']).run P w=.ok (.slice A' (n+m) c2) w'∧w'.ownsRow base e sz (.slice A' (n+m) c2) (n+m) (xs++news)∧
   w.grownBy w' (A.map (·.block))∧(A'.map (·.block)=A.map (·.block)∨A'.map (·.block)=none∨A'.map (·.block)=some w.heap.size):=by
  rintro ad rfl hr;obtain ⟨v',w',hrun,h2,h3,_,h5⟩:=run_append_own_at (P:=P) w base t ty e i z sz by' ht hi hz hs hby hzs hsz (.slice A n c) n xs hown ad m c' news hsl.1 hr h1 h63 hbytes hbase;rw [jH] at h3
  rcases h2.2 with ⟨hv,h0⟩|⟨g,cap,cur,hv,r⟩
  ·subst hv;refine ⟨none,0,w',by rw [hrun,h0],by rw [h0];exact h0 ▸ h2,h3,.inr (.inl rfl)⟩
  ·subst hv;refine ⟨_,_,w',hrun,h2,h3, ?_⟩
   rcases h5 with h5|h5
   ·exact .inl (by rw [←jH _ (n+m) cap,h5,jH])
   ·exact .inr (.inr (by rw [←jH _ (n+m) cap,h5]))
 rcases abp m with h0|h0
 ·subst h0;have hnews:news=[]:=abl (by simpa using hsl.1);subst hnews
  cases B with
  |none=>exact ⟨A,c,w,rF base t ty e i ht hi _ n xs sz hown c',by simpa using hown,World.grownBy.refl _ _,.inl rfl⟩
  |some ad=>exact fin ad rfl (fun j u hu=>by simp at hu)
 ·obtain ⟨ad,hB,hr⟩:=hsl.2 h0;exact fin ad hB hr
theorem x4 {A:Option Addr}{n c:Nat}{l:List UInt8} (h:Sl w A n 1 (jQ l)):(Conv.bytesToString (.slice A n c)).run P w=.ok (.string ⟨l.toArray⟩) w:=by
 have hn:l.length=n:=by have:=h.1;rw [gI] at this;omega
 cases A with
 |none=>
  have h0:n=0:=by
   rcases abp n with h0|h0
   ·exact h0
   ·obtain ⟨ad,h1,_⟩:=h.2 h0;cases h1
  have:l=[]:=abl ZB;subst this;simp [Conv.bytesToString,ByteArray.empty,ByteArray.emptyWithCapacity]
  rfl
 |some a=>
  have hr:Rd w a (jQ l):=by
   rcases abp n with h0|h0
   ·have:l=[]:=abl ZB;subst this;intro j u hu;simp [jQ] at hu
   ·obtain ⟨ad,h1,h2⟩:=h.2 h0;injection h1 with h1;subst h1;exact h2
  have e1:jQ l=(l.map fun c:UInt8=>(c.toNat:Int)).map (Value.int .u8):=by simp [jQ]
  have hld:=run_loadCells_list (P:=P) w a (jQ l) hr;rw [gI,hn,e1] at hld;rw [run_bytesToString w a n c _ hld];congr 2;have:∀(l:List UInt8) (s:ByteArray),(l.map fun c:UInt8=>(c.toNat:Int)).foldl (fun r n=>r.push (UInt8.ofNat n.toNat)) s=⟨s.data++l.toArray⟩:=by
   intro l
   induction l with
   |nil=>intro s;simp
   |cons c l ih=>
    intro s;simp only [aaj,abZ];rw [ih];have:(s.push (UInt8.ofNat ((c.toNat:Int)).toNat)).data=s.data.push c:=by simp [ByteArray.push]
    rw [this];congr 1;apply aco;simp
  rw [this];congr 1;apply aco;simp [ByteArray.empty,ByteArray.emptyWithCapacity]
  rfl
end
section
variable {P:Program}{N:Nat}{ops:Array Oper}{Q:Kq}{ρ:Rf}{w w0:World}{rest:List Oper}{H:List HE}{d:Nat}{ty:TypeId}{pos:String}{af:Array Edge}
theorem bQ (hh:Hp w0 H w) {t e:TypeId}{s x:Operand}{i n c m c' sz by':Nat}{ag:Bool}{A B:Option Addr}{zc xs news:List Value} (hi:H[i]?=some (.row A n c e sz xs)) (hs:ev ρ s=.slice A n c) (hx:ev ρ x=.slice B m c')
  (hsl:Sl w B m sz news) (ht:P.underlying t=some (.slice e)) (hte:dv P e=some (sz,ag,by',zc)) (hzl:zc.length=sz) (hsz:0<sz) (h1:(news.all Value.oneCell')=true)
  (h63:n+m≤9223372036854775807) (hbytes:(n+m)*by'≤140737488355328) (hN:d<N)
  (k:∀A' c2 w',Hp w0 (H.set i (.row A' (n+m) c2 e sz (xs++news))) w'→WL ro P N ops Q rest (cm ρ d (.slice A' (n+m) c2)) w'):
  WL ro P N ops Q (⟨some d,.call ⟨.builtin .append, #[s,x], #[t,t]⟩,ty,pos,af,none⟩::rest) ρ w:=by
 obtain ⟨A',c2,w',hr,hown,hg,hid⟩:=l7 (P:=P) w0.heap.size t ty e sz by' ag zc ht hte hzl hsz A n c xs (hh.at_ hi) B m c' news hsl (by simpa using h1) (by unfold maxLen;omega) hbytes hh.size;refine aR rfl rfl hN (w':=w') (v:=.slice A' (n+m) c2) ?_ (k A' c2 w' (hh.grown hi hg hid hown));exact TF
theorem fT (hh:Hp w0 H w) {t e:TypeId}{l cp:Operand}{kl kc:IntKind}{L C:Int}{n sz by':Nat}{ag:Bool}{zc:List Value} (hl:ev ρ l=.int kl L) (hc:ev ρ cp=.int kc C) (hL:L=(n:Int)) (hC:C=(n:Int))
  (ht:P.underlying t=some (.slice e)) (hte:dv P e=some (sz,ag,by',zc)) (hzl:zc.length=sz) (hb:by'*n≤281474976710656) (h63:n≤9223372036854775807) (hN:d<N)
  (k:∀b w',Hp w0 (.row (some ⟨b,0,none⟩) n n e sz (hZ n zc)::H) w'→WL ro P N ops Q rest (cm ρ d (.slice (some ⟨b,0,none⟩) n n)) w'):
  WL ro P N ops Q (⟨some d,.makeSlice t l cp,ty,pos,af,none⟩::rest) ρ w:=by
 obtain ⟨i,z,dd,hi,hd,hz,hs,hby,hzc,_⟩:=fe hte;subst hL;subst hC;obtain ⟨w',hr,hown,hg⟩:=run_make_full (P:=P) w w.heap.size t e i z sz ht hi hz hs kl kc n (by rw [hby];exact hb) (by unfold maxLen;omega) (ZM _);have hzz:(madeCells z.cells (n*sz)).toList=hZ n zc:=by
  exact RN
 rw [hzz] at hown;refine aR rfl rfl hN (w':=w') (v:=.slice (some ⟨w.heap.size,0,none⟩) n n) ?_ (k _ w' (hh.aE ⟨hg.os,hg.tape,hg.output,hg.size,fun j hj=>hg.block j hj (by simp)⟩ hown));simp [execOp,hl,hc,hr]
theorem xf (hh:Hp w0 H w) {t e:TypeId}{sz by':Nat}{ag:Bool}{zc:List Value} (ht:P.underlying t=some (.slice e)) (hte:dv P e=some (sz,ag,by',zc)) (hN:d<N)
  (k:∀b w',Hp w0 (.row (some ⟨b,0,none⟩) 0 0 e sz []::H) w'→WL ro P N ops Q rest (cm ρ d (.slice (some ⟨b,0,none⟩) 0 0)) w'):WL ro P N ops Q (⟨some d,.buildSlice t 0 #[],ty,pos,af,none⟩::rest) ρ w:=by
 refine aR rfl rfl hN (w':=w.alloc (.cells #[] e)) (v:=.slice (some ⟨w.heap.size,0,none⟩) 0 0) ?_ (k _ _ (hh.Ix e sz 0 [] (by simp) (by unfold maxLen;omega)));have e0:Array.range 0= #[]:=rfl;simp [execOp,Instr.buildSlice,run_underlying ht,fL hte,Instr.fill,newRow,e0]
theorem ij {dd:Option Nat}{g:Option (Nat×Bool)}{s t e:TypeId}{x:Operand}{A:Option Addr}{n c:Nat}{l:List UInt8} (hs:P.underlying s=some (.slice e)) (he:P.underlying e=some (.int .u8)) (ht:P.underlying t=some .string)
  (hx:ev ρ x=.slice A n c) (h:Sl w A n 1 (jQ l)):(execOp (ev ρ) ⟨dd,.convert s t x,ty,pos,af,g⟩).run P w=.ok (.value (.string ⟨l.toArray⟩)) w:=by
 simp [execOp,hx,run_convert_bytes_string w s t e A n c hs he ht,x4 h]
theorem nH (hh:Hp w0 H w) {s t e:TypeId}{x:Operand}{b:ByteArray} (hs:P.underlying s=some .string) (ht:P.underlying t=some (.slice e)) (he:P.underlying e=some (.int .u8)) (hx:ev ρ x=.string b) (hN:d<N)
  (k:∀g c ex w',Hp w0 (.blk g e (jQ b.data.toList++ex) ((jQ b.data.toList++ex).length,(jQ b.data.toList++ex).length+1)::H) w'→WL ro P N ops Q rest (cm ρ d (.slice (some ⟨g,0,none⟩) b.size c)) w'):
  WL ro P N ops Q (⟨some d,.convert s t x,ty,pos,af,none⟩::rest) ρ w:=by
 let c:=grownCap w b.size 0 e
 let ex:List Value:=List.replicate (c-b.size) (.int .u8 0)
 let cells:List Value:=jQ b.data.toList++ex
 let w1:=w.drew.alloc (.cells cells.toArray e)
 let w':=w1.freeze ⟨w.heap.size,cells.length,none⟩ 1
 have hw1:w1.heap[w.heap.size]?=some (.cells cells.toArray e (0,0)):=heap_alloc_new w.drew _;have hheap:w'.heap[w.heap.size]?=some (.cells cells.toArray e (cells.length,cells.length+1)):=by
  show (w1.heap.modify w.heap.size _)[w.heap.size]?=_;rw [Array.getElem?_modify,ZH rfl,hw1];simp
 have hbl:Below w.heap.size w w':=by
  refine ⟨rfl,rfl,rfl, ?_,fun j hj=> ?_⟩
  ·show w.heap.size≤(w1.heap.modify w.heap.size _).size;rw [Array.size_modify];show w.heap.size≤w1.heap.size;simp [w1]
  ·show (w1.heap.modify w.heap.size _)[j]?=_;rw [Array.getElem?_modify,ZG ZB];exact Below.heap_alloc w.drew _ j hj
 refine aR rfl rfl hN (w':=w') (v:=.slice (some ⟨w.heap.size,0,none⟩) b.size c) ?_ (k w.heap.size c ex w' (hh.aE hbl ⟨ZM _,hheap,.inl (ZM _)⟩));have harr:(b.data.map fun b=>Value.int .u8 b.toNat)++Array.replicate (c-b.size) (Value.int .u8 0)=cells.toArray:=by
  apply aco;simp [cells,ex,jQ]
 have hsh:w1.shape? w.heap.size=some (e,cells.length):=by simp [World.shape?,hw1]
 have hch:(choose (.appendCap b.size 0 e)).run P w=.ok c w.drew:=by simp [choose,Sem.run,Question.forced,grownCap,c]
 have hnr:(newRow e cells.toArray).run P w.drew=.ok ⟨w.heap.size,0,none⟩ w1:=by simp [newRow,w1]
 have hms:(markStringish ⟨w.heap.size,0,none⟩).run P w1=.ok () w':=by simp [markStringish,shape,Sem.run,hsh,freeze,w']
 simp only [execOp,hx,convert,Sem.run_bind,run_underlying hs,run_underlying ht,run_underlying he,Result.andThen_ok,Conv.stringToBytes];rw [hch,Result.andThen_ok,harr,hnr,Result.andThen_ok,hms,Result.andThen_ok,Sem.run_pure,Result.andThen_ok,Sem.run_pure]
theorem Bl (hh:Hp w0 H w) {t:TypeId}{x:Operand}{s:ByteArray} (ht:P.underlying t=some .string) (hx:ev ρ x=.string s) (hN:d<N)
  (k:∀b w',Hp w0 (.it b s 0::H) w'→WL ro P N ops Q rest (cm ρ d (.pointer (some ⟨b,0,none⟩))) w'):WL ro P N ops Q (⟨some d,.range t x,ty,pos,af,none⟩::rest) ρ w:=by
 refine aR rfl rfl hN (w':=w.alloc (.stringIter s 0)) (v:=.pointer (some ⟨w.heap.size,0,none⟩)) (by simp [execOp,hx,Instr.range,run_underlying ht]) (k _ _ (hh.aE ((Below.refl _ _).alloc (ZM _) _) ⟨ZM _,heap_alloc_new w _⟩))
theorem AE (hh:Hp w0 H w) {x:Operand}{i b p:Nat}{s:ByteArray} (hi:H[i]?=some (.it b s p)) (hx:ev ρ x=.pointer (some ⟨b,0,none⟩)) (hp:¬p<s.size) (hN:d<N)
  (k:WL ro P N ops Q rest (cm ρ d (.tuple #[.bool false])) w):WL ro P N ops Q (⟨some d,.next x true,ty,pos,af,none⟩::rest) ρ w:=by
 have h1:=(hh.at_ hi).2;refine aR rfl rfl hN (w':=w) (v:=.tuple #[.bool false]) ?_ k;simp [execOp,hx,Instr.next,getObj,Sem.run,h1,hp]
theorem Ap (hh:Hp w0 H w) {x:Operand}{i b p:Nat}{s:ByteArray}{c:UInt8} (hi:H[i]?=some (.it b s p)) (hx:ev ρ x=.pointer (some ⟨b,0,none⟩)) (hc:s.data.toList[p]?=some c) (h128:c.toNat<128) (hN:d<N)
  (k:∀w',Hp w0 (H.set i (.it b s (p+1))) w'→WL ro P N ops Q rest (cm ρ d (.tuple #[.bool true,.int .i64 p,.int .i32 c.toNat])) w'):WL ro P N ops Q (⟨some d,.next x true,ty,pos,af,none⟩::rest) ρ w:=by
 have h1:=(hh.at_ hi).2;obtain ⟨hlt,hcc⟩:=ZV.1 hc;have hlt':p<s.size:=by simpa using hlt
 have hget:s.get! p=c:=by
  have:s.get! p=s.data[p]! :=rfl;rw [this,getElem!_pos s.data p hlt'];simpa using hcc
 have hdec:Utf8.decode s p=(c.toNat,1):=by
  unfold Utf8.decode;simp only [aa8,hget];rw [ZH h128]
 let w':World:={ w with heap:=w.heap.setIfInBounds b (.stringIter s (p+1)) }
 have hb:=eL (hh.at_ hi) (b:=b) rfl;have hg:w.grownBy w' (some b):=⟨rfl,rfl,rfl,by simp [w'],fun k _ hne=>by
  show (w.heap.setIfInBounds b _)[k]?=_;rw [Array.getElem?_setIfInBounds_ne (fun e=>hne (by rw [e]))]⟩
 refine aR rfl rfl hN (w':=w') (v:=.tuple #[.bool true,.int .i64 p,.int .i32 c.toNat]) ?_ (k w' (hh.grown hi hg (.inl rfl) ⟨hb.1, ?_⟩))
 ·simp [execOp,hx,Instr.next,getObj,setObj,Sem.run,h1,hlt',hdec,goInt,w']
 ·show (w.heap.setIfInBounds b _)[b]?=_;simp [hb.2]
end
end
class UK (k:IntKind) (b:outParam Nat) (M:outParam Nat):Prop where
 bits:k.bits=b
 sgn:k.signed=false
 pow:2^b=M
instance:UK .u8 8 256:=⟨rfl,rfl,rfl⟩
instance:UK .u16 16 65536:=⟨rfl,rfl,rfl⟩
instance:UK .u32 32 4294967296:=⟨rfl,rfl,rfl⟩
instance:UK .u64 64 18446744073709551616:=⟨rfl,rfl,rfl⟩
theorem UK.wrap {k:IntKind}{b M:Nat} [h:UK k b M] (n:Nat):k.wrap (n:Int)=((n % M:Nat):Int):=by
 unfold IntKind.wrap;have hM:(2:Int)^k.bits=(M:Int):=by rw [h.bits,←h.pow];simp
 simp only [h.sgn,hM,Bool.false_and];simp
theorem UK.rC {k:IntKind}{b M:Nat} [UK k b M] {n:Nat} (hn:n<M):k.wrap (n:Int)=(n:Int):=by rw [UK.wrap,aas hn]
theorem UK.wrap_add {k:IntKind}{b M:Nat} [h:UK k b M] (z:Int):k.wrap (z+M)=k.wrap z:=by
 unfold IntKind.wrap;have hM:(2:Int)^k.bits=(M:Int):=by rw [h.bits,←h.pow];simp
 simp [hM]
section
variable {P:Program}{ρ:Rf}{w:World}{d:Option Nat}{ty:TypeId}{pos:String}{af:Array Edge}{g:Option (Nat×Bool)}
section unats
variable {t u:TypeId}{x y:Operand}{k:IntKind}{q M:Nat}{a b:Nat}
theorem UM [UK k q M] (hx:ev ρ x=.int k (a:Int)) (hy:ev ρ y=.int k (b:Int)):(execOp (ev ρ) ⟨d,.binOp .add t x y u,ty,pos,af,g⟩).run P w=.ok (.value (.int k (((a+b) % M:Nat):Int))) w:=by
 rw [Sg hx hy,←aa3,UK.wrap]
theorem T7 [UK k q M] (hx:ev ρ x=.int k (a:Int)) (hy:ev ρ y=.int k (b:Int)) (hb:b≤M):(execOp (ev ρ) ⟨d,.binOp .sub t x y u,ty,pos,af,g⟩).run P w=.ok (.value (.int k (((a+M-b) % M:Nat):Int))) w:=by
 rw [Ru hx hy,←UK.wrap (k:=k)];have h:((a+M-b:Nat):Int)=(a:Int)-b+M:=ZB;rw [h,UK.wrap_add]
theorem Un [UK k q M] (hx:ev ρ x=.int k (a:Int)) (hy:ev ρ y=.int k (b:Int)):(execOp (ev ρ) ⟨d,.binOp .mul t x y u,ty,pos,af,g⟩).run P w=.ok (.value (.int k (((a*b) % M:Nat):Int))) w:=by
 rw [TN hx hy,←aaA,UK.wrap]
theorem MX [UK k q M] (hx:ev ρ x=.int k (a:Int)) (hy:ev ρ y=.int k (b:Int)) (hb:0<b) (ha:a<M):(execOp (ev ρ) ⟨d,.binOp .quo t x y u,ty,pos,af,g⟩).run P w=.ok (.value (.int k ((a/b:Nat):Int))) w:=by
 rw [Su hx hy ZB,←Int.ofNat_tdiv,UK.rC (aaI (abJ _ _) ha)]
theorem NQ (hx:ev ρ x=.int k (a:Int)) (hy:ev ρ y=.int k (b:Int)) (hb:0<b):(execOp (ev ρ) ⟨d,.binOp .rem t x y u,ty,pos,af,g⟩).run P w=.ok (.value (.int k ((a % b:Nat):Int))) w:=by
 rw [TC hx hy ZB,←Int.ofNat_tmod]
theorem pd (n:Nat) (a:Nat):BitVec.ofInt n (a:Int)=BitVec.ofNat n a:=by simp
theorem Xk [h:UK k q M] (hx:ev ρ x=.int k (a:Int)) (hy:ev ρ y=.int k (b:Int)) (ha:a<M) (hb:b<M):(execOp (ev ρ) ⟨d,.binOp .or t x y u,ty,pos,af,g⟩).run P w=.ok (.value (.int k ((a|||b:Nat):Int))) w:=by
 rw [Yo hx hy,pd,pd,BitVec.toNat_or,BitVec.toNat_ofNat,BitVec.toNat_ofNat,h.bits,h.pow,aas ha,aas hb,UK.rC];rw [←h.pow] at ha hb ⊢;exact Nat.or_lt_two_pow ha hb
theorem Ui [h:UK k q M] (hx:ev ρ x=.int k (a:Int)) (hy:ev ρ y=.int k (b:Int)) (ha:a<M) (hb:b<M):(execOp (ev ρ) ⟨d,.binOp .and t x y u,ty,pos,af,g⟩).run P w=.ok (.value (.int k ((a &&& b:Nat):Int))) w:=by
 rw [TH hx hy,pd,pd,BitVec.toNat_and,BitVec.toNat_ofNat,BitVec.toNat_ofNat,h.bits,h.pow,aas ha,aas hb,UK.rC];exact aaI Nat.and_le_left ha
theorem xo [h:UK k q M] {k':IntKind}{s:Int} (hx:ev ρ x=.int k (a:Int)) (hy:ev ρ y=.int k' s) (hs:0≤s∧s≤q):(execOp (ev ρ) ⟨d,.binOp .shl t x y u,ty,pos,af,g⟩).run P w=.ok (.value (.int k (((a*2^s.toNat) % M:Nat):Int))) w:=by
 have e:(a:Int)*2^(min s.toNat k.bits)=((a*2^s.toNat:Nat):Int):=by
  rw [h.bits,aaT ZB,aaA,ac4];rfl
 rw [Sc hx hy hs.1,e,UK.wrap]
theorem Gl [h:UK k q M] {k':IntKind}{s:Int} (hx:ev ρ x=.int k (a:Int)) (hy:ev ρ y=.int k' s) (hs:0≤s∧s≤q):(execOp (ev ρ) ⟨d,.binOp .shr t x y u,ty,pos,af,g⟩).run P w=.ok (.value (.int k ((a/2^s.toNat:Nat):Int))) w:=by
 rw [S3 hx hy hs.1,h.bits,aaT ZB,Int.fdiv_eq_ediv_of_nonneg _ (Int.le_of_lt (Int.pow_pos ZB))];simp
theorem QX [UK k q M] {k':IntKind}{s m:Nat} (hx:ev ρ x=.int k (a:Int)) (hy:ev ρ y=.int k' (s:Int)) (hs:s≤q) (hm:2^s=m):(execOp (ev ρ) ⟨d,.binOp .shr t x y u,ty,pos,af,g⟩).run P w=.ok (.value (.int k ((a/m:Nat):Int))) w:=by
 rw [Gl hx hy ZB,←hm];rfl
theorem T5 [h:UK k q M] (hx:ev ρ x=.int k (a:Int)) (ha:a≤M):(execOp (ev ρ) ⟨d,.unOp .neg t x,ty,pos,af,g⟩).run P w=.ok (.value (.int k (((M-a) % M:Nat):Int))) w:=by
 rw [S8 hx,←UK.wrap (k:=k)];have e:((M-a:Nat):Int)= -(a:Int)+M:=ZB;rw [e,UK.wrap_add]
theorem Qg [UK k q M] {s t:TypeId}{k':IntKind}{sd:TypeDesc} (hs:P.underlying s=some sd) (ht:P.underlying t=some (.int k)) (hx:ev ρ x=.int k' (a:Int)):
  (execOp (ev ρ) ⟨d,.convert s t x,ty,pos,af,g⟩).run P w=.ok (.value (.int k ((a % M:Nat):Int))) w:=by
 rw [kX hs ht hx,UK.wrap]
theorem wR [UK k q M] {s t:TypeId}{k':IntKind}{sd:TypeDesc} (hs:P.underlying s=some sd) (ht:P.underlying t=some (.int k)) (hx:ev ρ x=.int k' (a:Int)) (ha:a<M):
  (execOp (ev ρ) ⟨d,.convert s t x,ty,pos,af,g⟩).run P w=.ok (.value (.int k (a:Int))) w:=by
 rw [kX hs ht hx,UK.rC ha]
end unats
section ints
variable {t u:TypeId}{x y:Operand}{k:IntKind}{a b:Int}
theorem Io (hx:ev ρ x=.int k a) (hy:ev ρ y=.int k b):(execOp (ev ρ) ⟨d,.binOp .lss t x y u,ty,pos,af,g⟩).run P w=.ok (.value (.bool (decide (a<b)))) w:=by
 by_cases h:a<b
 ·rw [QN hx hy h,ZX h]
 ·rw [QH hx hy h,Z3 h]
theorem PY (hx:ev ρ x=.int k a) (hy:ev ρ y=.int k b):(execOp (ev ρ) ⟨d,.binOp .leq t x y u,ty,pos,af,g⟩).run P w=.ok (.value (.bool (decide (a≤b)))) w:=by
 by_cases h:a≤b
 ·rw [QV hx hy h,ZX h]
 ·rw [P9 hx hy h,Z3 h]
theorem HP (hx:ev ρ x=.int k a) (hy:ev ρ y=.int k b):(execOp (ev ρ) ⟨d,.binOp .gtr t x y u,ty,pos,af,g⟩).run P w=.ok (.value (.bool (decide (b<a)))) w:=by
 by_cases h:b<a
 ·rw [Pf hx hy h,ZX h]
 ·rw [Ps hx hy h,Z3 h]
theorem PC (hx:ev ρ x=.int k a) (hy:ev ρ y=.int k b):(execOp (ev ρ) ⟨d,.binOp .geq t x y u,ty,pos,af,g⟩).run P w=.ok (.value (.bool (decide (b≤a)))) w:=by
 by_cases h:b≤a
 ·rw [Pe hx hy h,ZX h]
 ·rw [Q9 hx hy h,Z3 h]
theorem PG (hx:ev ρ x=.int k a) (hy:ev ρ y=.int k b):(execOp (ev ρ) ⟨d,.binOp .neq t x y u,ty,pos,af,g⟩).run P w=.ok (.value (.bool (decide (a≠b)))) w:=by
 by_cases h:a=b
 ·rw [Pg hx hy h,Z3 (by simpa using h)]
 ·rw [P0 hx hy h,ZX h]
end ints
section bools
variable {t u:TypeId}{x y:Operand}{a b:Bool}
theorem Qe (ht:P.underlying t=some .bool) (hx:ev ρ x=.bool a) (hy:ev ρ y=.bool b) (h:a=b):(execOp (ev ρ) ⟨d,.binOp .eql t x y u,ty,pos,af,g⟩).run P w=.ok (.value (.bool true)) w:=by
 rw [xb ht hx hy,h,beq_self_eq_true]
theorem QC (ht:P.underlying t=some .bool) (hx:ev ρ x=.bool a) (hy:ev ρ y=.bool b) (h:¬a=b):(execOp (ev ρ) ⟨d,.binOp .eql t x y u,ty,pos,af,g⟩).run P w=.ok (.value (.bool false)) w:=by
 rw [xb ht hx hy,beq_false_of_ne h]
theorem Qy (ht:P.underlying t=some .bool) (hx:ev ρ x=.bool a) (hy:ev ρ y=.bool b) (h:¬a=b):(execOp (ev ρ) ⟨d,.binOp .neq t x y u,ty,pos,af,g⟩).run P w=.ok (.value (.bool true)) w:=by
 rw [mO ht hx hy,bne,beq_false_of_ne h];rfl
theorem P3 (ht:P.underlying t=some .bool) (hx:ev ρ x=.bool a) (hy:ev ρ y=.bool b) (h:a=b):(execOp (ev ρ) ⟨d,.binOp .neq t x y u,ty,pos,af,g⟩).run P w=.ok (.value (.bool false)) w:=by
 rw [mO ht hx hy,bne,h,beq_self_eq_true];rfl
end bools
theorem fC {t e:TypeId}{x i:Operand}{ad:Addr}{n c sz k:Nat}{kk:IntKind}{m:Int} (ht:P.underlying t=some (.slice e)) (hsz:(P.info? e).map (·.size)=some sz) (hx:ev ρ x=.slice (some ad) n c) (hi:ev ρ i=.int kk m)
  (hm:m=(k:Int)) (h1:k<n):(execOp (ev ρ) ⟨d,.indexAddr t x i,ty,pos,af,g⟩).run P w=.ok (.value (.pointer (some (ad.add (k*sz))))) w:=by
 rw [ck ht hsz hx hi ZB ZB,hm];rfl
theorem Gn {t e:TypeId}{x i:Operand}{b o n c sz k:Nat}{kk:IntKind}{m:Int} (ht:P.underlying t=some (.slice e)) (hsz:(P.info? e).map (·.size)=some sz) (hx:ev ρ x=.slice (some ⟨b,o,none⟩) n c) (hi:ev ρ i=.int kk m)
  (hm:m=(k:Int)) (h1:k<n):(execOp (ev ρ) ⟨d,.indexAddr t x i,ty,pos,af,g⟩).run P w=.ok (.value (.pointer (some ⟨b,o+k*sz,none⟩))) w:=by
 rw [ck ht hsz hx hi ZB ZB,hm,eI];rfl
theorem E4 {t e:TypeId}{x i:Operand}{ad:Addr}{n sz k:Nat}{kk:IntKind}{m:Int} (ht:P.underlying t=some (.array n e)) (hsz:(P.info? e).map (·.size)=some sz) (hx:ev ρ x=.pointer (some ad)) (hi:ev ρ i=.int kk m)
  (hm:m=(k:Int)) (h1:k<n):(execOp (ev ρ) ⟨d,.indexAddr t x i,ty,pos,af,g⟩).run P w=.ok (.value (.pointer (some (ad.add (k*sz))))) w:=by
 obtain ⟨i,hi1,hi2⟩:=abA.1 hsz;have h2:(k:Int)<n:=ZB;subst hm;simp [execOp,hx,hi,Instr.indexAt,asIntOf,run_underlying ht,sizeOf,typeInfo,hi1,hi2,Instr.sureAddr,h1]
theorem Cm {t e:TypeId}{x hi:Operand}{A:Option Addr}{n c h sz:Nat}{k:IntKind}{m:Int} (ht:P.underlying t=some (.slice e)) (hsz:(P.info? e).map (·.size)=some sz) (hx:ev ρ x=.slice A n c) (hhi:ev ρ hi=.int k m)
  (hm:m=(h:Int)) (h2:h≤c):(execOp (ev ρ) ⟨d,.slice t x none (some hi) none,ty,pos,af,g⟩).run P w=.ok (.value (.slice A h c)) w:=by
 rw [je (lo:=none) (hi:=some hi) (l:=0) (h:=h) ht hsz hx rfl ⟨k,m,hhi,hm⟩ (ZK _) h2];congr 3
 cases A with
 |none=>simp
 |some ad=>simp [Addr.add]
theorem Gc {t e:TypeId}{x lo:Operand}{b o n c l sz:Nat}{k:IntKind}{m:Int} (ht:P.underlying t=some (.slice e)) (hsz:(P.info? e).map (·.size)=some sz) (hx:ev ρ x=.slice (some ⟨b,o,none⟩) n c) (hlo:ev ρ lo=.int k m)
  (hm:m=(l:Int)) (h1:l≤n) (h2:n≤c) (h3:l<c):(execOp (ev ρ) ⟨d,.slice t x (some lo) none none,ty,pos,af,g⟩).run P w=.ok (.value (.slice (some ⟨b,o+l*sz,none⟩) (n-l) (c-l))) w:=by
 rw [je (lo:=some lo) (hi:=none) (l:=l) (h:=n) ht hsz hx ⟨k,m,hlo,hm⟩ rfl h1 h2,ZG ZB];simp only [abu,eI]
theorem Ci {t e:TypeId}{x lo:Operand}{ad:Addr}{n c l sz:Nat}{k:IntKind}{m:Int} (ht:P.underlying t=some (.slice e)) (hsz:(P.info? e).map (·.size)=some sz) (hx:ev ρ x=.slice (some ad) n c) (hlo:ev ρ lo=.int k m)
  (hm:m=(l:Int)) (h1:l≤n) (h2:n≤c) (h3:l<c):(execOp (ev ρ) ⟨d,.slice t x (some lo) none none,ty,pos,af,g⟩).run P w=.ok (.value (.slice (some (ad.add (l*sz))) (n-l) (c-l))) w:=by
 rw [je (lo:=some lo) (hi:=none) (l:=l) (h:=n) ht hsz hx ⟨k,m,hlo,hm⟩ rfl h1 h2,ZG ZB]
 rfl
end
theorem Rd.mX {w:World}{ad:Addr}{xs:List Value}{k:Nat}{v:Value} (h:Rd w ad xs) (hx:xs[k]?=some v):w.cell? (ad.add (k*1))=some v:=by
 rw [Z8];exact h k v hx
def cn (l:List Nat):List Value:=l.map fun (d:Nat)=>.int .u64 (d:Int)
theorem aY (l:List Nat):(cn l).length=l.length:=by simp [cn]
theorem eo {l:List Nat}{k d:Nat} (h:l[k]?=some d):(cn l)[k]?=some (.int .u64 (d:Int)):=by simp [cn,h]
theorem gL (l:List Nat) (k d:Nat):(cn l).set k (.int .u64 (d:Int))=cn (l.set k d):=by simp [cn,abr]
theorem CG (a b:List Nat):cn (a++b)=cn a++cn b:=by simp [cn]
theorem yH (a:List Nat) (k:Nat):cn (a.take k)=(cn a).take k:=by simp [cn,List.map_take]
theorem zR (a:List Nat) (k:Nat):cn (a.drop k)=(cn a).drop k:=by simp [cn,acs]
theorem cL (l:List Nat):((cn l).all Value.oneCell')=true:=by simp [cn,Value.oneCell']
theorem lh (n:Nat):hZ n [Value.int .u64 0]=cn (List.replicate n 0):=by rw [qP];simp [cn]
def iK (l:List Nat):List Value:=l.map fun (d:Nat)=>.int .u8 (d:Int)
theorem da (l:List Nat):(iK l).length=l.length:=by simp [iK]
theorem sQ {l:List Nat}{k d:Nat} (h:l[k]?=some d):(iK l)[k]?=some (.int .u8 (d:Int)):=by simp [iK,h]
theorem ri (l:List Nat) (k d:Nat):(iK l).set k (.int .u8 (d:Int))=iK (l.set k d):=by simp [iK,abr]
theorem wZ (a b:List Nat):iK (a++b)=iK a++iK b:=by simp [iK]
theorem Ej (a:List Nat) (k:Nat):iK (a.take k)=(iK a).take k:=by simp [iK,List.map_take]
theorem dw (l:List Nat):((iK l).all Value.oneCell')=true:=by simp [iK,Value.oneCell']
theorem rT (n:Nat):hZ n [Value.int .u8 0]=iK (List.replicate n 0):=by rw [qP];simp [iK]
theorem Ku {l:List Nat} (h:∀d∈l,d<256):iK l=jQ (l.map UInt8.ofNat):=by
 rw [iK,jQ,aaB];apply abj;intro d hd;have:=h d hd;simp only [Function.comp,acP];congr 2;omega
theorem Sl.AN {w:World}{ad:Addr}{n:Nat}{ys:List Nat}{k d:Nat} (h:Sl w (some ad) n 1 (cn ys)) (hd:ys[k]?=some d):w.cell? (ad.add (k*1))=some (.int .u64 (d:Int)):=by
 have hl:=h.1;have hk:=(ZV.1 hd).1;rw [aY] at hl;obtain ⟨ad',he,hr⟩:=h.2 ZB;injection he with he
 subst he;exact hr.mX (eo hd)
theorem AJ {pre done r post:List Nat}{x:Nat}:(pre++(done++x::r)++post)[pre.length+done.length]?=some x:=by
 rw [aam,aa0 ZB,aam,aa0 ZB];simp
theorem pj {pre done r post:List Nat}{x y:Nat}:(pre++(done++x::r)++post).set (pre.length+done.length) y=pre++((done++[y])++r)++post:=by
 rw [aam,abP _ _ ZB,aam,abP _ _ ZB];simp
theorem cw {cs:List Value}{o:Nat}{v:Value} (h:o<cs.length):bO cs o [v]=cs.set o v:=by
 unfold bO;rw [ac3,ZH h];simp
theorem Hp.front {w0 w:World}{H:List HE}{x:HE} (h:Hp w0 H w) (i:Nat) (hi:H[i]?=some x):Hp w0 (x::H.eraseIdx i) w:=by
 have hp:H.Perm (x::H.eraseIdx i):=by
  clear h
  induction H generalizing i with
  |nil=>simp at hi
  |cons y H ih=>
   cases i with
   |zero=>simp at hi;subst hi;simp
   |succ i=>
    simp only [acB] at hi;simp only [List.eraseIdx_cons_succ];exact ((ih i hi).cons y).trans (List.Perm.swap x y _)
 exact ⟨h.below,fun y hy=>h.own y (hp.mem_iff.2 hy),(hp.filterMap _).nodup_iff.1 h.nd⟩
theorem Hp.Bv {w0 w:World}{H:List HE}{A:Option Addr}{n c:Nat}{t:TypeId}{sz:Nat}{xs:List Value} (h:Hp w0 (.row A n c t sz xs::H) w) {k:Nat} (hk:k≤n):Hp w0 (.row A k c t sz (xs.take (k*sz))::H) w:=by
 refine ⟨h.below,fun y hy=> ?_,h.nd⟩
 rcases ZZ.1 hy with rfl|hy
 ·have h1:w.ownsRow w0.heap.size t sz (.slice A n c) n xs:=h.own _ ZQ;obtain ⟨h2,h3⟩:=h1;have hkn:k*sz≤n*sz:=aaV _ hk;refine ⟨by rw [Z1];omega, ?_⟩
  rcases h3 with ⟨h3,h4⟩|⟨g,cap,cur,hv,hb,hg,h4,h5,h6,h7⟩
  ·injection h3 with h5 h6 h7
   subst h5 h6 h7;exact .inl ⟨by rw [show k=0 by omega],ZB⟩
  ·injection hv with h8 h9 h10
   subst h8;refine .inr ⟨g,cap,cur,by rw [h10],hb,hg,ZB,h5,h6, ?_⟩;rw [←h7,List.take_take,aaT hkn]
 ·exact h.own y (Z0 _ hy)
theorem Hp.fG {w0 w:World}{H:List HE}{A:Option Addr}{n c:Nat}{t:TypeId}{sz:Nat}{xs:List Value}{i:Nat} (h:Hp w0 H w) (hi:H[i]?=some (.row A n c t sz xs)):n≤c:=by
 have h1:w.ownsRow w0.heap.size t sz (.slice A n c) n xs:=h.at_ hi
 rcases h1.2 with ⟨h3,h4⟩|⟨g,cap,cur,hv,hb,hg,h4,h5,h6,h7⟩
 ·omega
 ·injection hv with h8 h9 h10
  omega
section
variable {ro:Mode}
section
variable {P:Program}{N:Nat}{ops:Array Oper}{Q:Kq}{ρ:Rf}{w w0:World}{rest:List Oper}{H:List HE}{d:Nat}{ty:TypeId}{pos:String}{af:Array Edge}
theorem nh {x:Operand}{v:Value} (hx:ev ρ x=v) (hN:d<N) (kk:WL ro P N ops Q rest (cm ρ d v) w):
  WL ro P N ops Q (⟨some d,.move x,ty,pos,af,none⟩::rest) ρ w:=aR rfl rfl hN (fZ hx) kk
theorem jI {x:Operand}{v:Value} (hx:ev ρ x=v) (hN:d<N) (kk:WL ro P N ops Q rest (cm ρ d v) w):
  WL ro P N ops Q (⟨some d,.assign x,ty,pos,af,none⟩::rest) ρ w:=aR rfl rfl hN (BV hx) kk
theorem Og {c a b:Operand}{v:Value} (hc:ev ρ c=.bool true) (hx:ev ρ a=v) (hN:d<N) (kk:WL ro P N ops Q rest (cm ρ d v) w):
  WL ro P N ops Q (⟨some d,.pick c a b,ty,pos,af,none⟩::rest) ρ w:=aR rfl rfl hN (Cq hc hx) kk
theorem N4 {c a b:Operand}{v:Value} (hc:ev ρ c=.bool false) (hx:ev ρ b=v) (hN:d<N) (kk:WL ro P N ops Q rest (cm ρ d v) w):
  WL ro P N ops Q (⟨some d,.pick c a b,ty,pos,af,none⟩::rest) ρ w:=aR rfl rfl hN (Dz hc hx) kk
section
variable {t u:TypeId}{x y:Operand}{k:IntKind}{a b:Int}
theorem M7 {k':IntKind} (hx:ev ρ x=.int k a) (hy:ev ρ y=.int k' b) (hb:0≤b) (hN:d<N) (kk:WL ro P N ops Q rest (cm ρ d (.int k (k.wrap (a*2^(min b.toNat k.bits))))) w):
  WL ro P N ops Q (⟨some d,.binOp .shl t x y u,ty,pos,af,none⟩::rest) ρ w:=aR rfl rfl hN (Sc hx hy hb) kk
theorem SN {k':IntKind} (hx:ev ρ x=.int k a) (hy:ev ρ y=.int k' b) (hb:0≤b) (hN:d<N) (kk:WL ro P N ops Q rest (cm ρ d (.int k (a.fdiv (2^(min b.toNat k.bits))))) w):
  WL ro P N ops Q (⟨some d,.binOp .shr t x y u,ty,pos,af,none⟩::rest) ρ w:=aR rfl rfl hN (S3 hx hy hb) kk
theorem Ib (hx:ev ρ x=.int k a) (hy:ev ρ y=.int k b) (hN:d<N) (kk:WL ro P N ops Q rest (cm ρ d (.bool (decide (a=b)))) w):
  WL ro P N ops Q (⟨some d,.binOp .eql t x y u,ty,pos,af,none⟩::rest) ρ w:=aR rfl rfl hN (HH hx hy) kk
theorem Ux (hx:ev ρ x=.int .i64 a) (hy:ev ρ y=.int .i64 b) (h1: -9223372036854775808≤a+b) (h2:a+b≤9223372036854775807) (hN:d<N) (kk:WL ro P N ops Q rest (cm ρ d (.int .i64 (a+b))) w):
  WL ro P N ops Q (⟨some d,.binOp .add t x y u,ty,pos,af,none⟩::rest) ρ w:=aR rfl rfl hN (OB hx hy h1 h2) kk
theorem TY (hx:ev ρ x=.int .i64 a) (hy:ev ρ y=.int .i64 b) (h1: -9223372036854775808≤a-b) (h2:a-b≤9223372036854775807) (hN:d<N) (kk:WL ro P N ops Q rest (cm ρ d (.int .i64 (a-b))) w):
  WL ro P N ops Q (⟨some d,.binOp .sub t x y u,ty,pos,af,none⟩::rest) ρ w:=aR rfl rfl hN (M8 hx hy h1 h2) kk
theorem Uo (hx:ev ρ x=.int .i64 a) (hy:ev ρ y=.int .i64 b) (h1: -9223372036854775808≤a*b) (h2:a*b≤9223372036854775807) (hN:d<N) (kk:WL ro P N ops Q rest (cm ρ d (.int .i64 (a*b))) w):
  WL ro P N ops Q (⟨some d,.binOp .mul t x y u,ty,pos,af,none⟩::rest) ρ w:=aR rfl rfl hN (MS hx hy h1 h2) kk
theorem KY (hx:ev ρ x=.int .i64 a) (h1: -9223372036854775808≤ -a) (h2: -a≤9223372036854775807) (hN:d<N) (kk:WL ro P N ops Q rest (cm ρ d (.int .i64 (-a))) w):
  WL ro P N ops Q (⟨some d,.unOp .neg t x,ty,pos,af,none⟩::rest) ρ w:=aR rfl rfl hN (wC hx h1 h2) kk
theorem EG (hx:ev ρ x=.int .i64 a) (hy:ev ρ y=.int .i64 b) (ha:0≤a) (hb:0<b) (h2:a≤9223372036854775807) (hN:d<N) (kk:WL ro P N ops Q rest (cm ρ d (.int .i64 (a/b))) w):
  WL ro P N ops Q (⟨some d,.binOp .quo t x y u,ty,pos,af,none⟩::rest) ρ w:=aR rfl rfl hN (u4 hx hy ha hb h2) kk
theorem OU (hx:ev ρ x=.int .i64 a) (hy:ev ρ y=.int .i64 b) (ha:0≤a) (hb:0<b) (hN:d<N) (kk:WL ro P N ops Q rest (cm ρ d (.int .i64 (a % b))) w):
  WL ro P N ops Q (⟨some d,.binOp .rem t x y u,ty,pos,af,none⟩::rest) ρ w:=aR rfl rfl hN (qi hx hy ha hb) kk
end
theorem W4 {t:TypeId}{x:Operand}{b:Bool} (hx:ev ρ x=.bool b) (hN:d<N) (kk:WL ro P N ops Q rest (cm ρ d (.bool !b)) w):
  WL ro P N ops Q (⟨some d,.unOp .not t x,ty,pos,af,none⟩::rest) ρ w:=aR rfl rfl hN (SO hx) kk
section
variable {t u:TypeId}{x y:Operand}{a b:Bool}
theorem qG (ht:P.underlying t=some .bool) (hx:ev ρ x=.bool a) (hy:ev ρ y=.bool b) (hN:d<N) (kk:WL ro P N ops Q rest (cm ρ d (.bool (a !=b))) w):
  WL ro P N ops Q (⟨some d,.binOp .neq t x y u,ty,pos,af,none⟩::rest) ρ w:=aR rfl rfl hN (mO ht hx hy) kk
end
section
variable {t u:TypeId}{x y:Operand}{a b:ByteArray}
theorem jm (hx:ev ρ x=.string a) (hy:ev ρ y=.string b) (h:a=b) (hN:d<N) (kk:WL ro P N ops Q rest (cm ρ d (.bool true)) w):
  WL ro P N ops Q (⟨some d,.binOp .eql t x y u,ty,pos,af,none⟩::rest) ρ w:=aR rfl rfl hN (Du hx hy h) kk
theorem ji (hx:ev ρ x=.string a) (hy:ev ρ y=.string b) (h:¬a=b) (hN:d<N) (kk:WL ro P N ops Q rest (cm ρ d (.bool false)) w):
  WL ro P N ops Q (⟨some d,.binOp .eql t x y u,ty,pos,af,none⟩::rest) ρ w:=aR rfl rfl hN (B9 hx hy h) kk
theorem jj (hx:ev ρ x=.string a) (hy:ev ρ y=.string b) (h:¬a=b) (hN:d<N) (kk:WL ro P N ops Q rest (cm ρ d (.bool true)) w):
  WL ro P N ops Q (⟨some d,.binOp .neq t x y u,ty,pos,af,none⟩::rest) ρ w:=aR rfl rfl hN (Cg hx hy h) kk
theorem jv (hx:ev ρ x=.string a) (hy:ev ρ y=.string b) (h:a=b) (hN:d<N) (kk:WL ro P N ops Q rest (cm ρ d (.bool false)) w):
  WL ro P N ops Q (⟨some d,.binOp .neq t x y u,ty,pos,af,none⟩::rest) ρ w:=aR rfl rfl hN (Em hx hy h) kk
theorem tq (hx:ev ρ x=.string a) (hy:ev ρ y=.string b) (hN:d<N) (kk:WL ro P N ops Q rest (cm ρ d (.bool (Op.bytesLess a.toList b.toList))) w):
  WL ro P N ops Q (⟨some d,.binOp .lss t x y u,ty,pos,af,none⟩::rest) ρ w:=aR rfl rfl hN (Jz hx hy) kk
theorem KE (hx:ev ρ x=.string a) (hy:ev ρ y=.string b) (hN:d<N) (kk:WL ro P N ops Q rest (cm ρ d (.bool !(Op.bytesLess a.toList b.toList||a.toList==b.toList))) w):
  WL ro P N ops Q (⟨some d,.binOp .gtr t x y u,ty,pos,af,none⟩::rest) ρ w:=aR rfl rfl hN (JR hx hy) kk
theorem yD (hx:ev ρ x=.string a) (hy:ev ρ y=.string b) (hN:d<N) (kk:WL ro P N ops Q rest (cm ρ d (.bool !(Op.bytesLess a.toList b.toList))) w):
  WL ro P N ops Q (⟨some d,.binOp .geq t x y u,ty,pos,af,none⟩::rest) ρ w:=aR rfl rfl hN (JH hx hy) kk
end
theorem EM {s t:TypeId}{x:Operand}{k k':IntKind}{a:Int}{sd:TypeDesc} (hs:P.underlying s=some sd) (ht:P.underlying t=some (.int k)) (hx:ev ρ x=.int k' a) (hN:d<N) (kk:WL ro P N ops Q rest (cm ρ d (.int k (k.wrap a))) w):
  WL ro P N ops Q (⟨some d,.convert s t x,ty,pos,af,none⟩::rest) ρ w:=aR rfl rfl hN (kX hs ht hx) kk
theorem vw {s t:TypeId}{x:Operand}{k':IntKind}{a:Int}{sd:TypeDesc} (hs:P.underlying s=some sd) (ht:P.underlying t=some (.int .i64)) (hx:ev ρ x=.int k' a) (h1: -9223372036854775808≤a) (h2:a≤9223372036854775807) (hN:d<N) (kk:WL ro P N ops Q rest (cm ρ d (.int .i64 a)) w):
  WL ro P N ops Q (⟨some d,.convert s t x,ty,pos,af,none⟩::rest) ρ w:=aR rfl rfl hN (qk hs ht hx h1 h2) kk
theorem Jn {x:Operand}{i:Nat}{vs:List Value}{v:Value} (hx:ev ρ x=.tuple vs.toArray) (hv:vs[i]?=some v) (hN:d<N) (kk:WL ro P N ops Q rest (cm ρ d v) w):
  WL ro P N ops Q (⟨some d,.extract x i,ty,pos,af,none⟩::rest) ρ w:=aR rfl rfl hN (ej hx hv) kk
theorem xJ {fn:Fn}{first captured:Array Operand}{fs cs:List Value} (hf:y4 ρ first.toList=fs) (hc:y4 ρ captured.toList=cs) (hN:d<N) (kk:WL ro P N ops Q rest (cm ρ d (.func fn fs.toArray cs.toArray)) w):
  WL ro P N ops Q (⟨some d,.makeFunc fn first captured,ty,pos,af,none⟩::rest) ρ w:=aR rfl rfl hN (qd hf hc) kk
theorem sZ {x:Operand}{t:TypeId}{s:ByteArray} (ht:P.underlying t=some .string) (hx:ev ρ x=.string s) (hN:d<N) (kk:WL ro P N ops Q rest (cm ρ d (.int .i64 s.size)) w):
  WL ro P N ops Q (⟨some d,.call ⟨.builtin .len, #[x], #[t]⟩,ty,pos,af,none⟩::rest) ρ w:=aR rfl rfl hN (Jb ht hx) kk
theorem LS {x:Operand}{t e:TypeId}{A:Option Addr}{n c:Nat} (ht:P.underlying t=some (.slice e)) (hx:ev ρ x=.slice A n c) (hN:d<N) (kk:WL ro P N ops Q rest (cm ρ d (.int .i64 n)) w):
  WL ro P N ops Q (⟨some d,.call ⟨.builtin .len, #[x], #[t]⟩,ty,pos,af,none⟩::rest) ρ w:=aR rfl rfl hN (BO ht hx) kk
theorem WS {x y:Operand}{ts:Array TypeId}{k:IntKind}{a b:Int} (hx:ev ρ x=.int k a) (hy:ev ρ y=.int k b) (hN:d<N) (kk:WL ro P N ops Q rest (cm ρ d (.int k (if b<a then b else a))) w):
  WL ro P N ops Q (⟨some d,.call ⟨.builtin .min, #[x,y],ts⟩,ty,pos,af,none⟩::rest) ρ w:=aR rfl rfl hN (R8 hx hy) kk
theorem Wx {x y:Operand}{ts:Array TypeId}{k:IntKind}{a b:Int} (hx:ev ρ x=.int k a) (hy:ev ρ y=.int k b) (hN:d<N) (kk:WL ro P N ops Q rest (cm ρ d (.int k (if b>a then b else a))) w):
  WL ro P N ops Q (⟨some d,.call ⟨.builtin .max, #[x,y],ts⟩,ty,pos,af,none⟩::rest) ρ w:=aR rfl rfl hN (Ly hx hy) kk
theorem tB {t:TypeId}{x i:Operand}{s:ByteArray}{n:Int}{k:IntKind}{c:UInt8} (ht:P.underlying t=some .string) (hx:ev ρ x=.string s) (hi:ev ρ i=.int k n)
  (h0:0≤n) (hc:s.data.toList[n.toNat]?=some c) (hN:d<N) (kk:WL ro P N ops Q rest (cm ρ d (.int .u8 c.toNat)) w):
  WL ro P N ops Q (⟨some d,.index t x i,ty,pos,af,none⟩::rest) ρ w:=aR rfl rfl hN (ow ht hx hi h0 hc) kk
theorem tE {t:TypeId}{x:Operand}{lo hi:Option Operand}{s:ByteArray}{l h:Nat} (ht:P.underlying t=some .string) (hx:ev ρ x=.string s)
  (hlo:match lo with|none=>l=0|some o=>∃(k:IntKind) (n:Int),ev ρ o=.int k n∧n=l) (hhi:match hi with|none=>h=s.size|some o=>∃(k:IntKind) (n:Int),ev ρ o=.int k n∧n=h)
  (h1:l≤h) (h2:h≤s.size) (hN:d<N) (kk:WL ro P N ops Q rest (cm ρ d (.string (s.extract l h))) w):
  WL ro P N ops Q (⟨some d,.slice t x lo hi none,ty,pos,af,none⟩::rest) ρ w:=aR rfl rfl hN (CR ht hx hlo hhi h1 h2) kk
theorem Cv {t e:TypeId}{x i:Operand}{ad:Addr}{n c sz:Nat}{k:IntKind}{m:Int} (ht:P.underlying t=some (.slice e)) (hsz:(P.info? e).map (·.size)=some sz) (hx:ev ρ x=.slice (some ad) n c) (hi:ev ρ i=.int k m)
  (h0:0≤m) (h1:m<n) (hN:d<N) (kk:WL ro P N ops Q rest (cm ρ d (.pointer (some (ad.add (m.toNat*sz))))) w):
  WL ro P N ops Q (⟨some d,.indexAddr t x i,ty,pos,af,none⟩::rest) ρ w:=aR rfl rfl hN (ck ht hsz hx hi h0 h1) kk
theorem dN {t e:TypeId}{x i:Operand}{b n c sz k:Nat}{kk:IntKind}{m:Int} (ht:P.underlying t=some (.slice e)) (hsz:(P.info? e).map (·.size)=some sz) (hx:ev ρ x=.slice (some ⟨b,0,none⟩) n c) (hi:ev ρ i=.int kk m)
  (hm:m=(k:Int)) (h1:k<n) (hN:d<N) (kk:WL ro P N ops Q rest (cm ρ d (.pointer (some ⟨b,k*sz,none⟩))) w):
  WL ro P N ops Q (⟨some d,.indexAddr t x i,ty,pos,af,none⟩::rest) ρ w:=aR rfl rfl hN (qE ht hsz hx hi hm h1) kk
theorem bk {t:TypeId}{x:Operand}{ad:Addr}{n by':Nat}{zc vs:List Value} (ht:dv P t=some (n,true,by',zc)) (hx:ev ρ x=.pointer (some ad)) (hr:Rd w ad vs) (hl:vs.length=n) (hN:d<N) (kk:WL ro P N ops Q rest (cm ρ d (.agg vs.toArray)) w):
  WL ro P N ops Q (⟨some d,.load t x,ty,pos,af,none⟩::rest) ρ w:=aR rfl rfl hN (Gv ht hx hr hl) kk
theorem bF {t:TypeId}{x:Operand}{ad:Addr}{n by':Nat}{zc:List Value}{v:Value} (ht:dv P t=some (n,false,by',zc)) (hx:ev ρ x=.pointer (some ad)) (hc:w.cell? ad=some v) (hN:d<N) (kk:WL ro P N ops Q rest (cm ρ d v) w):
  WL ro P N ops Q (⟨some d,.load t x,ty,pos,af,none⟩::rest) ρ w:=aR rfl rfl hN (eB ht hx hc) kk
theorem CF {s:TypeId}{x:Operand}{f b o off:Nat}{ft:TypeId} (hf:iP P s f=some (off,ft)) (hx:ev ρ x=.pointer (some ⟨b,o,none⟩)) (hN:d<N) (kk:WL ro P N ops Q rest (cm ρ d (.pointer (some ⟨b,o+off,none⟩))) w):
  WL ro P N ops Q (⟨some d,.fieldAddr s x f,ty,pos,af,none⟩::rest) ρ w:=aR rfl rfl hN (ud hf hx) kk
theorem mJ {s:TypeId}{x:Operand}{f off:Nat}{ad:Addr}{ft:TypeId} (hf:iP P s f=some (off,ft)) (hx:ev ρ x=.pointer (some ad)) (hN:d<N) (kk:WL ro P N ops Q rest (cm ρ d (.pointer (some (ad.add off)))) w):
  WL ro P N ops Q (⟨some d,.fieldAddr s x f,ty,pos,af,none⟩::rest) ρ w:=aR rfl rfl hN (sk hf hx) kk
theorem QM {s:TypeId}{x:Operand}{f off n by':Nat}{ft:TypeId}{cs vs:Array Value}{zc:List Value} (hf:iP P s f=some (off,ft)) (ht:dv P ft=some (n,true,by',zc)) (hx:ev ρ x=.agg cs) (hv:cs.extract off (off+n)=vs) (hN:d<N) (kk:WL ro P N ops Q rest (cm ρ d (.agg vs)) w):
  WL ro P N ops Q (⟨some d,.field s x f,ty,pos,af,none⟩::rest) ρ w:=aR rfl rfl hN (Qf hf ht hx hv) kk
theorem Qk {t:TypeId}{n by':Nat}{parts:Array (Nat×Operand)}{ps:List (Nat×Value)}{zc cs:List Value}{pl:List (Nat×Nat)} (hte:dv P t=some (n,true,by',zc))
  (hpl:si P t=some pl)
  (hp:Dt ρ parts.toList=ps) (hf:mm (pl[·]?) zc ps=some cs) (hN:d<N) (kk:WL ro P N ops Q rest (cm ρ d (.agg cs.toArray)) w):
  WL ro P N ops Q (⟨some d,.build t parts,ty,pos,af,none⟩::rest) ρ w:=aR rfl rfl hN (mW hte hpl hp hf) kk
theorem uk {s t e:TypeId}{x:Operand}{A:Option Addr}{n c:Nat}{l:List UInt8} (hs:P.underlying s=some (.slice e)) (he:P.underlying e=some (.int .u8)) (ht:P.underlying t=some .string)
  (hx:ev ρ x=.slice A n c) (h:Sl w A n 1 (jQ l)) (hN:d<N) (kk:WL ro P N ops Q rest (cm ρ d (.string ⟨l.toArray⟩)) w):
  WL ro P N ops Q (⟨some d,.convert s t x,ty,pos,af,none⟩::rest) ρ w:=aR rfl rfl hN (ij hs he ht hx h) kk
section
variable {t u:TypeId}{x y:Operand}{k:IntKind}{q M:Nat}{a b:Nat}
theorem fO [UK k q M] (hx:ev ρ x=.int k (a:Int)) (hy:ev ρ y=.int k (b:Int)) (hN:d<N) (kk:WL ro P N ops Q rest (cm ρ d (.int k (((a+b) % M:Nat):Int))) w):
  WL ro P N ops Q (⟨some d,.binOp .add t x y u,ty,pos,af,none⟩::rest) ρ w:=aR rfl rfl hN (UM hx hy) kk
theorem qu [UK k q M] (hx:ev ρ x=.int k (a:Int)) (hy:ev ρ y=.int k (b:Int)) (hb:b≤M) (hN:d<N) (kk:WL ro P N ops Q rest (cm ρ d (.int k (((a+M-b) % M:Nat):Int))) w):
  WL ro P N ops Q (⟨some d,.binOp .sub t x y u,ty,pos,af,none⟩::rest) ρ w:=aR rfl rfl hN (T7 hx hy hb) kk
theorem gD [UK k q M] (hx:ev ρ x=.int k (a:Int)) (hy:ev ρ y=.int k (b:Int)) (hN:d<N) (kk:WL ro P N ops Q rest (cm ρ d (.int k (((a*b) % M:Nat):Int))) w):
  WL ro P N ops Q (⟨some d,.binOp .mul t x y u,ty,pos,af,none⟩::rest) ρ w:=aR rfl rfl hN (Un hx hy) kk
theorem EO [UK k q M] (hx:ev ρ x=.int k (a:Int)) (hy:ev ρ y=.int k (b:Int)) (hb:0<b) (ha:a<M) (hN:d<N) (kk:WL ro P N ops Q rest (cm ρ d (.int k ((a/b:Nat):Int))) w):
  WL ro P N ops Q (⟨some d,.binOp .quo t x y u,ty,pos,af,none⟩::rest) ρ w:=aR rfl rfl hN (MX hx hy hb ha) kk
theorem EE (hx:ev ρ x=.int k (a:Int)) (hy:ev ρ y=.int k (b:Int)) (hb:0<b) (hN:d<N) (kk:WL ro P N ops Q rest (cm ρ d (.int k ((a % b:Nat):Int))) w):
  WL ro P N ops Q (⟨some d,.binOp .rem t x y u,ty,pos,af,none⟩::rest) ρ w:=aR rfl rfl hN (NQ hx hy hb) kk
theorem VC [h:UK k q M] (hx:ev ρ x=.int k (a:Int)) (hy:ev ρ y=.int k (b:Int)) (ha:a<M) (hb:b<M) (hN:d<N) (kk:WL ro P N ops Q rest (cm ρ d (.int k ((a|||b:Nat):Int))) w):
  WL ro P N ops Q (⟨some d,.binOp .or t x y u,ty,pos,af,none⟩::rest) ρ w:=aR rfl rfl hN (Xk hx hy ha hb) kk
theorem Fq [h:UK k q M] (hx:ev ρ x=.int k (a:Int)) (hy:ev ρ y=.int k (b:Int)) (ha:a<M) (hb:b<M) (hN:d<N) (kk:WL ro P N ops Q rest (cm ρ d (.int k ((a &&& b:Nat):Int))) w):
  WL ro P N ops Q (⟨some d,.binOp .and t x y u,ty,pos,af,none⟩::rest) ρ w:=aR rfl rfl hN (Ui hx hy ha hb) kk
theorem Gq [h:UK k q M] {k':IntKind}{s:Int} (hx:ev ρ x=.int k (a:Int)) (hy:ev ρ y=.int k' s) (hs:0≤s∧s≤q) (hN:d<N) (kk:WL ro P N ops Q rest (cm ρ d (.int k (((a*2^s.toNat) % M:Nat):Int))) w):
  WL ro P N ops Q (⟨some d,.binOp .shl t x y u,ty,pos,af,none⟩::rest) ρ w:=aR rfl rfl hN (xo hx hy hs) kk
theorem vd [h:UK k q M] {k':IntKind}{s:Int} (hx:ev ρ x=.int k (a:Int)) (hy:ev ρ y=.int k' s) (hs:0≤s∧s≤q) (hN:d<N) (kk:WL ro P N ops Q rest (cm ρ d (.int k ((a/2^s.toNat:Nat):Int))) w):
  WL ro P N ops Q (⟨some d,.binOp .shr t x y u,ty,pos,af,none⟩::rest) ρ w:=aR rfl rfl hN (Gl hx hy hs) kk
theorem np [UK k q M] {k':IntKind}{s m:Nat} (hx:ev ρ x=.int k (a:Int)) (hy:ev ρ y=.int k' (s:Int)) (hs:s≤q) (hm:2^s=m) (hN:d<N) (kk:WL ro P N ops Q rest (cm ρ d (.int k ((a/m:Nat):Int))) w):
  WL ro P N ops Q (⟨some d,.binOp .shr t x y u,ty,pos,af,none⟩::rest) ρ w:=aR rfl rfl hN (QX hx hy hs hm) kk
theorem Lw [h:UK k q M] (hx:ev ρ x=.int k (a:Int)) (ha:a≤M) (hN:d<N) (kk:WL ro P N ops Q rest (cm ρ d (.int k (((M-a) % M:Nat):Int))) w):
  WL ro P N ops Q (⟨some d,.unOp .neg t x,ty,pos,af,none⟩::rest) ρ w:=aR rfl rfl hN (T5 hx ha) kk
theorem Rr [UK k q M] {s t:TypeId}{k':IntKind}{sd:TypeDesc} (hs:P.underlying s=some sd) (ht:P.underlying t=some (.int k)) (hx:ev ρ x=.int k' (a:Int)) (hN:d<N) (kk:WL ro P N ops Q rest (cm ρ d (.int k ((a % M:Nat):Int))) w):
  WL ro P N ops Q (⟨some d,.convert s t x,ty,pos,af,none⟩::rest) ρ w:=aR rfl rfl hN (Qg hs ht hx) kk
theorem Gj [UK k q M] {s t:TypeId}{k':IntKind}{sd:TypeDesc} (hs:P.underlying s=some sd) (ht:P.underlying t=some (.int k)) (hx:ev ρ x=.int k' (a:Int)) (ha:a<M) (hN:d<N) (kk:WL ro P N ops Q rest (cm ρ d (.int k (a:Int))) w):
  WL ro P N ops Q (⟨some d,.convert s t x,ty,pos,af,none⟩::rest) ρ w:=aR rfl rfl hN (wR hs ht hx ha) kk
end
section
variable {t u:TypeId}{x y:Operand}{k:IntKind}{a b:Int}
theorem Qw (hx:ev ρ x=.int k a) (hy:ev ρ y=.int k b) (hN:d<N) (kk:WL ro P N ops Q rest (cm ρ d (.bool (decide (a<b)))) w):
  WL ro P N ops Q (⟨some d,.binOp .lss t x y u,ty,pos,af,none⟩::rest) ρ w:=aR rfl rfl hN (Io hx hy) kk
theorem QQ (hx:ev ρ x=.int k a) (hy:ev ρ y=.int k b) (hN:d<N) (kk:WL ro P N ops Q rest (cm ρ d (.bool (decide (a≤b)))) w):
  WL ro P N ops Q (⟨some d,.binOp .leq t x y u,ty,pos,af,none⟩::rest) ρ w:=aR rfl rfl hN (PY hx hy) kk
theorem Pj (hx:ev ρ x=.int k a) (hy:ev ρ y=.int k b) (hN:d<N) (kk:WL ro P N ops Q rest (cm ρ d (.bool (decide (b<a)))) w):
  WL ro P N ops Q (⟨some d,.binOp .gtr t x y u,ty,pos,af,none⟩::rest) ρ w:=aR rfl rfl hN (HP hx hy) kk
theorem Re (hx:ev ρ x=.int k a) (hy:ev ρ y=.int k b) (hN:d<N) (kk:WL ro P N ops Q rest (cm ρ d (.bool (decide (b≤a)))) w):
  WL ro P N ops Q (⟨some d,.binOp .geq t x y u,ty,pos,af,none⟩::rest) ρ w:=aR rfl rfl hN (PC hx hy) kk
theorem PS (hx:ev ρ x=.int k a) (hy:ev ρ y=.int k b) (hN:d<N) (kk:WL ro P N ops Q rest (cm ρ d (.bool (decide (a≠b)))) w):
  WL ro P N ops Q (⟨some d,.binOp .neq t x y u,ty,pos,af,none⟩::rest) ρ w:=aR rfl rfl hN (PG hx hy) kk
end
section
variable {t u:TypeId}{x y:Operand}{a b:Bool}
theorem Il (ht:P.underlying t=some .bool) (hx:ev ρ x=.bool a) (hy:ev ρ y=.bool b) (h:a=b) (hN:d<N) (kk:WL ro P N ops Q rest (cm ρ d (.bool true)) w):
  WL ro P N ops Q (⟨some d,.binOp .eql t x y u,ty,pos,af,none⟩::rest) ρ w:=aR rfl rfl hN (Qe ht hx hy h) kk
theorem Rq (ht:P.underlying t=some .bool) (hx:ev ρ x=.bool a) (hy:ev ρ y=.bool b) (h:¬a=b) (hN:d<N) (kk:WL ro P N ops Q rest (cm ρ d (.bool false)) w):
  WL ro P N ops Q (⟨some d,.binOp .eql t x y u,ty,pos,af,none⟩::rest) ρ w:=aR rfl rfl hN (QC ht hx hy h) kk
theorem HK (ht:P.underlying t=some .bool) (hx:ev ρ x=.bool a) (hy:ev ρ y=.bool b) (h:¬a=b) (hN:d<N) (kk:WL ro P N ops Q rest (cm ρ d (.bool true)) w):
  WL ro P N ops Q (⟨some d,.binOp .neq t x y u,ty,pos,af,none⟩::rest) ρ w:=aR rfl rfl hN (Qy ht hx hy h) kk
theorem Rb (ht:P.underlying t=some .bool) (hx:ev ρ x=.bool a) (hy:ev ρ y=.bool b) (h:a=b) (hN:d<N) (kk:WL ro P N ops Q rest (cm ρ d (.bool false)) w):
  WL ro P N ops Q (⟨some d,.binOp .neq t x y u,ty,pos,af,none⟩::rest) ρ w:=aR rfl rfl hN (P3 ht hx hy h) kk
end
theorem dt {t e:TypeId}{x i:Operand}{ad:Addr}{n c sz k:Nat}{kk:IntKind}{m:Int} (ht:P.underlying t=some (.slice e)) (hsz:(P.info? e).map (·.size)=some sz) (hx:ev ρ x=.slice (some ad) n c) (hi:ev ρ i=.int kk m)
  (hm:m=(k:Int)) (h1:k<n) (hN:d<N) (kk:WL ro P N ops Q rest (cm ρ d (.pointer (some (ad.add (k*sz))))) w):
  WL ro P N ops Q (⟨some d,.indexAddr t x i,ty,pos,af,none⟩::rest) ρ w:=aR rfl rfl hN (fC ht hsz hx hi hm h1) kk
theorem mQ {t e:TypeId}{x i:Operand}{b o n c sz k:Nat}{kk:IntKind}{m:Int} (ht:P.underlying t=some (.slice e)) (hsz:(P.info? e).map (·.size)=some sz) (hx:ev ρ x=.slice (some ⟨b,o,none⟩) n c) (hi:ev ρ i=.int kk m)
  (hm:m=(k:Int)) (h1:k<n) (hN:d<N) (kk:WL ro P N ops Q rest (cm ρ d (.pointer (some ⟨b,o+k*sz,none⟩))) w):
  WL ro P N ops Q (⟨some d,.indexAddr t x i,ty,pos,af,none⟩::rest) ρ w:=aR rfl rfl hN (Gn ht hsz hx hi hm h1) kk
theorem FM {t e:TypeId}{x i:Operand}{ad:Addr}{n sz k:Nat}{kk:IntKind}{m:Int} (ht:P.underlying t=some (.array n e)) (hsz:(P.info? e).map (·.size)=some sz) (hx:ev ρ x=.pointer (some ad)) (hi:ev ρ i=.int kk m)
  (hm:m=(k:Int)) (h1:k<n) (hN:d<N) (kk:WL ro P N ops Q rest (cm ρ d (.pointer (some (ad.add (k*sz))))) w):
  WL ro P N ops Q (⟨some d,.indexAddr t x i,ty,pos,af,none⟩::rest) ρ w:=aR rfl rfl hN (E4 ht hsz hx hi hm h1) kk
theorem nV {t e:TypeId}{x hi:Operand}{A:Option Addr}{n c h sz:Nat}{k:IntKind}{m:Int} (ht:P.underlying t=some (.slice e)) (hsz:(P.info? e).map (·.size)=some sz) (hx:ev ρ x=.slice A n c) (hhi:ev ρ hi=.int k m)
  (hm:m=(h:Int)) (h2:h≤c) (hN:d<N) (kk:WL ro P N ops Q rest (cm ρ d (.slice A h c)) w):
  WL ro P N ops Q (⟨some d,.slice t x none (some hi) none,ty,pos,af,none⟩::rest) ρ w:=aR rfl rfl hN (Cm ht hsz hx hhi hm h2) kk
theorem F6 {t e:TypeId}{x lo:Operand}{b o n c l sz:Nat}{k:IntKind}{m:Int} (ht:P.underlying t=some (.slice e)) (hsz:(P.info? e).map (·.size)=some sz) (hx:ev ρ x=.slice (some ⟨b,o,none⟩) n c) (hlo:ev ρ lo=.int k m)
  (hm:m=(l:Int)) (h1:l≤n) (h2:n≤c) (h3:l<c) (hN:d<N) (kk:WL ro P N ops Q rest (cm ρ d (.slice (some ⟨b,o+l*sz,none⟩) (n-l) (c-l))) w):
  WL ro P N ops Q (⟨some d,.slice t x (some lo) none none,ty,pos,af,none⟩::rest) ρ w:=aR rfl rfl hN (Gc ht hsz hx hlo hm h1 h2 h3) kk
theorem C6 {t e:TypeId}{x lo:Operand}{ad:Addr}{n c l sz:Nat}{k:IntKind}{m:Int} (ht:P.underlying t=some (.slice e)) (hsz:(P.info? e).map (·.size)=some sz) (hx:ev ρ x=.slice (some ad) n c) (hlo:ev ρ lo=.int k m)
  (hm:m=(l:Int)) (h1:l≤n) (h2:n≤c) (h3:l<c) (hN:d<N) (kk:WL ro P N ops Q rest (cm ρ d (.slice (some (ad.add (l*sz))) (n-l) (c-l))) w):
  WL ro P N ops Q (⟨some d,.slice t x (some lo) none none,ty,pos,af,none⟩::rest) ρ w:=aR rfl rfl hN (Ci ht hsz hx hlo hm h1 h2 h3) kk
theorem bh:y4 ρ []=[]:=rfl
theorem av {x:Operand}{l:List Operand}{v:Value}{r:List Value} (hx:ev ρ x=v) (h:y4 ρ l=r):y4 ρ (x::l)=v::r:=by simp only [y4,hx,h]
theorem dX:Dt ρ []=[]:=rfl
theorem bR {i:Nat}{x:Operand}{l:List (Nat×Operand)}{v:Value}{r:List (Nat×Value)} (hx:ev ρ x=v) (h:Dt ρ l=r):Dt ρ ((i,x)::l)=(i,v)::r:=by simp only [Dt,hx,h]
def Fi (P:Program) (f:FuncId):Bool:=match P.funcs[f]? with|some fn=> !fn.body.isNone && !(fn.name== "runtime.NumGoroutine")|none=>false
theorem y6 {P:Program}{f:FuncId} (h:Fi P f=true):∃fn,P.funcs[f]?=some fn∧fn.body.isNone=false∧(fn.name== "runtime.NumGoroutine")=false:=by
 unfold Fi at h;split at h
 ·rename_i fn hf;simp only [Z7,acJ] at h;exact ⟨fn,hf,h.1,h.2⟩
 ·cases h
theorem a8 {dd:Option Nat}{g:Option (Nat×Bool)}{f:FuncId}{args:Array Operand}{ts:Array TypeId}{vs:List Value} (hf:Fi P f=true) (ha:y4 ρ args.toList=vs):
  (execOp (ev ρ) ⟨dd,.call ⟨.value (.func f),args,ts⟩,ty,pos,af,g⟩).run P w=.ok (.enter f vs.toArray) w:=by
 obtain ⟨fn,h1,h2,h3⟩:=y6 hf;have:=OL (P:=P) (w:=w) (d:=dd) (ty:=ty) (pos:=pos) (af:=af) (g:=g) (ts:=ts) h1 h2 h3 (show ev ρ (.func f)=.func (.func f) #[] #[] from rfl) (pq args ha);simpa using this
theorem JQ {dd:Option Nat}{g:Option (Nat×Bool)}{x:Operand}{f:FuncId}{args:Array Operand}{ts:Array TypeId}{first cap vs:List Value} (hf:Fi P f=true) (hx:ev ρ x=.func (.func f) first.toArray cap.toArray) (ha:first++(y4 ρ args.toList++cap)=vs):
  (execOp (ev ρ) ⟨dd,.call ⟨.value x,args,ts⟩,ty,pos,af,g⟩).run P w=.ok (.enter f vs.toArray) w:=by
 obtain ⟨fn,h1,h2,h3⟩:=y6 hf;have:=OL (P:=P) (w:=w) (d:=dd) (ty:=ty) (pos:=pos) (af:=af) (g:=g) (ts:=ts) h1 h2 h3 hx (pq args rfl);subst ha;simpa using this
theorem aq {f:FuncId}{args:Array Operand}{ts:Array TypeId}{vs:List Value}{R:Ending→World→Prop} (hc:Calls P f vs.toArray w R) (hf:Fi P f=true) (ha:y4 ρ args.toList=vs) (hN:d<N)
  (kk:∀e w',R e w'→∃v,e=.returned v∧WL ro P N ops Q rest (cm ρ d v) w'):WL ro P N ops Q (⟨some d,.call ⟨.value (.func f),args,ts⟩,ty,pos,af,none⟩::rest) ρ w:=
 CS rfl rfl hN (a8 hf ha) hc kk
theorem g6 {x:Operand}{f:FuncId}{args:Array Operand}{ts:Array TypeId}{first cap vs:List Value}{R:Ending→World→Prop} (hc:Calls P f vs.toArray w R) (hf:Fi P f=true) (hx:ev ρ x=.func (.func f) first.toArray cap.toArray) (ha:first++(y4 ρ args.toList++cap)=vs) (hN:d<N)
  (kk:∀e w',R e w'→∃v,e=.returned v∧WL ro P N ops Q rest (cm ρ d v) w'):WL ro P N ops Q (⟨some d,.call ⟨.value x,args,ts⟩,ty,pos,af,none⟩::rest) ρ w:=
 CS rfl rfl hN (JQ hf hx ha) hc kk
end
end
variable {P:Program}{ag:Bool}{b n:Nat}{zc:List Value}
set_option maxRecDepth 100000
class bj (P:Program) (t:TypeId) (d:outParam TypeDesc):Prop where out:P.underlying t=some d:=by kernel_rfl
class aC (P:Program) (t:TypeId) (n:outParam Nat) (ag:outParam Bool) (b:outParam Nat) (zc:outParam (List Value)):Prop where out:dv P t=some (n,ag,b,zc):=by kernel_rfl
class eH (P:Program) (s:TypeId) (f:Nat) (off:outParam Nat) (ft:outParam TypeId):Prop where out:iP P s f=some (off,ft):=by kernel_rfl
class ki (P:Program) (s:TypeId) (pl:outParam (List (Nat×Nat))):Prop where out:si P s=some pl:=by kernel_rfl
class ak (P:Program) (f:FuncId):Prop where out:Fi P f=true:=by kernel_rfl
theorem aC.size {t:TypeId} [h:aC P t n ag b zc]:(P.info? t).map (·.size)=some n:=by
 obtain ⟨i,z,d,hi,hd,hz,hs,_⟩:=fe h.out;rw [hi,abu,hs]
instance:bj Tryz.prog 2 (.int .i64):={}
instance:aC Tryz.prog 2 1 false 8 [.int .i64 0]:={}
instance:bj Tryz.prog 3 (.int .i64):={}
instance:aC Tryz.prog 3 1 false 8 [.int .i64 0]:={}
instance:bj Tryz.prog 4 (.bool):={}
instance:aC Tryz.prog 4 1 false 1 [.bool false]:={}
instance:bj Tryz.prog 5 (.int .u8):={}
instance:aC Tryz.prog 5 1 false 1 [.int .u8 0]:={}
instance:bj Tryz.prog 6 (.int .u8):={}
instance:aC Tryz.prog 6 1 false 1 [.int .u8 0]:={}
instance:aC Tryz.prog 7 4 true 24 [.int .i64 0,.int .i64 0,.bool false,.int .u8 0]:={}
instance:eH Tryz.prog 7 0 0 2:={}
instance:eH Tryz.prog 7 1 1 3:={}
instance:eH Tryz.prog 7 2 2 4:={}
instance:eH Tryz.prog 7 3 3 6:={}
instance:ki Tryz.prog 7 [(0,1),(1,1),(2,1),(3,1)]:={}
instance:aC Tryz.prog 8 4 true 24 [.int .i64 0,.int .i64 0,.bool false,.int .u8 0]:={}
instance:eH Tryz.prog 8 0 0 2:={}
instance:eH Tryz.prog 8 1 1 3:={}
instance:eH Tryz.prog 8 2 2 4:={}
instance:eH Tryz.prog 8 3 3 6:={}
instance:ki Tryz.prog 8 [(0,1),(1,1),(2,1),(3,1)]:={}
instance:bj Tryz.prog 9 (.string):={}
instance:aC Tryz.prog 9 1 false 16 [.string { data:= #[] }]:={}
instance:bj Tryz.prog 10 (.string):={}
instance:aC Tryz.prog 10 1 false 16 [.string { data:= #[] }]:={}
instance:bj Tryz.prog 11 (.string):={}
instance:aC Tryz.prog 11 1 false 16 [.string { data:= #[] }]:={}
instance:bj Tryz.prog 12 (.int .u64):={}
instance:aC Tryz.prog 12 1 false 8 [.int .u64 0]:={}
instance:aC Tryz.prog 13 2 true 24 [.string { data:= #[] },.int .u64 0]:={}
instance:eH Tryz.prog 13 0 0 9:={}
instance:eH Tryz.prog 13 1 1 12:={}
instance:ki Tryz.prog 13 [(0,1),(1,1)]:={}
instance:aC Tryz.prog 14 2 true 24 [.string { data:= #[] },.int .u64 0]:={}
instance:eH Tryz.prog 14 0 0 9:={}
instance:eH Tryz.prog 14 1 1 12:={}
instance:ki Tryz.prog 14 [(0,1),(1,1)]:={}
instance:bj Tryz.prog 15 (.pointer 293):={}
instance:aC Tryz.prog 15 1 false 8 [.pointer none]:={}
instance:bj Tryz.prog 16 (.pointer 296):={}
instance:aC Tryz.prog 16 1 false 8 [.pointer none]:={}
instance:bj Tryz.prog 17 (.pointer 305):={}
instance:aC Tryz.prog 17 1 false 8 [.pointer none]:={}
instance:aC Tryz.prog 18 1 true 8 [.pointer none]:={}
instance:eH Tryz.prog 18 0 0 17:={}
instance:ki Tryz.prog 18 [(0,1)]:={}
instance:aC Tryz.prog 19 1 true 8 [.pointer none]:={}
instance:eH Tryz.prog 19 0 0 17:={}
instance:ki Tryz.prog 19 [(0,1)]:={}
instance:bj Tryz.prog 21 (.int .i32):={}
instance:aC Tryz.prog 21 1 false 4 [.int .i32 0]:={}
instance:bj Tryz.prog 22 (.slice 3):={}
instance:aC Tryz.prog 22 1 false 24 [.slice none 0 0]:={}
instance:bj Tryz.prog 23 (.slice 33):={}
instance:aC Tryz.prog 23 1 false 24 [.slice none 0 0]:={}
instance:aC Tryz.prog 24 2 true 48 [.slice none 0 0,.slice none 0 0]:={}
instance:eH Tryz.prog 24 0 0 22:={}
instance:eH Tryz.prog 24 1 1 23:={}
instance:ki Tryz.prog 24 [(0,1),(1,1)]:={}
instance:aC Tryz.prog 25 2 true 48 [.slice none 0 0,.slice none 0 0]:={}
instance:eH Tryz.prog 25 0 0 22:={}
instance:eH Tryz.prog 25 1 1 23:={}
instance:ki Tryz.prog 25 [(0,1),(1,1)]:={}
instance:bj Tryz.prog 26 (.slice 5):={}
instance:aC Tryz.prog 26 1 false 24 [.slice none 0 0]:={}
instance:aC Tryz.prog 30 2 true 24 [.bool false,.string { data:= #[] }]:={}
instance:eH Tryz.prog 30 0 0 4:={}
instance:eH Tryz.prog 30 1 1 9:={}
instance:ki Tryz.prog 30 [(0,1),(1,1)]:={}
instance:aC Tryz.prog 31 2 true 24 [.bool false,.string { data:= #[] }]:={}
instance:eH Tryz.prog 31 0 0 4:={}
instance:eH Tryz.prog 31 1 1 9:={}
instance:ki Tryz.prog 31 [(0,1),(1,1)]:={}
instance:aC Tryz.prog 32 3 true 32 [.bool false,.string { data:= #[] },.int .i64 0]:={}
instance:eH Tryz.prog 32 0 0 31:={}
instance:eH Tryz.prog 32 1 2 3:={}
instance:ki Tryz.prog 32 [(0,2),(2,1)]:={}
instance:aC Tryz.prog 33 3 true 32 [.bool false,.string { data:= #[] },.int .i64 0]:={}
instance:eH Tryz.prog 33 0 0 31:={}
instance:eH Tryz.prog 33 1 2 3:={}
instance:ki Tryz.prog 33 [(0,2),(2,1)]:={}
instance:aC Tryz.prog 34 6 true 64 [.bool false,.string { data:= #[] },.int .i64 0,.bool false,.string { data:= #[] },.int .i64 0]:={}
instance:eH Tryz.prog 34 0 0 33:={}
instance:eH Tryz.prog 34 1 3 33:={}
instance:ki Tryz.prog 34 [(0,3),(3,3)]:={}
instance:aC Tryz.prog 35 6 true 64 [.bool false,.string { data:= #[] },.int .i64 0,.bool false,.string { data:= #[] },.int .i64 0]:={}
instance:eH Tryz.prog 35 0 0 33:={}
instance:eH Tryz.prog 35 1 3 33:={}
instance:ki Tryz.prog 35 [(0,3),(3,3)]:={}
instance:bj Tryz.prog 36 (.int .i64):={}
instance:aC Tryz.prog 36 1 false 8 [.int .i64 0]:={}
instance:bj Tryz.prog 39 (.slice 33):={}
instance:aC Tryz.prog 39 1 false 24 [.slice none 0 0]:={}
instance:bj Tryz.prog 50 (.slice 95):={}
instance:aC Tryz.prog 50 1 false 24 [.slice none 0 0]:={}
instance:aC Tryz.prog 51 2 true 32 [.int .i64 0,.slice none 0 0]:={}
instance:eH Tryz.prog 51 0 0 3:={}
instance:eH Tryz.prog 51 1 1 50:={}
instance:ki Tryz.prog 51 [(0,1),(1,1)]:={}
instance:aC Tryz.prog 52 2 true 32 [.int .i64 0,.slice none 0 0]:={}
instance:eH Tryz.prog 52 0 0 3:={}
instance:eH Tryz.prog 52 1 1 50:={}
instance:ki Tryz.prog 52 [(0,1),(1,1)]:={}
instance:bj Tryz.prog 53 (.slice 35):={}
instance:aC Tryz.prog 53 1 false 24 [.slice none 0 0]:={}
instance:bj Tryz.prog 54 (.slice 35):={}
instance:aC Tryz.prog 54 1 false 24 [.slice none 0 0]:={}
instance:aC Tryz.prog 57 8 true 96 [.int .i64 0,.bool false,.string { data:= #[] },.int .i64 0,.bool false,.string { data:= #[] },.int .i64 0,.slice none 0 0]:={}
instance:eH Tryz.prog 57 0 0 3:={}
instance:eH Tryz.prog 57 1 1 35:={}
instance:eH Tryz.prog 57 2 7 39:={}
instance:ki Tryz.prog 57 [(0,1),(1,6),(7,1)]:={}
instance:aC Tryz.prog 58 8 true 96 [.int .i64 0,.bool false,.string { data:= #[] },.int .i64 0,.bool false,.string { data:= #[] },.int .i64 0,.slice none 0 0]:={}
instance:eH Tryz.prog 58 0 0 3:={}
instance:eH Tryz.prog 58 1 1 35:={}
instance:eH Tryz.prog 58 2 7 39:={}
instance:ki Tryz.prog 58 [(0,1),(1,6),(7,1)]:={}
instance:bj Tryz.prog 85 (.slice 25):={}
instance:aC Tryz.prog 85 1 false 24 [.slice none 0 0]:={}
instance:aC Tryz.prog 94 4 true 48 [.string { data:= #[] },.bool false,.string { data:= #[] },.int .i64 0]:={}
instance:eH Tryz.prog 94 0 0 9:={}
instance:eH Tryz.prog 94 1 1 33:={}
instance:ki Tryz.prog 94 [(0,1),(1,3)]:={}
instance:aC Tryz.prog 95 4 true 48 [.string { data:= #[] },.bool false,.string { data:= #[] },.int .i64 0]:={}
instance:eH Tryz.prog 95 0 0 9:={}
instance:eH Tryz.prog 95 1 1 33:={}
instance:ki Tryz.prog 95 [(0,1),(1,3)]:={}
instance:aC Tryz.prog 96 5 true 120 [.slice none 0 0,.slice none 0 0,.slice none 0 0,.slice none 0 0,.slice none 0 0]:={}
instance:eH Tryz.prog 96 0 0 54:={}
instance:eH Tryz.prog 96 1 1 25:={}
instance:eH Tryz.prog 96 2 3 25:={}
instance:ki Tryz.prog 96 [(0,1),(1,2),(3,2)]:={}
instance:aC Tryz.prog 97 5 true 120 [.slice none 0 0,.slice none 0 0,.slice none 0 0,.slice none 0 0,.slice none 0 0]:={}
instance:eH Tryz.prog 97 0 0 54:={}
instance:eH Tryz.prog 97 1 1 25:={}
instance:eH Tryz.prog 97 2 3 25:={}
instance:ki Tryz.prog 97 [(0,1),(1,2),(3,2)]:={}
instance:bj Tryz.prog 100 (.slice 97):={}
instance:aC Tryz.prog 100 1 false 24 [.slice none 0 0]:={}
instance:bj Tryz.prog 109 (.slice 111):={}
instance:aC Tryz.prog 109 1 false 24 [.slice none 0 0]:={}
instance:aC Tryz.prog 110 1 true 24 [.slice none 0 0]:={}
instance:eH Tryz.prog 110 0 0 23:={}
instance:ki Tryz.prog 110 [(0,1)]:={}
instance:aC Tryz.prog 111 1 true 24 [.slice none 0 0]:={}
instance:eH Tryz.prog 111 0 0 23:={}
instance:ki Tryz.prog 111 [(0,1)]:={}
instance:bj Tryz.prog 113 (.int .i64):={}
instance:aC Tryz.prog 113 1 false 8 [.int .i64 0]:={}
instance:aC Tryz.prog 114 5 true 56 [.int .i64 0,.bool false,.string { data:= #[] },.bool false,.string { data:= #[] }]:={}
instance:eH Tryz.prog 114 0 0 113:={}
instance:eH Tryz.prog 114 1 1 31:={}
instance:eH Tryz.prog 114 2 3 31:={}
instance:ki Tryz.prog 114 [(0,1),(1,2),(3,2)]:={}
instance:aC Tryz.prog 115 5 true 56 [.int .i64 0,.bool false,.string { data:= #[] },.bool false,.string { data:= #[] }]:={}
instance:eH Tryz.prog 115 0 0 113:={}
instance:eH Tryz.prog 115 1 1 31:={}
instance:eH Tryz.prog 115 2 3 31:={}
instance:ki Tryz.prog 115 [(0,1),(1,2),(3,2)]:={}
instance:aC Tryz.prog 149 6 true 64 [.bool false,.string { data:= #[] },.int .i64 0,.bool false,.string { data:= #[] },.int .i64 0]:={}
instance:eH Tryz.prog 149 0 0 35:={}
instance:ki Tryz.prog 149 [(0,6)]:={}
instance:aC Tryz.prog 150 6 true 64 [.bool false,.string { data:= #[] },.int .i64 0,.bool false,.string { data:= #[] },.int .i64 0]:={}
instance:eH Tryz.prog 150 0 0 35:={}
instance:ki Tryz.prog 150 [(0,6)]:={}
instance:bj Tryz.prog 153 (.pointer 111):={}
instance:aC Tryz.prog 153 1 false 8 [.pointer none]:={}
instance:bj Tryz.prog 158 (.string):={}
instance:aC Tryz.prog 158 1 false 16 [.string { data:= #[] }]:={}
instance:bj Tryz.prog 160 (.int .u64):={}
instance:aC Tryz.prog 160 1 false 8 [.int .u64 0]:={}
instance:aC Tryz.prog 161 2 true 24 [.string { data:= #[] },.bool false]:={}
instance:eH Tryz.prog 161 0 0 158:={}
instance:eH Tryz.prog 161 1 1 4:={}
instance:ki Tryz.prog 161 [(0,1),(1,1)]:={}
instance:aC Tryz.prog 162 2 true 24 [.string { data:= #[] },.bool false]:={}
instance:eH Tryz.prog 162 0 0 158:={}
instance:eH Tryz.prog 162 1 1 4:={}
instance:ki Tryz.prog 162 [(0,1),(1,1)]:={}
instance:bj Tryz.prog 166 (.slice 31):={}
instance:aC Tryz.prog 166 1 false 24 [.slice none 0 0]:={}
instance:bj Tryz.prog 176 (.slice 9):={}
instance:aC Tryz.prog 176 1 false 24 [.slice none 0 0]:={}
instance:aC Tryz.prog 183 2 true 16 [.int .i64 0,.int .i64 0]:={}
instance:eH Tryz.prog 183 0 0 3:={}
instance:eH Tryz.prog 183 1 1 3:={}
instance:ki Tryz.prog 183 [(0,1),(1,1)]:={}
instance:aC Tryz.prog 184 2 true 16 [.int .i64 0,.int .i64 0]:={}
instance:eH Tryz.prog 184 0 0 3:={}
instance:eH Tryz.prog 184 1 1 3:={}
instance:ki Tryz.prog 184 [(0,1),(1,1)]:={}
instance:aC Tryz.prog 189 9 true 96 [.bool false,.string { data:= #[] },.int .i64 0,.bool false,.string { data:= #[] },.int .i64 0,.bool false,.string { data:= #[] },.int .i64 0]:={}
instance:eH Tryz.prog 189 0 0 35:={}
instance:eH Tryz.prog 189 1 6 33:={}
instance:ki Tryz.prog 189 [(0,6),(6,3)]:={}
instance:aC Tryz.prog 190 9 true 96 [.bool false,.string { data:= #[] },.int .i64 0,.bool false,.string { data:= #[] },.int .i64 0,.bool false,.string { data:= #[] },.int .i64 0]:={}
instance:eH Tryz.prog 190 0 0 35:={}
instance:eH Tryz.prog 190 1 6 33:={}
instance:ki Tryz.prog 190 [(0,6),(6,3)]:={}
instance:bj Tryz.prog 201 (.slice 160):={}
instance:aC Tryz.prog 201 1 false 24 [.slice none 0 0]:={}
instance:bj Tryz.prog 202 (.slice 160):={}
instance:aC Tryz.prog 202 1 false 24 [.slice none 0 0]:={}
instance:bj Tryz.prog 215 (.slice 52):={}
instance:aC Tryz.prog 215 1 false 24 [.slice none 0 0]:={}
instance:aC Tryz.prog 222 6 true 64 [.bool false,.string { data:= #[] },.int .i64 0,.bool false,.string { data:= #[] },.int .i64 0]:={}
instance:eH Tryz.prog 222 0 0 33:={}
instance:eH Tryz.prog 222 1 3 33:={}
instance:ki Tryz.prog 222 [(0,3),(3,3)]:={}
instance:aC Tryz.prog 223 6 true 64 [.bool false,.string { data:= #[] },.int .i64 0,.bool false,.string { data:= #[] },.int .i64 0]:={}
instance:eH Tryz.prog 223 0 0 33:={}
instance:eH Tryz.prog 223 1 3 33:={}
instance:ki Tryz.prog 223 [(0,3),(3,3)]:={}
instance:aC Tryz.prog 233 2 true 48 [.slice none 0 0,.slice none 0 0]:={}
instance:eH Tryz.prog 233 0 0 202:={}
instance:eH Tryz.prog 233 1 1 202:={}
instance:ki Tryz.prog 233 [(0,1),(1,1)]:={}
instance:aC Tryz.prog 234 2 true 48 [.slice none 0 0,.slice none 0 0]:={}
instance:eH Tryz.prog 234 0 0 202:={}
instance:eH Tryz.prog 234 1 1 202:={}
instance:ki Tryz.prog 234 [(0,1),(1,1)]:={}
instance:bj Tryz.prog 237 (.array 64 5):={}
instance:aC Tryz.prog 237 64 true 64 [.int .u8 0,.int .u8 0,.int .u8 0,.int .u8 0,.int .u8 0,.int .u8 0,.int .u8 0,.int .u8 0,.int .u8 0,.int .u8 0,.int .u8 0,.int .u8 0,.int .u8 0,.int .u8 0,.int .u8 0,.int .u8 0,.int .u8 0,.int .u8 0,.int .u8 0,.int .u8 0,.int .u8 0,.int .u8 0,.int .u8 0,.int .u8 0,.int .u8 0,.int .u8 0,.int .u8 0,.int .u8 0,.int .u8 0,.int .u8 0,.int .u8 0,.int .u8 0,.int .u8 0,.int .u8 0,.int .u8 0,.int .u8 0,.int .u8 0,.int .u8 0,.int .u8 0,.int .u8 0,.int .u8 0,.int .u8 0,.int .u8 0,.int .u8 0,.int .u8 0,.int .u8 0,.int .u8 0,.int .u8 0,.int .u8 0,.int .u8 0,.int .u8 0,.int .u8 0,.int .u8 0,.int .u8 0,.int .u8 0,.int .u8 0,.int .u8 0,.int .u8 0,.int .u8 0,.int .u8 0,.int .u8 0,.int .u8 0,.int .u8 0,.int .u8 0]:={}
instance:bj Tryz.prog 238 (.int .u64):={}
instance:aC Tryz.prog 238 1 false 8 [.int .u64 0]:={}
instance:bj Tryz.prog 257 (.array 256 4):={}
instance:bj Tryz.prog 258 (.array 256 4):={}
instance:bj Tryz.prog 262 (.pointer 258):={}
instance:aC Tryz.prog 262 1 false 8 [.pointer none]:={}
instance:bj Tryz.prog 280 (.array 256 5):={}
instance:aC Tryz.prog 281 2 true 2 [.int .u8 0,.int .u8 0]:={}
instance:eH Tryz.prog 281 0 0 5:={}
instance:eH Tryz.prog 281 1 1 5:={}
instance:ki Tryz.prog 281 [(0,1),(1,1)]:={}
instance:aC Tryz.prog 282 2 true 2 [.int .u8 0,.int .u8 0]:={}
instance:eH Tryz.prog 282 0 0 5:={}
instance:eH Tryz.prog 282 1 1 5:={}
instance:ki Tryz.prog 282 [(0,1),(1,1)]:={}
instance:bj Tryz.prog 283 (.array 16 282):={}
instance:aC Tryz.prog 283 32 true 32 [.int .u8 0,.int .u8 0,.int .u8 0,.int .u8 0,.int .u8 0,.int .u8 0,.int .u8 0,.int .u8 0,.int .u8 0,.int .u8 0,.int .u8 0,.int .u8 0,.int .u8 0,.int .u8 0,.int .u8 0,.int .u8 0,.int .u8 0,.int .u8 0,.int .u8 0,.int .u8 0,.int .u8 0,.int .u8 0,.int .u8 0,.int .u8 0,.int .u8 0,.int .u8 0,.int .u8 0,.int .u8 0,.int .u8 0,.int .u8 0,.int .u8 0,.int .u8 0]:={}
instance:bj Tryz.prog 291 (.pointer 308):={}
instance:aC Tryz.prog 291 1 false 8 [.pointer none]:={}
instance:aC Tryz.prog 292 4 true 40 [.pointer none,.pointer none,.pointer none,.string { data:= #[] }]:={}
instance:eH Tryz.prog 292 0 0 17:={}
instance:eH Tryz.prog 292 1 1 17:={}
instance:eH Tryz.prog 292 2 2 17:={}
instance:eH Tryz.prog 292 3 3 9:={}
instance:ki Tryz.prog 292 [(0,1),(1,1),(2,1),(3,1)]:={}
instance:aC Tryz.prog 293 4 true 40 [.pointer none,.pointer none,.pointer none,.string { data:= #[] }]:={}
instance:eH Tryz.prog 293 0 0 17:={}
instance:eH Tryz.prog 293 1 1 17:={}
instance:eH Tryz.prog 293 2 2 17:={}
instance:eH Tryz.prog 293 3 3 9:={}
instance:ki Tryz.prog 293 [(0,1),(1,1),(2,1),(3,1)]:={}
instance:bj Tryz.prog 294 (.array 0 16):={}
instance:aC Tryz.prog 294 0 true 0 []:={}
instance:aC Tryz.prog 295 0 true 0 []:={}
instance:ki Tryz.prog 295 [(0,0)]:={}
instance:aC Tryz.prog 296 0 true 0 []:={}
instance:ki Tryz.prog 296 [(0,0)]:={}
instance:bj Tryz.prog 297 (.int .u32):={}
instance:aC Tryz.prog 297 1 false 4 [.int .u32 0]:={}
instance:bj Tryz.prog 298 (.int .u8):={}
instance:aC Tryz.prog 298 1 false 1 [.int .u8 0]:={}
instance:bj Tryz.prog 299 (.int .u8):={}
instance:aC Tryz.prog 299 1 false 1 [.int .u8 0]:={}
instance:bj Tryz.prog 301 (.pointer 5):={}
instance:aC Tryz.prog 301 1 false 8 [.pointer none]:={}
instance:bj Tryz.prog 302 (.int .i32):={}
instance:aC Tryz.prog 302 1 false 4 [.int .i32 0]:={}
instance:bj Tryz.prog 303 (.int .i32):={}
instance:aC Tryz.prog 303 1 false 4 [.int .i32 0]:={}
instance:aC Tryz.prog 304 11 true 48 [.int .u64 0,.int .u64 0,.int .u32 0,.int .u8 0,.int .u8 0,.int .u8 0,.int .u8 0,.nilFunc,.pointer none,.int .i32 0,.int .i32 0]:={}
instance:aC Tryz.prog 305 11 true 48 [.int .u64 0,.int .u64 0,.int .u32 0,.int .u8 0,.int .u8 0,.int .u8 0,.int .u8 0,.nilFunc,.pointer none,.int .i32 0,.int .i32 0]:={}
instance:aC Tryz.prog 307 1 true 16 [.string { data:= #[] }]:={}
instance:eH Tryz.prog 307 0 0 9:={}
instance:ki Tryz.prog 307 [(0,1)]:={}
instance:aC Tryz.prog 308 1 true 16 [.string { data:= #[] }]:={}
instance:eH Tryz.prog 308 0 0 9:={}
instance:ki Tryz.prog 308 [(0,1)]:={}
theorem mixed:Tryz.prog.follows .mixedOrders=true:=by kernel_rfl
instance:ak Tryz.prog 3:={}
instance:ak Tryz.prog 4:={}
instance:ak Tryz.prog 5:={}
instance:ak Tryz.prog 6:={}
instance:ak Tryz.prog 7:={}
instance:ak Tryz.prog 8:={}
instance:ak Tryz.prog 9:={}
instance:ak Tryz.prog 10:={}
instance:ak Tryz.prog 11:={}
instance:ak Tryz.prog 12:={}
instance:ak Tryz.prog 13:={}
instance:ak Tryz.prog 14:={}
instance:ak Tryz.prog 15:={}
instance:ak Tryz.prog 16:={}
instance:ak Tryz.prog 17:={}
instance:ak Tryz.prog 18:={}
instance:ak Tryz.prog 19:={}
instance:ak Tryz.prog 20:={}
instance:ak Tryz.prog 21:={}
instance:ak Tryz.prog 22:={}
instance:ak Tryz.prog 23:={}
instance:ak Tryz.prog 24:={}
instance:ak Tryz.prog 25:={}
instance:ak Tryz.prog 26:={}
instance:ak Tryz.prog 27:={}
instance:ak Tryz.prog 28:={}
instance:ak Tryz.prog 29:={}
instance:ak Tryz.prog 30:={}
instance:ak Tryz.prog 31:={}
instance:ak Tryz.prog 32:={}
instance:ak Tryz.prog 33:={}
instance:ak Tryz.prog 34:={}
instance:ak Tryz.prog 35:={}
instance:ak Tryz.prog 36:={}
instance:ak Tryz.prog 37:={}
instance:ak Tryz.prog 38:={}
instance:ak Tryz.prog 39:={}
instance:ak Tryz.prog 40:={}
instance:ak Tryz.prog 41:={}
instance:ak Tryz.prog 42:={}
instance:ak Tryz.prog 43:={}
instance:ak Tryz.prog 44:={}
instance:ak Tryz.prog 45:={}
instance:ak Tryz.prog 46:={}
instance:ak Tryz.prog 47:={}
instance:ak Tryz.prog 48:={}
instance:ak Tryz.prog 49:={}
instance:ak Tryz.prog 50:={}
instance:ak Tryz.prog 51:={}
instance:ak Tryz.prog 52:={}
instance:ak Tryz.prog 53:={}
instance:ak Tryz.prog 54:={}
instance:ak Tryz.prog 55:={}
instance:ak Tryz.prog 56:={}
instance:ak Tryz.prog 57:={}
instance:ak Tryz.prog 58:={}
instance:ak Tryz.prog 59:={}
instance:ak Tryz.prog 60:={}
instance:ak Tryz.prog 61:={}
instance:ak Tryz.prog 62:={}
instance:ak Tryz.prog 63:={}
instance:ak Tryz.prog 64:={}
instance:ak Tryz.prog 65:={}
instance:ak Tryz.prog 66:={}
instance:ak Tryz.prog 67:={}
instance:ak Tryz.prog 68:={}
instance:ak Tryz.prog 69:={}
instance:ak Tryz.prog 70:={}
instance:ak Tryz.prog 71:={}
instance:ak Tryz.prog 72:={}
instance:ak Tryz.prog 73:={}
instance:ak Tryz.prog 74:={}
instance:ak Tryz.prog 75:={}
instance:ak Tryz.prog 76:={}
instance:ak Tryz.prog 77:={}
instance:ak Tryz.prog 78:={}
instance:ak Tryz.prog 79:={}
instance:ak Tryz.prog 80:={}
instance:ak Tryz.prog 81:={}
instance:ak Tryz.prog 82:={}
instance:ak Tryz.prog 83:={}
instance:ak Tryz.prog 84:={}
instance:ak Tryz.prog 85:={}
instance:ak Tryz.prog 86:={}
instance:ak Tryz.prog 87:={}
instance:ak Tryz.prog 88:={}
instance:ak Tryz.prog 89:={}
instance:ak Tryz.prog 90:={}
instance:ak Tryz.prog 91:={}
instance:ak Tryz.prog 92:={}
instance:ak Tryz.prog 93:={}
instance:ak Tryz.prog 94:={}
instance:ak Tryz.prog 95:={}
instance:ak Tryz.prog 96:={}
instance:ak Tryz.prog 97:={}
instance:ak Tryz.prog 98:={}
instance:ak Tryz.prog 99:={}
instance:ak Tryz.prog 100:={}
instance:ak Tryz.prog 101:={}
instance:ak Tryz.prog 102:={}
instance:ak Tryz.prog 103:={}
instance:ak Tryz.prog 104:={}
instance:ak Tryz.prog 105:={}
instance:ak Tryz.prog 106:={}
instance:ak Tryz.prog 107:={}
instance:ak Tryz.prog 108:={}
instance:ak Tryz.prog 109:={}
instance:ak Tryz.prog 110:={}
instance:ak Tryz.prog 111:={}
instance:ak Tryz.prog 112:={}
instance:ak Tryz.prog 113:={}
instance:ak Tryz.prog 114:={}
instance:ak Tryz.prog 115:={}
instance:ak Tryz.prog 116:={}
instance:ak Tryz.prog 117:={}
instance:ak Tryz.prog 118:={}
instance:ak Tryz.prog 119:={}
instance:ak Tryz.prog 120:={}
instance:ak Tryz.prog 121:={}
instance:ak Tryz.prog 122:={}
instance:ak Tryz.prog 123:={}
instance:ak Tryz.prog 124:={}
instance:ak Tryz.prog 125:={}
instance:ak Tryz.prog 126:={}
instance:ak Tryz.prog 127:={}
instance:ak Tryz.prog 128:={}
instance:ak Tryz.prog 129:={}
instance:ak Tryz.prog 130:={}
instance:ak Tryz.prog 131:={}
instance:ak Tryz.prog 132:={}
instance:ak Tryz.prog 133:={}
instance:ak Tryz.prog 134:={}
instance:ak Tryz.prog 135:={}
instance:ak Tryz.prog 136:={}
instance:ak Tryz.prog 137:={}
instance:ak Tryz.prog 138:={}
instance:ak Tryz.prog 139:={}
instance:ak Tryz.prog 140:={}
instance:ak Tryz.prog 141:={}
instance:ak Tryz.prog 142:={}
instance:ak Tryz.prog 143:={}
instance:ak Tryz.prog 144:={}
instance:ak Tryz.prog 145:={}
instance:ak Tryz.prog 146:={}
instance:ak Tryz.prog 147:={}
instance:ak Tryz.prog 148:={}
instance:ak Tryz.prog 149:={}
instance:ak Tryz.prog 150:={}
instance:ak Tryz.prog 151:={}
instance:ak Tryz.prog 152:={}
instance:ak Tryz.prog 153:={}
instance:ak Tryz.prog 154:={}
instance:ak Tryz.prog 155:={}
instance:ak Tryz.prog 156:={}
instance:ak Tryz.prog 157:={}
instance:ak Tryz.prog 158:={}
instance:ak Tryz.prog 159:={}
instance:ak Tryz.prog 160:={}
instance:ak Tryz.prog 161:={}
instance:ak Tryz.prog 162:={}
instance:ak Tryz.prog 163:={}
instance:ak Tryz.prog 164:={}
instance:ak Tryz.prog 165:={}
instance:ak Tryz.prog 166:={}
instance:ak Tryz.prog 167:={}
instance:ak Tryz.prog 168:={}
instance:ak Tryz.prog 169:={}
instance:ak Tryz.prog 170:={}
instance:ak Tryz.prog 171:={}
instance:ak Tryz.prog 172:={}
instance:ak Tryz.prog 173:={}
instance:ak Tryz.prog 174:={}
instance:ak Tryz.prog 175:={}
instance:ak Tryz.prog 176:={}
instance:ak Tryz.prog 177:={}
instance:ak Tryz.prog 178:={}
instance:ak Tryz.prog 179:={}
instance:ak Tryz.prog 180:={}
instance:ak Tryz.prog 181:={}
instance:ak Tryz.prog 182:={}
instance:ak Tryz.prog 183:={}
instance:ak Tryz.prog 184:={}
instance:ak Tryz.prog 185:={}
instance:ak Tryz.prog 186:={}
instance:ak Tryz.prog 187:={}
instance:ak Tryz.prog 188:={}
instance:ak Tryz.prog 189:={}
instance:ak Tryz.prog 190:={}
instance:ak Tryz.prog 191:={}
instance:ak Tryz.prog 192:={}
instance:ak Tryz.prog 193:={}
instance:ak Tryz.prog 194:={}
instance:ak Tryz.prog 195:={}
instance:ak Tryz.prog 196:={}
instance:ak Tryz.prog 197:={}
instance:ak Tryz.prog 198:={}
instance:ak Tryz.prog 199:={}
instance:ak Tryz.prog 200:={}
instance:ak Tryz.prog 201:={}
instance:ak Tryz.prog 202:={}
instance:ak Tryz.prog 203:={}
instance:ak Tryz.prog 204:={}
instance:ak Tryz.prog 205:={}
instance:ak Tryz.prog 206:={}
instance:ak Tryz.prog 207:={}
instance:ak Tryz.prog 208:={}
instance:ak Tryz.prog 209:={}
instance:ak Tryz.prog 210:={}
instance:ak Tryz.prog 211:={}
instance:ak Tryz.prog 212:={}
instance:ak Tryz.prog 213:={}
instance:ak Tryz.prog 214:={}
instance:ak Tryz.prog 215:={}
instance:ak Tryz.prog 216:={}
instance:ak Tryz.prog 217:={}
instance:ak Tryz.prog 218:={}
instance:ak Tryz.prog 219:={}
instance:ak Tryz.prog 220:={}
instance:ak Tryz.prog 221:={}
instance:ak Tryz.prog 222:={}
instance:ak Tryz.prog 223:={}
instance:ak Tryz.prog 224:={}
instance:ak Tryz.prog 225:={}
instance:ak Tryz.prog 226:={}
instance:ak Tryz.prog 227:={}
instance:ak Tryz.prog 228:={}
instance:ak Tryz.prog 229:={}
instance:ak Tryz.prog 230:={}
instance:ak Tryz.prog 231:={}
instance:ak Tryz.prog 232:={}
instance:ak Tryz.prog 233:={}
instance:ak Tryz.prog 234:={}
instance:ak Tryz.prog 235:={}
instance:ak Tryz.prog 236:={}
instance:ak Tryz.prog 237:={}
instance:ak Tryz.prog 238:={}
instance:ak Tryz.prog 239:={}
instance:ak Tryz.prog 241:={}
instance:ak Tryz.prog 242:={}
instance:ak Tryz.prog 243:={}
instance:ak Tryz.prog 244:={}
instance:ak Tryz.prog 245:={}
instance:ak Tryz.prog 246:={}
instance:ak Tryz.prog 247:={}
instance:ak Tryz.prog 248:={}
instance:ak Tryz.prog 251:={}
instance:ak Tryz.prog 252:={}
instance:ak Tryz.prog 253:={}
instance:ak Tryz.prog 254:={}
instance:ak Tryz.prog 255:={}
instance:ak Tryz.prog 256:={}
instance:ak Tryz.prog 257:={}
instance:ak Tryz.prog 258:={}
instance:ak Tryz.prog 259:={}
instance:ak Tryz.prog 262:={}
instance:ak Tryz.prog 263:={}
instance:ak Tryz.prog 264:={}
variable {R:Ending→World→Prop}{args:Array Operand}{by' dj j o off:Nat}{cs vs:List Value}{ft t':TypeId}{fz:Nat×Nat}{parts:Array (Nat×Operand)}{ps:List (Nat×Value)}{r:Bool}{v1:Value}{w:World}{ρ:Rf}
section
variable {ro:Mode}{P:Program}{N d:Nat}{ops:Array Oper}{Q:Kq}{ρ:Rf}{w w0:World}{rest:List Oper}{H:List HE}{ty:TypeId}{pos:String}{af:Array Edge}{x y:Operand}{t u:TypeId}
theorem mI {k:IntKind}{a:Int} (kk:WL ro P N ops Q rest (cm ρ d (.int k a)) w) (hx:ev ρ x=.int k a:=by exact cz rfl) (hN:d<N:=by decide):WL ro P N ops Q (⟨some d,.move x,ty,pos,af,none⟩::rest) ρ w:=nh hx hN kk
theorem aI {k:IntKind}{a:Int} (kk:WL ro P N ops Q rest (cm ρ d (.int k a)) w) (hx:ev ρ x=.int k a:=by exact cz rfl) (hN:d<N:=by decide):WL ro P N ops Q (⟨some d,.assign x,ty,pos,af,none⟩::rest) ρ w:=jI hx hN kk
theorem mB {a:Bool} (kk:WL ro P N ops Q rest (cm ρ d (.bool a)) w) (hx:ev ρ x=.bool a:=by exact pe rfl) (hN:d<N:=by decide):WL ro P N ops Q (⟨some d,.move x,ty,pos,af,none⟩::rest) ρ w:=nh hx hN kk
theorem aB {a:Bool} (kk:WL ro P N ops Q rest (cm ρ d (.bool a)) w) (hx:ev ρ x=.bool a:=by exact pe rfl) (hN:d<N:=by decide):WL ro P N ops Q (⟨some d,.assign x,ty,pos,af,none⟩::rest) ρ w:=jI hx hN kk
theorem mS {a:ByteArray} (kk:WL ro P N ops Q rest (cm ρ d (.string a)) w) (hx:ev ρ x=.string a:=by exact AA rfl) (hN:d<N:=by decide):WL ro P N ops Q (⟨some d,.move x,ty,pos,af,none⟩::rest) ρ w:=nh hx hN kk
theorem aS {a:ByteArray} (kk:WL ro P N ops Q rest (cm ρ d (.string a)) w) (hx:ev ρ x=.string a:=by exact AA rfl) (hN:d<N:=by decide):WL ro P N ops Q (⟨some d,.assign x,ty,pos,af,none⟩::rest) ρ w:=jI hx hN kk
theorem mL {A:Option Addr}{c:Nat} (kk:WL ro P N ops Q rest (cm ρ d (.slice A n c)) w) (hx:ev ρ x=.slice A n c:=by exact yG rfl) (hN:d<N:=by decide):WL ro P N ops Q (⟨some d,.move x,ty,pos,af,none⟩::rest) ρ w:=nh hx hN kk
theorem aL {A:Option Addr}{c:Nat} (kk:WL ro P N ops Q rest (cm ρ d (.slice A n c)) w) (hx:ev ρ x=.slice A n c:=by exact yG rfl) (hN:d<N:=by decide):WL ro P N ops Q (⟨some d,.assign x,ty,pos,af,none⟩::rest) ρ w:=jI hx hN kk
theorem mG {l:List Value} (kk:WL ro P N ops Q rest (cm ρ d (.agg l.toArray)) w) (hx:ev ρ x=.agg l.toArray:=by exact eD rfl) (hN:d<N:=by decide):WL ro P N ops Q (⟨some d,.move x,ty,pos,af,none⟩::rest) ρ w:=nh hx hN kk
theorem aG {l:List Value} (kk:WL ro P N ops Q rest (cm ρ d (.agg l.toArray)) w) (hx:ev ρ x=.agg l.toArray:=by exact eD rfl) (hN:d<N:=by decide):WL ro P N ops Q (⟨some d,.assign x,ty,pos,af,none⟩::rest) ρ w:=jI hx hN kk
theorem mT {l:List Value} (kk:WL ro P N ops Q rest (cm ρ d (.tuple l.toArray)) w) (hx:ev ρ x=.tuple l.toArray:=by exact ML rfl) (hN:d<N:=by decide):WL ro P N ops Q (⟨some d,.move x,ty,pos,af,none⟩::rest) ρ w:=nh hx hN kk
theorem aT {l:List Value} (kk:WL ro P N ops Q rest (cm ρ d (.tuple l.toArray)) w) (hx:ev ρ x=.tuple l.toArray:=by exact ML rfl) (hN:d<N:=by decide):WL ro P N ops Q (⟨some d,.assign x,ty,pos,af,none⟩::rest) ρ w:=jI hx hN kk
theorem mF {f:Fn}{l r:List Value} (kk:WL ro P N ops Q rest (cm ρ d (.func f l.toArray r.toArray)) w) (hx:ev ρ x=.func f l.toArray r.toArray:=by exact pC rfl) (hN:d<N:=by decide):WL ro P N ops Q (⟨some d,.move x,ty,pos,af,none⟩::rest) ρ w:=nh hx hN kk
theorem aF {f:Fn}{l r:List Value} (kk:WL ro P N ops Q rest (cm ρ d (.func f l.toArray r.toArray)) w) (hx:ev ρ x=.func f l.toArray r.toArray:=by exact pC rfl) (hN:d<N:=by decide):WL ro P N ops Q (⟨some d,.assign x,ty,pos,af,none⟩::rest) ρ w:=jI hx hN kk
theorem mP {a:Option Addr} (kk:WL ro P N ops Q rest (cm ρ d (.pointer a)) w) (hx:ev ρ x=.pointer a:=by exact rfl) (hN:d<N:=by decide):WL ro P N ops Q (⟨some d,.move x,ty,pos,af,none⟩::rest) ρ w:=nh hx hN kk
theorem aP {a:Option Addr} (kk:WL ro P N ops Q rest (cm ρ d (.pointer a)) w) (hx:ev ρ x=.pointer a:=by exact rfl) (hN:d<N:=by decide):WL ro P N ops Q (⟨some d,.assign x,ty,pos,af,none⟩::rest) ρ w:=jI hx hN kk
theorem nC {k:IntKind}{a b:Int} (kk:WL ro P N ops Q rest (cm ρ d (.bool r)) w) (hx:ev ρ x=.int k a:=by exact rfl) (hy:ev ρ y=.int k b:=by exact rfl) (hr:decide (a<b)=r:=by first|exact ZX ZB|exact Z3 ZB|exact rfl) (hN:d<N:=by decide):WL ro P N ops Q (⟨some d,.binOp .lss t x y u,ty,pos,af,none⟩::rest) ρ w:=Qw hx hy hN (by rw [hr];exact kk)
theorem XP {k:IntKind}{a b:Int} (kk:WL ro P N ops Q rest (cm ρ d (.bool r)) w) (hx:ev ρ x=.int k a:=by exact rfl) (hy:ev ρ y=.int k b:=by exact rfl) (hr:decide (a≤b)=r:=by first|exact ZX ZB|exact Z3 ZB|exact rfl) (hN:d<N:=by decide):WL ro P N ops Q (⟨some d,.binOp .leq t x y u,ty,pos,af,none⟩::rest) ρ w:=QQ hx hy hN (by rw [hr];exact kk)
theorem Bp {k:IntKind}{a b:Int} (kk:WL ro P N ops Q rest (cm ρ d (.bool r)) w) (hx:ev ρ x=.int k a:=by exact rfl) (hy:ev ρ y=.int k b:=by exact rfl) (hr:decide (b<a)=r:=by first|exact ZX ZB|exact Z3 ZB|exact rfl) (hN:d<N:=by decide):WL ro P N ops Q (⟨some d,.binOp .gtr t x y u,ty,pos,af,none⟩::rest) ρ w:=Pj hx hy hN (by rw [hr];exact kk)
theorem s9 {k:IntKind}{a b:Int} (kk:WL ro P N ops Q rest (cm ρ d (.bool r)) w) (hx:ev ρ x=.int k a:=by exact rfl) (hy:ev ρ y=.int k b:=by exact rfl) (hr:decide (b≤a)=r:=by first|exact ZX ZB|exact Z3 ZB|exact rfl) (hN:d<N:=by decide):WL ro P N ops Q (⟨some d,.binOp .geq t x y u,ty,pos,af,none⟩::rest) ρ w:=Re hx hy hN (by rw [hr];exact kk)
theorem Pb {k:IntKind}{a b:Int} (kk:WL ro P N ops Q rest (cm ρ d (.bool r)) w) (hx:ev ρ x=.int k a:=by exact rfl) (hy:ev ρ y=.int k b:=by exact rfl) (hr:decide (a=b)=r:=by first|exact ZX ZB|exact Z3 ZB|exact rfl) (hN:d<N:=by decide):WL ro P N ops Q (⟨some d,.binOp .eql t x y u,ty,pos,af,none⟩::rest) ρ w:=Ib hx hy hN (by rw [hr];exact kk)
theorem XO {k:IntKind}{a b:Int} (kk:WL ro P N ops Q rest (cm ρ d (.bool r)) w) (hx:ev ρ x=.int k a:=by exact rfl) (hy:ev ρ y=.int k b:=by exact rfl) (hr:decide (a≠b)=r:=by first|exact ZX ZB|exact Z3 ZB|exact rfl) (hN:d<N:=by decide):WL ro P N ops Q (⟨some d,.binOp .neq t x y u,ty,pos,af,none⟩::rest) ρ w:=PS hx hy hN (by rw [hr];exact kk)
theorem mN {a b:Int} (kk:WL ro P N ops Q rest (cm ρ d (.int .i64 (a+b))) w) (hx:ev ρ x=.int .i64 a:=by exact rfl) (hy:ev ρ y=.int .i64 b:=by exact rfl) (h1: -9223372036854775808≤a+b:=by omega) (h2:a+b≤9223372036854775807:=by omega) (hN:d<N:=by decide):WL ro P N ops Q (⟨some d,.binOp .add t x y u,ty,pos,af,none⟩::rest) ρ w:=Ux hx hy h1 h2 hN kk
theorem qf {a b:Int} (kk:WL ro P N ops Q rest (cm ρ d (.int .i64 (a-b))) w) (hx:ev ρ x=.int .i64 a:=by exact rfl) (hy:ev ρ y=.int .i64 b:=by exact rfl) (h1: -9223372036854775808≤a-b:=by omega) (h2:a-b≤9223372036854775807:=by omega) (hN:d<N:=by decide):WL ro P N ops Q (⟨some d,.binOp .sub t x y u,ty,pos,af,none⟩::rest) ρ w:=TY hx hy h1 h2 hN kk
theorem mulC {a b:Int} (kk:WL ro P N ops Q rest (cm ρ d (.int .i64 (a*b))) w) (hx:ev ρ x=.int .i64 a:=by exact rfl) (hy:ev ρ y=.int .i64 b:=by exact rfl) (h1: -9223372036854775808≤a*b:=by omega) (h2:a*b≤9223372036854775807:=by omega) (hN:d<N:=by decide):WL ro P N ops Q (⟨some d,.binOp .mul t x y u,ty,pos,af,none⟩::rest) ρ w:=Uo hx hy h1 h2 hN kk
theorem uI {i:Nat}{v:Value} (kk:WL ro P N ops Q rest (cm ρ d (v)) w) (hx:ev ρ x=.tuple vs.toArray:=by exact rfl) (hv:vs[i]?=some v:=by exact rfl) (hN:d<N:=by decide):WL ro P N ops Q (⟨some d,.extract x i,ty,pos,af,none⟩::rest) ρ w:=Jn hx hv hN kk
theorem PJ {b:Bool} (kk:WL ro P N ops Q rest (cm ρ d (.bool !b)) w) (hx:ev ρ x=.bool b:=by exact rfl) (hN:d<N:=by decide):WL ro P N ops Q (⟨some d,.unOp .not t x,ty,pos,af,none⟩::rest) ρ w:=W4 hx hN kk
theorem sU {e:TypeId}{A:Option Addr}{c:Nat} [ht:bj P t (.slice e)] (kk:WL ro P N ops Q rest (cm ρ d (.int .i64 n)) w) (hx:ev ρ x=.slice A n c:=by exact rfl) (hN:d<N:=by decide):WL ro P N ops Q (⟨some d,.call ⟨.builtin .len, #[x], #[t]⟩,ty,pos,af,none⟩::rest) ρ w:=LS ht.out hx hN kk
theorem te {s:TypeId}{f:Nat} [hf:eH P s f off ft] (kk:WL ro P N ops Q rest (cm ρ d (.pointer (some ⟨b,o+off,none⟩))) w) (hx:ev ρ x=.pointer (some ⟨b,o,none⟩):=by exact rfl) (hN:d<N:=by decide):WL ro P N ops Q (⟨some d,.fieldAddr s x f,ty,pos,af,none⟩::rest) ρ w:=CF hf.out hx hN kk
theorem pF {v:Value} (hh:Hp w0 H w) (i:Nat) [ht:aC P t n false by' zc] (kk:WL ro P N ops Q rest (cm ρ d (v)) w) (hx:ev ρ x=.pointer (some ⟨b,o,none⟩):=by exact rfl) (hi:H[i]?=some (.blk b t' cs fz):=by exact rfl) (hv:cs[o]?=some v:=by exact rfl) (hN:d<N:=by decide):WL ro P N ops Q (⟨some d,.load t x,ty,pos,af,none⟩::rest) ρ w:=bF ht.out hx (hh.dA hi hv) hN kk
theorem nB (hh:Hp w0 H w) (i:Nat) (vs:List Value) [ht:aC P t n true by' zc] (kk:WL ro P N ops Q rest (cm ρ d (.agg vs.toArray)) w) (hx:ev ρ x=.pointer (some ⟨b,o,none⟩):=by exact rfl) (hi:H[i]?=some (.blk b t' cs fz):=by exact rfl) (hv:(cs.drop o).take n=vs:=by exact rfl) (hl:vs.length=n:=by exact rfl) (hN:d<N:=by decide):WL ro P N ops Q (⟨some d,.load t x,ty,pos,af,none⟩::rest) ρ w:=bk ht.out hx (hh.aK hi hv) hl hN kk
theorem x9 (hh:Hp w0 H w) [ht:aC P t n ag by' zc] (kk:∀b w',Hp w0 (.blk b t zc (0,0)::H) w'→WL ro P N ops Q rest (cm ρ d (.pointer (some ⟨b,0,none⟩))) w') (hN:d<N:=by decide):WL ro P N ops Q (⟨some d,.alloc t,ty,pos,af,none⟩::rest) ρ w:=K6 hh ht.out hN kk
theorem BL {v:Value} (hh:Hp w0 H w) (cs:List Value) (kk:∀b w',Hp w0 (.blk b t cs (0,0)::H) w'→WL ro P N ops Q rest (cm ρ d (.pointer (some ⟨b,0,none⟩))) w') (hx:ev ρ x=v:=by exact rfl) (hc:v.cells=cs.toArray:=by exact rfl) (hN:d<N:=by decide):WL ro P N ops Q (⟨some d,.box t x,ty,pos,af,none⟩::rest) ρ w:=Ov hh hx hc hN kk
theorem gE {v:Value} (hh:Hp w0 H w) (i:Nat) (vs:List Value) [ht:aC P t n ag by' zc] (kk:∀w',Hp w0 (H.set i (.blk b t' (bO cs o vs) fz)) w'→WL ro P N ops Q rest ρ w') (hx:ev ρ x=.pointer (some ⟨b,o,none⟩):=by exact rfl) (hi:H[i]?=some (.blk b t' cs fz):=by exact rfl) (hy:ev ρ y=v:=by exact rfl) (hc:v.cells=vs.toArray:=by exact rfl) (hl:vs.length=n:=by exact rfl) (ho:o+n≤cs.length:=by simp) (h1:(vs.all Value.oneCell')=true:=by exact rfl):WL ro P N ops Q (⟨none,.store t x y,ty,pos,af,none⟩::rest) ρ w:=xD hh hx hi hy hc ht.out hl ho h1 kk
theorem Bx {pl:List (Nat×Nat)} (cs:List Value) [hte:aC P t n true by' zc] [hpl:ki P t pl] (kk:WL ro P N ops Q rest (cm ρ d (.agg cs.toArray)) w) (hp:Dt ρ parts.toList=ps:=by exact rfl) (hf:mm (pl[·]?) zc ps=some cs:=by exact rfl) (hN:d<N:=by decide):WL ro P N ops Q (⟨some d,.build t parts,ty,pos,af,none⟩::rest) ρ w:=Qk hte.out hpl.out hp hf hN kk
theorem Xu {c a b:Operand}{v:Bool} (kk:WL ro P N ops Q rest (cm ρ d (.bool v)) w) (hc:ev ρ c=.bool true:=by exact rfl) (hx:ev ρ a=.bool v:=by exact pe rfl) (hN:d<N:=by decide):WL ro P N ops Q (⟨some d,.pick c a b,ty,pos,af,none⟩::rest) ρ w:=Og hc hx hN kk
theorem XC {c a b:Operand}{v:Bool} (kk:WL ro P N ops Q rest (cm ρ d (.bool v)) w) (hc:ev ρ c=.bool false:=by exact rfl) (hx:ev ρ b=.bool v:=by exact pe rfl) (hN:d<N:=by decide):WL ro P N ops Q (⟨some d,.pick c a b,ty,pos,af,none⟩::rest) ρ w:=N4 hc hx hN kk
theorem gS {op:Op}{b c:Bool} (kk:WL ro P N ops Q rest (cm ρ d undef) w) (hN:d<N:=by decide) (hj:(ops[j]?).bind (·.dst)=some dj:=by exact rfl) (hv:ρ dj=.bool c:=by exact rfl) (hb:c≠b:=by decide):WL ro P N ops Q (⟨some d,op,ty,pos,af,some (j,b)⟩::rest) ρ w:=pY hN hj hv hb kk
theorem gV {op:Op}{b:Bool} (kk:WL ro P N ops Q rest (cm ρ d undef) w) (hN:d<N:=by decide) (hj:(ops[j]?).bind (·.dst)=some dj:=by exact rfl) (hb:nb (ρ dj) b=true:=by exact rfl):WL ro P N ops Q (⟨some d,op,ty,pos,af,some (j,b)⟩::rest) ρ w:=u9 hN hj hb kk
theorem gT {dd:Option Nat}{op:Op}{b:Bool} (kk:WL ro P N ops Q (⟨dd,op,ty,pos,af,none⟩::rest) ρ w) (hj:(ops[j]?).bind (·.dst)=some dj:=by exact rfl) (hv:ρ dj=.bool b:=by exact rfl):WL ro P N ops Q (⟨dd,op,ty,pos,af,some (j,b)⟩::rest) ρ w:=l8 hj hv kk
theorem a0 {f:FuncId}{ts:Array TypeId}{v:Value} (hh:Hp w0 H w) (hc:Calls P f vs.toArray w fun e w'=>e=.returned v∧Below w.heap.size w w') [hf:ak P f] (ha:y4 ρ args.toList=vs) (kk:∀w',Hp w0 H w'→WL ro P N ops Q rest (cm ρ d v) w') (hN:d<N:=by decide):WL ro P N ops Q (⟨some d,.call ⟨.value (.func f),args,ts⟩,ty,pos,af,none⟩::rest) ρ w:=aq hc hf.out ha hN fun _ _ hq=>⟨_,hq.1,kk _ (hh.ext hq.2)⟩
theorem sr {id:Nat}{y:Code}{l:List Oper} (h:WL ro P N l.toArray (ek (fun ρ w=>WC ro P N y Q ρ w) Q) l ρ w):WC ro P N (.seq (.region id l.toArray false) y) Q ρ w:=bX (bZ h)
theorem cT {c:Operand}{x y:Code} (h:WC ro P N x Q ρ w) (hc:ev ρ c=.bool true:=by exact rfl):WC ro P N (.cond c x y) Q ρ w:=Kc hc h
theorem cF {c:Operand}{x y:Code} (h:WC ro P N y Q ρ w) (hc:ev ρ c=.bool false:=by exact rfl):WC ro P N (.cond c x y) Q ρ w:=Jy hc h
theorem YQ {fn:Func}{e:Exit}{t0:Tmp}{v0:Value} (h:R (.returned v0) w) (hr:fn.results= #[.tmp t0]:=by exact rfl) (h0:ρ t0=v0:=by first|exact ep rfl|exact lV rfl|exact zD rfl|exact Kk rfl|exact v_agg rfl|exact rfl) (he:e=.normal∨e=.ret:=by first|exact .inr rfl|exact .inl rfl):nP P fn R e ρ w:=Ym he hr h0 h
theorem Zl {fn:Func}{e:Exit}{t0 t1:Tmp}{v0:Value} (h:R (.returned (.tuple #[v0,v1])) w) (hr:fn.results= #[.tmp t0,.tmp t1]:=by exact rfl) (h0:ρ t0=v0:=by first|exact ep rfl|exact lV rfl|exact zD rfl|exact Kk rfl|exact v_agg rfl|exact rfl) (h1:ρ t1=v1:=by first|exact ep rfl|exact lV rfl|exact zD rfl|exact Kk rfl|exact v_agg rfl|exact rfl) (he:e=.normal∨e=.ret:=by first|exact .inr rfl|exact .inl rfl):nP P fn R e ρ w:=X1 he hr h0 h1 h
theorem Ys {fn:Func}{e:Exit}{t0 t1 t2:Tmp}{v0 v2:Value} (h:R (.returned (.tuple #[v0,v1,v2])) w) (hr:fn.results= #[.tmp t0,.tmp t1,.tmp t2]:=by exact rfl) (h0:ρ t0=v0:=by first|exact ep rfl|exact lV rfl|exact zD rfl|exact Kk rfl|exact v_agg rfl|exact rfl) (h1:ρ t1=v1:=by first|exact ep rfl|exact lV rfl|exact zD rfl|exact Kk rfl|exact v_agg rfl|exact rfl) (h2:ρ t2=v2:=by first|exact ep rfl|exact lV rfl|exact zD rfl|exact Kk rfl|exact v_agg rfl|exact rfl) (he:e=.normal∨e=.ret:=by first|exact .inr rfl|exact .inl rfl):nP P fn R e ρ w:=Yc he hr h0 h1 h2 h
theorem Hj {fn:Func}{e:Exit}{r0:ResultVar}{v0:Value} (h1:iT P ρ w [r0] [v0]) (h:R (.returned v0) w) (hr:fn.results= #[r0]:=by exact rfl) (he:e=.normal∨e=.ret:=by first|exact .inr rfl|exact .inl rfl):nP P fn R e ρ w:=VQ he hr h1 h
theorem Cw {fn:Func}{e:Exit}{r0 r1:ResultVar}{v0:Value} (h1:iT P ρ w [r0,r1] [v0,v1]) (h:R (.returned (.tuple #[v0,v1])) w) (hr:fn.results= #[r0,r1]:=by exact rfl) (he:e=.normal∨e=.ret:=by first|exact .inr rfl|exact .inl rfl):nP P fn R e ρ w:=Wz he hr h1 h
theorem Kg {fn:Func}{e:Exit}{r0 r1 r2:ResultVar}{v0 v2:Value} (h1:iT P ρ w [r0,r1,r2] [v0,v1,v2]) (h:R (.returned (.tuple #[v0,v1,v2])) w) (hr:fn.results= #[r0,r1,r2]:=by exact rfl) (he:e=.normal∨e=.ret:=by first|exact .inr rfl|exact .inl rfl):nP P fn R e ρ w:=V9 he hr h1 h
end
class TS (P:Program) (t:TypeId) (n:outParam Nat):Prop where out:(P.info? t).map (·.size)=some n
instance {P:Program}{t n b:Nat}{ag:Bool}{zc:List Value} [aC P t n ag b zc]:TS P t n:=⟨aC.size⟩
end Go.Proofs.YtmchncaiffbpaaaGreatDoor
