/- Lemmas for bernBacks, part 2. -/
import Derived.WalkKit
import Derived.WalkLawsBesides
import Derived.Below
import Derived.Laws.OwnMore
import Derived.Laws.Rows
import Derived.RegionTactic
import Derived.ControlIn
import Derived.TacticsIn
import Derived.AtR
import Derived.Deep.AppendLies
import Derived.Maps.AppendAt
import Derived.OwnWalk
import Derived.Test.YtolamocnngihpaaGreatDoorProg
import Derived.KernelRfl
import Derived.Test.YtolamocnngihpaaGreatDoorZ1
namespace Go.Proofs.YtolamocnngihpaaGreatDoor
open Go.RowKit
abbrev Rf:=Nat→Value
def cY (ρ:Rf) (d:Nat) (v:Value):Rf:=fun i=>bif Nat.beq i d then v else ρ i
def ev (ρ:Rf):Operand→Value
 |.tmp t=>ρ t
 |.const v=>v
 |.global g=>.pointer (some ⟨g,0,none⟩)
 |.func f=>.func (.func f) #[] #[]
structure fi (N:Nat) (D:List Deferred) (a:Act) (ρ:Rf):Prop where
 nd:a.defers=D
 sz:a.tmps.size=N
 at_:∀i,a.tmps.getD i undef=ρ i
abbrev Fits (N:Nat) (a:Act) (ρ:Rf):Prop:=fi N [] a ρ
theorem fi.eval {N:Nat}{D:List Deferred}{a:Act}{ρ:Rf} (h:fi N D a ρ):a.eval=ev ρ:=by
 funext x
 cases x with
 |tmp t=>exact h.at_ t
 |_=>rfl
theorem ju (ρ:Rf) (d:Nat) (v:Value):cY ρ d v d=v:=by simp [cY]
theorem bI (ρ:Rf) {d i:Nat} (h:i≠d) (v:Value):cY ρ d v i=ρ i:=by
 have hb:Nat.beq i d=false:=by
  cases hb:Nat.beq i d
  ·rfl
  ·exact absurd (Nat.eq_of_beq_eq_true hb) h
 simp only [cY,hb,cond_false]
theorem fi.put {N:Nat}{D:List Deferred}{a:Act}{ρ:Rf} (h:fi N D a ρ) {d:Nat} (hd:d<N) (v:Value):fi N D (a.put (some d) v) (cY ρ d v):=by
 refine ⟨h.nd,by simp [Act.put,h.sz],fun i=> ?_⟩;by_cases hi:i=d
 ·subst hi;rw [ju];simp [Act.put,h.sz,hd]
 ·rw [bI ρ hi,←h.at_ i];have:d≠i:=fun e=>hi e.symm;simp [Act.put,Array.getElem?_setIfInBounds_ne this]
abbrev Kq:=Exit→Rf→World→Prop
def ea (N:Nat) (D:List Deferred) (Q:Kq):Exit→Act→World→Prop:=fun e a w=>∃ρ,fi N D a ρ∧Q e ρ w
abbrev lift (N:Nat) (Q:Kq):Exit→Act→World→Prop:=ea N [] Q
structure Mode where
 round:Option Nat:=none
 D:List Deferred:=[]
 any:Bool:=false
abbrev Mode.plain:Mode:={}
def FW (ro:Option Nat):Fence:={ Fence.wide with round:=ro }
structure WC (ro:Mode) (P:Program) (N:Nat) (c:Code) (Q:Kq) (ρ:Rf) (w:World):Prop where
 nC:ro.any=false→∀a,fi N ro.D a ρ→c.wp P (ea N ro.D Q) a w
 kr:∀a,fi N ro.D a ρ→∀n,c.wpIn (FW ro.round) n P (ea N ro.D Q) a w
structure WL (ro:Mode) (P:Program) (N:Nat) (ops:Array Oper) (Q:Kq) (l:List Oper) (ρ:Rf) (w:World):Prop where
 nC:ro.any=false→∀a,fi N ro.D a ρ→wpList P ops (ea N ro.D Q) l a w
 kr:∀a,fi N ro.D a ρ→∀n,wpListIn (FW ro.round) n P ops (ea N ro.D Q) l a w
def cU (next:Rf→World→Prop) (Q:Kq):Kq
 |.normal,ρ,w=>next ρ w
 |e,ρ,w=>Q e ρ w
def sI (id:Nat) (Q:Kq):Kq
 |.exit id',ρ,w=>if id'=id then Q .normal ρ w else Q (.exit id') ρ w
 |e,ρ,w=>Q e ρ w
section code
variable {ro:Mode}{P:Program}{N:Nat}{Q:Kq}{ρ:Rf}{w:World}
theorem WC.rD {D:List Deferred}{c:Code} (h:∀a,fi N D a ρ→c.wp P (ea N D Q) a w):WC ⟨none,D,false⟩ P N c Q ρ w:=⟨fun _=>h,fun a hf _=>wpIn_wide.2 (h a hf)⟩
theorem WC.out {D:List Deferred}{c:Code} (h:WC ⟨none,D,false⟩ P N c Q ρ w):∀a,fi N D a ρ→c.wp P (ea N D Q) a w:=h.nC rfl
theorem SV {r:Option Nat}{D:List Deferred}{c:Code} (h:WC ⟨r,D,false⟩ P N c Q ρ w):WC ⟨r,D,true⟩ P N c Q ρ w:=⟨fun h=>(by cases h),h.kr⟩
theorem WL.out {D:List Deferred}{ops:Array Oper}{l:List Oper} (h:WL ⟨none,D,false⟩ P N ops Q l ρ w):∀a,fi N D a ρ→wpList P ops (ea N D Q) l a w:=h.nC rfl
theorem yU {D:List Deferred}{Q Q':Kq} (h:∀e ρ w,Q e ρ w→Q' e ρ w) (e:Exit) (a:Act) (w:World):ea N D Q e a w→ea N D Q' e a w:=
 fun ⟨ρ,hf,hq⟩=>⟨ρ,hf,h _ _ _ hq⟩
theorem WC.mono {c:Code}{Q':Kq} (h:WC ro P N c Q ρ w) (hq:∀e ρ w,Q e ρ w→Q' e ρ w):WC ro P N c Q' ρ w:=
 ⟨fun hm a hf=>wp_mono (h.nC hm a hf) (yU hq),fun a hf n=>wpIn_mono (h.kr a hf n) (yU hq)⟩
theorem ai {x y:Code} (h:WC ro P N x (cU (fun ρ w=>WC ro P N y Q ρ w) Q) ρ w):WC ro P N (.seq x y) Q ρ w:=
 ⟨fun hm a hf=>wp_seq (wp_mono (h.nC hm a hf) fun e a' w' ⟨ρ',hf',hq⟩=>by
  cases e with
  |normal=>exact hq.nC hm a' hf'
  |_=>exact ⟨ρ',hf',hq⟩),
 fun a hf n=>wpIn_seq (wpIn_mono (h.kr a hf n) fun e a' w' ⟨ρ',hf',hq⟩=>by
  cases e with
  |normal=>exact hq.kr a' hf' n
  |_=>exact ⟨ρ',hf',hq⟩)⟩
theorem au (h:Q .normal ρ w):WC ro P N .skip Q ρ w:=⟨fun _ _ hf=>wp_skip ⟨ρ,hf,h⟩,fun _ hf _=>wpIn_skip ⟨ρ,hf,h⟩⟩
theorem ay (h:Q .ret ρ w):WC ro P N .ret Q ρ w:=⟨fun _ _ hf=>wp_ret ⟨ρ,hf,h⟩,fun _ hf _=>wpIn_ret ⟨ρ,hf,h⟩⟩
theorem a6 {id:Nat} (h:Q (.exit id) ρ w):WC ro P N (.exit id) Q ρ w:=⟨fun _ _ hf=>wp_exit ⟨ρ,hf,h⟩,fun _ hf _=>wpIn_exit ⟨ρ,hf,h⟩⟩
theorem av {id:Nat}{c:Code} (h:WC ro P N c (sI id Q) ρ w):WC ro P N (.block id c) Q ρ w:=
 have key:∀(D:List Deferred) e a' w',ea N D (sI id Q) e a' w'→Exit.inBlock id (ea N D Q) e a' w':=fun D e a' w' ⟨ρ',hf',hq⟩=>by
  cases e with
  |exit id'=>
   by_cases hid:id'=id
   ·simp only [sI,hid,if_true] at hq;simp only [Exit.inBlock,hid,if_true];exact ⟨ρ',hf',hq⟩
   ·simp only [sI,hid,if_false] at hq;simp only [Exit.inBlock,hid,if_false];exact ⟨ρ',hf',hq⟩
  |_=>exact ⟨ρ',hf',hq⟩
 ⟨fun hm a hf=>wp_block (wp_mono (h.nC hm a hf) (key _)),fun a hf n=>wpIn_block (wpIn_mono (h.kr a hf n) (key _))⟩
theorem JA {c:Operand}{x y:Code} (hc:ev ρ c=.bool true) (h:WC ro P N x Q ρ w):WC ro P N (.cond c x y) Q ρ w:=
 ⟨fun hm a hf=>wp_cond_true (by rw [hf.eval];exact hc) (h.nC hm a hf),fun a hf n=>wpIn_cond_true (by rw [hf.eval];exact hc) (h.kr a hf n)⟩
theorem IW {c:Operand}{x y:Code} (hc:ev ρ c=.bool false) (h:WC ro P N y Q ρ w):WC ro P N (.cond c x y) Q ρ w:=
 ⟨fun hm a hf=>wp_cond_false (by rw [hf.eval];exact hc) (h.nC hm a hf),fun a hf n=>wpIn_cond_false (by rw [hf.eval];exact hc) (h.kr a hf n)⟩
theorem ar {id:Nat}{l:List Oper} (h:WL ro P N l.toArray Q l ρ w):WC ro P N (.region id l.toArray false) Q ρ w:=
 ⟨fun hm a hf=>wp_region_lit (h.nC hm a hf),fun a hf n=>wpIn_region_lit (h.kr a hf n)⟩
theorem aj {next:Rf→World→Prop} (h:next ρ w):cU next Q .normal ρ w:=h
theorem aN {next:Rf→World→Prop} (h:Q .ret ρ w):cU next Q .ret ρ w:=h
theorem aH {next:Rf→World→Prop}{id:Nat} (h:Q (.exit id) ρ w):cU next Q (.exit id) ρ w:=h
theorem bM {id:Nat} (h:Q .normal ρ w):sI id Q .normal ρ w:=h
theorem cm {id:Nat} (h:Q .ret ρ w):sI id Q .ret ρ w:=h
theorem bB {id:Nat} (h:Q .normal ρ w):sI id Q (.exit id) ρ w:=by simpa [sI] using h
def mask (mods:List Nat) (ρ' ρ:Rf):Rf:=fun i=>bif mods.contains i then ρ' i else ρ i
def jE (mods:List Nat) (ρ1 ρ:Rf):Prop:=∀i,mods.contains i=false→ρ1 i=ρ i
theorem fw (mods:List Nat) (ρ' ρ:Rf):jE mods (mask mods ρ' ρ) ρ:=fun i hi=>by simp only [mask,hi,cond_false]
theorem gj {mods:List Nat}{ρ1 ρ:Rf}{d:Nat}{v:Value} (hd:mods.contains d=true) (h:jE mods ρ1 ρ):jE mods (cY ρ1 d v) ρ:=fun i hi=>by
 rw [bI ρ1 (fun e=>by rw [e,hd] at hi;cases hi)];exact h i hi
theorem eL {mods mods2:List Nat}{ρ' ρ1 ρ:Rf} (hm:(mods2.all fun i=>mods.contains i)=true) (h:jE mods ρ1 ρ):jE mods (mask mods2 ρ' ρ1) ρ:=fun i hi=>by
 have h2:mods2.contains i=false:=by
  cases hc:mods2.contains i with
  |false=>rfl
  |true=>
   have:=Y6.1 hm i (by simpa using hc);rw [this] at hi;cases hi
 simp only [mask,h2,cond_false];exact h i hi
theorem Yy {p:Prop} (h:p:=by repeat (first|exact fw _ _ _|refine gj rfl ?_|refine eL rfl ?_)):p:=h
theorem Yz {p:Prop} (h:p:=by (repeat (first|exact fw _ _ _|refine gj rfl ?_|refine eL rfl ?_));exact fun _ _=>rfl):p:=h
theorem jI {mods:List Nat}{ρ1 ρ:Rf} (h:jE mods ρ1 ρ):mask mods ρ1 ρ=ρ1:=by
 funext i;simp only [mask]
 cases hc:mods.contains i with
 |true=>rfl
 |false=>simpa using (h i hc).symm
theorem iy (ρ:Rf) (d:Nat):cY ρ d (ρ d)=ρ:=by
 funext i;by_cases h:i=d
 ·subst h;rw [ju]
 ·rw [bI ρ h]
theorem Ax {c:Code} (I:Rf→World→Prop) (μ:Rf→World→Nat) (h0:I ρ w)
  (round:∀ρ w,I ρ w→WC ro P N c (cU (fun ρ' w'=>I ρ' w'∧μ ρ' w'<μ ρ w) Q) ρ w):WC ro P N (.loop c) Q ρ w:=by
 refine ⟨fun hm a hf=> ?_,fun a hf n=> ?_⟩
 ·refine wp_loop (fun a w=>∃ρ,fi N ro.D a ρ∧I ρ w) (fun a w=>μ (fun i=>a.tmps.getD i undef) w) ⟨ρ,hf,h0⟩ ?_;rintro a w ⟨ρ,hf,hi⟩;refine wp_mono ((round ρ w hi).nC hm a hf) ?_;exact UG
 ·refine wpIn_loop (fun a w=>∃ρ,fi N ro.D a ρ∧I ρ w) (fun a w=>μ (fun i=>a.tmps.getD i undef) w) ⟨ρ,hf,h0⟩ ?_;rintro a w ⟨ρ,hf,hi⟩;refine wpIn_mono ((round ρ w hi).kr a hf n) ?_;exact UG
theorem aT {c:Code} (mods:List Nat) (s0:Nat) (I:Value→World→Prop) (μ:Value→World→Nat) (h0:I (ρ s0) w)
  (round:∀ρ' v0 w',I v0 w'→WC ro P N c (cU (fun ρ2 w2=>I (ρ2 s0) w2∧μ (ρ2 s0) w2<μ v0 w'∧jE mods ρ2 ρ) Q) (cY (mask mods ρ' ρ) s0 v0) w'):WC ro P N (.loop c) Q ρ w:=
 Ax (fun ρ1 w1=>I (ρ1 s0) w1∧jE mods ρ1 ρ) (fun ρ1 w1=>μ (ρ1 s0) w1) ⟨h0,fun _ _=>rfl⟩ fun ρ1 w1 ⟨hi,ha⟩=>by
  have h:=round ρ1 (ρ1 s0) w1 hi;rw [jI ha,iy] at h;exact h.mono fun e ρ2 w2 hq=>by
   cases e with
   |normal=>exact ⟨⟨hq.1,hq.2.2⟩,hq.2.1⟩
   |_=>exact hq
theorem bC {c:Code} (mods:List Nat) (s0 s1:Nat) (I:Value→Value→World→Prop) (μ:Value→Value→World→Nat) (h0:I (ρ s0) (ρ s1) w)
  (round:∀ρ' v0 v1 w',I v0 v1 w'→WC ro P N c (cU (fun ρ2 w2=>I (ρ2 s0) (ρ2 s1) w2∧μ (ρ2 s0) (ρ2 s1) w2<μ v0 v1 w'∧jE mods ρ2 ρ) Q) (cY (cY (mask mods ρ' ρ) s0 v0) s1 v1) w'):WC ro P N (.loop c) Q ρ w:=
 Ax (fun ρ1 w1=>I (ρ1 s0) (ρ1 s1) w1∧jE mods ρ1 ρ) (fun ρ1 w1=>μ (ρ1 s0) (ρ1 s1) w1) ⟨h0,fun _ _=>rfl⟩ fun ρ1 w1 ⟨hi,ha⟩=>by
  have h:=round ρ1 (ρ1 s0) (ρ1 s1) w1 hi;rw [jI ha,iy,iy] at h;exact h.mono fun e ρ2 w2 hq=>by
   cases e with
   |normal=>exact ⟨⟨hq.1,hq.2.2⟩,hq.2.1⟩
   |_=>exact hq
theorem Dp {c:Code} (mods:List Nat) (s0 s1 s2:Nat) (I:Value→Value→Value→World→Prop) (μ:Value→Value→Value→World→Nat) (h0:I (ρ s0) (ρ s1) (ρ s2) w)
  (round:∀ρ' v0 v1 v2 w',I v0 v1 v2 w'→WC ro P N c (cU (fun ρ2 w2=>I (ρ2 s0) (ρ2 s1) (ρ2 s2) w2∧μ (ρ2 s0) (ρ2 s1) (ρ2 s2) w2<μ v0 v1 v2 w'∧jE mods ρ2 ρ) Q) (cY (cY (cY (mask mods ρ' ρ) s0 v0) s1 v1) s2 v2) w'):WC ro P N (.loop c) Q ρ w:=
 Ax (fun ρ1 w1=>I (ρ1 s0) (ρ1 s1) (ρ1 s2) w1∧jE mods ρ1 ρ) (fun ρ1 w1=>μ (ρ1 s0) (ρ1 s1) (ρ1 s2) w1) ⟨h0,fun _ _=>rfl⟩ fun ρ1 w1 ⟨hi,ha⟩=>by
  have h:=round ρ1 (ρ1 s0) (ρ1 s1) (ρ1 s2) w1 hi;rw [jI ha,iy,iy,iy] at h;exact h.mono fun e ρ2 w2 hq=>by
   cases e with
   |normal=>exact ⟨⟨hq.1,hq.2.2⟩,hq.2.1⟩
   |_=>exact hq
end code
inductive KC (P:Program) (ρ:Rf) (w:World):ResultVar→Value→Prop
 |tmp (t:Tmp) {v:Value} (h:ρ t=v):KC P ρ w (.tmp t) v
 |cell (p:Tmp) (t:TypeId) {a:Addr}{v:Value} (hp:ρ p=.pointer (some a)) (h:(loadVar t a).run P w=.ok v w):KC P ρ w (.cell p t) v
def iL (P:Program) (ρ:Rf) (w:World):List ResultVar→List Value→Prop
 |[],[]=>True
 |r::rs,v::vs=>KC P ρ w r v∧iL P ρ w rs vs
 |_,_=>False
def zj:List Value→Value
 |[v]=>v
 |vs=>.tuple vs.toArray
def nX (P:Program) (fn:Func) (R:Ending→World→Prop):Kq:=fun e ρ w=>
 (e=.normal∨e=.ret)∧∃v,(∀tmps:Array Value,(∀i,tmps.getD i undef=ρ i)→(results fn tmps).run P w=.ok v w)∧R (.returned v) w
theorem Ie {P:Program}{ρ:Rf}{w:World}{f:ResultVar→Sem Value} (h1:∀t,(f (.tmp t)).run P w=.ok (ρ t) w)
  (h2:∀p t a v,ρ p=.pointer (some a)→(loadVar t a).run P w=.ok v w→(f (.cell p t)).run P w=.ok v w):∀(rs:List ResultVar) (vs:List Value),iL P ρ w rs vs→
  (rs.mapM f).run P w=.ok vs w
 |[],[],_=>by simp
 |[],_::_,h=>h.elim
 |_::_,[],h=>h.elim
 |r::rs,v::vs,h=>by
  have ih:=Ie h1 h2 rs vs h.2;obtain ⟨h3,_⟩:=h;rw [List.mapM_cons]
  cases h3 with
  |tmp t hv=>rw [Sem.run_bind,h1,Result.andThen_ok,Sem.run_bind,ih,Result.andThen_ok,Sem.run_pure,hv]
  |cell p t hp hl=>rw [Sem.run_bind,h2 _ _ _ _ hp hl,Result.andThen_ok,Sem.run_bind,ih,Result.andThen_ok,Sem.run_pure]
theorem lH {P:Program}{fn:Func}{R:Ending→World→Prop}{ρ:Rf}{w:World}{rs:List ResultVar}{vs:List Value}{e:Exit} (he:e=.normal∨e=.ret) (hr:fn.results=rs.toArray)
  (hv:iL P ρ w rs vs) (h:R (.returned (zj vs)) w):nX P fn R e ρ w:=by
 refine ⟨he,zj vs,fun tmps ht=> ?_,h⟩;unfold results;rw [hr,Sem.run_bind,List.mapM_toArray,Sem.run_map,Ie (ρ:=ρ) (fun t=>by simp [ht]) (fun p t a v hp hl=>by simp [ht,hp,asAddr,hl]) rs vs hv];simp only [Result.andThen_ok]
 match vs with
 |[]=>simp [zj]
 |[v]=>simp [zj]
 |_::_::_=>simp [zj]
theorem fF {P:Program}{ρ:Rf}{w:World}:iL P ρ w [] []:=trivial
theorem jF {P:Program}{ρ:Rf}{w:World}{t:Tmp}{v:Value}{rs:List ResultVar}{vs:List Value} (h:ρ t=v) (k:iL P ρ w rs vs):iL P ρ w (.tmp t::rs) (v::vs):=⟨.tmp t h,k⟩
theorem er {P:Program}{ρ:Rf}{w:World}{p:Tmp}{t:TypeId}{a:Addr}{v:Value}{rs:List ResultVar}{vs:List Value} (hp:ρ p=.pointer (some a)) (h:(loadVar t a).run P w=.ok v w) (k:iL P ρ w rs vs):iL P ρ w (.cell p t::rs) (v::vs):=⟨.cell p t hp h,k⟩
theorem WU {P:Program}{fn:Func}{R:Ending→World→Prop}{ρ:Rf}{w:World}{t:Tmp}{e:Exit}{v:Value} (he:e=.normal∨e=.ret) (hr:fn.results= #[.tmp t]) (hv:ρ t=v) (h:R (.returned v) w):nX P fn R e ρ w:=
 lH he hr (jF hv fF) h
theorem WM {P:Program}{fn:Func}{R:Ending→World→Prop}{ρ:Rf}{w:World}{t u:Tmp}{e:Exit}{v x:Value} (he:e=.normal∨e=.ret) (hr:fn.results= #[.tmp t,.tmp u]) (hv:ρ t=v) (hx:ρ u=x) (h:R (.returned (.tuple #[v,x])) w):nX P fn R e ρ w:=
 lH he hr (jF hv (jF hx fF)) h
theorem WK {P:Program}{fn:Func}{R:Ending→World→Prop}{ρ:Rf}{w:World}{t u s:Tmp}{e:Exit}{v x y:Value} (he:e=.normal∨e=.ret) (hr:fn.results= #[.tmp t,.tmp u,.tmp s]) (hv:ρ t=v) (hx:ρ u=x) (hy:ρ s=y) (h:R (.returned (.tuple #[v,x,y])) w):nX P fn R e ρ w:=
 lH he hr (jF hv (jF hx (jF hy fF))) h
theorem T3 {P:Program}{fn:Func}{R:Ending→World→Prop}{ρ:Rf}{w:World}{e:Exit} (he:e=.normal∨e=.ret) (hr:fn.results= #[]) (h:R (.returned (.tuple #[])) w):nX P fn R e ρ w:=
 lH he hr fF h
theorem Vr {P:Program}{fn:Func}{R:Ending→World→Prop}{ρ:Rf}{w:World}{r:ResultVar}{e:Exit}{v:Value} (he:e=.normal∨e=.ret) (hr:fn.results= #[r]) (h1:iL P ρ w [r] [v]) (h:R (.returned v) w):nX P fn R e ρ w:=
 lH he hr h1 h
theorem V9 {P:Program}{fn:Func}{R:Ending→World→Prop}{ρ:Rf}{w:World}{r s:ResultVar}{e:Exit}{v x:Value} (he:e=.normal∨e=.ret) (hr:fn.results= #[r,s]) (h1:iL P ρ w [r,s] [v,x]) (h:R (.returned (.tuple #[v,x])) w):nX P fn R e ρ w:=
 lH he hr h1 h
theorem UC {P:Program}{fn:Func}{R:Ending→World→Prop}{ρ:Rf}{w:World}{r s t:ResultVar}{e:Exit}{v x y:Value} (he:e=.normal∨e=.ret) (hr:fn.results= #[r,s,t]) (h1:iL P ρ w [r,s,t] [v,x,y]) (h:R (.returned (.tuple #[v,x,y])) w):nX P fn R e ρ w:=
 lH he hr h1 h
def Ir (l:List Value):Rf:=fun i=>l.getD i undef
theorem ak {P:Program}{f:FuncId}{fn:Func}{c:Code}{N:Nat}{l:List Value}{w:World}{R:Ending→World→Prop}
  (hf:P.funcs[f]?=some fn) (hb:fn.body=some c) (hn:fn.ntmps=N) (ha:l.length≤N)
  (h:WC .plain P N c (nX P fn R) (Ir l) w):Calls P f l.toArray w R:=by
 refine calls_of_wp hf hb ?_;refine wp_mono (h.out _ ⟨rfl,by simp [hn];omega,fun i=> ?_⟩) ?_
 ·exact SX
 ·rintro e a w' ⟨ρ',hf',he,v,hr,hR⟩
  rcases he with rfl|rfl<;>exact ⟨hf'.nd,v,hr _ hf'.at_,hR⟩
section
variable {ro:Mode}{P:Program}{N:Nat}{ops:Array Oper}{Q:Kq}{ρ:Rf}{w:World}{rest:List Oper}
theorem mr {f:Operand→Value}{o:Oper}{x:Next}{w':World} (ro:Option Nat) (h:(execOp f o).run P w=.ok x w') (hx:∀d,x≠.defer d):(o.semAt ro f).run P w=.ok x w':=by
 cases hop:o.op with
 |defer c=>
  exfalso;unfold execOp at h;rw [hop] at h;simp only [Sem.run_bind] at h
  cases h2:(resolve f c o.type).run P w with
  |ok v w2=>
   rw [h2] at h;simp at h;exact hx _ h.1.symm
  |halt e w2=>
   rw [h2] at h;simp [Result.andThen] at h
 |_=>rw [Oper.semAt_eq _ _ _ (by rw [hop];intro c hc;cases hc)];exact h
theorem D5 {r1:Option Nat}{n:Nat}{f:FuncId}{args:Array Value}{R:Ending→World→Prop} (h:Calls P f args w R):CallsIn (FW r1) n P f args w R:=(callsIn_wide (n:=n)).2 h
theorem aE (h:Q .normal ρ w):WL ro P N ops Q [] ρ w:=⟨fun _ _ hf=>wpList_nil ⟨ρ,hf,h⟩,fun _ hf _=>wpListIn_nil ⟨ρ,hf,h⟩⟩
theorem aa {next:Rf→World→Prop}{Q':Kq} (h:next ρ w):WL ro P N ops (cU next Q') [] ρ w:=aE h
theorem aZ {o:Oper}{d:Nat}{v:Value}{w':World} (hg:o.guard=none) (hd:o.dst=some d) (hN:d<N)
  (hr:(execOp (ev ρ) o).run P w=.ok (.value v) w') (k:WL ro P N ops Q rest (cY ρ d v) w'):WL ro P N ops Q (o::rest) ρ w:=
 ⟨fun hm a hf=>wpList_plain hg fun K hK=>by
  unfold Oper.wp;rw [hf.eval,hr];show K (a.put o.dst v) w';rw [hd];exact hK _ _ (k.nC hm _ (hf.put hN v)),
 fun a hf n=>wpListIn_plain hg fun K hK=>by
  refine ⟨fun _ _=>trivial, ?_⟩;rw [hf.eval,mr _ hr (fun _ h=>by cases h)];show K (a.put o.dst v) w';rw [hd];exact hK _ _ (k.kr _ (hf.put hN v) n)⟩
theorem G9 {o:Oper}{w':World} (hg:o.guard=none) (hd:o.dst=none)
  (hr:(execOp (ev ρ) o).run P w=.ok .skip w') (k:WL ro P N ops Q rest ρ w'):WL ro P N ops Q (o::rest) ρ w:=
 ⟨fun hm a hf=>wpList_plain hg fun K hK=>by
  unfold Oper.wp;rw [hf.eval,hr];show K (a.put o.dst undef) w';rw [hd];exact hK _ _ (k.nC hm _ hf),
 fun a hf n=>wpListIn_plain hg fun K hK=>by
  refine ⟨fun _ _=>trivial, ?_⟩;rw [hf.eval,mr _ hr (fun _ h=>by cases h)];show K (a.put o.dst undef) w';rw [hd];exact hK _ _ (k.kr _ hf n)⟩
theorem D3 {o:Oper}{d:Nat}{f:FuncId}{args:Array Value}{w1:World}{R:Ending→World→Prop} (hg:o.guard=none) (hd:o.dst=some d) (hN:d<N)
  (hr:(execOp (ev ρ) o).run P w=.ok (.enter f args) w1) (hc:Calls P f args w1 R)
  (k:∀e w',R e w'→∃v,e=.returned v∧WL ro P N ops Q rest (cY ρ d v) w'):WL ro P N ops Q (o::rest) ρ w:=
 ⟨fun hm a hf=>wpList_plain hg fun K hK=>by
  unfold Oper.wp;rw [hf.eval,hr];show Calls P f args w1 _;refine hc.mono fun e w' hR=> ?_;obtain ⟨v,rfl,hk⟩:=k e w' hR;show K (a.put o.dst v) w';rw [hd];exact hK _ _ (hk.nC hm _ (hf.put hN v)),
 fun a hf n=>wpListIn_plain hg fun K hK=>by
  refine ⟨fun _ _=>trivial, ?_⟩;rw [hf.eval,mr _ hr (fun _ h=>by cases h)];refine ⟨fun h=>(by cases h), ?_⟩;refine D5 (hc.mono fun e w' hR=> ?_);obtain ⟨v,rfl,hk⟩:=k e w' hR;show K (a.put o.dst v) w';rw [hd];exact hK _ _ (hk.kr _ (hf.put hN v) n)⟩
theorem aP {d:Option Nat}{op:Op}{ty:TypeId}{pos:String}{af:Array Edge}{j dj:Nat}{b:Bool}
  (hj:(ops[j]?).bind (·.dst)=some dj) (hv:ρ dj=.bool b) (k:WL ro P N ops Q (⟨d,op,ty,pos,af,none⟩::rest) ρ w):
  WL ro P N ops Q (⟨d,op,ty,pos,af,some (j,b)⟩::rest) ρ w:=
 have h0:∀D a,fi N D a ρ→Region.wanted ⟨d,op,ty,pos,af,some (j,b)⟩ (yielded ops a.tmps)=true:=fun D a hf=>by
  have h2:=hf.at_ dj;rw [hv,ZI] at h2
  cases h3:a.tmps[dj]? with
  |none=>rw [h3] at h2;cases h2
  |some x=>
   rw [h3] at h2;simp only [ZY] at h2;subst h2;simp [Region.wanted,yielded,hj,h3]
 ⟨fun hm a hf=>by
  have h2:=k.nC hm a hf;unfold wpList at h2 ⊢;rw [YA (h0 _ a hf)];rw [YA (by simp [Region.wanted])] at h2;exact h2,
 fun a hf n=>by
  have h2:=k.kr a hf n;unfold wpListIn at h2 ⊢;rw [YA (h0 _ a hf)];rw [YA (by simp [Region.wanted])] at h2;exact h2⟩
theorem l0 {d:Nat}{op:Op}{ty:TypeId}{pos:String}{af:Array Edge}{j dj:Nat}{b c:Bool} (hN:d<N)
  (hj:(ops[j]?).bind (·.dst)=some dj) (hv:ρ dj=.bool c) (hb:c≠b) (k:WL ro P N ops Q rest (cY ρ d undef) w):
  WL ro P N ops Q (⟨some d,op,ty,pos,af,some (j,b)⟩::rest) ρ w:=
 have h0:∀D a,fi N D a ρ→Region.wanted ⟨some d,op,ty,pos,af,some (j,b)⟩ (yielded ops a.tmps)=false:=fun D a hf=>by
  have h2:=hf.at_ dj;rw [hv,ZI] at h2
  cases h3:a.tmps[dj]? with
  |none=>rw [h3] at h2;cases h2
  |some x=>
   rw [h3] at h2;simp only [ZY] at h2;subst h2;simp [Region.wanted,yielded,hj,h3,hb]
 ⟨fun hm a hf=>by
  unfold wpList;rw [h0 _ a hf];exact k.nC hm _ (hf.put hN undef),
 fun a hf n=>by
  unfold wpListIn;rw [h0 _ a hf];exact ⟨fun _ _=>trivial,k.kr _ (hf.put hN undef) n⟩⟩
def nb (v:Value) (b:Bool):Bool:=match v with|.bool c=>c !=b|_=>true
theorem xo {d:Nat}{op:Op}{ty:TypeId}{pos:String}{af:Array Edge}{j dj:Nat}{b:Bool} (hN:d<N)
  (hj:(ops[j]?).bind (·.dst)=some dj) (hb:nb (ρ dj) b=true) (k:WL ro P N ops Q rest (cY ρ d undef) w):
  WL ro P N ops Q (⟨some d,op,ty,pos,af,some (j,b)⟩::rest) ρ w:=by
 cases hv:ρ dj with
 |bool c=>
  rw [hv] at hb;exact l0 hN hj hv (by simpa [nb] using hb) k
 |_=>
  have h0:∀D a,fi N D a ρ→Region.wanted ⟨some d,op,ty,pos,af,some (j,b)⟩ (yielded ops a.tmps)=false:=fun D a hf=>by
   have h2:=hf.at_ dj;rw [hv,ZI] at h2
   cases h3:a.tmps[dj]? with
   |none=>simp [Region.wanted,yielded,hj,h3]
   |some x=>
    rw [h3] at h2;simp only [ZY] at h2;subst h2;simp [Region.wanted,yielded,hj,h3]
  refine ⟨fun hm a hf=> ?_,fun a hf n=> ?_⟩
  ·unfold wpList;rw [h0 _ a hf];exact k.nC hm _ (hf.put hN undef)
  ·unfold wpListIn;rw [h0 _ a hf];exact ⟨fun _ _=>trivial,k.kr _ (hf.put hN undef) n⟩
end
section
variable {P:Program}{ρ:Rf}{w:World}{d:Option Nat}{ty:TypeId}{pos:String}{af:Array Edge}{g:Option (Nat×Bool)}
theorem fy {x:Operand}{v:Value} (hx:ev ρ x=v):(execOp (ev ρ) ⟨d,.move x,ty,pos,af,g⟩).run P w=.ok (.value v) w:=by simp [execOp,hx]
theorem D6 {x:Operand}{v:Value} (hx:ev ρ x=v):(execOp (ev ρ) ⟨d,.assign x,ty,pos,af,g⟩).run P w=.ok (.value v) w:=by simp [execOp,hx]
theorem Cm {c a b:Operand}{v:Value} (hc:ev ρ c=.bool true) (hx:ev ρ a=v):(execOp (ev ρ) ⟨d,.pick c a b,ty,pos,af,g⟩).run P w=.ok (.value v) w:=by simp [execOp,asBool,hc,hx]
theorem Cp {c a b:Operand}{v:Value} (hc:ev ρ c=.bool false) (hx:ev ρ b=v):(execOp (ev ρ) ⟨d,.pick c a b,ty,pos,af,g⟩).run P w=.ok (.value v) w:=by simp [execOp,asBool,hc,hx]
section ints
variable {t u:TypeId}{x y:Operand}{k:IntKind}{a b:Int}
theorem Sb (hx:ev ρ x=.int k a) (hy:ev ρ y=.int k b):(execOp (ev ρ) ⟨d,.binOp .add t x y u,ty,pos,af,g⟩).run P w=.ok (.value (.int k (k.wrap (a+b)))) w:=by
 simp [execOp,hx,hy,eqGuard,binOp,Op.intArith]
theorem SE (hx:ev ρ x=.int k a) (hy:ev ρ y=.int k b):(execOp (ev ρ) ⟨d,.binOp .sub t x y u,ty,pos,af,g⟩).run P w=.ok (.value (.int k (k.wrap (a-b)))) w:=by
 simp [execOp,hx,hy,eqGuard,binOp,Op.intArith]
theorem QN (hx:ev ρ x=.int k a) (hy:ev ρ y=.int k b):(execOp (ev ρ) ⟨d,.binOp .mul t x y u,ty,pos,af,g⟩).run P w=.ok (.value (.int k (k.wrap (a*b)))) w:=by
 simp [execOp,hx,hy,eqGuard,binOp,Op.intArith]
theorem RY (hx:ev ρ x=.int k a) (hy:ev ρ y=.int k b) (hb:b≠0):(execOp (ev ρ) ⟨d,.binOp .quo t x y u,ty,pos,af,g⟩).run P w=.ok (.value (.int k (k.wrap (a.tdiv b)))) w:=by
 simp [execOp,hx,hy,eqGuard,binOp,Op.intDiv,hb]
theorem Q9 (hx:ev ρ x=.int k a) (hy:ev ρ y=.int k b) (hb:b≠0):(execOp (ev ρ) ⟨d,.binOp .rem t x y u,ty,pos,af,g⟩).run P w=.ok (.value (.int k (a.tmod b))) w:=by
 simp [execOp,hx,hy,eqGuard,binOp,Op.intDiv,hb]
theorem RU (hx:ev ρ x=.int k a) (hy:ev ρ y=.int k b):(execOp (ev ρ) ⟨d,.binOp .and t x y u,ty,pos,af,g⟩).run P w=.ok (.value (.int k (k.wrap (BitVec.ofInt k.bits a &&& BitVec.ofInt k.bits b).toNat))) w:=by
 simp [execOp,hx,hy,eqGuard,binOp,Op.intBits]
theorem WB (hx:ev ρ x=.int k a) (hy:ev ρ y=.int k b):(execOp (ev ρ) ⟨d,.binOp .or t x y u,ty,pos,af,g⟩).run P w=.ok (.value (.int k (k.wrap (BitVec.ofInt k.bits a|||BitVec.ofInt k.bits b).toNat))) w:=by
 simp [execOp,hx,hy,eqGuard,binOp,Op.intBits]
theorem VT {k':IntKind} (hx:ev ρ x=.int k a) (hy:ev ρ y=.int k' b) (hb:0≤b):(execOp (ev ρ) ⟨d,.binOp .shl t x y u,ty,pos,af,g⟩).run P w=.ok (.value (.int k (k.wrap (a*2^(min b.toNat k.bits))))) w:=by
 simp [execOp,hx,hy,eqGuard,binOp,Op.shift,show ¬b<0 by omega]
theorem Vm {k':IntKind} (hx:ev ρ x=.int k a) (hy:ev ρ y=.int k' b) (hb:0≤b):(execOp (ev ρ) ⟨d,.binOp .shr t x y u,ty,pos,af,g⟩).run P w=.ok (.value (.int k (a.fdiv (2^(min b.toNat k.bits))))) w:=by
 simp [execOp,hx,hy,eqGuard,binOp,Op.shift,show ¬b<0 by omega]
theorem Cu {op:BinOp}:(eqGuard op t x y (.int k a) (.int k b)).run P w=.ok () w:=by
 unfold eqGuard;cases op<;>simp
theorem oM {op:BinOp}{r:Bool} (hx:ev ρ x=.int k a) (hy:ev ρ y=.int k b) (hop:(Op.intCmp op a b).run P w=.ok (.bool r) w) (hc:op=.eql∨op=.neq∨op=.lss∨op=.leq∨op=.gtr∨op=.geq):
  (execOp (ev ρ) ⟨d,.binOp op t x y u,ty,pos,af,g⟩).run P w=.ok (.value (.bool r)) w:=by
 rcases hc with h|h|h|h|h|h<;>subst h<;>simp [execOp,hx,hy,Cu,binOp,hop]
theorem Oc (hx:ev ρ x=.int k a) (hy:ev ρ y=.int k b) (h:a<b):(execOp (ev ρ) ⟨d,.binOp .lss t x y u,ty,pos,af,g⟩).run P w=.ok (.value (.bool true)) w:=
 oM hx hy (by simp [Op.intCmp,h]) (by simp)
theorem OW (hx:ev ρ x=.int k a) (hy:ev ρ y=.int k b) (h:¬a<b):(execOp (ev ρ) ⟨d,.binOp .lss t x y u,ty,pos,af,g⟩).run P w=.ok (.value (.bool false)) w:=
 oM hx hy (by simp [Op.intCmp];omega) (by simp)
theorem Ps (hx:ev ρ x=.int k a) (hy:ev ρ y=.int k b) (h:a≤b):(execOp (ev ρ) ⟨d,.binOp .leq t x y u,ty,pos,af,g⟩).run P w=.ok (.value (.bool true)) w:=
 oM hx hy (by simp [Op.intCmp,h]) (by simp)
theorem P2 (hx:ev ρ x=.int k a) (hy:ev ρ y=.int k b) (h:¬a≤b):(execOp (ev ρ) ⟨d,.binOp .leq t x y u,ty,pos,af,g⟩).run P w=.ok (.value (.bool false)) w:=
 oM hx hy (by simp [Op.intCmp];omega) (by simp)
theorem Ou (hx:ev ρ x=.int k a) (hy:ev ρ y=.int k b) (h:b<a):(execOp (ev ρ) ⟨d,.binOp .gtr t x y u,ty,pos,af,g⟩).run P w=.ok (.value (.bool true)) w:=
 oM hx hy (by simp [Op.intCmp,h]) (by simp)
theorem Qg (hx:ev ρ x=.int k a) (hy:ev ρ y=.int k b) (h:¬b<a):(execOp (ev ρ) ⟨d,.binOp .gtr t x y u,ty,pos,af,g⟩).run P w=.ok (.value (.bool false)) w:=
 oM hx hy (by simp [Op.intCmp];omega) (by simp)
theorem PY (hx:ev ρ x=.int k a) (hy:ev ρ y=.int k b) (h:b≤a):(execOp (ev ρ) ⟨d,.binOp .geq t x y u,ty,pos,af,g⟩).run P w=.ok (.value (.bool true)) w:=
 oM hx hy (by simp [Op.intCmp,h]) (by simp)
theorem N8 (hx:ev ρ x=.int k a) (hy:ev ρ y=.int k b) (h:¬b≤a):(execOp (ev ρ) ⟨d,.binOp .geq t x y u,ty,pos,af,g⟩).run P w=.ok (.value (.bool false)) w:=
 oM hx hy (by simp [Op.intCmp];omega) (by simp)
theorem PM (hx:ev ρ x=.int k a) (hy:ev ρ y=.int k b) (h:a≠b):(execOp (ev ρ) ⟨d,.binOp .neq t x y u,ty,pos,af,g⟩).run P w=.ok (.value (.bool true)) w:=
 oM hx hy (by simp [Op.intCmp,h]) (by simp)
theorem ON (hx:ev ρ x=.int k a) (hy:ev ρ y=.int k b) (h:a=b):(execOp (ev ρ) ⟨d,.binOp .neq t x y u,ty,pos,af,g⟩).run P w=.ok (.value (.bool false)) w:=
 oM hx hy (by simp [Op.intCmp,h]) (by simp)
theorem Ij (hx:ev ρ x=.int k a) (hy:ev ρ y=.int k b):(execOp (ev ρ) ⟨d,.binOp .eql t x y u,ty,pos,af,g⟩).run P w=.ok (.value (.bool (decide (a=b)))) w:=
 oM hx hy (by simp [Op.intCmp];rw [Bool.eq_iff_iff];simp) (by simp)
theorem Qz (hx:ev ρ x=.int k a):(execOp (ev ρ) ⟨d,.unOp .neg t x,ty,pos,af,g⟩).run P w=.ok (.value (.int k (k.wrap (-a)))) w:=by
 simp [execOp,hx,Op.unary,Op.intArith]
theorem kU {n:Int} (h1: -9223372036854775808≤n) (h2:n≤9223372036854775807):IntKind.i64.wrap n=n:=IntWalk.i64_in n ⟨h1,h2⟩
theorem K8 (hx:ev ρ x=.int .i64 a) (hy:ev ρ y=.int .i64 b) (h1: -9223372036854775808≤a+b) (h2:a+b≤9223372036854775807):(execOp (ev ρ) ⟨d,.binOp .add t x y u,ty,pos,af,g⟩).run P w=.ok (.value (.int .i64 (a+b))) w:=by
 rw [Sb hx hy,kU h1 h2]
theorem Mp (hx:ev ρ x=.int .i64 a) (hy:ev ρ y=.int .i64 b) (h1: -9223372036854775808≤a-b) (h2:a-b≤9223372036854775807):(execOp (ev ρ) ⟨d,.binOp .sub t x y u,ty,pos,af,g⟩).run P w=.ok (.value (.int .i64 (a-b))) w:=by
 rw [SE hx hy,kU h1 h2]
theorem Lt (hx:ev ρ x=.int .i64 a) (hy:ev ρ y=.int .i64 b) (h1: -9223372036854775808≤a*b) (h2:a*b≤9223372036854775807):(execOp (ev ρ) ⟨d,.binOp .mul t x y u,ty,pos,af,g⟩).run P w=.ok (.value (.int .i64 (a*b))) w:=by
 rw [QN hx hy,kU h1 h2]
theorem MY (hx:ev ρ x=.int .i64 a) (h1: -9223372036854775808≤ -a) (h2: -a≤9223372036854775807):(execOp (ev ρ) ⟨d,.unOp .neg t x,ty,pos,af,g⟩).run P w=.ok (.value (.int .i64 (-a))) w:=by
 rw [Qz hx,kU h1 h2]
theorem s8 (hx:ev ρ x=.int .i64 a) (hy:ev ρ y=.int .i64 b) (ha:0≤a) (hb:0<b) (h2:a≤9223372036854775807):(execOp (ev ρ) ⟨d,.binOp .quo t x y u,ty,pos,af,g⟩).run P w=.ok (.value (.int .i64 (a/b))) w:=by
 have h3:a/b≤a:=Int.ediv_le_self b ha;have h4:0≤a/b:=Int.ediv_nonneg ha Yv;rw [RY hx hy Yv,Int.tdiv_eq_ediv_of_nonneg ha,kU Yv Yv]
theorem qD (hx:ev ρ x=.int .i64 a) (hy:ev ρ y=.int .i64 b) (ha:0≤a) (hb:0<b):(execOp (ev ρ) ⟨d,.binOp .rem t x y u,ty,pos,af,g⟩).run P w=.ok (.value (.int .i64 (a % b))) w:=by
 rw [Q9 hx hy Yv,Int.tmod_eq_emod_of_nonneg ha]
end ints
theorem Rn {t:TypeId}{x:Operand}{b:Bool} (hx:ev ρ x=.bool b):(execOp (ev ρ) ⟨d,.unOp .not t x,ty,pos,af,g⟩).run P w=.ok (.value (.bool !b)) w:=by
 simp [execOp,hx,Op.unary]
section bools
variable {t u:TypeId}{x y:Operand}{a b:Bool}
theorem AU (n:Nat) (ht:P.underlying t=some .bool):(Op.equalIn (n+1) t (.bool a) (.bool b)).run P w=.ok (a==b) w:=by
 simp [Op.equalIn,run_underlying ht]
theorem xl (ht:P.underlying t=some .bool):(Op.equal t (.bool a) (.bool b)).run P w=.ok (a==b) w:=AU 9999 ht
theorem wj (ht:P.underlying t=some .bool):(binOp .eql t (.bool a) (.bool b)).run P w=.ok (.bool (a==b)) w:=by
 simp only [binOp];simp [xl ht]
theorem wy (ht:P.underlying t=some .bool):(binOp .neq t (.bool a) (.bool b)).run P w=.ok (.bool (a !=b)) w:=by
 simp only [binOp];simp [xl ht,bne]
theorem wJ (ht:P.underlying t=some .bool) (hx:ev ρ x=.bool a) (hy:ev ρ y=.bool b):(execOp (ev ρ) ⟨d,.binOp .eql t x y u,ty,pos,af,g⟩).run P w=.ok (.value (.bool (a==b))) w:=by
 simp only [execOp,hx,hy,eqGuard];simp [wj ht]
theorem mQ (ht:P.underlying t=some .bool) (hx:ev ρ x=.bool a) (hy:ev ρ y=.bool b):(execOp (ev ρ) ⟨d,.binOp .neq t x y u,ty,pos,af,g⟩).run P w=.ok (.value (.bool (a !=b))) w:=by
 simp only [execOp,hx,hy,eqGuard];simp [wy ht]
end bools
section iw
variable {t u:TypeId}{x y:Operand}{a b:ByteArray}
theorem Ea {op:BinOp}:(eqGuard op t x y (.string a) (.string b)).run P w=.ok () w:=by
 unfold eqGuard;cases op<;>simp
theorem y6 {op:BinOp}{r:Value} (hx:ev ρ x=.string a) (hy:ev ρ y=.string b) (hs:op≠.shl∧op≠.shr) (hop:(Op.stringOp op a b).run P w=.ok r w):
  (execOp (ev ρ) ⟨d,.binOp op t x y u,ty,pos,af,g⟩).run P w=.ok (.value r) w:=by
 cases op<;>simp_all [execOp,Ea,binOp]
theorem y7 (hx:ev ρ x=.string a) (hy:ev ρ y=.string b):(execOp (ev ρ) ⟨d,.binOp .eql t x y u,ty,pos,af,g⟩).run P w=.ok (.value (.bool (a.toList==b.toList))) w:=
 y6 hx hy (by simp) (by simp [Op.stringOp])
theorem zF (hx:ev ρ x=.string a) (hy:ev ρ y=.string b):(execOp (ev ρ) ⟨d,.binOp .neq t x y u,ty,pos,af,g⟩).run P w=.ok (.value (.bool !(a.toList==b.toList))) w:=
 y6 hx hy (by simp) (by simp [Op.stringOp])
theorem MJ {a b:ByteArray}:(a.toList==b.toList)=decide (a=b):=by
 have key:∀s:ByteArray,s.toList=s.data.toList:=fun s=>by
  exact UB
 rw [Bool.eq_iff_iff,aam,YY,key,key];constructor
 ·intro h;cases a;cases b;congr 1;exact Array.ext' h
 ·intro h;rw [h]
theorem DT (hx:ev ρ x=.string a) (hy:ev ρ y=.string b) (h:a=b):(execOp (ev ρ) ⟨d,.binOp .eql t x y u,ty,pos,af,g⟩).run P w=.ok (.value (.bool true)) w:=by
 rw [y7 hx hy,MJ];simp [h]
theorem BI (hx:ev ρ x=.string a) (hy:ev ρ y=.string b) (h:¬a=b):(execOp (ev ρ) ⟨d,.binOp .eql t x y u,ty,pos,af,g⟩).run P w=.ok (.value (.bool false)) w:=by
 rw [y7 hx hy,MJ];simp [h]
theorem Cn (hx:ev ρ x=.string a) (hy:ev ρ y=.string b) (h:¬a=b):(execOp (ev ρ) ⟨d,.binOp .neq t x y u,ty,pos,af,g⟩).run P w=.ok (.value (.bool true)) w:=by
 rw [zF hx hy,MJ];simp [h]
theorem Dd (hx:ev ρ x=.string a) (hy:ev ρ y=.string b) (h:a=b):(execOp (ev ρ) ⟨d,.binOp .neq t x y u,ty,pos,af,g⟩).run P w=.ok (.value (.bool false)) w:=by
 rw [zF hx hy,MJ];simp [h]
theorem Jb (hx:ev ρ x=.string a) (hy:ev ρ y=.string b):(execOp (ev ρ) ⟨d,.binOp .lss t x y u,ty,pos,af,g⟩).run P w=.ok (.value (.bool (Op.bytesLess a.toList b.toList))) w:=
 y6 hx hy (by simp) (by simp [Op.stringOp])
theorem Ja (hx:ev ρ x=.string a) (hy:ev ρ y=.string b):(execOp (ev ρ) ⟨d,.binOp .gtr t x y u,ty,pos,af,g⟩).run P w=.ok (.value (.bool !(Op.bytesLess a.toList b.toList||a.toList==b.toList))) w:=
 y6 hx hy (by simp) (by simp [Op.stringOp])
theorem J6 (hx:ev ρ x=.string a) (hy:ev ρ y=.string b):(execOp (ev ρ) ⟨d,.binOp .geq t x y u,ty,pos,af,g⟩).run P w=.ok (.value (.bool !(Op.bytesLess a.toList b.toList))) w:=
 y6 hx hy (by simp) (by simp [Op.stringOp])
theorem SD (hx:ev ρ x=.string a) (hy:ev ρ y=.string b) (h:a.size+b.size≤9223372036854775807):(execOp (ev ρ) ⟨d,.binOp .add t x y u,ty,pos,af,g⟩).run P w=.ok (.value (.string (a++b))) w:=
 y6 hx hy (by simp) (by
  have:¬((a.size+b.size:Nat):Int)>IntKind.i64.max:=by
   have:IntKind.i64.max=9223372036854775807:=by decide
   omega
  simp only [Op.stringOp,YB this];simp)
end iw
theorem kT {s t:TypeId}{x:Operand}{k k':IntKind}{a:Int}{sd:TypeDesc} (hs:P.underlying s=some sd) (ht:P.underlying t=some (.int k)) (hx:ev ρ x=.int k' a):
  (execOp (ev ρ) ⟨d,.convert s t x,ty,pos,af,g⟩).run P w=.ok (.value (.int k (k.wrap a))) w:=by
 simp [execOp,hx,convert,run_underlying hs,run_underlying ht,Conv.intToInt]
theorem qC {s t:TypeId}{x:Operand}{k':IntKind}{a:Int}{sd:TypeDesc} (hs:P.underlying s=some sd) (ht:P.underlying t=some (.int .i64)) (hx:ev ρ x=.int k' a) (h1: -9223372036854775808≤a) (h2:a≤9223372036854775807):
  (execOp (ev ρ) ⟨d,.convert s t x,ty,pos,af,g⟩).run P w=.ok (.value (.int .i64 a)) w:=by
 rw [kT hs ht hx,kU h1 h2]
theorem gk {x:Operand}{i:Nat}{vs:List Value}{v:Value} (hx:ev ρ x=.tuple vs.toArray) (hv:vs[i]?=some v):
  (execOp (ev ρ) ⟨d,.extract x i,ty,pos,af,g⟩).run P w=.ok (.value v) w:=by
 simp [execOp,hx,Instr.extract,hv]
def zt (ρ:Rf):List Operand→List Value
 |[]=>[]
 |x::l=>ev ρ x::zt ρ l
theorem o8 {ρ:Rf} (args:Array Operand) {vs:List Value} (h:zt ρ args.toList=vs):args.map (ev ρ)=vs.toArray:=by
 have h1:∀l:List Operand,l.map (ev ρ)=zt ρ l:=by
  intro l
  induction l with
  |nil=>rfl
  |cons a l ih=>simp only [Y1,ih];rfl
 subst h;rw [←h1];apply Array.ext';simp
theorem EG {fn:Fn}{first captured:Array Operand}{fs cs:List Value} (hf:zt ρ first.toList=fs) (hc:zt ρ captured.toList=cs):
  (execOp (ev ρ) ⟨d,.makeFunc fn first captured,ty,pos,af,g⟩).run P w=.ok (.value (.func fn fs.toArray cs.toArray)) w:=by
 simp [execOp,o8 _ hf,o8 _ hc,Instr.makeFunc]
theorem kn {i:Nat}{k:IntKind}{n:Int} (h:ρ i=.int k n):ρ i=.int k n:=h
theorem om {i:Nat}{b:Bool} (h:ρ i=.bool b):ρ i=.bool b:=h
theorem x9 {i:Nat}{s:ByteArray} (h:ρ i=.string s):ρ i=.string s:=h
theorem Ju {i:Nat}{A:Option Addr}{n c:Nat} (h:ρ i=.slice A n c):ρ i=.slice A n c:=h
theorem dk {x:Operand}{k:IntKind}{n:Int} (h:ev ρ x=.int k n):ev ρ x=.int k n:=h
theorem uy {x:Operand}{b:Bool} (h:ev ρ x=.bool b):ev ρ x=.bool b:=h
theorem Ek {x:Operand}{s:ByteArray} (h:ev ρ x=.string s):ev ρ x=.string s:=h
theorem Gs {x:Operand}{A:Option Addr}{n c:Nat} (h:ev ρ x=.slice A n c):ev ρ x=.slice A n c:=h
theorem FG {x:Operand}{a:Addr} (h:ev ρ x=.pointer (some a)):ev ρ x=.pointer (some a):=h
theorem gy {x:Operand}{l:List Value} (h:ev ρ x=.agg l.toArray):ev ρ x=.agg l.toArray:=h
theorem Ug {x:Operand}{l:List Value} (h:ev ρ x=.tuple l.toArray):ev ρ x=.tuple l.toArray:=h
theorem uu {x:Operand}{f:Fn}{a b:List Value} (h:ev ρ x=.func f a.toArray b.toArray):ev ρ x=.func f a.toArray b.toArray:=h
theorem uP {x:Operand} (h:ev ρ x=.nilFunc):ev ρ x=.nilFunc:=h
theorem IV {x:Operand}{t:TypeId}{s:ByteArray} (ht:P.underlying t=some .string) (hx:ev ρ x=.string s):
  (execOp (ev ρ) ⟨d,.call ⟨.builtin .len, #[x], #[t]⟩,ty,pos,af,g⟩).run P w=.ok (.value (.int .i64 s.size)) w:=by
 simp [execOp,resolve,invoke,builtin,Builtin.len_,hx,run_underlying ht,goInt]
theorem D7 {x:Operand}{t e:TypeId}{A:Option Addr}{n c:Nat} (ht:P.underlying t=some (.slice e)) (hx:ev ρ x=.slice A n c):
  (execOp (ev ρ) ⟨d,.call ⟨.builtin .len, #[x], #[t]⟩,ty,pos,af,g⟩).run P w=.ok (.value (.int .i64 n)) w:=by
 simp [execOp,resolve,invoke,builtin,Builtin.len_,hx,run_underlying ht,goInt]
theorem Vd {x y:Operand}{ts:Array TypeId}{k:IntKind}{a b:Int} (hx:ev ρ x=.int k a) (hy:ev ρ y=.int k b):
  (execOp (ev ρ) ⟨d,.call ⟨.builtin .min, #[x,y],ts⟩,ty,pos,af,g⟩).run P w=.ok (.value (.int k (if b<a then b else a))) w:=by
 simp [execOp,resolve,invoke,builtin,Builtin.min_,Builtin.min2,hx,hy,List.foldlM]
theorem So {x y:Operand}{ts:Array TypeId}{k:IntKind}{a b:Int} (hx:ev ρ x=.int k a) (hy:ev ρ y=.int k b):
  (execOp (ev ρ) ⟨d,.call ⟨.builtin .max, #[x,y],ts⟩,ty,pos,af,g⟩).run P w=.ok (.value (.int k (if b>a then b else a))) w:=by
 simp [execOp,resolve,invoke,builtin,Builtin.max_,Builtin.max2,hx,hy,List.foldlM]
theorem lG {t:TypeId}{x i:Operand}{s:ByteArray}{n:Int}{k:IntKind}{c:UInt8} (ht:P.underlying t=some .string) (hx:ev ρ x=.string s) (hi:ev ρ i=.int k n)
  (h0:0≤n) (hc:s.data.toList[n.toNat]?=some c):(execOp (ev ρ) ⟨d,.index t x i,ty,pos,af,g⟩).run P w=.ok (.value (.int .u8 c.toNat)) w:=by
 have hs:s[n.toNat]?=some c:=by
  rw [←hc];obtain ⟨h1,h2⟩:=YQ.1 hc;have h3:n.toNat<s.size:=by simpa using h1
  rw [getElem?_pos s n.toNat h3,getElem?_pos s.data.toList n.toNat h1]
  rfl
 simp [execOp,hx,hi,Instr.index,asIntOf,run_underlying ht,h0,hs]
theorem DU {t:TypeId}{x:Operand}{lo hi:Option Operand}{s:ByteArray}{l h:Nat} (ht:P.underlying t=some .string) (hx:ev ρ x=.string s)
  (hlo:match lo with|none=>l=0|some o=>∃(k:IntKind) (n:Int),ev ρ o=.int k n∧n=l) (hhi:match hi with|none=>h=s.size|some o=>∃(k:IntKind) (n:Int),ev ρ o=.int k n∧n=h)
  (h1:l≤h) (h2:h≤s.size):(execOp (ev ρ) ⟨d,.slice t x lo hi none,ty,pos,af,g⟩).run P w=.ok (.value (.string (s.extract l h))) w:=by
 have e1:(l:Int)≤h:=Yv;have e2:(h:Int)≤s.size:=Yv
 cases lo<;>cases hi<;>simp only [] at hlo hhi
 ·subst hlo;subst hhi;simp [execOp,hx,Instr.sliceAt,Instr.slice,run_underlying ht,Instr.sliceBounds]
 ·obtain ⟨k2,n2,hv2,rfl⟩:=hhi;subst hlo;simp [execOp,hx,Instr.sliceAt,Instr.slice,run_underlying ht,Instr.sliceBounds,Instr.sliceBound,asIntOf,hv2,h2]
 ·obtain ⟨k2,n2,hv2,rfl⟩:=hlo;subst hhi;simp [execOp,hx,Instr.sliceAt,Instr.slice,run_underlying ht,Instr.sliceBounds,Instr.sliceBound,asIntOf,hv2,h1]
 ·obtain ⟨k2,n2,hv2,rfl⟩:=hhi;obtain ⟨k3,n3,hv3,rfl⟩:=hlo;simp [execOp,hx,Instr.sliceAt,Instr.slice,run_underlying ht,Instr.sliceBounds,Instr.sliceBound,asIntOf,hv2,hv3,h1,h2]
theorem jQ {t e:TypeId}{x:Operand}{lo hi:Option Operand}{A:Option Addr}{n c l h sz:Nat} (ht:P.underlying t=some (.slice e)) (hsz:(P.info? e).map (·.size)=some sz) (hx:ev ρ x=.slice A n c)
  (hlo:match lo with|none=>l=0|some o=>∃(k:IntKind) (n:Int),ev ρ o=.int k n∧n=l) (hhi:match hi with|none=>h=n|some o=>∃(k:IntKind) (n:Int),ev ρ o=.int k n∧n=h)
  (h1:l≤h) (h2:h≤c):(execOp (ev ρ) ⟨d,.slice t x lo hi none,ty,pos,af,g⟩).run P w=.ok (.value (.slice (if c=l then A else A.map (·.add (l*sz))) (h-l) (c-l))) w:=by
 obtain ⟨i,hi1,hi2⟩:=aao.1 hsz;have e1:(l:Int)≤h:=Yv;have e2:(h:Int)≤c:=Yv
 cases lo<;>cases hi<;>simp only [] at hlo hhi
 ·subst hlo;subst hhi;simp [execOp,hx,Instr.sliceAt,Instr.slice,run_underlying ht,Instr.sliceBounds,sizeOf,typeInfo,hi1]
 ·obtain ⟨k2,n2,hv2,rfl⟩:=hhi;subst hlo;simp [execOp,hx,Instr.sliceAt,Instr.slice,run_underlying ht,Instr.sliceBounds,Instr.sliceBound,asIntOf,hv2,h2,sizeOf,typeInfo,hi1]
 ·obtain ⟨k2,n2,hv2,rfl⟩:=hlo;subst hhi;simp [execOp,hx,Instr.sliceAt,Instr.slice,run_underlying ht,Instr.sliceBounds,Instr.sliceBound,asIntOf,hv2,h1,sizeOf,typeInfo,hi1,hi2]
 ·obtain ⟨k2,n2,hv2,rfl⟩:=hhi;obtain ⟨k3,n3,hv3,rfl⟩:=hlo;simp [execOp,hx,Instr.sliceAt,Instr.slice,run_underlying ht,Instr.sliceBounds,Instr.sliceBound,asIntOf,hv2,hv3,h1,h2,sizeOf,typeInfo,hi1,hi2]
theorem dL {t e:TypeId}{x i:Operand}{ad:Addr}{n c sz:Nat}{k:IntKind}{m:Int} (ht:P.underlying t=some (.slice e)) (hsz:(P.info? e).map (·.size)=some sz) (hx:ev ρ x=.slice (some ad) n c) (hi:ev ρ i=.int k m)
  (h0:0≤m) (h1:m<n):(execOp (ev ρ) ⟨d,.indexAddr t x i,ty,pos,af,g⟩).run P w=.ok (.value (.pointer (some (ad.add (m.toNat*sz))))) w:=by
 obtain ⟨i,hi1,hi2⟩:=aao.1 hsz;simp [execOp,hx,hi,Instr.indexAt,asIntOf,run_underlying ht,sizeOf,typeInfo,hi1,hi2,h0,h1]
theorem m7 {t e:TypeId}{x i:Operand}{b n c sz k:Nat}{kk:IntKind}{m:Int} (ht:P.underlying t=some (.slice e)) (hsz:(P.info? e).map (·.size)=some sz) (hx:ev ρ x=.slice (some ⟨b,0,none⟩) n c) (hi:ev ρ i=.int kk m)
  (hm:m=(k:Int)) (h1:k<n):(execOp (ev ρ) ⟨d,.indexAddr t x i,ty,pos,af,g⟩).run P w=.ok (.value (.pointer (some ⟨b,k*sz,none⟩))) w:=by
 have h:=dL (P:=P) (w:=w) (d:=d) (ty:=ty) (pos:=pos) (af:=af) (g:=g) ht hsz hx hi Yv Yv;rw [h,hm];have:(⟨b,0,none⟩:Addr).add (((k:Int)).toNat*sz)=⟨b,k*sz,none⟩:=by
  unfold Addr.add;split
  ·rename_i h0;rw [ZL] at h0;rw [h0]
  ·rw [ZL];simp
 rw [this]
theorem Ki {x:Operand}{args:Array Operand}{ts:Array TypeId}{f:FuncId}{fn:Func}{first cap:Array Value}{vs:Array Value} (hf:P.funcs[f]?=some fn) (hb:fn.body.isNone=false) (hn:(fn.name== "runtime.NumGoroutine")=false)
  (hx:ev ρ x=.func (.func f) first cap) (ha:args.map (ev ρ)=vs):(execOp (ev ρ) ⟨d,.call ⟨.value x,args,ts⟩,ty,pos,af,g⟩).run P w=.ok (.enter f (first++vs++cap)) w:=by
 have h1:¬fn.name= "runtime.NumGoroutine" :=by simpa using hn
 have h2:¬fn.body=none:=by intro h;simp [h] at hb
 simp [execOp,resolve,Deferred.ofValue,hx,ha,invoke,callFunc,program,Sem.run,hf,h1,h2]
end
def dH (P:Program) (t:TypeId):Option (Nat×Bool×Nat×List Value):=
 match P.info? t,P.underlying t with
 |some i,some d=>i.zero.map fun z=>(i.size,(match d with|.struct _|.array _ _=>true|_=>false),i.bytes,z.cells.toList)
 |_,_=>none
theorem ez {P:Program}{t:TypeId}{n by':Nat}{ag:Bool}{zc:List Value} (h:dH P t=some (n,ag,by',zc)):
  ∃i z d,P.info? t=some i∧P.underlying t=some d∧i.zero=some z∧i.size=n∧i.bytes=by'∧z.cells=zc.toArray∧(match d with|.struct _|.array _ _=>true|_=>false)=ag:=by
 unfold dH at h;split at h
 ·rename_i i d hi hd;obtain ⟨z,hz,he⟩:=aao.1 h;simp only [Prod.mk.injEq] at he;exact ⟨i,z,d,hi,hd,hz,he.1,he.2.2.1,by rw [←he.2.2.2],he.2.1⟩
 ·cases h
section
variable {P:Program}{w:World}{t:TypeId}{n by':Nat}{ag:Bool}{zc:List Value}
theorem fk (h:dH P t=some (n,ag,by',zc)):(sizeOf t).run P w=.ok n w:=by
 obtain ⟨i,z,d,hi,hd,hz,hs,_⟩:=ez h;simp [sizeOf,typeInfo,hi,hs]
theorem jJ (h:dH P t=some (n,ag,by',zc)):(isAgg t).run P w=.ok ag w:=by
 obtain ⟨i,z,d,hi,hd,hz,hs,_,_,ha⟩:=ez h;simp only [isAgg,Sem.run_bind,run_underlying hd,Result.andThen_ok];subst ha
 cases d<;>rfl
theorem ek (h:dH P t=some (n,ag,by',zc)):∃z,(zeroValue t).run P w=.ok z w∧z.cells=zc.toArray:=by
 obtain ⟨i,z,d,hi,hd,hz,hs,_,hc,_⟩:=ez h;exact ⟨z,by simp [zeroValue,typeInfo,hi,hz],hc⟩
end
def Rd (w:World) (ad:Addr) (vs:List Value):Prop:=∀j u,vs[j]?=some u→w.cell? (ad.add j)=some u
def Sl (w:World) (A:Option Addr) (n k:Nat) (xs:List Value):Prop:=xs.length=n*k∧(0<n→∃ad,A=some ad∧Rd w ad xs)
theorem gh (b o n:Nat):(⟨b,o,none⟩:Addr).add n=⟨b,o+n,none⟩:=by
 unfold Addr.add;split
 ·rename_i h;subst h;rfl
 ·rfl
theorem kz (a:Addr) (i j:Nat):(a.add i).add j=a.add (i+j):=by
 unfold Addr.add;by_cases hi:i=0<;>by_cases hj:j=0<;>simp [hi,hj,abk]
theorem mW {w:World}{a:Addr}{v:Value} (h:w.cell? a=some v):a.block<w.heap.size:=block_lt_of_cell h
theorem cH {w w':World} (h:Below w.heap.size w w') {a:Addr}{v:Value} (hc:w.cell? a=some v):w'.cell? a=some v:=(h.cell (mW hc)).trans hc
theorem Rd.ext {w w':World}{ad:Addr}{vs:List Value} (h:Rd w ad vs) (hb:Below w.heap.size w w'):Rd w' ad vs:=fun j u hu=>cH hb (h j u hu)
theorem Sl.ext {w w':World}{A:Option Addr}{n k:Nat}{xs:List Value} (h:Sl w A n k xs) (hb:Below w.heap.size w w'):Sl w' A n k xs:=
 ⟨h.1,fun hn=>let ⟨ad,ha,hr⟩:=h.2 hn;⟨ad,ha,hr.ext hb⟩⟩
theorem Rd.drop {w:World}{ad:Addr}{vs:List Value} (h:Rd w ad vs) (i:Nat):Rd w (ad.add i) (vs.drop i):=fun j u hu=>by
 rw [kz];exact h _ u (by rw [←hu,Z6])
theorem Rd.take {w:World}{ad:Addr}{vs:List Value} (h:Rd w ad vs) (n:Nat):Rd w ad (vs.take n):=fun j u hu=>by
 rw [Z9] at hu;split at hu
 ·exact h _ u hu
 ·cases hu
theorem Rd.cell {w:World}{ad:Addr}{vs:List Value} (h:Rd w ad vs) {i:Nat}{v:Value} (hv:vs[i]?=some v):w.cell? (ad.add i)=some v:=h i v hv
theorem Sl.nil (w:World) (A:Option Addr) (k:Nat):Sl w A 0 k []:=⟨by simp,fun h=>absurd h Yv⟩
theorem Sl.at_ {w:World}{A:Option Addr}{n k:Nat}{xs:List Value} (h:Sl w A n k xs) (hn:0<n):∃ad,A=some ad∧Rd w ad xs:=h.2 hn
theorem Rd.elem {w:World}{ad:Addr}{xs:List Value} (h:Rd w ad xs) (i k:Nat):Rd w (ad.add (i*k)) ((xs.drop (i*k)).take k):=(h.drop _).take _
theorem Sl.cut {w:World}{A:Option Addr}{n k c l m:Nat}{xs:List Value} (h:Sl w A n k xs) (hl:l≤m) (hm:m≤n) (hc:n≤c):
  Sl w (if c=l then A else A.map (·.add (l*k))) (m-l) k ((xs.drop (l*k)).take ((m-l)*k)):=by
 have hle:l*k+(m-l)*k≤n*k:=by
  rw [←aay];exact ZH _ Yv
 refine ⟨by rw [YW,ZM,h.1];omega,fun hn=> ?_⟩;obtain ⟨ad,rfl,hr⟩:=h.2 Yv;rw [YB Yv];exact ⟨_,rfl,(hr.drop _).take _⟩
inductive HE where
 |blk (b:Nat) (t:TypeId) (cs:List Value) (fz:Nat×Nat)
 |row (A:Option Addr) (n c:Nat) (t:TypeId) (sz:Nat) (xs:List Value)
 |ob (b:Nat) (o:Obj)
abbrev HE.it (b:Nat) (s:ByteArray) (pos:Nat):HE:=.ob b (.stringIter s pos)
def HE.id:HE→Option Nat
 |.blk b _ _ _=>some b
 |.row A _ _ _ _ _=>A.map (·.block)
 |.ob b _=>some b
def HE.holds (base:Nat) (w:World):HE→Prop
 |.blk b t cs fz=>base≤b∧w.heap[b]?=some (.cells cs.toArray t fz)∧(cs.length≤fz.1∨fz.2≤fz.1)
 |.row A n c t sz xs=>w.ownsRow base t sz (.slice A n c) n xs
 |.ob b o=>base≤b∧w.heap[b]?=some o
structure Hp (w0:World) (H:List HE) (w:World):Prop where
 below:Below w0.heap.size w0 w
 own:∀x∈H,x.holds w0.heap.size w
 nd:(H.filterMap HE.id).Nodup
section
variable {w0 w w':World}{H:List HE}
theorem Hp.start (w:World):Hp w [] w:=⟨Below.refl _ _,fun _ h=>(nomatch h),List.nodup_nil⟩
theorem Hp.size (h:Hp w0 H w):w0.heap.size≤w.heap.size:=h.below.size
theorem eA {base:Nat}{x:HE} (h:x.holds base w) {b:Nat} (hb:x.id=some b):base≤b∧b<w.heap.size:=by
 cases x with
 |blk b' t cs fz=>
  obtain rfl:b'=b:=by simpa [HE.id] using hb
  refine ⟨h.1, ?_⟩
  rcases Zj b' w.heap.size with hlt|hge
  ·exact hlt
  ·have:=h.2.1;rw [abn hge] at this;cases this
 |row A n c t sz xs=>
  cases A with
  |none=>simp [HE.id] at hb
  |some a=>exact World.ownsRow.lt h b (by simpa [HE.id,Value.ownBlock] using hb)
 |ob b' o=>
  obtain rfl:b'=b:=by simpa [HE.id] using hb
  refine ⟨h.1, ?_⟩
  rcases Zj b' w.heap.size with hlt|hge
  ·exact hlt
  ·have:=h.2;rw [abn hge] at this;cases this
theorem qk {base:Nat}{x:HE} (h:x.holds base w) (hk:∀b,x.id=some b→w'.heap[b]?=w.heap[b]?):x.holds base w':=by
 cases x with
 |blk b t cs fz=>exact ⟨h.1,(hk b rfl).trans h.2.1,h.2.2⟩
 |row A n c t sz xs=>
  obtain ⟨h1,h2⟩:=h;refine ⟨h1, ?_⟩
  rcases h2 with h2|⟨g,cap,cur,hv,hg,hh,r⟩
  ·exact .inl h2
  ·have hA:A=some ⟨g,0,none⟩:=by injection hv
   subst hA;exact .inr ⟨g,cap,cur,hv,hg,(hk g rfl).trans hh,r⟩
 |ob b o=>exact ⟨h.1,(hk b rfl).trans h.2⟩
theorem Hp.ext (h:Hp w0 H w) (hb:Below w.heap.size w w'):Hp w0 H w':=
 ⟨h.below.trans (hb.mono h.size),fun x hx=>qk (h.own x hx) fun _ hi=>hb.block _ (eA (h.own x hx) hi).2,h.nd⟩
theorem Hp.sub (h:Hp w0 H w) {H':List HE} (hs:H'.Sublist H):Hp w0 H' w:=⟨h.below,fun x hx=>h.own x (hs.subset hx),h.nd.sublist (hs.filterMap _)⟩
theorem Hp.at_ (h:Hp w0 H w) {i:Nat}{x:HE} (hi:H[i]?=some x):x.holds w0.heap.size w:=h.own x (YF hi)
theorem Hp.aY (h:Hp w0 H w) (hb:Below w.heap.size w w') {x:HE} (hx:x.holds w.heap.size w'):Hp w0 (x::H) w':=by
 have h':=h.ext hb;refine ⟨h'.below, ?_, ?_⟩
 ·intro y hy
  rcases YS.1 hy with rfl|hy
  ·cases y with
   |blk b t cs fz=>exact ⟨Y2 h.size hx.1,hx.2⟩
   |row A n c t sz xs=>
    obtain ⟨h1,h2⟩:=hx;exact ⟨h1,h2.imp id fun ⟨g,cap,cur,hv,hg,r⟩=>⟨g,cap,cur,hv,Y2 h.size hg,r⟩⟩
   |ob b o=>exact ⟨Y2 h.size hx.1,hx.2⟩
  ·exact h'.own y hy
 ·rw [aap];split
  ·exact h'.nd
  ·rename_i b hb';refine aar.2 ⟨fun hm=> ?_,h'.nd⟩;obtain ⟨y,hy,hyb⟩:=ZJ.1 hm;have h1:=(eA hx hb').1;have h2:=(eA (h.own y hy) hyb).2;omega
theorem Hp.Pa (h:Hp w0 H w) {i:Nat}{x y:HE} (hi:H[i]?=some x) (hid:∀b,y.id=some b→x.id=some b∨w.heap.size≤b)
  (hb:Below w0.heap.size w0 w') (hk:∀b,b<w.heap.size→x.id≠some b→w'.heap[b]?=w.heap[b]?) (hy:y.holds w0.heap.size w'):Hp w0 (H.set i y) w':=by
 obtain ⟨hlt,hx⟩:=YQ.1 hi;have hsplit:H=H.take i++x::H.drop (i+1):=by
  rw [←hx,←ZR hlt,Zv]
 have hset:H.set i y=H.take i++y::H.drop (i+1):=by rw [abF,YA hlt]
 have hnd:=h.nd;rw [hsplit,aa1] at hnd;have hother:∀z,z∈H.take i∨z∈H.drop (i+1)→z∈H∧(∀b,z.id=some b→x.id≠some b):=by
  intro z hz;refine ⟨hz.elim aau abC,fun b hzb hxb=> ?_⟩;rw [aap,hxb] at hnd;simp only [] at hnd;rw [abm] at hnd
  rcases hz with hz|hz
  ·exact hnd.2.2 b (ZJ.2 ⟨z,hz,hzb⟩) b (YL) rfl
  ·exact (aar.1 hnd.2.1).1 (ZJ.2 ⟨z,hz,hzb⟩)
 have hold:∀z,z∈H.take i∨z∈H.drop (i+1)→z.holds w0.heap.size w':=fun z hz=>by
  obtain ⟨hm,hne⟩:=hother z hz;exact qk (h.own z hm) fun b hzb=>hk b (eA (h.own z hm) hzb).2 (hne b hzb)
 rw [hset];refine ⟨hb, ?_, ?_⟩
 ·intro z hz
  rcases Zb.1 hz with hz|hz
  ·exact hold z (.inl hz)
  ·rcases YS.1 hz with rfl|hz
   ·exact hy
   ·exact hold z (.inr hz)
 ·rw [aa1];have hsub:((H.take i).filterMap HE.id++(H.drop (i+1)).filterMap HE.id).Nodup:=by
   refine hnd.sublist (List.Sublist.append (ZK _) ?_);exact List.Sublist.filterMap _ (Zi _ _)
  rw [aap];split
  ·exact hsub
  ·rename_i b hyb;have hfresh:∀z,z∈H.take i∨z∈H.drop (i+1)→z.id≠some b:=fun z hz hzb=>by
    obtain ⟨hm,hne⟩:=hother z hz
    rcases hid b hyb with h1|h1
    ·exact hne b hzb h1
    ·have:=(eA (h.own z hm) hzb).2;omega
   rw [abm] at hsub ⊢;refine ⟨hsub.1,aar.2 ⟨fun hm=> ?_,hsub.2.1⟩,fun u hu v hv=> ?_⟩
   ·obtain ⟨z,hz,hzb⟩:=ZJ.1 hm;exact hfresh z (.inr hz) hzb
   ·rcases YS.1 hv with rfl|hv
    ·rintro rfl;obtain ⟨z,hz,hzb⟩:=ZJ.1 hu;exact hfresh z (.inl hz) hzb
    ·exact hsub.2.2 u hu v hv
end
section
variable {w0 w w':World}{H:List HE}
theorem Hp.Nb (h:Hp w0 H w) {i b:Nat}{t:TypeId}{cs:List Value}{fz:Nat×Nat} (hi:H[i]?=some (.blk b t cs fz)):Rd w ⟨b,0,none⟩ cs:=fun j u hu=>by
 have h1:=(h.at_ hi).2.1;rw [gh,Y0,cell_of_row w b j _ t fz h1];simpa using hu
theorem Hp.eT (h:Hp w0 H w) {i b o:Nat}{t:TypeId}{cs:List Value}{fz:Nat×Nat}{v:Value} (hi:H[i]?=some (.blk b t cs fz)) (hv:cs[o]?=some v):w.cell? ⟨b,o,none⟩=some v:=by
 have:=h.Nb hi o v hv;rwa [gh,Y0] at this
theorem Hp.cn (h:Hp w0 H w) {i b o n:Nat}{t:TypeId}{cs vs:List Value}{fz:Nat×Nat} (hi:H[i]?=some (.blk b t cs fz)) (hv:(cs.drop o).take n=vs):Rd w ⟨b,o,none⟩ vs:=by
 have:=((h.Nb hi).drop o).take n;rwa [gh,Y0,hv] at this
theorem jx {base:Nat}{t:TypeId}{A:Option Addr}{n c sz:Nat}{xs:List Value} (h:w.ownsRow base t sz (.slice A n c) n xs):Sl w A n sz xs:=by
 refine ⟨h.1,fun hn=> ?_⟩;obtain ⟨g,cap,hv,_,hlt⟩:=h.form hn;have hA:A=some ⟨g,0,none⟩:=by injection hv
 subst hA;exact ⟨_,rfl,h.cells (g:=g) rfl⟩
theorem Hp.cK (h:Hp w0 H w) {i n c sz:Nat}{A:Option Addr}{t:TypeId}{xs:List Value} (hi:H[i]?=some (.row A n c t sz xs)) (hn:0<n):∃g,A=some ⟨g,0,none⟩:=by
 obtain ⟨g,cap,hv,_⟩:=World.ownsRow.form (h.at_ hi) hn;injection hv with hA
 exact ⟨g,hA⟩
theorem Hp.fU (h:Hp w0 H w) {i b n c sz o:Nat}{t:TypeId}{xs:List Value}{v:Value} (hi:H[i]?=some (.row (some ⟨b,0,none⟩) n c t sz xs)) (hv:xs[o]?=some v):w.cell? ⟨b,o,none⟩=some v:=by
 have:=World.ownsRow.cells (h.at_ hi) (g:=b) rfl o v hv;rwa [gh,Y0] at this
theorem Hp.Pu (h:Hp w0 H w) {i n c sz:Nat}{A:Option Addr}{t:TypeId}{xs:List Value} (hi:H[i]?=some (.row A n c t sz xs)):xs.length=n*sz:=(h.at_ hi).1
theorem Hp.aG (h:Hp w0 H w) {i n c sz:Nat}{A:Option Addr}{t:TypeId}{xs:List Value} (hi:H[i]?=some (.row A n c t sz xs)):Sl w A n sz xs:=jx (h.at_ hi)
end
section
variable {P:Program}{ρ:Rf}{w:World}{d:Option Nat}{ty:TypeId}{pos:String}{af:Array Edge}{g:Option (Nat×Bool)}
theorem FO {t:TypeId}{x:Operand}{ad:Addr}{n by':Nat}{zc vs:List Value} (ht:dH P t=some (n,true,by',zc)) (hx:ev ρ x=.pointer (some ad)) (hr:Rd w ad vs) (hl:vs.length=n):
  (execOp (ev ρ) ⟨d,.load t x,ty,pos,af,g⟩).run P w=.ok (.value (.agg vs.toArray)) w:=by
 subst hl;simp [execOp,hx,Instr.loadAt,Instr.sureAddr,loadVar,jJ ht,fk ht,run_loadCells_list (P:=P) w ad vs hr]
theorem jT {t:TypeId}{x:Operand}{ad:Addr}{n by':Nat}{zc:List Value}{v:Value} (ht:dH P t=some (n,false,by',zc)) (hx:ev ρ x=.pointer (some ad)) (hc:w.cell? ad=some v):
  (execOp (ev ρ) ⟨d,.load t x,ty,pos,af,g⟩).run P w=.ok (.value v) w:=by
 simp [execOp,hx,Instr.loadAt,Instr.sureAddr,loadVar,jJ ht,run_load,hc]
theorem ew {t:TypeId}{ad:Addr}{n by':Nat}{zc vs:List Value} (ht:dH P t=some (n,true,by',zc)) (hr:Rd w ad vs) (hl:vs.length=n):
  (loadVar t ad).run P w=.ok (.agg vs.toArray) w:=by
 subst hl;simp [loadVar,jJ ht,fk ht,run_loadCells_list (P:=P) w ad vs hr]
def iA (P:Program) (s:TypeId) (i:Nat):Option (Nat×TypeId):=
 match P.underlying s with
 |some (.struct fs)=>match fs[i]? with
  |some f=>if P.cellsOf f.type=0 then none else some (f.offset,f.type)
  |none=>none
 |_=>none
theorem tS {s:TypeId}{x:Operand}{f b o off:Nat}{ft:TypeId} (hf:iA P s f=some (off,ft)) (hx:ev ρ x=.pointer (some ⟨b,o,none⟩)):
  (execOp (ev ρ) ⟨d,.fieldAddr s x f,ty,pos,af,g⟩).run P w=.ok (.value (.pointer (some ⟨b,o+off,none⟩))) w:=by
 unfold iA at hf;split at hf
 ·rename_i fs hs;split at hf
  ·rename_i fd hfd;split at hf
   ·cases hf
   ·rename_i hc;simp only [aaf,Prod.mk.injEq] at hf;obtain ⟨rfl,rfl⟩:=hf;have hsz:∃i,P.info? fd.type=some i∧i.size≠0:=by
     exact QW
    obtain ⟨i,hi,hi0⟩:=hsz;simp [execOp,hx,Instr.fieldAt,run_underlying hs,hfd,Instr.sureAddr,fieldPlace,sizeOf,typeInfo,hi,hi0,gh]
  ·cases hf
 ·cases hf
theorem qZ {s:TypeId}{x:Operand}{f off:Nat}{ad:Addr}{ft:TypeId} (hf:iA P s f=some (off,ft)) (hx:ev ρ x=.pointer (some ad)):
  (execOp (ev ρ) ⟨d,.fieldAddr s x f,ty,pos,af,g⟩).run P w=.ok (.value (.pointer (some (ad.add off)))) w:=by
 unfold iA at hf;split at hf
 ·rename_i fs hs;split at hf
  ·rename_i fd hfd;split at hf
   ·cases hf
   ·rename_i hc;simp only [aaf,Prod.mk.injEq] at hf;obtain ⟨rfl,rfl⟩:=hf;have hsz:∃i,P.info? fd.type=some i∧i.size≠0:=by
     exact QW
    obtain ⟨i,hi,hi0⟩:=hsz;simp [execOp,hx,Instr.fieldAt,run_underlying hs,hfd,Instr.sureAddr,fieldPlace,sizeOf,typeInfo,hi,hi0]
  ·cases hf
 ·cases hf
theorem Pv {s:TypeId}{x:Operand}{f off n by':Nat}{ft:TypeId}{cs vs:Array Value}{zc:List Value} (hf:iA P s f=some (off,ft)) (ht:dH P ft=some (n,true,by',zc)) (hx:ev ρ x=.agg cs) (hv:cs.extract off (off+n)=vs):
  (execOp (ev ρ) ⟨d,.field s x f,ty,pos,af,g⟩).run P w=.ok (.value (.agg vs)) w:=by
 unfold iA at hf;split at hf
 ·rename_i fs hs;split at hf
  ·rename_i fd hfd;split at hf
   ·cases hf
   ·simp only [aaf,Prod.mk.injEq] at hf;obtain ⟨rfl,rfl⟩:=hf;simp [execOp,hx,Instr.field,run_underlying hs,hfd,asAgg,part,jJ ht,fk ht,hv]
  ·cases hf
 ·cases hf
end
section
variable {ro:Mode}
def cM (cs:List Value) (o:Nat) (vs:List Value):List Value:=cs.take o++vs++cs.drop (o+vs.length)
theorem gp {cs vs:List Value}{o:Nat} (h:o+vs.length≤cs.length):(cM cs o vs).length=cs.length:=by
 simp only [cM,YK,YW,ZM];omega
theorem wQ (cs:List Value) (o:Nat):cM cs o []=cs:=by simp [cM]
theorem tD {cs vs:List Value}{o:Nat}{v:Value} (h:o+(v::vs).length≤cs.length):cM cs o (v::vs)=cM (cs.set o v) (o+1) vs:=by
 simp only [YZ] at h;have h0:cs.set o v=cs.take o++v::cs.drop (o+1):=by rw [abF,YA Yv]
 have h2:(cs.take o).length=o:=by simp;omega
 have h1:(cs.set o v).take (o+1)=cs.take o++[v]:=by
  rw [h0,List.take_append,h2,YG Yv];simp
 have h3:(cs.set o v).drop (o+1+vs.length)=cs.drop (o+1+vs.length):=List.drop_set_of_lt Yv;unfold cM;rw [h1,h3];simp [abk,aat 1]
theorem xt {a b c:World}{r:Option Nat} (h:a.grownBy b r) (k:b.grownBy c r):a.grownBy c r:=
 ⟨k.os.trans h.os,k.tape.trans h.tape,k.output.trans h.output,Y2 h.size k.size,fun i hi hne=>(k.block i (ZC hi h.size) hne).trans (h.block i hi hne)⟩
theorem Di (w:World) (b o:Nat) (v:Value):w.grownBy (w.setCell ⟨b,o,none⟩ v) (some b):=
 ⟨rfl,rfl,rfl,by simp [World.setCell],fun k _ hne=>Below.heap_setCell w _ v k (fun e=>hne (by rw [e]))⟩
section
variable {P:Program}
theorem iz {b:Nat}{t:TypeId}{fz:Nat×Nat} (o:Nat):∀(vs:List Value) (i:Nat) (cs:List Value) (w:World),w.heap[b]?=some (.cells cs.toArray t fz)→(cs.length≤fz.1∨fz.2≤fz.1)→
  o+i+vs.length≤cs.length→(∀v∈vs,v.oneCell'=true)→
  ∃w',(storeCells ⟨b,o,none⟩ vs i).run P w=.ok () w'∧w'.heap[b]?=some (.cells (cM cs (o+i) vs).toArray t fz)∧w.grownBy w' (some b)∧w'.heap.size=w.heap.size
 |[],i,cs,w,hw,_,_,_=>⟨w,by simp [storeCells],by rw [wQ];exact hw,World.grownBy.refl _ _,rfl⟩
 |v::vs,i,cs,w,hw,hf,hl,h1=>by
  simp only [YZ] at hl;have hoi:o+i<cs.length:=Yv;have hc:w.cell? ⟨b,o+i,none⟩=some cs[o+i]:=by
   rw [cell_of_row w b (o+i) _ t fz hw];simp [Z1 hoi]
  have hfr:w.frozen? ⟨b,o+i,none⟩=false:=by
   simp only [World.frozen?,hw]
   rcases hf with hf|hf<;>simp<;>omega
  have hw2:(w.setCell ⟨b,o+i,none⟩ v).heap[b]?=some (.cells (cs.set (o+i) v).toArray t fz):=by
   simp [World.setCell,Array.getElem?_modify,hw]
  obtain ⟨w',hr,hb',hg,hs⟩:=iz (b:=b) (t:=t) (fz:=fz) o vs (i+1) (cs.set (o+i) v) _ hw2 (by simpa using hf) (by simp;omega) (fun u hu=>h1 u (YP _ hu));refine ⟨w', ?_, ?_,xt (Di w b (o+i) v) hg,hs.trans (by simp [World.setCell])⟩
  ·simp only [storeCells,Sem.run_bind,gh,run_store P w ⟨b,o+i,none⟩ v .plain (h1 v (YL)),hc,hfr];simpa using hr
  ·rw [tD (by simp;omega)];exact hb'
end
def lN (pl:Nat→Option (Nat×Nat)):List Value→List (Nat×Value)→Option (List Value)
 |cs,[]=>some cs
 |cs,(i,v)::r=>
  match pl i with
  |none=>none
  |some (off,size)=>if v.cells.toList.length≠size∨cs.length<off+v.cells.toList.length then none else lN pl (cM cs off v.cells.toList) r
theorem rR:∀(vs:List Value) (k o:Nat) (cs:List Value),o+k+vs.length≤cs.length→
  (vs.zipIdx k).foldl (fun (cs:Array Value) (x:Value×Nat)=>cs.setIfInBounds (o+x.2) x.1) cs.toArray=(cM cs (o+k) vs).toArray
 |[],k,o,cs,_=>by simp [wQ]
 |v::vs,k,o,cs,h=>by
  rw [List.zipIdx_cons,abz];simp only [List.setIfInBounds_toArray];rw [rR vs (k+1) o (cs.set (o+k) v) (by simp at h ⊢;omega),tD (by simp at h ⊢;omega)]
  rfl
theorem AJ {pl:Nat→Option (Nat×Nat)}:∀(ps:List (Nat×Value)) (zs cs:List Value),lN pl zs ps=some cs→Instr.fill pl zs.toArray ps=some cs.toArray
 |[],zs,cs,h=>by simp only [lN,aaf] at h;subst h;rfl
 |(i,v)::r,zs,cs,h=>by
  unfold lN at h;unfold Instr.fill;split at h
  ·cases h
  ·rename_i off size hpl;split at h
   ·cases h
   ·rename_i hc;simp only [ne_eq,not_or,Decidable.not_not,Nat.not_lt] at hc;simp only [hpl];have h1:¬((v.cells.size≠size||decide (off+v.cells.size>zs.toArray.size))=true):=by
     have e:v.cells.size=v.cells.toList.length:=by simp
     simp only [e,hc.1,abc,aaL,YY,ne_eq,not_true,decide_false,abG,false_or];omega
    rw [YB h1];have h2:v.cells.zipIdx.foldl (fun (cs:Array Value) (x:Value×Nat)=>cs.setIfInBounds (off+x.2) x.1) zs.toArray=(cM zs off v.cells.toList).toArray:=by
     have:=rR v.cells.toList 0 off zs Yv;rw [aab] at this;rw [←this,←Array.foldl_toList,Array.toList_zipIdx]
    exact (Zz (fun x=>Instr.fill pl x r) h2).trans (AJ r _ cs h)
def gu:Nat→List Value→List Value
 |0,_=>[]
 |n+1,zc=>zc++gu n zc
theorem nK (n:Nat) (zc:List Value):(gu n zc).length=n*zc.length:=by
 induction n with
 |zero=>simp [gu]
 |succ n ih=>simp [gu,ih,aay,aat]
theorem Af:∀(n:Nat) (zc:List Value) (i:Nat),i<n*zc.length→(gu n zc)[i]?=zc[i % zc.length]?
 |0,zc,i,h=>by simp at h
 |n+1,zc,i,h=>by
  unfold gu
  rcases Zj i zc.length with hi|hi
  ·rw [aaM hi,Zk hi]
  ·rw [ZQ hi,Af n zc (i-zc.length) (by rw [aay] at h;omega)];congr 1;rw [Nat.mod_eq_sub_mod hi]
theorem u5 (n:Nat) (zc:List Value):(Array.range (n*zc.length)).map (fun i=>zc.toArray[i % zc.length]!)=(gu n zc).toArray:=by
 apply Array.ext_getElem?;intro i
 rcases Zj i (n*zc.length) with h|h
 ·have hpos:0<zc.length:=by
   rcases aak zc.length with h0|h0
   ·rw [h0] at h;omega
   ·exact h0
  have hm:i % zc.length<zc.length:=Y8 _ hpos;simp [h,Af n zc i h,Z1 hm]
 ·have h2:(gu n zc).length≤i:=by rw [nK];exact h
  simp [h2,h]
def ya (ρ:Rf):List (Nat×Operand)→List (Nat×Value)
 |[]=>[]
 |(i,x)::l=>(i,ev ρ x)::ya ρ l
theorem HO {ρ:Rf} (parts:Array (Nat×Operand)) {ps:List (Nat×Value)} (h:ya ρ parts.toList=ps):(parts.map fun (i,x)=>(i,ev ρ x))=ps.toArray:=by
 have h1:∀l:List (Nat×Operand),l.map (fun (i,x)=>(i,ev ρ x))=ya ρ l:=by
  intro l
  induction l with
  |nil=>rfl
  |cons a l ih=>simp only [Y1,ih];rfl
 subst h;rw [←h1];apply Array.ext';simp
section
variable {P:Program}{N:Nat}{ops:Array Oper}{Q:Kq}{ρ:Rf}{w w0:World}{rest:List Oper}{H:List HE}{d:Nat}{ty:TypeId}{pos:String}{af:Array Edge}
theorem xa {w':World}{r:Option Nat} (h:Below w0.heap.size w0 w) (hg:w.grownBy w' r) (hr:∀k,r=some k→w0.heap.size≤k):Below w0.heap.size w0 w':=h.grown hg h.size hr
theorem Hp.grown {w':World}{x y:HE}{i:Nat} (h:Hp w0 H w) (hi:H[i]?=some x) (hg:w.grownBy w' x.id) (hid:y.id=x.id∨y.id=none∨y.id=some w.heap.size) (hy:y.holds w0.heap.size w'):Hp w0 (H.set i y) w':=by
 refine h.Pa hi (fun b hb=> ?_) (xa h.below hg fun k hk=>(eA (h.at_ hi) hk).1) (fun b hlt hne=>hg.block b hlt (fun e=>hne e.symm)) hy
 rcases hid with e|e|e
 ·exact .inl (by rw [←e];exact hb)
 ·rw [e] at hb;cases hb
 ·rw [e] at hb;injection hb with hb
  exact .inr Yv
theorem Hp.cN (h:Hp w0 H w) (t:TypeId) (sz:Nat):Hp w0 (.row none 0 0 t sz []::H) w:=
 ⟨h.below,fun x hx=>by
  rcases YS.1 hx with rfl|hx
  ·exact World.ownsRow_nil _ _ _ _
  ·exact h.own x hx,by show (List.filterMap HE.id H).Nodup;exact h.nd⟩
theorem Hp.Hl (h:Hp w0 H w) (t:TypeId) (cs:List Value):Hp w0 (.blk w.heap.size t cs (0,0)::H) (w.alloc (.cells cs.toArray t)):=
 h.aY ((Below.refl _ _).alloc (YE _) _) ⟨YE _,heap_alloc_new w _,.inr (YE _)⟩
theorem Hp.Gq (h:Hp w0 H w) (t:TypeId) (sz n:Nat) (cs:List Value) (hl:cs.length=n*sz) (hn:n≤maxLen):Hp w0 (.row (some ⟨w.heap.size,0,none⟩) n n t sz cs::H) (w.alloc (.cells cs.toArray t)):=
 h.aY ((Below.refl _ _).alloc (YE _) _) ⟨hl,.inr ⟨w.heap.size,n,cs.toArray,rfl,YE _,heap_alloc_new w _,YE _,hn,by simpa using hl,by simp only [YG (show cs.length≤n*sz by omega)]⟩⟩
theorem Tp (hh:Hp w0 H w) {t:TypeId}{x:Operand}{cs:List Value}{v:Value} (hx:ev ρ x=v) (hc:v.cells=cs.toArray) (hN:d<N)
  (k:∀b w',Hp w0 (.blk b t cs (0,0)::H) w'→WL ro P N ops Q rest (cY ρ d (.pointer (some ⟨b,0,none⟩))) w'):WL ro P N ops Q (⟨some d,.box t x,ty,pos,af,none⟩::rest) ρ w:=
 aZ rfl rfl hN (w':=w.alloc (.cells cs.toArray t)) (v:=.pointer (some ⟨w.heap.size,0,none⟩)) (by simp [execOp,hx,Instr.box,newVar,newRow,hc]) (k _ _ (hh.Hl t cs))
theorem KF (hh:Hp w0 H w) {t:TypeId}{n by':Nat}{ag:Bool}{zc:List Value} (ht:dH P t=some (n,ag,by',zc)) (hN:d<N)
  (k:∀b w',Hp w0 (.blk b t zc (0,0)::H) w'→WL ro P N ops Q rest (cY ρ d (.pointer (some ⟨b,0,none⟩))) w'):WL ro P N ops Q (⟨some d,.alloc t,ty,pos,af,none⟩::rest) ρ w:=by
 obtain ⟨z,hz,hzc⟩:=ek (w:=w) ht;exact aZ rfl rfl hN (w':=w.alloc (.cells zc.toArray t)) (v:=.pointer (some ⟨w.heap.size,0,none⟩)) (by simp [execOp,Instr.alloc,newVar,newRow,hz,hzc]) (k _ _ (hh.Hl t zc))
theorem Du (hh:Hp w0 H w) {t t':TypeId}{x y:Operand}{i b o n by':Nat}{ag:Bool}{zc cs vs:List Value}{fz:Nat×Nat}{v:Value} (hx:ev ρ x=.pointer (some ⟨b,o,none⟩)) (hi:H[i]?=some (.blk b t' cs fz))
  (hy:ev ρ y=v) (hc:v.cells=vs.toArray) (ht:dH P t=some (n,ag,by',zc)) (hl:vs.length=n) (ho:o+n≤cs.length) (h1:(vs.all Value.oneCell')=true)
  (k:∀w',Hp w0 (H.set i (.blk b t' (cM cs o vs) fz)) w'→WL ro P N ops Q rest ρ w'):WL ro P N ops Q (⟨none,.store t x y,ty,pos,af,none⟩::rest) ρ w:=by
 have hb:=hh.at_ hi;obtain ⟨w',hr,hb',hg,hs⟩:=iz (P:=P) (b:=b) (t:=t') (fz:=fz) o vs 0 cs w hb.2.1 hb.2.2 Yv (by simpa using h1);refine G9 rfl rfl (w':=w') ?_ (k w' (hh.grown hi hg (.inl rfl) ⟨hb.1,by simpa using hb',by rw [gp Yv];exact hb.2.2⟩));simp [execOp,hx,hy,Instr.storeAt,Instr.sureAddr,storeVar,fk ht,hl,hc,hr]
theorem cA (hh:Hp w0 H w) {t t':TypeId}{x y:Operand}{i b o n m c sz by':Nat}{ag:Bool}{zc xs vs:List Value}{v:Value} (hx:ev ρ x=.pointer (some ⟨b,o,none⟩)) (hi:H[i]?=some (.row (some ⟨b,0,none⟩) m c t' sz xs))
  (hy:ev ρ y=v) (hc:v.cells=vs.toArray) (ht:dH P t=some (n,ag,by',zc)) (hl:vs.length=n) (ho:o+n≤xs.length) (h1:(vs.all Value.oneCell')=true)
  (k:∀w',Hp w0 (H.set i (.row (some ⟨b,0,none⟩) m c t' sz (cM xs o vs))) w'→WL ro P N ops Q rest ρ w'):WL ro P N ops Q (⟨none,.store t x y,ty,pos,af,none⟩::rest) ρ w:=by
 have hrow:=hh.at_ hi;obtain ⟨hlen,h2⟩:=hrow
 rcases h2 with ⟨h2,_⟩|⟨g,cap,cur,hv,hg,hheap,hmc,hcm,hcur,htake⟩
 ·injection h2 with h2;cases h2
 ·injection hv with hA hn hcap
  injection hA with hA
  injection hA with hA
  subst hA;subst hcap;have hcl:cur.size=cur.toList.length:=by simp
  have hle:m*sz≤c*sz:=ZH _ hmc;obtain ⟨w',hr,hb',hgr,hs⟩:=iz (P:=P) (b:=b) (t:=t') (fz:=(0,0)) o vs 0 cur.toList w (by simpa using hheap) (.inr (YE _)) (by rw [←hcl];omega) (by simpa using h1);refine G9 rfl rfl (w':=w') ?_ (k w' (hh.grown hi hgr (.inl rfl) ⟨by rw [gp Yv];exact hlen,.inr ⟨b,c,(cM cur.toList o vs).toArray,rfl,hg,by simpa using hb',hmc,hcm, ?_, ?_⟩⟩))
  ·simp [execOp,hx,hy,Instr.storeAt,Instr.sureAddr,storeVar,fk ht,hl,hc,hr]
  ·simp only [abc];rw [gp (by rw [←hcl];omega),←hcl,hcur]
  ·exact US
theorem cQ (hh:Hp w0 H w) {t e:TypeId}{len sz by':Nat}{ag:Bool}{parts:Array (Nat×Operand)}{ps:List (Nat×Value)}{zc cs:List Value} (ht:P.underlying t=some (.slice e)) (hte:dH P e=some (sz,ag,by',zc))
  (hp:ya ρ parts.toList=ps) (hzl:zc.length=sz) (hf:lN (fun i=>some (i*sz,sz)) (gu len zc) ps=some cs) (h0:¬len*sz=0) (hle:len≤1000) (hsl:len*sz≤16777216) (hl:cs.length=len*sz) (hN:d<N)
  (k:∀b w',Hp w0 (.row (some ⟨b,0,none⟩) len len e sz cs::H) w'→WL ro P N ops Q rest (cY ρ d (.slice (some ⟨b,0,none⟩) len len)) w'):WL ro P N ops Q (⟨some d,.buildSlice t len parts,ty,pos,af,none⟩::rest) ρ w:=by
 obtain ⟨z,hz,hzc⟩:=ek (w:=w) hte;refine aZ rfl rfl hN (w':=w.alloc (.cells cs.toArray e)) (v:=.slice (some ⟨w.heap.size,0,none⟩) len len) ?_ (k _ _ (hh.Gq e sz len cs hl (by unfold maxLen;omega)));exact T2
def q9 (P:Program) (t:TypeId):Option (List (Nat×Nat)):=
 match P.underlying t with
 |some (.struct fs)=>fs.toList.mapM fun f=>(P.info? f.type).map fun i=>(f.offset,i.size)
 |_=>none
theorem wb {P:Program}{w:World}:∀(l:List Field) (pl:List (Nat×Nat)),(l.mapM fun f=>(P.info? f.type).map fun i=>(f.offset,i.size))=some pl→
  (l.mapM (m:=Sem) fun f=>do pure (f.offset,←sizeOf f.type)).run P w=.ok pl w
 |[],pl,h=>by
  simp at h;subst h;simp
 |f::l,pl,h=>by
  rw [List.mapM_cons] at h
  cases hi:P.info? f.type with
  |none=>simp [hi] at h
  |some i=>
   cases hr:l.mapM (fun f=>(P.info? f.type).map fun i=>(f.offset,i.size)) with
   |none=>simp [hr] at h
   |some pl'=>
    simp [hi,hr] at h;have ih:=wb (w:=w) l pl' hr;have hs:(sizeOf f.type).run P w=.ok i.size w:=by simp [sizeOf,typeInfo,hi]
    rw [List.mapM_cons,Sem.run_bind,Sem.run_bind,hs,Result.andThen_ok,Sem.run_pure,Result.andThen_ok,Sem.run_bind,ih,Result.andThen_ok,Sem.run_pure,h]
theorem uQ {dd:Option Nat}{g:Option (Nat×Bool)}{t:TypeId}{n by':Nat}{parts:Array (Nat×Operand)}{ps:List (Nat×Value)}{zc cs:List Value}{pl:List (Nat×Nat)} (hte:dH P t=some (n,true,by',zc))
  (hpl:q9 P t=some pl)
  (hp:ya ρ parts.toList=ps) (hf:lN (pl[·]?) zc ps=some cs):
  (execOp (ev ρ) ⟨dd,.build t parts,ty,pos,af,g⟩).run P w=.ok (.value (.agg cs.toArray)) w:=by
 obtain ⟨z,hz,hzc⟩:=ek (w:=w) hte;unfold q9 at hpl;split at hpl
 ·rename_i fs hfs;have h1:=wb (w:=w) _ _ hpl;have h2:(fs.mapM (m:=Sem) fun f=>do pure (f.offset,←sizeOf f.type)).run P w=.ok pl.toArray w:=by
   have e:fs=fs.toList.toArray:=by simp
   rw [e,List.mapM_toArray,Sem.run_map,h1]
   rfl
  have hf':=AJ _ _ _ hf;have hpp:(fun (x:Nat)=>pl.toArray[x]?)=fun x=>pl[x]?:=by funext x;simp
  have hp':=HO parts hp;simp only [execOp,hp',Instr.build,Sem.run_bind,hz,Result.andThen_ok,run_underlying hfs,h2,hzc,hpp,hf',Sem.run_pure]
 ·cases hpl
end
end
section
variable {ro:Mode}
theorem jy (A:Option Addr) (n c:Nat):(Value.slice A n c).ownBlock=A.map (·.block):=by cases A<;>rfl
theorem xp (n:Nat) (z:Value):gu n [z]=List.replicate n z:=by
 induction n with
 |zero=>rfl
 |succ n ih=>simp [gu,ih,aax]
theorem gL {w:World}{ad:Addr}{xs:List Value}{m:Int}{k:Nat}{v:Value} (h:Rd w ad xs) (hx:xs[k]?=some v) (hm:m=(k:Int)):w.cell? (ad.add (m.toNat*1))=some v:=by
 subst hm;simpa using h k v hx
def mM (l:List UInt8):List Value:=l.map fun c=>.int .u8 c.toNat
theorem wg (l:List UInt8):(mM l).length=l.length:=by simp [mM]
section
variable {P:Program}{w:World}
theorem qV (base:Nat) (t ty e:TypeId) (i:TypeInfo) (ht:P.underlying t=some (.slice e)) (hi:P.info? e=some i)
  (v:Value) (n:Nat) (xs:List Value) (sz:Nat) (hown:w.ownsRow base e sz v n xs) (c:Nat):(Builtin.append_ #[t,t] ty #[v,.slice none 0 c]).run P w=.ok v w:=by
 rcases hown.2 with ⟨rfl,rfl⟩|⟨g,cap,cur,rfl,_,_,hnc,_⟩
 ·simp [Builtin.append_,run_underlying ht,sizeOf,typeInfo,hi,Builtin.lenOf,Builtin.firstCells]
 ·simp [Builtin.append_,run_underlying ht,sizeOf,typeInfo,hi,Builtin.lenOf,Builtin.firstCells,hnc,storeCells]
theorem l7 (base:Nat) (t ty e:TypeId) (sz by':Nat) (ag:Bool) (zc:List Value) (ht:P.underlying t=some (.slice e)) (hte:dH P e=some (sz,ag,by',zc)) (hzl:zc.length=sz) (hsz:0<sz)
  (A:Option Addr) (n c:Nat) (xs:List Value) (hown:w.ownsRow base e sz (.slice A n c) n xs) (B:Option Addr) (m c':Nat) (news:List Value) (hsl:Sl w B m sz news) (h1:∀u∈news,u.oneCell'=true)
  (h63:n+m≤maxLen) (hbytes:(n+m)*by'≤140737488355328) (hbase:base≤w.heap.size):
  ∃A' c2 w',(Builtin.append_ #[t,t] ty #[.slice A n c,.slice B m c']).run P w=.ok (.slice A' (n+m) c2) w'∧w'.ownsRow base e sz (.slice A' (n+m) c2) (n+m) (xs++news)∧
   w.grownBy w' (A.map (·.block))∧(A'.map (·.block)=A.map (·.block)∨A'.map (·.block)=none∨A'.map (·.block)=some w.heap.size):=by
 obtain ⟨i,z,d,hi,hd,hz,hs,hby,hzc,_⟩:=ez hte;have hzs:z.cells.size=sz:=by rw [hzc];simpa using hzl
 have fin:∀(ad:Addr),B=some ad→Rd w ad news→∃A' c2 w',(Builtin.append_ #[t,t] ty #[.slice A n c,.slice B m c']).run P w=.ok (.slice A' (n+m) c2) w'∧w'.ownsRow base e sz (.slice A' (n+m) c2) (n+m) (xs++news)∧
   w.grownBy w' (A.map (·.block))∧(A'.map (·.block)=A.map (·.block)∨A'.map (·.block)=none∨A'.map (·.block)=some w.heap.size):=by
  rintro ad rfl hr;obtain ⟨v',w',hrun,h2,h3,_,h5⟩:=run_append_own_at (P:=P) w base t ty e i z sz by' ht hi hz hs hby hzs hsz (.slice A n c) n xs hown ad m c' news hsl.1 hr h1 h63 hbytes hbase;rw [jy] at h3
  rcases h2.2 with ⟨hv,h0⟩|⟨g,cap,cur,hv,r⟩
  ·subst hv;refine ⟨none,0,w',by rw [hrun,h0],by rw [h0];exact h0 ▸ h2,h3,.inr (.inl rfl)⟩
  ·subst hv;refine ⟨_,_,w',hrun,h2,h3, ?_⟩
   rcases h5 with h5|h5
   ·exact .inl (by rw [←jy _ (n+m) cap,h5,jy])
   ·exact .inr (.inr (by rw [←jy _ (n+m) cap,h5]))
 rcases aak m with h0|h0
 ·subst h0;have hnews:news=[]:=ZO (by simpa using hsl.1);subst hnews
  cases B with
  |none=>exact ⟨A,c,w,qV base t ty e i ht hi _ n xs sz hown c',by simpa using hown,World.grownBy.refl _ _,.inl rfl⟩
  |some ad=>exact fin ad rfl (fun j u hu=>by simp at hu)
 ·obtain ⟨ad,hB,hr⟩:=hsl.2 h0;exact fin ad hB hr
theorem xB {A:Option Addr}{n c:Nat}{l:List UInt8} (h:Sl w A n 1 (mM l)):(Conv.bytesToString (.slice A n c)).run P w=.ok (.string ⟨l.toArray⟩) w:=by
 have hn:l.length=n:=by have:=h.1;rw [wg] at this;omega
 cases A with
 |none=>
  have h0:n=0:=by
   rcases aak n with h0|h0
   ·exact h0
   ·obtain ⟨ad,h1,_⟩:=h.2 h0;cases h1
  have:l=[]:=ZO Yv;subst this;simp [Conv.bytesToString,ByteArray.empty,ByteArray.emptyWithCapacity]
  rfl
 |some a=>
  have hr:Rd w a (mM l):=by
   rcases aak n with h0|h0
   ·have:l=[]:=ZO Yv;subst this;intro j u hu;simp [mM] at hu
   ·obtain ⟨ad,h1,h2⟩:=h.2 h0;injection h1 with h1;subst h1;exact h2
  have e1:mM l=(l.map fun c:UInt8=>(c.toNat:Int)).map (Value.int .u8):=by simp [mM]
  have hld:=run_loadCells_list (P:=P) w a (mM l) hr;rw [wg,hn,e1] at hld;rw [run_bytesToString w a n c _ hld];congr 2;have:∀(l:List UInt8) (s:ByteArray),(l.map fun c:UInt8=>(c.toNat:Int)).foldl (fun r n=>r.push (UInt8.ofNat n.toNat)) s=⟨s.data++l.toArray⟩:=by
   intro l
   induction l with
   |nil=>intro s;simp
   |cons c l ih=>
    intro s;simp only [Y1,abz];rw [ih];have:(s.push (UInt8.ofNat ((c.toNat:Int)).toNat)).data=s.data.push c:=by simp [ByteArray.push]
    rw [this];congr 1;apply Array.ext';simp
  rw [this];congr 1;apply Array.ext';simp [ByteArray.empty,ByteArray.emptyWithCapacity]
  rfl
end
section
variable {P:Program}{N:Nat}{ops:Array Oper}{Q:Kq}{ρ:Rf}{w w0:World}{rest:List Oper}{H:List HE}{d:Nat}{ty:TypeId}{pos:String}{af:Array Edge}
theorem cd (hh:Hp w0 H w) {t e:TypeId}{s x:Operand}{i n c m c' sz by':Nat}{ag:Bool}{A B:Option Addr}{zc xs news:List Value} (hi:H[i]?=some (.row A n c e sz xs)) (hs:ev ρ s=.slice A n c) (hx:ev ρ x=.slice B m c')
  (hsl:Sl w B m sz news) (ht:P.underlying t=some (.slice e)) (hte:dH P e=some (sz,ag,by',zc)) (hzl:zc.length=sz) (hsz:0<sz) (h1:(news.all Value.oneCell')=true)
  (h63:n+m≤9223372036854775807) (hbytes:(n+m)*by'≤140737488355328) (hN:d<N)
  (k:∀A' c2 w',Hp w0 (H.set i (.row A' (n+m) c2 e sz (xs++news))) w'→WL ro P N ops Q rest (cY ρ d (.slice A' (n+m) c2)) w'):
  WL ro P N ops Q (⟨some d,.call ⟨.builtin .append, #[s,x], #[t,t]⟩,ty,pos,af,none⟩::rest) ρ w:=by
 obtain ⟨A',c2,w',hr,hown,hg,hid⟩:=l7 (P:=P) w0.heap.size t ty e sz by' ag zc ht hte hzl hsz A n c xs (hh.at_ hi) B m c' news hsl (by simpa using h1) (by unfold maxLen;omega) hbytes hh.size;refine aZ rfl rfl hN (w':=w') (v:=.slice A' (n+m) c2) ?_ (k A' c2 w' (hh.grown hi hg hid hown));exact Sd
theorem gE (hh:Hp w0 H w) {t e:TypeId}{l cp:Operand}{kl kc:IntKind}{L C:Int}{n sz by':Nat}{ag:Bool}{zc:List Value} (hl:ev ρ l=.int kl L) (hc:ev ρ cp=.int kc C) (hL:L=(n:Int)) (hC:C=(n:Int))
  (ht:P.underlying t=some (.slice e)) (hte:dH P e=some (sz,ag,by',zc)) (hzl:zc.length=sz) (hb:by'*n≤281474976710656) (h63:n≤9223372036854775807) (hN:d<N)
  (k:∀b w',Hp w0 (.row (some ⟨b,0,none⟩) n n e sz (gu n zc)::H) w'→WL ro P N ops Q rest (cY ρ d (.slice (some ⟨b,0,none⟩) n n)) w'):
  WL ro P N ops Q (⟨some d,.makeSlice t l cp,ty,pos,af,none⟩::rest) ρ w:=by
 obtain ⟨i,z,dd,hi,hd,hz,hs,hby,hzc,_⟩:=ez hte;subst hL;subst hC;obtain ⟨w',hr,hown,hg⟩:=run_make_full (P:=P) w w.heap.size t e i z sz ht hi hz hs kl kc n (by rw [hby];exact hb) (by unfold maxLen;omega) (YE _);have hzz:(madeCells z.cells (n*sz)).toList=gu n zc:=by
  exact Tb
 rw [hzz] at hown;refine aZ rfl rfl hN (w':=w') (v:=.slice (some ⟨w.heap.size,0,none⟩) n n) ?_ (k _ w' (hh.aY ⟨hg.os,hg.tape,hg.output,hg.size,fun j hj=>hg.block j hj (by simp)⟩ hown));simp [execOp,hl,hc,hr]
theorem xh (hh:Hp w0 H w) {t e:TypeId}{sz by':Nat}{ag:Bool}{zc:List Value} (ht:P.underlying t=some (.slice e)) (hte:dH P e=some (sz,ag,by',zc)) (hN:d<N)
  (k:∀b w',Hp w0 (.row (some ⟨b,0,none⟩) 0 0 e sz []::H) w'→WL ro P N ops Q rest (cY ρ d (.slice (some ⟨b,0,none⟩) 0 0)) w'):WL ro P N ops Q (⟨some d,.buildSlice t 0 #[],ty,pos,af,none⟩::rest) ρ w:=by
 refine aZ rfl rfl hN (w':=w.alloc (.cells #[] e)) (v:=.slice (some ⟨w.heap.size,0,none⟩) 0 0) ?_ (k _ _ (hh.Gq e sz 0 [] (by simp) (by unfold maxLen;omega)));have e0:Array.range 0= #[]:=rfl;simp [execOp,Instr.buildSlice,run_underlying ht,fk hte,Instr.fill,newRow,e0]
theorem iT {dd:Option Nat}{g:Option (Nat×Bool)}{s t e:TypeId}{x:Operand}{A:Option Addr}{n c:Nat}{l:List UInt8} (hs:P.underlying s=some (.slice e)) (he:P.underlying e=some (.int .u8)) (ht:P.underlying t=some .string)
  (hx:ev ρ x=.slice A n c) (h:Sl w A n 1 (mM l)):(execOp (ev ρ) ⟨dd,.convert s t x,ty,pos,af,g⟩).run P w=.ok (.value (.string ⟨l.toArray⟩)) w:=by
 simp [execOp,hx,run_convert_bytes_string w s t e A n c hs he ht,xB h]
theorem Ag (hh:Hp w0 H w) {t:TypeId}{x:Operand}{s:ByteArray} (ht:P.underlying t=some .string) (hx:ev ρ x=.string s) (hN:d<N)
  (k:∀b w',Hp w0 (.it b s 0::H) w'→WL ro P N ops Q rest (cY ρ d (.pointer (some ⟨b,0,none⟩))) w'):WL ro P N ops Q (⟨some d,.range t x,ty,pos,af,none⟩::rest) ρ w:=by
 refine aZ rfl rfl hN (w':=w.alloc (.stringIter s 0)) (v:=.pointer (some ⟨w.heap.size,0,none⟩)) (by simp [execOp,hx,Instr.range,run_underlying ht]) (k _ _ (hh.aY ((Below.refl _ _).alloc (YE _) _) ⟨YE _,heap_alloc_new w _⟩))
theorem Bj (hh:Hp w0 H w) {x:Operand}{i b p:Nat}{s:ByteArray} (hi:H[i]?=some (.it b s p)) (hx:ev ρ x=.pointer (some ⟨b,0,none⟩)) (hp:¬p<s.size) (hN:d<N)
  (k:WL ro P N ops Q rest (cY ρ d (.tuple #[.bool false])) w):WL ro P N ops Q (⟨some d,.next x true,ty,pos,af,none⟩::rest) ρ w:=by
 have h1:=(hh.at_ hi).2;refine aZ rfl rfl hN (w':=w) (v:=.tuple #[.bool false]) ?_ k;simp [execOp,hx,Instr.next,getObj,Sem.run,h1,hp]
theorem Av (hh:Hp w0 H w) {x:Operand}{i b p:Nat}{s:ByteArray}{c:UInt8} (hi:H[i]?=some (.it b s p)) (hx:ev ρ x=.pointer (some ⟨b,0,none⟩)) (hc:s.data.toList[p]?=some c) (h128:c.toNat<128) (hN:d<N)
  (k:∀w',Hp w0 (H.set i (.it b s (p+1))) w'→WL ro P N ops Q rest (cY ρ d (.tuple #[.bool true,.int .i64 p,.int .i32 c.toNat])) w'):WL ro P N ops Q (⟨some d,.next x true,ty,pos,af,none⟩::rest) ρ w:=by
 have h1:=(hh.at_ hi).2;obtain ⟨hlt,hcc⟩:=YQ.1 hc;have hlt':p<s.size:=by simpa using hlt
 have hget:s.get! p=c:=by
  have:s.get! p=s.data[p]! :=rfl;rw [this,getElem!_pos s.data p hlt'];simpa using hcc
 have hdec:Utf8.decode s p=(c.toNat,1):=by
  unfold Utf8.decode;simp only [aab,hget];rw [YA h128]
 let w':World:={ w with heap:=w.heap.setIfInBounds b (.stringIter s (p+1)) }
 have hb:=eA (hh.at_ hi) (b:=b) rfl;have hg:w.grownBy w' (some b):=⟨rfl,rfl,rfl,by simp [w'],fun k _ hne=>by
  show (w.heap.setIfInBounds b _)[k]?=_;rw [Array.getElem?_setIfInBounds_ne (fun e=>hne (by rw [e]))]⟩
 refine aZ rfl rfl hN (w':=w') (v:=.tuple #[.bool true,.int .i64 p,.int .i32 c.toNat]) ?_ (k w' (hh.grown hi hg (.inl rfl) ⟨hb.1, ?_⟩))
 ·simp [execOp,hx,Instr.next,getObj,setObj,Sem.run,h1,hlt',hdec,goInt,w']
 ·show (w.heap.setIfInBounds b _)[b]?=_;simp [hb.2]
end
end
class UK (k:IntKind) (b:outParam Nat) (M:outParam Nat):Prop where
 bits:k.bits=b
 sgn:k.signed=false
 pow:2^b=M
instance:UK .u8 8 256:=⟨rfl,rfl,rfl⟩
instance:UK .u16 16 65536:=⟨rfl,rfl,rfl⟩
instance:UK .u32 32 4294967296:=⟨rfl,rfl,rfl⟩
instance:UK .u64 64 18446744073709551616:=⟨rfl,rfl,rfl⟩
theorem UK.wrap {k:IntKind}{b M:Nat} [h:UK k b M] (n:Nat):k.wrap (n:Int)=((n % M:Nat):Int):=by
 unfold IntKind.wrap;have hM:(2:Int)^k.bits=(M:Int):=by rw [h.bits,←h.pow];simp
 simp only [h.sgn,hM,Bool.false_and];simp
theorem UK.qX {k:IntKind}{b M:Nat} [UK k b M] {n:Nat} (hn:n<M):k.wrap (n:Int)=(n:Int):=by rw [UK.wrap,Zk hn]
theorem UK.wrap_add {k:IntKind}{b M:Nat} [h:UK k b M] (z:Int):k.wrap (z+M)=k.wrap z:=by
 unfold IntKind.wrap;have hM:(2:Int)^k.bits=(M:Int):=by rw [h.bits,←h.pow];simp
 simp [hM]
section
variable {P:Program}{ρ:Rf}{w:World}{d:Option Nat}{ty:TypeId}{pos:String}{af:Array Edge}{g:Option (Nat×Bool)}
section unats
variable {t u:TypeId}{x y:Operand}{k:IntKind}{q M:Nat}{a b:Nat}
theorem S3 [UK k q M] (hx:ev ρ x=.int k (a:Int)) (hy:ev ρ y=.int k (b:Int)):(execOp (ev ρ) ⟨d,.binOp .add t x y u,ty,pos,af,g⟩).run P w=.ok (.value (.int k (((a+b) % M:Nat):Int))) w:=by
 rw [Sb hx hy,←aaw,UK.wrap]
theorem Td [UK k q M] (hx:ev ρ x=.int k (a:Int)) (hy:ev ρ y=.int k (b:Int)) (hb:b≤M):(execOp (ev ρ) ⟨d,.binOp .sub t x y u,ty,pos,af,g⟩).run P w=.ok (.value (.int k (((a+M-b) % M:Nat):Int))) w:=by
 rw [SE hx hy,←UK.wrap (k:=k)];have h:((a+M-b:Nat):Int)=(a:Int)-b+M:=Yv;rw [h,UK.wrap_add]
theorem Ua [UK k q M] (hx:ev ρ x=.int k (a:Int)) (hy:ev ρ y=.int k (b:Int)):(execOp (ev ρ) ⟨d,.binOp .mul t x y u,ty,pos,af,g⟩).run P w=.ok (.value (.int k (((a*b) % M:Nat):Int))) w:=by
 rw [QN hx hy,←ZU,UK.wrap]
theorem Tu [UK k q M] (hx:ev ρ x=.int k (a:Int)) (hy:ev ρ y=.int k (b:Int)) (hb:0<b) (ha:a<M):(execOp (ev ρ) ⟨d,.binOp .quo t x y u,ty,pos,af,g⟩).run P w=.ok (.value (.int k ((a/b:Nat):Int))) w:=by
 rw [RY hx hy Yv,←Int.ofNat_tdiv,UK.qX (ZF (aaU _ _) ha)]
theorem Ue (hx:ev ρ x=.int k (a:Int)) (hy:ev ρ y=.int k (b:Int)) (hb:0<b):(execOp (ev ρ) ⟨d,.binOp .rem t x y u,ty,pos,af,g⟩).run P w=.ok (.value (.int k ((a % b:Nat):Int))) w:=by
 rw [Q9 hx hy Yv,←Int.ofNat_tmod]
theorem pF (n:Nat) (a:Nat):BitVec.ofInt n (a:Int)=BitVec.ofNat n a:=by simp
theorem Vz [h:UK k q M] (hx:ev ρ x=.int k (a:Int)) (hy:ev ρ y=.int k (b:Int)) (ha:a<M) (hb:b<M):(execOp (ev ρ) ⟨d,.binOp .or t x y u,ty,pos,af,g⟩).run P w=.ok (.value (.int k ((a|||b:Nat):Int))) w:=by
 rw [WB hx hy,pF,pF,BitVec.toNat_or,BitVec.toNat_ofNat,BitVec.toNat_ofNat,h.bits,h.pow,Zk ha,Zk hb,UK.qX];rw [←h.pow] at ha hb ⊢;exact Nat.or_lt_two_pow ha hb
theorem Uo [h:UK k q M] (hx:ev ρ x=.int k (a:Int)) (hy:ev ρ y=.int k (b:Int)) (ha:a<M) (hb:b<M):(execOp (ev ρ) ⟨d,.binOp .and t x y u,ty,pos,af,g⟩).run P w=.ok (.value (.int k ((a &&& b:Nat):Int))) w:=by
 rw [RU hx hy,pF,pF,BitVec.toNat_and,BitVec.toNat_ofNat,BitVec.toNat_ofNat,h.bits,h.pow,Zk ha,Zk hb,UK.qX];exact ZF Nat.and_le_left ha
theorem A5 [h:UK k q M] {k':IntKind}{s:Int} (hx:ev ρ x=.int k (a:Int)) (hy:ev ρ y=.int k' s) (hs:0≤s∧s≤q):(execOp (ev ρ) ⟨d,.binOp .shl t x y u,ty,pos,af,g⟩).run P w=.ok (.value (.int k (((a*2^s.toNat) % M:Nat):Int))) w:=by
 have e:(a:Int)*2^(min s.toNat k.bits)=((a*2^s.toNat:Nat):Int):=by
  rw [h.bits,ZB Yv,ZU,Int.natCast_pow];rfl
 rw [VT hx hy hs.1,e,UK.wrap]
theorem E5 [h:UK k q M] {k':IntKind}{s:Int} (hx:ev ρ x=.int k (a:Int)) (hy:ev ρ y=.int k' s) (hs:0≤s∧s≤q):(execOp (ev ρ) ⟨d,.binOp .shr t x y u,ty,pos,af,g⟩).run P w=.ok (.value (.int k ((a/2^s.toNat:Nat):Int))) w:=by
 rw [Vm hx hy hs.1,h.bits,ZB Yv,Int.fdiv_eq_ediv_of_nonneg _ (Int.le_of_lt (Int.pow_pos Yv))];simp
theorem OY [UK k q M] {k':IntKind}{s m:Nat} (hx:ev ρ x=.int k (a:Int)) (hy:ev ρ y=.int k' (s:Int)) (hs:s≤q) (hm:2^s=m):(execOp (ev ρ) ⟨d,.binOp .shr t x y u,ty,pos,af,g⟩).run P w=.ok (.value (.int k ((a/m:Nat):Int))) w:=by
 rw [E5 hx hy Yv,←hm];rfl
theorem Tk [h:UK k q M] (hx:ev ρ x=.int k (a:Int)) (ha:a≤M):(execOp (ev ρ) ⟨d,.unOp .neg t x,ty,pos,af,g⟩).run P w=.ok (.value (.int k (((M-a) % M:Nat):Int))) w:=by
 rw [Qz hx,←UK.wrap (k:=k)];have e:((M-a:Nat):Int)= -(a:Int)+M:=Yv;rw [e,UK.wrap_add]
theorem Pf [UK k q M] {s t:TypeId}{k':IntKind}{sd:TypeDesc} (hs:P.underlying s=some sd) (ht:P.underlying t=some (.int k)) (hx:ev ρ x=.int k' (a:Int)):
  (execOp (ev ρ) ⟨d,.convert s t x,ty,pos,af,g⟩).run P w=.ok (.value (.int k ((a % M:Nat):Int))) w:=by
 rw [kT hs ht hx,UK.wrap]
theorem wE [UK k q M] {s t:TypeId}{k':IntKind}{sd:TypeDesc} (hs:P.underlying s=some sd) (ht:P.underlying t=some (.int k)) (hx:ev ρ x=.int k' (a:Int)) (ha:a<M):
  (execOp (ev ρ) ⟨d,.convert s t x,ty,pos,af,g⟩).run P w=.ok (.value (.int k (a:Int))) w:=by
 rw [kT hs ht hx,UK.qX ha]
end unats
section ints
variable {t u:TypeId}{x y:Operand}{k:IntKind}{a b:Int}
theorem H5 (hx:ev ρ x=.int k a) (hy:ev ρ y=.int k b):(execOp (ev ρ) ⟨d,.binOp .lss t x y u,ty,pos,af,g⟩).run P w=.ok (.value (.bool (decide (a<b)))) w:=by
 by_cases h:a<b
 ·rw [Oc hx hy h,YV h]
 ·rw [OW hx hy h,Y3 h]
theorem Qb (hx:ev ρ x=.int k a) (hy:ev ρ y=.int k b):(execOp (ev ρ) ⟨d,.binOp .leq t x y u,ty,pos,af,g⟩).run P w=.ok (.value (.bool (decide (a≤b)))) w:=by
 by_cases h:a≤b
 ·rw [Ps hx hy h,YV h]
 ·rw [P2 hx hy h,Y3 h]
theorem Ht (hx:ev ρ x=.int k a) (hy:ev ρ y=.int k b):(execOp (ev ρ) ⟨d,.binOp .gtr t x y u,ty,pos,af,g⟩).run P w=.ok (.value (.bool (decide (b<a)))) w:=by
 by_cases h:b<a
 ·rw [Ou hx hy h,YV h]
 ·rw [Qg hx hy h,Y3 h]
theorem PW (hx:ev ρ x=.int k a) (hy:ev ρ y=.int k b):(execOp (ev ρ) ⟨d,.binOp .geq t x y u,ty,pos,af,g⟩).run P w=.ok (.value (.bool (decide (b≤a)))) w:=by
 by_cases h:b≤a
 ·rw [PY hx hy h,YV h]
 ·rw [N8 hx hy h,Y3 h]
theorem O0 (hx:ev ρ x=.int k a) (hy:ev ρ y=.int k b):(execOp (ev ρ) ⟨d,.binOp .neq t x y u,ty,pos,af,g⟩).run P w=.ok (.value (.bool (decide (a≠b)))) w:=by
 by_cases h:a=b
 ·rw [ON hx hy h,Y3 (by simpa using h)]
 ·rw [PM hx hy h,YV h]
end ints
section bools
variable {t u:TypeId}{x y:Operand}{a b:Bool}
theorem Oz (ht:P.underlying t=some .bool) (hx:ev ρ x=.bool a) (hy:ev ρ y=.bool b) (h:a=b):(execOp (ev ρ) ⟨d,.binOp .eql t x y u,ty,pos,af,g⟩).run P w=.ok (.value (.bool true)) w:=by
 rw [wJ ht hx hy,h,beq_self_eq_true]
theorem PN (ht:P.underlying t=some .bool) (hx:ev ρ x=.bool a) (hy:ev ρ y=.bool b) (h:¬a=b):(execOp (ev ρ) ⟨d,.binOp .eql t x y u,ty,pos,af,g⟩).run P w=.ok (.value (.bool false)) w:=by
 rw [wJ ht hx hy,beq_false_of_ne h]
theorem Ov (ht:P.underlying t=some .bool) (hx:ev ρ x=.bool a) (hy:ev ρ y=.bool b) (h:¬a=b):(execOp (ev ρ) ⟨d,.binOp .neq t x y u,ty,pos,af,g⟩).run P w=.ok (.value (.bool true)) w:=by
 rw [mQ ht hx hy,bne,beq_false_of_ne h];rfl
theorem O8 (ht:P.underlying t=some .bool) (hx:ev ρ x=.bool a) (hy:ev ρ y=.bool b) (h:a=b):(execOp (ev ρ) ⟨d,.binOp .neq t x y u,ty,pos,af,g⟩).run P w=.ok (.value (.bool false)) w:=by
 rw [mQ ht hx hy,bne,h,beq_self_eq_true];rfl
end bools
theorem gl {t e:TypeId}{x i:Operand}{ad:Addr}{n c sz k:Nat}{kk:IntKind}{m:Int} (ht:P.underlying t=some (.slice e)) (hsz:(P.info? e).map (·.size)=some sz) (hx:ev ρ x=.slice (some ad) n c) (hi:ev ρ i=.int kk m)
  (hm:m=(k:Int)) (h1:k<n):(execOp (ev ρ) ⟨d,.indexAddr t x i,ty,pos,af,g⟩).run P w=.ok (.value (.pointer (some (ad.add (k*sz))))) w:=by
 rw [dL ht hsz hx hi Yv Yv,hm];rfl
theorem EP {t e:TypeId}{x i:Operand}{b o n c sz k:Nat}{kk:IntKind}{m:Int} (ht:P.underlying t=some (.slice e)) (hsz:(P.info? e).map (·.size)=some sz) (hx:ev ρ x=.slice (some ⟨b,o,none⟩) n c) (hi:ev ρ i=.int kk m)
  (hm:m=(k:Int)) (h1:k<n):(execOp (ev ρ) ⟨d,.indexAddr t x i,ty,pos,af,g⟩).run P w=.ok (.value (.pointer (some ⟨b,o+k*sz,none⟩))) w:=by
 rw [dL ht hsz hx hi Yv Yv,hm,gh];rfl
theorem F7 {t e:TypeId}{x i:Operand}{ad:Addr}{n sz k:Nat}{kk:IntKind}{m:Int} (ht:P.underlying t=some (.array n e)) (hsz:(P.info? e).map (·.size)=some sz) (hx:ev ρ x=.pointer (some ad)) (hi:ev ρ i=.int kk m)
  (hm:m=(k:Int)) (h1:k<n):(execOp (ev ρ) ⟨d,.indexAddr t x i,ty,pos,af,g⟩).run P w=.ok (.value (.pointer (some (ad.add (k*sz))))) w:=by
 obtain ⟨i,hi1,hi2⟩:=aao.1 hsz;have h2:(k:Int)<n:=Yv;subst hm;simp [execOp,hx,hi,Instr.indexAt,asIntOf,run_underlying ht,sizeOf,typeInfo,hi1,hi2,Instr.sureAddr,h1]
theorem CN {t e:TypeId}{x hi:Operand}{A:Option Addr}{n c h sz:Nat}{k:IntKind}{m:Int} (ht:P.underlying t=some (.slice e)) (hsz:(P.info? e).map (·.size)=some sz) (hx:ev ρ x=.slice A n c) (hhi:ev ρ hi=.int k m)
  (hm:m=(h:Int)) (h2:h≤c):(execOp (ev ρ) ⟨d,.slice t x none (some hi) none,ty,pos,af,g⟩).run P w=.ok (.value (.slice A h c)) w:=by
 rw [jQ (lo:=none) (hi:=some hi) (l:=0) (h:=h) ht hsz hx rfl ⟨k,m,hhi,hm⟩ (YD _) h2];congr 3
 cases A with
 |none=>simp
 |some ad=>simp [Addr.add]
theorem Fb {t e:TypeId}{x lo:Operand}{b o n c l sz:Nat}{k:IntKind}{m:Int} (ht:P.underlying t=some (.slice e)) (hsz:(P.info? e).map (·.size)=some sz) (hx:ev ρ x=.slice (some ⟨b,o,none⟩) n c) (hlo:ev ρ lo=.int k m)
  (hm:m=(l:Int)) (h1:l≤n) (h2:n≤c) (h3:l<c):(execOp (ev ρ) ⟨d,.slice t x (some lo) none none,ty,pos,af,g⟩).run P w=.ok (.value (.slice (some ⟨b,o+l*sz,none⟩) (n-l) (c-l))) w:=by
 rw [jQ (lo:=some lo) (hi:=none) (l:=l) (h:=n) ht hsz hx ⟨k,m,hlo,hm⟩ rfl h1 h2,YB Yv];simp only [Z0,gh]
theorem CC {t e:TypeId}{x lo:Operand}{ad:Addr}{n c l sz:Nat}{k:IntKind}{m:Int} (ht:P.underlying t=some (.slice e)) (hsz:(P.info? e).map (·.size)=some sz) (hx:ev ρ x=.slice (some ad) n c) (hlo:ev ρ lo=.int k m)
  (hm:m=(l:Int)) (h1:l≤n) (h2:n≤c) (h3:l<c):(execOp (ev ρ) ⟨d,.slice t x (some lo) none none,ty,pos,af,g⟩).run P w=.ok (.value (.slice (some (ad.add (l*sz))) (n-l) (c-l))) w:=by
 rw [jQ (lo:=some lo) (hi:=none) (l:=l) (h:=n) ht hsz hx ⟨k,m,hlo,hm⟩ rfl h1 h2,YB Yv]
 rfl
end
theorem Rd.xv {w:World}{ad:Addr}{xs:List Value}{k:Nat}{v:Value} (h:Rd w ad xs) (hx:xs[k]?=some v):w.cell? (ad.add (k*1))=some v:=by
 rw [YX];exact h k v hx
def dF (l:List Nat):List Value:=l.map fun (d:Nat)=>.int .u64 (d:Int)
theorem bq (l:List Nat):(dF l).length=l.length:=by simp [dF]
theorem eX {l:List Nat}{k d:Nat} (h:l[k]?=some d):(dF l)[k]?=some (.int .u64 (d:Int)):=by simp [dF,h]
theorem gR (l:List Nat) (k d:Nat):(dF l).set k (.int .u64 (d:Int))=dF (l.set k d):=by simp [dF,aa3]
theorem D2 (a b:List Nat):dF (a++b)=dF a++dF b:=by simp [dF]
theorem yT (a:List Nat) (k:Nat):dF (a.take k)=(dF a).take k:=by simp [dF,abj]
theorem xV (a:List Nat) (k:Nat):dF (a.drop k)=(dF a).drop k:=by simp [dF,aa7]
theorem cR (l:List Nat):((dF l).all Value.oneCell')=true:=by simp [dF,Value.oneCell']
theorem rV (n:Nat):gu n [Value.int .u64 0]=dF (List.replicate n 0):=by rw [xp];simp [dF]
def ij (l:List Nat):List Value:=l.map fun (d:Nat)=>.int .u8 (d:Int)
theorem dq (l:List Nat):(ij l).length=l.length:=by simp [ij]
theorem qH {l:List Nat}{k d:Nat} (h:l[k]?=some d):(ij l)[k]?=some (.int .u8 (d:Int)):=by simp [ij,h]
theorem sx (l:List Nat) (k d:Nat):(ij l).set k (.int .u8 (d:Int))=ij (l.set k d):=by simp [ij,aa3]
theorem wN (a b:List Nat):ij (a++b)=ij a++ij b:=by simp [ij]
theorem B6 (a:List Nat) (k:Nat):ij (a.take k)=(ij a).take k:=by simp [ij,abj]
theorem dv (l:List Nat):((ij l).all Value.oneCell')=true:=by simp [ij,Value.oneCell']
theorem sa (n:Nat):gu n [Value.int .u8 0]=ij (List.replicate n 0):=by rw [xp];simp [ij]
theorem JF {l:List Nat} (h:∀d∈l,d<256):ij l=mM (l.map UInt8.ofNat):=by
 rw [ij,mM,Zy];apply aaB;intro d hd;have:=h d hd;simp only [Function.comp,abA];congr 2;omega
theorem Sl.TE {w:World}{ad:Addr}{n:Nat}{ys:List Nat}{k d:Nat} (h:Sl w (some ad) n 1 (dF ys)) (hd:ys[k]?=some d):w.cell? (ad.add (k*1))=some (.int .u64 (d:Int)):=by
 have hl:=h.1;have hk:=(YQ.1 hd).1;rw [bq] at hl;obtain ⟨ad',he,hr⟩:=h.2 Yv;injection he with he
 subst he;exact hr.xv (eX hd)
theorem AY {pre done r post:List Nat}{x:Nat}:(pre++(done++x::r)++post)[pre.length+done.length]?=some x:=by
 rw [Ze,ZQ Yv,Ze,ZQ Yv];simp
theorem oQ {pre done r post:List Nat}{x y:Nat}:(pre++(done++x::r)++post).set (pre.length+done.length) y=pre++((done++[y])++r)++post:=by
 rw [Ze,aaI _ _ Yv,Ze,aaI _ _ Yv];simp
theorem dp {cs:List Value}{o:Nat}{v:Value} (h:o<cs.length):cM cs o [v]=cs.set o v:=by
 unfold cM;rw [abF,YA h];simp
theorem Hp.front {w0 w:World}{H:List HE}{x:HE} (h:Hp w0 H w) (i:Nat) (hi:H[i]?=some x):Hp w0 (x::H.eraseIdx i) w:=by
 have hp:H.Perm (x::H.eraseIdx i):=by
  clear h
  induction H generalizing i with
  |nil=>simp at hi
  |cons y H ih=>
   cases i with
   |zero=>simp at hi;subst hi;simp
   |succ i=>
    simp only [aaY] at hi;simp only [List.eraseIdx_cons_succ];exact ((ih i hi).cons y).trans (List.Perm.swap x y _)
 exact ⟨h.below,fun y hy=>h.own y (hp.mem_iff.2 hy),(hp.filterMap _).nodup_iff.1 h.nd⟩
theorem Hp.E3 {w0 w:World}{H:List HE}{A:Option Addr}{n c:Nat}{t:TypeId}{sz:Nat}{xs:List Value} (h:Hp w0 (.row A n c t sz xs::H) w) {k:Nat} (hk:k≤n):Hp w0 (.row A k c t sz (xs.take (k*sz))::H) w:=by
 refine ⟨h.below,fun y hy=> ?_,h.nd⟩
 rcases YS.1 hy with rfl|hy
 ·have h1:w.ownsRow w0.heap.size t sz (.slice A n c) n xs:=h.own _ YL;obtain ⟨h2,h3⟩:=h1;have hkn:k*sz≤n*sz:=ZH _ hk;refine ⟨by rw [YW];omega, ?_⟩
  rcases h3 with ⟨h3,h4⟩|⟨g,cap,cur,hv,hb,hg,h4,h5,h6,h7⟩
  ·injection h3 with h5 h6 h7
   subst h5 h6 h7;exact .inl ⟨by rw [show k=0 by omega],Yv⟩
  ·injection hv with h8 h9 h10
   subst h8;refine .inr ⟨g,cap,cur,by rw [h10],hb,hg,Yv,h5,h6, ?_⟩;rw [←h7,List.take_take,ZB hkn]
 ·exact h.own y (YP _ hy)
theorem Hp.fQ {w0 w:World}{H:List HE}{A:Option Addr}{n c:Nat}{t:TypeId}{sz:Nat}{xs:List Value}{i:Nat} (h:Hp w0 H w) (hi:H[i]?=some (.row A n c t sz xs)):n≤c:=by
 have h1:w.ownsRow w0.heap.size t sz (.slice A n c) n xs:=h.at_ hi
 rcases h1.2 with ⟨h3,h4⟩|⟨g,cap,cur,hv,hb,hg,h4,h5,h6,h7⟩
 ·omega
 ·injection hv with h8 h9 h10
  omega
section
variable {ro:Mode}
section
variable {P:Program}{N:Nat}{ops:Array Oper}{Q:Kq}{ρ:Rf}{w w0:World}{rest:List Oper}{H:List HE}{d:Nat}{ty:TypeId}{pos:String}{af:Array Edge}
theorem sJ {x:Operand}{v:Value} (hx:ev ρ x=v) (hN:d<N) (kk:WL ro P N ops Q rest (cY ρ d v) w):
  WL ro P N ops Q (⟨some d,.move x,ty,pos,af,none⟩::rest) ρ w:=aZ rfl rfl hN (fy hx) kk
theorem la {x:Operand}{v:Value} (hx:ev ρ x=v) (hN:d<N) (kk:WL ro P N ops Q rest (cY ρ d v) w):
  WL ro P N ops Q (⟨some d,.assign x,ty,pos,af,none⟩::rest) ρ w:=aZ rfl rfl hN (D6 hx) kk
theorem L9 {c a b:Operand}{v:Value} (hc:ev ρ c=.bool true) (hx:ev ρ a=v) (hN:d<N) (kk:WL ro P N ops Q rest (cY ρ d v) w):
  WL ro P N ops Q (⟨some d,.pick c a b,ty,pos,af,none⟩::rest) ρ w:=aZ rfl rfl hN (Cm hc hx) kk
theorem NW {c a b:Operand}{v:Value} (hc:ev ρ c=.bool false) (hx:ev ρ b=v) (hN:d<N) (kk:WL ro P N ops Q rest (cY ρ d v) w):
  WL ro P N ops Q (⟨some d,.pick c a b,ty,pos,af,none⟩::rest) ρ w:=aZ rfl rfl hN (Cp hc hx) kk
section
variable {t u:TypeId}{x y:Operand}{k:IntKind}{a b:Int}
theorem GW (hx:ev ρ x=.int k a) (hy:ev ρ y=.int k b) (hN:d<N) (kk:WL ro P N ops Q rest (cY ρ d (.bool (decide (a=b)))) w):
  WL ro P N ops Q (⟨some d,.binOp .eql t x y u,ty,pos,af,none⟩::rest) ρ w:=aZ rfl rfl hN (Ij hx hy) kk
theorem Tn (hx:ev ρ x=.int .i64 a) (hy:ev ρ y=.int .i64 b) (h1: -9223372036854775808≤a+b) (h2:a+b≤9223372036854775807) (hN:d<N) (kk:WL ro P N ops Q rest (cY ρ d (.int .i64 (a+b))) w):
  WL ro P N ops Q (⟨some d,.binOp .add t x y u,ty,pos,af,none⟩::rest) ρ w:=aZ rfl rfl hN (K8 hx hy h1 h2) kk
theorem Uh (hx:ev ρ x=.int .i64 a) (hy:ev ρ y=.int .i64 b) (h1: -9223372036854775808≤a-b) (h2:a-b≤9223372036854775807) (hN:d<N) (kk:WL ro P N ops Q rest (cY ρ d (.int .i64 (a-b))) w):
  WL ro P N ops Q (⟨some d,.binOp .sub t x y u,ty,pos,af,none⟩::rest) ρ w:=aZ rfl rfl hN (Mp hx hy h1 h2) kk
theorem To (hx:ev ρ x=.int .i64 a) (hy:ev ρ y=.int .i64 b) (h1: -9223372036854775808≤a*b) (h2:a*b≤9223372036854775807) (hN:d<N) (kk:WL ro P N ops Q rest (cY ρ d (.int .i64 (a*b))) w):
  WL ro P N ops Q (⟨some d,.binOp .mul t x y u,ty,pos,af,none⟩::rest) ρ w:=aZ rfl rfl hN (Lt hx hy h1 h2) kk
theorem AX (hx:ev ρ x=.int .i64 a) (h1: -9223372036854775808≤ -a) (h2: -a≤9223372036854775807) (hN:d<N) (kk:WL ro P N ops Q rest (cY ρ d (.int .i64 (-a))) w):
  WL ro P N ops Q (⟨some d,.unOp .neg t x,ty,pos,af,none⟩::rest) ρ w:=aZ rfl rfl hN (MY hx h1 h2) kk
theorem T8 (hx:ev ρ x=.int .i64 a) (hy:ev ρ y=.int .i64 b) (ha:0≤a) (hb:0<b) (h2:a≤9223372036854775807) (hN:d<N) (kk:WL ro P N ops Q rest (cY ρ d (.int .i64 (a/b))) w):
  WL ro P N ops Q (⟨some d,.binOp .quo t x y u,ty,pos,af,none⟩::rest) ρ w:=aZ rfl rfl hN (s8 hx hy ha hb h2) kk
theorem Tw (hx:ev ρ x=.int .i64 a) (hy:ev ρ y=.int .i64 b) (ha:0≤a) (hb:0<b) (hN:d<N) (kk:WL ro P N ops Q rest (cY ρ d (.int .i64 (a % b))) w):
  WL ro P N ops Q (⟨some d,.binOp .rem t x y u,ty,pos,af,none⟩::rest) ρ w:=aZ rfl rfl hN (qD hx hy ha hb) kk
end
theorem UU {t:TypeId}{x:Operand}{b:Bool} (hx:ev ρ x=.bool b) (hN:d<N) (kk:WL ro P N ops Q rest (cY ρ d (.bool !b)) w):
  WL ro P N ops Q (⟨some d,.unOp .not t x,ty,pos,af,none⟩::rest) ρ w:=aZ rfl rfl hN (Rn hx) kk
section
variable {t u:TypeId}{x y:Operand}{a b:Bool}
end
section
variable {t u:TypeId}{x y:Operand}{a b:ByteArray}
theorem iS (hx:ev ρ x=.string a) (hy:ev ρ y=.string b) (h:a=b) (hN:d<N) (kk:WL ro P N ops Q rest (cY ρ d (.bool true)) w):
  WL ro P N ops Q (⟨some d,.binOp .eql t x y u,ty,pos,af,none⟩::rest) ρ w:=aZ rfl rfl hN (DT hx hy h) kk
theorem jb (hx:ev ρ x=.string a) (hy:ev ρ y=.string b) (h:¬a=b) (hN:d<N) (kk:WL ro P N ops Q rest (cY ρ d (.bool false)) w):
  WL ro P N ops Q (⟨some d,.binOp .eql t x y u,ty,pos,af,none⟩::rest) ρ w:=aZ rfl rfl hN (BI hx hy h) kk
theorem lT (hx:ev ρ x=.string a) (hy:ev ρ y=.string b) (h:¬a=b) (hN:d<N) (kk:WL ro P N ops Q rest (cY ρ d (.bool true)) w):
  WL ro P N ops Q (⟨some d,.binOp .neq t x y u,ty,pos,af,none⟩::rest) ρ w:=aZ rfl rfl hN (Cn hx hy h) kk
theorem lP (hx:ev ρ x=.string a) (hy:ev ρ y=.string b) (h:a=b) (hN:d<N) (kk:WL ro P N ops Q rest (cY ρ d (.bool false)) w):
  WL ro P N ops Q (⟨some d,.binOp .neq t x y u,ty,pos,af,none⟩::rest) ρ w:=aZ rfl rfl hN (Dd hx hy h) kk
theorem tj (hx:ev ρ x=.string a) (hy:ev ρ y=.string b) (hN:d<N) (kk:WL ro P N ops Q rest (cY ρ d (.bool (Op.bytesLess a.toList b.toList))) w):
  WL ro P N ops Q (⟨some d,.binOp .lss t x y u,ty,pos,af,none⟩::rest) ρ w:=aZ rfl rfl hN (Jb hx hy) kk
theorem J1 (hx:ev ρ x=.string a) (hy:ev ρ y=.string b) (hN:d<N) (kk:WL ro P N ops Q rest (cY ρ d (.bool !(Op.bytesLess a.toList b.toList||a.toList==b.toList))) w):
  WL ro P N ops Q (⟨some d,.binOp .gtr t x y u,ty,pos,af,none⟩::rest) ρ w:=aZ rfl rfl hN (Ja hx hy) kk
theorem o9 (hx:ev ρ x=.string a) (hy:ev ρ y=.string b) (hN:d<N) (kk:WL ro P N ops Q rest (cY ρ d (.bool !(Op.bytesLess a.toList b.toList))) w):
  WL ro P N ops Q (⟨some d,.binOp .geq t x y u,ty,pos,af,none⟩::rest) ρ w:=aZ rfl rfl hN (J6 hx hy) kk
theorem VC (hx:ev ρ x=.string a) (hy:ev ρ y=.string b) (h:a.size+b.size≤9223372036854775807) (hN:d<N) (kk:WL ro P N ops Q rest (cY ρ d (.string (a++b))) w):
  WL ro P N ops Q (⟨some d,.binOp .add t x y u,ty,pos,af,none⟩::rest) ρ w:=aZ rfl rfl hN (SD hx hy h) kk
end
theorem ql {s t:TypeId}{x:Operand}{k k':IntKind}{a:Int}{sd:TypeDesc} (hs:P.underlying s=some sd) (ht:P.underlying t=some (.int k)) (hx:ev ρ x=.int k' a) (hN:d<N) (kk:WL ro P N ops Q rest (cY ρ d (.int k (k.wrap a))) w):
  WL ro P N ops Q (⟨some d,.convert s t x,ty,pos,af,none⟩::rest) ρ w:=aZ rfl rfl hN (kT hs ht hx) kk
theorem Ex {s t:TypeId}{x:Operand}{k':IntKind}{a:Int}{sd:TypeDesc} (hs:P.underlying s=some sd) (ht:P.underlying t=some (.int .i64)) (hx:ev ρ x=.int k' a) (h1: -9223372036854775808≤a) (h2:a≤9223372036854775807) (hN:d<N) (kk:WL ro P N ops Q rest (cY ρ d (.int .i64 a)) w):
  WL ro P N ops Q (⟨some d,.convert s t x,ty,pos,af,none⟩::rest) ρ w:=aZ rfl rfl hN (qC hs ht hx h1 h2) kk
theorem Ke {x:Operand}{i:Nat}{vs:List Value}{v:Value} (hx:ev ρ x=.tuple vs.toArray) (hv:vs[i]?=some v) (hN:d<N) (kk:WL ro P N ops Q rest (cY ρ d v) w):
  WL ro P N ops Q (⟨some d,.extract x i,ty,pos,af,none⟩::rest) ρ w:=aZ rfl rfl hN (gk hx hv) kk
theorem xq {fn:Fn}{first captured:Array Operand}{fs cs:List Value} (hf:zt ρ first.toList=fs) (hc:zt ρ captured.toList=cs) (hN:d<N) (kk:WL ro P N ops Q rest (cY ρ d (.func fn fs.toArray cs.toArray)) w):
  WL ro P N ops Q (⟨some d,.makeFunc fn first captured,ty,pos,af,none⟩::rest) ρ w:=aZ rfl rfl hN (EG hf hc) kk
theorem bP {x:Operand}{t:TypeId}{s:ByteArray} (ht:P.underlying t=some .string) (hx:ev ρ x=.string s) (hN:d<N) (kk:WL ro P N ops Q rest (cY ρ d (.int .i64 s.size)) w):
  WL ro P N ops Q (⟨some d,.call ⟨.builtin .len, #[x], #[t]⟩,ty,pos,af,none⟩::rest) ρ w:=aZ rfl rfl hN (IV ht hx) kk
theorem Ly {x:Operand}{t e:TypeId}{A:Option Addr}{n c:Nat} (ht:P.underlying t=some (.slice e)) (hx:ev ρ x=.slice A n c) (hN:d<N) (kk:WL ro P N ops Q rest (cY ρ d (.int .i64 n)) w):
  WL ro P N ops Q (⟨some d,.call ⟨.builtin .len, #[x], #[t]⟩,ty,pos,af,none⟩::rest) ρ w:=aZ rfl rfl hN (D7 ht hx) kk
theorem zd {x y:Operand}{ts:Array TypeId}{k:IntKind}{a b:Int} (hx:ev ρ x=.int k a) (hy:ev ρ y=.int k b) (hN:d<N) (kk:WL ro P N ops Q rest (cY ρ d (.int k (if b<a then b else a))) w):
  WL ro P N ops Q (⟨some d,.call ⟨.builtin .min, #[x,y],ts⟩,ty,pos,af,none⟩::rest) ρ w:=aZ rfl rfl hN (Vd hx hy) kk
theorem lL {x y:Operand}{ts:Array TypeId}{k:IntKind}{a b:Int} (hx:ev ρ x=.int k a) (hy:ev ρ y=.int k b) (hN:d<N) (kk:WL ro P N ops Q rest (cY ρ d (.int k (if b>a then b else a))) w):
  WL ro P N ops Q (⟨some d,.call ⟨.builtin .max, #[x,y],ts⟩,ty,pos,af,none⟩::rest) ρ w:=aZ rfl rfl hN (So hx hy) kk
theorem tT {t:TypeId}{x i:Operand}{s:ByteArray}{n:Int}{k:IntKind}{c:UInt8} (ht:P.underlying t=some .string) (hx:ev ρ x=.string s) (hi:ev ρ i=.int k n)
  (h0:0≤n) (hc:s.data.toList[n.toNat]?=some c) (hN:d<N) (kk:WL ro P N ops Q rest (cY ρ d (.int .u8 c.toNat)) w):
  WL ro P N ops Q (⟨some d,.index t x i,ty,pos,af,none⟩::rest) ρ w:=aZ rfl rfl hN (lG ht hx hi h0 hc) kk
theorem tN {t:TypeId}{x:Operand}{lo hi:Option Operand}{s:ByteArray}{l h:Nat} (ht:P.underlying t=some .string) (hx:ev ρ x=.string s)
  (hlo:match lo with|none=>l=0|some o=>∃(k:IntKind) (n:Int),ev ρ o=.int k n∧n=l) (hhi:match hi with|none=>h=s.size|some o=>∃(k:IntKind) (n:Int),ev ρ o=.int k n∧n=h)
  (h1:l≤h) (h2:h≤s.size) (hN:d<N) (kk:WL ro P N ops Q rest (cY ρ d (.string (s.extract l h))) w):
  WL ro P N ops Q (⟨some d,.slice t x lo hi none,ty,pos,af,none⟩::rest) ρ w:=aZ rfl rfl hN (DU ht hx hlo hhi h1 h2) kk
theorem Dk {t e:TypeId}{x i:Operand}{ad:Addr}{n c sz:Nat}{k:IntKind}{m:Int} (ht:P.underlying t=some (.slice e)) (hsz:(P.info? e).map (·.size)=some sz) (hx:ev ρ x=.slice (some ad) n c) (hi:ev ρ i=.int k m)
  (h0:0≤m) (h1:m<n) (hN:d<N) (kk:WL ro P N ops Q rest (cY ρ d (.pointer (some (ad.add (m.toNat*sz))))) w):
  WL ro P N ops Q (⟨some d,.indexAddr t x i,ty,pos,af,none⟩::rest) ρ w:=aZ rfl rfl hN (dL ht hsz hx hi h0 h1) kk
theorem dn {t e:TypeId}{x i:Operand}{b n c sz k:Nat}{kk:IntKind}{m:Int} (ht:P.underlying t=some (.slice e)) (hsz:(P.info? e).map (·.size)=some sz) (hx:ev ρ x=.slice (some ⟨b,0,none⟩) n c) (hi:ev ρ i=.int kk m)
  (hm:m=(k:Int)) (h1:k<n) (hN:d<N) (kk:WL ro P N ops Q rest (cY ρ d (.pointer (some ⟨b,k*sz,none⟩))) w):
  WL ro P N ops Q (⟨some d,.indexAddr t x i,ty,pos,af,none⟩::rest) ρ w:=aZ rfl rfl hN (m7 ht hsz hx hi hm h1) kk
theorem cG {t:TypeId}{x:Operand}{ad:Addr}{n by':Nat}{zc vs:List Value} (ht:dH P t=some (n,true,by',zc)) (hx:ev ρ x=.pointer (some ad)) (hr:Rd w ad vs) (hl:vs.length=n) (hN:d<N) (kk:WL ro P N ops Q rest (cY ρ d (.agg vs.toArray)) w):
  WL ro P N ops Q (⟨some d,.load t x,ty,pos,af,none⟩::rest) ρ w:=aZ rfl rfl hN (FO ht hx hr hl) kk
theorem cv {t:TypeId}{x:Operand}{ad:Addr}{n by':Nat}{zc:List Value}{v:Value} (ht:dH P t=some (n,false,by',zc)) (hx:ev ρ x=.pointer (some ad)) (hc:w.cell? ad=some v) (hN:d<N) (kk:WL ro P N ops Q rest (cY ρ d v) w):
  WL ro P N ops Q (⟨some d,.load t x,ty,pos,af,none⟩::rest) ρ w:=aZ rfl rfl hN (jT ht hx hc) kk
theorem DG {s:TypeId}{x:Operand}{f b o off:Nat}{ft:TypeId} (hf:iA P s f=some (off,ft)) (hx:ev ρ x=.pointer (some ⟨b,o,none⟩)) (hN:d<N) (kk:WL ro P N ops Q rest (cY ρ d (.pointer (some ⟨b,o+off,none⟩))) w):
  WL ro P N ops Q (⟨some d,.fieldAddr s x f,ty,pos,af,none⟩::rest) ρ w:=aZ rfl rfl hN (tS hf hx) kk
theorem zG {s:TypeId}{x:Operand}{f off:Nat}{ad:Addr}{ft:TypeId} (hf:iA P s f=some (off,ft)) (hx:ev ρ x=.pointer (some ad)) (hN:d<N) (kk:WL ro P N ops Q rest (cY ρ d (.pointer (some (ad.add off)))) w):
  WL ro P N ops Q (⟨some d,.fieldAddr s x f,ty,pos,af,none⟩::rest) ρ w:=aZ rfl rfl hN (qZ hf hx) kk
theorem Pm {s:TypeId}{x:Operand}{f off n by':Nat}{ft:TypeId}{cs vs:Array Value}{zc:List Value} (hf:iA P s f=some (off,ft)) (ht:dH P ft=some (n,true,by',zc)) (hx:ev ρ x=.agg cs) (hv:cs.extract off (off+n)=vs) (hN:d<N) (kk:WL ro P N ops Q rest (cY ρ d (.agg vs)) w):
  WL ro P N ops Q (⟨some d,.field s x f,ty,pos,af,none⟩::rest) ρ w:=aZ rfl rfl hN (Pv hf ht hx hv) kk
theorem Pg {t:TypeId}{n by':Nat}{parts:Array (Nat×Operand)}{ps:List (Nat×Value)}{zc cs:List Value}{pl:List (Nat×Nat)} (hte:dH P t=some (n,true,by',zc))
  (hpl:q9 P t=some pl)
  (hp:ya ρ parts.toList=ps) (hf:lN (pl[·]?) zc ps=some cs) (hN:d<N) (kk:WL ro P N ops Q rest (cY ρ d (.agg cs.toArray)) w):
  WL ro P N ops Q (⟨some d,.build t parts,ty,pos,af,none⟩::rest) ρ w:=aZ rfl rfl hN (uQ hte hpl hp hf) kk
theorem oH {s t e:TypeId}{x:Operand}{A:Option Addr}{n c:Nat}{l:List UInt8} (hs:P.underlying s=some (.slice e)) (he:P.underlying e=some (.int .u8)) (ht:P.underlying t=some .string)
  (hx:ev ρ x=.slice A n c) (h:Sl w A n 1 (mM l)) (hN:d<N) (kk:WL ro P N ops Q rest (cY ρ d (.string ⟨l.toArray⟩)) w):
  WL ro P N ops Q (⟨some d,.convert s t x,ty,pos,af,none⟩::rest) ρ w:=aZ rfl rfl hN (iT hs he ht hx h) kk
section
variable {t u:TypeId}{x y:Operand}{k:IntKind}{q M:Nat}{a b:Nat}
theorem jt [UK k q M] (hx:ev ρ x=.int k (a:Int)) (hy:ev ρ y=.int k (b:Int)) (hN:d<N) (kk:WL ro P N ops Q rest (cY ρ d (.int k (((a+b) % M:Nat):Int))) w):
  WL ro P N ops Q (⟨some d,.binOp .add t x y u,ty,pos,af,none⟩::rest) ρ w:=aZ rfl rfl hN (S3 hx hy) kk
theorem E8 [UK k q M] (hx:ev ρ x=.int k (a:Int)) (hy:ev ρ y=.int k (b:Int)) (hb:b≤M) (hN:d<N) (kk:WL ro P N ops Q rest (cY ρ d (.int k (((a+M-b) % M:Nat):Int))) w):
  WL ro P N ops Q (⟨some d,.binOp .sub t x y u,ty,pos,af,none⟩::rest) ρ w:=aZ rfl rfl hN (Td hx hy hb) kk
theorem s9 [UK k q M] (hx:ev ρ x=.int k (a:Int)) (hy:ev ρ y=.int k (b:Int)) (hN:d<N) (kk:WL ro P N ops Q rest (cY ρ d (.int k (((a*b) % M:Nat):Int))) w):
  WL ro P N ops Q (⟨some d,.binOp .mul t x y u,ty,pos,af,none⟩::rest) ρ w:=aZ rfl rfl hN (Ua hx hy) kk
theorem TN [UK k q M] (hx:ev ρ x=.int k (a:Int)) (hy:ev ρ y=.int k (b:Int)) (hb:0<b) (ha:a<M) (hN:d<N) (kk:WL ro P N ops Q rest (cY ρ d (.int k ((a/b:Nat):Int))) w):
  WL ro P N ops Q (⟨some d,.binOp .quo t x y u,ty,pos,af,none⟩::rest) ρ w:=aZ rfl rfl hN (Tu hx hy hb ha) kk
theorem F4 (hx:ev ρ x=.int k (a:Int)) (hy:ev ρ y=.int k (b:Int)) (hb:0<b) (hN:d<N) (kk:WL ro P N ops Q rest (cY ρ d (.int k ((a % b:Nat):Int))) w):
  WL ro P N ops Q (⟨some d,.binOp .rem t x y u,ty,pos,af,none⟩::rest) ρ w:=aZ rfl rfl hN (Ue hx hy hb) kk
theorem VJ [h:UK k q M] (hx:ev ρ x=.int k (a:Int)) (hy:ev ρ y=.int k (b:Int)) (ha:a<M) (hb:b<M) (hN:d<N) (kk:WL ro P N ops Q rest (cY ρ d (.int k ((a|||b:Nat):Int))) w):
  WL ro P N ops Q (⟨some d,.binOp .or t x y u,ty,pos,af,none⟩::rest) ρ w:=aZ rfl rfl hN (Vz hx hy ha hb) kk
theorem Fm [h:UK k q M] (hx:ev ρ x=.int k (a:Int)) (hy:ev ρ y=.int k (b:Int)) (ha:a<M) (hb:b<M) (hN:d<N) (kk:WL ro P N ops Q rest (cY ρ d (.int k ((a &&& b:Nat):Int))) w):
  WL ro P N ops Q (⟨some d,.binOp .and t x y u,ty,pos,af,none⟩::rest) ρ w:=aZ rfl rfl hN (Uo hx hy ha hb) kk
theorem Ge [h:UK k q M] {k':IntKind}{s:Int} (hx:ev ρ x=.int k (a:Int)) (hy:ev ρ y=.int k' s) (hs:0≤s∧s≤q) (hN:d<N) (kk:WL ro P N ops Q rest (cY ρ d (.int k ((a/2^s.toNat:Nat):Int))) w):
  WL ro P N ops Q (⟨some d,.binOp .shr t x y u,ty,pos,af,none⟩::rest) ρ w:=aZ rfl rfl hN (E5 hx hy hs) kk
theorem nj [UK k q M] {k':IntKind}{s m:Nat} (hx:ev ρ x=.int k (a:Int)) (hy:ev ρ y=.int k' (s:Int)) (hs:s≤q) (hm:2^s=m) (hN:d<N) (kk:WL ro P N ops Q rest (cY ρ d (.int k ((a/m:Nat):Int))) w):
  WL ro P N ops Q (⟨some d,.binOp .shr t x y u,ty,pos,af,none⟩::rest) ρ w:=aZ rfl rfl hN (OY hx hy hs hm) kk
theorem Ky [h:UK k q M] (hx:ev ρ x=.int k (a:Int)) (ha:a≤M) (hN:d<N) (kk:WL ro P N ops Q rest (cY ρ d (.int k (((M-a) % M:Nat):Int))) w):
  WL ro P N ops Q (⟨some d,.unOp .neg t x,ty,pos,af,none⟩::rest) ρ w:=aZ rfl rfl hN (Tk hx ha) kk
theorem PF [UK k q M] {s t:TypeId}{k':IntKind}{sd:TypeDesc} (hs:P.underlying s=some sd) (ht:P.underlying t=some (.int k)) (hx:ev ρ x=.int k' (a:Int)) (hN:d<N) (kk:WL ro P N ops Q rest (cY ρ d (.int k ((a % M:Nat):Int))) w):
  WL ro P N ops Q (⟨some d,.convert s t x,ty,pos,af,none⟩::rest) ρ w:=aZ rfl rfl hN (Pf hs ht hx) kk
theorem F1 [UK k q M] {s t:TypeId}{k':IntKind}{sd:TypeDesc} (hs:P.underlying s=some sd) (ht:P.underlying t=some (.int k)) (hx:ev ρ x=.int k' (a:Int)) (ha:a<M) (hN:d<N) (kk:WL ro P N ops Q rest (cY ρ d (.int k (a:Int))) w):
  WL ro P N ops Q (⟨some d,.convert s t x,ty,pos,af,none⟩::rest) ρ w:=aZ rfl rfl hN (wE hs ht hx ha) kk
end
section
variable {t u:TypeId}{x y:Operand}{k:IntKind}{a b:Int}
theorem Om (hx:ev ρ x=.int k a) (hy:ev ρ y=.int k b) (hN:d<N) (kk:WL ro P N ops Q rest (cY ρ d (.bool (decide (a<b)))) w):
  WL ro P N ops Q (⟨some d,.binOp .lss t x y u,ty,pos,af,none⟩::rest) ρ w:=aZ rfl rfl hN (H5 hx hy) kk
theorem Qk (hx:ev ρ x=.int k a) (hy:ev ρ y=.int k b) (hN:d<N) (kk:WL ro P N ops Q rest (cY ρ d (.bool (decide (a≤b)))) w):
  WL ro P N ops Q (⟨some d,.binOp .leq t x y u,ty,pos,af,none⟩::rest) ρ w:=aZ rfl rfl hN (Qb hx hy) kk
theorem Oa (hx:ev ρ x=.int k a) (hy:ev ρ y=.int k b) (hN:d<N) (kk:WL ro P N ops Q rest (cY ρ d (.bool (decide (b<a)))) w):
  WL ro P N ops Q (⟨some d,.binOp .gtr t x y u,ty,pos,af,none⟩::rest) ρ w:=aZ rfl rfl hN (Ht hx hy) kk
theorem Qh (hx:ev ρ x=.int k a) (hy:ev ρ y=.int k b) (hN:d<N) (kk:WL ro P N ops Q rest (cY ρ d (.bool (decide (b≤a)))) w):
  WL ro P N ops Q (⟨some d,.binOp .geq t x y u,ty,pos,af,none⟩::rest) ρ w:=aZ rfl rfl hN (PW hx hy) kk
theorem PZ (hx:ev ρ x=.int k a) (hy:ev ρ y=.int k b) (hN:d<N) (kk:WL ro P N ops Q rest (cY ρ d (.bool (decide (a≠b)))) w):
  WL ro P N ops Q (⟨some d,.binOp .neq t x y u,ty,pos,af,none⟩::rest) ρ w:=aZ rfl rfl hN (O0 hx hy) kk
end
section
variable {t u:TypeId}{x y:Operand}{a b:Bool}
theorem Hq (ht:P.underlying t=some .bool) (hx:ev ρ x=.bool a) (hy:ev ρ y=.bool b) (h:a=b) (hN:d<N) (kk:WL ro P N ops Q rest (cY ρ d (.bool true)) w):
  WL ro P N ops Q (⟨some d,.binOp .eql t x y u,ty,pos,af,none⟩::rest) ρ w:=aZ rfl rfl hN (Oz ht hx hy h) kk
theorem Ox (ht:P.underlying t=some .bool) (hx:ev ρ x=.bool a) (hy:ev ρ y=.bool b) (h:¬a=b) (hN:d<N) (kk:WL ro P N ops Q rest (cY ρ d (.bool false)) w):
  WL ro P N ops Q (⟨some d,.binOp .eql t x y u,ty,pos,af,none⟩::rest) ρ w:=aZ rfl rfl hN (PN ht hx hy h) kk
theorem IG (ht:P.underlying t=some .bool) (hx:ev ρ x=.bool a) (hy:ev ρ y=.bool b) (h:¬a=b) (hN:d<N) (kk:WL ro P N ops Q rest (cY ρ d (.bool true)) w):
  WL ro P N ops Q (⟨some d,.binOp .neq t x y u,ty,pos,af,none⟩::rest) ρ w:=aZ rfl rfl hN (Ov ht hx hy h) kk
theorem OB (ht:P.underlying t=some .bool) (hx:ev ρ x=.bool a) (hy:ev ρ y=.bool b) (h:a=b) (hN:d<N) (kk:WL ro P N ops Q rest (cY ρ d (.bool false)) w):
  WL ro P N ops Q (⟨some d,.binOp .neq t x y u,ty,pos,af,none⟩::rest) ρ w:=aZ rfl rfl hN (O8 ht hx hy h) kk
end
theorem dm {t e:TypeId}{x i:Operand}{ad:Addr}{n c sz k:Nat}{kk:IntKind}{m:Int} (ht:P.underlying t=some (.slice e)) (hsz:(P.info? e).map (·.size)=some sz) (hx:ev ρ x=.slice (some ad) n c) (hi:ev ρ i=.int kk m)
  (hm:m=(k:Int)) (h1:k<n) (hN:d<N) (kk:WL ro P N ops Q rest (cY ρ d (.pointer (some (ad.add (k*sz))))) w):
  WL ro P N ops Q (⟨some d,.indexAddr t x i,ty,pos,af,none⟩::rest) ρ w:=aZ rfl rfl hN (gl ht hsz hx hi hm h1) kk
theorem qL {t e:TypeId}{x i:Operand}{b o n c sz k:Nat}{kk:IntKind}{m:Int} (ht:P.underlying t=some (.slice e)) (hsz:(P.info? e).map (·.size)=some sz) (hx:ev ρ x=.slice (some ⟨b,o,none⟩) n c) (hi:ev ρ i=.int kk m)
  (hm:m=(k:Int)) (h1:k<n) (hN:d<N) (kk:WL ro P N ops Q rest (cY ρ d (.pointer (some ⟨b,o+k*sz,none⟩))) w):
  WL ro P N ops Q (⟨some d,.indexAddr t x i,ty,pos,af,none⟩::rest) ρ w:=aZ rfl rfl hN (EP ht hsz hx hi hm h1) kk
theorem Fa {t e:TypeId}{x i:Operand}{ad:Addr}{n sz k:Nat}{kk:IntKind}{m:Int} (ht:P.underlying t=some (.array n e)) (hsz:(P.info? e).map (·.size)=some sz) (hx:ev ρ x=.pointer (some ad)) (hi:ev ρ i=.int kk m)
  (hm:m=(k:Int)) (h1:k<n) (hN:d<N) (kk:WL ro P N ops Q rest (cY ρ d (.pointer (some (ad.add (k*sz))))) w):
  WL ro P N ops Q (⟨some d,.indexAddr t x i,ty,pos,af,none⟩::rest) ρ w:=aZ rfl rfl hN (F7 ht hsz hx hi hm h1) kk
theorem qT {t e:TypeId}{x hi:Operand}{A:Option Addr}{n c h sz:Nat}{k:IntKind}{m:Int} (ht:P.underlying t=some (.slice e)) (hsz:(P.info? e).map (·.size)=some sz) (hx:ev ρ x=.slice A n c) (hhi:ev ρ hi=.int k m)
  (hm:m=(h:Int)) (h2:h≤c) (hN:d<N) (kk:WL ro P N ops Q rest (cY ρ d (.slice A h c)) w):
  WL ro P N ops Q (⟨some d,.slice t x none (some hi) none,ty,pos,af,none⟩::rest) ρ w:=aZ rfl rfl hN (CN ht hsz hx hhi hm h2) kk
theorem FQ {t e:TypeId}{x lo:Operand}{b o n c l sz:Nat}{k:IntKind}{m:Int} (ht:P.underlying t=some (.slice e)) (hsz:(P.info? e).map (·.size)=some sz) (hx:ev ρ x=.slice (some ⟨b,o,none⟩) n c) (hlo:ev ρ lo=.int k m)
  (hm:m=(l:Int)) (h1:l≤n) (h2:n≤c) (h3:l<c) (hN:d<N) (kk:WL ro P N ops Q rest (cY ρ d (.slice (some ⟨b,o+l*sz,none⟩) (n-l) (c-l))) w):
  WL ro P N ops Q (⟨some d,.slice t x (some lo) none none,ty,pos,af,none⟩::rest) ρ w:=aZ rfl rfl hN (Fb ht hsz hx hlo hm h1 h2 h3) kk
theorem DS {t e:TypeId}{x lo:Operand}{ad:Addr}{n c l sz:Nat}{k:IntKind}{m:Int} (ht:P.underlying t=some (.slice e)) (hsz:(P.info? e).map (·.size)=some sz) (hx:ev ρ x=.slice (some ad) n c) (hlo:ev ρ lo=.int k m)
  (hm:m=(l:Int)) (h1:l≤n) (h2:n≤c) (h3:l<c) (hN:d<N) (kk:WL ro P N ops Q rest (cY ρ d (.slice (some (ad.add (l*sz))) (n-l) (c-l))) w):
  WL ro P N ops Q (⟨some d,.slice t x (some lo) none none,ty,pos,af,none⟩::rest) ρ w:=aZ rfl rfl hN (CC ht hsz hx hlo hm h1 h2 h3) kk
theorem bf:zt ρ []=[]:=rfl
theorem az {x:Operand}{l:List Operand}{v:Value}{r:List Value} (hx:ev ρ x=v) (h:zt ρ l=r):zt ρ (x::l)=v::r:=by simp only [zt,hx,h]
theorem cx:ya ρ []=[]:=rfl
theorem aX {i:Nat}{x:Operand}{l:List (Nat×Operand)}{v:Value}{r:List (Nat×Value)} (hx:ev ρ x=v) (h:ya ρ l=r):ya ρ ((i,x)::l)=(i,v)::r:=by simp only [ya,hx,h]
def Et (P:Program) (f:FuncId):Bool:=match P.funcs[f]? with|some fn=> !fn.body.isNone && !(fn.name== "runtime.NumGoroutine")|none=>false
theorem y5 {P:Program}{f:FuncId} (h:Et P f=true):∃fn,P.funcs[f]?=some fn∧fn.body.isNone=false∧(fn.name== "runtime.NumGoroutine")=false:=by
 unfold Et at h;split at h
 ·rename_i fn hf;simp only [YU,aby] at h;exact ⟨fn,hf,h.1,h.2⟩
 ·cases h
theorem aV {dd:Option Nat}{g:Option (Nat×Bool)}{f:FuncId}{args:Array Operand}{ts:Array TypeId}{vs:List Value} (hf:Et P f=true) (ha:zt ρ args.toList=vs):
  (execOp (ev ρ) ⟨dd,.call ⟨.value (.func f),args,ts⟩,ty,pos,af,g⟩).run P w=.ok (.enter f vs.toArray) w:=by
 obtain ⟨fn,h1,h2,h3⟩:=y5 hf;have:=Ki (P:=P) (w:=w) (d:=dd) (ty:=ty) (pos:=pos) (af:=af) (g:=g) (ts:=ts) h1 h2 h3 (show ev ρ (.func f)=.func (.func f) #[] #[] from rfl) (o8 args ha);simpa using this
theorem Jq {dd:Option Nat}{g:Option (Nat×Bool)}{x:Operand}{f:FuncId}{args:Array Operand}{ts:Array TypeId}{first cap vs:List Value} (hf:Et P f=true) (hx:ev ρ x=.func (.func f) first.toArray cap.toArray) (ha:first++(zt ρ args.toList++cap)=vs):
  (execOp (ev ρ) ⟨dd,.call ⟨.value x,args,ts⟩,ty,pos,af,g⟩).run P w=.ok (.enter f vs.toArray) w:=by
 obtain ⟨fn,h1,h2,h3⟩:=y5 hf;have:=Ki (P:=P) (w:=w) (d:=dd) (ty:=ty) (pos:=pos) (af:=af) (g:=g) (ts:=ts) h1 h2 h3 hx (o8 args rfl);subst ha;simpa using this
theorem aJ {f:FuncId}{args:Array Operand}{ts:Array TypeId}{vs:List Value}{R:Ending→World→Prop} (hc:Calls P f vs.toArray w R) (hf:Et P f=true) (ha:zt ρ args.toList=vs) (hN:d<N)
  (kk:∀e w',R e w'→∃v,e=.returned v∧WL ro P N ops Q rest (cY ρ d v) w'):WL ro P N ops Q (⟨some d,.call ⟨.value (.func f),args,ts⟩,ty,pos,af,none⟩::rest) ρ w:=
 D3 rfl rfl hN (aV hf ha) hc kk
theorem hH {x:Operand}{f:FuncId}{args:Array Operand}{ts:Array TypeId}{first cap vs:List Value}{R:Ending→World→Prop} (hc:Calls P f vs.toArray w R) (hf:Et P f=true) (hx:ev ρ x=.func (.func f) first.toArray cap.toArray) (ha:first++(zt ρ args.toList++cap)=vs) (hN:d<N)
  (kk:∀e w',R e w'→∃v,e=.returned v∧WL ro P N ops Q rest (cY ρ d v) w'):WL ro P N ops Q (⟨some d,.call ⟨.value x,args,ts⟩,ty,pos,af,none⟩::rest) ρ w:=
 D3 rfl rfl hN (Jq hf hx ha) hc kk
end
end
variable {P:Program}{ag:Bool}{b n:Nat}{zc:List Value}
set_option maxRecDepth 100000
class bo (P:Program) (t:TypeId) (d:outParam TypeDesc):Prop where out:P.underlying t=some d:=by kernel_rfl
class aU (P:Program) (t:TypeId) (n:outParam Nat) (ag:outParam Bool) (b:outParam Nat) (zc:outParam (List Value)):Prop where out:dH P t=some (n,ag,b,zc):=by kernel_rfl
class gG (P:Program) (s:TypeId) (f:Nat) (off:outParam Nat) (ft:outParam TypeId):Prop where out:iA P s f=some (off,ft):=by kernel_rfl
class nw (P:Program) (s:TypeId) (pl:outParam (List (Nat×Nat))):Prop where out:q9 P s=some pl:=by kernel_rfl
class aw (P:Program) (f:FuncId):Prop where out:Et P f=true:=by kernel_rfl
theorem aU.size {t:TypeId} [h:aU P t n ag b zc]:(P.info? t).map (·.size)=some n:=by
 obtain ⟨i,z,d,hi,hd,hz,hs,_⟩:=ez h.out;rw [hi,Z0,hs]
instance:bo Tryz.prog 2 (.int .i64):={}
instance:aU Tryz.prog 2 1 false 8 [.int .i64 0]:={}
instance:bo Tryz.prog 3 (.int .i64):={}
instance:aU Tryz.prog 3 1 false 8 [.int .i64 0]:={}
instance:bo Tryz.prog 4 (.bool):={}
instance:aU Tryz.prog 4 1 false 1 [.bool false]:={}
instance:bo Tryz.prog 5 (.int .u8):={}
instance:aU Tryz.prog 5 1 false 1 [.int .u8 0]:={}
instance:bo Tryz.prog 6 (.int .u8):={}
instance:aU Tryz.prog 6 1 false 1 [.int .u8 0]:={}
instance:aU Tryz.prog 7 4 true 24 [.int .i64 0,.int .i64 0,.bool false,.int .u8 0]:={}
instance:gG Tryz.prog 7 0 0 2:={}
instance:gG Tryz.prog 7 1 1 3:={}
instance:gG Tryz.prog 7 2 2 4:={}
instance:gG Tryz.prog 7 3 3 6:={}
instance:nw Tryz.prog 7 [(0,1),(1,1),(2,1),(3,1)]:={}
instance:aU Tryz.prog 8 4 true 24 [.int .i64 0,.int .i64 0,.bool false,.int .u8 0]:={}
instance:gG Tryz.prog 8 0 0 2:={}
instance:gG Tryz.prog 8 1 1 3:={}
instance:gG Tryz.prog 8 2 2 4:={}
instance:gG Tryz.prog 8 3 3 6:={}
instance:nw Tryz.prog 8 [(0,1),(1,1),(2,1),(3,1)]:={}
instance:bo Tryz.prog 9 (.string):={}
instance:aU Tryz.prog 9 1 false 16 [.string { data:= #[] }]:={}
instance:bo Tryz.prog 10 (.string):={}
instance:aU Tryz.prog 10 1 false 16 [.string { data:= #[] }]:={}
instance:bo Tryz.prog 11 (.string):={}
instance:aU Tryz.prog 11 1 false 16 [.string { data:= #[] }]:={}
instance:bo Tryz.prog 12 (.int .u64):={}
instance:aU Tryz.prog 12 1 false 8 [.int .u64 0]:={}
instance:aU Tryz.prog 13 2 true 24 [.string { data:= #[] },.int .u64 0]:={}
instance:gG Tryz.prog 13 0 0 9:={}
instance:gG Tryz.prog 13 1 1 12:={}
instance:nw Tryz.prog 13 [(0,1),(1,1)]:={}
instance:aU Tryz.prog 14 2 true 24 [.string { data:= #[] },.int .u64 0]:={}
instance:gG Tryz.prog 14 0 0 9:={}
instance:gG Tryz.prog 14 1 1 12:={}
instance:nw Tryz.prog 14 [(0,1),(1,1)]:={}
instance:bo Tryz.prog 15 (.pointer 247):={}
instance:aU Tryz.prog 15 1 false 8 [.pointer none]:={}
instance:bo Tryz.prog 16 (.pointer 250):={}
instance:aU Tryz.prog 16 1 false 8 [.pointer none]:={}
instance:bo Tryz.prog 17 (.pointer 259):={}
instance:aU Tryz.prog 17 1 false 8 [.pointer none]:={}
instance:aU Tryz.prog 18 1 true 8 [.pointer none]:={}
instance:gG Tryz.prog 18 0 0 17:={}
instance:nw Tryz.prog 18 [(0,1)]:={}
instance:aU Tryz.prog 19 1 true 8 [.pointer none]:={}
instance:gG Tryz.prog 19 0 0 17:={}
instance:nw Tryz.prog 19 [(0,1)]:={}
instance:bo Tryz.prog 21 (.int .i32):={}
instance:aU Tryz.prog 21 1 false 4 [.int .i32 0]:={}
instance:bo Tryz.prog 22 (.slice 80):={}
instance:aU Tryz.prog 22 1 false 24 [.slice none 0 0]:={}
instance:aU Tryz.prog 23 2 true 32 [.int .i64 0,.slice none 0 0]:={}
instance:gG Tryz.prog 23 0 0 3:={}
instance:gG Tryz.prog 23 1 1 22:={}
instance:nw Tryz.prog 23 [(0,1),(1,1)]:={}
instance:aU Tryz.prog 24 2 true 32 [.int .i64 0,.slice none 0 0]:={}
instance:gG Tryz.prog 24 0 0 3:={}
instance:gG Tryz.prog 24 1 1 22:={}
instance:nw Tryz.prog 24 [(0,1),(1,1)]:={}
instance:bo Tryz.prog 25 (.slice 70):={}
instance:aU Tryz.prog 25 1 false 24 [.slice none 0 0]:={}
instance:bo Tryz.prog 26 (.slice 70):={}
instance:aU Tryz.prog 26 1 false 24 [.slice none 0 0]:={}
instance:bo Tryz.prog 27 (.slice 40):={}
instance:aU Tryz.prog 27 1 false 24 [.slice none 0 0]:={}
instance:bo Tryz.prog 31 (.slice 3):={}
instance:aU Tryz.prog 31 1 false 24 [.slice none 0 0]:={}
instance:aU Tryz.prog 32 2 true 48 [.slice none 0 0,.slice none 0 0]:={}
instance:gG Tryz.prog 32 0 0 31:={}
instance:gG Tryz.prog 32 1 1 27:={}
instance:nw Tryz.prog 32 [(0,1),(1,1)]:={}
instance:aU Tryz.prog 33 2 true 48 [.slice none 0 0,.slice none 0 0]:={}
instance:gG Tryz.prog 33 0 0 31:={}
instance:gG Tryz.prog 33 1 1 27:={}
instance:nw Tryz.prog 33 [(0,1),(1,1)]:={}
instance:bo Tryz.prog 34 (.int .i64):={}
instance:aU Tryz.prog 34 1 false 8 [.int .i64 0]:={}
instance:aU Tryz.prog 37 2 true 24 [.bool false,.string { data:= #[] }]:={}
instance:gG Tryz.prog 37 0 0 4:={}
instance:gG Tryz.prog 37 1 1 9:={}
instance:nw Tryz.prog 37 [(0,1),(1,1)]:={}
instance:aU Tryz.prog 38 2 true 24 [.bool false,.string { data:= #[] }]:={}
instance:gG Tryz.prog 38 0 0 4:={}
instance:gG Tryz.prog 38 1 1 9:={}
instance:nw Tryz.prog 38 [(0,1),(1,1)]:={}
instance:aU Tryz.prog 39 3 true 32 [.bool false,.string { data:= #[] },.int .i64 0]:={}
instance:gG Tryz.prog 39 0 0 38:={}
instance:gG Tryz.prog 39 1 2 3:={}
instance:nw Tryz.prog 39 [(0,2),(2,1)]:={}
instance:aU Tryz.prog 40 3 true 32 [.bool false,.string { data:= #[] },.int .i64 0]:={}
instance:gG Tryz.prog 40 0 0 38:={}
instance:gG Tryz.prog 40 1 2 3:={}
instance:nw Tryz.prog 40 [(0,2),(2,1)]:={}
instance:bo Tryz.prog 44 (.slice 40):={}
instance:aU Tryz.prog 44 1 false 24 [.slice none 0 0]:={}
instance:aU Tryz.prog 69 6 true 64 [.bool false,.string { data:= #[] },.int .i64 0,.bool false,.string { data:= #[] },.int .i64 0]:={}
instance:gG Tryz.prog 69 0 0 40:={}
instance:gG Tryz.prog 69 1 3 40:={}
instance:nw Tryz.prog 69 [(0,3),(3,3)]:={}
instance:aU Tryz.prog 70 6 true 64 [.bool false,.string { data:= #[] },.int .i64 0,.bool false,.string { data:= #[] },.int .i64 0]:={}
instance:gG Tryz.prog 70 0 0 40:={}
instance:gG Tryz.prog 70 1 3 40:={}
instance:nw Tryz.prog 70 [(0,3),(3,3)]:={}
instance:aU Tryz.prog 79 4 true 48 [.string { data:= #[] },.bool false,.string { data:= #[] },.int .i64 0]:={}
instance:gG Tryz.prog 79 0 0 9:={}
instance:gG Tryz.prog 79 1 1 40:={}
instance:nw Tryz.prog 79 [(0,1),(1,3)]:={}
instance:aU Tryz.prog 80 4 true 48 [.string { data:= #[] },.bool false,.string { data:= #[] },.int .i64 0]:={}
instance:gG Tryz.prog 80 0 0 9:={}
instance:gG Tryz.prog 80 1 1 40:={}
instance:nw Tryz.prog 80 [(0,1),(1,3)]:={}
instance:aU Tryz.prog 82 2 true 16 [.int .i64 0,.int .i64 0]:={}
instance:gG Tryz.prog 82 0 0 3:={}
instance:gG Tryz.prog 82 1 1 3:={}
instance:nw Tryz.prog 82 [(0,1),(1,1)]:={}
instance:aU Tryz.prog 83 2 true 16 [.int .i64 0,.int .i64 0]:={}
instance:gG Tryz.prog 83 0 0 3:={}
instance:gG Tryz.prog 83 1 1 3:={}
instance:nw Tryz.prog 83 [(0,1),(1,1)]:={}
instance:bo Tryz.prog 93 (.slice 96):={}
instance:aU Tryz.prog 93 1 false 24 [.slice none 0 0]:={}
instance:aU Tryz.prog 95 1 true 24 [.slice none 0 0]:={}
instance:gG Tryz.prog 95 0 0 27:={}
instance:nw Tryz.prog 95 [(0,1)]:={}
instance:aU Tryz.prog 96 1 true 24 [.slice none 0 0]:={}
instance:gG Tryz.prog 96 0 0 27:={}
instance:nw Tryz.prog 96 [(0,1)]:={}
instance:bo Tryz.prog 109 (.slice 5):={}
instance:aU Tryz.prog 109 1 false 24 [.slice none 0 0]:={}
instance:bo Tryz.prog 111 (.slice 9):={}
instance:aU Tryz.prog 111 1 false 24 [.slice none 0 0]:={}
instance:bo Tryz.prog 119 (.slice 24):={}
instance:aU Tryz.prog 119 1 false 24 [.slice none 0 0]:={}
instance:bo Tryz.prog 130 (.slice 2):={}
instance:aU Tryz.prog 130 1 false 24 [.slice none 0 0]:={}
instance:bo Tryz.prog 136 (.pointer 96):={}
instance:aU Tryz.prog 136 1 false 8 [.pointer none]:={}
instance:bo Tryz.prog 137 (.int .i64):={}
instance:aU Tryz.prog 137 1 false 8 [.int .i64 0]:={}
instance:aU Tryz.prog 138 5 true 56 [.int .i64 0,.bool false,.string { data:= #[] },.bool false,.string { data:= #[] }]:={}
instance:gG Tryz.prog 138 0 0 137:={}
instance:gG Tryz.prog 138 1 1 38:={}
instance:gG Tryz.prog 138 2 3 38:={}
instance:nw Tryz.prog 138 [(0,1),(1,2),(3,2)]:={}
instance:aU Tryz.prog 139 5 true 56 [.int .i64 0,.bool false,.string { data:= #[] },.bool false,.string { data:= #[] }]:={}
instance:gG Tryz.prog 139 0 0 137:={}
instance:gG Tryz.prog 139 1 1 38:={}
instance:gG Tryz.prog 139 2 3 38:={}
instance:nw Tryz.prog 139 [(0,1),(1,2),(3,2)]:={}
instance:aU Tryz.prog 141 6 true 64 [.bool false,.string { data:= #[] },.int .i64 0,.bool false,.string { data:= #[] },.int .i64 0]:={}
instance:gG Tryz.prog 141 0 0 70:={}
instance:nw Tryz.prog 141 [(0,6)]:={}
instance:aU Tryz.prog 142 6 true 64 [.bool false,.string { data:= #[] },.int .i64 0,.bool false,.string { data:= #[] },.int .i64 0]:={}
instance:gG Tryz.prog 142 0 0 70:={}
instance:nw Tryz.prog 142 [(0,6)]:={}
instance:bo Tryz.prog 149 (.string):={}
instance:aU Tryz.prog 149 1 false 16 [.string { data:= #[] }]:={}
instance:bo Tryz.prog 151 (.int .u64):={}
instance:aU Tryz.prog 151 1 false 8 [.int .u64 0]:={}
instance:aU Tryz.prog 152 2 true 24 [.string { data:= #[] },.bool false]:={}
instance:gG Tryz.prog 152 0 0 149:={}
instance:gG Tryz.prog 152 1 1 4:={}
instance:nw Tryz.prog 152 [(0,1),(1,1)]:={}
instance:aU Tryz.prog 153 2 true 24 [.string { data:= #[] },.bool false]:={}
instance:gG Tryz.prog 153 0 0 149:={}
instance:gG Tryz.prog 153 1 1 4:={}
instance:nw Tryz.prog 153 [(0,1),(1,1)]:={}
instance:bo Tryz.prog 174 (.slice 38):={}
instance:aU Tryz.prog 174 1 false 24 [.slice none 0 0]:={}
instance:bo Tryz.prog 179 (.slice 151):={}
instance:aU Tryz.prog 179 1 false 24 [.slice none 0 0]:={}
instance:bo Tryz.prog 180 (.slice 151):={}
instance:aU Tryz.prog 180 1 false 24 [.slice none 0 0]:={}
instance:bo Tryz.prog 204 (.array 64 5):={}
instance:aU Tryz.prog 204 64 true 64 [.int .u8 0,.int .u8 0,.int .u8 0,.int .u8 0,.int .u8 0,.int .u8 0,.int .u8 0,.int .u8 0,.int .u8 0,.int .u8 0,.int .u8 0,.int .u8 0,.int .u8 0,.int .u8 0,.int .u8 0,.int .u8 0,.int .u8 0,.int .u8 0,.int .u8 0,.int .u8 0,.int .u8 0,.int .u8 0,.int .u8 0,.int .u8 0,.int .u8 0,.int .u8 0,.int .u8 0,.int .u8 0,.int .u8 0,.int .u8 0,.int .u8 0,.int .u8 0,.int .u8 0,.int .u8 0,.int .u8 0,.int .u8 0,.int .u8 0,.int .u8 0,.int .u8 0,.int .u8 0,.int .u8 0,.int .u8 0,.int .u8 0,.int .u8 0,.int .u8 0,.int .u8 0,.int .u8 0,.int .u8 0,.int .u8 0,.int .u8 0,.int .u8 0,.int .u8 0,.int .u8 0,.int .u8 0,.int .u8 0,.int .u8 0,.int .u8 0,.int .u8 0,.int .u8 0,.int .u8 0,.int .u8 0,.int .u8 0,.int .u8 0,.int .u8 0]:={}
instance:bo Tryz.prog 205 (.int .u64):={}
instance:aU Tryz.prog 205 1 false 8 [.int .u64 0]:={}
instance:bo Tryz.prog 221 (.array 256 4):={}
instance:bo Tryz.prog 222 (.array 256 4):={}
instance:bo Tryz.prog 226 (.pointer 222):={}
instance:aU Tryz.prog 226 1 false 8 [.pointer none]:={}
instance:bo Tryz.prog 239 (.array 256 5):={}
instance:aU Tryz.prog 240 2 true 2 [.int .u8 0,.int .u8 0]:={}
instance:gG Tryz.prog 240 0 0 5:={}
instance:gG Tryz.prog 240 1 1 5:={}
instance:nw Tryz.prog 240 [(0,1),(1,1)]:={}
instance:aU Tryz.prog 241 2 true 2 [.int .u8 0,.int .u8 0]:={}
instance:gG Tryz.prog 241 0 0 5:={}
instance:gG Tryz.prog 241 1 1 5:={}
instance:nw Tryz.prog 241 [(0,1),(1,1)]:={}
instance:bo Tryz.prog 242 (.array 16 241):={}
instance:aU Tryz.prog 242 32 true 32 [.int .u8 0,.int .u8 0,.int .u8 0,.int .u8 0,.int .u8 0,.int .u8 0,.int .u8 0,.int .u8 0,.int .u8 0,.int .u8 0,.int .u8 0,.int .u8 0,.int .u8 0,.int .u8 0,.int .u8 0,.int .u8 0,.int .u8 0,.int .u8 0,.int .u8 0,.int .u8 0,.int .u8 0,.int .u8 0,.int .u8 0,.int .u8 0,.int .u8 0,.int .u8 0,.int .u8 0,.int .u8 0,.int .u8 0,.int .u8 0,.int .u8 0,.int .u8 0]:={}
instance:aU Tryz.prog 246 4 true 40 [.pointer none,.pointer none,.pointer none,.string { data:= #[] }]:={}
instance:gG Tryz.prog 246 0 0 17:={}
instance:gG Tryz.prog 246 1 1 17:={}
instance:gG Tryz.prog 246 2 2 17:={}
instance:gG Tryz.prog 246 3 3 9:={}
instance:nw Tryz.prog 246 [(0,1),(1,1),(2,1),(3,1)]:={}
instance:aU Tryz.prog 247 4 true 40 [.pointer none,.pointer none,.pointer none,.string { data:= #[] }]:={}
instance:gG Tryz.prog 247 0 0 17:={}
instance:gG Tryz.prog 247 1 1 17:={}
instance:gG Tryz.prog 247 2 2 17:={}
instance:gG Tryz.prog 247 3 3 9:={}
instance:nw Tryz.prog 247 [(0,1),(1,1),(2,1),(3,1)]:={}
instance:bo Tryz.prog 248 (.array 0 16):={}
instance:aU Tryz.prog 248 0 true 0 []:={}
instance:aU Tryz.prog 249 0 true 0 []:={}
instance:nw Tryz.prog 249 [(0,0)]:={}
instance:aU Tryz.prog 250 0 true 0 []:={}
instance:nw Tryz.prog 250 [(0,0)]:={}
instance:bo Tryz.prog 251 (.int .u32):={}
instance:aU Tryz.prog 251 1 false 4 [.int .u32 0]:={}
instance:bo Tryz.prog 252 (.int .u8):={}
instance:aU Tryz.prog 252 1 false 1 [.int .u8 0]:={}
instance:bo Tryz.prog 253 (.int .u8):={}
instance:aU Tryz.prog 253 1 false 1 [.int .u8 0]:={}
instance:bo Tryz.prog 255 (.pointer 5):={}
instance:aU Tryz.prog 255 1 false 8 [.pointer none]:={}
instance:bo Tryz.prog 256 (.int .i32):={}
instance:aU Tryz.prog 256 1 false 4 [.int .i32 0]:={}
instance:bo Tryz.prog 257 (.int .i32):={}
instance:aU Tryz.prog 257 1 false 4 [.int .i32 0]:={}
instance:aU Tryz.prog 258 11 true 48 [.int .u64 0,.int .u64 0,.int .u32 0,.int .u8 0,.int .u8 0,.int .u8 0,.int .u8 0,.nilFunc,.pointer none,.int .i32 0,.int .i32 0]:={}
instance:aU Tryz.prog 259 11 true 48 [.int .u64 0,.int .u64 0,.int .u32 0,.int .u8 0,.int .u8 0,.int .u8 0,.int .u8 0,.nilFunc,.pointer none,.int .i32 0,.int .i32 0]:={}
theorem mixed:Tryz.prog.follows .mixedOrders=true:=by kernel_rfl
instance:aw Tryz.prog 3:={}
instance:aw Tryz.prog 4:={}
instance:aw Tryz.prog 5:={}
instance:aw Tryz.prog 6:={}
instance:aw Tryz.prog 7:={}
instance:aw Tryz.prog 8:={}
instance:aw Tryz.prog 9:={}
instance:aw Tryz.prog 10:={}
instance:aw Tryz.prog 11:={}
instance:aw Tryz.prog 12:={}
instance:aw Tryz.prog 13:={}
instance:aw Tryz.prog 14:={}
instance:aw Tryz.prog 15:={}
instance:aw Tryz.prog 16:={}
instance:aw Tryz.prog 17:={}
instance:aw Tryz.prog 18:={}
instance:aw Tryz.prog 19:={}
instance:aw Tryz.prog 20:={}
instance:aw Tryz.prog 21:={}
instance:aw Tryz.prog 22:={}
instance:aw Tryz.prog 23:={}
instance:aw Tryz.prog 24:={}
instance:aw Tryz.prog 25:={}
instance:aw Tryz.prog 26:={}
instance:aw Tryz.prog 27:={}
instance:aw Tryz.prog 28:={}
instance:aw Tryz.prog 29:={}
instance:aw Tryz.prog 30:={}
instance:aw Tryz.prog 31:={}
instance:aw Tryz.prog 32:={}
instance:aw Tryz.prog 33:={}
instance:aw Tryz.prog 34:={}
instance:aw Tryz.prog 35:={}
instance:aw Tryz.prog 36:={}
instance:aw Tryz.prog 37:={}
instance:aw Tryz.prog 38:={}
instance:aw Tryz.prog 39:={}
instance:aw Tryz.prog 40:={}
instance:aw Tryz.prog 41:={}
instance:aw Tryz.prog 42:={}
instance:aw Tryz.prog 43:={}
instance:aw Tryz.prog 44:={}
instance:aw Tryz.prog 45:={}
instance:aw Tryz.prog 46:={}
instance:aw Tryz.prog 47:={}
instance:aw Tryz.prog 48:={}
instance:aw Tryz.prog 49:={}
instance:aw Tryz.prog 50:={}
instance:aw Tryz.prog 51:={}
instance:aw Tryz.prog 52:={}
instance:aw Tryz.prog 53:={}
instance:aw Tryz.prog 54:={}
instance:aw Tryz.prog 55:={}
instance:aw Tryz.prog 56:={}
instance:aw Tryz.prog 57:={}
instance:aw Tryz.prog 58:={}
instance:aw Tryz.prog 59:={}
instance:aw Tryz.prog 60:={}
instance:aw Tryz.prog 61:={}
instance:aw Tryz.prog 62:={}
instance:aw Tryz.prog 63:={}
instance:aw Tryz.prog 64:={}
instance:aw Tryz.prog 65:={}
instance:aw Tryz.prog 66:={}
instance:aw Tryz.prog 67:={}
instance:aw Tryz.prog 68:={}
instance:aw Tryz.prog 69:={}
instance:aw Tryz.prog 70:={}
instance:aw Tryz.prog 71:={}
instance:aw Tryz.prog 72:={}
instance:aw Tryz.prog 73:={}
instance:aw Tryz.prog 74:={}
instance:aw Tryz.prog 75:={}
instance:aw Tryz.prog 76:={}
instance:aw Tryz.prog 77:={}
instance:aw Tryz.prog 78:={}
instance:aw Tryz.prog 79:={}
instance:aw Tryz.prog 80:={}
instance:aw Tryz.prog 81:={}
instance:aw Tryz.prog 82:={}
instance:aw Tryz.prog 83:={}
instance:aw Tryz.prog 84:={}
instance:aw Tryz.prog 85:={}
instance:aw Tryz.prog 86:={}
instance:aw Tryz.prog 87:={}
instance:aw Tryz.prog 88:={}
instance:aw Tryz.prog 89:={}
instance:aw Tryz.prog 90:={}
instance:aw Tryz.prog 91:={}
instance:aw Tryz.prog 92:={}
instance:aw Tryz.prog 93:={}
instance:aw Tryz.prog 94:={}
instance:aw Tryz.prog 95:={}
instance:aw Tryz.prog 96:={}
instance:aw Tryz.prog 97:={}
instance:aw Tryz.prog 98:={}
instance:aw Tryz.prog 99:={}
instance:aw Tryz.prog 100:={}
instance:aw Tryz.prog 101:={}
instance:aw Tryz.prog 102:={}
instance:aw Tryz.prog 103:={}
instance:aw Tryz.prog 104:={}
instance:aw Tryz.prog 105:={}
instance:aw Tryz.prog 106:={}
instance:aw Tryz.prog 107:={}
instance:aw Tryz.prog 108:={}
instance:aw Tryz.prog 109:={}
instance:aw Tryz.prog 110:={}
instance:aw Tryz.prog 111:={}
instance:aw Tryz.prog 112:={}
instance:aw Tryz.prog 113:={}
instance:aw Tryz.prog 114:={}
instance:aw Tryz.prog 115:={}
instance:aw Tryz.prog 116:={}
instance:aw Tryz.prog 117:={}
instance:aw Tryz.prog 118:={}
instance:aw Tryz.prog 119:={}
instance:aw Tryz.prog 120:={}
instance:aw Tryz.prog 121:={}
instance:aw Tryz.prog 122:={}
instance:aw Tryz.prog 123:={}
instance:aw Tryz.prog 124:={}
instance:aw Tryz.prog 125:={}
instance:aw Tryz.prog 126:={}
instance:aw Tryz.prog 127:={}
instance:aw Tryz.prog 128:={}
instance:aw Tryz.prog 129:={}
instance:aw Tryz.prog 130:={}
instance:aw Tryz.prog 131:={}
instance:aw Tryz.prog 132:={}
instance:aw Tryz.prog 133:={}
instance:aw Tryz.prog 134:={}
instance:aw Tryz.prog 135:={}
instance:aw Tryz.prog 136:={}
instance:aw Tryz.prog 137:={}
instance:aw Tryz.prog 138:={}
instance:aw Tryz.prog 139:={}
instance:aw Tryz.prog 140:={}
instance:aw Tryz.prog 141:={}
instance:aw Tryz.prog 142:={}
instance:aw Tryz.prog 143:={}
instance:aw Tryz.prog 144:={}
instance:aw Tryz.prog 145:={}
instance:aw Tryz.prog 146:={}
instance:aw Tryz.prog 147:={}
instance:aw Tryz.prog 148:={}
instance:aw Tryz.prog 149:={}
instance:aw Tryz.prog 150:={}
instance:aw Tryz.prog 151:={}
instance:aw Tryz.prog 152:={}
instance:aw Tryz.prog 153:={}
instance:aw Tryz.prog 154:={}
instance:aw Tryz.prog 155:={}
instance:aw Tryz.prog 156:={}
instance:aw Tryz.prog 157:={}
instance:aw Tryz.prog 158:={}
instance:aw Tryz.prog 159:={}
instance:aw Tryz.prog 160:={}
instance:aw Tryz.prog 161:={}
instance:aw Tryz.prog 162:={}
instance:aw Tryz.prog 163:={}
instance:aw Tryz.prog 164:={}
instance:aw Tryz.prog 165:={}
instance:aw Tryz.prog 166:={}
instance:aw Tryz.prog 167:={}
instance:aw Tryz.prog 168:={}
instance:aw Tryz.prog 169:={}
instance:aw Tryz.prog 170:={}
instance:aw Tryz.prog 171:={}
instance:aw Tryz.prog 172:={}
instance:aw Tryz.prog 173:={}
instance:aw Tryz.prog 174:={}
instance:aw Tryz.prog 175:={}
instance:aw Tryz.prog 176:={}
instance:aw Tryz.prog 177:={}
instance:aw Tryz.prog 178:={}
instance:aw Tryz.prog 179:={}
instance:aw Tryz.prog 180:={}
instance:aw Tryz.prog 181:={}
instance:aw Tryz.prog 182:={}
instance:aw Tryz.prog 183:={}
instance:aw Tryz.prog 184:={}
instance:aw Tryz.prog 185:={}
instance:aw Tryz.prog 186:={}
instance:aw Tryz.prog 187:={}
instance:aw Tryz.prog 188:={}
instance:aw Tryz.prog 189:={}
instance:aw Tryz.prog 190:={}
instance:aw Tryz.prog 191:={}
instance:aw Tryz.prog 192:={}
instance:aw Tryz.prog 193:={}
instance:aw Tryz.prog 194:={}
instance:aw Tryz.prog 195:={}
instance:aw Tryz.prog 196:={}
instance:aw Tryz.prog 197:={}
instance:aw Tryz.prog 198:={}
instance:aw Tryz.prog 199:={}
instance:aw Tryz.prog 200:={}
instance:aw Tryz.prog 201:={}
instance:aw Tryz.prog 202:={}
instance:aw Tryz.prog 203:={}
instance:aw Tryz.prog 204:={}
instance:aw Tryz.prog 205:={}
instance:aw Tryz.prog 206:={}
instance:aw Tryz.prog 207:={}
instance:aw Tryz.prog 208:={}
instance:aw Tryz.prog 209:={}
instance:aw Tryz.prog 210:={}
instance:aw Tryz.prog 211:={}
instance:aw Tryz.prog 212:={}
instance:aw Tryz.prog 213:={}
instance:aw Tryz.prog 214:={}
instance:aw Tryz.prog 215:={}
instance:aw Tryz.prog 216:={}
instance:aw Tryz.prog 217:={}
instance:aw Tryz.prog 218:={}
instance:aw Tryz.prog 219:={}
instance:aw Tryz.prog 220:={}
instance:aw Tryz.prog 221:={}
instance:aw Tryz.prog 222:={}
instance:aw Tryz.prog 223:={}
instance:aw Tryz.prog 224:={}
instance:aw Tryz.prog 227:={}
instance:aw Tryz.prog 229:={}
instance:aw Tryz.prog 230:={}
instance:aw Tryz.prog 231:={}
instance:aw Tryz.prog 232:={}
instance:aw Tryz.prog 233:={}
instance:aw Tryz.prog 234:={}
instance:aw Tryz.prog 235:={}
instance:aw Tryz.prog 236:={}
variable {R:Ending→World→Prop}{args:Array Operand}{by' c dj j o off:Nat}{cs vs:List Value}{ft t':TypeId}{fz:Nat×Nat}{parts:Array (Nat×Operand)}{ps:List (Nat×Value)}{r:Bool}{v1:Value}{w:World}{ρ:Rf}
section
variable {ro:Mode}{P:Program}{N d:Nat}{ops:Array Oper}{Q:Kq}{ρ:Rf}{w w0:World}{rest:List Oper}{H:List HE}{ty:TypeId}{pos:String}{af:Array Edge}{x y:Operand}{t u:TypeId}
theorem mI {k:IntKind}{a:Int} (kk:WL ro P N ops Q rest (cY ρ d (.int k a)) w) (hx:ev ρ x=.int k a:=by exact dk rfl) (hN:d<N:=by decide):WL ro P N ops Q (⟨some d,.move x,ty,pos,af,none⟩::rest) ρ w:=sJ hx hN kk
theorem aI {k:IntKind}{a:Int} (kk:WL ro P N ops Q rest (cY ρ d (.int k a)) w) (hx:ev ρ x=.int k a:=by exact dk rfl) (hN:d<N:=by decide):WL ro P N ops Q (⟨some d,.assign x,ty,pos,af,none⟩::rest) ρ w:=la hx hN kk
theorem mB {a:Bool} (kk:WL ro P N ops Q rest (cY ρ d (.bool a)) w) (hx:ev ρ x=.bool a:=by exact uy rfl) (hN:d<N:=by decide):WL ro P N ops Q (⟨some d,.move x,ty,pos,af,none⟩::rest) ρ w:=sJ hx hN kk
theorem aB {a:Bool} (kk:WL ro P N ops Q rest (cY ρ d (.bool a)) w) (hx:ev ρ x=.bool a:=by exact uy rfl) (hN:d<N:=by decide):WL ro P N ops Q (⟨some d,.assign x,ty,pos,af,none⟩::rest) ρ w:=la hx hN kk
theorem mS {a:ByteArray} (kk:WL ro P N ops Q rest (cY ρ d (.string a)) w) (hx:ev ρ x=.string a:=by exact Ek rfl) (hN:d<N:=by decide):WL ro P N ops Q (⟨some d,.move x,ty,pos,af,none⟩::rest) ρ w:=sJ hx hN kk
theorem aS {a:ByteArray} (kk:WL ro P N ops Q rest (cY ρ d (.string a)) w) (hx:ev ρ x=.string a:=by exact Ek rfl) (hN:d<N:=by decide):WL ro P N ops Q (⟨some d,.assign x,ty,pos,af,none⟩::rest) ρ w:=la hx hN kk
theorem mL {A:Option Addr} (kk:WL ro P N ops Q rest (cY ρ d (.slice A n c)) w) (hx:ev ρ x=.slice A n c:=by exact Gs rfl) (hN:d<N:=by decide):WL ro P N ops Q (⟨some d,.move x,ty,pos,af,none⟩::rest) ρ w:=sJ hx hN kk
theorem aL {A:Option Addr} (kk:WL ro P N ops Q rest (cY ρ d (.slice A n c)) w) (hx:ev ρ x=.slice A n c:=by exact Gs rfl) (hN:d<N:=by decide):WL ro P N ops Q (⟨some d,.assign x,ty,pos,af,none⟩::rest) ρ w:=la hx hN kk
theorem mT {l:List Value} (kk:WL ro P N ops Q rest (cY ρ d (.tuple l.toArray)) w) (hx:ev ρ x=.tuple l.toArray:=by exact Ug rfl) (hN:d<N:=by decide):WL ro P N ops Q (⟨some d,.move x,ty,pos,af,none⟩::rest) ρ w:=sJ hx hN kk
theorem a8 {k:IntKind}{a b:Int} (kk:WL ro P N ops Q rest (cY ρ d (.bool r)) w) (hx:ev ρ x=.int k a:=by exact rfl) (hy:ev ρ y=.int k b:=by exact rfl) (hr:decide (a<b)=r:=by first|exact YV Yv|exact Y3 Yv|exact rfl) (hN:d<N:=by decide):WL ro P N ops Q (⟨some d,.binOp .lss t x y u,ty,pos,af,none⟩::rest) ρ w:=Om hx hy hN (by rw [hr];exact kk)
theorem TT {k:IntKind}{a b:Int} (kk:WL ro P N ops Q rest (cY ρ d (.bool r)) w) (hx:ev ρ x=.int k a:=by exact rfl) (hy:ev ρ y=.int k b:=by exact rfl) (hr:decide (a≤b)=r:=by first|exact YV Yv|exact Y3 Yv|exact rfl) (hN:d<N:=by decide):WL ro P N ops Q (⟨some d,.binOp .leq t x y u,ty,pos,af,none⟩::rest) ρ w:=Qk hx hy hN (by rw [hr];exact kk)
theorem bT {k:IntKind}{a b:Int} (kk:WL ro P N ops Q rest (cY ρ d (.bool r)) w) (hx:ev ρ x=.int k a:=by exact rfl) (hy:ev ρ y=.int k b:=by exact rfl) (hr:decide (b<a)=r:=by first|exact YV Yv|exact Y3 Yv|exact rfl) (hN:d<N:=by decide):WL ro P N ops Q (⟨some d,.binOp .gtr t x y u,ty,pos,af,none⟩::rest) ρ w:=Oa hx hy hN (by rw [hr];exact kk)
theorem ej {k:IntKind}{a b:Int} (kk:WL ro P N ops Q rest (cY ρ d (.bool r)) w) (hx:ev ρ x=.int k a:=by exact rfl) (hy:ev ρ y=.int k b:=by exact rfl) (hr:decide (b≤a)=r:=by first|exact YV Yv|exact Y3 Yv|exact rfl) (hN:d<N:=by decide):WL ro P N ops Q (⟨some d,.binOp .geq t x y u,ty,pos,af,none⟩::rest) ρ w:=Qh hx hy hN (by rw [hr];exact kk)
theorem di {k:IntKind}{a b:Int} (kk:WL ro P N ops Q rest (cY ρ d (.bool r)) w) (hx:ev ρ x=.int k a:=by exact rfl) (hy:ev ρ y=.int k b:=by exact rfl) (hr:decide (a=b)=r:=by first|exact YV Yv|exact Y3 Yv|exact rfl) (hN:d<N:=by decide):WL ro P N ops Q (⟨some d,.binOp .eql t x y u,ty,pos,af,none⟩::rest) ρ w:=GW hx hy hN (by rw [hr];exact kk)
theorem db {k:IntKind}{a b:Int} (kk:WL ro P N ops Q rest (cY ρ d (.bool r)) w) (hx:ev ρ x=.int k a:=by exact rfl) (hy:ev ρ y=.int k b:=by exact rfl) (hr:decide (a≠b)=r:=by first|exact YV Yv|exact Y3 Yv|exact rfl) (hN:d<N:=by decide):WL ro P N ops Q (⟨some d,.binOp .neq t x y u,ty,pos,af,none⟩::rest) ρ w:=PZ hx hy hN (by rw [hr];exact kk)
theorem bm {a b:Int} (kk:WL ro P N ops Q rest (cY ρ d (.int .i64 (a+b))) w) (hx:ev ρ x=.int .i64 a:=by exact rfl) (hy:ev ρ y=.int .i64 b:=by exact rfl) (h1: -9223372036854775808≤a+b:=by omega) (h2:a+b≤9223372036854775807:=by omega) (hN:d<N:=by decide):WL ro P N ops Q (⟨some d,.binOp .add t x y u,ty,pos,af,none⟩::rest) ρ w:=Tn hx hy h1 h2 hN kk
theorem eP {a b:Int} (kk:WL ro P N ops Q rest (cY ρ d (.int .i64 (a-b))) w) (hx:ev ρ x=.int .i64 a:=by exact rfl) (hy:ev ρ y=.int .i64 b:=by exact rfl) (h1: -9223372036854775808≤a-b:=by omega) (h2:a-b≤9223372036854775807:=by omega) (hN:d<N:=by decide):WL ro P N ops Q (⟨some d,.binOp .sub t x y u,ty,pos,af,none⟩::rest) ρ w:=Uh hx hy h1 h2 hN kk
theorem mulC {a b:Int} (kk:WL ro P N ops Q rest (cY ρ d (.int .i64 (a*b))) w) (hx:ev ρ x=.int .i64 a:=by exact rfl) (hy:ev ρ y=.int .i64 b:=by exact rfl) (h1: -9223372036854775808≤a*b:=by omega) (h2:a*b≤9223372036854775807:=by omega) (hN:d<N:=by decide):WL ro P N ops Q (⟨some d,.binOp .mul t x y u,ty,pos,af,none⟩::rest) ρ w:=To hx hy h1 h2 hN kk
theorem dx {i:Nat}{v:Value} (kk:WL ro P N ops Q rest (cY ρ d (v)) w) (hx:ev ρ x=.tuple vs.toArray:=by exact rfl) (hv:vs[i]?=some v:=by exact rfl) (hN:d<N:=by decide):WL ro P N ops Q (⟨some d,.extract x i,ty,pos,af,none⟩::rest) ρ w:=Ke hx hv hN kk
theorem fV {b:Bool} (kk:WL ro P N ops Q rest (cY ρ d (.bool !b)) w) (hx:ev ρ x=.bool b:=by exact rfl) (hN:d<N:=by decide):WL ro P N ops Q (⟨some d,.unOp .not t x,ty,pos,af,none⟩::rest) ρ w:=UU hx hN kk
theorem aK {e:TypeId}{A:Option Addr} [ht:bo P t (.slice e)] (kk:WL ro P N ops Q rest (cY ρ d (.int .i64 n)) w) (hx:ev ρ x=.slice A n c:=by exact rfl) (hN:d<N:=by decide):WL ro P N ops Q (⟨some d,.call ⟨.builtin .len, #[x], #[t]⟩,ty,pos,af,none⟩::rest) ρ w:=Ly ht.out hx hN kk
theorem bJ {s:TypeId}{f:Nat} [hf:gG P s f off ft] (kk:WL ro P N ops Q rest (cY ρ d (.pointer (some ⟨b,o+off,none⟩))) w) (hx:ev ρ x=.pointer (some ⟨b,o,none⟩):=by exact rfl) (hN:d<N:=by decide):WL ro P N ops Q (⟨some d,.fieldAddr s x f,ty,pos,af,none⟩::rest) ρ w:=DG hf.out hx hN kk
theorem bG {v:Value} (hh:Hp w0 H w) (i:Nat) [ht:aU P t n false by' zc] (kk:WL ro P N ops Q rest (cY ρ d (v)) w) (hx:ev ρ x=.pointer (some ⟨b,o,none⟩):=by exact rfl) (hi:H[i]?=some (.blk b t' cs fz):=by exact rfl) (hv:cs[o]?=some v:=by exact rfl) (hN:d<N:=by decide):WL ro P N ops Q (⟨some d,.load t x,ty,pos,af,none⟩::rest) ρ w:=cv ht.out hx (hh.eT hi hv) hN kk
theorem cC (hh:Hp w0 H w) (i:Nat) (vs:List Value) [ht:aU P t n true by' zc] (kk:WL ro P N ops Q rest (cY ρ d (.agg vs.toArray)) w) (hx:ev ρ x=.pointer (some ⟨b,o,none⟩):=by exact rfl) (hi:H[i]?=some (.blk b t' cs fz):=by exact rfl) (hv:(cs.drop o).take n=vs:=by exact rfl) (hl:vs.length=n:=by exact rfl) (hN:d<N:=by decide):WL ro P N ops Q (⟨some d,.load t x,ty,pos,af,none⟩::rest) ρ w:=cG ht.out hx (hh.cn hi hv) hl hN kk
theorem bW (hh:Hp w0 H w) [ht:aU P t n ag by' zc] (kk:∀b w',Hp w0 (.blk b t zc (0,0)::H) w'→WL ro P N ops Q rest (cY ρ d (.pointer (some ⟨b,0,none⟩))) w') (hN:d<N:=by decide):WL ro P N ops Q (⟨some d,.alloc t,ty,pos,af,none⟩::rest) ρ w:=KF hh ht.out hN kk
theorem cu {v:Value} (hh:Hp w0 H w) (cs:List Value) (kk:∀b w',Hp w0 (.blk b t cs (0,0)::H) w'→WL ro P N ops Q rest (cY ρ d (.pointer (some ⟨b,0,none⟩))) w') (hx:ev ρ x=v:=by exact rfl) (hc:v.cells=cs.toArray:=by exact rfl) (hN:d<N:=by decide):WL ro P N ops Q (⟨some d,.box t x,ty,pos,af,none⟩::rest) ρ w:=Tp hh hx hc hN kk
theorem bV {v:Value} (hh:Hp w0 H w) (i:Nat) (vs:List Value) [ht:aU P t n ag by' zc] (kk:∀w',Hp w0 (H.set i (.blk b t' (cM cs o vs) fz)) w'→WL ro P N ops Q rest ρ w') (hx:ev ρ x=.pointer (some ⟨b,o,none⟩):=by exact rfl) (hi:H[i]?=some (.blk b t' cs fz):=by exact rfl) (hy:ev ρ y=v:=by exact rfl) (hc:v.cells=vs.toArray:=by exact rfl) (hl:vs.length=n:=by exact rfl) (ho:o+n≤cs.length:=by simp) (h1:(vs.all Value.oneCell')=true:=by exact rfl):WL ro P N ops Q (⟨none,.store t x y,ty,pos,af,none⟩::rest) ρ w:=Du hh hx hi hy hc ht.out hl ho h1 kk
theorem fH {pl:List (Nat×Nat)} (cs:List Value) [hte:aU P t n true by' zc] [hpl:nw P t pl] (kk:WL ro P N ops Q rest (cY ρ d (.agg cs.toArray)) w) (hp:ya ρ parts.toList=ps:=by exact rfl) (hf:lN (pl[·]?) zc ps=some cs:=by exact rfl) (hN:d<N:=by decide):WL ro P N ops Q (⟨some d,.build t parts,ty,pos,af,none⟩::rest) ρ w:=Pg hte.out hpl.out hp hf hN kk
theorem fG {c a b:Operand}{v:Bool} (kk:WL ro P N ops Q rest (cY ρ d (.bool v)) w) (hc:ev ρ c=.bool true:=by exact rfl) (hx:ev ρ a=.bool v:=by exact uy rfl) (hN:d<N:=by decide):WL ro P N ops Q (⟨some d,.pick c a b,ty,pos,af,none⟩::rest) ρ w:=L9 hc hx hN kk
theorem dX {c a b:Operand}{v:Bool} (kk:WL ro P N ops Q rest (cY ρ d (.bool v)) w) (hc:ev ρ c=.bool false:=by exact rfl) (hx:ev ρ b=.bool v:=by exact uy rfl) (hN:d<N:=by decide):WL ro P N ops Q (⟨some d,.pick c a b,ty,pos,af,none⟩::rest) ρ w:=NW hc hx hN kk
theorem gS {op:Op}{b c:Bool} (kk:WL ro P N ops Q rest (cY ρ d undef) w) (hN:d<N:=by decide) (hj:(ops[j]?).bind (·.dst)=some dj:=by exact rfl) (hv:ρ dj=.bool c:=by exact rfl) (hb:c≠b:=by decide):WL ro P N ops Q (⟨some d,op,ty,pos,af,some (j,b)⟩::rest) ρ w:=l0 hN hj hv hb kk
theorem gV {op:Op}{b:Bool} (kk:WL ro P N ops Q rest (cY ρ d undef) w) (hN:d<N:=by decide) (hj:(ops[j]?).bind (·.dst)=some dj:=by exact rfl) (hb:nb (ρ dj) b=true:=by exact rfl):WL ro P N ops Q (⟨some d,op,ty,pos,af,some (j,b)⟩::rest) ρ w:=xo hN hj hb kk
theorem gT {dd:Option Nat}{op:Op}{b:Bool} (kk:WL ro P N ops Q (⟨dd,op,ty,pos,af,none⟩::rest) ρ w) (hj:(ops[j]?).bind (·.dst)=some dj:=by exact rfl) (hv:ρ dj=.bool b:=by exact rfl):WL ro P N ops Q (⟨dd,op,ty,pos,af,some (j,b)⟩::rest) ρ w:=aP hj hv kk
theorem bA {f:FuncId}{ts:Array TypeId}{v:Value} (hh:Hp w0 H w) (hc:Calls P f vs.toArray w fun e w'=>e=.returned v∧Below w.heap.size w w') [hf:aw P f] (ha:zt ρ args.toList=vs) (kk:∀w',Hp w0 H w'→WL ro P N ops Q rest (cY ρ d v) w') (hN:d<N:=by decide):WL ro P N ops Q (⟨some d,.call ⟨.value (.func f),args,ts⟩,ty,pos,af,none⟩::rest) ρ w:=aJ hc hf.out ha hN fun _ _ hq=>⟨_,hq.1,kk _ (hh.ext hq.2)⟩
theorem sr {id:Nat}{y:Code}{l:List Oper} (h:WL ro P N l.toArray (cU (fun ρ w=>WC ro P N y Q ρ w) Q) l ρ w):WC ro P N (.seq (.region id l.toArray false) y) Q ρ w:=ai (ar h)
theorem cT {c:Operand}{x y:Code} (h:WC ro P N x Q ρ w) (hc:ev ρ c=.bool true:=by exact rfl):WC ro P N (.cond c x y) Q ρ w:=JA hc h
theorem cF {c:Operand}{x y:Code} (h:WC ro P N y Q ρ w) (hc:ev ρ c=.bool false:=by exact rfl):WC ro P N (.cond c x y) Q ρ w:=IW hc h
theorem dh {fn:Func}{e:Exit}{t0:Tmp}{v0:Value} (h:R (.returned v0) w) (hr:fn.results= #[.tmp t0]:=by exact rfl) (h0:ρ t0=v0:=by first|exact kn rfl|exact om rfl|exact x9 rfl|exact Ju rfl|exact v_agg rfl|exact rfl) (he:e=.normal∨e=.ret:=by first|exact .inr rfl|exact .inl rfl):nX P fn R e ρ w:=WU he hr h0 h
theorem HI {fn:Func}{e:Exit}{t0 t1:Tmp}{v0:Value} (h:R (.returned (.tuple #[v0,v1])) w) (hr:fn.results= #[.tmp t0,.tmp t1]:=by exact rfl) (h0:ρ t0=v0:=by first|exact kn rfl|exact om rfl|exact x9 rfl|exact Ju rfl|exact v_agg rfl|exact rfl) (h1:ρ t1=v1:=by first|exact kn rfl|exact om rfl|exact x9 rfl|exact Ju rfl|exact v_agg rfl|exact rfl) (he:e=.normal∨e=.ret:=by first|exact .inr rfl|exact .inl rfl):nX P fn R e ρ w:=WM he hr h0 h1 h
theorem X9 {fn:Func}{e:Exit}{t0 t1 t2:Tmp}{v0 v2:Value} (h:R (.returned (.tuple #[v0,v1,v2])) w) (hr:fn.results= #[.tmp t0,.tmp t1,.tmp t2]:=by exact rfl) (h0:ρ t0=v0:=by first|exact kn rfl|exact om rfl|exact x9 rfl|exact Ju rfl|exact v_agg rfl|exact rfl) (h1:ρ t1=v1:=by first|exact kn rfl|exact om rfl|exact x9 rfl|exact Ju rfl|exact v_agg rfl|exact rfl) (h2:ρ t2=v2:=by first|exact kn rfl|exact om rfl|exact x9 rfl|exact Ju rfl|exact v_agg rfl|exact rfl) (he:e=.normal∨e=.ret:=by first|exact .inr rfl|exact .inl rfl):nX P fn R e ρ w:=WK he hr h0 h1 h2 h
theorem NJ {fn:Func}{e:Exit}{r0:ResultVar}{v0:Value} (h1:iL P ρ w [r0] [v0]) (h:R (.returned v0) w) (hr:fn.results= #[r0]:=by exact rfl) (he:e=.normal∨e=.ret:=by first|exact .inr rfl|exact .inl rfl):nX P fn R e ρ w:=Vr he hr h1 h
theorem PG {fn:Func}{e:Exit}{r0 r1:ResultVar}{v0:Value} (h1:iL P ρ w [r0,r1] [v0,v1]) (h:R (.returned (.tuple #[v0,v1])) w) (hr:fn.results= #[r0,r1]:=by exact rfl) (he:e=.normal∨e=.ret:=by first|exact .inr rfl|exact .inl rfl):nX P fn R e ρ w:=V9 he hr h1 h
theorem Xf {fn:Func}{e:Exit}{r0 r1 r2:ResultVar}{v0 v2:Value} (h1:iL P ρ w [r0,r1,r2] [v0,v1,v2]) (h:R (.returned (.tuple #[v0,v1,v2])) w) (hr:fn.results= #[r0,r1,r2]:=by exact rfl) (he:e=.normal∨e=.ret:=by first|exact .inr rfl|exact .inl rfl):nX P fn R e ρ w:=UC he hr h1 h
end
class TS (P:Program) (t:TypeId) (n:outParam Nat):Prop where out:(P.info? t).map (·.size)=some n
instance {P:Program}{t n b:Nat}{ag:Bool}{zc:List Value} [aU P t n ag b zc]:TS P t n:=⟨aU.size⟩
end Go.Proofs.YtolamocnngihpaaGreatDoor
