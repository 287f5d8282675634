/- Lemmas for ratioHolds, part 2. -/
import Derived.WalkKit
import Derived.WalkLawsBesides
import Derived.Below
import Derived.Laws.OwnMore
import Derived.Laws.Rows
import Derived.RegionTactic
import Derived.ControlIn
import Derived.TacticsIn
import Derived.AtR
import Derived.Deep.AppendLies
import Derived.Maps.AppendAt
import Derived.OwnWalk
import Derived.Test.YtmchncaiffbpaaaGreatDoorProg
import Derived.KernelRfl
import Derived.Test.YtmchncaiffbpaaaGreatDoorZ1
namespace Go.Proofs.YtmchncaiffbpaaaGreatDoor
open Go.RowKit
abbrev Rf:=Nat→Value
def cP (ρ:Rf) (d:Nat) (v:Value):Rf:=fun i=>bif Nat.beq i d then v else ρ i
def ev (ρ:Rf):Operand→Value
 |.tmp t=>ρ t
 |.const v=>v
 |.global g=>.pointer (some ⟨g,0,none⟩)
 |.func f=>.func (.func f) #[] #[]
structure fL (N:Nat) (D:List Deferred) (a:Act) (ρ:Rf):Prop where
 nd:a.defers=D
 sz:a.tmps.size=N
 at_:∀i,a.tmps.getD i undef=ρ i
abbrev Fits (N:Nat) (a:Act) (ρ:Rf):Prop:=fL N [] a ρ
theorem fL.eval {N:Nat}{D:List Deferred}{a:Act}{ρ:Rf} (h:fL N D a ρ):a.eval=ev ρ:=by
 funext x
 cases x with
 |tmp t=>exact h.at_ t
 |_=>rfl
theorem jK (ρ:Rf) (d:Nat) (v:Value):cP ρ d v d=v:=by simp [cP]
theorem bF (ρ:Rf) {d i:Nat} (h:i≠d) (v:Value):cP ρ d v i=ρ i:=by
 have hb:Nat.beq i d=false:=by
  cases hb:Nat.beq i d
  ·rfl
  ·exact absurd (Nat.eq_of_beq_eq_true hb) h
 simp only [cP,hb,cond_false]
theorem fL.put {N:Nat}{D:List Deferred}{a:Act}{ρ:Rf} (h:fL N D a ρ) {d:Nat} (hd:d<N) (v:Value):fL N D (a.put (some d) v) (cP ρ d v):=by
 refine ⟨h.nd,by simp [Act.put,h.sz],fun i=> ?_⟩;by_cases hi:i=d
 ·subst hi;rw [jK];simp [Act.put,h.sz,hd]
 ·rw [bF ρ hi,←h.at_ i];have:d≠i:=fun e=>hi e.symm;simp [Act.put,Array.getElem?_setIfInBounds_ne this]
abbrev Kq:=Exit→Rf→World→Prop
def dO (N:Nat) (D:List Deferred) (Q:Kq):Exit→Act→World→Prop:=fun e a w=>∃ρ,fL N D a ρ∧Q e ρ w
abbrev lift (N:Nat) (Q:Kq):Exit→Act→World→Prop:=dO N [] Q
structure Mode where
 round:Option Nat:=none
 D:List Deferred:=[]
 any:Bool:=false
abbrev Mode.plain:Mode:={}
def FW (ro:Option Nat):Fence:={ Fence.wide with round:=ro }
structure WC (ro:Mode) (P:Program) (N:Nat) (c:Code) (Q:Kq) (ρ:Rf) (w:World):Prop where
 nu:ro.any=false→∀a,fL N ro.D a ρ→c.wp P (dO N ro.D Q) a w
 kA:∀a,fL N ro.D a ρ→∀n,c.wpIn (FW ro.round) n P (dO N ro.D Q) a w
structure WL (ro:Mode) (P:Program) (N:Nat) (ops:Array Oper) (Q:Kq) (l:List Oper) (ρ:Rf) (w:World):Prop where
 nu:ro.any=false→∀a,fL N ro.D a ρ→wpList P ops (dO N ro.D Q) l a w
 kA:∀a,fL N ro.D a ρ→∀n,wpListIn (FW ro.round) n P ops (dO N ro.D Q) l a w
def cM (next:Rf→World→Prop) (Q:Kq):Kq
 |.normal,ρ,w=>next ρ w
 |e,ρ,w=>Q e ρ w
def qo (id:Nat) (Q:Kq):Kq
 |.exit id',ρ,w=>if id'=id then Q .normal ρ w else Q (.exit id') ρ w
 |e,ρ,w=>Q e ρ w
section code
variable {ro:Mode}{P:Program}{N:Nat}{Q:Kq}{ρ:Rf}{w:World}
theorem WC.nU {D:List Deferred}{c:Code} (h:∀a,fL N D a ρ→c.wp P (dO N D Q) a w):WC ⟨none,D,false⟩ P N c Q ρ w:=⟨fun _=>h,fun a hf _=>wpIn_wide.2 (h a hf)⟩
theorem WC.out {D:List Deferred}{c:Code} (h:WC ⟨none,D,false⟩ P N c Q ρ w):∀a,fL N D a ρ→c.wp P (dO N D Q) a w:=h.nu rfl
theorem NY {r:Option Nat}{D:List Deferred}{c:Code} (h:WC ⟨r,D,false⟩ P N c Q ρ w):WC ⟨r,D,true⟩ P N c Q ρ w:=⟨fun h=>(by cases h),h.kA⟩
theorem WL.out {D:List Deferred}{ops:Array Oper}{l:List Oper} (h:WL ⟨none,D,false⟩ P N ops Q l ρ w):∀a,fL N D a ρ→wpList P ops (dO N D Q) l a w:=h.nu rfl
theorem yc {D:List Deferred}{Q Q':Kq} (h:∀e ρ w,Q e ρ w→Q' e ρ w) (e:Exit) (a:Act) (w:World):dO N D Q e a w→dO N D Q' e a w:=
 fun ⟨ρ,hf,hq⟩=>⟨ρ,hf,h _ _ _ hq⟩
theorem WC.mono {c:Code}{Q':Kq} (h:WC ro P N c Q ρ w) (hq:∀e ρ w,Q e ρ w→Q' e ρ w):WC ro P N c Q' ρ w:=
 ⟨fun hm a hf=>wp_mono (h.nu hm a hf) (yc hq),fun a hf n=>wpIn_mono (h.kA a hf n) (yc hq)⟩
theorem ah {x y:Code} (h:WC ro P N x (cM (fun ρ w=>WC ro P N y Q ρ w) Q) ρ w):WC ro P N (.seq x y) Q ρ w:=
 ⟨fun hm a hf=>wp_seq (wp_mono (h.nu hm a hf) fun e a' w' ⟨ρ',hf',hq⟩=>by
  cases e with
  |normal=>exact hq.nu hm a' hf'
  |_=>exact ⟨ρ',hf',hq⟩),
 fun a hf n=>wpIn_seq (wpIn_mono (h.kA a hf n) fun e a' w' ⟨ρ',hf',hq⟩=>by
  cases e with
  |normal=>exact hq.kA a' hf' n
  |_=>exact ⟨ρ',hf',hq⟩)⟩
theorem aq (h:Q .normal ρ w):WC ro P N .skip Q ρ w:=⟨fun _ _ hf=>wp_skip ⟨ρ,hf,h⟩,fun _ hf _=>wpIn_skip ⟨ρ,hf,h⟩⟩
theorem av (h:Q .ret ρ w):WC ro P N .ret Q ρ w:=⟨fun _ _ hf=>wp_ret ⟨ρ,hf,h⟩,fun _ hf _=>wpIn_ret ⟨ρ,hf,h⟩⟩
theorem aX {id:Nat} (h:Q (.exit id) ρ w):WC ro P N (.exit id) Q ρ w:=⟨fun _ _ hf=>wp_exit ⟨ρ,hf,h⟩,fun _ hf _=>wpIn_exit ⟨ρ,hf,h⟩⟩
theorem ar {id:Nat}{c:Code} (h:WC ro P N c (qo id Q) ρ w):WC ro P N (.block id c) Q ρ w:=
 have key:∀(D:List Deferred) e a' w',dO N D (qo id Q) e a' w'→Exit.inBlock id (dO N D Q) e a' w':=fun D e a' w' ⟨ρ',hf',hq⟩=>by
  cases e with
  |exit id'=>
   by_cases hid:id'=id
   ·simp only [qo,hid,if_true] at hq;simp only [Exit.inBlock,hid,if_true];exact ⟨ρ',hf',hq⟩
   ·simp only [qo,hid,if_false] at hq;simp only [Exit.inBlock,hid,if_false];exact ⟨ρ',hf',hq⟩
  |_=>exact ⟨ρ',hf',hq⟩
 ⟨fun hm a hf=>wp_block (wp_mono (h.nu hm a hf) (key _)),fun a hf n=>wpIn_block (wpIn_mono (h.kA a hf n) (key _))⟩
theorem KJ {c:Operand}{x y:Code} (hc:ev ρ c=.bool true) (h:WC ro P N x Q ρ w):WC ro P N (.cond c x y) Q ρ w:=
 ⟨fun hm a hf=>wp_cond_true (by rw [hf.eval];exact hc) (h.nu hm a hf),fun a hf n=>wpIn_cond_true (by rw [hf.eval];exact hc) (h.kA a hf n)⟩
theorem JF {c:Operand}{x y:Code} (hc:ev ρ c=.bool false) (h:WC ro P N y Q ρ w):WC ro P N (.cond c x y) Q ρ w:=
 ⟨fun hm a hf=>wp_cond_false (by rw [hf.eval];exact hc) (h.nu hm a hf),fun a hf n=>wpIn_cond_false (by rw [hf.eval];exact hc) (h.kA a hf n)⟩
theorem ak {id:Nat}{l:List Oper} (h:WL ro P N l.toArray Q l ρ w):WC ro P N (.region id l.toArray false) Q ρ w:=
 ⟨fun hm a hf=>wp_region_lit (h.nu hm a hf),fun a hf n=>wpIn_region_lit (h.kA a hf n)⟩
theorem ai {next:Rf→World→Prop} (h:next ρ w):cM next Q .normal ρ w:=h
theorem aF {next:Rf→World→Prop} (h:Q .ret ρ w):cM next Q .ret ρ w:=h
theorem aE {next:Rf→World→Prop}{id:Nat} (h:Q (.exit id) ρ w):cM next Q (.exit id) ρ w:=h
theorem bz {id:Nat} (h:Q .normal ρ w):qo id Q .normal ρ w:=h
theorem bU {id:Nat} (h:Q .ret ρ w):qo id Q .ret ρ w:=h
theorem bA {id:Nat} (h:Q .normal ρ w):qo id Q (.exit id) ρ w:=by simpa [qo] using h
theorem Uh {id id':Nat} (hne:id'≠id) (h:Q (.exit id') ρ w):qo id Q (.exit id') ρ w:=by simpa [qo,hne] using h
def mask (mods:List Nat) (ρ' ρ:Rf):Rf:=fun i=>bif mods.contains i then ρ' i else ρ i
def iI (mods:List Nat) (ρ1 ρ:Rf):Prop:=∀i,mods.contains i=false→ρ1 i=ρ i
theorem fY (mods:List Nat) (ρ' ρ:Rf):iI mods (mask mods ρ' ρ) ρ:=fun i hi=>by simp only [mask,hi,cond_false]
theorem dx {mods:List Nat}{ρ1 ρ:Rf}{d:Nat}{v:Value} (hd:mods.contains d=true) (h:iI mods ρ1 ρ):iI mods (cP ρ1 d v) ρ:=fun i hi=>by
 rw [bF ρ1 (fun e=>by rw [e,hd] at hi;cases hi)];exact h i hi
theorem fD {mods mods2:List Nat}{ρ' ρ1 ρ:Rf} (hm:(mods2.all fun i=>mods.contains i)=true) (h:iI mods ρ1 ρ):iI mods (mask mods2 ρ' ρ1) ρ:=fun i hi=>by
 have h2:mods2.contains i=false:=by
  cases hc:mods2.contains i with
  |false=>rfl
  |true=>
   have:=Y0.1 hm i (by simpa using hc);rw [this] at hi;cases hi
 simp only [mask,h2,cond_false];exact h i hi
theorem Yr {p:Prop} (h:p:=by repeat (first|exact fY _ _ _|refine dx rfl ?_|refine fD rfl ?_)):p:=h
theorem Ys {p:Prop} (h:p:=by (repeat (first|exact fY _ _ _|refine dx rfl ?_|refine fD rfl ?_));exact fun _ _=>rfl):p:=h
theorem iO {mods:List Nat}{ρ1 ρ:Rf} (h:iI mods ρ1 ρ):mask mods ρ1 ρ=ρ1:=by
 funext i;simp only [mask]
 cases hc:mods.contains i with
 |true=>rfl
 |false=>simpa using (h i hc).symm
theorem fy (ρ:Rf) (d:Nat):cP ρ d (ρ d)=ρ:=by
 funext i;by_cases h:i=d
 ·subst h;rw [jK]
 ·rw [bF ρ h]
theorem uE {c:Code} (I:Rf→World→Prop) (μ:Rf→World→Nat) (h0:I ρ w)
  (round:∀ρ w,I ρ w→WC ro P N c (cM (fun ρ' w'=>I ρ' w'∧μ ρ' w'<μ ρ w) Q) ρ w):WC ro P N (.loop c) Q ρ w:=by
 refine ⟨fun hm a hf=> ?_,fun a hf n=> ?_⟩
 ·refine wp_loop (fun a w=>∃ρ,fL N ro.D a ρ∧I ρ w) (fun a w=>μ (fun i=>a.tmps.getD i undef) w) ⟨ρ,hf,h0⟩ ?_;rintro a w ⟨ρ,hf,hi⟩;refine wp_mono ((round ρ w hi).nu hm a hf) ?_;exact Vs
 ·refine wpIn_loop (fun a w=>∃ρ,fL N ro.D a ρ∧I ρ w) (fun a w=>μ (fun i=>a.tmps.getD i undef) w) ⟨ρ,hf,h0⟩ ?_;rintro a w ⟨ρ,hf,hi⟩;refine wpIn_mono ((round ρ w hi).kA a hf n) ?_;exact Vs
theorem aT {c:Code} (mods:List Nat) (s0:Nat) (I:Value→World→Prop) (μ:Value→World→Nat) (h0:I (ρ s0) w)
  (round:∀ρ' v0 w',I v0 w'→WC ro P N c (cM (fun ρ2 w2=>I (ρ2 s0) w2∧μ (ρ2 s0) w2<μ v0 w'∧iI mods ρ2 ρ) Q) (cP (mask mods ρ' ρ) s0 v0) w'):WC ro P N (.loop c) Q ρ w:=
 uE (fun ρ1 w1=>I (ρ1 s0) w1∧iI mods ρ1 ρ) (fun ρ1 w1=>μ (ρ1 s0) w1) ⟨h0,fun _ _=>rfl⟩ fun ρ1 w1 ⟨hi,ha⟩=>by
  have h:=round ρ1 (ρ1 s0) w1 hi;rw [iO ha,fy] at h;exact h.mono fun e ρ2 w2 hq=>by
   cases e with
   |normal=>exact ⟨⟨hq.1,hq.2.2⟩,hq.2.1⟩
   |_=>exact hq
theorem bH {c:Code} (mods:List Nat) (s0 s1:Nat) (I:Value→Value→World→Prop) (μ:Value→Value→World→Nat) (h0:I (ρ s0) (ρ s1) w)
  (round:∀ρ' v0 v1 w',I v0 v1 w'→WC ro P N c (cM (fun ρ2 w2=>I (ρ2 s0) (ρ2 s1) w2∧μ (ρ2 s0) (ρ2 s1) w2<μ v0 v1 w'∧iI mods ρ2 ρ) Q) (cP (cP (mask mods ρ' ρ) s0 v0) s1 v1) w'):WC ro P N (.loop c) Q ρ w:=
 uE (fun ρ1 w1=>I (ρ1 s0) (ρ1 s1) w1∧iI mods ρ1 ρ) (fun ρ1 w1=>μ (ρ1 s0) (ρ1 s1) w1) ⟨h0,fun _ _=>rfl⟩ fun ρ1 w1 ⟨hi,ha⟩=>by
  have h:=round ρ1 (ρ1 s0) (ρ1 s1) w1 hi;rw [iO ha,fy,fy] at h;exact h.mono fun e ρ2 w2 hq=>by
   cases e with
   |normal=>exact ⟨⟨hq.1,hq.2.2⟩,hq.2.1⟩
   |_=>exact hq
theorem u1 {c:Code} (mods:List Nat) (s0 s1 s2:Nat) (I:Value→Value→Value→World→Prop) (μ:Value→Value→Value→World→Nat) (h0:I (ρ s0) (ρ s1) (ρ s2) w)
  (round:∀ρ' v0 v1 v2 w',I v0 v1 v2 w'→WC ro P N c (cM (fun ρ2 w2=>I (ρ2 s0) (ρ2 s1) (ρ2 s2) w2∧μ (ρ2 s0) (ρ2 s1) (ρ2 s2) w2<μ v0 v1 v2 w'∧iI mods ρ2 ρ) Q) (cP (cP (cP (mask mods ρ' ρ) s0 v0) s1 v1) s2 v2) w'):WC ro P N (.loop c) Q ρ w:=
 uE (fun ρ1 w1=>I (ρ1 s0) (ρ1 s1) (ρ1 s2) w1∧iI mods ρ1 ρ) (fun ρ1 w1=>μ (ρ1 s0) (ρ1 s1) (ρ1 s2) w1) ⟨h0,fun _ _=>rfl⟩ fun ρ1 w1 ⟨hi,ha⟩=>by
  have h:=round ρ1 (ρ1 s0) (ρ1 s1) (ρ1 s2) w1 hi;rw [iO ha,fy,fy,fy] at h;exact h.mono fun e ρ2 w2 hq=>by
   cases e with
   |normal=>exact ⟨⟨hq.1,hq.2.2⟩,hq.2.1⟩
   |_=>exact hq
theorem Od {c:Code} (mods:List Nat) (s0 s1 s2 s3:Nat) (I:Value→Value→Value→Value→World→Prop) (μ:Value→Value→Value→Value→World→Nat) (h0:I (ρ s0) (ρ s1) (ρ s2) (ρ s3) w)
  (round:∀ρ' v0 v1 v2 v3 w',I v0 v1 v2 v3 w'→WC ro P N c (cM (fun ρ2 w2=>I (ρ2 s0) (ρ2 s1) (ρ2 s2) (ρ2 s3) w2∧μ (ρ2 s0) (ρ2 s1) (ρ2 s2) (ρ2 s3) w2<μ v0 v1 v2 v3 w'∧iI mods ρ2 ρ) Q) (cP (cP (cP (cP (mask mods ρ' ρ) s0 v0) s1 v1) s2 v2) s3 v3) w'):WC ro P N (.loop c) Q ρ w:=
 uE (fun ρ1 w1=>I (ρ1 s0) (ρ1 s1) (ρ1 s2) (ρ1 s3) w1∧iI mods ρ1 ρ) (fun ρ1 w1=>μ (ρ1 s0) (ρ1 s1) (ρ1 s2) (ρ1 s3) w1) ⟨h0,fun _ _=>rfl⟩ fun ρ1 w1 ⟨hi,ha⟩=>by
  have h:=round ρ1 (ρ1 s0) (ρ1 s1) (ρ1 s2) (ρ1 s3) w1 hi;rw [iO ha,fy,fy,fy,fy] at h;exact h.mono fun e ρ2 w2 hq=>by
   cases e with
   |normal=>exact ⟨⟨hq.1,hq.2.2⟩,hq.2.1⟩
   |_=>exact hq
end code
inductive OS (P:Program) (ρ:Rf) (w:World):ResultVar→Value→Prop
 |tmp (t:Tmp) {v:Value} (h:ρ t=v):OS P ρ w (.tmp t) v
 |cell (p:Tmp) (t:TypeId) {a:Addr}{v:Value} (hp:ρ p=.pointer (some a)) (h:(loadVar t a).run P w=.ok v w):OS P ρ w (.cell p t) v
def jm (P:Program) (ρ:Rf) (w:World):List ResultVar→List Value→Prop
 |[],[]=>True
 |r::rs,v::vs=>OS P ρ w r v∧jm P ρ w rs vs
 |_,_=>False
def zU:List Value→Value
 |[v]=>v
 |vs=>.tuple vs.toArray
def oC (P:Program) (fn:Func) (R:Ending→World→Prop):Kq:=fun e ρ w=>
 (e=.normal∨e=.ret)∧∃v,(∀tmps:Array Value,(∀i,tmps.getD i undef=ρ i)→(results fn tmps).run P w=.ok v w)∧R (.returned v) w
theorem Im {P:Program}{ρ:Rf}{w:World}{f:ResultVar→Sem Value} (h1:∀t,(f (.tmp t)).run P w=.ok (ρ t) w)
  (h2:∀p t a v,ρ p=.pointer (some a)→(loadVar t a).run P w=.ok v w→(f (.cell p t)).run P w=.ok v w):∀(rs:List ResultVar) (vs:List Value),jm P ρ w rs vs→
  (rs.mapM f).run P w=.ok vs w
 |[],[],_=>by simp
 |[],_::_,h=>h.elim
 |_::_,[],h=>h.elim
 |r::rs,v::vs,h=>by
  have ih:=Im h1 h2 rs vs h.2;obtain ⟨h3,_⟩:=h;rw [List.mapM_cons]
  cases h3 with
  |tmp t hv=>rw [Sem.run_bind,h1,Result.andThen_ok,Sem.run_bind,ih,Result.andThen_ok,Sem.run_pure,hv]
  |cell p t hp hl=>rw [Sem.run_bind,h2 _ _ _ _ hp hl,Result.andThen_ok,Sem.run_bind,ih,Result.andThen_ok,Sem.run_pure]
theorem ll {P:Program}{fn:Func}{R:Ending→World→Prop}{ρ:Rf}{w:World}{rs:List ResultVar}{vs:List Value}{e:Exit} (he:e=.normal∨e=.ret) (hr:fn.results=rs.toArray)
  (hv:jm P ρ w rs vs) (h:R (.returned (zU vs)) w):oC P fn R e ρ w:=by
 refine ⟨he,zU vs,fun tmps ht=> ?_,h⟩;unfold results;rw [hr,Sem.run_bind,List.mapM_toArray,Sem.run_map,Im (ρ:=ρ) (fun t=>by simp [ht]) (fun p t a v hp hl=>by simp [ht,hp,asAddr,hl]) rs vs hv];simp only [Result.andThen_ok]
 match vs with
 |[]=>simp [zU]
 |[v]=>simp [zU]
 |_::_::_=>simp [zU]
theorem dw {P:Program}{ρ:Rf}{w:World}:jm P ρ w [] []:=trivial
theorem eB {P:Program}{ρ:Rf}{w:World}{t:Tmp}{v:Value}{rs:List ResultVar}{vs:List Value} (h:ρ t=v) (k:jm P ρ w rs vs):jm P ρ w (.tmp t::rs) (v::vs):=⟨.tmp t h,k⟩
theorem cj {P:Program}{ρ:Rf}{w:World}{p:Tmp}{t:TypeId}{a:Addr}{v:Value}{rs:List ResultVar}{vs:List Value} (hp:ρ p=.pointer (some a)) (h:(loadVar t a).run P w=.ok v w) (k:jm P ρ w rs vs):jm P ρ w (.cell p t::rs) (v::vs):=⟨.cell p t hp h,k⟩
theorem Xd {P:Program}{fn:Func}{R:Ending→World→Prop}{ρ:Rf}{w:World}{t:Tmp}{e:Exit}{v:Value} (he:e=.normal∨e=.ret) (hr:fn.results= #[.tmp t]) (hv:ρ t=v) (h:R (.returned v) w):oC P fn R e ρ w:=
 ll he hr (eB hv dw) h
theorem W9 {P:Program}{fn:Func}{R:Ending→World→Prop}{ρ:Rf}{w:World}{t u:Tmp}{e:Exit}{v x:Value} (he:e=.normal∨e=.ret) (hr:fn.results= #[.tmp t,.tmp u]) (hv:ρ t=v) (hx:ρ u=x) (h:R (.returned (.tuple #[v,x])) w):oC P fn R e ρ w:=
 ll he hr (eB hv (eB hx dw)) h
theorem WT {P:Program}{fn:Func}{R:Ending→World→Prop}{ρ:Rf}{w:World}{t u s:Tmp}{e:Exit}{v x y:Value} (he:e=.normal∨e=.ret) (hr:fn.results= #[.tmp t,.tmp u,.tmp s]) (hv:ρ t=v) (hx:ρ u=x) (hy:ρ s=y) (h:R (.returned (.tuple #[v,x,y])) w):oC P fn R e ρ w:=
 ll he hr (eB hv (eB hx (eB hy dw))) h
theorem Pf {P:Program}{fn:Func}{R:Ending→World→Prop}{ρ:Rf}{w:World}{e:Exit} (he:e=.normal∨e=.ret) (hr:fn.results= #[]) (h:R (.returned (.tuple #[])) w):oC P fn R e ρ w:=
 ll he hr dw h
theorem Wl {P:Program}{fn:Func}{R:Ending→World→Prop}{ρ:Rf}{w:World}{r:ResultVar}{e:Exit}{v:Value} (he:e=.normal∨e=.ret) (hr:fn.results= #[r]) (h1:jm P ρ w [r] [v]) (h:R (.returned v) w):oC P fn R e ρ w:=
 ll he hr h1 h
theorem Wh {P:Program}{fn:Func}{R:Ending→World→Prop}{ρ:Rf}{w:World}{r s:ResultVar}{e:Exit}{v x:Value} (he:e=.normal∨e=.ret) (hr:fn.results= #[r,s]) (h1:jm P ρ w [r,s] [v,x]) (h:R (.returned (.tuple #[v,x])) w):oC P fn R e ρ w:=
 ll he hr h1 h
theorem Wg {P:Program}{fn:Func}{R:Ending→World→Prop}{ρ:Rf}{w:World}{r s t:ResultVar}{e:Exit}{v x y:Value} (he:e=.normal∨e=.ret) (hr:fn.results= #[r,s,t]) (h1:jm P ρ w [r,s,t] [v,x,y]) (h:R (.returned (.tuple #[v,x,y])) w):oC P fn R e ρ w:=
 ll he hr h1 h
def HZ (l:List Value):Rf:=fun i=>l.getD i undef
theorem aj {P:Program}{f:FuncId}{fn:Func}{c:Code}{N:Nat}{l:List Value}{w:World}{R:Ending→World→Prop}
  (hf:P.funcs[f]?=some fn) (hb:fn.body=some c) (hn:fn.ntmps=N) (ha:l.length≤N)
  (h:WC .plain P N c (oC P fn R) (HZ l) w):Calls P f l.toArray w R:=by
 refine calls_of_wp hf hb ?_;refine wp_mono (h.out _ ⟨rfl,by simp [hn];omega,fun i=> ?_⟩) ?_
 ·exact UD
 ·rintro e a w' ⟨ρ',hf',he,v,hr,hR⟩
  rcases he with rfl|rfl<;>exact ⟨hf'.nd,v,hr _ hf'.at_,hR⟩
section
variable {ro:Mode}{P:Program}{N:Nat}{ops:Array Oper}{Q:Kq}{ρ:Rf}{w:World}{rest:List Oper}
theorem me {f:Operand→Value}{o:Oper}{x:Next}{w':World} (ro:Option Nat) (h:(execOp f o).run P w=.ok x w') (hx:∀d,x≠.defer d):(o.semAt ro f).run P w=.ok x w':=by
 cases hop:o.op with
 |defer c=>
  exfalso;unfold execOp at h;rw [hop] at h;simp only [Sem.run_bind] at h
  cases h2:(resolve f c o.type).run P w with
  |ok v w2=>
   rw [h2] at h;simp at h;exact hx _ h.1.symm
  |halt e w2=>
   rw [h2] at h;simp [Result.andThen] at h
 |_=>rw [Oper.semAt_eq _ _ _ (by rw [hop];intro c hc;cases hc)];exact h
theorem CW {r1:Option Nat}{n:Nat}{f:FuncId}{args:Array Value}{R:Ending→World→Prop} (h:Calls P f args w R):CallsIn (FW r1) n P f args w R:=(callsIn_wide (n:=n)).2 h
theorem aD (h:Q .normal ρ w):WL ro P N ops Q [] ρ w:=⟨fun _ _ hf=>wpList_nil ⟨ρ,hf,h⟩,fun _ hf _=>wpListIn_nil ⟨ρ,hf,h⟩⟩
theorem aa {next:Rf→World→Prop}{Q':Kq} (h:next ρ w):WL ro P N ops (cM next Q') [] ρ w:=aD h
theorem aV {o:Oper}{d:Nat}{v:Value}{w':World} (hg:o.guard=none) (hd:o.dst=some d) (hN:d<N)
  (hr:(execOp (ev ρ) o).run P w=.ok (.value v) w') (k:WL ro P N ops Q rest (cP ρ d v) w'):WL ro P N ops Q (o::rest) ρ w:=
 ⟨fun hm a hf=>wpList_plain hg fun K hK=>by
  unfold Oper.wp;rw [hf.eval,hr];show K (a.put o.dst v) w';rw [hd];exact hK _ _ (k.nu hm _ (hf.put hN v)),
 fun a hf n=>wpListIn_plain hg fun K hK=>by
  refine ⟨fun _ _=>trivial, ?_⟩;rw [hf.eval,me _ hr (fun _ h=>by cases h)];show K (a.put o.dst v) w';rw [hd];exact hK _ _ (k.kA _ (hf.put hN v) n)⟩
theorem I7 {o:Oper}{w':World} (hg:o.guard=none) (hd:o.dst=none)
  (hr:(execOp (ev ρ) o).run P w=.ok .skip w') (k:WL ro P N ops Q rest ρ w'):WL ro P N ops Q (o::rest) ρ w:=
 ⟨fun hm a hf=>wpList_plain hg fun K hK=>by
  unfold Oper.wp;rw [hf.eval,hr];show K (a.put o.dst undef) w';rw [hd];exact hK _ _ (k.nu hm _ hf),
 fun a hf n=>wpListIn_plain hg fun K hK=>by
  refine ⟨fun _ _=>trivial, ?_⟩;rw [hf.eval,me _ hr (fun _ h=>by cases h)];show K (a.put o.dst undef) w';rw [hd];exact hK _ _ (k.kA _ hf n)⟩
theorem Ei {o:Oper}{d:Nat}{f:FuncId}{args:Array Value}{w1:World}{R:Ending→World→Prop} (hg:o.guard=none) (hd:o.dst=some d) (hN:d<N)
  (hr:(execOp (ev ρ) o).run P w=.ok (.enter f args) w1) (hc:Calls P f args w1 R)
  (k:∀e w',R e w'→∃v,e=.returned v∧WL ro P N ops Q rest (cP ρ d v) w'):WL ro P N ops Q (o::rest) ρ w:=
 ⟨fun hm a hf=>wpList_plain hg fun K hK=>by
  unfold Oper.wp;rw [hf.eval,hr];show Calls P f args w1 _;refine hc.mono fun e w' hR=> ?_;obtain ⟨v,rfl,hk⟩:=k e w' hR;show K (a.put o.dst v) w';rw [hd];exact hK _ _ (hk.nu hm _ (hf.put hN v)),
 fun a hf n=>wpListIn_plain hg fun K hK=>by
  refine ⟨fun _ _=>trivial, ?_⟩;rw [hf.eval,me _ hr (fun _ h=>by cases h)];refine ⟨fun h=>(by cases h), ?_⟩;refine CW (hc.mono fun e w' hR=> ?_);obtain ⟨v,rfl,hk⟩:=k e w' hR;show K (a.put o.dst v) w';rw [hd];exact hK _ _ (hk.kA _ (hf.put hN v) n)⟩
theorem aG {d:Option Nat}{op:Op}{ty:TypeId}{pos:String}{af:Array Edge}{j dj:Nat}{b:Bool}
  (hj:(ops[j]?).bind (·.dst)=some dj) (hv:ρ dj=.bool b) (k:WL ro P N ops Q (⟨d,op,ty,pos,af,none⟩::rest) ρ w):
  WL ro P N ops Q (⟨d,op,ty,pos,af,some (j,b)⟩::rest) ρ w:=
 have h0:∀D a,fL N D a ρ→Region.wanted ⟨d,op,ty,pos,af,some (j,b)⟩ (yielded ops a.tmps)=true:=fun D a hf=>by
  have h2:=hf.at_ dj;rw [hv,ZL] at h2
  cases h3:a.tmps[dj]? with
  |none=>rw [h3] at h2;cases h2
  |some x=>
   rw [h3] at h2;simp only [ZO] at h2;subst h2;simp [Region.wanted,yielded,hj,h3]
 ⟨fun hm a hf=>by
  have h2:=k.nu hm a hf;unfold wpList at h2 ⊢;rw [Yt (h0 _ a hf)];rw [Yt (by simp [Region.wanted])] at h2;exact h2,
 fun a hf n=>by
  have h2:=k.kA a hf n;unfold wpListIn at h2 ⊢;rw [Yt (h0 _ a hf)];rw [Yt (by simp [Region.wanted])] at h2;exact h2⟩
theorem lS {d:Nat}{op:Op}{ty:TypeId}{pos:String}{af:Array Edge}{j dj:Nat}{b c:Bool} (hN:d<N)
  (hj:(ops[j]?).bind (·.dst)=some dj) (hv:ρ dj=.bool c) (hb:c≠b) (k:WL ro P N ops Q rest (cP ρ d undef) w):
  WL ro P N ops Q (⟨some d,op,ty,pos,af,some (j,b)⟩::rest) ρ w:=
 have h0:∀D a,fL N D a ρ→Region.wanted ⟨some d,op,ty,pos,af,some (j,b)⟩ (yielded ops a.tmps)=false:=fun D a hf=>by
  have h2:=hf.at_ dj;rw [hv,ZL] at h2
  cases h3:a.tmps[dj]? with
  |none=>rw [h3] at h2;cases h2
  |some x=>
   rw [h3] at h2;simp only [ZO] at h2;subst h2;simp [Region.wanted,yielded,hj,h3,hb]
 ⟨fun hm a hf=>by
  unfold wpList;rw [h0 _ a hf];exact k.nu hm _ (hf.put hN undef),
 fun a hf n=>by
  unfold wpListIn;rw [h0 _ a hf];exact ⟨fun _ _=>trivial,k.kA _ (hf.put hN undef) n⟩⟩
def nb (v:Value) (b:Bool):Bool:=match v with|.bool c=>c !=b|_=>true
theorem u3 {d:Nat}{op:Op}{ty:TypeId}{pos:String}{af:Array Edge}{j dj:Nat}{b:Bool} (hN:d<N)
  (hj:(ops[j]?).bind (·.dst)=some dj) (hb:nb (ρ dj) b=true) (k:WL ro P N ops Q rest (cP ρ d undef) w):
  WL ro P N ops Q (⟨some d,op,ty,pos,af,some (j,b)⟩::rest) ρ w:=by
 cases hv:ρ dj with
 |bool c=>
  rw [hv] at hb;exact lS hN hj hv (by simpa [nb] using hb) k
 |_=>
  have h0:∀D a,fL N D a ρ→Region.wanted ⟨some d,op,ty,pos,af,some (j,b)⟩ (yielded ops a.tmps)=false:=fun D a hf=>by
   have h2:=hf.at_ dj;rw [hv,ZL] at h2
   cases h3:a.tmps[dj]? with
   |none=>simp [Region.wanted,yielded,hj,h3]
   |some x=>
    rw [h3] at h2;simp only [ZO] at h2;subst h2;simp [Region.wanted,yielded,hj,h3]
  refine ⟨fun hm a hf=> ?_,fun a hf n=> ?_⟩
  ·unfold wpList;rw [h0 _ a hf];exact k.nu hm _ (hf.put hN undef)
  ·unfold wpListIn;rw [h0 _ a hf];exact ⟨fun _ _=>trivial,k.kA _ (hf.put hN undef) n⟩
end
section
variable {P:Program}{ρ:Rf}{w:World}{d:Option Nat}{ty:TypeId}{pos:String}{af:Array Edge}{g:Option (Nat×Bool)}
theorem fV {x:Operand}{v:Value} (hx:ev ρ x=v):(execOp (ev ρ) ⟨d,.move x,ty,pos,af,g⟩).run P w=.ok (.value v) w:=by simp [execOp,hx]
theorem Dq {x:Operand}{v:Value} (hx:ev ρ x=v):(execOp (ev ρ) ⟨d,.assign x,ty,pos,af,g⟩).run P w=.ok (.value v) w:=by simp [execOp,hx]
theorem Dp {c a b:Operand}{v:Value} (hc:ev ρ c=.bool true) (hx:ev ρ a=v):(execOp (ev ρ) ⟨d,.pick c a b,ty,pos,af,g⟩).run P w=.ok (.value v) w:=by simp [execOp,asBool,hc,hx]
theorem C7 {c a b:Operand}{v:Value} (hc:ev ρ c=.bool false) (hx:ev ρ b=v):(execOp (ev ρ) ⟨d,.pick c a b,ty,pos,af,g⟩).run P w=.ok (.value v) w:=by simp [execOp,asBool,hc,hx]
section ints
variable {t u:TypeId}{x y:Operand}{k:IntKind}{a b:Int}
theorem Rn (hx:ev ρ x=.int k a) (hy:ev ρ y=.int k b):(execOp (ev ρ) ⟨d,.binOp .add t x y u,ty,pos,af,g⟩).run P w=.ok (.value (.int k (k.wrap (a+b)))) w:=by
 simp [execOp,hx,hy,eqGuard,binOp,Op.intArith]
theorem Se (hx:ev ρ x=.int k a) (hy:ev ρ y=.int k b):(execOp (ev ρ) ⟨d,.binOp .sub t x y u,ty,pos,af,g⟩).run P w=.ok (.value (.int k (k.wrap (a-b)))) w:=by
 simp [execOp,hx,hy,eqGuard,binOp,Op.intArith]
theorem RY (hx:ev ρ x=.int k a) (hy:ev ρ y=.int k b):(execOp (ev ρ) ⟨d,.binOp .mul t x y u,ty,pos,af,g⟩).run P w=.ok (.value (.int k (k.wrap (a*b)))) w:=by
 simp [execOp,hx,hy,eqGuard,binOp,Op.intArith]
theorem SY (hx:ev ρ x=.int k a) (hy:ev ρ y=.int k b) (hb:b≠0):(execOp (ev ρ) ⟨d,.binOp .quo t x y u,ty,pos,af,g⟩).run P w=.ok (.value (.int k (k.wrap (a.tdiv b)))) w:=by
 simp [execOp,hx,hy,eqGuard,binOp,Op.intDiv,hb]
theorem Rz (hx:ev ρ x=.int k a) (hy:ev ρ y=.int k b) (hb:b≠0):(execOp (ev ρ) ⟨d,.binOp .rem t x y u,ty,pos,af,g⟩).run P w=.ok (.value (.int k (a.tmod b))) w:=by
 simp [execOp,hx,hy,eqGuard,binOp,Op.intDiv,hb]
theorem SQ (hx:ev ρ x=.int k a) (hy:ev ρ y=.int k b):(execOp (ev ρ) ⟨d,.binOp .and t x y u,ty,pos,af,g⟩).run P w=.ok (.value (.int k (k.wrap (BitVec.ofInt k.bits a &&& BitVec.ofInt k.bits b).toNat))) w:=by
 simp [execOp,hx,hy,eqGuard,binOp,Op.intBits]
theorem WZ (hx:ev ρ x=.int k a) (hy:ev ρ y=.int k b):(execOp (ev ρ) ⟨d,.binOp .or t x y u,ty,pos,af,g⟩).run P w=.ok (.value (.int k (k.wrap (BitVec.ofInt k.bits a|||BitVec.ofInt k.bits b).toNat))) w:=by
 simp [execOp,hx,hy,eqGuard,binOp,Op.intBits]
theorem Ra {k':IntKind} (hx:ev ρ x=.int k a) (hy:ev ρ y=.int k' b) (hb:0≤b):(execOp (ev ρ) ⟨d,.binOp .shl t x y u,ty,pos,af,g⟩).run P w=.ok (.value (.int k (k.wrap (a*2^(min b.toNat k.bits))))) w:=by
 simp [execOp,hx,hy,eqGuard,binOp,Op.shift,show ¬b<0 by omega]
theorem Sp {k':IntKind} (hx:ev ρ x=.int k a) (hy:ev ρ y=.int k' b) (hb:0≤b):(execOp (ev ρ) ⟨d,.binOp .shr t x y u,ty,pos,af,g⟩).run P w=.ok (.value (.int k (a.fdiv (2^(min b.toNat k.bits))))) w:=by
 simp [execOp,hx,hy,eqGuard,binOp,Op.shift,show ¬b<0 by omega]
theorem CH {op:BinOp}:(eqGuard op t x y (.int k a) (.int k b)).run P w=.ok () w:=by
 unfold eqGuard;cases op<;>simp
theorem nE {op:BinOp}{r:Bool} (hx:ev ρ x=.int k a) (hy:ev ρ y=.int k b) (hop:(Op.intCmp op a b).run P w=.ok (.bool r) w) (hc:op=.eql∨op=.neq∨op=.lss∨op=.leq∨op=.gtr∨op=.geq):
  (execOp (ev ρ) ⟨d,.binOp op t x y u,ty,pos,af,g⟩).run P w=.ok (.value (.bool r)) w:=by
 rcases hc with h|h|h|h|h|h<;>subst h<;>simp [execOp,hx,hy,CH,binOp,hop]
theorem Qq (hx:ev ρ x=.int k a) (hy:ev ρ y=.int k b) (h:a<b):(execOp (ev ρ) ⟨d,.binOp .lss t x y u,ty,pos,af,g⟩).run P w=.ok (.value (.bool true)) w:=
 nE hx hy (by simp [Op.intCmp,h]) (by simp)
theorem PI (hx:ev ρ x=.int k a) (hy:ev ρ y=.int k b) (h:¬a<b):(execOp (ev ρ) ⟨d,.binOp .lss t x y u,ty,pos,af,g⟩).run P w=.ok (.value (.bool false)) w:=
 nE hx hy (by simp [Op.intCmp];omega) (by simp)
theorem Pa (hx:ev ρ x=.int k a) (hy:ev ρ y=.int k b) (h:a≤b):(execOp (ev ρ) ⟨d,.binOp .leq t x y u,ty,pos,af,g⟩).run P w=.ok (.value (.bool true)) w:=
 nE hx hy (by simp [Op.intCmp,h]) (by simp)
theorem PN (hx:ev ρ x=.int k a) (hy:ev ρ y=.int k b) (h:¬a≤b):(execOp (ev ρ) ⟨d,.binOp .leq t x y u,ty,pos,af,g⟩).run P w=.ok (.value (.bool false)) w:=
 nE hx hy (by simp [Op.intCmp];omega) (by simp)
theorem Pq (hx:ev ρ x=.int k a) (hy:ev ρ y=.int k b) (h:b<a):(execOp (ev ρ) ⟨d,.binOp .gtr t x y u,ty,pos,af,g⟩).run P w=.ok (.value (.bool true)) w:=
 nE hx hy (by simp [Op.intCmp,h]) (by simp)
theorem Pb (hx:ev ρ x=.int k a) (hy:ev ρ y=.int k b) (h:¬b<a):(execOp (ev ρ) ⟨d,.binOp .gtr t x y u,ty,pos,af,g⟩).run P w=.ok (.value (.bool false)) w:=
 nE hx hy (by simp [Op.intCmp];omega) (by simp)
theorem Qp (hx:ev ρ x=.int k a) (hy:ev ρ y=.int k b) (h:b≤a):(execOp (ev ρ) ⟨d,.binOp .geq t x y u,ty,pos,af,g⟩).run P w=.ok (.value (.bool true)) w:=
 nE hx hy (by simp [Op.intCmp,h]) (by simp)
theorem Qv (hx:ev ρ x=.int k a) (hy:ev ρ y=.int k b) (h:¬b≤a):(execOp (ev ρ) ⟨d,.binOp .geq t x y u,ty,pos,af,g⟩).run P w=.ok (.value (.bool false)) w:=
 nE hx hy (by simp [Op.intCmp];omega) (by simp)
theorem Qu (hx:ev ρ x=.int k a) (hy:ev ρ y=.int k b) (h:a≠b):(execOp (ev ρ) ⟨d,.binOp .neq t x y u,ty,pos,af,g⟩).run P w=.ok (.value (.bool true)) w:=
 nE hx hy (by simp [Op.intCmp,h]) (by simp)
theorem Pr (hx:ev ρ x=.int k a) (hy:ev ρ y=.int k b) (h:a=b):(execOp (ev ρ) ⟨d,.binOp .neq t x y u,ty,pos,af,g⟩).run P w=.ok (.value (.bool false)) w:=
 nE hx hy (by simp [Op.intCmp,h]) (by simp)
theorem H0 (hx:ev ρ x=.int k a) (hy:ev ρ y=.int k b):(execOp (ev ρ) ⟨d,.binOp .eql t x y u,ty,pos,af,g⟩).run P w=.ok (.value (.bool (decide (a=b)))) w:=
 nE hx hy (by simp [Op.intCmp];rw [Bool.eq_iff_iff];simp) (by simp)
theorem RF (hx:ev ρ x=.int k a):(execOp (ev ρ) ⟨d,.unOp .neg t x,ty,pos,af,g⟩).run P w=.ok (.value (.int k (k.wrap (-a)))) w:=by
 simp [execOp,hx,Op.unary,Op.intArith]
theorem kS {n:Int} (h1: -9223372036854775808≤n) (h2:n≤9223372036854775807):IntKind.i64.wrap n=n:=IntWalk.i64_in n ⟨h1,h2⟩
theorem OL (hx:ev ρ x=.int .i64 a) (hy:ev ρ y=.int .i64 b) (h1: -9223372036854775808≤a+b) (h2:a+b≤9223372036854775807):(execOp (ev ρ) ⟨d,.binOp .add t x y u,ty,pos,af,g⟩).run P w=.ok (.value (.int .i64 (a+b))) w:=by
 rw [Rn hx hy,kS h1 h2]
theorem M4 (hx:ev ρ x=.int .i64 a) (hy:ev ρ y=.int .i64 b) (h1: -9223372036854775808≤a-b) (h2:a-b≤9223372036854775807):(execOp (ev ρ) ⟨d,.binOp .sub t x y u,ty,pos,af,g⟩).run P w=.ok (.value (.int .i64 (a-b))) w:=by
 rw [Se hx hy,kS h1 h2]
theorem Mk (hx:ev ρ x=.int .i64 a) (hy:ev ρ y=.int .i64 b) (h1: -9223372036854775808≤a*b) (h2:a*b≤9223372036854775807):(execOp (ev ρ) ⟨d,.binOp .mul t x y u,ty,pos,af,g⟩).run P w=.ok (.value (.int .i64 (a*b))) w:=by
 rw [RY hx hy,kS h1 h2]
theorem ND (hx:ev ρ x=.int .i64 a) (h1: -9223372036854775808≤ -a) (h2: -a≤9223372036854775807):(execOp (ev ρ) ⟨d,.unOp .neg t x,ty,pos,af,g⟩).run P w=.ok (.value (.int .i64 (-a))) w:=by
 rw [RF hx,kS h1 h2]
theorem wu (hx:ev ρ x=.int .i64 a) (hy:ev ρ y=.int .i64 b) (ha:0≤a) (hb:0<b) (h2:a≤9223372036854775807):(execOp (ev ρ) ⟨d,.binOp .quo t x y u,ty,pos,af,g⟩).run P w=.ok (.value (.int .i64 (a/b))) w:=by
 have h3:a/b≤a:=Int.ediv_le_self b ha;have h4:0≤a/b:=Int.ediv_nonneg ha Yo;rw [SY hx hy Yo,Int.tdiv_eq_ediv_of_nonneg ha,kS Yo Yo]
theorem pX (hx:ev ρ x=.int .i64 a) (hy:ev ρ y=.int .i64 b) (ha:0≤a) (hb:0<b):(execOp (ev ρ) ⟨d,.binOp .rem t x y u,ty,pos,af,g⟩).run P w=.ok (.value (.int .i64 (a % b))) w:=by
 rw [Rz hx hy Yo,Int.tmod_eq_emod_of_nonneg ha]
end ints
theorem Rc {t:TypeId}{x:Operand}{b:Bool} (hx:ev ρ x=.bool b):(execOp (ev ρ) ⟨d,.unOp .not t x,ty,pos,af,g⟩).run P w=.ok (.value (.bool !b)) w:=by
 simp [execOp,hx,Op.unary]
section bools
variable {t u:TypeId}{x y:Operand}{a b:Bool}
theorem Am (n:Nat) (ht:P.underlying t=some .bool):(Op.equalIn (n+1) t (.bool a) (.bool b)).run P w=.ok (a==b) w:=by
 simp [Op.equalIn,run_underlying ht]
theorem wL (ht:P.underlying t=some .bool):(Op.equal t (.bool a) (.bool b)).run P w=.ok (a==b) w:=Am 9999 ht
theorem wa (ht:P.underlying t=some .bool):(binOp .eql t (.bool a) (.bool b)).run P w=.ok (.bool (a==b)) w:=by
 simp only [binOp];simp [wL ht]
theorem wY (ht:P.underlying t=some .bool):(binOp .neq t (.bool a) (.bool b)).run P w=.ok (.bool (a !=b)) w:=by
 simp only [binOp];simp [wL ht,bne]
theorem vn (ht:P.underlying t=some .bool) (hx:ev ρ x=.bool a) (hy:ev ρ y=.bool b):(execOp (ev ρ) ⟨d,.binOp .eql t x y u,ty,pos,af,g⟩).run P w=.ok (.value (.bool (a==b))) w:=by
 simp only [execOp,hx,hy,eqGuard];simp [wa ht]
theorem mw (ht:P.underlying t=some .bool) (hx:ev ρ x=.bool a) (hy:ev ρ y=.bool b):(execOp (ev ρ) ⟨d,.binOp .neq t x y u,ty,pos,af,g⟩).run P w=.ok (.value (.bool (a !=b))) w:=by
 simp only [execOp,hx,hy,eqGuard];simp [wY ht]
end bools
section Dj
variable {t u:TypeId}{x y:Operand}{a b:ByteArray}
theorem DB {op:BinOp}:(eqGuard op t x y (.string a) (.string b)).run P w=.ok () w:=by
 unfold eqGuard;cases op<;>simp
theorem De {op:BinOp}{r:Value} (hx:ev ρ x=.string a) (hy:ev ρ y=.string b) (hs:op≠.shl∧op≠.shr) (hop:(Op.stringOp op a b).run P w=.ok r w):
  (execOp (ev ρ) ⟨d,.binOp op t x y u,ty,pos,af,g⟩).run P w=.ok (.value r) w:=by
 cases op<;>simp_all [execOp,DB,binOp]
theorem zd (hx:ev ρ x=.string a) (hy:ev ρ y=.string b):(execOp (ev ρ) ⟨d,.binOp .eql t x y u,ty,pos,af,g⟩).run P w=.ok (.value (.bool (a.toList==b.toList))) w:=
 De hx hy (by simp) (by simp [Op.stringOp])
theorem yZ (hx:ev ρ x=.string a) (hy:ev ρ y=.string b):(execOp (ev ρ) ⟨d,.binOp .neq t x y u,ty,pos,af,g⟩).run P w=.ok (.value (.bool !(a.toList==b.toList))) w:=
 De hx hy (by simp) (by simp [Op.stringOp])
theorem Oh {a b:ByteArray}:(a.toList==b.toList)=decide (a=b):=by
 have key:∀s:ByteArray,s.toList=s.data.toList:=fun s=>by
  exact Vt
 rw [Bool.eq_iff_iff,Z6,YX,key,key];constructor
 ·intro h;cases a;cases b;congr 1;exact Array.ext' h
 ·intro h;rw [h]
theorem BT (hx:ev ρ x=.string a) (hy:ev ρ y=.string b) (h:a=b):(execOp (ev ρ) ⟨d,.binOp .eql t x y u,ty,pos,af,g⟩).run P w=.ok (.value (.bool true)) w:=by
 rw [zd hx hy,Oh];simp [h]
theorem Ee (hx:ev ρ x=.string a) (hy:ev ρ y=.string b) (h:¬a=b):(execOp (ev ρ) ⟨d,.binOp .eql t x y u,ty,pos,af,g⟩).run P w=.ok (.value (.bool false)) w:=by
 rw [zd hx hy,Oh];simp [h]
theorem Cd (hx:ev ρ x=.string a) (hy:ev ρ y=.string b) (h:¬a=b):(execOp (ev ρ) ⟨d,.binOp .neq t x y u,ty,pos,af,g⟩).run P w=.ok (.value (.bool true)) w:=by
 rw [yZ hx hy,Oh];simp [h]
theorem Eb (hx:ev ρ x=.string a) (hy:ev ρ y=.string b) (h:a=b):(execOp (ev ρ) ⟨d,.binOp .neq t x y u,ty,pos,af,g⟩).run P w=.ok (.value (.bool false)) w:=by
 rw [yZ hx hy,Oh];simp [h]
theorem Jg (hx:ev ρ x=.string a) (hy:ev ρ y=.string b):(execOp (ev ρ) ⟨d,.binOp .lss t x y u,ty,pos,af,g⟩).run P w=.ok (.value (.bool (Op.bytesLess a.toList b.toList))) w:=
 De hx hy (by simp) (by simp [Op.stringOp])
theorem KE (hx:ev ρ x=.string a) (hy:ev ρ y=.string b):(execOp (ev ρ) ⟨d,.binOp .gtr t x y u,ty,pos,af,g⟩).run P w=.ok (.value (.bool !(Op.bytesLess a.toList b.toList||a.toList==b.toList))) w:=
 De hx hy (by simp) (by simp [Op.stringOp])
theorem Jy (hx:ev ρ x=.string a) (hy:ev ρ y=.string b):(execOp (ev ρ) ⟨d,.binOp .geq t x y u,ty,pos,af,g⟩).run P w=.ok (.value (.bool !(Op.bytesLess a.toList b.toList))) w:=
 De hx hy (by simp) (by simp [Op.stringOp])
end Dj
theorem mU {s t:TypeId}{x:Operand}{k k':IntKind}{a:Int}{sd:TypeDesc} (hs:P.underlying s=some sd) (ht:P.underlying t=some (.int k)) (hx:ev ρ x=.int k' a):
  (execOp (ev ρ) ⟨d,.convert s t x,ty,pos,af,g⟩).run P w=.ok (.value (.int k (k.wrap a))) w:=by
 simp [execOp,hx,convert,run_underlying hs,run_underlying ht,Conv.intToInt]
theorem Gr {s t:TypeId}{x:Operand}{k':IntKind}{a:Int}{sd:TypeDesc} (hs:P.underlying s=some sd) (ht:P.underlying t=some (.int .i64)) (hx:ev ρ x=.int k' a) (h1: -9223372036854775808≤a) (h2:a≤9223372036854775807):
  (execOp (ev ρ) ⟨d,.convert s t x,ty,pos,af,g⟩).run P w=.ok (.value (.int .i64 a)) w:=by
 rw [mU hs ht hx,kS h1 h2]
theorem eM {x:Operand}{i:Nat}{vs:List Value}{v:Value} (hx:ev ρ x=.tuple vs.toArray) (hv:vs[i]?=some v):
  (execOp (ev ρ) ⟨d,.extract x i,ty,pos,af,g⟩).run P w=.ok (.value v) w:=by
 simp [execOp,hx,Instr.extract,hv]
def yg (ρ:Rf):List Operand→List Value
 |[]=>[]
 |x::l=>ev ρ x::yg ρ l
theorem oT {ρ:Rf} (args:Array Operand) {vs:List Value} (h:yg ρ args.toList=vs):args.map (ev ρ)=vs.toArray:=by
 have h1:∀l:List Operand,l.map (ev ρ)=yg ρ l:=by
  intro l
  induction l with
  |nil=>rfl
  |cons a l ih=>simp only [Y6,ih];rfl
 subst h;rw [←h1];apply Array.ext';simp
theorem qw {fn:Fn}{first captured:Array Operand}{fs cs:List Value} (hf:yg ρ first.toList=fs) (hc:yg ρ captured.toList=cs):
  (execOp (ev ρ) ⟨d,.makeFunc fn first captured,ty,pos,af,g⟩).run P w=.ok (.value (.func fn fs.toArray cs.toArray)) w:=by
 simp [execOp,oT _ hf,oT _ hc,Instr.makeFunc]
theorem fg {i:Nat}{k:IntKind}{n:Int} (h:ρ i=.int k n):ρ i=.int k n:=h
theorem l4 {i:Nat}{b:Bool} (h:ρ i=.bool b):ρ i=.bool b:=h
theorem zN {i:Nat}{s:ByteArray} (h:ρ i=.string s):ρ i=.string s:=h
theorem J8 {i:Nat}{A:Option Addr}{n c:Nat} (h:ρ i=.slice A n c):ρ i=.slice A n c:=h
theorem dt {x:Operand}{k:IntKind}{n:Int} (h:ev ρ x=.int k n):ev ρ x=.int k n:=h
theorem uh {x:Operand}{b:Bool} (h:ev ρ x=.bool b):ev ρ x=.bool b:=h
theorem MR {x:Operand}{s:ByteArray} (h:ev ρ x=.string s):ev ρ x=.string s:=h
theorem GV {x:Operand}{A:Option Addr}{n c:Nat} (h:ev ρ x=.slice A n c):ev ρ x=.slice A n c:=h
theorem FR {x:Operand}{a:Addr} (h:ev ρ x=.pointer (some a)):ev ρ x=.pointer (some a):=h
theorem gl {x:Operand}{l:List Value} (h:ev ρ x=.agg l.toArray):ev ρ x=.agg l.toArray:=h
theorem T5 {x:Operand}{l:List Value} (h:ev ρ x=.tuple l.toArray):ev ρ x=.tuple l.toArray:=h
theorem uF {x:Operand}{f:Fn}{a b:List Value} (h:ev ρ x=.func f a.toArray b.toArray):ev ρ x=.func f a.toArray b.toArray:=h
theorem ur {x:Operand} (h:ev ρ x=.nilFunc):ev ρ x=.nilFunc:=h
theorem KO {x:Operand}{t:TypeId}{s:ByteArray} (ht:P.underlying t=some .string) (hx:ev ρ x=.string s):
  (execOp (ev ρ) ⟨d,.call ⟨.builtin .len, #[x], #[t]⟩,ty,pos,af,g⟩).run P w=.ok (.value (.int .i64 s.size)) w:=by
 simp [execOp,resolve,invoke,builtin,Builtin.len_,hx,run_underlying ht,goInt]
theorem CZ {x:Operand}{t e:TypeId}{A:Option Addr}{n c:Nat} (ht:P.underlying t=some (.slice e)) (hx:ev ρ x=.slice A n c):
  (execOp (ev ρ) ⟨d,.call ⟨.builtin .len, #[x], #[t]⟩,ty,pos,af,g⟩).run P w=.ok (.value (.int .i64 n)) w:=by
 simp [execOp,resolve,invoke,builtin,Builtin.len_,hx,run_underlying ht,goInt]
theorem Tb {x y:Operand}{ts:Array TypeId}{k:IntKind}{a b:Int} (hx:ev ρ x=.int k a) (hy:ev ρ y=.int k b):
  (execOp (ev ρ) ⟨d,.call ⟨.builtin .min, #[x,y],ts⟩,ty,pos,af,g⟩).run P w=.ok (.value (.int k (if b<a then b else a))) w:=by
 simp [execOp,resolve,invoke,builtin,Builtin.min_,Builtin.min2,hx,hy,List.foldlM]
theorem RQ {x y:Operand}{ts:Array TypeId}{k:IntKind}{a b:Int} (hx:ev ρ x=.int k a) (hy:ev ρ y=.int k b):
  (execOp (ev ρ) ⟨d,.call ⟨.builtin .max, #[x,y],ts⟩,ty,pos,af,g⟩).run P w=.ok (.value (.int k (if b>a then b else a))) w:=by
 simp [execOp,resolve,invoke,builtin,Builtin.max_,Builtin.max2,hx,hy,List.foldlM]
theorem tG {t:TypeId}{x i:Operand}{s:ByteArray}{n:Int}{k:IntKind}{c:UInt8} (ht:P.underlying t=some .string) (hx:ev ρ x=.string s) (hi:ev ρ i=.int k n)
  (h0:0≤n) (hc:s.data.toList[n.toNat]?=some c):(execOp (ev ρ) ⟨d,.index t x i,ty,pos,af,g⟩).run P w=.ok (.value (.int .u8 c.toNat)) w:=by
 have hs:s[n.toNat]?=some c:=by
  rw [←hc];obtain ⟨h1,h2⟩:=YL.1 hc;have h3:n.toNat<s.size:=by simpa using h1
  rw [getElem?_pos s n.toNat h3,getElem?_pos s.data.toList n.toNat h1]
  rfl
 simp [execOp,hx,hi,Instr.index,asIntOf,run_underlying ht,h0,hs]
theorem Di {t:TypeId}{x:Operand}{lo hi:Option Operand}{s:ByteArray}{l h:Nat} (ht:P.underlying t=some .string) (hx:ev ρ x=.string s)
  (hlo:match lo with|none=>l=0|some o=>∃(k:IntKind) (n:Int),ev ρ o=.int k n∧n=l) (hhi:match hi with|none=>h=s.size|some o=>∃(k:IntKind) (n:Int),ev ρ o=.int k n∧n=h)
  (h1:l≤h) (h2:h≤s.size):(execOp (ev ρ) ⟨d,.slice t x lo hi none,ty,pos,af,g⟩).run P w=.ok (.value (.string (s.extract l h))) w:=by
 have e1:(l:Int)≤h:=Yo;have e2:(h:Int)≤s.size:=Yo
 cases lo<;>cases hi<;>simp only [] at hlo hhi
 ·subst hlo;subst hhi;simp [execOp,hx,Instr.sliceAt,Instr.slice,run_underlying ht,Instr.sliceBounds]
 ·obtain ⟨k2,n2,hv2,rfl⟩:=hhi;subst hlo;simp [execOp,hx,Instr.sliceAt,Instr.slice,run_underlying ht,Instr.sliceBounds,Instr.sliceBound,asIntOf,hv2,h2]
 ·obtain ⟨k2,n2,hv2,rfl⟩:=hlo;subst hhi;simp [execOp,hx,Instr.sliceAt,Instr.slice,run_underlying ht,Instr.sliceBounds,Instr.sliceBound,asIntOf,hv2,h1]
 ·obtain ⟨k2,n2,hv2,rfl⟩:=hhi;obtain ⟨k3,n3,hv3,rfl⟩:=hlo;simp [execOp,hx,Instr.sliceAt,Instr.slice,run_underlying ht,Instr.sliceBounds,Instr.sliceBound,asIntOf,hv2,hv3,h1,h2]
theorem jn {t e:TypeId}{x:Operand}{lo hi:Option Operand}{A:Option Addr}{n c l h sz:Nat} (ht:P.underlying t=some (.slice e)) (hsz:(P.info? e).map (·.size)=some sz) (hx:ev ρ x=.slice A n c)
  (hlo:match lo with|none=>l=0|some o=>∃(k:IntKind) (n:Int),ev ρ o=.int k n∧n=l) (hhi:match hi with|none=>h=n|some o=>∃(k:IntKind) (n:Int),ev ρ o=.int k n∧n=h)
  (h1:l≤h) (h2:h≤c):(execOp (ev ρ) ⟨d,.slice t x lo hi none,ty,pos,af,g⟩).run P w=.ok (.value (.slice (if c=l then A else A.map (·.add (l*sz))) (h-l) (c-l))) w:=by
 obtain ⟨i,hi1,hi2⟩:=aay.1 hsz;have e1:(l:Int)≤h:=Yo;have e2:(h:Int)≤c:=Yo
 cases lo<;>cases hi<;>simp only [] at hlo hhi
 ·subst hlo;subst hhi;simp [execOp,hx,Instr.sliceAt,Instr.slice,run_underlying ht,Instr.sliceBounds,sizeOf,typeInfo,hi1]
 ·obtain ⟨k2,n2,hv2,rfl⟩:=hhi;subst hlo;simp [execOp,hx,Instr.sliceAt,Instr.slice,run_underlying ht,Instr.sliceBounds,Instr.sliceBound,asIntOf,hv2,h2,sizeOf,typeInfo,hi1]
 ·obtain ⟨k2,n2,hv2,rfl⟩:=hlo;subst hhi;simp [execOp,hx,Instr.sliceAt,Instr.slice,run_underlying ht,Instr.sliceBounds,Instr.sliceBound,asIntOf,hv2,h1,sizeOf,typeInfo,hi1,hi2]
 ·obtain ⟨k2,n2,hv2,rfl⟩:=hhi;obtain ⟨k3,n3,hv3,rfl⟩:=hlo;simp [execOp,hx,Instr.sliceAt,Instr.slice,run_underlying ht,Instr.sliceBounds,Instr.sliceBound,asIntOf,hv2,hv3,h1,h2,sizeOf,typeInfo,hi1,hi2]
theorem ew {t e:TypeId}{x i:Operand}{ad:Addr}{n c sz:Nat}{k:IntKind}{m:Int} (ht:P.underlying t=some (.slice e)) (hsz:(P.info? e).map (·.size)=some sz) (hx:ev ρ x=.slice (some ad) n c) (hi:ev ρ i=.int k m)
  (h0:0≤m) (h1:m<n):(execOp (ev ρ) ⟨d,.indexAddr t x i,ty,pos,af,g⟩).run P w=.ok (.value (.pointer (some (ad.add (m.toNat*sz))))) w:=by
 obtain ⟨i,hi1,hi2⟩:=aay.1 hsz;simp [execOp,hx,hi,Instr.indexAt,asIntOf,run_underlying ht,sizeOf,typeInfo,hi1,hi2,h0,h1]
theorem vH {t e:TypeId}{x i:Operand}{b n c sz k:Nat}{kk:IntKind}{m:Int} (ht:P.underlying t=some (.slice e)) (hsz:(P.info? e).map (·.size)=some sz) (hx:ev ρ x=.slice (some ⟨b,0,none⟩) n c) (hi:ev ρ i=.int kk m)
  (hm:m=(k:Int)) (h1:k<n):(execOp (ev ρ) ⟨d,.indexAddr t x i,ty,pos,af,g⟩).run P w=.ok (.value (.pointer (some ⟨b,k*sz,none⟩))) w:=by
 have h:=ew (P:=P) (w:=w) (d:=d) (ty:=ty) (pos:=pos) (af:=af) (g:=g) ht hsz hx hi Yo Yo;rw [h,hm];have:(⟨b,0,none⟩:Addr).add (((k:Int)).toNat*sz)=⟨b,k*sz,none⟩:=by
  unfold Addr.add;split
  ·rename_i h0;rw [ZY] at h0;rw [h0]
  ·rw [ZY];simp
 rw [this]
theorem M5 {x:Operand}{args:Array Operand}{ts:Array TypeId}{f:FuncId}{fn:Func}{first cap:Array Value}{vs:Array Value} (hf:P.funcs[f]?=some fn) (hb:fn.body.isNone=false) (hn:(fn.name== "runtime.NumGoroutine")=false)
  (hx:ev ρ x=.func (.func f) first cap) (ha:args.map (ev ρ)=vs):(execOp (ev ρ) ⟨d,.call ⟨.value x,args,ts⟩,ty,pos,af,g⟩).run P w=.ok (.enter f (first++vs++cap)) w:=by
 have h1:¬fn.name= "runtime.NumGoroutine" :=by simpa using hn
 have h2:¬fn.body=none:=by intro h;simp [h] at hb
 simp [execOp,resolve,Deferred.ofValue,hx,ha,invoke,callFunc,program,Sem.run,hf,h1,h2]
end
def eu (P:Program) (t:TypeId):Option (Nat×Bool×Nat×List Value):=
 match P.info? t,P.underlying t with
 |some i,some d=>i.zero.map fun z=>(i.size,(match d with|.struct _|.array _ _=>true|_=>false),i.bytes,z.cells.toList)
 |_,_=>none
theorem gW {P:Program}{t:TypeId}{n by':Nat}{ag:Bool}{zc:List Value} (h:eu P t=some (n,ag,by',zc)):
  ∃i z d,P.info? t=some i∧P.underlying t=some d∧i.zero=some z∧i.size=n∧i.bytes=by'∧z.cells=zc.toArray∧(match d with|.struct _|.array _ _=>true|_=>false)=ag:=by
 unfold eu at h;split at h
 ·rename_i i d hi hd;obtain ⟨z,hz,he⟩:=aay.1 h;simp only [Prod.mk.injEq] at he;exact ⟨i,z,d,hi,hd,hz,he.1,he.2.2.1,by rw [←he.2.2.2],he.2.1⟩
 ·cases h
section
variable {P:Program}{w:World}{t:TypeId}{n by':Nat}{ag:Bool}{zc:List Value}
theorem fT (h:eu P t=some (n,ag,by',zc)):(sizeOf t).run P w=.ok n w:=by
 obtain ⟨i,z,d,hi,hd,hz,hs,_⟩:=gW h;simp [sizeOf,typeInfo,hi,hs]
theorem jZ (h:eu P t=some (n,ag,by',zc)):(isAgg t).run P w=.ok ag w:=by
 obtain ⟨i,z,d,hi,hd,hz,hs,_,_,ha⟩:=gW h;simp only [isAgg,Sem.run_bind,run_underlying hd,Result.andThen_ok];subst ha
 cases d<;>rfl
theorem fF (h:eu P t=some (n,ag,by',zc)):∃z,(zeroValue t).run P w=.ok z w∧z.cells=zc.toArray:=by
 obtain ⟨i,z,d,hi,hd,hz,hs,_,hc,_⟩:=gW h;exact ⟨z,by simp [zeroValue,typeInfo,hi,hz],hc⟩
end
def Rd (w:World) (ad:Addr) (vs:List Value):Prop:=∀j u,vs[j]?=some u→w.cell? (ad.add j)=some u
def Sl (w:World) (A:Option Addr) (n k:Nat) (xs:List Value):Prop:=xs.length=n*k∧(0<n→∃ad,A=some ad∧Rd w ad xs)
theorem fw (b o n:Nat):(⟨b,o,none⟩:Addr).add n=⟨b,o+n,none⟩:=by
 unfold Addr.add;split
 ·rename_i h;subst h;rfl
 ·rfl
theorem mP (a:Addr) (i j:Nat):(a.add i).add j=a.add (i+j):=by
 unfold Addr.add;by_cases hi:i=0<;>by_cases hj:j=0<;>simp [hi,hj,abc]
theorem lC {w:World}{a:Addr}{v:Value} (h:w.cell? a=some v):a.block<w.heap.size:=block_lt_of_cell h
theorem cn {w w':World} (h:Below w.heap.size w w') {a:Addr}{v:Value} (hc:w.cell? a=some v):w'.cell? a=some v:=(h.cell (lC hc)).trans hc
theorem Rd.ext {w w':World}{ad:Addr}{vs:List Value} (h:Rd w ad vs) (hb:Below w.heap.size w w'):Rd w' ad vs:=fun j u hu=>cn hb (h j u hu)
theorem Sl.ext {w w':World}{A:Option Addr}{n k:Nat}{xs:List Value} (h:Sl w A n k xs) (hb:Below w.heap.size w w'):Sl w' A n k xs:=
 ⟨h.1,fun hn=>let ⟨ad,ha,hr⟩:=h.2 hn;⟨ad,ha,hr.ext hb⟩⟩
theorem Rd.drop {w:World}{ad:Addr}{vs:List Value} (h:Rd w ad vs) (i:Nat):Rd w (ad.add i) (vs.drop i):=fun j u hu=>by
 rw [mP];exact h _ u (by rw [←hu,ZW])
theorem Rd.take {w:World}{ad:Addr}{vs:List Value} (h:Rd w ad vs) (n:Nat):Rd w ad (vs.take n):=fun j u hu=>by
 rw [ZX] at hu;split at hu
 ·exact h _ u hu
 ·cases hu
theorem Rd.cell {w:World}{ad:Addr}{vs:List Value} (h:Rd w ad vs) {i:Nat}{v:Value} (hv:vs[i]?=some v):w.cell? (ad.add i)=some v:=h i v hv
theorem Sl.nil (w:World) (A:Option Addr) (k:Nat):Sl w A 0 k []:=⟨by simp,fun h=>absurd h Yo⟩
theorem Sl.at_ {w:World}{A:Option Addr}{n k:Nat}{xs:List Value} (h:Sl w A n k xs) (hn:0<n):∃ad,A=some ad∧Rd w ad xs:=h.2 hn
theorem Rd.elem {w:World}{ad:Addr}{xs:List Value} (h:Rd w ad xs) (i k:Nat):Rd w (ad.add (i*k)) ((xs.drop (i*k)).take k):=(h.drop _).take _
theorem Sl.cut {w:World}{A:Option Addr}{n k c l m:Nat}{xs:List Value} (h:Sl w A n k xs) (hl:l≤m) (hm:m≤n) (hc:n≤c):
  Sl w (if c=l then A else A.map (·.add (l*k))) (m-l) k ((xs.drop (l*k)).take ((m-l)*k)):=by
 have hle:l*k+(m-l)*k≤n*k:=by
  rw [←aaJ];exact Zo _ Yo
 refine ⟨by rw [YM,Zz,h.1];omega,fun hn=> ?_⟩;obtain ⟨ad,rfl,hr⟩:=h.2 Yo;rw [Yu Yo];exact ⟨_,rfl,(hr.drop _).take _⟩
inductive HE where
 |blk (b:Nat) (t:TypeId) (cs:List Value) (fz:Nat×Nat)
 |row (A:Option Addr) (n c:Nat) (t:TypeId) (sz:Nat) (xs:List Value)
 |ob (b:Nat) (o:Obj)
abbrev HE.it (b:Nat) (s:ByteArray) (pos:Nat):HE:=.ob b (.stringIter s pos)
def HE.id:HE→Option Nat
 |.blk b _ _ _=>some b
 |.row A _ _ _ _ _=>A.map (·.block)
 |.ob b _=>some b
def HE.holds (base:Nat) (w:World):HE→Prop
 |.blk b t cs fz=>base≤b∧w.heap[b]?=some (.cells cs.toArray t fz)∧(cs.length≤fz.1∨fz.2≤fz.1)
 |.row A n c t sz xs=>w.ownsRow base t sz (.slice A n c) n xs
 |.ob b o=>base≤b∧w.heap[b]?=some o
structure Hp (w0:World) (H:List HE) (w:World):Prop where
 below:Below w0.heap.size w0 w
 own:∀x∈H,x.holds w0.heap.size w
 nd:(H.filterMap HE.id).Nodup
section
variable {w0 w w':World}{H:List HE}
theorem Hp.start (w:World):Hp w [] w:=⟨Below.refl _ _,fun _ h=>(nomatch h),List.nodup_nil⟩
theorem Hp.size (h:Hp w0 H w):w0.heap.size≤w.heap.size:=h.below.size
theorem eU {base:Nat}{x:HE} (h:x.holds base w) {b:Nat} (hb:x.id=some b):base≤b∧b<w.heap.size:=by
 cases x with
 |blk b' t cs fz=>
  obtain rfl:b'=b:=by simpa [HE.id] using hb
  refine ⟨h.1, ?_⟩
  rcases Zb b' w.heap.size with hlt|hge
  ·exact hlt
  ·have:=h.2.1;rw [abk hge] at this;cases this
 |row A n c t sz xs=>
  cases A with
  |none=>simp [HE.id] at hb
  |some a=>exact World.ownsRow.lt h b (by simpa [HE.id,Value.ownBlock] using hb)
 |ob b' o=>
  obtain rfl:b'=b:=by simpa [HE.id] using hb
  refine ⟨h.1, ?_⟩
  rcases Zb b' w.heap.size with hlt|hge
  ·exact hlt
  ·have:=h.2;rw [abk hge] at this;cases this
theorem pY {base:Nat}{x:HE} (h:x.holds base w) (hk:∀b,x.id=some b→w'.heap[b]?=w.heap[b]?):x.holds base w':=by
 cases x with
 |blk b t cs fz=>exact ⟨h.1,(hk b rfl).trans h.2.1,h.2.2⟩
 |row A n c t sz xs=>
  obtain ⟨h1,h2⟩:=h;refine ⟨h1, ?_⟩
  rcases h2 with h2|⟨g,cap,cur,hv,hg,hh,r⟩
  ·exact .inl h2
  ·have hA:A=some ⟨g,0,none⟩:=by injection hv
   subst hA;exact .inr ⟨g,cap,cur,hv,hg,(hk g rfl).trans hh,r⟩
 |ob b o=>exact ⟨h.1,(hk b rfl).trans h.2⟩
theorem Hp.ext (h:Hp w0 H w) (hb:Below w.heap.size w w'):Hp w0 H w':=
 ⟨h.below.trans (hb.mono h.size),fun x hx=>pY (h.own x hx) fun _ hi=>hb.block _ (eU (h.own x hx) hi).2,h.nd⟩
theorem Hp.sub (h:Hp w0 H w) {H':List HE} (hs:H'.Sublist H):Hp w0 H' w:=⟨h.below,fun x hx=>h.own x (hs.subset hx),h.nd.sublist (hs.filterMap _)⟩
theorem Hp.at_ (h:Hp w0 H w) {i:Nat}{x:HE} (hi:H[i]?=some x):x.holds w0.heap.size w:=h.own x (Yy hi)
theorem Hp.aP (h:Hp w0 H w) (hb:Below w.heap.size w w') {x:HE} (hx:x.holds w.heap.size w'):Hp w0 (x::H) w':=by
 have h':=h.ext hb;refine ⟨h'.below, ?_, ?_⟩
 ·intro y hy
  rcases YH.1 hy with rfl|hy
  ·cases y with
   |blk b t cs fz=>exact ⟨Y1 h.size hx.1,hx.2⟩
   |row A n c t sz xs=>
    obtain ⟨h1,h2⟩:=hx;exact ⟨h1,h2.imp id fun ⟨g,cap,cur,hv,hg,r⟩=>⟨g,cap,cur,hv,Y1 h.size hg,r⟩⟩
   |ob b o=>exact ⟨Y1 h.size hx.1,hx.2⟩
  ·exact h'.own y hy
 ·rw [Z4];split
  ·exact h'.nd
  ·rename_i b hb';refine aaa.2 ⟨fun hm=> ?_,h'.nd⟩;obtain ⟨y,hy,hyb⟩:=ZE.1 hm;have h1:=(eU hx hb').1;have h2:=(eU (h.own y hy) hyb).2;omega
theorem Hp.LY (h:Hp w0 H w) {i:Nat}{x y:HE} (hi:H[i]?=some x) (hid:∀b,y.id=some b→x.id=some b∨w.heap.size≤b)
  (hb:Below w0.heap.size w0 w') (hk:∀b,b<w.heap.size→x.id≠some b→w'.heap[b]?=w.heap[b]?) (hy:y.holds w0.heap.size w'):Hp w0 (H.set i y) w':=by
 obtain ⟨hlt,hx⟩:=YL.1 hi;have hsplit:H=H.take i++x::H.drop (i+1):=by
  rw [←hx,←aal hlt,Zy]
 have hset:H.set i y=H.take i++y::H.drop (i+1):=by rw [abO,Yt hlt]
 have hnd:=h.nd;rw [hsplit,aaZ] at hnd;have hother:∀z,z∈H.take i∨z∈H.drop (i+1)→z∈H∧(∀b,z.id=some b→x.id≠some b):=by
  intro z hz;refine ⟨hz.elim aad abG,fun b hzb hxb=> ?_⟩;rw [Z4,hxb] at hnd;simp only [] at hnd;rw [abv] at hnd
  rcases hz with hz|hz
  ·exact hnd.2.2 b (ZE.2 ⟨z,hz,hzb⟩) b (YD) rfl
  ·exact (aaa.1 hnd.2.1).1 (ZE.2 ⟨z,hz,hzb⟩)
 have hold:∀z,z∈H.take i∨z∈H.drop (i+1)→z.holds w0.heap.size w':=fun z hz=>by
  obtain ⟨hm,hne⟩:=hother z hz;exact pY (h.own z hm) fun b hzb=>hk b (eU (h.own z hm) hzb).2 (hne b hzb)
 rw [hset];refine ⟨hb, ?_, ?_⟩
 ·intro z hz
  rcases Zm.1 hz with hz|hz
  ·exact hold z (.inl hz)
  ·rcases YH.1 hz with rfl|hz
   ·exact hy
   ·exact hold z (.inr hz)
 ·rw [aaZ];have hsub:((H.take i).filterMap HE.id++(H.drop (i+1)).filterMap HE.id).Nodup:=by
   refine hnd.sublist (List.Sublist.append (Zq _) ?_);exact List.Sublist.filterMap _ (Zc _ _)
  rw [Z4];split
  ·exact hsub
  ·rename_i b hyb;have hfresh:∀z,z∈H.take i∨z∈H.drop (i+1)→z.id≠some b:=fun z hz hzb=>by
    obtain ⟨hm,hne⟩:=hother z hz
    rcases hid b hyb with h1|h1
    ·exact hne b hzb h1
    ·have:=(eU (h.own z hm) hzb).2;omega
   rw [abv] at hsub ⊢;refine ⟨hsub.1,aaa.2 ⟨fun hm=> ?_,hsub.2.1⟩,fun u hu v hv=> ?_⟩
   ·obtain ⟨z,hz,hzb⟩:=ZE.1 hm;exact hfresh z (.inr hz) hzb
   ·rcases YH.1 hv with rfl|hv
    ·rintro rfl;obtain ⟨z,hz,hzb⟩:=ZE.1 hu;exact hfresh z (.inl hz) hzb
    ·exact hsub.2.2 u hu v hv
end
section
variable {w0 w w':World}{H:List HE}
theorem Hp.KX (h:Hp w0 H w) {i b:Nat}{t:TypeId}{cs:List Value}{fz:Nat×Nat} (hi:H[i]?=some (.blk b t cs fz)):Rd w ⟨b,0,none⟩ cs:=fun j u hu=>by
 have h1:=(h.at_ hi).2.1;rw [fw,YZ,cell_of_row w b j _ t fz h1];simpa using hu
theorem Hp.dk (h:Hp w0 H w) {i b o:Nat}{t:TypeId}{cs:List Value}{fz:Nat×Nat}{v:Value} (hi:H[i]?=some (.blk b t cs fz)) (hv:cs[o]?=some v):w.cell? ⟨b,o,none⟩=some v:=by
 have:=h.KX hi o v hv;rwa [fw,YZ] at this
theorem Hp.aQ (h:Hp w0 H w) {i b o n:Nat}{t:TypeId}{cs vs:List Value}{fz:Nat×Nat} (hi:H[i]?=some (.blk b t cs fz)) (hv:(cs.drop o).take n=vs):Rd w ⟨b,o,none⟩ vs:=by
 have:=((h.KX hi).drop o).take n;rwa [fw,YZ,hv] at this
theorem lz {base:Nat}{t:TypeId}{A:Option Addr}{n c sz:Nat}{xs:List Value} (h:w.ownsRow base t sz (.slice A n c) n xs):Sl w A n sz xs:=by
 refine ⟨h.1,fun hn=> ?_⟩;obtain ⟨g,cap,hv,_,hlt⟩:=h.form hn;have hA:A=some ⟨g,0,none⟩:=by injection hv
 subst hA;exact ⟨_,rfl,h.cells (g:=g) rfl⟩
theorem Hp.cq (h:Hp w0 H w) {i n c sz:Nat}{A:Option Addr}{t:TypeId}{xs:List Value} (hi:H[i]?=some (.row A n c t sz xs)) (hn:0<n):∃g,A=some ⟨g,0,none⟩:=by
 obtain ⟨g,cap,hv,_⟩:=World.ownsRow.form (h.at_ hi) hn;injection hv with hA
 exact ⟨g,hA⟩
theorem Hp.iC (h:Hp w0 H w) {i b n c sz o:Nat}{t:TypeId}{xs:List Value}{v:Value} (hi:H[i]?=some (.row (some ⟨b,0,none⟩) n c t sz xs)) (hv:xs[o]?=some v):w.cell? ⟨b,o,none⟩=some v:=by
 have:=World.ownsRow.cells (h.at_ hi) (g:=b) rfl o v hv;rwa [fw,YZ] at this
theorem Hp.QF (h:Hp w0 H w) {i n c sz:Nat}{A:Option Addr}{t:TypeId}{xs:List Value} (hi:H[i]?=some (.row A n c t sz xs)):xs.length=n*sz:=(h.at_ hi).1
theorem Hp.az (h:Hp w0 H w) {i n c sz:Nat}{A:Option Addr}{t:TypeId}{xs:List Value} (hi:H[i]?=some (.row A n c t sz xs)):Sl w A n sz xs:=lz (h.at_ hi)
end
section
variable {P:Program}{ρ:Rf}{w:World}{d:Option Nat}{ty:TypeId}{pos:String}{af:Array Edge}{g:Option (Nat×Bool)}
theorem Fe {t:TypeId}{x:Operand}{ad:Addr}{n by':Nat}{zc vs:List Value} (ht:eu P t=some (n,true,by',zc)) (hx:ev ρ x=.pointer (some ad)) (hr:Rd w ad vs) (hl:vs.length=n):
  (execOp (ev ρ) ⟨d,.load t x,ty,pos,af,g⟩).run P w=.ok (.value (.agg vs.toArray)) w:=by
 subst hl;simp [execOp,hx,Instr.loadAt,Instr.sureAddr,loadVar,jZ ht,fT ht,run_loadCells_list (P:=P) w ad vs hr]
theorem iL {t:TypeId}{x:Operand}{ad:Addr}{n by':Nat}{zc:List Value}{v:Value} (ht:eu P t=some (n,false,by',zc)) (hx:ev ρ x=.pointer (some ad)) (hc:w.cell? ad=some v):
  (execOp (ev ρ) ⟨d,.load t x,ty,pos,af,g⟩).run P w=.ok (.value v) w:=by
 simp [execOp,hx,Instr.loadAt,Instr.sureAddr,loadVar,jZ ht,run_load,hc]
theorem cf {t:TypeId}{ad:Addr}{n by':Nat}{zc vs:List Value} (ht:eu P t=some (n,true,by',zc)) (hr:Rd w ad vs) (hl:vs.length=n):
  (loadVar t ad).run P w=.ok (.agg vs.toArray) w:=by
 subst hl;simp [loadVar,jZ ht,fT ht,run_loadCells_list (P:=P) w ad vs hr]
def jd (P:Program) (s:TypeId) (i:Nat):Option (Nat×TypeId):=
 match P.underlying s with
 |some (.struct fs)=>match fs[i]? with
  |some f=>if P.cellsOf f.type=0 then none else some (f.offset,f.type)
  |none=>none
 |_=>none
theorem tM {s:TypeId}{x:Operand}{f b o off:Nat}{ft:TypeId} (hf:jd P s f=some (off,ft)) (hx:ev ρ x=.pointer (some ⟨b,o,none⟩)):
  (execOp (ev ρ) ⟨d,.fieldAddr s x f,ty,pos,af,g⟩).run P w=.ok (.value (.pointer (some ⟨b,o+off,none⟩))) w:=by
 unfold jd at hf;split at hf
 ·rename_i fs hs;split at hf
  ·rename_i fd hfd;split at hf
   ·cases hf
   ·rename_i hc;simp only [aag,Prod.mk.injEq] at hf;obtain ⟨rfl,rfl⟩:=hf;have hsz:∃i,P.info? fd.type=some i∧i.size≠0:=by
     exact Q7
    obtain ⟨i,hi,hi0⟩:=hsz;simp [execOp,hx,Instr.fieldAt,run_underlying hs,hfd,Instr.sureAddr,fieldPlace,sizeOf,typeInfo,hi,hi0,fw]
  ·cases hf
 ·cases hf
theorem q9 {s:TypeId}{x:Operand}{f off:Nat}{ad:Addr}{ft:TypeId} (hf:jd P s f=some (off,ft)) (hx:ev ρ x=.pointer (some ad)):
  (execOp (ev ρ) ⟨d,.fieldAddr s x f,ty,pos,af,g⟩).run P w=.ok (.value (.pointer (some (ad.add off)))) w:=by
 unfold jd at hf;split at hf
 ·rename_i fs hs;split at hf
  ·rename_i fd hfd;split at hf
   ·cases hf
   ·rename_i hc;simp only [aag,Prod.mk.injEq] at hf;obtain ⟨rfl,rfl⟩:=hf;have hsz:∃i,P.info? fd.type=some i∧i.size≠0:=by
     exact Q7
    obtain ⟨i,hi,hi0⟩:=hsz;simp [execOp,hx,Instr.fieldAt,run_underlying hs,hfd,Instr.sureAddr,fieldPlace,sizeOf,typeInfo,hi,hi0]
  ·cases hf
 ·cases hf
theorem Qk {s:TypeId}{x:Operand}{f off n by':Nat}{ft:TypeId}{cs vs:Array Value}{zc:List Value} (hf:jd P s f=some (off,ft)) (ht:eu P ft=some (n,true,by',zc)) (hx:ev ρ x=.agg cs) (hv:cs.extract off (off+n)=vs):
  (execOp (ev ρ) ⟨d,.field s x f,ty,pos,af,g⟩).run P w=.ok (.value (.agg vs)) w:=by
 unfold jd at hf;split at hf
 ·rename_i fs hs;split at hf
  ·rename_i fd hfd;split at hf
   ·cases hf
   ·simp only [aag,Prod.mk.injEq] at hf;obtain ⟨rfl,rfl⟩:=hf;simp [execOp,hx,Instr.field,run_underlying hs,hfd,asAgg,part,jZ ht,fT ht,hv]
  ·cases hf
 ·cases hf
end
section
variable {ro:Mode}
def cm (cs:List Value) (o:Nat) (vs:List Value):List Value:=cs.take o++vs++cs.drop (o+vs.length)
theorem fU {cs vs:List Value}{o:Nat} (h:o+vs.length≤cs.length):(cm cs o vs).length=cs.length:=by
 simp only [cm,YE,YM,Zz];omega
theorem wQ (cs:List Value) (o:Nat):cm cs o []=cs:=by simp [cm]
theorem td {cs vs:List Value}{o:Nat}{v:Value} (h:o+(v::vs).length≤cs.length):cm cs o (v::vs)=cm (cs.set o v) (o+1) vs:=by
 simp only [Y3] at h;have h0:cs.set o v=cs.take o++v::cs.drop (o+1):=by rw [abO,Yt Yo]
 have h2:(cs.take o).length=o:=by simp;omega
 have h1:(cs.set o v).take (o+1)=cs.take o++[v]:=by
  rw [h0,List.take_append,h2,YC Yo];simp
 have h3:(cs.set o v).drop (o+1+vs.length)=cs.drop (o+1+vs.length):=List.drop_set_of_lt Yo;unfold cm;rw [h1,h3];simp [abc,aat 1]
theorem xT {a b c:World}{r:Option Nat} (h:a.grownBy b r) (k:b.grownBy c r):a.grownBy c r:=
 ⟨k.os.trans h.os,k.tape.trans h.tape,k.output.trans h.output,Y1 h.size k.size,fun i hi hne=>(k.block i (Zl hi h.size) hne).trans (h.block i hi hne)⟩
theorem Cm (w:World) (b o:Nat) (v:Value):w.grownBy (w.setCell ⟨b,o,none⟩ v) (some b):=
 ⟨rfl,rfl,rfl,by simp [World.setCell],fun k _ hne=>Below.heap_setCell w _ v k (fun e=>hne (by rw [e]))⟩
section
variable {P:Program}
theorem hZ {b:Nat}{t:TypeId}{fz:Nat×Nat} (o:Nat):∀(vs:List Value) (i:Nat) (cs:List Value) (w:World),w.heap[b]?=some (.cells cs.toArray t fz)→(cs.length≤fz.1∨fz.2≤fz.1)→
  o+i+vs.length≤cs.length→(∀v∈vs,v.oneCell'=true)→
  ∃w',(storeCells ⟨b,o,none⟩ vs i).run P w=.ok () w'∧w'.heap[b]?=some (.cells (cm cs (o+i) vs).toArray t fz)∧w.grownBy w' (some b)∧w'.heap.size=w.heap.size
 |[],i,cs,w,hw,_,_,_=>⟨w,by simp [storeCells],by rw [wQ];exact hw,World.grownBy.refl _ _,rfl⟩
 |v::vs,i,cs,w,hw,hf,hl,h1=>by
  simp only [Y3] at hl;have hoi:o+i<cs.length:=Yo;have hc:w.cell? ⟨b,o+i,none⟩=some cs[o+i]:=by
   rw [cell_of_row w b (o+i) _ t fz hw];simp [ZP hoi]
  have hfr:w.frozen? ⟨b,o+i,none⟩=false:=by
   simp only [World.frozen?,hw]
   rcases hf with hf|hf<;>simp<;>omega
  have hw2:(w.setCell ⟨b,o+i,none⟩ v).heap[b]?=some (.cells (cs.set (o+i) v).toArray t fz):=by
   simp [World.setCell,Array.getElem?_modify,hw]
  obtain ⟨w',hr,hb',hg,hs⟩:=hZ (b:=b) (t:=t) (fz:=fz) o vs (i+1) (cs.set (o+i) v) _ hw2 (by simpa using hf) (by simp;omega) (fun u hu=>h1 u (YK _ hu));refine ⟨w', ?_, ?_,xT (Cm w b (o+i) v) hg,hs.trans (by simp [World.setCell])⟩
  ·simp only [storeCells,Sem.run_bind,fw,run_store P w ⟨b,o+i,none⟩ v .plain (h1 v (YD)),hc,hfr];simpa using hr
  ·rw [td (by simp;omega)];exact hb'
end
def mj (pl:Nat→Option (Nat×Nat)):List Value→List (Nat×Value)→Option (List Value)
 |cs,[]=>some cs
 |cs,(i,v)::r=>
  match pl i with
  |none=>none
  |some (off,size)=>if v.cells.toList.length≠size∨cs.length<off+v.cells.toList.length then none else mj pl (cm cs off v.cells.toList) r
theorem rl:∀(vs:List Value) (k o:Nat) (cs:List Value),o+k+vs.length≤cs.length→
  (vs.zipIdx k).foldl (fun (cs:Array Value) (x:Value×Nat)=>cs.setIfInBounds (o+x.2) x.1) cs.toArray=(cm cs (o+k) vs).toArray
 |[],k,o,cs,_=>by simp [wQ]
 |v::vs,k,o,cs,h=>by
  rw [List.zipIdx_cons,aaR];simp only [List.setIfInBounds_toArray];rw [rl vs (k+1) o (cs.set (o+k) v) (by simp at h ⊢;omega),td (by simp at h ⊢;omega)]
  rfl
theorem Be {pl:Nat→Option (Nat×Nat)}:∀(ps:List (Nat×Value)) (zs cs:List Value),mj pl zs ps=some cs→Instr.fill pl zs.toArray ps=some cs.toArray
 |[],zs,cs,h=>by simp only [mj,aag] at h;subst h;rfl
 |(i,v)::r,zs,cs,h=>by
  unfold mj at h;unfold Instr.fill;split at h
  ·cases h
  ·rename_i off size hpl;split at h
   ·cases h
   ·rename_i hc;simp only [ne_eq,not_or,Decidable.not_not,Nat.not_lt] at hc;simp only [hpl];have h1:¬((v.cells.size≠size||decide (off+v.cells.size>zs.toArray.size))=true):=by
     have e:v.cells.size=v.cells.toList.length:=by simp
     simp only [e,hc.1,abf,aaL,YX,ne_eq,not_true,decide_false,abt,false_or];omega
    rw [Yu h1];have h2:v.cells.zipIdx.foldl (fun (cs:Array Value) (x:Value×Nat)=>cs.setIfInBounds (off+x.2) x.1) zs.toArray=(cm zs off v.cells.toList).toArray:=by
     have:=rl v.cells.toList 0 off zs Yo;rw [ZM] at this;rw [←this,←Array.foldl_toList,Array.toList_zipIdx]
    exact (Ze (fun x=>Instr.fill pl x r) h2).trans (Be r _ cs h)
def iK:Nat→List Value→List Value
 |0,_=>[]
 |n+1,zc=>zc++iK n zc
theorem km (n:Nat) (zc:List Value):(iK n zc).length=n*zc.length:=by
 induction n with
 |zero=>simp [iK]
 |succ n ih=>simp [iK,ih,aaJ,aat]
theorem AR:∀(n:Nat) (zc:List Value) (i:Nat),i<n*zc.length→(iK n zc)[i]?=zc[i % zc.length]?
 |0,zc,i,h=>by simp at h
 |n+1,zc,i,h=>by
  unfold iK
  rcases Zb i zc.length with hi|hi
  ·rw [aav hi,Za hi]
  ·rw [ZC hi,AR n zc (i-zc.length) (by rw [aaJ] at h;omega)];congr 1;rw [Nat.mod_eq_sub_mod hi]
theorem xi (n:Nat) (zc:List Value):(Array.range (n*zc.length)).map (fun i=>zc.toArray[i % zc.length]!)=(iK n zc).toArray:=by
 apply Array.ext_getElem?;intro i
 rcases Zb i (n*zc.length) with h|h
 ·have hpos:0<zc.length:=by
   rcases aac zc.length with h0|h0
   ·rw [h0] at h;omega
   ·exact h0
  have hm:i % zc.length<zc.length:=YU _ hpos;simp [h,AR n zc i h,ZP hm]
 ·have h2:(iK n zc).length≤i:=by rw [km];exact h
  simp [h2,h]
def BR (ρ:Rf):List (Nat×Operand)→List (Nat×Value)
 |[]=>[]
 |(i,x)::l=>(i,ev ρ x)::BR ρ l
theorem HU {ρ:Rf} (parts:Array (Nat×Operand)) {ps:List (Nat×Value)} (h:BR ρ parts.toList=ps):(parts.map fun (i,x)=>(i,ev ρ x))=ps.toArray:=by
 have h1:∀l:List (Nat×Operand),l.map (fun (i,x)=>(i,ev ρ x))=BR ρ l:=by
  intro l
  induction l with
  |nil=>rfl
  |cons a l ih=>simp only [Y6,ih];rfl
 subst h;rw [←h1];apply Array.ext';simp
section
variable {P:Program}{N:Nat}{ops:Array Oper}{Q:Kq}{ρ:Rf}{w w0:World}{rest:List Oper}{H:List HE}{d:Nat}{ty:TypeId}{pos:String}{af:Array Edge}
theorem wc {w':World}{r:Option Nat} (h:Below w0.heap.size w0 w) (hg:w.grownBy w' r) (hr:∀k,r=some k→w0.heap.size≤k):Below w0.heap.size w0 w':=h.grown hg h.size hr
theorem Hp.grown {w':World}{x y:HE}{i:Nat} (h:Hp w0 H w) (hi:H[i]?=some x) (hg:w.grownBy w' x.id) (hid:y.id=x.id∨y.id=none∨y.id=some w.heap.size) (hy:y.holds w0.heap.size w'):Hp w0 (H.set i y) w':=by
 refine h.LY hi (fun b hb=> ?_) (wc h.below hg fun k hk=>(eU (h.at_ hi) hk).1) (fun b hlt hne=>hg.block b hlt (fun e=>hne e.symm)) hy
 rcases hid with e|e|e
 ·exact .inl (by rw [←e];exact hb)
 ·rw [e] at hb;cases hb
 ·rw [e] at hb;injection hb with hb
  exact .inr Yo
theorem Hp.dm (h:Hp w0 H w) (t:TypeId) (sz:Nat):Hp w0 (.row none 0 0 t sz []::H) w:=
 ⟨h.below,fun x hx=>by
  rcases YH.1 hx with rfl|hx
  ·exact World.ownsRow_nil _ _ _ _
  ·exact h.own x hx,by show (List.filterMap HE.id H).Nodup;exact h.nd⟩
theorem Hp.GK (h:Hp w0 H w) (t:TypeId) (cs:List Value):Hp w0 (.blk w.heap.size t cs (0,0)::H) (w.alloc (.cells cs.toArray t)):=
 h.aP ((Below.refl _ _).alloc (YA _) _) ⟨YA _,heap_alloc_new w _,.inr (YA _)⟩
theorem Hp.Ik (h:Hp w0 H w) (t:TypeId) (sz n:Nat) (cs:List Value) (hl:cs.length=n*sz) (hn:n≤maxLen):Hp w0 (.row (some ⟨w.heap.size,0,none⟩) n n t sz cs::H) (w.alloc (.cells cs.toArray t)):=
 h.aP ((Below.refl _ _).alloc (YA _) _) ⟨hl,.inr ⟨w.heap.size,n,cs.toArray,rfl,YA _,heap_alloc_new w _,YA _,hn,by simpa using hl,by simp only [YC (show cs.length≤n*sz by omega)]⟩⟩
theorem Tm (hh:Hp w0 H w) {t:TypeId}{x:Operand}{cs:List Value}{v:Value} (hx:ev ρ x=v) (hc:v.cells=cs.toArray) (hN:d<N)
  (k:∀b w',Hp w0 (.blk b t cs (0,0)::H) w'→WL ro P N ops Q rest (cP ρ d (.pointer (some ⟨b,0,none⟩))) w'):WL ro P N ops Q (⟨some d,.box t x,ty,pos,af,none⟩::rest) ρ w:=
 aV rfl rfl hN (w':=w.alloc (.cells cs.toArray t)) (v:=.pointer (some ⟨w.heap.size,0,none⟩)) (by simp [execOp,hx,Instr.box,newVar,newRow,hc]) (k _ _ (hh.GK t cs))
theorem MM (hh:Hp w0 H w) {t:TypeId}{n by':Nat}{ag:Bool}{zc:List Value} (ht:eu P t=some (n,ag,by',zc)) (hN:d<N)
  (k:∀b w',Hp w0 (.blk b t zc (0,0)::H) w'→WL ro P N ops Q rest (cP ρ d (.pointer (some ⟨b,0,none⟩))) w'):WL ro P N ops Q (⟨some d,.alloc t,ty,pos,af,none⟩::rest) ρ w:=by
 obtain ⟨z,hz,hzc⟩:=fF (w:=w) ht;exact aV rfl rfl hN (w':=w.alloc (.cells zc.toArray t)) (v:=.pointer (some ⟨w.heap.size,0,none⟩)) (by simp [execOp,Instr.alloc,newVar,newRow,hz,hzc]) (k _ _ (hh.GK t zc))
theorem Co (hh:Hp w0 H w) {t t':TypeId}{x y:Operand}{i b o n by':Nat}{ag:Bool}{zc cs vs:List Value}{fz:Nat×Nat}{v:Value} (hx:ev ρ x=.pointer (some ⟨b,o,none⟩)) (hi:H[i]?=some (.blk b t' cs fz))
  (hy:ev ρ y=v) (hc:v.cells=vs.toArray) (ht:eu P t=some (n,ag,by',zc)) (hl:vs.length=n) (ho:o+n≤cs.length) (h1:(vs.all Value.oneCell')=true)
  (k:∀w',Hp w0 (H.set i (.blk b t' (cm cs o vs) fz)) w'→WL ro P N ops Q rest ρ w'):WL ro P N ops Q (⟨none,.store t x y,ty,pos,af,none⟩::rest) ρ w:=by
 have hb:=hh.at_ hi;obtain ⟨w',hr,hb',hg,hs⟩:=hZ (P:=P) (b:=b) (t:=t') (fz:=fz) o vs 0 cs w hb.2.1 hb.2.2 Yo (by simpa using h1);refine I7 rfl rfl (w':=w') ?_ (k w' (hh.grown hi hg (.inl rfl) ⟨hb.1,by simpa using hb',by rw [fU Yo];exact hb.2.2⟩));simp [execOp,hx,hy,Instr.storeAt,Instr.sureAddr,storeVar,fT ht,hl,hc,hr]
theorem ct (hh:Hp w0 H w) {t t':TypeId}{x y:Operand}{i b o n m c sz by':Nat}{ag:Bool}{zc xs vs:List Value}{v:Value} (hx:ev ρ x=.pointer (some ⟨b,o,none⟩)) (hi:H[i]?=some (.row (some ⟨b,0,none⟩) m c t' sz xs))
  (hy:ev ρ y=v) (hc:v.cells=vs.toArray) (ht:eu P t=some (n,ag,by',zc)) (hl:vs.length=n) (ho:o+n≤xs.length) (h1:(vs.all Value.oneCell')=true)
  (k:∀w',Hp w0 (H.set i (.row (some ⟨b,0,none⟩) m c t' sz (cm xs o vs))) w'→WL ro P N ops Q rest ρ w'):WL ro P N ops Q (⟨none,.store t x y,ty,pos,af,none⟩::rest) ρ w:=by
 have hrow:=hh.at_ hi;obtain ⟨hlen,h2⟩:=hrow
 rcases h2 with ⟨h2,_⟩|⟨g,cap,cur,hv,hg,hheap,hmc,hcm,hcur,htake⟩
 ·injection h2 with h2;cases h2
 ·injection hv with hA hn hcap
  injection hA with hA
  injection hA with hA
  subst hA;subst hcap;have hcl:cur.size=cur.toList.length:=by simp
  have hle:m*sz≤c*sz:=Zo _ hmc;obtain ⟨w',hr,hb',hgr,hs⟩:=hZ (P:=P) (b:=b) (t:=t') (fz:=(0,0)) o vs 0 cur.toList w (by simpa using hheap) (.inr (YA _)) (by rw [←hcl];omega) (by simpa using h1);refine I7 rfl rfl (w':=w') ?_ (k w' (hh.grown hi hgr (.inl rfl) ⟨by rw [fU Yo];exact hlen,.inr ⟨b,c,(cm cur.toList o vs).toArray,rfl,hg,by simpa using hb',hmc,hcm, ?_, ?_⟩⟩))
  ·simp [execOp,hx,hy,Instr.storeAt,Instr.sureAddr,storeVar,fT ht,hl,hc,hr]
  ·simp only [abf];rw [fU (by rw [←hcl];omega),←hcl,hcur]
  ·exact UX
theorem cW (hh:Hp w0 H w) {t e:TypeId}{len sz by':Nat}{ag:Bool}{parts:Array (Nat×Operand)}{ps:List (Nat×Value)}{zc cs:List Value} (ht:P.underlying t=some (.slice e)) (hte:eu P e=some (sz,ag,by',zc))
  (hp:BR ρ parts.toList=ps) (hzl:zc.length=sz) (hf:mj (fun i=>some (i*sz,sz)) (iK len zc) ps=some cs) (h0:¬len*sz=0) (hle:len≤1000) (hsl:len*sz≤16777216) (hl:cs.length=len*sz) (hN:d<N)
  (k:∀b w',Hp w0 (.row (some ⟨b,0,none⟩) len len e sz cs::H) w'→WL ro P N ops Q rest (cP ρ d (.slice (some ⟨b,0,none⟩) len len)) w'):WL ro P N ops Q (⟨some d,.buildSlice t len parts,ty,pos,af,none⟩::rest) ρ w:=by
 obtain ⟨z,hz,hzc⟩:=fF (w:=w) hte;refine aV rfl rfl hN (w':=w.alloc (.cells cs.toArray e)) (v:=.slice (some ⟨w.heap.size,0,none⟩) len len) ?_ (k _ _ (hh.Ik e sz len cs hl (by unfold maxLen;omega)));exact Vq
def rG (P:Program) (t:TypeId):Option (List (Nat×Nat)):=
 match P.underlying t with
 |some (.struct fs)=>fs.toList.mapM fun f=>(P.info? f.type).map fun i=>(f.offset,i.size)
 |_=>none
theorem wC {P:Program}{w:World}:∀(l:List Field) (pl:List (Nat×Nat)),(l.mapM fun f=>(P.info? f.type).map fun i=>(f.offset,i.size))=some pl→
  (l.mapM (m:=Sem) fun f=>do pure (f.offset,←sizeOf f.type)).run P w=.ok pl w
 |[],pl,h=>by
  simp at h;subst h;simp
 |f::l,pl,h=>by
  rw [List.mapM_cons] at h
  cases hi:P.info? f.type with
  |none=>simp [hi] at h
  |some i=>
   cases hr:l.mapM (fun f=>(P.info? f.type).map fun i=>(f.offset,i.size)) with
   |none=>simp [hr] at h
   |some pl'=>
    simp [hi,hr] at h;have ih:=wC (w:=w) l pl' hr;have hs:(sizeOf f.type).run P w=.ok i.size w:=by simp [sizeOf,typeInfo,hi]
    rw [List.mapM_cons,Sem.run_bind,Sem.run_bind,hs,Result.andThen_ok,Sem.run_pure,Result.andThen_ok,Sem.run_bind,ih,Result.andThen_ok,Sem.run_pure,h]
theorem mJ {dd:Option Nat}{g:Option (Nat×Bool)}{t:TypeId}{n by':Nat}{parts:Array (Nat×Operand)}{ps:List (Nat×Value)}{zc cs:List Value}{pl:List (Nat×Nat)} (hte:eu P t=some (n,true,by',zc))
  (hpl:rG P t=some pl)
  (hp:BR ρ parts.toList=ps) (hf:mj (pl[·]?) zc ps=some cs):
  (execOp (ev ρ) ⟨dd,.build t parts,ty,pos,af,g⟩).run P w=.ok (.value (.agg cs.toArray)) w:=by
 obtain ⟨z,hz,hzc⟩:=fF (w:=w) hte;unfold rG at hpl;split at hpl
 ·rename_i fs hfs;have h1:=wC (w:=w) _ _ hpl;have h2:(fs.mapM (m:=Sem) fun f=>do pure (f.offset,←sizeOf f.type)).run P w=.ok pl.toArray w:=by
   have e:fs=fs.toList.toArray:=by simp
   rw [e,List.mapM_toArray,Sem.run_map,h1]
   rfl
  have hf':=Be _ _ _ hf;have hpp:(fun (x:Nat)=>pl.toArray[x]?)=fun x=>pl[x]?:=by funext x;simp
  have hp':=HU parts hp;simp only [execOp,hp',Instr.build,Sem.run_bind,hz,Result.andThen_ok,run_underlying hfs,h2,hzc,hpp,hf',Sem.run_pure]
 ·cases hpl
end
end
section
variable {ro:Mode}
theorem jN (A:Option Addr) (n c:Nat):(Value.slice A n c).ownBlock=A.map (·.block):=by cases A<;>rfl
theorem rm (n:Nat) (z:Value):iK n [z]=List.replicate n z:=by
 induction n with
 |zero=>rfl
 |succ n ih=>simp [iK,ih,aaT]
theorem wq {w:World}{ad:Addr}{xs:List Value}{m:Int}{k:Nat}{v:Value} (h:Rd w ad xs) (hx:xs[k]?=some v) (hm:m=(k:Int)):w.cell? (ad.add (m.toNat*1))=some v:=by
 subst hm;simpa using h k v hx
def nB (l:List UInt8):List Value:=l.map fun c=>.int .u8 c.toNat
theorem vL (l:List UInt8):(nB l).length=l.length:=by simp [nB]
section
variable {P:Program}{w:World}
theorem rb (base:Nat) (t ty e:TypeId) (i:TypeInfo) (ht:P.underlying t=some (.slice e)) (hi:P.info? e=some i)
  (v:Value) (n:Nat) (xs:List Value) (sz:Nat) (hown:w.ownsRow base e sz v n xs) (c:Nat):(Builtin.append_ #[t,t] ty #[v,.slice none 0 c]).run P w=.ok v w:=by
 rcases hown.2 with ⟨rfl,rfl⟩|⟨g,cap,cur,rfl,_,_,hnc,_⟩
 ·simp [Builtin.append_,run_underlying ht,sizeOf,typeInfo,hi,Builtin.lenOf,Builtin.firstCells]
 ·simp [Builtin.append_,run_underlying ht,sizeOf,typeInfo,hi,Builtin.lenOf,Builtin.firstCells,hnc,storeCells]
theorem xV (base:Nat) (t ty e:TypeId) (sz by':Nat) (ag:Bool) (zc:List Value) (ht:P.underlying t=some (.slice e)) (hte:eu P e=some (sz,ag,by',zc)) (hzl:zc.length=sz) (hsz:0<sz)
  (A:Option Addr) (n c:Nat) (xs:List Value) (hown:w.ownsRow base e sz (.slice A n c) n xs) (B:Option Addr) (m c':Nat) (news:List Value) (hsl:Sl w B m sz news) (h1:∀u∈news,u.oneCell'=true)
  (h63:n+m≤maxLen) (hbytes:(n+m)*by'≤140737488355328) (hbase:base≤w.heap.size):
  ∃A' c2 w',(Builtin.append_ #[t,t] ty #[.slice A n c,.slice B m c']).run P w=.ok (.slice A' (n+m) c2) w'∧w'.ownsRow base e sz (.slice A' (n+m) c2) (n+m) (xs++news)∧
   w.grownBy w' (A.map (·.block))∧(A'.map (·.block)=A.map (·.block)∨A'.map (·.block)=none∨A'.map (·.block)=some w.heap.size):=by
 obtain ⟨i,z,d,hi,hd,hz,hs,hby,hzc,_⟩:=gW hte;have hzs:z.cells.size=sz:=by rw [hzc];simpa using hzl
 have fin:∀(ad:Addr),B=some ad→Rd w ad news→∃A' c2 w',(Builtin.append_ #[t,t] ty #[.slice A n c,.slice B m c']).run P w=.ok (.slice A' (n+m) c2) w'∧w'.ownsRow base e sz (.slice A' (n+m) c2) (n+m) (xs++news)∧
   w.grownBy w' (A.map (·.block))∧(A'.map (·.block)=A.map (·.block)∨A'.map (·.block)=none∨A'.map (·.block)=some w.heap.size):=by
  rintro ad rfl hr;obtain ⟨v',w',hrun,h2,h3,_,h5⟩:=run_append_own_at (P:=P) w base t ty e i z sz by' ht hi hz hs hby hzs hsz (.slice A n c) n xs hown ad m c' news hsl.1 hr h1 h63 hbytes hbase;rw [jN] at h3
  rcases h2.2 with ⟨hv,h0⟩|⟨g,cap,cur,hv,r⟩
  ·subst hv;refine ⟨none,0,w',by rw [hrun,h0],by rw [h0];exact h0 ▸ h2,h3,.inr (.inl rfl)⟩
  ·subst hv;refine ⟨_,_,w',hrun,h2,h3, ?_⟩
   rcases h5 with h5|h5
   ·exact .inl (by rw [←jN _ (n+m) cap,h5,jN])
   ·exact .inr (.inr (by rw [←jN _ (n+m) cap,h5]))
 rcases aac m with h0|h0
 ·subst h0;have hnews:news=[]:=aai (by simpa using hsl.1);subst hnews
  cases B with
  |none=>exact ⟨A,c,w,rb base t ty e i ht hi _ n xs sz hown c',by simpa using hown,World.grownBy.refl _ _,.inl rfl⟩
  |some ad=>exact fin ad rfl (fun j u hu=>by simp at hu)
 ·obtain ⟨ad,hB,hr⟩:=hsl.2 h0;exact fin ad hB hr
theorem xD {A:Option Addr}{n c:Nat}{l:List UInt8} (h:Sl w A n 1 (nB l)):(Conv.bytesToString (.slice A n c)).run P w=.ok (.string ⟨l.toArray⟩) w:=by
 have hn:l.length=n:=by have:=h.1;rw [vL] at this;omega
 cases A with
 |none=>
  have h0:n=0:=by
   rcases aac n with h0|h0
   ·exact h0
   ·obtain ⟨ad,h1,_⟩:=h.2 h0;cases h1
  have:l=[]:=aai Yo;subst this;simp [Conv.bytesToString,ByteArray.empty,ByteArray.emptyWithCapacity]
  rfl
 |some a=>
  have hr:Rd w a (nB l):=by
   rcases aac n with h0|h0
   ·have:l=[]:=aai Yo;subst this;intro j u hu;simp [nB] at hu
   ·obtain ⟨ad,h1,h2⟩:=h.2 h0;injection h1 with h1;subst h1;exact h2
  have e1:nB l=(l.map fun c:UInt8=>(c.toNat:Int)).map (Value.int .u8):=by simp [nB]
  have hld:=run_loadCells_list (P:=P) w a (nB l) hr;rw [vL,hn,e1] at hld;rw [run_bytesToString w a n c _ hld];congr 2;have:∀(l:List UInt8) (s:ByteArray),(l.map fun c:UInt8=>(c.toNat:Int)).foldl (fun r n=>r.push (UInt8.ofNat n.toNat)) s=⟨s.data++l.toArray⟩:=by
   intro l
   induction l with
   |nil=>intro s;simp
   |cons c l ih=>
    intro s;simp only [Y6,aaR];rw [ih];have:(s.push (UInt8.ofNat ((c.toNat:Int)).toNat)).data=s.data.push c:=by simp [ByteArray.push]
    rw [this];congr 1;apply Array.ext';simp
  rw [this];congr 1;apply Array.ext';simp [ByteArray.empty,ByteArray.emptyWithCapacity]
  rfl
end
section
variable {P:Program}{N:Nat}{ops:Array Oper}{Q:Kq}{ρ:Rf}{w w0:World}{rest:List Oper}{H:List HE}{d:Nat}{ty:TypeId}{pos:String}{af:Array Edge}
theorem cu (hh:Hp w0 H w) {t e:TypeId}{s x:Operand}{i n c m c' sz by':Nat}{ag:Bool}{A B:Option Addr}{zc xs news:List Value} (hi:H[i]?=some (.row A n c e sz xs)) (hs:ev ρ s=.slice A n c) (hx:ev ρ x=.slice B m c')
  (hsl:Sl w B m sz news) (ht:P.underlying t=some (.slice e)) (hte:eu P e=some (sz,ag,by',zc)) (hzl:zc.length=sz) (hsz:0<sz) (h1:(news.all Value.oneCell')=true)
  (h63:n+m≤9223372036854775807) (hbytes:(n+m)*by'≤140737488355328) (hN:d<N)
  (k:∀A' c2 w',Hp w0 (H.set i (.row A' (n+m) c2 e sz (xs++news))) w'→WL ro P N ops Q rest (cP ρ d (.slice A' (n+m) c2)) w'):
  WL ro P N ops Q (⟨some d,.call ⟨.builtin .append, #[s,x], #[t,t]⟩,ty,pos,af,none⟩::rest) ρ w:=by
 obtain ⟨A',c2,w',hr,hown,hg,hid⟩:=xV (P:=P) w0.heap.size t ty e sz by' ag zc ht hte hzl hsz A n c xs (hh.at_ hi) B m c' news hsl (by simpa using h1) (by unfold maxLen;omega) hbytes hh.size;refine aV rfl rfl hN (w':=w') (v:=.slice A' (n+m) c2) ?_ (k A' c2 w' (hh.grown hi hg hid hown));simp only [execOp,resolve,invoke,builtin,Sem.run_bind,Sem.run_pure,Result.andThen_ok,List.map_toArray,Y6,Zv,hs,hx,hr]
theorem gj (hh:Hp w0 H w) {t e:TypeId}{l cp:Operand}{kl kc:IntKind}{L C:Int}{n sz by':Nat}{ag:Bool}{zc:List Value} (hl:ev ρ l=.int kl L) (hc:ev ρ cp=.int kc C) (hL:L=(n:Int)) (hC:C=(n:Int))
  (ht:P.underlying t=some (.slice e)) (hte:eu P e=some (sz,ag,by',zc)) (hzl:zc.length=sz) (hb:by'*n≤281474976710656) (h63:n≤9223372036854775807) (hN:d<N)
  (k:∀b w',Hp w0 (.row (some ⟨b,0,none⟩) n n e sz (iK n zc)::H) w'→WL ro P N ops Q rest (cP ρ d (.slice (some ⟨b,0,none⟩) n n)) w'):
  WL ro P N ops Q (⟨some d,.makeSlice t l cp,ty,pos,af,none⟩::rest) ρ w:=by
 obtain ⟨i,z,dd,hi,hd,hz,hs,hby,hzc,_⟩:=gW hte;subst hL;subst hC;obtain ⟨w',hr,hown,hg⟩:=run_make_full (P:=P) w w.heap.size t e i z sz ht hi hz hs kl kc n (by rw [hby];exact hb) (by unfold maxLen;omega) (YA _);have hzz:(madeCells z.cells (n*sz)).toList=iK n zc:=by
  exact RI
 rw [hzz] at hown;refine aV rfl rfl hN (w':=w') (v:=.slice (some ⟨w.heap.size,0,none⟩) n n) ?_ (k _ w' (hh.aP ⟨hg.os,hg.tape,hg.output,hg.size,fun j hj=>hg.block j hj (by simp)⟩ hown));simp [execOp,hl,hc,hr]
theorem uY (hh:Hp w0 H w) {t e:TypeId}{sz by':Nat}{ag:Bool}{zc:List Value} (ht:P.underlying t=some (.slice e)) (hte:eu P e=some (sz,ag,by',zc)) (hN:d<N)
  (k:∀b w',Hp w0 (.row (some ⟨b,0,none⟩) 0 0 e sz []::H) w'→WL ro P N ops Q rest (cP ρ d (.slice (some ⟨b,0,none⟩) 0 0)) w'):WL ro P N ops Q (⟨some d,.buildSlice t 0 #[],ty,pos,af,none⟩::rest) ρ w:=by
 refine aV rfl rfl hN (w':=w.alloc (.cells #[] e)) (v:=.slice (some ⟨w.heap.size,0,none⟩) 0 0) ?_ (k _ _ (hh.Ik e sz 0 [] (by simp) (by unfold maxLen;omega)));have e0:Array.range 0= #[]:=rfl;simp [execOp,Instr.buildSlice,run_underlying ht,fT hte,Instr.fill,newRow,e0]
theorem nL {dd:Option Nat}{g:Option (Nat×Bool)}{s t e:TypeId}{x:Operand}{A:Option Addr}{n c:Nat}{l:List UInt8} (hs:P.underlying s=some (.slice e)) (he:P.underlying e=some (.int .u8)) (ht:P.underlying t=some .string)
  (hx:ev ρ x=.slice A n c) (h:Sl w A n 1 (nB l)):(execOp (ev ρ) ⟨dd,.convert s t x,ty,pos,af,g⟩).run P w=.ok (.value (.string ⟨l.toArray⟩)) w:=by
 simp [execOp,hx,run_convert_bytes_string w s t e A n c hs he ht,xD h]
theorem Bi (hh:Hp w0 H w) {t:TypeId}{x:Operand}{s:ByteArray} (ht:P.underlying t=some .string) (hx:ev ρ x=.string s) (hN:d<N)
  (k:∀b w',Hp w0 (.it b s 0::H) w'→WL ro P N ops Q rest (cP ρ d (.pointer (some ⟨b,0,none⟩))) w'):WL ro P N ops Q (⟨some d,.range t x,ty,pos,af,none⟩::rest) ρ w:=by
 refine aV rfl rfl hN (w':=w.alloc (.stringIter s 0)) (v:=.pointer (some ⟨w.heap.size,0,none⟩)) (by simp [execOp,hx,Instr.range,run_underlying ht]) (k _ _ (hh.aP ((Below.refl _ _).alloc (YA _) _) ⟨YA _,heap_alloc_new w _⟩))
theorem AN (hh:Hp w0 H w) {x:Operand}{i b p:Nat}{s:ByteArray} (hi:H[i]?=some (.it b s p)) (hx:ev ρ x=.pointer (some ⟨b,0,none⟩)) (hp:¬p<s.size) (hN:d<N)
  (k:WL ro P N ops Q rest (cP ρ d (.tuple #[.bool false])) w):WL ro P N ops Q (⟨some d,.next x true,ty,pos,af,none⟩::rest) ρ w:=by
 have h1:=(hh.at_ hi).2;refine aV rfl rfl hN (w':=w) (v:=.tuple #[.bool false]) ?_ k;simp [execOp,hx,Instr.next,getObj,Sem.run,h1,hp]
theorem An (hh:Hp w0 H w) {x:Operand}{i b p:Nat}{s:ByteArray}{c:UInt8} (hi:H[i]?=some (.it b s p)) (hx:ev ρ x=.pointer (some ⟨b,0,none⟩)) (hc:s.data.toList[p]?=some c) (h128:c.toNat<128) (hN:d<N)
  (k:∀w',Hp w0 (H.set i (.it b s (p+1))) w'→WL ro P N ops Q rest (cP ρ d (.tuple #[.bool true,.int .i64 p,.int .i32 c.toNat])) w'):WL ro P N ops Q (⟨some d,.next x true,ty,pos,af,none⟩::rest) ρ w:=by
 have h1:=(hh.at_ hi).2;obtain ⟨hlt,hcc⟩:=YL.1 hc;have hlt':p<s.size:=by simpa using hlt
 have hget:s.get! p=c:=by
  have:s.get! p=s.data[p]! :=rfl;rw [this,getElem!_pos s.data p hlt'];simpa using hcc
 have hdec:Utf8.decode s p=(c.toNat,1):=by
  unfold Utf8.decode;simp only [ZM,hget];rw [Yt h128]
 let w':World:={ w with heap:=w.heap.setIfInBounds b (.stringIter s (p+1)) }
 have hb:=eU (hh.at_ hi) (b:=b) rfl;have hg:w.grownBy w' (some b):=⟨rfl,rfl,rfl,by simp [w'],fun k _ hne=>by
  show (w.heap.setIfInBounds b _)[k]?=_;rw [Array.getElem?_setIfInBounds_ne (fun e=>hne (by rw [e]))]⟩
 refine aV rfl rfl hN (w':=w') (v:=.tuple #[.bool true,.int .i64 p,.int .i32 c.toNat]) ?_ (k w' (hh.grown hi hg (.inl rfl) ⟨hb.1, ?_⟩))
 ·simp [execOp,hx,Instr.next,getObj,setObj,Sem.run,h1,hlt',hdec,goInt,w']
 ·show (w.heap.setIfInBounds b _)[b]?=_;simp [hb.2]
end
end
class UK (k:IntKind) (b:outParam Nat) (M:outParam Nat):Prop where
 bits:k.bits=b
 sgn:k.signed=false
 pow:2^b=M
instance:UK .u8 8 256:=⟨rfl,rfl,rfl⟩
instance:UK .u16 16 65536:=⟨rfl,rfl,rfl⟩
instance:UK .u32 32 4294967296:=⟨rfl,rfl,rfl⟩
instance:UK .u64 64 18446744073709551616:=⟨rfl,rfl,rfl⟩
theorem UK.wrap {k:IntKind}{b M:Nat} [h:UK k b M] (n:Nat):k.wrap (n:Int)=((n % M:Nat):Int):=by
 unfold IntKind.wrap;have hM:(2:Int)^k.bits=(M:Int):=by rw [h.bits,←h.pow];simp
 simp only [h.sgn,hM,Bool.false_and];simp
theorem UK.rf {k:IntKind}{b M:Nat} [UK k b M] {n:Nat} (hn:n<M):k.wrap (n:Int)=(n:Int):=by rw [UK.wrap,Za hn]
theorem UK.wrap_add {k:IntKind}{b M:Nat} [h:UK k b M] (z:Int):k.wrap (z+M)=k.wrap z:=by
 unfold IntKind.wrap;have hM:(2:Int)^k.bits=(M:Int):=by rw [h.bits,←h.pow];simp
 simp [hM]
section
variable {P:Program}{ρ:Rf}{w:World}{d:Option Nat}{ty:TypeId}{pos:String}{af:Array Edge}{g:Option (Nat×Bool)}
section unats
variable {t u:TypeId}{x y:Operand}{k:IntKind}{q M:Nat}{a b:Nat}
theorem T9 [UK k q M] (hx:ev ρ x=.int k (a:Int)) (hy:ev ρ y=.int k (b:Int)):(execOp (ev ρ) ⟨d,.binOp .add t x y u,ty,pos,af,g⟩).run P w=.ok (.value (.int k (((a+b) % M:Nat):Int))) w:=by
 rw [Rn hx hy,←ZQ,UK.wrap]
theorem Ud [UK k q M] (hx:ev ρ x=.int k (a:Int)) (hy:ev ρ y=.int k (b:Int)) (hb:b≤M):(execOp (ev ρ) ⟨d,.binOp .sub t x y u,ty,pos,af,g⟩).run P w=.ok (.value (.int k (((a+M-b) % M:Nat):Int))) w:=by
 rw [Se hx hy,←UK.wrap (k:=k)];have h:((a+M-b:Nat):Int)=(a:Int)-b+M:=Yo;rw [h,UK.wrap_add]
theorem TJ [UK k q M] (hx:ev ρ x=.int k (a:Int)) (hy:ev ρ y=.int k (b:Int)):(execOp (ev ρ) ⟨d,.binOp .mul t x y u,ty,pos,af,g⟩).run P w=.ok (.value (.int k (((a*b) % M:Nat):Int))) w:=by
 rw [RY hx hy,←ZB,UK.wrap]
theorem LB [UK k q M] (hx:ev ρ x=.int k (a:Int)) (hy:ev ρ y=.int k (b:Int)) (hb:0<b) (ha:a<M):(execOp (ev ρ) ⟨d,.binOp .quo t x y u,ty,pos,af,g⟩).run P w=.ok (.value (.int k ((a/b:Nat):Int))) w:=by
 rw [SY hx hy Yo,←Int.ofNat_tdiv,UK.rf (Zr (aaF _ _) ha)]
theorem MV (hx:ev ρ x=.int k (a:Int)) (hy:ev ρ y=.int k (b:Int)) (hb:0<b):(execOp (ev ρ) ⟨d,.binOp .rem t x y u,ty,pos,af,g⟩).run P w=.ok (.value (.int k ((a % b:Nat):Int))) w:=by
 rw [Rz hx hy Yo,←Int.ofNat_tmod]
theorem oK (n:Nat) (a:Nat):BitVec.ofInt n (a:Int)=BitVec.ofNat n a:=by simp
theorem Wa [h:UK k q M] (hx:ev ρ x=.int k (a:Int)) (hy:ev ρ y=.int k (b:Int)) (ha:a<M) (hb:b<M):(execOp (ev ρ) ⟨d,.binOp .or t x y u,ty,pos,af,g⟩).run P w=.ok (.value (.int k ((a|||b:Nat):Int))) w:=by
 rw [WZ hx hy,oK,oK,BitVec.toNat_or,BitVec.toNat_ofNat,BitVec.toNat_ofNat,h.bits,h.pow,Za ha,Za hb,UK.rf];rw [←h.pow] at ha hb ⊢;exact Nat.or_lt_two_pow ha hb
theorem T0 [h:UK k q M] (hx:ev ρ x=.int k (a:Int)) (hy:ev ρ y=.int k (b:Int)) (ha:a<M) (hb:b<M):(execOp (ev ρ) ⟨d,.binOp .and t x y u,ty,pos,af,g⟩).run P w=.ok (.value (.int k ((a &&& b:Nat):Int))) w:=by
 rw [SQ hx hy,oK,oK,BitVec.toNat_and,BitVec.toNat_ofNat,BitVec.toNat_ofNat,h.bits,h.pow,Za ha,Za hb,UK.rf];exact Zr Nat.and_le_left ha
theorem xk [h:UK k q M] {k':IntKind}{s:Int} (hx:ev ρ x=.int k (a:Int)) (hy:ev ρ y=.int k' s) (hs:0≤s∧s≤q):(execOp (ev ρ) ⟨d,.binOp .shl t x y u,ty,pos,af,g⟩).run P w=.ok (.value (.int k (((a*2^s.toNat) % M:Nat):Int))) w:=by
 have e:(a:Int)*2^(min s.toNat k.bits)=((a*2^s.toNat:Nat):Int):=by
  rw [h.bits,ZK Yo,ZB,abF];rfl
 rw [Ra hx hy hs.1,e,UK.wrap]
theorem ER [h:UK k q M] {k':IntKind}{s:Int} (hx:ev ρ x=.int k (a:Int)) (hy:ev ρ y=.int k' s) (hs:0≤s∧s≤q):(execOp (ev ρ) ⟨d,.binOp .shr t x y u,ty,pos,af,g⟩).run P w=.ok (.value (.int k ((a/2^s.toNat:Nat):Int))) w:=by
 rw [Sp hx hy hs.1,h.bits,ZK Yo,Int.fdiv_eq_ediv_of_nonneg _ (Int.le_of_lt (Int.pow_pos Yo))];simp
theorem QD [UK k q M] {k':IntKind}{s m:Nat} (hx:ev ρ x=.int k (a:Int)) (hy:ev ρ y=.int k' (s:Int)) (hs:s≤q) (hm:2^s=m):(execOp (ev ρ) ⟨d,.binOp .shr t x y u,ty,pos,af,g⟩).run P w=.ok (.value (.int k ((a/m:Nat):Int))) w:=by
 rw [ER hx hy Yo,←hm];rfl
theorem TX [h:UK k q M] (hx:ev ρ x=.int k (a:Int)) (ha:a≤M):(execOp (ev ρ) ⟨d,.unOp .neg t x,ty,pos,af,g⟩).run P w=.ok (.value (.int k (((M-a) % M:Nat):Int))) w:=by
 rw [RF hx,←UK.wrap (k:=k)];have e:((M-a:Nat):Int)= -(a:Int)+M:=Yo;rw [e,UK.wrap_add]
theorem Pe [UK k q M] {s t:TypeId}{k':IntKind}{sd:TypeDesc} (hs:P.underlying s=some sd) (ht:P.underlying t=some (.int k)) (hx:ev ρ x=.int k' (a:Int)):
  (execOp (ev ρ) ⟨d,.convert s t x,ty,pos,af,g⟩).run P w=.ok (.value (.int k ((a % M:Nat):Int))) w:=by
 rw [mU hs ht hx,UK.wrap]
theorem wV [UK k q M] {s t:TypeId}{k':IntKind}{sd:TypeDesc} (hs:P.underlying s=some sd) (ht:P.underlying t=some (.int k)) (hx:ev ρ x=.int k' (a:Int)) (ha:a<M):
  (execOp (ev ρ) ⟨d,.convert s t x,ty,pos,af,g⟩).run P w=.ok (.value (.int k (a:Int))) w:=by
 rw [mU hs ht hx,UK.rf ha]
end unats
section ints
variable {t u:TypeId}{x y:Operand}{k:IntKind}{a b:Int}
theorem IK (hx:ev ρ x=.int k a) (hy:ev ρ y=.int k b):(execOp (ev ρ) ⟨d,.binOp .lss t x y u,ty,pos,af,g⟩).run P w=.ok (.value (.bool (decide (a<b)))) w:=by
 by_cases h:a<b
 ·rw [Qq hx hy h,YN h]
 ·rw [PI hx hy h,YS h]
theorem Hi (hx:ev ρ x=.int k a) (hy:ev ρ y=.int k b):(execOp (ev ρ) ⟨d,.binOp .leq t x y u,ty,pos,af,g⟩).run P w=.ok (.value (.bool (decide (a≤b)))) w:=by
 by_cases h:a≤b
 ·rw [Pa hx hy h,YN h]
 ·rw [PN hx hy h,YS h]
theorem HG (hx:ev ρ x=.int k a) (hy:ev ρ y=.int k b):(execOp (ev ρ) ⟨d,.binOp .gtr t x y u,ty,pos,af,g⟩).run P w=.ok (.value (.bool (decide (b<a)))) w:=by
 by_cases h:b<a
 ·rw [Pq hx hy h,YN h]
 ·rw [Pb hx hy h,YS h]
theorem Qw (hx:ev ρ x=.int k a) (hy:ev ρ y=.int k b):(execOp (ev ρ) ⟨d,.binOp .geq t x y u,ty,pos,af,g⟩).run P w=.ok (.value (.bool (decide (b≤a)))) w:=by
 by_cases h:b≤a
 ·rw [Qp hx hy h,YN h]
 ·rw [Qv hx hy h,YS h]
theorem P7 (hx:ev ρ x=.int k a) (hy:ev ρ y=.int k b):(execOp (ev ρ) ⟨d,.binOp .neq t x y u,ty,pos,af,g⟩).run P w=.ok (.value (.bool (decide (a≠b)))) w:=by
 by_cases h:a=b
 ·rw [Pr hx hy h,YS (by simpa using h)]
 ·rw [Qu hx hy h,YN h]
end ints
section bools
variable {t u:TypeId}{x y:Operand}{a b:Bool}
theorem P8 (ht:P.underlying t=some .bool) (hx:ev ρ x=.bool a) (hy:ev ρ y=.bool b) (h:a=b):(execOp (ev ρ) ⟨d,.binOp .eql t x y u,ty,pos,af,g⟩).run P w=.ok (.value (.bool true)) w:=by
 rw [vn ht hx hy,h,beq_self_eq_true]
theorem P5 (ht:P.underlying t=some .bool) (hx:ev ρ x=.bool a) (hy:ev ρ y=.bool b) (h:¬a=b):(execOp (ev ρ) ⟨d,.binOp .eql t x y u,ty,pos,af,g⟩).run P w=.ok (.value (.bool false)) w:=by
 rw [vn ht hx hy,beq_false_of_ne h]
theorem Pg (ht:P.underlying t=some .bool) (hx:ev ρ x=.bool a) (hy:ev ρ y=.bool b) (h:¬a=b):(execOp (ev ρ) ⟨d,.binOp .neq t x y u,ty,pos,af,g⟩).run P w=.ok (.value (.bool true)) w:=by
 rw [mw ht hx hy,bne,beq_false_of_ne h];rfl
theorem PV (ht:P.underlying t=some .bool) (hx:ev ρ x=.bool a) (hy:ev ρ y=.bool b) (h:a=b):(execOp (ev ρ) ⟨d,.binOp .neq t x y u,ty,pos,af,g⟩).run P w=.ok (.value (.bool false)) w:=by
 rw [mw ht hx hy,bne,h,beq_self_eq_true];rfl
end bools
theorem ju {t e:TypeId}{x i:Operand}{ad:Addr}{n c sz k:Nat}{kk:IntKind}{m:Int} (ht:P.underlying t=some (.slice e)) (hsz:(P.info? e).map (·.size)=some sz) (hx:ev ρ x=.slice (some ad) n c) (hi:ev ρ i=.int kk m)
  (hm:m=(k:Int)) (h1:k<n):(execOp (ev ρ) ⟨d,.indexAddr t x i,ty,pos,af,g⟩).run P w=.ok (.value (.pointer (some (ad.add (k*sz))))) w:=by
 rw [ew ht hsz hx hi Yo Yo,hm];rfl
theorem EX {t e:TypeId}{x i:Operand}{b o n c sz k:Nat}{kk:IntKind}{m:Int} (ht:P.underlying t=some (.slice e)) (hsz:(P.info? e).map (·.size)=some sz) (hx:ev ρ x=.slice (some ⟨b,o,none⟩) n c) (hi:ev ρ i=.int kk m)
  (hm:m=(k:Int)) (h1:k<n):(execOp (ev ρ) ⟨d,.indexAddr t x i,ty,pos,af,g⟩).run P w=.ok (.value (.pointer (some ⟨b,o+k*sz,none⟩))) w:=by
 rw [ew ht hsz hx hi Yo Yo,hm,fw];rfl
theorem EM {t e:TypeId}{x i:Operand}{ad:Addr}{n sz k:Nat}{kk:IntKind}{m:Int} (ht:P.underlying t=some (.array n e)) (hsz:(P.info? e).map (·.size)=some sz) (hx:ev ρ x=.pointer (some ad)) (hi:ev ρ i=.int kk m)
  (hm:m=(k:Int)) (h1:k<n):(execOp (ev ρ) ⟨d,.indexAddr t x i,ty,pos,af,g⟩).run P w=.ok (.value (.pointer (some (ad.add (k*sz))))) w:=by
 obtain ⟨i,hi1,hi2⟩:=aay.1 hsz;have h2:(k:Int)<n:=Yo;subst hm;simp [execOp,hx,hi,Instr.indexAt,asIntOf,run_underlying ht,sizeOf,typeInfo,hi1,hi2,Instr.sureAddr,h1]
theorem BM {t e:TypeId}{x hi:Operand}{A:Option Addr}{n c h sz:Nat}{k:IntKind}{m:Int} (ht:P.underlying t=some (.slice e)) (hsz:(P.info? e).map (·.size)=some sz) (hx:ev ρ x=.slice A n c) (hhi:ev ρ hi=.int k m)
  (hm:m=(h:Int)) (h2:h≤c):(execOp (ev ρ) ⟨d,.slice t x none (some hi) none,ty,pos,af,g⟩).run P w=.ok (.value (.slice A h c)) w:=by
 rw [jn (lo:=none) (hi:=some hi) (l:=0) (h:=h) ht hsz hx rfl ⟨k,m,hhi,hm⟩ (Yx _) h2];congr 3
 cases A with
 |none=>simp
 |some ad=>simp [Addr.add]
theorem ET {t e:TypeId}{x lo:Operand}{b o n c l sz:Nat}{k:IntKind}{m:Int} (ht:P.underlying t=some (.slice e)) (hsz:(P.info? e).map (·.size)=some sz) (hx:ev ρ x=.slice (some ⟨b,o,none⟩) n c) (hlo:ev ρ lo=.int k m)
  (hm:m=(l:Int)) (h1:l≤n) (h2:n≤c) (h3:l<c):(execOp (ev ρ) ⟨d,.slice t x (some lo) none none,ty,pos,af,g⟩).run P w=.ok (.value (.slice (some ⟨b,o+l*sz,none⟩) (n-l) (c-l))) w:=by
 rw [jn (lo:=some lo) (hi:=none) (l:=l) (h:=n) ht hsz hx ⟨k,m,hlo,hm⟩ rfl h1 h2,Yu Yo];simp only [aaj,fw]
theorem Cc {t e:TypeId}{x lo:Operand}{ad:Addr}{n c l sz:Nat}{k:IntKind}{m:Int} (ht:P.underlying t=some (.slice e)) (hsz:(P.info? e).map (·.size)=some sz) (hx:ev ρ x=.slice (some ad) n c) (hlo:ev ρ lo=.int k m)
  (hm:m=(l:Int)) (h1:l≤n) (h2:n≤c) (h3:l<c):(execOp (ev ρ) ⟨d,.slice t x (some lo) none none,ty,pos,af,g⟩).run P w=.ok (.value (.slice (some (ad.add (l*sz))) (n-l) (c-l))) w:=by
 rw [jn (lo:=some lo) (hi:=none) (l:=l) (h:=n) ht hsz hx ⟨k,m,hlo,hm⟩ rfl h1 h2,Yu Yo]
 rfl
end
theorem Rd.tN {w:World}{ad:Addr}{xs:List Value}{k:Nat}{v:Value} (h:Rd w ad xs) (hx:xs[k]?=some v):w.cell? (ad.add (k*1))=some v:=by
 rw [YV];exact h k v hx
def cO (l:List Nat):List Value:=l.map fun (d:Nat)=>.int .u64 (d:Int)
theorem a0 (l:List Nat):(cO l).length=l.length:=by simp [cO]
theorem eT {l:List Nat}{k d:Nat} (h:l[k]?=some d):(cO l)[k]?=some (.int .u64 (d:Int)):=by simp [cO,h]
theorem hQ (l:List Nat) (k d:Nat):(cO l).set k (.int .u64 (d:Int))=cO (l.set k d):=by simp [cO,aaB]
theorem Dc (a b:List Nat):cO (a++b)=cO a++cO b:=by simp [cO]
theorem yi (a:List Nat) (k:Nat):cO (a.take k)=(cO a).take k:=by simp [cO,List.map_take]
theorem yY (a:List Nat) (k:Nat):cO (a.drop k)=(cO a).drop k:=by simp [cO,aaV]
theorem dv (l:List Nat):((cO l).all Value.oneCell')=true:=by simp [cO,Value.oneCell']
theorem kT (n:Nat):iK n [Value.int .u64 0]=cO (List.replicate n 0):=by rw [rm];simp [cO]
def iE (l:List Nat):List Value:=l.map fun (d:Nat)=>.int .u8 (d:Int)
theorem dq (l:List Nat):(iE l).length=l.length:=by simp [iE]
theorem qh {l:List Nat}{k d:Nat} (h:l[k]?=some d):(iE l)[k]?=some (.int .u8 (d:Int)):=by simp [iE,h]
theorem re (l:List Nat) (k d:Nat):(iE l).set k (.int .u8 (d:Int))=iE (l.set k d):=by simp [iE,aaB]
theorem xr (a b:List Nat):iE (a++b)=iE a++iE b:=by simp [iE]
theorem BX (a:List Nat) (k:Nat):iE (a.take k)=(iE a).take k:=by simp [iE,List.map_take]
theorem ea (l:List Nat):((iE l).all Value.oneCell')=true:=by simp [iE,Value.oneCell']
theorem rE (n:Nat):iK n [Value.int .u8 0]=iE (List.replicate n 0):=by rw [rm];simp [iE]
theorem KK {l:List Nat} (h:∀d∈l,d<256):iE l=nB (l.map UInt8.ofNat):=by
 rw [iE,nB,Zs];apply ZV;intro d hd;have:=h d hd;simp only [Function.comp,abz];congr 2;omega
theorem Sl.Aw {w:World}{ad:Addr}{n:Nat}{ys:List Nat}{k d:Nat} (h:Sl w (some ad) n 1 (cO ys)) (hd:ys[k]?=some d):w.cell? (ad.add (k*1))=some (.int .u64 (d:Int)):=by
 have hl:=h.1;have hk:=(YL.1 hd).1;rw [a0] at hl;obtain ⟨ad',he,hr⟩:=h.2 Yo;injection he with he
 subst he;exact hr.tN (eT hd)
theorem AK {pre done r post:List Nat}{x:Nat}:(pre++(done++x::r)++post)[pre.length+done.length]?=some x:=by
 rw [Y5,ZC Yo,Y5,ZC Yo];simp
theorem oH {pre done r post:List Nat}{x y:Nat}:(pre++(done++x::r)++post).set (pre.length+done.length) y=pre++((done++[y])++r)++post:=by
 rw [Y5,aaz _ _ Yo,Y5,aaz _ _ Yo];simp
theorem de {cs:List Value}{o:Nat}{v:Value} (h:o<cs.length):cm cs o [v]=cs.set o v:=by
 unfold cm;rw [abO,Yt h];simp
theorem Hp.front {w0 w:World}{H:List HE}{x:HE} (h:Hp w0 H w) (i:Nat) (hi:H[i]?=some x):Hp w0 (x::H.eraseIdx i) w:=by
 have hp:H.Perm (x::H.eraseIdx i):=by
  clear h
  induction H generalizing i with
  |nil=>simp at hi
  |cons y H ih=>
   cases i with
   |zero=>simp at hi;subst hi;simp
   |succ i=>
    simp only [abe] at hi;simp only [List.eraseIdx_cons_succ];exact ((ih i hi).cons y).trans (List.Perm.swap x y _)
 exact ⟨h.below,fun y hy=>h.own y (hp.mem_iff.2 hy),(hp.filterMap _).nodup_iff.1 h.nd⟩
theorem Hp.Bm {w0 w:World}{H:List HE}{A:Option Addr}{n c:Nat}{t:TypeId}{sz:Nat}{xs:List Value} (h:Hp w0 (.row A n c t sz xs::H) w) {k:Nat} (hk:k≤n):Hp w0 (.row A k c t sz (xs.take (k*sz))::H) w:=by
 refine ⟨h.below,fun y hy=> ?_,h.nd⟩
 rcases YH.1 hy with rfl|hy
 ·have h1:w.ownsRow w0.heap.size t sz (.slice A n c) n xs:=h.own _ YD;obtain ⟨h2,h3⟩:=h1;have hkn:k*sz≤n*sz:=Zo _ hk;refine ⟨by rw [YM];omega, ?_⟩
  rcases h3 with ⟨h3,h4⟩|⟨g,cap,cur,hv,hb,hg,h4,h5,h6,h7⟩
  ·injection h3 with h5 h6 h7
   subst h5 h6 h7;exact .inl ⟨by rw [show k=0 by omega],Yo⟩
  ·injection hv with h8 h9 h10
   subst h8;refine .inr ⟨g,cap,cur,by rw [h10],hb,hg,Yo,h5,h6, ?_⟩;rw [←h7,List.take_take,ZK hkn]
 ·exact h.own y (YK _ hy)
theorem Hp.fQ {w0 w:World}{H:List HE}{A:Option Addr}{n c:Nat}{t:TypeId}{sz:Nat}{xs:List Value}{i:Nat} (h:Hp w0 H w) (hi:H[i]?=some (.row A n c t sz xs)):n≤c:=by
 have h1:w.ownsRow w0.heap.size t sz (.slice A n c) n xs:=h.at_ hi
 rcases h1.2 with ⟨h3,h4⟩|⟨g,cap,cur,hv,hb,hg,h4,h5,h6,h7⟩
 ·omega
 ·injection hv with h8 h9 h10
  omega
section
variable {ro:Mode}
section
variable {P:Program}{N:Nat}{ops:Array Oper}{Q:Kq}{ρ:Rf}{w w0:World}{rest:List Oper}{H:List HE}{d:Nat}{ty:TypeId}{pos:String}{af:Array Edge}
theorem sO {x:Operand}{v:Value} (hx:ev ρ x=v) (hN:d<N) (kk:WL ro P N ops Q rest (cP ρ d v) w):
  WL ro P N ops Q (⟨some d,.move x,ty,pos,af,none⟩::rest) ρ w:=aV rfl rfl hN (fV hx) kk
theorem kW {x:Operand}{v:Value} (hx:ev ρ x=v) (hN:d<N) (kk:WL ro P N ops Q rest (cP ρ d v) w):
  WL ro P N ops Q (⟨some d,.assign x,ty,pos,af,none⟩::rest) ρ w:=aV rfl rfl hN (Dq hx) kk
theorem Lt {c a b:Operand}{v:Value} (hc:ev ρ c=.bool true) (hx:ev ρ a=v) (hN:d<N) (kk:WL ro P N ops Q rest (cP ρ d v) w):
  WL ro P N ops Q (⟨some d,.pick c a b,ty,pos,af,none⟩::rest) ρ w:=aV rfl rfl hN (Dp hc hx) kk
theorem N7 {c a b:Operand}{v:Value} (hc:ev ρ c=.bool false) (hx:ev ρ b=v) (hN:d<N) (kk:WL ro P N ops Q rest (cP ρ d v) w):
  WL ro P N ops Q (⟨some d,.pick c a b,ty,pos,af,none⟩::rest) ρ w:=aV rfl rfl hN (C7 hc hx) kk
section
variable {t u:TypeId}{x y:Operand}{k:IntKind}{a b:Int}
theorem Ov {k':IntKind} (hx:ev ρ x=.int k a) (hy:ev ρ y=.int k' b) (hb:0≤b) (hN:d<N) (kk:WL ro P N ops Q rest (cP ρ d (.int k (k.wrap (a*2^(min b.toNat k.bits))))) w):
  WL ro P N ops Q (⟨some d,.binOp .shl t x y u,ty,pos,af,none⟩::rest) ρ w:=aV rfl rfl hN (Ra hx hy hb) kk
theorem L8 {k':IntKind} (hx:ev ρ x=.int k a) (hy:ev ρ y=.int k' b) (hb:0≤b) (hN:d<N) (kk:WL ro P N ops Q rest (cP ρ d (.int k (a.fdiv (2^(min b.toNat k.bits))))) w):
  WL ro P N ops Q (⟨some d,.binOp .shr t x y u,ty,pos,af,none⟩::rest) ρ w:=aV rfl rfl hN (Sp hx hy hb) kk
theorem Ha (hx:ev ρ x=.int k a) (hy:ev ρ y=.int k b) (hN:d<N) (kk:WL ro P N ops Q rest (cP ρ d (.bool (decide (a=b)))) w):
  WL ro P N ops Q (⟨some d,.binOp .eql t x y u,ty,pos,af,none⟩::rest) ρ w:=aV rfl rfl hN (H0 hx hy) kk
theorem UN (hx:ev ρ x=.int .i64 a) (hy:ev ρ y=.int .i64 b) (h1: -9223372036854775808≤a+b) (h2:a+b≤9223372036854775807) (hN:d<N) (kk:WL ro P N ops Q rest (cP ρ d (.int .i64 (a+b))) w):
  WL ro P N ops Q (⟨some d,.binOp .add t x y u,ty,pos,af,none⟩::rest) ρ w:=aV rfl rfl hN (OL hx hy h1 h2) kk
theorem TI (hx:ev ρ x=.int .i64 a) (hy:ev ρ y=.int .i64 b) (h1: -9223372036854775808≤a-b) (h2:a-b≤9223372036854775807) (hN:d<N) (kk:WL ro P N ops Q rest (cP ρ d (.int .i64 (a-b))) w):
  WL ro P N ops Q (⟨some d,.binOp .sub t x y u,ty,pos,af,none⟩::rest) ρ w:=aV rfl rfl hN (M4 hx hy h1 h2) kk
theorem Tn (hx:ev ρ x=.int .i64 a) (hy:ev ρ y=.int .i64 b) (h1: -9223372036854775808≤a*b) (h2:a*b≤9223372036854775807) (hN:d<N) (kk:WL ro P N ops Q rest (cP ρ d (.int .i64 (a*b))) w):
  WL ro P N ops Q (⟨some d,.binOp .mul t x y u,ty,pos,af,none⟩::rest) ρ w:=aV rfl rfl hN (Mk hx hy h1 h2) kk
theorem Um (hx:ev ρ x=.int .i64 a) (h1: -9223372036854775808≤ -a) (h2: -a≤9223372036854775807) (hN:d<N) (kk:WL ro P N ops Q rest (cP ρ d (.int .i64 (-a))) w):
  WL ro P N ops Q (⟨some d,.unOp .neg t x,ty,pos,af,none⟩::rest) ρ w:=aV rfl rfl hN (ND hx h1 h2) kk
theorem TE (hx:ev ρ x=.int .i64 a) (hy:ev ρ y=.int .i64 b) (ha:0≤a) (hb:0<b) (h2:a≤9223372036854775807) (hN:d<N) (kk:WL ro P N ops Q rest (cP ρ d (.int .i64 (a/b))) w):
  WL ro P N ops Q (⟨some d,.binOp .quo t x y u,ty,pos,af,none⟩::rest) ρ w:=aV rfl rfl hN (wu hx hy ha hb h2) kk
theorem TF (hx:ev ρ x=.int .i64 a) (hy:ev ρ y=.int .i64 b) (ha:0≤a) (hb:0<b) (hN:d<N) (kk:WL ro P N ops Q rest (cP ρ d (.int .i64 (a % b))) w):
  WL ro P N ops Q (⟨some d,.binOp .rem t x y u,ty,pos,af,none⟩::rest) ρ w:=aV rfl rfl hN (pX hx hy ha hb) kk
end
theorem Wc {t:TypeId}{x:Operand}{b:Bool} (hx:ev ρ x=.bool b) (hN:d<N) (kk:WL ro P N ops Q rest (cP ρ d (.bool !b)) w):
  WL ro P N ops Q (⟨some d,.unOp .not t x,ty,pos,af,none⟩::rest) ρ w:=aV rfl rfl hN (Rc hx) kk
section
variable {t u:TypeId}{x y:Operand}{a b:Bool}
theorem qg (ht:P.underlying t=some .bool) (hx:ev ρ x=.bool a) (hy:ev ρ y=.bool b) (hN:d<N) (kk:WL ro P N ops Q rest (cP ρ d (.bool (a !=b))) w):
  WL ro P N ops Q (⟨some d,.binOp .neq t x y u,ty,pos,af,none⟩::rest) ρ w:=aV rfl rfl hN (mw ht hx hy) kk
end
section
variable {t u:TypeId}{x y:Operand}{a b:ByteArray}
theorem jE (hx:ev ρ x=.string a) (hy:ev ρ y=.string b) (h:a=b) (hN:d<N) (kk:WL ro P N ops Q rest (cP ρ d (.bool true)) w):
  WL ro P N ops Q (⟨some d,.binOp .eql t x y u,ty,pos,af,none⟩::rest) ρ w:=aV rfl rfl hN (BT hx hy h) kk
theorem jG (hx:ev ρ x=.string a) (hy:ev ρ y=.string b) (h:¬a=b) (hN:d<N) (kk:WL ro P N ops Q rest (cP ρ d (.bool false)) w):
  WL ro P N ops Q (⟨some d,.binOp .eql t x y u,ty,pos,af,none⟩::rest) ρ w:=aV rfl rfl hN (Ee hx hy h) kk
theorem jz (hx:ev ρ x=.string a) (hy:ev ρ y=.string b) (h:¬a=b) (hN:d<N) (kk:WL ro P N ops Q rest (cP ρ d (.bool true)) w):
  WL ro P N ops Q (⟨some d,.binOp .neq t x y u,ty,pos,af,none⟩::rest) ρ w:=aV rfl rfl hN (Cd hx hy h) kk
theorem jD (hx:ev ρ x=.string a) (hy:ev ρ y=.string b) (h:a=b) (hN:d<N) (kk:WL ro P N ops Q rest (cP ρ d (.bool false)) w):
  WL ro P N ops Q (⟨some d,.binOp .neq t x y u,ty,pos,af,none⟩::rest) ρ w:=aV rfl rfl hN (Eb hx hy h) kk
theorem se (hx:ev ρ x=.string a) (hy:ev ρ y=.string b) (hN:d<N) (kk:WL ro P N ops Q rest (cP ρ d (.bool (Op.bytesLess a.toList b.toList))) w):
  WL ro P N ops Q (⟨some d,.binOp .lss t x y u,ty,pos,af,none⟩::rest) ρ w:=aV rfl rfl hN (Jg hx hy) kk
theorem Ki (hx:ev ρ x=.string a) (hy:ev ρ y=.string b) (hN:d<N) (kk:WL ro P N ops Q rest (cP ρ d (.bool !(Op.bytesLess a.toList b.toList||a.toList==b.toList))) w):
  WL ro P N ops Q (⟨some d,.binOp .gtr t x y u,ty,pos,af,none⟩::rest) ρ w:=aV rfl rfl hN (KE hx hy) kk
theorem yH (hx:ev ρ x=.string a) (hy:ev ρ y=.string b) (hN:d<N) (kk:WL ro P N ops Q rest (cP ρ d (.bool !(Op.bytesLess a.toList b.toList))) w):
  WL ro P N ops Q (⟨some d,.binOp .geq t x y u,ty,pos,af,none⟩::rest) ρ w:=aV rfl rfl hN (Jy hx hy) kk
end
theorem wB {s t:TypeId}{x:Operand}{k k':IntKind}{a:Int}{sd:TypeDesc} (hs:P.underlying s=some sd) (ht:P.underlying t=some (.int k)) (hx:ev ρ x=.int k' a) (hN:d<N) (kk:WL ro P N ops Q rest (cP ρ d (.int k (k.wrap a))) w):
  WL ro P N ops Q (⟨some d,.convert s t x,ty,pos,af,none⟩::rest) ρ w:=aV rfl rfl hN (mU hs ht hx) kk
theorem Gc {s t:TypeId}{x:Operand}{k':IntKind}{a:Int}{sd:TypeDesc} (hs:P.underlying s=some sd) (ht:P.underlying t=some (.int .i64)) (hx:ev ρ x=.int k' a) (h1: -9223372036854775808≤a) (h2:a≤9223372036854775807) (hN:d<N) (kk:WL ro P N ops Q rest (cP ρ d (.int .i64 a)) w):
  WL ro P N ops Q (⟨some d,.convert s t x,ty,pos,af,none⟩::rest) ρ w:=aV rfl rfl hN (Gr hs ht hx h1 h2) kk
theorem Js {x:Operand}{i:Nat}{vs:List Value}{v:Value} (hx:ev ρ x=.tuple vs.toArray) (hv:vs[i]?=some v) (hN:d<N) (kk:WL ro P N ops Q rest (cP ρ d v) w):
  WL ro P N ops Q (⟨some d,.extract x i,ty,pos,af,none⟩::rest) ρ w:=aV rfl rfl hN (eM hx hv) kk
theorem xx {fn:Fn}{first captured:Array Operand}{fs cs:List Value} (hf:yg ρ first.toList=fs) (hc:yg ρ captured.toList=cs) (hN:d<N) (kk:WL ro P N ops Q rest (cP ρ d (.func fn fs.toArray cs.toArray)) w):
  WL ro P N ops Q (⟨some d,.makeFunc fn first captured,ty,pos,af,none⟩::rest) ρ w:=aV rfl rfl hN (qw hf hc) kk
theorem ck {x:Operand}{t:TypeId}{s:ByteArray} (ht:P.underlying t=some .string) (hx:ev ρ x=.string s) (hN:d<N) (kk:WL ro P N ops Q rest (cP ρ d (.int .i64 s.size)) w):
  WL ro P N ops Q (⟨some d,.call ⟨.builtin .len, #[x], #[t]⟩,ty,pos,af,none⟩::rest) ρ w:=aV rfl rfl hN (KO ht hx) kk
theorem Ld {x:Operand}{t e:TypeId}{A:Option Addr}{n c:Nat} (ht:P.underlying t=some (.slice e)) (hx:ev ρ x=.slice A n c) (hN:d<N) (kk:WL ro P N ops Q rest (cP ρ d (.int .i64 n)) w):
  WL ro P N ops Q (⟨some d,.call ⟨.builtin .len, #[x], #[t]⟩,ty,pos,af,none⟩::rest) ρ w:=aV rfl rfl hN (CZ ht hx) kk
theorem zZ {x y:Operand}{ts:Array TypeId}{k:IntKind}{a b:Int} (hx:ev ρ x=.int k a) (hy:ev ρ y=.int k b) (hN:d<N) (kk:WL ro P N ops Q rest (cP ρ d (.int k (if b<a then b else a))) w):
  WL ro P N ops Q (⟨some d,.call ⟨.builtin .min, #[x,y],ts⟩,ty,pos,af,none⟩::rest) ρ w:=aV rfl rfl hN (Tb hx hy) kk
theorem k9 {x y:Operand}{ts:Array TypeId}{k:IntKind}{a b:Int} (hx:ev ρ x=.int k a) (hy:ev ρ y=.int k b) (hN:d<N) (kk:WL ro P N ops Q rest (cP ρ d (.int k (if b>a then b else a))) w):
  WL ro P N ops Q (⟨some d,.call ⟨.builtin .max, #[x,y],ts⟩,ty,pos,af,none⟩::rest) ρ w:=aV rfl rfl hN (RQ hx hy) kk
theorem tL {t:TypeId}{x i:Operand}{s:ByteArray}{n:Int}{k:IntKind}{c:UInt8} (ht:P.underlying t=some .string) (hx:ev ρ x=.string s) (hi:ev ρ i=.int k n)
  (h0:0≤n) (hc:s.data.toList[n.toNat]?=some c) (hN:d<N) (kk:WL ro P N ops Q rest (cP ρ d (.int .u8 c.toNat)) w):
  WL ro P N ops Q (⟨some d,.index t x i,ty,pos,af,none⟩::rest) ρ w:=aV rfl rfl hN (tG ht hx hi h0 hc) kk
theorem tT {t:TypeId}{x:Operand}{lo hi:Option Operand}{s:ByteArray}{l h:Nat} (ht:P.underlying t=some .string) (hx:ev ρ x=.string s)
  (hlo:match lo with|none=>l=0|some o=>∃(k:IntKind) (n:Int),ev ρ o=.int k n∧n=l) (hhi:match hi with|none=>h=s.size|some o=>∃(k:IntKind) (n:Int),ev ρ o=.int k n∧n=h)
  (h1:l≤h) (h2:h≤s.size) (hN:d<N) (kk:WL ro P N ops Q rest (cP ρ d (.string (s.extract l h))) w):
  WL ro P N ops Q (⟨some d,.slice t x lo hi none,ty,pos,af,none⟩::rest) ρ w:=aV rfl rfl hN (Di ht hx hlo hhi h1 h2) kk
theorem Dz {t e:TypeId}{x i:Operand}{ad:Addr}{n c sz:Nat}{k:IntKind}{m:Int} (ht:P.underlying t=some (.slice e)) (hsz:(P.info? e).map (·.size)=some sz) (hx:ev ρ x=.slice (some ad) n c) (hi:ev ρ i=.int k m)
  (h0:0≤m) (h1:m<n) (hN:d<N) (kk:WL ro P N ops Q rest (cP ρ d (.pointer (some (ad.add (m.toNat*sz))))) w):
  WL ro P N ops Q (⟨some d,.indexAddr t x i,ty,pos,af,none⟩::rest) ρ w:=aV rfl rfl hN (ew ht hsz hx hi h0 h1) kk
theorem cJ {t e:TypeId}{x i:Operand}{b n c sz k:Nat}{kk:IntKind}{m:Int} (ht:P.underlying t=some (.slice e)) (hsz:(P.info? e).map (·.size)=some sz) (hx:ev ρ x=.slice (some ⟨b,0,none⟩) n c) (hi:ev ρ i=.int kk m)
  (hm:m=(k:Int)) (h1:k<n) (hN:d<N) (kk:WL ro P N ops Q rest (cP ρ d (.pointer (some ⟨b,k*sz,none⟩))) w):
  WL ro P N ops Q (⟨some d,.indexAddr t x i,ty,pos,af,none⟩::rest) ρ w:=aV rfl rfl hN (vH ht hsz hx hi hm h1) kk
theorem cg {t:TypeId}{x:Operand}{ad:Addr}{n by':Nat}{zc vs:List Value} (ht:eu P t=some (n,true,by',zc)) (hx:ev ρ x=.pointer (some ad)) (hr:Rd w ad vs) (hl:vs.length=n) (hN:d<N) (kk:WL ro P N ops Q rest (cP ρ d (.agg vs.toArray)) w):
  WL ro P N ops Q (⟨some d,.load t x,ty,pos,af,none⟩::rest) ρ w:=aV rfl rfl hN (Fe ht hx hr hl) kk
theorem bY {t:TypeId}{x:Operand}{ad:Addr}{n by':Nat}{zc:List Value}{v:Value} (ht:eu P t=some (n,false,by',zc)) (hx:ev ρ x=.pointer (some ad)) (hc:w.cell? ad=some v) (hN:d<N) (kk:WL ro P N ops Q rest (cP ρ d v) w):
  WL ro P N ops Q (⟨some d,.load t x,ty,pos,af,none⟩::rest) ρ w:=aV rfl rfl hN (iL ht hx hc) kk
theorem Ca {s:TypeId}{x:Operand}{f b o off:Nat}{ft:TypeId} (hf:jd P s f=some (off,ft)) (hx:ev ρ x=.pointer (some ⟨b,o,none⟩)) (hN:d<N) (kk:WL ro P N ops Q rest (cP ρ d (.pointer (some ⟨b,o+off,none⟩))) w):
  WL ro P N ops Q (⟨some d,.fieldAddr s x f,ty,pos,af,none⟩::rest) ρ w:=aV rfl rfl hN (tM hf hx) kk
theorem AM {s:TypeId}{x:Operand}{f off:Nat}{ad:Addr}{ft:TypeId} (hf:jd P s f=some (off,ft)) (hx:ev ρ x=.pointer (some ad)) (hN:d<N) (kk:WL ro P N ops Q rest (cP ρ d (.pointer (some (ad.add off)))) w):
  WL ro P N ops Q (⟨some d,.fieldAddr s x f,ty,pos,af,none⟩::rest) ρ w:=aV rfl rfl hN (q9 hf hx) kk
theorem Pm {s:TypeId}{x:Operand}{f off n by':Nat}{ft:TypeId}{cs vs:Array Value}{zc:List Value} (hf:jd P s f=some (off,ft)) (ht:eu P ft=some (n,true,by',zc)) (hx:ev ρ x=.agg cs) (hv:cs.extract off (off+n)=vs) (hN:d<N) (kk:WL ro P N ops Q rest (cP ρ d (.agg vs)) w):
  WL ro P N ops Q (⟨some d,.field s x f,ty,pos,af,none⟩::rest) ρ w:=aV rfl rfl hN (Qk hf ht hx hv) kk
theorem Pc {t:TypeId}{n by':Nat}{parts:Array (Nat×Operand)}{ps:List (Nat×Value)}{zc cs:List Value}{pl:List (Nat×Nat)} (hte:eu P t=some (n,true,by',zc))
  (hpl:rG P t=some pl)
  (hp:BR ρ parts.toList=ps) (hf:mj (pl[·]?) zc ps=some cs) (hN:d<N) (kk:WL ro P N ops Q rest (cP ρ d (.agg cs.toArray)) w):
  WL ro P N ops Q (⟨some d,.build t parts,ty,pos,af,none⟩::rest) ρ w:=aV rfl rfl hN (mJ hte hpl hp hf) kk
theorem tD {s t e:TypeId}{x:Operand}{A:Option Addr}{n c:Nat}{l:List UInt8} (hs:P.underlying s=some (.slice e)) (he:P.underlying e=some (.int .u8)) (ht:P.underlying t=some .string)
  (hx:ev ρ x=.slice A n c) (h:Sl w A n 1 (nB l)) (hN:d<N) (kk:WL ro P N ops Q rest (cP ρ d (.string ⟨l.toArray⟩)) w):
  WL ro P N ops Q (⟨some d,.convert s t x,ty,pos,af,none⟩::rest) ρ w:=aV rfl rfl hN (nL hs he ht hx h) kk
section
variable {t u:TypeId}{x y:Operand}{k:IntKind}{q M:Nat}{a b:Nat}
theorem fM [UK k q M] (hx:ev ρ x=.int k (a:Int)) (hy:ev ρ y=.int k (b:Int)) (hN:d<N) (kk:WL ro P N ops Q rest (cP ρ d (.int k (((a+b) % M:Nat):Int))) w):
  WL ro P N ops Q (⟨some d,.binOp .add t x y u,ty,pos,af,none⟩::rest) ρ w:=aV rfl rfl hN (T9 hx hy) kk
theorem sW [UK k q M] (hx:ev ρ x=.int k (a:Int)) (hy:ev ρ y=.int k (b:Int)) (hb:b≤M) (hN:d<N) (kk:WL ro P N ops Q rest (cP ρ d (.int k (((a+M-b) % M:Nat):Int))) w):
  WL ro P N ops Q (⟨some d,.binOp .sub t x y u,ty,pos,af,none⟩::rest) ρ w:=aV rfl rfl hN (Ud hx hy hb) kk
theorem gO [UK k q M] (hx:ev ρ x=.int k (a:Int)) (hy:ev ρ y=.int k (b:Int)) (hN:d<N) (kk:WL ro P N ops Q rest (cP ρ d (.int k (((a*b) % M:Nat):Int))) w):
  WL ro P N ops Q (⟨some d,.binOp .mul t x y u,ty,pos,af,none⟩::rest) ρ w:=aV rfl rfl hN (TJ hx hy) kk
theorem Gj [UK k q M] (hx:ev ρ x=.int k (a:Int)) (hy:ev ρ y=.int k (b:Int)) (hb:0<b) (ha:a<M) (hN:d<N) (kk:WL ro P N ops Q rest (cP ρ d (.int k ((a/b:Nat):Int))) w):
  WL ro P N ops Q (⟨some d,.binOp .quo t x y u,ty,pos,af,none⟩::rest) ρ w:=aV rfl rfl hN (LB hx hy hb ha) kk
theorem Fi (hx:ev ρ x=.int k (a:Int)) (hy:ev ρ y=.int k (b:Int)) (hb:0<b) (hN:d<N) (kk:WL ro P N ops Q rest (cP ρ d (.int k ((a % b:Nat):Int))) w):
  WL ro P N ops Q (⟨some d,.binOp .rem t x y u,ty,pos,af,none⟩::rest) ρ w:=aV rfl rfl hN (MV hx hy hb) kk
theorem Wj [h:UK k q M] (hx:ev ρ x=.int k (a:Int)) (hy:ev ρ y=.int k (b:Int)) (ha:a<M) (hb:b<M) (hN:d<N) (kk:WL ro P N ops Q rest (cP ρ d (.int k ((a|||b:Nat):Int))) w):
  WL ro P N ops Q (⟨some d,.binOp .or t x y u,ty,pos,af,none⟩::rest) ρ w:=aV rfl rfl hN (Wa hx hy ha hb) kk
theorem EY [h:UK k q M] (hx:ev ρ x=.int k (a:Int)) (hy:ev ρ y=.int k (b:Int)) (ha:a<M) (hb:b<M) (hN:d<N) (kk:WL ro P N ops Q rest (cP ρ d (.int k ((a &&& b:Nat):Int))) w):
  WL ro P N ops Q (⟨some d,.binOp .and t x y u,ty,pos,af,none⟩::rest) ρ w:=aV rfl rfl hN (T0 hx hy ha hb) kk
theorem FD [h:UK k q M] {k':IntKind}{s:Int} (hx:ev ρ x=.int k (a:Int)) (hy:ev ρ y=.int k' s) (hs:0≤s∧s≤q) (hN:d<N) (kk:WL ro P N ops Q rest (cP ρ d (.int k (((a*2^s.toNat) % M:Nat):Int))) w):
  WL ro P N ops Q (⟨some d,.binOp .shl t x y u,ty,pos,af,none⟩::rest) ρ w:=aV rfl rfl hN (xk hx hy hs) kk
theorem wD [h:UK k q M] {k':IntKind}{s:Int} (hx:ev ρ x=.int k (a:Int)) (hy:ev ρ y=.int k' s) (hs:0≤s∧s≤q) (hN:d<N) (kk:WL ro P N ops Q rest (cP ρ d (.int k ((a/2^s.toNat:Nat):Int))) w):
  WL ro P N ops Q (⟨some d,.binOp .shr t x y u,ty,pos,af,none⟩::rest) ρ w:=aV rfl rfl hN (ER hx hy hs) kk
theorem m0 [UK k q M] {k':IntKind}{s m:Nat} (hx:ev ρ x=.int k (a:Int)) (hy:ev ρ y=.int k' (s:Int)) (hs:s≤q) (hm:2^s=m) (hN:d<N) (kk:WL ro P N ops Q rest (cP ρ d (.int k ((a/m:Nat):Int))) w):
  WL ro P N ops Q (⟨some d,.binOp .shr t x y u,ty,pos,af,none⟩::rest) ρ w:=aV rfl rfl hN (QD hx hy hs hm) kk
theorem Ml [h:UK k q M] (hx:ev ρ x=.int k (a:Int)) (ha:a≤M) (hN:d<N) (kk:WL ro P N ops Q rest (cP ρ d (.int k (((M-a) % M:Nat):Int))) w):
  WL ro P N ops Q (⟨some d,.unOp .neg t x,ty,pos,af,none⟩::rest) ρ w:=aV rfl rfl hN (TX hx ha) kk
theorem Qb [UK k q M] {s t:TypeId}{k':IntKind}{sd:TypeDesc} (hs:P.underlying s=some sd) (ht:P.underlying t=some (.int k)) (hx:ev ρ x=.int k' (a:Int)) (hN:d<N) (kk:WL ro P N ops Q rest (cP ρ d (.int k ((a % M:Nat):Int))) w):
  WL ro P N ops Q (⟨some d,.convert s t x,ty,pos,af,none⟩::rest) ρ w:=aV rfl rfl hN (Pe hs ht hx) kk
theorem Fg [UK k q M] {s t:TypeId}{k':IntKind}{sd:TypeDesc} (hs:P.underlying s=some sd) (ht:P.underlying t=some (.int k)) (hx:ev ρ x=.int k' (a:Int)) (ha:a<M) (hN:d<N) (kk:WL ro P N ops Q rest (cP ρ d (.int k (a:Int))) w):
  WL ro P N ops Q (⟨some d,.convert s t x,ty,pos,af,none⟩::rest) ρ w:=aV rfl rfl hN (wV hs ht hx ha) kk
end
section
variable {t u:TypeId}{x y:Operand}{k:IntKind}{a b:Int}
theorem OY (hx:ev ρ x=.int k a) (hy:ev ρ y=.int k b) (hN:d<N) (kk:WL ro P N ops Q rest (cP ρ d (.bool (decide (a<b)))) w):
  WL ro P N ops Q (⟨some d,.binOp .lss t x y u,ty,pos,af,none⟩::rest) ρ w:=aV rfl rfl hN (IK hx hy) kk
theorem QB (hx:ev ρ x=.int k a) (hy:ev ρ y=.int k b) (hN:d<N) (kk:WL ro P N ops Q rest (cP ρ d (.bool (decide (a≤b)))) w):
  WL ro P N ops Q (⟨some d,.binOp .leq t x y u,ty,pos,af,none⟩::rest) ρ w:=aV rfl rfl hN (Hi hx hy) kk
theorem QW (hx:ev ρ x=.int k a) (hy:ev ρ y=.int k b) (hN:d<N) (kk:WL ro P N ops Q rest (cP ρ d (.bool (decide (b<a)))) w):
  WL ro P N ops Q (⟨some d,.binOp .gtr t x y u,ty,pos,af,none⟩::rest) ρ w:=aV rfl rfl hN (HG hx hy) kk
theorem Qc (hx:ev ρ x=.int k a) (hy:ev ρ y=.int k b) (hN:d<N) (kk:WL ro P N ops Q rest (cP ρ d (.bool (decide (b≤a)))) w):
  WL ro P N ops Q (⟨some d,.binOp .geq t x y u,ty,pos,af,none⟩::rest) ρ w:=aV rfl rfl hN (Qw hx hy) kk
theorem Qf (hx:ev ρ x=.int k a) (hy:ev ρ y=.int k b) (hN:d<N) (kk:WL ro P N ops Q rest (cP ρ d (.bool (decide (a≠b)))) w):
  WL ro P N ops Q (⟨some d,.binOp .neq t x y u,ty,pos,af,none⟩::rest) ρ w:=aV rfl rfl hN (P7 hx hy) kk
end
section
variable {t u:TypeId}{x y:Operand}{a b:Bool}
theorem Jb (ht:P.underlying t=some .bool) (hx:ev ρ x=.bool a) (hy:ev ρ y=.bool b) (h:a=b) (hN:d<N) (kk:WL ro P N ops Q rest (cP ρ d (.bool true)) w):
  WL ro P N ops Q (⟨some d,.binOp .eql t x y u,ty,pos,af,none⟩::rest) ρ w:=aV rfl rfl hN (P8 ht hx hy h) kk
theorem Qn (ht:P.underlying t=some .bool) (hx:ev ρ x=.bool a) (hy:ev ρ y=.bool b) (h:¬a=b) (hN:d<N) (kk:WL ro P N ops Q rest (cP ρ d (.bool false)) w):
  WL ro P N ops Q (⟨some d,.binOp .eql t x y u,ty,pos,af,none⟩::rest) ρ w:=aV rfl rfl hN (P5 ht hx hy h) kk
theorem GO (ht:P.underlying t=some .bool) (hx:ev ρ x=.bool a) (hy:ev ρ y=.bool b) (h:¬a=b) (hN:d<N) (kk:WL ro P N ops Q rest (cP ρ d (.bool true)) w):
  WL ro P N ops Q (⟨some d,.binOp .neq t x y u,ty,pos,af,none⟩::rest) ρ w:=aV rfl rfl hN (Pg ht hx hy h) kk
theorem PE (ht:P.underlying t=some .bool) (hx:ev ρ x=.bool a) (hy:ev ρ y=.bool b) (h:a=b) (hN:d<N) (kk:WL ro P N ops Q rest (cP ρ d (.bool false)) w):
  WL ro P N ops Q (⟨some d,.binOp .neq t x y u,ty,pos,af,none⟩::rest) ρ w:=aV rfl rfl hN (PV ht hx hy h) kk
end
theorem cN {t e:TypeId}{x i:Operand}{ad:Addr}{n c sz k:Nat}{kk:IntKind}{m:Int} (ht:P.underlying t=some (.slice e)) (hsz:(P.info? e).map (·.size)=some sz) (hx:ev ρ x=.slice (some ad) n c) (hi:ev ρ i=.int kk m)
  (hm:m=(k:Int)) (h1:k<n) (hN:d<N) (kk:WL ro P N ops Q rest (cP ρ d (.pointer (some (ad.add (k*sz))))) w):
  WL ro P N ops Q (⟨some d,.indexAddr t x i,ty,pos,af,none⟩::rest) ρ w:=aV rfl rfl hN (ju ht hsz hx hi hm h1) kk
theorem qi {t e:TypeId}{x i:Operand}{b o n c sz k:Nat}{kk:IntKind}{m:Int} (ht:P.underlying t=some (.slice e)) (hsz:(P.info? e).map (·.size)=some sz) (hx:ev ρ x=.slice (some ⟨b,o,none⟩) n c) (hi:ev ρ i=.int kk m)
  (hm:m=(k:Int)) (h1:k<n) (hN:d<N) (kk:WL ro P N ops Q rest (cP ρ d (.pointer (some ⟨b,o+k*sz,none⟩))) w):
  WL ro P N ops Q (⟨some d,.indexAddr t x i,ty,pos,af,none⟩::rest) ρ w:=aV rfl rfl hN (EX ht hsz hx hi hm h1) kk
theorem Gk {t e:TypeId}{x i:Operand}{ad:Addr}{n sz k:Nat}{kk:IntKind}{m:Int} (ht:P.underlying t=some (.array n e)) (hsz:(P.info? e).map (·.size)=some sz) (hx:ev ρ x=.pointer (some ad)) (hi:ev ρ i=.int kk m)
  (hm:m=(k:Int)) (h1:k<n) (hN:d<N) (kk:WL ro P N ops Q rest (cP ρ d (.pointer (some (ad.add (k*sz))))) w):
  WL ro P N ops Q (⟨some d,.indexAddr t x i,ty,pos,af,none⟩::rest) ρ w:=aV rfl rfl hN (EM ht hsz hx hi hm h1) kk
theorem nP {t e:TypeId}{x hi:Operand}{A:Option Addr}{n c h sz:Nat}{k:IntKind}{m:Int} (ht:P.underlying t=some (.slice e)) (hsz:(P.info? e).map (·.size)=some sz) (hx:ev ρ x=.slice A n c) (hhi:ev ρ hi=.int k m)
  (hm:m=(h:Int)) (h2:h≤c) (hN:d<N) (kk:WL ro P N ops Q rest (cP ρ d (.slice A h c)) w):
  WL ro P N ops Q (⟨some d,.slice t x none (some hi) none,ty,pos,af,none⟩::rest) ρ w:=aV rfl rfl hN (BM ht hsz hx hhi hm h2) kk
theorem GB {t e:TypeId}{x lo:Operand}{b o n c l sz:Nat}{k:IntKind}{m:Int} (ht:P.underlying t=some (.slice e)) (hsz:(P.info? e).map (·.size)=some sz) (hx:ev ρ x=.slice (some ⟨b,o,none⟩) n c) (hlo:ev ρ lo=.int k m)
  (hm:m=(l:Int)) (h1:l≤n) (h2:n≤c) (h3:l<c) (hN:d<N) (kk:WL ro P N ops Q rest (cP ρ d (.slice (some ⟨b,o+l*sz,none⟩) (n-l) (c-l))) w):
  WL ro P N ops Q (⟨some d,.slice t x (some lo) none none,ty,pos,af,none⟩::rest) ρ w:=aV rfl rfl hN (ET ht hsz hx hlo hm h1 h2 h3) kk
theorem Cr {t e:TypeId}{x lo:Operand}{ad:Addr}{n c l sz:Nat}{k:IntKind}{m:Int} (ht:P.underlying t=some (.slice e)) (hsz:(P.info? e).map (·.size)=some sz) (hx:ev ρ x=.slice (some ad) n c) (hlo:ev ρ lo=.int k m)
  (hm:m=(l:Int)) (h1:l≤n) (h2:n≤c) (h3:l<c) (hN:d<N) (kk:WL ro P N ops Q rest (cP ρ d (.slice (some (ad.add (l*sz))) (n-l) (c-l))) w):
  WL ro P N ops Q (⟨some d,.slice t x (some lo) none none,ty,pos,af,none⟩::rest) ρ w:=aV rfl rfl hN (Cc ht hsz hx hlo hm h1 h2 h3) kk
theorem bh:yg ρ []=[]:=rfl
theorem aC {x:Operand}{l:List Operand}{v:Value}{r:List Value} (hx:ev ρ x=v) (h:yg ρ l=r):yg ρ (x::l)=v::r:=by simp only [yg,hx,h]
theorem dN:BR ρ []=[]:=rfl
theorem bQ {i:Nat}{x:Operand}{l:List (Nat×Operand)}{v:Value}{r:List (Nat×Value)} (hx:ev ρ x=v) (h:BR ρ l=r):BR ρ ((i,x)::l)=(i,v)::r:=by simp only [BR,hx,h]
def EU (P:Program) (f:FuncId):Bool:=match P.funcs[f]? with|some fn=> !fn.body.isNone && !(fn.name== "runtime.NumGoroutine")|none=>false
theorem yM {P:Program}{f:FuncId} (h:EU P f=true):∃fn,P.funcs[f]?=some fn∧fn.body.isNone=false∧(fn.name== "runtime.NumGoroutine")=false:=by
 unfold EU at h;split at h
 ·rename_i fn hf;simp only [YP,abw] at h;exact ⟨fn,hf,h.1,h.2⟩
 ·cases h
theorem bf {dd:Option Nat}{g:Option (Nat×Bool)}{f:FuncId}{args:Array Operand}{ts:Array TypeId}{vs:List Value} (hf:EU P f=true) (ha:yg ρ args.toList=vs):
  (execOp (ev ρ) ⟨dd,.call ⟨.value (.func f),args,ts⟩,ty,pos,af,g⟩).run P w=.ok (.enter f vs.toArray) w:=by
 obtain ⟨fn,h1,h2,h3⟩:=yM hf;have:=M5 (P:=P) (w:=w) (d:=dd) (ty:=ty) (pos:=pos) (af:=af) (g:=g) (ts:=ts) h1 h2 h3 (show ev ρ (.func f)=.func (.func f) #[] #[] from rfl) (oT args ha);simpa using this
theorem J3 {dd:Option Nat}{g:Option (Nat×Bool)}{x:Operand}{f:FuncId}{args:Array Operand}{ts:Array TypeId}{first cap vs:List Value} (hf:EU P f=true) (hx:ev ρ x=.func (.func f) first.toArray cap.toArray) (ha:first++(yg ρ args.toList++cap)=vs):
  (execOp (ev ρ) ⟨dd,.call ⟨.value x,args,ts⟩,ty,pos,af,g⟩).run P w=.ok (.enter f vs.toArray) w:=by
 obtain ⟨fn,h1,h2,h3⟩:=yM hf;have:=M5 (P:=P) (w:=w) (d:=dd) (ty:=ty) (pos:=pos) (af:=af) (g:=g) (ts:=ts) h1 h2 h3 hx (oT args rfl);subst ha;simpa using this
theorem ay {f:FuncId}{args:Array Operand}{ts:Array TypeId}{vs:List Value}{R:Ending→World→Prop} (hc:Calls P f vs.toArray w R) (hf:EU P f=true) (ha:yg ρ args.toList=vs) (hN:d<N)
  (kk:∀e w',R e w'→∃v,e=.returned v∧WL ro P N ops Q rest (cP ρ d v) w'):WL ro P N ops Q (⟨some d,.call ⟨.value (.func f),args,ts⟩,ty,pos,af,none⟩::rest) ρ w:=
 Ei rfl rfl hN (bf hf ha) hc kk
theorem gU {x:Operand}{f:FuncId}{args:Array Operand}{ts:Array TypeId}{first cap vs:List Value}{R:Ending→World→Prop} (hc:Calls P f vs.toArray w R) (hf:EU P f=true) (hx:ev ρ x=.func (.func f) first.toArray cap.toArray) (ha:first++(yg ρ args.toList++cap)=vs) (hN:d<N)
  (kk:∀e w',R e w'→∃v,e=.returned v∧WL ro P N ops Q rest (cP ρ d v) w'):WL ro P N ops Q (⟨some d,.call ⟨.value x,args,ts⟩,ty,pos,af,none⟩::rest) ρ w:=
 Ei rfl rfl hN (J3 hf hx ha) hc kk
end
end
variable {P:Program}{ag:Bool}{b n:Nat}{zc:List Value}
set_option maxRecDepth 100000
class bG (P:Program) (t:TypeId) (d:outParam TypeDesc):Prop where out:P.underlying t=some d:=by kernel_rfl
class aJ (P:Program) (t:TypeId) (n:outParam Nat) (ag:outParam Bool) (b:outParam Nat) (zc:outParam (List Value)):Prop where out:eu P t=some (n,ag,b,zc):=by kernel_rfl
class fB (P:Program) (s:TypeId) (f:Nat) (off:outParam Nat) (ft:outParam TypeId):Prop where out:jd P s f=some (off,ft):=by kernel_rfl
class ko (P:Program) (s:TypeId) (pl:outParam (List (Nat×Nat))):Prop where out:rG P s=some pl:=by kernel_rfl
class au (P:Program) (f:FuncId):Prop where out:EU P f=true:=by kernel_rfl
theorem aJ.size {t:TypeId} [h:aJ P t n ag b zc]:(P.info? t).map (·.size)=some n:=by
 obtain ⟨i,z,d,hi,hd,hz,hs,_⟩:=gW h.out;rw [hi,aaj,hs]
instance:bG Tryz.prog 2 (.int .i64):={}
instance:aJ Tryz.prog 2 1 false 8 [.int .i64 0]:={}
instance:bG Tryz.prog 3 (.int .i64):={}
instance:aJ Tryz.prog 3 1 false 8 [.int .i64 0]:={}
instance:bG Tryz.prog 4 (.bool):={}
instance:aJ Tryz.prog 4 1 false 1 [.bool false]:={}
instance:bG Tryz.prog 5 (.int .u8):={}
instance:aJ Tryz.prog 5 1 false 1 [.int .u8 0]:={}
instance:bG Tryz.prog 6 (.int .u8):={}
instance:aJ Tryz.prog 6 1 false 1 [.int .u8 0]:={}
instance:aJ Tryz.prog 7 4 true 24 [.int .i64 0,.int .i64 0,.bool false,.int .u8 0]:={}
instance:fB Tryz.prog 7 0 0 2:={}
instance:fB Tryz.prog 7 1 1 3:={}
instance:fB Tryz.prog 7 2 2 4:={}
instance:fB Tryz.prog 7 3 3 6:={}
instance:ko Tryz.prog 7 [(0,1),(1,1),(2,1),(3,1)]:={}
instance:aJ Tryz.prog 8 4 true 24 [.int .i64 0,.int .i64 0,.bool false,.int .u8 0]:={}
instance:fB Tryz.prog 8 0 0 2:={}
instance:fB Tryz.prog 8 1 1 3:={}
instance:fB Tryz.prog 8 2 2 4:={}
instance:fB Tryz.prog 8 3 3 6:={}
instance:ko Tryz.prog 8 [(0,1),(1,1),(2,1),(3,1)]:={}
instance:bG Tryz.prog 9 (.string):={}
instance:aJ Tryz.prog 9 1 false 16 [.string { data:= #[] }]:={}
instance:bG Tryz.prog 10 (.string):={}
instance:aJ Tryz.prog 10 1 false 16 [.string { data:= #[] }]:={}
instance:bG Tryz.prog 11 (.string):={}
instance:aJ Tryz.prog 11 1 false 16 [.string { data:= #[] }]:={}
instance:bG Tryz.prog 12 (.int .u64):={}
instance:aJ Tryz.prog 12 1 false 8 [.int .u64 0]:={}
instance:aJ Tryz.prog 13 2 true 24 [.string { data:= #[] },.int .u64 0]:={}
instance:fB Tryz.prog 13 0 0 9:={}
instance:fB Tryz.prog 13 1 1 12:={}
instance:ko Tryz.prog 13 [(0,1),(1,1)]:={}
instance:aJ Tryz.prog 14 2 true 24 [.string { data:= #[] },.int .u64 0]:={}
instance:fB Tryz.prog 14 0 0 9:={}
instance:fB Tryz.prog 14 1 1 12:={}
instance:ko Tryz.prog 14 [(0,1),(1,1)]:={}
instance:bG Tryz.prog 15 (.pointer 293):={}
instance:aJ Tryz.prog 15 1 false 8 [.pointer none]:={}
instance:bG Tryz.prog 16 (.pointer 296):={}
instance:aJ Tryz.prog 16 1 false 8 [.pointer none]:={}
instance:bG Tryz.prog 17 (.pointer 305):={}
instance:aJ Tryz.prog 17 1 false 8 [.pointer none]:={}
instance:aJ Tryz.prog 18 1 true 8 [.pointer none]:={}
instance:fB Tryz.prog 18 0 0 17:={}
instance:ko Tryz.prog 18 [(0,1)]:={}
instance:aJ Tryz.prog 19 1 true 8 [.pointer none]:={}
instance:fB Tryz.prog 19 0 0 17:={}
instance:ko Tryz.prog 19 [(0,1)]:={}
instance:bG Tryz.prog 21 (.int .i32):={}
instance:aJ Tryz.prog 21 1 false 4 [.int .i32 0]:={}
instance:bG Tryz.prog 22 (.slice 3):={}
instance:aJ Tryz.prog 22 1 false 24 [.slice none 0 0]:={}
instance:bG Tryz.prog 23 (.slice 33):={}
instance:aJ Tryz.prog 23 1 false 24 [.slice none 0 0]:={}
instance:aJ Tryz.prog 24 2 true 48 [.slice none 0 0,.slice none 0 0]:={}
instance:fB Tryz.prog 24 0 0 22:={}
instance:fB Tryz.prog 24 1 1 23:={}
instance:ko Tryz.prog 24 [(0,1),(1,1)]:={}
instance:aJ Tryz.prog 25 2 true 48 [.slice none 0 0,.slice none 0 0]:={}
instance:fB Tryz.prog 25 0 0 22:={}
instance:fB Tryz.prog 25 1 1 23:={}
instance:ko Tryz.prog 25 [(0,1),(1,1)]:={}
instance:bG Tryz.prog 26 (.slice 5):={}
instance:aJ Tryz.prog 26 1 false 24 [.slice none 0 0]:={}
instance:aJ Tryz.prog 30 2 true 24 [.bool false,.string { data:= #[] }]:={}
instance:fB Tryz.prog 30 0 0 4:={}
instance:fB Tryz.prog 30 1 1 9:={}
instance:ko Tryz.prog 30 [(0,1),(1,1)]:={}
instance:aJ Tryz.prog 31 2 true 24 [.bool false,.string { data:= #[] }]:={}
instance:fB Tryz.prog 31 0 0 4:={}
instance:fB Tryz.prog 31 1 1 9:={}
instance:ko Tryz.prog 31 [(0,1),(1,1)]:={}
instance:aJ Tryz.prog 32 3 true 32 [.bool false,.string { data:= #[] },.int .i64 0]:={}
instance:fB Tryz.prog 32 0 0 31:={}
instance:fB Tryz.prog 32 1 2 3:={}
instance:ko Tryz.prog 32 [(0,2),(2,1)]:={}
instance:aJ Tryz.prog 33 3 true 32 [.bool false,.string { data:= #[] },.int .i64 0]:={}
instance:fB Tryz.prog 33 0 0 31:={}
instance:fB Tryz.prog 33 1 2 3:={}
instance:ko Tryz.prog 33 [(0,2),(2,1)]:={}
instance:aJ Tryz.prog 34 6 true 64 [.bool false,.string { data:= #[] },.int .i64 0,.bool false,.string { data:= #[] },.int .i64 0]:={}
instance:fB Tryz.prog 34 0 0 33:={}
instance:fB Tryz.prog 34 1 3 33:={}
instance:ko Tryz.prog 34 [(0,3),(3,3)]:={}
instance:aJ Tryz.prog 35 6 true 64 [.bool false,.string { data:= #[] },.int .i64 0,.bool false,.string { data:= #[] },.int .i64 0]:={}
instance:fB Tryz.prog 35 0 0 33:={}
instance:fB Tryz.prog 35 1 3 33:={}
instance:ko Tryz.prog 35 [(0,3),(3,3)]:={}
instance:bG Tryz.prog 36 (.int .i64):={}
instance:aJ Tryz.prog 36 1 false 8 [.int .i64 0]:={}
instance:bG Tryz.prog 39 (.slice 33):={}
instance:aJ Tryz.prog 39 1 false 24 [.slice none 0 0]:={}
instance:bG Tryz.prog 50 (.slice 95):={}
instance:aJ Tryz.prog 50 1 false 24 [.slice none 0 0]:={}
instance:aJ Tryz.prog 51 2 true 32 [.int .i64 0,.slice none 0 0]:={}
instance:fB Tryz.prog 51 0 0 3:={}
instance:fB Tryz.prog 51 1 1 50:={}
instance:ko Tryz.prog 51 [(0,1),(1,1)]:={}
instance:aJ Tryz.prog 52 2 true 32 [.int .i64 0,.slice none 0 0]:={}
instance:fB Tryz.prog 52 0 0 3:={}
instance:fB Tryz.prog 52 1 1 50:={}
instance:ko Tryz.prog 52 [(0,1),(1,1)]:={}
instance:bG Tryz.prog 53 (.slice 35):={}
instance:aJ Tryz.prog 53 1 false 24 [.slice none 0 0]:={}
instance:bG Tryz.prog 54 (.slice 35):={}
instance:aJ Tryz.prog 54 1 false 24 [.slice none 0 0]:={}
instance:aJ Tryz.prog 57 8 true 96 [.int .i64 0,.bool false,.string { data:= #[] },.int .i64 0,.bool false,.string { data:= #[] },.int .i64 0,.slice none 0 0]:={}
instance:fB Tryz.prog 57 0 0 3:={}
instance:fB Tryz.prog 57 1 1 35:={}
instance:fB Tryz.prog 57 2 7 39:={}
instance:ko Tryz.prog 57 [(0,1),(1,6),(7,1)]:={}
instance:aJ Tryz.prog 58 8 true 96 [.int .i64 0,.bool false,.string { data:= #[] },.int .i64 0,.bool false,.string { data:= #[] },.int .i64 0,.slice none 0 0]:={}
instance:fB Tryz.prog 58 0 0 3:={}
instance:fB Tryz.prog 58 1 1 35:={}
instance:fB Tryz.prog 58 2 7 39:={}
instance:ko Tryz.prog 58 [(0,1),(1,6),(7,1)]:={}
instance:bG Tryz.prog 85 (.slice 25):={}
instance:aJ Tryz.prog 85 1 false 24 [.slice none 0 0]:={}
instance:aJ Tryz.prog 94 4 true 48 [.string { data:= #[] },.bool false,.string { data:= #[] },.int .i64 0]:={}
instance:fB Tryz.prog 94 0 0 9:={}
instance:fB Tryz.prog 94 1 1 33:={}
instance:ko Tryz.prog 94 [(0,1),(1,3)]:={}
instance:aJ Tryz.prog 95 4 true 48 [.string { data:= #[] },.bool false,.string { data:= #[] },.int .i64 0]:={}
instance:fB Tryz.prog 95 0 0 9:={}
instance:fB Tryz.prog 95 1 1 33:={}
instance:ko Tryz.prog 95 [(0,1),(1,3)]:={}
instance:aJ Tryz.prog 96 5 true 120 [.slice none 0 0,.slice none 0 0,.slice none 0 0,.slice none 0 0,.slice none 0 0]:={}
instance:fB Tryz.prog 96 0 0 54:={}
instance:fB Tryz.prog 96 1 1 25:={}
instance:fB Tryz.prog 96 2 3 25:={}
instance:ko Tryz.prog 96 [(0,1),(1,2),(3,2)]:={}
instance:aJ Tryz.prog 97 5 true 120 [.slice none 0 0,.slice none 0 0,.slice none 0 0,.slice none 0 0,.slice none 0 0]:={}
instance:fB Tryz.prog 97 0 0 54:={}
instance:fB Tryz.prog 97 1 1 25:={}
instance:fB Tryz.prog 97 2 3 25:={}
instance:ko Tryz.prog 97 [(0,1),(1,2),(3,2)]:={}
instance:bG Tryz.prog 100 (.slice 97):={}
instance:aJ Tryz.prog 100 1 false 24 [.slice none 0 0]:={}
instance:bG Tryz.prog 109 (.slice 111):={}
instance:aJ Tryz.prog 109 1 false 24 [.slice none 0 0]:={}
instance:aJ Tryz.prog 110 1 true 24 [.slice none 0 0]:={}
instance:fB Tryz.prog 110 0 0 23:={}
instance:ko Tryz.prog 110 [(0,1)]:={}
instance:aJ Tryz.prog 111 1 true 24 [.slice none 0 0]:={}
instance:fB Tryz.prog 111 0 0 23:={}
instance:ko Tryz.prog 111 [(0,1)]:={}
instance:bG Tryz.prog 113 (.int .i64):={}
instance:aJ Tryz.prog 113 1 false 8 [.int .i64 0]:={}
instance:aJ Tryz.prog 114 5 true 56 [.int .i64 0,.bool false,.string { data:= #[] },.bool false,.string { data:= #[] }]:={}
instance:fB Tryz.prog 114 0 0 113:={}
instance:fB Tryz.prog 114 1 1 31:={}
instance:fB Tryz.prog 114 2 3 31:={}
instance:ko Tryz.prog 114 [(0,1),(1,2),(3,2)]:={}
instance:aJ Tryz.prog 115 5 true 56 [.int .i64 0,.bool false,.string { data:= #[] },.bool false,.string { data:= #[] }]:={}
instance:fB Tryz.prog 115 0 0 113:={}
instance:fB Tryz.prog 115 1 1 31:={}
instance:fB Tryz.prog 115 2 3 31:={}
instance:ko Tryz.prog 115 [(0,1),(1,2),(3,2)]:={}
instance:aJ Tryz.prog 149 6 true 64 [.bool false,.string { data:= #[] },.int .i64 0,.bool false,.string { data:= #[] },.int .i64 0]:={}
instance:fB Tryz.prog 149 0 0 35:={}
instance:ko Tryz.prog 149 [(0,6)]:={}
instance:aJ Tryz.prog 150 6 true 64 [.bool false,.string { data:= #[] },.int .i64 0,.bool false,.string { data:= #[] },.int .i64 0]:={}
instance:fB Tryz.prog 150 0 0 35:={}
instance:ko Tryz.prog 150 [(0,6)]:={}
instance:bG Tryz.prog 153 (.pointer 111):={}
instance:aJ Tryz.prog 153 1 false 8 [.pointer none]:={}
instance:bG Tryz.prog 158 (.string):={}
instance:aJ Tryz.prog 158 1 false 16 [.string { data:= #[] }]:={}
instance:bG Tryz.prog 160 (.int .u64):={}
instance:aJ Tryz.prog 160 1 false 8 [.int .u64 0]:={}
instance:aJ Tryz.prog 161 2 true 24 [.string { data:= #[] },.bool false]:={}
instance:fB Tryz.prog 161 0 0 158:={}
instance:fB Tryz.prog 161 1 1 4:={}
instance:ko Tryz.prog 161 [(0,1),(1,1)]:={}
instance:aJ Tryz.prog 162 2 true 24 [.string { data:= #[] },.bool false]:={}
instance:fB Tryz.prog 162 0 0 158:={}
instance:fB Tryz.prog 162 1 1 4:={}
instance:ko Tryz.prog 162 [(0,1),(1,1)]:={}
instance:bG Tryz.prog 166 (.slice 31):={}
instance:aJ Tryz.prog 166 1 false 24 [.slice none 0 0]:={}
instance:bG Tryz.prog 176 (.slice 9):={}
instance:aJ Tryz.prog 176 1 false 24 [.slice none 0 0]:={}
instance:aJ Tryz.prog 183 2 true 16 [.int .i64 0,.int .i64 0]:={}
instance:fB Tryz.prog 183 0 0 3:={}
instance:fB Tryz.prog 183 1 1 3:={}
instance:ko Tryz.prog 183 [(0,1),(1,1)]:={}
instance:aJ Tryz.prog 184 2 true 16 [.int .i64 0,.int .i64 0]:={}
instance:fB Tryz.prog 184 0 0 3:={}
instance:fB Tryz.prog 184 1 1 3:={}
instance:ko Tryz.prog 184 [(0,1),(1,1)]:={}
instance:aJ Tryz.prog 189 9 true 96 [.bool false,.string { data:= #[] },.int .i64 0,.bool false,.string { data:= #[] },.int .i64 0,.bool false,.string { data:= #[] },.int .i64 0]:={}
instance:fB Tryz.prog 189 0 0 35:={}
instance:fB Tryz.prog 189 1 6 33:={}
instance:ko Tryz.prog 189 [(0,6),(6,3)]:={}
instance:aJ Tryz.prog 190 9 true 96 [.bool false,.string { data:= #[] },.int .i64 0,.bool false,.string { data:= #[] },.int .i64 0,.bool false,.string { data:= #[] },.int .i64 0]:={}
instance:fB Tryz.prog 190 0 0 35:={}
instance:fB Tryz.prog 190 1 6 33:={}
instance:ko Tryz.prog 190 [(0,6),(6,3)]:={}
instance:bG Tryz.prog 201 (.slice 160):={}
instance:aJ Tryz.prog 201 1 false 24 [.slice none 0 0]:={}
instance:bG Tryz.prog 202 (.slice 160):={}
instance:aJ Tryz.prog 202 1 false 24 [.slice none 0 0]:={}
instance:bG Tryz.prog 215 (.slice 52):={}
instance:aJ Tryz.prog 215 1 false 24 [.slice none 0 0]:={}
instance:aJ Tryz.prog 222 6 true 64 [.bool false,.string { data:= #[] },.int .i64 0,.bool false,.string { data:= #[] },.int .i64 0]:={}
instance:fB Tryz.prog 222 0 0 33:={}
instance:fB Tryz.prog 222 1 3 33:={}
instance:ko Tryz.prog 222 [(0,3),(3,3)]:={}
instance:aJ Tryz.prog 223 6 true 64 [.bool false,.string { data:= #[] },.int .i64 0,.bool false,.string { data:= #[] },.int .i64 0]:={}
instance:fB Tryz.prog 223 0 0 33:={}
instance:fB Tryz.prog 223 1 3 33:={}
instance:ko Tryz.prog 223 [(0,3),(3,3)]:={}
instance:aJ Tryz.prog 233 2 true 48 [.slice none 0 0,.slice none 0 0]:={}
instance:fB Tryz.prog 233 0 0 202:={}
instance:fB Tryz.prog 233 1 1 202:={}
instance:ko Tryz.prog 233 [(0,1),(1,1)]:={}
instance:aJ Tryz.prog 234 2 true 48 [.slice none 0 0,.slice none 0 0]:={}
instance:fB Tryz.prog 234 0 0 202:={}
instance:fB Tryz.prog 234 1 1 202:={}
instance:ko Tryz.prog 234 [(0,1),(1,1)]:={}
instance:bG Tryz.prog 237 (.array 64 5):={}
instance:aJ Tryz.prog 237 64 true 64 [.int .u8 0,.int .u8 0,.int .u8 0,.int .u8 0,.int .u8 0,.int .u8 0,.int .u8 0,.int .u8 0,.int .u8 0,.int .u8 0,.int .u8 0,.int .u8 0,.int .u8 0,.int .u8 0,.int .u8 0,.int .u8 0,.int .u8 0,.int .u8 0,.int .u8 0,.int .u8 0,.int .u8 0,.int .u8 0,.int .u8 0,.int .u8 0,.int .u8 0,.int .u8 0,.int .u8 0,.int .u8 0,.int .u8 0,.int .u8 0,.int .u8 0,.int .u8 0,.int .u8 0,.int .u8 0,.int .u8 0,.int .u8 0,.int .u8 0,.int .u8 0,.int .u8 0,.int .u8 0,.int .u8 0,.int .u8 0,.int .u8 0,.int .u8 0,.int .u8 0,.int .u8 0,.int .u8 0,.int .u8 0,.int .u8 0,.int .u8 0,.int .u8 0,.int .u8 0,.int .u8 0,.int .u8 0,.int .u8 0,.int .u8 0,.int .u8 0,.int .u8 0,.int .u8 0,.int .u8 0,.int .u8 0,.int .u8 0,.int .u8 0,.int .u8 0]:={}
instance:bG Tryz.prog 238 (.int .u64):={}
instance:aJ Tryz.prog 238 1 false 8 [.int .u64 0]:={}
instance:bG Tryz.prog 257 (.array 256 4):={}
instance:bG Tryz.prog 258 (.array 256 4):={}
instance:bG Tryz.prog 262 (.pointer 258):={}
instance:aJ Tryz.prog 262 1 false 8 [.pointer none]:={}
instance:bG Tryz.prog 280 (.array 256 5):={}
instance:aJ Tryz.prog 281 2 true 2 [.int .u8 0,.int .u8 0]:={}
instance:fB Tryz.prog 281 0 0 5:={}
instance:fB Tryz.prog 281 1 1 5:={}
instance:ko Tryz.prog 281 [(0,1),(1,1)]:={}
instance:aJ Tryz.prog 282 2 true 2 [.int .u8 0,.int .u8 0]:={}
instance:fB Tryz.prog 282 0 0 5:={}
instance:fB Tryz.prog 282 1 1 5:={}
instance:ko Tryz.prog 282 [(0,1),(1,1)]:={}
instance:bG Tryz.prog 283 (.array 16 282):={}
instance:aJ Tryz.prog 283 32 true 32 [.int .u8 0,.int .u8 0,.int .u8 0,.int .u8 0,.int .u8 0,.int .u8 0,.int .u8 0,.int .u8 0,.int .u8 0,.int .u8 0,.int .u8 0,.int .u8 0,.int .u8 0,.int .u8 0,.int .u8 0,.int .u8 0,.int .u8 0,.int .u8 0,.int .u8 0,.int .u8 0,.int .u8 0,.int .u8 0,.int .u8 0,.int .u8 0,.int .u8 0,.int .u8 0,.int .u8 0,.int .u8 0,.int .u8 0,.int .u8 0,.int .u8 0,.int .u8 0]:={}
instance:bG Tryz.prog 291 (.pointer 308):={}
instance:aJ Tryz.prog 291 1 false 8 [.pointer none]:={}
instance:aJ Tryz.prog 292 4 true 40 [.pointer none,.pointer none,.pointer none,.string { data:= #[] }]:={}
instance:fB Tryz.prog 292 0 0 17:={}
instance:fB Tryz.prog 292 1 1 17:={}
instance:fB Tryz.prog 292 2 2 17:={}
instance:fB Tryz.prog 292 3 3 9:={}
instance:ko Tryz.prog 292 [(0,1),(1,1),(2,1),(3,1)]:={}
instance:aJ Tryz.prog 293 4 true 40 [.pointer none,.pointer none,.pointer none,.string { data:= #[] }]:={}
instance:fB Tryz.prog 293 0 0 17:={}
instance:fB Tryz.prog 293 1 1 17:={}
instance:fB Tryz.prog 293 2 2 17:={}
instance:fB Tryz.prog 293 3 3 9:={}
instance:ko Tryz.prog 293 [(0,1),(1,1),(2,1),(3,1)]:={}
instance:bG Tryz.prog 294 (.array 0 16):={}
instance:aJ Tryz.prog 294 0 true 0 []:={}
instance:aJ Tryz.prog 295 0 true 0 []:={}
instance:ko Tryz.prog 295 [(0,0)]:={}
instance:aJ Tryz.prog 296 0 true 0 []:={}
instance:ko Tryz.prog 296 [(0,0)]:={}
instance:bG Tryz.prog 297 (.int .u32):={}
instance:aJ Tryz.prog 297 1 false 4 [.int .u32 0]:={}
instance:bG Tryz.prog 298 (.int .u8):={}
instance:aJ Tryz.prog 298 1 false 1 [.int .u8 0]:={}
instance:bG Tryz.prog 299 (.int .u8):={}
instance:aJ Tryz.prog 299 1 false 1 [.int .u8 0]:={}
instance:bG Tryz.prog 301 (.pointer 5):={}
instance:aJ Tryz.prog 301 1 false 8 [.pointer none]:={}
instance:bG Tryz.prog 302 (.int .i32):={}
instance:aJ Tryz.prog 302 1 false 4 [.int .i32 0]:={}
instance:bG Tryz.prog 303 (.int .i32):={}
instance:aJ Tryz.prog 303 1 false 4 [.int .i32 0]:={}
instance:aJ Tryz.prog 304 11 true 48 [.int .u64 0,.int .u64 0,.int .u32 0,.int .u8 0,.int .u8 0,.int .u8 0,.int .u8 0,.nilFunc,.pointer none,.int .i32 0,.int .i32 0]:={}
instance:aJ Tryz.prog 305 11 true 48 [.int .u64 0,.int .u64 0,.int .u32 0,.int .u8 0,.int .u8 0,.int .u8 0,.int .u8 0,.nilFunc,.pointer none,.int .i32 0,.int .i32 0]:={}
instance:aJ Tryz.prog 307 1 true 16 [.string { data:= #[] }]:={}
instance:fB Tryz.prog 307 0 0 9:={}
instance:ko Tryz.prog 307 [(0,1)]:={}
instance:aJ Tryz.prog 308 1 true 16 [.string { data:= #[] }]:={}
instance:fB Tryz.prog 308 0 0 9:={}
instance:ko Tryz.prog 308 [(0,1)]:={}
theorem mixed:Tryz.prog.follows .mixedOrders=true:=by kernel_rfl
instance:au Tryz.prog 3:={}
instance:au Tryz.prog 4:={}
instance:au Tryz.prog 5:={}
instance:au Tryz.prog 6:={}
instance:au Tryz.prog 7:={}
instance:au Tryz.prog 8:={}
instance:au Tryz.prog 9:={}
instance:au Tryz.prog 10:={}
instance:au Tryz.prog 11:={}
instance:au Tryz.prog 12:={}
instance:au Tryz.prog 13:={}
instance:au Tryz.prog 14:={}
instance:au Tryz.prog 15:={}
instance:au Tryz.prog 16:={}
instance:au Tryz.prog 17:={}
instance:au Tryz.prog 18:={}
instance:au Tryz.prog 19:={}
instance:au Tryz.prog 20:={}
instance:au Tryz.prog 21:={}
instance:au Tryz.prog 22:={}
instance:au Tryz.prog 23:={}
instance:au Tryz.prog 24:={}
instance:au Tryz.prog 25:={}
instance:au Tryz.prog 26:={}
instance:au Tryz.prog 27:={}
instance:au Tryz.prog 28:={}
instance:au Tryz.prog 29:={}
instance:au Tryz.prog 30:={}
instance:au Tryz.prog 31:={}
instance:au Tryz.prog 32:={}
instance:au Tryz.prog 33:={}
instance:au Tryz.prog 34:={}
instance:au Tryz.prog 35:={}
instance:au Tryz.prog 36:={}
instance:au Tryz.prog 37:={}
instance:au Tryz.prog 38:={}
instance:au Tryz.prog 39:={}
instance:au Tryz.prog 40:={}
instance:au Tryz.prog 41:={}
instance:au Tryz.prog 42:={}
instance:au Tryz.prog 43:={}
instance:au Tryz.prog 44:={}
instance:au Tryz.prog 45:={}
instance:au Tryz.prog 46:={}
instance:au Tryz.prog 47:={}
instance:au Tryz.prog 48:={}
instance:au Tryz.prog 49:={}
instance:au Tryz.prog 50:={}
instance:au Tryz.prog 51:={}
instance:au Tryz.prog 52:={}
instance:au Tryz.prog 53:={}
instance:au Tryz.prog 54:={}
instance:au Tryz.prog 55:={}
instance:au Tryz.prog 56:={}
instance:au Tryz.prog 57:={}
instance:au Tryz.prog 58:={}
instance:au Tryz.prog 59:={}
instance:au Tryz.prog 60:={}
instance:au Tryz.prog 61:={}
instance:au Tryz.prog 62:={}
instance:au Tryz.prog 63:={}
instance:au Tryz.prog 64:={}
instance:au Tryz.prog 65:={}
instance:au Tryz.prog 66:={}
instance:au Tryz.prog 67:={}
instance:au Tryz.prog 68:={}
instance:au Tryz.prog 69:={}
instance:au Tryz.prog 70:={}
instance:au Tryz.prog 71:={}
instance:au Tryz.prog 72:={}
instance:au Tryz.prog 73:={}
instance:au Tryz.prog 74:={}
instance:au Tryz.prog 75:={}
instance:au Tryz.prog 76:={}
instance:au Tryz.prog 77:={}
instance:au Tryz.prog 78:={}
instance:au Tryz.prog 79:={}
instance:au Tryz.prog 80:={}
instance:au Tryz.prog 81:={}
instance:au Tryz.prog 82:={}
instance:au Tryz.prog 83:={}
instance:au Tryz.prog 84:={}
instance:au Tryz.prog 85:={}
instance:au Tryz.prog 86:={}
instance:au Tryz.prog 87:={}
instance:au Tryz.prog 88:={}
instance:au Tryz.prog 89:={}
instance:au Tryz.prog 90:={}
instance:au Tryz.prog 91:={}
instance:au Tryz.prog 92:={}
instance:au Tryz.prog 93:={}
instance:au Tryz.prog 94:={}
instance:au Tryz.prog 95:={}
instance:au Tryz.prog 96:={}
instance:au Tryz.prog 97:={}
instance:au Tryz.prog 98:={}
instance:au Tryz.prog 99:={}
instance:au Tryz.prog 100:={}
instance:au Tryz.prog 101:={}
instance:au Tryz.prog 102:={}
instance:au Tryz.prog 103:={}
instance:au Tryz.prog 104:={}
instance:au Tryz.prog 105:={}
instance:au Tryz.prog 106:={}
instance:au Tryz.prog 107:={}
instance:au Tryz.prog 108:={}
instance:au Tryz.prog 109:={}
instance:au Tryz.prog 110:={}
instance:au Tryz.prog 111:={}
instance:au Tryz.prog 112:={}
instance:au Tryz.prog 113:={}
instance:au Tryz.prog 114:={}
instance:au Tryz.prog 115:={}
instance:au Tryz.prog 116:={}
instance:au Tryz.prog 117:={}
instance:au Tryz.prog 118:={}
instance:au Tryz.prog 119:={}
instance:au Tryz.prog 120:={}
instance:au Tryz.prog 121:={}
instance:au Tryz.prog 122:={}
instance:au Tryz.prog 123:={}
instance:au Tryz.prog 124:={}
instance:au Tryz.prog 125:={}
instance:au Tryz.prog 126:={}
instance:au Tryz.prog 127:={}
instance:au Tryz.prog 128:={}
instance:au Tryz.prog 129:={}
instance:au Tryz.prog 130:={}
instance:au Tryz.prog 131:={}
instance:au Tryz.prog 132:={}
instance:au Tryz.prog 133:={}
instance:au Tryz.prog 134:={}
instance:au Tryz.prog 135:={}
instance:au Tryz.prog 136:={}
instance:au Tryz.prog 137:={}
instance:au Tryz.prog 138:={}
instance:au Tryz.prog 139:={}
instance:au Tryz.prog 140:={}
instance:au Tryz.prog 141:={}
instance:au Tryz.prog 142:={}
instance:au Tryz.prog 143:={}
instance:au Tryz.prog 144:={}
instance:au Tryz.prog 145:={}
instance:au Tryz.prog 146:={}
instance:au Tryz.prog 147:={}
instance:au Tryz.prog 148:={}
instance:au Tryz.prog 149:={}
instance:au Tryz.prog 150:={}
instance:au Tryz.prog 151:={}
instance:au Tryz.prog 152:={}
instance:au Tryz.prog 153:={}
instance:au Tryz.prog 154:={}
instance:au Tryz.prog 155:={}
instance:au Tryz.prog 156:={}
instance:au Tryz.prog 157:={}
instance:au Tryz.prog 158:={}
instance:au Tryz.prog 159:={}
instance:au Tryz.prog 160:={}
instance:au Tryz.prog 161:={}
instance:au Tryz.prog 162:={}
instance:au Tryz.prog 163:={}
instance:au Tryz.prog 164:={}
instance:au Tryz.prog 165:={}
instance:au Tryz.prog 166:={}
instance:au Tryz.prog 167:={}
instance:au Tryz.prog 168:={}
instance:au Tryz.prog 169:={}
instance:au Tryz.prog 170:={}
instance:au Tryz.prog 171:={}
instance:au Tryz.prog 172:={}
instance:au Tryz.prog 173:={}
instance:au Tryz.prog 174:={}
instance:au Tryz.prog 175:={}
instance:au Tryz.prog 176:={}
instance:au Tryz.prog 177:={}
instance:au Tryz.prog 178:={}
instance:au Tryz.prog 179:={}
instance:au Tryz.prog 180:={}
instance:au Tryz.prog 181:={}
instance:au Tryz.prog 182:={}
instance:au Tryz.prog 183:={}
instance:au Tryz.prog 184:={}
instance:au Tryz.prog 185:={}
instance:au Tryz.prog 186:={}
instance:au Tryz.prog 187:={}
instance:au Tryz.prog 188:={}
instance:au Tryz.prog 189:={}
instance:au Tryz.prog 190:={}
instance:au Tryz.prog 191:={}
instance:au Tryz.prog 192:={}
instance:au Tryz.prog 193:={}
instance:au Tryz.prog 194:={}
instance:au Tryz.prog 195:={}
instance:au Tryz.prog 196:={}
instance:au Tryz.prog 197:={}
instance:au Tryz.prog 198:={}
instance:au Tryz.prog 199:={}
instance:au Tryz.prog 200:={}
instance:au Tryz.prog 201:={}
instance:au Tryz.prog 202:={}
instance:au Tryz.prog 203:={}
instance:au Tryz.prog 204:={}
instance:au Tryz.prog 205:={}
instance:au Tryz.prog 206:={}
instance:au Tryz.prog 207:={}
instance:au Tryz.prog 208:={}
instance:au Tryz.prog 209:={}
instance:au Tryz.prog 210:={}
instance:au Tryz.prog 211:={}
instance:au Tryz.prog 212:={}
instance:au Tryz.prog 213:={}
instance:au Tryz.prog 214:={}
instance:au Tryz.prog 215:={}
instance:au Tryz.prog 216:={}
instance:au Tryz.prog 217:={}
instance:au Tryz.prog 218:={}
instance:au Tryz.prog 219:={}
instance:au Tryz.prog 220:={}
instance:au Tryz.prog 221:={}
instance:au Tryz.prog 222:={}
instance:au Tryz.prog 223:={}
instance:au Tryz.prog 224:={}
instance:au Tryz.prog 225:={}
instance:au Tryz.prog 226:={}
instance:au Tryz.prog 227:={}
instance:au Tryz.prog 228:={}
instance:au Tryz.prog 229:={}
instance:au Tryz.prog 230:={}
instance:au Tryz.prog 231:={}
instance:au Tryz.prog 232:={}
instance:au Tryz.prog 233:={}
instance:au Tryz.prog 234:={}
instance:au Tryz.prog 235:={}
instance:au Tryz.prog 236:={}
instance:au Tryz.prog 237:={}
instance:au Tryz.prog 238:={}
instance:au Tryz.prog 239:={}
instance:au Tryz.prog 241:={}
instance:au Tryz.prog 242:={}
instance:au Tryz.prog 243:={}
instance:au Tryz.prog 244:={}
instance:au Tryz.prog 245:={}
instance:au Tryz.prog 246:={}
instance:au Tryz.prog 247:={}
instance:au Tryz.prog 248:={}
instance:au Tryz.prog 251:={}
instance:au Tryz.prog 252:={}
instance:au Tryz.prog 253:={}
instance:au Tryz.prog 254:={}
instance:au Tryz.prog 255:={}
instance:au Tryz.prog 256:={}
instance:au Tryz.prog 257:={}
instance:au Tryz.prog 258:={}
instance:au Tryz.prog 259:={}
instance:au Tryz.prog 262:={}
instance:au Tryz.prog 263:={}
instance:au Tryz.prog 264:={}
variable {R:Ending→World→Prop}{args:Array Operand}{by' c dj j o off:Nat}{cs vs:List Value}{ft t':TypeId}{fz:Nat×Nat}{parts:Array (Nat×Operand)}{ps:List (Nat×Value)}{r:Bool}{v1:Value}{w:World}{ρ:Rf}
section
variable {ro:Mode}{P:Program}{N d:Nat}{ops:Array Oper}{Q:Kq}{ρ:Rf}{w w0:World}{rest:List Oper}{H:List HE}{ty:TypeId}{pos:String}{af:Array Edge}{x y:Operand}{t u:TypeId}
theorem mI {k:IntKind}{a:Int} (kk:WL ro P N ops Q rest (cP ρ d (.int k a)) w) (hx:ev ρ x=.int k a:=by exact dt rfl) (hN:d<N:=by decide):WL ro P N ops Q (⟨some d,.move x,ty,pos,af,none⟩::rest) ρ w:=sO hx hN kk
theorem aI {k:IntKind}{a:Int} (kk:WL ro P N ops Q rest (cP ρ d (.int k a)) w) (hx:ev ρ x=.int k a:=by exact dt rfl) (hN:d<N:=by decide):WL ro P N ops Q (⟨some d,.assign x,ty,pos,af,none⟩::rest) ρ w:=kW hx hN kk
theorem mB {a:Bool} (kk:WL ro P N ops Q rest (cP ρ d (.bool a)) w) (hx:ev ρ x=.bool a:=by exact uh rfl) (hN:d<N:=by decide):WL ro P N ops Q (⟨some d,.move x,ty,pos,af,none⟩::rest) ρ w:=sO hx hN kk
theorem aB {a:Bool} (kk:WL ro P N ops Q rest (cP ρ d (.bool a)) w) (hx:ev ρ x=.bool a:=by exact uh rfl) (hN:d<N:=by decide):WL ro P N ops Q (⟨some d,.assign x,ty,pos,af,none⟩::rest) ρ w:=kW hx hN kk
theorem mS {a:ByteArray} (kk:WL ro P N ops Q rest (cP ρ d (.string a)) w) (hx:ev ρ x=.string a:=by exact MR rfl) (hN:d<N:=by decide):WL ro P N ops Q (⟨some d,.move x,ty,pos,af,none⟩::rest) ρ w:=sO hx hN kk
theorem aS {a:ByteArray} (kk:WL ro P N ops Q rest (cP ρ d (.string a)) w) (hx:ev ρ x=.string a:=by exact MR rfl) (hN:d<N:=by decide):WL ro P N ops Q (⟨some d,.assign x,ty,pos,af,none⟩::rest) ρ w:=kW hx hN kk
theorem mL {A:Option Addr} (kk:WL ro P N ops Q rest (cP ρ d (.slice A n c)) w) (hx:ev ρ x=.slice A n c:=by exact GV rfl) (hN:d<N:=by decide):WL ro P N ops Q (⟨some d,.move x,ty,pos,af,none⟩::rest) ρ w:=sO hx hN kk
theorem aL {A:Option Addr} (kk:WL ro P N ops Q rest (cP ρ d (.slice A n c)) w) (hx:ev ρ x=.slice A n c:=by exact GV rfl) (hN:d<N:=by decide):WL ro P N ops Q (⟨some d,.assign x,ty,pos,af,none⟩::rest) ρ w:=kW hx hN kk
theorem mT {l:List Value} (kk:WL ro P N ops Q rest (cP ρ d (.tuple l.toArray)) w) (hx:ev ρ x=.tuple l.toArray:=by exact T5 rfl) (hN:d<N:=by decide):WL ro P N ops Q (⟨some d,.move x,ty,pos,af,none⟩::rest) ρ w:=sO hx hN kk
theorem a9 {k:IntKind}{a b:Int} (kk:WL ro P N ops Q rest (cP ρ d (.bool r)) w) (hx:ev ρ x=.int k a:=by exact rfl) (hy:ev ρ y=.int k b:=by exact rfl) (hr:decide (a<b)=r:=by first|exact YN Yo|exact YS Yo|exact rfl) (hN:d<N:=by decide):WL ro P N ops Q (⟨some d,.binOp .lss t x y u,ty,pos,af,none⟩::rest) ρ w:=OY hx hy hN (by rw [hr];exact kk)
theorem EB {k:IntKind}{a b:Int} (kk:WL ro P N ops Q rest (cP ρ d (.bool r)) w) (hx:ev ρ x=.int k a:=by exact rfl) (hy:ev ρ y=.int k b:=by exact rfl) (hr:decide (a≤b)=r:=by first|exact YN Yo|exact YS Yo|exact rfl) (hN:d<N:=by decide):WL ro P N ops Q (⟨some d,.binOp .leq t x y u,ty,pos,af,none⟩::rest) ρ w:=QB hx hy hN (by rw [hr];exact kk)
theorem bT {k:IntKind}{a b:Int} (kk:WL ro P N ops Q rest (cP ρ d (.bool r)) w) (hx:ev ρ x=.int k a:=by exact rfl) (hy:ev ρ y=.int k b:=by exact rfl) (hr:decide (b<a)=r:=by first|exact YN Yo|exact YS Yo|exact rfl) (hN:d<N:=by decide):WL ro P N ops Q (⟨some d,.binOp .gtr t x y u,ty,pos,af,none⟩::rest) ρ w:=QW hx hy hN (by rw [hr];exact kk)
theorem dF {k:IntKind}{a b:Int} (kk:WL ro P N ops Q rest (cP ρ d (.bool r)) w) (hx:ev ρ x=.int k a:=by exact rfl) (hy:ev ρ y=.int k b:=by exact rfl) (hr:decide (b≤a)=r:=by first|exact YN Yo|exact YS Yo|exact rfl) (hN:d<N:=by decide):WL ro P N ops Q (⟨some d,.binOp .geq t x y u,ty,pos,af,none⟩::rest) ρ w:=Qc hx hy hN (by rw [hr];exact kk)
theorem cH {k:IntKind}{a b:Int} (kk:WL ro P N ops Q rest (cP ρ d (.bool r)) w) (hx:ev ρ x=.int k a:=by exact rfl) (hy:ev ρ y=.int k b:=by exact rfl) (hr:decide (a=b)=r:=by first|exact YN Yo|exact YS Yo|exact rfl) (hN:d<N:=by decide):WL ro P N ops Q (⟨some d,.binOp .eql t x y u,ty,pos,af,none⟩::rest) ρ w:=Ha hx hy hN (by rw [hr];exact kk)
theorem dn {k:IntKind}{a b:Int} (kk:WL ro P N ops Q rest (cP ρ d (.bool r)) w) (hx:ev ρ x=.int k a:=by exact rfl) (hy:ev ρ y=.int k b:=by exact rfl) (hr:decide (a≠b)=r:=by first|exact YN Yo|exact YS Yo|exact rfl) (hN:d<N:=by decide):WL ro P N ops Q (⟨some d,.binOp .neq t x y u,ty,pos,af,none⟩::rest) ρ w:=Qf hx hy hN (by rw [hr];exact kk)
theorem a8 {a b:Int} (kk:WL ro P N ops Q rest (cP ρ d (.int .i64 (a+b))) w) (hx:ev ρ x=.int .i64 a:=by exact rfl) (hy:ev ρ y=.int .i64 b:=by exact rfl) (h1: -9223372036854775808≤a+b:=by omega) (h2:a+b≤9223372036854775807:=by omega) (hN:d<N:=by decide):WL ro P N ops Q (⟨some d,.binOp .add t x y u,ty,pos,af,none⟩::rest) ρ w:=UN hx hy h1 h2 hN kk
theorem ee {a b:Int} (kk:WL ro P N ops Q rest (cP ρ d (.int .i64 (a-b))) w) (hx:ev ρ x=.int .i64 a:=by exact rfl) (hy:ev ρ y=.int .i64 b:=by exact rfl) (h1: -9223372036854775808≤a-b:=by omega) (h2:a-b≤9223372036854775807:=by omega) (hN:d<N:=by decide):WL ro P N ops Q (⟨some d,.binOp .sub t x y u,ty,pos,af,none⟩::rest) ρ w:=TI hx hy h1 h2 hN kk
theorem mulC {a b:Int} (kk:WL ro P N ops Q rest (cP ρ d (.int .i64 (a*b))) w) (hx:ev ρ x=.int .i64 a:=by exact rfl) (hy:ev ρ y=.int .i64 b:=by exact rfl) (h1: -9223372036854775808≤a*b:=by omega) (h2:a*b≤9223372036854775807:=by omega) (hN:d<N:=by decide):WL ro P N ops Q (⟨some d,.binOp .mul t x y u,ty,pos,af,none⟩::rest) ρ w:=Tn hx hy h1 h2 hN kk
theorem cx {i:Nat}{v:Value} (kk:WL ro P N ops Q rest (cP ρ d (v)) w) (hx:ev ρ x=.tuple vs.toArray:=by exact rfl) (hv:vs[i]?=some v:=by exact rfl) (hN:d<N:=by decide):WL ro P N ops Q (⟨some d,.extract x i,ty,pos,af,none⟩::rest) ρ w:=Js hx hv hN kk
theorem ig {b:Bool} (kk:WL ro P N ops Q rest (cP ρ d (.bool !b)) w) (hx:ev ρ x=.bool b:=by exact rfl) (hN:d<N:=by decide):WL ro P N ops Q (⟨some d,.unOp .not t x,ty,pos,af,none⟩::rest) ρ w:=Wc hx hN kk
theorem aM {e:TypeId}{A:Option Addr} [ht:bG P t (.slice e)] (kk:WL ro P N ops Q rest (cP ρ d (.int .i64 n)) w) (hx:ev ρ x=.slice A n c:=by exact rfl) (hN:d<N:=by decide):WL ro P N ops Q (⟨some d,.call ⟨.builtin .len, #[x], #[t]⟩,ty,pos,af,none⟩::rest) ρ w:=Ld ht.out hx hN kk
theorem bo {s:TypeId}{f:Nat} [hf:fB P s f off ft] (kk:WL ro P N ops Q rest (cP ρ d (.pointer (some ⟨b,o+off,none⟩))) w) (hx:ev ρ x=.pointer (some ⟨b,o,none⟩):=by exact rfl) (hN:d<N:=by decide):WL ro P N ops Q (⟨some d,.fieldAddr s x f,ty,pos,af,none⟩::rest) ρ w:=Ca hf.out hx hN kk
theorem bp {v:Value} (hh:Hp w0 H w) (i:Nat) [ht:aJ P t n false by' zc] (kk:WL ro P N ops Q rest (cP ρ d (v)) w) (hx:ev ρ x=.pointer (some ⟨b,o,none⟩):=by exact rfl) (hi:H[i]?=some (.blk b t' cs fz):=by exact rfl) (hv:cs[o]?=some v:=by exact rfl) (hN:d<N:=by decide):WL ro P N ops Q (⟨some d,.load t x,ty,pos,af,none⟩::rest) ρ w:=bY ht.out hx (hh.dk hi hv) hN kk
theorem bJ (hh:Hp w0 H w) (i:Nat) (vs:List Value) [ht:aJ P t n true by' zc] (kk:WL ro P N ops Q rest (cP ρ d (.agg vs.toArray)) w) (hx:ev ρ x=.pointer (some ⟨b,o,none⟩):=by exact rfl) (hi:H[i]?=some (.blk b t' cs fz):=by exact rfl) (hv:(cs.drop o).take n=vs:=by exact rfl) (hl:vs.length=n:=by exact rfl) (hN:d<N:=by decide):WL ro P N ops Q (⟨some d,.load t x,ty,pos,af,none⟩::rest) ρ w:=cg ht.out hx (hh.aQ hi hv) hl hN kk
theorem bC (hh:Hp w0 H w) [ht:aJ P t n ag by' zc] (kk:∀b w',Hp w0 (.blk b t zc (0,0)::H) w'→WL ro P N ops Q rest (cP ρ d (.pointer (some ⟨b,0,none⟩))) w') (hN:d<N:=by decide):WL ro P N ops Q (⟨some d,.alloc t,ty,pos,af,none⟩::rest) ρ w:=MM hh ht.out hN kk
theorem bO {v:Value} (hh:Hp w0 H w) (cs:List Value) (kk:∀b w',Hp w0 (.blk b t cs (0,0)::H) w'→WL ro P N ops Q rest (cP ρ d (.pointer (some ⟨b,0,none⟩))) w') (hx:ev ρ x=v:=by exact rfl) (hc:v.cells=cs.toArray:=by exact rfl) (hN:d<N:=by decide):WL ro P N ops Q (⟨some d,.box t x,ty,pos,af,none⟩::rest) ρ w:=Tm hh hx hc hN kk
theorem bg {v:Value} (hh:Hp w0 H w) (i:Nat) (vs:List Value) [ht:aJ P t n ag by' zc] (kk:∀w',Hp w0 (H.set i (.blk b t' (cm cs o vs) fz)) w'→WL ro P N ops Q rest ρ w') (hx:ev ρ x=.pointer (some ⟨b,o,none⟩):=by exact rfl) (hi:H[i]?=some (.blk b t' cs fz):=by exact rfl) (hy:ev ρ y=v:=by exact rfl) (hc:v.cells=vs.toArray:=by exact rfl) (hl:vs.length=n:=by exact rfl) (ho:o+n≤cs.length:=by simp) (h1:(vs.all Value.oneCell')=true:=by exact rfl):WL ro P N ops Q (⟨none,.store t x y,ty,pos,af,none⟩::rest) ρ w:=Co hh hx hi hy hc ht.out hl ho h1 kk
theorem fe {pl:List (Nat×Nat)} (cs:List Value) [hte:aJ P t n true by' zc] [hpl:ko P t pl] (kk:WL ro P N ops Q rest (cP ρ d (.agg cs.toArray)) w) (hp:BR ρ parts.toList=ps:=by exact rfl) (hf:mj (pl[·]?) zc ps=some cs:=by exact rfl) (hN:d<N:=by decide):WL ro P N ops Q (⟨some d,.build t parts,ty,pos,af,none⟩::rest) ρ w:=Pc hte.out hpl.out hp hf hN kk
theorem gi {c a b:Operand}{v:Bool} (kk:WL ro P N ops Q rest (cP ρ d (.bool v)) w) (hc:ev ρ c=.bool true:=by exact rfl) (hx:ev ρ a=.bool v:=by exact uh rfl) (hN:d<N:=by decide):WL ro P N ops Q (⟨some d,.pick c a b,ty,pos,af,none⟩::rest) ρ w:=Lt hc hx hN kk
theorem fK {c a b:Operand}{v:Bool} (kk:WL ro P N ops Q rest (cP ρ d (.bool v)) w) (hc:ev ρ c=.bool false:=by exact rfl) (hx:ev ρ b=.bool v:=by exact uh rfl) (hN:d<N:=by decide):WL ro P N ops Q (⟨some d,.pick c a b,ty,pos,af,none⟩::rest) ρ w:=N7 hc hx hN kk
theorem gS {op:Op}{b c:Bool} (kk:WL ro P N ops Q rest (cP ρ d undef) w) (hN:d<N:=by decide) (hj:(ops[j]?).bind (·.dst)=some dj:=by exact rfl) (hv:ρ dj=.bool c:=by exact rfl) (hb:c≠b:=by decide):WL ro P N ops Q (⟨some d,op,ty,pos,af,some (j,b)⟩::rest) ρ w:=lS hN hj hv hb kk
theorem gV {op:Op}{b:Bool} (kk:WL ro P N ops Q rest (cP ρ d undef) w) (hN:d<N:=by decide) (hj:(ops[j]?).bind (·.dst)=some dj:=by exact rfl) (hb:nb (ρ dj) b=true:=by exact rfl):WL ro P N ops Q (⟨some d,op,ty,pos,af,some (j,b)⟩::rest) ρ w:=u3 hN hj hb kk
theorem gT {dd:Option Nat}{op:Op}{b:Bool} (kk:WL ro P N ops Q (⟨dd,op,ty,pos,af,none⟩::rest) ρ w) (hj:(ops[j]?).bind (·.dst)=some dj:=by exact rfl) (hv:ρ dj=.bool b:=by exact rfl):WL ro P N ops Q (⟨dd,op,ty,pos,af,some (j,b)⟩::rest) ρ w:=aG hj hv kk
theorem bj {f:FuncId}{ts:Array TypeId}{v:Value} (hh:Hp w0 H w) (hc:Calls P f vs.toArray w fun e w'=>e=.returned v∧Below w.heap.size w w') [hf:au P f] (ha:yg ρ args.toList=vs) (kk:∀w',Hp w0 H w'→WL ro P N ops Q rest (cP ρ d v) w') (hN:d<N:=by decide):WL ro P N ops Q (⟨some d,.call ⟨.value (.func f),args,ts⟩,ty,pos,af,none⟩::rest) ρ w:=ay hc hf.out ha hN fun _ _ hq=>⟨_,hq.1,kk _ (hh.ext hq.2)⟩
theorem sr {id:Nat}{y:Code}{l:List Oper} (h:WL ro P N l.toArray (cM (fun ρ w=>WC ro P N y Q ρ w) Q) l ρ w):WC ro P N (.seq (.region id l.toArray false) y) Q ρ w:=ah (ak h)
theorem cT {c:Operand}{x y:Code} (h:WC ro P N x Q ρ w) (hc:ev ρ c=.bool true:=by exact rfl):WC ro P N (.cond c x y) Q ρ w:=KJ hc h
theorem cF {c:Operand}{x y:Code} (h:WC ro P N y Q ρ w) (hc:ev ρ c=.bool false:=by exact rfl):WC ro P N (.cond c x y) Q ρ w:=JF hc h
theorem dH {fn:Func}{e:Exit}{t0:Tmp}{v0:Value} (h:R (.returned v0) w) (hr:fn.results= #[.tmp t0]:=by exact rfl) (h0:ρ t0=v0:=by first|exact fg rfl|exact l4 rfl|exact zN rfl|exact J8 rfl|exact v_agg rfl|exact rfl) (he:e=.normal∨e=.ret:=by first|exact .inr rfl|exact .inl rfl):oC P fn R e ρ w:=Xd he hr h0 h
theorem yf {fn:Func}{e:Exit}{t0 t1:Tmp}{v0:Value} (h:R (.returned (.tuple #[v0,v1])) w) (hr:fn.results= #[.tmp t0,.tmp t1]:=by exact rfl) (h0:ρ t0=v0:=by first|exact fg rfl|exact l4 rfl|exact zN rfl|exact J8 rfl|exact v_agg rfl|exact rfl) (h1:ρ t1=v1:=by first|exact fg rfl|exact l4 rfl|exact zN rfl|exact J8 rfl|exact v_agg rfl|exact rfl) (he:e=.normal∨e=.ret:=by first|exact .inr rfl|exact .inl rfl):oC P fn R e ρ w:=W9 he hr h0 h1 h
theorem Ws {fn:Func}{e:Exit}{t0 t1 t2:Tmp}{v0 v2:Value} (h:R (.returned (.tuple #[v0,v1,v2])) w) (hr:fn.results= #[.tmp t0,.tmp t1,.tmp t2]:=by exact rfl) (h0:ρ t0=v0:=by first|exact fg rfl|exact l4 rfl|exact zN rfl|exact J8 rfl|exact v_agg rfl|exact rfl) (h1:ρ t1=v1:=by first|exact fg rfl|exact l4 rfl|exact zN rfl|exact J8 rfl|exact v_agg rfl|exact rfl) (h2:ρ t2=v2:=by first|exact fg rfl|exact l4 rfl|exact zN rfl|exact J8 rfl|exact v_agg rfl|exact rfl) (he:e=.normal∨e=.ret:=by first|exact .inr rfl|exact .inl rfl):oC P fn R e ρ w:=WT he hr h0 h1 h2 h
theorem JN {fn:Func}{e:Exit}{r0:ResultVar}{v0:Value} (h1:jm P ρ w [r0] [v0]) (h:R (.returned v0) w) (hr:fn.results= #[r0]:=by exact rfl) (he:e=.normal∨e=.ret:=by first|exact .inr rfl|exact .inl rfl):oC P fn R e ρ w:=Wl he hr h1 h
theorem Ib {fn:Func}{e:Exit}{r0 r1:ResultVar}{v0:Value} (h1:jm P ρ w [r0,r1] [v0,v1]) (h:R (.returned (.tuple #[v0,v1])) w) (hr:fn.results= #[r0,r1]:=by exact rfl) (he:e=.normal∨e=.ret:=by first|exact .inr rfl|exact .inl rfl):oC P fn R e ρ w:=Wh he hr h1 h
theorem JZ {fn:Func}{e:Exit}{r0 r1 r2:ResultVar}{v0 v2:Value} (h1:jm P ρ w [r0,r1,r2] [v0,v1,v2]) (h:R (.returned (.tuple #[v0,v1,v2])) w) (hr:fn.results= #[r0,r1,r2]:=by exact rfl) (he:e=.normal∨e=.ret:=by first|exact .inr rfl|exact .inl rfl):oC P fn R e ρ w:=Wg he hr h1 h
end
class TS (P:Program) (t:TypeId) (n:outParam Nat):Prop where out:(P.info? t).map (·.size)=some n
instance {P:Program}{t n b:Nat}{ag:Bool}{zc:List Value} [aJ P t n ag b zc]:TS P t n:=⟨aJ.size⟩
end Go.Proofs.YtmchncaiffbpaaaGreatDoor
