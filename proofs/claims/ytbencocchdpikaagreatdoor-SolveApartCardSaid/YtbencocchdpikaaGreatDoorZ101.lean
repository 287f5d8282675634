/- The row and the card of SolveApart. -/
import Derived.Test.YtbencocchdpikaaGreatDoorCards
import Derived.Test.YtbencocchdpikaaGreatDoorTie
import Derived.SevenTiedAt
import Derived.Test.YtbencocchdpikaaGreatDoorZ10
set_option linter.all false
set_option maxHeartbeats 0
namespace Go.Proofs.YtbencocchdpikaaGreatDoor.solveApart
open Go.Proofs.Tryz
open Go.ChangeShapes Go.WideShapes Go.ChangeAt Go.RowKit Go.ChangeMaps
def own:ownKnob prog.godebug=none:=by kernel_rfl
set_option maxRecDepth 100000 in
def lifted(os:Os)(started:os.Started)(H:Type)(enc:TypeId×Value->H):
  ReturnsInHanded {} Tryz.checked os 5 .any (λw args=>(Rows.solveApartSpec.pre enc prog Tryz.f5 Rows.solveApartRow.domain false w args/\laidMetH prog Rows.solveApartRow.laid w)/\sizedMet enc prog Tryz.f5 (OpenSpec.ofChange Rows.solveApartSpec) false w args) (Rows.solveApartSpec.post enc prog Tryz.f5 false true false false):=by
 refine returnsInHanded_of_change_and (C:=Tryz.checked) (X:=λw _=>laidMetH prog Rows.solveApartRow.laid w) (λ_ _ _ I h=>h.of_heap I) own started U' func5 (ChangeSpec.witness_shaped (enc:=enc) (C:=Tryz.checked) (os:=os) (X:=λw _=>laidMetH prog Rows.solveApartRow.laid w) false (World.laidAll prog os Rows.solveApartRow.laid) #[.slice none 0 0,.slice none 0 0,.agg #[.bool false,.string ⟨#[]⟩,.int .i64 0],.int .i64 0,.int .i64 0,.slice none 0 0] 8 (World.laidAll_os _ _ _) (World.shaped_of_ZipB U' U') U' U' U' (by rw[MakeChecks.laidMetH_plain _ _ _ U'];exact laidMet_laidAll _ U' U')) ?_
 intro W base args ds gs before i g hc _ M _;have s:∀(j:Nat) t v,Tryz.f5.params[j]?=some t->args[j]?=some v->Value.okWide prog W .any base t v:=i;have b:=g;obtain⟨p,q,S,T,rfl,hfz,hnd⟩:=g;have R:DataW.TrodAll enc prog W 0 (λ_=>true) true Tryz.f5.params.toList args.toList ds p:=S;rw[Tryz.params5] at R s;obtain⟨v0,vs0,d0,n,p0,q0,l,rfl,rfl,J,r0⟩:=trodAll_cons R;obtain⟨v1,vs1,d1,Q,p1,q1,rfl,rfl,rfl,h1,r1⟩:=trodAll_cons r0;obtain⟨v2,vs2,d2,o,p2,q2,rfl,rfl,rfl,h2,r2⟩:=trodAll_cons r1;obtain⟨y,vs3,d3,x,p3,q3,rfl,rfl,rfl,G,r3⟩:=trodAll_cons r2;obtain⟨v4,vs4,d4,z,p4,q4,rfl,rfl,rfl,F,r4⟩:=trodAll_cons r3;obtain⟨u,vs5,d5,A,p5,q5,rfl,rfl,rfl,P,r5⟩:=trodAll_cons r4;obtain⟨rfl,rfl,rfl⟩:=trodAll_nil r5;obtain rfl:args= #[v0,v1,v2,y,v4,u]:=by cases args;simp_all
 obtain⟨rfl,rfl⟩:=trodVars_none T;obtain⟨K,n0,L,l0,rfl,B,E⟩:=lJ (s 0 47 v0 rfl rfl) J;obtain⟨c,n1,f,l1,rfl,N,_⟩:=AQ (s 1 26 v1 rfl rfl) h1;obtain⟨x2,rfl,_,_⟩:=AU (s 2 30 v2 rfl rfl) h2;obtain⟨x3,rfl,rfl,rfl,a⟩:=open_int Tryz.underlying3 (s 3 3 y rfl rfl) G;obtain⟨x4,rfl,rfl,rfl,D⟩:=open_int Tryz.underlying3 (s 4 3 v4 rfl rfl) F;obtain⟨r,n5,m,l5,rfl,k,d⟩:=nI (s 5 48 u rfl rfl) P;refine(Gs K n0 L l0 c n1 f l1 x2 x3 x4 r n5 m l5 W (TE M) B E N (bounds_i64 a).1 (bounds_i64 a).2 (bounds_i64 D).1 (bounds_i64 D).2 k d).mono λe W' ⟨he,Y⟩=> ?_;subst he;exact⟨_,rfl,uR b rfl U' (by rw[Tryz.params5];exact O9 U') U' Tryz.underlying4 rfl rfl rfl Y⟩
set_option maxHeartbeats 8000000 in
def row_holds:Rows.SolveApartSaid:=
 OpenClaim.holds_of_wide 5 Tryz.f5 rfl rfl rfl rfl rfl rfl rfl ⟨rfl,rfl,rfl,rfl,rfl⟩ rfl rfl rfl rfl rfl (by as_aux_lemma=>kernel_rfl) func5 (by rw[joinedFacts];simp only[l'];and_intros<;>as_aux_lemma=>kernel_rfl) (O9 (by as_aux_lemma=>kernel_rfl)) (by unfold Func.isWrapper;first|(rw[P' (by decide+kernel)];kernel_rfl)|(rw[Q' (by decide+kernel)];exact⟨rfl,rfl⟩)) (λos started H enc _=>lifted os started H enc)
set_option maxHeartbeats 8000000 in
theorem holds:Rows.SolveApartCardSaid:=
 Claim7.holds_tied_plain_at .later [] [.data,.data,.pinned] true (true, "29254e130a85e7bc3d2bb522da3cda22bede667dc2cd1008b15860ef8c3e3f2a") false row_holds (fun _ h=>by cases h) (by as_aux_lemma=>kernel_rfl) (fun _ h=>by cases h) solveApart_row_tie rfl ⟨rfl,rfl⟩ (by as_aux_lemma=>kernel_rfl) rfl (fun f fn Y C=>by
   obtain rfl:f=5:=i' ((show prog.funcNamed "ogee/ogeelaw27.SolveApart" =some 5 by as_aux_lemma=>kernel_rfl).symm.trans Y)|>.symm;obtain rfl:fn=Tryz.f5:=(i' (func5.symm.trans C)).symm;exact⟨by as_aux_lemma=>kernel_rfl,fun j t S=>by
    rw[Tryz.params5] at S;have hm:t∈[47,26,30,3,3,48]:=by simpa using Array.mem_of_getElem? S
    have X:([47,26,30,3,3,48].all λu=> !prog.wantsStandIn u)=true:=by as_aux_lemma=>kernel_rfl
    exact(show prog.wantsStandIn t=false by simpa using L_.1 X t hm)⟩)
  (by as_aux_lemma=>kernel_rfl)
#print axioms holds
end Go.Proofs.YtbencocchdpikaaGreatDoor.solveApart
