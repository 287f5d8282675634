/- The row and the card of BernOf. -/
import Derived.Test.YteeckcbbnegmcaaGreatDoorCards
import Derived.Test.YteeckcbbnegmcaaGreatDoorTie
import Derived.SevenTiedAt
import Derived.Test.YteeckcbbnegmcaaGreatDoorZ8
namespace Go.Proofs.YteeckcbbnegmcaaGreatDoor
open Go.RowKit
def Rx (b:List SR) (h:Int):Option (List SR):=
 if h.fdiv 2<0 then none else (b[(h.fdiv 2).toNat]?).map fun s=>(b.map SR.f).set (h.fdiv 2).toNat (s.f.half (nR s.f.UY) (decide (h % 2=1)))
def UI (b:List SR) (hs:List Int):Option (List SR):=hs.foldl (fun o h=>o.bind (Rx · h)) (some b)
def SR.at_ (s:SR) (x:Dyadic):Dyadic:=s.lo.d+x*s.wid
def UA (t:List NR) (i:Nat) (s:SR):NR:=match t[i]? with|none=>s.lo|some x=>nR (s.at_ x.d)
theorem MA (n:Nat) (s1 s1' s2 s2':Bool) (a1 a1' a2 a2':ByteArray) (e1 e1' e2 e2':Int) (w:World):(Op.equalIn (n+4) 81 (.agg #[.bool s1,.string a1,.int .i64 e1,.bool s2,.string a2,.int .i64 e2]) (.agg #[.bool s1',.string a1',.int .i64 e1',.bool s2',.string a2',.int .i64 e2'])).run Tryz.prog w=.ok (((s1==s1' && a1==a1') && e1==e1') && ((s2==s2' && a2==a2') && e2==e2')) w:=by
 have h1:=fun (x x':Bool) (y y':ByteArray) (z z':Int)=>GB (P:=Tryz.prog) (cs:= #[.bool x,.string y,.int .i64 z,.bool x',.string y',.int .i64 z']) (vs:= #[.bool x,.string y,.int .i64 z]) (off:=0) (aO.out (P:=Tryz.prog) (t:=65)) rfl;have h2:=fun (x x':Bool) (y y':ByteArray) (z z':Int)=>GB (P:=Tryz.prog) (cs:= #[.bool x,.string y,.int .i64 z,.bool x',.string y',.int .i64 z']) (vs:= #[.bool x',.string y',.int .i64 z']) (off:=3) (aO.out (P:=Tryz.prog) (t:=65)) rfl;rw [Op.equalIn];simp [run_underlying Tryz.underlying81,h1,h2,Eo]
 cases h:((s1==s1' && a1==a1') && e1==e1')<;>cases h':((s2==s2' && a2==a2') && e2==e2')<;>simp_all
section
variable {N:Nat}{ops:Array Oper}{Q:Kq}{ρ:Rf}{w:World}{rest:List Oper}{d:Option Nat}{ty u:TypeId}{pos:String}{af:Array Edge}{x y:Operand}{s:SR}
theorem Ma {g:Option (Nat×Bool)} (hx:ev ρ x=.agg s.cells.toArray) (hy:ev ρ y=.agg s.cells.toArray):
  (execOp (ev ρ) ⟨d,.binOp .neq 81 x y u,ty,pos,af,g⟩).run Tryz.prog w=.ok (.value (.bool false)) w:=by
 have h0:=MA 9996 s.lo.neg s.lo.neg s.hi.neg s.hi.neg s.lo.bf s.lo.bf s.hi.bf s.hi.bf s.lo.e s.lo.e s.hi.e s.hi.e w;rw [k9.2 rfl,k9.2 rfl] at h0;have h1:(Op.equal 81 (.agg s.cells.toArray) (.agg s.cells.toArray)).run Tryz.prog w=.ok true w:=h0;simp only [execOp,hx,hy];simp [eqGuard,binOp,h1]
end
theorem zi (L:Option Addr) (n c:Nat) (b:List SR) (M:Option Addr) (c2:Nat) (w:World) (hS:Sl w L n 6 (az SR.cells b)) (hS2:Sl w M n 6 (az SR.cells b)) (hn:n≤1000000):
  Calls Tryz.prog 33 #[.slice L n c,.slice M n c2] w fun r w'=>r=.returned (.bool true)∧Below w.heap.size w w':=by
 have hh:=Hp.start w;have hln:=hS.bg SR.len VY;refine aj (N:=26) (l:=[.slice L n c,.slice M n c2]) Tryz.func33 rfl rfl (by simp) ?_;refine xu ?_;refine Fm ?_;refine aM [4,5,11,12,13,14,15,16,17,18,19,20,21,22,23,24,25] 5
  (fun v w'=>∃i:Nat,i≤n∧v=.int .i64 i∧Hp w [] w')
  (fun v _=>n-(intOf v).toNat) ?_ ?_
 ·exact ⟨0,V5 _,rfl,hh⟩
 ·clear hh;rintro ρ' v w' ⟨i,hi,rfl,hh⟩;by_cases hlt:i<n
  ·obtain ⟨s,hs⟩:=ak (l:=b) (k:=i) VX;obtain ⟨ad,rfl,hr⟩:=hS.at_ VX;obtain ⟨ad2,rfl,hr2⟩:=hS2.at_ VX;refine ah (sr (mI (mL (aF ?_))));refine jW ?_;refine xQ ?_;refine dI ?_;refine cM ?_;refine iL (i) ?_;refine mJ [_,_,_,_,_,_] (fun _ hj=>(hr.ext hj.hp.below).recAt SR.len hs) ?_;refine dI ?_;refine cM ?_;refine iL (i) ?_;refine mJ [_,_,_,_,_,_] (fun _ hj=>(hr2.ext hj.hp.below).recAt SR.len hs) ?_;refine aJ ?_;intro f W hJ hV;have hb_6:=hJ.bl;obtain ⟨v24,v23,v22,v21,v20,v19,v18,v17,_⟩:=hV;replace hh:=hJ.hp;refine xx ?_;dsimp only [bH];clear hJ;refine aV rfl rfl VY (Ma (s:=s) rfl rfl) ?_;skip;exact Pa
  ·exact So
variable {k:Nat}{ts:List TR}
theorem Jp {v:Int} (h:gF v ts=0) (hex:∀t∈ts,∀c∈t.m.data.toList,c.toNat≤4) (hc:ay (gL v ts)≤200) (hk:k≤1000):eT (k+k+16394) (gL v ts) (k+1)≤440000:=by
 have h1:(gL v ts).sum≤15:=Rg (fun d hd=>by have:=Q3 h hex d hd;omega) hc VY;have h2:=(lk h).2.1;have h3:=(dx.1 (cK h).1).2;rw [xn];have h4:(gL v ts).sum*(k+k+16394)≤15*(1000+1000+16394):=XM h1 VX;have h5:(gL v ts).length*8192≤12*8192:=Xi _ VX;omega
theorem It.TD {p:PX}{b:List SR}{D:List Int} (h:It p) (hc:sE (jy p.v p.ts)≤4096→sE (jy p.v p.ts)≤200) (hf:gI p b D=0):eT (124+124+16394) (gL p.v p.ts) (124+1)≤440000:=by
 obtain ⟨h1,hF⟩:=C8 hf;obtain ⟨o1,o2,o3⟩:=lk hF.e;have hlow:∀d∈gL p.v p.ts,d≤127:=fun d hd=>by
  obtain ⟨i,hi⟩:=Xr.1 hd;exact (o3 i d hi).1
 have h4:=hF.NF hF.most;rw [o1,wG hlow h4] at hc;exact Jp hF.e (fun t ht=>(h.ex t ht).2) (by have:=hc VX;omega) VY
set_option maxRecDepth 10000 in
theorem yw (p:PX) (L:Option Addr) (n c:Nat) (b:List SR) (M:Option Addr) (m mc:Nat) (ds:List Int) (w:World) (hT:eK w) (hp:p.at_ w) (hpc:p.n≤p.c) (hB:Sl w L n 6 (az SR.cells b)) (hD:Sl w M m 1 (bC ds)):
  Calls Tryz.prog 5 #[.agg #[.int .i64 p.v,.slice p.A p.n p.c],.slice L n c,.slice M m mc] w fun r w'=>r=.returned (.bool true)∧Below w.heap.size w w':=by
 have hh:=Hp.start w;have hdl:ds.length=m:=by have:=hD.1;rw [bV] at this;omega
 have hbl:b.length=n:=hB.bg SR.len VY;have hpl:=hp.ln;refine aj (N:=81) (l:=[.agg #[.int .i64 p.v,.slice p.A p.n p.c],.slice L n c,.slice M m mc]) Tryz.func5 rfl rfl (by simp) ?_;refine sr ?_;refine cf hh [_,_] ?_;intro b3 w3 hh;refine aB (aa (ah (sr ?_)));refine cn hh 0 [_,_] ?_;refine aG (yT p.v p.A p.n p.c p.ts _ (hp.ext hh.below)) ar.out rfl VY ?_;rintro e_ w15 ⟨b1,rfl,hb1,hb_⟩;refine ⟨_,rfl, ?_⟩;replace hh:=hh.ext hb_
 cases b1 with
 |true=>
  refine mB ?_;refine gS ?_;refine ic ?_;refine eM ?_;exact Oh
 |false=>
  obtain ⟨p1,p2,p3⟩:=hb1 rfl;clear hb1;refine mB (gT (mL ?_));refine aK rfl rfl ?_;refine aG (B3 none 0 0 [] L n c b _ (Sl.nil _ _ _) (hB.ext hh.below)) ar.out rfl VY ?_;rintro e_ w18 ⟨b1,rfl,hb1,hb_⟩;refine ⟨_,rfl, ?_⟩;replace hh:=hh.ext hb_
  cases b1 with
  |true=>
   refine dE ?_;exact Oh
  |false=>
   obtain ⟨_,UJ,_,hb⟩:=hb1 rfl;clear hb1;refine dE ?_;refine mB (gT (mL ?_));refine aK rfl rfl ?_;refine aG (p7 M m mc ds _ (hD.ext hh.below)) ar.out rfl VY ?_;rintro e_ w22 ⟨b1,rfl,hb1,hb_⟩;refine ⟨_,rfl, ?_⟩;replace hh:=hh.ext hb_
   cases b1 with
   |true=>
    refine dE ?_;exact SI
   |false=>
    obtain ⟨m20,_⟩:=hb1 rfl;clear hb1;have f8p:It p:=⟨VX,p2,p3⟩;have lp:=f8p.jX hp hpc;have hdg:=fun w1 hb=>qE p 124 w1 (hp.ext hb) lp;refine dE ?_;refine mB (gT ?_);refine cn hh 0 [_,_] ?_;refine aK rfl rfl ?_;refine aG (hdg _ hh.below) ar.out rfl VY ?_;rintro e_ w26 ⟨G,gc,rfl,h4⟩;refine ⟨_,rfl, ?_⟩;replace hh:=hh.join h4;clear h4;simp only [Wb,V9] at hh;refine aK rfl rfl ?_;refine aG (p7 G _ gc (jy p.v p.ts) _ (hh.aC (i:=0) rfl)) ar.out rfl VY ?_;rintro e_ w27 ⟨b1,rfl,hb1,hb_⟩;refine ⟨_,rfl, ?_⟩;replace hh:=hh.ext hb_
    cases b1 with
    |true=>
     refine dE ?_;exact Pp
    |false=>
     obtain ⟨_,hcn⟩:=hb1 rfl;clear hb1;have hgr:∀D:List Int,gI p b D=0→eT (124+124+16394) (gL p.v p.ts) (124+1)≤440000:=fun D h=>f8p.TD (fun h2=>(hcn h2).1) h;have hone:((az SR.cells b).all Value.oneCell')=true:=bu SR.one _;have hone2:=a7 ds;replace hh:=hh.sub (V6 _ (V4 _ Wq));refine dE ?_;refine tF ?_;refine cn hh 0 [_,_] ?_;refine aG (BW p _ (hp.ext hh.below) VX) ar.out rfl VY ?_;rintro e_ w31 ⟨o,⟨o1,o2,o3⟩,rfl,h4⟩;refine ⟨_,rfl, ?_⟩;have hoc:o.n≤o.c:=h4.dR (i:=0) rfl;replace hh:=hh.join h4;clear h4;simp only [Wb,V9] at hh;replace hh:=show Hp w (.row o.A o.n o.c 96 4 (az TR.cells o.ts)::_) _ from hh;refine r7 ?_;intro b32 w32 hh;refine mL ?_;refine bK hh (i:=0) rfl rfl rfl (hB.ext hh.below) bj.out aO.out rfl VY ?one1 VX VX VY ?kk1
     case one1=>first|rfl|assumption|exact a7 _|exact oneCells_u8s _
     intro A34 c34 w34 hh;simp only [Wd] at hh;rw [Wr] at hh ⊢;rw [V9] at hh;refine r7 ?_;intro b35 w35 hh;refine mL ?_;refine bK hh (i:=0) rfl rfl rfl (hD.ext hh.below) bj.out aO.out rfl VY ?one2 VX VX VY ?kk2
     case one2=>first|rfl|assumption|exact a7 _|exact oneCells_u8s _
     intro A37 c37 w37 hh;simp only [Wd] at hh;rw [Wr] at hh ⊢;rw [V9] at hh;have lo:o.jX 124:=⟨by have:=lp.n;omega,hoc,by rw [o2];exact lp.ok,by rw [o2];exact lp.sz⟩;have hcap:m≤c37:=hh.dR (i:=0) rfl;have eO:o.e=p.e:=by unfold PX.e;rw [o1,o2]
     have eD:lS o ds=lS p ds:=by unfold lS;rw [o1,o2]
     have eF:∀D,gI o b D=gI p b D:=fun D=>by unfold gI;rw [eO,o1,o2]
     have eS:=(s9 (o:=o) (p:=p) (os:=bT b) (ls:=bT b) o1 o2 rfl).1;have eB:oG o b ds=oG p b ds:=by unfold oG;rw [eD,eF,eS]
     have eN:CG o ds=CG p ds:=by unfold CG;rw [eD]
     have hof:=fun w1 hT1 ha h1 h2=>xe o A34 n c34 b A37 m c37 ds 124 w1 hT1 ha lo h1 hb VX h2 VX hcap VY (fun h=>by rw [eF,eD] at h;rw [o1,o2];exact hgr _ h);rw [eB,eN,eS] at hof;have hog:=fun w1 hb1=>CS p L n c b M m mc ds 124 w1 (hp.ext hb1) lp (hB.ext hb1) hb VX (hD.ext hb1) VX VY (hgr _);have hnu:=fun w1 h1 h2=>oM A37 M m m c37 mc ds ds w1 h1 h2 VX VX;simp only [decide_true] at hnu;clear eO eD eF eS eB eN hgr;generalize oG p b ds=E at*;generalize sV (CG p ds) (ez p (bT b)).2=X at*;generalize CG p ds=D at*;refine bQ hh ?_;intro b7 w7 hh;refine bR hh 0 [_,_] ?_;intro ws hh;replace hh:Hp _ (.blk _ _ [_,_] _::_) _:=hh;refine aL (aL (aa (sr ?_)));refine cn hh 0 [_,_] (mL (mL ?_));refine aG (hof _ (hT.hp hh) (hh.aC (i:=3) rfl) (hh.aC (i:=2) rfl) (hh.aC (i:=1) rfl)) ar.out rfl VY ?_;rintro e_ w42 ⟨f0,q1,rfl,h4⟩;refine ⟨_,rfl, ?_⟩;replace hh:=hh.join h4;clear h4;simp only [Wb,V9] at hh;replace hh:=show Hp w (.row f0.B f0.m f0.b 65 3 (az NR.cells f0.cs)::.row f0.A f0.n f0.a 3 1 (bC f0.ds)::_) _ from hh;refine mT ?_;refine du ?_;refine du ?_;refine bQ hh ?_;intro b10 w10 hh;refine bR hh 0 [_,_] ?_
     intro ws hh;replace hh:Hp _ (.blk _ _ [_,_] _::_) _:=hh;refine aI (aa (sr ?_));refine cn hh 7 [_,_] (mL (mL ?_));refine aG (hog _ hh.below) ar.out rfl VY ?_;rintro e_ w49 ⟨g0,q2,rfl,h4⟩;refine ⟨_,rfl, ?_⟩;replace hh:=hh.join h4;clear h4;simp only [Wb,V9] at hh;replace hh:=show Hp w (.row g0.B g0.m g0.b 65 3 (az NR.cells g0.cs)::.row g0.A g0.n g0.a 3 1 (bC g0.ds)::_) _ from hh;refine mT ?_;refine du ?_;refine du ?_;refine bQ hh ?_;intro b12 w12 hh;refine bR hh 0 [_,_] ?_;intro ws hh;replace hh:Hp _ (.blk _ _ [_,_] _::_) _:=hh;refine aI (aa (ah (sr (mI (mI ?_)))));refine cJ (mB (gT ?_));refine cn hh 3 [_,_] (gT ?_);refine cn hh 0 [_,_] ?_;refine aK rfl rfl ?_;refine br hh (rO f0 g0 _ ⟨hh.aC (i:=5) rfl,hh.aC (i:=4) rfl⟩ ⟨hh.aC (i:=2) rfl,hh.aC (i:=1) rfl⟩ (q1.same q2) q1.n q1.m) rfl ?_;intro w58 hh;refine gT ?_;refine fI ?_;refine dE ?_;refine tV ?_;refine bB hh 3 ?_
     replace hh:=hh.sub (V6 _ (V6 _ (V6 _ (V4 _ (V4 _ (V4 _ (V4 _ (V4 _ (V4 _ (V4 _ (V4 _ Wq)))))))))));replace hh:=hh.perm (WO (l₁:=[_]));simp only [Wb,V9] at hh;refine AZ hh (i:=0) rfl rfl bj.out aO.out rfl rfl ?_;intro wc hh;simp only [Wd] at hh;replace hh:=hh.sub (V6 _ (V4 _ (V4 _ (V4 _ (V4 _ (V4 _ (V4 _ (V4 _ Wq))))))));refine aa (sr (bE ?_));refine bB hh 0 ?_;replace hh:=hh.perm (WO (l₁:=[_]));simp only [Wb,V9] at hh;refine AZ hh (i:=0) rfl rfl bj.out aO.out rfl rfl ?_;intro wc hh;simp only [Wd] at hh
     replace hh:=hh.sub (V6 _ (V6 _ (V4 _ (V4 _ (V4 _ (V4 _ (V4 _ Wq)))))));refine aa (sr ?_);refine cn hh 0 [_,_] ?_;refine cn hh 4 [_,_] ?_;refine br hh (AP (g:=o) (h:=p) _ (hh.aC (i:=3) rfl) (hp.ext hh.below) ⟨o1,o2⟩ VX VX) rfl ?_;intro w67 hh;refine mB (gT (mL (gT (mL ?_))));refine aK rfl rfl ?_;refine br hh (zi A34 n c34 b L c _ (hh.aC (i:=2) rfl) (hB.ext hh.below) VX) rfl ?_;intro w71 hh;refine eM ?_;refine mB (gT (mL (gT (mL ?_))));refine aK rfl rfl ?_;refine br hh (hnu _ (hh.aC (i:=1) rfl) (hD.ext hh.below)) rfl ?_;intro w76 hh;refine eM ?_;refine mB ?_;refine aK rfl rfl ?_;refine br hh (qa _ (hT.hp hh)) rfl ?_;intro w79 hh;refine eM ?_;exact vH
end Go.Proofs.YteeckcbbnegmcaaGreatDoor
namespace Go.Proofs.YteeckcbbnegmcaaGreatDoor.bernOf
open Go.ChangeShapes Go.WideShapes Go.ChangeAt Go.RowKit Go.ChangeMaps
theorem own:ownKnob Tryz.prog.godebug=none:=by kernel_rfl
set_option maxRecDepth 100000 in
theorem lifted (os:Os) (started:os.Started) (H:Type) (enc:TypeId×Value→H):
  ReturnsInHanded {} Tryz.checked os 5 .any (fun w args=>(Rows.bernOfSpec.pre enc Tryz.prog Tryz.f5 Rows.bernOfRow.domain false w args∧laidMetH Tryz.prog Rows.bernOfRow.laid w)∧sizedMet enc Tryz.prog Tryz.f5 (OpenSpec.ofChange Rows.bernOfSpec) false w args)
   (Rows.bernOfSpec.post enc Tryz.prog Tryz.f5 false true false false):=by
 refine returnsInHanded_of_change_and (C:=Tryz.checked) (X:=fun w _=>laidMetH Tryz.prog Rows.bernOfRow.laid w) (fun _ _ _ hh h=>h.of_heap hh) own started VZ Tryz.func5
  (ChangeSpec.witness_shaped (enc:=enc) (C:=Tryz.checked) (os:=os) (X:=fun w _=>laidMetH Tryz.prog Rows.bernOfRow.laid w) false (World.laidAll Tryz.prog os Rows.bernOfRow.laid) #[.agg #[.int .i64 0,.slice none 0 0],.slice none 0 0,.slice none 0 0] 8 (World.laidAll_os _ _ _)
   (World.shaped_of_ZipB VZ VZ) VZ VZ VZ
   (by rw [MakeChecks.laidMetH_plain _ _ _ VZ];exact laidMet_laidAll _ VZ VZ)) ?_
 intro W base args ds gs before hval0 hW hc _ hL _;have hval:∀(j:Nat) t v,Tryz.f5.params[j]?=some t→args[j]?=some v→Value.okWide Tryz.prog W .any base t v:=hval0;have hW':=hW;obtain ⟨p,q,hA0,hV,rfl,hfz,hnd⟩:=hW;have hA:DataW.TrodAll enc Tryz.prog W 0 (fun _=>true) true Tryz.f5.params.toList args.toList ds p:=hA0;rw [Tryz.params5] at hA hval;obtain ⟨v0,vs0,d0,ds0,p0,q0,hargs,rfl,rfl,h0,r0⟩:=trodAll_cons hA;obtain ⟨v1,vs1,d1,ds1,p1,q1,rfl,rfl,rfl,h1,r1⟩:=trodAll_cons r0;obtain ⟨v2,vs2,d2,ds2,p2,q2,rfl,rfl,rfl,h2,r2⟩:=trodAll_cons r1;obtain ⟨rfl,rfl,rfl⟩:=trodAll_nil r2;obtain rfl:args= #[v0,v1,v2]:=by cases args;simp_all
 obtain ⟨rfl,rfl⟩:=trodVars_none hV;obtain ⟨f0,rfl,hS0,hR0⟩:=G6 (hval 0 24 v0 rfl rfl) h0;obtain ⟨A1,n1,c1,l1,rfl,hS1,_⟩:=Kg (hval 1 34 v1 rfl rfl) h1;obtain ⟨A2,n2,c2,l2,rfl,hS2,_⟩:=GI (hval 2 35 v2 rfl rfl) h2;refine (yw f0 A1 n1 c1 l1 A2 n2 c2 l2 W (Co hL) hS0 hR0 hS1 hS2).mono fun e W' ⟨he,hb⟩=> ?_;subst he;exact ⟨_,rfl,Li hW' rfl VZ (by rw [Tryz.params5];exact Xz VZ) VZ Tryz.underlying4 rfl rfl rfl hb⟩
set_option maxHeartbeats 8000000 in
theorem row_holds:Rows.BernOfSaid:=
 OpenClaim.holds_of_wide 5 Tryz.f5 rfl rfl rfl rfl rfl rfl rfl ⟨rfl,rfl,rfl,rfl,rfl⟩ rfl rfl rfl rfl rfl (by as_aux_lemma=>kernel_rfl) Tryz.func5 (by rw [joinedFacts];simp only [Wl];and_intros<;>as_aux_lemma=>kernel_rfl)
  (Xz (by as_aux_lemma=>kernel_rfl)) (by unfold Func.isWrapper;first|(rw [V2 (by decide+kernel)];kernel_rfl)|(rw [V3 (by decide+kernel)];exact ⟨rfl,rfl⟩))
  (fun os started H enc _=>lifted os started H enc)
set_option maxHeartbeats 8000000 in
theorem holds:Rows.BernOfCardSaid:=
 Claim7.holds_tied_plain_at .later [] [.data,.data,.pinned] true (true, "2e00f90462f683c83fa0963bfbbf790e29f51abb4608f860dd030f3668376368") false row_holds (fun _ h=>by cases h) (by as_aux_lemma=>kernel_rfl) (fun _ h=>by cases h) bernOf_row_tie rfl ⟨rfl,rfl⟩ (by as_aux_lemma=>kernel_rfl) rfl
  (fun f fn hf hfn=>by
   obtain rfl:f=5:=WZ ((show Tryz.prog.funcNamed "ogee/ogeelaw12.BernOf" =some 5 by as_aux_lemma=>kernel_rfl).symm.trans hf)|>.symm;obtain rfl:fn=Tryz.f5:=(WZ (Tryz.func5.symm.trans hfn)).symm;exact ⟨by as_aux_lemma=>kernel_rfl,fun j t ht=>by
    rw [Tryz.params5] at ht;have hm:t∈[24,34,35]:=by simpa using Array.mem_of_getElem? ht
    have hall:([24,34,35].all fun u=> !Tryz.prog.wantsStandIn u)=true:=by as_aux_lemma=>kernel_rfl
    exact (show Tryz.prog.wantsStandIn t=false by simpa using Ww.1 hall t hm)⟩)
  (by as_aux_lemma=>kernel_rfl)
#print axioms holds
end Go.Proofs.YteeckcbbnegmcaaGreatDoor.bernOf
