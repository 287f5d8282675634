/- Lemmas for bernParts, part 7. -/
import Derived.OrdersIn
import Derived.Test.YtolamocnngihpaaGreatDoorZ6
namespace Go.Proofs.YtolamocnngihpaaGreatDoor
variable {p:List TR}
open Go.RowKit
theorem IK {q:List TR} (h:65536<p.length*q.length):fR p q=3:=by unfold fR;rw [V5 h]
theorem Od {q:List TR}{e:Int} (h6:¬65536<p.length*q.length) {a b:List Int} (h:wW p q=a++e::b) (ha:∀x∈a,x=0) (he:e≠0):fR p q=e:=by
 unfold fR;rw [V6 h6,h,List.find?_append,jY (Ya.2 fun x hx=>by simp [ha x hx]),List.find?_cons_of_pos (p:=fun e:Int=>decide (e≠0)) (by simpa using he)]
 rfl
theorem KE {q:List TR} (h6:¬65536<p.length*q.length) (h:∀x∈wW p q,x=0):fR p q=im (df p q):=by
 unfold fR im;rw [V6 h6,jY (Ya.2 fun x hx=>by simp [h x hx])]
theorem yo (p q:PX) (k k2:Nat) (w:World) (hT:er w) (hp:p.at_ w) (hq:q.at_ w) (lp:p.km k) (lq:q.km k2) (hk:k+k2≤900000):
  Calls Tryz.prog 201 #[.agg #[.int .i64 p.v,.slice p.A p.n p.c],.agg #[.int .i64 q.v,.slice q.A q.n q.c]] w fun r w'=>∃g:PX,fL (fR p.ts q.ts) p.v (aM (df p.ts q.ts)) g∧r=.returned (.tuple #[.agg #[.int .i64 g.v,.slice g.A g.n g.c],.int .i64 (fR p.ts q.ts)])∧Hp w [g.row] w':=by
 have hh:=Hp.start w;obtain ⟨pv,pA,pn,pc,ps⟩:=p;obtain ⟨qv,qA,qn,qc,qs⟩:=q;have hpl:ps.length=pn:=hp.ln;have hql:qs.length=qn:=hq.ln;have hpn:pn≤1000000:=lp.n;have hqn:qn≤1000000:=lq.n;have okp:jG k ps:=lp.ok;have okq:jG k2 qs:=lq.ok;have szp:∀t∈ps,t.m.size≤100000:=lp.sz;have szq:∀t∈qs,t.m.size≤100000:=lq.sz;replace hp:Sl w pA pn 4 (aA TR.cells ps):=hp;replace hq:Sl w qA qn 4 (aA TR.cells qs):=hq;clear lp lq;show Calls _ _ _ _ fun r w'=>∃g:PX,fL (fR ps qs) pv (aM (df ps qs)) g∧r=.returned (.tuple #[.agg #[.int .i64 g.v,.slice g.A g.n g.c],.int .i64 (fR ps qs)])∧Hp w [g.row] w';have hmm:pn*qn≤1000000*1000000:=Yr hpn hqn;obtain ⟨m,hm⟩:∃m,m=pn*qn:=⟨_,rfl⟩;have hmi:(pn:Int)*(qn:Int)=(m:Int):=by rw [hm];exact (Xk _ _).symm
 by_cases h6:65536<m
 ·rw [IK (by rw [hpl,hql,←hm];exact h6)];refine aj (N:=67) (l:=[.agg #[.int .i64 pv,.slice pA pn pc],.agg #[.int .i64 qv,.slice qA qn qc]]) Tryz.func201 rfl rfl (by simp) ?_;refine sr ?_;refine bV hh [_,_] ?_;intro b2 w2 hh;refine bV hh [_,_] ?_;intro b3 w3 hh;refine bJ hh ?_;intro b4 w4 hh;refine aI (aa (ah (sr (bC ?_))));refine bA hh 2 ?_;refine aF (bC ?_);refine bA hh 1 ?_;refine aF ?_;refine mulC ?_;refine bH (aa (cT (sr ?_)));exact ME
 ·have hbig:¬65536<ps.length*qs.length:=by rw [hpl,hql,←hm];exact h6
  refine aj (N:=67) (l:=[.agg #[.int .i64 pv,.slice pA pn pc],.agg #[.int .i64 qv,.slice qA qn qc]]) Tryz.func201 rfl rfl (by simp) ?_;refine sr ?_;refine bV hh [_,_] ?_;intro b2 w2 hh;refine bV hh [_,_] ?_;intro b3 w3 hh;refine bJ hh ?_;intro b4 w4 hh;refine aI (aa (ah (sr (bC ?_))));refine bA hh 2 ?_;refine aF (bC ?_);refine bA hh 1 ?_;refine aF ?_;refine mulC ?_;refine bH (aa (cF (ao (ai (sr (aL (aa (ah (sr (bC ?_))))))))));refine bA hh 2 ?_;refine aF (mI (aa (aq ?_)));replace hh:=hh.cx 80 4;have hall:∀i,((ps.take i).flatMap fun x=>qs.map (tj x)).length≤65536:=fun i=>by
   have h1:(df ps qs).length=((ps.take i).flatMap fun x=>qs.map (tj x)).length+((ps.drop i).flatMap fun x=>qs.map (tj x)).length:=by
    unfold df;rw [←We,←Yu,W9]
   rw [rk] at h1;omega
  refine bz [5,6,8,10,11,12,25,26,27,28,29,30,31,32,33,34,35,36,37,38,39,40,41,42,43,44,45,46,47,48,49,50,51,52,53,54,55,56,57,58,59,60] 6 25
   (fun a x w'=>∃(i:Nat) (M:List TR) (A':Option Addr) (c':Nat),i≤pn∧x=.int .i64 i∧a=.slice A' M.length c'∧M=((ps.take i).flatMap fun x=>qs.map (tj x))∧(∀e∈((ps.take i).flatMap fun x=>qs.map fun y=>qW x.m y.m),e=0)∧Hp w [.row A' M.length c' 80 4 (aA TR.cells M),.blk b4 24 [.int .i64 0,.slice none 0 0] (0,0),.blk b3 24 [.int .i64 qv,.slice qA qn qc] (0,0),.blk b2 24 [.int .i64 pv,.slice pA pn pc] (0,0)] w')
   (fun _ x _=>pn-(intOf x).toNat) ?_ ?_
  ·exact ⟨0,[],none,0,V8 _,rfl,rfl,rfl,fun e he=>(nomatch he),hh⟩
  ·clear hh;rintro ρ' a_ x_ w' ⟨i,M,A',c',hi,rfl,rfl,hM,hz,hh⟩;have hMl:=hall i;rw [←hM] at hMl;by_cases hlt:i<pn
   ·obtain ⟨x,hx⟩:=al (l:=ps) (k:=i) VZ;obtain ⟨ad,rfl,hr⟩:=hp.at_ VZ;have hxm:=Wb hx;have hxo:=okp x hxm;have hxs:=szp x hxm;refine sr ?_;refine eb ?_;refine cA ?_;refine r6 ?_;refine bJ hh ?_;intro b8 w8 hh;refine bL hh 0 [_,_,_,_] ?_;intro ws hh;replace hh:Hp _ (.blk _ _ [_,_,_,_] _::_) _:=hh;refine aa (sr (bC ?_));refine bA hh 3 ?_;refine aF (mI (aa (aq ?_)));replace hh:=hh.perm (WZ (l₁:=[_]));simp only [Wf,Wd] at hh;refine bz [5,6,10,11,12,32,33,34,35,36,37,38,39,40,41,42,43,44,45,46,47,48,49,50,51,52,53,54,55,56,57,58,59] 6 32
     (fun a z w'=>∃(j:Nat) (N:List TR) (A':Option Addr) (c':Nat),j≤qn∧z=.int .i64 j∧a=.slice A' N.length c'∧N=M++(qs.take j).map (tj x)∧(∀e∈(qs.take j).map (fun y=>qW x.m y.m),e=0)∧Hp w [.row A' N.length c' 80 4 (aA TR.cells N),.blk b8 80 [.string x.m,.bool x.c.neg,.string x.c.bk,.int .i64 x.c.e] (0,0),.blk b4 24 [.int .i64 0,.slice none 0 0] (0,0),.blk b3 24 [.int .i64 qv,.slice qA qn qc] (0,0),.blk b2 24 [.int .i64 pv,.slice (some ad) pn pc] (0,0)] w')
     (fun _ z _=>qn-(intOf z).toNat) ?_ ?_
    ·refine ⟨0,M,A',c',V8 _,rfl,rfl,by simp,fun e he=>(nomatch he),hh⟩
    ·clear hh;rintro ρ2 a2 x2 w2 ⟨j,N,A2,c2,hj,rfl,rfl,hN,hz2,hh⟩;by_cases hjn:j<qn
     ·obtain ⟨y,hy⟩:=al (l:=qs) (k:=j) VZ;obtain ⟨ad2,rfl,hr2⟩:=hq.at_ VZ;have hym:=Wb hy;have hyo:=okq y hym;have hys:=szq y hym;have hmul:∀w1,Calls Tryz.prog 223 #[.string x.m,.string y.m] w1 fun r w'=>r=.returned (.tuple #[.string (mulM x.m y.m),.int .i64 (qW x.m y.m)])∧Below w1.heap.size w1 w':=fun w1=>G5 x.m y.m w1 hxs hys;have hdm:=fun A cc w1 hT1 hS1=>fk A 2 cc [x.c,y.c] w1 hT1 hS1 (by simpa using ⟨hxo.1,hyo.1⟩) (k+k2) (by simpa using ⟨hxo.2.mono VZ,hyo.2.mono VZ⟩) VZ V0;rw [show ik ([x.c,y.c].map NR.d)=x.c.d*y.c.d by show 1*x.c.d*y.c.d=_;rw [Yt]] at hdm;obtain ⟨R,hR⟩:=Dc (f:=fun x y=>qW x.m y.m) hx hy;have hzz:∀e∈((ps.take i).flatMap fun x=>qs.map fun y=>qW x.m y.m)++(qs.take j).map (fun y=>qW x.m y.m),e=0:=fun e he=>by
       rcases W3.1 he with he|he
       ·exact hz e he
       ·exact hz2 e he
      have hNl:N.length<65536:=by
       have h1:=hall (i+1);rw [q9 hx,We,←hM] at h1;rw [hN,We];simp at h1 ⊢;omega
      by_cases he:qW x.m y.m=0
      ·refine sr ?_;refine eb ?_;refine kx ?_;refine cz (vs:=[_,_,_,_]) aJ.out rfl ((hr2.ext hh.below).recAt TR.len hy) rfl V0 ?_;refine bJ hh ?_;intro b10 w10 hh;refine bL hh 0 [_,_,_,_] ?_;intro ws hh;replace hh:Hp _ (.blk _ _ [_,_,_,_] _::_) _:=hh;refine aa (sr (bC ?_));refine bA hh 2 ?_;refine bC ?_;refine bA hh 0 ?_;refine bq hh (hmul _) rfl ?_;intro w41 hh;refine mT ?_;refine dE ?_;refine dE ?_;refine aS (aI (aa (ah (sr (mI ?_)))));refine cY (aa (cF (ao (ai (ak (mL (mS (bC ?_))))))));refine bY hh 2 [_,_,_] (bC ?_);refine bY hh 0 [_,_,_] ?_;refine xI ?_;intro b54 w54 hh;refine bq hh (hdm _ _ _ (hT.hp hh) (hh.aD (i:=0) rfl)) rfl ?_;intro w55 hh;refine fe [_,_,_,_] ?_;refine Ch ?_;intro b57 w57 hh;refine Ql ?_;intro A58 c58 w58 hh;simp only [Wh,WI] at hh;replace hh:=hh.sub (WO _ _);refine lf ?_;refine bj (mI (az (ai ?_)));have e1:aA TR.cells N++[.string (mulM x.m y.m),.bool (nR (x.c.d*y.c.d)).neg,.string (nR (x.c.d*y.c.d)).bk,.int .i64 (nR (x.c.d*y.c.d)).e]=aA TR.cells (N++[tj x y]):=by rw [bK,jv];rfl
       replace hh:=show Hp w (_::_::.row A58 (N.length+1) c58 80 4 (aA TR.cells N++[.string (mulM x.m y.m),.bool (nR (x.c.d*y.c.d)).neg,.string (nR (x.c.d*y.c.d)).bk,.int .i64 (nR (x.c.d*y.c.d)).e])::_) w58 from hh;rw [e1] at hh;replace hh:=hh.sub (Wa _ (Wa _ (V7 _ (V7 _ (V7 _ (V7 _ (V7 _ Wx)))))));refine ⟨⟨j+1,N++[tj x y],_,_,VZ,rfl,by rw [We];rfl,by rw [hN,ay hy,WX,WY];rfl,fun e h=> ?_, ?_⟩,by show qn-(j+1)<qn-j;omega, ?_⟩
       ·rw [ay hy,WX,W3] at h
        rcases h with h|h
        ·exact hz2 e h
        ·rw [Wu.1 h];exact he
       ·rw [We];exact hh
       ·exact dF
      ·rw [Od hbig hR hzz he];generalize qW x.m y.m=e at*;refine sr ?_;refine eb ?_;refine kx ?_;refine cz (vs:=[_,_,_,_]) aJ.out rfl ((hr2.ext hh.below).recAt TR.len hy) rfl V0 ?_;refine bJ hh ?_;intro b10 w10 hh;refine bL hh 0 [_,_,_,_] ?_;intro ws hh;replace hh:Hp _ (.blk _ _ [_,_,_,_] _::_) _:=hh;refine aa (sr (bC ?_));refine bA hh 2 ?_;refine bC ?_;refine bA hh 0 ?_;refine bq hh (hmul _) rfl ?_;intro w41 hh;refine mT ?_;refine dE ?_;refine dE ?_;refine aS (aI (aa (ah (sr (mI ?_)))));refine cY (aa (cT (sr ?_)));refine fe [_,_] (mI ?_);refine bL hh 3 [_,_] ?_;intro ws hh;replace hh:Hp _ (_::_::_::.blk _ _ [_,_] _::_) _:=hh;refine aI (aa (av (aK (cm (aK (aK (cm (cm (aK (aK (cm (aK ?_))))))))))));refine KZ ?_;exact Lw
     ·obtain rfl:j=qn:=VZ;rw [Wc VZ] at hz2 hN;refine sr ?_;refine Al ?_;refine bj (mI (az (ai ?_)));replace hh:=hh.sub (V7 _ (Wa _ (V7 _ (V7 _ (V7 _ Wx)))));refine ⟨⟨i+1,N,A2,c2,VZ,rfl,rfl,by rw [q9 hx,←hM,Wc VZ];exact hN,fun e h=> ?_,hh⟩,by show pn-(i+1)<pn-i;omega, ?_⟩
      ·rw [q9 (f:=fun (x y:TR)=>qW x.m y.m) hx,W3,Y3] at h
       rcases h with h|h
       ·exact hz e h
       ·exact hz2 e h
      ·exact dF
   ·obtain rfl:i=pn:=VZ;rw [Wc VZ] at hz hM;have hMp:M=df ps qs:=hM;rw [KE hbig hz,←hMp];have hpo:=uV okp okq VZ;rw [←hMp] at hpo;refine sr ?_;refine LL ?_;refine bA hh 3 ?_;refine mL ?_;refine aE (kB pv A' M.length c' M (k+k2) _ hT hh rfl VZ VZ hpo) au.out rfl V0 ?_;rintro e_ w64 ⟨g,og,rfl,hh⟩;refine ⟨_,rfl, ?_⟩;refine dE ?_;refine dE ?_;exact Gq
variable {E:Int}{W w1:World}{b base j k:Nat}{fz:Nat×Nat}{ts:List TR}
def kg (base:Nat) (E v:Int) (ts:List TR):VP:=fun x W=>∃(g:PX) (w1:World),x=.agg #[.int .i64 g.v,.slice g.A g.n g.c]∧fL E v ts g∧base≤w1.heap.size∧Hp w1 [g.row] W
theorem kg.ext {v:Int} (x:Value) (w w':World) (h:kg base E v ts x w) (hb:Below w.heap.size w w'):kg base E v ts x w':=let ⟨g,w1,h1,h2,h3,h4⟩:=h;⟨g,w1,h1,h2,h3,h4.ext hb⟩
def j8 (base:Nat) (E v:Int) (ts:List TR):VP:=fun x W=>∃(g:PX) (w1:World),x=.tuple #[.agg #[.int .i64 g.v,.slice g.A g.n g.c],.int .i64 E]∧fL E v ts g∧base≤w1.heap.size∧Hp w1 [g.row] W
theorem j8.ext {v:Int} (x:Value) (w w':World) (h:j8 base E v ts x w) (hb:Below w.heap.size w w'):j8 base E v ts x w':=let ⟨g,w1,h1,h2,h3,h4⟩:=h;⟨g,w1,h1,h2,h3,h4.ext hb⟩
def Ae (base:Nat) (v:Int) (ts:List TR):VP:=fun x W=>∃(g:PX) (w1:World),x=.slice g.A g.n g.c∧fL 0 v ts g∧base≤w1.heap.size∧Hp w1 [g.row] W
theorem Ae.ext {v:Int} (x:Value) (w w':World) (h:Ae base v ts x w) (hb:Below w.heap.size w w'):Ae base v ts x w':=let ⟨g,w1,h1,h2,h3,h4⟩:=h;⟨g,w1,h1,h2,h3,h4.ext hb⟩
theorem PX.ne {g:PX}{t:TypeId}{cs:Array Value} (h:Hp w1 [g.row] W) (h3:W.heap[b]?=some (.cells cs t fz)) (h1:80≠t):∀x∈[g.row],x.id≠some b:=fun x hx=>by
 have hx2:=h.own x hx;obtain rfl:=Wu.1 hx;exact J0 hx2 h3 h1
def jl (a:List TR×Int) (g:PX):List TR×Int:=if a.2=0 then (aM (df a.1 g.ts),fR a.1 g.ts) else a
def S5 (ps:List PX):List TR×Int:=match ps with|[]=>([],0)|g::l=>l.foldl jl (g.ts,0)
def Fe (ps:List PX):Int:=if gC ps=0 then (S5 ps).2 else gC ps
theorem Bf {a:List TR×Int} (h:a.2≠0):∀l:List PX,l.foldl jl a=a
 |[]=>rfl
 |g::l=>by
  rw [Zj,show jl a g=a by unfold jl;rw [V6 h]];exact Bf h l
theorem G0 {l:List PX}{a:List TR×Int}{i:Nat}{g:PX} (hx:l[i]?=some g) (h0:((l.take i).foldl jl a).2=0) (h:fR ((l.take i).foldl jl a).1 g.ts≠0):(l.foldl jl a).2=fR ((l.take i).foldl jl a).1 g.ts:=by
 have e:l=l.take i++g::l.drop (i+1):=by rw [←ix hx,W9]
 have e2:l.foldl jl a=(l.drop (i+1)).foldl jl (jl ((l.take i).foldl jl a) g):=by
  conv=>lhs;rw [e]
  rw [Zk,Zj]
 rw [e2];have e3:jl ((l.take i).foldl jl a) g=(aM (df ((l.take i).foldl jl a).1 g.ts),fR ((l.take i).foldl jl a).1 g.ts):=V5 h0;rw [e3,Bf h]
theorem Hw {l:List PX}{a:List TR×Int}{i:Nat}{g:PX} (hx:l[i]?=some g) (h0:((l.take i).foldl jl a).2=0):(l.take (i+1)).foldl jl a=(aM (df ((l.take i).foldl jl a).1 g.ts),fR ((l.take i).foldl jl a).1 g.ts):=by
 rw [ay hx,Zk,Zj,List.foldl_nil];exact V5 h0
theorem FH {q:List TR} (hp:jG k p) (hq:jG j q) (sq:∀t∈q,t.m.size≤100000) (h:fR p q=0) (hk:k+j≤900000):jG (k+j+65536) (aM (df p q))∧∀t∈aM (df p q),t.m.size≤100000:=by
 obtain ⟨h6,_,h4⟩:=pr h;have ho:=uV hp hq VZ;have hz:=nU fun t ht=>(ho t ht).2;rw [rk] at hz;refine ⟨fun t ht=> ?_,fun t ht=> ?_⟩
 ·have:Sz (k+j+65536) t.c.d:=(hz t ht).mono VZ;refine ⟨?_,this⟩;rw [(fp _).nf t ht];exact this.ok VZ
 ·obtain ⟨s,hs,e⟩:=iQ t ht;obtain ⟨x,hx,hs⟩:=Yq.1 hs;obtain ⟨y,hy,rfl⟩:=Wo.1 hs;rw [←e];exact WK (GR _ _) (sq y hy)
theorem Ac (L:Option Addr) (n c:Nat) (ps:List PX) (k s:Nat) (w:World) (hT:er w) (hL:Sl w L n 2 (aA PX.cells ps)) (hcn:n≤c) (hn:n≤8) (hf:∀g∈ps,g.at_ w) (hl:∀g∈ps,g.km k) (hs:k+65536≤s) (hk:k+k+(n-2)*s≤900000):
  Calls Tryz.prog 178 #[.slice L n c] w fun r w'=>∃g:PX,fL (Fe ps) (gm ps) (S5 ps).1 g∧r=.returned (.tuple #[.agg #[.int .i64 g.v,.slice g.A g.n g.c],.int .i64 (Fe ps)])∧Hp w [g.row] w':=by
 have hh:=Hp.start w;have hln:=hL.bE PX.len V0;have hlk:=fun w1 hT1 hb=>r8 L n c ps k w1 hT1 (hL.ext hb) VZ (fun g hg=>(hf g hg).ext hb) hl;unfold Fe;by_cases h0:gC ps=0
 ·rw [V5 h0];rw [h0] at hlk;obtain ⟨hne,su,hvv⟩:=xQ h0;obtain ⟨g0,pt,rfl⟩:=List.exists_cons_of_ne_nil hne;rw [m6 (g:=g0) rfl];have hnp:pt.length+1=n:=hln;obtain ⟨ad,rfl,hr⟩:=hL.at_ VZ;have hm0:g0∈g0::pt:=Wj;have hg0:=hl g0 hm0;have h00:(g0::pt)[0]?=some g0:=rfl;show Calls _ _ _ _ fun r w'=>∃g:PX,fL (pt.foldl jl (g0.ts,0)).2 g0.v (pt.foldl jl (g0.ts,0)).1 g∧r=.returned (.tuple #[.agg #[.int .i64 g.v,.slice g.A g.n g.c],.int .i64 (pt.foldl jl (g0.ts,0)).2])∧Hp w [g.row] w';refine aj (N:=46) (l:=[.slice (some ad) n c]) Tryz.func178 rfl rfl (by simp) ?_;refine sr ?_;refine bJ hh ?_;intro b2 w2 hh;refine aI (aa (ah (sr (mL ?_))));refine bq hh (hlk _ (hT.hp hh) hh.below) rfl ?_;intro w11 hh;refine aI (aa (sr (mI ?_)));refine cY (aa (cF (ao (ai (ah ?_)))));refine aN 11 [[(0,none)],[(16,some 0)],[(17,some 1)],[(18,some 2)],[(0,none)],[(20,some 4)],[(21,some 5)],[(22,some 6)],[(23,some 7)],[(19,some 3),(24,some 8)],[]] [(10,5),(9,25),(8,24),(7,23),(6,22),(5,21),(4,20),(3,19),(2,18),(1,17),(0,16)] hh mixed V2 ?_;refine fD ?_;refine nC (0) ?_;refine P3 ?_
  refine uF (fun _ hj=>cO hj.hp.below ((hr.recAt PX.len h00) 0 _ rfl)) ?_;refine fD ?_;refine nC (0) ?_;refine P3 ?_;refine uF (fun _ hj=>cO hj.hp.below ((hr.recAt PX.len h00) 1 _ rfl)) ?_;refine aP (i:=8) (Ae w11.heap.size g0.v g0.ts) (Ae.ext) ?_ ?_
  ·intro ρ1 w1 hj hR;exact bf rfl (aQ au.out (aw (show ρ1 23=Value.slice _ _ _ from hR.1) a8)) (l4 g0.A g0.n g0.c g0.ts w1 ((hf g0 hm0).ext hj.hp.below) hg0.n) (fun _ _ ⟨A,c,hq,ho,hb⟩=>⟨_,hq,hb,⟨g0.v,A,g0.n,c,g0.ts⟩,w1,rfl,⟨rfl,rfl⟩,hj.bl.size,(Hp.start w1).aO (x:=.row _ _ _ _ _ _) hb ho⟩)
  refine aP (i:=9) (kg w11.heap.size 0 g0.v g0.ts) (kg.ext) ?_ ?_
  ·intro ρ1 w1 hj hR;exact let ⟨g,u,e,o,q,h⟩:=hR.2.1;dv rfl (pO (cs:=[_,_]) aJ.out lL.out (aV (show ρ1 19=Value.int _ _ from hR.1) (aV e bW)) rfl) ⟨Below.refl _ _,g,u,by rw [show g.v=g0.v from o.v],o,q,h⟩
  refine aP (i:=10) (cu _ 24 _) cu.ext (fun ρ1 w1 hj hR=>gL aJ.out hj.bl (fun v w2 h hb=>⟨hb,h⟩)) ?_;refine aG ?_;intro f W hJ hV;have hb_4:=hJ.bl;obtain ⟨v5,v25,v24,v23,v22,v21,v20,v19,v18,v17,v16,_⟩:=hV;obtain ⟨g24,u24,e24, -⟩:=v24;obtain ⟨g25,u25,e25,o25,q25,h25⟩:=v25;obtain ⟨b5,e5,hl5,hc5⟩:cu _ _ _ (f 10) W:=v5;replace hh:=hJ.rb hh hl5 hc5 q25 h25 (PX.ne h25 hc5 V0);refine aU (bg (ae e5 (ae e25 (ae e24 (ae v23 (ae v22 (ae v21 (ae v20 (ae v19 (ae v18 (ae v17 (ae v16 aT)))))))))))) ?_;dsimp only [bI];clear e24 e25 e5 hJ;simp only [Wf,Wd] at hh;obtain ⟨gv,gA,gn,gc,gts⟩:=g25;obtain rfl:g0.v=gv:=o25.v.symm;obtain rfl:g0.ts=gts:=o25.ts.symm;replace hh:=show Hp w (_::.row gA gn gc 80 4 (aA TR.cells g0.ts)::_) W from hh;have hgn:g0.ts.length=gn:=(hh.aD (i:=1) rfl).bE TR.len V0;have hgc:gn≤gc:=hh.eZ (i:=1) rfl;refine bL hh 0 [_,_] ?_;intro ws hh;replace hh:Hp _ (.blk _ _ [_,_] _::_) _:=hh;refine aa (ah (sr (mL ?_)));refine aR rfl rfl V0 (gK a9.out aJ.size rfl rfl (l:=1) rfl VZ VZ) ?_;refine aF (mI (aa (aq ?_)));replace hh:=hh.perm (WZ (l₁:=[_]))
  simp only [Wf,Wd] at hh;refine aW [3,7,8,9,29,30,31,32,33,34,35,36,37,38,39,40,41,42,43,44] 29
   (fun v w'=>∃(i:Nat) (g:PX),i≤n-1∧v=.int .i64 i∧((pt.take i).foldl jl (g0.ts,0)).2=0∧g.v=g0.v∧g.ts=((pt.take i).foldl jl (g0.ts,0)).1∧g.km (k+i*s)∧Hp w [.row g.A g.n g.c 80 4 (aA TR.cells g.ts),.blk b5 24 [.int .i64 g.v,.slice g.A g.n g.c] (0,0),.blk b2 24 [.int .i64 0,.slice none 0 0] (0,0)] w')
   (fun v _=>n-1-(intOf v).toNat) ?_ ?_
  ·exact ⟨0,⟨g0.v,gA,gn,gc,g0.ts⟩,V8 _,rfl,rfl,rfl,rfl,⟨by show gn≤1000000;have:=hg0.n;have h9:=(hf g0 hm0).ln;omega,hgc,hg0.ok.mono (by rw [YW];omega),hg0.sz⟩,hh⟩
  ·clear hh;rintro ρ' v w' ⟨i,g,hi,rfl,hz,hgv,hts,hgl,hh⟩;by_cases hlt:i<n-1
   ·obtain ⟨f,hx⟩:=al (l:=pt) (k:=i) VZ;have hmem:f∈g0::pt:=Wl _ (Wb hx);have his:i*s≤(n-2)*s:=Xr _ VZ;have his1:=Xs i s;have hbk:Sl w (if c=1 then some ad else (some ad:Option Addr).map (·.add (1*2))) (n-1) 2 (aA PX.cells pt):=hL.back VZ hcn;obtain ⟨ab,hAb,sb⟩:=hbk.at_ VZ;have su:Value.slice (if c=1 then some ad else (some ad:Option Addr).map (·.add (1*2))) (n-1) (c-1)=.slice (some ab) (n-1) (c-1):=by rw [hAb]
    have hfl:=hl f hmem;have hnx:=Hw (a:=(g0.ts,0)) hx hz;have hsp:=G0 (a:=(g0.ts,0)) hx hz;rw [←hts] at hnx hsp;refine sr ?_;refine eb ?_;refine cK (k:=i) a9.out aJ.size su rfl VZ VZ V0 ?_;refine cz (vs:=[_,_]) aJ.out rfl (show Rd _ _ [.int .i64 f.v,.slice f.A f.n f.c] from (sb.ext hh.below).recAt PX.len hx) rfl V0 ?_;refine bJ hh ?_;intro b7 w7 hh;refine bL hh 0 [_,_] ?_;intro ws hh;replace hh:Hp _ (.blk _ _ [_,_] _::_) _:=hh;refine aa (sr ?_);refine bY hh 2 [_,_] ?_;refine bY hh 0 [_,_] ?_;refine aE (yo g f (k+i*s) k _ (hT.hp hh) (hh.aD (i:=1) rfl) ((hf f hmem).ext hh.below) hgl hfl VZ) au.out rfl V0 ?_;rintro e_ w36 ⟨h,oh,rfl,h3⟩;refine ⟨_,rfl, ?_⟩;replace hh:=hh.join h3;simp only [Wf,Wd] at hh;by_cases he:fR g.ts f.ts=0
    ·obtain ⟨hv,hA,hn2,hc2,hts2⟩:=h;rw [he] at oh;obtain rfl:g.v=hv:=oh.v.symm;obtain rfl:aM (df g.ts f.ts)=hts2:=oh.ts.symm;replace hh:=show Hp w (.row hA hn2 hc2 80 4 (aA TR.cells (aM (df g.ts f.ts)))::_) w36 from hh;have hhn:(aM (df g.ts f.ts)).length=hn2:=(hh.aD (i:=0) rfl).bE TR.len V0;have hhc:hn2≤hc2:=hh.eZ (i:=0) rfl;have h4:=(pr he).2.2;have htl:=FH hgl.ok hfl.ok hfl.sz he VZ;refine mT ?_;refine dE ?_;refine dE ?_;refine bJ hh ?_;intro b8 w8 hh;refine bL hh 0 [_,_] ?_;intro ws hh;replace hh:Hp _ (.blk _ _ [_,_] _::_) _:=hh;refine aI (aa (ah (sr (mI ?_))));refine cY (aa (cF (ao (ai (ak ?_)))));refine bY hh 0 [_,_] ?_;refine bL hh 4 [_,_] ?_;intro ws hh;replace hh:Hp _ (_::_::_::_::.blk _ _ [_,_] _::_) _:=hh;refine fN ?_;refine bj (mI (az (ai ?_)));replace hh:=hh.sub (Wa _ (V7 _ (Wa _ (Wa _ (V7 _ (V7 _ Wx))))))
     refine ⟨⟨i+1,⟨g.v,hA,hn2,hc2,aM (df g.ts f.ts)⟩,VZ,rfl,by rw [hnx];exact he,hgv,by rw [hnx],⟨by show hn2≤1000000;omega,hhc,htl.1.mono (by rw [Xs];omega),htl.2⟩,hh⟩,by show n-1-(i+1)<n-1-i;omega, ?_⟩;exact dF
    ·rw [hsp he];refine mT ?_;refine dE ?_;refine dE ?_;refine bJ hh ?_;intro b8 w8 hh;refine bL hh 0 [_,_] ?_;intro ws hh;replace hh:Hp _ (.blk _ _ [_,_] _::_) _:=hh;refine aI (aa (ah (sr (mI ?_))));refine cY (aa (cT (sr ?_)));refine fe [_,_] (mI ?_);refine bL hh 5 [_,_] ?_;intro ws hh;replace hh:Hp _ (_::_::_::_::_::.blk _ _ [_,_] _::_) _:=hh;refine aI (aa (av (aK (cm (aK (aK (cm (aK ?_))))))));refine LN (dT rfl (dW (vs:=[_,_]) aJ.out (hh.bP (i:=5) (n:=2) rfl rfl) rfl) (iB (jh rfl) e8)) ?_;exact Lw
   ·obtain rfl:i=n-1:=VZ;rw [Wc VZ] at hz hts;refine sr ?_;refine mf ?_;refine bY hh 1 [_,_] ?_;refine bL hh 2 [_,_] ?_;intro ws hh;replace hh:Hp _ (_::_::.blk _ _ [_,_] _::_) _:=hh;refine aI (aa (av ?_));refine px ?_;rw [hz];exact ⟨g,⟨hgv,hts⟩,rfl,hh.sub (V7 _ (Xq _))⟩
 ·rw [V6 h0];generalize gC ps=e at*;refine aj (N:=46) (l:=[.slice L n c]) Tryz.func178 rfl rfl (by simp) ?_;refine sr ?_;refine bJ hh ?_;intro b2 w2 hh;refine aI (aa (ah (sr (mL ?_))));refine bq hh (hlk _ (hT.hp hh) hh.below) rfl ?_;intro w11 hh;exact MU
variable {l:List TR}
def fO (v:Int):ByteArray:=⟨(List.replicate v.toNat 0).toArray⟩
theorem oJ {v:Int} (h:0≤v):((fO v).size:Int)=v:=by
 have:(fO v).size=v.toNat:=by unfold fO;show (List.replicate v.toNat (0:UInt8)).toArray.size=_;rw [Yj,XD]
 omega
theorem wL (v:Int):eS (fO v).data.toList=true:=by
 unfold eS fO;rw [Wq];intro c hc;have:(⟨(List.replicate v.toNat (0:UInt8)).toArray⟩:ByteArray).data.toList=List.replicate v.toNat 0:=rfl;rw [this] at hc;rw [(List.mem_replicate.1 hc).2];decide
theorem KO (h:l.length≤4096):im l=0:=by
 unfold im;have:=cB l;rw [V6 VZ]
theorem B9 {v:Int}{t:TR} (hf:jo v=true) (h:fY v t=true):qk v [t]=0:=by
 unfold qk;rw [V6 (by rw [hf];simp [h]),V6 (by simp),KO (by simp)]
def zV (v:Int):Int:=if jo v=false then 1 else 0
theorem jN (v:Int) (c:NR) (k:Nat) (w:World) (hT:er w) (hc:c.ok∧Sz k c.d) (hk:k≤2999980):
  Calls Tryz.prog 84 #[.int .i64 v,.agg #[.bool c.neg,.string c.bk,.int .i64 c.e]] w fun r w'=>∃g:PX,fL (zV v) v (aM [⟨fO v,c⟩]) g∧r=.returned (.tuple #[.agg #[.int .i64 g.v,.slice g.A g.n g.c],.int .i64 (zV v)])∧Hp w [g.row] w':=by
 have hh:=Hp.start w;have hfw:=fun w1=>nB v w1
 cases hf:jo v with
 |false=>
  rw [hf] at hfw;rw [show zV v=1 by unfold zV;rw [V5 hf]];refine aj (N:=20) (l:=[.int .i64 v,.agg #[.bool c.neg,.string c.bk,.int .i64 c.e]]) Tryz.func84 rfl rfl (by simp) ?_;refine sr ?_;refine bV hh [_,_,_] ?_;intro b3 w3 hh;refine bJ hh ?_;intro b4 w4 hh;refine aI (aa (ah (sr (mI ?_))));refine bq hh (hfw _) rfl ?_;intro w7 hh;refine gj ?_;refine aa (cT (sr ?_));exact ME
 |true=>
  rw [hf] at hfw;obtain ⟨h0,h12⟩:=jy.1 hf;have hm:qk v [⟨fO v,c⟩]=0:=B9 hf (by unfold fY;rw [wL,Wr (oJ h0)];rfl);have hmk:=fun A cc w1 hT1 hS1=>mF v A 1 cc [⟨fO v,c⟩] k w1 hT1 hS1 V0 VZ (fun t ht=>by rw [Wu.1 ht];exact hc) (fun t ht=>by rw [Wu.1 ht];have:=oJ h0;show (fO v).size≤_;omega);rw [hm] at hmk;rw [show zV v=0 by unfold zV;rw [V6 (by rw [hf];decide)]];refine aj (N:=20) (l:=[.int .i64 v,.agg #[.bool c.neg,.string c.bk,.int .i64 c.e]]) Tryz.func84 rfl rfl (by simp) ?_;refine sr ?_;refine bV hh [_,_,_] ?_;intro b3 w3 hh;refine bJ hh ?_;intro b4 w4 hh;refine aI (aa (ah (sr (mI ?_))));refine bq hh (hfw _) rfl ?_;intro w7 hh;refine gj ?_;refine aa (cF (ao (ai (ah ?_))));refine qY [] [0,0,2,6,0,30,62,127,255,255,1023,2047] 7 [[(0,none)],[(0,none)],[(11,some 1)],[(12,some 2)],[(3,none)],[(13,some 3),(14,some 4)],[(15,some 5)]] [(6,16),(5,15),(4,14),(3,13),(2,12),(1,11),(0,10)] [([],4,[(6,16),(5,15),(4,14),(3,13),(2,12),(1,11),(0,10)])] hh mixed V2 V2 V0 ?_;refine dn ?_;refine dn ?_
  refine aP (i:=2) (iV v.toNat 1 (jB (List.replicate v.toNat 0))) (iV.ext) ?_ ?_
  ·intro ρ1 w1 hj hR;exact tO v.toNat ▸ N7 (n:=v.toNat) (show ρ1 11=Value.int _ _ from hR.1) (show ρ1 11=Value.int _ _ from hR.1) VZ VZ a9.out aJ.out rfl VZ VZ (fun _ _ h1 h2=>⟨h2,h1⟩)
  refine aP (i:=3) (Is (.string (fO v))) (Is.ext) ?_ ?_
  ·intro ρ1 w1 hj hR;obtain ⟨g12,e12,o12⟩:=hR.1;exact let ⟨g,e,o⟩:=hR.1;dv rfl (gi (l:=List.replicate v.toNat 0) a9.out a9.out a9.out e o) ⟨Below.refl _ _,rfl⟩
  refine eJ 1 [_,_,_] ?_;refine dB [_,_,_,_] ?_;refine rh [_,_,_,_] ?_;refine aG ?_;intro p_ hp_;simp only [Wp,List.not_mem_nil,or_false] at hp_
  rcases hp_ with rfl
  intro f W hJ hV;have hb_3:=hJ.bl;obtain ⟨v16,v15,v14,v13,v12,v11,v10,_⟩:=hV;simp only [kZ];have e10:f 0=_:=v10;rw [e10];have e11:f 1=_:=v11;rw [e11];obtain ⟨g12,e12,o12⟩:iV v.toNat 1 (jB (List.replicate v.toNat 0)) (f 2) W:=v12;rw [e12];have e13:f 3=_:=v13;rw [e13];have e14:f 4=_:=v14;rw [e14];have e15:f 5=_:=v15;rw [e15];obtain ⟨A16,c16,e16,f16⟩:Rows _ _ _ (f 6) W:=v16;rw [e16];replace hh:=hJ.hp;clear e10 e11 e12 e13 e14 e15 e16 hJ;refine aE (hmk _ _ _ (hT.hp hh) f16) au.out rfl V0 ?_;rintro e_ w17 ⟨g,og,rfl,h3⟩;refine ⟨_,rfl, ?_⟩;replace hh:=hh.join h3;refine fw ?_;simp only [Wf,Wd] at hh;refine dk (i:=8) (by repeat (first|exact cD|refine bT ?_|refine cE ?_|refine np_scope ?_)) rfl V2 V2 V2 (fun _=>fK (show _=Value.tuple (List.toArray _) from rfl) rfl) V0 ?_;refine dk (i:=9) (by repeat (first|exact cD|refine bT ?_|refine cE ?_|refine np_scope ?_)) rfl V2 V2 V2 (fun _=>fK (show _=Value.tuple (List.toArray _) from rfl) rfl) V0 ?_;refine kF 10 V0 V2 V0 V2 V2 ?_;exact Gq
def mz (v:Int) (x:Nat):ByteArray:=⟨((List.replicate v.toNat (0:UInt8)).set x 1).toArray⟩
theorem qV {v:Int}{x:Nat} (h:0≤v):((mz v x).size:Int)=v:=by
 have:(mz v x).size=v.toNat:=by unfold mz;show ((List.replicate v.toNat (0:UInt8)).set x 1).toArray.size=_;rw [Yj,X8,XD]
 omega
theorem Bc (v:Int) (x:Nat):eS (mz v x).data.toList=true:=by
 unfold eS;rw [Wq];intro c hc;have:(mz v x).data.toList=(List.replicate v.toNat 0).set x 1:=rfl;rw [this] at hc
 rcases List.mem_or_eq_of_mem_set hc with h|rfl
 ·rw [(List.mem_replicate.1 h).2];decide
 ·decide
theorem Gx {l:List UInt8}{i:Nat}{c:UInt8} (h:i<l.length):cd (jB l) (i*1) [.int .u8 c.toNat]=jB (l.set i c):=by
 unfold cd jB;rw [Wn,Y6,V5 h,WX,Wv,YV,Yy,WY]
 rfl
def uw (v x:Int):Int:=if jo v=false∨x<0∨v≤x then 1 else 0
theorem tB (v x:Int) (w:World) (hT:er w):
  Calls Tryz.prog 83 #[.int .i64 v,.int .i64 x] w fun r w'=>∃g:PX,fL (uw v x) v (aM [⟨mz v x.toNat,nR ((1:Int):Dyadic)⟩]) g∧r=.returned (.tuple #[.agg #[.int .i64 g.v,.slice g.A g.n g.c],.int .i64 (uw v x)])∧Hp w [g.row] w':=by
 have hh:=Hp.start w;have hfw:=fun w1=>nB v w1
 cases hf:jo v with
 |false=>
  rw [hf] at hfw;rw [show uw v x=1 by unfold uw;rw [V5 (.inl hf)]];refine Ek ?_;refine sr ?_;refine bJ hh ?_;intro b4 w4 hh;refine aI (aa (ah (sr (mI ?_))));refine bq hh (hfw _) rfl ?_;intro w8 hh;refine gj ?_;refine mB ?_;refine gS (gS ?_);refine fi ?_;refine mB ?_;refine gS (gS (gS ?_));refine fi ?_;refine aa (cT (sr ?_));exact ME
 |true=>
  rw [hf] at hfw;obtain ⟨h0,h12⟩:=jy.1 hf;by_cases hx0:x<0
  ·rw [show uw v x=1 by unfold uw;rw [V5 (.inr (.inl hx0))]];refine Ek ?_;refine sr ?_;refine bJ hh ?_;intro b4 w4 hh;refine aI (aa (ah (sr (mI ?_))));refine bq hh (hfw _) rfl ?_;intro w8 hh;refine gj ?_;refine mB (gT (mI (gT ?_)));refine a0 ?_;refine dR ?_;refine mB ?_;refine gS (gS (gS ?_));refine fi ?_;refine aa (cT (sr ?_));exact ME
  ·by_cases hx1:v≤x
   ·rw [show uw v x=1 by unfold uw;rw [V5 (.inr (.inr hx1))]];refine Ek ?_;refine sr ?_;refine bJ hh ?_;intro b4 w4 hh;refine aI (aa (ah (sr (mI ?_))));refine bq hh (hfw _) rfl ?_;intro w8 hh;refine gj ?_;refine mB (gT (mI (gT ?_)));refine a0 ?_;refine dR ?_;refine mB (gT (mI (gT (mI (gT ?_)))));refine dP ?_;refine dR ?_;refine aa (cT (sr ?_));exact ME
   ·rw [show uw v x=0 by unfold uw;rw [V6 (by rintro (h|h|h);exact absurd (hf.symm.trans h) V0;omega;omega)]];have hm:qk v [⟨mz v x.toNat,nR ((1:Int):Dyadic)⟩]=0:=B9 hf (by unfold fY;rw [Bc,Wr (qV h0)];rfl);have z1:Sz 24 ((1:Int):Dyadic):=JK (m:=1) (e:=0) V0 V0 V0;have hmk:=fun A cc w1 hT1 hS1=>mF v A 1 cc [⟨mz v x.toNat,nR ((1:Int):Dyadic)⟩] 24 w1 hT1 hS1 V0 VZ (fun t ht=>by rw [Wu.1 ht];exact ⟨z1.ok V0,by show Sz 24 (nR _).d;rw [cj];exact z1⟩) (fun t ht=>by rw [Wu.1 ht];have:=qV (x:=x.toNat) h0;show (mz v x.toNat).size≤_;omega);rw [hm] at hmk;refine Ek ?_;refine sr ?_;refine bJ hh ?_;intro b4 w4 hh;refine aI (aa (ah (sr (mI ?_))));refine bq hh (hfw _) rfl ?_;intro w8 hh;refine gj ?_;refine mB (gT (mI (gT ?_)));refine a0 ?_;refine dR ?_;refine mB (gT (mI (gT (mI (gT ?_)))));refine dP ?_;refine dR ?_;refine aa (cF (ao (ai (sr (mI ?_)))));refine gB (n:=(v.toNat)) hh rfl rfl VZ VZ a9.out aJ.out rfl VZ VZ V0 ?_;intro b21 w21 hh;refine aL (aa (sr (mL (mI ?_))));refine dq (k:=(x.toNat)) a9.out aJ.size rfl rfl VZ VZ V0 ?_;rw [tO] at hh
    have hll:(jB (List.replicate v.toNat 0)).length=v.toNat:=by simp [jB]
    refine LG ?_;intro ws hh;simp only [Wh] at hh;rw [show cd (jB (List.replicate v.toNat 0)) (x.toNat*1) [.int .u8 1]=jB ((List.replicate v.toNat 0).set x.toNat 1) from Gx (l:=List.replicate v.toNat 0) (i:=x.toNat) (c:=1) (by rw [XD];omega)] at hh;refine aa (ah ?_);refine qY [] [0,0,2,0,14,30,63,127,127,511,1023] 6 [[(0,none)],[(6,none)],[(26,some 1)],[],[(27,some 2),(28,some 3)],[(29,some 4)]] [(5,30),(4,29),(3,28),(2,27),(1,26),(0,25)] [([],4,[(5,30),(4,29),(3,28),(2,27),(1,26),(0,25)])] hh mixed V2 V2 V0 ?_;refine dn ?_;refine fD ?_;refine aP (i:=2) (Is (.string ⟨(((List.replicate v.toNat 0).set x.toNat 1)).toArray⟩)) Is.ext ?_ ?_
    ·intro ρ1 w1 hj hR;exact dv rfl (gi (l:=((List.replicate v.toNat 0).set x.toNat 1)) a9.out a9.out a9.out (show ρ1 26=Value.slice _ _ _ from hR.1) (hj.hp.aD (i:=0) rfl)) ⟨Below.refl _ _,rfl⟩
    refine dC (fun _ hj=>lj 1 _ (hT.hp hj.hp) V0 V0) ?_;refine dB [_,_,_,_] ?_;refine rh [_,_,_,_] ?_;refine aG ?_;intro p_ hp_;simp only [Wp,List.not_mem_nil,or_false] at hp_
    rcases hp_ with rfl
    intro f W hJ hV;have hb_5:=hJ.bl;obtain ⟨v30,v29,v28,v27,v26,v25,_⟩:=hV;simp only [kZ];have e25:f 0=_:=v25;rw [e25];have e26:f 1=_:=v26;rw [e26];have e27:f 2=_:=v27;rw [e27];have e28:f 3=_:=v28;rw [e28];have e29:f 4=_:=v29;rw [e29];obtain ⟨A30,c30,e30,f30⟩:Rows _ _ _ (f 5) W:=v30;rw [e30];replace hh:=hJ.hp;clear e25 e26 e27 e28 e29 e30 hJ;refine aE (hmk _ _ _ (hT.hp hh) f30) au.out rfl V0 ?_;rintro e_ w31 ⟨g,og,rfl,h3⟩;refine ⟨_,rfl, ?_⟩;replace hh:=hh.join h3;refine fw ?_;simp only [Wf,Wd] at hh;refine dk (i:=7) (by repeat (first|exact cD|refine bT ?_|refine cE ?_|refine np_scope ?_)) rfl V2 V2 V2 (fun _=>fK (show _=Value.tuple (List.toArray _) from rfl) rfl) V0 ?_;refine dk (i:=8) (by repeat (first|exact cD|refine bT ?_|refine cE ?_|refine np_scope ?_)) rfl V2 V2 V2 (fun _=>fK (show _=Value.tuple (List.toArray _) from rfl) rfl) V0 ?_;refine kF 9 V0 V2 V0 V2 V2 ?_;exact Tq
def Ur (p:PX) (n:Nat):List TR×Int:=(List.replicate n p).foldl jl (aM [⟨fO p.v,nR ((1:Int):Dyadic)⟩],0)
def UR (p:PX) (n:Int):Int:=if p.e=0 then (if n<0∨127<n then 1 else (Ur p n.toNat).2) else p.e
def U1 (ps:List PX) (R:List HE) (g:PX):Prop:=(g∈ps∧R=[])∨R=[g.row]
variable {r:Bool}{α:Type}
theorem Mq (n:Nat) (m m':ByteArray) (s s':Bool) (a a':ByteArray) (e e':Int) (w:World):(Op.equalIn (n+4) 80 (.agg #[.string m,.bool s,.string a,.int .i64 e]) (.agg #[.string m',.bool s',.string a',.int .i64 e'])).run Tryz.prog w=.ok (m==m' && ((s==s' && a==a') && e==e')) w:=by
 have h1:=fun (u:ByteArray) (x:Bool) (y:ByteArray) (z:Int)=>ER (P:=Tryz.prog) (cs:= #[.string u,.bool x,.string y,.int .i64 z]) (off:=0) (aJ.out (P:=Tryz.prog) (t:=9)) rfl;have h2:=fun (u:ByteArray) (x:Bool) (y:ByteArray) (z:Int)=>PR (P:=Tryz.prog) (cs:= #[.string u,.bool x,.string y,.int .i64 z]) (vs:= #[.bool x,.string y,.int .i64 z]) (off:=1) (aJ.out (P:=Tryz.prog) (t:=40)) rfl;rw [Op.equalIn];simp [run_underlying Tryz.underlying80,h1,h2,Tp,LI]
 cases h:m==m'<;>cases h':((s==s' && a==a') && e==e')<;>simp_all
theorem Bs {x y:TR}:(x.m==y.m && ((x.c.neg==y.c.neg && x.c.bk==y.c.bk) && x.c.e==y.c.e))=true↔x=y:=by
 obtain ⟨m,s,a,e⟩:=x;obtain ⟨m',s',a',e'⟩:=y;rw [Wm,nK,Ln,TR.mk.injEq]
section
variable {ρ:Rf}{w:World}{d:Option Nat}{ty u:TypeId}{pos:String}{af:Array Edge}{g:Option (Nat×Bool)}{x y:Operand}{s t:TR}
theorem Qq (hx:ev ρ x=.agg s.cells.toArray) (hy:ev ρ y=.agg t.cells.toArray) (hr:(s.m==t.m && ((s.c.neg==t.c.neg && s.c.bk==t.c.bk) && s.c.e==t.c.e))=r):
  (execOp (ev ρ) ⟨d,.binOp .neq 80 x y u,ty,pos,af,g⟩).run Tryz.prog w=.ok (.value (.bool !r)) w:=by
 have h1:(Op.equal 80 (.agg s.cells.toArray) (.agg t.cells.toArray)).run Tryz.prog w=.ok r w:=by rw [←hr];exact Mq 9996 s.m t.m s.c.neg t.c.neg s.c.bk t.c.bk s.c.e t.c.e w
 simp only [execOp,hx,hy];simp [eqGuard,binOp,h1]
theorem Oe (hx:ev ρ x=.agg s.cells.toArray) (hy:ev ρ y=.agg t.cells.toArray) (h:s=t):
  (execOp (ev ρ) ⟨d,.binOp .neq 80 x y u,ty,pos,af,g⟩).run Tryz.prog w=.ok (.value (.bool false)) w:=Qq hx hy (Bs.2 h)
theorem Nz (hx:ev ρ x=.agg s.cells.toArray) (hy:ev ρ y=.agg t.cells.toArray) (h:¬s=t):
  (execOp (ev ρ) ⟨d,.binOp .neq 80 x y u,ty,pos,af,g⟩).run Tryz.prog w=.ok (.value (.bool true)) w:=Qq hx hy (r:=false) (YK.2 fun h1=>h (Bs.1 h1))
end
theorem MY {a b:List α}{i:Nat} (ha:a.length≤i) (hb:b.length≤i) (h:a.take i=b.take i):a=b:=by
 rwa [Wc ha,Wc hb] at h
theorem xZ (A:Option Addr) (n c:Nat) (a:List TR) (B:Option Addr) (m d:Nat) (b:List TR) (w:World) (hS:Sl w A n 4 (aA TR.cells a)) (hS2:Sl w B m 4 (aA TR.cells b)) (hn:n≤1000000) (hm:m≤1000000):
  Calls Tryz.prog 101 #[.slice A n c,.slice B m d] w fun r w'=>∃v,r=.returned (.bool v)∧(v=true↔a=b)∧Below w.heap.size w w':=by
 have hh:=Hp.start w;have hla:=hS.bE TR.len V0;have hlb:=hS2.bE TR.len V0;by_cases hnm:n=m
 ·subst hnm;refine aj (N:=26) (l:=[.slice A n c,.slice B n d]) Tryz.func101 rfl rfl (by simp) ?_;refine Au ?_;refine Fp ?_;refine aW [4,5,11,12,13,14,15,16,17,18,19,20,21,22,23,24,25] 5
   (fun v w'=>∃i:Nat,i≤n∧v=.int .i64 i∧a.take i=b.take i∧Hp w [] w')
   (fun v _=>n-(intOf v).toNat) ?_ ?_
  ·exact ⟨0,V8 _,rfl,rfl,hh⟩
  ·clear hh;rintro ρ' v w' ⟨i,hi,rfl,he,hh⟩;by_cases hlt:i<n
   ·obtain ⟨s,hs⟩:=al (l:=a) (k:=i) VZ;obtain ⟨t,ht⟩:=al (l:=b) (k:=i) VZ;obtain ⟨ad,rfl,hr⟩:=hS.at_ VZ;obtain ⟨ad2,rfl,hr2⟩:=hS2.at_ VZ;by_cases hst:s=t
    ·refine ah (sr (mI (mL (aF ?_))));refine oH ?_;refine BL ?_;refine fD ?_;refine dn ?_;refine nC (i) ?_;refine qK [_,_,_,_] (fun _ hj=>(hr.ext hj.hp.below).recAt TR.len hs) ?_;refine fD ?_;refine dn ?_;refine nC (i) ?_;refine qK [_,_,_,_] (fun _ hj=>(hr2.ext hj.hp.below).recAt TR.len ht) ?_;refine aG ?_;intro f W hJ hV;have hb_6:=hJ.bl;obtain ⟨v24,v23,v22,v21,v20,v19,v18,v17,_⟩:=hV;replace hh:=hJ.hp;refine zY ?_;dsimp only [bI];clear hJ;refine aR rfl rfl V0 (Oe (s:=s) (t:=t) rfl rfl hst) ?_;skip;refine pH ?_;refine bj (aI (az (ai ?_)));refine ⟨⟨i+1,VZ,rfl,by rw [ay hs,ay ht,he,hst],hh⟩,by show n-(i+1)<n-i;omega, ?_⟩;exact dF
    ·refine ah (sr (mI (mL (aF ?_))));refine oH ?_;refine BL ?_;refine fD ?_;refine dn ?_;refine nC (i) ?_;refine qK [_,_,_,_] (fun _ hj=>(hr.ext hj.hp.below).recAt TR.len hs) ?_;refine fD ?_;refine dn ?_;refine nC (i) ?_;refine qK [_,_,_,_] (fun _ hj=>(hr2.ext hj.hp.below).recAt TR.len ht) ?_;refine aG ?_;intro f W hJ hV;have hb_6:=hJ.bl;obtain ⟨v24,v23,v22,v21,v20,v19,v18,v17,_⟩:=hV;replace hh:=hJ.hp;refine zY ?_;dsimp only [bI];clear hJ;refine aR rfl rfl V0 (Nz (s:=s) (t:=t) rfl rfl hst) ?_;skip;refine aa (cT (sr (aB (aa (av (cm (aK (aK (cm (aK ?_))))))))));refine cW ?_;refine ⟨_,rfl,⟨fun h=>(nomatch h),fun h=>absurd ?_ hst⟩,hh.below⟩;rw [h,ht] at hs;exact (WT hs).symm
   ·refine ah (sr (mI (mL (aF ?_))));refine Ft ?_;refine cW ?_;exact ⟨_,rfl,⟨fun _=>MY VZ VZ he,fun _=>rfl⟩,hh.below⟩
 ·refine aj (N:=26) (l:=[.slice A n c,.slice B m d]) Tryz.func101 rfl rfl (by simp) ?_;refine Au ?_;refine cY (aa (cT (sr (aB (aa (av (aK ?_)))))));refine cW ?_;exact ⟨_,rfl,⟨fun h=>(nomatch h),fun h=>absurd (by rw [←hla,←hlb,h]) hnm⟩,hh.below⟩
theorem Aw (p q:PX) (w:World) (hp:p.at_ w) (hq:q.at_ w) (hn:p.n≤1000000) (hm:q.n≤1000000):
  Calls Tryz.prog 32 #[.agg #[.int .i64 p.v,.slice p.A p.n p.c],.agg #[.int .i64 q.v,.slice q.A q.n q.c]] w fun r w'=>∃v,r=.returned (.bool v)∧(v=true↔p.v=q.v∧p.ts=q.ts)∧Below w.heap.size w w':=by
 have hh:=Hp.start w;have ht:=fun w1 hb=>xZ p.A p.n p.c p.ts q.A q.n q.c q.ts w1 (hp.ext hb) (hq.ext hb) hn hm;by_cases hv:p.v=q.v
 ·refine Ok ?_;refine sr ?_;refine bV hh [_,_] ?_;intro b2 w2 hh;refine bV hh [_,_] ?_;intro b3 w3 hh;refine aB (aa (sr (bC ?_)));refine bA hh 1 ?_;refine bC ?_;refine bA hh 0 ?_;refine ct (mB (gT (bC (gT ?_))));refine bA hh 1 ?_;refine gT (bC (gT ?_));refine bA hh 0 ?_;refine aH rfl rfl ?_;refine aE (ht _ hh.below) au.out rfl V0 ?_;rintro e_ w15 ⟨v_,rfl,hv_,hb_⟩;refine ⟨_,rfl, ?_⟩;replace hh:=hh.ext hb_;refine fi ?_;refine aB (aa (av ?_));refine cW ?_;exact ⟨v_,rfl,hv_.trans ⟨fun h=>⟨hv,h⟩,fun h=>h.2⟩,hh.below⟩
 ·refine Ok ?_;refine sr ?_;refine bV hh [_,_] ?_;intro b2 w2 hh;refine bV hh [_,_] ?_;intro b3 w3 hh;refine aB (aa (sr (bC ?_)));refine bA hh 1 ?_;refine bC ?_;refine bA hh 0 ?_;refine ct (mB ?_);refine gS (gS (gS (gS ?_)));refine jg ?_;refine dR ?_;refine aB (aa (av ?_));refine cW ?_;exact ⟨_,rfl,⟨fun h=>(nomatch h),fun h=>absurd h.1 hv⟩,hh.below⟩
def Vd (a:NR):Bool:=decide ((24:Int)<a.bk.size∨a.e< -300∨300<a.e)
structure VT (ts:List TR):Prop where
 n:ts.length≤12
 ok:jG 492 ts
 sz:∀t∈ts,t.m.size≤50
variable {w w':World}
def PX.norm (g:PX):PX:=⟨g.v,none,0,0,g.ts⟩
theorem xO (ps:List PX):gC (ps.map PX.norm)=gC ps:=by
 have h1:(ps.map PX.norm).find? (fun g=>decide (g.e≠0))=(ps.find? fun g=>decide (g.e≠0)).map PX.norm:=List.find?_map ..;have h2:yf (ps.map PX.norm)=yf ps:=by
  unfold yf;rw [List.any_map,W6]
  rfl
 unfold gC;rw [h1,h2,Wi]
 cases ps.find? (fun g=>decide (g.e≠0))<;>rfl
theorem tG (ps:List PX):gm (ps.map PX.norm)=gm ps:=by unfold gm;rw [W6];rfl
structure AP (ps os:List PX) (R:List HE):Prop where
 eq:∀(j:Nat) (g o:PX),ps[j]?=some g→os[j]?=some o→o.v=g.v∧o.ts=g.ts∧o.n=g.n
 my:∀o∈os,o.row∈R∧o.n≤o.c
theorem AP.add {ps os:List PX}{R:List HE}{g o:PX} (h:AP ps os R) (hx:ps[os.length]?=some g) (he:o.v=g.v∧o.ts=g.ts∧o.n=g.n) (hc:o.n≤o.c):AP ps (os++[o]) (o.row::R):=by
 refine ⟨fun j g2 o2 h1 h2=> ?_,fun o2 h2=> ?_⟩
 ·by_cases hj:j<os.length
  ·rw [Yh hj] at h2;exact h.eq j g2 o2 h1 h2
  ·by_cases hj2:j=os.length
   ·subst hj2;rw [Xt (V9 _),Xc] at h2;rw [hx] at h1
    cases h1;cases h2
    exact he
   ·rw [WN (by rw [We];simp;omega)] at h2
    cases h2
 ·rcases W3.1 h2 with h2|h2
  ·exact ⟨Wl _ (h.my o2 h2).1,(h.my o2 h2).2⟩
  ·rw [Wu.1 h2];exact ⟨Wj,hc⟩
theorem AP.key {ps os:List PX}{R:List HE} (h:AP ps os R) (hl:os.length=ps.length):os.map PX.norm=ps.map PX.norm:=by
 apply XK;intro j;rw [Wg,Wg];by_cases hj:j<os.length
 ·obtain ⟨o,ho⟩:=al hj;obtain ⟨g,hg⟩:=al (l:=ps) (k:=j) VZ;obtain ⟨e1,e2,_⟩:=h.eq j g o hg ho;rw [ho,hg];show some (PX.norm o)=some (PX.norm g);unfold PX.norm;rw [e1,e2]
 ·rw [WN VZ,WN VZ]
theorem F5 {H:List HE}{g:PX} (hh:Hp w H w') (h:g.row∈H):g.at_ w':=iw (hh.own g.row h)
def Hs (p:PX) (c:Dyadic):Int:=if p.e=0 then im (p.ts.map (rl c)) else p.e
theorem Hu {X:List TR}{c:Dyadic}{i:Nat}{z:TR} (hz:l[i]?=some z) (hX:X=(l.take i).map (rl c)++l.drop i):X[i]?=some z∧X.set i ⟨z.m,nR (z.c.d*c)⟩=(l.take (i+1)).map (rl c)++l.drop (i+1):=by
 obtain ⟨h1,h2⟩:=Wk.1 hz;have hl:((l.take i).map (rl c)).length=i:=by rw [Wi,Ww];omega
 refine ⟨?_, ?_⟩
 ·rw [hX,Xt VZ,hl,Xc,XY];exact hz
 ·rw [ay hz,WX,hX,Yf _ _ VZ,hl,Xc,WY,ix hz]
  rfl
theorem F7 {c:Dyadic} (ho:jG k l) (hc:Sz j c) (hk:k+j≤1000000):jG (k+j) (l.map (rl c)):=fun t ht=>by
 obtain ⟨z,hz,rfl⟩:=Wo.1 ht;have hs:=(ho z hz).2.mul hc;exact ⟨hs.ok VZ,by show Sz _ (nR _).d;rw [cj];exact hs⟩
theorem yC (p:PX) (c:NR) (k:Nat) (w:World) (hT:er w) (hp:p.at_ w) (lp:p.km k) (hc:c.ok∧Sz k c.d) (hk:k≤400000):
  Calls Tryz.prog 104 #[.agg #[.int .i64 p.v,.slice p.A p.n p.c],.agg #[.bool c.neg,.string c.bk,.int .i64 c.e]] w fun r w'=>∃g:PX,fL (Hs p c.d) p.v (aM (p.ts.map (rl c.d))) g∧r=.returned (.tuple #[.agg #[.int .i64 g.v,.slice g.A g.n g.c],.int .i64 (Hs p c.d)])∧Hp w [g.row] w':=by
 have hh:=Hp.start w;have hck:=fun w1 hT1 hb=>nT p k w1 hT1 (hp.ext hb) lp;unfold Hs;by_cases h0:p.e=0
 ·rw [V5 h0];rw [h0] at hck;obtain ⟨_,h4,_,_⟩:=dH h0;have hpl:p.ts.length=p.n:=hp.ln;refine Pv ?_;refine sr ?_;refine bV hh [_,_] ?_;intro b2 w2 hh;refine bV hh [_,_,_] ?_;intro b3 w3 hh;refine bJ hh ?_;intro b4 w4 hh;refine aI (aa (ah (sr ?_)));refine bY hh 2 [_,_] ?_;refine eQ ?_;intro w10 hh;refine aI (aa (sr (mI ?_)));refine cY (aa (cF (ao (ai (sr (bC ?_))))));refine bA hh 2 ?_;refine aE (l4 p.A p.n p.c p.ts _ (hp.ext hh.below) lp.n) au.out rfl V0 ?_;rintro e_ w17 ⟨A17,c17,rfl,hown_,hb_⟩;refine ⟨_,rfl, ?_⟩;replace hh:=hh.aO (x:=.row _ _ _ _ _ _) hb_ hown_;refine sa ?_;refine aW [8,20,21,22,23,24,25,26,27,28,29,30,31,32,33,34,35] 20
   (fun v w'=>∃(i:Nat) (X:List TR),i≤p.n∧v=.int .i64 i∧X=(p.ts.take i).map (rl c.d)++p.ts.drop i∧Hp w [.row A17 p.n c17 80 4 (aA TR.cells X),.blk b4 24 [.int .i64 0,.slice none 0 0] (0,0),.blk b3 40 [.bool c.neg,.string c.bk,.int .i64 c.e] (0,0),.blk b2 24 [.int .i64 p.v,.slice p.A p.n p.c] (0,0)] w')
   (fun v _=>p.n-(intOf v).toNat) ?_ ?_
  ·exact ⟨0,p.ts,V8 _,rfl,rfl,hh⟩
  ·clear hh;rintro ρ' v w' ⟨i,X,hi,rfl,hX,hh⟩;have hXl:X.length=p.n:=by rw [hX,We,Wi,Ww,Xu];omega
   by_cases hlt:i<p.n
   ·obtain ⟨z,hz⟩:=al (l:=p.ts) (k:=i) VZ;obtain ⟨hXz,hXn⟩:=Hu hz hX;have hzo:=lp.ok z (Wb hz);have hdm:=fun A cc w1 hT1 hS1=>fk A 2 cc [z.c,c] w1 hT1 hS1 (by simpa using ⟨hzo.1,hc.1⟩) k (by simpa using ⟨hzo.2,hc.2⟩) VZ V0;rw [show ik ([z.c,c].map NR.d)=z.c.d*c.d by show 1*z.c.d*c.d=_;rw [Yt]] at hdm;have hrl:=fy TR.len X;obtain ⟨g0,rfl⟩:=hh.bZ (i:=0) rfl VZ;refine sr ?_;refine a0 (aa (ah (cT (ao (ai (ah (aq (sr (mI (aI (aa ?_)))))))))));refine aN 10 [[(7,none)],[(8,none)],[(7,none)],[(8,none)],[(25,some 2),(26,some 3)],[(27,some 4)],[(28,some 5)],[(3,none)],[(29,some 6),(30,some 7)],[(31,some 8)]] [(9,32),(8,31),(7,30),(6,29),(5,28),(4,27),(3,26),(2,25),(1,24),(0,23)] hh mixed V2 ?_;refine fD ?_;refine dn ?_;refine fD ?_;refine dn ?_;refine Gn (i) ?_;refine da ?_;refine qK [_,_,_] (fun _ hj=>(hj.hp.iF (f:=TR.cells) (x:=z) (l:=X) (i:=0) rfl TR.len V0 hXz).drop 1) ?_;refine eJ 2 [_,_,_] ?_;refine rh [_,_,_,_,_,_] ?_;refine aP (i:=9) (Is (.agg #[.bool (nR (z.c.d*c.d)).neg,.string (nR (z.c.d*c.d)).bk,.int .i64 (nR (z.c.d*c.d)).e])) Is.ext ?_ ?_
    ·intro ρ1 w1 hj hR;obtain ⟨A31,c31,h31,s31⟩:=hR.1;exact bf rfl (aQ au.out (aw h31 a8)) (hdm A31 c31 _ (hT.hp hj.hp) s31) (fun _ _ hq=>⟨_,hq.1,hq.2,rfl⟩)
    refine aG ?_;intro f W hJ hV;have hb_8:=hJ.bl;obtain ⟨v32,v31,v30,v29,v28,v27,v26,v25,v24,v23,_⟩:=hV;obtain ⟨A31,c31,e31,f31⟩:Rows _ _ _ (f 8) W:=v31;replace hh:=hJ.hp;refine aU (bg (ae v32 (ae e31 (ae v30 (ae v29 (ae v28 (ae v27 (ae v26 (ae v25 (ae v24 (ae v23 aT))))))))))) ?_;dsimp only [bI];clear e31 hJ;refine fP ?_;refine bC ?_;refine cf hh (i:=0) (vs:=[_,_,_]) rfl rfl (g6 rfl) rfl aJ.out rfl VZ rfl ?_;intro ws hh;simp only [Wh] at hh;rw [xJ hXz,hXn] at hh;refine fN ?_;refine bj (mI (az (ai ?_)));replace hh:=hh.sub (V7 _ (V7 _ (V7 _ (V7 _ Wx))));refine ⟨⟨i+1,_,VZ,rfl,rfl,hh⟩,by show p.n-(i+1)<p.n-i;omega, ?_⟩;exact dF
   ·obtain rfl:i=p.n:=VZ;rw [Wc VZ,XX VZ,WJ] at hX;have hso:=F7 lp.ok hc.2 VZ;rw [←hX] at hso ⊢;refine sr ?_;refine LL ?_;refine bA hh 3 ?_;refine mL ?_;refine aE (kB p.v A17 p.n c17 X (k+k) _ hT hh hXl VZ VZ hso) au.out rfl V0 ?_;rintro e_ w39 ⟨g,og,rfl,hh⟩;refine ⟨_,rfl, ?_⟩;refine dE ?_;refine dE ?_;exact Gq
 ·rw [V6 h0];refine Pv ?_;refine sr ?_;refine bV hh [_,_] ?_;intro b2 w2 hh;refine bV hh [_,_,_] ?_;intro b3 w3 hh;refine bJ hh ?_;intro b4 w4 hh;refine aI (aa (ah (sr ?_)));refine bY hh 2 [_,_] ?_;refine eQ ?_;intro w10 hh;exact MU
abbrev ZT:=List (List UInt8×Int)
def zT (L:ZT):List TR:=L.map fun x=>⟨str x.1,nR ((x.2:Int):Dyadic)⟩
def zS (L:ZT) (b:List UInt8):Int:=match L with|[]=>0|x::L=>(if x.1=b then x.2 else 0)+zS L b
def zC:ZT→Bool
 |[]=>true
 |[x]=> !decide (x.2=0)
 |x::y::L=> !decide (x.2=0) && (Op.bytesLess x.1 y.1 && zC (y::L))
def zE (L K:ZT):Bool:=(L++K).all fun x=>decide (zS L x.1=zS K x.1)
def zP (P Q:ZT):ZT:=P.flatMap fun x=>Q.map fun y=>((mulL x.1 y.1).1,x.2*y.2)
def VJ (P Q:ZT):List Int:=P.flatMap fun x=>Q.map fun y=>(mulL x.1 y.1).2
def zM (v:Int) (L:ZT):Bool:=L.all fun x=>eS x.1 && decide ((x.1.length:Int)=v)
def zB (L:ZT):Bool:=L.all fun x=>decide (x.2.natAbs<256) && decide (x.1.length≤50)
def VF (n:Int):ZT:=[([0,1],n),([1,0],1)]
theorem qb {g h:PX} (h1:g.e=0) (h2:h.e=0) (h3:h.v=g.v):gC [g,h]=0:=by
 have e:[g,h].find? (fun g=>decide (g.e≠0))=none:=jY (Ya.2 fun x hx=>by
  rcases Wp.1 hx with rfl|hx
  ·simp [h1]
  ·rw [Wu.1 hx];simp [h2])
 unfold gC;rw [e];show (if 2=0∨yf [g,h]=true then (1:Int) else 0)=0;rw [V6];rintro (h0|h0)
 ·cases h0
 ·obtain ⟨x,hx,hx2⟩:=Yb.1 h0;have hx3:x.v≠g.v:=XQ hx2
  rcases Wp.1 hx with rfl|hx
  ·exact hx3 rfl
  ·rw [Wu.1 hx] at hx3;exact hx3 h3
def Uh (ds:List Int):VP:=fun v W=>∃g:Option Addr×Nat,v=.slice g.1 ds.length g.2∧Sl W g.1 ds.length 1 (a7 ds)
structure Vg (E:Int) (g:PX):Prop where
 bad:E≠0→g.v=0∧g.ts=[]
 ok:E=0→g.e=0∧jG 100000 g.ts∧∀t∈g.ts,t.m.size≤100000
theorem NC (h:im l=0):(aM l).length≤4096:=by
 unfold im at h;by_cases h4:4096<(aM l).length
 ·rw [V5 h4] at h;omega
 ·omega
theorem uL (h:jG k l) (hk:k+l.length≤j) (hj:j≤3999990):jG j (aM l):=fun t ht=>by
 have h3:Sz j t.c.d:=(nU (fun t ht=>(h t ht).2) t ht).mono hk;exact ⟨by rw [(fp l).nf t ht];exact h3.ok hj,h3⟩
theorem sW (h:∀t∈l,t.m.size≤100000):∀t∈aM l,t.m.size≤100000:=fun t ht=>by
 obtain ⟨s,hs,e⟩:=iQ t ht;rw [←e];exact h s hs
theorem lY (h:l.length≤4096):im l=0:=by
 unfold im;have:=cB l;rw [V6 VZ]
theorem fL.v0 {v:Int}{g:PX} (o:fL 0 v ts g):g.v=v:=o.v
theorem fL.t0 {v:Int}{g:PX} (o:fL 0 v ts g):g.ts=ts:=o.ts
theorem Jg (p q:PX):BT [p,q]=p.ts++q.ts:=by show p.ts++(q.ts++[])=_;rw [WJ]
variable {n:Nat}
def kp (j:Nat) (t:TR):Nat:=match t.m.data.toList[j]? with|some e=>e.toNat|none=>0
theorem rp {t:TR}{e:UInt8} (h:t.m.data.toList[j]?=some e):kp j t=e.toNat:=by unfold kp;rw [h]
def cM (p:List TR) (j n:Nat):List TR:=p.filter fun t=>decide (kp j t=n)
def jI (q:List TR) (sub:List TR→Int×List TR) (p:List TR) (j n:Nat) (a:Int×List TR):Int×List TR:=
 if a.1≠0 then a else if a.2.length=0∧(cM p j n).length=0 then a else
 if fR a.2 q≠0 then (fR a.2 q,[]) else if (sub (cM p j n)).1≠0 then ((sub (cM p j n)).1,[]) else
 if im (aM (df a.2 q)++(sub (cM p j n)).2)≠0 then (im (aM (df a.2 q)++(sub (cM p j n)).2),[]) else (0,aM (aM (df a.2 q)++(sub (cM p j n)).2))
def de (q:List TR) (sub:List TR→Int×List TR) (p:List TR) (j:Nat):Nat→Int×List TR
 |0=>(0,[])
 |i+1=>jI q sub p j (127-i) (de q sub p j i)
theorem uS (q:List TR) (sub:List TR→Int×List TR) (p:List TR) (j i:Nat):de q sub p j (i+1)=jI q sub p j (127-i) (de q sub p j i):=rfl
def jE (v:Int):List (List TR)→Nat→List TR→Int×List TR
 |[],_,p=>(0,aM [⟨fO v,(p.map TR.c).headD (nR 0)⟩])
 |q::qs,j,p=>de q (jE v qs (j+1)) p j 128
theorem ra {q:List TR}{sub:List TR→Int×List TR}{i:Nat} (h:(de q sub p j i).1≠0) (hk:i≤k):de q sub p j k=de q sub p j i:=by
 induction k with
 |zero=>
  obtain rfl:i=0:=VZ
  rfl
 |succ k ih=>
  by_cases e:i=k+1
  ·rw [e]
  ·have:=ih VZ;show jI q sub p j (127-k) (de q sub p j k)=_;rw [this];unfold jI;rw [V5 h]
theorem J2 {q:List TR} (hp:jG k p) (hq:jG j q) (sq:∀t∈q,t.m.size≤100000) (h:fR p q=0) (hk:k+j≤900000):jG (k+j+p.length*q.length) (aM (df p q))∧∀t∈aM (df p q),t.m.size≤100000:=by
 obtain ⟨h6,_,h4⟩:=pr h;have ho:=uV hp hq VZ;have hz:=nU fun t ht=>(ho t ht).2;rw [rk] at hz;refine ⟨fun t ht=> ?_,(FH hp hq sq h hk).2⟩;have:Sz (k+j+p.length*q.length) t.c.d:=hz t ht;refine ⟨?_,this⟩;rw [(fp _).nf t ht];exact this.ok VZ
structure kS (v:Int) (k:Nat) (l:List TR):Prop where
 e:ko v l=0
 ok:jG k l
 sz:∀t∈l,t.m.size≤100000
theorem kS.mono {v:Int} (h:kS v k l) (hk:k≤j):kS v j l:=⟨h.e,h.ok.mono hk,h.sz⟩
theorem kS.nil {v:Int} (hv:jo v=true):kS v k []:=⟨EL hv (V8 _) (fun _ h=>nomatch h) ⟨.nil,(fun _ h=>nomatch h),(fun _ h=>nomatch h)⟩,(fun _ h=>nomatch h),(fun _ h=>nomatch h)⟩
theorem kS.len {v:Int} (h:kS v k l):l.length≤4096:=(dH h.e).2.1
theorem Fu {v:Int}{q:List TR}{T:Nat} (hp:kS v k p) (hq:kS v j q) (hT:q.length≤T) (h:fR p q=0) (hk:k+j≤900000):kS v (k+j+4096*T) (aM (df p q)):=by
 obtain ⟨h6,h5,h4⟩:=pr h;obtain ⟨f1,f2,f3,f4⟩:=dH hp.e;have:=J2 hp.ok hq.ok hq.sz h hk;have hm:p.length*q.length≤4096*T:=Yr hp.len hT;exact ⟨ku f1 h4 (HL f3 h5),this.1.mono VZ,this.2⟩
theorem FU {v:Int}{a b:List TR} (ha:kS v k a) (hb:kS v k b) (h:im (a++b)=0) (hk:k≤3000000):kS v (k+8192) (aM (a++b)):=by
 obtain ⟨f1,f2,f3,f4⟩:=dH ha.e;obtain ⟨g1,g2,g3,g4⟩:=dH hb.e;have hl:(a++b).length≤8192:=by rw [We];omega
 refine ⟨ku f1 (NC h) fun t ht=> ?_,uL (fun t ht=> ?_) (show k+(a++b).length≤k+8192 by omega) VZ,sW fun t ht=> ?_⟩
 ·rcases W3.1 ht with h|h
  ·exact f3 t h
  ·exact g3 t h
 ·rcases W3.1 ht with h|h
  ·exact ha.ok t h
  ·exact hb.ok t h
 ·rcases W3.1 ht with h|h
  ·exact ha.sz t h
  ·exact hb.sz t h
theorem Lp {v:Int}{q:List TR}{sub:List TR→Int×List TR}{a:Int×List TR}{S K T B S':Nat} (ha:kS v S a.2) (hq:kS v K q) (hT:q.length≤T) (hb:(sub (cM p j n)).1=0→kS v B (sub (cM p j n)).2) (h1:S+K+4096*T+8192≤S') (h2:B+8192≤S') (hS:S'≤900000)
  (h:(jI q sub p j n a).1=0):kS v S' (jI q sub p j n a).2:=by
 unfold jI at h ⊢;by_cases c0:a.1≠0
 ·rw [V5 c0] at h;exact absurd h c0
 ·rw [V6 c0] at h ⊢;by_cases c1:a.2.length=0∧(cM p j n).length=0
  ·rw [V5 c1];exact ha.mono VZ
  ·rw [V6 c1] at h ⊢;by_cases c2:fR a.2 q≠0
   ·rw [V5 c2] at h;exact absurd h c2
   ·rw [V6 c2] at h ⊢;by_cases c3:(sub (cM p j n)).1≠0
    ·rw [V5 c3] at h;exact absurd h c3
    ·rw [V6 c3] at h ⊢;by_cases c4:im (aM (df a.2 q)++(sub (cM p j n)).2)≠0
     ·rw [V5 c4] at h;exact absurd h c4
     ·rw [V6 c4];exact (FU ((Fu ha hq hT VZ VZ).mono (show _≤S'-8192 by omega)) ((hb VZ).mono VZ) VZ VZ).mono VZ
theorem HH (h:∀t∈p,kp j t<n):cM p j n=[]:=ZE.2 fun t ht=>by
 have:=h t ht;simp only [Wt];omega
theorem ll:∀t∈cM p j n,t∈p:=fun t ht=>(XI.1 ht).1
theorem l7 {q p:List TR}{sub:List TR→Int×List TR}{j D:Nat} (h:∀t∈p,kp j t≤D):∀i,i+D≤127→de q sub p j i=(0,[])
 |0,_=>rfl
 |i+1,hi=>by
  show jI q sub p j (127-i) (de q sub p j i)=_;rw [l7 h i VZ,show jI q sub p j (127-i) (0,[])=(0,[]) by
   unfold jI;rw [V6 V0,V5 ⟨rfl,by rw [HH fun t ht=>by have:=h t ht;omega];rfl⟩]]
def gH (c:Nat):List Nat→Nat→Nat
 |[],k=>k
 |d::ds,k=>gH c ds k+d*c+8192
theorem wx (c k:Nat):gH c [] k=k:=rfl
theorem vi (c d k:Nat) (ds:List Nat):gH c (d::ds) k=gH c ds k+d*c+8192:=rfl
theorem uf {v:Int}{q p:List TR}{sub:List TR→Int×List TR}{j D K T B c:Nat} (hv:jo v=true) (hq:kS v K q) (hT:q.length≤T) (hD:∀t∈p,kp j t≤D) (hD2:D≤127) (hb:∀n,(sub (cM p j n)).1=0→kS v B (sub (cM p j n)).2) (hc:K+4096*T+8192≤c) (hS:B+D*c+8192≤900000):
  ∀i,i≤128→(de q sub p j i).1=0→kS v (B+(i+D-128)*c+8192) (de q sub p j i).2
 |0,_,_=>kS.nil hv
 |i+1,hi,h0=>by
  by_cases h1:i+1+D≤127
  ·rw [l7 hD _ h1];exact kS.nil hv
  ·have h2:(de q sub p j i).1=0:=by
    refine YD fun c=> ?_;rw [ra c (Nat.le_succ i)] at h0;exact c h0
   have hle:(i+1+D-128)*c≤D*c:=Xr _ VZ;by_cases h3:i+D≤127
   ·have h4:=l7 (q:=q) (sub:=sub) hD i h3;show kS v _ (jI q sub p j (127-i) (de q sub p j i)).2;have h5:(jI q sub p j (127-i) (de q sub p j i)).1=0:=h0;rw [h4] at h5 ⊢;rw [show i+1+D-128=0 by omega,YW];unfold jI at h5 ⊢;rw [V6 V0] at h5 ⊢;by_cases c1:((0:Int),([]:List TR)).2.length=0∧(cM p j (127-i)).length=0
    ·rw [V5 c1];exact kS.nil hv
    ·rw [V6 c1] at h5 ⊢;by_cases c2:fR [] q≠0
     ·rw [V5 c2] at h5;exact absurd h5 c2
     ·rw [V6 c2] at h5 ⊢;by_cases c3:(sub (cM p j (127-i))).1≠0
      ·rw [V5 c3] at h5;exact absurd h5 c3
      ·rw [V6 c3] at h5 ⊢;by_cases c4:im (aM (df [] q)++(sub (cM p j (127-i))).2)≠0
       ·rw [V5 c4] at h5;exact absurd h5 c4
       ·rw [V6 c4];have hn:kS v B (aM (df [] q)):=kS.nil hv;exact (FU hn (hb _ VZ) VZ VZ).mono VZ
   ·have ih:=uf hv hq hT hD hD2 hb hc hS i VZ h2;have e1:(i+1+D-128)*c=(i+D-128)*c+c:=by rw [show i+1+D-128=(i+D-128)+1 by omega,Xs]
    rw [e1] at hle ⊢;generalize (i+D-128)*c=y at*;generalize D*c=z at*;exact Lp ih hq hT (hb _) VZ VZ VZ h0
theorem xf {v:Int}{x:NR} (hv:jo v=true) (hx:Sz k x.d) (hk:k≤900000):kS v (k+1) (aM [⟨fO v,x⟩]):=by
 have h1:=jy.1 hv;have h2:=oJ h1.1;refine ⟨ku hv (WK (cB _) (show 1≤4096 by decide)) fun t ht=> ?_,fun t ht=> ?_,fun t ht=> ?_⟩
 ·rw [Wu.1 ht];unfold fY;rw [Wm,Wt];exact ⟨wL v,h2⟩
 ·have h1:Sz (k+1) t.c.d:=nU (k:=k) (l:=[⟨fO v,x⟩]) (fun s hs=>by rw [Wu.1 hs];exact hx) t ht;exact ⟨by rw [(fp _).nf t ht];exact h1.ok VZ,h1⟩
 ·obtain ⟨s,hs,e⟩:=iQ t ht;rw [←e,Wu.1 hs];show (fO v).size≤100000;omega
theorem FR {v:Int}{K T c0:Nat} (hv:jo v=true) (hc0:K+4096*T+8192≤c0):∀(qs:List (List TR)) (j:Nat) (p:List TR) (ds:List Nat) (k:Nat),(∀q∈qs,kS v K q∧q.length≤T)→jG k p→ds.length=qs.length→(∀(i d:Nat),ds[i]?=some d→d≤127∧∀t∈p,kp (j+i) t≤d)→gH c0 ds (k+1)≤900000→
  (jE v qs j p).1=0→kS v (gH c0 ds (k+1)) (jE v qs j p).2:=by
 intro qs
 induction qs with
 |nil=>
  intro j p ds k _ hok hds _ hB _;obtain rfl:ds=[]:=Zz.1 hds;rw [wx] at hB ⊢;refine xf hv ?_ VZ
  cases p with
  |nil=>show Sz k (nR 0).d;rw [cj];exact Sz.zero k
  |cons t p=>exact (hok t Wj).2
 |cons q qs ih=>
  intro j p ds k hq hok hds hD hB h0
  cases ds with
  |nil=>cases hds
  |cons d ds=>
   have hd:=hD 0 d rfl;rw [vi] at hB ⊢;have hB1:gH c0 ds (k+1)≤900000:=VZ;have hsub:∀n,(jE v qs (j+1) (cM p j n)).1=0→kS v (gH c0 ds (k+1)) (jE v qs (j+1) (cM p j n)).2:=fun n hn=>by
    refine ih (j+1) (cM p j n) ds k (fun r hr=>hq r (Wl _ hr)) (fun t ht=>hok t (ll t ht)) (by simpa using hds) (fun i e he=> ?_) hB1 hn;exact Si
   have h1:=uf (sub:=jE v qs (j+1)) (p:=p) (j:=j) hv (hq q Wj).1 (hq q Wj).2 hd.2 hd.1 hsub hc0 hB 128 (V9 _) h0;rw [show 128+d-128=d by omega] at h1;exact h1
variable {fr:Nat}
theorem Ba:∀{a b:List UInt8}{j:Nat}{x y:UInt8},Op.bytesLess a b=true→a.take j=b.take j→a[j]?=some x→b[j]?=some y→x.toNat≤y.toNat
 |[],_,j,x,y,_,_,hx,_=>by simp at hx
 |_,[],j,x,y,_,_,_,hy=>by simp at hy
 |c::a,d::b,0,x,y,h,_,hx,hy=>by
  simp only [YI,XN] at hx hy;subst hx;subst hy;simp only [Op.bytesLess,X4,Wm,Wt,Xy] at h
  rcases h with h|⟨h,_⟩
  ·exact Nat.le_of_lt (UInt8.lt_iff_toNat_lt.1 h)
  ·rw [h];exact V9 _
 |c::a,d::b,j+1,x,y,h,ht,hx,hy=>by
  simp only [Zr,List.cons.injEq] at ht;obtain ⟨rfl,ht⟩:=ht;simp only [YT] at hx hy;refine Ba (a:=a) (b:=b) ?_ ht hx hy;simpa [Op.bytesLess] using h
structure Ki (v:Int) (j:Nat) (p:List TR):Prop where
 sB:vq p
 may:∀t∈p,fY v t=true
 pre:∀a∈p,∀b∈p,a.m.data.toList.take j=b.m.data.toList.take j
theorem Ki.size {v:Int} (h:Ki v j p):∀t∈p,(t.m.data.toList.length:Int)=v:=fun t ht=>by
 rw [←eh];exact XQ (Yi.1 (h.may t ht)).2
theorem Ki.get {v:Int} (h:Ki v j p) (hj:(j:Int)<v) {t:TR} (ht:t∈p):∃e:UInt8,t.m.data.toList[j]?=some e∧kp j t=e.toNat∧e.toNat<128:=by
 obtain ⟨e,he⟩:=al (l:=t.m.data.toList) (k:=j) (by have:=h.size t ht;omega);exact ⟨e,he,rp he,sK (Yi.1 (h.may t ht)).1 he⟩
theorem Ki.mono {v:Int} (h:Ki v j p) (hj:(j:Int)<v):p.Pairwise fun a b=>kp j a≤kp j b:=by
 refine List.Pairwise.imp_of_mem (fun {a b} ha hb hl=> ?_) h.sB;obtain ⟨x,hx,ex,_⟩:=h.get hj ha;obtain ⟨y,hy,ey,_⟩:=h.get hj hb;rw [ex,ey];exact Ba hl (h.pre a ha b hb) hx hy
theorem Ki.with {v:Int} (h:Ki v j p) (hj:(j:Int)<v):Ki v (j+1) (cM p j n):=by
 refine ⟨h.sB.filter _,fun t ht=>h.may t (ll t ht),fun a ha b hb=> ?_⟩;obtain ⟨ha1,ha2⟩:=XI.1 ha;obtain ⟨hb1,hb2⟩:=XI.1 hb;obtain ⟨x,hx,ex,_⟩:=h.get hj ha1;obtain ⟨y,hy,ey,_⟩:=h.get hj hb1;have exy:x=y:=Y2.1 (by rw [←ex,←ey,XQ ha2,XQ hb2]);rw [ay hx,ay hy,h.pre a ha1 b hb1,exy]
theorem IL {p:List α}{en:Nat} (h:fr≤en):p.drop fr=(p.drop fr).take (en-fr)++p.drop en:=by
 have:p.drop en=(p.drop fr).drop (en-fr):=by rw [List.drop_drop];congr 1;omega
 rw [this,W9]
theorem Bh {en:Nat} (hfe:fr≤en) (h1:∀t∈p.take fr,kp j t<n) (h2:∀t∈(p.drop fr).take (en-fr),kp j t=n) (h3:∀t∈p.drop en,n<kp j t):cM p j n=(p.drop fr).take (en-fr):=by
 have e:p=p.take fr++((p.drop fr).take (en-fr)++p.drop en):=by
  have:p.drop en=(p.drop fr).drop (en-fr):=by rw [List.drop_drop];congr 1;omega
  rw [this,W9,W9]
 unfold cM
 conv=>lhs;rw [e]
 rw [YU,YU,ZE.2,List.filter_eq_self.2,ZE.2,Wd,WJ]
 ·intro t ht;have:=h3 t ht;simp only [Wt];omega
 ·intro t ht;have:=h2 t ht;simpa using this
 ·intro t ht;have:=h1 t ht;simp only [Wt];omega
theorem GC {x:TR} (h:p.Pairwise fun a b=>kp j a≤kp j b) (hx:p[fr]?=some x) (hn:kp j x<n):∀t∈p.take (fr+1),kp j t<n:=fun t ht=>by
 rw [ay hx] at ht
 rcases W3.1 ht with ht|ht
 ·have e:p=p.take fr++x::p.drop (fr+1):=by rw [←ix hx,W9]
  rw [e,List.pairwise_append] at h;have:=h.2.2 t ht x Wj;omega
 ·obtain rfl:=Wu.1 ht;exact hn
variable {w0:World}
def Vo (p:PX) (i:Int):Int:=if p.e=0 then (if i<0∨p.v≤i then 1 else 0) else p.e
theorem Hp.L6 {H:List HE} (h:Hp w0 H w) {i:Nat}{t:TypeId}{l:List UInt8}{ex:List Value} (hi:H[i]?=some (.blk b t (jB l++ex) fz)) (hl:l.length=n):Sl w (some ⟨b,0,none⟩) n 1 (jB l):=by
 refine ⟨by rw [iU,hl,Wn],fun _=>⟨_,rfl,fun j u hu=> ?_⟩⟩;refine h.Dk hi j u ?_;rw [Yh (Wk.1 hu).1];exact hu
def Ua (i:Nat) (t:TR):Option TR:=match t.m.data.toList[i]? with|some e=>if e.toNat=0 then none else some ⟨str (t.m.data.toList.set i (e-1)),nR (t.c.d*((e.toNat:Int):Dyadic))⟩|none=>none
def Vv (i:Nat) (l:List TR):List TR:=l.filterMap (Ua i)
variable {next:Rf→World→Prop}
section
variable {ro:Mode}{P:Program}{N:Nat}{Q:Kq}{ρ:Rf}{w:World}
theorem IP {c:Code}{id:Nat} (mods:List Nat) (s0:Nat) (J:Value→World→Prop) (hc:WC ro P N c (qN id (cG (fun ρ2 w2=>J (ρ2 s0) w2∧iI mods ρ2 ρ) Q)) ρ w)
  (hn:∀ρ' v0 w',J v0 w'→next (cH (mask mods ρ' ρ) s0 v0) w'):WC ro P N c (qN id (cG next Q)) ρ w:=
 hc.mono fun e ρ2 w2 hq=>by
  have key:J (ρ2 s0) w2∧iI mods ρ2 ρ→next ρ2 w2:=fun h=>by
   have:=hn ρ2 (ρ2 s0) w2 h.1;rwa [iT h.2,gI] at this
  cases e with
  |normal=>exact key hq
  |exit i=>
   by_cases h:i=id
   ·subst h;simp only [qN,cG,if_true] at hq ⊢;exact key hq
   ·simp only [qN,cG,V6 h] at hq ⊢;exact hq
  |_=>exact hq
theorem Ht {a c:Code} (mods:List Nat) (J:World→Prop) (hc:WC ro P N a (cG (fun ρ2 w2=>J w2∧iI mods ρ2 ρ) Q) ρ w) (hn:∀ρ' w',J w'→WC ro P N c Q (mask mods ρ' ρ) w'):WC ro P N (.seq a c) Q ρ w:=
 ah (hc.mono fun e ρ2 w2 hq=>by
  cases e with
  |normal=>
   have:=hn ρ2 w2 hq.1;rwa [iT hq.2] at this
  |_=>exact hq)
end
theorem JJ.Mn {H L:List HE} (hJ:JJ w0 H w W) (hs:Hp w0 H w) (hb:w.heap.size≤w1.heap.size) (hL:Hp w1 L W):Hp w0 (L++H) W:=
 hs.join (⟨hJ.bl,fun x hx=>mO (hL.own x hx) hb,hL.nd⟩:Hp w L W)
def pR (base:Nat) (E v:Int) (ts:List TR):VP:=kg base E v ts
theorem pR.ext {v:Int} (x:Value) (w w':World) (h:pR base E v ts x w) (hb:Below w.heap.size w w'):pR base E v ts x w':=kg.ext x w w' h hb
theorem zX (v:Int):aM [⟨fO v,nR 0⟩]=[]:=by
 unfold aM mb y7
 rfl
theorem Da (lA:Option Addr) (lc K T c0:Nat) (v:Int) (ls:List PX) (hv:jo v=true) (hlc:ls.length≤lc) (hl12:ls.length≤12) (hls:∀g∈ls,kS v K g.ts∧g.v=v∧g.km K∧g.ts.length≤T) (hc0:K+4096*T+8192≤c0) (hc1:c0≤440000):
  ∀(qs:List PX) (j:Nat) (p:List TR) (A:Option Addr) (n c:Nat) (ds:List Nat) (k:Nat) (w:World),ls.drop j=qs→j≤ls.length→er w→Sl w lA ls.length 2 (aA PX.cells ls)→(∀g∈ls,g.at_ w)→Sl w A n 4 (aA TR.cells p)→n≤c→Ki ls.length j p→jG k p→n≤4096→ds.length=qs.length→(∀(i d:Nat),ds[i]?=some d→d≤127∧∀t∈p,kp (j+i) t≤d)→gH c0 ds (k+1)≤440000→
  Calls Tryz.prog 141 #[.slice A n c,.int .i64 j,.slice lA ls.length lc,.int .i64 v] w fun r w'=>∃g:PX,fL (jE v (qs.map PX.ts) j p).1 v (jE v (qs.map PX.ts) j p).2 g∧r=.returned (.tuple #[.agg #[.int .i64 g.v,.slice g.A g.n g.c],.int .i64 (jE v (qs.map PX.ts) j p).1])∧Hp w [g.row] w':=by
 intro qs;have hK:K≤440000:=VZ;have hco:zV v=0:=V6 (by rw [hv];decide)
 induction qs with
 |nil=>
  intro j p A n c ds k w hq hj hT hL hat hS hnc hsr hok hn hds hD hB;have hh:=Hp.start w;have hln:=hS.bE TR.len V0;obtain rfl:j=ls.length:=by
   have:=Xm List.length hq;rw [Xu] at this;simp only [YZ] at this;omega
  obtain rfl:ds=[]:=Zz.1 hds;rw [wx] at hB;have hcn:=fun c hc w1 hT1=>jN v c k w1 hT1 hc VZ;rw [hco] at hcn
  cases p with
  |nil=>
   obtain rfl:n=0:=by simpa using hln.symm
   show Calls _ _ _ _ fun r w'=>∃g:PX,fL 0 v (aM [⟨fO v,nR 0⟩]) g∧r=.returned (.tuple #[.agg #[.int .i64 g.v,.slice g.A g.n g.c],.int .i64 0])∧Hp w [g.row] w';refine aj (N:=118) (l:=[.slice A 0 c,.int .i64 ls.length,.slice lA ls.length lc,.int .i64 v]) Tryz.func141 rfl rfl (by simp) ?_;refine sr ?_;refine bJ hh ?_;intro b8 w8 hh;refine aI (aa (ah (sr (mI (mL (aF ?_))))));refine ct (aa (cT (ah (sr (mL (aF ?_))))));refine ct (aa (cT (sr (mI ?_))));refine fe [_,_,_] ?_;refine aE (hcn (nR 0) ⟨(Sz.zero k).ok VZ,by rw [cj];exact Sz.zero k⟩ _ (hT.hp hh)) au.out rfl V0 ?_;rintro e_ w25 ⟨g,og,rfl,h3⟩;refine ⟨_,rfl, ?_⟩;replace hh:=hh.join h3;simp only [Wf,Wd] at hh;refine dE ?_;refine dE ?_;refine bL hh 1 [_,_] ?_;intro ws hh;replace hh:Hp _ (_::.blk _ _ [_,_] _::_) _:=hh;refine aI (aa (av (aK (aK ?_))));exact RG
  |cons t p=>
   have hn1:p.length+1=n:=by simpa using hln
   have ht:=hok t Wj;obtain ⟨ad,rfl,hr⟩:=hS.at_ VZ;show Calls _ _ _ _ fun r w'=>∃g:PX,fL 0 v (aM [⟨fO v,t.c⟩]) g∧r=.returned (.tuple #[.agg #[.int .i64 g.v,.slice g.A g.n g.c],.int .i64 0])∧Hp w [g.row] w';refine aj (N:=118) (l:=[.slice (some ad) n c,.int .i64 ls.length,.slice lA ls.length lc,.int .i64 v]) Tryz.func141 rfl rfl (by simp) ?_;refine sr ?_;refine bJ hh ?_;intro b8 w8 hh;refine aI (aa (ah (sr (mI (mL (aF ?_))))));refine ct (aa (cT (ah (sr (mL (aF ?_))))));refine ct (aa (cF (ao (ai (sr (mI (mL ?_)))))));refine D9 ?_;refine s7 ?_;refine cz (vs:=[_,_,_]) aJ.out rfl (((hr.ext hh.below).recAt TR.len (show (t::p)[0]?=some t from rfl)).drop 1) rfl V0 ?_;refine aE (hcn t.c ht _ (hT.hp hh)) au.out rfl V0 ?_;rintro e_ w33 ⟨g,og,rfl,h3⟩;refine ⟨_,rfl, ?_⟩;replace hh:=hh.join h3;simp only [Wf,Wd] at hh;refine dE ?_;refine dE ?_;refine bL hh 1 [_,_] ?_;intro ws hh;replace hh:Hp _ (_::.blk _ _ [_,_] _::_) _:=hh;refine aI (aa (av (aK ?_)));exact RG
 |cons q qs ih=>
  intro j p A n c ds k w hq hj hT hL hat hS hnc hsr hok hn hds hD hB;have hh:=Hp.start w;have hln:=hS.bE TR.len V0
  cases ds with
  |nil=>cases hds
  |cons d ds=>
   have hd:=hD 0 d rfl;have hjl:j<ls.length:=by
    rcases WW j ls.length with h|h
    ·exact h
    ·rw [XX h] at hq;cases hq
   have hqj:ls[j]?=some q:=by rw [←List.head?_drop,hq];rfl
   have hqs:ls.drop (j+1)=qs:=by rw [←List.tail_drop,hq];rfl
   obtain ⟨hqk,hqv,hql,hqT⟩:=hls q (Wb hqj);rw [vi] at hB;have hB1:gH c0 ds (k+1)≤440000:=VZ;have hmono:=hsr.mono VZ;rw [Wv];show Calls _ _ _ _ fun r w'=>∃g:PX,fL (de q.ts (jE v (qs.map PX.ts) (j+1)) p j 128).1 v (de q.ts (jE v (qs.map PX.ts) (j+1)) p j 128).2 g∧r=.returned (.tuple #[.agg #[.int .i64 g.v,.slice g.A g.n g.c],.int .i64 (de q.ts (jE v (qs.map PX.ts) (j+1)) p j 128).1])∧Hp w [g.row] w';have hDs:∀n (i e:Nat),ds[i]?=some e→e≤127∧∀t∈cM p j n,kp (j+1+i) t≤e:=fun n i e he=>by
    exact Si
   have hrec:∀(m fr en:Nat) (w1:World),er w1→Below w.heap.size w w1→fr≤en→en≤n→cM p j m=(p.drop fr).take (en-fr)→Calls Tryz.prog 141 #[.slice (if c=fr then A else A.map (·.add (fr*4))) (en-fr) (c-fr),.int .i64 ((j:Int)+1),.slice lA ls.length lc,.int .i64 v] w1 fun r w'=>∃g:PX,fL (jE v (qs.map PX.ts) (j+1) (cM p j m)).1 v (jE v (qs.map PX.ts) (j+1) (cM p j m)).2 g∧r=.returned (.tuple #[.agg #[.int .i64 g.v,.slice g.A g.n g.c],.int .i64 (jE v (qs.map PX.ts) (j+1) (cM p j m)).1])∧Hp w1 [g.row] w':=fun m fr en w1 hT1 hb h1 h2 hw=>by
    have hcut:=(hS.ext hb).cut h1 h2 hnc;rw [jU TR.len,lh TR.len,←hw] at hcut;exact ih (j+1) (cM p j m) _ (en-fr) (c-fr) ds k w1 hqs VZ hT1 (hL.ext hb) (fun g hg=>(hat g hg).ext hb) hcut VZ (hsr.with VZ) (fun t ht=>hok t (ll t ht)) VZ (by simpa using hds) (hDs m) hB1
   have hsub:∀m,(jE v (qs.map PX.ts) (j+1) (cM p j m)).1=0→kS v (gH c0 ds (k+1)) (jE v (qs.map PX.ts) (j+1) (cM p j m)).2:=fun m hm=>by
    refine FR hv hc0 (qs.map PX.ts) (j+1) (cM p j m) ds k (fun r hr=> ?_) (fun t ht=>hok t (ll t ht)) (by rw [Wi];simpa using hds) (hDs m) VZ hm;obtain ⟨g,hg,rfl⟩:=Wo.1 hr;have:=hls g (Y4 (by rw [hqs];exact hg));exact ⟨this.1,this.2.2.2⟩
   generalize jE v (qs.map PX.ts) (j+1)=sub at hrec hsub ⊢;have hlim:=uf (sub:=sub) (p:=p) (j:=j) hv hqk hqT hd.2 hd.1 hsub hc0 VZ;have hlim2:∀i,i≤128→(de q.ts sub p j i).1=0→kS v 440000 (de q.ts sub p j i).2:=fun i hi h0=>(hlim i hi h0).mono (by
    have:(i+d-128)*c0≤d*c0:=Xr _ VZ;omega)
   have hcn:=fun w1 hT1=>jN v (nR 0) 0 w1 hT1 ⟨(Sz.zero 0).ok V0,by rw [cj];exact Sz.zero 0⟩ V0;rw [hco,zX] at hcn;refine aj (N:=118) (l:=[.slice A n c,.int .i64 j,.slice lA ls.length lc,.int .i64 v]) Tryz.func141 rfl rfl (by simp) ?_;refine sr ?_;refine bJ hh ?_;intro b8 w8 hh;refine aI (aa (ah (sr (mI (mL (aF ?_))))));refine ct (aa (cF (ao (ai (sr (mI ?_))))));refine fe [_,_,_] ?_;refine aE (hcn _ (hT.hp hh)) au.out rfl V0 ?_;rintro e_ w39 ⟨g,og,rfl,h3⟩;refine ⟨_,rfl, ?_⟩;replace hh:=hh.join h3;simp only [Wf,Wd] at hh;refine mT ?_;refine dE ?_;refine dE ?_;refine bJ hh ?_;intro b10 w10 hh;refine bL hh 0 [_,_] ?_;intro ws hh;replace hh:Hp _ (.blk _ _ [_,_] _::_) _:=hh;refine aI (aa (sr (mL (aF (aI (aa (ah (sr (aI (aa (aq ?_)))))))))));refine ux [11,12,13,14,15,44,45,46,47,48,49,50,51,52,53,54,55,56,57,58,59,60,61,62,63,64,65,66,67,68,69,70,71,72,73,74,75,76,77,78,79,80,81,82,83,84,85,86,87,88,89,90,91,92,93,94,95,96,97,98,99,100,101,102,103,104,105,106,107,108,109,110,111,112] 11 12 13
    (fun e en nv w'=>∃(i en_:Nat) (e_ ov:Int) (oA:Option Addr) (on oc:Nat) (os:List TR),i≤128∧nv=.int .i64 (127-(i:Int))∧en=.int .i64 en_∧e=.int .i64 e_∧e_=(de q.ts sub p j i).1∧en_≤n∧(e_=0→ov=v∧os=(de q.ts sub p j i).2∧(∀t∈p.take en_,kp j t<128-i)∧(∀t∈p.drop en_,128-i≤kp j t))∧Hp w [.blk b10 24 [.int .i64 ov,.slice oA on oc] (0,0),.row oA on oc 80 4 (aA TR.cells os),.blk b8 24 [.int .i64 0,.slice none 0 0] (0,0)] w')
    (fun _ _ nv _=>(intOf nv+1).toNat) ?_ ?_
   ·refine ⟨0,n,0,g.v,g.A,g.n,g.c,g.ts,V8 _,rfl,rfl,rfl,rfl,V9 _,fun _=>⟨og.v,og.ts,fun t ht=> ?_,fun t ht=> ?_⟩,hh⟩
    ·obtain ⟨x,_,hx,h8⟩:=hsr.get VZ (Yd ht);rw [hx];exact h8
    ·rw [XX VZ] at ht
     cases ht
   ·clear hh og h3;rintro ρ' e_ en_ nv_ w' ⟨i,en,e,ov,oA,on,oc,os,hi,rfl,rfl,rfl,he,hen,hok0,hh⟩;by_cases hcn:i<128∧e=0
    ·obtain ⟨hi8,rfl⟩:=hcn;obtain ⟨rfl,rfl,hlo,hhi⟩:=hok0 rfl;clear hok0;obtain ⟨m,hm⟩:∃m,m=127-i:=⟨_,rfl⟩;rw [show (127-(i:Int))=(m:Int) by omega];refine ah (sr (mI ?_));refine dP (mB (gT (mI (gT ?_))));refine ct ?_;refine fi ?_;refine aa (cT (ao (ai (ah (aq (sr (mI (aI (aa (ah (aq ?_)))))))))));refine IP zL2 14
      (fun f w'=>∃fr:Nat,fr≤en∧f=.int .i64 fr∧cM p j m=(p.drop fr).take (en-fr)∧(∀t∈p.take fr,kp j t<m)∧Hp w [.blk b10 24 [.int .i64 ov,.slice oA on oc] (0,0),.row oA on oc 80 4 (aA TR.cells (de q.ts sub p j i).2),.blk b8 24 [.int .i64 0,.slice none 0 0] (0,0)] w') ?_ ?_
     ·refine aW zL2 14
       (fun f w'=>∃fr:Nat,fr≤en∧f=.int .i64 fr∧(∀t∈(p.drop fr).take (en-fr),kp j t=m)∧Hp w [.blk b10 24 [.int .i64 ov,.slice oA on oc] (0,0),.row oA on oc 80 4 (aA TR.cells (de q.ts sub p j i).2),.blk b8 24 [.int .i64 0,.slice none 0 0] (0,0)] w')
       (fun f _=>(intOf f).toNat) ?_ ?_
      ·exact ⟨en,V9 _,rfl,(fun t ht=>by rw [Xc] at ht;cases ht),hh⟩
      ·clear hh;rintro ρ' f w' ⟨fr,hfr,rfl,hmid,hh⟩;by_cases h0:0<fr
       ·obtain ⟨fr,rfl⟩:∃g,fr=g+1:=⟨fr-1,VZ⟩;obtain ⟨x,hx⟩:=al (l:=p) (k:=fr) VZ;obtain ⟨ad,rfl,hr⟩:=hS.at_ VZ;obtain ⟨e,hex,hxe,h8⟩:=hsr.get VZ (Wb hx);by_cases hem:e.toNat=m
        ·refine ah (sr (mI ?_));refine bH (mB (gT (mL (gT (mI (gT ?_))))));refine dQ (gT ?_);refine cK (k:=fr) a9.out aJ.size rfl rfl VZ VZ V0 ?_;refine gT ?_;refine s7 ?_;refine aH rfl rfl ?_;refine bX aJ.out rfl (((hr.ext hh.below).recAt TR.len hx).cell (i:=0) rfl) V0 ?_;refine gT (mI (gT ?_));refine kW ?_;refine gT ?_;refine wH ?_;refine gT (mI (gT ?_));refine ct ?_;refine fi ?_;refine aa (cT (ao (ai (aq (ak (mI ?_))))));refine dQ (aI (az (bF (ai ?_))));refine ⟨⟨fr,VZ,by show Value.int .i64 (((fr+1:Nat):Int)-1)=_;congr 1;omega,fun t ht=> ?_,hh⟩,by show (((fr+1:Nat):Int)-1).toNat<((fr+1:Nat):Int).toNat;omega, ?_⟩
         ·rw [ix hx,show en-fr=(en-(fr+1))+1 by omega,Zr] at ht
          rcases Wp.1 ht with rfl|ht
          ·rw [hxe,hem]
          ·exact hmid t ht
         ·exact dF
        ·have hlt:e.toNat<m:=by
          have:=hlo x (by rw [show en=(fr+1)+(en-(fr+1)) by omega,List.take_add];exact X5 _ (by rw [ay hx];exact XU _ Wj));omega
         have hall:=GC hmono hx (n:=m) (by rw [hxe];exact hlt);refine ah (sr (mI ?_));refine bH (mB (gT (mL (gT (mI (gT ?_))))));refine dQ (gT ?_);refine cK (k:=fr) a9.out aJ.size rfl rfl VZ VZ V0 ?_;refine gT ?_;refine s7 ?_;refine aH rfl rfl ?_;refine bX aJ.out rfl (((hr.ext hh.below).recAt TR.len hx).cell (i:=0) rfl) V0 ?_;refine gT (mI (gT ?_));refine kW ?_;refine gT ?_;refine wH ?_;refine gT (mI (gT ?_));refine ct ?_;refine fi ?_;refine aa (cF (aZ (aC (aC (br (ai ?_))))));refine ⟨⟨fr+1,hfr,rfl,Bh hfr hall hmid (fun t ht=>by have:=hhi t ht;omega),hall,hh⟩, ?_⟩;exact dF
       ·obtain rfl:fr=0:=VZ;refine ah (sr (mI ?_));refine bH (mB ?_);refine gS (gS (gS (gS (gS ?_))));refine jg ?_;refine gS (gS (gS (gS (gS ?_))));refine dR ?_;refine aa (cF (aZ (aC (aC (br (ai ?_))))));refine ⟨⟨0,hfr,rfl,Bh hfr (fun t ht=>by cases ht) hmid (fun t ht=>by have:=hhi t ht;omega),(fun t ht=>by cases ht),hh⟩, ?_⟩;exact dF
     ·skip;clear hh;rintro ρ' f w' ⟨fr,hfr,rfl,hwi,hbl,hh⟩;have hnx:de q.ts sub p j (i+1)=jI q.ts sub p j m (de q.ts sub p j i):=by rw [uS,hm]
      have hop:=hlim2 i VZ he.symm;unfold jI at hnx;rw [V6 (by rw [←he];decide)] at hnx;have hmi:m=128-(i+1):=VZ;have hmi2:(127-((i+1:Nat):Int))=(m:Int)-1:=VZ;have hdf:∀t∈p.drop fr,m≤kp j t:=fun t ht=>by
       rw [IL hfr] at ht
       rcases W3.1 ht with ht|ht
       ·rw [←hwi] at ht;have:=XQ (XI.1 ht).2;omega
       ·have:=hhi t ht;omega
      have hst:(de q.ts sub p j i)=(0,(de q.ts sub p j i).2):=by rw [he]
      generalize (de q.ts sub p j i).2=os at*;have hoc:on≤oc:=hh.eZ (i:=1) rfl;have hon:os.length=on:=(hh.aD (i:=1) rfl).bE TR.len V0;have hwl:(cM p j m).length=en-fr:=by rw [hwi,Ww,Xu];omega
      by_cases hsk:os.length=0∧(cM p j m).length=0
      ·rw [V5 hsk] at hnx;obtain ⟨h1,h2⟩:=hsk;obtain rfl:on=0:=VZ;obtain rfl:fr=en:=VZ;refine ah (sr (bC ?_));refine bA hh 0 ?_;refine aF ?_;refine ct (mB (gT (mI (gT (mI (gT ?_))))));refine ct ?_;refine fi ?_;refine aa (cT (aZ (aC (br (ai (ak (mI ?_)))))));refine dQ (aI (az (ai ?_)));refine ⟨⟨i+1,fr,0,ov,oA,0,oc,os,VZ,by rw [hmi2];rfl,rfl,rfl,by rw [hnx];exact he,hen,fun _=>⟨rfl,by rw [hnx,hst],fun t ht=>by rw [←hmi];exact hbl t ht,fun t ht=>by rw [←hmi];exact hdf t ht⟩,hh⟩,by show ((m:Int)-1+1).toNat<((m:Int)+1).toNat;omega, ?_⟩;exact dF
      ·rw [V6 hsk] at hnx;refine Ht [70,71,72,73,74,75,76,77,78]
        (fun w'=>Hp w [.blk b10 24 [.int .i64 ov,.slice oA on oc] (0,0),.row oA on oc 80 4 (aA TR.cells os),.blk b8 24 [.int .i64 0,.slice none 0 0] (0,0)] w') ?_ ?_
       ·by_cases h0:on=0
        ·subst h0;have hne:fr≠en:=fun h=>hsk ⟨hon,VZ⟩;refine sr (bC ?_);refine bA hh 0 ?_;refine aF ?_;refine ct (mB (gT (mI (gT (mI (gT ?_))))));refine ct ?_;refine fi ?_;refine aa (cF (ao (ai ?_)));refine ⟨hh, ?_⟩;exact MV
        ·refine sr (bC ?_);refine bA hh 0 ?_;refine aF ?_;refine ct (mB ?_);refine gS (gS (gS ?_));refine dR ?_;refine aa (cF (ao (ai ?_)));refine ⟨hh, ?_⟩;exact MV
       ·skip;clear hh;rintro ρ' w' hh;obtain ⟨lad,rfl,hlr⟩:=hL.at_ VZ;have hlp:gC [⟨ov,oA,on,oc,os⟩,q]=0:=qb hop.e (by unfold PX.e;rw [hqv];exact hqk.e) hqv;have hmu:∀(A2:Option Addr) (w1:World),er w1→Sl w1 A2 2 2 (aA PX.cells [⟨ov,oA,on,oc,os⟩,q])→Sl w1 oA on 4 (aA TR.cells os)→Below w.heap.size w w1→Calls Tryz.prog 178 #[.slice A2 2 2] w1 fun r w'=>∃g:PX,fL (fR os q.ts) ov (aM (df os q.ts)) g∧r=.returned (.tuple #[.agg #[.int .i64 g.v,.slice g.A g.n g.c],.int .i64 (fR os q.ts)])∧Hp w1 [g.row] w':=fun A2 w1 hT1 s1 s2 hb=>by
         have h1:=Ac A2 2 2 [⟨ov,oA,on,oc,os⟩,q] 440000 505536 w1 hT1 s1 V0 V0 (fun g hg=>by
          rcases Wp.1 hg with rfl|hg
          ·exact s2
          ·rw [Wu.1 hg];exact (hat q (Wb hqj)).ext hb) (fun g hg=>by
          rcases Wp.1 hg with rfl|hg
          ·exact ⟨by have:=hop.len;show on≤1000000;omega,hoc,hop.ok,hop.sz⟩
          ·rw [Wu.1 hg];exact ⟨hql.n,hql.cap,hql.ok.mono hK,hql.sz⟩) V0 V0
         unfold Fe at h1;rw [V5 hlp] at h1;exact h1
        refine sr ?_;refine bJ hh ?_;intro b15 w15 hh;refine aa (ah (ah ?_));refine eC [] [9] [0,0,0,6,14,31,63,127,255,255,511,2047] 10 [[(10,none)],[(2,none)],[(1,none)],[(81,some 1),(82,some 2)],[(83,some 3)],[(80,some 0),(84,some 4)],[(85,some 5)],[(86,some 6)],[(79,some 7)],[(79,some 7)]] [(9,88),(8,87),(7,79),(6,86),(5,85),(4,84),(3,83),(2,82),(1,81),(0,80)] hh mixed V2 eX rfl (by repeat (first|exact cD|refine bT ?_|refine cE ?_)) ?_;refine eJ 1 [_,_] ?_;refine fD ?_;refine dn ?_;refine nC (j) ?_;refine qK [_,_] (fun _ hj=>(hlr.ext hj.hp.below).recAt PX.len hqj) ?_;refine aP (i:=5) (iV 2 2 (aA PX.cells [⟨ov,oA,on,oc,os⟩,q])) (iV.ext) ?_ ?_
        ·intro ρ1 w1 hj hR;exact je (sz:=2) a9.out aJ.out (show wB ρ1 [(0,.tmp 80),(1,.tmp 84)]=[(0,.agg #[.int .i64 ov,.slice oA on oc]),(1,.agg #[.int .i64 q.v,.slice q.A q.n q.c])] from aV (show ρ1 80=_ from hR.1) (aV (show ρ1 84=_ from hR.2.1) bW)) rfl rfl V0 V0 rfl fun v w2 h hb=>⟨hb,h⟩
        refine aP (i:=6) (j8 hh.sz (fR os q.ts) ov (aM (df os q.ts))) (j8.ext) ?_ ?_
        ·intro ρ1 w1 hj hR;obtain ⟨g85,e85,o85⟩:=hR.1;exact let ⟨b,e1,s1⟩:=hR.1;bf rfl (aQ au.out (aw e1 a8)) (hmu _ w1 (hT.hp hj.hp) s1 (hj.hp.aD (i:=2) rfl) hj.hp.below) (fun _ _ ⟨g,og,hq,h3⟩=>⟨_,hq,h3.below,g,w1,rfl,og,hj.bl.size,h3⟩)
        refine aP (i:=7) (j8 hh.sz (fR os q.ts) ov (aM (df os q.ts))) (j8.ext) ?_ ?_
        ·exact QO
        refine aP (i:=8) (pR hh.sz (fR os q.ts) ov (aM (df os q.ts))) (pR.ext) ?_ ?_
        ·exact Rs
        refine aP (i:=9) (Is (.int .i64 (fR os q.ts))) (Is.ext) ?_ ?_
        ·exact R4
        refine aG ?_;intro f W hJ hV _;have hb_15:=hJ.bl;obtain ⟨v88,v87,v79,v86,v85,v84,v83,v82,v81,v80,_⟩:=hV;obtain ⟨g85,e85,o85⟩:iV 2 2 (aA PX.cells [⟨ov,oA,on,oc,os⟩,q]) (f 5) W:=v85;obtain ⟨g86,u86,e86, -⟩:=v86;obtain ⟨g79,u79,e79, -⟩:=v79;obtain ⟨g87,u87,e87,o87,q87,h87⟩:=v87;replace hh:=JJ.Mn hJ hh q87 h87;refine aU (bg (ae v88 (ae e87 (ae e79 (ae e86 (ae e85 (ae v84 (ae v83 (ae v82 (ae v81 (ae v80 aT))))))))))) ?_;dsimp only [bI];clear e85 e86 e79 e87 hJ;simp only [Wf,Wd] at hh;obtain ⟨gv,gA,gn,gc,gts⟩:=g87;replace hh:=show Hp w (.row gA gn gc 80 4 (aA TR.cells gts)::_) W from hh;by_cases hte:fR os q.ts=0
        ·rw [V6 (by rw [hte];decide)] at hnx;rw [hte] at o87;obtain rfl:ov=gv:=o87.v.symm;obtain rfl:aM (df os q.ts)=gts:=o87.ts.symm;have hgc:gn≤gc:=hh.eZ (i:=0) rfl;have hgl:(aM (df os q.ts)).length=gn:=(hh.aD (i:=0) rfl).bE TR.len V0;have hgo:=Fu hop hqk hqT hte VZ;refine bL hh 2 [_,_] ?_;intro ws hh;replace hh:Hp _ (_::_::.blk _ _ [_,_] _::_) _:=hh;refine aI (aa (sr (mI ?_)));refine ct (aa (cT (ak (mL (mI (mI ?_))))));dsimp only at hh;refine aR rfl rfl V0 (gU (lo:=some (.tmp 93)) (hi:=some (.tmp 94)) (l:=fr) (h:=en) a9.out aJ.size rfl ⟨_,_,rfl,rfl⟩ ⟨_,_,rfl,rfl⟩ hfr VZ) ?_;refine mI ?_;refine bj (mL (mI ?_));refine aE (hrec m fr en _ (hT.hp hh) hh.below hfr hen hwi) au.out rfl V0 ?_;rintro e_ w100 ⟨g2,og2,rfl,h4⟩;refine ⟨_,rfl, ?_⟩;replace hh:=hh.join h4;simp only [Wf,Wd] at hh;have hs2:=hsub m;obtain ⟨hv2,hA2,hn2,hc2,ht2⟩:=g2;replace hh:=show Hp w (.row hA2 hn2 hc2 80 4 (aA TR.cells ht2)::_) _ from hh;by_cases hE2:(sub (cM p j m)).1=0
         ·rw [V6 (by rw [hE2];decide)] at hnx;rw [hE2] at og2;obtain rfl:ov=hv2:=og2.v.symm;obtain rfl:(sub (cM p j m)).2=ht2:=og2.ts.symm;have ho2:=hs2 hE2;have hc2c:hn2≤hc2:=hh.eZ (i:=0) rfl;have hl2:((sub (cM p j m)).2).length=hn2:=(hh.aD (i:=0) rfl).bE TR.len V0;generalize (sub (cM p j m)).2=us at*;refine mT ?_;refine dE ?_;refine dE ?_;refine bL hh 2 [_,_] ?_;intro ws hh;replace hh:Hp _ (_::_::.blk _ _ [_,_] _::_) _:=hh;refine aI (aa (ah (sr (mI ?_))));refine ct (aa (cT (ak ?_)));refine bY hh 3 [_,_] ?_;refine bY hh 2 [_,_] ?_;refine Fq ?_;intro b108 w108 hh;dsimp only at hh;have hlp2:gC [⟨ov,gA,gn,gc,aM (df os q.ts)⟩,⟨ov,hA2,hn2,hc2,us⟩]=0:=qb hgo.e ho2.e rfl;have had:=oU (some ⟨b108,0,none⟩) 2 2 [⟨ov,gA,gn,gc,aM (df os q.ts)⟩,⟨ov,hA2,hn2,hc2,us⟩] 2000000 _ (hT.hp hh) (hh.aD (i:=0) rfl) V0 (fun g hg=>by
           rcases Wp.1 hg with rfl|hg
           ·exact hh.aD (i:=2) rfl
           ·rw [Wu.1 hg];exact hh.aD (i:=1) rfl) (fun g hg=>by
           rcases Wp.1 hg with rfl|hg
           ·exact ⟨by have:=hgo.len;show gn≤1000000;omega,hgc,hgo.ok.mono VZ,hgo.sz⟩
           ·rw [Wu.1 hg];exact ⟨by have:=ho2.len;show hn2≤1000000;omega,hc2c,ho2.ok.mono VZ,ho2.sz⟩) V0
          unfold Hq at had;rw [V5 hlp2,Jg] at had;dsimp only at had;refine aE (had) au.out rfl V0 ?_;rintro e_ w109 ⟨g3,og3,rfl,h5⟩;refine ⟨_,rfl, ?_⟩;replace hh:=hh.join h5;simp only [Wf,Wd] at hh;obtain ⟨hv3,hA3,hn3,hc3,ht3⟩:=g3;replace hh:=show Hp w (.row hA3 hn3 hc3 80 4 (aA TR.cells ht3)::_) _ from hh;refine mT ?_;refine dE ?_;refine dE ?_;refine bL hh 5 [_,_] ?_;intro ws hh;replace hh:Hp _ (_::_::_::_::_::.blk _ _ [_,_] _::_) _:=hh;refine aI (aa (ak (mI (aI (az (bF (ai (ak (mI ?_)))))))));refine dQ (aI (az (ai ?_)));replace hh:=hh.sub (V7 _ (Wa _ (Wa _ (Wa _ (Wa _ (V7 _ (Wa _ (V7 _ Wx))))))));replace hh:=hh.perm (WZ (l₁:=[_]));simp only [Wf,Wd] at hh;try dsimp only at hh
          refine ⟨⟨i+1,fr,im (aM (df os q.ts)++us),hv3,hA3,hn3,hc3,ht3,VZ,by rw [hmi2];rfl,rfl,rfl, ?_,VZ,fun h=>⟨?_, ?_,fun t ht=>by rw [←hmi];exact hbl t ht,fun t ht=>by rw [←hmi];exact hdf t ht⟩,hh⟩,by show ((m:Int)-1+1).toNat<((m:Int)+1).toNat;omega, ?_⟩
          ·rw [hnx];by_cases hg:im (aM (df os q.ts)++us)≠0
           ·rw [V5 hg]
           ·rw [V6 hg];omega
          ·have:=og3.v;rw [V5 h] at this;exact this
          ·rw [hnx,V6 (by rw [h];decide)];have:=og3.ts;rw [V5 h] at this;exact this
          ·exact dF
         ·rw [V5 hE2] at hnx;refine mT ?_;refine dE ?_;refine dE ?_;refine bL hh 2 [_,_] ?_;intro ws hh;replace hh:Hp _ (_::_::.blk _ _ [_,_] _::_) _:=hh;refine aI (aa (ah (sr (mI ?_))));refine ct (aa (cF (ao (ai (ak (mI (aI (az (bF (ai (ak (mI ?_))))))))))));refine dQ (aI (az (ai ?_)));replace hh:=hh.sub (Wa _ (V7 _ (Wa _ (V7 _ (Wa _ (V7 _ Wx))))));replace hh:=hh.perm (WZ (l₁:=[_]));simp only [Wf,Wd] at hh;refine ⟨⟨i+1,fr,_,ov,gA,gn,gc,aM (df os q.ts),VZ,by rw [hmi2];rfl,rfl,rfl,by rw [hnx],VZ,fun h=>absurd h hE2,hh⟩,by show ((m:Int)-1+1).toNat<((m:Int)+1).toNat;omega, ?_⟩;exact dF
        ·rw [V5 hte] at hnx;refine bL hh 2 [_,_] ?_;intro ws hh;replace hh:Hp _ (_::_::.blk _ _ [_,_] _::_) _:=hh;refine aI (aa (sr (mI ?_)));refine ct (aa (cF (ao (ai (ah (sr (mI ?_)))))));refine ct (aa (cF (ao (ai (ak (mI (aI (az (bF (ai (ak (mI ?_))))))))))));refine dQ (aI (az (ai ?_)));replace hh:=hh.sub (V7 _ (Wa _ (V7 _ (Wa _ (V7 _ Wx)))));replace hh:=hh.perm (WZ (l₁:=[_]));simp only [Wf,Wd] at hh;refine ⟨⟨i+1,fr,fR os q.ts,gv,gA,gn,gc,gts,VZ,by rw [hmi2];rfl,rfl,rfl,by rw [hnx],VZ,fun h=>absurd h hte,hh⟩,by show ((m:Int)-1+1).toNat<((m:Int)+1).toNat;omega, ?_⟩;exact dF
    ·have hfin:de q.ts sub p j 128=de q.ts sub p j i:=by
      by_cases h8:i=128
      ·rw [h8]
      ·exact ra VZ hi
     rw [hfin];by_cases he0:e=0
     ·subst he0;obtain ⟨rfl,rfl, -, -⟩:=hok0 rfl;clear hok0 hfin;generalize de q.ts sub p j i=X at*;obtain rfl:i=128:=VZ;rw [←he];refine ah (sr (mI ?_));refine dP (mB ?_);refine gS (gS ?_);refine dR ?_;refine aa (cF (aZ (aC (aC (br (ai (ah (sr (mI ?_)))))))));refine te ?_;refine bY hh 0 [_,_] ?_;refine bL hh 2 [_,_] ?_;intro ws hh;replace hh:Hp _ (_::_::.blk _ _ [_,_] _::_) _:=hh;refine aI (aa (av ?_));refine px ?_;exact ⟨⟨ov,oA,on,oc,_⟩,⟨rfl,rfl⟩,rfl,hh.sub (.cons _ (V7 _ (Xq _)))⟩
     ·rw [←he];clear hok0 hfin;generalize de q.ts sub p j i=X at*;by_cases h8:i=128
      ·subst h8;refine ah (sr (mI ?_));refine dP (mB ?_);refine gS (gS ?_);refine dR ?_;exact S7
      ·refine ah (sr (mI ?_));refine dP (mB (gT (mI (gT ?_))));refine ct ?_;refine fi ?_;exact S7
def fM (p:PX) (ls:List PX):Int×List TR:=
 if p.e≠0 then (p.e,[]) else if (ls.length:Int)≠p.v then (1,[]) else if ls.length≠0∧gC ls≠0 then (gC ls,[]) else jE (gm ls) (ls.map PX.ts) 0 p.ts
theorem De (f:PX) (p:Addr) (x:Int) (w:World) (hp:w.cell? p=some (.int .i64 x)):
  Calls Tryz.prog 140 #[.agg #[.int .i64 f.v,.slice f.A f.n f.c],.pointer (some p)] w fun r w'=>r=.returned (.bool (decide (f.v≠x)))∧Below w.heap.size w w':=by
 have hh:=Hp.start w;by_cases hg:f.v=x
 ·refine aj (N:=8) (l:=[.agg #[.int .i64 f.v,.slice f.A f.n f.c],.pointer (some p)]) Tryz.func140 rfl rfl (by simp) ?_;refine sr ?_;refine bV hh [_,_] ?_;intro b2 w2 hh;refine aB (aa (sr (bC ?_)));refine bA hh 0 ?_;refine bX aJ.out rfl ((hh.below.cell (l0 hp)).trans hp) V0 ?_;exact Pp
 ·refine aj (N:=8) (l:=[.agg #[.int .i64 f.v,.slice f.A f.n f.c],.pointer (some p)]) Tryz.func140 rfl rfl (by simp) ?_;refine sr ?_;refine bV hh [_,_] ?_;intro b2 w2 hh;refine aB (aa (sr (bC ?_)));refine bA hh 0 ?_;refine bX aJ.out rfl ((hh.below.cell (l0 hp)).trans hp) V0 ?_;exact PI
structure Uo (p:PX) (ls:List PX) (k K T c0:Nat) (ds:List Nat):Prop where
 len:ds.length=ls.length
 UA:∀(i d:Nat),ds[i]?=some d→d≤127∧∀t∈p.ts,kp i t≤d
 grow:gH c0 ds (k+1)≤440000
 step:K+4096*T+8192≤c0
 top:c0≤440000
 km:∀g∈ls,g.km K
 Rq:∀g∈ls,g.ts.length≤T
theorem KW {v:Int} (h:ko v ts=0):Ki v 0 ts:=by
 obtain ⟨_,_,h3,h4⟩:=dH h;exact ⟨h4.sB,h3,fun a _ b _=>by rw [XS,XS]⟩
theorem qC (p:PX) (lA:Option Addr) (lc:Nat) (ls:List PX) (k K T c0:Nat) (ds:List Nat) (w:World) (hT:er w) (hp:p.at_ w) (lp:p.km k) (hL:Sl w lA ls.length 2 (aA PX.cells ls)) (hat:∀g∈ls,g.at_ w) (hlc:ls.length≤lc) (hf:Uo p ls k K T c0 ds):
  Calls Tryz.prog 91 #[.agg #[.int .i64 p.v,.slice p.A p.n p.c],.slice lA ls.length lc] w fun r w'=>∃g:PX,fL (fM p ls).1 (gm ls) (fM p ls).2 g∧r=.returned (.tuple #[.agg #[.int .i64 g.v,.slice g.A g.n g.c],.int .i64 (fM p ls).1])∧Hp w [g.row] w':=by
 have hh:=Hp.start w;have hck:=fun w1 hT1 hb=>nT p k w1 hT1 (hp.ext hb) lp;unfold fM;by_cases h0:p.e≠0
 ·rw [V5 h0];generalize p.e=e at*;refine aj (N:=54) (l:=[.agg #[.int .i64 p.v,.slice p.A p.n p.c],.slice lA ls.length lc]) Tryz.func91 rfl rfl (by simp) ?_;refine sr ?_;refine bV hh [_,_] ?_;intro b2 w2 hh;refine bJ hh ?_;intro b4 w4 hh;refine aI (aa (ah (sr ?_)));refine bY hh 1 [_,_] ?_;refine eQ ?_;intro w12 hh;exact MU
 ·rw [V6 h0];have hpe:p.e=0:=VZ;rw [hpe] at hck;by_cases h1:(ls.length:Int)≠p.v
  ·rw [V5 h1];refine aj (N:=54) (l:=[.agg #[.int .i64 p.v,.slice p.A p.n p.c],.slice lA ls.length lc]) Tryz.func91 rfl rfl (by simp) ?_;refine sr ?_;refine bV hh [_,_] ?_;intro b2 w2 hh;refine bJ hh ?_;intro b4 w4 hh;refine aI (aa (ah (sr ?_)));refine bY hh 1 [_,_] ?_;refine eQ ?_;intro w12 hh;refine aI (aa (sr (mI ?_)));refine rB ?_;refine bA hh 1 ?_;refine cY (aa (cT (sr ?_)));exact ME
  ·rw [V6 h1];obtain ⟨hfw,h4,hmy,hca⟩:=dH hpe;replace hfw:=jy.1 hfw;have hl12:ls.length≤12:=VZ;have hpl:=hp.ln;have hsr:=KW hpe;have hput:=fun (v:Int) (hv:jo v=true) (hz:∀g∈ls,ko v g.ts=0) (hvv:∀g∈ls,g.v=v) w1 hT1 hb=>Da lA lc K T c0 v ls hv hlc hl12 (fun g hg=>⟨⟨hz g hg,(hf.km g hg).ok,(hf.km g hg).sz⟩,hvv g hg,hf.km g hg,hf.Rq g hg⟩) hf.step hf.top ls 0 p.ts p.A p.n p.c ds k w1 rfl (V8 _) hT1 (hL.ext hb) (fun g hg=>(hat g hg).ext hb) (hp.ext hb) lp.cap (by rw [show ((ls.length:Nat):Int)=p.v by omega];exact hsr) lp.ok VZ hf.len (fun i d h=>by rw [Ws];exact hf.UA i d h) hf.grow;by_cases hn:ls=[]
   ·subst hn;rw [V6 (fun h=>h.1 rfl)];have hpu:=hput 0 rfl (fun g hg=>by cases hg) (fun g hg=>by cases hg);refine aj (N:=54) (l:=[.agg #[.int .i64 p.v,.slice p.A p.n p.c],.slice lA 0 lc]) Tryz.func91 rfl rfl (by simp) ?_;refine sr ?_;refine bV hh [_,_] ?_;intro b2 w2 hh;refine bJ hh ?_;intro b4 w4 hh;refine aI (aa (ah (sr ?_)));refine bY hh 1 [_,_] ?_;refine eQ ?_;intro w12 hh;refine aI (aa (sr (mI ?_)));refine rB ?_;refine bA hh 1 ?_;refine te ?_;refine bJ hh ?_;intro b7 w7 hh;refine bL hh 0 [_] ?_;intro ws hh;replace hh:Hp _ (.blk _ _ [_] _::_) _:=hh;refine aa (ah (sr (mL (aF ?_))));refine bH (aa (cF (ao (ai (sr (bC ?_))))));refine bA hh 2 ?_;refine mL ?_;refine bA hh 0 ?_;replace hh:=show Hp w (.blk b7 3 [.int .i64 0] (0,0)::_) _ from hh;exact P6
   ·have hlp0:0<ls.length:=List.length_pos_iff.2 hn;obtain ⟨lad,rfl,hlr⟩:=hL.at_ hlp0;refine aj (N:=54) (l:=[.agg #[.int .i64 p.v,.slice p.A p.n p.c],.slice (some lad) ls.length lc]) Tryz.func91 rfl rfl (by simp) ?_;refine sr ?_;refine bV hh [_,_] ?_;intro b2 w2 hh;refine bJ hh ?_;intro b4 w4 hh;refine aI (aa (ah (sr ?_)));refine bY hh 1 [_,_] ?_;refine eQ ?_;intro w12 hh;refine aI (aa (sr (mI ?_)));refine rB ?_;refine bA hh 1 ?_;refine te ?_;refine bJ hh ?_;intro b7 w7 hh;refine bL hh 0 [_] ?_;intro ws hh;replace hh:Hp _ (.blk _ _ [_] _::_) _:=hh;refine aa (ah (sr (mL (aF ?_))));refine bH (aa (cT (ah (sr (mL (aF (mI (aa (aq ?_)))))))));replace hh:=show Hp w (.blk b7 3 [.int .i64 0] (0,0)::_) _ from hh;refine aW [5,9,10,28,29,30,31,32,33,34,35,36,37,38] 28
     (fun v w'=>∃i:Nat,i≤ls.length∧v=.int .i64 i∧(ls.take i).any (fun g=>decide (g.e≠0))=false∧Hp w [.blk b7 3 [.int .i64 0] (0,0),.blk b4 24 [.int .i64 0,.slice none 0 0] (0,0),.blk b2 24 [.int .i64 p.v,.slice p.A p.n p.c] (0,0)] w')
     (fun v _=>ls.length-(intOf v).toNat) ?_ ?_
    ·exact ⟨0,V8 _,rfl,rfl,hh⟩
    ·clear hh;rintro ρ' v w' ⟨i,hi,rfl,hall,hh⟩;by_cases hlt:i<ls.length
     ·obtain ⟨g,hx⟩:=al (l:=ls) (k:=i) hlt;have hmem:=Wb hx;have hc:=fun w1 hT1 hb=>nT g K w1 hT1 ((hat g hmem).ext hb) (hf.km g hmem);by_cases he:g.e=0
      ·refine sr ?_;refine eb ?_;refine cA ?_;refine cz (vs:=[_,_]) aJ.out rfl ((hlr.ext hh.below).recAt PX.len hx) rfl V0 ?_;refine bJ hh ?_;intro b9 w9 hh;refine bL hh 0 [_,_] ?_;intro ws hh;replace hh:Hp _ (.blk _ _ [_,_] _::_) _:=hh;refine aa (sr ?_);refine bY hh 0 [_,_] ?_;refine bq hh (hc _ (hT.hp hh) hh.below) rfl ?_;intro w33 hh;refine aI (aa (sr (mI ?_)));refine cY (aa (cF (ao (bF (ai (ak ?_))))));refine bj (mI (az (ai ?_)));replace hh:=hh.sub (Wa _ (V7 _ (V7 _ (V7 _ Wx))));refine ⟨⟨i+1,VZ,rfl,by rw [ay hx,YN,hall,YF,YS,WG VZ];rfl,hh⟩,by show ls.length-(i+1)<ls.length-i;omega, ?_⟩;exact dF
      ·have hlk:gC ls=g.e:=by unfold gC;rw [wg hall hx (Wr he)]
       rw [V5 ⟨VZ,by rw [hlk];exact he⟩,hlk];refine sr ?_;refine eb ?_;refine cA ?_;refine cz (vs:=[_,_]) aJ.out rfl ((hlr.ext hh.below).recAt PX.len hx) rfl V0 ?_;refine bJ hh ?_;intro b9 w9 hh;refine bL hh 0 [_,_] ?_;intro ws hh;replace hh:Hp _ (.blk _ _ [_,_] _::_) _:=hh;refine aa (sr ?_);refine bY hh 0 [_,_] ?_;refine bq hh (hc _ (hT.hp hh) hh.below) rfl ?_;intro w33 hh;refine aI (aa (sr (mI ?_)));refine cY (aa (cT (sr ?_)));refine fe [_,_] (mI ?_);refine bL hh 2 [_,_] ?_;intro ws hh;replace hh:Hp _ (_::_::.blk _ _ [_,_] _::_) _:=hh;refine aI (aa (av (cm (aK (aK (cm (aK (aK ?_))))))));refine px ?_;exact Lw
     ·rw [Wc VZ] at hall;have hlk:gC ls=if ls.length=0∨yf ls=true then 1 else 0:=by unfold gC;rw [jY hall]
      obtain ⟨g0,h00⟩:=al (l:=ls) (k:=0) hlp0;have hhv:gm ls=g0.v:=by
       cases ls with
       |nil=>cases hlp0
       |cons x l=>cases h00;rfl
      have hall0:∀g∈ls,g.e=0:=fun g hg=>by
       have:=Ya.1 hall g hg;simpa using this
      refine sr ?_;refine oE ?_;refine D9 ?_;refine s7 ?_;refine bX aJ.out rfl (((hlr.ext hh.below).recAt PX.len h00).cell (i:=0) rfl) V0 ?_;refine bL hh 0 [_] ?_;intro ws hh;replace hh:Hp _ (.blk _ _ [_] _::_) _:=hh;refine aa (sr (mL ?_));refine wh ?_;replace hh:=show Hp w (.blk b7 3 [.int .i64 g0.v] (0,0)::_) _ from hh;rw [←hhv] at hh;have hcell:World.cell? _ ⟨b7,0,none⟩=some (.int .i64 (gm ls)):=hh.dO (i:=0) rfl rfl;have hoa:=fun w1 hb=>tr (some lad) ls.length lc ls 140 [.pointer (some ⟨b7,0,none⟩)] (fun g=>decide (g.v≠gm ls)) w1 (hL.ext (hh.below.trans (hb.mono hh.below.size))) VZ (fun z w2 hz hb2=>De z ⟨b7,0,none⟩ (gm ls) w2 (cO hb2 (cO hb hcell)))
      cases hod:yf ls with
      |true=>
       have hod2:ls.any (fun g=>decide (g.v≠gm ls))=true:=hod;rw [hod2] at hoa;have hl1:gC ls=1:=by rw [hlk,V5 (.inr hod)]
       rw [V5 ⟨VZ,by rw [hl1];decide⟩,hl1];refine bq hh (hoa _ (Below.refl _ _)) rfl ?_;intro w45 hh;refine aa (cT (sr ?_));refine fe [_,_] ?_;refine bL hh 1 [_,_] ?_;intro ws hh;replace hh:Hp _ (_::.blk _ _ [_,_] _::_) _:=hh;refine aI (aa (av (aK ?_)));refine Fj ?_;exact ⟨PX.nil,fL.err V0,rfl,(hh.sub (Xq _)).CU⟩
      |false=>
       have hod2:ls.any (fun g=>decide (g.v≠gm ls))=false:=hod;rw [hod2] at hoa;have hl0:gC ls=0:=by
        rw [hlk,V6 (fun h=>h.elim (fun h=>by omega) fun h=>by rw [hod] at h;cases h)]
       rw [V6 (fun h=>h.2 hl0)];have hvv:=(xQ hl0).2.2;have hg0:=hall0 g0 (Wb h00);unfold PX.e at hg0;have hpu:=hput (gm ls) (by rw [hhv];exact (dH hg0).1) (fun g hg=>by rw [←hvv g hg];exact hall0 g hg) hvv;refine bq hh (hoa _ (Below.refl _ _)) rfl ?_;intro w45 hh;refine rV ?_;refine bA hh 2 ?_;refine mL ?_;refine bA hh 0 ?_;exact P6
theorem Gi {o p:PX}{os ls:List PX} (hv:o.v=p.v) (ht:o.ts=p.ts) (h:os.map PX.norm=ls.map PX.norm):fM o os=fM p ls∧gm os=gm ls:=by
 have h1:gC os=gC ls:=by rw [←xO,h,xO]
 have h2:gm os=gm ls:=by rw [←tG,h,tG]
 have h3:os.length=ls.length:=by have:=Xm List.length h;rwa [Wi,Wi] at this
 have h4:os.map PX.ts=ls.map PX.ts:=by
  have:=Xm (List.map PX.ts) h;rw [W6,W6] at this;exact this
 refine ⟨?_,h2⟩;unfold fM PX.e;rw [hv,ht,h1,h2,h3,h4]
theorem j2 {v:Int} (hv:jo v=true) (hm:∀t∈l,fY v t=true) (ho:jG k l) (hz:∀t∈l,t.m.size≤100000) (hl:l.length≤n) (hn:n≤4096) (hk:k+n≤3999990):kS v (k+n) (aM l):=
 ⟨ku hv (WK (cB _) VZ) hm,uL ho VZ VZ,sW hz⟩
def nZ (v i:Nat):List TR:=aM [⟨mz v i,nR ((1:Int):Dyadic)⟩]
def lG (v:Nat) (x:Dyadic):List TR:=aM [⟨fO v,nR x⟩]
def vF (v i:Nat) (x:Dyadic):List TR:=aM ((nZ v i).map (rl x))
def jD (v i:Nat) (s:SR):List TR:=aM (lG v s.L++vF v i (s.H-s.L))
def cw (b:List SR):List PX:=b.mapIdx fun i s=>⟨b.length,none,0,0,jD b.length i s⟩
theorem jc {v:Nat} (h:v≤12):jo (v:Int)=true:=jy.2 ⟨VZ,VZ⟩
theorem sQ {v i:Nat} (h:v≤12):kS (v:Int) 3 (nZ v i):=by
 have hs:((mz v i).size:Int)=v:=qV VZ;refine j2 (k:=2) (n:=1) (jc h) (fun t ht=> ?_) (fun t ht=> ?_) (fun t ht=> ?_) (V9 _) V0 V0
 ·rw [Wu.1 ht];unfold fY;rw [Wm,Wt];exact ⟨Bc v i,hs⟩
 ·rw [Wu.1 ht];exact ⟨Sz.one.ok V0,by show Sz 2 (nR _).d;rw [cj];exact Sz.one.mono V0⟩
 ·rw [Wu.1 ht];show (mz v i).size≤100000;omega
theorem sG {v:Nat}{x:Dyadic} (h:v≤12) (hx:Sz k x) (hk:k≤900000):kS (v:Int) (k+1) (lG v x):=xf (jc h) (by show Sz k (nR x).d;rw [cj];exact hx) hk
theorem Eb {v i:Nat}{x:Dyadic} (h:v≤12) (hx:Sz k x) (hk:k≤400000):kS (v:Int) (k+k+4) (vF v i x):=by
 have hv:=sQ (i:=i) h;have hl:((nZ v i).map (rl x)).length≤1:=by rw [Wi];exact cB _
 refine (j2 (k:=3+k) (n:=1) (jc h) (fun t ht=> ?_) (F7 hv.ok hx VZ) (fun t ht=> ?_) hl V0 VZ).mono (by
  by_cases h0:k=0
  ·omega
  ·omega)
 ·obtain ⟨s,hs,rfl⟩:=Wo.1 ht;exact (dH hv.e).2.2.1 s hs
 ·obtain ⟨s,hs,rfl⟩:=Wo.1 ht;exact hv.sz s hs
theorem qO {v i:Nat}{s:SR} (h:v≤12) (hs:s.fin k) (hk:k≤100000):kS (v:Int) (k+k+10) (jD v i s)∧(jD v i s).length≤2:=by
 have h1:=sG h (SR.Mh hs) VZ;have h2:=Eb (i:=i) h ((SR.Sf hs).sub (SR.Mh hs)) VZ;have hl:(lG v s.L++vF v i (s.H-s.L)).length≤2:=by
  rw [We];have a1:(lG v s.L).length≤1:=cB _;have a2:(vF v i (s.H-s.L)).length≤1:=WK (cB _) (by rw [Wi];exact cB _);omega
 have hm:∀{P:TR→Prop},(∀t∈lG v s.L,P t)→(∀t∈vF v i (s.H-s.L),P t)→∀t∈lG v s.L++vF v i (s.H-s.L),P t:=fun a b t ht=>(W3.1 ht).elim (a t) (b t);refine ⟨(j2 (k:=k+1+(k+1)+4) (n:=2) (jc h) (hm (dH h1.e).2.2.1 (dH h2.e).2.2.1) (hm (h1.ok.mono VZ) h2.ok) (hm h1.sz h2.sz) hl V0 VZ).mono VZ,WK (cB _) hl⟩
theorem jR {b:List SR}{i:Nat}{s:SR} (h:b[i]?=some s):(cw b)[i]?=some ⟨b.length,none,0,0,jD b.length i s⟩:=by
 unfold cw;rw [List.getElem?_mapIdx,h]
 rfl
theorem oM (b:List SR):(cw b).length=b.length:=by unfold cw;rw [List.length_mapIdx]
theorem DN {b:List SR}{g:PX} (h:g∈cw b):∃i s,b[i]?=some s∧g=⟨b.length,none,0,0,jD b.length i s⟩:=by
 obtain ⟨i,hi⟩:=Yc.1 h;obtain ⟨s,hs⟩:=al (l:=b) (k:=i) (by have:=(Wk.1 hi).1;rwa [oM] at this);rw [jR hs] at hi;exact ⟨i,s,hs,(WT hi).symm⟩
theorem Px {i:Nat} (h:n≤12) (hi:i<n):uw n i=0:=V6 (by rw [jc h];rintro (a|a|a)<;>first|cases a|omega)
theorem PU (h:n≤12):zV n=0:=V6 (by rw [jc h];decide)
theorem yQ (p:PX) (L:Option Addr) (n c:Nat) (b:List SR) (k:Nat) (ds:List Nat) (w:World) (hT:er w) (hp:p.at_ w) (lp:p.km k) (hB:Sl w L n 6 (aA SR.cells b)) (hb:∀s∈b,s.fin k) (hv:p.v=n) (hn0:0<n) (hn:n≤12) (hk:k≤1000)
  (hds:ds.length=n) (hex:∀(i d:Nat),ds[i]?=some d→d≤127∧∀t∈p.ts,kp i t≤d) (hgr:gH (k+k+16394) ds (k+1)≤440000):
  Calls Tryz.prog 44 #[.agg #[.int .i64 p.v,.slice p.A p.n p.c],.slice L n c] w fun r w'=>∃g:PX,fL (fM p (cw b)).1 n (fM p (cw b)).2 g∧r=.returned (.tuple #[.agg #[.int .i64 g.v,.slice g.A g.n g.c],.int .i64 (fM p (cw b)).1])∧Hp w [g.row] w':=by
 have hh:=Hp.start w;have hbl:b.length=n:=hB.bE SR.len V0;have hok:∀s∈b,s.ok:=fun s hs=>⟨(hb s hs).1.ok,(hb s hs).2.ok⟩;have hfo:=fun w1 hT1 hb1=>rR L n c b w1 hT1 (hB.ext hb1) hok VZ;have hhv:gm (cw b)=n:=by
  obtain ⟨s,hs⟩:=al (l:=b) (k:=0) VZ;rw [m6 (jR hs),hbl]
 refine aj (N:=67) (l:=[.agg #[.int .i64 p.v,.slice p.A p.n p.c],.slice L n c]) Tryz.func44 rfl rfl (by simp) ?_;refine sr ?_;refine bV hh [_,_] ?_;intro b2 w2 hh;refine bJ hh ?_;intro b4 w4 hh;refine aI (aa (sr (aL (aa (ah (sr (mL ?_)))))));refine aE (hfo _ (hT.hp hh) hh.below) au.out rfl V0 ?_;rintro e_ w18 ⟨A18,c18,rfl,hown_,hb_⟩;refine ⟨_,rfl, ?_⟩;replace hh:=hh.aO (x:=.row _ _ _ _ _ _) hb_ hown_;refine aF (mI (aa (aq ?_)));replace hh:=hh.cx 24 2;refine bz [6,7,8,9,10,11,12,13,14,15,16,20,21,22,23,24,25,26,27,28,29,30,31,32,33,34,35,36,37,38,39,40,41,42,43,44,45,46,47,48,49,50,51,52,53,54,55,56,57,58,59,60,61] 6 20
  (fun a v w'=>∃(i c3:Nat) (A:Option Addr) (os:List PX) (R:List HE),i≤n∧v=.int .i64 i∧a=.slice A i c3∧os.length=i∧AP ((cw b).map fun g=>⟨g.v,none,g.ts.length,0,g.ts⟩) os R∧Hp w (.row A i c3 24 2 (aA PX.cells os)::.row A18 n c18 70 6 (aA SR.cells (b.map SR.f))::.blk b4 24 [.int .i64 0,.slice none 0 0] (0,0)::.blk b2 24 [.int .i64 p.v,.slice p.A p.n p.c] (0,0)::R) w')
  (fun _ v _=>n-(intOf v).toNat) ?_ ?_
 ·exact Oz
 ·clear hh;rintro ρ' a_ v w' ⟨i,c3,A,os,R,hi,rfl,rfl,hol,hcp,hh⟩;by_cases hlt:i<n
  ·obtain ⟨s,hs⟩:=al (l:=b) (k:=i) VZ;have hsf:=hb s (Wb hs);have hsn:(b.map SR.f)[i]?=some s.f:=by rw [Wg,hs];rfl
   have zL:=SR.Mh hsf;have zH:=SR.Sf hsf;have zW:=zH.sub zL;obtain ⟨po,pl⟩:=qO (v:=n) (i:=i) hn hsf VZ;have vo:=sQ (i:=i) hn;have fo:=Eb (i:=i) hn zW VZ;have co:=sG hn zL VZ;have hva:=fun w1 hT1=>tB (n:Int) (i:Int) w1 hT1;rw [Px hn hlt] at hva;have hsu:=fun w1 hT1=>l9 (nR s.H) (nR s.L) w1 hT1 (zH.ok VZ) (zL.ok VZ) k (by rw [cj];exact zH) (by rw [cj];exact zL) VZ;rw [cj,cj] at hsu;have hcn:=fun w1 hT1=>jN (n:Int) (nR s.L) k w1 hT1 ⟨zL.ok VZ,by rw [cj];exact zL⟩ VZ;rw [PU hn] at hcn;rw [Xd] at hva;have hV:aM [⟨mz n i,nR ((1:Int):Dyadic)⟩]=nZ n i:=rfl;have hC:aM [⟨fO n,nR s.L⟩]=lG n s.L:=rfl;have hF:aM ((nZ n i).map (rl (s.H-s.L)))=vF n i (s.H-s.L):=rfl;have hP:aM (lG n s.L++vF n i (s.H-s.L))=jD n i s:=rfl;have tl1:(nZ n i).length≤1:=cB _;have ul1:(lG n s.L).length≤1:=cB _;have fl1:(vF n i (s.H-s.L)).length≤1:=WK (cB _) (by rw [Wi];exact cB _);have hps:=jR hs;rw [hbl] at hps;rw [hV] at hva;rw [hC] at hcn;clear hV hC;generalize nZ n i=VL at*;generalize lG n s.L=CL at*;generalize vF n i (s.H-s.L)=FL at*;generalize jD n i s=PL at*
   obtain ⟨gf,rfl⟩:=hh.bZ (i:=1) rfl VZ;refine sr ?_;refine dY ?_;refine fP ?_;refine cz (vs:=[_,_,_,_,_,_]) aJ.out rfl (hh.iF (f:=SR.cells) (x:=s.f) (l:=b.map SR.f) (i:=1) rfl SR.len V0 hsn) rfl V0 ?_;refine bJ hh ?_;intro b8 w8 hh;refine aI ?_;refine bL hh 0 [_,_,_,_,_,_] ?_;intro ws hh;replace hh:Hp _ (.blk _ _ [_,_,_,_,_,_] _::_) _:=hh;refine aa (sr (mL (aF (mI ?_))));replace hh:=show Hp w (.blk b8 70 [.bool (nR s.L).neg,.string (nR s.L).bk,.int .i64 (nR s.L).e,.bool (nR s.H).neg,.string (nR s.H).bk,.int .i64 (nR s.H).e] (0,0)::_) _ from hh;refine aE (hva _ (hT.hp hh)) au.out rfl V0 ?_;rintro e_ w29 ⟨t,ot,rfl,h4⟩;refine ⟨_,rfl, ?_⟩;have htc:t.n≤t.c:=h4.eZ (i:=0) rfl;replace hh:=hh.join h4;clear h4;simp only [Wf,Wd] at hh;obtain ⟨tv,tA,tn,tc,tt⟩:=t;replace hh:=show Hp w (.row tA tn tc 80 4 (aA TR.cells tt)::_) _ from hh;have et:VL=tt:=ot.t0.symm;have ev_:tv=(n:Int):=ot.v0;subst et ev_;have tln:VL.length=tn:=(hh.aD (i:=0) rfl).bE TR.len V0
   have hsc:=fun w1 hT1 ha=>yC ⟨n,tA,tn,tc,VL⟩ (nR (s.H-s.L)) (k+3) w1 hT1 ha ⟨by show tn≤1000000;omega,htc,vo.ok.mono VZ,vo.sz⟩ ⟨zW.ok VZ,by rw [cj];exact zW.mono VZ⟩ VZ;have hse:Hs ⟨n,tA,tn,tc,VL⟩ (s.H-s.L)=0:=by
    unfold Hs PX.e;rw [vo.e,V5 rfl];exact lY (by rw [Wi];show VL.length≤4096;omega)
   rw [cj,hse] at hsc;dsimp only at hsc;rw [hF] at hsc;refine mT ?_;refine dE ?_;refine dE ?_;refine bJ hh ?_;intro b9 w9 hh;refine bL hh 0 [_,_] ?_;intro ws hh;replace hh:Hp _ (.blk _ _ [_,_] _::_) _:=hh;refine aI (aa (ah ?_));refine eC [10] [9] [0,0,2,0,8,30,63,127,255,255,0,1535,4095] 11 [[(9,none)],[(8,none)],[(34,some 1)],[(8,none)],[(36,some 3)],[(35,some 2),(37,some 4)],[(33,some 0),(38,some 5)],[(39,some 6)],[(32,some 7)],[(32,some 7)],[]] [(10,11),(9,41),(8,40),(7,32),(6,39),(5,38),(4,37),(3,36),(2,35),(1,34),(0,33)] hh mixed V2 (nO rfl aJ.out eX) rfl (by repeat (first|exact cD|refine bT ?_|refine cE ?_)) ?_;refine eJ 0 [_,_] ?_;refine da ?_;refine eJ 2 [_,_,_] ?_;refine da ?_;refine eJ 2 [_,_,_] ?_;refine dC (fun _ hj=>hsu _ (hT.hp hj.hp)) ?_;refine aP (i:=6) (j8 hh.sz 0 n FL) (j8.ext) ?_ ?_
   ·intro ρ1 w1 hj hR;exact bf rfl (aQ au.out (aw (show ρ1 33=Value.agg (List.toArray _) from hR.1) (aw (show ρ1 38=Value.agg (List.toArray _) from hR.2.1) a8))) (hsc w1 (hT.hp hj.hp) (hj.hp.aD (i:=1) rfl)) (fun _ _ ⟨g,og,hq,h3⟩=>⟨_,hq,h3.below,g,w1,rfl,og,hj.bl.size,h3⟩)
   refine aP (i:=7) (j8 hh.sz 0 n FL) (j8.ext) ?_ ?_
   ·exact QO
   refine aP (i:=8) (kg hh.sz 0 n FL) (kg.ext) ?_ ?_
   ·exact Rs
   refine aP (i:=9) (Is (.int .i64 0)) (Is.ext) ?_ ?_
   ·exact R4
   refine aP (i:=10) (cu _ 24 _) cu.ext (fun ρ1 w1 hj hR=>gL aJ.out hj.bl (fun v w2 h hb=>⟨hb,h⟩)) ?_;refine aG ?_;intro f W hJ hV _;have hb_6:=hJ.bl;obtain ⟨v11,v41,v40,v32,v39,v38,v37,v36,v35,v34,v33,_⟩:=hV;obtain ⟨g39,u39,e39, -⟩:=v39;obtain ⟨g32,u32,e32, -⟩:=v32;obtain ⟨g40,u40,e40,o40,q40,h40⟩:=v40;obtain ⟨b11,e11,hl11,hc11⟩:cu _ _ _ (f 10) W:=v11;replace hh:=hJ.rb hh hl11 hc11 q40 h40 (PX.ne h40 hc11 V0);refine aU (bg (ae e11 (ae v41 (ae e40 (ae e32 (ae e39 (ae v38 (ae v37 (ae v36 (ae v35 (ae v34 (ae v33 aT)))))))))))) ?_;dsimp only [bI];clear e39 e32 e40 e11 hJ;simp only [Wf,Wd] at hh;obtain ⟨fv,fA,fn,fc,ft⟩:=g40;replace hh:=show Hp w (_::.row fA fn fc 80 4 (aA TR.cells ft)::_) W from hh;have et:FL=ft:=o40.t0.symm;have ev_:fv=(n:Int):=o40.v0;subst et ev_;have fln:FL.length=fn:=(hh.aD (i:=1) rfl).bE TR.len V0;have fcc:fn≤fc:=hh.eZ (i:=1) rfl;refine bL hh 0 [_,_] ?_;intro ws hh;replace hh:Hp _ (.blk _ _ [_,_] _::_) _:=hh;refine aI (aa (sr (mL (aF (bC ?_)))));refine bY hh 4 [_,_,_] ?_;refine aE (hcn _ (hT.hp hh)) au.out rfl V0 ?_
   rintro e_ w47 ⟨u,ou,rfl,h4⟩;refine ⟨_,rfl, ?_⟩;have huc:u.n≤u.c:=h4.eZ (i:=0) rfl;replace hh:=hh.join h4;clear h4;simp only [Wf,Wd] at hh;obtain ⟨uv,uA,un,uc,ut⟩:=u;replace hh:=show Hp w (.row uA un uc 80 4 (aA TR.cells ut)::_) _ from hh;have et:CL=ut:=ou.t0.symm;have ev_:uv=(n:Int):=ou.v0;subst et ev_;have uln:CL.length=un:=(hh.aD (i:=0) rfl).bE TR.len V0;refine mT ?_;refine dE ?_;refine dE ?_;refine bJ hh ?_;intro b13 w13 hh;refine bL hh 0 [_,_] ?_;intro ws hh;replace hh:Hp _ (.blk _ _ [_,_] _::_) _:=hh;refine aI (aa (sr ?_));refine bY hh 0 [_,_] ?_;refine bY hh 2 [_,_] ?_;refine Fq ?_;intro b53 w53 hh;have hlp:gC [⟨n,uA,un,uc,CL⟩,⟨n,fA,fn,fc,FL⟩]=0:=qb co.e fo.e rfl;have had:=fun A3 w1 hT1 hS1 s1 s2=>oU A3 2 2 [⟨n,uA,un,uc,CL⟩,⟨n,fA,fn,fc,FL⟩] (k+k+10) w1 hT1 hS1 V0 (fun g hg=>by
    rcases Wp.1 hg with rfl|hg
    ·exact s1
    ·rw [Wu.1 hg];exact s2) (fun g hg=>by
    rcases Wp.1 hg with rfl|hg
    ·exact ⟨by show un≤1000000;omega,huc,co.ok.mono VZ,co.sz⟩
    ·rw [Wu.1 hg];exact ⟨by show fn≤1000000;omega,fcc,fo.ok.mono VZ,fo.sz⟩) VZ
   unfold Hq at had;rw [V5 hlp,Jg] at had;dsimp only at had;rw [hP] at had;rw [lY (l:=CL++FL) (by rw [We];omega)] at had;refine aE (had _ _ (hT.hp hh) (hh.aD (i:=0) rfl) (hh.aD (i:=2) rfl) (hh.aD (i:=4) rfl)) au.out rfl V0 ?_;rintro e_ w54 ⟨z,oz,rfl,h4⟩;refine ⟨_,rfl, ?_⟩;have hzc:z.n≤z.c:=h4.eZ (i:=0) rfl;replace hh:=hh.join h4;clear h4;simp only [Wf,Wd] at hh;replace hh:=show Hp w (.row z.A z.n z.c 80 4 (aA TR.cells z.ts)::_) _ from hh;have zln:z.ts.length=z.n:=(hh.aD (i:=0) rfl).bE TR.len V0;refine mT ?_;refine dE ?_;refine dE ?_;refine bJ hh ?_;intro b15 w15 hh;refine bL hh 0 [_,_] ?_;intro ws hh;replace hh:Hp _ (.blk _ _ [_,_] _::_) _:=hh;refine aI (aa (ak (mL ?_)));refine bY hh 0 [_,_] ?_;refine cV hh (cs:=[_,_]) a9.out aJ.out (aV (g6 rfl) bW) rfl rfl V0 V0 V0 rfl V0 ?_;intro b59 w59 hh;refine cv hh (i:=11) rfl rfl rfl (hh.aD (i:=0) rfl) a9.out aJ.out rfl V0 (by first|rfl|exact dz _|exact cX _|exact bB _|exact bU NR.one _) VZ VZ V0 ?_;intro A60 c60 w60 hh;simp only [Wh,WI] at hh;replace hh:=hh.sub (WO _ _)
   refine lf ?_;refine bj (mI (az (ai ?_)));replace hh:=hh.sub (Wa _ (V7 _ (Wa _ (Wa _ (Wa _ (Wa _ (Wa _ (Wa _ (Wa _ (Wa _ (V7 _ (V7 _ (V7 _ (V7 _ (Xf _)))))))))))))));replace hh:=hh.perm (WZ (l₁:=[_,_,_,_]));simp only [Wf,Wd] at hh;replace hh:=hh.perm (WZ (l₁:=[_,_,_,_]));simp only [Wf,Wd] at hh;replace hh:=hh.perm (WZ (l₁:=[_,_,_,_]));simp only [Wf,Wd] at hh;replace hh:=hh.perm (WZ (l₁:=[_,_,_,_]));simp only [Wf,Wd] at hh;have hcp2:=hcp.add (g:=⟨n,none,PL.length,0,PL⟩) (o:=z) (by rw [hol,Wg,hps];rfl) ⟨oz.v0,oz.t0,by rw [←zln,oz.t0]⟩ hzc;refine ⟨⟨i+1,c60,A60,os++[z],z.row::R,VZ,rfl,rfl,by rw [We,hol];rfl,hcp2,by rw [bK,jv];exact hh⟩,by show n-(i+1)<n-i;omega, ?_⟩
   exact dF
  ·obtain rfl:i=n:=VZ;have hol2:os.length=((cw b).map fun g=>(⟨g.v,none,g.ts.length,0,g.ts⟩:PX)).length:=by rw [Wi,oM];omega
   have hkey:=hcp.key hol2;rw [W6] at hkey;replace hkey:os.map PX.norm=(cw b).map PX.norm:=hkey;obtain ⟨ks,kh⟩:=Gi (o:=p) (p:=p) rfl rfl hkey;have hall:∀o∈os,o.km (k+k+10)∧o.ts.length≤2:=fun o ho=>by
    obtain ⟨j,hj⟩:=Yc.1 ho;have hjn:j<os.length:=(Wk.1 hj).1;obtain ⟨s,hs⟩:=al (l:=b) (k:=j) VZ;obtain ⟨e1,e2,e3⟩:=hcp.eq j ⟨b.length,none,(jD b.length j s).length,0,jD b.length j s⟩ o (by rw [Wg,jR hs];rfl) hj;obtain ⟨po,pl⟩:=qO (v:=b.length) (i:=j) VZ (hb s (Wb hs)) VZ;replace e2:o.ts=jD b.length j s:=e2;replace e3:o.n=(jD b.length j s).length:=e3;exact OS
   have hfit:Uo p os k (k+k+10) 2 (k+k+16394) ds:=⟨VZ,hex,hgr,VZ,VZ,fun g hg=>(hall g hg).1,fun g hg=>(hall g hg).2⟩;have hsu:=fun w1 hT1 ha hs hm hc=>qC p A c3 os k (k+k+10) 2 (k+k+16394) ds w1 hT1 ha lp hs hm hc hfit;rw [ks,kh,hhv,hol] at hsu;generalize (fM p (cw b)).1=E at*;generalize (fM p (cw b)).2=S at*;refine sr ?_;refine mf ?_;refine bY hh 3 [_,_] (mL ?_);refine aE (hsu _ (hT.hp hh) (hp.ext hh.below) (hh.aD (i:=0) rfl) (fun z hz=>F5 hh (Wl _ (Wl _ (Wl _ (Wl _ (hcp.my z hz).1))))) (hh.eZ (i:=0) rfl)) au.out rfl V0 ?_;rintro e_ w64 ⟨g,og,rfl,h4⟩;refine ⟨_,rfl, ?_⟩;replace hh:=hh.join h4;clear h4;simp only [Wf,Wd] at hh;refine dE ?_;refine dE ?_;refine bL hh 3 [_,_] ?_;intro ws hh;replace hh:Hp _ (_::_::_::.blk _ _ [_,_] _::_) _:=hh;refine aI (aa (av ?_));refine KZ ?_;exact Gd
def dM (i:Nat) (f:ByteArray→Dyadic) (m:ByteArray):Dyadic:=
 match m.data.toList[i]? with|some e=>((e.toNat:Int):Dyadic)*f (str (m.data.toList.set i (e-1)))|none=>0
theorem NB {a b:List UInt8} (ha:eS a=true) (hb:eS b=true) (hl:b.length=a.length) (h:(List.zipWith (· + ·) (ints a) (ints b)).all ck=true):mulL a b=((List.zipWith (· + ·) (ints a) (ints b)).map qR,0):=by
 unfold mulL;rw [NS ha hb hl];show (Jv _,Oh _)=_;rw [(p7 h).1,(p7 h).2]
theorem Js {a b:List UInt8} (h:(mulL a b).2=0):(List.zipWith (· + ·) (ints a) (ints b)).all ck=true:=by
 obtain ⟨_,_,_,h4,h5⟩:=pZ h;rw [←h5];exact ND h4
theorem L0 {a b:ByteArray}{i:Nat}{x y:UInt8} (h:qW a b=0) (hx:a.data.toList[i]?=some x) (hy:b.data.toList[i]?=some y):(mulM a b).data.toList[i]?=some (qR ((x.toNat:Int)+y.toNat))∧(qR ((x.toNat:Int)+y.toNat)).toNat=x.toNat+y.toNat:=by
 obtain ⟨h1,h2,h3,_,_⟩:=pZ h;have hall:=Js h;have hiy:(ints b.data.toList)[i]?=some (y.toNat:Int):=by unfold ints;rw [Wg,hy];rfl
 have hix:(ints a.data.toList)[i]?=some (x.toNat:Int):=by unfold ints;rw [Wg,hx];rfl
 have hzz:=JI (f:=fun (x y:Int)=>x+y) hix hiy;have hxy:ck ((x.toNat:Int)+y.toNat)=true:=Wq.1 hall _ (Wb hzz);have e1:=qa hxy;injection e1 with _ e1
 refine ⟨?_,VZ⟩;unfold mulM;rw [dV,NB h1 h2 h3 hall,Wg,hzz]
 rfl
def pk (B:Nat→Nat) (l:List TR):Prop:=∀t∈l,∀i,kp i t≤B i
theorem pk.mono {B C:Nat→Nat} (h:pk B l) (hb:∀i,B i≤C i):pk C l:=fun t ht i=>WK (h t ht i) (hb i)
theorem SG {s t:TR} (h:s.m=t.m) (i:Nat):kp i s=kp i t:=by unfold kp;rw [h]
theorem pk.aM {B:Nat→Nat}{l:List TR} (h:pk B l):pk B (aM l):=fun t ht i=>by
 obtain ⟨s,hs,e⟩:=iQ t ht;rw [←SG e i];exact h s hs i
theorem pk.append {B:Nat→Nat}{k:List TR} (h:pk B l) (h2:pk B k):pk B (l++k):=fun t ht=>(W3.1 ht).elim (h t) (h2 t)
theorem pk.prod {B C:Nat→Nat}{q:List TR} (hp:pk B p) (hq:pk C q) (h:∀e∈wW p q,e=0):pk (fun i=>B i+C i) (df p q):=fun t ht i=>by
 obtain ⟨x,hx,ht⟩:=Yq.1 ht;obtain ⟨y,hy,rfl⟩:=Wo.1 ht;have hz:qW x.m y.m=0:=h _ (Yq.2 ⟨x,hx,Wo.2 ⟨y,hy,rfl⟩⟩)
 cases ha:x.m.data.toList[i]? with
 |none=>
  have hl:=C8 hz;have hx0:=List.getElem?_eq_none_iff.1 ha;have e:(tj x y).m.data.toList[i]?=none:=by
   show (str _).data.toList[i]?=none;rw [dV];exact WN (by rw [hl];exact hx0)
  unfold kp;rw [e];exact V8 _
 |some a=>
  obtain ⟨_,_,h3,_,_⟩:=pZ hz;have hlt:=(Wk.1 ha).1;obtain ⟨b,hb⟩:=al (l:=y.m.data.toList) (k:=i) VZ;obtain ⟨e1,e2⟩:=L0 hz ha hb;rw [rp (t:=tj x y) e1,e2];have h1:=hp x hx i;have h2:=hq y hy i;rw [rp ha] at h1;rw [rp hb] at h2;show a.toNat+b.toNat≤B i+C i;omega
theorem Bv {q p:List TR}{sub:List TR→Int×List TR}{j D:Nat}{E:Nat→Nat} (hq:pk (fun x=>if x=j then 1 else 0) q) (hD:∀t∈p,kp j t≤D) (hE:E j=0) (hs:∀n,(sub (cM p j n)).1=0→pk E (sub (cM p j n)).2):
  ∀i,i≤128→(de q sub p j i).1=0→pk (fun x=>if x=j then i+D-128 else E x) (de q sub p j i).2
 |0,_,_=>fun t ht=>(nomatch ht)
 |i+1,hi,h0=>by
  have h1:(de q sub p j i).1=0:=by
   refine YD fun c=> ?_;rw [ra c (Nat.le_succ i)] at h0;exact c h0
  have ih:=Bv hq hD hE hs i VZ h1;have hsb:∀n,(sub (cM p j n)).1=0→pk (fun x=>if x=j then i+1+D-128 else E x) (sub (cM p j n)).2:=fun n hn=>(hs n hn).mono fun x=>by
   by_cases hx:x=j
   ·rw [V5 hx,hx,hE];exact V8 _
   ·rw [V6 hx];exact V9 _
  have hpr:fR (de q sub p j i).2 q=0→pk (fun x=>if x=j then i+1+D-128 else E x) (aM (df (de q sub p j i).2 q)):=fun ht=>by
   by_cases hlow:i+D≤127
   ·rw [l7 hD i hlow];exact fun t ht=>(nomatch ht)
   ·refine ((ih.prod hq (pr ht).2.1).mono fun x=> ?_).aM;by_cases hx:x=j
    ·rw [V5 hx,V5 hx,V5 hx];omega
    ·rw [V6 hx,V6 hx,V6 hx];omega
  rw [uS] at h0 ⊢;unfold jI at h0 ⊢;rw [V6 (fun h=>h h1)] at h0 ⊢;by_cases c1:(de q sub p j i).2.length=0∧(cM p j (127-i)).length=0
  ·rw [V5 c1,Zz.1 c1.1];exact fun t ht=>(nomatch ht)
  ·rw [V6 c1] at h0 ⊢;by_cases c2:fR (de q sub p j i).2 q≠0
   ·rw [V5 c2] at h0;exact absurd h0 c2
   ·rw [V6 c2] at h0 ⊢;by_cases c3:(sub (cM p j (127-i))).1≠0
    ·rw [V5 c3] at h0;exact absurd h0 c3
    ·rw [V6 c3] at h0 ⊢;by_cases c4:im (aM (df (de q sub p j i).2 q)++(sub (cM p j (127-i))).2)≠0
     ·rw [V5 c4] at h0;exact absurd h0 c4
     ·rw [V6 c4];exact ((hpr VZ).append (hsb _ VZ)).aM
theorem Ar (v:Int) (c:NR):pk (fun _=>0) [⟨fO v,c⟩]:=fun t ht i=>by
 rw [Wu.1 ht]
 cases he:(⟨fO v,c⟩:TR).m.data.toList[i]? with
 |none=>unfold kp;rw [he];exact V9 _
 |some e=>
  rw [rp he];have hm:=Wb he;replace hm:e∈(List.replicate v.toNat (0:UInt8)):=by simpa [fO] using hm
  rw [(List.mem_replicate.1 hm).2];exact V9 _
theorem Mr {v:Int}:∀(qs:List (List TR)) (j:Nat) (p:List TR) (D:Nat→Nat),(∀(i:Nat) (q:List TR),qs[i]?=some q→pk (fun x=>if x=j+i then 1 else 0) q)→(∀t∈p,∀i,i<qs.length→kp (j+i) t≤D (j+i))→(jE v qs j p).1=0→pk (fun x=>if j≤x∧x<j+qs.length then D x else 0) (jE v qs j p).2:=by
 intro qs
 induction qs with
 |nil=>
  intro j p D _ _ _;exact (Ar v _).aM.mono fun x=>V8 _
 |cons q qs ih=>
  intro j p D hq hp h0;have hsub:∀n,(jE v qs (j+1) (cM p j n)).1=0→pk (fun x=>if j+1≤x∧x<j+1+qs.length then D x else 0) (jE v qs (j+1) (cM p j n)).2:=fun n hn=>by
   refine ih (j+1) (cM p j n) D (fun i r hr=> ?_) (fun t ht i hi=> ?_) hn
   ·have:=hq (i+1) r (by simpa using hr);rwa [show j+1+i=j+(i+1) by omega]
   ·have:=hp t (ll t ht) (i+1) (by rw [WH];omega);rwa [show j+1+i=j+(i+1) by omega]
  have hq0:pk (fun x=>if x=j then 1 else 0) q:=hq 0 q rfl;have hD:∀t∈p,kp j t≤D j:=fun t ht=>hp t ht 0 (by rw [WH];omega);generalize hgen:jE v qs (j+1)=sub at hsub;have e:∀m,m=128→(de q sub p j m).1=0→pk (fun x=>if j≤x∧x<j+(q::qs).length then D x else 0) (de q sub p j m).2:=fun m hm h=>by
   refine (Bv hq0 hD (E:=fun x=>if j+1≤x∧x<j+1+qs.length then D x else 0) (by rw [V6 VZ]) hsub m VZ h).mono fun x=> ?_;rw [WH];by_cases hx:x=j
   ·rw [V5 hx,V5 VZ,hx];omega
   ·rw [V6 hx];by_cases h2:j+1≤x∧x<j+1+qs.length
    ·rw [V5 h2,V5 VZ];exact V9 _
    ·rw [V6 h2];exact V8 _
  have e2:jE v (q::qs) j p=de q sub p j 128:=by rw [←hgen];rfl
  rw [e2] at h0 ⊢;exact e 128 rfl h0
theorem Th {i:Nat}{t:TR} (h:t∈l):oG t.m i≤BU l i:=by
 induction l using jz with
 |h0=>cases h
 |hs l x ih=>
  rw [tX]
  rcases W3.1 h with h|h
  ·have:=ih h;omega
  ·rw [Wu.1 h];omega
theorem Qc {i:Nat}{B:Int} (hB:0≤B) (h:∀t∈l,oG t.m i≤B):0≤BU l i∧BU l i≤B:=by
 induction l using jz with
 |h0=>exact ⟨Int.le_refl _,hB⟩
 |hs l x ih=>
  rw [tX];have h1:=ih fun t ht=>h t (X5 _ ht);have h2:=h x (XU _ Wj);omega
theorem Kx (t:TR) (i:Nat):(kp i t:Int)=oG t.m i:=by
 unfold kp oG
 cases t.m.data.toList[i]?<;>rfl
def lV (v:Int) (ts:List TR):List Nat:=(xG v ts).map Int.toNat
theorem zm {v:Int} (h:ko v ts=0):xG v ts=bp (lV v ts)∧(lV v ts).length=v.toNat∧∀(i d:Nat),(lV v ts)[i]?=some d→d≤127∧(∀t∈ts,kp i t≤d)∧((d:Int)=BU ts i):=by
 obtain ⟨_,_,hm,_⟩:=dH h;have hd:xG v ts=mm v.toNat ts:=V5 h;have hb:∀t∈ts,∀i,oG t.m i≤127:=fun t ht i=>by
  have h1:=hm t ht;unfold fY at h1;rw [Wm] at h1;unfold oG
  cases he:t.m.data.toList[i]? with
  |none=>decide
  |some e=>have:=sK h1.1 he;show ((e.toNat:Nat):Int)≤127;omega
 refine ⟨?_,by unfold lV;rw [Wi,hd,fC],fun i d hi=> ?_⟩
 ·unfold lV bp;rw [W6];refine (List.map_id' _).symm.trans (XW fun x hx=> ?_);rw [hd] at hx;obtain ⟨i,_,rfl⟩:=Wo.1 hx;have:=(Qc (B:=127) V0 fun t ht=>hb t ht i).1;show BU ts i=((BU ts i).toNat:Int);omega
 ·unfold lV at hi;rw [hd,Wg] at hi;have hlt:i<v.toNat:=by
   refine YD fun hc=> ?_;rw [WN (by rw [fC];omega)] at hi
   cases hi
  rw [sM ts hlt] at hi;have h1:=Qc (l:=ts) (i:=i) (B:=127) V0 fun t ht=>hb t ht i;have h2:(BU ts i).toNat=d:=WT hi;refine ⟨VZ,fun t ht=> ?_,VZ⟩;have h3:=Th (i:=i) ht;have h4:=Kx t i;omega
def gu (m:ByteArray):List Nat:=m.data.toList.map UInt8.toNat
theorem qu (m:ByteArray):(gu m).length=m.size:=by rw [eh];exact Wi _
theorem JO {a b:ByteArray} (h:gu a=gu b):a=b:=uR (List.map_inj_right (fun _ _=>Y2.1)|>.1 h)
theorem xu (m:ByteArray):ints m.data.toList=bp (gu m):=by unfold ints bp gu;rw [W6];rfl
def VH (xs:List Dyadic) (l:List TR):Dyadic:=wS (fun m=>TE (gu m) xs) l
theorem S3 (f:ByteArray→Dyadic) (l:List TR):wS f l=sm l fun t=>t.c.d*f t.m:=by
 induction l with
 |nil=>rfl
 |cons t l ih=>rw [wS,sm,ih]
theorem Fg (j:Nat) (t:TR):kp j t=((gu t.m)[j]?).getD 0:=by
 unfold kp gu;rw [Wg]
 cases t.m.data.toList[j]?<;>rfl
variable {X:List Dyadic}
def wK:Nat→List Nat→List Nat→List Nat→Dyadic
 |m+1,_::ds,a::s,r::rs=>(if a=r then 1 else 0)*wK m ds s rs
 |0,d::ds,a::s,r::rs=>eV d 1 1 a r*wK 0 ds s rs
 |_,_,_,_=>1
theorem FT:∀(j:Nat) (ds s rs:List Nat),j<ds.length→mh ds s→mh ds rs→sm (List.range (ds.getD j 0+1)) (fun i=>wK (j+1) ds s (rs.set j i)*eV (ds.getD j 0) 1 1 i (rs.getD j 0))=wK j ds s rs
 |_,[],_,_,h,_,_=>by cases h
 |_,_::_,[],_,_,h,_=>by cases h
 |_,_::_,_::_,[],_,_,h=>by cases h
 |0,d::ds,a::s,r::rs,_,h1,_=>by
  show sm (List.range (d+1)) (fun i=>(if a=i then 1 else 0)*wK 0 ds s rs*eV d 1 1 i r)=eV d 1 1 a r*wK 0 ds s rs;have e:sm (List.range (d+1)) (fun i=>(if a=i then 1 else 0)*wK 0 ds s rs*eV d 1 1 i r)=sm (List.range (d+1)) fun i=>if i=a then eV d 1 1 a r*wK 0 ds s rs else 0:=fB fun i _=>by
   by_cases h:a=i
   ·rw [V5 h,V5 h.symm,h];grind
   ·rw [V6 h,V6 (fun e=>h e.symm)];grind
  rw [e,ya,V5 (by have:=h1.1;omega)]
 |j+1,d::ds,a::s,r::rs,hj,h1,h2=>by
  show sm (List.range (ds.getD j 0+1)) (fun i=>(if a=r then 1 else 0)*wK (j+1) ds s (rs.set j i)*eV (ds.getD j 0) 1 1 i (rs.getD j 0))=(if a=r then 1 else 0)*wK j ds s rs;rw [←FT j ds s rs (by simpa using hj) h1.2 h2.2,←AX];exact fB fun i _=>by grind
theorem Lj:∀(ds s rs:List Nat),mh ds s→mh ds rs→wK ds.length ds s rs=if s=rs then 1 else 0
 |[],[],[],_,_=>by rw [V5 rfl];rfl
 |[],_::_,_,h,_=>by cases h
 |[],[],_::_,_,h=>by cases h
 |_::_,[],_,h,_=>by cases h
 |_::_,_::_,[],_,h=>by cases h
 |d::ds,a::s,r::rs,h1,h2=>by
  show (if a=r then 1 else 0)*wK ds.length ds s rs=_;rw [Lj ds s rs h1.2 h2.2];by_cases e1:a=r
  ·by_cases e2:s=rs
   ·rw [V5 e1,V5 e2,V5 (by rw [e1,e2])];grind
   ·rw [V5 e1,V6 e2,V6 fun e=>e2 (List.cons.inj e).2];grind
  ·rw [V6 e1,V6 fun e=>e1 (List.cons.inj e).1];grind
abbrev QL:=List (List Nat×Dyadic)
def X0 (ds:List Nat) (L:QL):List Dyadic:=nW (ar ds) (L.map fun q=>(eu ds q.1,q.2))
def pE (ds:List Nat) (L:QL):Nat→List Dyadic
 |0=>X0 ds L
 |k+1=>gR ds (ds.length-1-k) (eV (ds.getD (ds.length-1-k) 0) 1 1) (pE ds L k)
theorem ru (ds:List Nat) (L:QL) (k:Nat):pE ds L (k+1)=gR ds (ds.length-1-k) (eV (ds.getD (ds.length-1-k) 0) 1 1) (pE ds L k):=rfl
theorem z9 (ds:List Nat) (L:QL) (k:Nat):(pE ds L k).length=ar ds:=by
 cases k with
 |zero=>exact lv _ _
 |succ k=>rw [ru,oL]
theorem I6 {ds:List Nat}{L:QL} (hL:∀q∈L,mh ds q.1):∀k,k≤ds.length→∀row,mh ds row→co ds (pE ds L k) row=sm L fun q=>q.2*wK (ds.length-k) ds q.1 row
 |0,_,row,hr=>by
  have hp:=lX hr;rw [ES hr];show ((X0 ds L)[eu ds row]?).getD 0=_;unfold X0;rw [nJ _ hp,Xj,yT];refine fB fun q hq=> ?_;rw [Nat.sub_zero,Lj ds q.1 row (hL q hq) hr];by_cases h:q.1=row
  ·rw [V5 h,V5 (by rw [h])];grind
  ·rw [V6 h,V6 fun e=>h (by rw [←kj (hL q hq),←kj hr];exact Xm (cq ds) e)];grind
 |k+1,hk,row,hr=>by
  obtain ⟨j,hj⟩:∃j,j=ds.length-1-k:=⟨_,rfl⟩;rw [ru,←hj,He _ _ _ hr,show ds.length-(k+1)=j by omega];have e1:∀i,i<ds.getD j 0+1→co ds (pE ds L k) (row.set j i)=sm L fun q=>q.2*wK (j+1) ds q.1 (row.set j i):=fun i hi=>by
   rw [I6 hL k VZ (row.set j i) (Ej hr VZ),show ds.length-k=j+1 by omega]
  rw [fB fun i hi=>show co ds (pE ds L k) (row.set j i)*eV (ds.getD j 0) 1 1 i (row.getD j 0)=sm L fun q=>q.2*(wK (j+1) ds q.1 (row.set j i)*eV (ds.getD j 0) 1 1 i (row.getD j 0)) by
   rw [e1 i (Xn.1 hi),←IB];exact fB fun q _=>by grind,MP]
  refine fB fun q hq=> ?_;rw [←FT j ds q.1 row VZ (hL q hq) hr,←AX]
def zJ (ns:List Nat) (l:List TR):List Dyadic:=(List.range (ar ns.reverse)).map fun p=>wS (fun m=>wK 0 ns.reverse (gu m).reverse (cq ns.reverse p)) l
theorem MA (ns:List Nat) (l:List TR):(zJ ns l).length=ar ns:=by unfold zJ;rw [Wi,Ye,bM]
def sg (l:List TR):QL:=l.map fun t=>((gu t.m).reverse,t.c.d)
theorem Kj {ns:List Nat} (hl:∀t∈l,mh ns.reverse (gu t.m).reverse):pE ns.reverse (sg l) ns.length=zJ ns l:=by
 have hL:∀q∈sg l,mh ns.reverse q.1:=fun q hq=>by
  obtain ⟨t,ht,rfl⟩:=Wo.1 hq;exact hl t ht
 refine QF (ds:=ns.reverse) (z9 _ _ _) (by rw [MA,bM]) fun row hr=> ?_;have hp:=lX hr;rw [I6 hL ns.length (by rw [WE];exact V9 _) row hr,ES hr,show ns.reverse.length-ns.length=0 by rw [WE,Xc]];unfold zJ sg;rw [Wg,W8 hp,yT];show _=wS _ l;rw [S3,kj hr]
theorem ui:∀{ds rs:List Nat} (a:Nat),mh ds rs→rs.getD a 0≤ds.getD a 0
 |[],[],_,_=>by simp
 |[],_::_,_,h=>by cases h
 |_::_,[],_,h=>by cases h
 |_::_,_::_,0,h=>h.1
 |_::ds,_::rs,a+1,h=>ui (ds:=ds) (rs:=rs) a h.2
theorem Gy {ds:List Nat}{a d:Nat} (hx:∀x∈X,Sz k x) (hd:ds.getD a 0=d) (hd7:d≤127):∀x∈gR ds a (eV d 1 1) X,Sz (k+520) x:=fun x h=>by
 obtain ⟨p,_,rfl⟩:=Wo.1 h;have hr:(cq ds p).getD a 0≤d:=by rw [←hd];exact ui a (kC ds p)
 have h2:=BW (l:=List.range (ds.getD a 0+1)) (f:=fun i=>co ds X ((cq ds p).set a i)*eV d 1 1 i ((cq ds p).getD a 0)) (k:=k+(130+2*(1*d))) fun i _=>by
  refine Sz.mul ?_ (y3 Sz.one Sz.one hd7 hr);exact SP
 rw [Ye,hd] at h2;rw [hd];exact h2.mono VZ
theorem BP {ds:List Nat}{B:Nat} (h:∀d∈ds,d≤B) (a:Nat):ds.getD a 0≤B:=by
 rw [Xl]
 cases ha:ds[a]? with
 |none=>exact V8 _
 |some d=>exact h d (Wb ha)
theorem JT {ds:List Nat}{L:QL}{k:Nat} (h:∀x∈X0 ds L,Sz k x) (hd:∀d∈ds,d≤127):∀i,∀x∈pE ds L i,Sz (k+520*i) x
 |0=>h
 |i+1=>fun x hx=>(Gy (JT h hd i) rfl (BP hd _) x hx).mono VZ
theorem SU {ds:List Nat} (h:jG k l):∀x∈X0 ds (sg l),Sz (k+l.length) x:=fun x hx=>by
 have:=MS (N:=ar ds) (L:=(sg l).map fun (q:List Nat×Dyadic)=>(eu ds q.1,q.2)) (k:=k) (fun a ha=>by
  obtain ⟨q,hq,rfl⟩:=Wo.1 ha;obtain ⟨t,ht,rfl⟩:=Wo.1 hq;exact (h t ht).2) x hx
 unfold sg at this;rwa [Wi,Wi] at this
structure ID (p:PX) (b:List SR) (ns:List Nat):Prop where
 e:p.e=0
 box:nk b=0
 pos:0<b.length
 Ji:b.length≤12
 v:p.v=b.length
 nl:ns.length=b.length
 low:∀d∈ns,d≤127
 most:ar ns≤4096
 own:∀(i d:Nat),ns[i]?=some d→∀t∈p.ts,kp i t≤d
theorem Rp {p:PX}{b:List SR}{D:List Int} (h:sj p b D=0):D=bp (D.map Int.toNat)∧ID p b (D.map Int.toNat):=by
 unfold sj at h;by_cases h0:p.e≠0
 ·rw [V5 h0] at h;exact absurd h h0
 ·rw [V6 h0] at h;by_cases h1:nk b≠0
  ·rw [V5 h1] at h;exact absurd h h1
  ·rw [V6 h1] at h;by_cases h2:(b.length:Int)≠p.v∨(D.length:Int)≠p.v
   ·rw [V5 h2] at h;exact absurd h V0
   ·rw [V6 h2] at h;by_cases h3:DG (xG p.v p.ts) D=true
    ·rw [V5 h3] at h;exact absurd h V0
    ·rw [V6 h3] at h;by_cases h4:eR 1 D=0
     ·rw [V5 h4] at h;exact absurd h V0
     ·have hpe:p.e=0:=Yg.1 h0;obtain ⟨f1,_,_,_⟩:=dH hpe;have f2:=jy.1 f1;obtain ⟨o1,o2,o3⟩:=zm hpe;have hbv:(b.length:Int)=p.v:=Yg.1 fun c=>h2 (.inl c);have hdv:(D.length:Int)=p.v:=Yg.1 fun c=>h2 (.inr c);have hD:∀(i:Nat) (y:Int),D[i]?=some y→∃d:Nat,(lV p.v p.ts)[i]?=some d∧(d:Int)≤y∧y≤127:=fun i y hy=>by
       have hi:=(Wk.1 hy).1;obtain ⟨d,hd⟩:=al (l:=lV p.v p.ts) (k:=i) VZ;have hg:(xG p.v p.ts)[i]?=some (d:Int):=by rw [o1];exact ez hd
       have:=Ya.1 ((Bool.not_eq_true _).mp h3) _ (Wb (Ee hg hy));rw [Wt] at this;exact ⟨d,hd,by show (d:Int)≤y;omega,by show y≤127;omega⟩
      have hnat:D=bp (D.map Int.toNat):=by
       unfold bp;rw [W6];refine (List.map_id' _).symm.trans (XW fun y hy=> ?_);obtain ⟨i,hi⟩:=Yc.1 hy;obtain ⟨d,_,h5,_⟩:=hD i y hi;show y=((y.toNat:Nat):Int);omega
      have hlow:∀d∈D.map Int.toNat,d≤127:=fun d hd=>by
       obtain ⟨y,hy,rfl⟩:=Wo.1 hd;obtain ⟨i,hi⟩:=Yc.1 hy;obtain ⟨_,_,_,h6⟩:=hD i y hi;omega
      refine ⟨hnat,hpe,Yg.1 h1, ?_,VZ,hbv.symm,by rw [Wi];omega,hlow, ?_,fun i d hd t ht=> ?_⟩
      ·rcases XM b.length with c|c
       ·have h9:=Yg.1 h1;unfold nk at h9;rw [Zz.1 c] at h9;exact absurd h9 V0
       ·exact c
      ·have h8:=ir (D.map Int.toNat) 1 (V9 _) V0 hlow;rw [←hnat,XP] at h8;rw [show eR 1 D=eR ((1:Nat):Int) D from rfl,h8] at h4;exact Yg.1 fun c=>h4 (V6 c)
      ·rw [Wg] at hd;obtain ⟨y,hy,hyd⟩:=Ym.1 hd;obtain ⟨d2,h7,h8,h9⟩:=hD i y hy;have:=(o3 i d2 h7).2.1 t ht;omega
theorem ID.FD {p:PX}{b:List SR}{ns:List Nat} (h:ID p b ns):(lV p.v p.ts).length=b.length:=by
 rw [(zm h.e).2.1,h.v];exact Xd _
theorem Mw (v i:Nat) (c:NR):pk (fun x=>if x=i then 1 else 0) [⟨mz v i,c⟩]:=fun t ht j=>by
 rw [Wu.1 ht]
 cases he:(⟨mz v i,c⟩:TR).m.data.toList[j]? with
 |none=>unfold kp;rw [he];exact V8 _
 |some e=>
  rw [rp he];show e.toNat≤if j=i then 1 else 0
  have e1:((List.replicate v (0:UInt8)).set i 1)[j]?=some e:=by simpa [mz] using he
  rw [XB] at e1;by_cases hj:i=j
  ·rw [V5 hj] at e1;rw [V5 hj.symm];split at e1
   ·rw [←WT e1];decide
   ·cases e1
  ·rw [V6 hj] at e1;rw [(List.mem_replicate.1 (Wb e1)).2];exact V8 _
theorem HQ (v i:Nat) (s:SR):pk (fun x=>if x=i then 1 else 0) (jD v i s):=by
 refine pk.aM (pk.append ((Ar v _).aM.mono fun x=>V8 _) (pk.aM fun t ht j=> ?_));obtain ⟨z,hz,rfl⟩:=Wo.1 ht;rw [show kp j (rl (s.H-s.L) z)=kp j z from rfl];exact (Mw v i _).aM z hz j
theorem HT {p:PX}{b:List SR}{ns:List Nat} (h:ID p b ns) (ho:jG k p.ts) (hb:∀s∈b,s.fin k) (hk:k≤1000) (hgr:gH (k+k+16394) (lV p.v p.ts) (k+1)≤440000) (h0:(fM p (cw b)).1=0):
  kS b.length 440000 (fM p (cw b)).2∧∀t∈(fM p (cw b)).2,mh ns.reverse (gu t.m).reverse:=by
 have hl:=h.Ji;have hpos:=h.pos;have hln:=oM b;obtain ⟨_,o2,o3⟩:=zm h.e;have hol:=h.FD;have hhv:gm (cw b)=b.length:=by
  obtain ⟨s,hs⟩:=al (l:=b) (k:=0) VZ;rw [m6 (jR hs)]
 unfold fM at h0 ⊢;rw [V6 (fun c=>c h.e),V6 (by rw [hln,h.v];exact fun c=>c rfl)] at h0 ⊢;by_cases hlk:(cw b).length≠0∧gC (cw b)≠0
 ·rw [V5 hlk] at h0;exact absurd h0 hlk.2
 ·rw [V6 hlk,hhv] at h0 ⊢;have hq:∀q∈(cw b).map PX.ts,kS b.length (k+k+10) q∧q.length≤2:=fun q hq=>by
   obtain ⟨g,hg,rfl⟩:=Wo.1 hq;obtain ⟨i,s,hs,rfl⟩:=DN hg;exact qO hl (hb s (Wb hs)) VZ
  have h1:=FR (jc hl) (show k+k+10+4096*2+8192≤k+k+16394 by omega) ((cw b).map PX.ts) 0 p.ts (lV p.v p.ts) k hq ho (by rw [Wi,hln,hol]) (fun i d hd=>⟨(o3 i d hd).1,fun t ht=>by rw [Ws];exact (o3 i d hd).2.1 t ht⟩) VZ h0;refine ⟨h1.mono hgr, ?_⟩;have h2:=Mr ((cw b).map PX.ts) 0 p.ts (fun i=>(ns[i]?).getD 0) (fun i q hi=> ?_) (fun t ht i hi=> ?_) h0
  ·intro t ht;have hm:=(dH h1.e).2.2.1 t ht;unfold fY at hm;rw [Wm,Wt] at hm;have hsz:(gu t.m).length=b.length:=by rw [qu];omega
   rw [iP];refine ⟨by rw [WE,WE,hsz,h.nl],fun i d r hd hr=> ?_⟩;have hi:=(Wk.1 hd).1;rw [WE] at hi;rw [Xh hi] at hd;rw [Xh (by rw [hsz,←h.nl];exact hi),hsz,←h.nl] at hr;have h3:=h2 t ht (ns.length-1-i);dsimp only at h3;rw [Wi,hln,V5 ⟨V8 _,by have:=h.nl;omega⟩,hd,Fg,hr] at h3;exact h3
  ·rw [Wg] at hi;obtain ⟨g,hg,rfl⟩:=Ym.1 hi;obtain ⟨s,hs⟩:=al (l:=b) (k:=i) (by have:=(Wk.1 hg).1;rwa [hln] at this);rw [jR hs] at hg;rw [←WT hg,Ws];exact HQ _ i s
  ·rw [Wi,hln] at hi;rw [Ws];obtain ⟨d,hd⟩:=al (l:=ns) (k:=i) (by rw [h.nl];exact hi);rw [hd];exact h.own i d hd t ht
section
variable {ro:Mode}{P:Program}{N:Nat}{Q:Kq}{ρ:Rf}{w:World}
theorem HS {a c:Code} (mods:List Nat) (s0:Nat) (J:Value→World→Prop) (hc:WC ro P N a (cG (fun ρ2 w2=>J (ρ2 s0) w2∧iI mods ρ2 ρ) Q) ρ w) (hn:∀ρ' v0 w',J v0 w'→WC ro P N c Q (cH (mask mods ρ' ρ) s0 v0) w'):WC ro P N (.seq a c) Q ρ w:=
 ah (hc.mono fun e ρ2 w2 hq=>by
  cases e with
  |normal=>
   have:=hn ρ2 (ρ2 s0) w2 hq.1;rwa [iT hq.2,gI] at this
  |_=>exact hq)
end
def vA (p:PX) (ds:List Int):List Int:=if ds.length=0 then xG p.v p.ts else ds
def Q5 (p:PX) (ds:List Int):List Nat:=(vA p ds).map Int.toNat
def vR (p:PX) (b:List SR) (ds:List Int):Int:=if sj p b (vA p ds)≠0 then sj p b (vA p ds) else (fM p (cw b)).1
theorem Ml {ns:List Nat}{i d:Nat} (h:ns[i]?=some d):ns.reverse=(ns.drop (i+1)).reverse++d::(ns.take i).reverse:=by
 exact St
theorem Ry (ds:List Nat):X0 ds (sg [])=List.replicate (ar ds) 0:=uE _
theorem Na {ds:List Nat}{i:Nat}{t:TR} (hl:∀t∈l,mh ds (gu t.m).reverse) (hr:vq l) (ht:l[i]?=some t):(X0 ds (sg (l.take i))).set (eu ds (gu t.m).reverse) t.c.d=X0 ds (sg (l.take (i+1))):=by
 have hok:=hl t (Wb ht);have hp:=lX hok;have h0:(X0 ds (sg (l.take i)))[eu ds (gu t.m).reverse]?=some 0:=by
  unfold X0;rw [nJ _ hp];congr 1;unfold sg;rw [W6,yT];refine Ey fun s hs=>V6 fun e=> ?_;replace e:eu ds (gu s.m).reverse=eu ds (gu t.m).reverse:=e;have e2:(gu s.m).reverse=(gu t.m).reverse:=by rw [←kj (hl s (Yd hs)),e,kj hok]
  have e3:s.m=t.m:=JO (List.reverse_inj.1 e2);obtain ⟨j,hj⟩:=Yc.1 hs;have hji:j<i:=by have:=(Wk.1 hj).1;rw [Ww] at this;omega
  rw [List.getElem?_take_of_lt hji] at hj;have h1:=(Wk.1 hj);have h2:=(Wk.1 ht);have h3:=List.pairwise_iff_getElem.1 hr j i h1.1 h2.1 hji;rw [h1.2,h2.2,e3,j3] at h3
  cases h3
 have h1:=HM (v:=t.c.d) (show (nW (ar ds) ((sg (l.take i)).map fun (q:List Nat×Dyadic)=>(eu ds q.1,q.2)))[eu ds (gu t.m).reverse]?=some 0 from h0);rw [Yk] at h1;show (nW (ar ds) ((sg (l.take i)).map fun (q:List Nat×Dyadic)=>(eu ds q.1,q.2))).set _ _=_;rw [h1,ay ht];unfold X0 sg;rw [WX,WX]
 rfl
set_option maxRecDepth 10000 in
theorem HK (p:PX) (L:Option Addr) (n c:Nat) (b:List SR) (M:Option Addr) (m mc:Nat) (ds:List Int) (k:Nat) (w:World) (hT:er w) (hp:p.at_ w) (lp:p.km k) (hB:Sl w L n 6 (aA SR.cells b)) (hb:∀s∈b,s.fin k) (hn:n≤1000000) (hD:Sl w M m 1 (a7 ds)) (hm:m≤1000000) (hmc:m≤mc) (hk:k≤1000)
  (hgr:sj p b (vA p ds)=0→gH (k+k+16394) (lV p.v p.ts) (k+1)≤440000):
  Calls Tryz.prog 9 #[.agg #[.int .i64 p.v,.slice p.A p.n p.c],.slice L n c,.slice M m mc] w fun r w'=>∃g:FX,Out (vR p b ds) (Q5 p ds) (zJ (Q5 p ds) (fM p (cw b)).2) g∧r=.returned (.tuple #[.agg #[.slice g.A g.n g.a,.slice g.B g.m g.b],.int .i64 (vR p b ds)])∧Hp w [g.mP,g.mi] w':=by
 have hh:=Hp.start w;have hbl:b.length=n:=hB.bE SR.len V0;have hdl:ds.length=m:=by have:=hD.1;rw [bQ] at this;omega
 have hok:∀s∈b,s.ok:=fun s hs=>⟨(hb s hs).1.ok,(hb s hs).2.ok⟩;have hDd:vA p ds=if m=0 then xG p.v p.ts else ds:=by unfold vA;rw [hdl]
 have hoN:Q5 p ds=(vA p ds).map Int.toNat:=rfl;have hoE:vR p b ds=if sj p b (vA p ds)≠0 then sj p b (vA p ds) else (fM p (cw b)).1:=rfl
 rw [hoN,hoE];clear hoN hoE;generalize vA p ds=D at*;refine aj (N:=94) (l:=[.agg #[.int .i64 p.v,.slice p.A p.n p.c],.slice L n c,.slice M m mc]) Tryz.func9 rfl rfl (by simp) ?_;refine sr ?_;refine bV hh [_,_] ?_;intro b3 w3 hh;refine bJ hh ?_;intro b6 w6 hh;refine aI (aa ?_);refine HS [2,18,19,20,21,22] 2
  (fun v w'=>∃(M2:Option Addr) (m2 mc2:Nat) (R:List HE),v=.slice M2 m2 mc2∧m2≤mc2∧m2≤1000000∧D.length=m2∧(∀(H:List HE) (w1:World),Hp w (H++R) w1→Sl w1 M2 m2 1 (a7 D))∧Hp w (.blk b6 33 [.slice none 0 0,.slice none 0 0] (0,0)::.blk b3 24 [.int .i64 p.v,.slice p.A p.n p.c] (0,0)::R) w') ?_ ?_
 ·by_cases hm0:m=0
  ·subst hm0;rw [V5 rfl] at hDd;have hdg:=fun w1 hT1 hb=>rZ p k w1 hT1 (hp.ext hb) lp;rw [←hDd] at hdg;have hl4:D.length≤1000000:=by
    rw [hDd];unfold xG;split
    ·rename_i hpe;have:=jy.1 (dH hpe).1;rw [fC];omega
    ·exact V8 _
   refine sr (mL (aF ?_));refine ct (aa (cT (ak ?_)));refine bY hh 1 [_,_] ?_;refine aE (hdg _ (hT.hp hh) hh.below) au.out rfl V0 ?_;rintro e_ w22 ⟨G,gc,rfl,h4⟩;refine ⟨_,rfl, ?_⟩;have hgc:D.length≤gc:=h4.eZ (i:=0) rfl;replace hh:=hh.join h4;clear h4;simp only [Wf,Wd] at hh;refine aL (aa ?_);replace hh:=hh.perm (WZ (l₁:=[_,_]));simp only [Wf,Wd] at hh;replace hh:=hh.perm (WZ (l₁:=[_,_]));simp only [Wf,Wd] at hh;refine ⟨⟨G,D.length,gc,_,rfl,hgc,hl4,rfl,fun H w1 h1=>iw (h1.own (.row G D.length gc 3 1 (a7 D)) (XU _ Wj)),hh⟩, ?_⟩;exact MV
  ·rw [V6 hm0] at hDd;refine sr (mL (aF ?_));refine ct (aa (cF (ao (ai ?_))));refine ⟨⟨M,m,mc,[],rfl,hmc,hm,by rw [hDd];exact hdl,fun H w1 h1=>by rw [hDd];exact hD.ext h1.below,hh⟩, ?_⟩;exact MV
 ·skip;clear hh hDd hdl hD hm hmc;rintro ρ' v w' ⟨M2,m2,mc2,R,rfl,hmc2,hm2,hDl,hrd,hh⟩;have hfi:=fun w1 hT1 hb1 hd=>ud p L n c b M2 m2 mc2 D k w1 hT1 (hp.ext hb1) lp (hB.ext hb1) hok hn hd hm2;by_cases hE:sj p b D≠0
  ·rw [V5 hE];generalize sj p b D=E at*;refine ah (sr ?_);refine bY hh 1 [_,_] (mL (mL ?_));refine bq hh (hfi _ (hT.hp hh) hh.below (hrd [_,_] _ hh)) rfl ?_;intro w26 hh;exact Sj
  ·rw [V6 hE];have hE0:sj p b D=0:=VZ;obtain ⟨hnat,hF⟩:=Rp hE0;rw [hE0] at hfi;have hpe:=hF.e;have hn0:=hF.pos;have hn12:=hF.Ji;have hnl:=hF.nl;have hlow:=hF.low;have hmost:=hF.most;have hgr2:=hgr hE0;obtain ⟨_,o2,o3⟩:=zm hpe;have hwi:=fun w1 hT1 hb1=>yQ p L n c b k (lV p.v p.ts) w1 hT1 (hp.ext hb1) lp (hB.ext hb1) hb (by rw [hF.v,hbl]) VZ VZ hk (by rw [hF.FD];exact hbl) (fun i d hd=>⟨(o3 i d hd).1,(o3 i d hd).2.1⟩) hgr2;have hsp:=HT hF lp.ok hb hk hgr2;clear hgr hgr2 o2 o3 hfi;have hfi:=fun w1 hT1 hb1 hd=>ud p L n c b M2 m2 mc2 D k w1 hT1 (hp.ext hb1) lp (hB.ext hb1) hok hn hd hm2;rw [hE0] at hfi;clear hE hE0;have hcnt:eR 1 D=((ar (D.map Int.toNat):Nat):Int):=by
    have h8:=ir (D.map Int.toNat) 1 (V9 _) V0 hlow;rw [←hnat,XP,V5 hmost] at h8;exact h8
   have hco:=fun w1 hd=>ef M2 m2 mc2 D w1 hd hm2;rw [hcnt] at hco;have hcl:=fun w1 hd=>jK M2 m2 mc2 D w1 hd hm2;have hm2n:m2=n:=by rw [←hDl,←hbl,←hnl,Wi]
   generalize hns:D.map Int.toNat=ns at*;generalize (fM p (cw b)).1=E at*;generalize (fM p (cw b)).2=S at*;have hN0:=cn ns;refine ah (sr ?_);refine bY hh 1 [_,_] (mL (mL ?_));refine bq hh (hfi _ (hT.hp hh) hh.below (hrd [_,_] _ hh)) rfl ?_;intro w26 hh;refine aI (aa (sr (mI ?_)));refine te ?_;refine bY hh 1 [_,_] (mL ?_);refine aE (hwi _ (hT.hp hh) hh.below) au.out rfl V0 ?_;rintro e_ w34 ⟨q,oq,rfl,h4⟩;refine ⟨_,rfl, ?_⟩;replace hh:=hh.join h4;clear h4;simp only [Wf,Wd] at hh;replace hh:=show Hp w (.row q.A q.n q.c 80 4 (aA TR.cells q.ts)::_) _ from hh;by_cases hE2:E≠0
   ·refine mT ?_;refine dE ?_;refine dE ?_;refine bJ hh ?_;intro b9 w9 hh;refine bL hh 0 [_,_] ?_;intro ws hh;replace hh:Hp _ (.blk _ _ [_,_] _::_) _:=hh;refine aI (aa (ah (sr (mI ?_))));refine cY (aa (cT (sr ?_)));refine fe [_,_] (mI ?_);refine bL hh 2 [_,_] ?_;intro ws hh;replace hh:Hp _ (_::_::.blk _ _ [_,_] _::_) _:=hh;refine aI (aa (av (aK ?_)));refine px ?_;exact ⟨FX.nil,Out.err hE2,rfl,(hh.sub (Xq _)).JX⟩
   ·have hE0:E=0:=VZ;subst hE0;obtain ⟨hso,hsr⟩:=hsp rfl;have et:q.ts=S:=oq.t0;rw [et] at hh;clear oq et;generalize q.v=qv at*;generalize q.A=qA at*;generalize q.n=qn at*;generalize q.c=qc at*;have hSl:S.length=qn:=(hh.aD (i:=0) rfl).bE TR.len V0;have hSn:=hso.len;obtain ⟨_,_,hSm,hSc⟩:=dH hso.e;refine mT ?_;refine dE ?_;refine dE ?_;refine bJ hh ?_;intro b9 w9 hh;refine bL hh 0 [_,_] ?_;intro ws hh;replace hh:Hp _ (.blk _ _ [_,_] _::_) _:=hh;refine aI (aa (ah (sr (mI ?_))));refine cY (aa (cF (ao (ai (sr (mL ?_))))));refine aE (hcl _ (hrd [_,_,_,_] _ hh)) au.out rfl V0 ?_;rintro e_ w42 ⟨A42,c42,rfl,hown_,hb_⟩;refine ⟨_,rfl, ?_⟩;replace hh:=hh.aO (x:=.row _ _ _ _ _ _) hb_ hown_;refine mL ?_;refine bq hh (hco _ (hrd [_,_,_,_,_] _ hh)) rfl ?_;intro w44 hh;refine gB (n:=(ar ns)) hh rfl rfl VZ VZ a9.out aJ.out rfl VZ VZ V0 ?_;intro b45 w45 hh;refine fe [_,_] ?_;refine bJ hh ?_;intro b11 w11 hh;refine bL hh 0 [_,_] ?_;intro ws hh;replace hh:Hp _ (.blk _ _ [_,_] _::_) _:=hh;refine aa (ah (sr (bC ?_)));refine bA hh 3 ?_;refine aF (mI (aa (aq ?_)));rw [nu,←bM ns,←Ry ns.reverse,bM] at hh
    refine aW [13,14,15,16,50,51,52,53,54,55,56,57,58,59,60,61,62,63,64,65,66,67,68,69,70,71,72,73,74,75,76,77,78,79] 50
     (fun v w'=>∃i:Nat,i≤qn∧v=.int .i64 i∧Hp w (.blk b11 33 [.slice A42 m2 c42,.slice (some ⟨b45,0,none⟩) (ar ns) (ar ns)] (0,0)::.row (some ⟨b45,0,none⟩) (ar ns) (ar ns) 40 3 (aA NR.cells ((X0 ns.reverse (sg (S.take i))).map nR))::.row A42 m2 c42 3 1 (a7 D)::.blk b9 24 [.int .i64 qv,.slice qA qn qc] (0,0)::.row qA qn qc 80 4 (aA TR.cells S)::.blk b6 33 [.slice none 0 0,.slice none 0 0] (0,0)::.blk b3 24 [.int .i64 p.v,.slice p.A p.n p.c] (0,0)::R) w')
     (fun v _=>qn-(intOf v).toNat) ?_ ?_
    ·exact ⟨0,V8 _,rfl,hh⟩
    ·clear hh;rintro ρ2 v w2 ⟨i,hi,rfl,hh⟩;by_cases hlt:i<qn
     ·obtain ⟨x,hx⟩:=al (l:=S) (k:=i) VZ;have hxm:=Wb hx;have hxo:=hsr x hxm;have hx2:=hSm x hxm;unfold fY at hx2;rw [Wm,Wt] at hx2;have hxs:x.m.size=n:=VZ;have hxz:=hso.sz x hxm;have hxc:x.c=nR x.c.d:=hSc.nf x hxm;have hex:il x.m.data.toList=bp (gu x.m):=by rw [jS hx2.1,xu]
      have hesl:(gu x.m).length=n:=by rw [qu];exact hxs
      have hel:(il x.m.data.toList).length=n:=by rw [hex,gJ];exact hesl
      have hset:=Na hsr hSc.sB hx;have hX0l:((X0 ns.reverse (sg (S.take i))).map nR).length=ar ns:=by rw [Wi];unfold X0;rw [lv,bM]
      have hcell:aA TR.cells S=aA TR.cells S:=rfl;have hokat:∀(j d r:Nat),ns[j]?=some d→(gu x.m)[j]?=some r→r≤d:=fun j d r hd hr=>by
       have hj:=(Wk.1 hd).1;refine ((iP _ _).1 hxo).2 (n-1-j) d r ?_ ?_
       ·rw [Xh VZ,show ns.length-1-(n-1-j)=j by omega];exact hd
       ·rw [Xh VZ,show (gu x.m).length-1-(n-1-j)=j by omega];exact hr
      obtain ⟨gq,rfl⟩:=hh.bZ (i:=4) rfl VZ;refine sr ?_;refine eb ?_;refine fP ?_;refine cz (vs:=[_,_,_,_]) aJ.out rfl (hh.iF (f:=TR.cells) (x:=x) (l:=S) (i:=4) rfl TR.len V0 hx) rfl V0 ?_;refine bJ hh ?_;intro b13 w13 hh;refine bL hh 0 [_,_,_,_] ?_;intro ws hh;replace hh:Hp _ (.blk _ _ [_,_,_,_] _::_) _:=hh;refine aa (sr (aI (aa (ah (sr (bC ?_))))));refine bA hh 0 ?_;refine aE (g8 x.m _ hxz) au.out rfl V0 ?_;rintro e_ w56 ⟨A56,c56,rfl,hown_,hb_⟩;refine ⟨_,rfl, ?_⟩;replace hh:=hh.aO (x:=.row _ _ _ _ _ _) hb_ hown_;rw [hel,hex] at hh;rw [hel];refine aF (mI (aa (aq ?_)));refine bz [14,15,16,58,59,60,61,62,63,64,65,66,67,68,69,70,71,72] 14 58
       (fun a v w'=>∃(j z:Nat),j≤n∧v=.int .i64 j∧a=.int .i64 z∧z=eu (ns.take j).reverse ((gu x.m).take j).reverse∧z<ar (ns.take j)∧Hp w (.row A56 n c56 3 1 (a7 (bp (gu x.m)))::.blk b13 80 [.string x.m,.bool x.c.neg,.string x.c.bk,.int .i64 x.c.e] (0,0)::.blk b11 33 [.slice A42 m2 c42,.slice (some ⟨b45,0,none⟩) (ar ns) (ar ns)] (0,0)::.row (some ⟨b45,0,none⟩) (ar ns) (ar ns) 40 3 (aA NR.cells ((X0 ns.reverse (sg (S.take i))).map nR))::.row A42 m2 c42 3 1 (a7 D)::.blk b9 24 [.int .i64 qv,.slice (some ⟨gq,0,none⟩) qn qc] (0,0)::.row (some ⟨gq,0,none⟩) qn qc 80 4 (aA TR.cells S)::.blk b6 33 [.slice none 0 0,.slice none 0 0] (0,0)::.blk b3 24 [.int .i64 p.v,.slice p.A p.n p.c] (0,0)::R) w')
       (fun _ v _=>n-(intOf v).toNat) ?_ ?_
      ·exact KH
      ·clear hh;rintro ρ3 a_ v w3 ⟨j,z,hj,rfl,rfl,hz,hz2,hh⟩;by_cases hjn:j<n
       ·obtain ⟨d,hd⟩:=al (l:=ns) (k:=j) VZ;obtain ⟨r,hr⟩:=al (l:=gu x.m) (k:=j) VZ;have hrd2:=hokat j d r hd hr;have hd7:=hlow d (Wb hd);have hgD:(a7 D)[j]?=some (.int .i64 (d:Int)):=by rw [hnat];exact bR (ez hd)
        have hgE:=bR (ez hr);have hst:=vk hd hr;have hcs:=uZ hd;rw [bM,bM] at hcs;rw [←hz] at hst;have hct:=gg ns (j+1);have hnew:r+(d+1)*z<(d+1)*ar (ns.take j):=by
         have:(d+1)*(z+1)≤(d+1)*ar (ns.take j):=WM _ hz2;rw [XC] at this;omega
        have hpr:(z:Int)*((d:Int)+1)=(((d+1)*z:Nat):Int):=by rw [Wz,Xk,X7];rfl
        have hDs:=hrd [_,_,_,_,_,_,_,_,_] _ hh;obtain ⟨ad,hMe,hsr2⟩:=hDs.at_ VZ;have su:Value.slice M2 m2 mc2=.slice (some ad) m2 mc2:=by rw [hMe]
        have hel2:(a7 (bp (gu x.m))).length=n:=by rw [bQ,gJ];exact hesl
        obtain ⟨gx,rfl⟩:=hh.bZ (i:=0) rfl VZ;refine sr ?_;refine dY ?_;refine rL ?_;refine ji ?_;refine aI (aI (aa (ak (mI (mL (mI ?_))))));refine IY ?_;refine bX aJ.out rfl (hsr2.wN hgD) V0 ?_;refine bj ?_;refine mulC (mI ?_);refine bj (aI (az (bF (ai (ak ?_)))));refine bj (mI (az (ai ?_)));rw [hpr];refine ⟨⟨j+1,r+(d+1)*z,VZ,rfl, ?_,hst.symm,VZ,hh⟩,by show n-(j+1)<n-j;omega, ?_⟩
        ·show Value.int IntKind.i64 ((((d+1)*z:Nat):Int)+(r:Int))=_;rw [show (((d+1)*z:Nat):Int)+(r:Int)=((r+(d+1)*z:Nat):Int) by omega]
        ·exact dF
       ·obtain rfl:j=n:=VZ;rw [Wc VZ,Wc VZ] at hz;rw [Wc VZ] at hz2;rw [←hz] at hset;generalize X0 ns.reverse (sg (S.take i))=X at*;have hrl:=fy NR.len (X.map nR);refine sr ?_;refine a0 (aa (ah (cF (aZ (aC (aC (br (ai (ak (bC ?_))))))))));refine bA hh 2 ?_;refine mI (bC ?_);refine bY hh 1 [_,_,_] ?_;refine dq (k:=z) a9.out aJ.size rfl rfl VZ VZ V0 ?_;refine cf hh (i:=3) (vs:=[_,_,_]) rfl rfl (g6 rfl) rfl aJ.out rfl VZ rfl ?_;intro ws hh;simp only [Wh,WI] at hh;rw [hxc,show cd (aA NR.cells (X.map nR)) (z*3) [.bool (nR x.c.d).neg,.string (nR x.c.d).bk,.int .i64 (nR x.c.d).e]=aA NR.cells ((X.map nR).set z (nR x.c.d)) from jk NR.len VZ,←YC,hset] at hh;refine fN ?_;refine bj (mI (az (ai ?_)));replace hh:=hh.sub (Wa _ (Wa _ (V7 _ (V7 _ (V7 _ (V7 _ (V7 _ (V7 _ (V7 _ (Xf _))))))))));refine ⟨⟨i+1,VZ,rfl,hh⟩,by show qn-(i+1)<qn-i;omega, ?_⟩;exact dF
     ·obtain rfl:i=qn:=VZ;rw [Wc VZ,show X0 ns.reverse (sg S)=pE ns.reverse (sg S) 0 from rfl] at hh;have hoff:=Kj hsr;have hXz:=JT (SU (ds:=ns.reverse) hso.ok) (fun d hd=>hlow d (YX.1 hd));have hnr:ns.reverse.length=n:=by rw [WE];omega
      refine sr ?_;refine a0 (aa (ah (cF (aZ (aC (aC (br (ai (ah (sr (mL (aF (mI (aa (aq ?_)))))))))))))));replace hh:=hh.sub (V7 _ (V7 _ (V7 _ (Wa _ (Wa _ (V7 _ (V7 _ (Xf _))))))));refine aW [17,82,83,84,85,86,87,88,89,90,91,92] 82
       (fun v w'=>∃(j:Nat) (A:Option Addr) (ac:Nat),j≤n∧v=.int .i64 j∧Hp w (.blk b11 33 [.slice A42 m2 c42,.slice A (ar ns) ac] (0,0)::.row A (ar ns) ac 40 3 (aA NR.cells ((pE ns.reverse (sg S) j).map nR))::.row A42 m2 c42 3 1 (a7 D)::.blk b6 33 [.slice none 0 0,.slice none 0 0] (0,0)::.blk b3 24 [.int .i64 p.v,.slice p.A p.n p.c] (0,0)::R) w')
       (fun v _=>n-(intOf v).toNat) ?_ ?_
      ·exact ⟨0,_,_,V8 _,rfl,hh⟩
      ·clear hh;rintro ρ4 v w4 ⟨j,A,ac,hj,rfl,hh⟩;by_cases hjn:j<n
       ·obtain ⟨d,hd⟩:=al (l:=ns) (k:=j) VZ;have hd7:=hlow d (Wb hd);have hrm:=Ml hd;have hol:(pE ns.reverse (sg S) j).length=ar ns:=by rw [z9,bM]
        have hof:=fun w1 hs=>jJ M2 m2 mc2 j d ns w1 (by rw [←hnat];exact hs) hmc2 VZ hd hlow hmost;have hcn:ar ns=ar ((ns.drop (j+1)).reverse++d::(ns.take j).reverse):=by rw [←hrm,bM]
        have hli:=fun w1 hT1 hS1=>mR 50 (ns.drop (j+1)).reverse (ns.take j).reverse d (d+1) (kK d (eV d 1 1)) A (ar ns) ac (440000+S.length+520*j) (pE ns.reverse (sg S) j) w1 hT1 hS1 hcn hmost (V9 _) hd7 (hXz j) (fun Y E ec w2 hT2 hy hs=>xR E (d+1) ec d Y _ w2 hT2 hs rfl hd7 hy VZ) (fun Y _=>by simp [kK]);have hM:=H9 (M:=eV d 1 1) (A:=(ns.drop (j+1)).reverse) (B:=(ns.take j).reverse) (X:=pE ns.reverse (sg S) j) (hol.trans hcn);have hsu:=ru ns.reverse (sg S) j;have hgd:ns.reverse.getD (ns.reverse.length-1-j) 0=d:=by
         rw [Xl,Xh VZ,show ns.length-1-(ns.reverse.length-1-j)=j by omega,hd]
         rfl
        rw [hgd,show ns.reverse.length-1-j=(ns.drop (j+1)).reverse.length by rw [WE,WE,Xu];omega] at hsu;rw [hol,←hrm,←hsu] at hM;rw [hM,bM] at hli;clear hM hsu hgd hcn;refine sr ?_;refine a0 (aa (ah (cT (ao (ai (ah (aq (sr (mI (aI (aa ?_)))))))))));refine aN 5 [[(2,none)],[(17,none)],[(85,some 0),(86,some 1)],[(11,none)],[(88,some 3)]] [(4,89),(3,88),(2,87),(1,86),(0,85)] hh mixed V2 ?_;refine fD ?_;refine dn ?_;refine dC (fun _ hj=>hof _ (hrd [_,_,_,_,_] _ hj.hp)) ?_;refine da ?_;refine dN 0 ?_;refine aG ?_;intro f W hJ hV;have hb_24:=hJ.bl;obtain ⟨v89,v88,v87,v86,v85,_⟩:=hV;replace hh:=hJ.hp;refine aU (bg (ae v89 (ae v88 (ae v87 (ae v86 (ae v85 aT)))))) ?_;dsimp only [bI];clear hJ;refine aE (hli _ (hT.hp hh) (hh.aD (i:=1) rfl)) au.out rfl V0 ?_;rintro e_ w90 ⟨E,ec,rfl,h4⟩;refine ⟨_,rfl, ?_⟩;replace hh:=hh.join h4;clear h4;simp only [Wf,Wd] at hh;refine bC ?_;refine bL hh 1 [_] ?_;intro ws hh;replace hh:Hp _ (_::.blk _ _ [_,_] _::_) _:=hh;refine fN ?_;refine bj (mI (az (ai ?_)))
        replace hh:=hh.sub (V7 _ (V7 _ (Wa _ (V7 _ (V7 _ (V7 _ (Xf _)))))));replace hh:=hh.perm (WZ (l₁:=[_]));simp only [Wf,Wd] at hh;refine ⟨⟨j+1,E,ec,VZ,rfl,hh⟩,by show n-(j+1)<n-j;omega, ?_⟩;exact dF
       ·obtain rfl:j=n:=VZ;rw [hnl,hbl] at hoff;rw [hoff] at hh;refine sr ?_;refine mf ?_;refine bY hh 0 [_,_] ?_;refine bL hh 3 [_,_] ?_;intro ws hh;replace hh:Hp _ (_::_::_::.blk _ _ [_,_] _::_) _:=hh;refine aI (aa (av ?_));refine KZ ?_;exact ⟨⟨A42,m2,c42,A,ar ns,ac,D,(zJ ns S).map nR⟩,⟨hnat,rfl,by show m2≤100000;omega,by show ar ns≤1000000;omega⟩,rfl,hh.sub (.cons _ (.cons_cons _ (.cons_cons _ (Xq _))))⟩
def Vk (b:List SR) (xs:List Dyadic):List Dyadic:=b.mapIdx fun i s=>s.L+(s.H-s.L)*(xs[i]?).getD 0
variable {M:List Nat}{ws:World}
section
variable {P:Program}{N:Nat}{Q:Kd}{ρ:Rf}{w:World}
theorem WD.mono {c:Code}{Q':Kd} (h:WD P N c Q ρ w) (hq:∀e M ρ w,Q e M ρ w→Q' e M ρ w):WD P N c Q' ρ w:=
 ⟨fun M a hf n=>wpIn_mono (h.out M a hf n) fun e a' w' ⟨M',ρ',hf',hk⟩=>⟨M',ρ',hf',hq e M' ρ' w' hk⟩⟩
theorem I5 {c:Code} (mods:List Nat) (s0 s1:Nat) (I:List Nat→Value→Value→World→Prop) (μ:Value→Value→World→Nat) (h0:I [] (ρ s0) (ρ s1) w)
  (round:∀M ρ' v0 v1 w',I M v0 v1 w'→WD P N c (fun e M2 ρ2 w2=>za (fun M3 ρ2 w2=>I M3 (ρ2 s0) (ρ2 s1) w2∧μ (ρ2 s0) (ρ2 s1) w2<μ v0 v1 w'∧iI mods ρ2 ρ) Q e (M2++M) ρ2 w2) (cH (cH (mask mods ρ' ρ) s0 v0) s1 v1) w'):WD P N (.loop c) Q ρ w:=
 M6 (fun M ρ1 w1=>I M (ρ1 s0) (ρ1 s1) w1∧iI mods ρ1 ρ) (fun ρ1 w1=>μ (ρ1 s0) (ρ1 s1) w1) ⟨h0,fun _ _=>rfl⟩ fun M ρ1 w1 ⟨hi,ha⟩=>by
  have h:=round M ρ1 (ρ1 s0) (ρ1 s1) w1 hi;rw [iT ha,gI,gI] at h;exact h.mono fun e M2 ρ2 w2 hq=>by
   cases e with
   |normal=>exact ⟨⟨hq.1,hq.2.2⟩,hq.2.1⟩
   |_=>exact hq
theorem RA {id:Nat}{next:List Nat→Rf→World→Prop} (h:next M ρ w):KL (ug M (KU id (za next Q))) .normal ρ w:=h
theorem JL {M0:List Nat}{next:List Nat→Rf→World→Prop} (h:next (M++M0) ρ w):KL (ug M (fun e M2 ρ2 w2=>za next Q e (M2++M0) ρ2 w2)) .normal ρ w:=h
theorem NU {M0:List Nat}{id:Nat}{next next':List Nat→Rf→World→Prop} (h:next' M0 ρ w):KL (fun e M2 ρ2 w2=>za next (KU id (za next' Q)) e (M2++M0) ρ2 w2) (.exit id) ρ w:=by
 show if id=id then za next' Q .normal ([]++M0) ρ w else za next' Q (.exit id) ([]++M0) ρ w
 rw [V5 rfl];exact h
end
structure Marks (w0:World) (M:List Nat) (w:World):Prop where
 at_:∀D∈M,w0.heap.size≤D∧w.heap[D]?=some (.deferred (some []))
 nd:M.Nodup
theorem Ec (M:List Nat):(qe M).filterMap HE.id=M:=by
 induction M with
 |nil=>rfl
 |cons D M ih=>rw [show qe (D::M)=.ob D (.deferred (some []))::qe M from rfl,XE,show HE.id (.ob D (.deferred (some [])))=some D from rfl];simp only [ih]
theorem Hp.marks {H:List HE} (h:Hp w0 (H++qe M) w):Marks w0 M w:=by
 refine ⟨fun D hD=>h.own (.ob D (.deferred (some []))) (XU _ (List.mem_map_of_mem (f:=fun D=>HE.ob D (.deferred (some []))) hD)), ?_⟩;have:=h.nd;rw [Yz,Ec] at this;exact (Zc.1 this).2.1
theorem Hp.RW {H:List HE} (h:Hp w0 H w) (hc:∀x∈H,x.Sg=true) (hm:Marks w0 M w):Hp w0 (H++qe M) w:=by
 refine ⟨h.below,fun x hx=> ?_, ?_⟩
 ·rcases W3.1 hx with hx|hx
  ·exact h.own x hx
  ·obtain ⟨D,hD,rfl⟩:=Wo.1 hx;exact hm.at_ D hD
 ·rw [Yz,Ec];refine Zc.2 ⟨h.nd,hm.nd,fun a ha b hb e=> ?_⟩;subst e;obtain ⟨y,hy,hyb⟩:=Xp.1 ha;obtain ⟨o',h2,h3⟩:=uo (h.own y hy) (hc y hy) hyb;rw [(hm.at_ a hb).2] at h2
  cases h2
  cases h3
theorem Marks.keeps (h:Marks w0 M w) (hk:KeepsOthers w w'):Marks w0 M w':=⟨fun D hD=>⟨(h.at_ D hD).1,hk.2 D _ (h.at_ D hD).2 rfl⟩,h.nd⟩
theorem Marks.grown (h:Marks w0 M w) (hlt:∀D∈M,D<ws.heap.size) {row:Option Nat} (hg:w.grownBy w' row) (hr:∀r,row=some r→ws.heap.size≤r):Marks w0 M w':=by
 refine ⟨fun D hD=>⟨(h.at_ D hD).1, ?_⟩,h.nd⟩;have h1:=(h.at_ D hD).2;refine (hg.block D (YY.1 h1).1 fun e=> ?_).trans h1;have:=hr D e.symm;have:=hlt D hD;omega
theorem Marks.lt (h:Marks w0 M w):∀D∈M,D<w.heap.size:=fun D hD=>(YY.1 (h.at_ D hD).2).1
theorem Marks.cons {D:Nat} (h:Marks w0 M w) (hlt:∀D∈M,D<ws.heap.size) (h0:w0.heap.size≤ws.heap.size) (hD:ws.heap.size≤D) (h1:w.heap[D]?=some (.deferred (some []))):Marks w0 (D::M) w:=by
 refine ⟨fun E hE=> ?_,XR.2 ⟨fun hm=> ?_,h.nd⟩⟩
 ·rcases Wp.1 hE with rfl|hE
  ·exact ⟨VZ,h1⟩
  ·exact h.at_ E hE
 ·have:=hlt D hm;omega
theorem Hp.Rk {L:List HE} (h:Hp w0 L w) (hs:(qe M).Sublist L):Marks w0 M w:=Hp.marks (H:=[]) (h.sub hs)
theorem Hp.Q3 {x y:HE}{T T':List HE} (hs:Hp w0 (x::T) w) (hc:∀z∈x::T,z.Sg=true) (he:Hp w0 (y::(T'++Cl w0.heap.size ((x::T).filterMap HE.id) w)) w') (hid:T'.filterMap HE.id=T.filterMap HE.id) (hy:y.id=some b):KeepsOthers w w':=by
 have hoth:∀k,k<w.heap.size→w0.heap.size≤k→k∉(x::T).filterMap HE.id→∃o,w.heap[k]?=some o∧HE.ob k o∈Cl w0.heap.size ((x::T).filterMap HE.id) w:=fun k hk h0 hm=>⟨w.heap[k],Yv hk,Xp.2 ⟨k,Xn.2 hk,by
  unfold MO;rw [V5 ⟨h0,by simpa using hm⟩,Yv hk]
  rfl⟩⟩
 have hob:∀z∈Cl w0.heap.size ((x::T).filterMap HE.id) w,z∈y::(T'++Cl w0.heap.size ((x::T).filterMap HE.id) w):=fun z hz=>Wl _ (XU _ hz);have hbl:=ea (he.own y Wj) hy;have hnd:=he.nd;rw [XE,hy] at hnd;have hnd1:=(XR.1 hnd).1;refine ⟨?_,fun k o h1 h2=> ?_⟩
 ·rcases XM w.heap.size with h|h
  ·omega
  ·have hk:w.heap.size-1<w.heap.size:=VZ;by_cases h0:w.heap.size-1<w0.heap.size
   ·have:=he.size;omega
   ·by_cases hm:w.heap.size-1∈(x::T).filterMap HE.id
    ·rw [XE] at hm;have hT:w.heap.size-1∈T.filterMap HE.id→w.heap.size≤w'.heap.size:=fun hm=>by
      obtain ⟨z,hz,hzb⟩:=Xp.1 (hid ▸ hm);have:=(ea (he.own z (Wl _ (X5 _ hz))) hzb).2;omega
     split at hm
     ·exact hT hm
     ·rename_i r hr
      rcases Wp.1 hm with e|hm
      ·by_cases hb:b<w.heap.size
       ·by_cases hbk:b=w.heap.size-1
        ·omega
        ·exfalso;by_cases hbm:b∈(x::T).filterMap HE.id
         ·rw [XE,hr] at hbm
          rcases Wp.1 hbm with e2|hbm
          ·omega
          ·rw [←hid] at hbm;exact hnd1 (by rw [Yz];exact X5 _ hbm)
         ·obtain ⟨o,_,h3⟩:=hoth b hb hbl.1 hbm;exact hnd1 (by rw [Yz];exact XU _ (Xp.2 ⟨_,h3,rfl⟩))
       ·omega
      ·exact hT hm
    ·obtain ⟨o,_,h3⟩:=hoth _ hk VZ hm;have:=(ea (he.own _ (hob _ h3)) rfl).2;omega
 ·have hk:=(YY.1 h1).1;by_cases h0:k<w0.heap.size
  ·exact (he.below.block k h0).trans ((hs.below.block k h0).symm.trans h1)
  ·by_cases hm:k∈(x::T).filterMap HE.id
   ·obtain ⟨z,hz,hzb⟩:=Xp.1 hm;obtain ⟨o',h3,h4⟩:=uo (hs.own z hz) (hc z hz) hzb;rw [h1] at h3
    cases h3
    rw [h2] at h4
    cases h4
   ·obtain ⟨o',h3,h4⟩:=hoth k hk VZ hm;rw [h1] at h3
    cases h3
    exact (he.own _ (hob _ h4)).2
variable {q:Nat}
def lO (d:Nat) (t:Dyadic) (xs:List Dyadic) (i:Nat):Dyadic:=sm (List.range i) fun r=>iX xs r*vz d r t
theorem Gz (d:Nat) (t:Dyadic) (xs:List Dyadic) (i:Nat):lO d t xs (i+1)=lO d t xs i+iX xs i*vz d i t:=by
 unfold lO;rw [YJ,nw]
theorem yp {d i:Nat}{t:Dyadic}{xs:List Dyadic} (hx:∀x∈xs,Sz k x) (ht:Sz q t) (ht1:Sz q (1-t)) (hi:i≤d+1):Sz (k+(2+2*(q*d))+i) (lO d t xs i):=by
 have h2:=BW (l:=List.range i) (f:=fun r=>iX xs r*vz d r t) (k:=k+(2+2*(q*d))) fun r hr=>by
  have hr:=Xn.1 hr;unfold vz;exact ((yJ hx r).mul ((ht.BK (show r≤d by omega)).mul (ht1.BK (show d-r≤d by omega)))).mono VZ
 rw [Ye] at h2;exact h2
theorem vJ (tn:NR) (t:Dyadic) (bt bl:Addr) (L:Option Addr) (n c d:Nat) (xs:List Dyadic) (k q:Nat) (w:World) (hT:er w) (hS:Sl w L n 3 (aA NR.cells (xs.map nR))) (hn:n=d+1) (hd:d≤127) (hx:∀x∈xs,Sz k x) (vt:Ol q tn t) (ht1:Sz q (1-t))
  (hb1:Rd w bt [.bool tn.neg,.string tn.bk,.int .i64 tn.e]) (hb2:Rd w bl [.bool (nR (1-t)).neg,.string (nR (1-t)).bk,.int .i64 (nR (1-t)).e]) (hk:k≤500000) (hq:q≤2000):
  Calls Tryz.prog 107 #[.slice L n c,.pointer (some bt),.pointer (some bl)] w fun r w'=>r=.returned (.agg #[.bool (nR (lO d t xs (d+1))).neg,.string (nR (lO d t xs (d+1))).bk,.int .i64 (nR (lO d t xs (d+1))).e])∧Below w.heap.size w w':=by
 have hh:=Hp.start w;have hln:xs.length=n:=by have:=hS.bE NR.len V0;simpa using this
 have hqd:q*d≤2000*127:=Yr hq hd;have ht:=vt.sz;have hpw:∀(sn:NR) (z:Dyadic),Ol q sn z→∀(i:Nat),i≤d→∀w1,er w1→Calls Tryz.prog 88 #[.agg #[.bool sn.neg,.string sn.bk,.int .i64 sn.e],.int .i64 (i:Int)] w1 fun r w'=>r=.returned (.agg #[.bool (nR (z^i)).neg,.string (nR (z^i)).bk,.int .i64 (nR (z^i)).e])∧Below w1.heap.size w1 w':=fun sn z hz i hi w1 hT1=>by
  have h1:=hz.bk;have h2:i*sn.bk.size≤127*2001:=Yr VZ VZ;have:=uX sn i w1 hT1 hz.ok (by rw [Xd];omega) VZ;rwa [hz.d,Xd] at this
 obtain ⟨ad,rfl,hr⟩:=hS.at_ VZ;refine aj (N:=35) (l:=[.slice (some ad) n c,.pointer (some bt),.pointer (some bl)]) Tryz.func107 rfl rfl (by simp) ?_;refine sr ?_;refine bJ hh ?_;intro b4 w4 hh;refine aa (sr (mL (aF ?_)));refine dQ (aI (aa (sr ?_)));refine bJ hh ?_;intro b6 w6 hh;refine xw ?_;refine aW [7,8,14,15,16,17,18,19,20,21,22,23,24,25,26,27,28,29,30,31,32,33] 14
  (fun v w'=>∃i:Nat,i≤n∧v=.int .i64 i∧Hp w [.blk b6 40 [.bool (nR (lO d t xs i)).neg,.string (nR (lO d t xs i)).bk,.int .i64 (nR (lO d t xs i)).e] (0,0),.blk b4 40 [.bool false,.string (ByteArray.mk #[]),.int .i64 0] (0,0)] w')
  (fun v _=>n-(intOf v).toNat) ?_ ?_
 ·exact ⟨0,V8 _,rfl,hh⟩
 ·clear hh;rintro ρ' v w' ⟨i,hi,rfl,hh⟩;by_cases hlt:i<n
  ·obtain ⟨x,hxi⟩:=al (l:=xs) (k:=i) VZ;have hxn:(xs.map nR)[i]?=some (nR x):=by rw [Wg,hxi];rfl
   have hat:iX xs i=x:=by unfold iX;rw [hxi];rfl
   have zx:=hx x (Wb hxi);have hpa:=hpw tn t vt i VZ;have hpb:=hpw (nR (1-t)) (1-t) (Ol.of ht1 hq) (d-i) VZ;have zp:=ht.BK (show i≤d by omega);have zq:=ht1.BK (show d-i≤d by omega);have zo:=yp (d:=d) (i:=i) hx ht ht1 VZ;have zy:=(zx.mul zp).mul zq;have hst:=Gz d t xs i;unfold vz at hst;rw [hat,←Dyadic.mul_assoc] at hst;have hm3:=fun A cc w1 hT1 hS1=>fk A 3 cc [nR x,nR (t^i),nR ((1-t)^(d-i))] w1 hT1 hS1 (by simpa using ⟨zx.ok VZ,zp.ok VZ,zq.ok VZ⟩) 600000 (by simpa [cj] using ⟨zx.mono VZ,zp.mono VZ,zq.mono VZ⟩) VZ VZ;rw [show ik ([nR x,nR (t^i),nR ((1-t)^(d-i))].map NR.d)=x*t^i*(1-t)^(d-i) by simp only [Wv,WV,cj];show 1*x*_*_=_;rw [Yt]] at hm3;generalize x*t^i*(1-t)^(d-i)=y at*;have hsum:=fun A cc w1 hT1 hS1=>iW A 2 cc [nR (lO d t xs i),nR y] w1 hT1 hS1 (by simpa using ⟨zo.ok VZ,zy.ok VZ⟩) 2000000 (by simpa [cj] using ⟨zo.mono VZ,zy.mono VZ⟩) VZ;rw [show mv ([nR (lO d t xs i),nR y].map NR.d)=lO d t xs i+y by simp only [Wv,WV,cj,k8],←hst] at hsum;generalize hS2:lO d t xs (i+1)=S2 at*
   generalize lO d t xs i=S1 at*;have e27:(n:Int)-1-(i:Int)=((d-i:Nat):Int):=VZ;refine sr ?_;refine dY ?_;refine jt ?_;refine Jq ?_;refine bJ hh ?_;intro b8 w8 hh;refine aI ?_;refine bL hh 0 [_,_,_] ?_;intro ws hh;replace hh:Hp _ (.blk _ _ [_,_,_] _::_) _:=hh;refine aa ?_;rw [←e27] at hpb;refine aN 12 [[(6,none)],[(8,none)],[(1,none)],[(7,none)],[(21,some 2),(22,some 3)],[(2,none)],[(5,none)],[(7,none)],[(25,some 6),(26,some 7)],[(24,some 5),(27,some 8)],[(20,some 1),(23,some 4),(28,some 9)],[(29,some 10)]] [(11,30),(10,29),(9,28),(8,27),(7,26),(6,25),(5,24),(4,23),(3,22),(2,21),(1,20),(0,19)] hh mixed V2 ?_;refine eJ 1 [_,_,_] ?_;refine eJ 0 [_,_,_] ?_;refine qK [_,_,_] (fun _ hj=>hb1.ext hj.hp.below) ?_;refine dn ?_;refine dC (fun _ hj=>hpa _ (hT.hp hj.hp)) ?_;refine qK [_,_,_] (fun _ hj=>hb2.ext hj.hp.below) ?_;refine dn ?_;refine dn ?_;refine so ?_;refine dC (fun _ hj=>hpb _ (hT.hp hj.hp)) ?_;refine rh [_,_,_,_,_,_,_,_,_] ?_;refine aP (i:=11) (Is (.agg #[.bool (nR y).neg,.string (nR y).bk,.int .i64 (nR y).e])) Is.ext ?_ ?_
   ·intro ρ1 w1 hj hR;obtain ⟨A29,c29,h29,s29⟩:=hR.1;exact bf rfl (aQ au.out (aw h29 a8)) (hm3 A29 c29 _ (hT.hp hj.hp) s29) (fun _ _ hq=>⟨_,hq.1,hq.2,rfl⟩)
   refine aG ?_;intro f W hJ hV;have hb_6:=hJ.bl;obtain ⟨v30,v29,v28,v27,v26,v25,v24,v23,v22,v21,v20,v19,_⟩:=hV;obtain ⟨A29,c29,e29,f29⟩:Rows _ _ _ (f 10) W:=v29;replace hh:=hJ.hp;refine aU (bg (ae v30 (ae e29 (ae v28 (ae v27 (ae v26 (ae v25 (ae v24 (ae v23 (ae v22 (ae v21 (ae v20 (ae v19 aT))))))))))))) ?_;dsimp only [bI];clear e29 hJ;refine xI ?_;intro b31 w31 hh;refine bq hh (hsum _ _ _ (hT.hp hh) (hh.aD (i:=0) rfl)) rfl ?_;intro w32 hh;refine bL hh 2 [_,_,_] ?_;intro ws hh;replace hh:Hp _ (_::_::.blk _ _ [_,_,_] _::_) _:=hh;refine fN ?_;refine bj (mI (az (ai ?_)));replace hh:=hh.sub (Wa _ (Wa _ (V7 _ (V7 _ Wx))));refine ⟨⟨i+1,VZ,rfl,by rw [hS2];exact hh⟩,by show n-(i+1)<n-i;omega, ?_⟩;exact dF
  ·obtain rfl:i=n:=VZ;rw [show i=d+1 from hn] at hh;refine sr ?_;refine mf ?_;refine bY hh 0 [_,_,_] ?_;exact QG
theorem yi (tn:NR) (t:Dyadic) (q:Nat) (w:World) (hT:er w) (vt:Ol q tn t) (hq:q≤2000):
  Calls Tryz.prog 51 #[.agg #[.bool tn.neg,.string tn.bk,.int .i64 tn.e]] w fun r w'=>∃b1 b3,r=.returned (.func (.func 107) #[] #[.pointer (some ⟨b1,0,none⟩),.pointer (some ⟨b3,0,none⟩)])∧Hp w [.blk b3 40 [.bool (nR (1-t)).neg,.string (nR (1-t)).bk,.int .i64 (nR (1-t)).e] (0,0),.blk b1 40 [.bool tn.neg,.string tn.bk,.int .i64 tn.e] (0,0)] w':=by
 have hh:=Hp.start w;have hof:∀w1,er w1→Calls Tryz.prog 17 #[.int .i64 1] w1 fun r w'=>r=.returned (.agg #[.bool (nR (1:Dyadic)).neg,.string (nR (1:Dyadic)).bk,.int .i64 (nR (1:Dyadic)).e])∧Below w1.heap.size w1 w':=fun w1 hT1=>lj 1 w1 hT1 V0 V0;have hsb:=fun w1 hT1=>l9 (nR (1:Dyadic)) tn w1 hT1 (Sz.one.ok VZ) vt.ok (q+1) (by rw [cj];exact Sz.one.mono VZ) (by rw [vt.d];exact vt.sz.mono VZ) VZ;simp only [cj,vt.d] at hsb;refine aj (N:=8) (l:=[.agg #[.bool tn.neg,.string tn.bk,.int .i64 tn.e]]) Tryz.func51 rfl rfl (by simp) ?_;refine sr ?_;refine bV hh [_,_,_] ?_;intro b1 w1 hh;refine ki (by first|exact sP rfl|exact sH rfl) V0 ?_;refine aa (ah ?_);refine aN 4 [[],[(1,none)],[(4,some 0),(5,some 1)],[]] [(3,3),(2,6),(1,5),(0,4)] hh mixed V2 ?_;refine dC (fun _ hj=>hof _ (hT.hp hj.hp)) ?_;refine eJ 0 [_,_,_] ?_;refine dC (fun _ hj=>hsb _ (hT.hp hj.hp)) ?_;refine aP (i:=3) (cu _ 40 _) cu.ext (fun ρ1 w1 hj hR=>gL aJ.out hj.bl (fun v w2 h hb=>⟨hb,h⟩)) ?_;refine aG ?_;intro f W hJ hV;have hb_1:=hJ.bl;obtain ⟨v3,v6,v5,v4,_⟩:=hV;obtain ⟨b3,e3,hl3,hc3⟩:cu _ _ _ (f 3) W:=v3;replace hh:=hJ.newVar hh hl3 hc3
 refine aU (bg (ae e3 (ae v6 (ae v5 (ae v4 aT))))) ?_;dsimp only [bI];clear e3 hJ;refine bL hh 0 [_,_,_] ?_;intro ws hh;replace hh:Hp _ (.blk _ _ [_,_,_] _::_) _:=hh;refine aa (sr ?_);exact TQ
variable {ad:Addr}{m:Nat}
theorem Sl.part {l:List NR} (h:Sl w (some ad) n 3 (aA NR.cells l)) (p m:Nat) (hpm:p+m≤n) (hm:0<m):Sl w (some (ad.add (p*3))) m 3 (aA NR.cells ((l.drop p).take m)):=by
 have hl:=h.bE NR.len V0;obtain ⟨ad',e,r⟩:=h.2 VZ;obtain rfl:ad=ad':=WT e;refine ⟨by rw [fy NR.len,Ww,Xu,hl,Xg VZ],fun _=>⟨_,rfl,fun j u hu=> ?_⟩⟩;rw [lI];refine r (p*3+j) u ?_;rw [←lh NR.len,←jU NR.len,XF] at hu;split at hu
 ·rw [XY] at hu;exact hu
 ·cases hu
def mC (K q:Nat) (X:List Dyadic):List Dyadic:=(X.drop (q*K)).take K
theorem vX (K q:Nat) (X:List Dyadic):((X.map nR).drop (q*K)).take K=(mC K q X).map nR:=by unfold mC;rw [YV,Yy]
theorem rn {K:Nat}{x:Dyadic} (h:x∈mC K q X):x∈X:=Y4 (Yd h)
theorem xp {d:Nat} (t:Dyadic) (X:List Dyadic):lO d t (mC (d+1) q X) (d+1)=sm (List.range (d+1)) fun r=>(X[r+(d+1)*q]?).getD 0*vz d r t:=by
 unfold lO;refine fB fun r hr=> ?_;have hr:=Xn.1 hr;unfold iX mC;rw [XF,V5 hr,XY,show q*(d+1)+r=r+(d+1)*q by rw [Wz];omega]
theorem I4 {d:Nat} (t:Dyadic) (X:List Dyadic) (h:q<m):(lB d t m X)[q]?=some (lO d t (mC (d+1) q X) (d+1)):=by
 unfold lB;rw [Wg,W8 h,xp]
 rfl
theorem Jd {d:Nat}{t:Dyadic} (hx:∀x∈X,Sz k x) (ht:Sz q t) (ht1:Sz q (1-t)):∀x∈lB d t m X,Sz (k+(2+2*(q*d))+(d+1)) x:=fun x h=>by
 obtain ⟨p,_,rfl⟩:=Wo.1 h;rw [←xp];exact yp (fun y hy=>hx y (rn hy)) ht ht1 (V9 _)
theorem Cn {ns:List Nat}{ts:List Dyadic}{i d:Nat}{t:Dyadic} (X:List Dyadic) (hd:ns[i]?=some d) (ht:ts[i]?=some t):oF (ns.take (i+1)).reverse (ts.take (i+1)).reverse X=oF (ns.take i).reverse (ts.take i).reverse (lB d t (ar (ns.take i)) X):=by
 rw [ay hd,ay ht,Y8,Y8];show oF (d::(ns.take i).reverse) (t::(ts.take i).reverse) X=_;rw [oF,bM]
def Kb (fx:FX) (m:Nat):Int:=if fx.e≠0 then fx.e else if m≠fx.n then 1 else 0
def Nr (fx:FX) (tn:List NR):Dyadic:=if Kb fx tn.length=0 then xV fx.ns.reverse (fx.cs.map NR.d) (tn.map NR.d).reverse else 0
variable {fuel:Nat}{o:Oper}{ops:Array Oper}{rs:List Nat}
section
variable {P:Program}{N:Nat}{Q:Kq}{ρ:Rf}{w:World}{ro:Option Nat}{D:List Deferred}
structure WR (ro:Option Nat) (D:List Deferred) (P:Program) (N:Nat) (ops:Array Oper) (Q:Kq) (fuel:Nat) (L:Array Bool) (ρ:Rf) (w:World):Prop where
 out:∀a,eA N D a ρ→∀n,wpAnyIn (FW ro) n P .any ops (dw N D Q) fuel L a w
theorem yl {F:Fence}{a:Act}{K:Act→World→Prop}{r:Result Next} (h:o.uponIn F n P a K (dw N D (cG next Q)) r):o.uponIn F n P a K (dw N D Q) r:=by
 have hp:∀c a w,dw N D (cG next Q) (.panic c) a w→dw N D Q (.panic c) a w:=fun _ _ _ h=>h;have ho:LetsOut (dw N D (cG next Q))→LetsOut (dw N D Q):=fun ⟨a,w,h⟩=>⟨a,w,h⟩
 cases r with
 |ok n w'=>
  cases n<;>simp only [Oper.uponIn] at h ⊢ <;>first
   |exact h
   |exact ⟨h.1,CallsIn.mono h.2 (fun e w'' he=>by cases e<;>first|exact he|exact hp _ _ _ he|exact ho he)⟩
   |exact ⟨h.1,RoundIn.mono h.2 (fun e w'' he=>by cases e<;>first|exact he|exact hp _ _ _ he|exact ho he)⟩
 |halt x w'=>cases x<;>simp only [Oper.uponIn] at h ⊢ <;>first|exact h|exact hp _ _ _ h|exact ho h
theorem yR {L:Array Bool} (hr:Region.ready .any ops L=rs) (hne:rs≠[])
  (h:∀i∈rs,∃o,ops[i]?=some o∧WL ⟨ro,D,true⟩ P N ops (cG (fun ρ w=>WR ro D P N ops Q fuel (L.setIfInBounds i true) ρ w) Q) [o] ρ w):WR ro D P N ops Q (fuel+1) L ρ w:=by
 refine ⟨fun a hf n=>⟨fun e=>absurd (hr.symm.trans e) hne,fun i hi=> ?_⟩⟩;rw [hr] at hi;obtain ⟨o,ho,hw⟩:=h i hi;have h1:=hw.jQ a hf n;have hK:∀a w,wpListIn (FW ro) n P ops (dw N D (cG (fun ρ w=>WR ro D P N ops Q fuel (L.setIfInBounds i true) ρ w) Q)) [] a w→wpAnyIn (FW ro) n P .any ops (dw N D Q) fuel (L.setIfInBounds i true) a w:=fun a w ⟨ρ',hf',hq⟩=>by
  have hq':WR ro D P N ops Q fuel (L.setIfInBounds i true) ρ' w:=hq;exact hq'.out a hf' n
 unfold wpOpIn;rw [ho];simp only [];unfold wpListIn at h1;split at h1
 ·rename_i hwt;rw [V5 hwt];have h2:=Oper.wpIn_mono hK h1;unfold Oper.wpIn at h2 ⊢;exact ⟨h2.1,yl h2.2⟩
 ·rename_i hwt;rw [V6 hwt];exact ⟨h1.1,hK _ _ h1.2⟩
theorem Rv {L:Array Bool} (hr:Region.ready .any ops L=[]) (h:Q .normal ρ w):WR ro D P N ops Q fuel L ρ w:=
 ⟨fun a hf n=>by
  cases fuel with
  |zero=>exact ⟨hr,ρ,hf,h⟩
  |succ fuel=>exact ⟨fun _=>⟨ρ,hf,h⟩,fun i hi=>by rw [hr] at hi;cases hi⟩⟩
theorem Ks {id:Nat}{l:List Oper}{H:List HE} (hh:Hp w0 H w) (hm:P.follows .mixedOrders=true) (h:∀w',JJ w0 H w w'→WR ro D P N l.toArray Q l.length (Array.replicate l.length false) ρ w'):WC ⟨ro,D,true⟩ P N (.region id l.toArray true) Q ρ w:=by
 refine ⟨fun h=>(by cases h),fun a hf n=>wpIn_region_any hm ?_⟩;have hb:Below w.heap.size w ({ w with drawn:=w.drawn+1 }:World):=⟨rfl,rfl,rfl,V9 _,fun _ _=>rfl⟩;have:=(h _ ((JJ.start hh).ext hb)).out a hf n;simpa using this
theorem zh {F:Fence}{a:Act}{K:Act→World→Prop}{Q1 Q2:Exit→Act→World→Prop}{r:Result Next} (hq:∀e a w,Q1 e a w→Q2 e a w) (h:o.uponIn F n P a K Q1 r):o.uponIn F n P a K Q2 r:=by
 have ho:LetsOut Q1→LetsOut Q2:=fun ⟨a,w,h⟩=>⟨a,w,hq _ _ _ h⟩
 cases r with
 |ok n w'=>
  cases n<;>simp only [Oper.uponIn] at h ⊢ <;>first
   |exact h
   |exact ⟨h.1,CallsIn.mono h.2 (fun e w'' he=>by cases e<;>first|exact he|exact hq _ _ _ he|exact ho he)⟩
   |exact ⟨h.1,RoundIn.mono h.2 (fun e w'' he=>by cases e<;>first|exact he|exact hq _ _ _ he|exact ho he)⟩
 |halt x w'=>cases x<;>simp only [Oper.uponIn] at h ⊢ <;>first|exact h|exact hq _ _ _ h|exact ho h
theorem q8 {A B:Rf→World→Prop} (h:WL ⟨ro,D,true⟩ P N ops (cG A qo) [o] ρ w) (hi:∀ρ w,A ρ w→B ρ w):WL ⟨ro,D,true⟩ P N ops (cG B Q) [o] ρ w:=by
 refine ⟨fun h=>(by cases h),fun a hf n=> ?_⟩;have h1:=h.jQ a hf n;have hq:∀e a w,dw N D (cG A qo) e a w→dw N D (cG B Q) e a w:=fun e a w ⟨ρ',hf',hk⟩=>⟨ρ',hf',by
  cases e with
  |normal=>exact hi _ _ hk
  |_=>exact hk.elim⟩
 unfold wpListIn at h1 ⊢;split at h1
 ·rename_i hwt;rw [V5 hwt];have h2:=Oper.wpIn_mono (K':=wpListIn (FW ro) n P ops (dw N D (cG B Q)) []) (fun a w h=>hq .normal a w h) h1;unfold Oper.wpIn at h2 ⊢;exact ⟨h2.1,zh hq h2.2⟩
 ·rename_i hwt;rw [V6 hwt];exact ⟨h1.1,hq .normal _ _ h1.2⟩
theorem IU {o0 o1 o2 o3 o4 o5 o6:Oper}{I:Bool→Bool→Bool→Bool→Bool→Rf→World→Prop}{J K:Rf→World→Prop}
  (e0:ops[0]?=some o0) (e1:ops[1]?=some o1) (e2:ops[2]?=some o2) (e3:ops[3]?=some o3) (e4:ops[4]?=some o4) (e5:ops[5]?=some o5) (e6:ops[6]?=some o6)
  (r0:Region.ready .any ops #[false,false,false,false,false,false,false]=[0,1,2])
  (r1:Region.ready .any ops #[false,true,false,false,false,false,false]=[0,2])
  (r2:Region.ready .any ops #[false,false,true,false,false,false,false]=[0,1])
  (r3:Region.ready .any ops #[false,true,true,false,false,false,false]=[0,3])
  (r4:Region.ready .any ops #[false,true,true,true,false,false,false]=[0,4])
  (r5:Region.ready .any ops #[false,true,true,true,true,false,false]=[0])
  (q0:Region.ready .any ops #[true,false,false,false,false,false,false]=[1,2])
  (q1:Region.ready .any ops #[true,true,false,false,false,false,false]=[2])
  (q2:Region.ready .any ops #[true,false,true,false,false,false,false]=[1])
  (q3:Region.ready .any ops #[true,true,true,false,false,false,false]=[3])
  (q4:Region.ready .any ops #[true,true,true,true,false,false,false]=[4])
  (q5:Region.ready .any ops #[true,true,true,true,true,false,false]=[5])
  (q6:Region.ready .any ops #[true,true,true,true,true,true,false]=[6])
  (q7:Region.ready .any ops #[true,true,true,true,true,true,true]=[])
  (s0:∀a b e g ρ w,I false a b e g ρ w→WL ⟨ro,D,true⟩ P N ops (cG (fun ρ w=>I true a b e g ρ w) qo) [o0] ρ w)
  (s1:∀c b ρ w,I c false b false false ρ w→WL ⟨ro,D,true⟩ P N ops (cG (fun ρ w=>I c true b false false ρ w) qo) [o1] ρ w)
  (s2:∀c a ρ w,I c a false false false ρ w→WL ⟨ro,D,true⟩ P N ops (cG (fun ρ w=>I c a true false false ρ w) qo) [o2] ρ w)
  (s3:∀c ρ w,I c true true false false ρ w→WL ⟨ro,D,true⟩ P N ops (cG (fun ρ w=>I c true true true false ρ w) qo) [o3] ρ w)
  (s4:∀c ρ w,I c true true true false ρ w→WL ⟨ro,D,true⟩ P N ops (cG (fun ρ w=>I c true true true true ρ w) qo) [o4] ρ w)
  (s5:∀ρ w,I true true true true true ρ w→WL ⟨ro,D,true⟩ P N ops (cG J qo) [o5] ρ w)
  (s6:∀ρ w,J ρ w→WL ⟨ro,D,true⟩ P N ops (cG K qo) [o6] ρ w)
  (fin:∀ρ w,K ρ w→Q .normal ρ w) (st:I false false false false false ρ w):WR ro D P N ops Q 7 #[false,false,false,false,false,false,false] ρ w:=by
 have one:∀{fuel:Nat}{L:Array Bool}{i:Nat}{o:Oper}{ρ:Rf}{w:World}{A:Rf→World→Prop},Region.ready .any ops L=[i]→ops[i]?=some o→WL ⟨ro,D,true⟩ P N ops (cG A qo) [o] ρ w→(∀ρ w,A ρ w→WR ro D P N ops Q fuel (L.setIfInBounds i true) ρ w)→WR ro D P N ops Q (fuel+1) L ρ w:=fun hr ho h hi=>
  yR hr (by simp) fun j hj=>by
   obtain rfl:=Wu.1 hj;exact ⟨_,ho,q8 h hi⟩
 have two:∀{fuel:Nat}{L:Array Bool}{i j:Nat}{o p:Oper}{ρ:Rf}{w:World}{A B:Rf→World→Prop},Region.ready .any ops L=[i,j]→ops[i]?=some o→ops[j]?=some p→WL ⟨ro,D,true⟩ P N ops (cG A qo) [o] ρ w→(∀ρ w,A ρ w→WR ro D P N ops Q fuel (L.setIfInBounds i true) ρ w)→WL ⟨ro,D,true⟩ P N ops (cG B qo) [p] ρ w→(∀ρ w,B ρ w→WR ro D P N ops Q fuel (L.setIfInBounds j true) ρ w)→WR ro D P N ops Q (fuel+1) L ρ w:=fun hr ho hp h hi h2 hi2=>
  yR hr (by simp) fun k hk=>by
   rcases Wp.1 hk with rfl|hk
   ·exact ⟨_,ho,q8 h hi⟩
   ·obtain rfl:=Wu.1 hk;exact ⟨_,hp,q8 h2 hi2⟩
 have n7:∀ρ w,K ρ w→WR ro D P N ops Q 0 #[true,true,true,true,true,true,true] ρ w:=fun ρ w h=>Rv q7 (fin ρ w h);have n6:∀ρ w,J ρ w→WR ro D P N ops Q 1 #[true,true,true,true,true,true,false] ρ w:=fun ρ w h=>one q6 e6 (s6 ρ w h) n7;have n5:∀ρ w,I true true true true true ρ w→WR ro D P N ops Q 2 #[true,true,true,true,true,false,false] ρ w:=fun ρ w h=>one q5 e5 (s5 ρ w h) n6;have n4:∀ρ w,I true true true true false ρ w→WR ro D P N ops Q 3 #[true,true,true,true,false,false,false] ρ w:=fun ρ w h=>one q4 e4 (s4 true ρ w h) n5;have m5:∀ρ w,I false true true true true ρ w→WR ro D P N ops Q 3 #[false,true,true,true,true,false,false] ρ w:=fun ρ w h=>one r5 e0 (s0 _ _ _ _ ρ w h) n5;have m4:∀ρ w,I false true true true false ρ w→WR ro D P N ops Q 4 #[false,true,true,true,false,false,false] ρ w:=fun ρ w h=>two r4 e0 e4 (s0 _ _ _ _ ρ w h) n4 (s4 false ρ w h) m5;have n3:∀ρ w,I true true true false false ρ w→WR ro D P N ops Q 4 #[true,true,true,false,false,false,false] ρ w:=fun ρ w h=>one q3 e3 (s3 true ρ w h) n4
 have m3:∀ρ w,I false true true false false ρ w→WR ro D P N ops Q 5 #[false,true,true,false,false,false,false] ρ w:=fun ρ w h=>two r3 e0 e3 (s0 _ _ _ _ ρ w h) n3 (s3 false ρ w h) m4;have n1:∀ρ w,I true true false false false ρ w→WR ro D P N ops Q 5 #[true,true,false,false,false,false,false] ρ w:=fun ρ w h=>one q1 e2 (s2 true true ρ w h) n3;have n2:∀ρ w,I true false true false false ρ w→WR ro D P N ops Q 5 #[true,false,true,false,false,false,false] ρ w:=fun ρ w h=>one q2 e1 (s1 true true ρ w h) n3;have m1:∀ρ w,I false true false false false ρ w→WR ro D P N ops Q 6 #[false,true,false,false,false,false,false] ρ w:=fun ρ w h=>two r1 e0 e2 (s0 _ _ _ _ ρ w h) n1 (s2 false true ρ w h) m3;have m2:∀ρ w,I false false true false false ρ w→WR ro D P N ops Q 6 #[false,false,true,false,false,false,false] ρ w:=fun ρ w h=>two r2 e0 e1 (s0 _ _ _ _ ρ w h) n2 (s1 false true ρ w h) m3;have n0:∀ρ w,I true false false false false ρ w→WR ro D P N ops Q 6 #[true,false,false,false,false,false,false] ρ w:=fun ρ w h=>two q0 e1 e2 (s1 true false ρ w h) n1 (s2 true false ρ w h) n2
 refine yR r0 (by simp) fun k hk=> ?_
 rcases Wp.1 hk with rfl|hk
 ·exact ⟨_,e0,q8 (s0 _ _ _ _ ρ w st) n0⟩
 ·rcases Wp.1 hk with rfl|hk
  ·exact ⟨_,e1,q8 (s1 false false ρ w st) m1⟩
  ·obtain rfl:=Wu.1 hk;exact ⟨_,e2,q8 (s2 false false ρ w st) m2⟩
end
instance:aJ Tryz.prog 87 1 false 8 [.nilFunc]:={}
theorem zZ (fx:FX) (L:Option Addr) (m2 c2:Nat) (tn:List NR) (k q G:Nat) (w:World) (hT:er w) (hf:fx.at_ w) (hl:fx.km k) (hcap:fx.m≤fx.b) (hS:Sl w L m2 3 (aA NR.cells tn)) (hv:∀s∈tn,Ol q s s.d∧Sz q (1-s.d)) (hq:q≤2000)
  (hG:fx.e=0→∀d∈fx.ns,2+2*(q*d)+(d+1)≤G) (hk:k+fx.n*G≤500000):
  Calls Tryz.prog 10 #[.agg #[.slice fx.A fx.n fx.a,.slice fx.B fx.m fx.b],.slice L m2 c2] w fun r w'=>r=.returned (.tuple #[.agg #[.bool (nR (Nr fx tn)).neg,.string (nR (Nr fx tn)).bk,.int .i64 (nR (Nr fx tn)).e],.int .i64 (Kb fx m2)])∧Below w.heap.size w w':=by
 have hh:=Hp.start w;have hck:=fun w1 hT1 hb=>sE fx k w1 hT1 (hf.ext hb) hl;have hlt:=hS.bE NR.len V0;have hev0:Kb fx m2≠0→Nr fx tn=0:=fun h=>by unfold Nr;rw [hlt,V6 h]
 by_cases h0:fx.e=0
 ·by_cases h1:m2=fx.n
  ·have hE:Kb fx m2=0:=by unfold Kb;rw [V6 VZ,V6 VZ]
   have hV:Nr fx tn=xV fx.ns.reverse (fx.cs.map NR.d) (tn.map NR.d).reverse:=by unfold Nr;rw [hlt,hE,V5 rfl]
   rw [hE,hV];obtain ⟨hdeg,hnum,h12,hlow,hcnt,hmax⟩:=FX.fv h0;have hln:fx.ds.length=fx.n:=hf.ln.1;have hlm:=hf.ln.2;have hnl:fx.ns.length=fx.n:=by unfold FX.ns;rw [Wi];exact hln
   have hm:fx.m=ar fx.ns:=by rw [←hlm,hcnt]
   have hdg:Sl w fx.A fx.n 1 (a7 (bp fx.ns)):=by rw [←hdeg];exact hf.dg
   have hxz:∀x∈fx.cs.map NR.d,Sz k x:=fun x h=>by
    obtain ⟨c,hc,rfl⟩:=Wo.1 h;exact (hl.num c hc).2
   have hxl:(fx.cs.map NR.d).length=ar fx.ns:=by rw [Wi,hcnt]
   have hval:=vT fx.ns.reverse (tn.map NR.d).reverse (fx.cs.map NR.d) (by rw [WE,WE,Wi];omega) (by rw [hxl,bM]);have hnm:Sl w fx.B (ar fx.ns) 3 (aA NR.cells ((fx.cs.map NR.d).map nR)):=by rw [←hm,←hnum];exact hf.nm
   have hG:=hG h0;rw [hm] at hcap;refine Kl ?_;refine jF fun D_=> ?_;refine ak ?_;refine bV hh [_,_] ?_;intro b2 w2 hh;refine bJ hh ?_;intro b4 w4 hh;refine aI (aa ?_);refine jF fun D_=> ?_;refine sr ?_;refine bY hh 1 [_,_] ?_;refine eQ ?_;intro w13 hh;refine aI (aa (sr (mI ?_)));refine cY (aa (cF (ao (ai ?_))));refine jF fun D_=> ?_;refine sr (mL (aF (bC ?_)));refine bA hh 1 ?_;refine aF ?_;refine cY (aa (cF (ao (ai ?_))));refine jF fun D_=> ?_;refine ak (bC ?_);refine bA hh 1 ?_;refine aL (aa ?_);refine yU ?_;refine jF fun D_=> ?_;refine ak (mL (aF ?_));refine dQ (aI (aa ?_));rw [hm];have hst:∀(H:List HE) (w1:World),Hp w (H++[]) w1→Sl w1 fx.B (ar fx.ns) 3 (aA NR.cells ((fx.cs.map NR.d).map nR)):=fun H w1 h=>hnm.ext h.below;generalize fx.cs.map NR.d=xs at*;refine vn (I5 [7,8,9,10,11,30,31,32,33,34,35,36,37,38,39,40,41,42,43,44,45,46,47,48,49,50,51,52,53,54] 7 8
    (fun M v7 v8 w'=>∃(j:Nat) (z:Int) (X:List Dyadic) (A:Option Addr) (a:Nat) (R:List HE),j≤fx.n∧v8=.int .i64 z∧z=(j:Int)-1∧v7=.slice A (ar (fx.ns.take j)) a∧ar (fx.ns.take j)≤a∧X.length=ar (fx.ns.take j)∧(∀x∈X,Sz (k+(fx.n-j)*G) x)∧oF (fx.ns.take j).reverse ((tn.map NR.d).take j).reverse X=oF fx.ns.reverse (tn.map NR.d).reverse xs∧(∀x∈R,x.Sg=true)∧(∀(H:List HE) (w1:World),Hp w (H++R) w1→Sl w1 A (ar (fx.ns.take j)) 3 (aA NR.cells (X.map nR)))∧Hp w (.blk b4 40 [.bool false,.string (ByteArray.mk #[]),.int .i64 0] (0,0)::.blk b2 33 [.slice fx.A fx.n fx.a,.slice fx.B fx.m fx.b] (0,0)::(R++qe M)) w')
    (fun _ v _=>(intOf v+1).toNat) ?_ ?_)
   ·refine ⟨fx.n,_,xs,_,_,[],V9 _,rfl,VZ,by rw [Wc VZ];rfl,by rw [Wc VZ];exact hcap,by rw [Wc VZ];exact hxl,fun x h=>(hxz x h).mono VZ,by rw [Wc VZ,Wc (by rw [Wi];omega)],fun x h=>(by cases h),by rw [Wc VZ];exact hst,hh⟩
   ·clear hh hst;rintro M ρ' v7 v8 w' ⟨j,z,X,A,a,R,hj,rfl,hz,rfl,hca,hXl,hXz,hXe,hcR,hrd,hh⟩;by_cases hj0:j=0
    ·subst hj0;obtain rfl:z= -1:=VZ;have hX:X=[xV fx.ns.reverse xs (tn.map NR.d).reverse]:=by
      rw [←hval,←hXe];simp [oF]
     subst hX;have hh1:Hp w ([_,_]++R) w':=hh.sub (.cons_cons _ (.cons_cons _ (X1 R _)));have hsl:=hrd _ _ hh1;rw [XS] at hsl;obtain ⟨ac,rfl,sc⟩:=hsl.at_ (show 0<ar [] by decide);have hx0:([xV fx.ns.reverse xs (tn.map NR.d).reverse].map nR)[0]?=some (nR (xV fx.ns.reverse xs (tn.map NR.d).reverse)):=rfl;generalize xV fx.ns.reverse xs (tn.map NR.d).reverse=V at*;rw [XS];refine jF fun D_=> ?_;refine sr (mI ?_);refine dP (aa (cF (aZ (aC ?_))));refine NU ?_;refine jF fun D_=> ?_;refine ak (mL ?_);refine cK (k:=0) a9.out aJ.size rfl rfl VZ (show 0<ar [] by decide) V0 ?_;refine cz (vs:=[_,_,_]) aJ.out rfl (sc.recAt NR.len hx0) rfl V0 ?_;refine bL hh 0 [_,_,_] ?_;intro ws hh;replace hh:Hp _ (.blk _ _ [_,_,_] _::_) _:=hh;refine aI (aa ?_);refine Gt fun D_=> ?_;refine av ?_;refine qZ (M:=M) (vs:=[.agg #[.bool (nR V).neg,.string (nR V).bk,.int .i64 (nR V).e],.int .i64 0]) (hh.perm (List.perm_append_comm (l₁:=_::_::R))) (.inr rfl) rfl ?_;exact Qw
    ·obtain ⟨i,rfl⟩:∃i,j=i+1:=⟨j-1,VZ⟩;obtain rfl:z=(i:Int):=VZ;obtain ⟨tq,htq⟩:=al (l:=tn) (k:=i) VZ;obtain ⟨vt,ht1⟩:=hv tq (Wb htq);obtain ⟨d,hd⟩:=al (l:=fx.ns) (k:=i) VZ;have hmd:=Wb hd;have hdl:=hlow d hmd;have hGd:=hG d hmd;have hgd:=bR (ez hd);obtain ⟨adL,rfl,sL⟩:=hS.at_ VZ;obtain ⟨adD,hAD,sD⟩:=hdg.at_ VZ;have su:Value.slice fx.A fx.n fx.a=.slice (some adD) fx.n fx.a:=by rw [hAD]
     have hh1:Hp w ([_,_]++R) w':=hh.sub (.cons_cons _ (.cons_cons _ (X1 R _)));obtain ⟨ac,rfl, -⟩:=(hrd _ _ hh1).at_ (cn _);clear hh1;have hcs:ar (fx.ns.take (i+1))=ar (fx.ns.take i)*(d+1):=by rw [ay hd,dD];simp [ar]
     have hct:=gg fx.ns (i+1);have hcp:=cn (fx.ns.take i);have hc4:=gg fx.ns i;have hd1c:d+1≤ar (fx.ns.take (i+1)):=by rw [hcs];exact Nat.le_mul_of_pos_left _ hcp
     have hKG:k+(fx.n-(i+1))*G+G=k+(fx.n-i)*G:=by
      rw [show fx.n-i=fx.n-(i+1)+1 by omega,Yl,XP];omega
     have hKle:k+(fx.n-(i+1))*G≤500000:=by
      have:=Xr G (show fx.n-(i+1)≤fx.n by omega);omega
     have eD:(d:Int)+1=((d+1:Nat):Int):=VZ;refine jF fun D_=> ?_;refine sr (mI ?_);refine dP (aa (cT (ao (ai ?_))));refine yU (vn ?_);refine jF fun D_=> ?_;refine ak (mL (mI ?_));refine cA ?_;refine cz (vs:=[_,_,_]) aJ.out rfl ((sL.ext hh.below).recAt NR.len htq) rfl V0 ?_;refine aE (yi tq tq.d q _ (hT.hp hh) vt hq) au.out rfl V0 ?_;rintro e_ w38 ⟨b1,b3,rfl,h2⟩;refine ⟨_,rfl, ?_⟩;replace hh:=hh.join h2;simp only [Wf,Wd] at hh;clear h2;refine bJ hh ?_;intro b9 w9 hh;refine bL hh 0 [_] ?_;intro ws hh;replace hh:Hp _ (.blk _ _ [_] _::_) _:=hh;refine aa ?_;refine jF fun D_=> ?_;refine ak ?_;refine bJ hh ?_;intro b10 w10 hh;refine aa ?_;refine yU ?_;refine jF fun D_=> ?_;refine ak (mL (bC ?_));refine bA hh 5 ?_;refine mI ?_;refine cK (k:=i) a9.out aJ.size su rfl VZ VZ V0 ?_;refine Fa ?_;refine bj ?_;rw [eD];refine aE (Cb (some ac) (ar (fx.ns.take (i+1))) a (d+1) _ VZ) au.out rfl V0 ?_;rintro e_ w46 ⟨c2,c1,rfl,h2⟩;refine ⟨_,rfl, ?_⟩;replace hh:=hh.join h2;simp only [Wf,Wd] at hh;clear h2;replace hh:=hh.perm (WZ (l₁:=[_,_]))
     simp only [Wf,Wd] at hh;replace hh:=hh.cx 40 3;refine aa ?_;have hmk:=hh.Rk (M:=M) (by repeat (first|exact Zh _ _|apply Wa));have hmlt:=hmk.lt;replace hh:=hh.sub (H':=_::_::_::_::_::_::_::_::_::R) (by repeat (first|exact X1 _ _|apply V7));have hc2:=hh.dO (i:=3) (o:=0) rfl rfl;have hc1:=hh.dO (i:=2) (o:=0) rfl rfl;have hseq:=HX c2 c1 ac (ar (fx.ns.take (i+1))) a (d+1) (ar (fx.ns.take i)) _ hc2 hc1 hcs VZ hca VZ VZ
     have hcel:∀(A1:Option Addr) (n1 k1:Nat) (cs vs:List Value),∀x∈(HE.row A1 n1 k1 40 3 cs::.blk b10 27 vs (0,0)::.blk c1 3 [.int .i64 ((d+1:Nat):Int)] (0,0)::.blk c2 27 [.slice (some ac) (ar (fx.ns.take (i+1))) a] (0,0)::.blk b9 87 [.func (.func 107) #[] #[.pointer (some ⟨b1,0,none⟩),.pointer (some ⟨b3,0,none⟩)]] (0,0)::.blk b3 40 [.bool (nR (1-tq.d)).neg,.string (nR (1-tq.d)).bk,.int .i64 (nR (1-tq.d)).e] (0,0)::.blk b1 40 [.bool tq.neg,.string tq.bk,.int .i64 tq.e] (0,0)::.blk b4 40 [.bool false,.string (ByteArray.mk #[]),.int .i64 0] (0,0)::.blk b2 33 [.slice fx.A fx.n fx.a,.slice fx.B fx.m fx.b] (0,0)::R),x.Sg=true:=fun A1 n1 k1 cs vs x hx=>by
      simp only [Wp] at hx
      rcases hx with rfl|rfl|rfl|rfl|rfl|rfl|rfl|rfl|rfl|hx
      all_goals first|rfl|exact hcR x hx
     trace_state
     refine vn (HO (α:=Fin (ar (fx.ns.take i))) (enc:=fun jj:Fin (ar (fx.ns.take i))=>.slice (some (ac.add (jj.val*(d+1)*3))) (d+1) (d+1)) 11 V0 V0 rfl (enters_of Tryz.func108 V2 rfl) hseq MT (fun W l o o' h _ _ _=>Nb (l0 hc2) (l0 hc1) W l o o' h)
      (fun bs W=>∃(Y:List Dyadic) (A1:Option Addr) (k1:Nat),Y.length=bs.length∧(∀y∈Y,Sz (k+(fx.n-i)*G) y)∧(bs=(List.finRange (ar (fx.ns.take i))).take bs.length→Y=(lB d tq.d (ar (fx.ns.take i)) X).take bs.length)∧Marks w M W∧Hp w (.row A1 bs.length k1 40 3 (aA NR.cells (Y.map nR))::.blk b10 27 [.slice A1 bs.length k1] (0,0)::.blk c1 3 [.int .i64 ((d+1:Nat):Int)] (0,0)::.blk c2 27 [.slice (some ac) (ar (fx.ns.take (i+1))) a] (0,0)::.blk b9 87 [.func (.func 107) #[] #[.pointer (some ⟨b1,0,none⟩),.pointer (some ⟨b3,0,none⟩)]] (0,0)::.blk b3 40 [.bool (nR (1-tq.d)).neg,.string (nR (1-tq.d)).bk,.int .i64 (nR (1-tq.d)).e] (0,0)::.blk b1 40 [.bool tq.neg,.string tq.bk,.int .i64 tq.e] (0,0)::.blk b4 40 [.bool false,.string (ByteArray.mk #[]),.int .i64 0] (0,0)::.blk b2 33 [.slice fx.A fx.n fx.a,.slice fx.B fx.m fx.b] (0,0)::R) W)
      ?own ?zero ?asg ?body ?done)
     case own=>
      intro s W W' row ⟨Y,A1,k1,h1,h2,h3,h4,h5⟩ hg hr;exact ⟨Y,A1,k1,h1,h2,h3,h4.grown hmlt hg (fun r e=>(hr r e).1),h5.R6 (hcel _ _ _ _ _) hg fun r e=>⟨WK hh.size (hr r e).1,(hr r e).2⟩⟩
     case zero=>exact ⟨[],none,0,rfl,fun y h=>(by cases h),fun _=>rfl,hmk,hh⟩
     case asg=>
      intro l x W;refine ak (aL (az ?_));exact ⟨rfl,rfl⟩
     case body=>
      rintro l bs qq W ⟨Y,A1,k1,hYl,hYz,hYe,hmk2,hh0⟩ hbl;have hqm:=qq.isLt;have hh:=hh0.Md;simp only [Wf,Wd] at hh;generalize hO:Cl _ _ _=O at hh;have hq1:qq.val*(d+1)+(d+1)≤ar (fx.ns.take (i+1)):=by
       have:=Xr (d+1) (show qq.val+1≤ar (fx.ns.take i) from hqm);rw [Xs] at this;omega
      have hline:=(hrd [_,_,_,_,_,_,_,_,_] W hh0).part (qq.val*(d+1)) (d+1) hq1 VZ;rw [vX] at hline;have hfo:=fun w1 hT1 hS1 hb1 hb2=>vJ tq tq.d ⟨b1,0,none⟩ ⟨b3,0,none⟩ (some (ac.add (qq.val*(d+1)*3))) (d+1) (d+1) d (mC (d+1) qq.val X) (k+(fx.n-(i+1))*G) q w1 hT1 hS1 rfl hdl (fun x hx=>hXz x (rn hx)) vt ht1 hb1 hb2 hKle hq;have hfz:=yp (d:=d) (i:=d+1) (fun x hx=>hXz x (rn (K:=d+1) (q:=qq.val) hx)) vt.sz ht1 (V9 _);have hfa:=I4 (d:=d) (m:=ar (fx.ns.take i)) tq.d X hqm;generalize lO d tq.d (mC (d+1) qq.val X) (d+1)=y at*;refine aq ?_;refine Ks hh mixed fun W2 hJ2=> ?_;have hst2:=hJ2.hp
      refine IU (I:=fun c x1 x2 e g ρ w'=>ρ 9=.pointer (some ⟨b9,0,none⟩)∧ρ 10=.pointer (some ⟨b10,0,none⟩)∧ρ 11=.slice (some (ac.add (qq.val*(d+1)*3))) (d+1) (d+1)∧(c=true→ρ 48=.slice A1 bs.length k1)∧(x1=true→ρ 49=.func (.func 107) #[] #[.pointer (some ⟨b1,0,none⟩),.pointer (some ⟨b3,0,none⟩)])∧(x2=true→ρ 50=.slice (some (ac.add (qq.val*(d+1)*3))) (d+1) (d+1))∧(e=true→ρ 51=.agg #[.bool (nR y).neg,.string (nR y).bk,.int .i64 (nR y).e])∧∃R52:List HE,Hp w (R52++(.row A1 bs.length k1 40 3 (aA NR.cells (Y.map nR))::.blk b10 27 [.slice A1 bs.length k1] (0,0)::.blk c1 3 [.int .i64 ((d+1:Nat):Int)] (0,0)::.blk c2 27 [.slice (some ac) (ar (fx.ns.take (i+1))) a] (0,0)::.blk b9 87 [.func (.func 107) #[] #[.pointer (some ⟨b1,0,none⟩),.pointer (some ⟨b3,0,none⟩)]] (0,0)::.blk b3 40 [.bool (nR (1-tq.d)).neg,.string (nR (1-tq.d)).bk,.int .i64 (nR (1-tq.d)).e] (0,0)::.blk b1 40 [.bool tq.neg,.string tq.bk,.int .i64 tq.e] (0,0)::.blk b4 40 [.bool false,.string (ByteArray.mk #[]),.int .i64 0] (0,0)::.blk b2 33 [.slice fx.A fx.n fx.a,.slice fx.B fx.m fx.b] (0,0)::(R++O))) w'∧(g=true→∃g52,ρ 52=.slice (some ⟨g52,0,none⟩) 1 1∧R52=[.row (some ⟨g52,0,none⟩) 1 1 40 3 [.bool (nR y).neg,.string (nR y).bk,.int .i64 (nR y).e]]))
       (J:=fun ρ w'=>ρ 10=.pointer (some ⟨b10,0,none⟩)∧∃(A3:Option Addr) (k3:Nat),ρ 53=.slice A3 (bs.length+1) k3∧Hp w (.row A3 (bs.length+1) k3 40 3 (aA NR.cells (Y.map nR)++[.bool (nR y).neg,.string (nR y).bk,.int .i64 (nR y).e])::.blk b10 27 [.slice A1 bs.length k1] (0,0)::.blk c1 3 [.int .i64 ((d+1:Nat):Int)] (0,0)::.blk c2 27 [.slice (some ac) (ar (fx.ns.take (i+1))) a] (0,0)::.blk b9 87 [.func (.func 107) #[] #[.pointer (some ⟨b1,0,none⟩),.pointer (some ⟨b3,0,none⟩)]] (0,0)::.blk b3 40 [.bool (nR (1-tq.d)).neg,.string (nR (1-tq.d)).bk,.int .i64 (nR (1-tq.d)).e] (0,0)::.blk b1 40 [.bool tq.neg,.string tq.bk,.int .i64 tq.e] (0,0)::.blk b4 40 [.bool false,.string (ByteArray.mk #[]),.int .i64 0] (0,0)::.blk b2 33 [.slice fx.A fx.n fx.a,.slice fx.B fx.m fx.b] (0,0)::(R++O)) w')
       (K:=fun _ w'=>∃(A3:Option Addr) (k3:Nat),Hp w (.row A3 (bs.length+1) k3 40 3 (aA NR.cells (Y.map nR)++[.bool (nR y).neg,.string (nR y).bk,.int .i64 (nR y).e])::.blk b10 27 [.slice A3 (bs.length+1) k3] (0,0)::.blk c1 3 [.int .i64 ((d+1:Nat):Int)] (0,0)::.blk c2 27 [.slice (some ac) (ar (fx.ns.take (i+1))) a] (0,0)::.blk b9 87 [.func (.func 107) #[] #[.pointer (some ⟨b1,0,none⟩),.pointer (some ⟨b3,0,none⟩)]] (0,0)::.blk b3 40 [.bool (nR (1-tq.d)).neg,.string (nR (1-tq.d)).bk,.int .i64 (nR (1-tq.d)).e] (0,0)::.blk b1 40 [.bool tq.neg,.string tq.bk,.int .i64 tq.e] (0,0)::.blk b4 40 [.bool false,.string (ByteArray.mk #[]),.int .i64 0] (0,0)::.blk b2 33 [.slice fx.A fx.n fx.a,.slice fx.B fx.m fx.b] (0,0)::(R++O)) w')
       rfl rfl rfl rfl rfl rfl rfl V2 V2 V2 V2 V2 V2 V2 V2 V2 V2 V2 V2 V2 V2 ?s0 ?s1 ?s2 ?s3 ?s4 ?s5 ?s6 ?fin ?st
      case st=>exact ⟨rfl,rfl,rfl,fun h=>(by cases h),fun h=>(by cases h),fun h=>(by cases h),fun h=>(by cases h),[],hst2,fun h=>(by cases h)⟩
      case s0=>
       rintro a b e g ρ w3 ⟨h9,h10,h11, -,h49,h50,h51,R52,hp,h52⟩;have hp2:=hp.sub (Zh R52 _);refine bX aJ.out h10 (hp2.dO (i:=1) (o:=0) rfl rfl) V0 (aa ?_);refine ⟨(bu _ V0 _).trans h9,(bu _ V0 _).trans h10,(bu _ V0 _).trans h11,fun _=>iu _ _ _,fun h=>(bu _ V0 _).trans (h49 h),fun h=>(bu _ V0 _).trans (h50 h),fun h=>(bu _ V0 _).trans (h51 h),R52,hp,fun h=> ?_⟩;obtain ⟨g52,h1,h2⟩:=h52 h;exact ⟨g52,(bu _ V0 _).trans h1,h2⟩
      case s1=>
       rintro c b ρ w3 ⟨h9,h10,h11,h48, -,h50,h51,R52,hp,h52⟩;have hp2:=hp.sub (Zh R52 _);refine bX aJ.out h9 (hp2.dO (i:=4) (o:=0) rfl rfl) V0 (aa ?_);exact ⟨(bu _ V0 _).trans h9,(bu _ V0 _).trans h10,(bu _ V0 _).trans h11,fun h=>(bu _ V0 _).trans (h48 h),fun _=>iu _ _ _,fun h=>(bu _ V0 _).trans (h50 h),fun h=>(by cases h),R52,hp,fun h=>(by cases h)⟩
      case s2=>
       rintro c a ρ w3 ⟨h9,h10,h11,h48,h49, -,h51,R52,hp,h52⟩;refine aR rfl rfl V0 (eO h11) (aa ?_);exact ⟨(bu _ V0 _).trans h9,(bu _ V0 _).trans h10,(bu _ V0 _).trans h11,fun h=>(bu _ V0 _).trans (h48 h),fun h=>(bu _ V0 _).trans (h49 h),fun _=>iu _ _ _,fun h=>(by cases h),R52,hp,fun h=>(by cases h)⟩
      case s3=>
       rintro c ρ w3 ⟨h9,h10,h11,h48,h49,h50, -,R52,hp,h52⟩;have hp2:=hp.sub (Zh R52 _);have hp3:Hp w ([_,_,_,_,_,_,_,_,_]++R) w3:=hp2.sub (by repeat (first|exact X1 _ _|apply V7));have hl3:=(hrd _ w3 hp3).part (qq.val*(d+1)) (d+1) hq1 VZ;rw [vX] at hl3;refine gy (first:=[]) (cap:=[_,_]) (hfo w3 (hT.hp hp2) hl3 (hp2.bP (i:=6) (n:=3) rfl rfl) (hp2.bP (i:=5) (n:=3) rfl rfl)) au.out (h49 rfl) (Xm (fun l=>[]++(l++[_,_])) (aw (show ev ρ (Operand.tmp 50)=_ from h50 rfl) a8)) V0 ?_;rintro e_ w5 ⟨rfl,hb_⟩;refine ⟨_,rfl,aa ?_⟩;exact ⟨(bu _ V0 _).trans h9,(bu _ V0 _).trans h10,(bu _ V0 _).trans h11,fun h=>(bu _ V0 _).trans (h48 h),fun h=>(bu _ V0 _).trans (h49 h),fun h=>(bu _ V0 _).trans (h50 h),fun _=>iu _ _ _,R52,hp.ext hb_,fun h=>(by cases h)⟩
      case s4=>
       rintro c ρ w3 ⟨h9,h10,h11,h48,h49,h50,h51,R52,hp, -⟩;have hp2:=hp.sub (Zh R52 _);refine cV hp2 (cs:=[_,_,_]) a9.out aJ.out (aV (show ev ρ (Operand.tmp 51)=_ from h51 rfl) bW) rfl rfl V0 V0 V0 rfl V0 ?_;intro g52 w5 hp5;refine aa ?_;exact ⟨(bu _ V0 _).trans h9,(bu _ V0 _).trans h10,(bu _ V0 _).trans h11,fun h=>(bu _ V0 _).trans (h48 h),fun h=>(bu _ V0 _).trans (h49 h),fun h=>(bu _ V0 _).trans (h50 h),fun h=>(bu _ V0 _).trans (h51 h),[_],hp5,fun _=>⟨g52,iu _ _ _,rfl⟩⟩
      case s5=>
       rintro ρ w3 ⟨h9,h10,h11,h48,h49,h50,h51,R52,hp,h52⟩;obtain ⟨g52,h52',rfl⟩:=h52 rfl;refine cv hp (i:=1) rfl (show ev ρ (Operand.tmp 48)=_ from h48 rfl) (show ev ρ (Operand.tmp 52)=_ from h52') (hp.aD (i:=0) rfl) a9.out aJ.out rfl V0 (bU NR.one [nR y]) VZ VZ V0 ?_;intro A3 k3 w5 hp5;refine aa ⟨(bu _ V0 _).trans h10,A3,k3,iu _ _ _, ?_⟩;exact hp5.sub (WO _ _)
      case s6=>
       rintro ρ w3 ⟨h10,A3,k3,h53,hp⟩;refine tH hp h10 (i:=1) rfl h53 rfl aJ.out rfl (by simp) rfl ?_;intro w5 hp5;exact aa ⟨A3,k3,hp5⟩
      case fin=>
       rintro ρ ws ⟨A3,k3,hh⟩;refine bF ?_;subst hO;obtain ⟨gr,rfl⟩:=hh.bZ (i:=0) rfl VZ;have hkeep:=Hp.Q3 (T':=_::_::_::_::_::_::_::_::R) hh0 (hcel _ _ _ _ _) hh rfl rfl;have el:(bs++[qq]).length=bs.length+1:=by simp
       refine ⟨hkeep,⟨by rw [hh.dO (i:=3) (o:=0) rfl rfl,hh0.dO (i:=3) (o:=0) rfl rfl],by rw [hh.dO (i:=2) (o:=0) rfl rfl,hh0.dO (i:=2) (o:=0) rfl rfl]⟩,Y++[y],some ⟨gr,0,none⟩,k3, ?_, ?_, ?_,hmk2.keeps hkeep, ?_⟩
       ·rw [el,We,hYl];rfl
       ·intro x hx
        rcases W3.1 hx with hx|hx
        ·exact hYz x hx
        ·obtain rfl:=Wu.1 hx;exact hfz.mono VZ
       ·intro h;obtain ⟨h1,h2⟩:=GO h hbl;rw [el,hYe h1,←h2,ay hfa]
       ·rw [el,WX,bK];exact hh.sub (by repeat (first|exact X1 _ _|apply V7))
     case done=>
      rintro D bs W hD2 rfl ⟨Y,A1,k1,hYl,hYz,hYe,hmk2,hh0⟩ hDo;have hA2:=hYe (by rw [Wc (V9 _)]);rw [Wc (by rw [rz,Y9];exact V9 _)] at hA2;rw [Y9] at hh0;subst hA2;have hmk3:=hmk2.cons hmlt hh.size hD2 hDo;have hroom:=hh0.eZ (i:=0) rfl;replace hh:=hh0.RW (hcel _ _ _ _ _) hmk3;simp only [Wf,Wd] at hh;refine Gt fun D_=> ?_;refine ak ?_;refine bA hh 1 ?_;refine aL (az ?_);refine RA ?_;refine Gt fun D_=> ?_;refine ak (mI ?_);refine dQ (aI (az ?_));refine JL ?_;replace hh:=hh.sub (V7 _ (Wa _ (Wa _ (Wa _ (Wa _ (Wa _ (Wa _ (V7 _ (V7 _ (Xf _))))))))));replace hh:=hh.perm (WZ (l₁:=[_,_]));simp only [Wf,Wd] at hh;replace hh:=hh.perm (WZ (l₁:=[_,_]));simp only [Wf,Wd] at hh
      refine ⟨⟨i,(i:Int)-1,lB d tq.d (ar (fx.ns.take i)) X,A1,k1,.row A1 (ar (fx.ns.take i)) k1 40 3 (aA NR.cells ((lB d tq.d (ar (fx.ns.take i)) X).map nR))::R,VZ,rfl,rfl,rfl,hroom,rz _ _ _ _,fun x hx=>(Jd hXz vt.sz ht1 x hx).mono VZ, ?_,fun x hx=> ?_,fun H w1 h1=> ?_,hh⟩, ?_, ?_⟩
      ·rw [←Cn X hd (by rw [Wg,htq];rfl)];exact hXe
      ·rcases Wp.1 hx with rfl|hx
       ·rfl
       ·exact hcR x hx
      ·exact iw (h1.own (.row A1 (ar (fx.ns.take i)) k1 40 3 (aA NR.cells ((lB d tq.d (ar (fx.ns.take i)) X).map nR))) (XU _ Wj))
      ·show ((i:Int)-1+1).toNat<((i:Int)+1).toNat;omega
      ·exact dF
  ·have hE:Kb fx m2=1:=by unfold Kb;rw [V6 VZ,V5 h1]
   rw [hev0 (by rw [hE];decide),hE];refine Kl ?_;refine jF fun D_=> ?_;refine ak ?_;refine bV hh [_,_] ?_;intro b2 w2 hh;refine bJ hh ?_;intro b4 w4 hh;refine aI (aa ?_);refine jF fun D_=> ?_;refine sr ?_;refine bY hh 1 [_,_] ?_;refine eQ ?_;intro w13 hh;refine aI (aa (sr (mI ?_)));refine cY (aa (cF (ao (ai ?_))));refine jF fun D_=> ?_;refine sr (mL (aF (bC ?_)));refine bA hh 1 ?_;refine aF ?_;refine cY (aa (cT (sr ?_)));refine fe [_,_,_] ?_;refine bL hh 0 [_,_,_] ?_;intro ws hh;replace hh:Hp _ (.blk _ _ [_,_,_] _::_) _:=hh;refine aI (aa (av (aK ?_)));refine qZ (M:=[]) (vs:=[.agg #[.bool false,.string (ByteArray.mk #[]),.int .i64 0],.int .i64 1]) hh (.inr rfl) rfl ?_;exact Qw
 ·have hE:Kb fx m2=fx.e:=by unfold Kb;rw [V5 h0]
  rw [hev0 (by rw [hE];exact h0),hE];refine Kl ?_;refine jF fun D_=> ?_;refine ak ?_;refine bV hh [_,_] ?_;intro b2 w2 hh;refine bJ hh ?_;intro b4 w4 hh;refine aI (aa ?_);refine jF fun D_=> ?_;refine sr ?_;refine bY hh 1 [_,_] ?_;refine eQ ?_;intro w13 hh;refine aI (aa (sr (mI ?_)));refine cY (aa (cT (sr ?_)));refine fe [_,_,_] (mI ?_);refine bL hh 0 [_,_,_] ?_;intro ws hh;replace hh:Hp _ (.blk _ _ [_,_,_] _::_) _:=hh;refine aI (aa (av (aK ?_)));refine qZ (M:=[]) (vs:=[.agg #[.bool false,.string (ByteArray.mk #[]),.int .i64 0],.int .i64 fx.e]) hh (.inr rfl) rfl ?_;exact Qw
theorem Du (ns:List Nat):(bp ns).map Int.toNat=ns:=wm ns
structure VK (p:PX) (b:List SR) (C s:Nat):Prop where
 n:p.ts.length≤8
 ok:jG 124 p.ts
 sz:∀t∈p.ts,t.m.size≤20
 ex:∀t∈p.ts,∀c∈t.m.data.toList,c.toNat≤4
 box:∀z∈b,z.fin 124
 VB:p.e=0→ar (lV p.v p.ts)≤C
 Rq:C*C<2^(s+1)
def Vp (a:NR):Bool:=decide ((8:Int)<a.bk.size∨a.e< -60∨60<a.e)
structure VX (ts:List TR):Prop where
 n:ts.length≤10
 ok:jG 124 ts
 sz:∀t∈ts,t.m.size≤20
 ex:∀t∈ts,∀c∈t.m.data.toList,c.toNat≤6
structure J3 (v:Int) (k n D:Nat) (ts:List TR):Prop where
 e:ko v ts=0
 ok:jG k ts
 sz:∀t∈ts,t.m.size≤100000
 len:ts.length≤n
 ex:∀t∈ts,∀c∈t.m.data.toList,c.toNat≤D
structure VE (p:PX):Prop where
 n:p.ts.length≤8
 ok:jG 124 p.ts
 ex:∀t∈p.ts,t.m.size≤20∧∀c∈t.m.data.toList,c.toNat≤4
structure UD (p:PX) (b:List SR) (ns:List Nat):Prop where
 vl:∀ts:List Dyadic,ts.length=ns.length→xV ns.reverse (zJ ns (fM p (cw b)).2) ts=VH (Vk b ts.reverse) p.ts
 sz:∀x∈zJ ns (fM p (cw b)).2,Sz 460000 x
structure Vl (p q s o:PX) (b:List SR) (ns:List Nat) (c:Dyadic):Prop where
 fit:ID p b ns
 VB:ar ns≤100
 es:vR s b (bp ns)=0
 eo:vR o b (bp ns)=0
 gs:J3 s.v 140 16 4 s.ts
 go:J3 o.v 125 1 0 o.ts
 ws:gH (140+140+16394) (lV s.v s.ts) (140+1)≤440000
 wo:gH (140+140+16394) (lV o.v o.ts) (140+1)≤440000
 sum:zJ ns (fM s (cw b)).2=Qs (zJ ns (fM p (cw b)).2) (zJ ns (fM q (cw b)).2)
 VW:zJ ns (fM o (cw b)).2=((zz ns).map nD).map fun y=>c*y
 zp:∀x∈zJ ns (fM p (cw b)).2,Sz 460000 x
 zq:∀x∈zJ ns (fM q (cw b)).2,Sz 460000 x
theorem pC (A B:List Nat) (e:Nat):(List.range (ar (A++(e+1)::B))).filter (mn (ar A) (e+1))=(List.range (ar (A++e::B))).map fun p=>cI A (e+1) (p % ar A) (p/ar A % (e+1)) (p/ar A/(e+1)):=by
 have hA:=cn A;rw [dD,ar,nx,List.filter_flatMap];have e1:∀x,((List.range (ar A)).map fun f=>f+ar A*x).filter (mn (ar A) (e+1))=if x % (e+1+1)<e+1 then (List.range (ar A)).map fun f=>f+ar A*x else []:=fun x=>by
  by_cases h:x % (e+1+1)<e+1
  ·rw [V5 h];refine List.filter_eq_self.2 fun p hp=> ?_;obtain ⟨f,hf,rfl⟩:=Wo.1 hp;have hf:=Xn.1 hf;unfold mn;rw [Xw _ _ hA,Xa hf,Ws,Wr h]
  ·rw [V6 h];refine ZE.2 fun p hp=> ?_;obtain ⟨f,hf,rfl⟩:=Wo.1 hp;have hf:=Xn.1 hf;unfold mn;rw [Xw _ _ hA,Xa hf,Ws,decide_eq_true_iff];exact h
 simp only [e1];rw [nx,List.flatMap_assoc,dD,ar,nx,List.map_flatMap,nx,List.flatMap_assoc];congr 1;funext q;rw [List.flatMap_map,List.flatMap_map,YJ,Yu,List.flatMap_singleton,XV,WU (Nat.lt_succ_self _),V6 (Nat.lt_irrefl _),WJ];refine Jl fun k hk=> ?_;have hk:=Xn.1 hk;rw [XV,WU VZ,V5 hk,W6];refine XW fun f hf=> ?_;have hf:=Xn.1 hf;show f+ar A*(k+(e+1+1)*q)=cI A (e+1) ((f+ar A*(k+(e+1)*q)) % ar A) ((f+ar A*(k+(e+1)*q))/ar A % (e+1)) ((f+ar A*(k+(e+1)*q))/ar A/(e+1));rw [XV,WU hf,Xw _ _ hA,Xa hf,Ws,XV,WU hk,Xw _ _ VZ,Xa hk,Ws]
 rfl
def Dt (A:List Nat) (e:Nat) (X:List Dyadic):List Dyadic:=mA (mn (ar A) (e+1)) (iO A (e+1) (e+1) (qj (e+1)) X X.length 0) X.length
theorem Ab {A B:List Nat}{e:Nat} (hX:X.length=ar (A++(e+1)::B)):(Dt A e X).length=ar (A++e::B):=by
 unfold Dt mA;rw [Wi,hX,pC,Wi,Ye]
theorem NN {A B:List Nat}{e f i:Nat} (hX:X.length=ar (A++(e+1)::B)) (hf:f<ar A) (hi:i≤e) (hq:q<ar B):((Dt A e X)[cI A e f i q]?).getD 0=(X[cI A (e+1) f (i+1) q]?).getD 0*nD (i+1)-(X[cI A (e+1) f i q]?).getD 0*nD (e+1-i):=by
 obtain ⟨a1,a2,a3⟩:=np (A:=A) (q:=q) hf hi;obtain ⟨b1,b2,b3⟩:=np (A:=A) (d:=e+1) (k:=i) (q:=q) hf VZ;have hp:=mu (A:=A) (B:=B) (d:=e) hf hi hq;have hp2:=mu (A:=A) (B:=B) (d:=e+1) (k:=i) hf VZ hq;unfold Dt mA;rw [Wg,hX,pC (B:=B),Wg,W8 hp,Xx,Xx,a1,a2,a3,Xj,←hX,vS hX VZ,b1,b2,b3,V5 VZ,Xj];unfold iX;rw [Fk VZ,Xj];unfold Lm iX fg;rw [Wg,Wg,W8 VZ,W8 VZ];show (X[cI A (e+1) f (i+1) q]?).getD 0*(((i:Int)+1:Int):Dyadic)-(X[cI A (e+1) f i q]?).getD 0*((((e+1:Nat):Int)-(i:Int):Int):Dyadic)=_;unfold nD;rw [show (((e+1:Nat):Int)-(i:Int))=((e+1-i:Nat):Int) by omega,show ((i:Int)+1)=((i+1:Nat):Int) by omega]
theorem AL {A B:List Nat}{d f:Nat} (hf:f<ar A) (hq:q<ar B):eu (A++d::B) (cq A f++k::cq B q)=cI A d f k q:=by
 rw [rJ (kd A f),pW hf];show f+ar A*(k+(d+1)*eu B (cq B q))=_;rw [pW hq]
 rfl
theorem Q6 {A B:List Nat}{e p:Nat} (hX:X.length=ar (A++(e+1)::B)) (hp:p<ar (A++e::B)):∃i,(cq (A++e::B) p)[A.length]?=some i∧i≤e∧
  (Dt A e X)[p]?=some ((X[eu (A++(e+1)::B) ((cq (A++e::B) p).set A.length (i+1))]?).getD 0*nD (i+1)-(X[eu (A++(e+1)::B) (cq (A++e::B) p)]?).getD 0*nD (e+1-i)):=by
 obtain ⟨f,i,q,hf,hi,hq,rfl⟩:=tx hp;have hl:=NN (B:=B) hX hf hi hq;rw [rq hf hi];have la:=kd A f;refine ⟨i,by rw [Xt VZ,la,Xc];rfl,hi, ?_⟩;rw [Yf _ _ VZ,la,Xc,show (i::cq B q).set 0 (i+1)=(i+1)::cq B q from rfl,AL hf hq,AL hf hq,←hl];have h8:=Ab (B:=B) hX;obtain ⟨y,hy⟩:=al (l:=Dt A e X) (k:=cI A e f i q) (by rw [h8];exact hp);rw [hy]
 rfl
def jC (ap d t:Nat) (xs:List Dyadic) (i:Nat):List Dyadic:=((List.range i).filter fun p=>decide (p/ap % (d+1)=t)).map fun p=>(xs[p]?).getD 0
theorem wQ (ap d t:Nat) (xs:List Dyadic) (i:Nat):jC ap d t xs (i+1)=jC ap d t xs i++if i/ap % (d+1)=t then [(xs[i]?).getD 0] else []:=by
 unfold jC;rw [YJ,YU,WX];congr 1;by_cases h:i/ap % (d+1)=t
 ·rw [V5 h,List.filter_cons_of_pos (by rw [Wr h])];rfl
 ·rw [V6 h,ZA (by rw [WG h];decide)];rfl
theorem CH (fx:FX) (a d:Nat) (sd:Nat) (k:Nat) (w:World) (hT:er w) (hf:fx.at_ w) (hl:fx.km k) (hcap:fx.n≤fx.a) (h0:fx.e=0) (hd:fx.ns[a]?=some d) (hsd:sd=0∨sd=1):
  Calls Tryz.prog 16 #[.agg #[.slice fx.A fx.n fx.a,.slice fx.B fx.m fx.b],.int .i64 a,.int .i64 sd] w fun r w'=>∃g:FX,g.ds=fx.ds.eraseIdx a∧g.cs=(jC (ar (fx.ns.drop (a+1))) d (d*sd) (fx.cs.map NR.d) fx.m).map nR∧g.n≤100000∧g.m≤1000000∧r=.returned (.tuple #[.agg #[.slice g.A g.n g.a,.slice g.B g.m g.b],.int .i64 0])∧Hp w [g.mP,g.mi] w':=by
 have hh:=Hp.start w;obtain ⟨hdeg,hnum,h12,hlow,hcnt,hmax⟩:=FX.fv h0;have hln:=hf.ln.1;have hlm:=hf.ln.2;have hnl:fx.ns.length=fx.n:=by unfold FX.ns;rw [Wi];exact hln
 have ha:=(Wk.1 hd).1;have hd127:=hlow d (Wb hd);have hE:ej fx (a:Int)=0:=by unfold ej;rw [V6 VZ,V6 VZ]
 have hhas:=fun w1 hT1 hb=>oK fx (a:Int) k w1 hT1 (hf.ext hb) hl;rw [hE] at hhas;have hdg:Sl w fx.A fx.n 1 (a7 (bp fx.ns)):=by rw [←hdeg];exact hf.dg
 have hof:=fun w1 hb=>jJ fx.A fx.n fx.a a d fx.ns w1 (hdg.ext hb) hcap VZ hd hlow hmax;have hap:0<ar (fx.ns.drop (a+1)):=cn _;have hgd:(a7 fx.ds)[a]?=some (.int .i64 (d:Int)):=by rw [hdeg];exact bR (ez hd)
 obtain ⟨ad0,hAD,sD⟩:=hf.dg.at_ VZ;have su:Value.slice fx.A fx.n fx.a=.slice (some ad0) fx.n fx.a:=by rw [hAD]
 have hprod:(d:Int)*(sd:Int)=((d*sd:Nat):Int):=by rw [Xk]
 have hpb:d*sd≤127:=by rcases hsd with rfl|rfl<;>omega
 have hap2:ar (fx.ns.drop (a+1))≤4096:=by
  exact SB
 generalize ar (fx.ns.drop (a+1))=ap at*;refine aj (N:=70) (l:=[.agg #[.slice fx.A fx.n fx.a,.slice fx.B fx.m fx.b],.int .i64 a,.int .i64 sd]) Tryz.func16 rfl rfl (by simp) ?_;refine sr ?_;refine bV hh [_,_] ?_;intro b3 w3 hh;refine bJ hh ?_;intro b6 w6 hh;refine aI (aa (ah (sr ?_)));refine bY hh 1 [_,_] (mI ?_);refine Bd ?_;intro w15 hh
 rcases hsd with hs0|hs0
 ·refine aI (aa (sr (mI ?_)));refine mg ?_;refine cY (mB ?_);refine gS (gS ?_);refine dR ?_;exact PF
 ·refine aI (aa (sr (mI ?_)));refine mg ?_;refine cY (mB (gT (mI (gT ?_))));refine cY ?_;refine fi ?_;exact PF
end Go.Proofs.YtolamocnngihpaaGreatDoor
