/- Lemmas for ratioTrue, part 6. -/
import Derived.Test.YtmchncaiffbpaaaGreatDoorZ5
set_option maxHeartbeats 0
namespace Go.Proofs.YtmchncaiffbpaaaGreatDoor
variable {P:Program}{W w:World}{ad:Addr}{lo:Operand}{n q:Nat}{pos:String}{ρ:Rf}
open Go.RowKit
theorem Wm {d:Option Nat}{ty:TypeId}{af:Array Edge}{g:Option (Nat×Bool)}{t e:TypeId}{x hi mx:Operand}{c l h sz:Nat}{k1 k2 k3:IntKind}{m1 m2 m3:Int}
  (ht:P.underlying t=some (.slice e)) (hsz:(P.info? e).map (·.size)=some sz) (hx:ev ρ x=.slice (some ad) n c) (hlo:ev ρ lo=.int k1 m1) (hhi:ev ρ hi=.int k2 m2) (hmx:ev ρ mx=.int k3 m3) (e1:m1=(l:Int)) (e2:m2=(h:Int)) (e3:m3=(q:Int))
  (h1:l≤h) (h2:h≤q) (h3:q≤c) (h4:l<q):(execOp (ev ρ) ⟨d,.slice t x (some lo) (some hi) (some mx),ty,pos,af,g⟩).run P w=.ok (.value (.slice (some (ad.add (l*sz))) (h-l) (q-l))) w:=by
 obtain ⟨i,hi1,hi2⟩:=adA.1 hsz;subst e1 e2 e3 hi2;have a1:(l:Int)≤h:=abq;have a2:(h:Int)≤q:=abq;have a3:(q:Int)≤c:=abq;have a4:¬q=l:=abq;have a5:¬q-l=0:=abq;simp [execOp,hx,Instr.sliceAt,Instr.slice,run_underlying ht,Instr.sliceBounds,Instr.sliceBound,asIntOf,hlo,hhi,hmx,h1,h2,h3,a4,a5,sizeOf,typeInfo,hi1]
theorem DS (A:Option Addr) (n c K:Nat) (w:World) (hK:1≤K):
  Calls Tryz.prog 41 #[.slice A n c,.int .i64 K] w fun r w'=>∃b2 b3,r=.returned (.func (.func 88) #[] #[.pointer (some ⟨b2,0,none⟩),.pointer (some ⟨b3,0,none⟩)])∧Hp w [.blk b3 3 [.int .i64 K] (0,0),.blk b2 23 [.slice A n c] (0,0)] w':=by
 have hh:=Hp.start w;refine ae (N:=9) (l:=[.slice A n c,.int .i64 K]) Tryz.func41 rfl rfl (by simp) ?_;refine bX ?_;intro b2 w2 hh b3 w3 hh;refine yi rfl (aq (wX rfl) (aq (wX rfl) aY)) abr ?_;refine aj ?_;exact ⟨_,_,rfl,hh⟩
def Dk (b2 b3:Nat) (W W':World):Prop:=W'.cell? ⟨b2,0,none⟩=W.cell? ⟨b2,0,none⟩∧W'.cell? ⟨b3,0,none⟩=W.cell? ⟨b3,0,none⟩
theorem wC {W':World} (h:Below W.heap.size W W'):W.grownBy W' none:=⟨h.os,h.tape,h.output,h.size,fun k hk _=>h.block k hk⟩
theorem Qg {b2 b3:Nat}{A B C:World} (h:Dk b2 b3 A B) (k:Dk b2 b3 B C):Dk b2 b3 A C:=⟨k.1.trans h.1,k.2.trans h.2⟩
theorem QX {b2 b3:Nat} (h2:b2<w.heap.size) (h3:b3<w.heap.size) (W:World) (l:Nat) (o o':Obj) (hl:w.heap.size≤l):Dk b2 b3 W (W.putObj l o'):=
 ⟨World.cell?_of_block (World.putObj_heap_other (fun e=>by simp at e;omega)),World.cell?_of_block (World.putObj_heap_other (fun e=>by simp at e;omega))⟩
theorem K6 (b2 b3:Nat) (ad:Addr) (n c K m:Nat) (w:World) (h2:w.cell? ⟨b2,0,none⟩=some (.slice (some ad) n c)) (h3:w.cell? ⟨b3,0,none⟩=some (.int .i64 K)) (hn:n=m*K) (hK:0<K) (hc:n≤c) (hb:n≤1000000) (hKb:K≤1000000):
  ∀N1,SeqStopsK Fence.wide N1 Tryz.prog 88 #[.pointer (some ⟨b2,0,none⟩),.pointer (some ⟨b3,0,none⟩)] (fun j:Fin m=> #[.slice (some (ad.add (j.val*K*3))) K K]) (Dk b2 b3) (fun xs=>xs=List.finRange m) (fun _=>True) m w:=by
 intro N1 l J Jx W hW hAb hAbx hY h0;refine callsIn_wide.2 ?_;show Calls _ _ #[.func (.yield l) #[] #[],.pointer (some ⟨b2,0,none⟩),.pointer (some ⟨b3,0,none⟩)] W _;have hAbd:∀xs W1 W2,J xs W1→Below W1.heap.size W1 W2→J xs W2:=fun xs W1 W2 h hb=>hAb xs W1 W2 none h (wC hb) (fun r e=>nomatch e);have c2:=bL hW h2;have c3:=bL hW h3;refine G9 (N:=31) (l:=[.func (.yield l) #[] #[],.pointer (some ⟨b2,0,none⟩),.pointer (some ⟨b3,0,none⟩)]) Tryz.func88 rfl rfl (by simp) ?_;refine aj ?_;refine aH [4,5,6,7,8,9,10,11,12,13,14,15,16,17,18,19,20,21,22,23,24,25,26,27,28,29,30] 4
  (fun v w'=>∃j:Nat,j≤m∧v=.int .i64 ((j*K:Nat):Int)∧J ((List.finRange m).take j) w'∧w'.cell? ⟨b2,0,none⟩=some (.slice (some ad) n c)∧w'.cell? ⟨b3,0,none⟩=some (.int .i64 K))
  (fun v _=>n+1-(intOf v).toNat) ?_ ?_
 ·exact ⟨0,abB _,by rw [ad4];rfl,h0,c2,c3⟩
 ·clear c2 c3 h0;rintro ρ' v w' ⟨j,hj,rfl,hJj,c2,c3⟩;have hh:=Hp.start w';by_cases hlt:j<m
  ·have h5:(j+1)*K≤m*K:=acx _ hlt;have h6:(j+1)*K=j*K+K:=acD j K;refine aj ?_;refine bG az.out rfl (c2) abr ?_;refine aj ?_;refine Ng ?_;refine aC 5 [[(2,none)],[(1,none)],[(4,none)],[(14,some 1),(15,some 2)],[(16,some 3)]] [(4,17),(3,16),(2,15),(1,14),(0,13)] hh mixed abt ?_;refine yY (fun _ hj=>bL hj.bl c3) ?_;refine yY (fun _ hj=>bL hj.bl c2) ?_;refine dp ?_;refine a8 (i:=3) (fun ρ1 w1 hj hR=>gJ (l:=(j*K)) bq.out az.size (show ρ1 14=Value.slice _ _ _ from hR.1) (show ρ1 15=Value.int _ _ from hR.2.1) abq abq abq) ?_;refine pY ?_;refine av ?_;intro f W hJ hV;have hb_3:=hJ.bl;obtain ⟨v17,v16,v15,v14,v13,_⟩:=hV;replace hh:=hJ.hp;refine ay (aQ (aa v17 (aa v16 (aa v15 (aa v14 (aa v13 aw)))))) ?_;dsimp only [bA];clear hJ;have hmin:(if ((n-j*K:Nat):Int)<(K:Int) then ((n-j*K:Nat):Int) else (K:Int))=(K:Int):=abw abq;refine aj ?_;rw [hmin];have c2':=bL hh.below c2;have c3':=bL hh.below c3;have hJ2:=hAbd _ _ _ hJj hh.below
   have hfr:(List.finRange m)[j]?=some ⟨j,hlt⟩:=by rw [ac1 (by rw [aeV];exact hlt),List.getElem_finRange];rfl
   have hy:=hY ((List.finRange m).take j) ⟨j,hlt⟩ _ hJ2 (by rw [abP,aeV];omega);refine aj ?_;refine bG az.out rfl (c2') abr ?_;refine aj ?_;refine aM rfl rfl abr (Wm bq.out az.size (Aj rfl) rfl rfl rfl (l:=j*K) (h:=j*K+K) (q:=j*K+K) rfl abq abq abq abq abq abq) ?_;have e28:j*K+K-j*K=K:=abq;rw [e28];refine Od rfl (aq (Aj rfl) aY) hy abr ?_;rintro e_ w29 (⟨rfl,hJ3,hk⟩|⟨rfl,hJx⟩)
   ·refine ⟨_,rfl, ?_⟩;have c2'':=hk.1.trans c2';have c3'':=hk.2.trans c3';refine aj ?_;refine bG az.out rfl (c3'') abr ?_;refine aj ?_;refine ⟨⟨j+1,hlt, ?_,by rw [al hfr];exact hJ3,c2'',c3''⟩, ?_, ?_⟩
    ·show Value.int _ (((j*K:Nat):Int)+(K:Int))=_;rw [h6]
     rfl
    ·show n+1-(((j*K:Nat):Int)+(K:Int)).toNat<n+1-((j*K:Nat):Int).toNat;omega
    ·exact dI
   ·refine ⟨_,rfl, ?_⟩;refine aj ?_;refine QU (by first|exact .inr rfl|exact .inl rfl) rfl ?_;exact ⟨⟨_,rfl⟩,.inr ⟨_,trivial,hJx⟩⟩
  ·obtain rfl:j=m:=abq;refine aj ?_;refine bG az.out rfl (c2) abr ?_;refine aj ?_;refine QU (by first|exact .inr rfl|exact .inl rfl) rfl ?_;rw [abG (by rw [aeV];omega)] at hJj;exact ⟨⟨_,rfl⟩,.inl ⟨_,rfl,hJj⟩⟩
variable {Hr:List HE}{k:Nat}{w0:World}
theorem sK (N:Nat):hZ N [.bool false,.string (ByteArray.mk #[]),.int .i64 0]=ar NR.cells ((List.replicate N (0:Dyadic)).map nR):=by
 rw [Cs,vN]
theorem Sz.aO {x:Dyadic} (h:Sz k x):(nR x).aO.size≤k+1:=by have:=h.nr.1;omega
theorem Qs (m:Nat):KP [m]=(nZ m).map fun n=>nR (nD n):=by
 have h:yx [m]=nZ m:=by
  have h1:=C9 [] m;have h2:yx []=[1]:=by decide
  rw [abC,h2] at h1;rw [h1];simp
 unfold KP;rw [h]
structure Lf (q:Nat) (s:NR) (x:Dyadic):Prop where
 ok:s.ok
 aO:s.aO.size≤2001
 d:s.d=x
 sz:Sz q x
theorem Lf.of {x:Dyadic} (h:Sz q x) (hq:q≤2000):Lf q (nR x) x:=⟨h.ok abq,by have:=h.aO;omega,a6 x,h⟩
theorem um (sa sb:NR) (a b:Dyadic) (L:Option Addr) (n c d:Nat) (xs:List Dyadic) (k q:Nat) (w:World) (hT:dq w) (hS:Sl w L n 3 (ar NR.cells (xs.map nR))) (hn:n=d+1) (hd:d≤127) (hx:∀x∈xs,Sz k x) (va:Lf q sa a) (vb:Lf q sb b) (hk:k≤300000) (hq:q≤2000):
  Calls Tryz.prog 197 #[.agg #[.bool sa.neg,.string sa.aO,.int .i64 sa.e,.bool sb.neg,.string sb.aO,.int .i64 sb.e],.slice L n c] w fun r w'=>∃A c',r=.returned (.slice A n c')∧w'.ownsRow w.heap.size 33 3 (.slice A n c') n (ar NR.cells ((dz d (fa d a b) xs).map nR))∧Below w.heap.size w w':=by
 have hh:=Hp.start w;have hln:xs.length=n:=by have:=hS.aX NR.len abr;simpa using this
 have hqd:q*d≤2000*127:=acR hq hd;have ha:=va.sz;have hb:=vb.sz;have hpw:∀(sz:NR) (z:Dyadic),Lf q sz z→∀(i:Nat),i≤d→∀w1,dq w1→Calls Tryz.prog 87 #[.agg #[.bool sz.neg,.string sz.aO,.int .i64 sz.e],.int .i64 (i:Int)] w1 fun r w'=>r=.returned (.agg #[.bool (nR (z^i)).neg,.string (nR (z^i)).aO,.int .i64 (nR (z^i)).e])∧Below w1.heap.size w1 w':=fun sz z hz i hi w1 hT1=>by
  have h1:=hz.aO;have h2:i*sz.aO.size≤127*2001:=acR abq abq;have:=Gc sz i w1 hT1 hz.ok (by rw [ada];omega) abq;rwa [hz.d,ada] at this
 obtain ⟨ad,rfl,hr⟩:=hS.at_ abq;refine ae (N:=66) (l:=[.agg #[.bool sa.neg,.string sa.aO,.int .i64 sa.e,.bool sb.neg,.string sb.aO,.int .i64 sb.e],.slice (some ad) n c]) Tryz.func197 rfl rfl (by simp) ?_;refine bT ?_;intro b2 w2 hh;refine zk ?_;intro b16 w16 hh;refine aj ?_;rw [sK,hn,←wc d a b xs,←hn] at hh;refine aH [7,8,9,10,19,20,21,22,23,24,25,26,27,28,29,30,31,32,33,34,35,36,37,38,39,40,41,42,43,44,45,46,47,48,49,50,51,52,53,54,55,56,57,58,59,60,61,62,63,64] 19
  (fun v w'=>∃i:Nat,i≤n∧v=.int .i64 i∧Hp w [.row (some ⟨b16,0,none⟩) n n 33 3 (ar NR.cells ((jD d a b xs i 0).map nR)),.blk b2 223 [.bool sa.neg,.string sa.aO,.int .i64 sa.e,.bool sb.neg,.string sb.aO,.int .i64 sb.e] (0,0)] w')
  (fun v _=>n-(intOf v).toNat) ?_ ?_
 ·exact ⟨0,abB _,rfl,hh⟩
 ·clear hh;rintro ρ' v w' ⟨i,hi,rfl,hh⟩;by_cases hlt:i<n
  ·obtain ⟨x,hxi⟩:=ai (l:=xs) (k:=i) abq;have hxn:(xs.map nR)[i]?=some (nR x):=by rw [abI,hxi];rfl
   have hat:gY xs i=x:=by unfold gY;rw [hxi];rfl
   have zx:=hx x (abz hxi);have hpa:=hpw sa a va i abq;have zp:=ha.QQ (show i≤d by omega);have zc:=zx.mul zp;have hmul:=fun A cc w1 hT1 hS1=>eC A 2 cc [nR x,nR (a^i)] w1 hT1 hS1 (by simpa using ⟨zx.ok abq,zp.ok abq⟩) 600000 (by simpa [a6] using ⟨zx.mono abq,zp.mono abq⟩) abq abq;rw [show gO ([nR x,nR (a^i)].map NR.d)=x*a^i by simp only [ab8,acF,a6];show 1*x*a^i=_;rw [adq]] at hmul;refine aj ?_;refine bF (vs:=[_,_,_]) az.out rfl ((hr.ext hh.below).recAt NR.len hxn) rfl abr ?_;refine bX ?_;intro b8 w8 hh ws hh;refine aC 5 [[(8,none)],[(2,none)],[(25,some 1)],[(7,none)],[(26,some 2),(27,some 3)]] [(4,28),(3,27),(2,26),(1,25),(0,24)] hh mixed abt ?_;refine da 0 [_,_,_] ?_;refine dw ?_;refine da 2 [_,_,_] ?_;refine dp ?_;refine dC (fun _ hj=>hpa _ (hT.hp hj.hp)) ?_;refine av ?_;intro f W hJ hV;have hb_6:=hJ.bl;obtain ⟨v28,v27,v26,v25,v24,_⟩:=hV;replace hh:=hJ.hp;refine ay (aQ (aa v28 (aa v27 (aa v26 (aa v25 (aa v24 aw)))))) ?_;dsimp only [bA];clear hJ;refine qd ?_;intro b29 w29 hh;refine aZ hh (hmul _ _ _ (hT.hp hh) (hh.ao (i:=0) rfl)) rfl ?_;intro w30 hh
   refine bT ?_;intro ws hh;refine vA ?_;intro b34 w34 hh;have e33:(n:Int)-1-(i:Int)=((d-i:Nat):Int):=abq;rw [e33] at hh;have hcw:ah [d-i]=d-i+1:=by simp [ah]
   have hwt:=fun w1 hT1 hS1=>oP (some ⟨b34,0,none⟩) 1 1 [d-i] w1 hT1 hS1 (by simp) (by simp;omega) (by rw [hcw];omega);rw [hcw,Qs] at hwt;refine au (hwt _ (hT.hp hh) (hh.ao (i:=0) rfl)) ak.out rfl abr ?_;rintro e_ w35 ⟨A35,c35,rfl,hown_,hb_⟩;refine ⟨_,rfl, ?_⟩;replace hh:=hh.aD (x:=.row _ _ _ _ _ _) hb_ hown_;refine aj ?_;replace hh:=hh.sub (aby _ (abA _ (abA _ (aby _ (aby _ (aby _ abV))))));refine aH [9,10,37,38,39,40,41,42,43,44,45,46,47,48,49,50,51,52,53,54,55,56,57,58,59,60,61,62,63] 37
    (fun v w'=>∃j:Nat,j≤d-i+1∧v=.int .i64 j∧Hp w [.row A35 (d-i+1) c35 33 3 (ar NR.cells ((nZ (d-i)).map fun n=>nR (nD n))),.blk b8 33 [.bool (nR (x*a^i)).neg,.string (nR (x*a^i)).aO,.int .i64 (nR (x*a^i)).e] (0,0),.row (some ⟨b16,0,none⟩) n n 33 3 (ar NR.cells ((jD d a b xs i j).map nR)),.blk b2 223 [.bool sa.neg,.string sa.aO,.int .i64 sa.e,.bool sb.neg,.string sb.aO,.int .i64 sb.e] (0,0)] w')
    (fun v _=>d-i+1-(intOf v).toNat) ?_ ?_
   ·exact ⟨0,abB _,rfl,hh⟩
   ·clear hh;rintro ρ2 v w2 ⟨j,hj,rfl,hh⟩;by_cases hjn:j<d-i+1
    ·have hbl:(nZ (d-i))[j]?=some (bin (d-i) j):=vi abq;have hbn:((nZ (d-i)).map fun n=>nR (nD n))[j]?=some (nR (nD (bin (d-i) j))):=by rw [abI,hbl];rfl
     have zb:=sW (d-i) j abq;have hpb:=hpw sb b vb j abq;have zq:=hb.QQ (show j≤d by omega);obtain ⟨o,ho⟩:=ai (l:=jD d a b xs i j) (k:=i+j) (by rw [lJ];omega);have hon:((jD d a b xs i j).map nR)[i+j]?=some (nR o):=by rw [abI,ho];rfl
     have zo:=vq (j:=j) hx ha hb hd (show i≤d+1 by omega) o (abz ho);have zy:=(zc.mul zb).mul zq;have hm3:=fun A cc w1 hT1 hS1=>eC A 3 cc [nR (x*a^i),nR (nD (bin (d-i) j)),nR (b^j)] w1 hT1 hS1 (by simpa using ⟨zc.ok abq,zb.ok abq,zq.ok abq⟩) 600000 (by simpa [a6] using ⟨zc.mono abq,zb.mono abq,zq.mono abq⟩) abq abq;rw [show gO ([nR (x*a^i),nR (nD (bin (d-i) j)),nR (b^j)].map NR.d)=x*a^i*nD (bin (d-i) j)*b^j by simp only [ab8,acF,a6];show 1*(x*a^i)*_*_=_;rw [adq]] at hm3;have hset:=C8 (show i+j≤d by omega) ho;have hval:gY xs i*fa d a b i (i+j)=x*a^i*nD (bin (d-i) j)*b^j:=by
      unfold fa;rw [hat,abw abq,show i+j-i=j by omega];generalize nD (bin (d-i) j)=u;generalize a^i=v;generalize b^j=z;grind
     rw [hval] at hset;generalize x*a^i*nD (bin (d-i) j)*b^j=y at*;have hsum:=fun A cc w1 hT1 hS1=>gl A 2 cc [nR o,nR y] w1 hT1 hS1 (by simpa using ⟨zo.ok abq,zy.ok abq⟩) 2000000 (by simpa [a6] using ⟨zo.mono abq,zy.mono abq⟩) abq;rw [show nM ([nR o,nR y].map NR.d)=o+y by simp only [ab8,acF,a6,jH]] at hsum;have hll:((jD d a b xs i j).map nR).length=n:=by rw [abH,lJ];omega
     generalize jD d a b xs i j=S at*;have hrl:=eH NR.len (S.map nR);obtain ⟨gw,rfl⟩:=hh.bP (i:=0) rfl abq;refine aj ?_;refine bF (vs:=[_,_,_]) az.out rfl (hh.df (f:=NR.cells) (x:=nR (nD (bin (d-i) j))) (l:=(nZ (d-i)).map fun n=>nR (nD n)) (i:=0) rfl NR.len abr hbn) rfl abr ?_;refine bX ?_;intro b10 w10 hh ws hh;refine aC 20 [[(6,none)],[(7,none)],[(9,none)],[(43,some 1),(44,some 2)],[(6,none)],[(7,none)],[(9,none)],[(47,some 5),(48,some 6)],[(46,some 4),(49,some 7)],[(50,some 8)],[(8,none)],[(10,none)],[(2,none)],[(54,some 12)],[(9,none)],[(55,some 13),(56,some 14)],[(52,some 10),(53,some 11),(57,some 15)],[(58,some 16)],[(51,some 9),(59,some 17)],[(60,some 18)]] [(19,61),(18,60),(17,59),(16,58),(15,57),(14,56),(13,55),(12,54),(11,53),(10,52),(9,51),(8,50),(7,49),(6,48),(5,47),(4,46),(3,45),(2,44),(1,43),(0,42)] hh mixed abt ?_;refine fO ?_;refine dp ?_;refine dp ?_;refine tk ?_;refine fO ?_;refine dp ?_;refine dp ?_;refine tk ?_;refine CN ((i+j)) ?_
     refine p9 [_,_,_] (fun _ hj=>hj.hp.df (f:=NR.cells) (x:=nR o) (l:=S.map nR) (i:=3) rfl NR.len abr hon) ?_;refine da 2 [_,_,_] ?_;refine da 0 [_,_,_] ?_;refine dw ?_;refine da 4 [_,_,_] ?_;refine dp ?_;refine dC (fun _ hj=>hpb _ (hT.hp hj.hp)) ?_;refine uW [_,_,_,_,_,_,_,_,_] ?_;refine aW (i:=17) (Is (.agg #[.bool (nR y).neg,.string (nR y).aO,.int .i64 (nR y).e])) Is.ext ?_ ?_
     ·intro ρ1 w1 hj hR;obtain ⟨A58,c58,h58,s58⟩:=hR.1;exact bp rfl (aR ak.out (aq h58 aY)) (hm3 A58 c58 _ (hT.hp hj.hp) s58) (fun _ _ hq=>⟨_,hq.1,hq.2,rfl⟩)
     refine uW [_,_,_,_,_,_] ?_;refine aW (i:=19) (Is (.agg #[.bool (nR (o+y)).neg,.string (nR (o+y)).aO,.int .i64 (nR (o+y)).e])) Is.ext ?_ ?_
     ·intro ρ1 w1 hj hR;obtain ⟨A60,c60,h60,s60⟩:=hR.1;exact bp rfl (aR ak.out (aq h60 aY)) (hsum A60 c60 _ (hT.hp hj.hp) s60) (fun _ _ hq=>⟨_,hq.1,hq.2,rfl⟩)
     refine av ?_;intro f W hJ hV;have hb_10:=hJ.bl;obtain ⟨v61,v60,v59,v58,v57,v56,v55,v54,v53,v52,v51,v50,v49,v48,v47,v46,v45,v44,v43,v42,_⟩:=hV;obtain ⟨A58,c58,e58,f58⟩:Rows _ _ _ (f 16) W:=v58;obtain ⟨A60,c60,e60,f60⟩:Rows _ _ _ (f 18) W:=v60;replace hh:=hJ.hp;refine ay (aQ (aa v61 (aa e60 (aa v59 (aa e58 (aa v57 (aa v56 (aa v55 (aa v54 (aa v53 (aa v52 (aa v51 (aa v50 (aa v49 (aa v48 (aa v47 (aa v46 (aa v45 (aa v44 (aa v43 (aa v42 aw))))))))))))))))))))) ?_;dsimp only [bA];clear e58 e60 hJ;refine dF (k:=(i+j)) bq.out az.size rfl rfl abq abq abr ?_;refine JS ?_;intro ws hh;simp only [abK,ab9] at hh;rw [show bK (ar NR.cells (S.map nR)) ((i+j)*3) [.bool (nR (o+y)).neg,.string (nR (o+y)).aO,.int .i64 (nR (o+y)).e]=ar NR.cells ((S.map nR).set (i+j) (nR (o+y))) from ew NR.len abq,←adz,hset] at hh;refine aj ?_;replace hh:=hh.sub (abA _ (aby _ (aby _ (aby _ (aby _ abV)))));exact TP
    ·obtain rfl:j=d-i+1:=abq;rw [zI abq] at hh;refine aj ?_;replace hh:=hh.sub (abA _ (abA _ (aby _ (aby _ abV))));exact vH
  ·obtain rfl:i=n:=abq;rw [show jD d a b xs i 0=dz d (fa d a b) xs by rw [hn,pr]] at hh;exact yT
def tO (l:List Dyadic) (i:Nat):List Dyadic:=(List.range l.length).map fun k=>if k<i∨l.length≤k+i then gY l (l.length-1-k) else gY l k
theorem pS {l:List Dyadic}{i:Nat} (h:k<l.length):(tO l i)[k]?=some (if k<i∨l.length≤k+i then gY l (l.length-1-k) else gY l k):=by
 unfold tO;rw [abI,acy h]
 rfl
theorem uZ {l:List Dyadic} (h:k<l.length):l[k]?=some (gY l k):=by
 unfold gY;rw [ac1 h]
 rfl
theorem mz (l:List Dyadic) (i:Nat):(tO l i).length=l.length:=by simp [tO]
theorem J8 (l:List Dyadic):tO l 0=l:=by
 refine acp fun k=> ?_;by_cases h:k<l.length
 ·rw [pS h,abw abq,uZ h]
 ·rw [abT (by rw [mz];omega),abT abq]
theorem Kf {l:List Dyadic}{i:Nat} (h:l.length≤2*i+1):tO l i=l.reverse:=by
 refine acp fun k=> ?_;by_cases hk:k<l.length
 ·rw [pS hk,ac6 hk,uZ (show l.length-1-k<l.length by omega)];split
  ·rfl
  ·rw [show l.length-1-k=k by omega]
 ·rw [abT (by rw [mz];omega),abT (by rw [abY];omega)]
theorem J2 {l:List Dyadic}{i:Nat} (h:2*i+1<l.length):((tO l i).set i (gY l (l.length-1-i))).set (l.length-1-i) (gY l i)=tO l (i+1):=by
 refine acp fun k=> ?_;by_cases hk:k<l.length
 ·rw [acV,acV,acU,mz,pS hk,pS hk];by_cases h1:l.length-1-i=k
  ·rw [abx h1,abx abq,abx abq,show l.length-1-k=i by omega]
  ·rw [abw h1];by_cases h2:i=k
   ·subst h2;rw [abx rfl,abx hk,abx abq]
   ·rw [abw h2];by_cases h3:k<i∨l.length≤k+i
    ·rw [abx h3,abx abq]
    ·rw [abw h3,abw abq]
 ·rw [abT (by rw [acU,acU,mz];omega),abT (by rw [mz];omega)]
theorem vE (g n c:Nat) (l:List Dyadic) (w:World) (hh:Hp w0 (.row (some ⟨g,0,none⟩) n c 33 3 (ar NR.cells (l.map nR))::Hr) w) (hl:l.length=n) (hn:n≤1000000):
  Calls Tryz.prog 228 #[.slice (some ⟨g,0,none⟩) n c] w fun r w'=>r=.returned (.tuple #[])∧Hp w0 (.row (some ⟨g,0,none⟩) n c 33 3 (ar NR.cells (l.reverse.map nR))::Hr) w':=by
 refine ae (N:=28) (l:=[.slice (some ⟨g,0,none⟩) n c]) Tryz.func228 rfl rfl (by simp) ?_;refine aj ?_;refine bk [2,3,7,8,9,10,11,12,13,14,15,16,17,18,19,20,21,22,23,24,25,26,27] 2 3
  (fun v2 v w'=>∃i:Nat,2*i≤n+1∧v2=.int .i64 i∧v=.int .i64 ((n:Int)-1-i)∧Hp w0 (.row (some ⟨g,0,none⟩) n c 33 3 (ar NR.cells ((tO l i).map nR))::Hr) w')
  (fun v _ _=>n-(intOf v).toNat) ?_ ?_
 ·exact ⟨0,abq,rfl,by show Value.int _ _=Value.int _ _;rw [show (n:Int)-1-((0:Nat):Int)=(n:Int)-1 by omega],by rw [J8];exact hh⟩
 ·clear hh;rintro ρ' v2 v w' ⟨i,hi,rfl,rfl,hh⟩;by_cases hlt:(i:Int)<(n:Int)-1-i
  ·have h1:((tO l i).map nR)[n-1-i]?=some (nR (gY l (n-1-i))):=by
    rw [abI,pS abq,abw abq]
    rfl
   have h2:((tO l i).map nR)[i]?=some (nR (gY l i)):=by
    rw [abI,pS abq,abw abq]
    rfl
   have hst:=J2 (l:=l) (i:=i) abq;rw [hl] at hst;have hll:((tO l i).map nR).length=n:=by rw [abH,mz,hl]
   generalize tO l i=S at*;have hrl:=eH NR.len (S.map nR);generalize gY l (n-1-i)=x at*;generalize gY l i=y at*;refine aj ?_;refine db [] [2,3] [0,0,0,0,0,0,48,112,0,0,768,1792,4083,8179,16383,32767] 12 [[(0,none)],[(2,none)],[(0,none)],[(3,none)],[(0,none)],[(3,none)],[(18,some 4),(19,some 5)],[(20,some 6)],[(0,none)],[(2,none)],[(22,some 8),(23,some 9)],[(24,some 10)]] [(11,25),(10,24),(9,23),(8,22),(7,21),(6,20),(5,19),(4,18),(3,17),(2,16),(1,15),(0,14)] hh mixed abt dx rfl (by repeat (first|exact bV|refine bD ?_|refine bU ?_)) ?_;refine fO ?_;refine dp ?_;refine fO ?_;refine dp ?_;refine fO ?_;refine dp ?_;refine CN ((n-1-i)) ?_;refine p9 [_,_,_] (fun _ hj=>hj.hp.df (f:=NR.cells) (x:=nR x) (l:=S.map nR) (i:=0) rfl NR.len abr h1) ?_;refine fO ?_;refine dp ?_;refine CN (i) ?_;refine p9 [_,_,_] (fun _ hj=>hj.hp.df (f:=NR.cells) (x:=nR y) (l:=S.map nR) (i:=0) rfl NR.len abr h2) ?_;refine av ?_;intro f W hJ hV _;have hb_3:=hJ.bl;obtain ⟨v25,v24,v23,v22,v21,v20,v19,v18,v17,v16,v15,v14,_⟩:=hV;replace hh:=hJ.hp
   refine ay (aQ (aa v25 (aa v24 (aa v23 (aa v22 (aa v21 (aa v20 (aa v19 (aa v18 (aa v17 (aa v16 (aa v15 (aa v14 aw))))))))))))) ?_;dsimp only [bA];clear hJ;refine aj ?_;refine Ic ?_;intro ws hh;simp only [abK] at hh;rw [show bK (ar NR.cells (S.map nR)) (i*3) [.bool (nR x).neg,.string (nR x).aO,.int .i64 (nR x).e]=ar NR.cells ((S.map nR).set i (nR x)) from ew NR.len abq] at hh;have hrl2:=eH NR.len ((S.map nR).set i (nR x));rw [acU] at hrl2;refine dF (k:=(n-1-i)) bq.out az.size rfl rfl abq abq abr ?_;refine Ic ?_;intro ws hh;simp only [abK] at hh;rw [show bK (ar NR.cells ((S.map nR).set i (nR x))) ((n-1-i)*3) [.bool (nR y).neg,.string (nR y).aO,.int .i64 (nR y).e]=ar NR.cells (((S.map nR).set i (nR x)).set (n-1-i) (nR y)) from ew NR.len (by rw [acU];omega),←adz,←adz,hst] at hh;refine aj ?_;refine ⟨⟨i+1,abq,rfl, ?_,hh⟩,by show n-(i+1)<n-i;omega, ?_⟩
   ·show Value.int _ _=Value.int _ _;rw [show (n:Int)-1-((i+1:Nat):Int)=(n:Int)-1-(i:Int)-1 by omega]
   ·exact dI
  ·rw [Kf abq] at hh;refine aj ?_;refine QU (by first|exact .inr rfl|exact .inl rfl) rfl ?_;exact ⟨rfl,hh⟩
theorem DH (sa sb:NR) (a b:Dyadic) (L:Option Addr) (n c d:Nat) (xs:List Dyadic) (k q:Nat) (w:World) (hT:dq w) (hS:Sl w L n 3 (ar NR.cells (xs.map nR))) (hn:n=d+1) (hd:d≤127) (hx:∀x∈xs,Sz k x) (va:Lf q sa a) (vb:Lf q sb b) (hk:k≤300000) (hq:q≤2000):
  Calls Tryz.prog 198 #[.agg #[.bool sa.neg,.string sa.aO,.int .i64 sa.e,.bool sb.neg,.string sb.aO,.int .i64 sb.e],.slice L n c] w fun r w'=>∃A c',r=.returned (.slice A n c')∧w'.ownsRow w.heap.size 33 3 (.slice A n c') n (ar NR.cells ((dz d (fa d b a) xs.reverse).reverse.map nR))∧Below w.heap.size w w':=by
 have hh:=Hp.start w;have hln:xs.length=n:=by have:=hS.aX NR.len abr;simpa using this
 refine ae (N:=21) (l:=[.agg #[.bool sa.neg,.string sa.aO,.int .i64 sa.e,.bool sb.neg,.string sb.aO,.int .i64 sb.e],.slice L n c]) Tryz.func198 rfl rfl (by simp) ?_;refine bT ?_;intro b2 w2 hh;refine au (m7 L n c (xs.map nR) _ (hS.ext hh.below) abq) ak.out rfl abr ?_;rintro e_ w8 ⟨A8,c8,rfl,hown_,hb_⟩;refine ⟨_,rfl, ?_⟩;replace hh:=hh.aD (x:=.row _ _ _ _ _ _) hb_ hown_;obtain ⟨g8,rfl⟩:=hh.bP (i:=0) rfl abq;refine aj ?_;refine au (vE g8 n c8 xs _ hh hln abq) ak.out rfl abr ?_;rintro e_ w10 ⟨rfl,hh2⟩;refine ⟨_,rfl, ?_⟩;replace hh:=hh2;clear hh2;have hlo:=fun w1 hT1 hS1=>um sb sa b a (some ⟨g8,0,none⟩) n c8 d xs.reverse k q w1 hT1 hS1 hn hd (fun x hx2=>hx x (adp.1 hx2)) vb va hk hq;refine aj ?_;refine au (hlo _ (hT.hp hh) (hh.ao (i:=0) rfl)) ak.out rfl abr ?_;rintro e_ w17 ⟨A17,c17,rfl,hown_,hb_⟩;refine ⟨_,rfl, ?_⟩;replace hh:=hh.aD (x:=.row _ _ _ _ _ _) hb_ hown_;obtain ⟨g17,rfl⟩:=hh.bP (i:=0) rfl abq;refine aj ?_;refine au (vE g17 n c17 (dz d (fa d b a) xs.reverse) _ hh (by rw [kP];omega) abq) ak.out rfl abr ?_;rintro e_ w19 ⟨rfl,hh2⟩;refine ⟨_,rfl, ?_⟩;replace hh:=hh2;clear hh2;exact yT
def Z8 (base:Nat) (E:Int) (D:List Nat) (ys:List Dyadic):VP:=fun v W=>∃(g:FX) (w1:World),v=.agg #[.slice g.A g.n g.a,.slice g.B g.m g.b]∧Out E D ys g∧base≤w1.heap.size∧Hp w1 [g.jW,g.jY] W
def aaA (base:Nat) (E:Int) (D:List Nat) (ys:List Dyadic):VP:=fun v W=>∃(g:FX) (w1:World),v=.tuple #[.agg #[.slice g.A g.n g.a,.slice g.B g.m g.b],.int .i64 E]∧Out E D ys g∧base≤w1.heap.size∧Hp w1 [g.jW,g.jY] W
variable {N m:Nat}{assign body:Code}{α:Type}
instance:az Tryz.prog 187 1 false 8 [.nilFunc]:={}
theorem K5 {bs:List (Fin m)}{q:Fin m} (h:bs++[q]=(List.finRange m).take (bs++[q]).length) (hb:bs.length<m):bs=(List.finRange m).take bs.length∧q.val=bs.length:=by
 have hl:(bs++[q]).length=bs.length+1:=by simp
 rw [hl] at h;have h1:=acm (List.take bs.length) h;rw [List.take_left' rfl,List.take_take,acQ abq] at h1;have h2:(bs++[q])[bs.length]?=((List.finRange m).take (bs.length+1))[bs.length]?:=by rw [←h]
 rw [acP (abD _),acs,ado,abx abq,show (List.finRange m)[bs.length]?=some ⟨bs.length,hb⟩ by rw [ac1 (by rw [aeV];exact hb),List.getElem_finRange];rfl] at h2;exact ⟨h1,acm Fin.val (aca h2)⟩
theorem Kj {Q:Kd}{g:Operand}{p:Tmp}{gf:Nat}{lb:Array Value} (q:Nat) (hq:q<N) (hp:p<N) (hg:ev ρ g=.func (.func gf) #[] lb) (eg:∀args w,(callFunc gf args).run P w=.ok (.enter gf args) w)
  {enc:α→Value}{Kp:World→World→Prop}{S:List α→Prop}{Nn:Nat} (hseq:∀n,SeqStopsK Fence.wide n P gf lb (fun x=> #[enc x]) Kp S (fun _=>True) Nn w)
  (hKt:∀{A B C:World},Kp A B→Kp B C→Kp A C) (hKb:∀(W:World) (l:Nat) (o o':Obj),w.heap.size≤l→W.heap[l]?=some o→o.isCells=false→o.isWalk=false→Kp W (W.putObj l o'))
  (I:List α→World→Prop) (hI:OwnFrom w.heap.size I) (h0:I [] w)
  (hassign:∀l x W,WC ⟨some l,[],true⟩ P N assign (dV (fun ρ' W'=>ρ'=cg (cg ρ p (enc x)) q (enc x)∧W'=W) X6) (cg ρ p (enc x)) W)
  (hbody:∀l pre x W,I pre W→pre.length<Nn→WC ⟨some l,[],true⟩ P N body (T8 Kp I pre x W) (cg (cg ρ p (enc x)) q (enc x)) W)
  (hdone:∀(D:Nat) (xs:List α) (W:World),w.heap.size≤D→S xs→I xs W→W.heap[D]?=some (.deferred (some []))→Q .normal [D] ρ W):WD P N (.rangeFunc g #[p] assign body) Q ρ w:=
 PT hp hg eg hseq hKt hKb I hI h0 (fun x=>cg (cg ρ p (enc x)) q (enc x)) (fun x i hi=>by rw [gR _ (fun h=>absurd hq (by rw [←h];exact Nat.not_lt.2 hi)),gR _ (fun h=>absurd hp (by rw [←h];exact Nat.not_lt.2 hi))]) hassign hbody hdone
theorem rT (DA NA:Option Addr) (n c m e:Nat) (pre suf:List Nat) (dd:Nat) (M:Nat→Nat→Dyadic) (xs:List Dyadic) (fid:FuncId) (fst cap:List Value) (k G:Nat) (w:World) [ak Tryz.prog fid] (hT:dq w)
  (hD:Sl w DA n 1 (bh (a0 (pre++dd::suf)))) (hS:Sl w NA m 3 (ar NR.cells (xs.map nR))) (hcap:n≤c) (hn:n≤1000) (hlow:∀x∈pre++dd::suf,x≤127) (hm:xs.length=ah (suf.reverse++dd::pre.reverse)) (hm4:m≤4096)
  (hx:∀x∈xs,Sz k x) (hk:k+ah pre*G≤300000)
  (hdo:∀(L:Option Addr) (c2:Nat) (ls:List Dyadic) (q:Nat) (w1:World),Below w.heap.size w w1→dq w1→Sl w1 L (dd+1) 3 (ar NR.cells (ls.map nR))→(∀x∈ls,Sz q x)→q≤300000→
   Calls Tryz.prog fid (fst++Value.slice L (dd+1) c2::cap).toArray w1 fun r w'=>∃A c',r=.returned (.slice A (dd+1) c')∧w'.ownsRow w1.heap.size 33 3 (.slice A (dd+1) c') (dd+1) (ar NR.cells ((dz dd M ls).map nR))∧Below w1.heap.size w1 w')
  (hgr:∀(ls:List Dyadic) (q:Nat),ls.length=dd+1→(∀x∈ls,Sz q x)→∀x∈dz dd M ls,Sz (q+G) x):
  Calls Tryz.prog 196 #[.agg #[.slice DA n c,.slice NA m e],.int .i64 (pre.length:Nat),.func (.func fid) fst.toArray cap.toArray] w fun r w'=>∃A a B b,r=.returned (.agg #[.slice A n a,.slice B m b])∧Hp w [.row B m b 33 3 (ar NR.cells ((eu (suf.reverse++dd::pre.reverse) suf.length M xs).map nR)),.row A n a 3 1 (bh (a0 (pre++dd::suf)))] w':=by
 have hh:=Hp.start w;have hln:pre.length+(suf.length+1)=n:=by have:=hD.1;rw [cq,bZ,abJ,ab0] at this;omega
 have hlm:xs.length=m:=by have:=hS.aX NR.len abr;rw [abH] at this;exact this
 have hcA:ah suf.reverse=ah suf:=cf suf;have hcB:ah pre.reverse=ah pre:=cf pre;have hmK:m=ah pre*((dd+1)*ah suf):=by rw [←hlm,hm,dt,ah,hcA,hcB];rw [abU (ah suf),Nat.mul_right_comm,abU _ (ah pre)]
 have hA0:=de suf;have hB0:=de pre;have hAm:ah suf≤m:=by rw [hmK];exact abW (aeC _ abq) (aeC _ hB0)
 have hKm:(dd+1)*ah suf≤m:=by rw [hmK];exact aeC _ hB0
 have hdl:dd≤127:=hlow dd (acI _ abF);obtain ⟨ad,rfl,hr⟩:=hD.at_ abq;have hgd:(bh (a0 (pre++dd::suf)))[pre.length]?=some (.int .i64 (dd:Nat)):=cM (eA (by rw [acP (abD _),acs];rfl));refine K8 (N:=93) (l:=[.agg #[.slice (some ad) n c,.slice NA m e],.int .i64 (pre.length:Nat),.func (.func fid) fst.toArray cap.toArray]) Tryz.func196 rfl rfl (by simp) ?_;refine zw fun D_=> ?_;refine lK ?_;intro b3 w3 hh b5 w5 hh b6 w6 hh;refine zw fun D_=> ?_;refine bR (tq ?_);refine p8 hh 2 ?_;refine mI ?_;refine du (k:=pre.length) bq.out az.size rfl rfl abq abq abr ?_;refine bG az.out rfl ((hr.ext hh.below).vc hgd) abr ?_;refine xQ ?_;intro b7 w7 hh b8 w8 hh ws hh ws hh;refine zw fun D_=> ?_;refine aj ?_;refine aM rfl rfl abr (gJ bq.out az.size rfl rfl (l:=pre.length+1) rfl abq abq) ?_;have hbk:=hD.back (l:=pre.length+1) (c:=c) abq hcap;have hds:(bh (a0 (pre++dd::suf))).drop ((pre.length+1)*1)=bh (a0 suf):=by
  rw [abZ];unfold bh a0;rw [←aeq,←aeq,←ad7,List.drop_left]
  rfl
 rw [hds] at hbk;generalize (if c=pre.length+1 then some ad else (some ad:Option Addr).map (·.add ((pre.length+1)*1)))=CA at hbk ⊢;have en:n-(pre.length+1)=suf.length:=abq;rw [en] at hbk ⊢;refine aj ?_;have hcap':∀i,ah (suf.take i)≤ah suf:=eT suf;refine aH [10,30,31,32,33,34,35,36,37,38] 30
  (fun v w'=>∃i:Nat,i≤suf.length∧v=.int .i64 i∧Hp w [.blk b8 3 [.int .i64 (ah (suf.take i):Nat)] (0,0),.blk b7 3 [.int .i64 ((dd:Nat)+1)] (0,0),.blk b6 25 [.slice none 0 0,.slice none 0 0] (0,0),.blk b5 187 [.func (.func fid) fst.toArray cap.toArray] (0,0),.blk b3 25 [.slice (some ad) n c,.slice NA m e] (0,0)] w')
  (fun v _=>suf.length-(intOf v).toNat) ?_ ?_
 ·exact ⟨0,abB _,rfl,hh⟩
 ·clear hh;rintro ρ' v w' ⟨i,hi,rfl,hh⟩;by_cases hlt:i<suf.length
  ·obtain ⟨x,hxi⟩:=ai (l:=suf) (k:=i) hlt;have hgi:=cM (eA hxi);have hx2:=hlow x (acI _ (abN _ (abz hxi)));have hct:=hcap' (i+1);have hct2:=hcap' i;have hstep:ah (suf.take (i+1))=ah (suf.take i)*(x+1):=by rw [al hxi,dt];simp [ah]
   have e1:((ah (suf.take i):Nat):Int)*((x:Int)+1)=((ah (suf.take (i+1)):Nat):Int):=by rw [hstep,acK,acZ];rfl
   obtain ⟨ab,rfl,sb⟩:=hbk.at_ abq;refine aj ?_;refine bG az.out rfl ((sb.ext hh.below).vc hgi) abr ?_;refine bT ?_;intro ws hh;rw [e1] at hh;refine ⟨⟨i+1,abq,rfl,hh⟩,by show suf.length-(i+1)<suf.length-i;omega, ?_⟩;exact dI
  ·obtain rfl:i=suf.length:=abq;rw [abG (abD _),←hcA] at hh;rw [←hcA,←hcB] at hmK;rw [←hcA] at hA0 hKm;rw [←hcB] at hB0 hk;have hrA:suf.reverse.length=suf.length:=abY;rw [←hrA];generalize suf.reverse=A at*;generalize pre.reverse=B at*;refine aj ?_;refine zw fun D_=> ?_;refine Ng ?_;refine aC 8 [[(3,none)],[(39,some 0)],[(40,some 1)],[(3,none)],[(42,some 3)],[(43,some 4)],[(41,some 2),(44,some 5)],[]] [(7,11),(6,45),(5,44),(4,43),(3,42),(2,41),(1,40),(0,39)] hh mixed abt ?_;refine dw ?_;refine fF 4 ?_;refine aW (i:=2) (DL hh.sz 3 n 1 (bh (a0 (pre++dd::suf)))) (DL.ext) ?_ ?_
   ·intro ρ1 w1 hj hR;exact bp rfl (aR ak.out (aq (show ρ1 40=Value.slice _ _ _ from hR.1) aY)) (nI (some ad) n c _ w1 (hD.ext hj.hp.below) abq) (fun _ _ ⟨A,c,hq,ho,hb⟩=>⟨_,hq,hb,A,c,rfl,iq ho hj.bl.size⟩)
   refine dw ?_;refine fF 4 ?_;refine aW (i:=5) (DL hh.sz 33 m 3 (ar NR.cells (xs.map nR))) (DL.ext) ?_ ?_
   ·intro ρ1 w1 hj hR;exact bp rfl (aR ak.out (aq (show ρ1 43=Value.slice _ _ _ from hR.1) aY)) (m7 NA m e _ w1 (hS.ext hj.hp.below) abq) (fun _ _ ⟨A,c,hq,ho,hb⟩=>⟨_,hq,hb,A,c,rfl,iq ho hj.bl.size⟩)
   refine aW (i:=6) (yl hh.sz 3 33 n 1 m 3 (bh (a0 (pre++dd::suf))) (ar NR.cells (xs.map nR))) (yl.ext) ?_ ?_
   ·intro ρ1 w1 hj hR;exact let ⟨A,c,e1,o1⟩:=hR.1;let ⟨B,k,e2,o2⟩:=hR.2.1;cY rfl (ng (cs:=[_,_]) az.out kg.out (bC e1 (bC e2 dk)) rfl) ⟨Below.refl _ _,A,c,B,k,rfl,o1,o2⟩
   refine aW (i:=7) (cd _ 25 _) cd.ext (fun ρ1 w1 hj hR=>iP az.out hj.bl (fun v w2 h hb=>⟨hb,h⟩)) ?_;refine av ?_;intro f W hJ hV;have hb_7:=hJ.bl;obtain ⟨v11,v45,v44,v43,v42,v41,v40,v39,_⟩:=hV;obtain ⟨g41,u41,e41, -⟩:=v41;obtain ⟨g44,u44,e44, -⟩:=v44;obtain ⟨A45,c45,B45,k45,e45,o45,p45⟩:=v45;obtain ⟨b11,e11,hl11,hc11⟩:cd _ _ _ (f 7) W:=v11;replace hh:=JJ.He hJ hh hl11 hc11 o45 p45 abr abr abr;refine ay (aQ (aa e11 (aa e45 (aa e44 (aa v43 (aa v42 (aa e41 (aa v40 (aa v39 aw))))))))) ?_;dsimp only [bA];clear e41 e44 e45 e11 hJ;have eK:((dd:Nat):Int)+1=((dd+1:Nat):Int):=abq;have eK2:(((dd:Nat):Int)+1)*((ah A:Nat):Int)=(((dd+1)*ah A:Nat):Int):=by rw [eK,←acK]
   refine bT ?_;intro ws hh;refine OM ?_;refine zw fun D_=> ?_;refine aj ?_;rw [eK2];refine au (DS B45 m k45 ((dd+1)*ah A) _ (abW hA0 (aeC _ abq))) ak.out rfl abr ?_;rintro e_ w51 ⟨b2,b1,rfl,h2⟩;refine ⟨_,rfl, ?_⟩;replace hh:=hh.join h2;simp only [abE,abC] at hh;clear h2;refine aj ?_;have hmk:=hh.gN (i:=4) rfl;obtain ⟨g,rfl⟩:=hh.bP (i:=4) rfl abq;have hc2:=hh.ej (i:=1) (o:=0) rfl rfl;have hc1:=hh.ej (i:=0) (o:=0) rfl rfl;have hseq:=K6 b2 b1 ⟨g,0,none⟩ m k45 ((dd+1)*ah A) (ah B) _ hc2 hc1 hmK (acu hA0 (aeC _ abq)) hmk abq abq;refine MT (Kj (α:=Fin (ah B)) (enc:=fun j:Fin (ah B)=>.slice (some ((⟨g,0,none⟩:Addr).add (j.val*((dd+1)*ah A)*3))) ((dd+1)*ah A) ((dd+1)*ah A)) 12 abr abr rfl (enters_of Tryz.func88 abt rfl) hseq Qg (fun W l o o' h _ _ _=>QX (ni hc2) (ni hc1) W l o o' h)
    (fun bs W=>∃X:List Dyadic,X.length=m∧(∀x∈X,Sz (k+bs.length*G) x)∧(bs=(List.finRange (ah B)).take bs.length→X=LJ A dd B M xs bs.length)∧Hp w [.row (some ⟨g,0,none⟩) m k45 33 3 (ar NR.cells (X.map nR)),.row A45 n c45 3 1 (bh (a0 (pre++dd::suf))),.blk b1 3 [.int .i64 (((dd+1)*ah A:Nat):Int)] (0,0),.blk b2 23 [.slice (some ⟨g,0,none⟩) m k45] (0,0),.blk b11 25 [.slice A45 n c45,.slice (some ⟨g,0,none⟩) m k45] (0,0),.blk b8 3 [.int .i64 (ah A:Nat)] (0,0),.blk b7 3 [.int .i64 ((dd:Nat)+1)] (0,0),.blk b6 25 [.slice none 0 0,.slice none 0 0] (0,0),.blk b5 187 [.func (.func fid) fst.toArray cap.toArray] (0,0),.blk b3 25 [.slice (some ad) n c,.slice NA m e] (0,0)] W)
    ?own ?zero ?asg ?body ?done)
   case own=>
    intro s W W' row ⟨X,h1,h2,h3,h4⟩ hg hr;exact ⟨X,h1,h2,h3,h4.Wd (by simp [HE.Wj]) hg fun r e=>⟨abW hh.size (hr r e).1,(hr r e).2⟩⟩
   case zero=>
    refine ⟨xs,hlm,fun x h=>(hx x h).mono abq,fun _=>(NH _ _ _).symm, ?_⟩;replace hh:=hh.perm (acf (l₁:=[_,_,_]));simp only [abE,abC] at hh;replace hh:=hh.perm (acf (l₁:=[_,_,_,_]));simp only [abE,abC] at hh;exact hh
   case asg=>
    intro l x W;refine aj ?_;exact ⟨rfl,rfl⟩
   case body=>
    rintro l bs q W ⟨X,hXl,hXz,hXe,hh0⟩ hbl;have hqB:=q.isLt;have hkb:bs.length*G≤ah B*G:=acx _ abq;have hh:=hh0.Q5;simp only [abE,abC] at hh;generalize hO:Oe _ _ _=O at hh;have hzl:∀f,∀x∈ck A dd X f q.val,Sz (k+bs.length*G) x:=fun f x h=>by
     obtain ⟨i,_,rfl⟩:=abL.1 h;exact qN hXz _
    have hPl:∀f i,f<ah A→i≤dd→bW A dd f i q.val<X.length:=fun f i h1 h2=>by rw [hXl,←hlm,hm];exact oD h1 h2 hqB
    have eAd:∀f i,((⟨g,0,none⟩:Addr).add (q.val*((dd+1)*ah A)*3)).add ((f+i*ah A)*3)=⟨g,bW A dd f i q.val*3,none⟩:=fun f i=>by
     rw [eN,eN];congr 1;unfold bW;grind
    rw [←OO (A:=A) (d:=dd) (φ:=dz dd M) (X:=X) q.val] at hh;refine aj ?_;refine aH [13,14,15,16,17,54,55,56,57,58,59,60,61,62,63,64,65,66,67,68,69,70,71,72,73,74,75,76,77,78,79,80,81,82,83,84,85,86,87,88,89,90,91] 54
     (fun v w'=>∃f:Nat,f≤ah A∧v=.int .i64 f∧Hp w (.row (some ⟨g,0,none⟩) m k45 33 3 (ar NR.cells ((Co A dd (dz dd M) X q.val f 0).map nR))::.row A45 n c45 3 1 (bh (a0 (pre++dd::suf)))::.blk b1 3 [.int .i64 (((dd+1)*ah A:Nat):Int)] (0,0)::.blk b2 23 [.slice (some ⟨g,0,none⟩) m k45] (0,0)::.blk b11 25 [.slice A45 n c45,.slice (some ⟨g,0,none⟩) m k45] (0,0)::.blk b8 3 [.int .i64 (ah A:Nat)] (0,0)::.blk b7 3 [.int .i64 ((dd:Nat)+1)] (0,0)::.blk b6 25 [.slice none 0 0,.slice none 0 0] (0,0)::.blk b5 187 [.func (.func fid) fst.toArray cap.toArray] (0,0)::.blk b3 25 [.slice (some ad) n c,.slice NA m e] (0,0)::O) w')
     (fun v _=>ah A-(intOf v).toNat) ?_ ?_
    ·exact ⟨0,abB _,rfl,hh⟩
    ·clear hh;rintro ρ' v w' ⟨f,hf,rfl,hh⟩;by_cases hlt:f<ah A
     ·refine aj ?_;replace hh:=hh.cJ 33 3;refine bk [14,15,58,59,60,61,62,63,64,65,66,67,68,69,70,71,72] 14 58
       (fun v14 v w'=>∃(i c14:Nat) (A14:Option Addr),i≤dd+1∧v14=.slice A14 i c14∧v=.int .i64 i∧Hp w (.row A14 i c14 33 3 (ar NR.cells (((ck A dd X f q.val).take i).map nR))::.row (some ⟨g,0,none⟩) m k45 33 3 (ar NR.cells ((Co A dd (dz dd M) X q.val f 0).map nR))::.row A45 n c45 3 1 (bh (a0 (pre++dd::suf)))::.blk b1 3 [.int .i64 (((dd+1)*ah A:Nat):Int)] (0,0)::.blk b2 23 [.slice (some ⟨g,0,none⟩) m k45] (0,0)::.blk b11 25 [.slice A45 n c45,.slice (some ⟨g,0,none⟩) m k45] (0,0)::.blk b8 3 [.int .i64 (ah A:Nat)] (0,0)::.blk b7 3 [.int .i64 ((dd:Nat)+1)] (0,0)::.blk b6 25 [.slice none 0 0,.slice none 0 0] (0,0)::.blk b5 187 [.func (.func fid) fst.toArray cap.toArray] (0,0)::.blk b3 25 [.slice (some ad) n c,.slice NA m e] (0,0)::O) w')
       (fun _ v _=>dd+1-(intOf v).toNat) ?_ ?_
      ·exact ⟨0,0,none,abB _,rfl,rfl,hh⟩
      ·clear hh;rintro ρ2 v14 v w2 ⟨i,c14,A14,hi,rfl,rfl,hh⟩;by_cases hin:i<dd+1
       ·have hfi:f+i*ah A<(dd+1)*ah A:=by
         have:=acx (ah A) (show i≤dd by omega);rw [acD];omega
        have hat:=Nm (φ:=dz dd M) hlt (show i≤dd by omega) (hPl f i hlt abq);refine sr ?_;refine nP (aJ (bO (cT (dA (eF (bO (lk (sr (mI (aI (aJ (bR (mL (mL (mI (mI ?_))))))))))))))));refine p8 hh 6 ?_;refine mulC ?_;refine nC ?_;refine du (k:=f+i*ah A) bq.out az.size rfl rfl (by rw [acZ,acK]) hfi abr ?_;rw [eAd];refine bF (vs:=[_,_,_]) az.out rfl (hh.df (f:=NR.cells) (i:=1) rfl NR.len abr (show ((Co A dd (dz dd M) X q.val f 0).map nR)[bW A dd f i q.val]?=some (nR (gY (ck A dd X f q.val) i)) by rw [abI,hat];rfl)) rfl abr ?_;refine rR ?_;intro b70 w70 hh;refine qm ?_;intro A71 c71 w71 hh;simp only [abK,ab9] at hh;replace hh:=hh.sub (acn _ _);refine aj ?_;have htk:ar NR.cells (((ck A dd X f q.val).take i).map nR)++[.bool (nR (gY (ck A dd X f q.val) i)).neg,.string (nR (gY (ck A dd X f q.val) i)).aO,.int .i64 (nR (gY (ck A dd X f q.val) i)).e]=ar NR.cells (((ck A dd X f q.val).take (i+1)).map nR):=by
         rw [al (uZ (l:=ck A dd X f q.val) (k:=i) (by unfold ck;simp;omega)),acM,bo]
         rfl
        rw [htk] at hh;refine ⟨⟨i+1,_,_,abq,rfl,rfl,hh⟩,by show dd+1-(i+1)<dd+1-i;omega, ?_⟩;exact dI
       ·obtain rfl:i=dd+1:=abq;rw [abG (by unfold ck;simp)] at hh;have hdl:=fun w1 h1 hT1 hS1=>hdo A14 c14 (ck A dd X f q.val) (k+bs.length*G) w1 h1 hT1 hS1 (hzl f) abq;refine aj ?_;refine g7 (hdl _ hh.below (hT.hp hh) (hh.ao (i:=0) rfl)) ak.out rfl rfl abr ?_;rintro e_ w75 ⟨A75,c75,rfl,hown_,hb_⟩;refine ⟨_,rfl, ?_⟩;replace hh:=hh.aD (x:=.row _ _ _ _ _ _) hb_ hown_;obtain ⟨g75,rfl⟩:=hh.bP (i:=0) rfl abq;refine aj ?_;replace hh:=hh.sub (aby _ (abA _ (aby _ (aby _ (aby _ (aby _ (aby _ (aby _ (aby _ (aby _ (aby _ (aby _ (aco _)))))))))))));generalize hφ:dz dd M (ck A dd X f q.val)=ys at hh;have hyl:ys.length=dd+1:=by rw [←hφ,kP]
        refine aH [16,17,77,78,79,80,81,82,83,84,85,86,87,88,89,90] 77
         (fun v w'=>∃i:Nat,i≤dd+1∧v=.int .i64 i∧Hp w (.row (some ⟨g75,0,none⟩) (dd+1) c75 33 3 (ar NR.cells (ys.map nR))::.row (some ⟨g,0,none⟩) m k45 33 3 (ar NR.cells ((Co A dd (dz dd M) X q.val f i).map nR))::.row A45 n c45 3 1 (bh (a0 (pre++dd::suf)))::.blk b1 3 [.int .i64 (((dd+1)*ah A:Nat):Int)] (0,0)::.blk b2 23 [.slice (some ⟨g,0,none⟩) m k45] (0,0)::.blk b11 25 [.slice A45 n c45,.slice (some ⟨g,0,none⟩) m k45] (0,0)::.blk b8 3 [.int .i64 (ah A:Nat)] (0,0)::.blk b7 3 [.int .i64 ((dd:Nat)+1)] (0,0)::.blk b6 25 [.slice none 0 0,.slice none 0 0] (0,0)::.blk b5 187 [.func (.func fid) fst.toArray cap.toArray] (0,0)::.blk b3 25 [.slice (some ad) n c,.slice NA m e] (0,0)::O) w')
         (fun v _=>dd+1-(intOf v).toNat) ?_ ?_
        ·exact ⟨0,abB _,rfl,hh⟩
        ·clear hh;rintro ρ3 v w3 ⟨i,hi,rfl,hh⟩;by_cases hin:i<dd+1
         ·have hfi:f+i*ah A<(dd+1)*ah A:=by
           have:=acx (ah A) (show i≤dd by omega);rw [acD];omega
          have hset:=R9 (φ:=dz dd M) hlt (show i≤dd by omega) (hPl f i hlt abq);rw [hφ] at hset;have hPx:=hPl f i hlt (show i≤dd by omega);have hSl:=kE (A:=A) (d:=dd) (φ:=dz dd M) (X:=X) q.val f i;have hrl:=eH NR.len ((Co A dd (dz dd M) X q.val f i).map nR);have hyi:(ys.map nR)[i]?=some (nR (gY ys i)):=by rw [abI,uZ abq];rfl
          generalize gY ys i=y at*;refine aj ?_;refine bF (vs:=[_,_,_]) az.out rfl (hh.df (f:=NR.cells) (i:=0) rfl NR.len abr hyi) rfl abr ?_;refine yU hh ?_;intro b17 w17 hh;refine aI ?_;refine gE hh 0 [_,_,_] ?_;intro ws hh;replace hh:Hp _ (.blk _ _ [_,_,_] _::_) _:=hh;refine aJ (bR (mL (mI (mI ?_))));refine p8 hh 7 ?_;refine mulC ?_;refine nC ?_;refine m9 hh 0 [_,_,_] ?_;refine du (k:=f+i*ah A) bq.out az.size rfl rfl (by rw [acZ,acK]) hfi abr ?_;rw [eAd];generalize Co A dd (dz dd M) X q.val f i=V at*;have hpl:bW A dd f i q.val<(V.map nR).length:=by rw [abH,hSl];exact hPx
          refine bM hh (i:=2) (vs:=[_,_,_]) rfl rfl (eR rfl) rfl az.out rfl (by rw [hrl];omega) rfl ?_;intro ws hh;simp only [abK,ab9] at hh;rw [show bK (ar NR.cells (V.map nR)) (bW A dd f i q.val*3) [.bool (nR y).neg,.string (nR y).aO,.int .i64 (nR y).e]=ar NR.cells ((V.map nR).set (bW A dd f i q.val) (nR y)) from ew NR.len hpl,←adz,hset] at hh;refine aj ?_;replace hh:=hh.sub (abA _ (aby _ (aby _ (aby _ (aby _ (aby _ (aby _ (aby _ (aby _ (aby _ (aby _ (aby _ (aco _)))))))))))));refine ⟨⟨i+1,abq,rfl,hh⟩,by show dd+1-(i+1)<dd+1-i;omega, ?_⟩;exact dI
         ·obtain rfl:i=dd+1:=abq;rw [L9] at hh;refine aj ?_;replace hh:=hh.sub (abA _ (aby _ (aby _ (aby _ (aby _ (aby _ (aby _ (aby _ (aby _ (aby _ (aby _ (aco _))))))))))));refine ⟨⟨f+1,abq,rfl,hh⟩,by show ah A-(f+1)<ah A-f;omega, ?_⟩;exact dI
     ·obtain rfl:f=ah A:=abq;refine aj ?_;subst hO;refine ⟨hh0.keeps (H':=[_,_,_,_,_,_,_,_,_,_]) (by simp [HE.Wj]) hh rfl,⟨by rw [hh.ej (i:=3) (o:=0) rfl rfl,hh0.ej (i:=3) (o:=0) rfl rfl],by rw [hh.ej (i:=2) (o:=0) rfl rfl,hh0.ej (i:=2) (o:=0) rfl rfl]⟩,Nv A dd (dz dd M) X q.val, ?_, ?_, ?_, ?_⟩
      ·unfold Nv;rw [kE,hXl]
      ·intro x h;refine (U1 hXz (fun l h1 h2=>hgr l _ h1 h2) x h).mono ?_;rw [abJ,List.length_singleton,acD];omega
      ·intro h;obtain ⟨h1,h2⟩:=K5 h hbl;rw [hXe h1,h2,abJ,List.length_singleton];exact Mm (hm ▸ rfl)
      ·exact hh.sub (by repeat (first|exact acA _|apply aby))
   case done=>
    rintro D bs W hD2 rfl ⟨X,hXl,hXz,hXe,hh0⟩ hDo;have hA2:=hXe (by rw [abG (abD _)]);rw [aeV] at hA2;rw [hA2,LV hm] at hh0;have hD3:=abW hh.size hD2;replace hh:=hh0.W7 (by simp [HE.Wj]) hD3 hDo rfl;refine zw fun D_=> ?_;refine bT ?_;intro ws hh;refine TY fun D_=> ?_;refine aj ?_;refine Kx (M:=[D]) (vs:=[.agg #[.slice A45 n c45,.slice (some ⟨g,0,none⟩) m k45]]) hh (.inr rfl) rfl ?_;intro w2 hh;refine ⟨(bI rfl (bJ (vs:=[_,_]) az.out (hh.aE (i:=7) (n:=2) rfl rfl) rfl) cR), ?_⟩;replace hh:=hh.sub (aby _ (aby _ (abA _ (abA _ (abA _ (abA _ (abA _ (abA _ (abA _ (abA _ abV))))))))));exact ⟨_,_,_,_,rfl,hh⟩
variable {c1 n1 n2 s1 s2:Nat}{t1 t2:TypeId}{xs1 xs2:List Value}
def ZX (n m:Nat) (ds:List Int) (cs:List NR):VP:=fun v W=>∃A a B b,v=.agg #[.slice A n a,.slice B m b]∧n≤a∧Sl W A n 1 (bh ds)∧Sl W B m 3 (ar NR.cells cs)
theorem N2 {d:Nat}{s:Dyadic} (hd:d≤127) (hs:Sz q s) (hs1:Sz q (1-s)) (ls:List Dyadic) (k:Nat) (hx:∀x∈ls,Sz k x):∀x∈dz d (yG d s) ls,Sz (k+(260+2*(q*d))) x:=fun x h=>by
 rw [←U4,←pr] at h;exact (vq hx hs hs1 hd (abD _) x h).mono abq
theorem LO {d:Nat}{s:Dyadic} (hd:d≤127) (hs:Sz q s) (hs1:Sz q (1-s)) (ls:List Dyadic) (k:Nat) (hl:ls.length=d+1) (hx:∀x∈ls,Sz k x):∀x∈dz d (yJ d s) ls,Sz (k+(260+2*(q*d))) x:=fun x h=>by
 rw [←EP hl,adp,←pr] at h;exact (vq (fun y hy=>hx y (adp.1 hy)) hs1 hs hd (abD _) x h).mono abq
theorem JJ.Sw {H:List HE}{c2:Nat}{A1 A2:Option Addr} (hJ:JJ w0 H w W) (hs:Hp w0 H w)
  (o1:W.ownsRow w.heap.size t1 s1 (.slice A1 n1 c1) n1 xs1) (o2:W.ownsRow w.heap.size t2 s2 (.slice A2 n2 c2) n2 xs2) (h12:t1≠t2):Hp w0 (.row A1 n1 c1 t1 s1 xs1::.row A2 n2 c2 t2 s2 xs2::H) W:=by
 have hL:Hp w [.row A1 n1 c1 t1 s1 xs1,.row A2 n2 c2 t2 s2 xs2] W:=by
  exact Xi
 exact hs.join hL
theorem Lu (DA NA:Option Addr) (n c m e:Nat) (pre suf:List Nat) (dd:Nat) (sn:NR) (s:Dyadic) (xs:List Dyadic) (k q:Nat) (w:World) (hT:dq w)
  (hD:Sl w DA n 1 (bh (a0 (pre++dd::suf)))) (hS:Sl w NA m 3 (ar NR.cells (xs.map nR))) (hcap:n≤c) (hn:n≤1000) (hlow:∀x∈pre++dd::suf,x≤127) (hm:xs.length=ah (suf.reverse++dd::pre.reverse)) (hm4:m≤4096)
  (hx:∀x∈xs,Sz k x) (hk:k+ah pre*(260+2*(q*dd))≤300000) (hq:q≤2000) (vs:Lf q sn s) (hs1:Sz q (1-s)):
  Calls Tryz.prog 196 #[.agg #[.slice DA n c,.slice NA m e],.int .i64 (pre.length:Nat),.func (.func 197) #[.agg #[.bool sn.neg,.string sn.aO,.int .i64 sn.e,.bool (nR (1-s)).neg,.string (nR (1-s)).aO,.int .i64 (nR (1-s)).e]] #[]] w fun r w'=>∃A a B b,r=.returned (.agg #[.slice A n a,.slice B m b])∧Hp w [.row B m b 33 3 (ar NR.cells ((eu (suf.reverse++dd::pre.reverse) suf.length (yG dd s) xs).map nR)),.row A n a 3 1 (bh (a0 (pre++dd::suf)))] w':=by
 have hs:=vs.sz;have hdl:dd≤127:=hlow dd (acI _ abF);exact (rT DA NA n c m e pre suf dd (yG dd s) xs 197 [.agg #[.bool sn.neg,.string sn.aO,.int .i64 sn.e,.bool (nR (1-s)).neg,.string (nR (1-s)).aO,.int .i64 (nR (1-s)).e]] [] k (260+2*(q*dd)) w hT hD hS hcap hn hlow hm hm4 hx hk (fun L c2 ls p w1 _ hT1 hS1 hz hp=>um sn (nR (1-s)) s (1-s) L (dd+1) c2 dd ls p q w1 hT1 hS1 rfl hdl hz vs (Lf.of hs1 hq) hp hq) (fun ls p _ hz=>N2 hdl hs hs1 ls p hz))
theorem Ks (DA NA:Option Addr) (n c m e:Nat) (pre suf:List Nat) (dd:Nat) (sn:NR) (s:Dyadic) (xs:List Dyadic) (k q:Nat) (w:World) (hT:dq w)
  (hD:Sl w DA n 1 (bh (a0 (pre++dd::suf)))) (hS:Sl w NA m 3 (ar NR.cells (xs.map nR))) (hcap:n≤c) (hn:n≤1000) (hlow:∀x∈pre++dd::suf,x≤127) (hm:xs.length=ah (suf.reverse++dd::pre.reverse)) (hm4:m≤4096)
  (hx:∀x∈xs,Sz k x) (hk:k+ah pre*(260+2*(q*dd))≤300000) (hq:q≤2000) (vs:Lf q sn s) (hs1:Sz q (1-s)):
  Calls Tryz.prog 196 #[.agg #[.slice DA n c,.slice NA m e],.int .i64 (pre.length:Nat),.func (.func 198) #[.agg #[.bool sn.neg,.string sn.aO,.int .i64 sn.e,.bool (nR (1-s)).neg,.string (nR (1-s)).aO,.int .i64 (nR (1-s)).e]] #[]] w fun r w'=>∃A a B b,r=.returned (.agg #[.slice A n a,.slice B m b])∧Hp w [.row B m b 33 3 (ar NR.cells ((eu (suf.reverse++dd::pre.reverse) suf.length (yJ dd s) xs).map nR)),.row A n a 3 1 (bh (a0 (pre++dd::suf)))] w':=by
 have hs:=vs.sz;have hdl:dd≤127:=hlow dd (acI _ abF);refine (rT DA NA n c m e pre suf dd (yJ dd s) xs 198 [.agg #[.bool sn.neg,.string sn.aO,.int .i64 sn.e,.bool (nR (1-s)).neg,.string (nR (1-s)).aO,.int .i64 (nR (1-s)).e]] [] k (260+2*(q*dd)) w hT hD hS hcap hn hlow hm hm4 hx hk (fun L c2 ls p w1 _ hT1 hS1 hz hp=> ?_) (fun ls p hl hz=>LO hdl hs hs1 ls p hl hz))
 ·have hll:ls.length=dd+1:=by have:=hS1.aX NR.len abr;simpa using this
  have:=DH sn (nR (1-s)) s (1-s) L (dd+1) c2 dd ls p q w1 hT1 hS1 rfl hdl hz vs (Lf.of hs1 hq) hp hq;rw [EP hll] at this;exact this
instance:az Tryz.prog 187 1 false 8 [.nilFunc]:={}
def kC (up:Bool) (s:Dyadic) (ns:List Nat) (a:Nat) (xs:List Dyadic):List Dyadic:=eu ns.reverse (ns.length-1-a) (if up then yJ (ns.getD a 0) s else yG (ns.getD a 0) s) xs
def rm (fx:FX) (ax:Int):Int:=if fx.e≠0 then fx.e else if ax<0∨(fx.n:Int)≤ax then 1 else 0
def Zn (e:Int):Ending:=.returned (.tuple #[.agg #[.slice none 0 0,.slice none 0 0],.agg #[.slice none 0 0,.slice none 0 0],.int .i64 e])
theorem vT {ns:List Nat}{a:Nat} (h:a<ns.length):∃pre dd suf,ns=pre++dd::suf∧a=pre.length∧ns.getD a 0=dd∧ns.length-1-a=suf.length:=by
 refine ⟨ns.take a,ns[a],ns.drop (a+1), ?_,by rw [abP];omega,by rw [adm,ac1 h];rfl,by rw [acJ];omega⟩;rw [←ady h,acH]
theorem GR (fx:FX) (ax:Int) (sn:NR) (s:Dyadic) (k q:Nat) (w:World) (hT:dq w) (hf:fx.at_ w) (hl:fx.jz k) (hcap:fx.n≤fx.a) (vs:Lf q sn s) (hs1:Sz q (1-s)) (hq:q≤2000) (hk:fx.e=0→∀d∈fx.ns,k+fx.m*(260+2*(q*d))≤300000):
  Calls Tryz.prog 161 #[.agg #[.slice fx.A fx.n fx.a,.slice fx.B fx.m fx.b],.int .i64 ax,.agg #[.bool sn.neg,.string sn.aO,.int .i64 sn.e]] w fun r w'=>Below w.heap.size w w'∧((rm fx ax≠0∧r=Zn (rm fx ax))∨
   (rm fx ax=0∧∃A1 a1 B1 b1 A2 a2 B2 b2,r=.returned (.tuple #[.agg #[.slice A1 fx.n a1,.slice B1 fx.m b1],.agg #[.slice A2 fx.n a2,.slice B2 fx.m b2],.int .i64 0])∧Hp w [.row B2 fx.m b2 33 3 (ar NR.cells ((kC true s fx.ns ax.toNat (fx.cs.map NR.d)).map nR)),.row A2 fx.n a2 3 1 (bh fx.ds),.row A1 fx.n a1 3 1 (bh fx.ds),.row B1 fx.m b1 33 3 (ar NR.cells ((kC false s fx.ns ax.toNat (fx.cs.map NR.d)).map nR))] w')):=by
 have hh:=Hp.start w;have hs:=vs.sz;have hln:fx.ds.length=fx.n:=by have:=hf.dg.1;simpa [bh] using this
 have hlm:=hf.nm.aX NR.len abr;have hn20:=hl.Xe;have hck:=fun w1 hT1 hb=>pg fx k w1 hT1 (hf.ext hb) hl;by_cases h0:fx.e=0
 ·by_cases h1:ax<0
  ·have hE:rm fx ax=1:=by unfold rm;rw [abw abq,abx (.inl h1)]
   exact WX
  ·by_cases h2:(fx.n:Int)≤ax
   ·have hE:rm fx ax=1:=by unfold rm;rw [abw abq,abx (.inr h2)]
    exact WX
   ·have hE:rm fx ax=0:=by unfold rm;rw [abw abq,abw abq]
    rw [hE];obtain ⟨hdeg,hnum,_,hlow,hcnt,hmax⟩:=FX.fv h0;have hnl:fx.ns.length=fx.n:=by unfold FX.ns;rw [abH];exact hln
    obtain ⟨pre,dd,suf,hns,hap,hgd,hsl⟩:=vT (ns:=fx.ns) (a:=ax.toNat) abq;have hD:=hf.dg;have hN:=hf.nm;have hLo:kC false s fx.ns ax.toNat (fx.cs.map NR.d)=eu (suf.reverse++dd::pre.reverse) suf.length (yG dd s) (fx.cs.map NR.d):=by
     exact Te
    have hUp:kC true s fx.ns ax.toNat (fx.cs.map NR.d)=eu (suf.reverse++dd::pre.reverse) suf.length (yJ dd s) (fx.cs.map NR.d):=by
     exact Te
    rw [hLo,hUp];have hax:ax=((pre.length:Nat):Int):=abq;have hxl:(fx.cs.map NR.d).length=ah (suf.reverse++dd::pre.reverse):=by
     rw [abH,hcnt,show suf.reverse++dd::pre.reverse=fx.ns.reverse by rw [hns,aeF,adQ,acb];rfl,cf]
    have hpm:ah pre≤fx.m:=by
     have h3:=eT fx.ns pre.length;rw [hns,List.take_left' rfl] at h3;rw [←hns,←hcnt] at h3;omega
    have hkk:k+ah pre*(260+2*(q*dd))≤300000:=by
     have h3:=hk h0 dd (by rw [hns];exact acI _ abF);have h4:=acx (260+2*(q*dd)) hpm;omega
    have hxz:∀x∈fx.cs.map NR.d,Sz k x:=fun x h=>by
     obtain ⟨c,hc,rfl⟩:=abL.1 h;exact (hl.num c hc).2
    have hm4:fx.m≤4096:=abq;rw [hdeg,hns] at hD;rw [hnum] at hN;rw [hns] at hlow;have hds:fx.ds=a0 (pre++dd::suf):=by rw [hdeg,hns]
    rw [hds];have hlo:=fun w1 hT1 hb=>Lu fx.A fx.B fx.n fx.a fx.m fx.b pre suf dd sn s _ k q w1 hT1 (hD.ext hb) (hN.ext hb) hcap hn20 hlow hxl hm4 hxz hkk hq vs hs1;have hup:=fun w1 hT1 hb=>Ks fx.A fx.B fx.n fx.a fx.m fx.b pre suf dd sn s _ k q w1 hT1 (hD.ext hb) (hN.ext hb) hcap hn20 hlow hxl hm4 hxz hkk hq vs hs1;have hof:∀w1,dq w1→Calls Tryz.prog 38 #[.int .i64 1] w1 fun r w'=>r=.returned (.agg #[.bool (nR (1:Dyadic)).neg,.string (nR (1:Dyadic)).aO,.int .i64 (nR (1:Dyadic)).e])∧Below w1.heap.size w1 w':=fun w1 hT1=>k5 1 w1 hT1 abr abr;have hsb:=fun w1 hT1=>qF (nR (1:Dyadic)) sn w1 hT1 (Sz.one.ok abq) vs.ok (q+1) (by rw [a6];exact Sz.one.mono abq) (by rw [vs.d];exact hs.mono abq) abq;simp only [a6,vs.d] at hsb;refine PQ ?_;refine xQ ?_;intro b3 w3 hh b5 w5 hh b6 w6 hh b7 w7 hh;refine hU ?_;intro w12 hh;refine aj ?_;subst hax;refine aC 6 [[(5,none)],[],[(5,none)],[(30,some 1),(31,some 2)],[(29,some 0),(32,some 3)],[]] [(5,10),(4,33),(3,32),(2,31),(1,30),(0,29)] hh mixed abt ?_;refine da 2 [_,_,_] ?_;refine dC (fun _ hj=>hof _ (hT.hp hj.hp)) ?_;refine da 2 [_,_,_] ?_;refine dC (fun _ hj=>hsb _ (hT.hp hj.hp)) ?_
    refine dB [_,_,_,_,_,_] ?_;refine aW (i:=5) (cd _ 223 _) cd.ext (fun ρ1 w1 hj hR=>iP az.out hj.bl (fun v w2 h hb=>⟨hb,h⟩)) ?_;refine av ?_;intro f W hJ hV;have hb_6:=hJ.bl;obtain ⟨v10,v33,v32,v31,v30,v29,_⟩:=hV;obtain ⟨b10,e10,hl10,hc10⟩:cd _ _ _ (f 5) W:=v10;replace hh:=hJ.newVar hh hl10 hc10;refine ay (aQ (aa e10 (aa v33 (aa v32 (aa v31 (aa v30 (aa v29 aw))))))) ?_;dsimp only [bA];clear e10 hJ;refine bT ?_;intro ws hh;refine aC 9 [[(3,none)],[(1,none)],[(10,none)],[(36,some 2)],[(34,some 0),(35,some 1),(37,some 3)],[(3,none)],[(1,none)],[(10,none)],[(41,some 7)]] [(8,42),(7,41),(6,40),(5,39),(4,38),(3,37),(2,36),(1,35),(0,34)] hh mixed abt ?_;refine da 4 [_,_] ?_;refine dp ?_;refine da 0 [_,_,_,_,_,_] ?_;refine aW (i:=3) (Is (.func (.func 197) #[.agg #[.bool sn.neg,.string sn.aO,.int .i64 sn.e,.bool (nR (1-s)).neg,.string (nR (1-s)).aO,.int .i64 (nR (1-s)).e]] #[])) (Is.ext) ?_ ?_
    ·intro ρ1 w1 hj hR;exact cY rfl (qJ (aq (show ρ1 36=Value.agg _ from hR.1) aY) aY) ⟨Below.refl _ _,rfl⟩
    refine aW (i:=4) (yl hh.sz 3 33 fx.n 1 fx.m 3 (bh (a0 (pre++dd::suf))) (ar NR.cells ((eu (suf.reverse++dd::pre.reverse) suf.length (yG dd s) (fx.cs.map NR.d)).map nR))) (yl.ext) ?_ ?_
    ·intro ρ1 w1 hj hR;exact bp rfl (aR ak.out (aq (show ρ1 34=Value.agg _ from hR.1) (aq (show ρ1 35=Value.int _ _ from hR.2.1) (aq (show ρ1 37=Value.func _ _ _ from hR.2.2.1) aY)))) (hlo w1 (hT.hp hj.hp) hj.hp.below) (fun _ _ ⟨A,a,B,b,q1,q2⟩=>⟨_,q1,q2.below,A,a,B,b,rfl,iq (q2.at_ (i:=1) rfl) hj.bl.size,iq (q2.at_ (i:=0) rfl) hj.bl.size⟩)
    refine da 4 [_,_] ?_;refine dp ?_;refine da 0 [_,_,_,_,_,_] ?_;refine aW (i:=8) (Is (.func (.func 198) #[.agg #[.bool sn.neg,.string sn.aO,.int .i64 sn.e,.bool (nR (1-s)).neg,.string (nR (1-s)).aO,.int .i64 (nR (1-s)).e]] #[])) (Is.ext) ?_ ?_
    ·intro ρ1 w1 hj hR;exact cY rfl (qJ (aq (show ρ1 41=Value.agg _ from hR.1) aY) aY) ⟨Below.refl _ _,rfl⟩
    refine av ?_;intro f W hJ hV;have hb_7:=hJ.bl;obtain ⟨v42,v41,v40,v39,v38,v37,v36,v35,v34,_⟩:=hV;obtain ⟨A38,c38,B38,k38,e38,o38,p38⟩:=v38;replace hh:=JJ.Sw hJ hh o38 p38 abr;clear o38 p38;refine ay (aQ (aa v42 (aa v41 (aa v40 (aa v39 (aa e38 (aa v37 (aa v36 (aa v35 (aa v34 aw)))))))))) ?_;dsimp only [bA];clear e38 hJ;refine au (hup _ (hT.hp hh) hh.below) ak.out rfl abr ?_;rintro e_ w43 ⟨A43,a43,B43,b43,rfl,h2⟩;refine ⟨_,rfl, ?_⟩;replace hh:=hh.join h2;simp only [abE,abC] at hh;clear h2;refine bX ?_;intro ws hh ws hh;refine JV (bI rfl (bJ (vs:=[_,_]) az.out (hh.aE (i:=6) (n:=2) rfl rfl) rfl) (bI rfl (bJ (vs:=[_,_]) az.out (hh.aE (i:=5) (n:=2) rfl rfl) rfl) (dQ (eL rfl) cR))) ?_;replace hh:=hh.sub (aby _ (aby _ (aby _ (aby _ (abA _ (abA _ (abA _ (abA _ (abA _ abV)))))))));exact ⟨hh.below,.inr ⟨rfl,_,_,_,_,_,_,_,_,rfl,hh⟩⟩
 ·have hE:rm fx ax=fx.e:=by unfold rm;rw [abx h0]
  refine PQ ?_;refine xQ ?_;intro b3 w3 hh b5 w5 hh b6 w6 hh b7 w7 hh;refine hU ?_;intro w12 hh;refine bX ?_;intro ws hh ws hh;refine TD ?_;exact ⟨hh.below,.inl ⟨by rw [hE];exact h0,by rw [hE];rfl⟩⟩
def R4 (n:Nat) (h:Int):Bool:=decide (h<0∨(n:Int)≤h.tdiv 2)
theorem y9 (fx:FX) (ax:Int) (k q:Nat) (w:World) (hT:dq w) (hf:fx.at_ w) (hl:fx.jz k) (hcap:fx.n≤fx.a) (hs:Sz q (dm (-1))) (hs1:Sz q (1-dm (-1))) (hq:q≤2000) (hk:fx.e=0→∀d∈fx.ns,k+fx.m*(260+2*(q*d))≤300000) (h0:rm fx ax=0):
  Calls Tryz.prog 111 #[.agg #[.slice fx.A fx.n fx.a,.slice fx.B fx.m fx.b],.int .i64 ax] w fun r w'=>∃A1 a1 B1 b1 A2 a2 B2 b2,r=.returned (.tuple #[.agg #[.slice A1 fx.n a1,.slice B1 fx.m b1],.agg #[.slice A2 fx.n a2,.slice B2 fx.m b2],.int .i64 0])∧Hp w [.row B2 fx.m b2 33 3 (ar NR.cells ((kC true (dm (-1)) fx.ns ax.toNat (fx.cs.map NR.d)).map nR)),.row A2 fx.n a2 3 1 (bh fx.ds),.row A1 fx.n a1 3 1 (bh fx.ds),.row B1 fx.m b1 33 3 (ar NR.cells ((kC false (dm (-1)) fx.ns ax.toNat (fx.cs.map NR.d)).map nR))] w':=by
 have hh:=Hp.start w;have hof:∀w1,dq w1→Calls Tryz.prog 38 #[.int .i64 1] w1 fun r w'=>r=.returned (.agg #[.bool (nR (1:Dyadic)).neg,.string (nR (1:Dyadic)).aO,.int .i64 (nR (1:Dyadic)).e])∧Below w1.heap.size w1 w':=fun w1 hT1=>k5 1 w1 hT1 abr abr;have hsh:=fun w1 hT1=>mZ (nR (1:Dyadic)) (-1) w1 hT1 (by have:=Sz.one.aO;omega) (by decide+kernel) (by decide+kernel) abr abr;rw [a6,adq] at hsh
 have hc:∀w1,dq w1→Below w.heap.size w w1→Calls Tryz.prog 161 #[.agg #[.slice fx.A fx.n fx.a,.slice fx.B fx.m fx.b],.int .i64 ax,.agg #[.bool (nR (dm (-1))).neg,.string (nR (dm (-1))).aO,.int .i64 (nR (dm (-1))).e]] w1 fun r w'=>∃A1 a1 B1 b1 A2 a2 B2 b2,r=.returned (.tuple #[.agg #[.slice A1 fx.n a1,.slice B1 fx.m b1],.agg #[.slice A2 fx.n a2,.slice B2 fx.m b2],.int .i64 0])∧Hp w1 [.row B2 fx.m b2 33 3 (ar NR.cells ((kC true (dm (-1)) fx.ns ax.toNat (fx.cs.map NR.d)).map nR)),.row A2 fx.n a2 3 1 (bh fx.ds),.row A1 fx.n a1 3 1 (bh fx.ds),.row B1 fx.m b1 33 3 (ar NR.cells ((kC false (dm (-1)) fx.ns ax.toNat (fx.cs.map NR.d)).map nR))] w':=fun w1 hT1 hb=>(GR fx ax (nR (dm (-1))) (dm (-1)) k q w1 hT1 (hf.ext hb) hl hcap (Lf.of hs hq) hs1 hq hk).mono fun r w' ⟨h1,h2⟩=>by
  rcases h2 with ⟨h2,_⟩|⟨_,h2⟩
  ·exact absurd h0 h2
  ·exact h2
 refine ae (N:=15) (l:=[.agg #[.slice fx.A fx.n fx.a,.slice fx.B fx.m fx.b],.int .i64 ax]) Tryz.func111 rfl rfl (by simp) ?_;refine lK ?_;intro b2 w2 hh b4 w4 hh b5 w5 hh;refine kY [] [0,0,0,4,15,31,31,31,255,511,1023] 4 [[(2,none)],[(1,none)],[],[(9,some 2)]] [(3,10),(2,9),(1,8),(0,7)] [([],6,[(3,10),(2,9),(1,8),(0,7)])] hh mixed abt abt abr ?_;refine da 2 [_,_] ?_;refine dp ?_;refine dC (fun _ hj=>hof _ (hT.hp hj.hp)) ?_;refine dC (fun _ hj=>hsh _ (hT.hp hj.hp)) ?_;refine av ?_;intro p_ hp_;simp only [abO,acS,or_false] at hp_
 rcases hp_ with rfl
 ·intro f W hJ hV;have hb_1:=hJ.bl;obtain ⟨v10,v9,v8,v7,_⟩:=hV;simp only [gD];have e7:f 0=_:=v7;rw [e7];have e8:f 1=_:=v8;rw [e8];have e9:f 2=_:=v9;rw [e9];have e10:f 3=_:=v10;rw [e10];replace hh:=hJ.hp;clear e7 e8 e9 e10 hJ;refine au (hc _ (hT.hp hh) hh.below) ak.out rfl abr ?_;rintro e_ w11 ⟨A1,a1,B1,b1,A2,a2,B2,b2',rfl,h2⟩;refine ⟨_,rfl, ?_⟩;replace hh:=hh.join h2;simp only [abE,abC] at hh;refine dO ?_;refine cK (i:=5) (by repeat (first|exact bV|refine bD ?_|refine bU ?_)) rfl abt abt abt (fun _=>dT (show _=Value.tuple (List.toArray _) from rfl) rfl) abr ?_;refine cK (i:=6) (by repeat (first|exact bV|refine bD ?_|refine bU ?_)) rfl abt abt abt (fun _=>dT (show _=Value.tuple (List.toArray _) from rfl) rfl) abr ?_;refine cK (i:=7) (by repeat (first|exact bV|refine bD ?_|refine bU ?_)) rfl abt abt abt (fun _=>dT (show _=Value.tuple (List.toArray _) from rfl) rfl) abr ?_;refine Oj ?_;refine bX ?_;intro ws hh ws hh
  refine JV (bI rfl (bJ (vs:=[_,_]) az.out (hh.aE (i:=5) (n:=2) rfl rfl) rfl) (bI rfl (bJ (vs:=[_,_]) az.out (hh.aE (i:=4) (n:=2) rfl rfl) rfl) (dQ (eL rfl) cR))) ?_;replace hh:=hh.sub (aby _ (aby _ (aby _ (aby _ (abA _ (abA _ (abA _ abV)))))));exact ⟨_,_,_,_,_,_,_,_,rfl,hh⟩
variable {G:Nat}{M:Nat→Nat→Dyadic}{xs:List Dyadic}
theorem DF {A:List Nat}{d:Nat}{B:List Nat} (hl:xs.length=ah (A++d::B)) (hx:∀x∈xs,Sz k x)
  (hg:∀ls:List Dyadic,ls.length=d+1→(∀x∈ls,Sz k x)→∀x∈dz d M ls,Sz (k+G) x):∀x∈eu (A++d::B) A.length M xs,Sz (k+G) x:=fun x hx2=>by
 obtain ⟨p,hp⟩:=acG.1 hx2;have hpl:=(abM.1 hp).1;rw [j7] at hpl;obtain ⟨f,j,q,hf,hj,hq,rfl⟩:=nU (A:=A) (d:=d) (B:=B) (p:=p) abq;rw [yq M xs hf hj hq] at hp;have hp:=aca hp;have hll:(ck A d xs f q).length=d+1:=by simp [ck]
 refine hg (ck A d xs f q) hll (fun y hy=> ?_) x (abz (i:=j) ?_)
 ·obtain ⟨i,_,rfl⟩:=abL.1 hy;exact qN hx _
 ·rw [rO hj,←hp];congr 1;refine a9 fun i hi=> ?_;have hi:=ab3.1 hi;congr 1;show ((ck A d xs f q)[i]?).getD 0=_;unfold ck;rw [abI,acy hi]
  rfl
theorem LW (up:Bool) (s:Dyadic) (ns:List Nat) (a:Nat) (xs:List Dyadic):(kC up s ns a xs).length=ah ns:=by
 unfold kC;rw [j7,cf]
theorem HY {up:Bool}{s:Dyadic}{ns:List Nat}{a D:Nat} (ha:a<ns.length) (hd:∀d∈ns,d≤D) (hD:D≤127) (hl:xs.length=ah ns) (hs:Sz q s) (hs1:Sz q (1-s)) (hx:∀x∈xs,Sz k x):∀x∈kC up s ns a xs,Sz (k+(260+2*(q*D))) x:=fun x h=>by
 obtain ⟨pre,dd,suf,hns,hap,hgd,hsl⟩:=vT ha;have hdD:dd≤D:=hd dd (by rw [hns];exact acI _ abF);have hqd:q*dd≤q*D:=acd _ hdD;have hr:ns.reverse=suf.reverse++dd::pre.reverse:=by rw [hns,aeF,adQ,acb];rfl
 have hxl:xs.length=ah (suf.reverse++dd::pre.reverse):=by rw [←hr,cf,hl]
 unfold kC at h;have er:suf.reverse.length=suf.length:=abY;rw [hsl,hgd,hr,←er] at h
 cases up with
 |true=>exact (DF hxl hx (fun ls h1 h2=>LO abq hs hs1 ls k h1 h2) x h).mono abq
 |false=>exact (DF hxl hx (fun ls _ h2=>N2 abq hs hs1 ls k h2) x h).mono abq
def Xd (ns:List Nat) (xs:List Dyadic) (h:Int):List Dyadic:=kC (decide (h % 2=1)) (dm (-1)) ns (h/2).toNat xs
def ZJ (ns:List Nat) (xs:List Dyadic) (hs:List Int):List Dyadic:=hs.foldl (Xd ns) xs
def XX (A B:List Nat) (d t:Nat):List Nat:=(List.range (ah B)).flatMap fun q=>(List.range (ah A)).map fun f=>bW A d f t q
def ZM (A B:List Nat) (d t:Nat) (xs:List Dyadic):List Dyadic:=(XX A B d t).map fun p=>(xs[p]?).getD 0
variable {ds:List Nat}
def aa2 (A:List Nat) (d:Nat) (B:List Nat) (X:List Dyadic) (ta tb:List Dyadic) (r:Nat):Dyadic:=sR (A++B) fun row=>co (A++d::B) X (row.take A.length++r::row.drop A.length)*iH (A++B) row (ta++tb)
theorem MS {d r:Nat} (hr:r≤d) (side:Nat) (hs:side≤1):gG d r (nD side)=if r=d*side then 1 else 0:=by
 unfold gG
 rcases (by omega:side=0∨side=1) with rfl|rfl
 ·rw [ve,adT,show (1:Dyadic)-0=1 by grind,j5];by_cases h:r=0
  ·subst h;rw [abx rfl,adK];grind
  ·obtain ⟨s,rfl⟩:∃s,r=s+1:=⟨r-1,abq⟩;rw [abw h,aeh];grind
 ·rw [tg,abZ,show (1:Dyadic)-1=0 by grind,j5];by_cases h:r=d
  ·subst h;rw [abx rfl,acs,adK];grind
  ·obtain ⟨s,hs⟩:∃s,d-r=s+1:=⟨d-r-1,abq⟩;rw [abw h,hs,aeh];grind
def jw:List Nat→List Nat→List Nat
 |[],_=>[]
 |_::_,[]=>[]
 |d::ds,k::ks=>d*k::jw ds ks
theorem uF:∀(ds rs ks:List Nat),ku ds rs→ks.length=ds.length→(∀k∈ks,k≤1)→iH ds rs (ks.map nD)=if rs=jw ds ks then 1 else 0
 |[],[],[],_,_,_=>by rw [jw,abx rfl];rfl
 |[],[],_::_,_,h,_=>by cases h
 |[],_::_,_,h,_,_=>by cases h
 |_::_,[],_,h,_,_=>by cases h
 |_::_,_::_,[],_,h,_=>by cases h
 |d::ds,r::rs,k::ks,h1,h2,h3=>by
  have ih:=uF ds rs ks h1.2 (by simpa using h2) fun x hx=>h3 x (abN _ hx);rw [ab8,iH,ih,MS h1.1 k (h3 k abF),jw];by_cases e1:r=d*k
  ·by_cases e2:rs=jw ds ks
   ·rw [abx e1,abx e2,abx (by rw [e1,e2])];grind
   ·rw [abx e1,abw e2,abw fun e=>e2 (List.cons.inj e).2];grind
  ·rw [abw e1,abw fun e=>e1 (List.cons.inj e).1];grind
theorem xq:∀(ds ks:List Nat),ks.length=ds.length→(∀k∈ks,k≤1)→ku ds (jw ds ks)
 |[],[],_,_=>trivial
 |[],_::_,h,_=>by cases h
 |_::_,[],h,_=>by cases h
 |d::ds,k::ks,h,h3=>by
  refine ⟨?_,xq ds ks (by simpa using h) fun x hx=>h3 x (abN _ hx)⟩;have:=h3 k abF
  rcases (by omega:k=0∨k=1) with rfl|rfl<;>omega
theorem G4 {ks:List Nat} (h:ks.length=ds.length) (hk:∀k∈ks,k≤1):eS ds xs (ks.map nD)=(xs[dh ds (jw ds ks)]?).getD 0:=by
 have hc:=xq ds ks h hk;have hlt:=ke hc;unfold eS;have e:∀p,p∈List.range (ah ds)→(xs[p]?).getD 0*iH ds (bB ds p) (ks.map nD)=if p=dh ds (jw ds ks) then (xs[dh ds (jw ds ks)]?).getD 0 else 0:=fun p hp=>by
  have hp:=ab3.1 hp;rw [uF ds _ ks (iA ds p) h hk];by_cases e1:p=dh ds (jw ds ks)
  ·subst e1;rw [iw hc,abx rfl,abx rfl];grind
  ·rw [abw e1,abw fun c=>e1 (by rw [←c,xE hp])];grind
 rw [a9 e,nh,abx hlt]
section
variable {P:Program}{N:Nat}{ops:Array Oper}{Q:Kq}{ρ:Rf}{w:World}{rest:List Oper}{d ty:Nat}{pos:String}{af:Array Edge}
theorem Za (a:Int):IntKind.i64.wrap (BitVec.ofInt IntKind.i64.bits a &&& BitVec.ofInt IntKind.i64.bits 1).toNat=a % 2:=by
 have h1:(BitVec.ofInt IntKind.i64.bits a &&& BitVec.ofInt IntKind.i64.bits 1).toNat=(a % 2).toNat:=by
  show (BitVec.ofInt 64 a &&& BitVec.ofInt 64 1).toNat=_;rw [BitVec.toNat_and,show (BitVec.ofInt 64 1).toNat=2^1-1 by decide,Nat.and_two_pow_sub_one_eq_mod,BitVec.toNat_ofInt];omega
 rw [h1,k8 abq abq];omega
theorem Me {t u:Nat}{x y:Operand}{a:Int} (hx:ev ρ x=.int .i64 a) (hy:ev ρ y=.int .i64 1) (hN:d<N) (kk:WL .plain P N ops Q rest (cg ρ d (.int .i64 (a % 2))) w):WL .plain P N ops Q (⟨some d,.binOp .and t x y u,ty,pos,af,none⟩::rest) ρ w:=
 aM rfl rfl hN (by rw [Uh hx hy,Za]) kk
end
def Qc (fx:FX) (bits:Int):Int:=if fx.e≠0 then fx.e else if bits<0∨((2^fx.n:Nat):Int)≤bits then 1 else 0
def kx (k i:Nat):Nat:=k/2^i % 2
def lz (n k:Nat):List Nat:=(List.range n).map (kx k)
def Xz (ns:List Nat) (k:Nat):Nat:=dh ns.reverse (jw ns (lz ns.length k)).reverse
def uT (fx:FX) (bits:Int):NR:=if Qc fx bits=0 then (fx.cs[Xz fx.ns bits.toNat]?).getD (nR 0) else nR 0
theorem mA:∀(ds ks:List Nat),jw ds ks=List.zipWith (· * ·) ds ks
 |[],_=>by rw [jw];rfl
 |_::_,[]=>by rw [jw];rfl
 |d::ds,k::ks=>by rw [jw,mA ds ks];rfl
theorem KB {ks:List Nat} (h:ks.length=ds.length):(jw ds ks).reverse=jw ds.reverse ks.reverse:=by
 rw [mA,mA,List.reverse_zipWith abq]
theorem pX (n k:Nat):(lz n k).length=n:=by unfold lz;simp
theorem zf:∀b∈lz n k,b≤1:=fun b hb=>by
 obtain ⟨i,_,rfl⟩:=abL.1 hb;unfold kx;omega
theorem IU (h:n≤12):IntKind.i64.wrap ((1:Int)*2^(min ((n:Int)).toNat IntKind.i64.bits))=((2^n:Nat):Int):=by
 have:∀m:Nat,m≤12→IntKind.i64.wrap ((1:Int)*2^(min ((m:Int)).toNat IntKind.i64.bits))=((2^m:Nat):Int):=by decide
 exact this n h
theorem BI (fx:FX) (bits:Int) (k:Nat) (w:World) (hT:dq w) (hf:fx.at_ w) (hl:fx.jz k) (hb1: -9223372036854775808≤bits) (hb2:bits≤9223372036854775807):
  Calls Tryz.prog 49 #[.agg #[.slice fx.A fx.n fx.a,.slice fx.B fx.m fx.b],.int .i64 bits] w fun r w'=>r=.returned (.tuple #[.agg #[.bool (uT fx bits).neg,.string (uT fx bits).aO,.int .i64 (uT fx bits).e],.int .i64 (Qc fx bits)])∧Below w.heap.size w w':=by
 have hh:=Hp.start w;have hln:=hf.ln.1;have hlm:=hf.ln.2;have hck:=fun w1 hT1 hb=>pg fx k w1 hT1 (hf.ext hb) hl;have h1000:=hl.Xe;by_cases h0:fx.e≠0
 ·have eE:Qc fx bits=fx.e:=abx h0;unfold uT;rw [eE,abw h0];generalize fx.e=E at*;exact S7
 ·replace h0:fx.e=0:=ac7.1 h0;obtain ⟨hdeg,hnum,h12,hlow,hcnt,hmax⟩:=FX.fv h0;have hnl:fx.ns.length=fx.n:=by unfold FX.ns;rw [abH];exact hln
  have hE:Qc fx bits=if bits<0∨((2^fx.n:Nat):Int)≤bits then 1 else 0:=by unfold Qc;rw [abw (fun c=>c h0)]
  rw [h0] at hck;have hsh:=IU (n:=fx.n) abq;by_cases hneg:bits<0
  ·have hE1:Qc fx bits=1:=by rw [hE];exact abx (.inl hneg)
   unfold uT;rw [hE1,abw abr];exact S7
  ·by_cases hbig:((2^fx.n:Nat):Int)≤bits
   ·have hE1:Qc fx bits=1:=by rw [hE];exact abx (.inr hbig)
    unfold uT;rw [hE1,abw abr];refine ae (N:=52) (l:=[.agg #[.slice fx.A fx.n fx.a,.slice fx.B fx.m fx.b],.int .i64 bits]) Tryz.func49 rfl rfl (by simp) ?_;refine bX ?_;intro b2 w2 hh b4 w4 hh;refine hU ?_;intro w11 hh;refine aj ?_;refine LY rfl rfl abq abr ?_;rw [hsh];generalize ((2^fx.n:Nat):Int)=Z at*;exact Qt
   ·have hE1:Qc fx bits=0:=by rw [hE];exact abw fun c=>c.elim hneg hbig
    unfold uT;rw [hE1,abx rfl];clear hE hE1;obtain ⟨q,rfl⟩:∃q:Nat,bits=q:=⟨bits.toNat,abq⟩;rw [ada];have hsD:Sl w fx.A fx.n 1 (bh (a0 fx.ns)):=by rw [←hdeg];exact hf.dg
    unfold Xz;have hel:(jw fx.ns (lz fx.ns.length q)).length=fx.n:=by rw [mA,aeU,pX];omega
    have heat:∀j d,fx.ns[j]?=some d→(jw fx.ns (lz fx.ns.length q))[j]?=some (d*kx q j):=fun j d hd=>by
     have hj:=(abM.1 hd).1;rw [mA,adO,hd];unfold lz;rw [abI,acy hj]
     rfl
    have hok:=xq fx.ns (lz fx.ns.length q) (pX _ _) zf;generalize jw fx.ns (lz fx.ns.length q)=es at*;refine ae (N:=52) (l:=[.agg #[.slice fx.A fx.n fx.a,.slice fx.B fx.m fx.b],.int .i64 (q:Int)]) Tryz.func49 rfl rfl (by simp) ?_;refine bX ?_;intro b2 w2 hh b4 w4 hh;refine hU ?_;intro w11 hh;refine aj ?_;refine LY rfl rfl abq abr ?_;rw [hsh];generalize hZZ:((2^fx.n:Nat):Int)=Z at*;refine aj ?_;refine bk [7,8,9,30,31,32,33,34,35,36,37,38,39,40,41,42,43,44,45,46] 7 30
     (fun a v w'=>∃(j z:Nat),j≤fx.n∧v=.int .i64 j∧a=.int .i64 z∧z=dh (fx.ns.take j).reverse (es.take j).reverse∧z<ah (fx.ns.take j)∧Hp w [.blk b4 33 [.bool false,.string ⟨#[]⟩,.int .i64 0] (0,0),.blk b2 25 [.slice fx.A fx.n fx.a,.slice fx.B fx.m fx.b] (0,0)] w')
     (fun _ v _=>fx.n-(intOf v).toNat) ?_ ?_
    ·exact ⟨0,0,abB _,rfl,rfl,rfl,Nat.one_pos,hh⟩
    ·clear hh;rintro ρ3 a_ v w3 ⟨j,z,hj,rfl,rfl,hz,hz2,hh⟩;by_cases hjn:j<fx.n
     ·obtain ⟨d,hd⟩:=ai (l:=fx.ns) (k:=j) abq;have hr:=heat j d hd;have hd7:=hlow d (abz hd);have hgD:(bh (a0 fx.ns))[j]?=some (.int .i64 (d:Int)):=cM (eA hd);have hst:=Dh hd hr;have hcs:=Dm hd;rw [cf,cf] at hcs;rw [←hz] at hst;have hct:=eT fx.ns (j+1);have hb1:kx q j≤1:=by unfold kx;omega
      have hdb:d*kx q j≤d:=by
       have:=acd d hb1;omega
      have hnew:d*kx q j+(d+1)*z<(d+1)*ah (fx.ns.take j):=by
       have:(d+1)*(z+1)≤(d+1)*ah (fx.ns.take j):=acd _ hz2;rw [ac5] at this;omega
      have hpr:(z:Int)*((d:Int)+1)=(((d+1)*z:Nat):Int):=by rw [abU,acK,acZ];rfl
      have hpr2:(d:Int)*((kx q j:Nat):Int)=((d*kx q j:Nat):Int):=by rw [acK]
      have hbit:((q:Int).fdiv (2^(min ((j:Int)).toNat IntKind.i64.bits))) % 2=((kx q j:Nat):Int):=by
       have hm2:min ((j:Int)).toNat IntKind.i64.bits=j:=by
        show min j 64=j;omega
       rw [hm2,afh _ (by exact Int.le_of_lt (Int.pow_pos abr))];unfold kx;rw [Int.natCast_emod,Int.natCast_ediv,aeD]
       rfl
      obtain ⟨ad,hMe,hsr2⟩:=(hsD.ext hh.below).at_ abq;have uQ:Value.slice fx.A fx.n fx.a=.slice (some ad) fx.n fx.a:=by rw [hMe]
      refine aj ?_;refine M9 ?_;refine bG az.out rfl (hsr2.vc hgD) abr ?_;refine aj ?_;refine T4 rfl rfl abq abr ?_;refine Me rfl rfl abr ?_;rw [hbit];refine aj ?_;rw [hpr,hpr2];refine ⟨⟨j+1,d*kx q j+(d+1)*z,abq,rfl, ?_,hst.symm,abq,hh⟩,by show fx.n-(j+1)<fx.n-j;omega, ?_⟩
      ·show Value.int IntKind.i64 ((((d+1)*z:Nat):Int)+((d*kx q j:Nat):Int))=_;rw [show (((d+1)*z:Nat):Int)+((d*kx q j:Nat):Int)=((d*kx q j+(d+1)*z:Nat):Int) by omega]
      ·exact dI
     ·obtain rfl:j=fx.n:=abq;rw [abG abq,abG abq] at hz;rw [abG abq] at hz2;obtain ⟨x,hx⟩:=ai (l:=fx.cs) (k:=z) abq;obtain ⟨adC,hAC,sC⟩:=hf.nm.at_ abq;have hevC:Value.slice fx.B fx.m fx.b=.slice (some adC) fx.m fx.b:=by rw [hAC]
      rw [←hz,hx,acW];refine aj ?_;refine du (k:=z) bq.out az.size hevC rfl abq abq abr ?_;refine bF (vs:=[_,_,_]) az.out rfl ((sC.ext hh.below).recAt NR.len hx) rfl abr ?_;exact Qt
def kH (x:Dyadic):Dyadic:=if x<0 then -x else x
def uq (g:FX) (eps:Dyadic):Option Nat:=(List.range (2^g.n)).find? fun k:Nat=>decide (kH (uT g (k:Int)).d<eps)
def mq (g:FX) (eps:Dyadic):Int:=if g.e≠0 then g.e else if (uq g eps).isSome=true then 0 else 4
def nX (g:FX) (eps:Dyadic):Nat:=if g.e≠0 then 0 else (uq g eps).getD 0
theorem Sz.kH {k:Nat}{x:Dyadic} (h:Sz k x):Sz k (kH x):=by
 unfold Go.Proofs.YtmchncaiffbpaaaGreatDoor.kH;split
 ·exact h.neg
 ·exact h
theorem UW {fx:FX}{bits:Int} (hl:fx.jz k):(uT fx bits).ok∧Sz k (uT fx bits).d:=by
 have hz:(nR 0).ok∧Sz k (nR 0).d:=⟨(Sz.zero 1).ok abq,by rw [a6];exact Sz.zero k⟩;unfold uT;split
 ·cases h:fx.cs[Xz fx.ns bits.toNat]? with
  |none=>exact hz
  |some c=>exact hl.num c (abz h)
 ·exact hz
theorem F2 (g:FX) (eps:NR) (k:Nat) (w:World) (hT:dq w) (hg:g.at_ w) (hl:g.jz k) (he:eps.ok) (hk:k≤3000000):
  Calls Tryz.prog 16 #[.agg #[.slice g.A g.n g.a,.slice g.B g.m g.b],.agg #[.bool eps.neg,.string eps.aO,.int .i64 eps.e]] w fun r w'=>r=.returned (.tuple #[.int .i64 (nX g eps.d:Nat),.int .i64 (mq g eps.d)])∧Below w.heap.size w w':=by
 have hh:=Hp.start w;have hck:=fun w1 hT1 hb=>pg g k w1 hT1 (hg.ext hb) hl;unfold nX mq;by_cases h0:g.e≠0
 ·rw [abx h0,abx h0];generalize g.e=E at*;refine Ub ?_;refine bX ?_;intro b2 w2 hh b3 w3 hh;refine hU ?_;intro w11 hh;refine aj ?_;exact ⟨rfl,hh.below⟩
 ·rw [abw h0,abw h0];replace h0:g.e=0:=ac7.1 h0;rw [h0] at hck;have h12:g.n≤12:=by
   have h1:=(FX.fv h0).2.2.1;have h2:=hg.ln.1;unfold FX.ns at h1;rw [abH] at h1;omega
  have hsh:=IU h12;have h63:2^g.n≤4096:=ach (n:=2) abq h12;have hO:uq g eps.d=(List.range (2^g.n)).find? fun k:Nat=>decide (kH (uT g (k:Int)).d<eps.d):=rfl;refine Ub ?_;refine bX ?_;intro b2 w2 hh b3 w3 hh;refine hU ?_;intro w11 hh;refine aj ?_;refine LY rfl rfl abq abr ?_;rw [hsh];generalize 2^g.n=M at*;refine aj ?_;refine aH [4,5,7,8,9,19,20,21,22,23,24,25,26,27,28,29,30,31,32,33,34] 19
   (fun v w'=>∃i:Nat,i≤M∧v=.int .i64 i∧(∀j,j<i→¬kH (uT g (j:Int)).d<eps.d)∧Hp w [.blk b3 33 [.bool eps.neg,.string eps.aO,.int .i64 eps.e] (0,0),.blk b2 25 [.slice g.A g.n g.a,.slice g.B g.m g.b] (0,0)] w')
   (fun v _=>M-(intOf v).toNat) ?_ ?_
  ·exact ⟨0,abB _,rfl,fun j hj=>absurd hj (Nat.not_lt_zero _),hh⟩
  ·clear hh;rintro ρ' v w' ⟨i,hi,rfl,hall,hh⟩;by_cases hlt:i<M
   ·obtain ⟨c1,c2⟩:=UW (bits:=(i:Int)) hl;have hco:=fun w1 hT1 hb=>BI g (i:Int) k w1 hT1 (hg.ext hb) hl abq abq;have hab:=fun w1 hT1=>xf (uT g (i:Int)) w1 hT1 (by have:=c1.1;omega) (by have:=c1.2.1;omega) (by have:=c1.2.2;omega);have hcm:=fun w1 hT1=>gh (nR (kH (uT g (i:Int)).d)) eps w1 hT1 (c2.kH.ok abq) he;rw [a6] at hcm;have hlt2:=vd (kH (uT g (i:Int)).d) eps.d;have hcb: -1≤fB (kH (uT g (i:Int)).d) eps.d∧fB (kH (uT g (i:Int)).d) eps.d≤1:=vp _ _;by_cases hd:kH (uT g (i:Int)).d<eps.d
    ·have e1:uq g eps.d=some i:=by
      rw [hO,List.find?_range_eq_some];exact ⟨abQ hd,ab3.2 hlt,fun j hj=>by simpa using hall j hj⟩
     rw [e1];replace hlt2:=hlt2.2 hd;generalize fB (kH (uT g (i:Int)).d) eps.d=C at*;refine aj ?_;refine aZ hh (hco _ (hT.hp hh) hh.below) rfl ?_;intro w25 hh;refine bX ?_;intro b8 w8 hh ws hh;refine aC 3 [[(8,none)],[(28,some 0)],[(3,none)]] [(2,30),(1,29),(0,28)] hh mixed abt ?_;refine da 0 [_,_,_] ?_;refine dC (fun _ hj=>hab _ (hT.hp hj.hp)) ?_;refine da 1 [_,_,_] ?_;refine av ?_;intro f W hJ hV;have hb_8:=hJ.bl;obtain ⟨v30,v29,v28,_⟩:=hV;replace hh:=hJ.hp;refine ay (aQ (aa v30 (aa v29 (aa v28 aw)))) ?_;dsimp only [bA];clear hJ;refine aZ hh (hcm _ (hT.hp hh)) rfl ?_;intro w31 hh;refine aj ?_;exact ⟨rfl,hh.below⟩
    ·replace hlt2:¬fB (kH (uT g (i:Int)).d) eps.d<0:=fun h=>hd (hlt2.1 h);have hcc:∀j,j<i+1→¬kH (uT g (j:Int)).d<eps.d:=fun j hj=>by
      rcases acj j i with h|h
      ·exact hall j h
      ·obtain rfl:j=i:=abq;exact hd
     generalize fB (kH (uT g (i:Int)).d) eps.d=C at*;refine aj ?_;refine aZ hh (hco _ (hT.hp hh) hh.below) rfl ?_;intro w25 hh;refine bX ?_;intro b8 w8 hh ws hh;refine aC 3 [[(8,none)],[(28,some 0)],[(3,none)]] [(2,30),(1,29),(0,28)] hh mixed abt ?_;refine da 0 [_,_,_] ?_;refine dC (fun _ hj=>hab _ (hT.hp hj.hp)) ?_;refine da 1 [_,_,_] ?_;refine av ?_;intro f W hJ hV;have hb_8:=hJ.bl;obtain ⟨v30,v29,v28,_⟩:=hV;replace hh:=hJ.hp;refine ay (aQ (aa v30 (aa v29 (aa v28 aw)))) ?_;dsimp only [bA];clear hJ;refine aZ hh (hcm _ (hT.hp hh)) rfl ?_;intro w31 hh;refine aj ?_;replace hh:=hh.sub (abA _ (aby _ (aby _ abV)));refine ⟨⟨i+1,abq,rfl,hcc,hh⟩,by show M-(i+1)<M-i;omega, ?_⟩;exact dI
   ·obtain rfl:i=M:=abq;have e1:uq g eps.d=none:=by
     rw [hO,List.find?_range_eq_none];exact fun j hj=>by simpa using hall j hj
    rw [e1];refine aj ?_;exact ⟨rfl,hh.below⟩
def p7 (b:List SR):Int:=if b.any (fun s=> !decide (s.lo.d<s.hi.d)) then 5 else if b.length=0 then 1 else 0
theorem SL (x y:Dyadic):(0≤fB x y)↔¬x<y:=by
 rcases NM x y with h|h|h
 ·rw [nk h];exact ⟨fun h2=>by omega,fun h2=>absurd h h2⟩
 ·rw [h,tj];exact ⟨fun _=>by grind,fun _=>by omega⟩
 ·rw [qu h];exact ⟨fun _=>by grind,fun _=>by omega⟩
theorem AH (L:Option Addr) (n c:Nat) (b:List SR) (w:World) (hT:dq w) (hS:Sl w L n 6 (ar SR.cells b)) (hb:∀s∈b,s.ok) (hn:n≤1000000):
  Calls Tryz.prog 188 #[.slice L n c] w fun r w'=>r=.returned (.int .i64 (p7 b))∧Below w.heap.size w w':=by
 have hh:=Hp.start w;have hln:=hS.aX SR.len abr;refine ae (N:=21) (l:=[.slice L n c]) Tryz.func188 rfl rfl (by simp) ?_;refine aj ?_;refine aH [2,4,7,8,9,10,11,12,13,14,15,16,17] 7
  (fun v w'=>∃i:Nat,i≤n∧v=.int .i64 i∧(b.take i).any (fun s=> !decide (s.lo.d<s.hi.d))=false∧Hp w [] w')
  (fun v _=>n-(intOf v).toNat) ?_ ?_
 ·exact ⟨0,abB _,rfl,rfl,hh⟩
 ·clear hh;rintro ρ' v w' ⟨i,hi,rfl,hall,hh⟩;by_cases hlt:i<n
  ·obtain ⟨s,hs⟩:=ai (l:=b) (k:=i) abq;have ms:=abz hs;obtain ⟨ad,rfl,hr⟩:=hS.at_ abq;have hc:=fun w1 hT1=>gh s.lo s.hi w1 hT1 (hb s ms).1 (hb s ms).2;have e:=SL s.lo.d s.hi.d;generalize fB s.lo.d s.hi.d=cc at*;by_cases g:0≤cc
   ·refine aj ?_;refine sG ?_;refine bX ?_;intro b4 w4 hh ws hh;refine aZ hh (hc _ (hT.hp hh)) rfl ?_;intro w15 hh;refine aj ?_;have:b.any (fun s=> !decide (s.lo.d<s.hi.d))=true:=adg.2 ⟨s,ms,by rw [abR (e.1 g)];rfl⟩;exact ⟨by rw [p7,abx this],hh.below⟩
   ·refine aj ?_;refine sG ?_;refine bX ?_;intro b4 w4 hh ws hh;refine aZ hh (hc _ (hT.hp hh)) rfl ?_;intro w15 hh;refine aj ?_;replace hh:=hh.sub (abA _ abV);refine ⟨⟨i+1,abq,rfl, ?_,hh⟩,by show n-(i+1)<n-i;omega, ?_⟩
    ·rw [al hs,aeg,hall,ace,aef,aex,Bool.or_false,abQ (by have:¬¬s.lo.d<s.hi.d:=fun h=>g (e.2 h);exact ac7.1 this)]
     rfl
    ·exact dI
  ·rw [abG abq] at hall;by_cases h0:n=0
   ·refine aj ?_;exact ⟨by rw [p7,hall,abw (by simp),abx abq],hh.below⟩
   ·refine aj ?_;exact ⟨by rw [p7,hall,abw (by simp),abw abq],hh.below⟩
theorem lP (L:Option Addr) (n c:Nat) (b:List SR) (w:World) (hT:dq w) (hS:Sl w L n 6 (ar SR.cells b)) (hb:∀s∈b,s.ok) (hn:n≤1000000):
  Calls Tryz.prog 107 #[.slice L n c] w fun r w'=>∃A c',r=.returned (.slice A n c')∧w'.ownsRow w.heap.size 35 6 (.slice A n c') n (ar SR.cells (b.map SR.f))∧Below w.heap.size w w':=by
 have hh:=Hp.start w;have hln:=hS.aX SR.len abr;refine ae (N:=19) (l:=[.slice L n c]) Tryz.func107 rfl rfl (by simp) ?_;refine aj ?_;replace hh:=hh.cJ 35 6;refine bk [3,5,8,9,10,11,12,13,14,15,16,17] 3 8
  (fun v3 v w'=>∃(i c3:Nat) (A:Option Addr),i≤n∧v=.int .i64 i∧v3=.slice A i c3∧Hp w [.row A i c3 35 6 (ar SR.cells ((b.take i).map SR.f))] w')
  (fun _ v _=>n-(intOf v).toNat) ?_ ?_
 ·exact ⟨0,0,none,abB _,rfl,rfl,hh⟩
 ·clear hh;rintro ρ' v3 v w' ⟨i,c3,A,hi,rfl,rfl,hh⟩;by_cases hlt:i<n
  ·obtain ⟨s,hs⟩:=ai (l:=b) (k:=i) abq;have ms:=abz hs;obtain ⟨ad,rfl,hr⟩:=hS.at_ abq;refine aj ?_;refine sG ?_;refine bX ?_;intro b5 w5 hh ws hh;refine aZ hh (B7 s _ (hT.hp hh) (hb s ms)) rfl ?_;intro w14 hh;refine Fl ?_;intro b15 w15 hh;refine OW ?_;intro A16 c16 w16 hh;simp only [abK,ab9] at hh;replace hh:=hh.sub (acn _ _);refine aj ?_;replace hh:=hh.sub (abA _ (aby _ abV));refine ⟨⟨i+1,c16,A16,abq,rfl,rfl, ?_⟩,by show n-(i+1)<n-i;omega, ?_⟩
   ·rw [al hs,acM,bo];exact hh
   ·exact dI
  ·obtain rfl:i=n:=abq;rw [abG abq] at hh;exact yT
def hasB (b:List SR) (p:List NR):Bool:=decide (b.length=p.length) && (b.zip p).all fun x=>x.1.has x.2.d
theorem GY (L:Option Addr) (n c:Nat) (b:List SR) (M:Option Addr) (m c2:Nat) (p:List NR) (k:Nat) (w:World) (hT:dq w) (hS:Sl w L n 6 (ar SR.cells b)) (hS2:Sl w M m 3 (ar NR.cells p)) (hb:∀s∈b,s.fin k) (hp:∀a∈p,a.ok) (hn:n≤1000000) (hm:m≤1000000) (hk:k≤3000000):
  Calls Tryz.prog 25 #[.slice L n c,.slice M m c2] w fun r w'=>r=.returned (.bool (hasB b p))∧Below w.heap.size w w':=by
 have hh:=Hp.start w;have hln:=hS.aX SR.len abr;have hlm:=hS2.aX NR.len abr;unfold hasB;by_cases hnm:n=m
 ·subst hnm;rw [abQ abq,aev];refine ae (N:=27) (l:=[.slice L n c,.slice M n c2]) Tryz.func25 rfl rfl (by simp) ?_;refine aj ?_;refine aH [4,5,6,14,15,16,17,18,19,20,21,22,23,24,25,26] 14
   (fun v w'=>∃i:Nat,i≤n∧v=.int .i64 i∧((b.take i).zip (p.take i)).all (fun x=>x.1.has x.2.d)=true∧Hp w [] w')
   (fun v _=>n-(intOf v).toNat) ?_ ?_
  ·exact ⟨0,abB _,rfl,rfl,hh⟩
  ·clear hh;rintro ρ' v w' ⟨i,hi,rfl,hall,hh⟩;by_cases hlt:i<n
   ·obtain ⟨s,hs⟩:=ai (l:=b) (k:=i) abq;obtain ⟨a,ha⟩:=ai (l:=p) (k:=i) abq;obtain ⟨ad,rfl,hr⟩:=hS.at_ abq;obtain ⟨ad2,rfl,hr2⟩:=hS2.at_ abq;have hc:=fun w1 hT1=>Dn s a k w1 hT1 (hb s (abz hs)) (hp a (abz ha)) hk;have hz:(b.take (i+1)).zip (p.take (i+1))=(b.take i).zip (p.take i)++[(s,a)]:=by
     rw [al hs,al ha,List.zip_append (by simp;omega)]
     rfl
    have hzm:(s,a)∈b.zip p:=abz (i:=i) (by rw [aeL];exact ⟨hs,ha⟩)
    cases g:s.has a.d with
    |true=>
     rw [g] at hc;refine aj ?_;refine sG ?_;refine bX ?_;intro b6 w6 hh ws hh;refine TQ ?_;refine da 0 [_,_,_,_,_,_] ?_;refine fO ?_;refine dp ?_;refine mU (i) ?_;refine p9 [_,_,_] (fun _ hj=>(hr2.ext hj.hp.below).recAt NR.len ha) ?_;refine av ?_;intro f W hJ hV;have hb_6:=hJ.bl;obtain ⟨v23,v22,v21,v20,v19,_⟩:=hV;replace hh:=hJ.hp;refine ay (aQ (aa v23 (aa v22 (aa v21 (aa v20 (aa v19 aw)))))) ?_;dsimp only [bA];clear hJ;refine aZ hh (hc _ (hT.hp hh)) rfl ?_;intro w24 hh;refine aj ?_;replace hh:=hh.sub (abA _ abV);refine ⟨⟨i+1,abq,rfl,by rw [hz,aeZ,hall];simp [g],hh⟩,by show n-(i+1)<n-i;omega, ?_⟩;exact dI
    |false=>
     rw [g] at hc;refine aj ?_;refine sG ?_;refine bX ?_;intro b6 w6 hh ws hh;refine TQ ?_;refine da 0 [_,_,_,_,_,_] ?_;refine fO ?_;refine dp ?_;refine mU (i) ?_;refine p9 [_,_,_] (fun _ hj=>(hr2.ext hj.hp.below).recAt NR.len ha) ?_;refine av ?_;intro f W hJ hV;have hb_6:=hJ.bl;obtain ⟨v23,v22,v21,v20,v19,_⟩:=hV;replace hh:=hJ.hp;refine ay (aQ (aa v23 (aa v22 (aa v21 (aa v20 (aa v19 aw)))))) ?_;dsimp only [bA];clear hJ;refine aZ hh (hc _ (hT.hp hh)) rfl ?_;intro w24 hh;refine aj ?_;have:(b.zip p).all (fun x=>x.1.has x.2.d)=false:=List.all_eq_false.2 ⟨(s,a),hzm,by simp [g]⟩;exact ⟨by rw [this],hh.below⟩
   ·rw [abG abq,abG abq] at hall;refine aj ?_;exact ⟨by rw [hall],hh.below⟩
 ·rw [abR abq,aeB];refine ae (N:=27) (l:=[.slice L n c,.slice M m c2]) Tryz.func25 rfl rfl (by simp) ?_;refine aj ?_;exact ⟨rfl,hh.below⟩
def YF (a b:List SR):Bool:=decide (a.length=b.length) && (a.zip b).all fun x=>x.2.has x.1.lo.d && x.2.has x.1.hi.d
variable {j:Nat}
theorem SR.Xy {s:SR} (h:s.fin k):Sz (k+1) s.wid:=(SR.Xf h).sub (SR.U3 h)
def aap (b:List SR):Dyadic:=gO (b.map SR.wid)
def pb (b:List SR) (v:Int):Prop:=(b=[]∧v= -1)∨∃(m:Nat) (s:SR),b[m]?=some s∧v=m∧(∀(j:Nat) (t:SR),b[j]?=some t→¬s.wid<t.wid)∧∀(j:Nat) (t:SR),j<m→b[j]?=some t→t.wid<s.wid
theorem vM {b:List SR} (s:SR):pb (List.take 0 b++[s]) 0:=by
 refine .inr ⟨0,s,rfl,rfl,fun j t h=> ?_,fun j t h=>absurd h (Nat.not_lt_zero _)⟩
 match j,h with
 |0,h=>cases h;grind
theorem D9 {l:List SR}{u s:SR} (h1:∀(j:Nat) (t:SR),l[j]?=some t→¬u.wid<t.wid) (g:u.wid<s.wid):pb (l++[s]) (l.length:Nat):=by
 have h3:∀(j:Nat) (t:SR),j<l.length→(l++[s])[j]?=some t→t.wid<s.wid:=fun j t hj h=>by
  rw [adE hj] at h;have:=h1 j t h;grind
 refine .inr ⟨l.length,s,by simp,rfl,fun j t h=> ?_,h3⟩;by_cases hj:j<l.length
 ·have:=h3 j t hj h;grind
 ·rw [acP abq] at h
  match j-l.length,h with
  |0,h=>cases h;grind
theorem Ff {l:List SR}{u s:SR} (hu:l[j]?=some u) (h1:∀(j:Nat) (t:SR),l[j]?=some t→¬u.wid<t.wid) (h2:∀(i:Nat) (t:SR),i<j→l[i]?=some t→t.wid<u.wid) (g:¬u.wid<s.wid):pb (l++[s]) (j:Nat):=by
 have hj:=(abM.1 hu).1;refine .inr ⟨j,u,by rw [adE hj];exact hu,rfl,fun i t h=> ?_,fun i t hi h=>h2 i t hi (by rwa [adE abq] at h)⟩;by_cases hi:i<l.length
 ·exact h1 i t (by rwa [adE hi] at h)
 ·rw [acP abq] at h
  match i-l.length,h with
  |0,h=>cases h;exact g
theorem yO (L:Option Addr) (n c:Nat) (b:List SR) (k:Nat) (w:World) (hT:dq w) (hS:Sl w L n 6 (ar SR.cells b)) (hb:∀s∈b,s.fin k) (hn:n≤1000000) (hk:k≤3000000):
  Calls Tryz.prog 109 #[.slice L n c] w fun r w'=>(∃v,r=.returned (.int .i64 v)∧pb b v)∧Below w.heap.size w w':=by
 have hh:=Hp.start w;have hln:=hS.aX SR.len abr;refine ae (N:=29) (l:=[.slice L n c]) Tryz.func109 rfl rfl (by simp) ?_;refine aj ?_;refine bk [3,4,5,8,9,10,11,12,13,14,15,16,17,18,19,20,21,22,23,24,25,26,27] 3 8
  (fun v3 v w'=>∃(i:Nat) (m:Int),i≤n∧v=.int .i64 i∧v3=.int .i64 m∧pb (b.take i) m∧Hp w [] w')
  (fun _ v _=>n-(intOf v).toNat) ?_ ?_
 ·exact ⟨0, -1,abB _,rfl,rfl,.inl ⟨rfl,rfl⟩,hh⟩
 ·clear hh;rintro ρ' v3 v w' ⟨i,m,hi,rfl,rfl,hW,hh⟩;by_cases hlt:i<n
  ·obtain ⟨s,hs⟩:=ai (l:=b) (k:=i) abq;have ms:=abz hs;obtain ⟨ad,rfl,hr⟩:=hS.at_ abq
   rcases hW with ⟨h0,rfl⟩|⟨j,u,hu,rfl,hW1,hW2⟩
   ·have hi0:i=0:=by
     have:=acm List.length h0;rw [abP,aer] at this;omega
    subst hi0;refine aj ?_;refine sG ?_;refine bX ?_;intro b5 w5 hh ws hh;refine MG ?_;refine dp ?_;refine AG ?_;refine ml ?_;refine dS (dS (dS (dS ?_)));refine pO (i:=7) rfl (fun ρ1 w1 hj hR=>(show ρ1 15=Value.bool _ from hR.2.2.1)) abr ?_;refine dS ?_;refine av ?_;intro f W hJ hV;have hb_5:=hJ.bl;obtain ⟨v21,v20,v19,v18,v17,v16,v15,v14,v13,_⟩:=hV;replace hh:=hJ.hp;refine Pz ?_;dsimp only [bA];clear hJ;refine aj ?_;replace hh:=hh.sub (abA _ abV);refine ⟨⟨0+1,0,abq,rfl,rfl, ?_,hh⟩,by show n-(0+1)<n-0;omega, ?_⟩
    ·rw [al hs];exact vM s
    ·exact dI
   ·have hji:j<i:=by
     have:=abM.1 hu;obtain ⟨h,_⟩:=this;rw [abP] at h;omega
    have hub:b[j]?=some u:=by rw [←hu,List.getElem?_take_of_lt hji]
    have hc1:=fun w1 hT1=>me s k w1 hT1 (hb s ms) hk;have hc2:=fun w1 hT1=>me u k w1 hT1 (hb u (abz hub)) hk;have hc3:=fun w1 hT1=>gh (nR s.wid) (nR u.wid) w1 hT1 ((SR.Xy (hb s ms)).ok abq) ((SR.Xy (hb u (abz hub))).ok abq);simp only [a6] at hc3;have e:=rJ s.wid u.wid;generalize fB s.wid u.wid=cc at*;by_cases g:0<cc
    ·refine aj ?_;refine sG ?_;refine bX ?_;intro b5 w5 hh ws hh;refine MG ?_;refine dp ?_;refine AG ?_;refine ml ?_;refine dG (da 0 [_,_,_,_,_,_] ?_);refine TN ?_;refine dG (fO ?_);refine dG (dp ?_);refine dG (mU (j) ?_);refine dG (p9 [_,_,_,_,_,_] (fun _ hj=>(hr.ext hj.hp.below).recAt SR.len hub) ?_);refine av ?_;intro f W hJ hV;have hb_5:=hJ.bl;obtain ⟨v21,v20,v19,v18,v17,v16,v15,v14,v13,_⟩:=hV;replace hh:=hJ.hp;refine Pz ?_;dsimp only [bA];clear hJ;refine aj ?_;refine aZ hh (hc2 _ (hT.hp hh)) rfl ?_;intro w22 hh;refine aj ?_;refine aZ hh (hc3 _ (hT.hp hh)) rfl ?_;intro w23 hh;refine aj ?_;replace hh:=hh.sub (abA _ abV);refine ⟨⟨i+1,i,abq,rfl,rfl, ?_,hh⟩,by show n-(i+1)<n-i;omega, ?_⟩
     ·have:=D9 (s:=s) hW1 (e.1 g);rwa [abP,acQ abq,←al hs] at this
     ·exact dI
    ·refine aj ?_;refine sG ?_;refine bX ?_;intro b5 w5 hh ws hh;refine MG ?_;refine dp ?_;refine AG ?_;refine ml ?_;refine dG (da 0 [_,_,_,_,_,_] ?_);refine TN ?_;refine dG (fO ?_);refine dG (dp ?_);refine dG (mU (j) ?_);refine dG (p9 [_,_,_,_,_,_] (fun _ hj=>(hr.ext hj.hp.below).recAt SR.len hub) ?_);refine av ?_;intro f W hJ hV;have hb_5:=hJ.bl;obtain ⟨v21,v20,v19,v18,v17,v16,v15,v14,v13,_⟩:=hV;replace hh:=hJ.hp;refine Pz ?_;dsimp only [bA];clear hJ;refine aj ?_;refine aZ hh (hc2 _ (hT.hp hh)) rfl ?_;intro w22 hh;refine aj ?_;refine aZ hh (hc3 _ (hT.hp hh)) rfl ?_;intro w23 hh;refine aj ?_;replace hh:=hh.sub (abA _ abV);refine ⟨⟨i+1,j,abq,rfl,rfl, ?_,hh⟩,by show n-(i+1)<n-i;omega, ?_⟩
     ·rw [al hs];exact Ff hu hW1 hW2 fun h=>g (e.2 h)
     ·exact dI
  ·obtain rfl:i=n:=abq;rw [abG abq] at hW;refine aj ?_;exact ⟨⟨_,rfl,hW⟩,hh.below⟩
theorem tY (L:Option Addr) (n c:Nat) (b:List SR) (g:FuncId) (cap:List Value) (G:Nat→SR→NR) (w:World) (hT:dq w) (hS:Sl w L n 6 (ar SR.cells b)) (hb:∀s∈b,s.ok) (hn:n≤1000000) [ak Tryz.prog g]
  (hg:∀(i:Nat) (s:SR) (w1:World),i<n→b[i]?=some s→Below w.heap.size w w1→dq w1→Calls Tryz.prog g (.int .i64 i::.agg s.f.cells.toArray::cap).toArray w1 fun r w'=>r=.returned (.agg #[.bool (G i s).neg,.string (G i s).aO,.int .i64 (G i s).e])∧Below w1.heap.size w1 w'):
  Calls Tryz.prog 61 #[.slice L n c,.func (.func g) #[] cap.toArray] w fun r w'=>∃A c',r=.returned (.slice A n c')∧w'.ownsRow w.heap.size 33 3 (.slice A n c') n (ar NR.cells (b.mapIdx G))∧Below w.heap.size w w':=by
 have hh:=Hp.start w;have hln:=hS.aX SR.len abr;refine ae (N:=25) (l:=[.slice L n c,.func (.func g) #[] cap.toArray]) Tryz.func61 rfl rfl (by simp) ?_;refine aj ?_;refine au (lP L n c b _ (hT.hp hh) (hS.ext hh.below) hb hn) ak.out rfl abr ?_;rintro e_ w9 ⟨A9,c9,rfl,hown_,hb_⟩;refine ⟨_,rfl, ?_⟩;replace hh:=hh.aD (x:=.row _ _ _ _ _ _) hb_ hown_;refine aj ?_;replace hh:=hh.cJ 33 3;refine bk [5,6,7,11,12,13,14,15,16,17,18,19,20,21,22,23] 5 11
  (fun v3 v w'=>∃(i c3:Nat) (A:Option Addr),i≤n∧v=.int .i64 i∧v3=.slice A i c3∧Hp w [.row A i c3 33 3 (ar NR.cells ((b.take i).mapIdx G)),.row A9 n c9 35 6 (ar SR.cells (b.map SR.f))] w')
  (fun _ v _=>n-(intOf v).toNat) ?_ ?_
 ·exact ⟨0,0,none,abB _,rfl,rfl,hh⟩
 ·clear hh;rintro ρ' v3 v w' ⟨i,c3,A,hi,rfl,rfl,hh⟩;by_cases hlt:i<n
  ·obtain ⟨s,hs⟩:=ai (l:=b) (k:=i) abq;have ms:=abz hs;have hfs:(b.map SR.f)[i]?=some s.f:=by rw [abI,hs];rfl
   obtain ⟨g9,rfl⟩:=hh.bP (i:=1) rfl abq;refine aj ?_;refine bF (vs:=[_,_,_,_,_,_]) az.out rfl (hh.df (f:=SR.cells) (x:=s.f) (l:=b.map SR.f) (i:=1) rfl SR.len abr hfs) rfl abr ?_;refine bX ?_;intro b7 w7 hh ws hh;refine g7 (hg i s _ hlt hs hh.below (hT.hp hh)) ak.out rfl rfl abr ?_;rintro e_ w20 ⟨rfl,hb_⟩;refine ⟨_,rfl, ?_⟩;replace hh:=hh.ext hb_;refine rR ?_;intro b21 w21 hh;refine OW ?_;intro A22 c22 w22 hh;simp only [abK,ab9] at hh;replace hh:=hh.sub (acn _ _);refine aj ?_;replace hh:=hh.sub (abA _ (aby _ (aby _ abV)));refine ⟨⟨i+1,c22,A22,abq,rfl,rfl, ?_⟩,by show n-(i+1)<n-i;omega, ?_⟩
   ·rw [al hs,List.mapIdx_concat,abP,acQ abq,bo];exact hh
   ·exact dI
  ·obtain rfl:i=n:=abq;rw [abG abq] at hh;exact yT
def SR.half (s:SR) (m:NR) (u:Bool):SR:=if u then ⟨m,s.hi⟩ else ⟨s.lo,m⟩
theorem uH (s:SR) (m:NR) (u:Bool) (w:World):
  Calls Tryz.prog 160 #[.agg #[.bool s.lo.neg,.string s.lo.aO,.int .i64 s.lo.e,.bool s.hi.neg,.string s.hi.aO,.int .i64 s.hi.e,.bool m.neg,.string m.aO,.int .i64 m.e],.bool u] w fun r w'=>r=.returned (.agg (s.half m u).cells.toArray)∧Below w.heap.size w w':=by
 have hh:=Hp.start w
 cases u with
 |true=>
  refine ae (N:=18) (l:=[.agg #[.bool s.lo.neg,.string s.lo.aO,.int .i64 s.lo.e,.bool s.hi.neg,.string s.hi.aO,.int .i64 s.hi.e,.bool m.neg,.string m.aO,.int .i64 m.e],.bool true]) Tryz.func160 rfl rfl (by simp) ?_;refine lK ?_;intro b2 w2 hh b4 w4 hh ws hh;exact RM
 |false=>
  refine ae (N:=18) (l:=[.agg #[.bool s.lo.neg,.string s.lo.aO,.int .i64 s.lo.e,.bool s.hi.neg,.string s.hi.aO,.int .i64 s.hi.e,.bool m.neg,.string m.aO,.int .i64 m.e],.bool false]) Tryz.func160 rfl rfl (by simp) ?_;refine lK ?_;intro b2 w2 hh b4 w4 hh ws hh;exact RM
theorem uB (L:Option Addr) (n c a:Nat) (b:List SR) (s:SR) (w:World) (hS:Sl w L n 6 (ar SR.cells b)) (hn:n≤1000000) (ha:a<n):
  Calls Tryz.prog 159 #[.slice L n c,.int .i64 a,.agg s.cells.toArray] w fun r w'=>∃A c',r=.returned (.slice A n c')∧w'.ownsRow w.heap.size 35 6 (.slice A n c') n (ar SR.cells (b.set a s))∧Below w.heap.size w w':=by
 have hh:=Hp.start w;have hln:=hS.aX SR.len abr;have hrl:=eH SR.len b;refine ae (N:=19) (l:=[.slice L n c,.int .i64 a,.agg s.cells.toArray]) Tryz.func159 rfl rfl (by simp) ?_;refine bT ?_;intro b5 w5 hh;refine zk ?_;intro b10 w10 hh;refine aj ?_;refine JF hh (i:=0) (o:=0) rfl rfl rfl (hS.ext hh.below) bq.out az.out (by rw [kp,Nat.min_self];show 0+n*6≤n*6;omega) (bj SR.one _) abr ?_;intro w13 hh;skip;have e1:∀xs:List Value,xs.length=n*6→bK xs 0 ((ar SR.cells b).take (min n n*6))=ar SR.cells b:=fun xs hx=>by
  rw [Nat.min_self,abG abq,bK,adh,abC,adH abq,acg]
 rw [abK,e1 _ (by rw [kp];rfl)] at hh;refine aj ?_;refine bM hh (i:=0) (vs:=[_,_,_,_,_,_]) rfl rfl (eR rfl) rfl az.out rfl abq rfl ?_;intro ws hh;simp only [abK] at hh;rw [show bK (ar SR.cells b) (a*6) [.bool s.lo.neg,.string s.lo.aO,.int .i64 s.lo.e,.bool s.hi.neg,.string s.hi.aO,.int .i64 s.hi.e]=ar SR.cells (b.set a s) from ew SR.len abq] at hh;exact yT
def jq (k:Int) (i:Nat):Bool:=decide (0<k) && (decide (i<62) && decide (k.fdiv (2^i) % 2=1))
theorem xU (i:Nat) (s:SR) (p:Addr) (k:Int) (w:World) (hi:i≤1000000) (hp:w.cell? p=some (.int .i64 k)):
  Calls Tryz.prog 108 #[.int .i64 i,.agg s.cells.toArray,.pointer (some p)] w fun r w'=>r=.returned (.agg #[.bool (cond (jq k i) s.hi s.lo).neg,.string (cond (jq k i) s.hi s.lo).aO,.int .i64 (cond (jq k i) s.hi s.lo).e])∧Below w.heap.size w w':=by
 have hh:=Hp.start w;have hmn:min (i:Int).toNat IntKind.i64.bits=min i 64:=rfl;unfold jq;by_cases h0:0<k
 ·rw [abQ h0,aev];by_cases h1:i<62
  ·rw [abQ h1,aev];have hm2:min (i:Int).toNat IntKind.i64.bits=i:=by rw [hmn];omega
   by_cases g:k.fdiv (2^i) % 2=1
   ·rw [abQ g];exact Up
   ·rw [abR g];exact Up
  ·rw [abR h1,aeB];exact UJ
 ·rw [abR h0,aeB];exact UJ
theorem yR (L:Option Addr) (n c:Nat) (b:List SR) (k:Int) (w:World) (hT:dq w) (hS:Sl w L n 6 (ar SR.cells b)) (hb:∀s∈b,s.ok) (hn:n≤1000000):
  Calls Tryz.prog 58 #[.slice L n c,.int .i64 k] w fun r w'=>∃A c',r=.returned (.slice A n c')∧w'.ownsRow w.heap.size 33 3 (.slice A n c') n (ar NR.cells (b.mapIdx fun i s=>cond (jq k i) s.f.hi s.f.lo))∧Below w.heap.size w w':=by
 have hh:=Hp.start w;refine ae (N:=8) (l:=[.slice L n c,.int .i64 k]) Tryz.func58 rfl rfl (by simp) ?_;refine bT ?_;intro b3 w3 hh;refine vZ ?_;refine au (tY L n c b 108 [.pointer (some ⟨b3,0,none⟩)] (fun i s=>cond (jq k i) s.f.hi s.f.lo) _ (hT.hp hh) (hS.ext hh.below) hb hn (fun i s w1 hi _ hw1 _=>xU i s.f ⟨b3,0,none⟩ k w1 abq ((hw1.cell (ni (hh.ej (i:=0) rfl rfl))).trans (hh.ej (i:=0) rfl rfl)))) ak.out rfl abr ?_;exact Uk
theorem Bl (L:Option Addr) (n c:Nat) (b:List SR) (a:Nat) (s:SR) (k:Nat) (w:World) (hT:dq w) (hS:Sl w L n 6 (ar SR.cells b)) (hb:∀s∈b,s.fin k) (hn:n≤1000000) (hk:k≤3000000) (hs:b[a]?=some s):
  Calls Tryz.prog 110 #[.slice L n c,.int .i64 a] w fun r w'=>∃A c1 B c2,r=.returned (.tuple #[.slice A n c1,.slice B n c2,.int .i64 0])∧Hp w [.row B n c2 35 6 (ar SR.cells ((b.map SR.f).set a (s.f.half (nR s.f.kB) true))),.row A n c1 35 6 (ar SR.cells ((b.map SR.f).set a (s.f.half (nR s.f.kB) false)))] w':=by
 have hh:=Hp.start w;have hln:=hS.aX SR.len abr;have han:a<n:=by have:=(abM.1 hs).1;omega
 have hfs:(b.map SR.f)[a]?=some s.f:=by rw [abI,hs];rfl
 have hmd:=fun w1 hT1=>CM s.f k w1 hT1 (SR.qb (hb s (abz hs)) hk) hk;refine ae (N:=38) (l:=[.slice L n c,.int .i64 a]) Tryz.func110 rfl rfl (by simp) ?_;refine aj ?_;refine au (lP L n c b _ (hT.hp hh) (hS.ext hh.below) (fun s h=>⟨(hb s h).1.ok,(hb s h).2.ok⟩) hn) ak.out rfl abr ?_;rintro e_ w17 ⟨A17,c17,rfl,hown_,hb_⟩;refine ⟨_,rfl, ?_⟩;replace hh:=hh.aD (x:=.row _ _ _ _ _ _) hb_ hown_;obtain ⟨g17,rfl⟩:=hh.bP (i:=0) rfl abq;refine aj ?_;refine aC 11 [[(0,none)],[(1,none)],[(18,some 0),(19,some 1)],[(20,some 2)],[(0,none)],[(1,none)],[(22,some 4),(23,some 5)],[(24,some 6)],[(25,some 7)],[(21,some 3),(26,some 8)],[]] [(10,7),(9,27),(8,26),(7,25),(6,24),(5,23),(4,22),(3,21),(2,20),(1,19),(0,18)] hh mixed abt ?_;refine fO ?_;refine dp ?_;refine CN (a) ?_;refine p9 [_,_,_,_,_,_] (fun _ hj=>hj.hp.df (f:=SR.cells) (x:=s.f) (l:=b.map SR.f) (i:=0) rfl SR.len abr hfs) ?_;refine fO ?_;refine dp ?_;refine CN (a) ?_;refine p9 [_,_,_,_,_,_] (fun _ hj=>hj.hp.df (f:=SR.cells) (x:=s.f) (l:=b.map SR.f) (i:=0) rfl SR.len abr hfs) ?_;refine dC (fun _ hj=>hmd _ (hT.hp hj.hp)) ?_
 refine dB [_,_,_,_,_,_,_,_,_] ?_;refine aW (i:=10) (cd _ 190 _) cd.ext (fun ρ1 w1 hj hR=>iP az.out hj.bl (fun v w2 h hb=>⟨hb,h⟩)) ?_;refine av ?_;intro f W hJ hV;have hb_4:=hJ.bl;obtain ⟨v7,v27,v26,v25,v24,v23,v22,v21,v20,v19,v18,_⟩:=hV;obtain ⟨b7,e7,hl7,hc7⟩:cd _ _ _ (f 10) W:=v7;replace hh:=hJ.newVar hh hl7 hc7;refine ay (aQ (aa e7 (aa v27 (aa v26 (aa v25 (aa v24 (aa v23 (aa v22 (aa v21 (aa v20 (aa v19 (aa v18 aw)))))))))))) ?_;dsimp only [bA];clear e7 hJ;refine bT ?_;intro ws hh;refine aC 9 [[(0,none)],[(1,none)],[(7,none)],[(30,some 2)],[(28,some 0),(29,some 1),(31,some 3)],[(0,none)],[(1,none)],[(7,none)],[(35,some 7)]] [(8,36),(7,35),(6,34),(5,33),(4,32),(3,31),(2,30),(1,29),(0,28)] hh mixed abt ?_;refine fO ?_;refine dp ?_;refine da 0 [_,_,_,_,_,_,_,_,_] ?_;refine dC (fun _ hj=>uH s.f (nR s.f.kB) false _) ?_;refine aW (i:=4) (wg ws.heap.size 35 n 6 (ar SR.cells ((b.map SR.f).set a (s.f.half (nR s.f.kB) false)))) (wg.ext) ?_ ?_
 ·intro ρ1 w1 hj hR;exact bp rfl (aR ak.out (aq hR.1 (aq hR.2.1 (aq hR.2.2.1 aY)))) (uB (some ⟨g17,0,none⟩) n c17 a (b.map SR.f) _ w1 (hj.hp.ao (i:=1) rfl) hn han) (fun _ _ ⟨A,c,hq,ho,hb⟩=>⟨_,hq,hb,A,c,rfl,iq ho hj.bl.size⟩)
 refine fO ?_;refine dp ?_;refine da 0 [_,_,_,_,_,_,_,_,_] ?_;refine dC (fun _ hj=>uH s.f (nR s.f.kB) true _) ?_;refine av ?_;intro f W hJ hV;have hb_5:=hJ.bl;obtain ⟨v36,v35,v34,v33,v32,v31,v30,v29,v28,_⟩:=hV;obtain ⟨A32,c32,e32,o32⟩:wg _ _ _ _ _ (f 4) W:=v32;replace hh:=JJ.FB hh hJ.hp o32;clear o32;refine ay (aQ (aa v36 (aa v35 (aa v34 (aa v33 (aa e32 (aa v31 (aa v30 (aa v29 (aa v28 aw)))))))))) ?_;dsimp only [bA];clear e32 hJ;refine au (uB (some ⟨g17,0,none⟩) n c17 a (b.map SR.f) _ _ (hh.ao (i:=2) rfl) hn han) ak.out rfl abr ?_;rintro e_ w37 ⟨A37,c37,rfl,hown_,hb_⟩;refine ⟨_,rfl, ?_⟩;replace hh:=hh.aD (x:=.row _ _ _ _ _ _) hb_ hown_;refine aL (aL (aI (aJ (yp ?_))));replace hh:=hh.sub (aby _ (aby _ (abA _ (abA _ abV))));refine ZL ?_;exact ⟨_,_,_,_,rfl,hh⟩
variable {K K':Value→World→Prop}{X:List Dyadic}{ag:Bool}{b by' o:Nat}{cs vs zc:List Value}{fz:Nat×Nat}{ops:Array Oper}{t':TypeId}{w':World}
theorem Xl {o:Oper} (h:OG P ops o ρ w K) (hk:∀v w',K v w'→K' v w'):OG P ops o ρ w K':=⟨fun a next Q ha hn=>h.out a next Q ha fun v w' h2=>hn v w' (hk v w' h2)⟩
theorem LB {H:List HE}{ty:TypeId}{af:Array Edge} (hh:Hp w0 H w) {t:TypeId}{x y:Operand}{i:Nat}{v:Value} (hx:ev ρ x=.pointer (some ⟨b,o,none⟩)) (hi:H[i]?=some (.blk b t' cs fz))
  (hy:ev ρ y=v) (hc:v.cells=vs.toArray) (ht:dy P t=some (n,ag,by',zc)) (hl:vs.length=n) (ho:o+n≤cs.length) (h1:(vs.all Value.oneCell')=true):OG P ops ⟨none,.store t x y,ty,pos,af,none⟩ ρ w fun v w'=>Hp w0 (H.set i (.blk b t' (bK cs o vs) fz)) w'∧Is undef v w':=by
 have hb:=hh.at_ hi;obtain ⟨w',hr,hb',hg,hs⟩:=gW (P:=P) (b:=b) (t:=t') (fz:=fz) o vs 0 cs w hb.2.1 hb.2.2 abq (by simpa using h1);refine ⟨fun a next Q ha hn=> ?_⟩;rw [abx (by simp [Region.wanted])];refine .inl ?_;have hr2:(execOp (ev ρ) ⟨none,.store t x y,ty,pos,af,none⟩).run P w=.ok .skip w':=by simp [execOp,hx,hy,Instr.storeAt,Instr.sureAddr,storeVar,fw ht,hl,hc,hr]
 unfold Oper.wp;rw [BJ ha,hr2];exact hn undef w' ⟨hh.grown hi hg (.inl rfl) ⟨hb.1,by simpa using hb',by rw [fD abq];exact hb.2.2⟩,rfl⟩
theorem KN {Q:Kq}{D:List Deferred}{id:Nat}{l:List Oper} (M:List Nat) (m μ:Nat) (src:List (List (Nat×Option Nat))) (ds:List (Nat×Nat)) {x:HE} (hh:Hp w0 (x::Hr) w) (y:HE) (hm:P.follows .mixedOrders=true) (hok:l5 l m N src ds [] M=true) (hμ:μ<m)
  (h:DX P l.toArray (JC w0 Hr) ρ (fun V1=>∃o s Vm,l[μ]?=some o∧src[μ]?=some s∧(∀v w w',Vm v w→Below w.heap.size w w'→Vm v w')∧(∀ρ1 w1,Hp w0 (x::Hr) w1→cN V1 ρ ρ1 w1 s→OG P l.toArray o ρ1 w1 fun v w2=>Hp w0 (y::Hr) w2∧Vm v w2)∧
   DX P l.toArray (JC w0 Hr) ρ (fun V=>Yu V ((List.range m).filter (· !=μ))∧∀f w',Hp w0 (y::Hr) w'→uV V f w' ds→WL ⟨none,D,false⟩ P N l.toArray Q (l.drop m) (gD ρ f ds) w') (μ+1) (ez V1 μ Vm) ((l.take m).drop (μ+1)) (src.drop (μ+1))) 0 Wu (l.take μ) (src.take μ)):WC ⟨none,D,false⟩ P N (.region id l.toArray true) Q ρ w:=
 Lt M m μ src ds hh (fun W=>Hp w0 (y::Hr) W) (abA _ (aco _)) hm hok hμ (fun _ _ h hb=>h.ext hb) (fun _ h=>h.sub (abA _ (aco _))) h
theorem oF:Sz 2 (dm (-1))∧Sz 2 (1-dm (-1)):=⟨(show Sz 1 (dm (-1)) from ⟨1,by decide+kernel,abr⟩).mono abq,Sz.one.sub (show Sz 1 (dm (-1)) from ⟨1,by decide+kernel,abr⟩)⟩
def oW (D:List Nat) (X:List Dyadic):FX:=⟨none,D.length,0,none,X.length,0,a0 D,X.map nR⟩
structure CV where
 b:List SR
 D:List Nat
 X:List Dyadic
 Y:List Dyadic
def CV.f (c:CV):FX:=oW c.D c.X
def CV.g (c:CV):FX:=oW c.D c.Y
def CV.half (c:CV) (a:Nat) (s:SR) (u:Bool):CV:=⟨(c.b.map SR.f).set a (s.f.half (nR s.f.kB) u),c.D,kC u (dm (-1)) c.D a c.X,kC u (dm (-1)) c.D a c.Y⟩
structure CV.ok (c:CV):Prop where
 bx:∀s∈c.b,s.fin 1000
 Ww:c.b.length≤20
 d12:c.D.length≤12
 d127:∀d∈c.D,d≤127
 Fs:ah c.D≤200
 lx:c.X.length=ah c.D
 ly:c.Y.length=ah c.D
 zx:∀x∈c.X,Sz 90000 x
 zy:∀x∈c.Y,Sz 90000 x
 up:cL [c.f,c.g]=0→(∀x∈kz (maxD [c.f,c.g]) c.f,Sz 250000 x)∧∀x∈kz (maxD [c.f,c.g]) c.g,Sz 250000 x
structure CX where
 L:Option Addr
 n:Nat
 c:Nat
 f:FX
 g:FX
 v:CV
def CX.cells (x:CX):List Value:=[.slice x.L x.n x.c,.slice x.f.A x.f.n x.f.a,.slice x.f.B x.f.m x.f.b,.slice x.g.A x.g.n x.g.a,.slice x.g.B x.g.m x.g.b]
theorem CX.len (x:CX):(CX.cells x).length=5:=rfl
def CX.rows (x:CX):List HE:=[.row x.L x.n x.c 35 6 (ar SR.cells x.v.b),x.f.jW,x.f.jY,x.g.jW,x.g.jY]
structure FX.is (f:FX) (D:List Nat) (X:List Dyadic):Prop where
 ds:f.ds=a0 D
 cs:f.cs=X.map nR
structure CX.fit (x:CX):Prop where
 f:x.f.is x.v.D x.v.X
 g:x.g.is x.v.D x.v.Y
structure FX.held (f:FX) (w:World):Prop where
 at_:f.at_ w
 cap:f.n≤f.a
theorem FX.held.of {f:FX}{H:List HE} (h:Hp w0 H w) (hc:f.jW∈H) (hd:f.jY∈H):f.held w:=by
 obtain ⟨i,hi⟩:=acG.1 hd;exact ⟨⟨nV (h.own _ hd),nV (h.own _ hc)⟩,h.gN hi⟩
structure CX.at_ (x:CX) (w:World):Prop where
 b:Sl w x.L x.n 6 (ar SR.cells x.v.b)
 f:x.f.held w
 g:x.g.held w
theorem CX.at_.of {x:CX}{H:List HE} (h:Hp w0 H w) (hm:∀y∈x.rows,y∈H):x.at_ w:=
 ⟨nV (h.own (.row x.L x.n x.c 35 6 (ar SR.cells x.v.b)) (hm _ abF)),.of h (hm _ (by simp [CX.rows])) (hm _ (by simp [CX.rows])),.of h (hm _ (by simp [CX.rows])) (hm _ (by simp [CX.rows]))⟩
theorem FX.held.ext {f:FX} (h:f.held w) (hb:Below w.heap.size w w'):f.held w':=⟨h.at_.ext hb,h.cap⟩
theorem CX.at_.ext {x:CX} (h:x.at_ w) (hb:Below w.heap.size w w'):x.at_ w':=⟨h.b.ext hb,h.f.ext hb,h.g.ext hb⟩
theorem FX.is.key {f:FX}{D:List Nat} (h:f.is D X) (ha:f.at_ w):f.n=D.length∧f.m=X.length:=by
 obtain ⟨h1,h2⟩:=ha.ln;rw [h.ds,bZ] at h1;rw [h.cs,abH] at h2;exact ⟨h1.symm,h2.symm⟩
theorem iS (D:List Nat):(a0 D).map Int.toNat=D:=j9 D
theorem FX.is.e {f:FX}{D:List Nat} (h:f.is D X) (h12:D.length≤12) (hlow:∀d∈D,d≤127) (hx:X.length=ah D) (hc:ah D≤4096):f.e=0:=by
 unfold FX.e;rw [h.ds,h.cs];exact (FV.mk rfl rfl h12 hlow hx hc:FV (a0 D) (X.map nR) D X).ok
theorem FX.is.jz {f:FX}{D:List Nat} (h:f.is D X) (ha:f.at_ w) (h12:D.length≤12) (hx:X.length=ah D) (hc:ah D≤4096) (hz:∀x∈X,Sz k x) (hk:k≤3000000):f.jz k:=by
 obtain ⟨h1,h2⟩:=h.key ha;refine ⟨abq,abq,fun c hc=> ?_⟩;rw [h.cs] at hc;obtain ⟨d,hd,rfl⟩:=abL.1 hc;rw [a6];exact ⟨(hz d hd).ok abq,hz d hd⟩
theorem Bj (x:CX) (a:Nat) (s:SR) (w:World) (hT:dq w) (hx:x.at_ w) (hf:x.fit) (ho:x.v.ok) (hW:∀v,pb x.v.b v→v=(a:Int)) (hs:x.v.b[a]?=some s) (had:a<x.v.D.length):
  Calls Tryz.prog 59 #[.agg x.cells.toArray] w fun r w'=>∃(lo up:CX) (R:List HE),r=.returned (.tuple #[.agg lo.cells.toArray,.agg up.cells.toArray])∧lo.v=x.v.half a s false∧up.v=x.v.half a s true∧lo.fit∧up.fit∧(∀y∈lo.rows++up.rows,y∈R)∧Hp w R w':=by
 have hh:=Hp.start w;obtain ⟨h12,h127,hcnt⟩:=(⟨ho.d12,ho.d127,ho.Fs⟩:_∧_∧_);have hbn:x.v.b.length=x.n:=hx.b.aX SR.len abr;have hb20:=ho.Ww;have ln1:=hf.f.key hx.f.at_;have ln2:=hf.g.key hx.g.at_;have lm1:=hf.f.jz hx.f.at_ h12 ho.lx abq ho.zx abr;have lm2:=hf.g.jz hx.g.at_ h12 ho.ly abq ho.zy abr;have e1:=hf.f.e h12 h127 ho.lx abq;have e2:=hf.g.e h12 h127 ho.ly abq;have hlx:=ho.lx;have hly:=ho.ly;have n1:x.f.ns=x.v.D:=by unfold FX.ns;rw [hf.f.ds];exact iS _
 have n2:x.g.ns=x.v.D:=by unfold FX.ns;rw [hf.g.ds];exact iS _
 have hw:=fun w1 hT1 hb=>yO x.L x.n x.c x.v.b 1000 w1 hT1 (hx.b.ext hb) ho.bx abq abr;have hha:=fun w1 hT1 hb=>Bl x.L x.n x.c x.v.b a s 1000 w1 hT1 (hx.b.ext hb) ho.bx abq abr hs;have hc1:=fun w1 hT1 hb=>y9 x.f (a:Int) 90000 2 w1 hT1 (hx.f.at_.ext hb) lm1 hx.f.cap oF.1 oF.2 abr (fun _ d hd=>by
  rw [n1] at hd;have:=h127 d hd;have:=acR (show x.f.m≤200 by omega) (show 260+2*(2*d)≤768 by omega);omega) (by unfold rm;rw [abw (fun h=>h e1),abw abq])
 have hc2:=fun w1 hT1 hb=>y9 x.g (a:Int) 90000 2 w1 hT1 (hx.g.at_.ext hb) lm2 hx.g.cap oF.1 oF.2 abr (fun _ d hd=>by
  rw [n2] at hd;have:=h127 d hd;have:=acR (show x.g.m≤200 by omega) (show 260+2*(2*d)≤768 by omega);omega) (by unfold rm;rw [abw (fun h=>h e2),abw abq])
 have m1:x.f.cs.map NR.d=x.v.X:=by rw [hf.f.cs,ack];exact (acT fun y _=>a6 y).trans (adR _)
 have m2:x.g.cs.map NR.d=x.v.Y:=by rw [hf.g.cs,ack];exact (acT fun y _=>a6 y).trans (adR _)
 rw [n1,m1,ada] at hc1;rw [n2,m2,ada] at hc2;refine ae (N:=49) (l:=[.agg x.cells.toArray]) Tryz.func59 rfl rfl (by simp) ?_;refine lK ?_;intro b1 w1 hh b2 w2 hh b3 w3 hh;refine au (hw _ (hT.hp hh) hh.below) ak.out rfl abr ?_;rintro e_ w16 ⟨⟨v,rfl,hv⟩,hb_⟩;refine ⟨_,rfl, ?_⟩;obtain rfl:=hW v hv;replace hh:=hh.ext hb_;refine aj ?_;refine au (hha _ (hT.hp hh) hh.below) ak.out rfl abr ?_;rintro e_ w21 ⟨A,cA,B,cB,rfl,h3⟩;refine ⟨_,rfl, ?_⟩;replace hh:=hh.join h3;simp only [abE,abC] at hh;clear h3;refine aj ?_;refine au (hc1 _ (hT.hp hh) hh.below) ak.out rfl abr ?_;rintro e_ w29 ⟨A1,a1,B1,b1_,A2,a2,B2,b2_,rfl,h3⟩;refine ⟨_,rfl, ?_⟩;replace hh:=hh.join h3;simp only [abE,abC] at hh;clear h3;refine xQ ?_;intro b8 w8 hh b9 w9 hh ws hh ws hh;refine au (hc2 _ (hT.hp hh) hh.below) ak.out rfl abr ?_;rintro e_ w37 ⟨A3,a3,B3,b3_,A4,a4,B4,b4_,rfl,h3⟩;refine ⟨_,rfl, ?_⟩;replace hh:=hh.join h3;simp only [abE,abC] at hh;clear h3;refine xQ ?_;intro b11 w11 hh b12 w12 hh ws hh ws hh
 replace hh:=hh.perm (acf (l₁:=[_,_,_,_,_,_,_,_,_,_,_,_,_,_,_]));simp only [abE,abC] at hh;refine KN [0,0,0,7,0,0,0,112,15,511] 9 8 [[(5,none)],[(8,none)],[(11,none)],[(41,some 0),(42,some 1),(43,some 2)],[(6,none)],[(9,none)],[(12,none)],[(45,some 4),(46,some 5),(47,some 6)],[(2,none),(44,some 3)]] [(7,48),(6,47),(5,46),(4,45),(3,44),(2,43),(1,42),(0,41)] hh (.blk b2 97 [.slice A x.n cA,.slice A1 x.f.n a1,.slice B1 x.f.m b1_,.slice A3 x.g.n a3,.slice B3 x.g.m b3_] (0,0)) mixed abt abr ?_;refine fO ?_;refine p9 [_,_] (fun _ hj=>hj.hp.aE (i:=7) (n:=2) rfl rfl) ?_;refine p9 [_,_] (fun _ hj=>hj.hp.aE (i:=1) (n:=2) rfl rfl) ?_;refine dB [_,_,_,_,_] ?_;refine fO ?_;refine p9 [_,_] (fun _ hj=>hj.hp.aE (i:=6) (n:=2) rfl rfl) ?_;refine p9 [_,_] (fun _ hj=>hj.hp.aE (i:=0) (n:=2) rfl rfl) ?_;refine dB [_,_,_,_,_] ?_;refine av ?_;refine ⟨_,_,Is undef,rfl,rfl,Is.ext, ?_, ?_⟩
 ·intro ρ1 w1 hh hR;exact Xl (LB hh (i:=0) (vs:=[_,_,_,_,_]) (show ρ1 2=Value.pointer _ from hR.1) rfl (show ρ1 44=Value.agg (List.toArray _) from hR.2.1) rfl az.out rfl abr rfl) (fun _ _ h=>h)
 refine av ?_;refine ⟨by repeat (first|exact trivial|refine ⟨fun _ _ _ h_=>h_, ?_⟩), ?_⟩;rintro f W hh hV;obtain ⟨v48,v47,v46,v45,v44,v43,v42,v41,_⟩:=hV;simp only [gD];have e41:f 0=_:=v41;rw [e41];have e42:f 1=_:=v42;rw [e42];have e43:f 2=_:=v43;rw [e43];have e44:f 3=_:=v44;rw [e44];have e45:f 4=_:=v45;rw [e45];have e46:f 5=_:=v46;rw [e46];have e47:f 6=_:=v47;rw [e47];have e48:f 7=_:=v48;rw [e48];clear e41 e42 e43 e44 e45 e46 e47 e48;refine bT ?_;intro ws hh;refine GD (bI rfl (bJ (vs:=[_,_,_,_,_]) az.out (hh.aE (i:=0) (n:=5) rfl rfl) rfl) (bI rfl (bJ (vs:=[_,_,_,_,_]) az.out (hh.aE (i:=15) (n:=5) rfl rfl) rfl) cR)) ?_;refine ⟨⟨A,x.n,cA,⟨A1,x.f.n,a1,B1,x.f.m,b1_,x.f.ds,(x.v.half a s false).X.map nR⟩,⟨A3,x.g.n,a3,B3,x.g.m,b3_,x.g.ds,(x.v.half a s false).Y.map nR⟩,x.v.half a s false⟩,⟨B,x.n,cB,⟨A2,x.f.n,a2,B2,x.f.m,b2_,x.f.ds,(x.v.half a s true).X.map nR⟩,⟨A4,x.g.n,a4,B4,x.g.m,b4_,x.g.ds,(x.v.half a s true).Y.map nR⟩,x.v.half a s true⟩,_,rfl,rfl,rfl,⟨⟨hf.f.ds,rfl⟩,hf.g.ds,rfl⟩,⟨⟨hf.f.ds,rfl⟩,hf.g.ds,rfl⟩,fun y hy=> ?_,hh⟩
 simp only [CX.rows,FX.jW,FX.jY,abE,abC,abO,acS,or_false] at hy ⊢
 rcases hy with rfl|rfl|rfl|rfl|rfl|rfl|rfl|rfl|rfl|rfl<;>simp [CV.half]
variable {p:List TR}{β:Type}
def mulM (a b:ByteArray):ByteArray:=str (mulL a.data.toList b.data.toList).1
def qB (a b:ByteArray):Int:=(mulL a.data.toList b.data.toList).2
def sS (x y:TR):TR:=⟨mulM x.m y.m,nR (x.c.d*y.c.d)⟩
def cj (p q:List TR):List TR:=p.flatMap fun x=>q.map (sS x)
def xo (p q:List TR):List Int:=p.flatMap fun x=>q.map fun y=>qB x.m y.m
def gH (p q:List TR):Int:=if 65536<p.length*q.length then 3 else match (xo p q).find? fun e=>decide (e≠0) with|some e=>e|none=>if 4096<(aA (cj p q)).length then 3 else 0
theorem C5 {α β:Type}{f:α→List β}{k:Nat}:∀{l:List α},(∀x∈l,(f x).length=k)→(l.flatMap f).length=l.length*k
 |[],_=>by simp
 |x::l,h=>by
  rw [adV,abJ,h x abF,C5 fun y hy=>h y (abN _ hy),ab0,acD,adD]
theorem ph (p q:List TR):(cj p q).length=p.length*q.length:=C5 fun x _=>abH _
theorem tN {γ:Type}{f:α→β→γ}{p:List α}{q:List β}{i:Nat}{x:α} (hx:p[i]?=some x):
  ((p.take (i+1)).flatMap fun x=>q.map (f x))=((p.take i).flatMap fun x=>q.map (f x))++(q.take q.length).map (f x):=by
 rw [al hx,ad9,abG (abD _)];simp
theorem GM {γ:Type}{f:α→β→γ}{p:List α}{q:List β}{i:Nat}{x:α}{y:β} (hx:p[i]?=some x) (hy:q[j]?=some y):
  ∃R,(p.flatMap fun x=>q.map (f x))=(((p.take i).flatMap fun x=>q.map (f x))++(q.take j).map (f x))++f x y::R:=by
 refine ⟨(q.drop (j+1)).map (f x)++(p.drop (i+1)).flatMap fun x=>q.map (f x), ?_⟩;have e1:p=p.take i++x::p.drop (i+1):=by rw [←gk hx,acH]
 have e2:q=q.take j++y::q.drop (j+1):=by rw [←gk hy,acH]
 have e3:q.map (f x)=(q.take j).map (f x)++f x y::(q.drop (j+1)).map (f x):=by
  rw [←ab8,←acM,←e2]
 calc (p.flatMap fun x=>q.map (f x))=(p.take i++x::p.drop (i+1)).flatMap fun x=>q.map (f x):=by rw [←e1]
  _=_:=by rw [ad9,adV,e3];simp
theorem rg {q:List TR} (hp:iO k p) (hq:iO j q) (h:k+j≤1000000):iO (k+j) (cj p q):=fun t ht=>by
 obtain ⟨x,hx,ht⟩:=ade.1 ht;obtain ⟨y,hy,rfl⟩:=abL.1 ht;have hs:=(hp x hx).2.mul (hq y hy).2;exact ⟨hs.ok abq,by show Sz _ (nR _).d;rw [a6];exact hs⟩
theorem Kr (a b:ByteArray):(mulM a b).size≤b.size:=by
 unfold mulM;rw [ki];unfold mulL;split
 ·rename_i l hl;have:=(Ae hl).2.2;have h4:l.length≤b.data.toList.length:=by rw [this.2,aeU,cZ,cZ];omega
  have h5:(Qf l).length≤l.length:=by unfold Qf;split<;>simp
  rw [dY];exact abW h5 h4
 ·exact abB _
variable {ts:List TR}
theorem P3 (c:Dyadic) (f:ByteArray→Dyadic) (l:List TR):wS (fun m=>c*f m) l=c*wS f l:=by
 induction l with
 |nil=>exact (aeW _).symm
 |cons t l ih=>rw [wS,wS,ih];grind
theorem PM (f:ByteArray→Dyadic) (x:TR) (q:List TR):wS f (q.map (sS x))=x.c.d*wS (fun b=>f (mulM x.m b)) q:=by
 induction q with
 |nil=>exact (aeW _).symm
 |cons t q ih=>
  rw [ab8,wS,ih,wS];show (nR _).d*f (mulM x.m t.m)+_=_;rw [a6];grind
theorem E5 (f:ByteArray→Dyadic) (q:List TR):∀p:List TR,wS f (cj p q)=wS (fun a=>wS (fun b=>f (mulM a b)) q) p
 |[]=>rfl
 |t::p=>by
  show wS f (q.map (sS t)++cj p q)=_;rw [pU,PM,E5 f q p,wS]
def qI (c:Dyadic) (t:TR):TR:=⟨t.m,nR (t.c.d*c)⟩
theorem cv {v:Int} (h:jR v ts=0):jG v=true∧ts.length≤4096∧(∀t∈ts,fY v t=true)∧Canon ts:=by
 unfold jR at h
 cases hf:jG v with
 |false=>rw [hf,abx rfl] at h;omega
 |true=>
  rw [abw (by rw [hf];decide)] at h;by_cases h4:4096<ts.length
  ·rw [abx h4] at h;omega
  ·rw [abw h4] at h;by_cases ho:okB v ts=true
   ·unfold okB at ho;rw [abS] at ho;have hg:∀t∈ts,qe v t=true:=ab6.1 ho.1;refine ⟨rfl,abq,fun t ht=> ?_,su.1 ho.2,fun t ht=> ?_,fun t ht=> ?_⟩
    ·exact (adl.1 (hg t ht)).1
    ·exact GS (adl.1 (adl.1 (hg t ht)).2).1
    ·exact ((vm _).1 (adl.1 (adl.1 (hg t ht)).2).2).symm
   ·rw [abw ho] at h;omega
theorem JB {v:Int} (hf:jG v=true) (h4:ts.length≤4096) (hm:∀t∈ts,fY v t=true) (hc:Canon ts):jR v ts=0:=by
 unfold jR;rw [abw (by rw [hf];decide),abw abq,abx];unfold okB;rw [abS];refine ⟨ab6.2 fun t ht=> ?_,su.2 hc.ua⟩;show (fY v t && (qZ t && YA t.c))=true;rw [hm t ht,(vm _).2 (hc.nf t ht).symm];unfold qZ;rw [abR (hc.nz t ht)]
 rfl
theorem Vr {v:Int}{s t:TR} (h:s.m=t.m) (hs:fY v s=true):fY v t=true:=by unfold fY at hs ⊢;rwa [←h]
theorem qC {v:Int}{l:List TR} (h:∀t∈l,fY v t=true):∀t∈aA l,fY v t=true:=fun t ht=>by
 obtain ⟨s,hs,e⟩:=lu t ht;exact Vr e (h s hs)
theorem jx {v:Int}{l:List TR} (hf:jG v=true) (h4:(aA l).length≤4096) (hm:∀t∈l,fY v t=true):jR v (aA l)=0:=JB hf h4 (qC hm) (gF l)
theorem PV {v:Int}{x y:TR} (hx:fY v x=true) (h:qB x.m y.m=0):fY v (sS x y)=true:=by
 unfold fY at hx ⊢;rw [abS,ab1] at hx;obtain ⟨_,_,h3,h4,h5⟩:=pJ h;rw [abS,ab1];have h6:=acm List.length h5;rw [cZ,aeU,cZ,cZ,h3,Nat.min_self] at h6;refine ⟨?_, ?_⟩
 ·show eX (mulM x.m y.m).data.toList=true;unfold mulM;rw [dH];exact h4
 ·show ((mulM x.m y.m).size:Int)=v;unfold mulM;rw [ki,h6,←dY];exact hx.2
theorem tM {v:Int}{q:List TR} (hp:∀t∈p,fY v t=true) (h:∀e∈xo p q,e=0):∀t∈cj p q,fY v t=true:=fun t ht=>by
 obtain ⟨x,hx,ht⟩:=ade.1 ht;obtain ⟨y,hy,rfl⟩:=abL.1 ht;exact PV (hp x hx) (h _ (ade.2 ⟨x,hx,abL.2 ⟨y,hy,rfl⟩⟩))
theorem l9 {q:List TR} (h:gH p q=0):p.length*q.length≤65536∧(∀e∈xo p q,e=0)∧(aA (cj p q)).length≤4096:=by
 unfold gH at h;by_cases h6:65536<p.length*q.length
 ·rw [abx h6] at h;omega
 ·rw [abw h6] at h;split at h
  ·rename_i e he;have:=List.find?_some he;rw [ab1] at this;exact absurd h this
  ·rename_i he;refine ⟨abq,fun e hm=> ?_, ?_⟩
   ·have:=List.find?_eq_none.1 he e hm;simpa using this
   ·by_cases h4:4096<(aA (cj p q)).length
    ·rw [abx h4] at h;omega
    ·omega
def ir (ps:List PX):Int:=(ps.map PX.v).headD 0
def DJ (ps:List PX):List TR:=ps.flatMap PX.ts
def Om (ps:List PX):Int:=if ic ps=0 then gZ (DJ ps) else ic ps
theorem BM {ps:List PX} (h:ic ps=0):ps≠[]∧(∀g∈ps,g.e=0)∧∀g∈ps,g.v=ir ps:=by
 unfold ic at h;exact WZ
theorem B5 {α β:Type}{f:α→List β}{B:Nat}:∀{l:List α},(∀x∈l,(f x).length≤B)→(l.flatMap f).length≤l.length*B
 |[],_=>by simp
 |x::l,h=>by
  rw [adV,abJ,ab0,acD];have h1:=h x abF;have h2:=B5 fun y hy=>h y (abN _ hy);omega
theorem J6 {f:α→List β}{l:List α}{i:Nat}{x:α} (h:l[i]?=some x):(l.take (i+1)).flatMap f=(l.take i).flatMap f++f x:=by
 rw [al h,ad9];simp
theorem Hv {l k:List TR} (h:aA l=aA k):gZ l=gZ k:=by unfold gZ;rw [h]
theorem oe {ps:List PX}{g:PX} (h:ps[0]?=some g):ir ps=g.v:=by
 rcases ps with _|⟨f,l⟩
 ·cases h
 ·have:f=g:=by simpa using h
  rw [←this];rfl
theorem xa (L:Option Addr) (n c:Nat) (ps:List PX) (k:Nat) (w:World) (hT:dq w) (hL:Sl w L n 2 (ar PX.cells ps)) (hn:n≤100) (hf:∀g∈ps,g.at_ w) (hl:∀g∈ps,g.jz k) (hk:k≤2999000):
  Calls Tryz.prog 192 #[.slice L n c] w fun r w'=>∃g:PX,iy (Om ps) (ir ps) (aA (DJ ps)) g∧r=.returned (.tuple #[.agg #[.int .i64 g.v,.slice g.A g.n g.c],.int .i64 (Om ps)])∧Hp w [g.row] w':=by
 have hh:=Hp.start w;have hln:=hL.aX PX.len abr;have hlk:=fun w1 hT1 hb=>uo L n c ps k w1 hT1 (hL.ext hb) abq (fun g hg=>(hf g hg).ext hb) hl;unfold Om;by_cases h0:ic ps=0
 ·rw [abx h0];rw [h0] at hlk;obtain ⟨hne,uQ,hvv⟩:=BM h0;have hpos:=List.length_pos_iff.2 hne;obtain ⟨g0,h00⟩:=ai (l:=ps) (k:=0) hpos;rw [oe h00];have hfl:(DJ ps).length≤ps.length*4096:=B5 fun g hg=>(cv (uQ g hg)).2.1;obtain ⟨ad,rfl,hr⟩:=hL.at_ abq;refine ae (N:=33) (l:=[.slice (some ad) n c]) Tryz.func192 rfl rfl (by simp) ?_;refine bT ?_;intro b2 w2 hh;refine zN ?_;intro w9 hh;refine aj ?_;replace hh:=hh.cJ 95 4;refine bk [5,7,16,17,18,19,20,21,22,23,24] 5 16
   (fun a x w'=>∃(i:Nat) (M:List TR) (A':Option Addr) (c':Nat),i≤n∧x=.int .i64 i∧a=.slice A' M.length c'∧MD (k+i) ((ps.take i).flatMap PX.ts) M∧Hp w [.row A' M.length c' 95 4 (ar TR.cells M),.blk b2 52 [.int .i64 0,.slice none 0 0] (0,0)] w')
   (fun _ x _=>n-(intOf x).toNat) ?_ ?_
  ·exact ⟨0,[],none,0,abB _,rfl,rfl,MD.self ae1 (fun t ht=>nomatch ht),hh⟩
  ·clear hh;rintro ρ' a_ x_ w' ⟨i,M,A',c',hi,rfl,rfl,hmd,hh⟩;have hfi:((ps.take i).flatMap PX.ts).length≤i*4096:=by
    have:=B5 (f:=PX.ts) (B:=4096) (l:=ps.take i) fun g hg=>(cv (uQ g (adx hg))).2.1;rwa [abP,acQ abq] at this
   have hML:=hmd.len;by_cases hlt:i<n
   ·obtain ⟨g,hx⟩:=ai (l:=ps) (k:=i) abq;have hmem:=abz hx;have hgl:=hl g hmem;have hge:=cv (uQ g hmem);have hgc:=hgl.cap;have hgn:=hgl.n;refine aj ?_;refine Ps ?_;refine bX ?_;intro b7 w7 hh ws hh;refine au (se A' M.length c' M g.A g.n g.c g.ts (k+i) _ (hT.hp hh) (hh.ao (i:=1) rfl) ((hf g hmem).ext hh.below) (hh.gN (i:=1) rfl) hgc abq hgn abq hmd.ua hge.2.2.2.ua hmd.ok (hgl.ok.mono abq)) ak.out rfl abr ?_;rintro e_ w23 ⟨L2,A2,c2,hm2,rfl,h3⟩;refine ⟨_,rfl, ?_⟩;replace hh:=hh.join h3;simp only [abE,abC] at hh;refine aj ?_;replace hh:=hh.sub (aby _ (abA _ (abA _ (aby _ abV))));refine ⟨⟨i+1,L2,A2,c2,abq,rfl,rfl, ?_,hh⟩,by show n-(i+1)<n-i;omega, ?_⟩
    ·rw [J6 hx];exact hmd.Mw (MD.self hge.2.2.2.ua (hgl.ok.mono abq:iO (k+i) g.ts)) hm2 abq
    ·exact dI
   ·obtain rfl:i=n:=abq;rw [abG abq] at hmd hfi hML;have hgM:aA M=aA (DJ ps):=BP hmd.co;have hgE:=Hv hgM;refine aj ?_;refine bG az.out rfl (bL hh.below ((hr.recAt PX.len h00) 0 _ rfl)) abr ?_;refine mL ?_;refine au (lO _ A' M.length c' M (k+i) _ hT hh rfl abq abq hmd.ok) ak.out rfl abr ?_;rintro e_ w30 ⟨g,og,rfl,hh⟩;refine ⟨_,rfl, ?_⟩;refine bT ?_;intro ws hh;refine Jw ?_;rw [←hgE,←hgM];exact U8
 ·rw [abw h0];generalize ic ps=e at*;refine ae (N:=33) (l:=[.slice L n c]) Tryz.func192 rfl rfl (by simp) ?_;refine bT ?_;intro b2 w2 hh;refine zN ?_;intro w9 hh;exact Rt
def nW (s:ByteArray) (i:Nat):Int:=match s.data.toList[i]? with|some c=>c.toNat|none=>0
def Fh (l:List TR) (i:Nat):Int:=l.foldl (fun m t=>max m (nW t.m i)) 0
def n4 (m:Nat) (l:List TR):List Int:=(List.range m).map (Fh l)
def y7 (v:Int) (ts:List TR):List Int:=if jR v ts=0 then n4 v.toNat ts else []
theorem gL (m:Nat) (l:List TR):(n4 m l).length=m:=by unfold n4;rw [abH,adn]
theorem vf (l:List TR) (h:j<m):(n4 m l)[j]?=some (Fh l j):=by
 unfold n4;rw [abI,acy h]
 rfl
theorem xG (l:List TR) (t:TR) (i:Nat):Fh (l++[t]) i=max (Fh l i) (nW t.m i):=by unfold Fh;rw [aeJ];rfl
theorem Nr {s:ByteArray}{i:Nat}{c:UInt8} (h:s.data.toList[i]?=some c):nW s i=c.toNat:=by unfold nW;rw [h]
theorem QW {A B:List α}{y:α} (h:A.length=B.length) (hy:B[j]?=some y):(B.take j++A.drop j).set j y=B.take (j+1)++A.drop (j+1):=by
 have hj:=(abM.1 hy).1;have hl:(B.take j).length=j:=by rw [abP];omega
 obtain ⟨x,hx⟩:=ai (l:=A) (k:=j) abq;rw [gk hx,al hy,adS _ _ abq,hl,acs];simp
theorem Se {A B:List α}{x:α} (h:A.length=B.length) (hx:A[j]?=some x):(B.take j++A.drop j)[j]?=some x:=by
 have hj:=(abM.1 hx).1;have hl:(B.take j).length=j:=by rw [abP];omega
 exact Uy
theorem NJ (m:Nat):hZ m [.int .i64 0]=bh (n4 m []):=by
 have h1:∀n,hZ n [.int .i64 0]=bh (List.replicate n 0):=fun n=>by
  induction n with
  |zero=>rfl
  |succ n ih=>rw [hZ,ih,ad5];rfl
 rw [h1];congr 1;apply acp;intro i;by_cases h:i<m
 ·rw [vf [] h,afc,abx h]
  rfl
 ·rw [abT (by rw [acL];omega),abT (by rw [gL];omega)]
theorem ur (p:PX) (k:Nat) (w:World) (hT:dq w) (hp:p.at_ w) (lp:p.jz k):
  Calls Tryz.prog 150 #[.agg #[.int .i64 p.v,.slice p.A p.n p.c]] w fun r w'=>∃A c,r=.returned (.slice A (y7 p.v p.ts).length c)∧Hp w [.row A (y7 p.v p.ts).length c 3 1 (bh (y7 p.v p.ts))] w':=by
 have hh:=Hp.start w;have hck:=fun w1 hT1 hb=>nJ p k w1 hT1 (hp.ext hb) lp;by_cases h0:p.e=0
 ·rw [show y7 p.v p.ts=n4 p.v.toNat p.ts from abx h0,gL];rw [h0] at hck;obtain ⟨hf,h4,hmy,_⟩:=cv h0;have hpl:p.ts.length=p.n:=hp.ln;obtain ⟨pv,pA,pn,pc,ts⟩:=p;replace hf:=fN.1 hf;replace hmy:∀t∈ts,fY pv t=true:=hmy;replace hp:Sl w pA pn 4 (ar TR.cells ts):=hp;have hsz:∀t∈ts,t.m.size≤100000:=lp.sz;have hn:=lp.n;replace hn:pn≤1000000:=hn;replace hpl:ts.length=pn:=hpl;obtain ⟨m,rfl⟩:∃m:Nat,pv=(m:Int):=⟨pv.toNat,by show pv=_;have:0≤pv:=hf.1;omega⟩;replace hf:m≤12:=by have h9:(m:Int)≤12:=hf.2;omega
  show Calls _ _ _ _ fun r w'=>∃A c,r=.returned (.slice A m c)∧Hp w [.row A m c 3 1 (bh (n4 m ts))] w';refine ae (N:=42) (l:=[.agg #[.int .i64 m,.slice pA pn pc]]) Tryz.func150 rfl rfl (by simp) ?_;refine bT ?_;intro b1 w1 hh;refine hU ?_;intro w9 hh;refine aj ?_;refine fy (n:=m) hh rfl rfl abq abq bq.out az.out rfl abq abq abr ?_;intro b13 w13 hh;refine aj ?_;rw [NJ] at hh;refine aH [5,6,7,17,18,19,20,21,22,23,24,25,26,27,28,29,30,31,32,33,34,35,36,37,38,39,40] 17
   (fun v w'=>∃i:Nat,i≤pn∧v=.int .i64 i∧Hp w [.row (some ⟨b13,0,none⟩) m m 3 1 (bh (n4 m (ts.take i))),.blk b1 52 [.int .i64 m,.slice pA pn pc] (0,0)] w')
   (fun v _=>pn-(intOf v).toNat) ?_ ?_
  ·exact ⟨0,abB _,rfl,hh⟩
  ·clear hh;rintro ρ' v w' ⟨i,hi,rfl,hh⟩;by_cases hlt:i<pn
   ·obtain ⟨x,hx⟩:=ai (l:=ts) (k:=i) abq;obtain ⟨ad,rfl,hr⟩:=hp.at_ abq;have hxm:=abz hx;have hxs:=hsz x hxm;have hmx:=adl.1 (hmy x hxm);have hxz:x.m.size=m:=by have:=ads hmx.2;omega
    have hxl:x.m.data.toList.length=m:=by rw [←dY];exact hxz
    have hex:kj x.m.data.toList=ints x.m.data.toList:=mn hmx.1;have hel:(kj x.m.data.toList).length=m:=by rw [hex,cZ];exact hxl
    have hBl:(n4 m (ts.take i)).length=(n4 m (ts.take (i+1))).length:=by rw [gL,gL]
    refine aj ?_;refine qj ?_;refine bX ?_;intro b5 w5 hh ws hh;refine au (j4 x.m _ hxs) ak.out rfl abr ?_;rintro e_ w23 ⟨A23,c23,rfl,hown_,hb_⟩;refine ⟨_,rfl, ?_⟩;replace hh:=hh.aD (x:=.row _ _ _ _ _ _) hb_ hown_;rw [hel] at hh ⊢;refine aj ?_;refine aH [6,7,25,26,27,28,29,30,31,32,33,34,35,36,37,38,39] 25
     (fun v w'=>∃j:Nat,j≤m∧v=.int .i64 j∧Hp w [.row A23 m c23 3 1 (bh (kj x.m.data.toList)),.blk b5 95 [.string x.m,.bool x.c.neg,.string x.c.aO,.int .i64 x.c.e] (0,0),.row (some ⟨b13,0,none⟩) m m 3 1 (bh ((n4 m (ts.take (i+1))).take j++(n4 m (ts.take i)).drop j)),.blk b1 52 [.int .i64 m,.slice (some ad) pn pc] (0,0)] w')
     (fun v _=>m-(intOf v).toNat) ?_ ?_
    ·exact ⟨0,abB _,rfl,hh⟩
    ·clear hh;rintro ρ2 v w2 ⟨j,hj,rfl,hh⟩;by_cases hjn:j<m
     ·obtain ⟨e,he⟩:=ai (l:=x.m.data.toList) (k:=j) abq;have hee:(kj x.m.data.toList)[j]?=some (e.toNat:Int):=by rw [hex];exact Qn he
      have ho:=Se hBl (vf (ts.take i) hjn);have hset:=QW hBl (vf (ts.take (i+1)) hjn);have hmx2:Fh (ts.take (i+1)) j=max (Fh (ts.take i) j) (e.toNat:Int):=by rw [al hx,xG,Nr he]
      rw [hmx2] at hset;have hol:((n4 m (ts.take (i+1))).take j++(n4 m (ts.take i)).drop j).length=m:=by rw [abJ,abP,acJ,gL,gL];omega
      generalize (n4 m (ts.take (i+1))).take j++(n4 m (ts.take i)).drop j=M at*;have hee2:=cM hee;have ho2:=cM ho;have hll:(bh M).length=m:=by rw [cq];exact hol
      obtain ⟨g,rfl⟩:=hh.bP (i:=0) rfl abq;refine aj ?_;refine lF ?_;refine aj ?_;refine bG az.out rfl (hh.ff (i:=2) rfl (by first|assumption|(simp only [abZ];assumption))) abr ?_;refine aj ?_;have hmv:(if (e.toNat:Int)>Fh (ts.take i) j then (e.toNat:Int) else Fh (ts.take i) j)=max (Fh (ts.take i) j) (e.toNat:Int):=by split<;>omega
      refine bM hh (i:=2) (vs:=[_]) rfl rfl (cH rfl) rfl az.out rfl abq rfl ?_;intro ws hh;simp only [abK,ab9] at hh;rw [hmv,lQ _ (by rw [←cq];omega),hset] at hh;refine aj ?_;refine ⟨⟨j+1,abq,rfl,hh⟩,by show m-(j+1)<m-j;omega, ?_⟩;exact dI
     ·obtain rfl:j=m:=abq;rw [abG (by rw [gL];omega),adH (by rw [gL];omega),acg] at hh;refine aj ?_;replace hh:=hh.sub (abA _ (abA _ (aby _ (aby _ abV))));refine ⟨⟨i+1,abq,rfl,hh⟩,by show pn-(i+1)<pn-i;omega, ?_⟩;exact dI
   ·obtain rfl:i=pn:=abq;rw [abG abq] at hh;refine aj ?_;exact ⟨_,_,rfl,hh.sub (aby _ (acA _))⟩
 ·rw [show y7 p.v p.ts=[] from abw h0];refine ae (N:=42) (l:=[.agg #[.int .i64 p.v,.slice p.A p.n p.c]]) Tryz.func150 rfl rfl (by simp) ?_;refine bT ?_;intro b1 w1 hh;refine hU ?_;intro w9 hh;refine aj ?_;exact ⟨none,0,rfl,(hh.sub (acA _)).cJ 3 1⟩
def FA (dg ds:List Int):Bool:=(dg.zip ds).any fun q=>decide (q.2<q.1∨127<q.2)
def nH (p:PX) (b:List SR) (ds:List Int):Int:=
 if p.e≠0 then p.e else if p7 b≠0 then p7 b else if (b.length:Int)≠p.v∨(ds.length:Int)≠p.v then 1 else if FA (y7 p.v p.ts) ds=true then 1 else if iZ 1 ds=0 then 3 else 0
theorem Js {a:List α}{b:List β}{i:Nat}{x:α}{y:β} (hx:a[i]?=some x) (hy:b[i]?=some y):(a.zip b)[i]?=some (x,y):=by
 rw [aeL];exact ⟨hx,hy⟩
theorem wJ (p:PX) (L:Option Addr) (n c:Nat) (b:List SR) (M:Option Addr) (m mc:Nat) (ds:List Int) (k:Nat) (w:World) (hT:dq w) (hp:p.at_ w) (lp:p.jz k) (hB:Sl w L n 6 (ar SR.cells b)) (hb:∀s∈b,s.ok) (hn:n≤1000000) (hD:Sl w M m 1 (bh ds)) (hm:m≤1000000):
  Calls Tryz.prog 151 #[.agg #[.int .i64 p.v,.slice p.A p.n p.c],.slice L n c,.slice M m mc] w fun r w'=>r=.returned (.int .i64 (nH p b ds))∧Below w.heap.size w w':=by
 have hh:=Hp.start w;have hck:=fun w1 hT1 hb=>nJ p k w1 hT1 (hp.ext hb) lp;have hbk:=fun w1 hT1 hb1=>AH L n c b w1 hT1 (hB.ext hb1) hb hn;have hdg:=fun w1 hT1 hb=>ur p k w1 hT1 (hp.ext hb) lp;have hbl:b.length=n:=hB.aX SR.len abr;have hdl:ds.length=m:=by have:=hD.1;rw [cq] at this;omega
 unfold nH;by_cases h0:p.e≠0
 ·rw [abx h0];generalize p.e=e at*;refine Nh ?_;refine bT ?_;intro b3 w3 hh;refine hU ?_;intro w12 hh;refine aj ?_;exact ⟨rfl,hh.below⟩
 ·rw [abw h0];have hpe:p.e=0:=abq;rw [hpe] at hck;by_cases h1:p7 b≠0
  ·rw [abx h1];generalize p7 b=e at*;exact VA
  ·rw [abw h1];rw [show p7 b=0 by omega] at hbk;by_cases h2:(b.length:Int)≠p.v
   ·rw [abx (.inl h2)];exact VA
   ·by_cases h3:(ds.length:Int)≠p.v
    ·rw [abx (.inr h3)];exact VA
    ·rw [abw (fun h=>h.elim h2 h3)];have hgl:(y7 p.v p.ts).length=m:=by
      unfold y7;rw [abx (show jR p.v p.ts=0 from hpe),gL];omega
     have hzl:((y7 p.v p.ts).zip ds).length=m:=by rw [List.length_zip];omega
     have hbd:FA (y7 p.v p.ts) ds=((y7 p.v p.ts).zip ds).any fun q=>decide (q.2<q.1∨127<q.2):=rfl;generalize y7 p.v p.ts=dg at*;rw [hgl] at hdg;refine Nh ?_;refine bT ?_;intro b3 w3 hh;refine hU ?_;intro w12 hh;refine aj ?_;refine aZ hh (hbk _ (hT.hp hh) hh.below) rfl ?_;intro w17 hh;refine aj ?_;refine au (hdg _ (hT.hp hh) hh.below) ak.out rfl abr ?_;rintro e_ w34 ⟨G,gc,rfl,h4⟩;refine ⟨_,rfl, ?_⟩;replace hh:=hh.join h4;simp only [abE,abC] at hh;refine aj ?_;refine aH [6,9,10,36,37,38,39,40,41,42,43,44,45,46,47,48,49,50,51,52,53,54] 36
      (fun v w'=>∃i:Nat,i≤m∧v=.int .i64 i∧((dg.zip ds).take i).any (fun q=>decide (q.2<q.1∨127<q.2))=false∧Hp w [.row G m gc 3 1 (bh dg),.blk b3 52 [.int .i64 p.v,.slice p.A p.n p.c] (0,0)] w')
      (fun v _=>m-(intOf v).toNat) ?_ ?_
     ·exact ⟨0,abB _,rfl,rfl,hh⟩
     ·clear hh;rintro ρ' v w' ⟨i,hi,rfl,hall,hh⟩;by_cases hlt:i<m
      ·obtain ⟨x,hx⟩:=ai (l:=dg) (k:=i) abq;obtain ⟨y,hy⟩:=ai (l:=ds) (k:=i) abq;have hz:=Js hx hy;have hx2:=cM hx;have hy2:=cM hy;have hll:(bh dg).length=m:=by rw [cq];exact hgl
       obtain ⟨ad,rfl,hr⟩:=hD.at_ abq;obtain ⟨g0,rfl⟩:=hh.bP (i:=0) rfl abq;by_cases hxy:y<x
       ·refine aj ?_;refine lF ?_;refine aj ?_;refine Dt ?_;refine aj ?_;rw [abx (by rw [hbd];exact adg.2 ⟨_,abz hz,abQ (.inl hxy)⟩)];exact ⟨rfl,hh.below⟩
       ·by_cases hy7:127<y
        ·refine aj ?_;refine lF ?_;refine aj ?_;refine Dt ?_;refine aj ?_;refine Dt ?_;refine aj ?_;rw [abx (by rw [hbd];exact adg.2 ⟨_,abz hz,abQ (.inr hy7)⟩)];exact ⟨rfl,hh.below⟩
        ·refine aj ?_;refine lF ?_;refine aj ?_;refine Dt ?_;refine aj ?_;refine Dt ?_;refine aj ?_;refine ⟨⟨i+1,abq,rfl,by rw [al hz,aeg,hall,aef,aex,abR (fun h=>h.elim hxy hy7)];rfl,hh⟩,by show m-(i+1)<m-i;omega, ?_⟩;exact dI
      ·rw [abG abq] at hall;rw [abw (by rw [hbd,hall];decide)];have hcn:=fun w1 hb=>fk M m mc ds w1 (hD.ext hb) hm;refine aj ?_;by_cases h9:iZ 1 ds=0
       ·rw [abx h9];rw [h9] at hcn;refine aZ hh (hcn _ hh.below) rfl ?_;intro w56 hh;refine aj ?_;exact ⟨rfl,hh.below⟩
       ·rw [abw h9];generalize iZ 1 ds=N at*;refine aZ hh (hcn _ hh.below) rfl ?_;intro w56 hh;refine aj ?_;exact ⟨rfl,hh.below⟩
theorem MU {q:List TR} (h:65536<p.length*q.length):gH p q=3:=by unfold gH;rw [abx h]
theorem QA {q:List TR}{e:Int} (h6:¬65536<p.length*q.length) {a b:List Int} (h:xo p q=a++e::b) (ha:∀x∈a,x=0) (he:e≠0):gH p q=e:=by
 unfold gH;rw [abw h6,h,List.find?_append,j8 (ac9.2 fun x hx=>by simp [ha x hx]),List.find?_cons_of_pos (p:=fun e:Int=>decide (e≠0)) (by simpa using he)]
 rfl
theorem NW {q:List TR} (h6:¬65536<p.length*q.length) (h:∀x∈xo p q,x=0):gH p q=gZ (cj p q):=by
 unfold gH gZ;rw [abw h6,j8 (ac9.2 fun x hx=>by simp [h x hx])]
theorem AD (p q:PX) (k k2:Nat) (w:World) (hT:dq w) (hp:p.at_ w) (hq:q.at_ w) (lp:p.jz k) (lq:q.jz k2) (hk:k+k2≤900000):
  Calls Tryz.prog 254 #[.agg #[.int .i64 p.v,.slice p.A p.n p.c],.agg #[.int .i64 q.v,.slice q.A q.n q.c]] w fun r w'=>∃g:PX,iy (gH p.ts q.ts) p.v (aA (cj p.ts q.ts)) g∧r=.returned (.tuple #[.agg #[.int .i64 g.v,.slice g.A g.n g.c],.int .i64 (gH p.ts q.ts)])∧Hp w [g.row] w':=by
 have hh:=Hp.start w;obtain ⟨pv,pA,pn,pc,ps⟩:=p;obtain ⟨qv,qA,qn,qc,qs⟩:=q;have hpl:ps.length=pn:=hp.ln;have hql:qs.length=qn:=hq.ln;have hpn:pn≤1000000:=lp.n;have hqn:qn≤1000000:=lq.n;have okp:iO k ps:=lp.ok;have okq:iO k2 qs:=lq.ok;have szp:∀t∈ps,t.m.size≤100000:=lp.sz;have szq:∀t∈qs,t.m.size≤100000:=lq.sz;replace hp:Sl w pA pn 4 (ar TR.cells ps):=hp;replace hq:Sl w qA qn 4 (ar TR.cells qs):=hq;clear lp lq;show Calls _ _ _ _ fun r w'=>∃g:PX,iy (gH ps qs) pv (aA (cj ps qs)) g∧r=.returned (.tuple #[.agg #[.int .i64 g.v,.slice g.A g.n g.c],.int .i64 (gH ps qs)])∧Hp w [g.row] w';have hmm:pn*qn≤1000000*1000000:=acR hpn hqn;obtain ⟨m,hm⟩:∃m,m=pn*qn:=⟨_,rfl⟩;have hmi:(pn:Int)*(qn:Int)=(m:Int):=by rw [hm];exact (acK _ _).symm
 by_cases h6:65536<m
 ·rw [MU (by rw [hpl,hql,←hm];exact h6)];refine ae (N:=67) (l:=[.agg #[.int .i64 pv,.slice pA pn pc],.agg #[.int .i64 qv,.slice qA qn qc]]) Tryz.func254 rfl rfl (by simp) ?_;refine xQ ?_;intro b2 w2 hh b3 w3 hh b4 w4 hh ws hh;exact Qp
 ·have hbig:¬65536<ps.length*qs.length:=by rw [hpl,hql,←hm];exact h6
  refine ae (N:=67) (l:=[.agg #[.int .i64 pv,.slice pA pn pc],.agg #[.int .i64 qv,.slice qA qn qc]]) Tryz.func254 rfl rfl (by simp) ?_;refine lK ?_;intro b2 w2 hh b3 w3 hh b4 w4 hh;replace hh:=hh.cJ 95 4;have hall:∀i,((ps.take i).flatMap fun x=>qs.map (sS x)).length≤65536:=fun i=>by
   have h1:(cj ps qs).length=((ps.take i).flatMap fun x=>qs.map (sS x)).length+((ps.drop i).flatMap fun x=>qs.map (sS x)).length:=by
    unfold cj;rw [←abJ,←ad9,acH]
   rw [ph] at h1;omega
  refine bk [5,6,8,10,11,12,25,26,27,28,29,30,31,32,33,34,35,36,37,38,39,40,41,42,43,44,45,46,47,48,49,50,51,52,53,54,55,56,57,58,59,60] 6 25
   (fun a x w'=>∃(i:Nat) (M:List TR) (A':Option Addr) (c':Nat),i≤pn∧x=.int .i64 i∧a=.slice A' M.length c'∧M=((ps.take i).flatMap fun x=>qs.map (sS x))∧(∀e∈((ps.take i).flatMap fun x=>qs.map fun y=>qB x.m y.m),e=0)∧Hp w [.row A' M.length c' 95 4 (ar TR.cells M),.blk b4 52 [.int .i64 0,.slice none 0 0] (0,0),.blk b3 52 [.int .i64 qv,.slice qA qn qc] (0,0),.blk b2 52 [.int .i64 pv,.slice pA pn pc] (0,0)] w')
   (fun _ x _=>pn-(intOf x).toNat) ?_ ?_
  ·exact ⟨0,[],none,0,abB _,rfl,rfl,rfl,fun e he=>(nomatch he),hh⟩
  ·clear hh;rintro ρ' a_ x_ w' ⟨i,M,A',c',hi,rfl,rfl,hM,hz,hh⟩;have hMl:=hall i;rw [←hM] at hMl;by_cases hlt:i<pn
   ·obtain ⟨x,hx⟩:=ai (l:=ps) (k:=i) abq;obtain ⟨ad,rfl,hr⟩:=hp.at_ abq;have hxm:=abz hx;have hxo:=okp x hxm;have hxs:=szp x hxm;refine aj ?_;refine qj ?_;refine bX ?_;intro b8 w8 hh ws hh;replace hh:=hh.perm (acf (l₁:=[_]));simp only [abE,abC] at hh;refine bk [5,6,10,11,12,32,33,34,35,36,37,38,39,40,41,42,43,44,45,46,47,48,49,50,51,52,53,54,55,56,57,58,59] 6 32
     (fun a z w'=>∃(j:Nat) (N:List TR) (A':Option Addr) (c':Nat),j≤qn∧z=.int .i64 j∧a=.slice A' N.length c'∧N=M++(qs.take j).map (sS x)∧(∀e∈(qs.take j).map (fun y=>qB x.m y.m),e=0)∧Hp w [.row A' N.length c' 95 4 (ar TR.cells N),.blk b8 95 [.string x.m,.bool x.c.neg,.string x.c.aO,.int .i64 x.c.e] (0,0),.blk b4 52 [.int .i64 0,.slice none 0 0] (0,0),.blk b3 52 [.int .i64 qv,.slice qA qn qc] (0,0),.blk b2 52 [.int .i64 pv,.slice (some ad) pn pc] (0,0)] w')
     (fun _ z _=>qn-(intOf z).toNat) ?_ ?_
    ·refine ⟨0,M,A',c',abB _,rfl,rfl,by simp,fun e he=>(nomatch he),hh⟩
    ·clear hh;rintro ρ2 a2 x2 w2 ⟨j,N,A2,c2,hj,rfl,rfl,hN,hz2,hh⟩;by_cases hjn:j<qn
     ·obtain ⟨y,hy⟩:=ai (l:=qs) (k:=j) abq;obtain ⟨ad2,rfl,hr2⟩:=hq.at_ abq;have hym:=abz hy;have hyo:=okq y hym;have hys:=szq y hym;have hmul:∀w1,Calls Tryz.prog 257 #[.string x.m,.string y.m] w1 fun r w'=>r=.returned (.tuple #[.string (mulM x.m y.m),.int .i64 (qB x.m y.m)])∧Below w1.heap.size w1 w':=fun w1=>LG x.m y.m w1 hxs hys;have hdm:=fun A cc w1 hT1 hS1=>eC A 2 cc [x.c,y.c] w1 hT1 hS1 (by simpa using ⟨hxo.1,hyo.1⟩) (k+k2) (by simpa using ⟨hxo.2.mono abq,hyo.2.mono abq⟩) abq abr;rw [show gO ([x.c,y.c].map NR.d)=x.c.d*y.c.d by show 1*x.c.d*y.c.d=_;rw [adq]] at hdm;obtain ⟨R,hR⟩:=GM (f:=fun x y=>qB x.m y.m) hx hy;have hzz:∀e∈((ps.take i).flatMap fun x=>qs.map fun y=>qB x.m y.m)++(qs.take j).map (fun y=>qB x.m y.m),e=0:=fun e he=>by
       rcases acq.1 he with he|he
       ·exact hz e he
       ·exact hz2 e he
      have hNl:N.length<65536:=by
       have h1:=hall (i+1);rw [tN hx,abJ,←hM] at h1;rw [hN,abJ];simp at h1 ⊢;omega
      by_cases he:qB x.m y.m=0
      ·refine aj ?_;refine bF (vs:=[_,_,_,_]) az.out rfl ((hr2.ext hh.below).recAt TR.len hy) rfl abr ?_;refine bX ?_;intro b10 w10 hh ws hh;refine aZ hh (hmul _) rfl ?_;intro w41 hh;refine aj ?_;refine qd ?_;intro b54 w54 hh;refine aZ hh (hdm _ _ _ (hT.hp hh) (hh.ao (i:=0) rfl)) rfl ?_;intro w55 hh;refine aj ?_;refine Ev ?_;intro b57 w57 hh;refine Tl ?_;intro A58 c58 w58 hh;simp only [abK,ab9] at hh;replace hh:=hh.sub (acn _ _);refine aj ?_;have e1:ar TR.cells N++[.string (mulM x.m y.m),.bool (nR (x.c.d*y.c.d)).neg,.string (nR (x.c.d*y.c.d)).aO,.int .i64 (nR (x.c.d*y.c.d)).e]=ar TR.cells (N++[sS x y]):=by rw [bo,mD];rfl
       replace hh:=show Hp w (_::_::.row A58 (N.length+1) c58 95 4 (ar TR.cells N++[.string (mulM x.m y.m),.bool (nR (x.c.d*y.c.d)).neg,.string (nR (x.c.d*y.c.d)).aO,.int .i64 (nR (x.c.d*y.c.d)).e])::_) w58 from hh;rw [e1] at hh;replace hh:=hh.sub (abA _ (abA _ (aby _ (aby _ (aby _ (aby _ (aby _ abV)))))));refine ⟨⟨j+1,N++[sS x y],_,_,abq,rfl,by rw [abJ];rfl,by rw [hN,al hy,acM,acb];rfl,fun e h=> ?_, ?_⟩,by show qn-(j+1)<qn-j;omega, ?_⟩
       ·rw [al hy,acM,acq] at h
        rcases h with h|h
        ·exact hz2 e h
        ·rw [abX.1 h];exact he
       ·rw [abJ];exact hh
       ·exact dI
      ·rw [QA hbig hR hzz he];generalize qB x.m y.m=e at*;refine aj ?_;refine bF (vs:=[_,_,_,_]) az.out rfl ((hr2.ext hh.below).recAt TR.len hy) rfl abr ?_;refine bX ?_;intro b10 w10 hh ws hh;refine aZ hh (hmul _) rfl ?_;intro w41 hh;refine bT ?_;intro ws hh;refine Pb ?_;exact VD
     ·obtain rfl:j=qn:=abq;rw [abG abq] at hz2 hN;refine aj ?_;replace hh:=hh.sub (aby _ (abA _ (aby _ (aby _ (aby _ abV)))));refine ⟨⟨i+1,N,A2,c2,abq,rfl,rfl,by rw [tN hx,←hM,abG abq];exact hN,fun e h=> ?_,hh⟩,by show pn-(i+1)<pn-i;omega, ?_⟩
      ·rw [tN (f:=fun (x y:TR)=>qB x.m y.m) hx,acq,aez] at h
       rcases h with h|h
       ·exact hz e h
       ·exact hz2 e h
      ·exact dI
   ·obtain rfl:i=pn:=abq;rw [abG abq] at hz hM;have hMp:M=cj ps qs:=hM;rw [NW hbig hz,←hMp];have hpo:=rg okp okq abq;rw [←hMp] at hpo;refine aj ?_;refine au (lO pv A' M.length c' M (k+k2) _ hT hh rfl abq abq hpo) ak.out rfl abr ?_;rintro e_ w64 ⟨g,og,rfl,hh⟩;refine ⟨_,rfl, ?_⟩;exact Pk
variable {E:Int}{base:Nat}{w1:World}
def nL (base:Nat) (E v:Int) (ts:List TR):VP:=fun x W=>∃(g:PX) (w1:World),x=.agg #[.int .i64 g.v,.slice g.A g.n g.c]∧iy E v ts g∧base≤w1.heap.size∧Hp w1 [g.row] W
theorem nL.ext {v:Int} (x:Value) (w w':World) (h:nL base E v ts x w) (hb:Below w.heap.size w w'):nL base E v ts x w':=let ⟨g,w1,h1,h2,h3,h4⟩:=h;⟨g,w1,h1,h2,h3,h4.ext hb⟩
def oH (base:Nat) (E v:Int) (ts:List TR):VP:=fun x W=>∃(g:PX) (w1:World),x=.tuple #[.agg #[.int .i64 g.v,.slice g.A g.n g.c],.int .i64 E]∧iy E v ts g∧base≤w1.heap.size∧Hp w1 [g.row] W
theorem oH.ext {v:Int} (x:Value) (w w':World) (h:oH base E v ts x w) (hb:Below w.heap.size w w'):oH base E v ts x w':=let ⟨g,w1,h1,h2,h3,h4⟩:=h;⟨g,w1,h1,h2,h3,h4.ext hb⟩
def Ex (base:Nat) (v:Int) (ts:List TR):VP:=fun x W=>∃(g:PX) (w1:World),x=.slice g.A g.n g.c∧iy 0 v ts g∧base≤w1.heap.size∧Hp w1 [g.row] W
theorem Ex.ext {v:Int} (x:Value) (w w':World) (h:Ex base v ts x w) (hb:Below w.heap.size w w'):Ex base v ts x w':=let ⟨g,w1,h1,h2,h3,h4⟩:=h;⟨g,w1,h1,h2,h3,h4.ext hb⟩
theorem PX.ne {g:PX}{t:TypeId}{cs:Array Value} (h:Hp w1 [g.row] W) (h3:W.heap[b]?=some (.cells cs t fz)) (h1:95≠t):∀x∈[g.row],x.id≠some b:=fun x hx=>by
 have hx2:=h.own x hx;obtain rfl:=abX.1 hx;exact x7 hx2 h3 h1
def ko (a:List TR×Int) (g:PX):List TR×Int:=if a.2=0 then (aA (cj a.1 g.ts),gH a.1 g.ts) else a
def Xr (ps:List PX):List TR×Int:=match ps with|[]=>([],0)|g::l=>l.foldl ko (g.ts,0)
def Iu (ps:List PX):Int:=if ic ps=0 then (Xr ps).2 else ic ps
theorem DU {a:List TR×Int} (h:a.2≠0):∀l:List PX,l.foldl ko a=a
 |[]=>rfl
 |g::l=>by
  rw [ad8,show ko a g=a by unfold ko;rw [abw h]];exact DU h l
theorem JX {l:List PX}{a:List TR×Int}{i:Nat}{g:PX} (hx:l[i]?=some g) (h0:((l.take i).foldl ko a).2=0) (h:gH ((l.take i).foldl ko a).1 g.ts≠0):(l.foldl ko a).2=gH ((l.take i).foldl ko a).1 g.ts:=by
 have e:l=l.take i++g::l.drop (i+1):=by rw [←gk hx,acH]
 have e2:l.foldl ko a=(l.drop (i+1)).foldl ko (ko ((l.take i).foldl ko a) g):=by
  conv=>lhs;rw [e]
  rw [aeJ,ad8]
 rw [e2];have e3:ko ((l.take i).foldl ko a) g=(aA (cj ((l.take i).foldl ko a).1 g.ts),gH ((l.take i).foldl ko a).1 g.ts):=abx h0;rw [e3,DU h]
theorem KL {l:List PX}{a:List TR×Int}{i:Nat}{g:PX} (hx:l[i]?=some g) (h0:((l.take i).foldl ko a).2=0):(l.take (i+1)).foldl ko a=(aA (cj ((l.take i).foldl ko a).1 g.ts),gH ((l.take i).foldl ko a).1 g.ts):=by
 rw [al hx,aeJ,ad8,List.foldl_nil];exact abx h0
theorem Jz {q:List TR} (hp:iO k p) (hq:iO j q) (sq:∀t∈q,t.m.size≤100000) (h:gH p q=0) (hk:k+j≤900000):iO (k+j+65536) (aA (cj p q))∧∀t∈aA (cj p q),t.m.size≤100000:=by
 obtain ⟨h6,_,h4⟩:=l9 h;have ho:=rg hp hq abq;have hz:=pk fun t ht=>(ho t ht).2;rw [ph] at hz;refine ⟨fun t ht=> ?_,fun t ht=> ?_⟩
 ·have:Sz (k+j+65536) t.c.d:=(hz t ht).mono abq;refine ⟨?_,this⟩;rw [(gF _).nf t ht];exact this.ok abq
 ·obtain ⟨s,hs,e⟩:=lu t ht;obtain ⟨x,hx,hs⟩:=ade.1 hs;obtain ⟨y,hy,rfl⟩:=abL.1 hs;rw [←e];exact abW (Kr _ _) (sq y hy)
theorem Cv (L:Option Addr) (n c:Nat) (ps:List PX) (k s:Nat) (w:World) (hT:dq w) (hL:Sl w L n 2 (ar PX.cells ps)) (hcn:n≤c) (hn:n≤8) (hf:∀g∈ps,g.at_ w) (hl:∀g∈ps,g.jz k) (hs:k+65536≤s) (hk:k+k+(n-2)*s≤900000):
  Calls Tryz.prog 248 #[.slice L n c] w fun r w'=>∃g:PX,iy (Iu ps) (ir ps) (Xr ps).1 g∧r=.returned (.tuple #[.agg #[.int .i64 g.v,.slice g.A g.n g.c],.int .i64 (Iu ps)])∧Hp w [g.row] w':=by
 have hh:=Hp.start w;have hln:=hL.aX PX.len abr;have hlk:=fun w1 hT1 hb=>uo L n c ps k w1 hT1 (hL.ext hb) abq (fun g hg=>(hf g hg).ext hb) hl;unfold Iu;by_cases h0:ic ps=0
 ·rw [abx h0];rw [h0] at hlk;obtain ⟨hne,uQ,hvv⟩:=BM h0;obtain ⟨g0,pt,rfl⟩:=List.exists_cons_of_ne_nil hne;rw [oe (g:=g0) rfl];have hnp:pt.length+1=n:=hln;obtain ⟨ad,rfl,hr⟩:=hL.at_ abq;have hm0:g0∈g0::pt:=abF;have hg0:=hl g0 hm0;have h00:(g0::pt)[0]?=some g0:=rfl;show Calls _ _ _ _ fun r w'=>∃g:PX,iy (pt.foldl ko (g0.ts,0)).2 g0.v (pt.foldl ko (g0.ts,0)).1 g∧r=.returned (.tuple #[.agg #[.int .i64 g.v,.slice g.A g.n g.c],.int .i64 (pt.foldl ko (g0.ts,0)).2])∧Hp w [g.row] w';refine ae (N:=46) (l:=[.slice (some ad) n c]) Tryz.func248 rfl rfl (by simp) ?_;refine bT ?_;intro b2 w2 hh;refine zN ?_;intro w11 hh;refine aj ?_;refine aC 11 [[(0,none)],[(16,some 0)],[(17,some 1)],[(18,some 2)],[(0,none)],[(20,some 4)],[(21,some 5)],[(22,some 6)],[(23,some 7)],[(19,some 3),(24,some 8)],[]] [(10,5),(9,25),(8,24),(7,23),(6,22),(5,21),(4,20),(3,19),(2,18),(1,17),(0,16)] hh mixed abt ?_;refine fO ?_;refine mU (0) ?_;refine CB ?_;refine yY (fun _ hj=>bL hj.hp.below ((hr.recAt PX.len h00) 0 _ rfl)) ?_;refine fO ?_;refine mU (0) ?_;refine CB ?_
  refine yY (fun _ hj=>bL hj.hp.below ((hr.recAt PX.len h00) 1 _ rfl)) ?_;refine aW (i:=8) (Ex w11.heap.size g0.v g0.ts) (Ex.ext) ?_ ?_
  ·intro ρ1 w1 hj hR;exact bp rfl (aR ak.out (aq (show ρ1 23=Value.slice _ _ _ from hR.1) aY)) (mV g0.A g0.n g0.c g0.ts w1 ((hf g0 hm0).ext hj.hp.below) hg0.n) (fun _ _ ⟨A,c,hq,ho,hb⟩=>⟨_,hq,hb,⟨g0.v,A,g0.n,c,g0.ts⟩,w1,rfl,⟨rfl,rfl⟩,hj.bl.size,(Hp.start w1).aD (x:=.row _ _ _ _ _ _) hb ho⟩)
  refine aW (i:=9) (nL w11.heap.size 0 g0.v g0.ts) (nL.ext) ?_ ?_
  ·intro ρ1 w1 hj hR;exact let ⟨g,u,e,o,q,h⟩:=hR.2.1;cY rfl (ng (cs:=[_,_]) az.out kg.out (bC (show ρ1 19=Value.int _ _ from hR.1) (bC e dk)) rfl) ⟨Below.refl _ _,g,u,by rw [show g.v=g0.v from o.v],o,q,h⟩
  refine aW (i:=10) (cd _ 52 _) cd.ext (fun ρ1 w1 hj hR=>iP az.out hj.bl (fun v w2 h hb=>⟨hb,h⟩)) ?_;refine av ?_;intro f W hJ hV;have hb_4:=hJ.bl;obtain ⟨v5,v25,v24,v23,v22,v21,v20,v19,v18,v17,v16,_⟩:=hV;obtain ⟨g24,u24,e24, -⟩:=v24;obtain ⟨g25,u25,e25,o25,q25,h25⟩:=v25;obtain ⟨b5,e5,hl5,hc5⟩:cd _ _ _ (f 10) W:=v5;replace hh:=hJ.k4 hh hl5 hc5 q25 h25 (PX.ne h25 hc5 abr);refine ay (aQ (aa e5 (aa e25 (aa e24 (aa v23 (aa v22 (aa v21 (aa v20 (aa v19 (aa v18 (aa v17 (aa v16 aw)))))))))))) ?_;dsimp only [bA];clear e24 e25 e5 hJ;simp only [abE,abC] at hh;obtain ⟨gv,gA,gn,gc,gts⟩:=g25;obtain rfl:g0.v=gv:=o25.v.symm;obtain rfl:g0.ts=gts:=o25.ts.symm;replace hh:=show Hp w (_::.row gA gn gc 95 4 (ar TR.cells g0.ts)::_) W from hh;have hgn:g0.ts.length=gn:=(hh.ao (i:=1) rfl).aX TR.len abr;have hgc:gn≤gc:=hh.gN (i:=1) rfl;refine bT ?_;intro ws hh;refine aM rfl rfl abr (gJ bq.out az.size rfl rfl (l:=1) rfl abq abq) ?_;refine aj ?_;replace hh:=hh.perm (acf (l₁:=[_]));simp only [abE,abC] at hh
  refine aH [3,7,8,9,29,30,31,32,33,34,35,36,37,38,39,40,41,42,43,44] 29
   (fun v w'=>∃(i:Nat) (g:PX),i≤n-1∧v=.int .i64 i∧((pt.take i).foldl ko (g0.ts,0)).2=0∧g.v=g0.v∧g.ts=((pt.take i).foldl ko (g0.ts,0)).1∧g.jz (k+i*s)∧Hp w [.row g.A g.n g.c 95 4 (ar TR.cells g.ts),.blk b5 52 [.int .i64 g.v,.slice g.A g.n g.c] (0,0),.blk b2 52 [.int .i64 0,.slice none 0 0] (0,0)] w')
   (fun v _=>n-1-(intOf v).toNat) ?_ ?_
  ·exact ⟨0,⟨g0.v,gA,gn,gc,g0.ts⟩,abB _,rfl,rfl,rfl,rfl,⟨by show gn≤1000000;have:=hg0.n;have h9:=(hf g0 hm0).ln;omega,hgc,hg0.ok.mono (by rw [ad4];omega),hg0.sz⟩,hh⟩
  ·clear hh;rintro ρ' v w' ⟨i,g,hi,rfl,hz,hgv,hts,hgl,hh⟩;by_cases hlt:i<n-1
   ·obtain ⟨f,hx⟩:=ai (l:=pt) (k:=i) abq;have hmem:f∈g0::pt:=abN _ (abz hx);have his:i*s≤(n-2)*s:=acx _ abq;have his1:=acD i s;have hbk:Sl w (if c=1 then some ad else (some ad:Option Addr).map (·.add (1*2))) (n-1) 2 (ar PX.cells pt):=hL.back abq hcn;obtain ⟨ab,hAb,sb⟩:=hbk.at_ abq;have uQ:Value.slice (if c=1 then some ad else (some ad:Option Addr).map (·.add (1*2))) (n-1) (c-1)=.slice (some ab) (n-1) (c-1):=by rw [hAb]
    have hfl:=hl f hmem;have hnx:=KL (a:=(g0.ts,0)) hx hz;have hsp:=JX (a:=(g0.ts,0)) hx hz;rw [←hts] at hnx hsp;refine aj ?_;refine du (k:=i) bq.out az.size uQ rfl abq abq abr ?_;refine bF (vs:=[_,_]) az.out rfl (show Rd _ _ [.int .i64 f.v,.slice f.A f.n f.c] from (sb.ext hh.below).recAt PX.len hx) rfl abr ?_;refine bX ?_;intro b7 w7 hh ws hh;refine au (AD g f (k+i*s) k _ (hT.hp hh) (hh.ao (i:=1) rfl) ((hf f hmem).ext hh.below) hgl hfl abq) ak.out rfl abr ?_;rintro e_ w36 ⟨h,oh,rfl,h3⟩;refine ⟨_,rfl, ?_⟩;replace hh:=hh.join h3;simp only [abE,abC] at hh;by_cases he:gH g.ts f.ts=0
    ·obtain ⟨hv,hA,hn2,hc2,hts2⟩:=h;rw [he] at oh;obtain rfl:g.v=hv:=oh.v.symm;obtain rfl:aA (cj g.ts f.ts)=hts2:=oh.ts.symm;replace hh:=show Hp w (.row hA hn2 hc2 95 4 (ar TR.cells (aA (cj g.ts f.ts)))::_) w36 from hh;have hhn:(aA (cj g.ts f.ts)).length=hn2:=(hh.ao (i:=0) rfl).aX TR.len abr;have hhc:hn2≤hc2:=hh.gN (i:=0) rfl;have h4:=(l9 he).2.2;have htl:=Jz hgl.ok hfl.ok hfl.sz he abq;refine lK ?_;intro b8 w8 hh ws hh ws hh;replace hh:=hh.sub (abA _ (aby _ (abA _ (abA _ (aby _ (aby _ abV))))));refine ⟨⟨i+1,⟨g.v,hA,hn2,hc2,aA (cj g.ts f.ts)⟩,abq,rfl,by rw [hnx];exact he,hgv,by rw [hnx],⟨by show hn2≤1000000;omega,hhc,htl.1.mono (by rw [acD];omega),htl.2⟩,hh⟩,by show n-1-(i+1)<n-1-i;omega, ?_⟩;exact dI
    ·rw [hsp he];refine lK ?_;intro b8 w8 hh ws hh ws hh;refine GD (bI rfl (bJ (vs:=[_,_]) az.out (hh.aE (i:=5) (n:=2) rfl rfl) rfl) (dQ (eL rfl) cR)) ?_;exact VD
   ·obtain rfl:i=n-1:=abq;rw [abG abq] at hz hts;refine bT ?_;intro ws hh;refine qg ?_;rw [hz];exact ⟨g,⟨hgv,hts⟩,rfl,hh.sub (aby _ (acA _))⟩
 ·rw [abw h0];generalize ic ps=e at*;refine ae (N:=46) (l:=[.slice L n c]) Tryz.func248 rfl rfl (by simp) ?_;refine bT ?_;intro b2 w2 hh;refine zN ?_;intro w11 hh;exact Rt
theorem tJ {x:TR} (b:List TR):∀{a:List TR},(∀t∈a,iU t.m x.m=true)→iT (a++b) x=a++iT b x
 |[],_=>rfl
 |t::a,h=>by
  rw [abE,iT,abx (h t abF),tJ b fun s hs=>h s (abN _ hs)]
  rfl
theorem MH {x:TR}{l:List TR} (h:∀t∈l,iU t.m x.m=true):iT l x=l++[⟨x.m,nR x.c.d⟩]:=by
 have:=tJ [] h;rwa [acg] at this
theorem SP {x t:TR}{l:List TR}{i:Nat} (hx:l[i]?=some t) (h:∀s∈l.take i,iU s.m x.m=true) (h1:iU t.m x.m=false):iT l x=if t.m=x.m then l.take i++⟨x.m,nR (t.c.d+x.c.d)⟩::l.drop (i+1) else l.take i++⟨x.m,nR x.c.d⟩::l.drop i:=by
 have e:l=l.take i++t::l.drop (i+1):=by rw [←gk hx,acH]
 have e2:iT l x=l.take i++iT (t::l.drop (i+1)) x:=by
  conv=>lhs;rw [e]
  exact tJ _ h
 rw [e2,iT,abw (by rw [h1];decide),gk hx];by_cases he:t.m=x.m
 ·rw [abx he,abw (by rw [he,iu];decide)]
 ·rw [abw he,abx]
  cases h2:iU x.m t.m with
  |true=>rfl
  |false=>exact absurd (pC h1 h2) he
theorem FU (A:Option Addr) (n c:Nat) (l:List TR) (x:TR) (w:World) (hS:Sl w A n 4 (ar TR.cells l)) (hcn:n≤c) (hn:n≤1000000) (ho:∀t∈l,t.c.ok) (hx:x.c.ok):
  Calls Tryz.prog 164 #[.slice A n c,.agg #[.string x.m,.bool x.c.neg,.string x.c.aO,.int .i64 x.c.e]] w fun r w'=>∃A' c',r=.returned (.slice A' (iT l x).length c')∧Hp w [.row A' (iT l x).length c' 95 4 (ar TR.cells (iT l x))] w':=by
 have hh:=Hp.start w;have hln:=hS.aX TR.len abr;have hfo:=fun w1=>ow x.c w1 (by have:=hx.1;omega) (by have:=hx.2.1;omega) (by have:=hx.2.2;omega);refine ae (N:=76) (l:=[.slice A n c,.agg #[.string x.m,.bool x.c.neg,.string x.c.aO,.int .i64 x.c.e]]) Tryz.func164 rfl rfl (by simp) ?_;refine bT ?_;intro b3 w3 hh;refine aH [5,7,8,9,10,11,12,13,14,15,16,17,18,19,20,21,22] 5
  (fun v w'=>∃i:Nat,i≤n∧v=.int .i64 i∧(∀t∈l.take i,iU t.m x.m=true)∧Hp w [.blk b3 95 [.string x.m,.bool x.c.neg,.string x.c.aO,.int .i64 x.c.e] (0,0)] w')
  (fun v _=>n-(intOf v).toNat) ?_ ?_
 ·exact ⟨0,abB _,rfl,fun t ht=>(nomatch ht),hh⟩
 ·clear hh;rintro ρ' v w' ⟨i,hi,rfl,hall,hh⟩;by_cases hlt:i<n
  ·obtain ⟨t,ht⟩:=ai (l:=l) (k:=i) abq;obtain ⟨ad,rfl,hr⟩:=hS.at_ abq;have hto:=ho t (abz ht)
   cases hl:iU t.m x.m with
   |true=>
    have hbl:Op.bytesLess t.m.toList x.m.toList=true:=by rw [mO,hl]
    refine aj ?_;refine MA ?_;refine dp ?_;refine fO ?_;refine pY ?_;refine AG ?_;refine ml ?_;refine dG (fO ?_);refine dG (dp ?_);refine dG (mU (i) ?_);refine dG (CB ?_);refine Jc ?_;refine dG (dw ?_);refine dG (fF 0 ?_);refine av ?_;intro f W hJ hV;have hb_2:=hJ.bl;obtain ⟨v18,v17,v16,v15,v14,v13,v12,v11,v10,v9,v8,v7,_⟩:=hV;replace hh:=hJ.hp;refine O9 ?_;dsimp only [bA];clear hJ;refine gT ?_;refine td rfl rfl abr ?_;refine aj ?_;rw [hbl];refine aj ?_;refine ⟨⟨i+1,abq,rfl,fun s hs=> ?_,hh⟩,by show n-(i+1)<n-i;omega, ?_⟩
    ·rw [al ht] at hs
     rcases acq.1 hs with hs|hs
     ·exact hall s hs
     ·rw [abX.1 hs];exact hl
    ·exact dI
   |false=>
    have hbl:Op.bytesLess t.m.toList x.m.toList=false:=by rw [mO,hl]
    have hput:=SP ht hall hl;have hS1:=hS.front (m:=i) abq;rw [show (ar TR.cells l).take (i*4)=ar TR.cells (l.take i) from j6 TR.len l i] at hS1;have o1:=bj TR.one (l.take i);refine aj ?_;refine MA ?_;refine dp ?_;refine fO ?_;refine pY ?_;refine AG ?_;refine ml ?_;refine dG (fO ?_);refine dG (dp ?_);refine dG (mU (i) ?_);refine dG (CB ?_);refine Jc ?_;refine dG (dw ?_);refine dG (fF 0 ?_);refine av ?_;intro f W hJ hV;have hb_2:=hJ.bl;obtain ⟨v18,v17,v16,v15,v14,v13,v12,v11,v10,v9,v8,v7,_⟩:=hV;replace hh:=hJ.hp;refine O9 ?_;dsimp only [bA];clear hJ;refine gT ?_;refine td rfl rfl abr ?_;refine aj ?_;rw [hbl];refine aj ?_;refine EF ?_;intro b23 w23 hh;refine aj ?_;refine PH ?_;refine bQ hh (i:=0) rfl rfl rfl (hS1.ext hh.below) bq.out az.out rfl abr ?one10 abq abq abr ?kk10
    case one10=>first|rfl|assumption|exact bg _|exact oneCells_u8s _
    intro A27 c27 w27 hh;simp only [abK] at hh;refine aj ?_;have hpl:=fun w1=>DY t.c x.c w1 hto hx;by_cases he:t.m=x.m
    ·rw [abx he] at hput;have hS2:=hS.back (l:=i+1) abq hcn;rw [show (ar TR.cells l).drop ((i+1)*4)=ar TR.cells (l.drop (i+1)) from jj TR.len l (i+1)] at hS2;have o2:=bj TR.one (l.drop (i+1));refine OZ ?_;refine dp ?_;refine fO ?_;refine pY ?_;refine AG ?_;refine ml ?_;refine dG (fO ?_);refine dG (dp ?_);refine dG (mU (i) ?_);refine dG (CB ?_);refine Jc ?_;refine dG (dw ?_);refine dG (fF 1 ?_);refine av ?_;intro f W hJ hV;have hb_5:=hJ.bl;obtain ⟨v39,v38,v37,v36,v35,v34,v33,v32,v31,v30,v29,v28,_⟩:=hV;replace hh:=hJ.hp;refine NV ?_;dsimp only [bA];clear hJ;refine gT ?_
     (first|refine jv rfl rfl (by first|rfl|assumption|decide) abr ?_|refine ju rfl rfl (by first|assumption|decide) abr ?_)
     refine aj ?_;refine aC 13 [[(6,none)],[(3,none)],[(43,some 1)],[(0,none)],[(5,none)],[(45,some 3),(46,some 4)],[(47,some 5)],[(48,some 6)],[(3,none)],[(50,some 8)],[(49,some 7),(51,some 9)],[(44,some 2),(52,some 10)],[(53,some 11)]] [(12,54),(11,53),(10,52),(9,51),(8,50),(7,49),(6,48),(5,47),(4,46),(3,45),(2,44),(1,43),(0,42)] hh mixed abt ?_;refine fO ?_;refine dw ?_;refine fF 1 ?_;refine fO ?_;refine dp ?_;refine mU (i) ?_;refine CB ?_;refine p9 [_,_,_] (fun _ hj=>((hr.ext hj.hp.below).recAt TR.len ht).drop 1) ?_;refine dw ?_;refine da 1 [_,_,_] ?_;refine dC (fun _ hj=>hpl _) ?_;refine dB [_,_,_,_] ?_;refine uW [_,_,_,_] ?_;refine av ?_;intro f W hJ hV;have hb_6:=hJ.bl;obtain ⟨v54,v53,v52,v51,v50,v49,v48,v47,v46,v45,v44,v43,v42,_⟩:=hV;obtain ⟨A54,c54,e54,f54⟩:Rows _ _ _ (f 12) W:=v54;replace hh:=hJ.hp;refine ay (aQ (aa e54 (aa v53 (aa v52 (aa v51 (aa v50 (aa v49 (aa v48 (aa v47 (aa v46 (aa v45 (aa v44 (aa v43 (aa v42 aw)))))))))))))) ?_;dsimp only [bA];clear e54 hJ
     refine bQ hh (i:=0) rfl rfl rfl (f54) bq.out az.out rfl abr (by first|rfl|exact cS _|exact cn _|exact bg _|exact bj NR.one _) abq abq abr ?_;intro A55 c55 w55 hh;simp only [abK] at hh;refine aj ?_;refine aM rfl rfl abr (gJ bq.out az.size rfl rfl (l:=i+1) abq abq abq) ?_;refine bQ hh (i:=0) rfl rfl rfl (hS2.ext hh.below) bq.out az.out rfl abr ?one11 abq abq abr ?kk11
     case one11=>first|rfl|assumption|exact bg _|exact oneCells_u8s _
     intro A61 c61 w61 hh;simp only [abK] at hh;refine aj ?_;have e1:(iT l x).length=0+i+1+(n-(i+1)):=by rw [hput,abJ,ab0,abP,acJ];omega
     have e2:ar TR.cells (iT l x)=[]++ar TR.cells (l.take i)++[.string x.m,.bool (nR (t.c.d+x.c.d)).neg,.string (nR (t.c.d+x.c.d)).aO,.int .i64 (nR (t.c.d+x.c.d)).e]++ar TR.cells (l.drop (i+1)):=by rw [hput,bo,jo,abC,acb];rfl
     exact TI
    ·rw [abw he] at hput;have hS2:=hS.back (l:=i) abq hcn;rw [show (ar TR.cells l).drop (i*4)=ar TR.cells (l.drop i) from jj TR.len l i] at hS2;have o2:=bj TR.one (l.drop i);refine OZ ?_;refine dp ?_;refine fO ?_;refine pY ?_;refine AG ?_;refine ml ?_;refine dG (fO ?_);refine dG (dp ?_);refine dG (mU (i) ?_);refine dG (CB ?_);refine Jc ?_;refine dG (dw ?_);refine dG (fF 1 ?_);refine av ?_;intro f W hJ hV;have hb_5:=hJ.bl;obtain ⟨v39,v38,v37,v36,v35,v34,v33,v32,v31,v30,v29,v28,_⟩:=hV;replace hh:=hJ.hp;refine NV ?_;dsimp only [bA];clear hJ;refine gT ?_
     (first|refine jv rfl rfl (by first|rfl|assumption|decide) abr ?_|refine ju rfl rfl (by first|assumption|decide) abr ?_)
     refine aj ?_;refine T7 ?_;refine fO ?_;refine dw ?_;refine fF 1 ?_;refine dw ?_;refine da 1 [_,_,_] ?_;refine dC (fun _ hj=>hfo _) ?_;refine dB [_,_,_,_] ?_;refine uW [_,_,_,_] ?_;refine av ?_;intro f W hJ hV;have hb_8:=hJ.bl;obtain ⟨v69,v68,v67,v66,v65,v64,v63,v62,_⟩:=hV;obtain ⟨A69,c69,e69,f69⟩:Rows _ _ _ (f 7) W:=v69;replace hh:=hJ.hp;refine Uv ?_;dsimp only [bA];clear e69 hJ;refine T5 ?_;intro A70 c70 w70 hh;simp only [abK] at hh;refine aj ?_;refine aM rfl rfl abr (gJ bq.out az.size rfl rfl (l:=i) abq abq abq) ?_;refine bQ hh (i:=0) rfl rfl rfl (hS2.ext hh.below) bq.out az.out rfl abr ?one12 abq abq abr ?kk12
     case one12=>first|rfl|assumption|exact bg _|exact oneCells_u8s _
     intro A75 c75 w75 hh;simp only [abK] at hh;refine aj ?_;have e1:(iT l x).length=0+i+1+(n-i):=by rw [hput,abJ,ab0,abP,acJ];omega
     exact X1
  ·obtain rfl:i=n:=abq;have hput:=MH (x:=x) (l:=l) (by rwa [abG abq] at hall);rw [show l++[⟨x.m,nR x.c.d⟩]=l.take i++⟨x.m,nR x.c.d⟩::l.drop i by rw [abG abq,adH abq]] at hput;have hS1:=hS.front (m:=i) abq;rw [show (ar TR.cells l).take (i*4)=ar TR.cells (l.take i) from j6 TR.len l i] at hS1;have o1:=bj TR.one (l.take i);have hS2:=hS.back (l:=i) abq hcn;rw [show (ar TR.cells l).drop (i*4)=ar TR.cells (l.drop i) from jj TR.len l i] at hS2;have o2:=bj TR.one (l.drop i);refine aj ?_;refine MA ?_;refine dp ?_;refine fO ?_;refine pY ?_;refine AG ?_;refine ml ?_;refine dS (dS ?_);refine pO (i:=7) rfl (fun ρ1 w1 hj hR=>(show ρ1 11=Value.bool _ from hR.2.2.1)) abr ?_;refine dS (dS (dS (dS ?_)));refine av ?_;intro f W hJ hV;have hb_2:=hJ.bl;obtain ⟨v18,v17,v16,v15,v14,v13,v12,v11,v10,v9,v8,v7,_⟩:=hV;replace hh:=hJ.hp;refine O9 ?_;dsimp only [bA];clear hJ;refine aj ?_;refine EF ?_;intro b23 w23 hh;refine aj ?_;refine PH ?_;refine bQ hh (i:=0) rfl rfl rfl (hS1.ext hh.below) bq.out az.out rfl abr ?one13 abq abq abr ?kk13
   case one13=>first|rfl|assumption|exact bg _|exact oneCells_u8s _
   intro A27 c27 w27 hh;simp only [abK] at hh;refine aj ?_;refine OZ ?_;refine dp ?_;refine fO ?_;refine pY ?_;refine AG ?_;refine ml ?_;refine dS (dS ?_);refine pO (i:=7) rfl (fun ρ1 w1 hj hR=>(show ρ1 32=Value.bool _ from hR.2.2.1)) abr ?_;refine dS (dS (dS (dS ?_)));refine av ?_;intro f W hJ hV;have hb_5:=hJ.bl;obtain ⟨v39,v38,v37,v36,v35,v34,v33,v32,v31,v30,v29,v28,_⟩:=hV;replace hh:=hJ.hp;refine NV ?_;dsimp only [bA];clear hJ;refine aj ?_;refine T7 ?_;refine fO ?_;refine dw ?_;refine fF 1 ?_;refine dw ?_;refine da 1 [_,_,_] ?_;refine dC (fun _ hj=>hfo _) ?_;refine dB [_,_,_,_] ?_;refine uW [_,_,_,_] ?_;refine av ?_;intro f W hJ hV;have hb_8:=hJ.bl;obtain ⟨v69,v68,v67,v66,v65,v64,v63,v62,_⟩:=hV;obtain ⟨A69,c69,e69,f69⟩:Rows _ _ _ (f 7) W:=v69;replace hh:=hJ.hp;refine Uv ?_;dsimp only [bA];clear e69 hJ;refine T5 ?_;intro A70 c70 w70 hh;simp only [abK] at hh;refine aj ?_;refine aM rfl rfl abr (gJ bq.out az.size rfl rfl (l:=i) abq abq abq) ?_;refine bQ hh (i:=0) rfl rfl rfl (hS2.ext hh.below) bq.out az.out rfl abr ?one14 abq abq abr ?kk14
   case one14=>first|rfl|assumption|exact bg _|exact oneCells_u8s _
   intro A75 c75 w75 hh;simp only [abK] at hh;refine aj ?_;have e1:(iT l x).length=0+i+1+(i-i):=by rw [hput,abJ,ab0,abP,acJ];omega
   exact X1
theorem y5 {l:List TR} (ho:iO k l) (hk:k+l.length≤3999980):iO (k+l.length) (jy l):=fun t ht=>by
 have h:=Dv l (fun t ht=>(ho t ht).2) t ht;exact ⟨by rw [Ee l t ht];exact h.ok abq,h⟩
theorem yK (v:Int) (A:Option Addr) (n c:Nat) (l:List TR) (k:Nat) (w:World) (hS:Sl w A n 4 (ar TR.cells l)) (hn:n≤100000) (ho:iO k l) (hk:k+n≤3999980):
  Calls Tryz.prog 120 #[.int .i64 v,.slice A n c] w fun r w'=>∃g:PX,iy (gZ l) v (aA l) g∧r=.returned (.tuple #[.agg #[.int .i64 g.v,.slice g.A g.n g.c],.int .i64 (gZ l)])∧Hp w [g.row] w':=by
 have hh:=Hp.start w;have hln:=hS.aX TR.len abr;refine ae (N:=49) (l:=[.int .i64 v,.slice A n c]) Tryz.func120 rfl rfl (by simp) ?_;refine bT ?_;intro b4 w4 hh;replace hh:=hh.cJ 95 4;refine bk [6,7,10,11,12,13,14,15,16,17,18,19,20,21] 6 7
  (fun a x w'=>∃(i:Nat) (A':Option Addr) (c':Nat),i≤n∧x=.int .i64 i∧a=.slice A' (jy (l.take i)).length c'∧Hp w [.row A' (jy (l.take i)).length c' 95 4 (ar TR.cells (jy (l.take i))),.blk b4 52 [.int .i64 0,.slice none 0 0] (0,0)] w')
  (fun _ x _=>n-(intOf x).toNat) ?_ ?_
 ·exact ⟨0,none,0,abB _,rfl,rfl,hh⟩
 ·clear hh;rintro ρ' a_ x_ w' ⟨i,A',c',hi,rfl,rfl,hh⟩;have hGl:=y4 (l.take i);rw [abP] at hGl;by_cases hlt:i<n
  ·obtain ⟨x,hx⟩:=ai (l:=l) (k:=i) abq;obtain ⟨ad,rfl,hr⟩:=hS.at_ abq;have hgo:=y5 (l:=l.take i) (k:=k) (fun t ht=>ho t (adx ht)) (by rw [abP];omega);refine aj ?_;refine qj ?_;refine au (FU A' (jy (l.take i)).length c' (jy (l.take i)) x _ (hh.ao (i:=0) rfl) (hh.gN (i:=0) rfl) abq (fun t ht=>(hgo t ht).1) (ho x (abz hx)).1) ak.out rfl abr ?_;rintro e_ w21 ⟨A2,c2,rfl,h3⟩;refine ⟨_,rfl, ?_⟩;replace hh:=hh.join h3;simp only [abE,abC] at hh;rw [←jc,←al hx] at hh ⊢;refine aj ?_;replace hh:=hh.sub (aby _ (abA _ (aby _ abV)));refine ⟨⟨i+1,A2,c2,abq,rfl,rfl,hh⟩,by show n-(i+1)<n-i;omega, ?_⟩;exact dI
  ·obtain rfl:i=n:=abq;rw [abG abq] at hh hGl ⊢;have hgo:=y5 ho abq;have hgt:aA l=(jy l).filter qZ:=rfl;unfold gZ;rw [hgt];generalize jy l=G at*;obtain ⟨m,hm⟩:∃m,m=G.length:=⟨_,rfl⟩;rw [←hm] at hh ⊢;refine aj ?_;replace hh:=hh.cJ 95 4;refine bk [8,9,22,23,24,25,26,27,28,29,30,31,32,33,34,35,36,37,38,39,40,41] 8 9
    (fun a x w'=>∃(j:Nat) (B:Option Addr) (d:Nat),j≤m∧x=.int .i64 j∧a=.slice B ((G.take j).filter qZ).length d∧Hp w [.row B ((G.take j).filter qZ).length d 95 4 (ar TR.cells ((G.take j).filter qZ)),.row A' m c' 95 4 (ar TR.cells G),.blk b4 52 [.int .i64 0,.slice none 0 0] (0,0)] w')
    (fun _ x _=>m-(intOf x).toNat) ?_ ?_
   ·exact ⟨0,none,0,abB _,rfl,rfl,hh⟩
   ·clear hh;rintro ρ2 a2 x2 w2 ⟨j,B,d,hj,rfl,rfl,hh⟩;have hfl:((G.take j).filter qZ).length≤j:=abW (List.length_filter_le _ _) (by rw [abP];omega);by_cases hjm:j<m
    ·obtain ⟨t,ht⟩:=ai (l:=G) (k:=j) abq;have hto:=hgo t (abz ht);have hsg:=fun w1=>fT t.c w1 (by have:=hto.1.1;omega);have hzz:t.c.i.sign=0↔t.c.d=0:=by
      exact Vp
     obtain ⟨g0,rfl⟩:=hh.bP (i:=1) rfl abq;by_cases hz:t.c.d=0
     ·have hs:=hzz.2 hz;have hft:(G.take (j+1)).filter qZ=(G.take j).filter qZ:=by
       rw [al ht,aed,List.filter_cons,abw (by unfold qZ;rw [abQ hz];decide)];simp
      refine aj ?_;refine Tg ?_;refine aZ hh (hsg _) rfl ?_;intro w33 hh;refine aj ?_;refine ⟨⟨j+1,B,d,abq,rfl,by rw [hft];rfl,by rw [hft];exact hh⟩,by show m-(j+1)<m-j;omega, ?_⟩;exact dI
     ·have hs:¬t.c.i.sign=0:=fun h=>hz (hzz.1 h);have hft:(G.take (j+1)).filter qZ=(G.take j).filter qZ++[t]:=by
       rw [al ht,aed,List.filter_cons,abx (by unfold qZ;rw [abR hz];rfl)];simp
      refine aj ?_;refine Tg ?_;refine aZ hh (hsg _) rfl ?_;intro w33 hh;refine aj ?_;refine bF (vs:=[_,_,_,_]) az.out rfl (hh.df (f:=TR.cells) (x:=t) (l:=G) (i:=1) rfl TR.len abr ht) rfl abr ?_;refine Ev ?_;intro b40 w40 hh;refine qm ?_;intro A41 c41 w41 hh;simp only [abK,ab9] at hh;replace hh:=hh.sub (acn _ _);refine aj ?_;refine ⟨⟨j+1,A41,c41,abq,rfl,by rw [hft,abJ];rfl,by rw [hft,abJ,bo,mD];exact hh⟩,by show m-(j+1)<m-j;omega, ?_⟩;exact dI
    ·obtain rfl:j=m:=abq;rw [abG abq] at hh hfl ⊢;generalize G.filter qZ=F at*;by_cases h4:4096<F.length
     ·rw [abx h4];refine bT ?_;intro ws hh;refine qg ?_;exact N0
     ·rw [abw h4];refine bT ?_;intro ws hh;refine qg ?_;exact ⟨⟨v,B,F.length,d,F⟩,⟨rfl,rfl⟩,rfl,hh.sub (aby _ (acA _))⟩
def eZ (v:Int):ByteArray:=⟨(List.replicate v.toNat 0).toArray⟩
theorem qR {v:Int} (h:0≤v):((eZ v).size:Int)=v:=by
 have:(eZ v).size=v.toNat:=by unfold eZ;show (List.replicate v.toNat (0:UInt8)).toArray.size=_;rw [aei,acL]
 omega
theorem zJ (v:Int):eX (eZ v).data.toList=true:=by
 unfold eX eZ;rw [ab6];intro c hc;have:(⟨(List.replicate v.toNat (0:UInt8)).toArray⟩:ByteArray).data.toList=List.replicate v.toNat 0:=rfl;rw [this] at hc;rw [(List.mem_replicate.1 hc).2];decide
theorem MI {l:List TR} (h:l.length≤4096):gZ l=0:=by
 unfold gZ;have:=dr l;rw [abw abq]
theorem EL {v:Int}{t:TR} (hf:jG v=true) (h:fY v t=true):lL v [t]=0:=by
 unfold lL;rw [abw (by rw [hf];simp [h]),abw (by simp),MI (by simp)]
def Dj (v:Int):Int:=if jG v=false then 1 else 0
theorem nS (v:Int) (c:NR) (k:Nat) (w:World) (hT:dq w) (hc:c.ok∧Sz k c.d) (hk:k≤2999980):
  Calls Tryz.prog 191 #[.int .i64 v,.agg #[.bool c.neg,.string c.aO,.int .i64 c.e]] w fun r w'=>∃g:PX,iy (Dj v) v (aA [⟨eZ v,c⟩]) g∧r=.returned (.tuple #[.agg #[.int .i64 g.v,.slice g.A g.n g.c],.int .i64 (Dj v)])∧Hp w [g.row] w':=by
 have hh:=Hp.start w;have hfw:=fun w1=>pW v w1
 cases hf:jG v with
 |false=>
  rw [hf] at hfw;rw [show Dj v=1 by unfold Dj;rw [abx hf]];refine ae (N:=20) (l:=[.int .i64 v,.agg #[.bool c.neg,.string c.aO,.int .i64 c.e]]) Tryz.func191 rfl rfl (by simp) ?_;refine bX ?_;intro b3 w3 hh b4 w4 hh;refine aZ hh (hfw _) rfl ?_;intro w7 hh;refine bT ?_;intro ws hh;exact Qp
 |true=>
  rw [hf] at hfw;obtain ⟨h0,h12⟩:=fN.1 hf;have hm:lL v [⟨eZ v,c⟩]=0:=EL hf (by unfold fY;rw [zJ,abQ (qR h0)];rfl);have hmk:=fun A cc w1 hT1 hS1=>uz v A 1 cc [⟨eZ v,c⟩] k w1 hT1 hS1 abr abq (fun t ht=>by rw [abX.1 ht];exact hc) (fun t ht=>by rw [abX.1 ht];have:=qR h0;show (eZ v).size≤_;omega);rw [hm] at hmk;rw [show Dj v=0 by unfold Dj;rw [abw (by rw [hf];decide)]];refine ae (N:=20) (l:=[.int .i64 v,.agg #[.bool c.neg,.string c.aO,.int .i64 c.e]]) Tryz.func191 rfl rfl (by simp) ?_;refine bX ?_;intro b3 w3 hh b4 w4 hh;refine aZ hh (hfw _) rfl ?_;intro w7 hh;refine aj ?_;refine kY [] [0,0,2,6,0,30,62,127,255,255,1023,2047] 7 [[(0,none)],[(0,none)],[(11,some 1)],[(12,some 2)],[(3,none)],[(13,some 3),(14,some 4)],[(15,some 5)]] [(6,16),(5,15),(4,14),(3,13),(2,12),(1,11),(0,10)] [([],4,[(6,16),(5,15),(4,14),(3,13),(2,12),(1,11),(0,10)])] hh mixed abt abt abr ?_;refine dp ?_;refine dp ?_;refine aW (i:=2) (ma v.toNat 1 (n5 (List.replicate v.toNat 0))) (ma.ext) ?_ ?_
  ·intro ρ1 w1 hj hR;exact xg v.toNat ▸ QP (n:=v.toNat) (show ρ1 11=Value.int _ _ from hR.1) (show ρ1 11=Value.int _ _ from hR.1) abq abq bq.out az.out rfl abq abq (fun _ _ h1 h2=>⟨h2,h1⟩)
  refine aW (i:=3) (Is (.string (eZ v))) (Is.ext) ?_ ?_
  ·intro ρ1 w1 hj hR;obtain ⟨g12,e12,o12⟩:=hR.1;exact let ⟨g,e,o⟩:=hR.1;cY rfl (oI (l:=List.replicate v.toNat 0) bq.out bq.out bq.out e o) ⟨Below.refl _ _,rfl⟩
  refine da 1 [_,_,_] ?_;refine dB [_,_,_,_] ?_;refine uW [_,_,_,_] ?_;refine av ?_;intro p_ hp_;simp only [abO,acS,or_false] at hp_
  rcases hp_ with rfl
  intro f W hJ hV;have hb_3:=hJ.bl;obtain ⟨v16,v15,v14,v13,v12,v11,v10,_⟩:=hV;simp only [gD];have e10:f 0=_:=v10;rw [e10];have e11:f 1=_:=v11;rw [e11];obtain ⟨g12,e12,o12⟩:ma v.toNat 1 (n5 (List.replicate v.toNat 0)) (f 2) W:=v12;rw [e12];have e13:f 3=_:=v13;rw [e13];have e14:f 4=_:=v14;rw [e14];have e15:f 5=_:=v15;rw [e15];obtain ⟨A16,c16,e16,f16⟩:Rows _ _ _ (f 6) W:=v16;rw [e16];replace hh:=hJ.hp;clear e10 e11 e12 e13 e14 e15 e16 hJ;refine au (hmk _ _ _ (hT.hp hh) f16) ak.out rfl abr ?_;rintro e_ w17 ⟨g,og,rfl,h3⟩;refine ⟨_,rfl, ?_⟩;replace hh:=hh.join h3;refine dO ?_;simp only [abE,abC] at hh;refine cK (i:=8) (by repeat (first|exact bV|refine bD ?_|refine bU ?_|refine np_scope ?_)) rfl abt abt abt (fun _=>dT (show _=Value.tuple (List.toArray _) from rfl) rfl) abr ?_;refine cK (i:=9) (by repeat (first|exact bV|refine bD ?_|refine bU ?_|refine np_scope ?_)) rfl abt abt abt (fun _=>dT (show _=Value.tuple (List.toArray _) from rfl) rfl) abr ?_;refine iQ 10 abr abt abr abt abt ?_;exact Pk
def mN (v:Int) (x:Nat):ByteArray:=⟨((List.replicate v.toNat (0:UInt8)).set x 1).toArray⟩
theorem tx {v:Int}{x:Nat} (h:0≤v):((mN v x).size:Int)=v:=by
 have:(mN v x).size=v.toNat:=by unfold mN;show ((List.replicate v.toNat (0:UInt8)).set x 1).toArray.size=_;rw [aei,acU,acL]
 omega
theorem D3 (v:Int) (x:Nat):eX (mN v x).data.toList=true:=by
 unfold eX;rw [ab6];intro c hc;have:(mN v x).data.toList=(List.replicate v.toNat 0).set x 1:=rfl;rw [this] at hc
 rcases aeN hc with h|rfl
 ·rw [(List.mem_replicate.1 h).2];decide
 ·decide
theorem Ky {l:List UInt8}{i:Nat}{c:UInt8} (h:i<l.length):bK (n5 l) (i*1) [.int .u8 c.toNat]=n5 (l.set i c):=by
 unfold bK n5;rw [abZ,aeY,abx h,acM,ab8,List.map_take,aeq,acb]
 rfl
def xD (v x:Int):Int:=if jG v=false∨x<0∨v≤x then 1 else 0
theorem Hb (v x:Int) (w:World) (hT:dq w):
  Calls Tryz.prog 189 #[.int .i64 v,.int .i64 x] w fun r w'=>∃g:PX,iy (xD v x) v (aA [⟨mN v x.toNat,nR ((1:Int):Dyadic)⟩]) g∧r=.returned (.tuple #[.agg #[.int .i64 g.v,.slice g.A g.n g.c],.int .i64 (xD v x)])∧Hp w [g.row] w':=by
 have hh:=Hp.start w;have hfw:=fun w1=>pW v w1
 cases hf:jG v with
 |false=>
  rw [hf] at hfw;rw [show xD v x=1 by unfold xD;rw [abx (.inl hf)]];exact Ob
 |true=>
  rw [hf] at hfw;obtain ⟨h0,h12⟩:=fN.1 hf;by_cases hx0:x<0
  ·rw [show xD v x=1 by unfold xD;rw [abx (.inr (.inl hx0))]];exact Ob
  ·by_cases hx1:v≤x
   ·rw [show xD v x=1 by unfold xD;rw [abx (.inr (.inr hx1))]];exact Ob
   ·rw [show xD v x=0 by unfold xD;rw [abw (by rintro (h|h|h);exact absurd (hf.symm.trans h) abr;omega;omega)]];have hm:lL v [⟨mN v x.toNat,nR ((1:Int):Dyadic)⟩]=0:=EL hf (by unfold fY;rw [D3,abQ (tx h0)];rfl);have z1:Sz 24 ((1:Int):Dyadic):=WS (m:=1) (e:=0) abr abr abr;have hmk:=fun A cc w1 hT1 hS1=>uz v A 1 cc [⟨mN v x.toNat,nR ((1:Int):Dyadic)⟩] 24 w1 hT1 hS1 abr abq (fun t ht=>by rw [abX.1 ht];exact ⟨z1.ok abr,by show Sz 24 (nR _).d;rw [a6];exact z1⟩) (fun t ht=>by rw [abX.1 ht];have:=tx (x:=x.toNat) h0;show (mN v x.toNat).size≤_;omega);rw [hm] at hmk;refine ae (N:=34) (l:=[.int .i64 v,.int .i64 x]) Tryz.func189 rfl rfl (by simp) ?_;refine bT ?_;intro b4 w4 hh;refine aZ hh (hfw _) rfl ?_;intro w8 hh;refine aj ?_;refine fy (n:=(v.toNat)) hh rfl rfl abq abq bq.out az.out rfl abq abq abr ?_;intro b21 w21 hh;refine aL (aJ (sr (mL (mI ?_))));refine dF (k:=(x.toNat)) bq.out az.size rfl rfl abq abq abr ?_;rw [xg] at hh;have hll:(n5 (List.replicate v.toNat 0)).length=v.toNat:=by simp [n5]
    refine NG ?_;intro ws hh;simp only [abK] at hh;rw [show bK (n5 (List.replicate v.toNat 0)) (x.toNat*1) [.int .u8 1]=n5 ((List.replicate v.toNat 0).set x.toNat 1) from Ky (l:=List.replicate v.toNat 0) (i:=x.toNat) (c:=1) (by rw [acL];omega)] at hh;refine aj ?_;refine kY [] [0,0,2,0,14,30,63,127,127,511,1023] 6 [[(0,none)],[(6,none)],[(26,some 1)],[],[(27,some 2),(28,some 3)],[(29,some 4)]] [(5,30),(4,29),(3,28),(2,27),(1,26),(0,25)] [([],4,[(5,30),(4,29),(3,28),(2,27),(1,26),(0,25)])] hh mixed abt abt abr ?_;refine dp ?_;refine fO ?_;refine aW (i:=2) (Is (.string ⟨(((List.replicate v.toNat 0).set x.toNat 1)).toArray⟩)) Is.ext ?_ ?_
    ·intro ρ1 w1 hj hR;exact cY rfl (oI (l:=((List.replicate v.toNat 0).set x.toNat 1)) bq.out bq.out bq.out (show ρ1 26=Value.slice _ _ _ from hR.1) (hj.hp.ao (i:=0) rfl)) ⟨Below.refl _ _,rfl⟩
    refine dC (fun _ hj=>k5 1 _ (hT.hp hj.hp) abr abr) ?_;refine dB [_,_,_,_] ?_;refine uW [_,_,_,_] ?_;refine av ?_;intro p_ hp_;simp only [abO,acS,or_false] at hp_
    rcases hp_ with rfl
    intro f W hJ hV;have hb_5:=hJ.bl;obtain ⟨v30,v29,v28,v27,v26,v25,_⟩:=hV;simp only [gD];have e25:f 0=_:=v25;rw [e25];have e26:f 1=_:=v26;rw [e26];have e27:f 2=_:=v27;rw [e27];have e28:f 3=_:=v28;rw [e28];have e29:f 4=_:=v29;rw [e29];obtain ⟨A30,c30,e30,f30⟩:Rows _ _ _ (f 5) W:=v30;rw [e30];replace hh:=hJ.hp;clear e25 e26 e27 e28 e29 e30 hJ;refine au (hmk _ _ _ (hT.hp hh) f30) ak.out rfl abr ?_;rintro e_ w31 ⟨g,og,rfl,h3⟩;refine ⟨_,rfl, ?_⟩;replace hh:=hh.join h3;refine dO ?_;simp only [abE,abC] at hh;refine cK (i:=7) (by repeat (first|exact bV|refine bD ?_|refine bU ?_|refine np_scope ?_)) rfl abt abt abt (fun _=>dT (show _=Value.tuple (List.toArray _) from rfl) rfl) abr ?_;refine cK (i:=8) (by repeat (first|exact bV|refine bD ?_|refine bU ?_|refine np_scope ?_)) rfl abt abt abt (fun _=>dT (show _=Value.tuple (List.toArray _) from rfl) rfl) abr ?_;refine iQ 9 abr abt abr abt abt ?_;exact Tj
theorem AQ (v:Int) (A:Option Addr) (n c:Nat) (l:List TR) (k:Nat) (w:World) (hS:Sl w A n 4 (ar TR.cells l)) (hn:n≤100000) (ho:iO k l) (hk:k+n≤3999980) (hz:∀t∈l,t.m.size≤100000):
  Calls Tryz.prog 73 #[.int .i64 v,.slice A n c] w fun r w'=>∃g:PX,iy (lL v l) v (aA l) g∧r=.returned (.tuple #[.agg #[.int .i64 g.v,.slice g.A g.n g.c],.int .i64 (lL v l)])∧Hp w [g.row] w':=by
 have hh:=Hp.start w;have hln:=hS.aX TR.len abr
 cases hf:jG v with
 |false=>
  have hbv:¬(0≤v∧v≤12):=fun h=>by rw [fN.2 h] at hf;cases hf
  rw [show lL v l=1 by unfold lL;rw [abx (.inl hf)]];by_cases h0:v<0
  ·exact Tu
  ·exact Tu
 |true=>
  obtain ⟨hv0,hv12⟩:=fN.1 hf;refine ae (N:=38) (l:=[.int .i64 v,.slice A n c]) Tryz.func73 rfl rfl (by simp) ?_;refine bT ?_;intro b4 w4 hh;refine aH [5,6,14,15,16,17,18,19,20,21,22,23,24,25,26,27,28] 6
   (fun x w'=>∃i:Nat,i≤n∧x=.int .i64 i∧(l.take i).any (fun t=> !fY v t)=false∧Hp w [.blk b4 52 [.int .i64 0,.slice none 0 0] (0,0)] w')
   (fun x _=>n-(intOf x).toNat) ?_ ?_
  ·exact ⟨0,abB _,rfl,rfl,hh⟩
  ·clear hh;rintro ρ' x_ w' ⟨i,hi,rfl,hall,hh⟩;by_cases hlt:i<n
   ·obtain ⟨x,hx⟩:=ai (l:=l) (k:=i) abq;obtain ⟨ad,rfl,hr⟩:=hS.at_ abq;have hxz:=hz x (abz hx);have hmay:∀w1,Calls Tryz.prog 119 #[.string x.m,.int .i64 v] w1 fun r w'=>r=.returned (.bool (fY v x))∧Below w1.heap.size w1 w':=fun w1=>GQ x.m v w1 abq
    cases hm:fY v x with
    |false=>
     rw [hm] at hmay;rw [show lL v l=1 by unfold lL;rw [abx (.inr (adg.2 ⟨x,abz hx,by rw [hm];rfl⟩))]];refine aj ?_;refine EV ?_;refine mI ?_;refine aZ hh (hmay _) rfl ?_;intro w26 hh;refine bT ?_;intro ws hh;exact Qp
    |true=>
     rw [hm] at hmay;refine aj ?_;refine EV ?_;refine mI ?_;refine aZ hh (hmay _) rfl ?_;intro w26 hh;refine aj ?_;refine ⟨⟨i+1,abq,rfl,by rw [al hx,aeg,hall,aef,aex,hm];rfl,hh⟩,by show n-(i+1)<n-i;omega, ?_⟩;exact dI
   ·rw [abG abq] at hall;have e1:lL v l=if 65536<l.length then 3 else gZ l:=by unfold lL;rw [abw (by rw [hf,hall];decide)]
    by_cases h6:65536<n
    ·rw [e1,abx abq];refine bT ?_;intro ws hh;exact Qp
    ·rw [e1,abw abq];refine aj ?_;refine au (yK v A n c l k _ (hS.ext hh.below) hn ho hk) ak.out rfl abr ?_;rintro e_ w35 ⟨g,og,rfl,h3⟩;exact NS
def YK (p:PX) (n:Nat):List TR×Int:=(List.replicate n p).foldl ko (aA [⟨eZ p.v,nR ((1:Int):Dyadic)⟩],0)
def aah (p:PX) (n:Int):Int:=if p.e=0 then (if n<0∨127<n then 1 else (YK p n.toNat).2) else p.e
def aai (ps:List PX) (R:List HE) (g:PX):Prop:=(g∈ps∧R=[])∨R=[g.row]
section
variable {ρ:Rf}{w:World}{d:Option Nat}{ty u:TypeId}{pos:String}{af:Array Edge}{g:Option (Nat×Bool)}{x y:Operand}{s t:TR}
end
def aa7 (a:NR):Bool:=decide ((24:Int)<a.aO.size∨a.e< -300∨300<a.e)
structure SmT (ts:List TR):Prop where
 n:ts.length≤12
 ok:iO 492 ts
 sz:∀t∈ts,t.m.size≤50
def PX.norm (g:PX):PX:=⟨g.v,none,0,0,g.ts⟩
theorem zD (ps:List PX):ic (ps.map PX.norm)=ic ps:=by
 have h1:(ps.map PX.norm).find? (fun g=>decide (g.e≠0))=(ps.find? fun g=>decide (g.e≠0)).map PX.norm:=List.find?_map ..;have h2:AR (ps.map PX.norm)=AR ps:=by
  unfold AR;rw [List.any_map,ack]
  rfl
 unfold ic;rw [h1,h2,abH]
 cases ps.find? (fun g=>decide (g.e≠0))<;>rfl
theorem xC (ps:List PX):ir (ps.map PX.norm)=ir ps:=by unfold ir;rw [ack];rfl
structure KJ (ps os:List PX) (R:List HE):Prop where
 eq:∀(j:Nat) (g o:PX),ps[j]?=some g→os[j]?=some o→o.v=g.v∧o.ts=g.ts∧o.n=g.n
 my:∀o∈os,o.row∈R∧o.n≤o.c
theorem KJ.add {ps os:List PX}{R:List HE}{g o:PX} (h:KJ ps os R) (hx:ps[os.length]?=some g) (he:o.v=g.v∧o.ts=g.ts∧o.n=g.n) (hc:o.n≤o.c):KJ ps (os++[o]) (o.row::R):=by
 refine ⟨fun j g2 o2 h1 h2=> ?_,fun o2 h2=> ?_⟩
 ·by_cases hj:j<os.length
  ·rw [adE hj] at h2;exact h.eq j g2 o2 h1 h2
  ·by_cases hj2:j=os.length
   ·subst hj2;rw [acP (abD _),acs] at h2;rw [hx] at h1
    cases h1;cases h2
    exact he
   ·rw [abT (by rw [abJ];simp;omega)] at h2
    cases h2
 ·rcases acq.1 h2 with h2|h2
  ·exact ⟨abN _ (h.my o2 h2).1,(h.my o2 h2).2⟩
  ·rw [abX.1 h2];exact ⟨abF,hc⟩
theorem KJ.key {ps os:List PX}{R:List HE} (h:KJ ps os R) (hl:os.length=ps.length):os.map PX.norm=ps.map PX.norm:=by
 apply acp;intro j;rw [abI,abI];by_cases hj:j<os.length
 ·obtain ⟨o,ho⟩:=ai hj;obtain ⟨g,hg⟩:=ai (l:=ps) (k:=j) abq;obtain ⟨e1,e2,_⟩:=h.eq j g o hg ho;rw [ho,hg];show some (PX.norm o)=some (PX.norm g);unfold PX.norm;rw [e1,e2]
 ·rw [abT abq,abT abq]
theorem Rh {H:List HE}{g:PX} (hh:Hp w H w') (h:g.row∈H):g.at_ w':=nV (hh.own g.row h)
def Lm (p:PX) (c:Dyadic):Int:=if p.e=0 then gZ (p.ts.map (qI c)) else p.e
theorem Ko {l X:List TR}{c:Dyadic}{i:Nat}{z:TR} (hz:l[i]?=some z) (hX:X=(l.take i).map (qI c)++l.drop i):X[i]?=some z∧X.set i ⟨z.m,nR (z.c.d*c)⟩=(l.take (i+1)).map (qI c)++l.drop (i+1):=by
 obtain ⟨h1,h2⟩:=abM.1 hz;have hl:((l.take i).map (qI c)).length=i:=by rw [abH,abP];omega
 refine ⟨?_, ?_⟩
 ·rw [hX,acP abq,hl,acs,adt];exact hz
 ·rw [al hz,acM,hX,adS _ _ abq,hl,acs,acb,gk hz]
  rfl
theorem Ik {l:List TR}{c:Dyadic} (ho:iO k l) (hc:Sz j c) (hk:k+j≤1000000):iO (k+j) (l.map (qI c)):=fun t ht=>by
 obtain ⟨z,hz,rfl⟩:=abL.1 ht;have hs:=(ho z hz).2.mul hc;exact ⟨hs.ok abq,by show Sz _ (nR _).d;rw [a6];exact hs⟩
theorem B0 (p:PX) (c:NR) (k:Nat) (w:World) (hT:dq w) (hp:p.at_ w) (lp:p.jz k) (hc:c.ok∧Sz k c.d) (hk:k≤400000):
  Calls Tryz.prog 190 #[.agg #[.int .i64 p.v,.slice p.A p.n p.c],.agg #[.bool c.neg,.string c.aO,.int .i64 c.e]] w fun r w'=>∃g:PX,iy (Lm p c.d) p.v (aA (p.ts.map (qI c.d))) g∧r=.returned (.tuple #[.agg #[.int .i64 g.v,.slice g.A g.n g.c],.int .i64 (Lm p c.d)])∧Hp w [g.row] w':=by
 have hh:=Hp.start w;have hck:=fun w1 hT1 hb=>nJ p k w1 hT1 (hp.ext hb) lp;unfold Lm;by_cases h0:p.e=0
 ·rw [abx h0];rw [h0] at hck;obtain ⟨_,h4,_,_⟩:=cv h0;have hpl:p.ts.length=p.n:=hp.ln;refine TJ ?_;refine lK ?_;intro b2 w2 hh b3 w3 hh b4 w4 hh;refine hU ?_;intro w10 hh;refine aj ?_;refine au (mV p.A p.n p.c p.ts _ (hp.ext hh.below) lp.n) ak.out rfl abr ?_;rintro e_ w17 ⟨A17,c17,rfl,hown_,hb_⟩;refine ⟨_,rfl, ?_⟩;replace hh:=hh.aD (x:=.row _ _ _ _ _ _) hb_ hown_;refine aj ?_;refine aH [8,20,21,22,23,24,25,26,27,28,29,30,31,32,33,34,35] 20
   (fun v w'=>∃(i:Nat) (X:List TR),i≤p.n∧v=.int .i64 i∧X=(p.ts.take i).map (qI c.d)++p.ts.drop i∧Hp w [.row A17 p.n c17 95 4 (ar TR.cells X),.blk b4 52 [.int .i64 0,.slice none 0 0] (0,0),.blk b3 33 [.bool c.neg,.string c.aO,.int .i64 c.e] (0,0),.blk b2 52 [.int .i64 p.v,.slice p.A p.n p.c] (0,0)] w')
   (fun v _=>p.n-(intOf v).toNat) ?_ ?_
  ·exact ⟨0,p.ts,abB _,rfl,rfl,hh⟩
  ·clear hh;rintro ρ' v w' ⟨i,X,hi,rfl,hX,hh⟩;have hXl:X.length=p.n:=by rw [hX,abJ,abH,abP,acJ];omega
   by_cases hlt:i<p.n
   ·obtain ⟨z,hz⟩:=ai (l:=p.ts) (k:=i) abq;obtain ⟨hXz,hXn⟩:=Ko hz hX;have hzo:=lp.ok z (abz hz);have hdm:=fun A cc w1 hT1 hS1=>eC A 2 cc [z.c,c] w1 hT1 hS1 (by simpa using ⟨hzo.1,hc.1⟩) k (by simpa using ⟨hzo.2,hc.2⟩) abq abr;rw [show gO ([z.c,c].map NR.d)=z.c.d*c.d by show 1*z.c.d*c.d=_;rw [adq]] at hdm;have hrl:=eH TR.len X;obtain ⟨g0,rfl⟩:=hh.bP (i:=0) rfl abq;refine aj ?_;refine aC 10 [[(7,none)],[(8,none)],[(7,none)],[(8,none)],[(25,some 2),(26,some 3)],[(27,some 4)],[(28,some 5)],[(3,none)],[(29,some 6),(30,some 7)],[(31,some 8)]] [(9,32),(8,31),(7,30),(6,29),(5,28),(4,27),(3,26),(2,25),(1,24),(0,23)] hh mixed abt ?_;refine fO ?_;refine dp ?_;refine fO ?_;refine dp ?_;refine CN (i) ?_;refine dw ?_;refine p9 [_,_,_] (fun _ hj=>(hj.hp.df (f:=TR.cells) (x:=z) (l:=X) (i:=0) rfl TR.len abr hXz).drop 1) ?_;refine da 2 [_,_,_] ?_;refine uW [_,_,_,_,_,_] ?_;refine aW (i:=9) (Is (.agg #[.bool (nR (z.c.d*c.d)).neg,.string (nR (z.c.d*c.d)).aO,.int .i64 (nR (z.c.d*c.d)).e])) Is.ext ?_ ?_
    ·intro ρ1 w1 hj hR;obtain ⟨A31,c31,h31,s31⟩:=hR.1;exact bp rfl (aR ak.out (aq h31 aY)) (hdm A31 c31 _ (hT.hp hj.hp) s31) (fun _ _ hq=>⟨_,hq.1,hq.2,rfl⟩)
    refine av ?_;intro f W hJ hV;have hb_8:=hJ.bl;obtain ⟨v32,v31,v30,v29,v28,v27,v26,v25,v24,v23,_⟩:=hV;obtain ⟨A31,c31,e31,f31⟩:Rows _ _ _ (f 8) W:=v31;replace hh:=hJ.hp;refine ay (aQ (aa v32 (aa e31 (aa v30 (aa v29 (aa v28 (aa v27 (aa v26 (aa v25 (aa v24 (aa v23 aw))))))))))) ?_;dsimp only [bA];clear e31 hJ;refine aj ?_;refine Ic ?_;intro ws hh;simp only [abK] at hh;rw [Ap hXz,hXn] at hh;refine aj ?_;replace hh:=hh.sub (aby _ (aby _ (aby _ (aby _ abV))));refine ⟨⟨i+1,_,abq,rfl,rfl,hh⟩,by show p.n-(i+1)<p.n-i;omega, ?_⟩;exact dI
   ·obtain rfl:i=p.n:=abq;rw [abG abq,adH abq,acg] at hX;have hso:=Ik lp.ok hc.2 abq;rw [←hX] at hso ⊢;refine aj ?_;refine au (lO p.v A17 p.n c17 X (k+k) _ hT hh hXl abq abq hso) ak.out rfl abr ?_;rintro e_ w39 ⟨g,og,rfl,hh⟩;refine ⟨_,rfl, ?_⟩;exact Pk
 ·rw [abw h0];refine TJ ?_;refine lK ?_;intro b2 w2 hh b3 w3 hh b4 w4 hh;refine hU ?_;intro w10 hh;exact Rt
abbrev ZT:=List (List UInt8×Int)
def zT (L:ZT):List TR:=L.map fun x=>⟨str x.1,nR ((x.2:Int):Dyadic)⟩
def zS (L:ZT) (b:List UInt8):Int:=match L with|[]=>0|x::L=>(if x.1=b then x.2 else 0)+zS L b
theorem QM (a b:Int):((a+b:Int):Dyadic)=(a:Dyadic)+(b:Dyadic):=(rz a b 0).symm
theorem RG {a:Int} (h:(a:Dyadic)=0):a=0:=uJ (p:=0) h
theorem BW (m:ByteArray):∀L:ZT,iW (zT L) m=(zS L m.data.toList:Int)
 |[]=>rfl
 |x::L=>by
  show iW (⟨str x.1,nR ((x.2:Int):Dyadic)⟩::zT L) m=((if x.1=m.data.toList then x.2 else 0)+zS L m.data.toList:Int);rw [fK,BW m L,QM];congr 1;by_cases h:x.1=m.data.toList
  ·rw [abx h,abx (by rw [h];exact Ma m)];exact a6 _
  ·rw [abw h,abw (fun e=>h (by rw [←e];exact (dH _).symm))]
   rfl
def zC:ZT→Bool
 |[]=>true
 |[x]=> !decide (x.2=0)
 |x::y::L=> !decide (x.2=0) && (Op.bytesLess x.1 y.1 && zC (y::L))
theorem OP:∀{L:ZT},zC L=true→Canon (zT L):=fun {L} h=>by
 have h1:∀{L:ZT},zC L=true→sU (zT L)=true∧∀x∈L,x.2≠0:=fun {L}=>by
  induction L with
  |nil=>exact fun _=>⟨rfl,fun x hx=>nomatch hx⟩
  |cons x L ih=>
   intro h
   cases L with
   |nil=>exact ⟨rfl,fun y hy=>by rw [abX.1 hy];simpa [zC] using h⟩
   |cons y L=>
    simp only [zC,abS,aep,aeT] at h;obtain ⟨i1,i2⟩:=ih h.2.2;refine ⟨?_,fun z hz=> ?_⟩
    ·show (iU (str x.1) (str y.1) && sU (zT (y::L)))=true;rw [i1,show iU (str x.1) (str y.1)=true by unfold iU;rw [dH,dH];exact h.2.1]
     rfl
    ·rcases abO.1 hz with rfl|hz
     ·exact h.1
     ·exact i2 z hz
 obtain ⟨i1,i2⟩:=h1 h;refine ⟨su.1 i1,fun t ht=> ?_,fun t ht=> ?_⟩
 ·obtain ⟨x,hx,rfl⟩:=abL.1 ht;show (nR _).d≠0;rw [a6];exact fun e=>i2 x hx (RG e)
 ·obtain ⟨x,hx,rfl⟩:=abL.1 ht;show nR _=nR (nR _).d;rw [a6]
def zE (L K:ZT):Bool:=(L++K).all fun x=>decide (zS L x.1=zS K x.1)
theorem JD {L:ZT}{b:List UInt8} (h:∀x∈L,x.1≠b):zS L b=0:=by
 induction L with
 |nil=>rfl
 |cons x L ih=>rw [zS,abw (h x abF),ih fun y hy=>h y (abN _ hy)];rfl
theorem XT {L K:ZT} (h:zE L K=true) (b:List UInt8):zS L b=zS K b:=by
 by_cases hb:∃x∈L++K,x.1=b
 ·obtain ⟨x,hx,rfl⟩:=hb;exact ads (ab6.1 h x hx)
 ·rw [JD fun x hx e=>hb ⟨x,adf _ hx,e⟩,JD fun x hx e=>hb ⟨x,acI _ hx,e⟩]
theorem KV {L K:ZT} (h:(zC K && zE K L)=true):aA (zT L)=zT K:=by
 rw [abS] at h;exact (sO (OP h.1) fun m=>by rw [BW,BW,XT h.2]).symm
def zP (P Q:ZT):ZT:=P.flatMap fun x=>Q.map fun y=>((mulL x.1 y.1).1,x.2*y.2)
def zPE (P Q:ZT):List Int:=P.flatMap fun x=>Q.map fun y=>(mulL x.1 y.1).2
theorem Oa (L:ZT):(zT L).length=L.length:=abH _
def zM (v:Int) (L:ZT):Bool:=L.all fun x=>eX x.1 && decide ((x.1.length:Int)=v)
theorem V5 {v:Int}{L:ZT} (h:zM v L=true):∀t∈zT L,fY v t=true:=fun t ht=>by
 obtain ⟨x,hx,rfl⟩:=abL.1 ht;have:=ab6.1 h x hx;unfold fY;show (eX (str x.1).data.toList && decide (((str x.1).size:Int)=v))=true;rw [dH,ki];exact this
theorem SE {v:Int}{L:ZT} (hf:jG v=true) (h:zM v L=true) (hn:L.length≤4096):lL v (zT L)=0:=by
 unfold lL;rw [abw,abw (by rw [Oa];omega)]
 ·unfold gZ;rw [abw];have:=dr (zT L);rw [Oa] at this;omega
 ·rintro (h1|h1)
  ·rw [hf] at h1;cases h1
  ·obtain ⟨t,ht,h2⟩:=adg.1 h1;rw [V5 h t ht] at h2
   cases h2
def zB (L:ZT):Bool:=L.all fun x=>decide (x.2.natAbs<256) && decide (x.1.length≤50)
theorem IZ {L:ZT} (h:zB L=true):iO 24 (zT L)∧∀t∈zT L,t.m.size≤50:=by
 refine ⟨fun t ht=> ?_,fun t ht=> ?_⟩
 ·obtain ⟨x,hx,rfl⟩:=abL.1 ht;have:=adl.1 (ab6.1 h x hx);have z:Sz 24 ((x.2:Int):Dyadic):=WS (m:=x.2) (e:=0) (ads this.1) abr abr;exact ⟨z.ok abr,by show Sz 24 (nR _).d;rw [a6];exact z⟩
 ·obtain ⟨x,hx,rfl⟩:=abL.1 ht;have:=adl.1 (ab6.1 h x hx);show (str x.1).size≤50;rw [ki];exact ads this.2
theorem Pq {v:Int}{A:Option Addr}{c:Nat}{L:ZT} (h:zB L=true) (hn:n≤1000000) (hc:n≤c):(⟨v,A,n,c,zT L⟩:PX).jz 24:=⟨hn,hc,(IZ h).1,fun t ht=>abW ((IZ h).2 t ht) abr⟩
def aa9 (n:Int):ZT:=[([0,1],n),([1,0],1)]
theorem xK {g h:PX} (h1:g.e=0) (h2:h.e=0) (h3:h.v=g.v):ic [g,h]=0:=by
 have e:[g,h].find? (fun g=>decide (g.e≠0))=none:=j8 (ac9.2 fun x hx=>by
  rcases abO.1 hx with rfl|hx
  ·simp [h1]
  ·rw [abX.1 hx];simp [h2])
 unfold ic;rw [e];show (if 2=0∨AR [g,h]=true then (1:Int) else 0)=0;rw [abw];rintro (h0|h0)
 ·cases h0
 ·obtain ⟨x,hx,hx2⟩:=adg.1 h0;have hx3:x.v≠g.v:=ads hx2
  rcases abO.1 hx with rfl|hx
  ·exact hx3 rfl
  ·rw [abX.1 hx] at hx3;exact hx3 h3
def Zj (ds:List Int):VP:=fun v W=>∃g:Option Addr×Nat,v=.slice g.1 ds.length g.2∧Sl W g.1 ds.length 1 (bh ds)
structure aaE (E:Int) (g:PX):Prop where
 bad:E≠0→g.v=0∧g.ts=[]
 ok:E=0→g.e=0∧iO 100000 g.ts∧∀t∈g.ts,t.m.size≤100000
theorem Cj {l:List TR} (h:gZ l=0):(aA l).length≤4096:=by
 unfold gZ at h;by_cases h4:4096<(aA l).length
 ·rw [abx h4] at h;omega
 ·omega
theorem nK {l:List TR} (h:iO k l) (hk:k+l.length≤j) (hj:j≤3999990):iO j (aA l):=fun t ht=>by
 have h3:Sz j t.c.d:=(pk (fun t ht=>(h t ht).2) t ht).mono hk;exact ⟨by rw [(gF l).nf t ht];exact h3.ok hj,h3⟩
theorem qO {l:List TR} (h:∀t∈l,t.m.size≤100000):∀t∈aA l,t.m.size≤100000:=fun t ht=>by
 obtain ⟨s,hs,e⟩:=lu t ht;rw [←e];exact h s hs
theorem wO {l:List TR} (h:l.length≤4096):gZ l=0:=by
 unfold gZ;have:=dr l;rw [abw abq]
theorem iy.v0 {v:Int}{g:PX} (o:iy 0 v ts g):g.v=v:=o.v
theorem iy.t0 {v:Int}{g:PX} (o:iy 0 v ts g):g.ts=ts:=o.ts
theorem Tk (p q:PX):DJ [p,q]=p.ts++q.ts:=by show p.ts++(q.ts++[])=_;rw [acg]
def iJ (j:Nat) (t:TR):Nat:=match t.m.data.toList[j]? with|some e=>e.toNat|none=>0
theorem tP {t:TR}{e:UInt8} (h:t.m.data.toList[j]?=some e):iJ j t=e.toNat:=by unfold iJ;rw [h]
def bz (p:List TR) (j n:Nat):List TR:=p.filter fun t=>decide (iJ j t=n)
def jB (q:List TR) (sub:List TR→Int×List TR) (p:List TR) (j n:Nat) (a:Int×List TR):Int×List TR:=
 if a.1≠0 then a else if a.2.length=0∧(bz p j n).length=0 then a else
 if gH a.2 q≠0 then (gH a.2 q,[]) else if (sub (bz p j n)).1≠0 then ((sub (bz p j n)).1,[]) else
 if gZ (aA (cj a.2 q)++(sub (bz p j n)).2)≠0 then (gZ (aA (cj a.2 q)++(sub (bz p j n)).2),[]) else (0,aA (aA (cj a.2 q)++(sub (bz p j n)).2))
def bE (q:List TR) (sub:List TR→Int×List TR) (p:List TR) (j:Nat):Nat→Int×List TR
 |0=>(0,[])
 |i+1=>jB q sub p j (127-i) (bE q sub p j i)
theorem lv (q:List TR) (sub:List TR→Int×List TR) (p:List TR) (j i:Nat):bE q sub p j (i+1)=jB q sub p j (127-i) (bE q sub p j i):=rfl
def fP (v:Int):List (List TR)→Nat→List TR→Int×List TR
 |[],_,p=>(0,aA [⟨eZ v,(p.map TR.c).headD (nR 0)⟩])
 |q::qs,j,p=>bE q (fP v qs (j+1)) p j 128
theorem kX {q:List TR}{sub:List TR→Int×List TR}{i:Nat} (h:(bE q sub p j i).1≠0) (hk:i≤k):bE q sub p j k=bE q sub p j i:=by
 induction k with
 |zero=>
  obtain rfl:i=0:=abq
  rfl
 |succ k ih=>
  by_cases e:i=k+1
  ·rw [e]
  ·have:=ih abq;show jB q sub p j (127-k) (bE q sub p j k)=_;rw [this];unfold jB;rw [abx h]
theorem DB {q:List TR} (hp:iO k p) (hq:iO j q) (sq:∀t∈q,t.m.size≤100000) (h:gH p q=0) (hk:k+j≤900000):iO (k+j+p.length*q.length) (aA (cj p q))∧∀t∈aA (cj p q),t.m.size≤100000:=by
 obtain ⟨h6,_,h4⟩:=l9 h;have ho:=rg hp hq abq;have hz:=pk fun t ht=>(ho t ht).2;rw [ph] at hz;refine ⟨fun t ht=> ?_,(Jz hp hq sq h hk).2⟩;have:Sz (k+j+p.length*q.length) t.c.d:=hz t ht;refine ⟨?_,this⟩;rw [(gF _).nf t ht];exact this.ok abq
structure kv (v:Int) (k:Nat) (l:List TR):Prop where
 e:jR v l=0
 ok:iO k l
 sz:∀t∈l,t.m.size≤100000
theorem kv.mono {v:Int}{l:List TR} (h:kv v k l) (hk:k≤j):kv v j l:=⟨h.e,h.ok.mono hk,h.sz⟩
theorem kv.nil {v:Int} (hv:jG v=true):kv v k []:=⟨JB hv (abB _) (fun _ h=>nomatch h) ⟨.nil,(fun _ h=>nomatch h),(fun _ h=>nomatch h)⟩,(fun _ h=>nomatch h),(fun _ h=>nomatch h)⟩
theorem kv.len {v:Int}{l:List TR} (h:kv v k l):l.length≤4096:=(cv h.e).2.1
theorem IX {v:Int}{q:List TR}{T:Nat} (hp:kv v k p) (hq:kv v j q) (hT:q.length≤T) (h:gH p q=0) (hk:k+j≤900000):kv v (k+j+4096*T) (aA (cj p q)):=by
 obtain ⟨h6,h5,h4⟩:=l9 h;obtain ⟨f1,f2,f3,f4⟩:=cv hp.e;have:=DB hp.ok hq.ok hq.sz h hk;have hm:p.length*q.length≤4096*T:=acR hp.len hT;exact ⟨jx f1 h4 (tM f3 h5),this.1.mono abq,this.2⟩
theorem HF {v:Int}{a b:List TR} (ha:kv v k a) (hb:kv v k b) (h:gZ (a++b)=0) (hk:k≤3000000):kv v (k+8192) (aA (a++b)):=by
 obtain ⟨f1,f2,f3,f4⟩:=cv ha.e;obtain ⟨g1,g2,g3,g4⟩:=cv hb.e;have hl:(a++b).length≤8192:=by rw [abJ];omega
 refine ⟨jx f1 (Cj h) fun t ht=> ?_,nK (fun t ht=> ?_) (show k+(a++b).length≤k+8192 by omega) abq,qO fun t ht=> ?_⟩
 ·rcases acq.1 ht with h|h
  ·exact f3 t h
  ·exact g3 t h
 ·rcases acq.1 ht with h|h
  ·exact ha.ok t h
  ·exact hb.ok t h
 ·rcases acq.1 ht with h|h
  ·exact ha.sz t h
  ·exact hb.sz t h
theorem Pn {v:Int}{q:List TR}{sub:List TR→Int×List TR}{a:Int×List TR}{S K T B S':Nat} (ha:kv v S a.2) (hq:kv v K q) (hT:q.length≤T) (hb:(sub (bz p j n)).1=0→kv v B (sub (bz p j n)).2) (h1:S+K+4096*T+8192≤S') (h2:B+8192≤S') (hS:S'≤900000)
  (h:(jB q sub p j n a).1=0):kv v S' (jB q sub p j n a).2:=by
 unfold jB at h ⊢;by_cases c0:a.1≠0
 ·rw [abx c0] at h;exact absurd h c0
 ·rw [abw c0] at h ⊢;by_cases c1:a.2.length=0∧(bz p j n).length=0
  ·rw [abx c1];exact ha.mono abq
  ·rw [abw c1] at h ⊢;by_cases c2:gH a.2 q≠0
   ·rw [abx c2] at h;exact absurd h c2
   ·rw [abw c2] at h ⊢;by_cases c3:(sub (bz p j n)).1≠0
    ·rw [abx c3] at h;exact absurd h c3
    ·rw [abw c3] at h ⊢;by_cases c4:gZ (aA (cj a.2 q)++(sub (bz p j n)).2)≠0
     ·rw [abx c4] at h;exact absurd h c4
     ·rw [abw c4];exact (HF ((IX ha hq hT abq abq).mono (show _≤S'-8192 by omega)) ((hb abq).mono abq) abq abq).mono abq
theorem Kh (h:∀t∈p,iJ j t<n):bz p j n=[]:=List.filter_eq_nil_iff.2 fun t ht=>by
 have:=h t ht;simp only [ab1];omega
theorem lE:∀t∈bz p j n,t∈p:=fun t ht=>(acX.1 ht).1
theorem jS {q p:List TR}{sub:List TR→Int×List TR}{j D:Nat} (h:∀t∈p,iJ j t≤D):∀i,i+D≤127→bE q sub p j i=(0,[])
 |0,_=>rfl
 |i+1,hi=>by
  show jB q sub p j (127-i) (bE q sub p j i)=_;rw [jS h i abq,show jB q sub p j (127-i) (0,[])=(0,[]) by
   unfold jB;rw [abw abr,abx ⟨rfl,by rw [Kh fun t ht=>by have:=h t ht;omega];rfl⟩]]
def fH (c:Nat):List Nat→Nat→Nat
 |[],k=>k
 |d::ds,k=>fH c ds k+d*c+8192
theorem tF (c k:Nat):fH c [] k=k:=rfl
theorem qD (c d k:Nat) (ds:List Nat):fH c (d::ds) k=fH c ds k+d*c+8192:=rfl
theorem wY {v:Int}{q p:List TR}{sub:List TR→Int×List TR}{j D K T B c:Nat} (hv:jG v=true) (hq:kv v K q) (hT:q.length≤T) (hD:∀t∈p,iJ j t≤D) (hD2:D≤127) (hb:∀n,(sub (bz p j n)).1=0→kv v B (sub (bz p j n)).2) (hc:K+4096*T+8192≤c) (hS:B+D*c+8192≤900000):
  ∀i,i≤128→(bE q sub p j i).1=0→kv v (B+(i+D-128)*c+8192) (bE q sub p j i).2
 |0,_,_=>kv.nil hv
 |i+1,hi,h0=>by
  by_cases h1:i+1+D≤127
  ·rw [jS hD _ h1];exact kv.nil hv
  ·have h2:(bE q sub p j i).1=0:=by
    refine adN fun c=> ?_;rw [kX c (Nat.le_succ i)] at h0;exact c h0
   have hle:(i+1+D-128)*c≤D*c:=acx _ abq;by_cases h3:i+D≤127
   ·have h4:=jS (q:=q) (sub:=sub) hD i h3;show kv v _ (jB q sub p j (127-i) (bE q sub p j i)).2;have h5:(jB q sub p j (127-i) (bE q sub p j i)).1=0:=h0;rw [h4] at h5 ⊢;rw [show i+1+D-128=0 by omega,ad4];unfold jB at h5 ⊢;rw [abw abr] at h5 ⊢;by_cases c1:((0:Int),([]:List TR)).2.length=0∧(bz p j (127-i)).length=0
    ·rw [abx c1];exact kv.nil hv
    ·rw [abw c1] at h5 ⊢;by_cases c2:gH [] q≠0
     ·rw [abx c2] at h5;exact absurd h5 c2
     ·rw [abw c2] at h5 ⊢;by_cases c3:(sub (bz p j (127-i))).1≠0
      ·rw [abx c3] at h5;exact absurd h5 c3
      ·rw [abw c3] at h5 ⊢;by_cases c4:gZ (aA (cj [] q)++(sub (bz p j (127-i))).2)≠0
       ·rw [abx c4] at h5;exact absurd h5 c4
       ·rw [abw c4];have hn:kv v B (aA (cj [] q)):=kv.nil hv;exact (HF hn (hb _ abq) abq abq).mono abq
   ·have ih:=wY hv hq hT hD hD2 hb hc hS i abq h2;have e1:(i+1+D-128)*c=(i+D-128)*c+c:=by rw [show i+1+D-128=(i+D-128)+1 by omega,acD]
    rw [e1] at hle ⊢;generalize (i+D-128)*c=y at*;generalize D*c=z at*;exact Pn ih hq hT (hb _) abq abq abq h0
theorem tK {v:Int}{x:NR} (hv:jG v=true) (hx:Sz k x.d) (hk:k≤900000):kv v (k+1) (aA [⟨eZ v,x⟩]):=by
 have h1:=fN.1 hv;have h2:=qR h1.1;refine ⟨jx hv (abW (dr _) (show 1≤4096 by decide)) fun t ht=> ?_,fun t ht=> ?_,fun t ht=> ?_⟩
 ·rw [abX.1 ht];unfold fY;rw [abS,ab1];exact ⟨zJ v,h2⟩
 ·have h1:Sz (k+1) t.c.d:=pk (k:=k) (l:=[⟨eZ v,x⟩]) (fun s hs=>by rw [abX.1 hs];exact hx) t ht;exact ⟨by rw [(gF _).nf t ht];exact h1.ok abq,h1⟩
 ·obtain ⟨s,hs,e⟩:=lu t ht;rw [←e,abX.1 hs];show (eZ v).size≤100000;omega
theorem I6 {v:Int}{K T c0:Nat} (hv:jG v=true) (hc0:K+4096*T+8192≤c0):∀(qs:List (List TR)) (j:Nat) (p:List TR) (ds:List Nat) (k:Nat),(∀q∈qs,kv v K q∧q.length≤T)→iO k p→ds.length=qs.length→(∀(i d:Nat),ds[i]?=some d→d≤127∧∀t∈p,iJ (j+i) t≤d)→fH c0 ds (k+1)≤900000→
  (fP v qs j p).1=0→kv v (fH c0 ds (k+1)) (fP v qs j p).2:=by
 intro qs
 induction qs with
 |nil=>
  intro j p ds k _ hok hds _ hB _;obtain rfl:ds=[]:=aeu.1 hds;rw [tF] at hB ⊢;refine tK hv ?_ abq;exact S1
 |cons q qs ih=>
  intro j p ds k hq hok hds hD hB h0
  cases ds with
  |nil=>cases hds
  |cons d ds=>
   have hd:=hD 0 d rfl;rw [qD] at hB ⊢;have hB1:fH c0 ds (k+1)≤900000:=abq;have hsub:∀n,(fP v qs (j+1) (bz p j n)).1=0→kv v (fH c0 ds (k+1)) (fP v qs (j+1) (bz p j n)).2:=fun n hn=>by
    refine ih (j+1) (bz p j n) ds k (fun r hr=>hq r (abN _ hr)) (fun t ht=>hok t (lE t ht)) (by simpa using hds) (fun i e he=> ?_) hB1 hn;exact Xt
   have h1:=wY (sub:=fP v qs (j+1)) (p:=p) (j:=j) hv (hq q abF).1 (hq q abF).2 hd.2 hd.1 hsub hc0 hB 128 (abD _) h0;rw [show 128+d-128=d by omega] at h1;exact h1
variable {fr:Nat}
theorem EE:∀{a b:List UInt8}{j:Nat}{x y:UInt8},Op.bytesLess a b=true→a.take j=b.take j→a[j]?=some x→b[j]?=some y→x.toNat≤y.toNat
 |[],_,j,x,y,_,_,hx,_=>by simp at hx
 |_,[],j,x,y,_,_,_,hy=>by simp at hy
 |c::a,d::b,0,x,y,h,_,hx,hy=>by
  simp only [aem,adv] at hx hy;subst hx;subst hy;simp only [Op.bytesLess,aea,abS,ab1,ac3] at h
  rcases h with h|⟨h,_⟩
  ·exact Nat.le_of_lt (UInt8.lt_iff_toNat_lt.1 h)
  ·rw [h];exact abD _
 |c::a,d::b,j+1,x,y,h,ht,hx,hy=>by
  simp only [aee,aeM] at ht;obtain ⟨rfl,ht⟩:=ht;simp only [aen] at hx hy;refine EE (a:=a) (b:=b) ?_ ht hx hy;simpa [Op.bytesLess] using h
structure I5 (v:Int) (j:Nat) (p:List TR):Prop where
 ua:u1 p
 may:∀t∈p,fY v t=true
 pre:∀a∈p,∀b∈p,a.m.data.toList.take j=b.m.data.toList.take j
theorem I5.size {v:Int} (h:I5 v j p):∀t∈p,(t.m.data.toList.length:Int)=v:=fun t ht=>by
 rw [←dY];exact ads (adl.1 (h.may t ht)).2
theorem I5.get {v:Int} (h:I5 v j p) (hj:(j:Int)<v) {t:TR} (ht:t∈p):∃e:UInt8,t.m.data.toList[j]?=some e∧iJ j t=e.toNat∧e.toNat<128:=by
 obtain ⟨e,he⟩:=ai (l:=t.m.data.toList) (k:=j) (by have:=h.size t ht;omega);exact ⟨e,he,tP he,pH (adl.1 (h.may t ht)).1 he⟩
theorem I5.mono {v:Int} (h:I5 v j p) (hj:(j:Int)<v):p.Pairwise fun a b=>iJ j a≤iJ j b:=by
 refine List.Pairwise.imp_of_mem (fun {a b} ha hb hl=> ?_) h.ua;obtain ⟨x,hx,ex,_⟩:=h.get hj ha;obtain ⟨y,hy,ey,_⟩:=h.get hj hb;rw [ex,ey];exact EE hl (h.pre a ha b hb) hx hy
theorem I5.with {v:Int} (h:I5 v j p) (hj:(j:Int)<v):I5 v (j+1) (bz p j n):=by
 refine ⟨h.ua.filter _,fun t ht=>h.may t (lE t ht),fun a ha b hb=> ?_⟩;obtain ⟨ha1,ha2⟩:=acX.1 ha;obtain ⟨hb1,hb2⟩:=acX.1 hb;obtain ⟨x,hx,ex,_⟩:=h.get hj ha1;obtain ⟨y,hy,ey,_⟩:=h.get hj hb1;have exy:x=y:=aeE.1 (by rw [←ex,←ey,ads ha2,ads hb2]);rw [al hx,al hy,h.pre a ha1 b hb1,exy]
theorem NU {p:List α}{en:Nat} (h:fr≤en):p.drop fr=(p.drop fr).take (en-fr)++p.drop en:=by
 have:p.drop en=(p.drop fr).drop (en-fr):=by rw [ad7];congr 1;omega
 rw [this,acH]
theorem EN {en:Nat} (hfe:fr≤en) (h1:∀t∈p.take fr,iJ j t<n) (h2:∀t∈(p.drop fr).take (en-fr),iJ j t=n) (h3:∀t∈p.drop en,n<iJ j t):bz p j n=(p.drop fr).take (en-fr):=by
 have e:p=p.take fr++((p.drop fr).take (en-fr)++p.drop en):=by
  have:p.drop en=(p.drop fr).drop (en-fr):=by rw [ad7];congr 1;omega
  rw [this,acH,acH]
 unfold bz
 conv=>lhs;rw [e]
 rw [aed,aed,List.filter_eq_nil_iff.2,List.filter_eq_self.2,List.filter_eq_nil_iff.2,abC,acg]
 ·intro t ht;have:=h3 t ht;simp only [ab1];omega
 ·intro t ht;have:=h2 t ht;simpa using this
 ·intro t ht;have:=h1 t ht;simp only [ab1];omega
theorem Le {x:TR} (h:p.Pairwise fun a b=>iJ j a≤iJ j b) (hx:p[fr]?=some x) (hn:iJ j x<n):∀t∈p.take (fr+1),iJ j t<n:=fun t ht=>by
 rw [al hx] at ht
 rcases acq.1 ht with ht|ht
 ·have e:p=p.take fr++x::p.drop (fr+1):=by rw [←gk hx,acH]
  rw [e,List.pairwise_append] at h;have:=h.2.2 t ht x abF;omega
 ·obtain rfl:=abX.1 ht;exact hn
def aaY (p:PX) (i:Int):Int:=if p.e=0 then (if i<0∨p.v≤i then 1 else 0) else p.e
def Zi (i:Nat) (t:TR):Option TR:=match t.m.data.toList[i]? with|some e=>if e.toNat=0 then none else some ⟨str (t.m.data.toList.set i (e-1)),nR (t.c.d*((e.toNat:Int):Dyadic))⟩|none=>none
def aas (i:Nat) (l:List TR):List TR:=l.filterMap (Zi i)
end Go.Proofs.YtmchncaiffbpaaaGreatDoor
