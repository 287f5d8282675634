/- The row and the card of BernBacks. -/
import Derived.Test.YtolamocnngihpaaGreatDoorCards
import Derived.Test.YtolamocnngihpaaGreatDoorTie
import Derived.SevenTiedAt
import Derived.Test.YtolamocnngihpaaGreatDoorZ8
namespace Go.Proofs.YtolamocnngihpaaGreatDoor
open Go.RowKit
theorem JM (fx:FX) (L:Option Addr) (n c:Nat) (b:List SR) (k:Nat) (w:World) (hf:fx.at_ w) (hl:fx.j8 k) (hB:Sl w L n 6 (aD SR.cells b)) (hb:∀s∈b,s.fin k) (hn:n≤1000000) (hk:k≤130) (hcn:fx.e=0→aA fx.ns≤100) (h6:fx.e=0→∀d∈fx.ns,d≤6):
  Calls Tryz.prog 29 #[.agg #[.slice fx.A fx.n fx.a,.slice fx.B fx.m fx.b],.slice L n c] w fun r w'=>∃g:PX,dW (jB fx b) n (lv fx b).2 g∧r=.returned (.tuple #[.agg #[.int .i64 g.v,.slice g.A g.n g.c],.int .i64 (jB fx b)])∧Hp w [g.row] w':=by
 have hbl:b.length=n:=hB.bh SR.len Yw;by_cases hE:Ak fx b=0
 ·have h0:fx.e=0:=by
   unfold Ak at hE;by_cases h:fx.e=0
   ·exact h
   ·rw [YA h] at hE;exact absurd hE h
  have hbx:g9 b=0:=by
   unfold Ak at hE;rw [YB (fun c=>c h0)] at hE;by_cases h:g9 b=0
   ·exact h
   ·rw [YA h] at hE;exact absurd hE h
  have hnn:b.length=fx.n:=by
   unfold Ak at hE;rw [YB (fun c=>c h0),YB (fun c=>c hbx)] at hE;by_cases h:b.length=fx.n
   ·exact h
   ·rw [YA h] at hE;exact absurd hE Yw
  have hnl:fx.ns.length=fx.n:=by unfold FX.ns;rw [YO];exact hf.ln.1
  refine (B7 fx L n c b k w hf hl hB hb hk h0 hbx Yv (hcn h0) (h6 h0)).mono fun r w' ⟨g,⟨gv,gb⟩,hr,hp⟩=> ?_;rw [show n=fx.ns.length by omega] at gb;obtain ⟨a1,a2⟩:=Je h0 hbx Yv (by have:=hcn h0;omega) (h6 h0) hb hk (fun c hc=>(hl.num c hc).2) gb;have hbk:jB fx b=0:=by
   unfold jB;rw [YB (fun c=>c h0),YB (fun c=>c hbx),YB (fun c=>c hnn)];exact a1
  rw [hbk];exact ⟨g,⟨by rw [YA rfl];exact gv,by rw [YA rfl];exact a2.symm⟩,hr,hp⟩
 ·have hbk:jB fx b=Ak fx b:=by
   unfold Ak at hE ⊢;unfold jB;by_cases h1:fx.e≠0
   ·rw [YA h1,YA h1]
   ·rw [YB h1] at hE ⊢;rw [YB h1];by_cases h2:g9 b≠0
    ·rw [YA h2,YA h2]
    ·rw [YB h2] at hE ⊢;rw [YB h2];by_cases h3:b.length≠fx.n
     ·rw [YA h3,YA h3]
     ·rw [YB h3] at hE;exact absurd rfl hE
  rw [hbk];exact (I1 fx L n c b k w hf hl hB hb hn hk hE).mono fun r w' ⟨hr,hq⟩=>⟨PX.nil,dW.err hE,hr,((Hp.start w).ext hq).AZ⟩
theorem Dh (fx:FX) (L:Option Addr) (n c:Nat) (b:List SR) (w:World) (hT:e8 w) (hf:fx.at_ w) (hl:fx.j8 124) (hcap:fx.n≤fx.a) (hB:Sl w L n 6 (aD SR.cells b)) (hb:∀s∈b,s.fin 124) (hn:n≤1000000) (h4:fx.n≤4) (h6:fx.e=0→∀d∈fx.ns,d≤6):
  Calls Tryz.prog 28 #[.agg #[.slice fx.A fx.n fx.a,.slice fx.B fx.m fx.b],.slice L n c] w fun r w'=>∃g:PX,dW (jB fx b) n (lv fx b).2 g∧r=.returned (.tuple #[.agg #[.int .i64 g.v,.slice g.A g.n g.c],.int .i64 (jB fx b)])∧Hp w [g.row] w':=by
 have hnl:fx.ns.length=fx.n:=by unfold FX.ns;rw [YO];exact hf.ln.1
 have hs:fx.e=0→fx.ns.sum≤24:=fun h=>by have:=Up (h6 h);omega
 refine tx fx L n c b 124 124 w hT hf hl hcap hB hb hn Yw (fun h1 h2=> ?_) fun h1 h2=> ?_
 ·have:=hs h1;unfold rT;have:(124+1)*fx.ns.sum≤(124+1)*24:=Zc _ this;omega
 ·have:=hs h1;rw [yF];unfold rT;have h8:(124+1)*fx.ns.sum≤(124+1)*24:=Zc _ this;have h9:fx.ns.sum*(124+16394)≤24*(124+16394):=ZH _ this;have h10:fx.ns.length*8192≤4*8192:=ZH _ Yv;omega
def WT (ap d t:Nat) (xs:List Dyadic) (i:Nat):List Dyadic:=((List.range i).filter fun p=>decide (p/ap % (d+1)=t)).map fun p=>(xs[p]?).getD 0
def QE (fx:FX) (ax sd:Int):Int:=if mY fx ax≠0 then mY fx ax else if sd=0∨sd=1 then 0 else 1
section
variable {D:List Deferred}
section
variable {P:Program}{N:Nat}{Q:Kq}{ρ:Rf}{w:World}
def RK (k:Nat) (S:World→World→Prop) (i:Nat) (w w':World):Prop:=if i=k then S w w' else Below w.heap.size w w'
def Ws:List Nat→(Nat→VP)→Nat→VP
 |[],V=>V
 |x::r,V=>eI (Ws r V) x fun _ _=>True
def W5 (m k:Nat) (X Y M:List Nat) (src:List (List (Nat×Option Nat))):Bool:=
 decide (k<m) && ((List.range m).all fun i=>(src.getD i []).all fun p=>match p.2 with|some j=> !X.contains j||i==k||(M.getD k 0).testBit i|none=>true) &&
 (List.range m).all fun j=>X.contains j||Y.contains j||j==k||(M.getD j 0).testBit k
def XK (P:Program) (ops:Array Oper) (J:World→Prop) (V:Nat→Value→World→Prop) (R:Nat→World→World→Prop) (ρ:Rf):Nat→List Oper→List (List (Nat×Option Nat))→Prop
 |i,o::os,s::ss=>((∀v w w',V i v w→Below w.heap.size w w'→V i v w')∧∀ρ1 w1,J w1→dw V ρ ρ1 w1 s→OG P ops o ρ1 w1 fun v w2=>R i w1 w2∧V i v w2)∧XK P ops J V R ρ (i+1) os ss
 |_,[],[]=>True
 |_,_,_=>False
structure Yd (D:List Deferred) (fr:List Nat) (N:Nat) (ops:Array Oper) (m k0:Nat) (X:List Nat) (ρ:Rf) (J:World→Prop) (V:Nat→Value→World→Prop) (L:Array Bool) (a:Act) (w:World):Prop where
 nd:a.defers=D
 sz:a.tmps.size=N
 j:J w
 ls:L.size=ops.size
 cl:qJ ops L
 tl:∀k,m≤k→L.getD k false=false
 vs:∀i d,i<m→L.getD i false=true→(ops[i]?).bind (·.dst)=some d→(i∈X→L.getD k0 false=false)→V i (a.tmps.getD d undef) w
 L7:∀s,(∀i,i<m→L.getD i false=true→(ops[i]?).bind (·.dst)≠some s)→a.tmps.getD s undef=ρ s
 fb:∀i∈fr,L.getD i false=true→∀d,(ops[i]?).bind (·.dst)=some d→∃b,a.tmps.getD d undef=.pointer (some ⟨b,0,none⟩)∧b<w.heap.size
 fd:∀i∈fr,∀j∈fr,i≠j→L.getD i false=true→L.getD j false=true→∀d e,(ops[i]?).bind (·.dst)=some d→(ops[j]?).bind (·.dst)=some e→a.tmps.getD d undef≠a.tmps.getD e undef
end
section
def X2 (P:Program) (ops:Array Oper) (J:World→Prop) (R:Nat→World→World→Prop) (ρ:Rf) (T:(Nat→VP)→Prop):Nat→(Nat→VP)→List Oper→List (List (Nat×Option Nat))→Prop
 |i,pv,o::os,s::ss=>∃V:VP,(∀v w w',V v w→Below w.heap.size w w'→V v w')∧(∀ρ1 w1,J w1→dw pv ρ ρ1 w1 s→OG P ops o ρ1 w1 fun v w2=>R i w1 w2∧V v w2)∧X2 P ops J R ρ T (i+1) (eI pv i V) os ss
 |_,pv,[],[]=>T pv
 |_,_,_,_=>False
structure Ext (b:Nat) (e:TypeId) (w w':World):Prop where
 bl:Below b w w'
 sz:w.heap.size≤w'.heap.size
 rest:∀g,g<w.heap.size→w'.heap[g]?=w.heap[g]?∨∃xs xs',w.heap[g]?=some (.cells xs e (0,0))∧w'.heap[g]?=some (.cells xs' e (0,0))∧xs'.size=xs.size
def U8 (S:World→World→Prop) (pv:Nat→VP):List Nat→Prop
 |[]=>True
 |j::r=>(∀v w w',pv j v w→S w w'→pv j v w')∧U8 S pv r
def Wi (w:World) (t:TypeId) (n:Nat):VP:=fun v W=>∃(b:Nat) (cs:List Value),v=.pointer (some ⟨b,0,none⟩)∧w.heap.size≤b∧cs.length=n∧W.heap[b]?=some (.cells cs.toArray t (0,0))
def XA (base:Nat) (t:TypeId) (n sz:Nat) (cs:List Value):VP:=fun v W=>∃A c,v=.agg #[.slice A n c,.slice none 0 0]∧W.ownsRow base t sz (.slice A n c) n cs
end
end
structure WJ (p q:PX) (b:List SR) (ns:List Nat) (a:Nat) (X:List Dyadic):Prop where
 Wr:Ll q.v 300 8 4 q.ts
 e:xM q b (cf (Ao ns a))=0
 grow:gQ (300+300+16394) (m9 q.v q.ts) (300+1)≤440000
 x:Dw (Ao ns a) (eH q (cO b)).2=BU ns a X
def XY (fx:FX) (bits:Int):Int:=if fx.e≠0 then fx.e else if bits<0∨((2^fx.n:Nat):Int)≤bits then 1 else 0
def W6 (k i:Nat):Nat:=k/2^i % 2
def Va (n k:Nat):List Nat:=(List.range n).map (W6 k)
def XZ (ns:List Nat) (k:Nat):Nat:=iI ns.reverse (QQ ns (Va ns.length k)).reverse
def Yp (fx:FX) (bits:Int):NR:=if XY fx bits=0 then (fx.cs[XZ fx.ns bits.toNat]?).getD (nR 0) else nR 0
def WZ (ds:List Int):Bool:=decide (ds.length≤12) && decide (gH 1 ds≠0)
def s7 (a:NR):Bool:=decide ((8:Int)<a.bj.size∨a.e< -60∨60<a.e)
theorem KV {a:NR} (h:s7 a=false):a.ok∧Sz 124 a.d:=by
 have h':=of_decide_eq_false h;have h1:(a.bj.size:Int)≤8:=Yv;have h2: -60≤a.e:=Yv;have h3:a.e≤60:=Yv;exact ⟨⟨Yv,Yv,Yv⟩,Sz.raw (m:=64) (E:=60) Yv h2 h3⟩
def FX.small (f:FX):Prop:=f.j8 124∧f.m≤60∧f.n≤20
abbrev Yq (l:List Int) (A:Option Addr) (a:Nat) (B:Option Addr) (b:Nat):FX:=⟨A,1,a,B,l.length,b,[(l.length:Int)-1],l.map fun z:Int=>nR (z:Dyadic)⟩
def zr (ds:List Int) (cs:List NR):VP:=fun v W=>∃g:FX,v=.agg #[.slice g.A g.n g.a,.slice g.B g.m g.b]∧g.ds=ds∧g.cs=cs∧g.at_ W
theorem zr.ext {ds:List Int}{cs:List NR} (v:Value) (w w':World) (h:zr ds cs v w) (hb:Below w.heap.size w w'):zr ds cs v w':=let ⟨g,h1,h2,h3,h4⟩:=h;⟨g,h1,h2,h3,h4.ext hb⟩
variable {K:Value→World→Prop}{ag:Bool}{base by':Nat}{cs zc:List Value}{ops:Array Oper}{parts:Array (Nat×Operand)}{pos:String}{ps:List (Nat×Value)}{z:Int}
section
variable {P:Program}{ρ:Rf}{w:World}
theorem S4 {d:Option Nat}{ty:TypeId}{af:Array Edge}{t e:TypeId}{len sz:Nat} (ht:P.underlying t=some (.slice e)) (hte:dH P e=some (sz,ag,by',zc))
  (hp:ya ρ parts.toList=ps) (hzl:zc.length=sz) (hf:lN (fun i=>some (i*sz,sz)) (gu len zc) ps=some cs) (h0:¬len*sz=0) (hsl:len*sz≤16777216) (hl:cs.length=len*sz) (hn:len≤1000000) (hbs:base≤w.heap.size)
  (hk:∀v w2,ru base e len sz cs v w2→Below w.heap.size w w2→K v w2):OG P ops ⟨d,.buildSlice t len parts,ty,pos,af,none⟩ ρ w K:=by
 obtain ⟨z,hz,hzc⟩:=ek (w:=w) hte;have hbl:Below w.heap.size w (w.alloc (.cells cs.toArray e)):=(Below.refl _ _).alloc (YE _) _;refine eJ rfl (w':=w.alloc (.cells cs.toArray e)) (v:=.slice (some ⟨w.heap.size,0,none⟩) len len) ?_ (hk _ _ ⟨_,_,rfl,hl,.inr ⟨w.heap.size,len,cs.toArray,rfl,hbs,heap_alloc_new w _,YE _,by unfold maxLen;omega,by simpa using hl,by rw [←hl];simp⟩⟩ hbl);exact T2
end
def fh (z:Int):NR:=nR (z:Dyadic)
def lh (l:List Int):List SR:=l.map fun z=>⟨nR 0,fh z⟩
theorem rj (h:z.natAbs<256):(fh z).ok∧Sz 24 (fh z).d:=by
 have z1:Sz 24 ((z:Int):Dyadic):=Ew (m:=z) (e:=0) h Yw Yw;exact ⟨z1.ok Yw,by unfold fh;rw [cj];exact z1⟩
theorem m6 (l:List Int) (A:Option Addr) (n c:Nat) (w:World) (hS:Sl w A n 1 (bQ l)) (hl:∀z∈l,z.natAbs<256) (hn:n≤1000):
  Calls Tryz.prog 37 #[.slice A n c] w fun r w'=>∃B c',r=.returned (.slice B n c')∧Hp w [.row B n c' 40 3 (aD NR.cells (l.map fh))] w':=by
 have hh:=Hp.start w;have hln:l.length=n:=by have:=hS.1;rw [cD] at this;omega
 refine ak (N:=20) (l:=[.slice A n c]) Tryz.func37 rfl rfl (by simp) ?_;refine sr (aL (aa (sr (aL (aa (ai (sr (aI (aa (av ?_))))))))));replace hh:=hh.cN 40 3;refine bC [3,4,5,6,7,8,9,10,11,12,13,14,15,16,17,18] 3 4
  (fun a v w'=>∃(i c1:Nat) (B:Option Addr),i≤n∧v=.int .i64 i∧a=.slice B i c1∧Hp w [.row B i c1 40 3 (aD NR.cells ((l.take i).map fh))] w')
  (fun _ v _=>n-(intOf v).toNat) ?_ ?_
 ·exact ⟨0,0,none,YD _,rfl,rfl,hh⟩
 ·clear hh;rintro ρ' a_ v w' ⟨i,c1,B,hi,rfl,rfl,hh⟩;by_cases hlt:i<n
  ·obtain ⟨z,hz⟩:=ao (l:=l) (k:=i) Yv;have hgz:=cL hz;have hzb:=hl z (YF hz);obtain ⟨ad,rfl,hr⟩:=hS.at_ Yv;refine ai (sr (mI (mL (aK ?_))));refine C0 ?_;refine cE ?_;refine cv aU.out rfl ((hr.ext hh.below).xv hgz) Yw ?_;refine bA hh (gm z _ Yv Yv) rfl ?_;intro w16 hh;refine tH ?_;intro b17 w17 hh;refine pR ?_;intro A18 c18 w18 hh;simp only [YM,Zg] at hh;replace hh:=hh.sub (Zi _ _);refine lC ?_;refine bm (aI (aE (aj ?_)));refine ⟨⟨i+1,c18,A18,Yv,rfl,rfl, ?_⟩,by show n-(i+1)<n-i;omega, ?_⟩
   ·rw [aC hz,Zq,bZ];exact hh
   ·exact dO
  ·exact VM
theorem F2 (l:List Int) (A:Option Addr) (n c:Nat) (w:World) (hS:Sl w A n 1 (bQ l)) (hl:∀z∈l,z.natAbs<256) (hn:n≤1000):
  Calls Tryz.prog 40 #[.slice A n c] w fun r w'=>∃B c',r=.returned (.slice B n c')∧Hp w [.row B n c' 70 6 (aD SR.cells (lh l))] w':=by
 have hh:=Hp.start w;have hln:l.length=n:=by have:=hS.1;rw [cD] at this;omega
 refine ak (N:=21) (l:=[.slice A n c]) Tryz.func40 rfl rfl (by simp) ?_;refine sr (aL (aa (sr (aL (aa (ai (sr (aI (aa (av ?_))))))))));replace hh:=hh.cN 70 6;refine bC [3,4,5,6,7,8,9,10,11,12,13,14,15,16,17,18,19] 3 4
  (fun a v w'=>∃(i c1:Nat) (B:Option Addr),i≤n∧v=.int .i64 i∧a=.slice B i c1∧Hp w [.row B i c1 70 6 (aD SR.cells (lh (l.take i)))] w')
  (fun _ v _=>n-(intOf v).toNat) ?_ ?_
 ·exact ⟨0,0,none,YD _,rfl,rfl,hh⟩
 ·clear hh;rintro ρ' a_ v w' ⟨i,c1,B,hi,rfl,rfl,hh⟩;by_cases hlt:i<n
  ·obtain ⟨z,hz⟩:=ao (l:=l) (k:=i) Yv;have hgz:=cL hz;have hzb:=hl z (YF hz);obtain ⟨ad,rfl,hr⟩:=hS.at_ Yv;have e1:aD SR.cells (lh (l.take (i+1)))=aD SR.cells (lh (l.take i))++[.bool false,.string (ByteArray.mk #[]),.int .i64 0,.bool (nR (z:Dyadic)).neg,.string (nR (z:Dyadic)).bj,.int .i64 (nR (z:Dyadic)).e]:=by
    unfold lh;rw [aC hz,Zq,bZ,Y1,Zp,iB,nn]
    rfl
   refine ai (sr (mI (mL (aK ?_))));refine C0 ?_;refine cE ?_;refine cv aU.out rfl ((hr.ext hh.below).xv hgz) Yw ?_;refine bA hh (gm z _ Yv Yv) rfl ?_;intro w16 hh;refine fH [_,_,_,_,_,_] ?_;refine RI ?_;intro b18 w18 hh;refine pR ?_;intro A19 c19 w19 hh;simp only [YM,Zg] at hh;replace hh:=hh.sub (Zi _ _);refine lC ?_;refine bm (aI (aE (aj ?_)));refine ⟨⟨i+1,c19,A19,Yv,rfl,rfl, ?_⟩,by show n-(i+1)<n-i;omega, ?_⟩
   ·rw [e1];exact hh
   ·exact dO
  ·exact VM
theorem Aw (z:Int) (es:List UInt8) (A:Option Addr) (n c:Nat) (w:World) (hS:Sl w A n 1 (mM es)) (hz:z.natAbs<256) (hn:es.length=n) (hn2:n≤1000):
  Calls Tryz.prog 42 #[.int .i64 z,.slice A n c] w fun r w'=>∃B c',r=.returned (.agg #[.int .i64 n,.slice B 1 c'])∧Hp w [.row B 1 c' 80 4 (aD TR.cells [⟨str es,fh z⟩])] w':=by
 have hh:=Hp.start w;refine ak (N:=14) (l:=[.int .i64 z,.slice A n c]) Tryz.func42 rfl rfl (by simp) ?_;refine sr ?_;refine bW hh ?_;intro b4 w4 hh;refine aa (ai ?_);refine aW 8 [[(1,none)],[(5,some 0)],[(1,none)],[(7,some 2)],[(0,none)],[(9,some 4)],[(8,some 3),(10,some 5)],[(11,some 6)]] [(7,12),(6,11),(5,10),(4,9),(3,8),(2,7),(1,6),(0,5)] hh mixed Yx ?_;refine eQ ?_;refine sY ?_;refine eQ ?_;refine aO (i:=3) (Is (.string ⟨(es).toArray⟩)) Is.ext ?_ ?_
 ·intro ρ1 w1 hj hR;exact eJ rfl (iT (l:=es) bo.out bo.out bo.out (show ρ1 7=Value.slice _ _ _ from hR.1) (hS.ext hj.hp.below)) ⟨Below.refl _ _,rfl⟩
 refine cZ ?_;refine dC (fun _ hj=>gm z _ Yv Yv) ?_;refine dB [_,_,_,_] ?_;refine aO (i:=7) (ru hh.sz 80 1 4 (aD TR.cells [⟨str es,fh z⟩])) (ru.ext) ?_ ?_
 ·intro ρ1 w1 hj hR;exact S4 (sz:=4) bo.out aU.out (show ya ρ1 [(0,.tmp 11)]=[(0,.agg #[.string (str es),.bool (fh z).neg,.string (fh z).bj,.int .i64 (fh z).e])] from aX (show ρ1 11=_ from hR.1) cx) rfl rfl Yw Yw rfl Yw hj.bl.size fun v w2 h hb=>⟨hb,h⟩
 refine aM ?_;intro f W hJ hV;have hb_1:=hJ.bl;obtain ⟨v12,v11,v10,v9,v8,v7,v6,v5,_⟩:=hV;obtain ⟨A12,c12,e12,o12⟩:ru _ _ _ _ _ (f 7) W:=v12;replace hh:=JJ.FJ hh hJ.hp o12;clear o12;refine aQ (bg (ae e12 (ae v11 (ae v10 (ae v9 (ae v8 (ae v7 (ae v6 (ae v5 aR))))))))) ?_;dsimp only [bO];clear e12 hJ;refine fH [_,_] ?_;refine bV hh 1 [_,_] ?_;intro ws hh;replace hh:Hp _ (_::.blk _ _ [_,_] _::_) _:=hh;refine aa (ay ?_);refine zl ?_;exact ⟨A12,c12,rfl,hh.sub (YC _ (Zr _))⟩
theorem JU (p:PX) (L:Option Addr) (n c:Nat) (b:List SR) (M:Option Addr) (m mc:Nat) (ds:List Int) (A:Option Addr) (k ac:Nat) (l:List Int) (w:World) (hT:e8 w) (hp:p.at_ w) (lp:p.j8 124) (hB:Sl w L n 6 (aD SR.cells b)) (hb:∀s∈b,s.fin 124) (hn:n≤1000) (hD:Sl w M m 1 (bQ ds)) (hm:m≤1000) (hmc:m≤mc)
  (hgr:gQ (124+124+16394) (m9 p.v p.ts) (124+1)≤440000) (hS:Sl w A k 1 (bQ l)) (hl:∀z∈l,z.natAbs<256) (hk:k≤1000) (hE:xM p b ds=0) (hX:Dw (T4 p ds) (eH p (cO b)).2=l.map fun z:Int=>(z:Dyadic)):
  Calls Tryz.prog 41 #[.agg #[.int .i64 p.v,.slice p.A p.n p.c],.slice L n c,.slice M m mc,.slice A k ac] w fun r w'=>r=.returned (.bool true)∧Below w.heap.size w w':=by
 have hh:=Hp.start w;have hof:=fun w1 hT1 hb1=>Jm p L n c b M m mc ds 124 w1 hT1 (hp.ext hb1) lp (hB.ext hb1) hb Yv (hD.ext hb1) Yv hmc Yw (fun _=>hgr);rw [hE,hX] at hof;have hro:=fun w1 hb1=>m6 l A k ac w1 (hS.ext hb1) hl hk;have hll:l.length=k:=by have:=hS.1;rw [cD] at this;omega
 refine ak (N:=27) (l:=[.agg #[.int .i64 p.v,.slice p.A p.n p.c],.slice L n c,.slice M m mc,.slice A k ac]) Tryz.func41 rfl rfl (by simp) ?_;refine sr ?_;refine cu hh [_,_] ?_;intro b4 w4 hh;refine aB (aa (sr ?_));refine cC hh 0 [_,_] (mL (mL ?_));refine aJ (hof _ (hT.hp hh) hh.below) aw.out rfl Yw ?_;rintro e_ w15 ⟨g,og,rfl,h4⟩;refine ⟨_,rfl, ?_⟩;replace hh:=hh.join h4;clear h4;simp only [YJ,YH] at hh;have hcs:g.cs=l.map fh:=by
  rw [og.cs];show (l.map fun z:Int=>(z:Dyadic)).map nR=_;rw [Zy]
  rfl
 replace hh:=show Hp w (.row g.B g.m g.b 40 3 (aD NR.cells g.cs)::.row g.A g.n g.a 3 1 (bQ g.ds)::_) _ from hh;rw [hcs] at hh;have hgm:g.m=k:=by have:=(hh.aG (i:=0) rfl).bh NR.len Yw;rw [YO] at this;omega
 refine mT ?_;refine dx ?_;refine dx ?_;refine bW hh ?_;intro b9 w9 hh;refine bV hh 0 [_,_] ?_;intro ws hh;replace hh:Hp _ (.blk _ _ [_,_] _::_) _:=hh;refine aI (aa (ai ?_));refine aW 7 [[(10,none)],[(18,some 0)],[(19,some 1)],[(9,none),(20,some 2)],[(21,some 3),(20,some 2)],[(3,none),(20,some 2)],[(23,some 5),(20,some 2)]] [(6,24),(5,23),(4,22),(3,21),(2,20),(1,19),(0,18)] hh mixed Yx ?_;refine cZ ?_;refine qO ?_;refine j9 ?_;refine dG (cX ?_);refine dG (dT 0 ?_);refine dG (eQ ?_);refine aO (i:=6) (Rows k 3 (aD NR.cells (l.map fh))) (Rows.ext) ?_ ?_
 ·intro ρ1 w1 hj hR;exact bz rfl (show ρ1 20=Value.bool _ from hR.2.1) (bk rfl (aV aw.out (az (show ρ1 23=Value.slice _ _ _ from hR.1) bf)) (hro w1 hj.hp.below) (fun _ _ ⟨B,c',hq,h3⟩=>⟨_,hq,h3.below,B,c',rfl,h3.aG (i:=0) rfl⟩))
 refine aM ?_;intro f W hJ hV;have hb_2:=hJ.bl;obtain ⟨v24,v23,v22,v21,v20,v19,v18,_⟩:=hV;obtain ⟨A24,c24,e24,f24⟩:Rows _ _ _ (f 6) W:=v24;replace hh:=hJ.hp;refine aQ (bg (ae e24 (ae v23 (ae v22 (ae v21 (ae v20 (ae v19 (ae v18 aR)))))))) ?_;dsimp only [bO];clear e24 hJ;have hsg:=hh.aG (i:=1) rfl;rw [hgm];rw [hgm] at hsg;refine aP rfl rfl ?_;refine bA hh (lJ g.B k g.b (l.map fh) A24 c24 _ hsg f24 Yv) rfl ?_;intro w25 hh;refine fG ?_;exact xG
def fa (es:List UInt8) (z:Int):VP:=fun v W=>∃g:Option Addr×Nat,v=.agg #[.int .i64 es.length,.slice g.1 1 g.2]∧1≤g.2∧Sl W g.1 1 4 (aD TR.cells [⟨str es,fh z⟩])
theorem fa.ext {es:List UInt8} (v:Value) (w w':World) (h:fa es z v w) (hb:Below w.heap.size w w'):fa es z v w':=let ⟨g,h1,h2,h3⟩:=h;⟨g,h1,h2,h3.ext hb⟩
def VB (l:List Int):Bool:=l.all fun z=>decide (z.natAbs<256)
theorem nL {l:List Int} (h:VB l=true):∀z∈l,z.natAbs<256:=fun z hz=>Z8 (Y6.1 h z hz)
theorem U7 (l:List Int) (A:Option Addr) (n c:Nat) (w:World) (hS:Sl w A n 1 (bQ l)) (hl:VB l=true) (hn:n≤1000):Calls Tryz.prog 37 #[.slice A n c] w fun r w'=>∃v,r=.returned v∧Rows n 3 (aD NR.cells (l.map fh)) v w'∧Below w.heap.size w w':=
 (m6 l A n c w hS (nL hl) hn).mono fun r w' ⟨B,c',hr,h3⟩=>⟨_,hr,⟨B,c',rfl,h3.aG (i:=0) rfl⟩,h3.below⟩
theorem IM (l:List Int) (A:Option Addr) (n c:Nat) (w:World) (hS:Sl w A n 1 (bQ l)) (hl:VB l=true) (hn:n≤1000):Calls Tryz.prog 40 #[.slice A n c] w fun r w'=>∃v,r=.returned v∧Rows n 6 (aD SR.cells (lh l)) v w'∧Below w.heap.size w w':=
 (F2 l A n c w hS (nL hl) hn).mono fun r w' ⟨B,c',hr,h3⟩=>⟨_,hr,⟨B,c',rfl,h3.aG (i:=0) rfl⟩,h3.below⟩
theorem sH (z:Int) (es:List UInt8) (A:Option Addr) (n c:Nat) (w:World) (hS:Sl w A n 1 (mM es)) (hz:z.natAbs<256) (hn:es.length=n) (hn2:n≤1000):Calls Tryz.prog 42 #[.int .i64 z,.slice A n c] w fun r w'=>∃v,r=.returned v∧fa es z v w'∧Below w.heap.size w w':=
 (Aw z es A n c w hS hz hn hn2).mono fun r w' ⟨B,c',hr,h3⟩=>⟨_,hr,⟨(B,c'),by rw [hn],h3.dJ (i:=0) rfl,h3.aG (i:=0) rfl⟩,h3.below⟩
def PV (es:List UInt8) (z:Int):PX:=⟨es.length,none,0,0,[⟨str es,fh z⟩]⟩
theorem LV {p q:PX} (hv:p.v=q.v) (ht:p.ts=q.ts) (b:List SR) (ds:List Int):xM p b ds=xM q b ds∧T4 p ds=T4 q ds∧eH p (cO b)=eH q (cO b):=by
 obtain ⟨pv,pA,pn,pc,pt⟩:=p;obtain ⟨qv,qA,qn,qc,qt⟩:=q;replace hv:pv=qv:=hv;replace ht:pt=qt:=ht;subst hv ht;exact ⟨rfl,rfl,rfl⟩
def Xo (z:Int) (es:List UInt8) (bl ds l:List Int):Bool:=decide (z.natAbs<256∧es.length≤12∧xM (PV es z) (lh bl) ds=0∧Dw (T4 (PV es z) ds) (eH (PV es z) (cO (lh bl))).2=l.map (fun z:Int=>(z:Dyadic))∧gQ (124+124+16394) (m9 es.length [⟨str es,fh z⟩]) (124+1)≤440000) && VB bl && VB l
theorem VE (z:Int) (es:List UInt8) (bl ds l:List Int) (A:Option Addr) (c:Nat) (B:Option Addr) (n bc:Nat) (M:Option Addr) (m mc:Nat) (D:Option Addr) (k dc:Nat) (w:World) (hT:e8 w) (o:1≤c∧Sl w A 1 4 (aD TR.cells [⟨str es,fh z⟩])) (hB:Sl w B n 6 (aD SR.cells (lh bl))) (hM:Sl w M m 1 (bQ ds)) (hmc:m≤mc) (hS:Sl w D k 1 (bQ l))
  (hn:n≤1000) (hm:m≤1000) (hk:k≤1000) (hc:Xo z es bl ds l=true):
  Calls Tryz.prog 41 #[.agg #[.int .i64 es.length,.slice A 1 c],.slice B n bc,.slice M m mc,.slice D k dc] w fun r w'=>r=.returned (.bool true)∧Below w.heap.size w w':=by
 unfold Xo at hc;rw [YU,YU] at hc;obtain ⟨⟨hc,hbl⟩,hl⟩:=hc;obtain ⟨hz,hes,hE,hX,hg⟩:=Z8 hc;have hk1:=LV (p:=⟨es.length,A,1,c,[⟨str es,fh z⟩]⟩) (q:=PV es z) rfl rfl (lh bl) ds;refine JU ⟨es.length,A,1,c,[⟨str es,fh z⟩]⟩ B n bc (lh bl) M m mc ds D k dc l w hT o.2 ⟨by show 1≤1000000;decide,o.1,fun t ht=> ?_,fun t ht=> ?_⟩ hB (fun s hs=> ?_) hn hM hm hmc hg hS (nL hl) hk (hk1.1.trans hE) (by rw [hk1.2.1,hk1.2.2];exact hX)
 ·rw [YT.1 ht];exact ⟨(rj hz).1,(rj hz).2.mono Yw⟩
 ·rw [YT.1 ht];show (str es).size≤100000;rw [jm];omega
 ·obtain ⟨y,hy,rfl⟩:=YR.1 hs;have h1:=rj (nL hbl y hy);exact ⟨⟨(Sz.zero 124).ok Yw,by show Sz 124 (nR 0).d;rw [cj];exact Sz.zero _⟩,⟨h1.1,h1.2.mono Yw⟩⟩
abbrev fZ (A:Option Addr) (a:Nat) (B:Option Addr) (b:Nat):FX:=⟨A,1,a,B,3,b,[2],[0,0,4].map fh⟩
theorem FT (A:Option Addr) (a:Nat) (B:Option Addr) (b:Nat):(fZ A a B b).j8 24:=⟨by show 1≤1000;decide,by show 3≤100000;decide,fun c hc=>by
 obtain ⟨z,hz,rfl⟩:=YR.1 hc;exact rj (nL (l:=[0,0,4]) Yw z hz)⟩
theorem OI (A:Option Addr) (a:Nat) (B:Option Addr) (b:Nat) (L:Option Addr) (lc:Nat) (w:World) (hT:e8 w) (hf:(fZ A a B b).at_ w) (hb:3≤b) (hS:Sl w L 1 3 (aD NR.cells [nR (((1:Int):Dyadic)*se (-1))])):
  Calls Tryz.prog 10 #[.agg #[.slice A 1 a,.slice B 3 b],.slice L 1 lc] w fun r w'=>r=.returned (.tuple #[.agg #[.bool (nR ((1:Int):Dyadic)).neg,.string (nR ((1:Int):Dyadic)).bj,.int .i64 (nR ((1:Int):Dyadic)).e],.int .i64 0])∧Below w.heap.size w w':=by
 have z:Sz 25 (((1:Int):Dyadic)*se (-1)):=(show Sz 24 ((1:Int):Dyadic) from Ew (m:=1) (e:=0) Yw Yw Yw).mul (show Sz 1 (se (-1)) from ⟨1,by decide+kernel,Yw⟩);have hE:uI (fZ none 0 none 0) 1=0:=by decide+kernel
 have hV:yl (fZ none 0 none 0) [nR (((1:Int):Dyadic)*se (-1))]=((1:Int):Dyadic):=by decide+kernel
 have hns:(fZ A a B b).ns=[2]:=rfl;have:=tK (fZ A a B b) L 1 lc [nR (((1:Int):Dyadic)*se (-1))] 24 30 (2+2*(30*2)+(2+1)) w hT hf (FT A a B b) hb hS (fun s hs=>by
  rw [YT.1 hs,cj];exact ⟨OZ.of (z.mono Yw) Yw,((show Sz 25 (1:Dyadic) from Sz.one.mono Yw).sub z).mono Yw⟩) Yw (fun _ d hd=>by
  rw [hns,YT] at hd;subst hd;decide) (by show 24+1*_≤500000;decide)
 rw [show uI (fZ A a B b) 1=0 from hE,show yl (fZ A a B b) [nR (((1:Int):Dyadic)*se (-1))]=((1:Int):Dyadic) from hV] at this;exact this
theorem WE (A:Option Addr) (a:Nat) (B:Option Addr) (b:Nat) (w:World) (hT:e8 w) (hf:(fZ A a B b).at_ w) (ha:1≤a):
  Calls Tryz.prog 22 #[.agg #[.slice A 1 a,.slice B 3 b],.int .i64 0] w fun r w'=>∃g:FX,Out 0 [1] ([0,8].map fun z:Int=>(z:Dyadic)) g∧r=.returned (.tuple #[.agg #[.slice g.A g.n g.a,.slice g.B g.m g.b],.int .i64 0])∧Hp w [g.xK,g.vQ] w':=by
 have hE:mY (fZ none 0 none 0) 0=0:=by decide+kernel
 have hN:Ao [2] 0=[1]:=by decide+kernel
 have hX:BU [2] 0 (([0,0,4].map fh).map NR.d)=[0,8].map fun z:Int=>(z:Dyadic):=by decide+kernel
 have:=Ac (fZ A a B b) 0 24 w hT hf (FT A a B b) ha Yw;rw [show mY (fZ A a B b) 0=0 from hE,show Ao (fZ A a B b).ns (0:Int).toNat=[1] from hN,show BU (fZ A a B b).ns (0:Int).toNat ((fZ A a B b).cs.map NR.d)=_ from hX] at this;exact this
theorem Vq (A:Option Addr) (a:Nat) (B:Option Addr) (b:Nat) (L:Option Addr) (lc:Nat) (w:World) (hT:e8 w) (hf:(fZ A a B b).at_ w) (ha:1≤a) (hL:Sl w L 1 6 (aD SR.cells (lh [2]))):
  Calls Tryz.prog 28 #[.agg #[.slice A 1 a,.slice B 3 b],.slice L 1 lc] w fun r w'=>∃g:PX,dW 0 1 [⟨str [2],fh 4⟩] g∧r=.returned (.tuple #[.agg #[.int .i64 g.v,.slice g.A g.n g.c],.int .i64 0])∧Hp w [g.row] w':=by
 have hE:jB (fZ none 0 none 0) (lh [2])=0:=by decide+kernel
 have hR:(lv (fZ none 0 none 0) (lh [2])).2=[⟨str [2],fh 4⟩]:=by kernel_rfl
 have hG:rT 1 24 24 [2]≤400000∧gQ (24+16394) [2] (rT 1 24 24 [2]+4097)≤440000:=by decide+kernel
 have:=tx (fZ A a B b) L 1 lc (lh [2]) 24 24 w hT hf (FT A a B b) ha hL (fun s hs=>by
  obtain ⟨y,hy,rfl⟩:=YR.1 hs;have h1:=rj (nL (l:=[2]) Yw y hy);exact ⟨⟨(Sz.zero 24).ok Yw,by show Sz 24 (nR 0).d;rw [cj];exact Sz.zero _⟩,⟨h1.1,h1.2⟩⟩) Yw Yw (fun _ _=>hG.1) (fun _ _=>hG.2)
 rw [show jB (fZ A a B b) (lh [2])=0 from hE,show (lv (fZ A a B b) (lh [2])).2=_ from hR] at this;exact this
theorem Xm (ns:List Nat) (l:List Int) (A:Option Addr) (n c:Nat) (w:World) (hT:e8 w) (hS:Sl w A n 1 (bQ (cf ns))) (h:(decide (ns.length≤12∧aA ns≤4096) && ns.all (fun d=>decide (d≤127)) && decide ((ET ns).map (fun k:Nat=>(k:Int))=l))=true):
  Calls Tryz.prog 26 #[.slice A n c] w fun r w'=>∃v,r=.returned v∧Rows (aA ns) 3 (aD NR.cells (l.map fh)) v w'∧Below w.heap.size w w':=by
 rw [YU,YU] at h;obtain ⟨⟨h1,h2⟩,h3⟩:=h;have h1:=Z8 h1;have e:l.map fh=Ko ns:=by
  rw [←Z8 h3,Zy]
  rfl
 rw [e];exact (vT A n c ns w hT hS h1.1 (fun d hd=>Z8 (Y6.1 h2 d hd)) h1.2).mono fun r w' ⟨B,c',hr,ho,hb⟩=>⟨_,hr,⟨B,c',rfl,jx ho⟩,hb⟩
theorem TQ (g:FX) (h:FX) (w:World) (og:Out 0 [1] ([0,8].map fun z:Int=>(z:Dyadic)) g) (hg:g.at_ w) (oh:h.ds=[1]∧h.cs=[0,8].map fh∧h.at_ w):
  Calls Tryz.prog 24 #[.agg #[.slice g.A g.n g.a,.slice g.B g.m g.b],.agg #[.slice h.A h.n h.a,.slice h.B h.m h.b]] w fun r w'=>r=.returned (.bool true)∧Below w.heap.size w w':=
 tY g h w hg oh.2.2 ⟨og.ds.trans oh.1.symm,og.cs.trans oh.2.1.symm⟩ og.n og.m
theorem T0 (p:PX) (q:Option Addr×Nat) (w:World) (op:dW 0 1 [⟨str [2],fh 4⟩] p) (hp:p.at_ w) (hq:1≤q.2∧Sl w q.1 1 4 (aD TR.cells [⟨str [2],fh 4⟩])):
  Calls Tryz.prog 32 #[.agg #[.int .i64 p.v,.slice p.A p.n p.c],.agg #[.int .i64 1,.slice q.1 1 q.2]] w fun r w'=>r=.returned (.bool true)∧Below w.heap.size w w':=by
 have hv:p.v=1:=op.v;have ht:p.ts=[⟨str [2],fh 4⟩]:=op.ts;have hn:p.n=1:=by have:=hp.ln;rw [ht] at this;exact this.symm
 refine (tV p ⟨1,q.1,1,q.2,[⟨str [2],fh 4⟩]⟩ w hp hq.2 Yv (by show 1≤1000000;decide)).mono fun r w' ⟨v,hr,hi,hb⟩=> ?_;rw [hr,hi.2 ⟨hv,ht⟩];exact ⟨rfl,hb⟩
set_option maxRecDepth 100000 in
theorem rv (w:World) (hT:e8 w):Calls Tryz.prog 8 #[] w fun r w'=>r=.returned (.bool true)∧Below w.heap.size w w':=by
 have hh:=Hp.start w;refine ak (N:=116) (l:=[]) Tryz.func8 rfl rfl (by simp) ?_;refine sr (aB (aa (sr ?_)));refine cQ hh (cs:=[_]) bo.out aU.out (aX rfl cx) rfl rfl Yw Yw Yw rfl Yw ?_;intro b8 w8 hh;refine cQ hh (cs:=[_,_,_]) bo.out aU.out (aX rfl (aX rfl (aX rfl cx))) rfl rfl Yw Yw Yw rfl Yw ?_;intro b9 w9 hh;refine aJ (m6 [0,0,4] _ 3 _ _ (hh.aG (i:=0) rfl) (nL Yw) Yw) aw.out rfl Yw ?_;rintro e_ w10 ⟨A1,c1,rfl,h2⟩;refine ⟨_,rfl, ?_⟩;have hc1:3≤c1:=h2.dJ (i:=0) rfl;replace hh:=hh.join h2;simp only [YJ,YH] at hh;clear h2;replace hh:=hh.sub (YC _ (YI _ (YC _ Y5)));refine fH [_,_] ?_;refine bW hh ?_;intro b1 w1 hh;refine bV hh 0 [_,_] ?_;intro ws hh;replace hh:Hp _ (.blk _ _ [_,_] _::_) _:=hh;refine aa (ai ?_)
 refine cP [8] [7] [0,0,2,6,15,31,63,63,0,383,1023] 9 [[(1,none)],[],[(14,some 1)],[(15,some 2)],[(13,some 0),(16,some 3)],[(17,some 4)],[(12,some 5)],[(12,some 5)],[]] [(8,2),(7,19),(6,18),(5,12),(4,17),(3,16),(2,15),(1,14),(0,13)] hh mixed Yx (jL rfl aU.out dr) rfl (by repeat (first|exact cz|refine bU ?_|refine cw ?_)) ?_;refine ef 0 [_,_] ?_;refine dC (fun _ hj=>gm 1 _ Yw Yw) ?_;refine dC (fun _ hj=>zQ (nR ((1:Int):Dyadic)) (-1) _ (by decide+kernel) (by decide+kernel) (by decide+kernel) Yw Yw) ?_;refine pL [_,_,_] ?_;refine aO (i:=4) (Is (.tuple #[.agg #[.bool (nR ((1:Int):Dyadic)).neg,.string (nR ((1:Int):Dyadic)).bj,.int .i64 (nR ((1:Int):Dyadic)).e],.int .i64 0])) Is.ext ?_ ?_
 ·intro ρ1 w1 hj hR;obtain ⟨A16,c16,h16,s16⟩:=hR.2.1;exact bk rfl (aV aw.out (az (show ρ1 13=Value.agg (List.toArray _) from hR.1) (az h16 bf))) (OI (some ⟨b8,0,none⟩) 1 A1 c1 A16 c16 _ (hT.hp hj.hp) ⟨hj.hp.aG (i:=2) rfl,hj.hp.aG (i:=1) rfl⟩ hc1 s16) (fun _ _ hq=>⟨_,hq.1,hq.2,rfl⟩)
 refine Wl ?_;refine Px ?_;refine Px ?_;refine aO (i:=8) (cS _ 40 _) cS.ext (fun ρ1 w1 hj hR=>gP aU.out hj.bl (fun v w2 h hb=>⟨hb,h⟩)) ?_;refine aM ?_;intro f W hJ hV _;have hb_2:=hJ.bl;obtain ⟨v2,v19,v18,v12,v17,v16,v15,v14,v13,_⟩:=hV;obtain ⟨A16,c16,e16,f16⟩:Rows _ _ _ (f 3) W:=v16;obtain ⟨b2,e2,hl2,hc2⟩:cS _ _ _ (f 8) W:=v2;replace hh:=hJ.newVar hh hl2 hc2;refine aQ (bg (ae e2 (ae v19 (ae v18 (ae v12 (ae v17 (ae e16 (ae v15 (ae v14 (ae v13 aR)))))))))) ?_;dsimp only [bO];clear e16 e2 hJ;refine bV hh 0 [_,_,_] ?_;intro ws hh;replace hh:Hp _ (.blk _ _ [_,_,_] _::_) _:=hh;refine aI (aa (sr ?_));refine cC hh 1 [_,_] ?_;refine aJ (WE (some ⟨b8,0,none⟩) 1 A1 c1 _ (hT.hp hh) ⟨hh.aG (i:=3) rfl,hh.aG (i:=2) rfl⟩ (YE _)) aw.out rfl Yw ?_;rintro e_ w22 ⟨g,og,rfl,h4⟩;refine ⟨_,rfl, ?_⟩;replace hh:=hh.join h4;clear h4;simp only [YJ,YH] at hh;replace hh:=show Hp w (.row g.B g.m g.b 40 3 (aD NR.cells g.cs)::.row g.A g.n g.a 3 1 (bQ g.ds)::_) _ from hh;refine mT ?_;refine dx ?_;refine dx ?_;refine bW hh ?_;intro b4 w4 hh;refine bV hh 0 [_,_] ?_;intro ws hh
 replace hh:Hp _ (.blk _ _ [_,_] _::_) _:=hh;refine aI (aa (ai ?_));refine cP [7] [6] [0,0,2,7,15,31,31,0,191,511] 8 [[(1,none)],[],[(27,some 1)],[(26,some 0),(28,some 2)],[(29,some 3)],[(25,some 4)],[(25,some 4)],[]] [(7,6),(6,31),(5,30),(4,25),(3,29),(2,28),(1,27),(0,26)] hh mixed Yx (jL rfl aU.out dr) rfl (by repeat (first|exact cz|refine bU ?_|refine cw ?_)) ?_;refine ef 4 [_,_] ?_;refine pL [_] ?_;refine aO (i:=2) (Rows 1 6 (aD SR.cells (lh [2]))) Rows.ext ?_ ?_
 ·intro ρ1 w1 hj hR;obtain ⟨A27,c27,h27,s27⟩:=hR.1;exact bk rfl (aV aw.out (az h27 bf)) (IM [2] A27 1 c27 _ s27 Yw Yw) (fun _ _ ⟨v,hq,hp,hb⟩=>⟨v,hq,hb,hp⟩)
 refine aO (i:=3) (eV hh.sz 0 1 [⟨str [2],fh 4⟩]) (eV.ext) ?_ ?_
 ·intro ρ1 w1 hj hR;obtain ⟨A28,c28,h28,s28⟩:=hR.2.1;exact bk rfl (aV aw.out (az (show ρ1 26=Value.agg (List.toArray _) from hR.1) (az h28 bf))) (Vq (some ⟨b8,0,none⟩) 1 A1 c1 A28 c28 w1 (hT.hp hj.hp) ⟨hj.hp.aG (i:=6) rfl,hj.hp.aG (i:=5) rfl⟩ (YE _) s28) (fun _ _ ⟨g,og,hq,h3⟩=>⟨_,hq,h3.below,g,w1,rfl,og,hj.bl.size,h3⟩)
 refine aO (i:=4) (eV hh.sz 0 1 [⟨str [2],fh 4⟩]) (eV.ext) ?_ ?_
 ·exact F0
 refine aO (i:=5) (fR hh.sz 0 1 [⟨str [2],fh 4⟩]) (fR.ext) ?_ ?_
 ·exact EJ
 refine aO (i:=6) (Is (.int .i64 0)) (Is.ext) ?_ ?_
 ·exact EO
 refine aO (i:=7) (cS _ 24 _) cS.ext (fun ρ1 w1 hj hR=>gP aU.out hj.bl (fun v w2 h hb=>⟨hb,h⟩)) ?_;refine aM ?_;intro f W hJ hV _;have hb_4:=hJ.bl;obtain ⟨v6,v31,v30,v25,v29,v28,v27,v26,_⟩:=hV;obtain ⟨A27,c27,e27,f27⟩:Rows _ _ _ (f 1) W:=v27;obtain ⟨A28,c28,e28,f28⟩:Rows _ _ _ (f 2) W:=v28;obtain ⟨g29,u29,e29, -⟩:=v29;obtain ⟨g25,u25,e25, -⟩:=v25;obtain ⟨g30,u30,e30,o30,q30,h30⟩:=v30;obtain ⟨b6,e6,hl6,hc6⟩:cS _ _ _ (f 7) W:=v6;replace hh:=hJ.jH hh hl6 hc6 q30 h30 (PX.ne h30 hc6 Yw);refine aQ (bg (ae e6 (ae v31 (ae e30 (ae e25 (ae e29 (ae e28 (ae e27 (ae v26 aR))))))))) ?_;dsimp only [bO];clear e27 e28 e29 e25 e30 e6 hJ;refine bV hh 0 [_,_] ?_;intro ws hh;replace hh:Hp _ (.blk _ _ [_,_] _::_) _:=hh;refine aI (aa (ai ?_))
 refine cP [] [] [0,1,0,7,0,31,63,127,255,127,1023,127,4095,8191,16383,32767,65535,32767,262143,32767,1048575,2097151,4194303,8388607,16777215,8388607,67108863,8388607,8388607,536870911,1073741823,2147483647,4294967295,8589934591,4294967295,34359738367,4294967295,137438953471,274877906943,549755813887,1099511627775,1099511627775,4398046511103,8796093022207,17592186044415,35184372088831,70368744177663,140737488355327,281474976710655,562949953421311,562949953421311,562949953421311,2814749767106559,8444249301319679,18014398509481983,36028797018963967,72057594037927935,144115188075855871,288230376151711743,576460752303423487,1152921504606846975,2305843009213693951,2305843009213693951,6917529027641081855,18446744073709551615,36893488147419103231,73786976294838206463,147573952589676412927,295147905179352825855,590295810358705651711,1180591620717411303423,2361183241434822606847,4722366482869645213695,2361183241434822606847,18889465931478580854783,37778931862957161709567,75557863725914323419135,151115727451828646838271,302231454903657293676543,604462909807314587353087,302231454903657293676543,2417851639229258349412351,4835703278458516698824703,9671406556917033397649407,19342813113834066795298815] 81 [[],[(32,some 0)],[],[(34,some 2)],[],[(33,some 1),(35,some 3),(36,some 4)],[(37,some 5)],[(38,some 6)],[(39,some 7),(38,some 6)],[(38,some 6)],[(41,some 9),(38,some 6)],[(38,some 6)],[(40,some 8),(42,some 10),(43,some 11),(38,some 6)],[(38,some 6),(44,some 12)],[(45,some 13)],[(46,some 14)],[(47,some 15),(46,some 14)],[(46,some 14)],[(49,some 17),(46,some 14)],[(46,some 14)],[(48,some 16),(50,some 18),(51,some 19),(46,some 14)],[(46,some 14),(52,some 20)],[(53,some 21)],[(54,some 22)],[(55,some 23),(54,some 22)],[(54,some 22)],[(57,some 25),(54,some 22)],[(54,some 22)],[(54,some 22)],[(56,some 24),(58,some 26),(59,some 27),(60,some 28),(54,some 22)],[(54,some 22),(61,some 29)],[(62,some 30)],[(63,some 31)],[(64,some 32),(63,some 31)],[(63,some 31)],[(66,some 34),(63,some 31)],[(63,some 31)],[(65,some 33),(67,some 35),(68,some 36),(63,some 31)],[(63,some 31),(69,some 37)],[(70,some 38)],[(2,none),(71,some 39)],[(71,some 39)],[(72,some 40),(73,some 41),(71,some 39)],[(71,some 39),(74,some 42)],[(75,some 43)],[(3,none),(76,some 44)],[(77,some 45),(76,some 44)],[(76,some 44),(78,some 46)],[(79,some 47)],[(4,none),(80,some 48)],[(80,some 48)],[(80,some 48)],[(83,some 51),(80,some 48)],[(82,some 50),(84,some 52),(80,some 48)],[(81,some 49),(85,some 53),(80,some 48)],[(80,some 48),(86,some 54)],[(87,some 55)],[(5,none),(88,some 56)],[(89,some 57),(88,some 56)],[(88,some 56),(90,some 58)],[(91,some 59)],[(6,none),(92,some 60)],[(92,some 60)],[(94,some 62),(92,some 60)],[(93,some 61),(95,some 63),(92,some 60)],[(92,some 60),(96,some 64)],[(97,some 65)],[(7,none),(98,some 66)],[(99,some 67),(98,some 66)],[(98,some 66),(100,some 68)],[(101,some 69)],[(102,some 70)],[(103,some 71),(102,some 70)],[(102,some 70)],[(105,some 73),(102,some 70)],[(104,some 72),(106,some 74),(102,some 70)],[(102,some 70),(107,some 75)],[(108,some 76)],[(109,some 77)],[(110,some 78),(109,some 77)],[(109,some 77)]] [(80,112),(79,111),(78,110),(77,109),(76,108),(75,107),(74,106),(73,105),(72,104),(71,103),(70,102),(69,101),(68,100),(67,99),(66,98),(65,97),(64,96),(63,95),(62,94),(61,93),(60,92),(59,91),(58,90),(57,89),(56,88),(55,87),(54,86),(53,85),(52,84),(51,83),(50,82),(49,81),(48,80),(47,79),(46,78),(45,77),(44,76),(43,75),(42,74),(41,73),(40,72),(39,71),(38,70),(37,69),(36,68),(35,67),(34,66),(33,65),(32,64),(31,63),(30,62),(29,61),(28,60),(27,59),(26,58),(25,57),(24,56),(23,55),(22,54),(21,53),(20,52),(19,51),(18,50),(17,49),(16,48),(15,47),(14,46),(13,45),(12,44),(11,43),(10,42),(9,41),(8,40),(7,39),(6,38),(5,37),(4,36),(3,35),(2,34),(1,33),(0,32)] hh mixed Yx dr rfl (by repeat (first|exact cz|refine bU ?_|refine cw ?_)) ?_
 refine pL [_] ?_;refine aO (i:=1) (fa [1] 1) fa.ext ?_ ?_
 ·intro ρ1 w1 hj hR;obtain ⟨A32,c32,h32,s32⟩:=hR.1;exact bk rfl (aV aw.out (az rfl (az h32 bf))) (sH 1 [1] A32 1 c32 _ s32 Yw rfl Yw) (fun _ _ ⟨v,hq,hp,hb⟩=>⟨v,hq,hb,hp⟩)
 refine pL [_] ?_;refine aO (i:=3) (Rows 1 6 (aD SR.cells (lh [1]))) Rows.ext ?_ ?_
 ·intro ρ1 w1 hj hR;obtain ⟨A34,c34,h34,s34⟩:=hR.1;exact bk rfl (aV aw.out (az h34 bf)) (IM [1] A34 1 c34 _ s34 rfl Yw) (fun _ _ ⟨v,hq,hp,hb⟩=>⟨v,hq,hb,hp⟩)
 refine pL [_,_] ?_;refine aO (i:=5) (Is (.bool true)) Is.ext ?_ ?_
 ·intro ρ1 w1 hj hR;obtain ⟨A35,c35,h35,s35⟩:=hR.2.1;obtain ⟨A36,c36,h36,s36⟩:=hR.2.2.1;obtain ⟨g33,e33,o33⟩:=hR.1;exact bk rfl (aV aw.out (az e33 (az h35 (az rfl (az h36 bf))))) (VE 1 [1] [1] [] [0,1] g33.1 g33.2 A35 1 c35 none 0 0 A36 2 c36 _ (hT.hp hj.hp) o33 s35 (Sl.nil _ _ _) Yw s36 Yw Yw Yw (by decide+kernel)) (fun _ _ hq=>⟨_,hq.1,hq.2,rfl⟩)
 refine j9 ?_;refine bp (i:=7) (cs:=[_]) rfl (fun ρ1 w1 hj hR=>(show ρ1 38=Value.bool _ from hR.1)) bo.out aU.out (fun ρ1 w1 hj hR=>(aX rfl cx)) rfl rfl Yw Yw rfl ?_;refine aO (i:=8) (fa [1] 1) fa.ext ?_ ?_
 ·intro ρ1 w1 hj hR;obtain ⟨A39,c39,h39,s39⟩:=hR.1;refine bz rfl ((show ρ1 38=Value.bool _ from hR.2.1)) ?_;exact bk rfl (aV aw.out (az rfl (az h39 bf))) (sH 1 [1] A39 1 c39 _ s39 Yw rfl Yw) (fun _ _ ⟨v,hq,hp,hb⟩=>⟨v,hq,hb,hp⟩)
 refine bp (i:=9) (cs:=[_]) rfl (fun ρ1 w1 hj hR=>(show ρ1 38=Value.bool _ from hR.1)) bo.out aU.out (fun ρ1 w1 hj hR=>(aX rfl cx)) rfl rfl Yw Yw rfl ?_;refine aO (i:=10) (Rows 1 6 (aD SR.cells (lh [4]))) Rows.ext ?_ ?_
 ·intro ρ1 w1 hj hR;obtain ⟨A41,c41,h41,s41⟩:=hR.1;refine bz rfl ((show ρ1 38=Value.bool _ from hR.2.1)) ?_;exact bk rfl (aV aw.out (az h41 bf)) (IM [4] A41 1 c41 _ s41 rfl Yw) (fun _ _ ⟨v,hq,hp,hb⟩=>⟨v,hq,hb,hp⟩)
 refine bp (i:=11) (cs:=[_,_]) rfl (fun ρ1 w1 hj hR=>(show ρ1 38=Value.bool _ from hR.1)) bo.out aU.out (fun ρ1 w1 hj hR=>(aX rfl (aX rfl cx))) rfl rfl Yw Yw rfl ?_;refine aO (i:=12) (Is (.bool true)) Is.ext ?_ ?_
 ·intro ρ1 w1 hj hR;obtain ⟨A42,c42,h42,s42⟩:=hR.2.1;obtain ⟨A43,c43,h43,s43⟩:=hR.2.2.1;obtain ⟨g40,e40,o40⟩:=hR.1;refine bz rfl ((show ρ1 38=Value.bool _ from hR.2.2.2.1)) ?_;exact bk rfl (aV aw.out (az e40 (az h42 (az rfl (az h43 bf))))) (VE 1 [1] [4] [] [0,4] g40.1 g40.2 A42 1 c42 none 0 0 A43 2 c43 _ (hT.hp hj.hp) o40 s42 (Sl.nil _ _ _) Yw s43 Yw Yw Yw (by decide+kernel)) (fun _ _ hq=>⟨_,hq.1,hq.2,rfl⟩)
 refine Bt ?_;refine j9 ?_;refine bp (i:=15) (cs:=[_]) rfl (fun ρ1 w1 hj hR=>(show ρ1 46=Value.bool _ from hR.1)) bo.out aU.out (fun ρ1 w1 hj hR=>(aX rfl cx)) rfl rfl Yw Yw rfl ?_;refine aO (i:=16) (fa [2] 1) fa.ext ?_ ?_
 ·intro ρ1 w1 hj hR;obtain ⟨A47,c47,h47,s47⟩:=hR.1;refine bz rfl ((show ρ1 46=Value.bool _ from hR.2.1)) ?_;exact bk rfl (aV aw.out (az rfl (az h47 bf))) (sH 1 [2] A47 1 c47 _ s47 Yw rfl Yw) (fun _ _ ⟨v,hq,hp,hb⟩=>⟨v,hq,hb,hp⟩)
 refine bp (i:=17) (cs:=[_]) rfl (fun ρ1 w1 hj hR=>(show ρ1 46=Value.bool _ from hR.1)) bo.out aU.out (fun ρ1 w1 hj hR=>(aX rfl cx)) rfl rfl Yw Yw rfl ?_;refine aO (i:=18) (Rows 1 6 (aD SR.cells (lh [2]))) Rows.ext ?_ ?_
 ·intro ρ1 w1 hj hR;obtain ⟨A49,c49,h49,s49⟩:=hR.1;refine bz rfl ((show ρ1 46=Value.bool _ from hR.2.1)) ?_;exact bk rfl (aV aw.out (az h49 bf)) (IM [2] A49 1 c49 _ s49 rfl Yw) (fun _ _ ⟨v,hq,hp,hb⟩=>⟨v,hq,hb,hp⟩)
 refine bp (i:=19) (cs:=[_,_,_]) rfl (fun ρ1 w1 hj hR=>(show ρ1 46=Value.bool _ from hR.1)) bo.out aU.out (fun ρ1 w1 hj hR=>(aX rfl (aX rfl (aX rfl cx)))) rfl rfl Yw Yw rfl ?_;refine aO (i:=20) (Is (.bool true)) Is.ext ?_ ?_
 ·intro ρ1 w1 hj hR;obtain ⟨A50,c50,h50,s50⟩:=hR.2.1;obtain ⟨A51,c51,h51,s51⟩:=hR.2.2.1;obtain ⟨g48,e48,o48⟩:=hR.1;refine bz rfl ((show ρ1 46=Value.bool _ from hR.2.2.2.1)) ?_;exact bk rfl (aV aw.out (az e48 (az h50 (az rfl (az h51 bf))))) (VE 1 [2] [2] [] [0,0,4] g48.1 g48.2 A50 1 c50 none 0 0 A51 3 c51 _ (hT.hp hj.hp) o48 s50 (Sl.nil _ _ _) Yw s51 Yw Yw Yw (by decide+kernel)) (fun _ _ hq=>⟨_,hq.1,hq.2,rfl⟩)
 refine Bt ?_;refine j9 ?_;refine bp (i:=23) (cs:=[_]) rfl (fun ρ1 w1 hj hR=>(show ρ1 54=Value.bool _ from hR.1)) bo.out aU.out (fun ρ1 w1 hj hR=>(aX rfl cx)) rfl rfl Yw Yw rfl ?_;refine aO (i:=24) (fa [0] 3) fa.ext ?_ ?_
 ·intro ρ1 w1 hj hR;obtain ⟨A55,c55,h55,s55⟩:=hR.1;refine bz rfl ((show ρ1 54=Value.bool _ from hR.2.1)) ?_;exact bk rfl (aV aw.out (az rfl (az h55 bf))) (sH 3 [0] A55 1 c55 _ s55 Yw rfl Yw) (fun _ _ ⟨v,hq,hp,hb⟩=>⟨v,hq,hb,hp⟩)
 refine bp (i:=25) (cs:=[_]) rfl (fun ρ1 w1 hj hR=>(show ρ1 54=Value.bool _ from hR.1)) bo.out aU.out (fun ρ1 w1 hj hR=>(aX rfl cx)) rfl rfl Yw Yw rfl ?_;refine aO (i:=26) (Rows 1 6 (aD SR.cells (lh [1]))) Rows.ext ?_ ?_
 ·intro ρ1 w1 hj hR;obtain ⟨A57,c57,h57,s57⟩:=hR.1;refine bz rfl ((show ρ1 54=Value.bool _ from hR.2.1)) ?_;exact bk rfl (aV aw.out (az h57 bf)) (IM [1] A57 1 c57 _ s57 rfl Yw) (fun _ _ ⟨v,hq,hp,hb⟩=>⟨v,hq,hb,hp⟩)
 refine aO (i:=27) (ir 1 1 (bQ [2])) (ir.ext) ?_ ?_
 ·intro ρ1 w1 hj hR;exact bz rfl (show ρ1 54=Value.bool _ from hR.1) (jR (sz:=1) bo.out aU.out (show ya ρ1 [(0,.const (.int .i64 2))]=[(0,.int .i64 2)] from rfl) rfl rfl Yw Yw rfl fun v w2 h hb=>⟨hb,h⟩)
 refine bp (i:=28) (cs:=[_,_,_]) rfl (fun ρ1 w1 hj hR=>(show ρ1 54=Value.bool _ from hR.1)) bo.out aU.out (fun ρ1 w1 hj hR=>(aX rfl (aX rfl (aX rfl cx)))) rfl rfl Yw Yw rfl ?_;refine aO (i:=29) (Is (.bool true)) Is.ext ?_ ?_
 ·intro ρ1 w1 hj hR;obtain ⟨A58,c58,h58,s58⟩:=hR.2.1;obtain ⟨A60,c60,h60,s60⟩:=hR.2.2.2.1;obtain ⟨g56,e56,o56⟩:=hR.1;obtain ⟨g59,e59,o59⟩:=hR.2.2.1;refine bz rfl ((show ρ1 54=Value.bool _ from hR.2.2.2.2.1)) ?_;exact bk rfl (aV aw.out (az e56 (az h58 (az e59 (az h60 bf))))) (VE 3 [0] [1] [2] [3,6,3] g56.1 g56.2 A58 1 c58 (some ⟨g59,0,none⟩) 1 1 A60 3 c60 _ (hT.hp hj.hp) o56 s58 o59 Yw s60 Yw Yw Yw (by decide+kernel)) (fun _ _ hq=>⟨_,hq.1,hq.2,rfl⟩)
 refine Bt ?_;refine j9 ?_;refine bp (i:=32) (cs:=[_,_]) rfl (fun ρ1 w1 hj hR=>(show ρ1 63=Value.bool _ from hR.1)) bo.out aU.out (fun ρ1 w1 hj hR=>(aX rfl (aX rfl cx))) rfl rfl Yw Yw rfl ?_;refine aO (i:=33) (fa [1,1] 1) fa.ext ?_ ?_
 ·intro ρ1 w1 hj hR;obtain ⟨A64,c64,h64,s64⟩:=hR.1;refine bz rfl ((show ρ1 63=Value.bool _ from hR.2.1)) ?_;exact bk rfl (aV aw.out (az rfl (az h64 bf))) (sH 1 [1,1] A64 2 c64 _ s64 Yw rfl Yw) (fun _ _ ⟨v,hq,hp,hb⟩=>⟨v,hq,hb,hp⟩)
 refine bp (i:=34) (cs:=[_,_]) rfl (fun ρ1 w1 hj hR=>(show ρ1 63=Value.bool _ from hR.1)) bo.out aU.out (fun ρ1 w1 hj hR=>(aX rfl (aX rfl cx))) rfl rfl Yw Yw rfl ?_;refine aO (i:=35) (Rows 2 6 (aD SR.cells (lh [1,1]))) Rows.ext ?_ ?_
 ·intro ρ1 w1 hj hR;obtain ⟨A66,c66,h66,s66⟩:=hR.1;refine bz rfl ((show ρ1 63=Value.bool _ from hR.2.1)) ?_;exact bk rfl (aV aw.out (az h66 bf)) (IM [1,1] A66 2 c66 _ s66 rfl Yw) (fun _ _ ⟨v,hq,hp,hb⟩=>⟨v,hq,hb,hp⟩)
 refine bp (i:=36) (cs:=[_,_,_,_]) rfl (fun ρ1 w1 hj hR=>(show ρ1 63=Value.bool _ from hR.1)) bo.out aU.out (fun ρ1 w1 hj hR=>(aX rfl (aX rfl (aX rfl (aX rfl cx))))) rfl rfl Yw Yw rfl ?_;refine aO (i:=37) (Is (.bool true)) Is.ext ?_ ?_
 ·intro ρ1 w1 hj hR;obtain ⟨A67,c67,h67,s67⟩:=hR.2.1;obtain ⟨A68,c68,h68,s68⟩:=hR.2.2.1;obtain ⟨g65,e65,o65⟩:=hR.1;refine bz rfl ((show ρ1 63=Value.bool _ from hR.2.2.2.1)) ?_;exact bk rfl (aV aw.out (az e65 (az h67 (az rfl (az h68 bf))))) (VE 1 [1,1] [1,1] [] [0,0,0,1] g65.1 g65.2 A67 2 c67 none 0 0 A68 4 c68 _ (hT.hp hj.hp) o65 s67 (Sl.nil _ _ _) Yw s68 Yw Yw Yw (by decide+kernel)) (fun _ _ hq=>⟨_,hq.1,hq.2,rfl⟩)
 refine Bt ?_;refine j9 ?_;refine dG (ef 5 [_,_,_] ?_);refine g8 (i:=41) rfl (fun ρ1 w1 hj hR=>(show ρ1 71=Value.bool _ from hR.1)) (fun ρ1 w1 hj hR=>aV aw.out (az rfl bf)) (fun w1 hj=>gm 1 _ Yw Yw) ?_;refine uN (i:=42) rfl (fun ρ1 w1 hj hR=>(show ρ1 71=Value.bool _ from hR.2.2.1)) (fun ρ1 w1 hj hR=>zK (show ρ1 72=Value.agg (List.toArray _) from hR.1) (show ρ1 73=Value.agg (List.toArray _) from hR.2.1) (by first|assumption|rfl)) ?_;refine Bt ?_;refine j9 ?_;refine dG (cZ ?_);refine dG (qO ?_);refine Bt ?_;refine j9 ?_;refine dG (ef 2 [_,_] ?_);refine bp (i:=50) (cs:=[_]) rfl (fun ρ1 w1 hj hR=>(show ρ1 80=Value.bool _ from hR.1)) bo.out aU.out (fun ρ1 w1 hj hR=>(aX rfl cx)) rfl rfl Yw Yw rfl ?_;refine bp (i:=51) (cs:=[_,_]) rfl (fun ρ1 w1 hj hR=>(show ρ1 80=Value.bool _ from hR.1)) bo.out aU.out (fun ρ1 w1 hj hR=>(aX rfl (aX rfl cx))) rfl rfl Yw Yw rfl ?_;refine aO (i:=52) (Rows 2 3 (aD NR.cells ([0,8].map fh))) Rows.ext ?_ ?_
 ·intro ρ1 w1 hj hR;obtain ⟨A83,c83,h83,s83⟩:=hR.1;refine bz rfl ((show ρ1 80=Value.bool _ from hR.2.1)) ?_;exact bk rfl (aV aw.out (az h83 bf)) (U7 [0,8] A83 2 c83 _ s83 rfl Yw) (fun _ _ ⟨v,hq,hp,hb⟩=>⟨v,hq,hb,hp⟩)
 refine aO (i:=53) (zr [1] ([0,8].map fh)) (zr.ext) ?_ ?_
 ·intro ρ1 w1 hj hR;obtain ⟨A82,c82,h82,s82⟩:=hR.1;obtain ⟨A84,c84,h84,s84⟩:=hR.2.1;exact bz rfl (show ρ1 80=Value.bool _ from hR.2.2.1) (eJ rfl (uQ (cs:=[_,_]) aU.out nw.out (aX h82 (aX h84 cx)) rfl) ⟨Below.refl _ _,⟨A82,1,c82,A84,2,c84,[1],[0,8].map fh⟩,rfl,rfl,rfl,⟨s82,s84⟩⟩)
 refine aO (i:=54) (Is (.bool true)) Is.ext ?_ ?_
 ·intro ρ1 w1 hj hR;obtain ⟨g85,e85,o85⟩:=hR.2.1;refine bz rfl ((show ρ1 80=Value.bool _ from hR.2.2.1)) ?_;exact bk rfl (aV aw.out (az (show ρ1 81=Value.agg (List.toArray _) from hR.1) (az e85 bf))) (TQ g g85 _ og ⟨hj.hp.aG (i:=4) rfl,hj.hp.aG (i:=3) rfl⟩ o85) (fun _ _ hq=>⟨_,hq.1,hq.2,rfl⟩)
 refine Bt ?_;refine j9 ?_;refine dG (cZ ?_);refine dG (qO ?_);refine Bt ?_;refine j9 ?_;refine dG (ef 0 [_,_] ?_);refine bp (i:=62) (cs:=[_]) rfl (fun ρ1 w1 hj hR=>(show ρ1 92=Value.bool _ from hR.1)) bo.out aU.out (fun ρ1 w1 hj hR=>(aX rfl cx)) rfl rfl Yw Yw rfl ?_;refine aO (i:=63) (fa [2] 4) fa.ext ?_ ?_
 ·intro ρ1 w1 hj hR;obtain ⟨A94,c94,h94,s94⟩:=hR.1;refine bz rfl ((show ρ1 92=Value.bool _ from hR.2.1)) ?_;exact bk rfl (aV aw.out (az rfl (az h94 bf))) (sH 4 [2] A94 1 c94 _ s94 Yw rfl Yw) (fun _ _ ⟨v,hq,hp,hb⟩=>⟨v,hq,hb,hp⟩)
 refine aO (i:=64) (Is (.bool true)) Is.ext ?_ ?_
 ·intro ρ1 w1 hj hR;obtain ⟨g95,e95,o95⟩:=hR.2.1;refine bz rfl ((show ρ1 92=Value.bool _ from hR.2.2.1)) ?_;exact bk rfl (aV aw.out (az (show ρ1 93=Value.agg (List.toArray _) from hR.1) (az e95 bf))) (T0 g30 g95 _ o30 (hj.hp.aG (i:=1) rfl) o95) (fun _ _ hq=>⟨_,hq.1,hq.2,rfl⟩)
 refine Bt ?_;refine j9 ?_;refine dG (cZ ?_);refine dG (qO ?_);refine Bt ?_;refine j9 ?_;refine bp (i:=71) (cs:=[_]) rfl (fun ρ1 w1 hj hR=>(show ρ1 102=Value.bool _ from hR.1)) bo.out aU.out (fun ρ1 w1 hj hR=>(aX rfl cx)) rfl rfl Yw Yw rfl ?_;refine aO (i:=72) (Rows 3 3 (aD NR.cells ([1,2,1].map fh))) Rows.ext ?_ ?_
 ·intro ρ1 w1 hj hR;obtain ⟨A103,c103,h103,s103⟩:=hR.1;refine bz rfl ((show ρ1 102=Value.bool _ from hR.2.1)) ?_;exact bk rfl (aV aw.out (az h103 bf)) (Xm [2] [1,2,1] A103 1 c103 _ (hT.hp hj.hp) s103 (by decide+kernel)) (fun _ _ ⟨v,hq,hp,hb⟩=>⟨v,hq,hb,hp⟩)
 refine bp (i:=73) (cs:=[_,_,_]) rfl (fun ρ1 w1 hj hR=>(show ρ1 102=Value.bool _ from hR.1)) bo.out aU.out (fun ρ1 w1 hj hR=>(aX rfl (aX rfl (aX rfl cx)))) rfl rfl Yw Yw rfl ?_;refine aO (i:=74) (Rows 3 3 (aD NR.cells ([1,2,1].map fh))) Rows.ext ?_ ?_
 ·intro ρ1 w1 hj hR;obtain ⟨A105,c105,h105,s105⟩:=hR.1;refine bz rfl ((show ρ1 102=Value.bool _ from hR.2.1)) ?_;exact bk rfl (aV aw.out (az h105 bf)) (U7 [1,2,1] A105 3 c105 _ s105 rfl Yw) (fun _ _ ⟨v,hq,hp,hb⟩=>⟨v,hq,hb,hp⟩)
 refine aO (i:=75) (Is (.bool true)) Is.ext ?_ ?_
 ·intro ρ1 w1 hj hR;obtain ⟨A104,c104,h104,s104⟩:=hR.1;obtain ⟨A106,c106,h106,s106⟩:=hR.2.1;refine bz rfl ((show ρ1 102=Value.bool _ from hR.2.2.1)) ?_;exact bk rfl (aV aw.out (az h104 (az h106 bf))) (lJ A104 3 c104 ([1,2,1].map fh) A106 c106 _ s104 s106 Yw) (fun _ _ hq=>⟨_,hq.1,hq.2,rfl⟩)
 refine Bt ?_;refine j9 ?_;refine bp (i:=78) (cs:=[_,_]) rfl (fun ρ1 w1 hj hR=>(show ρ1 109=Value.bool _ from hR.1)) bo.out aU.out (fun ρ1 w1 hj hR=>(aX rfl (aX rfl cx))) rfl rfl Yw Yw rfl ?_;refine aO (i:=79) (Rows 6 3 (aD NR.cells ([1,2,1,1,2,1].map fh))) Rows.ext ?_ ?_
 ·intro ρ1 w1 hj hR;obtain ⟨A110,c110,h110,s110⟩:=hR.1;refine bz rfl ((show ρ1 109=Value.bool _ from hR.2.1)) ?_;exact bk rfl (aV aw.out (az h110 bf)) (Xm [1,2] [1,2,1,1,2,1] A110 2 c110 _ (hT.hp hj.hp) s110 (by decide+kernel)) (fun _ _ ⟨v,hq,hp,hb⟩=>⟨v,hq,hb,hp⟩)
 refine bp (i:=80) (cs:=[_,_,_,_,_,_]) rfl (fun ρ1 w1 hj hR=>(show ρ1 109=Value.bool _ from hR.1)) bo.out aU.out (fun ρ1 w1 hj hR=>(aX rfl (aX rfl (aX rfl (aX rfl (aX rfl (aX rfl cx))))))) rfl rfl Yw Yw rfl ?_;refine aM ?_;intro f W hJ hV _;have hb_5:=hJ.bl;obtain ⟨v112,v111,v110,v109,v108,v107,v106,v105,v104,v103,v102,v101,v100,v99,v98,v97,v96,v95,v94,v93,v92,v91,v90,v89,v88,v87,v86,v85,v84,v83,v82,v81,v80,v79,v78,v77,v76,v75,v74,v73,v72,v71,v70,v69,v68,v67,v66,v65,v64,v63,v62,v61,v60,v59,v58,v57,v56,v55,v54,v53,v52,v51,v50,v49,v48,v47,v46,v45,v44,v43,v42,v41,v40,v39,v38,v37,v36,v35,v34,v33,v32,_⟩:=hV;obtain ⟨A32,c32,e32,f32⟩:Rows _ _ _ (f 0) W:=v32;obtain ⟨g33,e33,o33⟩:fa [1] 1 (f 1) W:=v33;obtain ⟨A34,c34,e34,f34⟩:Rows _ _ _ (f 2) W:=v34;obtain ⟨A35,c35,e35,f35⟩:Rows _ _ _ (f 3) W:=v35;obtain ⟨A36,c36,e36,f36⟩:Rows _ _ _ (f 4) W:=v36;obtain ⟨A39,c39,e39,f39⟩:Rows _ _ _ (f 7) W:=v39;obtain ⟨g40,e40,o40⟩:fa [1] 1 (f 8) W:=v40;obtain ⟨A41,c41,e41,f41⟩:Rows _ _ _ (f 9) W:=v41;obtain ⟨A42,c42,e42,f42⟩:Rows _ _ _ (f 10) W:=v42
 obtain ⟨A43,c43,e43,f43⟩:Rows _ _ _ (f 11) W:=v43;obtain ⟨A47,c47,e47,f47⟩:Rows _ _ _ (f 15) W:=v47;obtain ⟨g48,e48,o48⟩:fa [2] 1 (f 16) W:=v48;obtain ⟨A49,c49,e49,f49⟩:Rows _ _ _ (f 17) W:=v49;obtain ⟨A50,c50,e50,f50⟩:Rows _ _ _ (f 18) W:=v50;obtain ⟨A51,c51,e51,f51⟩:Rows _ _ _ (f 19) W:=v51;obtain ⟨A55,c55,e55,f55⟩:Rows _ _ _ (f 23) W:=v55;obtain ⟨g56,e56,o56⟩:fa [0] 3 (f 24) W:=v56;obtain ⟨A57,c57,e57,f57⟩:Rows _ _ _ (f 25) W:=v57;obtain ⟨A58,c58,e58,f58⟩:Rows _ _ _ (f 26) W:=v58;obtain ⟨g59,e59,o59⟩:ir 1 1 (bQ [2]) (f 27) W:=v59;obtain ⟨A60,c60,e60,f60⟩:Rows _ _ _ (f 28) W:=v60;obtain ⟨A64,c64,e64,f64⟩:Rows _ _ _ (f 32) W:=v64;obtain ⟨g65,e65,o65⟩:fa [1,1] 1 (f 33) W:=v65;obtain ⟨A66,c66,e66,f66⟩:Rows _ _ _ (f 34) W:=v66;obtain ⟨A67,c67,e67,f67⟩:Rows _ _ _ (f 35) W:=v67;obtain ⟨A68,c68,e68,f68⟩:Rows _ _ _ (f 36) W:=v68;obtain ⟨A82,c82,e82,f82⟩:Rows _ _ _ (f 50) W:=v82;obtain ⟨A83,c83,e83,f83⟩:Rows _ _ _ (f 51) W:=v83;obtain ⟨A84,c84,e84,f84⟩:Rows _ _ _ (f 52) W:=v84;obtain ⟨g85,e85,o85⟩:zr [1] ([0,8].map fh) (f 53) W:=v85
 obtain ⟨A94,c94,e94,f94⟩:Rows _ _ _ (f 62) W:=v94;obtain ⟨g95,e95,o95⟩:fa [2] 4 (f 63) W:=v95;obtain ⟨A103,c103,e103,f103⟩:Rows _ _ _ (f 71) W:=v103;obtain ⟨A104,c104,e104,f104⟩:Rows _ _ _ (f 72) W:=v104;obtain ⟨A105,c105,e105,f105⟩:Rows _ _ _ (f 73) W:=v105;obtain ⟨A106,c106,e106,f106⟩:Rows _ _ _ (f 74) W:=v106;obtain ⟨A110,c110,e110,f110⟩:Rows _ _ _ (f 78) W:=v110;obtain ⟨A111,c111,e111,f111⟩:Rows _ _ _ (f 79) W:=v111;obtain ⟨A112,c112,e112,f112⟩:Rows _ _ _ (f 80) W:=v112;replace hh:=hJ.hp
 refine aQ (bg (ae e112 (ae e111 (ae e110 (ae v109 (ae v108 (ae v107 (ae e106 (ae e105 (ae e104 (ae e103 (ae v102 (ae v101 (ae v100 (ae v99 (ae v98 (ae v97 (ae v96 (ae e95 (ae e94 (ae v93 (ae v92 (ae v91 (ae v90 (ae v89 (ae v88 (ae v87 (ae v86 (ae e85 (ae e84 (ae e83 (ae e82 (ae v81 (ae v80 (ae v79 (ae v78 (ae v77 (ae v76 (ae v75 (ae v74 (ae v73 (ae v72 (ae v71 (ae v70 (ae v69 (ae e68 (ae e67 (ae e66 (ae e65 (ae e64 (ae v63 (ae v62 (ae v61 (ae e60 (ae e59 (ae e58 (ae e57 (ae e56 (ae e55 (ae v54 (ae v53 (ae v52 (ae e51 (ae e50 (ae e49 (ae e48 (ae e47 (ae v46 (ae v45 (ae v44 (ae e43 (ae e42 (ae e41 (ae e40 (ae e39 (ae v38 (ae v37 (ae e36 (ae e35 (ae e34 (ae e33 (ae e32 aR)))))))))))))))))))))))))))))))))))))))))))))))))))))))))))))))))))))))))))))))))) ?_;dsimp only [bO];clear e32 e33 e34 e35 e36 e39 e40 e41 e42 e43 e47 e48 e49 e50 e51 e55 e56 e57 e58 e59 e60 e64 e65 e66 e67 e68 e82 e83 e84 e85 e94 e95 e103 e104 e105 e106 e110 e111 e112 hJ;refine aP rfl rfl ?_;refine aJ (m6 [1,2,1,1,2,1] A112 6 c112 _ f112 (nL rfl) Yw) aw.out rfl Yw ?_;rintro e_ w113 ⟨A113,c113,rfl,h2⟩;refine ⟨_,rfl, ?_⟩;replace hh:=hh.ext h2.below;refine aP rfl rfl ?_
 refine bA hh (lJ A111 6 c111 ([1,2,1,1,2,1].map fh) A113 c113 _ (f111.ext h2.below) (h2.aG (i:=0) rfl) Yw) rfl ?_;intro w114 hh;refine fG ?_;exact xG
theorem qj (a:NR) (w:World):
  Calls Tryz.prog 36 #[.agg #[.bool a.neg,.string a.bj,.int .i64 a.e]] w fun r w'=>r=.returned (.bool (s7 a))∧Below w.heap.size w w':=by
 have hh:=Hp.start w;by_cases h1:(8:Int)<a.bj.size
 ·refine GJ ?_;refine sr ?_;refine cu hh [_,_,_] ?_;intro b1 w1 hh;refine aB (aa (sr (bJ (bJ ?_))));refine bG hh 0 ?_;refine bP bo.out rfl Yw ?_;refine bT (mB ?_);refine gS (gS (gS ?_));refine fG ?_;refine mB ?_;refine gS (gS (gS ?_));refine fG ?_;refine aB (aa (ay ?_));refine dh ?_;refine ⟨?_,hh.below⟩;unfold s7;rw [YV (.inl h1)]
 ·by_cases h2:a.e< -60
  ·refine GJ ?_;refine sr ?_;refine cu hh [_,_,_] ?_;intro b1 w1 hh;refine aB (aa (sr (bJ (bJ ?_))));refine bG hh 0 ?_;refine bP bo.out rfl Yw ?_;refine bT (mB (gT (bJ (gT ?_))));refine bG hh 0 ?_;refine gT ?_;refine a8 ?_;refine dX ?_;refine mB ?_;refine gS (gS (gS ?_));refine fG ?_;refine aB (aa (ay ?_));refine dh ?_;refine ⟨?_,hh.below⟩;unfold s7;rw [YV (.inr (.inl h2))]
  ·by_cases h3:60<a.e
   ·refine GJ ?_;refine sr ?_;refine cu hh [_,_,_] ?_;intro b1 w1 hh;refine aB (aa (sr (bJ (bJ ?_))));refine bG hh 0 ?_;refine bP bo.out rfl Yw ?_;refine bT (mB (gT (bJ (gT ?_))));refine bG hh 0 ?_;refine gT ?_;refine a8 ?_;refine dX ?_;refine mB (gT (bJ (gT ?_)));refine bG hh 0 ?_;refine gT ?_;refine bT ?_;refine dX ?_;refine aB (aa (ay ?_));refine dh ?_;refine ⟨?_,hh.below⟩;unfold s7;rw [YV (.inr (.inr h3))]
   ·refine GJ ?_;refine sr ?_;refine cu hh [_,_,_] ?_;intro b1 w1 hh;refine aB (aa (sr (bJ (bJ ?_))));refine bG hh 0 ?_;refine bP bo.out rfl Yw ?_;refine bT (mB (gT (bJ (gT ?_))));refine bG hh 0 ?_;refine gT ?_;refine a8 ?_;refine dX ?_;refine mB (gT (bJ (gT ?_)));refine bG hh 0 ?_;refine gT ?_;refine bT ?_;refine dX ?_;refine aB (aa (ay ?_));refine dh ?_;refine ⟨?_,hh.below⟩;unfold s7;rw [Y3 Yv]
theorem Ay (A:Option Addr) (n c:Nat) (ds:List Int) (w:World) (hS:Sl w A n 1 (bQ ds)):
  Calls Tryz.prog 70 #[.slice A n c] w fun r w'=>∃b:Bool,r=.returned (.bool b)∧(b=false→n≤20∧(oE ds≤4096→oE ds≤200∧∀d∈ds,¬(6<d∧d<128)))∧Below w.heap.size w w':=by
 have hh:=Hp.start w;have hln:ds.length=n:=by have:=hS.1;simpa [bQ] using this
 by_cases h1:20<n
 ·refine ak (N:=32) (l:=[.slice A n c]) Tryz.func70 rfl rfl (by simp) ?_;refine u9 ?_;refine bT (aa (cT (sr (aB (aa (ay (aN ?_)))))));exact ND
 ·have hc:=fun w1 hb=>p5 A n c ds w1 (hS.ext hb) Yv;generalize oE ds=q at*;by_cases h4:4096<q
  ·refine ak (N:=32) (l:=[.slice A n c]) Tryz.func70 rfl rfl (by simp) ?_;refine u9 ?_;refine bT (aa (cF (au (aj (sr (mL ?_))))));refine bA hh (hc _ hh.below) rfl ?_;intro w9 hh;refine aI (aa (ai (sr (mI ?_))));refine bT (aa (cT (sr (aB (aa (ay (aN ?_)))))));refine dh ?_;exact ⟨_,rfl,fun _=>⟨Yv,fun h=>absurd h Yv⟩,hh.below⟩
  ·refine ak (N:=32) (l:=[.slice A n c]) Tryz.func70 rfl rfl (by simp) ?_;refine u9 ?_;refine bT (aa (cF (au (aj (sr (mL ?_))))));refine bA hh (hc _ hh.below) rfl ?_;intro w9 hh;refine aI (aa (ai (sr (mI ?_))));refine bT (aa (cF (au (aj (ai (sr (aI (aa (av ?_)))))))));refine aT [2,4,12,13,14,15,16,17,18,19,20,21,22,23,24,25,26,27,28,29] 4
    (fun v w'=>∃i:Nat,i≤n∧v=.int .i64 i∧(∀d∈ds.take i,¬(6<d∧d<128))∧Hp w [] w')
    (fun v _=>n-(intOf v).toNat) ?_ ?_
   ·exact ⟨0,YD _,rfl,fun d hd=>(nomatch hd),hh⟩
   ·clear hh;rintro ρ2 v w2 ⟨j,hj,rfl,hall,hh⟩;by_cases hlt:j<n
    ·obtain ⟨d,hd⟩:=ao (l:=ds) (k:=j) Yv;have hgd:=cL hd;obtain ⟨a1,rfl,hr⟩:=hS.at_ Yv;by_cases h6:6<d
     ·by_cases h128:d<128
      ·refine ai (sr (mI (mL (aK ?_))));refine jq ?_;refine lW ?_;refine iD ?_;refine bT (mB (gT (mL (gT (mI (gT ?_))))));refine lW ?_;refine gT ?_;refine iD ?_;refine gT ?_;refine a8 ?_;refine fG ?_;exact OQ
      ·refine ai (sr (mI (mL (aK ?_))));refine jq ?_;refine lW ?_;refine iD ?_;refine bT (mB (gT (mL (gT (mI (gT ?_))))));refine lW ?_;refine gT ?_;refine iD ?_;refine gT ?_;refine a8 ?_;refine fG ?_;exact Qr
     ·refine ai (sr (mI (mL (aK ?_))));refine jq ?_;refine lW ?_;refine iD ?_;refine bT (mB ?_);refine gS (gS (gS (gS (gS ?_))));refine dX ?_;exact Qr
    ·rw [YG Yv] at hall;by_cases h3:200<q
     ·refine ai (sr (mI (mL (aK ?_))));refine a8 (aa (cF (a6 (aH (aH (bB (aj (sr (mI ?_)))))))));refine bT (aB (aa (ay ?_)));exact ND
     ·refine ai (sr (mI (mL (aK ?_))));refine a8 (aa (cF (a6 (aH (aH (bB (aj (sr (mI ?_)))))))));refine bT (aB (aa (ay ?_)));refine dh ?_;exact ⟨_,rfl,fun _=>⟨Yv,fun _=>⟨Yv,hall⟩⟩,hh.below⟩
theorem tI (A:Option Addr) (n c:Nat) (xs:List NR) (B:Option Addr) (m d:Nat) (b:List SR) (w:World) (hS:Sl w A n 3 (aD NR.cells xs)) (hB:Sl w B m 6 (aD SR.cells b)):
  Calls Tryz.prog 7 #[.slice A n c,.slice B m d] w fun r w'=>∃v:Bool,r=.returned (.bool v)∧(v=false→n≤200∧m≤20∧(∀x∈xs,s7 x=false)∧∀s∈b,s.fin 124)∧Below w.heap.size w w':=by
 have hh:=Hp.start w;have hln:xs.length=n:=hS.bh NR.len Yw;have hlb:b.length=m:=hB.bh SR.len Yw;by_cases h1:200<n
 ·refine NT ?_;refine u9 ?_;refine bT (mB ?_);refine gS (gS (gS ?_));refine fG ?_;refine aa (cT (sr (aB (aa (ay (aN ?_))))));exact ND
 ·by_cases h2:20<m
  ·refine NT ?_;refine u9 ?_;refine xR ?_;refine bT ?_;refine dX ?_;refine aa (cT (sr (aB (aa (ay (aN ?_))))));exact ND
  ·refine NT ?_;refine u9 ?_;refine xR ?_;refine bT ?_;refine dX ?_;refine aa (cF (au (aj (ai (sr (aI (aa (av ?_))))))));refine aT [4,5,15,16,17,18,19,20,21,22,23,24,25] 5
    (fun x w'=>∃i:Nat,i≤n∧x=.int .i64 i∧(∀x∈xs.take i,s7 x=false)∧Hp w [] w')
    (fun v _=>n-(intOf v).toNat) ?_ ?_
   ·exact Mm
   ·clear hh;rintro ρ' x_ w' ⟨i,hi,rfl,hall,hh⟩;by_cases hlt:i<n
    ·obtain ⟨x,hx⟩:=ao (l:=xs) (k:=i) Yv;obtain ⟨ad,rfl,hr⟩:=hS.at_ Yv;have hfa:=fun w1=>qj x w1;refine ai (sr (mI (mL (aK ?_))));refine jq ?_;refine cE ?_;refine cG (vs:=[_,_,_]) aU.out rfl ((hr.ext hh.below).recAt NR.len hx) rfl Yw ?_;refine bA hh (hfa _) rfl ?_;intro w25 hh
     cases hf:s7 x with
     |true=>
      exact OQ
     |false=>
      refine p8 ?_;refine bm (aI (aE (aj ?_)));refine ⟨⟨i+1,Yv,rfl,fun t ht=> ?_,hh⟩,by show n-(i+1)<n-i;omega, ?_⟩
      ·rw [aC hx] at ht
       rcases Zb.1 ht with ht|ht
       ·exact hall t ht
       ·rw [YT.1 ht];exact hf
      ·exact dO
    ·rw [YG Yv] at hall;refine ai (sr (mI (mL (aK ?_))));refine KG ?_;refine aT [4,6,26,27,28,29,30,31,32,33,34,35,36,37,38,39,40,41,42,43,44,45] 6
      (fun x w'=>∃i:Nat,i≤m∧x=.int .i64 i∧(∀s∈b.take i,s.fin 124)∧Hp w [] w')
      (fun v _=>m-(intOf v).toNat) ?_ ?_
     ·exact Mm
     ·clear hh;rintro ρ' x_ w' ⟨j,hj,rfl,hbx,hh⟩;by_cases hlt2:j<m
      ·obtain ⟨s,hs⟩:=ao (l:=b) (k:=j) Yv;obtain ⟨ad,rfl,hr⟩:=hB.at_ Yv;have hf1:=fun w1=>qj s.lo w1;have hf2:=fun w1=>qj s.hi w1;refine ai (sr (mI (mL (aK ?_))));refine jq ?_;refine lW ?_;refine oL ?_;refine cG (vs:=[_,_,_]) aU.out rfl (((((hr.ext hh.below).recAt SR.len hs).drop 0).take 3)) rfl Yw ?_
       cases hg1:s7 s.lo with
       |true=>
        rw [hg1] at hf1;refine bA hh (hf1 _) rfl ?_;intro w37 hh;refine mB ?_;refine gS (gS (gS (gS ?_)));refine jG ?_;refine jG ?_;refine fG ?_;exact OQ
       |false=>
        rw [hg1] at hf1;refine bA hh (hf1 _) rfl ?_;intro w37 hh;refine mB (gT (mL (gT (mI (gT ?_)))));refine lW ?_;refine gT ?_;refine oL ?_;refine aP rfl rfl ?_;refine cG (vs:=[_,_,_]) aU.out rfl (((((hr.ext hh.below).recAt SR.len hs).drop 3).take 3)) rfl Yw ?_
        cases hg2:s7 s.hi with
        |true=>
         rw [hg2] at hf2;refine aP rfl rfl ?_;refine bA hh (hf2 _) rfl ?_;intro w44 hh;refine dX ?_;exact OQ
        |false=>
         rw [hg2] at hf2;refine aP rfl rfl ?_;refine bA hh (hf2 _) rfl ?_;intro w44 hh;refine dX ?_;refine p8 ?_;refine bm (aI (aE (aj ?_)));refine ⟨⟨j+1,Yv,rfl,fun t ht=> ?_,hh⟩,by show m-(j+1)<m-j;omega, ?_⟩
         ·rw [aC hs] at ht
          rcases Zb.1 ht with ht|ht
          ·exact hbx t ht
          ·rw [YT.1 ht];obtain ⟨a1,a2⟩:=KV hg1;obtain ⟨a3,a4⟩:=KV hg2;exact ⟨⟨a1,a2⟩,⟨a3,a4⟩⟩
         ·exact dO
      ·rw [YG Yv] at hbx;refine ai (sr (mI (mL (aK ?_))));refine Hu ?_;refine dh ?_;exact ⟨_,rfl,fun _=>⟨Yv,Yv,hall,hbx⟩,hh.below⟩
structure Xd (fx:FX) (ax sd:Int) (g:FX):Prop where
 ds:g.ds=if QE fx ax sd=0 then fx.ds.eraseIdx ax.toNat else []
 cs:g.cs=if QE fx ax sd=0 then (WT (aA (fx.ns.drop (ax.toNat+1))) (fx.ns.getD ax.toNat 0) (fx.ns.getD ax.toNat 0*sd.toNat) (fx.cs.map NR.d) fx.m).map nR else []
 n:g.n≤100000
 m:g.m≤1000000
def Yi (ds:List Int):List NR:=if WZ ds=true then Ko (ds.map Int.toNat) else []
theorem zX (fx:FX) (w:World) (hf:fx.at_ w):
  Calls Tryz.prog 18 #[.agg #[.slice fx.A fx.n fx.a,.slice fx.B fx.m fx.b]] w fun r w'=>∃b:Bool,r=.returned (.bool b)∧(b=false→fx.m≤200∧fx.j8 124∧(fx.e=0→∀d∈fx.ns,d≤6))∧Below w.heap.size w w':=by
 have hh:=Hp.start w;refine ak (N:=11) (l:=[.agg #[.slice fx.A fx.n fx.a,.slice fx.B fx.m fx.b]]) Tryz.func18 rfl rfl (by simp) ?_;refine sr ?_;refine cu hh [_,_] ?_;intro b1 w1 hh;refine aB (aa (sr (bJ ?_)));refine bG hh 0 ?_;refine aJ (Ay fx.A fx.n fx.a fx.ds _ (hf.dg.ext hh.below)) aw.out rfl Yw ?_;rintro e_ w5 ⟨b1,rfl,hb1,hb_⟩;refine ⟨_,rfl, ?_⟩;replace hh:=hh.ext hb_
 cases b1 with
 |true=>
  refine mB ?_;refine gS (gS ?_);refine jG ?_;refine fG ?_;refine aB (aa (ay ?_));exact ND
 |false=>
  obtain ⟨V2,hst⟩:=hb1 rfl;refine mB (gT (bJ (gT ?_)));refine bG hh 0 ?_;refine aP rfl rfl ?_;refine aJ (tI fx.B fx.m fx.b fx.cs none 0 0 [] _ (hf.nm.ext hh.below) (Sl.nil _ _ _)) aw.out rfl Yw ?_;rintro e_ w9 ⟨b2,rfl,hb2,hb_⟩;refine ⟨_,rfl, ?_⟩;replace hh:=hh.ext hb_;refine dX ?_;refine aB (aa (ay ?_));refine dh ?_;refine ⟨_,rfl,fun h=> ?_,hh.below⟩;obtain ⟨m2,_,hall,_⟩:=hb2 h;refine ⟨m2,⟨Yv,Yv,fun c hc=>KV (hall c hc)⟩,fun h0 d hd=> ?_⟩;obtain ⟨hdeg,hnum,h12,hlow,hcnt,hmax⟩:=FX.fv h0;have hc:=Js hlow hmax;rw [←hdeg] at hc;have hd7:=hlow d hd;have:=(hst Yv).2 d (by rw [hdeg];exact YR.2 ⟨d,hd,rfl⟩);omega
variable {X:List Dyadic}
def TA (ns:List Nat) (X ts:List Dyadic) (r:Nat):Dyadic:=sm (List.range r) fun p=>iX X p*kj ns (fg ns p) ts
theorem Lc (ns:List Nat) (X ts:List Dyadic) (r:Nat):TA ns X ts (r+1)=TA ns X ts r+iX X r*kj ns (fg ns r) ts:=by
 unfold TA;rw [aas,jo]
theorem OV {ns:List Nat}{ts:List Dyadic} (ht:ts.length=ns.length):TA ns X ts (aA ns)=nB ns.reverse X ts.reverse:=by
 unfold TA nB;rw [de];refine bY fun p hp=> ?_;have h1:=iC ns p;have:=vz ns (fg ns p) ts h1 ht;unfold fg at this ⊢;rw [aaT] at this;rw [this]
 rfl
theorem MW {ns row:List Nat}{ts:List Dyadic}{a d r:Nat}{t:Dyadic} (h1:ns[a]?=some d) (h2:row[a]?=some r) (h3:ts[a]?=some t) (x:Dyadic):x*kj (ns.take a) (row.take a) (ts.take a)*t^r*(1-t)^(d-r)=x*kj (ns.take (a+1)) (row.take (a+1)) (ts.take (a+1)):=by
 have a1:=(YQ.1 h1).1;have a2:=(YQ.1 h2).1;have a3:=(YQ.1 h3).1;rw [aC h1,aC h2,aC h3,tk (by simp;omega) (by simp;omega)];unfold ke;grind
theorem RA (x y:Dyadic) (w:World) (hx:(nR x).ok) (hy:(nR y).ok):
  Calls Tryz.prog 75 #[.agg #[.bool (nR x).neg,.string (nR x).bj,.int .i64 (nR x).e],.agg #[.bool (nR y).neg,.string (nR y).bj,.int .i64 (nR y).e]] w fun r w'=>r=.returned (.agg #[.bool (nR (x*y)).neg,.string (nR (x*y)).bj,.int .i64 (nR (x*y)).e])∧Below w.heap.size w w':=by
 have:=kv (nR x) (nR y) w (by have:=hx.1;omega) (by have:=hy.1;omega) (by have:=hx.2;omega) (by have:=hx.2;omega) (by have:=hy.2;omega) (by have:=hy.2;omega);rwa [cj,cj] at this
theorem BF (fx:FX) (L:Option Addr) (m2 c2:Nat) (tn:List NR) (k:Nat) (w:World) (hf:fx.at_ w) (hl:fx.j8 k) (hk:k≤130) (hS:Sl w L m2 3 (aD NR.cells tn)) (hv:∀s∈tn,s.ok∧Sz k s.d):
  Calls Tryz.prog 30 #[.agg #[.slice fx.A fx.n fx.a,.slice fx.B fx.m fx.b],.slice L m2 c2] w fun r w'=>r=.returned (.tuple #[.agg #[.bool (nR (yl fx tn)).neg,.string (nR (yl fx tn)).bj,.int .i64 (nR (yl fx tn)).e],.int .i64 (uI fx m2)])∧Below w.heap.size w w':=by
 have hh:=Hp.start w;have hck:=fun w1 hb=>rP fx k w1 (hf.ext hb) hl;have hlt:=hS.bh NR.len Yw;have hev0:uI fx m2≠0→yl fx tn=0:=fun h=>by unfold yl;rw [hlt,YB h]
 have hn0:nR (0:Dyadic)=⟨false,⟨#[]⟩,0⟩:=rfl;by_cases h0:fx.e=0
 ·by_cases h1:m2=fx.n
  ·have hE:uI fx m2=0:=by unfold uI;rw [YB Yv,YB Yv]
   obtain ⟨hdeg,hnum,h12,hlow,hcnt,hmax⟩:=FX.fv h0;have hln:=hf.ln.1;have hlm:=hf.ln.2;have hnl:fx.ns.length=fx.n:=by unfold FX.ns;rw [YO];exact hln
   have htl:(tn.map NR.d).length=fx.ns.length:=by rw [YO];omega
   have hV:yl fx tn=TA fx.ns (fx.cs.map NR.d) (tn.map NR.d) (aA fx.ns):=by
    unfold yl;rw [hlt,YA hE,OV htl]
   rw [hE,hV];have hdg:Sl w fx.A fx.n 1 (bQ (cf fx.ns)):=by rw [←hdeg];exact hf.dg
   have hrw:=fun w1 hb=>r8 fx.A fx.n fx.a fx.ns w1 (hdg.ext hb) Yv hlow Yv;have hcp:=df fx.ns;obtain ⟨adC,hAC,sC⟩:=hf.nm.at_ Yv;have hevC:Value.slice fx.B fx.m fx.b=.slice (some adC) fx.m fx.b:=by rw [hAC]
   refine LK ?_;refine sr ?_;refine cu hh [_,_] ?_;intro b2 w2 hh;refine bW hh ?_;intro b4 w4 hh;refine aI (aa (ai (sr ?_)));refine cC hh 1 [_,_] ?_;refine bA hh (hck _ hh.below) rfl ?_;intro w14 hh;refine aI (aa (sr (mI ?_)));refine nt ?_;refine bG hh 1 ?_;refine aK ?_;refine wZ ?_;refine fH [_,_,_] ?_;refine bW hh ?_;intro b7 w7 hh;refine bV hh 0 [_,_,_] ?_;intro ws hh;replace hh:Hp _ (.blk _ _ [_,_,_] _::_) _:=hh;refine aa (sr (bJ ?_));refine bG hh 2 ?_;refine aJ (hrw _ hh.below) aw.out rfl Yw ?_;rintro e_ w29 ⟨A29,c29,rfl,hown_,hb_⟩;refine ⟨_,rfl, ?_⟩;replace hh:=hh.aY (x:=.row _ _ _ _ _ _) hb_ hown_;obtain ⟨g29,rfl⟩:=hh.cK (i:=0) rfl Yv;refine DQ ?_;replace hh:=hh.perm (Zh (l₁:=[_]));simp only [YJ,YH] at hh;obtain ⟨E,hEd⟩:∃E:Nat→Dyadic,∀r,E r=TA fx.ns (fx.cs.map NR.d) (tn.map NR.d) r:=⟨_,fun _=>rfl⟩;have hE0:E 0=0:=by rw [hEd];rfl
   rw [←hEd];refine aT [9,10,11,12,30,31,32,33,34,35,36,37,38,39,40,41,42,43,44,45,46,47,48,49,50,51,52,53,54,55,56,57,58,59,60,61,62,63,64,65,66,67,68,69,70,71,72,73,74,75,76,77,78,79,80] 9
    (fun v w'=>∃i:Nat,i≤aA fx.ns∧v=.int .i64 i∧Sz (400600+i) (E i)∧Hp w [.blk b7 40 [.bool (nR (E i)).neg,.string (nR (E i)).bj,.int .i64 (nR (E i)).e] (0,0),.row (some ⟨g29,0,none⟩) (aA fx.ns) c29 9 1 (iw (lE fx.ns)),.blk b4 40 [.bool false,.string ⟨#[]⟩,.int .i64 0] (0,0),.blk b2 33 [.slice fx.A fx.n fx.a,.slice fx.B fx.m fx.b] (0,0)] w')
    (fun v _=>aA fx.ns-(intOf v).toNat) ?_ ?_
   ·exact ⟨0,YD _,rfl,by rw [hE0];exact Sz.zero _,by rw [hE0,hn0];exact hh⟩
   ·clear hh;rintro ρ' v w' ⟨i,hi,rfl,hz,hh⟩;by_cases hlt2:i<aA fx.ns
    ·obtain ⟨x,hx⟩:=ao (l:=fx.cs) (k:=i) Yv;obtain ⟨ok1,sz1⟩:=hl.num x (YF hx);have hxn:nR x.d=x:=by
      have h8:=Zz (fun l=>l[i]?) hnum;rw [YN,YN,hx] at h8;exact (Zl h8).symm
     have hrp:=sw (vO hlt2);have hrr:=LZ (lO fx.ns.reverse i);have hEs:E (i+1)=E i+x.d*kj fx.ns (fg fx.ns i) (tn.map NR.d):=by
      rw [hEd,hEd,Lc];unfold iX;rw [YN,hx]
      rfl
     have hrl:=iC fx.ns i;unfold fg at hEs hrl;generalize (dy fx.ns.reverse i).reverse=rr at*;obtain ⟨C,hC⟩:∃C:Nat→Dyadic,∀a,C a=x.d*kj (fx.ns.take a) (rr.take a) ((tn.map NR.d).take a):=⟨_,fun _=>rfl⟩;have hC0:x=nR (C 0):=by
      rw [hC,ZS,ZS,ZS,show kj [] [] []=1 from rfl,abl];exact hxn.symm
     have hCn:E (i+1)=E i+C fx.n:=by rw [hEs,hC,YG Yv,YG Yv,YG Yv]
     have hC0z:Sz k (C 0):=by
      have:(nR (C 0)).d=x.d:=by rw [←hC0]
      rw [cj] at this;rw [this];exact sz1
     refine ai (sr (mI (mL (aK ?_))));refine DK ?_;refine bG hh 3 ?_;refine mI ?_;refine dm (k:=i) bo.out aU.size hevC rfl Yv Yv Yw ?_;refine cG (vs:=[_,_,_]) aU.out rfl ((sC.ext hh.below).recAt NR.len hx) rfl Yw ?_;refine bW hh ?_;intro b10 w10 hh;refine bV hh 0 [_,_,_] ?_;intro ws hh;replace hh:Hp _ (.blk _ _ [_,_,_] _::_) _:=hh;refine aa (ai (sr (aI (aa (av ?_)))));rw [hC0] at hh;refine aT [11,12,41,42,43,44,45,46,47,48,49,50,51,52,53,54,55,56,57,58,59,60,61,62,63,64,65,66,67,68,69,70,71,72,73,74,75,76,77] 11
      (fun v w'=>∃a:Nat,a≤fx.n∧v=.int .i64 a∧Sz (k+a*33300) (C a)∧Hp w [.blk b10 40 [.bool (nR (C a)).neg,.string (nR (C a)).bj,.int .i64 (nR (C a)).e] (0,0),.blk b7 40 [.bool (nR (E i)).neg,.string (nR (E i)).bj,.int .i64 (nR (E i)).e] (0,0),.row (some ⟨g29,0,none⟩) (aA fx.ns) c29 9 1 (iw (lE fx.ns)),.blk b4 40 [.bool false,.string ⟨#[]⟩,.int .i64 0] (0,0),.blk b2 33 [.slice fx.A fx.n fx.a,.slice fx.B fx.m fx.b] (0,0)] w')
      (fun v _=>fx.n-(intOf v).toNat) ?_ ?_
     ·exact ⟨0,YD _,rfl,hC0z.mono Yv,hh⟩
     ·clear hh;rintro ρ2 v w2 ⟨a,ha,rfl,hz2,hh⟩;by_cases hlt3:a<fx.n
      ·obtain ⟨d,hd⟩:=ao (l:=fx.ns) (k:=a) Yv;obtain ⟨r,hr⟩:=ao (l:=rr) (k:=a) Yv;obtain ⟨s,hs⟩:=ao (l:=tn) (k:=a) Yv;have hrd:=hrr a d r hd hr;have hd7:=hlow d (YF hd);obtain ⟨oks,szs⟩:=hv s (YF hs);have hst:C a*s.d^r*(1-s.d)^(d-r)=C (a+1):=by
        rw [hC,hC];exact MW hd hr (by rw [YN,hs];rfl) x.d
       obtain ⟨u2,hu2,hur⟩:=Ms hr Yv;have hu3:(fX (cf rr)).data.toList[(a:Int).toNat]?=some u2:=hu2;have hgD:(bQ (cf fx.ns))[a]?=some (.int .i64 (d:Int)):=cL (iG hd);obtain ⟨adD,hAD,sD⟩:=hdg.at_ Yv;have hevD:Value.slice fx.A fx.n fx.a=.slice (some adD) fx.n fx.a:=by rw [hAD]
       have hk1:k*r≤130*127:=ZV hk Yv;have hk2:(k+2)*(d-r)≤132*127:=ZV Yv Yv;have hk3:a*33300≤12*33300:=ZH _ Yv;have zp1:=szs.pow r;have z1t:Sz (k+2) (1-s.d):=(Sz.one.mono (show 1≤k+1 by omega)).sub (szs.mono Yv);have zp2:=z1t.pow (d-r);have zc1:=hz2.mul zp1;have zc2:=zc1.mul zp2;rw [hst] at zc2;have hpw1:=fun w1=>wH s (r:Int) w1 oks k szs (by rw [ZL];omega) Yv;rw [ZL] at hpw1;have hml1:=fun w1=>RA (C a) (s.d^r) w1 (hz2.ok Yv) (zp1.ok Yv);have hof:=fun w1=>gm 1 w1 Yw Yw;rw [show (((1:Int)):Dyadic)=1 from rfl] at hof;have hsb:=fun w1=>vD (nR 1) s w1 (Sz.one.ok Yw) oks (szs.ok Yv);rw [cj] at hsb;have hpw2:=fun w1=>wH (nR (1-s.d)) ((d:Int)-(r:Int)) w1 (z1t.ok Yv) (k+2) (by rw [cj];exact z1t) (by rw [show ((d:Int)-(r:Int)).toNat=d-r by omega];omega) Yv;rw [show ((d:Int)-(r:Int)).toNat=d-r by omega,cj] at hpw2;have hml2:=fun w1=>RA (C a*s.d^r) ((1-s.d)^(d-r)) w1 (zc1.ok Yv) (zp2.ok Yv);rw [hst] at hml2;have hz3:Sz (k+(a+1)*33300) (C (a+1)):=zc2.mono Yv
       clear hst zc1 zc2 zp1 zp2;subst hur;generalize nR (s.d^u2.toNat)=n1 at*;generalize nR ((1-s.d)^(d-u2.toNat))=n2 at*;generalize nR (1-s.d)=n3 at*;generalize nR 1=n4 at*;generalize nR (C a*s.d^u2.toNat)=n5 at*;obtain ⟨ad,rfl,hsr⟩:=hS.at_ Yv;refine ai (sr (mI (mL (aK ?_))));refine jq ?_;refine rz ?_;refine DR ?_;refine mI ?_;refine j4 ?_;refine vP ?_;refine aI (aa (ai ?_));refine aW 7 [[(10,none)],[(1,none)],[(11,none)],[(55,some 1),(56,some 2)],[(57,some 3)],[(12,none)],[(58,some 4),(59,some 5)]] [(6,60),(5,59),(4,58),(3,57),(2,56),(1,55),(0,54)] hh mixed Yx ?_;refine ef 0 [_,_,_] ?_;refine eQ ?_;refine cZ ?_;refine jA (a) ?_;refine nF [_,_,_] (fun _ hj=>(hsr.ext hj.hp.below).recAt NR.len hs) ?_;refine cZ ?_;refine dC (fun _ hj=>hpw1 _) ?_;refine aM ?_;intro f W hJ hV;have hb_16:=hJ.bl;obtain ⟨v60,v59,v58,v57,v56,v55,v54,_⟩:=hV;replace hh:=hJ.hp;refine aQ (bg (ae v60 (ae v59 (ae v58 (ae v57 (ae v56 (ae v55 (ae v54 aR)))))))) ?_;dsimp only [bO];clear hJ;refine bA hh (hml1 _) rfl ?_;intro w61 hh;refine bV hh 0 [_,_,_] ?_;intro ws hh;replace hh:Hp _ (.blk _ _ [_,_,_] _::_) _:=hh;refine aa ?_
       refine aW 15 [[(10,none)],[],[(1,none)],[(11,none)],[(64,some 2),(65,some 3)],[(66,some 4)],[(63,some 1),(67,some 5)],[(2,none)],[(69,some 7)],[(11,none)],[(70,some 8),(71,some 9)],[(72,some 10)],[(12,none)],[(73,some 11),(74,some 12)],[(68,some 6),(75,some 13)]] [(14,76),(13,75),(12,74),(11,73),(10,72),(9,71),(8,70),(7,69),(6,68),(5,67),(4,66),(3,65),(2,64),(1,63),(0,62)] hh mixed Yx ?_;refine ef 0 [_,_,_] ?_;refine dC (fun _ hj=>hof _) ?_;refine eQ ?_;refine cZ ?_;refine jA (a) ?_;refine nF [_,_,_] (fun _ hj=>(hsr.ext hj.hp.below).recAt NR.len hs) ?_;refine dC (fun _ hj=>hsb _) ?_;refine cX ?_;refine dT 4 ?_;refine cZ ?_;refine aO (i:=10) (Is (.pointer (some (adD.add (a*1))))) (Is.ext) ?_ ?_
       ·intro ρ1 w1 hj hR;exact eJ rfl (gl (k:=a) bo.out aU.size ((show ρ1 70=Value.slice _ _ _ from hR.1).trans hevD) (show ρ1 71=Value.int _ _ from hR.2.1) Yv Yv) ⟨Below.refl _ _,rfl⟩
       refine pK (fun _ hj=>(sD.ext hj.hp.below).xv hgD) ?_;refine cZ ?_;refine qE ?_;refine dC (fun _ hj=>hpw2 _) ?_;refine aM ?_;intro f W hJ hV;have hb_17:=hJ.bl;obtain ⟨v76,v75,v74,v73,v72,v71,v70,v69,v68,v67,v66,v65,v64,v63,v62,_⟩:=hV;replace hh:=hJ.hp;refine aQ (bg (ae v76 (ae v75 (ae v74 (ae v73 (ae v72 (ae v71 (ae v70 (ae v69 (ae v68 (ae v67 (ae v66 (ae v65 (ae v64 (ae v63 (ae v62 aR)))))))))))))))) ?_;dsimp only [bO];clear hJ;refine bA hh (hml2 _) rfl ?_;intro w77 hh;refine bV hh 0 [_,_,_] ?_;intro ws hh;replace hh:Hp _ (.blk _ _ [_,_,_] _::_) _:=hh;refine p9 ?_;refine bm (aI (aE (aj ?_)));refine ⟨⟨a+1,Yv,rfl,hz3,hh⟩,by show fx.n-(a+1)<fx.n-a;omega, ?_⟩;exact dO
      ·obtain rfl:a=fx.n:=Yv;have zEi:=hz.add (hz2.mono (show k+fx.n*33300≤400600+i by
        have:=ZH 33300 (show fx.n≤12 by omega);omega))
       have hpl:=fun w1=>nO (nR (E i)) (nR (C fx.n)) w1 (hz.ok Yv) (hz2.ok (by
        have:=ZH 33300 (show fx.n≤12 by omega);omega))
       rw [cj,cj,←hCn] at hpl;rw [←hCn] at zEi;refine ai (sr (mI (mL (aK ?_))));refine a8 (aa (cF (a6 (aH (aH (bB (aj (ar ?_))))))));refine cC hh 1 [_,_,_] ?_;refine cC hh 0 [_,_,_] ?_;refine bA hh (hpl _) rfl ?_;intro w80 hh;refine bV hh 1 [_,_,_] ?_;intro ws hh;replace hh:Hp _ (_::.blk _ _ [_,_,_] _::_) _:=hh;refine p9 ?_;refine bm (aI (aE (aj ?_)));replace hh:=hh.sub (YI _ (YC _ (YC _ (YC _ (YC _ Y5)))));refine ⟨⟨i+1,Yv,rfl,zEi,hh⟩,by show aA fx.ns-(i+1)<aA fx.ns-i;omega, ?_⟩;exact dO
    ·obtain rfl:i=aA fx.ns:=Yv;refine ai (sr (mI (mL (aK ?_))));refine yC ?_;refine cC hh 0 [_,_,_] ?_;refine bV hh 2 [_,_,_] ?_;intro ws hh;replace hh:Hp _ (_::_::.blk _ _ [_,_,_] _::_) _:=hh;refine aI (aa (ay ?_));refine PG (er rfl (ew (vs:=[_,_,_]) aU.out (hh.cn (i:=2) (n:=3) rfl rfl) rfl) (jF (kn rfl) fF)) ?_;exact ⟨rfl,hh.below⟩
  ·have hE:uI fx m2=1:=by unfold uI;rw [YB Yv,YA h1]
   rw [hE,hev0 (by rw [hE];decide),hn0];refine LK ?_;refine sr ?_;refine cu hh [_,_] ?_;intro b2 w2 hh;refine bW hh ?_;intro b4 w4 hh;refine aI (aa (ai (sr ?_)));refine cC hh 1 [_,_] ?_;refine bA hh (hck _ hh.below) rfl ?_;intro w14 hh;refine aI (aa (sr (mI ?_)));refine nt ?_;refine bG hh 1 ?_;refine aK ?_;refine db (aa (cT (sr ?_)));refine fH [_,_,_] ?_;exact Vb
 ·have hE:uI fx m2=fx.e:=by unfold uI;rw [YA h0]
  rw [hE,hev0 (by rw [hE];exact h0),hn0];refine LK ?_;refine sr ?_;refine cu hh [_,_] ?_;intro b2 w2 hh;refine bW hh ?_;intro b4 w4 hh;refine aI (aa (ai (sr ?_)));refine cC hh 1 [_,_] ?_;refine bA hh (hck _ hh.below) rfl ?_;intro w14 hh;refine aI (aa (sr (mI ?_)));refine db (aa (cT (sr ?_)));refine fH [_,_,_] (mI ?_);exact Vb
variable {E:Int}{ts:List TR}{w w':World}
theorem VS {x:NR} (h:s7 x=false):OZ 125 x x.d∧Sz 125 (1-x.d):=by
 obtain ⟨h1,h2⟩:=KV h;refine ⟨⟨h1, ?_,rfl,h2.mono Yw⟩,Sz.sub (Sz.one.mono Yw) h2⟩;unfold s7 at h;have h3:=of_decide_eq_false h;omega
theorem Md.Wy {g:FX}{R:List HE} (h:Md R g) (hh:Hp w R w'):g.n≤g.a∧g.m≤g.b:=by
 rcases h with rfl|⟨h,rfl⟩
 ·exact ⟨hh.dJ (i:=1) rfl,hh.dJ (i:=0) rfl⟩
 ·exact ⟨hh.dJ (i:=0) rfl,Yv⟩
theorem dW.Xy {v:Int}{g:PX} (o:dW E v ts g) (h:g.ts.length=g.n) (hl:E=0→ts.length≤4096):g.n≤1000000:=by
 have h2:=o.ts;by_cases hE:E=0
 ·rw [YA hE] at h2;have:=hl hE;rw [h2] at h;omega
 ·rw [YB hE] at h2;rw [h2] at h;exact h ▸ YD _
set_option maxRecDepth 10000 in
theorem uk (fx:FX) (L:Option Addr) (n c:Nat) (b:List SR) (M:Option Addr) (m mc:Nat) (tn:List NR) (w:World) (hT:e8 w) (hf:fx.at_ w) (hB:Sl w L n 6 (aD SR.cells b)) (hM:Sl w M m 3 (aD NR.cells tn)):
  Calls Tryz.prog 5 #[.agg #[.slice fx.A fx.n fx.a,.slice fx.B fx.m fx.b],.slice L n c,.slice M m mc] w fun r w'=>r=.returned (.bool true)∧Below w.heap.size w w':=by
 have hh:=Hp.start w;refine ak (N:=95) (l:=[.agg #[.slice fx.A fx.n fx.a,.slice fx.B fx.m fx.b],.slice L n c,.slice M m mc]) Tryz.func5 rfl rfl (by simp) ?_;refine sr ?_;refine cu hh [_,_] ?_;intro b3 w3 hh;refine aB (aa (ai (sr ?_)));refine cC hh 0 [_,_] ?_;refine aJ (zX fx _ (hf.ext hh.below)) aw.out rfl Yw ?_;rintro e_ w17 ⟨b1,rfl,hlg,hb_⟩;refine ⟨_,rfl, ?_⟩;replace hh:=hh.ext hb_
 cases b1 with
 |true=>
  refine mB ?_;refine gS (gS ?_);refine jG ?_;refine fG ?_;exact Rq
 |false=>
  obtain ⟨m2,hl,h6⟩:=hlg rfl;refine mB (gT (mL (gT (mL ?_))));refine aP rfl rfl ?_;refine aJ (tI M m mc tn L n c b _ (hM.ext hh.below) (hB.ext hh.below)) aw.out rfl Yw ?_;rintro e_ w21 ⟨b2,rfl,hwd,hb_⟩;refine ⟨_,rfl, ?_⟩;replace hh:=hh.ext hb_
  cases b2 with
  |true=>
   refine dX ?_;exact Rq
  |false=>
   obtain ⟨m20,V2,hfar,hbf⟩:=hwd rfl;by_cases hm1:100<fx.m
   ·refine dX ?_;refine mB (gT (bJ (gT ?_)));refine bG hh 0 ?_;refine gT (aK (gT ?_));refine bT ?_;refine dX ?_;refine mB ?_;refine gS (gS (gS (gS ?_)));refine fG ?_;exact SU
   ·by_cases hn1:4<fx.n
    ·refine dX ?_;refine mB (gT (bJ (gT ?_)));refine bG hh 0 ?_;refine gT (aK (gT ?_));refine bT ?_;refine dX ?_;refine mB (gT (bJ (gT ?_)));refine bG hh 0 ?_;refine gT (aK (gT ?_));refine bT ?_;refine dX ?_;exact SU
    ·refine dX ?_;refine mB (gT (bJ (gT ?_)));refine bG hh 0 ?_;refine gT (aK (gT ?_));refine bT ?_;refine dX ?_;refine mB (gT (bJ (gT ?_)));refine bG hh 0 ?_;refine gT (aK (gT ?_));refine bT ?_;refine dX ?_;refine wc ?_;refine cC hh 0 [_,_] ?_;refine aJ (Vl fx _ (hf.ext hh.below) Yv Yv) aw.out rfl Yw ?_;rintro e_ w37 ⟨o,R,d1,d2,d3,d4,rfl,hmi,h2⟩;refine ⟨_,rfl, ?_⟩;obtain ⟨oc1,oc2⟩:=hmi.Wy h2;replace hh:Hp w (_::R) _:=(hh.join h2).perm List.perm_append_comm;clear h2;have n1000:=hl.V2;have hol:o.cs.length=o.m:=by rw [d2,d4];exact hf.ln.2
     have ol:o.j8 124:=⟨by rw [d3];omega,by rw [d4];omega,by rw [d2];exact hl.num⟩;have kE:o.e=fx.e:=by unfold FX.e;rw [d1,d2]
     have kN:o.ns=fx.ns:=by unfold FX.ns;rw [d1]
     have kR:lv o b=lv fx b:=by unfold lv FB;rw [kN,d2]
     have kB:jB o b=jB fx b:=by unfold jB;rw [kE,kR,d3]
     have kV:uI o m=uI fx m:=by unfold uI;rw [kE,d3]
     have kW:yl o tn=yl fx tn:=by unfold yl uI;rw [kE,kN,d2,d3]
     have hln:=hf.ln.1;have hlm:=hf.ln.2;have hcnt:fx.e=0→aA fx.ns≤100:=fun h0=>by
      have:=(FX.fv h0).2.2.2.2.1;omega
     have hbb:=fun w1 hT1 ho hB1=>Dh o L n c b w1 hT1 ho ol oc1 hB1 hbf Yv Yv (by rw [kE,kN];exact h6);rw [kB,kR] at hbb;have hrb:=fun w1 hb1=>JM fx L n c b 124 w1 (hf.ext hb1) hl (hB.ext hb1) hbf Yv Yw hcnt h6;have heb:=fun w1 hT1 ho hM1=>tK o M m mc tn 124 125 1509 w1 hT1 ho ol oc2 hM1 (fun s hs=>VS (hfar s hs)) Yw (fun h0 d hd=>by
      rw [kE] at h0;rw [kN] at hd;have:=h6 h0 d hd;omega) (by rw [d3];omega)
     rw [kV,kW] at heb;have her:=fun w1 hb1=>BF fx M m mc tn 124 w1 (hf.ext hb1) hl Yw (hM.ext hb1) (fun s hs=>KV (hfar s hs));have hc1:=fun w1 hT1 ho=>uC o 124 w1 hT1 ho ol;rw [kE] at hc1;have hc2:=fun w1 hb1=>rP fx 124 w1 (hf.ext hb1) hl;clear kE kN kR kB kV kW;have hlen:jB fx b=0→(lv fx b).2.length≤4096:=fun h=>by
      obtain ⟨e1,e2,e3⟩:=Qi h;have hnl:fx.ns.length=fx.n:=by unfold FX.ns;rw [YO];exact hln
      exact (cB (GD e1 Yv (by have:=hcnt e1;omega) (h6 e1) hbf Yw fun c hc=>(hl.num c hc).2).2).2.1
     generalize (lv fx b).2=Q at*;generalize jB fx b=E1 at*;generalize nR (yl fx tn)=V at*;generalize uI fx m=E2 at*;generalize fx.e=E0 at*;refine bW hh ?_;intro b7 w7 hh;refine bV hh 0 [_,_] ?_;intro ws hh;replace hh:Hp _ (.blk _ _ [_,_] _::_) _:=hh;refine aa (sr ?_);refine cC hh 0 [_,_] (mL ?_);refine aJ (hbb _ (hT.hp hh) (hmi.at_ hol (fun x hx=>by simp [hx]) hh) (hB.ext hh.below)) aw.out rfl Yw ?_;rintro e_ w41 ⟨p1,o1,rfl,h2⟩;refine ⟨_,rfl, ?_⟩;replace hh:=hh.join h2;clear h2;simp only [YJ,YH] at hh;replace hh:=show Hp w (.row p1.A p1.n p1.c 80 4 (aD TR.cells p1.ts)::_) _ from hh;refine mT ?_;refine dx ?_;refine dx ?_;refine bW hh ?_;intro b8 w8 hh;refine bV hh 0 [_,_] ?_;intro ws hh;replace hh:Hp _ (.blk _ _ [_,_] _::_) _:=hh;refine aI (aa (sr ?_));refine cC hh 3 [_,_] (mL ?_);refine aJ (hrb _ hh.below) aw.out rfl Yw ?_;rintro e_ w47 ⟨p2,o2,rfl,h2⟩;refine ⟨_,rfl, ?_⟩;replace hh:=hh.join h2;clear h2;simp only [YJ,YH] at hh;replace hh:=show Hp w (.row p2.A p2.n p2.c 80 4 (aD TR.cells p2.ts)::_) _ from hh;refine mT ?_;refine dx ?_;refine dx ?_;refine bW hh ?_;intro b10 w10 hh
     refine bV hh 0 [_,_] ?_;intro ws hh;replace hh:Hp _ (.blk _ _ [_,_] _::_) _:=hh;refine aI (aa (sr ?_));refine cC hh 4 [_,_] (mL ?_);refine bA hh (heb _ (hT.hp hh) (hmi.at_ hol (fun x hx=>by simp [hx]) hh) (hM.ext hh.below)) rfl ?_;intro w53 hh;refine mT ?_;refine dx ?_;refine dx ?_;refine bW hh ?_;intro b12 w12 hh;refine bV hh 0 [_,_,_] ?_;intro ws hh;replace hh:Hp _ (.blk _ _ [_,_,_] _::_) _:=hh;refine aI (aa (sr ?_));refine cC hh 6 [_,_] (mL ?_);refine bA hh (her _ hh.below) rfl ?_;intro w59 hh;refine mT ?_;refine dx ?_;refine dx ?_;refine bW hh ?_;intro b14 w14 hh;refine bV hh 0 [_,_,_] ?_;intro ws hh;replace hh:Hp _ (.blk _ _ [_,_,_] _::_) _:=hh;refine aI (aa (ai ?_));have hn1_:p1.n≤1000000:=o1.Xy ((hh.aG (i:=5) rfl).bh TR.len Yw) hlen;have hn2_:p2.n≤1000000:=o2.Xy ((hh.aG (i:=3) rfl).bh TR.len Yw) hlen
     refine aW 28 [[(7,none)],[(62,some 0)],[(3,none)],[(64,some 2)],[(63,some 1),(65,some 3)],[(66,some 4)],[(9,none),(67,some 5)],[(11,none),(67,some 5)],[(68,some 6),(69,some 7),(67,some 5)],[(67,some 5),(70,some 8)],[(71,some 9)],[(8,none),(72,some 10)],[(10,none),(72,some 10)],[(73,some 11),(74,some 12),(72,some 10)],[(72,some 10),(75,some 13)],[(76,some 14)],[(12,none),(77,some 15)],[(14,none),(77,some 15)],[(78,some 16),(79,some 17),(77,some 15)],[(77,some 15),(80,some 18)],[(81,some 19)],[(13,none),(82,some 20)],[(15,none),(82,some 20)],[(83,some 21),(84,some 22),(82,some 20)],[(82,some 20),(85,some 23)],[(86,some 24)],[(7,none),(87,some 25)],[(3,none),(87,some 25)]] [(27,89),(26,88),(25,87),(24,86),(23,85),(22,84),(21,83),(20,82),(19,81),(18,80),(17,79),(16,78),(15,77),(14,76),(13,75),(12,74),(11,73),(10,72),(9,71),(8,70),(7,69),(6,68),(5,67),(4,66),(3,65),(2,64),(1,63),(0,62)] hh mixed Yx ?_;refine ef 6 [_,_] ?_;refine dC (fun _ hj=>hc1 _ (hT.hp hj.hp) (hmi.at_ hol (fun x hx=>by simp [hx]) hj.hp)) ?_
     refine ef 7 [_,_] ?_;refine dC (fun _ hj=>hc2 _ hj.hp.below) ?_;refine qO ?_;refine j9 ?_;refine dG (cZ ?_);refine dG (cZ ?_);refine dG (qO ?_);refine Bt ?_;refine j9 ?_;refine dG (ef 4 [_,_] ?_);refine dG (ef 2 [_,_] ?_);refine g8 (i:=13) rfl (fun ρ1 w1 hj hR=>(show ρ1 72=Value.bool _ from hR.2.2.1)) (fun ρ1 w1 hj hR=>aV aw.out (az (show ρ1 73=Value.agg (List.toArray _) from hR.1) (az (show ρ1 74=Value.agg (List.toArray _) from hR.2.1) bf))) (fun w1 hj=>Ej (g:=p1) (h:=p2) _ (hj.hp.aG (i:=5) rfl) (hj.hp.aG (i:=3) rfl) ⟨o1.v.trans o2.v.symm,o1.ts.trans o2.ts.symm⟩ hn1_ hn2_) ?_;refine Bt ?_;refine j9 ?_;refine dG (ef 1 [_,_,_] ?_);refine dG (ef 0 [_,_,_] ?_);refine uN (i:=18) rfl (fun ρ1 w1 hj hR=>(show ρ1 77=Value.bool _ from hR.2.2.1)) (fun ρ1 w1 hj hR=>zK (show ρ1 78=Value.agg (List.toArray _) from hR.1) (show ρ1 79=Value.agg (List.toArray _) from hR.2.1) (by first|assumption|rfl)) ?_;refine Bt ?_;refine j9 ?_;refine dG (cZ ?_);refine dG (cZ ?_);refine dG (qO ?_);refine Bt ?_;refine j9 ?_;refine dG (ef 6 [_,_] ?_);refine dG (ef 7 [_,_] ?_);refine aM ?_;intro f W hJ hV;have hb_8:=hJ.bl
     obtain ⟨v89,v88,v87,v86,v85,v84,v83,v82,v81,v80,v79,v78,v77,v76,v75,v74,v73,v72,v71,v70,v69,v68,v67,v66,v65,v64,v63,v62,_⟩:=hV;replace hh:=hJ.hp;refine aQ (bg (ae v89 (ae v88 (ae v87 (ae v86 (ae v85 (ae v84 (ae v83 (ae v82 (ae v81 (ae v80 (ae v79 (ae v78 (ae v77 (ae v76 (ae v75 (ae v74 (ae v73 (ae v72 (ae v71 (ae v70 (ae v69 (ae v68 (ae v67 (ae v66 (ae v65 (ae v64 (ae v63 (ae v62 aR))))))))))))))))))))))))))))) ?_;dsimp only [bO];clear hJ;refine aP rfl rfl ?_;refine bA hh (tY o fx _ (hmi.at_ hol (fun x hx=>by simp [hx]) hh) (hf.ext hh.below) ⟨d1,d2⟩ Yv Yv) rfl ?_;intro w90 hh;refine fG ?_;refine mB ?_;refine aP rfl rfl ?_;refine bA hh (rv _ (hT.hp hh)) rfl ?_;intro w93 hh;refine fG ?_;exact xG
end Go.Proofs.YtolamocnngihpaaGreatDoor
namespace Go.Proofs.YtolamocnngihpaaGreatDoor.bernBacks
open Go.ChangeShapes Go.WideShapes Go.ChangeAt Go.RowKit Go.ChangeMaps
theorem own:ownKnob Tryz.prog.godebug=none:=by kernel_rfl
set_option maxRecDepth 100000 in
theorem lifted (os:Os) (started:os.Started) (H:Type) (enc:TypeId×Value→H):
  ReturnsInHanded {} Tryz.checked os 5 .any (fun w args=>(Rows.bernBacksSpec.pre enc Tryz.prog Tryz.f5 Rows.bernBacksRow.domain false w args∧laidMetH Tryz.prog Rows.bernBacksRow.laid w)∧sizedMet enc Tryz.prog Tryz.f5 (OpenSpec.ofChange Rows.bernBacksSpec) false w args)
   (Rows.bernBacksSpec.post enc Tryz.prog Tryz.f5 false true false false):=by
 refine returnsInHanded_of_change_and (C:=Tryz.checked) (X:=fun w _=>laidMetH Tryz.prog Rows.bernBacksRow.laid w) (fun _ _ _ hh h=>h.of_heap hh) own started Yx Tryz.func5
  (ChangeSpec.witness_shaped (enc:=enc) (C:=Tryz.checked) (os:=os) (X:=fun w _=>laidMetH Tryz.prog Rows.bernBacksRow.laid w) false (World.laidAll Tryz.prog os Rows.bernBacksRow.laid) #[.agg #[.slice none 0 0,.slice none 0 0],.slice none 0 0,.slice none 0 0] 8 (World.laidAll_os _ _ _)
   (World.shaped_of_ZipB Yx Yx) Yx Yx Yx
   (by rw [MakeChecks.laidMetH_plain _ _ _ Yx];exact laidMet_laidAll _ Yx Yx)) ?_
 intro W base args ds gs before hval0 hW hc _ hL _;have hval:∀(j:Nat) t v,Tryz.f5.params[j]?=some t→args[j]?=some v→Value.okWide Tryz.prog W .any base t v:=hval0;have hW':=hW;obtain ⟨p,q,hA0,hV,rfl,hfz,hnd⟩:=hW;have hA:DataW.TrodAll enc Tryz.prog W 0 (fun _=>true) true Tryz.f5.params.toList args.toList ds p:=hA0;rw [Tryz.params5] at hA hval;obtain ⟨v0,vs0,d0,ds0,p0,q0,hargs,rfl,rfl,h0,r0⟩:=trodAll_cons hA;obtain ⟨v1,vs1,d1,ds1,p1,q1,rfl,rfl,rfl,h1,r1⟩:=trodAll_cons r0;obtain ⟨v2,vs2,d2,ds2,p2,q2,rfl,rfl,rfl,h2,r2⟩:=trodAll_cons r1;obtain ⟨rfl,rfl,rfl⟩:=trodAll_nil r2;obtain rfl:args= #[v0,v1,v2]:=by cases args;simp_all
 obtain ⟨rfl,rfl⟩:=trodVars_none hV;obtain ⟨f0,rfl,hS0⟩:=II (hval 0 33 v0 rfl rfl) h0;obtain ⟨A1,n1,c1,l1,rfl,hS1,_⟩:=ME (hval 1 26 v1 rfl rfl) h1;obtain ⟨A2,n2,c2,l2,rfl,hS2,_⟩:=J3 (hval 2 27 v2 rfl rfl) h2;refine (uk f0 A1 n1 c1 l1 A2 n2 c2 l2 W (BT hL) hS0 hS1 hS2).mono fun e W' ⟨he,hb⟩=> ?_;subst he;exact ⟨_,rfl,Ny hW' rfl Yx (by rw [Tryz.params5];exact Z8 Yx) Yx Tryz.underlying4 rfl rfl rfl hb⟩
set_option maxHeartbeats 8000000 in
theorem row_holds:Rows.BernBacksSaid:=
 OpenClaim.holds_of_wide 5 Tryz.f5 rfl rfl rfl rfl rfl rfl rfl ⟨rfl,rfl,rfl,rfl,rfl⟩ rfl rfl rfl rfl rfl (by as_aux_lemma=>kernel_rfl) Tryz.func5 (by rw [joinedFacts];simp only [YU];and_intros<;>as_aux_lemma=>kernel_rfl)
  (Z8 (by as_aux_lemma=>kernel_rfl)) (by unfold Func.isWrapper;first|(rw [YA (by decide+kernel)];kernel_rfl)|(rw [YB (by decide+kernel)];exact ⟨rfl,rfl⟩))
  (fun os started H enc _=>lifted os started H enc)
set_option maxHeartbeats 8000000 in
theorem holds:Rows.BernBacksCardSaid:=
 Claim7.holds_tied_plain_at .later [] [.data,.data,.pinned] true (true, "15fc428570404c1c4f877d5cd081ecd01040701ee8595d1e80cdc073447d7c3e") false row_holds (fun _ h=>by cases h) (by as_aux_lemma=>kernel_rfl) (fun _ h=>by cases h) bernBacks_row_tie rfl ⟨rfl,rfl⟩ (by as_aux_lemma=>kernel_rfl) rfl
  (fun f fn hf hfn=>by
   obtain rfl:f=5:=Zl ((show Tryz.prog.funcNamed "ogee/ogeelaw12.BernBacks" =some 5 by as_aux_lemma=>kernel_rfl).symm.trans hf)|>.symm;obtain rfl:fn=Tryz.f5:=(Zl (Tryz.func5.symm.trans hfn)).symm;exact ⟨by as_aux_lemma=>kernel_rfl,fun j t ht=>by
    rw [Tryz.params5] at ht;have hm:t∈[33,26,27]:=by simpa using Array.mem_of_getElem? ht
    have hall:([33,26,27].all fun u=> !Tryz.prog.wantsStandIn u)=true:=by as_aux_lemma=>kernel_rfl
    exact (show Tryz.prog.wantsStandIn t=false by simpa using Y6.1 hall t hm)⟩)
  (by as_aux_lemma=>kernel_rfl)
#print axioms holds
end Go.Proofs.YtolamocnngihpaaGreatDoor.bernBacks
