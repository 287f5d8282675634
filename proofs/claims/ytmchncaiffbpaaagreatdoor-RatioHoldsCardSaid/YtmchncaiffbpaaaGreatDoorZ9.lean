/- The row and the card of RatioHolds. -/
import Derived.OrdersIn
import Derived.Test.YtmchncaiffbpaaaGreatDoorCards
import Derived.Test.YtmchncaiffbpaaaGreatDoorTie
import Derived.SevenTiedAt
import Derived.Test.YtmchncaiffbpaaaGreatDoorZ8
namespace Go.Proofs.YtmchncaiffbpaaaGreatDoor
variable {X Y:List Dyadic}{ds:List Nat}
open Go.RowKit
theorem n8 {x y:Dyadic} (hx:0≤x) (hy:0≤y):0≤x*y:=by
 rcases (by grind:x=0∨0<x) with h|h
 ·rw [h,Dyadic.zero_mul];grind
 ·rcases (by grind:y=0∨0<y) with h2|h2
  ·rw [h2,Dyadic.mul_zero];grind
  ·have:=Lean.Grind.OrderedRing.mul_pos h h2;grind
theorem FY {x:Dyadic} (hx:0≤x):∀n:Nat,0≤x^n
 |0=>by rw [abC];decide+kernel
 |n+1=>by rw [Dyadic.pow_succ];exact n8 (FY hx n) hx
theorem LI {x:Dyadic} (hx:0<x):∀n:Nat,0<x^n
 |0=>by rw [abC];decide+kernel
 |n+1=>by rw [Dyadic.pow_succ];exact Lean.Grind.OrderedRing.mul_pos (LI hx n) hx
theorem uu:∀(ds rs:List Nat) (ts:List Dyadic),(∀t∈ts,0≤t∧t<1)→0≤lV ds rs ts
 |[],_,_,_=>by show (0:Dyadic)≤1;decide+kernel
 |_::_,[],_,_=>by show (0:Dyadic)≤1;decide+kernel
 |_::_,_::_,[],_=>by show (0:Dyadic)≤1;decide+kernel
 |d::ds,r::rs,t::ts,h=>by
  obtain ⟨h1,h2⟩:=h t YD;exact n8 (n8 (FY h1 r) (FY (by grind) (d-r))) (uu ds rs ts fun t ht=>h t (YK _ ht))
theorem Hg:∀(ds:List Nat) (ts:List Dyadic),(∀t∈ts,0≤t∧t<1)→0<lV ds (bW ds 0) ts
 |[],_,_=>by show (0:Dyadic)<1;decide+kernel
 |d::ds,[],_=>by show (0:Dyadic)<1;decide+kernel
 |d::ds,t::ts,h=>by
  obtain ⟨h1,h2⟩:=h t YD;have e:bW (d::ds) 0=0::bW ds 0:=by
   show 0 % (d+1)::bW ds (0/(d+1))=_;rw [Nat.zero_mod,Nat.zero_div]
  rw [e];refine Lean.Grind.OrderedRing.mul_pos ?_ (Hg ds ts fun t ht=>h t (YK _ ht));unfold nN;rw [abC,aap];exact LI (by grind) _
theorem uB {α:Type}:∀(l:List α) (f g:α→Dyadic),(∀a∈l,f a≤g a)→sm l f≤sm l g
 |[],_,_,_=>by show (0:Dyadic)≤0;grind
 |a::l,f,g,h=>by
  have h1:=h a YD;have h2:=uB l f g fun a ha=>h a (YK _ ha);show f a+sm l f≤g a+sm l g;grind
theorem CC {ts:List Dyadic}{c:Dyadic} (ht:∀t∈ts,0≤t∧t<1) (h:∀p,p<al ds→c*(Y[p]?).getD 0≤(X[p]?).getD 0):c*gC ds Y ts≤gC ds X ts:=by
 unfold gC;rw [←k7];refine uB _ _ _ fun p hp=> ?_;have h1:=h p (Zi.1 hp);have h2:=uu ds (bW ds p) ts ht;have h3:=n8 (x:=(X[p]?).getD 0-c*(Y[p]?).getD 0) (by grind) h2;grind
theorem Lz {ts:List Dyadic} (ht:∀t∈ts,0≤t∧t<1) (h:∀p,p<al ds→0<(Y[p]?).getD 0):0<gC ds Y ts:=by
 have hc:=di ds;obtain ⟨N,hN⟩:∃N,al ds=N+1:=⟨al ds-1,Yo⟩;have h0:=Lean.Grind.OrderedRing.mul_pos (h 0 hc) (Hg ds ts ht);unfold gC;rw [hN,List.range_succ_eq_map];show 0<_+sm _ _;have h1:sm (List.map Nat.succ (List.range N)) (fun _=>(0:Dyadic))≤sm (List.map Nat.succ (List.range N)) fun p=>(Y[p]?).getD 0*lV ds (bW ds p) ts:=uB _ _ _ fun p hp=>by
  obtain ⟨q,hq,rfl⟩:=YF.1 hp;have h2:=Zi.1 hq;exact n8 (by have:=h (q+1) Yo;grind) (uu _ _ _ ht)
 rw [uG (fun _ _=>rfl)] at h1;grind
variable {M:List Nat}{b:Nat}{w w' w0:World}
section
variable {P:Program}{N:Nat}{Q:Kd}{ρ:Rf}{w:World}
theorem WD.mono {c:Code}{Q':Kd} (h:WD P N c Q ρ w) (hq:∀e M ρ w,Q e M ρ w→Q' e M ρ w):WD P N c Q' ρ w:=
 ⟨fun M a hf n=>wpIn_mono (h.out M a hf n) fun e a' w' ⟨M',ρ',hf',hk⟩=>⟨M',ρ',hf',hq e M' ρ' w' hk⟩⟩
theorem OQ {c:Code} (mods:List Nat) (s0 s1:Nat) (I:List Nat→Value→Value→World→Prop) (μ:Value→Value→World→Nat) (h0:I [] (ρ s0) (ρ s1) w)
  (round:∀M ρ' v0 v1 w',I M v0 v1 w'→WD P N c (fun e M2 ρ2 w2=>Ai (fun M3 ρ2 w2=>I M3 (ρ2 s0) (ρ2 s1) w2∧μ (ρ2 s0) (ρ2 s1) w2<μ v0 v1 w'∧iI mods ρ2 ρ) Q e (M2++M) ρ2 w2) (cP (cP (mask mods ρ' ρ) s0 v0) s1 v1) w'):WD P N (.loop c) Q ρ w:=
 Qd (fun M ρ1 w1=>I M (ρ1 s0) (ρ1 s1) w1∧iI mods ρ1 ρ) (fun ρ1 w1=>μ (ρ1 s0) (ρ1 s1) w1) ⟨h0,fun _ _=>rfl⟩ fun M ρ1 w1 ⟨hi,ha⟩=>by
  have h:=round M ρ1 (ρ1 s0) (ρ1 s1) w1 hi;rw [iO ha,fy,fy] at h;exact h.mono fun e M2 ρ2 w2 hq=>by
   cases e with
   |normal=>exact ⟨⟨hq.1,hq.2.2⟩,hq.2.1⟩
   |_=>exact hq
theorem T6 {id:Nat}{next:List Nat→Rf→World→Prop} (h:next M ρ w):N8 (u2 M (L0 id (Ai next Q))) .normal ρ w:=h
theorem NN {M0:List Nat}{next:List Nat→Rf→World→Prop} (h:next (M++M0) ρ w):N8 (u2 M (fun e M2 ρ2 w2=>Ai next Q e (M2++M0) ρ2 w2)) .normal ρ w:=h
theorem O4 {M0:List Nat}{id:Nat}{next next':List Nat→Rf→World→Prop} (h:next' M0 ρ w):N8 (fun e M2 ρ2 w2=>Ai next (L0 id (Ai next' Q)) e (M2++M0) ρ2 w2) (.exit id) ρ w:=by
 show if id=id then Ai next' Q .normal ([]++M0) ρ w else Ai next' Q (.exit id) ([]++M0) ρ w
 rw [Yt rfl];exact h
end
structure Marks (w0:World) (M:List Nat) (w:World):Prop where
 at_:∀D∈M,w0.heap.size≤D∧w.heap[D]?=some (.deferred (some []))
 nd:M.Nodup
theorem Ig (M:List Nat):(rL M).filterMap HE.id=M:=by
 induction M with
 |nil=>rfl
 |cons D M ih=>rw [show rL (D::M)=.ob D (.deferred (some []))::rL M from rfl,Z4,show HE.id (.ob D (.deferred (some [])))=some D from rfl];simp only [ih]
theorem Hp.marks {H:List HE} (h:Hp w0 (H++rL M) w):Marks w0 M w:=by
 refine ⟨fun D hD=>h.own (.ob D (.deferred (some []))) (Zu _ (List.mem_map_of_mem (f:=fun D=>HE.ob D (.deferred (some []))) hD)), ?_⟩;have:=h.nd;rw [aaZ,Ig] at this;exact (abv.1 this).2.1
theorem Hp.UA {H:List HE} (h:Hp w0 H w) (hc:∀x∈H,x.Md=true) (hm:Marks w0 M w):Hp w0 (H++rL M) w:=by
 refine ⟨h.below,fun x hx=> ?_, ?_⟩
 ·rcases Zm.1 hx with hx|hx
  ·exact h.own x hx
  ·obtain ⟨D,hD,rfl⟩:=YF.1 hx;exact hm.at_ D hD
 ·rw [aaZ,Ig];refine abv.2 ⟨h.nd,hm.nd,fun a ha b hb e=> ?_⟩;subst e;obtain ⟨y,hy,hyb⟩:=ZE.1 ha;obtain ⟨o',h2,h3⟩:=qV (h.own y hy) (hc y hy) hyb;rw [(hm.at_ a hb).2] at h2
  cases h2
  cases h3
theorem Marks.keeps (h:Marks w0 M w) (hk:KeepsOthers w w'):Marks w0 M w':=⟨fun D hD=>⟨(h.at_ D hD).1,hk.2 D _ (h.at_ D hD).2 rfl⟩,h.nd⟩
theorem Marks.grown {ws:World} (h:Marks w0 M w) (hlt:∀D∈M,D<ws.heap.size) {row:Option Nat} (hg:w.grownBy w' row) (hr:∀r,row=some r→ws.heap.size≤r):Marks w0 M w':=by
 refine ⟨fun D hD=>⟨(h.at_ D hD).1, ?_⟩,h.nd⟩;have h1:=(h.at_ D hD).2;refine (hg.block D (aa9.1 h1).1 fun e=> ?_).trans h1;have:=hr D e.symm;have:=hlt D hD;omega
theorem Marks.lt (h:Marks w0 M w):∀D∈M,D<w.heap.size:=fun D hD=>(aa9.1 (h.at_ D hD).2).1
theorem Marks.cons {ws:World}{D:Nat} (h:Marks w0 M w) (hlt:∀D∈M,D<ws.heap.size) (h0:w0.heap.size≤ws.heap.size) (hD:ws.heap.size≤D) (h1:w.heap[D]?=some (.deferred (some []))):Marks w0 (D::M) w:=by
 refine ⟨fun E hE=> ?_,aaa.2 ⟨fun hm=> ?_,h.nd⟩⟩
 ·rcases YH.1 hE with rfl|hE
  ·exact ⟨Yo,h1⟩
  ·exact h.at_ E hE
 ·have:=hlt D hm;omega
theorem Hp.Ts {L:List HE} (h:Hp w0 L w) (hs:(rL M).Sublist L):Marks w0 M w:=Hp.marks (H:=[]) (h.sub hs)
theorem Hp.Tz {x y:HE}{T T':List HE} (hs:Hp w0 (x::T) w) (hc:∀z∈x::T,z.Md=true) (he:Hp w0 (y::(T'++xF w0.heap.size ((x::T).filterMap HE.id) w)) w') (hid:T'.filterMap HE.id=T.filterMap HE.id) (hy:y.id=some b):KeepsOthers w w':=by
 have hoth:∀k,k<w.heap.size→w0.heap.size≤k→k∉(x::T).filterMap HE.id→∃o,w.heap[k]?=some o∧HE.ob k o∈xF w0.heap.size ((x::T).filterMap HE.id) w:=fun k hk h0 hm=>⟨w.heap[k],aaD hk,ZE.2 ⟨k,Zi.2 hk,by
  unfold MA;rw [Yt ⟨h0,by simpa using hm⟩,aaD hk]
  rfl⟩⟩
 have hob:∀z∈xF w0.heap.size ((x::T).filterMap HE.id) w,z∈y::(T'++xF w0.heap.size ((x::T).filterMap HE.id) w):=fun z hz=>YK _ (Zu _ hz);have hbl:=eU (he.own y YD) hy;have hnd:=he.nd;rw [Z4,hy] at hnd;have hnd1:=(aaa.1 hnd).1;refine ⟨?_,fun k o h1 h2=> ?_⟩
 ·rcases aac w.heap.size with h|h
  ·omega
  ·have hk:w.heap.size-1<w.heap.size:=Yo;by_cases h0:w.heap.size-1<w0.heap.size
   ·have:=he.size;omega
   ·by_cases hm:w.heap.size-1∈(x::T).filterMap HE.id
    ·rw [Z4] at hm;have hT:w.heap.size-1∈T.filterMap HE.id→w.heap.size≤w'.heap.size:=fun hm=>by
      obtain ⟨z,hz,hzb⟩:=ZE.1 (hid ▸ hm);have:=(eU (he.own z (YK _ (Z3 _ hz))) hzb).2;omega
     split at hm
     ·exact hT hm
     ·rename_i r hr
      rcases YH.1 hm with e|hm
      ·by_cases hb:b<w.heap.size
       ·by_cases hbk:b=w.heap.size-1
        ·omega
        ·exfalso;by_cases hbm:b∈(x::T).filterMap HE.id
         ·rw [Z4,hr] at hbm
          rcases YH.1 hbm with e2|hbm
          ·omega
          ·rw [←hid] at hbm;exact hnd1 (by rw [aaZ];exact Z3 _ hbm)
         ·obtain ⟨o,_,h3⟩:=hoth b hb hbl.1 hbm;exact hnd1 (by rw [aaZ];exact Zu _ (ZE.2 ⟨_,h3,rfl⟩))
       ·omega
      ·exact hT hm
    ·obtain ⟨o,_,h3⟩:=hoth _ hk Yo hm;have:=(eU (he.own _ (hob _ h3)) rfl).2;omega
 ·have hk:=(aa9.1 h1).1;by_cases h0:k<w0.heap.size
  ·exact (he.below.block k h0).trans ((hs.below.block k h0).symm.trans h1)
  ·by_cases hm:k∈(x::T).filterMap HE.id
   ·exact VA
   ·obtain ⟨o',h3,h4⟩:=hoth k hk Yo hm;rw [h1] at h3
    cases h3
    exact (he.own _ (hob _ h4)).2
variable {k q:Nat}{xs:List Dyadic}
def mW (d:Nat) (t:Dyadic) (xs:List Dyadic) (i:Nat):Dyadic:=sm (List.range i) fun r=>hH xs r*nN d r t
theorem Kn (d:Nat) (t:Dyadic) (xs:List Dyadic) (i:Nat):mW d t xs (i+1)=mW d t xs i+hH xs i*nN d i t:=by
 unfold mW;rw [aah,kd]
theorem Bd {d i:Nat}{t:Dyadic} (hx:∀x∈xs,Sz k x) (ht:Sz q t) (ht1:Sz q (1-t)) (hi:i≤d+1):Sz (k+(2+2*(q*d))+i) (mW d t xs i):=by
 have h2:=DY (l:=List.range i) (f:=fun r=>hH xs r*nN d r t) (k:=k+(2+2*(q*d))) fun r hr=>by
  have hr:=Zi.1 hr;unfold nN;exact ((pU hx r).mul ((ht.xG (show r≤d by omega)).mul (ht1.xG (show d-r≤d by omega)))).mono Yo
 rw [aaO] at h2;exact h2
theorem x5 (tn:NR) (t:Dyadic) (bt bl:Addr) (L:Option Addr) (n c d:Nat) (xs:List Dyadic) (k q:Nat) (w:World) (hT:dP w) (hS:Sl w L n 3 (aA NR.cells (xs.map nR))) (hn:n=d+1) (hd:d≤127) (hx:∀x∈xs,Sz k x) (vt:xH q tn t) (ht1:Sz q (1-t))
  (hb1:Rd w bt [.bool tn.neg,.string tn.aY,.int .i64 tn.e]) (hb2:Rd w bl [.bool (nR (1-t)).neg,.string (nR (1-t)).aY,.int .i64 (nR (1-t)).e]) (hk:k≤500000) (hq:q≤2000):
  Calls Tryz.prog 86 #[.slice L n c,.pointer (some bt),.pointer (some bl)] w fun r w'=>r=.returned (.agg #[.bool (nR (mW d t xs (d+1))).neg,.string (nR (mW d t xs (d+1))).aY,.int .i64 (nR (mW d t xs (d+1))).e])∧Below w.heap.size w w':=by
 have hh:=Hp.start w;have hln:xs.length=n:=by have:=hS.bk NR.len Yp;simpa using this
 have hqd:q*d≤2000*127:=Z5 hq hd;have ht:=vt.sz;have hpw:∀(sn:NR) (z:Dyadic),xH q sn z→∀(i:Nat),i≤d→∀w1,dP w1→Calls Tryz.prog 87 #[.agg #[.bool sn.neg,.string sn.aY,.int .i64 sn.e],.int .i64 (i:Int)] w1 fun r w'=>r=.returned (.agg #[.bool (nR (z^i)).neg,.string (nR (z^i)).aY,.int .i64 (nR (z^i)).e])∧Below w1.heap.size w1 w':=fun sn z hz i hi w1 hT1=>by
  have h1:=hz.aY;have h2:i*sn.aY.size≤127*2001:=Z5 Yo Yo;have:=vJ sn i w1 hT1 hz.ok (by rw [ZY];omega) Yo;rwa [hz.d,ZY] at this
 obtain ⟨ad,rfl,hr⟩:=hS.at_ Yo;refine aj (N:=35) (l:=[.slice (some ad) n c,.pointer (some bt),.pointer (some bl)]) Tryz.func86 rfl rfl (by simp) ?_;refine sr ?_;refine bC hh ?_;intro b4 w4 hh;refine aa (sr (mL (aM ?_)));refine ee (aI (aa (sr ?_)));refine bC hh ?_;intro b6 w6 hh;refine vg ?_;refine aT [7,8,14,15,16,17,18,19,20,21,22,23,24,25,26,27,28,29,30,31,32,33] 14
  (fun v w'=>∃i:Nat,i≤n∧v=.int .i64 i∧Hp w [.blk b6 33 [.bool (nR (mW d t xs i)).neg,.string (nR (mW d t xs i)).aY,.int .i64 (nR (mW d t xs i)).e] (0,0),.blk b4 33 [.bool false,.string (ByteArray.mk #[]),.int .i64 0] (0,0)] w')
  (fun v _=>n-(intOf v).toNat) ?_ ?_
 ·exact ⟨0,Yx _,rfl,hh⟩
 ·clear hh;rintro ρ' v w' ⟨i,hi,rfl,hh⟩;by_cases hlt:i<n
  ·obtain ⟨x,hxi⟩:=ao (l:=xs) (k:=i) Yo;have hxn:(xs.map nR)[i]?=some (nR x):=by rw [YJ,hxi];rfl
   have hat:hH xs i=x:=by unfold hH;rw [hxi];rfl
   have zx:=hx x (Yy hxi);have hpa:=hpw tn t vt i Yo;have hpb:=hpw (nR (1-t)) (1-t) (xH.of ht1 hq) (d-i) Yo;have zp:=ht.xG (show i≤d by omega);have zq:=ht1.xG (show d-i≤d by omega);have zo:=Bd (d:=d) (i:=i) hx ht ht1 Yo;have zy:=(zx.mul zp).mul zq;have hst:=Kn d t xs i;unfold nN at hst;rw [hat,←Dyadic.mul_assoc] at hst;have hm3:=fun A cc w1 hT1 hS1=>fZ A 3 cc [nR x,nR (t^i),nR ((1-t)^(d-i))] w1 hT1 hS1 (by simpa using ⟨zx.ok Yo,zp.ok Yo,zq.ok Yo⟩) 600000 (by simpa [bL] using ⟨zx.mono Yo,zp.mono Yo,zq.mono Yo⟩) Yo Yo;rw [show iw ([nR x,nR (t^i),nR ((1-t)^(d-i))].map NR.d)=x*t^i*(1-t)^(d-i) by simp only [Y6,Zv,bL];show 1*x*_*_=_;rw [aap]] at hm3;generalize x*t^i*(1-t)^(d-i)=y at*;have hsum:=fun A cc w1 hT1 hS1=>iH A 2 cc [nR (mW d t xs i),nR y] w1 hT1 hS1 (by simpa using ⟨zo.ok Yo,zy.ok Yo⟩) 2000000 (by simpa [bL] using ⟨zo.mono Yo,zy.mono Yo⟩) Yo;rw [show nt ([nR (mW d t xs i),nR y].map NR.d)=mW d t xs i+y by simp only [Y6,Zv,bL,ki],←hst] at hsum;generalize hS2:mW d t xs (i+1)=S2 at*
   generalize mW d t xs i=S1 at*;have e27:(n:Int)-1-(i:Int)=((d-i:Nat):Int):=Yo;refine sr ?_;refine dY ?_;refine Hy ?_;refine Ma ?_;refine bC hh ?_;intro b8 w8 hh;refine aI ?_;refine bg hh 0 [_,_,_] ?_;intro ws hh;replace hh:Hp _ (.blk _ _ [_,_,_] _::_) _:=hh;refine aa ?_;rw [←e27] at hpb;refine aK 12 [[(6,none)],[(8,none)],[(1,none)],[(7,none)],[(21,some 2),(22,some 3)],[(2,none)],[(5,none)],[(7,none)],[(25,some 6),(26,some 7)],[(24,some 5),(27,some 8)],[(20,some 1),(23,some 4),(28,some 9)],[(29,some 10)]] [(11,30),(10,29),(9,28),(8,27),(7,26),(6,25),(5,24),(4,23),(3,22),(2,21),(1,20),(0,19)] hh mixed Yq ?_;refine dK 1 [_,_,_] ?_;refine dK 0 [_,_,_] ?_;refine pW [_,_,_] (fun _ hj=>hb1.ext hj.hp.below) ?_;refine dJ ?_;refine dC (fun _ hj=>hpa _ (hT.hp hj.hp)) ?_;refine pW [_,_,_] (fun _ hj=>hb2.ext hj.hp.below) ?_;refine dJ ?_;refine dJ ?_;refine tZ ?_;refine dC (fun _ hj=>hpb _ (hT.hp hj.hp)) ?_;refine x3 [_,_,_,_,_,_,_,_,_] ?_;refine a7 (i:=11) (Is (.agg #[.bool (nR y).neg,.string (nR y).aY,.int .i64 (nR y).e])) Is.ext ?_ ?_
   ·intro ρ1 w1 hj hR;obtain ⟨A29,c29,h29,s29⟩:=hR.1;exact bV rfl (bf au.out (aC h29 bh)) (hm3 A29 c29 _ (hT.hp hj.hp) s29) (fun _ _ hq=>⟨_,hq.1,hq.2,rfl⟩)
   refine aH ?_;intro f W hJ hV;have hb_6:=hJ.bl;obtain ⟨v30,v29,v28,v27,v26,v25,v24,v23,v22,v21,v20,v19,_⟩:=hV;obtain ⟨A29,c29,e29,f29⟩:Rows _ _ _ (f 10) W:=v29;replace hh:=hJ.hp;refine aN (a6 (ae v30 (ae e29 (ae v28 (ae v27 (ae v26 (ae v25 (ae v24 (ae v23 (ae v22 (ae v21 (ae v20 (ae v19 aO))))))))))))) ?_;dsimp only [bP];clear e29 hJ;refine rF ?_;intro b31 w31 hh;refine bj hh (hsum _ _ _ (hT.hp hh) (hh.az (i:=0) rfl)) rfl ?_;intro w32 hh;refine bg hh 2 [_,_,_] ?_;intro ws hh;replace hh:Hp _ (_::_::.blk _ _ [_,_,_] _::_) _:=hh;refine gu ?_;refine a8 (mI (aD (ai ?_)));replace hh:=hh.sub (Yw _ (Yw _ (Yv _ (Yv _ YR))));refine ⟨⟨i+1,Yo,rfl,by rw [hS2];exact hh⟩,by show n-(i+1)<n-i;omega, ?_⟩;exact er
  ·obtain rfl:i=n:=Yo;rw [show i=d+1 from hn] at hh;refine sr ?_;refine nj ?_;refine bJ hh 0 [_,_,_] ?_;exact K5
theorem AV (tn:NR) (t:Dyadic) (q:Nat) (w:World) (hT:dP w) (vt:xH q tn t) (hq:q≤2000):
  Calls Tryz.prog 40 #[.agg #[.bool tn.neg,.string tn.aY,.int .i64 tn.e]] w fun r w'=>∃b1 b3,r=.returned (.func (.func 86) #[] #[.pointer (some ⟨b1,0,none⟩),.pointer (some ⟨b3,0,none⟩)])∧Hp w [.blk b3 33 [.bool (nR (1-t)).neg,.string (nR (1-t)).aY,.int .i64 (nR (1-t)).e] (0,0),.blk b1 33 [.bool tn.neg,.string tn.aY,.int .i64 tn.e] (0,0)] w':=by
 have hh:=Hp.start w;have hof:∀w1,dP w1→Calls Tryz.prog 38 #[.int .i64 1] w1 fun r w'=>r=.returned (.agg #[.bool (nR (1:Dyadic)).neg,.string (nR (1:Dyadic)).aY,.int .i64 (nR (1:Dyadic)).e])∧Below w1.heap.size w1 w':=fun w1 hT1=>kM 1 w1 hT1 Yp Yp;have hsb:=fun w1 hT1=>nc (nR (1:Dyadic)) tn w1 hT1 (Sz.one.ok Yo) vt.ok (q+1) (by rw [bL];exact Sz.one.mono Yo) (by rw [vt.d];exact vt.sz.mono Yo) Yo;simp only [bL,vt.d] at hsb;refine aj (N:=8) (l:=[.agg #[.bool tn.neg,.string tn.aY,.int .i64 tn.e]]) Tryz.func40 rfl rfl (by simp) ?_;refine sr ?_;refine bO hh [_,_,_] ?_;intro b1 w1 hh;refine kW (by first|exact uF rfl|exact ur rfl) Yp ?_;refine aa (ah ?_);refine aK 4 [[],[(1,none)],[(4,some 0),(5,some 1)],[]] [(3,3),(2,6),(1,5),(0,4)] hh mixed Yq ?_;refine dC (fun _ hj=>hof _ (hT.hp hj.hp)) ?_;refine dK 0 [_,_,_] ?_;refine dC (fun _ hj=>hsb _ (hT.hp hj.hp)) ?_;refine a7 (i:=3) (cw _ 33 _) cw.ext (fun ρ1 w1 hj hR=>iJ aJ.out hj.bl (fun v w2 h hb=>⟨hb,h⟩)) ?_;refine aH ?_;intro f W hJ hV;have hb_1:=hJ.bl;obtain ⟨v3,v6,v5,v4,_⟩:=hV;obtain ⟨b3,e3,hl3,hc3⟩:cw _ _ _ (f 3) W:=v3;replace hh:=hJ.newVar hh hl3 hc3
 refine aN (a6 (ae e3 (ae v6 (ae v5 (ae v4 aO))))) ?_;dsimp only [bP];clear e3 hJ;refine bg hh 0 [_,_,_] ?_;intro ws hh;replace hh:Hp _ (.blk _ _ [_,_,_] _::_) _:=hh;refine aa (sr ?_);exact VV
variable {ad:Addr}{m n:Nat}
theorem Sl.part {l:List NR} (h:Sl w (some ad) n 3 (aA NR.cells l)) (p m:Nat) (hpm:p+m≤n) (hm:0<m):Sl w (some (ad.add (p*3))) m 3 (aA NR.cells ((l.drop p).take m)):=by
 have hl:=h.bk NR.len Yp;obtain ⟨ad',e,r⟩:=h.2 Yo;obtain rfl:ad=ad':=Zg e;refine ⟨by rw [fj NR.len,YM,Zz,hl,ZK Yo],fun _=>⟨_,rfl,fun j u hu=> ?_⟩⟩;rw [mP];refine r (p*3+j) u ?_;rw [←jw NR.len,←iS NR.len,ZX] at hu;split at hu
 ·rw [ZW] at hu;exact hu
 ·cases hu
def nK (K q:Nat) (X:List Dyadic):List Dyadic:=(X.drop (q*K)).take K
theorem zR (K q:Nat) (X:List Dyadic):((X.map nR).drop (q*K)).take K=(nK K q X).map nR:=by unfold nK;rw [List.map_take,aaV]
theorem sZ {K:Nat}{x:Dyadic} (h:x∈nK K q X):x∈X:=abG (aad h)
theorem zK {d:Nat} (t:Dyadic) (X:List Dyadic):mW d t (nK (d+1) q X) (d+1)=sm (List.range (d+1)) fun r=>(X[r+(d+1)*q]?).getD 0*nN d r t:=by
 unfold mW;refine cU fun r hr=> ?_;have hr:=Zi.1 hr;unfold hH nK;rw [ZX,Yt hr,ZW,show q*(d+1)+r=r+(d+1)*q by rw [YO];omega]
theorem MX {d:Nat} (t:Dyadic) (X:List Dyadic) (h:q<m):(mi d t m X)[q]?=some (mW d t (nK (d+1) q X) (d+1)):=by
 unfold mi;rw [YJ,ZF h,zK]
 rfl
theorem KY {d:Nat}{t:Dyadic} (hx:∀x∈X,Sz k x) (ht:Sz q t) (ht1:Sz q (1-t)):∀x∈mi d t m X,Sz (k+(2+2*(q*d))+(d+1)) x:=fun x h=>by
 obtain ⟨p,_,rfl⟩:=YF.1 h;rw [←zK];exact Bd (fun y hy=>hx y (sZ hy)) ht ht1 (YA _)
theorem Ft {ns:List Nat}{ts:List Dyadic}{i d:Nat}{t:Dyadic} (X:List Dyadic) (hd:ns[i]?=some d) (ht:ts[i]?=some t):px (ns.take (i+1)).reverse (ts.take (i+1)).reverse X=px (ns.take i).reverse (ts.take i).reverse (mi d t (al (ns.take i)) X):=by
 rw [aw hd,aw ht,aa8,aa8];show px (d::(ns.take i).reverse) (t::(ts.take i).reverse) X=_;rw [px,cI]
def EF (fx:FX) (m:Nat):Int:=if fx.e≠0 then fx.e else if m≠fx.n then 1 else 0
def xP (fx:FX) (tn:List NR):Dyadic:=if EF fx tn.length=0 then gC fx.ns.reverse (fx.cs.map NR.d) (tn.map NR.d).reverse else 0
variable {fuel:Nat}{next:Rf→World→Prop}{ops:Array Oper}{rs:List Nat}
section
variable {P:Program}{N:Nat}{Q:Kq}{ρ:Rf}{w:World}{ro:Option Nat}{D:List Deferred}
structure WR (ro:Option Nat) (D:List Deferred) (P:Program) (N:Nat) (ops:Array Oper) (Q:Kq) (fuel:Nat) (L:Array Bool) (ρ:Rf) (w:World):Prop where
 out:∀a,fL N D a ρ→∀n,wpAnyIn (FW ro) n P .any ops (dO N D Q) fuel L a w
theorem AQ {F:Fence}{o:Oper}{a:Act}{K:Act→World→Prop}{r:Result Next} (h:o.uponIn F n P a K (dO N D (cM next Q)) r):o.uponIn F n P a K (dO N D Q) r:=by
 have hp:∀c a w,dO N D (cM next Q) (.panic c) a w→dO N D Q (.panic c) a w:=fun _ _ _ h=>h;have ho:LetsOut (dO N D (cM next Q))→LetsOut (dO N D Q):=fun ⟨a,w,h⟩=>⟨a,w,h⟩
 cases r with
 |ok n w'=>
  cases n<;>simp only [Oper.uponIn] at h ⊢ <;>first
   |exact h
   |exact ⟨h.1,CallsIn.mono h.2 (fun e w'' he=>by cases e<;>first|exact he|exact hp _ _ _ he|exact ho he)⟩
   |exact ⟨h.1,RoundIn.mono h.2 (fun e w'' he=>by cases e<;>first|exact he|exact hp _ _ _ he|exact ho he)⟩
 |halt x w'=>cases x<;>simp only [Oper.uponIn] at h ⊢ <;>first|exact h|exact hp _ _ _ h|exact ho h
theorem Ae {L:Array Bool} (hr:Region.ready .any ops L=rs) (hne:rs≠[])
  (h:∀i∈rs,∃o,ops[i]?=some o∧WL ⟨ro,D,true⟩ P N ops (cM (fun ρ w=>WR ro D P N ops Q fuel (L.setIfInBounds i true) ρ w) Q) [o] ρ w):WR ro D P N ops Q (fuel+1) L ρ w:=by
 refine ⟨fun a hf n=>⟨fun e=>absurd (hr.symm.trans e) hne,fun i hi=> ?_⟩⟩;rw [hr] at hi;obtain ⟨o,ho,hw⟩:=h i hi;have h1:=hw.kA a hf n;have hK:∀a w,wpListIn (FW ro) n P ops (dO N D (cM (fun ρ w=>WR ro D P N ops Q fuel (L.setIfInBounds i true) ρ w) Q)) [] a w→wpAnyIn (FW ro) n P .any ops (dO N D Q) fuel (L.setIfInBounds i true) a w:=fun a w ⟨ρ',hf',hq⟩=>by
  have hq':WR ro D P N ops Q fuel (L.setIfInBounds i true) ρ' w:=hq;exact hq'.out a hf' n
 unfold wpOpIn;rw [ho];simp only [];unfold wpListIn at h1;split at h1
 ·rename_i hwt;rw [Yt hwt];have h2:=Oper.wpIn_mono hK h1;unfold Oper.wpIn at h2 ⊢;exact ⟨h2.1,AQ h2.2⟩
 ·rename_i hwt;rw [Yu hwt];exact ⟨h1.1,hK _ _ h1.2⟩
theorem TU {L:Array Bool} (hr:Region.ready .any ops L=[]) (h:Q .normal ρ w):WR ro D P N ops Q fuel L ρ w:=
 ⟨fun a hf n=>by
  cases fuel with
  |zero=>exact ⟨hr,ρ,hf,h⟩
  |succ fuel=>exact ⟨fun _=>⟨ρ,hf,h⟩,fun i hi=>by rw [hr] at hi;cases hi⟩⟩
theorem Mj {id:Nat}{l:List Oper}{H:List HE} (hh:Hp w0 H w) (hm:P.follows .mixedOrders=true) (h:∀w',JJ w0 H w w'→WR ro D P N l.toArray Q l.length (Array.replicate l.length false) ρ w'):WC ⟨ro,D,true⟩ P N (.region id l.toArray true) Q ρ w:=by
 refine ⟨fun h=>(by cases h),fun a hf n=>wpIn_region_any hm ?_⟩;have hb:Below w.heap.size w ({ w with drawn:=w.drawn+1 }:World):=⟨rfl,rfl,rfl,YA _,fun _ _=>rfl⟩;have:=(h _ ((JJ.start hh).ext hb)).out a hf n;simpa using this
theorem Bg {F:Fence}{o:Oper}{a:Act}{K:Act→World→Prop}{Q1 Q2:Exit→Act→World→Prop}{r:Result Next} (hq:∀e a w,Q1 e a w→Q2 e a w) (h:o.uponIn F n P a K Q1 r):o.uponIn F n P a K Q2 r:=by
 have ho:LetsOut Q1→LetsOut Q2:=fun ⟨a,w,h⟩=>⟨a,w,hq _ _ _ h⟩
 cases r with
 |ok n w'=>
  cases n<;>simp only [Oper.uponIn] at h ⊢ <;>first
   |exact h
   |exact ⟨h.1,CallsIn.mono h.2 (fun e w'' he=>by cases e<;>first|exact he|exact hq _ _ _ he|exact ho he)⟩
   |exact ⟨h.1,RoundIn.mono h.2 (fun e w'' he=>by cases e<;>first|exact he|exact hq _ _ _ he|exact ho he)⟩
 |halt x w'=>cases x<;>simp only [Oper.uponIn] at h ⊢ <;>first|exact h|exact hq _ _ _ h|exact ho h
theorem sT {o:Oper}{A B:Rf→World→Prop} (h:WL ⟨ro,D,true⟩ P N ops (cM A rB) [o] ρ w) (hi:∀ρ w,A ρ w→B ρ w):WL ⟨ro,D,true⟩ P N ops (cM B Q) [o] ρ w:=by
 refine ⟨fun h=>(by cases h),fun a hf n=> ?_⟩;have h1:=h.kA a hf n;have hq:∀e a w,dO N D (cM A rB) e a w→dO N D (cM B Q) e a w:=fun e a w ⟨ρ',hf',hk⟩=>⟨ρ',hf',by
  cases e with
  |normal=>exact hi _ _ hk
  |_=>exact hk.elim⟩
 unfold wpListIn at h1 ⊢;split at h1
 ·rename_i hwt;rw [Yt hwt];have h2:=Oper.wpIn_mono (K':=wpListIn (FW ro) n P ops (dO N D (cM B Q)) []) (fun a w h=>hq .normal a w h) h1;unfold Oper.wpIn at h2 ⊢;exact ⟨h2.1,Bg hq h2.2⟩
 ·rename_i hwt;rw [Yu hwt];exact ⟨h1.1,hq .normal _ _ h1.2⟩
theorem L5 {o0 o1 o2 o3 o4 o5 o6:Oper}{I:Bool→Bool→Bool→Bool→Bool→Rf→World→Prop}{J K:Rf→World→Prop}
  (e0:ops[0]?=some o0) (e1:ops[1]?=some o1) (e2:ops[2]?=some o2) (e3:ops[3]?=some o3) (e4:ops[4]?=some o4) (e5:ops[5]?=some o5) (e6:ops[6]?=some o6)
  (r0:Region.ready .any ops #[false,false,false,false,false,false,false]=[0,1,2])
  (r1:Region.ready .any ops #[false,true,false,false,false,false,false]=[0,2])
  (r2:Region.ready .any ops #[false,false,true,false,false,false,false]=[0,1])
  (r3:Region.ready .any ops #[false,true,true,false,false,false,false]=[0,3])
  (r4:Region.ready .any ops #[false,true,true,true,false,false,false]=[0,4])
  (r5:Region.ready .any ops #[false,true,true,true,true,false,false]=[0])
  (q0:Region.ready .any ops #[true,false,false,false,false,false,false]=[1,2])
  (q1:Region.ready .any ops #[true,true,false,false,false,false,false]=[2])
  (q2:Region.ready .any ops #[true,false,true,false,false,false,false]=[1])
  (q3:Region.ready .any ops #[true,true,true,false,false,false,false]=[3])
  (q4:Region.ready .any ops #[true,true,true,true,false,false,false]=[4])
  (q5:Region.ready .any ops #[true,true,true,true,true,false,false]=[5])
  (q6:Region.ready .any ops #[true,true,true,true,true,true,false]=[6])
  (q7:Region.ready .any ops #[true,true,true,true,true,true,true]=[])
  (s0:∀a b e g ρ w,I false a b e g ρ w→WL ⟨ro,D,true⟩ P N ops (cM (fun ρ w=>I true a b e g ρ w) rB) [o0] ρ w)
  (s1:∀c b ρ w,I c false b false false ρ w→WL ⟨ro,D,true⟩ P N ops (cM (fun ρ w=>I c true b false false ρ w) rB) [o1] ρ w)
  (s2:∀c a ρ w,I c a false false false ρ w→WL ⟨ro,D,true⟩ P N ops (cM (fun ρ w=>I c a true false false ρ w) rB) [o2] ρ w)
  (s3:∀c ρ w,I c true true false false ρ w→WL ⟨ro,D,true⟩ P N ops (cM (fun ρ w=>I c true true true false ρ w) rB) [o3] ρ w)
  (s4:∀c ρ w,I c true true true false ρ w→WL ⟨ro,D,true⟩ P N ops (cM (fun ρ w=>I c true true true true ρ w) rB) [o4] ρ w)
  (s5:∀ρ w,I true true true true true ρ w→WL ⟨ro,D,true⟩ P N ops (cM J rB) [o5] ρ w)
  (s6:∀ρ w,J ρ w→WL ⟨ro,D,true⟩ P N ops (cM K rB) [o6] ρ w)
  (fin:∀ρ w,K ρ w→Q .normal ρ w) (st:I false false false false false ρ w):WR ro D P N ops Q 7 #[false,false,false,false,false,false,false] ρ w:=by
 have one:∀{fuel:Nat}{L:Array Bool}{i:Nat}{o:Oper}{ρ:Rf}{w:World}{A:Rf→World→Prop},Region.ready .any ops L=[i]→ops[i]?=some o→WL ⟨ro,D,true⟩ P N ops (cM A rB) [o] ρ w→(∀ρ w,A ρ w→WR ro D P N ops Q fuel (L.setIfInBounds i true) ρ w)→WR ro D P N ops Q (fuel+1) L ρ w:=fun hr ho h hi=>
  Ae hr (by simp) fun j hj=>by
   obtain rfl:=YT.1 hj;exact ⟨_,ho,sT h hi⟩
 have two:∀{fuel:Nat}{L:Array Bool}{i j:Nat}{o p:Oper}{ρ:Rf}{w:World}{A B:Rf→World→Prop},Region.ready .any ops L=[i,j]→ops[i]?=some o→ops[j]?=some p→WL ⟨ro,D,true⟩ P N ops (cM A rB) [o] ρ w→(∀ρ w,A ρ w→WR ro D P N ops Q fuel (L.setIfInBounds i true) ρ w)→WL ⟨ro,D,true⟩ P N ops (cM B rB) [p] ρ w→(∀ρ w,B ρ w→WR ro D P N ops Q fuel (L.setIfInBounds j true) ρ w)→WR ro D P N ops Q (fuel+1) L ρ w:=fun hr ho hp h hi h2 hi2=>
  Ae hr (by simp) fun k hk=>by
   rcases YH.1 hk with rfl|hk
   ·exact ⟨_,ho,sT h hi⟩
   ·obtain rfl:=YT.1 hk;exact ⟨_,hp,sT h2 hi2⟩
 have n7:∀ρ w,K ρ w→WR ro D P N ops Q 0 #[true,true,true,true,true,true,true] ρ w:=fun ρ w h=>TU q7 (fin ρ w h);have n6:∀ρ w,J ρ w→WR ro D P N ops Q 1 #[true,true,true,true,true,true,false] ρ w:=fun ρ w h=>one q6 e6 (s6 ρ w h) n7;have n5:∀ρ w,I true true true true true ρ w→WR ro D P N ops Q 2 #[true,true,true,true,true,false,false] ρ w:=fun ρ w h=>one q5 e5 (s5 ρ w h) n6;have n4:∀ρ w,I true true true true false ρ w→WR ro D P N ops Q 3 #[true,true,true,true,false,false,false] ρ w:=fun ρ w h=>one q4 e4 (s4 true ρ w h) n5;have m5:∀ρ w,I false true true true true ρ w→WR ro D P N ops Q 3 #[false,true,true,true,true,false,false] ρ w:=fun ρ w h=>one r5 e0 (s0 _ _ _ _ ρ w h) n5;have m4:∀ρ w,I false true true true false ρ w→WR ro D P N ops Q 4 #[false,true,true,true,false,false,false] ρ w:=fun ρ w h=>two r4 e0 e4 (s0 _ _ _ _ ρ w h) n4 (s4 false ρ w h) m5;have n3:∀ρ w,I true true true false false ρ w→WR ro D P N ops Q 4 #[true,true,true,false,false,false,false] ρ w:=fun ρ w h=>one q3 e3 (s3 true ρ w h) n4
 have m3:∀ρ w,I false true true false false ρ w→WR ro D P N ops Q 5 #[false,true,true,false,false,false,false] ρ w:=fun ρ w h=>two r3 e0 e3 (s0 _ _ _ _ ρ w h) n3 (s3 false ρ w h) m4;have n1:∀ρ w,I true true false false false ρ w→WR ro D P N ops Q 5 #[true,true,false,false,false,false,false] ρ w:=fun ρ w h=>one q1 e2 (s2 true true ρ w h) n3;have n2:∀ρ w,I true false true false false ρ w→WR ro D P N ops Q 5 #[true,false,true,false,false,false,false] ρ w:=fun ρ w h=>one q2 e1 (s1 true true ρ w h) n3;have m1:∀ρ w,I false true false false false ρ w→WR ro D P N ops Q 6 #[false,true,false,false,false,false,false] ρ w:=fun ρ w h=>two r1 e0 e2 (s0 _ _ _ _ ρ w h) n1 (s2 false true ρ w h) m3;have m2:∀ρ w,I false false true false false ρ w→WR ro D P N ops Q 6 #[false,false,true,false,false,false,false] ρ w:=fun ρ w h=>two r2 e0 e1 (s0 _ _ _ _ ρ w h) n2 (s1 false true ρ w h) m3;have n0:∀ρ w,I true false false false false ρ w→WR ro D P N ops Q 6 #[true,false,false,false,false,false,false] ρ w:=fun ρ w h=>two q0 e1 e2 (s1 true false ρ w h) n1 (s2 true false ρ w h) n2
 refine Ae r0 (by simp) fun k hk=> ?_
 rcases YH.1 hk with rfl|hk
 ·exact ⟨_,e0,sT (s0 _ _ _ _ ρ w st) n0⟩
 ·rcases YH.1 hk with rfl|hk
  ·exact ⟨_,e1,sT (s1 false false ρ w st) m1⟩
  ·obtain rfl:=YT.1 hk;exact ⟨_,e2,sT (s2 false false ρ w st) m2⟩
end
instance:aJ Tryz.prog 78 1 false 8 [.nilFunc]:={}
theorem tH (fx:FX) (L:Option Addr) (m2 c2:Nat) (tn:List NR) (k q G:Nat) (w:World) (hT:dP w) (hf:fx.at_ w) (hl:fx.jX k) (hcap:fx.m≤fx.b) (hS:Sl w L m2 3 (aA NR.cells tn)) (hv:∀s∈tn,xH q s s.d∧Sz q (1-s.d)) (hq:q≤2000)
  (hG:fx.e=0→∀d∈fx.ns,2+2*(q*d)+(d+1)≤G) (hk:k+fx.n*G≤500000):
  Calls Tryz.prog 11 #[.agg #[.slice fx.A fx.n fx.a,.slice fx.B fx.m fx.b],.slice L m2 c2] w fun r w'=>r=.returned (.tuple #[.agg #[.bool (nR (xP fx tn)).neg,.string (nR (xP fx tn)).aY,.int .i64 (nR (xP fx tn)).e],.int .i64 (EF fx m2)])∧Below w.heap.size w w':=by
 have hh:=Hp.start w;have hck:=fun w1 hT1 hb=>mv fx k w1 hT1 (hf.ext hb) hl;have hlt:=hS.bk NR.len Yp;have hev0:EF fx m2≠0→xP fx tn=0:=fun h=>by unfold xP;rw [hlt,Yu h]
 by_cases h0:fx.e=0
 ·by_cases h1:m2=fx.n
  ·have hE:EF fx m2=0:=by unfold EF;rw [Yu Yo,Yu Yo]
   have hV:xP fx tn=gC fx.ns.reverse (fx.cs.map NR.d) (tn.map NR.d).reverse:=by unfold xP;rw [hlt,hE,Yt rfl]
   rw [hE,hV];obtain ⟨hdeg,hnum,h12,hlow,hcnt,hmax⟩:=FX.fv h0;have hln:fx.ds.length=fx.n:=hf.ln.1;have hlm:=hf.ln.2;have hnl:fx.ns.length=fx.n:=by unfold FX.ns;rw [YI];exact hln
   have hm:fx.m=al fx.ns:=by rw [←hlm,hcnt]
   have hdg:Sl w fx.A fx.n 1 (bD (bq fx.ns)):=by rw [←hdeg];exact hf.dg
   have hxz:∀x∈fx.cs.map NR.d,Sz k x:=fun x h=>by
    obtain ⟨c,hc,rfl⟩:=YF.1 h;exact (hl.num c hc).2
   have hxl:(fx.cs.map NR.d).length=al fx.ns:=by rw [YI,hcnt]
   have hval:=x9 fx.ns.reverse (tn.map NR.d).reverse (fx.cs.map NR.d) (by rw [Y9,Y9,YI];omega) (by rw [hxl,cI]);have hnm:Sl w fx.B (al fx.ns) 3 (aA NR.cells ((fx.cs.map NR.d).map nR)):=by rw [←hm,←hnum];exact hf.nm
   have hG:=hG h0;rw [hm] at hcap;refine K4 ?_;refine iX fun D_=> ?_;refine ak ?_;refine bO hh [_,_] ?_;intro b2 w2 hh;refine bC hh ?_;intro b4 w4 hh;refine aI (aa ?_);refine iX fun D_=> ?_;refine sr ?_;refine bJ hh 1 [_,_] ?_;refine fS ?_;intro w13 hh;refine aI (aa (sr (mI ?_)));refine dn (aa (cF (aq (ai ?_))));refine iX fun D_=> ?_;refine sr (mL (aM (bo ?_)));refine bp hh 1 ?_;refine aM ?_;refine dn (aa (cF (aq (ai ?_))));refine iX fun D_=> ?_;refine ak (bo ?_);refine bp hh 1 ?_;refine aL (aa ?_);refine uS ?_;refine iX fun D_=> ?_;refine ak (mL (aM ?_));refine ee (aI (aa ?_));rw [hm];have hst:∀(H:List HE) (w1:World),Hp w (H++[]) w1→Sl w1 fx.B (al fx.ns) 3 (aA NR.cells ((fx.cs.map NR.d).map nR)):=fun H w1 h=>hnm.ext h.below;generalize fx.cs.map NR.d=xs at*;refine rH (OQ [7,8,9,10,11,30,31,32,33,34,35,36,37,38,39,40,41,42,43,44,45,46,47,48,49,50,51,52,53,54] 7 8
    (fun M v7 v8 w'=>∃(j:Nat) (z:Int) (X:List Dyadic) (A:Option Addr) (a:Nat) (R:List HE),j≤fx.n∧v8=.int .i64 z∧z=(j:Int)-1∧v7=.slice A (al (fx.ns.take j)) a∧al (fx.ns.take j)≤a∧X.length=al (fx.ns.take j)∧(∀x∈X,Sz (k+(fx.n-j)*G) x)∧px (fx.ns.take j).reverse ((tn.map NR.d).take j).reverse X=px fx.ns.reverse (tn.map NR.d).reverse xs∧(∀x∈R,x.Md=true)∧(∀(H:List HE) (w1:World),Hp w (H++R) w1→Sl w1 A (al (fx.ns.take j)) 3 (aA NR.cells (X.map nR)))∧Hp w (.blk b4 33 [.bool false,.string (ByteArray.mk #[]),.int .i64 0] (0,0)::.blk b2 25 [.slice fx.A fx.n fx.a,.slice fx.B fx.m fx.b] (0,0)::(R++rL M)) w')
    (fun _ v _=>(intOf v+1).toNat) ?_ ?_)
   ·refine ⟨fx.n,_,xs,_,_,[],YA _,rfl,Yo,by rw [YC Yo];rfl,by rw [YC Yo];exact hcap,by rw [YC Yo];exact hxl,fun x h=>(hxz x h).mono Yo,by rw [YC Yo,YC (by rw [YI];omega)],fun x h=>(by cases h),by rw [YC Yo];exact hst,hh⟩
   ·clear hh hst;rintro M ρ' v7 v8 w' ⟨j,z,X,A,a,R,hj,rfl,hz,rfl,hca,hXl,hXz,hXe,hcR,hrd,hh⟩;by_cases hj0:j=0
    ·subst hj0;obtain rfl:z= -1:=Yo;have hX:X=[gC fx.ns.reverse xs (tn.map NR.d).reverse]:=by
      rw [←hval,←hXe];simp [px]
     subst hX;have hh1:Hp w ([_,_]++R) w':=hh.sub (.cons_cons _ (.cons_cons _ (aaW R _)));have hsl:=hrd _ _ hh1;rw [Z7] at hsl;obtain ⟨ac,rfl,sc⟩:=hsl.at_ (show 0<al [] by decide);have hx0:([gC fx.ns.reverse xs (tn.map NR.d).reverse].map nR)[0]?=some (nR (gC fx.ns.reverse xs (tn.map NR.d).reverse)):=rfl;generalize gC fx.ns.reverse xs (tn.map NR.d).reverse=V at*;rw [Z7];refine iX fun D_=> ?_;refine sr (mI ?_);refine dF (aa (cF (aX (aE ?_))));refine O4 ?_;refine iX fun D_=> ?_;refine ak (mL ?_);refine cN (k:=0) bG.out aJ.size rfl rfl Yo (show 0<al [] by decide) Yp ?_;refine cg (vs:=[_,_,_]) aJ.out rfl (sc.recAt NR.len hx0) rfl Yp ?_;refine bg hh 0 [_,_,_] ?_;intro ws hh;replace hh:Hp _ (.blk _ _ [_,_,_] _::_) _:=hh;refine aI (aa ?_);refine D0 fun D_=> ?_;refine av ?_;refine oJ (M:=M) (vs:=[.agg #[.bool (nR V).neg,.string (nR V).aY,.int .i64 (nR V).e],.int .i64 0]) (hh.perm (abE (l₁:=_::_::R))) (.inr rfl) rfl ?_;exact UL
    ·obtain ⟨i,rfl⟩:∃i,j=i+1:=⟨j-1,Yo⟩;obtain rfl:z=(i:Int):=Yo;obtain ⟨tq,htq⟩:=ao (l:=tn) (k:=i) Yo;obtain ⟨vt,ht1⟩:=hv tq (Yy htq);obtain ⟨d,hd⟩:=ao (l:=fx.ns) (k:=i) Yo;have hmd:=Yy hd;have hdl:=hlow d hmd;have hGd:=hG d hmd;have hgd:=cK (eO hd);obtain ⟨adL,rfl,sL⟩:=hS.at_ Yo;obtain ⟨adD,hAD,sD⟩:=hdg.at_ Yo;have rX:Value.slice fx.A fx.n fx.a=.slice (some adD) fx.n fx.a:=by rw [hAD]
     have hh1:Hp w ([_,_]++R) w':=hh.sub (.cons_cons _ (.cons_cons _ (aaW R _)));obtain ⟨ac,rfl, -⟩:=(hrd _ _ hh1).at_ (di _);clear hh1;have hcs:al (fx.ns.take (i+1))=al (fx.ns.take i)*(d+1):=by rw [aw hd,dA];simp [al]
     have hct:=ez fx.ns (i+1);have hcp:=di (fx.ns.take i);have hc4:=ez fx.ns i;have hd1c:d+1≤al (fx.ns.take (i+1)):=by rw [hcs];exact aaX _ hcp
     have hKG:k+(fx.n-(i+1))*G+G=k+(fx.n-i)*G:=by
      rw [show fx.n-i=fx.n-(i+1)+1 by omega,aaJ,aaC];omega
     have hKle:k+(fx.n-(i+1))*G≤500000:=by
      have:=Zo G (show fx.n-(i+1)≤fx.n by omega);omega
     have eD:(d:Int)+1=((d+1:Nat):Int):=Yo;refine iX fun D_=> ?_;refine sr (mI ?_);refine dF (aa (cT (aq (ai ?_))));refine uS (rH ?_);refine iX fun D_=> ?_;refine ak (mL (mI ?_));refine bZ ?_;refine cg (vs:=[_,_,_]) aJ.out rfl ((sL.ext hh.below).recAt NR.len htq) rfl Yp ?_;refine ay (AV tq tq.d q _ (hT.hp hh) vt hq) au.out rfl Yp ?_;rintro e_ w38 ⟨b1,b3,rfl,h2⟩;refine ⟨_,rfl, ?_⟩;replace hh:=hh.join h2;simp only [YB,Yz] at hh;clear h2;refine bC hh ?_;intro b9 w9 hh;refine bg hh 0 [_] ?_;intro ws hh;replace hh:Hp _ (.blk _ _ [_] _::_) _:=hh;refine aa ?_;refine iX fun D_=> ?_;refine ak ?_;refine bC hh ?_;intro b10 w10 hh;refine aa ?_;refine uS ?_;refine iX fun D_=> ?_;refine ak (mL (bo ?_));refine bp hh 5 ?_;refine mI ?_;refine Ix ?_;refine bY aJ.out rfl ((sD.ext hh.below).tN hgd) Yp ?_;refine a8 ?_;rw [eD];refine ay (tB (some ac) (al (fx.ns.take (i+1))) a (d+1) _ Yo) au.out rfl Yp ?_;rintro e_ w46 ⟨c2,c1,rfl,h2⟩;refine ⟨_,rfl, ?_⟩;replace hh:=hh.join h2;simp only [YB,Yz] at hh;clear h2;replace hh:=hh.perm (Zp (l₁:=[_,_]))
     simp only [YB,Yz] at hh;replace hh:=hh.dm 33 3;refine aa ?_;have hmk:=hh.Ts (M:=M) (by repeat (first|exact abH _ _|apply Yw));have hmlt:=hmk.lt;replace hh:=hh.sub (H':=_::_::_::_::_::_::_::_::_::R) (by repeat (first|exact aaW _ _|apply Yv));have hc2:=hh.dk (i:=3) (o:=0) rfl rfl;have hc1:=hh.dk (i:=2) (o:=0) rfl rfl;have hseq:=yn c2 c1 ac (al (fx.ns.take (i+1))) a (d+1) (al (fx.ns.take i)) _ hc2 hc1 hcs Yo hca Yo Yo
     have hcel:∀(A1:Option Addr) (n1 k1:Nat) (cs vs:List Value),∀x∈(HE.row A1 n1 k1 33 3 cs::.blk b10 23 vs (0,0)::.blk c1 3 [.int .i64 ((d+1:Nat):Int)] (0,0)::.blk c2 23 [.slice (some ac) (al (fx.ns.take (i+1))) a] (0,0)::.blk b9 78 [.func (.func 86) #[] #[.pointer (some ⟨b1,0,none⟩),.pointer (some ⟨b3,0,none⟩)]] (0,0)::.blk b3 33 [.bool (nR (1-tq.d)).neg,.string (nR (1-tq.d)).aY,.int .i64 (nR (1-tq.d)).e] (0,0)::.blk b1 33 [.bool tq.neg,.string tq.aY,.int .i64 tq.e] (0,0)::.blk b4 33 [.bool false,.string (ByteArray.mk #[]),.int .i64 0] (0,0)::.blk b2 25 [.slice fx.A fx.n fx.a,.slice fx.B fx.m fx.b] (0,0)::R),x.Md=true:=fun A1 n1 k1 cs vs x hx=>by
      simp only [YH] at hx
      rcases hx with rfl|rfl|rfl|rfl|rfl|rfl|rfl|rfl|rfl|hx
      all_goals first|rfl|exact hcR x hx
     trace_state
     refine rH (zr (α:=Fin (al (fx.ns.take i))) (enc:=fun jj:Fin (al (fx.ns.take i))=>.slice (some (ac.add (jj.val*(d+1)*3))) (d+1) (d+1)) 11 Yp Yp rfl (enters_of Tryz.func88 Yq rfl) hseq H8 (fun W l o o' h _ _ _=>GN (lC hc2) (lC hc1) W l o o' h)
      (fun bs W=>∃(Y:List Dyadic) (A1:Option Addr) (k1:Nat),Y.length=bs.length∧(∀y∈Y,Sz (k+(fx.n-i)*G) y)∧(bs=(List.finRange (al (fx.ns.take i))).take bs.length→Y=(mi d tq.d (al (fx.ns.take i)) X).take bs.length)∧Marks w M W∧Hp w (.row A1 bs.length k1 33 3 (aA NR.cells (Y.map nR))::.blk b10 23 [.slice A1 bs.length k1] (0,0)::.blk c1 3 [.int .i64 ((d+1:Nat):Int)] (0,0)::.blk c2 23 [.slice (some ac) (al (fx.ns.take (i+1))) a] (0,0)::.blk b9 78 [.func (.func 86) #[] #[.pointer (some ⟨b1,0,none⟩),.pointer (some ⟨b3,0,none⟩)]] (0,0)::.blk b3 33 [.bool (nR (1-tq.d)).neg,.string (nR (1-tq.d)).aY,.int .i64 (nR (1-tq.d)).e] (0,0)::.blk b1 33 [.bool tq.neg,.string tq.aY,.int .i64 tq.e] (0,0)::.blk b4 33 [.bool false,.string (ByteArray.mk #[]),.int .i64 0] (0,0)::.blk b2 25 [.slice fx.A fx.n fx.a,.slice fx.B fx.m fx.b] (0,0)::R) W)
      ?own ?zero ?asg ?body ?done)
     case own=>
      intro s W W' row ⟨Y,A1,k1,h1,h2,h3,h4,h5⟩ hg hr;exact ⟨Y,A1,k1,h1,h2,h3,h4.grown hmlt hg (fun r e=>(hr r e).1),h5.Mc (hcel _ _ _ _ _) hg fun r e=>⟨Y1 hh.size (hr r e).1,(hr r e).2⟩⟩
     case zero=>exact ⟨[],none,0,rfl,fun y h=>(by cases h),fun _=>rfl,hmk,hh⟩
     case asg=>
      intro l x W;refine ak (aL (aD ?_));exact ⟨rfl,rfl⟩
     case body=>
      rintro l bs qq W ⟨Y,A1,k1,hYl,hYz,hYe,hmk2,hh0⟩ hbl;have hqm:=qq.isLt;have hh:=hh0.G8;simp only [YB,Yz] at hh;generalize hO:xF _ _ _=O at hh;have hq1:qq.val*(d+1)+(d+1)≤al (fx.ns.take (i+1)):=by
       have:=Zo (d+1) (show qq.val+1≤al (fx.ns.take i) from hqm);rw [ZA] at this;omega
      have hline:=(hrd [_,_,_,_,_,_,_,_,_] W hh0).part (qq.val*(d+1)) (d+1) hq1 Yo;rw [zR] at hline;have hfo:=fun w1 hT1 hS1 hb1 hb2=>x5 tq tq.d ⟨b1,0,none⟩ ⟨b3,0,none⟩ (some (ac.add (qq.val*(d+1)*3))) (d+1) (d+1) d (nK (d+1) qq.val X) (k+(fx.n-(i+1))*G) q w1 hT1 hS1 rfl hdl (fun x hx=>hXz x (sZ hx)) vt ht1 hb1 hb2 hKle hq;have hfz:=Bd (d:=d) (i:=d+1) (fun x hx=>hXz x (sZ (K:=d+1) (q:=qq.val) hx)) vt.sz ht1 (YA _);have hfa:=MX (d:=d) (m:=al (fx.ns.take i)) tq.d X hqm;generalize mW d tq.d (nK (d+1) qq.val X) (d+1)=y at*;refine ar ?_;refine Mj hh mixed fun W2 hJ2=> ?_;have hst2:=hJ2.hp
      refine L5 (I:=fun c x1 x2 e g ρ w'=>ρ 9=.pointer (some ⟨b9,0,none⟩)∧ρ 10=.pointer (some ⟨b10,0,none⟩)∧ρ 11=.slice (some (ac.add (qq.val*(d+1)*3))) (d+1) (d+1)∧(c=true→ρ 48=.slice A1 bs.length k1)∧(x1=true→ρ 49=.func (.func 86) #[] #[.pointer (some ⟨b1,0,none⟩),.pointer (some ⟨b3,0,none⟩)])∧(x2=true→ρ 50=.slice (some (ac.add (qq.val*(d+1)*3))) (d+1) (d+1))∧(e=true→ρ 51=.agg #[.bool (nR y).neg,.string (nR y).aY,.int .i64 (nR y).e])∧∃R52:List HE,Hp w (R52++(.row A1 bs.length k1 33 3 (aA NR.cells (Y.map nR))::.blk b10 23 [.slice A1 bs.length k1] (0,0)::.blk c1 3 [.int .i64 ((d+1:Nat):Int)] (0,0)::.blk c2 23 [.slice (some ac) (al (fx.ns.take (i+1))) a] (0,0)::.blk b9 78 [.func (.func 86) #[] #[.pointer (some ⟨b1,0,none⟩),.pointer (some ⟨b3,0,none⟩)]] (0,0)::.blk b3 33 [.bool (nR (1-tq.d)).neg,.string (nR (1-tq.d)).aY,.int .i64 (nR (1-tq.d)).e] (0,0)::.blk b1 33 [.bool tq.neg,.string tq.aY,.int .i64 tq.e] (0,0)::.blk b4 33 [.bool false,.string (ByteArray.mk #[]),.int .i64 0] (0,0)::.blk b2 25 [.slice fx.A fx.n fx.a,.slice fx.B fx.m fx.b] (0,0)::(R++O))) w'∧(g=true→∃g52,ρ 52=.slice (some ⟨g52,0,none⟩) 1 1∧R52=[.row (some ⟨g52,0,none⟩) 1 1 33 3 [.bool (nR y).neg,.string (nR y).aY,.int .i64 (nR y).e]]))
       (J:=fun ρ w'=>ρ 10=.pointer (some ⟨b10,0,none⟩)∧∃(A3:Option Addr) (k3:Nat),ρ 53=.slice A3 (bs.length+1) k3∧Hp w (.row A3 (bs.length+1) k3 33 3 (aA NR.cells (Y.map nR)++[.bool (nR y).neg,.string (nR y).aY,.int .i64 (nR y).e])::.blk b10 23 [.slice A1 bs.length k1] (0,0)::.blk c1 3 [.int .i64 ((d+1:Nat):Int)] (0,0)::.blk c2 23 [.slice (some ac) (al (fx.ns.take (i+1))) a] (0,0)::.blk b9 78 [.func (.func 86) #[] #[.pointer (some ⟨b1,0,none⟩),.pointer (some ⟨b3,0,none⟩)]] (0,0)::.blk b3 33 [.bool (nR (1-tq.d)).neg,.string (nR (1-tq.d)).aY,.int .i64 (nR (1-tq.d)).e] (0,0)::.blk b1 33 [.bool tq.neg,.string tq.aY,.int .i64 tq.e] (0,0)::.blk b4 33 [.bool false,.string (ByteArray.mk #[]),.int .i64 0] (0,0)::.blk b2 25 [.slice fx.A fx.n fx.a,.slice fx.B fx.m fx.b] (0,0)::(R++O)) w')
       (K:=fun _ w'=>∃(A3:Option Addr) (k3:Nat),Hp w (.row A3 (bs.length+1) k3 33 3 (aA NR.cells (Y.map nR)++[.bool (nR y).neg,.string (nR y).aY,.int .i64 (nR y).e])::.blk b10 23 [.slice A3 (bs.length+1) k3] (0,0)::.blk c1 3 [.int .i64 ((d+1:Nat):Int)] (0,0)::.blk c2 23 [.slice (some ac) (al (fx.ns.take (i+1))) a] (0,0)::.blk b9 78 [.func (.func 86) #[] #[.pointer (some ⟨b1,0,none⟩),.pointer (some ⟨b3,0,none⟩)]] (0,0)::.blk b3 33 [.bool (nR (1-tq.d)).neg,.string (nR (1-tq.d)).aY,.int .i64 (nR (1-tq.d)).e] (0,0)::.blk b1 33 [.bool tq.neg,.string tq.aY,.int .i64 tq.e] (0,0)::.blk b4 33 [.bool false,.string (ByteArray.mk #[]),.int .i64 0] (0,0)::.blk b2 25 [.slice fx.A fx.n fx.a,.slice fx.B fx.m fx.b] (0,0)::(R++O)) w')
       rfl rfl rfl rfl rfl rfl rfl Yq Yq Yq Yq Yq Yq Yq Yq Yq Yq Yq Yq Yq Yq ?s0 ?s1 ?s2 ?s3 ?s4 ?s5 ?s6 ?fin ?st
      case st=>exact ⟨rfl,rfl,rfl,fun h=>(by cases h),fun h=>(by cases h),fun h=>(by cases h),fun h=>(by cases h),[],hst2,fun h=>(by cases h)⟩
      case s0=>
       rintro a b e g ρ w3 ⟨h9,h10,h11, -,h49,h50,h51,R52,hp,h52⟩;have hp2:=hp.sub (abH R52 _);refine bY aJ.out h10 (hp2.dk (i:=1) (o:=0) rfl rfl) Yp (aa ?_);refine ⟨(bF _ Yp _).trans h9,(bF _ Yp _).trans h10,(bF _ Yp _).trans h11,fun _=>jK _ _ _,fun h=>(bF _ Yp _).trans (h49 h),fun h=>(bF _ Yp _).trans (h50 h),fun h=>(bF _ Yp _).trans (h51 h),R52,hp,fun h=> ?_⟩;obtain ⟨g52,h1,h2⟩:=h52 h;exact ⟨g52,(bF _ Yp _).trans h1,h2⟩
      case s1=>
       rintro c b ρ w3 ⟨h9,h10,h11,h48, -,h50,h51,R52,hp,h52⟩;have hp2:=hp.sub (abH R52 _);refine bY aJ.out h9 (hp2.dk (i:=4) (o:=0) rfl rfl) Yp (aa ?_);exact ⟨(bF _ Yp _).trans h9,(bF _ Yp _).trans h10,(bF _ Yp _).trans h11,fun h=>(bF _ Yp _).trans (h48 h),fun _=>jK _ _ _,fun h=>(bF _ Yp _).trans (h50 h),fun h=>(by cases h),R52,hp,fun h=>(by cases h)⟩
      case s2=>
       rintro c a ρ w3 ⟨h9,h10,h11,h48,h49, -,h51,R52,hp,h52⟩;refine aV rfl rfl Yp (fV h11) (aa ?_);exact ⟨(bF _ Yp _).trans h9,(bF _ Yp _).trans h10,(bF _ Yp _).trans h11,fun h=>(bF _ Yp _).trans (h48 h),fun h=>(bF _ Yp _).trans (h49 h),fun _=>jK _ _ _,fun h=>(by cases h),R52,hp,fun h=>(by cases h)⟩
      case s3=>
       rintro c ρ w3 ⟨h9,h10,h11,h48,h49,h50, -,R52,hp,h52⟩;have hp2:=hp.sub (abH R52 _);have hp3:Hp w ([_,_,_,_,_,_,_,_,_]++R) w3:=hp2.sub (by repeat (first|exact aaW _ _|apply Yv));have hl3:=(hrd _ w3 hp3).part (qq.val*(d+1)) (d+1) hq1 Yo;rw [zR] at hl3;refine gU (first:=[]) (cap:=[_,_]) (hfo w3 (hT.hp hp2) hl3 (hp2.aQ (i:=6) (n:=3) rfl rfl) (hp2.aQ (i:=5) (n:=3) rfl rfl)) au.out (h49 rfl) (Ze (fun l=>[]++(l++[_,_])) (aC (show ev ρ (Operand.tmp 50)=_ from h50 rfl) bh)) Yp ?_;rintro e_ w5 ⟨rfl,hb_⟩;refine ⟨_,rfl,aa ?_⟩;exact ⟨(bF _ Yp _).trans h9,(bF _ Yp _).trans h10,(bF _ Yp _).trans h11,fun h=>(bF _ Yp _).trans (h48 h),fun h=>(bF _ Yp _).trans (h49 h),fun h=>(bF _ Yp _).trans (h50 h),fun _=>jK _ _ _,R52,hp.ext hb_,fun h=>(by cases h)⟩
      case s4=>
       rintro c ρ w3 ⟨h9,h10,h11,h48,h49,h50,h51,R52,hp, -⟩;have hp2:=hp.sub (abH R52 _);refine cW hp2 (cs:=[_,_,_]) bG.out aJ.out (bQ (show ev ρ (Operand.tmp 51)=_ from h51 rfl) dN) rfl rfl Yp Yp Yp rfl Yp ?_;intro g52 w5 hp5;refine aa ?_;exact ⟨(bF _ Yp _).trans h9,(bF _ Yp _).trans h10,(bF _ Yp _).trans h11,fun h=>(bF _ Yp _).trans (h48 h),fun h=>(bF _ Yp _).trans (h49 h),fun h=>(bF _ Yp _).trans (h50 h),fun h=>(bF _ Yp _).trans (h51 h),[_],hp5,fun _=>⟨g52,jK _ _ _,rfl⟩⟩
      case s5=>
       rintro ρ w3 ⟨h9,h10,h11,h48,h49,h50,h51,R52,hp,h52⟩;obtain ⟨g52,h52',rfl⟩:=h52 rfl;refine cu hp (i:=1) rfl (show ev ρ (Operand.tmp 48)=_ from h48 rfl) (show ev ρ (Operand.tmp 52)=_ from h52') (hp.az (i:=0) rfl) bG.out aJ.out rfl Yp (bK NR.one [nR y]) Yo Yo Yp ?_;intro A3 k3 w5 hp5;refine aa ⟨(bF _ Yp _).trans h10,A3,k3,jK _ _ _, ?_⟩;exact hp5.sub (Zc _ _)
      case s6=>
       rintro ρ w3 ⟨h10,A3,k3,h53,hp⟩;refine Co hp h10 (i:=1) rfl h53 rfl aJ.out rfl (by simp) rfl ?_;intro w5 hp5;exact aa ⟨A3,k3,hp5⟩
      case fin=>
       rintro ρ ws ⟨A3,k3,hh⟩;refine bz ?_;subst hO;obtain ⟨gr,rfl⟩:=hh.cq (i:=0) rfl Yo;have hkeep:=Hp.Tz (T':=_::_::_::_::_::_::_::_::R) hh0 (hcel _ _ _ _ _) hh rfl rfl;have el:(bs++[qq]).length=bs.length+1:=by simp
       refine ⟨hkeep,⟨by rw [hh.dk (i:=3) (o:=0) rfl rfl,hh0.dk (i:=3) (o:=0) rfl rfl],by rw [hh.dk (i:=2) (o:=0) rfl rfl,hh0.dk (i:=2) (o:=0) rfl rfl]⟩,Y++[y],some ⟨gr,0,none⟩,k3, ?_, ?_, ?_,hmk2.keeps hkeep, ?_⟩
       ·rw [el,YE,hYl];rfl
       ·intro x hx
        rcases Zm.1 hx with hx|hx
        ·exact hYz x hx
        ·obtain rfl:=YT.1 hx;exact hfz.mono Yo
       ·intro h;obtain ⟨h1,h2⟩:=yG h hbl;rw [el,hYe h1,←h2,aw hfa]
       ·rw [el,ZD,bM];exact hh.sub (by repeat (first|exact aaW _ _|apply Yv))
     case done=>
      rintro D bs W hD2 rfl ⟨Y,A1,k1,hYl,hYz,hYe,hmk2,hh0⟩ hDo;have hA2:=hYe (by rw [YC (YA _)]);rw [YC (by rw [so,abg];exact YA _)] at hA2;rw [abg] at hh0;subst hA2;have hmk3:=hmk2.cons hmlt hh.size hD2 hDo;have hroom:=hh0.gG (i:=0) rfl;replace hh:=hh0.UA (hcel _ _ _ _ _) hmk3;simp only [YB,Yz] at hh;refine D0 fun D_=> ?_;refine ak ?_;refine bp hh 1 ?_;refine aL (aD ?_);refine T6 ?_;refine D0 fun D_=> ?_;refine ak (mI ?_);refine ee (aI (aD ?_));refine NN ?_;replace hh:=hh.sub (Yv _ (Yw _ (Yw _ (Yw _ (Yw _ (Yw _ (Yw _ (Yv _ (Yv _ (Zq _))))))))));replace hh:=hh.perm (Zp (l₁:=[_,_]));simp only [YB,Yz] at hh;replace hh:=hh.perm (Zp (l₁:=[_,_]));simp only [YB,Yz] at hh
      refine ⟨⟨i,(i:Int)-1,mi d tq.d (al (fx.ns.take i)) X,A1,k1,.row A1 (al (fx.ns.take i)) k1 33 3 (aA NR.cells ((mi d tq.d (al (fx.ns.take i)) X).map nR))::R,Yo,rfl,rfl,rfl,hroom,so _ _ _ _,fun x hx=>(KY hXz vt.sz ht1 x hx).mono Yo, ?_,fun x hx=> ?_,fun H w1 h1=> ?_,hh⟩, ?_, ?_⟩
      ·rw [←Ft X hd (by rw [YJ,htq];rfl)];exact hXe
      ·rcases YH.1 hx with rfl|hx
       ·rfl
       ·exact hcR x hx
      ·exact lz (h1.own (.row A1 (al (fx.ns.take i)) k1 33 3 (aA NR.cells ((mi d tq.d (al (fx.ns.take i)) X).map nR))) (Zu _ YD))
      ·show ((i:Int)-1+1).toNat<((i:Int)+1).toNat;omega
      ·exact er
  ·have hE:EF fx m2=1:=by unfold EF;rw [Yu Yo,Yt h1]
   rw [hev0 (by rw [hE];decide),hE];refine K4 ?_;refine iX fun D_=> ?_;refine ak ?_;refine bO hh [_,_] ?_;intro b2 w2 hh;refine bC hh ?_;intro b4 w4 hh;refine aI (aa ?_);refine iX fun D_=> ?_;refine sr ?_;refine bJ hh 1 [_,_] ?_;refine fS ?_;intro w13 hh;refine aI (aa (sr (mI ?_)));refine dn (aa (cF (aq (ai ?_))));refine iX fun D_=> ?_;refine sr (mL (aM (bo ?_)));refine bp hh 1 ?_;refine aM ?_;refine dn (aa (cT (sr ?_)));refine fe [_,_,_] ?_;refine bg hh 0 [_,_,_] ?_;intro ws hh;replace hh:Hp _ (.blk _ _ [_,_,_] _::_) _:=hh;refine aI (aa (av (aF ?_)));refine oJ (M:=[]) (vs:=[.agg #[.bool false,.string (ByteArray.mk #[]),.int .i64 0],.int .i64 1]) hh (.inr rfl) rfl ?_;exact UL
 ·have hE:EF fx m2=fx.e:=by unfold EF;rw [Yt h0]
  rw [hev0 (by rw [hE];exact h0),hE];refine K4 ?_;refine iX fun D_=> ?_;refine ak ?_;refine bO hh [_,_] ?_;intro b2 w2 hh;refine bC hh ?_;intro b4 w4 hh;refine aI (aa ?_);refine iX fun D_=> ?_;refine sr ?_;refine bJ hh 1 [_,_] ?_;refine fS ?_;intro w13 hh;refine aI (aa (sr (mI ?_)));refine dn (aa (cT (sr ?_)));refine fe [_,_,_] (mI ?_);refine bg hh 0 [_,_,_] ?_;intro ws hh;replace hh:Hp _ (.blk _ _ [_,_,_] _::_) _:=hh;refine aI (aa (av (aF ?_)));refine oJ (M:=[]) (vs:=[.agg #[.bool false,.string (ByteArray.mk #[]),.int .i64 0],.int .i64 fx.e]) hh (.inr rfl) rfl ?_;exact UL
variable {k1 k2:Nat}{ms:List Nat}
theorem KA {ns:List Nat} (xs ys ts:List Dyadic) (h:ns.length=ms.length):gC (eS ns ms).reverse (xt ns ms xs ys) ts=gC ns.reverse xs ts*gC ms.reverse ys ts:=by
 have:=MU (ds:=ns.reverse) (es:=ms.reverse) (xs:=xs) (ys:=ys) (ts:=ts) (by rw [Y9,Y9,h]);rw [rg h,cI] at this;rw [←this];unfold xt xA DR;rw [cI ms]
theorem val_one (ds:List Nat) (ts:List Dyadic) (h:ts.length=ds.length):gC ds.reverse ((xK ds).map nD) ts=1:=by
 rw [←HQ ds.reverse ts (by rw [Y9,h])];unfold gC;refine cU fun p hp=> ?_;have hp:=Zi.1 hp;congr 1;unfold xK;rw [YJ,YJ,ZF hp]
 rfl
theorem yU {ns D:List Nat}{ts:List Dyadic} (hl:ns.length=D.length) (h:∀(i n t:Nat),ns[i]?=some n→D[i]?=some t→n≤t) (ht:ts.length=D.length):gC D.reverse (qb ns D xs) ts=gC ns.reverse xs ts:=by
 have hs:(je D ns).length=D.length:=ri hl.symm;have:=KA (ns:=ns) (ms:=je D ns) xs ((xK (je D ns)).map nD) ts (by rw [hs,hl]);rw [uL hl h,val_one _ _ (by rw [hs,ht])] at this;unfold qb;rw [this];grind
theorem Mt {ns:List Nat}{ys:List Dyadic} (hx:∀x∈xs,Sz k1 x) (hy:∀y∈ys,Sz k2 y):∀x∈xt ns ms xs ys,Sz (k1+k2+al ms*al ns) x:=fun x h=>by
 have:=AY (N:=al (eS ns ms)) (EI (ds:=ns.reverse) (es:=ms.reverse) hx hy (al ms)) x h;rwa [IX,cI] at this
theorem Jt {ns D:List Nat} (hx:∀x∈xs,Sz k x) (hl:ns.length=D.length) (h12:D.length≤12) (hD:∀d∈D,d≤127):∀x∈qb ns D xs,Sz (k+1600+al (je D ns)*al ns) x:=fun x h=>by
 have hs:(je D ns).length=D.length:=ri hl.symm;have hsb:∀d∈je D ns,d≤127:=fun d hd=>by
  obtain ⟨i,hi⟩:=ZU.1 hd;have hi2:=(YL.1 hi).1;obtain ⟨a,ha⟩:=ao (l:=D) (k:=i) Yo;obtain ⟨b,hb⟩:=ao (l:=ns) (k:=i) Yo;rw [uH ha hb] at hi;have:=hD a (Yy ha);have:=Zg hi;omega
 exact Mt hx (fun y hy=>by
  obtain ⟨z,hz,rfl⟩:=YF.1 hy;exact L6 hz Yo hsb) x h
theorem xe:∀{ds:List Nat}{d:Nat},d∈ds→d+1≤al ds
 |e::ds,d,h=>by
  rw [al]
  rcases YH.1 h with rfl|h
  ·exact abM _ (di ds)
  ·exact Y1 (xe h) (aaX _ Yo)
def Dt (a:NR):Bool:=decide ((8:Int)<a.aY.size∨a.e< -60∨60<a.e)
theorem WJ {a:NR} (h:Dt a=false):a.ok∧Sz 124 a.d:=by
 have h':=of_decide_eq_false h;have h1:(a.aY.size:Int)≤8:=Yo;have h2: -60≤a.e:=Yo;have h3:a.e≤60:=Yo;exact ⟨⟨Yo,Yo,Yo⟩,Sz.raw (m:=64) (E:=60) Yo h2 h3⟩
def FX.small (f:FX):Prop:=f.jX 124∧f.m≤60∧f.n≤20
abbrev Yi (l:List Int) (A:Option Addr) (a:Nat) (B:Option Addr) (b:Nat):FX:=⟨A,1,a,B,l.length,b,[(l.length:Int)-1],l.map fun z:Int=>nR (z:Dyadic)⟩
def Xz (ds:List Int) (cs:List NR):VP:=fun v W=>∃g:FX,v=.agg #[.slice g.A g.n g.a,.slice g.B g.m g.b]∧g.ds=ds∧g.cs=cs∧g.at_ W
theorem sk {f:FX} (h:f.small) (h0:f.e=0) (hl:f.cs.length=f.m):∀d∈f.ns,d≤59:=fun d hd=>by
 have h1:=xe hd;have h2:=(FX.fv h0).2.2.2.2.1;have:=h.2.1;omega
theorem IW {q B:Nat}:∀(ds rs:List Nat) (ts:List Dyadic),(∀d∈ds,d≤B)→(∀t∈ts,Sz q t∧Sz q (1-t))→l5 ds rs→Sz (1+ds.length*(2+2*(q*B))) (lV ds rs ts)
 |[],[],_,_,_,_=>by simpa [lV] using Sz.one
 |d::ds,r::rs,[],_,_,_=>by
  show Sz _ (1:Dyadic);exact Sz.one.mono Yo
 |d::ds,r::rs,t::ts,hd,ht,hr=>by
  have h1:=IW (q:=q) (B:=B) ds rs ts (fun x h=>hd x (YK _ h)) (fun x h=>ht x (YK _ h)) hr.2;obtain ⟨t1,t2⟩:=ht t YD;have hdB:=hd d YD;have hr1:=hr.1;show Sz _ (nN d r t*lV ds rs ts);unfold nN;have h2:=((t1.xG (show r≤B by omega)).mul (t2.xG (show d-r≤B by omega))).mul h1;refine h2.mono ?_;rw [Y3,aaJ,aaC];omega
theorem O7 {B:Nat}{ts:List Dyadic} (hd:∀d∈ds,d≤B) (ht:∀t∈ts,Sz q t∧Sz q (1-t)) (hx:∀x∈xs,Sz k x):Sz (k+(1+ds.length*(2+2*(q*B)))+al ds) (gC ds xs ts):=by
 have:=DY (l:=List.range (al ds)) (f:=fun p=>(xs[p]?).getD 0*lV ds (bW ds p) ts) (k:=k+(1+ds.length*(2+2*(q*B)))) fun p _=>by
  refine Sz.mul ?_ (IW ds _ ts hd ht (iU ds p))
  cases h:xs[p]? with
  |none=>exact Sz.zero _
  |some x=>exact hx x (Yy h)
 rw [aaO] at this;exact this
theorem Ii {f:FX}{tn:List NR} (h:f.small) (h0:f.e=0) (hl:f.cs.length=f.m) (hv:∀s∈tn,xH 125 s s.d∧Sz 125 (1-s.d)):Sz 200000 (gC f.ns.reverse (f.cs.map NR.d) (tn.map NR.d).reverse):=by
 have h12:=(FX.fv h0).2.2.1;have hc:=(FX.fv h0).2.2.2.2.1;have hm:=h.2.1;refine (O7 (q:=125) (B:=59) (k:=124) (fun d hd=>sk h h0 hl d (aau.1 hd)) (fun t ht=> ?_) (fun x hx=> ?_)).mono ?_
 ·obtain ⟨s,hs,rfl⟩:=YF.1 (aau.1 ht);exact ⟨(hv s hs).1.sz,(hv s hs).2⟩
 ·obtain ⟨c,hc,rfl⟩:=YF.1 hx;exact (h.1.num c hc).2
 ·rw [Y9,cI];omega
theorem yE {f:FX}{D:List Nat} (h:f.small) (h0:f.e=0) (hl:f.cs.length=f.m) (hlen:D.length=f.ns.length) (hle:∀(i x y:Nat),f.ns[i]?=some x→D[i]?=some y→x≤y) (h127:∀d∈D,d≤127) (hc:al D≤4096):∀x∈lh D f,Sz 250000 x:=fun x hx=>by
 have h12:=(FX.fv h0).2.2.1;have hcn:=(FX.fv h0).2.2.2.2.1;have hm:=h.2.1;have h1:=Jt (ns:=f.ns) (D:=D) (xs:=f.cs.map NR.d) (k:=124) (fun y hy=>by
  obtain ⟨c,hc,rfl⟩:=YF.1 hy;exact (h.1.num c hc).2) hlen.symm Yo h127 x hx
 have h2:al (je D f.ns)≤al D:=sB (ri hlen) fun i a b ha hb=>by
  obtain ⟨y,hy⟩:=ao (l:=f.ns) (k:=i) (by have:=(YL.1 hb).1;omega);rw [uH hb hy] at ha;have:=Zg ha;omega
 have h3:al (je D f.ns)*al f.ns≤4096*60:=Z5 Yo Yo;exact h1.mono Yo
variable {P:Program}{pos:String}{z:Int}{ρ:Rf}
theorem E9 (a:NR) (w:World):
  Calls Tryz.prog 13 #[.agg #[.bool a.neg,.string a.aY,.int .i64 a.e]] w fun r w'=>r=.returned (.bool (Dt a))∧Below w.heap.size w w':=by
 have hh:=Hp.start w;by_cases h1:(8:Int)<a.aY.size
 ·refine G2 ?_;refine sr ?_;refine bO hh [_,_,_] ?_;intro b1 w1 hh;refine aB (aa (sr (bo (bo ?_))));refine bp hh 0 ?_;refine ck bG.out rfl Yp ?_;refine bT (mB ?_);refine gS (gS (gS ?_));refine gi ?_;refine mB ?_;refine gS (gS (gS ?_));refine gi ?_;refine aB (aa (av ?_));refine dH ?_;refine ⟨?_,hh.below⟩;unfold Dt;rw [YN (.inl h1)]
 ·by_cases h2:a.e< -60
  ·refine G2 ?_;refine sr ?_;refine bO hh [_,_,_] ?_;intro b1 w1 hh;refine aB (aa (sr (bo (bo ?_))));refine bp hh 0 ?_;refine ck bG.out rfl Yp ?_;refine bT (mB (gT (bo (gT ?_))));refine bp hh 0 ?_;refine gT ?_;refine a9 ?_;refine fK ?_;refine mB ?_;refine gS (gS (gS ?_));refine gi ?_;refine aB (aa (av ?_));refine dH ?_;refine ⟨?_,hh.below⟩;unfold Dt;rw [YN (.inr (.inl h2))]
  ·by_cases h3:60<a.e
   ·refine G2 ?_;refine sr ?_;refine bO hh [_,_,_] ?_;intro b1 w1 hh;refine aB (aa (sr (bo (bo ?_))));refine bp hh 0 ?_;refine ck bG.out rfl Yp ?_;refine bT (mB (gT (bo (gT ?_))));refine bp hh 0 ?_;refine gT ?_;refine a9 ?_;refine fK ?_;refine mB (gT (bo (gT ?_)));refine bp hh 0 ?_;refine gT ?_;refine bT ?_;refine fK ?_;refine aB (aa (av ?_));refine dH ?_;refine ⟨?_,hh.below⟩;unfold Dt;rw [YN (.inr (.inr h3))]
   ·refine G2 ?_;refine sr ?_;refine bO hh [_,_,_] ?_;intro b1 w1 hh;refine aB (aa (sr (bo (bo ?_))));refine bp hh 0 ?_;refine ck bG.out rfl Yp ?_;refine bT (mB (gT (bo (gT ?_))));refine bp hh 0 ?_;refine gT ?_;refine a9 ?_;refine fK ?_;refine mB (gT (bo (gT ?_)));refine bp hh 0 ?_;refine gT ?_;refine bT ?_;refine fK ?_;refine aB (aa (av ?_));refine dH ?_;refine ⟨?_,hh.below⟩;unfold Dt;rw [YS Yo]
theorem qy (f:FX) (w:World) (hf:f.at_ w):
  Calls Tryz.prog 6 #[.agg #[.slice f.A f.n f.a,.slice f.B f.m f.b]] w fun r w'=>∃b:Bool,r=.returned (.bool b)∧(b=false→f.small∧f.n≤8)∧Below w.heap.size w w':=by
 have hh:=Hp.start w;have hl1:=hf.ln.1;have hl2:=hf.ln.2;by_cases h1:8<f.n
 ·refine LM ?_;refine sr ?_;refine bO hh [_,_] ?_;intro b1 w1 hh;refine aB (aa (ah (sr (bo ?_))));refine bp hh 0 ?_;refine aM ?_;refine bT (mB ?_);refine gS (gS (gS (gS ?_)));refine gi ?_;refine aa (cT (sr (aB (aa (av (aF ?_))))));exact Ui
 ·by_cases h2:60<f.m
  ·refine LM ?_;refine sr ?_;refine bO hh [_,_] ?_;intro b1 w1 hh;refine aB (aa (ah (sr (bo ?_))));refine bp hh 0 ?_;refine aM ?_;refine bT (mB (gT (bo (gT ?_))));refine bp hh 0 ?_;refine gT (aM (gT ?_));refine bT ?_;refine fK ?_;refine aa (cT (sr (aB (aa (av (aF ?_))))));exact Ui
  ·refine LM ?_;refine sr ?_;refine bO hh [_,_] ?_;intro b1 w1 hh;refine aB (aa (ah (sr (bo ?_))));refine bp hh 0 ?_;refine aM ?_;refine bT (mB (gT (bo (gT ?_))));refine bp hh 0 ?_;refine gT (aM (gT ?_));refine bT ?_;refine fK ?_;refine aa (cF (aq (ai (ah (sr (aI (aa (ar ?_))))))));refine aT [2,3,15,16,17,18,19,20,21,22,23,24,25,26,27] 3
    (fun v w'=>∃i:Nat,i≤f.m∧v=.int .i64 i∧(∀x∈f.cs.take i,Dt x=false)∧Hp w [.blk b1 25 [.slice f.A f.n f.a,.slice f.B f.m f.b] (0,0)] w')
    (fun v _=>f.m-(intOf v).toNat) ?_ ?_
   ·exact ⟨0,Yx _,rfl,fun x hx=>(by simp at hx),hh⟩
   ·clear hh;rintro ρ' v w' ⟨i,hi,rfl,hall,hh⟩;by_cases hlt:i<f.m
    ·obtain ⟨x,hx⟩:=ao (l:=f.cs) (k:=i) Yo;obtain ⟨a2,hA2,s2⟩:=hf.nm.at_ Yo;have rX:Value.slice f.B f.m f.b=.slice (some a2) f.m f.b:=by rw [hA2]
     have hc:=fun w1=>E9 x w1
     cases hb:Dt x with
     |true=>
      rw [hb] at hc;refine ah (sr (mI (bo ?_)));refine bp hh 0 ?_;refine aM ?_;refine CM ?_;refine bp hh 0 ?_;refine mI ?_;refine Ix ?_;refine cg (vs:=[_,_,_]) aJ.out rfl ((s2.ext hh.below).recAt NR.len hx) rfl Yp ?_;refine bj hh (hc _) rfl ?_;intro w27 hh;exact RK
     |false=>
      rw [hb] at hc;refine ah (sr (mI (bo ?_)));refine bp hh 0 ?_;refine aM ?_;refine CM ?_;refine bp hh 0 ?_;refine mI ?_;refine Ix ?_;refine cg (vs:=[_,_,_]) aJ.out rfl ((s2.ext hh.below).recAt NR.len hx) rfl Yp ?_;refine bj hh (hc _) rfl ?_;intro w27 hh;refine zn ?_;refine a8 (aI (aD (ai ?_)));refine ⟨⟨i+1,Yo,rfl,fun y hy=> ?_,hh⟩,by show f.m-(i+1)<f.m-i;omega, ?_⟩
      ·rw [aw hx,Zm,YT] at hy
       rcases hy with hy|rfl
       ·exact hall y hy
       ·exact hb
      ·exact er
    ·rw [YC Yo] at hall;have hfin:f.small:=⟨⟨Yo,Yo,fun c hc=>WJ (hall c hc)⟩,Yo,Yo⟩;clear hall;refine ah (sr (mI (bo ?_)));refine bp hh 0 ?_;refine aM ?_;refine a9 (aa (cF (aX (aE (aE (bA (ai (ah (sr (aI (aa (ar ?_))))))))))));refine aT [2,4,28,29,30,31,32,33,34,35,36,37,38,39,40,41,42,43,44,45,46,47,48] 4
      (fun v w'=>∃i:Nat,i≤f.n∧v=.int .i64 i∧Hp w [.blk b1 25 [.slice f.A f.n f.a,.slice f.B f.m f.b] (0,0)] w')
      (fun v _=>f.n-(intOf v).toNat) ?_ ?_
     ·exact ⟨0,Yx _,rfl,hh⟩
     ·clear hh;rintro ρ2 v w2 ⟨j,hj,rfl,hh⟩;by_cases hlt2:j<f.n
      ·obtain ⟨d,hd⟩:=ao (l:=f.ds) (k:=j) Yo;have hgd:=cK hd;obtain ⟨a1,hA1,s1⟩:=hf.dg.at_ Yo;have rX:Value.slice f.A f.n f.a=.slice (some a1) f.n f.a:=by rw [hA1]
       by_cases h6:6<d
       ·by_cases h128:d<128
        ·refine ah (sr (mI (bo ?_)));refine bp hh 0 ?_;refine aM ?_;refine CM ?_;refine bp hh 0 ?_;refine mI ?_;refine tP ?_;refine Eu ?_;refine bT (mB (gT (bo (gT ?_))));refine bp hh 0 ?_;refine gT (mI (gT ?_));refine tP ?_;refine aG rfl rfl ?_;refine Eu ?_;refine gT ?_;refine a9 ?_;refine gi ?_;exact RK
        ·refine ah (sr (mI (bo ?_)));refine bp hh 0 ?_;refine aM ?_;refine CM ?_;refine bp hh 0 ?_;refine mI ?_;refine tP ?_;refine Eu ?_;refine bT (mB (gT (bo (gT ?_))));refine bp hh 0 ?_;refine gT (mI (gT ?_));refine tP ?_;refine aG rfl rfl ?_;refine Eu ?_;refine gT ?_;refine a9 ?_;refine gi ?_;exact SI
       ·refine ah (sr (mI (bo ?_)));refine bp hh 0 ?_;refine aM ?_;refine CM ?_;refine bp hh 0 ?_;refine mI ?_;refine tP ?_;refine Eu ?_;refine bT (mB ?_);refine gS (gS (gS (gS ?_)));refine jR ?_;refine gS ?_;refine fK ?_;exact SI
      ·refine ah (sr (mI (bo ?_)));refine bp hh 0 ?_;refine aM ?_;refine a9 (aa (cF (aX (aE (aE (bA (ai (sr (aB (aa (av ?_)))))))))));refine dH ?_;exact ⟨_,rfl,fun _=>⟨hfin,Yo⟩,hh.below⟩
theorem QU {d:Option Nat}{ty:TypeId}{af:Array Edge}{g:Option (Nat×Bool)}{x y:Operand}{ts:Array TypeId}{k:IntKind}{a b:Int} (hx:ev ρ x=.int k a) (hy:ev ρ y=.int k b) (h:(if b<a then b else a)=z):
  (execOp (ev ρ) ⟨d,.call ⟨.builtin .min, #[x,y],ts⟩,ty,pos,af,g⟩).run P w=.ok (.value (.int k z)) w:=h ▸ Tb hx hy
theorem TD {d:Option Nat}{ty:TypeId}{af:Array Edge}{g:Option (Nat×Bool)}{x y u:Operand}{ts:Array TypeId}{k:IntKind}{a b c:Int} (hx:ev ρ x=.int k a) (hy:ev ρ y=.int k b) (hu:ev ρ u=.int k c):
  (execOp (ev ρ) ⟨d,.call ⟨.builtin .max, #[x,y,u],ts⟩,ty,pos,af,g⟩).run P w=.ok (.value (.int k (max (max a b) c))) w:=by
 have h1:max a b=if b>a then b else a:=by split<;>omega
 have h2:max (max a b) c=if c>max a b then c else max a b:=by split<;>omega
 rw [h2,h1];simp [execOp,resolve,invoke,builtin,Builtin.max_,Builtin.max2,hx,hy,hu,List.foldlM]
theorem Da (A B C D:Option Addr) (n m n2 m2 ca cb cc cd:Nat) (ds es:List Int) (w:World) (hS:Sl w A n 1 (bD ds)) (hS2:Sl w C n2 1 (bD es)) (hn:n≤1000):
  Calls Tryz.prog 7 #[.agg #[.slice A n ca,.slice B m cb],.agg #[.slice C n2 cc,.slice D m2 cd]] w fun r w'=>∃v:Bool,r=.returned (.bool v)∧Below w.heap.size w w':=by
 have hh:=Hp.start w;have hl1:ds.length=n:=by have:=hS.1;simpa [bD] using this
 have hl2:es.length=n2:=by have:=hS2.1;simpa [bD] using this
 by_cases hne:n≠n2
 ·refine aj (N:=39) (l:=[.agg #[.slice A n ca,.slice B m cb],.agg #[.slice C n2 cc,.slice D m2 cd]]) Tryz.func7 rfl rfl (by simp) ?_;refine sr ?_;refine bO hh [_,_] ?_;intro b2 w2 hh;refine bO hh [_,_] ?_;intro b3 w3 hh;refine aB (aa (ah (sr (bo ?_))));refine bp hh 1 ?_;refine aM (bo ?_);refine bp hh 0 ?_;refine aM ?_;refine dn (aa (cT (sr (aB (aa (av (aF ?_)))))));refine dH ?_;exact ⟨_,rfl,hh.below⟩
 ·replace hne:n=n2:=Z9.1 hne;refine aj (N:=39) (l:=[.agg #[.slice A n ca,.slice B m cb],.agg #[.slice C n2 cc,.slice D m2 cd]]) Tryz.func7 rfl rfl (by simp) ?_;refine sr ?_;refine bO hh [_,_] ?_;intro b2 w2 hh;refine bO hh [_,_] ?_;intro b3 w3 hh;refine aB (aa (ah (sr (bo ?_))));refine bp hh 1 ?_;refine aM (bo ?_);refine bp hh 0 ?_;refine aM ?_;refine dn (aa (cF (aq (ai (sr (aI (aa (ah (sr (aI (aa (ar ?_))))))))))));refine bH [5,6,14,15,16,17,18,19,20,21,22,23,24,25,26,27,28,29,30,31,32,33,34,35,36] 5 6
   (fun v5 v w'=>∃(i:Nat) (q:Int),i≤n∧v=.int .i64 i∧v5=.int .i64 q∧0≤q∧q≤1000∧Hp w [.blk b3 25 [.slice C n2 cc,.slice D m2 cd] (0,0),.blk b2 25 [.slice A n ca,.slice B m cb] (0,0)] w')
   (fun _ v _=>n-(intOf v).toNat) ?_ ?_
  ·exact ⟨0,1,Yx _,rfl,rfl,Yp,Yp,hh⟩
  ·clear hh;rintro ρ' v5 v w' ⟨i,q,hi,rfl,rfl,hq1,hq2,hh⟩;by_cases hlt:i<n
   ·obtain ⟨d,hd⟩:=ao (l:=ds) (k:=i) Yo;obtain ⟨e,he⟩:=ao (l:=es) (k:=i) Yo;have hgd:=cK hd;have hge:=cK he;obtain ⟨a1,rfl,s1⟩:=hS.at_ Yo;obtain ⟨a2,rfl,s2⟩:=hS2.at_ Yo;obtain ⟨z,hz⟩:∃z,z=min (max (max d e) 0) 200:=⟨_,rfl⟩;have hz1:0≤z:=Yo;have hz2:z≤200:=Yo;have hzz:(if 200<max (max d e) 0 then 200 else max (max d e) 0)=z:=by split<;>omega
    have hm1:q*(z+1)≤1000*201:=Int.mul_le_mul hq2 Yo Yo Yp;have hm0:0≤q*(z+1):=Int.mul_nonneg hq1 Yo;refine ah (sr (mI (bo ?_)));refine bp hh 1 ?_;refine aM ?_;refine Iy ?_;refine aK 14 [[(5,none)],[(2,none)],[(22,some 1)],[(6,none)],[(23,some 2),(24,some 3)],[(25,some 4)],[(3,none)],[(27,some 6)],[(6,none)],[(28,some 7),(29,some 8)],[(30,some 9)],[(26,some 5),(31,some 10)],[(32,some 11)],[(33,some 12)]] [(13,34),(12,33),(11,32),(10,31),(9,30),(8,29),(7,28),(6,27),(5,26),(4,25),(3,24),(2,23),(1,22),(0,21)] hh mixed Yq ?_;refine dJ ?_;refine dR ?_;refine fW 1 ?_;refine dJ ?_;refine bB (i:=4) (fun ρ1 w1 hj hR=>ew bG.out aJ.size (show ρ1 23=Value.slice _ _ _ from hR.1) (show ρ1 24=Value.int _ _ from hR.2.1) Yo Yo) ?_;refine x7 (fun _ hj=>(s1.ext hj.hp.below).tN hgd) ?_;refine dR ?_;refine fW 0 ?_;refine dJ ?_;refine bB (i:=9) (fun ρ1 w1 hj hR=>ew bG.out aJ.size (show ρ1 28=Value.slice _ _ _ from hR.1) (show ρ1 29=Value.int _ _ from hR.2.1) Yo Yo) ?_;refine x7 (fun _ hj=>(s2.ext hj.hp.below).tN hge) ?_
    refine bB (i:=11) (fun ρ1 w1 hj hR=>TD (show ρ1 26=Value.int _ _ from hR.1) (show ρ1 31=Value.int _ _ from hR.2.1) rfl) ?_;refine a7 (i:=12) (Is (.int .i64 z)) (Is.ext) ?_ ?_
    ·intro ρ1 w1 hj hR;exact fI rfl (QU (show ρ1 32=_ from hR.1) rfl hzz) ⟨Below.refl _ _,rfl⟩
    refine qT ?_;refine aH ?_;intro f W hJ hV;have hb_7:=hJ.bl;obtain ⟨v34,v33,v32,v31,v30,v29,v28,v27,v26,v25,v24,v23,v22,v21,_⟩:=hV;replace hh:=hJ.hp;refine aN (a6 (ae v34 (ae v33 (ae v32 (ae v31 (ae v30 (ae v29 (ae v28 (ae v27 (ae v26 (ae v25 (ae v24 (ae v23 (ae v22 (ae v21 aO))))))))))))))) ?_;dsimp only [bP];clear hJ;refine mulC ?_;refine zZ rfl rfl Yp ?_;refine aI (aD (bz (ai (ak (mI ?_)))));refine a8 (aI (aD (ai ?_)));refine ⟨⟨i+1,_,Yo,rfl,rfl, ?_, ?_,hh⟩,by show n-(i+1)<n-i;omega, ?_⟩
    ·split<;>omega
    ·split<;>omega
    ·exact er
   ·by_cases h3:300<q
    ·exact V3
    ·exact V3
theorem Sz.ofNat (c:Nat) (h:c<256):Sz 8 ((c:Int):Dyadic):=
 ⟨(c:Int)*2^8,jk (c:Int) Yp,by rw [aan,Int.natAbs_natCast];exact Zl (aaH h Yp) Yp⟩
def KS (t:List Nat) (i:Nat):Dyadic:=Dyadic.ofIntWithPrec ((t[i]?).getD 0:Nat) 8
theorem MH (t:List Nat) (h:∀c∈t,c<256) (i:Nat):Sz 8 (KS t i)∧0≤KS t i∧KS t i<1:=by
 unfold KS;have h1:(t[i]?).getD 0<256:=by
  cases hc:t[i]? with
  |none=>decide
  |some c=>exact h c (Yy hc)
 generalize (t[i]?).getD 0=c at*;refine ⟨⟨c,rfl,by rw [Int.natAbs_natCast];exact Zl h1 Yp⟩, ?_, ?_⟩
 ·rw [←iF 8,Fy];omega
 ·rw [show (1:Dyadic)=Dyadic.ofIntWithPrec 256 8 by decide+kernel,mz];omega
theorem JT (L:Option Addr) (m c n:Nat) (t:List Nat) (w:World) (hT:dP w) (hS:Sl w L m 1 (iE t)) (ht:∀c∈t,c<256) (hn:n≤1000):
  Calls Tryz.prog 10 #[.slice L m c,.int .i64 n] w fun r w'=>∃A c',r=.returned (.slice A n c')∧Hp w [.row A n c' 33 3 (aA NR.cells ((List.range n).map fun i=>nR (KS t i)))] w':=by
 have hh:=Hp.start w;have hln:t.length=m:=by have:=hS.1;simpa [iE] using this
 refine aj (N:=29) (l:=[.slice L m c,.int .i64 n]) Tryz.func10 rfl rfl (by simp) ?_;refine sr (aL (aa (sr (aL (aa (ah (sr (aI (aa (ar ?_))))))))));replace hh:=hh.dm 33 3;refine bH [5,6,7,8,9,10,11,12,13,14,15,16,17,18,19,20,21,22,23,24,25,26,27] 5 6
  (fun v5 v w'=>∃(i c3:Nat) (A:Option Addr),i≤n∧v=.int .i64 i∧v5=.slice A i c3∧Hp w [.row A i c3 33 3 (aA NR.cells ((List.range i).map fun i=>nR (KS t i)))] w')
  (fun _ v _=>n-(intOf v).toNat) ?_ ?_
 ·exact ⟨0,0,none,Yx _,rfl,rfl,hh⟩
 ·clear hh;rintro ρ' v5 v w' ⟨i,c3,A,hi,rfl,rfl,hh⟩;by_cases hlt:i<n
  ·have hz:=MH t ht i;have he:(List.range (i+1)).map (fun i=>nR (KS t i))=(List.range i).map (fun i=>nR (KS t i))++[nR (KS t i)]:=by rw [aah,ZD];rfl
   have hc:=fun c w1 hT1=>kM (c:Nat) w1 hT1;have hs:=fun (c:Nat) (h:c<256) w1 hT1=>ng (nR ((c:Int):Dyadic)) (-8) w1 hT1 (by have:=(Sz.ofNat c h).nr;omega) (by have:=(Sz.ofNat c h).nr;omega) (by have:=(Sz.ofNat c h).nr;omega) Yp Yp;simp only [bL] at hs;have hv:∀c:Nat,(t[i]?).getD 0=c→((c:Int):Dyadic)*ir (-8)=KS t i:=fun c h=>by
    unfold KS;rw [h];exact (Ab (c:Int) 0 (-8)).symm
   by_cases him:i<m
   ·obtain ⟨b,hb⟩:=ao (l:=t) (k:=i) Yo;have hb2:=qh hb;have hb3:=ht b (Yy hb);obtain ⟨ad,rfl,hr⟩:=hS.at_ Yo;replace hs:=hs b hb3;have hg:(t[i]?).getD 0=b:=by rw [hb];rfl
    refine ah (sr (mI (mI ?_)));refine a9 (aa (cT (aq (ai (ah (ar (sr (aI (aa (ah (ah (ak (mI (mL (aM ?_)))))))))))))));refine a9 (aa (cT (ak (mL (mI ?_)))));refine bZ ?_;refine nJ ?_;refine aI (aa (ak (mL (mI ?_))));refine vi ?_;rw [hv _ hg] at hs;refine bj hh (hc b _ (hT.hp hh) Yo Yo) rfl ?_;exact Rb
   ·replace hs:=hs 0 Yp;have hg:(t[i]?).getD 0=0:=by rw [YQ Yo];rfl
    refine ah (sr (mI (mI ?_)));refine a9 (aa (cT (aq (ai (ah (ar (sr (aI (aa (ah (ah (ak (mI (mL (aM ?_)))))))))))))));refine a9 (aa (cF (aq (ai (ak (mL (mI ?_)))))));refine vi ?_;rw [hv _ hg] at hs;refine bj hh (hc 0 _ (hT.hp hh) Yo Yo) rfl ?_;exact Rb
  ·obtain rfl:i=n:=Yo;refine ah (sr (mI (mI ?_)));refine a9 (aa (cF (aX (aE (aE (bA (ai (sr (mL (aL (aa (av ?_))))))))))));refine dH ?_;exact ⟨A,c3,rfl,hh⟩
def TH (s:SR) (a b:Dyadic):Prop:=(0<b∧s.lo.d*b≤a∧a≤s.hi.d*b)∨(b<0∧a≤s.lo.d*b∧s.hi.d*b≤a)
theorem HO {x y:Dyadic} (h:x≤y):gE x y≤0:=by
 have h1:=rO x y;have h2:¬y<x:=by grind
 rw [←h1] at h2;omega
theorem xz (s:SR) (a b:NR) (k:Nat) (w:World) (hT:dP w) (hs:s.fin k) (ha:a.ok) (za:Sz k a.d) (hb:b.ok) (zb:Sz k b.d) (hk:k≤1900000) (h:TH s a.d b.d):
  Calls Tryz.prog 12 #[.agg s.cells.toArray,.agg #[.bool a.neg,.string a.aY,.int .i64 a.e],.agg #[.bool b.neg,.string b.aY,.int .i64 b.e]] w fun r w'=>r=.returned (.bool true)∧Below w.heap.size w w':=by
 have hh:=Hp.start w;have hsg:=NR.sign b;refine aj (N:=37) (l:=[.agg s.cells.toArray,.agg #[.bool a.neg,.string a.aY,.int .i64 a.e],.agg #[.bool b.neg,.string b.aY,.int .i64 b.e]]) Tryz.func12 rfl rfl (by simp) ?_;refine sr ?_;refine bO hh [_,_,_,_,_,_] ?_;intro b3 w3 hh;refine bO hh [_,_,_] ?_;intro b4 w4 hh;refine bO hh [_,_,_] ?_;intro b5 w5 hh;refine aB (aa ?_);refine oQ [7,8,9,10,11,12,13]
  (fun w'=>∃a2 b2:NR,a2.ok∧Sz k a2.d∧b2.ok∧Sz k b2.d∧0<b2.d∧s.lo.d*b2.d≤a2.d∧a2.d≤s.hi.d*b2.d∧Hp w [.blk b5 33 [.bool b2.neg,.string b2.aY,.int .i64 b2.e] (0,0),.blk b4 33 [.bool a2.neg,.string a2.aY,.int .i64 a2.e] (0,0),.blk b3 35 s.cells (0,0)] w') ?_ ?_
 ·rcases h with ⟨h1,h2,h3⟩|⟨h1,h2,h3⟩
  ·have hsg2:b.i.sign=1:=by rw [hsg,gE,Yu (by grind),Yt h1]
   refine sr ?_;refine bJ hh 0 [_,_,_] ?_;refine bj hh (cL b _) rfl ?_;intro w8 hh;rw [hsg2];refine a9 (aa (cF (aq (ai ?_))));refine ⟨⟨a,b,ha,za,hb,zb,h1,h2,h3,hh⟩, ?_⟩;repeat refine dx rfl ?_
   exact fun _ _=>rfl
  ·have hsg2:b.i.sign= -1:=by rw [hsg,gE,Yt h1]
   have hn1:=fun w1 hT1=>j8 a w1 hT1 (by have:=ha.1;omega) (by have:=ha.2.1;omega) (by have:=ha.2.2;omega);have hn2:=fun w1 hT1=>j8 b w1 hT1 (by have:=hb.1;omega) (by have:=hb.2.1;omega) (by have:=hb.2.2;omega);refine sr ?_;refine bJ hh 0 [_,_,_] ?_;refine bj hh (cL b _) rfl ?_;intro w8 hh;rw [hsg2];refine a9 (aa (cT ?_));refine aK 3 [[(4,none)],[(10,some 0)],[(5,none)]] [(2,12),(1,11),(0,10)] hh mixed Yq ?_;refine dK 1 [_,_,_] ?_;refine dC (fun _ hj=>hn1 _ (hT.hp hj.hp)) ?_;refine dK 0 [_,_,_] ?_;refine aH ?_;intro f W hJ hV;have hb_2:=hJ.bl;obtain ⟨v12,v11,v10,_⟩:=hV;replace hh:=hJ.hp;refine aN (a6 (ae v12 (ae v11 (ae v10 aO)))) ?_;dsimp only [bP];clear hJ;refine bj hh (hn2 _ (hT.hp hh)) rfl ?_;intro w13 hh;refine bg hh 1 [_,_,_] ?_;intro ws hh;replace hh:Hp _ (_::.blk _ _ [_,_,_] _::_) _:=hh;refine bg hh 0 [_,_,_] ?_;intro ws hh;replace hh:Hp _ (.blk _ _ [_,_,_] _::_) _:=hh;refine aa ?_;refine ⟨⟨nR (-a.d),nR (-b.d),za.neg.ok Yo,by rw [bL];exact za.neg,zb.neg.ok Yo,by rw [bL];exact zb.neg, ?_, ?_, ?_,hh⟩, ?_⟩
   ·rw [bL];grind
   ·rw [bL,bL];grind
   ·rw [bL,bL];grind
   ·repeat refine dx rfl ?_
    exact fun _ _=>rfl
 ·rintro ρ' w' ⟨a2,b2,ha2,za2,hb2,zb2,h1,h2,h3,hh⟩;have zl:Sz k s.lo.d:=hs.1.sz;have zh:Sz k s.hi.d:=hs.2.sz;have hsn:=fun w1=>cL b2 w1;rw [NR.sign b2,gE,Yu (by grind),Yt h1] at hsn;have hm1:=fun A cc w1 hT1 hS1=>fZ A 2 cc [s.lo,b2] w1 hT1 hS1 (by simpa using ⟨hs.1.ok,hb2⟩) k (by simpa using ⟨zl,zb2⟩) Yo Yo;have hm2:=fun A cc w1 hT1 hS1=>fZ A 2 cc [s.hi,b2] w1 hT1 hS1 (by simpa using ⟨hs.2.ok,hb2⟩) k (by simpa using ⟨zh,zb2⟩) Yo Yo;rw [show iw ([s.lo,b2].map NR.d)=s.lo.d*b2.d by simp [iw,aap]] at hm1;rw [show iw ([s.hi,b2].map NR.d)=s.hi.d*b2.d by simp [iw,aap]] at hm2;have hc1:=fun w1 hT1=>jo (nR (s.lo.d*b2.d)) a2 w1 hT1 ((zl.mul zb2).ok Yo) ha2;have hc2:=fun w1 hT1=>jo a2 (nR (s.hi.d*b2.d)) w1 hT1 ha2 ((zh.mul zb2).ok Yo);rw [bL] at hc1 hc2;have g1:=HO h2;have g2:=HO h3;have g3:=uy (s.lo.d*b2.d) a2.d;have g4:=uy a2.d (s.hi.d*b2.d);generalize gE (s.lo.d*b2.d) a2.d=C1 at*;generalize gE a2.d (s.hi.d*b2.d)=C2 at*;generalize s.lo.d*b2.d=P1 at*;generalize s.hi.d*b2.d=P2 at*;refine ah ?_
  refine aK 20 [[(5,none)],[(14,some 0)],[(15,some 1)],[(16,some 2)],[(3,none),(17,some 3)],[(18,some 4),(17,some 3)],[(5,none),(17,some 3)],[(19,some 5),(20,some 6),(17,some 3)],[(21,some 7),(17,some 3)],[(4,none),(17,some 3)],[(22,some 8),(23,some 9),(17,some 3)],[(24,some 10),(17,some 3)],[(17,some 3),(25,some 11)],[(26,some 12)],[(4,none),(27,some 13)],[(3,none),(27,some 13)],[(29,some 15),(27,some 13)],[(5,none),(27,some 13)],[(30,some 16),(31,some 17),(27,some 13)],[(32,some 18),(27,some 13)]] [(19,33),(18,32),(17,31),(16,30),(15,29),(14,28),(13,27),(12,26),(11,25),(10,24),(9,23),(8,22),(7,21),(6,20),(5,19),(4,18),(3,17),(2,16),(1,15),(0,14)] hh mixed Yq ?_;refine dK 0 [_,_,_] ?_;refine dC (fun _ hj=>hsn _) ?_;refine QR ?_;refine mV ?_;refine dG (dR ?_);refine dG (dK 2 [_,_,_] ?_);refine dG (dK 0 [_,_,_] ?_)
  refine gY (i:=7) (cs:=[_,_,_,_,_,_]) rfl (fun ρ1 w1 hj hR=>(show ρ1 17=Value.bool _ from hR.2.2.1)) bG.out aJ.out (fun ρ1 w1 hj hR=>(bQ (show ρ1 19=Value.agg (List.toArray _) from hR.1) (bQ (show ρ1 20=Value.agg (List.toArray _) from hR.2.1) dN))) rfl rfl Yp Yp rfl ?_;refine a7 (i:=8) (Is (.agg #[.bool (nR P1).neg,.string (nR P1).aY,.int .i64 (nR P1).e])) Is.ext ?_ ?_
  ·intro ρ1 w1 hj hR;obtain ⟨A21,c21,h21,s21⟩:=hR.1;refine eN rfl ((show ρ1 17=Value.bool _ from hR.2.1)) ?_;exact bV rfl (bf au.out (aC h21 bh)) (hm1 A21 c21 _ (hT.hp hj.hp) s21) (fun _ _ hq=>⟨_,hq.1,hq.2,rfl⟩)
  refine dG (dK 1 [_,_,_] ?_);refine eR (i:=10) rfl (fun ρ1 w1 hj hR=>(show ρ1 17=Value.bool _ from hR.2.2.1)) (fun ρ1 w1 hj hR=>bf au.out (aC (show ρ1 22=Value.agg (List.toArray _) from hR.1) (aC (show ρ1 23=Value.agg (List.toArray _) from hR.2.1) bh))) (fun w1 hj=>hc1 _ (hT.hp hj.hp)) ?_;refine dG (WQ ?_);refine KT ?_;refine mV ?_;refine dG (dK 1 [_,_,_] ?_);refine dG (dR ?_);refine dG (dK 2 [_,_,_] ?_);refine dG (dK 0 [_,_,_] ?_);refine gY (i:=18) (cs:=[_,_,_,_,_,_]) rfl (fun ρ1 w1 hj hR=>(show ρ1 27=Value.bool _ from hR.2.2.1)) bG.out aJ.out (fun ρ1 w1 hj hR=>(bQ (show ρ1 30=Value.agg (List.toArray _) from hR.1) (bQ (show ρ1 31=Value.agg (List.toArray _) from hR.2.1) dN))) rfl rfl Yp Yp rfl ?_;refine a7 (i:=19) (Is (.agg #[.bool (nR P2).neg,.string (nR P2).aY,.int .i64 (nR P2).e])) Is.ext ?_ ?_
  ·intro ρ1 w1 hj hR;obtain ⟨A32,c32,h32,s32⟩:=hR.1;refine eN rfl ((show ρ1 27=Value.bool _ from hR.2.1)) ?_;exact bV rfl (bf au.out (aC h32 bh)) (hm2 A32 c32 _ (hT.hp hj.hp) s32) (fun _ _ hq=>⟨_,hq.1,hq.2,rfl⟩)
  refine aH ?_;intro f W hJ hV;have hb_3:=hJ.bl;obtain ⟨v33,v32,v31,v30,v29,v28,v27,v26,v25,v24,v23,v22,v21,v20,v19,v18,v17,v16,v15,v14,_⟩:=hV;obtain ⟨A21,c21,e21,f21⟩:Rows _ _ _ (f 7) W:=v21;obtain ⟨A32,c32,e32,f32⟩:Rows _ _ _ (f 18) W:=v32;replace hh:=hJ.hp;refine aN (a6 (ae v33 (ae e32 (ae v31 (ae v30 (ae v29 (ae v28 (ae v27 (ae v26 (ae v25 (ae v24 (ae v23 (ae v22 (ae e21 (ae v20 (ae v19 (ae v18 (ae v17 (ae v16 (ae v15 (ae v14 aO))))))))))))))))))))) ?_;dsimp only [bP];clear e21 e32 hJ;refine aG rfl rfl ?_;refine bj hh (hc2 _ (hT.hp hh)) rfl ?_;intro w34 hh;refine gT ?_;refine EB ?_;refine gi ?_;exact xW
theorem IE:∀(r:List Dyadic) (a:Dyadic),r.foldl (fun out a=>if decide (a<out)=true then a else out) a≤a∧∀x∈r,r.foldl (fun out a=>if decide (a<out)=true then a else out) a≤x
 |[],a=>⟨by show a≤a;grind,fun _ h=>absurd h ZN⟩
 |y::r,a=>by
  obtain ⟨h1,h2⟩:=IE r (if decide (y<a)=true then y else a);rw [aaR];have h3:(if decide (y<a)=true then y else a)≤a∧(if decide (y<a)=true then y else a)≤y:=by
   by_cases h:y<a
   ·rw [Yt (YN h)];grind
   ·rw [Yu (by simpa using h)];grind
  exact Su
theorem Hk:∀(r:List Dyadic) (a:Dyadic),a≤r.foldl (fun out a=>if decide (out<a)=true then a else out) a∧∀x∈r,x≤r.foldl (fun out a=>if decide (out<a)=true then a else out) a
 |[],a=>⟨by show a≤a;grind,fun _ h=>absurd h ZN⟩
 |y::r,a=>by
  obtain ⟨h1,h2⟩:=Hk r (if decide (a<y)=true then y else a);rw [aaR];have h3:a≤(if decide (a<y)=true then y else a)∧y≤(if decide (a<y)=true then y else a):=by
   by_cases h:a<y
   ·rw [Yt (YN h)];grind
   ·rw [Yu (by simpa using h)];grind
  exact Su
theorem CK (f:Dyadic→Dyadic→Bool):∀(r:List Dyadic) (a:Dyadic),r.foldl (fun out a=>if f a out then a else out) a∈a::r
 |[],a=>YD
 |y::r,a=>by
  rw [aaR];have h:=CK f r (if f y a then y else a)
  rcases YH.1 h with h|h
  ·rw [h];by_cases h2:f y a
   ·rw [Yt h2];exact YK _ YD
   ·rw [Yu h2];exact YD
  ·exact YK _ (YK _ h)
theorem UJ {l:List Dyadic}:∀x∈l,gM (fun x y=>decide (x<y)) l≤x:=fun x hx=>by
 cases l with
 |nil=>exact absurd hx ZN
 |cons a r=>
  obtain ⟨h1,h2⟩:=IE r a
  rcases YH.1 hx with rfl|hx
  ·exact h1
  ·exact h2 x hx
theorem TC {l:List Dyadic}:∀x∈l,x≤gM (fun x y=>decide (y<x)) l:=fun x hx=>by
 cases l with
 |nil=>exact absurd hx ZN
 |cons a r=>
  obtain ⟨h1,h2⟩:=Hk r a
  rcases YH.1 hx with rfl|hx
  ·exact h1
  ·exact h2 x hx
theorem GJ {f:Dyadic→Dyadic→Bool}{l:List Dyadic} (h:l≠[]):gM f l∈l:=by
 cases l with
 |nil=>exact absurd rfl h
 |cons a r=>exact CK f r a
theorem Pk {l:List SR}{s:SR} (h:s∈l):(lR l).lo.d≤s.lo.d∧s.hi.d≤(lR l).hi.d:=by
 unfold lR;rw [bL,bL];exact ⟨UJ _ (YF.2 ⟨s.lo,aak.2 ⟨s,h,YD⟩,rfl⟩),TC _ (YF.2 ⟨s.hi,aak.2 ⟨s,h,YK _ YD⟩,rfl⟩)⟩
theorem Nx {l:List SR} (h0:l≠[]) (h:∀s∈l,Sz k s.lo.d∧Sz k s.hi.d) (hk:k≤3000000):(lR l).fin k:=by
 have hne:(pw l).map NR.d≠[]:=by
  cases l with
  |nil=>exact absurd rfl h0
  |cons s r=>simp [pw]
 have hm:∀x∈(pw l).map NR.d,Sz k x:=fun x hx=>by
  obtain ⟨a,ha,rfl⟩:=YF.1 hx;obtain ⟨s,hs,ha⟩:=aak.1 ha
  rcases YH.1 ha with rfl|ha
  ·exact (h s hs).1
  ·rw [YT.1 ha];exact (h s hs).2
 exact ⟨xY.of (hm _ (GJ hne)) hk,xY.of (hm _ (GJ hne)) hk⟩
theorem Sc {x y z:Dyadic} (h:x≤y) (hz:0≤z):x*z≤y*z:=by
 have:=n8 (x:=y-x) (by grind) hz;grind
theorem Rk {x y z:Dyadic} (h:x≤y) (hz:z≤0):y*z≤x*z:=by
 have:=n8 (x:=y-x) (y:= -z) (by grind) (by grind);grind
theorem ya {ts:List Dyadic}{c:Dyadic} (ht:∀t∈ts,0≤t∧t<1) (h:∀p,p<al ds→(X[p]?).getD 0≤c*(Y[p]?).getD 0):gC ds X ts≤c*gC ds Y ts:=by
 unfold gC;rw [←k7];refine uB _ _ _ fun p hp=> ?_;have h1:=h p (Zi.1 hp);have h2:=uu ds (bW ds p) ts ht;have h3:=n8 (x:=c*(Y[p]?).getD 0-(X[p]?).getD 0) (by grind) h2;grind
theorem val_neg (ds:List Nat) (Y ts:List Dyadic):gC ds (Y.map fun y=> -y) ts= -gC ds Y ts:=by
 have h:∀p:Nat,((Y.map fun y=> -y)[p]?).getD 0= -1*(Y[p]?).getD 0:=fun p=>by
  rw [YJ]
  cases Y[p]? with
  |none=>show (0:Dyadic)= -1*0;grind
  |some y=>show -y= -1*y;grind
 have h1:gC ds (Y.map fun y=> -y) ts= -1*gC ds Y ts:=by
  unfold gC;rw [←k7];refine Ze _ (funext fun p=> ?_);rw [h];grind
 rw [h1];grind
theorem Ua {ts:List Dyadic} (ht:∀t∈ts,0≤t∧t<1) (h:∀p,p<al ds→(Y[p]?).getD 0<0):gC ds Y ts<0:=by
 have h1:=Lz (ds:=ds) (Y:=Y.map fun y=> -y) ht fun p hp=>by
  have h2:=h p hp;rw [YJ]
  cases hy:Y[p]? with
  |none=>rw [hy] at h2;exact absurd h2 (show ¬(0:Dyadic)<0 by grind)
  |some y=>rw [hy] at h2;show 0< -y;replace h2:y<0:=h2;grind
 rw [val_neg] at h1;grind
theorem QJ {ts:List Dyadic}{p:Int} (ht:∀t∈ts,0≤t∧t<1) (hx:X.length=al ds) (hy:Y.length=al ds) (h:sj (Y.map nR)≠0):TH (lR (mh X Y p)) (gC ds X ts) (gC ds Y ts):=by
 have hsg:∀y∈Y,gE y 0=sj (Y.map nR):=fun y hy=>by
  have:=ID h (nR y) (YF.2 ⟨y,hy,rfl⟩);rw [←this,NR.sign,bL]
 have hat:∀q,q<al ds→∃x y,X[q]?=some x∧Y[q]?=some y∧(lR (mh X Y p)).lo.d≤EE x y p∧ -EE (-x) y p≤(lR (mh X Y p)).hi.d∧y∈Y:=fun q hq=>by
  obtain ⟨x,h1⟩:=ao (l:=X) (k:=q) Yo;obtain ⟨y,h2⟩:=ao (l:=Y) (k:=q) Yo;have h3:=Pk (Yy (qM (p:=p) h1 h2));unfold JW at h3;rw [bL,bL] at h3;exact ⟨x,y,h1,h2,h3.1,h3.2,Yy h2⟩
 generalize lR (mh X Y p)=H at*;generalize sj (Y.map nR)=S at*;have hpos:=di ds;obtain ⟨x0,y0,_,_,_,_,hy0⟩:=hat 0 hpos;have hS:=hsg y0 hy0;have hSb:=uy y0 0;rw [hS] at hSb;by_cases h1:S=1
 ·have hp:∀y∈Y,0<y:=fun y hy=>(rO y 0).1 (by rw [hsg y hy];omega);refine .inl ⟨Lz ht fun q hq=> ?_,CC ht fun q hq=> ?_,ya ht fun q hq=> ?_⟩
  ·obtain ⟨x,y,_,e2,_,_,hy⟩:=hat q hq;rw [e2];exact hp y hy
  ·obtain ⟨x,y,e1,e2,h3,_,hy⟩:=hat q hq;rw [e1,e2];have h4:=hp y hy;exact Std.le_trans (Sc h3 (by grind)) (H4 p h4)
  ·obtain ⟨x,y,e1,e2,_,h3,hy⟩:=hat q hq;rw [e1,e2];have h4:=hp y hy;have h5:=H4 (x:= -x) p h4;have h6:=Sc h3 (show 0≤y by grind);show x≤H.hi.d*y;grind
 ·have hn:∀y∈Y,y<0:=fun y hy=>(uo y 0).1 (by rw [hsg y hy];omega);refine .inr ⟨Ua ht fun q hq=> ?_,ya ht fun q hq=> ?_,CC ht fun q hq=> ?_⟩
  ·obtain ⟨x,y,_,e2,_,_,hy⟩:=hat q hq;rw [e2];exact hn y hy
  ·obtain ⟨x,y,e1,e2,h3,_,hy⟩:=hat q hq;rw [e1,e2];have h4:=hn y hy;exact Std.le_trans (He p h4) (Rk h3 (by grind))
  ·obtain ⟨x,y,e1,e2,_,h3,hy⟩:=hat q hq;rw [e1,e2];have h4:=hn y hy;have h5:=He (x:= -x) p h4;have h6:=Rk h3 (show y≤0 by grind);show H.hi.d*y≤x;grind
theorem Eo {f g:FX} (h:ja f g=0):cV [f,g]=0∧sj ((lh (maxD [f,g]) g).map nR)≠0:=by
 unfold ja at h;by_cases h0:cV [f,g]=0
 ·rw [Yt h0] at h;refine ⟨h0,fun h1=> ?_⟩;rw [Yt h1] at h;exact absurd h Yp
 ·rw [Yu h0] at h;exact absurd h h0
theorem C4 {f g:FX} (hf:f.small) (hg:g.small) (lf:f.ds.length=f.n∧f.cs.length=f.m) (lg:g.ds.length=g.n∧g.cs.length=g.m) (h:cV [f,g]=0):(∀x∈lh (maxD [f,g]) f,Sz 250000 x)∧∀x∈lh (maxD [f,g]) g,Sz 250000 x:=by
 have hln:∀x∈[f,g],x.ds.length=x.n:=by simpa using ⟨lf.1,lg.1⟩
 obtain ⟨hlk,_,hc⟩:=oN h hln;obtain ⟨a1,a2,a3⟩:=mE hlk hln f (by simp);obtain ⟨c1,c2, -⟩:=mE hlk hln g (by simp);have he:=(oS hlk).2.1;exact ⟨yE hf (he f (by simp)) lf.2 a1 a2 a3 hc,yE hg (he g (by simp)) lg.2 c1 c2 a3 hc⟩
theorem Lq {f g:FX}{p:Int}{tn:List NR} (hf:f.small) (hg:g.small) (lf:f.ds.length=f.n∧f.cs.length=f.m) (lg:g.ds.length=g.n∧g.cs.length=g.m) (h:ja f g=0) (hp1: -1000≤p) (hp2:p≤1000) (hn:tn.length=f.n) (ht:∀s∈tn,0≤s.d∧s.d<1):
  EF f f.n=0∧EF g f.n=0∧f.e=0∧g.e=0∧(fG f g p).fin 1002014∧TH (fG f g p) (xP f tn) (xP g tn):=by
 obtain ⟨h0,hs⟩:=Eo h;obtain ⟨zx,zy⟩:=C4 hf hg lf lg h0;have hln:∀x∈[f,g],x.ds.length=x.n:=by simpa using ⟨lf.1,lg.1⟩
 obtain ⟨hlk,_,hc⟩:=oN h0 hln;obtain ⟨a1,a2,a3⟩:=mE hlk hln f (by simp);obtain ⟨c1,c2, -⟩:=mE hlk hln g (by simp);obtain ⟨_,he,hnn⟩:=oS hlk;have e1:=he f (by simp);have e2:=he g (by simp);have hgn:g.n=f.n:=hnn g (by simp);have v1:EF f f.n=0:=by unfold EF;rw [Yu (fun c=>c e1),Yu (fun c=>c rfl)]
 have v2:EF g f.n=0:=by unfold EF;rw [Yu (fun c=>c e2),Yu (fun c=>c hgn.symm)]
 have hfn:f.ns.length=f.n:=by unfold FX.ns;rw [YI];exact lf.1
 have lx:=uz a1 a2;have ly:=uz c1 c2;have tl:(tn.map NR.d).reverse.length=(maxD [f,g]).length:=by rw [Y9,YI];omega
 have vx:=yU (ns:=f.ns) (D:=maxD [f,g]) (xs:=f.cs.map NR.d) (ts:=(tn.map NR.d).reverse) a1.symm a2 tl;have vy:=yU (ns:=g.ns) (D:=maxD [f,g]) (xs:=g.cs.map NR.d) (ts:=(tn.map NR.d).reverse) c1.symm c2 tl;have eV:fG f g p=lR (mh (lh (maxD [f,g]) f) (lh (maxD [f,g]) g) p):=Yt h;have eF:xP f tn=gC f.ns.reverse (f.cs.map NR.d) (tn.map NR.d).reverse:=by unfold xP;rw [hn,v1,Yt rfl]
 have eG:xP g tn=gC g.ns.reverse (g.cs.map NR.d) (tn.map NR.d).reverse:=by unfold xP;rw [hn,v2,Yt rfl]
 have hb:=QJ (ds:=(maxD [f,g]).reverse) (X:=lh (maxD [f,g]) f) (Y:=lh (maxD [f,g]) g) (ts:=(tn.map NR.d).reverse) (p:=p) (fun t h=>by
  obtain ⟨s,hs,rfl⟩:=YF.1 (aau.1 h);exact ht s hs) (by rw [cI];exact lx) (by rw [cI];exact ly) hs
 rw [eV,eF,eG,←vx,←vy];refine ⟨v1,v2,e1,e2,Nx ?_ (fun s hs=> ?_) Yp,hb⟩
 ·intro h1;have:=oI (p:=p) (show (lh (maxD [f,g]) f).length=(lh (maxD [f,g]) g).length by omega);rw [h1,lx] at this;have:=di (maxD [f,g]);simp at*;omega
 ·obtain ⟨i,hi⟩:=ZU.1 hs;have hi2:=(YL.1 hi).1;rw [oI Yo] at hi2;obtain ⟨a,ha⟩:=ao hi2;obtain ⟨b,hb⟩:=ao (l:=lh (maxD [f,g]) g) (k:=i) Yo;rw [qM ha hb] at hi;rw [←Zg hi];unfold JW;rw [bL,bL];have za:=zx a (Yy ha);have zb:=zy b (Yy hb);exact ⟨vT p za zb hp1 hp2,(vT p za.neg zb hp1 hp2).neg⟩
theorem sM (f g:FX) (p:Int) (L:Option Addr) (m c:Nat) (t:List Nat) (w:World) (hT:dP w) (hf:f.at_ w) (hcf:f.m≤f.b) (hg:g.at_ w) (hcg:g.m≤g.b) (hp1: -9223372036854775808≤p) (hp2:p≤9223372036854775807) (hS:Sl w L m 1 (iE t)) (ht:∀c∈t,c<256):
  Calls Tryz.prog 3 #[.agg #[.slice f.A f.n f.a,.slice f.B f.m f.b],.agg #[.slice g.A g.n g.a,.slice g.B g.m g.b],.int .i64 p,.slice L m c] w fun r w'=>r=.returned (.bool true)∧Below w.heap.size w w':=by
 have hh:=Hp.start w;refine aj (N:=78) (l:=[.agg #[.slice f.A f.n f.a,.slice f.B f.m f.b],.agg #[.slice g.A g.n g.a,.slice g.B g.m g.b],.int .i64 p,.slice L m c]) Tryz.func3 rfl rfl (by simp) ?_;refine sr ?_;refine bO hh [_,_] ?_;intro b4 w4 hh;refine bO hh [_,_] ?_;intro b5 w5 hh;refine aB (aa (ah (sr ?_)));refine bJ hh 1 [_,_] ?_;refine ay (qy f _ (hf.ext hh.below)) au.out rfl Yp ?_;rintro e_ w17 ⟨v1,rfl,hv1,hb_⟩;refine ⟨_,rfl, ?_⟩;replace hh:=hh.ext hb_
 cases v1 with
 |true=>
  refine mB ?_;refine gS ?_;refine jR ?_;refine gi ?_;exact Sg
 |false=>
  obtain ⟨sf,f8⟩:=hv1 rfl;clear hv1;refine mB (gT ?_);refine bJ hh 0 [_,_] ?_;refine aG rfl rfl ?_;refine ay (qy g _ (hg.ext hh.below)) au.out rfl Yp ?_;rintro e_ w20 ⟨v2,rfl,hv2,hb_⟩;refine ⟨_,rfl, ?_⟩;replace hh:=hh.ext hb_
  cases v2 with
  |true=>
   refine fK ?_;exact Sg
  |false=>
   obtain ⟨sg,g8⟩:=hv2 rfl;clear hv2;refine fK ?_;refine mB (gT ?_);refine bJ hh 1 [_,_] (gT ?_);refine bJ hh 0 [_,_] ?_;refine aG rfl rfl ?_;refine ay (Da f.A f.B g.A g.B f.n f.m g.n g.m f.a f.b g.a g.b f.ds g.ds _ (hf.dg.ext hh.below) (hg.dg.ext hh.below) Yo) au.out rfl Yp ?_;rintro e_ w25 ⟨v3,rfl,hb_⟩;refine ⟨_,rfl, ?_⟩;replace hh:=hh.ext hb_
   cases v3 with
   |true=>
    refine fK ?_;exact Rh
   |false=>
    by_cases h1:p< -200
    ·refine fK ?_;refine mB (gT (mI (gT ?_)));refine a9 ?_;refine fK ?_;refine mB ?_;refine gS (gS ?_);refine gi ?_;exact Tu
    ·by_cases h2:200<p
     ·refine fK ?_;refine mB (gT (mI (gT ?_)));refine a9 ?_;refine fK ?_;refine mB (gT (mI (gT ?_)));refine bT ?_;refine fK ?_;exact Tu
     ·have hbd:=fun w1 hT1 hb1=>tC f g 124 p w1 hT1 (hf.ext hb1) (hg.ext hb1) sf.1 sg.1 (by have:=sf.2.1;omega) (by have:=sg.2.1;omega) Yp (fun h=>C4 sf sg hf.ln hg.ln h) Yo Yo;refine fK ?_;refine mB (gT (mI (gT ?_)));refine a9 ?_;refine fK ?_;refine mB (gT (mI (gT ?_)));refine bT ?_;refine fK ?_;refine wO ?_;refine bJ hh 1 [_,_] ?_;refine bJ hh 0 [_,_] (mI ?_);refine bj hh (hbd _ (hT.hp hh) hh.below) rfl ?_;intro w40 hh;by_cases hE:ja f g=0
      ·obtain ⟨tn,htn⟩:∃tn,tn=(List.range f.n).map fun i=>nR (KS t i):=⟨_,rfl⟩;have hlen:tn.length=f.n:=by rw [htn,YI,aaO]
       have htv:∀s∈tn,(xH 125 s s.d∧Sz 125 (1-s.d))∧0≤s.d∧s.d<1:=fun s hs=>by
        rw [htn] at hs;obtain ⟨i,_,rfl⟩:=YF.1 hs;obtain ⟨z1,z2,z3⟩:=MH t ht i;rw [bL];exact ⟨⟨xH.of (z1.mono Yp) Yp,((Sz.one.mono (show 1≤8 by decide)).sub z1).mono Yp⟩,z2,z3⟩
       obtain ⟨v1,v2,e1,e2,hfin,hbt⟩:=Lq (p:=p) (tn:=tn) sf sg hf.ln hg.ln hE Yo Yo hlen fun s hs=>(htv s hs).2;have hv:=fun s hs=>(htv s hs).1;have zV1:=Ii sf e1 hf.ln.2 hv;have zV2:=Ii sg e2 hg.ln.2 hv;have hev1:=fun A cc w1 hT1 hb hS1=>tH f A f.n cc tn 124 125 14812 w1 hT1 (hf.ext hb) sf.1 hcf hS1 hv Yp (fun h0 d hd=>by have:=sk sf h0 hf.ln.2 d hd;omega) (by have:=Zo 14812 f8;omega);have hev2:=fun A cc w1 hT1 hb hS1=>tH g A f.n cc tn 124 125 14812 w1 hT1 (hg.ext hb) sg.1 hcg hS1 hv Yp (fun h0 d hd=>by have:=sk sg h0 hg.ln.2 d hd;omega) (by have:=Zo 14812 g8;omega);have eV1:xP f tn=gC f.ns.reverse (f.cs.map NR.d) (tn.map NR.d).reverse:=by unfold xP;rw [hlen,v1,Yt rfl]
       have eV2:xP g tn=gC g.ns.reverse (g.cs.map NR.d) (tn.map NR.d).reverse:=by
        have:EF g tn.length=0:=by rw [hlen];exact v2
        unfold xP;rw [this,Yt rfl]
       rw [←eV1] at zV1;rw [←eV2] at zV2;rw [v1] at hev1;rw [v2] at hev2;have hbw:=fun w1 hT1=>xz (fG f g p) (nR (xP f tn)) (nR (xP g tn)) 1002014 w1 hT1 hfin (zV1.ok Yp) (by rw [bL];exact zV1.mono Yp) (zV2.ok Yp) (by rw [bL];exact zV2.mono Yp) Yp (by rw [bL,bL];exact hbt);have hat:=fun w1 hT1 hb1=>JT L m c f.n t w1 hT1 (hS.ext hb1) ht Yo;rw [←htn] at hat;clear htn hfin hbt zV1 zV2 eV1 eV2 htv hbd;generalize fG f g p=V at*;generalize xP f tn=V1 at*;generalize xP g tn=V2 at*;rw [hE];refine mT ?_;refine cx ?_;refine cx ?_;refine bC hh ?_;intro b9 w9 hh;refine bg hh 0 [_,_,_,_,_,_] ?_;intro ws hh;replace hh:Hp _ (.blk _ _ [_,_,_,_,_,_] _::_) _:=hh;refine aI (aa (ah (sr (mI ?_))));refine dn (aa (cF (aq (ai (sr (mL (bo ?_)))))));refine bp hh 2 ?_;refine aM ?_;refine ay (hat _ (hT.hp hh) hh.below) au.out rfl Yp ?_;rintro e_ w50 ⟨A,ca,rfl,h3⟩;refine ⟨_,rfl, ?_⟩;replace hh:=hh.join h3;simp only [YB,Yz] at hh;clear h3;refine aL (aa (sr ?_));refine bJ hh 3 [_,_] (mL ?_);refine bj hh (hev1 _ _ _ (hT.hp hh) hh.below (hh.az (i:=0) rfl)) rfl ?_;intro w54 hh;refine mT ?_;refine cx ?_;refine cx ?_;refine bC hh ?_
       intro b12 w12 hh;refine bg hh 0 [_,_,_] ?_;intro ws hh;replace hh:Hp _ (.blk _ _ [_,_,_] _::_) _:=hh;refine aI (aa (sr ?_));refine bJ hh 3 [_,_] (mL ?_);refine bj hh (hev2 _ _ _ (hT.hp hh) hh.below (hh.az (i:=1) rfl)) rfl ?_;intro w60 hh;refine mT ?_;refine cx ?_;refine cx ?_;refine bC hh ?_;intro b14 w14 hh;refine bg hh 0 [_,_,_] ?_;intro ws hh;replace hh:Hp _ (.blk _ _ [_,_,_] _::_) _:=hh;refine aI (aa (sr (mI ?_)));refine cH (mB (gT (mI (gT ?_))));refine cH ?_;refine gi ?_;refine mB (gT ?_);refine bJ hh 3 [_,_,_,_,_,_] (gT ?_);refine bJ hh 1 [_,_,_] (gT ?_);refine bJ hh 0 [_,_,_] ?_;refine aG rfl rfl ?_;refine bj hh (hbw _ (hT.hp hh)) rfl ?_;intro w73 hh;refine gi ?_;refine mB ?_;refine aG rfl rfl ?_;refine bj hh (mA _ (hT.hp hh)) rfl ?_;intro w76 hh;refine gi ?_;exact xW
      ·generalize ja f g=E at*;refine mT ?_;refine cx ?_;refine cx ?_;refine bC hh ?_;intro b9 w9 hh;refine bg hh 0 [_,_,_,_,_,_] ?_;intro ws hh;replace hh:Hp _ (.blk _ _ [_,_,_,_,_,_] _::_) _:=hh;refine aI (aa (ah (sr (mI ?_))));refine dn (aa (cT (sr ?_)));refine bj hh (mA _ (hT.hp hh)) rfl ?_;intro w45 hh;refine aB (aa (av (aF ?_)));refine dH ?_;exact ⟨rfl,hh.below⟩
end Go.Proofs.YtmchncaiffbpaaaGreatDoor
namespace Go.Proofs.YtmchncaiffbpaaaGreatDoor.ratioHolds
open Go.ChangeShapes Go.WideShapes Go.ChangeAt Go.RowKit Go.ChangeMaps
theorem own:ownKnob Tryz.prog.godebug=none:=by kernel_rfl
set_option maxRecDepth 100000 in
theorem lifted (os:Os) (started:os.Started) (H:Type) (enc:TypeId×Value→H):
  ReturnsInHanded {} Tryz.checked os 3 .any (fun w args=>(Rows.ratioHoldsSpec.pre enc Tryz.prog Tryz.f3 Rows.ratioHoldsRow.domain false w args∧laidMetH Tryz.prog Rows.ratioHoldsRow.laid w)∧sizedMet enc Tryz.prog Tryz.f3 (OpenSpec.ofChange Rows.ratioHoldsSpec) false w args)
   (Rows.ratioHoldsSpec.post enc Tryz.prog Tryz.f3 false true false false):=by
 refine returnsInHanded_of_change_and (C:=Tryz.checked) (X:=fun w _=>laidMetH Tryz.prog Rows.ratioHoldsRow.laid w) (fun _ _ _ hh h=>h.of_heap hh) own started Yq Tryz.func3
  (ChangeSpec.witness_shaped (enc:=enc) (C:=Tryz.checked) (os:=os) (X:=fun w _=>laidMetH Tryz.prog Rows.ratioHoldsRow.laid w) false (World.laidAll Tryz.prog os Rows.ratioHoldsRow.laid) #[.agg #[.slice none 0 0,.slice none 0 0],.agg #[.slice none 0 0,.slice none 0 0],.int .i64 0,.slice none 0 0] 8 (World.laidAll_os _ _ _)
   (World.shaped_of_ZipB Yq Yq) Yq Yq Yq
   (by rw [MakeChecks.laidMetH_plain _ _ _ Yq];exact laidMet_laidAll _ Yq Yq)) ?_
 intro W base args ds gs before hval0 hW hc _ hL _;have hval:∀(j:Nat) t v,Tryz.f3.params[j]?=some t→args[j]?=some v→Value.okWide Tryz.prog W .any base t v:=hval0;have hW':=hW;obtain ⟨p,q,hA0,hV,rfl,hfz,hnd⟩:=hW;have hA:DataW.TrodAll enc Tryz.prog W 0 (fun _=>true) true Tryz.f3.params.toList args.toList ds p:=hA0;rw [Tryz.params3] at hA hval;obtain ⟨v0,vs0,d0,ds0,p0,q0,hargs,rfl,rfl,h0,r0⟩:=trodAll_cons hA;obtain ⟨v1,vs1,d1,ds1,p1,q1,rfl,rfl,rfl,h1,r1⟩:=trodAll_cons r0;obtain ⟨v2,vs2,d2,ds2,p2,q2,rfl,rfl,rfl,h2,r2⟩:=trodAll_cons r1;obtain ⟨v3,vs3,d3,ds3,p3,q3,rfl,rfl,rfl,h3,r3⟩:=trodAll_cons r2;obtain ⟨rfl,rfl,rfl⟩:=trodAll_nil r3;obtain rfl:args= #[v0,v1,v2,v3]:=by cases args;simp_all
 obtain ⟨rfl,rfl⟩:=trodVars_none hV;obtain ⟨f0,rfl,hS0,hR0⟩:=xc (hval 0 25 v0 rfl rfl) h0;obtain ⟨f1,rfl,hS1,hR1⟩:=xc (hval 1 25 v1 rfl rfl) h1;obtain ⟨x2,rfl,rfl,rfl,b2⟩:=open_int Tryz.underlying3 (hval 2 3 v2 rfl rfl) h2;obtain ⟨A3,n3,c3,l3,rfl,hS3,hI3⟩:=Fx (hval 3 26 v3 rfl rfl) h3;refine (sM f0 f1 x2 A3 n3 c3 l3 W (DN hL) hS0 hR0 hS1 hR1 (bounds_i64 b2).1 (bounds_i64 b2).2 hS3 hI3).mono fun e W' ⟨he,hb⟩=> ?_;subst he;exact ⟨_,rfl,Mr hW' rfl Yq (by rw [Tryz.params3];exact aax Yq) Yq Tryz.underlying4 rfl rfl rfl hb⟩
set_option maxHeartbeats 8000000 in
theorem row_holds:Rows.RatioHoldsSaid:=
 OpenClaim.holds_of_wide 3 Tryz.f3 rfl rfl rfl rfl rfl rfl rfl ⟨rfl,rfl,rfl,rfl,rfl⟩ rfl rfl rfl rfl rfl (by as_aux_lemma=>kernel_rfl) Tryz.func3 (by rw [joinedFacts];simp only [YP];and_intros<;>as_aux_lemma=>kernel_rfl)
  (aax (by as_aux_lemma=>kernel_rfl)) (by unfold Func.isWrapper;first|(rw [Yt (by decide+kernel)];kernel_rfl)|(rw [Yu (by decide+kernel)];exact ⟨rfl,rfl⟩))
  (fun os started H enc _=>lifted os started H enc)
set_option maxHeartbeats 8000000 in
theorem holds:Rows.RatioHoldsCardSaid:=
 Claim7.holds_tied_plain_at .later [] [.data,.data,.pinned] true (true, "ecf3ceebdc447751b8c20a115345f3577276edbf64951cb3738b238e6a07027b") false row_holds (fun _ h=>by cases h) (by as_aux_lemma=>kernel_rfl) (fun _ h=>by cases h) ratioHolds_row_tie rfl ⟨rfl,rfl⟩ (by as_aux_lemma=>kernel_rfl) rfl
  (fun f fn hf hfn=>by
   obtain rfl:f=3:=Zg ((show Tryz.prog.funcNamed "ogee/ogeelaw20.RatioHolds" =some 3 by as_aux_lemma=>kernel_rfl).symm.trans hf)|>.symm;obtain rfl:fn=Tryz.f3:=(Zg (Tryz.func3.symm.trans hfn)).symm;exact ⟨by as_aux_lemma=>kernel_rfl,fun j t ht=>by
    rw [Tryz.params3] at ht;have hm:t∈[25,25,3,26]:=by simpa using Array.mem_of_getElem? ht
    have hall:([25,25,3,26].all fun u=> !Tryz.prog.wantsStandIn u)=true:=by as_aux_lemma=>kernel_rfl
    exact (show Tryz.prog.wantsStandIn t=false by simpa using Y0.1 hall t hm)⟩)
  (by as_aux_lemma=>kernel_rfl)
#print axioms holds
end Go.Proofs.YtmchncaiffbpaaaGreatDoor.ratioHolds
