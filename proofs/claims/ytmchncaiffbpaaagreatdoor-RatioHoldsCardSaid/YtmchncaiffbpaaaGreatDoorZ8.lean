/- Lemmas for ratioHolds, part 8. -/
import Derived.Test.YtmchncaiffbpaaaGreatDoorZ7
namespace Go.Proofs.YtmchncaiffbpaaaGreatDoor
open Go.RowKit
theorem BG (v:Int) (A:Option Addr) (n c:Nat) (l:List TR) (k:Nat) (w:World) (hS:Sl w A n 4 (aA TR.cells l)) (hn:n≤100000) (ho:kx k l) (hk:k+n≤3999980) (hz:∀t∈l,t.m.size≤100000):
  Calls Tryz.prog 73 #[.int .i64 v,.slice A n c] w fun r w'=>∃g:PX,iy (lj v l) v (aU l) g∧r=.returned (.tuple #[.agg #[.int .i64 g.v,.slice g.A g.n g.c],.int .i64 (lj v l)])∧Hp w [g.row] w':=by
 have hh:=Hp.start w;have hln:=hS.bk TR.len Yp
 cases hf:jW v with
 |false=>
  have hbv:¬(0≤v∧v≤12):=fun h=>by rw [jb.2 h] at hf;cases hf
  rw [show lj v l=1 by unfold lj;rw [Yt (.inl hf)]];by_cases h0:v<0
  ·refine Ol ?_;refine sr ?_;refine bC hh ?_;intro b4 w4 hh;refine aI (aa (ah (sr (mI ?_))));refine a9 (mB ?_);refine gS (gS ?_);exact HY
  ·refine Ol ?_;refine sr ?_;refine bC hh ?_;intro b4 w4 hh;refine aI (aa (ah (sr (mI ?_))));refine a9 (mB (gT (mI (gT ?_))));refine bT ?_;refine fK ?_;refine aa (cT (sr ?_));exact QV
 |true=>
  obtain ⟨hv0,hv12⟩:=jb.1 hf;refine Ol ?_;refine sr ?_;refine bC hh ?_;intro b4 w4 hh;refine aI (aa (ah (sr (mI ?_))));refine a9 (mB (gT (mI (gT ?_))));refine bT ?_;refine fK ?_;refine aa (cF (aq (ai (ah (sr (aI (aa (ar ?_))))))));refine aT [5,6,14,15,16,17,18,19,20,21,22,23,24,25,26,27,28] 6
   (fun x w'=>∃i:Nat,i≤n∧x=.int .i64 i∧(l.take i).any (fun t=> !iu v t)=false∧Hp w [.blk b4 52 [.int .i64 0,.slice none 0 0] (0,0)] w')
   (fun x _=>n-(intOf x).toNat) ?_ ?_
  ·exact ⟨0,Yx _,rfl,rfl,hh⟩
  ·clear hh;rintro ρ' x_ w' ⟨i,hi,rfl,hall,hh⟩;by_cases hlt:i<n
   ·obtain ⟨x,hx⟩:=ao (l:=l) (k:=i) Yo;obtain ⟨ad,rfl,hr⟩:=hS.at_ Yo;have hxz:=hz x (Yy hx);have hmay:∀w1,Calls Tryz.prog 119 #[.string x.m,.int .i64 v] w1 fun r w'=>r=.returned (.bool (iu v x))∧Below w1.heap.size w1 w':=fun w1=>Fj x.m v w1 Yo
    cases hm:iu v x with
    |false=>
     rw [hm] at hmay;rw [show lj v l=1 by unfold lj;rw [Yt (.inr (aae.2 ⟨x,Yy hx,by rw [hm];rfl⟩))]];refine ah (sr (mI (mL (aM ?_))));refine vV ?_;refine bZ ?_;refine tk ?_;refine Ij ?_;refine mI ?_;refine bj hh (hmay _) rfl ?_;intro w26 hh;refine ig ?_;refine aa (cT (sr ?_));refine fe [_,_] ?_;refine bg hh 0 [_,_] ?_;intro ws hh;replace hh:Hp _ (.blk _ _ [_,_] _::_) _:=hh;refine aI (aa (av (bU (aF (aF (bU (aF ?_)))))));refine u7 ?_;exact TQ
    |true=>
     rw [hm] at hmay;refine ah (sr (mI (mL (aM ?_))));refine vV ?_;refine bZ ?_;refine tk ?_;refine Ij ?_;refine mI ?_;refine bj hh (hmay _) rfl ?_;intro w26 hh;refine ig ?_;refine zn ?_;refine a8 (aI (aD (ai ?_)));refine ⟨⟨i+1,Yo,rfl,by rw [aw hx,aaU,hall,aa0,aa3,hm];rfl,hh⟩,by show n-(i+1)<n-i;omega, ?_⟩;exact er
   ·rw [YC Yo] at hall;have e1:lj v l=if 65536<l.length then 3 else iP l:=by unfold lj;rw [Yu (by rw [hf,hall];decide)]
    by_cases h6:65536<n
    ·rw [e1,Yt Yo];refine ah (sr (mI (mL (aM ?_))));refine IY ?_;refine bT (aa (cT (sr ?_)));exact QV
    ·rw [e1,Yu Yo];refine ah (sr (mI (mL (aM ?_))));refine IY ?_;refine bT (aa (cF (aq (ai (sr (mI (mL ?_)))))));refine ay (x6 v A n c l k _ (hS.ext hh.below) hn ho hk) au.out rfl Yp ?_;rintro e_ w35 ⟨g,og,rfl,h3⟩;refine ⟨_,rfl, ?_⟩;replace hh:=hh.join h3;simp only [YB,Yz] at hh;refine cx ?_;refine cx ?_;exact Lk
def WV (p:PX) (n:Nat):List TR×Int:=(List.replicate n p).foldl kr (aU [⟨iA p.v,nR ((1:Int):Dyadic)⟩],0)
def XM (p:PX) (n:Int):Int:=if p.e=0 then (if n<0∨127<n then 1 else (WV p n.toNat).2) else p.e
def Xy (ps:List PX) (R:List HE) (g:PX):Prop:=(g∈ps∧R=[])∨R=[g.row]
section
variable {ρ:Rf}{w:World}{d:Option Nat}{ty u:TypeId}{pos:String}{af:Array Edge}{g:Option (Nat×Bool)}{x y:Operand}{s t:TR}
end
def Yf (a:NR):Bool:=decide ((24:Int)<a.aY.size∨a.e< -300∨300<a.e)
structure Yn (ts:List TR):Prop where
 n:ts.length≤12
 ok:kx 492 ts
 sz:∀t∈ts,t.m.size≤50
variable {w w':World}
def PX.norm (g:PX):PX:=⟨g.v,none,0,0,g.ts⟩
theorem yD (ps:List PX):iZ (ps.map PX.norm)=iZ ps:=by
 have h1:(ps.map PX.norm).find? (fun g=>decide (g.e≠0))=(ps.find? fun g=>decide (g.e≠0)).map PX.norm:=List.find?_map ..;have h2:Al (ps.map PX.norm)=Al ps:=by
  unfold Al;rw [List.any_map,Zs]
  rfl
 unfold iZ;rw [h1,h2,YI]
 cases ps.find? (fun g=>decide (g.e≠0))<;>rfl
theorem xo (ps:List PX):iW (ps.map PX.norm)=iW ps:=by unfold iW;rw [Zs];rfl
structure KF (ps os:List PX) (R:List HE):Prop where
 eq:∀(j:Nat) (g o:PX),ps[j]?=some g→os[j]?=some o→o.v=g.v∧o.ts=g.ts∧o.n=g.n
 my:∀o∈os,o.row∈R∧o.n≤o.c
theorem KF.add {ps os:List PX}{R:List HE}{g o:PX} (h:KF ps os R) (hx:ps[os.length]?=some g) (he:o.v=g.v∧o.ts=g.ts∧o.n=g.n) (hc:o.n≤o.c):KF ps (os++[o]) (o.row::R):=by
 refine ⟨fun j g2 o2 h1 h2=> ?_,fun o2 h2=> ?_⟩
 ·by_cases hj:j<os.length
  ·rw [aav hj] at h2;exact h.eq j g2 o2 h1 h2
  ·by_cases hj2:j=os.length
   ·subst hj2;rw [ZC (YA _),Zn] at h2;rw [hx] at h1
    cases h1;cases h2
    exact he
   ·rw [YQ (by rw [YE];simp;omega)] at h2
    cases h2
 ·rcases Zm.1 h2 with h2|h2
  ·exact ⟨YK _ (h.my o2 h2).1,(h.my o2 h2).2⟩
  ·rw [YT.1 h2];exact ⟨YD,hc⟩
theorem KF.key {ps os:List PX}{R:List HE} (h:KF ps os R) (hl:os.length=ps.length):os.map PX.norm=ps.map PX.norm:=by
 apply ZI;intro j;rw [YJ,YJ];by_cases hj:j<os.length
 ·obtain ⟨o,ho⟩:=ao hj;obtain ⟨g,hg⟩:=ao (l:=ps) (k:=j) Yo;obtain ⟨e1,e2,_⟩:=h.eq j g o hg ho;rw [ho,hg];show some (PX.norm o)=some (PX.norm g);unfold PX.norm;rw [e1,e2]
 ·rw [YQ Yo,YQ Yo]
theorem Qy {H:List HE}{g:PX} (hh:Hp w H w') (h:g.row∈H):g.at_ w':=lz (hh.own g.row h)
variable {j k:Nat}{l:List TR}
def Lm (p:PX) (c:Dyadic):Int:=if p.e=0 then iP (p.ts.map (vm c)) else p.e
theorem JG {X:List TR}{c:Dyadic}{i:Nat}{z:TR} (hz:l[i]?=some z) (hX:X=(l.take i).map (vm c)++l.drop i):X[i]?=some z∧X.set i ⟨z.m,nR (z.c.d*c)⟩=(l.take (i+1)).map (vm c)++l.drop (i+1):=by
 obtain ⟨h1,h2⟩:=YL.1 hz;have hl:((l.take i).map (vm c)).length=i:=by rw [YI,YM];omega
 refine ⟨?_, ?_⟩
 ·rw [hX,ZC Yo,hl,Zn,ZW];exact hz
 ·rw [aw hz,ZD,hX,aaz _ _ Yo,hl,Zn,Y5,im hz]
  rfl
theorem Hd {c:Dyadic} (ho:kx k l) (hc:Sz j c) (hk:k+j≤1000000):kx (k+j) (l.map (vm c)):=fun t ht=>by
 obtain ⟨z,hz,rfl⟩:=YF.1 ht;have hs:=(ho z hz).2.mul hc;exact ⟨hs.ok Yo,by show Sz _ (nR _).d;rw [bL];exact hs⟩
theorem Ad (p:PX) (c:NR) (k:Nat) (w:World) (hT:dP w) (hp:p.at_ w) (lp:p.jX k) (hc:c.ok∧Sz k c.d) (hk:k≤400000):
  Calls Tryz.prog 190 #[.agg #[.int .i64 p.v,.slice p.A p.n p.c],.agg #[.bool c.neg,.string c.aY,.int .i64 c.e]] w fun r w'=>∃g:PX,iy (Lm p c.d) p.v (aU (p.ts.map (vm c.d))) g∧r=.returned (.tuple #[.agg #[.int .i64 g.v,.slice g.A g.n g.c],.int .i64 (Lm p c.d)])∧Hp w [g.row] w':=by
 have hh:=Hp.start w;have hck:=fun w1 hT1 hb=>oV p k w1 hT1 (hp.ext hb) lp;unfold Lm;by_cases h0:p.e=0
 ·rw [Yt h0];rw [h0] at hck;obtain ⟨_,h4,_,_⟩:=fa h0;have hpl:p.ts.length=p.n:=hp.ln;refine Rp ?_;refine sr ?_;refine bO hh [_,_] ?_;intro b2 w2 hh;refine bO hh [_,_,_] ?_;intro b3 w3 hh;refine bC hh ?_;intro b4 w4 hh;refine aI (aa (ah (sr ?_)));refine bJ hh 2 [_,_] ?_;refine fS ?_;intro w10 hh;refine aI (aa (sr (mI ?_)));refine dn (aa (cF (aq (ai (sr (bo ?_))))));refine bp hh 2 ?_;refine ay (mX p.A p.n p.c p.ts _ (hp.ext hh.below) lp.n) au.out rfl Yp ?_;rintro e_ w17 ⟨A17,c17,rfl,hown_,hb_⟩;refine ⟨_,rfl, ?_⟩;replace hh:=hh.aP (x:=.row _ _ _ _ _ _) hb_ hown_;refine qI ?_;refine aT [8,20,21,22,23,24,25,26,27,28,29,30,31,32,33,34,35] 20
   (fun v w'=>∃(i:Nat) (X:List TR),i≤p.n∧v=.int .i64 i∧X=(p.ts.take i).map (vm c.d)++p.ts.drop i∧Hp w [.row A17 p.n c17 95 4 (aA TR.cells X),.blk b4 52 [.int .i64 0,.slice none 0 0] (0,0),.blk b3 33 [.bool c.neg,.string c.aY,.int .i64 c.e] (0,0),.blk b2 52 [.int .i64 p.v,.slice p.A p.n p.c] (0,0)] w')
   (fun v _=>p.n-(intOf v).toNat) ?_ ?_
  ·exact ⟨0,p.ts,Yx _,rfl,rfl,hh⟩
  ·clear hh;rintro ρ' v w' ⟨i,X,hi,rfl,hX,hh⟩;have hXl:X.length=p.n:=by rw [hX,YE,YI,YM,Zz];omega
   by_cases hlt:i<p.n
   ·obtain ⟨z,hz⟩:=ao (l:=p.ts) (k:=i) Yo;obtain ⟨hXz,hXn⟩:=JG hz hX;have hzo:=lp.ok z (Yy hz);have hdm:=fun A cc w1 hT1 hS1=>fZ A 2 cc [z.c,c] w1 hT1 hS1 (by simpa using ⟨hzo.1,hc.1⟩) k (by simpa using ⟨hzo.2,hc.2⟩) Yo Yp;rw [show iw ([z.c,c].map NR.d)=z.c.d*c.d by show 1*z.c.d*c.d=_;rw [aap]] at hdm;have hrl:=fj TR.len X;obtain ⟨g0,rfl⟩:=hh.cq (i:=0) rfl Yo;refine sr ?_;refine LF ?_;refine aK 10 [[(7,none)],[(8,none)],[(7,none)],[(8,none)],[(25,some 2),(26,some 3)],[(27,some 4)],[(28,some 5)],[(3,none)],[(29,some 6),(30,some 7)],[(31,some 8)]] [(9,32),(8,31),(7,30),(6,29),(5,28),(4,27),(3,26),(2,25),(1,24),(0,23)] hh mixed Yq ?_;refine gI ?_;refine dJ ?_;refine gI ?_;refine dJ ?_;refine EG (i) ?_;refine dR ?_;refine pW [_,_,_] (fun _ hj=>(hj.hp.dT (f:=TR.cells) (x:=z) (l:=X) (i:=0) rfl TR.len Yp hXz).drop 1) ?_;refine dK 2 [_,_,_] ?_;refine x3 [_,_,_,_,_,_] ?_;refine a7 (i:=9) (Is (.agg #[.bool (nR (z.c.d*c.d)).neg,.string (nR (z.c.d*c.d)).aY,.int .i64 (nR (z.c.d*c.d)).e])) Is.ext ?_ ?_
    ·intro ρ1 w1 hj hR;obtain ⟨A31,c31,h31,s31⟩:=hR.1;exact bV rfl (bf au.out (aC h31 bh)) (hdm A31 c31 _ (hT.hp hj.hp) s31) (fun _ _ hq=>⟨_,hq.1,hq.2,rfl⟩)
    refine aH ?_;intro f W hJ hV;have hb_8:=hJ.bl;obtain ⟨v32,v31,v30,v29,v28,v27,v26,v25,v24,v23,_⟩:=hV;obtain ⟨A31,c31,e31,f31⟩:Rows _ _ _ (f 8) W:=v31;replace hh:=hJ.hp;refine aN (a6 (ae v32 (ae e31 (ae v30 (ae v29 (ae v28 (ae v27 (ae v26 (ae v25 (ae v24 (ae v23 aO))))))))))) ?_;dsimp only [bP];clear e31 hJ;refine il ?_;refine bo ?_;refine GS ?_;intro ws hh;simp only [YG] at hh;rw [zg hXz,hXn] at hh;refine gu ?_;refine a8 (mI (aD (ai ?_)));replace hh:=hh.sub (Yv _ (Yv _ (Yv _ (Yv _ YR))));refine ⟨⟨i+1,_,Yo,rfl,rfl,hh⟩,by show p.n-(i+1)<p.n-i;omega, ?_⟩;exact er
   ·obtain rfl:i=p.n:=Yo;rw [YC Yo,aaw Yo,Y7] at hX;have hso:=Hd lp.ok hc.2 Yo;rw [←hX] at hso ⊢;refine sr ?_;refine G9 ?_;refine bp hh 3 ?_;refine mL ?_;refine ay (lJ p.v A17 p.n c17 X (k+k) _ hT hh hXl Yo Yo hso) au.out rfl Yp ?_;rintro e_ w39 ⟨g,og,rfl,hh⟩;refine ⟨_,rfl, ?_⟩;refine cx ?_;refine cx ?_;exact Lk
 ·rw [Yu h0];refine Rp ?_;refine sr ?_;refine bO hh [_,_] ?_;intro b2 w2 hh;refine bO hh [_,_,_] ?_;intro b3 w3 hh;refine bC hh ?_;intro b4 w4 hh;refine aI (aa (ah (sr ?_)));refine bJ hh 2 [_,_] ?_;refine fS ?_;intro w10 hh;exact Ql
variable {c n:Nat}
abbrev ZT:=List (List UInt8×Int)
def zT (L:ZT):List TR:=L.map fun x=>⟨str x.1,nR ((x.2:Int):Dyadic)⟩
def zS (L:ZT) (b:List UInt8):Int:=match L with|[]=>0|x::L=>(if x.1=b then x.2 else 0)+zS L b
theorem QG (a b:Int):((a+b:Int):Dyadic)=(a:Dyadic)+(b:Dyadic):=(rS a b 0).symm
theorem PC {a:Int} (h:(a:Dyadic)=0):a=0:=tW (p:=0) h
theorem Bh (m:ByteArray):∀L:ZT,jh (zT L) m=(zS L m.data.toList:Int)
 |[]=>rfl
 |x::L=>by
  show jh (⟨str x.1,nR ((x.2:Int):Dyadic)⟩::zT L) m=((if x.1=m.data.toList then x.2 else 0)+zS L m.data.toList:Int);rw [gk,Bh m L,QG];congr 1;by_cases h:x.1=m.data.toList
  ·rw [Yt h,Yt (by rw [h];exact NB m)];exact bL _
  ·rw [Yu h,Yu (fun e=>h (by rw [←e];exact (eL _).symm))]
   rfl
def zC:ZT→Bool
 |[]=>true
 |[x]=> !decide (x.2=0)
 |x::y::L=> !decide (x.2=0) && (Op.bytesLess x.1 y.1 && zC (y::L))
theorem Lg:∀{L:ZT},zC L=true→Canon (zT L):=fun {L} h=>by
 have h1:∀{L:ZT},zC L=true→sQ (zT L)=true∧∀x∈L,x.2≠0:=fun {L}=>by
  induction L with
  |nil=>exact fun _=>⟨rfl,fun x hx=>nomatch hx⟩
  |cons x L ih=>
   intro h
   cases L with
   |nil=>exact ⟨rfl,fun y hy=>by rw [YT.1 hy];simpa [zC] using h⟩
   |cons y L=>
    simp only [zC,YP,abw,abL] at h;obtain ⟨i1,i2⟩:=ih h.2.2;refine ⟨?_,fun z hz=> ?_⟩
    ·show (jr (str x.1) (str y.1) && sQ (zT (y::L)))=true;rw [i1,show jr (str x.1) (str y.1)=true by unfold jr;rw [eL,eL];exact h.2.1]
     rfl
    ·rcases YH.1 hz with rfl|hz
     ·exact h.1
     ·exact i2 z hz
 obtain ⟨i1,i2⟩:=h1 h;refine ⟨rk.1 i1,fun t ht=> ?_,fun t ht=> ?_⟩
 ·obtain ⟨x,hx,rfl⟩:=YF.1 ht;show (nR _).d≠0;rw [bL];exact fun e=>i2 x hx (PC e)
 ·obtain ⟨x,hx,rfl⟩:=YF.1 ht;show nR _=nR (nR _).d;rw [bL]
def zE (L K:ZT):Bool:=(L++K).all fun x=>decide (zS L x.1=zS K x.1)
theorem HW {L:ZT}{b:List UInt8} (h:∀x∈L,x.1≠b):zS L b=0:=by
 induction L with
 |nil=>rfl
 |cons x L ih=>rw [zS,Yu (h x YD),ih fun y hy=>h y (YK _ hy)];rfl
theorem Wf {L K:ZT} (h:zE L K=true) (b:List UInt8):zS L b=zS K b:=by
 by_cases hb:∃x∈L++K,x.1=b
 ·obtain ⟨x,hx,rfl⟩:=hb;exact aax (Y0.1 h x hx)
 ·rw [HW fun x hx e=>hb ⟨x,Z3 _ hx,e⟩,HW fun x hx e=>hb ⟨x,Zu _ hx,e⟩]
theorem Jq {L K:ZT} (h:(zC K && zE K L)=true):aU (zT L)=zT K:=by
 rw [YP] at h;exact (r9 (Lg h.1) fun m=>by rw [Bh,Bh,Wf h.2]).symm
def zP (P Q:ZT):ZT:=P.flatMap fun x=>Q.map fun y=>((mulL x.1 y.1).1,x.2*y.2)
def Yl (P Q:ZT):List Int:=P.flatMap fun x=>Q.map fun y=>(mulL x.1 y.1).2
theorem Mo (L:ZT):(zT L).length=L.length:=YI _
def zM (v:Int) (L:ZT):Bool:=L.all fun x=>fR x.1 && decide ((x.1.length:Int)=v)
theorem T3 {v:Int}{L:ZT} (h:zM v L=true):∀t∈zT L,iu v t=true:=fun t ht=>by
 obtain ⟨x,hx,rfl⟩:=YF.1 ht;have:=Y0.1 h x hx;unfold iu;show (fR (str x.1).data.toList && decide (((str x.1).size:Int)=v))=true;rw [eL,k6];exact this
theorem QH {v:Int}{L:ZT} (hf:jW v=true) (h:zM v L=true) (hn:L.length≤4096):lj v (zT L)=0:=by
 unfold lj;rw [Yu,Yu (by rw [Mo];omega)]
 ·unfold iP;rw [Yu];have:=dX (zT L);rw [Mo] at this;omega
 ·rintro (h1|h1)
  ·rw [hf] at h1;cases h1
  ·obtain ⟨t,ht,h2⟩:=aae.1 h1;rw [T3 h t ht] at h2
   cases h2
def zB (L:ZT):Bool:=L.all fun x=>decide (x.2.natAbs<256) && decide (x.1.length≤50)
theorem GW {L:ZT} (h:zB L=true):kx 24 (zT L)∧∀t∈zT L,t.m.size≤50:=by
 refine ⟨fun t ht=> ?_,fun t ht=> ?_⟩
 ·obtain ⟨x,hx,rfl⟩:=YF.1 ht;have:=aaq.1 (Y0.1 h x hx);have z:Sz 24 ((x.2:Int):Dyadic):=Vj (m:=x.2) (e:=0) (aax this.1) Yp Yp;exact ⟨z.ok Yp,by show Sz 24 (nR _).d;rw [bL];exact z⟩
 ·obtain ⟨x,hx,rfl⟩:=YF.1 ht;have:=aaq.1 (Y0.1 h x hx);show (str x.1).size≤50;rw [k6];exact aax this.2
theorem Nh {v:Int}{A:Option Addr}{L:ZT} (h:zB L=true) (hn:n≤1000000) (hc:n≤c):(⟨v,A,n,c,zT L⟩:PX).jX 24:=⟨hn,hc,(GW h).1,fun t ht=>Y1 ((GW h).2 t ht) Yp⟩
def XX (n:Int):ZT:=[([0,1],n),([1,0],1)]
theorem vG {g h:PX} (h1:g.e=0) (h2:h.e=0) (h3:h.v=g.v):iZ [g,h]=0:=by
 have e:[g,h].find? (fun g=>decide (g.e≠0))=none:=j6 (aab.2 fun x hx=>by
  rcases YH.1 hx with rfl|hx
  ·simp [h1]
  ·rw [YT.1 hx];simp [h2])
 unfold iZ;rw [e];show (if 2=0∨Al [g,h]=true then (1:Int) else 0)=0;rw [Yu];rintro (h0|h0)
 ·cases h0
 ·obtain ⟨x,hx,hx2⟩:=aae.1 h0;have hx3:x.v≠g.v:=aax hx2
  rcases YH.1 hx with rfl|hx
  ·exact hx3 rfl
  ·rw [YT.1 hx] at hx3;exact hx3 h3
def Xn (ds:List Int):VP:=fun v W=>∃g:Option Addr×Nat,v=.slice g.1 ds.length g.2∧Sl W g.1 ds.length 1 (bD ds)
structure XU (E:Int) (g:PX):Prop where
 bad:E≠0→g.v=0∧g.ts=[]
 ok:E=0→g.e=0∧kx 100000 g.ts∧∀t∈g.ts,t.m.size≤100000
theorem QS (h:iP l=0):(aU l).length≤4096:=by
 unfold iP at h;by_cases h4:4096<(aU l).length
 ·rw [Yt h4] at h;omega
 ·omega
theorem wW (h:kx k l) (hk:k+l.length≤j) (hj:j≤3999990):kx j (aU l):=fun t ht=>by
 have h3:Sz j t.c.d:=(oU (fun t ht=>(h t ht).2) t ht).mono hk;exact ⟨by rw [(gR l).nf t ht];exact h3.ok hj,h3⟩
theorem vd (h:∀t∈l,t.m.size≤100000):∀t∈aU l,t.m.size≤100000:=fun t ht=>by
 obtain ⟨s,hs,e⟩:=kU t ht;rw [←e];exact h s hs
variable {ts:List TR}
theorem wo (h:l.length≤4096):iP l=0:=by
 unfold iP;have:=dX l;rw [Yu Yo]
theorem iy.v0 {v:Int}{g:PX} (o:iy 0 v ts g):g.v=v:=o.v
theorem iy.t0 {v:Int}{g:PX} (o:iy 0 v ts g):g.ts=ts:=o.ts
theorem RU (p q:PX):DJ [p,q]=p.ts++q.ts:=by show p.ts++(q.ts++[])=_;rw [Y7]
variable {p:List TR}
def lL (j:Nat) (t:TR):Nat:=match t.m.data.toList[j]? with|some e=>e.toNat|none=>0
theorem sV {t:TR}{e:UInt8} (h:t.m.data.toList[j]?=some e):lL j t=e.toNat:=by unfold lL;rw [h]
def cZ (p:List TR) (j n:Nat):List TR:=p.filter fun t=>decide (lL j t=n)
def ky (q:List TR) (sub:List TR→Int×List TR) (p:List TR) (j n:Nat) (a:Int×List TR):Int×List TR:=
 if a.1≠0 then a else if a.2.length=0∧(cZ p j n).length=0 then a else
 if iD a.2 q≠0 then (iD a.2 q,[]) else if (sub (cZ p j n)).1≠0 then ((sub (cZ p j n)).1,[]) else
 if iP (aU (dD a.2 q)++(sub (cZ p j n)).2)≠0 then (iP (aU (dD a.2 q)++(sub (cZ p j n)).2),[]) else (0,aU (aU (dD a.2 q)++(sub (cZ p j n)).2))
def dE (q:List TR) (sub:List TR→Int×List TR) (p:List TR) (j:Nat):Nat→Int×List TR
 |0=>(0,[])
 |i+1=>ky q sub p j (127-i) (dE q sub p j i)
theorem xa (q:List TR) (sub:List TR→Int×List TR) (p:List TR) (j i:Nat):dE q sub p j (i+1)=ky q sub p j (127-i) (dE q sub p j i):=rfl
def ku (v:Int):List (List TR)→Nat→List TR→Int×List TR
 |[],_,p=>(0,aU [⟨iA v,(p.map TR.c).headD (nR 0)⟩])
 |q::qs,j,p=>dE q (ku v qs (j+1)) p j 128
theorem sU {q:List TR}{sub:List TR→Int×List TR}{i:Nat} (h:(dE q sub p j i).1≠0) (hk:i≤k):dE q sub p j k=dE q sub p j i:=by
 induction k with
 |zero=>
  obtain rfl:i=0:=Yo
  rfl
 |succ k ih=>
  by_cases e:i=k+1
  ·rw [e]
  ·have:=ih Yo;show ky q sub p j (127-k) (dE q sub p j k)=_;rw [this];unfold ky;rw [Yt h]
theorem OO {q:List TR} (hp:kx k p) (hq:kx j q) (sq:∀t∈q,t.m.size≤100000) (h:iD p q=0) (hk:k+j≤900000):kx (k+j+p.length*q.length) (aU (dD p q))∧∀t∈aU (dD p q),t.m.size≤100000:=by
 obtain ⟨h6,_,h4⟩:=rK h;have ho:=u4 hp hq Yo;have hz:=oU fun t ht=>(ho t ht).2;rw [rZ] at hz;refine ⟨fun t ht=> ?_,(Hs hp hq sq h hk).2⟩;have:Sz (k+j+p.length*q.length) t.c.d:=hz t ht;refine ⟨?_,this⟩;rw [(gR _).nf t ht];exact this.ok Yo
structure mq (v:Int) (k:Nat) (l:List TR):Prop where
 e:l0 v l=0
 ok:kx k l
 sz:∀t∈l,t.m.size≤100000
theorem mq.mono {v:Int} (h:mq v k l) (hk:k≤j):mq v j l:=⟨h.e,h.ok.mono hk,h.sz⟩
theorem mq.nil {v:Int} (hv:jW v=true):mq v k []:=⟨Ht hv (Yx _) (fun _ h=>nomatch h) ⟨.nil,(fun _ h=>nomatch h),(fun _ h=>nomatch h)⟩,(fun _ h=>nomatch h),(fun _ h=>nomatch h)⟩
theorem mq.len {v:Int} (h:mq v k l):l.length≤4096:=(fa h.e).2.1
theorem Iw {v:Int}{q:List TR}{T:Nat} (hp:mq v k p) (hq:mq v j q) (hT:q.length≤T) (h:iD p q=0) (hk:k+j≤900000):mq v (k+j+4096*T) (aU (dD p q)):=by
 obtain ⟨h6,h5,h4⟩:=rK h;obtain ⟨f1,f2,f3,f4⟩:=fa hp.e;have:=OO hp.ok hq.ok hq.sz h hk;have hm:p.length*q.length≤4096*T:=Z5 hp.len hT;exact ⟨lO f1 h4 (J0 f3 h5),this.1.mono Yo,this.2⟩
theorem HI {v:Int}{a b:List TR} (ha:mq v k a) (hb:mq v k b) (h:iP (a++b)=0) (hk:k≤3000000):mq v (k+8192) (aU (a++b)):=by
 obtain ⟨f1,f2,f3,f4⟩:=fa ha.e;obtain ⟨g1,g2,g3,g4⟩:=fa hb.e;have hl:(a++b).length≤8192:=by rw [YE];omega
 refine ⟨lO f1 (QS h) fun t ht=> ?_,wW (fun t ht=> ?_) (show k+(a++b).length≤k+8192 by omega) Yo,vd fun t ht=> ?_⟩
 ·rcases Zm.1 ht with h|h
  ·exact f3 t h
  ·exact g3 t h
 ·rcases Zm.1 ht with h|h
  ·exact ha.ok t h
  ·exact hb.ok t h
 ·rcases Zm.1 ht with h|h
  ·exact ha.sz t h
  ·exact hb.sz t h
theorem L3 {v:Int}{q:List TR}{sub:List TR→Int×List TR}{a:Int×List TR}{S K T B S':Nat} (ha:mq v S a.2) (hq:mq v K q) (hT:q.length≤T) (hb:(sub (cZ p j n)).1=0→mq v B (sub (cZ p j n)).2) (h1:S+K+4096*T+8192≤S') (h2:B+8192≤S') (hS:S'≤900000)
  (h:(ky q sub p j n a).1=0):mq v S' (ky q sub p j n a).2:=by
 unfold ky at h ⊢;by_cases c0:a.1≠0
 ·rw [Yt c0] at h;exact absurd h c0
 ·rw [Yu c0] at h ⊢;by_cases c1:a.2.length=0∧(cZ p j n).length=0
  ·rw [Yt c1];exact ha.mono Yo
  ·rw [Yu c1] at h ⊢;by_cases c2:iD a.2 q≠0
   ·rw [Yt c2] at h;exact absurd h c2
   ·rw [Yu c2] at h ⊢;by_cases c3:(sub (cZ p j n)).1≠0
    ·rw [Yt c3] at h;exact absurd h c3
    ·rw [Yu c3] at h ⊢;by_cases c4:iP (aU (dD a.2 q)++(sub (cZ p j n)).2)≠0
     ·rw [Yt c4] at h;exact absurd h c4
     ·rw [Yu c4];exact (HI ((Iw ha hq hT Yo Yo).mono (show _≤S'-8192 by omega)) ((hb Yo).mono Yo) Yo Yo).mono Yo
theorem Kw (h:∀t∈p,lL j t<n):cZ p j n=[]:=List.filter_eq_nil_iff.2 fun t ht=>by
 have:=h t ht;simp only [YX];omega
theorem mf:∀t∈cZ p j n,t∈p:=fun t ht=>(Z0.1 ht).1
theorem mR {q p:List TR}{sub:List TR→Int×List TR}{j D:Nat} (h:∀t∈p,lL j t≤D):∀i,i+D≤127→dE q sub p j i=(0,[])
 |0,_=>rfl
 |i+1,hi=>by
  show ky q sub p j (127-i) (dE q sub p j i)=_;rw [mR h i Yo,show ky q sub p j (127-i) (0,[])=(0,[]) by
   unfold ky;rw [Yu Yp,Yt ⟨rfl,by rw [Kw fun t ht=>by have:=h t ht;omega];rfl⟩]]
def jA (c:Nat):List Nat→Nat→Nat
 |[],k=>k
 |d::ds,k=>jA c ds k+d*c+8192
theorem zw (c k:Nat):jA c [] k=k:=rfl
theorem vO (c d k:Nat) (ds:List Nat):jA c (d::ds) k=jA c ds k+d*c+8192:=rfl
theorem wU {v:Int}{q p:List TR}{sub:List TR→Int×List TR}{j D K T B c:Nat} (hv:jW v=true) (hq:mq v K q) (hT:q.length≤T) (hD:∀t∈p,lL j t≤D) (hD2:D≤127) (hb:∀n,(sub (cZ p j n)).1=0→mq v B (sub (cZ p j n)).2) (hc:K+4096*T+8192≤c) (hS:B+D*c+8192≤900000):
  ∀i,i≤128→(dE q sub p j i).1=0→mq v (B+(i+D-128)*c+8192) (dE q sub p j i).2
 |0,_,_=>mq.nil hv
 |i+1,hi,h0=>by
  by_cases h1:i+1+D≤127
  ·rw [mR hD _ h1];exact mq.nil hv
  ·have h2:(dE q sub p j i).1=0:=by
    refine aa1 fun c=> ?_;rw [sU c (Nat.le_succ i)] at h0;exact c h0
   have hle:(i+1+D-128)*c≤D*c:=Zo _ Yo;by_cases h3:i+D≤127
   ·have h4:=mR (q:=q) (sub:=sub) hD i h3;show mq v _ (ky q sub p j (127-i) (dE q sub p j i)).2;have h5:(ky q sub p j (127-i) (dE q sub p j i)).1=0:=h0;rw [h4] at h5 ⊢;rw [show i+1+D-128=0 by omega,aaP];unfold ky at h5 ⊢;rw [Yu Yp] at h5 ⊢;by_cases c1:((0:Int),([]:List TR)).2.length=0∧(cZ p j (127-i)).length=0
    ·rw [Yt c1];exact mq.nil hv
    ·rw [Yu c1] at h5 ⊢;by_cases c2:iD [] q≠0
     ·rw [Yt c2] at h5;exact absurd h5 c2
     ·rw [Yu c2] at h5 ⊢;by_cases c3:(sub (cZ p j (127-i))).1≠0
      ·rw [Yt c3] at h5;exact absurd h5 c3
      ·rw [Yu c3] at h5 ⊢;by_cases c4:iP (aU (dD [] q)++(sub (cZ p j (127-i))).2)≠0
       ·rw [Yt c4] at h5;exact absurd h5 c4
       ·rw [Yu c4];have hn:mq v B (aU (dD [] q)):=mq.nil hv;exact (HI hn (hb _ Yo) Yo Yo).mono Yo
   ·have ih:=wU hv hq hT hD hD2 hb hc hS i Yo h2;have e1:(i+1+D-128)*c=(i+D-128)*c+c:=by rw [show i+1+D-128=(i+D-128)+1 by omega,ZA]
    rw [e1] at hle ⊢;generalize (i+D-128)*c=y at*;generalize D*c=z at*;exact L3 ih hq hT (hb _) Yo Yo Yo h0
theorem zY {v:Int}{x:NR} (hv:jW v=true) (hx:Sz k x.d) (hk:k≤900000):mq v (k+1) (aU [⟨iA v,x⟩]):=by
 have h1:=jb.1 hv;have h2:=pN h1.1;refine ⟨lO hv (Y1 (dX _) (show 1≤4096 by decide)) fun t ht=> ?_,fun t ht=> ?_,fun t ht=> ?_⟩
 ·rw [YT.1 ht];unfold iu;rw [YP,YX];exact ⟨yP v,h2⟩
 ·have h1:Sz (k+1) t.c.d:=oU (k:=k) (l:=[⟨iA v,x⟩]) (fun s hs=>by rw [YT.1 hs];exact hx) t ht;exact ⟨by rw [(gR _).nf t ht];exact h1.ok Yo,h1⟩
 ·obtain ⟨s,hs,e⟩:=kU t ht;rw [←e,YT.1 hs];show (iA v).size≤100000;omega
theorem HS {v:Int}{K T c0:Nat} (hv:jW v=true) (hc0:K+4096*T+8192≤c0):∀(qs:List (List TR)) (j:Nat) (p:List TR) (ds:List Nat) (k:Nat),(∀q∈qs,mq v K q∧q.length≤T)→kx k p→ds.length=qs.length→(∀(i d:Nat),ds[i]?=some d→d≤127∧∀t∈p,lL (j+i) t≤d)→jA c0 ds (k+1)≤900000→
  (ku v qs j p).1=0→mq v (jA c0 ds (k+1)) (ku v qs j p).2:=by
 intro qs
 induction qs with
 |nil=>
  intro j p ds k _ hok hds _ hB _;obtain rfl:ds=[]:=abU.1 hds;rw [zw] at hB ⊢;refine zY hv ?_ Yo
  cases p with
  |nil=>show Sz k (nR 0).d;rw [bL];exact Sz.zero k
  |cons t p=>exact (hok t YD).2
 |cons q qs ih=>
  intro j p ds k hq hok hds hD hB h0
  cases ds with
  |nil=>cases hds
  |cons d ds=>
   have hd:=hD 0 d rfl;rw [vO] at hB ⊢;have hB1:jA c0 ds (k+1)≤900000:=Yo;have hsub:∀n,(ku v qs (j+1) (cZ p j n)).1=0→mq v (jA c0 ds (k+1)) (ku v qs (j+1) (cZ p j n)).2:=fun n hn=>by
    refine ih (j+1) (cZ p j n) ds k (fun r hr=>hq r (YK _ hr)) (fun t ht=>hok t (mf t ht)) (by simpa using hds) (fun i e he=> ?_) hB1 hn;exact Vn
   have h1:=wU (sub:=ku v qs (j+1)) (p:=p) (j:=j) hv (hq q YD).1 (hq q YD).2 hd.2 hd.1 hsub hc0 hB 128 (YA _) h0;rw [show 128+d-128=d by omega] at h1;exact h1
variable {fr:Nat}{α:Type}
theorem En:∀{a b:List UInt8}{j:Nat}{x y:UInt8},Op.bytesLess a b=true→a.take j=b.take j→a[j]?=some x→b[j]?=some y→x.toNat≤y.toNat
 |[],_,j,x,y,_,_,hx,_=>by simp at hx
 |_,[],j,x,y,_,_,_,hy=>by simp at hy
 |c::a,d::b,0,x,y,h,_,hx,hy=>by
  simp only [abh,aag] at hx hy;subst hx;subst hy;simp only [Op.bytesLess,aaL,YP,YX,Z6] at h
  rcases h with h|⟨h,_⟩
  ·exact Nat.le_of_lt (UInt8.lt_iff_toNat_lt.1 h)
  ·rw [h];exact YA _
 |c::a,d::b,j+1,x,y,h,ht,hx,hy=>by
  simp only [abq,List.cons.injEq] at ht;obtain ⟨rfl,ht⟩:=ht;simp only [abe] at hx hy;refine En (a:=a) (b:=b) ?_ ht hx hy;simpa [Op.bytesLess] using h
structure Mn (v:Int) (j:Nat) (p:List TR):Prop where
 uf:xC p
 may:∀t∈p,iu v t=true
 pre:∀a∈p,∀b∈p,a.m.data.toList.take j=b.m.data.toList.take j
theorem Mn.size {v:Int} (h:Mn v j p):∀t∈p,(t.m.data.toList.length:Int)=v:=fun t ht=>by
 rw [←fJ];exact aax (aaq.1 (h.may t ht)).2
theorem Mn.get {v:Int} (h:Mn v j p) (hj:(j:Int)<v) {t:TR} (ht:t∈p):∃e:UInt8,t.m.data.toList[j]?=some e∧lL j t=e.toNat∧e.toNat<128:=by
 obtain ⟨e,he⟩:=ao (l:=t.m.data.toList) (k:=j) (by have:=h.size t ht;omega);exact ⟨e,he,sV he,uj (aaq.1 (h.may t ht)).1 he⟩
theorem Mn.mono {v:Int} (h:Mn v j p) (hj:(j:Int)<v):p.Pairwise fun a b=>lL j a≤lL j b:=by
 refine List.Pairwise.imp_of_mem (fun {a b} ha hb hl=> ?_) h.uf;obtain ⟨x,hx,ex,_⟩:=h.get hj ha;obtain ⟨y,hy,ey,_⟩:=h.get hj hb;rw [ex,ey];exact En hl (h.pre a ha b hb) hx hy
theorem Mn.with {v:Int} (h:Mn v j p) (hj:(j:Int)<v):Mn v (j+1) (cZ p j n):=by
 refine ⟨h.uf.filter _,fun t ht=>h.may t (mf t ht),fun a ha b hb=> ?_⟩;obtain ⟨ha1,ha2⟩:=Z0.1 ha;obtain ⟨hb1,hb2⟩:=Z0.1 hb;obtain ⟨x,hx,ex,_⟩:=h.get hj ha1;obtain ⟨y,hy,ey,_⟩:=h.get hj hb1;have exy:x=y:=abj.1 (by rw [←ex,←ey,aax ha2,aax hb2]);rw [aw hx,aw hy,h.pre a ha1 b hb1,exy]
theorem Nz {p:List α}{en:Nat} (h:fr≤en):p.drop fr=(p.drop fr).take (en-fr)++p.drop en:=by
 have:p.drop en=(p.drop fr).drop (en-fr):=by rw [aaM];congr 1;omega
 rw [this,Zy]
theorem CO {en:Nat} (hfe:fr≤en) (h1:∀t∈p.take fr,lL j t<n) (h2:∀t∈(p.drop fr).take (en-fr),lL j t=n) (h3:∀t∈p.drop en,n<lL j t):cZ p j n=(p.drop fr).take (en-fr):=by
 have e:p=p.take fr++((p.drop fr).take (en-fr)++p.drop en):=by
  have:p.drop en=(p.drop fr).drop (en-fr):=by rw [aaM];congr 1;omega
  rw [this,Zy,Zy]
 unfold cZ
 conv=>lhs;rw [e]
 rw [aa7,aa7,List.filter_eq_nil_iff.2,List.filter_eq_self.2,List.filter_eq_nil_iff.2,Yz,Y7]
 ·intro t ht;have:=h3 t ht;simp only [YX];omega
 ·intro t ht;have:=h2 t ht;simpa using this
 ·intro t ht;have:=h1 t ht;simp only [YX];omega
theorem JB {x:TR} (h:p.Pairwise fun a b=>lL j a≤lL j b) (hx:p[fr]?=some x) (hn:lL j x<n):∀t∈p.take (fr+1),lL j t<n:=fun t ht=>by
 rw [aw hx] at ht
 rcases Zm.1 ht with ht|ht
 ·have e:p=p.take fr++x::p.drop (fr+1):=by rw [←im hx,Zy]
  rw [e,List.pairwise_append] at h;have:=h.2.2 t ht x YD;omega
 ·obtain rfl:=YT.1 ht;exact hn
def X9 (p:PX) (i:Int):Int:=if p.e=0 then (if i<0∨p.v≤i then 1 else 0) else p.e
def W0 (i:Nat) (t:TR):Option TR:=match t.m.data.toList[i]? with|some e=>if e.toNat=0 then none else some ⟨str (t.m.data.toList.set i (e-1)),nR (t.c.d*((e.toNat:Int):Dyadic))⟩|none=>none
def Yd (i:Nat) (l:List TR):List TR:=l.filterMap (W0 i)
variable {E:Int}{W w0 w1:World}{base:Nat}
theorem JJ.Pw {H L:List HE} (hJ:JJ w0 H w W) (hs:Hp w0 H w) (hb:w.heap.size≤w1.heap.size) (hL:Hp w1 L W):Hp w0 (L++H) W:=
 hs.join (⟨hJ.bl,fun x hx=>oE (hL.own x hx) hb,hL.nd⟩:Hp w L W)
def qL (base:Nat) (E v:Int) (ts:List TR):VP:=mG base E v ts
theorem qL.ext {v:Int} (x:Value) (w w':World) (h:qL base E v ts x w) (hb:Below w.heap.size w w'):qL base E v ts x w':=mG.ext x w w' h hb
theorem BS (v:Int):aU [⟨iA v,nR 0⟩]=[]:=by
 unfold aU jx pO
 rfl
theorem Gw (lA:Option Addr) (lc K T c0:Nat) (v:Int) (ls:List PX) (hv:jW v=true) (hlc:ls.length≤lc) (hl12:ls.length≤12) (hls:∀g∈ls,mq v K g.ts∧g.v=v∧g.jX K∧g.ts.length≤T) (hc0:K+4096*T+8192≤c0) (hc1:c0≤440000):
  ∀(qs:List PX) (j:Nat) (p:List TR) (A:Option Addr) (n c:Nat) (ds:List Nat) (k:Nat) (w:World),ls.drop j=qs→j≤ls.length→dP w→Sl w lA ls.length 2 (aA PX.cells ls)→(∀g∈ls,g.at_ w)→Sl w A n 4 (aA TR.cells p)→n≤c→Mn ls.length j p→kx k p→n≤4096→ds.length=qs.length→(∀(i d:Nat),ds[i]?=some d→d≤127∧∀t∈p,lL (j+i) t≤d)→jA c0 ds (k+1)≤440000→
  Calls Tryz.prog 227 #[.slice A n c,.int .i64 j,.slice lA ls.length lc,.int .i64 v] w fun r w'=>∃g:PX,iy (ku v (qs.map PX.ts) j p).1 v (ku v (qs.map PX.ts) j p).2 g∧r=.returned (.tuple #[.agg #[.int .i64 g.v,.slice g.A g.n g.c],.int .i64 (ku v (qs.map PX.ts) j p).1])∧Hp w [g.row] w':=by
 intro qs;have hK:K≤440000:=Yo;have hco:Ct v=0:=Yu (by rw [hv];decide)
 induction qs with
 |nil=>
  intro j p A n c ds k w hq hj hT hL hat hS hnc hsr hok hn hds hD hB;have hh:=Hp.start w;have hln:=hS.bk TR.len Yp;obtain rfl:j=ls.length:=by
   have:=Ze List.length hq;rw [Zz] at this;simp only [abn] at this;omega
  obtain rfl:ds=[]:=abU.1 hds;rw [zw] at hB;have hcn:=fun c hc w1 hT1=>mY v c k w1 hT1 hc Yo;rw [hco] at hcn
  cases p with
  |nil=>
   obtain rfl:n=0:=by simpa using hln.symm
   show Calls _ _ _ _ fun r w'=>∃g:PX,iy 0 v (aU [⟨iA v,nR 0⟩]) g∧r=.returned (.tuple #[.agg #[.int .i64 g.v,.slice g.A g.n g.c],.int .i64 0])∧Hp w [g.row] w';refine aj (N:=118) (l:=[.slice A 0 c,.int .i64 ls.length,.slice lA ls.length lc,.int .i64 v]) Tryz.func227 rfl rfl (by simp) ?_;refine sr ?_;refine bC hh ?_;intro b8 w8 hh;refine aI (aa (ah (sr (mI (mL (aM ?_))))));refine cH (aa (cT (ah (sr (mL (aM ?_))))));refine cH (aa (cT (sr (mI ?_))));refine fe [_,_,_] ?_;refine ay (hcn (nR 0) ⟨(Sz.zero k).ok Yo,by rw [bL];exact Sz.zero k⟩ _ (hT.hp hh)) au.out rfl Yp ?_;rintro e_ w25 ⟨g,og,rfl,h3⟩;refine ⟨_,rfl, ?_⟩;replace hh:=hh.join h3;simp only [YB,Yz] at hh;refine cx ?_;refine cx ?_;refine bg hh 1 [_,_] ?_;intro ws hh;replace hh:Hp _ (_::.blk _ _ [_,_] _::_) _:=hh;refine aI (aa (av (aF (aF ?_))));exact U6
  |cons t p=>
   have hn1:p.length+1=n:=by simpa using hln
   have ht:=hok t YD;obtain ⟨ad,rfl,hr⟩:=hS.at_ Yo;show Calls _ _ _ _ fun r w'=>∃g:PX,iy 0 v (aU [⟨iA v,t.c⟩]) g∧r=.returned (.tuple #[.agg #[.int .i64 g.v,.slice g.A g.n g.c],.int .i64 0])∧Hp w [g.row] w';refine aj (N:=118) (l:=[.slice (some ad) n c,.int .i64 ls.length,.slice lA ls.length lc,.int .i64 v]) Tryz.func227 rfl rfl (by simp) ?_;refine sr ?_;refine bC hh ?_;intro b8 w8 hh;refine aI (aa (ah (sr (mI (mL (aM ?_))))));refine cH (aa (cT (ah (sr (mL (aM ?_))))));refine cH (aa (cF (aq (ai (sr (mI (mL ?_)))))));refine zz ?_;refine tk ?_;refine cg (vs:=[_,_,_]) aJ.out rfl (((hr.ext hh.below).recAt TR.len (show (t::p)[0]?=some t from rfl)).drop 1) rfl Yp ?_;refine ay (hcn t.c ht _ (hT.hp hh)) au.out rfl Yp ?_;rintro e_ w33 ⟨g,og,rfl,h3⟩;refine ⟨_,rfl, ?_⟩;replace hh:=hh.join h3;simp only [YB,Yz] at hh;refine cx ?_;refine cx ?_;refine bg hh 1 [_,_] ?_;intro ws hh;replace hh:Hp _ (_::.blk _ _ [_,_] _::_) _:=hh;refine aI (aa (av (aF ?_)));exact U6
 |cons q qs ih=>
  intro j p A n c ds k w hq hj hT hL hat hS hnc hsr hok hn hds hD hB;have hh:=Hp.start w;have hln:=hS.bk TR.len Yp
  cases ds with
  |nil=>cases hds
  |cons d ds=>
   have hd:=hD 0 d rfl;have hjl:j<ls.length:=by
    rcases Zb j ls.length with h|h
    ·exact h
    ·rw [aaw h] at hq;cases hq
   have hqj:ls[j]?=some q:=by rw [←List.head?_drop,hq];rfl
   have hqs:ls.drop (j+1)=qs:=by rw [←List.tail_drop,hq];rfl
   obtain ⟨hqk,hqv,hql,hqT⟩:=hls q (Yy hqj);rw [vO] at hB;have hB1:jA c0 ds (k+1)≤440000:=Yo;have hmono:=hsr.mono Yo;rw [Y6];show Calls _ _ _ _ fun r w'=>∃g:PX,iy (dE q.ts (ku v (qs.map PX.ts) (j+1)) p j 128).1 v (dE q.ts (ku v (qs.map PX.ts) (j+1)) p j 128).2 g∧r=.returned (.tuple #[.agg #[.int .i64 g.v,.slice g.A g.n g.c],.int .i64 (dE q.ts (ku v (qs.map PX.ts) (j+1)) p j 128).1])∧Hp w [g.row] w';have hDs:∀n (i e:Nat),ds[i]?=some e→e≤127∧∀t∈cZ p j n,lL (j+1+i) t≤e:=fun n i e he=>by
    exact Vn
   have hrec:∀(m fr en:Nat) (w1:World),dP w1→Below w.heap.size w w1→fr≤en→en≤n→cZ p j m=(p.drop fr).take (en-fr)→Calls Tryz.prog 227 #[.slice (if c=fr then A else A.map (·.add (fr*4))) (en-fr) (c-fr),.int .i64 ((j:Int)+1),.slice lA ls.length lc,.int .i64 v] w1 fun r w'=>∃g:PX,iy (ku v (qs.map PX.ts) (j+1) (cZ p j m)).1 v (ku v (qs.map PX.ts) (j+1) (cZ p j m)).2 g∧r=.returned (.tuple #[.agg #[.int .i64 g.v,.slice g.A g.n g.c],.int .i64 (ku v (qs.map PX.ts) (j+1) (cZ p j m)).1])∧Hp w1 [g.row] w':=fun m fr en w1 hT1 hb h1 h2 hw=>by
    have hcut:=(hS.ext hb).cut h1 h2 hnc;rw [iS TR.len,jw TR.len,←hw] at hcut;exact ih (j+1) (cZ p j m) _ (en-fr) (c-fr) ds k w1 hqs Yo hT1 (hL.ext hb) (fun g hg=>(hat g hg).ext hb) hcut Yo (hsr.with Yo) (fun t ht=>hok t (mf t ht)) Yo (by simpa using hds) (hDs m) hB1
   have hsub:∀m,(ku v (qs.map PX.ts) (j+1) (cZ p j m)).1=0→mq v (jA c0 ds (k+1)) (ku v (qs.map PX.ts) (j+1) (cZ p j m)).2:=fun m hm=>by
    refine HS hv hc0 (qs.map PX.ts) (j+1) (cZ p j m) ds k (fun r hr=> ?_) (fun t ht=>hok t (mf t ht)) (by rw [YI];simpa using hds) (hDs m) Yo hm;obtain ⟨g,hg,rfl⟩:=YF.1 hr;have:=hls g (abG (by rw [hqs];exact hg));exact ⟨this.1,this.2.2.2⟩
   generalize ku v (qs.map PX.ts) (j+1)=sub at hrec hsub ⊢;have hlim:=wU (sub:=sub) (p:=p) (j:=j) hv hqk hqT hd.2 hd.1 hsub hc0 Yo;have hlim2:∀i,i≤128→(dE q.ts sub p j i).1=0→mq v 440000 (dE q.ts sub p j i).2:=fun i hi h0=>(hlim i hi h0).mono (by
    have:(i+d-128)*c0≤d*c0:=Zo _ Yo;omega)
   have hcn:=fun w1 hT1=>mY v (nR 0) 0 w1 hT1 ⟨(Sz.zero 0).ok Yp,by rw [bL];exact Sz.zero 0⟩ Yp;rw [hco,BS] at hcn;refine aj (N:=118) (l:=[.slice A n c,.int .i64 j,.slice lA ls.length lc,.int .i64 v]) Tryz.func227 rfl rfl (by simp) ?_;refine sr ?_;refine bC hh ?_;intro b8 w8 hh;refine aI (aa (ah (sr (mI (mL (aM ?_))))));refine cH (aa (cF (aq (ai (sr (mI ?_))))));refine fe [_,_,_] ?_;refine ay (hcn _ (hT.hp hh)) au.out rfl Yp ?_;rintro e_ w39 ⟨g,og,rfl,h3⟩;refine ⟨_,rfl, ?_⟩;replace hh:=hh.join h3;simp only [YB,Yz] at hh;refine mT ?_;refine cx ?_;refine cx ?_;refine bC hh ?_;intro b10 w10 hh;refine bg hh 0 [_,_] ?_;intro ws hh;replace hh:Hp _ (.blk _ _ [_,_] _::_) _:=hh;refine aI (aa (sr (mL (aM (aI (aa (ah (sr (aI (aa (ar ?_)))))))))));refine u1 [11,12,13,14,15,44,45,46,47,48,49,50,51,52,53,54,55,56,57,58,59,60,61,62,63,64,65,66,67,68,69,70,71,72,73,74,75,76,77,78,79,80,81,82,83,84,85,86,87,88,89,90,91,92,93,94,95,96,97,98,99,100,101,102,103,104,105,106,107,108,109,110,111,112] 11 12 13
    (fun e en nv w'=>∃(i en_:Nat) (e_ ov:Int) (oA:Option Addr) (on oc:Nat) (os:List TR),i≤128∧nv=.int .i64 (127-(i:Int))∧en=.int .i64 en_∧e=.int .i64 e_∧e_=(dE q.ts sub p j i).1∧en_≤n∧(e_=0→ov=v∧os=(dE q.ts sub p j i).2∧(∀t∈p.take en_,lL j t<128-i)∧(∀t∈p.drop en_,128-i≤lL j t))∧Hp w [.blk b10 52 [.int .i64 ov,.slice oA on oc] (0,0),.row oA on oc 95 4 (aA TR.cells os),.blk b8 52 [.int .i64 0,.slice none 0 0] (0,0)] w')
    (fun _ _ nv _=>(intOf nv+1).toNat) ?_ ?_
   ·refine ⟨0,n,0,g.v,g.A,g.n,g.c,g.ts,Yx _,rfl,rfl,rfl,rfl,YA _,fun _=>⟨og.v,og.ts,fun t ht=> ?_,fun t ht=> ?_⟩,hh⟩
    ·obtain ⟨x,_,hx,h8⟩:=hsr.get Yo (aad ht);rw [hx];exact h8
    ·rw [aaw Yo] at ht
     cases ht
   ·clear hh og h3;rintro ρ' e_ en_ nv_ w' ⟨i,en,e,ov,oA,on,oc,os,hi,rfl,rfl,rfl,he,hen,hok0,hh⟩;by_cases hcn:i<128∧e=0
    ·obtain ⟨hi8,rfl⟩:=hcn;obtain ⟨rfl,rfl,hlo,hhi⟩:=hok0 rfl;clear hok0;obtain ⟨m,hm⟩:∃m,m=127-i:=⟨_,rfl⟩;rw [show (127-(i:Int))=(m:Int) by omega];refine ah (sr (mI ?_));refine dF (mB (gT (mI (gT ?_))));refine cH ?_;refine gi ?_;refine aa (cT (aq (ai (ah (ar (sr (mI (aI (aa (ah (ar ?_)))))))))));refine u9 zL4 14
      (fun f w'=>∃fr:Nat,fr≤en∧f=.int .i64 fr∧cZ p j m=(p.drop fr).take (en-fr)∧(∀t∈p.take fr,lL j t<m)∧Hp w [.blk b10 52 [.int .i64 ov,.slice oA on oc] (0,0),.row oA on oc 95 4 (aA TR.cells (dE q.ts sub p j i).2),.blk b8 52 [.int .i64 0,.slice none 0 0] (0,0)] w') ?_ ?_
     ·refine aT zL4 14
       (fun f w'=>∃fr:Nat,fr≤en∧f=.int .i64 fr∧(∀t∈(p.drop fr).take (en-fr),lL j t=m)∧Hp w [.blk b10 52 [.int .i64 ov,.slice oA on oc] (0,0),.row oA on oc 95 4 (aA TR.cells (dE q.ts sub p j i).2),.blk b8 52 [.int .i64 0,.slice none 0 0] (0,0)] w')
       (fun f _=>(intOf f).toNat) ?_ ?_
      ·exact ⟨en,YA _,rfl,(fun t ht=>by rw [Zn] at ht;cases ht),hh⟩
      ·clear hh;rintro ρ' f w' ⟨fr,hfr,rfl,hmid,hh⟩;by_cases h0:0<fr
       ·obtain ⟨fr,rfl⟩:∃g,fr=g+1:=⟨fr-1,Yo⟩;obtain ⟨x,hx⟩:=ao (l:=p) (k:=fr) Yo;obtain ⟨ad,rfl,hr⟩:=hS.at_ Yo;obtain ⟨e,hex,hxe,h8⟩:=hsr.get Yo (Yy hx);by_cases hem:e.toNat=m
        ·refine ah (sr (mI ?_));refine bT (mB (gT (mL (gT (mI (gT ?_))))));refine ee (gT ?_);refine cN (k:=fr) bG.out aJ.size rfl rfl Yo Yo Yp ?_;refine gT ?_;refine tk ?_;refine aG rfl rfl ?_;refine Ij ?_;refine gT (mI (gT ?_));refine k4 ?_;refine gT ?_;refine vi ?_;refine gT (mI (gT ?_));refine cH ?_;refine gi ?_;refine aa (cT (aq (ai (ar (ak (mI ?_))))));refine ee (aI (aD (bz (ai ?_))));refine ⟨⟨fr,Yo,by show Value.int .i64 (((fr+1:Nat):Int)-1)=_;congr 1;omega,fun t ht=> ?_,hh⟩,by show (((fr+1:Nat):Int)-1).toNat<((fr+1:Nat):Int).toNat;omega, ?_⟩
         ·rw [im hx,show en-fr=(en-(fr+1))+1 by omega,abq] at ht
          rcases YH.1 ht with rfl|ht
          ·rw [hxe,hem]
          ·exact hmid t ht
         ·exact er
        ·have hlt:e.toNat<m:=by
          have:=hlo x (by rw [show en=(fr+1)+(en-(fr+1)) by omega,List.take_add];exact Z3 _ (by rw [aw hx];exact Zu _ YD));omega
         have hall:=JB hmono hx (n:=m) (by rw [hxe];exact hlt);refine ah (sr (mI ?_));refine bT (mB (gT (mL (gT (mI (gT ?_))))));refine ee (gT ?_);refine cN (k:=fr) bG.out aJ.size rfl rfl Yo Yo Yp ?_;refine gT ?_;refine tk ?_;refine aG rfl rfl ?_;refine Ij ?_;refine gT (mI (gT ?_));refine k4 ?_;refine gT ?_;refine vi ?_;refine gT (mI (gT ?_));refine cH ?_;refine gi ?_;refine aa (cF (aX (aE (aE (bA (ai ?_))))));refine ⟨⟨fr+1,hfr,rfl,CO hfr hall hmid (fun t ht=>by have:=hhi t ht;omega),hall,hh⟩, ?_⟩;exact er
       ·obtain rfl:fr=0:=Yo;refine ah (sr (mI ?_));refine bT (mB ?_);refine gS (gS (gS (gS (gS ?_))));refine jR ?_;refine gS (gS (gS (gS (gS ?_))));refine fK ?_;refine aa (cF (aX (aE (aE (bA (ai ?_))))));refine ⟨⟨0,hfr,rfl,CO hfr (fun t ht=>by cases ht) hmid (fun t ht=>by have:=hhi t ht;omega),(fun t ht=>by cases ht),hh⟩, ?_⟩;exact er
     ·skip;clear hh;rintro ρ' f w' ⟨fr,hfr,rfl,hwi,hbl,hh⟩;have hnx:dE q.ts sub p j (i+1)=ky q.ts sub p j m (dE q.ts sub p j i):=by rw [xa,hm]
      have hop:=hlim2 i Yo he.symm;unfold ky at hnx;rw [Yu (by rw [←he];decide)] at hnx;have hmi:m=128-(i+1):=Yo;have hmi2:(127-((i+1:Nat):Int))=(m:Int)-1:=Yo;have hdf:∀t∈p.drop fr,m≤lL j t:=fun t ht=>by
       rw [Nz hfr] at ht
       rcases Zm.1 ht with ht|ht
       ·rw [←hwi] at ht;have:=aax (Z0.1 ht).2;omega
       ·have:=hhi t ht;omega
      have hst:(dE q.ts sub p j i)=(0,(dE q.ts sub p j i).2):=by rw [he]
      generalize (dE q.ts sub p j i).2=os at*;have hoc:on≤oc:=hh.gG (i:=1) rfl;have hon:os.length=on:=(hh.az (i:=1) rfl).bk TR.len Yp;have hwl:(cZ p j m).length=en-fr:=by rw [hwi,YM,Zz];omega
      by_cases hsk:os.length=0∧(cZ p j m).length=0
      ·rw [Yt hsk] at hnx;obtain ⟨h1,h2⟩:=hsk;obtain rfl:on=0:=Yo;obtain rfl:fr=en:=Yo;refine ah (sr (bo ?_));refine bp hh 0 ?_;refine aM ?_;refine cH (mB (gT (mI (gT (mI (gT ?_))))));refine cH ?_;refine gi ?_;refine aa (cT (aX (aE (bA (ai (ak (mI ?_)))))));refine ee (aI (aD (ai ?_)));refine ⟨⟨i+1,fr,0,ov,oA,0,oc,os,Yo,by rw [hmi2];rfl,rfl,rfl,by rw [hnx];exact he,hen,fun _=>⟨rfl,by rw [hnx,hst],fun t ht=>by rw [←hmi];exact hbl t ht,fun t ht=>by rw [←hmi];exact hdf t ht⟩,hh⟩,by show ((m:Int)-1+1).toNat<((m:Int)+1).toNat;omega, ?_⟩;exact er
      ·rw [Yu hsk] at hnx;refine oQ [70,71,72,73,74,75,76,77,78]
        (fun w'=>Hp w [.blk b10 52 [.int .i64 ov,.slice oA on oc] (0,0),.row oA on oc 95 4 (aA TR.cells os),.blk b8 52 [.int .i64 0,.slice none 0 0] (0,0)] w') ?_ ?_
       ·by_cases h0:on=0
        ·subst h0;have hne:fr≠en:=fun h=>hsk ⟨hon,Yo⟩;refine sr (bo ?_);refine bp hh 0 ?_;refine aM ?_;refine cH (mB (gT (mI (gT (mI (gT ?_))))));refine cH ?_;refine gi ?_;refine aa (cF (aq (ai ?_)));refine ⟨hh, ?_⟩;exact O1
        ·refine sr (bo ?_);refine bp hh 0 ?_;refine aM ?_;refine cH (mB ?_);refine gS (gS (gS ?_));refine fK ?_;refine aa (cF (aq (ai ?_)));refine ⟨hh, ?_⟩;exact O1
       ·skip;clear hh;rintro ρ' w' hh;obtain ⟨lad,rfl,hlr⟩:=hL.at_ Yo;have hlp:iZ [⟨ov,oA,on,oc,os⟩,q]=0:=vG hop.e (by unfold PX.e;rw [hqv];exact hqk.e) hqv;have hmu:∀(A2:Option Addr) (w1:World),dP w1→Sl w1 A2 2 2 (aA PX.cells [⟨ov,oA,on,oc,os⟩,q])→Sl w1 oA on 4 (aA TR.cells os)→Below w.heap.size w w1→Calls Tryz.prog 248 #[.slice A2 2 2] w1 fun r w'=>∃g:PX,iy (iD os q.ts) ov (aU (dD os q.ts)) g∧r=.returned (.tuple #[.agg #[.int .i64 g.v,.slice g.A g.n g.c],.int .i64 (iD os q.ts)])∧Hp w1 [g.row] w':=fun A2 w1 hT1 s1 s2 hb=>by
         have h1:=Ep A2 2 2 [⟨ov,oA,on,oc,os⟩,q] 440000 505536 w1 hT1 s1 Yp Yp (fun g hg=>by
          rcases YH.1 hg with rfl|hg
          ·exact s2
          ·rw [YT.1 hg];exact (hat q (Yy hqj)).ext hb) (fun g hg=>by
          rcases YH.1 hg with rfl|hg
          ·exact ⟨by have:=hop.len;show on≤1000000;omega,hoc,hop.ok,hop.sz⟩
          ·rw [YT.1 hg];exact ⟨hql.n,hql.cap,hql.ok.mono hK,hql.sz⟩) Yp Yp
         unfold GG at h1;rw [Yt hlp] at h1;exact h1
        refine sr ?_;refine bC hh ?_;intro b15 w15 hh;refine aa (ah (ah ?_));refine ej [] [9] [0,0,0,6,14,31,63,127,255,255,511,2047] 10 [[(10,none)],[(2,none)],[(1,none)],[(81,some 1),(82,some 2)],[(83,some 3)],[(80,some 0),(84,some 4)],[(85,some 5)],[(86,some 6)],[(79,some 7)],[(79,some 7)]] [(9,88),(8,87),(7,79),(6,86),(5,85),(4,84),(3,83),(2,82),(1,81),(0,80)] hh mixed Yq eI rfl (by repeat (first|exact cz|refine bR ?_|refine cG ?_)) ?_;refine dK 1 [_,_] ?_;refine gI ?_;refine dJ ?_;refine np (j) ?_;refine pW [_,_] (fun _ hj=>(hlr.ext hj.hp.below).recAt PX.len hqj) ?_;refine a7 (i:=5) (lY 2 2 (aA PX.cells [⟨ov,oA,on,oc,os⟩,q])) (lY.ext) ?_ ?_
        ·intro ρ1 w1 hj hR;exact lW (sz:=2) bG.out aJ.out (show BR ρ1 [(0,.tmp 80),(1,.tmp 84)]=[(0,.agg #[.int .i64 ov,.slice oA on oc]),(1,.agg #[.int .i64 q.v,.slice q.A q.n q.c])] from bQ (show ρ1 80=_ from hR.1) (bQ (show ρ1 84=_ from hR.2.1) dN)) rfl rfl Yp Yp rfl fun v w2 h hb=>⟨hb,h⟩
        refine a7 (i:=6) (nV hh.sz (iD os q.ts) ov (aU (dD os q.ts))) (nV.ext) ?_ ?_
        ·intro ρ1 w1 hj hR;obtain ⟨g85,e85,o85⟩:=hR.1;exact let ⟨b,e1,s1⟩:=hR.1;bV rfl (bf au.out (aC e1 bh)) (hmu _ w1 (hT.hp hj.hp) s1 (hj.hp.az (i:=2) rfl) hj.hp.below) (fun _ _ ⟨g,og,hq,h3⟩=>⟨_,hq,h3.below,g,w1,rfl,og,hj.bl.size,h3⟩)
        refine a7 (i:=7) (nV hh.sz (iD os q.ts) ov (aU (dD os q.ts))) (nV.ext) ?_ ?_
        ·exact Ny
        refine a7 (i:=8) (qL hh.sz (iD os q.ts) ov (aU (dD os q.ts))) (qL.ext) ?_ ?_
        ·exact R4
        refine a7 (i:=9) (Is (.int .i64 (iD os q.ts))) (Is.ext) ?_ ?_
        ·exact Sa
        refine aH ?_;intro f W hJ hV _;have hb_15:=hJ.bl;obtain ⟨v88,v87,v79,v86,v85,v84,v83,v82,v81,v80,_⟩:=hV;obtain ⟨g85,e85,o85⟩:lY 2 2 (aA PX.cells [⟨ov,oA,on,oc,os⟩,q]) (f 5) W:=v85;obtain ⟨g86,u86,e86, -⟩:=v86;obtain ⟨g79,u79,e79, -⟩:=v79;obtain ⟨g87,u87,e87,o87,q87,h87⟩:=v87;replace hh:=JJ.Pw hJ hh q87 h87;refine aN (a6 (ae v88 (ae e87 (ae e79 (ae e86 (ae e85 (ae v84 (ae v83 (ae v82 (ae v81 (ae v80 aO))))))))))) ?_;dsimp only [bP];clear e85 e86 e79 e87 hJ;simp only [YB,Yz] at hh;obtain ⟨gv,gA,gn,gc,gts⟩:=g87;replace hh:=show Hp w (.row gA gn gc 95 4 (aA TR.cells gts)::_) W from hh;by_cases hte:iD os q.ts=0
        ·rw [Yu (by rw [hte];decide)] at hnx;rw [hte] at o87;obtain rfl:ov=gv:=o87.v.symm;obtain rfl:aU (dD os q.ts)=gts:=o87.ts.symm;have hgc:gn≤gc:=hh.gG (i:=0) rfl;have hgl:(aU (dD os q.ts)).length=gn:=(hh.az (i:=0) rfl).bk TR.len Yp;have hgo:=Iw hop hqk hqT hte Yo;refine bg hh 2 [_,_] ?_;intro ws hh;replace hh:Hp _ (_::_::.blk _ _ [_,_] _::_) _:=hh;refine aI (aa (sr (mI ?_)));refine cH (aa (cT (ak (mL (mI (mI ?_))))));dsimp only at hh;refine aV rfl rfl Yp (jn (lo:=some (.tmp 93)) (hi:=some (.tmp 94)) (l:=fr) (h:=en) bG.out aJ.size rfl ⟨_,_,rfl,rfl⟩ ⟨_,_,rfl,rfl⟩ hfr Yo) ?_;refine mI ?_;refine a8 (mL (mI ?_));refine ay (hrec m fr en _ (hT.hp hh) hh.below hfr hen hwi) au.out rfl Yp ?_;rintro e_ w100 ⟨g2,og2,rfl,h4⟩;refine ⟨_,rfl, ?_⟩;replace hh:=hh.join h4;simp only [YB,Yz] at hh;have hs2:=hsub m;obtain ⟨hv2,hA2,hn2,hc2,ht2⟩:=g2;replace hh:=show Hp w (.row hA2 hn2 hc2 95 4 (aA TR.cells ht2)::_) _ from hh;by_cases hE2:(sub (cZ p j m)).1=0
         ·rw [Yu (by rw [hE2];decide)] at hnx;rw [hE2] at og2;obtain rfl:ov=hv2:=og2.v.symm;obtain rfl:(sub (cZ p j m)).2=ht2:=og2.ts.symm;have ho2:=hs2 hE2;have hc2c:hn2≤hc2:=hh.gG (i:=0) rfl;have hl2:((sub (cZ p j m)).2).length=hn2:=(hh.az (i:=0) rfl).bk TR.len Yp;generalize (sub (cZ p j m)).2=us at*;refine mT ?_;refine cx ?_;refine cx ?_;refine bg hh 2 [_,_] ?_;intro ws hh;replace hh:Hp _ (_::_::.blk _ _ [_,_] _::_) _:=hh;refine aI (aa (ah (sr (mI ?_))));refine cH (aa (cT (ak ?_)));refine bJ hh 3 [_,_] ?_;refine bJ hh 2 [_,_] ?_;refine y6 ?_;intro b108 w108 hh;dsimp only at hh;have hlp2:iZ [⟨ov,gA,gn,gc,aU (dD os q.ts)⟩,⟨ov,hA2,hn2,hc2,us⟩]=0:=vG hgo.e ho2.e rfl;have had:=xy (some ⟨b108,0,none⟩) 2 2 [⟨ov,gA,gn,gc,aU (dD os q.ts)⟩,⟨ov,hA2,hn2,hc2,us⟩] 2000000 _ (hT.hp hh) (hh.az (i:=0) rfl) Yp (fun g hg=>by
           rcases YH.1 hg with rfl|hg
           ·exact hh.az (i:=2) rfl
           ·rw [YT.1 hg];exact hh.az (i:=1) rfl) (fun g hg=>by
           rcases YH.1 hg with rfl|hg
           ·exact ⟨by have:=hgo.len;show gn≤1000000;omega,hgc,hgo.ok.mono Yo,hgo.sz⟩
           ·rw [YT.1 hg];exact ⟨by have:=ho2.len;show hn2≤1000000;omega,hc2c,ho2.ok.mono Yo,ho2.sz⟩) Yp
          unfold K1 at had;rw [Yt hlp2,RU] at had;dsimp only at had;refine ay (had) au.out rfl Yp ?_;rintro e_ w109 ⟨g3,og3,rfl,h5⟩;refine ⟨_,rfl, ?_⟩;replace hh:=hh.join h5;simp only [YB,Yz] at hh;obtain ⟨hv3,hA3,hn3,hc3,ht3⟩:=g3;replace hh:=show Hp w (.row hA3 hn3 hc3 95 4 (aA TR.cells ht3)::_) _ from hh;refine mT ?_;refine cx ?_;refine cx ?_;refine bg hh 5 [_,_] ?_;intro ws hh;replace hh:Hp _ (_::_::_::_::_::.blk _ _ [_,_] _::_) _:=hh;refine aI (aa (ak (mI (aI (aD (bz (ai (ak (mI ?_)))))))));refine ee (aI (aD (ai ?_)));replace hh:=hh.sub (Yv _ (Yw _ (Yw _ (Yw _ (Yw _ (Yv _ (Yw _ (Yv _ YR))))))));replace hh:=hh.perm (Zp (l₁:=[_]));simp only [YB,Yz] at hh;try dsimp only at hh
          refine ⟨⟨i+1,fr,iP (aU (dD os q.ts)++us),hv3,hA3,hn3,hc3,ht3,Yo,by rw [hmi2];rfl,rfl,rfl, ?_,Yo,fun h=>⟨?_, ?_,fun t ht=>by rw [←hmi];exact hbl t ht,fun t ht=>by rw [←hmi];exact hdf t ht⟩,hh⟩,by show ((m:Int)-1+1).toNat<((m:Int)+1).toNat;omega, ?_⟩
          ·rw [hnx];by_cases hg:iP (aU (dD os q.ts)++us)≠0
           ·rw [Yt hg]
           ·rw [Yu hg];omega
          ·have:=og3.v;rw [Yt h] at this;exact this
          ·rw [hnx,Yu (by rw [h];decide)];have:=og3.ts;rw [Yt h] at this;exact this
          ·exact er
         ·rw [Yt hE2] at hnx;refine mT ?_;refine cx ?_;refine cx ?_;refine bg hh 2 [_,_] ?_;intro ws hh;replace hh:Hp _ (_::_::.blk _ _ [_,_] _::_) _:=hh;refine aI (aa (ah (sr (mI ?_))));refine cH (aa (cF (aq (ai (ak (mI (aI (aD (bz (ai (ak (mI ?_))))))))))));refine ee (aI (aD (ai ?_)));replace hh:=hh.sub (Yw _ (Yv _ (Yw _ (Yv _ (Yw _ (Yv _ YR))))));replace hh:=hh.perm (Zp (l₁:=[_]));simp only [YB,Yz] at hh;refine ⟨⟨i+1,fr,_,ov,gA,gn,gc,aU (dD os q.ts),Yo,by rw [hmi2];rfl,rfl,rfl,by rw [hnx],Yo,fun h=>absurd h hE2,hh⟩,by show ((m:Int)-1+1).toNat<((m:Int)+1).toNat;omega, ?_⟩;exact er
        ·rw [Yt hte] at hnx;refine bg hh 2 [_,_] ?_;intro ws hh;replace hh:Hp _ (_::_::.blk _ _ [_,_] _::_) _:=hh;refine aI (aa (sr (mI ?_)));refine cH (aa (cF (aq (ai (ah (sr (mI ?_)))))));refine cH (aa (cF (aq (ai (ak (mI (aI (aD (bz (ai (ak (mI ?_))))))))))));refine ee (aI (aD (ai ?_)));replace hh:=hh.sub (Yv _ (Yw _ (Yv _ (Yw _ (Yv _ YR)))));replace hh:=hh.perm (Zp (l₁:=[_]));simp only [YB,Yz] at hh;refine ⟨⟨i+1,fr,iD os q.ts,gv,gA,gn,gc,gts,Yo,by rw [hmi2];rfl,rfl,rfl,by rw [hnx],Yo,fun h=>absurd h hte,hh⟩,by show ((m:Int)-1+1).toNat<((m:Int)+1).toNat;omega, ?_⟩;exact er
    ·have hfin:dE q.ts sub p j 128=dE q.ts sub p j i:=by
      by_cases h8:i=128
      ·rw [h8]
      ·exact sU Yo hi
     rw [hfin];by_cases he0:e=0
     ·subst he0;obtain ⟨rfl,rfl, -, -⟩:=hok0 rfl;clear hok0 hfin;generalize dE q.ts sub p j i=X at*;obtain rfl:i=128:=Yo;rw [←he];refine ah (sr (mI ?_));refine dF (mB ?_);refine gS (gS ?_);refine fK ?_;refine aa (cF (aX (aE (aE (bA (ai (ah (sr (mI ?_)))))))));refine qY ?_;refine bJ hh 0 [_,_] ?_;refine bg hh 2 [_,_] ?_;intro ws hh;replace hh:Hp _ (_::_::.blk _ _ [_,_] _::_) _:=hh;refine aI (aa (av ?_));refine pJ ?_;exact ⟨⟨ov,oA,on,oc,_⟩,⟨rfl,rfl⟩,rfl,hh.sub (.cons _ (Yv _ (Zx _)))⟩
     ·rw [←he];clear hok0 hfin;generalize dE q.ts sub p j i=X at*;by_cases h8:i=128
      ·subst h8;refine ah (sr (mI ?_));refine dF (mB ?_);refine gS (gS ?_);refine fK ?_;exact Vg
      ·refine ah (sr (mI ?_));refine dF (mB (gT (mI (gT ?_))));refine cH ?_;refine gi ?_;exact Vg
def jI (p:PX) (ls:List PX):Int×List TR:=
 if p.e≠0 then (p.e,[]) else if (ls.length:Int)≠p.v then (1,[]) else if ls.length≠0∧iZ ls≠0 then (iZ ls,[]) else ku (iW ls) (ls.map PX.ts) 0 p.ts
theorem FO (f:PX) (p:Addr) (x:Int) (w:World) (hp:w.cell? p=some (.int .i64 x)):
  Calls Tryz.prog 226 #[.agg #[.int .i64 f.v,.slice f.A f.n f.c],.pointer (some p)] w fun r w'=>r=.returned (.bool (decide (f.v≠x)))∧Below w.heap.size w w':=by
 have hh:=Hp.start w;by_cases hg:f.v=x
 ·refine aj (N:=8) (l:=[.agg #[.int .i64 f.v,.slice f.A f.n f.c],.pointer (some p)]) Tryz.func226 rfl rfl (by simp) ?_;refine sr ?_;refine bO hh [_,_] ?_;intro b2 w2 hh;refine aB (aa (sr (bo ?_)));refine bp hh 0 ?_;refine tE ?_;exact Uu
 ·refine aj (N:=8) (l:=[.agg #[.int .i64 f.v,.slice f.A f.n f.c],.pointer (some p)]) Tryz.func226 rfl rfl (by simp) ?_;refine sr ?_;refine bO hh [_,_] ?_;intro b2 w2 hh;refine aB (aa (sr (bo ?_)));refine bp hh 0 ?_;refine tE ?_;exact TV
structure XF (p:PX) (ls:List PX) (k K T c0:Nat) (ds:List Nat):Prop where
 len:ds.length=ls.length
 WY:∀(i d:Nat),ds[i]?=some d→d≤127∧∀t∈p.ts,lL i t≤d
 grow:jA c0 ds (k+1)≤440000
 step:K+4096*T+8192≤c0
 top:c0≤440000
 jX:∀g∈ls,g.jX K
 Wy:∀g∈ls,g.ts.length≤T
theorem N6 {v:Int} (h:l0 v ts=0):Mn v 0 ts:=by
 obtain ⟨_,_,h3,h4⟩:=fa h;exact ⟨h4.uf,h3,fun a _ b _=>by rw [Z7,Z7]⟩
theorem Av (p:PX) (lA:Option Addr) (lc:Nat) (ls:List PX) (k K T c0:Nat) (ds:List Nat) (w:World) (hT:dP w) (hp:p.at_ w) (lp:p.jX k) (hL:Sl w lA ls.length 2 (aA PX.cells ls)) (hat:∀g∈ls,g.at_ w) (hlc:ls.length≤lc) (hf:XF p ls k K T c0 ds):
  Calls Tryz.prog 193 #[.agg #[.int .i64 p.v,.slice p.A p.n p.c],.slice lA ls.length lc] w fun r w'=>∃g:PX,iy (jI p ls).1 (iW ls) (jI p ls).2 g∧r=.returned (.tuple #[.agg #[.int .i64 g.v,.slice g.A g.n g.c],.int .i64 (jI p ls).1])∧Hp w [g.row] w':=by
 have hh:=Hp.start w;have hck:=fun w1 hT1 hb=>oV p k w1 hT1 (hp.ext hb) lp;unfold jI;by_cases h0:p.e≠0
 ·rw [Yt h0];generalize p.e=e at*;refine aj (N:=54) (l:=[.agg #[.int .i64 p.v,.slice p.A p.n p.c],.slice lA ls.length lc]) Tryz.func193 rfl rfl (by simp) ?_;refine sr ?_;refine bO hh [_,_] ?_;intro b2 w2 hh;refine bC hh ?_;intro b4 w4 hh;refine aI (aa (ah (sr ?_)));refine bJ hh 1 [_,_] ?_;refine fS ?_;intro w12 hh;exact Ql
 ·rw [Yu h0];have hpe:p.e=0:=Yo;rw [hpe] at hck;by_cases h1:(ls.length:Int)≠p.v
  ·rw [Yt h1];refine aj (N:=54) (l:=[.agg #[.int .i64 p.v,.slice p.A p.n p.c],.slice lA ls.length lc]) Tryz.func193 rfl rfl (by simp) ?_;refine sr ?_;refine bO hh [_,_] ?_;intro b2 w2 hh;refine bC hh ?_;intro b4 w4 hh;refine aI (aa (ah (sr ?_)));refine bJ hh 1 [_,_] ?_;refine fS ?_;intro w12 hh;refine aI (aa (sr (mI ?_)));refine tr ?_;refine bp hh 1 ?_;refine dn (aa (cT (sr ?_)));exact QV
  ·rw [Yu h1];obtain ⟨hfw,h4,hmy,hca⟩:=fa hpe;replace hfw:=jb.1 hfw;have hl12:ls.length≤12:=Yo;have hpl:=hp.ln;have hsr:=N6 hpe;have hput:=fun (v:Int) (hv:jW v=true) (hz:∀g∈ls,l0 v g.ts=0) (hvv:∀g∈ls,g.v=v) w1 hT1 hb=>Gw lA lc K T c0 v ls hv hlc hl12 (fun g hg=>⟨⟨hz g hg,(hf.jX g hg).ok,(hf.jX g hg).sz⟩,hvv g hg,hf.jX g hg,hf.Wy g hg⟩) hf.step hf.top ls 0 p.ts p.A p.n p.c ds k w1 rfl (Yx _) hT1 (hL.ext hb) (fun g hg=>(hat g hg).ext hb) (hp.ext hb) lp.cap (by rw [show ((ls.length:Nat):Int)=p.v by omega];exact hsr) lp.ok Yo hf.len (fun i d h=>by rw [YZ];exact hf.WY i d h) hf.grow;by_cases hn:ls=[]
   ·subst hn;rw [Yu (fun h=>h.1 rfl)];have hpu:=hput 0 rfl (fun g hg=>by cases hg) (fun g hg=>by cases hg);refine aj (N:=54) (l:=[.agg #[.int .i64 p.v,.slice p.A p.n p.c],.slice lA 0 lc]) Tryz.func193 rfl rfl (by simp) ?_;refine sr ?_;refine bO hh [_,_] ?_;intro b2 w2 hh;refine bC hh ?_;intro b4 w4 hh;refine aI (aa (ah (sr ?_)));refine bJ hh 1 [_,_] ?_;refine fS ?_;intro w12 hh;refine aI (aa (sr (mI ?_)));refine tr ?_;refine bp hh 1 ?_;refine qY ?_;refine bC hh ?_;intro b7 w7 hh;refine bg hh 0 [_] ?_;intro ws hh;replace hh:Hp _ (.blk _ _ [_] _::_) _:=hh;refine aa (ah (sr (mL (aM ?_))));refine bT (aa (cF (aq (ai (sr (bo ?_))))));refine bp hh 2 ?_;refine mL ?_;refine bp hh 0 ?_;replace hh:=show Hp w (.blk b7 3 [.int .i64 0] (0,0)::_) _ from hh;exact SN
   ·have hlp0:0<ls.length:=List.length_pos_iff.2 hn;obtain ⟨lad,rfl,hlr⟩:=hL.at_ hlp0;refine aj (N:=54) (l:=[.agg #[.int .i64 p.v,.slice p.A p.n p.c],.slice (some lad) ls.length lc]) Tryz.func193 rfl rfl (by simp) ?_;refine sr ?_;refine bO hh [_,_] ?_;intro b2 w2 hh;refine bC hh ?_;intro b4 w4 hh;refine aI (aa (ah (sr ?_)));refine bJ hh 1 [_,_] ?_;refine fS ?_;intro w12 hh;refine aI (aa (sr (mI ?_)));refine tr ?_;refine bp hh 1 ?_;refine qY ?_;refine bC hh ?_;intro b7 w7 hh;refine bg hh 0 [_] ?_;intro ws hh;replace hh:Hp _ (.blk _ _ [_] _::_) _:=hh;refine aa (ah (sr (mL (aM ?_))));refine bT (aa (cT (ah (sr (mL (aM (mI (aa (ar ?_)))))))));replace hh:=show Hp w (.blk b7 3 [.int .i64 0] (0,0)::_) _ from hh;refine aT [5,9,10,28,29,30,31,32,33,34,35,36,37,38] 28
     (fun v w'=>∃i:Nat,i≤ls.length∧v=.int .i64 i∧(ls.take i).any (fun g=>decide (g.e≠0))=false∧Hp w [.blk b7 3 [.int .i64 0] (0,0),.blk b4 52 [.int .i64 0,.slice none 0 0] (0,0),.blk b2 52 [.int .i64 p.v,.slice p.A p.n p.c] (0,0)] w')
     (fun v _=>ls.length-(intOf v).toNat) ?_ ?_
    ·exact ⟨0,Yx _,rfl,rfl,hh⟩
    ·clear hh;rintro ρ' v w' ⟨i,hi,rfl,hall,hh⟩;by_cases hlt:i<ls.length
     ·obtain ⟨g,hx⟩:=ao (l:=ls) (k:=i) hlt;have hmem:=Yy hx;have hc:=fun w1 hT1 hb=>oV g K w1 hT1 ((hat g hmem).ext hb) (hf.jX g hmem);by_cases he:g.e=0
      ·refine sr ?_;refine dI ?_;refine bZ ?_;refine cg (vs:=[_,_]) aJ.out rfl ((hlr.ext hh.below).recAt PX.len hx) rfl Yp ?_;refine bC hh ?_;intro b9 w9 hh;refine bg hh 0 [_,_] ?_;intro ws hh;replace hh:Hp _ (.blk _ _ [_,_] _::_) _:=hh;refine aa (sr ?_);refine bJ hh 0 [_,_] ?_;refine yh ?_;intro w33 hh;refine aI (aa (sr (mI ?_)));refine dn (aa (cF (aq (bz (ai (ak ?_))))));refine a8 (mI (aD (ai ?_)));replace hh:=hh.sub (Yw _ (Yv _ (Yv _ (Yv _ YR))));refine ⟨⟨i+1,Yo,rfl,by rw [aw hx,aaU,hall,aa0,aa3,YS Yo];rfl,hh⟩,by show ls.length-(i+1)<ls.length-i;omega, ?_⟩;exact er
      ·have hlk:iZ ls=g.e:=by unfold iZ;rw [r6 hall hx (YN he)]
       rw [Yt ⟨Yo,by rw [hlk];exact he⟩,hlk];refine sr ?_;refine dI ?_;refine bZ ?_;refine cg (vs:=[_,_]) aJ.out rfl ((hlr.ext hh.below).recAt PX.len hx) rfl Yp ?_;refine bC hh ?_;intro b9 w9 hh;refine bg hh 0 [_,_] ?_;intro ws hh;replace hh:Hp _ (.blk _ _ [_,_] _::_) _:=hh;refine aa (sr ?_);refine bJ hh 0 [_,_] ?_;refine yh ?_;intro w33 hh;refine aI (aa (sr (mI ?_)));refine dn (aa (cT (sr ?_)));refine fe [_,_] (mI ?_);refine bg hh 2 [_,_] ?_;intro ws hh;replace hh:Hp _ (_::_::.blk _ _ [_,_] _::_) _:=hh;refine aI (aa (av (bU (aF (aF (bU (aF (aF ?_))))))));refine pJ ?_;exact N2
     ·rw [YC Yo] at hall;have hlk:iZ ls=if ls.length=0∨Al ls=true then 1 else 0:=by unfold iZ;rw [j6 hall]
      obtain ⟨g0,h00⟩:=ao (l:=ls) (k:=0) hlp0;have hhv:iW ls=g0.v:=by
       cases ls with
       |nil=>cases hlp0
       |cons x l=>cases h00;rfl
      have hall0:∀g∈ls,g.e=0:=fun g hg=>by
       have:=aab.1 hall g hg;simpa using this
      refine sr ?_;refine oF ?_;refine zz ?_;refine tk ?_;refine bY aJ.out rfl (((hlr.ext hh.below).recAt PX.len h00).cell (i:=0) rfl) Yp ?_;refine bg hh 0 [_] ?_;intro ws hh;replace hh:Hp _ (.blk _ _ [_] _::_) _:=hh;refine aa (sr (mL ?_));refine vP ?_;replace hh:=show Hp w (.blk b7 3 [.int .i64 g0.v] (0,0)::_) _ from hh;rw [←hhv] at hh;have hcell:World.cell? _ ⟨b7,0,none⟩=some (.int .i64 (iW ls)):=hh.dk (i:=0) rfl rfl;have hoa:=fun w1 hb=>wT (some lad) ls.length lc ls 226 [.pointer (some ⟨b7,0,none⟩)] (fun g=>decide (g.v≠iW ls)) w1 (hL.ext (hh.below.trans (hb.mono hh.below.size))) Yo (fun z w2 hz hb2=>FO z ⟨b7,0,none⟩ (iW ls) w2 (cn hb2 (cn hb hcell)))
      cases hod:Al ls with
      |true=>
       have hod2:ls.any (fun g=>decide (g.v≠iW ls))=true:=hod;rw [hod2] at hoa;have hl1:iZ ls=1:=by rw [hlk,Yt (.inr hod)]
       rw [Yt ⟨Yo,by rw [hl1];decide⟩,hl1];refine bj hh (hoa _ (Below.refl _ _)) rfl ?_;intro w45 hh;refine aa (cT (sr ?_));refine fe [_,_] ?_;refine bg hh 1 [_,_] ?_;intro ws hh;replace hh:Hp _ (_::.blk _ _ [_,_] _::_) _:=hh;refine aI (aa (av (aF ?_)));refine IM ?_;exact TQ
      |false=>
       have hod2:ls.any (fun g=>decide (g.v≠iW ls))=false:=hod;rw [hod2] at hoa;have hl0:iZ ls=0:=by
        rw [hlk,Yu (fun h=>h.elim (fun h=>by omega) fun h=>by rw [hod] at h;cases h)]
       rw [Yu (fun h=>h.2 hl0)];have hvv:=(A5 hl0).2.2;have hg0:=hall0 g0 (Yy h00);unfold PX.e at hg0;have hpu:=hput (iW ls) (by rw [hhv];exact (fa hg0).1) (fun g hg=>by rw [←hvv g hg];exact hall0 g hg) hvv;refine bj hh (hoa _ (Below.refl _ _)) rfl ?_;intro w45 hh;refine qX ?_;refine bp hh 2 ?_;refine mL ?_;refine bp hh 0 ?_;exact SN
theorem PW {o p:PX}{os ls:List PX} (hv:o.v=p.v) (ht:o.ts=p.ts) (h:os.map PX.norm=ls.map PX.norm):jI o os=jI p ls∧iW os=iW ls:=by
 have h1:iZ os=iZ ls:=by rw [←yD,h,yD]
 have h2:iW os=iW ls:=by rw [←xo,h,xo]
 have h3:os.length=ls.length:=by have:=Ze List.length h;rwa [YI,YI] at this
 have h4:os.map PX.ts=ls.map PX.ts:=by
  have:=Ze (List.map PX.ts) h;rw [Zs,Zs] at this;exact this
 refine ⟨?_,h2⟩;unfold jI PX.e;rw [hv,ht,h1,h2,h3,h4]
theorem qj {v:Int} (hv:jW v=true) (hm:∀t∈l,iu v t=true) (ho:kx k l) (hz:∀t∈l,t.m.size≤100000) (hl:l.length≤n) (hn:n≤4096) (hk:k+n≤3999990):mq v (k+n) (aU l):=
 ⟨lO hv (Y1 (dX _) Yo) hm,wW ho Yo Yo,vd hz⟩
def GF (v i:Nat):List TR:=aU [⟨pg v i,nR ((1:Int):Dyadic)⟩]
def xU (v:Nat) (x:Dyadic):List TR:=aU [⟨iA v,nR x⟩]
def xE (v i:Nat) (x:Dyadic):List TR:=aU ((GF v i).map (vm x))
def kv (v i:Nat) (s:SR):List TR:=aU (xU v s.L++xE v i (s.H-s.L))
def df (b:List SR):List PX:=b.mapIdx fun i s=>⟨b.length,none,0,0,kv b.length i s⟩
theorem na {v:Nat} (h:v≤12):jW (v:Int)=true:=jb.2 ⟨Yo,Yo⟩
theorem G0 {v i:Nat} (h:v≤12):mq (v:Int) 3 (GF v i):=by
 have hs:((pg v i).size:Int)=v:=sP Yo;refine qj (k:=2) (n:=1) (na h) (fun t ht=> ?_) (fun t ht=> ?_) (fun t ht=> ?_) (YA _) Yp Yp
 ·rw [YT.1 ht];unfold iu;rw [YP,YX];exact ⟨DW v i,hs⟩
 ·rw [YT.1 ht];exact ⟨Sz.one.ok Yp,by show Sz 2 (nR _).d;rw [bL];exact Sz.one.mono Yp⟩
 ·rw [YT.1 ht];show (pg v i).size≤100000;omega
theorem I8 {v:Nat}{x:Dyadic} (h:v≤12) (hx:Sz k x) (hk:k≤900000):mq (v:Int) (k+1) (xU v x):=zY (na h) (by show Sz k (nR x).d;rw [bL];exact hx) hk
theorem H5 {v i:Nat}{x:Dyadic} (h:v≤12) (hx:Sz k x) (hk:k≤400000):mq (v:Int) (k+k+4) (xE v i x):=by
 have hv:=G0 (i:=i) h;have hl:((GF v i).map (vm x)).length≤1:=by rw [YI];exact dX _
 refine (qj (k:=3+k) (n:=1) (na h) (fun t ht=> ?_) (Hd hv.ok hx Yo) (fun t ht=> ?_) hl Yp Yo).mono (by
  by_cases h0:k=0
  ·omega
  ·omega)
 ·obtain ⟨s,hs,rfl⟩:=YF.1 ht;exact (fa hv.e).2.2.1 s hs
 ·obtain ⟨s,hs,rfl⟩:=YF.1 ht;exact hv.sz s hs
theorem su {v i:Nat}{s:SR} (h:v≤12) (hs:s.fin k) (hk:k≤100000):mq (v:Int) (k+k+10) (kv v i s)∧(kv v i s).length≤2:=by
 have h1:=I8 h (SR.U8 hs) Yo;have h2:=H5 (i:=i) h ((SR.WB hs).sub (SR.U8 hs)) Yo;have hl:(xU v s.L++xE v i (s.H-s.L)).length≤2:=by
  rw [YE];have a1:(xU v s.L).length≤1:=dX _;have a2:(xE v i (s.H-s.L)).length≤1:=Y1 (dX _) (by rw [YI];exact dX _);omega
 have hm:∀{P:TR→Prop},(∀t∈xU v s.L,P t)→(∀t∈xE v i (s.H-s.L),P t)→∀t∈xU v s.L++xE v i (s.H-s.L),P t:=fun a b t ht=>(Zm.1 ht).elim (a t) (b t);refine ⟨(qj (k:=k+1+(k+1)+4) (n:=2) (na h) (hm (fa h1.e).2.2.1 (fa h2.e).2.2.1) (hm (h1.ok.mono Yo) h2.ok) (hm h1.sz h2.sz) hl Yp Yo).mono Yo,Y1 (dX _) hl⟩
theorem kR {b:List SR}{i:Nat}{s:SR} (h:b[i]?=some s):(df b)[i]?=some ⟨b.length,none,0,0,kv b.length i s⟩:=by
 unfold df;rw [List.getElem?_mapIdx,h]
 rfl
theorem pL (b:List SR):(df b).length=b.length:=by unfold df;rw [List.length_mapIdx]
theorem E8 {b:List SR}{g:PX} (h:g∈df b):∃i s,b[i]?=some s∧g=⟨b.length,none,0,0,kv b.length i s⟩:=by
 obtain ⟨i,hi⟩:=ZU.1 h;obtain ⟨s,hs⟩:=ao (l:=b) (k:=i) (by have:=(YL.1 hi).1;rwa [pL] at this);rw [kR hs] at hi;exact ⟨i,s,hs,(Zg hi).symm⟩
theorem Vi {i:Nat} (h:n≤12) (hi:i<n):uV n i=0:=Yu (by rw [na h];rintro (a|a|a)<;>first|cases a|omega)
theorem Vw (h:n≤12):Ct n=0:=Yu (by rw [na h];decide)
theorem AJ (p:PX) (L:Option Addr) (n c:Nat) (b:List SR) (k:Nat) (ds:List Nat) (w:World) (hT:dP w) (hp:p.at_ w) (lp:p.jX k) (hB:Sl w L n 6 (aA SR.cells b)) (hb:∀s∈b,s.fin k) (hv:p.v=n) (hn0:0<n) (hn:n≤12) (hk:k≤1000)
  (hds:ds.length=n) (hex:∀(i d:Nat),ds[i]?=some d→d≤127∧∀t∈p.ts,lL i t≤d) (hgr:jA (k+k+16394) ds (k+1)≤440000):
  Calls Tryz.prog 152 #[.agg #[.int .i64 p.v,.slice p.A p.n p.c],.slice L n c] w fun r w'=>∃g:PX,iy (jI p (df b)).1 n (jI p (df b)).2 g∧r=.returned (.tuple #[.agg #[.int .i64 g.v,.slice g.A g.n g.c],.int .i64 (jI p (df b)).1])∧Hp w [g.row] w':=by
 have hh:=Hp.start w;have hbl:b.length=n:=hB.bk SR.len Yp;have hok:∀s∈b,s.ok:=fun s hs=>⟨(hb s hs).1.ok,(hb s hs).2.ok⟩;have hfo:=fun w1 hT1 hb1=>lu L n c b w1 hT1 (hB.ext hb1) hok Yo;have hhv:iW (df b)=n:=by
  obtain ⟨s,hs⟩:=ao (l:=b) (k:=0) Yo;rw [rM (kR hs),hbl]
 refine aj (N:=67) (l:=[.agg #[.int .i64 p.v,.slice p.A p.n p.c],.slice L n c]) Tryz.func152 rfl rfl (by simp) ?_;refine sr ?_;refine bO hh [_,_] ?_;intro b2 w2 hh;refine bC hh ?_;intro b4 w4 hh;refine aI (aa (sr (aL (aa (ah (sr (mL ?_)))))));refine ay (hfo _ (hT.hp hh) hh.below) au.out rfl Yp ?_;rintro e_ w18 ⟨A18,c18,rfl,hown_,hb_⟩;refine ⟨_,rfl, ?_⟩;replace hh:=hh.aP (x:=.row _ _ _ _ _ _) hb_ hown_;refine aM (mI (aa (ar ?_)));replace hh:=hh.dm 52 2;refine bH [6,7,8,9,10,11,12,13,14,15,16,20,21,22,23,24,25,26,27,28,29,30,31,32,33,34,35,36,37,38,39,40,41,42,43,44,45,46,47,48,49,50,51,52,53,54,55,56,57,58,59,60,61] 6 20
  (fun a v w'=>∃(i c3:Nat) (A:Option Addr) (os:List PX) (R:List HE),i≤n∧v=.int .i64 i∧a=.slice A i c3∧os.length=i∧KF ((df b).map fun g=>⟨g.v,none,g.ts.length,0,g.ts⟩) os R∧Hp w (.row A i c3 52 2 (aA PX.cells os)::.row A18 n c18 35 6 (aA SR.cells (b.map SR.f))::.blk b4 52 [.int .i64 0,.slice none 0 0] (0,0)::.blk b2 52 [.int .i64 p.v,.slice p.A p.n p.c] (0,0)::R) w')
  (fun _ v _=>n-(intOf v).toNat) ?_ ?_
 ·exact ⟨0,0,none,[],[],Yx _,rfl,rfl,rfl,⟨fun j g o _ h=>(nomatch h),fun o h=>(nomatch h)⟩,hh⟩
 ·clear hh;rintro ρ' a_ v w' ⟨i,c3,A,os,R,hi,rfl,rfl,hol,hcp,hh⟩;by_cases hlt:i<n
  ·obtain ⟨s,hs⟩:=ao (l:=b) (k:=i) Yo;have hsf:=hb s (Yy hs);have hsn:(b.map SR.f)[i]?=some s.f:=by rw [YJ,hs];rfl
   have zL:=SR.U8 hsf;have zH:=SR.WB hsf;have zW:=zH.sub zL;obtain ⟨po,pl⟩:=su (v:=n) (i:=i) hn hsf Yo;have vo:=G0 (i:=i) hn;have fo:=H5 (i:=i) hn zW Yo;have co:=I8 hn zL Yo;have hva:=fun w1 hT1=>Gh (n:Int) (i:Int) w1 hT1;rw [Vi hn hlt] at hva;have hsu:=fun w1 hT1=>nc (nR s.H) (nR s.L) w1 hT1 (zH.ok Yo) (zL.ok Yo) k (by rw [bL];exact zH) (by rw [bL];exact zL) Yo;rw [bL,bL] at hsu;have hcn:=fun w1 hT1=>mY (n:Int) (nR s.L) k w1 hT1 ⟨zL.ok Yo,by rw [bL];exact zL⟩ Yo;rw [Vw hn] at hcn;rw [ZY] at hva;have hV:aU [⟨pg n i,nR ((1:Int):Dyadic)⟩]=GF n i:=rfl;have hC:aU [⟨iA n,nR s.L⟩]=xU n s.L:=rfl;have hF:aU ((GF n i).map (vm (s.H-s.L)))=xE n i (s.H-s.L):=rfl;have hP:aU (xU n s.L++xE n i (s.H-s.L))=kv n i s:=rfl;have tl1:(GF n i).length≤1:=dX _;have ul1:(xU n s.L).length≤1:=dX _;have fl1:(xE n i (s.H-s.L)).length≤1:=Y1 (dX _) (by rw [YI];exact dX _);have hps:=kR hs;rw [hbl] at hps;rw [hV] at hva;rw [hC] at hcn;clear hV hC;generalize GF n i=VL at*;generalize xU n s.L=CL at*;generalize xE n i (s.H-s.L)=FL at*;generalize kv n i s=PL at*
   obtain ⟨gf,rfl⟩:=hh.cq (i:=1) rfl Yo;refine sr ?_;refine dY ?_;refine il ?_;refine cg (vs:=[_,_,_,_,_,_]) aJ.out rfl (hh.dT (f:=SR.cells) (x:=s.f) (l:=b.map SR.f) (i:=1) rfl SR.len Yp hsn) rfl Yp ?_;refine bC hh ?_;intro b8 w8 hh;refine aI ?_;refine bg hh 0 [_,_,_,_,_,_] ?_;intro ws hh;replace hh:Hp _ (.blk _ _ [_,_,_,_,_,_] _::_) _:=hh;refine aa (sr (mL (aM (mI ?_))));replace hh:=show Hp w (.blk b8 35 [.bool (nR s.L).neg,.string (nR s.L).aY,.int .i64 (nR s.L).e,.bool (nR s.H).neg,.string (nR s.H).aY,.int .i64 (nR s.H).e] (0,0)::_) _ from hh;refine ay (hva _ (hT.hp hh)) au.out rfl Yp ?_;rintro e_ w29 ⟨t,ot,rfl,h4⟩;refine ⟨_,rfl, ?_⟩;have htc:t.n≤t.c:=h4.gG (i:=0) rfl;replace hh:=hh.join h4;clear h4;simp only [YB,Yz] at hh;obtain ⟨tv,tA,tn,tc,tt⟩:=t;replace hh:=show Hp w (.row tA tn tc 95 4 (aA TR.cells tt)::_) _ from hh;have et:VL=tt:=ot.t0.symm;have ev_:tv=(n:Int):=ot.v0;subst et ev_;have tln:VL.length=tn:=(hh.az (i:=0) rfl).bk TR.len Yp
   have hsc:=fun w1 hT1 ha=>Ad ⟨n,tA,tn,tc,VL⟩ (nR (s.H-s.L)) (k+3) w1 hT1 ha ⟨by show tn≤1000000;omega,htc,vo.ok.mono Yo,vo.sz⟩ ⟨zW.ok Yo,by rw [bL];exact zW.mono Yo⟩ Yo;have hse:Lm ⟨n,tA,tn,tc,VL⟩ (s.H-s.L)=0:=by
    unfold Lm PX.e;rw [vo.e,Yt rfl];exact wo (by rw [YI];show VL.length≤4096;omega)
   rw [bL,hse] at hsc;dsimp only at hsc;rw [hF] at hsc;refine mT ?_;refine cx ?_;refine cx ?_;refine bC hh ?_;intro b9 w9 hh;refine bg hh 0 [_,_] ?_;intro ws hh;replace hh:Hp _ (.blk _ _ [_,_] _::_) _:=hh;refine aI (aa (ah ?_));refine ej [10] [9] [0,0,2,0,8,30,63,127,255,255,0,1535,4095] 11 [[(9,none)],[(8,none)],[(34,some 1)],[(8,none)],[(36,some 3)],[(35,some 2),(37,some 4)],[(33,some 0),(38,some 5)],[(39,some 6)],[(32,some 7)],[(32,some 7)],[]] [(10,11),(9,41),(8,40),(7,32),(6,39),(5,38),(4,37),(3,36),(2,35),(1,34),(0,33)] hh mixed Yq (j3 rfl aJ.out eI) rfl (by repeat (first|exact cz|refine bR ?_|refine cG ?_)) ?_;refine dK 0 [_,_] ?_;refine dR ?_;refine dK 2 [_,_,_] ?_;refine dR ?_;refine dK 2 [_,_,_] ?_;refine dC (fun _ hj=>hsu _ (hT.hp hj.hp)) ?_;refine a7 (i:=6) (nV hh.sz 0 n FL) (nV.ext) ?_ ?_
   ·intro ρ1 w1 hj hR;exact bV rfl (bf au.out (aC (show ρ1 33=Value.agg (List.toArray _) from hR.1) (aC (show ρ1 38=Value.agg (List.toArray _) from hR.2.1) bh))) (hsc w1 (hT.hp hj.hp) (hj.hp.az (i:=1) rfl)) (fun _ _ ⟨g,og,hq,h3⟩=>⟨_,hq,h3.below,g,w1,rfl,og,hj.bl.size,h3⟩)
   refine a7 (i:=7) (nV hh.sz 0 n FL) (nV.ext) ?_ ?_
   ·exact Ny
   refine a7 (i:=8) (mG hh.sz 0 n FL) (mG.ext) ?_ ?_
   ·exact R4
   refine a7 (i:=9) (Is (.int .i64 0)) (Is.ext) ?_ ?_
   ·exact Sa
   refine a7 (i:=10) (cw _ 52 _) cw.ext (fun ρ1 w1 hj hR=>iJ aJ.out hj.bl (fun v w2 h hb=>⟨hb,h⟩)) ?_;refine aH ?_;intro f W hJ hV _;have hb_6:=hJ.bl;obtain ⟨v11,v41,v40,v32,v39,v38,v37,v36,v35,v34,v33,_⟩:=hV;obtain ⟨g39,u39,e39, -⟩:=v39;obtain ⟨g32,u32,e32, -⟩:=v32;obtain ⟨g40,u40,e40,o40,q40,h40⟩:=v40;obtain ⟨b11,e11,hl11,hc11⟩:cw _ _ _ (f 10) W:=v11;replace hh:=hJ.kK hh hl11 hc11 q40 h40 (PX.ne h40 hc11 Yp);refine aN (a6 (ae e11 (ae v41 (ae e40 (ae e32 (ae e39 (ae v38 (ae v37 (ae v36 (ae v35 (ae v34 (ae v33 aO)))))))))))) ?_;dsimp only [bP];clear e39 e32 e40 e11 hJ;simp only [YB,Yz] at hh;obtain ⟨fv,fA,fn,fc,ft⟩:=g40;replace hh:=show Hp w (_::.row fA fn fc 95 4 (aA TR.cells ft)::_) W from hh;have et:FL=ft:=o40.t0.symm;have ev_:fv=(n:Int):=o40.v0;subst et ev_;have fln:FL.length=fn:=(hh.az (i:=1) rfl).bk TR.len Yp;have fcc:fn≤fc:=hh.gG (i:=1) rfl;refine bg hh 0 [_,_] ?_;intro ws hh;replace hh:Hp _ (.blk _ _ [_,_] _::_) _:=hh;refine aI (aa (sr (mL (aM (bo ?_)))));refine bJ hh 4 [_,_,_] ?_;refine ay (hcn _ (hT.hp hh)) au.out rfl Yp ?_
   rintro e_ w47 ⟨u,ou,rfl,h4⟩;refine ⟨_,rfl, ?_⟩;have huc:u.n≤u.c:=h4.gG (i:=0) rfl;replace hh:=hh.join h4;clear h4;simp only [YB,Yz] at hh;obtain ⟨uv,uA,un,uc,ut⟩:=u;replace hh:=show Hp w (.row uA un uc 95 4 (aA TR.cells ut)::_) _ from hh;have et:CL=ut:=ou.t0.symm;have ev_:uv=(n:Int):=ou.v0;subst et ev_;have uln:CL.length=un:=(hh.az (i:=0) rfl).bk TR.len Yp;refine mT ?_;refine cx ?_;refine cx ?_;refine bC hh ?_;intro b13 w13 hh;refine bg hh 0 [_,_] ?_;intro ws hh;replace hh:Hp _ (.blk _ _ [_,_] _::_) _:=hh;refine aI (aa (sr ?_));refine bJ hh 0 [_,_] ?_;refine bJ hh 2 [_,_] ?_;refine y6 ?_;intro b53 w53 hh;have hlp:iZ [⟨n,uA,un,uc,CL⟩,⟨n,fA,fn,fc,FL⟩]=0:=vG co.e fo.e rfl;have had:=fun A3 w1 hT1 hS1 s1 s2=>xy A3 2 2 [⟨n,uA,un,uc,CL⟩,⟨n,fA,fn,fc,FL⟩] (k+k+10) w1 hT1 hS1 Yp (fun g hg=>by
    rcases YH.1 hg with rfl|hg
    ·exact s1
    ·rw [YT.1 hg];exact s2) (fun g hg=>by
    rcases YH.1 hg with rfl|hg
    ·exact ⟨by show un≤1000000;omega,huc,co.ok.mono Yo,co.sz⟩
    ·rw [YT.1 hg];exact ⟨by show fn≤1000000;omega,fcc,fo.ok.mono Yo,fo.sz⟩) Yo
   unfold K1 at had;rw [Yt hlp,RU] at had;dsimp only at had;rw [hP] at had;rw [wo (l:=CL++FL) (by rw [YE];omega)] at had;refine ay (had _ _ (hT.hp hh) (hh.az (i:=0) rfl) (hh.az (i:=2) rfl) (hh.az (i:=4) rfl)) au.out rfl Yp ?_;rintro e_ w54 ⟨z,oz,rfl,h4⟩;refine ⟨_,rfl, ?_⟩;have hzc:z.n≤z.c:=h4.gG (i:=0) rfl;replace hh:=hh.join h4;clear h4;simp only [YB,Yz] at hh;replace hh:=show Hp w (.row z.A z.n z.c 95 4 (aA TR.cells z.ts)::_) _ from hh;have zln:z.ts.length=z.n:=(hh.az (i:=0) rfl).bk TR.len Yp;refine mT ?_;refine cx ?_;refine cx ?_;refine bC hh ?_;intro b15 w15 hh;refine bg hh 0 [_,_] ?_;intro ws hh;replace hh:Hp _ (.blk _ _ [_,_] _::_) _:=hh;refine aI (aa (ak (mL ?_)));refine bJ hh 0 [_,_] ?_;refine cW hh (cs:=[_,_]) bG.out aJ.out (bQ (gl rfl) dN) rfl rfl Yp Yp Yp rfl Yp ?_;intro b59 w59 hh;refine cu hh (i:=11) rfl rfl rfl (hh.az (i:=0) rfl) bG.out aJ.out rfl Yp (by first|rfl|exact ea _|exact dv _|exact bI _|exact bK NR.one _) Yo Yo Yp ?_;intro A60 c60 w60 hh;simp only [YG,Y8] at hh;replace hh:=hh.sub (Zc _ _)
   refine lE ?_;refine a8 (mI (aD (ai ?_)));replace hh:=hh.sub (Yw _ (Yv _ (Yw _ (Yw _ (Yw _ (Yw _ (Yw _ (Yw _ (Yw _ (Yw _ (Yv _ (Yv _ (Yv _ (Yv _ (Zq _)))))))))))))));replace hh:=hh.perm (Zp (l₁:=[_,_,_,_]));simp only [YB,Yz] at hh;replace hh:=hh.perm (Zp (l₁:=[_,_,_,_]));simp only [YB,Yz] at hh;replace hh:=hh.perm (Zp (l₁:=[_,_,_,_]));simp only [YB,Yz] at hh;replace hh:=hh.perm (Zp (l₁:=[_,_,_,_]));simp only [YB,Yz] at hh;have hcp2:=hcp.add (g:=⟨n,none,PL.length,0,PL⟩) (o:=z) (by rw [hol,YJ,hps];rfl) ⟨oz.v0,oz.t0,by rw [←zln,oz.t0]⟩ hzc;refine ⟨⟨i+1,c60,A60,os++[z],z.row::R,Yo,rfl,rfl,by rw [YE,hol];rfl,hcp2,by rw [bM,rA];exact hh⟩,by show n-(i+1)<n-i;omega, ?_⟩
   exact er
  ·obtain rfl:i=n:=Yo;have hol2:os.length=((df b).map fun g=>(⟨g.v,none,g.ts.length,0,g.ts⟩:PX)).length:=by rw [YI,pL];omega
   have hkey:=hcp.key hol2;rw [Zs] at hkey;replace hkey:os.map PX.norm=(df b).map PX.norm:=hkey;obtain ⟨ks,kh⟩:=PW (o:=p) (p:=p) rfl rfl hkey;have hall:∀o∈os,o.jX (k+k+10)∧o.ts.length≤2:=fun o ho=>by
    obtain ⟨j,hj⟩:=ZU.1 ho;have hjn:j<os.length:=(YL.1 hj).1;obtain ⟨s,hs⟩:=ao (l:=b) (k:=j) Yo;obtain ⟨e1,e2,e3⟩:=hcp.eq j ⟨b.length,none,(kv b.length j s).length,0,kv b.length j s⟩ o (by rw [YJ,kR hs];rfl) hj;obtain ⟨po,pl⟩:=su (v:=b.length) (i:=j) Yo (hb s (Yy hs)) Yo;replace e2:o.ts=kv b.length j s:=e2;replace e3:o.n=(kv b.length j s).length:=e3;exact ⟨⟨Yo,(hcp.my o ho).2,by rw [e2];exact po.ok,by rw [e2];exact po.sz⟩,by rw [e2];exact pl⟩
   have hfit:XF p os k (k+k+10) 2 (k+k+16394) ds:=⟨Yo,hex,hgr,Yo,Yo,fun g hg=>(hall g hg).1,fun g hg=>(hall g hg).2⟩;have hsu:=fun w1 hT1 ha hs hm hc=>Av p A c3 os k (k+k+10) 2 (k+k+16394) ds w1 hT1 ha lp hs hm hc hfit;rw [ks,kh,hhv,hol] at hsu;generalize (jI p (df b)).1=E at*;generalize (jI p (df b)).2=S at*;refine sr ?_;refine nj ?_;refine bJ hh 3 [_,_] (mL ?_);refine ay (hsu _ (hT.hp hh) (hp.ext hh.below) (hh.az (i:=0) rfl) (fun z hz=>Qy hh (YK _ (YK _ (YK _ (YK _ (hcp.my z hz).1))))) (hh.gG (i:=0) rfl)) au.out rfl Yp ?_;rintro e_ w64 ⟨g,og,rfl,h4⟩;refine ⟨_,rfl, ?_⟩;replace hh:=hh.join h4;clear h4;simp only [YB,Yz] at hh;refine cx ?_;refine cx ?_;refine bg hh 3 [_,_] ?_;intro ws hh;replace hh:Hp _ (_::_::_::.blk _ _ [_,_] _::_) _:=hh;refine aI (aa (av ?_));refine Ow ?_;exact UO
def dM (i:Nat) (f:ByteArray→Dyadic) (m:ByteArray):Dyadic:=
 match m.data.toList[i]? with|some e=>((e.toNat:Int):Dyadic)*f (str (m.data.toList.set i (e-1)))|none=>0
theorem OW {a b:List UInt8} (ha:fR a=true) (hb:fR b=true) (hl:b.length=a.length) (h:(List.zipWith (· + ·) (ints a) (ints b)).all eC=true):mulL a b=((List.zipWith (· + ·) (ints a) (ints b)).map z5,0):=by
 unfold mulL;rw [QQ ha hb hl];show (OT _,QC _)=_;rw [(uD h).1,(uD h).2]
theorem NL {a b:List UInt8} (h:(mulL a b).2=0):(List.zipWith (· + ·) (ints a) (ints b)).all eC=true:=by
 obtain ⟨_,_,_,h4,h5⟩:=rp h;rw [←h5];exact QI h4
theorem Qi {a b:ByteArray}{i:Nat}{x y:UInt8} (h:sG a b=0) (hx:a.data.toList[i]?=some x) (hy:b.data.toList[i]?=some y):(mulM a b).data.toList[i]?=some (z5 ((x.toNat:Int)+y.toNat))∧(z5 ((x.toNat:Int)+y.toNat)).toNat=x.toNat+y.toNat:=by
 obtain ⟨h1,h2,h3,_,_⟩:=rp h;have hall:=NL h;have hiy:(ints b.data.toList)[i]?=some (y.toNat:Int):=by unfold ints;rw [YJ,hy];rfl
 have hix:(ints a.data.toList)[i]?=some (x.toNat:Int):=by unfold ints;rw [YJ,hx];rfl
 have hzz:=Lb (f:=fun (x y:Int)=>x+y) hix hiy;have hxy:eC ((x.toNat:Int)+y.toNat)=true:=Y0.1 hall _ (Yy hzz);have e1:=uI hxy;injection e1 with _ e1
 refine ⟨?_,Yo⟩;unfold mulM;rw [eL,OW h1 h2 h3 hall,YJ,hzz]
 rfl
def qx (B:Nat→Nat) (l:List TR):Prop:=∀t∈l,∀i,lL i t≤B i
theorem qx.mono {B C:Nat→Nat} (h:qx B l) (hb:∀i,B i≤C i):qx C l:=fun t ht i=>Y1 (h t ht i) (hb i)
theorem VH {s t:TR} (h:s.m=t.m) (i:Nat):lL i s=lL i t:=by unfold lL;rw [h]
theorem qx.aU {B:Nat→Nat}{l:List TR} (h:qx B l):qx B (aU l):=fun t ht i=>by
 obtain ⟨s,hs,e⟩:=kU t ht;rw [←VH e i];exact h s hs i
theorem qx.append {B:Nat→Nat}{k:List TR} (h:qx B l) (h2:qx B k):qx B (l++k):=fun t ht=>(Zm.1 ht).elim (h t) (h2 t)
theorem qx.prod {B C:Nat→Nat}{q:List TR} (hp:qx B p) (hq:qx C q) (h:∀e∈y2 p q,e=0):qx (fun i=>B i+C i) (dD p q):=fun t ht i=>by
 obtain ⟨x,hx,ht⟩:=aak.1 ht;obtain ⟨y,hy,rfl⟩:=YF.1 ht;have hz:sG x.m y.m=0:=h _ (aak.2 ⟨x,hx,YF.2 ⟨y,hy,rfl⟩⟩)
 cases ha:x.m.data.toList[i]? with
 |none=>
  have hl:=Gf hz;have hx0:=List.getElem?_eq_none_iff.1 ha;have e:(vK x y).m.data.toList[i]?=none:=by
   show (str _).data.toList[i]?=none;rw [eL];exact YQ (by rw [hl];exact hx0)
  unfold lL;rw [e];exact Yx _
 |some a=>
  obtain ⟨_,_,h3,_,_⟩:=rp hz;have hlt:=(YL.1 ha).1;obtain ⟨b,hb⟩:=ao (l:=y.m.data.toList) (k:=i) Yo;obtain ⟨e1,e2⟩:=Qi hz ha hb;rw [sV (t:=vK x y) e1,e2];have h1:=hp x hx i;have h2:=hq y hy i;rw [sV ha] at h1;rw [sV hb] at h2;show a.toNat+b.toNat≤B i+C i;omega
theorem Ey {q p:List TR}{sub:List TR→Int×List TR}{j D:Nat}{E:Nat→Nat} (hq:qx (fun x=>if x=j then 1 else 0) q) (hD:∀t∈p,lL j t≤D) (hE:E j=0) (hs:∀n,(sub (cZ p j n)).1=0→qx E (sub (cZ p j n)).2):
  ∀i,i≤128→(dE q sub p j i).1=0→qx (fun x=>if x=j then i+D-128 else E x) (dE q sub p j i).2
 |0,_,_=>fun t ht=>(nomatch ht)
 |i+1,hi,h0=>by
  have h1:(dE q sub p j i).1=0:=by
   refine aa1 fun c=> ?_;rw [sU c (Nat.le_succ i)] at h0;exact c h0
  have ih:=Ey hq hD hE hs i Yo h1;have hsb:∀n,(sub (cZ p j n)).1=0→qx (fun x=>if x=j then i+1+D-128 else E x) (sub (cZ p j n)).2:=fun n hn=>(hs n hn).mono fun x=>by
   by_cases hx:x=j
   ·rw [Yt hx,hx,hE];exact Yx _
   ·rw [Yu hx];exact YA _
  have hpr:iD (dE q sub p j i).2 q=0→qx (fun x=>if x=j then i+1+D-128 else E x) (aU (dD (dE q sub p j i).2 q)):=fun ht=>by
   by_cases hlow:i+D≤127
   ·rw [mR hD i hlow];exact fun t ht=>(nomatch ht)
   ·refine ((ih.prod hq (rK ht).2.1).mono fun x=> ?_).aU;by_cases hx:x=j
    ·rw [Yt hx,Yt hx,Yt hx];omega
    ·rw [Yu hx,Yu hx,Yu hx];omega
  rw [xa] at h0 ⊢;unfold ky at h0 ⊢;rw [Yu (fun h=>h h1)] at h0 ⊢;by_cases c1:(dE q sub p j i).2.length=0∧(cZ p j (127-i)).length=0
  ·rw [Yt c1,abU.1 c1.1];exact fun t ht=>(nomatch ht)
  ·rw [Yu c1] at h0 ⊢;by_cases c2:iD (dE q sub p j i).2 q≠0
   ·rw [Yt c2] at h0;exact absurd h0 c2
   ·rw [Yu c2] at h0 ⊢;by_cases c3:(sub (cZ p j (127-i))).1≠0
    ·rw [Yt c3] at h0;exact absurd h0 c3
    ·rw [Yu c3] at h0 ⊢;by_cases c4:iP (aU (dD (dE q sub p j i).2 q)++(sub (cZ p j (127-i))).2)≠0
     ·rw [Yt c4] at h0;exact absurd h0 c4
     ·rw [Yu c4];exact ((hpr Yo).append (hsb _ Yo)).aU
theorem Dv (v:Int) (c:NR):qx (fun _=>0) [⟨iA v,c⟩]:=fun t ht i=>by
 rw [YT.1 ht]
 cases he:(⟨iA v,c⟩:TR).m.data.toList[i]? with
 |none=>unfold lL;rw [he];exact YA _
 |some e=>
  rw [sV he];have hm:=Yy he;replace hm:e∈(List.replicate v.toNat (0:UInt8)):=by simpa [iA] using hm
  rw [(List.mem_replicate.1 hm).2];exact YA _
theorem PR {v:Int}:∀(qs:List (List TR)) (j:Nat) (p:List TR) (D:Nat→Nat),(∀(i:Nat) (q:List TR),qs[i]?=some q→qx (fun x=>if x=j+i then 1 else 0) q)→(∀t∈p,∀i,i<qs.length→lL (j+i) t≤D (j+i))→(ku v qs j p).1=0→qx (fun x=>if j≤x∧x<j+qs.length then D x else 0) (ku v qs j p).2:=by
 intro qs
 induction qs with
 |nil=>
  intro j p D _ _ _;exact (Dv v _).aU.mono fun x=>Yx _
 |cons q qs ih=>
  intro j p D hq hp h0;have hsub:∀n,(ku v qs (j+1) (cZ p j n)).1=0→qx (fun x=>if j+1≤x∧x<j+1+qs.length then D x else 0) (ku v qs (j+1) (cZ p j n)).2:=fun n hn=>by
   refine ih (j+1) (cZ p j n) D (fun i r hr=> ?_) (fun t ht i hi=> ?_) hn
   ·have:=hq (i+1) r (by simpa using hr);rwa [show j+1+i=j+(i+1) by omega]
   ·have:=hp t (mf t ht) (i+1) (by rw [Y3];omega);rwa [show j+1+i=j+(i+1) by omega]
  have hq0:qx (fun x=>if x=j then 1 else 0) q:=hq 0 q rfl;have hD:∀t∈p,lL j t≤D j:=fun t ht=>hp t ht 0 (by rw [Y3];omega);generalize hgen:ku v qs (j+1)=sub at hsub;have e:∀m,m=128→(dE q sub p j m).1=0→qx (fun x=>if j≤x∧x<j+(q::qs).length then D x else 0) (dE q sub p j m).2:=fun m hm h=>by
   refine (Ey hq0 hD (E:=fun x=>if j+1≤x∧x<j+1+qs.length then D x else 0) (by rw [Yu Yo]) hsub m Yo h).mono fun x=> ?_;rw [Y3];by_cases hx:x=j
   ·rw [Yt hx,Yt Yo,hx];omega
   ·rw [Yu hx];by_cases h2:j+1≤x∧x<j+1+qs.length
    ·rw [Yt h2,Yt Yo];exact YA _
    ·rw [Yu h2];exact Yx _
  have e2:ku v (q::qs) j p=dE q sub p j 128:=by rw [←hgen];rfl
  rw [e2] at h0 ⊢;exact e 128 rfl h0
theorem V5 {i:Nat}{t:TR} (h:t∈l):pC t.m i≤DV l i:=by
 induction l using kt with
 |h0=>cases h
 |hs l x ih=>
  rw [vM]
  rcases Zm.1 h with h|h
  ·have:=ih h;omega
  ·rw [YT.1 h];omega
theorem RR {i:Nat}{B:Int} (hB:0≤B) (h:∀t∈l,pC t.m i≤B):0≤DV l i∧DV l i≤B:=by
 induction l using kt with
 |h0=>exact ⟨Int.le_refl _,hB⟩
 |hs l x ih=>
  rw [vM];have h1:=ih fun t ht=>h t (Z3 _ ht);have h2:=h x (Zu _ YD);omega
theorem Mm (t:TR) (i:Nat):(lL i t:Int)=pC t.m i:=by
 unfold lL pC
 cases t.m.data.toList[i]?<;>rfl
def iq (v:Int) (ts:List TR):List Nat:=(yj v ts).map Int.toNat
theorem Bf {v:Int} (h:l0 v ts=0):yj v ts=bq (iq v ts)∧(iq v ts).length=v.toNat∧∀(i d:Nat),(iq v ts)[i]?=some d→d≤127∧(∀t∈ts,lL i t≤d)∧((d:Int)=DV ts i):=by
 obtain ⟨_,_,hm,_⟩:=fa h;have hd:yj v ts=nw v.toNat ts:=Yt h;have hb:∀t∈ts,∀i,pC t.m i≤127:=fun t ht i=>by
  have h1:=hm t ht;unfold iu at h1;rw [YP] at h1;unfold pC
  cases he:t.m.data.toList[i]? with
  |none=>decide
  |some e=>have:=uj h1.1 he;show ((e.toNat:Nat):Int)≤127;omega
 refine ⟨?_,by unfold iq;rw [YI,hd,hU],fun i d hi=> ?_⟩
 ·unfold iq bq;rw [Zs];refine (abr _).symm.trans (ZV fun x hx=> ?_);rw [hd] at hx;obtain ⟨i,_,rfl⟩:=YF.1 hx;have:=(RR (B:=127) Yp fun t ht=>hb t ht i).1;show DV ts i=((DV ts i).toNat:Int);omega
 ·unfold iq at hi;rw [hd,YJ] at hi;have hlt:i<v.toNat:=by
   refine aa1 fun hc=> ?_;rw [YQ (by rw [hU];omega)] at hi
   cases hi
  rw [uP ts hlt] at hi;have h1:=RR (l:=ts) (i:=i) (B:=127) Yp fun t ht=>hb t ht i;have h2:(DV ts i).toNat=d:=Zg hi;refine ⟨Yo,fun t ht=> ?_,Yo⟩;have h3:=V5 (i:=i) ht;have h4:=Mm t i;omega
def jM (m:ByteArray):List Nat:=m.data.toList.map UInt8.toNat
theorem Ec (m:ByteArray):(jM m).length=m.size:=by rw [fJ];exact YI _
theorem Oo {a b:ByteArray} (h:jM a=jM b):a=b:=Bj (List.map_inj_right (fun _ _=>abj.1)|>.1 h)
theorem JR (m:ByteArray):ints m.data.toList=bq (jM m):=by unfold ints bq jM;rw [Zs];rfl
def Yh (xs:List Dyadic) (l:List TR):Dyadic:=wS (fun m=>UZ (jM m) xs) l
theorem VD (f:ByteArray→Dyadic) (l:List TR):wS f l=sm l fun t=>t.c.d*f t.m:=by
 induction l with
 |nil=>rfl
 |cons t l ih=>rw [wS,sm,ih]
theorem P9 (j:Nat) (t:TR):lL j t=((jM t.m)[j]?).getD 0:=by
 unfold lL jM;rw [YJ]
 cases t.m.data.toList[j]?<;>rfl
variable {X:List Dyadic}{ds:List Nat}
def wK:Nat→List Nat→List Nat→List Nat→Dyadic
 |m+1,_::ds,a::s,r::rs=>(if a=r then 1 else 0)*wK m ds s rs
 |0,d::ds,a::s,r::rs=>gD d 1 1 a r*wK 0 ds s rs
 |_,_,_,_=>1
theorem Iv:∀(j:Nat) (ds s rs:List Nat),j<ds.length→l5 ds s→l5 ds rs→sm (List.range (ds.getD j 0+1)) (fun i=>wK (j+1) ds s (rs.set j i)*gD (ds.getD j 0) 1 1 i (rs.getD j 0))=wK j ds s rs
 |_,[],_,_,h,_,_=>by cases h
 |_,_::_,[],_,_,h,_=>by cases h
 |_,_::_,_::_,[],_,_,h=>by cases h
 |0,d::ds,a::s,r::rs,_,h1,_=>by
  show sm (List.range (d+1)) (fun i=>(if a=i then 1 else 0)*wK 0 ds s rs*gD d 1 1 i r)=gD d 1 1 a r*wK 0 ds s rs;have e:sm (List.range (d+1)) (fun i=>(if a=i then 1 else 0)*wK 0 ds s rs*gD d 1 1 i r)=sm (List.range (d+1)) fun i=>if i=a then gD d 1 1 a r*wK 0 ds s rs else 0:=cU fun i _=>by
   by_cases h:a=i
   ·rw [Yt h,Yt h.symm,h];grind
   ·rw [Yu h,Yu (fun e=>h e.symm)];grind
  rw [e,rJ,Yt (by have:=h1.1;omega)]
 |j+1,d::ds,a::s,r::rs,hj,h1,h2=>by
  show sm (List.range (ds.getD j 0+1)) (fun i=>(if a=r then 1 else 0)*wK (j+1) ds s (rs.set j i)*gD (ds.getD j 0) 1 1 i (rs.getD j 0))=(if a=r then 1 else 0)*wK j ds s rs;rw [←Iv j ds s rs (by simpa using hj) h1.2 h2.2,←k7];exact cU fun i _=>by grind
theorem L9:∀(ds s rs:List Nat),l5 ds s→l5 ds rs→wK ds.length ds s rs=if s=rs then 1 else 0
 |[],[],[],_,_=>by rw [Yt rfl];rfl
 |[],_::_,_,h,_=>by cases h
 |[],[],_::_,_,h=>by cases h
 |_::_,[],_,h,_=>by cases h
 |_::_,_::_,[],_,h=>by cases h
 |d::ds,a::s,r::rs,h1,h2=>by
  show (if a=r then 1 else 0)*wK ds.length ds s rs=_;rw [L9 ds s rs h1.2 h2.2];by_cases e1:a=r
  ·by_cases e2:s=rs
   ·rw [Yt e1,Yt e2,Yt (by rw [e1,e2])];grind
   ·rw [Yt e1,Yu e2,Yu fun e=>e2 (List.cons.inj e).2];grind
  ·rw [Yu e1,Yu fun e=>e1 (List.cons.inj e).1];grind
abbrev QL:=List (List Nat×Dyadic)
def X0 (ds:List Nat) (L:QL):List Dyadic:=ji (al ds) (L.map fun q=>(dV ds q.1,q.2))
def qH (ds:List Nat) (L:QL):Nat→List Dyadic
 |0=>X0 ds L
 |k+1=>fH ds (ds.length-1-k) (gD (ds.getD (ds.length-1-k) 0) 1 1) (qH ds L k)
theorem sH (ds:List Nat) (L:QL) (k:Nat):qH ds L (k+1)=fH ds (ds.length-1-k) (gD (ds.getD (ds.length-1-k) 0) 1 1) (qH ds L k):=rfl
theorem C3 (ds:List Nat) (L:QL) (k:Nat):(qH ds L k).length=al ds:=by
 cases k with
 |zero=>exact jS _ _
 |succ k=>rw [sH,m9]
theorem K8 {ds:List Nat}{L:QL} (hL:∀q∈L,l5 ds q.1):∀k,k≤ds.length→∀row,l5 ds row→co ds (qH ds L k) row=sm L fun q=>q.2*wK (ds.length-k) ds q.1 row
 |0,_,row,hr=>by
  have hp:=lB hr;rw [Iu hr];show ((X0 ds L)[dV ds row]?).getD 0=_;unfold X0;rw [mO _ hp,ZO,wE];refine cU fun q hq=> ?_;rw [Nat.sub_zero,L9 ds q.1 row (hL q hq) hr];by_cases h:q.1=row
  ·rw [Yt h,Yt (by rw [h])];grind
  ·rw [Yu h,Yu fun e=>h (by rw [←kj (hL q hq),←kj hr];exact Ze (bW ds) e)];grind
 |k+1,hk,row,hr=>by
  obtain ⟨j,hj⟩:∃j,j=ds.length-1-k:=⟨_,rfl⟩;rw [sH,←hj,J1 _ _ _ hr,show ds.length-(k+1)=j by omega];have e1:∀i,i<ds.getD j 0+1→co ds (qH ds L k) (row.set j i)=sm L fun q=>q.2*wK (j+1) ds q.1 (row.set j i):=fun i hi=>by
   rw [K8 hL k Yo (row.set j i) (Hf hr Yo),show ds.length-k=j+1 by omega]
  rw [cU fun i hi=>show co ds (qH ds L k) (row.set j i)*gD (ds.getD j 0) 1 1 i (row.getD j 0)=sm L fun q=>q.2*(wK (j+1) ds q.1 (row.set j i)*gD (ds.getD j 0) 1 1 i (row.getD j 0)) by
   rw [e1 i (Zi.1 hi),←ql];exact cU fun q _=>by grind,I0]
  refine cU fun q hq=> ?_;rw [←Iv j ds q.1 row Yo (hL q hq) hr,←k7]
def FF (ns:List Nat) (l:List TR):List Dyadic:=(List.range (al ns.reverse)).map fun p=>wS (fun m=>wK 0 ns.reverse (jM m).reverse (bW ns.reverse p)) l
theorem QP (ns:List Nat) (l:List TR):(FF ns l).length=al ns:=by unfold FF;rw [YI,aaO,cI]
def ua (l:List TR):QL:=l.map fun t=>((jM t.m).reverse,t.c.d)
theorem LL {ns:List Nat} (hl:∀t∈l,l5 ns.reverse (jM t.m).reverse):qH ns.reverse (ua l) ns.length=FF ns l:=by
 have hL:∀q∈ua l,l5 ns.reverse q.1:=fun q hq=>by
  obtain ⟨t,ht,rfl⟩:=YF.1 hq;exact hl t ht
 refine Ux (ds:=ns.reverse) (C3 _ _ _) (by rw [QP,cI]) fun row hr=> ?_;have hp:=lB hr;rw [K8 hL ns.length (by rw [Y9];exact YA _) row hr,Iu hr,show ns.reverse.length-ns.length=0 by rw [Y9,Zn]];unfold FF ua;rw [YJ,ZF hp,wE];show _=wS _ l;rw [VD,kj hr]
theorem Dm:∀{ds rs:List Nat} (a:Nat),l5 ds rs→rs.getD a 0≤ds.getD a 0
 |[],[],_,_=>by simp
 |[],_::_,_,h=>by cases h
 |_::_,[],_,h=>by cases h
 |_::_,_::_,0,h=>h.1
 |_::ds,_::rs,a+1,h=>Dm (ds:=ds) (rs:=rs) a h.2
theorem Jj {a d:Nat} (hx:∀x∈X,Sz k x) (hd:ds.getD a 0=d) (hd7:d≤127):∀x∈fH ds a (gD d 1 1) X,Sz (k+520) x:=fun x h=>by
 obtain ⟨p,_,rfl⟩:=YF.1 h;have hr:(bW ds p).getD a 0≤d:=by rw [←hd];exact Dm a (iU ds p)
 have h2:=DY (l:=List.range (ds.getD a 0+1)) (f:=fun i=>co ds X ((bW ds p).set a i)*gD d 1 1 i ((bW ds p).getD a 0)) (k:=k+(130+2*(1*d))) fun i _=>by
  refine Sz.mul ?_ (IP Sz.one Sz.one hd7 hr);unfold co;split
  ·cases h:X[dV ds ((bW ds p).set a i)]? with
   |none=>exact Sz.zero k
   |some y=>exact hx y (Yy h)
  ·exact Sz.zero k
 rw [aaO,hd] at h2;rw [hd];exact h2.mono Yo
theorem KZ {B:Nat} (h:∀d∈ds,d≤B) (a:Nat):ds.getD a 0≤B:=by
 rw [aao]
 cases ha:ds[a]? with
 |none=>exact Yx _
 |some d=>exact h d (Yy ha)
theorem LD {ds:List Nat}{L:QL}{k:Nat} (h:∀x∈X0 ds L,Sz k x) (hd:∀d∈ds,d≤127):∀i,∀x∈qH ds L i,Sz (k+520*i) x
 |0=>h
 |i+1=>fun x hx=>(Jj (LD h hd i) rfl (KZ hd _) x hx).mono Yo
theorem Vv (h:kx k l):∀x∈X0 ds (ua l),Sz (k+l.length) x:=fun x hx=>by
 have:=AY (N:=al ds) (L:=(ua l).map fun (q:List Nat×Dyadic)=>(dV ds q.1,q.2)) (k:=k) (fun a ha=>by
  obtain ⟨q,hq,rfl⟩:=YF.1 ha;obtain ⟨t,ht,rfl⟩:=YF.1 hq;exact (h t ht).2) x hx
 unfold ua at this;rwa [YI,YI] at this
structure O0 (p:PX) (b:List SR) (ns:List Nat):Prop where
 e:p.e=0
 box:tY b=0
 pos:0<b.length
 Lr:b.length≤12
 v:p.v=b.length
 nl:ns.length=b.length
 low:∀d∈ns,d≤127
 most:al ns≤4096
 own:∀(i d:Nat),ns[i]?=some d→∀t∈p.ts,lL i t≤d
theorem TP {p:PX}{b:List SR}{D:List Int} (h:ph p b D=0):D=bq (D.map Int.toNat)∧O0 p b (D.map Int.toNat):=by
 unfold ph at h;by_cases h0:p.e≠0
 ·rw [Yt h0] at h;exact absurd h h0
 ·rw [Yu h0] at h;by_cases h1:tY b≠0
  ·rw [Yt h1] at h;exact absurd h h1
  ·rw [Yu h1] at h;by_cases h2:(b.length:Int)≠p.v∨(D.length:Int)≠p.v
   ·rw [Yt h2] at h;exact absurd h Yp
   ·rw [Yu h2] at h;by_cases h3:EK (yj p.v p.ts) D=true
    ·rw [Yt h3] at h;exact absurd h Yp
    ·rw [Yu h3] at h;by_cases h4:jq 1 D=0
     ·rw [Yt h4] at h;exact absurd h Yp
     ·have hpe:p.e=0:=Z9.1 h0;obtain ⟨f1,_,_,_⟩:=fa hpe;have f2:=jb.1 f1;obtain ⟨o1,o2,o3⟩:=Bf hpe;have hbv:(b.length:Int)=p.v:=Z9.1 fun c=>h2 (.inl c);have hdv:(D.length:Int)=p.v:=Z9.1 fun c=>h2 (.inr c);have hD:∀(i:Nat) (y:Int),D[i]?=some y→∃d:Nat,(iq p.v p.ts)[i]?=some d∧(d:Int)≤y∧y≤127:=fun i y hy=>by
       have hi:=(YL.1 hy).1;obtain ⟨d,hd⟩:=ao (l:=iq p.v p.ts) (k:=i) Yo;have hg:(yj p.v p.ts)[i]?=some (d:Int):=by rw [o1];exact eO hd
       have:=aab.1 ((Bool.not_eq_true _).mp h3) _ (Yy (Ih hg hy));rw [YX] at this;exact ⟨d,hd,by show (d:Int)≤y;omega,by show y≤127;omega⟩
      have hnat:D=bq (D.map Int.toNat):=by
       unfold bq;rw [Zs];refine (abr _).symm.trans (ZV fun y hy=> ?_);obtain ⟨i,hi⟩:=ZU.1 hy;obtain ⟨d,_,h5,_⟩:=hD i y hi;show y=((y.toNat:Nat):Int);omega
      have hlow:∀d∈D.map Int.toNat,d≤127:=fun d hd=>by
       obtain ⟨y,hy,rfl⟩:=YF.1 hd;obtain ⟨i,hi⟩:=ZU.1 hy;obtain ⟨_,_,_,h6⟩:=hD i y hi;omega
      refine ⟨hnat,hpe,Z9.1 h1, ?_,Yo,hbv.symm,by rw [YI];omega,hlow, ?_,fun i d hd t ht=> ?_⟩
      ·rcases aac b.length with c|c
       ·have h9:=Z9.1 h1;unfold tY at h9;rw [abU.1 c] at h9;exact absurd h9 Yp
       ·exact c
      ·have h8:=kY (D.map Int.toNat) 1 (YA _) Yp hlow;rw [←hnat,aaC] at h8;rw [show jq 1 D=jq ((1:Nat):Int) D from rfl,h8] at h4;exact Z9.1 fun c=>h4 (Yu c)
      ·rw [YJ] at hd;obtain ⟨y,hy,hyd⟩:=aay.1 hd;obtain ⟨d2,h7,h8,h9⟩:=hD i y hy;have:=(o3 i d2 h7).2.1 t ht;omega
theorem O0.IG {p:PX}{b:List SR}{ns:List Nat} (h:O0 p b ns):(iq p.v p.ts).length=b.length:=by
 rw [(Bf h.e).2.1,h.v];exact ZY _
theorem Qt (v i:Nat) (c:NR):qx (fun x=>if x=i then 1 else 0) [⟨pg v i,c⟩]:=fun t ht j=>by
 rw [YT.1 ht]
 cases he:(⟨pg v i,c⟩:TR).m.data.toList[j]? with
 |none=>unfold lL;rw [he];exact Yx _
 |some e=>
  rw [sV he];show e.toNat≤if j=i then 1 else 0
  have e1:((List.replicate v (0:UInt8)).set i 1)[j]?=some e:=by simpa [pg] using he
  rw [aaf] at e1;by_cases hj:i=j
  ·rw [Yt hj] at e1;rw [Yt hj.symm];split at e1
   ·rw [←Zg e1];decide
   ·cases e1
  ·rw [Yu hj] at e1;rw [(List.mem_replicate.1 (Yy e1)).2];exact Yx _
theorem Jn (v i:Nat) (s:SR):qx (fun x=>if x=i then 1 else 0) (kv v i s):=by
 refine qx.aU (qx.append ((Dv v _).aU.mono fun x=>Yx _) (qx.aU fun t ht j=> ?_));obtain ⟨z,hz,rfl⟩:=YF.1 ht;rw [show lL j (vm (s.H-s.L) z)=lL j z from rfl];exact (Qt v i _).aU z hz j
theorem Jp {p:PX}{b:List SR}{ns:List Nat} (h:O0 p b ns) (ho:kx k p.ts) (hb:∀s∈b,s.fin k) (hk:k≤1000) (hgr:jA (k+k+16394) (iq p.v p.ts) (k+1)≤440000) (h0:(jI p (df b)).1=0):
  mq b.length 440000 (jI p (df b)).2∧∀t∈(jI p (df b)).2,l5 ns.reverse (jM t.m).reverse:=by
 have hl:=h.Lr;have hpos:=h.pos;have hln:=pL b;obtain ⟨_,o2,o3⟩:=Bf h.e;have hol:=h.IG;have hhv:iW (df b)=b.length:=by
  obtain ⟨s,hs⟩:=ao (l:=b) (k:=0) Yo;rw [rM (kR hs)]
 unfold jI at h0 ⊢;rw [Yu (fun c=>c h.e),Yu (by rw [hln,h.v];exact fun c=>c rfl)] at h0 ⊢;by_cases hlk:(df b).length≠0∧iZ (df b)≠0
 ·rw [Yt hlk] at h0;exact absurd h0 hlk.2
 ·rw [Yu hlk,hhv] at h0 ⊢;have hq:∀q∈(df b).map PX.ts,mq b.length (k+k+10) q∧q.length≤2:=fun q hq=>by
   obtain ⟨g,hg,rfl⟩:=YF.1 hq;obtain ⟨i,s,hs,rfl⟩:=E8 hg;exact su hl (hb s (Yy hs)) Yo
  have h1:=HS (na hl) (show k+k+10+4096*2+8192≤k+k+16394 by omega) ((df b).map PX.ts) 0 p.ts (iq p.v p.ts) k hq ho (by rw [YI,hln,hol]) (fun i d hd=>⟨(o3 i d hd).1,fun t ht=>by rw [YZ];exact (o3 i d hd).2.1 t ht⟩) Yo h0;refine ⟨h1.mono hgr, ?_⟩;have h2:=PR ((df b).map PX.ts) 0 p.ts (fun i=>(ns[i]?).getD 0) (fun i q hi=> ?_) (fun t ht i hi=> ?_) h0
  ·intro t ht;have hm:=(fa h1.e).2.2.1 t ht;unfold iu at hm;rw [YP,YX] at hm;have hsz:(jM t.m).length=b.length:=by rw [Ec];omega
   rw [pS];refine ⟨by rw [Y9,Y9,hsz,h.nl],fun i d r hd hr=> ?_⟩;have hi:=(YL.1 hd).1;rw [Y9] at hi;rw [aam hi] at hd;rw [aam (by rw [hsz,←h.nl];exact hi),hsz,←h.nl] at hr;have h3:=h2 t ht (ns.length-1-i);dsimp only at h3;rw [YI,hln,Yt ⟨Yx _,by have:=h.nl;omega⟩,hd,P9,hr] at h3;exact h3
  ·rw [YJ] at hi;obtain ⟨g,hg,rfl⟩:=aay.1 hi;obtain ⟨s,hs⟩:=ao (l:=b) (k:=i) (by have:=(YL.1 hg).1;rwa [hln] at this);rw [kR hs] at hg;rw [←Zg hg,YZ];exact Jn _ i s
  ·rw [YI,hln] at hi;rw [YZ];obtain ⟨d,hd⟩:=ao (l:=ns) (k:=i) (by rw [h.nl];exact hi);rw [hd];exact h.own i d hd t ht
theorem AW (L:Option Addr) (n c d:Nat) (xs:List Dyadic) (k:Nat) (w:World) (hT:dP w) (hS:Sl w L n 3 (aA NR.cells (xs.map nR))) (hn:n=d+1) (hd:d≤127) (hx:∀x∈xs,Sz k x) (hk:k≤500000):
  Calls Tryz.prog 156 #[.slice L n c] w fun r w'=>∃A c',r=.returned (.slice A n c')∧Hp w [.row A n c' 33 3 (aA NR.cells ((eh d (gD d 1 1) xs).map nR))] w':=by
 have hh:=Hp.start w;have hln:xs.length=n:=by have:=hS.bk NR.len Yp;simpa using this
 have ha:Sz 1 1:=Sz.one;obtain ⟨ad,rfl,hr⟩:=hS.at_ Yo;refine aj (N:=52) (l:=[.slice (some ad) n c]) Tryz.func156 rfl rfl (by simp) ?_;refine sr (aL (aa (sr (mL (aM ?_)))));refine ee (aI (aa (sr (mI ?_))));refine a8 ?_;refine yQ ?_;intro b14 w14 hh;refine qI ?_;rw [sw,hn,←wi d 1 1 xs,←hn] at hh;refine aT [5,6,7,8,17,18,19,20,21,22,23,24,25,26,27,28,29,30,31,32,33,34,35,36,37,38,39,40,41,42,43,44,45,46,47,48,49,50] 17
  (fun v w'=>∃i:Nat,i≤n∧v=.int .i64 i∧Hp w [.row (some ⟨b14,0,none⟩) n n 33 3 (aA NR.cells ((jJ d 1 1 xs i 0).map nR))] w')
  (fun v _=>n-(intOf v).toNat) ?_ ?_
 ·exact ⟨0,Yx _,rfl,hh⟩
 ·clear hh;rintro ρ' v w' ⟨i,hi,rfl,hh⟩;by_cases hlt:i<n
  ·obtain ⟨x,hxi⟩:=ao (l:=xs) (k:=i) Yo;have hxn:(xs.map nR)[i]?=some (nR x):=by rw [YJ,hxi];rfl
   have hat:hH xs i=x:=by unfold hH;rw [hxi];rfl
   have zx:=hx x (Yy hxi);have hch:=fun w1 hT1=>pK (d-i) w1 hT1 Yo;refine sr ?_;refine dY ?_;refine bZ ?_;refine Ma ?_;refine bC hh ?_;intro b6 w6 hh;refine aI ?_;refine bg hh 0 [_,_,_] ?_;intro ws hh;replace hh:Hp _ (.blk _ _ [_,_,_] _::_) _:=hh;refine aa (sr (mI (mI ?_)));refine ee ?_;have e24:(n:Int)-1-(i:Int)=((d-i:Nat):Int):=Yo;rw [←e24] at hch;refine ay (hch _ (hT.hp hh)) au.out rfl Yp ?_;rintro e_ w25 ⟨A25,c25,rfl,hown_,hb_⟩;refine ⟨_,rfl, ?_⟩;replace hh:=hh.aP (x:=.row _ _ _ _ _ _) hb_ hown_;refine aM (mI (aa (ar ?_)));replace hh:=hh.sub (Yv _ (Yv _ (Yv _ YR)));refine aT [7,8,27,28,29,30,31,32,33,34,35,36,37,38,39,40,41,42,43,44,45,46,47,48,49] 27
    (fun v w'=>∃j:Nat,j≤d-i+1∧v=.int .i64 j∧Hp w [.row A25 (d-i+1) c25 33 3 (aA NR.cells (nx (d-i))),.blk b6 33 [.bool (nR x).neg,.string (nR x).aY,.int .i64 (nR x).e] (0,0),.row (some ⟨b14,0,none⟩) n n 33 3 (aA NR.cells ((jJ d 1 1 xs i j).map nR))] w')
    (fun v _=>d-i+1-(intOf v).toNat) ?_ ?_
   ·exact ⟨0,Yx _,rfl,hh⟩
   ·clear hh;rintro ρ2 v w2 ⟨j,hj,rfl,hh⟩;by_cases hjn:j<d-i+1
    ·have hbn:(nx (d-i))[j]?=some (nR (nD (bin (d-i) j))):=mK Yo;have zb:=sY (d-i) j Yo;obtain ⟨o,ho⟩:=ao (l:=jJ d 1 1 xs i j) (k:=i+j) (by rw [la];omega);have hon:((jJ d 1 1 xs i j).map nR)[i+j]?=some (nR o):=by rw [YJ,ho];rfl
     have zo:=uC (j:=j) hx ha ha hd (show i≤d+1 by omega) o (Yy ho);have zy:=zx.mul zb;have hm2:=fun A cc w1 hT1 hS1=>fZ A 2 cc [nR x,nR (nD (bin (d-i) j))] w1 hT1 hS1 (by simpa using ⟨zx.ok Yo,zb.ok Yo⟩) 600000 (by simpa [bL] using ⟨zx.mono Yo,zb.mono Yo⟩) Yo Yo;rw [show iw ([nR x,nR (nD (bin (d-i) j))].map NR.d)=x*nD (bin (d-i) j) by simp only [Y6,Zv,bL];show 1*x*_=_;rw [aap]] at hm2;have hset:=Dl (show i+j≤d by omega) ho;have hval:hH xs i*gD d 1 1 i (i+j)=x*nD (bin (d-i) j):=by
      unfold gD;rw [hat,Yu Yo,show i+j-i=j by omega,zX,zX];generalize nD (bin (d-i) j)=u;grind
     rw [hval] at hset;generalize x*nD (bin (d-i) j)=y at*;have hsum:=fun A cc w1 hT1 hS1=>iH A 2 cc [nR o,nR y] w1 hT1 hS1 (by simpa using ⟨zo.ok Yo,zy.ok Yo⟩) 2000000 (by simpa [bL] using ⟨zo.mono Yo,zy.mono Yo⟩) Yo;rw [show nt ([nR o,nR y].map NR.d)=o+y by simp only [Y6,Zv,bL,ki]] at hsum;have hll:((jJ d 1 1 xs i j).map nR).length=n:=by rw [YI,la];omega
     generalize jJ d 1 1 xs i j=S at*;have hrl:=fj NR.len (S.map nR);obtain ⟨gw,rfl⟩:=hh.cq (i:=0) rfl Yo;refine sr ?_;refine dY ?_;refine ni ?_;refine cg (vs:=[_,_,_]) aJ.out rfl (hh.dT (f:=NR.cells) (x:=nR (nD (bin (d-i) j))) (l:=nx (d-i)) (i:=0) rfl NR.len Yp hbn) rfl Yp ?_;refine bC hh ?_;intro b8 w8 hh;refine aI ?_;refine bg hh 0 [_,_,_] ?_;intro ws hh;replace hh:Hp _ (.blk _ _ [_,_,_] _::_) _:=hh;refine aa ?_;refine aK 16 [[(4,none)],[(5,none)],[(7,none)],[(33,some 1),(34,some 2)],[(4,none)],[(5,none)],[(7,none)],[(37,some 5),(38,some 6)],[(36,some 4),(39,some 7)],[(40,some 8)],[(6,none)],[(8,none)],[(42,some 10),(43,some 11)],[(44,some 12)],[(41,some 9),(45,some 13)],[(46,some 14)]] [(15,47),(14,46),(13,45),(12,44),(11,43),(10,42),(9,41),(8,40),(7,39),(6,38),(5,37),(4,36),(3,35),(2,34),(1,33),(0,32)] hh mixed Yq ?_;refine gI ?_;refine dJ ?_;refine dJ ?_;refine qT ?_;refine gI ?_;refine dJ ?_;refine dJ ?_;refine qT ?_;refine EG ((i+j)) ?_;refine pW [_,_,_] (fun _ hj=>hj.hp.dT (f:=NR.cells) (x:=nR o) (l:=S.map nR) (i:=3) rfl NR.len Yp hon) ?_
     refine dK 2 [_,_,_] ?_;refine dK 0 [_,_,_] ?_;refine x3 [_,_,_,_,_,_] ?_;refine a7 (i:=13) (Is (.agg #[.bool (nR y).neg,.string (nR y).aY,.int .i64 (nR y).e])) Is.ext ?_ ?_
     ·intro ρ1 w1 hj hR;obtain ⟨A44,c44,h44,s44⟩:=hR.1;exact bV rfl (bf au.out (aC h44 bh)) (hm2 A44 c44 _ (hT.hp hj.hp) s44) (fun _ _ hq=>⟨_,hq.1,hq.2,rfl⟩)
     refine x3 [_,_,_,_,_,_] ?_;refine a7 (i:=15) (Is (.agg #[.bool (nR (o+y)).neg,.string (nR (o+y)).aY,.int .i64 (nR (o+y)).e])) Is.ext ?_ ?_
     ·intro ρ1 w1 hj hR;obtain ⟨A46,c46,h46,s46⟩:=hR.1;exact bV rfl (bf au.out (aC h46 bh)) (hsum A46 c46 _ (hT.hp hj.hp) s46) (fun _ _ hq=>⟨_,hq.1,hq.2,rfl⟩)
     refine aH ?_;intro f W hJ hV;have hb_9:=hJ.bl;obtain ⟨v47,v46,v45,v44,v43,v42,v41,v40,v39,v38,v37,v36,v35,v34,v33,v32,_⟩:=hV;obtain ⟨A44,c44,e44,f44⟩:Rows _ _ _ (f 12) W:=v44;obtain ⟨A46,c46,e46,f46⟩:Rows _ _ _ (f 14) W:=v46;replace hh:=hJ.hp;refine aN (a6 (ae v47 (ae e46 (ae v45 (ae e44 (ae v43 (ae v42 (ae v41 (ae v40 (ae v39 (ae v38 (ae v37 (ae v36 (ae v35 (ae v34 (ae v33 (ae v32 aO))))))))))))))))) ?_;dsimp only [bP];clear e44 e46 hJ;refine cJ (k:=(i+j)) bG.out aJ.size rfl rfl Yo Yo Yp ?_;refine Ic ?_;intro ws hh;simp only [YG,Y8] at hh;rw [show cm (aA NR.cells (S.map nR)) ((i+j)*3) [.bool (nR (o+y)).neg,.string (nR (o+y)).aY,.int .i64 (nR (o+y)).e]=aA NR.cells ((S.map nR).set (i+j) (nR (o+y))) from eX NR.len Yo,←aaB,hset] at hh;refine gu ?_;refine a8 (mI (aD (ai ?_)));replace hh:=hh.sub (Yw _ (Yv _ (Yv _ (Yv _ YR))));exact Sh
    ·obtain rfl:j=d-i+1:=Yo;rw [zQ Yo] at hh;refine sr ?_;refine rQ ?_;refine a8 (mI (aD (ai ?_)));replace hh:=hh.sub (Yw _ (Yw _ (Yv _ YR)));exact yV
  ·obtain rfl:i=n:=Yo;rw [show jJ d 1 1 xs i 0=eh d (gD d 1 1) xs by rw [hn,oZ]] at hh;refine sr ?_;refine Ly ?_;refine dH ?_;exact ⟨_,_,rfl,hh⟩
def XO (fx:FX) (hs:List Int):Int:=if fx.e≠0 then fx.e else if hs.any (WE fx.n)=true then 1 else 0
def XT (R:List HE) (g:FX):Prop:=R=[g.kB,g.kD]∨g.m=0∧R=[g.kD]
theorem AD (A:Option Addr) (n c a d:Nat) (ns:List Nat) (w:World) (hS:Sl w A n 1 (bD (bq ns))) (hcap:n≤c) (hn:n≤1000) (hd:ns[a]?=some d) (hlow:∀x∈ns,x≤127) (hmax:al ns≤4096):
  Calls Tryz.prog 154 #[.slice A n c,.int .i64 a] w fun r w'=>r=.returned (.agg #[.int .i64 ((d:Int)+1),.int .i64 (al (ns.drop (a+1)):Nat)])∧Below w.heap.size w w':=by
 have hh:=Hp.start w;have hln:ns.length=n:=by have:=hS.1;simpa [bD,bq] using this
 have ha:=(YL.1 hd).1;have hd127:=hlow d (Yy hd);have hgd:=cK (eO hd);have hbk:=hS.back (l:=a+1) (c:=c) Yo hcap;have hds:(bD (bq ns)).drop ((a+1)*1)=bD (bq (ns.drop (a+1))):=by
  rw [YV];unfold bD bq;rw [←aaV,←aaV]
 rw [hds] at hbk;have hcd:jq 1 (bq (ns.drop (a+1)))=(al (ns.drop (a+1)):Nat):=by
  have h1:=kY (ns.drop (a+1)) 1 Yp Yp (fun x hx=>hlow x (abG hx));have h2:al (ns.drop (a+1))≤al ns:=by
   have h3:al ns=al (ns.take (a+1))*al (ns.drop (a+1)):=by rw [←dA,Zy]
   rw [h3];exact aaX _ (di _)
  rw [aaC,Yt Yo] at h1;exact h1
 have hcnt:=fun w1 hS1=>fP (if c=a+1 then A else A.map (·.add ((a+1)*1))) (n-(a+1)) (c-(a+1)) (bq (ns.drop (a+1))) w1 hS1 Yo;rw [hcd] at hcnt;obtain ⟨ad,rfl,srd⟩:=hS.at_ Yo;refine aj (N:=16) (l:=[.slice (some ad) n c,.int .i64 a]) Tryz.func154 rfl rfl (by simp) ?_;refine sr ?_;refine bC hh ?_;intro b4 w4 hh;refine aa (ah ?_);refine aK 10 [[(0,none)],[(1,none)],[(5,some 0),(6,some 1)],[(7,some 2)],[(8,some 3)],[(0,none)],[(1,none)],[(11,some 6)],[(10,some 5),(12,some 7)],[(13,some 8)]] [(9,14),(8,13),(7,12),(6,11),(5,10),(4,9),(3,8),(2,7),(1,6),(0,5)] hh mixed Yq ?_;refine gI ?_;refine dJ ?_;refine np (a) ?_;refine x7 (fun _ hj=>(srd.ext hj.hp.below).tN hgd) ?_;refine qT ?_;refine gI ?_;refine dJ ?_;refine qT ?_;refine bB (i:=8) (fun ρ1 w1 hj hR=>gZ (l:=(a+1)) bG.out aJ.size (show ρ1 10=Value.slice _ _ _ from hR.1) (show ρ1 12=Value.int _ _ from hR.2.1) Yo Yo Yo) ?_;refine dC (fun _ hj=>hcnt _ (hbk.ext hj.hp.below)) ?_;refine aH ?_;intro f W hJ hV;have hb_1:=hJ.bl;obtain ⟨v14,v13,v12,v11,v10,v9,v8,v7,v6,v5,_⟩:=hV;replace hh:=hJ.hp;refine R8 ?_;dsimp only [bP];clear hJ
 refine fe [_,_] ?_;exact Ej
theorem Kj (A:List Nat) (d f i q:Nat):cv A d f i q=cv A d f 0 q+i*al A:=by
 unfold cv;rw [Zj,Zj,aaK,YO i];omega
theorem BN (g:FuncId) [au Tryz.prog g] (A B:List Nat) (d L:Nat) (φ:List Dyadic→List Dyadic) (C:Option Addr) (n c k:Nat) (X:List Dyadic) (w:World) (hT:dP w) (hS:Sl w C n 3 (aA NR.cells (X.map nR))) (hn:n=al (A++d::B)) (hmax:n≤4096) (hL:L≤d+1) (hd:d≤127) (hx:∀x∈X,Sz k x)
  (hg:∀(Y:List Dyadic) (D:Option Addr) (dc:Nat) (w1:World),dP w1→(∀y∈Y,Sz k y)→Sl w1 D (d+1) 3 (aA NR.cells (Y.map nR))→Calls Tryz.prog g #[.slice D (d+1) dc] w1 fun r w'=>∃E ec,r=.returned (.slice E L ec)∧Hp w1 [.row E L ec 33 3 (aA NR.cells ((φ Y).map nR))] w')
  (hφ:∀Y:List Dyadic,Y.length=d+1→(φ Y).length=L):
  Calls Tryz.prog 155 #[.agg #[.int .i64 ((d:Int)+1),.int .i64 (al A:Nat)],.slice C n c,.func (.func g) #[] #[]] w fun r w'=>∃E ec,r=.returned (.slice E n ec)∧Hp w [.row E n ec 33 3 (aA NR.cells ((lk A d L φ X n 0).map nR))] w':=by
 have hh:=Hp.start w;have hXl:X.length=n:=by have:=hS.bk NR.len Yp;simpa using this
 have hap:=di A;have hap2:al A≤n:=by
  rw [hn,dA];exact abM _ (di _)
 have hcl:=fun w1 hb=>mN C n c (X.map nR) w1 (hS.ext hb) Yo;refine aj (N:=67) (l:=[.agg #[.int .i64 ((d:Int)+1),.int .i64 (al A:Nat)],.slice C n c,.func (.func g) #[] #[]]) Tryz.func155 rfl rfl (by simp) ?_;refine sr ?_;refine bO hh [_,_] ?_;intro b3 w3 hh;refine aL (aa (sr (mL ?_)));refine ay (hcl _ hh.below) au.out rfl Yp ?_;rintro e_ w14 ⟨A14,c14,rfl,hown_,hb_⟩;refine ⟨_,rfl, ?_⟩;replace hh:=hh.aP (x:=.row _ _ _ _ _ _) hb_ hown_;rw [show X.map nR=(lk A d L φ X 0 0).map nR by rw [Jo]] at hh;clear hcl;refine qI ?_;refine aT [8,9,10,11,12,17,18,19,20,21,22,23,24,25,26,27,28,29,30,31,32,33,34,35,36,37,38,39,40,41,42,43,44,45,46,47,48,49,50,51,52,53,54,55,56,57,58,59,60,61,62,63,64,65] 17
  (fun v w'=>∃F:Nat,F≤n∧v=.int .i64 F∧Hp w [.row A14 n c14 33 3 (aA NR.cells ((lk A d L φ X F 0).map nR)),.blk b3 184 [.int .i64 ((d:Int)+1),.int .i64 (al A:Nat)] (0,0)] w')
  (fun v _=>n-(intOf v).toNat) ?_ ?_
 ·exact ⟨0,Yx _,rfl,hh⟩
 ·clear hh;rintro ρ' v w' ⟨F,hF,rfl,hh⟩;by_cases hlt:F<n
  ·have hcast:((F:Int)/((al A:Nat):Int)) % ((d:Int)+1)=((F/al A % (d+1):Nat):Int):=by norm_cast
   have hq0:(0:Int)≤(F:Int)/((al A:Nat):Int):=Int.ediv_nonneg Yo Yo;by_cases h0:F/al A % (d+1)=0
   ·obtain ⟨u0,hfF⟩:∃u0,u0=F % al A:=⟨_,rfl⟩;obtain ⟨q,hqF⟩:∃q,q=F/al A/(d+1):=⟨_,rfl⟩;have hf:u0<al A:=by rw [hfF];exact YU _ hap
    have hFe:F=cv A d u0 0 q:=by rw [hfF,hqF,←h0,uN]
    have hq:q<al B:=by
     rw [hqF,ZS,ZH (Nat.mul_pos hap Yo)];rw [hn,dA,al] at hlt
     calc F<al A*((d+1)*al B):=hlt
      _=al B*(al A*(d+1)):=by rw [←Zw,YO]
    have hpl:∀i,i≤d→cv A d u0 i q<n:=fun i hi=>by rw [hn];exact nW hf hi hq
    have hpi:∀i,cv A d u0 i q=F+i*al A:=fun i=>by rw [hFe];exact Kj A d u0 i q
    have hxl:(da A d X u0 q).length=d+1:=by simp [da]
    have hxz:∀y∈da A d X u0 q,Sz k y:=fun y hy=>by
     obtain ⟨i,hi,rfl⟩:=YF.1 hy;exact pU hx _
    obtain ⟨ad,hCA,hr⟩:=hS.at_ Yo;rw [hCA] at*;refine sr ?_;refine a9 (aa (ah (cT (aq (ai (ah (ar (sr (mI (aI (aa (ah (ah ?_)))))))))))));refine Ru ?_;refine dJ ?_;refine dR ?_;refine fW 1 ?_;refine S4 ?_;refine dR ?_;refine fW 1 ?_;refine aH ?_;intro f W hJ hV;have hb_5:=hJ.bl;obtain ⟨v25,v24,v23,v22,v21,v20,_⟩:=hV;replace hh:=hJ.hp;refine aN (a6 (ae v25 (ae v24 (ae v23 (ae v22 (ae v21 (ae v20 aO))))))) ?_;dsimp only [bP];clear hJ;refine q8 ?_;refine dn (aa (cF (aq (ai (sr (aL (aa (ah (sr (bo ?_))))))))));refine bp hh 1 ?_;refine mI (aa (ar ?_));replace hh:=hh.dm 33 3;refine bH [9,10,30,31,32,33,34,35,36,37,38,39,40,41,42,43,44,45] 9 30
     (fun a v w'=>∃(i:Nat) (A':Option Addr) (c':Nat),i≤d+1∧v=.int .i64 i∧a=.slice A' i c'∧Hp w [.row A' i c' 33 3 (aA NR.cells (((da A d X u0 q).take i).map nR)),.row A14 n c14 33 3 (aA NR.cells ((lk A d L φ X F 0).map nR)),.blk b3 184 [.int .i64 ((d:Int)+1),.int .i64 (al A:Nat)] (0,0)] w')
     (fun _ v _=>d+1-(intOf v).toNat) ?_ ?_
    ·exact ⟨0,none,0,Yx _,rfl,rfl,hh⟩
    ·clear hh;rintro ρ2 a_ v w2 ⟨i,A',c',hi,rfl,rfl,hh⟩;by_cases hil:i<d+1
     ·obtain ⟨y,hy⟩:=ao (l:=da A d X u0 q) (k:=i) Yo;have hyx:(X.map nR)[cv A d u0 i q]?=some (nR y):=by
       have h1:=hpl i Yo;unfold da at hy;rw [YJ,ZF hil] at hy;have h2:(X[cv A d u0 i q]?).getD 0=y:=Zg hy;rw [YJ,mg (show cv A d u0 i q<X.length by omega)];show some (nR (hH X _))=_;unfold hH;rw [h2]
      have hpn:=hpl i Yo;have hpq:=hpi i;obtain ⟨m,hm⟩:∃m,m=i*al A:=⟨_,rfl⟩;have hmi:(i:Int)*((al A:Nat):Int)=(m:Int):=by rw [hm];exact (ZB _ _).symm
      rw [←hm] at hpq;refine sr ?_;refine a9 (aa (ah (cT (aq (ai (ah (ar (sr (mI (aI (aa (ak (mL (mL (mI (mI (bo ?_)))))))))))))))));refine bp hh 2 ?_;refine mulC ?_;refine a8 ?_;refine cN (k:=(cv A d u0 i q)) bG.out aJ.size rfl rfl Yo Yo Yp ?_;refine cg (vs:=[_,_,_]) aJ.out rfl ((hr.ext hh.below).recAt NR.len hyx) rfl Yp ?_;refine rW ?_;intro b43 w43 hh;refine pB ?_;intro A44 c44 w44 hh;simp only [YG,Y8] at hh;replace hh:=hh.sub (Zc _ _);refine lE ?_;refine a8 (mI (aD (ai ?_)));have e1:aA NR.cells (((da A d X u0 q).take i).map nR)++[.bool (nR y).neg,.string (nR y).aY,.int .i64 (nR y).e]=aA NR.cells (((da A d X u0 q).take (i+1)).map nR):=by rw [aw hy,ZD,bM,Y6,Zv,rA];rfl
      rw [e1] at hh;refine ⟨⟨i+1,A44,c44,Yo,rfl,rfl,hh⟩,by show d+1-(i+1)<d+1-i;omega, ?_⟩;exact er
     ·obtain rfl:i=d+1:=Yo;rw [YC Yo] at hh;refine sr ?_;refine nj ?_;refine iY ?_;refine mL ?_;refine gU (hg (da A d X u0 q) A' c' _ (hT.hp hh) hxz (hh.az (i:=0) rfl)) au.out rfl rfl Yp ?_;rintro e_ w48 ⟨E,ec,rfl,h4⟩;refine ⟨_,rfl, ?_⟩;replace hh:=hh.join h4;clear h4;simp only [YB,Yz] at hh;replace hh:=hh.sub (Yv _ (Yw _ (Yv _ (Yv _ YR))));have hφl:=hφ (da A d X u0 q) hxl;refine aM (mI (aa (ar ?_)));refine aT [11,12,50,51,52,53,54,55,56,57,58,59,60,61,62,63,64] 50
       (fun v w'=>∃j:Nat,j≤L∧v=.int .i64 j∧Hp w [.row E L ec 33 3 (aA NR.cells ((φ (da A d X u0 q)).map nR)),.row A14 n c14 33 3 (aA NR.cells ((lk A d L φ X F j).map nR)),.blk b3 184 [.int .i64 ((d:Int)+1),.int .i64 (al A:Nat)] (0,0)] w')
       (fun v _=>L-(intOf v).toNat) ?_ ?_
      ·exact ⟨0,Yx _,rfl,hh⟩
      ·clear hh;rintro ρ3 v w3 ⟨j,hj,rfl,hh⟩;by_cases hjl:j<L
       ·obtain ⟨y,hy⟩:=ao (l:=φ (da A d X u0 q)) (k:=j) Yo;have hyn:((φ (da A d X u0 q)).map nR)[j]?=some (nR y):=by rw [YJ,hy];rfl
        have hpn:=hpl j Yo;have hpq:=hpi j;have hset:=NJ (φ:=φ) (X:=X) (q:=q) hf hjl (show j≤d by omega);rw [←hFe,show hH (φ (da A d X u0 q)) j=y by unfold hH;rw [hy];rfl] at hset;obtain ⟨m,hm⟩:∃m,m=j*al A:=⟨_,rfl⟩;have hmi:(j:Int)*((al A:Nat):Int)=(m:Int):=by rw [hm];exact (ZB _ _).symm
        rw [←hm] at hpq;have hll:((lk A d L φ X F j).map nR).length=n:=by rw [YI,jU];exact hXl
        generalize lk A d L φ X F j=S at*;generalize cv A d u0 j q=P at*;have hrl:=fj NR.len (S.map nR);obtain ⟨gr,rfl⟩:=hh.cq (i:=0) rfl Yo;obtain ⟨go,rfl⟩:=hh.cq (i:=1) rfl Yo;refine sr ?_;refine dY ?_;refine ni ?_;refine cg (vs:=[_,_,_]) aJ.out rfl (hh.dT (f:=NR.cells) (x:=nR y) (l:=(φ (da A d X u0 q)).map nR) (i:=0) rfl NR.len Yp hyn) rfl Yp ?_;refine bC hh ?_;intro b12 w12 hh;refine aI ?_;refine bg hh 0 [_,_,_] ?_;intro ws hh;replace hh:Hp _ (.blk _ _ [_,_,_] _::_) _:=hh;refine aa (ak (mL (mI (mI (bo ?_)))));refine bp hh 3 ?_;refine mulC ?_;refine a8 ?_;refine bJ hh 0 [_,_,_] ?_;refine cJ (k:=P) bG.out aJ.size rfl rfl Yo Yo Yp ?_;refine ct hh (i:=2) (vs:=[_,_,_]) rfl rfl (gl rfl) rfl aJ.out rfl Yo rfl ?_;intro ws hh;simp only [YG,Y8] at hh;rw [show cm (aA NR.cells (S.map nR)) (P*3) [.bool (nR y).neg,.string (nR y).aY,.int .i64 (nR y).e]=aA NR.cells ((S.map nR).set P (nR y)) from eX NR.len Yo,←aaB,hset] at hh;refine gu ?_;refine a8 (mI (aD (ai ?_)))
        replace hh:=hh.sub (Yw _ (Yv _ (Yv _ (Yv _ YR))));refine ⟨⟨j+1,Yo,rfl,hh⟩,by show L-(j+1)<L-j;omega, ?_⟩;exact er
       ·rw [Jf (show L≤j by omega)] at hh;refine sr ?_;refine rQ ?_;refine a8 (mI (aD (ai ?_)));replace hh:=hh.sub (Yw _ (Yv _ (Yv _ YR)));refine ⟨⟨F+1,Yo,rfl,hh⟩,by show n-(F+1)<n-F;omega, ?_⟩;exact er
   ·rw [J7 h0] at hh;refine sr ?_;refine a9 (aa (ah (cT (aq (ai (ah (ar (sr (mI (aI (aa (ah (ah ?_)))))))))))));refine Ru ?_;refine dJ ?_;refine dR ?_;refine fW 1 ?_;refine S4 ?_;refine dR ?_;refine fW 1 ?_;refine aH ?_;intro f W hJ hV;have hb_5:=hJ.bl;obtain ⟨v25,v24,v23,v22,v21,v20,_⟩:=hV;replace hh:=hJ.hp;refine aN (a6 (ae v25 (ae v24 (ae v23 (ae v22 (ae v21 (ae v20 aO))))))) ?_;dsimp only [bP];clear hJ;refine q8 ?_;refine dn (aa (cT (aX (aE (bA (ai (ak ?_)))))));refine a8 (mI (aD (ai ?_)));refine ⟨⟨F+1,Yo,rfl,hh⟩,by show n-(F+1)<n-F;omega, ?_⟩;exact er
  ·obtain rfl:F=n:=Yo;exact VX
def rC (p:PX) (ds:List Int):List Int:=if ds.length=0 then yj p.v p.ts else ds
def WS (p:PX) (ds:List Int):List Nat:=(rC p ds).map Int.toNat
def nS (p:PX) (b:List SR) (ds:List Int):Int:=if ph p b (rC p ds)≠0 then ph p b (rC p ds) else (jI p (df b)).1
theorem Ph {ns:List Nat}{i d:Nat} (h:ns[i]?=some d):ns.reverse=(ns.drop (i+1)).reverse++d::(ns.take i).reverse:=by
 have e:ns=ns.take i++d::ns.drop (i+1):=by rw [←im h,Zy]
 conv=>lhs;rw [e]
 rw [aa8,aaS,Y5]
 rfl
theorem UH (ds:List Nat):X0 ds (ua [])=List.replicate (al ds) 0:=vc _
theorem QE {i:Nat}{t:TR} (hl:∀t∈l,l5 ds (jM t.m).reverse) (hr:xC l) (ht:l[i]?=some t):(X0 ds (ua (l.take i))).set (dV ds (jM t.m).reverse) t.c.d=X0 ds (ua (l.take (i+1))):=by
 have hok:=hl t (Yy ht);have hp:=lB hok;have h0:(X0 ds (ua (l.take i)))[dV ds (jM t.m).reverse]?=some 0:=by
  unfold X0;rw [mO _ hp];congr 1;unfold ua;rw [Zs,wE];refine uG fun s hs=>Yu fun e=> ?_;replace e:dV ds (jM s.m).reverse=dV ds (jM t.m).reverse:=e;have e2:(jM s.m).reverse=(jM t.m).reverse:=by rw [←kj (hl s (aad hs)),e,kj hok]
  have e3:s.m=t.m:=Oo (List.reverse_inj.1 e2);obtain ⟨j,hj⟩:=ZU.1 hs;have hji:j<i:=by have:=(YL.1 hj).1;rw [YM] at this;omega
  rw [List.getElem?_take_of_lt hji] at hj;have h1:=(YL.1 hj);have h2:=(YL.1 ht);have h3:=List.pairwise_iff_getElem.1 hr j i h1.1 h2.1 hji;rw [h1.2,h2.2,e3,j0] at h3
  cases h3
 have h1:=zG (v:=t.c.d) (show (ji (al ds) ((ua (l.take i)).map fun (q:List Nat×Dyadic)=>(dV ds q.1,q.2)))[dV ds (jM t.m).reverse]?=some 0 from h0);rw [aaI] at h1;show (ji (al ds) ((ua (l.take i)).map fun (q:List Nat×Dyadic)=>(dV ds q.1,q.2))).set _ _=_;rw [h1,aw ht];unfold X0 ua;rw [ZD,ZD]
 rfl
set_option maxRecDepth 10000 in
theorem yI (p:PX) (L:Option Addr) (n c:Nat) (b:List SR) (M:Option Addr) (m mc:Nat) (ds:List Int) (k:Nat) (w:World) (hT:dP w) (hp:p.at_ w) (lp:p.jX k) (hB:Sl w L n 6 (aA SR.cells b)) (hb:∀s∈b,s.fin k) (hn:n≤1000000) (hD:Sl w M m 1 (bD ds)) (hm:m≤1000000) (hmc:m≤mc) (hk:k≤1000)
  (hgr:ph p b (rC p ds)=0→jA (k+k+16394) (iq p.v p.ts) (k+1)≤440000):
  Calls Tryz.prog 106 #[.agg #[.int .i64 p.v,.slice p.A p.n p.c],.slice L n c,.slice M m mc] w fun r w'=>∃g:FX,Out (nS p b ds) (WS p ds) (FF (WS p ds) (jI p (df b)).2) g∧r=.returned (.tuple #[.agg #[.slice g.A g.n g.a,.slice g.B g.m g.b],.int .i64 (nS p b ds)])∧Hp w [g.kB,g.kD] w':=by
 have hh:=Hp.start w;have hbl:b.length=n:=hB.bk SR.len Yp;have hdl:ds.length=m:=by have:=hD.1;rw [cQ] at this;omega
 have hok:∀s∈b,s.ok:=fun s hs=>⟨(hb s hs).1.ok,(hb s hs).2.ok⟩;have hDd:rC p ds=if m=0 then yj p.v p.ts else ds:=by unfold rC;rw [hdl]
 have hoN:WS p ds=(rC p ds).map Int.toNat:=rfl;have hoE:nS p b ds=if ph p b (rC p ds)≠0 then ph p b (rC p ds) else (jI p (df b)).1:=rfl
 rw [hoN,hoE];clear hoN hoE;generalize rC p ds=D at*;refine aj (N:=94) (l:=[.agg #[.int .i64 p.v,.slice p.A p.n p.c],.slice L n c,.slice M m mc]) Tryz.func106 rfl rfl (by simp) ?_;refine sr ?_;refine bO hh [_,_] ?_;intro b3 w3 hh;refine bC hh ?_;intro b6 w6 hh;refine aI (aa ?_);refine yq [2,18,19,20,21,22] 2
  (fun v w'=>∃(M2:Option Addr) (m2 mc2:Nat) (R:List HE),v=.slice M2 m2 mc2∧m2≤mc2∧m2≤1000000∧D.length=m2∧(∀(H:List HE) (w1:World),Hp w (H++R) w1→Sl w1 M2 m2 1 (bD D))∧Hp w (.blk b6 25 [.slice none 0 0,.slice none 0 0] (0,0)::.blk b3 52 [.int .i64 p.v,.slice p.A p.n p.c] (0,0)::R) w') ?_ ?_
 ·by_cases hm0:m=0
  ·subst hm0;rw [Yt rfl] at hDd;have hdg:=fun w1 hT1 hb=>th p k w1 hT1 (hp.ext hb) lp;rw [←hDd] at hdg;have hl4:D.length≤1000000:=by
    rw [hDd];unfold yj;split
    ·rename_i hpe;have:=jb.1 (fa hpe).1;rw [hU];omega
    ·exact Yx _
   refine sr (mL (aM ?_));refine cH (aa (cT (ak ?_)));refine bJ hh 1 [_,_] ?_;refine ay (hdg _ (hT.hp hh) hh.below) au.out rfl Yp ?_;rintro e_ w22 ⟨G,gc,rfl,h4⟩;refine ⟨_,rfl, ?_⟩;have hgc:D.length≤gc:=h4.gG (i:=0) rfl;replace hh:=hh.join h4;clear h4;simp only [YB,Yz] at hh;refine aL (aa ?_);replace hh:=hh.perm (Zp (l₁:=[_,_]));simp only [YB,Yz] at hh;replace hh:=hh.perm (Zp (l₁:=[_,_]));simp only [YB,Yz] at hh;refine ⟨⟨G,D.length,gc,_,rfl,hgc,hl4,rfl,fun H w1 h1=>lz (h1.own (.row G D.length gc 3 1 (bD D)) (Zu _ YD)),hh⟩, ?_⟩;exact O1
  ·rw [Yu hm0] at hDd;refine sr (mL (aM ?_));refine cH (aa (cF (aq (ai ?_))));refine ⟨⟨M,m,mc,[],rfl,hmc,hm,by rw [hDd];exact hdl,fun H w1 h1=>by rw [hDd];exact hD.ext h1.below,hh⟩, ?_⟩;exact O1
 ·skip;clear hh hDd hdl hD hm hmc;rintro ρ' v w' ⟨M2,m2,mc2,R,rfl,hmc2,hm2,hDl,hrd,hh⟩;have hfi:=fun w1 hT1 hb1 hd=>vR p L n c b M2 m2 mc2 D k w1 hT1 (hp.ext hb1) lp (hB.ext hb1) hok hn hd hm2;by_cases hE:ph p b D≠0
  ·rw [Yt hE];generalize ph p b D=E at*;refine ah (sr ?_);refine bJ hh 1 [_,_] (mL (mL ?_));refine bj hh (hfi _ (hT.hp hh) hh.below (hrd [_,_] _ hh)) rfl ?_;intro w26 hh;refine aI (aa (sr (mI ?_)));refine dn (aa (cT (sr ?_)));refine fe [_,_] (mI ?_);refine bg hh 0 [_,_] ?_;intro ws hh;replace hh:Hp _ (.blk _ _ [_,_] _::_) _:=hh;refine aI (aa (av (aF ?_)));refine u7 ?_;exact ⟨FX.nil,Out.err hE,rfl,(hh.sub (Zx _)).OU⟩
  ·rw [Yu hE];have hE0:ph p b D=0:=Yo;obtain ⟨hnat,hF⟩:=TP hE0;rw [hE0] at hfi;have hpe:=hF.e;have hn0:=hF.pos;have hn12:=hF.Lr;have hnl:=hF.nl;have hlow:=hF.low;have hmost:=hF.most;have hgr2:=hgr hE0;obtain ⟨_,o2,o3⟩:=Bf hpe;have hwi:=fun w1 hT1 hb1=>AJ p L n c b k (iq p.v p.ts) w1 hT1 (hp.ext hb1) lp (hB.ext hb1) hb (by rw [hF.v,hbl]) Yo Yo hk (by rw [hF.IG];exact hbl) (fun i d hd=>⟨(o3 i d hd).1,(o3 i d hd).2.1⟩) hgr2;have hsp:=Jp hF lp.ok hb hk hgr2;clear hgr hgr2 o2 o3 hfi;have hfi:=fun w1 hT1 hb1 hd=>vR p L n c b M2 m2 mc2 D k w1 hT1 (hp.ext hb1) lp (hB.ext hb1) hok hn hd hm2;rw [hE0] at hfi;clear hE hE0;have hcnt:jq 1 D=((al (D.map Int.toNat):Nat):Int):=by
    have h8:=kY (D.map Int.toNat) 1 (YA _) Yp hlow;rw [←hnat,aaC,Yt hmost] at h8;exact h8
   have hco:=fun w1 hd=>fP M2 m2 mc2 D w1 hd hm2;rw [hcnt] at hco;have hcl:=fun w1 hd=>m6 M2 m2 mc2 D w1 hd hm2;have hm2n:m2=n:=by rw [←hDl,←hbl,←hnl,YI]
   generalize hns:D.map Int.toNat=ns at*;generalize (jI p (df b)).1=E at*;generalize (jI p (df b)).2=S at*;have hN0:=di ns;refine ah (sr ?_);refine bJ hh 1 [_,_] (mL (mL ?_));refine bj hh (hfi _ (hT.hp hh) hh.below (hrd [_,_] _ hh)) rfl ?_;intro w26 hh;refine aI (aa (sr (mI ?_)));refine qY ?_;refine bJ hh 1 [_,_] (mL ?_);refine ay (hwi _ (hT.hp hh) hh.below) au.out rfl Yp ?_;rintro e_ w34 ⟨q,oq,rfl,h4⟩;refine ⟨_,rfl, ?_⟩;replace hh:=hh.join h4;clear h4;simp only [YB,Yz] at hh;replace hh:=show Hp w (.row q.A q.n q.c 95 4 (aA TR.cells q.ts)::_) _ from hh;by_cases hE2:E≠0
   ·refine mT ?_;refine cx ?_;refine cx ?_;refine bC hh ?_;intro b9 w9 hh;refine bg hh 0 [_,_] ?_;intro ws hh;replace hh:Hp _ (.blk _ _ [_,_] _::_) _:=hh;refine aI (aa (ah (sr (mI ?_))));refine dn (aa (cT (sr ?_)));refine fe [_,_] (mI ?_);refine bg hh 2 [_,_] ?_;intro ws hh;replace hh:Hp _ (_::_::.blk _ _ [_,_] _::_) _:=hh;refine aI (aa (av (aF ?_)));refine pJ ?_;exact ⟨FX.nil,Out.err hE2,rfl,(hh.sub (Zx _)).OU⟩
   ·have hE0:E=0:=Yo;subst hE0;obtain ⟨hso,hsr⟩:=hsp rfl;have et:q.ts=S:=oq.t0;rw [et] at hh;clear oq et;generalize q.v=qv at*;generalize q.A=qA at*;generalize q.n=qn at*;generalize q.c=qc at*;have hSl:S.length=qn:=(hh.az (i:=0) rfl).bk TR.len Yp;have hSn:=hso.len;obtain ⟨_,_,hSm,hSc⟩:=fa hso.e;refine mT ?_;refine cx ?_;refine cx ?_;refine bC hh ?_;intro b9 w9 hh;refine bg hh 0 [_,_] ?_;intro ws hh;replace hh:Hp _ (.blk _ _ [_,_] _::_) _:=hh;refine aI (aa (ah (sr (mI ?_))));refine dn (aa (cF (aq (ai (sr (mL ?_))))));refine ay (hcl _ (hrd [_,_,_,_] _ hh)) au.out rfl Yp ?_;rintro e_ w42 ⟨A42,c42,rfl,hown_,hb_⟩;refine ⟨_,rfl, ?_⟩;replace hh:=hh.aP (x:=.row _ _ _ _ _ _) hb_ hown_;refine mL ?_;refine bj hh (hco _ (hrd [_,_,_,_,_] _ hh)) rfl ?_;intro w44 hh;refine gj (n:=(al ns)) hh rfl rfl Yo Yo bG.out aJ.out rfl Yo Yo Yp ?_;intro b45 w45 hh;refine fe [_,_] ?_;refine bC hh ?_;intro b11 w11 hh;refine bg hh 0 [_,_] ?_;intro ws hh;replace hh:Hp _ (.blk _ _ [_,_] _::_) _:=hh;refine aa (ah (sr (bo ?_)));refine bp hh 3 ?_;refine aM (mI (aa (ar ?_)));rw [sw,←cI ns,←UH ns.reverse,cI] at hh
    refine aT [13,14,15,16,50,51,52,53,54,55,56,57,58,59,60,61,62,63,64,65,66,67,68,69,70,71,72,73,74,75,76,77,78,79] 50
     (fun v w'=>∃i:Nat,i≤qn∧v=.int .i64 i∧Hp w (.blk b11 25 [.slice A42 m2 c42,.slice (some ⟨b45,0,none⟩) (al ns) (al ns)] (0,0)::.row (some ⟨b45,0,none⟩) (al ns) (al ns) 33 3 (aA NR.cells ((X0 ns.reverse (ua (S.take i))).map nR))::.row A42 m2 c42 3 1 (bD D)::.blk b9 52 [.int .i64 qv,.slice qA qn qc] (0,0)::.row qA qn qc 95 4 (aA TR.cells S)::.blk b6 25 [.slice none 0 0,.slice none 0 0] (0,0)::.blk b3 52 [.int .i64 p.v,.slice p.A p.n p.c] (0,0)::R) w')
     (fun v _=>qn-(intOf v).toNat) ?_ ?_
    ·exact ⟨0,Yx _,rfl,hh⟩
    ·clear hh;rintro ρ2 v w2 ⟨i,hi,rfl,hh⟩;by_cases hlt:i<qn
     ·obtain ⟨x,hx⟩:=ao (l:=S) (k:=i) Yo;have hxm:=Yy hx;have hxo:=hsr x hxm;have hx2:=hSm x hxm;unfold iu at hx2;rw [YP,YX] at hx2;have hxs:x.m.size=n:=Yo;have hxz:=hso.sz x hxm;have hxc:x.c=nR x.c.d:=hSc.nf x hxm;have hex:kg x.m.data.toList=bq (jM x.m):=by rw [mb hx2.1,JR]
      have hesl:(jM x.m).length=n:=by rw [Ec];exact hxs
      have hel:(kg x.m.data.toList).length=n:=by rw [hex,dr];exact hesl
      have hset:=QE hsr hSc.uf hx;have hX0l:((X0 ns.reverse (ua (S.take i))).map nR).length=al ns:=by rw [YI];unfold X0;rw [jS,cI]
      have hcell:aA TR.cells S=aA TR.cells S:=rfl;have hokat:∀(j d r:Nat),ns[j]?=some d→(jM x.m)[j]?=some r→r≤d:=fun j d r hd hr=>by
       have hj:=(YL.1 hd).1;refine ((pS _ _).1 hxo).2 (n-1-j) d r ?_ ?_
       ·rw [aam Yo,show ns.length-1-(n-1-j)=j by omega];exact hd
       ·rw [aam Yo,show (jM x.m).length-1-(n-1-j)=j by omega];exact hr
      obtain ⟨gq,rfl⟩:=hh.cq (i:=4) rfl Yo;refine sr ?_;refine dI ?_;refine il ?_;refine cg (vs:=[_,_,_,_]) aJ.out rfl (hh.dT (f:=TR.cells) (x:=x) (l:=S) (i:=4) rfl TR.len Yp hx) rfl Yp ?_;refine bC hh ?_;intro b13 w13 hh;refine bg hh 0 [_,_,_,_] ?_;intro ws hh;replace hh:Hp _ (.blk _ _ [_,_,_,_] _::_) _:=hh;refine aa (sr (aI (aa (ah (sr (bo ?_))))));refine bp hh 0 ?_;refine ay (j4 x.m _ hxz) au.out rfl Yp ?_;rintro e_ w56 ⟨A56,c56,rfl,hown_,hb_⟩;refine ⟨_,rfl, ?_⟩;replace hh:=hh.aP (x:=.row _ _ _ _ _ _) hb_ hown_;rw [hel,hex] at hh;rw [hel];refine aM (mI (aa (ar ?_)));refine bH [14,15,16,58,59,60,61,62,63,64,65,66,67,68,69,70,71,72] 14 58
       (fun a v w'=>∃(j z:Nat),j≤n∧v=.int .i64 j∧a=.int .i64 z∧z=dV (ns.take j).reverse ((jM x.m).take j).reverse∧z<al (ns.take j)∧Hp w (.row A56 n c56 3 1 (bD (bq (jM x.m)))::.blk b13 95 [.string x.m,.bool x.c.neg,.string x.c.aY,.int .i64 x.c.e] (0,0)::.blk b11 25 [.slice A42 m2 c42,.slice (some ⟨b45,0,none⟩) (al ns) (al ns)] (0,0)::.row (some ⟨b45,0,none⟩) (al ns) (al ns) 33 3 (aA NR.cells ((X0 ns.reverse (ua (S.take i))).map nR))::.row A42 m2 c42 3 1 (bD D)::.blk b9 52 [.int .i64 qv,.slice (some ⟨gq,0,none⟩) qn qc] (0,0)::.row (some ⟨gq,0,none⟩) qn qc 95 4 (aA TR.cells S)::.blk b6 25 [.slice none 0 0,.slice none 0 0] (0,0)::.blk b3 52 [.int .i64 p.v,.slice p.A p.n p.c] (0,0)::R) w')
       (fun _ v _=>n-(intOf v).toNat) ?_ ?_
      ·exact ⟨0,0,Yx _,rfl,rfl,rfl,Nat.one_pos,hh⟩
      ·clear hh;rintro ρ3 a_ v w3 ⟨j,z,hj,rfl,rfl,hz,hz2,hh⟩;by_cases hjn:j<n
       ·obtain ⟨d,hd⟩:=ao (l:=ns) (k:=j) Yo;obtain ⟨r,hr⟩:=ao (l:=jM x.m) (k:=j) Yo;have hrd2:=hokat j d r hd hr;have hd7:=hlow d (Yy hd);have hgD:(bD D)[j]?=some (.int .i64 (d:Int)):=by rw [hnat];exact cK (eO hd)
        have hgE:=cK (eO hr);have hst:=DZ hd hr;have hcs:=Es hd;rw [cI,cI] at hcs;rw [←hz] at hst;have hct:=ez ns (j+1);have hnew:r+(d+1)*z<(d+1)*al (ns.take j):=by
         have:(d+1)*(z+1)≤(d+1)*al (ns.take j):=Y4 _ hz2;rw [ZZ] at this;omega
        have hpr:(z:Int)*((d:Int)+1)=(((d+1)*z:Nat):Int):=by rw [YO,ZB,ZQ];rfl
        have hDs:=hrd [_,_,_,_,_,_,_,_,_] _ hh;obtain ⟨ad,hMe,hsr2⟩:=hDs.at_ Yo;have rX:Value.slice M2 m2 mc2=.slice (some ad) m2 mc2:=by rw [hMe]
        have hel2:(bD (bq (jM x.m))).length=n:=by rw [cQ,dr];exact hesl
        obtain ⟨gx,rfl⟩:=hh.cq (i:=0) rfl Yo;refine sr ?_;refine dY ?_;refine ni ?_;refine kZ ?_;refine aI (aI (aa (ak (mI (mL (mI ?_))))));refine tP ?_;refine bY aJ.out rfl (hsr2.tN hgD) Yp ?_;refine a8 ?_;refine mulC (mI ?_);refine a8 (aI (aD (bz (ai (ak ?_)))));refine a8 (mI (aD (ai ?_)));rw [hpr];refine ⟨⟨j+1,r+(d+1)*z,Yo,rfl, ?_,hst.symm,Yo,hh⟩,by show n-(j+1)<n-j;omega, ?_⟩
        ·show Value.int IntKind.i64 ((((d+1)*z:Nat):Int)+(r:Int))=_;rw [show (((d+1)*z:Nat):Int)+(r:Int)=((r+(d+1)*z:Nat):Int) by omega]
        ·exact er
       ·obtain rfl:j=n:=Yo;rw [YC Yo,YC Yo] at hz;rw [YC Yo] at hz2;rw [←hz] at hset;generalize X0 ns.reverse (ua (S.take i))=X at*;have hrl:=fj NR.len (X.map nR);refine sr ?_;refine a9 (aa (ah (cF (aX (aE (aE (bA (ai (ak (bo ?_))))))))));refine bp hh 2 ?_;refine mI (bo ?_);refine bJ hh 1 [_,_,_] ?_;refine cJ (k:=z) bG.out aJ.size rfl rfl Yo Yo Yp ?_;refine Ic ?_;intro ws hh;simp only [YG,Y8] at hh;rw [hxc,show cm (aA NR.cells (X.map nR)) (z*3) [.bool (nR x.c.d).neg,.string (nR x.c.d).aY,.int .i64 (nR x.c.d).e]=aA NR.cells ((X.map nR).set z (nR x.c.d)) from eX NR.len Yo,←aaB,hset] at hh;refine gu ?_;refine a8 (mI (aD (ai ?_)));replace hh:=hh.sub (Yw _ (Yw _ (Yv _ (Yv _ (Yv _ (Yv _ (Yv _ (Yv _ (Yv _ (Zq _))))))))));refine ⟨⟨i+1,Yo,rfl,hh⟩,by show qn-(i+1)<qn-i;omega, ?_⟩;exact er
     ·obtain rfl:i=qn:=Yo;rw [YC Yo,show X0 ns.reverse (ua S)=qH ns.reverse (ua S) 0 from rfl] at hh;have hoff:=LL hsr;have hXz:=LD (Vv (ds:=ns.reverse) hso.ok) (fun d hd=>hlow d (aau.1 hd));have hnr:ns.reverse.length=n:=by rw [Y9];omega
      refine sr ?_;refine a9 (aa (ah (cF (aX (aE (aE (bA (ai (ah (sr (mL (aM (mI (aa (ar ?_)))))))))))))));replace hh:=hh.sub (Yv _ (Yv _ (Yv _ (Yw _ (Yw _ (Yv _ (Yv _ (Zq _))))))));refine aT [17,82,83,84,85,86,87,88,89,90,91,92] 82
       (fun v w'=>∃(j:Nat) (A:Option Addr) (ac:Nat),j≤n∧v=.int .i64 j∧Hp w (.blk b11 25 [.slice A42 m2 c42,.slice A (al ns) ac] (0,0)::.row A (al ns) ac 33 3 (aA NR.cells ((qH ns.reverse (ua S) j).map nR))::.row A42 m2 c42 3 1 (bD D)::.blk b6 25 [.slice none 0 0,.slice none 0 0] (0,0)::.blk b3 52 [.int .i64 p.v,.slice p.A p.n p.c] (0,0)::R) w')
       (fun v _=>n-(intOf v).toNat) ?_ ?_
      ·exact ⟨0,_,_,Yx _,rfl,hh⟩
      ·clear hh;rintro ρ4 v w4 ⟨j,A,ac,hj,rfl,hh⟩;by_cases hjn:j<n
       ·obtain ⟨d,hd⟩:=ao (l:=ns) (k:=j) Yo;have hd7:=hlow d (Yy hd);have hrm:=Ph hd;have hol:(qH ns.reverse (ua S) j).length=al ns:=by rw [C3,cI]
        have hof:=fun w1 hs=>AD M2 m2 mc2 j d ns w1 (by rw [←hnat];exact hs) hmc2 Yo hd hlow hmost;have hcn:al ns=al ((ns.drop (j+1)).reverse++d::(ns.take j).reverse):=by rw [←hrm,cI]
        have hli:=fun w1 hT1 hS1=>BN 156 (ns.drop (j+1)).reverse (ns.take j).reverse d (d+1) (eh d (gD d 1 1)) A (al ns) ac (440000+S.length+520*j) (qH ns.reverse (ua S) j) w1 hT1 hS1 hcn hmost (YA _) hd7 (hXz j) (fun Y E ec w2 hT2 hy hs=>AW E (d+1) ec d Y _ w2 hT2 hs rfl hd7 hy Yo) (fun Y _=>by simp [eh]);have hM:=Ti (M:=gD d 1 1) (A:=(ns.drop (j+1)).reverse) (B:=(ns.take j).reverse) (X:=qH ns.reverse (ua S) j) (hol.trans hcn);have hsu:=sH ns.reverse (ua S) j;have hgd:ns.reverse.getD (ns.reverse.length-1-j) 0=d:=by
         rw [aao,aam Yo,show ns.length-1-(ns.reverse.length-1-j)=j by omega,hd]
         rfl
        rw [hgd,show ns.reverse.length-1-j=(ns.drop (j+1)).reverse.length by rw [Y9,Y9,Zz];omega] at hsu;rw [hol,←hrm,←hsu] at hM;rw [hM,cI] at hli;clear hM hsu hgd hcn;refine sr ?_;refine LF ?_;refine aK 5 [[(2,none)],[(17,none)],[(85,some 0),(86,some 1)],[(11,none)],[(88,some 3)]] [(4,89),(3,88),(2,87),(1,86),(0,85)] hh mixed Yq ?_;refine gI ?_;refine dJ ?_;refine dC (fun _ hj=>hof _ (hrd [_,_,_,_,_] _ hj.hp)) ?_;refine dR ?_;refine fW 0 ?_;refine aH ?_;intro f W hJ hV;have hb_24:=hJ.bl;obtain ⟨v89,v88,v87,v86,v85,_⟩:=hV;replace hh:=hJ.hp;refine aN (a6 (ae v89 (ae v88 (ae v87 (ae v86 (ae v85 aO)))))) ?_;dsimp only [bP];clear hJ;refine ay (hli _ (hT.hp hh) (hh.az (i:=1) rfl)) au.out rfl Yp ?_;rintro e_ w90 ⟨E,ec,rfl,h4⟩;refine ⟨_,rfl, ?_⟩;replace hh:=hh.join h4;clear h4;simp only [YB,Yz] at hh;refine bo ?_;refine bg hh 1 [_] ?_;intro ws hh;replace hh:Hp _ (_::.blk _ _ [_,_] _::_) _:=hh;refine gu ?_;refine a8 (mI (aD (ai ?_)))
        replace hh:=hh.sub (Yv _ (Yv _ (Yw _ (Yv _ (Yv _ (Yv _ (Zq _)))))));replace hh:=hh.perm (Zp (l₁:=[_]));simp only [YB,Yz] at hh;refine ⟨⟨j+1,E,ec,Yo,rfl,hh⟩,by show n-(j+1)<n-j;omega, ?_⟩;exact er
       ·obtain rfl:j=n:=Yo;rw [hnl,hbl] at hoff;rw [hoff] at hh;refine sr ?_;refine nj ?_;refine bJ hh 0 [_,_] ?_;refine bg hh 3 [_,_] ?_;intro ws hh;replace hh:Hp _ (_::_::_::.blk _ _ [_,_] _::_) _:=hh;refine aI (aa (av ?_));refine Ow ?_;exact ⟨⟨A42,m2,c42,A,al ns,ac,D,(FF ns S).map nR⟩,⟨hnat,rfl,by show m2≤100000;omega,by show al ns≤1000000;omega⟩,rfl,hh.sub (.cons _ (.cons_cons _ (.cons_cons _ (Zx _))))⟩
variable {cs:List Value}{g':FX}
def Jh (rest:List Value) (base:Nat) (t:TypeId) (n sz:Nat) (cs:List Value):VP:=fun v W=>∃A c,v=.agg (.slice A n c::rest).toArray∧W.ownsRow base t sz (.slice A n c) n cs
theorem Jh.ext {rest:List Value}{t:TypeId}{sz:Nat} (v:Value) (w w':World) (h:Jh rest base t n sz cs v w) (hb:Below w.heap.size w w'):Jh rest base t n sz cs v w':=let ⟨A,c,h1,h2⟩:=h;⟨A,c,h1,k8 h2 hb⟩
def pD (p:PX) (b:List SR):FX:=qZ (iq p.v p.ts) (FF (iq p.v p.ts) (jI p (df b)).2)
structure Ku (D:List Nat) (X:List Dyadic):Prop where
 d12:D.length≤12
 d127:∀d∈D,d≤127
 US:al D≤200
 lx:X.length=al D
 zx:∀x∈X,Sz 90000 x
def nF (p q:PX) (b:List SR):CV:=⟨b.map SR.f,maxD [pD p b,pD q b],lh (maxD [pD p b,pD q b]) (pD p b),lh (maxD [pD p b,pD q b]) (pD q b)⟩
def sl (p q:PX) (b:List SR):Int:=if nS p b []≠0 then nS p b [] else if nS q b []≠0 then nS q b [] else cV [pD p b,pD q b]
theorem FX.is.LZ {f:FX}{D:List Nat} (h:f.is D X) (ha:f.at_ w):f.key=(qZ D X).key:=by
 unfold FX.key qZ;rw [h.ds,h.cs,(h.key ha).1]
theorem xq {f g f':FX} (h1:f.key=f'.key) (h2:g.key=g'.key):cV [f,g]=cV [f',g']∧maxD [f,g]=maxD [f',g']∧∀D,lh D f=lh D f'∧lh D g=lh D g':=by
 obtain ⟨_,a2,a3,a4⟩:=KW (fs:=[f,g]) (gs:=[f',g']) (by simp [h1,h2]);refine ⟨a2,a3,fun D=> ?_⟩;have:=a4 D;simp only [Y6,Zv,List.cons.injEq,and_true] at this;exact this
theorem Du (p q:PX) (L:Option Addr) (n c:Nat) (b:List SR) (k:Nat) (w:World) (hT:dP w) (hp:p.at_ w) (lp:p.jX k) (hq:q.at_ w) (lq:q.jX k) (hB:Sl w L n 6 (aA SR.cells b)) (hb:∀s∈b,s.fin k) (hn:n≤1000000) (hk:k≤1000)
  (hgp:ph p b (rC p [])=0→jA (k+k+16394) (iq p.v p.ts) (k+1)≤440000) (hgq:ph q b (rC q [])=0→jA (k+k+16394) (iq q.v q.ts) (k+1)≤440000)
  (fp:nS p b []=0→Ku (pD p b).ns ((pD p b).cs.map NR.d)) (fq:nS q b []=0→Ku (pD q b).ns ((pD q b).cs.map NR.d)):
  Calls Tryz.prog 57 #[.agg #[.int .i64 p.v,.slice p.A p.n p.c],.agg #[.int .i64 q.v,.slice q.A q.n q.c],.slice L n c] w fun r w'=>∃(x:CX) (R:List HE),r=.returned (.tuple #[.agg x.cells.toArray,.int .i64 (sl p q b)])∧(sl p q b=0→x.v=nF p q b∧x.fit∧∀y∈x.rows,y∈R)∧Hp w R w':=by
 have hh:=Hp.start w;have hof1:=fun w1 hT1 hb1=>yI p L n c b none 0 0 [] k w1 hT1 (hp.ext hb1) lp (hB.ext hb1) hb hn (Sl.nil _ _ _) Yp (YA _) hk hgp;replace hof1:∀w1,dP w1→Below w.heap.size w w1→Calls Tryz.prog 106 #[.agg #[.int .i64 p.v,.slice p.A p.n p.c],.slice L n c,.slice none 0 0] w1 fun r w'=>∃g:FX,Out (nS p b []) (iq p.v p.ts) (FF (iq p.v p.ts) (jI p (df b)).2) g∧r=.returned (.tuple #[.agg #[.slice g.A g.n g.a,.slice g.B g.m g.b],.int .i64 (nS p b [])])∧Hp w1 [g.kB,g.kD] w':=hof1;have hof2:=fun w1 hT1 hb1=>yI q L n c b none 0 0 [] k w1 hT1 (hq.ext hb1) lq (hB.ext hb1) hb hn (Sl.nil _ _ _) Yp (YA _) hk hgq;replace hof2:∀w1,dP w1→Below w.heap.size w w1→Calls Tryz.prog 106 #[.agg #[.int .i64 q.v,.slice q.A q.n q.c],.slice L n c,.slice none 0 0] w1 fun r w'=>∃g:FX,Out (nS q b []) (iq q.v q.ts) (FF (iq q.v q.ts) (jI q (df b)).2) g∧r=.returned (.tuple #[.agg #[.slice g.A g.n g.a,.slice g.B g.m g.b],.int .i64 (nS q b [])])∧Hp w1 [g.kB,g.kD] w':=hof2;have hok:∀s∈b,s.ok:=fun s hs=>⟨(hb s hs).1.ok,(hb s hs).2.ok⟩;have hfo:=fun w1 hT1 hb1=>lu L n c b w1 hT1 (hB.ext hb1) hok hn
 have nsp:(pD p b).ns=iq p.v p.ts:=uQ _;have nsq:(pD q b).ns=iq q.v q.ts:=uQ _;have csp:(pD p b).cs.map NR.d=FF (iq p.v p.ts) (jI p (df b)).2:=by unfold pD qZ;rw [Zs];exact (ZV fun y _=>bL y).trans (List.map_id _)
 have csq:(pD q b).cs.map NR.d=FF (iq q.v q.ts) (jI q (df b)).2:=by unfold pD qZ;rw [Zs];exact (ZV fun y _=>bL y).trans (List.map_id _)
 rw [nsp,csp] at fp;rw [nsq,csq] at fq;clear nsp nsq csp csq;have eP:pD p b=qZ (iq p.v p.ts) (FF (iq p.v p.ts) (jI p (df b)).2):=rfl;have eQ:pD q b=qZ (iq q.v q.ts) (FF (iq q.v q.ts) (jI q (df b)).2):=rfl;unfold nF sl;rw [eP,eQ];clear eP eQ;generalize FF (iq p.v p.ts) (jI p (df b)).2=X at*;generalize FF (iq q.v q.ts) (jI q (df b)).2=Y at*;generalize iq p.v p.ts=DP at*;generalize iq q.v q.ts=DQ at*;generalize nS p b []=E1 at*;generalize nS q b []=E2 at*;by_cases hE1:E1≠0
 ·rw [Yt hE1];refine Nw ?_;refine sr ?_;refine bO hh [_,_] ?_;intro b3 w3 hh;refine bO hh [_,_] ?_;intro b4 w4 hh;refine bC hh ?_;intro b6 w6 hh;refine aI (aa (sr ?_));refine bJ hh 2 [_,_] (mL ?_);refine ay (hof1 _ (hT.hp hh) hh.below) au.out rfl Yp ?_;rintro e_ w16 ⟨f,o1,rfl,h3⟩;refine ⟨_,rfl, ?_⟩;replace hh:=hh.join h3;simp only [YB,Yz] at hh;clear h3;refine mT ?_;refine cx ?_;refine cx ?_;refine bC hh ?_;intro b8 w8 hh;refine bg hh 0 [_,_] ?_;intro ws hh;replace hh:Hp _ (.blk _ _ [_,_] _::_) _:=hh;refine aI (aa (ah (sr (mI ?_))));refine dn (aa (cT (sr ?_)));refine fe [_,_,_,_,_] (mI ?_);refine bg hh 3 [_,_,_,_,_] ?_;intro ws hh;replace hh:Hp _ (_::_::_::.blk _ _ [_,_,_,_,_] _::_) _:=hh;refine aI (aa (av (aF ?_)));refine Ib (cj rfl (cf (vs:=[_,_,_,_,_]) aJ.out (hh.aQ (i:=3) (n:=5) rfl rfl) rfl) (eB (fg rfl) dw)) ?_;exact ⟨⟨none,0,0,FX.nil,FX.nil,⟨[],[],[],[]⟩⟩,_,rfl,fun h=>absurd h hE1,hh⟩
 ·rw [Yu hE1];obtain rfl:E1=0:=Z9.1 hE1;by_cases hE2:E2≠0
  ·rw [Yt hE2];refine Nw ?_;refine sr ?_;refine bO hh [_,_] ?_;intro b3 w3 hh;refine bO hh [_,_] ?_;intro b4 w4 hh;refine bC hh ?_;intro b6 w6 hh;refine aI (aa (sr ?_));refine bJ hh 2 [_,_] (mL ?_);refine ay (hof1 _ (hT.hp hh) hh.below) au.out rfl Yp ?_;rintro e_ w16 ⟨f,o1,rfl,h3⟩;refine ⟨_,rfl, ?_⟩;replace hh:=hh.join h3;simp only [YB,Yz] at hh;clear h3;refine mT ?_;refine cx ?_;refine cx ?_;refine bC hh ?_;intro b8 w8 hh;refine bg hh 0 [_,_] ?_;intro ws hh;replace hh:Hp _ (.blk _ _ [_,_] _::_) _:=hh;refine aI (aa (ah (sr (mI ?_))));refine qY ?_;refine bJ hh 4 [_,_] (mL ?_);refine ay (hof2 _ (hT.hp hh) hh.below) au.out rfl Yp ?_;rintro e_ w26 ⟨g,o2,rfl,h3⟩;refine ⟨_,rfl, ?_⟩;replace hh:=hh.join h3;simp only [YB,Yz] at hh;clear h3;refine mT ?_;refine cx ?_;refine cx ?_;refine bC hh ?_;intro b10 w10 hh;refine bg hh 0 [_,_] ?_;intro ws hh;replace hh:Hp _ (.blk _ _ [_,_] _::_) _:=hh;refine aI (aa (ah (sr (mI ?_))));refine dn (aa (cT (sr ?_)));refine fe [_,_,_,_,_] (mI ?_);refine bg hh 6 [_,_,_,_,_] ?_;intro ws hh
   replace hh:Hp _ (_::_::_::_::_::_::.blk _ _ [_,_,_,_,_] _::_) _:=hh;refine aI (aa (av (aF ?_)));refine Ib (cj rfl (cf (vs:=[_,_,_,_,_]) aJ.out (hh.aQ (i:=6) (n:=5) rfl rfl) rfl) (eB (fg rfl) dw)) ?_;exact ⟨⟨none,0,0,FX.nil,FX.nil,⟨[],[],[],[]⟩⟩,_,rfl,fun h=>absurd h hE2,hh⟩
  ·rw [Yu hE2];obtain rfl:E2=0:=Z9.1 hE2;replace fp:=fp rfl;replace fq:=fq rfl;refine Nw ?_;refine sr ?_;refine bO hh [_,_] ?_;intro b3 w3 hh;refine bO hh [_,_] ?_;intro b4 w4 hh;refine bC hh ?_;intro b6 w6 hh;refine aI (aa (sr ?_));refine bJ hh 2 [_,_] (mL ?_);refine ay (hof1 _ (hT.hp hh) hh.below) au.out rfl Yp ?_;rintro e_ w16 ⟨f,o1,rfl,h3⟩;refine ⟨_,rfl, ?_⟩;replace hh:=hh.join h3;simp only [YB,Yz] at hh;clear h3;refine mT ?_;refine cx ?_;refine cx ?_;refine bC hh ?_;intro b8 w8 hh;refine bg hh 0 [_,_] ?_;intro ws hh;replace hh:Hp _ (.blk _ _ [_,_] _::_) _:=hh;refine aI (aa (ah (sr (mI ?_))));refine qY ?_;refine bJ hh 4 [_,_] (mL ?_);refine ay (hof2 _ (hT.hp hh) hh.below) au.out rfl Yp ?_;rintro e_ w26 ⟨g,o2,rfl,h3⟩;refine ⟨_,rfl, ?_⟩;replace hh:=hh.join h3;simp only [YB,Yz] at hh;clear h3;have fat:=(FX.at_.mk (hh.az (i:=4) rfl) (hh.az (i:=3) rfl):f.at_ _);have gat:=(FX.at_.mk (hh.az (i:=1) rfl) (hh.az (i:=0) rfl):g.at_ _);have fis:f.is DP X:=⟨o1.ds,o1.cs⟩;have gis:g.is DQ Y:=⟨o2.ds,o2.cs⟩;have hp1:=fp.US;have hq1:=fq.US;have hp2:=fp.lx
   have hq2:=fq.lx;have flim:=fis.jX fat fp.d12 fp.lx Yo fp.zx Yp;have glim:=gis.jX gat fq.d12 fq.lx Yo fq.zx Yp;have fm:=(fis.key fat).2;have gm:=(gis.key gat).2;have hboth:=fun w1 hT1 (h1:f.at_ w1) (h2:g.at_ w1)=>GQ f g 90000 w1 hT1 h1 h2 flim glim Yo Yo Yp;obtain ⟨k1,k2,k3⟩:=xq (fis.LZ fat) (gis.LZ gat);rw [k1,k2,(k3 _).1,(k3 _).2] at hboth;generalize cV [qZ DP X,qZ DQ Y]=E at*;generalize maxD [qZ DP X,qZ DQ Y]=D at*;generalize lh D (qZ DP X)=X2 at*;generalize lh D (qZ DQ Y)=Y2 at*;refine mT ?_;refine cx ?_;refine cx ?_;refine bC hh ?_;intro b10 w10 hh;refine bg hh 0 [_,_] ?_;intro ws hh;replace hh:Hp _ (.blk _ _ [_,_] _::_) _:=hh;refine aI (aa (ah (sr (mI ?_))));refine qY ?_;refine bJ hh 3 [_,_] ?_;refine bJ hh 0 [_,_] ?_;refine ay (hboth _ (hT.hp hh) ⟨hh.az (i:=5) rfl,hh.az (i:=4) rfl⟩ ⟨hh.az (i:=2) rfl,hh.az (i:=1) rfl⟩) au.out rfl Yp ?_;rintro e_ w36 ⟨x,y,ox,oy,rfl,h3⟩;refine ⟨_,rfl, ?_⟩;replace hh:=hh.join h3;simp only [YB,Yz] at hh;clear h3;refine mT ?_;refine cx ?_;refine cx ?_;refine cx ?_;refine bC hh ?_;intro b11 w11 hh;refine bC hh ?_;intro b12 w12 hh;refine bg hh 1 [_,_] ?_
   intro ws hh;replace hh:Hp _ (_::.blk _ _ [_,_] _::_) _:=hh;refine bg hh 0 [_,_] ?_;intro ws hh;replace hh:Hp _ (.blk _ _ [_,_] _::_) _:=hh;refine aI (aa (ah ?_));refine ej [] [5] [0,1,0,0,15,0,31,127] 6 [[(2,none)],[(40,some 0)],[(11,none)],[(12,none)],[(41,some 1),(42,some 2),(43,some 3)],[(9,none)]] [(5,45),(4,44),(3,43),(2,42),(1,41),(0,40)] hh mixed Yq eI rfl (by repeat (first|exact cz|refine bR ?_|refine cG ?_)) ?_;refine gI ?_;refine a7 (i:=1) (xh ws.heap.size 35 n 6 (aA SR.cells (b.map SR.f))) (xh.ext) ?_ ?_
   ·intro ρ1 w1 hj hR;exact bV rfl (bf au.out (aC hR.1 bh)) (hfo w1 (hT.hp hj.hp) hj.hp.below) (fun _ _ ⟨A,c,hq,ho,hb⟩=>⟨_,hq,hb,A,c,rfl,iB ho hj.bl.size⟩)
   refine dK 1 [_,_] ?_;refine dK 0 [_,_] ?_;refine a7 (i:=4) (Jh [.slice x.A x.n x.a,.slice x.B x.m x.b,.slice y.A y.n y.a,.slice y.B y.m y.b] ws.heap.size 35 n 6 (aA SR.cells (b.map SR.f))) (Jh.ext) ?_ ?_
   ·intro ρ1 w1 hj hR;exact let ⟨A,c,e1,o1⟩:=hR.1;fI rfl (mJ (cs:=[_,_,_,_,_]) aJ.out ko.out (bQ e1 (bQ hR.2.1 (bQ hR.2.2.1 dN))) rfl) ⟨Below.refl _ _,A,c,rfl,o1⟩
   refine dJ ?_;refine aH ?_;intro f W hJ hV _;have hb_8:=hJ.bl;obtain ⟨v45,v44,v43,v42,v41,v40,_⟩:=hV;obtain ⟨A44,c44,e44,o44⟩:Jh _ _ _ _ _ _ (f 4) W:=v44;replace hh:=JJ.EJ hh hJ.hp o44;clear o44;refine aN (a6 (ae v45 (ae e44 (ae v43 (ae v42 (ae rfl (ae v40 aO))))))) ?_;dsimp only [bP];clear e44 hJ;refine bg hh 13 [_,_,_,_,_] ?_;intro ws hh;replace hh:Hp _ (_::_::_::_::_::_::_::_::_::_::_::_::_::.blk _ _ [_,_,_,_,_] _::_) _:=hh;refine aI (aa (av ?_));refine Ib (cj rfl (cf (vs:=[_,_,_,_,_]) aJ.out (hh.aQ (i:=13) (n:=5) rfl rfl) rfl) (eB (fg rfl) dw)) ?_;refine ⟨⟨A44,n,c44,x,y,⟨b.map SR.f,D,X2,Y2⟩⟩,_,rfl,fun h=> ?_,hh⟩;subst h;refine ⟨rfl,⟨⟨ox.ds,ox.cs⟩,oy.ds,oy.cs⟩,fun z hz=> ?_⟩;simp only [CX.rows,YH,ZN,or_false] at hz ⊢
   rcases hz with rfl|rfl|rfl|rfl|rfl<;>simp
theorem Ju {f g f':FX} (h1:f.key=f'.key) (h2:g.key=g'.key) (p:Int):ja f g=ja f' g'∧fG f g p=fG f' g' p:=by
 obtain ⟨a1,a2,a3⟩:=xq h1 h2;unfold fG ja;rw [a1,a2,(a3 _).1,(a3 _).2];exact ⟨rfl,rfl⟩
theorem MC {g:FX} (h:g.key=g'.key) (eps:Dyadic):uT g eps=uT g' eps∧rP g eps=rP g' eps:=by
 obtain ⟨A,n,a,B,m,b,ds,cs⟩:=g;obtain ⟨A',n',a',B',m',b',ds',cs'⟩:=g';unfold FX.key at h;simp only [Prod.mk.injEq] at h;obtain ⟨rfl,rfl,rfl⟩:=h;exact ⟨rfl,rfl⟩
theorem qE (x:CX) (p:Int) (w:World) (hT:dP w) (hx:x.at_ w) (hf:x.fit) (ho:x.v.ok) (hp1: -1000≤p) (hp2:p≤1000):
  Calls Tryz.prog 9 #[.agg #[.slice x.f.A x.f.n x.f.a,.slice x.f.B x.f.m x.f.b],.agg #[.slice x.g.A x.g.n x.g.a,.slice x.g.B x.g.m x.g.b],.int .i64 p] w fun r w'=>r=.returned (.tuple #[.agg (SR.cells (fG x.v.f x.v.g p)).toArray,.int .i64 (ja x.v.f x.v.g)])∧Below w.heap.size w w':=by
 have lx:=ho.lx;have ly:=ho.ly;have hc:=ho.US;have k1:=hf.f.LZ hx.f.at_;have k2:=hf.g.LZ hx.g.at_;obtain ⟨b1,b2⟩:=Ju k1 k2 p;obtain ⟨a1,a2,a3⟩:=xq k1 k2;have h:=tC x.f x.g 90000 p w hT hx.f.at_ hx.g.at_ (hf.f.jX hx.f.at_ ho.d12 ho.lx Yo ho.zx Yp) (hf.g.jX hx.g.at_ ho.d12 ho.ly Yo ho.zy Yp) (by rw [(hf.f.key hx.f.at_).2];omega) (by rw [(hf.g.key hx.g.at_).2];omega) Yp (by rw [a1,a2,(a3 _).1,(a3 _).2];exact ho.up) hp1 hp2;rw [b1,b2] at h;exact h
theorem BQ (x:CX) (eps:NR) (w:World) (hT:dP w) (hx:x.at_ w) (hf:x.fit) (ho:x.v.ok) (he:eps.ok):
  Calls Tryz.prog 16 #[.agg #[.slice x.g.A x.g.n x.g.a,.slice x.g.B x.g.m x.g.b],.agg #[.bool eps.neg,.string eps.aY,.int .i64 eps.e]] w fun r w'=>r=.returned (.tuple #[.int .i64 (rP x.v.g eps.d:Nat),.int .i64 (uT x.v.g eps.d)])∧Below w.heap.size w w':=by
 have hc:=ho.US;obtain ⟨b1,b2⟩:=MC (hf.g.LZ hx.g.at_) eps.d;have h:=E5 x.g eps 90000 w hT hx.g.at_ (hf.g.jX hx.g.at_ ho.d12 ho.ly Yo ho.zy Yp) he Yp;rw [b1,b2] at h;exact h
structure RV where
 k:Int
 s:SR
 at_:List NR
def Vb:RV:=⟨0,JK,[]⟩
def RV.cells (R:RV) (A:Option Addr) (m c:Nat):List Value:=.int .i64 R.k::(SR.cells R.s++[.slice A m c])
def Wd (b:List SR) (k:Int):List NR:=b.mapIdx fun i s=>cond (nM k i) s.f.hi s.f.lo
def Pt (eps:Dyadic) (p bu:Int):Nat→Nat→List CV→List SR→RV→Int→Int→Prop
 |_,_,[],_,R,k,e=>R=Vb∧k=0∧e=3
 |0,_,_::_,_,_,_,_=>False
 |f+1,n,c::st,l,R,k,e=>if bu<n then R=Vb∧k=0∧e=3 else c.ok∧
   if ja c.f c.g=0 then (fG c.f c.g p).ok∧
    if st=[] then R=⟨1,lR (l++[fG c.f c.g p]),[]⟩∧k=n∧e=0 else Pt eps p bu f (n+1) st (l++[fG c.f c.g p]) R k e
   else if uT c.g eps=0 then R=⟨2,JK,Wd c.b (rP c.g eps)⟩∧k=n∧e=0
   else ∃(a:Nat) (s:SR),(∀v,tU c.b v→v=(a:Int))∧c.b[a]?=some s∧a<c.D.length∧Pt eps p bu f (n+1) (c.half a s false::c.half a s true::st) l R k e
def vq (p q:PX) (b:List SR) (eps:NR) (grid bu:Int) (f:Nat) (R:RV) (k e:Int):Prop:=
 if sl p q b≠0 then R=Vb∧k=0∧e=sl p q b else if eps.i.sign≤0 then R=Vb∧k=0∧e=1 else Pt eps.d grid bu f 1 [nF p q b] [] R k e
theorem xO (p q:PX) (L:Option Addr) (n c:Nat) (b:List SR) (eps:NR) (grid bu:Int) (f:Nat) (R:RV) (k e:Int) (k0:Nat) (w:World) (hT:dP w) (hp:p.at_ w) (lp:p.jX k0) (hq:q.at_ w) (lq:q.jX k0) (hB:Sl w L n 6 (aA SR.cells b)) (hb:∀s∈b,s.fin k0) (hn:n≤1000000) (hk0:k0≤1000)
  (hgp:ph p b (rC p [])=0→jA (k0+k0+16394) (iq p.v p.ts) (k0+1)≤440000) (hgq:ph q b (rC q [])=0→jA (k0+k0+16394) (iq q.v q.ts) (k0+1)≤440000)
  (fp:nS p b []=0→Ku (pD p b).ns ((pD p b).cs.map NR.d)) (fq:nS q b []=0→Ku (pD q b).ns ((pD q b).cs.map NR.d)) (he:eps.ok) (hg1: -1000≤grid) (hg2:grid≤1000) (hb1: -1000000000≤bu) (hb2:bu≤10000) (hR:vq p q b eps grid bu f R k e):
  Calls Tryz.prog 21 #[.agg #[.int .i64 p.v,.slice p.A p.n p.c],.agg #[.int .i64 q.v,.slice q.A q.n q.c],.slice L n c,.agg #[.bool eps.neg,.string eps.aY,.int .i64 eps.e],.int .i64 grid,.int .i64 bu] w fun r w'=>∃A m c',r=.returned (.tuple #[.agg (R.cells A m c').toArray,.int .i64 k,.int .i64 e])∧Hp w [.row A m c' 33 3 (aA NR.cells R.at_)] w':=by
 have hh:=Hp.start w;have hbg:=fun w1 hT1 hb1=>Du p q L n c b k0 w1 hT1 (hp.ext hb1) lp (hq.ext hb1) lq (hB.ext hb1) hb hn hk0 hgp hgq fp fq;unfold vq at hR;generalize sl p q b=E at*;by_cases hE:E≠0
 ·rw [Yt hE] at hR;obtain ⟨rfl,rfl,rfl⟩:=hR;refine Om ?_;refine sr ?_;refine bO hh [_,_] ?_;intro b6 w6 hh;refine bO hh [_,_] ?_;intro b7 w7 hh;refine bO hh [_,_,_] ?_;intro b9 w9 hh;refine bC hh ?_;intro b12 w12 hh;refine aI (aI (aa (sr ?_)));refine bJ hh 3 [_,_] ?_;refine bJ hh 2 [_,_] (mL ?_);refine ay (hbg _ (hT.hp hh) hh.below) au.out rfl Yp ?_;rintro e_ w31 ⟨x0,R0,rfl,hx0,h3⟩;refine ⟨_,rfl, ?_⟩;replace hh:=hh.join h3;clear h3;replace hh:=hh.perm abE;simp only [YB,Yz] at hh;refine mT ?_;refine cx ?_;refine cx ?_;refine bC hh ?_;intro b15 w15 hh;refine bg hh 0 [_,_,_,_,_] ?_;intro ws hh;replace hh:Hp _ (.blk _ _ [_,_,_,_,_] _::_) _:=hh;refine aI (aa (ah (sr (mI ?_))));refine dn (aa (cT (sr ?_)));refine fe [_,_,_,_,_,_,_,_] (mI ?_);exact Wp
 ·rw [Yu hE] at hR;obtain rfl:E=0:=Z9.1 hE;by_cases hs:eps.i.sign≤0
  ·rw [Yt hs] at hR;obtain ⟨rfl,rfl,rfl⟩:=hR;refine Om ?_;refine sr ?_;refine bO hh [_,_] ?_;intro b6 w6 hh;refine bO hh [_,_] ?_;intro b7 w7 hh;refine bO hh [_,_,_] ?_;intro b9 w9 hh;refine bC hh ?_;intro b12 w12 hh;refine aI (aI (aa (sr ?_)));refine bJ hh 3 [_,_] ?_;refine bJ hh 2 [_,_] (mL ?_);refine ay (hbg _ (hT.hp hh) hh.below) au.out rfl Yp ?_;rintro e_ w31 ⟨x0,R0,rfl,hx0,h3⟩;refine ⟨_,rfl, ?_⟩;replace hh:=hh.join h3;clear h3;replace hh:=hh.perm abE;simp only [YB,Yz] at hh;refine mT ?_;refine cx ?_;refine cx ?_;refine bC hh ?_;intro b15 w15 hh;refine bg hh 0 [_,_,_,_,_] ?_;intro ws hh;replace hh:Hp _ (.blk _ _ [_,_,_,_,_] _::_) _:=hh;refine aI (aa (ah (sr (mI ?_))));refine H3 ?_;refine bJ hh 2 [_,_,_] ?_;refine ay (cL eps _) au.out rfl Yp ?_;rintro e_ w39 ⟨rfl,hb_⟩;refine ⟨_,rfl, ?_⟩;replace hh:=hh.ext hb_;generalize eps.i.sign=g at*;refine EB (aa (cT (sr ?_)));refine fe [_,_,_,_,_,_,_,_] ?_;exact Wp
  ·rw [Yu hs] at hR;have hsb:=rj eps.i;refine Om ?_;refine sr ?_;refine bO hh [_,_] ?_;intro b6 w6 hh;refine bO hh [_,_] ?_;intro b7 w7 hh;refine bO hh [_,_,_] ?_;intro b9 w9 hh;refine bC hh ?_;intro b12 w12 hh;refine aI (aI (aa (sr ?_)));refine bJ hh 3 [_,_] ?_;refine bJ hh 2 [_,_] (mL ?_);refine ay (hbg _ (hT.hp hh) hh.below) au.out rfl Yp ?_;rintro e_ w31 ⟨x0,R0,rfl,hx0,h3⟩;refine ⟨_,rfl, ?_⟩;replace hh:=hh.join h3;clear h3;replace hh:=hh.perm abE;simp only [YB,Yz] at hh;refine mT ?_;refine cx ?_;refine cx ?_;refine bC hh ?_;intro b15 w15 hh;refine bg hh 0 [_,_,_,_,_] ?_;intro ws hh;replace hh:Hp _ (.blk _ _ [_,_,_,_,_] _::_) _:=hh;refine aI (aa (ah (sr (mI ?_))));refine H3 ?_;refine bJ hh 2 [_,_,_] ?_;obtain ⟨hv0,hf0,hm0⟩:=hx0 rfl;refine ay (cL eps _) au.out rfl Yp ?_;rintro e_ w39 ⟨rfl,hb_⟩;refine ⟨_,rfl, ?_⟩;replace hh:=hh.ext hb_;generalize eps.i.sign=g at*;refine EB (aa (cF (aq (ai (sr (aL (aa (sr ?_))))))));refine bJ hh 0 [_,_,_,_,_] ?_;refine cW hh (cs:=[_,_,_,_,_]) bG.out aJ.out (bQ (gl rfl) dN) rfl rfl Yp Yp Yp rfl Yp ?_;intro b43 w43 hh;refine aL (aa (ah (sr (aI (aa (ar ?_))))))
   replace hh:=hh.dm 35 6;rw [←hv0] at hR;replace hh:=hh.sub (Yv _ (Yv _ (Yw _ (Yv _ (Yv _ (Yw _ (Yw _ (Zq _))))))));refine u1 [13,14,17,18,19,20,21,22,23,24,25,26,44,45,46,47,48,49,50,51,52,53,54,55,56,57,58,59,60,61,62,63,64,65,66,67,68,69,70,71,72,73,74,75,76,77,78,79,80,81,82,83,84,85,86,87,88,89,90,91,92,93,94,95,96,97,98,99,100,101,102,103,104,105,106,107,108,109,110] 17 18 19
    (fun v17 v18 v w'=>∃(i fu:Nat) (xs:List CX) (l:List SR) (A1:Option Addr) (q1 c1:Nat) (T:Option Addr) (m c2:Nat) (Rw:List HE),v=.int .i64 i∧v17=.slice A1 q1 c1∧l.length=q1∧v18=.slice T m c2∧xs.length=m∧Pt eps.d grid bu fu i (xs.map CX.v) l R k e∧(∀x∈xs,x.fit∧∀y∈x.rows,y∈Rw)∧(∀s∈l,s.ok)∧q1<i∧(i:Int)≤max bu 0+1∧m≤2*i∧Hp w (.row A1 q1 c1 35 6 (aA SR.cells l)::.row T m c2 97 5 (aA CX.cells xs.reverse)::.blk b12 58 [.int .i64 0,.bool false,.string (ByteArray.mk #[]),.int .i64 0,.bool false,.string (ByteArray.mk #[]),.int .i64 0,.slice none 0 0] (0,0)::.blk b9 33 [.bool eps.neg,.string eps.aY,.int .i64 eps.e] (0,0)::Rw) w')
    (fun _ _ v _=>(max bu 0+2).toNat-(intOf v).toNat) ?_ ?_
   ·exact ⟨1,f,[x0],[],none,0,0,_,1,_,R0,rfl,rfl,rfl,rfl,rfl,hR,fun x hx=>by obtain rfl:=YT.1 hx;exact ⟨hf0,hm0⟩,fun s hs=>absurd hs ZN,Yp,Yo,Yp,hh⟩
   ·clear hh;rintro ρ' v17 v18 v w' ⟨i,fu,xs,l,A1,q1,c1,T,m,c2,Rw,rfl,rfl,hq1,rfl,hm,hE2,hxs,hl,hli,hib,hxl,hh⟩
    cases xs with
    |nil=>
     obtain rfl:m=0:=hm.symm;obtain ⟨rfl,rfl,rfl⟩:R=Vb∧k=0∧e=3:=by cases fu<;>exact hE2
     refine ah (sr (mL (aM ?_)));refine bT (aa (cF (aX (aE (aE (bA (ai (sr ?_))))))));refine fe [_,_,_,_,_,_,_,_] ?_;refine bg hh 2 [_,_,_,_,_,_,_,_] ?_;intro ws hh;replace hh:Hp _ (_::_::.blk _ _ [_,_,_,_,_,_,_,_] _::_) _:=hh;refine aI (aI (aa (av ?_)));exact V6
    |cons x r=>
     obtain rfl:m=r.length+1:=hm.symm
     cases fu with
     |zero=>exact absurd hE2 id
     |succ fu=>
      rw [Y6,Pt] at hE2;by_cases hbu:bu<i
      ·rw [Yt hbu] at hE2;obtain ⟨rfl,rfl,rfl⟩:=hE2;refine ah (sr (mL (aM ?_)));refine bT (aa (cT (aq (ai (ah (ar (ah (sr (mI (mI ?_))))))))));refine bT (aa (cT (sr ?_)));refine fe [_,_,_,_,_,_,_,_] ?_;refine bg hh 2 [_,_,_,_,_,_,_,_] ?_;intro ws hh;replace hh:Hp _ (_::_::.blk _ _ [_,_,_,_,_,_,_,_] _::_) _:=hh;refine aI (aI (aa (av (aF (bU (aF (aF (bU (aF ?_)))))))));exact V6
      ·rw [Yu hbu] at hE2;obtain ⟨hok,hE2⟩:=hE2;obtain ⟨hfx,hmx⟩:=hxs x YD;have hget:(x::r).reverse[r.length]?=some x:=by rw [aaS,ZC (by simp),Y9,Zn];rfl
       obtain ⟨gT,rfl⟩:=hh.cq (i:=1) rfl Yo;refine ah (sr (mL (aM ?_)));refine bT (aa (cT (aq (ai (ah (ar (ah (sr (mI (mI ?_))))))))));refine bT (aa (cF (aq (ai (sr (mL (mL (aM ?_))))))));refine ee ?_;refine cJ (k:=r.length) bG.out aJ.size rfl rfl Yo Yo Yp ?_;refine cg (vs:=[_,_,_,_,_]) aJ.out rfl (hh.dT (f:=CX.cells) (x:=x) (l:=(x::r).reverse) (i:=1) rfl CX.len Yp hget) rfl Yp ?_;have hcap:=hh.gG (i:=1) rfl;refine bC hh ?_;intro UR w20 hh;refine bg hh 0 [_,_,_,_,_] ?_;intro ws hh;replace hh:Hp _ (.blk _ _ [_,_,_,_,_] _::_) _:=hh;refine aa (sr (mL (mL (aM ?_))));refine ee ?_;refine nP (h:=r.length) bG.out aJ.size rfl rfl Yo Yo Yp ?_;refine aL (aa (ah (sr (bo ?_))));refine bJ hh 0 [_,_] (bo ?_);refine bJ hh 0 [_,_] (mI ?_);replace hh:=hh.perm (Zp (l₁:=[_,_]));simp only [YB,Yz] at hh;replace hh:=hh.Bm (k:=r.length) Yo;rw [jw CX.len,show (x::r).reverse.take r.length=r.reverse by simp] at hh;have hbd:=fun w1 hT1 hx1=>qE x grid w1 hT1 hx1 hfx hok hg1 hg2;generalize fG x.v.f x.v.g grid=V at*;generalize ja x.v.f x.v.g=BE at*
       refine ay (hbd _ (hT.hp hh) (.of hh fun y hy=>Zu [_,_,_,_,_] (hmx y hy))) au.out rfl Yp ?_;rintro e_ w70 ⟨rfl,hb_⟩;refine ⟨_,rfl, ?_⟩;replace hh:=hh.ext hb_;by_cases hB0:BE=0
       ·subst hB0;rw [Yt rfl] at hE2;obtain ⟨hVo,hE2⟩:=hE2;have hlo:∀s∈l++[V],s.ok:=List.forall_mem_append.2 ⟨hl,fun s hs=>by obtain rfl:=YT.1 hs;exact hVo⟩;have hhull:=fun A c w1 hT1 hS1=>u5 A (q1+1) c (l++[V]) w1 hT1 hS1 hlo Yo
        cases r with
        |nil=>
         rw [Zv,Yt rfl] at hE2;obtain ⟨rfl,rfl,rfl⟩:=hE2;refine mT ?_;refine cx ?_;refine cx ?_;refine bC hh ?_;intro b21 w21 hh;refine bg hh 0 [_,_,_,_,_,_] ?_;intro ws hh;replace hh:Hp _ (.blk _ _ [_,_,_,_,_,_] _::_) _:=hh;refine aI (aa (sr (mI ?_)));refine cH (aa (cT (ah (sr (mL ?_)))));refine bJ hh 0 [_,_,_,_,_,_] ?_;refine CN ?_;intro b77 w77 hh;refine LW ?_;intro A78 c78 w78 hh;simp only [YG,Y8] at hh;replace hh:=hh.sub (Zc _ _);refine aL (aa (sr (mL (aM ?_))));refine cH (aa (cT (sr (mL ?_))));refine ay (hhull _ _ _ (hT.hp hh) (show Sl _ _ _ _ (aA SR.cells (l++[V])) from by rw [bM];exact hh.az (i:=3) rfl)) au.out rfl Yp ?_;rintro e_ w83 ⟨rfl,hb_⟩;refine ⟨_,rfl, ?_⟩;replace hh:=hh.ext hb_;refine fe [_,_,_,_,_,_,_,_] (mI ?_);refine bg hh 4 [_,_,_,_,_,_,_,_] ?_;intro ws hh;replace hh:Hp _ (_::_::_::_::.blk _ _ [_,_,_,_,_,_,_,_] _::_) _:=hh;refine aI (aI (aa (av (aF (aF (bU (aF (aF (bU (aF ?_))))))))));refine JZ (cj rfl (cf (vs:=[_,_,_,_,_,_,_,_]) aJ.out (hh.aQ (i:=4) (n:=8) rfl rfl) rfl) (eB (fg rfl) (eB (fg rfl) dw))) ?_;exact LA
        |cons y r=>
         rw [Y6,Yu (by simp)] at hE2;refine mT ?_;refine cx ?_;refine cx ?_;refine bC hh ?_;intro b21 w21 hh;refine bg hh 0 [_,_,_,_,_,_] ?_;intro ws hh;replace hh:Hp _ (.blk _ _ [_,_,_,_,_,_] _::_) _:=hh;refine aI (aa (sr (mI ?_)));refine cH (aa (cT (ah (sr (mL ?_)))));refine bJ hh 0 [_,_,_,_,_,_] ?_;refine CN ?_;intro b77 w77 hh;refine LW ?_;intro A78 c78 w78 hh;simp only [YG,Y8] at hh;replace hh:=hh.sub (Zc _ _);refine aL (aa (sr (mL (aM ?_))));refine cH (aa (cF (aq (ai (aX (aE (bA (ai (ak (mI ?_))))))))));refine a8 (aI (aD (ai ?_)));replace hh:=hh.perm (Zp (l₁:=[_]));simp only [YB,Yz] at hh;replace hh:=hh.perm (Zp (l₁:=[_,_,_]));simp only [YB,Yz] at hh;replace hh:=hh.sub (Yv _ (Yv _ (Yw _ (Yw _ (Yv _ (Yv _ (Zq _)))))))
         refine ⟨⟨i+1,fu,y::r,l++[V],A78,q1+1,c78,_,_,c2,Rw,rfl,rfl,by rw [YE,hq1];rfl,rfl,rfl,hE2,fun z hz=>hxs z (YK _ hz),hlo,Yo,Yo, ?_, ?_⟩, ?_, ?_⟩
         ·omega
         ·rw [bM];exact hh
         ·show (max bu 0+2).toNat-(i+1)<(max bu 0+2).toNat-i;omega
         ·exact er
       ·rw [Yu hB0] at hE2;have hnr:=fun w1 hT1 hx1=>BQ x eps w1 hT1 hx1 hfx hok he;have hn20:∀w1,x.at_ w1→x.n≤20:=fun w1 h1=>by
         have:=h1.b.bk SR.len Yp;have:=hok.UR;omega
        generalize uT x.v.g eps.d=NE at*;generalize rP x.v.g eps.d=NK at*;refine mT ?_;refine cx ?_;refine cx ?_;refine bC hh ?_;intro b21 w21 hh;refine bg hh 0 [_,_,_,_,_,_] ?_;intro ws hh;replace hh:Hp _ (.blk _ _ [_,_,_,_,_,_] _::_) _:=hh;refine aI (aa (sr (mI ?_)));refine Dn ?_;refine bJ hh 2 [_,_] ?_;refine bJ hh 5 [_,_,_] ?_;have xat:=CX.at_.of (x:=x) hh fun y hy=>Zu [_,_,_,_,_,_] (hmx y hy);replace hn20:=hn20 _ xat;refine ay (hnr _ (hT.hp hh) xat) au.out rfl Yp ?_;rintro e_ w90 ⟨rfl,hb_⟩;refine ⟨_,rfl, ?_⟩;replace hh:=hh.ext hb_;replace xat:=xat.ext hb_;by_cases hN0:NE=0
        ·subst hN0;rw [Yt rfl] at hE2;obtain ⟨rfl,rfl,rfl⟩:=hE2;refine mT ?_;refine cx ?_;refine cx ?_;refine aI (aI (aa (sr (mI ?_))));refine cH (aa (cT (sr (bo ?_))));refine bp hh 2 ?_;refine mI ?_;refine ay (xZ x.L x.n x.c x.v.b (NK:Int) _ (hT.hp hh) xat.b (fun s hs=>⟨(hok.bx s hs).1.ok,(hok.bx s hs).2.ok⟩) Yo) au.out rfl Yp ?_;rintro e_ w98 ⟨A98,c98,rfl,hown_,hb_⟩;refine ⟨_,rfl, ?_⟩;replace hh:=hh.aP (x:=.row _ _ _ _ _ _) hb_ hown_;refine fe [_,_,_,_,_,_,_,_] (mI ?_);refine bg hh 5 [_,_,_,_,_,_,_,_] ?_;intro ws hh;replace hh:Hp _ (_::_::_::_::_::.blk _ _ [_,_,_,_,_,_,_,_] _::_) _:=hh;refine aI (aI (aa (av (aF (bU (aF (aF (bU (aF ?_)))))))));refine JZ (cj rfl (cf (vs:=[_,_,_,_,_,_,_,_]) aJ.out (hh.aQ (i:=5) (n:=8) rfl rfl) rfl) (eB (fg rfl) (eB (fg rfl) dw))) ?_;exact ⟨A98,x.n,c98,rfl,hh.sub (.cons_cons _ (Zx _))⟩
        ·rw [Yu hN0] at hE2;obtain ⟨a,s,hW,hs,had,hE2⟩:=hE2;refine mT ?_;refine cx ?_;refine cx ?_;refine aI (aI (aa (sr (mI ?_))));refine cH (aa (cF (aq (ai (sr ?_)))));refine bJ hh 2 [_,_,_,_,_] ?_;have xat:=CX.at_.of (x:=x) hh fun y hy=>Zu [_,_,_,_,_,_] (hmx y hy);refine ay (AP x a s _ (hT.hp hh) xat hfx hok hW hs had) au.out rfl Yp ?_;rintro e_ w103 ⟨lo,up,R2,rfl,e1,e2,hfl,hfu,hm2,h3⟩;refine ⟨_,rfl, ?_⟩;replace hh:=hh.join h3;clear h3;replace hh:=hh.perm abE;simp only [YB,Yz] at hh;rw [←e1,←e2] at hE2;refine mT ?_;refine cx ?_;refine cx ?_;refine bC hh ?_;intro b25 w25 hh;refine bC hh ?_;intro b26 w26 hh;refine bg hh 1 [_,_,_,_,_] ?_;intro ws hh;replace hh:Hp _ (_::.blk _ _ [_,_,_,_,_] _::_) _:=hh;refine bg hh 0 [_,_,_,_,_] ?_;intro ws hh;replace hh:Hp _ (.blk _ _ [_,_,_,_,_] _::_) _:=hh;refine aa (ak (mL ?_));refine bJ hh 0 [_,_,_,_,_] ?_;refine bJ hh 1 [_,_,_,_,_] ?_;refine cW hh (cs:=[_,_,_,_,_,_,_,_,_,_]) bG.out aJ.out (bQ (gl rfl) (bQ (gl rfl) dN)) rfl rfl Yp Yp Yp rfl Yp ?_;intro b109 w109 hh;refine LW ?_;intro A110 c110 w110 hh
         simp only [YG,Y8] at hh;replace hh:=hh.sub (Zc _ _);refine tg ?_;refine a8 (aI (aD (ai ?_)));replace hh:=hh.perm (Zp (l₁:=[_,_,_]));simp only [YB,Yz] at hh;replace hh:=hh.perm (Zp (l₁:=[_,_,_,_,_]));simp only [YB,Yz] at hh;replace hh:=hh.sub (Yv _ (Yv _ (Yw _ (Yw _ (Yw _ (Yw _ (Yv _ (Yv _ (Zq _)))))))));refine ⟨⟨i+1,fu,lo::up::r,l,A1,q1,c1,A110,_,c110,Rw++R2,rfl,rfl,hq1,rfl,rfl,hE2,fun z hz=> ?_,hl,Yo,Yo, ?_, ?_⟩, ?_, ?_⟩
         ·rcases YH.1 hz with rfl|hz
          ·exact ⟨hfl,fun y hy=>Zu _ (hm2 y (Z3 _ hy))⟩
          ·rcases YH.1 hz with rfl|hz
           ·exact ⟨hfu,fun y hy=>Zu _ (hm2 y (Zu _ hy))⟩
           ·exact ⟨(hxs z (YK _ hz)).1,fun y hy=>Z3 _ ((hxs z (YK _ hz)).2 y hy)⟩
         ·show r.length+2≤_;omega
         ·rw [show (lo::up::r).reverse=r.reverse++[up,lo] by simp,bM];exact hh
         ·show (max bu 0+2).toNat-(i+1)<(max bu 0+2).toNat-i;omega
         ·exact er
def Uk (b:List SR) (h:Int):Option (List SR):=
 if h.fdiv 2<0 then none else (b[(h.fdiv 2).toNat]?).map fun s=>(b.map SR.f).set (h.fdiv 2).toNat (s.f.half (nR s.f.Bn) (decide (h % 2=1)))
def XD (b:List SR) (hs:List Int):Option (List SR):=hs.foldl (fun o h=>o.bind (Uk · h)) (some b)
def SR.at_ (s:SR) (x:Dyadic):Dyadic:=s.lo.d+x*s.wid
def Xp (t:List NR) (i:Nat) (s:SR):NR:=match t[i]? with|none=>s.lo|some x=>nR (s.at_ x.d)
theorem PU (n:Nat) (s1 s1' s2 s2':Bool) (a1 a1' a2 a2':ByteArray) (e1 e1' e2 e2':Int) (w:World):(Op.equalIn (n+4) 35 (.agg #[.bool s1,.string a1,.int .i64 e1,.bool s2,.string a2,.int .i64 e2]) (.agg #[.bool s1',.string a1',.int .i64 e1',.bool s2',.string a2',.int .i64 e2'])).run Tryz.prog w=.ok (((s1==s1' && a1==a1') && e1==e1') && ((s2==s2' && a2==a2') && e2==e2')) w:=by
 have h1:=fun (x x':Bool) (y y':ByteArray) (z z':Int)=>LV (P:=Tryz.prog) (cs:= #[.bool x,.string y,.int .i64 z,.bool x',.string y',.int .i64 z']) (vs:= #[.bool x,.string y,.int .i64 z]) (off:=0) (aJ.out (P:=Tryz.prog) (t:=33)) rfl;have h2:=fun (x x':Bool) (y y':ByteArray) (z z':Int)=>LV (P:=Tryz.prog) (cs:= #[.bool x,.string y,.int .i64 z,.bool x',.string y',.int .i64 z']) (vs:= #[.bool x',.string y',.int .i64 z']) (off:=3) (aJ.out (P:=Tryz.prog) (t:=33)) rfl;rw [Op.equalIn];simp [run_underlying Tryz.underlying35,h1,h2,NC]
 cases h:((s1==s1' && a1==a1') && e1==e1')<;>cases h':((s2==s2' && a2==a2') && e2==e2')<;>simp_all
section
variable {N:Nat}{ops:Array Oper}{Q:Kq}{ρ:Rf}{w:World}{rest:List Oper}{d:Option Nat}{ty u:TypeId}{pos:String}{af:Array Edge}{x y:Operand}{s:SR}
end
theorem qJ (L:Option Addr) (n c:Nat) (b:List NR) (M:Option Addr) (c2:Nat) (w:World) (hS:Sl w L n 3 (aA NR.cells b)) (hS2:Sl w M n 3 (aA NR.cells b)) (hn:n≤1000000):
  Calls Tryz.prog 60 #[.slice L n c,.slice M n c2] w fun r w'=>r=.returned (.bool true)∧Below w.heap.size w w':=by
 have hh:=Hp.start w;have hln:=hS.bk NR.len Yp;refine aj (N:=26) (l:=[.slice L n c,.slice M n c2]) Tryz.func60 rfl rfl (by simp) ?_;refine sr (aB (aa (ah (sr (mL (aM (mL (aM ?_))))))));refine dn (aa (cF (aq (ai (ah (sr (aI (aa (ar ?_)))))))));refine aT [4,5,11,12,13,14,15,16,17,18,19,20,21,22,23,24,25] 5
  (fun v w'=>∃i:Nat,i≤n∧v=.int .i64 i∧Hp w [] w')
  (fun v _=>n-(intOf v).toNat) ?_ ?_
 ·exact ⟨0,Yx _,rfl,hh⟩
 ·clear hh;rintro ρ' v w' ⟨i,hi,rfl,hh⟩;by_cases hlt:i<n
  ·obtain ⟨s,hs⟩:=ao (l:=b) (k:=i) Yo;obtain ⟨ad,rfl,hr⟩:=hS.at_ Yo;obtain ⟨ad2,rfl,hr2⟩:=hS2.at_ Yo;refine ah (sr (mI (mL (aM ?_))));refine a9 (aa (cT (aq (ai (ah (ar (ah ?_)))))));refine aK 8 [[(0,none)],[(5,none)],[(17,some 0),(18,some 1)],[(19,some 2)],[(1,none)],[(5,none)],[(21,some 4),(22,some 5)],[(23,some 6)]] [(7,24),(6,23),(5,22),(4,21),(3,20),(2,19),(1,18),(0,17)] hh mixed Yq ?_;refine gI ?_;refine dJ ?_;refine np (i) ?_;refine pW [_,_,_] (fun _ hj=>(hr.ext hj.hp.below).recAt NR.len hs) ?_;refine gI ?_;refine dJ ?_;refine np (i) ?_;refine pW [_,_,_] (fun _ hj=>(hr2.ext hj.hp.below).recAt NR.len hs) ?_;refine aH ?_;intro f W hJ hV;have hb_6:=hJ.bl;obtain ⟨v24,v23,v22,v21,v20,v19,v18,v17,_⟩:=hV;replace hh:=hJ.hp;refine aN (a6 (ae v24 (ae v23 (ae v22 (ae v21 (ae v20 (ae v19 (ae v18 (ae v17 aO))))))))) ?_;dsimp only [bP];clear hJ;refine HN rfl rfl (by first|assumption|rfl) Yp ?_;refine zn ?_;refine a8 (aI (aD (ai ?_)));exact yV
  ·refine ah (sr (mI (mL (aM ?_))));refine a9 (aa (cF (aX (aE (aE (bA (ai (sr (aB (aa (av ?_)))))))))));refine dH ?_;exact ⟨rfl,hh.below⟩
variable {pos:String}{ρ:Rf}
theorem PZ {d:Option Nat}{ty u:TypeId}{af:Array Edge}{x y:Operand}{s:SR}{g:Option (Nat×Bool)} (hx:ev ρ x=.agg s.cells.toArray) (hy:ev ρ y=.agg s.cells.toArray):
  (execOp (ev ρ) ⟨d,.binOp .eql 35 x y u,ty,pos,af,g⟩).run Tryz.prog w=.ok (.value (.bool true)) w:=by
 have h0:=PU 9996 s.lo.neg s.lo.neg s.hi.neg s.hi.neg s.lo.aY s.lo.aY s.hi.aY s.hi.aY s.lo.e s.lo.e s.hi.e s.hi.e w;rw [mM.2 rfl,mM.2 rfl] at h0;have h1:(Op.equal 35 (.agg s.cells.toArray) (.agg s.cells.toArray)).run Tryz.prog w=.ok true w:=h0;simp only [execOp,hx,hy];simp [eqGuard,binOp,h1]
theorem ow (R:RV) (A B:Option Addr) (m ca cb:Nat) (w:World) (hA:Sl w A m 3 (aA NR.cells R.at_)) (hB:Sl w B m 3 (aA NR.cells R.at_)) (hm:m≤1000):
  Calls Tryz.prog 22 #[.agg (R.cells A m ca).toArray,.agg (R.cells B m cb).toArray] w fun r w'=>r=.returned (.bool true)∧Below w.heap.size w w':=by
 have hh:=Hp.start w;have hs:=fun w1 hb1=>qJ A m ca R.at_ B cb w1 (hA.ext hb1) (hB.ext hb1) Yo;refine aj (N:=24) (l:=[.agg (R.cells A m ca).toArray,.agg (R.cells B m cb).toArray]) Tryz.func22 rfl rfl (by simp) ?_;refine sr ?_;refine bO hh [_,_,_,_,_,_,_,_] ?_;intro b2 w2 hh;refine bO hh [_,_,_,_,_,_,_,_] ?_;intro b3 w3 hh;refine aB (aa (sr (bo ?_)));refine bp hh 1 ?_;refine bo ?_;refine bp hh 0 ?_;refine cH (mB (gT (bo (gT ?_))));refine bJ hh 1 [_,_,_,_,_,_] (gT (bo (gT ?_)));refine bJ hh 0 [_,_,_,_,_,_] ?_;refine aG rfl rfl ?_;refine aV rfl rfl Yp (PZ (s:=R.s) rfl rfl) ?_;skip;refine gi ?_;refine mB (gT (bo (gT ?_)));refine bp hh 1 ?_;refine gT (bo (gT ?_));refine bp hh 0 ?_;refine aG rfl rfl ?_;refine bj hh (hs _ hh.below) rfl ?_;intro w22 hh;refine gi ?_;exact xW
theorem dZ (n:Int) (w:World) (h1: -9223372036854775808≤n) (h2:n≤9223372036854775807):
  Calls Tryz.prog 29 #[.int .i64 n] w fun r w'=>r=.returned (.agg (NR.cells (nR (n:Dyadic))).toArray)∧Below w.heap.size w w':=by
 have hh:=Hp.start w;refine aj (N:=5) (l:=[.int .i64 n]) Tryz.func29 rfl rfl (by simp) ?_;refine sr ?_;refine bC hh ?_;intro b2 w2 hh;refine aa (sr (mI ?_));refine bj hh (Kc n _ h1 h2) rfl ?_;intro w4 hh;exact DF
theorem lM (a b:Int) (w:World) (h1: -1000≤a∧a≤1000) (h2: -1000≤b∧b≤1000):
  Calls Tryz.prog 28 #[.int .i64 a,.int .i64 b] w fun r w'=>∃A c B c',r=.returned (.agg #[.slice A 1 c,.slice B 2 c'])∧Hp w [.row B 2 c' 33 3 (aA NR.cells [nR (a:Dyadic),nR (b:Dyadic)]),.row A 1 c 3 1 (bD [1])] w':=by
 have hh:=Hp.start w;refine aj (N:=12) (l:=[.int .i64 a,.int .i64 b]) Tryz.func28 rfl rfl (by simp) ?_;refine sr ?_;refine bC hh ?_;intro b4 w4 hh;refine aa (sr ?_);refine cW hh (cs:=[_]) bG.out aJ.out (bQ rfl dN) rfl rfl Yp Yp Yp rfl Yp ?_;intro b5 w5 hh;refine mI ?_;refine bj hh (dZ a _ Yo Yo) rfl ?_;intro w7 hh;refine mI ?_;refine bj hh (dZ b _ Yo Yo) rfl ?_;intro w9 hh;refine rF ?_;intro b10 w10 hh;refine fe [_,_] ?_;refine bg hh 2 [_,_] ?_;intro ws hh;replace hh:Hp _ (_::_::.blk _ _ [_,_] _::_) _:=hh;refine aa (av ?_);replace hh:=show Hp w (.row (some ⟨b10,0,none⟩) 2 2 33 3 (aA NR.cells [nR (a:Dyadic),nR (b:Dyadic)])::.row (some ⟨b5,0,none⟩) 1 1 3 1 (bD [1])::.blk b4 25 [.slice (some ⟨b5,0,none⟩) 1 1,.slice (some ⟨b10,0,none⟩) 2 2] (0,0)::_) _ from hh;refine JN (cj rfl (cf (vs:=[_,_]) aJ.out (hh.aQ (i:=2) (n:=2) rfl rfl) rfl) dw) ?_;exact ⟨_,_,_,_,rfl,hh.sub (.cons_cons _ (.cons_cons _ (Zx _)))⟩
theorem xL (a b:Int) (K:ZT) (w:World) (h1: -200≤a∧a≤200) (h2: -200≤b∧b≤200) (hK:(zC K && zE K [([0],a),([1],b)])=true):
  Calls Tryz.prog 31 #[.int .i64 a,.int .i64 b] w fun r w'=>∃p:PX,p.v=1∧p.ts=zT K∧r=.returned (.agg #[.int .i64 p.v,.slice p.A p.n p.c])∧Hp w [p.row] w':=by
 have hh:=Hp.start w;refine aj (N:=19) (l:=[.int .i64 a,.int .i64 b]) Tryz.func31 rfl rfl (by simp) ?_;refine sr ?_;refine bC hh ?_;intro b4 w4 hh;refine aa (sr (mI ?_));refine bj hh (dZ a _ Yo Yo) rfl ?_;intro w9 hh;refine fe [_,_,_,_] (mI ?_);refine bj hh (dZ b _ Yo Yo) rfl ?_;intro w12 hh;refine fe [_,_,_,_] ?_;refine cW hh (cs:=[_,_,_,_,_,_,_,_]) bG.out aJ.out (bQ (gl rfl) (bQ (gl rfl) dN)) rfl rfl Yp Yp Yp rfl Yp ?_;intro b14 w14 hh;have hz:=GW (L:=[([0],a),([1],b)]) (by unfold zB;simp;omega);have hmk:=fun w1 hS1=>BG 1 (some ⟨b14,0,none⟩) 2 2 (zT [([0],a),([1],b)]) 24 w1 hS1 Yp hz.1 Yp (fun t ht=>Y1 (hz.2 t ht) Yp);rw [Jq hK,QH Yp (by rfl) (by simp)] at hmk;replace hh:=show Hp w (.row (some ⟨b14,0,none⟩) 2 2 95 4 (aA TR.cells (zT [([0],a),([1],b)]))::.blk b4 52 [.int .i64 0,.slice none 0 0] (0,0)::_) _ from hh;refine ay (hmk _ (hh.az (i:=0) rfl)) au.out rfl Yp ?_;rintro e_ w15 ⟨p,hp,rfl,h3⟩;refine ⟨_,rfl, ?_⟩;replace hh:=hh.join h3;simp only [YB,Yz] at hh;clear h3;refine mT ?_;refine cx ?_;refine cx ?_;refine bC hh ?_;intro b5 w5 hh;refine bg hh 0 [_,_] ?_;intro ws hh
 replace hh:Hp _ (.blk _ _ [_,_] _::_) _:=hh;refine aI (aa (sr ?_));refine bJ hh 0 [_,_] ?_;refine bg hh 3 [_,_] ?_;intro ws hh;replace hh:Hp _ (_::_::_::.blk _ _ [_,_] _::_) _:=hh;refine aa (av ?_);refine JN (cj rfl (cf (vs:=[_,_]) aJ.out (hh.aQ (i:=3) (n:=2) rfl rfl) rfl) dw) ?_;exact ⟨p,hp.v,hp.ts,rfl,hh.sub (.cons _ (.cons_cons _ (Zx _)))⟩
variable {Y:List Dyadic}
def pZ (K:ZT):PX:=⟨1,none,0,0,zT K⟩
def jy:List SR:=[⟨⟨false,ByteArray.mk #[],0⟩,nR ((1:Int):Dyadic)⟩]
abbrev P1:ZT:=[([0],1)]
abbrev Q1:ZT:=[([0],1),([1],1)]
abbrev Q2:ZT:=[([1],1)]
abbrev Q3:ZT:=[([0], -1),([1],2)]
def pH:Dyadic:=((1:Int):Dyadic)*ir (-1)
def ra:NR:=nR (((1:Int):Dyadic)*ir (-2))
def gh (l:List Int):List Dyadic:=l.map fun z:Int=>(z:Dyadic)
def cA:CV:=⟨jy.map SR.f,[1],gh [1,1],gh [1,2]⟩
def cB:CV:=⟨jy.map SR.f,[1],gh [1,1],gh [0,1]⟩
def cC:CV:=⟨jy.map SR.f,[1],gh [1,1],gh [-1,1]⟩
def gF:SR:=⟨nR 0,nR ((1:Int):Dyadic)⟩
def cD:CV:=⟨[gF.f.half (nR gF.f.Bn) false],[1],gh [1,1],gh [-1,0]⟩
theorem Bu {l:List SR}{x y:Dyadic} (h:gM (fun x y=>decide (x<y)) ((pw l).map NR.d)=x∧gM (fun x y=>decide (y<x)) ((pw l).map NR.d)=y):lR l=⟨nR x,nR y⟩:=by unfold lR;rw [h.1,h.2]
theorem UB (z:Int) (h:z.natAbs<256):Sz 90000 (z:Dyadic):=(show Sz 24 (z:Dyadic) from bL (z:Dyadic) ▸ ((GW (L:=[([],z)]) (by unfold zB;simpa using h)).1 ⟨str [],nR (z:Dyadic)⟩ YD).2).mono Yp
theorem p8 {l:List Dyadic}{L:List Int} (h:l=L.map fun z:Int=>(z:Dyadic)) (hs:L.all (fun z=>decide (z.natAbs<256))=true):∀x∈l,Sz 90000 x:=fun x hx=>by
 rw [h] at hx;obtain ⟨z,hz,rfl⟩:=YF.1 hx;exact UB z (aax (Y0.1 hs z hz))
theorem o7 {b:List SR}{X Y:List Int} (hb:∀s∈b,s.fin 1000) (hb1:b.length≤20) (hX:X.length=2) (hY:Y.length=2) (hs:(X++Y).all (fun z=>decide (z.natAbs<256))=true)
  (hu:lh (maxD [qZ [1] (X.map fun z:Int=>(z:Dyadic)),qZ [1] (Y.map fun z:Int=>(z:Dyadic))]) (qZ [1] (X.map fun z:Int=>(z:Dyadic)))=(X.map fun z:Int=>(z:Dyadic))∧lh (maxD [qZ [1] (X.map fun z:Int=>(z:Dyadic)),qZ [1] (Y.map fun z:Int=>(z:Dyadic))]) (qZ [1] (Y.map fun z:Int=>(z:Dyadic)))=(Y.map fun z:Int=>(z:Dyadic))):
  CV.ok ⟨b,[1],X.map fun z:Int=>(z:Dyadic),Y.map fun z:Int=>(z:Dyadic)⟩:=by
 rw [List.all_append,YP] at hs;have h1:=p8 (l:=X.map fun z:Int=>(z:Dyadic)) rfl hs.1;have h2:=p8 (l:=Y.map fun z:Int=>(z:Dyadic)) rfl hs.2;refine ⟨hb,hb1,(by decide:([1]:List Nat).length≤12),(by decide:∀d∈([1]:List Nat),d≤127),(by decide:al [1]≤200),by rw [YI,hX];rfl,by rw [YI,hY];rfl,h1,h2,fun _=> ?_⟩;unfold CV.f CV.g;dsimp only;rw [hu.1,hu.2];exact ⟨fun x hx=>(h1 x hx).mono Yp,fun x hx=>(h2 x hx).mono Yp⟩
theorem Em:∀s∈jy,s.fin 24:=fun s hs=>by
 obtain rfl:=YT.1 hs;exact ⟨⟨⟨Yp,Yp,Yp⟩,by show Sz 24 (NR.d ⟨false,ByteArray.mk #[],0⟩);rw [show NR.d ⟨false,ByteArray.mk #[],0⟩=0 by decide+kernel];exact Sz.zero _⟩,xY.of ((show Sz 1 ((1:Int):Dyadic) from ⟨2,by decide+kernel,Yp⟩).mono Yp) Yp⟩
theorem oO:∀s∈jy.map SR.f,s.fin 1000:=fun s hs=>by
 obtain ⟨z,hz,rfl⟩:=YF.1 hs;have h:=SR.GP (Em z hz) Yp;exact ⟨⟨h.1.ok,h.1.sz.mono Yp⟩,⟨h.2.ok,h.2.sz.mono Yp⟩⟩
theorem Xo:cA.ok:=o7 (X:=[1,1]) (Y:=[1,2]) oO Yp rfl rfl rfl (by decide+kernel)
theorem Xj:cB.ok:=o7 (X:=[1,1]) (Y:=[0,1]) oO Yp rfl rfl rfl (by decide+kernel)
theorem Xf:cC.ok:=o7 (X:=[1,1]) (Y:=[-1,1]) oO Yp rfl rfl rfl (by decide+kernel)
def RA:RV:=⟨1,⟨nR pH,nR ((1:Int):Dyadic)⟩,[]⟩
def RB:RV:=⟨2,JK,[nR ((0:Int):Dyadic)]⟩
def RC:RV:=⟨2,JK,[nR pH]⟩
theorem xv {p q:PX}{b:List SR}{D:List Nat} (h:maxD [pD p b,pD q b]=D∧lh D (pD p b)=X∧lh D (pD q b)=Y):nF p q b=⟨b.map SR.f,D,X,Y⟩:=by unfold nF;rw [h.1,h.2.1,h.2.2]
theorem Ty:nF (pZ P1) (pZ Q1) jy=cA:=xv (by decide+kernel)
theorem Tv:nF (pZ P1) (pZ Q2) jy=cB:=xv (by decide+kernel)
theorem UG:nF (pZ P1) (pZ Q3) jy=cC:=xv (by decide+kernel)
theorem Xq:vq (pZ P1) (pZ Q1) jy ra 2 9 1 RA 1 0:=by
 unfold vq;rw [Yu (by decide+kernel),Yu (by decide+kernel),Ty,Pt,Yu Yp];refine ⟨Xo, ?_⟩;rw [Yt (by decide+kernel)];have hv:fG cA.f cA.g 2=⟨nR pH,nR ((1:Int):Dyadic)⟩:=by
  unfold fG;rw [Yt (by decide+kernel)];exact Bu (by decide+kernel)
 rw [hv];refine ⟨⟨by unfold NR.ok;decide+kernel,by unfold NR.ok;decide+kernel⟩, ?_⟩;rw [Yt rfl];exact ⟨by rw [Yz,Bu (x:=pH) (y:=((1:Int):Dyadic)) (by decide+kernel)];rfl,rfl,rfl⟩
theorem GY {x y:Dyadic} (h:x=y):nR x=nR y:=by rw [h]
theorem unit_eq:jy.map SR.f=[gF]:=by
 show [SR.f _]=_;unfold SR.f gF;rw [show SR.L ⟨⟨false,ByteArray.mk #[],0⟩,nR ((1:Int):Dyadic)⟩=0 by decide+kernel,show SR.H ⟨⟨false,ByteArray.mk #[],0⟩,nR ((1:Int):Dyadic)⟩=((1:Int):Dyadic) by decide+kernel]
theorem W8:vq (pZ P1) (pZ Q2) jy ra 2 9 1 RB 1 0:=by
 unfold vq;rw [Yu (by decide+kernel),Yu (by decide+kernel),Tv,Pt,Yu Yp];refine ⟨Xj, ?_⟩;rw [Yu (by decide+kernel),Yt (by decide+kernel)];refine ⟨?_,rfl,rfl⟩;have hk:rP cB.g ra.d=0:=by decide+kernel
 rw [hk,show cB.b=[gF] from unit_eq];show _=RV.mk 2 JK [cond (nM 0 0) gF.f.hi gF.f.lo];rw [show nM 0 0=false by decide];show RV.mk 2 JK [nR ((0:Int):Dyadic)]=RV.mk 2 JK [nR gF.L];rw [GY (show gF.L=((0:Int):Dyadic) by decide+kernel)]
theorem Ot {s:SR}{v:Int} (h:tU [s] v):v=((0:Nat):Int):=by
 rcases h with ⟨h,_⟩|⟨m,t,h,hv,_⟩
 ·cases h
 ·match m,h with
  |0,_=>exact hv
theorem Kz:gF.fin 1000:=oO gF (by rw [unit_eq];exact YT.2 rfl)
theorem W6:cD.ok:=o7 (X:=[1,1]) (Y:=[-1,0]) (fun s hs=>by
 obtain rfl:=YT.1 hs;exact ⟨(SR.GP Kz Yp).1,xY.of ((show Sz 1 gF.f.Bn from ⟨1,by decide+kernel,Yp⟩).mono Yp) Yp⟩) Yp rfl rfl rfl (by decide+kernel)
theorem Xm:vq (pZ P1) (pZ Q3) jy ra 2 9 2 RC 2 0:=by
 unfold vq;rw [Yu (by decide+kernel),Yu (by decide+kernel),UG,Pt,Yu Yp];refine ⟨Xf, ?_⟩;rw [Yu (by decide+kernel),Yu (by decide+kernel)];refine ⟨0,gF,fun v hv=>Ot (by rw [←unit_eq];exact hv),by show (jy.map SR.f)[0]?=_;rw [unit_eq];rfl,Yp, ?_⟩;have hc:cC.half 0 gF false=cD:=by
  show CV.mk (((jy.map SR.f).map SR.f).set 0 (gF.f.half (nR gF.f.Bn) false)) [1] (pj false (ir (-1)) [1] 0 (gh [1,1])) (pj false (ir (-1)) [1] 0 (gh [-1,1]))=CV.mk [gF.f.half (nR gF.f.Bn) false] [1] (gh [1,1]) (gh [-1,0]);rw [unit_eq,show pj false (ir (-1)) [1] 0 (gh [1,1])=gh [1,1] by decide+kernel,show pj false (ir (-1)) [1] 0 (gh [-1,1])=gh [-1,0] by decide+kernel]
  rfl
 rw [hc,Pt,Yu Yp];refine ⟨W6, ?_⟩;rw [Yu (by decide+kernel),Yt (by decide+kernel)];refine ⟨?_,rfl,rfl⟩;have hk:rP cD.g ra.d=1:=by decide+kernel
 rw [hk];show _=RV.mk 2 JK [cond (nM 1 0) (gF.f.half (nR gF.f.Bn) false).f.hi (gF.f.half (nR gF.f.Bn) false).f.lo];rw [show nM 1 0=true by decide];show RV.mk 2 JK [nR pH]=RV.mk 2 JK [nR (gF.f.half (nR gF.f.Bn) false).H];rw [GY (show (gF.f.half (nR gF.f.Bn) false).H=pH by decide+kernel)]
theorem Nd {p q p' q':PX} (h1:p.v=p'.v) (h2:p.ts=p'.ts) (h3:q.v=q'.v) (h4:q.ts=q'.ts) {b:List SR}{eps:NR}{g bu:Int}{f:Nat}{R:RV}{k e:Int} (h:vq p' q' b eps g bu f R k e):vq p q b eps g bu f R k e:=by
 obtain ⟨pv,pA,pn,pc,pt⟩:=p;obtain ⟨qv,qA,qn,qc,qt⟩:=q;obtain ⟨pv',pA',pn',pc',pt'⟩:=p';obtain ⟨qv',qA',qn',qc',qt'⟩:=q';replace h1:pv=pv':=h1;replace h2:pt=pt':=h2;replace h3:qv=qv':=h3;replace h4:qt=qt':=h4;subst h1 h2 h3 h4;exact h
theorem Ba {D:List Nat}{L:List Int} (hD:D.length≤12∧(∀d∈D,d≤127)∧al D≤200) (hX:X=gh L) (hl:L.length=al D) (hs:L.all (fun z=>decide (z.natAbs<256))=true):Ku D X:=
 ⟨hD.1,hD.2.1,hD.2.2,by rw [hX,gh,YI];exact hl,p8 hX hs⟩
structure Eg (P:ZT):Prop where
 b:zB P=true
 g:jA (24+24+16394) (iq 1 (zT P)) (24+1)≤440000
 f:Ku (pD (pZ P) jy).ns ((pD (pZ P) jy).cs.map NR.d)
theorem TZ:Eg P1:=⟨Yp,by decide+kernel,Ba (L:=[1]) (by decide+kernel) (by decide+kernel) (by decide+kernel) rfl⟩
theorem WM:Eg Q1:=⟨Yp,by decide+kernel,Ba (L:=[1,2]) (by decide+kernel) (by decide+kernel) (by decide+kernel) rfl⟩
theorem Xe:Eg Q2:=⟨Yp,by decide+kernel,Ba (L:=[0,1]) (by decide+kernel) (by decide+kernel) (by decide+kernel) rfl⟩
theorem WK:Eg Q3:=⟨Yp,by decide+kernel,Ba (L:=[-1,1]) (by decide+kernel) (by decide+kernel) (by decide+kernel) rfl⟩
theorem Un (P Q:ZT) (p q:PX) (L:Option Addr) (c f:Nat) (R:RV) (k:Int) (w:World) (hT:dP w) (hp:p.v=1∧p.ts=zT P∧p.at_ w∧p.n≤p.c∧p.n≤1000) (hq:q.v=1∧q.ts=zT Q∧q.at_ w∧q.n≤q.c∧q.n≤1000) (eP:Eg P) (eQ:Eg Q) (hB:Sl w L 1 6 (aA SR.cells jy)) (h:vq (pZ P) (pZ Q) jy ra 2 9 f R k 0):
  Calls Tryz.prog 21 #[.agg #[.int .i64 p.v,.slice p.A p.n p.c],.agg #[.int .i64 q.v,.slice q.A q.n q.c],.slice L 1 c,.agg #[.bool ra.neg,.string ra.aY,.int .i64 ra.e],.int .i64 2,.int .i64 9] w fun r w'=>∃A m c',r=.returned (.tuple #[.agg (R.cells A m c').toArray,.int .i64 k,.int .i64 0])∧Hp w [.row A m c' 33 3 (aA NR.cells R.at_)] w':=by
 obtain ⟨pv,pA,pn,pc,pt⟩:=p;obtain ⟨qv,qA,qn,qc,qt⟩:=q;obtain ⟨rfl,rfl,p3,p4,p5⟩:=(hp:pv=1∧pt=zT P∧_);obtain ⟨rfl,rfl,q3,q4,q5⟩:=(hq:qv=1∧qt=zT Q∧_);exact xO ⟨1,pA,pn,pc,zT P⟩ ⟨1,qA,qn,qc,zT Q⟩ L 1 c jy ra 2 9 f R k 0 24 w hT p3 (Nh eP.b (by have:pn≤1000:=p5;omega) p4) q3 (Nh eQ.b (by have:qn≤1000:=q5;omega) q4) hB Em Yp Yp (fun _=>eP.g) (fun _=>eQ.g) (fun _=>eP.f) (fun _=>eQ.f) (by unfold NR.ok;decide+kernel) Yp Yp Yp Yp (Nd rfl rfl rfl rfl h)
variable {b m:Nat}{fz:Nat×Nat}
def fN (K:ZT):VP:=fun v W=>∃p:PX,v=.agg #[.int .i64 p.v,.slice p.A p.n p.c]∧p.v=1∧p.ts=zT K∧p.at_ W∧p.n≤p.c∧p.n≤1000
theorem fN.ext {K:ZT} (v:Value) (w w':World) (h:fN K v w) (hb:Below w.heap.size w w'):fN K v w':=let ⟨p,h1,h2,h3,h4,h5⟩:=h;⟨p,h1,h2,h3,h4.ext hb,h5⟩
theorem uJ (a b:Int) (K:ZT) (w:World) (h:(decide (-200≤a∧a≤200∧ -200≤b∧b≤200∧K.length≤1000) && (zC K && zE K [([0],a),([1],b)]))=true):
  Calls Tryz.prog 31 #[.int .i64 a,.int .i64 b] w fun r w'=>∃v,r=.returned v∧fN K v w'∧Below w.heap.size w w':=by
 rw [YP,YX] at h;obtain ⟨⟨h1,h2,h3,h4,h5⟩,hK⟩:=h;refine (xL a b K w ⟨h1,h2⟩ ⟨h3,h4⟩ hK).mono fun r w' ⟨p,e1,e2,hr,hh⟩=>⟨_,hr,⟨p,rfl,e1,e2,hh.az (i:=0) rfl,hh.gG (i:=0) rfl, ?_⟩,hh.below⟩;have:=(show p.at_ w' from hh.az (i:=0) rfl).ln;rw [e2,zT,YI] at this;omega
def mQ (R:RV):VP:=fun v W=>∃g:Option Addr×Nat,v=.agg (R.cells g.1 1 g.2).toArray∧Sl W g.1 1 3 (aA NR.cells R.at_)
theorem mQ.ext {R:RV} (v:Value) (w w':World) (h:mQ R v w) (hb:Below w.heap.size w w'):mQ R v w':=let ⟨g,h1,h2⟩:=h;⟨g,h1,h2.ext hb⟩
def kX (base:Nat) (R:RV) (k:Int):VP:=fun x W=>∃(g:Option Addr×Nat×Nat) (w1:World),x=.tuple #[.agg (R.cells g.1 g.2.1 g.2.2).toArray,.int .i64 k,.int .i64 0]∧True∧base≤w1.heap.size∧Hp w1 [.row g.1 g.2.1 g.2.2 33 3 (aA NR.cells R.at_)] W
theorem kX.ext {R:RV}{k:Int} (x:Value) (w w':World) (h:kX base R k x w) (hb:Below w.heap.size w w'):kX base R k x w':=let ⟨g,w1,h1,h2,h3,h4⟩:=h;⟨g,w1,h1,h2,h3,h4.ext hb⟩
def nh (base:Nat) (R:RV):VP:=fun x W=>∃(g:Option Addr×Nat×Nat) (w1:World),x=.agg (R.cells g.1 g.2.1 g.2.2).toArray∧True∧base≤w1.heap.size∧Hp w1 [.row g.1 g.2.1 g.2.2 33 3 (aA NR.cells R.at_)] W
theorem nh.ext {R:RV} (x:Value) (w w':World) (h:nh base R x w) (hb:Below w.heap.size w w'):nh base R x w':=let ⟨g,w1,h1,h2,h3,h4⟩:=h;⟨g,w1,h1,h2,h3,h4.ext hb⟩
theorem RV.ne {A:Option Addr}{xs:List Value}{t:TypeId}{cs:Array Value} (h:Hp w1 [.row A m c 33 3 xs] W) (h3:W.heap[b]?=some (.cells cs t fz)) (h1:33≠t):∀x∈[HE.row A m c 33 3 xs],x.id≠some b:=fun x hx=>by
 have hx2:=h.own x hx;obtain rfl:=YT.1 hx;exact vY hx2 h3 h1
def Wx (A:Option Addr) (c:Nat) (B:Option Addr) (d:Nat) (a b:Int):FX:=⟨A,1,c,B,2,d,[1],[nR (a:Dyadic),nR (b:Dyadic)]⟩
theorem Mz (x0 x1 y0 y1 E:Int) (V:SR) (A:Option Addr) (c:Nat) (B:Option Addr) (d:Nat) (A2:Option Addr) (c2:Nat) (B2:Option Addr) (d2:Nat) (w:World) (hT:dP w) (h1:(Wx A c B d x0 x1).at_ w∧1≤c) (h2:(Wx A2 c2 B2 d2 y0 y1).at_ w∧1≤c2) (ho:CV.ok ⟨[],[1],gh [x0,x1],gh [y0,y1]⟩)
  (hE:ja (qZ [1] (gh [x0,x1])) (qZ [1] (gh [y0,y1]))=E) (hV:fG (qZ [1] (gh [x0,x1])) (qZ [1] (gh [y0,y1])) 0=V):
  Calls Tryz.prog 9 #[.agg #[.slice A 1 c,.slice B 2 d],.agg #[.slice A2 1 c2,.slice B2 2 d2],.int .i64 0] w fun r w'=>r=.returned (.tuple #[.agg (SR.cells V).toArray,.int .i64 E])∧Below w.heap.size w w':=by
 have h:=qE ⟨none,0,0,Wx A c B d x0 x1,Wx A2 c2 B2 d2 y0 y1,⟨[],[1],gh [x0,x1],gh [y0,y1]⟩⟩ 0 w hT ⟨Sl.nil _ _ _,⟨h1.1,h1.2⟩,⟨h2.1,h2.2⟩⟩ ⟨⟨rfl,rfl⟩,rfl,rfl⟩ ho Yp Yp;rw [show fG (CV.f ⟨[],[1],gh [x0,x1],gh [y0,y1]⟩) (CV.g ⟨[],[1],gh [x0,x1],gh [y0,y1]⟩) 0=V from hV,show ja (CV.f ⟨[],[1],gh [x0,x1],gh [y0,y1]⟩) (CV.g ⟨[],[1],gh [x0,x1],gh [y0,y1]⟩)=E from hE] at h;exact h
theorem Xk:CV.ok ⟨[],[1],gh [1,2],gh [1,1]⟩:=o7 (X:=[1,2]) (Y:=[1,1]) (fun _ h=>absurd h ZN) Yp rfl rfl rfl (by decide+kernel)
theorem WU:CV.ok ⟨[],[1],gh [1,2],gh [1, -1]⟩:=o7 (X:=[1,2]) (Y:=[1, -1]) (fun _ h=>absurd h ZN) Yp rfl rfl rfl (by decide+kernel)
theorem Xb:fG (qZ [1] (gh [1,2])) (qZ [1] (gh [1,1])) 0=⟨nR ((1:Int):Dyadic),nR ((2:Int):Dyadic)⟩:=by
 unfold fG;rw [Yt (by decide+kernel)];exact Bu (by decide+kernel)
theorem Xi:fG (qZ [1] (gh [1,2])) (qZ [1] (gh [1, -1])) 0=JK:=by
 unfold fG;rw [Yu (by decide+kernel)]
theorem tx (w:World):Calls Tryz.prog 32 #[.int .i64 1] w fun r w'=>r=.returned (.agg #[.bool (nR pH).neg,.string (nR pH).aY,.int .i64 (nR pH).e])∧Below w.heap.size w w':=by
 have hh:=Hp.start w;have hsh:=fun w1=>rq (nR ((1:Int):Dyadic)) (-1) w1 (by decide+kernel) (by decide+kernel) (by decide+kernel) Yp Yp;rw [bL,←pH] at hsh;refine aj (N:=6) (l:=[.int .i64 1]) Tryz.func32 rfl rfl (by simp) ?_;refine sr ?_;refine bC hh ?_;intro b2 w2 hh;refine aa (sr (mI ?_));refine bj hh (dZ 1 _ Yp Yp) rfl ?_;intro w4 hh;refine bj hh (hsh _) rfl ?_;intro w5 hh;exact DF
set_option maxRecDepth 100000 in
theorem mA (w:World) (hT:dP w):Calls Tryz.prog 8 #[] w fun r w'=>r=.returned (.bool true)∧Below w.heap.size w w':=by
 have hh:=Hp.start w;refine aj (N:=124) (l:=[]) Tryz.func8 rfl rfl (by simp) ?_;refine sr (aB (aa (sr ?_)));refine ay (lM 1 2 _ Yp Yp) au.out rfl Yp ?_;rintro e_ w17 ⟨A1,c1,B1,d1,rfl,h3⟩;refine ⟨_,rfl, ?_⟩;replace hh:=hh.join h3;simp only [YB,Yz] at hh;clear h3;refine ay (lM 1 1 _ Yp Yp) au.out rfl Yp ?_;rintro e_ w18 ⟨A2,c2,B2,d2,rfl,h3⟩;refine ⟨_,rfl, ?_⟩;replace hh:=hh.join h3;simp only [YB,Yz] at hh;clear h3;refine bj hh (Mz 1 2 1 1 0 ⟨nR ((1:Int):Dyadic),nR ((2:Int):Dyadic)⟩ A1 c1 B1 d1 A2 c2 B2 d2 _ (hT.hp hh) ⟨⟨hh.az (i:=3) rfl,hh.az (i:=2) rfl⟩,hh.gG (i:=3) rfl⟩ ⟨⟨hh.az (i:=1) rfl,hh.az (i:=0) rfl⟩,hh.gG (i:=1) rfl⟩ Xk (by decide+kernel) Xb) rfl ?_;intro w19 hh;refine mT ?_;refine cx ?_;refine cx ?_;refine bC hh ?_;intro b1 w1 hh;refine bg hh 0 [_,_,_,_,_,_] ?_;intro ws hh;replace hh:Hp _ (.blk _ _ [_,_,_,_,_,_] _::_) _:=hh;refine aI (aa (sr ?_));refine ay (lM 1 2 _ Yp Yp) au.out rfl Yp ?_;rintro e_ w23 ⟨A3,c3,B3,d3,rfl,h3⟩;refine ⟨_,rfl, ?_⟩;replace hh:=hh.join h3;simp only [YB,Yz] at hh;clear h3
 refine ay (lM 1 (-1) _ Yp Yp) au.out rfl Yp ?_;rintro e_ w24 ⟨A4,c4,B4,d4,rfl,h3⟩;refine ⟨_,rfl, ?_⟩;replace hh:=hh.join h3;simp only [YB,Yz] at hh;clear h3;refine bj hh (Mz 1 2 1 (-1) 4 JK A3 c3 B3 d3 A4 c4 B4 d4 _ (hT.hp hh) ⟨⟨hh.az (i:=3) rfl,hh.az (i:=2) rfl⟩,hh.gG (i:=3) rfl⟩ ⟨⟨hh.az (i:=1) rfl,hh.az (i:=0) rfl⟩,hh.gG (i:=1) rfl⟩ WU (by decide+kernel) Xi) rfl ?_;intro w25 hh;refine mT ?_;refine cx ?_;refine cx ?_;refine bC hh ?_;intro b3 w3 hh;refine bg hh 0 [_,_,_,_,_,_] ?_;intro ws hh;replace hh:Hp _ (.blk _ _ [_,_,_,_,_,_] _::_) _:=hh;refine aI (aa (sr ?_));refine bj hh (dZ 1 _ Yp Yp) rfl ?_;intro w28 hh;refine fe [_,_,_,_,_,_] ?_;refine CN ?_;intro b30 w30 hh;refine aL (aa (sr ?_));refine bj hh (dZ 1 _ Yp Yp) rfl ?_;intro w31 hh;have hsh:=fun w1=>rq (nR ((1:Int):Dyadic)) (-2) w1 (by decide+kernel) (by decide+kernel) (by decide+kernel) Yp Yp;rw [bL,←ra] at hsh;refine bj hh (hsh _) rfl ?_;intro w32 hh;refine bC hh ?_;intro b6 w6 hh;refine bg hh 0 [_,_,_] ?_;intro ws hh;replace hh:Hp _ (.blk _ _ [_,_,_] _::_) _:=hh;refine aa (ah ?_)
 replace hh:=hh.sub (Yv _ (Yv _ (Yv _ (Yw _ (Yw _ (Yw _ (Yw _ (Yv _ (Yw _ (Yw _ (Yw _ (Yw _ YR))))))))))));replace hh:=show Hp w (.blk b6 33 [.bool ra.neg,.string ra.aY,.int .i64 ra.e] (0,0)::.row (some ⟨b30,0,none⟩) 1 1 35 6 (aA SR.cells jy)::_) _ from hh;refine ej [9] [7,8] [0,1,0,0,15,31,63,63,63,0,639,1791,4095] 10 [[],[],[(5,none)],[(6,none)],[(34,some 0),(35,some 1),(36,some 2),(37,some 3)],[(38,some 4)],[(33,some 5)],[(33,some 5)],[(33,some 5)],[]] [(9,7),(8,41),(7,40),(6,39),(5,33),(4,38),(3,37),(2,36),(1,35),(0,34)] hh mixed Yq (j3 rfl aJ.out eI) rfl (by repeat (first|exact cz|refine bR ?_|refine cG ?_)) ?_;refine a7 (i:=0) (fN P1) fN.ext ?_ ?_
 ·exact To
 refine a7 (i:=1) (fN Q1) fN.ext ?_ ?_
 ·intro ρ1 w1 hj hR;exact bV rfl (bf au.out (aC rfl (aC rfl bh))) (uJ 1 1 Q1 _ rfl) (fun _ _ ⟨v,hq,hp,hb⟩=>⟨v,hq,hb,hp⟩)
 refine gI ?_;refine dK 0 [_,_,_] ?_;refine a7 (i:=4) (kX hh.sz RA 1) (kX.ext) ?_ ?_
 ·intro ρ1 w1 hj hR;obtain ⟨g34,e34,o34⟩:=hR.1;obtain ⟨g35,e35,o35⟩:=hR.2.1;exact bV rfl (bf au.out (aC e34 (aC e35 (aC (show ρ1 36=Value.slice _ _ _ from hR.2.2.1) (aC (show ρ1 37=Value.agg (List.toArray _) from hR.2.2.2.1) (aC rfl (aC rfl bh))))))) (Un P1 Q1 g34 g35 (some ⟨b30,0,none⟩) 1 1 RA 1 w1 (hT.hp hj.hp) o34 o35 TZ WM (hj.hp.az (i:=1) rfl) Xq) (fun _ _ ⟨A,m,c',hq,h3⟩=>⟨_,hq,h3.below,(A,m,c'),w1,rfl,trivial,hj.bl.size,h3⟩)
 refine a7 (i:=5) (kX hh.sz RA 1) (kX.ext) ?_ ?_
 ·exact Ny
 refine a7 (i:=6) (nh hh.sz RA) (nh.ext) ?_ ?_
 ·exact UM
 refine a7 (i:=7) (Is (.int .i64 1)) (Is.ext) ?_ ?_
 ·exact JO
 refine a7 (i:=8) (Is (.int .i64 0)) (Is.ext) ?_ ?_
 ·exact JO
 refine LN ?_;refine aH ?_;intro f W hJ hV _;have hb_5:=hJ.bl;obtain ⟨v7,v41,v40,v39,v33,v38,v37,v36,v35,v34,_⟩:=hV;obtain ⟨g34,e34,o34⟩:fN P1 (f 0) W:=v34;obtain ⟨g35,e35,o35⟩:fN Q1 (f 1) W:=v35;obtain ⟨g38,u38,e38, -⟩:=v38;obtain ⟨g33,u33,e33, -⟩:=v33;obtain ⟨g39,u39,e39,o39,q39,h39⟩:=v39;obtain ⟨b7,e7,hl7,hc7⟩:cw _ _ _ (f 9) W:=v7;replace hh:=hJ.kK hh hl7 hc7 q39 h39 (RV.ne h39 hc7 Yp);refine aN (a6 (ae e7 (ae v41 (ae v40 (ae e39 (ae e33 (ae e38 (ae v37 (ae v36 (ae e35 (ae e34 aO))))))))))) ?_;dsimp only [bP];clear e34 e35 e38 e33 e39 e7 hJ;simp only [YB,Yz] at hh;obtain ⟨A39,m39,c39⟩:=g39;obtain rfl:m39=0:=((hh.az (i:=1) rfl).bk NR.len Yp).symm;refine bg hh 0 [_,_,_,_,_,_,_,_] ?_;intro ws hh;replace hh:Hp _ (.blk _ _ [_,_,_,_,_,_,_,_] _::_) _:=hh;refine aI (aI (aa (ah ?_)));replace hh:=show Hp w (.blk b7 58 (RA.cells A39 0 c39) (0,0)::_) _ from hh
 refine ej [9] [7,8] [0,1,0,0,15,31,63,63,63,0,639,1791,4095] 10 [[],[],[(5,none)],[(6,none)],[(43,some 0),(44,some 1),(45,some 2),(46,some 3)],[(47,some 4)],[(42,some 5)],[(42,some 5)],[(42,some 5)],[]] [(9,10),(8,50),(7,49),(6,48),(5,42),(4,47),(3,46),(2,45),(1,44),(0,43)] hh mixed Yq (j3 rfl aJ.out eI) rfl (by repeat (first|exact cz|refine bR ?_|refine cG ?_)) ?_;refine a7 (i:=0) (fN P1) fN.ext ?_ ?_
 ·exact To
 refine a7 (i:=1) (fN Q2) fN.ext ?_ ?_
 ·intro ρ1 w1 hj hR;exact bV rfl (bf au.out (aC rfl (aC rfl bh))) (uJ 0 1 Q2 _ rfl) (fun _ _ ⟨v,hq,hp,hb⟩=>⟨v,hq,hb,hp⟩)
 refine gI ?_;refine dK 2 [_,_,_] ?_;refine a7 (i:=4) (kX hh.sz RB 1) (kX.ext) ?_ ?_
 ·intro ρ1 w1 hj hR;obtain ⟨g43,e43,o43⟩:=hR.1;obtain ⟨g44,e44,o44⟩:=hR.2.1;exact bV rfl (bf au.out (aC e43 (aC e44 (aC (show ρ1 45=Value.slice _ _ _ from hR.2.2.1) (aC (show ρ1 46=Value.agg (List.toArray _) from hR.2.2.2.1) (aC rfl (aC rfl bh))))))) (Un P1 Q2 g43 g44 (some ⟨b30,0,none⟩) 1 1 RB 1 w1 (hT.hp hj.hp) o43 o44 TZ Xe (hj.hp.az (i:=3) rfl) W8) (fun _ _ ⟨A,m,c',hq,h3⟩=>⟨_,hq,h3.below,(A,m,c'),w1,rfl,trivial,hj.bl.size,h3⟩)
 refine a7 (i:=5) (kX hh.sz RB 1) (kX.ext) ?_ ?_
 ·exact Ny
 refine a7 (i:=6) (nh hh.sz RB) (nh.ext) ?_ ?_
 ·exact UM
 refine a7 (i:=7) (Is (.int .i64 1)) (Is.ext) ?_ ?_
 ·exact JO
 refine a7 (i:=8) (Is (.int .i64 0)) (Is.ext) ?_ ?_
 ·exact JO
 refine LN ?_;refine aH ?_;intro f W hJ hV _;have hb_6:=hJ.bl;obtain ⟨v10,v50,v49,v48,v42,v47,v46,v45,v44,v43,_⟩:=hV;obtain ⟨g43,e43,o43⟩:fN P1 (f 0) W:=v43;obtain ⟨g44,e44,o44⟩:fN Q2 (f 1) W:=v44;obtain ⟨g47,u47,e47, -⟩:=v47;obtain ⟨g42,u42,e42, -⟩:=v42;obtain ⟨g48,u48,e48,o48,q48,h48⟩:=v48;obtain ⟨b10,e10,hl10,hc10⟩:cw _ _ _ (f 9) W:=v10;replace hh:=hJ.kK hh hl10 hc10 q48 h48 (RV.ne h48 hc10 Yp);refine aN (a6 (ae e10 (ae v50 (ae v49 (ae e48 (ae e42 (ae e47 (ae v46 (ae v45 (ae e44 (ae e43 aO))))))))))) ?_;dsimp only [bP];clear e43 e44 e47 e42 e48 e10 hJ;simp only [YB,Yz] at hh;obtain ⟨A48,m48,c48⟩:=g48;obtain rfl:m48=1:=((hh.az (i:=1) rfl).bk NR.len Yp).symm;refine bg hh 0 [_,_,_,_,_,_,_,_] ?_;intro ws hh;replace hh:Hp _ (.blk _ _ [_,_,_,_,_,_,_,_] _::_) _:=hh;refine aI (aI (aa (ah ?_)));replace hh:=show Hp w (.blk b10 58 (RB.cells A48 1 c48) (0,0)::_) _ from hh
 refine ej [9] [7,8] [0,1,0,0,15,31,63,63,63,0,639,1791,4095] 10 [[],[],[(5,none)],[(6,none)],[(52,some 0),(53,some 1),(54,some 2),(55,some 3)],[(56,some 4)],[(51,some 5)],[(51,some 5)],[(51,some 5)],[]] [(9,13),(8,59),(7,58),(6,57),(5,51),(4,56),(3,55),(2,54),(1,53),(0,52)] hh mixed Yq (j3 rfl aJ.out eI) rfl (by repeat (first|exact cz|refine bR ?_|refine cG ?_)) ?_;refine a7 (i:=0) (fN P1) fN.ext ?_ ?_
 ·exact To
 refine a7 (i:=1) (fN Q3) fN.ext ?_ ?_
 ·intro ρ1 w1 hj hR;exact bV rfl (bf au.out (aC rfl (aC rfl bh))) (uJ (-1) 2 Q3 _ rfl) (fun _ _ ⟨v,hq,hp,hb⟩=>⟨v,hq,hb,hp⟩)
 refine gI ?_;refine dK 4 [_,_,_] ?_;refine a7 (i:=4) (kX hh.sz RC 2) (kX.ext) ?_ ?_
 ·intro ρ1 w1 hj hR;obtain ⟨g52,e52,o52⟩:=hR.1;obtain ⟨g53,e53,o53⟩:=hR.2.1;exact bV rfl (bf au.out (aC e52 (aC e53 (aC (show ρ1 54=Value.slice _ _ _ from hR.2.2.1) (aC (show ρ1 55=Value.agg (List.toArray _) from hR.2.2.2.1) (aC rfl (aC rfl bh))))))) (Un P1 Q3 g52 g53 (some ⟨b30,0,none⟩) 1 2 RC 2 w1 (hT.hp hj.hp) o52 o53 TZ WK (hj.hp.az (i:=5) rfl) Xm) (fun _ _ ⟨A,m,c',hq,h3⟩=>⟨_,hq,h3.below,(A,m,c'),w1,rfl,trivial,hj.bl.size,h3⟩)
 refine a7 (i:=5) (kX hh.sz RC 2) (kX.ext) ?_ ?_
 ·exact Ny
 refine a7 (i:=6) (nh hh.sz RC) (nh.ext) ?_ ?_
 ·exact UM
 refine a7 (i:=7) (Is (.int .i64 2)) (Is.ext) ?_ ?_
 ·exact JO
 refine a7 (i:=8) (Is (.int .i64 0)) (Is.ext) ?_ ?_
 ·exact JO
 refine LN ?_;refine aH ?_;intro f W hJ hV _;have hb_7:=hJ.bl;obtain ⟨v13,v59,v58,v57,v51,v56,v55,v54,v53,v52,_⟩:=hV;obtain ⟨g52,e52,o52⟩:fN P1 (f 0) W:=v52;obtain ⟨g53,e53,o53⟩:fN Q3 (f 1) W:=v53;obtain ⟨g56,u56,e56, -⟩:=v56;obtain ⟨g51,u51,e51, -⟩:=v51;obtain ⟨g57,u57,e57,o57,q57,h57⟩:=v57;obtain ⟨b13,e13,hl13,hc13⟩:cw _ _ _ (f 9) W:=v13;replace hh:=hJ.kK hh hl13 hc13 q57 h57 (RV.ne h57 hc13 Yp);refine aN (a6 (ae e13 (ae v59 (ae v58 (ae e57 (ae e51 (ae e56 (ae v55 (ae v54 (ae e53 (ae e52 aO))))))))))) ?_;dsimp only [bP];clear e52 e53 e56 e51 e57 e13 hJ;simp only [YB,Yz] at hh;obtain ⟨A57,m57,c57⟩:=g57;obtain rfl:m57=1:=((hh.az (i:=1) rfl).bk NR.len Yp).symm;refine bg hh 0 [_,_,_,_,_,_,_,_] ?_;intro ws hh;replace hh:Hp _ (.blk _ _ [_,_,_,_,_,_,_,_] _::_) _:=hh;refine aI (aI (aa (ah ?_)));replace hh:=show Hp w (.blk b13 58 (RC.cells A57 1 c57) (0,0)::_) _ from hh;replace hh:=show Hp w (_::.row A57 1 c57 33 3 (aA NR.cells RC.at_)::_) _ from hh
 refine ej [] [] [0,1,0,7,15,31,63,31,255,511,1023,2047,4095,8191,16383,32767,65535,131071,262143,524287,524287,1572863,3670015,7864319,16777215,33554431,67108863,134217727,268435455,536870911,1073741823,2147483647,4294967295,8589934591,17179869183,34359738367,34359738367,103079215103,240518168575,549755813887,1099511627775,2199023255551,4398046511103,8796093022207,17592186044415,35184372088831,70368744177663,140737488355327,281474976710655,562949953421311,1125899906842623,1125899906842623,3377699720527871,7881299347898367,18014398509481983,36028797018963967,72057594037927935,144115188075855871,288230376151711743,576460752303423487,1152921504606846975,2305843009213693951,4611686018427387903,9223372036854775807,18446744073709551615] 54 [[(1,none)],[(60,some 0)],[],[(61,some 1),(62,some 2)],[(63,some 3)],[(1,none),(64,some 4)],[(65,some 5),(64,some 4)],[(64,some 4)],[(66,some 6),(67,some 7),(64,some 4)],[(64,some 4),(68,some 8)],[(69,some 9)],[(2,none),(70,some 10)],[(71,some 11),(70,some 10)],[(70,some 10),(72,some 12)],[(73,some 13)],[(4,none),(74,some 14)],[(75,some 15),(74,some 14)],[(74,some 14),(76,some 16)],[(77,some 17)],[(7,none),(78,some 18)],[(78,some 18)],[(78,some 18)],[(80,some 20),(81,some 21),(78,some 18)],[(82,some 22),(78,some 18)],[(79,some 19),(83,some 23),(78,some 18)],[(78,some 18),(84,some 24)],[(85,some 25)],[(8,none),(86,some 26)],[(87,some 27),(86,some 26)],[(86,some 26),(88,some 28)],[(89,some 29)],[(9,none),(90,some 30)],[(91,some 31),(90,some 30)],[(90,some 30),(92,some 32)],[(93,some 33)],[(10,none),(94,some 34)],[(94,some 34)],[(96,some 36),(94,some 34)],[(97,some 37),(94,some 34)],[(95,some 35),(98,some 38),(94,some 34)],[(94,some 34),(99,some 39)],[(100,some 40)],[(11,none),(101,some 41)],[(102,some 42),(101,some 41)],[(101,some 41),(103,some 43)],[(104,some 44)],[(12,none),(105,some 45)],[(106,some 46),(105,some 45)],[(105,some 45),(107,some 47)],[(108,some 48)],[(13,none),(109,some 49)],[(109,some 49)],[(111,some 51),(109,some 49)],[(112,some 52),(109,some 49)]] [(53,113),(52,112),(51,111),(50,110),(49,109),(48,108),(47,107),(46,106),(45,105),(44,104),(43,103),(42,102),(41,101),(40,100),(39,99),(38,98),(37,97),(36,96),(35,95),(34,94),(33,93),(32,92),(31,91),(30,90),(29,89),(28,88),(27,87),(26,86),(25,85),(24,84),(23,83),(22,82),(21,81),(20,80),(19,79),(18,78),(17,77),(16,76),(15,75),(14,74),(13,73),(12,72),(11,71),(10,70),(9,69),(8,68),(7,67),(6,66),(5,65),(4,64),(3,63),(2,62),(1,61),(0,60)] hh mixed Yq eI rfl (by repeat (first|exact cz|refine bR ?_|refine cG ?_)) ?_
 refine dR ?_;refine dK 9 [_,_,_] ?_;refine dC (fun _ hj=>dZ 1 _ Yp Yp) ?_;refine bB (i:=3) (fun ρ1 w1 hj hR=>Az (show ρ1 61=Value.agg (List.toArray _) from hR.1) (show ρ1 62=Value.agg (List.toArray _) from hR.2.1) (by first|assumption|rfl)) ?_;refine mV ?_;refine dG (dR ?_);refine dG (dK 9 [_,_,_] ?_);refine eR (i:=7) rfl (fun ρ1 w1 hj hR=>(show ρ1 64=Value.bool _ from hR.1)) (fun ρ1 w1 hj hR=>bf au.out (aC rfl bh)) (fun w1 hj=>dZ 2 _ Yp Yp) ?_;refine Bs (i:=8) rfl (fun ρ1 w1 hj hR=>(show ρ1 64=Value.bool _ from hR.2.2.1)) (fun ρ1 w1 hj hR=>Az (show ρ1 66=Value.agg (List.toArray _) from hR.1) (show ρ1 67=Value.agg (List.toArray _) from hR.2.1) (by first|assumption|rfl)) ?_;refine KT ?_;refine mV ?_;refine dG (dJ ?_);refine dG (wv ?_);refine KT ?_;refine mV ?_;refine dG (dJ ?_);refine dG (wv ?_);refine KT ?_;refine mV ?_;refine dG (dK 4 [_,_,_,_,_,_,_,_] ?_);refine eR (i:=20) rfl (fun ρ1 w1 hj hR=>(show ρ1 78=Value.bool _ from hR.1)) (fun ρ1 w1 hj hR=>bf au.out (aC rfl bh)) (fun w1 hj=>tx _) ?_
 refine eR (i:=21) rfl (fun ρ1 w1 hj hR=>(show ρ1 78=Value.bool _ from hR.1)) (fun ρ1 w1 hj hR=>bf au.out (aC rfl bh)) (fun w1 hj=>dZ 1 _ Yp Yp) ?_;refine dG (dB [_,_,_,_,_,_] ?_);refine dG (dB [_,_,_,_,_,_,_,_] ?_);refine eR (i:=24) rfl (fun ρ1 w1 hj hR=>(show ρ1 78=Value.bool _ from hR.2.2.1)) (fun ρ1 w1 hj hR=>bf au.out (aC (show ρ1 79=Value.agg (List.toArray _) from hR.1) (aC (show ρ1 83=Value.agg (List.toArray _) from hR.2.1) bh))) (fun w1 hj=>ow RA A39 none 0 c39 0 _ (hj.hp.az (i:=5) rfl) (Sl.nil _ _ _) Yp) ?_;refine KT ?_;refine mV ?_;refine dG (dJ ?_);refine dG (wv ?_);refine KT ?_;refine mV ?_;refine dG (dJ ?_);refine dG (wv ?_);refine KT ?_;refine mV ?_;refine dG (dK 2 [_,_,_,_,_,_,_,_] ?_);refine eR (i:=36) rfl (fun ρ1 w1 hj hR=>(show ρ1 94=Value.bool _ from hR.1)) (fun ρ1 w1 hj hR=>bf au.out (aC rfl bh)) (fun w1 hj=>dZ 0 _ Yp Yp) ?_;refine gY (i:=37) (cs:=[_,_,_]) rfl (fun ρ1 w1 hj hR=>(show ρ1 94=Value.bool _ from hR.2.1)) bG.out aJ.out (fun ρ1 w1 hj hR=>(bQ (show ρ1 96=Value.agg (List.toArray _) from hR.1) dN)) rfl rfl Yp Yp rfl ?_;refine a7 (i:=38) (mQ RB) (mQ.ext) ?_ ?_
 ·intro ρ1 w1 hj hR;obtain ⟨A97,c97,h97,s97⟩:=hR.1;exact eN rfl (show ρ1 94=Value.bool _ from hR.2.1) (fI rfl (mJ (cs:=[_,_,_,_,_,_,_,_]) aJ.out ko.out (bQ rfl (bQ h97 dN)) rfl) ⟨Below.refl _ _,(A97,c97),rfl,s97⟩)
 refine a7 (i:=39) (Is (.bool true)) Is.ext ?_ ?_
 ·intro ρ1 w1 hj hR;obtain ⟨g98,e98,o98⟩:=hR.2.1;refine eN rfl ((show ρ1 94=Value.bool _ from hR.2.2.1)) ?_;exact bV rfl (bf au.out (aC (show ρ1 95=Value.agg (List.toArray _) from hR.1) (aC e98 bh))) (ow RB A48 g98.1 1 c48 g98.2 _ (hj.hp.az (i:=3) rfl) o98 Yp) (fun _ _ hq=>⟨_,hq.1,hq.2,rfl⟩)
 refine KT ?_;refine mV ?_;refine dG (dJ ?_);refine dG (wv ?_);refine KT ?_;refine mV ?_;refine dG (dJ ?_);refine dG (wv ?_);refine KT ?_;refine mV ?_;refine dG (dK 0 [_,_,_,_,_,_,_,_] ?_);refine eR (i:=51) rfl (fun ρ1 w1 hj hR=>(show ρ1 109=Value.bool _ from hR.1)) (fun ρ1 w1 hj hR=>bf au.out (aC rfl bh)) (fun w1 hj=>tx _) ?_;refine gY (i:=52) (cs:=[_,_,_]) rfl (fun ρ1 w1 hj hR=>(show ρ1 109=Value.bool _ from hR.2.1)) bG.out aJ.out (fun ρ1 w1 hj hR=>(bQ (show ρ1 111=Value.agg (List.toArray _) from hR.1) dN)) rfl rfl Yp Yp rfl ?_;refine a7 (i:=53) (mQ RC) (mQ.ext) ?_ ?_
 ·intro ρ1 w1 hj hR;obtain ⟨A112,c112,h112,s112⟩:=hR.1;exact eN rfl (show ρ1 109=Value.bool _ from hR.2.1) (fI rfl (mJ (cs:=[_,_,_,_,_,_,_,_]) aJ.out ko.out (bQ rfl (bQ h112 dN)) rfl) ⟨Below.refl _ _,(A112,c112),rfl,s112⟩)
 refine aH ?_;intro f W hJ hV _;have hb_8:=hJ.bl;obtain ⟨v113,v112,v111,v110,v109,v108,v107,v106,v105,v104,v103,v102,v101,v100,v99,v98,v97,v96,v95,v94,v93,v92,v91,v90,v89,v88,v87,v86,v85,v84,v83,v82,v81,v80,v79,v78,v77,v76,v75,v74,v73,v72,v71,v70,v69,v68,v67,v66,v65,v64,v63,v62,v61,v60,_⟩:=hV;obtain ⟨A97,c97,e97,f97⟩:Rows _ _ _ (f 37) W:=v97;obtain ⟨g98,e98,o98⟩:mQ RB (f 38) W:=v98;obtain ⟨A112,c112,e112,f112⟩:Rows _ _ _ (f 52) W:=v112;obtain ⟨g113,e113,o113⟩:mQ RC (f 53) W:=v113;replace hh:=hJ.hp;refine aN (a6 (ae e113 (ae e112 (ae v111 (ae v110 (ae v109 (ae v108 (ae v107 (ae v106 (ae v105 (ae v104 (ae v103 (ae v102 (ae v101 (ae v100 (ae v99 (ae e98 (ae e97 (ae v96 (ae v95 (ae v94 (ae v93 (ae v92 (ae v91 (ae v90 (ae v89 (ae v88 (ae v87 (ae v86 (ae v85 (ae v84 (ae v83 (ae v82 (ae v81 (ae v80 (ae v79 (ae v78 (ae v77 (ae v76 (ae v75 (ae v74 (ae v73 (ae v72 (ae v71 (ae v70 (ae v69 (ae v68 (ae v67 (ae v66 (ae v65 (ae v64 (ae v63 (ae v62 (ae v61 (ae v60 aO))))))))))))))))))))))))))))))))))))))))))))))))))))))) ?_;dsimp only [bP];clear e97 e98 e112 e113 hJ;refine aG rfl rfl ?_
 refine bj hh (ow RC A57 g113.1 1 c57 g113.2 _ (hh.az (i:=1) rfl) o113 Yp) rfl ?_;intro w114 hh;refine gi ?_;refine mB (gT (mI (gT ?_)));refine cH ?_;refine gi ?_;refine mB (gT (mI (gT ?_)));refine cH ?_;refine gi ?_;exact xW
end Go.Proofs.YtmchncaiffbpaaaGreatDoor
