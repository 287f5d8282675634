/- Lemmas for ratioEncloses, part 7. -/
import Derived.RangeFuncFrom
import Derived.RangeFuncCalls
import Derived.RangeFuncLeaves
import Derived.Shelf.Abstract
import Derived.Test.YtbencocchdpikaaGreatDoorZ6
set_option linter.all false
set_option maxHeartbeats 0
namespace Go.Proofs.YtbencocchdpikaaGreatDoor
open Go.Proofs.Tryz
open Go.RowKit
variable {fz:Nat×Nat}{n:Nat}{w w0:World}
def Hp.fV{H:List HE}(h:Hp w0 H w){i b:Nat}{t:TypeId}{l:List UInt8}{ex:List Value}(hi:H[i]?=some (.blk b t (jj l++ex) fz))(Q:l.length=n):Sl w (some ⟨b,0,none⟩) n 1 (jj l):=by
 refine⟨by rw[Tf,Q,W_],λ_=>⟨_,rfl,λj u hu=> ?_⟩⟩;refine h.rp hi j u ?_;rw[o9 (z'.1 hu).1];exact hu
variable {r:Nat}{rs:t3}
def aev{i:Nat}(h:rs[i]?=some r)(H:r<=255):(jj (bS rs))[i]?=some (.int .u8 (r:Int)):=by
 unfold jj bS;rw[C',C',jc h];show some (Value.int .u8 ((Wq (r:Int)).toNat:Int))=_;have:(Wq (r:Int)).toNat=r:=(by exact abL);rw[this]
def abC{ns t:t3}{a d:Nat}(M:a<ns.length)(T:ns[a]?=some d)(y:Ah (Zd ns a).reverse t)(H:t[ns.length-1-a]?=some r)(hle:r<=d):Ah ns.reverse t:=by
 rw[Ag] at y |-;refine⟨by rw[y.1,r',r',Vi],λi e s he K=> ?_⟩;by_cases hi:ns.length-1-a=i
 .subst hi;rw[H] at K
  cases K
  rw[l_ Z',show ns.length-1-(ns.length-1-a)=a by omega,T] at he
  cases he
  exact hle
 refine y.2 i e s ?_ K;unfold Zd;rw[Vm M,g_,R' hi];exact he
def pU{ns t:t3}{a d:Nat}(M:a<ns.length)(T:ns[a]?=some d)(y:Ah (Zd ns a).reverse t)(H:t[ns.length-1-a]?=some r)(hle:r<=d+1):Ah ns.reverse (vk t (ns.length-1-a)):=by
 rw[Ag] at y |-;unfold vk;refine⟨by rw[I9,y.1,r',r',Vi],λi e s he K=> ?_⟩;rw[g_] at K;by_cases hi:ns.length-1-a=i
 .subst hi;rw[Q' rfl,Q' (z'.1 H).1,o_,H] at K
  cases K
  rw[l_ Z',show ns.length-1-(ns.length-1-a)=a by omega,T] at he
  cases he
  show r-1<=d;omega
 rw[R' hi] at K;refine y.2 i e s ?_ K;unfold Zd;rw[Vm M,g_,R' hi];exact he
def fT{t:t3}{a:Nat}{ex:List Value}(Q:t.length=n)(M:a<n)(H:t[n-1-a]?=some r)(J:0<r)(h1:r<=255):xb (jj (bS t.reverse)++ex) (a*1) [.int .u8 ((r-1:Nat):Int)]=jj (bS (vk t (n-1-a)).reverse)++ex:=by
 have F:(bS t.reverse).length=n:=by unfold bS;rw[B',Za,r',Q]
 rw[W_,Cc (by rw[D',Tf];omega),List.set_append_left _ _ (by rw[Tf];omega)];congr 1;have N:(vk t (n-1-a)).reverse=t.reverse.set a (r-1):=(by unfold vk;rw[Vm Z',Q,show n-1-(n-1-a)=a by omega,o_,H];rfl);have L:(Wq ((r-1:Nat):Int)).toNat=r-1:=(by show(UInt8.ofNat (((r-1:Nat):Int)).toNat).toNat=r-1;rw[z9,M6];omega);rw[N];unfold bS jj sa;rw[c9,c9,c9,L]
def LQ{ns:t3}{a d:Nat}(h:ns[a]?=some d):(sa ns).set a ((d:Int)+1)=sa (Zd ns a):=by
 unfold Zd sa;rw[c9,o_,h];rfl
def BO(F FC:t6)(n c1 c2 a k:Nat)(ns:t3)(xs:t5)(w:World)(hF:Sl w F n 1 (Fa (sa ns)))(hFC:Sl w FC (da ns) 3 (la NR.cells (xs.map nR))) (hn:n<=12)(ha:a<n)(hA:∀d∈Zd ns a,d<=127)(hN:da (Zd ns a)<=4096)(hx:∀x∈xs,Sz k x)(hk:k<=1000000):Calls prog 189 #[.agg #[wn F n c1,wn FC (da ns) c2],wd a] w λr V=>∃A c B b,r=.returned (.agg #[wn A n c,wn B (da (Zd ns a)) b])/\Hp w [.row B (da (Zd ns a)) b 30 3 (la NR.cells ((AM ns a xs).map nR)),.row A n c 3 1 (Fa (sa (Zd ns a)))] V:=by
 have I:=Hp.start w;have u:ns.length=n:=by have:=hF.1;simpa[Fa,sa] using this
 have hlx:xs.length=da ns:=by have:=hFC.Aa NR.len V';simpa using this
 obtain⟨a5,rfl,s5⟩:=hFC.at_ (Wb ns);obtain⟨a1,rfl,s1⟩:=hF.at_ Z';obtain⟨d,T⟩:=aa (l:=ns) (k:=a) Z';have hgd:=Db (jc T);have hli:(Zd ns a).length=n:=by rw[Vi,u]
 have hcl:(Fa (sa ns)).length=n:=by rw[Hb,Za,u]
 have hd127:d+1<=127:=hA (d+1) (O' (i:=a) (by rw[Ik Z',Q' rfl,o_,T];rfl));refine Ga (l:=[.agg #[wn (some a1) n c1,wn (some a5) (da ns) c2],wd a]) func189 ?_;refine Ib ?_;intro b2 w2 I b4 w4 I;refine du ?_;intro b10 w10 I;refine ea ?_;refine pb I (i:=0) rfl rfl rfl (hF.ext I.below) Qa.out pa.out rfl V' ?one9 Z' Z' V' ?kk9
 case one9=>first|rfl|assumption|exact Ja _|exact oneCells_u8s _
 intro A13 c13 w13 I;simp only[l'] at I;rw[i' n];rw[i',J'] at I;obtain⟨g13,rfl⟩:=I.ib (i:=0) rfl Z';refine Ib ?_;intro b5 w5 I ws I;refine aD ?_;refine ea ?_;refine cO ?_;intro ws I;simp only[l',Z9] at I;rw[ek _ (by rw[<-Hb];omega),LQ T] at I;have hrF:=λZ hS1=>Kt (some ⟨g13,0,none⟩) n c13 (Zd ns a) Z hS1 Z' hA Z';refine ea ?_;refine cr I (hrF _ (I.ka (i:=1) rfl)) ?_;intro A24 c24 w24 I;obtain⟨g24,rfl⟩:=I.ib (i:=0) rfl (Wb _);refine ea ?_;replace I:=I.yb 30 3;refine rf 7 (λv V=>∃(p cC:Nat)(C:t6),p<=da (Zd ns a)/\v=wd p/\Hp w [.row C p cC 30 3 (la NR.cells (((AM ns a xs).take p).map nR)),.row (some ⟨g24,0,none⟩) (da (Zd ns a)) c24 9 1 (xk (pr (Zd ns a))),.blk b5 78 [wn (some ⟨g13,0,none⟩) n c13,wn C p cC] (0,0),.row (some ⟨g13,0,none⟩) n c13 3 1 (Fa (sa (Zd ns a))),.blk b4 78 [wn none 0 0,wn none 0 0] (0,0),.blk b2 78 [wn (some a1) n c1,wn (some a5) (da ns) c2] (0,0)] V) (λv _=>da (Zd ns a)-(intOf v).toNat) ?_ ?_
 .exact⟨0,0,none,N' _,rfl,I⟩
 clear I;rintro ρ' v V ⟨p,cC,C,hp,rfl,I⟩;by_cases hpn:p<da (Zd ns a)
 .have hrp:=Gu (ZG hpn);have hpr:p<da (Zd ns a).reverse:=by rw[qb];exact hpn
  have R:=Vf (Zd ns a).reverse p;have M:(Xa (Zd ns a).reverse p).length=n:=by rw[cf,r',hli]
  have P:(AM ns a xs)[p]?=some (co ns.reverse xs (Xa (Zd ns a).reverse p)+if 0<(Xa (Zd ns a).reverse p).getD (n-1-a) 0 then co ns.reverse xs (vk (Xa (Zd ns a).reverse p) (n-1-a)) else 0):=(by unfold AM;rw[C',y_ hpn,u];rfl);generalize Xa (Zd ns a).reverse p=t at*;obtain⟨r,hr⟩:=aa (l:=t) (k:=n-1-a) Z';have hrr:t.reverse[a]?=some r:=by rw[l_ Z',M];exact hr
  have hrd:=wA R (by rw[l_ Z',hli,show n-1-(n-1-a)=a by omega,Ik Z',Q' rfl]) hr;rw[o_,T] at hrd;have hrd2:r<=d+1:=hrd;have Y:(bS t.reverse).length=n:=by unfold bS;rw[B',Za,r'];exact M
  have e0:(fX (sa t.reverse)).data.toList=bS t.reverse:=ed _;have e1:(fX (sa t.reverse)).size=n:=by
   have:(fX (sa t.reverse)).data.toList.length=n:=by rw[e0,Y]
   rw[H6] at this;exact this
  have L:=aev hrr Z';have s:a<ns.length:=Z';have S:t[ns.length-1-a]?=some r:=by rw[u];exact hr
  have hns:∀x∈ns,x<=127:=λx hx=>by
   obtain⟨j,hj⟩:=r_.1 hx;by_cases hja:a=j
   .subst hja;rw[T] at hj
    cases hj
    omega
   exact hA x (O' (i:=j) (by rw[Ik s,R' hja];exact hj))
  have hcn:da ns<=da (Zd ns a):=qi (Vi ns a).symm λj x y hx hy=>by
   rw[Ik s] at hy;split at hy
   .rename_i e;subst e;rw[o_,hx] at hy
    cases hy
    exact Nat.le_succ x
   rw[hx] at hy
   cases hy
   exact F' _
  have hgetr:t.getD (n-1-a) 0=r:=by rw[o_,hr];rfl
  rw[hgetr] at P;have hat:∀row:t3,Ah ns.reverse row->∀Z,Below w.heap.size w Z->Zc 194 #[wn (some a1) n c1,wt (fX (sa row.reverse))] Z (wd (Ec ns.reverse row)):=λrow K Z hb1=>(by have:=Yx (some a1) n c1 ns row.reverse Z (hF.ext hb1) Z' Z' (by rw[r',Cq K,r']) (VK K) (λd T=>by have:=hns d T;omega);rwa[I8] at this);have N:∀row:t3,Ah ns.reverse row->∃x,(xs.map nR)[Ec ns.reverse row]?=some (nR x)/\co ns.reverse xs row=x/\Sz k x/\Ec ns.reverse row<da ns:=λrow K=>(by have hlt:=Xg K;rw[qb] at hlt;obtain⟨x,m⟩:=aa (l:=xs) (k:=Ec ns.reverse row) Z';exact⟨x,by rw[C',m];rfl,by rw[Iy K,m];rfl,hx x (O' m),hlt⟩);have hdl:(vk t (n-1-a)).length=n:=by unfold vk;rw[I9];exact M
  have hbl2:(bS (vk t (n-1-a)).reverse).length=n:=by unfold bS;rw[B',Za,r'];exact hdl
  by_cases hrd3:r<=d
  .have okn:=abC s T R S hrd3;obtain⟨o,m,hco1,zV,hlt1⟩:=N t okn;rw[hco1] at P;have X:=hat t okn;generalize Ec ns.reverse t=p1 at*;by_cases h0:0<r
   .refine ea ?_;refine aD ?_;refine Wn I Qa.out Qa.out Qa.out rfl V' ?_;intro g35 c35 E w35 I;rw[e0] at I;have hcl2:(jj (bS t.reverse)++E)[a]?=some (.int .u8 (r:Int)):=by rw[o9 (by rw[Tf,Y];exact ha)];exact L
    generalize (((jj (bS t.reverse)++E).length,(jj (bS t.reverse)++E).length+1):Nat×Nat)=fz at I;refine Ib ?_;intro b9 w9 I ws I;refine qh 10 I ?_;refine ub ?_;refine Ku (a) ?_;refine nV ?_;refine AU ?_;refine ub ?_;refine Wi (a) ?_;refine JR ?_;refine xa ?_;intro f W Q D;have hb_9:=Q.bl;obtain⟨v46,v45,v44,v43,v42,v41,v40,v39,v38,v37,_⟩:=D;replace I:=Q.hp;refine Be ?_;clear Q;refine ea ?_;refine qh 7 I ?_;refine ub ?_;refine ua (i:=5) (Is (wt ⟨((bS t.reverse)).toArray⟩)) Is.ext ?_ ?_
    .exact adC
    refine dC (λ_ hj=>X _ hj.hp.below) ?_;refine xa ?_;intro f W Q D;have hb_10:=Q.bl;obtain⟨v54,v53,v52,v51,v50,v49,v48,_⟩:=D;replace I:=Q.hp;refine Be ?_;clear Q;refine ea ?_;refine sv (Ua (vs:=[_,_,_]) pa.out rfl ((s5.ext I.below).recAt NR.len m) rfl) ?_;refine Gb ?_;intro ws I;refine TH ?_;refine ea ?_;have z:Ah ns.reverse (vk t (n-1-a)):=by have:=pU s T R S hrd2;rwa[u] at this
    obtain⟨x2,hx2,J,z2,hlt2⟩:=N _ z;have g:=λZ=>nh (nR o) (nR x2) Z (zV.ok Z') (z2.ok Z');rw[Ta,Ta] at g;have H:=hat _ z;have hbd:=fT (ex:=E) M ha hr h0 Z';rw[Q' h0,J] at P;generalize Ec ns.reverse (vk t (n-1-a))=p2 at*;refine ea ?_;refine TH ?_;refine IF ?_;refine ea ?_;refine It I (i:=1) (vs:=[_]) rfl rfl (Ac rfl) rfl pa.out rfl (by rw[D',Tf,Y];omega) rfl ?_;intro ws I;simp only[l',Z9] at I;rw[show(r+256-1) % 256=r-1 by omega,hbd] at I;refine ea ?_;refine qh 10 I ?_;refine ub ?_;refine ua (i:=6) (Is (wt ⟨((bS (vk t (n-1-a)).reverse)).toArray⟩)) Is.ext ?_ ?_
    .exact afb
    refine dC (λ_ hj=>H _ hj.hp.below) ?_;refine Wi (p2) ?_;refine fk [_,_,_] (λ_ hj=>(s5.ext hj.hp.below).recAt NR.len hx2) ?_;refine xa ?_;intro f W Q D;have hb_13:=Q.bl;obtain⟨v77,v76,v75,v74,v73,v72,v71,v70,v69,v68,_⟩:=D;replace I:=Q.hp;refine Be ?_;clear Q;exact G2
   refine ea ?_;refine aD ?_;refine Wn I Qa.out Qa.out Qa.out rfl V' ?_;intro g35 c35 E w35 I;rw[e0] at I;have hcl2:(jj (bS t.reverse)++E)[a]?=some (.int .u8 (r:Int)):=by rw[o9 (by rw[Tf,Y];exact ha)];exact L
   generalize (((jj (bS t.reverse)++E).length,(jj (bS t.reverse)++E).length+1):Nat×Nat)=fz at I;refine Ib ?_;intro b9 w9 I ws I;refine qh 10 I ?_;refine ub ?_;refine Ku (a) ?_;refine nV ?_;refine AU ?_;refine ub ?_;refine Wi (a) ?_;refine JR ?_;refine xa ?_;intro f W Q D;have hb_9:=Q.bl;obtain⟨v46,v45,v44,v43,v42,v41,v40,v39,v38,v37,_⟩:=D;replace I:=Q.hp;refine Be ?_;clear Q;refine ea ?_;refine qh 7 I ?_;refine ub ?_;refine ua (i:=5) (Is (wt ⟨((bS t.reverse)).toArray⟩)) Is.ext ?_ ?_
   .exact adC
   refine dC (λ_ hj=>X _ hj.hp.below) ?_;refine dn ?_;intro W I;refine ea ?_;refine sv (Ua (vs:=[_,_,_]) pa.out rfl ((s5.ext I.below).recAt NR.len m) rfl) ?_;refine Gb ?_;intro ws I;refine TH ?_;refine ea ?_;rw[R' h0] at P;refine ea ?_;refine Nm ?_;intro b82 w82 I;refine MH ?_;intro G q w83 I;simp only[l',Z9] at I;replace I:=I.sub (d_ _ _);refine Gb ?_;intro ws I;replace I:=I.sub (L' _ (L' _ (P' _ (P' _ (P' _ (P' _ (P' _ (P' _ j'))))))));refine⟨⟨p+1,q,G,Z',rfl, ?_⟩,by show da (Zd ns a)-(p+1)<da (Zd ns a)-p;omega, ?_⟩
   .rw[ja P,z8,q_,Na];exact I
   exact Sb
  have hno:¬Ah ns.reverse t:=λh=>hrd3 (wA h (by rw[l_ Z',show ns.length-1-(ns.length-1-a)=a by omega];exact T) S);obtain⟨o,D⟩:∃o:Dyadic,o=0:=⟨0,rfl⟩;rw[cG hno,<-D] at P;have zV:Sz k o:=by rw[D];exact Sz.zero _
  have h0:0<r:=Z';have hc0:[Value.bool false,wt (ByteArray.mk #[]),wd 0]=[ww (nR o).neg,wt (nR o).Ra,wd (nR o).e]:=by rw[D];rfl
  refine ea ?_;refine aD ?_;refine Wn I Qa.out Qa.out Qa.out rfl V' ?_;intro g35 c35 E w35 I;rw[e0] at I;have hcl2:(jj (bS t.reverse)++E)[a]?=some (.int .u8 (r:Int)):=by rw[o9 (by rw[Tf,Y];exact ha)];exact L
  generalize (((jj (bS t.reverse)++E).length,(jj (bS t.reverse)++E).length+1):Nat×Nat)=fz at I;refine Ib ?_;intro b9 w9 I ws I;refine qh 10 I ?_;refine ub ?_;refine Ku (a) ?_;refine nV ?_;refine AU ?_;refine ub ?_;refine Wi (a) ?_;refine JR ?_;refine dn ?_;intro W I;refine ea ?_;rw[hc0] at I;refine ea ?_;refine TH ?_;refine ea ?_;have z:Ah ns.reverse (vk t (n-1-a)):=by have:=pU s T R S hrd2;rwa[u] at this
  obtain⟨x2,hx2,J,z2,hlt2⟩:=N _ z;have g:=λZ=>nh (nR o) (nR x2) Z (zV.ok Z') (z2.ok Z');rw[Ta,Ta] at g;have H:=hat _ z;have hbd:=fT (ex:=E) M ha hr h0 Z';rw[Q' h0,J] at P;generalize Ec ns.reverse (vk t (n-1-a))=p2 at*;refine ea ?_;refine TH ?_;refine IF ?_;refine ea ?_;refine It I (i:=1) (vs:=[_]) rfl rfl (Ac rfl) rfl pa.out rfl (by rw[D',Tf,Y];omega) rfl ?_;intro ws I;simp only[l',Z9] at I;rw[show(r+256-1) % 256=r-1 by omega,hbd] at I;refine ea ?_;refine qh 10 I ?_;refine ub ?_;refine ua (i:=6) (Is (wt ⟨((bS (vk t (n-1-a)).reverse)).toArray⟩)) Is.ext ?_ ?_
  .exact afb
  refine dC (λ_ hj=>H _ hj.hp.below) ?_;refine Wi (p2) ?_;refine fk [_,_,_] (λ_ hj=>(s5.ext hj.hp.below).recAt NR.len hx2) ?_;refine dn ?_;intro W I;exact G2
 obtain rfl:p=da (Zd ns a):=Z';rw[G' (by rw[ML];omega)] at I;refine Gb ?_;intro ws I;replace I:=I.sub (P' _ (L' _ (L' _ (P' _ (P' _ (L' _ j'))))));refine OV ?_;exact⟨_,_,_,_,rfl,I.sub (I6 [_,_] _)⟩
variable {z:Int}
def xz(w:World)(b i:Nat):Int:=match w.cell? ⟨b,0,none⟩ with
 |some (.slice (some a) _ _)=>match w.cell? (a.add (i*1)) with
  |some (.int _ z)=>z
  |_=>0
 |_=>0
def jG{b i c:Nat}{a:Addr}{k:IntKind}(h1:w.cell? ⟨b,0,none⟩=some (wn (some a) n c))(h2:w.cell? (a.add (i*1))=some (.int k z)):xz w b i=z:=by
 unfold xz;rw[h1];simp only;rw[h2]
variable {xs:t5}
def H0{ds:t3}{row:t3}{K:Nat}(h:∀x∈xs,Sz K x):Sz K (co ds xs row):=by
 unfold co;split
 .cases h2:xs[Ec ds row]? with
  |none=>exact Sz.zero _
  |some x=>exact h x (O' h2)
 exact Sz.zero _
def abj{ns:t3}{a K:Nat}(h:∀x∈xs,Sz K x):∀y∈AM ns a xs,Sz (K+1) y:=λy hy=>by
 unfold AM at hy;obtain⟨p,_,rfl⟩:=x'.1 hy;refine Sz.add (H0 h) ?_;split
 .exact H0 h
 exact Sz.zero _
structure RS(ns ts:t3)(xs:t5)(k n:Nat)(F FC:t6)(c1 c2 i T:Nat)(cur:t3)(zs:t5)(A B:t6)(ca cb:Nat)(R:List HE)(w:World):Prop where
 ai:gW ns xs cur zs
 le:∀(j c t:Nat),cur[j]?=some c->ts[j]?=some t->c<=t
 eq:∀(j c t:Nat),j<i->cur[j]?=some c->ts[j]?=some t->c=t
 sz:∀x∈zs,Sz (k+T) x
 src:(A=F/\ca=c1/\B=FC/\cb=c2/\cur=ns/\zs=xs)\/R=[.row B (da cur) cb 30 3 (la NR.cells (zs.map nR)),.row A n ca 3 1 (Fa (sa cur))]
 rd:∀(H:List HE)(V:World),Hp w (H++R) V->Sl V A n 1 (Fa (sa cur))/\Sl V B (da cur) 3 (la NR.cells (zs.map nR))
def aZ{cur ts:t3}{i c t:Nat}(E:cur[i]?=some c)(S:ts[i]?=some t)(h:c<t)(hle:∀(j c t:Nat),cur[j]?=some c->ts[j]?=some t->c<=t):∀(j c t:Nat),(Zd cur i)[j]?=some c->ts[j]?=some t->c<=t:=λj Y t2 h1 h2=>by
 rw[Ik (z'.1 E).1] at h1;split at h1
 .rename_i e;subst e;rw[o_,E] at h1;rw[S] at h2
  cases h1
  cases h2
  exact h
 exact hle j Y t2 h1 h2
def bF(F:t6)(L)(E)(n t m Y q cE k:Nat)(ds es)(cs)(w)(hf:(⟨F,n,t,L,m,Y,ds,cs⟩:FX).at_ w)(hl:(⟨F,n,t,L,m,Y,ds,cs⟩:FX).qf k)(hE:Sl w E q 1 (Fa es))(hq:q<=1000)(hk:k<=90000):Calls prog 110 #[.agg #[wn F n t,wn L m Y],wn E q cE] w λr V=>((fE ds cs≠0/\r=jI (fE ds cs)\/fE ds cs=0/\Qu ds es≠0/\r=jI (Qu ds es))/\Below w.heap.size w V)\/(fE ds cs=0/\Qu ds es=0/\∃(g:FX)(R:List HE),aM (es.map Int.toNat) (kj (es.map Int.toNat) ⟨F,n,t,L,m,Y,ds,cs⟩) g/\(g=⟨F,n,t,L,m,Y,ds,cs⟩\/R=[g.mh,g.gg])/\r=.returned (.tuple #[g.V,wd 0])/\Hp w R V):=by
 have I:=Hp.start w;have hdg:Sl w F n 1 (Fa ds):=hf.dg;have hnm:Sl w L m 3 (la NR.cells cs):=hf.nm;have hln:ds.length=n:=by have:=hdg.1;simpa[Fa] using this
 have hlq:es.length=q:=by have:=hE.1;simpa[Fa] using this
 have hlm:=hnm.Aa NR.len V';have hn20:n<=1000:=hl.w1;have hck:=λZ hb=>zr F L n t m Y ds cs Z (hdg.ext hb) (hnm.ext hb) Z' (λa ha=>(hl.num a ha).1);by_cases h0:fE ds cs=0
 .by_cases h1:q=n
  .obtain⟨ns,xs,hv,hxs⟩:=GQ h0;refine Ga func110 ?_;refine Ib ?_;intro M w2 I b4 w4 I;refine cd I (hck _ I.below) ?_;intro w10 I;refine ea ?_;refine rf 7 (λv V=>∃i:Nat,i<=q/\v=wd i/\((ds.take i).zip (es.take i)).any km=false/\Hp w [.blk b4 78 [wn none 0 0,wn none 0 0] (0,0),.blk M 78 [wn F n t,wn L m Y] (0,0)] V) (λv _=>q-(intOf v).toNat) ?_ ?_
   .exact⟨0,N' _,rfl,rfl,I⟩
   clear I;rintro ρ' v V ⟨i,hi,rfl,X,I⟩;by_cases hlt:i<q
   .obtain⟨d,hd⟩:=aa (l:=ds) (k:=i) Z';obtain⟨e,he⟩:=aa (l:=es) (k:=i) Z';have hgd:=Db hd;have hge:=Db he;obtain⟨a1,rfl,s1⟩:=hdg.at_ Z';obtain⟨a2,rfl,s2⟩:=hE.at_ Z';have hbad:km (d,e)=true->Qu ds es=1:=λhb=>(by unfold Qu;rw[R' Z',Q'];exact E9.2 ⟨(d,e),O' (i:=i) (by rw[p7];exact⟨hd,he⟩),hb⟩);by_cases h2:e<d
    .have J:=hbad (by unfold km;rw[w'];exact .inl h2);have hlc:decide (e<d)=true:=w' h2;refine acD ?_;refine xa ?_;intro f W Q hV;have hb_9:=Q.bl;obtain⟨v40,v39,v38,v37,v36,v35,v34,v33,v32,v31,v30,v29,v28,_⟩:=hV;replace I:=Q.hp;refine Be ?_;refine gJ ?_;intro ws I;exact .inl ⟨.inr ⟨h0,by rw[J];decide,by rw[J];rfl⟩,I.below⟩
    by_cases h3:127<e
    .have J:=hbad (by unfold km;rw[w'];exact .inr h3);refine acD ?_;refine xa ?_;intro f W Q hV;have hb_9:=Q.bl;obtain⟨v40,v39,v38,v37,v36,v35,v34,v33,v32,v31,v30,v29,v28,_⟩:=hV;replace I:=Q.hp;refine Be ?_;refine ea ?_;refine sM ?_;refine gJ ?_;intro ws I;exact .inl ⟨.inr ⟨h0,by rw[J];decide,by rw[J];rfl⟩,I.below⟩
    refine acD ?_;refine dn ?_;intro W I;refine ea ?_;refine sM ?_;refine ea ?_;refine⟨⟨i+1,Z',rfl,Zs X hd he (by unfold km;rw[m'];show ¬(e<d\/127<e);omega),I⟩,by show q-(i+1)<q-i;omega, ?_⟩;exact Sb
   obtain rfl:i=q:=Z';rw[G' Z',G' Z'] at X;have hdeg:=hv.deg;have G:=hv.num;have hlow:=hv.low;have hlen:=hv.len;have hfew:=hv.VT;subst hdeg;obtain⟨ts,rfl,hlt2,hle,s⟩:=gU Z' X;have hnl:ns.length=n:=by rw[<-Za];exact hln
   have htn:(sa ts).map Int.toNat=ts:=xf ts;have hrz:Qu (sa ns) (sa ts)=if 4096<da ts then 3 else 0:=(by unfold Qu;rw[R' (by rw[Za,Za];omega),R' (by rw[X];decide),htn])
   rw[htn,hrz];have P:=λZ hS1=>mJ E i cE ts Z hS1 Z';have hany:ts.any (λd=>decide (127<d))=false:=P9.2 λd hd=>by have:=s d hd;simp;omega
   by_cases h4:4096<da ts
   .have u:er ts=true:=by unfold er;rw[w' h4,Bool.or_true]
    rw[u] at P;rw[Q' h4];refine ea ?_;refine cd I (P _ (hE.ext I.below)) ?_;intro w47 I;refine gJ ?_;intro ws I;exact .inl ⟨.inr ⟨h0,V',rfl⟩,I.below⟩
   have u:er ts=false:=by unfold er;rw[hany,m' h4];rfl
   rw[u] at P;rw[R' h4];have hfm:m=da ns:=by rw[<-hlm,G,B',hlen]
   have hxz:∀x∈xs,Sz k x:=λx C=>(by rw[hxs] at C;obtain⟨c,hc,rfl⟩:=x'.1 C;exact(hl.num c hc).2);have hup:kj ts ⟨F,n,t,L,m,Y,sa ns,cs⟩=Xi ns ts xs:=(by unfold kj FX.ns;show Xi ((sa ns).map Int.toNat) ts (cs.map NR.fa)=_;rw[xf,hxs]);rw[hup];refine ea ?_;refine cd I (P _ (hE.ext I.below)) ?_;intro w47 I;refine ea ?_;have hst:RS ns ts xs k n F L t Y 0 0 ns xs F L t Y [] w:=⟨gW.start (by rw[hlen]),hle,λ_ _ _ h=>absurd h (A7 _),hxz,.inl ⟨rfl,rfl,rfl,rfl,rfl,rfl⟩,λH Z h=>⟨hdg.ext h.below,by rw[<-hfm,<-G];exact hnm.ext h.below⟩⟩;rw[hfm] at I;refine rf 8 (λv V=>∃(p T:Nat)(cur:t3)(z:t5)(A B:t6)(S N:Nat)(R:List HE),p<=n/\v=wd p/\T<=127*p/\RS ns ts xs k n F L t Y p T cur z A B S N R w/\Hp w (.blk b4 78 [wn none 0 0,wn none 0 0] (0,0)::.blk M 78 [wn A n S,wn B (da cur) N] (0,0)::R) V) (λv _=>n-(intOf v).toNat) ?_ ?_
   .exact⟨0,0,ns,xs,F,L,t,Y,[],N' _,rfl,F' _,hst,I⟩
   clear I hst;rintro ρ2 v w2 ⟨p,T,cur,z,A,B,S,N,R,hp,rfl,hT,hR,I⟩;by_cases hpn:p<n
   .obtain⟨tp,K⟩:=aa (l:=ts) (k:=p) Z';have htb:=s tp (O' K);have hge:=Db (jc K);obtain⟨a2,rfl,s2⟩:=hE.at_ Z';refine ea ?_;refine rU [55,56,57,58,59,60,61,62,63,64,65,66,67] (λV=>∃(T:Nat)(cur:t3)(z:t5)(A B:t6)(S N:Nat)(R:List HE),(∀c,cur[p]?=some c->T<=127*p+c)/\RS ns ts xs k n F L t Y p T cur z A B S N R w/\Hp w (.blk b4 78 [wn none 0 0,wn none 0 0] (0,0)::.blk M 78 [wn A n S,wn B (da cur) N] (0,0)::R) V) (λV=>128-(xz V M p).toNat) ?_ ?_
    .exact⟨T,cur,z,A,B,S,N,R,λc _=>by omega,hR,I⟩
    clear I hR hT;rintro ρ3 w3 ⟨T,cur,z,A,B,S,N,R,hT,hR,I⟩;have hcl:cur.length=n:=by rw[hR.ai.2.1];exact hnl
    obtain⟨c,hc⟩:=aa (l:=cur) (k:=p) Z';have hct:=hR.le p c tp hc K;have hTc:=hT c hc;obtain⟨hdg3,hnm3⟩:=hR.rd [_,_] w3 I;obtain⟨aA,rfl,sA⟩:=hdg3.at_ Z';have hgc:=Db (jc hc);have hdeg0:xz w3 M p=c:=jG (I.Dd (i:=1) (o:=0) rfl rfl) (sA.Dl hgc);by_cases hlt3:c<tp
    .have D:=aZ hc K hlt3 hR.le;have hA127:∀d∈Zd cur p,d<=127:=λd hd=>(by obtain⟨j,hj⟩:=r_.1 hd;have hj2:=(z'.1 hj).1;rw[Vi] at hj2;obtain⟨t2,ht2⟩:=aa (l:=ts) (k:=j) Z';have:=D j d t2 hj ht2;have:=s t2 (O' ht2);omega);have hcN:da (Zd cur p)<=da ts:=qi (by rw[Vi];omega) λj x y C hy=>D j x y C hy;have hupc:=λZ u=>BO (some aA) B n S N p (k+T) cur z Z (hdg3.ext u) (hnm3.ext u) Z' hpn hA127 Z' hR.sz Z';refine aaM ?_;refine xa ?_;intro f W Q hV;have hb_16:=Q.bl;obtain⟨v63,v62,v61,v60,v59,v58,v57,v56,v55,_⟩:=hV;replace I:=Q.hp;refine Be ?_;refine ea ?_;refine Vg (hupc _ hb_16) ?_;rintro e_ w67 ⟨A3,c3,B3,cb3,rfl,h2⟩;refine⟨_,rfl, ?_⟩;replace I:=I.join h2;refine Gb ?_;intro ws I;obtain⟨a3,rfl,s3⟩:=(I.ka (i:=1) rfl).at_ Z';have hc2:(Zd cur p)[p]?=some (c+1):=by rw[Ik Z',Q' rfl,o_,hc];rfl
     have hdeg1:xz ws M p=((c+1:Nat):Int):=jG (I.Dd (i:=3) (o:=0) rfl rfl) (s3.Dl (Db (jc hc2)));refine⟨⟨T+1,Zd cur p,AM cur p z,some a3,B3,c3,cb3,[.row B3 (da (Zd cur p)) cb3 30 3 (la NR.cells ((AM cur p z).map nR)),.row (some a3) n c3 3 1 (Fa (sa (Zd cur p)))],λY h2=> ?_,⟨hR.ai.step Z',D,λj x y hj C hy=> ?_,abj hR.sz,.inr rfl,λH Z h=>⟨xg (h.own (.row (some a3) n c3 3 1 (Fa (sa (Zd cur p)))) (H_ _ (u' _ E'))),xg (h.own (.row B3 (da (Zd cur p)) cb3 30 3 (la NR.cells ((AM cur p z).map nR))) (H_ _ E'))⟩⟩,(I.sub (I6 [_,_,_,_] _)).perm (e8 (l₁:=[_,_]) (l₂:=[_,_]))⟩, ?_, ?_⟩
     .rw[hc2] at h2
      cases h2
      omega
     .rw[Ik Z',R' Z'] at C;exact hR.eq j x y hj C hy
     .show 128-(xz ws M p).toNat<128-(xz w3 M p).toNat;rw[hdeg0,hdeg1];omega
     exact Sb
    obtain rfl:c=tp:=Z';refine aaM ?_;refine dn ?_;intro W I;refine ea ?_;refine⟨⟨p+1,T,cur,z,some aA,B,S,N,R,Z',rfl,Z',⟨hR.ai,hR.le,λj x y hj C hy=> ?_,hR.sz,hR.src,hR.rd⟩,I⟩,by show n-(p+1)<n-p;omega, ?_⟩
    .by_cases hjp:j=p
     .subst hjp;rw[hc] at C;rw[K] at hy
      cases C
      cases hy
      rfl
     exact hR.eq j x y Z' C hy
    exact Sb
   obtain rfl:p=n:=Z';have hcl:cur.length=p:=by rw[hR.ai.2.1];exact hnl
   obtain rfl:cur=ts:=s_ λj=>by
    by_cases hj:j<p
    .obtain⟨x,C⟩:=aa (l:=cur) (k:=j) Z';obtain⟨y,hy⟩:=aa (l:=ts) (k:=j) Z';rw[C,hy,hR.eq j x y hj C hy]
    exact sS
   rw[<-hR.ai.done];refine gJ ?_;intro ws I;refine .inr ⟨h0,rfl,⟨A,p,S,B,da cur,N,sa cur,z.map nR⟩,R,⟨rfl,rfl,hcl.symm,rfl⟩, ?_,rfl,I.sub (.cons _ (.cons _ (u_ _)))⟩;obtain⟨rfl,rfl,rfl,rfl,rfl,rfl⟩|h:=hR.src
   .exact .inl (by rw[hfm,G])
   exact .inr h
  have hrz:Qu ds es=1:=by unfold Qu;rw[Q' Z']
  refine Ga func110 ?_;refine Ib ?_;intro M w2 I b4 w4 I;refine cd I (hck _ I.below) ?_;intro w10 I;refine gJ ?_;intro ws I;exact .inl ⟨.inr ⟨h0,by rw[hrz];decide,by rw[hrz];rfl⟩,I.below⟩
 refine Ga func110 ?_;refine Ib ?_;intro M w2 I b4 w4 I;refine cd I (hck _ I.below) ?_;intro w10 I;refine gJ ?_;intro ws I;exact .inl ⟨.inl ⟨h0,rfl⟩,I.below⟩
def Vx(f:FX)(k:Nat)(w)(h:f.at_ w)(Q:f.qf k):Zc 116 #[f.V] w (wd f.e):=
 zr f.A f.B f.n f.a f.m f.b f.ds f.cs w h.dg h.nm (by have:=Q.w1;omega) λa M=>(Q.num a M).1
variable {fs:List FX}
def eI(L)(n c:Nat)(fs)(k:Nat)(w)(a:Sl w L n 2 (la FX.cells fs))(hn:n<=1000000)(Y:∀f∈fs,f.at_ w)(p:∀f∈fs,f.qf k):Zc 109 #[wn L n c] w (wd (Fg fs)):=by
 have I:=Hp.start w;have r:=a.Aa FX.len V';refine Ga func109 ?_;refine ea ?_;refine rf 3 (λv V=>∃i:Nat,i<=n/\v=wd i/\(fs.take i).any (λf=>decide (f.e≠0))=false/\Hp w [] V) (λv _=>n-(intOf v).toNat) ?_ ?_
 .exact⟨0,N' _,rfl,rfl,I⟩
 clear I;rintro ρ' v V ⟨i,hi,rfl,X,I⟩;by_cases D:i<n
 .obtain⟨f,C⟩:=aa (l:=fs) (k:=i) Z';have M:=O' C;have E:=λZ F=>Vx f k Z ((Y f M).ext F) (p f M);obtain⟨m,rfl,H⟩:=a.at_ Z';by_cases he:f.e=0
  .refine gN ?_;refine cd I (E _ I.below) ?_;intro d I;refine ea ?_;exact kS
  refine gN ?_;refine cd I (E _ I.below) ?_;intro d I;refine ea ?_;refine⟨?_,I.below⟩;unfold Fg;rw[Pm X C (w' he)]
 rw[G' Z'] at X;have b:Fg fs=if fs.length=0\/YF fs=true then 1 else 0:=by unfold Fg;rw[Sg X]
 rw[b];by_cases h0:n=0
 .exact hU
 obtain⟨f0,N⟩:=aa (l:=fs) (k:=0) Z';obtain⟨m,rfl,H⟩:=a.at_ Z';have t:(fs.map FX.n).headD 0=f0.n:=(by exact CT);refine ea ?_;refine rf 5 (λv V=>∃i:Nat,i<=n/\v=wd i/\(fs.take i).any (λf=>decide (f.n≠(fs.map FX.n).headD 0))=false/\Hp w [] V) (λv _=>n-(intOf v).toNat) ?_ ?_
 .exact⟨0,N' _,rfl,rfl,I⟩
 clear I;rintro R v w2 ⟨j,hj,rfl,X,I⟩;by_cases x:j<n
 .obtain⟨q,C⟩:=aa (l:=fs) (k:=j) Z';by_cases ho:q.n=f0.n
  .refine aa5 ?_;refine xa ?_;intro f W Q o;have K:=Q.bl;obtain⟨P,J,S,T,G,B,z,y,u,v30,s,_⟩:=o;refine J2 ?_;intro I;exact Sb
  refine aa5 ?_;refine dn ?_;intro W I;refine ea ?_;exact⟨by rw[Q' (.inr (E9.2 ⟨q,O' C,w' Z'⟩))],I.below⟩
 rw[G' Z'] at X;have A:YF fs=false:=X;refine ea ?_;refine⟨?_,I.below⟩;rw[R'];rintro (h|h)
 .omega
 rw[A] at h
 cases h
def FX.at_.ln{g:FX}(h:g.at_ w):g.ds.length=g.n/\g.cs.length=g.m:=⟨by have:=h.dg.1;rw[Hb] at this;omega,h.nm.Aa NR.len V'⟩
def Kept(fs:List FX)(R:List HE)(g:FX):Prop:=g∈fs\/(g.mh∈R/\g.gg∈R)
def Kept.at_{V:World}{R H:List HE}{g:FX}(h:Kept fs R g)(Y:∀f∈fs,f.at_ w)(K:∀x∈R,x∈H)(I:Hp w H V):g.at_ V:=by
 obtain h|⟨h1,h2⟩:=h
 .exact(Y g h).ext I.below
 exact I.Hg (K _ h1) (K _ h2)
def Kept.sub{R A:List HE}{g:FX}(h:Kept fs R g)(K:∀x∈R,x∈A):Kept fs A g:=h.imp id λ⟨a,b⟩=>⟨K _ a,K _ b⟩
def xX(f:FX)(E)(q v k:Nat)(es)(w)(Y:f.at_ w)(Q:f.qf k)(u:Sl w E q 1 (Fa es))(d:q<=1000)(c:k<=90000):Calls prog 110 #[f.V,wn E q v] w λr V=>((f.e≠0/\r=jI f.e\/f.e=0/\Qu f.ds es≠0/\r=jI (Qu f.ds es))/\Below w.heap.size w V)\/(f.e=0/\Qu f.ds es=0/\∃(g:FX)(R:List HE),aM (es.map Int.toNat) (kj (es.map Int.toNat) f) g/\(g=f\/R=[g.mh,g.gg])/\r=.returned (.tuple #[g.V,wd 0])/\Hp w R V):=
 bF f.A f.B E f.n f.a f.m f.b q v k f.ds es f.cs w Y Q u d c
def acq(h:Fg fs=0)(m:∀f∈fs,f.ds.length=f.n):∀f∈fs,Qu f.ds (sa (maxD fs))=if 4096<da (maxD fs) then 3 else 0:=λf hm=>by
 obtain⟨h1,h2,G⟩:=yh h m f hm;have F:=(FX.fv ((Xq h).2.1 f hm)).1;unfold Qu;have N:(f.ds.zip (sa (maxD fs))).any km=false:=P9.2 λp hp=>(by obtain⟨j,hj⟩:=r_.1 hp;rw[p7] at hj;obtain⟨R,X⟩:=hj;rw[F] at R;unfold sa at R X;rw[C'] at R X;obtain⟨x,C,Q⟩:=y9.1 R;obtain⟨y,hy,A⟩:=y9.1 X;have:=h2 j x y C hy;have:=G y (O' hy);unfold km;rw[Y_];omega);rw[R' (by rw[Za,h1,F,Za];omega),R' (by rw[N];decide),xf]
def GA(L)(n c:Nat)(fs)(k:Nat)(w)(hL:Sl w L n 2 (la FX.cells fs))(hn:n<=1000)(Y:∀f∈fs,f.at_ w)(hl:∀f∈fs,f.qf k)(hk:k<=90000):Calls prog 44 #[wn L n c] w λr V=>(Nb fs≠0/\r=.returned (.tuple #[wn none 0 0,wd (Nb fs)])/\Below w.heap.size w V)\/(Nb fs=0/\∃(A:t6)(a:Nat)(gs:List FX)(R:List HE),r=.returned (.tuple #[wn A n a,wd 0])/\gs.length=n/\(∀(i:Nat)(f g:FX),fs[i]?=some f->gs[i]?=some g->aM (maxD fs) (kj (maxD fs) f) g)/\(∀g∈gs,Kept fs R g)/\Hp w (.row A n a 78 2 (la FX.cells gs)::R) V):=by
 have I:=Hp.start w;have hln:=hL.Aa FX.len V';have hlk:=λZ F=>eI L n c fs k Z (hL.ext F) Z' (λf hm=>(Y f hm).ext F) hl;unfold Nb;by_cases Q:Fg fs=0
 .obtain⟨hne,Ij,hnv⟩:=Xq Q;have H:=yh Q λf hm=>(Y f hm).ln.1;have hrz:=acq Q λf hm=>(Y f hm).ln.1;obtain⟨f0,N⟩:=aa (l:=fs) (k:=0) (E7.2 hne);have G:=O' N;have hhd:(fs.map FX.n).headD 0=f0.n:=(by exact CT);have X:∀f∈fs,f.ns.length=f0.n:=λf hm=>(by have h1:=(Y f hm).ln.1;have h2:=hnv f hm;rw[hhd] at h2;unfold FX.ns;rw[B'];omega);have s:∀f∈fs,f.ds=sa f.ns:=λf hm=>(FX.fv (Ij f hm)).1;have h12:f0.n<=12:=by have:=(FX.fv (Ij f0 G)).2.2.1;rw[X f0 G] at this;exact this
  have hDe:maxD fs=(fs.map FX.ns).foldl ig f0.ns:=(by unfold maxD;rw[List.foldl_map];congr 1;exact CT);have S:=X f0 G;have hF:=λi=>(Xw ((fs.take i).map FX.ns) f0.ns λl hl=>by
   obtain⟨f,hf2,rfl⟩:=x'.1 hl;rw[X f (Z8 hf2),S]).1
  obtain⟨ad,rfl,hr⟩:=hL.at_ (by have:=(z'.1 N).1;omega);have hn0:0<n:=by have:=(z'.1 N).1;omega
  rw[R' Z'];refine Ga (l:=[wn (some ad) n c]) func44 ?_;refine ea ?_;refine cd I (hlk _ I.below) ?_;intro w13 I;refine ea ?_;refine du ?_;intro b17 w17 I;refine ea ?_;refine sv (Ma pa.out rfl (Ab I.below ((hr.recAt FX.len N) 0 _ rfl))) ?_;refine pb I (i:=0) rfl rfl rfl ((Y f0 G).dg.ext I.below) Qa.out pa.out rfl V' ?one10 Z' Z' V' ?kk10
  case one10=>first|rfl|assumption|exact Ja _|exact oneCells_u8s _
  intro T p w22 I;simp only[l'] at I;rw[i' f0.n];rw[i',J',s f0 G] at I;refine ea ?_;refine rf 6 (λv V=>∃i:Nat,i<=n/\v=wd i/\Hp w [.row T f0.n p 3 1 (Fa (sa (((fs.take i).map FX.ns).foldl ig f0.ns)))] V) (λv _=>n-(intOf v).toNat) ?_ ?_
  .exact⟨0,N' _,rfl,I⟩
  clear I;rintro ρ' v V ⟨i,hi,rfl,I⟩;by_cases hlt:i<n
  .obtain⟨q,C⟩:=aa (l:=fs) (k:=i) Z';have M:=O' C;have z:((fs.take (i+1)).map FX.ns).foldl ig f0.ns=ig (((fs.take i).map FX.ns).foldl ig f0.ns) q.ns:=by rw[ja C,q_,u7];rfl
   have hal:=hF i;generalize ((fs.take i).map FX.ns).foldl ig f0.ns=a at*;have E:a.length=q.ns.length:=by rw[hal,S,X q M]
   have hfd:=s q M;have hfl:=X q M;have hfn:=(Y q M).ln.1;rw[hfd,Za,hfl] at hfn;refine ea ?_;refine rf 7 (λv V=>∃j:Nat,j<=f0.n/\v=wd j/\Hp w [.row T f0.n p 3 1 (Fa (sa (Qt a q.ns j)))] V) (λv _=>f0.n-(intOf v).toNat) ?_ ?_
   .refine⟨0,N' _,rfl, ?_⟩;show Hp w [.row T f0.n p 3 1 (Fa (sa (List.take 0 _++List.drop 0 a)))] _;rw[x9,J',T7];exact I
   clear I;rintro ρ2 v w2 ⟨j,hj,rfl,I⟩;by_cases hjn:j<f0.n
   .obtain⟨x,hxa⟩:=aa (l:=a) (k:=j) Z';obtain⟨y,hyb⟩:=aa (l:=q.ns) (k:=j) Z';have hgx:=Db (jc (IL E hxa));have hgy:(Fa q.ds)[j]?=some (wd (y:Int)):=by rw[hfd];exact Db (jc hyb)
    obtain⟨a2,hA2,s2⟩:=(Y q M).dg.at_ Z';have fl:∀Z,Below w.heap.size w Z->Z.cell? ((ad.add (i*2)).add 0)=some (wn (some a2) q.n q.a):=λZ F=>(by have:=Ab F ((hr.recAt FX.len C) 0 _ rfl);rwa[hA2] at this);have H:(Fa (sa (Qt a q.ns j))).length=f0.n:=by rw[Hb,Za,GI E Z'];omega
    obtain⟨gd,rfl⟩:=I.ib (i:=0) rfl Z';refine ea ?_;refine Od 15 I ?_;refine Ku (j) ?_;refine Ba (i:=5) (λU Z hj hR=>Ma pa.out (show U 39=Value.pointer _ from hR.1) (hj.hp.Pd (i:=0) rfl (by rw[W_];exact hgx))) ?_;refine ub ?_;refine Wi (i) ?_;refine px ?_;refine Ym (λ_ hj=>fl _ hj.hp.below) ?_;refine Gv ?_;refine Ba (i:=12) (λU Z hj hR=>Vb Qa.out pa.size (show U 45=Value.slice _ _ _ from hR.1) (show U 46=Value.int _ _ from hR.2.1) Z' Z') ?_;refine Ym (λ_ hj=>(s2.ext hj.hp.below).Dl hgy) ?_;refine Ba (i:=14) (λU Z hj hR=>DS (show U 40=Value.int _ _ from hR.1) (show U 48=Value.int _ _ from hR.2.1)) ?_;refine dn ?_;intro W I;have hmx:(if(y:Int)>(x:Int) then(y:Int) else(x:Int))=((max x y:Nat):Int):=by split<;>omega
    refine ea ?_;refine Lb I (i:=0) (vs:=[_]) rfl rfl (Ac rfl) rfl pa.out rfl Z' rfl ?_;intro ws I;simp only[l'] at I;exact W1
   obtain rfl:j=f0.n:=Z';have hmf:Qt a q.ns f0.n=ig a q.ns:=(by exact aa1);rw[hmf,<-z] at I;refine aaA ?_;exact Sb
  obtain rfl:i=n:=Z';rw[G' Z',<-hDe] at I;have hDl:=(H f0 G).1;rw[S] at hDl;generalize maxD fs=D at*;refine ea ?_;replace I:=I.yb 78 2;refine Jh 8 9 (λv8 v V=>∃(j c8:Nat)(A:t6)(gs:List FX)(R:List HE),j<=i/\v=wd j/\v8=wn A j c8/\gs.length=j/\(0<j->¬4096<da D)/\(∀(t:Nat)(f g:FX),fs[t]?=some f->gs[t]?=some g->aM D (kj D f) g)/\(∀g∈gs,Kept fs R g)/\Hp w (.row A j c8 78 2 (la FX.cells gs)::.row T f0.n p 3 1 (Fa (sa D))::R) V) (λ_ v _=>i-(intOf v).toNat) ?_ ?_
  .exact⟨0,0,none,[],[],N' _,rfl,rfl,rfl,λh=>absurd h (Nat.lt_irrefl 0),λt f g _ h=>by simp at h,(λ_ h=>nomatch h),I⟩
  clear I;rintro ρ' v8 v V ⟨j,c8,A,gs,R,hj,rfl,rfl,e,hno,hup,hkp,I⟩;by_cases hlt:j<i
  .obtain⟨f,C⟩:=aa (l:=fs) (k:=j) Z';have M:=O' C;have d:=λZ F hE=>xX f T f0.n p k (sa D) Z ((Y f M).ext F) (hl f M) hE Z' hk;rw[hrz f M,xf] at d;refine JS ?_;refine mL ?_;by_cases K:4096<da D
   .rw[Q' K] at d;have J:=λZ F hE=>(d Z F hE).mono λr V h=>show r=jI 3/\Below Z.heap.size Z V from(by exact aad);refine cd I (J _ I.below (I.ka (i:=1) rfl)) ?_;intro w63 I;refine Ib ?_;intro b10 w10 I ws I;rw[Q' K];exact .inl ⟨V',rfl,I.below⟩
   rw[R' K] at d;have J:=λZ F hE=>(d Z F hE).mono λr V h=>show ∃(g:FX)(P:List HE),aM D (kj D f) g/\(g=f\/P=[g.mh,g.gg])/\r=.returned (.tuple #[g.V,wd 0])/\Hp Z P V from by
    obtain⟨h|h,hb2⟩|h:=h
    .exact absurd (Ij f M) h.1
    .exact absurd rfl h.2.1
    exact h.2.2
   refine Vg (J _ I.below (I.ka (i:=1) rfl)) ?_;rintro e_ w63 ⟨g,P,hu,hsrc,rfl,h2⟩;refine⟨_,rfl, ?_⟩;replace I:Hp w (_::_::(R++P)) _:=(I.join h2).perm e8;refine Ib ?_;intro b10 w10 I ws I;refine SN ?_;intro b71 w71 I;refine EC ?_;intro A72 c72 w72 I;simp only[Z9] at I;replace I:=I.sub (d_ _ _);refine ea ?_;replace I:=I.sub (L' _ (P' _ (P' _ (u_ _))));refine⟨⟨j+1,c72,A72,gs++[g],R++P,Z',rfl,rfl,by rw[D',e];rfl,λ_=>K,λt f' g' u o=> ?_,λg' o=> ?_,by rw[Na];exact I⟩,by show i-(j+1)<i-j;omega, ?_⟩
   .by_cases ht:t<j
    .rw[o9 Z'] at o;exact hup t f' g' u o
    have htl:=(z'.1 o).1;rw[D',e] at htl;obtain rfl:t=j:=by have:t<j+1:=htl;omega
    rw[R9 Z',e,t_] at o;rw[C] at u;obtain rfl:=P_ u;obtain rfl:g=g':=P_ o;exact hu
   .obtain h|h:=A_.1 o
    .exact(hkp g' h).sub λx C=>q9 _ C
    obtain rfl:=k'.1 h;obtain rfl|rfl:=hsrc
    .exact .inl M
    exact .inr ⟨H_ _ E',H_ _ (u' _ E')⟩
   exact Sb
  obtain rfl:j=i:=Z';have K:=hno Z';refine ea ?_;rw[R' K];exact .inr ⟨rfl,A,c8,gs,R,rfl,e,hup,hkp,I.sub (P' _ (d_ _ _))⟩
 rw[Q' Q];refine Ga func44 ?_;refine ea ?_;refine cd I (hlk _ I.below) ?_;intro w13 I;refine ea ?_;exact .inl ⟨Q,rfl,I.below⟩
variable {E:Int}
def aet(E:Int)(D:t3):t4:=if E=0 then sa D else[]
variable {ys:t5}
def aeQ(E:Int)(ys:t5):List NR:=if E=0 then ys.map nR else[]
structure Out(E:Int)(D:t3)(ys:t5)(g:FX):Prop where
 ds:g.ds=aet E D
 cs:g.cs=aeQ E ys
 n:g.n<=100000
 m:g.m<=1000000
def FX.nil:FX:=⟨none,0,0,none,0,0,[],[]⟩
def Hp.JF{H:List HE}(h:Hp w0 H w):Hp w0 (FX.nil.mh::FX.nil.gg::H) w:=(h.yb 3 1).yb 30 3
def Out.err{D:t3}(h:E≠0):Out E D ys FX.nil:=⟨by unfold aet;rw[R' h];rfl,by unfold aeQ;rw[R' h];rfl,N' _,N' _⟩
def aM.out{D:t3}{g:FX}(h:aM D ys g)(h1:D.length<=1000)(h2:da D<=4096):Out 0 D ys g:=⟨h.ds,h.cs,by rw[h.n];omega,by rw[h.m];omega⟩
def Nk{fs:List FX}(h:Nb fs=0)(m:∀f∈fs,f.ds.length=f.n):Fg fs=0/\(maxD fs).length<=1000/\da (maxD fs)<=4096:=by
 have j:Fg fs=0:=by
  unfold Nb at h;split at h
  .rename_i h2;exact absurd h h2
  rename_i h2;simpa using h2
 obtain⟨E,Ij,_⟩:=Xq j;obtain⟨f0,q,rfl⟩:=g6 E;have h1:=(yh j m f0 E').1;have h2:=(FX.fv (Ij f0 E')).2.2.1;refine⟨j,Z', ?_⟩;unfold Nb at h;rw[R' Z'] at h;split at h
 .cases h
 omega
def agd(f:FX)(es:t4):Int:=if f.e≠0 then f.e else Qu f.ds es
def PN(f g:FX)(k:Nat)(w)(S:Nd w)(Y:f.at_ w)(s:g.at_ w)(c:f.qf k)(R:g.qf k)(l:f.m<=200)(d:g.m<=200)(u:k<=90000):Calls prog 88 #[f.V,g.V] w λr V=>∃x y:FX,Out (Nb [f,g]) (maxD [f,g]) (kj (maxD [f,g]) f) x/\Out (Nb [f,g]) (maxD [f,g]) (kj (maxD [f,g]) g) y/\r=.returned (.tuple #[x.V,y.V,wd (Nb [f,g])])/\Hp w [y.mh,y.gg,x.mh,x.gg] V:=by
 refine(iH f g k w S Y s c R l d u).mono λr V h=> ?_;obtain⟨h,rfl,F⟩|⟨h,x,y,C,hy,rfl,h2⟩:=h
 .exact⟨FX.nil,FX.nil,.err h,.err h,rfl,((Hp.start w).ext F).JF.JF⟩
 obtain⟨_,G,z⟩:=Nk h (by simpa using⟨Y.ln.1,s.ln.1⟩);rw[h];exact⟨x,y,C.out G z,hy.out G z,rfl,h2⟩
def FX.key(f:FX):t4×List NR×Nat:=(f.ds,f.cs,f.n)
def LU:∀{fs gs:List FX},fs.map FX.key=gs.map FX.key->Fg fs=Fg gs/\Nb fs=Nb gs/\maxD fs=maxD gs/\∀D,fs.map (kj D)=gs.map (kj D):=λ{fs gs} h=>by
 have N:∀(p:t4×List NR×Nat->Bool)(l:List FX),l.any (λf=>p f.key)=(l.map FX.key).any p:=λp l=>by rw[List.any_map];rfl
 have B:fs.map FX.n=gs.map FX.n:=(by have:=C_ (List.map (λx:t4×List NR×Nat=>x.2.2)) h;rwa[E_,E_] at this);have Q:fs.length=gs.length:=by have:=C_ List.length h;simpa using this
 have i:Fg fs=Fg gs:=by
  have W:YF fs=YF gs:=(by have a:=N (λx=>decide (x.2.2≠(fs.map FX.n).headD 0)) fs;have b:=N (λx=>decide (x.2.2≠(fs.map FX.n).headD 0)) gs;rw[h,<-b] at a;unfold YF;rw[<-B];exact a);have Y:(fs.find? (λf=>decide (f.e≠0))).map FX.key=(gs.find? (λf=>decide (f.e≠0))).map FX.key:=by
   have a:∀l:List FX,(l.find? (λf=>decide (f.e≠0))).map FX.key=(l.map FX.key).find? (λx=>decide (fE x.1 x.2.1≠0)):=λl=>by rw[List.find?_map];rfl
   rw[a,a,h]
  unfold Fg;rw[W,Q]
  cases h1:fs.find? (λf=>decide (f.e≠0)) with
  |none=>
   rw[h1] at Y
   cases h2:gs.find? (λf=>decide (f.e≠0)) with
   |none=>rfl
   |some g=>rw[h2] at Y;cases Y
  |some f=>
   rw[h1] at Y
   cases h2:gs.find? (λf=>decide (f.e≠0)) with
   |none=>rw[h2] at Y;cases Y
   |some g=>
    rw[h2] at Y;have u:f.key=g.key:=P_ Y;unfold FX.key at u;show fE f.ds f.cs=fE g.ds g.cs;injection u with a b
    injection b with b c
    rw[a,b]
 have o:maxD fs=maxD gs:=by
  have a:∀l:List FX,maxD l=(l.map FX.key).foldl (λa x=>ig a (x.1.map Int.toNat)) (((l.map FX.key).map λx=>x.1.map Int.toNat).headD []):=λl=>by unfold maxD;rw[List.foldl_map,E_];rfl
  rw[a,a,h]
 refine⟨i,by unfold Nb;rw[i,o],o,λD=> ?_⟩;have a:∀l:List FX,l.map (kj D)=(l.map FX.key).map λx=>Xi (x.1.map Int.toNat) D (x.2.1.map NR.fa):=λl=>by rw[E_];rfl
 rw[a,a,h]
def NU{D:t3}{g:FX}(h:Out 0 D ys g)(h1:D.length<=12)(h2:∀d∈D,d<=127)(G:ys.length=da D)(z:da D<=4096):g.e=0/\g.ns=D/\g.cs.map NR.fa=ys:=by
 have N:g.ds=sa D:=h.ds;have L:g.cs=ys.map nR:=h.cs;refine⟨?_, ?_, ?_⟩
 .unfold FX.e;rw[N,L];exact FV.ok (xs:=ys) ⟨rfl,rfl,h1,h2,G,z⟩
 .unfold FX.ns;rw[N];exact xf D
 rw[L,E_];exact(J9 λx _=>Ta x).trans (p8 ys)
def CH:∀{l:t4}{o:Int},o≠2->(∀s∈l,s≠2)->Ux o l≠0->Ux o l=o/\∀s∈l,s=o
 |[],_,_,_,_=>⟨rfl,λ_ h=>absurd h i_⟩
 |x::r,o,h1,h2,G=>by
  unfold Ux at G |-;by_cases h:o=2\/o=x
  .rw[Q' h] at G |-;obtain h|rfl:=h
   .exact absurd h h1
   obtain⟨z,P⟩:=CH h1 (λs K=>h2 s (u' _ K)) G;exact⟨z,λs K=>by
    obtain rfl|K:=y'.1 K
    .rfl
    exact P s K⟩
  rw[R' h] at G;exact absurd rfl G
def JY{l:List NR}(h:Gr l≠0):∀a∈l,a.i.sign=Gr l:=λa M=>by
 have F:∀s∈l.map (λa=>a.i.sign),s≠2:=λs K=>(by obtain⟨a,_,rfl⟩:=x'.1 K;have:=Yi a.i;omega);unfold Gr at h |-;have hm:a.i.sign∈l.map (λa=>a.i.sign):=x'.2 ⟨a,M,rfl⟩;generalize l.map (λa=>a.i.sign)=L at*
 cases L with
 |nil=>exact absurd hm i_
 |cons s r=>
  rw[Ux,Q' (.inl rfl)] at h |-;obtain⟨z,P⟩:=CH (F s E') (λx C=>F x (u' _ C)) h;rw[z];obtain h|h:=y'.1 hm
  .exact h
  exact P _ h
def UY{y:Dyadic}(h:(nR y).i.sign≠0):y≠0:=λe=>h (by rw[e,Pn];rfl)
def wM{l:t5}(h:Gr (l.map nR)≠0):∀y∈l,y≠0:=λy hy=>UY (by rw[JY h _ (x'.2 ⟨y,hy,rfl⟩)];exact h)
variable {X:t5}
def Ss{K:Nat}{x y:Dyadic}(p:Int)(C:Sz K x)(hy:Sz K y)(h1: -1000<=p)(h2:p<=1000):Sz (4*K+2014) (gu x y p):=by
 obtain⟨J,o,n⟩:=C.nr;obtain⟨X,Y,b⟩:=hy.nr;have F:=mf (nR x).neg (nR x).Ra;have s:Wa (Uw (nR x) (nR y) p).natAbs<=4*K+1007:=by
  unfold Uw;split
  .have:=eg (nR x).i ((nR x).e-(nR y).e+p).toNat;unfold NR.i at*;omega
  unfold NR.i;omega
 have g:Wa (UA (nR x) (nR y) p).natAbs<=4*K+1007:=by
  unfold UA;split
  .refine p' (Uc (X9 (x7 _ _) ?_)) s;rw[Int.natAbs_neg];exact wc _
  exact p' (Uc (X9 (x7 _ _) (wc _))) s
 unfold gu;generalize UA (nR x) (nR y) p=q at*;have G:=Sz.raw (a:=⟨iN q,iM q, -p⟩) (m:=4*K+1014) (E:=1000) (by show 8*(iM q).size<=_;rw[yc];omega) (by show -((1000:Nat):Int)<= -p;omega) (by show -p<=((1000:Nat):Int);omega);have z:(NR.mk (iN q) (iM q) (-p)).fa=Dyadic.ofIntWithPrec q p:=(by unfold NR.fa NR.i;rw[Cd,O7]);rw[z] at G;exact G.mono Z'
def Zf(f g:FX):Int:=if Nb [f,g]=0 then(if Gr ((kj (maxD [f,g]) g).map nR)=0 then 4 else 0) else Nb [f,g]
def CK:SR:=⟨⟨false,ByteArray.mk #[],0⟩,⟨false,ByteArray.mk #[],0⟩⟩
def Vj(X Y:t5)(p:Int):List SR:=List.zipWith (λx y=>dr x y p) X Y
def De(f g:FX)(p:Int):SR:=if Zf f g=0 then Se (Vj (kj (maxD [f,g]) f) (kj (maxD [f,g]) g) p) else CK
def Km{Y:t5}{p:Int}{i:Nat}{x y:Dyadic}(C:X[i]?=some x)(hy:Y[i]?=some y):(Vj X Y p)[i]?=some (dr x y p):=by
 unfold Vj;rw[A8,C,hy]
def Dq{Y:t5}{p:Int}(h:X.length=Y.length):(Vj X Y p).length=X.length:=by
 unfold Vj;rw[S6];omega
def OI(f g:FX)(k:Nat)(p:Int)(w:World)(S:Nd w)(hf:f.at_ w)(hg:g.at_ w)(hlf:f.qf k)(hlg:g.qf k)(hmf:f.m<=200)(hmg:g.m<=200)(hk:k<=90000)(hz:Nb [f,g]=0->(∀x∈kj (maxD [f,g]) f,Sz 250000 x)/\∀x∈kj (maxD [f,g]) g,Sz 250000 x)(L: -1000<=p)(H:p<=1000):Zc 33 #[.agg #[wn f.A f.n f.a,wn f.B f.m f.b],.agg #[wn g.A g.n g.a,wn g.B g.m g.b],wd p] w (.tuple #[.agg (SR.cells (De f g p)).toArray,wd (Zf f g)]):=by
 have I:=Hp.start w;have e:=λZ P F=>PN f g k Z P (hf.ext F) (hg.ext F) hlf hlg hmf hmg hk;unfold De Zf;by_cases J:Nb [f,g]=0
 .obtain⟨hX,K⟩:=hz J;obtain⟨C,_,E⟩:=Nk J (by simpa using⟨hf.ln.1,hg.ln.1⟩);have j:∀x∈[f,g],x.ds.length=x.n:=by simpa using⟨hf.ln.1,hg.ln.1⟩
  obtain⟨a1,a2,a3⟩:=yh C j f (by simp);obtain⟨c1,c2, -⟩:=yh C j g (by simp);have lx:=Ak a1 a2;have ly:=Ak c1 c2;have o:=(FX.fv ((Xq C).2.1 f (by simp))).2.2.1;rw[<-a1] at o;rw[Q' J];rw[J] at e;generalize kj (maxD [f,g]) f=X at*;generalize kj (maxD [f,g]) g=Y at*;generalize maxD [f,g]=D at*;by_cases R:Gr (Y.map nR)=0
  .rw[Q' R,R' V'];refine Ga func33 ?_;refine Ii ?_;intro b3 w3 I b4 w4 I b6 w6 I;refine Vg (e _ (S.hp I) I.below) ?_;rintro e_ w21 ⟨x,y,ox,oy,rfl,G⟩;refine⟨_,rfl, ?_⟩;replace I:=I.join G;simp only[I',J'] at I;clear G;refine Kx ?_;intro b8 w8 I b9 w9 I ws I ws I;have q:=(FX.at_.mk (I.ka (i:=3) rfl) (I.ka (i:=2) rfl):y.at_ _);have u:=q.ln;obtain⟨ye,yns,yd⟩:=NU oy o a3 ly E;have N:y.cs=Y.map nR:=oy.cs;have r:y.qf 250000:=⟨by rw[<-u.1,oy.ds];show(sa D).length<=1000;rw[Za];omega,by rw[<-u.2,N,B'];omega,λc E=>by
    rw[N] at E;obtain⟨d,hd,rfl⟩:=x'.1 E;rw[Ta];exact⟨(K d hd).ok Z',K d hd⟩⟩
   have z:=λZ P hy=>Lw y 250000 Z P hy r ye;rw[N] at z;refine cd I (z _ (S.hp I) q) ?_;intro w31 I;rw[R];refine Gb ?_;intro ws I;exact adq
  rw[R' R,Q' rfl];have hnz:=wM R;have hqs:∀(i:Nat)(a b:Dyadic),X[i]?=some a->Y[i]?=some b->∀Z,Nd Z->Zc 90 #[.agg (NR.cells (nR a)).toArray,.agg (NR.cells (nR b)).toArray,wd p] Z (.tuple #[.agg (SR.cells (dr a b p)).toArray,wd 0]):=λi a b M F Z P=>(by have Q:=hX a (O' M);have T:=K b (O' F);have:=TO (nR a) (nR b) p Z P (Q.ok Z') (T.ok Z');rw[Ta,Ta] at this;exact this (Q.ok Z') (Q.neg.ok Z') (T.ok Z') (hnz b (O' F)) ((Ss p Q.neg T L H).ok Z') L H);have hsok:∀s∈Vj X Y p,s.ok:=λs R=>(by obtain⟨i,hi⟩:=r_.1 R;have hi2:=(z'.1 hi).1;rw[Dq Z'] at hi2;obtain⟨a,M⟩:=aa hi2;obtain⟨b,F⟩:=aa (l:=Y) (k:=i) Z';rw[Km M F] at hi;rw[<-P_ hi];have Q:=hX a (O' M);have T:=K b (O' F);exact⟨(Ss p Q T L H).ok Z',(Ss p Q.neg T L H).neg.ok Z'⟩);have t:=λA c Z P hS1=>Iz A (da D) c (Vj X Y p) Z P hS1 hsok Z';have hql:=Dq (p:=p) (show X.length=Y.length by omega);refine Ga func33 ?_;refine Ii ?_;intro b3 w3 I b4 w4 I b6 w6 I;refine Vg (e _ (S.hp I) I.below) ?_;rintro e_ w21 ⟨x,y,ox,oy,rfl,G⟩;refine⟨_,rfl, ?_⟩;replace I:=I.join G;simp only[I',J'] at I;clear G;refine Kx ?_;intro b8 w8 I b9 w9 I ws I ws I;have q:=(FX.at_.mk (I.ka (i:=3) rfl) (I.ka (i:=2) rfl):y.at_ _);have u:=q.ln;obtain⟨ye,yns,yd⟩:=NU oy o a3 ly E;have N:y.cs=Y.map nR:=oy.cs;have r:y.qf 250000:=⟨by rw[<-u.1,oy.ds];show(sa D).length<=1000;rw[Za];omega,by rw[<-u.2,N,B'];omega,λc E=>by
   rw[N] at E;obtain⟨d,hd,rfl⟩:=x'.1 E;rw[Ta];exact⟨(K d hd).ok Z',K d hd⟩⟩
  have z:=λZ P hy=>Lw y 250000 Z P hy r ye;rw[N] at z;refine cd I (z _ (S.hp I) q) ?_;intro w31 I;refine ea ?_;replace I:=I.yb 36 6;have xln:x.m=da D:=(by have:=I.ka (i:=5) rfl;have h1:=this.Aa NR.len V';rw[<-h1,show x.cs=X.map nR from ox.cs,B'];exact lx);have yln2:y.m=da D:=by rw[<-u.2,N,B'];exact ly
  replace I:=I.sub (P' _ (P' _ (L' _ (P' _ (L' _ (P' _ (L' _ (P' _ (L' _ (L' _ j'))))))))));have xcs:x.cs=X.map nR:=ox.cs;simp only[FX.mh,N,xcs] at I;generalize x.B=xB at*;generalize y.B=yB at*;refine Jh 13 40 (λv13 v V=>∃(i c3:Nat)(A:t6),i<=da D/\v=wd i/\v13=wn A i c3/\Hp w [.row A i c3 36 6 (la SR.cells ((Vj X Y p).take i)),.blk b9 78 [wn y.A y.n y.a,wn yB y.m y.b] (0,0),.row yB y.m y.b 30 3 (la NR.cells (Y.map nR)),.row xB x.m x.b 30 3 (la NR.cells (X.map nR)),.blk b6 36 [ww false,wt (ByteArray.mk #[]),wd 0,ww false,wt (ByteArray.mk #[]),wd 0] (0,0)] V) (λ_ v _=>da D-(intOf v).toNat) ?_ ?_
  .exact⟨0,0,none,N' _,rfl,rfl,I⟩
  clear I;rintro ρ' v13 v V ⟨i,c3,A,hi,rfl,rfl,I⟩;by_cases hlt:i<da D
  .obtain⟨a,M⟩:=aa (l:=X) (k:=i) Z';obtain⟨b,F⟩:=aa (l:=Y) (k:=i) Z';have hq:=hqs i a b M F;have han:(X.map nR)[i]?=some (nR a):=by rw[C',M];rfl
   have hbn:(Y.map nR)[i]?=some (nR b):=by rw[C',F];rfl
   obtain⟨gx,rfl⟩:=I.ib (i:=3) rfl Z';obtain⟨gy,rfl⟩:=I.ib (i:=2) rfl Z';refine ea ?_;refine sv (Ua (vs:=[_,_,_]) pa.out rfl (I.Wc (f:=NR.cells) (x:=nR a) (l:=X.map nR) (i:=3) rfl NR.len V' han) rfl) ?_;refine Ib ?_;intro b15 w15 I ws I;refine gz [11] [10] 12 I ?_;refine ub ?_;refine Ku (i) ?_;refine fk [_,_,_] (λ_ hj=>hj.hp.Wc (f:=NR.cells) (x:=nR b) (l:=Y.map nR) (i:=3) rfl NR.len V' hbn) ?_;refine Gv ?_;refine dC (λ_ hj=>hq _ (S.hp hj.hp)) ?_;refine ub ?_;refine ua (i:=11) (Sa _ 36 _) Sa.ext (λU Z hj hR=>Xc pa.out hj.bl (λv w2 h F=>⟨F,h⟩)) ?_;refine xa ?_;intro f W hJ hV _;obtain⟨v16,v55,v54,v45,v53,v52,v51,v50,v49,v48,v47,v46,_⟩:=hV;obtain⟨b16,e16,hl16,hc16⟩:Sa _ _ _ (f 11) W:=v16;replace I:=hJ.newVar I hl16 hc16;refine Be ?_;clear e16 hJ;refine Gb ?_;intro ws I;refine yC ?_;intro b58 w58 I;refine MH ?_;intro A59 c59 w59 I;simp only[l',Z9] at I;replace I:=I.sub (d_ _ _);refine ea ?_
   replace I:=I.sub (L' _ (L' _ (P' _ (P' _ (P' _ (P' _ (P' _ j')))))));refine⟨⟨i+1,c59,A59,Z',rfl,rfl, ?_⟩,by show da D-(i+1)<da D-i;omega, ?_⟩
   .rw[ja (Km M F),Na];exact I
   exact Sb
  obtain rfl:i=da D:=Z';rw[G' Z'] at I;refine ea ?_;refine cd I (t _ _ _ (S.hp I) (I.ka (i:=0) rfl)) ?_;intro w62 I;refine Gb ?_;intro ws I;refine kB (jb rfl (kb (vs:=[_,_,_,_,_,_]) pa.out (I.wa (i:=4) (n:=6) rfl rfl) rfl) (Dc (Sc rfl) Ub)) ?_;exact⟨rfl,I.below⟩
 have hE:¬Nb [f,g]=0:=J;rw[R' J,R' J];refine Ga func33 ?_;refine Ii ?_;intro b3 w3 I b4 w4 I b6 w6 I;refine Vg (e _ (S.hp I) I.below) ?_;rintro e_ w21 ⟨x,y,ox,oy,rfl,G⟩;refine⟨_,rfl, ?_⟩;replace I:=I.join G;simp only[I',J'] at I;clear G;refine gg5 ?_;intro b8 w8 I b9 w9 I ws I ws I ws I;exact adq
def Ij:t5->Dyadic->Dyadic
 |[],_=>0
 |c::cs,t=>c+t*Ij cs t
def tw{a b:Dyadic}(h:a*b=0)(M:a≠0):b=0:=by
 refine N8 λF=> ?_;have key:∀x y:Dyadic,0<x->y≠0->x*y≠0:=λx y C hy=>by
  by_cases J:0<y
  .have:=Lean.Grind.OrderedRing.mul_pos C J;grind
  have K:0< -y:=by grind
  have:=Lean.Grind.OrderedRing.mul_pos C K;grind
 by_cases J:0<a
 .exact key a b J F h
 exact key (-a) b (by grind) F (by grind)
def adL(l:t5):∃a:Dyadic,∀b∈l,b<a:=by
 induction l with
 |nil=>exact⟨0,λb F=>nomatch F⟩
 |cons x l W=>
  obtain⟨a,M⟩:=W;by_cases h:a<=x
  .refine⟨x+1,λb F=> ?_⟩;obtain rfl|F:=y'.1 F
   .grind
   have:=M b F;grind
  refine⟨a,λb F=> ?_⟩;obtain rfl|F:=y'.1 F
  .grind
  exact M b F
def GN(a:Dyadic):∀cs:t5,∃g:t5,g.length<=cs.length-1/\(∀t,Ij cs t=Ij cs a+(t-a)*Ij g t)/\((∀x∈g,x=0)->Ij cs a=0->∀x∈cs,x=0)
 |[]=>⟨[],F' _,λt=>by simp only[Ij];grind,λ_ _ x C=>nomatch C⟩
 |[c]=>⟨[],F' _,λt=>by simp only[Ij];grind,λ_ h x C=>by
   rw[k'.1 C];simp only[Ij] at h;grind⟩
 |c::d::cs=>by
  obtain⟨g,h1,h2,G⟩:=GN a (d::cs);refine⟨Ij (d::cs) a::g, ?_,λt=> ?_,λs J x C=> ?_⟩
  .simp only[V_] at h1 |-;omega
  .show c+t*Ij (d::cs) t=(c+a*Ij (d::cs) a)+(t-a)*(Ij (d::cs) a+t*Ij g t);rw[h2 t];generalize Ij (d::cs) a=A;generalize Ij g t=B;grind
  have N:Ij (d::cs) a=0:=s _ E';have L:=G (λy hy=>s y (u' _ hy)) N;obtain rfl|C:=y'.1 C
  .rw[Ij,N] at J;grind
  exact L x C
def bG:∀(n:Nat)(cs bad:t5),cs.length<=n->(∀t,t∉bad->Ij cs t=0)->∀x∈cs,x=0
 |0,cs,_,B,_=>λx C=>by
  rw[n8.1 (Nat.le_zero.1 B)] at C
  cases C
 |n+1,cs,bad,B,h=>by
  obtain⟨a,M⟩:=adL bad;have E:a∉bad:=λF=>by have:=M a F;grind
  obtain⟨g,h1,h2,G⟩:=GN a cs;have d:=h a E;refine G (bG n g (a::bad) Z' λt S=> ?_) d;rw[y',not_or] at S;have N:=h2 t;rw[h t S.2,d] at N;refine tw (a:=t-a) (by grind) (λe=>S.1 (by grind))
def TC(f:Nat->Dyadic)(t):∀(n s:Nat),t^s*Ij ((List.range' s n).map f) t=sm (List.range' s n) λr=>f r*t^r
 |0,s=>by rw[List.range'_zero];exact a7 _
 |n+1,s=>(by rw[List.range'_succ,T_,Ij,sm,<-TC f t n (s+1),Dyadic.pow_succ];grind)
def aE{f:Nat->Dyadic}(h:∀t,sm (List.range n) (λr=>f r*t^r)=0):∀r,r<n->f r=0:=λr H=>by
 refine bG n ((List.range n).map f) [] (by simp) (λt _=> ?_) (f r) (x'.2 ⟨r,S_.2 H,rfl⟩);have N:=TC f t n 0;rw[<-List.range_eq_range',h t] at N;refine tw N ?_;rw[s7];decide
def fj:t3->t5->Dyadic
 |a::s,x::xs=>x^a*fj s xs
 |_,_=>1
def iQ(x y:Dyadic)(n:Nat):(x*y)^n=x^n*y^n:=by
 exact OL
def Fi(n:Nat):(1:Dyadic)^n=1:=by
 exact OL
def lT{d:Nat}{f:Nat->Dyadic}(h:∀t,sm (List.range (d+1)) (λr=>f r*vg d r t)=0):∀r,r<=d->f r=0:=by
 have hp:∀(m:Nat)(t:Dyadic),(1-t)^m=sm (List.range (m+1)) λk=>nD (bin m k)*((-1:Dyadic)^k)*t^k:=λm t=>(by have N:=HH m (-t) 1;rw[show -t+1=1-t by grind] at N;rw[<-N];refine Ea λk _=> ?_;rw[Fi,show(-t)^k=(-1:Dyadic)^k*t^k by rw[<-iQ];congr 1;grind];grind)
 let M:Nat->Nat->Dyadic:=λr k=>if k<r then 0 else nD (bin (d-r) (k-r))*(-1:Dyadic)^(k-r)
 have F:∀r,r<=d->∀t,vg d r t=sm (List.range (d+1)) λk=>M r k*t^k:=λr H t=>by
  have S:(λk=>M r k*t^k)=λk=>if k<r then 0 else(λj=>nD (bin (d-r) j)*(-1:Dyadic)^j*t^(j+r)) (k-r):=funext λk=>by
   show(if k<r then 0 else nD (bin (d-r) (k-r))*(-1:Dyadic)^(k-r))*t^k=_;by_cases u:k<r
   .rw[Q' u,Q' u,F6]
   rw[R' u,R' u];show _=nD (bin (d-r) (k-r))*(-1:Dyadic)^(k-r)*t^(k-r+r);rw[Nat.sub_add_cancel Z']
  rw[S,ZU d r H λj=>nD (bin (d-r) j)*(-1:Dyadic)^j*t^(j+r)];show t^r*(1-t)^(d-r)=_;rw[hp,<-cg];refine Ea λk _=> ?_;rw[xj];grind
 have u:∀k,k<d+1->sm (List.range (d+1)) (λr=>f r*M r k)=0:=aE λt=>(by rw[show(sm (List.range (d+1)) λr=>sm (List.range (d+1)) (λa=>f a*M a r)*t^r)=sm (List.range (d+1)) λk=>sm (List.range (d+1)) λr=>f r*M r k*t^k from Ea λk _=>(Ui _ _ _).symm,qk];refine Eq.trans (Ea λr H=> ?_) (h t);rw[F r (by have:=S_.1 H;omega) t,<-cg];exact Ea λk _=>by grind);intro r H
 induction r using Nat.strongRecOn with
 |_ r W=>
  have N:=u r Z';have L:sm (List.range (d+1)) (λq=>f q*M q r)=sm (List.range (d+1)) λq=>if q=r then f r else 0:=Ea λq R=>by
   by_cases h1:q<r
   .rw[W q h1 Z',R' Z',F6]
   by_cases h2:q=r
   .subst h2;rw[Q' rfl];show f q*(if q<q then 0 else nD (bin (d-q) (q-q))*(-1:Dyadic)^(q-q))=f q;rw[R' (Nat.lt_irrefl _),t_,Uj,s7,Ns];grind
   rw[R' h2];show f q*(if r<q then 0 else _)=0;rw[Q' Z',a7]
  rw[L,Gk,Q' Z'] at N;exact N
def val_zero:∀(ds:t3)(xs:t5),(∀ts:t5,ts.length=ds.length->Ug ds xs ts=0)->∀p,p<da ds->(xs[p]?).getD 0=0
 |[],xs,h,p,hp=>by
  have N:=h [] rfl;obtain rfl:p=0:=by simpa[da] using hp
  have L:Ug [] xs []=(xs[0]?).getD 0*1+0:=rfl;rw[L] at N;grind
 |d::ds,xs,h,p,hp=>by
  have H:p % (d+1)<d+1:=R_ _ Z';have R:p/(d+1)<da ds:=by rw[S9 Z',d'];exact hp
  have a:∀r,r<=d->∀q,q<da ds->(xs[r+(d+1)*q]?).getD 0=0:=λr H q R=>by
   have W:=val_zero ds ((List.range (da ds)).map λq=>(xs[r+(d+1)*q]?).getD 0) (λts M=> ?_) q R
   .rw[C',y_ R] at W;exact W
   refine lT (d:=d) (f:=λr=>Ug ds ((List.range (da ds)).map λq=>(xs[r+(d+1)*q]?).getD 0) ts) (λt=> ?_) r H;have N:=h (t::ts) (by simpa using M);unfold Ug at N;rw[St,qk] at N;refine Eq.trans (Ea λr H=> ?_) N;unfold Ug;rw[<-Ui];refine Ea λq R=> ?_;have G:=S_.1 H;rw[C',y_ (S_.1 R)];show(xs[r+(d+1)*q]?).getD 0*dj ds (Xa ds q) ts*vg d r t=_;rw[Xa,V8,G_ G,B9 _ _ Z',k_ G,i',dj];grind
  have:=a (p % (d+1)) Z' (p/(d+1)) R;rwa[N7] at this
def val_inj{ds:t3}(C:xs.length=da ds)(hy:ys.length=da ds)(h:∀ts:t5,ts.length=ds.length->Ug ds xs ts=Ug ds ys ts):xs=ys:=by
 refine s_ λp=> ?_;by_cases hp:p<da ds
 .have N:=val_zero ds ((List.range (da ds)).map λp=>(xs[p]?).getD 0-(ys[p]?).getD 0) (λts M=> ?_) p hp
  .rw[C',y_ hp] at N;replace N:(xs[p]?).getD 0-(ys[p]?).getD 0=0:=N;obtain⟨x,h1⟩:∃x,xs[p]?=some x:=⟨_,D9 Z'⟩;obtain⟨y,h2⟩:∃y,ys[p]?=some y:=⟨_,D9 Z'⟩;rw[h1,h2] at N |-;have L:x-y=0:=N;congr 1;grind
  have N:=h ts M;have L:Ug ds ((List.range (da ds)).map λp=>(xs[p]?).getD 0-(ys[p]?).getD 0) ts=Ug ds xs ts+(-1)*Ug ds ys ts:=(by unfold Ug;rw[<-cg,<-Ev];refine Ea λq R=> ?_;rw[C',y_ (S_.1 R)];show((xs[q]?).getD 0-(ys[q]?).getD 0)*_=_;grind);rw[L,N];grind
 exact sS
def acg(f:Dyadic->Dyadic):Prop:=∃l:t5,∀t,f t=Ij l t
def aem:t5->t5->t5
 |[],b=>b
 |x::a,[]=>x::a
 |x::a,y::b=>(x+y)::aem a b
def agr:t5->t5->t5
 |[],_=>[]
 |x::a,b=>aem (b.map λy=>x*y) (0::agr a b)
def D1(F:Dyadic->Dyadic)(a b:Dyadic):Prop:=∃R,acg R/\∀h,F h=a+h*b+h*h*R h
variable {k:Nat}
def We(d:Nat)(a b:Dyadic)(i k:Nat):Dyadic:=if k<i then 0 else nD (bin (d-i) (k-i))*a^i*b^(k-i)
def acN(d:Nat)(s):We d s (1-s)=vB d s:=rfl
def Hg(xs:t5)(i:Nat):Dyadic:=(xs[i]?).getD 0
variable {M:Nat->Nat->Dyadic}
def Md(d:Nat)(M:Nat->Nat->Dyadic)(xs:t5):t5:=(List.range (d+1)).map λk=>sm (List.range (d+1)) λi=>Hg xs i*M i k
variable {j:Nat}
def bj(d:Nat)(a b:Dyadic)(xs:t5)(i j:Nat):t5:=(List.range (d+1)).map λk=>sm (List.range i) (λm=>Hg xs m*We d a b m k)+if i<=k/\k<i+j then Hg xs i*We d a b i k else 0
def Al(d:Nat)(a b)(xs)(i j:Nat):(bj d a b xs i j).length=d+1:=by simp[bj]
def Ky(d:Nat)(a b)(xs):bj d a b xs 0 0=List.replicate (d+1) 0:=by
 unfold bj;refine List.eq_replicate_iff.2 ⟨by simp,λx C=> ?_⟩;obtain⟨k,_,rfl⟩:=x'.1 C;rw[R' Z',z8];rfl
def LD{d i:Nat}{a b:Dyadic}(h:k<=d):(bj d a b xs i j)[k]?=some (sm (List.range i) (λm=>Hg xs m*We d a b m k)+if i<=k/\k<i+j then Hg xs i*We d a b i k else 0):=by
 unfold bj;exact ZS
def hH{d i:Nat}{a b:Dyadic}{o:Dyadic}(h:i+j<=d)(W:(bj d a b xs i j)[i+j]?=some o):(bj d a b xs i j).set (i+j) (o+Hg xs i*We d a b i (i+j))=bj d a b xs i (j+1):=by
 rw[LD h,R' Z',z8] at W;have W:=P_ W;subst W;refine s_ λk=> ?_;rw[g_,Al];by_cases u:k<=d
 .rw[LD u,LD u];by_cases e:i+j=k
  .subst e;rw[Q' rfl,Q' Z',Q' Z']
  rw[R' e];by_cases h2:i<=k/\k<i+j
  .rw[Q' h2,Q' Z']
  rw[R' h2,R' Z']
 rw[R' Z',X_ (by rw[Al];omega),X_ (by rw[Al];omega)]
def OC{d i:Nat}{a b:Dyadic}(h:i<=d):bj d a b xs i (d-i+1)=bj d a b xs (i+1) 0:=by
 unfold bj;refine J9 λk u=> ?_;have u:=S_.1 u;rw[R' (show ¬(i+1<=k/\k<i+1+0) by omega),z8,J8,Kj];by_cases h2:i<=k
 .rw[Q' Z']
 rw[R' Z'];unfold We;rw[Q' (show k<i by omega),a7]
def dq(d:Nat)(a b)(xs):bj d a b xs (d+1) 0=Md d (We d a b) xs:=by
 unfold bj Md;refine J9 λk _=> ?_;rw[R' Z',z8]
def Sz.PY{q:Nat}{a:Dyadic}(h:Sz q a){i d:Nat}(hi:i<=d):Sz (1+q*d) (a^i):=(Sz.pow h i).mono (by have:=O_ q hi;omega)
def oN{d i q:Nat}{a b:Dyadic}(M:Sz q a)(F:Sz q b)(T:d<=127)(u:k<=d):Sz (130+2*(q*d)) (We d a b i k):=by
 unfold We;split
 .exact Sz.zero _
 refine(((Nv (d-i) (k-i) Z').mul (M.PY (show i<=d by omega))).mul (F.PY (show k-i<=d by omega))).mono Z'
def bs(h:∀x∈xs,Sz k x)(i:Nat):Sz k (Hg xs i):=by
 unfold Hg
 cases C:xs[i]? with
 |none=>exact Sz.zero _
 |some x=>exact h x (O' C)
def yx{d i q K:Nat}{a b:Dyadic}(C:∀x∈xs,Sz K x)(M:Sz q a)(F:Sz q b)(T:d<=127)(hi:i<=d+1):∀x∈bj d a b xs i j,Sz (K+130+2*(q*d)+130) x:=λx Q=>by
 obtain⟨k,u,rfl⟩:=x'.1 Q;have u:=S_.1 u;have h1:∀m,Sz (K+(130+2*(q*d))) (Hg xs m*We d a b m k):=λm=>(bs C m).mul (oN M F T Z');have h2:=yR (l:=List.range i) (f:=λm=>Hg xs m*We d a b m k) (k:=K+(130+2*(q*d))) λm _=>h1 m;rw[g8] at h2;refine(h2.add (y:=if i<=k/\k<i+j then Hg xs i*We d a b i k else 0) ?_).mono Z';split
 .exact(h1 i).mono Z'
 exact Sz.zero _
def Mk(d:Nat)(M:Nat->Nat->Dyadic)(xs):(Md d M xs).length=d+1:=by simp[Md]
def ju{d:Nat}(h:k<=d):(Md d M xs)[k]?=some (sm (List.range (d+1)) λi=>Hg xs i*M i k):=by
 unfold Md;exact ZS
def UG{d:Nat}{s:Dyadic}(Q:xs.length=d+1):(Md d (We d (1-s) s) xs.reverse).reverse=Md d (sB d s) xs:=by
 refine s_ λk=> ?_;by_cases u:k<=d
 .rw[l_ (by rw[Mk];omega),Mk,show d+1-1-k=d-k by omega,ju Z',ju u];congr 1;rw[zU];refine Ea λi hi=> ?_;have hi:=S_.1 hi;have N:Hg xs.reverse (d-i)=Hg xs i:=(by unfold Hg;rw[l_ Z',Q,show d+1-1-(d-i)=i by omega]);rw[N];congr 1;unfold We sB;by_cases h:i<k
  .rw[Q' Z',Q' h]
  rw[R' Z',R' h,show d-(d-i)=i by omega,show d-k-(d-i)=i-k by omega];generalize nD (bin i (i-k))=x;generalize (1-s)^(d-i)=y;generalize s^(i-k)=z;grind
 rw[X_ (by rw[r',Mk];omega),X_ (by rw[Mk];omega)]
section
variable (A:t3)(d:Nat)(φ:t5->t5)
def CF(X:t5)(q f i:Nat):t5:=(List.range X.length).map λp=>
 if p/da A/(d+1)=q/\(p % da A<f\/p % da A=f/\p/da A % (d+1)<i) then Hg (φ (nc A d X (p % da A) q)) (p/da A % (d+1)) else Hg X p
def xT(X:t5)(q:Nat):t5:=CF A d φ X q (da A) 0
end
variable {A:t3}{d:Nat}{φ:t5->t5}
def Ck(q f i:Nat):(CF A d φ X q f i).length=X.length:=by simp[CF]
def Zr{q f i p:Nat}(h:p<X.length):(CF A d φ X q f i)[p]?=some (if p/da A/(d+1)=q/\(p % da A<f\/p % da A=f/\p/da A % (d+1)<i) then Hg (φ (nc A d X (p % da A) q)) (p/da A % (d+1)) else Hg X p):=by
 unfold CF;rw[C',y_ h];rfl
def Jk{f q:Nat}(Y:f<da A)(u:k<=d):Ob A d f k q % da A=f/\Ob A d f k q/da A % (d+1)=k/\Ob A d f k q/da A/(d+1)=q:=by
 unfold Ob;have R:=Wb A;rw[V8,G_ Y,B9 _ _ R,k_ Y,i',V8,G_ Z',B9 _ _ Z',k_ Z',i'];exact⟨rfl,rfl,rfl⟩
def kx(p:Nat):Ob A d (p % da A) (p/da A % (d+1)) (p/da A/(d+1))=p:=by
 unfold Ob;rw[N7,N7]
def Im{l:t5}(h:k<l.length):l[k]?=some (Hg l k):=by
 unfold Hg;rw[D9 h];rfl
def iT(q:Nat):CF A d φ X q 0 0=X:=by
 refine s_ λp=> ?_;by_cases h:p<X.length
 .rw[Zr h,R' Z',Im h]
 rw[X_ (by rw[Ck];omega),X_ Z']
def qV(q f:Nat):CF A d φ X q f (d+1)=CF A d φ X q (f+1) 0:=by
 refine s_ λp=> ?_;by_cases h:p<X.length
 .rw[Zr h,Zr h];have:=R_ (p/da A) (show 0<d+1 by omega);congr 1;by_cases h1:p/da A/(d+1)=q/\p % da A<f+1
  .rw[Q' Z',Q' Z']
  rw[R' Z',R' Z']
 rw[X_ (by rw[Ck];omega),X_ (by rw[Ck];omega)]
def oV{q f i:Nat}(Y:f<da A)(hi:i<=d)(hp:Ob A d f i q<X.length):(CF A d φ X q f 0)[Ob A d f i q]?=some (Hg (nc A d X f q) i):=by
 obtain⟨h1,h2,G⟩:=Jk (q:=q) Y hi;rw[Zr hp,h1,h2,G,R' Z'];congr 1;unfold nc;have:Hg ((List.range (d+1)).map λi=>(X[Ob A d f i q]?).getD 0) i=(X[Ob A d f i q]?).getD 0:=(by unfold Hg;exact ZS);rw[this];rfl
def NX{q f i:Nat}(Y:f<da A)(hi:i<=d)(hp:Ob A d f i q<X.length):(CF A d φ X q f i).set (Ob A d f i q) (Hg (φ (nc A d X f q)) i)=CF A d φ X q f (i+1):=by
 obtain⟨h1,h2,G⟩:=Jk (q:=q) Y hi;refine s_ λp=> ?_;rw[g_,Ck];by_cases h:p<X.length
 .rw[Zr h,Zr h];by_cases e:Ob A d f i q=p
  .subst e;rw[Q' rfl,Q' h,h1,h2,G,Q' Z']
  rw[R' e];congr 1;by_cases z:p/da A/(d+1)=q/\(p % da A<f\/p % da A=f/\p/da A % (d+1)<i)
  .rw[Q' z,Q' Z']
  rw[R' z,R'];intro P;have L:p/da A/(d+1)=q/\p % da A=f/\p/da A % (d+1)=i:=Z';have:=kx (A:=A) (d:=d) p;rw[L.1,L.2.1,L.2.2] at this;exact e this
 rw[R' Z',X_ (by rw[Ck];omega),X_ (by rw[Ck];omega)]
def acM{q f i G:Nat}(t:∀x∈X,Sz k x)(r:∀l:t5,l.length=d+1->(∀x∈l,Sz k x)->∀x∈φ l,Sz (k+G) x):∀x∈CF A d φ X q f i,Sz (k+G) x:=λx C=>by
 obtain⟨p,hp,rfl⟩:=x'.1 C;split
 .refine bs (r _ (by simp[nc]) λy hy=> ?_) _;obtain⟨j,_,rfl⟩:=x'.1 hy;exact bs t _
 exact(bs t p).mono Z'
def zQ(A:t3)(d:Nat)(B:t3)(M:Nat->Nat->Dyadic)(xs:t5)(j:Nat):t5:=(List.range xs.length).map λp=>if p/da A/(d+1)<j then Hg (re (A++d::B) A.length M xs) p else Hg xs p
def Ju(B)(M:Nat->Nat->Dyadic)(xs)(j:Nat):(zQ A d B M xs j).length=xs.length:=by simp[zQ]
def Qz{B:t3}{p:Nat}(h:p<xs.length):(zQ A d B M xs j)[p]?=some (if p/da A/(d+1)<j then Hg (re (A++d::B) A.length M xs) p else Hg xs p):=by
 unfold zQ;rw[C',y_ h];rfl
def ER(B)(M:Nat->Nat->Dyadic)(xs):zQ A d B M xs 0=xs:=by
 refine s_ λp=> ?_;by_cases h:p<xs.length
 .rw[Qz h,R' (A7 _),Im h]
 rw[X_ (by rw[Ju];omega),X_ Z']
def NV{B:t3}(Q:xs.length=da (A++d::B)):zQ A d B M xs (da B)=re (A++d::B) A.length M xs:=by
 refine s_ λp=> ?_;by_cases h:p<xs.length
 .obtain⟨f,k,q,Y,u,R,rfl⟩:=Nn (A:=A) (d:=d) (B:=B) (p:=p) Z';rw[Qz h,(Jk Y u).2.2,Q' R,Im (by rw[Fj];omega)]
 rw[X_ (by rw[Ju];omega),X_ (by rw[Fj];omega)]
def lU{B:t3}(Q:xs.length=da (A++d::B)):xT A d (Md d M) (zQ A d B M xs j) j=zQ A d B M xs (j+1):=by
 refine s_ λp=> ?_;by_cases h:p<xs.length
 .obtain⟨f,k,q,Y,u,R,rfl⟩:=Nn (A:=A) (d:=d) (B:=B) (p:=p) Z';obtain⟨h1,h2,G⟩:=Jk (q:=q) Y u;unfold xT;rw[Zr (by rw[Ju];exact h),Qz h,h1,h2,G];congr 1;by_cases e:q=j
  .subst e;rw[Q' ⟨rfl,.inl Y⟩,Q' Z'];have N:nc A d (zQ A d B M xs q) f q=nc A d xs f q:=by
    unfold nc;refine J9 λi hi=> ?_;have hi:=S_.1 hi;have H:Ob A d f i q<xs.length:=by rw[Q];exact Yo Y Z' R
    rw[Qz H,(Jk Y (show i<=d by omega)).2.2,R' Z',Im H]
   rw[N];have L:Hg (Md d M (nc A d xs f q)) k=sm (List.range (d+1)) λi=>Hg (nc A d xs f q) i*M i k:=(by show((Md d M _)[k]?).getD 0=_;rw[ju u];rfl);have X:Hg (re (A++d::B) A.length M xs) (Ob A d f k q)=sm (List.range (d+1)) λi=>(xs[Ob A d f i q]?).getD 0*M i k:=(by show((re _ _ M xs)[_]?).getD 0=_;rw[Ix M xs Y u R];rfl);rw[L,X];refine Ea λi hi=> ?_;have hi:=S_.1 hi;congr 1;show((nc A d xs f q)[i]?).getD 0=_;unfold nc;rw[C',y_ hi];rfl
  rw[R' Z'];have N:Hg (zQ A d B M xs j) (Ob A d f k q)=if q<j then Hg (re (A++d::B) A.length M xs) (Ob A d f k q) else Hg xs (Ob A d f k q):=(by show((zQ A d B M xs j)[_]?).getD 0=_;rw[Qz h,G];rfl)
  rw[N];by_cases z:q<j
  .rw[Q' z,Q' Z']
  rw[R' z,R' Z']
 rw[X_ (by unfold xT;rw[Ck,Ju];omega),X_ (by rw[Ju];omega)]
variable {F:Nat}
section
variable (A:t3)(d L:Nat)(φ:t5->t5)
def jm(p:Nat):Nat:=Ob A d (p % da A) 0 (p/da A/(d+1))
def nk(X:t5)(F i:Nat):t5:=(List.range X.length).map λp=>
 if p/da A % (d+1)<L/\(jm A d p<F\/jm A d p=F/\p/da A % (d+1)<i) then Hg (φ (nc A d X (p % da A) (p/da A/(d+1)))) (p/da A % (d+1)) else Hg X p
end
variable {L:Nat}
def Li(F i:Nat):(nk A d L φ X F i).length=X.length:=by simp[nk]
def Qq{i p:Nat}(h:p<X.length):(nk A d L φ X F i)[p]?=some (if p/da A % (d+1)<L/\(jm A d p<F\/jm A d p=F/\p/da A % (d+1)<i) then Hg (φ (nc A d X (p % da A) (p/da A/(d+1)))) (p/da A % (d+1)) else Hg X p):=by
 unfold nk;rw[C',y_ h];rfl
def LI{i G:Nat}(h:∀p,p<X.length->p/da A % (d+1)<L->((jm A d p<F\/jm A d p=F/\p/da A % (d+1)<i)↔(jm A d p<G\/jm A d p=G/\p/da A % (d+1)<j))):nk A d L φ X F i=nk A d L φ X G j:=by
 refine s_ λp=> ?_;by_cases hp:p<X.length
 .rw[Qq hp,Qq hp];congr 1;by_cases a:p/da A % (d+1)<L
  .by_cases h1:jm A d p<F\/jm A d p=F/\p/da A % (d+1)<i
   .rw[Q' ⟨a,h1⟩,Q' ⟨a,(h p hp a).1 h1⟩]
   rw[R' (λh=>h1 h.2),R' (λh2=>h1 ((h p hp a).2 h2.2))]
  rw[R' (λh=>a h.1),R' (λh=>a h.1)]
 rw[X_ (by rw[Li];omega),X_ (by rw[Li];omega)]
def sP:nk A d L φ X 0 0=X:=by
 refine s_ λp=> ?_;by_cases h:p<X.length
 .rw[Qq h,R' Z',Im h]
 rw[X_ (by rw[Li];omega),X_ Z']
def vL{f q:Nat}(Y:f<da A):Ob A d f 0 q % da A=f/\Ob A d f 0 q/da A % (d+1)=0/\Ob A d f 0 q/da A/(d+1)=q:=Jk Y (N' _)
def xO{f q:Nat}(Y:f<da A)(u:k<=d):jm A d (Ob A d f k q)=Ob A d f 0 q:=by
 obtain⟨h1,_,G⟩:=Jk (q:=q) Y u;unfold jm;rw[h1,G]
def EP(h:F/da A % (d+1)≠0):nk A d L φ X F 0=nk A d L φ X (F+1) 0:=LI λp _ _=>by
 have E:jm A d p≠F:=λe=>(by have:=(vL (d:=d) (q:=p/da A/(d+1)) (R_ p (Wb A))).2.1;unfold jm at e;rw[e] at this;exact h this);omega
def OP{i:Nat}(h:L<=i):nk A d L φ X F i=nk A d L φ X (F+1) 0:=LI λp _ a=>by omega
def YU{f q i:Nat}(Y:f<da A)(S:i<L)(hi:i<=d):(nk A d L φ X (Ob A d f 0 q) i).set (Ob A d f i q) (Hg (φ (nc A d X f q)) i)=nk A d L φ X (Ob A d f 0 q) (i+1):=by
 obtain⟨h1,h2,G⟩:=Jk (q:=q) Y hi;refine s_ λp=> ?_;rw[g_,Li];by_cases hp:p<X.length
 .rw[Qq hp,Qq hp];by_cases e:Ob A d f i q=p
  .subst e;rw[Q' rfl,Q' hp,h1,h2,G,xO Y hi,Q' ⟨S,.inr ⟨rfl,Nat.lt_succ_self i⟩⟩]
  rw[R' e];have E:¬(jm A d p=Ob A d f 0 q/\p/da A % (d+1)=i):=λ⟨a,b⟩=>(by have N:=vL (d:=d) (q:=p/da A/(d+1)) (R_ p (Wb A));have g:=vL (d:=d) (q:=q) Y;unfold jm at a;rw[a] at N;have:=kx (A:=A) (d:=d) p;rw[b,<-N.1,<-N.2.2,g.1,g.2.2] at this;exact e this);congr 1;by_cases c:p/da A % (d+1)<L/\(jm A d p<Ob A d f 0 q\/jm A d p=Ob A d f 0 q/\p/da A % (d+1)<i)
  .rw[Q' c,Q' ⟨c.1,Z'⟩]
  rw[R' c,R' (λh=>c ⟨h.1,Z'⟩)]
 rw[X_ (by rw[Li];omega)];by_cases e:Ob A d f i q=p
 .rw[Q' e,e,R' hp,X_ (by rw[Li];omega)]
 rw[R' e,X_ (by rw[Li];omega)]
def sO{B:t3}{p:Nat}(t:X.length=da (A++d::B))(hp:p<X.length):(nk A d L φ X X.length 0)[p]?=some (if p/da A % (d+1)<L then Hg (φ (nc A d X (p % da A) (p/da A/(d+1)))) (p/da A % (d+1)) else Hg X p):=by
 rw[Qq hp];have D:jm A d p<X.length:=by
  have h1:=kx (A:=A) (d:=d) p;have h2:jm A d p<=p:=by
   conv=>rhs;rw[<-h1]
   unfold jm Ob;have:=O_ (da A) (show 0+(d+1)*(p/da A/(d+1))<=p/da A % (d+1)+(d+1)*(p/da A/(d+1)) by omega);omega
  omega
 congr 1;by_cases h:p/da A % (d+1)<L
 .rw[Q' ⟨h,.inl D⟩,Q' h]
 rw[R' (λh2=>h h2.1),R' h]
def ab5{B:t3}(t:X.length=da (A++d::B)):nk A d (d+1) (Md d M) X X.length 0=re (A++d::B) A.length M X:=by
 refine s_ λp=> ?_;by_cases hp:p<X.length
 .obtain⟨f,k,q,Y,u,R,rfl⟩:=Nn (A:=A) (d:=d) (B:=B) (by rw[<-t];exact hp);obtain⟨h1,h2,G⟩:=Jk (q:=q) Y u;rw[sO t hp,h1,h2,G,Q' Z'];have N:(Md d M (nc A d X f q))[k]?=some (sm (List.range (d+1)) λi=>Hg (nc A d X f q) i*M i k):=(by unfold Md;exact ZS);rw[Ix M X Y u R];congr 1;show((Md d M (nc A d X f q))[k]?).getD 0=_;rw[N];refine Ea λi hi=> ?_;have hi:=S_.1 hi;show((nc A d X f q)[i]?).getD 0*_=_;unfold nc;rw[C',y_ hi];rfl
 rw[X_ (by rw[Li];omega),X_ (by rw[Fj,<-t];omega)]
variable {args:Array Operand}
abbrev Ou(D:Nat):Deferred:={ target:=.collected D,args:= #[] }
abbrev LZ(M:t3):List HE:=M.map λD=>.ob D (.deferred (some []))
variable {N:Nat}{O:Rf}
def pV{D:List Deferred}{a b:Act}(h:Bf N D a O)(k:Bf N D b O):a=b:=by
 obtain⟨t,d⟩:=a;obtain⟨f,C⟩:=b;obtain⟨h1,h2,G⟩:=h;obtain⟨k1,k2,F⟩:=k;obtain rfl:d=C:=h1.trans k1.symm;congr 1;refine Array.ext (h2.trans k2.symm) λi hi c=> ?_;have e:=G i;have L:=F i;rw[K9,D8 hi] at e;rw[K9,D8 c] at L;exact e.trans L.symm
abbrev Kd:=Exit->t3->Rf->World->Prop
variable {P:Program}
structure WD(P:Program)(N:Nat)(c:Code)(Q:Kd)(O:Rf)(w:World):Prop where
 out:∀(M:t3) a,Bf N (M.map Ou) a O->∀n,c.wpIn Fence.wide n P (λe a' V=>∃M' ρ',Bf N ((M'++M).map Ou) a' ρ'/\Q e M' ρ' V) a w
def agu(next:t3->Rf->World->Prop)(Q:Kd):Kd
 |.normal,M,O,w=>next M O w
 |e,M,O,w=>Q e M O w
def IH(M:t3)(Q:Kd):Kd:=λe l O w=>Q e (l++M) O w
def acP(id:Nat)(Q:Kd):Kd
 |.exit b,M,O,w=>if b=id then Q .normal M O w else Q (.exit b) M O w
 |e,M,O,w=>Q e M O w
def aes(Q:Kd):Kq:=λe O w=>Q e [] O w
variable {R:Ending->World->Prop}{Q:Kd}
def abg{c:Code}(h:∀D,WC ⟨none,D,true⟩ P N c (aes Q) O w):WD P N c Q O w:=
 ⟨λM a Y n=>wpIn_mono ((h (M.map Ou)).Hl a Y n) λe a' V ⟨ρ',T,R⟩=>⟨[],ρ',T,R⟩⟩
def dV{x y:Code}(h:WD P N x (agu (λM O w=>WD P N y (IH M Q) O w) Q) O w):WD P N (.seq x y) Q O w:=
 ⟨λM a Y n=>wpIn_seq (wpIn_mono (h.out M a Y n) λe a' V ⟨f,ρ',T,R⟩=>by
  cases e with
  |normal=>
   refine wpIn_mono ((R:WD P N y (IH f Q) ρ' V).out (f++M) a' T n) λe o q ⟨l,K,p,s⟩=> ?_;exact⟨l++f,K,by rw[J_];exact p,s⟩
  |_=>exact⟨f,ρ',T,R⟩)⟩
def NC{x y:Code}(h:∀D,WC ⟨none,D,true⟩ P N x (Xd (λO w=>WD P N y Q O w) (aes Q)) O w):WD P N (.seq x y) Q O w:=
 dV (abg λD=>(h D).mono λe O w R=>by
  cases e with
  |normal=>
   show WD P N y (IH [] Q) O w;have S:IH [] Q=Q:=by funext e M O w;unfold IH;rw[I_]
   rw[S];exact R
  |_=>exact R)
def HU{id:Nat}{c:Code}(h:WD P N c (acP id Q) O w):WD P N (.block id c) Q O w:=
 ⟨λM a Y n=>wpIn_block (wpIn_mono (h.out M a Y n) λe a' V ⟨f,ρ',T,R⟩=>by
  cases e with
  |exit b=>
   by_cases j:b=id
   .simp only[acP,j,if_true] at R;simp only[Exit.inBlock,j,if_true];exact⟨f,ρ',T,R⟩
   simp only[acP,j,if_false] at R;simp only[Exit.inBlock,j,if_false];exact⟨f,ρ',T,R⟩
  |_=>exact⟨f,ρ',T,R⟩)⟩
variable {m:Nat}{α:Type}
def aaw{α:Type}(m:World->World->Prop)(I:List α->World->Prop)(pre:List α)(x:α)(W:World):Kq
 |.normal,_,c=>KeepsOthers W c/\m W c/\I (pre++[x]) c
 |_,_,_=>False
def adN:Kq:=λ_ _ _=>False
def bD{X:Tmp}{v:Value}{a:Array Value}:((#[X]:Array Tmp).zip #[v]).foldl (λt (p,v)=>t.setIfInBounds p v) a=a.setIfInBounds X v:=by simp
variable {assign body:Code}
def jS{g:Operand}{p:Tmp}{gf:Nat}{lb:Array Value}(hp:p<N)(hg:ev O g=.func (.func gf) #[] lb)(X:∀args w,(callFunc gf args).run P w=.ok (.enter gf args) w)
  {enc:α->Value}{m:World->World->Prop}{S:List α->Prop}{H:Nat}(L:∀n,SeqStopsK Fence.wide n P gf lb (λx=> #[enc x]) m S (λ_=>True) H w)
  (G:∀{A B C:World},m A B->m B C->m A C)(E:∀(W:World)(l:Nat)(o o':Obj),w.heap.size<=l->W.heap[l]?=some o->o.isCells=false->o.isWalk=false->m W (W.putObj l o'))
  (I:List α->World->Prop)(s:OwnFrom w.heap.size I)(J:I [] w)(U:α->Rf)(z:∀x i,N<=i->U x i=O i)
  (j:∀l x W,WC ⟨some l,[],true⟩ P N assign (Xd (λρ' q=>ρ'=U x/\q=W) adN) (vd O p (enc x)) W)
  (t:∀l pre x W,I pre W->pre.length<H->WC ⟨some l,[],true⟩ P N body (aaw m I pre x W) (U x) W)
  (u:∀(D:Nat)(xs:List α)(W:World),w.heap.size<=D->S xs->I xs W->W.heap[D]?=some (.deferred (some []))->Q .normal [D] O W):WD P N (.rangeFunc g #[p] assign body) Q O w:=by
 refine⟨λM a Y n=> ?_⟩;have c:∀x,Bf N [] { tmps:=Array.ofFn λi:Fin N=>U x i,defers:=[] } (U x):=λx=>by
  refine⟨rfl,by simp,λi=> ?_⟩;rw[K9];by_cases hi:i<N
  .rw[D8 (by simpa using hi)];simp
  rw[T6 (by simp;omega),z x i Z',<-Y.at_ i,K9,T6 (by rw[Y.sz];omega)]
 have main:(Code.rangeFunc g #[p] assign body).wpIn Fence.wide (n+1) P (λe a' V=>∃f ρ',Bf N ((f++M).map Ou) a' ρ'/\Q e f ρ' V) a w:=by
  refine wpIn_rangeFunc_ownF (F:=Fence.wide) (n:=n+1) rfl Z' (gf:=gf) (lb:=lb) (by rw[Y.eval];exact hg) trivial X (L _) G E (Below.refl _ _) (λ_=>rfl) I (λ_ _ _=>False) s (λ_ _ _ _ _ hs _ _=>hs) J (λx=>{ tmps:=Array.ofFn λi:Fin N=>U x i,defers:=[] }) (λl x W K y=> ?_) (λl pre x W hi hl=> ?_) (λD xs W r v hi hW=> ?_) (λ_ _ _ _ _ _ h _=>h.elim)
  .refine wpIn_mono ((j l x W).Hl _ ⟨rfl, ?_,λi=> ?_⟩ _) λe a' V ⟨ρ',T,R⟩=> ?_
   .rw[bD];simp[Y.sz]
   .rw[bD,<-(Y.put hp (enc x)).at_ i];rfl
   cases e with
   |normal=>
    obtain⟨rfl,rfl⟩:=R;rw[pV T (c x)];exact y
   |_=>exact R.elim
  .refine wpIn_mono ((t l pre x W hi hl).Hl _ (c x) _) λe a' V ⟨ρ',T,R⟩=> ?_
   cases e with
   |normal=>exact R
   |_=>exact R.elim
  exact⟨[D],O,⟨by rw[Y.nd];rfl,Y.sz,Y.at_⟩,u D xs W r v hi hW⟩
 intro b k cs d hb _;exact main b k cs d hb (room_wide _)
def aek(P:Program)(fn:Func)(R:Ending->World->Prop):Kd:=λe M O w=>
 (e=.normal\/e=.ret)/\∀tmps:Array Value,(∀i,tmps.getD i undef=O i)->∀n,LeavesInM Fence.wide n P fn tmps R (M.map Ou) .returning w
def cP{f:FuncId}{fn:Func}{c:Code}{l:List Value} (Y:P.funcs[f]?=some fn)(F:fn.body=some c)(B:fn.ntmps=N)(b:l.length<=N) (h:WD P N c (aek P fn R) (fG l) w):Calls P f l.toArray w R:=by
 refine(callsIn_wide (n:=0)).1 (callsIn_of_wp_marks Y F trivial ?_ rfl);refine wpIn_mono (h.out [] _ ⟨rfl,by simp[B];omega,λi=> ?_⟩ 0) ?_
 .exact acC
 rintro e a V ⟨M,ρ',T,he,Q⟩;rw[I_] at T;obtain rfl|rfl:=he
 .show LeavesInM _ _ _ _ a.tmps _ a.defers _ _;rw[T.nd];exact Q _ T.at_ 0
 show LeavesInM _ _ _ _ a.tmps _ a.defers _ _;rw[T.nd];exact Q _ T.at_ 0
def JK{f:FuncId}{fn:Func}{c:Code}{l:List Value} (Y:P.funcs[f]?=some fn)(F:fn.body=some c)(B:fn.ntmps=N)(M:l.length<=N) (h:WC ⟨none,[],true⟩ P N c (Bo P fn R) (fG l) w):Calls P f l.toArray w R:=by
 refine(callsIn_wide (n:=0)).1 (callsIn_of_wp Y F trivial ?_ rfl);refine wpIn_mono (h.Hl _ ⟨rfl,by simp[B];omega,λi=> ?_⟩ 0) ?_
 .exact acC
 rintro e a V ⟨ρ',T,he,v,H,hR⟩;obtain rfl|rfl:=he
 .exact⟨T.nd,v,H _ T.at_,hR⟩
 exact⟨T.nd,v,H _ T.at_,hR⟩
def HE.cel:HE->Bool
 |.ob _ _=>false
 |_=>true
variable {base:Nat}
def yy{x:HE}{b:Nat}(h:x.holds base w)(E:x.cel=true)(j:x.id=some b):∃o,w.heap[b]?=some o/\o.isCells=true:=by
 cases x with
 |blk d t cs fz=>
  obtain rfl:d=b:=P_ j;exact⟨_,h.2.1,rfl⟩
 |row A n c t sz xs=>
  obtain⟨h1,_⟩|⟨g,cap,cur,h1,_,G,_⟩:=h.2
  .injection h1 with N
   subst N
   cases j
  injection h1 with N
  subst N;obtain rfl:g=b:=P_ j;exact⟨_,G,rfl⟩
 |ob _ _=>cases E
def Hp.acv{V:World}{H:List HE}(h:Hp w0 H w)(E:∀x∈H,x.cel=true){row:Option Nat}(s:w.grownBy V row)(a:∀r,row=some r->w0.heap.size<=r/\∃o:Obj,w.heap[r]?=some o/\o.isCells=false):Hp w0 H V:=by
 refine⟨⟨s.os.trans h.below.os,s.tape.trans h.below.tape,s.output.trans h.below.output,p' h.size s.size,λk u=> ?_⟩,λx C=> ?_,h.nd⟩
 .refine(s.block k (c_ u h.size) λe=> ?_).trans (h.below.block k u);have:=(a k e.symm).1;omega
 refine jl (h.own x C) λb j=>s.block b (de (h.own x C) j).2 λe=> ?_;obtain⟨o,h1,h2⟩:=yy (h.own x C) (E x C) j;obtain⟨_,v,G,z⟩:=a b e.symm;rw[h1] at G
 cases G
 rw[h2] at z
 cases z
def Hp.ady{H:List HE}(h:Hp w0 H w)(E:∀x∈H,x.cel=true){D:Nat}{o:Obj}(r:w0.heap.size<=D)(h1:w.heap[D]?=some o)(W:o.isCells=false):Hp w0 (.ob D o::H) w:=by
 refine⟨h.below,λx C=> ?_, ?_⟩
 .obtain rfl|C:=y'.1 C
  .exact⟨r,h1⟩
  exact h.own x C
 rw[C8];show(D::H.filterMap HE.id).Nodup;refine G8.2 ⟨λhm=> ?_,h.nd⟩;obtain⟨y,hy,d⟩:=H9.1 hm;obtain⟨v,h2,G⟩:=yy (h.own y hy) (E y hy) d;rw[h1] at h2
 cases h2
 rw[W] at G
 cases G
def TY(base:Nat)(ids:t3)(w:World)(k:Nat):Option HE:=if base<=k/\ids.contains k=false then(w.heap[k]?).map λo=>.ob k o else none
def TU(base:Nat)(ids:t3)(w:World):List HE:=(List.range w.heap.size).filterMap (TY base ids w)
def Cx{ids:t3}{x:HE}(h:TY base ids w k=some x):∃o,x=.ob k o/\base<=k/\k∉ids/\w.heap[k]?=some o:=by
 unfold TY at h;split at h
 .rename_i h1;obtain⟨o,h2,G⟩:=y9.1 h;exact⟨o,G.symm,h1.1,by simpa using h1.2,h2⟩
 cases h
def Hp.EW{H:List HE}(h:Hp w0 H w):Hp w0 (H++TU w0.heap.size (H.filterMap HE.id) w) w:=by
 refine⟨h.below,λx C=> ?_, ?_⟩
 .obtain C|C:=A_.1 C
  .exact h.own x C
  obtain⟨k,_,u⟩:=H9.1 C;obtain⟨o,rfl,h1,_,G⟩:=Cx u;exact⟨h1,G⟩
 rw[p6];refine List.nodup_append.2 ⟨h.nd, ?_,λa M b F e=> ?_⟩
 .unfold TU;rw[List.filterMap_filterMap];refine List.Pairwise.filterMap _ (λa a' E b F d Y e=> ?_) List.nodup_range;obtain⟨x,C,Q⟩:=Option.bind_eq_some_iff.1 F;obtain⟨y,hy,A⟩:=Option.bind_eq_some_iff.1 Y;obtain⟨o,rfl,_⟩:=Cx C;obtain⟨v,rfl,_⟩:=Cx hy;obtain rfl:a=b:=P_ Q;obtain rfl:a'=d:=P_ A;exact E e
 obtain⟨x,C,Q⟩:=H9.1 F;obtain⟨k,_,u⟩:=H9.1 C;obtain⟨o,rfl,_,h2,_⟩:=Cx u;obtain rfl:k=b:=P_ Q;exact h2 (e ▸ M)
def Hp.keeps{V:World}{H H':List HE}(K:Hp w0 H w)(E:∀x∈H,x.cel=true)(he:Hp w0 (H'++TU w0.heap.size (H.filterMap HE.id) w) V)(j:H'.filterMap HE.id=H.filterMap HE.id):KeepsOthers w V:=by
 have key:∀k,k<w.heap.size->k<V.heap.size/\∀o,w.heap[k]?=some o->o.isCells=false->V.heap[k]?=some o:=λk u=>by
  by_cases J:k<w0.heap.size
  .exact⟨c_ J he.size,λo h1 _=>(he.below.block k J).trans ((K.below.block k J).symm.trans h1)⟩
  by_cases hm:k∈H.filterMap HE.id
  .obtain⟨y,hy,d⟩:=H9.1 (j ▸ hm);refine⟨(de (he.own y (q9 _ hy)) d).2,λo h1 h2=> ?_⟩;obtain⟨z,b,p⟩:=H9.1 hm;obtain⟨v,G,a⟩:=yy (K.own z b) (E z b) p;rw[h1] at G
   cases G
   rw[h2] at a
   cases a
  have C:HE.ob k w.heap[k]∈TU w0.heap.size (H.filterMap HE.id) w:=H9.2 ⟨k,S_.2 u,by
   unfold TY;rw[Q' ⟨Z',by simpa using hm⟩,D8 u];rfl⟩
  have h1:=he.own _ (H_ _ C);refine⟨(de h1 rfl).2,λo h2 _=> ?_⟩;rw[D8 u] at h2
  cases h2
  exact h1.2
 refine⟨?_,λk o h1 h2=>(key k (X5.1 h1).1).2 o h1 h2⟩;obtain h|h:=a9 w.heap.size
 .omega
 have:=(key (w.heap.size-1) Z').1;omega
def Jt{P:Program}{fn:Func}{tmps:Array Value}{R:Ending->World->Prop}{n:Nat}{w0:World}{H:List HE}:∀(M:t3)(w:World),Hp w0 (LZ M++H) w->(∀q,Hp w0 H q->∃v,(results fn tmps).run P q=.ok v q/\R (.returned v) q)->
  LeavesInM Fence.wide n P fn tmps R (M.map Ou) .returning w
 |[],w,I,h=>h w I
 |D::M,w,I,h=>by
  have r:w.heap[D]?=some (.deferred (some [])):=(I.own _ E').2;refine⟨by simp,.inl ⟨D,w.putObj D (.deferred none),rfl,run_takeDeferred r,Jt M _ ?_ h⟩⟩;have F:=(I.own _ E').1;have h2:=I.dR (i:=0) (x:=.ob D (.deferred (some []))) (y:=.ob D (.deferred none)) (V:=w.putObj D (.deferred none)) rfl (λb e=>.inl e) ?_ (λb a E=>World.putObj_heap_other (λe=>E (by rw[e];rfl))) ⟨F, ?_⟩
  .exact h2.sub (d_ _ _)
  .have s:=grownBy_putObj' w D (.deferred none);refine⟨s.os.trans I.below.os,s.tape.trans I.below.tape,s.output.trans I.below.output,p' I.size s.size,λk u=>(s.block k (c_ u I.size) λe=> ?_).trans (I.below.block k u)⟩
   cases e
   omega
  exact World.putObj_heap_same (X5.1 r).1
variable {vs:List Value}
def RO{fn:Func}{e:Exit}{M:t3}{H:List HE}{rs:List ResultVar}(I:Hp w0 (LZ M++H) w)(he:e=.normal\/e=.ret)(a:fn.results=rs.toArray) (h:∀q,Hp w0 H q->mi P O q rs vs/\R (.returned (ZC vs)) q):aek P fn R e M O w:=by
 refine⟨he,λtmps S n=>Jt M w I λq E=> ?_⟩;obtain⟨h1,h2⟩:=h q E;obtain⟨_,v,G,z⟩:=Rl (e:=e) he a h1 h2;exact⟨v,G tmps S,z⟩
variable {pos:String}
def OY{d:Option Nat}{ty:TypeId}{af:Array Edge}{g:Option (Nat×Bool)}{x:Operand}{ts:Array TypeId}{l:Nat}{fn:FuncId}{tmps:Array Value} (C:ev O x=.func (.yield l) #[] #[])(M:qw O args.toList=vs)(hy:(Instr.yield l vs.toArray).run P w=.ok (.round l fn tmps assign body) w):(execOp (ev O) ⟨d,.call ⟨.value x,args,ts⟩,ty,pos,af,g⟩).run P w=.ok (.round l fn tmps assign body) w:=by
 have h2:args.map (ev O)=vs.toArray:=yq args M;simp[execOp,resolve,Deferred.ofValue,C,h2,invoke,callFunc,program,Sem.run,hy]
variable {ops:Array Oper}
def MV{Q:Kq}{rest:List Oper}{d:Nat}{ty:TypeId}{af:Array Edge}{x:Operand}{ts:Array TypeId}{l:Nat} (C:ev O x=.func (.yield l) #[] #[])(M:qw O args.toList=vs)(hy:YieldAt Fence.wide m P l vs.toArray w R)(L:d<N)(p:∀e V,R e V->∃v,e=.returned v/\WL ⟨none,[],true⟩ P N ops Q rest (vd O d v) V):
  WL ⟨none,[],true⟩ P N ops Q (⟨some d,.call ⟨.value x,args,ts⟩,ty,pos,af,none⟩::rest) O w:=by
 obtain⟨fn,tmps,b,X,h1,h2⟩:=hy;refine⟨λh=>(by cases h),λa Y n=>wpListIn_plain rfl λK y=>⟨λ_ _=>trivial, ?_⟩⟩;rw[Y.eval,Lm _ (OY C M h1) (λ_ h=>by cases h)];refine⟨λh=>(by cases h), ?_⟩;refine⟨trivial,λc cs _=> ?_⟩;obtain⟨e,V,hR,f⟩:=h2.2 c cs (room_wide _);refine⟨e,V, ?_,f⟩;obtain⟨v,rfl,u⟩:=p e V hR;exact y _ _ (u.Hl _ (Y.put L v) n)
variable {W:World}{lo:Operand}
def abp{d:Option Nat}{ty:TypeId}{af:Array Edge}{g:Option (Nat×Bool)}{t e:TypeId}{x hi mx:Operand}{b:Addr}{c l h q sz:Nat}{k1 k2 F:IntKind}{a N:Int} (S:P.underlying t=some (.slice e))(M:(P.info? e).map (·.size)=some sz)(C:ev O x=.slice (some b) n c)(p:ev O lo=.int k1 a)(f:ev O hi=.int k2 N)(W:ev O mx=.int F z)(j:a=(l:Int))(L:N=(h:Int))(X:z=(q:Int)) (h1:l<=h)(h2:h<=q)(G:q<=c)(m:l<q):(execOp (ev O) ⟨d,.slice t x (some lo) (some hi) (some mx),ty,pos,af,g⟩).run P w=.ok (.value (.slice (some (b.add (l*sz))) (h-l) (q-l))) w:=by
 obtain⟨i,H,v⟩:=y9.1 M;subst j L X v;have J:(l:Int)<=h:=Z';have o:(h:Int)<=q:=Z';have k:(q:Int)<=c:=Z';have Q:¬q=l:=Z';have E:¬q-l=0:=Z';simp[execOp,C,Instr.sliceAt,Instr.slice,run_underlying S,Instr.sliceBounds,Instr.sliceBound,asIntOf,p,f,W,h1,h2,G,Q,E,sizeOf,typeInfo,H]
def bH(A)(n c K:Nat)(w)(y:1<=K):Calls prog 281 #[wn A n c,wd K] w λr V=>∃T j,r=.returned (.func (.func 307) #[] #[.pointer (some ⟨T,0,none⟩),.pointer (some ⟨j,0,none⟩)])/\Hp w [.blk j 3 [wd K] (0,0),.blk T 37 [wn A n c] (0,0)] V:=by
 have I:=Hp.start w;refine Ga func281 ?_;refine Ib ?_;intro T q I j p I;refine sv (pn rfl (na (sy rfl) (na (sy rfl) Oa))) ?_;refine ea ?_;exact⟨_,_,rfl,I⟩
def QH(T j:Nat)(W c:World):Prop:=c.cell? ⟨T,0,none⟩=W.cell? ⟨T,0,none⟩/\c.cell? ⟨j,0,none⟩=W.cell? ⟨j,0,none⟩
def Ly{c:World}(h:Below W.heap.size W c):W.grownBy c none:=⟨h.os,h.tape,h.output,h.size,λk u _=>h.block k u⟩
def hZ{T:Nat}{A B C:World}(h:QH T j A B)(k:QH T j B C):QH T j A C:=⟨k.1.trans h.1,k.2.trans h.2⟩
def GY{T:Nat}(h2:T<w.heap.size)(G:j<w.heap.size)(W)(l:Nat)(o v:Obj)(Q:w.heap.size<=l):QH T j W (W.putObj l v):=
 ⟨World.cell?_of_block (World.putObj_heap_other (λe=>by simp at e;omega)),World.cell?_of_block (World.putObj_heap_other (λe=>by simp at e;omega))⟩
def QO(T b:Nat)(g:Addr)(n c K m:Nat)(w:World)(h2:w.cell? ⟨T,0,none⟩=some (.slice (some g) n c))(h3:w.cell? ⟨b,0,none⟩=some (.int .i64 K))(hn:n=m*K)(hK:0<K)(hc:n<=c)(hb:n<=1000000)(hKb:K<=1000000):
  ∀F,SeqStopsK Fence.wide F prog 307 #[.pointer (some ⟨T,0,none⟩),.pointer (some ⟨b,0,none⟩)] (λj:Fin m=> #[.slice (some (g.add (j.val*K*3))) K K]) (QH T b) (λxs=>xs=List.finRange m) (λ_=>True) m w:=by
 intro F l J Jx W hW x L hY G;refine callsIn_wide.2 ?_;show Calls _ _ #[.func (.yield l) #[] #[],.pointer (some ⟨T,0,none⟩),.pointer (some ⟨b,0,none⟩)] W _;have s:∀xs t p,J xs t->Below t.heap.size t p->J xs p:=λxs t p h hb=>x xs t p none h (Ly hb) (λr e=>nomatch e);have Y:=Ab hW h2;have d:=Ab hW h3;refine JK (N:=31) (l:=[.func (.yield l) #[] #[],.pointer (some ⟨T,0,none⟩),.pointer (some ⟨b,0,none⟩)]) func307 rfl rfl (by simp) ?_;refine ea ?_;refine rf 4 (λv V=>∃j:Nat,j<=m/\v=.int .i64 ((j*K:Nat):Int)/\J ((List.finRange m).take j) V/\V.cell? ⟨T,0,none⟩=some (.slice (some g) n c)/\V.cell? ⟨b,0,none⟩=some (.int .i64 K)) (λv _=>n+1-(intOf v).toNat) ?_ ?_
 .exact⟨0,N' _,by rw[W7];rfl,G,Y,d⟩
 clear Y d G;rintro ρ' v V ⟨j,hj,rfl,o,Y,d⟩;have I:=Hp.start V;by_cases D:j<m
 .have h5:(j+1)*K<=m*K:=n_ _ D;have h6:(j+1)*K=j*K+K:=U9 j K;refine ea ?_;refine sv (Ma pa.out rfl (Y)) ?_;refine ea ?_;refine HV ?_;refine tH 5 [[(2,none)],[(1,none)],[(4,none)],[(14,some 1),(15,some 2)],[(16,some 3)]] [(4,17),(3,16),(2,15),(1,14),(0,13)] I mixed U' ?_;refine Ym (λ_ hj=>Ab hj.bl d) ?_;refine Ym (λ_ hj=>Ab hj.bl Y) ?_;refine Gv ?_;refine Ba (i:=3) (λU Z hj hR=>Bg (l:=(j*K)) Qa.out pa.size (show U 14=Value.slice _ _ _ from hR.1) (show U 15=Value.int _ _ from hR.2.1) Z' Z' Z') ?_;refine afa ?_;refine xa ?_;intro f W Q hV;have hb_3:=Q.bl;obtain⟨X,M,E,A,u,_⟩:=hV;replace I:=Q.hp;refine WE (Vu (Gf X (Gf M (Gf E (Gf A (Gf u DE)))))) ?_;dsimp only[Ay];have z:(if((n-j*K:Nat):Int)<(K:Int) then((n-j*K:Nat):Int) else(K:Int))=(K:Int):=R' Z';refine ea ?_;rw[z];have C:=Ab I.below Y;have y:=Ab I.below d;have B:=s _ _ _ o I.below;have k:(List.finRange m)[j]?=some ⟨j,D⟩:=by rw[D9 (by rw[D6];exact D),List.getElem_finRange];rfl
  have hy:=hY ((List.finRange m).take j) ⟨j,D⟩ _ B (by rw[q',D6];omega);refine ea ?_;refine sv (Ma pa.out rfl (C)) ?_;refine ea ?_;refine Jb rfl rfl V' (abp Qa.out pa.size (tu rfl) rfl rfl rfl (l:=j*K) (h:=j*K+K) (q:=j*K+K) rfl Z' Z' Z' Z' Z' Z') ?_;have R:j*K+K-j*K=K:=Z';rw[R];refine MV rfl (na (tu rfl) Oa) hy V' ?_;rintro e_ w29 (⟨rfl,H,hk⟩|⟨rfl,P⟩)
  .refine⟨_,rfl, ?_⟩;have S:=hk.1.trans C;have a:=hk.2.trans y;refine ea ?_;refine sv (Ma pa.out rfl (a)) ?_;refine ea ?_;refine⟨⟨j+1,D, ?_,by rw[ja k];exact H,S,a⟩, ?_, ?_⟩
   .show Value.int _ (((j*K:Nat):Int)+(K:Int))=_;rw[h6];rfl
   .show n+1-(((j*K:Nat):Int)+(K:Int)).toNat<n+1-((j*K:Nat):Int).toNat;omega
   exact Sb
  refine⟨_,rfl, ?_⟩;refine ea ?_;refine bX (by first|exact .inr rfl|exact .inl rfl) rfl ?_;exact⟨⟨_,rfl⟩,.inr ⟨_,trivial,P⟩⟩
 obtain rfl:j=m:=Z';refine ea ?_;refine sv (Ma pa.out rfl (Y)) ?_;refine ea ?_;refine bX (by first|exact .inr rfl|exact .inl rfl) rfl ?_;rw[G' (by rw[D6];omega)] at o;exact⟨⟨_,rfl⟩,.inl ⟨_,rfl,o⟩⟩
def Yu(N:Nat):hh N [ww false,wt (ByteArray.mk #[]),wd 0]=la NR.cells ((List.replicate N (0:Dyadic)).map nR):=by
 rw[dH,Oy]
def Sz.Ra{x:Dyadic}(h:Sz k x):(nR x).Ra.size<=k+1:=by have:=h.nr.1;omega
def pY(m:Nat):EO [m]=(Co m).map λn=>nR (nD n):=by
 have h:zw [m]=Co m:=by
  have h1:=KG [] m;have h2:zw []=[1]:=by decide
  rw[J',h2] at h1;rw[h1];simp
 unfold EO;rw[h]
structure NN(q:Nat)(s:NR)(x:Dyadic):Prop where
 ok:s.ok
 Ra:s.Ra.size<=2001
 fa:s.fa=x
 sz:Sz q x
def NN.of{q:Nat}{x:Dyadic}(h:Sz q x)(R:q<=2000):NN q (nR x) x:=⟨h.ok Z',by have:=h.Ra;omega,Ta x,h⟩
variable {G:List HE}
def uw(X sb)(a b)(L)(n c d:Nat)(xs:t5)(k q:Nat)(w)(m:Nd w)(hS:Sl w L n 3 (la NR.cells (xs.map nR)))(hn:n=d+1)(hd:d<=127)(hx:∀x∈xs,Sz k x)(va:NN q X a)(vb:NN q sb b)(hk:k<=300000)(R:q<=2000):Calls prog 242 #[.agg #[ww X.neg,wt X.Ra,wd X.e,ww sb.neg,wt sb.Ra,wd sb.e],wn L n c] w λr V=>∃A c',r=.returned (wn A n c')/\V.ownsRow w.heap.size 30 3 (wn A n c') n (la NR.cells ((Md d (We d a b) xs).map nR))/\Below w.heap.size w V:=by
 have I:=Hp.start w;have hln:xs.length=n:=by have:=hS.Aa NR.len V';simpa using this
 have hqd:q*d<=2000*127:=O9 R hd;have ha:=va.sz;have hb:=vb.sz;have F:∀(sz:NR)(z:Dyadic),NN q sz z->∀(i:Nat),i<=d->∀Z,Nd Z->Zc 282 #[sz.V,wd (i:Int)] Z (.agg #[ww (nR (z^i)).neg,wt (nR (z^i)).Ra,wd (nR (z^i)).e]):=λsz z hz i hi Z P=>(by have h1:=hz.Ra;have h2:i*sz.Ra.size<=127*2001:=O9 Z' Z';have:=lL sz i Z P hz.ok (by rw[z9];omega) Z';rwa[hz.fa,z9] at this);obtain⟨ad,rfl,hr⟩:=hS.at_ Z';refine Ga (l:=[.agg #[ww X.neg,wt X.Ra,wd X.e,ww sb.neg,wt sb.Ra,wd sb.e],wn (some ad) n c]) func242 ?_;refine Gb ?_;intro b2 w2 I;refine ZB ?_;intro t w16 I;refine ea ?_;rw[Yu,hn,<-Ky d a b xs,<-hn] at I;refine rf 19 (λv V=>∃i:Nat,i<=n/\v=wd i/\Hp w [.row (some ⟨t,0,none⟩) n n 30 3 (la NR.cells ((bj d a b xs i 0).map nR)),.blk b2 256 [ww X.neg,wt X.Ra,wd X.e,ww sb.neg,wt sb.Ra,wd sb.e] (0,0)] V) (λv _=>n-(intOf v).toNat) ?_ ?_
 .exact⟨0,N' _,rfl,I⟩
 clear I;rintro ρ' v V ⟨i,hi,rfl,I⟩;by_cases hlt:i<n
 .obtain⟨x,h⟩:=aa (l:=xs) (k:=i) Z';have hxn:(xs.map nR)[i]?=some (nR x):=by rw[C',h];rfl
  have hat:Hg xs i=x:=by unfold Hg;rw[h];rfl
  have zx:=hx x (O' h);have hpa:=F X a va i Z';have zp:=ha.PY (show i<=d by omega);have zc:=zx.mul zp;have hmul:=λA C Z P N=>Rh A 2 C [nR x,nR (a^i)] Z P N (by simpa using⟨zx.ok Z',zp.ok Z'⟩) 600000 (by simpa[Ta] using⟨zx.mono Z',zp.mono Z'⟩) Z' Z';rw[show pj ([nR x,nR (a^i)].map NR.fa)=x*a^i by simp only[T_,f_,Ta];show 1*x*a^i=_;rw[R7]] at hmul;refine ea ?_;refine sv (Ua (vs:=[_,_,_]) pa.out rfl ((hr.ext I.below).recAt NR.len hxn) rfl) ?_;refine Ib ?_;intro b8 w8 I ws I;refine Od 5 I ?_;refine dC (λ_ hj=>hpa _ (m.hp hj.hp)) ?_;refine dn ?_;intro W I;refine bw ?_;intro b29 w29 I;refine cd I (hmul _ _ _ (m.hp I) (I.ka (i:=0) rfl)) ?_;intro w30 I;refine Gb ?_;intro ws I;refine xr ?_;intro M w34 I;have T:(n:Int)-1-(i:Int)=((d-i:Nat):Int):=Z';rw[T] at I;have D:da [d-i]=d-i+1:=by simp[da]
  have K:=λZ P N=>xp (some ⟨M,0,none⟩) 1 1 [d-i] Z P N (by simp) (by simp;omega) (by rw[D];omega);rw[D,pY] at K;refine cr I (K _ (m.hp I) (I.ka (i:=0) rfl)) ?_;intro J Q w35 I;refine ea ?_;replace I:=I.sub (P' _ (L' _ (L' _ (P' _ (P' _ (P' _ j'))))));refine rf 37 (λv V=>∃j:Nat,j<=d-i+1/\v=wd j/\Hp w [.row J (d-i+1) Q 30 3 (la NR.cells ((Co (d-i)).map λn=>nR (nD n))),.blk b8 30 [ww (nR (x*a^i)).neg,wt (nR (x*a^i)).Ra,wd (nR (x*a^i)).e] (0,0),.row (some ⟨t,0,none⟩) n n 30 3 (la NR.cells ((bj d a b xs i j).map nR)),.blk b2 256 [ww X.neg,wt X.Ra,wd X.e,ww sb.neg,wt sb.Ra,wd sb.e] (0,0)] V) (λv _=>d-i+1-(intOf v).toNat) ?_ ?_
  .exact⟨0,N' _,rfl,I⟩
  clear I;rintro ρ2 v w2 ⟨j,hj,rfl,I⟩;by_cases hjn:j<d-i+1
  .have hbl:(Co (d-i))[j]?=some (bin (d-i) j):=qx Z';have hbn:((Co (d-i)).map λn=>nR (nD n))[j]?=some (nR (nD (bin (d-i) j))):=by rw[C',hbl];rfl
   have zb:=Nv (d-i) j Z';have hpb:=F sb b vb j Z';have zq:=hb.PY (show j<=d by omega);obtain⟨o,ho⟩:=aa (l:=bj d a b xs i j) (k:=i+j) (by rw[Al];omega);have hon:((bj d a b xs i j).map nR)[i+j]?=some (nR o):=by rw[C',ho];rfl
   have zo:=yx (j:=j) hx ha hb hd (show i<=d+1 by omega) o (O' ho);have zy:=(zc.mul zb).mul zq;have E:=λA C Z P N=>Rh A 3 C [nR (x*a^i),nR (nD (bin (d-i) j)),nR (b^j)] Z P N (by simpa using⟨zc.ok Z',zb.ok Z',zq.ok Z'⟩) 600000 (by simpa[Ta] using⟨zc.mono Z',zb.mono Z',zq.mono Z'⟩) Z' Z';rw[show pj ([nR (x*a^i),nR (nD (bin (d-i) j)),nR (b^j)].map NR.fa)=x*a^i*nD (bin (d-i) j)*b^j by simp only[T_,f_,Ta];show 1*(x*a^i)*_*_=_;rw[R7]] at E;have p:=hH (show i+j<=d by omega) ho;have H:Hg xs i*We d a b i (i+j)=x*a^i*nD (bin (d-i) j)*b^j:=(by unfold We;rw[hat,R' Z',show i+j-i=j by omega];generalize nD (bin (d-i) j)=u;generalize a^i=v;generalize b^j=z;grind);rw[H] at p;generalize x*a^i*nD (bin (d-i) j)*b^j=y at*;have g:=λA C Z P N=>Uh A 2 C [nR o,nR y] Z P N (by simpa using⟨zo.ok Z',zy.ok Z'⟩) 2000000 (by simpa[Ta] using⟨zo.mono Z',zy.mono Z'⟩) Z';rw[show Mo ([nR o,nR y].map NR.fa)=o+y by simp only[T_,f_,Ta,Zk]] at g;have hll:((bj d a b xs i j).map nR).length=n:=by rw[B',Al];omega
   generalize bj d a b xs i j=S at*;have hrl:=ee NR.len (S.map nR);obtain⟨gw,rfl⟩:=I.ib (i:=0) rfl Z';refine ea ?_;refine sv (Ua (vs:=[_,_,_]) pa.out rfl (I.Wc (f:=NR.cells) (x:=nR (nD (bin (d-i) j))) (l:=(Co (d-i)).map λn=>nR (nD n)) (i:=0) rfl NR.len V' hbn) rfl) ?_;refine Ib ?_;intro b10 w10 I ws I;refine Od 20 I ?_;refine Ku ((i+j)) ?_;refine fk [_,_,_] (λ_ hj=>hj.hp.Wc (f:=NR.cells) (x:=nR o) (l:=S.map nR) (i:=3) rfl NR.len V' hon) ?_;refine ub ?_;refine dC (λ_ hj=>hpb _ (m.hp hj.hp)) ?_;refine Nw [_,_,_,_,_,_,_,_,_] ?_;refine ua (i:=17) (Is (nR y).V) Is.ext ?_ ?_
   .intro U Z hj hR;obtain⟨s,B,h58,s58⟩:=hR.1;exact rb rfl (Ha fi (na h58 Oa)) (E s B _ (m.hp hj.hp) s58) (λ_ _ R=>⟨_,R.1,R.2,rfl⟩)
   refine Nw [_,_,_,_,_,_] ?_;refine ua (i:=19) (Is (.agg #[ww (nR (o+y)).neg,wt (nR (o+y)).Ra,wd (nR (o+y)).e])) Is.ext ?_ ?_
   .intro U Z hj hR;obtain⟨G,Y,h60,s60⟩:=hR.1;exact rb rfl (Ha fi (na h60 Oa)) (g G Y _ (m.hp hj.hp) s60) (λ_ _ R=>⟨_,R.1,R.2,rfl⟩)
   refine xa ?_;intro f W hJ hV;obtain⟨v61,v60,v59,v58,v57,v56,v55,v54,v53,v52,v51,v50,v49,v48,v47,v46,v45,v44,v43,v42,_⟩:=hV;obtain⟨s,B,e58,f58⟩:Rows _ _ _ (f 16) W:=v58;obtain⟨G,Y,e60,f60⟩:Rows _ _ _ (f 18) W:=v60;refine aaP ?_;intro ws I;replace I:=I.sub (L' _ (P' _ (P' _ (P' _ (P' _ j')))));exact O1
  obtain rfl:j=d-i+1:=Z';rw[OC Z'] at I;refine ea ?_;replace I:=I.sub (L' _ (L' _ (P' _ (P' _ j'))));exact aC
 obtain rfl:i=n:=Z';rw[show bj d a b xs i 0=Md d (We d a b) xs by rw[hn,dq]] at I;exact cz
def Lu(l:t5)(i:Nat):t5:=(List.range l.length).map λk=>if k<i\/l.length<=k+i then Hg l (l.length-1-k) else Hg l k
def Wp{l:t5}{i:Nat}(h:k<l.length):(Lu l i)[k]?=some (if k<i\/l.length<=k+i then Hg l (l.length-1-k) else Hg l k):=by
 unfold Lu;rw[C',y_ h];rfl
def sx{l:t5}(h:k<l.length):l[k]?=some (Hg l k):=by
 unfold Hg;rw[D9 h];rfl
def Um(l)(i:Nat):(Lu l i).length=l.length:=by simp[Lu]
def bQ(l):Lu l 0=l:=by
 refine s_ λk=> ?_;by_cases h:k<l.length
 .rw[Wp h,R' Z',sx h]
 rw[X_ (by rw[Um];omega),X_ Z']
def iO{l:t5}{i:Nat}(h:l.length<=2*i+1):Lu l i=l.reverse:=by
 refine s_ λk=> ?_;by_cases u:k<l.length
 .rw[Wp u,l_ u,sx (show l.length-1-k<l.length by omega)];split
  .rfl
  rw[show l.length-1-k=k by omega]
 rw[X_ (by rw[Um];omega),X_ (by rw[r'];omega)]
def GP{l:t5}{i:Nat}(h:2*i+1<l.length):((Lu l i).set i (Hg l (l.length-1-i))).set (l.length-1-i) (Hg l i)=Lu l (i+1):=by
 refine s_ λk=> ?_;by_cases u:k<l.length
 .rw[g_,g_,I9,Um,Wp u,Wp u];by_cases h1:l.length-1-i=k
  .rw[Q' h1,Q' Z',Q' Z',show l.length-1-k=i by omega]
  rw[R' h1];by_cases h2:i=k
  .subst h2;rw[Q' rfl,Q' u,Q' Z']
  rw[R' h2];by_cases G:k<i\/l.length<=k+i
  .rw[Q' G,Q' Z']
  rw[R' G,R' Z']
 rw[X_ (by rw[I9,I9,Um];omega),X_ (by rw[Um];omega)]
def kA(g n c:Nat)(l:t5)(w)(I:Hp w0 (.row (some ⟨g,0,none⟩) n c 30 3 (la NR.cells (l.map nR))::G) w)(Q:l.length=n)(B:n<=1000000):Calls prog 283 #[wn (some ⟨g,0,none⟩) n c] w λr V=>r=.returned (.tuple #[])/\Hp w0 (.row (some ⟨g,0,none⟩) n c 30 3 (la NR.cells (l.reverse.map nR))::G) V:=by
 refine Ga func283 ?_;refine ea ?_;refine Jh 2 3 (λv2 v V=>∃i:Nat,2*i<=n+1/\v2=wd i/\v=wd ((n:Int)-1-i)/\Hp w0 (.row (some ⟨g,0,none⟩) n c 30 3 (la NR.cells ((Lu l i).map nR))::G) V) (λv _ _=>n-(intOf v).toNat) ?_ ?_
 .exact⟨0,Z',rfl,by show Value.int _ _=Value.int _ _;rw[show(n:Int)-1-((0:Nat):Int)=(n:Int)-1 by omega],by rw[bQ];exact I⟩
 clear I;rintro ρ' v2 v V ⟨i,hi,rfl,rfl,I⟩;by_cases D:(i:Int)<(n:Int)-1-i
 .have h1:((Lu l i).map nR)[n-1-i]?=some (nR (Hg l (n-1-i))):=(by rw[C',Wp Z',R' Z'];rfl);have h2:((Lu l i).map nR)[i]?=some (nR (Hg l i)):=(by rw[C',Wp Z',R' Z'];rfl);have b:=GP (l:=l) (i:=i) Z';rw[Q] at b;have o:((Lu l i).map nR).length=n:=by rw[B',Um,Q]
  generalize Lu l i=S at*;have A:=ee NR.len (S.map nR);generalize Hg l (n-1-i)=x at*;generalize Hg l i=y at*;refine ea ?_;refine lW [] [2,3] 12 I ?_;refine Ku ((n-1-i)) ?_;refine fk [_,_,_] (λ_ hj=>hj.hp.Wc (f:=NR.cells) (x:=nR x) (l:=S.map nR) (i:=0) rfl NR.len V' h1) ?_;refine ub ?_;refine Ku (i) ?_;refine fk [_,_,_] (λ_ hj=>hj.hp.Wc (f:=NR.cells) (x:=nR y) (l:=S.map nR) (i:=0) rfl NR.len V' h2) ?_;refine dn2 ?_;intro W I;refine ea ?_;refine uO ?_;intro ws I;rw[show xb (la NR.cells (S.map nR)) (i*3) [ww (nR x).neg,wt (nR x).Ra,wd (nR x).e]=la NR.cells ((S.map nR).set i (nR x)) from ve NR.len Z'] at I;have a:=ee NR.len ((S.map nR).set i (nR x));rw[I9] at a;refine sv (Kc (k:=(n-1-i)) Qa.out pa.size rfl rfl Z' Z') ?_;refine uO ?_;intro ws I;rw[show xb (la NR.cells ((S.map nR).set i (nR x))) ((n-1-i)*3) [ww (nR y).neg,wt (nR y).Ra,wd (nR y).e]=la NR.cells (((S.map nR).set i (nR x)).set (n-1-i) (nR y)) from ve NR.len (by rw[I9];omega),<-c9,<-c9,b] at I;refine ea ?_
  refine⟨⟨i+1,Z',rfl, ?_,I⟩,by show n-(i+1)<n-i;omega, ?_⟩
  .show Value.int _ _=Value.int _ _;rw[show(n:Int)-1-((i+1:Nat):Int)=(n:Int)-1-(i:Int)-1 by omega]
  exact Sb
 rw[iO Z'] at I;refine ea ?_;refine bX (by first|exact .inr rfl|exact .inl rfl) rfl ?_;exact⟨rfl,I⟩
def RH(X sb)(a b)(L)(n c d:Nat)(xs:t5)(k q:Nat)(w)(S:Nd w)(J:Sl w L n 3 (la NR.cells (xs.map nR)))(B:n=d+1)(T:d<=127)(C:∀x∈xs,Sz k x)(F:NN q X a)(s:NN q sb b)(u:k<=300000)(R:q<=2000):Calls prog 243 #[.agg #[ww X.neg,wt X.Ra,wd X.e,ww sb.neg,wt sb.Ra,wd sb.e],wn L n c] w λr V=>∃A c',r=.returned (wn A n c')/\V.ownsRow w.heap.size 30 3 (wn A n c') n (la NR.cells ((Md d (We d b a) xs.reverse).reverse.map nR))/\Below w.heap.size w V:=by
 have I:=Hp.start w;have f:xs.length=n:=by have:=J.Aa NR.len V';simpa using this
 refine Ga func243 ?_;refine Gb ?_;intro l o I;refine vU I (jo L n c (xs.map nR) _ (J.ext I.below) Z') rfl ?_;intro j K t I;obtain⟨g,rfl⟩:=I.ib (i:=0) rfl Z';refine ea ?_;refine Hi (kA g n K xs _ I f Z') rfl ?_;rintro H G ⟨rfl,E⟩;refine⟨_,rfl, ?_⟩;replace I:=E;have p:=λZ P N=>uw sb X b a (some ⟨g,0,none⟩) n K d xs.reverse k q Z P N B T (λx Q=>C x (s8.1 Q)) s F u R;refine ea ?_;refine cr I (p _ (S.hp I) (I.ka (i:=0) rfl)) ?_;intro Y m D I;obtain⟨y,rfl⟩:=I.ib (i:=0) rfl Z';refine ea ?_;refine Hi (kA y n m (Md d (We d b a) xs.reverse) _ I (by rw[Mk];omega) Z') rfl ?_;rintro H h ⟨rfl,E⟩;refine⟨_,rfl, ?_⟩;replace I:=E;exact cz
def ag7(base:Nat)(E:Int)(D:t3)(ys:t5):VP:=λv W=>∃(g:FX)(Z:World),v=.agg #[wn g.A g.n g.a,wn g.B g.m g.b]/\Out E D ys g/\base<=Z.heap.size/\Hp Z [g.mh,g.gg] W
def ahL(base:Nat)(E:Int)(D:t3)(ys:t5):VP:=λv W=>∃(g:FX)(Z:World),v=.tuple #[.agg #[wn g.A g.n g.a,wn g.B g.m g.b],wd E]/\Out E D ys g/\base<=Z.heap.size/\Hp Z [g.mh,g.gg] W
instance:pa prog 199 1 false 8 [.nilFunc]:={}
def vO{K:List (Fin m)}{q:Fin m}(h:K++[q]=(List.finRange m).take (K++[q]).length)(F:K.length<m):K=(List.finRange m).take K.length/\q.val=K.length:=by
 have Q:(K++[q]).length=K.length+1:=by simp
 rw[Q] at h;have h1:=C_ (List.take K.length) h;rw[List.take_left' rfl,List.take_take,T9 Z'] at h1;have h2:(K++[q])[K.length]?=((List.finRange m).take (K.length+1))[K.length]?:=by rw[<-h]
 rw[R9 (F' _),t_,P8,Q' Z',show(List.finRange m)[K.length]?=some ⟨K.length,F⟩ by rw[D9 (by rw[D6];exact F),List.getElem_finRange];rfl] at h2;exact⟨h1,C_ Fin.val (P_ h2)⟩
def IP{Q:Kd}{g:Operand}{p:Tmp}{gf:Nat}{lb:Array Value}(q:Nat)(R:q<N)(hp:p<N)(s:ev O g=.func (.func gf) #[] lb)(X:∀args w,(callFunc gf args).run P w=.ok (.enter gf args) w)
  {enc:α->Value}{m:World->World->Prop}{S:List α->Prop}{H:Nat}(L:∀n,SeqStopsK Fence.wide n P gf lb (λx=> #[enc x]) m S (λ_=>True) H w)
  (G:∀{A B C:World},m A B->m B C->m A C)(E:∀(W:World)(l:Nat)(o v:Obj),w.heap.size<=l->W.heap[l]?=some o->o.isCells=false->o.isWalk=false->m W (W.putObj l v))
  (I:List α->World->Prop)(a:OwnFrom w.heap.size I)(J:I [] w)
  (j:∀l x W,WC ⟨some l,[],true⟩ P N assign (Xd (λρ' c=>ρ'=vd (vd O p (enc x)) q (enc x)/\c=W) adN) (vd O p (enc x)) W)
  (t:∀l pre x W,I pre W->pre.length<H->WC ⟨some l,[],true⟩ P N body (aaw m I pre x W) (vd (vd O p (enc x)) q (enc x)) W)
  (u:∀(D:Nat)(xs:List α)(W:World),w.heap.size<=D->S xs->I xs W->W.heap[D]?=some (.deferred (some []))->Q .normal [D] O W):WD P N (.rangeFunc g #[p] assign body) Q O w:=
 jS hp s X L G E I a J (λx=>vd (vd O p (enc x)) q (enc x)) (λx i hi=>by rw[si _ (λh=>absurd R (by rw[<-h];exact Nat.not_lt.2 hi)),si _ (λh=>absurd hp (by rw[<-h];exact Nat.not_lt.2 hi))]) j t u
def Dt(DA T:t6)(n c m e:Nat)(pre E:t3)(dd:Nat)(M:Nat->Nat->Dyadic)(xs:t5)(u:FuncId)(fst cap:List Value)(k G:Nat)(w:World)[ma prog u](hT:Nd w) (hD:Sl w DA n 1 (Fa (sa (pre++dd::E))))(hS:Sl w T m 3 (la NR.cells (xs.map nR)))(hcap:n<=c)(hn:n<=1000)(hlow:∀x∈pre++dd::E,x<=127)(hm:xs.length=da (E.reverse++dd::pre.reverse))(hm4:m<=4096) (hx:∀x∈xs,Sz k x)(hk:k+da pre*G<=300000) (hdo:∀(L:t6)(c2:Nat)(ls:t5)(q:Nat)(Z:World),Below w.heap.size w Z->Nd Z->Sl Z L (dd+1) 3 (la NR.cells (ls.map nR))->(∀x∈ls,Sz q x)->q<=300000->
   Calls prog u (fst++Value.slice L (dd+1) c2::cap).toArray Z λr V=>∃A c',r=.returned (wn A (dd+1) c')/\V.ownsRow Z.heap.size 30 3 (wn A (dd+1) c') (dd+1) (la NR.cells ((Md dd M ls).map nR))/\Below Z.heap.size Z V)
  (hgr:∀(ls:t5)(q:Nat),ls.length=dd+1->(∀x∈ls,Sz q x)->∀x∈Md dd M ls,Sz (q+G) x):
  Calls prog 241 #[.agg #[wn DA n c,wn T m e],wd (pre.length:Nat),.func (.func u) fst.toArray cap.toArray] w λr V=>∃A a B b,r=.returned (.agg #[wn A n a,wn B m b])/\Hp w [.row B m b 30 3 (la NR.cells ((re (E.reverse++dd::pre.reverse) E.length M xs).map nR)),.row A n a 3 1 (Fa (sa (pre++dd::E)))] V:=by
 have I:=Hp.start w;have hln:pre.length+(E.length+1)=n:=by have:=hD.1;rw[Hb,Za,D',V_] at this;omega
 have hlm:xs.length=m:=by have:=hS.Aa NR.len V';rw[B'] at this;exact this
 have hcA:da E.reverse=da E:=qb E;have hcB:da pre.reverse=da pre:=qb pre;have hmK:m=da pre*((dd+1)*da E):=by rw[<-hlm,hm,zd,da,hcA,hcB];rw[d' (da E),Nat.mul_right_comm,d' _ (da pre)]
 have hA0:=Wb E;have hB0:=Wb pre;have hAm:da E<=m:=by rw[hmK];exact p' (j7 _ Z') (j7 _ hB0)
 have hKm:(dd+1)*da E<=m:=by rw[hmK];exact j7 _ hB0
 have hdl:dd<=127:=hlow dd (H_ _ E');obtain⟨J,rfl,hr⟩:=hD.at_ Z';have hgd:(Fa (sa (pre++dd::E)))[pre.length]?=some (wd (dd:Nat)):=Db (jc (by rw[R9 (F' _),t_];rfl));refine cP (N:=93) (l:=[.agg #[wn (some J) n c,wn T m e],wd (pre.length:Nat),.func (.func u) fst.toArray cap.toArray]) func241 rfl rfl (by simp) ?_;refine NC λD_=> ?_;refine Ii ?_;intro b3 w3 I b5 w5 I b6 w6 I;refine NC λD_=> ?_;refine mb (Sk ?_);refine im I 2 ?_;refine mI ?_;refine sv (Eb (k:=pre.length) Qa.out pa.size rfl rfl Z' Z') ?_;refine sv (Ma pa.out rfl ((hr.ext I.below).Dl hgd)) ?_;refine Kx ?_;intro b7 w7 I b8 w8 I ws I ws I;refine NC λD_=> ?_;refine ea ?_;refine Jb rfl rfl V' (Bg Qa.out pa.size rfl rfl (l:=pre.length+1) rfl Z' Z') ?_;have S:=hD.back (l:=pre.length+1) (c:=c) Z' hcap;have hds:(Fa (sa (pre++dd::E))).drop ((pre.length+1)*1)=Fa (sa E):=(by rw[W_];unfold Fa sa;rw[<-z7,<-z7,<-U7,List.drop_left];rfl);rw[hds] at S;generalize (if c=pre.length+1 then some J else(some J:t6).map (·.add ((pre.length+1)*1)))=CA at S |-;have en:n-(pre.length+1)=E.length:=Z';rw[en] at S |-;refine ea ?_;have H:∀i,da (E.take i)<=da E:=we E;refine rf 30 (λv V=>∃i:Nat,i<=E.length/\v=wd i/\Hp w [.blk b8 3 [wd (da (E.take i):Nat)] (0,0),.blk b7 3 [wd ((dd:Nat)+1)] (0,0),.blk b6 78 [wn none 0 0,wn none 0 0] (0,0),.blk b5 199 [.func (.func u) fst.toArray cap.toArray] (0,0),.blk b3 78 [wn (some J) n c,wn T m e] (0,0)] V) (λv _=>E.length-(intOf v).toNat) ?_ ?_
 .exact⟨0,N' _,rfl,I⟩
 clear I;rintro ρ' v V ⟨i,hi,rfl,I⟩;by_cases F:i<E.length
 .obtain⟨x,hxi⟩:=aa (l:=E) (k:=i) F;have hgi:=Db (jc hxi);have hx2:=hlow x (H_ _ (u' _ (O' hxi)));have hct:=H (i+1);have hct2:=H i;have hstep:da (E.take (i+1))=da (E.take i)*(x+1):=by rw[ja hxi,zd];simp[da]
  have e1:((da (E.take i):Nat):Int)*((x:Int)+1)=((da (E.take (i+1)):Nat):Int):=by rw[hstep,m_,G9];rfl
  obtain⟨ab,rfl,sb⟩:=S.at_ Z';refine ea ?_;refine sv (Ma pa.out rfl ((sb.ext I.below).Dl hgi)) ?_;refine Gb ?_;intro ws I;rw[e1] at I;refine⟨⟨i+1,Z',rfl,I⟩,by show E.length-(i+1)<E.length-i;omega, ?_⟩;exact Sb
 obtain rfl:i=E.length:=Z';rw[G' (F' _),<-hcA] at I;rw[<-hcA,<-hcB] at hmK;rw[<-hcA] at hA0 hKm;rw[<-hcB] at hB0 hk;have hrA:E.reverse.length=E.length:=r';rw[<-hrA];generalize E.reverse=A at*;generalize pre.reverse=B at*;refine ea ?_;refine NC λD_=> ?_;refine HV ?_;refine tH 8 [[(3,none)],[(39,some 0)],[(40,some 1)],[(3,none)],[(42,some 3)],[(43,some 4)],[(41,some 2),(44,some 5)],[]] [(7,11),(6,45),(5,44),(4,43),(3,42),(2,41),(1,40),(0,39)] I mixed U' ?_;refine XJ ?_;refine QM 4 ?_;refine ua (i:=2) (GG I.sz 3 n 1 (Fa (sa (pre++dd::E)))) (GG.ext) ?_ ?_
 .intro U Z hj hR;exact rb rfl (Ha ma.out (na (show U 40=Value.slice _ _ _ from hR.1) Oa)) (Zn (some J) n c _ Z (hD.ext hj.hp.below) Z') (λ_ _ ⟨A,c,hq,ho,hb⟩=>⟨_,hq,hb,A,c,rfl,bh ho hj.bl.size⟩)
 refine XJ ?_;refine QM 4 ?_;refine ua (i:=5) (GG I.sz 30 m 3 (la NR.cells (xs.map nR))) (GG.ext) ?_ ?_
 .intro U Z hj hR;exact rb rfl (Ha ma.out (na (show U 43=Value.slice _ _ _ from hR.1) Oa)) (jo T m e _ Z (hS.ext hj.hp.below) Z') (λ_ _ ⟨A,c,hq,ho,hb⟩=>⟨_,hq,hb,A,c,rfl,bh ho hj.bl.size⟩)
 refine ua (i:=6) (yA I.sz 3 30 n 1 m 3 (Fa (sa (pre++dd::E))) (la NR.cells (xs.map nR))) (yA.ext) ?_ ?_
 .intro U Z hj hR;exact let⟨A,c,e1,o1⟩:=hR.1;let⟨B,k,e2,o2⟩:=hR.2.1;ic rfl (Hn (cs:=[_,_]) pa.out nj.out (Bb e1 (Bb e2 Ld)) rfl) ⟨Below.refl _ _,A,c,B,k,rfl,o1,o2⟩
 refine ua (i:=7) (Sa _ 78 _) Sa.ext (λU Z hj hR=>Xc pa.out hj.bl (λv w2 h hb=>⟨hb,h⟩)) ?_;refine xa ?_;intro f W hJ hV;have hb_7:=hJ.bl;obtain⟨v11,v45,v44,v43,v42,v41,v40,v39,_⟩:=hV;obtain⟨g41,u41,e41, -⟩:=v41;obtain⟨g44,u44,e44, -⟩:=v44;obtain⟨Y,z,B45,C,e45,o45,p45⟩:=v45;obtain⟨K,e11,hl11,hc11⟩:Sa _ _ _ (f 7) W:=v11;replace I:=JJ.YJ hJ I hl11 hc11 o45 p45 V' V' V';refine WE (Vu (Gf e11 (Gf e45 (Gf e44 (Gf v43 (Gf v42 (Gf e41 (Gf v40 (Gf v39 DE))))))))) ?_;dsimp only[Ay];clear e41 e44 e45 e11 hJ;have eK:((dd:Nat):Int)+1=((dd+1:Nat):Int):=Z';have eK2:(((dd:Nat):Int)+1)*((da A:Nat):Int)=(((dd+1)*da A:Nat):Int):=by rw[eK,<-m_]
 refine Gb ?_;intro ws I;refine dV ?_;refine NC λD_=> ?_;refine ea ?_;rw[eK2];refine Lc (bH B45 m C ((dd+1)*da A) _ (p' hA0 (j7 _ Z'))) ma.out rfl V' ?_;rintro e_ w51 ⟨b2,b1,rfl,h2⟩;refine⟨_,rfl, ?_⟩;replace I:=I.join h2;simp only[I',J'] at I;clear h2;refine ea ?_;have hmk:=I.Ae (i:=4) rfl;obtain⟨g,rfl⟩:=I.ib (i:=4) rfl Z';have hc2:=I.Dd (i:=1) (o:=0) rfl rfl;have hc1:=I.Dd (i:=0) (o:=0) rfl rfl;have hseq:=QO b2 b1 ⟨g,0,none⟩ m C ((dd+1)*da A) (da B) _ hc2 hc1 hmK (c_ hA0 (j7 _ Z')) hmk Z' Z';refine HU (IP (α:=Fin (da B)) (enc:=λj:Fin (da B)=>wn (some ((⟨g,0,none⟩:Addr).add (j.val*((dd+1)*da A)*3))) ((dd+1)*da A) ((dd+1)*da A)) 12 V' V' rfl (enters_of func307 U' rfl) hseq hZ (λW l o o' h _ _ _=>GY (cn hc2) (cn hc1) W l o o' h) (λQ W=>∃X:t5,X.length=m/\(∀x∈X,Sz (k+Q.length*G) x)/\(Q=(List.finRange (da B)).take Q.length->X=zQ A dd B M xs Q.length)/\Hp w [.row (some ⟨g,0,none⟩) m C 30 3 (la NR.cells (X.map nR)),.row Y n z 3 1 (Fa (sa (pre++dd::E))),.blk b1 3 [wd (((dd+1)*da A:Nat):Int)] (0,0),.blk b2 37 [wn (some ⟨g,0,none⟩) m C] (0,0),.blk K 78 [wn Y n z,wn (some ⟨g,0,none⟩) m C] (0,0),.blk b8 3 [wd (da A:Nat)] (0,0),.blk b7 3 [wd ((dd:Nat)+1)] (0,0),.blk b6 78 [wn none 0 0,wn none 0 0] (0,0),.blk b5 199 [.func (.func u) fst.toArray cap.toArray] (0,0),.blk b3 78 [wn (some J) n c,wn T m e] (0,0)] W)
  ?own ?zero ?asg ?body ?done)
 case own=>
  intro s W W' row ⟨X,h1,h2,h3,h4⟩ hg hr;exact⟨X,h1,h2,h3,h4.acv (by simp[HE.cel]) hg λr e=>⟨p' I.size (hr r e).1,(hr r e).2⟩⟩
 case zero=>
  refine⟨xs,hlm,λx h=>(hx x h).mono Z',λ_=>(ER _ _ _).symm, ?_⟩;replace I:=I.perm (U_ (l₁:=[_,_,_]));refine YQ ?_;intro I;exact I
 case asg=>
  intro l x W;refine ea ?_;exact⟨rfl,rfl⟩
 case body=>
  rintro l Q q W ⟨X,hXl,hXz,hXe,t⟩ hbl;have hqB:=q.isLt;have hkb:Q.length*G<=da B*G:=n_ _ Z';have I:=t.EW;simp only[I',J'] at I;generalize hO:TU _ _ _=O at I;have hzl:∀f,∀x∈nc A dd X f q.val,Sz (k+Q.length*G) x:=λf x h=>(by obtain⟨i,_,rfl⟩:=x'.1 h;exact bs hXz _);have hPl:∀f i,f<da A->i<=dd->Ob A dd f i q.val<X.length:=λf i h1 h2=>by rw[hXl,<-hlm,hm];exact Yo h1 h2 hqB
  have eAd:∀f i,((⟨g,0,none⟩:Addr).add (q.val*((dd+1)*da A)*3)).add ((f+i*da A)*3)=⟨g,Ob A dd f i q.val*3,none⟩:=λf i=>(by rw[Fe,Fe];congr 1;unfold Ob;grind);rw[<-iT (A:=A) (d:=dd) (φ:=Md dd M) (X:=X) q.val] at I;refine ea ?_;refine rf 54 (λv V=>∃f:Nat,f<=da A/\v=wd f/\Hp w (.row (some ⟨g,0,none⟩) m C 30 3 (la NR.cells ((CF A dd (Md dd M) X q.val f 0).map nR))::.row Y n z 3 1 (Fa (sa (pre++dd::E)))::.blk b1 3 [wd (((dd+1)*da A:Nat):Int)] (0,0)::.blk b2 37 [wn (some ⟨g,0,none⟩) m C] (0,0)::.blk K 78 [wn Y n z,wn (some ⟨g,0,none⟩) m C] (0,0)::.blk b8 3 [wd (da A:Nat)] (0,0)::.blk b7 3 [wd ((dd:Nat)+1)] (0,0)::.blk b6 78 [wn none 0 0,wn none 0 0] (0,0)::.blk b5 199 [.func (.func u) fst.toArray cap.toArray] (0,0)::.blk b3 78 [wn (some J) n c,wn T m e] (0,0)::O) V) (λv _=>da A-(intOf v).toNat) ?_ ?_
  .exact⟨0,N' _,rfl,I⟩
  clear I;rintro ρ' v V ⟨f,hf,rfl,I⟩;by_cases F:f<da A
  .refine ea ?_;replace I:=I.yb 30 3;refine Jh 14 58 (λv14 v V=>∃(i R:Nat)(P:t6),i<=dd+1/\v14=wn P i R/\v=wd i/\Hp w (.row P i R 30 3 (la NR.cells (((nc A dd X f q.val).take i).map nR))::.row (some ⟨g,0,none⟩) m C 30 3 (la NR.cells ((CF A dd (Md dd M) X q.val f 0).map nR))::.row Y n z 3 1 (Fa (sa (pre++dd::E)))::.blk b1 3 [wd (((dd+1)*da A:Nat):Int)] (0,0)::.blk b2 37 [wn (some ⟨g,0,none⟩) m C] (0,0)::.blk K 78 [wn Y n z,wn (some ⟨g,0,none⟩) m C] (0,0)::.blk b8 3 [wd (da A:Nat)] (0,0)::.blk b7 3 [wd ((dd:Nat)+1)] (0,0)::.blk b6 78 [wn none 0 0,wn none 0 0] (0,0)::.blk b5 199 [.func (.func u) fst.toArray cap.toArray] (0,0)::.blk b3 78 [wn (some J) n c,wn T m e] (0,0)::O) V) (λ_ v _=>dd+1-(intOf v).toNat) ?_ ?_
   .exact⟨0,0,none,N' _,rfl,rfl,I⟩
   clear I;rintro ρ2 v14 v w2 ⟨i,R,P,hi,rfl,rfl,I⟩;by_cases hin:i<dd+1
   .have hfi:f+i*da A<(dd+1)*da A:=(by have:=n_ (da A) (show i<=dd by omega);rw[U9];omega);have hat:=oV (φ:=Md dd M) F (show i<=dd by omega) (hPl f i F Z');refine sr ?_;refine Ji (ia (qa (cT (db (Va (qa (Pc (sr (mI (aI (ia (mb (mL (mL (mI (mI ?_))))))))))))))));refine im I 6 ?_;refine mulC ?_;refine al ?_;refine sv (Eb (k:=f+i*da A) Qa.out pa.size rfl rfl (by rw[G9,m_]) hfi) ?_;rw[eAd];refine sv (Ua (vs:=[_,_,_]) pa.out rfl (I.Wc (f:=NR.cells) (i:=1) rfl NR.len V' (show((CF A dd (Md dd M) X q.val f 0).map nR)[Ob A dd f i q.val]?=some (nR (Hg (nc A dd X f q.val) i)) by rw[C',hat];rfl)) rfl) ?_;refine Nm ?_;intro b70 w70 I;refine Yl ?_;intro A71 c71 w71 I;refine jB ?_;intro I;have htk:la NR.cells (((nc A dd X f q.val).take i).map nR)++[ww (nR (Hg (nc A dd X f q.val) i)).neg,wt (nR (Hg (nc A dd X f q.val) i)).Ra,wd (nR (Hg (nc A dd X f q.val) i)).e]=la NR.cells (((nc A dd X f q.val).take (i+1)).map nR):=(by rw[ja (sx (l:=nc A dd X f q.val) (k:=i) (by unfold nc;simp;omega)),q_,Na];rfl);rw[htk] at I;refine⟨⟨i+1,_,_,Z',rfl,rfl,I⟩,by show dd+1-(i+1)<dd+1-i;omega, ?_⟩;exact Sb
   obtain rfl:i=dd+1:=Z';rw[G' (by unfold nc;simp)] at I;have hdl:=λZ h1 hT1 hS1=>hdo P R (nc A dd X f q.val) (k+Q.length*G) Z h1 hT1 hS1 (hzl f) Z';refine ea ?_;refine Mh (hdl _ I.below (hT.hp I) (I.ka (i:=0) rfl)) ma.out rfl rfl V' ?_;rintro e_ w75 ⟨A75,c75,rfl,hown_,hb_⟩;refine⟨_,rfl, ?_⟩;replace I:=I.Ed (x:=.row _ _ _ _ _ _) hb_ hown_;obtain⟨g75,rfl⟩:=I.ib (i:=0) rfl Z';refine ea ?_;replace I:=I.sub (P' _ (L' _ (P' _ (P' _ (P' _ (P' _ (P' _ (P' _ (P' _ (P' _ (P' _ (P' _ (u_ _)))))))))))));generalize hφ:Md dd M (nc A dd X f q.val)=ys at I;have hyl:ys.length=dd+1:=by rw[<-hφ,Mk]
   refine rf 77 (λv V=>∃i:Nat,i<=dd+1/\v=wd i/\Hp w (.row (some ⟨g75,0,none⟩) (dd+1) c75 30 3 (la NR.cells (ys.map nR))::.row (some ⟨g,0,none⟩) m C 30 3 (la NR.cells ((CF A dd (Md dd M) X q.val f i).map nR))::.row Y n z 3 1 (Fa (sa (pre++dd::E)))::.blk b1 3 [wd (((dd+1)*da A:Nat):Int)] (0,0)::.blk b2 37 [wn (some ⟨g,0,none⟩) m C] (0,0)::.blk K 78 [wn Y n z,wn (some ⟨g,0,none⟩) m C] (0,0)::.blk b8 3 [wd (da A:Nat)] (0,0)::.blk b7 3 [wd ((dd:Nat)+1)] (0,0)::.blk b6 78 [wn none 0 0,wn none 0 0] (0,0)::.blk b5 199 [.func (.func u) fst.toArray cap.toArray] (0,0)::.blk b3 78 [wn (some J) n c,wn T m e] (0,0)::O) V) (λv _=>dd+1-(intOf v).toNat) ?_ ?_
   .exact⟨0,N' _,rfl,I⟩
   clear I;rintro ρ3 v w3 ⟨i,hi,rfl,I⟩;by_cases hin:i<dd+1
   .have hfi:f+i*da A<(dd+1)*da A:=(by have:=n_ (da A) (show i<=dd by omega);rw[U9];omega);have hset:=NX (φ:=Md dd M) F (show i<=dd by omega) (hPl f i F Z');rw[hφ] at hset;have hPx:=hPl f i F (show i<=dd by omega);have hSl:=Ck (A:=A) (d:=dd) (φ:=Md dd M) (X:=X) q.val f i;have hrl:=ee NR.len ((CF A dd (Md dd M) X q.val f i).map nR);have hyi:(ys.map nR)[i]?=some (nR (Hg ys i)):=by rw[C',sx Z'];rfl
    generalize Hg ys i=y at*;refine ea ?_;refine sv (Ua (vs:=[_,_,_]) pa.out rfl (I.Wc (f:=NR.cells) (i:=0) rfl NR.len V' hyi) rfl) ?_;refine ik I ?_;intro b17 w17 I;refine aI ?_;refine aaN ?_;intro ws I;refine ia (mb (mL (mI (mI ?_))));refine im I 7 ?_;refine mulC ?_;refine al ?_;refine vf I 0 [_,_,_] ?_;refine sv (Eb (k:=f+i*da A) Qa.out pa.size rfl rfl (by rw[G9,m_]) hfi) ?_;rw[eAd];generalize CF A dd (Md dd M) X q.val f i=p at*;have hpl:Ob A dd f i q.val<(p.map nR).length:=by rw[B',hSl];exact hPx
    refine Lb I (i:=2) (vs:=[_,_,_]) rfl rfl (Xe rfl) rfl pa.out rfl (by rw[hrl];omega) rfl ?_;intro ws I;simp only[l',Z9] at I;rw[show xb (la NR.cells (p.map nR)) (Ob A dd f i q.val*3) [ww (nR y).neg,wt (nR y).Ra,wd (nR y).e]=la NR.cells ((p.map nR).set (Ob A dd f i q.val) (nR y)) from ve NR.len hpl,<-c9,hset] at I;refine ea ?_;replace I:=I.sub (L' _ (P' _ (P' _ (P' _ (P' _ (P' _ (P' _ (P' _ (P' _ (P' _ (P' _ (P' _ (u_ _)))))))))))));refine⟨⟨i+1,Z',rfl,I⟩,by show dd+1-(i+1)<dd+1-i;omega, ?_⟩;exact Sb
   obtain rfl:i=dd+1:=Z';rw[qV] at I;refine ea ?_;replace I:=I.sub (L' _ (P' _ (P' _ (P' _ (P' _ (P' _ (P' _ (P' _ (P' _ (P' _ (P' _ (u_ _))))))))))));refine⟨⟨f+1,Z',rfl,I⟩,by show da A-(f+1)<da A-f;omega, ?_⟩;exact Sb
  obtain rfl:f=da A:=Z';refine ea ?_;subst hO;refine⟨t.keeps (H':=[_,_,_,_,_,_,_,_,_,_]) (by simp[HE.cel]) I rfl,⟨by rw[I.Dd (i:=3) (o:=0) rfl rfl,t.Dd (i:=3) (o:=0) rfl rfl],by rw[I.Dd (i:=2) (o:=0) rfl rfl,t.Dd (i:=2) (o:=0) rfl rfl]⟩,xT A dd (Md dd M) X q.val, ?_, ?_, ?_, ?_⟩
  .unfold xT;rw[Ck,hXl]
  .intro x h;refine(acM hXz (λl h1 h2=>hgr l _ h1 h2) x h).mono ?_;rw[D',List.length_singleton,U9];omega
  .intro h;obtain⟨h1,h2⟩:=vO h hbl;rw[hXe h1,h2,D',List.length_singleton];exact lU (hm ▸ rfl)
  exact I.sub (by repeat (first|exact N_ _|apply P'))
 case done=>
  rintro D Q W hD2 rfl ⟨X,hXl,hXz,hXe,t⟩ hDo;have hA2:=hXe (by rw[G' (F' _)]);rw[D6] at hA2;rw[hA2,NV hm] at t;have hD3:=p' I.size hD2;replace I:=t.ady (by simp[HE.cel]) hD3 hDo rfl;refine NC λD_=> ?_;refine Gb ?_;intro ws I;refine abg λD_=> ?_;refine ea ?_;refine RO (M:=[D]) (vs:=[.agg #[wn Y n z,wn (some ⟨g,0,none⟩) m C]]) I (.inr rfl) rfl ?_;intro w2 I;refine⟨(jb rfl (kb (vs:=[_,_]) pa.out (I.wa (i:=7) (n:=2) rfl rfl) rfl) Ub), ?_⟩;replace I:=I.sub (P' _ (P' _ (L' _ (L' _ (L' _ (L' _ (L' _ (L' _ (L' _ (L' _ j'))))))))));exact⟨_,_,_,_,rfl,I⟩
def ag2(n m:Nat)(ds:t4)(cs:List NR):VP:=λv W=>∃A a B b,v=.agg #[wn A n a,wn B m b]/\n<=a/\Sl W A n 1 (Fa ds)/\Sl W B m 3 (la NR.cells cs)
def HT{d q:Nat}{s:Dyadic}(T:d<=127)(K:Sz q s)(m:Sz q (1-s))(ls)(k:Nat)(C:∀x∈ls,Sz k x):∀x∈Md d (vB d s) ls,Sz (k+(260+2*(q*d))) x:=λx h=>by
 rw[<-acN,<-dq] at h;exact(yx C K m T (F' _) x h).mono Z'
def eS{d q:Nat}{s:Dyadic}(T:d<=127)(K:Sz q s)(m:Sz q (1-s))(ls:t5)(k:Nat)(Q:ls.length=d+1)(C:∀x∈ls,Sz k x):∀x∈Md d (sB d s) ls,Sz (k+(260+2*(q*d))) x:=λx h=>by
 rw[<-UG Q,s8,<-dq] at h;exact(yx (λy hy=>C y (s8.1 hy)) m K T (F' _) x h).mono Z'
variable {Y s1 s2:Nat}{t1 t2:TypeId}
def JJ.bZ{H:List HE}{n E:List Value}{l X:Nat}{c s:t6}(Q:JJ w0 H w W)(K:Hp w0 H w) (M:W.ownsRow w.heap.size t1 s1 (wn c l X) l n)(v:W.ownsRow w.heap.size t2 s2 (wn s r Y) r E)(m:t1≠t2):Hp w0 (.row c l X t1 s1 n::.row s r Y t2 s2 E::H) W:=by
 have a:Hp w [.row c l X t1 s1 n,.row s r Y t2 s2 E] W:=by
  refine⟨Q.bl,λx C=> ?_, ?_⟩
  .exact abd
  rw[C8];split
  .exact IY
  rename_i G t;refine G8.2 ⟨λhm=> ?_, ?_⟩
  .obtain⟨y,hy,d⟩:=H9.1 hm;obtain rfl:=k'.1 hy;exact UN M v m G t d
  exact IY
 exact K.join a
def rO(y T)(n c m e:Nat)(pre:t3)(E)(dd:Nat)(z)(s)(xs:t5)(k q:Nat)(w)(S:Nd w) (f:Sl w y n 1 (Fa (sa (pre++dd::E))))(J:Sl w T m 3 (la NR.cells (xs.map nR)))(X:n<=c)(h:n<=1000)(g:∀x∈pre++dd::E,x<=127)(hm:xs.length=da (E.reverse++dd::pre.reverse))(l:m<=4096) (C:∀x∈xs,Sz k x)(u:k+da pre*(260+2*(q*dd))<=300000)(R:q<=2000)(vs:NN q z s)(d:Sz q (1-s)):Calls prog 241 #[.agg #[wn y n c,wn T m e],wd (pre.length:Nat),.func (.func 242) #[.agg #[ww z.neg,wt z.Ra,wd z.e,ww (nR (1-s)).neg,wt (nR (1-s)).Ra,wd (nR (1-s)).e]] #[]] w λr V=>∃A a B b,r=.returned (.agg #[wn A n a,wn B m b])/\Hp w [.row B m b 30 3 (la NR.cells ((re (E.reverse++dd::pre.reverse) E.length (vB dd s) xs).map nR)),.row A n a 3 1 (Fa (sa (pre++dd::E)))] V:=by
 have K:=vs.sz;have W:dd<=127:=g dd (H_ _ E');exact(Dt y T n c m e pre E dd (vB dd s) xs 242 [.agg #[ww z.neg,wt z.Ra,wd z.e,ww (nR (1-s)).neg,wt (nR (1-s)).Ra,wd (nR (1-s)).e]] [] k (260+2*(q*dd)) w S f J X h g hm l C u (λL Y ls p Z _ P N o hp=>uw z (nR (1-s)) s (1-s) L (dd+1) Y dd ls p q Z P N rfl W o vs (NN.of d R) hp R) (λls p _ o=>HT W K d ls p o))
def FO(y T)(n c m e:Nat)(pre:t3)(E)(dd:Nat)(z)(s)(xs:t5)(k q:Nat)(w)(S:Nd w) (h:Sl w y n 1 (Fa (sa (pre++dd::E))))(J:Sl w T m 3 (la NR.cells (xs.map nR)))(X:n<=c)(i:n<=1000)(g:∀x∈pre++dd::E,x<=127)(hm:xs.length=da (E.reverse++dd::pre.reverse))(l:m<=4096) (C:∀x∈xs,Sz k x)(u:k+da pre*(260+2*(q*dd))<=300000)(R:q<=2000)(vs:NN q z s)(d:Sz q (1-s)):Calls prog 241 #[.agg #[wn y n c,wn T m e],wd (pre.length:Nat),.func (.func 243) #[.agg #[ww z.neg,wt z.Ra,wd z.e,ww (nR (1-s)).neg,wt (nR (1-s)).Ra,wd (nR (1-s)).e]] #[]] w λr V=>∃A a B b,r=.returned (.agg #[wn A n a,wn B m b])/\Hp w [.row B m b 30 3 (la NR.cells ((re (E.reverse++dd::pre.reverse) E.length (sB dd s) xs).map nR)),.row A n a 3 1 (Fa (sa (pre++dd::E)))] V:=by
 have K:=vs.sz;have W:dd<=127:=g dd (H_ _ E');refine(Dt y T n c m e pre E dd (sB dd s) xs 243 [.agg #[ww z.neg,wt z.Ra,wd z.e,ww (nR (1-s)).neg,wt (nR (1-s)).Ra,wd (nR (1-s)).e]] [] k (260+2*(q*dd)) w S h J X i g hm l C u (λL Y ls p Z _ P N f hp=> ?_) (λls p Q f=>eS W K d ls p Q f));have o:ls.length=dd+1:=by have:=N.Aa NR.len V';simpa using this
 have:=RH z (nR (1-s)) s (1-s) L (dd+1) Y dd ls p q Z P N rfl W f vs (NN.of d R) hp R;rw[UG o] at this;exact this
instance:pa prog 199 1 false 8 [.nilFunc]:={}
def jk(up:Bool)(s:Dyadic)(ns:t3)(a:Nat)(xs:t5):t5:=re ns.reverse (ns.length-1-a) (if up then sB (ns.getD a 0) s else vB (ns.getD a 0) s) xs
def Qo(L:FX)(N:Int):Int:=if L.e≠0 then L.e else if N<0\/(L.n:Int)<=N then 1 else 0
def abQ(e:Int):Ending:=.returned (.tuple #[.agg #[wn none 0 0,wn none 0 0],.agg #[wn none 0 0,wn none 0 0],wd e])
def Gy{ns:t3}{a:Nat}(h:a<ns.length):∃pre dd E,ns=pre++dd::E/\a=pre.length/\ns.getD a 0=dd/\ns.length-1-a=E.length:=by
 refine⟨ns.take a,ns[a],ns.drop (a+1), ?_,by rw[q'];omega,by rw[o_,D9 h];rfl,by rw[Q9];omega⟩;rw[<-m9 h,Y9]
def zz(L:FX)(N:Int)(z)(s)(k q:Nat)(w)(S:Nd w)(Y:L.at_ w)(hl:L.qf k)(X:L.n<=L.a)(vs:NN q z s)(J:Sz q (1-s))(hq:q<=2000)(hk:L.e=0->∀d∈L.ns,k+L.m*(260+2*(q*d))<=300000):Calls prog 175 #[L.V,wd N,z.V] w λr V=>Below w.heap.size w V/\((Qo L N≠0/\r=abQ (Qo L N))\/(Qo L N=0/\∃A1 a1 B1 b1 A2 a2 B2 b2,r=.returned (.tuple #[.agg #[wn A1 L.n a1,wn B1 L.m b1],.agg #[wn A2 L.n a2,wn B2 L.m b2],wd 0])/\Hp w [.row B2 L.m b2 30 3 (la NR.cells ((jk true s L.ns N.toNat (L.cs.map NR.fa)).map nR)),.row A2 L.n a2 3 1 (Fa L.ds),.row A1 L.n a1 3 1 (Fa L.ds),.row B1 L.m b1 30 3 (la NR.cells ((jk false s L.ns N.toNat (L.cs.map NR.fa)).map nR))] V)):=by
 have I:=Hp.start w;have hs:=vs.sz;have hln:L.ds.length=L.n:=by have:=Y.dg.1;simpa[Fa] using this
 have hlm:=Y.nm.Aa NR.len V';have j:=hl.w1;have K:=λZ P F=>Uq L k Z P (Y.ext F) hl;by_cases h0:L.e=0
 .by_cases h1:N<0
  .have u:Qo L N=1:=by unfold Qo;rw[R' Z',Q' (.inl h1)]
   exact aeR
  by_cases h2:(L.n:Int)<=N
  .have u:Qo L N=1:=by unfold Qo;rw[R' Z',Q' (.inr h2)]
   exact aeR
  have u:Qo L N=0:=by unfold Qo;rw[R' Z',R' Z']
  rw[u];obtain⟨M,H,_,g,D,hmax⟩:=FX.fv h0;have hnl:L.ns.length=L.n:=by unfold FX.ns;rw[B'];exact hln
  obtain⟨pre,dd,E,l,hap,t,T⟩:=Gy (ns:=L.ns) (a:=N.toNat) Z';have hD:=Y.dg;have hN:=Y.nm;have hLo:jk false s L.ns N.toNat (L.cs.map NR.fa)=re (E.reverse++dd::pre.reverse) E.length (vB dd s) (L.cs.map NR.fa):=(by unfold jk;rw[T,t,l,l8,Y8,J_];rfl);have hUp:jk true s L.ns N.toNat (L.cs.map NR.fa)=re (E.reverse++dd::pre.reverse) E.length (sB dd s) (L.cs.map NR.fa):=(by unfold jk;rw[T,t,l,l8,Y8,J_];rfl);rw[hLo,hUp];have hax:N=((pre.length:Nat):Int):=Z';have hxl:(L.cs.map NR.fa).length=da (E.reverse++dd::pre.reverse):=(by rw[B',D,show E.reverse++dd::pre.reverse=L.ns.reverse by rw[l,l8,Y8,J_];rfl,qb]);have hpm:da pre<=L.m:=(by have h3:=we L.ns pre.length;rw[l,List.take_left' rfl] at h3;rw[<-l,<-D] at h3;omega);have y:k+da pre*(260+2*(q*dd))<=300000:=(by have h3:=hk h0 dd (by rw[l];exact H_ _ E');have h4:=n_ (260+2*(q*dd)) hpm;omega);have hxz:∀x∈L.cs.map NR.fa,Sz k x:=λx h=>(by obtain⟨c,hc,rfl⟩:=x'.1 h;exact(hl.num c hc).2);have G:L.m<=4096:=Z';rw[M,l] at hD;rw[H] at hN;rw[l] at g;have hds:L.ds=sa (pre++dd::E):=by rw[M,l]
  rw[hds];have hlo:=λZ P F=>rO L.A L.B L.n L.a L.m L.b pre E dd z s _ k q Z P (hD.ext F) (hN.ext F) X j g hxl G hxz y hq vs J;have hup:=λZ P F=>FO L.A L.B L.n L.a L.m L.b pre E dd z s _ k q Z P (hD.ext F) (hN.ext F) X j g hxl G hxz y hq vs J;have hof:∀Z,Nd Z->Zc 67 #[wd 1] Z (.agg #[ww (nR (1:Dyadic)).neg,wt (nR (1:Dyadic)).Ra,wd (nR (1:Dyadic)).e]):=λZ P=>Sm 1 Z P V' V';have R:=λZ P=>Pr (nR (1:Dyadic)) z Z P (Sz.one.ok Z') vs.ok (q+1) (by rw[Ta];exact Sz.one.mono Z') (by rw[vs.fa];exact hs.mono Z') Z';simp only[Ta,vs.fa] at R;refine Ga func175 ?_;refine Kx ?_;intro b3 w3 I b5 w5 I b6 w6 I b7 w7 I;refine cd I (K _ (S.hp I) I.below) ?_;intro o I;refine ea ?_;subst hax;refine Od 6 I ?_;refine dC (λ_ hj=>hof _ (S.hp hj.hp)) ?_;refine ub ?_;refine dC (λ_ hj=>R _ (S.hp hj.hp)) ?_;refine ub ?_;refine ua (i:=5) (Sa _ 256 _) Sa.ext (λU Z hj hR=>Xc pa.out hj.bl (λv w2 h F=>⟨F,h⟩)) ?_;refine xa ?_;intro f W Q hV;obtain⟨v10,v33,v32,v31,v30,v29,_⟩:=hV;obtain⟨b10,e10,C,p⟩:Sa _ _ _ (f 5) W:=v10;replace I:=Q.newVar I C p;refine Be ?_;refine Gb ?_;intro ws I;refine Od 9 I ?_
  refine ua (i:=3) (Is (.func (.func 242) #[.agg #[ww z.neg,wt z.Ra,wd z.e,ww (nR (1-s)).neg,wt (nR (1-s)).Ra,wd (nR (1-s)).e]] #[])) (Is.ext) ?_ ?_
  .intro U Z hj hR;exact ic rfl (pn (na (show U 36=Value.agg _ from hR.1) Oa) Oa) ⟨Below.refl _ _,rfl⟩
  refine ua (i:=4) (yA I.sz 3 30 L.n 1 L.m 3 (Fa (sa (pre++dd::E))) (la NR.cells ((re (E.reverse++dd::pre.reverse) E.length (vB dd s) (L.cs.map NR.fa)).map nR))) (yA.ext) ?_ ?_
  .intro U Z hj hR;exact rb rfl (Ha fi (na (show U 34=Value.agg _ from hR.1) (na (show U 35=Value.int _ _ from hR.2.1) (na (show U 37=Value.func _ _ _ from hR.2.2.1) Oa)))) (hlo Z (S.hp hj.hp) hj.hp.below) (λ_ _ ⟨A,a,B,b,q1,q2⟩=>⟨_,q1,q2.below,A,a,B,b,rfl,bh (q2.at_ (i:=1) rfl) hj.bl.size,bh (q2.at_ (i:=0) rfl) hj.bl.size⟩)
  refine ub ?_;refine ua (i:=8) (Is (.func (.func 243) #[.agg #[ww z.neg,wt z.Ra,wd z.e,ww (nR (1-s)).neg,wt (nR (1-s)).Ra,wd (nR (1-s)).e]] #[])) (Is.ext) ?_ ?_
  .intro U Z hj hR;exact ic rfl (pn (na (show U 41=Value.agg _ from hR.1) Oa) Oa) ⟨Below.refl _ _,rfl⟩
  refine xa ?_;intro f W Q hV;obtain⟨v42,v41,v40,v39,v38,v37,v36,v35,v34,_⟩:=hV;obtain⟨A38,c38,B38,k38,e38,o38,p38⟩:=v38;replace I:=JJ.bZ Q I o38 p38 V';refine Be ?_;refine Vg (hup _ (S.hp I) I.below) ?_;rintro e_ w43 ⟨A43,a43,B43,b43,rfl,h2⟩;refine⟨_,rfl, ?_⟩;replace I:=I.join h2;simp only[I',J'] at I;refine Ib ?_;intro ws I ws I;refine YH (jb rfl (kb (vs:=[_,_]) pa.out (I.wa (i:=6) (n:=2) rfl rfl) rfl) (jb rfl (kb (vs:=[_,_]) pa.out (I.wa (i:=5) (n:=2) rfl rfl) rfl) (Dc (Sc rfl) Ub))) ?_;replace I:=I.sub (P' _ (P' _ (P' _ (P' _ (L' _ (L' _ (L' _ (L' _ (L' _ j')))))))));exact⟨I.below,.inr ⟨rfl,_,_,_,_,_,_,_,_,rfl,I⟩⟩
 have u:Qo L N=L.e:=by unfold Qo;rw[Q' h0]
 refine Ga func175 ?_;refine Kx ?_;intro b3 w3 I b5 w5 I b6 w6 I b7 w7 I;refine cd I (K _ (S.hp I) I.below) ?_;intro o I;refine Ib ?_;intro ws I ws I;refine pR ?_;exact⟨I.below,.inl ⟨by rw[u];exact h0,by rw[u];rfl⟩⟩
def XW(n:Nat)(h:Int):Bool:=decide (h<0\/(n:Int)<=h.tdiv 2)
end Go.Proofs.YtbencocchdpikaaGreatDoor
