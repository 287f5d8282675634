/- Lemmas for solveAll, part 5. -/
import Derived.LaidMore
import Derived.Lay
import Derived.Deep.Slices
import Derived.Stop.Joined
import Derived.Deep.Strs
import Derived.Laws.OwnMore
import Derived.Lib.SliceRun
import Derived.Test.YtbencocchdpikaaGreatDoorZ4
set_option linter.all false
set_option maxHeartbeats 0
namespace Go.Proofs.YtbencocchdpikaaGreatDoor
open Go.Proofs.Tryz
open Go.RowKit
variable {n:Nat}
def jM(h:n≠0):sb n=sb (n/256)++[UInt8.ofNat (n % 256)]:=by
 rw[sb,LO Z' h,q_,D7];rfl
def uL(h:n≠0):1<=(sN n).size/\∃c:UInt8,(sN n).data.toList[(((sN n).size:Int)-1).toNat]?=some c/\c.toNat=n % 256:=by
 have hl:(sN n).data.toList=sb (n/256)++[UInt8.ofNat (n % 256)]:=by rw[sN,Oc,jM h]
 have hs:(sN n).size=(sb (n/256)).length+1:=by rw[Tc,hl,Y_];rfl
 refine⟨Z',UInt8.ofNat (n % 256), ?_, ?_⟩
 .rw[hl,hs,I9 Z'];have:(((sb (n/256)).length+1:Nat)-1:Int).toNat-(sb (n/256)).length=0:=Z';rw[this];rfl
 simp
def acG(h:n≠0):(sN n).extract 0 ((sN n).size-1)=sN (n/256):=by
 have hl:(sN n).data=(sb (n/256)++[UInt8.ofNat (n % 256)]).toArray:=by rw[sN,<-jM h];rfl
 have hs:(sN n).size=(sb (n/256)).length+1:=by rw[Tc,hl,Y_];rfl
 apply ByteArray.ext;rw[ByteArray.data_extract,hl,hs];show _=(sb (n/256)).toArray;simp
variable {k:Nat}
def abn{k:Int}(h:0<k)(y:Int):iN (y*k)=iN y:=by
 unfold iN;rw[decide_eq_decide];constructor
 .intro h1;obtain h2|h2|h2:=D6 y 0
  .exact h2
  .rw[h2] at h1;simp at h1
  have:=Int.mul_pos h2 h;omega
 intro h1;exact Int.mul_neg_of_neg_of_pos h1 h
def abf(h:n % 2=1):tz n=0:=by
 have:=ZK 0 (n/2);rwa[show 2^0*(2*(n/2)+1)=n by omega] at this
variable {j:Nat}{z:Int}
def wQ{y e:Int}(hy:y.natAbs % 2=1)(hz:y*2^j=z):nR (Dyadic.ofIntWithPrec z (-e))=⟨iN y,iM y,e+j⟩:=by
 have h1:=St (s:=iN y) (a:=iM y) (e:=e+j) (by rw[td];omega);rw[td,iM,Ue,abf hy] at h1;have h2:=Mo y (-(e+j)) j;rw[hz,show -(e+(j:Int))+j= -e by omega] at h2;rw[h2,h1];simp
variable {m:Nat}
def Cv{y:Int}(hy:y≠0)(hz:y*2^j=z)(hm:z.natAbs<2^m):j<m:=by
 have h1:z.natAbs=y.natAbs*2^j:=by rw[<-hz,U8,X7];rfl
 have h2:1*2^j<=y.natAbs*2^j:=N9 _ Z';have h3:2^j<2^m:=Z';exact(Nat.pow_lt_pow_iff_right Z').1 h3
def Vm(s:Bool)(a:ByteArray)(e:Int)(w:World)(ha:a.size<=10000000)(h1: -1000000000000<=e)(h2:e<=1000000000000):Calls prog 92 #[.agg #[.bool s,.string a],.int .i64 e] w λr w'=>r=.returned (.agg #[.bool (nR (Dyadic.ofIntWithPrec (iv s a) (-e))).neg,.string (nR (Dyadic.ofIntWithPrec (iv s a) (-e))).Qa,.int .i64 (nR (Dyadic.ofIntWithPrec (iv s a) (-e))).e])/\Below w.heap.size w w':=by
 have hh:=Hp.start w;by_cases h0:iv s a=0
 .have hm:=sv.2 h0;rw[h0] at hm;refine da (N:=50) (l:=[.agg #[.bool s,.string a],.int .i64 e]) func92 rfl rfl (by simp) ?_;refine Sb ?_;intro b2 w2 hh b4 w4 hh;refine Oa hh (Qd s a _ Z') rfl ?_;intro w6 hh;rw[h0];refine Jb ?_;intro ws hh;refine NL ?_;refine Jb ?_;intro ws hh;refine CA ?_;rw[Zh,yq];exact⟨rfl,hh.below⟩
 have hm:¬iM (iv s a)=ByteArray.mk #[]:=λh=>h0 (sv.1 h);have hzb:(iv s a).natAbs<2^(8*a.size):=(by rw[Fj,W9];exact wA a);refine da (N:=50) (l:=[.agg #[.bool s,.string a],.int .i64 e]) func92 rfl rfl (by simp) ?_;refine Sb ?_;intro b2 w2 hh b4 w4 hh;refine Oa hh (Qd s a _ Z') rfl ?_;intro w6 hh;refine Jb ?_;intro ws hh;refine qN ?_;refine fa ?_;generalize hz:iv s a=z at*;refine Ba [1,11,12,13,14,15,16,17,18,19,20,21,22,23,24,25,26,27,28] 1 (λv w'=>∃(y:Int)(j:Nat),y≠0/\y*2^j=z/\v=.int .i64 (e+j)/\Hp w [.blk b4 30 [.bool false,.string (ByteArray.mk #[]),.int .i64 0] (0,0),.blk b2 28 [.bool (iN y),.string (iM y)] (0,0)] w') (λv _=>(e+8*a.size+1-intOf v).toNat) ?_ ?_
 .exact⟨z,0,h0,by simp,by show Value.int _ _=Value.int _ _;congr 1;omega,hh⟩
 clear hh;rintro ρ' v w' ⟨y,j,hy,hyz,rfl,hh⟩;have hj:=Cv hy hyz hzb;obtain⟨hs1,c,hc,hcn⟩:=uL (n:=y.natAbs) Z';have hcut:=acG (n:=y.natAbs) Z';have hsz:(sN y.natAbs).size<=10000000:=(by exact adq)
 change (iM y).data.toList[(((iM y).size:Int)-1).toNat]?=some c at hc
 change 1<=(iM y).size at hs1
 change (iM y).extract 0 ((iM y).size-1)=_ at hcut
 change (iM y).size<=_ at hsz
 by_cases hb:y.natAbs % 256=0
 .obtain⟨x,rfl⟩:∃x,y=x*256:=⟨y/256,Z'⟩;have hx:x≠0:=λh=>hy (by rw[h];rfl);have e1:iN (x*256)=iN x:=abn Z' x;have e2:sN ((x*256).natAbs/256)=iM x:=by rw[iM];congr 1;omega
  have hxz:x*2^(j+8)=z:=by rw[<-hyz,Int.pow_add,Int.mul_assoc,q6 (2^j)];rfl
  have hj2:=Cv hx hxz hzb;refine fa ?_;refine Ou (l:=0) (h:=((iM (x*256)).size-1)) lb.out rfl rfl ⟨_,_,rfl,Z'⟩ Z' Z' U' ?_;refine Jb ?_;intro ws hh;rw[hcut,e2,e1] at hh;refine⟨⟨x,j+8,hx,hxz,by show Value.int _ _=Value.int _ _;congr 1;omega,hh⟩,by show(e+8*a.size+1-(e+j+8)).toNat<(e+8*a.size+1-(e+j)).toNat;omega, ?_⟩;exact Rc
 refine fa ?_;refine Ba [1,29,30,31,32,33,34,35,36,37,38,39,40,41,42,43,44,45,46] 1 (λv w'=>∃(y:Int)(j:Nat),y≠0/\y*2^j=z/\v=.int .i64 (e+j)/\Hp w [.blk b4 30 [.bool false,.string (ByteArray.mk #[]),.int .i64 0] (0,0),.blk b2 28 [.bool (iN y),.string (iM y)] (0,0)] w') (λv _=>(e+8*a.size+1-intOf v).toNat) ?_ ?_
 .exact⟨y,j,hy,hyz,rfl,hh⟩
 clear hh hb hcut hcn hc hs1 hsz hj hy hyz;rintro ρ2 v w2 ⟨y,j,hy,hyz,rfl,hh⟩;have hj:=Cv hy hyz hzb;obtain⟨hs1,c,hc,hcn⟩:=uL (n:=y.natAbs) Z';have hsz:(sN y.natAbs).size<=10000000:=(by exact adq)
 change (iM y).data.toList[(((iM y).size:Int)-1).toNat]?=some c at hc
 change 1<=(iM y).size at hs1
 change (iM y).size<=_ at hsz
 by_cases hb:y.natAbs % 2=0
 .obtain⟨x,rfl⟩:∃x,y=x*2:=⟨y/2,Z'⟩;have hx:x≠0:=λh=>hy (by rw[h];rfl);have hxz:x*2^(j+1)=z:=by rw[<-hyz,Int.pow_add,Int.mul_assoc,q6 (2^j)];rfl
  have hj2:=Cv hx hxz hzb;have hof:∀w1,Calls prog 156 #[.int .i64 2] w1 λe w'=>e=.returned (.agg #[.bool false,.string (iM 2)])/\Below w1.heap.size w1 w':=λw1=>At 2 w1 Z' Z';have hdv:∀w1,Calls prog 158 #[.agg #[.bool (iN (x*2)),.string (iM (x*2))],.agg #[.bool false,.string (iM 2)]] w1 λe w'=>e=.returned (.tuple #[.agg #[.bool (iN x),.string (iM x)],.agg #[.bool (iN 0),.string (iM 0)],.bool true])/\Below w1.heap.size w1 w':=λw1=>by
   have h2:bN (iM 2)=2:=Ue 2;have h3:(iM 2).size<=10000000:=by rw[Lc];decide
   have:=uI (iN (x*2)) (iM (x*2)) (iM 2) w1 hsz h3 Z';rw[td,h2,show x*2/((2:Nat):Int)=x by omega,show x*2 % ((2:Nat):Int)=0 by omega] at this;exact this
  refine fa ?_;refine SJ (b:=2) rfl rfl Z' U' ?_;refine fa ?_;refine Cd [] [5,6] [0,0,3,7,15,15,15,31] 7 [[(2,none)],[],[(39,some 0),(40,some 1)],[(41,some 2)],[(38,some 3)],[(38,some 3)],[(38,some 3)]] [(6,44),(5,43),(4,42),(3,38),(2,41),(1,40),(0,39)] hh mixed T' Pd rfl (by repeat (first|exact Cb|refine Xa ?_|refine Db ?_)) ?_;refine Vd 1 [_,_] ?_;refine dC (λ_ hj=>hof _) ?_;refine dC (λ_ hj=>hdv _) ?_;refine dmT ?_;refine dex ?_;refine dex ?_;refine dex ?_;refine xa ?_;intro f W hJ hV _;have hb_8:=hJ.bl;obtain⟨v44,v43,v42,v38,v41,v40,v39,_⟩:=hV;replace hh:=hJ.hp;refine Da (Na (aa v44 (aa v43 (aa v42 (aa v38 (aa v41 (aa v40 (aa v39 Ea)))))))) ?_;dsimp only[Bb];clear hJ;refine Jb ?_;intro ws hh;refine⟨⟨x,j+1,hx,hxz,by show Value.int _ _=Value.int _ _;congr 1;omega,hh⟩,by show(e+8*a.size+1-(e+j+1)).toNat<(e+8*a.size+1-(e+j)).toNat;omega, ?_⟩;exact Rc
 have hfin:=wQ (e:=e) (show y.natAbs % 2=1 by omega) hyz;refine fa ?_;refine SJ (b:=2) rfl rfl Z' U' ?_;refine Jb ?_;intro ws hh;refine CA ?_;rw[hfin];exact⟨rfl,hh.below⟩
def fF{e:Int}{x:Dyadic}(w:World)(hx:Dyadic.ofIntWithPrec z (-e)=x)(hz:(iM z).size<=10000000)(h1: -1000000000000<=e)(h2:e<=1000000000000):Calls prog 92 #[.agg #[.bool (iN z),.string (iM z)],.int .i64 e] w λr w'=>r=.returned (.agg #[.bool (nR x).neg,.string (nR x).Qa,.int .i64 (nR x).e])/\Below w.heap.size w w':=by
 have:=Vm (iN z) (iM z) e w hz h1 h2;rw[td,hx] at this;exact this
def Kh(n:Int)(w:World)(h1: -9223372036854775808<=n)(h2:n<=9223372036854775807):Calls prog 91 #[.int .i64 n] w λr w'=>r=.returned (.agg #[.bool (nR (n:Dyadic)).neg,.string (nR (n:Dyadic)).Qa,.int .i64 (nR (n:Dyadic)).e])/\Below w.heap.size w w':=by
 have hh:=Hp.start w;have hsz:(iM n).size<=10000000:=(by rw[Lc];have:Sa n.natAbs<=64:=Dc Z';omega);have hc:=λw1=>fF (z:=n) (e:=0) (x:=(n:Dyadic)) w1 rfl hsz Z' Z';refine da (N:=6) (l:=[.int .i64 n]) func91 rfl rfl (by simp) ?_;refine Jb ?_;intro b2 w2 hh;refine Oa hh (At n _ h1 h2) rfl ?_;intro w4 hh;refine Oa hh (hc _) rfl ?_;intro w5 hh;exact lH
def Mm(a:NR)(w:World)(ha:a.Qa.size<=10000000)(h1: -1000000000000<=a.e)(h2:a.e<=1000000000000):Calls prog 176 #[.agg #[.bool a.neg,.string a.Qa,.int .i64 a.e]] w λr w'=>r=.returned (.agg #[.bool (nR a.ma).neg,.string (nR a.ma).Qa,.int .i64 (nR a.ma).e])/\Below w.heap.size w w':=by
 have hh:=Hp.start w;refine da (N:=8) (l:=[.agg #[.bool a.neg,.string a.Qa,.int .i64 a.e]]) func176 rfl rfl (by simp) ?_;refine Sb ?_;intro b1 w1 hh b2 w2 hh;refine Oa hh (Vm a.neg a.Qa a.e _ ha h1 h2) rfl ?_;intro w7 hh;exact lH
def sf(a:NR)(w:World)(ha:a.Qa.size<=10000000):Calls prog 45 #[.agg #[.bool a.neg,.string a.Qa,.int .i64 a.e]] w λr w'=>r=.returned (.int .i64 a.i.sign)/\Below w.heap.size w w':=by
 have hh:=Hp.start w;refine da (N:=6) (l:=[.agg #[.bool a.neg,.string a.Qa,.int .i64 a.e]]) func45 rfl rfl (by simp) ?_;refine Jb ?_;intro b1 w1 hh;refine Oa hh (aj a.neg a.Qa _ Z') rfl ?_;intro w5 hh;refine fa ?_;exact⟨rfl,hh.below⟩
def RD(a:NR)(n:Int)(w:World)(ha:a.Qa.size<=10000000)(h1: -100000000000<=a.e)(h2:a.e<=100000000000)(h3: -100000000000<=n)(h4:n<=100000000000):Calls prog 36 #[.agg #[.bool a.neg,.string a.Qa,.int .i64 a.e],.int .i64 n] w λr w'=>r=.returned (.agg #[.bool (nR (a.ma*Ie n)).neg,.string (nR (a.ma*Ie n)).Qa,.int .i64 (nR (a.ma*Ie n)).e])/\Below w.heap.size w w':=by
 have hh:=Hp.start w;have e1:Dyadic.ofIntWithPrec (iv a.neg a.Qa) (-(a.e+n))=a.ma*Ie n:=(by rw[Int.neg_add];exact ED _ _ _);have hc:=λw1=>Vm a.neg a.Qa (a.e+n) w1 ha Z' Z';rw[e1] at hc;refine da (N:=12) (l:=[.agg #[.bool a.neg,.string a.Qa,.int .i64 a.e],.int .i64 n]) func36 rfl rfl (by simp) ?_;refine Sb ?_;intro b2 w2 hh b4 w4 hh;refine Oa hh (hc _) rfl ?_;intro w11 hh;exact lH
def adG(x:Dyadic):Dyadic.ofIntWithPrec (nR x).i (-(nR x).e)=x:=Za x
def lY{u v:NR}(h:u.e=v.e+k):Dyadic.ofIntWithPrec (u.i*2^k+v.i) (-v.e)=u.ma+v.ma:=by
 rw[<-Tr];congr 1;have:=Mo u.i (-u.e) k;rw[show -u.e+(k:Int)= -v.e by omega] at this;exact this
def Hx{u v:NR}(hk:u.e=v.e+k)(hu:u.Qa.size<=1000000)(hv:v.Qa.size<=1000000)(hk2:k<=40000000)(h1: -100000000000<=v.e)(h2:v.e<=100000000000):(∀w,Calls prog 187 #[.agg #[.bool u.neg,.string u.Qa],.int .i64 (u.e-v.e)] w λe w'=>e=.returned (.agg #[.bool (iN (u.i*2^k)),.string (iM (u.i*2^k))])/\Below w.heap.size w w')/\(∀w,Calls prog 186 #[.agg #[.bool (iN (u.i*2^k)),.string (iM (u.i*2^k))],.agg #[.bool v.neg,.string v.Qa]] w λe w'=>e=.returned (.agg #[.bool (iN (u.i*2^k+v.i)),.string (iM (u.i*2^k+v.i))])/\Below w.heap.size w w')/\
  ∀w,Calls prog 92 #[.agg #[.bool (iN (u.i*2^k+v.i)),.string (iM (u.i*2^k+v.i))],.int .i64 v.e] w λr w'=>r=.returned (.agg #[.bool (nR (u.ma+v.ma)).neg,.string (nR (u.ma+v.ma)).Qa,.int .i64 (nR (u.ma+v.ma)).e])/\Below w.heap.size w w':=by
 have hb1:Sa (u.i*2^k).natAbs<=8000000+k:=(by rw[U8,X7];have:=Xg u.i.natAbs k;have h3:=mh u.neg u.Qa;unfold NR.i at this |-;exact N_ this Z');have hb2:=mh v.neg v.Qa;have hb3:=Wl (u.i*2^k) v.i;refine⟨λw=> ?_,λw=> ?_,λw=> ?_⟩
 .rw[show u.e-v.e=k by omega];exact eI u.neg u.Qa k w Z' Z'
 .have:=Mn (iN (u.i*2^k)) v.neg (iM (u.i*2^k)) v.Qa w (by rw[Lc];omega) Z';rw[td] at this;exact this
 exact fF w (lY hk) (by rw[Lc];unfold NR.i at hb1 hb3 |-;omega) Z' Z'
def PE(a b:NR)(w:World)(ha:a.ok)(hb:b.ok):Calls prog 108 #[.agg #[.bool a.neg,.string a.Qa,.int .i64 a.e],.agg #[.bool b.neg,.string b.Qa,.int .i64 b.e]] w λr w'=>r=.returned (.agg #[.bool (nR (a.ma+b.ma)).neg,.string (nR (a.ma+b.ma)).Qa,.int .i64 (nR (a.ma+b.ma)).e])/\Below w.heap.size w w':=by
 have hh:=Hp.start w;obtain⟨ha1,ha2,ha3⟩:=ha;obtain⟨hb1,hb2,hb3⟩:=hb;obtain⟨_,fa1,fa2,fa3⟩:=al (a:=a) ⟨ha1,ha2,ha3⟩;obtain⟨_,fb1,fb2,fb3⟩:=al (a:=b) ⟨hb1,hb2,hb3⟩;have hsg:∀x:Dyadic,(nR x).i.sign=0↔x=0:=λx=>by
  rw[n6];constructor
  .intro h;rw[<-adG x,h,Zh]
  intro h;rw[h];rfl
 by_cases h0:a.ma=0
 .have hs0:=(hsg a.ma).2 h0;refine mM ?_;refine Dm ?_;intro b2 w2 hh b3 w3 hh b4 w4 hh;refine oL ?_;refine Vd 2 [_,_,_] ?_;refine VM ?_;refine Vd 1 [_,_,_] ?_;refine xa ?_;intro f W hJ hV;have hb_1:=hJ.bl;obtain⟨v7,v6,v5,_⟩:=hV;replace hh:=hJ.hp;refine eB ?_;dsimp only[Bb];clear hJ;refine bL ?_;intro w8 hh;refine Sb ?_;intro ws hh ws hh;refine Oa hh (sf (nR a.ma) _ Z') rfl ?_;intro w10 hh;refine Jb ?_;intro ws hh;refine CA ?_;rw[h0,M7];exact⟨rfl,hh.below⟩
 have hs0:¬(nR a.ma).i.sign=0:=λh=>h0 ((hsg a.ma).1 h);by_cases h1:b.ma=0
 .have hs1:=(hsg b.ma).2 h1;refine mM ?_;refine Dm ?_;intro b2 w2 hh b3 w3 hh b4 w4 hh;refine oL ?_;refine Vd 2 [_,_,_] ?_;refine VM ?_;refine Vd 1 [_,_,_] ?_;refine xa ?_;intro f W hJ hV;have hb_1:=hJ.bl;obtain⟨v7,v6,v5,_⟩:=hV;replace hh:=hJ.hp;refine eB ?_;dsimp only[Bb];clear hJ;refine bL ?_;intro w8 hh;refine Sb ?_;intro ws hh ws hh;refine Oa hh (sf (nR a.ma) _ Z') rfl ?_;intro w10 hh;refine fa ?_;refine Oa hh (sf (nR b.ma) _ Z') rfl ?_;intro w14 hh;refine Jb ?_;intro ws hh;refine CA ?_;rw[h1,S7];exact⟨rfl,hh.below⟩
 have hs1:¬(nR b.ma).i.sign=0:=λh=>h1 ((hsg b.ma).1 h);by_cases hlt:(nR a.ma).e<(nR b.ma).e
 .obtain⟨k,hk⟩:∃k:Nat,(nR b.ma).e=(nR a.ma).e+k:=⟨((nR b.ma).e-(nR a.ma).e).toNat,Z'⟩;obtain⟨hshl,hpl,hmk⟩:=Hx hk fb1 fa1 Z' Z' Z';rw[Za,Za,Dyadic.add_comm] at hmk;refine mM ?_;refine Dm ?_;intro b2 w2 hh b3 w3 hh b4 w4 hh;refine oL ?_;refine Vd 2 [_,_,_] ?_;refine VM ?_;refine Vd 1 [_,_,_] ?_;refine xa ?_;intro f W hJ hV;have hb_1:=hJ.bl;obtain⟨v7,v6,v5,_⟩:=hV;replace hh:=hJ.hp;refine eB ?_;dsimp only[Bb];clear hJ;refine bL ?_;intro w8 hh;refine Sb ?_;intro ws hh ws hh;refine Oa hh (sf (nR a.ma) _ Z') rfl ?_;intro w10 hh;refine fa ?_;refine Oa hh (sf (nR b.ma) _ Z') rfl ?_;intro w14 hh;refine Sb ?_;intro ws hh ws hh;exact aaT
 obtain⟨k,hk⟩:∃k:Nat,(nR a.ma).e=(nR b.ma).e+k:=⟨((nR a.ma).e-(nR b.ma).e).toNat,Z'⟩;obtain⟨hshl,hpl,hmk⟩:=Hx hk fa1 fb1 Z' Z' Z';rw[Za,Za] at hmk;refine mM ?_;refine Dm ?_;intro b2 w2 hh b3 w3 hh b4 w4 hh;refine oL ?_;refine Vd 2 [_,_,_] ?_;refine VM ?_;refine Vd 1 [_,_,_] ?_;refine xa ?_;intro f W hJ hV;have hb_1:=hJ.bl;obtain⟨v7,v6,v5,_⟩:=hV;replace hh:=hJ.hp;refine eB ?_;dsimp only[Bb];clear hJ;refine bL ?_;intro w8 hh;refine Sb ?_;intro ws hh ws hh;refine Oa hh (sf (nR a.ma) _ Z') rfl ?_;intro w10 hh;refine fa ?_;refine Oa hh (sf (nR b.ma) _ Z') rfl ?_;intro w14 hh;refine fa ?_;exact aaT
def Sz.pow{x:Dyadic}(h:Sz k x)(n:Nat):Sz (1+k*n) (x^n):=by
 induction n with
 |zero=>rw[p7];exact Sz.one
 |succ n ih=>rw[U5];exact(ih.mul h).mono (by rw[O8];omega)
def D(m e:Int):Dyadic:=Dyadic.ofIntWithPrec m (-e)
def MY{m e:Int}(hm:m.natAbs<256)(h1: -16<=e)(h2:e<=16):Sz 24 (D m e):=by
 have:=Sz.raw (a:=⟨iN m,iM m,e⟩) (m:=8) (E:=16) (by show 8*(iM m).size<=8;rw[Lc];have:Sa m.natAbs<=8:=Dc hm;omega) h1 h2;rw[NR.ma,NR.i,td] at this;exact this
def agx(most far:Int)(l:List NR):Bool:=l.any λa=>decide (most<a.Qa.size\/a.e< -far\/far<a.e)
open Go.ChangeShapes Go.WideShapes Go.ChangeAt Go.RowKit Go.ChangeMaps
variable {W:World}{base fuel:Nat}{cs:List Value}
set_option maxRecDepth 100000 in
def Jo{H:Type}{enc:TypeId×Value->H}{sp:Nat->Bool}{held:Bool}{x:DataW H×List MemPlace}(h:DataW.trod enc prog W base sp held fuel 30 cs=some x):
  ∃a:NR,cs=a.cells/\(Lit.int .i64 a.e).wf=true:=by
 have c1:prog.cellsOf 30=3:=by kernel_rfl
 have c2:prog.cellsOf 28=2:=by kernel_rfl
 have c3:prog.cellsOf 4=1:=by kernel_rfl
 have c4:prog.cellsOf 9=1:=by kernel_rfl
 have c5:prog.cellsOf 3=1:=by kernel_rfl
 obtain⟨y0,y1,n,_,hl,h0,h1⟩:=trod_struct2 Tryz.underlying30 h;obtain⟨z0,z1,n2,_,hl2,h00,h01⟩:=trod_struct2 Tryz.underlying28 h0;obtain⟨b,e0,_⟩:=DataW.trod_bool Tryz.underlying4 h00;obtain⟨s,e1,_,hs⟩:=DataW.trod_string Tryz.underlying9 h01;obtain⟨z,e2,_,hz⟩:=DataW.trod_int Tryz.underlying3 h1;rw[c1] at hl
 match cs,hl with
 |[x0,x1,x2],_=>
  simp only[c2,c3,c4,c5] at e0 e1 e2;simp at e0 e1 e2;subst e0 e1 e2;exact⟨⟨b,s,z⟩,rfl,hz⟩
variable {b0:Nat}
set_option maxRecDepth 100000 in
def QU{H:Type}{enc:TypeId×Value->H}{r:Reach}{sp:Nat->Bool}{held:Bool}{v:Value}{d:DataW H}{ps:List MemPlace} (hval:Value.okWide prog W r b0 30 v)(hd:DataW.Trod enc prog W base sp held 30 v d ps):∃a:NR,v=.agg #[.bool a.neg,.string a.Qa,.int .i64 a.e]/\ -9223372036854775808<=a.e/\a.e<=9223372036854775807:=by
 obtain⟨cs,rfl,_⟩:=okWide_struct Tryz.underlying30 hval;obtain⟨fuel,hf⟩:=hd;obtain⟨a,h1,h2⟩:=Jo hf;refine⟨a, ?_,bounds_i64 h2⟩;have h3:cs.toList=a.cells:=h1;rw[<-Array.toList_inj.1 (show cs.toList=(#[.bool a.neg,.string a.Qa,.int .i64 a.e]:Array Value).toList from h3)]
def DF(h:laidMetH prog Rows.ratioEnclosesRow.laid W):Sc W:=by
 rw[MakeChecks.laidMetH_plain _ _ _ T'] at h;obtain⟨ps,⟨g,t,cs,fuel,p,q,hg,ht,hv,hd,_,_⟩,_,_⟩:=h;obtain rfl:=L_ ((show prog.globalNamed "math/bits.deBruijn64tab" =some 0 by kernel_rfl).symm.trans hg);obtain rfl:=L_ ((show(prog.globals[0]?).map (·.type)=some 298 by kernel_rfl).symm.trans ht);obtain⟨xs,m,_,ex,_,hl,hel⟩:=DataW.trod_array Tryz.underlying298 hd;have c5:prog.cellsOf 5=1:=by kernel_rfl
 have e3:(xs.map (·.1))=gK.map λn=>.lit (.int .u8 n):=(DataW.agg.inj (Prod.mk.inj ex).1).symm;have hlen:gK.length=64:=by decide
 intro r u hu;have hr:r<64:=(by have:=(X_.1 hu).1;rw[Nc] at this;omega);have hE:=hel r hr;rw[c5,I_,D8 Z'] at hE;obtain⟨z,e1,e2,_⟩:=DataW.trod_int Tryz.underlying5 hE;have e4:(xs.map (·.1))[r]?=(gK.map λ(n:Nat)=>(DataW.lit (.int .u8 n):DataW Unit))[r]?:=by rw[e3]
 rw[V_,V_,D8 (by omega:r<xs.length),D8 (by omega:r<gK.length),e2] at e4;have hz:u=.int .u8 z:=(by rw[Kg,V_,D8 (by omega:r<gK.length)] at hu;simp only[M8,S8,DataW.lit.injEq,Lit.int.injEq,true_and] at e4 hu;rw[<-hu,e4]);rw[qe,C_,World.var?_cell hg hv r,hz];have:cs.toList[r]?=some (.int .u8 z):=by
  have h0:((cs.toList.drop r).take 1)[0]?=some (.int .u8 z):=by rw[e1];rfl
  simpa using h0
 simpa using this
variable {α:Type}
def ow{α:Type}{p:Nat->α->Prop}:∀(n:Nat),(∀i,i<n->∃a,p i a)->∃l:List α,l.length=n/\∀i a,l[i]?=some a->p i a
 |0,_=>⟨[],rfl,λi a h=>by simp at h⟩
 |n+1,h=>by
  obtain⟨l,h1,h2⟩:=ow n λi hi=>h i Z';obtain⟨a,ha⟩:=h n Z';refine⟨l++[a],by simp[h1],λi b hb=> ?_⟩;obtain hi|hi:=Y9 i l.length
  .rw[X8 hi] at hb;exact h2 i b hb
  rw[I9 hi] at hb;have h3:i-l.length=0:=by
   obtain h|h:=x8 (i-l.length)
   .exact h
   rw[t_ (by simp;omega)] at hb;cases hb
  rw[h3] at hb;simp only[U6,S8] at hb;subst hb;rw[show i=n by omega];exact ha
variable {P:Program}
def MA{f:α->List Value}{p:α->Prop}{sz:Nat}{t e:TypeId}{H:Type}{enc:TypeId×Value->H}{r:Reach}{sp:Nat->Bool}{held:Bool}{v:Value}{d:DataW H}{ps:List MemPlace} (hf:∀x,(f x).length=sz)(h0:0<sz)(ht:P.underlying t=some (.slice e))(hc:P.cellsOf e=sz)(one:∀fuel cs x,DataW.trod enc P W base sp held fuel e cs=some x->∃a,cs=f a/\p a) (hval:Value.okWide P W r b0 t v)(hd:DataW.Trod enc P W base sp held t v d ps):∃(A:Option Addr)(n c:Nat)(l:List α),v=.slice A n c/\Sl W A n sz (na f l)/\∀a∈l,p a:=by
 obtain⟨a,len,cap,rfl⟩:=okWide_slice ht hval;obtain⟨fuel,hfu⟩:=hd;obtain⟨h1,_⟩|⟨ad,n,cp,m,k,D,Pl,h1,_,h2,h3,hm,_,h5⟩:=Go.Deep.open_slice ht hfu
 .have h1':[Value.slice a len cap]=[.slice none 0 0]:=h1;simp only[V5,Value.slice.injEq,and_true] at h1';obtain⟨rfl,rfl,rfl⟩:=h1';exact⟨none,0,0,[],rfl,Sl.nil W none sz,λ_ h=>by simp at h⟩
 have h1':[Value.slice a len cap]=[.slice (some ad) n cp]:=h1;simp only[V5,Value.slice.injEq,and_true] at h1';obtain⟨rfl,rfl,rfl⟩:=h1';have hnm:len<=m:=by rw[hm];split<;>omega
 obtain⟨l,hl,hp⟩:=ow (p:=λi a=>W.cells? base (ad.add (i*sz)) sz=some (f a)/\p a) len λi hi=>(by exact JZ);refine⟨some ad,len,cap,l,rfl,⟨by rw[ve hf,hl],λ_=>⟨ad,rfl,λj u hu=> ?_⟩⟩,λa ha=> ?_⟩
 .exact adh
 obtain⟨i,hi⟩:=j_.1 ha;exact(hp i a hi).2
def IC(z:Int):List Value:=[.int .i64 z]
def gJ{f:α->List Value}{p:α->Prop}{sz:Nat}{t e:TypeId}{H:Type}{enc:TypeId×Value->H}{sp:Nat->Bool}{held:Bool}{x:DataW H×List MemPlace} (hf:∀x,(f x).length=sz)(h0:0<sz)(ht:P.underlying t=some (.slice e))(hc:P.cellsOf e=sz)(one:∀fuel cs x,DataW.trod enc P W base sp held fuel e cs=some x->∃a,cs=f a/\p a) (hfu:DataW.trod enc P W base sp held fuel t cs=some x):∃(A:Option Addr)(n c:Nat)(l:List α),cs=[.slice A n c]/\Sl W A n sz (na f l)/\∀a∈l,p a:=by
 obtain⟨h1,_⟩|⟨ad,n,cp,m,k,D,Pl,h1,_,h2,h3,hm,_,h5⟩:=Go.Deep.open_slice ht hfu
 .exact⟨none,0,0,[],h1,Sl.nil W none sz,λ_ h=>by simp at h⟩
 have hnm:n<=m:=by rw[hm];split<;>omega
 obtain⟨l,hl,hp⟩:=ow (p:=λi a=>W.cells? base (ad.add (i*sz)) sz=some (f a)/\p a) n λi hi=>(by exact JZ);refine⟨some ad,n,cp,l,h1,⟨by rw[ve hf,hl],λ_=>⟨ad,rfl,λj u hu=> ?_⟩⟩,λa ha=> ?_⟩
 .exact adh
 obtain⟨i,hi⟩:=j_.1 ha;exact(hp i a hi).2
def RO{t e:TypeId}{H:Type}{enc:TypeId×Value->H}{sp:Nat->Bool}{held:Bool}{A:Option Addr}{c:Nat}{x:DataW H×List MemPlace} (ht:P.underlying t=some (.slice e))(hfu:DataW.trod enc P W base sp held fuel t [.slice A n c]=some x):n<=c:=by
 obtain⟨h1,_⟩|⟨ad,n',cp,m,k,D,Pl,h1,_,h2,_⟩:=Go.Deep.open_slice ht hfu
 .injection h1 with h1
  injection h1 with _ e2 e3
  omega
 injection h1 with h1
 injection h1 with _ e2 e3
 omega
def IV{l:List Int}(h:l.all Td=true):ints (l.map XB)=l:=by
 induction l with
 |nil=>rfl
 |cons x l ih=>
  simp only[List.all_cons,Q_] at h;have h1:((XB x).toNat:Int)=x:=by
   have:=Dv h.1;injection this with _ this
   exact this.symm
  have:=ih h.2;simp only[ints,q_,h1];congr 1
def QV{l:List Int}(h:l.all Td=true):Ae (l.map XB)=true:=by
 rw[Ae,u_];intro c hc;obtain⟨x,hx,rfl⟩:=Z_.1 hc;have h1:=u_.1 h x hx;have:=Dv h1;injection this with _ this
 simp only[Td,Q_,K_] at h1;simp only[K_];omega
def pX{a:List UInt8}(h:Ae a=true):(ints a).all Td=true:=by
 rw[u_];intro x hx;obtain⟨c,hc,rfl⟩:=Z_.1 hx;have:=u_.1 h c hc;simp only[K_] at this;simp only[Td,Q_,K_];omega
def qB{f:Int->Int->Int}{a b:List UInt8}{l:List Int}(h:Yi f a b=some l):Ae a=true/\Ae b=true/\b.length=a.length/\l=List.zipWith f (ints a) (ints b):=by
 unfold Yi at h;split at h
 .rename_i hc;simp only[Q_,K_] at hc;injection h with h
  exact⟨hc.1,hc.2.1,Z',h.symm⟩
 cases h
def FY{f:Int->Int->Int}{a b:List UInt8}(h1:Ae a=true)(h2:Ae b=true)(h3:b.length=a.length):Yi f a b=some (List.zipWith f (ints a) (ints b)):=by
 unfold Yi;rw[J' (by simp[h1,h2,h3])]
def Wn{a c:List UInt8}(h:(mulL a c).2=0):Ae a=true/\Ae c=true/\c.length=a.length/\Ae (mulL a c).1=true/\ints (mulL a c).1=List.zipWith (· + ·) (ints a) (ints c):=by
 unfold mulL at h |-;split
 .rename_i l hl;rw[hl] at h;simp only at h |-;obtain⟨h1,h2,h3,h4⟩:=qB hl;by_cases hc:l.all Td=true
  .rw[(Jv hc).1];exact⟨h1,h2,h3,QV hc,by rw[IV hc,h4]⟩
  simp[HY,hc] at h
 rename_i hl;rw[hl] at h;simp at h
def wJ{a c:List UInt8}(h:(mulL a c).2=0):(mulL a c).1.length=a.length:=by
 obtain⟨_,_,h3,_,h5⟩:=Wn h;have:=J_ List.length h5;rw[jd,a7,jd,jd] at this;omega
structure TR where
 m:ByteArray
 c:NR
def TR.cells(t:TR):List Value:=[.string t.m,.bool t.c.neg,.string t.c.Qa,.int .i64 t.c.e]
def TR.len(t:TR):t.cells.length=4:=rfl
def TR.one(t:TR):t.cells.all Value.oneCell'=true:=rfl
def Ah(a b:ByteArray):Bool:=Op.bytesLess a.data.toList b.data.toList
def jr:∀a:List UInt8,Op.bytesLess a a=false
 |[]=>rfl
 |c::a=>by simp[Op.bytesLess,jr a]
def du:∀a b c:List UInt8,Op.bytesLess a b=true->Op.bytesLess b c=true->Op.bytesLess a c=true
 |_,[],[],_,h=>by simp[Op.bytesLess] at h
 |_,_::_,[],_,h=>by simp[Op.bytesLess] at h
 |[],[],_::_,h,_=>by simp[Op.bytesLess] at h
 |_::_,[],_::_,h,_=>by simp[Op.bytesLess] at h
 |[],_::_,_::_,_,_=>rfl
 |x::a,y::b,z::c,h1,h2=>by
  simp only[Op.bytesLess,C7,Q_,K_,R8] at h1 h2 |-;obtain h1|⟨rfl,h1⟩:=h1
  .obtain h2|⟨rfl,h2⟩:=h2
   .exact .inl (UInt8.lt_trans h1 h2)
   exact .inl h1
  obtain h2|⟨rfl,h2⟩:=h2
  .exact .inl h2
  exact .inr ⟨rfl,du a b c h1 h2⟩
def bA:∀a b:List UInt8,Op.bytesLess a b=false->Op.bytesLess b a=false->a=b
 |[],[],_,_=>rfl
 |[],_::_,h,_=>by simp[Op.bytesLess] at h
 |_::_,[],_,h=>by simp[Op.bytesLess] at h
 |x::a,y::b,h1,h2=>(by simp only[Op.bytesLess,Bool.or_eq_false_iff,M5,I6,beq_eq_false_iff_ne] at h1 h2;have e:x=y:=(by have a1:=h1.1;have a2:=h2.1;rw[UInt8.lt_iff_toNat_lt] at a1 a2;exact K6.1 Z');subst e;rw[bA a b (h1.2.resolve_left (λh=>h rfl)) (h2.2.resolve_left (λh=>h rfl))])
def Og(a:ByteArray):Ah a a=false:=jr _
def vj{a b c:ByteArray}(h1:Ah a b=true)(h2:Ah b c=true):Ah a c=true:=du _ _ _ h1 h2
def Ho{a b:ByteArray}(h1:Ah a b=false)(h2:Ah b a=false):a=b:=Cw (bA _ _ h1 h2)
def oU{a b:ByteArray}(h:Ah a b=true):a≠b:=λe=>by rw[e,Og] at h;cases h
def GO{a b:ByteArray}(h:Ah a b=true):Ah b a=false:=by
 cases h2:Ah b a with
 |false=>rfl
 |true=>have:=vj h h2;rw[Og] at this;cases this
def jv(l:List TR):Prop:=l.Pairwise λa b=>Ah a.m b.m=true
def wS(f:ByteArray->Dyadic):List TR->Dyadic
 |[]=>0
 |t::l=>t.c.ma*f t.m+wS f l
def Zn(f:ByteArray->Dyadic)(l k:List TR):wS f (l++k)=wS f l+wS f k:=by
 induction l with
 |nil=>exact(M7 _).symm
 |cons t l ih=>rw[C',wS,wS,ih,Dyadic.add_assoc]
def tY(f:ByteArray->Dyadic)(l:List TR)(t:TR):wS f (l++[t])=wS f l+t.c.ma*f t.m:=by
 rw[Zn,wS,wS,S7]
def ph(l:List TR)(m:ByteArray):Dyadic:=wS (λk=>if k=m then 1 else 0) l
def lf(t:TR)(l:List TR)(m:ByteArray):ph (t::l) m=(if t.m=m then t.c.ma else 0)+ph l m:=by
 show t.c.ma*(if t.m=m then 1 else 0)+ph l m=_;split
 .rw[Dyadic.mul_one]
 rw[W5]
def Yv(m:ByteArray):ph [] m=0:=rfl
def xf(l k:List TR)(m:ByteArray):ph (l++k) m=ph l m+ph k m:=Zn _ _ _
def Kz{l:List TR}{m:ByteArray}(h:∀t∈l,t.m≠m):ph l m=0:=by
 induction l with
 |nil=>rfl
 |cons t l ih=>rw[lf,L' (h t q'),ih λs hs=>h s (F' _ hs),M7]
structure Canon(l:List TR):Prop where
 Eu:jv l
 nz:∀t∈l,t.c.ma≠0
 nf:∀t∈l,t.c=nR t.c.ma
def Gy{t:TR}{l:List TR}(h:Canon (t::l)):Canon l:=⟨(Y8.1 h.Eu).2,λs hs=>h.nz s (F' _ hs),λs hs=>h.nf s (F' _ hs)⟩
def lB{t:TR}{l:List TR}{m:ByteArray}(h:jv (t::l))(hm:m=t.m\/Ah m t.m=true):∀s∈l,s.m≠m:=λs hs e=>by
 have h1:=(Y8.1 h).1 s hs;obtain rfl|hm:=hm
 .rw[e,Og] at h1;cases h1
 have:=vj hm h1;rw[e,Og] at this;cases this
def uj{t:TR}{l:List TR}(h:jv (t::l)):ph (t::l) t.m=t.c.ma:=by
 rw[lf,J' rfl,Kz (lB h (.inl rfl)),S7]
def HA{t:TR}{l:List TR}{m:ByteArray}(h:jv (t::l))(hm:Ah m t.m=true):ph (t::l) m=0:=by
 rw[lf,L' (λe=>oU hm e.symm),Kz (lB h (.inr hm)),M7]
def EG:∀{l k:List TR},Canon l->Canon k->(∀m,ph l m=ph k m)->l=k
 |[],[],_,_,_=>rfl
 |[],t::k,_,hk,h=>(by have:=h t.m;rw[uj hk.Eu,Yv] at this;exact absurd this.symm (hk.nz t q'))
 |t::l,[],hl,_,h=>(by have:=h t.m;rw[uj hl.Eu,Yv] at this;exact absurd this (hl.nz t q'))
 |t::l,s::k,hl,hk,h=>by
  have h1:Ah t.m s.m=false:=by
   cases hb:Ah t.m s.m with
   |false=>rfl
   |true=>
    have:=h t.m;rw[uj hl.Eu,HA hk.Eu hb] at this;exact absurd this (hl.nz t q')
  have h2:Ah s.m t.m=false:=by
   cases hb:Ah s.m t.m with
   |false=>rfl
   |true=>
    have:=h s.m;rw[uj hk.Eu,HA hl.Eu hb] at this;exact absurd this.symm (hk.nz s q')
  have em:=Ho h1 h2;have ed:t.c.ma=s.c.ma:=(by have:=h t.m;rw[uj hl.Eu,em,uj hk.Eu] at this;exact this);have et:t=s:=(by have a:=hl.nf t q';have b:=hk.nf s q';obtain⟨m1,c1⟩:=t;obtain⟨m2,c2⟩:=s;simp only at em ed a b;rw[em,a,b,ed]);subst et;rw[EG (Gy hl) (Gy hk) λm=>by
   have:=h m;rw[lf,lf] at this;grind]
def nh:List TR->TR->List TR
 |[],x=>[⟨x.m,nR x.c.ma⟩]
 |t::l,x=>if Ah t.m x.m=true then t::nh l x else if Ah x.m t.m=true then⟨x.m,nR x.c.ma⟩::t::l else⟨x.m,nR (t.c.ma+x.c.ma)⟩::l
def jN(f:ByteArray->Dyadic):∀(l:List TR)(x:TR),wS f (nh l x)=wS f l+x.c.ma*f x.m
 |[],x=>(by show(nR x.c.ma).ma*f x.m+0=0+_;rw[Za,S7,M7])
 |t::l,x=>by
  unfold nh;split
  .rw[wS,jN f l x,wS,Dyadic.add_assoc]
  split
  .rw[wS,wS,Za,Dyadic.add_comm]
  rename_i h1 h2;have e:t.m=x.m:=Ho (by simpa using h1) (by simpa using h2);rw[wS,wS,Za,e];grind
def dx:∀{l:List TR}{x t:TR},t∈nh l x->t∈l\/t.m=x.m
 |[],x,t,h=>.inr (by rw[T_.1 h])
 |s::l,x,t,h=>by
  unfold nh at h;split at h
  .obtain rfl|h:=S_.1 h
   .exact .inl q'
   obtain h|h:=dx h
   .exact .inl (F' _ h)
   exact .inr h
  split at h
  .obtain rfl|h:=S_.1 h
   .exact .inr rfl
   exact .inl h
  obtain rfl|h:=S_.1 h
  .exact .inr rfl
  exact .inl (F' _ h)
def IE:∀{l:List TR}{x:TR},jv l->jv (nh l x)
 |[],x,_=>E5 _ _
 |s::l,x,h=>by
  have h1:=Y8.1 h;unfold nh;split
  .rename_i hs;refine Y8.2 ⟨λt ht=> ?_,IE h1.2⟩;obtain ht|ht:=dx ht
   .exact h1.1 t ht
   rw[ht];exact hs
  split
  .rename_i hs;refine Y8.2 ⟨λt ht=> ?_,h⟩;obtain rfl|ht:=S_.1 ht
   .exact hs
   exact vj hs (h1.1 t ht)
  rename_i a b;have e:s.m=x.m:=Ho (by simpa using a) (by simpa using b);refine Y8.2 ⟨λt ht=> ?_,h1.2⟩;show Ah x.m t.m=true;rw[<-e];exact h1.1 t ht
def rK:∀{l:List TR}{x:TR},(∀t∈l,t.c=nR t.c.ma)->∀t∈nh l x,t.c=nR t.c.ma
 |[],x,_,t,ht=>by rw[T_.1 ht];show nR _=nR (nR _).ma;rw[Za]
 |s::l,x,h,t,ht=>by
  unfold nh at ht;split at ht
  .obtain rfl|ht:=S_.1 ht
   .exact h t q'
   exact rK (λt ht=>h t (F' _ ht)) t ht
  split at ht
  .obtain rfl|ht:=S_.1 ht
   .show nR _=nR (nR _).ma;rw[Za]
   exact h t ht
  obtain rfl|ht:=S_.1 ht
  .show nR _=nR (nR _).ma;rw[Za]
  exact h t (F' _ ht)
def DE:∀(l:List TR)(x:TR),(nh l x).length<=l.length+1
 |[],x=>j' _
 |s::l,x=>by
  have:=DE l x;unfold nh;split
  .rw[E_,E_];omega
  split<;>simp
def fN{k:Nat}:∀{l:List TR}{x:TR},(∀t∈l,Sz k t.c.ma)->Sz k x.c.ma->∀t∈nh l x,Sz (k+1) t.c.ma
 |[],x,_,hx,t,ht=>by rw[T_.1 ht];show Sz _ (nR _).ma;rw[Za];exact hx.mono Z'
 |s::l,x,h,hx,t,ht=>by
  unfold nh at ht;split at ht
  .obtain rfl|ht:=S_.1 ht
   .exact(h t q').mono Z'
   exact fN (λt ht=>h t (F' _ ht)) hx t ht
  split at ht
  .obtain rfl|ht:=S_.1 ht
   .show Sz _ (nR _).ma;rw[Za];exact hx.mono Z'
   exact(h t ht).mono Z'
  obtain rfl|ht:=S_.1 ht
  .show Sz _ (nR _).ma;rw[Za];exact(h s q').add hx
  exact(h t (F' _ ht)).mono Z'
def Jh(l:List TR):List TR:=l.foldl nh []
def Cp(t:TR):Bool:= !decide (t.c.ma=0)
def sa(l:List TR):List TR:=(Jh l).filter Cp
def yh(l:List TR)(x:TR):Jh (l++[x])=nh (Jh l) x:=by unfold Jh;rw[V7];rfl
def Si{P:List α->Prop}(h0:P [])(hs:∀l x,P l->P (l++[x]))(l:List α):P l:=by
 have:∀k:List α,P k.reverse:=λk=>by
  induction k with
  |nil=>exact h0
  |cons x k ih=>rw[D7];exact hs _ _ ih
 have h:=this l.reverse;rwa[u6] at h
def kS(f:ByteArray->Dyadic)(l:List TR):wS f (Jh l)=wS f l:=by
 induction l using Si with
 |h0=>rfl
 |hs l x ih=>rw[yh,jN,ih,tY]
def VO(l:List TR):jv (Jh l):=by
 induction l using Si with
 |h0=>exact S5
 |hs l x ih=>rw[yh];exact IE ih
def xH(l:List TR):∀t∈Jh l,t.c=nR t.c.ma:=by
 induction l using Si with
 |h0=>intro t ht;cases ht
 |hs l x ih=>rw[yh];exact rK ih
def JA(l:List TR):(Jh l).length<=l.length:=by
 induction l using Si with
 |h0=>exact j' _
 |hs l x ih=>rw[yh,Y_];have:=DE (Jh l) x;simp;omega
def yG(l:List TR)(h:∀t∈l,Sz k t.c.ma):∀t∈Jh l,Sz (k+l.length) t.c.ma:=by
 induction l using Si with
 |h0=>intro t ht;cases ht
 |hs l x ih=>
  rw[yh,Y_];exact fN (k:=k+l.length) (ih λt ht=>h t (x9 _ ht)) ((h x (by simp)).mono Z')
def sP(l:List TR):∀t∈Jh l,∃s∈l,s.m=t.m:=by
 induction l using Si with
 |h0=>intro t ht;cases ht
 |hs l x ih=>
  rw[yh];intro t ht;obtain ht|ht:=dx ht
  .obtain⟨s,hs,e⟩:=ih t ht;exact⟨s,x9 _ hs,e⟩
  exact⟨x,by simp,ht.symm⟩
def Oz(f:ByteArray->Dyadic)(l:List TR):wS f (l.filter Cp)=wS f l:=by
 induction l with
 |nil=>rfl
 |cons t l ih=>
  rw[List.filter_cons];by_cases h:t.c.ma=0
  .rw[L' (by unfold Cp;rw[M_ h];decide),ih,wS,h,Dyadic.zero_mul,M7]
  rw[J' (by unfold Cp;rw[O_ h];rfl),wS,wS,ih]
def Vs(f:ByteArray->Dyadic)(l:List TR):wS f (sa l)=wS f l:=(Oz f _).trans (kS f l)
def ku(l:List TR)(m:ByteArray):ph (sa l) m=ph l m:=Vs _ _
def GI{t:TR}(h:Cp t=true):t.c.ma≠0:=λe=>by
 unfold Cp at h;rw[M_ e] at h
 cases h
def Nf(l:List TR):Canon (sa l):=
 ⟨List.Pairwise.filter _ (VO l),λt ht=>GI (j9.1 ht).2,λt ht=>xH l t (j9.1 ht).1⟩
def Vb(l:List TR):(sa l).length<=l.length:=N_ (m6 _ _) (JA l)
def ao{l:List TR}(h:∀t∈l,Sz k t.c.ma):∀t∈sa l,Sz (k+l.length) t.c.ma:=λt ht=>yG l h t (j9.1 ht).1
def Pf{l:List TR}:∀t∈sa l,∃s∈l,s.m=t.m:=λt ht=>sP l t (j9.1 ht).1
def Tt{l k:List TR}(h:Canon k)(hc:∀m,ph k m=ph l m):k=sa l:=EG h (Nf l) λm=>by rw[hc,ku]
def xB{l k:List TR}(hc:∀m,ph k m=ph l m):sa k=sa l:=Tt (Nf k) λm=>by rw[ku,hc]
def xg(k:Nat)(l:List TR):Prop:=∀t∈l,t.c.ok/\Sz k t.c.ma
def xg.mono{l:List TR}(h:xg k l)(hk:k<=j):xg j l:=λt ht=>⟨(h t ht).1,(h t ht).2.mono hk⟩
structure MD(k:Nat)(l L:List TR):Prop where
 Eu:jv L
 co:∀m,ph L m=ph l m
 len:L.length<=l.length
 ok:xg k L
 mem:∀t∈L,∃s∈l,s.m=t.m
def MD.mono{l L:List TR}(h:MD k l L)(hk:k<=j):MD j l L:=⟨h.Eu,h.co,h.len,h.ok.mono hk,h.mem⟩
def MD.self{l:List TR}(h:jv l)(hk:xg k l):MD k l l:=⟨h,λ_=>rfl,j' _,hk,λt ht=>⟨t,ht,rfl⟩⟩
variable {O:List TR}
structure Mg(k:Nat)(xs ys O X Y:List TR):Prop where
 ro:jv O
 rx:jv X
 ry:jv Y
 co:∀m,ph O m+(ph X m+ph Y m)=ph xs m+ph ys m
 bx:∀t∈O,∀s∈X,Ah t.m s.m=true
 hy:∀t∈O,∀s∈Y,Ah t.m s.m=true
 len:O.length+(X.length+Y.length)<=xs.length+ys.length
 oo:xg (k+1) O
 ox:xg k X
 oy:xg k Y
 mo:∀t∈O,∃s∈xs++ys,s.m=t.m
 mx:∀t∈X,t∈xs++ys
 my:∀t∈Y,t∈xs++ys
def Mg.start{xs ys:List TR}(hx:jv xs)(hy:jv ys)(ox:xg k xs)(oy:xg k ys):Mg k xs ys [] xs ys:=
 ⟨S5,hx,hy,λm=>M7 _,λt ht=>(by cases ht),λt ht=>(by cases ht),by simp,λt ht=>(by cases ht),ox,oy,λt ht=>(by cases ht),λt ht=>x9 _ ht,λt ht=>W8 _ ht⟩
def Sw{x:TR}(h:jv O)(hx:∀t∈O,Ah t.m x.m=true):jv (O++[x]):=
 I5.2 ⟨h,E5 _ _,λt ht s hs=>by rw[T_.1 hs];exact hx t ht⟩
def Ex(x:TR)(m:ByteArray):ph [x] m=if x.m=m then x.c.ma else 0:=by rw[lf,Yv,S7]
def Xf{P:α->Prop}{O:List α}{x:α}(h:∀t∈O,P t)(hx:P x):∀t∈O++[x],P t:=λt ht=>by
 obtain ht|ht:=z_.1 ht
 .exact h t ht
 rw[T_.1 ht];exact hx
def Mg.left{xs ys X Y:List TR}{x y:TR}(h:Mg k xs ys O (x::X) (y::Y))(hl:Ah x.m y.m=true):Mg k xs ys (O++[x]) X (y::Y):=by
 obtain⟨ro,rx,ry,co,bx,hby,len,oo,ox,oy,mo,mx,my⟩:=h;have r1:=Y8.1 rx;have r2:=Y8.1 ry;refine⟨Sw ro λt ht=>bx t ht x q',r1.2,ry,λm=> ?_,Xf (λt ht s hs=>bx t ht s (F' _ hs)) λs hs=>r1.1 s hs,Xf hby λs hs=> ?_,by simp at len |-;omega,Xf oo ⟨(ox x q').1,(ox x q').2.mono Z'⟩,λt ht=>ox t (F' _ ht),oy,Xf mo ⟨x,mx x q',rfl⟩,λt ht=>mx t (F' _ ht),my⟩
 .have:=co m;rw[lf x X] at this;rw[xf,Ex];grind
 obtain rfl|hs:=S_.1 hs
 .exact hl
 exact vj hl (r2.1 s hs)
def Mg.right{xs ys X Y:List TR}{x y:TR}(h:Mg k xs ys O (x::X) (y::Y))(hl:Ah y.m x.m=true):Mg k xs ys (O++[y]) (x::X) Y:=by
 obtain⟨ro,rx,ry,co,bx,hby,len,oo,ox,oy,mo,mx,my⟩:=h;have r1:=Y8.1 rx;have r2:=Y8.1 ry;refine⟨Sw ro λt ht=>hby t ht y q',rx,r2.2,λm=> ?_,Xf bx λs hs=> ?_,Xf (λt ht s hs=>hby t ht s (F' _ hs)) λs hs=>r2.1 s hs,by simp at len |-;omega,Xf oo ⟨(oy y q').1,(oy y q').2.mono Z'⟩,ox,λt ht=>oy t (F' _ ht),Xf mo ⟨y,my y q',rfl⟩,mx,λt ht=>my t (F' _ ht)⟩
 .have:=co m;rw[lf y Y] at this;rw[xf,Ex];grind
 obtain rfl|hs:=S_.1 hs
 .exact hl
 exact vj hl (r1.1 s hs)
def Mg.both{xs ys X Y:List TR}{x y:TR}(h:Mg k xs ys O (x::X) (y::Y))(h1:Ah x.m y.m=false)(h2:Ah y.m x.m=false)(hk:k<=3999980):Mg k xs ys (O++[⟨x.m,nR (x.c.ma+y.c.ma)⟩]) X Y:=by
 obtain⟨ro,rx,ry,co,bx,hby,len,oo,ox,oy,mo,mx,my⟩:=h;have r1:=Y8.1 rx;have r2:=Y8.1 ry;have e:=Ho h1 h2;have hz:=(ox x q').2.add (oy y q').2;refine⟨Sw ro λt ht=>bx t ht x q',r1.2,r2.2,λm=> ?_,Xf (λt ht s hs=>bx t ht s (F' _ hs)) λs hs=>r1.1 s hs,Xf (λt ht s hs=>hby t ht s (F' _ hs)) λs hs=> ?_,by simp at len |-;omega,Xf oo ⟨hz.ok Z', ?_⟩,λt ht=>ox t (F' _ ht),λt ht=>oy t (F' _ ht),Xf mo ⟨x,mx x q',rfl⟩,λt ht=>mx t (F' _ ht),λt ht=>my t (F' _ ht)⟩
 .have:=co m;rw[lf y Y,lf x X,<-e] at this;rw[xf,Ex];show ph O m+(if x.m=m then(nR (x.c.ma+y.c.ma)).ma else 0)+(ph X m+ph Y m)=_;rw[Za];grind
 .show Ah x.m s.m=true;rw[e];exact r2.1 s hs
 show Sz _ (nR _).ma;rw[Za];exact hz
def Mg.done{xs ys X Y:List TR}(h:Mg k xs ys O X Y)(hd:X=[]\/Y=[]):MD (k+1) (xs++ys) (O++X++Y):=by
 obtain⟨ro,rx,ry,co,bx,hby,len,oo,ox,oy,mo,mx,my⟩:=h;refine⟨?_,λm=> ?_,by simp at len |-;omega,λt ht=> ?_,λt ht=> ?_⟩
 .rw[l_];refine I5.2 ⟨ro, ?_,λt ht s hs=> ?_⟩
  .obtain rfl|rfl:=hd
   .exact ry
   rw[o_];exact rx
  obtain hs|hs:=z_.1 hs
  .exact bx t ht s hs
  exact hby t ht s hs
 .rw[xf,xf,xf,Dyadic.add_assoc];exact co m
 .obtain ht|ht:=z_.1 ht
  .obtain ht|ht:=z_.1 ht
   .exact oo t ht
   exact⟨(ox t ht).1,(ox t ht).2.mono Z'⟩
  exact⟨(oy t ht).1,(oy t ht).2.mono Z'⟩
 obtain ht|ht:=z_.1 ht
 .obtain ht|ht:=z_.1 ht
  .exact mo t ht
  exact⟨t,mx t ht,rfl⟩
 exact⟨t,my t ht,rfl⟩
def MD.sa{k:Nat}{l L:List TR}(h:MD k l L):((L.filter Cp).map λt=>(⟨t.m,nR t.c.ma⟩:TR))=sa l:=by
 refine Tt ⟨?_,λt ht=> ?_,λt ht=> ?_⟩ λm=> ?_
 .exact List.Pairwise.map _ (λa b hab=>hab) (List.Pairwise.filter _ h.Eu)
 .obtain⟨s,hs,rfl⟩:=Z_.1 ht;show(nR s.c.ma).ma≠0;rw[Za];exact GI (j9.1 hs).2
 .obtain⟨s,hs,rfl⟩:=Z_.1 ht;show nR s.c.ma=nR (nR s.c.ma).ma;rw[Za]
 have e:∀(f:ByteArray->Dyadic)(k:List TR),wS f (k.map λt=>(⟨t.m,nR t.c.ma⟩:TR))=wS f k:=λf k=>by
  induction k with
  |nil=>rfl
  |cons t k ih=>rw[q_,wS,wS,ih];show(nR t.c.ma).ma*f t.m+_=_;rw[Za]
 show wS _ _=_;rw[e,Oz];exact h.co m
def Xz{l:List TR}(h:l.length<2):jv l:=by
 match l,h with
 |[],_=>exact S5
 |[x],_=>exact E5 _ _
variable {ag:Bool}{by' N d:Nat}{zc:List Value}{ro:Mode}{ops:Array Oper}{Q:Kq}{ρ:Rf}{w w0:World}{rest:List Oper}{H:List HE}{ty:TypeId}{pos:String}{af:Array Edge}
def NW(hh:Hp w0 H w){t e:TypeId}{l cp:Operand}{kl kc:IntKind}{L C:Int}{sz:Nat}(hl:ev ρ l=.int kl L)(hc:ev ρ cp=.int kc C)(hL:L=0)(hC:C=(n:Int)) (ht:P.underlying t=some (.slice e))(hte:Dd P e=some (sz,ag,by',zc))(hb:by'*n<=281474976710656)(h63:n<=9223372036854775807)(hN:d<N) (k:∀b w',Hp w0 (.row (some ⟨b,0,none⟩) 0 n e sz []::H) w'->WL ro P N ops Q rest (sc ρ d (.slice (some ⟨b,0,none⟩) 0 n)) w'):
  WL ro P N ops Q (⟨some d,.makeSlice t l cp,ty,pos,af,none⟩::rest) ρ w:=by
 obtain⟨i,z,dd,hi,hd,hz,hs,hby,hzc,_⟩:=bf hte;subst hL;subst hC;subst hs;have hr:=run_make (P:=P) w t e i z ht hi hz kl kc 0 n (W6 _) Z' (by rw[hby,<-m9];omega) Z';simp only[p8,Int.toNat_zero] at hr;refine Ia rfl rfl hN (w':=w.alloc (.cells (madeCells z.cells (n*i.size)) e)) (v:=.slice (some ⟨w.heap.size,0,none⟩) 0 n) ?_ (k _ _ (hh.Aa (show Below w.heap.size w (w.alloc (.cells (madeCells z.cells (n*i.size)) e)) from⟨rfl,rfl,rfl,(World.grownBy_alloc w _ none).size,λj hj=>(World.grownBy_alloc w _ none).block j hj (by simp)⟩) ?_))
 .simp[execOp,hl,hc,hr]
 exact⟨by simp,.inr ⟨w.heap.size,n,madeCells z.cells (n*i.size),rfl,j' _,heap_alloc_new w _,D' _,by unfold maxLen;omega,size_madeCells _ _,by simp⟩⟩
def Li(n sz:Nat)(cs:List Value):VP:=λv W=>∃g:Nat,v=.slice (some ⟨g,0,none⟩) n n/\Sl W (some ⟨g,0,none⟩) n sz cs
def Li.ext{sz:Nat}(v:Value)(w w':World)(h:Li n sz cs v w)(hb:Below w.heap.size w w'):Li n sz cs v w':=let⟨g,h1,h2⟩:=h;⟨g,h1,h2.ext hb⟩
def QX{d:Option Nat}{ty:TypeId}{af:Array Edge}{t e:TypeId}{l cp:Operand}{kl kc:IntKind}{L C:Int}{sz:Nat}{K:Value->World->Prop}(hl:ev ρ l=.int kl L)(hc:ev ρ cp=.int kc C)(hL:L=(n:Int))(hC:C=(n:Int)) (ht:P.underlying t=some (.slice e))(hte:Dd P e=some (sz,ag,by',zc))(hzl:zc.length=sz)(hb:by'*n<=281474976710656)(h63:n<=9223372036854775807) (hk:∀v w2,Li n sz (Qg n zc) v w2->Below w.heap.size w w2->K v w2):OG P ops ⟨d,.makeSlice t l cp,ty,pos,af,none⟩ ρ w K:=by
 obtain⟨i,z,dd,hi,hd,hz,hs,hby,hzc,_⟩:=bf hte;subst hL;subst hC;obtain⟨w',hr,hown,hg⟩:=run_make_full (P:=P) w w.heap.size t e i z sz ht hi hz hs kl kc n (by rw[hby];exact hb) (by unfold maxLen;omega) (j' _);have hzz:(madeCells z.cells (n*sz)).toList=Qg n zc:=(by exact UZ);rw[hzz] at hown;exact Od rfl (w':=w') (v:=.slice (some ⟨w.heap.size,0,none⟩) n n) (by simp[execOp,hl,hc,hr]) (hk _ _ ⟨w.heap.size,rfl,jf hown⟩ ⟨hg.os,hg.tape,hg.output,hg.size,λj hj=>hg.block j hj (by simp)⟩)
def Qx(n:Nat):Qg n [.int .u8 0]=ij (List.replicate n 0):=by
 induction n with
 |zero=>rfl
 |succ n ih=>rw[Qg,ih,B7];rfl
def OM(a:ByteArray):a.toList=a.data.toList:=by
 have key:∀s:ByteArray,s.toList=s.data.toList:=λs=>(by exact adV);exact key a
def Ok(a b:ByteArray):Op.bytesLess a.toList b.toList=Ah a b:=by rw[OM,OM];rfl
def ZW(a b:ByteArray):(!(Op.bytesLess a.toList b.toList||a.toList==b.toList))=Ah b a:=by
 rw[Ok,lT]
 cases h1:Ah a b with
 |true=>rw[GO h1];rfl
 |false=>
  cases h2:Ah b a with
  |true=>rw[O_ (λe=>oU h2 e.symm)];rfl
  |false=>rw[M_ (Ho h1 h2)];rfl
def QT(x y:TR):Int:=if Ah x.m y.m=true then -1 else if Ah y.m x.m=true then 1 else 0
def PJ(x y:TR)(w:World):Calls prog 133 #[.agg #[.string x.m,.bool x.c.neg,.string x.c.Qa,.int .i64 x.c.e],.agg #[.string y.m,.bool y.c.neg,.string y.c.Qa,.int .i64 y.c.e]] w λr w'=>r=.returned (.int .i64 (QT x y))/\Below w.heap.size w w':=by
 have hh:=Hp.start w;refine da (N:=17) (l:=[.agg #[.string x.m,.bool x.c.neg,.string x.c.Qa,.int .i64 x.c.e],.agg #[.string y.m,.bool y.c.neg,.string y.c.Qa,.int .i64 y.c.e]]) func133 rfl rfl (by simp) ?_;refine Sb ?_;intro b2 w2 hh b3 w3 hh;refine Ct rfl rfl U' ?_;refine fa ?_;rw[Ok];unfold QT
 cases h1:Ah x.m y.m with
 |true=>
  refine fa ?_;exact⟨rfl,hh.below⟩
 |false=>
  refine fa ?_;refine pP rfl rfl U' ?_;refine fa ?_;rw[ZW]
  cases h2:Ah y.m x.m with
  |true=>
   refine fa ?_;exact⟨rfl,hh.below⟩
  |false=>
   refine fa ?_;exact⟨rfl,hh.below⟩
def tO(x y:TR)(k:Nat)(w:World)(hT:Sc w)(hx:x.c.ok/\Sz k x.c.ma)(hy:y.c.ok/\Sz k y.c.ma)(hk:k<=3999980):Calls prog 134 #[.agg #[.string x.m,.bool x.c.neg,.string x.c.Qa,.int .i64 x.c.e],.agg #[.string y.m,.bool y.c.neg,.string y.c.Qa,.int .i64 y.c.e]] w λr w'=>r=.returned (.agg #[.string x.m,.bool (nR (x.c.ma+y.c.ma)).neg,.string (nR (x.c.ma+y.c.ma)).Qa,.int .i64 (nR (x.c.ma+y.c.ma)).e])/\Below w.heap.size w w':=by
 have hh:=Hp.start w;have hsum:=λA cc w1 hT1 hS1=>Kf A 2 cc [x.c,y.c] w1 hT1 hS1 (by simpa using⟨hx.1,hy.1⟩) k (by simpa using⟨hx.2,hy.2⟩) Z';rw[show rm ([x.c,y.c].map NR.ma)=x.c.ma+y.c.ma by simp only[q_,G9,Rh]] at hsum;refine da (N:=14) (l:=[.agg #[.string x.m,.bool x.c.neg,.string x.c.Qa,.int .i64 x.c.e],.agg #[.string y.m,.bool y.c.neg,.string y.c.Qa,.int .i64 y.c.e]]) func134 rfl rfl (by simp) ?_;refine Dm ?_;intro b2 w2 hh b3 w3 hh b4 w4 hh;refine Ca 8 [[(2,none)],[(5,some 0)],[(2,none)],[(7,some 2)],[(3,none)],[(9,some 4)],[(8,some 3),(10,some 5)],[(11,some 6)]] [(7,12),(6,11),(5,10),(4,9),(3,8),(2,7),(1,6),(0,5)] hh mixed T' ?_;refine yd ?_;refine xe 2 ?_;refine yd ?_;refine Vd 2 [_,_,_] ?_;refine yd ?_;refine Vd 1 [_,_,_] ?_;refine qq [_,_,_,_,_,_] ?_;refine Va (i:=7) (Is (.agg #[.bool (nR (x.c.ma+y.c.ma)).neg,.string (nR (x.c.ma+y.c.ma)).Qa,.int .i64 (nR (x.c.ma+y.c.ma)).e])) Is.ext ?_ ?_
 .intro ρ1 w1 hj hR;obtain⟨A11,c11,h11,s11⟩:=hR.1;exact Pb rfl (qb ja.out (Ga h11 Fb)) (hsum A11 c11 _ (hT.hp hj.hp) s11) (λ_ _ hq=>⟨_,hq.1,hq.2,rfl⟩)
 refine xa ?_;intro f W hJ hV;have hb_1:=hJ.bl;obtain⟨v12,v11,v10,v9,v8,v7,v6,v5,_⟩:=hV;obtain⟨A11,c11,e11,f11⟩:Rows _ _ _ (f 6) W:=v11;replace hh:=hJ.hp;refine Da (Na (aa v12 (aa e11 (aa v10 (aa v9 (aa v8 (aa v7 (aa v6 (aa v5 Ea))))))))) ?_;dsimp only[Bb];clear e11 hJ;refine Jb ?_;intro ws hh;refine jP (qd rfl (pd (vs:=[_,_,_,_]) ya.out (hh.pb (i:=0) (n:=4) rfl rfl) rfl) Be) ?_;exact⟨rfl,hh.below⟩
def Qb{Q:Kq}{L:Array Bool}{i d:Nat}{op:Op}{ty:TypeId}{af:Array Edge}{v:Value}(hq:NP Q)(hi:ops[i]?=some ⟨some d,op,ty,pos,af,none⟩)(hs:Region.noSelect ops=true)(hf:Region.free .any ops L i=true)(hr:(Region.ready .any ops L).contains i=true) (hv:∀w,(execOp (ev ρ) ⟨some d,op,ty,pos,af,none⟩).run P w=.ok (.value v) w)(hN:d<N)(h:WA P N ops Q fuel (L.setIfInBounds i true) (sc ρ d v) w):WA P N ops Q (fuel+1) L ρ w:=
 ⟨λa hfit=>wpAny_first hi (Region.noSelect_spec hs) (λc a w ⟨ρ',_,hq'⟩=>(hq c ρ' w hq').elim) fuel L a w (Region.free_spec hi hf) (by simpa using hr) (.inl ⟨by simp[Region.wanted],λw=>by rw[hfit.eval];exact hv w⟩) (h.out _ (hfit.put hN v))⟩
def Sl.tail{A:Option Addr}{c:Nat}{x:TR}{X:List TR}(h:Sl w A n 4 (na TR.cells (x::X)))(h0:0<n)(hc:n<=c):Sl w (if c=1 then A else A.map (·.add (1*4))) (n-1) 4 (na TR.cells X):=by
 have:=h.back (l:=1) Z' hc;rw[show(na TR.cells (x::X)).drop (1*4)=na TR.cells X from ig TR.len (x::X) 1] at this;exact this
def wq(A:Option Addr)(n c:Nat)(xs:List TR)(B:Option Addr)(m c2:Nat)(ys:List TR)(k:Nat)(w:World)(hT:Sc w)(hS:Sl w A n 4 (na TR.cells xs))(hS2:Sl w B m 4 (na TR.cells ys))(hc:n<=c)(hc2:m<=c2)(hn:n<=1000000)(hm:m<=1000000)(hk:k<=3999980) (rx:jv xs)(ry:jv ys)(ox:xg k xs)(oy:xg k ys):Calls prog 132 #[.slice A n c,.slice B m c2,.func (.func 133) #[] #[],.func (.func 134) #[] #[]] w λr w'=>∃(L:List TR)(A':Option Addr)(c':Nat),MD (k+1) (xs++ys) L/\r=.returned (.slice A' L.length c')/\Hp w [.row A' L.length c' 72 4 (na TR.cells L)] w':=by
 have hh:=Hp.start w;have hlx:=hS.Fa TR.len U';have hly:=hS2.Fa TR.len U';have hnx:xs.length<=1000000:=Z';have hny:ys.length<=1000000:=Z';refine da (N:=75) (l:=[.slice A n c,.slice B m c2,.func (.func 133) #[] #[],.func (.func 134) #[] #[]]) func132 rfl rfl (by simp) ?_;refine fa ?_;refine NW (n:=(n+m)) hh rfl rfl Z' Z' lb.out ya.out Z' Z' U' ?_;intro b16 w16 hh;refine fa ?_;refine ay [0,1,9,10,17,18,19,20,21,22,23,24,25,26,27,28,29,30,31,32,33,34,35,36,37,38,39,40,41,42,43,44,45,46,47,48,49,50,51,52,53,54,55,56,57,58,59,60,61,62,63,64,65,66,67,68,69] 0 1 9 (λva vb vo w'=>∃(A:Option Addr)(n c:Nat)(X:List TR)(B:Option Addr)(m c2:Nat)(Y:List TR)(O:List TR)(C:Option Addr)(co:Nat),va=.slice A n c/\vb=.slice B m c2/\vo=.slice C O.length co/\n<=c/\m<=c2/\Sl w A n 4 (na TR.cells X)/\Sl w B m 4 (na TR.cells Y)/\Mg k xs ys O X Y/\Hp w [.row C O.length co 72 4 (na TR.cells O)] w') (λva vb _ _=>lenOf va+lenOf vb) ?_ ?_
 .exact⟨A,n,c,xs,B,m,c2,ys,[],some ⟨b16,0,none⟩,n+m,rfl,rfl,rfl,hc,hc2,hS,hS2,Mg.start rx ry ox oy,hh⟩
 clear hh hS hS2 hlx hly hc hc2 hn hm;rintro ρ' va vb vo w' ⟨A,n,c,X,B,m,c2,Y,O,C,co,rfl,rfl,rfl,hc,hc2,hS,hS2,hmg,hh⟩;have hX:=hS.Fa TR.len U';have hY:=hS2.Fa TR.len U';have hlen:=hmg.len;have oX:=Ta TR.one X;have oY:=Ta TR.one Y;by_cases hn:n=0
 .refine fa ?_;refine Gb hh (i:=0) rfl rfl rfl (hS.ext hh.below) lb.out ya.out rfl U' ?one3 Z' Z' U' ?kk3
  case one3=>first|rfl|assumption|exact Pa _|exact oneCells_u8s _
  intro A72 c72 w72 hh;simp only[U_] at hh;refine mL ?_;refine Gb hh (i:=0) rfl rfl rfl (hS2.ext hh.below) lb.out ya.out rfl U' ?one4 Z' Z' U' ?kk4
  case one4=>first|rfl|assumption|exact Pa _|exact oneCells_u8s _
  intro A74 c74 w74 hh;simp only[U_] at hh;refine fa ?_;have hd:=hmg.done (.inl (C8 Z'));exact ael
 by_cases hm:m=0
 .refine fa ?_;refine Gb hh (i:=0) rfl rfl rfl (hS.ext hh.below) lb.out ya.out rfl U' ?one5 Z' Z' U' ?kk5
  case one5=>first|rfl|assumption|exact Pa _|exact oneCells_u8s _
  intro A72 c72 w72 hh;simp only[U_] at hh;refine mL ?_;refine Gb hh (i:=0) rfl rfl rfl (hS2.ext hh.below) lb.out ya.out rfl U' ?one6 Z' Z' U' ?kk6
  case one6=>first|rfl|assumption|exact Pa _|exact oneCells_u8s _
  intro A74 c74 w74 hh;simp only[U_] at hh;refine fa ?_;have hd:=hmg.done (.inr (C8 Z'));exact ael
 obtain⟨x,X,rfl⟩:∃x X',X=x::X':=by cases X with
  |nil=>exact absurd hX.symm hn
  |cons x X'=>exact⟨x,X',rfl⟩
 obtain⟨y,Y,rfl⟩:∃y Y',Y=y::Y':=by cases Y with
  |nil=>exact absurd hY.symm hm
  |cons y Y'=>exact⟨y,Y',rfl⟩
 obtain⟨ad,rfl,hr⟩:=hS.at_ Z';obtain⟨ad2,rfl,hr2⟩:=hS2.at_ Z';have hxx:(x::X)[0]?=some x:=rfl;have hyy:(y::Y)[0]?=some y:=rfl;have hSt:=hS.tail Z' hc;have hSt2:=hS2.tail Z' hc2;have hsd:=λw1=>PJ x y w1;unfold QT at hsd
 cases h1:Ah x.m y.m with
 |true=>
  rw[h1,J' rfl] at hsd;refine fa ?_;refine iT ?_;refine AX ?_;refine De ?_;refine jj (0) ?_;refine Dn [_,_,_,_] (λ_ hj=>(hr.ext hj.hp.below).recAt TR.len hxx) ?_;refine De ?_;refine jj (0) ?_;refine Dn [_,_,_,_] (λ_ hj=>(hr2.ext hj.hp.below).recAt TR.len hyy) ?_;refine xa ?_;intro f W hJ hV;have hb_3:=hJ.bl;obtain⟨v31,v30,v29,v28,v27,v26,v25,_⟩:=hV;replace hh:=hJ.hp;refine fV ?_;dsimp only[Bb];clear hJ;refine qi (hsd _) ja.out rfl rfl U' ?_;rintro e_ w32 ⟨rfl,hb_⟩;refine⟨_,rfl, ?_⟩;replace hh:=hh.ext hb_;refine fa ?_;refine Ko hh mixed λw_ hj_=> ?_;replace hh:=hj_.hp;clear hj_;refine Qb (i:=6) (by repeat (first|exact Cb|refine Xa ?_|refine Db ?_|refine np_scope ?_)) rfl T' T' T' (λ_=>Jc rfl) U' ?_;refine Qb (i:=7) (by repeat (first|exact Cb|refine Xa ?_|refine Db ?_|refine np_scope ?_)) rfl T' T' T' (λ_=>Yf (l:=1) lb.out ya.size rfl rfl Z' Z' Z') U' ?_;refine Qb (i:=0) (by repeat (first|exact Cb|refine Xa ?_|refine Db ?_|refine np_scope ?_)) rfl T' T' T' (λ_=>Jc rfl) U' ?_
  refine Qb (i:=1) (by repeat (first|exact Cb|refine Xa ?_|refine Db ?_|refine np_scope ?_)) rfl T' T' T' (λ_=>Jc rfl) U' ?_;refine Qb (i:=2) (by repeat (first|exact Cb|refine Xa ?_|refine Db ?_|refine np_scope ?_)) rfl T' T' T' (λ_=>lg (k:=0) lb.out ya.size rfl rfl Z' Z') U' ?_;refine ze (i:=3) T' rfl ?_;refine SQ ?_;refine Yc ?_;refine ze (i:=4) T' rfl ?_;refine rF ?_;intro b55 w55 hh;refine Yc ?_;refine ze (i:=5) T' rfl ?_;refine Vr ?_;intro A56 c56 w56 hh;simp only[U_,F_] at hh;replace hh:=hh.sub (s_ _ _);refine Yc ?_;refine Sg 8 U' T' U' T' T' ?_;refine fa ?_;replace hh:=hh.sub (I' _ H_);refine⟨⟨_,n-1,c-1,X,some ad2,m,c2,y::Y,O++[x],A56,c56,rfl,rfl, ?_,Z',hc2,hSt,hS2,hmg.left h1, ?_⟩,by show(n-1)+m<n+m;omega, ?_⟩
  .show Value.slice _ (O.length+1) _=Value.slice _ (O++[x]).length _;rw[Y_];rfl
  .rw[Y_,La];exact hh
  exact Rc
 |false=>
  cases h2:Ah y.m x.m with
  |true=>
   rw[h1,h2,L' U',J' rfl] at hsd;refine fa ?_;refine iT ?_;refine AX ?_;refine De ?_;refine jj (0) ?_;refine Dn [_,_,_,_] (λ_ hj=>(hr.ext hj.hp.below).recAt TR.len hxx) ?_;refine De ?_;refine jj (0) ?_;refine Dn [_,_,_,_] (λ_ hj=>(hr2.ext hj.hp.below).recAt TR.len hyy) ?_;refine xa ?_;intro f W hJ hV;have hb_3:=hJ.bl;obtain⟨v31,v30,v29,v28,v27,v26,v25,_⟩:=hV;replace hh:=hJ.hp;refine fV ?_;dsimp only[Bb];clear hJ;refine qi (hsd _) ja.out rfl rfl U' ?_;rintro e_ w32 ⟨rfl,hb_⟩;refine⟨_,rfl, ?_⟩;replace hh:=hh.ext hb_;refine fa ?_;refine Ko hh mixed λw_ hj_=> ?_;replace hh:=hj_.hp;clear hj_;refine Qb (i:=6) (by repeat (first|exact Cb|refine Xa ?_|refine Db ?_|refine np_scope ?_)) rfl T' T' T' (λ_=>Jc rfl) U' ?_;refine Qb (i:=7) (by repeat (first|exact Cb|refine Xa ?_|refine Db ?_|refine np_scope ?_)) rfl T' T' T' (λ_=>Yf (l:=1) lb.out ya.size rfl rfl Z' Z' Z') U' ?_;refine Qb (i:=0) (by repeat (first|exact Cb|refine Xa ?_|refine Db ?_|refine np_scope ?_)) rfl T' T' T' (λ_=>Jc rfl) U' ?_
   refine Qb (i:=1) (by repeat (first|exact Cb|refine Xa ?_|refine Db ?_|refine np_scope ?_)) rfl T' T' T' (λ_=>Jc rfl) U' ?_;refine Qb (i:=2) (by repeat (first|exact Cb|refine Xa ?_|refine Db ?_|refine np_scope ?_)) rfl T' T' T' (λ_=>lg (k:=0) lb.out ya.size rfl rfl Z' Z') U' ?_;refine ze (i:=3) T' rfl ?_;refine KT ?_;refine Yc ?_;refine ze (i:=4) T' rfl ?_;refine rF ?_;intro b66 w66 hh;refine Yc ?_;refine ze (i:=5) T' rfl ?_;refine Vr ?_;intro A67 c67 w67 hh;simp only[U_,F_] at hh;replace hh:=hh.sub (s_ _ _);refine Yc ?_;refine Sg 8 U' T' U' T' T' ?_;refine fa ?_;replace hh:=hh.sub (I' _ H_);refine⟨⟨some ad,n,c,x::X,_,m-1,c2-1,Y,O++[y],A67,c67,rfl,rfl, ?_,hc,Z',hS,hSt2,hmg.right h2, ?_⟩,by show n+(m-1)<n+m;omega, ?_⟩
   .show Value.slice _ (O.length+1) _=Value.slice _ (O++[y]).length _;rw[Y_];rfl
   .rw[Y_,La];exact hh
   exact Rc
  |false=>
   rw[h1,h2,L' U',L' U'] at hsd;have hsm:=λw1 hT1=>tO x y k w1 hT1 (hmg.ox x q') (hmg.oy y q') hk;refine fa ?_;refine iT ?_;refine AX ?_;refine De ?_;refine jj (0) ?_;refine Dn [_,_,_,_] (λ_ hj=>(hr.ext hj.hp.below).recAt TR.len hxx) ?_;refine De ?_;refine jj (0) ?_;refine Dn [_,_,_,_] (λ_ hj=>(hr2.ext hj.hp.below).recAt TR.len hyy) ?_;refine xa ?_;intro f W hJ hV;have hb_3:=hJ.bl;obtain⟨v31,v30,v29,v28,v27,v26,v25,_⟩:=hV;replace hh:=hJ.hp;refine fV ?_;dsimp only[Bb];clear hJ;refine qi (hsd _) ja.out rfl rfl U' ?_;rintro e_ w32 ⟨rfl,hb_⟩;refine⟨_,rfl, ?_⟩;replace hh:=hh.ext hb_;refine fa ?_;refine Ko hh mixed λw_ hj_=> ?_;replace hh:=hj_.hp;clear hj_;refine Qb (i:=11) (by repeat (first|exact Cb|refine Xa ?_|refine Db ?_|refine np_scope ?_)) rfl T' T' T' (λ_=>Jc rfl) U' ?_;refine Qb (i:=12) (by repeat (first|exact Cb|refine Xa ?_|refine Db ?_|refine np_scope ?_)) rfl T' T' T' (λ_=>Yf (l:=1) lb.out ya.size rfl rfl Z' Z' Z') U' ?_;refine Qb (i:=13) (by repeat (first|exact Cb|refine Xa ?_|refine Db ?_|refine np_scope ?_)) rfl T' T' T' (λ_=>Jc rfl) U' ?_
   refine Qb (i:=14) (by repeat (first|exact Cb|refine Xa ?_|refine Db ?_|refine np_scope ?_)) rfl T' T' T' (λ_=>Yf (l:=1) lb.out ya.size rfl rfl Z' Z' Z') U' ?_;refine Qb (i:=0) (by repeat (first|exact Cb|refine Xa ?_|refine Db ?_|refine np_scope ?_)) rfl T' T' T' (λ_=>Jc rfl) U' ?_;refine Qb (i:=1) (by repeat (first|exact Cb|refine Xa ?_|refine Db ?_|refine np_scope ?_)) rfl T' T' T' (λ_=>Jc rfl) U' ?_;refine Qb (i:=2) (by repeat (first|exact Cb|refine Xa ?_|refine Db ?_|refine np_scope ?_)) rfl T' T' T' (λ_=>Jc rfl) U' ?_;refine Qb (i:=3) (by repeat (first|exact Cb|refine Xa ?_|refine Db ?_|refine np_scope ?_)) rfl T' T' T' (λ_=>lg (k:=0) lb.out ya.size rfl rfl Z' Z') U' ?_;refine Qb (i:=5) (by repeat (first|exact Cb|refine Xa ?_|refine Db ?_|refine np_scope ?_)) rfl T' T' T' (λ_=>Jc rfl) U' ?_;refine Qb (i:=6) (by repeat (first|exact Cb|refine Xa ?_|refine Db ?_|refine np_scope ?_)) rfl T' T' T' (λ_=>lg (k:=0) lb.out ya.size rfl rfl Z' Z') U' ?_;refine Gt (i:=4) (i2:=7) T' rfl rfl ?_ ?_
   .refine SQ ?_;refine Yc ?_;refine ze (i:=7) T' rfl ?_;refine KT ?_;exact nZ
   refine KT ?_;refine Yc ?_;refine ze (i:=4) T' rfl ?_;refine SQ ?_;exact nZ
variable {b b':Nat}
def cq{t:TypeId}{sz c:Nat}{A:Option Addr}{xs:List Value}(h:w.ownsRow b t sz (.slice A n c) n xs)(hb:b'<=b):w.ownsRow b' t sz (.slice A n c) n xs:=
 ⟨h.1,h.2.imp id λ⟨g,cap,cur,h1,h2,h3⟩=>⟨g,cap,cur,h1,N_ hb h2,h3⟩⟩
variable {fz:Nat×Nat}
def Sm{x:HE}(h:x.holds b w)(hb:b'<=b):x.holds b' w:=by
 cases x with
 |blk b t cs fz=>exact⟨N_ hb h.1,h.2⟩
 |row A n c t sz xs=>exact cq h hb
 |ob b o=>exact⟨N_ hb h.1,h.2⟩
variable {H':List HE}
def Hp.perm(h:Hp w0 H w)(hp:H.Perm H'):Hp w0 H' w:=
 ⟨h.below,λx hx=>h.own x (hp.mem_iff.2 hx),(hp.filterMap _).nodup_iff.1 h.nd⟩
def Hp.me(h:Hp w0 H w){i c sz:Nat}{A:Option Addr}{t:TypeId}{xs:List Value}(hi:H[i]?=some (.row A n c t sz xs)):n<=c:=by
 have h1:w.ownsRow w0.heap.size t sz (.slice A n c) n xs:=h.at_ hi;obtain⟨_,h3⟩|⟨g,cap,cur,h2,_,_,h5,_⟩:=h1.2
 .omega
 injection h2 with _ _ e3
 omega
variable {w':World}
def Hp.join{H2:List HE}(h:Hp w0 H w)(h2:Hp w H2 w'):Hp w0 (H2++H) w':=by
 have h':=h.ext h2.below;refine⟨h'.below,λx hx=> ?_, ?_⟩
 .obtain hx|hx:=z_.1 hx
  .exact Sm (h2.own x hx) h.size
  exact h'.own x hx
 rw[N5,List.nodup_append];refine⟨h2.nd,h.nd,λa ha b hb hab=> ?_⟩;subst hab;obtain⟨x,hx,hxa⟩:=z8.1 ha;obtain⟨y,hy,hya⟩:=z8.1 hb;have h3:=Lg (h2.own x hx) hxa;have h4:=Lg (h.own y hy) hya;omega
def BX{o:Oper}{v:Value}(hg:o.guard=none)(hd:o.dst=none) (hr:(execOp (ev ρ) o).run P w=.ok (.value v) w')(k:WL ro P N ops Q rest ρ w'):WL ro P N ops Q (o::rest) ρ w:=
 ⟨λhm a hf=>wpList_plain hg λK hK=>by
  unfold Oper.wp;rw[hf.eval,hr];show K (a.put o.dst v) w';rw[hd];exact hK _ _ (k.Yl hm _ hf),
 λa hf n=>wpListIn_plain hg λK hK=>by
  refine⟨λ_ _=>trivial, ?_⟩;rw[hf.eval,Eo _ hr (λ_ h=>by cases h)];show K (a.put o.dst v) w';rw[hd];exact hK _ _ (k.rn _ hf n)⟩
def Jn{l:List α}{i:Nat}{x:α}(h:l[i]?=some x):l.set i x=l:=by
 obtain⟨h1,rfl⟩:=X_.1 h;exact List.set_getElem_self h1
abbrev Hp.sz{w0 w:World}{H:List HE}(_:Hp w0 H w):Nat:=w.heap.size
variable {t':TypeId}
def II{A:Option Addr}{c sz:Nat}{t:TypeId}{xs:List Value}{cs:Array Value}(h:HE.holds base W (.row A n c t' sz xs))(h3:W.heap[b]?=some (.cells cs t fz))(hne:t'≠t):(HE.row A n c t' sz xs).id≠some b:=by
 intro hid;obtain⟨h1,_⟩|⟨g,cap,cur,h1,_,h4,_⟩:=h.2
 .injection h1 with e1
  subst e1
  cases hid
 injection h1 with e1
 subst e1;obtain rfl:g=b:=L_ hid;rw[h3] at h4;injection h4 with h4
 injection h4 with _ h5
 exact hne h5.symm
variable {w1:World}
def JJ.Qk{L:List HE}{t:TypeId}(hJ:JJ w0 H w W)(hs:Hp w0 H w)(h2:w.heap.size<=b)(h3:W.heap[b]?=some (.cells cs.toArray t (0,0)))(hb:w.heap.size<=w1.heap.size)(hL:Hp w1 L W)(hne:∀x∈L,x.id≠some b):Hp w0 (.blk b t cs (0,0)::(L++H)) W:=by
 have h1:=hs.join (⟨hJ.bl,λx hx=>Sm (hL.own x hx) hb,hL.nd⟩:Hp w L W);refine⟨h1.below,λx hx=> ?_, ?_⟩
 .obtain rfl|hx:=S_.1 hx
  .exact⟨N_ hs.size h2,h3,.inr (j' _)⟩
  exact h1.own x hx
 rw[o7];show(b::(L++H).filterMap HE.id).Nodup;refine I7.2 ⟨λhm=> ?_,h1.nd⟩;obtain⟨y,hy,hyb⟩:=z8.1 hm;obtain hy|hy:=z_.1 hy
 .exact hne y hy hyb
 have:=(Lg (hs.own y hy) hyb).2;omega
def agn(base:Nat)(t:TypeId)(n sz:Nat)(cs:List Value):VP:=λv W=>∃A c,v=.slice A n c/\W.ownsRow base t sz (.slice A n c) n cs
def ago(base:Nat)(t1 t2:TypeId)(n1 s1 n2 s2:Nat)(xs1 xs2:List Value):VP:=λv W=>∃A c B k,v=.agg #[.slice A n1 c,.slice B n2 k]/\W.ownsRow base t1 s1 (.slice A n1 c) n1 xs1/\W.ownsRow base t2 s2 (.slice B n2 k) n2 xs2
structure RX where
 A:Option Addr
 n:Nat
 c:Nat
 ts:List TR
def zk(k:Nat)(l:List TR):VP:=λv W=>∃g:RX,v=.slice g.A g.n g.c/\(g.n<=g.c/\g.ts.length=g.n/\MD k l g.ts/\Sl W g.A g.n 4 (na TR.cells g.ts))
def zk.ext{l:List TR}(v:Value)(w w':World)(h:zk k l v w)(hb:Below w.heap.size w w'):zk k l v w':=let⟨g,h1,h2,h3,h4,h5⟩:=h;⟨g,h1,h2,h3,h4,h5.ext hb⟩
def MD.EV{k1 k2:Nat}{l1 l2 L1 L2 L:List TR}(h1:MD k1 l1 L1)(h2:MD k2 l2 L2)(h:MD k (L1++L2) L)(hk:k<=j):MD j (l1++l2) L:=
 ⟨h.Eu,λm=>by rw[h.co,xf,h1.co,h2.co,xf],by have a:=h.len;have b:=h1.len;have c:=h2.len;rw[Y_] at a |-;omega,h.ok.mono hk,λt ht=>by
  obtain⟨s,hs,e⟩:=h.mem t ht;obtain hs|hs:=z_.1 hs
  .obtain⟨u,hu,e2⟩:=h1.mem s hs;exact⟨u,x9 _ hu,e2.trans e⟩
  obtain⟨u,hu,e2⟩:=h2.mem s hs;exact⟨u,W8 _ hu,e2.trans e⟩⟩
def Lm(k:Nat):∀(N:Nat)(A:Option Addr)(n c:Nat)(l:List TR)(w:World),n<=N->Sc w->Sl w A n 4 (na TR.cells l)->n<=c->n<=1000000->k+n<=3999980->xg k l->
  Calls prog 210 #[.slice A n c,.func (.func 133) #[] #[],.func (.func 134) #[] #[]] w λr w'=>(n<2/\r=.returned (.slice A n c)/\Below w.heap.size w w')\/(2<=n/\∃(L:List TR)(A':Option Addr)(c':Nat),MD (k+n) l L/\r=.returned (.slice A' L.length c')/\Hp w [.row A' L.length c' 72 4 (na TR.cells L)] w')
 |0,A,n,c,l,w,hN,hT,hS,hc,hn,hk,hok=>(by have hh:=Hp.start w;obtain rfl:n=0:=Z';refine da (N:=30) (l:=[.slice A 0 c,.func (.func 133) #[] #[],.func (.func 134) #[] #[]]) func210 rfl rfl (by simp) ?_;refine fa ?_;exact .inl ⟨Z',rfl,hh.below⟩)
 |N+1,A,n,c,l,w,hN,hT,hS,hc,hn,hk,hok=>by
  have hh:=Hp.start w;have hl:=hS.Fa TR.len U';by_cases h2:n<2
  .refine da (N:=30) (l:=[.slice A n c,.func (.func 133) #[] #[],.func (.func 134) #[] #[]]) func210 rfl rfl (by simp) ?_;refine fa ?_;exact .inl ⟨h2,rfl,hh.below⟩
  obtain⟨h,hhalf⟩:∃h,h=n/2:=⟨_,rfl⟩;have hh1:1<=h:=Z';have hh2:h+h<=n:=Z';have hh3:n<=h+h+1:=Z';have hq:((n:Int))/2=(h:Int):=Z';have hS1:=hS.front (m:=h) Z';rw[show(na TR.cells l).take (h*4)=na TR.cells (l.take h) from Ih TR.len l h] at hS1;have hS2:=hS.back (l:=h) Z' hc;rw[show(na TR.cells l).drop (h*4)=na TR.cells (l.drop h) from ig TR.len l h] at hS2;have o1:xg k (l.take h):=λt ht=>hok t (N8 ht);have o2:xg k (l.drop h):=λt ht=>hok t (l6 ht);have rd:∀{A':Option Addr}{n' c':Nat}{l':List TR}{r:Ending}{w1 w':World},Sl w1 A' n' 4 (na TR.cells l')->n'<=c'->xg k l'->((n'<2/\r=.returned (.slice A' n' c')/\Below w1.heap.size w1 w')\/(2<=n'/\∃(L:List TR)(B:Option Addr)(b:Nat),MD (k+n') l' L/\r=.returned (.slice B L.length b)/\Hp w1 [.row B L.length b 72 4 (na TR.cells L)] w'))->∃v,r=.returned v/\Below w1.heap.size w1 w'/\zk (k+n') l' v w':=by
   rintro A' n' c' l' r w1 w' hs hc' ho (⟨h1,rfl,hb⟩|⟨h1,L,B,b,hm,rfl,h3⟩)
   .have e:=hs.Fa TR.len U';exact⟨_,rfl,hb,⟨A',n',c',l'⟩,rfl,hc',e,(MD.self (Xz Z') ho).mono Z',hs.ext hb⟩
   exact⟨_,rfl,h3.below,⟨B,L.length,b,L⟩,rfl,h3.me (i:=0) rfl,rfl,hm,h3.ra (i:=0) rfl⟩
  have ih1:=λw1 (hT1:Sc w1) (hb:Below w.heap.size w w1)=>Lm k N A h c (l.take h) w1 Z' hT1 (hS1.ext hb) Z' Z' Z' o1;have ih2:=λw1 (hT1:Sc w1) (hb:Below w.heap.size w w1)=>Lm k N _ (n-h) (c-h) (l.drop h) w1 Z' hT1 (hS2.ext hb) Z' Z' Z' o2;refine da (N:=30) (l:=[.slice A n c,.func (.func 133) #[] #[],.func (.func 134) #[] #[]]) func210 rfl rfl (by simp) ?_;refine fa ?_;rw[hq];refine Ca 14 [[(0,none)],[(7,none)],[(15,some 0),(16,some 1)],[(1,none)],[(2,none)],[(17,some 2),(18,some 3),(19,some 4)],[(0,none)],[(7,none)],[(21,some 6),(22,some 7)],[(1,none)],[(2,none)],[(23,some 8),(24,some 9),(25,some 10)],[(1,none)],[(2,none)]] [(13,28),(12,27),(11,26),(10,25),(9,24),(8,23),(7,22),(6,21),(5,20),(4,19),(3,18),(2,17),(1,16),(0,15)] hh mixed T' ?_;refine De ?_;refine cd ?_;refine Wa (i:=2) (λρ1 w1 hj hR=>Uw (h:=h) lb.out ya.size (show ρ1 15=Value.slice _ _ _ from hR.1) (show ρ1 16=Value.int _ _ from hR.2.1) Z' Z') ?_;refine AX ?_;refine AX ?_;refine Va (i:=5) (zk (k+h) (l.take h)) (zk.ext) ?_ ?_
  .intro ρ1 w1 hj hR;exact Pb rfl (qb ja.out (Ga (show ρ1 17=Value.slice _ _ _ from hR.1) (Ga (show ρ1 18=Value.func _ _ _ from hR.2.1) (Ga (show ρ1 19=Value.func _ _ _ from hR.2.2.1) Fb)))) (ih1 w1 (hT.hp hj.hp) hj.hp.below) (λ_ _ hq=>rd (hS1.ext hj.hp.below) Z' o1 hq)
  refine De ?_;refine cd ?_;refine Wa (i:=8) (λρ1 w1 hj hR=>Yf (l:=h) lb.out ya.size (show ρ1 21=Value.slice _ _ _ from hR.1) (show ρ1 22=Value.int _ _ from hR.2.1) Z' Z' Z') ?_;refine AX ?_;refine AX ?_;refine Va (i:=11) (zk (k+(n-h)) (l.drop h)) (zk.ext) ?_ ?_
  .intro ρ1 w1 hj hR;exact Pb rfl (qb ja.out (Ga (show ρ1 23=Value.slice _ _ _ from hR.1) (Ga (show ρ1 24=Value.func _ _ _ from hR.2.1) (Ga (show ρ1 25=Value.func _ _ _ from hR.2.2.1) Fb)))) (ih2 w1 (hT.hp hj.hp) hj.hp.below) (λ_ _ hq=>rd (hS2.ext hj.hp.below) Z' o2 hq)
  refine AX ?_;refine AX ?_;refine xa ?_;intro f W hJ hV;have hb_4:=hJ.bl;obtain⟨v28,v27,v26,v25,v24,v23,v22,v21,v20,v19,v18,v17,v16,v15,_⟩:=hV;obtain⟨g20,e20,o20⟩:zk (k+h) (l.take h) (f 5) W:=v20;obtain⟨g26,e26,o26⟩:zk (k+(n-h)) (l.drop h) (f 11) W:=v26;replace hh:=hJ.hp;refine Da (Na (aa v28 (aa v27 (aa e26 (aa v25 (aa v24 (aa v23 (aa v22 (aa v21 (aa e20 (aa v19 (aa v18 (aa v17 (aa v16 (aa v15 Ea))))))))))))))) ?_;dsimp only[Bb];clear e20 e26 hJ;obtain⟨p1,p2,p3,p4⟩:=o20;obtain⟨q1,q2,q3,q4⟩:=o26;have l1:=p3.len;have l2:=q3.len;rw[R_] at l1;rw[M9] at l2;refine qa (wq g20.A g20.n g20.c g20.ts g26.A g26.n g26.c g26.ts (k+(n-h)) _ (hT.hp hh) p4 q4 p1 q1 Z' Z' Z' p3.Eu q3.Eu (p3.ok.mono Z') (q3.ok.mono Z')) ja.out rfl U' ?_;rintro e_ w29 ⟨L,A',c',hm,rfl,h3⟩;refine⟨_,rfl, ?_⟩;replace hh:=hh.join h3;refine fa ?_;refine .inr ⟨Z',L,A',c', ?_,rfl,hh⟩;have:=p3.EV q3 hm (j:=k+n) Z';rwa[P9] at this
def HO{t:TypeId}{sz c p g:Nat}{xs:List Value}(h:w.ownsRow b t sz (.slice (some ⟨g,0,none⟩) n c) n xs)(hp:p<=n):w.ownsRow b t sz (.slice (some ⟨g,0,none⟩) p c) p (xs.take (p*sz)):=by
 have hps:p*sz<=n*sz:=N9 _ hp;have hl:(xs.take (p*sz)).length=p*sz:=by rw[R_,h.1];omega
 refine⟨hl, ?_⟩;obtain⟨h1,_⟩|⟨g',cap,cur,hv,hg,hheap,hmc,hcm,hcur,htake⟩:=h.2
 .cases h1
 injection hv with hA _ hcap
 injection hA with hA
 injection hA with hA
 subst hA;subst hcap;refine .inr ⟨g,c,cur,rfl,hg,hheap,Z',hcm,hcur, ?_⟩;rw[<-htake,List.take_take,C9 hps]
variable {c' ty:Nat}
def gp(hh:Hp w0 H w){t e:TypeId}{s x:Operand}{i c p sz g:Nat}{a:Addr}{xs news:List Value}(hi:H[i]?=some (.row (some ⟨g,0,none⟩) n c e sz xs))(hs:ev ρ s=.slice (some ⟨g,0,none⟩) p c)(hx:ev ρ x=.slice (some a) m c') (hp:p<=n)(hpm:p+m<=c)(hl:news.length=m*sz)(hr:∀j u,news[j]?=some u->w.cell? (a.add j)=some u)(h1:(news.all Value.oneCell')=true)(ht:P.underlying t=some (.slice e))(hte:Dd P e=some (sz,ag,by',zc))(hN:d<N) (k:∀w',Hp w0 (H.set i (.row (some ⟨g,0,none⟩) (p+m) c e sz (xs.take (p*sz)++news))) w'->WL ro P N ops Q rest (sc ρ d (.slice (some ⟨g,0,none⟩) (p+m) c)) w'):
  WL ro P N ops Q (⟨some d,.call ⟨.builtin .append, #[s,x], #[t,t]⟩,ty,pos,af,none⟩::rest) ρ w:=by
 obtain⟨inf,z,dd,hinf,hd,hz,hsz,hby,hzc,_⟩:=bf hte;obtain⟨w',hrun,hown,hg⟩:=run_append_fits (P:=P) w w0.heap.size t ty e inf sz ht hinf hsz g p c _ (HO (hh.at_ hi) hp) a m c' news hl hr (by simpa using h1) hpm;refine Ia rfl rfl hN (w':=w') (v:=.slice (some ⟨g,0,none⟩) (p+m) c) ?_ (k w' (hh.grown hi hg (.inl rfl) hown));simp only[execOp,resolve,invoke,builtin,Sem.run_bind,Sem.run_pure,Result.andThen_ok,List.map_toArray,q_,G9,hs,hx,hrun]
variable {o:Nat}
def fm(hh:Hp w0 H w){t e:TypeId}{x:Operand}{i p c sz g:Nat}{xs:List Value}(hi:H[i]?=some (.row (some ⟨g,0,none⟩) p c e sz xs))(hx:ev ρ x=.slice (some ⟨g,o,none⟩) m c')(ho:p*sz<=o)(hom:o+m*sz<=c*sz)(hm:0<m) (ht:P.underlying t=some (.slice e))(hte:Dd P e=some (sz,ag,by',zc))(hzl:zc.length=sz)(h1:(zc.all Value.oneCell')=true) (k:∀w',Hp w0 H w'->WL ro P N ops Q rest ρ w'):WL ro P N ops Q (⟨none,.call ⟨.builtin .clear, #[x], #[t]⟩,ty,pos,af,none⟩::rest) ρ w:=by
 obtain⟨z,hz,hzc⟩:=ee (w:=w) hte;obtain⟨hlen,h2⟩:=hh.at_ hi;obtain⟨h2,_⟩|⟨g',cap,cur,hv,hg,hheap,hmc,hcm,hcur,htake⟩:=h2
 .cases h2
 injection hv with hA hn hcap
 injection hA with hA
 injection hA with hA
 subst hA;subst hcap;have hcl:cur.size=cur.toList.length:=by simp
 have hzr:(Qg m zc).length=m*sz:=by rw[Zi,hzl]
 have hall:∀v∈Qg m zc,v.oneCell'=true:=λv hv=>(by obtain⟨j,hj⟩:=j_.1 hv;have hj2:=(X_.1 hj).1;rw[Zi] at hj2;rw[QB m zc j hj2] at hj;exact u_.1 h1 v (G' hj));obtain⟨w',hr,hb',hgr,hs⟩:=fh (P:=P) (b:=g) (t:=e) (fz:=(0,0)) o (Qg m zc) 0 cur.toList w (by simpa using hheap) (.inr (j' _)) (by rw[<-hcl,hzr];omega) hall;have hset:=Jn hi;refine BX rfl rfl (w':=w') (v:=.tuple #[]) ?_ (k w' (hset ▸ hh.grown hi hgr (.inl rfl) ⟨hlen,.inr ⟨g,c,(Hb cur.toList (o+0) (Qg m zc)).toArray,rfl,hg,by simpa using hb',hmc,hcm, ?_, ?_⟩⟩))
 .simp only[execOp,resolve,invoke,hx,List.map_toArray,q_,G9];have hzz:Builtin.zeroCells z.cells m=(Qg m zc).toArray:=(by rw[Builtin.zeroCells,hzc,S6];exact jx m zc);obtain⟨q,rfl⟩:∃q,m=q+1:=⟨m-1,Z'⟩;simp[builtin,Builtin.clear_,run_underlying ht,hz,hzz,hr]
 .simp only[S6];rw[Ze (by rw[<-hcl,hzr];omega),<-hcl,hcur]
 simp only[Hb];rw[l_,List.take_append_of_le_length (by rw[R_,<-hcl];omega),List.take_take,C9 Z'];exact htake
variable {ty:TypeId}
def qX{t e u:TypeId}{x y:Operand}{A:Option Addr}{c n':Nat}(ht:P.underlying t=some (.slice e))(hx:ev ρ x=.slice A n c)(hy:ev ρ y=.slice none n' c')(hN:d<N) (kk:WL ro P N ops Q rest (sc ρ d (.bool A.isNone)) w):WL ro P N ops Q (⟨some d,.binOp .eql t x y u,ty,pos,af,none⟩::rest) ρ w:=
 Ia rfl rfl hN (by
  have h1:=Go.Lib.run_eql_slice_nil (P:=P) w t e A n c n' c' ht;simp only[execOp,hx,hy];simp[eqGuard,h1]) kk
def Ix(A:Option Addr)(n c:Nat)(l:List TR)(g:FuncId)(cap:List Value)(p:TR->Bool)(w:World)(hS:Sl w A n 4 (na TR.cells l))(hn:n<=1000000)[ja prog g] (hg:∀(z:TR)(w1:World),z∈l->Below w.heap.size w w1->Calls prog g (.agg #[.string z.m,.bool z.c.neg,.string z.c.Qa,.int .i64 z.c.e]::cap).toArray w1 λr w'=>r=.returned (.bool (p z))/\Below w1.heap.size w1 w'):Calls prog 262 #[.slice A n c,.func (.func g) #[] cap.toArray] w λr w'=>∃v,r=.returned (.int .i64 v)/\((l.any p=false/\v= -1)\/∃(i:Nat)(z:TR),i<n/\v=i/\(l.take i).any p=false/\l[i]?=some z/\p z=true)/\Below w.heap.size w w':=by
 have hh:=Hp.start w;have hln:=hS.Fa TR.len U';refine da (N:=19) (l:=[.slice A n c,.func (.func g) #[] cap.toArray]) func262 rfl rfl (by simp) ?_;refine fa ?_;refine Ba [4,5,8,9,10,11,12,13,14,15,16,17,18] 8 (λv w'=>∃i:Nat,i<=n/\v=.int .i64 i/\(l.take i).any p=false/\Hp w [] w') (λv _=>n-(intOf v).toNat) ?_ ?_
 .exact⟨0,D' _,rfl,rfl,hh⟩
 clear hh;rintro ρ' v w' ⟨i,hi,rfl,hall,hh⟩;by_cases hlt:i<n
 .obtain⟨z,hz⟩:=ea (l:=l) (k:=i) Z';obtain⟨ad,rfl,hr⟩:=hS.at_ Z';have hc:=λw1=>hg z w1 (G' hz)
  cases gz:p z with
  |true=>
   rw[gz] at hc;refine fa ?_;refine wb (vs:=[_,_,_,_]) ya.out rfl ((hr.ext hh.below).recAt TR.len hz) rfl U' ?_;refine uK ?_;rintro e_ w16 ⟨rfl,hb_⟩;refine⟨_,rfl, ?_⟩;replace hh:=hh.ext hb_;refine fa ?_;exact⟨_,rfl,.inr ⟨i,z,hlt,rfl,hall,hz,gz⟩,hh.below⟩
  |false=>
   rw[gz] at hc;refine fa ?_;refine wb (vs:=[_,_,_,_]) ya.out rfl ((hr.ext hh.below).recAt TR.len hz) rfl U' ?_;exact Dw
 rw[W_ Z'] at hall;refine fa ?_;exact⟨_,rfl,.inl ⟨hall,rfl⟩,hh.below⟩
def LI(A:Option Addr)(n c:Nat)(l:List TR)(g:FuncId)(cap:List Value)(p:TR->Bool)(w:World)(hS:Sl w A n 4 (na TR.cells l))(hn:n<=1000000)[ja prog g] (hg:∀(z:TR)(w1:World),z∈l->Below w.heap.size w w1->Calls prog g (.agg #[.string z.m,.bool z.c.neg,.string z.c.Qa,.int .i64 z.c.e]::cap).toArray w1 λr w'=>r=.returned (.bool (p z))/\Below w1.heap.size w1 w'):Calls prog 204 #[.slice A n c,.func (.func g) #[] cap.toArray] w λr w'=>r=.returned (.bool (l.any p))/\Below w.heap.size w w':=by
 have hh:=Hp.start w;refine da (N:=9) (l:=[.slice A n c,.func (.func g) #[] cap.toArray]) func204 rfl rfl (by simp) ?_;refine fa ?_;refine qa (Ix A n c l g cap p _ (hS.ext hh.below) hn hg) ja.out rfl U' ?_;rintro e_ w7 ⟨v_,rfl,hv_,hb_⟩;refine⟨_,rfl, ?_⟩;replace hh:=hh.ext hb_;obtain⟨ha,rfl⟩|⟨i,z,hi,rfl,ht,hz,hp⟩:=hv_
 .rw[ha];refine fa ?_;exact⟨rfl,hh.below⟩
 rw[show l.any p=true from k9.2 ⟨z,G' hz,hp⟩];refine fa ?_;exact⟨rfl,hh.below⟩
def um(A:Option Addr)(n c:Nat)(l:List TR)(w:World)(hS:Sl w A n 4 (na TR.cells l))(hn:n<=1000000):Calls prog 206 #[.slice A n c] w λr w'=>∃A' c',r=.returned (.slice A' n c')/\w'.ownsRow w.heap.size 72 4 (.slice A' n c') n (na TR.cells l)/\Below w.heap.size w w':=by
 have hh:=Hp.start w;have oX:=Ta TR.one l;obtain _|ad:=A
 .have hn0:n=0:=(by exact ack);subst hn0;have hl:l=[]:=C8 (by have:=hS.Fa TR.len U';omega);subst hl;refine da (N:=8) (l:=[.slice none 0 c]) func206 rfl rfl (by simp) ?_;exact VR
 refine da (N:=8) (l:=[.slice (some ad) n c]) func206 rfl rfl (by simp) ?_;refine fa ?_;refine eH ?_;intro b5 w5 hh;refine mL ?_;refine Gb hh (i:=0) rfl rfl rfl (hS.ext hh.below) lb.out ya.out rfl U' ?one7 Z' Z' U' ?kk7
 case one7=>first|rfl|assumption|exact Pa _|exact oneCells_u8s _
 exact tV
def vE{l:List α}{i:Nat}(h:i<j)(x:α):(l.set i x).drop j=l.drop j:=by
 refine V9 λk=> ?_;rw[H8,H8,F9,L' Z']
def Zy{l:List α}{i:Nat}(h:i<l.length)(x:α):(l.set i x).take (i+1)=l.take i++[x]:=by
 rw[oa (show(l.set i x)[i]?=some x by rw[F9,J' rfl,J' h]),List.take_set_of_le (j' _)]
variable {Hr:List HE}
def HH(A:Option Addr)(n c:Nat)(l:List TR)(g:FuncId)(p:TR->Bool)(w:World)(hh:Hp w0 (.row A n c 72 4 (na TR.cells l)::Hr) w)(hl:l.length=n)(hn:n<=1000000)[ja prog g] (hg:∀(z:TR)(w1:World),z∈l->Calls prog g (.agg #[.string z.m,.bool z.c.neg,.string z.c.Qa,.int .i64 z.c.e]::[]).toArray w1 λr w'=>r=.returned (.bool (p z))/\Below w1.heap.size w1 w'):Calls prog 209 #[.slice A n c,.func (.func g) #[] #[]] w λr w'=>r=.returned (.slice A (l.filter λz=> !p z).length c)/\Hp w0 (.row A (l.filter λz=> !p z).length c 72 4 (na TR.cells (l.filter λz=> !p z))::Hr) w':=by
 have hc:=hh.me (i:=0) rfl;have hsl:=hh.ra (i:=0) rfl;refine da (N:=42) (l:=[.slice A n c,.func (.func g) #[] #[]]) func209 rfl rfl (by simp) ?_;refine fa ?_;refine qa (Ix A n c l g [] p _ hsl hn (λz w1 hz _=>hg z w1 hz)) ja.out rfl U' ?_;rintro e_ w10 ⟨v_,rfl,hv_,hb_⟩;refine⟨_,rfl, ?_⟩;replace hh:=hh.ext hb_;obtain⟨ha,rfl⟩|⟨i0,z0,hi0,rfl,ht0,hz0,hp0⟩:=hv_
 .have hf:(l.filter λz=> !p z)=l:=List.filter_eq_self.2 λz hz=>(by have:=p9.1 ha z hz;simpa using this);rw[hf,hl];refine fa ?_;exact⟨rfl,hh⟩
 have hf0:((l.take (i0+1)).filter λz=> !p z)=l.take i0:=(by rw[oa hz0,K7,C5 (by rw[hp0];decide),List.filter_nil,o_];exact List.filter_eq_self.2 λz hz=>(by have:=p9.1 ht0 z hz;simpa using this));obtain⟨g0,rfl⟩:=hh.Ob (i:=0) rfl Z';refine fa ?_;refine Ra [5,6,7,16,17,18,19,20,21,22,23,24,25,26,27,28,29,30,31,32,33,34,35] 5 6 (λv5 v6 w'=>∃(i j:Nat)(X:List TR),i<j/\j<=n/\v5=.int .i64 i/\v6=.int .i64 j/\X.length=n/\i=((l.take j).filter λz=> !p z).length/\X.take i=((l.take j).filter λz=> !p z)/\X.drop j=l.drop j/\Hp w0 (.row (some ⟨g0,0,none⟩) n c 72 4 (na TR.cells X)::Hr) w') (λ_ v _=>n-(intOf v).toNat) ?_ ?_
 .exact⟨i0,i0+1,l,Z',Z',rfl,rfl,hl,by rw[hf0,R_];omega,hf0.symm,rfl,hh⟩
 clear hh;rintro ρ' v5 v6 w' ⟨i,j,X,hij,hj,rfl,rfl,hX,hi,htk,hdr,hh⟩;by_cases hlt:j<n
 .obtain⟨z,hz⟩:=ea (l:=l) (k:=j) Z';have hXj:X[j]?=some z:=by
   have h1:(X.drop j)[0]?=(l.drop j)[0]?:=by rw[hdr]
   rw[H8,H8,q9] at h1;rw[h1,hz]
  have hgz:=λw1=>hg z w1 (G' hz);have hdr2:X.drop (j+1)=l.drop (j+1):=by rw[<-u7,<-u7,hdr]
  have hrl:=ve TR.len X;refine fa ?_;refine wb (vs:=[_,_,_,_]) ya.out rfl (hh.Gd (f:=TR.cells) (x:=z) (l:=X) (i:=0) rfl TR.len U' hXj) rfl U' ?_;refine Sb ?_;intro b7 w7 hh ws hh
  cases hpz:p z with
  |true=>
   rw[hpz] at hgz;have hfl:((l.take (j+1)).filter λz=> !p z)=((l.take j).filter λz=> !p z):=by rw[oa hz,K7,C5 (by rw[hpz];decide),List.filter_nil,o_]
   refine qi (hgz _) ja.out rfl rfl U' ?_;rintro e_ w28 ⟨rfl,hb_⟩;refine⟨_,rfl, ?_⟩;replace hh:=hh.ext hb_;refine fa ?_;replace hh:=hh.sub (p' _ (I' _ (A_ _)));refine⟨⟨i,j+1,X,Z',Z',rfl,rfl,hX,by rw[hfl];exact hi,by rw[hfl];exact htk,hdr2,hh⟩,by show n-(j+1)<n-j;omega, ?_⟩;exact Rc
  |false=>
   rw[hpz] at hgz;have hfl:((l.take (j+1)).filter λz=> !p z)=((l.take j).filter λz=> !p z)++[z]:=by rw[oa hz,K7,List.filter_cons_of_pos (by rw[hpz];decide),List.filter_nil]
   refine qi (hgz _) ja.out rfl rfl U' ?_;rintro e_ w28 ⟨rfl,hb_⟩;refine⟨_,rfl, ?_⟩;replace hh:=hh.ext hb_;refine fa ?_;refine Ab hh (i:=1) (vs:=[_,_,_,_]) rfl rfl (Ld rfl) rfl ya.out rfl Z' rfl ?_;intro ws hh;simp only[U_,F_] at hh;rw[show Hb (na TR.cells X) (i*4) [.string z.m,.bool z.c.neg,.string z.c.Qa,.int .i64 z.c.e]=na TR.cells (X.set i z) from de TR.len Z'] at hh;refine fa ?_;replace hh:=hh.sub (p' _ (I' _ (A_ _)));refine⟨⟨i+1,j+1,X.set i z,Z',Z',rfl,rfl,by rw[U9];exact hX,by rw[hfl,Y_,<-hi];rfl,by rw[hfl,Zy Z',htk],by rw[vE Z'];exact hdr2,hh⟩,by show n-(j+1)<n-j;omega, ?_⟩;exact Rc
 obtain rfl:j=n:=Z';rw[show l.take j=l from W_ Z'] at hi htk;have hcap:=hh.me (i:=0) rfl;have hp31:(if c=i then some (⟨g0,0,none⟩:Addr) else(some (⟨g0,0,none⟩:Addr)).map (·.add (i*4)))=some ⟨g0,i*4,none⟩:=(by rw[L' Z'];show some ((⟨g0,0,none⟩:Addr).add (i*4))=_;rw[qe,C_]);have htt:(na TR.cells X).take (i*4)=na TR.cells (l.filter λz=> !p z):=by rw[Ih TR.len,htk]
 refine fa ?_;refine Ia rfl rfl U' (Ef (l:=i) (h:=j) lb.out ya.size rfl ⟨_,_,rfl,rfl⟩ rfl Z' Z') ?_;rw[hp31];replace hh:=hh.oD (k:=i) Z';rw[htt] at hh;refine fm hh (i:=0) (o:=i*4) (m:=j-i) rfl rfl Z' Z' Z' lb.out ya.out rfl rfl ?_;intro w38 hh;refine fa ?_;refine aR ?_;refine fa ?_;rw[<-hi];exact⟨rfl,hh⟩
variable {ts:List TR}
structure PX where
 v:Int
 A:Option Addr
 n:Nat
 c:Nat
 ts:List TR
def PX.row(g:PX):HE:=.row g.A g.n g.c 72 4 (na TR.cells g.ts)
def PX.at_(g:PX)(w:World):Prop:=Sl w g.A g.n 4 (na TR.cells g.ts)
def PX.at_.ext{g:PX}(h:g.at_ w)(hb:Below w.heap.size w w'):g.at_ w':=Sl.ext h hb
def PX.at_.ln{g:PX}(h:g.at_ w):g.ts.length=g.n:=Sl.Fa h TR.len U'
variable {E:Int}
structure mg(E v:Int)(ts:List TR)(g:PX):Prop where
 v:g.v=if E=0 then v else 0
 ts:g.ts=if E=0 then ts else[]
def PX.nil:PX:=⟨0,none,0,0,[]⟩
def mg.err{v:Int}(h:E≠0):mg E v ts PX.nil:=⟨by rw[L' h];rfl,by rw[L' h];rfl⟩
def Hp.OT(h:Hp w0 H w):Hp w0 (PX.nil.row::H) w:=h.Lb 72 4
def Fz(A:Option Addr)(n c:Nat)(l:List TR)(k:Nat)(w:World)(hT:Sc w)(hh:Hp w0 (.row A n c 72 4 (na TR.cells l)::Hr) w)(hl:l.length=n)(hn:n<=1000000)(hk:k+n<=3999980)(ho:xg k l):Calls prog 210 #[.slice A n c,.func (.func 133) #[] #[],.func (.func 134) #[] #[]] w λr w'=>∃(L:List TR)(A':Option Addr)(c':Nat),MD (k+n) l L/\r=.returned (.slice A' L.length c')/\Hp w0 (.row A' L.length c' 72 4 (na TR.cells L)::Hr) w':=by
 refine(Lm k n A n c l w (j' _) hT (hh.ra (i:=0) rfl) (hh.me (i:=0) rfl) hn hk ho).mono λr w' h=> ?_;obtain⟨h1,rfl,hb⟩|⟨h1,L,A',c',hm,rfl,h3⟩:=h
 .exact⟨l,A,c,(MD.self (Xz Z') ho).mono Z',by rw[hl],by rw[hl];exact hh.ext hb⟩
 refine⟨L,A',c',hm,rfl, ?_⟩;exact(hh.join h3).sub (I' _ (p' _ (A_ _)))
def zeT(t:TR):Bool:=decide (t.c.ma=0)
def bI(l:List TR):(l.filter λz=> !zeT z)=l.filter Cp:=rfl
def TB(z:TR)(w:World):Calls prog 211 #[.agg #[.string z.m,.bool z.c.neg,.string z.c.Qa,.int .i64 z.c.e]] w λr w'=>r=.returned (.bool (zeT z))/\Below w.heap.size w w':=by
 have hh:=Hp.start w;refine da (N:=7) (l:=[.agg #[.string z.m,.bool z.c.neg,.string z.c.Qa,.int .i64 z.c.e]]) func211 rfl rfl (by simp) ?_;refine Jb ?_;intro b1 w1 hh;refine Oa hh (Pc z.c _) rfl ?_;intro w5 hh;have hz:z.c.i.sign=0↔z.c.ma=0:=(by exact acd);unfold zeT;by_cases h0:z.c.ma=0
 .have hs:=hz.2 h0;rw[M_ h0];refine fa ?_;exact⟨rfl,hh.below⟩
 have hs:¬z.c.i.sign=0:=λh=>h0 (hz.1 h);rw[O_ h0];refine fa ?_;exact⟨rfl,hh.below⟩
def Qf(l:List TR):Int:=if 4096<(sa l).length then 3 else 0
def ZF{xs ys:List Value}{v:Value}(h:xs[o]?=some v):Hb xs o (v::ys)=Hb xs (o+1) ys:=by
 unfold Hb;rw[oa h,E_,show o+(ys.length+1)=o+1+ys.length by omega];simp
def nfT(t:TR):TR:=⟨t.m,nR t.c.ma⟩
def Vz{X:List TR}{i:Nat}{z:TR}(h:X[i]?=some z)(y:NR):Hb (na TR.cells X) (i*4+1) [.bool y.neg,.string y.Qa,.int .i64 y.e]=na TR.cells (X.set i ⟨z.m,y⟩):=by
 have h0:(na TR.cells X)[i*4]?=some (.string z.m):=by
  have h1:=zr TR.len h;have h2:(((na TR.cells X).drop (i*4)).take 4)[0]?=some (.string z.m):=by rw[h1];rfl
  rwa[List.getElem?_take_of_lt U',H8,q9] at h2
 rw[<-ZF h0];exact de TR.len (y:=⟨z.m,y⟩) (X_.1 h).1
def Tj(v:Int)(A:Option Addr)(n c:Nat)(l:List TR)(k:Nat)(w:World)(hT:Sc w0)(hh:Hp w0 (.row A n c 72 4 (na TR.cells l)::Hr) w)(hl:l.length=n)(hn:n<=1000000)(hk:k+n<=3999980)(ho:xg k l):Calls prog 135 #[.int .i64 v,.slice A n c] w λr w'=>∃g:PX,mg (Qf l) v (sa l) g/\r=.returned (.tuple #[.agg #[.int .i64 g.v,.slice g.A g.n g.c],.int .i64 (Qf l)])/\Hp w0 (g.row::Hr) w':=by
 refine da (N:=33) (l:=[.int .i64 v,.slice A n c]) func135 rfl rfl (by simp) ?_;refine Jb ?_;intro b4 w4 hh;replace hh:=hh.perm (P_ (l₁:=[_]));simp only[C',E'] at hh;refine qa (Fz A n c l k _ (hT.hp hh) hh hl hn hk ho) ja.out rfl U' ?_;rintro e_ w8 ⟨L,A1,c1,hmd,rfl,hh⟩;refine⟨_,rfl, ?_⟩;have hlen:=hmd.len;refine qa (HH A1 L.length c1 L _ zeT _ hh rfl Z' (λz w1 _=>TB z w1)) ja.out rfl U' ?_;rintro e_ w9 ⟨rfl,hh⟩;refine⟨_,rfl, ?_⟩;rw[bI] at hh |-;have hML:(L.filter Cp).length<=L.length:=m6 _ _;have hgl:(sa l).length=(L.filter Cp).length:=by rw[<-hmd.sa,i']
 have hgm:=hmd.sa;have hok:xg (k+n) (L.filter Cp):=λt ht=>hmd.ok t (j9.1 ht).1;generalize hM:L.filter Cp=M at*;by_cases h4:4096<M.length
 .rw[show Qf l=3 by unfold Qf;rw[J' Z']];refine Jb ?_;intro ws hh;replace hh:=hh.sub (p' _ (I' _ (A_ _)));refine uu ?_;exact⟨PX.nil,mg.err U',rfl,(hh.sub (s_ _ _)).OT⟩
 rw[show Qf l=0 by unfold Qf;rw[L' Z']];refine fa ?_;refine Ba [6,16,17,18,19,20,21,22,23,24,25,26,27,28,29] 16 (λv w'=>∃(i:Nat)(X:List TR),i<=M.length/\v=.int .i64 i/\X.length=M.length/\X=(M.take i).map nfT++M.drop i/\Hp w0 (.row A1 M.length c1 72 4 (na TR.cells X)::.blk b4 24 [.int .i64 0,.slice none 0 0] (0,0)::Hr) w') (λv _=>M.length-(intOf v).toNat) ?_ ?_
 .exact⟨0,M,D' _,rfl,rfl,rfl,hh⟩
 clear hh;rintro ρ' v w' ⟨i,X,hi,rfl,hX,hXe,hh⟩;by_cases hlt:i<M.length
 .obtain⟨z,hz⟩:=ea (l:=M) (k:=i) Z';have hXz:X[i]?=some z:=(by rw[hXe,I9 (by rw[i',R_];omega),i',R_,C9 Z',f_,H8];exact hz);have hzo:=hok z (G' hz);have hXn:X.set i ⟨z.m,nR z.c.ma⟩=(M.take (i+1)).map nfT++M.drop (i+1):=(by rw[oa hz,n_,hXe,q8 _ _ (by rw[i',R_];omega),i',R_,C9 Z',f_,l_];congr 1;obtain⟨h1,h2⟩:=X_.1 hz;rw[m8 h1,h2];rfl);have hrl:=ve TR.len X;obtain⟨g0,rfl⟩:=hh.Ob (i:=0) rfl Z';refine fa ?_;refine wb (vs:=[_,_,_]) ya.out rfl ((hh.Gd (f:=TR.cells) (x:=z) (l:=X) (i:=0) rfl TR.len U' hXz).drop 1) rfl U' ?_;refine Oa hh (Ed z.c _ (hT.hp hh) (by have:=hzo.1.1;omega) (by have:=hzo.1.2.1;omega) (by have:=hzo.1.2.2;omega)) rfl ?_;intro w26 hh;refine fa ?_;refine Ab hh (i:=0) (vs:=[_,_,_]) rfl rfl (Ld rfl) rfl ya.out rfl Z' rfl ?_;intro ws hh;simp only[U_] at hh;rw[Vz hXz,hXn] at hh;refine fa ?_;refine⟨⟨i+1,_,Z',rfl, ?_,rfl,hh⟩,by show M.length-(i+1)<M.length-i;omega, ?_⟩
  .rw[<-hXn,U9,hX]
  exact Rc
 obtain rfl:i=M.length:=Z';rw[W_ (j' _),B8 (j' _),o_] at hXe;have hXg:X=sa l:=by rw[hXe];exact hgm
 rw[hXg] at hh;refine Jb ?_;intro ws hh;refine BF ?_;exact⟨⟨v,A1,M.length,c1,sa l⟩,⟨rfl,rfl⟩,rfl,hh.sub (I' _ (p' _ (A_ _)))⟩
def Kk(s:ByteArray)(n:Int)(w:World)(hs:s.size<=9223372036854775807):Calls prog 151 #[.string s,.int .i64 n] w λe w'=>e=.returned (.bool (Ae s.data.toList && decide ((s.size:Int)=n)))/\Below w.heap.size w w':=by
 refine da (N:=20) (l:=[.string s,.int .i64 n]) func151 rfl rfl (by simp) ?_;refine fa ?_;refine Ba [4,5,8,9,10,11,12,13,14,15] 8 (λv w'=>∃k:Nat,k<=s.size/\v=.int .i64 k/\Ae (s.data.toList.take k)=true/\w'=w) (λv _=>s.size-(intOf v).toNat) ?_ ?_
 .exact⟨0,D' _,rfl,rfl,rfl⟩
 rintro ρ' v w' ⟨k,hk,rfl,hm,rfl⟩;by_cases hlt:k<s.size
 .exact P0
 refine sr ?_;refine Bi (ua (mb (cF (Ol (yi (yi (Lp (wc (sr (mS ?_))))))))));exact acY
def Qm(s:ByteArray)(w:World)(hs:s.size<=9223372036854775807):Calls prog 151 #[.string s,.int .i64 s.size] w λe w'=>e=.returned (.bool (Ae s.data.toList))/\Below w.heap.size w w':=by
 have h:=Kk s s.size w hs;simpa using h
def GJ(s:ByteArray)(n:Int)(w:World)(hs:s.size<=9223372036854775807):Calls prog 159 #[.string s,.int .i64 n] w λe w'=>e=.returned (.bool (Ae s.data.toList && decide ((s.size:Int)=n)))/\Below w.heap.size w w':=by
 refine da (N:=20) (l:=[.string s,.int .i64 n]) func159 rfl rfl (by simp) ?_;refine fa ?_;refine Ba [4,5,6,7,8,9,10,11,12,13,14,15] 5 (λv w'=>∃k:Nat,k<=s.size/\v=.int .i64 k/\Ae (s.data.toList.take k)=true/\w'=w) (λv _=>s.size-(intOf v).toNat) ?_ ?_
 .exact⟨0,D' _,rfl,rfl,rfl⟩
 rintro ρ' v w' ⟨k,hk,rfl,hm,rfl⟩;by_cases hlt:k<s.size
 .exact P0
 refine mb (sr (mI (mS ?_)));refine Ft lb.out rfl U' ?_;refine Bi (ua (cF (Ol (yi (yi (Lp (wc (sr (mS ?_)))))))));exact acY
def ZS(A:Option Addr)(n c:Nat)(xs:List Int)(w:World)(hsl:Sl w A n 1 (jb xs))(hn:n<=100000):Calls prog 331 #[.slice A n c] w λe w'=>e=.returned (.tuple #[.string (str (eW xs)),.int .i64 (HY xs)])/\Below w.heap.size w w':=by
 have hlen:xs.length=n:=by have:=hsl.1;rw[Wb] at this;omega
 have hh:=Hp.start w;refine da (N:=27) (l:=[.slice A n c]) func331 rfl rfl (by simp) ?_;refine fa ?_;refine Ra [2,3,4,6,9,10,11,12,13,14,15,16,17,18,19,20,21,22,23,24] 4 9 (λb i w'=>∃(k c':Nat)(A':Option Addr),k<=n/\i=.int .i64 k/\b=.slice A' k c'/\(xs.take k).all Td=true/\Hp w [.row A' k c' 5 1 (ij ((xs.take k).map XB))] w') (λ_ v _=>n-(intOf v).toNat) ?_ ?_
 .exact⟨0,0,none,D' _,rfl,rfl,rfl,hh.Lb _ _⟩
 clear hh;rintro ρ' b i w' ⟨k,c',A',hk,rfl,rfl,hall,hh⟩;by_cases hlt:k<n
 .obtain⟨x,hx⟩:=ea (l:=xs) (k:=k) Z';obtain⟨ad,rfl,hr⟩:=(hsl.ext hh.below).at_ Z';by_cases h0:x<0
  .exact adK
  by_cases h1:127<x
  .exact adK
  have hok:Td x=true:=by simp[Td];omega
  refine fa ?_;refine ub ya.out rfl (YG hr (Uc hx) rfl) U' ?_;refine fa ?_;refine fB ?_;intro b22 w22 hh;refine Gb hh (i:=1) rfl rfl rfl (hh.ra (i:=0) rfl) lb.out ya.out rfl U' rfl Z' Z' U' ?_;intro A23 c23 w23 hh;simp only[U_,F_] at hh;replace hh:=hh.sub (s_ _ _);refine fa ?_;refine⟨⟨k+1,c23,A23,Z',rfl,rfl,VQ hx hall hok, ?_⟩,by show n-(k+1)<n-k;omega, ?_⟩
  .rw[mX Z' Z',RT hx hok] at hh;exact hh
  exact Rc
 obtain rfl:k=n:=Z';rw[W_ Z'] at hall hh;obtain⟨e1,e2⟩:=Jv hall;refine fa ?_;refine nu lb.out lb.out lb.out rfl (hh.ra (i:=0) rfl) U' ?_;refine fa ?_;rw[e1,e2];exact⟨rfl,hh.below⟩
def Di(s:ByteArray)(w:World)(hs:s.size<=100000):Calls prog 166 #[.string s] w λe w'=>∃A c,e=.returned (.slice A (cj s.data.toList).length c)/\w'.ownsRow w.heap.size 3 1 (.slice A (cj s.data.toList).length c) (cj s.data.toList).length (jb (cj s.data.toList))/\Below w.heap.size w w':=by
 have hh:=Hp.start w;have hsz:=Tc s
 cases hm:Ae s.data.toList with
 |false=>
  refine da (N:=22) (l:=[.string s]) func166 rfl rfl (by simp) ?_;refine fa ?_;refine Oa hh (Qm s _ Z') rfl ?_;intro w9 hh;rw[hm];refine fa ?_;rw[wV hm];exact⟨none,0,rfl,World.ownsRow_nil _ _ _ _,hh.below⟩
 |true=>
  refine da (N:=22) (l:=[.string s]) func166 rfl rfl (by simp) ?_;refine fa ?_;refine Oa hh (Qm s _ Z') rfl ?_;intro w9 hh;rw[hm];refine fa ?_;refine er hh lb.out rfl U' ?_;intro b12 w12 hh;skip;refine fa ?_;refine Ba [3,5,13,14,15,16,17,18,19,20] 3 (λv w'=>∃(k c':Nat)(A':Option Addr),k<=s.size/\v=.slice A' k c'/\Hp w [.row A' k c' 3 1 (jb (ints (s.data.toList.take k))),.it b12 s k] w') (λv _=>s.size-lenOf v) ?_ ?_
  .exact⟨0,0,none,D' _,rfl,hh.Lb _ _⟩
  clear hh;rintro ρ' v w' ⟨k,c',A',hk,rfl,hh⟩;by_cases hlt:k<s.size
  .obtain⟨c,hc⟩:=ea (l:=s.data.toList) (k:=k) Z';have h8:=Tn hm hc;refine sr ?_;refine vq hh (i:=1) rfl rfl hc h8 U' ?_;intro w13 hh;simp only[U_,F_] at hh;skip;refine fa ?_;refine fB ?_;intro b19 w19 hh;refine Gb hh (i:=1) rfl rfl rfl (hh.ra (i:=0) rfl) lb.out ya.out rfl U' rfl Z' Z' U' ?_;intro A20 c20 w20 hh;simp only[U_,F_] at hh;replace hh:=hh.sub (s_ _ _);refine fa ?_;rw[Zx hc] at hh;refine⟨⟨k+1,c20,A20,Z',rfl,hh⟩,by show s.size-(k+1)<s.size-k;omega, ?_⟩;exact Rc
  refine fa ?_;refine Oq hh (i:=1) rfl rfl hlt U' ?_;skip;refine fa ?_;obtain rfl:k=s.size:=Z';rw[W_ Z'] at hh;have h1:=hh.at_ (i:=0) rfl;rw[il hm,jd,<-hsz];exact⟨A',c',rfl,h1,hh.below⟩
def Oy(a b:ByteArray)(g:FuncId)(f:Int->Int->Int)(w:World)(ha:a.size<=100000)(hb:b.size<=100000)[ja prog g] (hg:∀(x y:Int)(w:World),0<=x->x<=127->0<=y->y<=127->Calls prog g #[.int .i64 x,.int .i64 y] w λe w'=>e=.returned (.int .i64 (f x y))/\Below w.heap.size w w'):Calls prog 329 #[.string a,.string b,.func (.func g) #[] #[]] w λe w'=>
   (Yi f a.data.toList b.data.toList=none/\e=.returned (.tuple #[.slice none 0 0,.bool false])/\Below w.heap.size w w')\/
   ∃l,Yi f a.data.toList b.data.toList=some l/\l.length=b.size/\∃A c,e=.returned (.tuple #[.slice A l.length c,.bool true])/\w'.ownsRow w.heap.size 3 1 (.slice A l.length c) l.length (jb l)/\Below w.heap.size w w':=by
 have hh:=Hp.start w;have hsa:=Tc a;have hsb:=Tc b
 cases hma:Ae a.data.toList with
 |false=>
  refine nQ ?_;refine fa ?_;refine qa (Di b _ hb) ja.out rfl U' ?_;rintro e_ w12 ⟨A12,c12,rfl,hown_,hb_⟩;refine⟨_,rfl, ?_⟩;replace hh:=hh.Aa (x:=.row _ _ _ _ _ _) hb_ hown_;refine fa ?_;refine Oa hh (Qm a _ Z') rfl ?_;intro w16 hh;rw[hma];refine fa ?_;exact .inl ⟨by simp[Yi,hma],rfl,hh.below⟩
 |true=>
  cases hmb:(Ae b.data.toList && decide ((b.size:Int)=a.size)) with
  |false=>
   refine nQ ?_;refine fa ?_;refine qa (Di b _ hb) ja.out rfl U' ?_;rintro e_ w12 ⟨A12,c12,rfl,hown_,hb_⟩;refine⟨_,rfl, ?_⟩;replace hh:=hh.Aa (x:=.row _ _ _ _ _ _) hb_ hown_;refine fa ?_;refine Oa hh (Qm a _ Z') rfl ?_;intro w16 hh;rw[hma];refine fa ?_;refine Oa hh (Kk b _ _ Z') rfl ?_;intro w22 hh;rw[hmb];refine fa ?_;have:(Ae b.data.toList && decide ((b.data.toList.length:Int)=a.data.toList.length))=false:=by rw[<-hsa,<-hsb];exact hmb
   exact .inl ⟨by simp only[Yi,hma,this];rfl,rfl,hh.below⟩
  |true=>
   have hmb2:=hmb;simp only[Q_,K_] at hmb2;have hbl:Yi f a.data.toList b.data.toList=some (List.zipWith f (ints a.data.toList) (ints b.data.toList)):=by
    have:(Ae b.data.toList && decide ((b.data.toList.length:Int)=a.data.toList.length))=true:=by rw[<-hsa,<-hsb];exact hmb
    simp only[Yi,hma,this];rfl
   have hea:=il hma;have heb:=il hmb2.1;have hlab:(ints a.data.toList).length=(ints b.data.toList).length:=by rw[jd,jd];omega
   have hlb:=jd b.data.toList;have hla:=jd a.data.toList;have hA:=Di a;have hB:=Di b;rw[hea] at hA;rw[heb] at hB;generalize hia:ints a.data.toList=ia at*;generalize hib:ints b.data.toList=ib at*;have bda:∀(k:Nat)(x:Int),ia[k]?=some x->0<=x/\x<=127:=λk x h=>qK (l:=a.data.toList) (by rw[hea];exact h);have bdb:∀(k:Nat)(x:Int),ib[k]?=some x->0<=x/\x<=127:=λk x h=>qK (l:=b.data.toList) (by rw[heb];exact h);clear hea heb;refine nQ ?_;refine fa ?_;refine qa (hB _ hb) ja.out rfl U' ?_;rintro e_ w12 ⟨A12,c12,rfl,hown_,hb_⟩;refine⟨_,rfl, ?_⟩;replace hh:=hh.Aa (x:=.row _ _ _ _ _ _) hb_ hown_;refine fa ?_;refine Oa hh (Qm a _ Z') rfl ?_;intro w16 hh;rw[hma];refine fa ?_;refine Oa hh (Kk b _ _ Z') rfl ?_;intro w22 hh;rw[hmb];refine fa ?_;refine qa (hA _ ha) ja.out rfl U' ?_;rintro e_ w26 ⟨A26,c26,rfl,hown_,hb_⟩;refine⟨_,rfl, ?_⟩;replace hh:=hh.Aa (x:=.row _ _ _ _ _ _) hb_ hown_;refine fa ?_;refine Ba [9,10,28,29,30,31,32,33,34,35,36,37,38,39,40,41,42,43] 28 (λi w'=>∃k:Nat,k<=ib.length/\i=.int .i64 k/\Hp w [.row A26 ia.length c26 3 1 (jb ia),.row A12 ib.length c12 3 1 (jb (kn f ia ib k))] w') (λi _=>ib.length-(intOf i).toNat) ?_ ?_
   .exact⟨0,D' _,rfl,by rw[yQ];exact hh⟩
   clear hh hown_ hb_;rintro ρ' i w' ⟨k,hk,rfl,hh⟩;by_cases hlt:k<ib.length
   .obtain⟨x,hx⟩:=ea (l:=ia) (k:=k) Z';obtain⟨y,hy⟩:=ea hlt;have bx:=bda k x hx;have byy:=bdb k y hy;have hx2:=Uc hx;have hy2:=Uc (acs (f:=f) hlab hy);have hml:=eZ (f:=f) hlab hk;have hml2:=Wb (kn f ia ib k);obtain⟨ga,rfl⟩:=hh.Ob (i:=0) rfl Z';obtain⟨gb,rfl⟩:=hh.Ob (i:=1) rfl Z';refine fa ?_;refine Aj ?_;refine fa ?_;refine ub ya.out rfl (hh.Zc (i:=1) rfl (by first|assumption|(simp only[I_];assumption))) U' ?_;refine qi (hg x y _ bx.1 bx.2 byy.1 byy.2) ja.out rfl rfl U' ?_;rintro e_ w41 ⟨rfl,hb_⟩;refine⟨_,rfl, ?_⟩;replace hh:=hh.ext hb_;refine fa ?_;refine JS ?_;intro ws hh;simp only[U_,F_] at hh;refine fa ?_;rw[I_,uY hlab hx hy] at hh;refine⟨⟨k+1,Z',rfl,hh⟩,by show _-(k+1)<_-k;omega, ?_⟩;exact Rc
   refine fa ?_;obtain rfl:k=ib.length:=Z';rw[MV hlab] at hh;have h1:=hh.at_ (i:=1) rfl;have hzl:(List.zipWith f ia ib).length=ib.length:=by simp[hlab]
   refine .inr ⟨_,hbl,Z',A12,c12, ?_⟩;rw[hzl];exact⟨rfl,h1,hh.below⟩
def GP(a b:ByteArray)(g:FuncId)(f:Int->Int->Int)(w:World)(ha:a.size<=100000)(hb:b.size<=100000)[ja prog g] (hg:∀(x y:Int)(w:World),0<=x->x<=127->0<=y->y<=127->Calls prog g #[.int .i64 x,.int .i64 y] w λe w'=>e=.returned (.int .i64 (f x y))/\Below w.heap.size w w') (h:Yi f a.data.toList b.data.toList=none):Calls prog 329 #[.string a,.string b,.func (.func g) #[] #[]] w λe w'=>e=.returned (.tuple #[.slice none 0 0,.bool false])/\Below w.heap.size w w':=(Oy a b g f w ha hb hg).mono λe w' hq=>by
  obtain hq|⟨l,hl,_⟩:=hq
  .exact hq.2
  rw[h] at hl;cases hl
def XN(a b:ByteArray)(g:FuncId)(f:Int->Int->Int)(w:World)(ha:a.size<=100000)(hb:b.size<=100000)[ja prog g] (hg:∀(x y:Int)(w:World),0<=x->x<=127->0<=y->y<=127->Calls prog g #[.int .i64 x,.int .i64 y] w λe w'=>e=.returned (.int .i64 (f x y))/\Below w.heap.size w w')
  {l:List Int}(h:Yi f a.data.toList b.data.toList=some l):
  Calls prog 329 #[.string a,.string b,.func (.func g) #[] #[]] w λe w'=>∃A c,e=.returned (.tuple #[.slice A l.length c,.bool true])/\w'.ownsRow w.heap.size 3 1 (.slice A l.length c) l.length (jb l)/\Below w.heap.size w w':=
 (Oy a b g f w ha hb hg).mono λe w' hq=>by
  obtain⟨hn,_⟩|⟨l',hl,_,hq⟩:=hq
  .rw[h] at hn;cases hn
  rw[h] at hl;injection hl with hl;subst hl;exact hq
def qO{f:Int->Int->Int}{a b:List UInt8}{l:List Int}(h:Yi f a b=some l):l.length<=b.length:=by
 unfold Yi at h;split at h
 .injection h with h;subst h;simp[ints];omega
 cases h
def Hw(x y:Int)(w:World)(h1:0<=x)(h2:x<=127)(h3:0<=y)(h4:y<=127):Calls prog 330 #[.int .i64 x,.int .i64 y] w λe w'=>e=.returned (.int .i64 (x+y))/\Below w.heap.size w w':=by
 refine da (N:=8) (l:=[.int .i64 x,.int .i64 y]) func330 rfl rfl (by simp) ?_;refine fa ?_;exact⟨rfl,Below.refl _ _⟩
def NN(a b:ByteArray)(w:World)(ha:a.size<=100000)(hb:b.size<=100000):Calls prog 326 #[.string a,.string b] w λe w'=>e=.returned (.tuple #[.string (str (mulL a.data.toList b.data.toList).1),.int .i64 (mulL a.data.toList b.data.toList).2])/\Below w.heap.size w w':=by
 have hh:=Hp.start w;have hsb:=Tc b
 cases hbo:Yi (· + ·) a.data.toList b.data.toList with
 |none=>
  refine da (N:=20) (l:=[.string a,.string b]) func326 rfl rfl (by simp) ?_;refine fa ?_;refine Oa hh (GP a b _ _ _ ha hb Hw hbo) rfl ?_;intro w11 hh;refine fa ?_;simp only[mulL,hbo];exact⟨rfl,hh.below⟩
 |some l=>
  have hl:=qO hbo;refine da (N:=20) (l:=[.string a,.string b]) func326 rfl rfl (by simp) ?_;refine fa ?_;refine qa (XN a b _ _ _ ha hb Hw hbo) ja.out rfl U' ?_;rintro e_ w11 ⟨A11,c11,rfl,hown_,hb_⟩;refine⟨_,rfl, ?_⟩;replace hh:=hh.Aa (x:=.row _ _ _ _ _ _) hb_ hown_;refine fa ?_;refine Oa hh (ZS _ _ _ _ _ (hh.ra (i:=0) rfl) Z') rfl ?_;intro w17 hh;refine fa ?_;simp only[mulL,hbo];exact⟨trivial,hh.below⟩
def Wg(v:Int):Bool:=decide (0<=v) && decide (v<=12)
def Pe{v:Int}:Wg v=true↔0<=v/\v<=12:=by unfold Wg;rw[Q_,K_,K_]
def Ao(v:Int)(w:World):Calls prog 128 #[.int .i64 v] w λr w'=>r=.returned (.bool (Wg v))/\Below w.heap.size w w':=by
 have hh:=Hp.start w;unfold Wg;by_cases h1:0<=v
 .rw[M_ h1,Bool.true_and];by_cases h2:v<=12
  .rw[M_ h2];exact abV
  rw[O_ h2];exact abV
 rw[O_ h1,Bool.false_and];exact abV
def nfB(a:NR):Bool:=decide ((nR a.ma).neg=a.neg) && (decide ((nR a.ma).Qa=a.Qa) && decide ((nR a.ma).e=a.e))
def wv(a:NR):nfB a=true↔nR a.ma=a:=by
 unfold nfB;rw[Q_,Q_,K_,K_,K_];constructor
 .rintro ⟨h1,h2,h3⟩;obtain⟨s,m,e⟩:=a;generalize nR (NR.ma ⟨s,m,e⟩)=b at*;obtain⟨s',m',e'⟩:=b;simp only at h1 h2 h3;rw[h1,h2,h3]
 intro h;rw[h];exact⟨rfl,rfl,rfl⟩
def fp(v:Int)(t:TR):Bool:=Ae t.m.data.toList && decide ((t.m.size:Int)=v) && (Cp t && nfB t.c)
def yt:List TR->Bool
 |[]=>true
 |[_]=>true
 |a::b::l=>Ah a.m b.m && yt (b::l)
def eA:∀(l:List TR)(p x:TR),yt (l++[p,x])=(yt (l++[p]) && Ah p.m x.m)
 |[],p,x=>by show(Ah p.m x.m && true)=(true && Ah p.m x.m);rw[Bool.and_true,Bool.true_and]
 |[a],p,x=>(by show(Ah a.m p.m && (Ah p.m x.m && true))=((Ah a.m p.m && true) && Ah p.m x.m);rw[Bool.and_true,Bool.and_true])
 |a::b::l,p,x=>(by show(Ah a.m b.m && yt ((b::l)++[p,x]))=((Ah a.m b.m && yt ((b::l)++[p])) && Ah p.m x.m);rw[eA (b::l) p x,Bool.and_assoc])
def oK:∀{l:List TR}{i:Nat}{p x:TR},yt l=true->l[i]?=some p->l[i+1]?=some x->Ah p.m x.m=true
 |[],i,p,x,_,h,_=>by simp at h
 |[a],i,p,x,_,_,h=>by simp at h
 |a::b::l,0,p,x,h,h1,h2=>(by simp only[U6,S8,C_,N6] at h1 h2;subst h1 h2;exact(I8.1 h).1)
 |a::b::l,i+1,p,x,h,h1,h2=>(by rw[N6] at h1 h2;exact oK (I8.1 h).2 h1 h2)
def xq:∀{l:List TR},yt l=true↔jv l
 |[]=>⟨λ_=>S5,λ_=>rfl⟩
 |[a]=>⟨λ_=>E5 _ _,λ_=>rfl⟩
 |a::b::l=>by
  show(Ah a.m b.m && yt (b::l))=true↔_;rw[Q_,xq (l:=b::l)];constructor
  .rintro ⟨h1,h2⟩;refine Y8.2 ⟨λt ht=> ?_,h2⟩;obtain rfl|ht:=S_.1 ht
   .exact h1
   exact vj h1 ((Y8.1 h2).1 t ht)
  intro h;have:=Y8.1 h;exact⟨this.1 b q',this.2⟩
def okB(v:Int)(ts:List TR):Bool:=ts.all (fp v) && yt ts
def Gf(v:Int)(ts:List TR):Int:=if Wg v=false then 1 else if 4096<ts.length then 3 else if okB v ts=true then 0 else 1
def KV{v:Int}(h1:Wg v=true)(h2:¬4096<ts.length)(h:okB v ts=false):Gf v ts=1:=by
 unfold Gf;rw[L' (by rw[h1];decide),L' h2,L' (by rw[h];decide)]
def CD{v:Int}{i:Nat}{x:TR}(hx:ts[i]?=some x)(h:fp v x=false):okB v ts=false:=by
 unfold okB;rw[M5];refine .inl (y6.2 λh2=> ?_);rw[u_.1 h2 x (G' hx)] at h
 cases h
def US{v:Int}{i:Nat}{p x:TR}(hp:ts[i]?=some p)(hx:ts[i+1]?=some x)(h:Ah p.m x.m=false):okB v ts=false:=by
 unfold okB;rw[M5];refine .inr (y6.2 λh2=> ?_);rw[oK h2 hp hx] at h
 cases h
def jC(v:Int)(A:Option Addr)(n c:Nat)(ts:List TR)(w:World)(hT:Sc w)(hS:Sl w A n 4 (na TR.cells ts))(hn:n<=1000000)(ho:∀t∈ts,t.c.ok/\t.m.size<=100000):Calls prog 83 #[.agg #[.int .i64 v,.slice A n c]] w λr w'=>r=.returned (.int .i64 (Gf v ts))/\Below w.heap.size w w':=by
 have hh:=Hp.start w;have hln:=hS.Fa TR.len U';have hfw:=λw1=>Ao v w1
 cases hf:Wg v with
 |false=>
  rw[hf] at hfw;rw[show Gf v ts=1 by unfold Gf;rw[J' hf]];exact aef
 |true=>
  rw[hf] at hfw;by_cases h4:4096<n
  .rw[show Gf v ts=3 by unfold Gf;rw[L' (by rw[hf];decide),J' Z']];exact aef
  have hbad:=λh=>KV (v:=v) (ts:=ts) hf Z' h;refine da (N:=58) (l:=[.agg #[.int .i64 v,.slice A n c]]) func83 rfl rfl (by simp) ?_;refine Jb ?_;intro b1 w1 hh;refine Oa hh (hfw _) rfl ?_;intro w7 hh;refine fa ?_;refine Ba [2,3,4,16,17,18,19,20,21,22,23,24,25,26,27,28,29,30,31,32,33,34,35,36,37,38,39,40,41,42,43,44,45,46,47,48,49,50,51,52,53,54,55,56,57] 16 (λx w'=>∃i:Nat,i<=n/\x=.int .i64 i/\(ts.take i).all (fp v)=true/\yt (ts.take i)=true/\Hp w [.blk b1 24 [.int .i64 v,.slice A n c] (0,0)] w') (λx _=>n-(intOf x).toNat) ?_ ?_
  .exact⟨0,D' _,rfl,rfl,rfl,hh⟩
  clear hh;rintro ρ' x_ w' ⟨i,hi,rfl,hall,hris,hh⟩;by_cases hlt:i<n
  .obtain⟨x,hx⟩:=ea (l:=ts) (k:=i) Z';obtain⟨ad,rfl,hr⟩:=hS.at_ Z';obtain⟨hxo,hxm⟩:=ho x (G' hx);have hmay:=λw1=>Kk x.m v w1 Z';have hsg:=λw1=>Pc x.c w1;have hfo:=λw1 hT1=>Ed x.c w1 hT1 (by have:=hxo.1;omega) (by have:=hxo.2.1;omega) (by have:=hxo.2.2;omega);have hzz:x.c.i.sign=0↔x.c.ma=0:=(by exact acd)
   cases hm:Ae x.m.data.toList && decide ((x.m.size:Int)=v) with
   |false=>
    rw[hm] at hmay;rw[hbad (CD hx (by unfold fp;rw[hm];rfl))];refine fa ?_;refine Qn ?_;refine Sb ?_;intro b4 w4 hh ws hh
    refine Cd [] [] zL1 33 zL0 [(32,53),(31,52),(30,51),(29,50),(28,49),(27,48),(26,47),(25,46),(24,45),(23,44),(22,43),(21,42),(20,41),(19,40),(18,39),(17,38),(16,37),(15,36),(14,35),(13,34),(12,33),(11,32),(10,31),(9,30),(8,29),(7,28),(6,27),(5,26),(4,25),(3,24),(2,23),(1,22),(0,21)] hh mixed T' Pd rfl (by repeat (first|exact Cb|refine Xa ?_|refine Db ?_)) ?_
    refine yd ?_;refine xe 0 ?_;refine yd ?_;refine xe 1 ?_;refine dC (λ_ hj=>hmay _) ?_;refine BP ?_;refine Qr ?_;refine dS (dS (dS (dS ?_)));refine dpT ?_;exact aaj
   |true=>
    rw[hm] at hmay;by_cases hz:x.c.ma=0
    .have hs:=hzz.2 hz;rw[hbad (CD hx (by unfold fp Cp;rw[hm,M_ hz];rfl))];refine fa ?_;refine Qn ?_;refine Sb ?_;intro b4 w4 hh ws hh
     refine Cd [] [] zL1 33 zL0 [(32,53),(31,52),(30,51),(29,50),(28,49),(27,48),(26,47),(25,46),(24,45),(23,44),(22,43),(21,42),(20,41),(19,40),(18,39),(17,38),(16,37),(15,36),(14,35),(13,34),(12,33),(11,32),(10,31),(9,30),(8,29),(7,28),(6,27),(5,26),(4,25),(3,24),(2,23),(1,22),(0,21)] hh mixed T' Pd rfl (by repeat (first|exact Cb|refine Xa ?_|refine Db ?_)) ?_
     refine yd ?_;refine xe 0 ?_;refine yd ?_;refine xe 1 ?_;refine dC (λ_ hj=>hmay _) ?_;refine BP ?_;refine Qr ?_;refine dG (yd ?_);refine dG (Vd 0 [_,_,_] ?_);refine uH ?_;refine dG (UT ?_);refine iW ?_;exact aaj
    have hs:¬x.c.i.sign=0:=λh=>hz (hzz.1 h);by_cases hnf:nR x.c.ma=x.c
    .have hgood:fp v x=true:=by unfold fp Cp;rw[hm,O_ hz,(wv x.c).2 hnf];rfl
     have hall2:(ts.take (i+1)).all (fp v)=true:=by rw[oa hx,Z5,hall];simp[hgood]
     by_cases h0:i=0
     .refine fa ?_;refine Qn ?_;refine Sb ?_;intro b4 w4 hh ws hh
      refine Cd [] [] zL1 33 zL0 [(32,53),(31,52),(30,51),(29,50),(28,49),(27,48),(26,47),(25,46),(24,45),(23,44),(22,43),(21,42),(20,41),(19,40),(18,39),(17,38),(16,37),(15,36),(14,35),(13,34),(12,33),(11,32),(10,31),(9,30),(8,29),(7,28),(6,27),(5,26),(4,25),(3,24),(2,23),(1,22),(0,21)] hh mixed T' Pd rfl (by repeat (first|exact Cb|refine Xa ?_|refine Db ?_)) ?_
      refine yd ?_;refine xe 0 ?_;refine yd ?_;refine xe 1 ?_;refine dC (λ_ hj=>hmay _) ?_;refine BP ?_;refine Qr ?_;refine dG (yd ?_);refine dG (Vd 0 [_,_,_] ?_);refine uH ?_;refine dG (UT ?_);refine iW ?_;refine Qr ?_;refine dG (yd ?_);refine dG (Vd 0 [_,_,_] ?_);refine aN ?_;refine dG (yd ?_);refine dG (Vd 0 [_,_,_] ?_);refine kV ?_;refine iW ?_;refine Qr ?_;refine dG (cd ?_);refine dG (acr ?_);refine dG (Qr ?_);refine dS (dS (dS (dS ?_)));refine Vn (i:=28) rfl (λρ1 w1 hj hR=>(show ρ1 44=Value.bool _ from hR.2.2.1)) U' ?_;refine dS (dS (dS (dS ?_)));refine xa ?_;intro f W hJ hV _;have hb_8:=hJ.bl;obtain⟨v53,v52,v51,v50,v49,v48,v47,v46,v45,v44,v43,v42,v41,v40,v39,v38,v37,v36,v35,v34,v33,v32,v31,v30,v29,v28,v27,v26,v25,v24,v23,v22,v21,_⟩:=hV;replace hh:=hJ.hp;refine aM ?_;dsimp only[Bb];clear hJ;refine gS (gT ?_)
      (first|refine pkT ?_|refine pkF ?_)
      refine fa ?_;replace hh:=hh.sub (p' _ (I' _ H_));refine⟨⟨i+1,Z',rfl,hall2,by rw[oa hx,h0];rfl,hh⟩,by show n-(i+1)<n-i;omega, ?_⟩;exact Rc
     obtain⟨q,hq⟩:∃q,i=q+1:=⟨i-1,Z'⟩;obtain⟨p,hp⟩:=ea (l:=ts) (k:=q) Z'
     cases hlp:Ah p.m x.m with
     |false=>
      rw[hbad (US hp (hq ▸ hx) hlp)];have hge:(!(Op.bytesLess p.m.toList x.m.toList))=true:=by rw[Ok,hlp];rfl
      refine fa ?_;refine Qn ?_;refine Sb ?_;intro b4 w4 hh ws hh
      refine Cd [] [] zL1 33 zL0 [(32,53),(31,52),(30,51),(29,50),(28,49),(27,48),(26,47),(25,46),(24,45),(23,44),(22,43),(21,42),(20,41),(19,40),(18,39),(17,38),(16,37),(15,36),(14,35),(13,34),(12,33),(11,32),(10,31),(9,30),(8,29),(7,28),(6,27),(5,26),(4,25),(3,24),(2,23),(1,22),(0,21)] hh mixed T' Pd rfl (by repeat (first|exact Cb|refine Xa ?_|refine Db ?_)) ?_
      refine yd ?_;refine xe 0 ?_;refine yd ?_;refine xe 1 ?_;refine dC (λ_ hj=>hmay _) ?_;refine BP ?_;refine Qr ?_;refine dG (yd ?_);refine dG (Vd 0 [_,_,_] ?_);refine uH ?_;refine dG (UT ?_);refine iW ?_;refine Qr ?_;refine dG (yd ?_);refine dG (Vd 0 [_,_,_] ?_);refine aN ?_;refine dG (yd ?_);refine dG (Vd 0 [_,_,_] ?_);refine kV ?_;refine iW ?_;refine Qr ?_;refine dG (cd ?_);refine dG (acr ?_);refine dG (Qr ?_);refine dG (yd ?_);refine dG (xe 1 ?_);refine dG (cd ?_);refine dG (Tu ?_);refine dG (jj (q) ?_);refine dG (ru ?_);refine dG (Ro (λ_ hj=>((hr.ext hj.hp.below).recAt TR.len hp).cell (i:=0) rfl) ?_);refine dG (yd ?_);refine dG (xe 0 ?_);refine xa ?_;intro f W hJ hV _;have hb_8:=hJ.bl;obtain⟨v53,v52,v51,v50,v49,v48,v47,v46,v45,v44,v43,v42,v41,v40,v39,v38,v37,v36,v35,v34,v33,v32,v31,v30,v29,v28,v27,v26,v25,v24,v23,v22,v21,_⟩:=hV;replace hh:=hJ.hp;refine aM ?_;dsimp only[Bb];clear hJ;refine gT ?_;refine Uz rfl rfl U' ?_;refine gT ?_
      (first|refine pkT ?_|refine pkF ?_)
      refine fa ?_;rw[hge];refine fa ?_;exact⟨rfl,hh.below⟩
     |true=>
      have hge:(!(Op.bytesLess p.m.toList x.m.toList))=false:=by rw[Ok,hlp];rfl
      refine fa ?_;refine Qn ?_;refine Sb ?_;intro b4 w4 hh ws hh
      refine Cd [] [] zL1 33 zL0 [(32,53),(31,52),(30,51),(29,50),(28,49),(27,48),(26,47),(25,46),(24,45),(23,44),(22,43),(21,42),(20,41),(19,40),(18,39),(17,38),(16,37),(15,36),(14,35),(13,34),(12,33),(11,32),(10,31),(9,30),(8,29),(7,28),(6,27),(5,26),(4,25),(3,24),(2,23),(1,22),(0,21)] hh mixed T' Pd rfl (by repeat (first|exact Cb|refine Xa ?_|refine Db ?_)) ?_
      refine yd ?_;refine xe 0 ?_;refine yd ?_;refine xe 1 ?_;refine dC (λ_ hj=>hmay _) ?_;refine BP ?_;refine Qr ?_;refine dG (yd ?_);refine dG (Vd 0 [_,_,_] ?_);refine uH ?_;refine dG (UT ?_);refine iW ?_;refine Qr ?_;refine dG (yd ?_);refine dG (Vd 0 [_,_,_] ?_);refine aN ?_;refine dG (yd ?_);refine dG (Vd 0 [_,_,_] ?_);refine kV ?_;refine iW ?_;refine Qr ?_;refine dG (cd ?_);refine dG (acr ?_);refine dG (Qr ?_);refine dG (yd ?_);refine dG (xe 1 ?_);refine dG (cd ?_);refine dG (Tu ?_);refine dG (jj (q) ?_);refine dG (ru ?_);refine dG (Ro (λ_ hj=>((hr.ext hj.hp.below).recAt TR.len hp).cell (i:=0) rfl) ?_);refine dG (yd ?_);refine dG (xe 0 ?_);refine xa ?_;intro f W hJ hV _;have hb_8:=hJ.bl;obtain⟨v53,v52,v51,v50,v49,v48,v47,v46,v45,v44,v43,v42,v41,v40,v39,v38,v37,v36,v35,v34,v33,v32,v31,v30,v29,v28,v27,v26,v25,v24,v23,v22,v21,_⟩:=hV;replace hh:=hJ.hp;refine aM ?_;dsimp only[Bb];clear hJ;refine gT ?_;refine Uz rfl rfl U' ?_;refine gT ?_
      (first|refine pkT ?_|refine pkF ?_)
      refine fa ?_;rw[hge];refine fa ?_;replace hh:=hh.sub (p' _ (I' _ H_));refine⟨⟨i+1,Z',rfl,hall2, ?_,hh⟩,by show n-(i+1)<n-i;omega, ?_⟩
      .rw[hq,oa hp] at hris;rw[oa hx,hq,oa hp,l_];show yt (ts.take q++[p,x])=true;rw[eA,hris,hlp];rfl
      exact Rc
    rw[hbad (CD hx (by unfold fp Cp;rw[hm,O_ hz,y6.2 (λh=>hnf ((wv x.c).1 h))];rfl))];refine fa ?_;refine Qn ?_;refine Sb ?_;intro b4 w4 hh ws hh
    refine Cd [] [] zL1 33 zL0 [(32,53),(31,52),(30,51),(29,50),(28,49),(27,48),(26,47),(25,46),(24,45),(23,44),(22,43),(21,42),(20,41),(19,40),(18,39),(17,38),(16,37),(15,36),(14,35),(13,34),(12,33),(11,32),(10,31),(9,30),(8,29),(7,28),(6,27),(5,26),(4,25),(3,24),(2,23),(1,22),(0,21)] hh mixed T' Pd rfl (by repeat (first|exact Cb|refine Xa ?_|refine Db ?_)) ?_
    refine yd ?_;refine xe 0 ?_;refine yd ?_;refine xe 1 ?_;refine dC (λ_ hj=>hmay _) ?_;refine BP ?_;refine Qr ?_;refine dG (yd ?_);refine dG (Vd 0 [_,_,_] ?_);refine uH ?_;refine dG (UT ?_);refine iW ?_;refine Qr ?_;refine dG (yd ?_);refine dG (Vd 0 [_,_,_] ?_);refine aN ?_;refine dG (yd ?_);refine dG (Vd 0 [_,_,_] ?_);refine kD (i:=18) rfl (λρ1 w1 hj hR=>(show ρ1 33=Value.bool _ from hR.2.2.1)) (λρ1 w1 hj hR=>cM (show ρ1 36=Value.agg (List.toArray _) from hR.1) (show ρ1 38=Value.agg (List.toArray _) from hR.2.1) (by assumption)) ?_;refine iW ?_;exact zW8
  rw[W_ Z'] at hall hris;rw[show Gf v ts=0 by unfold Gf okB;rw[L' (by rw[hf];decide),L' Z',hall,hris];rfl];refine fa ?_;exact⟨rfl,hh.below⟩
def pe(v:Int)(t:TR):Bool:=Ae t.m.data.toList && decide ((t.m.size:Int)=v)
def nH(z:TR)(v:Int)(b:Nat)(w:World)(hp:w.cell? ⟨b,0,none⟩=some (.int .i64 v))(hz:z.m.size<=100000):Calls prog 205 #[.agg #[.string z.m,.bool z.c.neg,.string z.c.Qa,.int .i64 z.c.e],.pointer (some ⟨b,0,none⟩)] w λr w'=>r=.returned (.bool (!pe v z))/\Below w.heap.size w w':=by
 have hh:=Hp.start w;have hmay:=λw1=>Kk z.m v w1 Z';unfold pe;refine da (N:=9) (l:=[.agg #[.string z.m,.bool z.c.neg,.string z.c.Qa,.int .i64 z.c.e],.pointer (some ⟨b,0,none⟩)]) func205 rfl rfl (by simp) ?_;refine Jb ?_;intro b2 w2 hh;refine wF ?_;refine Oa hh (hmay _) rfl ?_;intro w7 hh
 cases Ae z.m.data.toList && decide ((z.m.size:Int)=v) with
 |false=>
  refine fa ?_;exact⟨rfl,hh.below⟩
 |true=>
  refine fa ?_;exact⟨rfl,hh.below⟩
def wz(A:Option Addr)(n c:Nat)(l:List TR)(v:Int)(b:Nat)(w:World)(hS:Sl w A n 4 (na TR.cells l))(hn:n<=1000000)(hp:w.cell? ⟨b,0,none⟩=some (.int .i64 v))(hz:∀t∈l,t.m.size<=100000):Calls prog 204 #[.slice A n c,.func (.func 205) #[] #[.pointer (some ⟨b,0,none⟩)]] w λr w'=>r=.returned (.bool (l.any λt=> !pe v t))/\Below w.heap.size w w':=
 LI A n c l 205 [.pointer (some ⟨b,0,none⟩)] (λt=> !pe v t) w hS hn λz w1 hz2 hb=>nH z v b w1 (ic hb hp) (hz z hz2)
def Gi(v:Int)(l:List TR):Int:=if Wg v=false\/(l.any λt=> !pe v t)=true then 1 else if 65536<l.length then 3 else Qf l
def Rm(v:Int)(A:Option Addr)(n c:Nat)(l:List TR)(k:Nat)(w:World)(hT:Sc w)(hS:Sl w A n 4 (na TR.cells l))(hn:n<=1000000)(hk:k<=2999980)(ho:xg k l)(hz:∀t∈l,t.m.size<=100000):Calls prog 129 #[.int .i64 v,.slice A n c] w λr w'=>∃g:PX,mg (Gi v l) v (sa l) g/\r=.returned (.tuple #[.agg #[.int .i64 g.v,.slice g.A g.n g.c],.int .i64 (Gi v l)])/\Hp w [g.row] w':=by
 have hh:=Hp.start w;have hln:=hS.Fa TR.len U';have hfw:=λw1=>Ao v w1;have han:=λb w1 hb hp=>wz A n c l v b w1 (hS.ext hb) hn hp hz
 cases hf:Wg v with
 |false=>
  rw[hf] at hfw;rw[show Gi v l=1 by unfold Gi;rw[J' (.inl hf)]];refine cQ ?_;refine Sb ?_;intro b2 w2 hh b4 w4 hh;refine Oa hh (hfw _) rfl ?_;intro w7 hh;refine Jb ?_;intro ws hh;exact YW
 |true=>
  rw[hf] at hfw
  cases ha:l.any λt=> !pe v t with
  |true=>
   rw[ha] at han;rw[show Gi v l=1 by unfold Gi;rw[J' (.inr ha)]];exact R0
  |false=>
   rw[ha] at han;have e1:Gi v l=if 65536<l.length then 3 else Qf l:=by unfold Gi;rw[L' (by rw[hf,ha];decide)]
   by_cases h6:65536<n
   .rw[e1,J' Z'];exact R0
   rw[e1,L' Z'];refine cQ ?_;refine Sb ?_;intro b2 w2 hh b4 w4 hh;refine Oa hh (hfw _) rfl ?_;intro w7 hh;refine fa ?_;refine Pu ?_;refine fa ?_;refine Oa hh (han _ _ hh.below (hh.eg (i:=1) (o:=0) rfl rfl)) rfl ?_;intro w12 hh;refine fa ?_;refine jl [] [0,0,2,7,15,15,63,127] 3 [[(2,none)],[(1,none)],[(20,some 1)]] [(2,21),(1,20),(0,19)] [([],4,[(2,21),(1,20),(0,19)])] hh mixed T' T' U' ?_;refine xe 1 ?_;refine De ?_;refine Va (i:=2) (OC hh.sz 72 n 4 (na TR.cells l)) (OC.ext) ?_ ?_
   .intro ρ1 w1 hj hR;exact Pb rfl (qb ja.out (Ga (show ρ1 20=Value.slice _ _ _ from hR.1) Fb)) (um A n c l w1 (hS.ext hj.hp.below) hn) (λ_ _ ⟨A,c,hq,ho,hb⟩=>⟨_,hq,hb,A,c,rfl,cq ho hj.bl.size⟩)
   refine xa ?_;intro p_ hp_;simp only[S_,O9,or_false] at hp_;obtain rfl:=hp_
   intro f W hJ hV;have hb_5:=hJ.bl;obtain⟨v21,v20,v19,_⟩:=hV;simp only[Hf];have e19:f 0=_:=v19;rw[e19];have e20:f 1=_:=v20;rw[e20];obtain⟨A21,c21,e21,o21⟩:OC _ _ _ _ _ (f 2) W:=v21;rw[e21];replace hh:=JJ.AU hh hJ.hp o21;clear o21;clear e19 e20 e21 hJ;refine qa (Tj v A21 n c21 l k _ hT hh hln Z' Z' ho) ja.out rfl U' ?_;rintro e_ w22 ⟨g,og,rfl,hh⟩;refine⟨_,rfl, ?_⟩;refine Yc ?_;refine Qb (i:=4) (by repeat (first|exact Cb|refine Xa ?_|refine Db ?_|refine np_scope ?_)) rfl T' T' T' (λ_=>Ke (show _=Value.tuple (List.toArray _) from rfl) rfl) U' ?_;refine Qb (i:=5) (by repeat (first|exact Cb|refine Xa ?_|refine Db ?_|refine np_scope ?_)) rfl T' T' T' (λ_=>Ke (show _=Value.tuple (List.toArray _) from rfl) rfl) U' ?_;refine Sg 6 U' T' U' T' T' ?_;exact bU
def PX.cells(g:PX):List Value:=[.int .i64 g.v,.slice g.A g.n g.c]
def PX.len(g:PX):(PX.cells g).length=2:=rfl
structure PX.Zg(g:PX)(k:Nat):Prop where
 n:g.n<=1000000
 cap:g.n<=g.c
 ok:xg k g.ts
 sz:∀t∈g.ts,t.m.size<=100000
def PX.e(g:PX):Int:=Gf g.v g.ts
def rk(g:PX)(k:Nat)(w:World)(hT:Sc w)(h:g.at_ w)(hl:g.Zg k):Calls prog 83 #[.agg #[.int .i64 g.v,.slice g.A g.n g.c]] w λr w'=>r=.returned (.int .i64 g.e)/\Below w.heap.size w w':=
 jC g.v g.A g.n g.c g.ts w hT h hl.n λt ht=>⟨(hl.ok t ht).1,hl.sz t ht⟩
def az(ps:List PX):Bool:=ps.any λg=>decide (g.v≠(ps.map PX.v).headD 0)
def bg(ps:List PX):Int:=match ps.find? (λg=>decide (g.e≠0)) with|some g=>g.e|none=>if ps.length=0\/az ps=true then 1 else 0
def mJ(L:Option Addr)(n c:Nat)(ps:List PX)(f:PX)(p:Addr)(w:World)(hL:Sl w L n 2 (na PX.cells ps))(hp:w.cell? p=some (.slice L n c))(hn:0<n):Calls prog 208 #[.agg #[.int .i64 f.v,.slice f.A f.n f.c],.pointer (some p)] w λr w'=>r=.returned (.bool (decide (f.v≠(ps.map PX.v).headD 0)))/\Below w.heap.size w w':=by
 have hh:=Hp.start w;have hln:=hL.Fa PX.len U';obtain⟨g,ps,rfl⟩:∃g l,ps=g::l:=by
  cases ps with
  |nil=>exact absurd hln (by show ¬0=n;omega)
  |cons g l=>exact⟨g,l,rfl⟩
 obtain⟨ad,rfl,hr⟩:=hL.at_ hn;have hd:(((g::ps).map PX.v).headD 0)=g.v:=rfl;rw[hd];have h0:(g::ps)[0]?=some g:=rfl;by_cases hg:f.v=g.v
 .refine da (N:=11) (l:=[.agg #[.int .i64 f.v,.slice f.A f.n f.c],.pointer (some p)]) func208 rfl rfl (by simp) ?_;refine Jb ?_;intro b2 w2 hh;refine V0 ?_;refine yd ?_;refine xe 0 ?_;refine oF ?_;refine Wa (i:=3) (λρ1 w1 hj hR=>Se lb.out ya.size (show ρ1 6=Value.slice _ _ _ from hR.1) rfl Z' Z') ?_;refine ru ?_;refine Ro (λ_ hj=>ic hj.hp.below (((hr.recAt PX.len h0)) 0 _ rfl)) ?_;refine xa ?_;intro f W hJ hV;have hb_1:=hJ.bl;obtain⟨v9,v8,v7,v6,v5,v4,_⟩:=hV;replace hh:=hJ.hp;refine Da (Na (aa v9 (aa v8 (aa v7 (aa v6 (aa v5 (aa v4 Ea))))))) ?_;dsimp only[Bb];clear hJ;exact aY
 refine da (N:=11) (l:=[.agg #[.int .i64 f.v,.slice f.A f.n f.c],.pointer (some p)]) func208 rfl rfl (by simp) ?_;refine Jb ?_;intro b2 w2 hh;refine V0 ?_;refine yd ?_;refine xe 0 ?_;refine oF ?_;refine Wa (i:=3) (λρ1 w1 hj hR=>Se lb.out ya.size (show ρ1 6=Value.slice _ _ _ from hR.1) rfl Z' Z') ?_;refine ru ?_;refine Ro (λ_ hj=>ic hj.hp.below (((hr.recAt PX.len h0)) 0 _ rfl)) ?_;refine xa ?_;intro f W hJ hV;have hb_1:=hJ.bl;obtain⟨v9,v8,v7,v6,v5,v4,_⟩:=hV;replace hh:=hJ.hp;refine Da (Na (aa v9 (aa v8 (aa v7 (aa v6 (aa v5 (aa v4 Ea))))))) ?_;dsimp only[Bb];clear hJ;exact PV
def kK(A:Option Addr)(n c:Nat)(l:List PX)(g:FuncId)(cap:List Value)(p:PX->Bool)(w:World)(hS:Sl w A n 2 (na PX.cells l))(hn:n<=1000000)[ja prog g] (hg:∀(z:PX)(w1:World),z∈l->Below w.heap.size w w1->Calls prog g (.agg #[.int .i64 z.v,.slice z.A z.n z.c]::cap).toArray w1 λr w'=>r=.returned (.bool (p z))/\Below w1.heap.size w1 w'):Calls prog 263 #[.slice A n c,.func (.func g) #[] cap.toArray] w λr w'=>∃v,r=.returned (.int .i64 v)/\(0<=v↔l.any p=true)/\Below w.heap.size w w':=by
 have hh:=Hp.start w;have hln:=hS.Fa PX.len U';refine da (N:=19) (l:=[.slice A n c,.func (.func g) #[] cap.toArray]) func263 rfl rfl (by simp) ?_;refine fa ?_;refine Ba [4,5,8,9,10,11,12,13,14,15,16,17,18] 8 (λv w'=>∃i:Nat,i<=n/\v=.int .i64 i/\(l.take i).any p=false/\Hp w [] w') (λv _=>n-(intOf v).toNat) ?_ ?_
 .exact⟨0,D' _,rfl,rfl,hh⟩
 clear hh;rintro ρ' v w' ⟨i,hi,rfl,hall,hh⟩;by_cases hlt:i<n
 .obtain⟨z,hz⟩:=ea (l:=l) (k:=i) Z';obtain⟨ad,rfl,hr⟩:=hS.at_ Z';have hc:=λw1=>hg z w1 (G' hz)
  cases gz:p z with
  |true=>
   rw[gz] at hc;refine fa ?_;refine wb (vs:=[_,_]) ya.out rfl ((hr.ext hh.below).recAt PX.len hz) rfl U' ?_;exact OV
  |false=>
   rw[gz] at hc;refine fa ?_;refine wb (vs:=[_,_]) ya.out rfl ((hr.ext hh.below).recAt PX.len hz) rfl U' ?_;exact Dw
 exact vQ
def Tx(A:Option Addr)(n c:Nat)(l:List PX)(g:FuncId)(cap:List Value)(p:PX->Bool)(w:World)(hS:Sl w A n 2 (na PX.cells l))(hn:n<=1000000)[ja prog g] (hg:∀(z:PX)(w1:World),z∈l->Below w.heap.size w w1->Calls prog g (.agg #[.int .i64 z.v,.slice z.A z.n z.c]::cap).toArray w1 λr w'=>r=.returned (.bool (p z))/\Below w1.heap.size w1 w'):Calls prog 207 #[.slice A n c,.func (.func g) #[] cap.toArray] w λr w'=>r=.returned (.bool (l.any p))/\Below w.heap.size w w':=by
 have hh:=Hp.start w;refine da (N:=9) (l:=[.slice A n c,.func (.func g) #[] cap.toArray]) func207 rfl rfl (by simp) ?_;refine fa ?_;refine qa (kK A n c l g cap p _ (hS.ext hh.below) hn hg) ja.out rfl U' ?_;exact CR
def Yt(L:Option Addr)(n c:Nat)(ps:List PX)(k:Nat)(w:World)(hT:Sc w)(hL:Sl w L n 2 (na PX.cells ps))(hn:n<=1000000)(hf:∀g∈ps,g.at_ w)(hl:∀g∈ps,g.Zg k):Calls prog 131 #[.slice L n c] w λr w'=>r=.returned (.int .i64 (bg ps))/\Below w.heap.size w w':=by
 have hh:=Hp.start w;have hln:=hL.Fa PX.len U';refine da (N:=26) (l:=[.slice L n c]) func131 rfl rfl (by simp) ?_;refine Jb ?_;intro b1 w1 hh;refine Ba [2,4,5,8,9,10,11,12,13,14,15,16,17] 8 (λv w'=>∃i:Nat,i<=n/\v=.int .i64 i/\(ps.take i).any (λg=>decide (g.e≠0))=false/\Hp w [.blk b1 47 [.slice L n c] (0,0)] w') (λv _=>n-(intOf v).toNat) ?_ ?_
 .exact⟨0,D' _,rfl,rfl,hh⟩
 clear hh;rintro ρ' v w' ⟨i,hi,rfl,hall,hh⟩;by_cases hlt:i<n
 .obtain⟨g,hx⟩:=ea (l:=ps) (k:=i) Z';have hmem:=G' hx;have hc:=λw1 hT1 hb=>rk g k w1 hT1 ((hf g hmem).ext hb) (hl g hmem);obtain⟨ad,rfl,hr⟩:=hL.at_ Z';by_cases he:g.e=0
  .refine fa ?_;refine uE ?_;exact aaD
  refine fa ?_;refine uE ?_;refine Sb ?_;intro b4 w4 hh ws hh;refine vx ?_;intro w13 hh;refine fa ?_;refine⟨?_,hh.below⟩;unfold bg;rw[Et hall hx (M_ he)]
 rw[W_ Z'] at hall;have hlk:bg ps=if ps.length=0\/az ps=true then 1 else 0:=by unfold bg;rw[Gh hall]
 rw[hlk];by_cases h0:n=0
 .refine fa ?_;exact⟨by rw[J' (.inl Z')],hh.below⟩
 have hcell:w'.cell? ⟨b1,0,none⟩=some (.slice L n c):=hh.eg (i:=0) rfl rfl;have ho:=λw1 hb=>Tx L n c ps 208 [.pointer (some ⟨b1,0,none⟩)] (λg=>decide (g.v≠(ps.map PX.v).headD 0)) w1 (hL.ext (hh.below.trans (hb.mono hh.below.size))) hn (λz w2 hz hb2=>mJ L n c ps z ⟨b1,0,none⟩ w2 ((hL.ext (hh.below.trans (hb.mono hh.below.size))).ext hb2) (ic hb2 (ic hb hcell)) Z')
 cases hod:az ps with
 |true=>
  have hod2:ps.any (λg=>decide (g.v≠(ps.map PX.v).headD 0))=true:=hod;exact aeF
 |false=>
  have hod2:ps.any (λg=>decide (g.v≠(ps.map PX.v).headD 0))=false:=hod;exact aeE
set_option maxRecDepth 100000 in
def MJ{H:Type}{enc:TypeId×Value->H}{sp:Nat->Bool}{held:Bool}{x:DataW H×List MemPlace}(h:DataW.trod enc prog W base sp held fuel 72 cs=some x):
  ∃t:TR,cs=t.cells/\True:=by
 have c0:prog.cellsOf 72=4:=by kernel_rfl
 have c1:prog.cellsOf 9=1:=by kernel_rfl
 have c2:prog.cellsOf 30=3:=by kernel_rfl
 obtain⟨y0,y1,n,_,hl,h0,h1⟩:=trod_struct2 Tryz.underlying72 h;obtain⟨s,e0,_,_⟩:=DataW.trod_string Tryz.underlying9 h0;obtain⟨a,e1,_⟩:=Jo h1;rw[c0] at hl
 match cs,hl with
 |[x0,x1,x2,x3],_=>
  simp only[c1,c2] at e0 e1;unfold NR.cells at e1;simp at e0 e1;obtain⟨e1,e2,e3⟩:=e1;subst e0 e1 e2 e3;exact⟨⟨s,a⟩,rfl,trivial⟩
set_option maxRecDepth 100000 in
def QH{H:Type}{enc:TypeId×Value->H}{sp:Nat->Bool}{held:Bool}{x:DataW H×List MemPlace}(h:DataW.trod enc prog W base sp held fuel 24 cs=some x):
  ∃g:PX,cs=g.cells/\(g.at_ W/\g.n<=g.c):=by
 have c0:prog.cellsOf 24=2:=by kernel_rfl
 have c1:prog.cellsOf 3=1:=by kernel_rfl
 have c2:prog.cellsOf 22=1:=by kernel_rfl
 obtain⟨y0,y1,n,_,hl,h0,h1⟩:=trod_struct2 Tryz.underlying24 h;obtain⟨z,e0,_,_⟩:=DataW.trod_int Tryz.underlying3 h0;obtain⟨B,m,b,k,e1,s1,_⟩:=gJ TR.len U' Tryz.underlying22 T' (λ_ _ _ h=>MJ h) h1;rw[e1] at h1;have hroom:=RO Tryz.underlying22 h1;rw[c0] at hl
 match cs,hl with
 |[x0,x1],_=>
  simp only[c1,c2] at e0 e1;simp at e0 e1;subst e0 e1;exact⟨⟨z,B,m,b,k⟩,rfl,s1,hroom⟩
set_option maxRecDepth 100000 in
def zJ{H:Type}{enc:TypeId×Value->H}{r:Reach}{sp:Nat->Bool}{held:Bool}{v:Value}{d:DataW H}{ps:List MemPlace} (hval:Value.okWide prog W r b0 47 v)(hd:DataW.Trod enc prog W base sp held 47 v d ps):∃(A:Option Addr)(n c:Nat)(l:List PX),v=.slice A n c/\Sl W A n 2 (na PX.cells l)/\∀g∈l,g.at_ W/\g.n<=g.c:=
 MA PX.len U' Tryz.underlying47 T' (λ_ _ _ h=>QH h) hval hd
structure SR where
 lo:NR
 hi:NR
def SR.cells(s:SR):List Value:=[.bool s.lo.neg,.string s.lo.Qa,.int .i64 s.lo.e,.bool s.hi.neg,.string s.hi.Qa,.int .i64 s.hi.e]
def SR.len(s:SR):(SR.cells s).length=6:=rfl
def SR.one(s:SR):(SR.cells s).all Value.oneCell'=true:=rfl
def OU(x y:Dyadic):Dyadic:=if y<x then y else x
def tR(x y:Dyadic):Dyadic:=if x<y then y else x
def DS(x y:Dyadic):vg (λx y=>decide (x<y)) [x,y]=OU x y:=by simp[vg,OU]
def YR(x y:Dyadic):vg (λx y=>decide (y<x)) [x,y]=tR x y:=by simp[vg,tR]
def SR.ye(s:SR):Dyadic:=OU s.lo.ma s.hi.ma
def SR.jh(s:SR):Dyadic:=tR s.lo.ma s.hi.ma
def SR.f(s:SR):SR:=⟨nR s.ye,nR s.jh⟩
def SR.ok(s:SR):Prop:=s.lo.ok/\s.hi.ok
def SR.has(s:SR)(x:Dyadic):Bool:=decide (¬x<s.ye/\¬s.jh<x)
def SR.wid(s:SR):Dyadic:=s.jh-s.ye
def SR.qh(s:SR):Dyadic:=(s.lo.ma+s.hi.ma)*Ie (-1)
def abS(x y:Dyadic):OU x y=x\/OU x y=y:=by unfold OU;split<;>simp
def abc(x y:Dyadic):tR x y=x\/tR x y=y:=by unfold tR;split<;>simp
def uU(x y:Dyadic):¬tR x y<OU x y:=by unfold tR OU;split<;>split<;>grind
structure cm(k:Nat)(a:NR):Prop where
 ok:a.ok
 sz:Sz k a.ma
def SR.fin(k:Nat)(s:SR):Prop:=cm k s.lo/\cm k s.hi
def cm.of{x:Dyadic}(h:Sz k x)(hk:k<=3000000):cm k (nR x):=⟨h.ok Z',by rw[Za];exact h⟩
def SR.szL{s:SR}(h:s.fin k):Sz k s.ye:=by
 unfold SR.ye;obtain e|e:=abS s.lo.ma s.hi.ma<;>rw[e]
 .exact h.1.sz
 exact h.2.sz
def SR.szH{s:SR}(h:s.fin k):Sz k s.jh:=by
 unfold SR.jh;obtain e|e:=abc s.lo.ma s.hi.ma<;>rw[e]
 .exact h.1.sz
 exact h.2.sz
def SR.Yo{s:SR}(h:s.fin k)(hk:k<=3000000):s.f.fin k:=⟨cm.of (SR.szL h) hk,cm.of (SR.szH h) hk⟩
def qI(L:Option Addr)(n c:Nat)(l:List NR)(w:World)(hT:Sc w)(hS:Sl w L n 3 (na NR.cells l))(hl:∀a∈l,a.ok)(hn:n<=1000000):Calls prog 95 #[.slice L n c] w λr w'=>r=.returned (.agg (SR.cells ⟨nR (vg (λx y=>decide (x<y)) (l.map NR.ma)),nR (vg (λx y=>decide (y<x)) (l.map NR.ma))⟩).toArray)/\Below w.heap.size w w':=by
 have hh:=Hp.start w;refine da (N:=8) (l:=[.slice L n c]) func95 rfl rfl (by simp) ?_;refine Jb ?_;intro b2 w2 hh;refine Oa hh (aJ L n c l _ (hT.hp hh) (hS.ext hh.below) hl hn) rfl ?_;intro w4 hh;refine mL ?_;refine Oa hh (Ly L n c l _ (hT.hp hh) (hS.ext hh.below) hl hn) rfl ?_;intro w6 hh;refine Jb ?_;intro ws hh;exact IY
def ew(s:SR)(w:World)(hT:Sc w)(hs:s.ok):Calls prog 126 #[.agg s.cells.toArray] w λr w'=>r=.returned (.agg s.f.cells.toArray)/\Below w.heap.size w w':=by
 have hh:=Hp.start w;have hc:=λL c w1 hT1 hS1=>qI L 2 c [s.lo,s.hi] w1 hT1 hS1 (by simpa using show s.lo.ok/\s.hi.ok from hs) Z';simp only[q_,G9,DS,YR] at hc;refine da (N:=10) (l:=[.agg s.cells.toArray]) func126 rfl rfl (by simp) ?_;refine Sb ?_;intro b1 w1 hh b2 w2 hh;refine Rq ?_;intro b7 w7 hh;refine Oa hh (hc _ _ _ (hT.hp hh) (hh.ra (i:=0) rfl)) rfl ?_;intro w8 hh;exact adE
def pC(s:SR)(w:World)(hT:Sc w)(hs:s.ok):Calls prog 136 #[.agg s.cells.toArray] w λr w'=>r=.returned (.agg s.f.cells.toArray)/\Below w.heap.size w w':=by
 have hh:=Hp.start w;refine da (N:=6) (l:=[.agg s.cells.toArray]) func136 rfl rfl (by simp) ?_;refine Sb ?_;intro b1 w1 hh b2 w2 hh;refine Oa hh (ew s _ (hT.hp hh) hs) rfl ?_;intro w4 hh;refine Jb ?_;intro ws hh;exact IY
def JU(x y:Dyadic):(Vg x y<=0)↔¬y<x:=by
 obtain h|h|h:=ZU x y
 .rw[Ap h];exact⟨λ_=>by grind,λ_=>by omega⟩
 .rw[h,bo];exact⟨λ_=>by grind,λ_=>by omega⟩
 rw[Jp h];exact⟨λh2=>by omega,λh2=>absurd h h2⟩
def SE(s:SR)(a:NR)(k:Nat)(w:World)(hT:Sc w)(hs:s.fin k)(ha:a.ok)(hk:k<=3000000):Calls prog 78 #[.agg s.cells.toArray,.agg #[.bool a.neg,.string a.Qa,.int .i64 a.e]] w λr w'=>r=.returned (.bool (s.has a.ma))/\Below w.heap.size w w':=by
 have hh:=Hp.start w;have hf:=SR.Yo hs hk;have h1:=λw1 hT1=>xh (nR s.ye) a w1 hT1 hf.1.ok ha;have h2:=λw1 hT1=>xh a (nR s.jh) w1 hT1 ha hf.2.ok;simp only[Za] at h1 h2;have e1:=JU s.ye a.ma;have e2:=JU a.ma s.jh;generalize Vg s.ye a.ma=c1 at*;generalize Vg a.ma s.jh=c2 at*;unfold SR.has;by_cases g1:c1<=0
 .by_cases g2:c2<=0
  .refine hQ ?_;refine Sb ?_;intro b2 w2 hh b3 w3 hh;refine YM ?_;intro w7 hh;refine Sb ?_;intro b5 w5 hh ws hh;refine Oa hh (h1 _ (hT.hp hh)) rfl ?_;intro w12 hh;refine fa ?_;refine Oa hh (h2 _ (hT.hp hh)) rfl ?_;intro w19 hh;refine fa ?_;exact⟨by rw[M_ ⟨e1.1 g1,e2.1 g2⟩],hh.below⟩
  refine hQ ?_;refine Sb ?_;intro b2 w2 hh b3 w3 hh;refine YM ?_;intro w7 hh;refine Sb ?_;intro b5 w5 hh ws hh;refine Oa hh (h1 _ (hT.hp hh)) rfl ?_;intro w12 hh;refine fa ?_;refine Oa hh (h2 _ (hT.hp hh)) rfl ?_;intro w19 hh;refine fa ?_;exact⟨by rw[O_ λh=>g2 (e2.2 h.2)],hh.below⟩
 refine hQ ?_;refine Sb ?_;intro b2 w2 hh b3 w3 hh;refine YM ?_;intro w7 hh;refine Sb ?_;intro b5 w5 hh ws hh;refine Oa hh (h1 _ (hT.hp hh)) rfl ?_;intro w12 hh;refine fa ?_;exact⟨by rw[O_ λh=>g1 (e1.2 h.1)],hh.below⟩
def uk(s:SR)(k:Nat)(w:World)(hT:Sc w)(hs:s.fin k)(hk:k<=3000000):Calls prog 65 #[.agg s.cells.toArray] w λr w'=>r=.returned (.agg #[.bool (nR s.wid).neg,.string (nR s.wid).Qa,.int .i64 (nR s.wid).e])/\Below w.heap.size w w':=by
 have hh:=Hp.start w;have hf:=SR.Yo hs hk;have hc:=λw1 hT1=>Bp (nR s.jh) (nR s.ye) w1 hT1 hf.2.ok hf.1.ok k hf.2.sz hf.1.sz Z';simp only[Za] at hc;refine da (N:=13) (l:=[.agg s.cells.toArray]) func65 rfl rfl (by simp) ?_;refine Sb ?_;intro b1 w1 hh b2 w2 hh;refine YM ?_;intro w5 hh;refine Sb ?_;intro b3 w3 hh ws hh;refine Oa hh (hc _ (hT.hp hh)) rfl ?_;intro w12 hh;exact FP
def Du(s:SR)(k:Nat)(w:World)(hT:Sc w)(hs:s.fin k)(hk:k<=3000000):Calls prog 146 #[.agg s.cells.toArray] w λr w'=>r=.returned (.agg #[.bool (nR s.qh).neg,.string (nR s.qh).Qa,.int .i64 (nR s.qh).e])/\Below w.heap.size w w':=by
 have hh:=Hp.start w;have hc:=λL c w1 hT1 hS1=>Kf L 2 c [s.lo,s.hi] w1 hT1 hS1 (by simpa using And.intro hs.1.ok hs.2.ok) k (by simpa using And.intro hs.1.sz hs.2.sz) Z';simp only[q_,G9,Rh] at hc;have ho:=(hs.1.sz.add hs.2.sz).ok Z';have hsh:=λw1 hT1=>Xr (nR (s.lo.ma+s.hi.ma)) (-1) w1 hT1 (by have:=ho.1;omega) (by have:=ho.2;omega) (by have:=ho.2;omega) Z' Z';rw[Za] at hsh;refine da (N:=10) (l:=[.agg s.cells.toArray]) func146 rfl rfl (by simp) ?_;refine Sb ?_;intro b1 w1 hh b2 w2 hh;refine Rq ?_;intro b7 w7 hh;refine Oa hh (hc _ _ _ (hT.hp hh) (hh.ra (i:=0) rfl)) rfl ?_;intro w8 hh;refine Oa hh (hsh _ (hT.hp hh)) rfl ?_;intro w9 hh;exact FP
set_option maxRecDepth 100000 in
def EJ{H:Type}{enc:TypeId×Value->H}{sp:Nat->Bool}{held:Bool}{x:DataW H×List MemPlace}(h:DataW.trod enc prog W base sp held fuel 36 cs=some x):
  ∃a:SR,cs=a.cells/\True:=by
 have c0:prog.cellsOf 36=6:=by kernel_rfl
 have c1:prog.cellsOf 30=3:=by kernel_rfl
 obtain⟨y0,y1,n,_,hl,h0,h1⟩:=trod_struct2 Tryz.underlying36 h;obtain⟨a,e0,_⟩:=Jo h0;obtain⟨b,e1,_⟩:=Jo h1;rw[c0] at hl
 match cs,hl with
 |[x0,x1,x2,x3,x4,x5],_=>
  simp only[c1] at e0 e1;simp[NR.cells] at e0 e1;obtain⟨rfl,rfl,rfl⟩:=e0;obtain⟨rfl,rfl,rfl⟩:=e1;exact⟨⟨a,b⟩,rfl,trivial⟩
set_option maxRecDepth 100000 in
def BT{H:Type}{enc:TypeId×Value->H}{r:Reach}{sp:Nat->Bool}{held:Bool}{v:Value}{d:DataW H}{ps:List MemPlace} (hval:Value.okWide prog W r b0 26 v)(hd:DataW.Trod enc prog W base sp held 26 v d ps):∃(A:Option Addr)(n c:Nat)(l:List SR),v=.slice A n c/\Sl W A n 6 (na SR.cells l)/\∀a∈l,True:=
 MA SR.len U' Tryz.underlying26 T' (λ_ _ _ h=>EJ h) hval hd
def sm{α:Type}:List α->(α->Dyadic)->Dyadic
 |[],_=>0
 |a::l,f=>f a+sm l f
def Xn(l m:List α)(f:α->Dyadic):sm (l++m) f=sm l f+sm m f:=by
 induction l with
 |nil=>simp[sm,M7]
 |cons a l ih=>simp only[C',sm,ih];grind
def bk(l:List α)(a:α)(f:α->Dyadic):sm (l++[a]) f=sm l f+f a:=by
 rw[Xn];simp only[sm];grind
def md{l:List α}{f g:α->Dyadic}(h:∀a∈l,f a=g a):sm l f=sm l g:=by
 induction l with
 |nil=>rfl
 |cons a l ih=>rw[sm,sm,h a q',ih λb hb=>h b (F' _ hb)]
def ko{l:List α}{f:α->Dyadic}(h:∀a∈l,f a=0):sm l f=0:=by
 induction l with
 |nil=>rfl
 |cons a l ih=>rw[sm,h a q',ih λb hb=>h b (F' _ hb)];grind
def bK(l:List α)(f g:α->Dyadic):sm l (λa=>f a+g a)=sm l f+sm l g:=by
 induction l with
 |nil=>simp[sm]
 |cons a l ih=>simp only[sm,ih];grind
def Ht(l:List α)(f:α->Dyadic)(c:Dyadic):sm l (λa=>f a*c)=sm l f*c:=by
 induction l with
 |nil=>simp only[sm];grind
 |cons a l ih=>simp only[sm,ih];grind
def Vk(l:List α)(f:α->Dyadic)(c:Dyadic):sm l (λa=>c*f a)=c*sm l f:=by
 induction l with
 |nil=>simp only[sm];grind
 |cons a l ih=>simp only[sm,ih];grind
variable {β:Type}
def Fy(l:List α)(g:α->β)(f:β->Dyadic):sm (l.map g) f=sm l λa=>f (g a):=by
 induction l with
 |nil=>rfl
 |cons a l ih=>rw[q_,sm,sm,ih]
def rN(l:List α)(m:List β)(f:α->β->Dyadic):sm l (λa=>sm m (f a))=sm m λb=>sm l λa=>f a b:=by
 induction l with
 |nil=>exact(ko λb _=>rfl).symm
 |cons a l ih=>simp only[sm];rw[ih,<-bK]
def vP(l:List α)(p:α->Bool)(f:α->Dyadic)(h:∀a∈l,p a=false->f a=0):sm (l.filter p) f=sm l f:=by
 induction l with
 |nil=>rfl
 |cons a l ih=>
  rw[sm,<-ih λb hb=>h b (F' _ hb)]
  cases hp:p a with
  |true=>rw[List.filter_cons_of_pos hp,sm]
  |false=>rw[C5 (by rw[hp];exact Bool.false_ne_true),h a q' hp];grind
def EB(n p:Nat)(c:Dyadic):sm (List.range n) (λq=>if q=p then c else 0)=if p<n then c else 0:=by
 induction n with
 |zero=>rw[L' Z'];rfl
 |succ n ih=>
  rw[P8,bk,ih];obtain h|h|h:=Nat.lt_trichotomy p n
  .rw[J' h,L' (show ¬n=p by omega),J' (show p<n+1 by omega)];grind
  .rw[L' (show ¬p<n by omega),J' h.symm,J' (show p<n+1 by omega)];grind
  rw[L' (show ¬p<n by omega),L' (show ¬n=p by omega),L' (show ¬p<n+1 by omega)];grind
def ui(N:Nat)(L:List (Nat×Dyadic)):List Dyadic:=(List.range N).map λp=>sm L λq=>if q.1=p then q.2 else 0
def mi(N:Nat)(L:List (Nat×Dyadic)):(ui N L).length=N:=by simp[ui]
def Kw(N:Nat):ui N []=List.replicate N 0:=by
 refine List.ext_getElem (by simp[ui]) λi h1 h2=> ?_;simp[ui,sm]
def xo{p:Nat}(L:List (Nat×Dyadic))(h:p<N):(ui N L)[p]?=some (sm L λq=>if q.1=p then q.2 else 0):=by
 unfold ui;rw[V_,z9 h];rfl
def nB{p:Nat}{L:List (Nat×Dyadic)}{x v:Dyadic}(h:(ui N L)[p]?=some x):(ui N L).set p (x+v)=ui N (L++[(p,v)]):=by
 have hp:p<N:=by have:=(X_.1 h).1;rwa[mi] at this
 rw[xo L hp] at h;refine V9 λi=> ?_;rw[F9];by_cases hi:p=i
 .subst hi;rw[J' rfl,mi,J' hp,xo _ hp,bk,<-L_ h,J' rfl]
 rw[L' hi];by_cases hin:i<N
 .rw[xo _ hin,xo _ hin,bk,L' hi];congr 1;grind
 rw[t_ (by rw[mi];omega),t_ (by rw[mi];omega)]
def aQ{l:List α}{f:α->Dyadic}(h:∀a∈l,Sz k (f a)):Sz (k+l.length) (sm l f):=by
 induction l with
 |nil=>exact Sz.zero _
 |cons a l ih=>
  have h1:=ih λb hb=>h b (F' _ hb);have h2:=((h a q').mono (show k<=k+l.length by omega)).add h1;rw[sm,E_];exact h2.mono Z'
def PC{L:List (Nat×Dyadic)}(h:∀a∈L,Sz k a.2):∀x∈ui N L,Sz (k+L.length) x:=λx hx=>by
 obtain⟨p,_,rfl⟩:=Z_.1 hx;refine aQ λa ha=> ?_;split
 .exact h a ha
 exact Sz.zero _
def la:List Nat->Nat
 |[]=>1
 |d::ds=>(d+1)*la ds
def Eb:List Nat->Nat->List Nat
 |[],_=>[]
 |d::ds,p=>p % (d+1)::Eb ds (p/(d+1))
def Jd:List Nat->List Nat->Nat
 |d::ds,r::rs=>r+(d+1)*Jd ds rs
 |_,_=>0
def Nj:List Nat->List Nat->Prop
 |[],[]=>True
 |d::ds,r::rs=>r<=d/\Nj ds rs
 |_,_=>False
def Cc(ds:List Nat):0<la ds:=by
 induction ds with
 |nil=>exact Nat.one_pos
 |cons d ds ih=>exact H7 Z' ih
def Gn:∀(ds:List Nat)(p:Nat),(Eb ds p).length=ds.length
 |[],_=>rfl
 |d::ds,p=>by rw[Eb,E_,Gn ds,E_]
def Lo:∀(ds:List Nat)(p:Nat),Nj ds (Eb ds p)
 |[],_=>trivial
 |d::ds,p=>⟨by have:=B_ p (show 0<d+1 by omega);omega,Lo ds _⟩
def xE:∀{ds:List Nat}{p:Nat},p<la ds->Jd ds (Eb ds p)=p
 |[],p,h=>(by have:p<1:=h;show 0=p;omega)
 |d::ds,p,h=>by
  have h1:p/(d+1)<la ds:=by rw[D9 Z',G_];exact h
  rw[Eb,Jd,xE h1,P6]
def Vj:∀{ds rs:List Nat},Nj ds rs->Jd ds rs<la ds
 |[],[],_=>Nat.one_pos
 |d::ds,r::rs,h=>(by have h1:=Vj h.2;have h2:=h.1;rw[Jd,la];have h3:(d+1)*Jd ds rs+(d+1)<=(d+1)*la ds:=(by have:=k_ (d+1) (show Jd ds rs+1<=la ds by omega);rw[X9,I_] at this;exact this);omega)
def Wh:∀{ds rs:List Nat},Nj ds rs->Eb ds (Jd ds rs)=rs
 |[],[],_=>rfl
 |d::ds,r::rs,h=>(by have h2:=h.1;rw[Jd,Eb,R7,h_ Z',Q8 _ _ Z',L9 Z',C_,Wh h.2])
def QW(d:Nat)(ds:List Nat)(f:Nat->Dyadic):sm (List.range (la (d::ds))) f=sm (List.range (la ds)) λq=>sm (List.range (d+1)) λr=>f (r+(d+1)*q):=by
 have key:∀n,sm (List.range ((d+1)*n)) f=sm (List.range n) λq=>sm (List.range (d+1)) λr=>f (r+(d+1)*q):=λn=>by
  induction n with
  |zero=>rfl
  |succ n ih=>
   rw[P8,bk,<-ih,O8,List.range_add,Xn,Fy];congr 1;exact md λa _=>by rw[o8]
 exact key _
def aaY(d:Int):List Int:=(List.range (d.toNat+1)).map λ(k:Nat)=>(k:Int)
def ab0:List Int->List (List Int)
 |[]=>[[]]
 |d::ds=>(aaY d).flatMap λk=>(ab0 ds).map (k:: ·)
def ie(n:Nat):List Int:=List.replicate n 0
def nxt:List Int->List Int->Option (List Int)
 |d::ds,k::l=>match nxt ds l with
  |some l'=>some (k::l')
  |none=>if k<d then some ((k+1)::ie l.length) else none
 |_,_=>none
def agh{α:Type}(f:α->Option α):α->List α->Prop
 |a,[b]=>b=a/\f a=none
 |a,b::L=>b=a/\∃c,f a=some c/\agh f c L
 |_,[]=>False
def Nr(n:Nat):(ie n).length=n:=by simp[ie]
def okN:Int->List Int->Bool
 |_,[]=>true
 |n,d::ds=>decide (0<=d) && (decide (d<=127) && (decide (n*(d+1)<=65536) && okN (n*(d+1)) ds))
def fX(l:List Int):ByteArray:=str (l.map XB)
def aiv(ds:List Int):List ByteArray:=if okN 1 ds then(ab0 ds).map fX else[]
def gX(d:Int)(s:ByteArray):List ByteArray:=(aaY d).map λq=>s++str [XB q]
def aiq(ls:List Int)(k n:Nat):List Int:=ls.take k++ie (n-k)
def bin:Nat->Nat->Nat
 |_,0=>1
 |0,_+1=>0
 |n+1,k+1=>bin n k+bin n (k+1)
def Pr(n:Nat):bin n 0=1:=by cases n<;>rfl
def xv:∀{n k:Nat},n<k->bin n k=0
 |0,k+1,_=>rfl
 |n+1,k+1,h=>by rw[bin,xv (show n<k by omega),xv (show n<k+1 by omega)]
def dH:∀n,bin n n=1
 |0=>rfl
 |n+1=>by rw[bin,dH n,xv (show n<n+1 by omega)]
def ND:∀n k:Nat,bin n k<=2^n
 |n,0=>by rw[Pr];exact r_ U'
 |0,k+1=>D' _
 |n+1,k+1=>(by have h1:=ND n k;have h2:=ND n (k+1);rw[bin,i_];omega)
def Zu(n:Nat):List Nat:=(List.range (n+1)).map (bin n)
def Sx(n:Nat):(Zu n).length=n+1:=by simp[Zu]
def JB(h:k<=n):(Zu n)[k]?=some (bin n k):=by
 unfold Zu;exact jV
def nD(n:Nat):Dyadic:=((n:Int):Dyadic)
def uM:nD 0=0:=rfl
def VI:nD 1=1:=rfl
def qD(a b:Nat):nD (a+b)=nD a+nD b:=by
 show Dyadic.ofIntWithPrec ((a+b:Nat):Int) 0=Dyadic.ofIntWithPrec (a:Int) 0+Dyadic.ofIntWithPrec (b:Int) 0;rw[Tr,F8]
def abB(a b:Nat):nD (a*b)=nD a*nD b:=by
 induction a with
 |zero=>rw[X6,uM];grind
 |succ a ih=>rw[n9,qD,qD,ih,VI];grind
def aai(h:n<2^k):Sz k (nD n):=by
 refine⟨(n:Int)*2^k, ?_, ?_⟩
 .have:=Mo (n:Int) 0 k;rw[show(0:Int)+(k:Int)=k by omega] at this;rw[this];rfl
 rw[U8,X7,Int.natAbs_natCast,show 2*k=k+k by omega,D_];exact n8 h (r_ U')
def Ay{α β:Type}{m:Nat}(hm:0<m)(g:α->List β):∀(l:List α)(p:Nat),(∀a∈l,(g a).length=m)->(l.flatMap g)[p]?=(l[p/m]?).bind λa=>(g a)[p % m]?
 |[],p,_=>by simp
 |a::l,p,h=>by
  have ha:=h a q';rw[G7];by_cases hp:p<m
  .rw[X8 Z',L9 hp,h_ hp];rfl
  obtain⟨q,rfl⟩:∃q,p=q+m:=⟨p-m,Z'⟩;rw[I9 Z',ha,Nat.add_sub_cancel,Ay hm g l q λb hb=>h b (F' _ hb),Nat.add_div_right _ hm,Nat.add_mod_right,N6]
def Fu{α β:Type}{m:Nat}(g:α->List β):∀(l:List α),(∀a∈l,(g a).length=m)->(l.flatMap g).length=l.length*m
 |[],_=>by simp
 |a::l,h=>(by rw[G7,Y_,h a q',Fu g l λb hb=>h b (F' _ hb),E_,n9,o8])
def Ua(l:List Nat):List Int:=l.map λ(n:Nat)=>(n:Int)
def Ic(l:List Nat):(Ua l).length=l.length:=by simp[Ua]
def He{l:List Nat}{i:Nat}(h:l[i]?=some n):(Ua l)[i]?=some (n:Int):=by simp[Ua,h]
variable {ds:List Nat}
def UL:∀{ds rs:List Nat},Nj ds rs->rs.length=ds.length
 |[],[],_=>rfl
 |_::_,_::_,h=>by rw[E_,E_,UL h.2]
def nT{rs:List Nat}{i d r:Nat}(hd:ds[i]?=some d)(hr:rs[i]?=some r):Jd (ds.take (i+1)).reverse (rs.take (i+1)).reverse=r+(d+1)*Jd (ds.take i).reverse (rs.take i).reverse:=by
 rw[oa hd,oa hr];simp[Jd]
def TQ{i d:Nat}(hd:ds[i]?=some d):la (ds.take (i+1)).reverse=(d+1)*la (ds.take i).reverse:=by
 rw[oa hd];simp[la]
def Sd(a b:List Nat):la (a++b)=la a*la b:=by
 induction a with
 |nil=>simp[la]
 |cons d a ih=>rw[C',la,la,ih,J9]
def Ud(ds:List Nat):la ds.reverse=la ds:=by
 induction ds with
 |nil=>rfl
 |cons d ds ih=>rw[D7,Sd,ih,la,la,la,I_,G_]
def Gg(ds:List Nat)(i:Nat):la (ds.take i)<=la ds:=by
 have:ds=ds.take i++ds.drop i:=(P9 i ds).symm
 calc la (ds.take i)=la (ds.take i)*1:=(I_ _).symm
  _<=la (ds.take i)*la (ds.drop i):=k_ _ (Cc _)
  _=la ds:=by rw[<-Sd,P9]
def kj(A:Option Addr)(n c:Nat)(ds:List Int)(w:World)(hS:Sl w A n 1 (jb ds))(hn:n<=1000000):Calls prog 164 #[.slice A n c] w λr w'=>∃B c',r=.returned (.slice B n c')/\w'.ownsRow w.heap.size 3 1 (.slice B n c') n (jb ds)/\Below w.heap.size w w':=by
 have hh:=Hp.start w;obtain _|ad:=A
 .have hn0:n=0:=(by exact ack);subst hn0;have hl:ds=[]:=C8 (by simpa[jb] using hS.1);subst hl;refine da (N:=8) (l:=[.slice none 0 c]) func164 rfl rfl (by simp) ?_;exact VR
 refine da (N:=8) (l:=[.slice (some ad) n c]) func164 rfl rfl (by simp) ?_;refine fa ?_;refine eH ?_;intro b5 w5 hh;refine mL ?_;refine Gb hh (i:=0) rfl rfl rfl (hS.ext hh.below) lb.out ya.out rfl U' ?one1 Z' Z' U' ?kk1
 case one1=>first|rfl|assumption|exact Pa _|exact oneCells_u8s _
 exact tV
def Ir(A:Option Addr)(n c:Nat)(xs:List NR)(w:World)(hS:Sl w A n 3 (na NR.cells xs))(hn:n<=1000000):Calls prog 236 #[.slice A n c] w λr w'=>∃B c',r=.returned (.slice B n c')/\w'.ownsRow w.heap.size 30 3 (.slice B n c') n (na NR.cells xs)/\Below w.heap.size w w':=by
 have hh:=Hp.start w;obtain _|ad:=A
 .have hn0:n=0:=(by exact ack);subst hn0;have hl:xs=[]:=C8 (by have:=hS.Fa NR.len U';omega);subst hl;refine da (N:=8) (l:=[.slice none 0 c]) func236 rfl rfl (by simp) ?_;exact VR
 have hone:((na NR.cells xs).all Value.oneCell')=true:=Ta NR.one _;refine da (N:=8) (l:=[.slice (some ad) n c]) func236 rfl rfl (by simp) ?_;refine fa ?_;refine eH ?_;intro b5 w5 hh;refine mL ?_;refine Gb hh (i:=0) rfl rfl rfl (hS.ext hh.below) lb.out ya.out rfl U' ?one2 Z' Z' U' ?kk2
 case one2=>first|rfl|assumption|exact Pa _|exact oneCells_u8s _
 exact tV
def rI(A:Option Addr)(n c:Nat)(l:List Int)(g:FuncId)(cap:List Value)(p:Int->Bool)(w:World)(hS:Sl w A n 1 (jb l))(hn:n<=1000000)[ja prog g] (hg:∀(z:Int)(w1:World),z∈l->Below w.heap.size w w1->Calls prog g (.int .i64 z::cap).toArray w1 λr w'=>r=.returned (.bool (p z))/\Below w1.heap.size w1 w'):Calls prog 239 #[.slice A n c,.func (.func g) #[] cap.toArray] w λr w'=>∃v,r=.returned (.int .i64 v)/\(0<=v↔l.any p=true)/\Below w.heap.size w w':=by
 have hh:=Hp.start w;have hln:l.length=n:=by have:=hS.1;simpa[jb] using this
 refine da (N:=19) (l:=[.slice A n c,.func (.func g) #[] cap.toArray]) func239 rfl rfl (by simp) ?_;refine fa ?_;refine Ba [4,5,8,9,10,11,12,13,14,15,16,17,18] 8 (λv w'=>∃i:Nat,i<=n/\v=.int .i64 i/\(l.take i).any p=false/\Hp w [] w') (λv _=>n-(intOf v).toNat) ?_ ?_
 .exact⟨0,D' _,rfl,rfl,hh⟩
 clear hh;rintro ρ' v w' ⟨i,hi,rfl,hall,hh⟩;by_cases hlt:i<n
 .obtain⟨z,hz⟩:=ea (l:=l) (k:=i) Z';have hgi:=Uc hz;obtain⟨ad,rfl,hr⟩:=hS.at_ Z';have hc:=λw1=>hg z w1 (G' hz)
  cases gz:p z with
  |true=>
   rw[gz] at hc;refine fa ?_;refine Iq ?_;exact OV
  |false=>
   rw[gz] at hc;refine fa ?_;refine Iq ?_;exact Dw
 exact vQ
def RJ(A:Option Addr)(n c:Nat)(l:List Int)(g:FuncId)(cap:List Value)(p:Int->Bool)(w:World)(hS:Sl w A n 1 (jb l))(hn:n<=1000000)[ja prog g] (hg:∀(z:Int)(w1:World),z∈l->Below w.heap.size w w1->Calls prog g (.int .i64 z::cap).toArray w1 λr w'=>r=.returned (.bool (p z))/\Below w1.heap.size w1 w'):Calls prog 171 #[.slice A n c,.func (.func g) #[] cap.toArray] w λr w'=>r=.returned (.bool (l.any p))/\Below w.heap.size w w':=by
 have hh:=Hp.start w;refine da (N:=9) (l:=[.slice A n c,.func (.func g) #[] cap.toArray]) func171 rfl rfl (by simp) ?_;refine fa ?_;refine qa (rI A n c l g cap p _ (hS.ext hh.below) hn hg) ja.out rfl U' ?_;exact CR
def NJ(A:Option Addr)(n c:Nat)(l:List NR)(g:FuncId)(cap:List Value)(p:NR->Bool)(w:World)(hS:Sl w A n 3 (na NR.cells l))(hn:n<=1000000)[ja prog g] (hg:∀(z:NR)(w1:World),z∈l->Below w.heap.size w w1->Calls prog g (.agg #[.bool z.neg,.string z.Qa,.int .i64 z.e]::cap).toArray w1 λr w'=>r=.returned (.bool (p z))/\Below w1.heap.size w1 w'):Calls prog 240 #[.slice A n c,.func (.func g) #[] cap.toArray] w λr w'=>∃v,r=.returned (.int .i64 v)/\(0<=v↔l.any p=true)/\Below w.heap.size w w':=by
 have hh:=Hp.start w;have hln:=hS.Fa NR.len U';refine da (N:=19) (l:=[.slice A n c,.func (.func g) #[] cap.toArray]) func240 rfl rfl (by simp) ?_;refine fa ?_;refine Ba [4,5,8,9,10,11,12,13,14,15,16,17,18] 8 (λv w'=>∃i:Nat,i<=n/\v=.int .i64 i/\(l.take i).any p=false/\Hp w [] w') (λv _=>n-(intOf v).toNat) ?_ ?_
 .exact⟨0,D' _,rfl,rfl,hh⟩
 clear hh;rintro ρ' v w' ⟨i,hi,rfl,hall,hh⟩;by_cases hlt:i<n
 .obtain⟨z,hz⟩:=ea (l:=l) (k:=i) Z';obtain⟨ad,rfl,hr⟩:=hS.at_ Z';have hc:=λw1=>hg z w1 (G' hz)
  cases gz:p z with
  |true=>
   rw[gz] at hc;refine fa ?_;refine wb (vs:=[_,_,_]) ya.out rfl ((hr.ext hh.below).recAt NR.len hz) rfl U' ?_;exact OV
  |false=>
   rw[gz] at hc;refine fa ?_;refine wb (vs:=[_,_,_]) ya.out rfl ((hr.ext hh.below).recAt NR.len hz) rfl U' ?_;exact Dw
 exact vQ
def lK(A:Option Addr)(n c:Nat)(l:List NR)(g:FuncId)(cap:List Value)(p:NR->Bool)(w:World)(hS:Sl w A n 3 (na NR.cells l))(hn:n<=1000000)[ja prog g] (hg:∀(z:NR)(w1:World),z∈l->Below w.heap.size w w1->Calls prog g (.agg #[.bool z.neg,.string z.Qa,.int .i64 z.e]::cap).toArray w1 λr w'=>r=.returned (.bool (p z))/\Below w1.heap.size w1 w'):Calls prog 173 #[.slice A n c,.func (.func g) #[] cap.toArray] w λr w'=>r=.returned (.bool (l.any p))/\Below w.heap.size w w':=by
 have hh:=Hp.start w;refine da (N:=9) (l:=[.slice A n c,.func (.func g) #[] cap.toArray]) func173 rfl rfl (by simp) ?_;refine fa ?_;refine qa (NJ A n c l g cap p _ (hS.ext hh.below) hn hg) ja.out rfl U' ?_;exact CR
def eh:Int->List Int->Int
 |n,[]=>n
 |n,d::ds=>if d<0\/127<d\/4096<n*(d+1) then 0 else eh (n*(d+1)) ds
def adH:Int->List Int->Int
 |n,[]=>n
 |n,d::ds=>adH (min (n*(d+1)) 4097) ds
def ahQ(ds:List Int):Int:=if ds.any (λd=> !Td d) then -1 else adH 1 ds
def pz(a:NR):Bool:= !(((nR a.ma).neg==a.neg && (nR a.ma).Qa==a.Qa) && (nR a.ma).e==a.e)
def Kr{a:NR}:pz a=false↔nR a.ma=a:=by
 unfold pz;rw[Bool.not_eq_false',im]
def fE(ds:List Int)(cs:List NR):Int:=
 if 12<ds.length\/ds.any (λd=> !Td d)=true then 1 else if eh 1 ds=0 then 3 else if(cs.length:Int)≠eh 1 ds then 1 else if cs.any pz=true then 1 else 0
def dP{ds:List Int}(h:ds.any (λd=> !Td d)=false):∃ns:List Nat,ds=Ua ns/\∀n∈ns,n<=127:=by
 refine⟨ds.map Int.toNat, ?_,λn hn=> ?_⟩
 .unfold Ua;rw[Z9];refine(C6 ds).symm.trans (y8 λd hd=> ?_);have:=p9.1 h d hd;simp[Td] at this;show d=((d.toNat:Nat):Int);omega
 obtain⟨d,hd,rfl⟩:=Z_.1 hn;have:=p9.1 h d hd;simp[Td] at this;omega
def UJ{ns:List Nat}(h:∀n∈ns,n<=127):(Ua ns).any (λd=> !Td d)=false:=by
 rw[p9];intro d hd;obtain⟨n,hn,rfl⟩:=Z_.1 hd;have:=h n hn;simp[Td];omega
def Ri:∀(ns:List Nat)(n:Nat),1<=n->n<=4096->(∀d∈ns,d<=127)->eh n (Ua ns)=if n*la ns<=4096 then((n*la ns:Nat):Int) else 0
 |[],n,_,h,_=>by show(n:Int)=_;rw[la,I_,J' h]
 |d::ns,n,h1,h2,h3=>by
  show(if(d:Int)<0\/127<(d:Int)\/4096<(n:Int)*((d:Int)+1) then 0 else eh ((n:Int)*((d:Int)+1)) (Ua ns))=_;have hd:=h3 d q';have e1:(n:Int)*((d:Int)+1)=((n*(d+1):Nat):Int):=by rw[m9,F8];rfl
  rw[e1];by_cases hg:n*(d+1)<=4096
  .rw[L' Z',Ri ns (n*(d+1)) (H7 h1 Z') hg λx hx=>h3 x (F' _ hx),la,J9]
  have h4:n*(d+1)*1<=n*(d+1)*la ns:=k_ _ (Cc ns);rw[J' Z',L'];rw[la,<-J9];omega
def pM:∀(ds:List Int)(n:Int),1<=n->n<=4096->0<=eh n ds/\eh n ds<=4096
 |[],n,_,h=>by show 0<=n/\n<=4096;omega
 |d::ds,n,h1,h2=>by
  rw[eh];split
  .omega
  rename_i hg;have:1*1<=n*(d+1):=Int.mul_le_mul h1 Z' U' Z';exact pM ds _ Z' Z'
variable {xs:List Dyadic}
structure FV(ds:List Int)(cs:List NR)(ns:List Nat)(xs:List Dyadic):Prop where
 deg:ds=Ua ns
 num:cs=xs.map nR
 few:ns.length<=12
 low:∀n∈ns,n<=127
 len:xs.length=la ns
 max:la ns<=4096
def aa2{ds:List Int}{cs:List NR}(h:fE ds cs=0):∃ns xs,FV ds cs ns xs/\xs=cs.map NR.ma:=by
 unfold fE at h;split at h
 .cases h
 rename_i h1;split at h
 .cases h
 rename_i h2;split at h
 .cases h
 rename_i h3;split at h
 .cases h
 rename_i h4;have hb:ds.any (λd=> !Td d)=false:=by
  cases hx:ds.any (λd=> !Td d) with
  |false=>rfl
  |true=>exact absurd (.inr hx) h1
 obtain⟨ns,rfl,hl⟩:=dP hb;have hc:=Ri ns 1 U' U' hl;rw[Y7] at hc;have hc1:eh ((1:Nat):Int) (Ua ns)=eh 1 (Ua ns):=rfl;rw[hc1] at hc;have hmax:la ns<=4096:=(by apply a8;intro hg;rw[L' hg] at hc;exact h2 hc);rw[J' hmax] at hc;have hlen:cs.length=la ns:=(by have:(cs.length:Int)=eh 1 (Ua ns):=P7.1 h3;rw[hc] at this;omega);refine⟨ns,cs.map NR.ma,⟨rfl, ?_,(by have h2:¬12<(Ua ns).length:=λh=>h1 (.inl h);rw[Ic] at h2;omega),hl,by rw[i',hlen],hmax⟩,rfl⟩;rw[Z9];refine(C6 cs).symm.trans (y8 λa ha=> ?_);have h5:pz a=false:=by
  cases hx:pz a with
  |false=>rfl
  |true=>exact absurd (k9.2 ⟨a,ha,hx⟩) h4
 exact(Kr.1 h5).symm
def FV.ok{ds:List Int}{cs:List NR}{ns:List Nat}(h:FV ds cs ns xs):fE ds cs=0:=by
 obtain⟨rfl,rfl,h1,h2,h3,h4⟩:=h;have hc:=Ri ns 1 U' U' h2;rw[Y7,J' h4] at hc;have hc1:eh ((1:Nat):Int) (Ua ns)=eh 1 (Ua ns):=rfl;rw[hc1] at hc;have hp:=Cc ns;unfold fE;rw[L',L' Z',L' (by rw[i'];omega),L']
 .rw[k9];rintro ⟨a,ha,hx⟩;obtain⟨x,_,rfl⟩:=Z_.1 ha;have:pz (nR x)=false:=Kr.2 (by rw[Za]);rw[this] at hx
  cases hx
 rw[Ic,UJ h2];rintro (h|h)
 .omega
 cases h
def Re(A:Option Addr)(n c:Nat)(ds:List Int)(w:World)(hS:Sl w A n 1 (jb ds))(hn:n<=1000000):Calls prog 165 #[.slice A n c] w λr w'=>r=.returned (.int .i64 (eh 1 ds))/\Below w.heap.size w w':=by
 have hh:=Hp.start w;have hln:ds.length=n:=by have:=hS.1;simpa[jb] using this
 refine da (N:=31) (l:=[.slice A n c]) func165 rfl rfl (by simp) ?_;refine fa ?_;refine Ra [2,3,5,8,9,10,11,12,13,14,15,16,17,18,19,20,21,22,23,24,25,26,27,28,29] 3 8 (λv3 v w'=>∃(i:Nat)(q:Int),i<=n/\v=.int .i64 i/\v3=.int .i64 q/\1<=q/\q<=4096/\eh 1 ds=eh q (ds.drop i)/\Hp w [] w') (λ_ v _=>n-(intOf v).toNat) ?_ ?_
 .exact⟨0,1,D' _,rfl,rfl,Z',Z',rfl,hh⟩
 clear hh;rintro ρ' v3 v w' ⟨i,q,hi,rfl,rfl,hq1,hq2,hc,hh⟩;by_cases hlt:i<n
 .obtain⟨d,hd⟩:=ea (l:=ds) (k:=i) Z';have hgi:=Uc hd;obtain⟨ad,rfl,hr⟩:=hS.at_ Z';rw[Ge hd,eh] at hc;by_cases h1:d<0
  .rw[J' (.inl h1)] at hc;exact abT
  by_cases h2:127<d
  .rw[J' (.inr (.inl h2))] at hc;exact abT
  have hm1:1*1<=q*(d+1):=Int.mul_le_mul hq1 Z' U' Z';have hm2:q*(d+1)<=4096*128:=Int.mul_le_mul hq2 Z' Z' U';by_cases h3:4096<q*(d+1)
  .rw[J' (.inr (.inr h3))] at hc;exact abT
  rw[L' Z'] at hc;refine fa ?_;refine Iq ?_;refine fa ?_;refine⟨⟨i+1,_,Z',rfl,rfl,Z',Z',hc,hh⟩,by show n-(i+1)<n-i;omega, ?_⟩;exact Rc
 rw[B8 Z'] at hc;refine fa ?_;exact⟨by rw[hc];rfl,hh.below⟩
def cK(d:Int)(w:World):Calls prog 172 #[.int .i64 d] w λr w'=>r=.returned (.bool (!Td d))/\Below w.heap.size w w':=by
 have hh:=Hp.start w;by_cases h1:d<0
 .refine da (N:=9) (l:=[.int .i64 d]) func172 rfl rfl (by simp) ?_;refine fa ?_;refine⟨?_,hh.below⟩;unfold Td;rw[O_ (show ¬0<=d by omega)];rfl
 by_cases h2:127<d
 .refine da (N:=9) (l:=[.int .i64 d]) func172 rfl rfl (by simp) ?_;refine fa ?_;refine⟨?_,hh.below⟩;unfold Td;rw[O_ (show ¬d<=127 by omega),Bool.and_false];rfl
 refine da (N:=9) (l:=[.int .i64 d]) func172 rfl rfl (by simp) ?_;refine fa ?_;refine⟨?_,hh.below⟩;unfold Td;rw[M_ (show 0<=d by omega),M_ (show d<=127 by omega)];rfl
def TJ(a:NR)(w:World)(hT:Sc w)(ha:a.ok):Calls prog 174 #[.agg #[.bool a.neg,.string a.Qa,.int .i64 a.e]] w λr w'=>r=.returned (.bool (pz a))/\Below w.heap.size w w':=by
 have hh:=Hp.start w;have hf:=λw1 hT1=>Ed a w1 hT1 (by have:=ha.1;omega) (by have:=ha.2;omega) (by have:=ha.2;omega)
 cases hx:pz a with
 |false=>
  have he:=Kr.1 hx;refine da (N:=7) (l:=[.agg #[.bool a.neg,.string a.Qa,.int .i64 a.e]]) func174 rfl rfl (by simp) ?_;refine Jb ?_;intro b1 w1 hh;refine Ca 3 [[(1,none)],[(3,some 0)],[(1,none)]] [(2,5),(1,4),(0,3)] hh mixed T' ?_;refine Vd 0 [_,_,_] ?_;refine dC (λ_ hj=>hf _ (hT.hp hj.hp)) ?_;refine Vd 0 [_,_,_] ?_;refine xa ?_;intro f W hJ hV;have hb_1:=hJ.bl;obtain⟨v5,v4,v3,_⟩:=hV;replace hh:=hJ.hp;refine Da (Na (aa v5 (aa v4 (aa v3 Ea)))) ?_;dsimp only[Bb];clear hJ;refine sY rfl rfl (by first|assumption|rfl) U' ?_;refine fa ?_;exact⟨rfl,hh.below⟩
 |true=>
  have he:¬nR a.ma=a:=λh=>by rw[Kr.2 h] at hx;cases hx
  refine da (N:=7) (l:=[.agg #[.bool a.neg,.string a.Qa,.int .i64 a.e]]) func174 rfl rfl (by simp) ?_;refine Jb ?_;intro b1 w1 hh;refine Ca 3 [[(1,none)],[(3,some 0)],[(1,none)]] [(2,5),(1,4),(0,3)] hh mixed T' ?_;refine Vd 0 [_,_,_] ?_;refine dC (λ_ hj=>hf _ (hT.hp hj.hp)) ?_;refine Vd 0 [_,_,_] ?_;refine xa ?_;intro f W hJ hV;have hb_1:=hJ.bl;obtain⟨v5,v4,v3,_⟩:=hV;replace hh:=hJ.hp;refine Da (Na (aa v5 (aa v4 (aa v3 Ea)))) ?_;dsimp only[Bb];clear hJ;refine AY rfl rfl (by assumption) U' ?_;refine fa ?_;exact⟨rfl,hh.below⟩
def uz(A B:Option Addr)(n c m c2:Nat)(ds:List Int)(cs:List NR)(w:World)(hT:Sc w)(hS:Sl w A n 1 (jb ds))(hS2:Sl w B m 3 (na NR.cells cs))(hn:n<=1000000)(hm:m<=1000000)(hc:∀a∈cs,a.ok):Calls prog 96 #[.agg #[.slice A n c,.slice B m c2]] w λr w'=>r=.returned (.int .i64 (fE ds cs))/\Below w.heap.size w w':=by
 have hh:=Hp.start w;have hln:ds.length=n:=by have:=hS.1;simpa[jb] using this
 have hlm:=hS2.Fa NR.len U';have h1:=λw1 hS1=>RJ A n c ds 172 [] (λd=> !Td d) w1 hS1 hn (λz w2 _ hb=>cK z w2);have h2:=λw1 (hT1:Sc w1) hS1=>lK B m c2 cs 174 [] pz w1 hS1 hm (λz w2 hz hb=>TJ z w2 (hT1.ext hb) (hc z hz));have h3:=pM ds 1 Z' Z';unfold fE;by_cases g1:12<n
 .refine Yz ?_;refine Jb ?_;intro b1 w1 hh;exact⟨by rw[J' (.inl Z')],hh.below⟩
 cases g2:ds.any (λd=> !Td d) with
 |true=>
  refine Yz ?_;refine Jb ?_;intro b1 w1 hh;refine Oa hh (h1 _ (hS.ext hh.below)) rfl ?_;intro w11 hh;rw[g2];refine fa ?_;exact⟨by rw[J' (.inr rfl)],hh.below⟩
 |false=>
  rw[L' (λh=>h.elim (λh=>by omega) (λh=>by cases h))];by_cases g3:eh 1 ds=0
  .refine Yz ?_;refine Jb ?_;intro b1 w1 hh;refine Oa hh (h1 _ (hS.ext hh.below)) rfl ?_;intro w11 hh;rw[g2];refine fa ?_;refine zK ?_;intro w16 hh;refine fa ?_;exact⟨by rw[J' g3],hh.below⟩
  rw[L' g3];by_cases g4:(m:Int)=eh 1 ds
  .rw[L' (show ¬(cs.length:Int)≠eh 1 ds by omega)]
   cases g5:cs.any pz with
   |true=>
    refine Yz ?_;refine Jb ?_;intro b1 w1 hh;refine Oa hh (h1 _ (hS.ext hh.below)) rfl ?_;intro w11 hh;rw[g2];refine fa ?_;refine zK ?_;intro w16 hh;refine fa ?_;refine SV ?_;refine yd ?_;refine xe 0 ?_;refine Vp ?_;refine yd ?_;refine xe 0 ?_;refine dC (λ_ hj=>Re A n c ds _ (hS.ext hj.hp.below) hn) ?_;refine xa ?_;intro f W hJ hV;have hb_5:=hJ.bl;obtain⟨v24,v23,v22,v21,v20,v19,_⟩:=hV;replace hh:=hJ.hp;refine pT ?_;dsimp only[Bb];clear hJ;refine fa ?_;refine Oa hh (h2 _ (hT.hp hh) (hS2.ext hh.below)) rfl ?_;intro w28 hh;rw[g5];refine fa ?_;exact⟨by rw[J' rfl],hh.below⟩
   |false=>
    refine Yz ?_;refine Jb ?_;intro b1 w1 hh;refine Oa hh (h1 _ (hS.ext hh.below)) rfl ?_;intro w11 hh;rw[g2];refine fa ?_;refine zK ?_;intro w16 hh;refine fa ?_;refine SV ?_;refine yd ?_;refine xe 0 ?_;refine Vp ?_;refine yd ?_;refine xe 0 ?_;refine dC (λ_ hj=>Re A n c ds _ (hS.ext hj.hp.below) hn) ?_;refine xa ?_;intro f W hJ hV;have hb_5:=hJ.bl;obtain⟨v24,v23,v22,v21,v20,v19,_⟩:=hV;replace hh:=hJ.hp;refine pT ?_;dsimp only[Bb];clear hJ;refine fa ?_;refine Oa hh (h2 _ (hT.hp hh) (hS2.ext hh.below)) rfl ?_;intro w28 hh;rw[g5];refine fa ?_;exact⟨by rw[L' U'],hh.below⟩
  rw[J' (show(cs.length:Int)≠eh 1 ds by omega)];refine Yz ?_;refine Jb ?_;intro b1 w1 hh;refine Oa hh (h1 _ (hS.ext hh.below)) rfl ?_;intro w11 hh;rw[g2];refine fa ?_;refine zK ?_;intro w16 hh;refine fa ?_;refine SV ?_;refine yd ?_;refine xe 0 ?_;refine Vp ?_;refine yd ?_;refine xe 0 ?_;refine dC (λ_ hj=>Re A n c ds _ (hS.ext hj.hp.below) hn) ?_;refine xa ?_;intro f W hJ hV;have hb_5:=hJ.bl;obtain⟨v24,v23,v22,v21,v20,v19,_⟩:=hV;replace hh:=hJ.hp;refine pT ?_;exact sS
def okZ:List Nat->List Nat->Bool
 |[],[]=>true
 |d::ds,r::rs=>decide (r<=d) && okZ ds rs
 |_,_=>false
def oN:∀(ds rs:List Nat),okZ ds rs=true↔Nj ds rs
 |[],[]=>by simp[okZ,Nj]
 |[],_::_=>by simp[okZ,Nj]
 |_::_,[]=>by simp[okZ,Nj]
 |d::ds,r::rs=>by rw[okZ,Nj,Q_,K_,oN ds rs]
def co(ds:List Nat)(xs:List Dyadic)(row:List Nat):Dyadic:=if okZ ds row then(xs[Jd ds row]?).getD 0 else 0
def KK{row:List Nat}(h:Nj ds row):co ds xs row=(xs[Jd ds row]?).getD 0:=by
 unfold co;rw[J' ((oN _ _).2 h)]
def lI{p:Nat}(h:p<la ds):co ds xs (Eb ds p)=(xs[p]?).getD 0:=by
 rw[KK (Lo ds p),xE h]
def aa9{ys:List Dyadic}(hx:xs.length=la ds)(hy:ys.length=la ds)(h:∀row,Nj ds row->co ds xs row=co ds ys row):xs=ys:=by
 refine List.ext_getElem (by rw[hx,hy]) λp h1 h2=> ?_;have h3:=h (Eb ds p) (Lo ds p);rw[lI Z',lI Z',D8 h1,D8 h2] at h3;exact h3
def te:List Nat->List Nat->List Nat
 |a::l,b::m=>(a+b)::te l m
 |_,_=>[]
def RL:∀{ds es rs js:List Nat},Nj ds rs->Nj es js->ds.length=es.length->Nj (te ds es) (te rs js)
 |[],[],[],[],_,_,_=>trivial
 |[],_::_,_,_,_,_,h=>by simp at h
 |_::_,[],_,_,_,_,h=>by simp at h
 |d::ds,e::es,r::rs,j::js,h1,h2,h3=>⟨by have:=h1.1;have:=h2.1;omega,RL h1.2 h2.2 (by simpa using h3)⟩
def kG:∀{a b:List Nat},a.length=b.length->(te a b).length=a.length
 |[],[],_=>rfl
 |_::a,_::b,h=>by rw[te,E_,E_,kG (by simpa using h)]
def afN:(List Nat->Dyadic)->List Nat->List Nat->Dyadic
 |F,r::rs,j::js=>if j<=r then afN (λt=>F ((r-j)::t)) rs js else 0
 |F,[],[]=>F []
 |_,_,_=>0
def wtR:List Nat->List Nat->Nat
 |m::ms,j::js=>bin m j*wtR ms js
 |_,_=>1
def upS:List Nat->(List Nat->Dyadic)->List Nat->Dyadic
 |m::ms,F,r::rs=>sm (List.range (m+1)) λj=>if j<=r then nD (bin m j)*upS ms (λt=>F ((r-j)::t)) rs else 0
 |_,F,row=>F row
def agP(ds es:List Nat)(xs ys:List Dyadic):List (Nat×Dyadic):=(List.range (la es)).flatMap λk=>(List.range (la ds)).map λi=>(Jd (te ds es) (te (Eb ds i) (Eb es k)),(xs[i]?).getD 0*(ys[k]?).getD 0)
def wH(n:Nat)(f:Nat->Dyadic):sm (List.range (n+1)) f=f 0+sm (List.range n) λj=>f (j+1):=by
 induction n with
 |zero=>simp only[P8,List.range_zero,E',sm]
 |succ n ih=>rw[P8,bk,ih,P8 (n:=n),bk];grind
def afZ(row:List Nat)(a:Nat):List Nat:=row.set a (row.getD a 0-1)
def Hm(n:Nat):List NR:=(Zu n).map λk=>nR (nD k)
def VS(n:Nat):(Hm n).length=n+1:=by simp[Hm,Sx]
def Jl(h:k<=n):(Hm n)[k]?=some (nR (nD (bin n k))):=by
 unfold Hm;rw[V_,JB h];rfl
def uy(n k:Nat)(h:n<=127):Sz 128 (nD (bin n k)):=aai (S9 (ND n k) (Nat.pow_lt_pow_right U' Z'))
def dp(n:Nat)(w:World)(hT:Sc w)(hn:n<=127):Calls prog 237 #[.int .i64 n] w λr w'=>∃A c',r=.returned (.slice A (n+1) c')/\w'.ownsRow w.heap.size 30 3 (.slice A (n+1) c') (n+1) (na NR.cells (Hm n))/\Below w.heap.size w w':=by
 have hh:=Hp.start w;refine da (N:=39) (l:=[.int .i64 n]) func237 rfl rfl (by simp) ?_;refine fa ?_;refine iF ?_;intro w6 hh;refine Nm ?_;intro b7 w7 hh;refine fa ?_;refine Ra [3,4,5,9,10,11,12,13,14,15,16,17,18,19,20,21,22,23,24,25,26,27,28,29,30,31,32,33,34,35,36,37] 3 9 (λv3 v w'=>∃(i c3:Nat)(A:Option Addr),i<=n/\v=.int .i64 i/\v3=.slice A (i+1) c3/\Hp w [.row A (i+1) c3 30 3 (na NR.cells (Hm i))] w') (λ_ v _=>n-(intOf v).toNat) ?_ ?_
 .exact⟨0,_,_,D' _,rfl,rfl,hh⟩
 clear hh;rintro ρ' v3 v w' ⟨i,c3,A,hi,rfl,rfl,hh⟩;by_cases hlt:i<n
 .refine fa ?_;refine iF ?_;intro w11 hh;refine Nm ?_;intro b12 w12 hh;refine fa ?_;refine Ra [4,5,13,14,15,16,17,18,19,20,21,22,23,24,25,26,27,28,29,30,31,32] 4 5 (λv4 v w'=>∃(k c4:Nat)(B:Option Addr),k<=i/\v=.int .i64 ((k+1:Nat):Int)/\v4=.slice B (k+1) c4/\Hp w [.row B (k+1) c4 30 3 (na NR.cells ((Hm (i+1)).take (k+1))),.row A (i+1) c3 30 3 (na NR.cells (Hm i))] w') (λ_ v _=>i+1-(intOf v).toNat) ?_ ?_
  .refine⟨0,_,_,D' _,rfl,rfl, ?_⟩;rw[show(Hm (i+1)).take (0+1)=[nR (nD 1)] by rw[oa (Jl (D' _)),Pr];rfl];exact hh
  clear hh;rintro ρ2 v4 v w2 ⟨k,c4,B,hk,rfl,rfl,hh⟩;by_cases hlk:k<i
  .have e1:=Jl (n:=i) (k:=k) Z';have e2:=Jl (n:=i) (k:=k+1) Z';have e3:=Jl (n:=i+1) (k:=k+1) Z';have z1:=uy i k Z';have z2:=uy i (k+1) Z';have hadd:=λA cc w1 hT1 hS1=>Kf A 2 cc [nR (nD (bin i k)),nR (nD (bin i (k+1)))] w1 hT1 hS1 (by simpa using⟨z1.ok Z',z2.ok Z'⟩) 128 (by simpa[Za] using⟨z1,z2⟩) Z';rw[show rm ([nR (nD (bin i k)),nR (nD (bin i (k+1)))].map NR.ma)=nD (bin (i+1) (k+1)) by simp only[q_,G9,Za,Rh,bin,qD]] at hadd;obtain⟨go,rfl⟩:=hh.Ob (i:=1) rfl Z';refine fa ?_;refine Ca 13 [[(4,none)],[(3,none)],[(5,none)],[(21,some 2)],[(20,some 1),(22,some 3)],[(23,some 4)],[(3,none)],[(5,none)],[(25,some 6),(26,some 7)],[(27,some 8)],[(24,some 5),(28,some 9)],[(29,some 10)],[(30,some 11)]] [(12,31),(11,30),(10,29),(9,28),(8,27),(7,26),(6,25),(5,24),(4,23),(3,22),(2,21),(1,20),(0,19)] hh mixed T' ?_;refine De ?_;refine De ?_;refine cd ?_;refine Tu ?_;refine Kt (k) ?_;refine Dn [_,_,_] (λ_ hj=>hj.hp.Gd (f:=NR.cells) (x:=nR (nD (bin i k))) (l:=Hm i) (i:=1) rfl NR.len U' e1) ?_;refine De ?_;refine cd ?_;refine Kt ((k+1)) ?_
   refine Dn [_,_,_] (λ_ hj=>hj.hp.Gd (f:=NR.cells) (x:=nR (nD (bin i (k+1)))) (l:=Hm i) (i:=1) rfl NR.len U' e2) ?_;refine qq [_,_,_,_,_,_] ?_;refine Va (i:=11) (Is (.agg #[.bool (nR (nD (bin (i+1) (k+1)))).neg,.string (nR (nD (bin (i+1) (k+1)))).Qa,.int .i64 (nR (nD (bin (i+1) (k+1)))).e])) Is.ext ?_ ?_
   .intro ρ1 w1 hj hR;obtain⟨A29,c29,h29,s29⟩:=hR.1;exact Pb rfl (qb ja.out (Ga h29 Fb)) (hadd A29 c29 _ (hT.hp hj.hp) s29) (λ_ _ hq=>⟨_,hq.1,hq.2,rfl⟩)
   refine qq [_,_,_] ?_;refine xa ?_;intro f W hJ hV;have hb_8:=hJ.bl;obtain⟨v31,v30,v29,v28,v27,v26,v25,v24,v23,v22,v21,v20,v19,_⟩:=hV;obtain⟨A29,c29,e29,f29⟩:Rows _ _ _ (f 10) W:=v29;obtain⟨A31,c31,e31,f31⟩:Rows _ _ _ (f 12) W:=v31;replace hh:=hJ.hp;refine Da (Na (aa e31 (aa v30 (aa e29 (aa v28 (aa v27 (aa v26 (aa v25 (aa v24 (aa v23 (aa v22 (aa v21 (aa v20 (aa v19 Ea)))))))))))))) ?_;dsimp only[Bb];clear e29 e31 hJ;refine Gb hh (i:=0) rfl rfl rfl (f31) lb.out ya.out rfl U' (by first|rfl|exact Xb _|exact Nb _|exact Pa _|exact Ta NR.one _) Z' Z' U' ?_;intro A32 c32 w32 hh;simp only[U_] at hh;refine fa ?_;replace hh:=hh.sub (I' _ (I' _ H_));refine⟨⟨k+1,c32,A32,Z',rfl,rfl, ?_⟩,by show i+1-(k+1+1)<i+1-(k+1);omega, ?_⟩
   .rw[oa e3,La];exact hh
   exact Rc
  obtain rfl:k=i:=Z';have e3:=Jl (n:=k+1) (k:=k+1) (j' _);refine fa ?_;refine iF ?_;intro w34 hh;refine Nm ?_;intro b35 w35 hh;refine Vr ?_;intro A36 c36 w36 hh;simp only[U_,F_] at hh;replace hh:=hh.sub (s_ _ _);refine fa ?_;replace hh:=hh.sub (I' _ (p' _ H_));refine⟨⟨k+1,c36,A36,Z',rfl,rfl, ?_⟩,by show n-(k+1)<n-k;omega, ?_⟩
  .have e4:Hm (k+1)=(Hm (k+1)).take (k+1)++[nR (nD (bin (k+1) (k+1)))]:=(by rw[<-oa e3,W_ (by rw[VS];omega)]);rw[e4,La,dH];exact hh
  exact Rc
 obtain rfl:i=n:=Z';exact SB
def VD(ds:List Nat):List Nat:=(List.range (la ds.reverse)).map λp=>wtR ds.reverse (Eb ds.reverse p)
def DQ(ds:List Nat)(d:Nat):VD (ds++[d])=(VD ds).flatMap λx=>(Zu d).map (x* ·):=by
 have hl:∀a∈VD ds,((Zu d).map (a* ·)).length=d+1:=λa _=>by rw[i',Sx]
 refine V9 λp=> ?_;rw[Ay Z' _ _ _ hl];unfold VD;rw[List.reverse_append,List.reverse_singleton,List.singleton_append];by_cases hp:p<la (d::ds.reverse)
 .have hq:p/(d+1)<la ds.reverse:=by rw[D9 Z',G_];exact hp
  have hr:p % (d+1)<=d:=by have:=B_ p (show 0<d+1 by omega);omega
  rw[V_,z9 hp,V_,z9 hq];simp only[M8,E7,V_,JB hr,Eb,wtR,G_]
 have hq:¬p/(d+1)<la ds.reverse:=by rw[D9 Z',G_];exact hp
 rw[t_ (by simp;omega),t_ (l:=List.map _ _) (by simp;omega)];rfl
def zv(ds:List Nat):(VD ds).length=la ds:=by simp[VD,Ud]
def xz(ds:List Nat):List NR:=(VD ds).map λk=>nR (nD k)
def AR:∀(ds row:List Nat),(∀d∈ds,d<=127)->wtR ds row<=2^(127*ds.length)
 |[],_,_=>by show 1<=1;exact j' _
 |d::ds,[],_=>by show 1<=_;exact r_ U'
 |d::ds,r::rs,h=>(by have h1:bin d r<=2^127:=N_ (ND d r) (m_ U' (h d q'));have h2:=AR ds rs λx hx=>h x (F' _ hx);rw[wtR,E_,O8,o8,D_];exact o9 h1 h2)
def aa7(h:n<=2^m)(hk:m<k):Sz k (nD n):=aai (S9 h (Nat.pow_lt_pow_right U' hk))
def WK{x:Nat}(h:x∈VD ds)(h1:ds.length<=12)(h2:∀d∈ds,d<=127):Sz 1600 (nD x):=by
 obtain⟨p,_,rfl⟩:=Z_.1 h;have h3:=AR ds.reverse (Eb ds.reverse p) λd hd=>h2 d (g8.1 hd);exact aa7 h3 (by rw[c_];omega)
def yY(ds:List Nat)(d j:Nat):List Nat:=((VD ds).take j).flatMap λx=>(Zu d).map (x* ·)
def hU{d x:Nat}(h:(VD ds)[j]?=some x):yY ds d (j+1)=yY ds d j++(Zu d).map (x* ·):=by
 unfold yY;rw[oa h,q7,List.flatMap_singleton]
def On(A:Option Addr)(n c:Nat)(ns:List Nat)(w:World)(hT:Sc w)(hS:Sl w A n 1 (jb (Ua ns)))(h12:ns.length<=12)(hlow:∀d∈ns,d<=127)(hmax:la ns<=4096):Calls prog 265 #[.slice A n c] w λr w'=>∃B c',r=.returned (.slice B (la ns) c')/\w'.ownsRow w.heap.size 30 3 (.slice B (la ns) c') (la ns) (na NR.cells (xz ns))/\Below w.heap.size w w':=by
 have hh:=Hp.start w;have hln:ns.length=n:=by have:=hS.1;simpa[jb,Ua] using this
 have hc:=Ri ns 1 U' U' hlow;rw[Y7,J' hmax] at hc;have hc1:eh ((1:Nat):Int) (Ua ns)=eh 1 (Ua ns):=rfl;rw[hc1] at hc;have hpos:=Cc ns;have hcnt:=λw1 hS1=>Re A n c (Ua ns) w1 hS1 Z';rw[hc] at hcnt;refine da (N:=52) (l:=[.slice A n c]) func265 rfl rfl (by simp) ?_;refine fa ?_;refine Oa hh (hcnt _ (hS.ext hh.below)) rfl ?_;intro w16 hh;refine fa ?_;refine iF ?_;intro w19 hh;refine Nm ?_;intro b20 w20 hh;refine fa ?_;refine Ra [3,5,6,8,10,23,24,25,26,27,28,29,30,31,32,33,34,35,36,37,38,39,40,41,42,43,44,45,46,47,48,49,50] 3 23 (λv3 v w'=>∃(i c3:Nat)(B:Option Addr),i<=n/\v=.int .i64 i/\v3=.slice B (la (ns.take i)) c3/\Hp w [.row B (la (ns.take i)) c3 30 3 (na NR.cells (xz (ns.take i)))] w') (λ_ v _=>n-(intOf v).toNat) ?_ ?_
 .exact⟨0,_,_,D' _,rfl,rfl,hh⟩
 clear hh;rintro ρ' v3 v w' ⟨i,c3,B,hi,rfl,rfl,hh⟩;by_cases hlt:i<n
 .obtain⟨d,hd⟩:=ea (l:=ns) (k:=i) Z';have hgi:=Uc (He hd);have hd127:=hlow d (G' hd);have htl:(ns.take i).length<=12:=by rw[R_];omega
  have htw:∀d∈ns.take i,d<=127:=λd hd=>hlow d (N8 hd);have hct:=Gg ns (i+1);have hct2:=Gg ns i;have hstep:la (ns.take (i+1))=la (ns.take i)*(d+1):=by rw[oa hd,Sd];simp[la]
  have hsnoc:xz (ns.take (i+1))=(yY (ns.take i) d (la (ns.take i))).map λk=>nR (nD k):=(by unfold xz yY;rw[oa hd,DQ,W_ (l:=VD (ns.take i)) (by rw[zv];exact j' _)]);generalize hds:ns.take i=ds at*;generalize hN:la ds=N at*;obtain⟨ad,rfl,hr⟩:=hS.at_ Z';refine fa ?_;refine Iq ?_;refine fa ?_;replace hh:=hh.Lb 30 3;refine Ra [6,8,10,29,30,31,32,33,34,35,36,37,38,39,40,41,42,43,44,45,46,47,48] 6 29 (λv6 v w'=>∃(j c6:Nat)(C:Option Addr),j<=N/\v=.int .i64 j/\v6=.slice C (j*(d+1)) c6/\Hp w [.row C (j*(d+1)) c6 30 3 (na NR.cells ((yY ds d j).map λk=>nR (nD k))),.row B N c3 30 3 (na NR.cells (xz ds))] w') (λ_ v _=>N-(intOf v).toNat) ?_ ?_
  .refine⟨0,0,none,D' _,rfl, ?_, ?_⟩
   .rw[X6];rfl
   rw[X6];exact hh
  clear hh;rintro ρ2 v6 v w2 ⟨j,c6,C,hj,rfl,rfl,hh⟩;by_cases hjN:j<N
  .obtain⟨x,hx⟩:=ea (l:=VD ds) (k:=j) (by rw[zv];omega);have hx2:(xz ds)[j]?=some (nR (nD x)):=by unfold xz;rw[V_,hx];rfl
   have zx:=WK (G' hx) htl htw;have hj1:(j+1)*(d+1)<=N*(d+1):=N9 _ hjN;rw[n9] at hj1;obtain⟨go,rfl⟩:=hh.Ob (i:=1) rfl Z';refine fa ?_;refine wb (vs:=[_,_,_]) ya.out rfl (hh.Gd (f:=NR.cells) (x:=nR (nD x)) (l:=xz ds) (i:=1) rfl NR.len U' hx2) rfl U' ?_;refine Sb ?_;intro b8 w8 hh ws hh;refine qa (dp d _ (hT.hp hh) hd127) ja.out rfl U' ?_;rintro e_ w34 ⟨A34,c34,rfl,hown_,hb_⟩;refine⟨_,rfl, ?_⟩;replace hh:=hh.Aa (x:=.row _ _ _ _ _ _) hb_ hown_;refine fa ?_;refine Ra [6,10,36,37,38,39,40,41,42,43,44,45,46,47] 6 36 (λv6 v w'=>∃(k c6:Nat)(C:Option Addr),k<=d+1/\v=.int .i64 k/\v6=.slice C (j*(d+1)+k) c6/\Hp w [.row A34 (d+1) c34 30 3 (na NR.cells (Hm d)),.blk b8 30 [.bool (nR (nD x)).neg,.string (nR (nD x)).Qa,.int .i64 (nR (nD x)).e] (0,0),.row C (j*(d+1)+k) c6 30 3 (na NR.cells ((yY ds d j++((Zu d).take k).map (x* ·)).map λk=>nR (nD k))),.row (some ⟨go,0,none⟩) N c3 30 3 (na NR.cells (xz ds))] w') (λ_ v _=>d+1-(intOf v).toNat) ?_ ?_
   .refine⟨0,c6,C,D' _,rfl,rfl, ?_⟩;rw[K8,G9,o_];exact hh
   clear hh;rintro ρ3 v6 v w3 ⟨k,c6,C,hk,rfl,rfl,hh⟩;by_cases hkd:k<d+1
   .have hb1:=JB (n:=d) (k:=k) Z';have hb2:=Jl (n:=d) (k:=k) Z';have zb:=uy d k hd127;have hmul:=λA cc w1 hT1 hS1=>Ee A 2 cc [nR (nD x),nR (nD (bin d k))] w1 hT1 hS1 (by simpa using⟨zx.ok Z',zb.ok Z'⟩) 1600 (by simpa[Za] using⟨zx,zb.mono Z'⟩) Z' Z';rw[show Cf ([nR (nD x),nR (nD (bin d k))].map NR.ma)=nD (x*bin d k) by rw[abB];show 1*(nR (nD x)).ma*(nR (nD (bin d k))).ma=_;rw[Za,Za,W7]] at hmul;obtain⟨ga,rfl⟩:=hh.Ob (i:=0) rfl Z';refine fa ?_;refine wb (vs:=[_,_,_]) ya.out rfl (hh.Gd (f:=NR.cells) (x:=nR (nD (bin d k))) (l:=Hm d) (i:=0) rfl NR.len U' hb2) rfl U' ?_;refine Sb ?_;intro b10 w10 hh ws hh;refine Rq ?_;intro b43 w43 hh;refine Oa hh (hmul _ _ _ (hT.hp hh) (hh.ra (i:=0) rfl)) rfl ?_;intro w44 hh;refine Nm ?_;intro b45 w45 hh;refine tN ?_;intro A46 c46 w46 hh;simp only[U_,F_] at hh;replace hh:=hh.sub (s_ _ _);refine fa ?_;replace hh:=hh.sub (p' _ (p' _ (I' _ (I' _ (I' _ (I' _ H_))))))
    refine⟨⟨k+1,c46,A46,Z',rfl,rfl, ?_⟩,by show d+1-(k+1)<d+1-k;omega, ?_⟩
    .have e:(yY ds d j++((Zu d).take (k+1)).map (x* ·)).map (λk=>nR (nD k))=(yY ds d j++((Zu d).take k).map (x* ·)).map (λk=>nR (nD k))++[nR (nD (x*bin d k))]:=by rw[oa hb1];simp
     rw[e,La];exact hh
    exact Rc
   obtain rfl:k=d+1:=Z';rw[W_ (by rw[Sx];omega),<-hU hx] at hh;refine fa ?_;replace hh:=hh.sub (p' _ (p' _ (I' _ (I' _ H_))));refine⟨⟨j+1,c6,C,Z',rfl, ?_, ?_⟩,by show N-(j+1)<N-j;omega, ?_⟩
   .rw[n9];rfl
   .rw[n9];exact hh
   exact Rc
  obtain rfl:j=N:=Z';rw[<-hsnoc,<-hstep] at hh;rw[<-hstep];refine fa ?_;replace hh:=hh.sub (I' _ (p' _ H_));refine⟨⟨i+1,c6,C,Z',rfl,rfl,hh⟩,by show n-(i+1)<n-i;omega, ?_⟩;exact Rc
 obtain rfl:i=n:=Z';rw[W_ Z'] at hh |-;exact SB
def Mt(d r:Nat)(t:Dyadic):Dyadic:=t^r*(1-t)^(d-r)
def Az:List Nat->List Nat->List Dyadic->Dyadic
 |d::ds,r::rs,t::ts=>Mt d r t*Az ds rs ts
 |_,_,_=>1
def jq(ds:List Nat)(xs:List Dyadic)(ts:List Dyadic):Dyadic:=sm (List.range (la ds)) λp=>(xs[p]?).getD 0*Az ds (Eb ds p) ts
def ac7(d:Nat)(t:Dyadic)(m:Nat)(xs:List Dyadic):List Dyadic:=(List.range m).map λq=>sm (List.range (d+1)) λr=>(xs[r+(d+1)*q]?).getD 0*Mt d r t
def aey:List Nat->List Dyadic->List Dyadic->List Dyadic
 |d::ds,t::ts,xs=>aey ds ts (ac7 d t (la ds) xs)
 |_,_,xs=>xs
def jA(t:Dyadic)(a b:Nat):t^(a+b)=t^a*t^b:=by
 induction b with
 |zero=>rw[q9];grind
 |succ b ih=>rw[<-R6];grind
def aem(n:Nat)(a b:Dyadic):sm (List.range (n+1)) (λk=>nD (bin n k)*a^k*b^(n-k))=(a+b)^n:=by
 induction n with
 |zero=>show nD 1*a^0*b^0+0=(a+b)^0;rw[VI];grind
 |succ n ih=>
  have e2:∀k,nD (bin (n+1) (k+1))*a^(k+1)*b^(n+1-(k+1))=nD (bin n k)*a^k*b^(n-k)*a+nD (bin n (k+1))*a^(k+1)*b^(n-k):=λk=>(by rw[bin,qD,show n+1-(k+1)=n-k by omega];grind);rw[wH,md (g:=λk=>nD (bin n k)*a^k*b^(n-k)*a+nD (bin n (k+1))*a^(k+1)*b^(n-k)) λk _=>e2 k,bK,Ht,ih,Pr];have e3:sm (List.range (n+1)) (λk=>nD (bin n (k+1))*a^(k+1)*b^(n-k))=sm (List.range n) (λk=>nD (bin n (k+1))*a^(k+1)*b^(n-(k+1)))*b:=by
   rw[P8,bk,xv (show n<n+1 by omega),uM,<-Ht];have:∀x y:Dyadic,x+0*y*b^(n-n)=x:=λx y=>by grind
   rw[this];refine md λk hk=> ?_;have hk2:=g_.1 hk;rw[show n-k=(n-(k+1))+1 by omega];grind
  have e4:(a+b)^n=nD 1*a^0*b^(n-0)+sm (List.range n) (λk=>nD (bin n (k+1))*a^(k+1)*b^(n-(k+1))):=(by rw[<-ih,wH,Pr]);rw[e3];have e5:(a+b)^(n+1)=(a+b)^n*a+(a+b)^n*b:=by grind
  rw[e5];generalize hS:sm (List.range n) (λk=>nD (bin n (k+1))*a^(k+1)*b^(n-(k+1)))=S at*;rw[e4,show n+1-0=n+1 by omega,show n-0=n by omega,VI];grind
def sR:List Nat->(List Nat->Dyadic)->Dyadic
 |[],F=>F []
 |d::ds,F=>sm (List.range (d+1)) λr=>sR ds λrow=>F (r::row)
def Ci(ds:List Nat)(a:Nat)(M:Nat->Nat->Dyadic)(xs:List Dyadic):List Dyadic:=(List.range (la ds)).map λp=>sm (List.range (ds.getD a 0+1)) λi=>co ds xs ((Eb ds p).set a i)*M i ((Eb ds p).getD a 0)
def Ww(ds:List Nat)(a:Nat)(M:Nat->Nat->Dyadic)(xs:List Dyadic):(Ci ds a M xs).length=la ds:=by simp[Ci]
def IP{row:List Nat}(a:Nat)(M:Nat->Nat->Dyadic)(xs:List Dyadic)(h:Nj ds row):co ds (Ci ds a M xs) row=sm (List.range (ds.getD a 0+1)) λi=>co ds xs (row.set a i)*M i (row.getD a 0):=by
 rw[KK h];unfold Ci;rw[V_,z9 (Vj h)];simp only[M8,l9,Wh h]
def rM:∀{ds row:List Nat}{a i:Nat},Nj ds row->i<=ds.getD a 0->Nj ds (row.set a i)
 |[],[],_,_,_,_=>trivial
 |d::ds,r::rs,0,i,h,hi=>⟨hi,h.2⟩
 |d::ds,r::rs,a+1,i,h,hi=>⟨h.1,rM (a:=a) h.2 (by simpa using hi)⟩
def aea(d:Nat)(s:Dyadic)(i k:Nat):Dyadic:=if k<i then 0 else nD (bin (d-i) (k-i))*s^i*(1-s)^(k-i)
def acU(d:Nat)(s:Dyadic)(i k:Nat):Dyadic:=if i<k then 0 else nD (bin i (i-k))*s^(i-k)*(1-s)^(d-i)
def adu(d i:Nat)(hi:i<=d)(f:Nat->Dyadic):sm (List.range (d+1)) (λk=>if k<i then 0 else f (k-i))=sm (List.range (d-i+1)) f:=by
 obtain⟨m,rfl⟩:∃m,d=i+m:=⟨d-i,Z'⟩;rw[show i+m-i+1=m+1 by omega,show i+m+1=i+(m+1) by omega,List.range_add,Xn,Fy,ko λk hk=>by rw[J' (g_.1 hk)]];have:∀x:Dyadic,0+x=x:=λx=>by grind
 rw[this];exact md λk _=>by rw[L' Z',Nat.add_sub_cancel_left]
def su:∀{A B x y:List Nat},x.length=A.length->Jd (A++B) (x++y)=Jd A x+la A*Jd B y
 |[],B,[],y,_=>by rw[E',E',la,Y7];show _=0+_;rw[C_]
 |d::A,B,r::x,y,h=>(by rw[C',C',Jd,Jd,la,su (by simpa using h),X9,J9,R6])
def cu:∀(A B:List Nat)(p:Nat),Eb (A++B) p=Eb A p++Eb B (p/la A)
 |[],B,p=>by rw[E',la,O7];rfl
 |d::A,B,p=>by rw[C',Eb,Eb,cu A B,la,V8];rfl
variable {q:Nat}
def SF:∀(A:List Nat)(f q:Nat),Eb A (f+la A*q)=Eb A f
 |[],_,_=>rfl
 |d::A,f,q=>(by rw[Eb,Eb,la,J9,R7,Q8 _ _ Z',SF A])
variable {A:List Nat}
def ud(A:List Nat)(d f k q:Nat):Nat:=f+la A*(k+(d+1)*q)
variable {B:List Nat}
def Zv{f:Nat}(hf:f<la A)(hk:k<=d)(hq:q<la B):ud A d f k q<la (A++d::B):=by
 rw[Sd,la,ud];have h1:k+(d+1)*q+1<=(d+1)*la B:=(by have:(d+1)*(q+1)<=(d+1)*la B:=k_ _ hq;rw[O8] at this;omega);have h2:=k_ (la A) h1;rw[O8] at h2;omega
def dA{f:Nat}(hf:f<la A)(hk:k<=d):Eb (A++d::B) (ud A d f k q)=Eb A f++k::Eb B q:=by
 unfold ud;rw[cu,SF,Q8 _ _ (Cc A),L9 hf,C_,Eb,R7,h_ Z',Q8 _ _ Z',L9 Z',C_]
def MI{p:Nat}(h:p<la (A++d::B)):∃f k q,f<la A/\k<=d/\q<la B/\p=ud A d f k q:=by
 rw[Sd,la] at h;have hA:=Cc A;refine⟨p % la A,p/la A % (d+1),p/la A/(d+1),B_ _ hA,by have:=B_ (p/la A) (show 0<d+1 by omega);omega, ?_, ?_⟩
 .rw[D9 Z',D9 hA,G_,G_ (la B)];exact h
 unfold ud;rw[P6,P6]
def AG(x y:List Nat)(k:Nat):(x++k::y).getD x.length 0=k:=by
 rw[K9,I9 (j' _),f_];rfl
def iJ(x y:List Nat)(k i:Nat):(x++k::y).set x.length i=x++i::y:=by
 rw[q8 _ _ (j' _),f_,U_]
def Tf(A:List Nat)(d:Nat)(xs:List Dyadic)(f q:Nat):List Dyadic:=(List.range (d+1)).map λi=>(xs[ud A d f i q]?).getD 0
def XP{f:Nat}(M:Nat->Nat->Dyadic)(xs:List Dyadic)(hf:f<la A)(hk:k<=d)(hq:q<la B):(Ci (A++d::B) A.length M xs)[ud A d f k q]?=some (sm (List.range (d+1)) λi=>(xs[ud A d f i q]?).getD 0*M i k):=by
 have hp:=Zv (B:=B) hf hk hq;unfold Ci;rw[V_,z9 hp];simp only[M8];rw[dA hf hk,AG];have hl:=Gn A f;rw[show((Eb A f++k::Eb B q).getD A.length 0)=k by rw[<-hl];exact AG _ _ _];congr 1;refine md λi hi=> ?_;have hi2:i<=d:=by have:=g_.1 hi;omega
 rw[show(Eb A f++k::Eb B q).set A.length i=Eb A f++i::Eb B q by rw[<-hl];exact iJ _ _ _ _,<-dA (B:=B) hf hi2,lI (Zv hf hi2 hq)]
def WG(A:Option Addr)(n c:Nat)(ns:List Nat)(w:World)(hS:Sl w A n 1 (jb (Ua ns)))(hn:n<=1000)(hlow:∀d∈ns,d<=255)(hmax:la ns<=1000000):Calls prog 300 #[.slice A n c] w λr w'=>r=.returned (.int .i64 (la ns:Nat))/\Below w.heap.size w w':=by
 have hh:=Hp.start w;have hln:ns.length=n:=by have:=hS.1;simpa[jb,Ua] using this
 refine da (N:=18) (l:=[.slice A n c]) func300 rfl rfl (by simp) ?_;refine fa ?_;refine Ra [3,5,8,9,10,11,12,13,14,15,16] 3 8 (λv3 v w'=>∃i:Nat,i<=n/\v=.int .i64 i/\v3=.int .i64 (la (ns.take i):Nat)/\Hp w [] w') (λ_ v _=>n-(intOf v).toNat) ?_ ?_
 .exact⟨0,D' _,rfl,rfl,hh⟩
 clear hh;rintro ρ' v3 v w' ⟨i,hi,rfl,rfl,hh⟩;by_cases hlt:i<n
 .obtain⟨d,hd⟩:=ea (l:=ns) (k:=i) Z';have hgi:=Uc (He hd);have hd2:=hlow d (G' hd);obtain⟨ad,rfl,hr⟩:=hS.at_ Z';have hct:=Gg ns (i+1);have hct2:=Gg ns i;have hstep:la (ns.take (i+1))=la (ns.take i)*(d+1):=by rw[oa hd,Sd];simp[la]
  have e1:((la (ns.take i):Nat):Int)*((d:Int)+1)=((la (ns.take (i+1)):Nat):Int):=by rw[hstep,m9,F8];rfl
  refine fa ?_;refine Iq ?_;refine fa ?_;rw[e1];refine⟨⟨i+1,Z',rfl,rfl,hh⟩,by show n-(i+1)<n-i;omega, ?_⟩;exact Rc
 refine fa ?_;rw[W_ Z'];exact⟨rfl,hh.below⟩
def pD(ns:List Nat):Bool:=ns.any (λd=>decide (127<d))||decide (4096<la ns)
def vI(A:Option Addr)(n c:Nat)(ns:List Nat)(w:World)(hS:Sl w A n 1 (jb (Ua ns)))(hn:n<=1000)(hlow:∀d∈ns,d<=1000):Calls prog 273 #[.slice A n c] w λr w'=>r=.returned (.bool (pD ns))/\Below w.heap.size w w':=by
 have hh:=Hp.start w;have hln:ns.length=n:=by have:=hS.1;simpa[jb,Ua] using this
 refine da (N:=26) (l:=[.slice A n c]) func273 rfl rfl (by simp) ?_;refine fa ?_;refine Ra [2,3,5,8,9,10,11,12,13,14,15,16,17,18,19,20,21,22,23,24,25] 3 8 (λv3 v w'=>∃i:Nat,i<=n/\v=.int .i64 i/\v3=.int .i64 (la (ns.take i):Nat)/\la (ns.take i)<=4096/\(ns.take i).any (λd=>decide (127<d))=false/\Hp w [] w') (λ_ v _=>n-(intOf v).toNat) ?_ ?_
 .exact⟨0,D' _,rfl,rfl,by show 1<=4096;decide,rfl,hh⟩
 clear hh;rintro ρ' v3 v w' ⟨i,hi,rfl,rfl,hmx,hall,hh⟩;by_cases hlt:i<n
 .obtain⟨d,hd⟩:=ea (l:=ns) (k:=i) Z';have hgi:=Uc (He hd);have hd2:=hlow d (G' hd);obtain⟨ad,rfl,hr⟩:=hS.at_ Z';have hct:=Gg ns (i+1);have hstep:la (ns.take (i+1))=la (ns.take i)*(d+1):=by rw[oa hd,Sd];simp[la]
  have hpb:la (ns.take i)*(d+1)<=4096*1001:=o9 hmx Z';have e1:((la (ns.take i):Nat):Int)*((d:Int)+1)=((la (ns.take (i+1)):Nat):Int):=by rw[hstep,m9,F8];rfl
  by_cases h1:127<d
  .refine fa ?_;refine Iq ?_;refine fa ?_;refine⟨?_,hh.below⟩;unfold pD;rw[k9.2 ⟨d,G' hd,M_ h1⟩];rfl
  by_cases h2:4096<la (ns.take (i+1))
  .refine fa ?_;refine Iq ?_;refine fa ?_;refine⟨?_,hh.below⟩;unfold pD;rw[M_ (show 4096<la ns by omega),Bool.or_true]
  refine fa ?_;refine Iq ?_;refine fa ?_;rw[e1];refine⟨⟨i+1,Z',rfl,rfl,Z', ?_,hh⟩,by show n-(i+1)<n-i;omega, ?_⟩
  .rw[oa hd,n7,hall,x7,T6,O_ h1];rfl
  exact Rc
 rw[W_ Z'] at hmx hall;refine fa ?_;refine⟨?_,hh.below⟩;unfold pD;rw[hall,O_ Z'];rfl
def LC{l:List α}(hl:l.length=n)(hk:k<n):l[n-1-k]?=l.reverse[k]?:=by rw[k8 Z',hl]
def mO:∀{X Y:List Nat}{d r:Nat},X.length=Y.length->Jd (X++[d]) (Y++[r])=Jd X Y+la X*r:=λ{X Y d r} h=>by
 rw[su h.symm];simp[Jd]
def Nk(X:List Nat)(d:Nat):la (X++[d])=la X*(d+1):=by rw[Sd];simp[la]
def wD:∀{R:List Nat}{k d:Nat} (p:Nat),R[k]?=some d->(Eb R p)[k]?=some (p/la (R.take k) % (d+1))
 |[],_,_,_,h=>by simp at h
 |e::R,0,d,p,h=>by
  obtain rfl:e=d:=by simpa using h
  show some (p % (e+1))=_;rw[K8,la,O7]
 |e::R,k+1,d,p,h=>(by show(Eb R (p/(e+1)))[k]?=_;rw[wD (p/(e+1)) (by simpa using h),k7,la,V8])
def mK:∀{a b:List Nat}{k x y:Nat},a[k]?=some x->b[k]?=some y->(te a b)[k]?=some (x+y)
 |[],_,_,_,_,h,_=>by simp at h
 |_::_,[],_,_,_,_,h=>by simp at h
 |p::a,q::b,0,x,y,h1,h2=>by
  obtain rfl:p=x:=by simpa using h1
  obtain rfl:q=y:=by simpa using h2
  rfl
 |p::a,q::b,k+1,x,y,h1,h2=>(by show(te a b)[k]?=_;exact mK (by simpa using h1) (by simpa using h2))
def MG:∀{ds rs:List Nat} (k:Nat),Nj ds rs->Nj (ds.take k) (rs.take k)
 |[],[],_,_=>by simp[Nj]
 |_::_,_::_,0,_=>trivial
 |d::ds,r::rs,k+1,h=>⟨h.1,MG k h.2⟩
def FU:∀{ds rs:List Nat}{k d r:Nat},Nj ds rs->ds[k]?=some d->rs[k]?=some r->r<=d
 |[],_,_,_,_,_,h,_=>by simp at h
 |_::_,[],_,_,_,_,_,h=>by simp at h
 |d::ds,r::rs,0,_,_,h,h1,h2=>(by simp only[U6,S8] at h1 h2;subst h1 h2;exact h.1)
 |d::ds,r::rs,k+1,_,_,h,h1,h2=>FU (k:=k) h.2 (by simpa using h1) (by simpa using h2)
def aC(F T Y:Option Addr)(n c1 c2 c3:Nat)(ns ts js:List Nat)(p:Nat)(w:World)(hF:Sl w F n 1 (jb (Ua ns)))(hT:Sl w T n 1 (jb (Ua ts)))(hY:Sl w Y n 1 (jb (Ua js))) (hn:n<=1000)(hok:Nj ts.reverse (te (Eb ns.reverse p) js.reverse))(hmax:la ts<=1000000)(hns:∀d∈ns,d<=1000)(hts:∀d∈ts,d<=1000)(hp:p<=1000000):Calls prog 302 #[.slice F n c1,.slice T n c2,.slice Y n c3,.int .i64 p] w λr w'=>r=.returned (.int .i64 (Jd ts.reverse (te (Eb ns.reverse p) js.reverse):Nat))/\Below w.heap.size w w':=by
 have hh:=Hp.start w;have hl1:ns.length=n:=by have:=hF.1;simpa[jb,Ua] using this
 have hl2:ts.length=n:=by have:=hT.1;simpa[jb,Ua] using this
 have hl3:js.length=n:=by have:=hY.1;simpa[jb,Ua] using this
 generalize hrow:te (Eb ns.reverse p) js.reverse=row at*;have hrl:row.length=n:=by rw[<-hrow,kG (by rw[Gn,c_,c_,hl1,hl3]),Gn,c_,hl1]
 refine da (N:=52) (l:=[.slice F n c1,.slice T n c2,.slice Y n c3,.int .i64 p]) func302 rfl rfl (by simp) ?_;refine fa ?_;refine cU [3,9,10,11,12,16,17,18,19,20,21,22,23,24,25,26,27,28,29,30,31,32,33,34,35,36,37,38,39,40,41,42,43,44,45,46,47,48,49,50] 3 9 10 11 (λv3 v9 v10 v w'=>∃k:Nat,k<=n/\v=.int .i64 ((n:Int)-1-k)/\v3=.int .i64 (p/la (ns.reverse.take k):Nat)/\v9=.int .i64 (Jd (ts.reverse.take k) (row.take k):Nat)/\v10=.int .i64 (la (ts.reverse.take k):Nat)/\Hp w [] w') (λ_ _ _ v _=>(intOf v+1).toNat) ?_ ?_
 .refine⟨0,D' _, ?_, ?_,rfl,rfl,hh⟩
  .exact aap
  rw[K8,la,O7];rfl
 clear hh;rintro ρ' v3 v9 v10 v w' ⟨k,hk,rfl,rfl,rfl,rfl,hh⟩;by_cases hlt:k<n
 .obtain⟨d,hd⟩:=ea (l:=ns.reverse) (k:=k) (by rw[c_];omega);obtain⟨t,ht⟩:=ea (l:=ts.reverse) (k:=k) (by rw[c_];omega);obtain⟨j,hj⟩:=ea (l:=js.reverse) (k:=k) (by rw[c_];omega);have hd':=LC hl1 hlt;have ht':=LC hl2 hlt;have hj':=LC hl3 hlt;rw[hd] at hd';rw[ht] at ht';rw[hj] at hj';have hgd:=Uc (He hd');have hgt:=Uc (He ht');have hgj:=Uc (He hj');have hd2:=hns d (G' hd');have ht2:=hts t (G' ht');have hr:row[k]?=some (p/la (ns.reverse.take k) % (d+1)+j):=by rw[<-hrow];exact mK (wD p hd) hj
  have hrt:=FU hok ht hr;have hcp:=Cc (ns.reverse.take k);have hq:p/la (ns.reverse.take k)<=p:=l8 _ _;have hct:=Gg ts.reverse (k+1);rw[Ud,oa ht,Nk] at hct;have hck:la (ts.reverse.take k)*1<=la (ts.reverse.take k)*(t+1):=k_ _ Z';have hhl:Jd (ts.reverse.take k) (row.take k)<la (ts.reverse.take k):=Vj (MG k hok);have e1:((p/la (ns.reverse.take k):Nat):Int) % ((d:Int)+1)=((p/la (ns.reverse.take k) % (d+1):Nat):Int):=by rw[Int.natCast_emod];rfl
  have e2:((p/la (ns.reverse.take k):Nat):Int)/((d:Int)+1)=((p/la (ns.reverse.take (k+1)):Nat):Int):=by rw[oa hd,Nk,<-V8,Int.natCast_ediv];rfl
  have hst:Jd (ts.reverse.take (k+1)) (row.take (k+1))=Jd (ts.reverse.take k) (row.take k)+la (ts.reverse.take k)*(p/la (ns.reverse.take k) % (d+1)+j):=by rw[oa ht,oa hr,mO (by rw[R_,R_,c_,hl2,hrl])]
  have e3:(((p/la (ns.reverse.take k) % (d+1):Nat):Int)+(j:Int))*((la (ts.reverse.take k):Nat):Int)=((la (ts.reverse.take k)*(p/la (ns.reverse.take k) % (d+1)+j):Nat):Int):=by rw[G_,m9,F8]
  have e4:((la (ts.reverse.take k):Nat):Int)*((t:Int)+1)=((la (ts.reverse.take (k+1)):Nat):Int):=by rw[oa ht,Nk,m9,F8];rfl
  have hb3:la (ts.reverse.take k)*(p/la (ns.reverse.take k) % (d+1)+j)<=la (ts.reverse.take k)*(t+1):=k_ _ Z';have hc5:la (ts.reverse.take (k+1))=la (ts.reverse.take k)*(t+1):=by rw[oa ht,Nk]
  generalize p/la (ns.reverse.take k)=q at*;generalize q % (d+1)=m at*;generalize la (ts.reverse.take k)=C at*;generalize Jd (ts.reverse.take k) (row.take k)=Hh at*;obtain⟨a1,rfl,s1⟩:=hF.at_ Z';obtain⟨a2,rfl,s2⟩:=hT.at_ Z';obtain⟨a3,rfl,s3⟩:=hY.at_ Z';refine fa ?_;refine Ca 11 [[(3,none)],[(0,none)],[(11,none)],[(21,some 1),(22,some 2)],[(23,some 3)],[(24,some 4)],[(20,some 0),(25,some 5)],[(2,none)],[(11,none)],[(27,some 7),(28,some 8)],[(29,some 9)]] [(10,30),(9,29),(8,28),(7,27),(6,26),(5,25),(4,24),(3,23),(2,22),(1,21),(0,20)] hh mixed T' ?_;refine cd ?_;refine De ?_;refine cd ?_;refine jj ((n-1-k)) ?_;refine Wa (i:=4) (λρ1 w1 hj hR=>Tg ya.out (show ρ1 23=Value.pointer _ from hR.1) ((s1.ext hj.hp.below).aw (by assumption))) ?_;refine xt ?_;refine Wa (i:=6) (λρ1 w1 hj hR=>Ln (show ρ1 20=Value.int _ _ from hR.1) (show ρ1 25=Value.int _ _ from hR.2.1) Z' Z') ?_;refine De ?_;refine cd ?_;refine jj ((n-1-k)) ?_;refine Wa (i:=10) (λρ1 w1 hj hR=>Tg ya.out (show ρ1 29=Value.pointer _ from hR.1) ((s3.ext hj.hp.below).aw (by assumption))) ?_;refine xa ?_;intro f W hJ hV
  have hb_5:=hJ.bl;obtain⟨v30,v29,v28,v27,v26,v25,v24,v23,v22,v21,v20,_⟩:=hV;replace hh:=hJ.hp;refine Da (Na (aa v30 (aa v29 (aa v28 (aa v27 (aa v26 (aa v25 (aa v24 (aa v23 (aa v22 (aa v21 (aa v20 Ea)))))))))))) ?_;dsimp only[Bb];clear hJ;rw[e1];refine lj (aI (ua (sr (mI (mL (mI ?_))))));refine AK ?_;refine NF ?_;refine lj ?_;refine KJ rfl rfl Z' Z' Z' U' ?_;refine aI (ua (sr (mI (mI (mI ?_)))));refine mulC ?_;refine lj (aI (ua (Kb (mI (mL (mI ?_))))));refine AK ?_;refine ub ya.out rfl ((s2.ext hh.below).aw (by assumption)) U' ?_;refine fa ?_;refine⟨⟨k+1,Z', ?_, ?_, ?_, ?_,hh⟩,by show((n:Int)-1-(k:Int)-1+1).toNat<((n:Int)-1-(k:Int)+1).toNat;omega, ?_⟩
  .exact L0
  .exact J_ (Value.int IntKind.i64) e2
  .exact J_ (Value.int IntKind.i64) (show(Hh:Int)+((m:Int)+(j:Int))*(C:Int)=_ by rw[e3,hst,F8])
  .exact J_ (Value.int IntKind.i64) e4
  exact Rc
 obtain rfl:k=n:=Z';refine fa ?_;rw[W_ (by rw[c_];omega),W_ Z'];exact⟨rfl,hh.below⟩
def Ny(a:List Int)(x y:Int)(b:List Int)(n:Nat)(h:a.length=n):(a++x::b).set n y=a++y::b:=by
 subst h;rw[q8 _ _ (j' _),f_,U_]
def tx(F:Option Addr)(n c1:Nat)(ns:List Nat)(p:Nat)(w:World)(hF:Sl w F n 1 (jb (Ua ns)))(hn:n<=1000)(hns:∀d∈ns,d<=1000)(hp:p<=1000000):Calls prog 301 #[.slice F n c1,.int .i64 p] w λr w'=>∃A c',r=.returned (.slice A n c')/\w'.ownsRow w.heap.size 3 1 (.slice A n c') n (jb (Ua (Eb ns.reverse p).reverse))/\Below w.heap.size w w':=by
 have hh:=Hp.start w;have hl1:ns.length=n:=by have:=hF.1;simpa[jb,Ua] using this
 have hdl:(Eb ns.reverse p).length=n:=by rw[Gn,c_,hl1]
 refine da (N:=35) (l:=[.slice F n c1,.int .i64 p]) func301 rfl rfl (by simp) ?_;refine fa ?_;refine vF ?_;intro b9 w9 hh;refine fa ?_;rw[show Value.int IntKind.i64 0=Value.int IntKind.i64 0 from rfl] at hh;have hzr:Qg n [Value.int .i64 0]=jb (ie n):=by rw[Om];simp[jb,ie]
 rw[hzr] at hh;refine Ra [1,6,13,14,15,16,17,18,19,20,21,22,23,24,25,26,27,28,29,30,31,32,33] 1 6 (λv1 v w'=>∃k:Nat,k<=n/\v=.int .i64 ((n:Int)-1-k)/\v1=.int .i64 (p/la (ns.reverse.take k):Nat)/\Hp w [.row (some ⟨b9,0,none⟩) n n 3 1 (jb (ie (n-k)++Ua ((Eb ns.reverse p).take k).reverse))] w') (λ_ v _=>(intOf v+1).toNat) ?_ ?_
 .refine⟨0,D' _, ?_, ?_, ?_⟩
  .exact aap
  .rw[K8,la,O7];rfl
  rw[K8];simpa[Ua] using hh
 clear hh;rintro ρ' v1 v w' ⟨k,hk,rfl,rfl,hh⟩;by_cases hlt:k<n
 .obtain⟨d,hd⟩:=ea (l:=ns.reverse) (k:=k) (by rw[c_];omega);have hd':=LC hl1 hlt;rw[hd] at hd';have hgd:=Uc (He hd');have hd2:=hns d (G' hd');have hdk:=wD p hd;have hq:p/la (ns.reverse.take k)<=p:=l8 _ _;have e1:((p/la (ns.reverse.take k):Nat):Int) % ((d:Int)+1)=((p/la (ns.reverse.take k) % (d+1):Nat):Int):=by rw[Int.natCast_emod];rfl
  have e2:((p/la (ns.reverse.take k):Nat):Int)/((d:Int)+1)=((p/la (ns.reverse.take (k+1)):Nat):Int):=by rw[oa hd,Nk,<-V8,Int.natCast_ediv];rfl
  have hlen:(ie (n-k)++Ua ((Eb ns.reverse p).take k).reverse).length=n:=by simp[ie,Ua,hdl];omega
  have hil:(jb (ie (n-k)++Ua ((Eb ns.reverse p).take k).reverse)).length=n:=by rw[Wb,hlen]
  generalize p/la (ns.reverse.take k)=q at*;obtain⟨a1,rfl,s1⟩:=hF.at_ Z';refine mb (sr (mI ?_));refine It (ua (cT (Mc (wc (mb (cg (sr (mL (mI (mI (mL (mI ?_))))))))))));refine AK ?_;refine NF ?_;refine lj ?_;refine YS rfl rfl Z' Z' U' ?_;refine Nd (k:=(n-1-k)) lb.out ya.size rfl rfl Z' Z' U' ?_;rw[e1];refine Ab hh (i:=0) (vs:=[_]) rfl rfl (Bc rfl) rfl ya.out rfl Z' rfl ?_;intro ws hh;simp only[U_] at hh;rw[ek _ Z'] at hh;refine ua (Kb (mI (mL (mI ?_))));refine AK ?_;refine NF ?_;refine fa ?_;refine⟨⟨k+1,Z', ?_, ?_, ?_⟩,by show((n:Int)-1-(k:Int)-1+1).toNat<((n:Int)-1-(k:Int)+1).toNat;omega, ?_⟩
  .exact L0
  .exact J_ (Value.int IntKind.i64) e2
  .have e5:(ie (n-k)++Ua ((Eb ns.reverse p).take k).reverse).set (n-1-k) ((q % (d+1):Nat):Int)=ie (n-(k+1))++Ua ((Eb ns.reverse p).take (k+1)).reverse:=(by have hz:ie (n-k)=ie (n-(k+1))++[0]:=(by unfold ie;rw[show n-k=n-(k+1)+1 by omega,List.replicate_succ']);rw[hz,l_,List.singleton_append,Ny _ _ _ _ _ (by rw[Nr];omega),oa hdk];simp[Ua]);rw[e5] at hh;exact hh
  exact Rc
 obtain rfl:k=n:=Z';rw[W_ Z',f_] at hh;exact SB
end Go.Proofs.YtbencocchdpikaaGreatDoor
