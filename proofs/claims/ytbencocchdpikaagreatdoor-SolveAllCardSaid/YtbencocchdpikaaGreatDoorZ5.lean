/- Lemmas for solveAll, part 5. -/
import Derived.LaidMore
import Derived.Lay
import Derived.Deep.Slices
import Derived.Stop.Joined
import Derived.Deep.Strs
import Derived.Laws.OwnMore
import Derived.Lib.SliceRun
import Derived.Test.YtbencocchdpikaaGreatDoorZ4
set_option linter.all false
set_option maxHeartbeats 0
namespace Go.Proofs.YtbencocchdpikaaGreatDoor
open Go.Proofs.Tryz
open Go.RowKit
variable {n:Nat}
def oM(h:n≠0):sb n=sb (n/256)++[UInt8.ofNat (n % 256)]:=by
 rw[sb,XO Z' h,o_,K7];rfl
def gM(h:n≠0):1<=(sN n).size/\∃c:UInt8,(sN n).data.toList[(((sN n).size:Int)-1).toNat]?=some c/\c.toNat=n % 256:=by
 have hl:(sN n).data.toList=sb (n/256)++[UInt8.ofNat (n % 256)]:=by rw[sN,Oc,oM h]
 have hs:(sN n).size=(sb (n/256)).length+1:=by rw[Yc,hl,Y_];rfl
 refine⟨Z',UInt8.ofNat (n % 256), ?_, ?_⟩
 .rw[hl,hs,H9 Z'];have:(((sb (n/256)).length+1:Nat)-1:Int).toNat-(sb (n/256)).length=0:=Z';rw[this];rfl
 simp
def acy(h:n≠0):(sN n).extract 0 ((sN n).size-1)=sN (n/256):=by
 have hl:(sN n).data=(sb (n/256)++[UInt8.ofNat (n % 256)]).toArray:=by rw[sN,<-oM h];rfl
 have hs:(sN n).size=(sb (n/256)).length+1:=by rw[Yc,hl,Y_];rfl
 apply ByteArray.ext;rw[ByteArray.data_extract,hl,hs];show _=(sb (n/256)).toArray;simp
variable {k:Nat}
def acr{k:Int}(h:0<k)(y:Int):iN (y*k)=iN y:=by
 unfold iN;rw[decide_eq_decide];constructor
 .intro h1;obtain h2|h2|h2:=C6 y 0
  .exact h2
  .rw[h2] at h1;simp at h1
  have:=Int.mul_pos h2 h;omega
 intro h1;exact Int.mul_neg_of_neg_of_pos h1 h
def acA(h:n % 2=1):tz n=0:=by
 have:=QM 0 (n/2);rwa[show 2^0*(2*(n/2)+1)=n by omega] at this
variable {j:Nat}{z:Int}
def BT{y e:Int}(hy:y.natAbs % 2=1)(hz:y*2^j=z):nR (Dyadic.ofIntWithPrec z (-e))=⟨iN y,iM y,e+j⟩:=by
 have h1:=Zt (s:=iN y) (a:=iM y) (e:=e+j) (by rw[zd];omega);rw[zd,iM,Ve,acA hy] at h1;have h2:=Ko y (-(e+j)) j;rw[hz,show -(e+(j:Int))+j= -e by omega] at h2;rw[h2,h1];simp
variable {m:Nat}
def Av{y:Int}(hy:y≠0)(hz:y*2^j=z)(hm:z.natAbs<2^m):j<m:=by
 have h1:z.natAbs=y.natAbs*2^j:=by rw[<-hz,W8,j8];rfl
 have h2:1*2^j<=y.natAbs*2^j:=M9 _ Z';have h3:2^j<2^m:=Z';exact(Nat.pow_lt_pow_iff_right Z').1 h3
def An(s:Bool)(a:ByteArray)(e:Int)(w:World)(ha:a.size<=10000000)(h1: -1000000000000<=e)(h2:e<=1000000000000):Calls prog 92 #[.agg #[.bool s,.string a],.int .i64 e] w λr w'=>r=.returned (.agg #[.bool (nR (Dyadic.ofIntWithPrec (iv s a) (-e))).neg,.string (nR (Dyadic.ofIntWithPrec (iv s a) (-e))).Qa,.int .i64 (nR (Dyadic.ofIntWithPrec (iv s a) (-e))).e])/\Below w.heap.size w w':=by
 have hh:=Hp.start w;by_cases h0:iv s a=0
 .have hm:=Ev.2 h0;rw[h0] at hm;refine da (N:=50) (l:=[.agg #[.bool s,.string a],.int .i64 e]) func92 rfl rfl (by simp) ?_;refine Tb ?_;intro b2 w2 hh b4 w4 hh;refine Oa hh (Ud s a _ Z') rfl ?_;intro w6 hh;rw[h0];refine Lb ?_;intro ws hh;refine EM ?_;refine Lb ?_;intro ws hh;refine iA ?_;rw[ai,Cr];exact⟨rfl,hh.below⟩
 have hm:¬iM (iv s a)=ByteArray.mk #[]:=λh=>h0 (Ev.1 h);have hzb:(iv s a).natAbs<2^(8*a.size):=(by rw[Qj,W9];exact FA a);refine da (N:=50) (l:=[.agg #[.bool s,.string a],.int .i64 e]) func92 rfl rfl (by simp) ?_;refine Tb ?_;intro b2 w2 hh b4 w4 hh;refine Oa hh (Ud s a _ Z') rfl ?_;intro w6 hh;refine Lb ?_;intro ws hh;refine oN ?_;refine fa ?_;generalize hz:iv s a=z at*;refine Ba [1,11,12,13,14,15,16,17,18,19,20,21,22,23,24,25,26,27,28] 1 (λv w'=>∃(y:Int)(j:Nat),y≠0/\y*2^j=z/\v=.int .i64 (e+j)/\Hp w [.blk b4 30 [.bool false,.string (ByteArray.mk #[]),.int .i64 0] (0,0),.blk b2 28 [.bool (iN y),.string (iM y)] (0,0)] w') (λv _=>(e+8*a.size+1-intOf v).toNat) ?_ ?_
 .exact⟨z,0,h0,by simp,by show Value.int _ _=Value.int _ _;congr 1;omega,hh⟩
 clear hh;rintro ρ' v w' ⟨y,j,hy,hyz,rfl,hh⟩;have hj:=Av hy hyz hzb;obtain⟨hs1,c,hc,hcn⟩:=gM (n:=y.natAbs) Z';have hcut:=acy (n:=y.natAbs) Z';have hsz:(sN y.natAbs).size<=10000000:=(by exact adW)
 change (iM y).data.toList[(((iM y).size:Int)-1).toNat]?=some c at hc
 change 1<=(iM y).size at hs1
 change (iM y).extract 0 ((iM y).size-1)=_ at hcut
 change (iM y).size<=_ at hsz
 by_cases hb:y.natAbs % 256=0
 .obtain⟨x,rfl⟩:∃x,y=x*256:=⟨y/256,Z'⟩;have hx:x≠0:=λh=>hy (by rw[h];rfl);have e1:iN (x*256)=iN x:=acr Z' x;have e2:sN ((x*256).natAbs/256)=iM x:=by rw[iM];congr 1;omega
  have hxz:x*2^(j+8)=z:=by rw[<-hyz,Int.pow_add,Int.mul_assoc,H6 (2^j)];rfl
  have hj2:=Av hx hxz hzb;refine fa ?_;refine Mu (l:=0) (h:=((iM (x*256)).size-1)) mb.out rfl rfl ⟨_,_,rfl,Z'⟩ Z' Z' U' ?_;refine Lb ?_;intro ws hh;rw[hcut,e2,e1] at hh;refine⟨⟨x,j+8,hx,hxz,by show Value.int _ _=Value.int _ _;congr 1;omega,hh⟩,by show(e+8*a.size+1-(e+j+8)).toNat<(e+8*a.size+1-(e+j)).toNat;omega, ?_⟩;exact Sc
 refine fa ?_;refine Ba [1,29,30,31,32,33,34,35,36,37,38,39,40,41,42,43,44,45,46] 1 (λv w'=>∃(y:Int)(j:Nat),y≠0/\y*2^j=z/\v=.int .i64 (e+j)/\Hp w [.blk b4 30 [.bool false,.string (ByteArray.mk #[]),.int .i64 0] (0,0),.blk b2 28 [.bool (iN y),.string (iM y)] (0,0)] w') (λv _=>(e+8*a.size+1-intOf v).toNat) ?_ ?_
 .exact⟨y,j,hy,hyz,rfl,hh⟩
 clear hh hb hcut hcn hc hs1 hsz hj hy hyz;rintro ρ2 v w2 ⟨y,j,hy,hyz,rfl,hh⟩;have hj:=Av hy hyz hzb;obtain⟨hs1,c,hc,hcn⟩:=gM (n:=y.natAbs) Z';have hsz:(sN y.natAbs).size<=10000000:=(by exact adW)
 change (iM y).data.toList[(((iM y).size:Int)-1).toNat]?=some c at hc
 change 1<=(iM y).size at hs1
 change (iM y).size<=_ at hsz
 by_cases hb:y.natAbs % 2=0
 .obtain⟨x,rfl⟩:∃x,y=x*2:=⟨y/2,Z'⟩;have hx:x≠0:=λh=>hy (by rw[h];rfl);have hxz:x*2^(j+1)=z:=by rw[<-hyz,Int.pow_add,Int.mul_assoc,H6 (2^j)];rfl
  have hj2:=Av hx hxz hzb;have hof:∀w1,Calls prog 156 #[.int .i64 2] w1 λe w'=>e=.returned (.agg #[.bool false,.string (iM 2)])/\Below w1.heap.size w1 w':=λw1=>Ot 2 w1 Z' Z';have hdv:∀w1,Calls prog 158 #[.agg #[.bool (iN (x*2)),.string (iM (x*2))],.agg #[.bool false,.string (iM 2)]] w1 λe w'=>e=.returned (.tuple #[.agg #[.bool (iN x),.string (iM x)],.agg #[.bool (iN 0),.string (iM 0)],.bool true])/\Below w1.heap.size w1 w':=λw1=>by
   have h2:bN (iM 2)=2:=Ve 2;have h3:(iM 2).size<=10000000:=by rw[Nc];decide
   have:=dK (iN (x*2)) (iM (x*2)) (iM 2) w1 hsz h3 Z';rw[zd,h2,show x*2/((2:Nat):Int)=x by omega,show x*2 % ((2:Nat):Int)=0 by omega] at this;exact this
  refine fa ?_;refine GI (b:=2) rfl rfl Z' U' ?_;refine fa ?_;refine Cd [] [5,6] [0,0,3,7,15,15,15,31] 7 [[(2,none)],[],[(39,some 0),(40,some 1)],[(41,some 2)],[(38,some 3)],[(38,some 3)],[(38,some 3)]] [(6,44),(5,43),(4,42),(3,38),(2,41),(1,40),(0,39)] hh mixed T' Od rfl (by repeat (first|exact Eb|refine Ya ?_|refine Db ?_)) ?_;refine Yd 1 [_,_] ?_;refine dC (λ_ hj=>hof _) ?_;refine dC (λ_ hj=>hdv _) ?_;refine dmT ?_;refine dex ?_;refine dex ?_;refine dex ?_;refine xa ?_;intro f W hJ hV _;have hb_8:=hJ.bl;obtain⟨v44,v43,v42,v38,v41,v40,v39,_⟩:=hV;replace hh:=hJ.hp;refine Ea (Na (aa v44 (aa v43 (aa v42 (aa v38 (aa v41 (aa v40 (aa v39 Da)))))))) ?_;dsimp only[Cb];clear hJ;refine Lb ?_;intro ws hh;refine⟨⟨x,j+1,hx,hxz,by show Value.int _ _=Value.int _ _;congr 1;omega,hh⟩,by show(e+8*a.size+1-(e+j+1)).toNat<(e+8*a.size+1-(e+j)).toNat;omega, ?_⟩;exact Sc
 have hfin:=BT (e:=e) (show y.natAbs % 2=1 by omega) hyz;refine fa ?_;refine GI (b:=2) rfl rfl Z' U' ?_;refine Lb ?_;intro ws hh;refine iA ?_;rw[hfin];exact⟨rfl,hh.below⟩
def rE{e:Int}{x:Dyadic}(w:World)(hx:Dyadic.ofIntWithPrec z (-e)=x)(hz:(iM z).size<=10000000)(h1: -1000000000000<=e)(h2:e<=1000000000000):Calls prog 92 #[.agg #[.bool (iN z),.string (iM z)],.int .i64 e] w λr w'=>r=.returned (.agg #[.bool (nR x).neg,.string (nR x).Qa,.int .i64 (nR x).e])/\Below w.heap.size w w':=by
 have:=An (iN z) (iM z) e w hz h1 h2;rw[zd,hx] at this;exact this
def Fh(n:Int)(w:World)(h1: -9223372036854775808<=n)(h2:n<=9223372036854775807):Calls prog 91 #[.int .i64 n] w λr w'=>r=.returned (.agg #[.bool (nR (n:Dyadic)).neg,.string (nR (n:Dyadic)).Qa,.int .i64 (nR (n:Dyadic)).e])/\Below w.heap.size w w':=by
 have hh:=Hp.start w;have hsz:(iM n).size<=10000000:=(by rw[Nc];have:Sa n.natAbs<=64:=Fc Z';omega);have hc:=λw1=>rE (z:=n) (e:=0) (x:=(n:Dyadic)) w1 rfl hsz Z' Z';refine da (N:=6) (l:=[.int .i64 n]) func91 rfl rfl (by simp) ?_;refine Lb ?_;intro b2 w2 hh;refine Oa hh (Ot n _ h1 h2) rfl ?_;intro w4 hh;refine Oa hh (hc _) rfl ?_;intro w5 hh;exact gG
def Ln(a:NR)(w:World)(ha:a.Qa.size<=10000000)(h1: -1000000000000<=a.e)(h2:a.e<=1000000000000):Calls prog 176 #[.agg #[.bool a.neg,.string a.Qa,.int .i64 a.e]] w λr w'=>r=.returned (.agg #[.bool (nR a.ma).neg,.string (nR a.ma).Qa,.int .i64 (nR a.ma).e])/\Below w.heap.size w w':=by
 have hh:=Hp.start w;refine da (N:=8) (l:=[.agg #[.bool a.neg,.string a.Qa,.int .i64 a.e]]) func176 rfl rfl (by simp) ?_;refine Tb ?_;intro b1 w1 hh b2 w2 hh;refine Oa hh (An a.neg a.Qa a.e _ ha h1 h2) rfl ?_;intro w7 hh;exact gG
def xf(a:NR)(w:World)(ha:a.Qa.size<=10000000):Calls prog 45 #[.agg #[.bool a.neg,.string a.Qa,.int .i64 a.e]] w λr w'=>r=.returned (.int .i64 a.i.sign)/\Below w.heap.size w w':=by
 have hh:=Hp.start w;refine da (N:=6) (l:=[.agg #[.bool a.neg,.string a.Qa,.int .i64 a.e]]) func45 rfl rfl (by simp) ?_;refine Lb ?_;intro b1 w1 hh;refine Oa hh (Zi a.neg a.Qa _ Z') rfl ?_;intro w5 hh;refine fa ?_;exact⟨rfl,hh.below⟩
def ZC(a:NR)(n:Int)(w:World)(ha:a.Qa.size<=10000000)(h1: -100000000000<=a.e)(h2:a.e<=100000000000)(h3: -100000000000<=n)(h4:n<=100000000000):Calls prog 36 #[.agg #[.bool a.neg,.string a.Qa,.int .i64 a.e],.int .i64 n] w λr w'=>r=.returned (.agg #[.bool (nR (a.ma*Je n)).neg,.string (nR (a.ma*Je n)).Qa,.int .i64 (nR (a.ma*Je n)).e])/\Below w.heap.size w w':=by
 have hh:=Hp.start w;have e1:Dyadic.ofIntWithPrec (iv a.neg a.Qa) (-(a.e+n))=a.ma*Je n:=(by rw[Int.neg_add];exact MB _ _ _);have hc:=λw1=>An a.neg a.Qa (a.e+n) w1 ha Z' Z';rw[e1] at hc;refine da (N:=12) (l:=[.agg #[.bool a.neg,.string a.Qa,.int .i64 a.e],.int .i64 n]) func36 rfl rfl (by simp) ?_;refine Tb ?_;intro b2 w2 hh b4 w4 hh;refine Oa hh (hc _) rfl ?_;intro w11 hh;exact gG
def aeu(x:Dyadic):Dyadic.ofIntWithPrec (nR x).i (-(nR x).e)=x:=db x
def xY{u v:NR}(h:u.e=v.e+k):Dyadic.ofIntWithPrec (u.i*2^k+v.i) (-v.e)=u.ma+v.ma:=by
 rw[<-wq];congr 1;have:=Ko u.i (-u.e) k;rw[show -u.e+(k:Int)= -v.e by omega] at this;exact this
def xx{u v:NR}(hk:u.e=v.e+k)(hu:u.Qa.size<=1000000)(hv:v.Qa.size<=1000000)(hk2:k<=40000000)(h1: -100000000000<=v.e)(h2:v.e<=100000000000):(∀w,Calls prog 187 #[.agg #[.bool u.neg,.string u.Qa],.int .i64 (u.e-v.e)] w λe w'=>e=.returned (.agg #[.bool (iN (u.i*2^k)),.string (iM (u.i*2^k))])/\Below w.heap.size w w')/\(∀w,Calls prog 186 #[.agg #[.bool (iN (u.i*2^k)),.string (iM (u.i*2^k))],.agg #[.bool v.neg,.string v.Qa]] w λe w'=>e=.returned (.agg #[.bool (iN (u.i*2^k+v.i)),.string (iM (u.i*2^k+v.i))])/\Below w.heap.size w w')/\
  ∀w,Calls prog 92 #[.agg #[.bool (iN (u.i*2^k+v.i)),.string (iM (u.i*2^k+v.i))],.int .i64 v.e] w λr w'=>r=.returned (.agg #[.bool (nR (u.ma+v.ma)).neg,.string (nR (u.ma+v.ma)).Qa,.int .i64 (nR (u.ma+v.ma)).e])/\Below w.heap.size w w':=by
 have hb1:Sa (u.i*2^k).natAbs<=8000000+k:=(by rw[W8,j8];have:=Ug u.i.natAbs k;have h3:=nh u.neg u.Qa;unfold NR.i at this |-;exact M_ this Z');have hb2:=nh v.neg v.Qa;have hb3:=rm (u.i*2^k) v.i;refine⟨λw=> ?_,λw=> ?_,λw=> ?_⟩
 .rw[show u.e-v.e=k by omega];exact MH u.neg u.Qa k w Z' Z'
 .have:=Bn (iN (u.i*2^k)) v.neg (iM (u.i*2^k)) v.Qa w (by rw[Nc];omega) Z';rw[zd] at this;exact this
 exact rE w (xY hk) (by rw[Nc];unfold NR.i at hb1 hb3 |-;omega) Z' Z'
def yE(a b:NR)(w:World)(ha:a.ok)(hb:b.ok):Calls prog 108 #[.agg #[.bool a.neg,.string a.Qa,.int .i64 a.e],.agg #[.bool b.neg,.string b.Qa,.int .i64 b.e]] w λr w'=>r=.returned (.agg #[.bool (nR (a.ma+b.ma)).neg,.string (nR (a.ma+b.ma)).Qa,.int .i64 (nR (a.ma+b.ma)).e])/\Below w.heap.size w w':=by
 have hh:=Hp.start w;obtain⟨ha1,ha2,ha3⟩:=ha;obtain⟨hb1,hb2,hb3⟩:=hb;obtain⟨_,fa1,fa2,fa3⟩:=Mk (a:=a) ⟨ha1,ha2,ha3⟩;obtain⟨_,fb1,fb2,fb3⟩:=Mk (a:=b) ⟨hb1,hb2,hb3⟩;have hsg:∀x:Dyadic,(nR x).i.sign=0↔x=0:=λx=>by
  rw[W5];constructor
  .intro h;rw[<-aeu x,h,ai]
  intro h;rw[h];rfl
 by_cases h0:a.ma=0
 .have hs0:=(hsg a.ma).2 h0;refine yL ?_;refine Dm ?_;intro b2 w2 hh b3 w3 hh b4 w4 hh;refine PK ?_;refine Yd 2 [_,_,_] ?_;refine OL ?_;refine Yd 1 [_,_,_] ?_;refine xa ?_;intro f W hJ hV;have hb_1:=hJ.bl;obtain⟨v7,v6,v5,_⟩:=hV;replace hh:=hJ.hp;refine pB ?_;dsimp only[Cb];clear hJ;refine RM ?_;intro w8 hh;refine Tb ?_;intro ws hh ws hh;refine Oa hh (xf (nR a.ma) _ Z') rfl ?_;intro w10 hh;refine Lb ?_;intro ws hh;refine iA ?_;rw[h0,P7];exact⟨rfl,hh.below⟩
 have hs0:¬(nR a.ma).i.sign=0:=λh=>h0 ((hsg a.ma).1 h);by_cases h1:b.ma=0
 .have hs1:=(hsg b.ma).2 h1;refine yL ?_;refine Dm ?_;intro b2 w2 hh b3 w3 hh b4 w4 hh;refine PK ?_;refine Yd 2 [_,_,_] ?_;refine OL ?_;refine Yd 1 [_,_,_] ?_;refine xa ?_;intro f W hJ hV;have hb_1:=hJ.bl;obtain⟨v7,v6,v5,_⟩:=hV;replace hh:=hJ.hp;refine pB ?_;dsimp only[Cb];clear hJ;refine RM ?_;intro w8 hh;refine Tb ?_;intro ws hh ws hh;refine Oa hh (xf (nR a.ma) _ Z') rfl ?_;intro w10 hh;refine fa ?_;refine Oa hh (xf (nR b.ma) _ Z') rfl ?_;intro w14 hh;refine Lb ?_;intro ws hh;refine iA ?_;rw[h1,R7];exact⟨rfl,hh.below⟩
 have hs1:¬(nR b.ma).i.sign=0:=λh=>h1 ((hsg b.ma).1 h);by_cases hlt:(nR a.ma).e<(nR b.ma).e
 .obtain⟨k,hk⟩:∃k:Nat,(nR b.ma).e=(nR a.ma).e+k:=⟨((nR b.ma).e-(nR a.ma).e).toNat,Z'⟩;obtain⟨hshl,hpl,hmk⟩:=xx hk fb1 fa1 Z' Z' Z';rw[db,db,Dyadic.add_comm] at hmk;refine yL ?_;refine Dm ?_;intro b2 w2 hh b3 w3 hh b4 w4 hh;refine PK ?_;refine Yd 2 [_,_,_] ?_;refine OL ?_;refine Yd 1 [_,_,_] ?_;refine xa ?_;intro f W hJ hV;have hb_1:=hJ.bl;obtain⟨v7,v6,v5,_⟩:=hV;replace hh:=hJ.hp;refine pB ?_;dsimp only[Cb];clear hJ;refine RM ?_;intro w8 hh;refine Tb ?_;intro ws hh ws hh;refine Oa hh (xf (nR a.ma) _ Z') rfl ?_;intro w10 hh;refine fa ?_;refine Oa hh (xf (nR b.ma) _ Z') rfl ?_;intro w14 hh;refine Tb ?_;intro ws hh ws hh;exact aa8
 obtain⟨k,hk⟩:∃k:Nat,(nR a.ma).e=(nR b.ma).e+k:=⟨((nR a.ma).e-(nR b.ma).e).toNat,Z'⟩;obtain⟨hshl,hpl,hmk⟩:=xx hk fa1 fb1 Z' Z' Z';rw[db,db] at hmk;refine yL ?_;refine Dm ?_;intro b2 w2 hh b3 w3 hh b4 w4 hh;refine PK ?_;refine Yd 2 [_,_,_] ?_;refine OL ?_;refine Yd 1 [_,_,_] ?_;refine xa ?_;intro f W hJ hV;have hb_1:=hJ.bl;obtain⟨v7,v6,v5,_⟩:=hV;replace hh:=hJ.hp;refine pB ?_;dsimp only[Cb];clear hJ;refine RM ?_;intro w8 hh;refine Tb ?_;intro ws hh ws hh;refine Oa hh (xf (nR a.ma) _ Z') rfl ?_;intro w10 hh;refine fa ?_;refine Oa hh (xf (nR b.ma) _ Z') rfl ?_;intro w14 hh;refine fa ?_;exact aa8
def Sz.pow{x:Dyadic}(h:Sz k x)(n:Nat):Sz (1+k*n) (x^n):=by
 induction n with
 |zero=>rw[x7];exact Sz.one
 |succ n ih=>rw[P5];exact(ih.mul h).mono (by rw[R8];omega)
def D(m e:Int):Dyadic:=Dyadic.ofIntWithPrec m (-e)
def sX{m e:Int}(hm:m.natAbs<256)(h1: -16<=e)(h2:e<=16):Sz 24 (D m e):=by
 have:=Sz.raw (a:=⟨iN m,iM m,e⟩) (m:=8) (E:=16) (by show 8*(iM m).size<=8;rw[Nc];have:Sa m.natAbs<=8:=Fc hm;omega) h1 h2;rw[NR.ma,NR.i,zd] at this;exact this
def agN(most far:Int)(l:List NR):Bool:=l.any λa=>decide (most<a.Qa.size\/a.e< -far\/far<a.e)
open Go.ChangeShapes Go.WideShapes Go.ChangeAt Go.RowKit Go.ChangeMaps
variable {W:World}{base fuel:Nat}{cs:List Value}
set_option maxRecDepth 100000 in
def Eo{H:Type}{enc:TypeId×Value->H}{sp:Nat->Bool}{held:Bool}{x:DataW H×List MemPlace}(h:DataW.trod enc prog W base sp held fuel 30 cs=some x):
  ∃a:NR,cs=a.cells/\(Lit.int .i64 a.e).wf=true:=by
 have c1:prog.cellsOf 30=3:=by kernel_rfl
 have c2:prog.cellsOf 28=2:=by kernel_rfl
 have c3:prog.cellsOf 4=1:=by kernel_rfl
 have c4:prog.cellsOf 9=1:=by kernel_rfl
 have c5:prog.cellsOf 3=1:=by kernel_rfl
 obtain⟨y0,y1,n,_,hl,h0,h1⟩:=trod_struct2 Tryz.underlying30 h;obtain⟨z0,z1,n2,_,hl2,h00,h01⟩:=trod_struct2 Tryz.underlying28 h0;obtain⟨b,e0,_⟩:=DataW.trod_bool Tryz.underlying4 h00;obtain⟨s,e1,_,hs⟩:=DataW.trod_string Tryz.underlying9 h01;obtain⟨z,e2,_,hz⟩:=DataW.trod_int Tryz.underlying3 h1;rw[c1] at hl
 match cs,hl with
 |[x0,x1,x2],_=>
  simp only[c2,c3,c4,c5] at e0 e1 e2;simp at e0 e1 e2;subst e0 e1 e2;exact⟨⟨b,s,z⟩,rfl,hz⟩
variable {b0:Nat}
set_option maxRecDepth 100000 in
def LS{H:Type}{enc:TypeId×Value->H}{r:Reach}{sp:Nat->Bool}{held:Bool}{v:Value}{d:DataW H}{ps:List MemPlace} (hval:Value.okWide prog W r b0 30 v)(hd:DataW.Trod enc prog W base sp held 30 v d ps):∃a:NR,v=.agg #[.bool a.neg,.string a.Qa,.int .i64 a.e]/\ -9223372036854775808<=a.e/\a.e<=9223372036854775807:=by
 obtain⟨cs,rfl,_⟩:=okWide_struct Tryz.underlying30 hval;obtain⟨fuel,hf⟩:=hd;obtain⟨a,h1,h2⟩:=Eo hf;refine⟨a, ?_,bounds_i64 h2⟩;have h3:cs.toList=a.cells:=h1;rw[<-Array.toList_inj.1 (show cs.toList=(#[.bool a.neg,.string a.Qa,.int .i64 a.e]:Array Value).toList from h3)]
def WG(h:laidMetH prog Rows.ratioEnclosesRow.laid W):Xc W:=by
 rw[MakeChecks.laidMetH_plain _ _ _ T'] at h;obtain⟨ps,⟨g,t,cs,fuel,p,q,hg,ht,hv,hd,_,_⟩,_,_⟩:=h;obtain rfl:=L_ ((show prog.globalNamed "math/bits.deBruijn64tab" =some 0 by kernel_rfl).symm.trans hg);obtain rfl:=L_ ((show(prog.globals[0]?).map (·.type)=some 298 by kernel_rfl).symm.trans ht);obtain⟨xs,m,_,ex,_,hl,hel⟩:=DataW.trod_array Tryz.underlying298 hd;have c5:prog.cellsOf 5=1:=by kernel_rfl
 have e3:(xs.map (·.1))=zI.map λn=>.lit (.int .u8 n):=(DataW.agg.inj (Prod.mk.inj ex).1).symm;have hlen:zI.length=64:=by decide
 intro r u hu;have hr:r<64:=(by have:=(X_.1 hu).1;rw[Pc] at this;omega);have hE:=hel r hr;rw[c5,H_,G8 Z'] at hE;obtain⟨z,e1,e2,_⟩:=DataW.trod_int Tryz.underlying5 hE;have e4:(xs.map (·.1))[r]?=(zI.map λ(n:Nat)=>(DataW.lit (.int .u8 n):DataW Unit))[r]?:=by rw[e3]
 rw[V_,V_,G8 (by omega:r<xs.length),G8 (by omega:r<zI.length),e2] at e4;have hz:u=.int .u8 z:=(by rw[Og,V_,G8 (by omega:r<zI.length)] at hu;simp only[K8,P8,DataW.lit.injEq,Lit.int.injEq,true_and] at e4 hu;rw[<-hu,e4]);rw[ve,C_,World.var?_cell hg hv r,hz];have:cs.toList[r]?=some (.int .u8 z):=by
  have h0:((cs.toList.drop r).take 1)[0]?=some (.int .u8 z):=by rw[e1];rfl
  simpa using h0
 simpa using this
variable {α:Type}
def nx{α:Type}{p:Nat->α->Prop}:∀(n:Nat),(∀i,i<n->∃a,p i a)->∃l:List α,l.length=n/\∀i a,l[i]?=some a->p i a
 |0,_=>⟨[],rfl,λi a h=>by simp at h⟩
 |n+1,h=>by
  obtain⟨l,h1,h2⟩:=nx n λi hi=>h i Z';obtain⟨a,ha⟩:=h n Z';refine⟨l++[a],by simp[h1],λi b hb=> ?_⟩;obtain hi|hi:=Z9 i l.length
  .rw[X8 hi] at hb;exact h2 i b hb
  rw[H9 hi] at hb;have h3:i-l.length=0:=by
   obtain h|h:=o8 (i-l.length)
   .exact h
   rw[r_ (by simp;omega)] at hb;cases hb
  rw[h3] at hb;simp only[O6,P8] at hb;subst hb;rw[show i=n by omega];exact ha
variable {P:Program}
def nt{f:α->List Value}{p:α->Prop}{sz:Nat}{t e:TypeId}{H:Type}{enc:TypeId×Value->H}{r:Reach}{sp:Nat->Bool}{held:Bool}{v:Value}{d:DataW H}{ps:List MemPlace} (hf:∀x,(f x).length=sz)(h0:0<sz)(ht:P.underlying t=some (.slice e))(hc:P.cellsOf e=sz)(one:∀fuel cs x,DataW.trod enc P W base sp held fuel e cs=some x->∃a,cs=f a/\p a) (hval:Value.okWide P W r b0 t v)(hd:DataW.Trod enc P W base sp held t v d ps):∃(A:Option Addr)(n c:Nat)(l:List α),v=.slice A n c/\Sl W A n sz (na f l)/\∀a∈l,p a:=by
 obtain⟨a,len,cap,rfl⟩:=okWide_slice ht hval;obtain⟨fuel,hfu⟩:=hd;obtain⟨h1,_⟩|⟨ad,n,cp,m,k,D,Pl,h1,_,h2,h3,hm,_,h5⟩:=Go.Deep.open_slice ht hfu
 .have h1':[Value.slice a len cap]=[.slice none 0 0]:=h1;simp only[j6,Value.slice.injEq,and_true] at h1';obtain⟨rfl,rfl,rfl⟩:=h1';exact⟨none,0,0,[],rfl,Sl.nil W none sz,λ_ h=>by simp at h⟩
 have h1':[Value.slice a len cap]=[.slice (some ad) n cp]:=h1;simp only[j6,Value.slice.injEq,and_true] at h1';obtain⟨rfl,rfl,rfl⟩:=h1';have hnm:len<=m:=by rw[hm];split<;>omega
 obtain⟨l,hl,hp⟩:=nx (p:=λi a=>W.cells? base (ad.add (i*sz)) sz=some (f a)/\p a) len λi hi=>(by exact aap);refine⟨some ad,len,cap,l,rfl,⟨by rw[ue hf,hl],λ_=>⟨ad,rfl,λj u hu=> ?_⟩⟩,λa ha=> ?_⟩
 .exact aeS
 obtain⟨i,hi⟩:=j_.1 ha;exact(hp i a hi).2
def IC(z:Int):List Value:=[.int .i64 z]
def IC.len(z:Int):(IC z).length=1:=rfl
def XY(l:List Int):na IC l=jb l:=by
 induction l with
 |nil=>rfl
 |cons z l ih=>rw[Zg,ih];rfl
set_option maxRecDepth 100000 in
def GO{H:Type}{enc:TypeId×Value->H}{sp:Nat->Bool}{held:Bool}{x:DataW H×List MemPlace}(h:DataW.trod enc prog W base sp held fuel 3 cs=some x):
  ∃z:Int,cs=IC z/\(Lit.int .i64 z).wf=true:=by
 have c1:prog.cellsOf 3=1:=by kernel_rfl
 obtain⟨z,e2,_,hz⟩:=DataW.trod_int Tryz.underlying3 h;exact⟨z,e2,hz⟩
set_option maxRecDepth 100000 in
def YO{H:Type}{enc:TypeId×Value->H}{r:Reach}{sp:Nat->Bool}{held:Bool}{v:Value}{d:DataW H}{ps:List MemPlace} (hval:Value.okWide prog W r b0 76 v)(hd:DataW.Trod enc prog W base sp held 76 v d ps):∃(A:Option Addr)(n c:Nat)(l:List Int),v=.slice A n c/\Sl W A n 1 (jb l)/\∀z∈l, -9223372036854775808<=z/\z<=9223372036854775807:=by
 obtain⟨A,n,c,l,h1,h2,h3⟩:=nt IC.len U' Tryz.underlying76 T' (λ_ _ _ h=>GO h) hval hd;rw[XY] at h2;exact⟨A,n,c,l,h1,h2,λz hz=>bounds_i64 (h3 z hz)⟩
def VH{f:α->List Value}{p:α->Prop}{sz:Nat}{t e:TypeId}{H:Type}{enc:TypeId×Value->H}{sp:Nat->Bool}{held:Bool}{x:DataW H×List MemPlace} (hf:∀x,(f x).length=sz)(h0:0<sz)(ht:P.underlying t=some (.slice e))(hc:P.cellsOf e=sz)(one:∀fuel cs x,DataW.trod enc P W base sp held fuel e cs=some x->∃a,cs=f a/\p a) (hfu:DataW.trod enc P W base sp held fuel t cs=some x):∃(A:Option Addr)(n c:Nat)(l:List α),cs=[.slice A n c]/\Sl W A n sz (na f l)/\∀a∈l,p a:=by
 obtain⟨h1,_⟩|⟨ad,n,cp,m,k,D,Pl,h1,_,h2,h3,hm,_,h5⟩:=Go.Deep.open_slice ht hfu
 .exact⟨none,0,0,[],h1,Sl.nil W none sz,λ_ h=>by simp at h⟩
 have hnm:n<=m:=by rw[hm];split<;>omega
 obtain⟨l,hl,hp⟩:=nx (p:=λi a=>W.cells? base (ad.add (i*sz)) sz=some (f a)/\p a) n λi hi=>(by exact aap);refine⟨some ad,n,cp,l,h1,⟨by rw[ue hf,hl],λ_=>⟨ad,rfl,λj u hu=> ?_⟩⟩,λa ha=> ?_⟩
 .exact aeS
 obtain⟨i,hi⟩:=j_.1 ha;exact(hp i a hi).2
def HO{t e:TypeId}{H:Type}{enc:TypeId×Value->H}{sp:Nat->Bool}{held:Bool}{A:Option Addr}{c:Nat}{x:DataW H×List MemPlace} (ht:P.underlying t=some (.slice e))(hfu:DataW.trod enc P W base sp held fuel t [.slice A n c]=some x):n<=c:=by
 obtain⟨h1,_⟩|⟨ad,n',cp,m,k,D,Pl,h1,_,h2,_⟩:=Go.Deep.open_slice ht hfu
 .injection h1 with h1
  injection h1 with _ e2 e3
  omega
 injection h1 with h1
 injection h1 with _ e2 e3
 omega
def CR{l:List Int}(h:l.all Td=true):ints (l.map gD)=l:=by
 induction l with
 |nil=>rfl
 |cons x l ih=>
  simp only[List.all_cons,Q_] at h;have h1:((gD x).toNat:Int)=x:=by
   have:=vv h.1;injection this with _ this
   exact this.symm
  have:=ih h.2;simp only[ints,o_,h1];congr 1
def jS{l:List Int}(h:l.all Td=true):Be (l.map gD)=true:=by
 rw[Be,u_];intro c hc;obtain⟨x,hx,rfl⟩:=i'.1 hc;have h1:=u_.1 h x hx;have:=vv h1;injection this with _ this
 simp only[Td,Q_,K_] at h1;simp only[K_];omega
def UW{a:List UInt8}(h:Be a=true):(ints a).all Td=true:=by
 rw[u_];intro x hx;obtain⟨c,hc,rfl⟩:=i'.1 hx;have:=u_.1 h c hc;simp only[K_] at this;simp only[Td,Q_,K_];omega
def IA{f:Int->Int->Int}{a b:List UInt8}{l:List Int}(h:Yi f a b=some l):Be a=true/\Be b=true/\b.length=a.length/\l=List.zipWith f (ints a) (ints b):=by
 unfold Yi at h;split at h
 .rename_i hc;simp only[Q_,K_] at hc;injection h with h
  exact⟨hc.1,hc.2.1,Z',h.symm⟩
 cases h
def zX{f:Int->Int->Int}{a b:List UInt8}(h1:Be a=true)(h2:Be b=true)(h3:b.length=a.length):Yi f a b=some (List.zipWith f (ints a) (ints b)):=by
 unfold Yi;rw[J' (by simp[h1,h2,h3])]
def Ho{a c:List UInt8}(h:(mulL a c).2=0):Be a=true/\Be c=true/\c.length=a.length/\Be (mulL a c).1=true/\ints (mulL a c).1=List.zipWith (· + ·) (ints a) (ints c):=by
 unfold mulL at h |-;split
 .rename_i l hl;rw[hl] at h;simp only at h |-;obtain⟨h1,h2,h3,h4⟩:=IA hl;by_cases hc:l.all Td=true
  .rw[(xv hc).1];exact⟨h1,h2,h3,jS hc,by rw[CR hc,h4]⟩
  simp[zY,hc] at h
 rename_i hl;rw[hl] at h;simp at h
def yJ{a c:List UInt8}(h:(mulL a c).2=0):(mulL a c).1.length=a.length:=by
 obtain⟨_,_,h3,_,h5⟩:=Ho h;have:=J_ List.length h5;rw[md,p7,md,md] at this;omega
structure TR where
 m:ByteArray
 c:NR
def TR.cells(t:TR):List Value:=[.string t.m,.bool t.c.neg,.string t.c.Qa,.int .i64 t.c.e]
def TR.len(t:TR):t.cells.length=4:=rfl
def TR.one(t:TR):t.cells.all Value.oneCell'=true:=rfl
def uh(a b:ByteArray):Bool:=Op.bytesLess a.data.toList b.data.toList
def Tr:∀a:List UInt8,Op.bytesLess a a=false
 |[]=>rfl
 |c::a=>by simp[Op.bytesLess,Tr a]
def Hu:∀a b c:List UInt8,Op.bytesLess a b=true->Op.bytesLess b c=true->Op.bytesLess a c=true
 |_,[],[],_,h=>by simp[Op.bytesLess] at h
 |_,_::_,[],_,h=>by simp[Op.bytesLess] at h
 |[],[],_::_,h,_=>by simp[Op.bytesLess] at h
 |_::_,[],_::_,h,_=>by simp[Op.bytesLess] at h
 |[],_::_,_::_,_,_=>rfl
 |x::a,y::b,z::c,h1,h2=>by
  simp only[Op.bytesLess,C7,Q_,K_,Q8] at h1 h2 |-;obtain h1|⟨rfl,h1⟩:=h1
  .obtain h2|⟨rfl,h2⟩:=h2
   .exact .inl (UInt8.lt_trans h1 h2)
   exact .inl h1
  obtain h2|⟨rfl,h2⟩:=h2
  .exact .inl h2
  exact .inr ⟨rfl,Hu a b c h1 h2⟩
def dA:∀a b:List UInt8,Op.bytesLess a b=false->Op.bytesLess b a=false->a=b
 |[],[],_,_=>rfl
 |[],_::_,h,_=>by simp[Op.bytesLess] at h
 |_::_,[],_,h=>by simp[Op.bytesLess] at h
 |x::a,y::b,h1,h2=>(by simp only[Op.bytesLess,Bool.or_eq_false_iff,B5,u6,beq_eq_false_iff_ne] at h1 h2;have e:x=y:=(by have a1:=h1.1;have a2:=h2.1;rw[UInt8.lt_iff_toNat_lt] at a1 a2;exact I6.1 Z');subst e;rw[dA a b (h1.2.resolve_left (λh=>h rfl)) (h2.2.resolve_left (λh=>h rfl))])
def Bg(a:ByteArray):uh a a=false:=Tr _
def Bj{a b c:ByteArray}(h1:uh a b=true)(h2:uh b c=true):uh a c=true:=Hu _ _ _ h1 h2
def Yn{a b:ByteArray}(h1:uh a b=false)(h2:uh b a=false):a=b:=jx (dA _ _ h1 h2)
def OT{a b:ByteArray}(h:uh a b=true):a≠b:=λe=>by rw[e,Bg] at h;cases h
def ZO{a b:ByteArray}(h:uh a b=true):uh b a=false:=by
 cases h2:uh b a with
 |false=>rfl
 |true=>have:=Bj h h2;rw[Bg] at this;cases this
def Gv(l:List TR):Prop:=l.Pairwise λa b=>uh a.m b.m=true
def wS(f:ByteArray->Dyadic):List TR->Dyadic
 |[]=>0
 |t::l=>t.c.ma*f t.m+wS f l
def Jo(f:ByteArray->Dyadic)(l k:List TR):wS f (l++k)=wS f l+wS f k:=by
 induction l with
 |nil=>exact(P7 _).symm
 |cons t l ih=>rw[C',wS,wS,ih,Dyadic.add_assoc]
def QW(f:ByteArray->Dyadic)(l:List TR)(t:TR):wS f (l++[t])=wS f l+t.c.ma*f t.m:=by
 rw[Jo,wS,wS,R7]
def Ah(l:List TR)(m:ByteArray):Dyadic:=wS (λk=>if k=m then 1 else 0) l
def rf(t:TR)(l:List TR)(m:ByteArray):Ah (t::l) m=(if t.m=m then t.c.ma else 0)+Ah l m:=by
 show t.c.ma*(if t.m=m then 1 else 0)+Ah l m=_;split
 .rw[Dyadic.mul_one]
 rw[Q5]
def Qy(m:ByteArray):Ah [] m=0:=rfl
def zf(l k:List TR)(m:ByteArray):Ah (l++k) m=Ah l m+Ah k m:=Jo _ _ _
def PA{l:List TR}{m:ByteArray}(h:∀t∈l,t.m≠m):Ah l m=0:=by
 induction l with
 |nil=>rfl
 |cons t l ih=>rw[rf,L' (h t q'),ih λs hs=>h s (F' _ hs),P7]
structure Canon(l:List TR):Prop where
 Gu:Gv l
 nz:∀t∈l,t.c.ma≠0
 nf:∀t∈l,t.c=nR t.c.ma
def Tx{t:TR}{l:List TR}(h:Canon (t::l)):Canon l:=⟨(Y8.1 h.Gu).2,λs hs=>h.nz s (F' _ hs),λs hs=>h.nf s (F' _ hs)⟩
def jA{t:TR}{l:List TR}{m:ByteArray}(h:Gv (t::l))(hm:m=t.m\/uh m t.m=true):∀s∈l,s.m≠m:=λs hs e=>by
 have h1:=(Y8.1 h).1 s hs;obtain rfl|hm:=hm
 .rw[e,Bg] at h1;cases h1
 have:=Bj hm h1;rw[e,Bg] at this;cases this
def Aj{t:TR}{l:List TR}(h:Gv (t::l)):Ah (t::l) t.m=t.c.ma:=by
 rw[rf,J' rfl,PA (jA h (.inl rfl)),R7]
def kA{t:TR}{l:List TR}{m:ByteArray}(h:Gv (t::l))(hm:uh m t.m=true):Ah (t::l) m=0:=by
 rw[rf,L' (λe=>OT hm e.symm),PA (jA h (.inr hm)),P7]
def QF:∀{l k:List TR},Canon l->Canon k->(∀m,Ah l m=Ah k m)->l=k
 |[],[],_,_,_=>rfl
 |[],t::k,_,hk,h=>(by have:=h t.m;rw[Aj hk.Gu,Qy] at this;exact absurd this.symm (hk.nz t q'))
 |t::l,[],hl,_,h=>(by have:=h t.m;rw[Aj hl.Gu,Qy] at this;exact absurd this (hl.nz t q'))
 |t::l,s::k,hl,hk,h=>by
  have h1:uh t.m s.m=false:=by
   cases hb:uh t.m s.m with
   |false=>rfl
   |true=>
    have:=h t.m;rw[Aj hl.Gu,kA hk.Gu hb] at this;exact absurd this (hl.nz t q')
  have h2:uh s.m t.m=false:=by
   cases hb:uh s.m t.m with
   |false=>rfl
   |true=>
    have:=h s.m;rw[Aj hk.Gu,kA hl.Gu hb] at this;exact absurd this.symm (hk.nz s q')
  have em:=Yn h1 h2;have ed:t.c.ma=s.c.ma:=(by have:=h t.m;rw[Aj hl.Gu,em,Aj hk.Gu] at this;exact this);have et:t=s:=(by have a:=hl.nf t q';have b:=hk.nf s q';obtain⟨m1,c1⟩:=t;obtain⟨m2,c2⟩:=s;simp only at em ed a b;rw[em,a,b,ed]);subst et;rw[QF (Tx hl) (Tx hk) λm=>by
   have:=h m;rw[rf,rf] at this;grind]
def vh:List TR->TR->List TR
 |[],x=>[⟨x.m,nR x.c.ma⟩]
 |t::l,x=>if uh t.m x.m=true then t::vh l x else if uh x.m t.m=true then⟨x.m,nR x.c.ma⟩::t::l else⟨x.m,nR (t.c.ma+x.c.ma)⟩::l
def TL(f:ByteArray->Dyadic):∀(l:List TR)(x:TR),wS f (vh l x)=wS f l+x.c.ma*f x.m
 |[],x=>(by show(nR x.c.ma).ma*f x.m+0=0+_;rw[db,R7,P7])
 |t::l,x=>by
  unfold vh;split
  .rw[wS,TL f l x,wS,Dyadic.add_assoc]
  split
  .rw[wS,wS,db,Dyadic.add_comm]
  rename_i h1 h2;have e:t.m=x.m:=Yn (by simpa using h1) (by simpa using h2);rw[wS,wS,db,e];grind
def Uv:∀{l:List TR}{x t:TR},t∈vh l x->t∈l\/t.m=x.m
 |[],x,t,h=>.inr (by rw[S_.1 h])
 |s::l,x,t,h=>by
  unfold vh at h;split at h
  .obtain rfl|h:=T_.1 h
   .exact .inl q'
   obtain h|h:=Uv h
   .exact .inl (F' _ h)
   exact .inr h
  split at h
  .obtain rfl|h:=T_.1 h
   .exact .inr rfl
   exact .inl h
  obtain rfl|h:=T_.1 h
  .exact .inr rfl
  exact .inl (F' _ h)
def EE:∀{l:List TR}{x:TR},Gv l->Gv (vh l x)
 |[],x,_=>F5 _ _
 |s::l,x,h=>by
  have h1:=Y8.1 h;unfold vh;split
  .rename_i hs;refine Y8.2 ⟨λt ht=> ?_,EE h1.2⟩;obtain ht|ht:=Uv ht
   .exact h1.1 t ht
   rw[ht];exact hs
  split
  .rename_i hs;refine Y8.2 ⟨λt ht=> ?_,h⟩;obtain rfl|ht:=T_.1 ht
   .exact hs
   exact Bj hs (h1.1 t ht)
  rename_i a b;have e:s.m=x.m:=Yn (by simpa using a) (by simpa using b);refine Y8.2 ⟨λt ht=> ?_,h1.2⟩;show uh x.m t.m=true;rw[<-e];exact h1.1 t ht
def uK:∀{l:List TR}{x:TR},(∀t∈l,t.c=nR t.c.ma)->∀t∈vh l x,t.c=nR t.c.ma
 |[],x,_,t,ht=>by rw[S_.1 ht];show nR _=nR (nR _).ma;rw[db]
 |s::l,x,h,t,ht=>by
  unfold vh at ht;split at ht
  .obtain rfl|ht:=T_.1 ht
   .exact h t q'
   exact uK (λt ht=>h t (F' _ ht)) t ht
  split at ht
  .obtain rfl|ht:=T_.1 ht
   .show nR _=nR (nR _).ma;rw[db]
   exact h t ht
  obtain rfl|ht:=T_.1 ht
  .show nR _=nR (nR _).ma;rw[db]
  exact h t (F' _ ht)
def oG:∀(l:List TR)(x:TR),(vh l x).length<=l.length+1
 |[],x=>j' _
 |s::l,x=>by
  have:=oG l x;unfold vh;split
  .rw[E_,E_];omega
  split<;>simp
def KK{k:Nat}:∀{l:List TR}{x:TR},(∀t∈l,Sz k t.c.ma)->Sz k x.c.ma->∀t∈vh l x,Sz (k+1) t.c.ma
 |[],x,_,hx,t,ht=>by rw[S_.1 ht];show Sz _ (nR _).ma;rw[db];exact hx.mono Z'
 |s::l,x,h,hx,t,ht=>by
  unfold vh at ht;split at ht
  .obtain rfl|ht:=T_.1 ht
   .exact(h t q').mono Z'
   exact KK (λt ht=>h t (F' _ ht)) hx t ht
  split at ht
  .obtain rfl|ht:=T_.1 ht
   .show Sz _ (nR _).ma;rw[db];exact hx.mono Z'
   exact(h t ht).mono Z'
  obtain rfl|ht:=T_.1 ht
  .show Sz _ (nR _).ma;rw[db];exact(h s q').add hx
  exact(h t (F' _ ht)).mono Z'
def Mh(l:List TR):List TR:=l.foldl vh []
def Wp(t:TR):Bool:= !decide (t.c.ma=0)
def ua(l:List TR):List TR:=(Mh l).filter Wp
def Bh(l:List TR)(x:TR):Mh (l++[x])=vh (Mh l) x:=by unfold Mh;rw[Y7];rfl
def gj{P:List α->Prop}(h0:P [])(hs:∀l x,P l->P (l++[x]))(l:List α):P l:=by
 have:∀k:List α,P k.reverse:=λk=>by
  induction k with
  |nil=>exact h0
  |cons x k ih=>rw[K7];exact hs _ _ ih
 have h:=this l.reverse;rwa[q6] at h
def pR(f:ByteArray->Dyadic)(l:List TR):wS f (Mh l)=wS f l:=by
 induction l using gj with
 |h0=>rfl
 |hs l x ih=>rw[Bh,TL,ih,QW]
def KP(l:List TR):Gv (Mh l):=by
 induction l using gj with
 |h0=>exact T5
 |hs l x ih=>rw[Bh];exact EE ih
def iH(l:List TR):∀t∈Mh l,t.c=nR t.c.ma:=by
 induction l using gj with
 |h0=>intro t ht;cases ht
 |hs l x ih=>rw[Bh];exact uK ih
def Zz(l:List TR):(Mh l).length<=l.length:=by
 induction l using gj with
 |h0=>exact j' _
 |hs l x ih=>rw[Bh,Y_];have:=oG (Mh l) x;simp;omega
def fG(l:List TR)(h:∀t∈l,Sz k t.c.ma):∀t∈Mh l,Sz (k+l.length) t.c.ma:=by
 induction l using gj with
 |h0=>intro t ht;cases ht
 |hs l x ih=>
  rw[Bh,Y_];exact KK (k:=k+l.length) (ih λt ht=>h t (z9 _ ht)) ((h x (by simp)).mono Z')
def lP(l:List TR):∀t∈Mh l,∃s∈l,s.m=t.m:=by
 induction l using gj with
 |h0=>intro t ht;cases ht
 |hs l x ih=>
  rw[Bh];intro t ht;obtain ht|ht:=Uv ht
  .obtain⟨s,hs,e⟩:=ih t ht;exact⟨s,z9 _ hs,e⟩
  exact⟨x,by simp,ht.symm⟩
def fB(f:ByteArray->Dyadic)(l:List TR):wS f (l.filter Wp)=wS f l:=by
 induction l with
 |nil=>rfl
 |cons t l ih=>
  rw[List.filter_cons];by_cases h:t.c.ma=0
  .rw[L' (by unfold Wp;rw[N_ h];decide),ih,wS,h,Dyadic.zero_mul,P7]
  rw[J' (by unfold Wp;rw[O_ h];rfl),wS,wS,ih]
def Us(f:ByteArray->Dyadic)(l:List TR):wS f (ua l)=wS f l:=(fB f _).trans (pR f l)
def gu(l:List TR)(m:ByteArray):Ah (ua l) m=Ah l m:=Us _ _
def NI{t:TR}(h:Wp t=true):t.c.ma≠0:=λe=>by
 unfold Wp at h;rw[N_ e] at h
 cases h
def Sf(l:List TR):Canon (ua l):=
 ⟨List.Pairwise.filter _ (KP l),λt ht=>NI (Z8.1 ht).2,λt ht=>iH l t (Z8.1 ht).1⟩
def Wb(l:List TR):(ua l).length<=l.length:=M_ (Z5 _ _) (Zz l)
def To{l:List TR}(h:∀t∈l,Sz k t.c.ma):∀t∈ua l,Sz (k+l.length) t.c.ma:=λt ht=>fG l h t (Z8.1 ht).1
def Lf{l:List TR}:∀t∈ua l,∃s∈l,s.m=t.m:=λt ht=>lP l t (Z8.1 ht).1
def Ct{l k:List TR}(h:Canon k)(hc:∀m,Ah k m=Ah l m):k=ua l:=QF h (Sf l) λm=>by rw[hc,gu]
def LB{l k:List TR}(hc:∀m,Ah k m=Ah l m):ua k=ua l:=Ct (Sf k) λm=>by rw[gu,hc]
def zg(k:Nat)(l:List TR):Prop:=∀t∈l,t.c.ok/\Sz k t.c.ma
def zg.mono{l:List TR}(h:zg k l)(hk:k<=j):zg j l:=λt ht=>⟨(h t ht).1,(h t ht).2.mono hk⟩
structure MD(k:Nat)(l L:List TR):Prop where
 Gu:Gv L
 co:∀m,Ah L m=Ah l m
 len:L.length<=l.length
 ok:zg k L
 mem:∀t∈L,∃s∈l,s.m=t.m
def MD.mono{l L:List TR}(h:MD k l L)(hk:k<=j):MD j l L:=⟨h.Gu,h.co,h.len,h.ok.mono hk,h.mem⟩
def MD.self{l:List TR}(h:Gv l)(hk:zg k l):MD k l l:=⟨h,λ_=>rfl,j' _,hk,λt ht=>⟨t,ht,rfl⟩⟩
variable {O:List TR}
structure Mg(k:Nat)(xs ys O X Y:List TR):Prop where
 ro:Gv O
 rx:Gv X
 ry:Gv Y
 co:∀m,Ah O m+(Ah X m+Ah Y m)=Ah xs m+Ah ys m
 bx:∀t∈O,∀s∈X,uh t.m s.m=true
 hy:∀t∈O,∀s∈Y,uh t.m s.m=true
 len:O.length+(X.length+Y.length)<=xs.length+ys.length
 oo:zg (k+1) O
 ox:zg k X
 oy:zg k Y
 mo:∀t∈O,∃s∈xs++ys,s.m=t.m
 mx:∀t∈X,t∈xs++ys
 my:∀t∈Y,t∈xs++ys
def Mg.start{xs ys:List TR}(hx:Gv xs)(hy:Gv ys)(ox:zg k xs)(oy:zg k ys):Mg k xs ys [] xs ys:=
 ⟨T5,hx,hy,λm=>P7 _,λt ht=>(by cases ht),λt ht=>(by cases ht),by simp,λt ht=>(by cases ht),ox,oy,λt ht=>(by cases ht),λt ht=>z9 _ ht,λt ht=>T8 _ ht⟩
def Hx{x:TR}(h:Gv O)(hx:∀t∈O,uh t.m x.m=true):Gv (O++[x]):=
 J5.2 ⟨h,F5 _ _,λt ht s hs=>by rw[S_.1 hs];exact hx t ht⟩
def Lx(x:TR)(m:ByteArray):Ah [x] m=if x.m=m then x.c.ma else 0:=by rw[rf,Qy,R7]
def fg{P:α->Prop}{O:List α}{x:α}(h:∀t∈O,P t)(hx:P x):∀t∈O++[x],P t:=λt ht=>by
 obtain ht|ht:=z_.1 ht
 .exact h t ht
 rw[S_.1 ht];exact hx
def Mg.left{xs ys X Y:List TR}{x y:TR}(h:Mg k xs ys O (x::X) (y::Y))(hl:uh x.m y.m=true):Mg k xs ys (O++[x]) X (y::Y):=by
 obtain⟨ro,rx,ry,co,bx,hby,len,oo,ox,oy,mo,mx,my⟩:=h;have r1:=Y8.1 rx;have r2:=Y8.1 ry;refine⟨Hx ro λt ht=>bx t ht x q',r1.2,ry,λm=> ?_,fg (λt ht s hs=>bx t ht s (F' _ hs)) λs hs=>r1.1 s hs,fg hby λs hs=> ?_,by simp at len |-;omega,fg oo ⟨(ox x q').1,(ox x q').2.mono Z'⟩,λt ht=>ox t (F' _ ht),oy,fg mo ⟨x,mx x q',rfl⟩,λt ht=>mx t (F' _ ht),my⟩
 .have:=co m;rw[rf x X] at this;rw[zf,Lx];grind
 obtain rfl|hs:=T_.1 hs
 .exact hl
 exact Bj hl (r2.1 s hs)
def Mg.right{xs ys X Y:List TR}{x y:TR}(h:Mg k xs ys O (x::X) (y::Y))(hl:uh y.m x.m=true):Mg k xs ys (O++[y]) (x::X) Y:=by
 obtain⟨ro,rx,ry,co,bx,hby,len,oo,ox,oy,mo,mx,my⟩:=h;have r1:=Y8.1 rx;have r2:=Y8.1 ry;refine⟨Hx ro λt ht=>hby t ht y q',rx,r2.2,λm=> ?_,fg bx λs hs=> ?_,fg (λt ht s hs=>hby t ht s (F' _ hs)) λs hs=>r2.1 s hs,by simp at len |-;omega,fg oo ⟨(oy y q').1,(oy y q').2.mono Z'⟩,ox,λt ht=>oy t (F' _ ht),fg mo ⟨y,my y q',rfl⟩,mx,λt ht=>my t (F' _ ht)⟩
 .have:=co m;rw[rf y Y] at this;rw[zf,Lx];grind
 obtain rfl|hs:=T_.1 hs
 .exact hl
 exact Bj hl (r1.1 s hs)
def Mg.both{xs ys X Y:List TR}{x y:TR}(h:Mg k xs ys O (x::X) (y::Y))(h1:uh x.m y.m=false)(h2:uh y.m x.m=false)(hk:k<=3999980):Mg k xs ys (O++[⟨x.m,nR (x.c.ma+y.c.ma)⟩]) X Y:=by
 obtain⟨ro,rx,ry,co,bx,hby,len,oo,ox,oy,mo,mx,my⟩:=h;have r1:=Y8.1 rx;have r2:=Y8.1 ry;have e:=Yn h1 h2;have hz:=(ox x q').2.add (oy y q').2;refine⟨Hx ro λt ht=>bx t ht x q',r1.2,r2.2,λm=> ?_,fg (λt ht s hs=>bx t ht s (F' _ hs)) λs hs=>r1.1 s hs,fg (λt ht s hs=>hby t ht s (F' _ hs)) λs hs=> ?_,by simp at len |-;omega,fg oo ⟨hz.ok Z', ?_⟩,λt ht=>ox t (F' _ ht),λt ht=>oy t (F' _ ht),fg mo ⟨x,mx x q',rfl⟩,λt ht=>mx t (F' _ ht),λt ht=>my t (F' _ ht)⟩
 .have:=co m;rw[rf y Y,rf x X,<-e] at this;rw[zf,Lx];show Ah O m+(if x.m=m then(nR (x.c.ma+y.c.ma)).ma else 0)+(Ah X m+Ah Y m)=_;rw[db];grind
 .show uh x.m s.m=true;rw[e];exact r2.1 s hs
 show Sz _ (nR _).ma;rw[db];exact hz
def Mg.done{xs ys X Y:List TR}(h:Mg k xs ys O X Y)(hd:X=[]\/Y=[]):MD (k+1) (xs++ys) (O++X++Y):=by
 obtain⟨ro,rx,ry,co,bx,hby,len,oo,ox,oy,mo,mx,my⟩:=h;refine⟨?_,λm=> ?_,by simp at len |-;omega,λt ht=> ?_,λt ht=> ?_⟩
 .rw[l_];refine J5.2 ⟨ro, ?_,λt ht s hs=> ?_⟩
  .obtain rfl|rfl:=hd
   .exact ry
   rw[n_];exact rx
  obtain hs|hs:=z_.1 hs
  .exact bx t ht s hs
  exact hby t ht s hs
 .rw[zf,zf,zf,Dyadic.add_assoc];exact co m
 .obtain ht|ht:=z_.1 ht
  .obtain ht|ht:=z_.1 ht
   .exact oo t ht
   exact⟨(ox t ht).1,(ox t ht).2.mono Z'⟩
  exact⟨(oy t ht).1,(oy t ht).2.mono Z'⟩
 obtain ht|ht:=z_.1 ht
 .obtain ht|ht:=z_.1 ht
  .exact mo t ht
  exact⟨t,mx t ht,rfl⟩
 exact⟨t,my t ht,rfl⟩
def MD.ua{k:Nat}{l L:List TR}(h:MD k l L):((L.filter Wp).map λt=>(⟨t.m,nR t.c.ma⟩:TR))=ua l:=by
 refine Ct ⟨?_,λt ht=> ?_,λt ht=> ?_⟩ λm=> ?_
 .exact List.Pairwise.map _ (λa b hab=>hab) (List.Pairwise.filter _ h.Gu)
 .obtain⟨s,hs,rfl⟩:=i'.1 ht;show(nR s.c.ma).ma≠0;rw[db];exact NI (Z8.1 hs).2
 .obtain⟨s,hs,rfl⟩:=i'.1 ht;show nR s.c.ma=nR (nR s.c.ma).ma;rw[db]
 have e:∀(f:ByteArray->Dyadic)(k:List TR),wS f (k.map λt=>(⟨t.m,nR t.c.ma⟩:TR))=wS f k:=λf k=>by
  induction k with
  |nil=>rfl
  |cons t k ih=>rw[o_,wS,wS,ih];show(nR t.c.ma).ma*f t.m+_=_;rw[db]
 show wS _ _=_;rw[e,fB];exact h.co m
def bA{l:List TR}(h:l.length<2):Gv l:=by
 match l,h with
 |[],_=>exact T5
 |[x],_=>exact F5 _ _
variable {ag:Bool}{by' N d:Nat}{zc:List Value}{ro:Mode}{ops:Array Oper}{Q:Kq}{ρ:Rf}{w w0:World}{rest:List Oper}{H:List HE}{ty:TypeId}{pos:String}{af:Array Edge}
def oW(hh:Hp w0 H w){t e:TypeId}{l cp:Operand}{kl kc:IntKind}{L C:Int}{sz:Nat}(hl:ev ρ l=.int kl L)(hc:ev ρ cp=.int kc C)(hL:L=0)(hC:C=(n:Int)) (ht:P.underlying t=some (.slice e))(hte:Dd P e=some (sz,ag,by',zc))(hb:by'*n<=281474976710656)(h63:n<=9223372036854775807)(hN:d<N) (k:∀b w',Hp w0 (.row (some ⟨b,0,none⟩) 0 n e sz []::H) w'->WL ro P N ops Q rest (wc ρ d (.slice (some ⟨b,0,none⟩) 0 n)) w'):
  WL ro P N ops Q (⟨some d,.makeSlice t l cp,ty,pos,af,none⟩::rest) ρ w:=by
 obtain⟨i,z,dd,hi,hd,hz,hs,hby,hzc,_⟩:=bf hte;subst hL;subst hC;subst hs;have hr:=run_make (P:=P) w t e i z ht hi hz kl kc 0 n (k7 _) Z' (by rw[hby,<-l9];omega) Z';simp only[n8,Int.toNat_zero] at hr;refine Ia rfl rfl hN (w':=w.alloc (.cells (madeCells z.cells (n*i.size)) e)) (v:=.slice (some ⟨w.heap.size,0,none⟩) 0 n) ?_ (k _ _ (hh.Aa (show Below w.heap.size w (w.alloc (.cells (madeCells z.cells (n*i.size)) e)) from⟨rfl,rfl,rfl,(World.grownBy_alloc w _ none).size,λj hj=>(World.grownBy_alloc w _ none).block j hj (by simp)⟩) ?_))
 .simp[execOp,hl,hc,hr]
 exact⟨by simp,.inr ⟨w.heap.size,n,madeCells z.cells (n*i.size),rfl,j' _,heap_alloc_new w _,D' _,by unfold maxLen;omega,size_madeCells _ _,by simp⟩⟩
def Bi(n sz:Nat)(cs:List Value):VP:=λv W=>∃g:Nat,v=.slice (some ⟨g,0,none⟩) n n/\Sl W (some ⟨g,0,none⟩) n sz cs
def Bi.ext{sz:Nat}(v:Value)(w w':World)(h:Bi n sz cs v w)(hb:Below w.heap.size w w'):Bi n sz cs v w':=let⟨g,h1,h2⟩:=h;⟨g,h1,h2.ext hb⟩
def iX{d:Option Nat}{ty:TypeId}{af:Array Edge}{t e:TypeId}{l cp:Operand}{kl kc:IntKind}{L C:Int}{sz:Nat}{K:Value->World->Prop}(hl:ev ρ l=.int kl L)(hc:ev ρ cp=.int kc C)(hL:L=(n:Int))(hC:C=(n:Int)) (ht:P.underlying t=some (.slice e))(hte:Dd P e=some (sz,ag,by',zc))(hzl:zc.length=sz)(hb:by'*n<=281474976710656)(h63:n<=9223372036854775807) (hk:∀v w2,Bi n sz (Cg n zc) v w2->Below w.heap.size w w2->K v w2):OG P ops ⟨d,.makeSlice t l cp,ty,pos,af,none⟩ ρ w K:=by
 obtain⟨i,z,dd,hi,hd,hz,hs,hby,hzc,_⟩:=bf hte;subst hL;subst hC;obtain⟨w',hr,hown,hg⟩:=run_make_full (P:=P) w w.heap.size t e i z sz ht hi hz hs kl kc n (by rw[hby];exact hb) (by unfold maxLen;omega) (j' _);have hzz:(madeCells z.cells (n*sz)).toList=Cg n zc:=(by exact aaC);rw[hzz] at hown;exact Pd rfl (w':=w') (v:=.slice (some ⟨w.heap.size,0,none⟩) n n) (by simp[execOp,hl,hc,hr]) (hk _ _ ⟨w.heap.size,rfl,lf hown⟩ ⟨hg.os,hg.tape,hg.output,hg.size,λj hj=>hg.block j hj (by simp)⟩)
def xy(n:Nat):Cg n [.int .u8 0]=fj (List.replicate n 0):=by
 induction n with
 |zero=>rfl
 |succ n ih=>rw[Cg,ih,E7];rfl
def pM(a:ByteArray):a.toList=a.data.toList:=by
 have key:∀s:ByteArray,s.toList=s.data.toList:=λs=>(by exact ae3);exact key a
def Sk(a b:ByteArray):Op.bytesLess a.toList b.toList=uh a b:=by rw[pM,pM];rfl
def pW(a b:ByteArray):(!(Op.bytesLess a.toList b.toList||a.toList==b.toList))=uh b a:=by
 rw[Sk,cQ]
 cases h1:uh a b with
 |true=>rw[ZO h1];rfl
 |false=>
  cases h2:uh b a with
  |true=>rw[O_ (λe=>OT h2 e.symm)];rfl
  |false=>rw[N_ (Yn h1 h2)];rfl
def FQ(x y:TR):Int:=if uh x.m y.m=true then -1 else if uh y.m x.m=true then 1 else 0
def RJ(x y:TR)(w:World):Calls prog 133 #[.agg #[.string x.m,.bool x.c.neg,.string x.c.Qa,.int .i64 x.c.e],.agg #[.string y.m,.bool y.c.neg,.string y.c.Qa,.int .i64 y.c.e]] w λr w'=>r=.returned (.int .i64 (FQ x y))/\Below w.heap.size w w':=by
 have hh:=Hp.start w;refine da (N:=17) (l:=[.agg #[.string x.m,.bool x.c.neg,.string x.c.Qa,.int .i64 x.c.e],.agg #[.string y.m,.bool y.c.neg,.string y.c.Qa,.int .i64 y.c.e]]) func133 rfl rfl (by simp) ?_;refine Tb ?_;intro b2 w2 hh b3 w3 hh;refine Ms rfl rfl U' ?_;refine fa ?_;rw[Sk];unfold FQ
 cases h1:uh x.m y.m with
 |true=>
  refine fa ?_;exact⟨rfl,hh.below⟩
 |false=>
  refine fa ?_;refine nO rfl rfl U' ?_;refine fa ?_;rw[pW]
  cases h2:uh y.m x.m with
  |true=>
   refine fa ?_;exact⟨rfl,hh.below⟩
  |false=>
   refine fa ?_;exact⟨rfl,hh.below⟩
def GP(x y:TR)(k:Nat)(w:World)(hT:Xc w)(hx:x.c.ok/\Sz k x.c.ma)(hy:y.c.ok/\Sz k y.c.ma)(hk:k<=3999980):Calls prog 134 #[.agg #[.string x.m,.bool x.c.neg,.string x.c.Qa,.int .i64 x.c.e],.agg #[.string y.m,.bool y.c.neg,.string y.c.Qa,.int .i64 y.c.e]] w λr w'=>r=.returned (.agg #[.string x.m,.bool (nR (x.c.ma+y.c.ma)).neg,.string (nR (x.c.ma+y.c.ma)).Qa,.int .i64 (nR (x.c.ma+y.c.ma)).e])/\Below w.heap.size w w':=by
 have hh:=Hp.start w;have hsum:=λA cc w1 hT1 hS1=>Qf A 2 cc [x.c,y.c] w1 hT1 hS1 (by simpa using⟨hx.1,hy.1⟩) k (by simpa using⟨hx.2,hy.2⟩) Z';rw[show jm ([x.c,y.c].map NR.ma)=x.c.ma+y.c.ma by simp only[o_,G9,ni]] at hsum;refine da (N:=14) (l:=[.agg #[.string x.m,.bool x.c.neg,.string x.c.Qa,.int .i64 x.c.e],.agg #[.string y.m,.bool y.c.neg,.string y.c.Qa,.int .i64 y.c.e]]) func134 rfl rfl (by simp) ?_;refine Dm ?_;intro b2 w2 hh b3 w3 hh b4 w4 hh;refine Ca 8 [[(2,none)],[(5,some 0)],[(2,none)],[(7,some 2)],[(3,none)],[(9,some 4)],[(8,some 3),(10,some 5)],[(11,some 6)]] [(7,12),(6,11),(5,10),(4,9),(3,8),(2,7),(1,6),(0,5)] hh mixed T' ?_;refine Bd ?_;refine ze 2 ?_;refine Bd ?_;refine Yd 2 [_,_,_] ?_;refine Bd ?_;refine Yd 1 [_,_,_] ?_;refine uq [_,_,_,_,_,_] ?_;refine Va (i:=7) (Is (.agg #[.bool (nR (x.c.ma+y.c.ma)).neg,.string (nR (x.c.ma+y.c.ma)).Qa,.int .i64 (nR (x.c.ma+y.c.ma)).e])) Is.ext ?_ ?_
 .intro ρ1 w1 hj hR;obtain⟨A11,c11,h11,s11⟩:=hR.1;exact Qb rfl (pb ja.out (Ga h11 Gb)) (hsum A11 c11 _ (hT.hp hj.hp) s11) (λ_ _ hq=>⟨_,hq.1,hq.2,rfl⟩)
 refine xa ?_;intro f W hJ hV;have hb_1:=hJ.bl;obtain⟨v12,v11,v10,v9,v8,v7,v6,v5,_⟩:=hV;obtain⟨A11,c11,e11,f11⟩:Rows _ _ _ (f 6) W:=v11;replace hh:=hJ.hp;refine Ea (Na (aa v12 (aa e11 (aa v10 (aa v9 (aa v8 (aa v7 (aa v6 (aa v5 Da))))))))) ?_;dsimp only[Cb];clear e11 hJ;refine Lb ?_;intro ws hh;refine VN (td rfl (ud (vs:=[_,_,_,_]) ya.out (hh.qb (i:=0) (n:=4) rfl rfl) rfl) De) ?_;exact⟨rfl,hh.below⟩
def Rb{Q:Kq}{L:Array Bool}{i d:Nat}{op:Op}{ty:TypeId}{af:Array Edge}{v:Value}(hq:NP Q)(hi:ops[i]?=some ⟨some d,op,ty,pos,af,none⟩)(hs:Region.noSelect ops=true)(hf:Region.free .any ops L i=true)(hr:(Region.ready .any ops L).contains i=true) (hv:∀w,(execOp (ev ρ) ⟨some d,op,ty,pos,af,none⟩).run P w=.ok (.value v) w)(hN:d<N)(h:WA P N ops Q fuel (L.setIfInBounds i true) (wc ρ d v) w):WA P N ops Q (fuel+1) L ρ w:=
 ⟨λa hfit=>wpAny_first hi (Region.noSelect_spec hs) (λc a w ⟨ρ',_,hq'⟩=>(hq c ρ' w hq').elim) fuel L a w (Region.free_spec hi hf) (by simpa using hr) (.inl ⟨by simp[Region.wanted],λw=>by rw[hfit.eval];exact hv w⟩) (h.out _ (hfit.put hN v))⟩
def Sl.tail{A:Option Addr}{c:Nat}{x:TR}{X:List TR}(h:Sl w A n 4 (na TR.cells (x::X)))(h0:0<n)(hc:n<=c):Sl w (if c=1 then A else A.map (·.add (1*4))) (n-1) 4 (na TR.cells X):=by
 have:=h.back (l:=1) Z' hc;rw[show(na TR.cells (x::X)).drop (1*4)=na TR.cells X from ng TR.len (x::X) 1] at this;exact this
def Hq(A:Option Addr)(n c:Nat)(xs:List TR)(B:Option Addr)(m c2:Nat)(ys:List TR)(k:Nat)(w:World)(hT:Xc w)(hS:Sl w A n 4 (na TR.cells xs))(hS2:Sl w B m 4 (na TR.cells ys))(hc:n<=c)(hc2:m<=c2)(hn:n<=1000000)(hm:m<=1000000)(hk:k<=3999980) (rx:Gv xs)(ry:Gv ys)(ox:zg k xs)(oy:zg k ys):Calls prog 132 #[.slice A n c,.slice B m c2,.func (.func 133) #[] #[],.func (.func 134) #[] #[]] w λr w'=>∃(L:List TR)(A':Option Addr)(c':Nat),MD (k+1) (xs++ys) L/\r=.returned (.slice A' L.length c')/\Hp w [.row A' L.length c' 72 4 (na TR.cells L)] w':=by
 have hh:=Hp.start w;have hlx:=hS.Fa TR.len U';have hly:=hS2.Fa TR.len U';have hnx:xs.length<=1000000:=Z';have hny:ys.length<=1000000:=Z';refine da (N:=75) (l:=[.slice A n c,.slice B m c2,.func (.func 133) #[] #[],.func (.func 134) #[] #[]]) func132 rfl rfl (by simp) ?_;refine fa ?_;refine oW (n:=(n+m)) hh rfl rfl Z' Z' mb.out ya.out Z' Z' U' ?_;intro b16 w16 hh;refine fa ?_;refine Qx [0,1,9,10,17,18,19,20,21,22,23,24,25,26,27,28,29,30,31,32,33,34,35,36,37,38,39,40,41,42,43,44,45,46,47,48,49,50,51,52,53,54,55,56,57,58,59,60,61,62,63,64,65,66,67,68,69] 0 1 9 (λva vb vo w'=>∃(A:Option Addr)(n c:Nat)(X:List TR)(B:Option Addr)(m c2:Nat)(Y:List TR)(O:List TR)(C:Option Addr)(co:Nat),va=.slice A n c/\vb=.slice B m c2/\vo=.slice C O.length co/\n<=c/\m<=c2/\Sl w A n 4 (na TR.cells X)/\Sl w B m 4 (na TR.cells Y)/\Mg k xs ys O X Y/\Hp w [.row C O.length co 72 4 (na TR.cells O)] w') (λva vb _ _=>lenOf va+lenOf vb) ?_ ?_
 .exact⟨A,n,c,xs,B,m,c2,ys,[],some ⟨b16,0,none⟩,n+m,rfl,rfl,rfl,hc,hc2,hS,hS2,Mg.start rx ry ox oy,hh⟩
 clear hh hS hS2 hlx hly hc hc2 hn hm;rintro ρ' va vb vo w' ⟨A,n,c,X,B,m,c2,Y,O,C,co,rfl,rfl,rfl,hc,hc2,hS,hS2,hmg,hh⟩;have hX:=hS.Fa TR.len U';have hY:=hS2.Fa TR.len U';have hlen:=hmg.len;have oX:=Ta TR.one X;have oY:=Ta TR.one Y;by_cases hn:n=0
 .refine fa ?_;refine Hb hh (i:=0) rfl rfl rfl (hS.ext hh.below) mb.out ya.out rfl U' ?one3 Z' Z' U' ?kk3
  case one3=>first|rfl|assumption|exact Pa _|exact vd _
  intro A72 c72 w72 hh;simp only[U_] at hh;refine mL ?_;refine Hb hh (i:=0) rfl rfl rfl (hS2.ext hh.below) mb.out ya.out rfl U' ?one4 Z' Z' U' ?kk4
  case one4=>first|rfl|assumption|exact Pa _|exact vd _
  intro A74 c74 w74 hh;simp only[U_] at hh;refine fa ?_;have hd:=hmg.done (.inl (C8 Z'));exact aeg
 by_cases hm:m=0
 .refine fa ?_;refine Hb hh (i:=0) rfl rfl rfl (hS.ext hh.below) mb.out ya.out rfl U' ?one5 Z' Z' U' ?kk5
  case one5=>first|rfl|assumption|exact Pa _|exact vd _
  intro A72 c72 w72 hh;simp only[U_] at hh;refine mL ?_;refine Hb hh (i:=0) rfl rfl rfl (hS2.ext hh.below) mb.out ya.out rfl U' ?one6 Z' Z' U' ?kk6
  case one6=>first|rfl|assumption|exact Pa _|exact vd _
  intro A74 c74 w74 hh;simp only[U_] at hh;refine fa ?_;have hd:=hmg.done (.inr (C8 Z'));exact aeg
 obtain⟨x,X,rfl⟩:∃x X',X=x::X':=by cases X with
  |nil=>exact absurd hX.symm hn
  |cons x X'=>exact⟨x,X',rfl⟩
 obtain⟨y,Y,rfl⟩:∃y Y',Y=y::Y':=by cases Y with
  |nil=>exact absurd hY.symm hm
  |cons y Y'=>exact⟨y,Y',rfl⟩
 obtain⟨ad,rfl,hr⟩:=hS.at_ Z';obtain⟨ad2,rfl,hr2⟩:=hS2.at_ Z';have hxx:(x::X)[0]?=some x:=rfl;have hyy:(y::Y)[0]?=some y:=rfl;have hSt:=hS.tail Z' hc;have hSt2:=hS2.tail Z' hc2;have hsd:=λw1=>RJ x y w1;unfold FQ at hsd
 cases h1:uh x.m y.m with
 |true=>
  rw[h1,J' rfl] at hsd;refine fa ?_;refine XV ?_;refine vW ?_;refine Ee ?_;refine lj (0) ?_;refine Zm [_,_,_,_] (λ_ hj=>(hr.ext hj.hp.below).recAt TR.len hxx) ?_;refine Ee ?_;refine lj (0) ?_;refine Zm [_,_,_,_] (λ_ hj=>(hr2.ext hj.hp.below).recAt TR.len hyy) ?_;refine xa ?_;intro f W hJ hV;have hb_3:=hJ.bl;obtain⟨v31,v30,v29,v28,v27,v26,v25,_⟩:=hV;replace hh:=hJ.hp;refine NT ?_;dsimp only[Cb];clear hJ;refine Zh (hsd _) ja.out rfl rfl U' ?_;rintro e_ w32 ⟨rfl,hb_⟩;refine⟨_,rfl, ?_⟩;replace hh:=hh.ext hb_;refine fa ?_;refine Fo hh mixed λw_ hj_=> ?_;replace hh:=hj_.hp;clear hj_;refine Rb (i:=6) (by repeat (first|exact Eb|refine Ya ?_|refine Db ?_|refine Bb ?_)) rfl T' T' T' (λ_=>Lc rfl) U' ?_;refine Rb (i:=7) (by repeat (first|exact Eb|refine Ya ?_|refine Db ?_|refine Bb ?_)) rfl T' T' T' (λ_=>bg (l:=1) mb.out ya.size rfl rfl Z' Z' Z') U' ?_;refine Rb (i:=0) (by repeat (first|exact Eb|refine Ya ?_|refine Db ?_|refine Bb ?_)) rfl T' T' T' (λ_=>Lc rfl) U' ?_;refine Rb (i:=1) (by repeat (first|exact Eb|refine Ya ?_|refine Db ?_|refine Bb ?_)) rfl T' T' T' (λ_=>Lc rfl) U' ?_
  refine Rb (i:=2) (by repeat (first|exact Eb|refine Ya ?_|refine Db ?_|refine Bb ?_)) rfl T' T' T' (λ_=>mg (k:=0) mb.out ya.size rfl rfl Z' Z') U' ?_;refine Ae (i:=3) T' rfl ?_;refine mV ?_;refine Zc ?_;refine Ae (i:=4) T' rfl ?_;refine fF ?_;intro b55 w55 hh;refine Zc ?_;refine Ae (i:=5) T' rfl ?_;refine Er ?_;intro A56 c56 w56 hh;simp only[U_,G_] at hh;replace hh:=hh.sub (s_ _ _);refine Zc ?_;refine Xg 8 U' T' U' T' T' ?_;refine fa ?_;replace hh:=hh.sub (I' _ I_);refine⟨⟨_,n-1,c-1,X,some ad2,m,c2,y::Y,O++[x],A56,c56,rfl,rfl, ?_,Z',hc2,hSt,hS2,hmg.left h1, ?_⟩,by show(n-1)+m<n+m;omega, ?_⟩
  .show Value.slice _ (O.length+1) _=Value.slice _ (O++[x]).length _;rw[Y_];rfl
  .rw[Y_,Ma];exact hh
  exact Sc
 |false=>
  cases h2:uh y.m x.m with
  |true=>
   rw[h1,h2,L' U',J' rfl] at hsd;refine fa ?_;refine XV ?_;refine vW ?_;refine Ee ?_;refine lj (0) ?_;refine Zm [_,_,_,_] (λ_ hj=>(hr.ext hj.hp.below).recAt TR.len hxx) ?_;refine Ee ?_;refine lj (0) ?_;refine Zm [_,_,_,_] (λ_ hj=>(hr2.ext hj.hp.below).recAt TR.len hyy) ?_;refine xa ?_;intro f W hJ hV;have hb_3:=hJ.bl;obtain⟨v31,v30,v29,v28,v27,v26,v25,_⟩:=hV;replace hh:=hJ.hp;refine NT ?_;dsimp only[Cb];clear hJ;refine Zh (hsd _) ja.out rfl rfl U' ?_;rintro e_ w32 ⟨rfl,hb_⟩;refine⟨_,rfl, ?_⟩;replace hh:=hh.ext hb_;refine fa ?_;refine Fo hh mixed λw_ hj_=> ?_;replace hh:=hj_.hp;clear hj_;refine Rb (i:=6) (by repeat (first|exact Eb|refine Ya ?_|refine Db ?_|refine Bb ?_)) rfl T' T' T' (λ_=>Lc rfl) U' ?_;refine Rb (i:=7) (by repeat (first|exact Eb|refine Ya ?_|refine Db ?_|refine Bb ?_)) rfl T' T' T' (λ_=>bg (l:=1) mb.out ya.size rfl rfl Z' Z' Z') U' ?_;refine Rb (i:=0) (by repeat (first|exact Eb|refine Ya ?_|refine Db ?_|refine Bb ?_)) rfl T' T' T' (λ_=>Lc rfl) U' ?_
   refine Rb (i:=1) (by repeat (first|exact Eb|refine Ya ?_|refine Db ?_|refine Bb ?_)) rfl T' T' T' (λ_=>Lc rfl) U' ?_;refine Rb (i:=2) (by repeat (first|exact Eb|refine Ya ?_|refine Db ?_|refine Bb ?_)) rfl T' T' T' (λ_=>mg (k:=0) mb.out ya.size rfl rfl Z' Z') U' ?_;refine Ae (i:=3) T' rfl ?_;refine WT ?_;refine Zc ?_;refine Ae (i:=4) T' rfl ?_;refine fF ?_;intro b66 w66 hh;refine Zc ?_;refine Ae (i:=5) T' rfl ?_;refine Er ?_;intro A67 c67 w67 hh;simp only[U_,G_] at hh;replace hh:=hh.sub (s_ _ _);refine Zc ?_;refine Xg 8 U' T' U' T' T' ?_;refine fa ?_;replace hh:=hh.sub (I' _ I_);refine⟨⟨some ad,n,c,x::X,_,m-1,c2-1,Y,O++[y],A67,c67,rfl,rfl, ?_,hc,Z',hS,hSt2,hmg.right h2, ?_⟩,by show n+(m-1)<n+m;omega, ?_⟩
   .show Value.slice _ (O.length+1) _=Value.slice _ (O++[y]).length _;rw[Y_];rfl
   .rw[Y_,Ma];exact hh
   exact Sc
  |false=>
   rw[h1,h2,L' U',L' U'] at hsd;have hsm:=λw1 hT1=>GP x y k w1 hT1 (hmg.ox x q') (hmg.oy y q') hk;refine fa ?_;refine XV ?_;refine vW ?_;refine Ee ?_;refine lj (0) ?_;refine Zm [_,_,_,_] (λ_ hj=>(hr.ext hj.hp.below).recAt TR.len hxx) ?_;refine Ee ?_;refine lj (0) ?_;refine Zm [_,_,_,_] (λ_ hj=>(hr2.ext hj.hp.below).recAt TR.len hyy) ?_;refine xa ?_;intro f W hJ hV;have hb_3:=hJ.bl;obtain⟨v31,v30,v29,v28,v27,v26,v25,_⟩:=hV;replace hh:=hJ.hp;refine NT ?_;dsimp only[Cb];clear hJ;refine Zh (hsd _) ja.out rfl rfl U' ?_;rintro e_ w32 ⟨rfl,hb_⟩;refine⟨_,rfl, ?_⟩;replace hh:=hh.ext hb_;refine fa ?_;refine Fo hh mixed λw_ hj_=> ?_;replace hh:=hj_.hp;clear hj_;refine Rb (i:=11) (by repeat (first|exact Eb|refine Ya ?_|refine Db ?_|refine Bb ?_)) rfl T' T' T' (λ_=>Lc rfl) U' ?_;refine Rb (i:=12) (by repeat (first|exact Eb|refine Ya ?_|refine Db ?_|refine Bb ?_)) rfl T' T' T' (λ_=>bg (l:=1) mb.out ya.size rfl rfl Z' Z' Z') U' ?_;refine Rb (i:=13) (by repeat (first|exact Eb|refine Ya ?_|refine Db ?_|refine Bb ?_)) rfl T' T' T' (λ_=>Lc rfl) U' ?_
   refine Rb (i:=14) (by repeat (first|exact Eb|refine Ya ?_|refine Db ?_|refine Bb ?_)) rfl T' T' T' (λ_=>bg (l:=1) mb.out ya.size rfl rfl Z' Z' Z') U' ?_;refine Rb (i:=0) (by repeat (first|exact Eb|refine Ya ?_|refine Db ?_|refine Bb ?_)) rfl T' T' T' (λ_=>Lc rfl) U' ?_;refine Rb (i:=1) (by repeat (first|exact Eb|refine Ya ?_|refine Db ?_|refine Bb ?_)) rfl T' T' T' (λ_=>Lc rfl) U' ?_;refine Rb (i:=2) (by repeat (first|exact Eb|refine Ya ?_|refine Db ?_|refine Bb ?_)) rfl T' T' T' (λ_=>Lc rfl) U' ?_;refine Rb (i:=3) (by repeat (first|exact Eb|refine Ya ?_|refine Db ?_|refine Bb ?_)) rfl T' T' T' (λ_=>mg (k:=0) mb.out ya.size rfl rfl Z' Z') U' ?_;refine Rb (i:=5) (by repeat (first|exact Eb|refine Ya ?_|refine Db ?_|refine Bb ?_)) rfl T' T' T' (λ_=>Lc rfl) U' ?_;refine Rb (i:=6) (by repeat (first|exact Eb|refine Ya ?_|refine Db ?_|refine Bb ?_)) rfl T' T' T' (λ_=>mg (k:=0) mb.out ya.size rfl rfl Z' Z') U' ?_;refine Qs (i:=4) (i2:=7) T' rfl rfl ?_ ?_
   .refine mV ?_;refine Zc ?_;refine Ae (i:=7) T' rfl ?_;refine WT ?_;exact aba
   refine WT ?_;refine Zc ?_;refine Ae (i:=4) T' rfl ?_;refine mV ?_;exact aba
variable {b b':Nat}
def Rp{t:TypeId}{sz c:Nat}{A:Option Addr}{xs:List Value}(h:w.ownsRow b t sz (.slice A n c) n xs)(hb:b'<=b):w.ownsRow b' t sz (.slice A n c) n xs:=
 ⟨h.1,h.2.imp id λ⟨g,cap,cur,h1,h2,h3⟩=>⟨g,cap,cur,h1,M_ hb h2,h3⟩⟩
variable {fz:Nat×Nat}
def mn{x:HE}(h:x.holds b w)(hb:b'<=b):x.holds b' w:=by
 cases x with
 |blk b t cs fz=>exact⟨M_ hb h.1,h.2⟩
 |row A n c t sz xs=>exact Rp h hb
 |ob b o=>exact⟨M_ hb h.1,h.2⟩
variable {H':List HE}
def Hp.perm{H:List HE}(h:Hp w0 H w)(hp:H.Perm H'):Hp w0 H' w:=
 ⟨h.below,λx hx=>h.own x (hp.mem_iff.2 hx),(hp.filterMap _).nodup_iff.1 h.nd⟩
def Hp.pe{H:List HE}(h:Hp w0 H w){i c sz:Nat}{A:Option Addr}{t:TypeId}{xs:List Value}(hi:H[i]?=some (.row A n c t sz xs)):n<=c:=by
 have h1:w.ownsRow w0.heap.size t sz (.slice A n c) n xs:=h.at_ hi;obtain⟨_,h3⟩|⟨g,cap,cur,h2,_,_,h5,_⟩:=h1.2
 .omega
 injection h2 with _ _ e3
 omega
variable {w':World}
def Hp.join{H H2:List HE}(h:Hp w0 H w)(h2:Hp w H2 w'):Hp w0 (H2++H) w':=by
 have h':=h.ext h2.below;refine⟨h'.below,λx hx=> ?_, ?_⟩
 .obtain hx|hx:=z_.1 hx
  .exact mn (h2.own x hx) h.size
  exact h'.own x hx
 rw[D5,List.nodup_append];refine⟨h2.nd,h.nd,λa ha b hb hab=> ?_⟩;subst hab;obtain⟨x,hx,hxa⟩:=B8.1 ha;obtain⟨y,hy,hya⟩:=B8.1 hb;have h3:=Sg (h2.own x hx) hxa;have h4:=Sg (h.own y hy) hya;omega
def RW{o:Oper}{v:Value}(hg:o.guard=none)(hd:o.dst=none) (hr:(execOp (ev ρ) o).run P w=.ok (.value v) w')(k:WL ro P N ops Q rest ρ w'):WL ro P N ops Q (o::rest) ρ w:=
 ⟨λhm a hf=>wpList_plain hg λK hK=>by
  unfold Oper.wp;rw[hf.eval,hr];show K (a.put o.dst v) w';rw[hd];exact hK _ _ (k.Ll hm _ hf),
 λa hf n=>wpListIn_plain hg λK hK=>by
  refine⟨λ_ _=>trivial, ?_⟩;rw[hf.eval,Zn _ hr (λ_ h=>by cases h)];show K (a.put o.dst v) w';rw[hd];exact hK _ _ (k.Dn _ hf n)⟩
def vn{l:List α}{i:Nat}{x:α}(h:l[i]?=some x):l.set i x=l:=by
 obtain⟨h1,rfl⟩:=X_.1 h;exact List.set_getElem_self h1
abbrev Hp.sz{w0 w:World}{H:List HE}(_:Hp w0 H w):Nat:=w.heap.size
variable {t':TypeId}
def uJ{A:Option Addr}{c sz:Nat}{t:TypeId}{xs:List Value}{cs:Array Value}(h:HE.holds base W (.row A n c t' sz xs))(h3:W.heap[b]?=some (.cells cs t fz))(hne:t'≠t):(HE.row A n c t' sz xs).id≠some b:=by
 intro hid;obtain⟨h1,_⟩|⟨g,cap,cur,h1,_,h4,_⟩:=h.2
 .injection h1 with e1
  subst e1
  cases hid
 injection h1 with e1
 subst e1;obtain rfl:g=b:=L_ hid;rw[h3] at h4;injection h4 with h4
 injection h4 with _ h5
 exact hne h5.symm
variable {w1:World}
def JJ.Zk{H L:List HE}{t:TypeId}(hJ:JJ w0 H w W)(hs:Hp w0 H w)(h2:w.heap.size<=b)(h3:W.heap[b]?=some (.cells cs.toArray t (0,0)))(hb:w.heap.size<=w1.heap.size)(hL:Hp w1 L W)(hne:∀x∈L,x.id≠some b):Hp w0 (.blk b t cs (0,0)::(L++H)) W:=by
 have h1:=hs.join (⟨hJ.bl,λx hx=>mn (hL.own x hx) hb,hL.nd⟩:Hp w L W);refine⟨h1.below,λx hx=> ?_, ?_⟩
 .obtain rfl|hx:=T_.1 hx
  .exact⟨M_ hs.size h2,h3,.inr (j' _)⟩
  exact h1.own x hx
 rw[X6];show(b::(L++H).filterMap HE.id).Nodup;refine F7.2 ⟨λhm=> ?_,h1.nd⟩;obtain⟨y,hy,hyb⟩:=B8.1 hm;obtain hy|hy:=z_.1 hy
 .exact hne y hy hyb
 have:=(Sg (hs.own y hy) hyb).2;omega
def agb(base:Nat)(t:TypeId)(n sz:Nat)(cs:List Value):VP:=λv W=>∃A c,v=.slice A n c/\W.ownsRow base t sz (.slice A n c) n cs
def agW(base:Nat)(t1 t2:TypeId)(n1 s1 n2 s2:Nat)(xs1 xs2:List Value):VP:=λv W=>∃A c B k,v=.agg #[.slice A n1 c,.slice B n2 k]/\W.ownsRow base t1 s1 (.slice A n1 c) n1 xs1/\W.ownsRow base t2 s2 (.slice B n2 k) n2 xs2
structure RX where
 A:Option Addr
 n:Nat
 c:Nat
 ts:List TR
def Kk(k:Nat)(l:List TR):VP:=λv W=>∃g:RX,v=.slice g.A g.n g.c/\(g.n<=g.c/\g.ts.length=g.n/\MD k l g.ts/\Sl W g.A g.n 4 (na TR.cells g.ts))
def Kk.ext{l:List TR}(v:Value)(w w':World)(h:Kk k l v w)(hb:Below w.heap.size w w'):Kk k l v w':=let⟨g,h1,h2,h3,h4,h5⟩:=h;⟨g,h1,h2,h3,h4,h5.ext hb⟩
def MD.fV{k1 k2:Nat}{l1 l2 L1 L2 L:List TR}(h1:MD k1 l1 L1)(h2:MD k2 l2 L2)(h:MD k (L1++L2) L)(hk:k<=j):MD j (l1++l2) L:=
 ⟨h.Gu,λm=>by rw[h.co,zf,h1.co,h2.co,zf],by have a:=h.len;have b:=h1.len;have c:=h2.len;rw[Y_] at a |-;omega,h.ok.mono hk,λt ht=>by
  obtain⟨s,hs,e⟩:=h.mem t ht;obtain hs|hs:=z_.1 hs
  .obtain⟨u,hu,e2⟩:=h1.mem s hs;exact⟨u,z9 _ hu,e2.trans e⟩
  obtain⟨u,hu,e2⟩:=h2.mem s hs;exact⟨u,T8 _ hu,e2.trans e⟩⟩
def Nn(k:Nat):∀(N:Nat)(A:Option Addr)(n c:Nat)(l:List TR)(w:World),n<=N->Xc w->Sl w A n 4 (na TR.cells l)->n<=c->n<=1000000->k+n<=3999980->zg k l->
  Calls prog 210 #[.slice A n c,.func (.func 133) #[] #[],.func (.func 134) #[] #[]] w λr w'=>(n<2/\r=.returned (.slice A n c)/\Below w.heap.size w w')\/(2<=n/\∃(L:List TR)(A':Option Addr)(c':Nat),MD (k+n) l L/\r=.returned (.slice A' L.length c')/\Hp w [.row A' L.length c' 72 4 (na TR.cells L)] w')
 |0,A,n,c,l,w,hN,hT,hS,hc,hn,hk,hok=>(by have hh:=Hp.start w;obtain rfl:n=0:=Z';refine da (N:=30) (l:=[.slice A 0 c,.func (.func 133) #[] #[],.func (.func 134) #[] #[]]) func210 rfl rfl (by simp) ?_;refine fa ?_;exact .inl ⟨Z',rfl,hh.below⟩)
 |N+1,A,n,c,l,w,hN,hT,hS,hc,hn,hk,hok=>by
  have hh:=Hp.start w;have hl:=hS.Fa TR.len U';by_cases h2:n<2
  .refine da (N:=30) (l:=[.slice A n c,.func (.func 133) #[] #[],.func (.func 134) #[] #[]]) func210 rfl rfl (by simp) ?_;refine fa ?_;exact .inl ⟨h2,rfl,hh.below⟩
  obtain⟨h,hhalf⟩:∃h,h=n/2:=⟨_,rfl⟩;have hh1:1<=h:=Z';have hh2:h+h<=n:=Z';have hh3:n<=h+h+1:=Z';have hq:((n:Int))/2=(h:Int):=Z';have hS1:=hS.front (m:=h) Z';rw[show(na TR.cells l).take (h*4)=na TR.cells (l.take h) from Oh TR.len l h] at hS1;have hS2:=hS.back (l:=h) Z' hc;rw[show(na TR.cells l).drop (h*4)=na TR.cells (l.drop h) from ng TR.len l h] at hS2;have o1:zg k (l.take h):=λt ht=>hok t (N8 ht);have o2:zg k (l.drop h):=λt ht=>hok t (m6 ht);have rd:∀{A':Option Addr}{n' c':Nat}{l':List TR}{r:Ending}{w1 w':World},Sl w1 A' n' 4 (na TR.cells l')->n'<=c'->zg k l'->((n'<2/\r=.returned (.slice A' n' c')/\Below w1.heap.size w1 w')\/(2<=n'/\∃(L:List TR)(B:Option Addr)(b:Nat),MD (k+n') l' L/\r=.returned (.slice B L.length b)/\Hp w1 [.row B L.length b 72 4 (na TR.cells L)] w'))->∃v,r=.returned v/\Below w1.heap.size w1 w'/\Kk (k+n') l' v w':=by
   rintro A' n' c' l' r w1 w' hs hc' ho (⟨h1,rfl,hb⟩|⟨h1,L,B,b,hm,rfl,h3⟩)
   .have e:=hs.Fa TR.len U';exact⟨_,rfl,hb,⟨A',n',c',l'⟩,rfl,hc',e,(MD.self (bA Z') ho).mono Z',hs.ext hb⟩
   exact⟨_,rfl,h3.below,⟨B,L.length,b,L⟩,rfl,h3.pe (i:=0) rfl,rfl,hm,h3.ra (i:=0) rfl⟩
  have ih1:=λw1 (hT1:Xc w1) (hb:Below w.heap.size w w1)=>Nn k N A h c (l.take h) w1 Z' hT1 (hS1.ext hb) Z' Z' Z' o1;have ih2:=λw1 (hT1:Xc w1) (hb:Below w.heap.size w w1)=>Nn k N _ (n-h) (c-h) (l.drop h) w1 Z' hT1 (hS2.ext hb) Z' Z' Z' o2;refine da (N:=30) (l:=[.slice A n c,.func (.func 133) #[] #[],.func (.func 134) #[] #[]]) func210 rfl rfl (by simp) ?_;refine fa ?_;rw[hq];refine Ca 14 [[(0,none)],[(7,none)],[(15,some 0),(16,some 1)],[(1,none)],[(2,none)],[(17,some 2),(18,some 3),(19,some 4)],[(0,none)],[(7,none)],[(21,some 6),(22,some 7)],[(1,none)],[(2,none)],[(23,some 8),(24,some 9),(25,some 10)],[(1,none)],[(2,none)]] [(13,28),(12,27),(11,26),(10,25),(9,24),(8,23),(7,22),(6,21),(5,20),(4,19),(3,18),(2,17),(1,16),(0,15)] hh mixed T' ?_;refine Ee ?_;refine jd ?_;refine Wa (i:=2) (λρ1 w1 hj hR=>vy (h:=h) mb.out ya.size (show ρ1 15=Value.slice _ _ _ from hR.1) (show ρ1 16=Value.int _ _ from hR.2.1) Z' Z') ?_;refine vW ?_;refine vW ?_;refine Va (i:=5) (Kk (k+h) (l.take h)) (Kk.ext) ?_ ?_
  .intro ρ1 w1 hj hR;exact Qb rfl (pb ja.out (Ga (show ρ1 17=Value.slice _ _ _ from hR.1) (Ga (show ρ1 18=Value.func _ _ _ from hR.2.1) (Ga (show ρ1 19=Value.func _ _ _ from hR.2.2.1) Gb)))) (ih1 w1 (hT.hp hj.hp) hj.hp.below) (λ_ _ hq=>rd (hS1.ext hj.hp.below) Z' o1 hq)
  refine Ee ?_;refine jd ?_;refine Wa (i:=8) (λρ1 w1 hj hR=>bg (l:=h) mb.out ya.size (show ρ1 21=Value.slice _ _ _ from hR.1) (show ρ1 22=Value.int _ _ from hR.2.1) Z' Z' Z') ?_;refine vW ?_;refine vW ?_;refine Va (i:=11) (Kk (k+(n-h)) (l.drop h)) (Kk.ext) ?_ ?_
  .intro ρ1 w1 hj hR;exact Qb rfl (pb ja.out (Ga (show ρ1 23=Value.slice _ _ _ from hR.1) (Ga (show ρ1 24=Value.func _ _ _ from hR.2.1) (Ga (show ρ1 25=Value.func _ _ _ from hR.2.2.1) Gb)))) (ih2 w1 (hT.hp hj.hp) hj.hp.below) (λ_ _ hq=>rd (hS2.ext hj.hp.below) Z' o2 hq)
  refine vW ?_;refine vW ?_;refine xa ?_;intro f W hJ hV;have hb_4:=hJ.bl;obtain⟨v28,v27,v26,v25,v24,v23,v22,v21,v20,v19,v18,v17,v16,v15,_⟩:=hV;obtain⟨g20,e20,o20⟩:Kk (k+h) (l.take h) (f 5) W:=v20;obtain⟨g26,e26,o26⟩:Kk (k+(n-h)) (l.drop h) (f 11) W:=v26;replace hh:=hJ.hp;refine Ea (Na (aa v28 (aa v27 (aa e26 (aa v25 (aa v24 (aa v23 (aa v22 (aa v21 (aa e20 (aa v19 (aa v18 (aa v17 (aa v16 (aa v15 Da))))))))))))))) ?_;dsimp only[Cb];clear e20 e26 hJ;obtain⟨p1,p2,p3,p4⟩:=o20;obtain⟨q1,q2,q3,q4⟩:=o26;have l1:=p3.len;have l2:=q3.len;rw[R_] at l1;rw[K9] at l2;refine qa (Hq g20.A g20.n g20.c g20.ts g26.A g26.n g26.c g26.ts (k+(n-h)) _ (hT.hp hh) p4 q4 p1 q1 Z' Z' Z' p3.Gu q3.Gu (p3.ok.mono Z') (q3.ok.mono Z')) ja.out rfl U' ?_;rintro e_ w29 ⟨L,A',c',hm,rfl,h3⟩;refine⟨_,rfl, ?_⟩;replace hh:=hh.join h3;refine fa ?_;refine .inr ⟨Z',L,A',c', ?_,rfl,hh⟩;have:=p3.fV q3 hm (j:=k+n) Z';rwa[P9] at this
def JO{t:TypeId}{sz c p g:Nat}{xs:List Value}(h:w.ownsRow b t sz (.slice (some ⟨g,0,none⟩) n c) n xs)(hp:p<=n):w.ownsRow b t sz (.slice (some ⟨g,0,none⟩) p c) p (xs.take (p*sz)):=by
 have hps:p*sz<=n*sz:=M9 _ hp;have hl:(xs.take (p*sz)).length=p*sz:=by rw[R_,h.1];omega
 refine⟨hl, ?_⟩;obtain⟨h1,_⟩|⟨g',cap,cur,hv,hg,hheap,hmc,hcm,hcur,htake⟩:=h.2
 .cases h1
 injection hv with hA _ hcap
 injection hA with hA
 injection hA with hA
 subst hA;subst hcap;refine .inr ⟨g,c,cur,rfl,hg,hheap,Z',hcm,hcur, ?_⟩;rw[<-htake,List.take_take,y9 hps]
variable {c' ty:Nat}
def np(hh:Hp w0 H w){t e:TypeId}{s x:Operand}{i c p sz g:Nat}{a:Addr}{xs news:List Value}(hi:H[i]?=some (.row (some ⟨g,0,none⟩) n c e sz xs))(hs:ev ρ s=.slice (some ⟨g,0,none⟩) p c)(hx:ev ρ x=.slice (some a) m c') (hp:p<=n)(hpm:p+m<=c)(hl:news.length=m*sz)(hr:∀j u,news[j]?=some u->w.cell? (a.add j)=some u)(h1:(news.all Value.oneCell')=true)(ht:P.underlying t=some (.slice e))(hte:Dd P e=some (sz,ag,by',zc))(hN:d<N) (k:∀w',Hp w0 (H.set i (.row (some ⟨g,0,none⟩) (p+m) c e sz (xs.take (p*sz)++news))) w'->WL ro P N ops Q rest (wc ρ d (.slice (some ⟨g,0,none⟩) (p+m) c)) w'):
  WL ro P N ops Q (⟨some d,.call ⟨.builtin .append, #[s,x], #[t,t]⟩,ty,pos,af,none⟩::rest) ρ w:=by
 obtain⟨inf,z,dd,hinf,hd,hz,hsz,hby,hzc,_⟩:=bf hte;obtain⟨w',hrun,hown,hg⟩:=run_append_fits (P:=P) w w0.heap.size t ty e inf sz ht hinf hsz g p c _ (JO (hh.at_ hi) hp) a m c' news hl hr (by simpa using h1) hpm;refine Ia rfl rfl hN (w':=w') (v:=.slice (some ⟨g,0,none⟩) (p+m) c) ?_ (k w' (hh.grown hi hg (.inl rfl) hown));simp only[execOp,resolve,invoke,builtin,Sem.run_bind,Sem.run_pure,Result.andThen_ok,List.map_toArray,o_,G9,hs,hx,hrun]
variable {o:Nat}
def qm(hh:Hp w0 H w){t e:TypeId}{x:Operand}{i p c sz g:Nat}{xs:List Value}(hi:H[i]?=some (.row (some ⟨g,0,none⟩) p c e sz xs))(hx:ev ρ x=.slice (some ⟨g,o,none⟩) m c')(ho:p*sz<=o)(hom:o+m*sz<=c*sz)(hm:0<m) (ht:P.underlying t=some (.slice e))(hte:Dd P e=some (sz,ag,by',zc))(hzl:zc.length=sz)(h1:(zc.all Value.oneCell')=true) (k:∀w',Hp w0 H w'->WL ro P N ops Q rest ρ w'):WL ro P N ops Q (⟨none,.call ⟨.builtin .clear, #[x], #[t]⟩,ty,pos,af,none⟩::rest) ρ w:=by
 obtain⟨z,hz,hzc⟩:=de (w:=w) hte;obtain⟨hlen,h2⟩:=hh.at_ hi;obtain⟨h2,_⟩|⟨g',cap,cur,hv,hg,hheap,hmc,hcm,hcur,htake⟩:=h2
 .cases h2
 injection hv with hA hn hcap
 injection hA with hA
 injection hA with hA
 subst hA;subst hcap;have hcl:cur.size=cur.toList.length:=by simp
 have hzr:(Cg m zc).length=m*sz:=by rw[Vi,hzl]
 have hall:∀v∈Cg m zc,v.oneCell'=true:=λv hv=>(by obtain⟨j,hj⟩:=j_.1 hv;have hj2:=(X_.1 hj).1;rw[Vi] at hj2;rw[TD m zc j hj2] at hj;exact u_.1 h1 v (G' hj));obtain⟨w',hr,hb',hgr,hs⟩:=lh (P:=P) (b:=g) (t:=e) (fz:=(0,0)) o (Cg m zc) 0 cur.toList w (by simpa using hheap) (.inr (j' _)) (by rw[<-hcl,hzr];omega) hall;have hset:=vn hi;refine RW rfl rfl (w':=w') (v:=.tuple #[]) ?_ (k w' (hset ▸ hh.grown hi hgr (.inl rfl) ⟨hlen,.inr ⟨g,c,(Ib cur.toList (o+0) (Cg m zc)).toArray,rfl,hg,by simpa using hb',hmc,hcm, ?_, ?_⟩⟩))
 .simp only[execOp,resolve,invoke,hx,List.map_toArray,o_,G9];have hzz:Builtin.zeroCells z.cells m=(Cg m zc).toArray:=(by rw[Builtin.zeroCells,hzc,M6];exact Vw m zc);obtain⟨q,rfl⟩:∃q,m=q+1:=⟨m-1,Z'⟩;simp[builtin,Builtin.clear_,run_underlying ht,hz,hzz,hr]
 .simp only[M6];rw[ff (by rw[<-hcl,hzr];omega),<-hcl,hcur]
 simp only[Ib];rw[l_,List.take_append_of_le_length (by rw[R_,<-hcl];omega),List.take_take,y9 Z'];exact htake
variable {ty:TypeId}
def vX{t e u:TypeId}{x y:Operand}{A:Option Addr}{c n':Nat}(ht:P.underlying t=some (.slice e))(hx:ev ρ x=.slice A n c)(hy:ev ρ y=.slice none n' c')(hN:d<N) (kk:WL ro P N ops Q rest (wc ρ d (.bool A.isNone)) w):WL ro P N ops Q (⟨some d,.binOp .eql t x y u,ty,pos,af,none⟩::rest) ρ w:=
 Ia rfl rfl hN (by
  have h1:=Go.Lib.run_eql_slice_nil (P:=P) w t e A n c n' c' ht;simp only[execOp,hx,hy];simp[eqGuard,h1]) kk
def Hw(A:Option Addr)(n c:Nat)(l:List TR)(g:FuncId)(cap:List Value)(p:TR->Bool)(w:World)(hS:Sl w A n 4 (na TR.cells l))(hn:n<=1000000)[ja prog g] (hg:∀(z:TR)(w1:World),z∈l->Below w.heap.size w w1->Calls prog g (.agg #[.string z.m,.bool z.c.neg,.string z.c.Qa,.int .i64 z.c.e]::cap).toArray w1 λr w'=>r=.returned (.bool (p z))/\Below w1.heap.size w1 w'):Calls prog 262 #[.slice A n c,.func (.func g) #[] cap.toArray] w λr w'=>∃v,r=.returned (.int .i64 v)/\((l.any p=false/\v= -1)\/∃(i:Nat)(z:TR),i<n/\v=i/\(l.take i).any p=false/\l[i]?=some z/\p z=true)/\Below w.heap.size w w':=by
 have hh:=Hp.start w;have hln:=hS.Fa TR.len U';refine da (N:=19) (l:=[.slice A n c,.func (.func g) #[] cap.toArray]) func262 rfl rfl (by simp) ?_;refine fa ?_;refine Ba [4,5,8,9,10,11,12,13,14,15,16,17,18] 8 (λv w'=>∃i:Nat,i<=n/\v=.int .i64 i/\(l.take i).any p=false/\Hp w [] w') (λv _=>n-(intOf v).toNat) ?_ ?_
 .exact⟨0,D' _,rfl,rfl,hh⟩
 clear hh;rintro ρ' v w' ⟨i,hi,rfl,hall,hh⟩;by_cases hlt:i<n
 .obtain⟨z,hz⟩:=ea (l:=l) (k:=i) Z';obtain⟨ad,rfl,hr⟩:=hS.at_ Z';have hc:=λw1=>hg z w1 (G' hz)
  cases gz:p z with
  |true=>
   rw[gz] at hc;refine fa ?_;refine wb (vs:=[_,_,_,_]) ya.out rfl ((hr.ext hh.below).recAt TR.len hz) rfl U' ?_;refine JM ?_;rintro e_ w16 ⟨rfl,hb_⟩;refine⟨_,rfl, ?_⟩;replace hh:=hh.ext hb_;refine fa ?_;exact⟨_,rfl,.inr ⟨i,z,hlt,rfl,hall,hz,gz⟩,hh.below⟩
  |false=>
   rw[gz] at hc;refine fa ?_;refine wb (vs:=[_,_,_,_]) ya.out rfl ((hr.ext hh.below).recAt TR.len hz) rfl U' ?_;exact Ov
 rw[W_ Z'] at hall;refine fa ?_;exact⟨_,rfl,.inl ⟨hall,rfl⟩,hh.below⟩
def WH(A:Option Addr)(n c:Nat)(l:List TR)(g:FuncId)(cap:List Value)(p:TR->Bool)(w:World)(hS:Sl w A n 4 (na TR.cells l))(hn:n<=1000000)[ja prog g] (hg:∀(z:TR)(w1:World),z∈l->Below w.heap.size w w1->Calls prog g (.agg #[.string z.m,.bool z.c.neg,.string z.c.Qa,.int .i64 z.c.e]::cap).toArray w1 λr w'=>r=.returned (.bool (p z))/\Below w1.heap.size w1 w'):Calls prog 204 #[.slice A n c,.func (.func g) #[] cap.toArray] w λr w'=>r=.returned (.bool (l.any p))/\Below w.heap.size w w':=by
 have hh:=Hp.start w;refine da (N:=9) (l:=[.slice A n c,.func (.func g) #[] cap.toArray]) func204 rfl rfl (by simp) ?_;refine fa ?_;refine qa (Hw A n c l g cap p _ (hS.ext hh.below) hn hg) ja.out rfl U' ?_;rintro e_ w7 ⟨v_,rfl,hv_,hb_⟩;refine⟨_,rfl, ?_⟩;replace hh:=hh.ext hb_;obtain⟨ha,rfl⟩|⟨i,z,hi,rfl,ht,hz,hp⟩:=hv_
 .rw[ha];refine fa ?_;exact⟨rfl,hh.below⟩
 rw[show l.any p=true from k9.2 ⟨z,G' hz,hp⟩];refine fa ?_;exact⟨rfl,hh.below⟩
def Vl(A:Option Addr)(n c:Nat)(l:List TR)(w:World)(hS:Sl w A n 4 (na TR.cells l))(hn:n<=1000000):Calls prog 206 #[.slice A n c] w λr w'=>∃A' c',r=.returned (.slice A' n c')/\w'.ownsRow w.heap.size 72 4 (.slice A' n c') n (na TR.cells l)/\Below w.heap.size w w':=by
 have hh:=Hp.start w;have oX:=Ta TR.one l;obtain _|ad:=A
 .have hn0:n=0:=(by exact ab9);subst hn0;have hl:l=[]:=C8 (by have:=hS.Fa TR.len U';omega);subst hl;refine da (N:=8) (l:=[.slice none 0 c]) func206 rfl rfl (by simp) ?_;exact FR
 refine da (N:=8) (l:=[.slice (some ad) n c]) func206 rfl rfl (by simp) ?_;refine fa ?_;refine FG ?_;intro b5 w5 hh;refine mL ?_;refine Hb hh (i:=0) rfl rfl rfl (hS.ext hh.below) mb.out ya.out rfl U' ?one7 Z' Z' U' ?kk7
 case one7=>first|rfl|assumption|exact Pa _|exact vd _
 exact sS
def nH{l:List α}{i:Nat}(h:i<j)(x:α):(l.set i x).drop j=l.drop j:=by
 refine U9 λk=> ?_;rw[F8,F8,F9,L' Z']
def Iz{l:List α}{i:Nat}(h:i<l.length)(x:α):(l.set i x).take (i+1)=l.take i++[x]:=by
 rw[oa (show(l.set i x)[i]?=some x by rw[F9,J' rfl,J' h]),List.take_set_of_le (j' _)]
variable {Hr:List HE}
def BI(A:Option Addr)(n c:Nat)(l:List TR)(g:FuncId)(p:TR->Bool)(w:World)(hh:Hp w0 (.row A n c 72 4 (na TR.cells l)::Hr) w)(hl:l.length=n)(hn:n<=1000000)[ja prog g] (hg:∀(z:TR)(w1:World),z∈l->Calls prog g (.agg #[.string z.m,.bool z.c.neg,.string z.c.Qa,.int .i64 z.c.e]::[]).toArray w1 λr w'=>r=.returned (.bool (p z))/\Below w1.heap.size w1 w'):Calls prog 209 #[.slice A n c,.func (.func g) #[] #[]] w λr w'=>r=.returned (.slice A (l.filter λz=> !p z).length c)/\Hp w0 (.row A (l.filter λz=> !p z).length c 72 4 (na TR.cells (l.filter λz=> !p z))::Hr) w':=by
 have hc:=hh.pe (i:=0) rfl;have hsl:=hh.ra (i:=0) rfl;refine da (N:=42) (l:=[.slice A n c,.func (.func g) #[] #[]]) func209 rfl rfl (by simp) ?_;refine fa ?_;refine qa (Hw A n c l g [] p _ hsl hn (λz w1 hz _=>hg z w1 hz)) ja.out rfl U' ?_;rintro e_ w10 ⟨v_,rfl,hv_,hb_⟩;refine⟨_,rfl, ?_⟩;replace hh:=hh.ext hb_;obtain⟨ha,rfl⟩|⟨i0,z0,hi0,rfl,ht0,hz0,hp0⟩:=hv_
 .have hf:(l.filter λz=> !p z)=l:=List.filter_eq_self.2 λz hz=>(by have:=p9.1 ha z hz;simpa using this);rw[hf,hl];refine fa ?_;exact⟨rfl,hh⟩
 have hf0:((l.take (i0+1)).filter λz=> !p z)=l.take i0:=(by rw[oa hz0,I7,O5 (by rw[hp0];decide),List.filter_nil,n_];exact List.filter_eq_self.2 λz hz=>(by have:=p9.1 ht0 z hz;simpa using this));obtain⟨g0,rfl⟩:=hh.Pb (i:=0) rfl Z';refine fa ?_;refine Ra [5,6,7,16,17,18,19,20,21,22,23,24,25,26,27,28,29,30,31,32,33,34,35] 5 6 (λv5 v6 w'=>∃(i j:Nat)(X:List TR),i<j/\j<=n/\v5=.int .i64 i/\v6=.int .i64 j/\X.length=n/\i=((l.take j).filter λz=> !p z).length/\X.take i=((l.take j).filter λz=> !p z)/\X.drop j=l.drop j/\Hp w0 (.row (some ⟨g0,0,none⟩) n c 72 4 (na TR.cells X)::Hr) w') (λ_ v _=>n-(intOf v).toNat) ?_ ?_
 .exact⟨i0,i0+1,l,Z',Z',rfl,rfl,hl,by rw[hf0,R_];omega,hf0.symm,rfl,hh⟩
 clear hh;rintro ρ' v5 v6 w' ⟨i,j,X,hij,hj,rfl,rfl,hX,hi,htk,hdr,hh⟩;by_cases hlt:j<n
 .obtain⟨z,hz⟩:=ea (l:=l) (k:=j) Z';have hXj:X[j]?=some z:=by
   have h1:(X.drop j)[0]?=(l.drop j)[0]?:=by rw[hdr]
   rw[F8,F8,u9] at h1;rw[h1,hz]
  have hgz:=λw1=>hg z w1 (G' hz);have hdr2:X.drop (j+1)=l.drop (j+1):=by rw[<-l7,<-l7,hdr]
  have hrl:=ue TR.len X;refine fa ?_;refine wb (vs:=[_,_,_,_]) ya.out rfl (hh.Jd (f:=TR.cells) (x:=z) (l:=X) (i:=0) rfl TR.len U' hXj) rfl U' ?_;refine Tb ?_;intro b7 w7 hh ws hh
  cases hpz:p z with
  |true=>
   rw[hpz] at hgz;have hfl:((l.take (j+1)).filter λz=> !p z)=((l.take j).filter λz=> !p z):=by rw[oa hz,I7,O5 (by rw[hpz];decide),List.filter_nil,n_]
   refine Zh (hgz _) ja.out rfl rfl U' ?_;rintro e_ w28 ⟨rfl,hb_⟩;refine⟨_,rfl, ?_⟩;replace hh:=hh.ext hb_;refine fa ?_;replace hh:=hh.sub (p' _ (I' _ (A_ _)));refine⟨⟨i,j+1,X,Z',Z',rfl,rfl,hX,by rw[hfl];exact hi,by rw[hfl];exact htk,hdr2,hh⟩,by show n-(j+1)<n-j;omega, ?_⟩;exact Sc
  |false=>
   rw[hpz] at hgz;have hfl:((l.take (j+1)).filter λz=> !p z)=((l.take j).filter λz=> !p z)++[z]:=by rw[oa hz,I7,List.filter_cons_of_pos (by rw[hpz];decide),List.filter_nil]
   refine Zh (hgz _) ja.out rfl rfl U' ?_;rintro e_ w28 ⟨rfl,hb_⟩;refine⟨_,rfl, ?_⟩;replace hh:=hh.ext hb_;refine fa ?_;refine Ab hh (i:=1) (vs:=[_,_,_,_]) rfl rfl (Qd rfl) rfl ya.out rfl Z' rfl ?_;intro ws hh;simp only[U_,G_] at hh;rw[show Ib (na TR.cells X) (i*4) [.string z.m,.bool z.c.neg,.string z.c.Qa,.int .i64 z.c.e]=na TR.cells (X.set i z) from ee TR.len Z'] at hh;refine fa ?_;replace hh:=hh.sub (p' _ (I' _ (A_ _)));refine⟨⟨i+1,j+1,X.set i z,Z',Z',rfl,rfl,by rw[T9];exact hX,by rw[hfl,Y_,<-hi];rfl,by rw[hfl,Iz Z',htk],by rw[nH Z'];exact hdr2,hh⟩,by show n-(j+1)<n-j;omega, ?_⟩;exact Sc
 obtain rfl:j=n:=Z';rw[show l.take j=l from W_ Z'] at hi htk;have hcap:=hh.pe (i:=0) rfl;have hp31:(if c=i then some (⟨g0,0,none⟩:Addr) else(some (⟨g0,0,none⟩:Addr)).map (·.add (i*4)))=some ⟨g0,i*4,none⟩:=(by rw[L' Z'];show some ((⟨g0,0,none⟩:Addr).add (i*4))=_;rw[ve,C_]);have htt:(na TR.cells X).take (i*4)=na TR.cells (l.filter λz=> !p z):=by rw[Oh TR.len,htk]
 refine fa ?_;refine Ia rfl rfl U' (Ff (l:=i) (h:=j) mb.out ya.size rfl ⟨_,_,rfl,rfl⟩ rfl Z' Z') ?_;rw[hp31];replace hh:=hh.dD (k:=i) Z';rw[htt] at hh;refine qm hh (i:=0) (o:=i*4) (m:=j-i) rfl rfl Z' Z' Z' mb.out ya.out rfl rfl ?_;intro w38 hh;refine fa ?_;refine zQ ?_;refine fa ?_;rw[<-hi];exact⟨rfl,hh⟩
variable {ts:List TR}
structure PX where
 v:Int
 A:Option Addr
 n:Nat
 c:Nat
 ts:List TR
def PX.row(g:PX):HE:=.row g.A g.n g.c 72 4 (na TR.cells g.ts)
def PX.at_(g:PX)(w:World):Prop:=Sl w g.A g.n 4 (na TR.cells g.ts)
def PX.at_.ext{g:PX}(h:g.at_ w)(hb:Below w.heap.size w w'):g.at_ w':=Sl.ext h hb
def PX.at_.ln{g:PX}(h:g.at_ w):g.ts.length=g.n:=Sl.Fa h TR.len U'
variable {E:Int}
structure tg(E v:Int)(ts:List TR)(g:PX):Prop where
 v:g.v=if E=0 then v else 0
 ts:g.ts=if E=0 then ts else[]
def PX.nil:PX:=⟨0,none,0,0,[]⟩
def tg.err{v:Int}(h:E≠0):tg E v ts PX.nil:=⟨by rw[L' h];rfl,by rw[L' h];rfl⟩
def Hp.cS{H:List HE}(h:Hp w0 H w):Hp w0 (PX.nil.row::H) w:=h.Nb 72 4
def zz(A:Option Addr)(n c:Nat)(l:List TR)(k:Nat)(w:World)(hT:Xc w)(hh:Hp w0 (.row A n c 72 4 (na TR.cells l)::Hr) w)(hl:l.length=n)(hn:n<=1000000)(hk:k+n<=3999980)(ho:zg k l):Calls prog 210 #[.slice A n c,.func (.func 133) #[] #[],.func (.func 134) #[] #[]] w λr w'=>∃(L:List TR)(A':Option Addr)(c':Nat),MD (k+n) l L/\r=.returned (.slice A' L.length c')/\Hp w0 (.row A' L.length c' 72 4 (na TR.cells L)::Hr) w':=by
 refine(Nn k n A n c l w (j' _) hT (hh.ra (i:=0) rfl) (hh.pe (i:=0) rfl) hn hk ho).mono λr w' h=> ?_;obtain⟨h1,rfl,hb⟩|⟨h1,L,A',c',hm,rfl,h3⟩:=h
 .exact⟨l,A,c,(MD.self (bA Z') ho).mono Z',by rw[hl],by rw[hl];exact hh.ext hb⟩
 refine⟨L,A',c',hm,rfl, ?_⟩;exact(hh.join h3).sub (I' _ (p' _ (A_ _)))
def zeT(t:TR):Bool:=decide (t.c.ma=0)
def MJ(l:List TR):(l.filter λz=> !zeT z)=l.filter Wp:=rfl
def PB(z:TR)(w:World):Calls prog 211 #[.agg #[.string z.m,.bool z.c.neg,.string z.c.Qa,.int .i64 z.c.e]] w λr w'=>r=.returned (.bool (zeT z))/\Below w.heap.size w w':=by
 have hh:=Hp.start w;refine da (N:=7) (l:=[.agg #[.string z.m,.bool z.c.neg,.string z.c.Qa,.int .i64 z.c.e]]) func211 rfl rfl (by simp) ?_;refine Lb ?_;intro b1 w1 hh;refine Oa hh (Qc z.c _) rfl ?_;intro w5 hh;have hz:z.c.i.sign=0↔z.c.ma=0:=(by exact abr);unfold zeT;by_cases h0:z.c.ma=0
 .have hs:=hz.2 h0;rw[N_ h0];refine fa ?_;exact⟨rfl,hh.below⟩
 have hs:¬z.c.i.sign=0:=λh=>h0 (hz.1 h);rw[O_ h0];refine fa ?_;exact⟨rfl,hh.below⟩
def Pf(l:List TR):Int:=if 4096<(ua l).length then 3 else 0
def JG{xs ys:List Value}{v:Value}(h:xs[o]?=some v):Ib xs o (v::ys)=Ib xs (o+1) ys:=by
 unfold Ib;rw[oa h,E_,show o+(ys.length+1)=o+1+ys.length by omega];simp
def nfT(t:TR):TR:=⟨t.m,nR t.c.ma⟩
def nB{X:List TR}{i:Nat}{z:TR}(h:X[i]?=some z)(y:NR):Ib (na TR.cells X) (i*4+1) [.bool y.neg,.string y.Qa,.int .i64 y.e]=na TR.cells (X.set i ⟨z.m,y⟩):=by
 have h0:(na TR.cells X)[i*4]?=some (.string z.m):=by
  have h1:=Bs TR.len h;have h2:(((na TR.cells X).drop (i*4)).take 4)[0]?=some (.string z.m):=by rw[h1];rfl
  rwa[List.getElem?_take_of_lt U',F8,u9] at h2
 rw[<-JG h0];exact ee TR.len (y:=⟨z.m,y⟩) (X_.1 h).1
def vk(v:Int)(A:Option Addr)(n c:Nat)(l:List TR)(k:Nat)(w:World)(hT:Xc w0)(hh:Hp w0 (.row A n c 72 4 (na TR.cells l)::Hr) w)(hl:l.length=n)(hn:n<=1000000)(hk:k+n<=3999980)(ho:zg k l):Calls prog 135 #[.int .i64 v,.slice A n c] w λr w'=>∃g:PX,tg (Pf l) v (ua l) g/\r=.returned (.tuple #[.agg #[.int .i64 g.v,.slice g.A g.n g.c],.int .i64 (Pf l)])/\Hp w0 (g.row::Hr) w':=by
 refine da (N:=33) (l:=[.int .i64 v,.slice A n c]) func135 rfl rfl (by simp) ?_;refine Lb ?_;intro b4 w4 hh;replace hh:=hh.perm (P_ (l₁:=[_]));simp only[C',E'] at hh;refine qa (zz A n c l k _ (hT.hp hh) hh hl hn hk ho) ja.out rfl U' ?_;rintro e_ w8 ⟨L,A1,c1,hmd,rfl,hh⟩;refine⟨_,rfl, ?_⟩;have hlen:=hmd.len;refine qa (BI A1 L.length c1 L _ zeT _ hh rfl Z' (λz w1 _=>PB z w1)) ja.out rfl U' ?_;rintro e_ w9 ⟨rfl,hh⟩;refine⟨_,rfl, ?_⟩;rw[MJ] at hh |-;have hML:(L.filter Wp).length<=L.length:=Z5 _ _;have hgl:(ua l).length=(L.filter Wp).length:=by rw[<-hmd.ua,Z_]
 have hgm:=hmd.ua;have hok:zg (k+n) (L.filter Wp):=λt ht=>hmd.ok t (Z8.1 ht).1;generalize hM:L.filter Wp=M at*;by_cases h4:4096<M.length
 .rw[show Pf l=3 by unfold Pf;rw[J' Z']];refine Lb ?_;intro ws hh;replace hh:=hh.sub (p' _ (I' _ (A_ _)));refine Lu ?_;exact⟨PX.nil,tg.err U',rfl,(hh.sub (s_ _ _)).cS⟩
 rw[show Pf l=0 by unfold Pf;rw[L' Z']];refine fa ?_;refine Ba [6,16,17,18,19,20,21,22,23,24,25,26,27,28,29] 16 (λv w'=>∃(i:Nat)(X:List TR),i<=M.length/\v=.int .i64 i/\X.length=M.length/\X=(M.take i).map nfT++M.drop i/\Hp w0 (.row A1 M.length c1 72 4 (na TR.cells X)::.blk b4 24 [.int .i64 0,.slice none 0 0] (0,0)::Hr) w') (λv _=>M.length-(intOf v).toNat) ?_ ?_
 .exact⟨0,M,D' _,rfl,rfl,rfl,hh⟩
 clear hh;rintro ρ' v w' ⟨i,X,hi,rfl,hX,hXe,hh⟩;by_cases hlt:i<M.length
 .obtain⟨z,hz⟩:=ea (l:=M) (k:=i) Z';have hXz:X[i]?=some z:=(by rw[hXe,H9 (by rw[Z_,R_];omega),Z_,R_,y9 Z',d_,F8];exact hz);have hzo:=hok z (G' hz);have hXn:X.set i ⟨z.m,nR z.c.ma⟩=(M.take (i+1)).map nfT++M.drop (i+1):=(by rw[oa hz,q_,hXe,p8 _ _ (by rw[Z_,R_];omega),Z_,R_,y9 Z',d_,l_];congr 1;obtain⟨h1,h2⟩:=X_.1 hz;rw[y8 h1,h2];rfl);have hrl:=ue TR.len X;obtain⟨g0,rfl⟩:=hh.Pb (i:=0) rfl Z';refine fa ?_;refine wb (vs:=[_,_,_]) ya.out rfl ((hh.Jd (f:=TR.cells) (x:=z) (l:=X) (i:=0) rfl TR.len U' hXz).drop 1) rfl U' ?_;refine Oa hh (Gd z.c _ (hT.hp hh) (by have:=hzo.1.1;omega) (by have:=hzo.1.2.1;omega) (by have:=hzo.1.2.2;omega)) rfl ?_;intro w26 hh;refine fa ?_;refine Ab hh (i:=0) (vs:=[_,_,_]) rfl rfl (Qd rfl) rfl ya.out rfl Z' rfl ?_;intro ws hh;simp only[U_] at hh;rw[nB hXz,hXn] at hh;refine fa ?_;refine⟨⟨i+1,_,Z',rfl, ?_,rfl,hh⟩,by show M.length-(i+1)<M.length-i;omega, ?_⟩
  .rw[<-hXn,T9,hX]
  exact Sc
 obtain rfl:i=M.length:=Z';rw[W_ (j' _),z8 (j' _),n_] at hXe;have hXg:X=ua l:=by rw[hXe];exact hgm
 rw[hXg] at hh;refine Lb ?_;intro ws hh;refine kH ?_;exact⟨⟨v,A1,M.length,c1,ua l⟩,⟨rfl,rfl⟩,rfl,hh.sub (I' _ (p' _ (A_ _)))⟩
def Uk(s:ByteArray)(n:Int)(w:World)(hs:s.size<=9223372036854775807):Calls prog 151 #[.string s,.int .i64 n] w λe w'=>e=.returned (.bool (Be s.data.toList && decide ((s.size:Int)=n)))/\Below w.heap.size w w':=by
 refine da (N:=20) (l:=[.string s,.int .i64 n]) func151 rfl rfl (by simp) ?_;refine fa ?_;refine Ba [4,5,8,9,10,11,12,13,14,15] 8 (λv w'=>∃k:Nat,k<=s.size/\v=.int .i64 k/\Be (s.data.toList.take k)=true/\w'=w) (λv _=>s.size-(intOf v).toNat) ?_ ?_
 .exact⟨0,D' _,rfl,rfl,rfl⟩
 rintro ρ' v w' ⟨k,hk,rfl,hm,rfl⟩;by_cases hlt:k<s.size
 .exact QZ
 refine sr ?_;refine wi (sa (Xa (cF (Il (Ci (Ci (nq (Xb (sr (mS ?_))))))))));exact adg
def Sn(s:ByteArray)(w:World)(hs:s.size<=9223372036854775807):Calls prog 151 #[.string s,.int .i64 s.size] w λe w'=>e=.returned (.bool (Be s.data.toList))/\Below w.heap.size w w':=by
 have h:=Uk s s.size w hs;simpa using h
def QI(s:ByteArray)(n:Int)(w:World)(hs:s.size<=9223372036854775807):Calls prog 159 #[.string s,.int .i64 n] w λe w'=>e=.returned (.bool (Be s.data.toList && decide ((s.size:Int)=n)))/\Below w.heap.size w w':=by
 refine da (N:=20) (l:=[.string s,.int .i64 n]) func159 rfl rfl (by simp) ?_;refine fa ?_;refine Ba [4,5,6,7,8,9,10,11,12,13,14,15] 5 (λv w'=>∃k:Nat,k<=s.size/\v=.int .i64 k/\Be (s.data.toList.take k)=true/\w'=w) (λv _=>s.size-(intOf v).toNat) ?_ ?_
 .exact⟨0,D' _,rfl,rfl,rfl⟩
 rintro ρ' v w' ⟨k,hk,rfl,hm,rfl⟩;by_cases hlt:k<s.size
 .exact QZ
 refine Xa (sr (mI (mS ?_)));refine Wt mb.out rfl U' ?_;refine wi (sa (cF (Il (Ci (Ci (nq (Xb (sr (mS ?_)))))))));exact adg
def EU(A:Option Addr)(n c:Nat)(xs:List Int)(w:World)(hsl:Sl w A n 1 (jb xs))(hn:n<=100000):Calls prog 331 #[.slice A n c] w λe w'=>e=.returned (.tuple #[.string (str (lW xs)),.int .i64 (zY xs)])/\Below w.heap.size w w':=by
 have hlen:xs.length=n:=by have:=hsl.1;rw[Zb] at this;omega
 have hh:=Hp.start w;refine da (N:=27) (l:=[.slice A n c]) func331 rfl rfl (by simp) ?_;refine fa ?_;refine Ra [2,3,4,6,9,10,11,12,13,14,15,16,17,18,19,20,21,22,23,24] 4 9 (λb i w'=>∃(k c':Nat)(A':Option Addr),k<=n/\i=.int .i64 k/\b=.slice A' k c'/\(xs.take k).all Td=true/\Hp w [.row A' k c' 5 1 (fj ((xs.take k).map gD))] w') (λ_ v _=>n-(intOf v).toNat) ?_ ?_
 .exact⟨0,0,none,D' _,rfl,rfl,rfl,hh.Nb _ _⟩
 clear hh;rintro ρ' b i w' ⟨k,c',A',hk,rfl,rfl,hall,hh⟩;by_cases hlt:k<n
 .obtain⟨x,hx⟩:=ea (l:=xs) (k:=k) Z';obtain⟨ad,rfl,hr⟩:=(hsl.ext hh.below).at_ Z';by_cases h0:x<0
  .exact ae5
  by_cases h1:127<x
  .exact ae5
  have hok:Td x=true:=by simp[Td];omega
  refine fa ?_;refine ub ya.out rfl (vH hr (Uc hx) rfl) U' ?_;refine fa ?_;refine Nz ?_;intro b22 w22 hh;refine Hb hh (i:=1) rfl rfl rfl (hh.ra (i:=0) rfl) mb.out ya.out rfl U' rfl Z' Z' U' ?_;intro A23 c23 w23 hh;simp only[U_,G_] at hh;replace hh:=hh.sub (s_ _ _);refine fa ?_;refine⟨⟨k+1,c23,A23,Z',rfl,rfl,bT hx hall hok, ?_⟩,by show n-(k+1)<n-k;omega, ?_⟩
  .rw[WY Z' Z',qQ hx hok] at hh;exact hh
  exact Sc
 obtain rfl:k=n:=Z';rw[W_ Z'] at hall hh;obtain⟨e1,e2⟩:=xv hall;refine fa ?_;refine Nu mb.out mb.out mb.out rfl (hh.ra (i:=0) rfl) U' ?_;refine fa ?_;rw[e1,e2];exact⟨rfl,hh.below⟩
def Mi(s:ByteArray)(w:World)(hs:s.size<=100000):Calls prog 166 #[.string s] w λe w'=>∃A c,e=.returned (.slice A (Wi s.data.toList).length c)/\w'.ownsRow w.heap.size 3 1 (.slice A (Wi s.data.toList).length c) (Wi s.data.toList).length (jb (Wi s.data.toList))/\Below w.heap.size w w':=by
 have hh:=Hp.start w;have hsz:=Yc s
 cases hm:Be s.data.toList with
 |false=>
  refine da (N:=22) (l:=[.string s]) func166 rfl rfl (by simp) ?_;refine fa ?_;refine Oa hh (Sn s _ Z') rfl ?_;intro w9 hh;rw[hm];refine fa ?_;rw[wR hm];exact⟨none,0,rfl,World.ownsRow_nil _ _ _ _,hh.below⟩
 |true=>
  refine da (N:=22) (l:=[.string s]) func166 rfl rfl (by simp) ?_;refine fa ?_;refine Oa hh (Sn s _ Z') rfl ?_;intro w9 hh;rw[hm];refine fa ?_;refine Mr hh mb.out rfl U' ?_;intro b12 w12 hh;skip;refine fa ?_;refine Ba [3,5,13,14,15,16,17,18,19,20] 3 (λv w'=>∃(k c':Nat)(A':Option Addr),k<=s.size/\v=.slice A' k c'/\Hp w [.row A' k c' 3 1 (jb (ints (s.data.toList.take k))),.it b12 s k] w') (λv _=>s.size-lenOf v) ?_ ?_
  .exact⟨0,0,none,D' _,rfl,hh.Nb _ _⟩
  clear hh;rintro ρ' v w' ⟨k,c',A',hk,rfl,hh⟩;by_cases hlt:k<s.size
  .obtain⟨c,hc⟩:=ea (l:=s.data.toList) (k:=k) Z';have h8:=Xn hm hc;refine sr ?_;refine er hh (i:=1) rfl rfl hc h8 U' ?_;intro w13 hh;simp only[U_,G_] at hh;skip;refine fa ?_;refine Nz ?_;intro b19 w19 hh;refine Hb hh (i:=1) rfl rfl rfl (hh.ra (i:=0) rfl) mb.out ya.out rfl U' rfl Z' Z' U' ?_;intro A20 c20 w20 hh;simp only[U_,G_] at hh;replace hh:=hh.sub (s_ _ _);refine fa ?_;rw[yw hc] at hh;refine⟨⟨k+1,c20,A20,Z',rfl,hh⟩,by show s.size-(k+1)<s.size-k;omega, ?_⟩;exact Sc
  refine fa ?_;refine Lq hh (i:=1) rfl rfl hlt U' ?_;skip;refine fa ?_;obtain rfl:k=s.size:=Z';rw[W_ Z'] at hh;have h1:=hh.at_ (i:=0) rfl;rw[Cl hm,md,<-hsz];exact⟨A',c',rfl,h1,hh.below⟩
def Zw(a b:ByteArray)(g:FuncId)(f:Int->Int->Int)(w:World)(ha:a.size<=100000)(hb:b.size<=100000)[ja prog g] (hg:∀(x y:Int)(w:World),0<=x->x<=127->0<=y->y<=127->Calls prog g #[.int .i64 x,.int .i64 y] w λe w'=>e=.returned (.int .i64 (f x y))/\Below w.heap.size w w'):Calls prog 329 #[.string a,.string b,.func (.func g) #[] #[]] w λe w'=>
   (Yi f a.data.toList b.data.toList=none/\e=.returned (.tuple #[.slice none 0 0,.bool false])/\Below w.heap.size w w')\/
   ∃l,Yi f a.data.toList b.data.toList=some l/\l.length=b.size/\∃A c,e=.returned (.tuple #[.slice A l.length c,.bool true])/\w'.ownsRow w.heap.size 3 1 (.slice A l.length c) l.length (jb l)/\Below w.heap.size w w':=by
 have hh:=Hp.start w;have hsa:=Yc a;have hsb:=Yc b
 cases hma:Be a.data.toList with
 |false=>
  refine UR ?_;refine fa ?_;refine qa (Mi b _ hb) ja.out rfl U' ?_;rintro e_ w12 ⟨A12,c12,rfl,hown_,hb_⟩;refine⟨_,rfl, ?_⟩;replace hh:=hh.Aa (x:=.row _ _ _ _ _ _) hb_ hown_;refine fa ?_;refine Oa hh (Sn a _ Z') rfl ?_;intro w16 hh;rw[hma];refine fa ?_;exact .inl ⟨by simp[Yi,hma],rfl,hh.below⟩
 |true=>
  cases hmb:(Be b.data.toList && decide ((b.size:Int)=a.size)) with
  |false=>
   refine UR ?_;refine fa ?_;refine qa (Mi b _ hb) ja.out rfl U' ?_;rintro e_ w12 ⟨A12,c12,rfl,hown_,hb_⟩;refine⟨_,rfl, ?_⟩;replace hh:=hh.Aa (x:=.row _ _ _ _ _ _) hb_ hown_;refine fa ?_;refine Oa hh (Sn a _ Z') rfl ?_;intro w16 hh;rw[hma];refine fa ?_;refine Oa hh (Uk b _ _ Z') rfl ?_;intro w22 hh;rw[hmb];refine fa ?_;have:(Be b.data.toList && decide ((b.data.toList.length:Int)=a.data.toList.length))=false:=by rw[<-hsa,<-hsb];exact hmb
   exact .inl ⟨by simp only[Yi,hma,this];rfl,rfl,hh.below⟩
  |true=>
   have hmb2:=hmb;simp only[Q_,K_] at hmb2;have hbl:Yi f a.data.toList b.data.toList=some (List.zipWith f (ints a.data.toList) (ints b.data.toList)):=by
    have:(Be b.data.toList && decide ((b.data.toList.length:Int)=a.data.toList.length))=true:=by rw[<-hsa,<-hsb];exact hmb
    simp only[Yi,hma,this];rfl
   have hea:=Cl hma;have heb:=Cl hmb2.1;have hlab:(ints a.data.toList).length=(ints b.data.toList).length:=by rw[md,md];omega
   have hlb:=md b.data.toList;have hla:=md a.data.toList;have hA:=Mi a;have hB:=Mi b;rw[hea] at hA;rw[heb] at hB;generalize hia:ints a.data.toList=ia at*;generalize hib:ints b.data.toList=ib at*;have bda:∀(k:Nat)(x:Int),ia[k]?=some x->0<=x/\x<=127:=λk x h=>rN (l:=a.data.toList) (by rw[hea];exact h);have bdb:∀(k:Nat)(x:Int),ib[k]?=some x->0<=x/\x<=127:=λk x h=>rN (l:=b.data.toList) (by rw[heb];exact h);clear hea heb;refine UR ?_;refine fa ?_;refine qa (hB _ hb) ja.out rfl U' ?_;rintro e_ w12 ⟨A12,c12,rfl,hown_,hb_⟩;refine⟨_,rfl, ?_⟩;replace hh:=hh.Aa (x:=.row _ _ _ _ _ _) hb_ hown_;refine fa ?_;refine Oa hh (Sn a _ Z') rfl ?_;intro w16 hh;rw[hma];refine fa ?_;refine Oa hh (Uk b _ _ Z') rfl ?_;intro w22 hh;rw[hmb];refine fa ?_;refine qa (hA _ ha) ja.out rfl U' ?_;rintro e_ w26 ⟨A26,c26,rfl,hown_,hb_⟩;refine⟨_,rfl, ?_⟩;replace hh:=hh.Aa (x:=.row _ _ _ _ _ _) hb_ hown_;refine fa ?_;refine Ba [9,10,28,29,30,31,32,33,34,35,36,37,38,39,40,41,42,43] 28 (λi w'=>∃k:Nat,k<=ib.length/\i=.int .i64 k/\Hp w [.row A26 ia.length c26 3 1 (jb ia),.row A12 ib.length c12 3 1 (jb (On f ia ib k))] w') (λi _=>ib.length-(intOf i).toNat) ?_ ?_
   .exact⟨0,D' _,rfl,by rw[XS];exact hh⟩
   clear hh hown_ hb_;rintro ρ' i w' ⟨k,hk,rfl,hh⟩;by_cases hlt:k<ib.length
   .obtain⟨x,hx⟩:=ea (l:=ia) (k:=k) Z';obtain⟨y,hy⟩:=ea hlt;have bx:=bda k x hx;have byy:=bdb k y hy;have hx2:=Uc hx;have hy2:=Uc (abV (f:=f) hlab hy);have hml:=XW (f:=f) hlab hk;have hml2:=Zb (On f ia ib k);obtain⟨ga,rfl⟩:=hh.Pb (i:=0) rfl Z';obtain⟨gb,rfl⟩:=hh.Pb (i:=1) rfl Z';refine fa ?_;refine Fj ?_;refine fa ?_;refine ub ya.out rfl (hh.cd (i:=1) rfl (by first|assumption|(simp only[H_];assumption))) U' ?_;refine Zh (hg x y _ bx.1 bx.2 byy.1 byy.2) ja.out rfl rfl U' ?_;rintro e_ w41 ⟨rfl,hb_⟩;refine⟨_,rfl, ?_⟩;replace hh:=hh.ext hb_;refine fa ?_;refine fR ?_;intro ws hh;simp only[U_,G_] at hh;refine fa ?_;rw[H_,qX hlab hx hy] at hh;refine⟨⟨k+1,Z',rfl,hh⟩,by show _-(k+1)<_-k;omega, ?_⟩;exact Sc
   refine fa ?_;obtain rfl:k=ib.length:=Z';rw[JU hlab] at hh;have h1:=hh.at_ (i:=1) rfl;have hzl:(List.zipWith f ia ib).length=ib.length:=by simp[hlab]
   refine .inr ⟨_,hbl,Z',A12,c12, ?_⟩;rw[hzl];exact⟨rfl,h1,hh.below⟩
def UO(a b:ByteArray)(g:FuncId)(f:Int->Int->Int)(w:World)(ha:a.size<=100000)(hb:b.size<=100000)[ja prog g] (hg:∀(x y:Int)(w:World),0<=x->x<=127->0<=y->y<=127->Calls prog g #[.int .i64 x,.int .i64 y] w λe w'=>e=.returned (.int .i64 (f x y))/\Below w.heap.size w w') (h:Yi f a.data.toList b.data.toList=none):Calls prog 329 #[.string a,.string b,.func (.func g) #[] #[]] w λe w'=>e=.returned (.tuple #[.slice none 0 0,.bool false])/\Below w.heap.size w w':=(Zw a b g f w ha hb hg).mono λe w' hq=>by
  obtain hq|⟨l,hl,_⟩:=hq
  .exact hq.2
  rw[h] at hl;cases hl
def NN(a b:ByteArray)(g:FuncId)(f:Int->Int->Int)(w:World)(ha:a.size<=100000)(hb:b.size<=100000)[ja prog g] (hg:∀(x y:Int)(w:World),0<=x->x<=127->0<=y->y<=127->Calls prog g #[.int .i64 x,.int .i64 y] w λe w'=>e=.returned (.int .i64 (f x y))/\Below w.heap.size w w')
  {l:List Int}(h:Yi f a.data.toList b.data.toList=some l):
  Calls prog 329 #[.string a,.string b,.func (.func g) #[] #[]] w λe w'=>∃A c,e=.returned (.tuple #[.slice A l.length c,.bool true])/\w'.ownsRow w.heap.size 3 1 (.slice A l.length c) l.length (jb l)/\Below w.heap.size w w':=
 (Zw a b g f w ha hb hg).mono λe w' hq=>by
  obtain⟨hn,_⟩|⟨l',hl,_,hq⟩:=hq
  .rw[h] at hn;cases hn
  rw[h] at hl;injection hl with hl;subst hl;exact hq
def yN{f:Int->Int->Int}{a b:List UInt8}{l:List Int}(h:Yi f a b=some l):l.length<=b.length:=by
 unfold Yi at h;split at h
 .injection h with h;subst h;simp[ints];omega
 cases h
def ew(x y:Int)(w:World)(h1:0<=x)(h2:x<=127)(h3:0<=y)(h4:y<=127):Calls prog 330 #[.int .i64 x,.int .i64 y] w λe w'=>e=.returned (.int .i64 (x+y))/\Below w.heap.size w w':=by
 refine da (N:=8) (l:=[.int .i64 x,.int .i64 y]) func330 rfl rfl (by simp) ?_;refine fa ?_;exact⟨rfl,Below.refl _ _⟩
def uP(a b:ByteArray)(w:World)(ha:a.size<=100000)(hb:b.size<=100000):Calls prog 326 #[.string a,.string b] w λe w'=>e=.returned (.tuple #[.string (str (mulL a.data.toList b.data.toList).1),.int .i64 (mulL a.data.toList b.data.toList).2])/\Below w.heap.size w w':=by
 have hh:=Hp.start w;have hsb:=Yc b
 cases hbo:Yi (· + ·) a.data.toList b.data.toList with
 |none=>
  refine da (N:=20) (l:=[.string a,.string b]) func326 rfl rfl (by simp) ?_;refine fa ?_;refine Oa hh (UO a b _ _ _ ha hb ew hbo) rfl ?_;intro w11 hh;refine fa ?_;simp only[mulL,hbo];exact⟨rfl,hh.below⟩
 |some l=>
  have hl:=yN hbo;refine da (N:=20) (l:=[.string a,.string b]) func326 rfl rfl (by simp) ?_;refine fa ?_;refine qa (NN a b _ _ _ ha hb ew hbo) ja.out rfl U' ?_;rintro e_ w11 ⟨A11,c11,rfl,hown_,hb_⟩;refine⟨_,rfl, ?_⟩;replace hh:=hh.Aa (x:=.row _ _ _ _ _ _) hb_ hown_;refine fa ?_;refine Oa hh (EU _ _ _ _ _ (hh.ra (i:=0) rfl) Z') rfl ?_;intro w17 hh;refine fa ?_;simp only[mulL,hbo];exact⟨trivial,hh.below⟩
def Wg(v:Int):Bool:=decide (0<=v) && decide (v<=12)
def Qe{v:Int}:Wg v=true↔0<=v/\v<=12:=by unfold Wg;rw[Q_,K_,K_]
def Wn(v:Int)(w:World):Calls prog 128 #[.int .i64 v] w λr w'=>r=.returned (.bool (Wg v))/\Below w.heap.size w w':=by
 have hh:=Hp.start w;unfold Wg;by_cases h1:0<=v
 .rw[N_ h1,Bool.true_and];by_cases h2:v<=12
  .rw[N_ h2];exact abQ
  rw[O_ h2];exact abQ
 rw[O_ h1,Bool.false_and];exact abQ
def nfB(a:NR):Bool:=decide ((nR a.ma).neg=a.neg) && (decide ((nR a.ma).Qa=a.Qa) && decide ((nR a.ma).e=a.e))
def lv(a:NR):nfB a=true↔nR a.ma=a:=by
 unfold nfB;rw[Q_,Q_,K_,K_,K_];constructor
 .rintro ⟨h1,h2,h3⟩;obtain⟨s,m,e⟩:=a;generalize nR (NR.ma ⟨s,m,e⟩)=b at*;obtain⟨s',m',e'⟩:=b;simp only at h1 h2 h3;rw[h1,h2,h3]
 intro h;rw[h];exact⟨rfl,rfl,rfl⟩
def rp(v:Int)(t:TR):Bool:=Be t.m.data.toList && decide ((t.m.size:Int)=v) && (Wp t && nfB t.c)
def Js:List TR->Bool
 |[]=>true
 |[_]=>true
 |a::b::l=>uh a.m b.m && Js (b::l)
def eA:∀(l:List TR)(p x:TR),Js (l++[p,x])=(Js (l++[p]) && uh p.m x.m)
 |[],p,x=>by show(uh p.m x.m && true)=(true && uh p.m x.m);rw[Bool.and_true,Bool.true_and]
 |[a],p,x=>(by show(uh a.m p.m && (uh p.m x.m && true))=((uh a.m p.m && true) && uh p.m x.m);rw[Bool.and_true,Bool.and_true])
 |a::b::l,p,x=>(by show(uh a.m b.m && Js ((b::l)++[p,x]))=((uh a.m b.m && Js ((b::l)++[p])) && uh p.m x.m);rw[eA (b::l) p x,Bool.and_assoc])
def LL:∀{l:List TR}{i:Nat}{p x:TR},Js l=true->l[i]?=some p->l[i+1]?=some x->uh p.m x.m=true
 |[],i,p,x,_,h,_=>by simp at h
 |[a],i,p,x,_,_,h=>by simp at h
 |a::b::l,0,p,x,h,h1,h2=>(by simp only[O6,P8,C_,P6] at h1 h2;subst h1 h2;exact(E8.1 h).1)
 |a::b::l,i+1,p,x,h,h1,h2=>(by rw[P6] at h1 h2;exact LL (E8.1 h).2 h1 h2)
def Gr:∀{l:List TR},Js l=true↔Gv l
 |[]=>⟨λ_=>T5,λ_=>rfl⟩
 |[a]=>⟨λ_=>F5 _ _,λ_=>rfl⟩
 |a::b::l=>by
  show(uh a.m b.m && Js (b::l))=true↔_;rw[Q_,Gr (l:=b::l)];constructor
  .rintro ⟨h1,h2⟩;refine Y8.2 ⟨λt ht=> ?_,h2⟩;obtain rfl|ht:=T_.1 ht
   .exact h1
   exact Bj h1 ((Y8.1 h2).1 t ht)
  intro h;have:=Y8.1 h;exact⟨this.1 b q',this.2⟩
def okB(v:Int)(ts:List TR):Bool:=ts.all (rp v) && Js ts
def Jf(v:Int)(ts:List TR):Int:=if Wg v=false then 1 else if 4096<ts.length then 3 else if okB v ts=true then 0 else 1
def FU{v:Int}(h1:Wg v=true)(h2:¬4096<ts.length)(h:okB v ts=false):Jf v ts=1:=by
 unfold Jf;rw[L' (by rw[h1];decide),L' h2,L' (by rw[h];decide)]
def aC{v:Int}{i:Nat}{x:TR}(hx:ts[i]?=some x)(h:rp v x=false):okB v ts=false:=by
 unfold okB;rw[B5];refine .inl (x6.2 λh2=> ?_);rw[u_.1 h2 x (G' hx)] at h
 cases h
def aU{v:Int}{i:Nat}{p x:TR}(hp:ts[i]?=some p)(hx:ts[i+1]?=some x)(h:uh p.m x.m=false):okB v ts=false:=by
 unfold okB;rw[B5];refine .inr (x6.2 λh2=> ?_);rw[LL h2 hp hx] at h
 cases h
def wB(v:Int)(A:Option Addr)(n c:Nat)(ts:List TR)(w:World)(hT:Xc w)(hS:Sl w A n 4 (na TR.cells ts))(hn:n<=1000000)(ho:∀t∈ts,t.c.ok/\t.m.size<=100000):Calls prog 83 #[.agg #[.int .i64 v,.slice A n c]] w λr w'=>r=.returned (.int .i64 (Jf v ts))/\Below w.heap.size w w':=by
 have hh:=Hp.start w;have hln:=hS.Fa TR.len U';have hfw:=λw1=>Wn v w1
 cases hf:Wg v with
 |false=>
  rw[hf] at hfw;rw[show Jf v ts=1 by unfold Jf;rw[J' hf]];exact adp
 |true=>
  rw[hf] at hfw;by_cases h4:4096<n
  .rw[show Jf v ts=3 by unfold Jf;rw[L' (by rw[hf];decide),J' Z']];exact adp
  have hbad:=λh=>FU (v:=v) (ts:=ts) hf Z' h;refine da (N:=58) (l:=[.agg #[.int .i64 v,.slice A n c]]) func83 rfl rfl (by simp) ?_;refine Lb ?_;intro b1 w1 hh;refine Oa hh (hfw _) rfl ?_;intro w7 hh;refine fa ?_;refine Ba [2,3,4,16,17,18,19,20,21,22,23,24,25,26,27,28,29,30,31,32,33,34,35,36,37,38,39,40,41,42,43,44,45,46,47,48,49,50,51,52,53,54,55,56,57] 16 (λx w'=>∃i:Nat,i<=n/\x=.int .i64 i/\(ts.take i).all (rp v)=true/\Js (ts.take i)=true/\Hp w [.blk b1 24 [.int .i64 v,.slice A n c] (0,0)] w') (λx _=>n-(intOf x).toNat) ?_ ?_
  .exact⟨0,D' _,rfl,rfl,rfl,hh⟩
  clear hh;rintro ρ' x_ w' ⟨i,hi,rfl,hall,hris,hh⟩;by_cases hlt:i<n
  .obtain⟨x,hx⟩:=ea (l:=ts) (k:=i) Z';obtain⟨ad,rfl,hr⟩:=hS.at_ Z';obtain⟨hxo,hxm⟩:=ho x (G' hx);have hmay:=λw1=>Uk x.m v w1 Z';have hsg:=λw1=>Qc x.c w1;have hfo:=λw1 hT1=>Gd x.c w1 hT1 (by have:=hxo.1;omega) (by have:=hxo.2.1;omega) (by have:=hxo.2.2;omega);have hzz:x.c.i.sign=0↔x.c.ma=0:=(by exact abr)
   cases hm:Be x.m.data.toList && decide ((x.m.size:Int)=v) with
   |false=>
    rw[hm] at hmay;rw[hbad (aC hx (by unfold rp;rw[hm];rfl))];refine fa ?_;refine rn ?_;refine Tb ?_;intro b4 w4 hh ws hh
    refine Cd [] [] zL1 33 zL0 [(32,53),(31,52),(30,51),(29,50),(28,49),(27,48),(26,47),(25,46),(24,45),(23,44),(22,43),(21,42),(20,41),(19,40),(18,39),(17,38),(16,37),(15,36),(14,35),(13,34),(12,33),(11,32),(10,31),(9,30),(8,29),(7,28),(6,27),(5,26),(4,25),(3,24),(2,23),(1,22),(0,21)] hh mixed T' Od rfl (by repeat (first|exact Eb|refine Ya ?_|refine Db ?_)) ?_
    refine Bd ?_;refine ze 0 ?_;refine Bd ?_;refine ze 1 ?_;refine dC (λ_ hj=>hmay _) ?_;refine TO ?_;refine pr ?_;refine dS (dS (dS (dS ?_)));refine dpT ?_;exact U0
   |true=>
    rw[hm] at hmay;by_cases hz:x.c.ma=0
    .have hs:=hzz.2 hz;rw[hbad (aC hx (by unfold rp Wp;rw[hm,N_ hz];rfl))];refine fa ?_;refine rn ?_;refine Tb ?_;intro b4 w4 hh ws hh
     refine Cd [] [] zL1 33 zL0 [(32,53),(31,52),(30,51),(29,50),(28,49),(27,48),(26,47),(25,46),(24,45),(23,44),(22,43),(21,42),(20,41),(19,40),(18,39),(17,38),(16,37),(15,36),(14,35),(13,34),(12,33),(11,32),(10,31),(9,30),(8,29),(7,28),(6,27),(5,26),(4,25),(3,24),(2,23),(1,22),(0,21)] hh mixed T' Od rfl (by repeat (first|exact Eb|refine Ya ?_|refine Db ?_)) ?_
     refine Bd ?_;refine ze 0 ?_;refine Bd ?_;refine ze 1 ?_;refine dC (λ_ hj=>hmay _) ?_;refine TO ?_;refine pr ?_;refine dG (Bd ?_);refine dG (Yd 0 [_,_,_] ?_);refine NG ?_;refine dG (uQ ?_);refine mW ?_;exact U0
    have hs:¬x.c.i.sign=0:=λh=>hz (hzz.1 h);by_cases hnf:nR x.c.ma=x.c
    .have hgood:rp v x=true:=by unfold rp Wp;rw[hm,O_ hz,(lv x.c).2 hnf];rfl
     have hall2:(ts.take (i+1)).all (rp v)=true:=by rw[oa hx,l6,hall];simp[hgood]
     by_cases h0:i=0
     .refine fa ?_;refine rn ?_;refine Tb ?_;intro b4 w4 hh ws hh
      refine Cd [] [] zL1 33 zL0 [(32,53),(31,52),(30,51),(29,50),(28,49),(27,48),(26,47),(25,46),(24,45),(23,44),(22,43),(21,42),(20,41),(19,40),(18,39),(17,38),(16,37),(15,36),(14,35),(13,34),(12,33),(11,32),(10,31),(9,30),(8,29),(7,28),(6,27),(5,26),(4,25),(3,24),(2,23),(1,22),(0,21)] hh mixed T' Od rfl (by repeat (first|exact Eb|refine Ya ?_|refine Db ?_)) ?_
      refine Bd ?_;refine ze 0 ?_;refine Bd ?_;refine ze 1 ?_;refine dC (λ_ hj=>hmay _) ?_;refine TO ?_;refine pr ?_;refine dG (Bd ?_);refine dG (Yd 0 [_,_,_] ?_);refine NG ?_;refine dG (uQ ?_);refine mW ?_;refine pr ?_;refine dG (Bd ?_);refine dG (Yd 0 [_,_,_] ?_);refine vM ?_;refine dG (Bd ?_);refine dG (Yd 0 [_,_,_] ?_);refine QT ?_;refine mW ?_;refine pr ?_;refine dG (jd ?_);refine dG (acj ?_);refine dG (pr ?_);refine dS (dS (dS (dS ?_)));refine Co (i:=28) rfl (λρ1 w1 hj hR=>(show ρ1 44=Value.bool _ from hR.2.2.1)) U' ?_;refine dS (dS (dS (dS ?_)));refine xa ?_;intro f W hJ hV _;have hb_8:=hJ.bl;obtain⟨v53,v52,v51,v50,v49,v48,v47,v46,v45,v44,v43,v42,v41,v40,v39,v38,v37,v36,v35,v34,v33,v32,v31,v30,v29,v28,v27,v26,v25,v24,v23,v22,v21,_⟩:=hV;replace hh:=hJ.hp;refine ML ?_;dsimp only[Cb];clear hJ;refine gS (gT ?_)
      (first|refine pkT ?_|refine pkF ?_)
      refine fa ?_;replace hh:=hh.sub (p' _ (I' _ I_));refine⟨⟨i+1,Z',rfl,hall2,by rw[oa hx,h0];rfl,hh⟩,by show n-(i+1)<n-i;omega, ?_⟩;exact Sc
     obtain⟨q,hq⟩:∃q,i=q+1:=⟨i-1,Z'⟩;obtain⟨p,hp⟩:=ea (l:=ts) (k:=q) Z'
     cases hlp:uh p.m x.m with
     |false=>
      rw[hbad (aU hp (hq ▸ hx) hlp)];have hge:(!(Op.bytesLess p.m.toList x.m.toList))=true:=by rw[Sk,hlp];rfl
      refine fa ?_;refine rn ?_;refine Tb ?_;intro b4 w4 hh ws hh
      refine Cd [] [] zL1 33 zL0 [(32,53),(31,52),(30,51),(29,50),(28,49),(27,48),(26,47),(25,46),(24,45),(23,44),(22,43),(21,42),(20,41),(19,40),(18,39),(17,38),(16,37),(15,36),(14,35),(13,34),(12,33),(11,32),(10,31),(9,30),(8,29),(7,28),(6,27),(5,26),(4,25),(3,24),(2,23),(1,22),(0,21)] hh mixed T' Od rfl (by repeat (first|exact Eb|refine Ya ?_|refine Db ?_)) ?_
      refine Bd ?_;refine ze 0 ?_;refine Bd ?_;refine ze 1 ?_;refine dC (λ_ hj=>hmay _) ?_;refine TO ?_;refine pr ?_;refine dG (Bd ?_);refine dG (Yd 0 [_,_,_] ?_);refine NG ?_;refine dG (uQ ?_);refine mW ?_;refine pr ?_;refine dG (Bd ?_);refine dG (Yd 0 [_,_,_] ?_);refine vM ?_;refine dG (Bd ?_);refine dG (Yd 0 [_,_,_] ?_);refine QT ?_;refine mW ?_;refine pr ?_;refine dG (jd ?_);refine dG (acj ?_);refine dG (pr ?_);refine dG (Bd ?_);refine dG (ze 1 ?_);refine dG (jd ?_);refine dG (Xu ?_);refine dG (lj (q) ?_);refine dG (ru ?_);refine dG (Vo (λ_ hj=>((hr.ext hj.hp.below).recAt TR.len hp).cell (i:=0) rfl) ?_);refine dG (Bd ?_);refine dG (ze 0 ?_);refine xa ?_;intro f W hJ hV _;have hb_8:=hJ.bl;obtain⟨v53,v52,v51,v50,v49,v48,v47,v46,v45,v44,v43,v42,v41,v40,v39,v38,v37,v36,v35,v34,v33,v32,v31,v30,v29,v28,v27,v26,v25,v24,v23,v22,v21,_⟩:=hV;replace hh:=hJ.hp;refine ML ?_;dsimp only[Cb];clear hJ;refine gT ?_;refine Rz rfl rfl U' ?_;refine gT ?_
      (first|refine pkT ?_|refine pkF ?_)
      refine fa ?_;rw[hge];refine fa ?_;exact⟨rfl,hh.below⟩
     |true=>
      have hge:(!(Op.bytesLess p.m.toList x.m.toList))=false:=by rw[Sk,hlp];rfl
      refine fa ?_;refine rn ?_;refine Tb ?_;intro b4 w4 hh ws hh
      refine Cd [] [] zL1 33 zL0 [(32,53),(31,52),(30,51),(29,50),(28,49),(27,48),(26,47),(25,46),(24,45),(23,44),(22,43),(21,42),(20,41),(19,40),(18,39),(17,38),(16,37),(15,36),(14,35),(13,34),(12,33),(11,32),(10,31),(9,30),(8,29),(7,28),(6,27),(5,26),(4,25),(3,24),(2,23),(1,22),(0,21)] hh mixed T' Od rfl (by repeat (first|exact Eb|refine Ya ?_|refine Db ?_)) ?_
      refine Bd ?_;refine ze 0 ?_;refine Bd ?_;refine ze 1 ?_;refine dC (λ_ hj=>hmay _) ?_;refine TO ?_;refine pr ?_;refine dG (Bd ?_);refine dG (Yd 0 [_,_,_] ?_);refine NG ?_;refine dG (uQ ?_);refine mW ?_;refine pr ?_;refine dG (Bd ?_);refine dG (Yd 0 [_,_,_] ?_);refine vM ?_;refine dG (Bd ?_);refine dG (Yd 0 [_,_,_] ?_);refine QT ?_;refine mW ?_;refine pr ?_;refine dG (jd ?_);refine dG (acj ?_);refine dG (pr ?_);refine dG (Bd ?_);refine dG (ze 1 ?_);refine dG (jd ?_);refine dG (Xu ?_);refine dG (lj (q) ?_);refine dG (ru ?_);refine dG (Vo (λ_ hj=>((hr.ext hj.hp.below).recAt TR.len hp).cell (i:=0) rfl) ?_);refine dG (Bd ?_);refine dG (ze 0 ?_);refine xa ?_;intro f W hJ hV _;have hb_8:=hJ.bl;obtain⟨v53,v52,v51,v50,v49,v48,v47,v46,v45,v44,v43,v42,v41,v40,v39,v38,v37,v36,v35,v34,v33,v32,v31,v30,v29,v28,v27,v26,v25,v24,v23,v22,v21,_⟩:=hV;replace hh:=hJ.hp;refine ML ?_;dsimp only[Cb];clear hJ;refine gT ?_;refine Rz rfl rfl U' ?_;refine gT ?_
      (first|refine pkT ?_|refine pkF ?_)
      refine fa ?_;rw[hge];refine fa ?_;replace hh:=hh.sub (p' _ (I' _ I_));refine⟨⟨i+1,Z',rfl,hall2, ?_,hh⟩,by show n-(i+1)<n-i;omega, ?_⟩
      .rw[hq,oa hp] at hris;rw[oa hx,hq,oa hp,l_];show Js (ts.take q++[p,x])=true;rw[eA,hris,hlp];rfl
      exact Sc
    rw[hbad (aC hx (by unfold rp Wp;rw[hm,O_ hz,x6.2 (λh=>hnf ((lv x.c).1 h))];rfl))];refine fa ?_;refine rn ?_;refine Tb ?_;intro b4 w4 hh ws hh
    refine Cd [] [] zL1 33 zL0 [(32,53),(31,52),(30,51),(29,50),(28,49),(27,48),(26,47),(25,46),(24,45),(23,44),(22,43),(21,42),(20,41),(19,40),(18,39),(17,38),(16,37),(15,36),(14,35),(13,34),(12,33),(11,32),(10,31),(9,30),(8,29),(7,28),(6,27),(5,26),(4,25),(3,24),(2,23),(1,22),(0,21)] hh mixed T' Od rfl (by repeat (first|exact Eb|refine Ya ?_|refine Db ?_)) ?_
    refine Bd ?_;refine ze 0 ?_;refine Bd ?_;refine ze 1 ?_;refine dC (λ_ hj=>hmay _) ?_;refine TO ?_;refine pr ?_;refine dG (Bd ?_);refine dG (Yd 0 [_,_,_] ?_);refine NG ?_;refine dG (uQ ?_);refine mW ?_;refine pr ?_;refine dG (Bd ?_);refine dG (Yd 0 [_,_,_] ?_);refine vM ?_;refine dG (Bd ?_);refine dG (Yd 0 [_,_,_] ?_);refine vD (i:=18) rfl (λρ1 w1 hj hR=>(show ρ1 33=Value.bool _ from hR.2.2.1)) (λρ1 w1 hj hR=>OK (show ρ1 36=Value.agg (List.toArray _) from hR.1) (show ρ1 38=Value.agg (List.toArray _) from hR.2.1) (by assumption)) ?_;refine mW ?_;exact zW8
  rw[W_ Z'] at hall hris;rw[show Jf v ts=0 by unfold Jf okB;rw[L' (by rw[hf];decide),L' Z',hall,hris];rfl];refine fa ?_;exact⟨rfl,hh.below⟩
def re(v:Int)(t:TR):Bool:=Be t.m.data.toList && decide ((t.m.size:Int)=v)
def BF(z:TR)(v:Int)(b:Nat)(w:World)(hp:w.cell? ⟨b,0,none⟩=some (.int .i64 v))(hz:z.m.size<=100000):Calls prog 205 #[.agg #[.string z.m,.bool z.c.neg,.string z.c.Qa,.int .i64 z.c.e],.pointer (some ⟨b,0,none⟩)] w λr w'=>r=.returned (.bool (!re v z))/\Below w.heap.size w w':=by
 have hh:=Hp.start w;have hmay:=λw1=>Uk z.m v w1 Z';unfold re;refine da (N:=9) (l:=[.agg #[.string z.m,.bool z.c.neg,.string z.c.Qa,.int .i64 z.c.e],.pointer (some ⟨b,0,none⟩)]) func205 rfl rfl (by simp) ?_;refine Lb ?_;intro b2 w2 hh;refine TG ?_;refine Oa hh (hmay _) rfl ?_;intro w7 hh
 cases Be z.m.data.toList && decide ((z.m.size:Int)=v) with
 |false=>
  refine fa ?_;exact⟨rfl,hh.below⟩
 |true=>
  refine fa ?_;exact⟨rfl,hh.below⟩
def iz(A:Option Addr)(n c:Nat)(l:List TR)(v:Int)(b:Nat)(w:World)(hS:Sl w A n 4 (na TR.cells l))(hn:n<=1000000)(hp:w.cell? ⟨b,0,none⟩=some (.int .i64 v))(hz:∀t∈l,t.m.size<=100000):Calls prog 204 #[.slice A n c,.func (.func 205) #[] #[.pointer (some ⟨b,0,none⟩)]] w λr w'=>r=.returned (.bool (l.any λt=> !re v t))/\Below w.heap.size w w':=
 WH A n c l 205 [.pointer (some ⟨b,0,none⟩)] (λt=> !re v t) w hS hn λz w1 hz2 hb=>BF z v b w1 (vc hb hp) (hz z hz2)
def Ii(v:Int)(l:List TR):Int:=if Wg v=false\/(l.any λt=> !re v t)=true then 1 else if 65536<l.length then 3 else Pf l
def Cn(v:Int)(A:Option Addr)(n c:Nat)(l:List TR)(k:Nat)(w:World)(hT:Xc w)(hS:Sl w A n 4 (na TR.cells l))(hn:n<=1000000)(hk:k<=2999980)(ho:zg k l)(hz:∀t∈l,t.m.size<=100000):Calls prog 129 #[.int .i64 v,.slice A n c] w λr w'=>∃g:PX,tg (Ii v l) v (ua l) g/\r=.returned (.tuple #[.agg #[.int .i64 g.v,.slice g.A g.n g.c],.int .i64 (Ii v l)])/\Hp w [g.row] w':=by
 have hh:=Hp.start w;have hln:=hS.Fa TR.len U';have hfw:=λw1=>Wn v w1;have han:=λb w1 hb hp=>iz A n c l v b w1 (hS.ext hb) hn hp hz
 cases hf:Wg v with
 |false=>
  rw[hf] at hfw;rw[show Ii v l=1 by unfold Ii;rw[J' (.inl hf)]];refine pU ?_;refine Tb ?_;intro b2 w2 hh b4 w4 hh;refine Oa hh (hfw _) rfl ?_;intro w7 hh;refine Lb ?_;intro ws hh;exact iY
 |true=>
  rw[hf] at hfw
  cases ha:l.any λt=> !re v t with
  |true=>
   rw[ha] at han;rw[show Ii v l=1 by unfold Ii;rw[J' (.inr ha)]];exact aau
  |false=>
   rw[ha] at han;have e1:Ii v l=if 65536<l.length then 3 else Pf l:=by unfold Ii;rw[L' (by rw[hf,ha];decide)]
   by_cases h6:65536<n
   .rw[e1,J' Z'];exact aau
   rw[e1,L' Z'];refine pU ?_;refine Tb ?_;intro b2 w2 hh b4 w4 hh;refine Oa hh (hfw _) rfl ?_;intro w7 hh;refine fa ?_;refine Pu ?_;refine fa ?_;refine Oa hh (han _ _ hh.below (hh.Uf (i:=1) (o:=0) rfl rfl)) rfl ?_;intro w12 hh;refine fa ?_;refine al [] [0,0,2,7,15,15,63,127] 3 [[(2,none)],[(1,none)],[(20,some 1)]] [(2,21),(1,20),(0,19)] [([],4,[(2,21),(1,20),(0,19)])] hh mixed T' T' U' ?_;refine ze 1 ?_;refine Ee ?_;refine Va (i:=2) (YD hh.sz 72 n 4 (na TR.cells l)) (YD.ext) ?_ ?_
   .intro ρ1 w1 hj hR;exact Qb rfl (pb ja.out (Ga (show ρ1 20=Value.slice _ _ _ from hR.1) Gb)) (Vl A n c l w1 (hS.ext hj.hp.below) hn) (λ_ _ ⟨A,c,hq,ho,hb⟩=>⟨_,hq,hb,A,c,rfl,Rp ho hj.bl.size⟩)
   refine xa ?_;intro p_ hp_;simp only[T_,O9,or_false] at hp_;obtain rfl:=hp_
   intro f W hJ hV;have hb_5:=hJ.bl;obtain⟨v21,v20,v19,_⟩:=hV;simp only[Gf];have e19:f 0=_:=v19;rw[e19];have e20:f 1=_:=v20;rw[e20];obtain⟨A21,c21,e21,o21⟩:YD _ _ _ _ _ (f 2) W:=v21;rw[e21];replace hh:=JJ.rS hh hJ.hp o21;clear o21;clear e19 e20 e21 hJ;refine qa (vk v A21 n c21 l k _ hT hh hln Z' Z' ho) ja.out rfl U' ?_;rintro e_ w22 ⟨g,og,rfl,hh⟩;refine⟨_,rfl, ?_⟩;refine Zc ?_;refine Rb (i:=4) (by repeat (first|exact Eb|refine Ya ?_|refine Db ?_|refine Bb ?_)) rfl T' T' T' (λ_=>Le (show _=Value.tuple (List.toArray _) from rfl) rfl) U' ?_;refine Rb (i:=5) (by repeat (first|exact Eb|refine Ya ?_|refine Db ?_|refine Bb ?_)) rfl T' T' T' (λ_=>Le (show _=Value.tuple (List.toArray _) from rfl) rfl) U' ?_;refine Xg 6 U' T' U' T' T' ?_;exact MQ
def PX.cells(g:PX):List Value:=[.int .i64 g.v,.slice g.A g.n g.c]
def PX.len(g:PX):(PX.cells g).length=2:=rfl
structure PX.fh(g:PX)(k:Nat):Prop where
 n:g.n<=1000000
 cap:g.n<=g.c
 ok:zg k g.ts
 sz:∀t∈g.ts,t.m.size<=100000
def PX.e(g:PX):Int:=Jf g.v g.ts
def rk(g:PX)(k:Nat)(w:World)(hT:Xc w)(h:g.at_ w)(hl:g.fh k):Calls prog 83 #[.agg #[.int .i64 g.v,.slice g.A g.n g.c]] w λr w'=>r=.returned (.int .i64 g.e)/\Below w.heap.size w w':=
 wB g.v g.A g.n g.c g.ts w hT h hl.n λt ht=>⟨(hl.ok t ht).1,hl.sz t ht⟩
def Cz(ps:List PX):Bool:=ps.any λg=>decide (g.v≠(ps.map PX.v).headD 0)
def Xf(ps:List PX):Int:=match ps.find? (λg=>decide (g.e≠0)) with|some g=>g.e|none=>if ps.length=0\/Cz ps=true then 1 else 0
def cI(L:Option Addr)(n c:Nat)(ps:List PX)(f:PX)(p:Addr)(w:World)(hL:Sl w L n 2 (na PX.cells ps))(hp:w.cell? p=some (.slice L n c))(hn:0<n):Calls prog 208 #[.agg #[.int .i64 f.v,.slice f.A f.n f.c],.pointer (some p)] w λr w'=>r=.returned (.bool (decide (f.v≠(ps.map PX.v).headD 0)))/\Below w.heap.size w w':=by
 have hh:=Hp.start w;have hln:=hL.Fa PX.len U';obtain⟨g,ps,rfl⟩:∃g l,ps=g::l:=by
  cases ps with
  |nil=>exact absurd hln (by show ¬0=n;omega)
  |cons g l=>exact⟨g,l,rfl⟩
 obtain⟨ad,rfl,hr⟩:=hL.at_ hn;have hd:(((g::ps).map PX.v).headD 0)=g.v:=rfl;rw[hd];have h0:(g::ps)[0]?=some g:=rfl;by_cases hg:f.v=g.v
 .refine da (N:=11) (l:=[.agg #[.int .i64 f.v,.slice f.A f.n f.c],.pointer (some p)]) func208 rfl rfl (by simp) ?_;refine Lb ?_;intro b2 w2 hh;refine aaJ ?_;refine Bd ?_;refine ze 0 ?_;refine LG ?_;refine Wa (i:=3) (λρ1 w1 hj hR=>Ye mb.out ya.size (show ρ1 6=Value.slice _ _ _ from hR.1) rfl Z' Z') ?_;refine ru ?_;refine Vo (λ_ hj=>vc hj.hp.below (((hr.recAt PX.len h0)) 0 _ rfl)) ?_;refine xa ?_;intro f W hJ hV;have hb_1:=hJ.bl;obtain⟨v9,v8,v7,v6,v5,v4,_⟩:=hV;replace hh:=hJ.hp;refine Ea (Na (aa v9 (aa v8 (aa v7 (aa v6 (aa v5 (aa v4 Da))))))) ?_;dsimp only[Cb];clear hJ;exact JX
 refine da (N:=11) (l:=[.agg #[.int .i64 f.v,.slice f.A f.n f.c],.pointer (some p)]) func208 rfl rfl (by simp) ?_;refine Lb ?_;intro b2 w2 hh;refine aaJ ?_;refine Bd ?_;refine ze 0 ?_;refine LG ?_;refine Wa (i:=3) (λρ1 w1 hj hR=>Ye mb.out ya.size (show ρ1 6=Value.slice _ _ _ from hR.1) rfl Z' Z') ?_;refine ru ?_;refine Vo (λ_ hj=>vc hj.hp.below (((hr.recAt PX.len h0)) 0 _ rfl)) ?_;refine xa ?_;intro f W hJ hV;have hb_1:=hJ.bl;obtain⟨v9,v8,v7,v6,v5,v4,_⟩:=hV;replace hh:=hJ.hp;refine Ea (Na (aa v9 (aa v8 (aa v7 (aa v6 (aa v5 (aa v4 Da))))))) ?_;dsimp only[Cb];clear hJ;exact YV
def iI(A:Option Addr)(n c:Nat)(l:List PX)(g:FuncId)(cap:List Value)(p:PX->Bool)(w:World)(hS:Sl w A n 2 (na PX.cells l))(hn:n<=1000000)[ja prog g] (hg:∀(z:PX)(w1:World),z∈l->Below w.heap.size w w1->Calls prog g (.agg #[.int .i64 z.v,.slice z.A z.n z.c]::cap).toArray w1 λr w'=>r=.returned (.bool (p z))/\Below w1.heap.size w1 w'):Calls prog 263 #[.slice A n c,.func (.func g) #[] cap.toArray] w λr w'=>∃v,r=.returned (.int .i64 v)/\(0<=v↔l.any p=true)/\Below w.heap.size w w':=by
 have hh:=Hp.start w;have hln:=hS.Fa PX.len U';refine da (N:=19) (l:=[.slice A n c,.func (.func g) #[] cap.toArray]) func263 rfl rfl (by simp) ?_;refine fa ?_;refine Ba [4,5,8,9,10,11,12,13,14,15,16,17,18] 8 (λv w'=>∃i:Nat,i<=n/\v=.int .i64 i/\(l.take i).any p=false/\Hp w [] w') (λv _=>n-(intOf v).toNat) ?_ ?_
 .exact⟨0,D' _,rfl,rfl,hh⟩
 clear hh;rintro ρ' v w' ⟨i,hi,rfl,hall,hh⟩;by_cases hlt:i<n
 .obtain⟨z,hz⟩:=ea (l:=l) (k:=i) Z';obtain⟨ad,rfl,hr⟩:=hS.at_ Z';have hc:=λw1=>hg z w1 (G' hz)
  cases gz:p z with
  |true=>
   rw[gz] at hc;refine fa ?_;refine wb (vs:=[_,_]) ya.out rfl ((hr.ext hh.below).recAt PX.len hz) rfl U' ?_;exact kU
  |false=>
   rw[gz] at hc;refine fa ?_;refine wb (vs:=[_,_]) ya.out rfl ((hr.ext hh.below).recAt PX.len hz) rfl U' ?_;exact Ov
 exact pT
def Ry(A:Option Addr)(n c:Nat)(l:List PX)(g:FuncId)(cap:List Value)(p:PX->Bool)(w:World)(hS:Sl w A n 2 (na PX.cells l))(hn:n<=1000000)[ja prog g] (hg:∀(z:PX)(w1:World),z∈l->Below w.heap.size w w1->Calls prog g (.agg #[.int .i64 z.v,.slice z.A z.n z.c]::cap).toArray w1 λr w'=>r=.returned (.bool (p z))/\Below w1.heap.size w1 w'):Calls prog 207 #[.slice A n c,.func (.func g) #[] cap.toArray] w λr w'=>r=.returned (.bool (l.any p))/\Below w.heap.size w w':=by
 have hh:=Hp.start w;refine da (N:=9) (l:=[.slice A n c,.func (.func g) #[] cap.toArray]) func207 rfl rfl (by simp) ?_;refine fa ?_;refine qa (iI A n c l g cap p _ (hS.ext hh.below) hn hg) ja.out rfl U' ?_;exact YT
def Au(L:Option Addr)(n c:Nat)(ps:List PX)(k:Nat)(w:World)(hT:Xc w)(hL:Sl w L n 2 (na PX.cells ps))(hn:n<=1000000)(hf:∀g∈ps,g.at_ w)(hl:∀g∈ps,g.fh k):Calls prog 131 #[.slice L n c] w λr w'=>r=.returned (.int .i64 (Xf ps))/\Below w.heap.size w w':=by
 have hh:=Hp.start w;have hln:=hL.Fa PX.len U';refine da (N:=26) (l:=[.slice L n c]) func131 rfl rfl (by simp) ?_;refine Lb ?_;intro b1 w1 hh;refine Ba [2,4,5,8,9,10,11,12,13,14,15,16,17] 8 (λv w'=>∃i:Nat,i<=n/\v=.int .i64 i/\(ps.take i).any (λg=>decide (g.e≠0))=false/\Hp w [.blk b1 47 [.slice L n c] (0,0)] w') (λv _=>n-(intOf v).toNat) ?_ ?_
 .exact⟨0,D' _,rfl,rfl,hh⟩
 clear hh;rintro ρ' v w' ⟨i,hi,rfl,hall,hh⟩;by_cases hlt:i<n
 .obtain⟨g,hx⟩:=ea (l:=ps) (k:=i) Z';have hmem:=G' hx;have hc:=λw1 hT1 hb=>rk g k w1 hT1 ((hf g hmem).ext hb) (hl g hmem);obtain⟨ad,rfl,hr⟩:=hL.at_ Z';by_cases he:g.e=0
  .refine fa ?_;refine eF ?_;exact aaQ
  refine fa ?_;refine eF ?_;refine Tb ?_;intro b4 w4 hh ws hh;refine Jy ?_;intro w13 hh;refine fa ?_;refine⟨?_,hh.below⟩;unfold Xf;rw[Ht hall hx (N_ he)]
 rw[W_ Z'] at hall;have hlk:Xf ps=if ps.length=0\/Cz ps=true then 1 else 0:=by unfold Xf;rw[Nh hall]
 rw[hlk];by_cases h0:n=0
 .refine fa ?_;exact⟨by rw[J' (.inl Z')],hh.below⟩
 have hcell:w'.cell? ⟨b1,0,none⟩=some (.slice L n c):=hh.Uf (i:=0) rfl rfl;have ho:=λw1 hb=>Ry L n c ps 208 [.pointer (some ⟨b1,0,none⟩)] (λg=>decide (g.v≠(ps.map PX.v).headD 0)) w1 (hL.ext (hh.below.trans (hb.mono hh.below.size))) hn (λz w2 hz hb2=>cI L n c ps z ⟨b1,0,none⟩ w2 ((hL.ext (hh.below.trans (hb.mono hh.below.size))).ext hb2) (vc hb2 (vc hb hcell)) Z')
 cases hod:Cz ps with
 |true=>
  have hod2:ps.any (λg=>decide (g.v≠(ps.map PX.v).headD 0))=true:=hod;exact ac7
 |false=>
  have hod2:ps.any (λg=>decide (g.v≠(ps.map PX.v).headD 0))=false:=hod;exact aeU
set_option maxRecDepth 100000 in
def WI{H:Type}{enc:TypeId×Value->H}{sp:Nat->Bool}{held:Bool}{x:DataW H×List MemPlace}(h:DataW.trod enc prog W base sp held fuel 72 cs=some x):
  ∃t:TR,cs=t.cells/\True:=by
 have c0:prog.cellsOf 72=4:=by kernel_rfl
 have c1:prog.cellsOf 9=1:=by kernel_rfl
 have c2:prog.cellsOf 30=3:=by kernel_rfl
 obtain⟨y0,y1,n,_,hl,h0,h1⟩:=trod_struct2 Tryz.underlying72 h;obtain⟨s,e0,_,_⟩:=DataW.trod_string Tryz.underlying9 h0;obtain⟨a,e1,_⟩:=Eo h1;rw[c0] at hl
 match cs,hl with
 |[x0,x1,x2,x3],_=>
  simp only[c1,c2] at e0 e1;unfold NR.cells at e1;simp at e0 e1;obtain⟨e1,e2,e3⟩:=e1;subst e0 e1 e2 e3;exact⟨⟨s,a⟩,rfl,trivial⟩
set_option maxRecDepth 100000 in
def xJ{H:Type}{enc:TypeId×Value->H}{sp:Nat->Bool}{held:Bool}{x:DataW H×List MemPlace}(h:DataW.trod enc prog W base sp held fuel 24 cs=some x):
  ∃g:PX,cs=g.cells/\(g.at_ W/\g.n<=g.c):=by
 have c0:prog.cellsOf 24=2:=by kernel_rfl
 have c1:prog.cellsOf 3=1:=by kernel_rfl
 have c2:prog.cellsOf 22=1:=by kernel_rfl
 obtain⟨y0,y1,n,_,hl,h0,h1⟩:=trod_struct2 Tryz.underlying24 h;obtain⟨z,e0,_,_⟩:=DataW.trod_int Tryz.underlying3 h0;obtain⟨B,m,b,k,e1,s1,_⟩:=VH TR.len U' Tryz.underlying22 T' (λ_ _ _ h=>WI h) h1;rw[e1] at h1;have hroom:=HO Tryz.underlying22 h1;rw[c0] at hl
 match cs,hl with
 |[x0,x1],_=>
  simp only[c1,c2] at e0 e1;simp at e0 e1;subst e0 e1;exact⟨⟨z,B,m,b,k⟩,rfl,s1,hroom⟩
set_option maxRecDepth 100000 in
def QJ{H:Type}{enc:TypeId×Value->H}{r:Reach}{sp:Nat->Bool}{held:Bool}{v:Value}{d:DataW H}{ps:List MemPlace} (hval:Value.okWide prog W r b0 47 v)(hd:DataW.Trod enc prog W base sp held 47 v d ps):∃(A:Option Addr)(n c:Nat)(l:List PX),v=.slice A n c/\Sl W A n 2 (na PX.cells l)/\∀g∈l,g.at_ W/\g.n<=g.c:=
 nt PX.len U' Tryz.underlying47 T' (λ_ _ _ h=>xJ h) hval hd
structure SR where
 lo:NR
 hi:NR
def SR.cells(s:SR):List Value:=[.bool s.lo.neg,.string s.lo.Qa,.int .i64 s.lo.e,.bool s.hi.neg,.string s.hi.Qa,.int .i64 s.hi.e]
def SR.len(s:SR):(SR.cells s).length=6:=rfl
def SR.one(s:SR):(SR.cells s).all Value.oneCell'=true:=rfl
def VQ(x y:Dyadic):Dyadic:=if y<x then y else x
def nT(x y:Dyadic):Dyadic:=if x<y then y else x
def hU(x y:Dyadic):wg (λx y=>decide (x<y)) [x,y]=VQ x y:=by simp[wg,VQ]
def DS(x y:Dyadic):wg (λx y=>decide (y<x)) [x,y]=nT x y:=by simp[wg,nT]
def SR.L(s:SR):Dyadic:=VQ s.lo.ma s.hi.ma
def SR.H(s:SR):Dyadic:=nT s.lo.ma s.hi.ma
def SR.f(s:SR):SR:=⟨nR s.L,nR s.H⟩
def SR.ok(s:SR):Prop:=s.lo.ok/\s.hi.ok
def SR.has(s:SR)(x:Dyadic):Bool:=decide (¬x<s.L/\¬s.H<x)
def SR.wid(s:SR):Dyadic:=s.H-s.L
def SR.Ch(s:SR):Dyadic:=(s.lo.ma+s.hi.ma)*Je (-1)
def acJ(x y:Dyadic):VQ x y=x\/VQ x y=y:=by unfold VQ;split<;>simp
def abd(x y:Dyadic):nT x y=x\/nT x y=y:=by unfold nT;split<;>simp
def fS(x y:Dyadic):¬nT x y<VQ x y:=by unfold nT VQ;split<;>split<;>grind
structure tm(k:Nat)(a:NR):Prop where
 ok:a.ok
 sz:Sz k a.ma
def SR.fin(k:Nat)(s:SR):Prop:=tm k s.lo/\tm k s.hi
def tm.of{x:Dyadic}(h:Sz k x)(hk:k<=3000000):tm k (nR x):=⟨h.ok Z',by rw[db];exact h⟩
def SR.szL{s:SR}(h:s.fin k):Sz k s.L:=by
 unfold SR.L;obtain e|e:=acJ s.lo.ma s.hi.ma<;>rw[e]
 .exact h.1.sz
 exact h.2.sz
def SR.szH{s:SR}(h:s.fin k):Sz k s.H:=by
 unfold SR.H;obtain e|e:=abd s.lo.ma s.hi.ma<;>rw[e]
 .exact h.1.sz
 exact h.2.sz
def SR.gp{s:SR}(h:s.fin k)(hk:k<=3000000):s.f.fin k:=⟨tm.of (SR.szL h) hk,tm.of (SR.szH h) hk⟩
def fK(L:Option Addr)(n c:Nat)(l:List NR)(w:World)(hT:Xc w)(hS:Sl w L n 3 (na NR.cells l))(hl:∀a∈l,a.ok)(hn:n<=1000000):Calls prog 95 #[.slice L n c] w λr w'=>r=.returned (.agg (SR.cells ⟨nR (wg (λx y=>decide (x<y)) (l.map NR.ma)),nR (wg (λx y=>decide (y<x)) (l.map NR.ma))⟩).toArray)/\Below w.heap.size w w':=by
 have hh:=Hp.start w;refine da (N:=8) (l:=[.slice L n c]) func95 rfl rfl (by simp) ?_;refine Lb ?_;intro b2 w2 hh;refine Oa hh (aK L n c l _ (hT.hp hh) (hS.ext hh.below) hl hn) rfl ?_;intro w4 hh;refine mL ?_;refine Oa hh (ux L n c l _ (hT.hp hh) (hS.ext hh.below) hl hn) rfl ?_;intro w6 hh;refine Lb ?_;intro ws hh;exact KY
def qx(s:SR)(w:World)(hT:Xc w)(hs:s.ok):Calls prog 126 #[.agg s.cells.toArray] w λr w'=>r=.returned (.agg s.f.cells.toArray)/\Below w.heap.size w w':=by
 have hh:=Hp.start w;have hc:=λL c w1 hT1 hS1=>fK L 2 c [s.lo,s.hi] w1 hT1 hS1 (by simpa using show s.lo.ok/\s.hi.ok from hs) Z';simp only[o_,G9,hU,DS] at hc;refine da (N:=10) (l:=[.agg s.cells.toArray]) func126 rfl rfl (by simp) ?_;refine Tb ?_;intro b1 w1 hh b2 w2 hh;refine Lr ?_;intro b7 w7 hh;refine Oa hh (hc _ _ _ (hT.hp hh) (hh.ra (i:=0) rfl)) rfl ?_;intro w8 hh;exact ac3
def OB(s:SR)(w:World)(hT:Xc w)(hs:s.ok):Calls prog 136 #[.agg s.cells.toArray] w λr w'=>r=.returned (.agg s.f.cells.toArray)/\Below w.heap.size w w':=by
 have hh:=Hp.start w;refine da (N:=6) (l:=[.agg s.cells.toArray]) func136 rfl rfl (by simp) ?_;refine Tb ?_;intro b1 w1 hh b2 w2 hh;refine Oa hh (qx s _ (hT.hp hh) hs) rfl ?_;intro w4 hh;refine Lb ?_;intro ws hh;exact KY
def yU(x y:Dyadic):(Yg x y<=0)↔¬y<x:=by
 obtain h|h|h:=qR x y
 .rw[fq h];exact⟨λ_=>by grind,λ_=>by omega⟩
 .rw[h,Lo];exact⟨λ_=>by grind,λ_=>by omega⟩
 rw[jq h];exact⟨λh2=>by omega,λh2=>absurd h h2⟩
def UE(s:SR)(a:NR)(k:Nat)(w:World)(hT:Xc w)(hs:s.fin k)(ha:a.ok)(hk:k<=3000000):Calls prog 78 #[.agg s.cells.toArray,.agg #[.bool a.neg,.string a.Qa,.int .i64 a.e]] w λr w'=>r=.returned (.bool (s.has a.ma))/\Below w.heap.size w w':=by
 have hh:=Hp.start w;have hf:=SR.gp hs hk;have h1:=λw1 hT1=>xh (nR s.L) a w1 hT1 hf.1.ok ha;have h2:=λw1 hT1=>xh a (nR s.H) w1 hT1 ha hf.2.ok;simp only[db] at h1 h2;have e1:=yU s.L a.ma;have e2:=yU a.ma s.H;generalize Yg s.L a.ma=c1 at*;generalize Yg a.ma s.H=c2 at*;unfold SR.has;by_cases g1:c1<=0
 .by_cases g2:c2<=0
  .refine OS ?_;refine Tb ?_;intro b2 w2 hh b3 w3 hh;refine KM ?_;intro w7 hh;refine Tb ?_;intro b5 w5 hh ws hh;refine Oa hh (h1 _ (hT.hp hh)) rfl ?_;intro w12 hh;refine fa ?_;refine Oa hh (h2 _ (hT.hp hh)) rfl ?_;intro w19 hh;refine fa ?_;exact⟨by rw[N_ ⟨e1.1 g1,e2.1 g2⟩],hh.below⟩
  refine OS ?_;refine Tb ?_;intro b2 w2 hh b3 w3 hh;refine KM ?_;intro w7 hh;refine Tb ?_;intro b5 w5 hh ws hh;refine Oa hh (h1 _ (hT.hp hh)) rfl ?_;intro w12 hh;refine fa ?_;refine Oa hh (h2 _ (hT.hp hh)) rfl ?_;intro w19 hh;refine fa ?_;exact⟨by rw[O_ λh=>g2 (e2.2 h.2)],hh.below⟩
 refine OS ?_;refine Tb ?_;intro b2 w2 hh b3 w3 hh;refine KM ?_;intro w7 hh;refine Tb ?_;intro b5 w5 hh ws hh;refine Oa hh (h1 _ (hT.hp hh)) rfl ?_;intro w12 hh;refine fa ?_;exact⟨by rw[O_ λh=>g1 (e1.2 h.1)],hh.below⟩
def Ik(s:SR)(k:Nat)(w:World)(hT:Xc w)(hs:s.fin k)(hk:k<=3000000):Calls prog 65 #[.agg s.cells.toArray] w λr w'=>r=.returned (.agg #[.bool (nR s.wid).neg,.string (nR s.wid).Qa,.int .i64 (nR s.wid).e])/\Below w.heap.size w w':=by
 have hh:=Hp.start w;have hf:=SR.gp hs hk;have hc:=λw1 hT1=>Sp (nR s.H) (nR s.L) w1 hT1 hf.2.ok hf.1.ok k hf.2.sz hf.1.sz Z';simp only[db] at hc;refine da (N:=13) (l:=[.agg s.cells.toArray]) func65 rfl rfl (by simp) ?_;refine Tb ?_;intro b1 w1 hh b2 w2 hh;refine KM ?_;intro w5 hh;refine Tb ?_;intro b3 w3 hh ws hh;refine Oa hh (hc _ (hT.hp hh)) rfl ?_;intro w12 hh;exact EN
def eu(s:SR)(k:Nat)(w:World)(hT:Xc w)(hs:s.fin k)(hk:k<=3000000):Calls prog 146 #[.agg s.cells.toArray] w λr w'=>r=.returned (.agg #[.bool (nR s.Ch).neg,.string (nR s.Ch).Qa,.int .i64 (nR s.Ch).e])/\Below w.heap.size w w':=by
 have hh:=Hp.start w;have hc:=λL c w1 hT1 hS1=>Qf L 2 c [s.lo,s.hi] w1 hT1 hS1 (by simpa using And.intro hs.1.ok hs.2.ok) k (by simpa using And.intro hs.1.sz hs.2.sz) Z';simp only[o_,G9,ni] at hc;have ho:=(hs.1.sz.add hs.2.sz).ok Z';have hsh:=λw1 hT1=>Fq (nR (s.lo.ma+s.hi.ma)) (-1) w1 hT1 (by have:=ho.1;omega) (by have:=ho.2;omega) (by have:=ho.2;omega) Z' Z';rw[db] at hsh;refine da (N:=10) (l:=[.agg s.cells.toArray]) func146 rfl rfl (by simp) ?_;refine Tb ?_;intro b1 w1 hh b2 w2 hh;refine Lr ?_;intro b7 w7 hh;refine Oa hh (hc _ _ _ (hT.hp hh) (hh.ra (i:=0) rfl)) rfl ?_;intro w8 hh;refine Oa hh (hsh _ (hT.hp hh)) rfl ?_;intro w9 hh;exact EN
set_option maxRecDepth 100000 in
def KI{H:Type}{enc:TypeId×Value->H}{sp:Nat->Bool}{held:Bool}{x:DataW H×List MemPlace}(h:DataW.trod enc prog W base sp held fuel 36 cs=some x):
  ∃a:SR,cs=a.cells/\True:=by
 have c0:prog.cellsOf 36=6:=by kernel_rfl
 have c1:prog.cellsOf 30=3:=by kernel_rfl
 obtain⟨y0,y1,n,_,hl,h0,h1⟩:=trod_struct2 Tryz.underlying36 h;obtain⟨a,e0,_⟩:=Eo h0;obtain⟨b,e1,_⟩:=Eo h1;rw[c0] at hl
 match cs,hl with
 |[x0,x1,x2,x3,x4,x5],_=>
  simp only[c1] at e0 e1;simp[NR.cells] at e0 e1;obtain⟨rfl,rfl,rfl⟩:=e0;obtain⟨rfl,rfl,rfl⟩:=e1;exact⟨⟨a,b⟩,rfl,trivial⟩
set_option maxRecDepth 100000 in
def eQ{H:Type}{enc:TypeId×Value->H}{r:Reach}{sp:Nat->Bool}{held:Bool}{v:Value}{d:DataW H}{ps:List MemPlace} (hval:Value.okWide prog W r b0 26 v)(hd:DataW.Trod enc prog W base sp held 26 v d ps):∃(A:Option Addr)(n c:Nat)(l:List SR),v=.slice A n c/\Sl W A n 6 (na SR.cells l)/\∀a∈l,True:=
 nt SR.len U' Tryz.underlying26 T' (λ_ _ _ h=>KI h) hval hd
def sm{α:Type}:List α->(α->Dyadic)->Dyadic
 |[],_=>0
 |a::l,f=>f a+sm l f
def yo(l m:List α)(f:α->Dyadic):sm (l++m) f=sm l f+sm m f:=by
 induction l with
 |nil=>simp[sm,P7]
 |cons a l ih=>simp only[C',sm,ih];grind
def lk(l:List α)(a:α)(f:α->Dyadic):sm (l++[a]) f=sm l f+f a:=by
 rw[yo];simp only[sm];grind
def qd{l:List α}{f g:α->Dyadic}(h:∀a∈l,f a=g a):sm l f=sm l g:=by
 induction l with
 |nil=>rfl
 |cons a l ih=>rw[sm,sm,h a q',ih λb hb=>h b (F' _ hb)]
def Po{l:List α}{f:α->Dyadic}(h:∀a∈l,f a=0):sm l f=0:=by
 induction l with
 |nil=>rfl
 |cons a l ih=>rw[sm,h a q',ih λb hb=>h b (F' _ hb)];grind
def pI(l:List α)(f g:α->Dyadic):sm l (λa=>f a+g a)=sm l f+sm l g:=by
 induction l with
 |nil=>simp[sm]
 |cons a l ih=>simp only[sm,ih];grind
def Pt(l:List α)(f:α->Dyadic)(c:Dyadic):sm l (λa=>f a*c)=sm l f*c:=by
 induction l with
 |nil=>simp only[sm];grind
 |cons a l ih=>simp only[sm,ih];grind
def Qk(l:List α)(f:α->Dyadic)(c:Dyadic):sm l (λa=>c*f a)=c*sm l f:=by
 induction l with
 |nil=>simp only[sm];grind
 |cons a l ih=>simp only[sm,ih];grind
variable {β:Type}
def Uw(l:List α)(g:α->β)(f:β->Dyadic):sm (l.map g) f=sm l λa=>f (g a):=by
 induction l with
 |nil=>rfl
 |cons a l ih=>rw[o_,sm,sm,ih]
def nM(l:List α)(m:List β)(f:α->β->Dyadic):sm l (λa=>sm m (f a))=sm m λb=>sm l λa=>f a b:=by
 induction l with
 |nil=>exact(Po λb _=>rfl).symm
 |cons a l ih=>simp only[sm];rw[ih,<-pI]
def LO(l:List α)(p:α->Bool)(f:α->Dyadic)(h:∀a∈l,p a=false->f a=0):sm (l.filter p) f=sm l f:=by
 induction l with
 |nil=>rfl
 |cons a l ih=>
  rw[sm,<-ih λb hb=>h b (F' _ hb)]
  cases hp:p a with
  |true=>rw[List.filter_cons_of_pos hp,sm]
  |false=>rw[O5 (by rw[hp];exact Bool.false_ne_true),h a q' hp];grind
def xC(n p:Nat)(c:Dyadic):sm (List.range n) (λq=>if q=p then c else 0)=if p<n then c else 0:=by
 induction n with
 |zero=>rw[L' Z'];rfl
 |succ n ih=>
  rw[O8,lk,ih];obtain h|h|h:=Nat.lt_trichotomy p n
  .rw[J' h,L' (show ¬n=p by omega),J' (show p<n+1 by omega)];grind
  .rw[L' (show ¬p<n by omega),J' h.symm,J' (show p<n+1 by omega)];grind
  rw[L' (show ¬p<n by omega),L' (show ¬n=p by omega),L' (show ¬p<n+1 by omega)];grind
def xi(N:Nat)(L:List (Nat×Dyadic)):List Dyadic:=(List.range N).map λp=>sm L λq=>if q.1=p then q.2 else 0
def Uh(N:Nat)(L:List (Nat×Dyadic)):(xi N L).length=N:=by simp[xi]
def Bw(N:Nat):xi N []=List.replicate N 0:=by
 refine List.ext_getElem (by simp[xi]) λi h1 h2=> ?_;simp[xi,sm]
def bo{p:Nat}(L:List (Nat×Dyadic))(h:p<N):(xi N L)[p]?=some (sm L λq=>if q.1=p then q.2 else 0):=by
 unfold xi;rw[V_,x9 h];rfl
def nA{p:Nat}{L:List (Nat×Dyadic)}{x v:Dyadic}(h:(xi N L)[p]?=some x):(xi N L).set p (x+v)=xi N (L++[(p,v)]):=by
 have hp:p<N:=by have:=(X_.1 h).1;rwa[Uh] at this
 rw[bo L hp] at h;refine U9 λi=> ?_;rw[F9];by_cases hi:p=i
 .subst hi;rw[J' rfl,Uh,J' hp,bo _ hp,lk,<-L_ h,J' rfl]
 rw[L' hi];by_cases hin:i<N
 .rw[bo _ hin,bo _ hin,lk,L' hi];congr 1;grind
 rw[r_ (by rw[Uh];omega),r_ (by rw[Uh];omega)]
def SS{l:List α}{f:α->Dyadic}(h:∀a∈l,Sz k (f a)):Sz (k+l.length) (sm l f):=by
 induction l with
 |nil=>exact Sz.zero _
 |cons a l ih=>
  have h1:=ih λb hb=>h b (F' _ hb);have h2:=((h a q').mono (show k<=k+l.length by omega)).add h1;rw[sm,E_];exact h2.mono Z'
def VD{L:List (Nat×Dyadic)}(h:∀a∈L,Sz k a.2):∀x∈xi N L,Sz (k+L.length) x:=λx hx=>by
 obtain⟨p,_,rfl⟩:=i'.1 hx;refine SS λa ha=> ?_;split
 .exact h a ha
 exact Sz.zero _
def la:List Nat->Nat
 |[]=>1
 |d::ds=>(d+1)*la ds
def Fb:List Nat->Nat->List Nat
 |[],_=>[]
 |d::ds,p=>p % (d+1)::Fb ds (p/(d+1))
def Md:List Nat->List Nat->Nat
 |d::ds,r::rs=>r+(d+1)*Md ds rs
 |_,_=>0
def Rj:List Nat->List Nat->Prop
 |[],[]=>True
 |d::ds,r::rs=>r<=d/\Rj ds rs
 |_,_=>False
def Ec(ds:List Nat):0<la ds:=by
 induction ds with
 |nil=>exact Nat.one_pos
 |cons d ds ih=>exact H7 Z' ih
def Qn:∀(ds:List Nat)(p:Nat),(Fb ds p).length=ds.length
 |[],_=>rfl
 |d::ds,p=>by rw[Fb,E_,Qn ds,E_]
def Mo:∀(ds:List Nat)(p:Nat),Rj ds (Fb ds p)
 |[],_=>trivial
 |d::ds,p=>⟨by have:=B_ p (show 0<d+1 by omega);omega,Mo ds _⟩
def vF:∀{ds:List Nat}{p:Nat},p<la ds->Md ds (Fb ds p)=p
 |[],p,h=>(by have:p<1:=h;show 0=p;omega)
 |d::ds,p,h=>by
  have h1:p/(d+1)<la ds:=by rw[C9 Z',F_];exact h
  rw[Fb,Md,vF h1,N6]
def uk:∀{ds rs:List Nat},Rj ds rs->Md ds rs<la ds
 |[],[],_=>Nat.one_pos
 |d::ds,r::rs,h=>(by have h1:=uk h.2;have h2:=h.1;rw[Md,la];have h3:(d+1)*Md ds rs+(d+1)<=(d+1)*la ds:=(by have:=k_ (d+1) (show Md ds rs+1<=la ds by omega);rw[X9,H_] at this;exact this);omega)
def gi:∀{ds rs:List Nat},Rj ds rs->Fb ds (Md ds rs)=rs
 |[],[],_=>rfl
 |d::ds,r::rs,h=>(by have h2:=h.1;rw[Md,Fb,N7,g_ Z',S8 _ _ Z',L9 Z',C_,gi h.2])
def wX(d:Nat)(ds:List Nat)(f:Nat->Dyadic):sm (List.range (la (d::ds))) f=sm (List.range (la ds)) λq=>sm (List.range (d+1)) λr=>f (r+(d+1)*q):=by
 have key:∀n,sm (List.range ((d+1)*n)) f=sm (List.range n) λq=>sm (List.range (d+1)) λr=>f (r+(d+1)*q):=λn=>by
  induction n with
  |zero=>rfl
  |succ n ih=>
   rw[O8,lk,<-ih,R8,List.range_add,yo,Uw];congr 1;exact qd λa _=>by rw[l8]
 exact key _
def RZ(d:Int):List Int:=(List.range (d.toNat+1)).map λ(k:Nat)=>(k:Int)
def ab3:List Int->List (List Int)
 |[]=>[[]]
 |d::ds=>(RZ d).flatMap λk=>(ab3 ds).map (k:: ·)
def ke(n:Nat):List Int:=List.replicate n 0
def nxt:List Int->List Int->Option (List Int)
 |d::ds,k::l=>match nxt ds l with
  |some l'=>some (k::l')
  |none=>if k<d then some ((k+1)::ke l.length) else none
 |_,_=>none
def afD{α:Type}(f:α->Option α):α->List α->Prop
 |a,[b]=>b=a/\f a=none
 |a,b::L=>b=a/\∃c,f a=some c/\afD f c L
 |_,[]=>False
def Rq(n:Nat):(ke n).length=n:=by simp[ke]
def okN:Int->List Int->Bool
 |_,[]=>true
 |n,d::ds=>decide (0<=d) && (decide (d<=127) && (decide (n*(d+1)<=65536) && okN (n*(d+1)) ds))
def fX(l:List Int):ByteArray:=str (l.map gD)
def aiD(ds:List Int):List ByteArray:=if okN 1 ds then(ab3 ds).map fX else[]
def gX(d:Int)(s:ByteArray):List ByteArray:=(RZ d).map λq=>s++str [gD q]
def ahI(ls:List Int)(k n:Nat):List Int:=ls.take k++ke (n-k)
def bin:Nat->Nat->Nat
 |_,0=>1
 |0,_+1=>0
 |n+1,k+1=>bin n k+bin n (k+1)
def Yr(n:Nat):bin n 0=1:=by cases n<;>rfl
def wv:∀{n k:Nat},n<k->bin n k=0
 |0,k+1,_=>rfl
 |n+1,k+1,h=>by rw[bin,wv (show n<k by omega),wv (show n<k+1 by omega)]
def dF:∀n,bin n n=1
 |0=>rfl
 |n+1=>by rw[bin,dF n,wv (show n<n+1 by omega)]
def yC:∀n k:Nat,bin n k<=2^n
 |n,0=>by rw[Yr];exact t_ U'
 |0,k+1=>D' _
 |n+1,k+1=>(by have h1:=yC n k;have h2:=yC n (k+1);rw[bin,i_];omega)
def kv(n:Nat):List Nat:=(List.range (n+1)).map (bin n)
def vx(n:Nat):(kv n).length=n+1:=by simp[kv]
def XC(h:k<=n):(kv n)[k]?=some (bin n k):=by
 unfold kv;exact oU
def nD(n:Nat):Dyadic:=((n:Int):Dyadic)
def fN:nD 0=0:=rfl
def TI:nD 1=1:=rfl
def BB(a b:Nat):nD (a+b)=nD a+nD b:=by
 show Dyadic.ofIntWithPrec ((a+b:Nat):Int) 0=Dyadic.ofIntWithPrec (a:Int) 0+Dyadic.ofIntWithPrec (b:Int) 0;rw[wq,L8]
def acg(a b:Nat):nD (a*b)=nD a*nD b:=by
 induction a with
 |zero=>rw[j7,fN];grind
 |succ a ih=>rw[o9,BB,BB,ih,TI];grind
def HZ(h:n<2^k):Sz k (nD n):=by
 refine⟨(n:Int)*2^k, ?_, ?_⟩
 .have:=Ko (n:Int) 0 k;rw[show(0:Int)+(k:Int)=k by omega] at this;rw[this];rfl
 rw[W8,j8,Int.natAbs_natCast,show 2*k=k+k by omega,D_];exact x8 h (t_ U')
def Pv{α β:Type}{m:Nat}(hm:0<m)(g:α->List β):∀(l:List α)(p:Nat),(∀a∈l,(g a).length=m)->(l.flatMap g)[p]?=(l[p/m]?).bind λa=>(g a)[p % m]?
 |[],p,_=>by simp
 |a::l,p,h=>by
  have ha:=h a q';rw[D7];by_cases hp:p<m
  .rw[X8 Z',L9 hp,g_ hp];rfl
  obtain⟨q,rfl⟩:∃q,p=q+m:=⟨p-m,Z'⟩;rw[H9 Z',ha,Nat.add_sub_cancel,Pv hm g l q λb hb=>h b (F' _ hb),Nat.add_div_right _ hm,Nat.add_mod_right,P6]
def Tu{α β:Type}{m:Nat}(g:α->List β):∀(l:List α),(∀a∈l,(g a).length=m)->(l.flatMap g).length=l.length*m
 |[],_=>by simp
 |a::l,h=>(by rw[D7,Y_,h a q',Tu g l λb hb=>h b (F' _ hb),E_,o9,l8])
def Ua(l:List Nat):List Int:=l.map λ(n:Nat)=>(n:Int)
def Kc(l:List Nat):(Ua l).length=l.length:=by simp[Ua]
def He{l:List Nat}{i:Nat}(h:l[i]?=some n):(Ua l)[i]?=some (n:Int):=by simp[Ua,h]
variable {ds:List Nat}
def rK:∀{ds rs:List Nat},Rj ds rs->rs.length=ds.length
 |[],[],_=>rfl
 |_::_,_::_,h=>by rw[E_,E_,rK h.2]
def DV{rs:List Nat}{i d r:Nat}(hd:ds[i]?=some d)(hr:rs[i]?=some r):Md (ds.take (i+1)).reverse (rs.take (i+1)).reverse=r+(d+1)*Md (ds.take i).reverse (rs.take i).reverse:=by
 rw[oa hd,oa hr];simp[Md]
def PV{i d:Nat}(hd:ds[i]?=some d):la (ds.take (i+1)).reverse=(d+1)*la (ds.take i).reverse:=by
 rw[oa hd];simp[la]
def Vd(a b:List Nat):la (a++b)=la a*la b:=by
 induction a with
 |nil=>simp[la]
 |cons d a ih=>rw[C',la,la,ih,N9]
def Wd(ds:List Nat):la ds.reverse=la ds:=by
 induction ds with
 |nil=>rfl
 |cons d ds ih=>rw[K7,Vd,ih,la,la,la,H_,F_]
def Jg(ds:List Nat)(i:Nat):la (ds.take i)<=la ds:=by
 have:ds=ds.take i++ds.drop i:=(P9 i ds).symm
 calc la (ds.take i)=la (ds.take i)*1:=(H_ _).symm
  _<=la (ds.take i)*la (ds.drop i):=k_ _ (Ec _)
  _=la ds:=by rw[<-Vd,P9]
def tj(A:Option Addr)(n c:Nat)(ds:List Int)(w:World)(hS:Sl w A n 1 (jb ds))(hn:n<=1000000):Calls prog 164 #[.slice A n c] w λr w'=>∃B c',r=.returned (.slice B n c')/\w'.ownsRow w.heap.size 3 1 (.slice B n c') n (jb ds)/\Below w.heap.size w w':=by
 have hh:=Hp.start w;obtain _|ad:=A
 .have hn0:n=0:=(by exact ab9);subst hn0;have hl:ds=[]:=C8 (by simpa[jb] using hS.1);subst hl;refine da (N:=8) (l:=[.slice none 0 c]) func164 rfl rfl (by simp) ?_;exact FR
 refine da (N:=8) (l:=[.slice (some ad) n c]) func164 rfl rfl (by simp) ?_;refine fa ?_;refine FG ?_;intro b5 w5 hh;refine mL ?_;refine Hb hh (i:=0) rfl rfl rfl (hS.ext hh.below) mb.out ya.out rfl U' ?one1 Z' Z' U' ?kk1
 case one1=>first|rfl|assumption|exact Pa _|exact vd _
 exact sS
def vq(A:Option Addr)(n c:Nat)(xs:List NR)(w:World)(hS:Sl w A n 3 (na NR.cells xs))(hn:n<=1000000):Calls prog 236 #[.slice A n c] w λr w'=>∃B c',r=.returned (.slice B n c')/\w'.ownsRow w.heap.size 30 3 (.slice B n c') n (na NR.cells xs)/\Below w.heap.size w w':=by
 have hh:=Hp.start w;obtain _|ad:=A
 .have hn0:n=0:=(by exact ab9);subst hn0;have hl:xs=[]:=C8 (by have:=hS.Fa NR.len U';omega);subst hl;refine da (N:=8) (l:=[.slice none 0 c]) func236 rfl rfl (by simp) ?_;exact FR
 have hone:((na NR.cells xs).all Value.oneCell')=true:=Ta NR.one _;refine da (N:=8) (l:=[.slice (some ad) n c]) func236 rfl rfl (by simp) ?_;refine fa ?_;refine FG ?_;intro b5 w5 hh;refine mL ?_;refine Hb hh (i:=0) rfl rfl rfl (hS.ext hh.below) mb.out ya.out rfl U' ?one2 Z' Z' U' ?kk2
 case one2=>first|rfl|assumption|exact Pa _|exact vd _
 exact sS
def kI(A:Option Addr)(n c:Nat)(l:List Int)(g:FuncId)(cap:List Value)(p:Int->Bool)(w:World)(hS:Sl w A n 1 (jb l))(hn:n<=1000000)[ja prog g] (hg:∀(z:Int)(w1:World),z∈l->Below w.heap.size w w1->Calls prog g (.int .i64 z::cap).toArray w1 λr w'=>r=.returned (.bool (p z))/\Below w1.heap.size w1 w'):Calls prog 239 #[.slice A n c,.func (.func g) #[] cap.toArray] w λr w'=>∃v,r=.returned (.int .i64 v)/\(0<=v↔l.any p=true)/\Below w.heap.size w w':=by
 have hh:=Hp.start w;have hln:l.length=n:=by have:=hS.1;simpa[jb] using this
 refine da (N:=19) (l:=[.slice A n c,.func (.func g) #[] cap.toArray]) func239 rfl rfl (by simp) ?_;refine fa ?_;refine Ba [4,5,8,9,10,11,12,13,14,15,16,17,18] 8 (λv w'=>∃i:Nat,i<=n/\v=.int .i64 i/\(l.take i).any p=false/\Hp w [] w') (λv _=>n-(intOf v).toNat) ?_ ?_
 .exact⟨0,D' _,rfl,rfl,hh⟩
 clear hh;rintro ρ' v w' ⟨i,hi,rfl,hall,hh⟩;by_cases hlt:i<n
 .obtain⟨z,hz⟩:=ea (l:=l) (k:=i) Z';have hgi:=Uc hz;obtain⟨ad,rfl,hr⟩:=hS.at_ Z';have hc:=λw1=>hg z w1 (G' hz)
  cases gz:p z with
  |true=>
   rw[gz] at hc;refine fa ?_;refine Pq ?_;exact kU
  |false=>
   rw[gz] at hc;refine fa ?_;refine Pq ?_;exact Ov
 exact pT
def yI(A:Option Addr)(n c:Nat)(l:List Int)(g:FuncId)(cap:List Value)(p:Int->Bool)(w:World)(hS:Sl w A n 1 (jb l))(hn:n<=1000000)[ja prog g] (hg:∀(z:Int)(w1:World),z∈l->Below w.heap.size w w1->Calls prog g (.int .i64 z::cap).toArray w1 λr w'=>r=.returned (.bool (p z))/\Below w1.heap.size w1 w'):Calls prog 171 #[.slice A n c,.func (.func g) #[] cap.toArray] w λr w'=>r=.returned (.bool (l.any p))/\Below w.heap.size w w':=by
 have hh:=Hp.start w;refine da (N:=9) (l:=[.slice A n c,.func (.func g) #[] cap.toArray]) func171 rfl rfl (by simp) ?_;refine fa ?_;refine qa (kI A n c l g cap p _ (hS.ext hh.below) hn hg) ja.out rfl U' ?_;exact YT
def HH(A:Option Addr)(n c:Nat)(l:List NR)(g:FuncId)(cap:List Value)(p:NR->Bool)(w:World)(hS:Sl w A n 3 (na NR.cells l))(hn:n<=1000000)[ja prog g] (hg:∀(z:NR)(w1:World),z∈l->Below w.heap.size w w1->Calls prog g (.agg #[.bool z.neg,.string z.Qa,.int .i64 z.e]::cap).toArray w1 λr w'=>r=.returned (.bool (p z))/\Below w1.heap.size w1 w'):Calls prog 240 #[.slice A n c,.func (.func g) #[] cap.toArray] w λr w'=>∃v,r=.returned (.int .i64 v)/\(0<=v↔l.any p=true)/\Below w.heap.size w w':=by
 have hh:=Hp.start w;have hln:=hS.Fa NR.len U';refine da (N:=19) (l:=[.slice A n c,.func (.func g) #[] cap.toArray]) func240 rfl rfl (by simp) ?_;refine fa ?_;refine Ba [4,5,8,9,10,11,12,13,14,15,16,17,18] 8 (λv w'=>∃i:Nat,i<=n/\v=.int .i64 i/\(l.take i).any p=false/\Hp w [] w') (λv _=>n-(intOf v).toNat) ?_ ?_
 .exact⟨0,D' _,rfl,rfl,hh⟩
 clear hh;rintro ρ' v w' ⟨i,hi,rfl,hall,hh⟩;by_cases hlt:i<n
 .obtain⟨z,hz⟩:=ea (l:=l) (k:=i) Z';obtain⟨ad,rfl,hr⟩:=hS.at_ Z';have hc:=λw1=>hg z w1 (G' hz)
  cases gz:p z with
  |true=>
   rw[gz] at hc;refine fa ?_;refine wb (vs:=[_,_,_]) ya.out rfl ((hr.ext hh.below).recAt NR.len hz) rfl U' ?_;exact kU
  |false=>
   rw[gz] at hc;refine fa ?_;refine wb (vs:=[_,_,_]) ya.out rfl ((hr.ext hh.below).recAt NR.len hz) rfl U' ?_;exact Ov
 exact pT
def gI(A:Option Addr)(n c:Nat)(l:List NR)(g:FuncId)(cap:List Value)(p:NR->Bool)(w:World)(hS:Sl w A n 3 (na NR.cells l))(hn:n<=1000000)[ja prog g] (hg:∀(z:NR)(w1:World),z∈l->Below w.heap.size w w1->Calls prog g (.agg #[.bool z.neg,.string z.Qa,.int .i64 z.e]::cap).toArray w1 λr w'=>r=.returned (.bool (p z))/\Below w1.heap.size w1 w'):Calls prog 173 #[.slice A n c,.func (.func g) #[] cap.toArray] w λr w'=>r=.returned (.bool (l.any p))/\Below w.heap.size w w':=by
 have hh:=Hp.start w;refine da (N:=9) (l:=[.slice A n c,.func (.func g) #[] cap.toArray]) func173 rfl rfl (by simp) ?_;refine fa ?_;refine qa (HH A n c l g cap p _ (hS.ext hh.below) hn hg) ja.out rfl U' ?_;exact YT
def gh:Int->List Int->Int
 |n,[]=>n
 |n,d::ds=>if d<0\/127<d\/4096<n*(d+1) then 0 else gh (n*(d+1)) ds
def adX:Int->List Int->Int
 |n,[]=>n
 |n,d::ds=>adX (min (n*(d+1)) 4097) ds
def ahq(ds:List Int):Int:=if ds.any (λd=> !Td d) then -1 else adX 1 ds
def jz(a:NR):Bool:= !(((nR a.ma).neg==a.neg && (nR a.ma).Qa==a.Qa) && (nR a.ma).e==a.e)
def Bq{a:NR}:jz a=false↔nR a.ma=a:=by
 unfold jz;rw[Bool.not_eq_false',fm]
def fE(ds:List Int)(cs:List NR):Int:=
 if 12<ds.length\/ds.any (λd=> !Td d)=true then 1 else if gh 1 ds=0 then 3 else if(cs.length:Int)≠gh 1 ds then 1 else if cs.any jz=true then 1 else 0
def QO{ds:List Int}(h:ds.any (λd=> !Td d)=false):∃ns:List Nat,ds=Ua ns/\∀n∈ns,n<=127:=by
 refine⟨ds.map Int.toNat, ?_,λn hn=> ?_⟩
 .unfold Ua;rw[Y9];refine(J6 ds).symm.trans (m8 λd hd=> ?_);have:=p9.1 h d hd;simp[Td] at this;show d=((d.toNat:Nat):Int);omega
 obtain⟨d,hd,rfl⟩:=i'.1 hn;have:=p9.1 h d hd;simp[Td] at this;omega
def nI{ns:List Nat}(h:∀n∈ns,n<=127):(Ua ns).any (λd=> !Td d)=false:=by
 rw[p9];intro d hd;obtain⟨n,hn,rfl⟩:=i'.1 hd;have:=h n hn;simp[Td];omega
def ij:∀(ns:List Nat)(n:Nat),1<=n->n<=4096->(∀d∈ns,d<=127)->gh n (Ua ns)=if n*la ns<=4096 then((n*la ns:Nat):Int) else 0
 |[],n,_,h,_=>by show(n:Int)=_;rw[la,H_,J' h]
 |d::ns,n,h1,h2,h3=>by
  show(if(d:Int)<0\/127<(d:Int)\/4096<(n:Int)*((d:Int)+1) then 0 else gh ((n:Int)*((d:Int)+1)) (Ua ns))=_;have hd:=h3 d q';have e1:(n:Int)*((d:Int)+1)=((n*(d+1):Nat):Int):=by rw[l9,L8];rfl
  rw[e1];by_cases hg:n*(d+1)<=4096
  .rw[L' Z',ij ns (n*(d+1)) (H7 h1 Z') hg λx hx=>h3 x (F' _ hx),la,N9]
  have h4:n*(d+1)*1<=n*(d+1)*la ns:=k_ _ (Ec ns);rw[J' Z',L'];rw[la,<-N9];omega
def IM:∀(ds:List Int)(n:Int),1<=n->n<=4096->0<=gh n ds/\gh n ds<=4096
 |[],n,_,h=>by show 0<=n/\n<=4096;omega
 |d::ds,n,h1,h2=>by
  rw[gh];split
  .omega
  rename_i hg;have:1*1<=n*(d+1):=Int.mul_le_mul h1 Z' U' Z';exact IM ds _ Z' Z'
variable {xs:List Dyadic}
structure FV(ds:List Int)(cs:List NR)(ns:List Nat)(xs:List Dyadic):Prop where
 deg:ds=Ua ns
 num:cs=xs.map nR
 few:ns.length<=12
 low:∀n∈ns,n<=127
 len:xs.length=la ns
 max:la ns<=4096
def aa0{ds:List Int}{cs:List NR}(h:fE ds cs=0):∃ns xs,FV ds cs ns xs/\xs=cs.map NR.ma:=by
 unfold fE at h;split at h
 .cases h
 rename_i h1;split at h
 .cases h
 rename_i h2;split at h
 .cases h
 rename_i h3;split at h
 .cases h
 rename_i h4;have hb:ds.any (λd=> !Td d)=false:=by
  cases hx:ds.any (λd=> !Td d) with
  |false=>rfl
  |true=>exact absurd (.inr hx) h1
 obtain⟨ns,rfl,hl⟩:=QO hb;have hc:=ij ns 1 U' U' hl;rw[W7] at hc;have hc1:gh ((1:Nat):Int) (Ua ns)=gh 1 (Ua ns):=rfl;rw[hc1] at hc;have hmax:la ns<=4096:=(by apply T7;intro hg;rw[L' hg] at hc;exact h2 hc);rw[J' hmax] at hc;have hlen:cs.length=la ns:=(by have:(cs.length:Int)=gh 1 (Ua ns):=S7.1 h3;rw[hc] at this;omega);refine⟨ns,cs.map NR.ma,⟨rfl, ?_,(by have h2:¬12<(Ua ns).length:=λh=>h1 (.inl h);rw[Kc] at h2;omega),hl,by rw[Z_,hlen],hmax⟩,rfl⟩;rw[Y9];refine(J6 cs).symm.trans (m8 λa ha=> ?_);have h5:jz a=false:=by
  cases hx:jz a with
  |false=>rfl
  |true=>exact absurd (k9.2 ⟨a,ha,hx⟩) h4
 exact(Bq.1 h5).symm
def FV.ok{ds:List Int}{cs:List NR}{ns:List Nat}(h:FV ds cs ns xs):fE ds cs=0:=by
 obtain⟨rfl,rfl,h1,h2,h3,h4⟩:=h;have hc:=ij ns 1 U' U' h2;rw[W7,J' h4] at hc;have hc1:gh ((1:Nat):Int) (Ua ns)=gh 1 (Ua ns):=rfl;rw[hc1] at hc;have hp:=Ec ns;unfold fE;rw[L',L' Z',L' (by rw[Z_];omega),L']
 .rw[k9];rintro ⟨a,ha,hx⟩;obtain⟨x,_,rfl⟩:=i'.1 ha;have:jz (nR x)=false:=Bq.2 (by rw[db]);rw[this] at hx
  cases hx
 rw[Kc,nI h2];rintro (h|h)
 .omega
 cases h
def Pe(A:Option Addr)(n c:Nat)(ds:List Int)(w:World)(hS:Sl w A n 1 (jb ds))(hn:n<=1000000):Calls prog 165 #[.slice A n c] w λr w'=>r=.returned (.int .i64 (gh 1 ds))/\Below w.heap.size w w':=by
 have hh:=Hp.start w;have hln:ds.length=n:=by have:=hS.1;simpa[jb] using this
 refine da (N:=31) (l:=[.slice A n c]) func165 rfl rfl (by simp) ?_;refine fa ?_;refine Ra [2,3,5,8,9,10,11,12,13,14,15,16,17,18,19,20,21,22,23,24,25,26,27,28,29] 3 8 (λv3 v w'=>∃(i:Nat)(q:Int),i<=n/\v=.int .i64 i/\v3=.int .i64 q/\1<=q/\q<=4096/\gh 1 ds=gh q (ds.drop i)/\Hp w [] w') (λ_ v _=>n-(intOf v).toNat) ?_ ?_
 .exact⟨0,1,D' _,rfl,rfl,Z',Z',rfl,hh⟩
 clear hh;rintro ρ' v3 v w' ⟨i,q,hi,rfl,rfl,hq1,hq2,hc,hh⟩;by_cases hlt:i<n
 .obtain⟨d,hd⟩:=ea (l:=ds) (k:=i) Z';have hgi:=Uc hd;obtain⟨ad,rfl,hr⟩:=hS.at_ Z';rw[Ie hd,gh] at hc;by_cases h1:d<0
  .rw[J' (.inl h1)] at hc;exact acb
  by_cases h2:127<d
  .rw[J' (.inr (.inl h2))] at hc;exact acb
  have hm1:1*1<=q*(d+1):=Int.mul_le_mul hq1 Z' U' Z';have hm2:q*(d+1)<=4096*128:=Int.mul_le_mul hq2 Z' Z' U';by_cases h3:4096<q*(d+1)
  .rw[J' (.inr (.inr h3))] at hc;exact acb
  rw[L' Z'] at hc;refine fa ?_;refine Pq ?_;refine fa ?_;refine⟨⟨i+1,_,Z',rfl,rfl,Z',Z',hc,hh⟩,by show n-(i+1)<n-i;omega, ?_⟩;exact Sc
 rw[z8 Z'] at hc;refine fa ?_;exact⟨by rw[hc];rfl,hh.below⟩
def PH(d:Int)(w:World):Calls prog 172 #[.int .i64 d] w λr w'=>r=.returned (.bool (!Td d))/\Below w.heap.size w w':=by
 have hh:=Hp.start w;by_cases h1:d<0
 .refine da (N:=9) (l:=[.int .i64 d]) func172 rfl rfl (by simp) ?_;refine fa ?_;refine⟨?_,hh.below⟩;unfold Td;rw[O_ (show ¬0<=d by omega)];rfl
 by_cases h2:127<d
 .refine da (N:=9) (l:=[.int .i64 d]) func172 rfl rfl (by simp) ?_;refine fa ?_;refine⟨?_,hh.below⟩;unfold Td;rw[O_ (show ¬d<=127 by omega),Bool.and_false];rfl
 refine da (N:=9) (l:=[.int .i64 d]) func172 rfl rfl (by simp) ?_;refine fa ?_;refine⟨?_,hh.below⟩;unfold Td;rw[N_ (show 0<=d by omega),N_ (show d<=127 by omega)];rfl
def kK(a:NR)(w:World)(hT:Xc w)(ha:a.ok):Calls prog 174 #[.agg #[.bool a.neg,.string a.Qa,.int .i64 a.e]] w λr w'=>r=.returned (.bool (jz a))/\Below w.heap.size w w':=by
 have hh:=Hp.start w;have hf:=λw1 hT1=>Gd a w1 hT1 (by have:=ha.1;omega) (by have:=ha.2;omega) (by have:=ha.2;omega)
 cases hx:jz a with
 |false=>
  have he:=Bq.1 hx;refine da (N:=7) (l:=[.agg #[.bool a.neg,.string a.Qa,.int .i64 a.e]]) func174 rfl rfl (by simp) ?_;refine Lb ?_;intro b1 w1 hh;refine Ca 3 [[(1,none)],[(3,some 0)],[(1,none)]] [(2,5),(1,4),(0,3)] hh mixed T' ?_;refine Yd 0 [_,_,_] ?_;refine dC (λ_ hj=>hf _ (hT.hp hj.hp)) ?_;refine Yd 0 [_,_,_] ?_;refine xa ?_;intro f W hJ hV;have hb_1:=hJ.bl;obtain⟨v5,v4,v3,_⟩:=hV;replace hh:=hJ.hp;refine Ea (Na (aa v5 (aa v4 (aa v3 Da)))) ?_;dsimp only[Cb];clear hJ;refine JY rfl rfl (by first|assumption|rfl) U' ?_;refine fa ?_;exact⟨rfl,hh.below⟩
 |true=>
  have he:¬nR a.ma=a:=λh=>by rw[Bq.2 h] at hx;cases hx
  refine da (N:=7) (l:=[.agg #[.bool a.neg,.string a.Qa,.int .i64 a.e]]) func174 rfl rfl (by simp) ?_;refine Lb ?_;intro b1 w1 hh;refine Ca 3 [[(1,none)],[(3,some 0)],[(1,none)]] [(2,5),(1,4),(0,3)] hh mixed T' ?_;refine Yd 0 [_,_,_] ?_;refine dC (λ_ hj=>hf _ (hT.hp hj.hp)) ?_;refine Yd 0 [_,_,_] ?_;refine xa ?_;intro f W hJ hV;have hb_1:=hJ.bl;obtain⟨v5,v4,v3,_⟩:=hV;replace hh:=hJ.hp;refine Ea (Na (aa v5 (aa v4 (aa v3 Da)))) ?_;dsimp only[Cb];clear hJ;refine eY rfl rfl (by assumption) U' ?_;refine fa ?_;exact⟨rfl,hh.below⟩
def Wy(A B:Option Addr)(n c m c2:Nat)(ds:List Int)(cs:List NR)(w:World)(hT:Xc w)(hS:Sl w A n 1 (jb ds))(hS2:Sl w B m 3 (na NR.cells cs))(hn:n<=1000000)(hm:m<=1000000)(hc:∀a∈cs,a.ok):Calls prog 96 #[.agg #[.slice A n c,.slice B m c2]] w λr w'=>r=.returned (.int .i64 (fE ds cs))/\Below w.heap.size w w':=by
 have hh:=Hp.start w;have hln:ds.length=n:=by have:=hS.1;simpa[jb] using this
 have hlm:=hS2.Fa NR.len U';have h1:=λw1 hS1=>yI A n c ds 172 [] (λd=> !Td d) w1 hS1 hn (λz w2 _ hb=>PH z w2);have h2:=λw1 (hT1:Xc w1) hS1=>gI B m c2 cs 174 [] jz w1 hS1 hm (λz w2 hz hb=>kK z w2 (hT1.ext hb) (hc z hz));have h3:=IM ds 1 Z' Z';unfold fE;by_cases g1:12<n
 .refine Tz ?_;refine Lb ?_;intro b1 w1 hh;exact⟨by rw[J' (.inl Z')],hh.below⟩
 cases g2:ds.any (λd=> !Td d) with
 |true=>
  refine Tz ?_;refine Lb ?_;intro b1 w1 hh;refine Oa hh (h1 _ (hS.ext hh.below)) rfl ?_;intro w11 hh;rw[g2];refine fa ?_;exact⟨by rw[J' (.inr rfl)],hh.below⟩
 |false=>
  rw[L' (λh=>h.elim (λh=>by omega) (λh=>by cases h))];by_cases g3:gh 1 ds=0
  .refine Tz ?_;refine Lb ?_;intro b1 w1 hh;refine Oa hh (h1 _ (hS.ext hh.below)) rfl ?_;intro w11 hh;rw[g2];refine fa ?_;refine HK ?_;intro w16 hh;refine fa ?_;exact⟨by rw[J' g3],hh.below⟩
  rw[L' g3];by_cases g4:(m:Int)=gh 1 ds
  .rw[L' (show ¬(cs.length:Int)≠gh 1 ds by omega)]
   cases g5:cs.any jz with
   |true=>
    refine Tz ?_;refine Lb ?_;intro b1 w1 hh;refine Oa hh (h1 _ (hS.ext hh.below)) rfl ?_;intro w11 hh;rw[g2];refine fa ?_;refine HK ?_;intro w16 hh;refine fa ?_;refine tT ?_;refine Bd ?_;refine ze 0 ?_;refine Jp ?_;refine Bd ?_;refine ze 0 ?_;refine dC (λ_ hj=>Pe A n c ds _ (hS.ext hj.hp.below) hn) ?_;refine xa ?_;intro f W hJ hV;have hb_5:=hJ.bl;obtain⟨v24,v23,v22,v21,v20,v19,_⟩:=hV;replace hh:=hJ.hp;refine KV ?_;dsimp only[Cb];clear hJ;refine fa ?_;refine Oa hh (h2 _ (hT.hp hh) (hS2.ext hh.below)) rfl ?_;intro w28 hh;rw[g5];refine fa ?_;exact⟨by rw[J' rfl],hh.below⟩
   |false=>
    refine Tz ?_;refine Lb ?_;intro b1 w1 hh;refine Oa hh (h1 _ (hS.ext hh.below)) rfl ?_;intro w11 hh;rw[g2];refine fa ?_;refine HK ?_;intro w16 hh;refine fa ?_;refine tT ?_;refine Bd ?_;refine ze 0 ?_;refine Jp ?_;refine Bd ?_;refine ze 0 ?_;refine dC (λ_ hj=>Pe A n c ds _ (hS.ext hj.hp.below) hn) ?_;refine xa ?_;intro f W hJ hV;have hb_5:=hJ.bl;obtain⟨v24,v23,v22,v21,v20,v19,_⟩:=hV;replace hh:=hJ.hp;refine KV ?_;dsimp only[Cb];clear hJ;refine fa ?_;refine Oa hh (h2 _ (hT.hp hh) (hS2.ext hh.below)) rfl ?_;intro w28 hh;rw[g5];refine fa ?_;exact⟨by rw[L' U'],hh.below⟩
  rw[J' (show(cs.length:Int)≠gh 1 ds by omega)];refine Tz ?_;refine Lb ?_;intro b1 w1 hh;refine Oa hh (h1 _ (hS.ext hh.below)) rfl ?_;intro w11 hh;rw[g2];refine fa ?_;refine HK ?_;intro w16 hh;refine fa ?_;refine tT ?_;refine Bd ?_;refine ze 0 ?_;refine Jp ?_;refine Bd ?_;refine ze 0 ?_;refine dC (λ_ hj=>Pe A n c ds _ (hS.ext hj.hp.below) hn) ?_;refine xa ?_;intro f W hJ hV;have hb_5:=hJ.bl;obtain⟨v24,v23,v22,v21,v20,v19,_⟩:=hV;replace hh:=hJ.hp;refine KV ?_;exact gR
def okZ:List Nat->List Nat->Bool
 |[],[]=>true
 |d::ds,r::rs=>decide (r<=d) && okZ ds rs
 |_,_=>false
def mM:∀(ds rs:List Nat),okZ ds rs=true↔Rj ds rs
 |[],[]=>by simp[okZ,Rj]
 |[],_::_=>by simp[okZ,Rj]
 |_::_,[]=>by simp[okZ,Rj]
 |d::ds,r::rs=>by rw[okZ,Rj,Q_,K_,mM ds rs]
def co(ds:List Nat)(xs:List Dyadic)(row:List Nat):Dyadic:=if okZ ds row then(xs[Md ds row]?).getD 0 else 0
def rL{row:List Nat}(h:Rj ds row):co ds xs row=(xs[Md ds row]?).getD 0:=by
 unfold co;rw[J' ((mM _ _).2 h)]
def rI{p:Nat}(h:p<la ds):co ds xs (Fb ds p)=(xs[p]?).getD 0:=by
 rw[rL (Mo ds p),vF h]
def ab2{ys:List Dyadic}(hx:xs.length=la ds)(hy:ys.length=la ds)(h:∀row,Rj ds row->co ds xs row=co ds ys row):xs=ys:=by
 refine List.ext_getElem (by rw[hx,hy]) λp h1 h2=> ?_;have h3:=h (Fb ds p) (Mo ds p);rw[rI Z',rI Z',G8 h1,G8 h2] at h3;exact h3
def se:List Nat->List Nat->List Nat
 |a::l,b::m=>(a+b)::se l m
 |_,_=>[]
def TK:∀{ds es rs js:List Nat},Rj ds rs->Rj es js->ds.length=es.length->Rj (se ds es) (se rs js)
 |[],[],[],[],_,_,_=>trivial
 |[],_::_,_,_,_,_,h=>by simp at h
 |_::_,[],_,_,_,_,h=>by simp at h
 |d::ds,e::es,r::rs,j::js,h1,h2,h3=>⟨by have:=h1.1;have:=h2.1;omega,TK h1.2 h2.2 (by simpa using h3)⟩
def pH:∀{a b:List Nat},a.length=b.length->(se a b).length=a.length
 |[],[],_=>rfl
 |_::a,_::b,h=>by rw[se,E_,E_,pH (by simpa using h)]
def afE:(List Nat->Dyadic)->List Nat->List Nat->Dyadic
 |F,r::rs,j::js=>if j<=r then afE (λt=>F ((r-j)::t)) rs js else 0
 |F,[],[]=>F []
 |_,_,_=>0
def wtR:List Nat->List Nat->Nat
 |m::ms,j::js=>bin m j*wtR ms js
 |_,_=>1
def upS:List Nat->(List Nat->Dyadic)->List Nat->Dyadic
 |m::ms,F,r::rs=>sm (List.range (m+1)) λj=>if j<=r then nD (bin m j)*upS ms (λt=>F ((r-j)::t)) rs else 0
 |_,F,row=>F row
def agP(ds es:List Nat)(xs ys:List Dyadic):List (Nat×Dyadic):=(List.range (la es)).flatMap λk=>(List.range (la ds)).map λi=>(Md (se ds es) (se (Fb ds i) (Fb es k)),(xs[i]?).getD 0*(ys[k]?).getD 0)
def bH(n:Nat)(f:Nat->Dyadic):sm (List.range (n+1)) f=f 0+sm (List.range n) λj=>f (j+1):=by
 induction n with
 |zero=>simp only[O8,List.range_zero,E',sm]
 |succ n ih=>rw[O8,lk,ih,O8 (n:=n),lk];grind
def af7(row:List Nat)(a:Nat):List Nat:=row.set a (row.getD a 0-1)
def Mm(n:Nat):List NR:=(kv n).map λk=>nR (nD k)
def GS(n:Nat):(Mm n).length=n+1:=by simp[Mm,vx]
def Tl(h:k<=n):(Mm n)[k]?=some (nR (nD (bin n k))):=by
 unfold Mm;rw[V_,XC h];rfl
def Nw(n k:Nat)(h:n<=127):Sz 128 (nD (bin n k)):=HZ (S9 (yC n k) (Nat.pow_lt_pow_right U' Z'))
def ep(n:Nat)(w:World)(hT:Xc w)(hn:n<=127):Calls prog 237 #[.int .i64 n] w λr w'=>∃A c',r=.returned (.slice A (n+1) c')/\w'.ownsRow w.heap.size 30 3 (.slice A (n+1) c') (n+1) (na NR.cells (Mm n))/\Below w.heap.size w w':=by
 have hh:=Hp.start w;refine da (N:=39) (l:=[.int .i64 n]) func237 rfl rfl (by simp) ?_;refine fa ?_;refine bF ?_;intro w6 hh;refine Un ?_;intro b7 w7 hh;refine fa ?_;refine Ra [3,4,5,9,10,11,12,13,14,15,16,17,18,19,20,21,22,23,24,25,26,27,28,29,30,31,32,33,34,35,36,37] 3 9 (λv3 v w'=>∃(i c3:Nat)(A:Option Addr),i<=n/\v=.int .i64 i/\v3=.slice A (i+1) c3/\Hp w [.row A (i+1) c3 30 3 (na NR.cells (Mm i))] w') (λ_ v _=>n-(intOf v).toNat) ?_ ?_
 .exact⟨0,_,_,D' _,rfl,rfl,hh⟩
 clear hh;rintro ρ' v3 v w' ⟨i,c3,A,hi,rfl,rfl,hh⟩;by_cases hlt:i<n
 .refine fa ?_;refine bF ?_;intro w11 hh;refine Un ?_;intro b12 w12 hh;refine fa ?_;refine Ra [4,5,13,14,15,16,17,18,19,20,21,22,23,24,25,26,27,28,29,30,31,32] 4 5 (λv4 v w'=>∃(k c4:Nat)(B:Option Addr),k<=i/\v=.int .i64 ((k+1:Nat):Int)/\v4=.slice B (k+1) c4/\Hp w [.row B (k+1) c4 30 3 (na NR.cells ((Mm (i+1)).take (k+1))),.row A (i+1) c3 30 3 (na NR.cells (Mm i))] w') (λ_ v _=>i+1-(intOf v).toNat) ?_ ?_
  .refine⟨0,_,_,D' _,rfl,rfl, ?_⟩;rw[show(Mm (i+1)).take (0+1)=[nR (nD 1)] by rw[oa (Tl (D' _)),Yr];rfl];exact hh
  clear hh;rintro ρ2 v4 v w2 ⟨k,c4,B,hk,rfl,rfl,hh⟩;by_cases hlk:k<i
  .have e1:=Tl (n:=i) (k:=k) Z';have e2:=Tl (n:=i) (k:=k+1) Z';have e3:=Tl (n:=i+1) (k:=k+1) Z';have z1:=Nw i k Z';have z2:=Nw i (k+1) Z';have hadd:=λA cc w1 hT1 hS1=>Qf A 2 cc [nR (nD (bin i k)),nR (nD (bin i (k+1)))] w1 hT1 hS1 (by simpa using⟨z1.ok Z',z2.ok Z'⟩) 128 (by simpa[db] using⟨z1,z2⟩) Z';rw[show jm ([nR (nD (bin i k)),nR (nD (bin i (k+1)))].map NR.ma)=nD (bin (i+1) (k+1)) by simp only[o_,G9,db,ni,bin,BB]] at hadd;obtain⟨go,rfl⟩:=hh.Pb (i:=1) rfl Z';refine fa ?_;refine Ca 13 [[(4,none)],[(3,none)],[(5,none)],[(21,some 2)],[(20,some 1),(22,some 3)],[(23,some 4)],[(3,none)],[(5,none)],[(25,some 6),(26,some 7)],[(27,some 8)],[(24,some 5),(28,some 9)],[(29,some 10)],[(30,some 11)]] [(12,31),(11,30),(10,29),(9,28),(8,27),(7,26),(6,25),(5,24),(4,23),(3,22),(2,21),(1,20),(0,19)] hh mixed T' ?_;refine Ee ?_;refine Ee ?_;refine jd ?_;refine Xu ?_;refine Ft (k) ?_;refine Zm [_,_,_] (λ_ hj=>hj.hp.Jd (f:=NR.cells) (x:=nR (nD (bin i k))) (l:=Mm i) (i:=1) rfl NR.len U' e1) ?_;refine Ee ?_;refine jd ?_;refine Ft ((k+1)) ?_
   refine Zm [_,_,_] (λ_ hj=>hj.hp.Jd (f:=NR.cells) (x:=nR (nD (bin i (k+1)))) (l:=Mm i) (i:=1) rfl NR.len U' e2) ?_;refine uq [_,_,_,_,_,_] ?_;refine Va (i:=11) (Is (.agg #[.bool (nR (nD (bin (i+1) (k+1)))).neg,.string (nR (nD (bin (i+1) (k+1)))).Qa,.int .i64 (nR (nD (bin (i+1) (k+1)))).e])) Is.ext ?_ ?_
   .intro ρ1 w1 hj hR;obtain⟨A29,c29,h29,s29⟩:=hR.1;exact Qb rfl (pb ja.out (Ga h29 Gb)) (hadd A29 c29 _ (hT.hp hj.hp) s29) (λ_ _ hq=>⟨_,hq.1,hq.2,rfl⟩)
   refine uq [_,_,_] ?_;refine xa ?_;intro f W hJ hV;have hb_8:=hJ.bl;obtain⟨v31,v30,v29,v28,v27,v26,v25,v24,v23,v22,v21,v20,v19,_⟩:=hV;obtain⟨A29,c29,e29,f29⟩:Rows _ _ _ (f 10) W:=v29;obtain⟨A31,c31,e31,f31⟩:Rows _ _ _ (f 12) W:=v31;replace hh:=hJ.hp;refine Ea (Na (aa e31 (aa v30 (aa e29 (aa v28 (aa v27 (aa v26 (aa v25 (aa v24 (aa v23 (aa v22 (aa v21 (aa v20 (aa v19 Da)))))))))))))) ?_;dsimp only[Cb];clear e29 e31 hJ;refine Hb hh (i:=0) rfl rfl rfl (f31) mb.out ya.out rfl U' (by first|rfl|exact ic _|exact Ob _|exact Pa _|exact Ta NR.one _) Z' Z' U' ?_;intro A32 c32 w32 hh;simp only[U_] at hh;refine fa ?_;replace hh:=hh.sub (I' _ (I' _ I_));refine⟨⟨k+1,c32,A32,Z',rfl,rfl, ?_⟩,by show i+1-(k+1+1)<i+1-(k+1);omega, ?_⟩
   .rw[oa e3,Ma];exact hh
   exact Sc
  obtain rfl:k=i:=Z';have e3:=Tl (n:=k+1) (k:=k+1) (j' _);refine fa ?_;refine bF ?_;intro w34 hh;refine Un ?_;intro b35 w35 hh;refine Er ?_;intro A36 c36 w36 hh;simp only[U_,G_] at hh;replace hh:=hh.sub (s_ _ _);refine fa ?_;replace hh:=hh.sub (I' _ (p' _ I_));refine⟨⟨k+1,c36,A36,Z',rfl,rfl, ?_⟩,by show n-(k+1)<n-k;omega, ?_⟩
  .have e4:Mm (k+1)=(Mm (k+1)).take (k+1)++[nR (nD (bin (k+1) (k+1)))]:=(by rw[<-oa e3,W_ (by rw[GS];omega)]);rw[e4,Ma,dF];exact hh
  exact Sc
 obtain rfl:i=n:=Z';exact HC
def ZD(ds:List Nat):List Nat:=(List.range (la ds.reverse)).map λp=>wtR ds.reverse (Fb ds.reverse p)
def GU(ds:List Nat)(d:Nat):ZD (ds++[d])=(ZD ds).flatMap λx=>(kv d).map (x* ·):=by
 have hl:∀a∈ZD ds,((kv d).map (a* ·)).length=d+1:=λa _=>by rw[Z_,vx]
 refine U9 λp=> ?_;rw[Pv Z' _ _ _ hl];unfold ZD;rw[List.reverse_append,List.reverse_singleton,List.singleton_append];by_cases hp:p<la (d::ds.reverse)
 .have hq:p/(d+1)<la ds.reverse:=by rw[C9 Z',F_];exact hp
  have hr:p % (d+1)<=d:=by have:=B_ p (show 0<d+1 by omega);omega
  rw[V_,x9 hp,V_,x9 hq];simp only[K8,B7,V_,XC hr,Fb,wtR,F_]
 have hq:¬p/(d+1)<la ds.reverse:=by rw[C9 Z',F_];exact hp
 rw[r_ (by simp;omega),r_ (l:=List.map _ _) (by simp;omega)];rfl
def Dv(ds:List Nat):(ZD ds).length=la ds:=by simp[ZD,Wd]
def cz(ds:List Nat):List NR:=(ZD ds).map λk=>nR (nD k)
def tV:∀(ds row:List Nat),(∀d∈ds,d<=127)->wtR ds row<=2^(127*ds.length)
 |[],_,_=>by show 1<=1;exact j' _
 |d::ds,[],_=>by show 1<=_;exact t_ U'
 |d::ds,r::rs,h=>(by have h1:bin d r<=2^127:=M_ (yC d r) (m_ U' (h d q'));have h2:=tV ds rs λx hx=>h x (F' _ hx);rw[wtR,E_,R8,l8,D_];exact n9 h1 h2)
def acN(h:n<=2^m)(hk:m<k):Sz k (nD n):=HZ (S9 h (Nat.pow_lt_pow_right U' hk))
def NK{x:Nat}(h:x∈ZD ds)(h1:ds.length<=12)(h2:∀d∈ds,d<=127):Sz 1600 (nD x):=by
 obtain⟨p,_,rfl⟩:=i'.1 h;have h3:=tV ds.reverse (Fb ds.reverse p) λd hd=>h2 d (g8.1 hd);exact acN h3 (by rw[c_];omega)
def pX(ds:List Nat)(d j:Nat):List Nat:=((ZD ds).take j).flatMap λx=>(kv d).map (x* ·)
def bQ{d x:Nat}(h:(ZD ds)[j]?=some x):pX ds d (j+1)=pX ds d j++(kv d).map (x* ·):=by
 unfold pX;rw[oa h,n7,List.flatMap_singleton]
def En(A:Option Addr)(n c:Nat)(ns:List Nat)(w:World)(hT:Xc w)(hS:Sl w A n 1 (jb (Ua ns)))(h12:ns.length<=12)(hlow:∀d∈ns,d<=127)(hmax:la ns<=4096):Calls prog 265 #[.slice A n c] w λr w'=>∃B c',r=.returned (.slice B (la ns) c')/\w'.ownsRow w.heap.size 30 3 (.slice B (la ns) c') (la ns) (na NR.cells (cz ns))/\Below w.heap.size w w':=by
 have hh:=Hp.start w;have hln:ns.length=n:=by have:=hS.1;simpa[jb,Ua] using this
 have hc:=ij ns 1 U' U' hlow;rw[W7,J' hmax] at hc;have hc1:gh ((1:Nat):Int) (Ua ns)=gh 1 (Ua ns):=rfl;rw[hc1] at hc;have hpos:=Ec ns;have hcnt:=λw1 hS1=>Pe A n c (Ua ns) w1 hS1 Z';rw[hc] at hcnt;refine da (N:=52) (l:=[.slice A n c]) func265 rfl rfl (by simp) ?_;refine fa ?_;refine Oa hh (hcnt _ (hS.ext hh.below)) rfl ?_;intro w16 hh;refine fa ?_;refine bF ?_;intro w19 hh;refine Un ?_;intro b20 w20 hh;refine fa ?_;refine Ra [3,5,6,8,10,23,24,25,26,27,28,29,30,31,32,33,34,35,36,37,38,39,40,41,42,43,44,45,46,47,48,49,50] 3 23 (λv3 v w'=>∃(i c3:Nat)(B:Option Addr),i<=n/\v=.int .i64 i/\v3=.slice B (la (ns.take i)) c3/\Hp w [.row B (la (ns.take i)) c3 30 3 (na NR.cells (cz (ns.take i)))] w') (λ_ v _=>n-(intOf v).toNat) ?_ ?_
 .exact⟨0,_,_,D' _,rfl,rfl,hh⟩
 clear hh;rintro ρ' v3 v w' ⟨i,c3,B,hi,rfl,rfl,hh⟩;by_cases hlt:i<n
 .obtain⟨d,hd⟩:=ea (l:=ns) (k:=i) Z';have hgi:=Uc (He hd);have hd127:=hlow d (G' hd);have htl:(ns.take i).length<=12:=by rw[R_];omega
  have htw:∀d∈ns.take i,d<=127:=λd hd=>hlow d (N8 hd);have hct:=Jg ns (i+1);have hct2:=Jg ns i;have hstep:la (ns.take (i+1))=la (ns.take i)*(d+1):=by rw[oa hd,Vd];simp[la]
  have hsnoc:cz (ns.take (i+1))=(pX (ns.take i) d (la (ns.take i))).map λk=>nR (nD k):=(by unfold cz pX;rw[oa hd,GU,W_ (l:=ZD (ns.take i)) (by rw[Dv];exact j' _)]);generalize hds:ns.take i=ds at*;generalize hN:la ds=N at*;obtain⟨ad,rfl,hr⟩:=hS.at_ Z';refine fa ?_;refine Pq ?_;refine fa ?_;replace hh:=hh.Nb 30 3;refine Ra [6,8,10,29,30,31,32,33,34,35,36,37,38,39,40,41,42,43,44,45,46,47,48] 6 29 (λv6 v w'=>∃(j c6:Nat)(C:Option Addr),j<=N/\v=.int .i64 j/\v6=.slice C (j*(d+1)) c6/\Hp w [.row C (j*(d+1)) c6 30 3 (na NR.cells ((pX ds d j).map λk=>nR (nD k))),.row B N c3 30 3 (na NR.cells (cz ds))] w') (λ_ v _=>N-(intOf v).toNat) ?_ ?_
  .refine⟨0,0,none,D' _,rfl, ?_, ?_⟩
   .rw[j7];rfl
   rw[j7];exact hh
  clear hh;rintro ρ2 v6 v w2 ⟨j,c6,C,hj,rfl,rfl,hh⟩;by_cases hjN:j<N
  .obtain⟨x,hx⟩:=ea (l:=ZD ds) (k:=j) (by rw[Dv];omega);have hx2:(cz ds)[j]?=some (nR (nD x)):=by unfold cz;rw[V_,hx];rfl
   have zx:=NK (G' hx) htl htw;have hj1:(j+1)*(d+1)<=N*(d+1):=M9 _ hjN;rw[o9] at hj1;obtain⟨go,rfl⟩:=hh.Pb (i:=1) rfl Z';refine fa ?_;refine wb (vs:=[_,_,_]) ya.out rfl (hh.Jd (f:=NR.cells) (x:=nR (nD x)) (l:=cz ds) (i:=1) rfl NR.len U' hx2) rfl U' ?_;refine Tb ?_;intro b8 w8 hh ws hh;refine qa (ep d _ (hT.hp hh) hd127) ja.out rfl U' ?_;rintro e_ w34 ⟨A34,c34,rfl,hown_,hb_⟩;refine⟨_,rfl, ?_⟩;replace hh:=hh.Aa (x:=.row _ _ _ _ _ _) hb_ hown_;refine fa ?_;refine Ra [6,10,36,37,38,39,40,41,42,43,44,45,46,47] 6 36 (λv6 v w'=>∃(k c6:Nat)(C:Option Addr),k<=d+1/\v=.int .i64 k/\v6=.slice C (j*(d+1)+k) c6/\Hp w [.row A34 (d+1) c34 30 3 (na NR.cells (Mm d)),.blk b8 30 [.bool (nR (nD x)).neg,.string (nR (nD x)).Qa,.int .i64 (nR (nD x)).e] (0,0),.row C (j*(d+1)+k) c6 30 3 (na NR.cells ((pX ds d j++((kv d).take k).map (x* ·)).map λk=>nR (nD k))),.row (some ⟨go,0,none⟩) N c3 30 3 (na NR.cells (cz ds))] w') (λ_ v _=>d+1-(intOf v).toNat) ?_ ?_
   .refine⟨0,c6,C,D' _,rfl,rfl, ?_⟩;rw[D8,G9,n_];exact hh
   clear hh;rintro ρ3 v6 v w3 ⟨k,c6,C,hk,rfl,rfl,hh⟩;by_cases hkd:k<d+1
   .have hb1:=XC (n:=d) (k:=k) Z';have hb2:=Tl (n:=d) (k:=k) Z';have zb:=Nw d k hd127;have hmul:=λA cc w1 hT1 hS1=>Fe A 2 cc [nR (nD x),nR (nD (bin d k))] w1 hT1 hS1 (by simpa using⟨zx.ok Z',zb.ok Z'⟩) 1600 (by simpa[db] using⟨zx,zb.mono Z'⟩) Z' Z';rw[show vf ([nR (nD x),nR (nD (bin d k))].map NR.ma)=nD (x*bin d k) by rw[acg];show 1*(nR (nD x)).ma*(nR (nD (bin d k))).ma=_;rw[db,db,U7]] at hmul;obtain⟨ga,rfl⟩:=hh.Pb (i:=0) rfl Z';refine fa ?_;refine wb (vs:=[_,_,_]) ya.out rfl (hh.Jd (f:=NR.cells) (x:=nR (nD (bin d k))) (l:=Mm d) (i:=0) rfl NR.len U' hb2) rfl U' ?_;refine Tb ?_;intro b10 w10 hh ws hh;refine Lr ?_;intro b43 w43 hh;refine Oa hh (hmul _ _ _ (hT.hp hh) (hh.ra (i:=0) rfl)) rfl ?_;intro w44 hh;refine Un ?_;intro b45 w45 hh;refine gN ?_;intro A46 c46 w46 hh;simp only[U_,G_] at hh;replace hh:=hh.sub (s_ _ _);refine fa ?_;replace hh:=hh.sub (p' _ (p' _ (I' _ (I' _ (I' _ (I' _ I_))))))
    refine⟨⟨k+1,c46,A46,Z',rfl,rfl, ?_⟩,by show d+1-(k+1)<d+1-k;omega, ?_⟩
    .have e:(pX ds d j++((kv d).take (k+1)).map (x* ·)).map (λk=>nR (nD k))=(pX ds d j++((kv d).take k).map (x* ·)).map (λk=>nR (nD k))++[nR (nD (x*bin d k))]:=by rw[oa hb1];simp
     rw[e,Ma];exact hh
    exact Sc
   obtain rfl:k=d+1:=Z';rw[W_ (by rw[vx];omega),<-bQ hx] at hh;refine fa ?_;replace hh:=hh.sub (p' _ (p' _ (I' _ (I' _ I_))));refine⟨⟨j+1,c6,C,Z',rfl, ?_, ?_⟩,by show N-(j+1)<N-j;omega, ?_⟩
   .rw[o9];rfl
   .rw[o9];exact hh
   exact Sc
  obtain rfl:j=N:=Z';rw[<-hsnoc,<-hstep] at hh;rw[<-hstep];refine fa ?_;replace hh:=hh.sub (I' _ (p' _ I_));refine⟨⟨i+1,c6,C,Z',rfl,rfl,hh⟩,by show n-(i+1)<n-i;omega, ?_⟩;exact Sc
 obtain rfl:i=n:=Z';rw[W_ Z'] at hh |-;exact HC
def Yt(d r:Nat)(t:Dyadic):Dyadic:=t^r*(1-t)^(d-r)
def Ez:List Nat->List Nat->List Dyadic->Dyadic
 |d::ds,r::rs,t::ts=>Yt d r t*Ez ds rs ts
 |_,_,_=>1
def rq(ds:List Nat)(xs:List Dyadic)(ts:List Dyadic):Dyadic:=sm (List.range (la ds)) λp=>(xs[p]?).getD 0*Ez ds (Fb ds p) ts
def aeH(d:Nat)(t:Dyadic)(m:Nat)(xs:List Dyadic):List Dyadic:=(List.range m).map λq=>sm (List.range (d+1)) λr=>(xs[r+(d+1)*q]?).getD 0*Yt d r t
def adQ:List Nat->List Dyadic->List Dyadic->List Dyadic
 |d::ds,t::ts,xs=>adQ ds ts (aeH d t (la ds) xs)
 |_,_,xs=>xs
def iB(t:Dyadic)(a b:Nat):t^(a+b)=t^a*t^b:=by
 induction b with
 |zero=>rw[u9];grind
 |succ b ih=>rw[<-S6];grind
def aeA(n:Nat)(a b:Dyadic):sm (List.range (n+1)) (λk=>nD (bin n k)*a^k*b^(n-k))=(a+b)^n:=by
 induction n with
 |zero=>show nD 1*a^0*b^0+0=(a+b)^0;rw[TI];grind
 |succ n ih=>
  have e2:∀k,nD (bin (n+1) (k+1))*a^(k+1)*b^(n+1-(k+1))=nD (bin n k)*a^k*b^(n-k)*a+nD (bin n (k+1))*a^(k+1)*b^(n-k):=λk=>(by rw[bin,BB,show n+1-(k+1)=n-k by omega];grind);rw[bH,qd (g:=λk=>nD (bin n k)*a^k*b^(n-k)*a+nD (bin n (k+1))*a^(k+1)*b^(n-k)) λk _=>e2 k,pI,Pt,ih,Yr];have e3:sm (List.range (n+1)) (λk=>nD (bin n (k+1))*a^(k+1)*b^(n-k))=sm (List.range n) (λk=>nD (bin n (k+1))*a^(k+1)*b^(n-(k+1)))*b:=by
   rw[O8,lk,wv (show n<n+1 by omega),fN,<-Pt];have:∀x y:Dyadic,x+0*y*b^(n-n)=x:=λx y=>by grind
   rw[this];refine qd λk hk=> ?_;have hk2:=h_.1 hk;rw[show n-k=(n-(k+1))+1 by omega];grind
  have e4:(a+b)^n=nD 1*a^0*b^(n-0)+sm (List.range n) (λk=>nD (bin n (k+1))*a^(k+1)*b^(n-(k+1))):=(by rw[<-ih,bH,Yr]);rw[e3];have e5:(a+b)^(n+1)=(a+b)^n*a+(a+b)^n*b:=by grind
  rw[e5];generalize hS:sm (List.range n) (λk=>nD (bin n (k+1))*a^(k+1)*b^(n-(k+1)))=S at*;rw[e4,show n+1-0=n+1 by omega,show n-0=n by omega,TI];grind
def sR:List Nat->(List Nat->Dyadic)->Dyadic
 |[],F=>F []
 |d::ds,F=>sm (List.range (d+1)) λr=>sR ds λrow=>F (r::row)
def Ji(ds:List Nat)(a:Nat)(M:Nat->Nat->Dyadic)(xs:List Dyadic):List Dyadic:=(List.range (la ds)).map λp=>sm (List.range (ds.getD a 0+1)) λi=>co ds xs ((Fb ds p).set a i)*M i ((Fb ds p).getD a 0)
def Kx(ds:List Nat)(a:Nat)(M:Nat->Nat->Dyadic)(xs:List Dyadic):(Ji ds a M xs).length=la ds:=by simp[Ji]
def bP{row:List Nat}(a:Nat)(M:Nat->Nat->Dyadic)(xs:List Dyadic)(h:Rj ds row):co ds (Ji ds a M xs) row=sm (List.range (ds.getD a 0+1)) λi=>co ds xs (row.set a i)*M i (row.getD a 0):=by
 rw[rL h];unfold Ji;rw[V_,x9 (uk h)];simp only[K8,m9,gi h]
def AM:∀{ds row:List Nat}{a i:Nat},Rj ds row->i<=ds.getD a 0->Rj ds (row.set a i)
 |[],[],_,_,_,_=>trivial
 |d::ds,r::rs,0,i,h,hi=>⟨hi,h.2⟩
 |d::ds,r::rs,a+1,i,h,hi=>⟨h.1,AM (a:=a) h.2 (by simpa using hi)⟩
def adw(d:Nat)(s:Dyadic)(i k:Nat):Dyadic:=if k<i then 0 else nD (bin (d-i) (k-i))*s^i*(1-s)^(k-i)
def adU(d:Nat)(s:Dyadic)(i k:Nat):Dyadic:=if i<k then 0 else nD (bin i (i-k))*s^(i-k)*(1-s)^(d-i)
def adT(d i:Nat)(hi:i<=d)(f:Nat->Dyadic):sm (List.range (d+1)) (λk=>if k<i then 0 else f (k-i))=sm (List.range (d-i+1)) f:=by
 obtain⟨m,rfl⟩:∃m,d=i+m:=⟨d-i,Z'⟩;rw[show i+m-i+1=m+1 by omega,show i+m+1=i+(m+1) by omega,List.range_add,yo,Uw,Po λk hk=>by rw[J' (h_.1 hk)]];have:∀x:Dyadic,0+x=x:=λx=>by grind
 rw[this];exact qd λk _=>by rw[L' Z',Nat.add_sub_cancel_left]
def su:∀{A B x y:List Nat},x.length=A.length->Md (A++B) (x++y)=Md A x+la A*Md B y
 |[],B,[],y,_=>by rw[E',E',la,W7];show _=0+_;rw[C_]
 |d::A,B,r::x,y,h=>(by rw[C',C',Md,Md,la,su (by simpa using h),X9,N9,S6])
def Du:∀(A B:List Nat)(p:Nat),Fb (A++B) p=Fb A p++Fb B (p/la A)
 |[],B,p=>by rw[E',la,L7];rfl
 |d::A,B,p=>by rw[C',Fb,Fb,Du A B,la,U8];rfl
variable {q:Nat}
def cG:∀(A:List Nat)(f q:Nat),Fb A (f+la A*q)=Fb A f
 |[],_,_=>rfl
 |d::A,f,q=>(by rw[Fb,Fb,la,N9,N7,S8 _ _ Z',cG A])
variable {A:List Nat}
def yd(A:List Nat)(d f k q:Nat):Nat:=f+la A*(k+(d+1)*q)
variable {B:List Nat}
def Sy{f:Nat}(hf:f<la A)(hk:k<=d)(hq:q<la B):yd A d f k q<la (A++d::B):=by
 rw[Vd,la,yd];have h1:k+(d+1)*q+1<=(d+1)*la B:=(by have:(d+1)*(q+1)<=(d+1)*la B:=k_ _ hq;rw[R8] at this;omega);have h2:=k_ (la A) h1;rw[R8] at h2;omega
def ZA{f:Nat}(hf:f<la A)(hk:k<=d):Fb (A++d::B) (yd A d f k q)=Fb A f++k::Fb B q:=by
 unfold yd;rw[Du,cG,S8 _ _ (Ec A),L9 hf,C_,Fb,N7,g_ Z',S8 _ _ Z',L9 Z',C_]
def UJ{p:Nat}(h:p<la (A++d::B)):∃f k q,f<la A/\k<=d/\q<la B/\p=yd A d f k q:=by
 rw[Vd,la] at h;have hA:=Ec A;refine⟨p % la A,p/la A % (d+1),p/la A/(d+1),B_ _ hA,by have:=B_ (p/la A) (show 0<d+1 by omega);omega, ?_, ?_⟩
 .rw[C9 Z',C9 hA,F_,F_ (la B)];exact h
 unfold yd;rw[N6,N6]
def ZG(x y:List Nat)(k:Nat):(x++k::y).getD x.length 0=k:=by
 rw[J9,H9 (j' _),d_];rfl
def wI(x y:List Nat)(k i:Nat):(x++k::y).set x.length i=x++i::y:=by
 rw[p8 _ _ (j' _),d_,U_]
def Zf(A:List Nat)(d:Nat)(xs:List Dyadic)(f q:Nat):List Dyadic:=(List.range (d+1)).map λi=>(xs[yd A d f i q]?).getD 0
def jR{f:Nat}(M:Nat->Nat->Dyadic)(xs:List Dyadic)(hf:f<la A)(hk:k<=d)(hq:q<la B):(Ji (A++d::B) A.length M xs)[yd A d f k q]?=some (sm (List.range (d+1)) λi=>(xs[yd A d f i q]?).getD 0*M i k):=by
 have hp:=Sy (B:=B) hf hk hq;unfold Ji;rw[V_,x9 hp];simp only[K8];rw[ZA hf hk,ZG];have hl:=Qn A f;rw[show((Fb A f++k::Fb B q).getD A.length 0)=k by rw[<-hl];exact ZG _ _ _];congr 1;refine qd λi hi=> ?_;have hi2:i<=d:=by have:=h_.1 hi;omega
 rw[show(Fb A f++k::Fb B q).set A.length i=Fb A f++i::Fb B q by rw[<-hl];exact wI _ _ _ _,<-ZA (B:=B) hf hi2,rI (Sy hf hi2 hq)]
def lE(A:Option Addr)(n c:Nat)(ns:List Nat)(w:World)(hS:Sl w A n 1 (jb (Ua ns)))(hn:n<=1000)(hlow:∀d∈ns,d<=255)(hmax:la ns<=1000000):Calls prog 300 #[.slice A n c] w λr w'=>r=.returned (.int .i64 (la ns:Nat))/\Below w.heap.size w w':=by
 have hh:=Hp.start w;have hln:ns.length=n:=by have:=hS.1;simpa[jb,Ua] using this
 refine da (N:=18) (l:=[.slice A n c]) func300 rfl rfl (by simp) ?_;refine fa ?_;refine Ra [3,5,8,9,10,11,12,13,14,15,16] 3 8 (λv3 v w'=>∃i:Nat,i<=n/\v=.int .i64 i/\v3=.int .i64 (la (ns.take i):Nat)/\Hp w [] w') (λ_ v _=>n-(intOf v).toNat) ?_ ?_
 .exact⟨0,D' _,rfl,rfl,hh⟩
 clear hh;rintro ρ' v3 v w' ⟨i,hi,rfl,rfl,hh⟩;by_cases hlt:i<n
 .obtain⟨d,hd⟩:=ea (l:=ns) (k:=i) Z';have hgi:=Uc (He hd);have hd2:=hlow d (G' hd);obtain⟨ad,rfl,hr⟩:=hS.at_ Z';have hct:=Jg ns (i+1);have hct2:=Jg ns i;have hstep:la (ns.take (i+1))=la (ns.take i)*(d+1):=by rw[oa hd,Vd];simp[la]
  have e1:((la (ns.take i):Nat):Int)*((d:Int)+1)=((la (ns.take (i+1)):Nat):Int):=by rw[hstep,l9,L8];rfl
  refine fa ?_;refine Pq ?_;refine fa ?_;rw[e1];refine⟨⟨i+1,Z',rfl,rfl,hh⟩,by show n-(i+1)<n-i;omega, ?_⟩;exact Sc
 refine fa ?_;rw[W_ Z'];exact⟨rfl,hh.below⟩
def yB(ns:List Nat):Bool:=ns.any (λd=>decide (127<d))||decide (4096<la ns)
def LJ(A:Option Addr)(n c:Nat)(ns:List Nat)(w:World)(hS:Sl w A n 1 (jb (Ua ns)))(hn:n<=1000)(hlow:∀d∈ns,d<=1000):Calls prog 273 #[.slice A n c] w λr w'=>r=.returned (.bool (yB ns))/\Below w.heap.size w w':=by
 have hh:=Hp.start w;have hln:ns.length=n:=by have:=hS.1;simpa[jb,Ua] using this
 refine da (N:=26) (l:=[.slice A n c]) func273 rfl rfl (by simp) ?_;refine fa ?_;refine Ra [2,3,5,8,9,10,11,12,13,14,15,16,17,18,19,20,21,22,23,24,25] 3 8 (λv3 v w'=>∃i:Nat,i<=n/\v=.int .i64 i/\v3=.int .i64 (la (ns.take i):Nat)/\la (ns.take i)<=4096/\(ns.take i).any (λd=>decide (127<d))=false/\Hp w [] w') (λ_ v _=>n-(intOf v).toNat) ?_ ?_
 .exact⟨0,D' _,rfl,rfl,by show 1<=4096;decide,rfl,hh⟩
 clear hh;rintro ρ' v3 v w' ⟨i,hi,rfl,rfl,hmx,hall,hh⟩;by_cases hlt:i<n
 .obtain⟨d,hd⟩:=ea (l:=ns) (k:=i) Z';have hgi:=Uc (He hd);have hd2:=hlow d (G' hd);obtain⟨ad,rfl,hr⟩:=hS.at_ Z';have hct:=Jg ns (i+1);have hstep:la (ns.take (i+1))=la (ns.take i)*(d+1):=by rw[oa hd,Vd];simp[la]
  have hpb:la (ns.take i)*(d+1)<=4096*1001:=n9 hmx Z';have e1:((la (ns.take i):Nat):Int)*((d:Int)+1)=((la (ns.take (i+1)):Nat):Int):=by rw[hstep,l9,L8];rfl
  by_cases h1:127<d
  .refine fa ?_;refine Pq ?_;refine fa ?_;refine⟨?_,hh.below⟩;unfold yB;rw[k9.2 ⟨d,G' hd,N_ h1⟩];rfl
  by_cases h2:4096<la (ns.take (i+1))
  .refine fa ?_;refine Pq ?_;refine fa ?_;refine⟨?_,hh.below⟩;unfold yB;rw[N_ (show 4096<la ns by omega),Bool.or_true]
  refine fa ?_;refine Pq ?_;refine fa ?_;rw[e1];refine⟨⟨i+1,Z',rfl,rfl,Z', ?_,hh⟩,by show n-(i+1)<n-i;omega, ?_⟩
  .rw[oa hd,g7,hall,y7,T6,O_ h1];rfl
  exact Sc
 rw[W_ Z'] at hmx hall;refine fa ?_;refine⟨?_,hh.below⟩;unfold yB;rw[hall,O_ Z'];rfl
def uC{l:List α}(hl:l.length=n)(hk:k<n):l[n-1-k]?=l.reverse[k]?:=by rw[Z7 Z',hl]
def eP:∀{X Y:List Nat}{d r:Nat},X.length=Y.length->Md (X++[d]) (Y++[r])=Md X Y+la X*r:=λ{X Y d r} h=>by
 rw[su h.symm];simp[Md]
def Nk(X:List Nat)(d:Nat):la (X++[d])=la X*(d+1):=by rw[Vd];simp[la]
def OC:∀{R:List Nat}{k d:Nat} (p:Nat),R[k]?=some d->(Fb R p)[k]?=some (p/la (R.take k) % (d+1))
 |[],_,_,_,h=>by simp at h
 |e::R,0,d,p,h=>by
  obtain rfl:e=d:=by simpa using h
  show some (p % (e+1))=_;rw[D8,la,L7]
 |e::R,k+1,d,p,h=>(by show(Fb R (p/(e+1)))[k]?=_;rw[OC (p/(e+1)) (by simpa using h),Z6,la,U8])
def AK:∀{a b:List Nat}{k x y:Nat},a[k]?=some x->b[k]?=some y->(se a b)[k]?=some (x+y)
 |[],_,_,_,_,h,_=>by simp at h
 |_::_,[],_,_,_,_,h=>by simp at h
 |p::a,q::b,0,x,y,h1,h2=>by
  obtain rfl:p=x:=by simpa using h1
  obtain rfl:q=y:=by simpa using h2
  rfl
 |p::a,q::b,k+1,x,y,h1,h2=>(by show(se a b)[k]?=_;exact AK (by simpa using h1) (by simpa using h2))
def zF:∀{ds rs:List Nat} (k:Nat),Rj ds rs->Rj (ds.take k) (rs.take k)
 |[],[],_,_=>by simp[Rj]
 |_::_,_::_,0,_=>trivial
 |d::ds,r::rs,k+1,h=>⟨h.1,zF k h.2⟩
def mQ:∀{ds rs:List Nat}{k d r:Nat},Rj ds rs->ds[k]?=some d->rs[k]?=some r->r<=d
 |[],_,_,_,_,_,h,_=>by simp at h
 |_::_,[],_,_,_,_,_,h=>by simp at h
 |d::ds,r::rs,0,_,_,h,h1,h2=>(by simp only[O6,P8] at h1 h2;subst h1 h2;exact h.1)
 |d::ds,r::rs,k+1,_,_,h,h1,h2=>mQ (k:=k) h.2 (by simpa using h1) (by simpa using h2)
def AD(F T Y:Option Addr)(n c1 c2 c3:Nat)(ns ts js:List Nat)(p:Nat)(w:World)(hF:Sl w F n 1 (jb (Ua ns)))(hT:Sl w T n 1 (jb (Ua ts)))(hY:Sl w Y n 1 (jb (Ua js))) (hn:n<=1000)(hok:Rj ts.reverse (se (Fb ns.reverse p) js.reverse))(hmax:la ts<=1000000)(hns:∀d∈ns,d<=1000)(hts:∀d∈ts,d<=1000)(hp:p<=1000000):Calls prog 302 #[.slice F n c1,.slice T n c2,.slice Y n c3,.int .i64 p] w λr w'=>r=.returned (.int .i64 (Md ts.reverse (se (Fb ns.reverse p) js.reverse):Nat))/\Below w.heap.size w w':=by
 have hh:=Hp.start w;have hl1:ns.length=n:=by have:=hF.1;simpa[jb,Ua] using this
 have hl2:ts.length=n:=by have:=hT.1;simpa[jb,Ua] using this
 have hl3:js.length=n:=by have:=hY.1;simpa[jb,Ua] using this
 generalize hrow:se (Fb ns.reverse p) js.reverse=row at*;have hrl:row.length=n:=by rw[<-hrow,pH (by rw[Qn,c_,c_,hl1,hl3]),Qn,c_,hl1]
 refine da (N:=52) (l:=[.slice F n c1,.slice T n c2,.slice Y n c3,.int .i64 p]) func302 rfl rfl (by simp) ?_;refine fa ?_;refine NS [3,9,10,11,12,16,17,18,19,20,21,22,23,24,25,26,27,28,29,30,31,32,33,34,35,36,37,38,39,40,41,42,43,44,45,46,47,48,49,50] 3 9 10 11 (λv3 v9 v10 v w'=>∃k:Nat,k<=n/\v=.int .i64 ((n:Int)-1-k)/\v3=.int .i64 (p/la (ns.reverse.take k):Nat)/\v9=.int .i64 (Md (ts.reverse.take k) (row.take k):Nat)/\v10=.int .i64 (la (ts.reverse.take k):Nat)/\Hp w [] w') (λ_ _ _ v _=>(intOf v+1).toNat) ?_ ?_
 .refine⟨0,D' _, ?_, ?_,rfl,rfl,hh⟩
  .exact N0
  rw[D8,la,L7];rfl
 clear hh;rintro ρ' v3 v9 v10 v w' ⟨k,hk,rfl,rfl,rfl,rfl,hh⟩;by_cases hlt:k<n
 .obtain⟨d,hd⟩:=ea (l:=ns.reverse) (k:=k) (by rw[c_];omega);obtain⟨t,ht⟩:=ea (l:=ts.reverse) (k:=k) (by rw[c_];omega);obtain⟨j,hj⟩:=ea (l:=js.reverse) (k:=k) (by rw[c_];omega);have hd':=uC hl1 hlt;have ht':=uC hl2 hlt;have hj':=uC hl3 hlt;rw[hd] at hd';rw[ht] at ht';rw[hj] at hj';have hgd:=Uc (He hd');have hgt:=Uc (He ht');have hgj:=Uc (He hj');have hd2:=hns d (G' hd');have ht2:=hts t (G' ht');have hr:row[k]?=some (p/la (ns.reverse.take k) % (d+1)+j):=by rw[<-hrow];exact AK (OC p hd) hj
  have hrt:=mQ hok ht hr;have hcp:=Ec (ns.reverse.take k);have hq:p/la (ns.reverse.take k)<=p:=q8 _ _;have hct:=Jg ts.reverse (k+1);rw[Wd,oa ht,Nk] at hct;have hck:la (ts.reverse.take k)*1<=la (ts.reverse.take k)*(t+1):=k_ _ Z';have hhl:Md (ts.reverse.take k) (row.take k)<la (ts.reverse.take k):=uk (zF k hok);have e1:((p/la (ns.reverse.take k):Nat):Int) % ((d:Int)+1)=((p/la (ns.reverse.take k) % (d+1):Nat):Int):=by rw[Int.natCast_emod];rfl
  have e2:((p/la (ns.reverse.take k):Nat):Int)/((d:Int)+1)=((p/la (ns.reverse.take (k+1)):Nat):Int):=by rw[oa hd,Nk,<-U8,Int.natCast_ediv];rfl
  have hst:Md (ts.reverse.take (k+1)) (row.take (k+1))=Md (ts.reverse.take k) (row.take k)+la (ts.reverse.take k)*(p/la (ns.reverse.take k) % (d+1)+j):=by rw[oa ht,oa hr,eP (by rw[R_,R_,c_,hl2,hrl])]
  have e3:(((p/la (ns.reverse.take k) % (d+1):Nat):Int)+(j:Int))*((la (ts.reverse.take k):Nat):Int)=((la (ts.reverse.take k)*(p/la (ns.reverse.take k) % (d+1)+j):Nat):Int):=by rw[F_,l9,L8]
  have e4:((la (ts.reverse.take k):Nat):Int)*((t:Int)+1)=((la (ts.reverse.take (k+1)):Nat):Int):=by rw[oa ht,Nk,l9,L8];rfl
  have hb3:la (ts.reverse.take k)*(p/la (ns.reverse.take k) % (d+1)+j)<=la (ts.reverse.take k)*(t+1):=k_ _ Z';have hc5:la (ts.reverse.take (k+1))=la (ts.reverse.take k)*(t+1):=by rw[oa ht,Nk]
  generalize p/la (ns.reverse.take k)=q at*;generalize q % (d+1)=m at*;generalize la (ts.reverse.take k)=C at*;generalize Md (ts.reverse.take k) (row.take k)=Hh at*;obtain⟨a1,rfl,s1⟩:=hF.at_ Z';obtain⟨a2,rfl,s2⟩:=hT.at_ Z';obtain⟨a3,rfl,s3⟩:=hY.at_ Z';refine fa ?_;refine Ca 11 [[(3,none)],[(0,none)],[(11,none)],[(21,some 1),(22,some 2)],[(23,some 3)],[(24,some 4)],[(20,some 0),(25,some 5)],[(2,none)],[(11,none)],[(27,some 7),(28,some 8)],[(29,some 9)]] [(10,30),(9,29),(8,28),(7,27),(6,26),(5,25),(4,24),(3,23),(2,22),(1,21),(0,20)] hh mixed T' ?_;refine jd ?_;refine Ee ?_;refine jd ?_;refine lj ((n-1-k)) ?_;refine Wa (i:=4) (λρ1 w1 hj hR=>Vg ya.out (show ρ1 23=Value.pointer _ from hR.1) ((s1.ext hj.hp.below).jw (by assumption))) ?_;refine Hs ?_;refine Wa (i:=6) (λρ1 w1 hj hR=>Hn (show ρ1 20=Value.int _ _ from hR.1) (show ρ1 25=Value.int _ _ from hR.2.1) Z' Z') ?_;refine Ee ?_;refine jd ?_;refine lj ((n-1-k)) ?_;refine Wa (i:=10) (λρ1 w1 hj hR=>Vg ya.out (show ρ1 29=Value.pointer _ from hR.1) ((s3.ext hj.hp.below).jw (by assumption))) ?_;refine xa ?_;intro f W hJ hV
  have hb_5:=hJ.bl;obtain⟨v30,v29,v28,v27,v26,v25,v24,v23,v22,v21,v20,_⟩:=hV;replace hh:=hJ.hp;refine Ea (Na (aa v30 (aa v29 (aa v28 (aa v27 (aa v26 (aa v25 (aa v24 (aa v23 (aa v22 (aa v21 (aa v20 Da)))))))))))) ?_;dsimp only[Cb];clear hJ;rw[e1];refine mj (aI (sa (sr (mI (mL (mI ?_))))));refine SL ?_;refine fH ?_;refine mj ?_;refine WJ rfl rfl Z' Z' Z' U' ?_;refine aI (sa (sr (mI (mI (mI ?_)))));refine mulC ?_;refine mj (aI (sa (Jb (mI (mL (mI ?_))))));refine SL ?_;refine ub ya.out rfl ((s2.ext hh.below).jw (by assumption)) U' ?_;refine fa ?_;refine⟨⟨k+1,Z', ?_, ?_, ?_, ?_,hh⟩,by show((n:Int)-1-(k:Int)-1+1).toNat<((n:Int)-1-(k:Int)+1).toNat;omega, ?_⟩
  .exact T0
  .exact J_ (Value.int IntKind.i64) e2
  .exact J_ (Value.int IntKind.i64) (show(Hh:Int)+((m:Int)+(j:Int))*(C:Int)=_ by rw[e3,hst,L8])
  .exact J_ (Value.int IntKind.i64) e4
  exact Sc
 obtain rfl:k=n:=Z';refine fa ?_;rw[W_ (by rw[c_];omega),W_ Z'];exact⟨rfl,hh.below⟩
def Gx(a:List Int)(x y:Int)(b:List Int)(n:Nat)(h:a.length=n):(a++x::b).set n y=a++y::b:=by
 subst h;rw[p8 _ _ (j' _),d_,U_]
def Ly(F:Option Addr)(n c1:Nat)(ns:List Nat)(p:Nat)(w:World)(hF:Sl w F n 1 (jb (Ua ns)))(hn:n<=1000)(hns:∀d∈ns,d<=1000)(hp:p<=1000000):Calls prog 301 #[.slice F n c1,.int .i64 p] w λr w'=>∃A c',r=.returned (.slice A n c')/\w'.ownsRow w.heap.size 3 1 (.slice A n c') n (jb (Ua (Fb ns.reverse p).reverse))/\Below w.heap.size w w':=by
 have hh:=Hp.start w;have hl1:ns.length=n:=by have:=hF.1;simpa[jb,Ua] using this
 have hdl:(Fb ns.reverse p).length=n:=by rw[Qn,c_,hl1]
 refine da (N:=35) (l:=[.slice F n c1,.int .i64 p]) func301 rfl rfl (by simp) ?_;refine fa ?_;refine wE ?_;intro b9 w9 hh;refine fa ?_;rw[show Value.int IntKind.i64 0=Value.int IntKind.i64 0 from rfl] at hh;have hzr:Cg n [Value.int .i64 0]=jb (ke n):=by rw[Jn];simp[jb,ke]
 rw[hzr] at hh;refine Ra [1,6,13,14,15,16,17,18,19,20,21,22,23,24,25,26,27,28,29,30,31,32,33] 1 6 (λv1 v w'=>∃k:Nat,k<=n/\v=.int .i64 ((n:Int)-1-k)/\v1=.int .i64 (p/la (ns.reverse.take k):Nat)/\Hp w [.row (some ⟨b9,0,none⟩) n n 3 1 (jb (ke (n-k)++Ua ((Fb ns.reverse p).take k).reverse))] w') (λ_ v _=>(intOf v+1).toNat) ?_ ?_
 .refine⟨0,D' _, ?_, ?_, ?_⟩
  .exact N0
  .rw[D8,la,L7];rfl
  rw[D8];simpa[Ua] using hh
 clear hh;rintro ρ' v1 v w' ⟨k,hk,rfl,rfl,hh⟩;by_cases hlt:k<n
 .obtain⟨d,hd⟩:=ea (l:=ns.reverse) (k:=k) (by rw[c_];omega);have hd':=uC hl1 hlt;rw[hd] at hd';have hgd:=Uc (He hd');have hd2:=hns d (G' hd');have hdk:=OC p hd;have hq:p/la (ns.reverse.take k)<=p:=q8 _ _;have e1:((p/la (ns.reverse.take k):Nat):Int) % ((d:Int)+1)=((p/la (ns.reverse.take k) % (d+1):Nat):Int):=by rw[Int.natCast_emod];rfl
  have e2:((p/la (ns.reverse.take k):Nat):Int)/((d:Int)+1)=((p/la (ns.reverse.take (k+1)):Nat):Int):=by rw[oa hd,Nk,<-U8,Int.natCast_ediv];rfl
  have hlen:(ke (n-k)++Ua ((Fb ns.reverse p).take k).reverse).length=n:=by simp[ke,Ua,hdl];omega
  have hil:(jb (ke (n-k)++Ua ((Fb ns.reverse p).take k).reverse)).length=n:=by rw[Zb,hlen]
  generalize p/la (ns.reverse.take k)=q at*;obtain⟨a1,rfl,s1⟩:=hF.at_ Z';refine Xa (sr (mI ?_));refine xt (sa (cT (nc (Xb (Xa (Oe (sr (mL (mI (mI (mL (mI ?_))))))))))));refine SL ?_;refine fH ?_;refine mj ?_;refine DR rfl rfl Z' Z' U' ?_;refine Sd (k:=(n-1-k)) mb.out ya.size rfl rfl Z' Z' U' ?_;rw[e1];refine Ab hh (i:=0) (vs:=[_]) rfl rfl (Dc rfl) rfl ya.out rfl Z' rfl ?_;intro ws hh;simp only[U_] at hh;rw[bk _ Z'] at hh;refine sa (Jb (mI (mL (mI ?_))));refine SL ?_;refine fH ?_;refine fa ?_;refine⟨⟨k+1,Z', ?_, ?_, ?_⟩,by show((n:Int)-1-(k:Int)-1+1).toNat<((n:Int)-1-(k:Int)+1).toNat;omega, ?_⟩
  .exact T0
  .exact J_ (Value.int IntKind.i64) e2
  .have e5:(ke (n-k)++Ua ((Fb ns.reverse p).take k).reverse).set (n-1-k) ((q % (d+1):Nat):Int)=ke (n-(k+1))++Ua ((Fb ns.reverse p).take (k+1)).reverse:=(by have hz:ke (n-k)=ke (n-(k+1))++[0]:=(by unfold ke;rw[show n-k=n-(k+1)+1 by omega,List.replicate_succ']);rw[hz,l_,List.singleton_append,Gx _ _ _ _ _ (by rw[Rq];omega),oa hdk];simp[Ua]);rw[e5] at hh;exact hh
  exact Sc
 obtain rfl:k=n:=Z';rw[W_ Z',d_] at hh;exact HC
end Go.Proofs.YtbencocchdpikaaGreatDoor
