/- Lemmas for solveAll, part 7. -/
import Derived.Test.YtbencocchdpikaaGreatDoorZ6
set_option linter.all false
set_option maxHeartbeats 0
namespace Go.Proofs.YtbencocchdpikaaGreatDoor
open Go.Proofs.Tryz
open Go.RowKit
def ym(s:ByteArray)(i:Nat):Int:=match s.data.toList[i]? with|some c=>c.toNat|none=>0
variable {m:Nat}
def bE(l:List TR)(i:Nat):Int:=l.foldl (λm t=>max m (ym t.m i)) 0
def Fm(m:Nat)(l:List TR):List Int:=(List.range m).map (bE l)
def iz(v:Int)(ts:List TR):List Int:=if Gf v ts=0 then Fm v.toNat ts else[]
def Wf(m:Nat)(l:List TR):(Fm m l).length=m:=by unfold Fm;rw[i',u9]
variable {j:Nat}
def Bv(l:List TR)(h:j<m):(Fm m l)[j]?=some (bE l j):=by
 unfold Fm;rw[V_,z9 h];rfl
def Ov(l:List TR)(t:TR)(i:Nat):bE (l++[t]) i=max (bE l i) (ym t.m i):=by unfold bE;rw[V7];rfl
def vV{s:ByteArray}{i:Nat}{c:UInt8}(h:s.data.toList[i]?=some c):ym s i=c.toNat:=by unfold ym;rw[h]
variable {α:Type}
def jX{A B:List α}{y:α}(h:A.length=B.length)(hy:B[j]?=some y):(B.take j++A.drop j).set j y=B.take (j+1)++A.drop (j+1):=by
 have hj:=(X_.1 hy).1;have hl:(B.take j).length=j:=by rw[R_];omega
 obtain⟨x,hx⟩:=ea (l:=A) (k:=j) Z';rw[Ge hx,oa hy,q8 _ _ Z',hl,f_];simp
def rX{A B:List α}{x:α}(h:A.length=B.length)(hx:A[j]?=some x):(B.take j++A.drop j)[j]?=some x:=by
 have hj:=(X_.1 hx).1;have hl:(B.take j).length=j:=by rw[R_];omega
 exact ab9
def XU(m:Nat):Qg m [.int .i64 0]=jb (Fm m []):=by
 have h1:∀n,Qg n [.int .i64 0]=jb (List.replicate n 0):=λn=>by
  induction n with
  |zero=>rfl
  |succ n ih=>rw[Qg,ih,B7];rfl
 rw[h1];congr 1;apply V9;intro i;by_cases h:i<m
 .rw[Bv [] h,K5,J' h];rfl
 rw[t_ (by rw[H9];omega),t_ (by rw[Wf];omega)]
def Au(p:PX)(k:Nat)(w:World)(hT:Sc w)(hp:p.at_ w)(lp:p.Zg k):Calls prog 161 #[.agg #[.int .i64 p.v,.slice p.A p.n p.c]] w λr w'=>∃A c,r=.returned (.slice A (iz p.v p.ts).length c)/\Hp w [.row A (iz p.v p.ts).length c 3 1 (jb (iz p.v p.ts))] w':=by
 have hh:=Hp.start w;have hck:=λw1 hT1 hb=>rk p k w1 hT1 (hp.ext hb) lp;by_cases h0:p.e=0
 .rw[show iz p.v p.ts=Fm p.v.toNat p.ts from J' h0,Wf];rw[h0] at hck;obtain⟨hf,h4,hmy,_⟩:=Ub h0;have hpl:p.ts.length=p.n:=hp.ln;obtain⟨pv,pA,pn,pc,ts⟩:=p;replace hf:=Pe.1 hf;replace hmy:∀t∈ts,pe pv t=true:=hmy;replace hp:Sl w pA pn 4 (na TR.cells ts):=hp;have hsz:∀t∈ts,t.m.size<=100000:=lp.sz;have hn:=lp.n;replace hn:pn<=1000000:=hn;replace hpl:ts.length=pn:=hpl;obtain⟨m,rfl⟩:∃m:Nat,pv=(m:Int):=⟨pv.toNat,by show pv=_;have:0<=pv:=hf.1;omega⟩;replace hf:m<=12:=by have h9:(m:Int)<=12:=hf.2;omega
  show Calls _ _ _ _ λr w'=>∃A c,r=.returned (.slice A m c)/\Hp w [.row A m c 3 1 (jb (Fm m ts))] w';refine da (N:=42) (l:=[.agg #[.int .i64 m,.slice pA pn pc]]) func161 rfl rfl (by simp) ?_;refine Jb ?_;intro b1 w1 hh;refine bh ?_;intro w9 hh;refine fa ?_;refine Me (n:=m) hh rfl rfl Z' Z' lb.out ya.out rfl Z' Z' U' ?_;intro b13 w13 hh;refine fa ?_;rw[XU] at hh;refine Ba [5,6,7,17,18,19,20,21,22,23,24,25,26,27,28,29,30,31,32,33,34,35,36,37,38,39,40] 17 (λv w'=>∃i:Nat,i<=pn/\v=.int .i64 i/\Hp w [.row (some ⟨b13,0,none⟩) m m 3 1 (jb (Fm m (ts.take i))),.blk b1 24 [.int .i64 m,.slice pA pn pc] (0,0)] w') (λv _=>pn-(intOf v).toNat) ?_ ?_
  .exact⟨0,D' _,rfl,hh⟩
  clear hh;rintro ρ' v w' ⟨i,hi,rfl,hh⟩;by_cases hlt:i<pn
  .obtain⟨x,hx⟩:=ea (l:=ts) (k:=i) Z';obtain⟨ad,rfl,hr⟩:=hp.at_ Z';have hxm:=G' hx;have hxs:=hsz x hxm;have hmx:=I8.1 (hmy x hxm);have hxz:x.m.size=m:=by have:=B9 hmx.2;omega
   have hxl:x.m.data.toList.length=m:=by rw[<-Tc];exact hxz
   have hex:cj x.m.data.toList=ints x.m.data.toList:=il hmx.1;have hel:(cj x.m.data.toList).length=m:=by rw[hex,jd];exact hxl
   have hBl:(Fm m (ts.take i)).length=(Fm m (ts.take (i+1))).length:=by rw[Wf,Wf]
   refine fa ?_;refine Qn ?_;refine Sb ?_;intro b5 w5 hh ws hh;refine qa (Di x.m _ hxs) ja.out rfl U' ?_;rintro e_ w23 ⟨A23,c23,rfl,hown_,hb_⟩;refine⟨_,rfl, ?_⟩;replace hh:=hh.Aa (x:=.row _ _ _ _ _ _) hb_ hown_;rw[hel] at hh |-;refine fa ?_;refine Ba [6,7,25,26,27,28,29,30,31,32,33,34,35,36,37,38,39] 25 (λv w'=>∃j:Nat,j<=m/\v=.int .i64 j/\Hp w [.row A23 m c23 3 1 (jb (cj x.m.data.toList)),.blk b5 72 [.string x.m,.bool x.c.neg,.string x.c.Qa,.int .i64 x.c.e] (0,0),.row (some ⟨b13,0,none⟩) m m 3 1 (jb ((Fm m (ts.take (i+1))).take j++(Fm m (ts.take i)).drop j)),.blk b1 24 [.int .i64 m,.slice (some ad) pn pc] (0,0)] w') (λv _=>m-(intOf v).toNat) ?_ ?_
   .exact⟨0,D' _,rfl,hh⟩
   clear hh;rintro ρ2 v w2 ⟨j,hj,rfl,hh⟩;by_cases hjn:j<m
   .obtain⟨e,he⟩:=ea (l:=x.m.data.toList) (k:=j) Z';have hee:(cj x.m.data.toList)[j]?=some (e.toNat:Int):=by rw[hex];exact qW he
    have ho:=rX hBl (Bv (ts.take i) hjn);have hset:=jX hBl (Bv (ts.take (i+1)) hjn);have hmx2:bE (ts.take (i+1)) j=max (bE (ts.take i) j) (e.toNat:Int):=by rw[oa hx,Ov,vV he]
    rw[hmx2] at hset;have hol:((Fm m (ts.take (i+1))).take j++(Fm m (ts.take i)).drop j).length=m:=by rw[Y_,R_,M9,Wf,Wf];omega
    generalize (Fm m (ts.take (i+1))).take j++(Fm m (ts.take i)).drop j=M at*;have hee2:=Uc hee;have ho2:=Uc ho;have hll:(jb M).length=m:=by rw[Wb];exact hol
    obtain⟨g,rfl⟩:=hh.Ob (i:=0) rfl Z';refine fa ?_;refine Aj ?_;refine fa ?_;refine ub ya.out rfl (hh.Zc (i:=2) rfl (by first|assumption|(simp only[I_];assumption))) U' ?_;refine fa ?_;have hmv:(if(e.toNat:Int)>bE (ts.take i) j then(e.toNat:Int) else bE (ts.take i) j)=max (bE (ts.take i) j) (e.toNat:Int):=by split<;>omega
    refine Ab hh (i:=2) (vs:=[_]) rfl rfl (Bc rfl) rfl ya.out rfl Z' rfl ?_;intro ws hh;simp only[U_,F_] at hh;rw[hmv,ek _ (by rw[<-Wb];omega),hset] at hh;refine fa ?_;refine⟨⟨j+1,Z',rfl,hh⟩,by show m-(j+1)<m-j;omega, ?_⟩;exact Rc
   obtain rfl:j=m:=Z';rw[W_ (by rw[Wf];omega),B8 (by rw[Wf];omega),o_] at hh;refine fa ?_;replace hh:=hh.sub (p' _ (p' _ (I' _ (I' _ H_))));refine⟨⟨i+1,Z',rfl,hh⟩,by show pn-(i+1)<pn-i;omega, ?_⟩;exact Rc
  obtain rfl:i=pn:=Z';rw[W_ Z'] at hh;refine fa ?_;exact⟨_,_,rfl,hh.sub (I' _ (R9 _))⟩
 rw[show iz p.v p.ts=[] from L' h0];refine da (N:=42) (l:=[.agg #[.int .i64 p.v,.slice p.A p.n p.c]]) func161 rfl rfl (by simp) ?_;refine Jb ?_;intro b1 w1 hh;refine bh ?_;intro w9 hh;refine fa ?_;exact⟨none,0,rfl,(hh.sub (R9 _)).Lb 3 1⟩
def qy(dg ds:List Int):Bool:=(dg.zip ds).any λq=>decide (q.2<q.1\/127<q.2)
def Ql(p:PX)(b:List SR)(ds:List Int):Int:=
 if p.e≠0 then p.e else if Fk b≠0 then Fk b else if(b.length:Int)≠p.v\/(ds.length:Int)≠p.v then 1 else if qy (iz p.v p.ts) ds=true then 1 else if eh 1 ds=0 then 3 else 0
variable {β:Type}
def dN{a:List α}{b:List β}{i:Nat}{x:α}{y:β}(hx:a[i]?=some x)(hy:b[i]?=some y):(a.zip b)[i]?=some (x,y):=by
 rw[V6];exact⟨hx,hy⟩
def Qw(p:PX)(L:Option Addr)(n c:Nat)(b:List SR)(M:Option Addr)(m mc:Nat)(ds:List Int)(k:Nat)(w:World)(hT:Sc w)(hp:p.at_ w)(lp:p.Zg k)(hB:Sl w L n 6 (na SR.cells b))(hb:∀s∈b,s.ok)(hn:n<=1000000)(hD:Sl w M m 1 (jb ds))(hm:m<=1000000):Calls prog 162 #[.agg #[.int .i64 p.v,.slice p.A p.n p.c],.slice L n c,.slice M m mc] w λr w'=>r=.returned (.int .i64 (Ql p b ds))/\Below w.heap.size w w':=by
 have hh:=Hp.start w;have hck:=λw1 hT1 hb=>rk p k w1 hT1 (hp.ext hb) lp;have hbk:=λw1 hT1 hb1=>Jr L n c b w1 hT1 (hB.ext hb1) hb hn;have hdg:=λw1 hT1 hb=>Au p k w1 hT1 (hp.ext hb) lp;have hbl:b.length=n:=hB.Fa SR.len U';have hdl:ds.length=m:=by have:=hD.1;rw[Wb] at this;omega
 unfold Ql;by_cases h0:p.e≠0
 .rw[J' h0];generalize p.e=e at*;refine GR ?_;refine Jb ?_;intro b3 w3 hh;refine bh ?_;intro w12 hh;refine fa ?_;exact⟨rfl,hh.below⟩
 rw[L' h0];have hpe:p.e=0:=Z';rw[hpe] at hck;by_cases h1:Fk b≠0
 .rw[J' h1];generalize Fk b=e at*;exact acq
 rw[L' h1];rw[show Fk b=0 by omega] at hbk;by_cases h2:(b.length:Int)≠p.v
 .rw[J' (.inl h2)];exact acq
 by_cases h3:(ds.length:Int)≠p.v
 .rw[J' (.inr h3)];exact acq
 rw[L' (λh=>h.elim h2 h3)];have hgl:(iz p.v p.ts).length=m:=(by unfold iz;rw[J' (show Gf p.v p.ts=0 from hpe),Wf];omega);have hzl:((iz p.v p.ts).zip ds).length=m:=by rw[List.length_zip];omega
 have hbd:qy (iz p.v p.ts) ds=((iz p.v p.ts).zip ds).any λq=>decide (q.2<q.1\/127<q.2):=rfl;generalize iz p.v p.ts=dg at*;rw[hgl] at hdg;refine GR ?_;refine Jb ?_;intro b3 w3 hh;refine bh ?_;intro w12 hh;refine fa ?_;refine Oa hh (hbk _ (hT.hp hh) hh.below) rfl ?_;intro w17 hh;refine fa ?_;refine qa (hdg _ (hT.hp hh) hh.below) ja.out rfl U' ?_;rintro e_ w34 ⟨G,gc,rfl,h4⟩;refine⟨_,rfl, ?_⟩;replace hh:=hh.join h4;simp only[C',E'] at hh;refine fa ?_;refine Ba [6,9,10,36,37,38,39,40,41,42,43,44,45,46,47,48,49,50,51,52,53,54] 36 (λv w'=>∃i:Nat,i<=m/\v=.int .i64 i/\((dg.zip ds).take i).any (λq=>decide (q.2<q.1\/127<q.2))=false/\Hp w [.row G m gc 3 1 (jb dg),.blk b3 24 [.int .i64 p.v,.slice p.A p.n p.c] (0,0)] w') (λv _=>m-(intOf v).toNat) ?_ ?_
 .exact⟨0,D' _,rfl,rfl,hh⟩
 clear hh;rintro ρ' v w' ⟨i,hi,rfl,hall,hh⟩;by_cases hlt:i<m
 .obtain⟨x,hx⟩:=ea (l:=dg) (k:=i) Z';obtain⟨y,hy⟩:=ea (l:=ds) (k:=i) Z';have hz:=dN hx hy;have hx2:=Uc hx;have hy2:=Uc hy;have hll:(jb dg).length=m:=by rw[Wb];exact hgl
  obtain⟨ad,rfl,hr⟩:=hD.at_ Z';obtain⟨g0,rfl⟩:=hh.Ob (i:=0) rfl Z';by_cases hxy:y<x
  .refine fa ?_;refine Aj ?_;refine fa ?_;refine EE ?_;refine fa ?_;rw[J' (by rw[hbd];exact k9.2 ⟨_,G' hz,M_ (.inl hxy)⟩)];exact⟨rfl,hh.below⟩
  by_cases hy7:127<y
  .refine fa ?_;refine Aj ?_;refine fa ?_;refine EE ?_;refine fa ?_;refine EE ?_;refine fa ?_;rw[J' (by rw[hbd];exact k9.2 ⟨_,G' hz,M_ (.inr hy7)⟩)];exact⟨rfl,hh.below⟩
  refine fa ?_;refine Aj ?_;refine fa ?_;refine EE ?_;refine fa ?_;refine EE ?_;refine fa ?_;refine⟨⟨i+1,Z',rfl,by rw[oa hz,n7,hall,x7,T6,O_ (λh=>h.elim hxy hy7)];rfl,hh⟩,by show m-(i+1)<m-i;omega, ?_⟩;exact Rc
 rw[W_ Z'] at hall;rw[L' (by rw[hbd,hall];decide)];have hcn:=λw1 hb=>Re M m mc ds w1 (hD.ext hb) hm;refine fa ?_;by_cases h9:eh 1 ds=0
 .rw[J' h9];rw[h9] at hcn;refine Oa hh (hcn _ hh.below) rfl ?_;intro w56 hh;refine fa ?_;exact⟨rfl,hh.below⟩
 rw[L' h9];generalize eh 1 ds=N at*;refine Oa hh (hcn _ hh.below) rfl ?_;intro w56 hh;refine fa ?_;exact⟨rfl,hh.below⟩
variable {p:List TR}
def WT{q:List TR}(h:65536<p.length*q.length):Ff p q=3:=by unfold Ff;rw[J' h]
def TY{q:List TR}{e:Int}(h6:¬65536<p.length*q.length){a b:List Int}(h:Ru p q=a++e::b)(ha:∀x∈a,x=0)(he:e≠0):Ff p q=e:=by
 unfold Ff;rw[L' h6,h,List.find?_append,Gh (p9.2 λx hx=>by simp[ha x hx]),B5 (p:=λe:Int=>decide (e≠0)) (by simpa using he)];rfl
def tH{q:List TR}(h6:¬65536<p.length*q.length)(h:∀x∈Ru p q,x=0):Ff p q=Qf (Zb p q):=by
 unfold Ff Qf;rw[L' h6,Gh (p9.2 λx hx=>by simp[h x hx])]
def WB(p q:PX)(k k2:Nat)(w:World)(hT:Sc w)(hp:p.at_ w)(hq:q.at_ w)(lp:p.Zg k)(lq:q.Zg k2)(hk:k+k2<=900000):Calls prog 322 #[.agg #[.int .i64 p.v,.slice p.A p.n p.c],.agg #[.int .i64 q.v,.slice q.A q.n q.c]] w λr w'=>∃g:PX,mg (Ff p.ts q.ts) p.v (sa (Zb p.ts q.ts)) g/\r=.returned (.tuple #[.agg #[.int .i64 g.v,.slice g.A g.n g.c],.int .i64 (Ff p.ts q.ts)])/\Hp w [g.row] w':=by
 have hh:=Hp.start w;obtain⟨pv,pA,pn,pc,ps⟩:=p;obtain⟨qv,qA,qn,qc,qs⟩:=q;have hpl:ps.length=pn:=hp.ln;have hql:qs.length=qn:=hq.ln;have hpn:pn<=1000000:=lp.n;have hqn:qn<=1000000:=lq.n;have okp:xg k ps:=lp.ok;have okq:xg k2 qs:=lq.ok;have szp:∀t∈ps,t.m.size<=100000:=lp.sz;have szq:∀t∈qs,t.m.size<=100000:=lq.sz;replace hp:Sl w pA pn 4 (na TR.cells ps):=hp;replace hq:Sl w qA qn 4 (na TR.cells qs):=hq;clear lp lq;show Calls _ _ _ _ λr w'=>∃g:PX,mg (Ff ps qs) pv (sa (Zb ps qs)) g/\r=.returned (.tuple #[.agg #[.int .i64 g.v,.slice g.A g.n g.c],.int .i64 (Ff ps qs)])/\Hp w [g.row] w';have hmm:pn*qn<=1000000*1000000:=o9 hpn hqn;obtain⟨m,hm⟩:∃m,m=pn*qn:=⟨_,rfl⟩;have hmi:(pn:Int)*(qn:Int)=(m:Int):=by rw[hm];exact(m9 _ _).symm
 by_cases h6:65536<m
 .rw[WT (by rw[hpl,hql,<-hm];exact h6)];refine da (N:=67) (l:=[.agg #[.int .i64 pv,.slice pA pn pc],.agg #[.int .i64 qv,.slice qA qn qc]]) func322 rfl rfl (by simp) ?_;refine SP ?_;intro b2 w2 hh b3 w3 hh b4 w4 hh ws hh;exact YW
 have hbig:¬65536<ps.length*qs.length:=by rw[hpl,hql,<-hm];exact h6
 refine da (N:=67) (l:=[.agg #[.int .i64 pv,.slice pA pn pc],.agg #[.int .i64 qv,.slice qA qn qc]]) func322 rfl rfl (by simp) ?_;refine Dm ?_;intro b2 w2 hh b3 w3 hh b4 w4 hh;replace hh:=hh.Lb 72 4;have hall:∀i,((ps.take i).flatMap λx=>qs.map (Ss x)).length<=65536:=λi=>(by have h1:(Zb ps qs).length=((ps.take i).flatMap λx=>qs.map (Ss x)).length+((ps.drop i).flatMap λx=>qs.map (Ss x)).length:=(by unfold Zb;rw[<-Y_,<-q7,P9]);rw[rj] at h1;omega);refine Ra [5,6,8,10,11,12,25,26,27,28,29,30,31,32,33,34,35,36,37,38,39,40,41,42,43,44,45,46,47,48,49,50,51,52,53,54,55,56,57,58,59,60] 6 25 (λa x w'=>∃(i:Nat)(M:List TR)(A':Option Addr)(c':Nat),i<=pn/\x=.int .i64 i/\a=.slice A' M.length c'/\M=((ps.take i).flatMap λx=>qs.map (Ss x))/\(∀e∈((ps.take i).flatMap λx=>qs.map λy=>jn x.m y.m),e=0)/\Hp w [.row A' M.length c' 72 4 (na TR.cells M),.blk b4 24 [.int .i64 0,.slice none 0 0] (0,0),.blk b3 24 [.int .i64 qv,.slice qA qn qc] (0,0),.blk b2 24 [.int .i64 pv,.slice pA pn pc] (0,0)] w') (λ_ x _=>pn-(intOf x).toNat) ?_ ?_
 .exact⟨0,[],none,0,D' _,rfl,rfl,rfl,λe he=>(nomatch he),hh⟩
 clear hh;rintro ρ' a_ x_ w' ⟨i,M,A',c',hi,rfl,rfl,hM,hz,hh⟩;have hMl:=hall i;rw[<-hM] at hMl;by_cases hlt:i<pn
 .obtain⟨x,hx⟩:=ea (l:=ps) (k:=i) Z';obtain⟨ad,rfl,hr⟩:=hp.at_ Z';have hxm:=G' hx;have hxo:=okp x hxm;have hxs:=szp x hxm;refine fa ?_;refine Qn ?_;refine Sb ?_;intro b8 w8 hh ws hh;replace hh:=hh.perm (P_ (l₁:=[_]));simp only[C',E'] at hh;refine Ra [5,6,10,11,12,32,33,34,35,36,37,38,39,40,41,42,43,44,45,46,47,48,49,50,51,52,53,54,55,56,57,58,59] 6 32 (λa z w'=>∃(j:Nat)(N:List TR)(A':Option Addr)(c':Nat),j<=qn/\z=.int .i64 j/\a=.slice A' N.length c'/\N=M++(qs.take j).map (Ss x)/\(∀e∈(qs.take j).map (λy=>jn x.m y.m),e=0)/\Hp w [.row A' N.length c' 72 4 (na TR.cells N),.blk b8 72 [.string x.m,.bool x.c.neg,.string x.c.Qa,.int .i64 x.c.e] (0,0),.blk b4 24 [.int .i64 0,.slice none 0 0] (0,0),.blk b3 24 [.int .i64 qv,.slice qA qn qc] (0,0),.blk b2 24 [.int .i64 pv,.slice (some ad) pn pc] (0,0)] w') (λ_ z _=>qn-(intOf z).toNat) ?_ ?_
  .refine⟨0,M,A',c',D' _,rfl,rfl,by simp,λe he=>(nomatch he),hh⟩
  clear hh;rintro ρ2 a2 x2 w2 ⟨j,N,A2,c2,hj,rfl,rfl,hN,hz2,hh⟩;by_cases hjn:j<qn
  .obtain⟨y,hy⟩:=ea (l:=qs) (k:=j) Z';obtain⟨ad2,rfl,hr2⟩:=hq.at_ Z';have hym:=G' hy;have hyo:=okq y hym;have hys:=szq y hym;have hmul:∀w1,Calls prog 326 #[.string x.m,.string y.m] w1 λr w'=>r=.returned (.tuple #[.string (mulM x.m y.m),.int .i64 (jn x.m y.m)])/\Below w1.heap.size w1 w':=λw1=>NN x.m y.m w1 hxs hys;have hdm:=λA cc w1 hT1 hS1=>Ee A 2 cc [x.c,y.c] w1 hT1 hS1 (by simpa using⟨hxo.1,hyo.1⟩) (k+k2) (by simpa using⟨hxo.2.mono Z',hyo.2.mono Z'⟩) Z' U';rw[show Cf ([x.c,y.c].map NR.ma)=x.c.ma*y.c.ma by show 1*x.c.ma*y.c.ma=_;rw[W7]] at hdm;obtain⟨R,hR⟩:=kJ (f:=λx y=>jn x.m y.m) hx hy;have hzz:∀e∈((ps.take i).flatMap λx=>qs.map λy=>jn x.m y.m)++(qs.take j).map (λy=>jn x.m y.m),e=0:=λe he=>by
    obtain he|he:=z_.1 he
    .exact hz e he
    exact hz2 e he
   have hNl:N.length<65536:=(by have h1:=hall (i+1);rw[Us hx,Y_,<-hM] at h1;rw[hN,Y_];simp at h1 |-;omega);by_cases he:jn x.m y.m=0
   .refine fa ?_;refine wb (vs:=[_,_,_,_]) ya.out rfl ((hr2.ext hh.below).recAt TR.len hy) rfl U' ?_;refine Sb ?_;intro b10 w10 hh ws hh;refine Oa hh (hmul _) rfl ?_;intro w41 hh;refine fa ?_;refine Rq ?_;intro b54 w54 hh;refine Oa hh (hdm _ _ _ (hT.hp hh) (hh.ra (i:=0) rfl)) rfl ?_;intro w55 hh;refine fa ?_;refine rF ?_;intro b57 w57 hh;refine tF ?_;intro A58 c58 w58 hh;simp only[U_,F_] at hh;replace hh:=hh.sub (s_ _ _);refine fa ?_;have e1:na TR.cells N++[.string (mulM x.m y.m),.bool (nR (x.c.ma*y.c.ma)).neg,.string (nR (x.c.ma*y.c.ma)).Qa,.int .i64 (nR (x.c.ma*y.c.ma)).e]=na TR.cells (N++[Ss x y]):=by rw[La,Lj];rfl
    replace hh:=show Hp w (_::_::.row A58 (N.length+1) c58 72 4 (na TR.cells N++[.string (mulM x.m y.m),.bool (nR (x.c.ma*y.c.ma)).neg,.string (nR (x.c.ma*y.c.ma)).Qa,.int .i64 (nR (x.c.ma*y.c.ma)).e])::_) w58 from hh;rw[e1] at hh;replace hh:=hh.sub (p' _ (p' _ (I' _ (I' _ (I' _ (I' _ (I' _ H_)))))));refine⟨⟨j+1,N++[Ss x y],_,_,Z',rfl,by rw[Y_];rfl,by rw[hN,oa hy,n_,l_];rfl,λe h=> ?_, ?_⟩,by show qn-(j+1)<qn-j;omega, ?_⟩
    .rw[oa hy,n_,z_] at h;obtain h|h:=h
     .exact hz2 e h
     rw[T_.1 h];exact he
    .rw[Y_];exact hh
    exact Rc
   rw[TY hbig hR hzz he];generalize jn x.m y.m=e at*;refine fa ?_;refine wb (vs:=[_,_,_,_]) ya.out rfl ((hr2.ext hh.below).recAt TR.len hy) rfl U' ?_;refine Sb ?_;intro b10 w10 hh ws hh;refine Oa hh (hmul _) rfl ?_;intro w41 hh;refine Jb ?_;intro ws hh;refine vM ?_;exact LR
  obtain rfl:j=qn:=Z';rw[W_ Z'] at hz2 hN;refine fa ?_;replace hh:=hh.sub (I' _ (p' _ (I' _ (I' _ (I' _ H_)))));refine⟨⟨i+1,N,A2,c2,Z',rfl,rfl,by rw[Us hx,<-hM,W_ Z'];exact hN,λe h=> ?_,hh⟩,by show pn-(i+1)<pn-i;omega, ?_⟩
  .rw[Us (f:=λ(x y:TR)=>jn x.m y.m) hx,z_,z6] at h;obtain h|h:=h
   .exact hz e h
   exact hz2 e h
  exact Rc
 obtain rfl:i=pn:=Z';rw[W_ Z'] at hz hM;have hMp:M=Zb ps qs:=hM;rw[tH hbig hz,<-hMp];have hpo:=Rr okp okq Z';rw[<-hMp] at hpo;refine fa ?_;refine qa (Tj pv A' M.length c' M (k+k2) _ hT hh rfl Z' Z' hpo) ja.out rfl U' ?_;rintro e_ w64 ⟨g,og,rfl,hh⟩;refine⟨_,rfl, ?_⟩;exact bU
variable {E:Int}{W w1:World}{base:Nat}{ts:List TR}
def Ei(base:Nat)(E v:Int)(ts:List TR):VP:=λx W=>∃(g:PX)(w1:World),x=.agg #[.int .i64 g.v,.slice g.A g.n g.c]/\mg E v ts g/\base<=w1.heap.size/\Hp w1 [g.row] W
def Ei.ext{v:Int}(x:Value)(w w':World)(h:Ei base E v ts x w)(hb:Below w.heap.size w w'):Ei base E v ts x w':=let⟨g,w1,h1,h2,h3,h4⟩:=h;⟨g,w1,h1,h2,h3,h4.ext hb⟩
def si(base:Nat)(E v:Int)(ts:List TR):VP:=λx W=>∃(g:PX)(w1:World),x=.tuple #[.agg #[.int .i64 g.v,.slice g.A g.n g.c],.int .i64 E]/\mg E v ts g/\base<=w1.heap.size/\Hp w1 [g.row] W
def si.ext{v:Int}(x:Value)(w w':World)(h:si base E v ts x w)(hb:Below w.heap.size w w'):si base E v ts x w':=let⟨g,w1,h1,h2,h3,h4⟩:=h;⟨g,w1,h1,h2,h3,h4.ext hb⟩
def PF(base:Nat)(v:Int)(ts:List TR):VP:=λx W=>∃(g:PX)(w1:World),x=.slice g.A g.n g.c/\mg 0 v ts g/\base<=w1.heap.size/\Hp w1 [g.row] W
def PF.ext{v:Int}(x:Value)(w w':World)(h:PF base v ts x w)(hb:Below w.heap.size w w'):PF base v ts x w':=let⟨g,w1,h1,h2,h3,h4⟩:=h;⟨g,w1,h1,h2,h3,h4.ext hb⟩
variable {b:Nat}{fz:Nat×Nat}
def PX.ne{g:PX}{t:TypeId}{cs:Array Value}(h:Hp w1 [g.row] W)(h3:W.heap[b]?=some (.cells cs t fz))(h1:72≠t):∀x∈[g.row],x.id≠some b:=λx hx=>by
 have hx2:=h.own x hx;obtain rfl:=T_.1 hx;exact II hx2 h3 h1
def Xi(a:List TR×Int)(g:PX):List TR×Int:=if a.2=0 then(sa (Zb a.1 g.ts),Ff a.1 g.ts) else a
def ad4(ps:List PX):List TR×Int:=match ps with|[]=>([],0)|g::l=>l.foldl Xi (g.ts,0)
def eM(ps:List PX):Int:=if bg ps=0 then(ad4 ps).2 else bg ps
def OE{a:List TR×Int}(h:a.2≠0):∀l:List PX,l.foldl Xi a=a
 |[]=>rfl
 |g::l=>(by rw[F7,show Xi a g=a by unfold Xi;rw[L' h]];exact OE h l)
def GN{l:List PX}{a:List TR×Int}{i:Nat}{g:PX}(hx:l[i]?=some g)(h0:((l.take i).foldl Xi a).2=0)(h:Ff ((l.take i).foldl Xi a).1 g.ts≠0):(l.foldl Xi a).2=Ff ((l.take i).foldl Xi a).1 g.ts:=by
 have e:l=l.take i++g::l.drop (i+1):=by rw[<-Ge hx,P9]
 have e2:l.foldl Xi a=(l.drop (i+1)).foldl Xi (Xi ((l.take i).foldl Xi a) g):=by
  conv=>lhs;rw[e]
  rw[V7,F7]
 rw[e2];have e3:Xi ((l.take i).foldl Xi a) g=(sa (Zb ((l.take i).foldl Xi a).1 g.ts),Ff ((l.take i).foldl Xi a).1 g.ts):=J' h0;rw[e3,OE h]
def bO{l:List PX}{a:List TR×Int}{i:Nat}{g:PX}(hx:l[i]?=some g)(h0:((l.take i).foldl Xi a).2=0):(l.take (i+1)).foldl Xi a=(sa (Zb ((l.take i).foldl Xi a).1 g.ts),Ff ((l.take i).foldl Xi a).1 g.ts):=by
 rw[oa hx,V7,F7,List.foldl_nil];exact J' h0
variable {k:Nat}
def JM{q:List TR}(hp:xg k p)(hq:xg j q)(sq:∀t∈q,t.m.size<=100000)(h:Ff p q=0)(hk:k+j<=900000):xg (k+j+65536) (sa (Zb p q))/\∀t∈sa (Zb p q),t.m.size<=100000:=by
 obtain⟨h6,_,h4⟩:=pk h;have ho:=Rr hp hq Z';have hz:=ao λt ht=>(ho t ht).2;rw[rj] at hz;refine⟨λt ht=> ?_,λt ht=> ?_⟩
 .have:Sz (k+j+65536) t.c.ma:=(hz t ht).mono Z';refine⟨?_,this⟩;rw[(Nf _).nf t ht];exact this.ok Z'
 obtain⟨s,hs,e⟩:=Pf t ht;obtain⟨x,hx,hs⟩:=U7.1 hs;obtain⟨y,hy,rfl⟩:=Z_.1 hs;rw[<-e];exact N_ (pO _ _) (sq y hy)
def bG(L:Option Addr)(n c:Nat)(ps:List PX)(k s:Nat)(w:World)(hT:Sc w)(hL:Sl w L n 2 (na PX.cells ps))(hcn:n<=c)(hn:n<=8)(hf:∀g∈ps,g.at_ w)(hl:∀g∈ps,g.Zg k)(hs:k+65536<=s)(hk:k+k+(n-2)*s<=900000):Calls prog 306 #[.slice L n c] w λr w'=>∃g:PX,mg (eM ps) (ff ps) (ad4 ps).1 g/\r=.returned (.tuple #[.agg #[.int .i64 g.v,.slice g.A g.n g.c],.int .i64 (eM ps)])/\Hp w [g.row] w':=by
 have hh:=Hp.start w;have hln:=hL.Fa PX.len U';have hlk:=λw1 hT1 hb=>Yt L n c ps k w1 hT1 (hL.ext hb) Z' (λg hg=>(hf g hg).ext hb) hl;unfold eM;by_cases h0:bg ps=0
 .rw[J' h0];rw[h0] at hlk;obtain⟨hne,om,hvv⟩:=yD h0;obtain⟨g0,pt,rfl⟩:=M6 hne;rw[ll (g:=g0) rfl];have hnp:pt.length+1=n:=hln;obtain⟨ad,rfl,hr⟩:=hL.at_ Z';have hm0:g0∈g0::pt:=q';have hg0:=hl g0 hm0;have h00:(g0::pt)[0]?=some g0:=rfl;show Calls _ _ _ _ λr w'=>∃g:PX,mg (pt.foldl Xi (g0.ts,0)).2 g0.v (pt.foldl Xi (g0.ts,0)).1 g/\r=.returned (.tuple #[.agg #[.int .i64 g.v,.slice g.A g.n g.c],.int .i64 (pt.foldl Xi (g0.ts,0)).2])/\Hp w [g.row] w';refine da (N:=46) (l:=[.slice (some ad) n c]) func306 rfl rfl (by simp) ?_;refine Jb ?_;intro b2 w2 hh;refine QA ?_;intro w11 hh;refine fa ?_;refine Ca 11 [[(0,none)],[(16,some 0)],[(17,some 1)],[(18,some 2)],[(0,none)],[(20,some 4)],[(21,some 5)],[(22,some 6)],[(23,some 7)],[(19,some 3),(24,some 8)],[]] [(10,5),(9,25),(8,24),(7,23),(6,22),(5,21),(4,20),(3,19),(2,18),(1,17),(0,16)] hh mixed T' ?_;refine De ?_;refine jj (0) ?_;refine ru ?_;refine Ro (λ_ hj=>ic hj.hp.below ((hr.recAt PX.len h00) 0 _ rfl)) ?_;refine De ?_;refine jj (0) ?_;refine ru ?_
  refine Ro (λ_ hj=>ic hj.hp.below ((hr.recAt PX.len h00) 1 _ rfl)) ?_;refine Va (i:=8) (PF w11.heap.size g0.v g0.ts) (PF.ext) ?_ ?_
  .intro ρ1 w1 hj hR;exact Pb rfl (qb ja.out (Ga (show ρ1 23=Value.slice _ _ _ from hR.1) Fb)) (um g0.A g0.n g0.c g0.ts w1 ((hf g0 hm0).ext hj.hp.below) hg0.n) (λ_ _ ⟨A,c,hq,ho,hb⟩=>⟨_,hq,hb,⟨g0.v,A,g0.n,c,g0.ts⟩,w1,rfl,⟨rfl,rfl⟩,hj.bl.size,(Hp.start w1).Aa (x:=.row _ _ _ _ _ _) hb ho⟩)
  refine Va (i:=9) (Ei w11.heap.size 0 g0.v g0.ts) (Ei.ext) ?_ ?_
  .intro ρ1 w1 hj hR;exact let⟨g,u,e,o,q,h⟩:=hR.2.1;Od rfl (HD (cs:=[_,_]) ya.out Qi.out (Rb (show ρ1 19=Value.int _ _ from hR.1) (Rb e oe)) rfl) ⟨Below.refl _ _,g,u,by rw[show g.v=g0.v from o.v],o,q,h⟩
  refine xT ?_;refine xa ?_;intro f W hJ hV;have hb_4:=hJ.bl;obtain⟨v5,v25,v24,v23,v22,v21,v20,v19,v18,v17,v16,_⟩:=hV;obtain⟨g24,u24,e24, -⟩:=v24;obtain⟨g25,u25,e25,o25,q25,h25⟩:=v25;obtain⟨b5,e5,hl5,hc5⟩:Gc _ _ _ (f 10) W:=v5;replace hh:=hJ.Qk hh hl5 hc5 q25 h25 (PX.ne h25 hc5 U');refine Da (Na (aa e5 (aa e25 (aa e24 (aa v23 (aa v22 (aa v21 (aa v20 (aa v19 (aa v18 (aa v17 (aa v16 Ea)))))))))))) ?_;dsimp only[Bb];clear e24 e25 e5 hJ;simp only[C',E'] at hh;obtain⟨gv,gA,gn,gc,gts⟩:=g25;obtain rfl:g0.v=gv:=o25.v.symm;obtain rfl:g0.ts=gts:=o25.ts.symm;replace hh:=show Hp w (_::.row gA gn gc 72 4 (na TR.cells g0.ts)::_) W from hh;have hgn:g0.ts.length=gn:=(hh.ra (i:=1) rfl).Fa TR.len U';have hgc:gn<=gc:=hh.me (i:=1) rfl;refine Jb ?_;intro ws hh;refine tQ ?_;refine fa ?_;replace hh:=hh.perm (P_ (l₁:=[_]));simp only[C',E'] at hh;refine Ba [3,7,8,9,29,30,31,32,33,34,35,36,37,38,39,40,41,42,43,44] 29 (λv w'=>∃(i:Nat)(g:PX),i<=n-1/\v=.int .i64 i/\((pt.take i).foldl Xi (g0.ts,0)).2=0/\g.v=g0.v/\g.ts=((pt.take i).foldl Xi (g0.ts,0)).1/\g.Zg (k+i*s)/\Hp w [.row g.A g.n g.c 72 4 (na TR.cells g.ts),.blk b5 24 [.int .i64 g.v,.slice g.A g.n g.c] (0,0),.blk b2 24 [.int .i64 0,.slice none 0 0] (0,0)] w') (λv _=>n-1-(intOf v).toNat) ?_ ?_
  .exact⟨0,⟨g0.v,gA,gn,gc,g0.ts⟩,D' _,rfl,rfl,rfl,rfl,⟨by show gn<=1000000;have:=hg0.n;have h9:=(hf g0 hm0).ln;omega,hgc,hg0.ok.mono (by rw[X6];omega),hg0.sz⟩,hh⟩
  clear hh;rintro ρ' v w' ⟨i,g,hi,rfl,hz,hgv,hts,hgl,hh⟩;by_cases hlt:i<n-1
  .obtain⟨f,hx⟩:=ea (l:=pt) (k:=i) Z';have hmem:f∈g0::pt:=F' _ (G' hx);have his:i*s<=(n-2)*s:=N9 _ Z';have his1:=n9 i s;have hbk:Sl w (if c=1 then some ad else(some ad:Option Addr).map (·.add (1*2))) (n-1) 2 (na PX.cells pt):=hL.back Z' hcn;obtain⟨ab,hAb,sb⟩:=hbk.at_ Z';have om:Value.slice (if c=1 then some ad else(some ad:Option Addr).map (·.add (1*2))) (n-1) (c-1)=.slice (some ab) (n-1) (c-1):=by rw[hAb]
   have hfl:=hl f hmem;have hnx:=bO (a:=(g0.ts,0)) hx hz;have hsp:=GN (a:=(g0.ts,0)) hx hz;rw[<-hts] at hnx hsp;refine fa ?_;refine rS ?_;refine wb (vs:=[_,_]) ya.out rfl (show Rd _ _ [.int .i64 f.v,.slice f.A f.n f.c] from(sb.ext hh.below).recAt PX.len hx) rfl U' ?_;refine Sb ?_;intro b7 w7 hh ws hh;refine qa (WB g f (k+i*s) k _ (hT.hp hh) (hh.ra (i:=1) rfl) ((hf f hmem).ext hh.below) hgl hfl Z') ja.out rfl U' ?_;rintro e_ w36 ⟨h,oh,rfl,h3⟩;refine⟨_,rfl, ?_⟩;replace hh:=hh.join h3;simp only[C',E'] at hh;by_cases he:Ff g.ts f.ts=0
   .obtain⟨hv,hA,hn2,hc2,hts2⟩:=h;rw[he] at oh;obtain rfl:g.v=hv:=oh.v.symm;obtain rfl:sa (Zb g.ts f.ts)=hts2:=oh.ts.symm;replace hh:=show Hp w (.row hA hn2 hc2 72 4 (na TR.cells (sa (Zb g.ts f.ts)))::_) w36 from hh;have hhn:(sa (Zb g.ts f.ts)).length=hn2:=(hh.ra (i:=0) rfl).Fa TR.len U';have hhc:hn2<=hc2:=hh.me (i:=0) rfl;have h4:=(pk he).2.2;have htl:=JM hgl.ok hfl.ok hfl.sz he Z';refine Dm ?_;intro b8 w8 hh ws hh ws hh;replace hh:=hh.sub (p' _ (I' _ (p' _ (p' _ (I' _ (I' _ H_))))));refine⟨⟨i+1,⟨g.v,hA,hn2,hc2,sa (Zb g.ts f.ts)⟩,Z',rfl,by rw[hnx];exact he,hgv,by rw[hnx],⟨by show hn2<=1000000;omega,hhc,htl.1.mono (by rw[n9];omega),htl.2⟩,hh⟩,by show n-1-(i+1)<n-1-i;omega, ?_⟩;exact Rc
   rw[hsp he];refine Dm ?_;intro b8 w8 hh ws hh ws hh;refine bV (qd rfl (pd (vs:=[_,_]) ya.out (hh.pb (i:=5) (n:=2) rfl rfl) rfl) (gh (ej rfl) Be)) ?_;exact LR
  obtain rfl:i=n-1:=Z';rw[W_ Z'] at hz hts;refine Jb ?_;intro ws hh;refine Lk ?_;rw[hz];exact⟨g,⟨hgv,hts⟩,rfl,hh.sub (I' _ (R9 _))⟩
 rw[L' h0];generalize bg ps=e at*;refine da (N:=46) (l:=[.slice L n c]) func306 rfl rfl (by simp) ?_;refine Jb ?_;intro b2 w2 hh;refine QA ?_;intro w11 hh;exact kT
def Ut{x:TR}(b:List TR):∀{a:List TR},(∀t∈a,Ah t.m x.m=true)->nh (a++b) x=a++nh b x
 |[],_=>rfl
 |t::a,h=>(by rw[C',nh,J' (h t q'),Ut b λs hs=>h s (F' _ hs)];rfl)
def XR{x:TR}{l:List TR}(h:∀t∈l,Ah t.m x.m=true):nh l x=l++[⟨x.m,nR x.c.ma⟩]:=by
 have:=Ut [] h;rwa[o_] at this
def cY{x t:TR}{l:List TR}{i:Nat}(hx:l[i]?=some t)(h:∀s∈l.take i,Ah s.m x.m=true)(h1:Ah t.m x.m=false):nh l x=if t.m=x.m then l.take i++⟨x.m,nR (t.c.ma+x.c.ma)⟩::l.drop (i+1) else l.take i++⟨x.m,nR x.c.ma⟩::l.drop i:=by
 have e:l=l.take i++t::l.drop (i+1):=by rw[<-Ge hx,P9]
 have e2:nh l x=l.take i++nh (t::l.drop (i+1)) x:=by
  conv=>lhs;rw[e]
  exact Ut _ h
 rw[e2,nh,L' (by rw[h1];decide),Ge hx];by_cases he:t.m=x.m
 .rw[J' he,L' (by rw[he,Og];decide)]
 rw[L' he,J']
 cases h2:Ah x.m t.m with
 |true=>rfl
 |false=>exact absurd (Ho h1 h2) he
def zI(A:Option Addr)(n c:Nat)(l:List TR)(x:TR)(w:World)(hS:Sl w A n 4 (na TR.cells l))(hcn:n<=c)(hn:n<=1000000)(ho:∀t∈l,t.c.ok)(hx:x.c.ok):Calls prog 232 #[.slice A n c,.agg #[.string x.m,.bool x.c.neg,.string x.c.Qa,.int .i64 x.c.e]] w λr w'=>∃A' c',r=.returned (.slice A' (nh l x).length c')/\Hp w [.row A' (nh l x).length c' 72 4 (na TR.cells (nh l x))] w':=by
 have hh:=Hp.start w;have hln:=hS.Fa TR.len U';have hfo:=λw1=>Mm x.c w1 (by have:=hx.1;omega) (by have:=hx.2.1;omega) (by have:=hx.2.2;omega);refine da (N:=76) (l:=[.slice A n c,.agg #[.string x.m,.bool x.c.neg,.string x.c.Qa,.int .i64 x.c.e]]) func232 rfl rfl (by simp) ?_;refine Jb ?_;intro b3 w3 hh;refine Ba [5,7,8,9,10,11,12,13,14,15,16,17,18,19,20,21,22] 5 (λv w'=>∃i:Nat,i<=n/\v=.int .i64 i/\(∀t∈l.take i,Ah t.m x.m=true)/\Hp w [.blk b3 72 [.string x.m,.bool x.c.neg,.string x.c.Qa,.int .i64 x.c.e] (0,0)] w') (λv _=>n-(intOf v).toNat) ?_ ?_
 .exact DV
 clear hh;rintro ρ' v w' ⟨i,hi,rfl,hall,hh⟩;by_cases hlt:i<n
 .obtain⟨t,ht⟩:=ea (l:=l) (k:=i) Z';obtain⟨ad,rfl,hr⟩:=hS.at_ Z';have hto:=ho t (G' ht)
  cases hl:Ah t.m x.m with
  |true=>
   have hbl:Op.bytesLess t.m.toList x.m.toList=true:=by rw[Ok,hl]
   refine fa ?_;refine JR ?_;refine cd ?_;refine De ?_;refine Vp ?_;refine rB ?_;refine Qr ?_;refine dG (De ?_);refine dG (cd ?_);refine dG (jj (i) ?_);refine dG (ru ?_);refine DM ?_;refine dG (yd ?_);refine dG (xe 0 ?_);refine xa ?_;intro f W hJ hV;have hb_2:=hJ.bl;obtain⟨v18,v17,v16,v15,v14,v13,v12,v11,v10,v9,v8,v7,_⟩:=hV;replace hh:=hJ.hp;refine GV ?_;dsimp only[Bb];clear hJ;refine gT ?_;refine Ct rfl rfl U' ?_;refine fa ?_;rw[hbl];refine fa ?_;refine⟨⟨i+1,Z',rfl,λs hs=> ?_,hh⟩,by show n-(i+1)<n-i;omega, ?_⟩
   .rw[oa ht] at hs;obtain hs|hs:=z_.1 hs
    .exact hall s hs
    rw[T_.1 hs];exact hl
   exact Rc
  |false=>
   have hbl:Op.bytesLess t.m.toList x.m.toList=false:=by rw[Ok,hl]
   have hput:=cY ht hall hl;have hS1:=hS.front (m:=i) Z';rw[show(na TR.cells l).take (i*4)=na TR.cells (l.take i) from Ih TR.len l i] at hS1;have o1:=Ta TR.one (l.take i);refine fa ?_;refine JR ?_;refine cd ?_;refine De ?_;refine Vp ?_;refine rB ?_;refine Qr ?_;refine dG (De ?_);refine dG (cd ?_);refine dG (jj (i) ?_);refine dG (ru ?_);refine DM ?_;refine dG (yd ?_);refine dG (xe 0 ?_);refine xa ?_;intro f W hJ hV;have hb_2:=hJ.bl;obtain⟨v18,v17,v16,v15,v14,v13,v12,v11,v10,v9,v8,v7,_⟩:=hV;replace hh:=hJ.hp;refine GV ?_;dsimp only[Bb];clear hJ;refine gT ?_;refine Ct rfl rfl U' ?_;refine fa ?_;rw[hbl];refine fa ?_;refine eH ?_;intro b23 w23 hh;refine fa ?_;refine aR ?_;refine Gb hh (i:=0) rfl rfl rfl (hS1.ext hh.below) lb.out ya.out rfl U' ?one11 Z' Z' U' ?kk11
   case one11=>first|rfl|assumption|exact Pa _|exact oneCells_u8s _
   intro A27 c27 w27 hh;simp only[U_] at hh;refine fa ?_;have hpl:=λw1=>PE t.c x.c w1 hto hx;by_cases he:t.m=x.m
   .rw[J' he] at hput;have hS2:=hS.back (l:=i+1) Z' hcn;rw[show(na TR.cells l).drop ((i+1)*4)=na TR.cells (l.drop (i+1)) from ig TR.len l (i+1)] at hS2;have o2:=Ta TR.one (l.drop (i+1));refine qQ ?_;refine cd ?_;refine De ?_;refine Vp ?_;refine rB ?_;refine Qr ?_;refine dG (De ?_);refine dG (cd ?_);refine dG (jj (i) ?_);refine dG (ru ?_);refine DM ?_;refine dG (yd ?_);refine dG (xe 1 ?_);refine xa ?_;intro f W hJ hV;have hb_5:=hJ.bl;obtain⟨v39,v38,v37,v36,v35,v34,v33,v32,v31,v30,v29,v28,_⟩:=hV;replace hh:=hJ.hp;refine xR ?_;dsimp only[Bb];clear hJ;refine gT ?_
    (first|refine ak rfl rfl (by first|rfl|assumption|decide) U' ?_|refine Zj rfl rfl (by first|assumption|decide) U' ?_)
    refine fa ?_;refine Ca 13 [[(6,none)],[(3,none)],[(43,some 1)],[(0,none)],[(5,none)],[(45,some 3),(46,some 4)],[(47,some 5)],[(48,some 6)],[(3,none)],[(50,some 8)],[(49,some 7),(51,some 9)],[(44,some 2),(52,some 10)],[(53,some 11)]] [(12,54),(11,53),(10,52),(9,51),(8,50),(7,49),(6,48),(5,47),(4,46),(3,45),(2,44),(1,43),(0,42)] hh mixed T' ?_;refine De ?_;refine yd ?_;refine xe 1 ?_;refine De ?_;refine cd ?_;refine jj (i) ?_;refine ru ?_;refine Dn [_,_,_] (λ_ hj=>((hr.ext hj.hp.below).recAt TR.len ht).drop 1) ?_;refine yd ?_;refine Vd 1 [_,_,_] ?_;refine dC (λ_ hj=>hpl _) ?_;refine dB [_,_,_,_] ?_;refine qq [_,_,_,_] ?_;refine xa ?_;intro f W hJ hV;have hb_6:=hJ.bl;obtain⟨v54,v53,v52,v51,v50,v49,v48,v47,v46,v45,v44,v43,v42,_⟩:=hV;obtain⟨A54,c54,e54,f54⟩:Rows _ _ _ (f 12) W:=v54;replace hh:=hJ.hp;refine Da (Na (aa e54 (aa v53 (aa v52 (aa v51 (aa v50 (aa v49 (aa v48 (aa v47 (aa v46 (aa v45 (aa v44 (aa v43 (aa v42 Ea)))))))))))))) ?_;dsimp only[Bb];clear e54 hJ
    refine Gb hh (i:=0) rfl rfl rfl (f54) lb.out ya.out rfl U' (by first|rfl|exact Xb _|exact Nb _|exact Pa _|exact Ta NR.one _) Z' Z' U' ?_;intro A55 c55 w55 hh;simp only[U_] at hh;refine fa ?_;refine Ia rfl rfl U' (Yf lb.out ya.size rfl rfl (l:=i+1) Z' Z' Z') ?_;refine Gb hh (i:=0) rfl rfl rfl (hS2.ext hh.below) lb.out ya.out rfl U' ?one12 Z' Z' U' ?kk12
    case one12=>first|rfl|assumption|exact Pa _|exact oneCells_u8s _
    intro A61 c61 w61 hh;simp only[U_] at hh;refine fa ?_;have e1:(nh l x).length=0+i+1+(n-(i+1)):=by rw[hput,Y_,E_,R_,M9];omega
    have e2:na TR.cells (nh l x)=[]++na TR.cells (l.take i)++[.string x.m,.bool (nR (t.c.ma+x.c.ma)).neg,.string (nR (t.c.ma+x.c.ma)).Qa,.int .i64 (nR (t.c.ma+x.c.ma)).e]++na TR.cells (l.drop (i+1)):=by rw[hput,La,Fh,E',l_];rfl
    exact aaG
   rw[L' he] at hput;have hS2:=hS.back (l:=i) Z' hcn;rw[show(na TR.cells l).drop (i*4)=na TR.cells (l.drop i) from ig TR.len l i] at hS2;have o2:=Ta TR.one (l.drop i);refine qQ ?_;refine cd ?_;refine De ?_;refine Vp ?_;refine rB ?_;refine Qr ?_;refine dG (De ?_);refine dG (cd ?_);refine dG (jj (i) ?_);refine dG (ru ?_);refine DM ?_;refine dG (yd ?_);refine dG (xe 1 ?_);refine xa ?_;intro f W hJ hV;have hb_5:=hJ.bl;obtain⟨v39,v38,v37,v36,v35,v34,v33,v32,v31,v30,v29,v28,_⟩:=hV;replace hh:=hJ.hp;refine xR ?_;dsimp only[Bb];clear hJ;refine gT ?_
   (first|refine ak rfl rfl (by first|rfl|assumption|decide) U' ?_|refine Zj rfl rfl (by first|assumption|decide) U' ?_)
   refine fa ?_;refine aaW ?_;refine De ?_;refine yd ?_;refine xe 1 ?_;refine yd ?_;refine Vd 1 [_,_,_] ?_;refine dC (λ_ hj=>hfo _) ?_;refine dB [_,_,_,_] ?_;refine qq [_,_,_,_] ?_;refine xa ?_;intro f W hJ hV;have hb_8:=hJ.bl;obtain⟨v69,v68,v67,v66,v65,v64,v63,v62,_⟩:=hV;obtain⟨A69,c69,e69,f69⟩:Rows _ _ _ (f 7) W:=v69;replace hh:=hJ.hp;refine aaH ?_;dsimp only[Bb];clear e69 hJ;refine j0 ?_;intro A70 c70 w70 hh;simp only[U_] at hh;refine fa ?_;refine Ia rfl rfl U' (Yf lb.out ya.size rfl rfl (l:=i) Z' Z' Z') ?_;refine Gb hh (i:=0) rfl rfl rfl (hS2.ext hh.below) lb.out ya.out rfl U' ?one13 Z' Z' U' ?kk13
   case one13=>first|rfl|assumption|exact Pa _|exact oneCells_u8s _
   intro A75 c75 w75 hh;simp only[U_] at hh;refine fa ?_;have e1:(nh l x).length=0+i+1+(n-i):=by rw[hput,Y_,E_,R_,M9];omega
   exact ac6
 obtain rfl:i=n:=Z';have hput:=XR (x:=x) (l:=l) (by rwa[W_ Z'] at hall);rw[show l++[⟨x.m,nR x.c.ma⟩]=l.take i++⟨x.m,nR x.c.ma⟩::l.drop i by rw[W_ Z',B8 Z']] at hput;have hS1:=hS.front (m:=i) Z';rw[show(na TR.cells l).take (i*4)=na TR.cells (l.take i) from Ih TR.len l i] at hS1;have o1:=Ta TR.one (l.take i);have hS2:=hS.back (l:=i) Z' hcn;rw[show(na TR.cells l).drop (i*4)=na TR.cells (l.drop i) from ig TR.len l i] at hS2;have o2:=Ta TR.one (l.drop i);refine fa ?_;refine JR ?_;refine cd ?_;refine De ?_;refine Vp ?_;refine rB ?_;refine Qr ?_;refine dS (dS ?_);refine Vn (i:=7) rfl (λρ1 w1 hj hR=>(show ρ1 11=Value.bool _ from hR.2.2.1)) U' ?_;refine dS (dS (dS (dS ?_)));refine xa ?_;intro f W hJ hV;have hb_2:=hJ.bl;obtain⟨v18,v17,v16,v15,v14,v13,v12,v11,v10,v9,v8,v7,_⟩:=hV;replace hh:=hJ.hp;refine GV ?_;dsimp only[Bb];clear hJ;refine fa ?_;refine eH ?_;intro b23 w23 hh;refine fa ?_;refine aR ?_;refine Gb hh (i:=0) rfl rfl rfl (hS1.ext hh.below) lb.out ya.out rfl U' ?one14 Z' Z' U' ?kk14
 case one14=>first|rfl|assumption|exact Pa _|exact oneCells_u8s _
 intro A27 c27 w27 hh;simp only[U_] at hh;refine fa ?_;refine qQ ?_;refine cd ?_;refine De ?_;refine Vp ?_;refine rB ?_;refine Qr ?_;refine dS (dS ?_);refine Vn (i:=7) rfl (λρ1 w1 hj hR=>(show ρ1 32=Value.bool _ from hR.2.2.1)) U' ?_;refine dS (dS (dS (dS ?_)));refine xa ?_;intro f W hJ hV;have hb_5:=hJ.bl;obtain⟨v39,v38,v37,v36,v35,v34,v33,v32,v31,v30,v29,v28,_⟩:=hV;replace hh:=hJ.hp;refine xR ?_;dsimp only[Bb];clear hJ;refine fa ?_;refine aaW ?_;refine De ?_;refine yd ?_;refine xe 1 ?_;refine yd ?_;refine Vd 1 [_,_,_] ?_;refine dC (λ_ hj=>hfo _) ?_;refine dB [_,_,_,_] ?_;refine qq [_,_,_,_] ?_;refine xa ?_;intro f W hJ hV;have hb_8:=hJ.bl;obtain⟨v69,v68,v67,v66,v65,v64,v63,v62,_⟩:=hV;obtain⟨A69,c69,e69,f69⟩:Rows _ _ _ (f 7) W:=v69;replace hh:=hJ.hp;refine aaH ?_;dsimp only[Bb];clear e69 hJ;refine j0 ?_;intro A70 c70 w70 hh;simp only[U_] at hh;refine fa ?_;refine Ia rfl rfl U' (Yf lb.out ya.size rfl rfl (l:=i) Z' Z' Z') ?_;refine Gb hh (i:=0) rfl rfl rfl (hS2.ext hh.below) lb.out ya.out rfl U' ?one15 Z' Z' U' ?kk15
 case one15=>first|rfl|assumption|exact Pa _|exact oneCells_u8s _
 intro A75 c75 w75 hh;simp only[U_] at hh;refine fa ?_;have e1:(nh l x).length=0+i+1+(i-i):=by rw[hput,Y_,E_,R_,M9];omega
 exact ac6
def Lz{l:List TR}(ho:xg k l)(hk:k+l.length<=3999980):xg (k+l.length) (Jh l):=λt ht=>by
 have h:=yG l (λt ht=>(ho t ht).2) t ht;exact⟨by rw[xH l t ht];exact h.ok Z',h⟩
def mz(v:Int)(A:Option Addr)(n c:Nat)(l:List TR)(k:Nat)(w:World)(hS:Sl w A n 4 (na TR.cells l))(hn:n<=100000)(ho:xg k l)(hk:k+n<=3999980):Calls prog 160 #[.int .i64 v,.slice A n c] w λr w'=>∃g:PX,mg (Qf l) v (sa l) g/\r=.returned (.tuple #[.agg #[.int .i64 g.v,.slice g.A g.n g.c],.int .i64 (Qf l)])/\Hp w [g.row] w':=by
 have hh:=Hp.start w;have hln:=hS.Fa TR.len U';refine da (N:=49) (l:=[.int .i64 v,.slice A n c]) func160 rfl rfl (by simp) ?_;refine Jb ?_;intro b4 w4 hh;replace hh:=hh.Lb 72 4;refine Ra [6,7,10,11,12,13,14,15,16,17,18,19,20,21] 6 7 (λa x w'=>∃(i:Nat)(A':Option Addr)(c':Nat),i<=n/\x=.int .i64 i/\a=.slice A' (Jh (l.take i)).length c'/\Hp w [.row A' (Jh (l.take i)).length c' 72 4 (na TR.cells (Jh (l.take i))),.blk b4 24 [.int .i64 0,.slice none 0 0] (0,0)] w') (λ_ x _=>n-(intOf x).toNat) ?_ ?_
 .exact⟨0,none,0,D' _,rfl,rfl,hh⟩
 clear hh;rintro ρ' a_ x_ w' ⟨i,A',c',hi,rfl,rfl,hh⟩;have hGl:=JA (l.take i);rw[R_] at hGl;by_cases hlt:i<n
 .obtain⟨x,hx⟩:=ea (l:=l) (k:=i) Z';obtain⟨ad,rfl,hr⟩:=hS.at_ Z';have hgo:=Lz (l:=l.take i) (k:=k) (λt ht=>ho t (N8 ht)) (by rw[R_];omega);refine fa ?_;refine Qn ?_;refine qa (zI A' (Jh (l.take i)).length c' (Jh (l.take i)) x _ (hh.ra (i:=0) rfl) (hh.me (i:=0) rfl) Z' (λt ht=>(hgo t ht).1) (ho x (G' hx)).1) ja.out rfl U' ?_;rintro e_ w21 ⟨A2,c2,rfl,h3⟩;refine⟨_,rfl, ?_⟩;replace hh:=hh.join h3;simp only[C',E'] at hh;rw[<-yh,<-oa hx] at hh |-;refine fa ?_;replace hh:=hh.sub (I' _ (p' _ (I' _ H_)));refine⟨⟨i+1,A2,c2,Z',rfl,rfl,hh⟩,by show n-(i+1)<n-i;omega, ?_⟩;exact Rc
 obtain rfl:i=n:=Z';rw[W_ Z'] at hh hGl |-;have hgo:=Lz ho Z';have hgt:sa l=(Jh l).filter Cp:=rfl;unfold Qf;rw[hgt];generalize Jh l=G at*;obtain⟨m,hm⟩:∃m,m=G.length:=⟨_,rfl⟩;rw[<-hm] at hh |-;refine fa ?_;replace hh:=hh.Lb 72 4;refine Ra [8,9,22,23,24,25,26,27,28,29,30,31,32,33,34,35,36,37,38,39,40,41] 8 9 (λa x w'=>∃(j:Nat)(B:Option Addr)(d:Nat),j<=m/\x=.int .i64 j/\a=.slice B ((G.take j).filter Cp).length d/\Hp w [.row B ((G.take j).filter Cp).length d 72 4 (na TR.cells ((G.take j).filter Cp)),.row A' m c' 72 4 (na TR.cells G),.blk b4 24 [.int .i64 0,.slice none 0 0] (0,0)] w') (λ_ x _=>m-(intOf x).toNat) ?_ ?_
 .exact⟨0,none,0,D' _,rfl,rfl,hh⟩
 clear hh;rintro ρ2 a2 x2 w2 ⟨j,B,d,hj,rfl,rfl,hh⟩;have hfl:((G.take j).filter Cp).length<=j:=N_ (m6 _ _) (by rw[R_];omega);by_cases hjm:j<m
 .obtain⟨t,ht⟩:=ea (l:=G) (k:=j) Z';have hto:=hgo t (G' ht);have hsg:=λw1=>sf t.c w1 (by have:=hto.1.1;omega);have hzz:t.c.i.sign=0↔t.c.ma=0:=(by exact acd);obtain⟨g0,rfl⟩:=hh.Ob (i:=1) rfl Z';by_cases hz:t.c.ma=0
  .have hs:=hzz.2 hz;have hft:(G.take (j+1)).filter Cp=(G.take j).filter Cp:=(by rw[oa ht,K7,List.filter_cons,L' (by unfold Cp;rw[M_ hz];decide)];simp);refine fa ?_;refine H0 ?_;refine Oa hh (hsg _) rfl ?_;intro w33 hh;refine fa ?_;refine⟨⟨j+1,B,d,Z',rfl,by rw[hft];rfl,by rw[hft];exact hh⟩,by show m-(j+1)<m-j;omega, ?_⟩;exact Rc
  have hs:¬t.c.i.sign=0:=λh=>hz (hzz.1 h);have hft:(G.take (j+1)).filter Cp=(G.take j).filter Cp++[t]:=(by rw[oa ht,K7,List.filter_cons,J' (by unfold Cp;rw[O_ hz];rfl)];simp);refine fa ?_;refine H0 ?_;refine Oa hh (hsg _) rfl ?_;intro w33 hh;refine fa ?_;refine wb (vs:=[_,_,_,_]) ya.out rfl (hh.Gd (f:=TR.cells) (x:=t) (l:=G) (i:=1) rfl TR.len U' ht) rfl U' ?_;refine rF ?_;intro b40 w40 hh;refine Vr ?_;intro A41 c41 w41 hh;simp only[U_,F_] at hh;replace hh:=hh.sub (s_ _ _);refine fa ?_;refine⟨⟨j+1,A41,c41,Z',rfl,by rw[hft,Y_];rfl,by rw[hft,Y_,La,Lj];exact hh⟩,by show m-(j+1)<m-j;omega, ?_⟩;exact Rc
 obtain rfl:j=m:=Z';rw[W_ Z'] at hh hfl |-;generalize G.filter Cp=F at*;by_cases h4:4096<F.length
 .rw[J' h4];refine Jb ?_;intro ws hh;refine Lk ?_;exact BV
 rw[L' h4];refine Jb ?_;intro ws hh;refine Lk ?_;exact⟨⟨v,B,F.length,d,F⟩,⟨rfl,rfl⟩,rfl,hh.sub (I' _ (R9 _))⟩
def Hd(v:Int):ByteArray:=⟨(List.replicate v.toNat 0).toArray⟩
def Ej{v:Int}(h:0<=v):((Hd v).size:Int)=v:=by
 have:(Hd v).size=v.toNat:=by unfold Hd;show(List.replicate v.toNat (0:UInt8)).toArray.size=_;rw[S6,H9]
 omega
def Ot(v:Int):Ae (Hd v).data.toList=true:=by
 unfold Ae Hd;rw[u_];intro c hc;have:(⟨(List.replicate v.toNat (0:UInt8)).toArray⟩:ByteArray).data.toList=List.replicate v.toNat 0:=rfl;rw[this] at hc;rw[(Y5.1 hc).2];decide
def NS{l:List TR}(h:l.length<=4096):Qf l=0:=by
 unfold Qf;have:=Vb l;rw[L' Z']
def vH{v:Int}{t:TR}(hf:Wg v=true)(h:pe v t=true):Gi v [t]=0:=by
 unfold Gi;rw[L' (by rw[hf];simp[h]),L' (by simp),NS (by simp)]
def To(v:Int):Int:=if Wg v=false then 1 else 0
def nj(v:Int)(c:NR)(k:Nat)(w:World)(hT:Sc w)(hc:c.ok/\Sz k c.ma)(hk:k<=2999980):Calls prog 68 #[.int .i64 v,.agg #[.bool c.neg,.string c.Qa,.int .i64 c.e]] w λr w'=>∃g:PX,mg (To v) v (sa [⟨Hd v,c⟩]) g/\r=.returned (.tuple #[.agg #[.int .i64 g.v,.slice g.A g.n g.c],.int .i64 (To v)])/\Hp w [g.row] w':=by
 have hh:=Hp.start w;have hfw:=λw1=>Ao v w1
 cases hf:Wg v with
 |false=>
  rw[hf] at hfw;rw[show To v=1 by unfold To;rw[J' hf]];refine da (N:=20) (l:=[.int .i64 v,.agg #[.bool c.neg,.string c.Qa,.int .i64 c.e]]) func68 rfl rfl (by simp) ?_;refine Sb ?_;intro b3 w3 hh b4 w4 hh;refine Oa hh (hfw _) rfl ?_;intro w7 hh;refine Jb ?_;intro ws hh;exact YW
 |true=>
  rw[hf] at hfw;obtain⟨h0,h12⟩:=Pe.1 hf;have hm:Gi v [⟨Hd v,c⟩]=0:=vH hf (by unfold pe;rw[Ot,M_ (Ej h0)];rfl);have hmk:=λA cc w1 hT1 hS1=>Rm v A 1 cc [⟨Hd v,c⟩] k w1 hT1 hS1 U' Z' (λt ht=>by rw[T_.1 ht];exact hc) (λt ht=>by rw[T_.1 ht];have:=Ej h0;show(Hd v).size<=_;omega);rw[hm] at hmk;rw[show To v=0 by unfold To;rw[L' (by rw[hf];decide)]];refine da (N:=20) (l:=[.int .i64 v,.agg #[.bool c.neg,.string c.Qa,.int .i64 c.e]]) func68 rfl rfl (by simp) ?_;refine Sb ?_;intro b3 w3 hh b4 w4 hh;refine Oa hh (hfw _) rfl ?_;intro w7 hh;refine fa ?_;refine jl [] [0,0,2,6,0,30,62,127,255,255,1023,2047] 7 [[(0,none)],[(0,none)],[(11,some 1)],[(12,some 2)],[(3,none)],[(13,some 3),(14,some 4)],[(15,some 5)]] [(6,16),(5,15),(4,14),(3,13),(2,12),(1,11),(0,10)] [([],4,[(6,16),(5,15),(4,14),(3,13),(2,12),(1,11),(0,10)])] hh mixed T' T' U' ?_;refine cd ?_;refine cd ?_;refine Va (i:=2) (Li v.toNat 1 (ij (List.replicate v.toNat 0))) (Li.ext) ?_ ?_
  .intro ρ1 w1 hj hR;exact Qx v.toNat ▸ QX (n:=v.toNat) (show ρ1 11=Value.int _ _ from hR.1) (show ρ1 11=Value.int _ _ from hR.1) Z' Z' lb.out ya.out rfl Z' Z' (λ_ _ h1 h2=>⟨h2,h1⟩)
  refine Va (i:=3) (Is (.string (Hd v))) (Is.ext) ?_ ?_
  .intro ρ1 w1 hj hR;obtain⟨g12,e12,o12⟩:=hR.1;exact let⟨g,e,o⟩:=hR.1;Od rfl (ik (l:=List.replicate v.toNat 0) lb.out lb.out lb.out e o) ⟨Below.refl _ _,rfl⟩
  refine Vd 1 [_,_,_] ?_;refine dB [_,_,_,_] ?_;refine qq [_,_,_,_] ?_;refine xa ?_;intro p_ hp_;simp only[S_,O9,or_false] at hp_;obtain rfl:=hp_
  intro f W hJ hV;have hb_3:=hJ.bl;obtain⟨v16,v15,v14,v13,v12,v11,v10,_⟩:=hV;simp only[Hf];have e10:f 0=_:=v10;rw[e10];have e11:f 1=_:=v11;rw[e11];obtain⟨g12,e12,o12⟩:Li v.toNat 1 (ij (List.replicate v.toNat 0)) (f 2) W:=v12;rw[e12];have e13:f 3=_:=v13;rw[e13];have e14:f 4=_:=v14;rw[e14];have e15:f 5=_:=v15;rw[e15];obtain⟨A16,c16,e16,f16⟩:Rows _ _ _ (f 6) W:=v16;rw[e16];replace hh:=hJ.hp;clear e10 e11 e12 e13 e14 e15 e16 hJ;refine qa (hmk _ _ _ (hT.hp hh) f16) ja.out rfl U' ?_;rintro e_ w17 ⟨g,og,rfl,h3⟩;refine⟨_,rfl, ?_⟩;replace hh:=hh.join h3;refine Yc ?_;simp only[C',E'] at hh;refine Qb (i:=8) (by repeat (first|exact Cb|refine Xa ?_|refine Db ?_|refine np_scope ?_)) rfl T' T' T' (λ_=>Ke (show _=Value.tuple (List.toArray _) from rfl) rfl) U' ?_;refine Qb (i:=9) (by repeat (first|exact Cb|refine Xa ?_|refine Db ?_|refine np_scope ?_)) rfl T' T' T' (λ_=>Ke (show _=Value.tuple (List.toArray _) from rfl) rfl) U' ?_;refine Sg 10 U' T' U' T' T' ?_;exact bU
def Mk(v:Int)(x:Nat):ByteArray:=⟨((List.replicate v.toNat (0:UInt8)).set x 1).toArray⟩
def Hs{v:Int}{x:Nat}(h:0<=v):((Mk v x).size:Int)=v:=by
 have:(Mk v x).size=v.toNat:=by unfold Mk;show((List.replicate v.toNat (0:UInt8)).set x 1).toArray.size=_;rw[S6,U9,H9]
 omega
def LG(v:Int)(x:Nat):Ae (Mk v x).data.toList=true:=by
 unfold Ae;rw[u_];intro c hc;have:(Mk v x).data.toList=(List.replicate v.toNat 0).set x 1:=rfl;rw[this] at hc;obtain h|rfl:=J8 hc
 .rw[(Y5.1 h).2];decide
 decide
def eP{l:List UInt8}{i:Nat}{c:UInt8}(h:i<l.length):Hb (ij l) (i*1) [.int .u8 c.toNat]=ij (l.set i c):=by
 unfold Hb ij;rw[I_,X5,J' h,n_,q_,List.map_take,J6,l_];rfl
def xw(v x:Int):Int:=if Wg v=false\/x<0\/v<=x then 1 else 0
def uJ(v x:Int)(w:World)(hT:Sc w):Calls prog 233 #[.int .i64 v,.int .i64 x] w λr w'=>∃g:PX,mg (xw v x) v (sa [⟨Mk v x.toNat,nR ((1:Int):Dyadic)⟩]) g/\r=.returned (.tuple #[.agg #[.int .i64 g.v,.slice g.A g.n g.c],.int .i64 (xw v x)])/\Hp w [g.row] w':=by
 have hh:=Hp.start w;have hfw:=λw1=>Ao v w1
 cases hf:Wg v with
 |false=>
  rw[hf] at hfw;rw[show xw v x=1 by unfold xw;rw[J' (.inl hf)]];exact QR
 |true=>
  rw[hf] at hfw;obtain⟨h0,h12⟩:=Pe.1 hf;by_cases hx0:x<0
  .rw[show xw v x=1 by unfold xw;rw[J' (.inr (.inl hx0))]];exact QR
  by_cases hx1:v<=x
  .rw[show xw v x=1 by unfold xw;rw[J' (.inr (.inr hx1))]];exact QR
  rw[show xw v x=0 by unfold xw;rw[L' (by rintro (h|h|h);exact absurd (hf.symm.trans h) U';omega;omega)]];have hm:Gi v [⟨Mk v x.toNat,nR ((1:Int):Dyadic)⟩]=0:=vH hf (by unfold pe;rw[LG,M_ (Hs h0)];rfl);have z1:Sz 24 ((1:Int):Dyadic):=MY (m:=1) (e:=0) U' U' U';have hmk:=λA cc w1 hT1 hS1=>Rm v A 1 cc [⟨Mk v x.toNat,nR ((1:Int):Dyadic)⟩] 24 w1 hT1 hS1 U' Z' (λt ht=>by rw[T_.1 ht];exact⟨z1.ok U',by show Sz 24 (nR _).ma;rw[Za];exact z1⟩) (λt ht=>by rw[T_.1 ht];have:=Hs (x:=x.toNat) h0;show(Mk v x.toNat).size<=_;omega);rw[hm] at hmk;refine da (N:=34) (l:=[.int .i64 v,.int .i64 x]) func233 rfl rfl (by simp) ?_;refine Jb ?_;intro b4 w4 hh;refine Oa hh (hfw _) rfl ?_;intro w8 hh;refine fa ?_;refine Me (n:=(v.toNat)) hh rfl rfl Z' Z' lb.out ya.out rfl Z' Z' U' ?_;intro b21 w21 hh;refine aL (ua (sr (mL (mI ?_))));refine Nd (k:=(x.toNat)) lb.out ya.size rfl rfl Z' Z' U' ?_;rw[Qx] at hh;have hll:(ij (List.replicate v.toNat 0)).length=v.toNat:=by simp[ij]
  refine vR ?_;intro ws hh;simp only[U_] at hh;rw[show Hb (ij (List.replicate v.toNat 0)) (x.toNat*1) [.int .u8 1]=ij ((List.replicate v.toNat 0).set x.toNat 1) from eP (l:=List.replicate v.toNat 0) (i:=x.toNat) (c:=1) (by rw[H9];omega)] at hh;refine fa ?_;refine jl [] [0,0,2,0,14,30,63,127,127,511,1023] 6 [[(0,none)],[(6,none)],[(26,some 1)],[],[(27,some 2),(28,some 3)],[(29,some 4)]] [(5,30),(4,29),(3,28),(2,27),(1,26),(0,25)] [([],4,[(5,30),(4,29),(3,28),(2,27),(1,26),(0,25)])] hh mixed T' T' U' ?_;refine cd ?_;refine De ?_;refine Va (i:=2) (Is (.string ⟨(((List.replicate v.toNat 0).set x.toNat 1)).toArray⟩)) Is.ext ?_ ?_
  .intro ρ1 w1 hj hR;exact Od rfl (ik (l:=((List.replicate v.toNat 0).set x.toNat 1)) lb.out lb.out lb.out (show ρ1 26=Value.slice _ _ _ from hR.1) (hj.hp.ra (i:=0) rfl)) ⟨Below.refl _ _,rfl⟩
  refine dC (λ_ hj=>Tk 1 _ (hT.hp hj.hp) U' U') ?_;refine dB [_,_,_,_] ?_;refine qq [_,_,_,_] ?_;refine xa ?_;intro p_ hp_;simp only[S_,O9,or_false] at hp_;obtain rfl:=hp_
  intro f W hJ hV;have hb_5:=hJ.bl;obtain⟨v30,v29,v28,v27,v26,v25,_⟩:=hV;simp only[Hf];have e25:f 0=_:=v25;rw[e25];have e26:f 1=_:=v26;rw[e26];have e27:f 2=_:=v27;rw[e27];have e28:f 3=_:=v28;rw[e28];have e29:f 4=_:=v29;rw[e29];obtain⟨A30,c30,e30,f30⟩:Rows _ _ _ (f 5) W:=v30;rw[e30];replace hh:=hJ.hp;clear e25 e26 e27 e28 e29 e30 hJ;refine qa (hmk _ _ _ (hT.hp hh) f30) ja.out rfl U' ?_;rintro e_ w31 ⟨g,og,rfl,h3⟩;refine⟨_,rfl, ?_⟩;replace hh:=hh.join h3;refine Yc ?_;simp only[C',E'] at hh;refine Qb (i:=7) (by repeat (first|exact Cb|refine Xa ?_|refine Db ?_|refine np_scope ?_)) rfl T' T' T' (λ_=>Ke (show _=Value.tuple (List.toArray _) from rfl) rfl) U' ?_;refine Qb (i:=8) (by repeat (first|exact Cb|refine Xa ?_|refine Db ?_|refine np_scope ?_)) rfl T' T' T' (λ_=>Ke (show _=Value.tuple (List.toArray _) from rfl) rfl) U' ?_;refine Sg 9 U' T' U' T' T' ?_;exact aao
def qC(v:Int)(A:Option Addr)(n c:Nat)(l:List TR)(k:Nat)(w:World)(hS:Sl w A n 4 (na TR.cells l))(hn:n<=100000)(ho:xg k l)(hk:k+n<=3999980)(hz:∀t∈l,t.m.size<=100000):Calls prog 93 #[.int .i64 v,.slice A n c] w λr w'=>∃g:PX,mg (Gi v l) v (sa l) g/\r=.returned (.tuple #[.agg #[.int .i64 g.v,.slice g.A g.n g.c],.int .i64 (Gi v l)])/\Hp w [g.row] w':=by
 have hh:=Hp.start w;have hln:=hS.Fa TR.len U'
 cases hf:Wg v with
 |false=>
  have hbv:¬(0<=v/\v<=12):=λh=>by rw[Pe.2 h] at hf;cases hf
  rw[show Gi v l=1 by unfold Gi;rw[J' (.inl hf)]];by_cases h0:v<0
  .exact aak
  exact aak
 |true=>
  obtain⟨hv0,hv12⟩:=Pe.1 hf;refine da (N:=38) (l:=[.int .i64 v,.slice A n c]) func93 rfl rfl (by simp) ?_;refine Jb ?_;intro b4 w4 hh;refine Ba [5,6,14,15,16,17,18,19,20,21,22,23,24,25,26,27,28] 6 (λx w'=>∃i:Nat,i<=n/\x=.int .i64 i/\(l.take i).any (λt=> !pe v t)=false/\Hp w [.blk b4 24 [.int .i64 0,.slice none 0 0] (0,0)] w') (λx _=>n-(intOf x).toNat) ?_ ?_
  .exact⟨0,D' _,rfl,rfl,hh⟩
  clear hh;rintro ρ' x_ w' ⟨i,hi,rfl,hall,hh⟩;by_cases hlt:i<n
  .obtain⟨x,hx⟩:=ea (l:=l) (k:=i) Z';obtain⟨ad,rfl,hr⟩:=hS.at_ Z';have hxz:=hz x (G' hx);have hmay:∀w1,Calls prog 159 #[.string x.m,.int .i64 v] w1 λr w'=>r=.returned (.bool (pe v x))/\Below w1.heap.size w1 w':=λw1=>GJ x.m v w1 Z'
   cases hm:pe v x with
   |false=>
    rw[hm] at hmay;rw[show Gi v l=1 by unfold Gi;rw[J' (.inr (k9.2 ⟨x,G' hx,by rw[hm];rfl⟩))]];refine fa ?_;refine xM ?_;refine mI ?_;refine Oa hh (hmay _) rfl ?_;intro w26 hh;refine Jb ?_;intro ws hh;exact YW
   |true=>
    rw[hm] at hmay;refine fa ?_;refine xM ?_;refine mI ?_;refine Oa hh (hmay _) rfl ?_;intro w26 hh;refine fa ?_;refine⟨⟨i+1,Z',rfl,by rw[oa hx,n7,hall,x7,T6,hm];rfl,hh⟩,by show n-(i+1)<n-i;omega, ?_⟩;exact Rc
  rw[W_ Z'] at hall;have e1:Gi v l=if 65536<l.length then 3 else Qf l:=by unfold Gi;rw[L' (by rw[hf,hall];decide)]
  by_cases h6:65536<n
  .rw[e1,J' Z'];refine Jb ?_;intro ws hh;exact YW
  rw[e1,L' Z'];refine fa ?_;refine qa (mz v A n c l k _ (hS.ext hh.below) hn ho hk) ja.out rfl U' ?_;rintro e_ w35 ⟨g,og,rfl,h3⟩;exact cS
def afy(p:PX)(n:Nat):List TR×Int:=(List.replicate n p).foldl Xi (sa [⟨Hd p.v,nR ((1:Int):Dyadic)⟩],0)
def agC(p:PX)(n:Int):Int:=if p.e=0 then(if n<0\/127<n then 1 else(afy p n.toNat).2) else p.e
def agw(ps:List PX)(R:List HE)(g:PX):Prop:=(g∈ps/\R=[])\/R=[g.row]
def aip(a:NR):Bool:=decide ((24:Int)<a.Qa.size\/a.e< -300\/300<a.e)
structure SmT(ts:List TR):Prop where
 n:ts.length<=12
 ok:xg 492 ts
 sz:∀t∈ts,t.m.size<=50
def PX.norm(g:PX):PX:=⟨g.v,none,0,0,g.ts⟩
def Jz(ps:List PX):bg (ps.map PX.norm)=bg ps:=by
 have h1:(ps.map PX.norm).find? (λg=>decide (g.e≠0))=(ps.find? λg=>decide (g.e≠0)).map PX.norm:=List.find?_map ..;have h2:az (ps.map PX.norm)=az ps:=(by unfold az;rw[List.any_map,Z9];rfl);unfold bg;rw[h1,h2,i']
 cases ps.find? (λg=>decide (g.e≠0))<;>rfl
def Xv(ps:List PX):ff (ps.map PX.norm)=ff ps:=by unfold ff;rw[Z9];rfl
structure lP(ps os:List PX)(R:List HE):Prop where
 eq:∀(j:Nat)(g o:PX),ps[j]?=some g->os[j]?=some o->o.v=g.v/\o.ts=g.ts/\o.n=g.n
 my:∀o∈os,o.row∈R/\o.n<=o.c
def lP.add{ps os:List PX}{R:List HE}{g o:PX}(h:lP ps os R)(hx:ps[os.length]?=some g)(he:o.v=g.v/\o.ts=g.ts/\o.n=g.n)(hc:o.n<=o.c):lP ps (os++[o]) (o.row::R):=by
 refine⟨λj g2 o2 h1 h2=> ?_,λo2 h2=> ?_⟩
 .by_cases hj:j<os.length
  .rw[X8 hj] at h2;exact h.eq j g2 o2 h1 h2
  by_cases hj2:j=os.length
  .subst hj2;rw[I9 (j' _),f_] at h2;rw[hx] at h1
   cases h1;cases h2
   exact he
  rw[t_ (by rw[Y_];simp;omega)] at h2
  cases h2
 obtain h2|h2:=z_.1 h2
 .exact⟨F' _ (h.my o2 h2).1,(h.my o2 h2).2⟩
 rw[T_.1 h2];exact⟨q',hc⟩
def lP.key{ps os:List PX}{R:List HE}(h:lP ps os R)(hl:os.length=ps.length):os.map PX.norm=ps.map PX.norm:=by
 apply V9;intro j;rw[V_,V_];by_cases hj:j<os.length
 .obtain⟨o,ho⟩:=ea hj;obtain⟨g,hg⟩:=ea (l:=ps) (k:=j) Z';obtain⟨e1,e2,_⟩:=h.eq j g o hg ho;rw[ho,hg];show some (PX.norm o)=some (PX.norm g);unfold PX.norm;rw[e1,e2]
 rw[t_ Z',t_ Z']
variable {H:List HE}{w w':World}
def UY{g:PX}(hh:Hp w H w')(h:g.row∈H):g.at_ w':=jf (hh.own g.row h)
def PN(p:PX)(c:Dyadic):Int:=if p.e=0 then Qf (p.ts.map (Fp c)) else p.e
def fP{l X:List TR}{c:Dyadic}{i:Nat}{z:TR}(hz:l[i]?=some z)(hX:X=(l.take i).map (Fp c)++l.drop i):X[i]?=some z/\X.set i ⟨z.m,nR (z.c.ma*c)⟩=(l.take (i+1)).map (Fp c)++l.drop (i+1):=by
 obtain⟨h1,h2⟩:=X_.1 hz;have hl:((l.take i).map (Fp c)).length=i:=by rw[i',R_];omega
 refine⟨?_, ?_⟩
 .rw[hX,I9 Z',hl,f_,H8];exact hz
 rw[oa hz,n_,hX,q8 _ _ Z',hl,f_,l_,Ge hz];rfl
def AL{l:List TR}{c:Dyadic}(ho:xg k l)(hc:Sz j c)(hk:k+j<=1000000):xg (k+j) (l.map (Fp c)):=λt ht=>by
 obtain⟨z,hz,rfl⟩:=Z_.1 ht;have hs:=(ho z hz).2.mul hc;exact⟨hs.ok Z',by show Sz _ (nR _).ma;rw[Za];exact hs⟩
def fC(p:PX)(c:NR)(k:Nat)(w:World)(hT:Sc w)(hp:p.at_ w)(lp:p.Zg k)(hc:c.ok/\Sz k c.ma)(hk:k<=400000):Calls prog 234 #[.agg #[.int .i64 p.v,.slice p.A p.n p.c],.agg #[.bool c.neg,.string c.Qa,.int .i64 c.e]] w λr w'=>∃g:PX,mg (PN p c.ma) p.v (sa (p.ts.map (Fp c.ma))) g/\r=.returned (.tuple #[.agg #[.int .i64 g.v,.slice g.A g.n g.c],.int .i64 (PN p c.ma)])/\Hp w [g.row] w':=by
 have hh:=Hp.start w;have hck:=λw1 hT1 hb=>rk p k w1 hT1 (hp.ext hb) lp;unfold PN;by_cases h0:p.e=0
 .rw[J' h0];rw[h0] at hck;obtain⟨_,h4,_,_⟩:=Ub h0;have hpl:p.ts.length=p.n:=hp.ln;refine aau ?_;refine Dm ?_;intro b2 w2 hh b3 w3 hh b4 w4 hh;refine bh ?_;intro w10 hh;refine fa ?_;refine qa (um p.A p.n p.c p.ts _ (hp.ext hh.below) lp.n) ja.out rfl U' ?_;rintro e_ w17 ⟨A17,c17,rfl,hown_,hb_⟩;refine⟨_,rfl, ?_⟩;replace hh:=hh.Aa (x:=.row _ _ _ _ _ _) hb_ hown_;refine fa ?_;refine Ba [8,20,21,22,23,24,25,26,27,28,29,30,31,32,33,34,35] 20 (λv w'=>∃(i:Nat)(X:List TR),i<=p.n/\v=.int .i64 i/\X=(p.ts.take i).map (Fp c.ma)++p.ts.drop i/\Hp w [.row A17 p.n c17 72 4 (na TR.cells X),.blk b4 24 [.int .i64 0,.slice none 0 0] (0,0),.blk b3 30 [.bool c.neg,.string c.Qa,.int .i64 c.e] (0,0),.blk b2 24 [.int .i64 p.v,.slice p.A p.n p.c] (0,0)] w') (λv _=>p.n-(intOf v).toNat) ?_ ?_
  .exact⟨0,p.ts,D' _,rfl,rfl,hh⟩
  clear hh;rintro ρ' v w' ⟨i,X,hi,rfl,hX,hh⟩;have hXl:X.length=p.n:=by rw[hX,Y_,i',R_,M9];omega
  by_cases hlt:i<p.n
  .obtain⟨z,hz⟩:=ea (l:=p.ts) (k:=i) Z';obtain⟨hXz,hXn⟩:=fP hz hX;have hzo:=lp.ok z (G' hz);have hdm:=λA cc w1 hT1 hS1=>Ee A 2 cc [z.c,c] w1 hT1 hS1 (by simpa using⟨hzo.1,hc.1⟩) k (by simpa using⟨hzo.2,hc.2⟩) Z' U';rw[show Cf ([z.c,c].map NR.ma)=z.c.ma*c.ma by show 1*z.c.ma*c.ma=_;rw[W7]] at hdm;have hrl:=ve TR.len X;obtain⟨g0,rfl⟩:=hh.Ob (i:=0) rfl Z';refine fa ?_;refine Ca 10 [[(7,none)],[(8,none)],[(7,none)],[(8,none)],[(25,some 2),(26,some 3)],[(27,some 4)],[(28,some 5)],[(3,none)],[(29,some 6),(30,some 7)],[(31,some 8)]] [(9,32),(8,31),(7,30),(6,29),(5,28),(4,27),(3,26),(2,25),(1,24),(0,23)] hh mixed T' ?_;refine De ?_;refine cd ?_;refine De ?_;refine cd ?_;refine Kt (i) ?_;refine yd ?_;refine Dn [_,_,_] (λ_ hj=>(hj.hp.Gd (f:=TR.cells) (x:=z) (l:=X) (i:=0) rfl TR.len U' hXz).drop 1) ?_;refine Vd 2 [_,_,_] ?_;refine qq [_,_,_,_,_,_] ?_;refine Va (i:=9) (Is (.agg #[.bool (nR (z.c.ma*c.ma)).neg,.string (nR (z.c.ma*c.ma)).Qa,.int .i64 (nR (z.c.ma*c.ma)).e])) Is.ext ?_ ?_
   .intro ρ1 w1 hj hR;obtain⟨A31,c31,h31,s31⟩:=hR.1;exact Pb rfl (qb ja.out (Ga h31 Fb)) (hdm A31 c31 _ (hT.hp hj.hp) s31) (λ_ _ hq=>⟨_,hq.1,hq.2,rfl⟩)
   refine xa ?_;intro f W hJ hV;have hb_8:=hJ.bl;obtain⟨v32,v31,v30,v29,v28,v27,v26,v25,v24,v23,_⟩:=hV;obtain⟨A31,c31,e31,f31⟩:Rows _ _ _ (f 8) W:=v31;replace hh:=hJ.hp;refine Da (Na (aa v32 (aa e31 (aa v30 (aa v29 (aa v28 (aa v27 (aa v26 (aa v25 (aa v24 (aa v23 Ea))))))))))) ?_;dsimp only[Bb];clear e31 hJ;refine fa ?_;refine Ab hh (i:=0) (vs:=[_,_,_]) rfl rfl (Ld rfl) rfl ya.out rfl Z' rfl ?_;intro ws hh;simp only[U_] at hh;rw[Vz hXz,hXn] at hh;refine fa ?_;replace hh:=hh.sub (I' _ (I' _ (I' _ (I' _ H_))));refine⟨⟨i+1,_,Z',rfl,rfl,hh⟩,by show p.n-(i+1)<p.n-i;omega, ?_⟩;exact Rc
  obtain rfl:i=p.n:=Z';rw[W_ Z',B8 Z',o_] at hX;have hso:=AL lp.ok hc.2 Z';rw[<-hX] at hso |-;refine fa ?_;refine qa (Tj p.v A17 p.n c17 X (k+k) _ hT hh hXl Z' Z' hso) ja.out rfl U' ?_;rintro e_ w39 ⟨g,og,rfl,hh⟩;refine⟨_,rfl, ?_⟩;exact bU
 rw[L' h0];refine aau ?_;refine Dm ?_;intro b2 w2 hh b3 w3 hh b4 w4 hh;refine bh ?_;intro w10 hh;exact kT
abbrev ZT:=List (List UInt8×Int)
def zT(L:ZT):List TR:=L.map λx=>⟨str x.1,nR ((x.2:Int):Dyadic)⟩
def zS(L:ZT)(b:List UInt8):Int:=match L with|[]=>0|x::L=>(if x.1=b then x.2 else 0)+zS L b
def eX(a b:Int):((a+b:Int):Dyadic)=(a:Dyadic)+(b:Dyadic):=(Tr a b 0).symm
def LY{a:Int}(h:(a:Dyadic)=0):a=0:=qu (p:=0) h
def VB(m:ByteArray):∀L:ZT,ph (zT L) m=(zS L m.data.toList:Int)
 |[]=>rfl
 |x::L=>by
  show ph (⟨str x.1,nR ((x.2:Int):Dyadic)⟩::zT L) m=((if x.1=m.data.toList then x.2 else 0)+zS L m.data.toList:Int);rw[lf,VB m L,eX];congr 1;by_cases h:x.1=m.data.toList
  .rw[J' h,J' (by rw[h];exact pR m)];exact Za _
  rw[L' h,L' (λe=>h (by rw[<-e];exact(Oc _).symm))];rfl
def zC:ZT->Bool
 |[]=>true
 |[x]=> !decide (x.2=0)
 |x::y::L=> !decide (x.2=0) && (Op.bytesLess x.1 y.1 && zC (y::L))
def LU:∀{L:ZT},zC L=true->Canon (zT L):=λ{L} h=>by
 have h1:∀{L:ZT},zC L=true->yt (zT L)=true/\∀x∈L,x.2≠0:=λ{L}=>by
  induction L with
  |nil=>exact λ_=>⟨rfl,λx hx=>nomatch hx⟩
  |cons x L ih=>
   intro h
   cases L with
   |nil=>exact⟨rfl,λy hy=>by rw[T_.1 hy];simpa[zC] using h⟩
   |cons y L=>
    simp only[zC,Q_,z7,I6] at h;obtain⟨i1,i2⟩:=ih h.2.2;refine⟨?_,λz hz=> ?_⟩
    .show(Ah (str x.1) (str y.1) && yt (zT (y::L)))=true;rw[i1,show Ah (str x.1) (str y.1)=true by unfold Ah;rw[Oc,Oc];exact h.2.1];rfl
    obtain rfl|hz:=S_.1 hz
    .exact h.1
    exact i2 z hz
 obtain⟨i1,i2⟩:=h1 h;refine⟨xq.1 i1,λt ht=> ?_,λt ht=> ?_⟩
 .obtain⟨x,hx,rfl⟩:=Z_.1 ht;show(nR _).ma≠0;rw[Za];exact λe=>i2 x hx (LY e)
 obtain⟨x,hx,rfl⟩:=Z_.1 ht;show nR _=nR (nR _).ma;rw[Za]
def zE(L K:ZT):Bool:=(L++K).all λx=>decide (zS L x.1=zS K x.1)
def XM{L:ZT}{b:List UInt8}(h:∀x∈L,x.1≠b):zS L b=0:=by
 induction L with
 |nil=>rfl
 |cons x L ih=>rw[zS,L' (h x q'),ih λy hy=>h y (F' _ hy)];rfl
def adQ{L K:ZT}(h:zE L K=true)(b:List UInt8):zS L b=zS K b:=by
 by_cases hb:∃x∈L++K,x.1=b
 .obtain⟨x,hx,rfl⟩:=hb;exact B9 (u_.1 h x hx)
 rw[XM λx hx e=>hb ⟨x,x9 _ hx,e⟩,XM λx hx e=>hb ⟨x,W8 _ hx,e⟩]
def qP{L K:ZT}(h:(zC K && zE K L)=true):sa (zT L)=zT K:=by
 rw[Q_] at h;exact(Tt (LU h.1) λm=>by rw[VB,VB,adQ h.2]).symm
def zP(P Q:ZT):ZT:=P.flatMap λx=>Q.map λy=>((mulL x.1 y.1).1,x.2*y.2)
def zPE(P Q:ZT):List Int:=P.flatMap λx=>Q.map λy=>(mulL x.1 y.1).2
def HJ(L:ZT):(zT L).length=L.length:=i' _
def zM(v:Int)(L:ZT):Bool:=L.all λx=>Ae x.1 && decide ((x.1.length:Int)=v)
def ab2{v:Int}{L:ZT}(h:zM v L=true):∀t∈zT L,pe v t=true:=λt ht=>by
 obtain⟨x,hx,rfl⟩:=Z_.1 ht;have:=u_.1 h x hx;unfold pe;show(Ae (str x.1).data.toList && decide (((str x.1).size:Int)=v))=true;rw[Oc,yg];exact this
def uW{v:Int}{L:ZT}(hf:Wg v=true)(h:zM v L=true)(hn:L.length<=4096):Gi v (zT L)=0:=by
 unfold Gi;rw[L',L' (by rw[HJ];omega)]
 .unfold Qf;rw[L'];have:=Vb (zT L);rw[HJ] at this;omega
 rintro (h1|h1)
 .rw[hf] at h1;cases h1
 obtain⟨t,ht,h2⟩:=k9.1 h1;rw[ab2 h t ht] at h2
 cases h2
def zB(L:ZT):Bool:=L.all λx=>decide (x.2.natAbs<256) && decide (x.1.length<=50)
def SA{L:ZT}(h:zB L=true):xg 24 (zT L)/\∀t∈zT L,t.m.size<=50:=by
 refine⟨λt ht=> ?_,λt ht=> ?_⟩
 .obtain⟨x,hx,rfl⟩:=Z_.1 ht;have:=I8.1 (u_.1 h x hx);have z:Sz 24 ((x.2:Int):Dyadic):=MY (m:=x.2) (e:=0) (B9 this.1) U' U';exact⟨z.ok U',by show Sz 24 (nR _).ma;rw[Za];exact z⟩
 obtain⟨x,hx,rfl⟩:=Z_.1 ht;have:=I8.1 (u_.1 h x hx);show(str x.1).size<=50;rw[yg];exact B9 this.2
def ahx(n:Int):ZT:=[([0,1],n),([1,0],1)]
def Lw{g h:PX}(h1:g.e=0)(h2:h.e=0)(h3:h.v=g.v):bg [g,h]=0:=by
 have e:[g,h].find? (λg=>decide (g.e≠0))=none:=Gh (p9.2 λx hx=>by
  obtain rfl|hx:=S_.1 hx
  .simp[h1]
  rw[T_.1 hx];simp[h2])
 unfold bg;rw[e];show(if 2=0\/az [g,h]=true then(1:Int) else 0)=0;rw[L'];rintro (h0|h0)
 .cases h0
 obtain⟨x,hx,hx2⟩:=k9.1 h0;have hx3:x.v≠g.v:=B9 hx2;obtain rfl|hx:=S_.1 hx
 .exact hx3 rfl
 rw[T_.1 hx] at hx3;exact hx3 h3
def afU(ds:List Int):VP:=λv W=>∃g:Option Addr×Nat,v=.slice g.1 ds.length g.2/\Sl W g.1 ds.length 1 (jb ds)
structure ahH(E:Int)(g:PX):Prop where
 bad:E≠0->g.v=0/\g.ts=[]
 ok:E=0->g.e=0/\xg 100000 g.ts/\∀t∈g.ts,t.m.size<=100000
def Er{l:List TR}(h:Qf l=0):(sa l).length<=4096:=by
 unfold Qf at h;by_cases h4:4096<(sa l).length
 .rw[J' h4] at h;omega
 omega
def sX{v:Int}{l:List TR}(h:Gi v l=0):Wg v=true/\(∀t∈l,pe v t=true)/\(sa l).length<=4096:=by
 unfold Gi at h;by_cases h1:Wg v=false\/(l.any λt=> !pe v t)=true
 .rw[J' h1] at h;omega
 rw[L' h1] at h;by_cases h2:65536<l.length
 .rw[J' h2] at h;omega
 rw[L' h2] at h;refine⟨by cases hf:Wg v with|true=>rfl|false=>exact absurd (.inl hf) h1,λt ht=> ?_,Er h⟩
 cases hm:pe v t with
 |true=>rfl
 |false=>exact absurd (.inr (k9.2 ⟨t,ht,by rw[hm];rfl⟩)) h1
def Cg{l:List TR}(h:xg k l)(hk:k+l.length<=j)(hj:j<=3999990):xg j (sa l):=λt ht=>by
 have h3:Sz j t.c.ma:=(ao (λt ht=>(h t ht).2) t ht).mono hk;exact⟨by rw[(Nf l).nf t ht];exact h3.ok hj,h3⟩
def jm{l:List TR}(h:∀t∈l,t.m.size<=100000):∀t∈sa l,t.m.size<=100000:=λt ht=>by
 obtain⟨s,hs,e⟩:=Pf t ht;rw[<-e];exact h s hs
variable {ps:List PX}
def eO{v:Int}(h0:ps≠[])(he:∀g∈ps,g.e=0)(hv:∀g∈ps,g.v=v):bg ps=0:=by
 unfold bg;rw[Gh (p9.2 λx hx=>by simp[he x hx])];show(if ps.length=0\/az ps=true then(1:Int) else 0)=0;rw[L'];rintro (h|h)
 .exact h0 (C8 h)
 obtain⟨x,hx,hx2⟩:=k9.1 h;have hx3:x.v≠ff ps:=B9 hx2;obtain⟨g,l,rfl⟩:=M6 h0;exact hx3 ((hv x hx).trans (hv g q').symm)
def wm{l:List TR}(h:l.length<=4096):Qf l=0:=by
 unfold Qf;have:=Vb l;rw[L' Z']
def mg.v0{v:Int}{g:PX}(o:mg 0 v ts g):g.v=v:=o.v
def mg.t0{v:Int}{g:PX}(o:mg 0 v ts g):g.ts=ts:=o.ts
def wZ(p q:PX):Mr [p,q]=p.ts++q.ts:=by show p.ts++(q.ts++[])=_;rw[o_]
def qg(j:Nat)(t:TR):Nat:=match t.m.data.toList[j]? with|some e=>e.toNat|none=>0
def Rn{t:TR}{e:UInt8}(h:t.m.data.toList[j]?=some e):qg j t=e.toNat:=by unfold qg;rw[h]
variable {n:Nat}
def Ya(p:List TR)(j n:Nat):List TR:=p.filter λt=>decide (qg j t=n)
def Ch(q:List TR)(sub:List TR->Int×List TR)(p:List TR)(j n:Nat)(a:Int×List TR):Int×List TR:=
 if a.1≠0 then a else if a.2.length=0/\(Ya p j n).length=0 then a else
 if Ff a.2 q≠0 then(Ff a.2 q,[]) else if(sub (Ya p j n)).1≠0 then((sub (Ya p j n)).1,[]) else
 if Qf (sa (Zb a.2 q)++(sub (Ya p j n)).2)≠0 then(Qf (sa (Zb a.2 q)++(sub (Ya p j n)).2),[]) else(0,sa (sa (Zb a.2 q)++(sub (Ya p j n)).2))
def rb(q:List TR)(sub:List TR->Int×List TR)(p:List TR)(j:Nat):Nat->Int×List TR
 |0=>(0,[])
 |i+1=>Ch q sub p j (127-i) (rb q sub p j i)
def Ji(q:List TR)(sub:List TR->Int×List TR)(p:List TR)(j i:Nat):rb q sub p j (i+1)=Ch q sub p j (127-i) (rb q sub p j i):=rfl
def Je(v:Int):List (List TR)->Nat->List TR->Int×List TR
 |[],_,p=>(0,sa [⟨Hd v,(p.map TR.c).headD (nR 0)⟩])
 |q::qs,j,p=>rb q (Je v qs (j+1)) p j 128
def tj{q:List TR}{sub:List TR->Int×List TR}{i:Nat}(h:(rb q sub p j i).1≠0)(hk:i<=k):rb q sub p j k=rb q sub p j i:=by
 induction k with
 |zero=>
  obtain rfl:i=0:=Z';rfl
 |succ k ih=>
  by_cases e:i=k+1
  .rw[e]
  have:=ih Z';show Ch q sub p j (127-k) (rb q sub p j k)=_;rw[this];unfold Ch;rw[J' h]
def XE{q:List TR}(hp:xg k p)(hq:xg j q)(sq:∀t∈q,t.m.size<=100000)(h:Ff p q=0)(hk:k+j<=900000):xg (k+j+p.length*q.length) (sa (Zb p q))/\∀t∈sa (Zb p q),t.m.size<=100000:=by
 obtain⟨h6,_,h4⟩:=pk h;have ho:=Rr hp hq Z';have hz:=ao λt ht=>(ho t ht).2;rw[rj] at hz;refine⟨λt ht=> ?_,(JM hp hq sq h hk).2⟩;have:Sz (k+j+p.length*q.length) t.c.ma:=hz t ht;refine⟨?_,this⟩;rw[(Nf _).nf t ht];exact this.ok Z'
structure bj(v:Int)(k:Nat)(l:List TR):Prop where
 e:Gf v l=0
 ok:xg k l
 sz:∀t∈l,t.m.size<=100000
def bj.mono{v:Int}{l:List TR}(h:bj v k l)(hk:k<=j):bj v j l:=⟨h.e,h.ok.mono hk,h.sz⟩
def bj.nil{v:Int}(hv:Wg v=true):bj v k []:=⟨FK hv (D' _) (λ_ h=>nomatch h) ⟨.nil,(λ_ h=>nomatch h),(λ_ h=>nomatch h)⟩,(λ_ h=>nomatch h),(λ_ h=>nomatch h)⟩
def bj.len{v:Int}{l:List TR}(h:bj v k l):l.length<=4096:=(Ub h.e).2.1
def IL{v:Int}{q:List TR}{T:Nat}(hp:bj v k p)(hq:bj v j q)(hT:q.length<=T)(h:Ff p q=0)(hk:k+j<=900000):bj v (k+j+4096*T) (sa (Zb p q)):=by
 obtain⟨h6,h5,h4⟩:=pk h;obtain⟨f1,f2,f3,f4⟩:=Ub hp.e;have:=XE hp.ok hq.ok hq.sz h hk;have hm:p.length*q.length<=4096*T:=o9 hp.len hT;exact⟨We f1 h4 (Yn f3 h5),this.1.mono Z',this.2⟩
def vK{v:Int}{a b:List TR}(ha:bj v k a)(hb:bj v k b)(h:Qf (a++b)=0)(hk:k<=3000000):bj v (k+8192) (sa (a++b)):=by
 obtain⟨f1,f2,f3,f4⟩:=Ub ha.e;obtain⟨g1,g2,g3,g4⟩:=Ub hb.e;have hl:(a++b).length<=8192:=by rw[Y_];omega
 refine⟨We f1 (Er h) λt ht=> ?_,Cg (λt ht=> ?_) (show k+(a++b).length<=k+8192 by omega) Z',jm λt ht=> ?_⟩
 .obtain h|h:=z_.1 ht
  .exact f3 t h
  exact g3 t h
 .obtain h|h:=z_.1 ht
  .exact ha.ok t h
  exact hb.ok t h
 obtain h|h:=z_.1 ht
 .exact ha.sz t h
 exact hb.sz t h
variable {K:Nat}
def eU{v:Int}{q:List TR}{sub:List TR->Int×List TR}{a:Int×List TR}{S T B S':Nat}(ha:bj v S a.2)(hq:bj v K q)(hT:q.length<=T)(hb:(sub (Ya p j n)).1=0->bj v B (sub (Ya p j n)).2)(h1:S+K+4096*T+8192<=S')(h2:B+8192<=S')(hS:S'<=900000) (h:(Ch q sub p j n a).1=0):bj v S' (Ch q sub p j n a).2:=by
 unfold Ch at h |-;by_cases c0:a.1≠0
 .rw[J' c0] at h;exact absurd h c0
 rw[L' c0] at h |-;by_cases c1:a.2.length=0/\(Ya p j n).length=0
 .rw[J' c1];exact ha.mono Z'
 rw[L' c1] at h |-;by_cases c2:Ff a.2 q≠0
 .rw[J' c2] at h;exact absurd h c2
 rw[L' c2] at h |-;by_cases c3:(sub (Ya p j n)).1≠0
 .rw[J' c3] at h;exact absurd h c3
 rw[L' c3] at h |-;by_cases c4:Qf (sa (Zb a.2 q)++(sub (Ya p j n)).2)≠0
 .rw[J' c4] at h;exact absurd h c4
 rw[L' c4];exact(vK ((IL ha hq hT Z' Z').mono (show _<=S'-8192 by omega)) ((hb Z').mono Z') Z' Z').mono Z'
def wN(h:∀t∈p,qg j t<n):Ya p j n=[]:=List.filter_eq_nil_iff.2 λt ht=>by
 have:=h t ht;simp only[K_];omega
def Wi:∀t∈Ya p j n,t∈p:=λt ht=>(j9.1 ht).1
def wh{q p:List TR}{sub:List TR->Int×List TR}{j D:Nat}(h:∀t∈p,qg j t<=D):∀i,i+D<=127->rb q sub p j i=(0,[])
 |0,_=>rfl
 |i+1,hi=>by
  show Ch q sub p j (127-i) (rb q sub p j i)=_;rw[wh h i Z',show Ch q sub p j (127-i) (0,[])=(0,[]) by
   unfold Ch;rw[L' U',J' ⟨rfl,by rw[wN λt ht=>by have:=h t ht;omega];rfl⟩]]
def Qe(c:Nat):List Nat->Nat->Nat
 |[],k=>k
 |d::ds,k=>Qe c ds k+d*c+8192
def Rs(c k:Nat):Qe c [] k=k:=rfl
def Wp(c d k:Nat)(ds:List Nat):Qe c (d::ds) k=Qe c ds k+d*c+8192:=rfl
def yy{v:Int}{q p:List TR}{sub:List TR->Int×List TR}{j D K T B c:Nat}(hv:Wg v=true)(hq:bj v K q)(hT:q.length<=T)(hD:∀t∈p,qg j t<=D)(hD2:D<=127)(hb:∀n,(sub (Ya p j n)).1=0->bj v B (sub (Ya p j n)).2)(hc:K+4096*T+8192<=c)(hS:B+D*c+8192<=900000):
  ∀i,i<=128->(rb q sub p j i).1=0->bj v (B+(i+D-128)*c+8192) (rb q sub p j i).2
 |0,_,_=>bj.nil hv
 |i+1,hi,h0=>by
  by_cases h1:i+1+D<=127
  .rw[wh hD _ h1];exact bj.nil hv
  have h2:(rb q sub p j i).1=0:=(by refine a8 λc=> ?_;rw[tj c (Nat.le_succ i)] at h0;exact c h0);have hle:(i+1+D-128)*c<=D*c:=N9 _ Z';by_cases h3:i+D<=127
  .have h4:=wh (q:=q) (sub:=sub) hD i h3;show bj v _ (Ch q sub p j (127-i) (rb q sub p j i)).2;have h5:(Ch q sub p j (127-i) (rb q sub p j i)).1=0:=h0;rw[h4] at h5 |-;rw[show i+1+D-128=0 by omega,X6];unfold Ch at h5 |-;rw[L' U'] at h5 |-;by_cases c1:((0:Int),([]:List TR)).2.length=0/\(Ya p j (127-i)).length=0
   .rw[J' c1];exact bj.nil hv
   rw[L' c1] at h5 |-;by_cases c2:Ff [] q≠0
   .rw[J' c2] at h5;exact absurd h5 c2
   rw[L' c2] at h5 |-;by_cases c3:(sub (Ya p j (127-i))).1≠0
   .rw[J' c3] at h5;exact absurd h5 c3
   rw[L' c3] at h5 |-;by_cases c4:Qf (sa (Zb [] q)++(sub (Ya p j (127-i))).2)≠0
   .rw[J' c4] at h5;exact absurd h5 c4
   rw[L' c4];have hn:bj v B (sa (Zb [] q)):=bj.nil hv;exact(vK hn (hb _ Z') Z' Z').mono Z'
  have ih:=yy hv hq hT hD hD2 hb hc hS i Z' h2;have e1:(i+1+D-128)*c=(i+D-128)*c+c:=by rw[show i+1+D-128=(i+D-128)+1 by omega,n9]
  rw[e1] at hle |-;generalize (i+D-128)*c=y at*;generalize D*c=z at*;exact eU ih hq hT (hb _) Z' Z' Z' h0
def Dt{v:Int}{x:NR}(hv:Wg v=true)(hx:Sz k x.ma)(hk:k<=900000):bj v (k+1) (sa [⟨Hd v,x⟩]):=by
 have h1:=Pe.1 hv;have h2:=Ej h1.1;refine⟨We hv (N_ (Vb _) (show 1<=4096 by decide)) λt ht=> ?_,λt ht=> ?_,λt ht=> ?_⟩
 .rw[T_.1 ht];unfold pe;rw[Q_,K_];exact⟨Ot v,h2⟩
 .have h1:Sz (k+1) t.c.ma:=ao (k:=k) (l:=[⟨Hd v,x⟩]) (λs hs=>by rw[T_.1 hs];exact hx) t ht;exact⟨by rw[(Nf _).nf t ht];exact h1.ok Z',h1⟩
 obtain⟨s,hs,e⟩:=Pf t ht;rw[<-e,T_.1 hs];show(Hd v).size<=100000;omega
def LM{v:Int}{T c0:Nat}(hv:Wg v=true)(hc0:K+4096*T+8192<=c0):∀(qs:List (List TR))(j:Nat)(p:List TR)(ds:List Nat)(k:Nat),(∀q∈qs,bj v K q/\q.length<=T)->xg k p->ds.length=qs.length->(∀(i d:Nat),ds[i]?=some d->d<=127/\∀t∈p,qg (j+i) t<=d)->Qe c0 ds (k+1)<=900000->(Je v qs j p).1=0->bj v (Qe c0 ds (k+1)) (Je v qs j p).2:=by
 intro qs
 induction qs with
 |nil=>
  intro j p ds k _ hok hds _ hB _;obtain rfl:ds=[]:=Z6.1 hds;rw[Rs] at hB |-;refine Dt hv ?_ Z';exact WZ
 |cons q qs ih=>
  intro j p ds k hq hok hds hD hB h0
  cases ds with
  |nil=>cases hds
  |cons d ds=>
   have hd:=hD 0 d rfl;rw[Wp] at hB |-;have hB1:Qe c0 ds (k+1)<=900000:=Z';have hsub:∀n,(Je v qs (j+1) (Ya p j n)).1=0->bj v (Qe c0 ds (k+1)) (Je v qs (j+1) (Ya p j n)).2:=λn hn=>(by refine ih (j+1) (Ya p j n) ds k (λr hr=>hq r (F' _ hr)) (λt ht=>hok t (Wi t ht)) (by simpa using hds) (λi e he=> ?_) hB1 hn;exact aeS);have h1:=yy (sub:=Je v qs (j+1)) (p:=p) (j:=j) hv (hq q q').1 (hq q q').2 hd.2 hd.1 hsub hc0 hB 128 (j' _) h0;rw[show 128+d-128=d by omega] at h1;exact h1
def pF:∀{a b:List UInt8}{j:Nat}{x y:UInt8},Op.bytesLess a b=true->a.take j=b.take j->a[j]?=some x->b[j]?=some y->x.toNat<=y.toNat
 |[],_,j,x,y,_,_,hx,_=>by simp at hx
 |_,[],j,x,y,_,_,_,hy=>by simp at hy
 |c::a,d::b,0,x,y,h,_,hx,hy=>by
  simp only[U6,S8] at hx hy;subst hx;subst hy;simp only[Op.bytesLess,C7,Q_,K_,R8] at h;obtain h|⟨h,_⟩:=h
  .exact Nat.le_of_lt (UInt8.lt_iff_toNat_lt.1 h)
  rw[h];exact j' _
 |c::a,d::b,j+1,x,y,h,ht,hx,hy=>(by simp only[k7,V5] at ht;obtain⟨rfl,ht⟩:=ht;simp only[N6] at hx hy;refine pF (a:=a) (b:=b) ?_ ht hx hy;simpa[Op.bytesLess] using h)
structure ML(v:Int)(j:Nat)(p:List TR):Prop where
 Eu:jv p
 may:∀t∈p,pe v t=true
 pre:∀a∈p,∀b∈p,a.m.data.toList.take j=b.m.data.toList.take j
def ML.size{v:Int}(h:ML v j p):∀t∈p,(t.m.data.toList.length:Int)=v:=λt ht=>by
 rw[<-Tc];exact B9 (I8.1 (h.may t ht)).2
def ML.get{v:Int}(h:ML v j p)(hj:(j:Int)<v){t:TR}(ht:t∈p):∃e:UInt8,t.m.data.toList[j]?=some e/\qg j t=e.toNat/\e.toNat<128:=by
 obtain⟨e,he⟩:=ea (l:=t.m.data.toList) (k:=j) (by have:=h.size t ht;omega);exact⟨e,he,Rn he,Tn (I8.1 (h.may t ht)).1 he⟩
def ML.mono{v:Int}(h:ML v j p)(hj:(j:Int)<v):p.Pairwise λa b=>qg j a<=qg j b:=by
 refine List.Pairwise.imp_of_mem (λ{a b} ha hb hl=> ?_) h.Eu;obtain⟨x,hx,ex,_⟩:=h.get hj ha;obtain⟨y,hy,ey,_⟩:=h.get hj hb;rw[ex,ey];exact pF hl (h.pre a ha b hb) hx hy
def ML.with{v:Int}(h:ML v j p)(hj:(j:Int)<v):ML v (j+1) (Ya p j n):=by
 refine⟨h.Eu.filter _,λt ht=>h.may t (Wi t ht),λa ha b hb=> ?_⟩;obtain⟨ha1,ha2⟩:=j9.1 ha;obtain⟨hb1,hb2⟩:=j9.1 hb;obtain⟨x,hx,ex,_⟩:=h.get hj ha1;obtain⟨y,hy,ey,_⟩:=h.get hj hb1;have exy:x=y:=K6.1 (by rw[<-ex,<-ey,B9 ha2,B9 hb2]);rw[oa hx,oa hy,h.pre a ha1 b hb1,exy]
variable {fr:Nat}
def HU{p:List α}{en:Nat}(h:fr<=en):p.drop fr=(p.drop fr).take (en-fr)++p.drop en:=by
 have:p.drop en=(p.drop fr).drop (en-fr):=by rw[u7];congr 1;omega
 rw[this,P9]
def pH{en:Nat}(hfe:fr<=en)(h1:∀t∈p.take fr,qg j t<n)(h2:∀t∈(p.drop fr).take (en-fr),qg j t=n)(h3:∀t∈p.drop en,n<qg j t):Ya p j n=(p.drop fr).take (en-fr):=by
 have e:p=p.take fr++((p.drop fr).take (en-fr)++p.drop en):=by
  have:p.drop en=(p.drop fr).drop (en-fr):=by rw[u7];congr 1;omega
  rw[this,P9,P9]
 unfold Ya
 conv=>lhs;rw[e]
 rw[K7,K7,List.filter_eq_nil_iff.2,List.filter_eq_self.2,List.filter_eq_nil_iff.2,E',o_]
 .intro t ht;have:=h3 t ht;simp only[K_];omega
 .intro t ht;have:=h2 t ht;simpa using this
 intro t ht;have:=h1 t ht;simp only[K_];omega
def SO{x:TR}(h:p.Pairwise λa b=>qg j a<=qg j b)(hx:p[fr]?=some x)(hn:qg j x<n):∀t∈p.take (fr+1),qg j t<n:=λt ht=>by
 rw[oa hx] at ht;obtain ht|ht:=z_.1 ht
 .have e:p=p.take fr++x::p.drop (fr+1):=by rw[<-Ge hx,P9]
  rw[e,I5] at h;have:=h.2.2 t ht x q';omega
 obtain rfl:=T_.1 ht;exact hn
def Bz(p:PX)(i:Int):Int:=if p.e=0 then(if i<0\/p.v<=i then 1 else 0) else p.e
def YO(p:PX)(i:Int)(k:Nat)(w:World)(hT:Sc w)(hp:p.at_ w)(lp:p.Zg k):Calls prog 266 #[.agg #[.int .i64 p.v,.slice p.A p.n p.c],.int .i64 i] w λr w'=>r=.returned (.int .i64 (Bz p i))/\Below w.heap.size w w':=by
 have hh:=Hp.start w;have hck:=λw1 hT1 hb=>rk p k w1 hT1 (hp.ext hb) lp;unfold Bz;by_cases h0:p.e=0
 .rw[J' h0];rw[h0] at hck;by_cases h1:i<0
  .rw[J' (.inl h1)];exact LL
  by_cases h2:p.v<=i
  .rw[J' (.inr h2)];exact LL
  rw[L' Z'];exact LL
 rw[L' h0];exact LL
variable {w0:World}
def Hp.vY(h:Hp w0 H w){i:Nat}{t:TypeId}{l:List UInt8}{ex:List Value}(hi:H[i]?=some (.blk b t (ij l++ex) fz))(hl:l.length=n):Sl w (some ⟨b,0,none⟩) n 1 (ij l):=by
 refine⟨by rw[Ii,hl,I_],λ_=>⟨_,rfl,λj u hu=> ?_⟩⟩;refine h.jK hi j u ?_;rw[X8 (X_.1 hu).1];exact hu
def mC(i:Nat)(t:TR):Option TR:=match t.m.data.toList[i]? with|some e=>if e.toNat=0 then none else some ⟨str (t.m.data.toList.set i (e-1)),nR (t.c.ma*((e.toNat:Int):Dyadic))⟩|none=>none
def Im(i:Nat)(l:List TR):List TR:=l.filterMap (mC i)
def oO{i:Nat}{l:List TR}{x:TR}(h:l[j]?=some x):Im i (l.take (j+1))=Im i (l.take j)++(mC i x).toList:=by
 unfold Im;rw[oa h,N5];congr 1
def iY{p:PX}{i:Int}(h:Bz p i=0):p.e=0/\0<=i/\i<p.v:=by
 unfold Bz at h;by_cases h0:p.e=0
 .rw[J' h0] at h;by_cases h1:i<0\/p.v<=i
  .rw[J' h1] at h;cases h
  exact⟨h0,Z',Z'⟩
 rw[L' h0] at h;exact absurd h h0
def LW{l:List UInt8}{ex:List Value}{i:Nat}{e:UInt8}(h:i<l.length)(he:e.toNat≠0):Hb (ij l++ex) (i*1) [.int .u8 (((e.toNat+256-1) % 256:Nat):Int)]=ij (l.set i (e-1))++ex:=by
 have hl:i<(ij l).length:=by rw[Ii];exact h
 have h1:(1:UInt8)<=e:=by rw[UInt8.le_iff_toNat_le];show 1<=e.toNat;omega
 have h2:e.toNat<256:=e.toNat_lt;have h3:(e-1).toNat=(e.toNat+256-1) % 256:=(by rw[UInt8.toNat_sub_of_le _ _ h1];show e.toNat-1=_;omega);rw[I_,jc (by rw[Y_];omega),List.set_append_left _ _ hl];congr 1;unfold ij;rw[Z8,h3]
def Mw{l:List UInt8}:Ae l=true↔∀c∈l,c.toNat<128:=by
 unfold Ae;rw[u_];exact⟨λh c hc=>B9 (h c hc),λh c hc=>M_ (h c hc)⟩
def Lt{i:Nat}{t s:TR}(h:mC i t=some s):∃e,t.m.data.toList[i]?=some e/\e.toNat≠0/\s=⟨str (t.m.data.toList.set i (e-1)),nR (t.c.ma*((e.toNat:Int):Dyadic))⟩:=by
 unfold mC at h;split at h
 .rename_i e he;by_cases h0:e.toNat=0
  .rw[J' h0] at h;cases h
  rw[L' h0] at h;exact⟨e,he,h0,(L_ h).symm⟩
 cases h
def MR{v:Int}{i:Nat}{t s:TR}(h:mC i t=some s)(ht:pe v t=true):pe v s=true:=by
 obtain⟨e,he,h0,rfl⟩:=Lt h;unfold pe at ht |-;rw[Q_,K_] at ht;rw[Q_,K_];refine⟨?_, ?_⟩
 .show Ae (str _).data.toList=true;rw[Oc,Mw];intro c hc;obtain hc|rfl:=J8 hc
  .exact Mw.1 ht.1 c hc
  have h1:(1:UInt8)<=e:=by rw[UInt8.le_iff_toNat_le];show 1<=e.toNat;omega
  rw[UInt8.toNat_sub_of_le _ _ h1];have:=Mw.1 ht.1 e (G' he);omega
 show((str _).size:Int)=v;rw[yg,U9,<-Tc];exact ht.2
def EL{i:Nat}{t s:TR}(h:mC i t=some s)(ht:Sz k t.c.ma)(hk:k<=1000000):s.c.ok/\Sz (k+24) s.c.ma/\s.m.size=t.m.size:=by
 obtain⟨e,he,h0,rfl⟩:=Lt h;have he8:e.toNat<256:=e.toNat_lt;have zn:Sz 24 ((e.toNat:Int):Dyadic):=MY (m:=(e.toNat:Int)) (e:=0) Z' U' U';have hs:=ht.mul zn;exact⟨hs.ok Z',by show Sz _ (nR _).ma;rw[Za];exact hs,by show(str _).size=_;rw[yg,U9,<-Tc]⟩
def eN{v:Int}{i:Nat}(h:Gf v ts=0)(ho:xg k ts)(hz:∀t∈ts,t.m.size<=100000)(hk:k<=100000):Gi v (Im i ts)=0/\xg (k+24) (Im i ts)/\∀t∈Im i ts,t.m.size<=100000:=by
 obtain⟨h1,h2,h3,_⟩:=Ub h;have hl:(Im i ts).length<=4096:=N_ (List.length_filterMap_le _ _) h2;have hm:∀s∈Im i ts,∃t∈ts,mC i t=some s:=λs hs=>z8.1 hs;refine⟨?_,λs hs=> ?_,λs hs=> ?_⟩
 .unfold Gi;rw[L',L' Z']
  .unfold Qf;have:=Vb (Im i ts);rw[L' Z']
  rintro (h5|h5)
  .rw[h1] at h5;cases h5
  obtain⟨s,hs,h6⟩:=k9.1 h5;obtain⟨t,ht,h7⟩:=hm s hs;rw[MR h7 (h3 t ht)] at h6
  cases h6
 .obtain⟨t,ht,h7⟩:=hm s hs;have:=EL h7 (ho t ht).2 Z';exact⟨this.1,this.2.1⟩
 obtain⟨t,ht,h7⟩:=hm s hs;rw[(EL h7 (ho t ht).2 Z').2.2];exact hz t ht
def Cz(p:PX)(which:Int)(k:Nat)(w:World)(hT:Sc w)(hp:p.at_ w)(lp:p.Zg k)(hk:k<=100000):Calls prog 217 #[.agg #[.int .i64 p.v,.slice p.A p.n p.c],.int .i64 which] w λr w'=>∃g:PX,mg (Bz p which) p.v (sa (Im which.toNat p.ts)) g/\r=.returned (.tuple #[.agg #[.int .i64 g.v,.slice g.A g.n g.c],.int .i64 (Bz p which)])/\Hp w [g.row] w':=by
 have hh:=Hp.start w;have hck:=λw1 hT1 hb=>YO p which k w1 hT1 (hp.ext hb) lp;by_cases h0:Bz p which=0
 .obtain⟨hpe,hi0,hiv⟩:=iY h0;rw[h0] at hck |-;obtain⟨hf,h4,hmy,_⟩:=Ub hpe;replace hf:=Pe.1 hf;obtain⟨pv,pA,pn,pc,ts⟩:=p;replace hpl:ts.length=pn:=hp.ln;replace hp:Sl w pA pn 4 (na TR.cells ts):=hp;have okp:xg k ts:=lp.ok;have szp:∀t∈ts,t.m.size<=100000:=lp.sz;replace hmy:∀t∈ts,pe pv t=true:=hmy;replace h4:ts.length<=4096:=h4;replace hf:0<=pv/\pv<=12:=hf;replace hiv:which<pv:=hiv;obtain⟨j,rfl⟩:∃j:Nat,which=(j:Int):=⟨which.toNat,Z'⟩;rw[show((j:Int)).toNat=j from rfl];show Calls _ _ _ _ λr w'=>∃g:PX,mg 0 pv (sa (Im j ts)) g/\r=.returned (.tuple #[.agg #[.int .i64 g.v,.slice g.A g.n g.c],.int .i64 0])/\Hp w [g.row] w';refine da (N:=64) (l:=[.agg #[.int .i64 pv,.slice pA pn pc],.int .i64 j]) func217 rfl rfl (by simp) ?_;refine Sb ?_;intro b2 w2 hh b4 w4 hh;refine bh ?_;intro w14 hh;refine fa ?_;replace hh:=hh.Lb 72 4;refine Ra [7,9,10,11,22,23,24,25,26,27,28,29,30,31,32,33,34,35,36,37,38,39,40,41,42,43,44,45,46,47,48,49,50,51,52,53,54,55,56,57] 7 22 (λa v w'=>∃(i:Nat)(M:List TR)(A:Option Addr)(c:Nat),i<=pn/\v=.int .i64 i/\M=Im j (ts.take i)/\a=.slice A M.length c/\Hp w [.row A M.length c 72 4 (na TR.cells M),.blk b4 24 [.int .i64 0,.slice none 0 0] (0,0),.blk b2 24 [.int .i64 pv,.slice pA pn pc] (0,0)] w') (λ_ v _=>pn-(intOf v).toNat) ?_ ?_
  .exact⟨0,[],none,0,D' _,rfl,rfl,rfl,hh⟩
  clear hh;rintro ρ' a_ v w' ⟨i,M,A,c,hi,rfl,hM,rfl,hh⟩;have hMl:M.length<=i:=by rw[hM];exact N_ (List.length_filterMap_le _ _) (by rw[R_];omega)
  by_cases hlt:i<pn
  .obtain⟨x,hx⟩:=ea (l:=ts) (k:=i) Z';obtain⟨ad,rfl,hr⟩:=hp.at_ Z';have hxo:=okp x (G' hx);have hmx:=I8.1 (hmy x (G' hx));have hxz:(x.m.size:Int)=pv:=B9 hmx.2;obtain⟨e,he⟩:=ea (l:=x.m.data.toList) (k:=j) (by rw[<-Tc];omega);have he8:e.toNat<256:=e.toNat_lt;have hbl:j<x.m.data.toList.length:=(X_.1 he).1;have hdt:mC j x=if e.toNat=0 then none else some ⟨str (x.m.data.toList.set j (e-1)),nR (x.c.ma*((e.toNat:Int):Dyadic))⟩:=by unfold mC;rw[he]
   have hsn:=oO (i:=j) hx;rw[<-hM] at hsn;refine fa ?_;refine Qn ?_;refine Sb ?_;intro b9 w9 hh ws hh;refine YC hh lb.out lb.out lb.out rfl U' ?_;intro g28 c28 x28 w28 hh;have hcl:(ij x.m.data.toList++x28)[j]?=some (.int .u8 (e.toNat:Int)):=by rw[X8 (by rw[Ii];exact hbl)];unfold ij;rw[V_,he];rfl
   generalize (((ij x.m.data.toList++x28).length,(ij x.m.data.toList++x28).length+1):Nat×Nat)=fz at hh;by_cases he0:e.toNat=0
   .rw[hdt,J' he0] at hsn;refine fa ?_;refine CK ?_;refine fa ?_;replace hh:=hh.sub (p' _ (p' _ (I' _ (I' _ (I' _ H_)))));refine⟨⟨i+1,M,A,c,Z',rfl,by rw[hsn];simp,rfl,hh⟩,by show pn-(i+1)<pn-i;omega, ?_⟩;exact Rc
   rw[hdt,L' he0] at hsn;refine fa ?_;refine CK ?_;refine fa ?_;refine CK ?_;refine fa ?_;refine CK ?_;refine Up (b:=1) rfl rfl Z' U' ?_;refine fa ?_;refine Yx hh (i:=0) (vs:=[_]) rfl rfl (Bc rfl) rfl ya.out rfl (by rw[Y_,Ii];omega) rfl ?_;intro ws hh;simp only[U_] at hh;rw[LW hbl he0] at hh;have hbl2:(x.m.data.toList.set j (e-1)).length=x.m.size:=by rw[U9,<-Tc]
   have zn:Sz 24 ((e.toNat:Int):Dyadic):=MY (m:=(e.toNat:Int)) (e:=0) Z' U' U';have hdm:=λA cc w1 hT1 hS1=>Ee A 2 cc [x.c,nR ((e.toNat:Int):Dyadic)] w1 hT1 hS1 (by simpa using⟨hxo.1,zn.ok U'⟩) (k+24) (by simpa[Za] using⟨hxo.2.mono Z',zn.mono Z'⟩) Z' U';rw[show Cf ([x.c,nR ((e.toNat:Int):Dyadic)].map NR.ma)=x.c.ma*((e.toNat:Int):Dyadic) by show 1*x.c.ma*(nR _).ma=_;rw[Za,W7]] at hdm;refine fa ?_;refine Ca 11 [[(7,none)],[(10,none)],[(46,some 1)],[(9,none)],[(48,some 3)],[(11,none)],[(50,some 5)],[(49,some 4),(51,some 6)],[(52,some 7)],[(47,some 2),(53,some 8)],[(54,some 9)]] [(10,55),(9,54),(8,53),(7,52),(6,51),(5,50),(4,49),(3,48),(2,47),(1,46),(0,45)] hh mixed T' ?_;refine De ?_;refine De ?_;refine Va (i:=2) (Is (.string ⟨((x.m.data.toList.set j (e-1))).toArray⟩)) Is.ext ?_ ?_
   .intro ρ1 w1 hj hR;exact Od rfl (ik (l:=(x.m.data.toList.set j (e-1))) lb.out lb.out lb.out (show ρ1 46=Value.slice _ _ _ from hR.1) (hj.hp.vY (i:=0) rfl hbl2)) ⟨Below.refl _ _,rfl⟩
   refine yd ?_;refine Vd 1 [_,_,_] ?_;refine cd ?_;refine dC (λ_ hj=>Tk (e.toNat:Int) _ (hT.hp hj.hp) Z' Z') ?_;refine qq [_,_,_,_,_,_] ?_;refine Va (i:=8) (Is (.agg #[.bool (nR (x.c.ma*((e.toNat:Int):Dyadic))).neg,.string (nR (x.c.ma*((e.toNat:Int):Dyadic))).Qa,.int .i64 (nR (x.c.ma*((e.toNat:Int):Dyadic))).e])) Is.ext ?_ ?_
   .intro ρ1 w1 hj hR;obtain⟨A52,c52,h52,s52⟩:=hR.1;exact Pb rfl (qb ja.out (Ga h52 Fb)) (hdm A52 c52 _ (hT.hp hj.hp) s52) (λ_ _ hq=>⟨_,hq.1,hq.2,rfl⟩)
   refine dB [_,_,_,_] ?_;refine qq [_,_,_,_] ?_;refine xa ?_;intro f W hJ hV;have hb_12:=hJ.bl;obtain⟨v55,v54,v53,v52,v51,v50,v49,v48,v47,v46,v45,_⟩:=hV;obtain⟨A52,c52,e52,f52⟩:Rows _ _ _ (f 7) W:=v52;obtain⟨A55,c55,e55,f55⟩:Rows _ _ _ (f 10) W:=v55;replace hh:=hJ.hp;refine Da (Na (aa e55 (aa v54 (aa v53 (aa e52 (aa v51 (aa v50 (aa v49 (aa v48 (aa v47 (aa v46 (aa v45 Ea)))))))))))) ?_;dsimp only[Bb];clear e52 e55 hJ;refine Gb hh (i:=2) rfl rfl rfl (f55) lb.out ya.out rfl U' (by first|rfl|exact Xb _|exact Nb _|exact Pa _|exact Ta NR.one _) Z' Z' U' ?_;intro A56 c56 w56 hh;simp only[U_,F_] at hh;refine fa ?_;replace hh:=hh.sub (p' _ (p' _ (I' _ (I' _ (I' _ H_)))));refine⟨⟨i+1,M++[⟨str (x.m.data.toList.set j (e-1)),nR (x.c.ma*((e.toNat:Int):Dyadic))⟩],A56,c56,Z',rfl,by rw[hsn];rfl,by rw[Y_];rfl,by rw[Y_,La,Lj];exact hh⟩,by show pn-(i+1)<pn-i;omega, ?_⟩;exact Rc
  obtain rfl:i=pn:=Z';rw[W_ Z'] at hM;have hmk:Gi pv M=0/\xg (k+24) M/\∀t∈M,t.m.size<=100000:=(by rw[hM];exact eN hpe okp szp hk);have hmc:=λA c w1 hT1 hS1=>Rm pv A M.length c M (k+24) w1 hT1 hS1 Z' Z' hmk.2.1 hmk.2.2;rw[hmk.1] at hmc;refine fa ?_;refine qa (hmc _ _ _ (hT.hp hh) (hh.ra (i:=0) rfl)) ja.out rfl U' ?_;rintro e_ w61 ⟨g,og,rfl,h3⟩;refine⟨_,rfl, ?_⟩;replace hh:=hh.join h3;simp only[C',E'] at hh;refine Jb ?_;intro ws hh;refine Lk ?_;rw[hM] at og;exact XX
 generalize Bz p which=e at*;refine da (N:=64) (l:=[.agg #[.int .i64 p.v,.slice p.A p.n p.c],.int .i64 which]) func217 rfl rfl (by simp) ?_;refine Sb ?_;intro b2 w2 hh b4 w4 hh;refine bh ?_;intro w14 hh;exact kT
def JJ.tW{L:List HE}(hJ:JJ w0 H w W)(hs:Hp w0 H w)(hb:w.heap.size<=w1.heap.size)(hL:Hp w1 L W):Hp w0 (L++H) W:=
 hs.join (⟨hJ.bl,λx hx=>Sm (hL.own x hx) hb,hL.nd⟩:Hp w L W)
def Dr(base:Nat)(E v:Int)(ts:List TR):VP:=Ei base E v ts
def Dr.ext{v:Int}(x:Value)(w w':World)(h:Dr base E v ts x w)(hb:Below w.heap.size w w'):Dr base E v ts x w':=Ei.ext x w w' h hb
def aH(v:Int):sa [⟨Hd v,nR 0⟩]=[]:=by
 unfold sa Jh Cp;rfl
def sJ(lA:Option Addr)(lc K T c0:Nat)(v:Int)(ls:List PX)(hv:Wg v=true)(hlc:ls.length<=lc)(hl12:ls.length<=12)(hls:∀g∈ls,bj v K g.ts/\g.v=v/\g.Zg K/\g.ts.length<=T)(hc0:K+4096*T+8192<=c0)(hc1:c0<=440000):
  ∀(qs:List PX)(j:Nat)(p:List TR)(A:Option Addr)(n c:Nat)(ds:List Nat)(k:Nat)(w:World),ls.drop j=qs->j<=ls.length->Sc w->Sl w lA ls.length 2 (na PX.cells ls)->(∀g∈ls,g.at_ w)->Sl w A n 4 (na TR.cells p)->n<=c->ML ls.length j p->xg k p->n<=4096->ds.length=qs.length->(∀(i d:Nat),ds[i]?=some d->d<=127/\∀t∈p,qg (j+i) t<=d)->Qe c0 ds (k+1)<=440000->
  Calls prog 280 #[.slice A n c,.int .i64 j,.slice lA ls.length lc,.int .i64 v] w λr w'=>∃g:PX,mg (Je v (qs.map PX.ts) j p).1 v (Je v (qs.map PX.ts) j p).2 g/\r=.returned (.tuple #[.agg #[.int .i64 g.v,.slice g.A g.n g.c],.int .i64 (Je v (qs.map PX.ts) j p).1])/\Hp w [g.row] w':=by
 intro qs;have hK:K<=440000:=Z';have hco:To v=0:=L' (by rw[hv];decide)
 induction qs with
 |nil=>
  intro j p A n c ds k w hq hj hT hL hat hS hnc hsr hok hn hds hD hB;have hh:=Hp.start w;have hln:=hS.Fa TR.len U';obtain rfl:j=ls.length:=(by have:=J_ List.length hq;rw[M9] at this;simp only[g7] at this;omega);obtain rfl:ds=[]:=Z6.1 hds;rw[Rs] at hB;have hcn:=λc hc w1 hT1=>nj v c k w1 hT1 hc Z';rw[hco] at hcn
  cases p with
  |nil=>
   obtain rfl:n=0:=by simpa using hln.symm
   show Calls _ _ _ _ λr w'=>∃g:PX,mg 0 v (sa [⟨Hd v,nR 0⟩]) g/\r=.returned (.tuple #[.agg #[.int .i64 g.v,.slice g.A g.n g.c],.int .i64 0])/\Hp w [g.row] w';refine da (N:=118) (l:=[.slice A 0 c,.int .i64 ls.length,.slice lA ls.length lc,.int .i64 v]) func280 rfl rfl (by simp) ?_;refine Jb ?_;intro b8 w8 hh;refine qa (hcn (nR 0) ⟨(Sz.zero k).ok Z',by rw[Za];exact Sz.zero k⟩ _ (hT.hp hh)) ja.out rfl U' ?_;rintro e_ w25 ⟨g,og,rfl,h3⟩;exact cS
  |cons t p=>
   have hn1:p.length+1=n:=by simpa using hln
   have ht:=hok t q';obtain⟨ad,rfl,hr⟩:=hS.at_ Z';show Calls _ _ _ _ λr w'=>∃g:PX,mg 0 v (sa [⟨Hd v,t.c⟩]) g/\r=.returned (.tuple #[.agg #[.int .i64 g.v,.slice g.A g.n g.c],.int .i64 0])/\Hp w [g.row] w';refine da (N:=118) (l:=[.slice (some ad) n c,.int .i64 ls.length,.slice lA ls.length lc,.int .i64 v]) func280 rfl rfl (by simp) ?_;refine Jb ?_;intro b8 w8 hh;refine wb (vs:=[_,_,_]) ya.out rfl (((hr.ext hh.below).recAt TR.len (show(t::p)[0]?=some t from rfl)).drop 1) rfl U' ?_;refine qa (hcn t.c ht _ (hT.hp hh)) ja.out rfl U' ?_;rintro e_ w33 ⟨g,og,rfl,h3⟩;exact cS
 |cons q qs ih=>
  intro j p A n c ds k w hq hj hT hL hat hS hnc hsr hok hn hds hD hB;have hh:=Hp.start w;have hln:=hS.Fa TR.len U'
  cases ds with
  |nil=>cases hds
  |cons d ds=>
   have hd:=hD 0 d rfl;have hjl:j<ls.length:=by
    obtain h|h:=Y9 j ls.length
    .exact h
    rw[B8 h] at hq;cases hq
   have hqj:ls[j]?=some q:=by rw[<-List.head?_drop,hq];rfl
   have hqs:ls.drop (j+1)=qs:=by rw[<-List.tail_drop,hq];rfl
   obtain⟨hqk,hqv,hql,hqT⟩:=hls q (G' hqj);rw[Wp] at hB;have hB1:Qe c0 ds (k+1)<=440000:=Z';have hmono:=hsr.mono Z';rw[q_];show Calls _ _ _ _ λr w'=>∃g:PX,mg (rb q.ts (Je v (qs.map PX.ts) (j+1)) p j 128).1 v (rb q.ts (Je v (qs.map PX.ts) (j+1)) p j 128).2 g/\r=.returned (.tuple #[.agg #[.int .i64 g.v,.slice g.A g.n g.c],.int .i64 (rb q.ts (Je v (qs.map PX.ts) (j+1)) p j 128).1])/\Hp w [g.row] w';have hDs:∀n (i e:Nat),ds[i]?=some e->e<=127/\∀t∈Ya p j n,qg (j+1+i) t<=e:=λn i e he=>(by exact aeS);have hrec:∀(m fr en:Nat)(w1:World),Sc w1->Below w.heap.size w w1->fr<=en->en<=n->Ya p j m=(p.drop fr).take (en-fr)->Calls prog 280 #[.slice (if c=fr then A else A.map (·.add (fr*4))) (en-fr) (c-fr),.int .i64 ((j:Int)+1),.slice lA ls.length lc,.int .i64 v] w1 λr w'=>∃g:PX,mg (Je v (qs.map PX.ts) (j+1) (Ya p j m)).1 v (Je v (qs.map PX.ts) (j+1) (Ya p j m)).2 g/\r=.returned (.tuple #[.agg #[.int .i64 g.v,.slice g.A g.n g.c],.int .i64 (Je v (qs.map PX.ts) (j+1) (Ya p j m)).1])/\Hp w1 [g.row] w':=λm fr en w1 hT1 hb h1 h2 hw=>(by have hcut:=(hS.ext hb).cut h1 h2 hnc;rw[ig TR.len,Ih TR.len,<-hw] at hcut;exact ih (j+1) (Ya p j m) _ (en-fr) (c-fr) ds k w1 hqs Z' hT1 (hL.ext hb) (λg hg=>(hat g hg).ext hb) hcut Z' (hsr.with Z') (λt ht=>hok t (Wi t ht)) Z' (by simpa using hds) (hDs m) hB1);have hsub:∀m,(Je v (qs.map PX.ts) (j+1) (Ya p j m)).1=0->bj v (Qe c0 ds (k+1)) (Je v (qs.map PX.ts) (j+1) (Ya p j m)).2:=λm hm=>(by refine LM hv hc0 (qs.map PX.ts) (j+1) (Ya p j m) ds k (λr hr=> ?_) (λt ht=>hok t (Wi t ht)) (by rw[i'];simpa using hds) (hDs m) Z' hm;obtain⟨g,hg,rfl⟩:=Z_.1 hr;have:=hls g (l6 (by rw[hqs];exact hg));exact⟨this.1,this.2.2.2⟩);generalize Je v (qs.map PX.ts) (j+1)=sub at hrec hsub |-;have hlim:=yy (sub:=sub) (p:=p) (j:=j) hv hqk hqT hd.2 hd.1 hsub hc0 Z';have hlim2:∀i,i<=128->(rb q.ts sub p j i).1=0->bj v 440000 (rb q.ts sub p j i).2:=λi hi h0=>(hlim i hi h0).mono (by
    have:(i+d-128)*c0<=d*c0:=N9 _ Z';omega)
   have hcn:=λw1 hT1=>nj v (nR 0) 0 w1 hT1 ⟨(Sz.zero 0).ok U',by rw[Za];exact Sz.zero 0⟩ U';rw[hco,aH] at hcn;refine da (N:=118) (l:=[.slice A n c,.int .i64 j,.slice lA ls.length lc,.int .i64 v]) func280 rfl rfl (by simp) ?_;refine Jb ?_;intro b8 w8 hh;refine qa (hcn _ (hT.hp hh)) ja.out rfl U' ?_;rintro e_ w39 ⟨g,og,rfl,h3⟩;refine⟨_,rfl, ?_⟩;replace hh:=hh.join h3;simp only[C',E'] at hh;refine Sb ?_;intro b10 w10 hh ws hh;refine ay [11,12,13,14,15,44,45,46,47,48,49,50,51,52,53,54,55,56,57,58,59,60,61,62,63,64,65,66,67,68,69,70,71,72,73,74,75,76,77,78,79,80,81,82,83,84,85,86,87,88,89,90,91,92,93,94,95,96,97,98,99,100,101,102,103,104,105,106,107,108,109,110,111,112] 11 12 13 (λe en nv w'=>∃(i en_:Nat)(e_ ov:Int)(oA:Option Addr)(on oc:Nat)(os:List TR),i<=128/\nv=.int .i64 (127-(i:Int))/\en=.int .i64 en_/\e=.int .i64 e_/\e_=(rb q.ts sub p j i).1/\en_<=n/\(e_=0->ov=v/\os=(rb q.ts sub p j i).2/\(∀t∈p.take en_,qg j t<128-i)/\(∀t∈p.drop en_,128-i<=qg j t))/\Hp w [.blk b10 24 [.int .i64 ov,.slice oA on oc] (0,0),.row oA on oc 72 4 (na TR.cells os),.blk b8 24 [.int .i64 0,.slice none 0 0] (0,0)] w') (λ_ _ nv _=>(intOf nv+1).toNat) ?_ ?_
   .refine⟨0,n,0,g.v,g.A,g.n,g.c,g.ts,D' _,rfl,rfl,rfl,rfl,j' _,λ_=>⟨og.v,og.ts,λt ht=> ?_,λt ht=> ?_⟩,hh⟩
    .obtain⟨x,_,hx,h8⟩:=hsr.get Z' (N8 ht);rw[hx];exact h8
    rw[B8 Z'] at ht
    cases ht
   clear hh og h3;rintro ρ' e_ en_ nv_ w' ⟨i,en,e,ov,oA,on,oc,os,hi,rfl,rfl,rfl,he,hen,hok0,hh⟩;by_cases hcn:i<128/\e=0
   .obtain⟨hi8,rfl⟩:=hcn;obtain⟨rfl,rfl,hlo,hhi⟩:=hok0 rfl;clear hok0;obtain⟨m,hm⟩:∃m,m=127-i:=⟨_,rfl⟩;rw[show(127-(i:Int))=(m:Int) by omega];refine fa ?_;refine Rv zL4 14 (λf w'=>∃fr:Nat,fr<=en/\f=.int .i64 fr/\Ya p j m=(p.drop fr).take (en-fr)/\(∀t∈p.take fr,qg j t<m)/\Hp w [.blk b10 24 [.int .i64 ov,.slice oA on oc] (0,0),.row oA on oc 72 4 (na TR.cells (rb q.ts sub p j i).2),.blk b8 24 [.int .i64 0,.slice none 0 0] (0,0)] w') ?_ ?_
    .refine Ba zL4 14 (λf w'=>∃fr:Nat,fr<=en/\f=.int .i64 fr/\(∀t∈(p.drop fr).take (en-fr),qg j t=m)/\Hp w [.blk b10 24 [.int .i64 ov,.slice oA on oc] (0,0),.row oA on oc 72 4 (na TR.cells (rb q.ts sub p j i).2),.blk b8 24 [.int .i64 0,.slice none 0 0] (0,0)] w') (λf _=>(intOf f).toNat) ?_ ?_
     .exact⟨en,j' _,rfl,(λt ht=>by rw[f_] at ht;cases ht),hh⟩
     clear hh;rintro ρ' f w' ⟨fr,hfr,rfl,hmid,hh⟩;by_cases h0:0<fr
     .obtain⟨fr,rfl⟩:∃g,fr=g+1:=⟨fr-1,Z'⟩;obtain⟨x,hx⟩:=ea (l:=p) (k:=fr) Z';obtain⟨ad,rfl,hr⟩:=hS.at_ Z';obtain⟨e,hex,hxe,h8⟩:=hsr.get Z' (G' hx);by_cases hem:e.toNat=m
      .refine mb (sr (mI ?_));refine qx (mB (gT (mL (gT (mI (gT ?_))))));refine Rp (gT ?_);refine zd (k:=fr) lb.out ya.size rfl rfl Z' Z' U' ?_;refine gT ?_;refine Fl Wd.out rfl U' ?_;refine wk rfl rfl ?_;refine xM ?_;refine fa ?_;refine⟨⟨fr,Z',by show Value.int .i64 (((fr+1:Nat):Int)-1)=_;congr 1;omega,λt ht=> ?_,hh⟩,by show(((fr+1:Nat):Int)-1).toNat<((fr+1:Nat):Int).toNat;omega, ?_⟩
       .rw[Ge hx,show en-fr=(en-(fr+1))+1 by omega,k7] at ht;obtain rfl|ht:=S_.1 ht
        .rw[hxe,hem]
        exact hmid t ht
       exact Rc
      have hlt:e.toNat<m:=(by have:=hlo x (by rw[show en=(fr+1)+(en-(fr+1)) by omega,List.take_add];exact x9 _ (by rw[oa hx];exact W8 _ q'));omega);have hall:=SO hmono hx (n:=m) (by rw[hxe];exact hlt);refine mb (sr (mI ?_));refine qx (mB (gT (mL (gT (mI (gT ?_))))));refine Rp (gT ?_);refine zd (k:=fr) lb.out ya.size rfl rfl Z' Z' U' ?_;refine gT ?_;refine Fl Wd.out rfl U' ?_;refine wk rfl rfl ?_;refine xM ?_;refine fa ?_;refine⟨⟨fr+1,hfr,rfl,pH hfr hall hmid (λt ht=>by have:=hhi t ht;omega),hall,hh⟩, ?_⟩;exact Rc
     obtain rfl:fr=0:=Z';refine fa ?_;refine⟨⟨0,hfr,rfl,pH hfr (λt ht=>by cases ht) hmid (λt ht=>by have:=hhi t ht;omega),(λt ht=>by cases ht),hh⟩, ?_⟩;exact Rc
    skip;clear hh;rintro ρ' f w' ⟨fr,hfr,rfl,hwi,hbl,hh⟩;have hnx:rb q.ts sub p j (i+1)=Ch q.ts sub p j m (rb q.ts sub p j i):=by rw[Ji,hm]
    have hop:=hlim2 i Z' he.symm;unfold Ch at hnx;rw[L' (by rw[<-he];decide)] at hnx;have hmi:m=128-(i+1):=Z';have hmi2:(127-((i+1:Nat):Int))=(m:Int)-1:=Z';have hdf:∀t∈p.drop fr,m<=qg j t:=λt ht=>by
     rw[HU hfr] at ht;obtain ht|ht:=z_.1 ht
     .rw[<-hwi] at ht;have:=B9 (j9.1 ht).2;omega
     have:=hhi t ht;omega
    have hst:(rb q.ts sub p j i)=(0,(rb q.ts sub p j i).2):=by rw[he]
    generalize (rb q.ts sub p j i).2=os at*;have hoc:on<=oc:=hh.me (i:=1) rfl;have hon:os.length=on:=(hh.ra (i:=1) rfl).Fa TR.len U';have hwl:(Ya p j m).length=en-fr:=by rw[hwi,R_,M9];omega
    by_cases hsk:os.length=0/\(Ya p j m).length=0
    .rw[J' hsk] at hnx;obtain⟨h1,h2⟩:=hsk;obtain rfl:on=0:=Z';obtain rfl:fr=en:=Z';refine fa ?_;refine⟨⟨i+1,fr,0,ov,oA,0,oc,os,Z',by rw[hmi2];rfl,rfl,rfl,by rw[hnx];exact he,hen,λ_=>⟨rfl,by rw[hnx,hst],λt ht=>by rw[<-hmi];exact hbl t ht,λt ht=>by rw[<-hmi];exact hdf t ht⟩,hh⟩,by show((m:Int)-1+1).toNat<((m:Int)+1).toNat;omega, ?_⟩;exact Rc
    rw[L' hsk] at hnx;refine Qs [70,71,72,73,74,75,76,77,78] (λw'=>Hp w [.blk b10 24 [.int .i64 ov,.slice oA on oc] (0,0),.row oA on oc 72 4 (na TR.cells os),.blk b8 24 [.int .i64 0,.slice none 0 0] (0,0)] w') ?_ ?_
    .by_cases h0:on=0
     .subst h0;have hne:fr≠en:=λh=>hsk ⟨hon,Z'⟩;refine fa ?_;refine⟨hh, ?_⟩;exact pY
     refine fa ?_;refine⟨hh, ?_⟩;exact pY
    skip;clear hh;rintro ρ' w' hh;obtain⟨lad,rfl,hlr⟩:=hL.at_ Z';have hlp:bg [⟨ov,oA,on,oc,os⟩,q]=0:=Lw hop.e (by unfold PX.e;rw[hqv];exact hqk.e) hqv;have hmu:∀(A2:Option Addr)(w1:World),Sc w1->Sl w1 A2 2 2 (na PX.cells [⟨ov,oA,on,oc,os⟩,q])->Sl w1 oA on 4 (na TR.cells os)->Below w.heap.size w w1->Calls prog 306 #[.slice A2 2 2] w1 λr w'=>∃g:PX,mg (Ff os q.ts) ov (sa (Zb os q.ts)) g/\r=.returned (.tuple #[.agg #[.int .i64 g.v,.slice g.A g.n g.c],.int .i64 (Ff os q.ts)])/\Hp w1 [g.row] w':=λA2 w1 hT1 s1 s2 hb=>by
     have h1:=bG A2 2 2 [⟨ov,oA,on,oc,os⟩,q] 440000 505536 w1 hT1 s1 U' U' (λg hg=>by
      obtain rfl|hg:=S_.1 hg
      .exact s2
      .rw[T_.1 hg];exact(hat q (G' hqj)).ext hb) (λg hg=>by
      obtain rfl|hg:=S_.1 hg
      .exact⟨by have:=hop.len;show on<=1000000;omega,hoc,hop.ok,hop.sz⟩
      rw[T_.1 hg];exact⟨hql.n,hql.cap,hql.ok.mono hK,hql.sz⟩) U' U'
     unfold eM at h1;rw[J' hlp] at h1;exact h1
    refine Jb ?_;intro b15 w15 hh;refine Cd [] [9] [0,0,0,6,14,31,63,127,255,255,511,2047] 10 [[(10,none)],[(2,none)],[(1,none)],[(81,some 1),(82,some 2)],[(83,some 3)],[(80,some 0),(84,some 4)],[(85,some 5)],[(86,some 6)],[(79,some 7)],[(79,some 7)]] [(9,88),(8,87),(7,79),(6,86),(5,85),(4,84),(3,83),(2,82),(1,81),(0,80)] hh mixed T' Pd rfl (by repeat (first|exact Cb|refine Xa ?_|refine Db ?_)) ?_;refine Vd 1 [_,_] ?_;refine De ?_;refine cd ?_;refine jj (j) ?_;refine Dn [_,_] (λ_ hj=>(hlr.ext hj.hp.below).recAt PX.len hqj) ?_;refine Va (i:=5) (Li 2 2 (na PX.cells [⟨ov,oA,on,oc,os⟩,q])) (Li.ext) ?_ ?_
    .intro ρ1 w1 hj hR;exact Hk (sz:=2) lb.out ya.out (show vD ρ1 [(0,.tmp 80),(1,.tmp 84)]=[(0,.agg #[.int .i64 ov,.slice oA on oc]),(1,.agg #[.int .i64 q.v,.slice q.A q.n q.c])] from Rb (show ρ1 80=_ from hR.1) (Rb (show ρ1 84=_ from hR.2.1) oe)) rfl rfl U' U' rfl λv w2 h hb=>⟨hb,h⟩
    refine Va (i:=6) (si hh.sz (Ff os q.ts) ov (sa (Zb os q.ts))) (si.ext) ?_ ?_
    .intro ρ1 w1 hj hR;obtain⟨g85,e85,o85⟩:=hR.1;exact let⟨b,e1,s1⟩:=hR.1;Pb rfl (qb ja.out (Ga e1 Fb)) (hmu _ w1 (hT.hp hj.hp) s1 (hj.hp.ra (i:=2) rfl) hj.hp.below) (λ_ _ ⟨g,og,hq,h3⟩=>⟨_,hq,h3.below,g,w1,rfl,og,hj.bl.size,h3⟩)
    refine Va (i:=7) (si hh.sz (Ff os q.ts) ov (sa (Zb os q.ts))) (si.ext) ?_ ?_
    .exact DR
    refine Va (i:=8) (Dr hh.sz (Ff os q.ts) ov (sa (Zb os q.ts))) (Dr.ext) ?_ ?_
    .exact yS
    refine Va (i:=9) (Is (.int .i64 (Ff os q.ts))) (Is.ext) ?_ ?_
    .exact UR
    refine xa ?_;intro f W hJ hV _;have hb_15:=hJ.bl;obtain⟨v88,v87,v79,v86,v85,v84,v83,v82,v81,v80,_⟩:=hV;obtain⟨g85,e85,o85⟩:Li 2 2 (na PX.cells [⟨ov,oA,on,oc,os⟩,q]) (f 5) W:=v85;obtain⟨g86,u86,e86, -⟩:=v86;obtain⟨g79,u79,e79, -⟩:=v79;obtain⟨g87,u87,e87,o87,q87,h87⟩:=v87;replace hh:=JJ.tW hJ hh q87 h87;refine Da (Na (aa v88 (aa e87 (aa e79 (aa e86 (aa e85 (aa v84 (aa v83 (aa v82 (aa v81 (aa v80 Ea))))))))))) ?_;dsimp only[Bb];clear e85 e86 e79 e87 hJ;simp only[C',E'] at hh;obtain⟨gv,gA,gn,gc,gts⟩:=g87;replace hh:=show Hp w (.row gA gn gc 72 4 (na TR.cells gts)::_) W from hh;by_cases hte:Ff os q.ts=0
    .rw[L' (by rw[hte];decide)] at hnx;rw[hte] at o87;obtain rfl:ov=gv:=o87.v.symm;obtain rfl:sa (Zb os q.ts)=gts:=o87.ts.symm;have hgc:gn<=gc:=hh.me (i:=0) rfl;have hgl:(sa (Zb os q.ts)).length=gn:=(hh.ra (i:=0) rfl).Fa TR.len U';have hgo:=IL hop hqk hqT hte Z';refine rf hh 2 [_,_] ?_;intro ws hh;replace hh:Hp _ (_::_::.blk _ _ [_,_] _::_) _:=hh;refine aI (ua (sr (mI ?_)));refine WW (ua (cT (Kb (mL (mI (mI ?_))))));dsimp only at hh;refine Ia rfl rfl U' (Ef (lo:=some (.tmp 93)) (hi:=some (.tmp 94)) (l:=fr) (h:=en) lb.out ya.size rfl ⟨_,_,rfl,rfl⟩ ⟨_,_,rfl,rfl⟩ hfr Z') ?_;refine fa ?_;refine qa (hrec m fr en _ (hT.hp hh) hh.below hfr hen hwi) ja.out rfl U' ?_;rintro e_ w100 ⟨g2,og2,rfl,h4⟩;refine⟨_,rfl, ?_⟩;replace hh:=hh.join h4;simp only[C',E'] at hh;have hs2:=hsub m;obtain⟨hv2,hA2,hn2,hc2,ht2⟩:=g2;replace hh:=show Hp w (.row hA2 hn2 hc2 72 4 (na TR.cells ht2)::_) _ from hh;by_cases hE2:(sub (Ya p j m)).1=0
     .rw[L' (by rw[hE2];decide)] at hnx;rw[hE2] at og2;obtain rfl:ov=hv2:=og2.v.symm;obtain rfl:(sub (Ya p j m)).2=ht2:=og2.ts.symm;have ho2:=hs2 hE2;have hc2c:hn2<=hc2:=hh.me (i:=0) rfl;have hl2:((sub (Ya p j m)).2).length=hn2:=(hh.ra (i:=0) rfl).Fa TR.len U';generalize (sub (Ya p j m)).2=us at*;refine mT ?_;refine dv ?_;refine dv ?_;refine rf hh 2 [_,_] ?_;intro ws hh;replace hh:Hp _ (_::_::.blk _ _ [_,_] _::_) _:=hh;refine aI (ua (mb (sr (mI ?_))));refine WW (ua (cT (Kb ?_)));refine zl hh 3 [_,_] ?_;refine zl hh 2 [_,_] ?_;refine jE ?_;intro b108 w108 hh;dsimp only at hh;have hlp2:bg [⟨ov,gA,gn,gc,sa (Zb os q.ts)⟩,⟨ov,hA2,hn2,hc2,us⟩]=0:=Lw hgo.e ho2.e rfl;have had:=bq (some ⟨b108,0,none⟩) 2 2 [⟨ov,gA,gn,gc,sa (Zb os q.ts)⟩,⟨ov,hA2,hn2,hc2,us⟩] 2000000 _ (hT.hp hh) (hh.ra (i:=0) rfl) U' (λg hg=>by
       obtain rfl|hg:=S_.1 hg
       .exact hh.ra (i:=2) rfl
       .rw[T_.1 hg];exact hh.ra (i:=1) rfl) (λg hg=>by
       obtain rfl|hg:=S_.1 hg
       .exact⟨by have:=hgo.len;show gn<=1000000;omega,hgc,hgo.ok.mono Z',hgo.sz⟩
       rw[T_.1 hg];exact⟨by have:=ho2.len;show hn2<=1000000;omega,hc2c,ho2.ok.mono Z',ho2.sz⟩) U'
      unfold Ez at had;rw[J' hlp2,wZ] at had;dsimp only at had;refine qa (had) ja.out rfl U' ?_;rintro e_ w109 ⟨g3,og3,rfl,h5⟩;refine⟨_,rfl, ?_⟩;replace hh:=hh.join h5;simp only[C',E'] at hh;obtain⟨hv3,hA3,hn3,hc3,ht3⟩:=g3;replace hh:=show Hp w (.row hA3 hn3 hc3 72 4 (na TR.cells ht3)::_) _ from hh;refine Jb ?_;intro ws hh;replace hh:=hh.sub (I' _ (p' _ (p' _ (p' _ (p' _ (I' _ (p' _ (I' _ H_))))))));replace hh:=hh.perm (P_ (l₁:=[_]));simp only[C',E'] at hh;try dsimp only at hh
      refine⟨⟨i+1,fr,Qf (sa (Zb os q.ts)++us),hv3,hA3,hn3,hc3,ht3,Z',by rw[hmi2];rfl,rfl,rfl, ?_,Z',λh=>⟨?_, ?_,λt ht=>by rw[<-hmi];exact hbl t ht,λt ht=>by rw[<-hmi];exact hdf t ht⟩,hh⟩,by show((m:Int)-1+1).toNat<((m:Int)+1).toNat;omega, ?_⟩
      .rw[hnx];by_cases hg:Qf (sa (Zb os q.ts)++us)≠0
       .rw[J' hg]
       rw[L' hg];omega
      .have:=og3.v;rw[J' h] at this;exact this
      .rw[hnx,L' (by rw[h];decide)];have:=og3.ts;rw[J' h] at this;exact this
      exact Rc
     rw[J' hE2] at hnx;refine Jb ?_;intro ws hh;replace hh:=hh.sub (p' _ (I' _ (p' _ (I' _ (p' _ (I' _ H_))))));replace hh:=hh.perm (P_ (l₁:=[_]));simp only[C',E'] at hh;refine⟨⟨i+1,fr,_,ov,gA,gn,gc,sa (Zb os q.ts),Z',by rw[hmi2];rfl,rfl,rfl,by rw[hnx],Z',λh=>absurd h hE2,hh⟩,by show((m:Int)-1+1).toNat<((m:Int)+1).toNat;omega, ?_⟩;exact Rc
    rw[J' hte] at hnx;refine Jb ?_;intro ws hh;replace hh:=hh.sub (I' _ (p' _ (I' _ (p' _ (I' _ H_)))));replace hh:=hh.perm (P_ (l₁:=[_]));simp only[C',E'] at hh;refine⟨⟨i+1,fr,Ff os q.ts,gv,gA,gn,gc,gts,Z',by rw[hmi2];rfl,rfl,rfl,by rw[hnx],Z',λh=>absurd h hte,hh⟩,by show((m:Int)-1+1).toNat<((m:Int)+1).toNat;omega, ?_⟩;exact Rc
   have hfin:rb q.ts sub p j 128=rb q.ts sub p j i:=by
    by_cases h8:i=128
    .rw[h8]
    exact tj Z' hi
   rw[hfin];by_cases he0:e=0
   .subst he0;obtain⟨rfl,rfl, -, -⟩:=hok0 rfl;clear hok0 hfin;generalize rb q.ts sub p j i=X at*;obtain rfl:i=128:=Z';rw[<-he];refine Jb ?_;intro ws hh;refine Lk ?_;exact⟨⟨ov,oA,on,oc,_⟩,⟨rfl,rfl⟩,rfl,hh.sub (.cons _ (I' _ (R9 _)))⟩
   rw[<-he];clear hok0 hfin;generalize rb q.ts sub p j i=X at*;by_cases h8:i=128
   .subst h8;exact adR
   exact adR
def vd(p:PX)(ls:List PX):Int×List TR:=
 if p.e≠0 then(p.e,[]) else if(ls.length:Int)≠p.v then(1,[]) else if ls.length≠0/\bg ls≠0 then(bg ls,[]) else Je (ff ls) (ls.map PX.ts) 0 p.ts
def jI(f:PX)(p:Addr)(x:Int)(w:World)(hp:w.cell? p=some (.int .i64 x)):Calls prog 279 #[.agg #[.int .i64 f.v,.slice f.A f.n f.c],.pointer (some p)] w λr w'=>r=.returned (.bool (decide (f.v≠x)))/\Below w.heap.size w w':=by
 have hh:=Hp.start w;by_cases hg:f.v=x
 .refine da (N:=8) (l:=[.agg #[.int .i64 f.v,.slice f.A f.n f.c],.pointer (some p)]) func279 rfl rfl (by simp) ?_;refine Jb ?_;intro b2 w2 hh;refine dL ?_;exact aY
 refine da (N:=8) (l:=[.agg #[.int .i64 f.v,.slice f.A f.n f.c],.pointer (some p)]) func279 rfl rfl (by simp) ?_;refine Jb ?_;intro b2 w2 hh;refine dL ?_;exact PV
structure Fit(p:PX)(ls:List PX)(k K T c0:Nat)(ds:List Nat):Prop where
 len:ds.length=ls.length
 aga:∀(i d:Nat),ds[i]?=some d->d<=127/\∀t∈p.ts,qg i t<=d
 grow:Qe c0 ds (k+1)<=440000
 step:K+4096*T+8192<=c0
 top:c0<=440000
 Zg:∀g∈ls,g.Zg K
 few:∀g∈ls,g.ts.length<=T
def kE{v:Int}(h:Gf v ts=0):ML v 0 ts:=by
 obtain⟨_,_,h3,h4⟩:=Ub h;exact⟨h4.Eu,h3,λa _ b _=>by rw[K8,K8]⟩
def vC(p:PX)(lA:Option Addr)(lc:Nat)(ls:List PX)(k K T c0:Nat)(ds:List Nat)(w:World)(hT:Sc w)(hp:p.at_ w)(lp:p.Zg k)(hL:Sl w lA ls.length 2 (na PX.cells ls))(hat:∀g∈ls,g.at_ w)(hlc:ls.length<=lc)(hf:Fit p ls k K T c0 ds):Calls prog 235 #[.agg #[.int .i64 p.v,.slice p.A p.n p.c],.slice lA ls.length lc] w λr w'=>∃g:PX,mg (vd p ls).1 (ff ls) (vd p ls).2 g/\r=.returned (.tuple #[.agg #[.int .i64 g.v,.slice g.A g.n g.c],.int .i64 (vd p ls).1])/\Hp w [g.row] w':=by
 have hh:=Hp.start w;have hck:=λw1 hT1 hb=>rk p k w1 hT1 (hp.ext hb) lp;unfold vd;by_cases h0:p.e≠0
 .rw[J' h0];generalize p.e=e at*;refine da (N:=54) (l:=[.agg #[.int .i64 p.v,.slice p.A p.n p.c],.slice lA ls.length lc]) func235 rfl rfl (by simp) ?_;refine Sb ?_;intro b2 w2 hh b4 w4 hh;refine bh ?_;intro w12 hh;exact kT
 rw[L' h0];have hpe:p.e=0:=Z';rw[hpe] at hck;by_cases h1:(ls.length:Int)≠p.v
 .rw[J' h1];refine da (N:=54) (l:=[.agg #[.int .i64 p.v,.slice p.A p.n p.c],.slice lA ls.length lc]) func235 rfl rfl (by simp) ?_;refine Sb ?_;intro b2 w2 hh b4 w4 hh;refine bh ?_;intro w12 hh;refine Jb ?_;intro ws hh;exact YW
 rw[L' h1];obtain⟨hfw,h4,hmy,hca⟩:=Ub hpe;replace hfw:=Pe.1 hfw;have hl12:ls.length<=12:=Z';have hpl:=hp.ln;have hsr:=kE hpe;have hput:=λ(v:Int) (hv:Wg v=true) (hz:∀g∈ls,Gf v g.ts=0) (hvv:∀g∈ls,g.v=v) w1 hT1 hb=>sJ lA lc K T c0 v ls hv hlc hl12 (λg hg=>⟨⟨hz g hg,(hf.Zg g hg).ok,(hf.Zg g hg).sz⟩,hvv g hg,hf.Zg g hg,hf.few g hg⟩) hf.step hf.top ls 0 p.ts p.A p.n p.c ds k w1 rfl (D' _) hT1 (hL.ext hb) (λg hg=>(hat g hg).ext hb) (hp.ext hb) lp.cap (by rw[show((ls.length:Nat):Int)=p.v by omega];exact hsr) lp.ok Z' hf.len (λi d h=>by rw[C_];exact hf.aga i d h) hf.grow;by_cases hn:ls=[]
 .subst hn;rw[L' (λh=>h.1 rfl)];have hpu:=hput 0 rfl (λg hg=>by cases hg) (λg hg=>by cases hg);refine da (N:=54) (l:=[.agg #[.int .i64 p.v,.slice p.A p.n p.c],.slice lA 0 lc]) func235 rfl rfl (by simp) ?_;refine Sb ?_;intro b2 w2 hh b4 w4 hh;refine bh ?_;intro w12 hh;refine Sb ?_;intro b7 w7 hh ws hh;replace hh:=show Hp w (.blk b7 3 [.int .i64 0] (0,0)::_) _ from hh;exact CZ
 have hlp0:0<ls.length:=List.length_pos_iff.2 hn;obtain⟨lad,rfl,hlr⟩:=hL.at_ hlp0;refine da (N:=54) (l:=[.agg #[.int .i64 p.v,.slice p.A p.n p.c],.slice (some lad) ls.length lc]) func235 rfl rfl (by simp) ?_;refine Sb ?_;intro b2 w2 hh b4 w4 hh;refine bh ?_;intro w12 hh;refine Sb ?_;intro b7 w7 hh ws hh;replace hh:=show Hp w (.blk b7 3 [.int .i64 0] (0,0)::_) _ from hh;refine Ba [5,9,10,28,29,30,31,32,33,34,35,36,37,38] 28 (λv w'=>∃i:Nat,i<=ls.length/\v=.int .i64 i/\(ls.take i).any (λg=>decide (g.e≠0))=false/\Hp w [.blk b7 3 [.int .i64 0] (0,0),.blk b4 24 [.int .i64 0,.slice none 0 0] (0,0),.blk b2 24 [.int .i64 p.v,.slice p.A p.n p.c] (0,0)] w') (λv _=>ls.length-(intOf v).toNat) ?_ ?_
 .exact⟨0,D' _,rfl,rfl,hh⟩
 clear hh;rintro ρ' v w' ⟨i,hi,rfl,hall,hh⟩;by_cases hlt:i<ls.length
 .obtain⟨g,hx⟩:=ea (l:=ls) (k:=i) hlt;have hmem:=G' hx;have hc:=λw1 hT1 hb=>rk g K w1 hT1 ((hat g hmem).ext hb) (hf.Zg g hmem);by_cases he:g.e=0
  .refine fa ?_;refine wb (vs:=[_,_]) ya.out rfl ((hlr.ext hh.below).recAt PX.len hx) rfl U' ?_;refine Sb ?_;intro b9 w9 hh ws hh;refine vx ?_;intro w33 hh;refine fa ?_;replace hh:=hh.sub (p' _ (I' _ (I' _ (I' _ H_))));refine⟨⟨i+1,Z',rfl,by rw[oa hx,n7,hall,x7,T6,O_ Z'];rfl,hh⟩,by show ls.length-(i+1)<ls.length-i;omega, ?_⟩;exact Rc
  have hlk:bg ls=g.e:=by unfold bg;rw[Et hall hx (M_ he)]
  rw[J' ⟨Z',by rw[hlk];exact he⟩,hlk];refine fa ?_;refine wb (vs:=[_,_]) ya.out rfl ((hlr.ext hh.below).recAt PX.len hx) rfl U' ?_;refine Sb ?_;intro b9 w9 hh ws hh;refine vx ?_;intro w33 hh;refine Jb ?_;intro ws hh;refine Lk ?_;exact LR
 rw[W_ Z'] at hall;have hlk:bg ls=if ls.length=0\/az ls=true then 1 else 0:=by unfold bg;rw[Gh hall]
 obtain⟨g0,h00⟩:=ea (l:=ls) (k:=0) hlp0;have hhv:ff ls=g0.v:=by
  cases ls with
  |nil=>cases hlp0
  |cons x l=>cases h00;rfl
 have hall0:∀g∈ls,g.e=0:=λg hg=>(by have:=p9.1 hall g hg;simpa using this);refine fa ?_;refine ub ya.out rfl (((hlr.ext hh.below).recAt PX.len h00).cell (i:=0) rfl) U' ?_;refine Jb ?_;intro ws hh;refine Pu ?_;replace hh:=show Hp w (.blk b7 3 [.int .i64 g0.v] (0,0)::_) _ from hh;rw[<-hhv] at hh;have hcell:World.cell? _ ⟨b7,0,none⟩=some (.int .i64 (ff ls)):=hh.eg (i:=0) rfl rfl;have hoa:=λw1 hb=>Tx (some lad) ls.length lc ls 279 [.pointer (some ⟨b7,0,none⟩)] (λg=>decide (g.v≠ff ls)) w1 (hL.ext (hh.below.trans (hb.mono hh.below.size))) Z' (λz w2 hz hb2=>jI z ⟨b7,0,none⟩ (ff ls) w2 (ic hb2 (ic hb hcell)))
 cases hod:az ls with
 |true=>
  have hod2:ls.any (λg=>decide (g.v≠ff ls))=true:=hod;rw[hod2] at hoa;have hl1:bg ls=1:=by rw[hlk,J' (.inr hod)]
  rw[J' ⟨Z',by rw[hl1];decide⟩,hl1];refine Oa hh (hoa _ (Below.refl _ _)) rfl ?_;intro w45 hh;refine Jb ?_;intro ws hh;refine BF ?_;exact BV
 |false=>
  have hod2:ls.any (λg=>decide (g.v≠ff ls))=false:=hod;rw[hod2] at hoa;have hl0:bg ls=0:=(by rw[hlk,L' (λh=>h.elim (λh=>by omega) λh=>by rw[hod] at h;cases h)]);rw[L' (λh=>h.2 hl0)];have hvv:=(yD hl0).2.2;have hg0:=hall0 g0 (G' h00);unfold PX.e at hg0;have hpu:=hput (ff ls) (by rw[hhv];exact(Ub hg0).1) (λg hg=>by rw[<-hvv g hg];exact hall0 g hg) hvv;refine Oa hh (hoa _ (Below.refl _ _)) rfl ?_;intro w45 hh;refine fa ?_;exact CZ
variable {ls:List PX}
def jY{o p:PX}{os:List PX}(hv:o.v=p.v)(ht:o.ts=p.ts)(h:os.map PX.norm=ls.map PX.norm):vd o os=vd p ls/\ff os=ff ls:=by
 have h1:bg os=bg ls:=by rw[<-Jz,h,Jz]
 have h2:ff os=ff ls:=by rw[<-Xv,h,Xv]
 have h3:os.length=ls.length:=by have:=J_ List.length h;rwa[i',i'] at this
 have h4:os.map PX.ts=ls.map PX.ts:=(by have:=J_ (List.map PX.ts) h;rw[Z9,Z9] at this;exact this);refine⟨?_,h2⟩;unfold vd PX.e;rw[hv,ht,h1,h2,h3,h4]
def Zl{v:Int}{l:List TR}(hv:Wg v=true)(hm:∀t∈l,pe v t=true)(ho:xg k l)(hz:∀t∈l,t.m.size<=100000)(hl:l.length<=n)(hn:n<=4096)(hk:k+n<=3999990):bj v (k+n) (sa l):=
 ⟨We hv (N_ (Vb _) Z') hm,Cg ho Z' Z',jm hz⟩
def nC(v i:Nat):List TR:=sa [⟨Mk v i,nR ((1:Int):Dyadic)⟩]
def gl(v:Nat)(x:Dyadic):List TR:=sa [⟨Hd v,nR x⟩]
def Pv(v i:Nat)(x:Dyadic):List TR:=sa ((nC v i).map (Fp x))
def th(v i:Nat)(s:SR):List TR:=sa (gl v s.ye++Pv v i (s.jh-s.ye))
def db(b:List SR):List PX:=b.mapIdx λi s=>⟨b.length,none,0,0,th b.length i s⟩
def ug{v:Nat}(h:v<=12):Wg (v:Int)=true:=Pe.2 ⟨Z',Z'⟩
def cL{v i:Nat}(h:v<=12):bj (v:Int) 3 (nC v i):=by
 have hs:((Mk v i).size:Int)=v:=Hs Z';refine Zl (k:=2) (n:=1) (ug h) (λt ht=> ?_) (λt ht=> ?_) (λt ht=> ?_) (j' _) U' U'
 .rw[T_.1 ht];unfold pe;rw[Q_,K_];exact⟨LG v i,hs⟩
 .rw[T_.1 ht];exact⟨Sz.one.ok U',by show Sz 2 (nR _).ma;rw[Za];exact Sz.one.mono U'⟩
 rw[T_.1 ht];show(Mk v i).size<=100000;omega
def DK{v:Nat}{x:Dyadic}(h:v<=12)(hx:Sz k x)(hk:k<=900000):bj (v:Int) (k+1) (gl v x):=Dt (ug h) (by show Sz k (nR x).ma;rw[Za];exact hx) hk
def sL{v i:Nat}{x:Dyadic}(h:v<=12)(hx:Sz k x)(hk:k<=400000):bj (v:Int) (k+k+4) (Pv v i x):=by
 have hv:=cL (i:=i) h;have hl:((nC v i).map (Fp x)).length<=1:=by rw[i'];exact Vb _
 refine(Zl (k:=3+k) (n:=1) (ug h) (λt ht=> ?_) (AL hv.ok hx Z') (λt ht=> ?_) hl U' Z').mono (by
  by_cases h0:k=0
  .omega
  omega)
 .obtain⟨s,hs,rfl⟩:=Z_.1 ht;exact(Ub hv.e).2.2.1 s hs
 obtain⟨s,hs,rfl⟩:=Z_.1 ht;exact hv.sz s hs
def ql{v i:Nat}{s:SR}(h:v<=12)(hs:s.fin k)(hk:k<=100000):bj (v:Int) (k+k+10) (th v i s)/\(th v i s).length<=2:=by
 have h1:=DK h (SR.szL hs) Z';have h2:=sL (i:=i) h ((SR.szH hs).sub (SR.szL hs)) Z';have hl:(gl v s.ye++Pv v i (s.jh-s.ye)).length<=2:=(by rw[Y_];have a1:(gl v s.ye).length<=1:=Vb _;have a2:(Pv v i (s.jh-s.ye)).length<=1:=N_ (Vb _) (by rw[i'];exact Vb _);omega);have hm:∀{P:TR->Prop},(∀t∈gl v s.ye,P t)->(∀t∈Pv v i (s.jh-s.ye),P t)->∀t∈gl v s.ye++Pv v i (s.jh-s.ye),P t:=λa b t ht=>(z_.1 ht).elim (a t) (b t);refine⟨(Zl (k:=k+1+(k+1)+4) (n:=2) (ug h) (hm (Ub h1.e).2.2.1 (Ub h2.e).2.2.1) (hm (h1.ok.mono Z') h2.ok) (hm h1.sz h2.sz) hl U' Z').mono Z',N_ (Vb _) hl⟩
def gg{b:List SR}{i:Nat}{s:SR}(h:b[i]?=some s):(db b)[i]?=some ⟨b.length,none,0,0,th b.length i s⟩:=by
 unfold db;rw[Q9,h];rfl
def Ki(b:List SR):(db b).length=b.length:=by unfold db;rw[Q7]
def CJ{b:List SR}{g:PX}(h:g∈db b):∃i s,b[i]?=some s/\g=⟨b.length,none,0,0,th b.length i s⟩:=by
 obtain⟨i,hi⟩:=j_.1 h;obtain⟨s,hs⟩:=ea (l:=b) (k:=i) (by have:=(X_.1 hi).1;rwa[Ki] at this);rw[gg hs] at hi;exact⟨i,s,hs,(L_ hi).symm⟩
def aeC{i:Nat}(h:n<=12)(hi:i<n):xw n i=0:=L' (by rw[ug h];rintro (a|a|a)<;>first|cases a|omega)
def ad5(h:n<=12):To n=0:=L' (by rw[ug h];decide)
def VC(p:PX)(L:Option Addr)(n c:Nat)(b:List SR)(k:Nat)(ds:List Nat)(w:World)(hT:Sc w)(hp:p.at_ w)(lp:p.Zg k)(hB:Sl w L n 6 (na SR.cells b))(hb:∀s∈b,s.fin k)(hv:p.v=n)(hn0:0<n)(hn:n<=12)(hk:k<=1000) (hds:ds.length=n)(hex:∀(i d:Nat),ds[i]?=some d->d<=127/\∀t∈p.ts,qg i t<=d)(hgr:Qe (k+k+16394) ds (k+1)<=440000):Calls prog 163 #[.agg #[.int .i64 p.v,.slice p.A p.n p.c],.slice L n c] w λr w'=>∃g:PX,mg (vd p (db b)).1 n (vd p (db b)).2 g/\r=.returned (.tuple #[.agg #[.int .i64 g.v,.slice g.A g.n g.c],.int .i64 (vd p (db b)).1])/\Hp w [g.row] w':=by
 have hh:=Hp.start w;have hbl:b.length=n:=hB.Fa SR.len U';have hok:∀s∈b,s.ok:=λs hs=>⟨(hb s hs).1.ok,(hb s hs).2.ok⟩;have hfo:=λw1 hT1 hb1=>dk L n c b w1 hT1 (hB.ext hb1) hok Z';have hhv:ff (db b)=n:=(by obtain⟨s,hs⟩:=ea (l:=b) (k:=0) Z';rw[ll (gg hs),hbl]);refine da (N:=67) (l:=[.agg #[.int .i64 p.v,.slice p.A p.n p.c],.slice L n c]) func163 rfl rfl (by simp) ?_;refine Sb ?_;intro b2 w2 hh b4 w4 hh;refine qa (hfo _ (hT.hp hh) hh.below) ja.out rfl U' ?_;rintro e_ w18 ⟨A18,c18,rfl,hown_,hb_⟩;refine⟨_,rfl, ?_⟩;replace hh:=hh.Aa (x:=.row _ _ _ _ _ _) hb_ hown_;refine fa ?_;replace hh:=hh.Lb 24 2;refine Ra [6,7,8,9,10,11,12,13,14,15,16,20,21,22,23,24,25,26,27,28,29,30,31,32,33,34,35,36,37,38,39,40,41,42,43,44,45,46,47,48,49,50,51,52,53,54,55,56,57,58,59,60,61] 6 20 (λa v w'=>∃(i c3:Nat)(A:Option Addr)(os:List PX)(R:List HE),i<=n/\v=.int .i64 i/\a=.slice A i c3/\os.length=i/\lP ((db b).map λg=>⟨g.v,none,g.ts.length,0,g.ts⟩) os R/\Hp w (.row A i c3 24 2 (na PX.cells os)::.row A18 n c18 36 6 (na SR.cells (b.map SR.f))::.blk b4 24 [.int .i64 0,.slice none 0 0] (0,0)::.blk b2 24 [.int .i64 p.v,.slice p.A p.n p.c] (0,0)::R) w') (λ_ v _=>n-(intOf v).toNat) ?_ ?_
 .exact⟨0,0,none,[],[],D' _,rfl,rfl,rfl,⟨λj g o _ h=>(nomatch h),λo h=>(nomatch h)⟩,hh⟩
 clear hh;rintro ρ' a_ v w' ⟨i,c3,A,os,R,hi,rfl,rfl,hol,hcp,hh⟩;by_cases hlt:i<n
 .obtain⟨s,hs⟩:=ea (l:=b) (k:=i) Z';have hsf:=hb s (G' hs);have hsn:(b.map SR.f)[i]?=some s.f:=by rw[V_,hs];rfl
  have zL:=SR.szL hsf;have zH:=SR.szH hsf;have zW:=zH.sub zL;obtain⟨po,pl⟩:=ql (v:=n) (i:=i) hn hsf Z';have vo:=cL (i:=i) hn;have fo:=sL (i:=i) hn zW Z';have co:=DK hn zL Z';have hva:=λw1 hT1=>uJ (n:Int) (i:Int) w1 hT1;rw[aeC hn hlt] at hva;have hsu:=λw1 hT1=>Bp (nR s.jh) (nR s.ye) w1 hT1 (zH.ok Z') (zL.ok Z') k (by rw[Za];exact zH) (by rw[Za];exact zL) Z';rw[Za,Za] at hsu;have hcn:=λw1 hT1=>nj (n:Int) (nR s.ye) k w1 hT1 ⟨zL.ok Z',by rw[Za];exact zL⟩ Z';rw[ad5 hn] at hcn;rw[p8] at hva;have hV:sa [⟨Mk n i,nR ((1:Int):Dyadic)⟩]=nC n i:=rfl;have hC:sa [⟨Hd n,nR s.ye⟩]=gl n s.ye:=rfl;have hF:sa ((nC n i).map (Fp (s.jh-s.ye)))=Pv n i (s.jh-s.ye):=rfl;have hP:sa (gl n s.ye++Pv n i (s.jh-s.ye))=th n i s:=rfl;have tl1:(nC n i).length<=1:=Vb _;have ul1:(gl n s.ye).length<=1:=Vb _;have fl1:(Pv n i (s.jh-s.ye)).length<=1:=N_ (Vb _) (by rw[i'];exact Vb _);have hps:=gg hs;rw[hbl] at hps;rw[hV] at hva;rw[hC] at hcn;clear hV hC;generalize nC n i=VL at*;generalize gl n s.ye=CL at*;generalize Pv n i (s.jh-s.ye)=FL at*
  generalize th n i s=PL at*;obtain⟨gf,rfl⟩:=hh.Ob (i:=1) rfl Z';refine fa ?_;refine wb (vs:=[_,_,_,_,_,_]) ya.out rfl (hh.Gd (f:=SR.cells) (x:=s.f) (l:=b.map SR.f) (i:=1) rfl SR.len U' hsn) rfl U' ?_;refine Sb ?_;intro b8 w8 hh ws hh;replace hh:=show Hp w (.blk b8 36 [.bool (nR s.ye).neg,.string (nR s.ye).Qa,.int .i64 (nR s.ye).e,.bool (nR s.jh).neg,.string (nR s.jh).Qa,.int .i64 (nR s.jh).e] (0,0)::_) _ from hh;refine qa (hva _ (hT.hp hh)) ja.out rfl U' ?_;rintro e_ w29 ⟨t,ot,rfl,h4⟩;refine⟨_,rfl, ?_⟩;have htc:t.n<=t.c:=h4.me (i:=0) rfl;replace hh:=hh.join h4;clear h4;simp only[C',E'] at hh;obtain⟨tv,tA,tn,tc,tt⟩:=t;replace hh:=show Hp w (.row tA tn tc 72 4 (na TR.cells tt)::_) _ from hh;have et:VL=tt:=ot.t0.symm;have ev_:tv=(n:Int):=ot.v0;subst et ev_;have tln:VL.length=tn:=(hh.ra (i:=0) rfl).Fa TR.len U';have hsc:=λw1 hT1 ha=>fC ⟨n,tA,tn,tc,VL⟩ (nR (s.jh-s.ye)) (k+3) w1 hT1 ha ⟨by show tn<=1000000;omega,htc,vo.ok.mono Z',vo.sz⟩ ⟨zW.ok Z',by rw[Za];exact zW.mono Z'⟩ Z';have hse:PN ⟨n,tA,tn,tc,VL⟩ (s.jh-s.ye)=0:=(by unfold PN PX.e;rw[vo.e,J' rfl];exact wm (by rw[i'];show VL.length<=4096;omega));rw[Za,hse] at hsc;dsimp only at hsc;rw[hF] at hsc;refine Sb ?_;intro b9 w9 hh ws hh;refine Cd [10] [9] [0,0,2,0,8,30,63,127,255,255,0,1535,4095] 11 [[(9,none)],[(8,none)],[(34,some 1)],[(8,none)],[(36,some 3)],[(35,some 2),(37,some 4)],[(33,some 0),(38,some 5)],[(39,some 6)],[(32,some 7)],[(32,some 7)],[]] [(10,11),(9,41),(8,40),(7,32),(6,39),(5,38),(4,37),(3,36),(2,35),(1,34),(0,33)] hh mixed T' (xi rfl ya.out Pd) rfl (by repeat (first|exact Cb|refine Xa ?_|refine Db ?_)) ?_;refine Vd 0 [_,_] ?_;refine yd ?_;refine Vd 2 [_,_,_] ?_;refine yd ?_;refine Vd 2 [_,_,_] ?_;refine dC (λ_ hj=>hsu _ (hT.hp hj.hp)) ?_;refine Va (i:=6) (si hh.sz 0 n FL) (si.ext) ?_ ?_
  .intro ρ1 w1 hj hR;exact Pb rfl (qb ja.out (Ga (show ρ1 33=Value.agg (List.toArray _) from hR.1) (Ga (show ρ1 38=Value.agg (List.toArray _) from hR.2.1) Fb))) (hsc w1 (hT.hp hj.hp) (hj.hp.ra (i:=1) rfl)) (λ_ _ ⟨g,og,hq,h3⟩=>⟨_,hq,h3.below,g,w1,rfl,og,hj.bl.size,h3⟩)
  refine Va (i:=7) (si hh.sz 0 n FL) (si.ext) ?_ ?_
  .exact DR
  refine Va (i:=8) (Ei hh.sz 0 n FL) (Ei.ext) ?_ ?_
  .exact yS
  refine Va (i:=9) (Is (.int .i64 0)) (Is.ext) ?_ ?_
  .exact UR
  refine xT ?_;refine xa ?_;intro f W hJ hV _;have hb_6:=hJ.bl;obtain⟨v11,v41,v40,v32,v39,v38,v37,v36,v35,v34,v33,_⟩:=hV;obtain⟨g39,u39,e39, -⟩:=v39;obtain⟨g32,u32,e32, -⟩:=v32;obtain⟨g40,u40,e40,o40,q40,h40⟩:=v40;obtain⟨b11,e11,hl11,hc11⟩:Gc _ _ _ (f 10) W:=v11;replace hh:=hJ.Qk hh hl11 hc11 q40 h40 (PX.ne h40 hc11 U');refine Da (Na (aa e11 (aa v41 (aa e40 (aa e32 (aa e39 (aa v38 (aa v37 (aa v36 (aa v35 (aa v34 (aa v33 Ea)))))))))))) ?_;dsimp only[Bb];clear e39 e32 e40 e11 hJ;simp only[C',E'] at hh;obtain⟨fv,fA,fn,fc,ft⟩:=g40;replace hh:=show Hp w (_::.row fA fn fc 72 4 (na TR.cells ft)::_) W from hh;have et:FL=ft:=o40.t0.symm;have ev_:fv=(n:Int):=o40.v0;subst et ev_;have fln:FL.length=fn:=(hh.ra (i:=1) rfl).Fa TR.len U';have fcc:fn<=fc:=hh.me (i:=1) rfl;refine Jb ?_;intro ws hh;refine qa (hcn _ (hT.hp hh)) ja.out rfl U' ?_;rintro e_ w47 ⟨u,ou,rfl,h4⟩;refine⟨_,rfl, ?_⟩;have huc:u.n<=u.c:=h4.me (i:=0) rfl;replace hh:=hh.join h4;clear h4;simp only[C',E'] at hh;obtain⟨uv,uA,un,uc,ut⟩:=u
  replace hh:=show Hp w (.row uA un uc 72 4 (na TR.cells ut)::_) _ from hh;have et:CL=ut:=ou.t0.symm;have ev_:uv=(n:Int):=ou.v0;subst et ev_;have uln:CL.length=un:=(hh.ra (i:=0) rfl).Fa TR.len U';refine Sb ?_;intro b13 w13 hh ws hh;refine jE ?_;intro b53 w53 hh;have hlp:bg [⟨n,uA,un,uc,CL⟩,⟨n,fA,fn,fc,FL⟩]=0:=Lw co.e fo.e rfl;have had:=λA3 w1 hT1 hS1 s1 s2=>bq A3 2 2 [⟨n,uA,un,uc,CL⟩,⟨n,fA,fn,fc,FL⟩] (k+k+10) w1 hT1 hS1 U' (λg hg=>by
   obtain rfl|hg:=S_.1 hg
   .exact s1
   .rw[T_.1 hg];exact s2) (λg hg=>by
   obtain rfl|hg:=S_.1 hg
   .exact⟨by show un<=1000000;omega,huc,co.ok.mono Z',co.sz⟩
   rw[T_.1 hg];exact⟨by show fn<=1000000;omega,fcc,fo.ok.mono Z',fo.sz⟩) Z'
  unfold Ez at had;rw[J' hlp,wZ] at had;dsimp only at had;rw[hP] at had;rw[wm (l:=CL++FL) (by rw[Y_];omega)] at had;refine qa (had _ _ (hT.hp hh) (hh.ra (i:=0) rfl) (hh.ra (i:=2) rfl) (hh.ra (i:=4) rfl)) ja.out rfl U' ?_;rintro e_ w54 ⟨z,oz,rfl,h4⟩;refine⟨_,rfl, ?_⟩;have hzc:z.n<=z.c:=h4.me (i:=0) rfl;replace hh:=hh.join h4;clear h4;simp only[C',E'] at hh;replace hh:=show Hp w (.row z.A z.n z.c 72 4 (na TR.cells z.ts)::_) _ from hh;have zln:z.ts.length=z.n:=(hh.ra (i:=0) rfl).Fa TR.len U';refine Sb ?_;intro b15 w15 hh ws hh;refine Sj ?_;intro b59 w59 hh;refine Gb hh (i:=11) rfl rfl rfl (hh.ra (i:=0) rfl) lb.out ya.out rfl U' (by first|rfl|exact Xb _|exact Nb _|exact Pa _|exact Ta NR.one _) Z' Z' U' ?_;intro A60 c60 w60 hh;simp only[U_,F_] at hh;replace hh:=hh.sub (s_ _ _);refine fa ?_
  replace hh:=hh.sub (p' _ (I' _ (p' _ (p' _ (p' _ (p' _ (p' _ (p' _ (p' _ (p' _ (I' _ (I' _ (I' _ (I' _ (A_ _)))))))))))))));replace hh:=hh.perm (P_ (l₁:=[_,_,_,_]));simp only[C',E'] at hh;replace hh:=hh.perm (P_ (l₁:=[_,_,_,_]));simp only[C',E'] at hh;replace hh:=hh.perm (P_ (l₁:=[_,_,_,_]));simp only[C',E'] at hh;replace hh:=hh.perm (P_ (l₁:=[_,_,_,_]));simp only[C',E'] at hh;have hcp2:=hcp.add (g:=⟨n,none,PL.length,0,PL⟩) (o:=z) (by rw[hol,V_,hps];rfl) ⟨oz.v0,oz.t0,by rw[<-zln,oz.t0]⟩ hzc;refine⟨⟨i+1,c60,A60,os++[z],z.row::R,Z',rfl,rfl,by rw[Y_,hol];rfl,hcp2,by rw[La,Lj];exact hh⟩,by show n-(i+1)<n-i;omega, ?_⟩;exact Rc
 obtain rfl:i=n:=Z';have hol2:os.length=((db b).map λg=>(⟨g.v,none,g.ts.length,0,g.ts⟩:PX)).length:=by rw[i',Ki];omega
 have hkey:=hcp.key hol2;rw[Z9] at hkey;replace hkey:os.map PX.norm=(db b).map PX.norm:=hkey;obtain⟨ks,kh⟩:=jY (o:=p) (p:=p) rfl rfl hkey;have hall:∀o∈os,o.Zg (k+k+10)/\o.ts.length<=2:=λo ho=>(by obtain⟨j,hj⟩:=j_.1 ho;have hjn:j<os.length:=(X_.1 hj).1;obtain⟨s,hs⟩:=ea (l:=b) (k:=j) Z';obtain⟨e1,e2,e3⟩:=hcp.eq j ⟨b.length,none,(th b.length j s).length,0,th b.length j s⟩ o (by rw[V_,gg hs];rfl) hj;obtain⟨po,pl⟩:=ql (v:=b.length) (i:=j) Z' (hb s (G' hs)) Z';replace e2:o.ts=th b.length j s:=e2;replace e3:o.n=(th b.length j s).length:=e3;exact⟨⟨Z',(hcp.my o ho).2,by rw[e2];exact po.ok,by rw[e2];exact po.sz⟩,by rw[e2];exact pl⟩);have hfit:Fit p os k (k+k+10) 2 (k+k+16394) ds:=⟨Z',hex,hgr,Z',Z',λg hg=>(hall g hg).1,λg hg=>(hall g hg).2⟩;have hsu:=λw1 hT1 ha hs hm hc=>vC p A c3 os k (k+k+10) 2 (k+k+16394) ds w1 hT1 ha lp hs hm hc hfit;rw[ks,kh,hhv,hol] at hsu;generalize (vd p (db b)).1=E at*;generalize (vd p (db b)).2=S at*;refine fa ?_;refine qa (hsu _ (hT.hp hh) (hp.ext hh.below) (hh.ra (i:=0) rfl) (λz hz=>UY hh (F' _ (F' _ (F' _ (F' _ (hcp.my z hz).1))))) (hh.me (i:=0) rfl)) ja.out rfl U' ?_;rintro e_ w64 ⟨g,og,rfl,h4⟩;refine⟨_,rfl, ?_⟩;replace hh:=hh.join h4;clear h4;simp only[C',E'] at hh;refine Jb ?_;intro ws hh;refine vM ?_;exact XX
def dM(i:Nat)(f:ByteArray->Dyadic)(m:ByteArray):Dyadic:=
 match m.data.toList[i]? with|some e=>((e.toNat:Int):Dyadic)*f (str (m.data.toList.set i (e-1)))|none=>0
def aaf{f g:ByteArray->Dyadic}{l:List TR}(h:∀t∈l,f t.m=g t.m):wS f l=wS g l:=by
 induction l with
 |nil=>rfl
 |cons t l ih=>rw[wS,wS,h t q',ih λs hs=>h s (F' _ hs)]
def NK{a b:List UInt8}(ha:Ae a=true)(hb:Ae b=true)(hl:b.length=a.length)(h:(List.zipWith (· + ·) (ints a) (ints b)).all Td=true):mulL a b=((List.zipWith (· + ·) (ints a) (ints b)).map XB,0):=by
 unfold mulL;rw[FY ha hb hl];show(eW _,HY _)=_;rw[(Jv h).1,(Jv h).2]
def EU{a b:List UInt8}(h:(mulL a b).2=0):(List.zipWith (· + ·) (ints a) (ints b)).all Td=true:=by
 obtain⟨_,_,_,h4,h5⟩:=Wn h;rw[<-h5];exact pX h4
def IX{a b:ByteArray}{i:Nat}{x y:UInt8}(h:jn a b=0)(hx:a.data.toList[i]?=some x)(hy:b.data.toList[i]?=some y):(mulM a b).data.toList[i]?=some (XB ((x.toNat:Int)+y.toNat))/\(XB ((x.toNat:Int)+y.toNat)).toNat=x.toNat+y.toNat:=by
 obtain⟨h1,h2,h3,_,_⟩:=Wn h;have hall:=EU h;have hiy:(ints b.data.toList)[i]?=some (y.toNat:Int):=by unfold ints;rw[V_,hy];rfl
 have hix:(ints a.data.toList)[i]?=some (x.toNat:Int):=by unfold ints;rw[V_,hx];rfl
 have hzz:=WV (f:=λ(x y:Int)=>x+y) hix hiy;have hxy:Td ((x.toNat:Int)+y.toNat)=true:=u_.1 hall _ (G' hzz);have e1:=Dv hxy;injection e1 with _ e1
 refine⟨?_,Z'⟩;unfold mulM;rw[Oc,NK h1 h2 h3 hall,V_,hzz];rfl
def Al(B:Nat->Nat)(l:List TR):Prop:=∀t∈l,∀i,qg i t<=B i
def Al.mono{B C:Nat->Nat}{l:List TR}(h:Al B l)(hb:∀i,B i<=C i):Al C l:=λt ht i=>N_ (h t ht i) (hb i)
def aeb{s t:TR}(h:s.m=t.m)(i:Nat):qg i s=qg i t:=by unfold qg;rw[h]
def Al.sa{B:Nat->Nat}{l:List TR}(h:Al B l):Al B (sa l):=λt ht i=>by
 obtain⟨s,hs,e⟩:=Pf t ht;rw[<-aeb e i];exact h s hs i
def Al.append{B:Nat->Nat}{l k:List TR}(h:Al B l)(h2:Al B k):Al B (l++k):=λt ht=>(z_.1 ht).elim (h t) (h2 t)
def Al.prod{B C:Nat->Nat}{q:List TR}(hp:Al B p)(hq:Al C q)(h:∀e∈Ru p q,e=0):Al (λi=>B i+C i) (Zb p q):=λt ht i=>by
 obtain⟨x,hx,ht⟩:=U7.1 ht;obtain⟨y,hy,rfl⟩:=Z_.1 ht;have hz:jn x.m y.m=0:=h _ (U7.2 ⟨x,hx,Z_.2 ⟨y,hy,rfl⟩⟩)
 cases ha:x.m.data.toList[i]? with
 |none=>
  have hl:=wJ hz;have hx0:=J5.1 ha;have e:(Ss x y).m.data.toList[i]?=none:=(by show(str _).data.toList[i]?=none;rw[Oc];exact t_ (by rw[hl];exact hx0));unfold qg;rw[e];exact D' _
 |some a=>
  obtain⟨_,_,h3,_,_⟩:=Wn hz;have hlt:=(X_.1 ha).1;obtain⟨b,hb⟩:=ea (l:=y.m.data.toList) (k:=i) Z';obtain⟨e1,e2⟩:=IX hz ha hb;rw[Rn (t:=Ss x y) e1,e2];have h1:=hp x hx i;have h2:=hq y hy i;rw[Rn ha] at h1;rw[Rn hb] at h2;show a.toNat+b.toNat<=B i+C i;omega
def Cs{q p:List TR}{sub:List TR->Int×List TR}{j D:Nat}{E:Nat->Nat}(hq:Al (λx=>if x=j then 1 else 0) q)(hD:∀t∈p,qg j t<=D)(hE:E j=0)(hs:∀n,(sub (Ya p j n)).1=0->Al E (sub (Ya p j n)).2):
  ∀i,i<=128->(rb q sub p j i).1=0->Al (λx=>if x=j then i+D-128 else E x) (rb q sub p j i).2
 |0,_,_=>λt ht=>(nomatch ht)
 |i+1,hi,h0=>by
  have h1:(rb q sub p j i).1=0:=(by refine a8 λc=> ?_;rw[tj c (Nat.le_succ i)] at h0;exact c h0);have ih:=Cs hq hD hE hs i Z' h1;have hsb:∀n,(sub (Ya p j n)).1=0->Al (λx=>if x=j then i+1+D-128 else E x) (sub (Ya p j n)).2:=λn hn=>(hs n hn).mono λx=>by
   by_cases hx:x=j
   .rw[J' hx,hx,hE];exact D' _
   rw[L' hx];exact j' _
  have hpr:Ff (rb q sub p j i).2 q=0->Al (λx=>if x=j then i+1+D-128 else E x) (sa (Zb (rb q sub p j i).2 q)):=λht=>by
   by_cases hlow:i+D<=127
   .rw[wh hD i hlow];exact λt ht=>(nomatch ht)
   refine((ih.prod hq (pk ht).2.1).mono λx=> ?_).sa;by_cases hx:x=j
   .rw[J' hx,J' hx,J' hx];omega
   rw[L' hx,L' hx,L' hx];omega
  rw[Ji] at h0 |-;unfold Ch at h0 |-;rw[L' (λh=>h h1)] at h0 |-;by_cases c1:(rb q sub p j i).2.length=0/\(Ya p j (127-i)).length=0
  .rw[J' c1,Z6.1 c1.1];exact λt ht=>(nomatch ht)
  rw[L' c1] at h0 |-;by_cases c2:Ff (rb q sub p j i).2 q≠0
  .rw[J' c2] at h0;exact absurd h0 c2
  rw[L' c2] at h0 |-;by_cases c3:(sub (Ya p j (127-i))).1≠0
  .rw[J' c3] at h0;exact absurd h0 c3
  rw[L' c3] at h0 |-;by_cases c4:Qf (sa (Zb (rb q sub p j i).2 q)++(sub (Ya p j (127-i))).2)≠0
  .rw[J' c4] at h0;exact absurd h0 c4
  rw[L' c4];exact((hpr Z').append (hsb _ Z')).sa
def Qy(v:Int)(c:NR):Al (λ_=>0) [⟨Hd v,c⟩]:=λt ht i=>by
 rw[T_.1 ht]
 cases he:(⟨Hd v,c⟩:TR).m.data.toList[i]? with
 |none=>unfold qg;rw[he];exact j' _
 |some e=>
  rw[Rn he];have hm:=G' he;replace hm:e∈(List.replicate v.toNat (0:UInt8)):=by simpa[Hd] using hm
  rw[(Y5.1 hm).2];exact j' _
def LB{v:Int}:∀(qs:List (List TR))(j:Nat)(p:List TR)(D:Nat->Nat),(∀(i:Nat)(q:List TR),qs[i]?=some q->Al (λx=>if x=j+i then 1 else 0) q)->(∀t∈p,∀i,i<qs.length->qg (j+i) t<=D (j+i))->(Je v qs j p).1=0->Al (λx=>if j<=x/\x<j+qs.length then D x else 0) (Je v qs j p).2:=by
 intro qs
 induction qs with
 |nil=>
  intro j p D _ _ _;exact(Qy v _).sa.mono λx=>D' _
 |cons q qs ih=>
  intro j p D hq hp h0;have hsub:∀n,(Je v qs (j+1) (Ya p j n)).1=0->Al (λx=>if j+1<=x/\x<j+1+qs.length then D x else 0) (Je v qs (j+1) (Ya p j n)).2:=λn hn=>by
   refine ih (j+1) (Ya p j n) D (λi r hr=> ?_) (λt ht i hi=> ?_) hn
   .have:=hq (i+1) r (by simpa using hr);rwa[show j+1+i=j+(i+1) by omega]
   exact FZ
  have hq0:Al (λx=>if x=j then 1 else 0) q:=hq 0 q rfl;have hD:∀t∈p,qg j t<=D j:=λt ht=>hp t ht 0 (by rw[E_];omega);generalize hgen:Je v qs (j+1)=sub at hsub;have e:∀m,m=128->(rb q sub p j m).1=0->Al (λx=>if j<=x/\x<j+(q::qs).length then D x else 0) (rb q sub p j m).2:=λm hm h=>by
   refine(Cs hq0 hD (E:=λx=>if j+1<=x/\x<j+1+qs.length then D x else 0) (by rw[L' Z']) hsub m Z' h).mono λx=> ?_;rw[E_];by_cases hx:x=j
   .rw[J' hx,J' Z',hx];omega
   rw[L' hx];by_cases h2:j+1<=x/\x<j+1+qs.length
   .rw[J' h2,J' Z'];exact j' _
   rw[L' h2];exact D' _
  have e2:Je v (q::qs) j p=rb q sub p j 128:=by rw[<-hgen];rfl
  rw[e2] at h0 |-;exact e 128 rfl h0
def aeD{l:List TR}{i:Nat}{t:TR}(h:t∈l):ym t.m i<=bE l i:=by
 induction l using Si with
 |h0=>cases h
 |hs l x ih=>
  rw[Ov];obtain h|h:=z_.1 h
  .have:=ih h;omega
  rw[T_.1 h];omega
def wL{l:List TR}{i:Nat}{B:Int}(hB:0<=B)(h:∀t∈l,ym t.m i<=B):0<=bE l i/\bE l i<=B:=by
 induction l using Si with
 |h0=>exact⟨W6 _,hB⟩
 |hs l x ih=>
  rw[Ov];have h1:=ih λt ht=>h t (x9 _ ht);have h2:=h x (W8 _ q');omega
def CF(t:TR)(i:Nat):(qg i t:Int)=ym t.m i:=by
 unfold qg ym
 cases t.m.data.toList[i]?<;>rfl
def Ac(v:Int)(ts:List TR):List Nat:=(iz v ts).map Int.toNat
def fj{v:Int}(h:Gf v ts=0):iz v ts=Ua (Ac v ts)/\(Ac v ts).length=v.toNat/\∀(i d:Nat),(Ac v ts)[i]?=some d->d<=127/\(∀t∈ts,qg i t<=d)/\((d:Int)=bE ts i):=by
 obtain⟨_,_,hm,_⟩:=Ub h;have hd:iz v ts=Fm v.toNat ts:=J' h;have hb:∀t∈ts,∀i,ym t.m i<=127:=λt ht i=>by
  have h1:=hm t ht;unfold pe at h1;rw[Q_] at h1;unfold ym
  cases he:t.m.data.toList[i]? with
  |none=>decide
  |some e=>have:=Tn h1.1 he;show((e.toNat:Nat):Int)<=127;omega
 refine⟨?_,by unfold Ac;rw[i',hd,Wf],λi d hi=> ?_⟩
 .unfold Ac Ua;rw[Z9];refine(C6 _).symm.trans (y8 λx hx=> ?_);rw[hd] at hx;obtain⟨i,_,rfl⟩:=Z_.1 hx;have:=(wL (B:=127) U' λt ht=>hb t ht i).1;show bE ts i=((bE ts i).toNat:Int);omega
 unfold Ac at hi;rw[hd,V_] at hi;have hlt:i<v.toNat:=by
  refine a8 λhc=> ?_;rw[t_ (by rw[Wf];omega)] at hi
  cases hi
 rw[Bv ts hlt] at hi;have h1:=wL (l:=ts) (i:=i) (B:=127) U' λt ht=>hb t ht i;have h2:(bE ts i).toNat=d:=L_ hi;refine⟨Z',λt ht=> ?_,Z'⟩;have h3:=aeD (i:=i) ht;have h4:=CF t i;omega
def Kc(m:ByteArray):List Nat:=m.data.toList.map UInt8.toNat
def Jk(m:ByteArray):(Kc m).length=m.size:=by rw[Tc];exact i' _
def ZG{a b:ByteArray}(h:Kc a=Kc b):a=b:=Cw (List.map_inj_right (λ_ _=>K6.1)|>.1 h)
def uo(m:ByteArray):ints m.data.toList=Ua (Kc m):=by unfold ints Ua Kc;rw[Z9];rfl
def JQ{a b:List Nat}(h:Ua a=Ua b):a=b:=(List.map_inj_right λ(x y:Nat) (e:(x:Int)=y)=>Int.ofNat.inj e).1 h
variable {xs:List Dyadic}
def ti(xs:List Dyadic)(l:List TR):Dyadic:=wS (λm=>dh (Kc m) xs) l
def YK(f:ByteArray->Dyadic)(l:List TR):wS f l=sm l λt=>t.c.ma*f t.m:=by
 induction l with
 |nil=>rfl
 |cons t l ih=>rw[wS,sm,ih]
def zg(xs:List Dyadic)(l:List TR):ti xs (sa l)=ti xs l:=Vs _ _
def Tl(xs:List Dyadic)(l k:List TR):ti xs (l++k)=ti xs l+ti xs k:=Zn _ _ _
def YE:∀(a b:List Nat)(xs:List Dyadic),a.length=b.length->dh (List.zipWith (· + ·) a b) xs=dh a xs*dh b xs
 |[],[],xs,_=>by show(1:Dyadic)=1*1;grind
 |[],_::_,_,h=>by cases h
 |_::_,[],_,h=>by cases h
 |x::a,y::b,[],_=>by show(1:Dyadic)=1*1;grind
 |x::a,y::b,t::xs,h=>(by rw[List.zipWith_cons_cons,dh,dh,dh,YE a b xs (by simpa using h),jA];grind)
def Rk:∀(n:Nat)(xs:List Dyadic),dh (List.replicate n 0) xs=1
 |0,xs=>by cases xs<;>rfl
 |n+1,[]=>rfl
 |n+1,x::xs=>(by rw[B7,dh,Rk n xs,p7];grind)
def eV{a b:ByteArray}(h:jn a b=0):Kc (mulM a b)=List.zipWith (· + ·) (Kc a) (Kc b)/\(Kc a).length=(Kc b).length:=by
 obtain⟨_,_,h3,_,h5⟩:=Wn h;refine⟨JQ ?_,by unfold Kc;rw[i',i',h3]⟩;rw[<-uo,mulM,Oc,h5,uo,uo];unfold Ua;rw[List.zipWith_map,List.map_zipWith];exact J_ (λf=>List.zipWith f (Kc a) (Kc b)) (funext λx=>funext λy=>(F8 x y).symm)
def XS{q:List TR}(h:∀e∈Ru p q,e=0):ti xs (Zb p q)=ti xs p*ti xs q:=by
 have hm:∀a∈p,∀b∈q,jn a.m b.m=0:=λa ha b hb=>h _ (U7.2 ⟨a,ha,Z_.2 ⟨b,hb,rfl⟩⟩);unfold ti;rw[fG,Dyadic.mul_comm,<-sU];refine aaf λa ha=> ?_;rw[Dyadic.mul_comm,<-sU];refine aaf λb hb=> ?_;obtain⟨e1,e2⟩:=eV (hm a ha b hb);rw[e1,YE _ _ _ e2]
def HK(j:Nat)(t:TR):qg j t=((Kc t.m)[j]?).getD 0:=by
 unfold qg Kc;rw[V_]
 cases t.m.data.toList[j]?<;>rfl
def uS(g:TR->Dyadic)(Q:Dyadic):sm p (λt=>if n<=qg j t then g t*Q^(qg j t-n) else 0)=sm p (λt=>if n+1<=qg j t then g t*Q^(qg j t-(n+1)) else 0)*Q+sm (Ya p j n) g:=by
 have e1:sm (Ya p j n) g=sm p λt=>if qg j t=n then g t else 0:=(by unfold Ya;rw[<-vP p (λt=>decide (qg j t=n)) (λt=>if qg j t=n then g t else 0) (λt _ h=>L' (by simpa using h))];exact md λt ht=>(J' (by simpa using(j9.1 ht).2)).symm)
 rw[e1,<-Ht,<-bK];refine md λt _=> ?_;by_cases h1:qg j t=n
 .rw[J' Z',L' Z',J' h1,h1,f_,p7];grind
 rw[L' h1];by_cases h2:n+1<=qg j t
 .rw[J' Z',J' h2,show qg j t-n=(qg j t-(n+1))+1 by omega,U5];grind
 rw[L' Z',L' h2];grind
def kL{xs:List Dyadic}{q p:List TR}{sub:List TR->Int×List TR}{j:Nat}(g:TR->Dyadic)(hp:∀t∈p,qg j t<=127)(hs:∀n,(sub (Ya p j n)).1=0->ti xs (sub (Ya p j n)).2=sm (Ya p j n) g):
  ∀i,i<=128->(rb q sub p j i).1=0->ti xs (rb q sub p j i).2=sm p λt=>if 128-i<=qg j t then g t*ti xs q^(qg j t-(128-i)) else 0
 |0,_,_=>(ko λt ht=>L' (by have:=hp t ht;omega)).symm
 |i+1,hi,h0=>by
  have h1:(rb q sub p j i).1=0:=(by refine a8 λc=> ?_;rw[tj c (Nat.le_succ i)] at h0;exact c h0);have ih:=kL g hp hs i Z' h1;have e1:=uS (p:=p) (j:=j) (n:=127-i) g (ti xs q);rw[show 128-(i+1)=127-i by omega,e1,show 127-i+1=128-i by omega,<-ih];rw[Ji] at h0 |-;unfold Ch at h0 |-;rw[L' (λh=>h h1)] at h0 |-;by_cases c1:(rb q sub p j i).2.length=0/\(Ya p j (127-i)).length=0
  .rw[J' c1,Z6.1 c1.1,Z6.1 c1.2];show(0:Dyadic)=0*_+0;grind
  rw[L' c1] at h0 |-;by_cases c2:Ff (rb q sub p j i).2 q≠0
  .rw[J' c2] at h0;exact absurd h0 c2
  rw[L' c2] at h0 |-;by_cases c3:(sub (Ya p j (127-i))).1≠0
  .rw[J' c3] at h0;exact absurd h0 c3
  rw[L' c3] at h0 |-;by_cases c4:Qf (sa (Zb (rb q sub p j i).2 q)++(sub (Ya p j (127-i))).2)≠0
  .rw[J' c4] at h0;exact absurd h0 c4
  rw[L' c4];show ti xs (sa _)=_;rw[zg,Tl,zg,XS (pk Z').2.1,hs _ Z']
def XW(h:jv p)(he:∀a∈p,∀b∈p,a.m=b.m):p.length<=1:=by
 match p,h,he with
 |[],_,_=>exact D' _
 |[_],_,_=>exact j' _
 |a::b::p,h,he=>
  have h1:=(Y8.1 h).1 b q';rw[he a q' b (F' _ q'),Og] at h1
  cases h1
def ML.one{v:Int}(h:ML v j p)(hj:v<=j):p.length<=1:=XW h.Eu λa ha b hb=>Cw (by
 have e:=h.pre a ha b hb;have l1:=h.size a ha;have l2:=h.size b hb;rwa[W_ Z',W_ Z'] at e)
def kt(v:Int)(q:List TR)(qs:List (List TR))(j:Nat)(p:List TR):Je v (q::qs) j p=rb q (Je v qs (j+1)) p j 128:=rfl
def acH{v w:Int}(qs:List (List TR)):∀(j:Nat)(p:List TR),ML w j p->w=((j+qs.length:Nat):Int)->(Je v qs j p).1=0->ti xs (Je v qs j p).2=sm p λt=>t.c.ma*dh ((Kc t.m).drop j) (qs.map (ti xs)):=by
 induction qs with
 |nil=>
  intro j p hs hw _;have h1:=hs.one (by rw[hw];exact W6 _);show ti xs (sa _)=_;rw[zg];have hz:Kc (Hd v)=List.replicate v.toNat 0:=by unfold Kc Hd;simp
  match p,h1 with
  |[],_=>
   show(nR 0).ma*_+0=0;rw[Za];grind
  |[t],_=>
   show t.c.ma*dh (Kc (Hd v)) xs+0=t.c.ma*dh _ []+0;rw[hz,Rk]
   cases(Kc t.m).drop j<;>rfl
 |cons q qs ih=>
  intro j p hs hw h0;have hj:(j:Int)<w:=by rw[hw,E_];omega
  have hx:∀t∈p,qg j t<=127:=λt ht=>(by obtain⟨e,_,h2,h3⟩:=hs.get hj ht;omega);rw[kt] at h0 |-;have hsub:=λn hn=>ih (j+1) (Ya p j n) (hs.with hj) (by rw[hw,E_];omega) hn;generalize Je v qs (j+1)=sub at hsub h0 |-;have h1:=λi hi hz=>kL (xs:=xs) (q:=q) (sub:=sub) (p:=p) (j:=j) (λt=>t.c.ma*dh ((Kc t.m).drop (j+1)) (qs.map (ti xs))) hx hsub i hi hz;obtain⟨m,hm⟩:∃m,m=128:=⟨_,rfl⟩;rw[<-hm] at h0 |-;rw[h1 m Z' h0];refine md λt ht=> ?_;rw[J' Z',show qg j t-(128-m)=qg j t by omega];obtain⟨e,h2,h3,_⟩:=hs.get hj ht;have hd:(Kc t.m).drop j=qg j t::(Kc t.m).drop (j+1):=(by refine Ge ?_;rw[h3];unfold Kc;rw[V_,h2];rfl);rw[hd,q_,dh];grind
def acf{p:PX}(h:(vd p ls).1=0):ti xs (vd p ls).2=ti (ls.map λg=>ti xs g.ts) p.ts:=by
 unfold vd at h |-;by_cases h1:p.e≠0
 .rw[J' h1] at h;exact absurd h h1
 rw[L' h1] at h |-;by_cases h2:(ls.length:Int)≠p.v
 .rw[J' h2] at h;exact absurd h U'
 rw[L' h2] at h |-;by_cases h3:ls.length≠0/\bg ls≠0
 .rw[J' h3] at h;exact absurd h h3.2
 rw[L' h3] at h |-;rw[acH (w:=p.v) (ls.map PX.ts) 0 p.ts (kE (by unfold PX.e at h1;omega)) (by rw[i',C_];omega) h,Z9];unfold ti;rw[YK];rfl
variable {ds:List Nat}
def wK:Nat->List Nat->List Nat->List Nat->Dyadic
 |m+1,_::ds,a::s,r::rs=>(if a=r then 1 else 0)*wK m ds s rs
 |0,d::ds,a::s,r::rs=>wg d 1 1 a r*wK 0 ds s rs
 |_,_,_,_=>1
def vL:∀(j:Nat)(ds s rs:List Nat),j<ds.length->Nj ds s->Nj ds rs->sm (List.range (ds.getD j 0+1)) (λi=>wK (j+1) ds s (rs.set j i)*wg (ds.getD j 0) 1 1 i (rs.getD j 0))=wK j ds s rs
 |_,[],_,_,h,_,_=>by cases h
 |_,_::_,[],_,_,h,_=>by cases h
 |_,_::_,_::_,[],_,_,h=>by cases h
 |0,d::ds,a::s,r::rs,_,h1,_=>by
  show sm (List.range (d+1)) (λi=>(if a=i then 1 else 0)*wK 0 ds s rs*wg d 1 1 i r)=wg d 1 1 a r*wK 0 ds s rs;have e:sm (List.range (d+1)) (λi=>(if a=i then 1 else 0)*wK 0 ds s rs*wg d 1 1 i r)=sm (List.range (d+1)) λi=>if i=a then wg d 1 1 a r*wK 0 ds s rs else 0:=md λi _=>by
   by_cases h:a=i
   .rw[J' h,J' h.symm,h];grind
   rw[L' h,L' (λe=>h e.symm)];grind
  rw[e,EB,J' (by have:=h1.1;omega)]
 |j+1,d::ds,a::s,r::rs,hj,h1,h2=>(by show sm (List.range (ds.getD j 0+1)) (λi=>(if a=r then 1 else 0)*wK (j+1) ds s (rs.set j i)*wg (ds.getD j 0) 1 1 i (rs.getD j 0))=(if a=r then 1 else 0)*wK j ds s rs;rw[<-vL j ds s rs (by simpa using hj) h1.2 h2.2,<-Vk];exact md λi _=>by grind)
def yR:∀(ds s rs:List Nat),Nj ds s->Nj ds rs->wK ds.length ds s rs=if s=rs then 1 else 0
 |[],[],[],_,_=>by rw[J' rfl];rfl
 |[],_::_,_,h,_=>by cases h
 |[],[],_::_,_,h=>by cases h
 |_::_,[],_,h,_=>by cases h
 |_::_,_::_,[],_,h=>by cases h
 |d::ds,a::s,r::rs,h1,h2=>by
  show(if a=r then 1 else 0)*wK ds.length ds s rs=_;rw[yR ds s rs h1.2 h2.2];by_cases e1:a=r
  .by_cases e2:s=rs
   .rw[J' e1,J' e2,J' (by rw[e1,e2])];grind
   rw[J' e1,L' e2,L' λe=>e2 (List.cons.inj e).2];grind
  rw[L' e1,L' λe=>e1 (List.cons.inj e).1];grind
abbrev QL:=List (List Nat×Dyadic)
def X0(ds:List Nat)(L:QL):List Dyadic:=ui (la ds) (L.map λq=>(Jd ds q.1,q.2))
def Mq(ds:List Nat)(L:QL):Nat->List Dyadic
 |0=>X0 ds L
 |k+1=>Ci ds (ds.length-1-k) (wg (ds.getD (ds.length-1-k) 0) 1 1) (Mq ds L k)
def Jt(ds:List Nat)(L:QL)(k:Nat):Mq ds L (k+1)=Ci ds (ds.length-1-k) (wg (ds.getD (ds.length-1-k) 0) 1 1) (Mq ds L k):=rfl
def gG(ds:List Nat)(L:QL)(k:Nat):(Mq ds L k).length=la ds:=by
 cases k with
 |zero=>exact mi _ _
 |succ k=>rw[Jt,Ww]
def OR{ds:List Nat}{L:QL}(hL:∀q∈L,Nj ds q.1):∀k,k<=ds.length->∀row,Nj ds row->co ds (Mq ds L k) row=sm L λq=>q.2*wK (ds.length-k) ds q.1 row
 |0,_,row,hr=>by
  have hp:=Vj hr;rw[KK hr];show((X0 ds L)[Jd ds row]?).getD 0=_;unfold X0;rw[xo _ hp,l9,Fy];refine md λq hq=> ?_;rw[Nat.sub_zero,yR ds q.1 row (hL q hq) hr];by_cases h:q.1=row
  .rw[J' h,J' (by rw[h])];grind
  rw[L' h,L' λe=>h (by rw[<-Wh (hL q hq),<-Wh hr];exact J_ (Eb ds) e)];grind
 |k+1,hk,row,hr=>by
  obtain⟨j,hj⟩:∃j,j=ds.length-1-k:=⟨_,rfl⟩;rw[Jt,<-hj,IP _ _ _ hr,show ds.length-(k+1)=j by omega];have e1:∀i,i<ds.getD j 0+1->co ds (Mq ds L k) (row.set j i)=sm L λq=>q.2*wK (j+1) ds q.1 (row.set j i):=λi hi=>(by rw[OR hL k Z' (row.set j i) (rM hr Z'),show ds.length-k=j+1 by omega]);rw[md λi hi=>show co ds (Mq ds L k) (row.set j i)*wg (ds.getD j 0) 1 1 i (row.getD j 0)=sm L λq=>q.2*(wK (j+1) ds q.1 (row.set j i)*wg (ds.getD j 0) 1 1 i (row.getD j 0)) by
   rw[e1 i (g_.1 hi),<-Ht];exact md λq _=>by grind,rN]
  refine md λq hq=> ?_;rw[<-vL j ds q.1 row Z' (hL q hq) hr,<-Vk]
def Uo(ns:List Nat)(l:List TR):List Dyadic:=(List.range (la ns.reverse)).map λp=>wS (λm=>wK 0 ns.reverse (Kc m).reverse (Eb ns.reverse p)) l
def OD(ns:List Nat)(l:List TR):(Uo ns l).length=la ns:=by unfold Uo;rw[i',u9,Ud]
def Yu(l:List TR):QL:=l.map λt=>((Kc t.m).reverse,t.c.ma)
def LF{ns:List Nat}{l:List TR}(hl:∀t∈l,Nj ns.reverse (Kc t.m).reverse):Mq ns.reverse (Yu l) ns.length=Uo ns l:=by
 have hL:∀q∈Yu l,Nj ns.reverse q.1:=λq hq=>(by obtain⟨t,ht,rfl⟩:=Z_.1 hq;exact hl t ht);refine aa9 (ds:=ns.reverse) (gG _ _ _) (by rw[OD,Ud]) λrow hr=> ?_;have hp:=Vj hr;rw[OR hL ns.length (by rw[c_];exact j' _) row hr,KK hr,show ns.reverse.length-ns.length=0 by rw[c_,f_]];unfold Uo Yu;rw[V_,z9 hp,Fy];show _=wS _ l;rw[YK,Wh hr]
def pE:∀{ds rs:List Nat} (a:Nat),Nj ds rs->rs.getD a 0<=ds.getD a 0
 |[],[],_,_=>by simp
 |[],_::_,_,h=>by cases h
 |_::_,[],_,h=>by cases h
 |_::_,_::_,0,h=>h.1
 |_::ds,_::rs,a+1,h=>pE (ds:=ds) (rs:=rs) a h.2
def JN{a d:Nat}{X:List Dyadic}(hx:∀x∈X,Sz k x)(hd:ds.getD a 0=d)(hd7:d<=127):∀x∈Ci ds a (wg d 1 1) X,Sz (k+520) x:=λx h=>by
 obtain⟨p,_,rfl⟩:=Z_.1 h;have hr:(Eb ds p).getD a 0<=d:=by rw[<-hd];exact pE a (Lo ds p)
 have h2:=aQ (l:=List.range (ds.getD a 0+1)) (f:=λi=>co ds X ((Eb ds p).set a i)*wg d 1 1 i ((Eb ds p).getD a 0)) (k:=k+(130+2*(1*d))) λi _=>by
  refine Sz.mul ?_ (yM Sz.one Sz.one hd7 hr);unfold co;split
  .cases h:X[Jd ds ((Eb ds p).set a i)]? with
   |none=>exact Sz.zero k
   |some y=>exact hx y (G' h)
  exact Sz.zero k
 rw[u9,hd] at h2;rw[hd];exact h2.mono Z'
def MS{B:Nat}(h:∀d∈ds,d<=B)(a:Nat):ds.getD a 0<=B:=by
 rw[K9]
 cases ha:ds[a]? with
 |none=>exact D' _
 |some d=>exact h d (G' ha)
def dI{ds:List Nat}{L:QL}{k:Nat}(h:∀x∈X0 ds L,Sz k x)(hd:∀d∈ds,d<=127):∀i,∀x∈Mq ds L i,Sz (k+520*i) x
 |0=>h
 |i+1=>λx hx=>(JN (dI h hd i) rfl (MS hd _) x hx).mono Z'
def aal{l:List TR}(h:xg k l):∀x∈X0 ds (Yu l),Sz (k+l.length) x:=λx hx=>by
 have:=PC (N:=la ds) (L:=(Yu l).map λ(q:List Nat×Dyadic)=>(Jd ds q.1,q.2)) (k:=k) (λa ha=>by
  obtain⟨q,hq,rfl⟩:=Z_.1 ha;obtain⟨t,ht,rfl⟩:=Z_.1 hq;exact(h t ht).2) x hx
 unfold Yu at this;rwa[i',i'] at this
structure Vt(p:PX)(b:List SR)(ns:List Nat):Prop where
 e:p.e=0
 box:Fk b=0
 pos:0<b.length
 kq:b.length<=12
 v:p.v=b.length
 nl:ns.length=b.length
 low:∀d∈ns,d<=127
 most:la ns<=4096
 own:∀(i d:Nat),ns[i]?=some d->∀t∈p.ts,qg i t<=d
def BB{p:PX}{b:List SR}{D:List Int}(h:Ql p b D=0):D=Ua (D.map Int.toNat)/\Vt p b (D.map Int.toNat):=by
 unfold Ql at h;by_cases h0:p.e≠0
 .rw[J' h0] at h;exact absurd h h0
 rw[L' h0] at h;by_cases h1:Fk b≠0
 .rw[J' h1] at h;exact absurd h h1
 rw[L' h1] at h;by_cases h2:(b.length:Int)≠p.v\/(D.length:Int)≠p.v
 .rw[J' h2] at h;exact absurd h U'
 rw[L' h2] at h;by_cases h3:qy (iz p.v p.ts) D=true
 .rw[J' h3] at h;exact absurd h U'
 rw[L' h3] at h;by_cases h4:eh 1 D=0
 .rw[J' h4] at h;exact absurd h U'
 have hpe:p.e=0:=P7.1 h0;obtain⟨f1,_,_,_⟩:=Ub hpe;have f2:=Pe.1 f1;obtain⟨o1,o2,o3⟩:=fj hpe;have hbv:(b.length:Int)=p.v:=P7.1 λc=>h2 (.inl c);have hdv:(D.length:Int)=p.v:=P7.1 λc=>h2 (.inr c);have hD:∀(i:Nat)(y:Int),D[i]?=some y->∃d:Nat,(Ac p.v p.ts)[i]?=some d/\(d:Int)<=y/\y<=127:=λi y hy=>by
  have hi:=(X_.1 hy).1;obtain⟨d,hd⟩:=ea (l:=Ac p.v p.ts) (k:=i) Z';have hg:(iz p.v p.ts)[i]?=some (d:Int):=by rw[o1];exact He hd
  have:=p9.1 ((Bool.not_eq_true _).mp h3) _ (G' (dN hg hy));rw[K_] at this;exact⟨d,hd,by show(d:Int)<=y;omega,by show y<=127;omega⟩
 have hnat:D=Ua (D.map Int.toNat):=(by unfold Ua;rw[Z9];refine(C6 _).symm.trans (y8 λy hy=> ?_);obtain⟨i,hi⟩:=j_.1 hy;obtain⟨d,_,h5,_⟩:=hD i y hi;show y=((y.toNat:Nat):Int);omega);have hlow:∀d∈D.map Int.toNat,d<=127:=λd hd=>(by obtain⟨y,hy,rfl⟩:=Z_.1 hd;obtain⟨i,hi⟩:=j_.1 hy;obtain⟨_,_,_,h6⟩:=hD i y hi;omega);refine⟨hnat,hpe,P7.1 h1, ?_,Z',hbv.symm,by rw[i'];omega,hlow, ?_,λi d hd t ht=> ?_⟩
 .obtain c|c:=x8 b.length
  .have h9:=P7.1 h1;unfold Fk at h9;rw[Z6.1 c] at h9;exact absurd h9 U'
  exact c
 .have h8:=Ri (D.map Int.toNat) 1 (j' _) U' hlow;rw[<-hnat,Y7] at h8;rw[show eh 1 D=eh ((1:Nat):Int) D from rfl,h8] at h4;exact P7.1 λc=>h4 (L' c)
 rw[V_] at hd;obtain⟨y,hy,hyd⟩:=T8.1 hd;obtain⟨d2,h7,h8,h9⟩:=hD i y hy;have:=(o3 i d2 h7).2.1 t ht;omega
def Vt.Xl{p:PX}{b:List SR}{ns:List Nat}(h:Vt p b ns):(Ac p.v p.ts).length=b.length:=by
 rw[(fj h.e).2.1,h.v];exact p8 _
def TX(v i:Nat)(c:NR):Al (λx=>if x=i then 1 else 0) [⟨Mk v i,c⟩]:=λt ht j=>by
 rw[T_.1 ht]
 cases he:(⟨Mk v i,c⟩:TR).m.data.toList[j]? with
 |none=>unfold qg;rw[he];exact D' _
 |some e=>
  rw[Rn he];show e.toNat<=if j=i then 1 else 0
  have e1:((List.replicate v (0:UInt8)).set i 1)[j]?=some e:=by simpa[Mk] using he
  rw[F9] at e1;by_cases hj:i=j
  .rw[J' hj] at e1;rw[J' hj.symm];split at e1
   .rw[<-L_ e1];decide
   cases e1
  rw[L' hj] at e1;rw[(Y5.1 (G' e1)).2];exact D' _
def zt(v i:Nat)(s:SR):Al (λx=>if x=i then 1 else 0) (th v i s):=by
 refine Al.sa (Al.append ((Qy v _).sa.mono λx=>D' _) (Al.sa λt ht j=> ?_));obtain⟨z,hz,rfl⟩:=Z_.1 ht;rw[show qg j (Fp (s.jh-s.ye) z)=qg j z from rfl];exact(TX v i _).sa z hz j
def Fs{p:PX}{b:List SR}{ns:List Nat}(h:Vt p b ns)(ho:xg k p.ts)(hb:∀s∈b,s.fin k)(hk:k<=1000)(hgr:Qe (k+k+16394) (Ac p.v p.ts) (k+1)<=440000)(h0:(vd p (db b)).1=0):
  bj b.length 440000 (vd p (db b)).2/\∀t∈(vd p (db b)).2,Nj ns.reverse (Kc t.m).reverse:=by
 have hl:=h.kq;have hpos:=h.pos;have hln:=Ki b;obtain⟨_,o2,o3⟩:=fj h.e;have hol:=h.Xl;have hhv:ff (db b)=b.length:=(by obtain⟨s,hs⟩:=ea (l:=b) (k:=0) Z';rw[ll (gg hs)]);unfold vd at h0 |-;rw[L' (λc=>c h.e),L' (by rw[hln,h.v];exact λc=>c rfl)] at h0 |-;by_cases hlk:(db b).length≠0/\bg (db b)≠0
 .rw[J' hlk] at h0;exact absurd h0 hlk.2
 rw[L' hlk,hhv] at h0 |-;have hq:∀q∈(db b).map PX.ts,bj b.length (k+k+10) q/\q.length<=2:=λq hq=>(by obtain⟨g,hg,rfl⟩:=Z_.1 hq;obtain⟨i,s,hs,rfl⟩:=CJ hg;exact ql hl (hb s (G' hs)) Z');have h1:=LM (ug hl) (show k+k+10+4096*2+8192<=k+k+16394 by omega) ((db b).map PX.ts) 0 p.ts (Ac p.v p.ts) k hq ho (by rw[i',hln,hol]) (λi d hd=>⟨(o3 i d hd).1,λt ht=>by rw[C_];exact(o3 i d hd).2.1 t ht⟩) Z' h0;refine⟨h1.mono hgr, ?_⟩;have h2:=LB ((db b).map PX.ts) 0 p.ts (λi=>(ns[i]?).getD 0) (λi q hi=> ?_) (λt ht i hi=> ?_) h0
 .intro t ht;have hm:=(Ub h1.e).2.2.1 t ht;unfold pe at hm;rw[Q_,K_] at hm;have hsz:(Kc t.m).length=b.length:=by rw[Jk];omega
  rw[Vl];refine⟨by rw[c_,c_,hsz,h.nl],λi d r hd hr=> ?_⟩;have hi:=(X_.1 hd).1;rw[c_] at hi;rw[k8 hi] at hd;rw[k8 (by rw[hsz,<-h.nl];exact hi),hsz,<-h.nl] at hr;have h3:=h2 t ht (ns.length-1-i);dsimp only at h3;rw[i',hln,J' ⟨D' _,by have:=h.nl;omega⟩,hd,HK,hr] at h3;exact h3
 .rw[V_] at hi;obtain⟨g,hg,rfl⟩:=T8.1 hi;obtain⟨s,hs⟩:=ea (l:=b) (k:=i) (by have:=(X_.1 hg).1;rwa[hln] at this);rw[gg hs] at hg;rw[<-L_ hg,C_];exact zt _ i s
 rw[i',hln] at hi;rw[C_];obtain⟨d,hd⟩:=ea (l:=ns) (k:=i) (by rw[h.nl];exact hi);rw[hd];exact h.own i d hd t ht
def AD(L:Option Addr)(n c d:Nat)(xs:List Dyadic)(k:Nat)(w:World)(hT:Sc w)(hS:Sl w L n 3 (na NR.cells (xs.map nR)))(hn:n=d+1)(hd:d<=127)(hx:∀x∈xs,Sz k x)(hk:k<=500000):Calls prog 169 #[.slice L n c] w λr w'=>∃A c',r=.returned (.slice A n c')/\Hp w [.row A n c' 30 3 (na NR.cells ((np d (wg d 1 1) xs).map nR))] w':=by
 have hh:=Hp.start w;have hln:xs.length=n:=by have:=hS.Fa NR.len U';simpa using this
 have ha:Sz 1 1:=Sz.one;obtain⟨ad,rfl,hr⟩:=hS.at_ Z';refine da (N:=52) (l:=[.slice (some ad) n c]) func169 rfl rfl (by simp) ?_;refine fa ?_;refine vF ?_;intro b14 w14 hh;refine fa ?_;rw[Rz,hn,<-VJ d 1 1 xs,<-hn] at hh;refine Ba [5,6,7,8,17,18,19,20,21,22,23,24,25,26,27,28,29,30,31,32,33,34,35,36,37,38,39,40,41,42,43,44,45,46,47,48,49,50] 17 (λv w'=>∃i:Nat,i<=n/\v=.int .i64 i/\Hp w [.row (some ⟨b14,0,none⟩) n n 30 3 (na NR.cells ((Oj d 1 1 xs i 0).map nR))] w') (λv _=>n-(intOf v).toNat) ?_ ?_
 .exact⟨0,D' _,rfl,hh⟩
 clear hh;rintro ρ' v w' ⟨i,hi,rfl,hh⟩;by_cases hlt:i<n
 .obtain⟨x,hxi⟩:=ea (l:=xs) (k:=i) Z';have hxn:(xs.map nR)[i]?=some (nR x):=by rw[V_,hxi];rfl
  have hat:Hj xs i=x:=by unfold Hj;rw[hxi];rfl
  have zx:=hx x (G' hxi);have hch:=λw1 hT1=>dp (d-i) w1 hT1 Z';refine fa ?_;refine wb (vs:=[_,_,_]) ya.out rfl ((hr.ext hh.below).recAt NR.len hxn) rfl U' ?_;refine Sb ?_;intro b6 w6 hh ws hh;have e24:(n:Int)-1-(i:Int)=((d-i:Nat):Int):=Z';rw[<-e24] at hch;refine qa (hch _ (hT.hp hh)) ja.out rfl U' ?_;rintro e_ w25 ⟨A25,c25,rfl,hown_,hb_⟩;refine⟨_,rfl, ?_⟩;replace hh:=hh.Aa (x:=.row _ _ _ _ _ _) hb_ hown_;refine fa ?_;replace hh:=hh.sub (I' _ (I' _ (I' _ H_)));refine Ba [7,8,27,28,29,30,31,32,33,34,35,36,37,38,39,40,41,42,43,44,45,46,47,48,49] 27 (λv w'=>∃j:Nat,j<=d-i+1/\v=.int .i64 j/\Hp w [.row A25 (d-i+1) c25 30 3 (na NR.cells (Hm (d-i))),.blk b6 30 [.bool (nR x).neg,.string (nR x).Qa,.int .i64 (nR x).e] (0,0),.row (some ⟨b14,0,none⟩) n n 30 3 (na NR.cells ((Oj d 1 1 xs i j).map nR))] w') (λv _=>d-i+1-(intOf v).toNat) ?_ ?_
  .exact⟨0,D' _,rfl,hh⟩
  clear hh;rintro ρ2 v w2 ⟨j,hj,rfl,hh⟩;by_cases hjn:j<d-i+1
  .have hbn:(Hm (d-i))[j]?=some (nR (nD (bin (d-i) j))):=Jl Z';have zb:=uy (d-i) j Z';obtain⟨o,ho⟩:=ea (l:=Oj d 1 1 xs i j) (k:=i+j) (by rw[Wm];omega);have hon:((Oj d 1 1 xs i j).map nR)[i+j]?=some (nR o):=by rw[V_,ho];rfl
   have zo:=EW (j:=j) hx ha ha hd (show i<=d+1 by omega) o (G' ho);have zy:=zx.mul zb;have hm2:=λA cc w1 hT1 hS1=>Ee A 2 cc [nR x,nR (nD (bin (d-i) j))] w1 hT1 hS1 (by simpa using⟨zx.ok Z',zb.ok Z'⟩) 600000 (by simpa[Za] using⟨zx.mono Z',zb.mono Z'⟩) Z' Z';rw[show Cf ([nR x,nR (nD (bin (d-i) j))].map NR.ma)=x*nD (bin (d-i) j) by simp only[q_,G9,Za];show 1*x*_=_;rw[W7]] at hm2;have hset:=LQ (show i+j<=d by omega) ho;have hval:Hj xs i*wg d 1 1 i (i+j)=x*nD (bin (d-i) j):=(by unfold wg;rw[hat,L' Z',show i+j-i=j by omega,Zk,Zk];generalize nD (bin (d-i) j)=u;grind);rw[hval] at hset;generalize x*nD (bin (d-i) j)=y at*;have hsum:=λA cc w1 hT1 hS1=>Kf A 2 cc [nR o,nR y] w1 hT1 hS1 (by simpa using⟨zo.ok Z',zy.ok Z'⟩) 2000000 (by simpa[Za] using⟨zo.mono Z',zy.mono Z'⟩) Z';rw[show rm ([nR o,nR y].map NR.ma)=o+y by simp only[q_,G9,Za,Rh]] at hsum;have hll:((Oj d 1 1 xs i j).map nR).length=n:=by rw[i',Wm];omega
   generalize Oj d 1 1 xs i j=S at*;have hrl:=ve NR.len (S.map nR);obtain⟨gw,rfl⟩:=hh.Ob (i:=0) rfl Z';refine fa ?_;refine wb (vs:=[_,_,_]) ya.out rfl (hh.Gd (f:=NR.cells) (x:=nR (nD (bin (d-i) j))) (l:=Hm (d-i)) (i:=0) rfl NR.len U' hbn) rfl U' ?_;refine Sb ?_;intro b8 w8 hh ws hh;refine Ca 16 [[(4,none)],[(5,none)],[(7,none)],[(33,some 1),(34,some 2)],[(4,none)],[(5,none)],[(7,none)],[(37,some 5),(38,some 6)],[(36,some 4),(39,some 7)],[(40,some 8)],[(6,none)],[(8,none)],[(42,some 10),(43,some 11)],[(44,some 12)],[(41,some 9),(45,some 13)],[(46,some 14)]] [(15,47),(14,46),(13,45),(12,44),(11,43),(10,42),(9,41),(8,40),(7,39),(6,38),(5,37),(4,36),(3,35),(2,34),(1,33),(0,32)] hh mixed T' ?_;refine De ?_;refine cd ?_;refine cd ?_;refine xt ?_;refine De ?_;refine cd ?_;refine cd ?_;refine xt ?_;refine Kt ((i+j)) ?_;refine Dn [_,_,_] (λ_ hj=>hj.hp.Gd (f:=NR.cells) (x:=nR o) (l:=S.map nR) (i:=3) rfl NR.len U' hon) ?_;refine Vd 2 [_,_,_] ?_;refine Vd 0 [_,_,_] ?_;refine qq [_,_,_,_,_,_] ?_
   refine Va (i:=13) (Is (.agg #[.bool (nR y).neg,.string (nR y).Qa,.int .i64 (nR y).e])) Is.ext ?_ ?_
   .intro ρ1 w1 hj hR;obtain⟨A44,c44,h44,s44⟩:=hR.1;exact Pb rfl (qb ja.out (Ga h44 Fb)) (hm2 A44 c44 _ (hT.hp hj.hp) s44) (λ_ _ hq=>⟨_,hq.1,hq.2,rfl⟩)
   refine qq [_,_,_,_,_,_] ?_;refine Va (i:=15) (Is (.agg #[.bool (nR (o+y)).neg,.string (nR (o+y)).Qa,.int .i64 (nR (o+y)).e])) Is.ext ?_ ?_
   .intro ρ1 w1 hj hR;obtain⟨A46,c46,h46,s46⟩:=hR.1;exact Pb rfl (qb ja.out (Ga h46 Fb)) (hsum A46 c46 _ (hT.hp hj.hp) s46) (λ_ _ hq=>⟨_,hq.1,hq.2,rfl⟩)
   refine xa ?_;intro f W hJ hV;have hb_9:=hJ.bl;obtain⟨v47,v46,v45,v44,v43,v42,v41,v40,v39,v38,v37,v36,v35,v34,v33,v32,_⟩:=hV;obtain⟨A44,c44,e44,f44⟩:Rows _ _ _ (f 12) W:=v44;obtain⟨A46,c46,e46,f46⟩:Rows _ _ _ (f 14) W:=v46;replace hh:=hJ.hp;refine Da (Na (aa v47 (aa e46 (aa v45 (aa e44 (aa v43 (aa v42 (aa v41 (aa v40 (aa v39 (aa v38 (aa v37 (aa v36 (aa v35 (aa v34 (aa v33 (aa v32 Ea))))))))))))))))) ?_;dsimp only[Bb];clear e44 e46 hJ;refine Nd (k:=(i+j)) lb.out ya.size rfl rfl Z' Z' U' ?_;refine QS ?_;intro ws hh;simp only[U_,F_] at hh;rw[show Hb (na NR.cells (S.map nR)) ((i+j)*3) [.bool (nR (o+y)).neg,.string (nR (o+y)).Qa,.int .i64 (nR (o+y)).e]=na NR.cells ((S.map nR).set (i+j) (nR (o+y))) from de NR.len Z',<-Z8,hset] at hh;refine fa ?_;replace hh:=hh.sub (p' _ (I' _ (I' _ (I' _ H_))));refine⟨⟨j+1,Z',rfl,hh⟩,by show d-i+1-(j+1)<d-i+1-j;omega, ?_⟩;exact Rc
  obtain rfl:j=d-i+1:=Z';rw[LP Z'] at hh;refine fa ?_;replace hh:=hh.sub (p' _ (p' _ (I' _ H_)));exact yx
 obtain rfl:i=n:=Z';rw[show Oj d 1 1 xs i 0=np d (wg d 1 1) xs by rw[hn,rO]] at hh;refine fa ?_;exact⟨_,_,rfl,hh⟩
def ag9(fx:FX)(hs:List Int):Int:=if fx.e≠0 then fx.e else if hs.any (bZ fx.n)=true then 1 else 0
def ahV(R:List HE)(g:FX):Prop:=R=[g.rg,g.fg]\/g.m=0/\R=[g.fg]
variable {Hr:List HE}
def vN(g n c a:Nat)(ds:List Int)(w:World)(hh:Hp w0 (.row (some ⟨g,0,none⟩) n c 3 1 (jb ds)::Hr) w)(hl:ds.length=n)(ha:a<n)(hn:n<=1000):Calls prog 196 #[.slice (some ⟨g,0,none⟩) n c,.int .i64 a,.int .i64 ((a:Int)+1)] w λr w'=>r=.returned (.slice (some ⟨g,0,none⟩) (n-1) c)/\Hp w0 (.row (some ⟨g,0,none⟩) (n-1) c 3 1 (jb (ds.eraseIdx a))::Hr) w':=by
 have hc:=hh.me (i:=0) rfl;refine da (N:=33) (l:=[.slice (some ⟨g,0,none⟩) n c,.int .i64 a,.int .i64 ((a:Int)+1)]) func196 rfl rfl (by simp) ?_;have hsl0:=λ(w1:World) (H1:Hp w0 (.row (some ⟨g,0,none⟩) n c 3 1 (jb ds)::Hr) w1)=>H1.ra (i:=0) rfl;have her:jb (ds.take a)++jb (ds.drop (a+1))=jb (ds.eraseIdx a):=(by rw[List.eraseIdx_eq_take_drop_succ];simp[jb]);refine fa ?_;refine aav ?_;refine fa ?_;refine E0 ?_;refine De ?_;refine cd ?_;refine sZ ?_;refine De ?_;refine cd ?_;refine EZ ?_;refine xa ?_;intro f W hJ hV;have hb_5:=hJ.bl;obtain⟨v25,v24,v23,v22,v21,v20,_⟩:=hV;replace hh:=hJ.hp;refine XK ?_;dsimp only[Bb];clear hJ;have hbk:=(hsl0 _ hh).back (l:=a+1) (c:=c) Z' hc;obtain⟨ad,had⟩:∃ad,(if c=a+1 then some (⟨g,0,none⟩:Addr) else(some (⟨g,0,none⟩:Addr)).map (·.add ((a+1)*1)))=some ad:=(by split<;>exact⟨_,rfl⟩);rw[had] at hbk |-;have hds:(jb ds).drop ((a+1)*1)=jb (ds.drop (a+1)):=by rw[I_];unfold jb;rw[<-J6]
 have hdt:(jb ds).take (a*1)=jb (ds.take a):=by rw[I_];unfold jb;rw[<-List.map_take]
 rw[hds] at hbk;have hrd:∀j u,(jb (ds.drop (a+1)))[j]?=some u->W.cell? (ad.add j)=some u:=λj u hu=>(by have hj:=(X_.1 hu).1;rw[Wb,M9] at hj;exact QZ);refine gp hh (i:=0) (a:=ad) (p:=a) (m:=n-(a+1)) rfl rfl rfl Z' Z' hbk.1 hrd (Pa _) lb.out ya.out U' ?_;intro w26 hh;simp only[U_] at hh;rw[hdt,her,show a+(n-(a+1))=n-1 by omega] at hh;rw[show a+(n-(a+1))=n-1 by omega];have hp31:(if c=n-1 then some (⟨g,0,none⟩:Addr) else(some (⟨g,0,none⟩:Addr)).map (·.add ((n-1)*1)))=some ⟨g,n-1,none⟩:=(by rw[L' Z'];show some ((⟨g,0,none⟩:Addr).add ((n-1)*1))=_;rw[qe,C_,I_]);refine fa ?_;refine Ia rfl rfl U' (Ef (l:=n-1) (h:=n) lb.out ya.size rfl ⟨_,_,rfl,rfl⟩ ⟨_,_,rfl,rfl⟩ Z' Z') ?_;rw[hp31,show n-(n-1)=1 by omega];refine fm hh (i:=0) (o:=n-1) (m:=1) rfl rfl Z' Z' U' lb.out ya.out rfl rfl ?_;intro w32 hh;refine fa ?_;exact⟨rfl,hh⟩
def Ax(fx:FX)(ax:Int)(k:Nat)(w:World)(hT:Sc w)(hf:fx.at_ w)(hl:fx.Zg k):Calls prog 195 #[.agg #[.slice fx.A fx.n fx.a,.slice fx.B fx.m fx.b],.int .i64 ax] w λr w'=>r=.returned (.int .i64 (Xm fx ax))/\Below w.heap.size w w':=by
 have hh:=Hp.start w;have hck:=λw1 hT1 hb=>vm fx k w1 hT1 (hf.ext hb) hl;by_cases h0:fx.e=0
 .by_cases h1:ax<0
  .rw[show Xm fx ax=1 by unfold Xm;rw[L' Z',J' (.inl h1)]];exact lM
  by_cases h2:(fx.n:Int)<=ax
  .rw[show Xm fx ax=1 by unfold Xm;rw[L' Z',J' (.inr h2)]];exact lM
  rw[show Xm fx ax=0 by unfold Xm;rw[L' Z',L' Z']];exact lM
 rw[show Xm fx ax=fx.e by unfold Xm;rw[J' h0]];exact lM
def Wr(A:Option Addr)(n c a d:Nat)(ns:List Nat)(w:World)(hS:Sl w A n 1 (jb (Ua ns)))(hcap:n<=c)(hn:n<=1000)(hd:ns[a]?=some d)(hlow:∀x∈ns,x<=127)(hmax:la ns<=4096):Calls prog 167 #[.slice A n c,.int .i64 a] w λr w'=>r=.returned (.agg #[.int .i64 ((d:Int)+1),.int .i64 (la (ns.drop (a+1)):Nat)])/\Below w.heap.size w w':=by
 have hh:=Hp.start w;have hln:ns.length=n:=by have:=hS.1;simpa[jb,Ua] using this
 have ha:=(X_.1 hd).1;have hd127:=hlow d (G' hd);have hgd:=Uc (He hd);have hbk:=hS.back (l:=a+1) (c:=c) Z' hcap;have hds:(jb (Ua ns)).drop ((a+1)*1)=jb (Ua (ns.drop (a+1))):=(by rw[I_];unfold jb Ua;rw[<-J6,<-J6]);rw[hds] at hbk;have hcd:eh 1 (Ua (ns.drop (a+1)))=(la (ns.drop (a+1)):Nat):=by
  have h1:=Ri (ns.drop (a+1)) 1 U' U' (λx hx=>hlow x (l6 hx));have h2:la (ns.drop (a+1))<=la ns:=by
   have h3:la ns=la (ns.take (a+1))*la (ns.drop (a+1)):=by rw[<-Sd,P9]
   rw[h3];exact Nat.le_mul_of_pos_left _ (Cc _)
  rw[Y7,J' Z'] at h1;exact h1
 have hcnt:=λw1 hS1=>Re (if c=a+1 then A else A.map (·.add ((a+1)*1))) (n-(a+1)) (c-(a+1)) (Ua (ns.drop (a+1))) w1 hS1 Z';rw[hcd] at hcnt;obtain⟨ad,rfl,srd⟩:=hS.at_ Z';refine da (N:=16) (l:=[.slice (some ad) n c,.int .i64 a]) func167 rfl rfl (by simp) ?_;refine Jb ?_;intro b4 w4 hh;refine Ca 10 [[(0,none)],[(1,none)],[(5,some 0),(6,some 1)],[(7,some 2)],[(8,some 3)],[(0,none)],[(1,none)],[(11,some 6)],[(10,some 5),(12,some 7)],[(13,some 8)]] [(9,14),(8,13),(7,12),(6,11),(5,10),(4,9),(3,8),(2,7),(1,6),(0,5)] hh mixed T' ?_;refine De ?_;refine cd ?_;refine jj (a) ?_;refine Ro (λ_ hj=>(srd.ext hj.hp.below).aw hgd) ?_;refine xt ?_;refine De ?_;refine cd ?_;refine xt ?_;refine Wa (i:=8) (λρ1 w1 hj hR=>Yf (l:=(a+1)) lb.out ya.size (show ρ1 10=Value.slice _ _ _ from hR.1) (show ρ1 12=Value.int _ _ from hR.2.1) Z' Z' Z') ?_;refine dC (λ_ hj=>hcnt _ (hbk.ext hj.hp.below)) ?_;refine xa ?_;intro f W hJ hV;have hb_1:=hJ.bl;obtain⟨v14,v13,v12,v11,v10,v9,v8,v7,v6,v5,_⟩:=hV;replace hh:=hJ.hp;refine aaF ?_;dsimp only[Bb];clear hJ;exact Vu
def YN(A:List Nat)(d f i q:Nat):ud A d f i q=ud A d f 0 q+i*la A:=by
 unfold ud;rw[X9,X9,N7,G_ i];omega
def sE(g:FuncId)[ja prog g](A B:List Nat)(d L:Nat)(φ:List Dyadic->List Dyadic)(C:Option Addr)(n c k:Nat)(X:List Dyadic)(w:World)(hT:Sc w)(hS:Sl w C n 3 (na NR.cells (X.map nR)))(hn:n=la (A++d::B))(hmax:n<=4096)(hL:L<=d+1)(hd:d<=127)(hx:∀x∈X,Sz k x) (hg:∀(Y:List Dyadic)(D:Option Addr)(dc:Nat)(w1:World),Sc w1->(∀y∈Y,Sz k y)->Sl w1 D (d+1) 3 (na NR.cells (Y.map nR))->Calls prog g #[.slice D (d+1) dc] w1 λr w'=>∃E ec,r=.returned (.slice E L ec)/\Hp w1 [.row E L ec 30 3 (na NR.cells ((φ Y).map nR))] w') (hφ:∀Y:List Dyadic,Y.length=d+1->(φ Y).length=L):Calls prog 168 #[.agg #[.int .i64 ((d:Int)+1),.int .i64 (la A:Nat)],.slice C n c,.func (.func g) #[] #[]] w λr w'=>∃E ec,r=.returned (.slice E n ec)/\Hp w [.row E n ec 30 3 (na NR.cells ((pj A d L φ X n 0).map nR))] w':=by
 have hh:=Hp.start w;have hXl:X.length=n:=by have:=hS.Fa NR.len U';simpa using this
 have hap:=Cc A;have hap2:la A<=n:=(by rw[hn,Sd];exact L5 _ (Cc _));have hcl:=λw1 hb=>Ir C n c (X.map nR) w1 (hS.ext hb) Z';refine da (N:=67) (l:=[.agg #[.int .i64 ((d:Int)+1),.int .i64 (la A:Nat)],.slice C n c,.func (.func g) #[] #[]]) func168 rfl rfl (by simp) ?_;refine Jb ?_;intro b3 w3 hh;refine qa (hcl _ hh.below) ja.out rfl U' ?_;rintro e_ w14 ⟨A14,c14,rfl,hown_,hb_⟩;refine⟨_,rfl, ?_⟩;replace hh:=hh.Aa (x:=.row _ _ _ _ _ _) hb_ hown_;rw[show X.map nR=(pj A d L φ X 0 0).map nR by rw[nP]] at hh;clear hcl;refine fa ?_;refine Ba [8,9,10,11,12,17,18,19,20,21,22,23,24,25,26,27,28,29,30,31,32,33,34,35,36,37,38,39,40,41,42,43,44,45,46,47,48,49,50,51,52,53,54,55,56,57,58,59,60,61,62,63,64,65] 17 (λv w'=>∃F:Nat,F<=n/\v=.int .i64 F/\Hp w [.row A14 n c14 30 3 (na NR.cells ((pj A d L φ X F 0).map nR)),.blk b3 196 [.int .i64 ((d:Int)+1),.int .i64 (la A:Nat)] (0,0)] w') (λv _=>n-(intOf v).toNat) ?_ ?_
 .exact⟨0,D' _,rfl,hh⟩
 clear hh;rintro ρ' v w' ⟨F,hF,rfl,hh⟩;by_cases hlt:F<n
 .have hcast:((F:Int)/((la A:Nat):Int)) % ((d:Int)+1)=((F/la A % (d+1):Nat):Int):=by norm_cast
  have hq0:(0:Int)<=(F:Int)/((la A:Nat):Int):=Int.ediv_nonneg Z' Z';by_cases h0:F/la A % (d+1)=0
  .obtain⟨u0,hfF⟩:∃u0,u0=F % la A:=⟨_,rfl⟩;obtain⟨q,hqF⟩:∃q,q=F/la A/(d+1):=⟨_,rfl⟩;have hf:u0<la A:=by rw[hfF];exact B_ _ hap
   have hFe:F=ud A d u0 0 q:=by rw[hfF,hqF,<-h0,yC]
   have hq:q<la B:=by
    rw[hqF,V8,D9 (H7 hap Z')];rw[hn,Sd,la] at hlt
    calc F<la A*((d+1)*la B):=hlt
     _=la B*(la A*(d+1)):=by rw[<-J9,G_]
   have hpl:∀i,i<=d->ud A d u0 i q<n:=λi hi=>by rw[hn];exact Zv hf hi hq
   have hpi:∀i,ud A d u0 i q=F+i*la A:=λi=>by rw[hFe];exact YN A d u0 i q
   have hxl:(Tf A d X u0 q).length=d+1:=by simp[Tf]
   have hxz:∀y∈Tf A d X u0 q,Sz k y:=λy hy=>(by obtain⟨i,hi,rfl⟩:=Z_.1 hy;exact bQ hx _);obtain⟨ad,hCA,hr⟩:=hS.at_ Z';rw[hCA] at*;refine fa ?_;refine K0 ?_;refine cd ?_;refine yd ?_;refine xe 1 ?_;refine aab ?_;refine yd ?_;refine xe 1 ?_;refine xa ?_;intro f W hJ hV;have hb_5:=hJ.bl;obtain⟨v25,v24,v23,v22,v21,v20,_⟩:=hV;replace hh:=hJ.hp;refine XK ?_;dsimp only[Bb];clear hJ;refine fa ?_;replace hh:=hh.Lb 30 3;refine Ra [9,10,30,31,32,33,34,35,36,37,38,39,40,41,42,43,44,45] 9 30 (λa v w'=>∃(i:Nat)(A':Option Addr)(c':Nat),i<=d+1/\v=.int .i64 i/\a=.slice A' i c'/\Hp w [.row A' i c' 30 3 (na NR.cells (((Tf A d X u0 q).take i).map nR)),.row A14 n c14 30 3 (na NR.cells ((pj A d L φ X F 0).map nR)),.blk b3 196 [.int .i64 ((d:Int)+1),.int .i64 (la A:Nat)] (0,0)] w') (λ_ v _=>d+1-(intOf v).toNat) ?_ ?_
   .exact⟨0,none,0,D' _,rfl,rfl,hh⟩
   clear hh;rintro ρ2 a_ v w2 ⟨i,A',c',hi,rfl,rfl,hh⟩;by_cases hil:i<d+1
   .obtain⟨y,hy⟩:=ea (l:=Tf A d X u0 q) (k:=i) Z';have hyx:(X.map nR)[ud A d u0 i q]?=some (nR y):=(by have h1:=hpl i Z';unfold Tf at hy;rw[V_,z9 hil] at hy;have h2:(X[ud A d u0 i q]?).getD 0=y:=L_ hy;rw[V_,FE (show ud A d u0 i q<X.length by omega)];show some (nR (Hj X _))=_;unfold Hj;rw[h2]);have hpn:=hpl i Z';have hpq:=hpi i;obtain⟨m,hm⟩:∃m,m=i*la A:=⟨_,rfl⟩;have hmi:(i:Int)*((la A:Nat):Int)=(m:Int):=by rw[hm];exact(m9 _ _).symm
    rw[<-hm] at hpq;refine sr ?_;refine Bi (ua (mb (cT (Mc (wc (mb (cg (sr (mI (aI (ua (Kb (mL (mL (mI (mI (Hu ?_)))))))))))))))));refine xm hh 2 ?_;refine mulC ?_;refine lj ?_;refine zd (k:=(ud A d u0 i q)) lb.out ya.size rfl rfl Z' Z' U' ?_;refine wb (vs:=[_,_,_]) ya.out rfl ((hr.ext hh.below).recAt NR.len hyx) rfl U' ?_;refine Nm ?_;intro b43 w43 hh;refine Vr ?_;intro A44 c44 w44 hh;simp only[U_,F_] at hh;replace hh:=hh.sub (s_ _ _);refine fa ?_;have e1:na NR.cells (((Tf A d X u0 q).take i).map nR)++[.bool (nR y).neg,.string (nR y).Qa,.int .i64 (nR y).e]=na NR.cells (((Tf A d X u0 q).take (i+1)).map nR):=by rw[oa hy,n_,La,q_,G9,Lj];rfl
    rw[e1] at hh;refine⟨⟨i+1,A44,c44,Z',rfl,rfl,hh⟩,by show d+1-(i+1)<d+1-i;omega, ?_⟩;exact Rc
   obtain rfl:i=d+1:=Z';rw[W_ Z'] at hh;refine fa ?_;refine qi (hg (Tf A d X u0 q) A' c' _ (hT.hp hh) hxz (hh.ra (i:=0) rfl)) ja.out rfl rfl U' ?_;rintro e_ w48 ⟨E,ec,rfl,h4⟩;refine⟨_,rfl, ?_⟩;replace hh:=hh.join h4;clear h4;simp only[C',E'] at hh;replace hh:=hh.sub (I' _ (p' _ (I' _ (I' _ H_))));have hφl:=hφ (Tf A d X u0 q) hxl;refine fa ?_;refine Ba [11,12,50,51,52,53,54,55,56,57,58,59,60,61,62,63,64] 50 (λv w'=>∃j:Nat,j<=L/\v=.int .i64 j/\Hp w [.row E L ec 30 3 (na NR.cells ((φ (Tf A d X u0 q)).map nR)),.row A14 n c14 30 3 (na NR.cells ((pj A d L φ X F j).map nR)),.blk b3 196 [.int .i64 ((d:Int)+1),.int .i64 (la A:Nat)] (0,0)] w') (λv _=>L-(intOf v).toNat) ?_ ?_
   .exact⟨0,D' _,rfl,hh⟩
   clear hh;rintro ρ3 v w3 ⟨j,hj,rfl,hh⟩;by_cases hjl:j<L
   .obtain⟨y,hy⟩:=ea (l:=φ (Tf A d X u0 q)) (k:=j) Z';have hyn:((φ (Tf A d X u0 q)).map nR)[j]?=some (nR y):=by rw[V_,hy];rfl
    have hpn:=hpl j Z';have hpq:=hpi j;have hset:=zR (φ:=φ) (X:=X) (q:=q) hf hjl (show j<=d by omega);rw[<-hFe,show Hj (φ (Tf A d X u0 q)) j=y by unfold Hj;rw[hy];rfl] at hset;obtain⟨m,hm⟩:∃m,m=j*la A:=⟨_,rfl⟩;have hmi:(j:Int)*((la A:Nat):Int)=(m:Int):=by rw[hm];exact(m9 _ _).symm
    rw[<-hm] at hpq;have hll:((pj A d L φ X F j).map nR).length=n:=by rw[i',Th];exact hXl
    generalize pj A d L φ X F j=S at*;generalize ud A d u0 j q=P at*;have hrl:=ve NR.len (S.map nR);obtain⟨gr,rfl⟩:=hh.Ob (i:=0) rfl Z';obtain⟨go,rfl⟩:=hh.Ob (i:=1) rfl Z';refine fa ?_;refine wb (vs:=[_,_,_]) ya.out rfl (hh.Gd (f:=NR.cells) (x:=nR y) (l:=(φ (Tf A d X u0 q)).map nR) (i:=0) rfl NR.len U' hyn) rfl U' ?_;refine sw hh ?_;intro b12 w12 hh;refine aI ?_;refine rf hh 0 [_,_,_] ?_;intro ws hh;replace hh:Hp _ (.blk _ _ [_,_,_] _::_) _:=hh;refine ua (Kb (mL (mI (mI (Hu ?_)))));refine xm hh 3 ?_;refine mulC ?_;refine lj ?_;refine zl hh 0 [_,_,_] ?_;refine Nd (k:=P) lb.out ya.size rfl rfl Z' Z' U' ?_;refine Ab hh (i:=2) (vs:=[_,_,_]) rfl rfl (Ld rfl) rfl ya.out rfl Z' rfl ?_;intro ws hh;simp only[U_,F_] at hh;rw[show Hb (na NR.cells (S.map nR)) (P*3) [.bool (nR y).neg,.string (nR y).Qa,.int .i64 (nR y).e]=na NR.cells ((S.map nR).set P (nR y)) from de NR.len Z',<-Z8,hset] at hh;refine fa ?_;replace hh:=hh.sub (p' _ (I' _ (I' _ (I' _ H_))))
    refine⟨⟨j+1,Z',rfl,hh⟩,by show L-(j+1)<L-j;omega, ?_⟩;exact Rc
   rw[yO (show L<=j by omega)] at hh;refine fa ?_;replace hh:=hh.sub (p' _ (I' _ (I' _ H_)));refine⟨⟨F+1,Z',rfl,hh⟩,by show n-(F+1)<n-F;omega, ?_⟩;exact Rc
  rw[JP h0] at hh;refine fa ?_;refine K0 ?_;refine cd ?_;refine yd ?_;refine xe 1 ?_;refine aab ?_;refine yd ?_;refine xe 1 ?_;refine xa ?_;intro f W hJ hV;have hb_5:=hJ.bl;obtain⟨v25,v24,v23,v22,v21,v20,_⟩:=hV;replace hh:=hJ.hp;refine XK ?_;dsimp only[Bb];clear hJ;refine fa ?_;refine⟨⟨F+1,Z',rfl,hh⟩,by show n-(F+1)<n-F;omega, ?_⟩;exact Rc
 obtain rfl:F=n:=Z';refine fa ?_;exact⟨_,_,rfl,hh.sub (I' _ (R9 _))⟩
def gm(p:PX)(ds:List Int):List Int:=if ds.length=0 then iz p.v p.ts else ds
def ofN(p:PX)(ds:List Int):List Nat:=(gm p ds).map Int.toNat
def pg(p:PX)(b:List SR)(ds:List Int):Int:=if Ql p b (gm p ds)≠0 then Ql p b (gm p ds) else(vd p (db b)).1
def XY{ns:List Nat}{i d:Nat}(h:ns[i]?=some d):ns.reverse=(ns.drop (i+1)).reverse++d::(ns.take i).reverse:=by
 have e:ns=ns.take i++d::ns.drop (i+1):=by rw[<-Ge h,P9]
 conv=>lhs;rw[e]
 rw[List.reverse_append,D7,l_];rfl
def abz(ds:List Nat):X0 ds (Yu [])=List.replicate (la ds) 0:=Kw _
def yW{l:List TR}{i:Nat}{t:TR}(hl:∀t∈l,Nj ds (Kc t.m).reverse)(hr:jv l)(ht:l[i]?=some t):(X0 ds (Yu (l.take i))).set (Jd ds (Kc t.m).reverse) t.c.ma=X0 ds (Yu (l.take (i+1))):=by
 have hok:=hl t (G' ht);have hp:=Vj hok;have h0:(X0 ds (Yu (l.take i)))[Jd ds (Kc t.m).reverse]?=some 0:=by
  unfold X0;rw[xo _ hp];congr 1;unfold Yu;rw[Z9,Fy];refine ko λs hs=>L' λe=> ?_;replace e:Jd ds (Kc s.m).reverse=Jd ds (Kc t.m).reverse:=e;have e2:(Kc s.m).reverse=(Kc t.m).reverse:=by rw[<-Wh (hl s (N8 hs)),e,Wh hok]
  have e3:s.m=t.m:=ZG (List.reverse_inj.1 e2);obtain⟨j,hj⟩:=j_.1 hs;have hji:j<i:=by have:=(X_.1 hj).1;rw[R_] at this;omega
  rw[List.getElem?_take_of_lt hji] at hj;have h1:=(X_.1 hj);have h2:=(X_.1 ht);have h3:=List.pairwise_iff_getElem.1 hr j i h1.1 h2.1 hji;rw[h1.2,h2.2,e3,Og] at h3
  cases h3
 have h1:=nB (v:=t.c.ma) (show(ui (la ds) ((Yu (l.take i)).map λ(q:List Nat×Dyadic)=>(Jd ds q.1,q.2)))[Jd ds (Kc t.m).reverse]?=some 0 from h0);rw[M7] at h1;show(ui (la ds) ((Yu (l.take i)).map λ(q:List Nat×Dyadic)=>(Jd ds q.1,q.2))).set _ _=_;rw[h1,oa ht];unfold X0 Yu;rw[n_,n_];rfl
set_option maxRecDepth 10000 in
def TO(p:PX)(L:Option Addr)(n c:Nat)(b:List SR)(M:Option Addr)(m mc:Nat)(ds:List Int)(k:Nat)(w:World)(hT:Sc w)(hp:p.at_ w)(lp:p.Zg k)(hB:Sl w L n 6 (na SR.cells b))(hb:∀s∈b,s.fin k)(hn:n<=1000000)(hD:Sl w M m 1 (jb ds))(hm:m<=1000000)(hmc:m<=mc)(hk:k<=1000) (hgr:Ql p b (gm p ds)=0->Qe (k+k+16394) (Ac p.v p.ts) (k+1)<=440000):Calls prog 94 #[.agg #[.int .i64 p.v,.slice p.A p.n p.c],.slice L n c,.slice M m mc] w λr w'=>∃g:FX,Out (pg p b ds) (ofN p ds) (Uo (ofN p ds) (vd p (db b)).2) g/\r=.returned (.tuple #[.agg #[.slice g.A g.n g.a,.slice g.B g.m g.b],.int .i64 (pg p b ds)])/\Hp w [g.rg,g.fg] w':=by
 have hh:=Hp.start w;have hbl:b.length=n:=hB.Fa SR.len U';have hdl:ds.length=m:=by have:=hD.1;rw[Wb] at this;omega
 have hok:∀s∈b,s.ok:=λs hs=>⟨(hb s hs).1.ok,(hb s hs).2.ok⟩;have hDd:gm p ds=if m=0 then iz p.v p.ts else ds:=by unfold gm;rw[hdl]
 have hoN:ofN p ds=(gm p ds).map Int.toNat:=rfl;have hoE:pg p b ds=if Ql p b (gm p ds)≠0 then Ql p b (gm p ds) else(vd p (db b)).1:=rfl
 rw[hoN,hoE];clear hoN hoE;generalize gm p ds=D at*;refine da (N:=94) (l:=[.agg #[.int .i64 p.v,.slice p.A p.n p.c],.slice L n c,.slice M m mc]) func94 rfl rfl (by simp) ?_;refine sr ?_;refine YD hh [_,_] ?_;intro b3 w3 hh;refine sw hh ?_;intro b6 w6 hh;refine aI (ua ?_);refine Gs [2,18,19,20,21,22] 2 (λv w'=>∃(M2:Option Addr)(m2 mc2:Nat)(R:List HE),v=.slice M2 m2 mc2/\m2<=mc2/\m2<=1000000/\D.length=m2/\(∀(H:List HE)(w1:World),Hp w (H++R) w1->Sl w1 M2 m2 1 (jb D))/\Hp w (.blk b6 78 [.slice none 0 0,.slice none 0 0] (0,0)::.blk b3 24 [.int .i64 p.v,.slice p.A p.n p.c] (0,0)::R) w') ?_ ?_
 .by_cases hm0:m=0
  .subst hm0;rw[J' rfl] at hDd;have hdg:=λw1 hT1 hb=>Au p k w1 hT1 (hp.ext hb) lp;rw[<-hDd] at hdg;have hl4:D.length<=1000000:=by
    rw[hDd];unfold iz;split
    .rename_i hpe;have:=Pe.1 (Ub hpe).1;rw[Wf];omega
    exact D' _
   refine fa ?_;refine qa (hdg _ (hT.hp hh) hh.below) ja.out rfl U' ?_;rintro e_ w22 ⟨G,gc,rfl,h4⟩;refine⟨_,rfl, ?_⟩;have hgc:D.length<=gc:=h4.me (i:=0) rfl;replace hh:=hh.join h4;clear h4;simp only[C',E'] at hh;refine fa ?_;replace hh:=hh.perm (P_ (l₁:=[_,_]));simp only[C',E'] at hh;replace hh:=hh.perm (P_ (l₁:=[_,_]));simp only[C',E'] at hh;refine⟨⟨G,D.length,gc,_,rfl,hgc,hl4,rfl,λH w1 h1=>jf (h1.own (.row G D.length gc 3 1 (jb D)) (W8 _ q')),hh⟩, ?_⟩;exact pY
  rw[L' hm0] at hDd;refine fa ?_;refine⟨⟨M,m,mc,[],rfl,hmc,hm,by rw[hDd];exact hdl,λH w1 h1=>by rw[hDd];exact hD.ext h1.below,hh⟩, ?_⟩;exact pY
 skip;clear hh hDd hdl hD hm hmc;rintro ρ' v w' ⟨M2,m2,mc2,R,rfl,hmc2,hm2,hDl,hrd,hh⟩;have hfi:=λw1 hT1 hb1 hd=>Qw p L n c b M2 m2 mc2 D k w1 hT1 (hp.ext hb1) lp (hB.ext hb1) hok hn hd hm2;by_cases hE:Ql p b D≠0
 .rw[J' hE];generalize Ql p b D=E at*;refine fa ?_;refine Oa hh (hfi _ (hT.hp hh) hh.below (hrd [_,_] _ hh)) rfl ?_;intro w26 hh;refine Jb ?_;intro ws hh;refine uu ?_;exact⟨FX.nil,Out.err hE,rfl,(hh.sub (R9 _)).DU⟩
 rw[L' hE];have hE0:Ql p b D=0:=Z';obtain⟨hnat,hF⟩:=BB hE0;rw[hE0] at hfi;have hpe:=hF.e;have hn0:=hF.pos;have hn12:=hF.kq;have hnl:=hF.nl;have hlow:=hF.low;have hmost:=hF.most;have hgr2:=hgr hE0;obtain⟨_,o2,o3⟩:=fj hpe;have hwi:=λw1 hT1 hb1=>VC p L n c b k (Ac p.v p.ts) w1 hT1 (hp.ext hb1) lp (hB.ext hb1) hb (by rw[hF.v,hbl]) Z' Z' hk (by rw[hF.Xl];exact hbl) (λi d hd=>⟨(o3 i d hd).1,(o3 i d hd).2.1⟩) hgr2;have hsp:=Fs hF lp.ok hb hk hgr2;clear hgr hgr2 o2 o3 hfi;have hfi:=λw1 hT1 hb1 hd=>Qw p L n c b M2 m2 mc2 D k w1 hT1 (hp.ext hb1) lp (hB.ext hb1) hok hn hd hm2;rw[hE0] at hfi;clear hE hE0;have hcnt:eh 1 D=((la (D.map Int.toNat):Nat):Int):=(by have h8:=Ri (D.map Int.toNat) 1 (j' _) U' hlow;rw[<-hnat,Y7,J' hmost] at h8;exact h8);have hco:=λw1 hd=>Re M2 m2 mc2 D w1 hd hm2;rw[hcnt] at hco;have hcl:=λw1 hd=>kj M2 m2 mc2 D w1 hd hm2;have hm2n:m2=n:=by rw[<-hDl,<-hbl,<-hnl,i']
 generalize hns:D.map Int.toNat=ns at*;generalize (vd p (db b)).1=E at*;generalize (vd p (db b)).2=S at*;have hN0:=Cc ns;refine fa ?_;refine Oa hh (hfi _ (hT.hp hh) hh.below (hrd [_,_] _ hh)) rfl ?_;intro w26 hh;refine fa ?_;refine qa (hwi _ (hT.hp hh) hh.below) ja.out rfl U' ?_;rintro e_ w34 ⟨q,oq,rfl,h4⟩;refine⟨_,rfl, ?_⟩;replace hh:=hh.join h4;clear h4;simp only[C',E'] at hh;replace hh:=show Hp w (.row q.A q.n q.c 72 4 (na TR.cells q.ts)::_) _ from hh;by_cases hE2:E≠0
 .refine Dm ?_;intro b9 w9 hh ws hh ws hh;refine Lk ?_;exact⟨FX.nil,Out.err hE2,rfl,(hh.sub (R9 _)).DU⟩
 have hE0:E=0:=Z';subst hE0;obtain⟨hso,hsr⟩:=hsp rfl;have et:q.ts=S:=oq.t0;rw[et] at hh;clear oq et;generalize q.v=qv at*;generalize q.A=qA at*;generalize q.n=qn at*;generalize q.c=qc at*;have hSl:S.length=qn:=(hh.ra (i:=0) rfl).Fa TR.len U';have hSn:=hso.len;obtain⟨_,_,hSm,hSc⟩:=Ub hso.e;refine Sb ?_;intro b9 w9 hh ws hh;refine qa (hcl _ (hrd [_,_,_,_] _ hh)) ja.out rfl U' ?_;rintro e_ w42 ⟨A42,c42,rfl,hown_,hb_⟩;refine⟨_,rfl, ?_⟩;replace hh:=hh.Aa (x:=.row _ _ _ _ _ _) hb_ hown_;refine mL ?_;refine Oa hh (hco _ (hrd [_,_,_,_,_] _ hh)) rfl ?_;intro w44 hh;refine Me (n:=(la ns)) hh rfl rfl Z' Z' lb.out ya.out rfl Z' Z' U' ?_;intro b45 w45 hh;refine Sb ?_;intro b11 w11 hh ws hh;rw[Rz,<-Ud ns,<-abz ns.reverse,Ud] at hh;refine Ba [13,14,15,16,50,51,52,53,54,55,56,57,58,59,60,61,62,63,64,65,66,67,68,69,70,71,72,73,74,75,76,77,78,79] 50 (λv w'=>∃i:Nat,i<=qn/\v=.int .i64 i/\Hp w (.blk b11 78 [.slice A42 m2 c42,.slice (some ⟨b45,0,none⟩) (la ns) (la ns)] (0,0)::.row (some ⟨b45,0,none⟩) (la ns) (la ns) 30 3 (na NR.cells ((X0 ns.reverse (Yu (S.take i))).map nR))::.row A42 m2 c42 3 1 (jb D)::.blk b9 24 [.int .i64 qv,.slice qA qn qc] (0,0)::.row qA qn qc 72 4 (na TR.cells S)::.blk b6 78 [.slice none 0 0,.slice none 0 0] (0,0)::.blk b3 24 [.int .i64 p.v,.slice p.A p.n p.c] (0,0)::R) w') (λv _=>qn-(intOf v).toNat) ?_ ?_
 .exact⟨0,D' _,rfl,hh⟩
 clear hh;rintro ρ2 v w2 ⟨i,hi,rfl,hh⟩;by_cases hlt:i<qn
 .obtain⟨x,hx⟩:=ea (l:=S) (k:=i) Z';have hxm:=G' hx;have hxo:=hsr x hxm;have hx2:=hSm x hxm;unfold pe at hx2;rw[Q_,K_] at hx2;have hxs:x.m.size=n:=Z';have hxz:=hso.sz x hxm;have hxc:x.c=nR x.c.ma:=hSc.nf x hxm;have hex:cj x.m.data.toList=Ua (Kc x.m):=by rw[il hx2.1,uo]
  have hesl:(Kc x.m).length=n:=by rw[Jk];exact hxs
  have hel:(cj x.m.data.toList).length=n:=by rw[hex,Ic];exact hesl
  have hset:=yW hsr hSc.Eu hx;have hX0l:((X0 ns.reverse (Yu (S.take i))).map nR).length=la ns:=by rw[i'];unfold X0;rw[mi,Ud]
  have hcell:na TR.cells S=na TR.cells S:=rfl;have hokat:∀(j d r:Nat),ns[j]?=some d->(Kc x.m)[j]?=some r->r<=d:=λj d r hd hr=>by
   have hj:=(X_.1 hd).1;refine((Vl _ _).1 hxo).2 (n-1-j) d r ?_ ?_
   .rw[k8 Z',show ns.length-1-(n-1-j)=j by omega];exact hd
   rw[k8 Z',show(Kc x.m).length-1-(n-1-j)=j by omega];exact hr
  obtain⟨gq,rfl⟩:=hh.Ob (i:=4) rfl Z';refine fa ?_;refine wb (vs:=[_,_,_,_]) ya.out rfl (hh.Gd (f:=TR.cells) (x:=x) (l:=S) (i:=4) rfl TR.len U' hx) rfl U' ?_;refine Sb ?_;intro b13 w13 hh ws hh;refine qa (Di x.m _ hxz) ja.out rfl U' ?_;rintro e_ w56 ⟨A56,c56,rfl,hown_,hb_⟩;refine⟨_,rfl, ?_⟩;replace hh:=hh.Aa (x:=.row _ _ _ _ _ _) hb_ hown_;rw[hel,hex] at hh;rw[hel];refine fa ?_;refine Ra [14,15,16,58,59,60,61,62,63,64,65,66,67,68,69,70,71,72] 14 58 (λa v w'=>∃(j z:Nat),j<=n/\v=.int .i64 j/\a=.int .i64 z/\z=Jd (ns.take j).reverse ((Kc x.m).take j).reverse/\z<la (ns.take j)/\Hp w (.row A56 n c56 3 1 (jb (Ua (Kc x.m)))::.blk b13 72 [.string x.m,.bool x.c.neg,.string x.c.Qa,.int .i64 x.c.e] (0,0)::.blk b11 78 [.slice A42 m2 c42,.slice (some ⟨b45,0,none⟩) (la ns) (la ns)] (0,0)::.row (some ⟨b45,0,none⟩) (la ns) (la ns) 30 3 (na NR.cells ((X0 ns.reverse (Yu (S.take i))).map nR))::.row A42 m2 c42 3 1 (jb D)::.blk b9 24 [.int .i64 qv,.slice (some ⟨gq,0,none⟩) qn qc] (0,0)::.row (some ⟨gq,0,none⟩) qn qc 72 4 (na TR.cells S)::.blk b6 78 [.slice none 0 0,.slice none 0 0] (0,0)::.blk b3 24 [.int .i64 p.v,.slice p.A p.n p.c] (0,0)::R) w') (λ_ v _=>n-(intOf v).toNat) ?_ ?_
  .exact⟨0,0,D' _,rfl,rfl,rfl,Nat.one_pos,hh⟩
  clear hh;rintro ρ3 a_ v w3 ⟨j,z,hj,rfl,rfl,hz,hz2,hh⟩;by_cases hjn:j<n
  .obtain⟨d,hd⟩:=ea (l:=ns) (k:=j) Z';obtain⟨r,hr⟩:=ea (l:=Kc x.m) (k:=j) Z';have hrd2:=hokat j d r hd hr;have hd7:=hlow d (G' hd);have hgD:(jb D)[j]?=some (.int .i64 (d:Int)):=by rw[hnat];exact Uc (He hd)
   have hgE:=Uc (He hr);have hst:=nT hd hr;have hcs:=TQ hd;rw[Ud,Ud] at hcs;rw[<-hz] at hst;have hct:=Gg ns (j+1);have hnew:r+(d+1)*z<(d+1)*la (ns.take j):=(by have:(d+1)*(z+1)<=(d+1)*la (ns.take j):=k_ _ hz2;rw[O8] at this;omega);have hpr:(z:Int)*((d:Int)+1)=(((d+1)*z:Nat):Int):=by rw[G_,m9,F8];rfl
   have hDs:=hrd [_,_,_,_,_,_,_,_,_] _ hh;obtain⟨ad,hMe,hsr2⟩:=hDs.at_ Z';have om:Value.slice M2 m2 mc2=.slice (some ad) m2 mc2:=by rw[hMe]
   have hel2:(jb (Ua (Kc x.m))).length=n:=by rw[Wb,Ic];exact hesl
   obtain⟨gx,rfl⟩:=hh.Ob (i:=0) rfl Z';refine fa ?_;refine Aj ?_;refine fa ?_;refine BL ?_;refine ub ya.out rfl (hsr2.aw hgD) U' ?_;refine fa ?_;rw[hpr];refine⟨⟨j+1,r+(d+1)*z,Z',rfl, ?_,hst.symm,Z',hh⟩,by show n-(j+1)<n-j;omega, ?_⟩
   .show Value.int IntKind.i64 ((((d+1)*z:Nat):Int)+(r:Int))=_;rw[show(((d+1)*z:Nat):Int)+(r:Int)=((r+(d+1)*z:Nat):Int) by omega]
   exact Rc
  obtain rfl:j=n:=Z';rw[W_ Z',W_ Z'] at hz;rw[W_ Z'] at hz2;rw[<-hz] at hset;generalize X0 ns.reverse (Yu (S.take i))=X at*;have hrl:=ve NR.len (X.map nR);refine fa ?_;refine QS ?_;intro ws hh;simp only[U_,F_] at hh;rw[hxc,show Hb (na NR.cells (X.map nR)) (z*3) [.bool (nR x.c.ma).neg,.string (nR x.c.ma).Qa,.int .i64 (nR x.c.ma).e]=na NR.cells ((X.map nR).set z (nR x.c.ma)) from de NR.len Z',<-Z8,hset] at hh;refine fa ?_;replace hh:=hh.sub (p' _ (p' _ (I' _ (I' _ (I' _ (I' _ (I' _ (I' _ (I' _ (A_ _))))))))));refine⟨⟨i+1,Z',rfl,hh⟩,by show qn-(i+1)<qn-i;omega, ?_⟩;exact Rc
 obtain rfl:i=qn:=Z';rw[W_ Z',show X0 ns.reverse (Yu S)=Mq ns.reverse (Yu S) 0 from rfl] at hh;have hoff:=LF hsr;have hXz:=dI (aal (ds:=ns.reverse) hso.ok) (λd hd=>hlow d (g8.1 hd));have hnr:ns.reverse.length=n:=by rw[c_];omega
 refine fa ?_;replace hh:=hh.sub (I' _ (I' _ (I' _ (p' _ (p' _ (I' _ (I' _ (A_ _))))))));refine Ba [17,82,83,84,85,86,87,88,89,90,91,92] 82 (λv w'=>∃(j:Nat)(A:Option Addr)(ac:Nat),j<=n/\v=.int .i64 j/\Hp w (.blk b11 78 [.slice A42 m2 c42,.slice A (la ns) ac] (0,0)::.row A (la ns) ac 30 3 (na NR.cells ((Mq ns.reverse (Yu S) j).map nR))::.row A42 m2 c42 3 1 (jb D)::.blk b6 78 [.slice none 0 0,.slice none 0 0] (0,0)::.blk b3 24 [.int .i64 p.v,.slice p.A p.n p.c] (0,0)::R) w') (λv _=>n-(intOf v).toNat) ?_ ?_
 .exact⟨0,_,_,D' _,rfl,hh⟩
 clear hh;rintro ρ4 v w4 ⟨j,A,ac,hj,rfl,hh⟩;by_cases hjn:j<n
 .obtain⟨d,hd⟩:=ea (l:=ns) (k:=j) Z';have hd7:=hlow d (G' hd);have hrm:=XY hd;have hol:(Mq ns.reverse (Yu S) j).length=la ns:=by rw[gG,Ud]
  have hof:=λw1 hs=>Wr M2 m2 mc2 j d ns w1 (by rw[<-hnat];exact hs) hmc2 Z' hd hlow hmost;have hcn:la ns=la ((ns.drop (j+1)).reverse++d::(ns.take j).reverse):=by rw[<-hrm,Ud]
  have hli:=λw1 hT1 hS1=>sE 169 (ns.drop (j+1)).reverse (ns.take j).reverse d (d+1) (np d (wg d 1 1)) A (la ns) ac (440000+S.length+520*j) (Mq ns.reverse (Yu S) j) w1 hT1 hS1 hcn hmost (j' _) hd7 (hXz j) (λY E ec w2 hT2 hy hs=>AD E (d+1) ec d Y _ w2 hT2 hs rfl hd7 hy Z') (λY _=>by simp[np]);have hM:=aa8 (M:=wg d 1 1) (A:=(ns.drop (j+1)).reverse) (B:=(ns.take j).reverse) (X:=Mq ns.reverse (Yu S) j) (hol.trans hcn);have hsu:=Jt ns.reverse (Yu S) j;have hgd:ns.reverse.getD (ns.reverse.length-1-j) 0=d:=(by rw[K9,k8 Z',show ns.length-1-(ns.reverse.length-1-j)=j by omega,hd];rfl);rw[hgd,show ns.reverse.length-1-j=(ns.drop (j+1)).reverse.length by rw[c_,c_,M9];omega] at hsu;rw[hol,<-hrm,<-hsu] at hM;rw[hM,Ud] at hli;clear hM hsu hgd hcn;refine fa ?_;refine Ca 5 [[(2,none)],[(17,none)],[(85,some 0),(86,some 1)],[(11,none)],[(88,some 3)]] [(4,89),(3,88),(2,87),(1,86),(0,85)] hh mixed T' ?_;refine De ?_;refine cd ?_;refine dC (λ_ hj=>hof _ (hrd [_,_,_,_,_] _ hj.hp)) ?_;refine yd ?_;refine xe 0 ?_;refine xa ?_;intro f W hJ hV;have hb_24:=hJ.bl;obtain⟨v89,v88,v87,v86,v85,_⟩:=hV;replace hh:=hJ.hp;refine Da (Na (aa v89 (aa v88 (aa v87 (aa v86 (aa v85 Ea)))))) ?_;dsimp only[Bb];clear hJ;refine qa (hli _ (hT.hp hh) (hh.ra (i:=1) rfl)) ja.out rfl U' ?_;rintro e_ w90 ⟨E,ec,rfl,h4⟩;refine⟨_,rfl, ?_⟩;replace hh:=hh.join h4;clear h4;simp only[C',E'] at hh;refine Jb ?_;intro ws hh;replace hh:=hh.sub (I' _ (I' _ (p' _ (I' _ (I' _ (I' _ (A_ _)))))))
  replace hh:=hh.perm (P_ (l₁:=[_]));simp only[C',E'] at hh;refine⟨⟨j+1,E,ec,Z',rfl,hh⟩,by show n-(j+1)<n-j;omega, ?_⟩;exact Rc
 obtain rfl:j=n:=Z';rw[hnl,hbl] at hoff;rw[hoff] at hh;refine Jb ?_;intro ws hh;refine vM ?_;exact⟨⟨A42,m2,c42,A,la ns,ac,D,(Uo ns S).map nR⟩,⟨hnat,rfl,by show m2<=100000;omega,by show la ns<=1000000;omega⟩,rfl,hh.sub (.cons _ (.cons_cons _ (.cons_cons _ (R9 _))))⟩
def ahr(rest:List Value)(base:Nat)(t:TypeId)(n sz:Nat)(cs:List Value):VP:=λv W=>∃A c,v=.agg (.slice A n c::rest).toArray/\W.ownsRow base t sz (.slice A n c) n cs
def RP(p:PX)(b:List SR):FX:=MP (Ac p.v p.ts) (Uo (Ac p.v p.ts) (vd p (db b)).2)
structure agj(D:List Nat)(X:List Dyadic):Prop where
 d12:D.length<=12
 d127:∀d∈D,d<=127
 CP:la D<=200
 lx:X.length=la D
 zx:∀x∈X,Sz 90000 x
def abR(p q:PX)(b:List SR):CV:=⟨b.map SR.f,maxD [RP p b,RP q b],Oi (maxD [RP p b,RP q b]) (RP p b),Oi (maxD [RP p b,RP q b]) (RP q b)⟩
def fS(p q:PX)(b:List SR):Int:=if pg p b []≠0 then pg p b [] else if pg q b []≠0 then pg q b [] else Mb [RP p b,RP q b]
def FX.is.agi{f:FX}{D:List Nat}{X:List Dyadic}(h:f.is D X)(ha:f.at_ w):f.key=(MP D X).key:=by
 unfold FX.key MP;rw[h.ds,h.cs,(h.key ha).1]
structure RV where
 k:Int
 s:SR
 at_:List NR
def RV0:RV:=⟨0,SR0,[]⟩
def RV.cells(R:RV)(A:Option Addr)(m c:Nat):List Value:=.int .i64 R.k::(SR.cells R.s++[.slice A m c])
def aeA(b:List SR)(k:Int):List NR:=b.mapIdx λi s=>cond (ade k i) s.f.hi s.f.lo
def Enc(eps:Dyadic)(p bu:Int):Nat->Nat->List CV->List SR->RV->Int->Int->Prop
 |_,_,[],_,R,k,e=>R=RV0/\k=0/\e=3
 |0,_,_::_,_,_,_,_=>False
 |f+1,n,c::st,l,R,k,e=>if bu<n then R=RV0/\k=0/\e=3 else c.ok/\
   if vT c.f c.g=0 then(WJ c.f c.g p).ok/\
    if st=[] then R=⟨1,G0 (l++[WJ c.f c.g p]),[]⟩/\k=n/\e=0 else Enc eps p bu f (n+1) st (l++[WJ c.f c.g p]) R k e
   else if adW c.g eps=0 then R=⟨2,SR0,aeA c.b (ad3 c.g eps)⟩/\k=n/\e=0
   else ∃(a:Nat)(s:SR),(∀v,Cm c.b v->v=(a:Int))/\c.b[a]?=some s/\a<c.D.length/\Enc eps p bu f (n+1) (c.half a s false::c.half a s true::st) l R k e
def ahs(p q:PX)(b:List SR)(eps:NR)(grid bu:Int)(f:Nat)(R:RV)(k e:Int):Prop:=
 if fS p q b≠0 then R=RV0/\k=0/\e=fS p q b else if eps.i.sign<=0 then R=RV0/\k=0/\e=1 else Enc eps.ma grid bu f 1 [abR p q b] [] R k e
def Ws(b:List SR)(h:Int):Option (List SR):=
 if h.fdiv 2<0 then none else(b[(h.fdiv 2).toNat]?).map λs=>(b.map SR.f).set (h.fdiv 2).toNat (s.f.half (nR s.f.qh) (decide (h % 2=1)))
def ag3(b:List SR)(hs:List Int):Option (List SR):=hs.foldl (λo h=>o.bind (Ws · h)) (some b)
def Sz.qh{x y:Dyadic}(hx:Sz k x)(hy:Sz k y):Sz (k+2) ((x+y)*Ie (-1)):=((hx.add hy).mul (show Sz 1 (Ie (-1)) from⟨1,by decide+kernel,U'⟩)).mono Z'
def cm.up{l:Nat}{a:NR}(h:cm k a)(hl:k<=l):cm l a:=⟨h.ok,h.sz.mono hl⟩
def FI{b b':List SR}{h:Int}(hb:∀s∈b,s.fin k)(hk:k+2<=3000000)(e:Ws b h=some b'):(∀s∈b',s.fin (k+2))/\b'.length=b.length:=by
 unfold Ws at e;split at e
 .cases e
 rcases hs:b[(h.fdiv 2).toNat]? with _|s
 .rw[hs] at e;cases e
 rw[hs] at e
 cases e
 refine⟨λt ht=> ?_,by rw[U9,i']⟩;have hf:=SR.Yo (hb s (G' hs)) Z';obtain ht|rfl:=J8 ht
 .obtain⟨u,hu,rfl⟩:=Z_.1 ht;have:=SR.Yo (hb u hu) Z';exact⟨this.1.up Z',this.2.up Z'⟩
 have hm:cm (k+2) (nR s.f.qh):=cm.of (Sz.qh hf.1.sz hf.2.sz) hk;unfold SR.half;split
 .exact⟨hm,hf.2.up Z'⟩
 exact⟨hf.1.up Z',hm⟩
def SR.at_(s:SR)(x:Dyadic):Dyadic:=s.lo.ma+x*s.wid
def wG(i:Nat)(s:SR)(p:Addr)(M:Option Addr)(m c:Nat)(w:World)(him:m<=i)(hp:w.cell? p=some (.slice M m c)):Calls prog 62 #[.int .i64 i,.agg s.cells.toArray,.pointer (some p)] w λr w'=>r=.returned (.agg #[.bool s.lo.neg,.string s.lo.Qa,.int .i64 s.lo.e])/\Below w.heap.size w w':=by
 have hh:=Hp.start w;refine da (N:=24) (l:=[.int .i64 i,.agg s.cells.toArray,.pointer (some p)]) func62 rfl rfl (by simp) ?_;refine Sb ?_;intro b4 w4 hh b5 w5 hh;refine dL ?_;exact lH
def Ty(i:Nat)(s:SR)(p:Addr)(M:Option Addr)(m c k:Nat)(t:List NR)(x:NR)(w:World)(hT:Sc w)(hs:s.fin k)(hx:x.ok/\Sz k x.ma)(hk:k<=1000000)(hm:m<=1000000)(hS:Sl w M m 3 (na NR.cells t))(hti:t[i]?=some x)(hp:w.cell? p=some (.slice M m c)):Calls prog 62 #[.int .i64 i,.agg s.cells.toArray,.pointer (some p)] w λr w'=>r=.returned (.agg #[.bool (nR (s.at_ x.ma)).neg,.string (nR (s.at_ x.ma)).Qa,.int .i64 (nR (s.at_ x.ma)).e])/\Below w.heap.size w w':=by
 have hh:=Hp.start w;have hlm:=hS.Fa NR.len U';have him:i<m:=by have:=(X_.1 hti).1;omega
 obtain⟨ad,rfl,hr⟩:=hS.at_ Z';have hw:=λw1 hT1=>uk s k w1 hT1 hs Z';have hmul:=λA cc w1 hT1 hS1=>Ee A 2 cc [x,nR s.wid] w1 hT1 hS1 (by simpa using⟨hx.1,(SR.szw hs).ok Z'⟩) (k+1) (by simpa[Za] using⟨hx.2.mono Z',SR.szw hs⟩) Z' Z';have hpr:Cf ([x,nR s.wid].map NR.ma)=x.ma*s.wid:=(by show 1*x.ma*(nR s.wid).ma=_;rw[Za,W7]);rw[hpr] at hmul;have hpz:Sz (2*k+1) (x.ma*s.wid):=(hx.2.mul (SR.szw hs)).mono Z';have hadd:=λA cc w1 hT1 hS1=>Kf A 2 cc [s.lo,nR (x.ma*s.wid)] w1 hT1 hS1 (by simpa using⟨hs.1.ok,hpz.ok Z'⟩) (2*k+1) (by simpa[Za] using⟨hs.1.sz.mono Z',hpz⟩) Z';have hsm:rm ([s.lo,nR (x.ma*s.wid)].map NR.ma)=s.at_ x.ma:=(by simp only[q_,G9,Za,Rh];rfl);rw[hsm] at hadd;refine da (N:=24) (l:=[.int .i64 i,.agg s.cells.toArray,.pointer (some p)]) func62 rfl rfl (by simp) ?_;refine Sb ?_;intro b4 w4 hh b5 w5 hh;refine dL ?_;refine fa ?_;refine Ca 10 [[(4,none)],[(12,some 0)],[(2,none)],[(0,none)],[(14,some 2),(15,some 3)],[(16,some 4)],[(4,none)],[(18,some 6)],[(17,some 5),(19,some 7)],[(20,some 8)]] [(9,21),(8,20),(7,19),(6,18),(5,17),(4,16),(3,15),(2,14),(1,13),(0,12)] hh mixed T' ?_;refine yd ?_;refine Vd 1 [_,_,_] ?_;refine oF ?_;refine cd ?_;refine Wa (i:=4) (λρ1 w1 hj hR=>Se lb.out ya.size (show ρ1 14=Value.slice _ _ _ from hR.1) (show ρ1 15=Value.int _ _ from hR.2.1) Z' Z') ?_;refine Dn [_,_,_] (λ_ hj=>(hr.ext hj.hp.below).recAt NR.len hti) ?_;refine Vd 1 [_,_,_,_,_,_] ?_;refine dC (λ_ hj=>hw _ (hT.hp hj.hp)) ?_;refine qq [_,_,_,_,_,_] ?_;refine Va (i:=9) (Is (.agg #[.bool (nR (x.ma*s.wid)).neg,.string (nR (x.ma*s.wid)).Qa,.int .i64 (nR (x.ma*s.wid)).e])) Is.ext ?_ ?_
 .intro ρ1 w1 hj hR;obtain⟨A20,c20,h20,s20⟩:=hR.1;exact Pb rfl (qb ja.out (Ga h20 Fb)) (hmul A20 c20 _ (hT.hp hj.hp) s20) (λ_ _ hq=>⟨_,hq.1,hq.2,rfl⟩)
 refine xa ?_;intro f W hJ hV;have hb_3:=hJ.bl;obtain⟨v21,v20,v19,v18,v17,v16,v15,v14,v13,v12,_⟩:=hV;obtain⟨A20,c20,e20,f20⟩:Rows _ _ _ (f 8) W:=v20;replace hh:=hJ.hp;refine Da (Na (aa v21 (aa e20 (aa v19 (aa v18 (aa v17 (aa v16 (aa v15 (aa v14 (aa v13 (aa v12 Ea))))))))))) ?_;dsimp only[Bb];clear e20 hJ;refine Rq ?_;intro b22 w22 hh;refine Oa hh (hadd _ _ _ (hT.hp hh) (hh.ra (i:=0) rfl)) rfl ?_;intro w23 hh;exact FP
def Xh(t:List NR)(i:Nat)(s:SR):NR:=match t[i]? with|none=>s.lo|some x=>nR (s.at_ x.ma)
def iD(L:Option Addr)(n c:Nat)(b:List SR)(M:Option Addr)(m c2:Nat)(t:List NR)(k:Nat)(w:World)(hT:Sc w)(hS:Sl w L n 6 (na SR.cells b))(hb:∀s∈b,s.fin k)(hS2:Sl w M m 3 (na NR.cells t))(ht:∀x∈t,x.ok/\Sz k x.ma)(hn:n<=1000000)(hm:m<=1000000)(hk:k<=1000000):Calls prog 18 #[.slice L n c,.slice M m c2] w λr w'=>∃A c',r=.returned (.slice A n c')/\w'.ownsRow w.heap.size 30 3 (.slice A n c') n (na NR.cells (b.mapIdx λi s=>Xh t i s.f))/\Below w.heap.size w w':=by
 have hh:=Hp.start w;have hlm:=hS2.Fa NR.len U';refine da (N:=8) (l:=[.slice L n c,.slice M m c2]) func18 rfl rfl (by simp) ?_;refine Jb ?_;intro b3 w3 hh;refine Pu ?_;have hp0:w3.cell? ⟨b3,0,none⟩=some (.slice M m c2):=hh.eg (i:=0) rfl rfl;have hcl:∀(i:Nat)(s:SR)(w1:World),i<n->b[i]?=some s->Below w3.heap.size w3 w1->Sc w1->Calls prog 62 #[.int .i64 i,.agg s.f.cells.toArray,.pointer (some ⟨b3,0,none⟩)] w1 λr w'=>r=.returned (.agg #[.bool (Xh t i s.f).neg,.string (Xh t i s.f).Qa,.int .i64 (Xh t i s.f).e])/\Below w1.heap.size w1 w':=λi s w1 hi hs hw1 hT1=>by
  have hp:=(hw1.cell (vv hp0)).trans hp0;unfold Xh;rcases hx:t[i]? with _|x
  .rw[J5] at hx;exact wG i s.f ⟨b3,0,none⟩ M m c2 w1 Z' hp
  exact Ty i s.f ⟨b3,0,none⟩ M m c2 k t x w1 hT1 (SR.Yo (hb s (G' hs)) Z') (ht x (G' hx)) hk hm ((hS2.ext hh.below).ext hw1) hx hp
 refine qa (mu L n c b 62 [.pointer (some ⟨b3,0,none⟩)] (λi s=>Xh t i s.f) _ (hT.hp hh) (hS.ext hh.below) (λs h=>⟨(hb s h).1.ok,(hb s h).2.ok⟩) hn hcl) ja.out rfl U' ?_;rintro e_ w7 ⟨A7,c7,rfl,hown_,hb_⟩;refine⟨_,rfl, ?_⟩;replace hh:=hh.Aa (x:=.row _ _ _ _ _ _) hb_ hown_;exact SB
end Go.Proofs.YtbencocchdpikaaGreatDoor
