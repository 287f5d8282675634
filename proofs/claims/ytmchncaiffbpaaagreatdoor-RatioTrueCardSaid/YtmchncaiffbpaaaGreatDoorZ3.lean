/- Lemmas for ratioTrue, part 3. -/
import Derived.Laws.Externs
import Derived.Lib.Mul64
import Derived.Test.YtmchncaiffbpaaaGreatDoorZ2
set_option maxHeartbeats 0
namespace Go.Proofs.YtmchncaiffbpaaaGreatDoor
variable {P:Program}{args:Array Operand}{k m n:Nat}{vs:List Value}{w w':World}
open Go.RowKit
section
variable {P:Program}{N:Nat}{ops:Array Oper}{Q:Kq}{ρ:Rf}{w:World}{rest:List Oper}{d:Nat}{ty:TypeId}{pos:String}{af:Array Edge}
theorem lV {f:FuncId}{ts:Array TypeId}{v:Value} (hc:(callFunc f vs.toArray).run P w=.ok (.value v) w) (ha:xI ρ args.toList=vs) (hN:d<N) (kk:WL .plain P N ops Q rest (cg ρ d v) w):
  WL .plain P N ops Q (⟨some d,.call ⟨.value (.func f),args,ts⟩,ty,pos,af,none⟩::rest) ρ w:=by
 have hr:(execOp (ev ρ) ⟨some d,.call ⟨.value (.func f),args,ts⟩,ty,pos,af,none⟩).run P w=.ok (.value v) w:=by
  have hx:ev ρ (.func f)=.func (.func f) #[] #[]:=rfl;simp only [execOp,resolve,Deferred.ofValue,hx,invoke,pM args ha];simpa using hc
 exact aM rfl rfl hN hr kk
end
theorem kZ (x y c:Nat) (hc:c≤1) (w:World):
  (callFunc 240 #[.int .u64 x,.int .u64 y,.int .u64 c]).run Tryz.prog w=
   .ok (.value (.tuple #[.int .u64 (((x+y+c) % 18446744073709551616:Nat):Int),.int .u64 (((x+y+c)/18446744073709551616:Nat):Int)])) w:=by
 rw [run_callFunc_extern Tryz.func240 abt abt abt (e:=add64Entry) abt,run_add64 x y c abq abq abq abq];simp only [Result.andThen];congr 5<;>omega
def MZ:Array Value→Sem Value:=fun args=>do
 let (x,y,b) ←Extern.MathBitsCarry.three "Sub64" args
 pure (Extern.MathBitsCarry.pair ((x+Extern.MathBitsCarry.m64-y-b) % Extern.MathBitsCarry.m64) (if x<y+b then 1 else 0))
theorem Gf (x y b:Nat) (hb:b≤1) (w:World):
  (MZ #[.int .u64 x,.int .u64 y,.int .u64 b]).run P w=
   .ok (.tuple #[.int .u64 (((x+18446744073709551616-y-b) % 18446744073709551616:Nat):Int),.int .u64 ((if x<y+b then 1 else 0:Nat):Int)]) w:=by
 have:b=0∨b=1:=abq
 rcases this with rfl|rfl<;>rfl
theorem zY (x y b:Nat) (hb:b≤1) (w:World):
  (callFunc 249 #[.int .u64 x,.int .u64 y,.int .u64 b]).run Tryz.prog w=
   .ok (.value (.tuple #[.int .u64 (((x+18446744073709551616-y-b) % 18446744073709551616:Nat):Int),.int .u64 ((if x<y+b then 1 else 0:Nat):Int)])) w:=by
 rw [run_callFunc_extern Tryz.func249 abt abt abt (e:=MZ) abt,Gf x y b hb]
 rfl
theorem uu (x y:Nat) (w:World) (hx:x<18446744073709551616) (hy:y<18446744073709551616):
  Calls Tryz.prog 239 #[.int .u64 (x:Int),.int .u64 (y:Int)] w fun e w'=>e=.returned (.tuple #[.int .u64 ((x*y/18446744073709551616:Nat):Int),.int .u64 ((x*y % 18446744073709551616:Nat):Int)])∧Below w.heap.size w w':=by
 refine ae (N:=51) (l:=[.int .u64 (x:Int),.int .u64 (y:Int)]) Tryz.func239 rfl rfl (by simp) ?_;refine aj ?_;refine Et ?_;refine aj ?_;refine uD ?_;refine aj ?_;refine Et ?_;refine aj ?_;refine uD ?_;refine aj ?_;refine gj rfl rfl abr ?_;refine aj ?_;refine gj rfl rfl abr ?_;refine mI ?_;refine uD ?_;refine fG rfl rfl abr ?_;refine aj ?_;refine Et ?_;refine aj ?_;refine uD ?_;refine aj ?_;refine gj rfl rfl abr ?_;refine fG rfl rfl abr ?_;refine aj ?_;refine gj rfl rfl abr ?_;refine mI ?_;refine fG rfl rfl abr ?_;refine mI ?_;refine uD ?_;refine fG rfl rfl abr ?_;refine aj ?_;refine gj rfl rfl abr ?_;refine aj ?_;obtain ⟨bd,bt,bw,hhi⟩:=Lib.mul64_hi x y hx hy;have ba:=Lib.half_mul_le (a:=x/4294967296) (b:=y/4294967296) abq abq;have bb:=Lib.half_mul_le (a:=x/4294967296) (b:=y % 4294967296) abq abq;have bc:=Lib.half_mul_le (a:=x % 4294967296) (b:=y/4294967296) abq abq;have em:∀z:Nat,z &&& 4294967295=z % 4294967296:=fun z=>Nat.and_two_pow_sub_one_eq_mod z 32;simp only [em];have hb:x*y/18446744073709551616<18446744073709551616:=by
  rw [acN abq];exact ae0 hx hy
 refine ⟨?_,Below.refl _ _⟩;congr 5;rw [aci bd,aci (show x/4294967296*(y % 4294967296)<18446744073709551616 by omega),aci bt,aci (show x % 4294967296*(y/4294967296)<18446744073709551616 by omega),aci bw,aci (show x/4294967296*(y/4294967296)<18446744073709551616 by omega)];have key:∀A T V:Nat,A+T+V<18446744073709551616→((A+T) % 18446744073709551616+V) % 18446744073709551616=A+T+V:=by intro A T V h;omega
 rw [←hhi] at hb ⊢;exact acm Nat.cast (key _ _ _ hb)
theorem jb {x:Nat} (hm:2^k=m) (h:m≤x):bf x=k+bf (x/m):=by
 subst hm;have h0:x/2^k≠0:=by
  have:=(Nat.div_pos_iff (a:=x) (b:=2^k)).2 ⟨ab7 abq,h⟩;omega
 have h1:=cw (x/2^k);have h2:=AM h0;have h3:=oS h0;have h4:=acO x (2^k);have h5:=ab4 x (ab7 (n:=k) (show 0<2 by omega));apply BK
 ·rw [ab5];have:2^k*(x/2^k+1)≤2^k*2^bf (x/2^k):=acd _ h1;rw [ac5] at this;omega
 ·have e:k+bf (x/2^k)-1=k+(bf (x/2^k)-1):=abq;rw [e,ab5];have:2^k*2^(bf (x/2^k)-1)≤2^k*(x/2^k):=acd _ h2;omega
theorem lX {T:ByteArray} (hT:T.data.toList=(List.range 256).map fun n=>UInt8.ofNat (bf n)) (h:n<256):∃c:UInt8,T.data.toList[n]?=some c∧c.toNat=bf n∧bf n≤8:=by
 have hb:bf n≤8:=cW abq;refine ⟨UInt8.ofNat (bf n), ?_, ?_,hb⟩
 ·rw [hT,abI,acy h];rfl
 ·rw [ae3];omega
theorem C4 (x:Nat) (w:World) (hx:x<18446744073709551616):
  Calls Tryz.prog 232 #[.int .u64 (x:Int)] w fun e w'=>e=.returned (.int .i64 (bf x))∧Below w.heap.size w w':=by
 refine ae (N:=25) (l:=[.int .u64 (x:Int)]) Tryz.func232 rfl rfl (by simp) ?_;by_cases h32:4294967296≤x
 ·have:=jb (x:=x) (k:=32) (m:=4294967296) rfl h32;refine sr (aI (aJ (bO (sr (mI ?_)))));refine sZ (aJ (cT (sr (mI ?_))));refine uD ?_;refine aI (aJ (bR (aI (aJ (bO (sr (mI ?_)))))));by_cases h16:65536≤(x/4294967296)
  ·have:=jb (x:=(x/4294967296)) (k:=16) (m:=65536) rfl h16;refine sZ (aJ (cT (sr (mI ?_))));refine mY (s:=16) (m:=65536) rfl rfl abr abr abr ?_;refine aI (aJ (bR (mI ?_)));refine nC (aI (aJ (bO (sr (mI ?_)))));by_cases h8:256≤((x/4294967296)/65536)
   ·have:=jb (x:=((x/4294967296)/65536)) (k:=8) (m:=256) rfl h8;refine sZ (aJ (cT (sr (mI ?_))));refine IY ?_;refine aI (aJ (bR (mI ?_)));refine nC (aI (aJ (sr (mI (mI ?_)))));refine mv ?_;obtain ⟨cc,hcc,hcv,hcb⟩:=lX (T:=_) abt (n:=(((x/4294967296)/65536)/256)) abq;exact DE
   ·refine HZ ?_;refine mv ?_;obtain ⟨cc,hcc,hcv,hcb⟩:=lX (T:=_) abt (n:=(((x/4294967296)/65536))) abq;exact DE
  ·refine sZ (aJ (cF (dA (eF (bO (sr (mI ?_)))))));by_cases h8:256≤((x/4294967296))
   ·have:=jb (x:=((x/4294967296))) (k:=8) (m:=256) rfl h8;refine sZ (aJ (cT (sr (mI ?_))));refine IY ?_;refine aI (aJ (bR (mI ?_)));refine nC (aI (aJ (sr (mI (mI ?_)))));refine mv ?_;obtain ⟨cc,hcc,hcv,hcb⟩:=lX (T:=_) abt (n:=(((x/4294967296))/256)) abq;exact DE
   ·refine HZ ?_;refine mv ?_;obtain ⟨cc,hcc,hcv,hcb⟩:=lX (T:=_) abt (n:=(((x/4294967296)))) abq;exact DE
 ·refine sr (aI (aJ (bO (sr (mI ?_)))));refine sZ (aJ (cF (dA (eF (bO (sr (mI ?_)))))));by_cases h16:65536≤(x)
  ·have:=jb (x:=(x)) (k:=16) (m:=65536) rfl h16;refine sZ (aJ (cT (sr (mI ?_))));refine mY (s:=16) (m:=65536) rfl rfl abr abr abr ?_;refine aI (aJ (bR (mI ?_)));refine nC (aI (aJ (bO (sr (mI ?_)))));by_cases h8:256≤((x)/65536)
   ·have:=jb (x:=((x)/65536)) (k:=8) (m:=256) rfl h8;refine sZ (aJ (cT (sr (mI ?_))));refine IY ?_;refine aI (aJ (bR (mI ?_)));refine nC (aI (aJ (sr (mI (mI ?_)))));refine mv ?_;obtain ⟨cc,hcc,hcv,hcb⟩:=lX (T:=_) abt (n:=(((x)/65536)/256)) abq;exact DE
   ·refine HZ ?_;refine mv ?_;obtain ⟨cc,hcc,hcv,hcb⟩:=lX (T:=_) abt (n:=(((x)/65536))) abq;exact DE
  ·refine sZ (aJ (cF (dA (eF (bO (sr (mI ?_)))))));by_cases h8:256≤((x))
   ·have:=jb (x:=((x))) (k:=8) (m:=256) rfl h8;refine sZ (aJ (cT (sr (mI ?_))));refine IY ?_;refine aI (aJ (bR (mI ?_)));refine nC (aI (aJ (sr (mI (mI ?_)))));refine mv ?_;obtain ⟨cc,hcc,hcv,hcb⟩:=lX (T:=_) abt (n:=(((x))/256)) abq;exact DE
   ·refine HZ ?_;refine mv ?_;obtain ⟨cc,hcc,hcv,hcb⟩:=lX (T:=_) abt (n:=(((x)))) abq;exact DE
theorem q9 (x:Nat) (w:World) (hx:x<18446744073709551616):
  Calls Tryz.prog 210 #[.int .u64 (x:Int)] w fun e w'=>e=.returned (.int .i64 (64-(bf x:Int)))∧Below w.heap.size w w':=by
 have hh:=Hp.start w;have hb:bf x≤64:=cW (by simpa using hx);refine ae (N:=6) (l:=[.int .u64 (x:Int)]) Tryz.func210 rfl rfl (by simp) ?_;refine aj ?_;refine aZ hh (C4 _ _ hx) rfl ?_;intro w4 hh;refine aj ?_;exact ⟨rfl,hh.below⟩
def tz (n:Nat):Nat:=Int.trailingZeros (n:Int)
theorem Ja (k m:Nat):tz (2^k*(2*m+1))=k:=by
 have h:=Int.trailingZeros_shiftLeft (x:=2*(m:Int)+1) abq k;rw [Int.trailingZeros_two_mul_add_one,Int.shiftLeft_eq] at h;unfold tz;have e:((2^k*(2*m+1):Nat):Int)=(2*(m:Int)+1)*2^k:=by
  rw [acK,aeD,Int.mul_comm];rfl
 rw [e];have e2:(((2^k:Nat)):Int)=2^k:=by simp
 rw [←e2] at h ⊢;simpa using h
theorem vv (h:n≠0):∃m,n=2^tz n*(2*m+1):=by
 have:∀b n:Nat,n≤b→n≠0→∃k m,n=2^k*(2*m+1):=by
  intro b
  induction b with
  |zero=>intro n h1 h2;omega
  |succ b ih=>
   intro n h1 h2
   rcases Nat.mod_two_eq_zero_or_one n with h|h
   ·obtain ⟨k,m,hk⟩:=ih (n/2) abq abq;exact ⟨k+1,m,by rw [acr,abU (2^k),acE,←hk];omega⟩
   ·exact ⟨0,n/2,abq⟩
 obtain ⟨k,m,hk⟩:=this n n (abD _) h;exact ⟨m,by rw [hk,Ja]⟩
theorem zg (h:n≠0) (hn:n<2^k):tz n<k:=by
 obtain ⟨m,hm⟩:=vv h
 rcases acj (tz n) k with h1|h1
 ·exact h1
 ·have h2:2^k≤2^tz n:=ach abq h1;have h3:2^tz n*1≤2^tz n*(2*m+1):=acd _ abq;omega
theorem EG (m m' j:Nat) (h:m+m'+1=2^j):(2*m+1) &&& (2*m'+1)=1:=by
 apply Nat.eq_of_testBit_eq;intro i;rw [Nat.testBit_and]
 cases i with
 |zero=>simp
 |succ i=>
  rw [Nat.testBit_succ,Nat.testBit_succ,Nat.testBit_succ];have e1:(2*m+1)/2=m:=abq;have e2:(2*m'+1)/2=m':=abq;have e3:m'=2^j-(m+1):=abq;rw [e1,e2,e3,Nat.testBit_two_pow_sub_succ abq]
  cases hi:m.testBit i<;>simp
theorem SN {x:Nat} (hx:x=2^k*(2*m+1)) (hlt:x<18446744073709551616):x &&& (18446744073709551616-x) % 18446744073709551616=2^k:=by
 have hW:(18446744073709551616:Nat)=2^64:=by decide
 have hk:k<64:=by
  have:=zg (n:=x) (k:=64) (by rw [hx];exact Nat.mul_ne_zero (Nat.pos_iff_ne_zero.1 (ab7 abq)) abq) (by rw [←hW];exact hlt);rwa [hx,Ja] at this
 have hp:(18446744073709551616:Nat)=2^k*(2*2^(63-k)):=by rw [hW,←Nat.pow_succ',←ab5];congr 1;omega
 have hm:m<2^(63-k):=by
  rw [hx,hp] at hlt;have:=Nat.lt_of_mul_lt_mul_left hlt;omega
 have e:(18446744073709551616-x) % 18446744073709551616=2^k*(2*(2^(63-k)-(m+1))+1):=by
  have h1:2*(2^(63-k)-(m+1))+1=2*2^(63-k)-(2*m+1):=abq;rw [h1,Nat.mul_sub,←hp,←hx,aci];have:0<2^k*(2*m+1):=Nat.mul_pos (ab7 abq) abq;omega
 rw [e,hx];have h2:=EG m (2^(63-k)-(m+1)) (63-k) abq;have h3:=acm (· <<<k) h2;rw [Nat.shiftLeft_and_distrib] at h3;simp only [Nat.shiftLeft_eq,adZ] at h3;rw [abU (2^k),abU (2^k)];exact h3
def FJ:List Nat:=[0,1,56,2,57,49,28,3,61,58,42,50,38,29,17,4,62,47,59,36,45,43,51,22,53,39,33,30,24,18,12,5,63,55,48,27,60,41,37,16,46,35,44,21,52,32,23,11,54,26,40,15,34,20,31,10,25,14,19,9,13,8,7,6]
def dq (w:World):Prop:=Rd w ⟨0,0,none⟩ (ie FJ)
theorem dq.ext (h:dq w) (hb:Below w.heap.size w w'):dq w':=Rd.ext h hb
theorem dq.hp {H:List HE} (h:dq w) (hh:Hp w H w'):dq w':=Rd.ext h hh.below
theorem U0:∀k:Fin 64,FJ[2^k.val*285870213051353865 % 18446744073709551616/288230376151711744]?=some k.val∧2^k.val*285870213051353865 % 18446744073709551616/288230376151711744<64:=by decide+kernel
theorem G3 (x:Nat) (w:World) (hx:x<18446744073709551616) (h0:x≠0) (hT:dq w):
  Calls Tryz.prog 178 #[.int .u64 (x:Int)] w fun e w'=>e=.returned (.int .i64 (tz x))∧Below w.heap.size w w':=by
 have hh:=Hp.start w;obtain ⟨m,hm⟩:=vv h0;have hk:tz x<64:=zg h0 (by simpa using hx);have ha:=SN hm hx;obtain ⟨t1,t2⟩:=U0 ⟨tz x,hk⟩;simp only at t1 t2;have hc:=(show Rd w _ _ from hT).vc (qL t1);refine ae (N:=14) (l:=[.int .u64 (x:Int)]) Tryz.func178 rfl rfl (by simp) ?_;refine aj ?_;refine Pt rfl (by first|assumption|omega) abr ?_;refine Gk rfl rfl hx (ab4 _ abr) abr ?_;rw [ha];skip;refine gj (b:=285870213051353865) rfl rfl abr ?_;refine mY (s:=58) (m:=288230376151711744) rfl rfl abr abr abr ?_;refine GA bq.out az.size rfl rfl rfl abq abr ?_;refine bG az.out rfl (hc) abr ?_;refine aj ?_;exact ⟨rfl,hh.below⟩
variable {C N b c' cy j ny:Nat}{ad:Addr}{w0:World}
theorem fL (A:Option Addr) (n c:Nat) (xs:List Nat) (w:World) (hx:Sl w A n 1 (cm xs)) (hc:n≤c) (hn:n≤1000000000000):
  Calls Tryz.prog 213 #[.slice A n c] w fun e w'=>e=.returned (.slice A (dR xs).length c)∧Below w.heap.size w w':=by
 have hlen:xs.length=n:=by have:=hx.1;rw [aV] at this;omega
 have hh:=Hp.start w;refine ae (N:=21) (l:=[.slice A n c]) Tryz.func213 rfl rfl (by simp) ?_;refine aj ?_;refine aH [0,3,4,5,6,7,8,9,10,11,12,13,14,15,16,17,18,19] 0
  (fun v w'=>∃k:Nat,k≤n∧v=.slice A k c∧dR (xs.take k)=dR xs∧w'=w)
  (fun v _=>lenOf v) ?_ ?_
 ·exact ⟨n,abD _,rfl,by rw [abG abq],rfl⟩
 ·rintro ρ' v w' ⟨k,hk,rfl,hcut,rfl⟩;by_cases h0:k=0
  ·subst h0;refine aj ?_;rw [←hcut];exact ⟨rfl,hh.below⟩
  ·obtain ⟨j,rfl⟩:∃j,k=j+1:=⟨k-1,abq⟩;obtain ⟨d,hd⟩:=ai (l:=xs) (k:=j) abq;obtain ⟨ad,rfl,hr⟩:=hx.at_ abq;have hd2:=dZ hd;rw [al hd] at hcut;by_cases hz:d=0
   ·subst hz;rw [vY] at hcut;refine bO (sr (mL (te ?_)));refine B8 (mB (gT (mL (gT (mL (gT (te (gT ?_))))))));refine qy (gT ?_);refine Jg ?_;refine gT ?_;refine o9 ?_;refine aj ?_;refine oG (h:=j) bq.out az.size rfl rfl abq abq abr ?_;refine aj ?_;refine ⟨⟨j,abq,rfl,hcut,rfl⟩,by show j<j+1;omega, ?_⟩;exact dI
   ·rw [zV hz] at hcut;refine bO (sr (mL (te ?_)));refine B8 (mB (gT (mL (gT (mL (gT (te (gT ?_))))))));refine qy (gT ?_);refine Jg ?_;refine gT ?_;refine o9 ?_;exact S5
theorem gQ {B:Nat}{l:List Nat}{i c:Nat} (h:l[i]?=some c):aU B (l.take (i+1))=aU B (l.take i)+B^i*c:=by
 have hi:=(abM.1 h).1;rw [al h,cI,abP,acQ abq];simp [aU]
theorem Hp.HV {H:List HE}{A:Option Addr}{c:Nat}{t:TypeId}{xs:List Nat} (h:Hp w0 (.row A n c t 1 (cm xs)::H) w) (hl:xs.length=n):Hp w0 (.row A (dR xs).length c t 1 (cm (dR xs))::H) w:=by
 have h1:=eJ xs;have h2:=h.BL (k:=(dR xs).length) abq;rw [abZ,←zZ,←kS] at h2;exact h2
theorem Lg (a:ByteArray) (w:World) (ha:a.size≤100000000000):
  Calls Tryz.prog 177 #[.string a] w fun e w'=>∃b c,e=.returned (.slice (some ⟨b,0,none⟩) (aK 18446744073709551616 (bn a.data.toList)).length c)∧w'.ownsRow w.heap.size 160 1 (.slice (some ⟨b,0,none⟩) (aK 18446744073709551616 (bn a.data.toList)).length c) (aK 18446744073709551616 (bn a.data.toList)).length (cm (aK 18446744073709551616 (bn a.data.toList)))∧Below w.heap.size w w':=by
 have hsz:=dY a;have hh:=Hp.start w;refine ae (N:=39) (l:=[.string a]) Tryz.func177 rfl rfl (by simp) ?_;refine aj ?_;refine fy (n:=(a.size+7)/8) hh rfl rfl abq abq bq.out az.out rfl abq abq abr ?_;intro b10 w10 hh;refine aj ?_;rw [lH] at hh;refine aH [4,5,13,14,15,16,17,18,19,20,21,22,23,24,25,26,27,28,29,30,31,32,33,34,35,36] 13
  (fun v w'=>∃i:Nat,i≤a.size∧v=.int .i64 i∧Hp w [.row (some ⟨b10,0,none⟩) ((a.size+7)/8) ((a.size+7)/8) 160 1 (cm (bH 18446744073709551616 ((a.size+7)/8) (aU 256 ((Cz a.data.toList).take i))))] w')
  (fun v _=>a.size-(intOf v).toNat) ?_ ?_
 ·exact ⟨0,abB _,rfl,by rw [adh,aU,tf];exact hh⟩
 ·clear hh;rintro ρ' v w' ⟨i,hi,rfl,hh⟩;by_cases hlt:i<a.size
  ·obtain ⟨c,hc⟩:=ai (l:=a.data.toList) (k:=((a.size:Int)-1-i).toNat) abq;have hlo:=Mx (s:=a.data.toList) (i:=i) (c:=c) abq (by rw [←hc];congr 1;omega);have hc8:=c.toNat_lt;have hn:=gi ((Ch a.data.toList).take i);rw [abP,qz,acQ abq] at hn;obtain ⟨s1,s2,s3⟩:=Rx (k:=(a.size+7)/8) (aU 256 ((Cz a.data.toList).take i)) hn hc8 abq;have hg:=dZ (jJ (B:=18446744073709551616) ((a.size+7)/8) (aU 256 ((Cz a.data.toList).take i)) (i/8) abq);have e1:((i:Int) % 8*8).toNat=i % 8*8:=abq;refine aj ?_;refine aC 13 [[(3,none)],[(4,none)],[(22,some 1)],[(21,some 0),(23,some 2)],[(24,some 3)],[(0,none)],[(5,none)],[(26,some 5),(27,some 6)],[(28,some 7)],[(4,none)],[(30,some 9)],[(31,some 10)],[(29,some 8),(32,some 11)]] [(12,33),(11,32),(10,31),(9,30),(8,29),(7,28),(6,27),(5,26),(4,25),(3,24),(2,23),(1,22),(0,21)] hh mixed abt ?_;refine fO ?_;refine dp ?_;refine a8 (i:=2) (fun ρ1 w1 hj hR=>xe (show ρ1 22=Value.int _ _ from hR.1) rfl abq abq abq) ?_;refine CN (i/8) ?_
   refine a8 (i:=4) (fun ρ1 w1 hj hR=>iF az.out (show ρ1 24=Value.pointer _ from hR.1) (hj.hp.ff (i:=0) rfl (by first|assumption|(simp only [abZ];assumption)))) ?_;refine dmS ?_;refine dp ?_;refine a8 (i:=7) (fun ρ1 w1 hj hR=>uL bq.out (show ρ1 26=Value.string _ from hR.1) (show ρ1 27=Value.int _ _ from hR.2.1) abq (by assumption)) ?_;refine a8 (i:=8) (fun ρ1 w1 hj hR=>xx bq.out bq.out (show ρ1 28=Value.int _ _ from hR.1) (by first|assumption|omega)) ?_;refine dp ?_;refine a8 (i:=10) (fun ρ1 w1 hj hR=>qY (show ρ1 30=Value.int _ _ from hR.1) rfl abq abq) ?_;refine WO ?_;refine a8 (i:=12) (fun ρ1 w1 hj hR=>wi (show ρ1 29=Value.int _ _ from hR.1) (show ρ1 32=Value.int _ _ from hR.2.1) abq) ?_;refine av ?_;intro f W hJ hV;have hb_6:=hJ.bl;obtain ⟨v33,v32,v31,v30,v29,v28,v27,v26,v25,v24,v23,v22,v21,_⟩:=hV;replace hh:=hJ.hp;refine ay (aQ (aa v33 (aa v32 (aa v31 (aa v30 (aa v29 (aa v28 (aa v27 (aa v26 (aa v25 (aa v24 (aa v23 (aa v22 (aa v21 aw)))))))))))))) ?_;dsimp only [bA];clear hJ;refine Ec ?_;refine dF (k:=i/8) bq.out az.size rfl rfl abq abq abr ?_;refine LQ ?_;intro ws hh;simp only [abK] at hh
   rw [e1,aci s2,Gn s1,cu (by rw [aV,aN];omega),abZ,gP,s3,←gQ hlo] at hh;refine aj ?_;refine ⟨⟨i+1,abq,rfl,hh⟩,by show a.size-(i+1)<a.size-i;omega, ?_⟩;exact dI
  ·refine aj ?_;rw [abG (by rw [qz];omega)] at hh;refine aZ hh (fL _ _ _ (bH 18446744073709551616 ((a.size+7)/8) (bn a.data.toList)) _ (hh.ao (i:=0) rfl) (abD _) abq) rfl ?_;intro w38 hh;refine aj ?_;have hbd:bn a.data.toList<18446744073709551616^((a.size+7)/8):=by
    refine acu (SS _) ?_;rw [←hsz,show (256:Nat)=2^8 from rfl,show (18446744073709551616:Nat)=2^64 from rfl,←acv,←acv];exact ach abq abq
   have hd:dR (bH 18446744073709551616 ((a.size+7)/8) (bn a.data.toList))=aK 18446744073709551616 (bn a.data.toList):=by
    exact OL
   have h1:=(Hp.HV (xs:=bH 18446744073709551616 ((a.size+7)/8) (bn a.data.toList)) hh (aN _ _)).at_ (i:=0) rfl;exact Sr
theorem Sl.P5 {A:Option Addr}{xs:List Nat} (h:Sl w A n 1 (cm xs)) (hk:k≤n):Sl w A k 1 (cm (xs.take k)):=by
 have hl:=h.1;rw [aV] at hl;refine ⟨by rw [aV,abP];omega,fun h0=> ?_⟩;obtain ⟨ad,he,hr⟩:=h.2 abq;exact ⟨ad,he,by rw [zZ];exact hr.take k⟩
theorem Sl.qM {A:Option Addr}{xs:List Nat} (h:Sl w A n 1 (cm xs)):Sl w A (dR xs).length 1 (cm (dR xs)):=by
 have hl:=h.1;rw [aV] at hl;have:=eJ xs;have h2:=h.P5 (k:=(dR xs).length) abq;rwa [←kS] at h2
theorem F9 {xs:List Nat} (h:Dg 18446744073709551616 xs):bf (aU 18446744073709551616 xs)≤64*xs.length:=by
 apply cW;rw [acv];exact gi h
theorem xb (A:Option Addr) (n c:Nat) (xs:List Nat) (w:World) (hx:Sl w A n 1 (cm xs)) (hd:Dg 18446744073709551616 xs) (hc:n≤c) (hn:n≤100000000000):
  Calls Tryz.prog 208 #[.slice A n c] w fun e w'=>e=.returned (.int .i64 (bf (aU 18446744073709551616 xs)))∧Below w.heap.size w w':=by
 have hl:=hx.1;rw [aV] at hl;have hcl:=eJ xs;have hcx:=hx.qM;have hcd:=hd.cut;have hlast:=AA xs;rw [←jK];generalize hcs:dR xs=cs at*;have hh:=Hp.start w;refine ae (N:=19) (l:=[.slice A n c]) Tryz.func208 rfl rfl (by simp) ?_;refine aj ?_;refine aZ hh (fL _ _ _ xs _ hx hc abq) rfl ?_;intro w4 hh;rw [hcs];by_cases h0:cs.length=0
 ·refine aj ?_;have:cs=[]:=adB h0;subst this;exact ⟨by rw [aU,mJ];rfl,hh.below⟩
 ·obtain ⟨ad,rfl,hr⟩:=hcx.at_ abq;obtain ⟨d,hd⟩:=ai (l:=cs) (k:=cs.length-1) abq;have hd2:=dZ hd;have hd3:=hcd.at_ hd;have e1:cs.take (cs.length-1)++[d]=cs:=by rw [←al hd,abG abq]
  have hnz:d≠0:=by
   intro h;subst h;apply hlast;rw [List.getLast?_eq_getElem?];exact hd
  have hb:=EC (B:=18446744073709551616) (b:=64) (m:=cs.length-1) abr (hcd.take (cs.length-1)) (by rw [abP];omega) hnz;rw [e1] at hb;have hb2:bf d≤64:=cW (by simpa using hd3);refine aL (aJ (bO (sr (mL (te ?_)))));refine SJ (aJ (cF (dA (eF (sr (mL (te ?_)))))));refine mulC (mL (mL (te ?_)));refine qy ?_;refine du (k:=cs.length-1) bq.out az.size rfl rfl abq abq abr ?_;refine o9 ?_;refine aZ hh (q9 _ _ hd3) rfl ?_;intro w17 hh;refine aj ?_;refine ⟨?_,hh.below⟩;congr 2;omega
theorem FO (N:Nat):(aK 256 N).length=(bf N+7)/8:=by
 have h256:(256:Nat)=2^8:=rfl;have h1:(aK 256 N).length≤(bf N+7)/8:=by
  apply fQ abq;refine acu (cw N) ?_;rw [h256,←acv];exact ach abq abq
 have h2:=m0 (B:=256) abq N;have h3:bf N≤8*(aK 256 N).length:=by
  apply cW;rw [acv];exact h2
 omega
theorem mM {B:Nat} (i N:Nat):bH B (i+1) N=bH B i N++[N/B^i % B]:=by
 apply acp;intro j
 rcases Nat.lt_trichotomy j i with h|h|h
 ·rw [jJ _ _ _ abq,adE (by rw [aN];exact h),jJ _ _ _ h]
 ·subst h;rw [jJ _ _ _ abq,acP (by rw [aN];omega),aN];simp
 ·rw [abT (by rw [aN];omega),abT (by rw [abJ,aN];simp;omega)]
theorem JN {R:List Nat}{x:Nat}:(List.replicate (k+1) 0++R).set k x=List.replicate k 0++(x::R):=by
 rw [List.replicate_succ',acb,adS _ _ (by simp)];simp
theorem fj (A:Option Addr) (n c:Nat) (xs:List Nat) (w:World) (hx:Sl w A n 1 (cm xs)) (hd:Dg 18446744073709551616 xs) (hc:n≤c) (hn:n≤10000000000):
  Calls Tryz.prog 179 #[.slice A n c] w fun e w'=>e=.returned (.string (str (sb (aU 18446744073709551616 xs))))∧Below w.heap.size w w':=by
 have hl:=hx.1;rw [aV] at hl;have hcl:=eJ xs;have hcx:=hx.qM;have hcd:=hd.cut;have hbl:=F9 hcd;have hcan:=jn abq hd;have hlen:=FO (aU 18446744073709551616 xs);rw [jK] at hbl;have hh:=Hp.start w;refine ae (N:=37) (l:=[.slice A n c]) Tryz.func179 rfl rfl (by simp) ?_;refine aj ?_;refine aZ hh (fL _ _ _ xs _ hx hc abq) rfl ?_;intro w7 hh;rw [hcan] at hcl hcx hcd hbl;rw [hcan];refine aj ?_;refine aZ hh (xb _ _ _ (aK 18446744073709551616 (aU 18446744073709551616 xs)) _ (hcx.ext hh.below) hcd abq abq) rfl ?_;intro w9 hh;rw [eM abq];generalize aU 18446744073709551616 xs=M at*;refine aj ?_;refine fy (n:=(bf M+7)/8) hh rfl rfl abq abq bq.out az.out rfl abq abq abr ?_;intro b13 w13 hh;refine aj ?_;rw [rV] at hh;refine aH [5,15,16,17,18,19,20,21,22,23,24,25,26,27,28,29,30,31,32,33,34] 15
  (fun v w'=>∃i:Nat,i≤(bf M+7)/8∧v=.int .i64 i∧Hp w [.row (some ⟨b13,0,none⟩) ((bf M+7)/8) ((bf M+7)/8) 5 1 (ie (List.replicate ((bf M+7)/8-i) 0++(bH 256 i M).reverse))] w')
  (fun v _=>(bf M+7)/8-(intOf v).toNat) ?_ ?_
 ·exact ⟨0,abB _,rfl,by simpa [bH] using hh⟩
 ·clear hh;rintro ρ' v w' ⟨i,hi,rfl,hh⟩;by_cases hlt:i<(bf M+7)/8
  ·obtain ⟨ad,rfl,hr⟩:=hcx.at_ abq;have hg:=we (B:=18446744073709551616) (n:=M) (i:=i/8) abq abq;have hg2:=dZ hg;have e1:((i:Int) % 8*8).toNat=i % 8*8:=abq;refine sr ?_;refine nP (aJ (bO (cT (dA (eF (bO (lk (sr (mI (aI (aJ (bR (mL (mI ?_))))))))))))));refine qy (mI ?_);refine qy (mL (mI ?_));refine Gs rfl rfl abq abq abq abr ?_;refine du (k:=i/8) bq.out az.size rfl rfl abq abq abr ?_;refine o9 ?_;refine aj ?_;refine wB rfl rfl abq abr ?_;refine Qj bq.out bq.out rfl abr ?_;refine dF (k:=(bf M+7)/8-1-i) bq.out az.size rfl rfl abq abq abr ?_;refine bM hh (i:=0) (vs:=[_]) rfl rfl (cH rfl) rfl az.out rfl (by rw [cO,abJ,abY,acL,aN];omega) rfl ?_;intro ws hh;simp only [abK] at hh;obtain ⟨k,hk⟩:∃k,(bf M+7)/8-i=k+1:=⟨(bf M+7)/8-i-1,abq⟩;rw [e1,KU,abZ,cu (by rw [cO,abJ,abY,acL,aN];omega),rP,hk,show (bf M+7)/8-1-i=k by omega,JN,←List.reverse_concat,←mM] at hh;refine aj ?_
   refine ⟨⟨i+1,abq,rfl,by rw [show (bf M+7)/8-(i+1)=k by omega];exact hh⟩,by show (bf M+7)/8-(i+1)<(bf M+7)/8-i;omega, ?_⟩;exact dI
  ·obtain rfl:i=(bf M+7)/8:=abq;have hfin:ie (List.replicate ((bf M+7)/8-(bf M+7)/8) 0++(bH 256 ((bf M+7)/8) M).reverse)=n5 (sb M):=by
    rw [acs,ae2,abC,←hlen];exact XA
   rw [hfin] at hh;exact XM
theorem mf (A:Option Addr) (n c m:Nat) (xs:List Nat) (w:World) (hx:Sl w A n 1 (cm xs)) (hn:n≤10000000000) (hm:m≤10000000000):
  Calls Tryz.prog 211 #[.slice A n c,.int .i64 m] w fun e w'=>∃b,e=.returned (.slice (some ⟨b,0,none⟩) (max m n) (max m n))∧w'.ownsRow w.heap.size 160 1 (.slice (some ⟨b,0,none⟩) (max m n) (max m n)) (max m n) (cm (xs++List.replicate (max m n-n) 0))∧Below w.heap.size w w':=by
 have hl:=hx.1;rw [aV] at hl;have hh:=Hp.start w;refine ae (N:=15) (l:=[.slice A n c,.int .i64 m]) Tryz.func211 rfl rfl (by simp) ?_;refine aj ?_;refine fy (n:=max m n) hh rfl rfl abq abq bq.out az.out rfl abq abq abr ?_;intro b10 w10 hh;refine aj ?_;rw [lH] at hh;refine JF hh (i:=0) (o:=0) rfl rfl rfl (hx.ext hh.below) bq.out az.out (by rw [aV,acL];omega) (cn _) abr ?_;intro w13 hh;skip;have e1:bK (cm (List.replicate (max m n) 0)) 0 ((cm xs).take (min n (max m n)*1))=cm (xs++List.replicate (max m n-n) 0):=by
  rw [abG (by rw [aV];omega),bK,adh,abC,aV,←yZ,←DW,List.drop_replicate];congr 3;omega
 simp only [abK,e1] at hh;refine aj ?_;exact ⟨_,rfl,hh.at_ (i:=0) rfl,hh.below⟩
theorem qU (A B:Option Addr) (n c m c':Nat) (xs ys:List Nat) (w:World) (hx:Sl w A n 1 (cm xs)) (hy:Sl w B m 1 (cm ys)) (hdx:Dg 18446744073709551616 xs) (hdy:Dg 18446744073709551616 ys) (hc:n≤c) (hc':m≤c') (hn:n≤100000000000) (hm:m≤100000000000):
  Calls Tryz.prog 209 #[.slice A n c,.slice B m c'] w fun e w'=>e=.returned (.int .i64 (jA (aU 18446744073709551616 xs) (aU 18446744073709551616 ys)))∧Below w.heap.size w w':=by
 have hlx:=hx.1;have hly:=hy.1;rw [aV] at hlx hly;have hcx:=hx.qM;have hcy:=hy.qM;have hxl:=eJ xs;have hyl:=eJ ys;have hx2:=Can.cut hdx;have hy2:=Can.cut hdy;have hh:=Hp.start w;rw [←jK xs,←jK ys];refine ae (N:=47) (l:=[.slice A n c,.slice B m c']) Tryz.func209 rfl rfl (by simp) ?_;refine aj ?_;refine aZ hh (fL _ _ _ xs _ hx hc abq) rfl ?_;intro w7 hh;refine mL ?_;refine aZ hh (fL _ _ _ ys _ (hy.ext hh.below) hc' abq) rfl ?_;intro w9 hh;generalize dR xs=us at*;generalize dR ys=vs at*;by_cases hlen:us.length=vs.length
 ·refine aj ?_;refine aH [4,5,23,24,25,26,27,28,29,30,31,32,33,34,35,36,37,38,39,40,41,42,43,44,45,46] 5
   (fun v w'=>∃k:Nat,k≤us.length∧v=.int .i64 ((k:Int)-1)∧us.drop k=vs.drop k∧Hp w [] w')
   (fun v _=>(intOf v+1).toNat) ?_ ?_
  ·exact ⟨us.length,abD _,rfl,by rw [List.drop_length,ae4 abq],hh⟩
  ·clear hh;rintro ρ' v w' ⟨k,hk,rfl,hd,hh⟩;by_cases h0:k=0
   ·subst h0;refine aj ?_;rw [aeb,aeb] at hd;rw [hd];exact ⟨by rw [JE rfl],hh.below⟩
   ·obtain ⟨j,rfl⟩:∃j,k=j+1:=⟨k-1,abq⟩;obtain ⟨x,hxj⟩:=ai (l:=us) (k:=j) abq;obtain ⟨y,hyj⟩:=ai (l:=vs) (k:=j) abq;obtain ⟨ad,rfl,hr⟩:=hcx.at_ abq;obtain ⟨ad2,rfl,hs⟩:=hcy.at_ abq;have hx3:=dZ hxj;have hy3:=dZ hyj;by_cases hlt:x<y
    ·have hf:=zm hx2.1 hxj hyj hd hlt;refine aj ?_;refine MW ?_;refine fO ?_;refine dp ?_;refine mU (j) ?_;refine CP ?_;refine fO ?_;refine dp ?_;refine mU (j) ?_;refine EU ?_;refine av ?_;intro f W hJ hV;have hb_9:=hJ.bl;obtain ⟨v35,v34,v33,v32,v31,v30,v29,v28,_⟩:=hV;replace hh:=hJ.hp;refine N8 ?_;dsimp only [bA];clear hJ;refine aj ?_;exact ⟨by rw [lN hf],hh.below⟩
    ·by_cases hgt:y<x
     ·have hf:=zm hy2.1 hyj hxj hd.symm hgt;refine aj ?_;refine MW ?_;refine fO ?_;refine dp ?_;refine mU (j) ?_;refine CP ?_;refine fO ?_;refine dp ?_;refine mU (j) ?_;refine EU ?_;refine av ?_;intro f W hJ hV;have hb_9:=hJ.bl;obtain ⟨v35,v34,v33,v32,v31,v30,v29,v28,_⟩:=hV;replace hh:=hJ.hp;refine N8 ?_;dsimp only [bA];clear hJ;refine aj ?_;refine UE ?_;refine fO ?_;refine dp ?_;refine mU (j) ?_;refine CP ?_;refine fO ?_;refine dp ?_;refine mU (j) ?_;refine EU ?_;refine av ?_;intro f W hJ hV;have hb_11:=hJ.bl;obtain ⟨v45,v44,v43,v42,v41,v40,v39,v38,_⟩:=hV;replace hh:=hJ.hp;refine Tm ?_;dsimp only [bA];clear hJ;refine aj ?_;exact ⟨by rw [sA hf],hh.below⟩
     ·refine aj ?_;refine MW ?_;refine fO ?_;refine dp ?_;refine mU (j) ?_;refine CP ?_;refine fO ?_;refine dp ?_;refine mU (j) ?_;refine EU ?_;refine av ?_;intro f W hJ hV;have hb_9:=hJ.bl;obtain ⟨v35,v34,v33,v32,v31,v30,v29,v28,_⟩:=hV;replace hh:=hJ.hp;refine N8 ?_;dsimp only [bA];clear hJ;refine aj ?_;refine UE ?_;refine fO ?_;refine dp ?_;refine mU (j) ?_;refine CP ?_;refine fO ?_;refine dp ?_;refine mU (j) ?_;refine EU ?_;refine av ?_;intro f W hJ hV;have hb_11:=hJ.bl;obtain ⟨v45,v44,v43,v42,v41,v40,v39,v38,_⟩:=hV;replace hh:=hJ.hp;refine Tm ?_;dsimp only [bA];clear hJ;refine aj ?_;refine ⟨⟨j,abq,by show Value.int _ _=Value.int _ _;congr 1;omega,Bn hxj hyj hd abq,hh⟩,by show ((((j+1:Nat):Int)-1-1)+1).toNat<((((j+1:Nat):Int)-1)+1).toNat;omega, ?_⟩;exact dI
 ·by_cases hlt:us.length<vs.length
  ·have hf:aU 18446744073709551616 us<aU 18446744073709551616 vs:=by
    refine aeQ fun h=> ?_;have:=hy2.vO hx2 abq h;omega
   refine aj ?_;exact ⟨by rw [lN hf],hh.below⟩
  ·have hf:aU 18446744073709551616 vs<aU 18446744073709551616 us:=by
    refine aeQ fun h=> ?_;have:=hx2.vO hy2 abq h;omega
   refine aj ?_;exact ⟨by rw [sA hf],hh.below⟩
theorem X4 {y:Nat} (hy:y<18446744073709551616) (hm:m<18446744073709551616):y*m≤340282366920938463426481119284349108225:=acR (by omega:y≤18446744073709551615) (by omega:m≤18446744073709551615)
theorem z9 {x y c P:Nat} (hx:x<18446744073709551616) (hc:c<18446744073709551616) (hP:P≤340282366920938463426481119284349108225) (he:P=y*m):
  (x+(P % 18446744073709551616+c+0) % 18446744073709551616+0) % 18446744073709551616=(x+y*m+c) % 18446744073709551616∧((P/18446744073709551616+(P % 18446744073709551616+c+0)/18446744073709551616) % 18446744073709551616+(x+(P % 18446744073709551616+c+0) % 18446744073709551616+0)/18446744073709551616) % 18446744073709551616=(x+y*m+c)/18446744073709551616∧(x+y*m+c)/18446744073709551616<18446744073709551616:=by
 rw [←he];omega
theorem oM {H:List HE}{M:Nat}{Y:Option Addr} (pre xs post ys:List Nat) (w:World) (hh:Hp w0 (.row (some ⟨b,0,none⟩) M C 160 1 (cm (pre++xs++post))::H) w)
  (hy:∀w1 cs,Hp w0 (.row (some ⟨b,0,none⟩) M C 160 1 cs::H) w1→Sl w1 Y ny 1 (cm ys)) (hxd:Dg 18446744073709551616 xs) (hyd:Dg 18446744073709551616 ys) (hm:m<18446744073709551616) (hM:xs.length≤100000000000) (hny:ny≤100000000000):
  Calls Tryz.prog 215 #[.slice (some ⟨b,pre.length,none⟩) xs.length c',.slice Y ny cy,.int .u64 (m:Int)] w fun e w'=>e=.returned (.tuple #[])∧Hp w0 (.row (some ⟨b,0,none⟩) M C 160 1 (cm (pre++il 18446744073709551616 xs ys m 0++post))::H) w':=by
 have hly:=(hy _ _ hh).1;rw [aV] at hly;refine ae (N:=56) (l:=[.slice (some ⟨b,pre.length,none⟩) xs.length c',.slice Y ny cy,.int .u64 (m:Int)]) Tryz.func215 rfl rfl (by simp) ?_;refine aj ?_;refine bk [6,7,8,9,10,11,14,15,16,17,18,19,20,21,22,23,24,25,26,27,28,29,30,31,32,33,34,35,36,37,38,39,40,41,42,43,44,45,46,47,48,49,50,51,52,53,54,55] 6 14
  (fun c i w'=>∃(done rest:List Nat) (cr:Nat),done.length+rest.length=xs.length∧i=.int .i64 done.length∧c=.int .u64 (cr:Int)∧cr<18446744073709551616∧Dg 18446744073709551616 rest∧done++il 18446744073709551616 rest (ys.drop done.length) m cr=il 18446744073709551616 xs ys m 0∧Hp w0 (.row (some ⟨b,0,none⟩) M C 160 1 (cm (pre++(done++rest)++post))::H) w')
  (fun _ i _=>xs.length-(intOf i).toNat) ?_ ?_
 ·exact ⟨[],xs,0,by simp,rfl,rfl,abq,hxd,rfl,hh⟩
 ·clear hh;rintro ρ' c i w' ⟨done,rest,cr,hlen,rfl,rfl,hcr,hrd,heq,hh⟩;by_cases hlt:done.length<xs.length
  ·obtain ⟨x,r,rfl⟩:∃x r,rest=x::r:=by
    exact Vz
   have hx:=hrd.head;have hg:=dZ (Bv (pre:=pre) (done:=done) (r:=r) (post:=post) (x:=x));have hlr:done.length+(r.length+1)=xs.length:=by simpa using hlen
   simp only [il,tail_drop,ym] at heq;by_cases hiy:done.length<ny
   ·obtain ⟨y,hyk⟩:=ai (l:=ys) (k:=done.length) abq;obtain ⟨ad,rfl,_⟩:=(hy _ _ hh).at_ abq;rw [hyk,acW] at heq;have hyw:=hyd.at_ hyk;refine sr ?_;refine E4 ?_;refine nP (aJ (cT (bR (mL (mI ?_)))));refine OT ?_;refine bG az.out rfl ((hy _ _ hh).Cn hyk) abr ?_;refine aj ?_;obtain ⟨p1,p2,p3⟩:=z9 (y:=y) (m:=m) hx hcr (X4 hyw hm) rfl;refine aZ hh (uu y m _ hyw hm) rfl ?_;intro w28 hh;refine aj ?_;refine lV (kZ (y*m % 18446744073709551616) cr 0 abq _) (aq (cH rfl) (aq (cH rfl) (aq rfl aY))) abr ?_;refine aj ?_;refine fG rfl rfl abr ?_;refine aI (aJ (sr (mL (mI (mL (mI ?_))))));refine nj bq.out az.size rfl rfl rfl abq abr ?_;refine lF ?_;refine mI ?_;refine lV (kZ x ((y*m % 18446744073709551616+cr+0) % 18446744073709551616) 0 abq _) (aq (cH rfl) (aq (cH rfl) (aq rfl aY))) abr ?_;refine mT ?_;refine vk ?_;refine vk ?_;refine qf ?_;refine zi ?_;intro ws hh;simp only [abK] at hh;rw [p1,abZ,cu (by rw [aV];simp only [abJ,ab0];omega),gP,pQ] at hh;refine aj ?_;refine fG rfl rfl abr ?_;refine aj ?_;rw [p2]
    refine ⟨⟨done++[(x+y*m+cr) % 18446744073709551616],r,_,by simp;omega,by rw [abJ];rfl,rfl,p3,hrd.tail, ?_,hh⟩,by show xs.length-(done.length+1)<xs.length-done.length;omega, ?_⟩
    ·rw [←heq,acb,abJ];rfl
    exact abu
   ·rw [abT abq,Option.getD_none] at heq;have h0w:(0:Nat)<18446744073709551616:=abq;refine aj ?_;obtain ⟨p1,p2,p3⟩:=z9 (y:=0) (m:=m) hx hcr (X4 h0w hm) rfl;refine aZ hh (uu 0 m _ h0w hm) rfl ?_;intro w28 hh;refine aj ?_;refine lV (kZ (0*m % 18446744073709551616) cr 0 abq _) (aq (cH rfl) (aq (cH rfl) (aq rfl aY))) abr ?_;refine aj ?_;refine fG rfl rfl abr ?_;refine aI (aJ (sr (mL (mI (mL (mI ?_))))));refine nj bq.out az.size rfl rfl rfl abq abr ?_;refine lF ?_;refine mI ?_;refine lV (kZ x ((0*m % 18446744073709551616+cr+0) % 18446744073709551616) 0 abq _) (aq (cH rfl) (aq (cH rfl) (aq rfl aY))) abr ?_;refine mT ?_;refine vk ?_;refine vk ?_;refine qf ?_;refine zi ?_;intro ws hh;simp only [abK] at hh;rw [p1,abZ,cu (by rw [aV];simp only [abJ,ab0];omega),gP,pQ] at hh;refine aj ?_;refine fG rfl rfl abr ?_;refine aj ?_;rw [p2];refine ⟨⟨done++[(x+0*m+cr) % 18446744073709551616],r,_,by simp;omega,by rw [abJ];rfl,rfl,p3,hrd.tail, ?_,hh⟩,by show xs.length-(done.length+1)<xs.length-done.length;omega, ?_⟩
    ·rw [←heq,acb,abJ];rfl
    exact abu
  ·exact XP
theorem om {H:List HE}{M:Nat}{Y:Option Addr} (pre xs post ys:List Nat) (w:World) (hh:Hp w0 (.row (some ⟨b,0,none⟩) M C 160 1 (cm (pre++xs++post))::H) w)
  (hy:∀w1 cs,Hp w0 (.row (some ⟨b,0,none⟩) M C 160 1 cs::H) w1→Sl w1 Y ny 1 (cm ys)) (hxd:Dg 18446744073709551616 xs) (hyd:Dg 18446744073709551616 ys) (hM:xs.length≤100000000000) (hny:ny≤100000000000) (hsub:CJ 18446744073709551616 xs ys 0=0):
  Calls Tryz.prog 231 #[.slice (some ⟨b,pre.length,none⟩) xs.length c',.slice Y ny cy] w fun e w'=>e=.returned (.bool true)∧Hp w0 (.row (some ⟨b,0,none⟩) M C 160 1 (cm (pre++qG 18446744073709551616 xs ys 0++post))::H) w':=by
 have hly:=(hy _ _ hh).1;rw [aV] at hly;refine ae (N:=37) (l:=[.slice (some ⟨b,pre.length,none⟩) xs.length c',.slice Y ny cy]) Tryz.func231 rfl rfl (by simp) ?_;refine aj ?_;refine bk [5,6,7,10,11,12,13,14,15,16,17,18,19,20,21,22,23,24,25,26,27,28,29,30,31,32,33,34] 5 10
  (fun c i w'=>∃(done rest:List Nat) (cr:Nat),done.length+rest.length=xs.length∧i=.int .i64 done.length∧c=.int .u64 (cr:Int)∧cr≤1∧Dg 18446744073709551616 rest∧done++qG 18446744073709551616 rest (ys.drop done.length) cr=qG 18446744073709551616 xs ys 0∧CJ 18446744073709551616 rest (ys.drop done.length) cr=0∧Hp w0 (.row (some ⟨b,0,none⟩) M C 160 1 (cm (pre++(done++rest)++post))::H) w')
  (fun _ i _=>xs.length-(intOf i).toNat) ?_ ?_
 ·exact ⟨[],xs,0,by simp,rfl,rfl,abq,hxd,rfl,hsub,hh⟩
 ·clear hh;rintro ρ' c i w' ⟨done,rest,cr,hlen,rfl,rfl,hcr,hrd,heq,hsb,hh⟩;by_cases hlt:done.length<xs.length
  ·obtain ⟨x,r,rfl⟩:∃x r,rest=x::r:=by
    exact Vz
   have hx:=hrd.head;have hg:=dZ (Bv (pre:=pre) (done:=done) (r:=r) (post:=post) (x:=x));have hlr:done.length+(r.length+1)=xs.length:=by simpa using hlen
   simp only [qG,CJ,tail_drop,ym] at heq hsb;by_cases hiy:done.length<ny
   ·obtain ⟨y,hyk⟩:=ai (l:=ys) (k:=done.length) abq;obtain ⟨ad,rfl,_⟩:=(hy _ _ hh).at_ abq;rw [hyk,acW] at heq hsb;have hyw:=hyd.at_ hyk;refine sr ?_;refine E4 ?_;refine nP (aJ (cT (bR (mL (mI ?_)))));refine OT ?_;refine bG az.out rfl ((hy _ _ hh).Cn hyk) abr ?_;refine aI (aJ (bR (mL (mI (mL (mI ?_))))));refine qf ?_;refine lF ?_;refine aj ?_;refine lV (zY x y cr hcr _) (aq (cH rfl) (aq (cH rfl) (aq (cH rfl) aY))) abr ?_;refine mT ?_;refine vk ?_;refine vk ?_;refine qf ?_;refine zi ?_;intro ws hh;simp only [abK] at hh;rw [abZ,cu (by rw [aV];simp only [abJ,ab0];omega),gP,pQ] at hh;refine aj ?_;refine ⟨⟨done++[(x+18446744073709551616-y-cr) % 18446744073709551616],r,_,by simp;omega,by rw [abJ];rfl,rfl,by split<;>omega,hrd.tail, ?_, ?_,hh⟩,by show xs.length-(done.length+1)<xs.length-done.length;omega, ?_⟩
    ·rw [←heq,acb,abJ];rfl
    ·rw [abJ];exact hsb
    exact abu
   ·rw [abT abq,Option.getD_none] at heq hsb;refine sr ?_;refine E4 ?_;refine nP (aJ (cF (dA (eF (bR (mL (mI (mL (mI ?_)))))))));refine qf ?_;refine lF ?_;refine aj ?_;refine lV (zY x 0 cr hcr _) (aq (cH rfl) (aq (cH rfl) (aq (cH rfl) aY))) abr ?_;refine mT ?_;refine vk ?_;refine vk ?_;refine qf ?_;refine zi ?_;intro ws hh;simp only [abK] at hh;rw [abZ,cu (by rw [aV];simp only [abJ,ab0];omega),gP,pQ] at hh;refine aj ?_;refine ⟨⟨done++[(x+18446744073709551616-0-cr) % 18446744073709551616],r,_,by simp;omega,by rw [abJ];rfl,rfl,by split<;>omega,hrd.tail, ?_, ?_,hh⟩,by show xs.length-(done.length+1)<xs.length-done.length;omega, ?_⟩
    ·rw [←heq,acb,abJ];rfl
    ·rw [abJ];exact hsb
    exact abu
  ·have hr0:rest=[]:=adB abq;subst hr0;obtain rfl:cr=0:=hsb;refine aj ?_;rw [acg,qG,acg] at*;rw [←heq];exact ⟨rfl,hh⟩
theorem FG {H:List HE}{M:Nat}{Y:Option Addr} (pre xs post ys:List Nat) (w:World) (hh:Hp w0 (.row (some ⟨b,0,none⟩) M C 160 1 (cm (pre++xs++post))::H) w)
  (hy:∀w1 cs,Hp w0 (.row (some ⟨b,0,none⟩) M C 160 1 cs::H) w1→Sl w1 Y ny 1 (cm ys)) (hxd:Dg 18446744073709551616 xs) (hyd:Dg 18446744073709551616 ys) (hM:xs.length≤100000000000) (hny:ny≤100000000000):
  Calls Tryz.prog 229 #[.slice (some ⟨b,pre.length,none⟩) xs.length c',.slice Y ny cy] w fun e w'=>e=.returned (.tuple #[])∧Hp w0 (.row (some ⟨b,0,none⟩) M C 160 1 (cm (pre++il 18446744073709551616 xs ys 1 0++post))::H) w':=by
 have hly:=(hy _ _ hh).1;rw [aV] at hly;refine ae (N:=34) (l:=[.slice (some ⟨b,pre.length,none⟩) xs.length c',.slice Y ny cy]) Tryz.func229 rfl rfl (by simp) ?_;refine aj ?_;refine bk [4,5,6,9,10,11,12,13,14,15,16,17,18,19,20,21,22,23,24,25,26,27,28,29,30,31,32,33] 4 9
  (fun c i w'=>∃(done rest:List Nat) (cr:Nat),done.length+rest.length=xs.length∧i=.int .i64 done.length∧c=.int .u64 (cr:Int)∧cr≤1∧Dg 18446744073709551616 rest∧done++il 18446744073709551616 rest (ys.drop done.length) 1 cr=il 18446744073709551616 xs ys 1 0∧Hp w0 (.row (some ⟨b,0,none⟩) M C 160 1 (cm (pre++(done++rest)++post))::H) w')
  (fun _ i _=>xs.length-(intOf i).toNat) ?_ ?_
 ·exact ⟨[],xs,0,by simp,rfl,rfl,abq,hxd,rfl,hh⟩
 ·clear hh;rintro ρ' c i w' ⟨done,rest,cr,hlen,rfl,rfl,hcr,hrd,heq,hh⟩;by_cases hlt:done.length<xs.length
  ·obtain ⟨x,r,rfl⟩:∃x r,rest=x::r:=by
    exact Vz
   have hx:=hrd.head;have hg:=dZ (Bv (pre:=pre) (done:=done) (r:=r) (post:=post) (x:=x));have hlr:done.length+(r.length+1)=xs.length:=by simpa using hlen
   simp only [il,tail_drop,ym,abZ] at heq;by_cases hiy:done.length<ny
   ·obtain ⟨y,hyk⟩:=ai (l:=ys) (k:=done.length) abq;obtain ⟨ad,rfl,_⟩:=(hy _ _ hh).at_ abq;rw [hyk,acW] at heq;have hyw:=hyd.at_ hyk;refine sr ?_;refine E4 ?_;refine nP (aJ (cT (bR (mL (mI ?_)))));refine OT ?_;refine bG az.out rfl ((hy _ _ hh).Cn hyk) abr ?_;refine aI (aJ (bR (mL (mI (mL (mI ?_))))));refine qf ?_;refine lF ?_;refine aj ?_;refine lV (kZ x y cr hcr _) (aq (cH rfl) (aq (cH rfl) (aq (cH rfl) aY))) abr ?_;refine mT ?_;refine vk ?_;refine vk ?_;refine qf ?_;refine zi ?_;intro ws hh;simp only [abK] at hh;rw [abZ,cu (by rw [aV];simp only [abJ,ab0];omega),gP,pQ] at hh;refine aj ?_;refine ⟨⟨done++[(x+y+cr) % 18446744073709551616],r,_,by simp;omega,by rw [abJ];rfl,rfl,abq,hrd.tail, ?_,hh⟩,by show xs.length-(done.length+1)<xs.length-done.length;omega, ?_⟩
    ·rw [←heq,acb,abJ];rfl
    exact abu
   ·rw [abT abq,Option.getD_none] at heq;refine sr ?_;refine E4 ?_;refine nP (aJ (cF (dA (eF (bR (mL (mI (mL (mI ?_)))))))));refine qf ?_;refine lF ?_;refine aj ?_;refine lV (kZ x 0 cr hcr _) (aq (cH rfl) (aq (cH rfl) (aq (cH rfl) aY))) abr ?_;refine mT ?_;refine vk ?_;refine vk ?_;refine qf ?_;refine zi ?_;intro ws hh;simp only [abK] at hh;rw [abZ,cu (by rw [aV];simp only [abJ,ab0];omega),gP,pQ] at hh;refine aj ?_;refine ⟨⟨done++[(x+0+cr) % 18446744073709551616],r,_,by simp;omega,by rw [abJ];rfl,rfl,abq,hrd.tail, ?_,hh⟩,by show xs.length-(done.length+1)<xs.length-done.length;omega, ?_⟩
    ·rw [←heq,acb,abJ];rfl
    exact abu
  ·exact XP
theorem RL {i d:Nat} (D:Nat) (hD:D<18446744073709551616^i) (hd:d<18446744073709551616) (hk:i+n/64+1<k):
  (D*2^n)/18446744073709551616^(i+n/64) % 18446744073709551616<2^(n % 64)∧d*2^(n % 64) % 18446744073709551616=(d % 2^(64-n % 64))*2^(n % 64)∧
  (bH 18446744073709551616 k (D*2^n)).set (i+n/64) ((D*2^n)/18446744073709551616^(i+n/64) % 18446744073709551616+d*2^(n % 64) % 18446744073709551616)=bH 18446744073709551616 k (D*2^n+18446744073709551616^(i+n/64)*(d*2^(n % 64) % 18446744073709551616))∧
  (D*2^n+18446744073709551616^(i+n/64)*(d*2^(n % 64) % 18446744073709551616))/18446744073709551616^(i+n/64+1) % 18446744073709551616=0∧
  (bH 18446744073709551616 k (D*2^n+18446744073709551616^(i+n/64)*(d*2^(n % 64) % 18446744073709551616))).set (i+n/64+1) (d/2^(64-n % 64))=bH 18446744073709551616 k ((D+18446744073709551616^i*d)*2^n)∧
  (n % 64=0→D*2^n+18446744073709551616^(i+n/64)*(d*2^(n % 64) % 18446744073709551616)=(D+18446744073709551616^i*d)*2^n):=by
 have hW:(18446744073709551616:Nat)=2^64:=by decide
 have hs:n % 64<64:=ab4 _ abq;have hn:2^n=18446744073709551616^(n/64)*2^(n % 64):=by
  rw [hW,←acv,←ab5];congr 1;omega
 generalize hq:n/64=q at*;generalize hse:n % 64=s at*;have e:(18446744073709551616:Nat)=2^(64-s)*2^s:=by rw [←ab5,hW];congr 1;omega
 have hpos:0<2^s:=ab7 abq;have hwp:∀j:Nat,0<18446744073709551616^j:=fun j=>ab7 abr;have hP:D*2^n<18446744073709551616^(i+q)*2^s:=by
  rw [hn,←acE,ab5];exact ad1 (ad1 hD (hwp q)) hpos
 have h1:(D*2^n)/18446744073709551616^(i+q)<2^s:=by rw [acN (hwp _),abU (2^s)];exact hP
 have hsW:2^s≤18446744073709551616:=by rw [hW];exact ach abq abq
 have h2:d*2^s % 18446744073709551616=(d % 2^(64-s))*2^s:=by rw [e,Nat.mul_mod_mul_right]
 have h3:(d % 2^(64-s)+1)*2^s≤18446744073709551616:=by
  rw [e];exact acx _ (ab4 _ (ab7 abq))
 rw [acD] at h3;have h4:(D*2^n)/18446744073709551616^(i+q) % 18446744073709551616=(D*2^n)/18446744073709551616^(i+q):=aci abq;have hlt1:D*2^n+18446744073709551616^(i+q)*(d*2^s % 18446744073709551616)<18446744073709551616^(i+q+1):=by
  rw [h2,acr];have:18446744073709551616^(i+q)*((d % 2^(64-s))*2^s+2^s)≤18446744073709551616^(i+q)*18446744073709551616:=acd _ h3;rw [acw] at this;omega
 have hup:=U2 (d:=d) (s:=s) hd abq;have hfin:D*2^n+18446744073709551616^(i+q)*(d*2^s % 18446744073709551616)+18446744073709551616^(i+q+1)*(d/2^(64-s))=(D+18446744073709551616^i*d)*2^n:=by
  have h5:18446744073709551616^(i+q)*(d*2^s % 18446744073709551616)+18446744073709551616^(i+q+1)*(d/2^(64-s))=18446744073709551616^(i+q)*(d*2^s):=by
   conv=>rhs;rw [←hup.1,acw]
   rw [acr,acE,abU 18446744073709551616]
  rw [aet,h5,adJ,hn,ab5];congr 1;simp only [acE,aec,abU]
 have hbig:∀j,j<k→18446744073709551616^j*18446744073709551616≤18446744073709551616^k:=fun j hj=>by rw [←acr];exact ach abr hj
 have hb1:=hbig (i+q) abq;rw [←acr] at hb1;refine ⟨by rw [h4];exact h1,h2, ?_, ?_, ?_, ?_⟩
 ·exact rH abr abq abq (by rw [h4,h2];omega)
 ·rw [acz hlt1]
 ·have h6:(D*2^n+18446744073709551616^(i+q)*(d*2^s % 18446744073709551616))/18446744073709551616^(i+q+1) % 18446744073709551616=0:=by rw [acz hlt1]
  have h7:d/2^(64-s)<18446744073709551616:=acB (adM _ _) hd;have h8:=rH (B:=18446744073709551616) (k:=k) (n:=D*2^n+18446744073709551616^(i+q)*(d*2^s % 18446744073709551616)) (j:=i+q+1) (v:=d/2^(64-s)) abr hk ?_ (by rw [h6];omega)
  ·rw [h6,ab2,hfin] at h8;exact h8
  ·have h9:18446744073709551616^(i+q+1)*(d/2^(64-s)+1)≤18446744073709551616^(i+q+1)*18446744073709551616:=acd _ h7;have h10:=hbig (i+q+1) hk;rw [ac5] at h9;omega
 ·intro h0;subst h0;rw [←hfin];have:d/2^(64-0)=0:=acz (by rw [←hW];exact hd);rw [this];simp
theorem th (A:Option Addr) (n c m:Nat) (xs:List Nat) (w:World) (hx:Sl w A n 1 (cm xs)) (hd:Dg 18446744073709551616 xs) (hn:n≤1000000000) (hm:m≤10000000000):
  Calls Tryz.prog 206 #[.slice A n c,.int .i64 (m:Int)] w fun e w'=>∃A c,e=.returned (.slice A (aK 18446744073709551616 (aU 18446744073709551616 xs*2^m)).length c)∧w'.ownsRow w.heap.size 160 1 (.slice A (aK 18446744073709551616 (aU 18446744073709551616 xs*2^m)).length c) (aK 18446744073709551616 (aU 18446744073709551616 xs*2^m)).length (cm (aK 18446744073709551616 (aU 18446744073709551616 xs*2^m)))∧Below w.heap.size w w':=by
 have hl:=hx.1;rw [aV] at hl;have hh:=Hp.start w;have hs1:((m:Int) % 64).toNat=m % 64:=abq;refine ae (N:=55) (l:=[.slice A n c,.int .i64 (m:Int)]) Tryz.func206 rfl rfl (by simp) ?_;refine aj ?_;refine fy (n:=n+m/64+1) hh rfl rfl abq abq bq.out az.out rfl abq abq abr ?_;intro b15 w15 hh;refine aj ?_;rw [lH] at hh;refine aH [6,7,8,18,19,20,21,22,23,24,25,26,27,28,29,30,31,32,33,34,35,36,37,38,39,40,41,42,43,44,45,46,47,48,49,50,51,52] 18
  (fun v w'=>∃i:Nat,i≤n∧v=.int .i64 i∧Hp w [.row (some ⟨b15,0,none⟩) (n+m/64+1) (n+m/64+1) 160 1 (cm (bH 18446744073709551616 (n+m/64+1) (aU 18446744073709551616 (xs.take i)*2^m)))] w')
  (fun v _=>n-(intOf v).toNat) ?_ ?_
 ·exact ⟨0,abB _,rfl,by rw [adh,aU,ad4,tf];exact hh⟩
 ·clear hh;rintro ρ' v w' ⟨i,hi,rfl,hh⟩;by_cases hlt:i<n
  ·obtain ⟨d,hdi⟩:=ai (l:=xs) (k:=i) abq;obtain ⟨ad,rfl,hr⟩:=hx.at_ abq;have hd2:=dZ hdi;have hdw:=hd.at_ hdi;have hD:=gi (hd.take i);rw [abP,acQ abq] at hD;obtain ⟨s1,s2,s3,s4,s5,s6⟩:=RL (k:=n+m/64+1) (n:=m) (aU 18446744073709551616 (xs.take i)) hD hdw abq;have hg:=dZ (jJ (B:=18446744073709551616) (n+m/64+1) (aU 18446744073709551616 (xs.take i)*2^m) (i+m/64) abq);refine aj ?_;refine o9 ?_;refine aj ?_;refine aC 8 [[(5,none)],[(8,none)],[(27,some 0),(28,some 1)],[(29,some 2)],[(7,none)],[(1,none)],[(32,some 5)],[(31,some 4),(33,some 6)]] [(7,34),(6,33),(5,32),(4,31),(3,30),(2,29),(1,28),(0,27)] hh mixed abt ?_;refine fO ?_;refine dp ?_;refine CN (i+m/64) ?_;refine a8 (i:=3) (fun ρ1 w1 hj hR=>iF az.out (show ρ1 29=Value.pointer _ from hR.1) (hj.hp.ff (i:=0) rfl (by rw [abZ];exact hg))) ?_;refine dp ?_;refine dp ?_;refine a8 (i:=6) (fun ρ1 w1 hj hR=>qY (show ρ1 32=Value.int _ _ from hR.1) rfl abq abq) ?_;refine a8 (i:=7) (fun ρ1 w1 hj hR=>wi (show ρ1 31=Value.int _ _ from hR.1) (show ρ1 33=Value.int _ _ from hR.2.1) abq) ?_;refine av ?_
   intro f W hJ hV;have hb_6:=hJ.bl;obtain ⟨v34,v33,v32,v31,v30,v29,v28,v27,_⟩:=hV;replace hh:=hJ.hp;refine ay (aQ (aa v34 (aa v33 (aa v32 (aa v31 (aa v30 (aa v29 (aa v28 (aa v27 aw))))))))) ?_;dsimp only [bA];clear hJ;refine Ec ?_;refine dF (k:=i+m/64) bq.out az.size rfl rfl abq abq abr ?_;refine LQ ?_;intro ws hh;simp only [abK] at hh;rw [hs1,s2,Gn s1,←s2,abZ,cu (by rw [aV,aN];omega),gP,s3] at hh;by_cases h0:m % 64=0
   ·refine aj ?_;rw [s6 h0,←gQ hdi] at hh;exact vH
   ·have hg2:=dZ (jJ (B:=18446744073709551616) (n+m/64+1) (aU 18446744073709551616 (xs.take i)*2^m+18446744073709551616^(i+m/64)*(d*2^(m % 64) % 18446744073709551616)) (i+m/64+1) abq);rw [s4] at hg2;have hs2:(64-(m:Int) % 64).toNat=64-m % 64:=abq;have hd64:d/2^(64-(m:Int) % 64).toNat<18446744073709551616:=acB (adM _ _) hdw;have h0w:(0:Nat)<18446744073709551616:=abq;refine aj ?_;refine aC 10 [[(5,none)],[(8,none)],[(41,some 1)],[(40,some 0),(42,some 2)],[(43,some 3)],[(7,none)],[(1,none)],[(46,some 6)],[(47,some 7)],[(45,some 5),(48,some 8)]] [(9,49),(8,48),(7,47),(6,46),(5,45),(4,44),(3,43),(2,42),(1,41),(0,40)] hh mixed abt ?_;refine fO ?_;refine dp ?_;refine tk ?_;refine CN (i+m/64+1) ?_;refine a8 (i:=4) (fun ρ1 w1 hj hR=>iF az.out (show ρ1 43=Value.pointer _ from hR.1) (hj.hp.ff (i:=0) rfl (by rw [abZ];exact hg2))) ?_;refine dp ?_;refine dp ?_;refine a8 (i:=7) (fun ρ1 w1 hj hR=>qY (show ρ1 46=Value.int _ _ from hR.1) rfl abq abq) ?_;refine uS ?_
    refine a8 (i:=9) (fun ρ1 w1 hj hR=>Fz (show ρ1 45=Value.int _ _ from hR.1) (show ρ1 48=Value.int _ _ from hR.2.1) abq) ?_;refine av ?_;intro f W hJ hV;have hb_8:=hJ.bl;obtain ⟨v49,v48,v47,v46,v45,v44,v43,v42,v41,v40,_⟩:=hV;replace hh:=hJ.hp;refine ay (aQ (aa v49 (aa v48 (aa v47 (aa v46 (aa v45 (aa v44 (aa v43 (aa v42 (aa v41 (aa v40 aw))))))))))) ?_;dsimp only [bA];clear hJ;refine Ec ?_;refine dF (k:=i+m/64+1) bq.out az.size rfl rfl abq abq abr ?_;refine LQ ?_;intro ws hh;simp only [abK] at hh;rw [hs2,Nat.zero_or,abZ,cu (by rw [aV,aN];omega),gP,s5,←gQ hdi] at hh;refine aj ?_;exact vH
  ·refine aj ?_;rw [abG abq] at hh;refine aZ hh (fL _ _ _ (bH 18446744073709551616 (n+m/64+1) (aU 18446744073709551616 xs*2^m)) _ (hh.ao (i:=0) rfl) (abD _) abq) rfl ?_;intro w54 hh;refine aj ?_;have hbd:aU 18446744073709551616 xs*2^m<18446744073709551616^(n+m/64+1):=by
    have h1:=gi hd;rw [show xs.length=n by omega] at h1;have h2:2^m≤18446744073709551616^(m/64+1):=by
     exact TK
    rw [show n+m/64+1=n+(m/64+1) by omega,ab5];exact acu (ad1 h1 (ab7 abq)) (acd _ h2)
   have hd:dR (bH 18446744073709551616 (n+m/64+1) (aU 18446744073709551616 xs*2^m))=aK 18446744073709551616 (aU 18446744073709551616 xs*2^m):=by
    exact OL
   have h1:=(Hp.HV (xs:=bH 18446744073709551616 (n+m/64+1) (aU 18446744073709551616 xs*2^m)) hh (aN _ _)).at_ (i:=0) rfl;exact Sr
theorem Sl.On {xs:List Nat} (h:Sl w (some ad) n 1 (cm xs)) (hk:k<n):Sl w (some (ad.add (k*1))) (n-k) 1 (cm (xs.drop k)):=by
 have hl:=h.1;rw [aV] at hl;refine ⟨by rw [aV,acJ];omega,fun h0=>⟨_,rfl, ?_⟩⟩;obtain ⟨ad',he,hr⟩:=h.2 abq;injection he with he
 subst he;rw [abZ,yZ];exact hr.drop k
theorem KY {s:Nat} (hs:s<64) (h0:0<s):
  (N/18446744073709551616^(j+1) % 18446744073709551616)*2^(64-s) % 18446744073709551616=N/18446744073709551616^(j+1) % 2^s*2^(64-s)∧
  (N/18446744073709551616^j % 18446744073709551616/2^s|||(N/18446744073709551616^(j+1) % 18446744073709551616)*2^(64-s) % 18446744073709551616)=N/2^(64*j+s) % 18446744073709551616:=by
 have hW:(18446744073709551616:Nat)=2^64:=by decide
 have e:(18446744073709551616:Nat)=2^s*2^(64-s):=by rw [←ab5,hW];congr 1;omega
 have h1:(N/18446744073709551616^(j+1) % 18446744073709551616)*2^(64-s) % 18446744073709551616=N/18446744073709551616^(j+1) % 2^s*2^(64-s):=by
  generalize N/18446744073709551616^(j+1)=m;rw [e,Nat.mul_mod_mul_right,Nat.mod_mul_right_mod]
 obtain ⟨h2,h3⟩:=At N j s hs h0;exact ⟨h1,by rw [h1,Gn h2,h3]⟩
theorem uy (A:Option Addr) (n c m:Nat) (xs:List Nat) (w:World) (hx:Sl w A n 1 (cm xs)) (hd:Dg 18446744073709551616 xs) (hc:n≤c) (hn:n≤1000000000) (hm:m≤1000000000000):
  Calls Tryz.prog 207 #[.slice A n c,.int .i64 (m:Int)] w fun e w'=>∃A c,e=.returned (.slice A (aK 18446744073709551616 (aU 18446744073709551616 xs/2^m)).length c)∧w'.ownsRow w.heap.size 160 1 (.slice A (aK 18446744073709551616 (aU 18446744073709551616 xs/2^m)).length c) (aK 18446744073709551616 (aU 18446744073709551616 xs/2^m)).length (cm (aK 18446744073709551616 (aU 18446744073709551616 xs/2^m)))∧Below w.heap.size w w':=by
 have hl:=hx.1;rw [aV] at hl;have hh:=Hp.start w;have hs1:((m:Int) % 64).toNat=m % 64:=abq;have hW:(18446744073709551616:Nat)=2^64:=by decide
 have hmm:2^m=18446744073709551616^(m/64)*2^(m % 64):=by
  rw [hW,←acv,←ab5];congr 1;omega
 have hlt:=gi hd;rw [show xs.length=n by omega] at hlt;by_cases hbig:n≤m/64
 ·have h0:aU 18446744073709551616 xs/2^m=0:=by
   apply acz;refine acu hlt (abW (ach abr hbig) ?_);rw [hmm];exact aff _ (ab7 abq)
  refine ae (N:=61) (l:=[.slice A n c,.int .i64 (m:Int)]) Tryz.func207 rfl rfl (by simp) ?_;refine aj ?_;rw [h0,iz abq];exact ⟨none,0,rfl,World.ownsRow_nil _ _ _ _,hh.below⟩
 ·obtain ⟨ad,rfl,hr⟩:=hx.at_ abq;have hsd:=hx.On (k:=m/64) abq;have hget:∀j,j<n→xs[j]?=some (aU 18446744073709551616 xs/18446744073709551616^j % 18446744073709551616):=fun j hj=>by
   obtain ⟨d,hdj⟩:=ai (l:=xs) (k:=j) abq;rw [hdj,u2 hd hdj]
  refine ae (N:=61) (l:=[.slice (some ad) n c,.int .i64 (m:Int)]) Tryz.func207 rfl rfl (by simp) ?_;refine aj ?_;refine ET (l:=m/64) bq.out az.size rfl rfl abq abq abq abq abr ?_;refine au (mf _ _ _ 0 _ _ hsd abq abq) ak.out rfl abr ?_;rintro e_ w_ ⟨b16,rfl,hown_,hb_⟩;refine ⟨_,rfl, ?_⟩;replace hh:=hh.aD (x:=.row _ _ _ _ _ _) hb_ hown_;rw [Nat.zero_max,acs,ae2,acg] at hh;rw [Nat.zero_max];refine aj ?_;refine aH [6,19,20,21,22,23,24,25,26,27,28,29,30,31,32,33,34,35,36,37,38,39,40,41,42,43,44,45,46,47,48,49,50,51,52,53,54,55,56,57,58] 19
   (fun v w'=>∃i:Nat,i≤n-m/64∧v=.int .i64 i∧Hp w [.row (some ⟨b16,0,none⟩) (n-m/64) (n-m/64) 160 1 (cm (bH 18446744073709551616 i (aU 18446744073709551616 xs/2^m)++xs.drop (m/64+i)))] w')
   (fun v _=>(n-m/64)-(intOf v).toNat) ?_ ?_
  ·exact ⟨0,abB _,rfl,hh⟩
  ·clear hh;rintro ρ' v w' ⟨i,hi,rfl,hh⟩;by_cases hlt2:i<n-m/64
   ·have hgi:=hget (m/64+i) abq;have hdr:xs.drop (m/64+i)=(aU 18446744073709551616 xs/18446744073709551616^(m/64+i) % 18446744073709551616)::xs.drop (m/64+i+1):=by
     rw [ady abq];congr 1;have:=abM.1 hgi;exact this.2
    have hcell:(bH 18446744073709551616 i (aU 18446744073709551616 xs/2^m)++xs.drop (m/64+i))[i]?=some (aU 18446744073709551616 xs/18446744073709551616^(m/64+i) % 18446744073709551616):=by
     rw [acP (by rw [aN];omega),aN,hdr];simp
    have hg:=dZ hcell;have hset:∀y,(bH 18446744073709551616 i (aU 18446744073709551616 xs/2^m)++xs.drop (m/64+i)).set i y=bH 18446744073709551616 i (aU 18446744073709551616 xs/2^m)++y::xs.drop (m/64+i+1):=fun y=>by
     rw [hdr,adS _ _ (by rw [aN];omega),aN,acs,abK]
    have hll:(bH 18446744073709551616 i (aU 18446744073709551616 xs/2^m)++xs.drop (m/64+i)).length=n-m/64:=by rw [abJ,aN,acJ];omega
    have hac:∀y,bH 18446744073709551616 i (aU 18446744073709551616 xs/2^m)++y::xs.drop (m/64+i+1)=(bH 18446744073709551616 i (aU 18446744073709551616 xs/2^m)++[y])++xs.drop (m/64+(i+1)):=fun y=>List.append_cons _ _ _;have hnew:bH 18446744073709551616 (i+1) (aU 18446744073709551616 xs/2^m)=bH 18446744073709551616 i (aU 18446744073709551616 xs/2^m)++[aU 18446744073709551616 xs/2^(64*(m/64+i)+m % 64) % 18446744073709551616]:=by
     rw [mM,ac4];congr 4;rw [hW,←acv,←ab5];congr 1;omega
    refine aj ?_;refine lF ?_;refine aj ?_;refine wB rfl rfl abq abr ?_;refine aj ?_;refine bM hh (i:=0) (vs:=[_]) rfl rfl (cH rfl) rfl az.out rfl (by rw [aV,hll];omega) rfl ?_;intro ws hh;simp only [abK] at hh;rw [hs1,abZ,cu (by rw [aV,hll];omega),gP,hset] at hh;by_cases h0:m % 64=0
    ·have e1:aU 18446744073709551616 xs/18446744073709551616^(m/64+i) % 18446744073709551616/2^(m % 64)=aU 18446744073709551616 xs/2^(64*(m/64+i)+m % 64) % 18446744073709551616:=by
      rw [h0,aej,adU,acY,acv,←hW]
     by_cases hl:i+1<n-m/64
     ·refine aj ?_;rw [e1,hac,←hnew] at hh;exact Jy
     ·refine aj ?_;rw [e1,hac,←hnew] at hh;exact Jy
    ·by_cases hl:i+1<n-m/64
     ·have hgj:=hget (m/64+i+1) abq;have hgj2:=dZ hgj;obtain ⟨d1,d2⟩:=KY (N:=aU 18446744073709551616 xs) (j:=m/64+i) (s:=m % 64) (ab4 _ abq) abq;have hcell2:(bH 18446744073709551616 i (aU 18446744073709551616 xs/2^m)++(aU 18446744073709551616 xs/18446744073709551616^(m/64+i) % 18446744073709551616/2^(m % 64))::xs.drop (m/64+i+1))[i]?=some (aU 18446744073709551616 xs/18446744073709551616^(m/64+i) % 18446744073709551616/2^(m % 64)):=by
       rw [acP (by rw [aN];omega),aN];simp
      have hg2:=dZ hcell2;have hset2:∀y z,(bH 18446744073709551616 i (aU 18446744073709551616 xs/2^m)++y::xs.drop (m/64+i+1)).set i z=bH 18446744073709551616 i (aU 18446744073709551616 xs/2^m)++z::xs.drop (m/64+i+1):=fun y z=>by
       rw [adS _ _ (by rw [aN];omega),aN,acs,abK]
      have hll2:∀y,(bH 18446744073709551616 i (aU 18446744073709551616 xs/2^m)++y::xs.drop (m/64+i+1)).length=n-m/64:=fun y=>by rw [abJ,aN,ab0,acJ];omega
      have hs2:(64-(m:Int) % 64).toNat=64-m % 64:=abq;have b1:aU 18446744073709551616 xs/18446744073709551616^(m/64+i) % 18446744073709551616/2^(m % 64)<18446744073709551616:=acB (adM _ _) (ab4 _ abq);have b2:aU 18446744073709551616 xs/18446744073709551616^(m/64+i+1) % 18446744073709551616*2^(64-(m:Int) % 64).toNat % 18446744073709551616<18446744073709551616:=ab4 _ abq;refine aj ?_;refine aC 16 [[(5,none)],[(6,none)],[(40,some 0),(41,some 1)],[(42,some 2)],[(0,none)],[(1,none)],[(45,some 5)],[(6,none)],[(46,some 6),(47,some 7)],[(48,some 8)],[(44,some 4),(49,some 9)],[(50,some 10)],[(1,none)],[(52,some 12)],[(53,some 13)],[(51,some 11),(54,some 14)]] [(15,55),(14,54),(13,53),(12,52),(11,51),(10,50),(9,49),(8,48),(7,47),(6,46),(5,45),(4,44),(3,43),(2,42),(1,41),(0,40)] hh mixed abt ?_;refine fO ?_;refine dp ?_;refine CN (i) ?_;refine a8 (i:=3) (fun ρ1 w1 hj hR=>iF az.out (show ρ1 42=Value.pointer _ from hR.1) (hj.hp.ff (i:=0) rfl (by rw [abZ];exact hg2))) ?_;refine fO ?_;refine dp ?_
      refine a8 (i:=6) (fun ρ1 w1 hj hR=>xe (show ρ1 45=Value.int _ _ from hR.1) rfl abq abq abq) ?_;refine dp ?_;refine tk ?_;refine tk ?_;refine mU (m/64+i+1) ?_;refine yY (fun _ hj=>(hr.ext hj.hp.below).vc hgj2) ?_;refine dp ?_;refine a8 (i:=13) (fun ρ1 w1 hj hR=>qY (show ρ1 52=Value.int _ _ from hR.1) rfl abq abq) ?_;refine uS ?_;refine a8 (i:=15) (fun ρ1 w1 hj hR=>wi (show ρ1 51=Value.int _ _ from hR.1) (show ρ1 54=Value.int _ _ from hR.2.1) abq) ?_;refine av ?_;intro f W hJ hV;have hb_9:=hJ.bl;obtain ⟨v55,v54,v53,v52,v51,v50,v49,v48,v47,v46,v45,v44,v43,v42,v41,v40,_⟩:=hV;replace hh:=hJ.hp;refine ay (aQ (aa v55 (aa v54 (aa v53 (aa v52 (aa v51 (aa v50 (aa v49 (aa v48 (aa v47 (aa v46 (aa v45 (aa v44 (aa v43 (aa v42 (aa v41 (aa v40 aw))))))))))))))))) ?_;dsimp only [bA];clear hJ;refine Ec ?_;refine aj ?_;refine bM hh (i:=0) (vs:=[_]) rfl rfl (cH rfl) rfl az.out rfl (by rw [aV,hll2];omega) rfl ?_;intro ws hh;simp only [abK] at hh;rw [hs2,d2,abZ,cu (by rw [aV,hll2];omega),gP,hset2,hac,←hnew] at hh;refine aj ?_;exact Jy
     ·have e1:aU 18446744073709551616 xs/18446744073709551616^(m/64+i) % 18446744073709551616/2^(m % 64)=aU 18446744073709551616 xs/2^(64*(m/64+i)+m % 64) % 18446744073709551616:=by
       obtain ⟨h2,h3⟩:=At (aU 18446744073709551616 xs) (m/64+i) (m % 64) (ab4 _ abq) abq;have h4:aU 18446744073709551616 xs/18446744073709551616^(m/64+i+1)=0:=acz (acu hlt (ach abr abq));rw [h4] at h3;simpa using h3
      refine aj ?_;rw [e1,hac,←hnew] at hh;exact Jy
   ·obtain rfl:i=n-m/64:=abq;rw [ae4 abq,acg] at hh;refine aj ?_;refine aZ hh (fL _ _ _ (bH 18446744073709551616 (n-m/64) (aU 18446744073709551616 xs/2^m)) _ (hh.ao (i:=0) rfl) (abD _) abq) rfl ?_;intro w60 hh;refine aj ?_;have hbd:aU 18446744073709551616 xs/2^m<18446744073709551616^(n-m/64):=by
     rw [acN (ab7 abq),hmm,←acE,←ab5,show n-m/64+m/64=n by omega];exact acu hlt (aff _ (ab7 abq))
    have hd:dR (bH 18446744073709551616 (n-m/64) (aU 18446744073709551616 xs/2^m))=aK 18446744073709551616 (aU 18446744073709551616 xs/2^m):=by
     exact OL
    have h1:=(Hp.HV (xs:=bH 18446744073709551616 (n-m/64) (aU 18446744073709551616 xs/2^m)) hh (aN _ _)).at_ (i:=0) rfl;exact Sr
def bN (a:ByteArray):Nat:=bn a.data.toList
def sN (n:Nat):ByteArray:=str (sb n)
theorem fI (n:Nat):bN (sN n)=n:=by rw [bN,sN,dH,WJ]
theorem kf (n:Nat):(sN n).size=(bf n+7)/8:=by rw [sN,ki,Ka,FO]
theorem GB {a:Nat} (h:sN a=sN b):a=b:=by rw [←fI a,h,fI]
theorem kG:sN 0=ByteArray.mk #[]:=by rw [sN,Rz];rfl
theorem Am (a:ByteArray):bN a<256^a.size:=by rw [dY];exact SS _
theorem g6 (a:ByteArray):bf (bN a)≤8*a.size:=by
 apply cW;have:=Am a;rwa [show (256:Nat)=2^8 from rfl,←acv] at this
theorem LC (h:n<256^k):(aK 18446744073709551616 n).length≤(k+7)/8:=by
 apply fQ abq;refine acu h ?_;rw [show (256:Nat)=2^8 from rfl,show (18446744073709551616:Nat)=2^64 from rfl,←acv,←acv];exact ach abq abq
theorem fM (a:ByteArray):(aK 18446744073709551616 (bN a)).length≤(a.size+7)/8:=LC (Am a)
theorem gM (n:Nat):Dg 18446744073709551616 (aK 18446744073709551616 n):=(ea abq n).1
theorem eB (n:Nat):aU 18446744073709551616 (aK 18446744073709551616 n)=n:=eM abq n
theorem jd (a:ByteArray) (w:World) (ha:a.size≤1000000000):
  Calls Tryz.prog 177 #[.string a] w fun e w'=>∃b c,e=.returned (.slice (some ⟨b,0,none⟩) (aK 18446744073709551616 (bN a)).length c)∧w'.ownsRow w.heap.size 160 1 (.slice (some ⟨b,0,none⟩) (aK 18446744073709551616 (bN a)).length c) (aK 18446744073709551616 (bN a)).length (cm (aK 18446744073709551616 (bN a)))∧Below w.heap.size w w':=Lg a w abq
theorem uE (n:Nat) (w:World) (hn:n<18446744073709551616):
  Calls Tryz.prog 129 #[.int .u64 (n:Int)] w fun e w'=>e=.returned (.string (sN n))∧Below w.heap.size w w':=by
 have hh:=Hp.start w;refine ae (N:=6) (l:=[.int .u64 (n:Int)]) Tryz.func129 rfl rfl (by simp) ?_;refine aj ?_;refine vA ?_;intro b4 w4 hh;refine aZ hh (fj _ _ _ [n] _ (hh.ao (i:=0) rfl) (Dg.cons hn Dg.nil) (abD _) abq) rfl ?_;intro w5 hh;refine aj ?_;refine ⟨?_,hh.below⟩;rw [sN];simp [aU]
theorem Ci (a b:ByteArray) (w:World) (ha:a.size≤1000000000) (hb:b.size≤1000000000):
  Calls Tryz.prog 230 #[.string a,.string b] w fun e w'=>e=.returned (.int .i64 (jA (bN a) (bN b)))∧Below w.heap.size w w':=by
 have hh:=Hp.start w;have h1:=fM a;have h2:=fM b;refine ae (N:=10) (l:=[.string a,.string b]) Tryz.func230 rfl rfl (by simp) ?_;refine aj ?_;refine tV ?_;rintro e_ w6 ⟨A6,c6,rfl,hown_,hb_⟩;refine ⟨_,rfl, ?_⟩;replace hh:=hh.aD (x:=.row _ _ _ _ _ _) hb_ hown_;refine mS ?_;refine Jb ?_;rintro e_ w8 ⟨A8,c8,rfl,hown_,hb_⟩;refine ⟨_,rfl, ?_⟩;replace hh:=hh.aD (x:=.row _ _ _ _ _ _) hb_ hown_;refine Eu ?_;intro w9 hh;rw [eB,eB];refine aj ?_;exact ⟨rfl,hh.below⟩
theorem m5 (a:ByteArray) (w:World) (ha:a.size≤1000000000):
  Calls Tryz.prog 172 #[.string a] w fun e w'=>e=.returned (.int .i64 (bf (bN a)))∧Below w.heap.size w w':=by
 have hh:=Hp.start w;have h1:=fM a;refine ae (N:=6) (l:=[.string a]) Tryz.func172 rfl rfl (by simp) ?_;refine aj ?_;refine tV ?_;rintro e_ w4 ⟨A4,c4,rfl,hown_,hb_⟩;refine ⟨_,rfl, ?_⟩;replace hh:=hh.aD (x:=.row _ _ _ _ _ _) hb_ hown_;refine aZ hh (xb _ _ _ (aK 18446744073709551616 (bN a)) _ (hh.ao (i:=0) rfl) (gM _) (hh.fh (i:=0) rfl) abq) rfl ?_;intro w5 hh;rw [eB];refine aj ?_;exact ⟨rfl,hh.below⟩
theorem iB (n m:Nat):bf (n*2^m)≤bf n+m:=by
 apply cW;rw [ab5];exact ad1 (cw n) (ab7 abq)
theorem yj (n:Nat):(aK 18446744073709551616 n).length≤(bf n+63)/64:=by
 apply fQ abq;refine acu (cw n) ?_;exact TK
theorem Bc (a:ByteArray) (m:Nat) (w:World) (ha:a.size≤1000000000) (hm:m≤10000000000):
  Calls Tryz.prog 170 #[.string a,.int .i64 (m:Int)] w fun e w'=>e=.returned (.string (sN (bN a*2^m)))∧Below w.heap.size w w':=by
 have hh:=Hp.start w;have h1:=fM a;have h2:=yj (bN a*2^m);have h3:=iB (bN a) m;have h4:=g6 a;have e1:(if (0:Int)>(m:Int) then 0 else (m:Int))=m:=abw abq;refine ae (N:=11) (l:=[.string a,.int .i64 (m:Int)]) Tryz.func170 rfl rfl (by simp) ?_;refine aj ?_;refine tV ?_;rintro e_ w6 ⟨A6,c6,rfl,hown_,hb_⟩;refine ⟨_,rfl, ?_⟩;replace hh:=hh.aD (x:=.row _ _ _ _ _ _) hb_ hown_;refine aj ?_;rw [e1];refine au (th _ _ _ m (aK 18446744073709551616 (bN a)) _ (hh.ao (i:=0) rfl) (gM _) abq hm) ak.out rfl abr ?_;rintro e_ w9 ⟨A9,c9,rfl,hown_,hb_⟩;refine ⟨_,rfl, ?_⟩;replace hh:=hh.aD (x:=.row _ _ _ _ _ _) hb_ hown_;rw [eB] at*;refine aZ hh (fj _ _ _ (aK 18446744073709551616 (bN a*2^m)) _ (hh.ao (i:=0) rfl) (gM _) (hh.fh (i:=0) rfl) abq) rfl ?_;intro w10 hh;rw [eB];refine aj ?_;exact ⟨rfl,hh.below⟩
theorem rX (n m:Nat):bf (n/2^m)≤bf n:=by
 apply cW;exact acB (adM _ _) (cw n)
theorem AW (a:ByteArray) (m:Nat) (w:World) (ha:a.size≤1000000000) (hm:m≤1000000000000):
  Calls Tryz.prog 171 #[.string a,.int .i64 (m:Int)] w fun e w'=>e=.returned (.string (sN (bN a/2^m)))∧Below w.heap.size w w':=by
 have hh:=Hp.start w;have h1:=fM a;have h2:=yj (bN a/2^m);have h3:=rX (bN a) m;have h4:=g6 a;have e1:(if (0:Int)>(m:Int) then 0 else (m:Int))=m:=abw abq;refine ae (N:=11) (l:=[.string a,.int .i64 (m:Int)]) Tryz.func171 rfl rfl (by simp) ?_;refine aj ?_;refine tV ?_;rintro e_ w6 ⟨A6,c6,rfl,hown_,hb_⟩;refine ⟨_,rfl, ?_⟩;replace hh:=hh.aD (x:=.row _ _ _ _ _ _) hb_ hown_;refine aj ?_;rw [e1];refine au (uy _ _ _ m (aK 18446744073709551616 (bN a)) _ (hh.ao (i:=0) rfl) (gM _) (hh.fh (i:=0) rfl) abq hm) ak.out rfl abr ?_;rintro e_ w9 ⟨A9,c9,rfl,hown_,hb_⟩;refine ⟨_,rfl, ?_⟩;replace hh:=hh.aD (x:=.row _ _ _ _ _ _) hb_ hown_;rw [eB] at*;refine aZ hh (fj _ _ _ (aK 18446744073709551616 (bN a/2^m)) _ (hh.ao (i:=0) rfl) (gM _) (hh.fh (i:=0) rfl) abq) rfl ?_;intro w10 hh;rw [eB];refine aj ?_;exact ⟨rfl,hh.below⟩
theorem Rl {x y:Nat} (h:y≤x):CJ 18446744073709551616 (aK 18446744073709551616 x) (aK 18446744073709551616 y) 0=0∧aU 18446744073709551616 (qG 18446744073709551616 (aK 18446744073709551616 x) (aK 18446744073709551616 y) 0)=x-y:=by
 have:=Ez (B:=18446744073709551616) abq (aK 18446744073709551616 x) (aK 18446744073709551616 y) 0 (gM _) (gM _) abq (by rw [eB,eB];omega);rw [eB,eB] at this;exact ⟨this.2,abq⟩
theorem rL (a b:ByteArray) (w:World) (ha:a.size≤1000000000) (hb:b.size≤1000000000):
  Calls Tryz.prog 201 #[.string a,.string b] w fun e w'=>e=.returned (.tuple #[.string (sN (bN a-bN b)),.bool (decide (bN b≤bN a))])∧Below w.heap.size w w':=by
 have hh:=Hp.start w;have h1:=fM a;have h2:=fM b;by_cases hlt:bN a<bN b
 ·refine ae (N:=21) (l:=[.string a,.string b]) Tryz.func201 rfl rfl (by simp) ?_;refine aj ?_;refine tV ?_;rintro e_ w9 ⟨A9,c9,rfl,hown_,hb_⟩;refine ⟨_,rfl, ?_⟩;replace hh:=hh.aD (x:=.row _ _ _ _ _ _) hb_ hown_;refine mS ?_;refine Jb ?_;rintro e_ w11 ⟨A11,c11,rfl,hown_,hb_⟩;refine ⟨_,rfl, ?_⟩;replace hh:=hh.aD (x:=.row _ _ _ _ _ _) hb_ hown_;refine aj ?_;refine Eu ?_;intro w14 hh;rw [eB,eB,lN hlt];exact Ux
 ·obtain ⟨s1,s2⟩:=Rl (aeS hlt);have hc:¬jA (bN a) (bN b)<0:=by unfold jA;split<;>(try split)<;>omega
  refine ae (N:=21) (l:=[.string a,.string b]) Tryz.func201 rfl rfl (by simp) ?_;refine aj ?_;refine tV ?_;rintro e_ w9 ⟨A9,c9,rfl,hown_,hb_⟩;refine ⟨_,rfl, ?_⟩;replace hh:=hh.aD (x:=.row _ _ _ _ _ _) hb_ hown_;refine mS ?_;refine Jb ?_;rintro e_ w11 ⟨A11,c11,rfl,hown_,hb_⟩;refine ⟨_,rfl, ?_⟩;replace hh:=hh.aD (x:=.row _ _ _ _ _ _) hb_ hown_;refine aj ?_;refine Eu ?_;intro w14 hh;rw [eB,eB];refine aj ?_;replace hh:=hh.front 1 rfl;rw [←acg (aK 18446744073709551616 (bN a)),←abC (aK 18446744073709551616 (bN a))] at hh;have hll:=(hh.SF (i:=0) rfl);rw [abC,acg] at hll;refine au (om [] (aK 18446744073709551616 (bN a)) [] (aK 18446744073709551616 (bN b)) _ hh (fun w1 cs h=>h.ao (i:=1) rfl) (gM _) (gM _) abq abq s1) ak.out rfl abr ?_;rintro e_ w_ ⟨rfl,hh⟩;refine ⟨_,rfl, ?_⟩;simp only [abC,acg] at hh;refine aj ?_;refine aZ hh (fj _ _ _ (qG 18446744073709551616 (aK 18446744073709551616 (bN a)) (aK 18446744073709551616 (bN b)) 0) _ (hh.ao (i:=0) rfl) (H3 abq _ _ _) (hh.fh (i:=0) rfl) abq) rfl ?_;intro w20 hh;rw [s2];refine aj ?_;rw [abQ abq];exact ⟨rfl,hh.below⟩
theorem Bp (a b:ByteArray) (w:World) (ha:a.size≤1000000000) (hb:b.size≤1000000000):
  Calls Tryz.prog 181 #[.string a,.string b] w fun e w'=>e=.returned (.string (sN (bN a*bN b)))∧Below w.heap.size w w':=by
 have hh:=Hp.start w;have h1:=fM a;have h2:=fM b;refine ae (N:=37) (l:=[.string a,.string b]) Tryz.func181 rfl rfl (by simp) ?_;refine aj ?_;refine tV ?_;rintro e_ w11 ⟨A11,c11,rfl,hown_,hb_⟩;refine ⟨_,rfl, ?_⟩;replace hh:=hh.aD (x:=.row _ _ _ _ _ _) hb_ hown_;refine mS ?_;refine Jb ?_;rintro e_ w13 ⟨A13,c13,rfl,hown_,hb_⟩;refine ⟨_,rfl, ?_⟩;replace hh:=hh.aD (x:=.row _ _ _ _ _ _) hb_ hown_;have hxd:=gM (bN a);have hyd:=gM (bN b);have hX:=eB (bN a);have hY:=eB (bN b);generalize aK 18446744073709551616 (bN a)=xs at*;generalize aK 18446744073709551616 (bN b)=ys at*;refine aj ?_;refine fy (n:=xs.length+ys.length+1) hh rfl rfl abq abq bq.out az.out rfl abq abq abr ?_;intro Ww w20 hh;refine aj ?_;rw [lH] at hh;refine aH [8,9,23,24,25,26,27,28,29,30,31,32,33,34] 23
  (fun v w'=>∃(i:Nat) (L:List Nat),i≤xs.length∧v=.int .i64 i∧Dg 18446744073709551616 L∧L.length=xs.length+ys.length+1∧aU 18446744073709551616 L=aU 18446744073709551616 (xs.take i)*aU 18446744073709551616 ys∧Hp w [.row (some ⟨Ww,0,none⟩) (xs.length+ys.length+1) (xs.length+ys.length+1) 160 1 (cm L),.row (some ⟨A13,0,none⟩) ys.length c13 160 1 (cm ys),.row (some ⟨A11,0,none⟩) xs.length c11 160 1 (cm xs)] w')
  (fun v _=>xs.length-(intOf v).toNat) ?_ ?_
 ·exact ⟨0,_,abB _,rfl,Dg.eI abq _,by simp,by simp [j0,aU],hh⟩
 ·clear hh;rintro ρ' v w' ⟨i,L,hi,rfl,hLd,hLl,hLv,hh⟩;by_cases hlt:i<xs.length
  ·obtain ⟨m,hm⟩:=ai (l:=xs) (k:=i) abq;have hm2:=dZ hm;have hmw:=hxd.at_ hm;have hpl:(L.take i).length=i:=by rw [abP];omega
   have hsl:(L.drop i).length=xs.length+ys.length+1-i:=by rw [acJ];omega
   refine aj ?_;refine bG az.out rfl (hh.ff (i:=2) rfl (by first|assumption|(simp only [abZ];assumption))) abr ?_;refine aj ?_;refine GN (l:=i) bq.out az.size rfl rfl abq abq abq abq abr ?_;refine aj ?_;have hc:=oM (c':=xs.length+ys.length+1-i) (ny:=ys.length) (cy:=c13) (m:=m) (Y:=some ⟨A13,0,none⟩) (L.take i) (L.drop i) [] ys _ (by rw [acg,acH];exact hh) (fun w1 cs h=>h.ao (i:=1) rfl) (hLd.drop i) hyd hmw abq abq;rw [hpl,hsl,acg] at hc;rw [ab2,abZ];refine au (hc) ak.out rfl abr ?_;rintro e_ w_ ⟨rfl,hh⟩;refine ⟨_,rfl, ?_⟩;have hlt1:=gi (hxd.take (i+1));have hlt2:=gi hyd;rw [abP,acQ abq] at hlt1;have hsn:=gQ (B:=18446744073709551616) hm;have hsplit:=gU (B:=18446744073709551616) L i abq;have hnew:18446744073709551616^i*(aU 18446744073709551616 (L.drop i)+aU 18446744073709551616 ys*m+0)+aU 18446744073709551616 (L.take i)=aU 18446744073709551616 (xs.take (i+1))*aU 18446744073709551616 ys:=by
    rw [hsn,adJ,←hLv,hsplit,acY,acw,acE,abU m];omega
   have hbd:aU 18446744073709551616 (L.drop i)+aU 18446744073709551616 ys*m+0<18446744073709551616^(L.drop i).length:=by
    refine Nat.lt_of_mul_lt_mul_left (a:=18446744073709551616^i) ?_;rw [←ab5,hsl];refine acB (Nat.le_add_right _ (aU 18446744073709551616 (L.take i))) ?_;rw [hnew];refine acu (ae0 hlt1 hlt2) ?_;rw [←ab5];exact ach abr abq
   have hdp:=tU (B:=18446744073709551616) abq _ _ _ _ hbd;refine aj ?_;refine ⟨⟨i+1,L.take i++il 18446744073709551616 (L.drop i) ys m 0,abq,rfl,(hLd.take i).append (wE abq _ _ _ _),by rw [abJ,nw,hpl,hsl];omega, ?_,hh⟩,by show xs.length-(i+1)<xs.length-i;omega, ?_⟩
   ·rw [cI,hdp,hpl,adD];exact hnew
   exact abu
  ·obtain rfl:i=xs.length:=abq;rw [aez,hX,hY] at hLv;refine aj ?_;refine aZ hh (fj _ _ _ L _ (hh.ao (i:=0) rfl) hLd (abD _) abq) rfl ?_;intro w36 hh;rw [hLv];refine aj ?_;exact ⟨rfl,hh.below⟩
theorem SK {d r:Nat} (hd:d≠0) (hdw:d<18446744073709551616) (hn:n=18446744073709551616^k*(d+18446744073709551616*r)):tz n=64*k+tz d:=by
 obtain ⟨m,hm⟩:=vv hd;have ht:tz d<64:=zg hd (by simpa using hdw);have hW:(18446744073709551616:Nat)=2^64:=by decide
 generalize tz d=t at*;have e:n=2^(64*k+t)*(2*(m+2^(63-t)*r)+1):=by
  rw [hn,ab5,acv,←hW,acE];congr 1;have h1:18446744073709551616=2^t*(2*2^(63-t)):=by rw [hW,←Nat.pow_succ',←ab5];congr 1;omega
  have h2:18446744073709551616*r=2^t*(2*2^(63-t)*r):=by rw [←acE,←h1]
  rw [h2]
  conv=>lhs;rw [hm]
  rw [←acw];congr 1;rw [acw,acE];omega
 rw [e,Ja]
theorem lr (a:ByteArray) (w:World) (ha:a.size≤1000000000) (hT:dq w):
  Calls Tryz.prog 128 #[.string a] w fun e w'=>e=.returned (.int .i64 (tz (bN a)))∧Below w.heap.size w w':=by
 have hh:=Hp.start w;have h1:=fM a;refine ae (N:=21) (l:=[.string a]) Tryz.func128 rfl rfl (by simp) ?_;refine aj ?_;refine tV ?_;rintro e_ w6 ⟨A6,c6,rfl,hown_,hb_⟩;refine ⟨_,rfl, ?_⟩;replace hh:=hh.aD (x:=.row _ _ _ _ _ _) hb_ hown_;have hxd:=gM (bN a);have hX:=eB (bN a);generalize aK 18446744073709551616 (bN a)=xs at*;refine aj ?_;refine aH [2,3,4,8,9,10,11,12,13,14,15,16,17,18,19,20] 8
  (fun v w'=>∃(i:Nat),i≤xs.length∧v=.int .i64 i∧aU 18446744073709551616 (xs.take i)=0∧Hp w [.row (some ⟨A6,0,none⟩) xs.length c6 160 1 (cm xs)] w')
  (fun v _=>xs.length-(intOf v).toNat) ?_ ?_
 ·exact ⟨0,abB _,rfl,rfl,hh⟩
 ·clear hh;rintro ρ' v w' ⟨i,hi,rfl,hz,hh⟩;by_cases hlt:i<xs.length
  ·obtain ⟨d,hm⟩:=ai (l:=xs) (k:=i) abq;have hm2:=dZ hm;have hmw:=hxd.at_ hm;by_cases h0:d=0
   ·subst h0;refine aj ?_;refine lF ?_;refine aj ?_;refine ⟨⟨i+1,abq,rfl,by rw [gQ hm,hz];simp,hh⟩,by show xs.length-(i+1)<xs.length-i;omega, ?_⟩;exact dI
   ·have htz:tz (bN a)=64*i+tz d:=by
     have h3:=gU (B:=18446744073709551616) xs i abq;have h4:=(abM.1 hm);rw [hz,ady hlt,h4.2,aU,hX,ab2] at h3;exact SK h0 hmw h3
    have ht:tz d<64:=zg h0 (by simpa using hmw);refine aj ?_;refine lF ?_;refine aj ?_;refine aZ hh (G3 _ _ hmw h0 (hT.hp hh)) rfl ?_;intro w18 hh;refine aj ?_;refine ⟨?_,hh.below⟩;congr 2;omega
  ·refine aj ?_;rw [abG abq,hX] at hz;rw [hz];exact ⟨rfl,hh.below⟩
theorem QV {x y:Nat} (hx:x<18446744073709551616^k) (hy:y<18446744073709551616^k):aU 18446744073709551616 (il 18446744073709551616 (aK 18446744073709551616 x++List.replicate (k+1-(aK 18446744073709551616 x).length) 0) (aK 18446744073709551616 y) 1 0)=x+y:=by
 have hl:=fQ (B:=18446744073709551616) abq hx;have h1:aU 18446744073709551616 (aK 18446744073709551616 x++List.replicate (k+1-(aK 18446744073709551616 x).length) 0)=x:=by rw [cI,j0,eB];simp
 have h2:(aK 18446744073709551616 x++List.replicate (k+1-(aK 18446744073709551616 x).length) 0).length=k+1:=by rw [abJ,acL];omega
 rw [tU abq,h1,eB]
 ·omega
 ·rw [h1,h2,eB,acr];have:0<18446744073709551616^k:=ab7 abr;omega
theorem tw (l:List Nat) (x:Nat):(l++[x]).sum=l.sum+x:=by simp
theorem Bx (L:Option Addr) (n c:Nat) (ss:List ByteArray) (w:World) (hS:Sl w L n 1 (Ew ss)) (hn:n≤1000000) (hs:∀s∈ss,s.size≤1000000000):
  Calls Tryz.prog 199 #[.slice L n c] w fun e w'=>e=.returned (.string (sN (ss.map bN).sum))∧Below w.heap.size w w':=by
 have hsl:ss.length=n:=by have:=hS.1;rw [uk] at this;omega
 have hh:=Hp.start w;refine ae (N:=31) (l:=[.slice L n c]) Tryz.func199 rfl rfl (by simp) ?_;refine aj ?_;replace hh:=hh.cJ 160 1;refine bk [3,5,6,9,10,11,12,13,14,15,16,17,18,19,20,21,22,23,24,25,26,27,28] 3 9
  (fun v j w'=>∃(i:Nat) (A:Option Addr) (c' T:Nat),i≤n∧j=.int .i64 i∧T=((ss.take i).map bN).sum∧v=.slice A (aK 18446744073709551616 T).length c'∧(aK 18446744073709551616 T).length≤125000001+i∧Hp w [.row A (aK 18446744073709551616 T).length c' 160 1 (cm (aK 18446744073709551616 T))] w')
  (fun _ j _=>n-(intOf j).toNat) ?_ ?_
 ·exact ⟨0,none,0,0,abB _,rfl,rfl,by rw [iz abq];rfl,by rw [iz abq];simp,by rw [iz abq];exact hh⟩
 ·clear hh;rintro ρ' v j w' ⟨i,A,c',T,hi,rfl,hT,rfl,hTl,hh⟩;by_cases hlt:i<n
  ·obtain ⟨s,hsi⟩:=ai (l:=ss) (k:=i) abq;obtain ⟨ad,rfl,hr⟩:=hS.at_ abq;have hs2:=IQ hsi;have hsz:=hs s (abz hsi);have hlx:=fM s;have hT2:((ss.take (i+1)).map bN).sum=T+bN s:=by rw [al hsi,acM,aek,tw,hT]
   have e1:(if ((aK 18446744073709551616 (bN s)).length:Int)>((aK 18446744073709551616 T).length:Int) then ((aK 18446744073709551616 (bN s)).length:Int) else ((aK 18446744073709551616 T).length:Int))+1=((max (aK 18446744073709551616 T).length (aK 18446744073709551616 (bN s)).length+1:Nat):Int):=by split<;>omega
   have hb1:T<18446744073709551616^max (aK 18446744073709551616 T).length (aK 18446744073709551616 (bN s)).length:=acu (m0 abq T) (ach abr (Nat.le_max_left _ _));have hb2:bN s<18446744073709551616^max (aK 18446744073709551616 T).length (aK 18446744073709551616 (bN s)).length:=acu (m0 abq (bN s)) (ach abr (Nat.le_max_right _ _));have hadd:=QV hb1 hb2;refine aj ?_;refine o9 ?_;refine aj ?_;refine au (jd s _ hsz) ak.out rfl abr ?_;rintro e_ w14 ⟨A14,c14,rfl,hown_,hb_⟩;refine ⟨_,rfl, ?_⟩;replace hh:=hh.aD (x:=.row _ _ _ _ _ _) hb_ hown_;refine aj ?_;rw [e1];generalize hM:max (aK 18446744073709551616 T).length (aK 18446744073709551616 (bN s)).length=M at*;refine au (mf _ _ _ (M+1) _ _ (hh.ao (i:=1) rfl) abq abq) ak.out rfl abr ?_;rintro e_ w_ ⟨b22,rfl,hown_,hb_⟩;refine ⟨_,rfl, ?_⟩;replace hh:=hh.aD (x:=.row _ _ _ _ _ _) hb_ hown_;have e2:max (M+1) (aK 18446744073709551616 T).length=M+1:=abq;rw [e2] at hh;rw [e2];refine aj ?_
   have hc:=FG (c':=M+1) (ny:=(aK 18446744073709551616 (bN s)).length) (cy:=c14) (Y:=some ⟨A14,0,none⟩) [] (aK 18446744073709551616 T++List.replicate (M+1-(aK 18446744073709551616 T).length) 0) [] (aK 18446744073709551616 (bN s)) _ (by rw [acg,abC];exact hh) (fun w1 cs h=>h.ao (i:=1) rfl) ((gM _).append (Dg.eI abq _)) (gM _) (by rw [abJ,acL];omega) abq;have e3:(aK 18446744073709551616 T++List.replicate (M+1-(aK 18446744073709551616 T).length) 0).length=M+1:=by rw [abJ,acL];omega
   rw [e3,acg,abC] at hc;refine au (hc) ak.out rfl abr ?_;rintro e_ w_ ⟨rfl,hh⟩;refine ⟨_,rfl, ?_⟩;have hpl:(il 18446744073709551616 (aK 18446744073709551616 T++List.replicate (M+1-(aK 18446744073709551616 T).length) 0) (aK 18446744073709551616 (bN s)) 1 0).length=M+1:=by rw [nw,e3]
   have hpd:=wE (B:=18446744073709551616) abq (aK 18446744073709551616 T++List.replicate (M+1-(aK 18446744073709551616 T).length) 0) (aK 18446744073709551616 (bN s)) 1 0;generalize il 18446744073709551616 (aK 18446744073709551616 T++List.replicate (M+1-(aK 18446744073709551616 T).length) 0) (aK 18446744073709551616 (bN s)) 1 0=Z at*;have hcz:dR Z=aK 18446744073709551616 (T+bN s):=by rw [jn abq hpd,hadd]
   have hcl:=eJ Z;refine aj ?_;refine aZ hh (fL _ _ _ Z _ (hh.ao (i:=0) rfl) (abD _) abq) rfl ?_;intro w27 hh;replace hh:=(hh.HV hpl).sub (List.sublist_append_left [_] _);rw [hcz] at*;refine aj ?_;refine ⟨⟨i+1,_,_,T+bN s,abq,rfl,hT2.symm,rfl,abq,hh⟩,by show n-(i+1)<n-i;omega, ?_⟩;exact dI
  ·refine aj ?_;refine aZ hh (fj _ _ _ (aK 18446744073709551616 T) _ (hh.ao (i:=0) rfl) (gM _) (hh.fh (i:=0) rfl) abq) rfl ?_;intro w30 hh;rw [eB];refine aj ?_;rw [abG abq] at hT;rw [hT];exact ⟨rfl,hh.below⟩
theorem GP (s:ByteArray) (l h:Nat):s.extract l h=str ((s.data.toList.take h).drop l):=by
 apply wj;rw [dH];simp [ByteArray.extract,ByteArray.copySlice,List.drop_take]
def U7:Value→Nat
 |.string t=>t.size
 |_=>0
theorem vR (s:ByteArray) (w:World):
  Calls Tryz.prog 235 #[.string s,.int .u8 ((0:UInt8).toNat:Int)] w fun e w'=>e=.returned (.string (sN (bN s)))∧Below w.heap.size w w':=by
 have hh:=Hp.start w;refine ae (N:=17) (l:=[.string s,.int .u8 ((0:UInt8).toNat:Int)]) Tryz.func235 rfl rfl (by simp) ?_;refine aj ?_;refine aH [0,5,6,7,8,9,10,11,12,13,14,15] 0
  (fun v w'=>∃l:List UInt8,v=.string (str l)∧l.length≤s.size∧bn l=bN s∧w'=w)
  (fun v _=>U7 v) ?_ ?_
 ·exact ⟨s.data.toList,by rw [Ma];rfl,by rw [dY];exact abD _,rfl,rfl⟩
 ·rintro ρ' v w' ⟨l,rfl,hl,hb,rfl⟩;have hsz:=ki l
  cases l with
  |nil=>
   refine aj ?_;rw [sN,←hb];exact ⟨rfl,hh.below⟩
  |cons c l=>
   have hc0:(str (c::l)).data.toList[(0:Int).toNat]?=some c:=by rw [dH];rfl
   have hc8:=c.toNat_lt;have hlen:(str (c::l)).size=l.length+1:=by rw [hsz];rfl
   have hz:(0:UInt8).toNat=0:=rfl;by_cases h0:c=0
   ·subst h0;refine aj ?_;refine ux (l:=1) (h:=(str ((0:UInt8)::l)).size) bq.out rfl ⟨_,_,rfl,abq⟩ rfl abq abq abr ?_;refine aj ?_;rw [GP,dH,abG (by rw [hlen];simp),List.drop_succ_cons,aeb];refine ⟨⟨l,rfl,by simp at hl;omega,by rw [←hb,OI],rfl⟩, ?_, ?_⟩
    ·show (str l).size<(str (0::l)).size;rw [hlen,ki];omega
    exact abu
   ·have hcn:c.toNat≠0:=fun h=>h0 (aeE.1 h);refine aj ?_;rw [sN,←hb,Yl (by simpa using h0)];exact ⟨rfl,hh.below⟩
theorem wH (s:ByteArray) (w:World):
  Calls Tryz.prog 214 #[.string s,.string (ByteArray.mk #[0])] w fun e w'=>e=.returned (.string (sN (bN s)))∧Below w.heap.size w w':=by
 have hh:=Hp.start w;have hne:¬ByteArray.mk #[(0:UInt8)]=ByteArray.mk #[]:=by intro h;injection h with h;simp at h
 have hsz1:(ByteArray.mk #[(0:UInt8)]).size=1:=rfl;have hc0:(ByteArray.mk #[(0:UInt8)]).data.toList[(0:Int).toNat]?=some 0:=rfl;have hz:(0:UInt8).toNat=0:=rfl;by_cases h0:s=ByteArray.mk #[]
 ·subst h0;refine ae (N:=37) (l:=[.string (ByteArray.mk #[]),.string (ByteArray.mk #[0])]) Tryz.func214 rfl rfl (by simp) ?_;refine aj ?_;refine jv rfl rfl (by first|rfl|assumption|decide) abr ?_;refine aj ?_;rw [show bN (ByteArray.mk #[])=0 from rfl,kG];exact ⟨rfl,hh.below⟩
 ·refine ae (N:=37) (l:=[.string s,.string (ByteArray.mk #[0])]) Tryz.func214 rfl rfl (by simp) ?_;refine aj ?_;refine ju rfl rfl (by first|assumption|decide) abr ?_;refine aj ?_
  (first|refine jv rfl rfl (by first|rfl|assumption|decide) abr ?_|refine ju rfl rfl (by first|assumption|decide) abr ?_)
  refine aj ?_;refine aZ hh (vR s _) rfl ?_;intro w25 hh;refine aj ?_;exact ⟨rfl,hh.below⟩
theorem mh (s:ByteArray) (w:World):
  Calls Tryz.prog 180 #[.string s] w fun e w'=>e=.returned (.string (sN (bN s)))∧Below w.heap.size w w':=by
 have hh:=Hp.start w;refine ae (N:=5) (l:=[.string s]) Tryz.func180 rfl rfl (by simp) ?_;refine aj ?_;refine aZ hh (wH s _) rfl ?_;intro w4 hh;refine aj ?_;exact ⟨rfl,hh.below⟩
variable {z:Int}
def iv (s:Bool) (m:ByteArray):Int:=if s then -(bN m:Int) else bN m
def iN (z:Int):Bool:=decide (z<0)
def iM (z:Int):ByteArray:=sN z.natAbs
theorem ee (z:Int):iv (iN z) (iM z)=z:=by
 unfold iv iN iM;rw [fI];by_cases h:z<0
 ·rw [abQ h,abx rfl];omega
 ·rw [abR h,abw (by simp)];omega
theorem uX:iM z=ByteArray.mk #[]↔z=0:=by
 rw [iM,←kG];constructor
 ·intro h;have:=GB h;omega
 ·intro h;rw [h];rfl
theorem lC (s:Bool) (m:ByteArray):(iv s m).natAbs=bN m:=by
 unfold iv;split<;>omega
theorem Jt (s:Bool) (m:ByteArray):iM (iv s m)=sN (bN m):=by rw [iM,lC]
theorem T6 (s:Bool) (m:ByteArray):iN (iv s m)=(s && decide (bN m≠0)):=by
 unfold iN iv;rw [Bool.eq_iff_iff,abS,ab1,ab1]
 cases s
 ·simp only [aey,if_false,false_and,iff_false];omega
 ·simp only [if_true,true_and];omega
theorem kV (s:Bool) (m:ByteArray) (w:World):
  Calls Tryz.prog 135 #[.agg #[.bool s,.string m]] w fun e w'=>e=.returned (.agg #[.string m,.bool s])∧Below w.heap.size w w':=by
 have hh:=Hp.start w;refine ae (N:=8) (l:=[.agg #[.bool s,.string m]]) Tryz.func135 rfl rfl (by simp) ?_;refine lK ?_;intro b1 w1 hh b2 w2 hh ws hh;exact UB
theorem dL (s:Bool) (m:ByteArray) (w:World):
  Calls Tryz.prog 130 #[.agg #[.string m,.bool s]] w fun e w'=>e=.returned (.agg #[.bool (iN (iv s m)),.string (iM (iv s m))])∧Below w.heap.size w w':=by
 have hh:=Hp.start w;rw [T6,Jt]
 cases s with
 |false=>
  refine ae (N:=15) (l:=[.agg #[.string m,.bool false]]) Tryz.func130 rfl rfl (by simp) ?_;refine bX ?_;intro b1 w1 hh b2 w2 hh;refine aZ hh (mh m _) rfl ?_;intro w6 hh;exact uR
 |true=>
  by_cases h0:sN (bN m)=ByteArray.mk #[]
  ·refine ae (N:=15) (l:=[.agg #[.string m,.bool true]]) Tryz.func130 rfl rfl (by simp) ?_;refine bX ?_;intro b1 w1 hh b2 w2 hh;refine aZ hh (mh m _) rfl ?_;intro w6 hh;refine aj ?_
   (first|refine jr rfl rfl (by first|rfl|assumption|decide) abr ?_|refine jm rfl rfl (by first|assumption|decide) abr ?_)
   refine bT ?_;intro ws hh;refine rE ?_;exact UF
  ·refine ae (N:=15) (l:=[.agg #[.string m,.bool true]]) Tryz.func130 rfl rfl (by simp) ?_;refine bX ?_;intro b1 w1 hh b2 w2 hh;refine aZ hh (mh m _) rfl ?_;intro w6 hh;refine aj ?_
   (first|refine jr rfl rfl (by first|rfl|assumption|decide) abr ?_|refine jm rfl rfl (by first|assumption|decide) abr ?_)
   refine bT ?_;intro ws hh;refine rE ?_;exact Ug
def aaT (s:Bool) (m:ByteArray):Value:=.agg #[.string m,.bool s]
theorem wA (a b:ByteArray) (w:World) (ha:a.size≤1000000000) (hb:b.size≤1000000000):
  Calls Tryz.prog 200 #[.string a,.string b] w fun e w'=>e=.returned (.int .i64 (jA (bN a) (bN b)))∧Below w.heap.size w w':=by
 have hh:=Hp.start w;refine ae (N:=8) (l:=[.string a,.string b]) Tryz.func200 rfl rfl (by simp) ?_;refine aj ?_;refine aZ hh (Ci a b _ ha hb) rfl ?_;intro w7 hh;refine aj ?_;exact ⟨rfl,hh.below⟩
theorem ji (s:Bool) (m:ByteArray) (w:World):
  Calls Tryz.prog 134 #[.agg #[.bool s,.string m]] w fun e w'=>e=.returned (.agg #[.bool (iN (iv s m)),.string (iM (iv s m))])∧Below w.heap.size w w':=by
 have hh:=Hp.start w;refine ae (N:=6) (l:=[.agg #[.bool s,.string m]]) Tryz.func134 rfl rfl (by simp) ?_;refine bX ?_;intro b1 w1 hh b2 w2 hh;refine aZ hh (kV s m _) rfl ?_;intro w4 hh;refine aZ hh (dL s m _) rfl ?_;intro w5 hh;exact uR
theorem jT (s:Bool) (m:ByteArray) (w:World):
  Calls Tryz.prog 90 #[.agg #[.bool s,.string m]] w fun e w'=>e=.returned (.agg #[.bool (iN (-(iv s m))),.string (iM (-(iv s m)))])∧Below w.heap.size w w':=by
 have hh:=Hp.start w;have e1:iv (!s) m= -(iv s m):=by unfold iv;cases s<;>simp
 refine ae (N:=10) (l:=[.agg #[.bool s,.string m]]) Tryz.func90 rfl rfl (by simp) ?_;refine bX ?_;intro b1 w1 hh b2 w2 hh;refine aZ hh (dL (!s) m _) rfl ?_;intro w9 hh;rw [e1];exact uR
theorem jt (s:Bool) (m:ByteArray) (w:World):
  Calls Tryz.prog 89 #[.agg #[.bool s,.string m]] w fun e w'=>e=.returned (.int .i64 (iv s m).sign)∧Below w.heap.size w w':=by
 have hh:=Hp.start w;by_cases h1:iv s m<0
 ·have hn:iN (iv s m)=true:=abQ h1;refine OS ?_;refine bT ?_;intro b1 w1 hh;refine aZ hh (ji s m _) rfl ?_;intro w5 hh;rw [hn];refine bX ?_;intro b3 w3 hh ws hh;exact ⟨by rw [adb h1],hh.below⟩
 ·have hn:iN (iv s m)=false:=abR h1;by_cases h0:iM (iv s m)=ByteArray.mk #[]
  ·refine OS ?_;refine bT ?_;intro b1 w1 hh;refine aZ hh (ji s m _) rfl ?_;intro w5 hh;rw [hn];refine bX ?_;intro b3 w3 hh ws hh;refine jv rfl rfl (by first|rfl|assumption|decide) abr ?_;refine aj ?_;exact ⟨by rw [uX.1 h0];rfl,hh.below⟩
  ·have h2:0<iv s m:=by
    have:iv s m≠0:=fun h=>h0 (uX.2 h);omega
   refine OS ?_;refine bT ?_;intro b1 w1 hh;refine aZ hh (ji s m _) rfl ?_;intro w5 hh;rw [hn];refine bX ?_;intro b3 w3 hh ws hh;refine ju rfl rfl (by first|assumption|decide) abr ?_;refine aj ?_;exact ⟨by rw [adi h2],hh.below⟩
theorem dn (z:Int):(iM z).size=(bf z.natAbs+7)/8:=kf _
def Ad (s t:Bool) (a b:ByteArray):Bool:=if s=t then s else if bN a<bN b then t else s
theorem Rc (s t:Bool) (a b:ByteArray):iv (Ad s t a b) (iM (iv s a+iv t b))=iv s a+iv t b:=by
 unfold iM iv;rw [fI];unfold Ad
 cases s<;>cases t<;>simp<;>(try split)<;>(try simp)<;>omega
theorem Eo (s t:Bool) (a b:ByteArray):iv (s !=t) (iM (iv s a*iv t b))=iv s a*iv t b:=by
 rw [iM,adu,lC,lC];unfold iv;rw [fI]
 cases s<;>cases t<;>simp [aew,Int.neg_mul]
theorem En (s t:Bool) (a b:ByteArray) (w:World) (ha:a.size≤1000000000) (hb:b.size≤1000000000):
  Calls Tryz.prog 162 #[.agg #[.string a,.bool s],.agg #[.string b,.bool t]] w fun e w'=>e=.returned (.agg #[.string (iM (iv s a+iv t b)),.bool (Ad s t a b)])∧Below w.heap.size w w':=by
 have hh:=Hp.start w;have hiv:∀(u:Bool) (n:Nat) (z:Int),(z=if u then -(n:Int) else n)→sN n=iM z:=by
  intro u n z hz;have h1:z.natAbs=n:=by rw [hz];split<;>omega
  rw [iM,h1]
 by_cases hst:s=t
 ·subst hst;have e1:=hiv s (bN a+bN b) (iv s a+iv s b) (by unfold iv;split<;>omega);refine ae (N:=41) (l:=[.agg #[.string a,.bool s],.agg #[.string b,.bool s]]) Tryz.func162 rfl rfl (by simp) ?_;refine lK ?_;intro b2 w2 hh b3 w3 hh b4 w4 hh;refine H5 bq.out rfl rfl (by first|rfl|assumption) abr ?_;refine aj ?_;refine aC 8 [[(2,none)],[(12,some 0)],[(3,none)],[(14,some 2)],[(13,some 1),(15,some 3)],[(16,some 4)],[(2,none)],[(18,some 6)]] [(7,19),(6,18),(5,17),(4,16),(3,15),(2,14),(1,13),(0,12)] hh mixed abt ?_;refine dw ?_;refine fF 2 ?_;refine dw ?_;refine fF 1 ?_;refine uW [_,_] ?_;refine aW (i:=5) (Is (.string (sN (bN a+bN b)))) Is.ext ?_ ?_
  ·intro ρ1 w1 hj hR;obtain ⟨A16,c16,h16,s16⟩:=hR.1;exact bp rfl (aR ak.out (aq h16 aY)) (Bx A16 2 c16 [a,b] _ s16 abq (by simp;omega)) (fun _ _ hq=>⟨_,hq.1,hq.2,rfl⟩)
  refine dw ?_;refine fF 2 ?_;refine av ?_;intro f W hJ hV;have hb_2:=hJ.bl;obtain ⟨v19,v18,v17,v16,v15,v14,v13,v12,_⟩:=hV;obtain ⟨A16,c16,e16,f16⟩:Rows _ _ _ (f 4) W:=v16;replace hh:=hJ.hp;refine ay (aQ (aa v19 (aa v18 (aa v17 (aa e16 (aa v15 (aa v14 (aa v13 (aa v12 aw))))))))) ?_;dsimp only [bA];clear e16 hJ;refine bT ?_;intro ws hh;refine rE ?_;rw [e1,Ad,abx rfl];exact ⟨rfl,hh.below⟩
 ·by_cases hlt:bN a<bN b
  ·have e1:=hiv t (bN b-bN a) (iv s a+iv t b) (by unfold iv;cases s<;>cases t<;>simp at hst ⊢ <;>omega);refine ae (N:=41) (l:=[.agg #[.string a,.bool s],.agg #[.string b,.bool t]]) Tryz.func162 rfl rfl (by simp) ?_;refine lK ?_;intro b2 w2 hh b3 w3 hh b4 w4 hh;refine Ji ?_;refine aj ?_;refine aZ hh (wA a b _ ha hb) rfl ?_;intro w25 hh;rw [lN hlt];refine bX ?_;intro ws hh ws hh;refine aZ hh (rL b a _ hb ha) rfl ?_;intro w34 hh;refine bT ?_;intro ws hh;refine rE ?_;rw [e1,Ad,abw hst,abx hlt];exact ⟨rfl,hh.below⟩
  ·have e1:=hiv s (bN a-bN b) (iv s a+iv t b) (by unfold iv;cases s<;>cases t<;>simp at hst ⊢ <;>omega);have hc:¬jA (bN a) (bN b)<0:=by unfold jA;split<;>(try split)<;>omega
   refine ae (N:=41) (l:=[.agg #[.string a,.bool s],.agg #[.string b,.bool t]]) Tryz.func162 rfl rfl (by simp) ?_;refine lK ?_;intro b2 w2 hh b3 w3 hh b4 w4 hh;refine Ji ?_;refine aj ?_;refine aZ hh (wA a b _ ha hb) rfl ?_;intro w25 hh;refine aj ?_;refine aZ hh (rL a b _ ha hb) rfl ?_;intro w34 hh;refine bT ?_;intro ws hh;refine rE ?_;rw [e1,Ad,abw hst,abw hlt];exact ⟨rfl,hh.below⟩
theorem rN (s t:Bool) (a b:ByteArray) (w:World) (ha:a.size≤1000000000) (hb:b.size≤1000000000):
  Calls Tryz.prog 136 #[.agg #[.string a,.bool s],.agg #[.string b,.bool t]] w fun e w'=>e=.returned (.agg #[.string (iM (iv s a*iv t b)),.bool (s !=t)])∧Below w.heap.size w w':=by
 have hh:=Hp.start w;have e0:(iv s a*iv t b).natAbs=bN a*bN b:=by rw [adu,lC,lC]
 have e1:iM (iv s a*iv t b)=sN (bN a*bN b):=by rw [iM,e0]
 refine ae (N:=16) (l:=[.agg #[.string a,.bool s],.agg #[.string b,.bool t]]) Tryz.func136 rfl rfl (by simp) ?_;refine lK ?_;intro b2 w2 hh b3 w3 hh b4 w4 hh;refine aC 10 [[(2,none)],[(5,some 0)],[(3,none)],[(7,some 2)],[(6,some 1),(8,some 3)],[(2,none)],[(10,some 5)],[(3,none)],[(12,some 7)],[(11,some 6),(13,some 8)]] [(9,14),(8,13),(7,12),(6,11),(5,10),(4,9),(3,8),(2,7),(1,6),(0,5)] hh mixed abt ?_;refine dw ?_;refine fF 2 ?_;refine dw ?_;refine fF 1 ?_;refine dC (fun _ hj=>Bp a b _ ha hb) ?_;refine dw ?_;refine fF 2 ?_;refine dw ?_;refine fF 1 ?_;refine a8 (i:=9) (fun ρ1 w1 hj hR=>nB bq.out (show ρ1 11=Value.bool _ from hR.1) (show ρ1 13=Value.bool _ from hR.2.1)) ?_;refine av ?_;intro f W hJ hV;have hb_1:=hJ.bl;obtain ⟨v14,v13,v12,v11,v10,v9,v8,v7,v6,v5,_⟩:=hV;replace hh:=hJ.hp;refine S2 ?_;dsimp only [bA];clear hJ;refine bT ?_;intro ws hh;refine rE ?_;rw [e1];exact ⟨rfl,hh.below⟩
theorem mm (n:Int) (w:World) (h1: -9223372036854775808≤n) (h2:n≤9223372036854775807):
  Calls Tryz.prog 79 #[.int .i64 n] w fun e w'=>e=.returned (.agg #[.bool (iN n),.string (iM n)])∧Below w.heap.size w w':=by
 have hh:=Hp.start w;by_cases h0:n<0
 ·have e1:iv true (sN n.natAbs)=n:=by unfold iv;rw [fI,abx rfl];omega
  have hw:IntKind.u64.wrap n=((18446744073709551616-n.natAbs:Nat):Int):=by
   rw [show n=((18446744073709551616-n.natAbs:Nat):Int)+ -((18446744073709551616:Nat):Int) by omega];have:=UK.wrap_add (k:=.u64) (((18446744073709551616-n.natAbs:Nat):Int)+ -((18446744073709551616:Nat):Int));rw [←this,Int.neg_add_cancel_right,UK.sc abq];omega
  have hn:(18446744073709551616-(18446744073709551616-n.natAbs)) % 18446744073709551616=n.natAbs:=abq;refine ae (N:=16) (l:=[.int .i64 n]) Tryz.func79 rfl rfl (by simp) ?_;refine bT ?_;intro b2 w2 hh;rw [hw];refine Pt rfl abq abr ?_;rw [hn];skip;refine aZ hh (uE n.natAbs _ abq) rfl ?_;intro w8 hh;refine aj ?_;refine aZ hh (dL true (sN n.natAbs) _) rfl ?_;intro w10 hh;rw [e1];exact uR
 ·obtain ⟨m,rfl⟩:=aeX (by omega:0≤n);have e1:iv false (sN m)=m:=by unfold iv;rw [fI];simp
  have hm:m<18446744073709551616:=abq;refine ae (N:=16) (l:=[.int .i64 (m:Int)]) Tryz.func79 rfl rfl (by simp) ?_;refine sr ?_;refine yU hh ?_;intro b2 w2 hh;refine aJ (bO (sr (mI ?_)));refine nP (aJ (cF (dA (eF (sr (mI ?_))))));refine mv ?_;refine aZ hh (uE m _ hm) rfl ?_;intro w13 hh;refine aj ?_;refine aZ hh (dL false (sN m) _) rfl ?_;intro w15 hh;rw [e1];exact uR
structure IR where
 neg:Bool
 aO:ByteArray
def IR.cells (a:IR):List Value:=[.bool a.neg,.string a.aO]
def IR.v (a:IR):Int:=iv a.neg a.aO
def iR (z:Int):IR:=⟨iN z,iM z⟩
theorem V4 (z:Int):(iR z).v=z:=ee z
theorem IR.len (a:IR):a.cells.length=2:=rfl
theorem nG (x y:Int):bf (x+y).natAbs≤max (bf x.natAbs) (bf y.natAbs)+1:=by
 apply cW;have h1:=cw x.natAbs;have h2:=cw y.natAbs;have h3:2^bf x.natAbs≤2^max (bf x.natAbs) (bf y.natAbs):=ach abq (Nat.le_max_left _ _);have h4:2^bf y.natAbs≤2^max (bf x.natAbs) (bf y.natAbs):=ach abq (Nat.le_max_right _ _);rw [acr];omega
theorem hQ (s:Bool) (m:ByteArray):bf (iv s m).natAbs≤8*m.size:=by rw [lC];exact g6 m
theorem Kl (l:List Int) (x:Int):(l++[x]).sum=l.sum+x:=by simp
theorem q7 (L:Option Addr) (n c:Nat) (l:List IR) (w:World) (hS:Sl w L n 2 (ar IR.cells l)) (hn:n≤1000000) (hs:∀s∈l,s.aO.size≤100000000):
  Calls Tryz.prog 112 #[.slice L n c] w fun e w'=>e=.returned (.agg #[.bool (iN (l.map IR.v).sum),.string (iM (l.map IR.v).sum)])∧Below w.heap.size w w':=by
 have hl:=hS.aX IR.len abq;have hh:=Hp.start w;refine ae (N:=19) (l:=[.slice L n c]) Tryz.func112 rfl rfl (by simp) ?_;refine bX ?_;intro b2 w2 hh b3 w3 hh;refine aH [5,8,9,10,11,12,13,14,15,16] 8
  (fun j w'=>∃(i:Nat) (u:Bool) (S:Int),i≤n∧j=.int .i64 i∧S=((l.take i).map IR.v).sum∧iv u (iM S)=S∧bf S.natAbs≤800000000+i∧Hp w [.blk b3 162 [.string (iM S),.bool u] (0,0),.blk b2 31 [.bool false,.string (ByteArray.mk #[])] (0,0)] w')
  (fun j _=>n-(intOf j).toNat) ?_ ?_
 ·exact ⟨0,false,0,abB _,rfl,rfl,by rw [iM];exact acm _ (fI 0),by simp [mJ],by rw [iM,Int.natAbs_zero,kG];exact hh⟩
 ·clear hh;rintro ρ' j w' ⟨i,u,S,hi,rfl,hS2,hu,hb,hh⟩;by_cases hlt:i<n
  ·obtain ⟨x,hx⟩:=ai (l:=l) (k:=i) abq;obtain ⟨ad,rfl,hr⟩:=hS.at_ abq;have hxs:=hs x (abz hx);have hS3:((l.take (i+1)).map IR.v).sum=S+x.v:=by rw [al hx,acM,aek,Kl,hS2]
   have hms:(iM S).size≤1000000000:=by rw [dn];omega
   have hbx:=hQ x.neg x.aO;have hba:=nG S x.v;have hpl:=Rc u x.neg (iM S) x.aO;rw [hu] at hpl;have hwc:=fun w1=>En u x.neg (iM S) x.aO w1 hms abq;rw [hu] at hwc;refine aj ?_;refine bF (vs:=[_,_]) az.out rfl (((hr.ext hh.below).recAt IR.len hx)) rfl abr ?_;refine bX ?_;intro b5 w5 hh ws hh;refine aC 3 [[(3,none)],[(5,none)],[(13,some 1)]] [(2,14),(1,13),(0,12)] hh mixed abt ?_;refine da 1 [_,_] ?_;refine da 0 [_,_] ?_;refine dC (fun _ hj=>kV x.neg x.aO _) ?_;refine av ?_;intro f W hJ hV;have hb_5:=hJ.bl;obtain ⟨v14,v13,v12,_⟩:=hV;replace hh:=hJ.hp;refine ay (aQ (aa v14 (aa v13 (aa v12 aw)))) ?_;dsimp only [bA];clear hJ;refine aZ hh (hwc _) rfl ?_;intro w15 hh;exact Uu
  ·refine aj ?_;refine aZ hh (dL u (iM S) _) rfl ?_;intro w18 hh;exact X3
theorem l3 (s:Bool) (b:ByteArray):(iM (-(iv s b))).size≤b.size:=by
 have:=hQ s b;rw [dn,Int.natAbs_neg];omega
theorem rf (s t:Bool) (a b:ByteArray) (w:World) (ha:a.size≤100000000) (hb:b.size≤100000000):
  Calls Tryz.prog 117 #[.agg #[.bool s,.string a],.agg #[.bool t,.string b]] w fun e w'=>e=.returned (.agg #[.bool (iN (iv s a-iv t b)),.string (iM (iv s a-iv t b))])∧Below w.heap.size w w':=by
 have hh:=Hp.start w;have h1:=l3 t b;have e1:([IR.mk s a,iR (-(iv t b))].map IR.v).sum=iv s a-iv t b:=by
  simp only [ab8,acF,aeK,List.sum_nil,V4];simp only [IR.v];omega
 refine ae (N:=10) (l:=[.agg #[.bool s,.string a],.agg #[.bool t,.string b]]) Tryz.func117 rfl rfl (by simp) ?_;refine lK ?_;intro b2 w2 hh b3 w3 hh b4 w4 hh;refine aC 3 [[(2,none)],[(3,none)],[(6,some 1)]] [(2,7),(1,6),(0,5)] hh mixed abt ?_;refine da 2 [_,_] ?_;refine da 1 [_,_] ?_;refine dC (fun _ hj=>jT t b _) ?_;refine av ?_;intro f W hJ hV;have hb_1:=hJ.bl;obtain ⟨v7,v6,v5,_⟩:=hV;replace hh:=hJ.hp;refine zG ?_;dsimp only [bA];clear hJ;refine zO ?_;intro b8 w8 hh;refine aZ hh (q7 _ 2 _ [IR.mk s a,iR (-(iv t b))] _ (hh.ao (i:=0) rfl) abq (by simp [iR];omega)) rfl ?_;intro w9 hh;rw [e1];exact La
theorem Gi (s t:Bool) (a b:ByteArray) (w:World) (ha:a.size≤100000000) (hb:b.size≤100000000):
  Calls Tryz.prog 69 #[.agg #[.bool s,.string a],.agg #[.bool t,.string b]] w fun e w'=>e=.returned (.int .i64 (iv s a-iv t b).sign)∧Below w.heap.size w w':=by
 have hh:=Hp.start w;refine ae (N:=9) (l:=[.agg #[.bool s,.string a],.agg #[.bool t,.string b]]) Tryz.func69 rfl rfl (by simp) ?_;refine bX ?_;intro b2 w2 hh b3 w3 hh;refine aZ hh (rf s t a b _ ha hb) rfl ?_;intro w7 hh;refine aZ hh (jt _ _ _) rfl ?_;intro w8 hh;rw [ee];refine aj ?_;exact ⟨rfl,hh.below⟩
theorem P7 (a b:Nat):bf (a*b)≤bf a+bf b:=by
 apply cW;rw [ab5];exact ae0 (cw a) (cw b)
theorem mW (a b:Int):bf (a*b).natAbs≤bf a.natAbs+bf b.natAbs:=by rw [adu];exact P7 _ _
def o5:List Int→Int
 |[]=>1
 |x::l=>x*o5 l
theorem GG (l:List Int) (x:Int):o5 (l++[x])=o5 l*x:=by
 induction l with
 |nil=>simp [o5]
 |cons y l ih=>simp only [abE,o5,ih,Int.mul_assoc]
theorem Ef (l:List Nat) (i:Nat):(l.take i).sum≤l.sum:=by
 rw [←List.sum_append_nat.symm.trans (acm List.sum (acH i l))];omega
theorem xp:bf 1=1:=by decide+kernel
theorem F0 (L:Option Addr) (n c:Nat) (l:List IR) (w:World) (hS:Sl w L n 2 (ar IR.cells l)) (hn:n≤1000000) (hs:(l.map fun a=>a.aO.size).sum≤100000000):
  Calls Tryz.prog 91 #[.slice L n c] w fun e w'=>e=.returned (.agg #[.bool (iN (o5 (l.map IR.v))),.string (iM (o5 (l.map IR.v)))])∧Below w.heap.size w w':=by
 have hl:=hS.aX IR.len abq;have hh:=Hp.start w;have hsum:=Ef (l.map fun a=>a.aO.size);refine ae (N:=21) (l:=[.slice L n c]) Tryz.func91 rfl rfl (by simp) ?_;refine bT ?_;intro b2 w2 hh;refine aZ hh (mm 1 _ abq abq) rfl ?_;intro w6 hh;refine aZ hh (kV _ _ _) rfl ?_;intro w7 hh;refine bX ?_;intro b3 w3 hh ws hh;refine aH [5,10,11,12,13,14,15,16,17,18] 10
  (fun j w'=>∃(i:Nat) (u:Bool) (S:Int),i≤n∧j=.int .i64 i∧S=o5 ((l.take i).map IR.v)∧iv u (iM S)=S∧bf S.natAbs≤1+8*((l.map fun a=>a.aO.size).take i).sum∧Hp w [.blk b3 162 [.string (iM S),.bool u] (0,0),.blk b2 31 [.bool false,.string (ByteArray.mk #[])] (0,0)] w')
  (fun j _=>n-(intOf j).toNat) ?_ ?_
 ·exact ⟨0,_,1,abB _,rfl,rfl,ee 1,by rw [Int.natAbs_one,xp];omega,hh⟩
 ·clear hh;rintro ρ' j w' ⟨i,u,S,hi,rfl,hS2,hu,hb,hh⟩;by_cases hlt:i<n
  ·obtain ⟨x,hx⟩:=ai (l:=l) (k:=i) abq;obtain ⟨ad,rfl,hr⟩:=hS.at_ abq;have hsi:=hsum i;have hsi2:=hsum (i+1);have hsz:((l.map fun a=>a.aO.size).take (i+1)).sum=((l.map fun a=>a.aO.size).take i).sum+x.aO.size:=by
    rw [al (x:=x.aO.size) (by rw [abI,hx];rfl),tw]
   have hS3:o5 ((l.take (i+1)).map IR.v)=S*x.v:=by rw [al hx,acM,aek,GG,hS2]
   have hms:(iM S).size≤1000000000:=by rw [dn];omega
   have hbx:=hQ x.neg x.aO;have hba:=mW S x.v;have hpl:=Eo u x.neg (iM S) x.aO;rw [hu] at hpl;have hwc:=fun w1=>rN u x.neg (iM S) x.aO w1 hms abq;rw [hu] at hwc;refine aj ?_;refine bF (vs:=[_,_]) az.out rfl (((hr.ext hh.below).recAt IR.len hx)) rfl abr ?_;refine bX ?_;intro b5 w5 hh ws hh;refine aC 3 [[(3,none)],[(5,none)],[(15,some 1)]] [(2,16),(1,15),(0,14)] hh mixed abt ?_;refine da 1 [_,_] ?_;refine da 0 [_,_] ?_;refine dC (fun _ hj=>kV x.neg x.aO _) ?_;refine av ?_;intro f W hJ hV;have hb_5:=hJ.bl;obtain ⟨v16,v15,v14,_⟩:=hV;replace hh:=hJ.hp;refine ay (aQ (aa v16 (aa v15 (aa v14 aw)))) ?_;dsimp only [bA];clear hJ;refine aZ hh (hwc _) rfl ?_;intro w17 hh;exact Uu
  ·refine aj ?_;refine aZ hh (dL u (iM S) _) rfl ?_;intro w20 hh;exact X3
theorem DR (M k:Nat) (h:2^k∣M): -((M/2^k:Nat):Int)= -(M:Int)/2^k:=by
 obtain ⟨q,rfl⟩:=h;have hp:(0:Int)<2^k:=Int.pow_pos abq;rw [Nat.mul_div_cancel_left _ (ab7 abq),acK,←aew,aeD];exact (Int.mul_ediv_cancel_left _ (by exact Int.ne_of_gt hp)).symm
theorem BC (M k:Nat) (h:¬2^k∣M): -((M/2^k:Nat):Int)-1= -(M:Int)/2^k:=by
 have hp:(0:Int)<2^k:=Int.pow_pos abq;have h1:=acO M (2^k);have h2:=ab4 M (ab7 (n:=k) (show 0<2 by omega));have h3:M % 2^k≠0:=fun h0=>h (Nat.dvd_of_mod_eq_zero h0);have hc:((2^k:Nat):Int)=2^k:=by simp
 symm
 rw [Int.ediv_eq_iff_of_pos hp,←hc];have h4:(M:Int)=(2^k:Nat)*(M/2^k:Nat)+(M % 2^k:Nat):=by rw [←acK,←acZ,h1]
 generalize hK:((2^k:Nat):Int)=K at*;generalize ((M/2^k:Nat):Int)=q at*;have e:(-q-1)*K= -(K*q)-K:=by rw [Int.sub_mul,Int.neg_mul,Int.mul_comm q];omega
 have e2:(-q-1+1)*K= -(K*q):=by rw [Int.sub_add_cancel,Int.neg_mul,Int.mul_comm]
 omega
theorem MV {M:Nat} (h0:M≠0):2^k∣M↔k≤tz M:=by
 obtain ⟨m,hm⟩:=vv h0;generalize tz M=t at*;constructor
 ·intro h
  rcases acj t k with hlt|hge
  ·exfalso;obtain ⟨q,hq⟩:=h;rw [hm,show k=t+(1+(k-t-1)) by omega,ab5,ab5,acE] at hq;have:=Nat.eq_of_mul_eq_mul_left (ab7 abq) hq;rw [Nat.pow_one,acE] at this;omega
  ·exact hge
 ·intro h;rw [hm];exact Nat.dvd_trans (Nat.pow_dvd_pow 2 h) (Nat.dvd_mul_right _ _)
theorem sk (a:Int) (n:Nat):bf (a^n).natAbs≤1+n*bf a.natAbs:=by
 induction n with
 |zero=>simp [xp]
 |succ n ih=>
  rw [Int.pow_succ];have:=mW (a^n) a;rw [acD];omega
theorem Gv (s:Bool) (a:ByteArray) (n:Int) (w:World) (h0:n.toNat*a.size≤100000000) (hn:n≤1000000000) (ha:a.size≤100000000):
  Calls Tryz.prog 133 #[.agg #[.bool s,.string a],.int .i64 n] w fun e w'=>e=.returned (.agg #[.bool (iN (iv s a^n.toNat)),.string (iM (iv s a^n.toNat))])∧Below w.heap.size w w':=by
 have hh:=Hp.start w;have e1:(if (0:Int)>n then 0 else n)=(n.toNat:Int):=by split<;>omega
 have hm:n.toNat≤1000000000:=abq;generalize n.toNat=m at*;refine ae (N:=19) (l:=[.agg #[.bool s,.string a],.int .i64 n]) Tryz.func133 rfl rfl (by simp) ?_;refine bX ?_;intro b2 w2 hh b4 w4 hh;refine aZ hh (mm 1 _ abq abq) rfl ?_;intro w6 hh;refine aZ hh (kV _ _ _) rfl ?_;intro w7 hh;refine bX ?_;intro b5 w5 hh ws hh;rw [e1];refine aH [10,11,12,13,14,15,16] 10
  (fun j w'=>∃(i:Nat) (u:Bool) (S:Int),i≤m∧j=.int .i64 i∧S=iv s a^i∧iv u (iM S)=S∧Hp w [.blk b5 162 [.string (iM S),.bool u] (0,0),.blk b4 31 [.bool false,.string (ByteArray.mk #[])] (0,0),.blk b2 31 [.bool s,.string a] (0,0)] w')
  (fun j _=>m-(intOf j).toNat) ?_ ?_
 ·exact ⟨0,_,1,abB _,rfl,by rw [Int.pow_zero],ee 1,hh⟩
 ·clear hh;rintro ρ' j w' ⟨i,u,S,hi,rfl,hS2,hu,hh⟩;by_cases hlt:i<m
  ·have hb:=sk (iv s a) i;rw [←hS2] at hb;have hbx:=hQ s a;have hle:i*bf (iv s a).natAbs≤m*(8*a.size):=acR hi hbx;rw [aec] at hle;have hms:(iM S).size≤1000000000:=by rw [dn];omega
   have hpl:=Eo u s (iM S) a;rw [hu] at hpl;have hwc:=fun w1=>rN u s (iM S) a w1 hms abq;rw [hu] at hwc;refine aj ?_;refine aC 3 [[(5,none)],[(2,none)],[(13,some 1)]] [(2,14),(1,13),(0,12)] hh mixed abt ?_;refine da 0 [_,_] ?_;refine da 2 [_,_] ?_;refine dC (fun _ hj=>kV s a _) ?_;refine av ?_;intro f W hJ hV;have hb_4:=hJ.bl;obtain ⟨v14,v13,v12,_⟩:=hV;replace hh:=hJ.hp;refine ay (aQ (aa v14 (aa v13 (aa v12 aw)))) ?_;dsimp only [bA];clear hJ;refine aZ hh (hwc _) rfl ?_;intro w15 hh;refine bT ?_;intro ws hh;refine ⟨⟨i+1,_,_,abq,rfl,by rw [Int.pow_succ,hS2],hpl,hh⟩,by show m-(i+1)<m-i;omega, ?_⟩;exact dI
  ·obtain rfl:i=m:=abq;refine aj ?_;refine aZ hh (dL u (iM S) _) rfl ?_;intro w18 hh;rw [hu,hS2];exact La
theorem VV (s:Bool) (a:ByteArray) (m:Nat):iv s (sN (bN a*2^m))=iv s a*2^m:=by
 unfold iv;rw [fI]
 cases s<;>simp [acK,Int.neg_mul]
theorem Hx (s:Bool) (a:ByteArray) (m:Nat) (w:World) (ha:a.size≤100000000) (hm:m≤1000000000):
  Calls Tryz.prog 124 #[.agg #[.bool s,.string a],.int .i64 (m:Int)] w fun e w'=>e=.returned (.agg #[.bool (iN (iv s a*2^m)),.string (iM (iv s a*2^m))])∧Below w.heap.size w w':=by
 have hh:=Hp.start w;refine ae (N:=47) (l:=[.agg #[.bool s,.string a],.int .i64 (m:Int)]) Tryz.func124 rfl rfl (by simp) ?_;refine bX ?_;intro b2 w2 hh b4 w4 hh;refine aC 6 [[(2,none)],[(8,some 0)],[(1,none)],[(9,some 1),(10,some 2)],[(2,none)],[(12,some 4)]] [(5,13),(4,12),(3,11),(2,10),(1,9),(0,8)] hh mixed abt ?_;refine dw ?_;refine fF 1 ?_;refine dp ?_;refine dC (fun _ hj=>Bc a m _ abq abq) ?_;refine dw ?_;refine fF 1 ?_;refine av ?_;intro f W hJ hV;have hb_2:=hJ.bl;obtain ⟨v13,v12,v11,v10,v9,v8,_⟩:=hV;replace hh:=hJ.hp;refine ay (aQ (aa v13 (aa v12 (aa v11 (aa v10 (aa v9 (aa v8 aw))))))) ?_;dsimp only [bA];clear hJ;refine aj ?_;refine aZ hh (dL s (sN (bN a*2^m)) _) rfl ?_;intro w15 hh;rw [VV];exact uR
theorem G7 (s:Bool) (a:ByteArray) (m:Nat) (w:World) (hT:dq w) (ha:a.size≤100000000) (h0:0<m) (hm:m≤1000000000000):
  Calls Tryz.prog 124 #[.agg #[.bool s,.string a],.int .i64 (-(m:Int))] w fun e w'=>e=.returned (.agg #[.bool (iN (iv s a/2^m)),.string (iM (iv s a/2^m))])∧Below w.heap.size w w':=by
 have hh:=Hp.start w;have e1:(if (-1099511627776:Int)> -(m:Int) then -1099511627776 else -(m:Int))= -(m:Int):=abw abq;have e2: -(-(m:Int))=(m:Int):=abq;have hcs:∀w1,Calls Tryz.prog 171 #[.string a,.int .i64 (-(-(m:Int)))] w1 fun e w'=>e=.returned (.string (sN (bN a/2^m)))∧Below w1.heap.size w1 w':=fun w1=>by
  rw [e2];exact AW a m w1 abq abq
 cases s with
 |false=>
  have e3:iv false (sN (bN a/2^m))=iv false a/2^m:=by
   unfold iv;rw [fI];simp
  refine ae (N:=47) (l:=[.agg #[.bool false,.string a],.int .i64 (-(m:Int))]) Tryz.func124 rfl rfl (by simp) ?_;refine bX ?_;intro b2 w2 hh b4 w4 hh;rw [e1];refine JG ?_;refine dw ?_;refine fF 1 ?_;refine dp ?_;refine Ig ?_;refine dC (fun _ hj=>hcs _) ?_;refine dw ?_;refine fF 1 ?_;refine dB [_,_] ?_;refine dC (fun _ hj=>dL false (sN (bN a/2^m)) _) ?_;refine Jp ?_;refine av ?_;intro f W hJ hV;have hb_4:=hJ.bl;obtain ⟨v5,v26,v25,v24,v23,v22,v21,v20,v19,v18,_⟩:=hV;obtain ⟨b5,e5,hl5,hc5⟩:cd _ _ _ (f 9) W:=v5;replace hh:=hJ.newVar hh hl5 hc5;refine I2 ?_;dsimp only [bA];clear e5 hJ;rw [e3];refine bX ?_;intro ws hh ws hh;exact Tw
 |true=>
  have hb:=g6 a;have e4:iv true (sN (bN a/2^m))= -((bN a/2^m:Nat):Int):=by
   unfold iv;rw [fI,abx rfl]
  have e5:iv true a= -(bN a:Int):=by unfold iv;rw [abx rfl]
  by_cases hz:bN a=0
  ·have e3:iv true (sN (bN a/2^m))=iv true a/2^m:=by
    rw [e4,e5,hz];simp
   refine OB ?_;refine bX ?_;intro b2 w2 hh b4 w4 hh;rw [e1];refine JG ?_;refine dw ?_;refine fF 1 ?_;refine dp ?_;refine Ig ?_;refine dC (fun _ hj=>hcs _) ?_;refine dw ?_;refine fF 1 ?_;refine dB [_,_] ?_;refine dC (fun _ hj=>dL true (sN (bN a/2^m)) _) ?_;refine Jp ?_;refine av ?_;intro f W hJ hV;have hb_4:=hJ.bl;obtain ⟨v5,v26,v25,v24,v23,v22,v21,v20,v19,v18,_⟩:=hV;obtain ⟨b5,e5,hl5,hc5⟩:cd _ _ _ (f 9) W:=v5;replace hh:=hJ.newVar hh hl5 hc5;refine I2 ?_;dsimp only [bA];clear e5 hJ;rw [e3];refine bT ?_;intro ws hh;refine aZ hh (m5 a _ abq) rfl ?_;intro w32 hh;rw [hz,mJ];exact La
  ·have hbp:=oS hz;by_cases hd:2^m∣bN a
   ·have e3:iv true (sN (bN a/2^m))=iv true a/2^m:=by
     rw [e4,e5];exact DR _ _ hd
    have htz:=(MV hz).1 hd;refine OB ?_;refine bX ?_;intro b2 w2 hh b4 w4 hh;rw [e1];refine JG ?_;refine dw ?_;refine fF 1 ?_;refine dp ?_;refine Ig ?_;refine dC (fun _ hj=>hcs _) ?_;refine dw ?_;refine fF 1 ?_;refine dB [_,_] ?_;refine dC (fun _ hj=>dL true (sN (bN a/2^m)) _) ?_;refine Jp ?_;refine av ?_;intro f W hJ hV;have hb_4:=hJ.bl;obtain ⟨v5,v26,v25,v24,v23,v22,v21,v20,v19,v18,_⟩:=hV;obtain ⟨b5,e5,hl5,hc5⟩:cd _ _ _ (f 9) W:=v5;replace hh:=hJ.newVar hh hl5 hc5;refine I2 ?_;dsimp only [bA];clear e5 hJ;rw [e3];refine bT ?_;intro ws hh;refine aZ hh (m5 a _ abq) rfl ?_;intro w32 hh;refine aj ?_;refine aZ hh (lr a _ abq (hT.hp hh)) rfl ?_;intro w38 hh;exact La
   ·have e3:iv true (sN (bN a/2^m))-1=iv true a/2^m:=by
     rw [e4,e5];exact BC _ _ hd
    have htz:tz (bN a)<m:=aeQ fun h=>hd ((MV hz).2 h);have hsz:(iM (iv true (sN (bN a/2^m)))).size≤100000000:=by
     have:=rX (bN a) m;rw [dn,lC,fI];omega
    have hsub:∀w1,Calls Tryz.prog 117 #[.agg #[.bool (iN (iv true (sN (bN a/2^m)))),.string (iM (iv true (sN (bN a/2^m))))],.agg #[.bool (iN 1),.string (iM 1)]] w1 fun e w'=>e=.returned (.agg #[.bool (iN (iv true a/2^m)),.string (iM (iv true a/2^m))])∧Below w1.heap.size w1 w':=fun w1=>by
     have:=rf (iN (iv true (sN (bN a/2^m)))) (iN 1) (iM (iv true (sN (bN a/2^m)))) (iM 1) w1 hsz (by rw [dn,Int.natAbs_one,xp];omega);rw [ee,ee,e3] at this;exact this
    refine OB ?_;refine bX ?_;intro b2 w2 hh b4 w4 hh;rw [e1];refine JG ?_;refine dw ?_;refine fF 1 ?_;refine dp ?_;refine Ig ?_;refine dC (fun _ hj=>hcs _) ?_;refine dw ?_;refine fF 1 ?_;refine dB [_,_] ?_;refine dC (fun _ hj=>dL true (sN (bN a/2^m)) _) ?_;refine Jp ?_;refine av ?_;intro f W hJ hV;have hb_4:=hJ.bl;obtain ⟨v5,v26,v25,v24,v23,v22,v21,v20,v19,v18,_⟩:=hV;obtain ⟨b5,e5,hl5,hc5⟩:cd _ _ _ (f 9) W:=v5;replace hh:=hJ.newVar hh hl5 hc5;refine I2 ?_;dsimp only [bA];clear e5 hJ;refine bT ?_;intro ws hh;refine aZ hh (m5 a _ abq) rfl ?_;intro w32 hh;refine aj ?_;refine aZ hh (lr a _ abq (hT.hp hh)) rfl ?_;intro w38 hh;refine aj ?_;refine aC 2 [[(5,none)],[]] [(1,44),(0,43)] hh mixed abt ?_;refine da 0 [_,_] ?_;refine dC (fun _ hj=>mm 1 _ abq abq) ?_;refine av ?_;intro f W hJ hV;have hb_6:=hJ.bl;obtain ⟨v44,v43,_⟩:=hV;replace hh:=hJ.hp;refine ay (aQ (aa v44 (aa v43 aw))) ?_;dsimp only [bA];clear hJ;refine aZ hh (hsub _) rfl ?_;intro w45 hh;exact La
theorem VY:(2:Rat)≠0:=by decide
theorem two_pos (k:Int):(0:Rat)<2^k:=Rat.zpow_pos abr
theorem lZ (i p:Int):(Dyadic.ofIntWithPrec i p).toRat=i*2^(-p):=Dyadic.toRat_ofIntWithPrec_eq_mul_two_pow
theorem pf (i p:Int) (n:Nat):Dyadic.ofIntWithPrec (i*2^n) (p+n)=Dyadic.ofIntWithPrec i p:=by
 rw [←Int.shiftLeft_eq];exact Dyadic.ofIntWithPrec_shiftLeft_add
theorem jh (i:Int) {p q:Int} (h:q=p+n):Dyadic.ofIntWithPrec i p=Dyadic.ofIntWithPrec (i*2^n) q:=by
 subst h;exact (pf i p n).symm
theorem rz (i j p:Int):Dyadic.ofIntWithPrec i p+Dyadic.ofIntWithPrec j p=Dyadic.ofIntWithPrec (i+j) p:=by
 rw [←Dyadic.toRat_inj,Dyadic.toRat_add,lZ,lZ,lZ,Rat.intCast_add,Rat.add_mul]
theorem HJ (i p:Int): -Dyadic.ofIntWithPrec i p=Dyadic.ofIntWithPrec (-i) p:=Dyadic.neg_ofIntWithPrec
theorem pV (i j p q:Int):Dyadic.ofIntWithPrec i p*Dyadic.ofIntWithPrec j q=Dyadic.ofIntWithPrec (i*j) (p+q):=by
 rw [←Dyadic.toRat_inj,Dyadic.toRat_mul,lZ,lZ,lZ,Rat.intCast_mul,Int.neg_add,Rat.zpow_add VY];grind
theorem nT (i j p:Int):Dyadic.ofIntWithPrec i p<Dyadic.ofIntWithPrec j p↔i<j:=by
 rw [←Dyadic.toRat_lt_toRat_iff,lZ,lZ];rw [←Rat.intCast_lt_intCast];constructor
 ·intro h;exact Rat.lt_of_mul_lt_mul_right h (Rat.le_of_lt (two_pos _))
 ·intro h;exact Rat.mul_lt_mul_of_pos_right h (two_pos _)
theorem ik (p:Int):Dyadic.ofIntWithPrec 0 p=0:=rfl
theorem RO {i j p:Int} (h:Dyadic.ofIntWithPrec i p=Dyadic.ofIntWithPrec j p):i=j:=by
 rcases aeG i j with h1|h1|h1
 ·rw [←nT i j p,h] at h1;exact absurd h1 (by rw [nT];omega)
 ·exact h1
 ·rw [←nT j i p,h] at h1;exact absurd h1 (by rw [nT];omega)
theorem uJ {i p:Int} (h:Dyadic.ofIntWithPrec i p=0):i=0:=RO (p:=p) (by rw [h];rfl)
theorem Ip (n k:Int) (h:n % 2=1):Dyadic.ofOdd n k h=Dyadic.ofIntWithPrec n k:=Dyadic.ofOdd_eq_ofIntWithPrec
theorem BS {i p:Int} (h:i≠0):Dyadic.ofIntWithPrec i p=.ofOdd (i>>>i.trailingZeros) (p-i.trailingZeros) (Int.shiftRight_trailingZeros_mod_two h):=by
 rw [Dyadic.ofIntWithPrec,dif_neg h]
structure NR where
 neg:Bool
 aO:ByteArray
 e:Int
def NR.cells (a:NR):List Value:=[.bool a.neg,.string a.aO,.int .i64 a.e]
theorem NR.len (a:NR):a.cells.length=3:=rfl
theorem NR.one (a:NR):a.cells.all Value.oneCell'=true:=rfl
def NR.i (a:NR):Int:=iv a.neg a.aO
def NR.d (a:NR):Dyadic:=Dyadic.ofIntWithPrec a.i (-a.e)
def nR:Dyadic→NR
 |.zero=>⟨false,ByteArray.mk #[],0⟩
 |.ofOdd n k _=>⟨iN n,iM n, -k⟩
theorem nF:nR 0=⟨false,ByteArray.mk #[],0⟩:=rfl
theorem a6 (x:Dyadic):(nR x).d=x:=by
 cases x with
 |zero=>rfl
 |ofOdd n k h=>
  simp only [nR,NR.d,NR.i,ee,Int.neg_neg];exact (Ip n k h).symm
theorem US {x y:Dyadic}:nR x=nR y↔x=y:=⟨fun h=>by rw [←a6 x,h,a6],fun h=>by rw [h]⟩
theorem XE (s:Bool) (a:ByteArray):(iv s a).trailingZeros=tz (bN a):=by
 unfold iv;split
 ·rw [Int.trailingZeros_neg];rfl
 ·rfl
theorem IV (s:Bool) (a:ByteArray):iv s a=0↔bN a=0:=by
 have:=lC s a;omega
theorem sT {s:Bool}{a:ByteArray}{e:Int} (h:iv s a≠0):nR (Dyadic.ofIntWithPrec (iv s a) (-e))=⟨iN (iv s a/2^tz (bN a)),iM (iv s a/2^tz (bN a)),e+tz (bN a)⟩:=by
 rw [BS h,nR,Int.shiftRight_eq_div_pow,XE];have e1: -(-e-(tz (bN a):Int))=e+tz (bN a):=abq;rw [e1,aeD]
 rfl
def Sz (k:Nat) (x:Dyadic):Prop:=∃i:Int,x=Dyadic.ofIntWithPrec i k∧i.natAbs<2^(2*k)
theorem Sz.zero (k:Nat):Sz k 0:=⟨0,rfl,by simpa using ab7 abq⟩
theorem Sz.mono {l:Nat}{x:Dyadic} (h:Sz k x) (hl:k≤l):Sz l x:=by
 obtain ⟨i,rfl,hi⟩:=h;refine ⟨i*2^(l-k),jh i abq, ?_⟩;rw [adu,ad3];have h1:i.natAbs*2^(l-k)<2^(2*k)*2^(l-k):=ad1 hi (ab7 abq);rw [←ab5] at h1;exact acu h1 (ach abq abq)
theorem Sz.neg {x:Dyadic} (h:Sz k x):Sz k (-x):=by
 obtain ⟨i,rfl,hi⟩:=h;exact ⟨-i,HJ _ _,by rw [Int.natAbs_neg];exact hi⟩
theorem Sz.add {x y:Dyadic} (hx:Sz k x) (hy:Sz k y):Sz (k+1) (x+y):=by
 obtain ⟨i,rfl,hi⟩:=hx;obtain ⟨j,rfl,hj⟩:=hy;rw [rz];refine ⟨(i+j)*2^1,jh _ abq, ?_⟩;have h1:2^(2*(k+1))=4*2^(2*k):=by rw [show 2*(k+1)=2*k+2 by omega,ab5];omega
 rw [h1];omega
theorem Sz.sub {x y:Dyadic} (hx:Sz k x) (hy:Sz k y):Sz (k+1) (x-y):=hx.add hy.neg
theorem Sz.mul {l:Nat}{x y:Dyadic} (hx:Sz k x) (hy:Sz l y):Sz (k+l) (x*y):=by
 obtain ⟨i,rfl,hi⟩:=hx;obtain ⟨j,rfl,hj⟩:=hy;rw [pV];refine ⟨i*j,by rw [acZ], ?_⟩;rw [adu,acw,ab5];exact ae0 hi hj
theorem mC {i:Int} (h:i≠0):2^i.trailingZeros≤i.natAbs:=by
 have h1:=Int.two_pow_trailingZeros_dvd h;have h2:=Int.natAbs_dvd_natAbs.2 h1;rw [ad3] at h2;exact Nat.le_of_dvd abq h2
theorem Sz.nr {x:Dyadic} (h:Sz k x):(nR x).aO.size≤(2*k+7)/8∧ -(k:Int)≤(nR x).e∧(nR x).e≤k:=by
 obtain ⟨i,rfl,hi⟩:=h;by_cases h0:i=0
 ·subst h0;rw [ik,nF];exact ⟨abB _,(by omega: -(k:Int)≤0),(by omega:(0:Int)≤k)⟩
 ·have h2:=mC h0;rw [BS h0,nR];simp only;refine ⟨?_,abq, ?_⟩
  ·rw [dn];have:bf (i>>>i.trailingZeros).natAbs≤2*k:=by
    apply cW;refine acB ?_ hi;rw [Int.shiftRight_eq_div_pow];exact aeA _ _
   omega
  ·have h3:2^i.trailingZeros<2^(2*k):=acB h2 hi;have:=(afd abq).1 h3;omega
theorem Sz.raw {a:NR}{E:Nat} (hm:8*a.aO.size≤m) (h1: -(E:Int)≤a.e) (h2:a.e≤E):Sz (m+E) a.d:=by
 refine ⟨a.i*2^(a.e+m+E).toNat,jh _ abq, ?_⟩;have h3:a.i.natAbs<2^m:=by
  rw [NR.i,lC];refine acu (cw _) (ach abq ?_);have:=g6 a.aO;omega
 rw [adu,ad3];have h4:=ad1 h3 (ab7 (n:=(a.e+m+E).toNat) (show 0<2 by omega));rw [←ab5] at h4;exact acu h4 (ach abq abq)
def Cp (i n:Int):Int:=if 0≤n then i*2^n.toNat else i/2^(-n).toNat
theorem L3 (n:Int):Cp 0 n=0:=by unfold Cp;split<;>simp
def cP:Dyadic→Int→Int
 |.zero,_=>0
 |.ofOdd n k _,p=>Cp n (p-k)
def dv:Dyadic→Dyadic→Int
 |.zero,.zero=>0
 |.zero,.ofOdd _ k _=>k
 |.ofOdd _ k _,.zero=>k
 |.ofOdd _ k _,.ofOdd _ l _=>max k l
theorem pL (n k p:Int) (h:n % 2=1) (hp:k≤p):Dyadic.ofIntWithPrec (cP (.ofOdd n k h) p) p=.ofOdd n k h:=by
 simp only [cP];rw [Ip,Cp,abx abq];exact (jh n abq).symm
theorem OH (x y:Dyadic):Dyadic.ofIntWithPrec (cP x (dv x y)) (dv x y)=x:=by
 cases x with
 |zero=>rfl
 |ofOdd n k h=>
  cases y with
  |zero=>exact pL _ _ _ _ (ael _)
  |ofOdd m l g=>exact pL _ _ _ _ (Int.le_max_left _ _)
theorem Pm (x y:Dyadic):Dyadic.ofIntWithPrec (cP y (dv x y)) (dv x y)=y:=by
 cases y with
 |zero=>rfl
 |ofOdd n k h=>
  cases x with
  |zero=>exact pL _ _ _ _ (ael _)
  |ofOdd m l g=>exact pL _ _ _ _ (Int.le_max_right _ _)
theorem Sk (x y:Dyadic):Dyadic.ofIntWithPrec (cP x (dv x y)+cP y (dv x y)) (dv x y)=x+y:=by
 rw [←rz,OH,Pm]
theorem Pw (i n:Int):bf (Cp i n).natAbs≤bf i.natAbs+n.toNat:=by
 unfold Cp;split
 ·rw [adu,ad3];exact iB _ _
 ·have:bf (i/2^(-n).toNat).natAbs≤bf i.natAbs:=cW (acB (aeA _ _) (cw _));omega
theorem ID (x y:Dyadic) (E:Int) (h1: -E≤(nR x).e∧(nR x).e≤E) (h2: -E≤(nR y).e∧(nR y).e≤E): -E≤dv x y∧dv x y≤E:=by
 cases x<;>cases y<;>simp only [nR,dv] at* <;>omega
theorem wV (x:Dyadic) (p:Int):bf (cP x p).natAbs≤8*(nR x).aO.size+(p+(nR x).e).toNat:=by
 cases x with
 |zero=>simp [cP,mJ]
 |ofOdd n k h=>
  have h1:=Pw n (p-k);have h2:=g6 (iM n);rw [iM,fI] at h2;simp only [cP,nR];rw [show p+ -k=p-k by omega];rw [←iM] at h2;omega
variable {by' off:Nat}{r:Bool}{zc:List Value}
section
variable {ro:Mode}
theorem Ou {t:TypeId}{cs:Array Value}{v:Value} (ht:dy P t=some (n,false,by',zc)) (hv:cs[off]?=some v) (w:World):(part t cs off).run P w=.ok v w:=by
 simp [part,jX ht,hv]
theorem Og {t:TypeId}{cs vs:Array Value} (ht:dy P t=some (n,true,by',zc)) (hv:cs.extract off (off+n)=vs) (w:World):(part t cs off).run P w=.ok (.agg vs) w:=by
 simp [part,jX ht,fw ht,hv]
theorem Zo (n:Nat) (a b:Bool) (w:World):(Op.equalIn (n+1) 4 (.bool a) (.bool b)).run Tryz.prog w=.ok (a==b) w:=by
 simp [Op.equalIn,run_underlying Tryz.underlying4]
theorem ZC (n:Nat) (a b:ByteArray) (w:World):(Op.equalIn (n+1) 9 (.string a) (.string b)).run Tryz.prog w=.ok (a==b) w:=by
 simp [Op.equalIn,run_underlying Tryz.underlying9]
theorem YH (n:Nat) (a b:Int) (w:World):(Op.equalIn (n+1) 3 (.int .i64 a) (.int .i64 b)).run Tryz.prog w=.ok (a==b) w:=by
 simp [Op.equalIn,run_underlying Tryz.underlying3]
theorem eq_int (n:Nat) (s s':Bool) (a a':ByteArray) (w:World):(Op.equalIn (n+2) 31 (.agg #[.bool s,.string a]) (.agg #[.bool s',.string a'])).run Tryz.prog w=.ok (s==s' && a==a') w:=by
 have h1:=fun (x:Bool) (y:ByteArray)=>Ou (P:=Tryz.prog) (cs:= #[.bool x,.string y]) (off:=0) (az.out (P:=Tryz.prog) (t:=4)) rfl;have h2:=fun (x:Bool) (y:ByteArray)=>Ou (P:=Tryz.prog) (cs:= #[.bool x,.string y]) (off:=1) (az.out (P:=Tryz.prog) (t:=9)) rfl;rw [Op.equalIn];simp [run_underlying Tryz.underlying31,h1,h2,Zo,ZC]
 cases h:s==s'<;>cases h':a==a'<;>simp_all
theorem NO (n:Nat) (s s':Bool) (a a':ByteArray) (e e':Int) (w:World):(Op.equalIn (n+3) 33 (.agg #[.bool s,.string a,.int .i64 e]) (.agg #[.bool s',.string a',.int .i64 e'])).run Tryz.prog w=.ok ((s==s' && a==a') && e==e') w:=by
 have h1:=fun (x:Bool) (y:ByteArray) (z:Int)=>Og (P:=Tryz.prog) (cs:= #[.bool x,.string y,.int .i64 z]) (vs:= #[.bool x,.string y]) (off:=0) (az.out (P:=Tryz.prog) (t:=31)) rfl;have h2:=fun (x:Bool) (y:ByteArray) (z:Int)=>Ou (P:=Tryz.prog) (cs:= #[.bool x,.string y,.int .i64 z]) (off:=2) (az.out (P:=Tryz.prog) (t:=3)) rfl;rw [Op.equalIn];simp [run_underlying Tryz.underlying33,h1,h2,eq_int,YH]
 cases h:s==s'<;>cases h':a==a'<;>cases h2:e==e'<;>simp_all
section
variable {ρ:Rf}{w:World}{d:Option Nat}{ty u:TypeId}{pos:String}{af:Array Edge}{g:Option (Nat×Bool)}{x y:Operand}{s s':Bool}{a a':ByteArray}{e e':Int}
theorem U5 {a b:ByteArray}:(a==b)=true↔a=b:=by
 have:(a==b)=(a.data==b.data):=rfl;rw [this,ac3];exact ⟨fun h=>by cases a;cases b;simp_all,fun h=>by rw [h]⟩
theorem nu:((s==s' && a==a') && e==e')=true↔NR.mk s a e=NR.mk s' a' e':=by
 rw [abS,abS,ac3,U5,ac3,NR.mk.injEq,and_assoc]
theorem TF (hx:ev ρ x=.agg #[.bool s,.string a,.int .i64 e]) (hy:ev ρ y=.agg #[.bool s',.string a',.int .i64 e']) (hr:((s==s' && a==a') && e==e')=r):
  (execOp (ev ρ) ⟨d,.binOp .eql 33 x y u,ty,pos,af,g⟩).run Tryz.prog w=.ok (.value (.bool r)) w:=by
 exact XK
theorem TC (hx:ev ρ x=.agg #[.bool s,.string a,.int .i64 e]) (hy:ev ρ y=.agg #[.bool s',.string a',.int .i64 e']) (hr:((s==s' && a==a') && e==e')=r):
  (execOp (ev ρ) ⟨d,.binOp .neq 33 x y u,ty,pos,af,g⟩).run Tryz.prog w=.ok (.value (.bool !r)) w:=by
 exact XK
theorem BB (hx:ev ρ x=.agg #[.bool s,.string a,.int .i64 e]) (hy:ev ρ y=.agg #[.bool s',.string a',.int .i64 e']) (h:NR.mk s a e=NR.mk s' a' e'):
  (execOp (ev ρ) ⟨d,.binOp .eql 33 x y u,ty,pos,af,g⟩).run Tryz.prog w=.ok (.value (.bool true)) w:=TF hx hy (nu.2 h)
theorem St (hx:ev ρ x=.agg #[.bool s,.string a,.int .i64 e]) (hy:ev ρ y=.agg #[.bool s',.string a',.int .i64 e']) (h:¬NR.mk s a e=NR.mk s' a' e'):
  (execOp (ev ρ) ⟨d,.binOp .eql 33 x y u,ty,pos,af,g⟩).run Tryz.prog w=.ok (.value (.bool false)) w:=TF hx hy (by rw [aeP];exact fun h1=>h (nu.1 h1))
theorem Jv (hx:ev ρ x=.agg #[.bool s,.string a,.int .i64 e]) (hy:ev ρ y=.agg #[.bool s',.string a',.int .i64 e']) (h:NR.mk s a e=NR.mk s' a' e'):
  (execOp (ev ρ) ⟨d,.binOp .neq 33 x y u,ty,pos,af,g⟩).run Tryz.prog w=.ok (.value (.bool false)) w:=TC hx hy (nu.2 h)
theorem Ix (hx:ev ρ x=.agg #[.bool s,.string a,.int .i64 e]) (hy:ev ρ y=.agg #[.bool s',.string a',.int .i64 e']) (h:¬NR.mk s a e=NR.mk s' a' e'):
  (execOp (ev ρ) ⟨d,.binOp .neq 33 x y u,ty,pos,af,g⟩).run Tryz.prog w=.ok (.value (.bool true)) w:=TC hx hy (r:=false) (by rw [aeP];exact fun h1=>h (nu.1 h1))
end
section
variable {N:Nat}{ops:Array Oper}{Q:Kq}{ρ:Rf}{w:World}{rest:List Oper}{d:Nat}{ty u:TypeId}{pos:String}{af:Array Edge}{x y:Operand}{s s':Bool}{a a':ByteArray}{e e':Int}
theorem HR (hx:ev ρ x=.agg #[.bool s,.string a,.int .i64 e]) (hy:ev ρ y=.agg #[.bool s',.string a',.int .i64 e']) (h:NR.mk s a e=NR.mk s' a' e') (hN:d<N) (kk:WL ro Tryz.prog N ops Q rest (cg ρ d (.bool true)) w):
  WL ro Tryz.prog N ops Q (⟨some d,.binOp .eql 33 x y u,ty,pos,af,none⟩::rest) ρ w:=aM rfl rfl hN (BB hx hy h) kk
theorem Cl (hx:ev ρ x=.agg #[.bool s,.string a,.int .i64 e]) (hy:ev ρ y=.agg #[.bool s',.string a',.int .i64 e']) (h:¬NR.mk s a e=NR.mk s' a' e') (hN:d<N) (kk:WL ro Tryz.prog N ops Q rest (cg ρ d (.bool false)) w):
  WL ro Tryz.prog N ops Q (⟨some d,.binOp .eql 33 x y u,ty,pos,af,none⟩::rest) ρ w:=aM rfl rfl hN (St hx hy h) kk
theorem RK (hx:ev ρ x=.agg #[.bool s,.string a,.int .i64 e]) (hy:ev ρ y=.agg #[.bool s',.string a',.int .i64 e']) (h:¬NR.mk s a e=NR.mk s' a' e') (hN:d<N) (kk:WL ro Tryz.prog N ops Q rest (cg ρ d (.bool true)) w):
  WL ro Tryz.prog N ops Q (⟨some d,.binOp .neq 33 x y u,ty,pos,af,none⟩::rest) ρ w:=aM rfl rfl hN (Ix hx hy h) kk
theorem IK (hx:ev ρ x=.agg #[.bool s,.string a,.int .i64 e]) (hy:ev ρ y=.agg #[.bool s',.string a',.int .i64 e']) (h:NR.mk s a e=NR.mk s' a' e') (hN:d<N) (kk:WL ro Tryz.prog N ops Q rest (cg ρ d (.bool false)) w):
  WL ro Tryz.prog N ops Q (⟨some d,.binOp .neq 33 x y u,ty,pos,af,none⟩::rest) ρ w:=aM rfl rfl hN (Jv hx hy h) kk
end
theorem kM (s:Bool) (a:ByteArray) (n:Int) (w:World) (hT:dq w) (ha:a.size≤100000000) (h1: -1000000000≤n) (h2:n≤1000000000):
  Calls Tryz.prog 124 #[.agg #[.bool s,.string a],.int .i64 n] w fun e w'=>e=.returned (.agg #[.bool (iN (Cp (iv s a) n)),.string (iM (Cp (iv s a) n))])∧Below w.heap.size w w':=by
 unfold Cp;by_cases h:0≤n
 ·rw [abx h];obtain ⟨m,rfl⟩:=aeX h;rw [ada];exact Hx s a m w ha abq
 ·rw [abw h];obtain ⟨m,hm⟩:=aeX (show 0≤ -n by omega);rw [hm,ada,show n= -(m:Int) by omega];exact G7 s a m w hT ha abq abq
theorem fU (s:Bool) (a:ByteArray) (e:Int) (w:World) (hT:dq w) (ha:a.size≤100000000) (h1: -1000000000000≤e) (h2:e≤1000000000000):
  Calls Tryz.prog 78 #[.agg #[.bool s,.string a],.int .i64 e] w fun r w'=>r=.returned (.agg #[.bool (nR (Dyadic.ofIntWithPrec (iv s a) (-e))).neg,.string (nR (Dyadic.ofIntWithPrec (iv s a) (-e))).aO,.int .i64 (nR (Dyadic.ofIntWithPrec (iv s a) (-e))).e])∧Below w.heap.size w w':=by
 have hh:=Hp.start w;by_cases h0:iv s a=0
 ·rw [h0,ik,nF];refine ae (N:=21) (l:=[.agg #[.bool s,.string a],.int .i64 e]) Tryz.func78 rfl rfl (by simp) ?_;refine bX ?_;intro b2 w2 hh b4 w4 hh;refine aZ hh (jt s a _) rfl ?_;intro w7 hh;rw [h0];exact AO
 ·have hs:(iv s a).sign≠0:=by rw [ne_eq,Int.sign_eq_zero_iff_zero];exact h0
  rw [sT h0];have hz:bN a≠0:=fun h=>h0 ((IV s a).2 h);have htz:tz (bN a)<8*a.size+1:=by
   have:=Am a;rw [show (256:Nat)=2^8 from rfl,←acv] at this;have:=zg hz this;omega
  have hsh:Cp (iv s a) (-(tz (bN a):Int))=iv s a/2^tz (bN a):=by
   unfold Cp;split
   ·have:tz (bN a)=0:=abq;rw [this];simp
   ·rw [Int.neg_neg,ada]
  refine ae (N:=21) (l:=[.agg #[.bool s,.string a],.int .i64 e]) Tryz.func78 rfl rfl (by simp) ?_;refine bX ?_;intro b2 w2 hh b4 w4 hh;refine aZ hh (jt s a _) rfl ?_;intro w7 hh;refine aj ?_;refine aZ hh (lr a _ abq (hT.hp hh)) rfl ?_;intro w12 hh;refine aj ?_;refine aZ hh (kM s a (-(tz (bN a):Int)) _ (hT.hp hh) ha abq abq) rfl ?_;intro w16 hh;rw [hsh];exact AO
def NR.ok (a:NR):Prop:=a.aO.size≤1000000∧ -10000000≤a.e∧a.e≤10000000
theorem Sz.ok {x:Dyadic} (h:Sz k x) (hk:k≤3999990):(nR x).ok:=by
 have:=h.nr;refine ⟨abq,abq,abq⟩
theorem k5 (n:Int) (w:World) (hT:dq w) (h1: -9223372036854775808≤n) (h2:n≤9223372036854775807):
  Calls Tryz.prog 38 #[.int .i64 n] w fun r w'=>r=.returned (.agg #[.bool (nR (n:Dyadic)).neg,.string (nR (n:Dyadic)).aO,.int .i64 (nR (n:Dyadic)).e])∧Below w.heap.size w w':=by
 have hh:=Hp.start w;have hsz:(iM n).size≤100000000:=by
  rw [dn];have:bf n.natAbs≤64:=cW abq;omega
 have hc:∀w1,dq w1→Calls Tryz.prog 78 #[.agg #[.bool (iN n),.string (iM n)],.int .i64 0] w1 fun r w'=>r=.returned (.agg #[.bool (nR (n:Dyadic)).neg,.string (nR (n:Dyadic)).aO,.int .i64 (nR (n:Dyadic)).e])∧Below w1.heap.size w1 w':=fun w1 hT1=>by
  have:=fU (iN n) (iM n) 0 w1 hT1 hsz abq abq;rw [ee] at this;exact this
 refine ae (N:=6) (l:=[.int .i64 n]) Tryz.func38 rfl rfl (by simp) ?_;refine bT ?_;intro b2 w2 hh;refine aZ hh (mm n _ h1 h2) rfl ?_;intro w4 hh;refine aZ hh (hc _ (hT.hp hh)) rfl ?_;intro w5 hh;exact AO
theorem dK (a:NR) (w:World) (hT:dq w) (ha:a.aO.size≤100000000) (h1: -1000000000000≤a.e) (h2:a.e≤1000000000000):
  Calls Tryz.prog 70 #[.agg #[.bool a.neg,.string a.aO,.int .i64 a.e]] w fun r w'=>r=.returned (.agg #[.bool (nR a.d).neg,.string (nR a.d).aO,.int .i64 (nR a.d).e])∧Below w.heap.size w w':=by
 have hh:=Hp.start w;refine ae (N:=8) (l:=[.agg #[.bool a.neg,.string a.aO,.int .i64 a.e]]) Tryz.func70 rfl rfl (by simp) ?_;refine bX ?_;intro b1 w1 hh b2 w2 hh;refine aZ hh (fU a.neg a.aO a.e _ (hT.hp hh) ha h1 h2) rfl ?_;intro w7 hh;exact AO
theorem ct (a:NR) (w:World):
  Calls Tryz.prog 42 #[.agg #[.bool a.neg,.string a.aO,.int .i64 a.e]] w fun r w'=>r=.returned (.int .i64 a.i.sign)∧Below w.heap.size w w':=by
 have hh:=Hp.start w;refine ae (N:=6) (l:=[.agg #[.bool a.neg,.string a.aO,.int .i64 a.e]]) Tryz.func42 rfl rfl (by simp) ?_;refine bT ?_;intro b1 w1 hh;refine aZ hh (jt a.neg a.aO _) rfl ?_;intro w5 hh;refine aj ?_;exact ⟨rfl,hh.below⟩
theorem j3 (a:NR) (w:World) (hT:dq w) (ha:a.aO.size≤100000000) (h1: -1000000000000≤a.e) (h2:a.e≤1000000000000):
  Calls Tryz.prog 43 #[.agg #[.bool a.neg,.string a.aO,.int .i64 a.e]] w fun r w'=>r=.returned (.agg #[.bool (nR (-a.d)).neg,.string (nR (-a.d)).aO,.int .i64 (nR (-a.d)).e])∧Below w.heap.size w w':=by
 have hh:=Hp.start w;have hc:∀w1,dq w1→Calls Tryz.prog 78 #[.agg #[.bool (iN (-(iv a.neg a.aO))),.string (iM (-(iv a.neg a.aO)))],.int .i64 a.e] w1 fun r w'=>r=.returned (.agg #[.bool (nR (-a.d)).neg,.string (nR (-a.d)).aO,.int .i64 (nR (-a.d)).e])∧Below w1.heap.size w1 w':=fun w1 hT1=>by
  have hs:=l3 a.neg a.aO;have:=fU (iN (-(iv a.neg a.aO))) (iM (-(iv a.neg a.aO))) a.e w1 hT1 abq h1 h2;rw [ee,←HJ] at this;exact this
 refine ae (N:=9) (l:=[.agg #[.bool a.neg,.string a.aO,.int .i64 a.e]]) Tryz.func43 rfl rfl (by simp) ?_;refine bX ?_;intro b1 w1 hh b2 w2 hh;refine aC 5 [[(1,none)],[(3,some 0)],[(4,some 1)],[(1,none)],[(6,some 3)]] [(4,7),(3,6),(2,5),(1,4),(0,3)] hh mixed abt ?_;refine dw ?_;refine da 1 [_,_] ?_;refine dC (fun _ hj=>jT a.neg a.aO _) ?_;refine dw ?_;refine fF 1 ?_;refine av ?_;intro f W hJ hV;have hb_1:=hJ.bl;obtain ⟨v7,v6,v5,v4,v3,_⟩:=hV;replace hh:=hJ.hp;refine ay (aQ (aa v7 (aa v6 (aa v5 (aa v4 (aa v3 aw)))))) ?_;dsimp only [bA];clear hJ;refine aZ hh (hc _ (hT.hp hh)) rfl ?_;intro w8 hh;exact AO
theorem zF (s:Int) (a:NR) (w:World) (hT:dq w) (ha:a.aO.size≤100000000) (h1: -1000000000≤a.e-s) (h2:a.e-s≤1000000000):
  Calls Tryz.prog 116 #[.int .i64 s,.agg #[.bool a.neg,.string a.aO,.int .i64 a.e]] w fun r w'=>r=.returned (.agg #[.bool (iN (Cp a.i (a.e-s))),.string (iM (Cp a.i (a.e-s)))])∧Below w.heap.size w w':=by
 have hh:=Hp.start w;refine ae (N:=12) (l:=[.int .i64 s,.agg #[.bool a.neg,.string a.aO,.int .i64 a.e]]) Tryz.func116 rfl rfl (by simp) ?_;refine bX ?_;intro b3 w3 hh b4 w4 hh;refine aZ hh (kM a.neg a.aO (a.e-s) _ (hT.hp hh) ha h1 h2) rfl ?_;intro w11 hh;exact uR
theorem FI (x:Dyadic) (p:Int):Cp (nR x).i ((nR x).e - -p)=cP x p:=by
 cases x with
 |zero=>exact L3 _
 |ofOdd n k h=>
  simp only [nR,NR.i,ee,cP];congr 1;omega
theorem l7 (x:Dyadic):nR x=⟨false,ByteArray.mk #[],0⟩↔x=0:=by rw [←nF,US]
theorem lB {a:NR} (h:a.ok):Sz 18000000 a.d∧(nR a.d).aO.size≤1000000∧ -18000000≤(nR a.d).e∧(nR a.d).e≤18000000:=by
 obtain ⟨h1,h2,h3⟩:=h;refine ⟨Sz.raw (m:=8000000) (E:=10000000) abq abq abq, ?_⟩;by_cases h0:iv a.neg a.aO=0
 ·rw [NR.d,NR.i,h0,ik,nF];exact ⟨abB _,by simp,by simp⟩
 ·rw [NR.d,NR.i,sT h0];have hz:bN a.aO≠0:=fun h=>h0 ((IV a.neg a.aO).2 h);have htz:tz (bN a.aO)<8*a.aO.size+1:=by
   have:=Am a.aO;rw [show (256:Nat)=2^8 from rfl,←acv] at this;have:=zg hz this;omega
  have hb:bf (iv a.neg a.aO/2^tz (bN a.aO)).natAbs≤8*a.aO.size:=by
   apply cW;refine acB (aeA _ _) ?_;rw [lC];exact acu (cw _) (ach abq (g6 _))
  simp only;rw [dn];refine ⟨abq,abq,abq⟩
theorem sE (a b:NR) (w:World) (hT:dq w) (ha:a.ok) (hb:b.ok):
  Calls Tryz.prog 68 #[.agg #[.bool a.neg,.string a.aO,.int .i64 a.e],.agg #[.bool b.neg,.string b.aO,.int .i64 b.e]] w fun r w'=>r=.returned (.agg #[.int .i64 (-(dv a.d b.d)),.bool (iN (cP a.d (dv a.d b.d))),.string (iM (cP a.d (dv a.d b.d))),.bool (iN (cP b.d (dv a.d b.d))),.string (iM (cP b.d (dv a.d b.d)))])∧Below w.heap.size w w':=by
 have hh:=Hp.start w;obtain ⟨ha1,ha2,ha3⟩:=ha;obtain ⟨hb1,hb2,hb3⟩:=hb;obtain ⟨_,fa1,fa2,fa3⟩:=lB (a:=a) ⟨ha1,ha2,ha3⟩;obtain ⟨_,fb1,fb2,fb3⟩:=lB (a:=b) ⟨hb1,hb2,hb3⟩;have hP:=ID a.d b.d 18000000 abq abq;have hcx:=fun w1 hT1=>zF (-(dv a.d b.d)) (nR a.d) w1 hT1 abq abq abq;have hcy:=fun w1 hT1=>zF (-(dv a.d b.d)) (nR b.d) w1 hT1 abq abq abq;rw [FI] at hcx hcy;by_cases h0:a.d=0
 ·have h0':=(l7 a.d).2 h0;have hs:(nR b.d).e= -(dv a.d b.d):=by
   rw [h0]
   cases b.d with
   |zero=>rfl
   |ofOdd n k h=>rfl
  refine M8 ?_;refine lK ?_;intro b2 w2 hh b3 w3 hh b4 w4 hh;refine L5 ?_;refine da 2 [_,_,_] ?_;refine NB ?_;refine da 1 [_,_,_] ?_;refine av ?_;intro f W hJ hV;have hb_1:=hJ.bl;obtain ⟨v9,v8,v7,_⟩:=hV;replace hh:=hJ.hp;refine ay (aQ (aa v9 (aa v8 (aa v7 aw)))) ?_;dsimp only [bA];clear hJ;refine aZ hh (dK b _ (hT.hp hh) abq abq abq) rfl ?_;intro w10 hh;refine bX ?_;intro ws hh ws hh;refine HR rfl rfl (by first|assumption|rfl) abr ?_;exact YW
 ·have h0':¬nR a.d=⟨false,ByteArray.mk #[],0⟩:=fun h=>h0 ((l7 _).1 h);by_cases h1:b.d=0
  ·have h1':=(l7 b.d).2 h1;have hs:(nR a.d).e= -(dv a.d b.d):=by
    rw [h1]
    cases a.d with
    |zero=>rfl
    |ofOdd n k h=>rfl
   refine M8 ?_;refine lK ?_;intro b2 w2 hh b3 w3 hh b4 w4 hh;refine L5 ?_;refine da 2 [_,_,_] ?_;refine NB ?_;refine da 1 [_,_,_] ?_;refine av ?_;intro f W hJ hV;have hb_1:=hJ.bl;obtain ⟨v9,v8,v7,_⟩:=hV;replace hh:=hJ.hp;refine ay (aQ (aa v9 (aa v8 (aa v7 aw)))) ?_;dsimp only [bA];clear hJ;refine aZ hh (dK b _ (hT.hp hh) abq abq abq) rfl ?_;intro w10 hh;refine bX ?_;intro ws hh ws hh;refine Cl rfl rfl (by assumption) abr ?_;refine aj ?_;refine HR rfl rfl (by first|assumption|rfl) abr ?_;exact YW
  ·have h1':¬nR b.d=⟨false,ByteArray.mk #[],0⟩:=fun h=>h1 ((l7 _).1 h);have hs:(if (nR b.d).e<(nR a.d).e then (nR b.d).e else (nR a.d).e)= -(dv a.d b.d):=by
    revert h0 h1
    cases a.d with
    |zero=>intro h;exact absurd rfl h
    |ofOdd n k h=>
     cases b.d with
     |zero=>intro _ h;exact absurd rfl h
     |ofOdd m l g=>
      intro _ _;simp only [nR,dv];omega
   refine M8 ?_;refine lK ?_;intro b2 w2 hh b3 w3 hh b4 w4 hh;refine L5 ?_;refine da 2 [_,_,_] ?_;refine NB ?_;refine da 1 [_,_,_] ?_;refine av ?_;intro f W hJ hV;have hb_1:=hJ.bl;obtain ⟨v9,v8,v7,_⟩:=hV;replace hh:=hJ.hp;refine ay (aQ (aa v9 (aa v8 (aa v7 aw)))) ?_;dsimp only [bA];clear hJ;refine aZ hh (dK b _ (hT.hp hh) abq abq abq) rfl ?_;intro w10 hh;refine bX ?_;intro ws hh ws hh;refine Cl rfl rfl (by assumption) abr ?_;refine aj ?_;refine Cl rfl rfl (by assumption) abr ?_;exact YW
end
def fB (x y:Dyadic):Int:=if x<y then -1 else if y<x then 1 else 0
theorem Ei (i j p:Int):(i-j).sign=fB (Dyadic.ofIntWithPrec i p) (Dyadic.ofIntWithPrec j p):=by
 unfold fB;simp only [nT]
 rcases aeG i j with h|h|h
 ·rw [abx h,adb abq]
 ·subst h;simp
 ·rw [abw abq,abx h,adi abq]
theorem GX (i p:Int):i.sign=fB (Dyadic.ofIntWithPrec i p) 0:=by
 have:=Ei i 0 p;rwa [Int.sub_zero,ik] at this
theorem NR.sign (a:NR):a.i.sign=fB a.d 0:=GX _ _
theorem Da (x y:Dyadic):(cP x (dv x y)-cP y (dv x y)).sign=fB x y:=by
 rw [Ei _ _ (dv x y),OH,Pm]
theorem K3 (X Y:Int) (h:X.sign≠Y.sign):(if (if X.sign-Y.sign<1 then X.sign-Y.sign else 1)> -1 then (if X.sign-Y.sign<1 then X.sign-Y.sign else 1) else -1)=(X-Y).sign:=by
 rcases aeG X 0 with hx|hx|hx<;>rcases aeG Y 0 with hy|hy|hy
 ·rw [adb hx,adb hy] at h;omega
 ·rw [adb hx,hy,Int.sub_zero,adb hx];simp
 ·rw [adb hx,adi hy,adb abq];simp
 ·subst hx;rw [Int.sign_zero,adb hy,adi (a:=0-Y) abq];simp
 ·rw [hx,hy] at h;omega
 ·subst hx;rw [Int.sign_zero,adi hy,adb (a:=0-Y) abq];simp
 ·rw [adi hx,adb hy,adi abq];simp
 ·rw [adi hx,hy,Int.sub_zero,adi hx];simp
 ·rw [adi hx,adi hy] at h;omega
theorem sM {a b:NR} (ha:a.ok) (hb:b.ok):(iM (cP a.d (dv a.d b.d))).size≤6000000∧(iM (cP b.d (dv a.d b.d))).size≤6000000∧ -18000000≤dv a.d b.d∧dv a.d b.d≤18000000:=by
 obtain ⟨_,fa1,fa2,fa3⟩:=lB ha;obtain ⟨_,fb1,fb2,fb3⟩:=lB hb;have hP:=ID a.d b.d 18000000 abq abq;have h1:=wV a.d (dv a.d b.d);have h2:=wV b.d (dv a.d b.d);rw [dn,dn];refine ⟨abq,abq,hP.1,hP.2⟩
theorem rj (i:Int): -1≤i.sign∧i.sign≤1:=by
 rcases aeG i 0 with h|h|h
 ·rw [adb h];omega
 ·rw [h];simp
 ·rw [adi h];omega
theorem gh (a b:NR) (w:World) (hT:dq w) (ha:a.ok) (hb:b.ok):
  Calls Tryz.prog 26 #[.agg #[.bool a.neg,.string a.aO,.int .i64 a.e],.agg #[.bool b.neg,.string b.aO,.int .i64 b.e]] w fun r w'=>r=.returned (.int .i64 (fB a.d b.d))∧Below w.heap.size w w':=by
 have hh:=Hp.start w;obtain ⟨hs1,hs2,_⟩:=sM ha hb;have hsa:a.i.sign=(cP a.d (dv a.d b.d)).sign:=by rw [NR.sign,GX _ (dv a.d b.d),OH]
 have hsb:b.i.sign=(cP b.d (dv a.d b.d)).sign:=by rw [NR.sign,GX _ (dv a.d b.d),Pm]
 have hba:=rj a.i;have hbb:=rj b.i;by_cases hne:a.i.sign=b.i.sign
 ·refine Ur ?_;refine bX ?_;intro b2 w2 hh b3 w3 hh;refine aC 3 [[(2,none)],[(8,some 0)],[(3,none)]] [(2,10),(1,9),(0,8)] hh mixed abt ?_;refine da 1 [_,_,_] ?_;refine dC (fun _ hj=>ct a _) ?_;refine da 0 [_,_,_] ?_;refine av ?_;intro f W hJ hV;have hb_1:=hJ.bl;obtain ⟨v10,v9,v8,_⟩:=hV;replace hh:=hJ.hp;refine ay (aQ (aa v10 (aa v9 (aa v8 aw)))) ?_;dsimp only [bA];clear hJ;refine aZ hh (ct b _) rfl ?_;intro w11 hh;refine aj ?_;refine aZ hh (sE a b _ (hT.hp hh) ha hb) rfl ?_;intro w22 hh;refine bX ?_;intro b7 w7 hh ws hh;refine aZ hh (Gi _ _ _ _ _ abq abq) rfl ?_;intro w27 hh;rw [ee,ee,Da];refine aj ?_;exact ⟨rfl,hh.below⟩
 ·refine Ur ?_;refine bX ?_;intro b2 w2 hh b3 w3 hh;refine aC 3 [[(2,none)],[(8,some 0)],[(3,none)]] [(2,10),(1,9),(0,8)] hh mixed abt ?_;refine da 1 [_,_,_] ?_;refine dC (fun _ hj=>ct a _) ?_;refine da 0 [_,_,_] ?_;refine av ?_;intro f W hJ hV;have hb_1:=hJ.bl;obtain ⟨v10,v9,v8,_⟩:=hV;replace hh:=hJ.hp;refine ay (aQ (aa v10 (aa v9 (aa v8 aw)))) ?_;dsimp only [bA];clear hJ;refine aZ hh (ct b _) rfl ?_;intro w11 hh;refine aj ?_;refine ⟨?_,hh.below⟩;rw [hsa,hsb] at hne;rw [hsa,hsb,←Da a.d b.d,←K3 _ _ hne]
theorem xf (a:NR) (w:World) (hT:dq w) (ha:a.aO.size≤100000000) (h1: -1000000000000≤a.e) (h2:a.e≤1000000000000):
  Calls Tryz.prog 27 #[.agg #[.bool a.neg,.string a.aO,.int .i64 a.e]] w fun r w'=>r=.returned (.agg #[.bool (nR (if a.d<0 then -a.d else a.d)).neg,.string (nR (if a.d<0 then -a.d else a.d)).aO,.int .i64 (nR (if a.d<0 then -a.d else a.d)).e])∧Below w.heap.size w w':=by
 have hh:=Hp.start w;have hs:=NR.sign a;by_cases h0:a.d<0
 ·have hs2:a.i.sign= -1:=by rw [hs,fB,abx h0]
  rw [abx h0];refine ae (N:=10) (l:=[.agg #[.bool a.neg,.string a.aO,.int .i64 a.e]]) Tryz.func27 rfl rfl (by simp) ?_;refine bX ?_;intro b1 w1 hh b2 w2 hh;refine aZ hh (ct a _) rfl ?_;intro w4 hh;rw [hs2];refine aj ?_;refine aZ hh (j3 a _ (hT.hp hh) ha h1 h2) rfl ?_;intro w7 hh;exact AO
 ·have hs2:¬a.i.sign<0:=by rw [hs,fB,abw h0];split<;>omega
  rw [abw h0];refine ae (N:=10) (l:=[.agg #[.bool a.neg,.string a.aO,.int .i64 a.e]]) Tryz.func27 rfl rfl (by simp) ?_;refine bX ?_;intro b1 w1 hh b2 w2 hh;refine aZ hh (ct a _) rfl ?_;intro w4 hh;refine aj ?_;refine aZ hh (dK a _ (hT.hp hh) ha h1 h2) rfl ?_;intro w9 hh;exact AO
def dm (n:Int):Dyadic:=Dyadic.ofIntWithPrec 1 (-n)
theorem AZ (i p n:Int):Dyadic.ofIntWithPrec i (p-n)=Dyadic.ofIntWithPrec i p*dm n:=by
 rw [dm,pV,Int.mul_one];rfl
theorem mZ (a:NR) (n:Int) (w:World) (hT:dq w) (ha:a.aO.size≤100000000) (h1: -100000000000≤a.e) (h2:a.e≤100000000000) (h3: -100000000000≤n) (h4:n≤100000000000):
  Calls Tryz.prog 37 #[.agg #[.bool a.neg,.string a.aO,.int .i64 a.e],.int .i64 n] w fun r w'=>r=.returned (.agg #[.bool (nR (a.d*dm n)).neg,.string (nR (a.d*dm n)).aO,.int .i64 (nR (a.d*dm n)).e])∧Below w.heap.size w w':=by
 have hh:=Hp.start w;have e1:Dyadic.ofIntWithPrec (iv a.neg a.aO) (-(a.e+n))=a.d*dm n:=by
  rw [NR.d,NR.i,←AZ];congr 1;omega
 have hc:=fun w1 hT1=>fU a.neg a.aO (a.e+n) w1 hT1 ha abq abq;rw [e1] at hc;refine ae (N:=12) (l:=[.agg #[.bool a.neg,.string a.aO,.int .i64 a.e],.int .i64 n]) Tryz.func37 rfl rfl (by simp) ?_;refine bX ?_;intro b2 w2 hh b4 w4 hh;refine aZ hh (hc _ (hT.hp hh)) rfl ?_;intro w11 hh;exact AO
def nM:List Dyadic→Dyadic:=fun l=>l.foldl (· + ·) 0
theorem As (l:List Dyadic) (x:Dyadic):nM (l++[x])=nM l+x:=by simp [nM]
theorem Sz.sum {l:List Dyadic} (h:∀x∈l,Sz k x):Sz (k+l.length) (nM l):=by
 have:∀(n:Nat),n≤l.length→Sz (k+n) (nM (l.take n)):=by
  intro n
  induction n with
  |zero=>intro _;exact Sz.zero _
  |succ n ih=>
   intro hn;obtain ⟨x,hx⟩:=ai (l:=l) (k:=n) abq;rw [al hx,As];exact (ih abq).add ((h x (abz hx)).mono abq)
 have h2:=this l.length (abD _);rwa [aez] at h2
theorem wq (a b:NR) (w:World) (hT:dq w) (ha:a.ok) (hb:b.ok):
  Calls Tryz.prog 78 #[.agg #[.bool (iN (cP a.d (dv a.d b.d)+cP b.d (dv a.d b.d))),.string (iM (cP a.d (dv a.d b.d)+cP b.d (dv a.d b.d)))],.int .i64 (-(dv a.d b.d))] w fun r w'=>r=.returned (.agg #[.bool (nR (a.d+b.d)).neg,.string (nR (a.d+b.d)).aO,.int .i64 (nR (a.d+b.d)).e])∧Below w.heap.size w w':=by
 obtain ⟨hs1,hs2,hP1,hP2⟩:=sM ha hb;rw [dn] at hs1 hs2;have h3:=nG (cP a.d (dv a.d b.d)) (cP b.d (dv a.d b.d));have:=fU (iN (cP a.d (dv a.d b.d)+cP b.d (dv a.d b.d))) (iM (cP a.d (dv a.d b.d)+cP b.d (dv a.d b.d))) (-(dv a.d b.d)) w hT (by rw [dn];omega) abq abq;rw [ee,Int.neg_neg,Sk] at this;exact this
theorem gl (L:Option Addr) (n c:Nat) (l:List NR) (w:World) (hT:dq w) (hS:Sl w L n 3 (ar NR.cells l)) (hl:∀a∈l,a.ok) (k:Nat) (hk:∀a∈l,Sz k a.d) (hkn:k+n≤3999990):
  Calls Tryz.prog 63 #[.slice L n c] w fun r w'=>r=.returned (.agg #[.bool (nR (nM (l.map NR.d))).neg,.string (nR (nM (l.map NR.d))).aO,.int .i64 (nR (nM (l.map NR.d))).e])∧Below w.heap.size w w':=by
 have hln:=hS.aX NR.len abq;have hh:=Hp.start w;refine ae (N:=27) (l:=[.slice L n c]) Tryz.func63 rfl rfl (by simp) ?_;refine bX ?_;intro b2 w2 hh b3 w3 hh;refine aH [5,6,9,10,11,12,13,14,15,16,17,18,19,20,21,22,23,24,25] 9
  (fun j w'=>∃(i:Nat) (S:Dyadic),i≤n∧j=.int .i64 i∧S=nM ((l.take i).map NR.d)∧Hp w [.blk b3 33 [.bool (nR S).neg,.string (nR S).aO,.int .i64 (nR S).e] (0,0),.blk b2 33 [.bool false,.string (ByteArray.mk #[]),.int .i64 0] (0,0)] w')
  (fun j _=>n-(intOf j).toNat) ?_ ?_
 ·exact ⟨0,0,abB _,rfl,rfl,hh⟩
 ·clear hh;rintro ρ' j w' ⟨i,S,hi,rfl,hS2,hh⟩;by_cases hlt:i<n
  ·obtain ⟨x,hx⟩:=ai (l:=l) (k:=i) abq;obtain ⟨ad,rfl,hr⟩:=hS.at_ abq;have hxm:=abz hx;have hS3:nM ((l.take (i+1)).map NR.d)=S+x.d:=by rw [al hx,acM,aek,As,hS2]
   have hSz:Sz (k+i) S:=by
    rw [hS2];have:=Sz.sum (k:=k) (l:=(l.take i).map NR.d) (fun y hy=>by
     obtain ⟨a,ha,rfl⟩:=abL.1 hy;exact hk a (adx ha))
    rw [abH,abP,acQ abq] at this;exact this
   have hSo:=hSz.ok abq;have hlc:=fun w1 hT1=>sE (nR S) x w1 hT1 hSo (hl x hxm);have hmc:=fun w1 hT1=>wq (nR S) x w1 hT1 hSo (hl x hxm);obtain ⟨hs1,hs2,_⟩:=sM hSo (hl x hxm);rw [a6] at hlc hmc hs1 hs2;have e1:([iR (cP S (dv S x.d)),iR (cP x.d (dv S x.d))].map IR.v).sum=cP S (dv S x.d)+cP x.d (dv S x.d):=by
    simp only [ab8,acF,aeK,List.sum_nil,V4];omega
   have hac:∀(A:Option Addr) (cc:Nat) (w1:World),Sl w1 A 2 2 (ar IR.cells [iR (cP S (dv S x.d)),iR (cP x.d (dv S x.d))])→Calls Tryz.prog 112 #[.slice A 2 cc] w1 fun e w'=>e=.returned (.agg #[.bool (iN (cP S (dv S x.d)+cP x.d (dv S x.d))),.string (iM (cP S (dv S x.d)+cP x.d (dv S x.d)))])∧Below w1.heap.size w1 w':=fun A cc w1 hsl=>by
    have:=q7 A 2 cc [iR (cP S (dv S x.d)),iR (cP x.d (dv S x.d))] w1 hsl abq (by simp [iR];omega);rw [e1] at this;exact this
   refine aj ?_;refine Ij ?_;refine bX ?_;intro b5 w5 hh ws hh;refine aZ hh (hlc _ (hT.hp hh)) rfl ?_;intro w15 hh;refine bX ?_;intro b6 w6 hh ws hh;refine aC 8 [[(6,none)],[(16,some 0)],[(6,none)],[(18,some 2)],[(17,some 1),(19,some 3)],[(20,some 4)],[(6,none)],[(22,some 6)]] [(7,23),(6,22),(5,21),(4,20),(3,19),(2,18),(1,17),(0,16)] hh mixed abt ?_;refine dw ?_;refine da 0 [_,_] ?_;refine dw ?_;refine da 0 [_,_] ?_;refine uW [_,_,_,_] ?_;refine aW (i:=5) (Is (.agg #[.bool (iN (cP S (dv S x.d)+cP x.d (dv S x.d))),.string (iM (cP S (dv S x.d)+cP x.d (dv S x.d)))])) Is.ext ?_ ?_
   ·intro ρ1 w1 hj hR;obtain ⟨A20,c20,h20,s20⟩:=hR.1;exact bp rfl (aR ak.out (aq h20 aY)) (hac A20 c20 _ s20) (fun _ _ hq=>⟨_,hq.1,hq.2,rfl⟩)
   refine dw ?_;refine fF 0 ?_;refine av ?_;intro f W hJ hV;have hb_6:=hJ.bl;obtain ⟨v23,v22,v21,v20,v19,v18,v17,v16,_⟩:=hV;obtain ⟨A20,c20,e20,f20⟩:Rows _ _ _ (f 4) W:=v20;replace hh:=hJ.hp;refine ay (aQ (aa v23 (aa v22 (aa v21 (aa e20 (aa v19 (aa v18 (aa v17 (aa v16 aw))))))))) ?_;dsimp only [bA];clear e20 hJ;refine aZ hh (hmc _ (hT.hp hh)) rfl ?_;intro w24 hh;refine bT ?_;intro ws hh;replace hh:=hh.sub ((acn _ _).trans (acn _ _));exact S4
  ·exact Yj
theorem jH (x y:Dyadic):nM [x,y]=x+y:=by
 show (0+x)+y=x+y;rw [adX]
theorem qF (a b:NR) (w:World) (hT:dq w) (ha:a.ok) (hb:b.ok) (k:Nat) (hka:Sz k a.d) (hkb:Sz k b.d) (hk:k≤3999980):
  Calls Tryz.prog 85 #[.agg #[.bool a.neg,.string a.aO,.int .i64 a.e],.agg #[.bool b.neg,.string b.aO,.int .i64 b.e]] w fun r w'=>r=.returned (.agg #[.bool (nR (a.d-b.d)).neg,.string (nR (a.d-b.d)).aO,.int .i64 (nR (a.d-b.d)).e])∧Below w.heap.size w w':=by
 have hh:=Hp.start w;obtain ⟨hb1,hb2,hb3⟩:=hb;have e1:nM ([a,nR (-b.d)].map NR.d)=a.d-b.d:=by
  simp only [ab8,acF,a6,jH];rfl
 have hac:∀(A:Option Addr) (cc:Nat) (w1:World),dq w1→Sl w1 A 2 3 (ar NR.cells [a,nR (-b.d)])→Calls Tryz.prog 63 #[.slice A 2 cc] w1 fun r w'=>r=.returned (.agg #[.bool (nR (a.d-b.d)).neg,.string (nR (a.d-b.d)).aO,.int .i64 (nR (a.d-b.d)).e])∧Below w1.heap.size w1 w':=fun A cc w1 hT1 hsl=>by
  have:=gl A 2 cc [a,nR (-b.d)] w1 hT1 hsl (by simpa using ⟨ha,hkb.neg.ok abq⟩) k (by simpa [a6] using ⟨hka,hkb.neg⟩) abq;rw [e1] at this;exact this
 refine ae (N:=10) (l:=[.agg #[.bool a.neg,.string a.aO,.int .i64 a.e],.agg #[.bool b.neg,.string b.aO,.int .i64 b.e]]) Tryz.func85 rfl rfl (by simp) ?_;refine lK ?_;intro b2 w2 hh b3 w3 hh b4 w4 hh;refine aC 3 [[(2,none)],[(3,none)],[(6,some 1)]] [(2,7),(1,6),(0,5)] hh mixed abt ?_;refine da 2 [_,_,_] ?_;refine da 1 [_,_,_] ?_;refine dC (fun _ hj=>j3 b _ (hT.hp hj.hp) abq abq abq) ?_;refine av ?_;intro f W hJ hV;have hb_1:=hJ.bl;obtain ⟨v7,v6,v5,_⟩:=hV;replace hh:=hJ.hp;refine zG ?_;dsimp only [bA];clear hJ;refine qd ?_;intro b8 w8 hh;refine aZ hh (hac _ _ _ (hT.hp hh) (hh.ao (i:=0) rfl)) rfl ?_;intro w9 hh;exact Ow
def gO:List Dyadic→Dyadic:=fun l=>l.foldl (· * ·) 1
theorem yt (l:List Dyadic) (x:Dyadic):gO (l++[x])=gO l*x:=by simp [gO]
theorem Sz.one:Sz 1 1:=⟨2,by decide+kernel,abr⟩
theorem Sz.prod {l:List Dyadic} (h:∀x∈l,Sz k x):Sz (1+k*l.length) (gO l):=by
 have:∀(n:Nat),n≤l.length→Sz (1+k*n) (gO (l.take n)):=by
  intro n
  induction n with
  |zero=>intro _;exact Sz.one
  |succ n ih=>
   intro hn;obtain ⟨x,hx⟩:=ai (l:=l) (k:=n) abq;rw [al hx,yt];exact ((ih abq).mul (h x (abz hx))).mono (by rw [ac5];omega)
 have h2:=this l.length (abD _);rwa [aez] at h2
theorem eC (L:Option Addr) (n c:Nat) (l:List NR) (w:World) (hT:dq w) (hS:Sl w L n 3 (ar NR.cells l)) (hl:∀a∈l,a.ok) (k:Nat) (hk:∀a∈l,Sz k a.d) (hkn:k*n≤3999980) (hn:n≤1000000):
  Calls Tryz.prog 44 #[.slice L n c] w fun r w'=>r=.returned (.agg #[.bool (nR (gO (l.map NR.d))).neg,.string (nR (gO (l.map NR.d))).aO,.int .i64 (nR (gO (l.map NR.d))).e])∧Below w.heap.size w w':=by
 have hln:=hS.aX NR.len abq;have hh:=Hp.start w;refine ae (N:=27) (l:=[.slice L n c]) Tryz.func44 rfl rfl (by simp) ?_;refine bT ?_;intro b2 w2 hh;refine DM ?_;intro w6 hh;refine bX ?_;intro b3 w3 hh ws hh;refine aH [5,9,10,11,12,13,14,15,16,17,18,19,20,21,22,23,24,25] 9
  (fun j w'=>∃(i:Nat) (S:Dyadic),i≤n∧j=.int .i64 i∧S=gO ((l.take i).map NR.d)∧Hp w [.blk b3 33 [.bool (nR S).neg,.string (nR S).aO,.int .i64 (nR S).e] (0,0),.blk b2 33 [.bool false,.string (ByteArray.mk #[]),.int .i64 0] (0,0)] w')
  (fun j _=>n-(intOf j).toNat) ?_ ?_
 ·exact ⟨0,_,abB _,rfl,rfl,hh⟩
 ·clear hh;rintro ρ' j w' ⟨i,S,hi,rfl,hS2,hh⟩;by_cases hlt:i<n
  ·obtain ⟨x,hx⟩:=ai (l:=l) (k:=i) abq;obtain ⟨ad,rfl,hr⟩:=hS.at_ abq;have hxm:=abz hx;have hS3:gO ((l.take (i+1)).map NR.d)=S*x.d:=by rw [al hx,acM,aek,yt,hS2]
   have hSz:Sz (1+k*i) S:=by
    rw [hS2];have:=Sz.prod (k:=k) (l:=(l.take i).map NR.d) (fun y hy=>by
     obtain ⟨a,ha,rfl⟩:=abL.1 hy;exact hk a (adx ha))
    rw [abH,abP,acQ abq] at this;exact this
   have hki:k*i≤k*n:=acd _ hi;obtain ⟨so1,so2,so3⟩:=hSz.ok abq;obtain ⟨xo1,xo2,xo3⟩:=hl x hxm;have e1:o5 ([IR.mk (nR S).neg (nR S).aO,IR.mk x.neg x.aO].map IR.v)=(nR S).i*x.i:=by
    simp only [ab8,acF,o5,Int.mul_one];rfl
   have e2:Dyadic.ofIntWithPrec ((nR S).i*x.i) (-((nR S).e+x.e))=S*x.d:=by
    have:=pV (nR S).i x.i (-(nR S).e) (-x.e);rw [Int.neg_add,←this];congr 1;exact a6 S
   have hac:∀(A:Option Addr) (cc:Nat) (w1:World),Sl w1 A 2 2 (ar IR.cells [IR.mk (nR S).neg (nR S).aO,IR.mk x.neg x.aO])→Calls Tryz.prog 91 #[.slice A 2 cc] w1 fun e w'=>e=.returned (.agg #[.bool (iN ((nR S).i*x.i)),.string (iM ((nR S).i*x.i))])∧Below w1.heap.size w1 w':=fun A cc w1 hsl=>by
    have:=F0 A 2 cc [IR.mk (nR S).neg (nR S).aO,IR.mk x.neg x.aO] w1 hsl abq (by simp;omega);rw [e1] at this;exact this
   have hmc:∀w1,dq w1→Calls Tryz.prog 78 #[.agg #[.bool (iN ((nR S).i*x.i)),.string (iM ((nR S).i*x.i))],.int .i64 ((nR S).e+x.e)] w1 fun r w'=>r=.returned (.agg #[.bool (nR (S*x.d)).neg,.string (nR (S*x.d)).aO,.int .i64 (nR (S*x.d)).e])∧Below w1.heap.size w1 w':=fun w1 hT1=>by
    have hb1:=hQ (nR S).neg (nR S).aO;have hb2:=hQ x.neg x.aO;have hb3:=mW (nR S).i x.i;have:=fU (iN ((nR S).i*x.i)) (iM ((nR S).i*x.i)) ((nR S).e+x.e) w1 hT1 (by rw [dn];unfold NR.i at hb3 ⊢;omega) abq abq;rw [ee,e2] at this;exact this
   refine aj ?_;refine Ij ?_;refine bX ?_;intro b5 w5 hh ws hh;refine aC 11 [[(3,none)],[(13,some 0)],[(5,none)],[(15,some 2)],[(14,some 1),(16,some 3)],[(17,some 4)],[(3,none)],[(19,some 6)],[(5,none)],[(21,some 8)],[(20,some 7),(22,some 9)]] [(10,23),(9,22),(8,21),(7,20),(6,19),(5,18),(4,17),(3,16),(2,15),(1,14),(0,13)] hh mixed abt ?_;refine dw ?_;refine da 1 [_,_] ?_;refine dw ?_;refine da 0 [_,_] ?_;refine uW [_,_,_,_] ?_;refine aW (i:=5) (Is (.agg #[.bool (iN ((nR S).i*x.i)),.string (iM ((nR S).i*x.i))])) Is.ext ?_ ?_
   ·intro ρ1 w1 hj hR;obtain ⟨A17,c17,h17,s17⟩:=hR.1;exact bp rfl (aR ak.out (aq h17 aY)) (hac A17 c17 _ s17) (fun _ _ hq=>⟨_,hq.1,hq.2,rfl⟩)
   refine dw ?_;refine fF 1 ?_;refine dw ?_;refine fF 0 ?_;refine tk ?_;refine av ?_;intro f W hJ hV;have hb_5:=hJ.bl;obtain ⟨v23,v22,v21,v20,v19,v18,v17,v16,v15,v14,v13,_⟩:=hV;obtain ⟨A17,c17,e17,f17⟩:Rows _ _ _ (f 4) W:=v17;replace hh:=hJ.hp;refine ay (aQ (aa v23 (aa v22 (aa v21 (aa v20 (aa v19 (aa v18 (aa e17 (aa v16 (aa v15 (aa v14 (aa v13 aw)))))))))))) ?_;dsimp only [bA];clear e17 hJ;refine aZ hh (hmc _ (hT.hp hh)) rfl ?_;intro w24 hh;refine bT ?_;intro ws hh;replace hh:=hh.sub (acn _ _);exact S4
  ·exact Yj
theorem QE (i p:Int) (n:Nat):Dyadic.ofIntWithPrec i p^n=Dyadic.ofIntWithPrec (i^n) (p*n):=by
 induction n with
 |zero=>rw [adK];simp;rfl
 |succ n ih=>rw [aeh,ih,pV,Int.pow_succ,acZ,Int.mul_add];simp
theorem Xh (i p:Int):(nR (Dyadic.ofIntWithPrec i p)).aO.size≤(bf i.natAbs+7)/8∧(i=0∨ -p≤(nR (Dyadic.ofIntWithPrec i p)).e∧(nR (Dyadic.ofIntWithPrec i p)).e≤ -p+bf i.natAbs)∧(i=0→(nR (Dyadic.ofIntWithPrec i p)).e=0):=by
 by_cases h0:i=0
 ·subst h0;rw [ik,nF];exact ⟨abB _,.inl rfl,fun _=>rfl⟩
 ·have h2:=mC h0;rw [BS h0,nR];simp only;refine ⟨?_,.inr ⟨abq, ?_⟩,fun h=>absurd h h0⟩
  ·rw [dn];have:bf (i>>>i.trailingZeros).natAbs≤bf i.natAbs:=by
    apply cW;refine acB ?_ (cw _);rw [Int.shiftRight_eq_div_pow];exact aeA _ _
   omega
  ·have h3:2^i.trailingZeros<2^bf i.natAbs:=acB h2 (cw _);have:=(afd abq).1 h3;omega
theorem Gc (a:NR) (n:Int) (w:World) (hT:dq w) (ha:a.ok) (hs:n.toNat*a.aO.size≤1000000) (hn:n≤1000):
  Calls Tryz.prog 87 #[.agg #[.bool a.neg,.string a.aO,.int .i64 a.e],.int .i64 n] w fun r w'=>r=.returned (.agg #[.bool (nR (a.d^n.toNat)).neg,.string (nR (a.d^n.toNat)).aO,.int .i64 (nR (a.d^n.toNat)).e])∧Below w.heap.size w w':=by
 have hh:=Hp.start w;obtain ⟨ha1,ha2,ha3⟩:=ha;obtain ⟨_,fa1,fa2,fa3⟩:=lB (a:=a) ⟨ha1,ha2,ha3⟩;have hsz:(nR a.d).aO.size≤a.aO.size:=by
  have:=(Xh a.i (-a.e)).1;have h2:=hQ a.neg a.aO;unfold NR.d NR.i at*;omega
 have hms:n.toNat*(nR a.d).aO.size≤n.toNat*a.aO.size:=acd _ hsz;have e1:(if (0:Int)>n then 0 else n)=(n.toNat:Int):=by split<;>omega
 have hm:n.toNat≤1000:=abq;have hlo: -18000000*1000≤(nR a.d).e*(n.toNat:Int):=by
  have h1:(-18000000:Int)*n.toNat≤(nR a.d).e*n.toNat:=Int.mul_le_mul_of_nonneg_right fa2 abq;omega
 have hhi:(nR a.d).e*(n.toNat:Int)≤18000000*1000:=by
  have h1:(nR a.d).e*n.toNat≤(18000000:Int)*n.toNat:=Int.mul_le_mul_of_nonneg_right fa3 abq;omega
 have hpc:=fun w1=>Gv (nR a.d).neg (nR a.d).aO n w1 abq abq abq;have hmc:∀w1,dq w1→Calls Tryz.prog 78 #[.agg #[.bool (iN (iv (nR a.d).neg (nR a.d).aO^n.toNat)),.string (iM (iv (nR a.d).neg (nR a.d).aO^n.toNat))],.int .i64 ((nR a.d).e*(n.toNat:Int))] w1 fun r w'=>r=.returned (.agg #[.bool (nR (a.d^n.toNat)).neg,.string (nR (a.d^n.toNat)).aO,.int .i64 (nR (a.d^n.toNat)).e])∧Below w1.heap.size w1 w':=fun w1 hT1=>by
  have hb:=sk (iv (nR a.d).neg (nR a.d).aO) n.toNat;have hb2:=hQ (nR a.d).neg (nR a.d).aO;have hb3:n.toNat*bf (iv (nR a.d).neg (nR a.d).aO).natAbs≤n.toNat*(8*(nR a.d).aO.size):=acd _ hb2;rw [aec] at hb3;have:=fU (iN (iv (nR a.d).neg (nR a.d).aO^n.toNat)) (iM (iv (nR a.d).neg (nR a.d).aO^n.toNat)) ((nR a.d).e*(n.toNat:Int)) w1 hT1 (by rw [dn];omega) abq abq;have e2:Dyadic.ofIntWithPrec (iv (nR a.d).neg (nR a.d).aO^n.toNat) (-((nR a.d).e*(n.toNat:Int)))=a.d^n.toNat:=by
   have h3:=a6 a.d
   conv=>rhs;rw [←h3,NR.d,QE]
   rw [Int.neg_mul];rfl
  rw [ee,e2] at this;exact this
 refine ae (N:=17) (l:=[.agg #[.bool a.neg,.string a.aO,.int .i64 a.e],.int .i64 n]) Tryz.func87 rfl rfl (by simp) ?_;refine bX ?_;intro b2 w2 hh b4 w4 hh;refine aZ hh (dK a _ (hT.hp hh) abq abq abq) rfl ?_;intro w6 hh;refine bT ?_;intro ws hh;refine aC 9 [[(2,none)],[(7,some 0)],[(1,none)],[(8,some 1),(9,some 2)],[(2,none)],[(11,some 4)],[(1,none)],[(13,some 6)],[(12,some 5),(14,some 7)]] [(8,15),(7,14),(6,13),(5,12),(4,11),(3,10),(2,9),(1,8),(0,7)] hh mixed abt ?_;refine dw ?_;refine da 1 [_,_] ?_;refine dp ?_;refine dC (fun _ hj=>hpc _) ?_;refine dw ?_;refine fF 1 ?_;refine dp ?_;refine aW (i:=7) (Is (.int .i64 (n.toNat:Int))) (Is.ext) ?_ ?_
 ·intro ρ1 w1 hj hR;exact cY rfl ((Tf (ρ:=ρ1) (x:=.tmp 13) (show ρ1 13=Value.int .i64 n from hR.1) rfl).trans (by rw [e1])) ⟨Below.refl _ _,rfl⟩
 refine WO ?_;refine av ?_;intro f W hJ hV;have hb_2:=hJ.bl;obtain ⟨v15,v14,v13,v12,v11,v10,v9,v8,v7,_⟩:=hV;replace hh:=hJ.hp;refine ay (aQ (aa v15 (aa v14 (aa v13 (aa v12 (aa v11 (aa v10 (aa v9 (aa v8 (aa v7 aw)))))))))) ?_;dsimp only [bA];clear hJ;refine aZ hh (hmc _ (hT.hp hh)) rfl ?_;intro w16 hh;exact AO
def fW (f:Dyadic→Dyadic→Bool):List Dyadic→Dyadic
 |[]=>0
 |a::r=>r.foldl (fun out a=>if f a out then a else out) a
theorem Gq (f:Dyadic→Dyadic→Bool) {l:List Dyadic} (h:l≠[]) (x:Dyadic):fW f (l++[x])=if f x (fW f l) then x else fW f l:=by
 cases l with
 |nil=>exact absurd rfl h
 |cons a r=>
  show (r++[x]).foldl _ a=_;rw [aeJ]
  rfl
theorem rS (L:Option Addr) (n c:Nat) (l:List NR) (g:FuncId) (f:Dyadic→Dyadic→Bool) (w:World) (hT:dq w) (hS:Sl w L n 3 (ar NR.cells l)) (hl:∀a∈l,a.ok) (hn:n≤1000000) [ak Tryz.prog g]
  (hg:∀(a b:NR) (w:World),dq w→a.ok→b.ok→Calls Tryz.prog g #[.agg #[.bool a.neg,.string a.aO,.int .i64 a.e],.agg #[.bool b.neg,.string b.aO,.int .i64 b.e]] w fun r w'=>r=.returned (.bool (f a.d b.d))∧Below w.heap.size w w'):
  Calls Tryz.prog 174 #[.slice L n c,.func (.func g) #[] #[]] w fun r w'=>r=.returned (.agg #[.bool (nR (fW f (l.map NR.d))).neg,.string (nR (fW f (l.map NR.d))).aO,.int .i64 (nR (fW f (l.map NR.d))).e])∧Below w.heap.size w w':=by
 have hln:=hS.aX NR.len abq;have hh:=Hp.start w;refine ae (N:=27) (l:=[.slice L n c,.func (.func g) #[] #[]]) Tryz.func174 rfl rfl (by simp) ?_;refine bX ?_;intro b4 w4 hh b5 w5 hh;refine aH [6,7,10,11,12,13,14,15,16,17,18,19,20,21,22,23,24] 10
  (fun j w'=>∃(i:Nat) (o:NR),i≤n∧j=.int .i64 i∧o.ok∧o.d=fW f ((l.take i).map NR.d)∧Hp w [.blk b5 33 [.bool o.neg,.string o.aO,.int .i64 o.e] (0,0),.blk b4 33 [.bool false,.string (ByteArray.mk #[]),.int .i64 0] (0,0)] w')
  (fun j _=>n-(intOf j).toNat) ?_ ?_
 ·exact ⟨0,nR 0,abB _,rfl,(Sz.zero 0).ok abq,rfl,hh⟩
 ·clear hh;rintro ρ' j w' ⟨i,o,hi,rfl,hok,hod,hh⟩;by_cases hlt:i<n
  ·obtain ⟨x,hx⟩:=ai (l:=l) (k:=i) abq;obtain ⟨ad,rfl,hr⟩:=hS.at_ abq;have hxo:=hl x (abz hx);have htk:(l.take (i+1)).map NR.d=(l.take i).map NR.d++[x.d]:=by rw [al hx,acM,aek]
   by_cases h0:i=0
   ·subst h0;refine aj ?_;refine Ij ?_;refine lK ?_;intro b7 w7 hh ws hh ws hh;replace hh:=hh.sub (acn _ _);refine ⟨⟨1,x,abq,rfl,hxo,by rw [htk];rfl,hh⟩,by show n-(0+1)<n-0;omega, ?_⟩;exact dI
   ·have hne:(l.take i).map NR.d≠[]:=by
     intro h;have:=acm List.length h;rw [abH,abP,aer] at this;omega
    have hb:=Gq f hne x.d;rw [←htk,←hod] at hb;refine aj ?_;refine Ij ?_;refine bX ?_;intro b7 w7 hh ws hh;refine g7 (hg x o _ (hT.hp hh) hxo hok) ak.out rfl rfl abr ?_;rintro e_ w21 ⟨rfl,hb_⟩;refine ⟨_,rfl, ?_⟩;replace hh:=hh.ext hb_
    cases hf:f x.d o.d with
    |true=>
     rw [hf,abx rfl] at hb;refine bT ?_;intro ws hh;replace hh:=hh.sub (acn _ _);refine ⟨⟨i+1,x,abq,rfl,hxo,hb.symm,hh⟩,by show n-(i+1)<n-i;omega, ?_⟩;exact dI
    |false=>
     rw [hf] at hb;refine aj ?_;replace hh:=hh.sub (acn _ _);refine ⟨⟨i+1,o,abq,rfl,hok,hb.symm,hh⟩,by show n-(i+1)<n-i;omega, ?_⟩;exact dI
  ·rw [abG abq] at hod;obtain ⟨o1,o2,o3⟩:=hok;refine aj ?_;refine aZ hh (dK o _ (hT.hp hh) abq abq abq) rfl ?_;intro w26 hh;rw [hod];exact Ow
theorem vd (x y:Dyadic):fB x y<0↔x<y:=by
 unfold fB;split
 ·rename_i h;simp [h]
 ·rename_i h;split<;>simp [h]
theorem rJ (x y:Dyadic):0<fB x y↔y<x:=by
 unfold fB;split
 ·rename_i h;have:¬y<x:=by grind
  simp [this]
 ·split<;>rename_i h<;>simp [h]
theorem Dq (a b:NR) (w:World) (hT:dq w) (ha:a.ok) (hb:b.ok):
  Calls Tryz.prog 175 #[.agg #[.bool a.neg,.string a.aO,.int .i64 a.e],.agg #[.bool b.neg,.string b.aO,.int .i64 b.e]] w fun r w'=>r=.returned (.bool (decide (a.d<b.d)))∧Below w.heap.size w w':=by
 have hh:=Hp.start w;have e1:decide (fB a.d b.d<0)=decide (a.d<b.d):=decide_eq_decide.2 (vd _ _);refine ae (N:=9) (l:=[.agg #[.bool a.neg,.string a.aO,.int .i64 a.e],.agg #[.bool b.neg,.string b.aO,.int .i64 b.e]]) Tryz.func175 rfl rfl (by simp) ?_;exact Xq
theorem CR (a b:NR) (w:World) (hT:dq w) (ha:a.ok) (hb:b.ok):
  Calls Tryz.prog 176 #[.agg #[.bool a.neg,.string a.aO,.int .i64 a.e],.agg #[.bool b.neg,.string b.aO,.int .i64 b.e]] w fun r w'=>r=.returned (.bool (decide (b.d<a.d)))∧Below w.heap.size w w':=by
 have hh:=Hp.start w;have e1:decide (0<fB a.d b.d)=decide (b.d<a.d):=decide_eq_decide.2 (rJ _ _);refine ae (N:=9) (l:=[.agg #[.bool a.neg,.string a.aO,.int .i64 a.e],.agg #[.bool b.neg,.string b.aO,.int .i64 b.e]]) Tryz.func176 rfl rfl (by simp) ?_;exact Xq
theorem Hm (L:Option Addr) (n c:Nat) (l:List NR) (w:World) (hT:dq w) (hS:Sl w L n 3 (ar NR.cells l)) (hl:∀a∈l,a.ok) (hn:n≤1000000):
  Calls Tryz.prog 126 #[.slice L n c] w fun r w'=>r=.returned (.agg #[.bool (nR (fW (fun x y=>decide (x<y)) (l.map NR.d))).neg,.string (nR (fW (fun x y=>decide (x<y)) (l.map NR.d))).aO,.int .i64 (nR (fW (fun x y=>decide (x<y)) (l.map NR.d))).e])∧Below w.heap.size w w':=by
 have hh:=Hp.start w;refine ae (N:=5) (l:=[.slice L n c]) Tryz.func126 rfl rfl (by simp) ?_;refine bT ?_;intro b2 w2 hh;refine aZ hh (rS L n c l 175 (fun x y=>decide (x<y)) _ (hT.hp hh) (hS.ext hh.below) hl hn Dq) rfl ?_;intro w4 hh;exact AO
theorem FT (L:Option Addr) (n c:Nat) (l:List NR) (w:World) (hT:dq w) (hS:Sl w L n 3 (ar NR.cells l)) (hl:∀a∈l,a.ok) (hn:n≤1000000):
  Calls Tryz.prog 127 #[.slice L n c] w fun r w'=>r=.returned (.agg #[.bool (nR (fW (fun x y=>decide (y<x)) (l.map NR.d))).neg,.string (nR (fW (fun x y=>decide (y<x)) (l.map NR.d))).aO,.int .i64 (nR (fW (fun x y=>decide (y<x)) (l.map NR.d))).e])∧Below w.heap.size w w':=by
 have hh:=Hp.start w;refine ae (N:=5) (l:=[.slice L n c]) Tryz.func127 rfl rfl (by simp) ?_;refine bT ?_;intro b2 w2 hh;refine aZ hh (rS L n c l 176 (fun x y=>decide (y<x)) _ (hT.hp hh) (hS.ext hh.below) hl hn CR) rfl ?_;intro w4 hh;exact AO
theorem nk {x y:Dyadic} (h:x<y):fB x y= -1:=by rw [fB,abx h]
theorem qu {x y:Dyadic} (h:y<x):fB x y=1:=by
 have:¬x<y:=by grind
 rw [fB,abw this,abx h]
theorem tj (x:Dyadic):fB x x=0:=by
 have:¬x<x:=by grind
 rw [fB,abw this,abw this]
theorem NM (x y:Dyadic):x<y∨x=y∨y<x:=by
 rcases Classical.em (x<y) with h|h
 ·exact .inl h
 ·rcases Classical.em (y<x) with h2|h2
  ·exact .inr (.inr h2)
  ·exact .inr (.inl (by grind))
theorem vp (x y:Dyadic): -1≤fB x y∧fB x y≤1:=by
 unfold fB;split<;>(try split)<;>omega
theorem Sl.WH {A:Option Addr}{xs:List Nat} (h:Sl w A n 1 (ie xs)) (hk:k≤n):Sl w A k 1 (ie (xs.take k)):=by
 have hl:=h.1;rw [cO] at hl;refine ⟨by rw [cO,abP];omega,fun h0=> ?_⟩;obtain ⟨ad,he,hr⟩:=h.2 abq;exact ⟨ad,he,by rw [Du];exact hr.take k⟩
theorem Sl.XS {A:Option Addr}{xs:List Nat} (h:Sl w A n 1 (ie xs)):Sl w A (dR xs).length 1 (ie (dR xs)):=by
 have hl:=h.1;rw [cO] at hl;have:=eJ xs;have h2:=h.WH (k:=(dR xs).length) abq;rwa [←kS] at h2
theorem Hp.VQ {H:List HE}{A:Option Addr}{c:Nat}{t:TypeId}{xs:List Nat} (h:Hp w0 (.row A n c t 1 (ie xs)::H) w) (hl:xs.length=n):Hp w0 (.row A (dR xs).length c t 1 (ie (dR xs))::H) w:=by
 have h1:=eJ xs;have h2:=h.BL (k:=(dR xs).length) abq;rw [abZ,←Du,←kS] at h2;exact h2
theorem m6 (A:Option Addr) (n c:Nat) (xs:List Nat) (w:World) (hx:Sl w A n 1 (ie xs)) (hc:n≤c) (hn:n≤1000000000000):
  Calls Tryz.prog 183 #[.slice A n c] w fun e w'=>e=.returned (.slice A (dR xs).length c)∧Below w.heap.size w w':=by
 have hlen:xs.length=n:=by have:=hx.1;rw [cO] at this;omega
 have hh:=Hp.start w;refine ae (N:=21) (l:=[.slice A n c]) Tryz.func183 rfl rfl (by simp) ?_;refine aj ?_;refine aH [3,6,7,8,9,10,11,12,13,14,15,16,17] 3
  (fun v w'=>∃k:Nat,k≤n∧v=.int .i64 k∧dR (xs.take k)=dR xs∧w'=w)
  (fun v _=>(intOf v).toNat) ?_ ?_
 ·exact ⟨n,abD _,rfl,by rw [abG abq],rfl⟩
 ·rintro ρ' v w' ⟨k,hk,rfl,hcut,rfl⟩;by_cases h0:k=0
  ·subst h0;refine aj ?_;refine oG (h:=0) bq.out az.size rfl rfl abq abq abr ?_;refine aj ?_;rw [←hcut];exact ⟨rfl,hh.below⟩
  ·obtain ⟨j,rfl⟩:∃j,k=j+1:=⟨k-1,abq⟩;obtain ⟨d,hd⟩:=ai (l:=xs) (k:=j) abq;obtain ⟨ad,rfl,hr⟩:=hx.at_ abq;have hd2:=qL hd;rw [al hd] at hcut;by_cases hz:d=0
   ·subst hz;rw [vY] at hcut;refine bO (sr (mI ?_));refine B8 (mB (gT (mL (gT (mI (gT ?_))))));refine qy (gT ?_);refine Jg ?_;refine gT ?_;refine o9 ?_;refine aj ?_;refine ⟨⟨j,abq,by show Value.int _ _=Value.int _ _;congr 1;omega,hcut,rfl⟩,by show (((j+1:Nat):Int)-1).toNat<(((j+1:Nat):Int)).toNat;omega, ?_⟩;exact dI
   ·rw [zV hz] at hcut;refine bO (sr (mI ?_));refine B8 (mB (gT (mL (gT (mI (gT ?_))))));refine qy (gT ?_);refine Jg ?_;refine gT ?_;refine o9 ?_;refine aj ?_;refine oG (h:=j+1) bq.out az.size rfl rfl abq abq abr ?_;exact S5
theorem Kg {s:List UInt8}{c:UInt8} (hc:(Cz s)[j]?=some c.toNat) (hk:k<8):c.toNat/2^k % 2=bn s/2^(8*j+k) % 2:=by
 have h1:=u2 (Ch s) hc;rw [←h1,←bn,ab5,acv,show (2^8:Nat)=256 from rfl,←ac4];generalize bn s/256^j=m;have e:(256:Nat)=2^k*2^(8-k):=by rw [←ab5,show k+(8-k)=8 by omega]
 have e2:2^(8-k)=2*2^(7-k):=by rw [←Nat.pow_succ'];congr 1;omega
 rw [e,Nat.mod_mul_right_div_self,e2,Nat.mod_mul_right_mod]
theorem fS (a:ByteArray) (w:World) (ha:a.size≤1000000000):
  Calls Tryz.prog 142 #[.string a] w fun e w'=>∃A c,e=.returned (.slice A (aK 2 (bN a)).length c)∧w'.ownsRow w.heap.size 5 1 (.slice A (aK 2 (bN a)).length c) (aK 2 (bN a)).length (ie (aK 2 (bN a)))∧Below w.heap.size w w':=by
 have hsz:=dY a;have hh:=Hp.start w;refine ae (N:=28) (l:=[.string a]) Tryz.func142 rfl rfl (by simp) ?_;refine aj ?_;replace hh:=hh.cJ 5 1;refine bk [3,4,5,9,10,11,12,13,14,15,16,17,18,19,20,21,22,23,24,25] 3 4
  (fun o v w'=>∃(j:Nat) (A:Option Addr) (c:Nat),j≤a.size∧v=.int .i64 ((a.size:Int)-1-j)∧o=.slice A (8*j) c∧Hp w [.row A (8*j) c 5 1 (ie (bH 2 (8*j) (bN a)))] w')
  (fun _ v _=>(intOf v+1).toNat) ?_ ?_
 ·exact ⟨0,none,0,abB _,by show Value.int _ _=Value.int _ _;congr 1;omega,rfl,hh⟩
 ·clear hh;rintro ρ' o v w' ⟨j,A,c,hj,rfl,rfl,hh⟩;by_cases hlt:j<a.size
  ·obtain ⟨ch,hc⟩:=ai (l:=a.data.toList) (k:=((a.size:Int)-1-j).toNat) abq;have hlo:=Mx (s:=a.data.toList) (i:=j) (c:=ch) abq (by rw [←hc];congr 1;omega);have hc8:=ch.toNat_lt;refine aj ?_;refine bk [3,5,13,14,15,16,17,18,19,20,21,22,23,24,25] 3 5
    (fun o v w'=>∃(k:Nat) (A:Option Addr) (c:Nat),k≤8∧v=.int .i64 (k:Int)∧o=.slice A (8*j+k) c∧Hp w [.row A (8*j+k) c 5 1 (ie (bH 2 (8*j+k) (bN a)))] w')
    (fun _ v _=>8-(intOf v).toNat) ?_ ?_
   ·exact ⟨0,A,c,abB _,rfl,rfl,hh⟩
   ·clear hh;rintro ρ2 o v w2 ⟨k,A2,c2,hk,rfl,rfl,hh⟩;by_cases hk8:k<8
    ·have hst:=Kg hlo hk8;have hand:∀z:Nat,z &&& 1=z % 2:=fun z=>Nat.and_one_is_mod z;have hcl:ch.toNat/2^(k:Int).toNat<256:=acB (adM _ _) hc8;refine aj ?_;refine wB rfl rfl abq abr ?_;refine Pe ?_;refine vA ?_;intro b24 w24 hh;refine qm ?_;intro A25 c25 w25 hh;simp only [abK,ab9] at hh;replace hh:=hh.sub (acn _ _);refine aj ?_;have e1:ie (bH 2 (8*j+k) (bN a))++[Value.int .u8 ((ch.toNat/2^(k:Int).toNat &&& 1:Nat):Int)]=ie (bH 2 (8*j+(k+1)) (bN a)):=by
      rw [hand,ada,hst,←aet,mM,vW];rfl
     rw [e1] at hh;refine ⟨⟨k+1,A25,c25,abq,rfl,rfl,hh⟩,by show 8-(k+1)<8-k;omega, ?_⟩;exact dI
    ·obtain rfl:k=8:=abq;refine aj ?_;refine ⟨⟨j+1,A2,c2,abq,by show Value.int _ _=Value.int _ _;congr 1;omega,rfl,hh⟩,by show ((a.size:Int)-1-j-1+1).toNat<((a.size:Int)-1-j+1).toNat;omega, ?_⟩;exact dI
  ·obtain rfl:j=a.size:=abq;refine aj ?_;refine aZ hh (m6 _ _ _ (bH 2 (8*a.size) (bN a)) _ (hh.ao (i:=0) rfl) (hh.fh (i:=0) rfl) abq) rfl ?_;intro w27 hh;refine aj ?_;have hb:=Am a;rw [show (256:Nat)=2^8 from rfl,←acv] at hb;have hd:dR (bH 2 (8*a.size) (bN a))=aK 2 (bN a):=by
    rw [jn abq (gu abq _ _),cG hb]
   have h1:=(Hp.VQ (xs:=bH 2 (8*a.size) (bN a)) hh (aN _ _)).at_ (i:=0) rfl;exact Sr
theorem Sv {l:List Nat}{v:Nat} (h:j<l.length):l.reverse.set (l.length-1-j) v=(l.set j v).reverse:=by
 apply acp;intro i
 rcases acj i l.length with hi|hi
 ·rw [ac6 (by rw [acU];exact hi),acU,acV,acV,ac6 hi,abY];by_cases he:l.length-1-j=i
  ·rw [abx he,abx abq,abx abq,abx h]
  ·rw [abw he,abw abq]
 ·rw [abT (by simp;omega),abT (by simp;omega)]
theorem FZ {i:Nat} (P:Nat) (hP:P<2^i) (hb:b<2) (hk:i/8<k):P/256^(i/8) % 256+b*2^(i % 8)<256∧(bH 256 k P).set (i/8) (P/256^(i/8) % 256+b*2^(i % 8))=bH 256 k (P+2^i*b):=by
 have hp:2^i=256^(i/8)*2^(i % 8):=by
  rw [show (256:Nat)=2^8 from rfl,←acv,←ab5];congr 1;omega
 have h1:P/256^(i/8)<2^(i % 8):=by
  rw [acN (ab7 abq),abU,←hp];exact hP
 have h2:2^(i % 8)≤128:=by
  have:=ach (show 0<2 by omega) (show i % 8≤7 by omega);omega
 have h3:P/256^(i/8) % 256<2^(i % 8):=acB (Nat.mod_le _ _) h1;have h4:b*2^(i % 8)≤1*2^(i % 8):=acx _ abq;have h5:2^i*b=256^(i/8)*(b*2^(i % 8)):=by rw [hp,acE,abU b]
 refine ⟨abq, ?_⟩;rw [h5];refine rH abq hk ?_ abq;rw [←h5];have h6:2^i*b≤2^i*1:=acd _ abq;have h7:2^(i+1)≤256^k:=by
  rw [show (256:Nat)=2^8 from rfl,←acv];exact ach abq abq
 rw [acr] at h7;omega
theorem ij (A:Option Addr) (n c:Nat) (xs:List Nat) (w:World) (hx:Sl w A n 1 (ie xs)) (hd:Dg 2 xs) (hc:n≤c) (hn:n≤100000000000):
  Calls Tryz.prog 163 #[.slice A n c] w fun e w'=>e=.returned (.string (sN (aU 2 xs)))∧Below w.heap.size w w':=by
 have hl:=hx.1;rw [cO] at hl;have hcl:=eJ xs;have hcx:=hx.XS;have hcan:=jn abq hd;have hlen:=FO (aU 2 xs);rw [hcan] at hcl hcx;have hcd:=(ea (B:=2) abq (aU 2 xs)).1;have hcv:=eM (B:=2) abq (aU 2 xs);have hbl:(aK 2 (aU 2 xs)).length=bf (aU 2 xs):=rfl;have hh:=Hp.start w;refine ae (N:=38) (l:=[.slice A n c]) Tryz.func163 rfl rfl (by simp) ?_;refine aj ?_;refine aZ hh (m6 _ _ _ xs _ hx hc abq) rfl ?_;intro w6 hh;rw [hcan];generalize aU 2 xs=M at*;generalize aK 2 M=xs' at*;refine aj ?_;refine fy (n:=(xs'.length+7)/8) hh rfl rfl abq abq bq.out az.out rfl abq abq abr ?_;intro b11 w11 hh;refine aj ?_;rw [rV] at hh;refine aH [4,12,13,14,15,16,17,18,19,20,21,22,23,24,25,26,27,28,29,30,31,32,33,34,35] 4
  (fun v w'=>∃i:Nat,i≤xs'.length∧v=.int .i64 i∧Hp w [.row (some ⟨b11,0,none⟩) ((xs'.length+7)/8) ((xs'.length+7)/8) 5 1 (ie (bH 256 ((xs'.length+7)/8) (aU 2 (xs'.take i))).reverse)] w')
  (fun v _=>xs'.length-(intOf v).toNat) ?_ ?_
 ·exact ⟨0,abB _,rfl,by rw [adh,aU,tf,List.reverse_replicate];exact hh⟩
 ·clear hh;rintro ρ' v w' ⟨i,hi,rfl,hh⟩;by_cases hlt:i<xs'.length
  ·obtain ⟨d,hdi⟩:=ai (l:=xs') (k:=i) abq;obtain ⟨ad,rfl,hr⟩:=hcx.at_ abq;have hd2:=qL hdi;have hdw:=hcd.at_ hdi;have hP:=gi (hcd.take i);rw [abP,acQ abq] at hP;obtain ⟨s1,s2⟩:=FZ (k:=(xs'.length+7)/8) (aU 2 (xs'.take i)) hP hdw abq;have hg:(bH 256 ((xs'.length+7)/8) (aU 2 (xs'.take i))).reverse[(xs'.length+7)/8-1-i/8]?=some (aU 2 (xs'.take i)/256^(i/8) % 256):=by
    rw [ac6 (by rw [aN];omega),aN,show (xs'.length+7)/8-1-((xs'.length+7)/8-1-i/8)=i/8 by omega];exact jJ _ _ _ abq
   have hg2:=qL hg;have e1:((i:Int) % 8).toNat=i % 8:=abq;have hset:=Sv (l:=bH 256 ((xs'.length+7)/8) (aU 2 (xs'.take i))) (j:=i/8) (v:=aU 2 (xs'.take i)/256^(i/8) % 256+d*2^(i % 8)) (by rw [aN];omega);rw [aN,s2] at hset;refine aj ?_;refine aC 16 [[(3,none)],[(3,none)],[(19,some 1)],[(20,some 2)],[(4,none)],[(22,some 4)],[(21,some 3),(23,some 5)],[(18,some 0),(24,some 6)],[(25,some 7)],[(0,none)],[(4,none)],[(27,some 9),(28,some 10)],[(29,some 11)],[(4,none)],[(31,some 13)],[(30,some 12),(32,some 14)]] [(15,33),(14,32),(13,31),(12,30),(11,29),(10,28),(9,27),(8,26),(7,25),(6,24),(5,23),(4,22),(3,21),(2,20),(1,19),(0,18)] hh mixed abt ?_;refine fO ?_;refine fO ?_;refine pY ?_;refine uS ?_;refine dp ?_;refine a8 (i:=5) (fun ρ1 w1 hj hR=>xe (show ρ1 22=Value.int _ _ from hR.1) rfl abq abq abq) ?_;refine uS ?_;refine CN ((xs'.length+7)/8-1-i/8) ?_;refine a8 (i:=8) (fun ρ1 w1 hj hR=>iF az.out (show ρ1 25=Value.pointer _ from hR.1) (hj.hp.ff (i:=0) rfl (by rw [abZ];exact hg2))) ?_;refine fO ?_;refine dp ?_;refine mU (i) ?_
   refine yY (fun _ hj=>(hr.ext hj.hp.below).vc hd2) ?_;refine dp ?_;refine a8 (i:=14) (fun ρ1 w1 hj hR=>qY (show ρ1 31=Value.int _ _ from hR.1) rfl abq abq) ?_;refine a8 (i:=15) (fun ρ1 w1 hj hR=>wi (show ρ1 30=Value.int _ _ from hR.1) (show ρ1 32=Value.int _ _ from hR.2.1) abq) ?_;refine av ?_;intro f W hJ hV;have hb_6:=hJ.bl;obtain ⟨v33,v32,v31,v30,v29,v28,v27,v26,v25,v24,v23,v22,v21,v20,v19,v18,_⟩:=hV;replace hh:=hJ.hp;refine ay (aQ (aa v33 (aa v32 (aa v31 (aa v30 (aa v29 (aa v28 (aa v27 (aa v26 (aa v25 (aa v24 (aa v23 (aa v22 (aa v21 (aa v20 (aa v19 (aa v18 aw))))))))))))))))) ?_;dsimp only [bA];clear hJ;refine fG rfl rfl abr ?_;refine dF (k:=(xs'.length+7)/8-1-i/8) bq.out az.size rfl rfl abq abq abr ?_;refine bM hh (i:=0) (vs:=[_]) rfl rfl (cH rfl) rfl az.out rfl (by rw [cO,abY,aN];omega) rfl ?_;intro ws hh;simp only [abK] at hh;rw [e1,aci (show d*2^(i % 8)<256 by omega),aci s1,abZ,cu (by rw [cO,abY,aN];omega),rP,hset,←gQ hdi] at hh;refine aj ?_
   refine ⟨⟨i+1,abq,rfl,hh⟩,by show xs'.length-(i+1)<xs'.length-i;omega, ?_⟩;exact dI
  ·obtain rfl:i=xs'.length:=abq;rw [aez,hcv,hbl] at hh;have hfin:ie (bH 256 ((bf M+7)/8) M).reverse=n5 (sb M):=by
    rw [←hlen];exact XA
   rw [hfin,←hbl] at hh;exact XM
theorem Sx {xs:List Nat} (h:Dg 2 xs) (i:Nat):aU 2 xs/2^i % 2=(xs[i]?).getD 0:=by
 cases hi:xs[i]? with
 |some d=>exact u2 h hi
 |none=>
  rw [sf h (afe.1 hi) abq];rfl
theorem jU (A:Option Addr) (n c i:Nat) (xs:List Nat) (w:World) (hx:Sl w A n 1 (ie xs)) (hd:Dg 2 xs) (hn:n≤1000000000000) (hi:i≤1000000000000):
  Calls Tryz.prog 217 #[.slice A n c,.int .i64 (i:Int)] w fun e w'=>e=.returned (.int .u8 ((aU 2 xs/2^i % 2:Nat):Int))∧Below w.heap.size w w':=by
 have hl:=hx.1;rw [cO] at hl;have hh:=Hp.start w;rw [Sx hd];by_cases hlt:i<n
 ·obtain ⟨d,hdi⟩:=ai (l:=xs) (k:=i) abq;obtain ⟨ad,rfl,hr⟩:=hx.at_ abq;have hd2:=qL hdi;rw [hdi];refine ae (N:=13) (l:=[.slice (some ad) n c,.int .i64 (i:Int)]) Tryz.func217 rfl rfl (by simp) ?_;refine aj ?_;refine o9 ?_;refine aj ?_;exact ⟨rfl,hh.below⟩
 ·rw [abT abq];refine ae (N:=13) (l:=[.slice A n c,.int .i64 (i:Int)]) Tryz.func217 rfl rfl (by simp) ?_;refine aj ?_;exact ⟨rfl,hh.below⟩
theorem nA (X i:Nat):X/2^i=2*(X/2^(i+1))+X/2^i % 2:=by
 rw [acr,←ac4];omega
theorem zj {X Y:Nat} (h:X/2^k<Y/2^k):X<Y:=by
 refine aeQ fun h2=> ?_;have:=Nat.div_le_div_right (c:=2^k) h2;omega
theorem oR (A B:Option Addr) (n c m c':Nat) (xs ys:List Nat) (w:World) (hx:Sl w A n 1 (ie xs)) (hy:Sl w B m 1 (ie ys)) (hdx:Dg 2 xs) (hdy:Dg 2 ys) (hn:n≤100000000000) (hm:m≤100000000000):
  Calls Tryz.prog 184 #[.slice A n c,.slice B m c'] w fun e w'=>e=.returned (.int .i64 (jA (aU 2 xs) (aU 2 ys)))∧Below w.heap.size w w':=by
 have hlx:=hx.1;have hly:=hy.1;rw [cO] at hlx hly;have hh:=Hp.start w;have e1:(if (m:Int)>(n:Int) then (m:Int) else (n:Int))-1=((max n m:Nat):Int)-1:=by split<;>omega
 refine ae (N:=30) (l:=[.slice A n c,.slice B m c']) Tryz.func184 rfl rfl (by simp) ?_;refine aj ?_;rw [e1];refine aH [4,5,12,13,14,15,16,17,18,19,20,21,22,23,24,25,26,27,28,29] 5
  (fun v w'=>∃k:Nat,k≤max n m∧v=.int .i64 ((k:Int)-1)∧aU 2 xs/2^k=aU 2 ys/2^k∧Hp w [] w')
  (fun v _=>(intOf v+1).toNat) ?_ ?_
 ·exact ⟨max n m,abD _,rfl,by rw [sf hdx abq abq,sf hdy abq abq],hh⟩
 ·clear hh;rintro ρ' v w' ⟨k,hk,rfl,heq,hh⟩;by_cases h0:k=0
  ·subst h0;refine aj ?_;rw [aej,adU,adU] at heq;exact ⟨by rw [JE heq],hh.below⟩
  ·obtain ⟨j,rfl⟩:∃j,k=j+1:=⟨k-1,abq⟩;have hj:((j+1:Nat):Int)-1=(j:Int):=abq;have hXb:=nA (aU 2 xs) j;have hYb:=nA (aU 2 ys) j;by_cases hlt:aU 2 xs/2^j % 2<aU 2 ys/2^j % 2
   ·have hf:aU 2 xs<aU 2 ys:=zj (k:=j) abq;rw [hj];refine aj ?_;refine EZ ?_;intro w18 hh;refine aj ?_;refine CU ?_;intro w21 hh;refine aj ?_;exact ⟨by rw [lN hf],hh.below⟩
   ·by_cases hgt:aU 2 ys/2^j % 2<aU 2 xs/2^j % 2
    ·have hf:aU 2 ys<aU 2 xs:=zj (k:=j) abq;rw [hj];refine aj ?_;refine EZ ?_;intro w18 hh;refine aj ?_;refine CU ?_;intro w21 hh;refine aj ?_;refine EZ ?_;intro w25 hh;refine aj ?_;refine CU ?_;intro w28 hh;refine aj ?_;exact ⟨by rw [sA hf],hh.below⟩
    ·rw [hj];refine aj ?_;refine EZ ?_;intro w18 hh;refine aj ?_;refine CU ?_;intro w21 hh;refine aj ?_;refine EZ ?_;intro w25 hh;refine aj ?_;refine CU ?_;intro w28 hh;refine aj ?_;refine ⟨⟨j,abq,rfl,abq,hh⟩,by show ((j:Int)-1+1).toNat<((j:Int)+1).toNat;omega, ?_⟩;exact dI
theorem R5 (S T i:Nat):(S+T)/2^i % 2=(S/2^i % 2+(S % 2^i+T % 2^i)/2^i+T/2^i % 2) % 2∧(S % 2^(i+1)+T % 2^(i+1))/2^(i+1)=(S/2^i % 2+(S % 2^i+T % 2^i)/2^i+T/2^i % 2)/2∧(S % 2^i+T % 2^i)/2^i≤1:=by
 have hS:=acO S (2^i);have hT:=acO T (2^i);have hp:0<2^i:=ab7 abq;have hS2:S % 2^(i+1)=S % 2^i+2^i*(S/2^i % 2):=by rw [acr,Nat.mod_mul]
 have hT2:T % 2^(i+1)=T % 2^i+2^i*(T/2^i % 2):=by rw [acr,Nat.mod_mul]
 have hSl:=ab4 S hp;have hTl:=ab4 T hp;have hc:=acO (S % 2^i+T % 2^i) (2^i);have hcl:=ab4 (S % 2^i+T % 2^i) hp;have hc1:(S % 2^i+T % 2^i)/2^i≤1:=by
  have:(S % 2^i+T % 2^i)/2^i<2:=by rw [acN hp];omega
  omega
 have e1:(S+T)/2^i=S/2^i+T/2^i+(S % 2^i+T % 2^i)/2^i:=by
  have:S+T=(S % 2^i+T % 2^i) % 2^i+2^i*(S/2^i+T/2^i+(S % 2^i+T % 2^i)/2^i):=by
   rw [acw,acw];omega
  conv=>lhs;rw [this]
  rw [ac2 _ _ hp,acz hcl,ab2]
 refine ⟨by rw [e1];omega, ?_,hc1⟩;rw [hS2,hT2];have e2:S % 2^i+2^i*(S/2^i % 2)+(T % 2^i+2^i*(T/2^i % 2))=(S % 2^i+T % 2^i) % 2^i+2^i*(S/2^i % 2+(S % 2^i+T % 2^i)/2^i+T/2^i % 2):=by
  rw [acw,acw];omega
 rw [e2,acr,←ac4,ac2 _ _ hp,acz hcl,ab2]
theorem Wg (Y up i:Nat):Y*2^up/2^i % 2=if up≤i then Y/2^(i-up) % 2 else 0:=by
 split
 ·rename_i h;have e:2^i=2^up*2^(i-up):=by rw [←ab5];congr 1;omega
  rw [e,←ac4,Nat.mul_div_cancel _ (ab7 abq)]
 ·rename_i h;have e:2^up=2^i*2*2^(up-i-1):=by rw [←acr,←ab5];congr 1;omega
  have e2:Y*2^up=2^i*(2*(Y*2^(up-i-1))):=by rw [e];simp only [acE,aec]
  rw [e2,Nat.mul_div_cancel_left _ (ab7 abq)];omega
theorem Tc {K i:Nat} (h:i<K):(bH 2 i N++List.replicate (K-i) 0).set i (N/2^i % 2)=bH 2 (i+1) N++List.replicate (K-(i+1)) 0:=by
 rw [show K-i=(K-(i+1))+1 by omega,ad5,adS _ _ (by rw [aN];omega),aN,acs,abK,mM];simp
theorem uw (A B:Option Addr) (n c m c' up:Nat) (xs ys:List Nat) (w:World) (hx:Sl w A n 1 (ie xs)) (hy:Sl w B m 1 (ie ys)) (hdx:Dg 2 xs) (hdy:Dg 2 ys) (hn:n≤100000000000) (hm:m≤100000000000) (hup:up≤100000000000):
  Calls Tryz.prog 186 #[.slice A n c,.slice B m c',.int .i64 (up:Int)] w fun e w'=>∃b,e=.returned (.slice (some ⟨b,0,none⟩) (max n (m+up)+1) (max n (m+up)+1))∧w'.ownsRow w.heap.size 5 1 (.slice (some ⟨b,0,none⟩) (max n (m+up)+1) (max n (m+up)+1)) (max n (m+up)+1) (ie (bH 2 (max n (m+up)+1) (aU 2 xs+aU 2 ys*2^up)))∧Below w.heap.size w w':=by
 have hlx:=hx.1;have hly:=hy.1;rw [cO] at hlx hly;have hh:=Hp.start w;have e1:(if ((m:Int)+(up:Int))>(n:Int) then ((m:Int)+(up:Int)) else (n:Int))+1=((max n (m+up)+1:Nat):Int):=by split<;>omega
 have hand:∀z:Nat,z &&& 1=z % 2:=fun z=>Nat.and_one_is_mod z;refine ae (N:=49) (l:=[.slice A n c,.slice B m c',.int .i64 (up:Int)]) Tryz.func186 rfl rfl (by simp) ?_;refine aj ?_;rw [e1];generalize hK:max n (m+up)+1=K at*;refine fy (n:=K) hh rfl rfl abq abq bq.out az.out rfl abq abq abr ?_;intro b19 w19 hh;refine aj ?_;rw [rV] at hh;refine bk [8,9,10,20,21,22,23,24,25,26,27,28,29,30,31,32,33,34,35,36,37,38,39,40,41,42,43,44,45,46,47] 8 9
  (fun cr v w'=>∃i:Nat,i≤K∧v=.int .i64 (i:Int)∧cr=.int .u8 (((aU 2 xs % 2^i+aU 2 ys*2^up % 2^i)/2^i:Nat):Int)∧Hp w [.row (some ⟨b19,0,none⟩) K K 5 1 (ie (bH 2 i (aU 2 xs+aU 2 ys*2^up)++List.replicate (K-i) 0))] w')
  (fun _ v _=>K-(intOf v).toNat) ?_ ?_
 ·exact ⟨0,abB _,rfl,by simp [Nat.mod_one];rfl,hh⟩
 ·clear hh;rintro ρ' cr v w' ⟨i,hi,rfl,rfl,hh⟩;by_cases hlt:i<K
  ·obtain ⟨b1,b2,b3⟩:=R5 (aU 2 xs) (aU 2 ys*2^up) i;have hbu:=Wg (aU 2 ys) up i;have hxb:aU 2 xs/2^i % 2<2:=ab4 _ abq;have hyb:aU 2 ys/2^(i-up) % 2<2:=ab4 _ abq;have hll:(ie (bH 2 i (aU 2 xs+aU 2 ys*2^up)++List.replicate (K-i) 0)).length=K:=by rw [cO,abJ,aN,acL];omega
   have hfk:=Tc (N:=aU 2 xs+aU 2 ys*2^up) hlt;generalize hC:(aU 2 xs % 2^i+aU 2 ys*2^up % 2^i)/2^i=C at*;generalize hX:aU 2 xs/2^i % 2=X at*;refine aj ?_;refine aZ hh (jU A n c i xs _ (hx.ext hh.below) hdx abq abq) rfl ?_;intro w28 hh;rw [hX];by_cases hiu:up≤i
   ·rw [abx hiu] at hbu;rw [hbu] at b1 b2;generalize hY:aU 2 ys/2^(i-up) % 2=Y at*;have es:((X+C) % 256+Y) % 256=X+C+Y:=abq;have ei:(i:Int)-(up:Int)=((i-up:Nat):Int):=abq;refine mI ?_;refine fG rfl rfl abr ?_;refine aj ?_;rw [ei];refine aZ hh (jU B m c' (i-up) ys _ (hy.ext hh.below) hdy abq abq) rfl ?_;intro w39 hh;rw [hY];exact Ta
   ·rw [abw hiu] at hbu;rw [hbu] at b1 b2;have es:(X+C) % 256=X+C+0:=abq;refine mI ?_;exact Ta
  ·obtain rfl:i=K:=abq;exact TM
theorem SM {X Y:Nat} (h:Y≤X) (i:Nat):((2+X/2^i % 2+256-Y/2^i % 2) % 256+256-(if X % 2^i<Y % 2^i then 1 else 0)) % 256 % 2=(X-Y)/2^i % 2∧
  (1+256-((2+X/2^i % 2+256-Y/2^i % 2) % 256+256-(if X % 2^i<Y % 2^i then 1 else 0)) % 256/2) % 256=(if X % 2^(i+1)<Y % 2^(i+1) then 1 else 0):=by
 have hX:=acO X (2^i);have hY:=acO Y (2^i);have hp:0<2^i:=ab7 abq;have hX2:X % 2^(i+1)=X % 2^i+2^i*(X/2^i % 2):=by rw [acr,Nat.mod_mul]
 have hY2:Y % 2^(i+1)=Y % 2^i+2^i*(Y/2^i % 2):=by rw [acr,Nat.mod_mul]
 have hXl:=ab4 X hp;have hYl:=ab4 Y hp;rw [hX2,hY2];generalize hx1:X/2^i=x1 at*;generalize hy1:Y/2^i=y1 at*;generalize hx0:X % 2^i=x0 at*;generalize hy0:Y % 2^i=y0 at*;have key:∀b:Nat,b=(if x0<y0 then 1 else 0)→(X-Y)/2^i=x1-y1-b∧y1+b≤x1:=by
  intro b hb;have hle:y1+b≤x1:=by
   refine aeS fun hlt=> ?_;have h1:2^i*(x1+1)≤2^i*(y1+b):=acd _ hlt;rw [acw,acw] at h1;split at hb
   ·subst hb;omega
   ·subst hb;omega
  refine ⟨?_,hle⟩;have e:X-Y=(x0+2^i*b-y0)+2^i*(x1-y1-b):=by
   have h2:2^i*(x1-y1-b)=2^i*x1-2^i*y1-2^i*b:=by rw [Nat.mul_sub,Nat.mul_sub]
   have h3:2^i*(y1+b)≤2^i*x1:=acd _ hle;rw [acw] at h3;split at hb
   ·subst hb;omega
   ·subst hb;omega
  rw [e,ac2 _ _ hp,acz,ab2];split at hb
  ·subst hb;omega
  ·subst hb;omega
 obtain ⟨k1,k2⟩:=key _ rfl;rw [k1];have hlt:(x0+2^i*(x1 % 2)<y0+2^i*(y1 % 2))↔(x1 % 2<y1 % 2∨x1 % 2=y1 % 2∧x0<y0):=by
  rcases Nat.mod_two_eq_zero_or_one x1 with h1|h1<;>rcases Nat.mod_two_eq_zero_or_one y1 with h2|h2<;>rw [h1,h2]<;>omega
 by_cases hb:x0<y0
 ·rw [abx hb] at k2 ⊢;exact XI
 ·rw [abw hb] at k2 ⊢;exact XI
theorem rW (A B:Option Addr) (n c m c':Nat) (xs ys:List Nat) (w:World) (hx:Sl w A n 1 (ie xs)) (hy:Sl w B m 1 (ie ys)) (hdx:Dg 2 xs) (hdy:Dg 2 ys) (hn:n≤100000000000) (hm:m≤100000000000) (hle:aU 2 ys≤aU 2 xs):
  Calls Tryz.prog 185 #[.slice A n c,.slice B m c'] w fun e w'=>∃b,e=.returned (.slice (some ⟨b,0,none⟩) n n)∧w'.ownsRow w.heap.size 5 1 (.slice (some ⟨b,0,none⟩) n n) n (ie (bH 2 n (aU 2 xs-aU 2 ys)))∧Below w.heap.size w w':=by
 have hlx:=hx.1;have hly:=hy.1;rw [cO] at hlx hly;have hh:=Hp.start w;have hand:∀z:Nat,z &&& 1=z % 2:=fun z=>Nat.and_one_is_mod z;refine ae (N:=37) (l:=[.slice A n c,.slice B m c']) Tryz.func185 rfl rfl (by simp) ?_;refine aj ?_;refine zk ?_;intro b11 w11 hh;refine aj ?_;rw [rV] at hh;refine bk [6,7,8,12,13,14,15,16,17,18,19,20,21,22,23,24,25,26,27,28,29,30,31,32,33,34,35] 6 7
  (fun cr v w'=>∃i:Nat,i≤n∧v=.int .i64 (i:Int)∧cr=.int .u8 ((if aU 2 xs % 2^i<aU 2 ys % 2^i then 1 else 0:Nat):Int)∧Hp w [.row (some ⟨b11,0,none⟩) n n 5 1 (ie (bH 2 i (aU 2 xs-aU 2 ys)++List.replicate (n-i) 0))] w')
  (fun _ v _=>n-(intOf v).toNat) ?_ ?_
 ·exact ⟨0,abB _,rfl,by simp [Nat.mod_one];rfl,hh⟩
 ·clear hh;rintro ρ' cr v w' ⟨i,hi,rfl,rfl,hh⟩;by_cases hlt:i<n
  ·obtain ⟨b1,b2⟩:=SM hle i;have hxb:aU 2 xs/2^i % 2<2:=ab4 _ abq;have hyb:aU 2 ys/2^i % 2<2:=ab4 _ abq;have hcb:(if aU 2 xs % 2^i<aU 2 ys % 2^i then 1 else 0:Nat)≤1:=by split<;>omega
   have hll:(ie (bH 2 i (aU 2 xs-aU 2 ys)++List.replicate (n-i) 0)).length=n:=by rw [cO,abJ,aN,acL];omega
   have hfk:=Tc (N:=aU 2 xs-aU 2 ys) hlt;refine aj ?_;refine aZ hh (jU A n c i xs _ (hx.ext hh.below) hdx abq abq) rfl ?_;intro w20 hh;refine fG (a:=2) rfl rfl abr ?_;refine aj ?_;refine aZ hh (jU B m c' i ys _ (hy.ext hh.below) hdy abq abq) rfl ?_;intro w24 hh;generalize hC:(if aU 2 xs % 2^i<aU 2 ys % 2^i then 1 else 0:Nat)=C at*;generalize hX:aU 2 xs/2^i % 2=X at*;generalize hY:aU 2 ys/2^i % 2=Y at*;have es:((2+X) % 256+256-Y) % 256=(2+X+256-Y) % 256:=abq;have hS:((2+X+256-Y) % 256+256-C) % 256<256:=ab4 _ abq;refine zQ ?_;refine mI ?_;rw [es];refine zQ ?_;refine aj ?_;refine Pe ?_;refine aj ?_;refine NG ?_;intro ws hh;simp only [abK] at hh;rw [hand,b1,abZ,cu (by rw [hll];omega),rP,hfk] at hh;refine aj ?_;refine mY (s:=1) (m:=2) rfl rfl abr abr abr ?_;refine tG (a:=1) rfl rfl abq abr ?_;refine aj ?_;refine ⟨⟨i+1,abq,rfl,by rw [←b2];rfl,hh⟩,by show n-(i+1)<n-i;omega, ?_⟩;exact dI
  ·obtain rfl:i=n:=abq;exact TM
theorem Aw (n:Nat) (w:World) (hn:n<18446744073709551616):
  Calls Tryz.prog 146 #[.int .u64 (n:Int)] w fun e w'=>e=.returned (.string (sN n))∧Below w.heap.size w w':=by
 have hh:=Hp.start w;refine ae (N:=16) (l:=[.int .u64 (n:Int)]) Tryz.func146 rfl rfl (by simp) ?_;refine aj ?_;replace hh:=hh.cJ 5 1;refine bk [0,3,4,5,6,7,8,9,10,11,12,13] 0 3
  (fun v o w'=>∃(k m:Nat) (A:Option Addr) (c:Nat),v=.int .u64 (m:Int)∧m<18446744073709551616∧k≤64∧m<2^(64-k)∧o=.slice A k c∧m=n/2^k∧Hp w [.row A k c 5 1 (ie (bH 2 k n))] w')
  (fun v _ _=>(intOf v).toNat) ?_ ?_
 ·exact ⟨0,n,none,0,rfl,hn,abq,by simpa using hn,rfl,by simp,hh⟩
 ·clear hh;rintro ρ' v o w' ⟨k,m,A,c,rfl,hm,hk,hmk,rfl,hmn,hh⟩;by_cases h0:m=0
  ·subst h0;refine aj ?_;refine aZ hh (ij _ _ _ (bH 2 k n) _ (hh.ao (i:=0) rfl) (gu abq _ _) (hh.fh (i:=0) rfl) abq) rfl ?_;intro w15 hh;have hlt:n<2^k:=by
    have:=acO n (2^k);have h2:=ab4 n (ab7 (n:=k) (show 0<2 by omega));rw [←hmn] at this;omega
   rw [cG hlt];refine aj ?_;exact ⟨rfl,hh.below⟩
  ·have hk64:k<64:=by
    refine aeQ fun h=> ?_;rw [show 64-k=0 by omega] at hmk;omega
   have hm2:m % 2<256:=abq;refine aj ?_;refine Fx (b:=2) rfl rfl abq abr ?_;refine mv ?_;refine vA ?_;intro b12 w12 hh;refine qm ?_;intro A13 c13 w13 hh;simp only [abK,ab9] at hh;replace hh:=hh.sub (acn _ _);refine aj ?_;refine FQ (b:=2) rfl rfl abq (by first|assumption|omega) abr ?_;refine aj ?_;have e1:ie (bH 2 k n)++[Value.int .u8 ((m % 2:Nat):Int)]=ie (bH 2 (k+1) n):=by
    rw [hmn,mM,vW];rfl
   rw [e1] at hh;refine ⟨⟨k+1,m/2,A13,c13,rfl,abq,abq, ?_,rfl, ?_,hh⟩,by show (((m/2:Nat):Int)).toNat<((m:Int)).toNat;omega, ?_⟩
   ·rw [show 64-k=(64-(k+1))+1 by omega,acr] at hmk;omega
   ·rw [hmn,ac4,acr]
   ·exact dI
theorem jP (a:ByteArray):(aK 2 (bN a)).length≤8*a.size:=g6 a
theorem lU (n:Nat):Dg 2 (aK 2 n):=(ea abq n).1
theorem jl (n:Nat):aU 2 (aK 2 n)=n:=eM abq n
theorem vV (a b:ByteArray) (w:World) (ha:a.size≤1000000000) (hb:b.size≤1000000000):
  Calls Tryz.prog 187 #[.string a,.string b] w fun e w'=>e=.returned (.int .i64 (jA (bN a) (bN b)))∧Below w.heap.size w w':=by
 have hh:=Hp.start w;have h1:=jP a;have h2:=jP b;refine ae (N:=10) (l:=[.string a,.string b]) Tryz.func187 rfl rfl (by simp) ?_;refine aj ?_;refine EI ?_;rintro e_ w6 ⟨A6,c6,rfl,hown_,hb_⟩;refine ⟨_,rfl, ?_⟩;replace hh:=hh.aD (x:=.row _ _ _ _ _ _) hb_ hown_;refine mS ?_;refine au (fS b _ hb) ak.out rfl abr ?_;rintro e_ w8 ⟨A8,c8,rfl,hown_,hb_⟩;refine ⟨_,rfl, ?_⟩;replace hh:=hh.aD (x:=.row _ _ _ _ _ _) hb_ hown_;refine aZ hh (oR _ _ _ _ _ _ (aK 2 (bN a)) (aK 2 (bN b)) _ (hh.ao (i:=1) rfl) (hh.ao (i:=0) rfl) (lU _) (lU _) abq abq) rfl ?_;intro w9 hh;rw [jl,jl];refine aj ?_;exact ⟨rfl,hh.below⟩
theorem qw (a:ByteArray) (w:World) (ha:a.size≤1000000000):
  Calls Tryz.prog 143 #[.string a] w fun e w'=>e=.returned (.int .i64 (bf (bN a)))∧Below w.heap.size w w':=by
 have hh:=Hp.start w;refine ae (N:=6) (l:=[.string a]) Tryz.func143 rfl rfl (by simp) ?_;refine aj ?_;refine EI ?_;rintro e_ w4 ⟨A4,c4,rfl,hown_,hb_⟩;refine ⟨_,rfl, ?_⟩;replace hh:=hh.aD (x:=.row _ _ _ _ _ _) hb_ hown_;refine aj ?_;exact ⟨rfl,hh.below⟩
theorem qK (a b:ByteArray) (w:World) (ha:a.size≤1000000000) (hb:b.size≤1000000000):
  Calls Tryz.prog 145 #[.string a,.string b] w fun e w'=>e=.returned (.tuple #[.string (sN (bN a-bN b)),.bool (decide (bN b≤bN a))])∧Below w.heap.size w w':=by
 have hh:=Hp.start w;have h1:=jP a;have h2:=jP b;by_cases hlt:bN a<bN b
 ·refine ae (N:=16) (l:=[.string a,.string b]) Tryz.func145 rfl rfl (by simp) ?_;refine aj ?_;refine aZ hh (vV a b _ ha hb) rfl ?_;intro w8 hh;rw [lN hlt];exact Ux
 ·have hc:¬jA (bN a) (bN b)<0:=by unfold jA;split<;>(try split)<;>omega
  have hbl:bN a-bN b<2^(aK 2 (bN a)).length:=acB (Nat.sub_le _ _) (cw (bN a));refine ae (N:=16) (l:=[.string a,.string b]) Tryz.func145 rfl rfl (by simp) ?_;refine aj ?_;refine aZ hh (vV a b _ ha hb) rfl ?_;intro w8 hh;refine aj ?_;refine EI ?_;rintro e_ w11 ⟨A11,c11,rfl,hown_,hb_⟩;refine ⟨_,rfl, ?_⟩;replace hh:=hh.aD (x:=.row _ _ _ _ _ _) hb_ hown_;refine mS ?_;refine au (fS b _ hb) ak.out rfl abr ?_;rintro e_ w13 ⟨A13,c13,rfl,hown_,hb_⟩;refine ⟨_,rfl, ?_⟩;replace hh:=hh.aD (x:=.row _ _ _ _ _ _) hb_ hown_;refine au (rW _ _ _ _ _ _ (aK 2 (bN a)) (aK 2 (bN b)) _ (hh.ao (i:=1) rfl) (hh.ao (i:=0) rfl) (lU _) (lU _) abq abq (by rw [jl,jl];omega)) ak.out rfl abr ?_;rintro e_ w_ ⟨b14,rfl,hown_,hb_⟩;refine ⟨_,rfl, ?_⟩;replace hh:=hh.aD (x:=.row _ _ _ _ _ _) hb_ hown_;rw [jl,jl] at hh;refine aZ hh (ij _ _ _ (bH 2 (aK 2 (bN a)).length (bN a-bN b)) _ (hh.ao (i:=0) rfl) (gu abq _ _) (abD _) abq) rfl ?_;intro w15 hh;rw [cG hbl];refine aj ?_;rw [abQ abq];exact ⟨rfl,hh.below⟩
theorem Gp (a:ByteArray) (m:Nat) (w:World) (ha:a.size≤1000000000) (hm:m≤10000000000):
  Calls Tryz.prog 141 #[.string a,.int .i64 (m:Int)] w fun e w'=>e=.returned (.string (sN (bN a*2^m)))∧Below w.heap.size w w':=by
 have hh:=Hp.start w;have h1:=jP a;have e1:(if (0:Int)>(m:Int) then 0 else (m:Int))=m:=abw abq;have hbd:bN a*2^m<2^(max 0 ((aK 2 (bN a)).length+m)+1):=by
  refine acu (cw _) (ach abq ?_);have:=iB (bN a) m;show bf _≤max 0 (bf _+m)+1;omega
 refine ae (N:=11) (l:=[.string a,.int .i64 (m:Int)]) Tryz.func141 rfl rfl (by simp) ?_;refine aj ?_;refine EI ?_;rintro e_ w6 ⟨A6,c6,rfl,hown_,hb_⟩;refine ⟨_,rfl, ?_⟩;replace hh:=hh.aD (x:=.row _ _ _ _ _ _) hb_ hown_;refine aj ?_;rw [e1];refine au (uw none _ 0 0 _ _ m [] (aK 2 (bN a)) _ (Sl.nil _ _ _) (hh.ao (i:=0) rfl) Dg.nil (lU _) abq abq abq) ak.out rfl abr ?_;rintro e_ w_ ⟨b9,rfl,hown_,hb_⟩;refine ⟨_,rfl, ?_⟩;replace hh:=hh.aD (x:=.row _ _ _ _ _ _) hb_ hown_;rw [jl,aU,ab2] at hh;refine aZ hh (ij _ _ _ (bH 2 (max 0 ((aK 2 (bN a)).length+m)+1) (bN a*2^m)) _ (hh.ao (i:=0) rfl) (gu abq _ _) (abD _) abq) rfl ?_;intro w10 hh;rw [cG hbd];refine aj ?_;exact ⟨rfl,hh.below⟩
theorem GK (L:Option Addr) (n c:Nat) (ss:List ByteArray) (w:World) (hS:Sl w L n 1 (Ew ss)) (hn:n≤1000000) (hs:∀s∈ss,s.size≤1000000000):
  Calls Tryz.prog 144 #[.slice L n c] w fun e w'=>e=.returned (.string (sN (ss.map bN).sum))∧Below w.heap.size w w':=by
 have hsl:ss.length=n:=by have:=hS.1;rw [uk] at this;omega
 have hh:=Hp.start w;refine ae (N:=20) (l:=[.slice L n c]) Tryz.func144 rfl rfl (by simp) ?_;refine aj ?_;replace hh:=hh.cJ 5 1;refine bk [3,4,5,6,7,8,9,10,11,12,13,14,15,16,17] 3 4
  (fun v j w'=>∃(i:Nat) (A:Option Addr) (c' T K:Nat),i≤n∧j=.int .i64 i∧T=((ss.take i).map bN).sum∧v=.slice A K c'∧K≤8000000000+i∧T<2^K∧Hp w [.row A K c' 5 1 (ie (bH 2 K T))] w')
  (fun _ j _=>n-(intOf j).toNat) ?_ ?_
 ·exact ⟨0,none,0,0,0,abB _,rfl,rfl,rfl,abq,by simp,hh⟩
 ·clear hh;rintro ρ' v j w' ⟨i,A,c',T,K,hi,rfl,hT,rfl,hTl,hTb,hh⟩;by_cases hlt:i<n
  ·obtain ⟨s,hsi⟩:=ai (l:=ss) (k:=i) abq;obtain ⟨ad,rfl,hr⟩:=hS.at_ abq;have hs2:=IQ hsi;have hsz:=hs s (abz hsi);have hlx:=jP s;have hT2:((ss.take (i+1)).map bN).sum=T+bN s:=by rw [al hsi,acM,aek,tw,hT]
   have hbs:bN s<2^(aK 2 (bN s)).length:=cw _;have hb2:T+bN s<2^(max K ((aK 2 (bN s)).length+0)+1):=by
    have h1:2^K≤2^max K ((aK 2 (bN s)).length+0):=ach abq abq;have h2:2^(aK 2 (bN s)).length≤2^max K ((aK 2 (bN s)).length+0):=ach abq abq;rw [acr];omega
   refine aj ?_;refine o9 ?_;refine au (fS s _ hsz) ak.out rfl abr ?_;rintro e_ w16 ⟨A16,c16,rfl,hown_,hb_⟩;refine ⟨_,rfl, ?_⟩;replace hh:=hh.aD (x:=.row _ _ _ _ _ _) hb_ hown_;refine au (uw _ _ _ _ _ _ 0 (bH 2 K T) (aK 2 (bN s)) _ (hh.ao (i:=1) rfl) (hh.ao (i:=0) rfl) (gu abq _ _) (lU _) abq abq abq) ak.out rfl abr ?_;rintro e_ w_ ⟨b17,rfl,hown_,hb_⟩;refine ⟨_,rfl, ?_⟩;rw [jl,cG hTb,aej,abZ] at hown_;replace hh:=(hh.aD (x:=.row _ _ _ _ _ _) hb_ hown_).sub (List.sublist_append_left [_] _);refine aj ?_;refine ⟨⟨i+1,_,_,T+bN s,_,abq,rfl,hT2.symm,rfl,abq,hb2,hh⟩,by show n-(i+1)<n-i;omega, ?_⟩;exact dI
  ·refine aj ?_;refine aZ hh (ij _ _ _ (bH 2 K T) _ (hh.ao (i:=0) rfl) (gu abq _ _) (hh.fh (i:=0) rfl) abq) rfl ?_;intro w19 hh;rw [cG hTb];refine aj ?_;rw [abG abq] at hT;rw [hT];exact ⟨rfl,hh.below⟩
theorem Np (X Y k:Nat) (hY:0<Y):X/2^k % Y=(if Y≤X/2^k % 2+2*(X/2^(k+1) % Y) then X/2^k % 2+2*(X/2^(k+1) % Y)-Y else X/2^k % 2+2*(X/2^(k+1) % Y))∧
  X/2^k/Y % 2=(if Y≤X/2^k % 2+2*(X/2^(k+1) % Y) then 1 else 0)∧X/2^k/Y/2=X/2^(k+1)/Y:=by
 have h1:=nA X k;have hb:X/2^k % 2<2:=ab4 _ abq;generalize X/2^k % 2=b at*;generalize X/2^k=Z at*;generalize X/2^(k+1)=V at*;have h2:=acO V Y;have h3:=ab4 V hY;generalize V/Y=q at*;generalize V % Y=r at*;have e:Z=(b+2*r)+Y*(2*q):=by rw [h1,←h2,acw,aec];omega
 rw [e,adF,ac2 _ _ hY];by_cases hc:Y≤b+2*r
 ·rw [abx hc,abx hc];have e2:b+2*r=(b+2*r-Y)+Y*1:=abq;have h4:b+2*r-Y<Y:=abq;have h5:(b+2*r)/Y=1:=by rw [e2,ac2 _ _ hY,acz h4]
  have h6:(b+2*r) % Y=b+2*r-Y:=by conv=>lhs;rw [e2,adF,aci h4]
  rw [h5,h6];omega
 ·rw [abw hc,abw hc,aci abq,acz abq];omega
theorem qH (a b:ByteArray) (w:World) (ha:a.size≤1000000000) (hb:b.size≤1000000000) (hb0:bN b≠0):
  Calls Tryz.prog 140 #[.string a,.string b] w fun e w'=>e=.returned (.tuple #[.string (sN (bN a/bN b)),.string (sN (bN a % bN b)),.bool true])∧Below w.heap.size w w':=by
 have hh:=Hp.start w;have h1:=jP a;have h2:=jP b;have hX:=jl (bN a);have hXd:=lU (bN a);have hXl:bN a<2^(aK 2 (bN a)).length:=cw _;have hYp:0<(aK 2 (bN b)).length:=oS hb0;have hget:∀k,k<(aK 2 (bN a)).length→(aK 2 (bN a))[k]?=some (bN a/2^k % 2):=fun k hk=>we abq hk;refine ae (N:=52) (l:=[.string a,.string b]) Tryz.func140 rfl rfl (by simp) ?_;refine aj ?_;refine EI ?_;rintro e_ w13 ⟨A13,c13,rfl,hown_,hb_⟩;refine ⟨_,rfl, ?_⟩;replace hh:=hh.aD (x:=.row _ _ _ _ _ _) hb_ hown_;refine mS ?_;refine au (fS b _ hb) ak.out rfl abr ?_;rintro e_ w15 ⟨A15,c15,rfl,hown_,hb_⟩;refine ⟨_,rfl, ?_⟩;replace hh:=hh.aD (x:=.row _ _ _ _ _ _) hb_ hown_;refine aj ?_;refine fy hh rfl rfl rfl rfl bq.out az.out rfl abq abq abr ?_;intro b21 w21 hh;refine aj ?_;rw [rV] at hh;generalize hxs:aK 2 (bN a)=xs at*;replace hh:=hh.cJ 5 1;refine bk [10,11,25,26,27,28,29,30,31,32,33,34,35,36,37,38,39,40,41,42,43,44,45,46,47] 10 11
  (fun v j w'=>∃(k:Nat) (A:Option Addr) (c':Nat),k≤xs.length∧j=.int .i64 ((k:Int)-1)∧v=.slice A (aK 2 (bN a/2^k % bN b)).length c'∧Hp w [.row A (aK 2 (bN a/2^k % bN b)).length c' 5 1 (ie (aK 2 (bN a/2^k % bN b))),.row (some ⟨b21,0,none⟩) xs.length xs.length 5 1 (ie (List.replicate k 0++bH 2 (xs.length-k) (bN a/2^k/bN b))),.row A15 (aK 2 (bN b)).length c15 5 1 (ie (aK 2 (bN b))),.row A13 xs.length c13 5 1 (ie xs)] w')
  (fun _ j _=>(intOf j+1).toNat) ?_ ?_
 ·refine ⟨xs.length,none,0,abD _,rfl, ?_, ?_⟩
  ·rw [acz hXl,Nat.zero_mod,iz abq];rfl
  ·rw [acz hXl,Nat.zero_mod,iz abq,acs];simp only [bH,acg];exact hh
 ·clear hh;rintro ρ' v j w' ⟨k,A,c',hk,rfl,rfl,hh⟩;by_cases h0:k=0
  ·subst h0;rw [aej,adU,Nat.sub_zero,ae2,abC] at hh;rw [aej,adU];have hq:bN a/bN b<2^xs.length:=acB (adM _ _) hXl;have hrl:(aK 2 (bN a % bN b)).length≤(aK 2 (bN b)).length:=kd abq (Nat.le_of_lt (ab4 _ abq));refine aj ?_;refine aZ hh (ij _ _ _ (bH 2 xs.length (bN a/bN b)) _ (hh.ao (i:=1) rfl) (gu abq _ _) (abD _) abq) rfl ?_;intro w49 hh;rw [cG hq];refine mL ?_;refine aZ hh (ij _ _ _ (aK 2 (bN a % bN b)) _ (hh.ao (i:=0) rfl) (lU _) (hh.fh (i:=0) rfl) abq) rfl ?_;intro w51 hh;rw [jl];refine aj ?_;exact ⟨rfl,hh.below⟩
  ·obtain ⟨i,rfl⟩:∃i,k=i+1:=⟨k-1,abq⟩;have hji:((i+1:Nat):Int)-1=(i:Int):=abq;obtain ⟨d1,d2,d3⟩:=Np (bN a) (bN b) i abq;have hgi:=qL (hget i abq);have hdw:bN a/2^i % 2<2:=ab4 _ abq;have hrl:(aK 2 (bN a/2^(i+1) % bN b)).length≤(aK 2 (bN b)).length:=kd abq (Nat.le_of_lt (ab4 _ abq));have hqk:bH 2 (xs.length-i) (bN a/2^i/bN b)=(bN a/2^i/bN b % 2)::bH 2 (xs.length-(i+1)) (bN a/2^(i+1)/bN b):=by
    rw [show xs.length-i=(xs.length-(i+1))+1 by omega,bH,d3]
   rw [hji];obtain ⟨g,rfl⟩:=hh.bP (i:=3) rfl abq;refine aj ?_;refine bG az.out rfl (hh.ff (i:=3) rfl (by first|assumption|(simp only [abZ];assumption))) abr ?_;refine vA ?_;intro b33 w33 hh;refine mL ?_;refine bQ hh (i:=0) rfl rfl rfl (hh.ao (i:=1) rfl) bq.out az.out rfl abr (by first|rfl|exact cS _|exact cn _|exact bg _|exact bj NR.one _) abq abq abr ?_;intro A35 c35 w35 hh;simp only [abK] at hh;have e35:[Value.int .u8 ((bN a/2^i % 2:Nat):Int)]++ie (aK 2 (bN a/2^(i+1) % bN b))=ie ((bN a/2^i % 2)::aK 2 (bN a/2^(i+1) % bN b)):=rfl;rw [e35] at hh;generalize hR:bN a/2^(i+1) % bN b=R at*;generalize hbt:bN a/2^i % 2=bt at*;have hdg:Dg 2 (bt::aK 2 R):=Dg.cons hdw (lU _);have hcv:dR (bt::aK 2 R)=aK 2 (bt+2*R):=by rw [jn abq hdg,aU,jl]
   have hll:(bt::aK 2 R).length=1+(aK 2 R).length:=by rw [ab0];omega
   have hcl:=eJ (bt::aK 2 R);refine aZ hh (m6 _ _ _ (bt::aK 2 R) _ (hh.ao (i:=0) rfl) (hh.fh (i:=0) rfl) abq) rfl ?_;intro w36 hh;replace hh:=hh.VQ hll;rw [hcv] at hh hcl;rw [hcv];refine aj ?_;refine aZ hh (oR _ _ _ _ _ _ (aK 2 (bt+2*R)) (aK 2 (bN b)) _ (hh.ao (i:=0) rfl) (hh.ao (i:=3) rfl) (lU _) (lU _) abq abq) rfl ?_;intro w39 hh;rw [jl,jl];by_cases hge:bN b≤bt+2*R
   ·have hc:0≤jA (bt+2*R) (bN b):=by unfold jA;rw [abw abq];split<;>omega
    rw [abx hge] at d1 d2;have hml:bt+2*R-bN b<2^(aK 2 (bt+2*R)).length:=acB (Nat.sub_le _ _) (cw _);have hcm:dR (bH 2 (aK 2 (bt+2*R)).length (bt+2*R-bN b))=aK 2 (bt+2*R-bN b):=by rw [jn abq (gu abq _ _),cG hml]
    refine aj ?_;refine au (rW _ _ _ _ _ _ (aK 2 (bt+2*R)) (aK 2 (bN b)) _ (hh.ao (i:=0) rfl) (hh.ao (i:=3) rfl) (lU _) (lU _) abq abq (by rw [jl,jl];exact hge)) ak.out rfl abr ?_;rintro e_ w_ ⟨b43,rfl,hown_,hb_⟩;refine ⟨_,rfl, ?_⟩;replace hh:=hh.aD (x:=.row _ _ _ _ _ _) hb_ hown_;rw [jl,jl] at hh;refine aZ hh (m6 _ _ _ (bH 2 (aK 2 (bt+2*R)).length (bt+2*R-bN b)) _ (hh.ao (i:=0) rfl) (abD _) abq) rfl ?_;intro w44 hh;replace hh:=hh.VQ (aN _ _);rw [hcm] at hh;rw [hcm];have hql:(ie (List.replicate (i+1) 0++bH 2 (xs.length-(i+1)) (bN a/2^(i+1)/bN b))).length=xs.length:=by rw [cO,abJ,acL,aN];omega
    refine aj ?_;refine bM hh (i:=3) (vs:=[_]) rfl rfl (cH rfl) rfl az.out rfl (by rw [hql];omega) rfl ?_;intro ws hh;simp only [abK,ab9] at hh;rw [abZ,cu (by rw [hql];omega)] at hh;have hset:(ie (List.replicate (i+1) 0++bH 2 (xs.length-(i+1)) (bN a/2^(i+1)/bN b))).set i (.int .u8 1)=ie (List.replicate i 0++bH 2 (xs.length-i) (bN a/2^i/bN b)):=by
     have:=rP (List.replicate (i+1) 0++bH 2 (xs.length-(i+1)) (bN a/2^(i+1)/bN b)) i 1;rw [hqk,d2,←JN];exact this
    rw [hset] at hh;replace hh:=hh.sub (.cons_cons _ (.cons _ (.cons _ (aco _))));refine aj ?_;exact Tr
   ·have hc:¬0≤jA (bt+2*R) (bN b):=by rw [lN abq];omega
    rw [abw hge] at d1 d2;refine aj ?_;have hrep:List.replicate (i+1) 0++bH 2 (xs.length-(i+1)) (bN a/2^(i+1)/bN b)=List.replicate i 0++bH 2 (xs.length-i) (bN a/2^i/bN b):=by
     rw [hqk,d2,List.replicate_succ',acb];rfl
    rw [hrep] at hh;replace hh:=hh.sub (.cons_cons _ (.cons _ (aco _)));exact Tr
end Go.Proofs.YtmchncaiffbpaaaGreatDoor
