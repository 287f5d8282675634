/- Lemmas for bernBack, part 5. -/
import Derived.Test.YteeckcbbnegmcaaGreatDoorZ4
namespace Go.Proofs.YteeckcbbnegmcaaGreatDoor
variable {ds : List Nat} {j k m n : Nat}
open Go.RowKit
theorem Hv : ∀ (ds row : List Nat), (∀ d ∈ ds, d ≤ 127) → QG ds row ≤ 2 ^ (127 * ds.length)
 | [], _, _ => by show 1 ≤ 1; exact T5 _
 | d :: ds, [], _ => by show 1 ≤ _; exact UE TY
 | d :: ds, r :: rs, h => by
  have h1 : bin d r ≤ 2 ^ 127 := Ur (xX d r) (UL TY (h d Uc));have h2 := Hv ds rs fun x hx => h x (Uf _ hx);rw [QG, Uq, VM, VU, Uu];exact Vs h1 h2
theorem PT (h : n ≤ 2 ^ m) (hk : m < k) : Sz k (nD n) := N3 (U8 h (Nat.pow_lt_pow_right TY hk))
theorem Qt {x : Nat} (h : x ∈ CH ds) (h1 : ds.length ≤ 12) (h2 : ∀ d ∈ ds, d ≤ 127) : Sz 1600 (nD x) := by
 obtain ⟨p, _, rfl⟩ := Ui.1 h;have h3 := Hv ds.reverse (cL ds.reverse p) fun d hd => h2 d (We.1 hd);exact PT h3 (by rw [UJ]; omega)
def LC (ds : List Nat) (d j : Nat) : List Nat := ((CH ds).take j).flatMap fun x => (rT d).map (x * ·)
theorem J8 {d x : Nat} (h : (CH ds)[j]? = some x) : LC ds d (j + 1) = LC ds d j ++ (rT d).map (x * ·) := by
 unfold LC;rw [ay h, Xk, List.flatMap_singleton]
theorem tO (A : Option Addr) (n c : Nat) (ns : List Nat) (w : World) (hT : eh w) (hS : Sl w A n 1 (bJ (bL ns))) (h12 : ns.length ≤ 12) (hlow : ∀ d ∈ ns, d ≤ 127) (hmax : av ns ≤ 4096) :
  Calls Tryz.prog 46 #[.slice A n c] w fun r w' => ∃ B c', r = .returned (.slice B (av ns) c') ∧ w'.ownsRow w.heap.size 65 3 (.slice B (av ns) c') (av ns) (az NR.cells (Kw ns)) ∧ Below w.heap.size w w' := by
 have hh := Hp.start w;have hln : ns.length = n := by have := hS.1; simpa [bJ, bL] using this
 have hc := jT ns 1 TY TY hlow;rw [VX, T2 hmax] at hc;have hc1 : gM ((1 : Nat) : Int) (bL ns) = gM 1 (bL ns) := rfl;rw [hc1] at hc;have hpos := cS ns;have hcnt := fun w1 hS1 => eF A n c (bL ns) w1 hS1 TX;rw [hc] at hcnt;refine aj (N := 52) (l := [.slice A n c]) Tryz.func46 rfl rfl (by simp) ?_;refine sr (aL (aa (ah (sr (mL (aJ ?_))))));refine cm (mB (gT (mL ?_)));refine aH rfl rfl ?_;refine bD hh (hcnt _ (hS.ext hh.below)) rfl ?_;intro w16 hh;refine gT ?_;refine db ?_;refine e7 ?_;refine uJ ?_;refine Ai ?_;intro w19 hh;refine rC ?_;intro b20 w20 hh;refine rb ?_;refine bK [3, 5, 6, 8, 10, 23, 24, 25, 26, 27, 28, 29, 30, 31, 32, 33, 34, 35, 36, 37, 38, 39, 40, 41, 42, 43, 44, 45, 46, 47, 48, 49, 50] 3 23
  (fun v3 v w' => ∃ (i c3 : Nat) (B : Option Addr), i ≤ n ∧ v = .int .i64 i ∧ v3 = .slice B (av (ns.take i)) c3 ∧ Hp w [.row B (av (ns.take i)) c3 65 3 (az NR.cells (Kw (ns.take i)))] w')
  (fun _ v _ => n - (intOf v).toNat) ?_ ?_
 ·exact ⟨0, _, _, T6 _, rfl, rfl, hh⟩
 ·clear hh;rintro ρ' v3 v w' ⟨i, c3, B, hi, rfl, rfl, hh⟩;by_cases hlt : i < n
  ·obtain ⟨d, hd⟩ := ak (l := ns) (k := i) TX;have hgi := cj (ix hd);have hd127 := hlow d (T7 hd);have htl : (ns.take i).length ≤ 12 := by rw [Us]; omega
   have htw : ∀ d ∈ ns.take i, d ≤ 127 := fun d hd => hlow d (Wa hd);have hct := jg ns (i + 1);have hct2 := jg ns i;have hstep : av (ns.take (i + 1)) = av (ns.take i) * (d + 1) := by rw [ay hd, dT]; simp [av]
   have hsnoc : Kw (ns.take (i + 1)) = (LC (ns.take i) d (av (ns.take i))).map fun k => nR (nD k) := by
    unfold Kw LC;rw [ay hd, Hm, T9 (l := CH (ns.take i)) (by rw [Ez]; exact T5 _)]
   generalize hds : ns.take i = ds at *;generalize hN : av ds = N at *;obtain ⟨ad, rfl, hr⟩ := hS.at_ TX;refine sr ?_;refine dO ?_;refine cu ?_;refine uK ?_;refine aI (aa (sr (aL (aa (ah (sr (mL (aJ (mI (aa (aq ?_)))))))))));replace hh := hh.de 65 3;refine bK [6, 8, 10, 29, 30, 31, 32, 33, 34, 35, 36, 37, 38, 39, 40, 41, 42, 43, 44, 45, 46, 47, 48] 6 29
    (fun v6 v w' => ∃ (j c6 : Nat) (C : Option Addr), j ≤ N ∧ v = .int .i64 j ∧ v6 = .slice C (j * (d + 1)) c6 ∧ Hp w [.row C (j * (d + 1)) c6 65 3 (az NR.cells ((LC ds d j).map fun k => nR (nD k))), .row B N c3 65 3 (az NR.cells (Kw ds))] w')
    (fun _ v _ => N - (intOf v).toNat) ?_ ?_
   ·refine ⟨0, 0, none, T6 _, rfl, ?_, ?_⟩
    ·rw [Wx]; rfl
    ·rw [Wx]; exact hh
   ·clear hh;rintro ρ2 v6 v w2 ⟨j, c6, C, hj, rfl, rfl, hh⟩;by_cases hjN : j < N
    ·obtain ⟨x, hx⟩ := ak (l := CH ds) (k := j) (by rw [Ez]; omega);have hx2 : (Kw ds)[j]? = some (nR (nD x)) := by unfold Kw; rw [Ue, hx]; rfl
     have zx := Qt (T7 hx) htl htw;have hj1 : (j + 1) * (d + 1) ≤ N * (d + 1) := U2 _ hjN;rw [Va] at hj1;obtain ⟨go, rfl⟩ := hh.cB (i := 1) rfl TX;refine sr ?_;refine dO ?_;refine rj ?_;refine cw (vs := [_, _, _]) aK.out rfl (hh.iz (f := NR.cells) (x := nR (nD x)) (l := Kw ds) (i := 1) rfl NR.len TY hx2) rfl TY ?_;refine bV hh ?_;intro b8 w8 hh;refine bW hh 0 [_,_,_] ?_;intro ws hh;replace hh : Hp _ (.blk _ _ [_, _, _] _ :: _) _ := hh;refine aa (sr (mI ?_));refine aF (kG d _ (hT.hp hh) hd127) al.out rfl TY ?_;rintro e_ w34 ⟨A34, c34, rfl, hown_, hb_⟩;refine ⟨_, rfl, ?_⟩;replace hh := hh.aW (x := .row _ _ _ _ _ _) hb_ hown_;refine aJ (mI (aa (aq ?_)));refine bK [6, 10, 36, 37, 38, 39, 40, 41, 42, 43, 44, 45, 46, 47] 6 36
      (fun v6 v w' => ∃ (k c6 : Nat) (C : Option Addr), k ≤ d + 1 ∧ v = .int .i64 k ∧ v6 = .slice C (j * (d + 1) + k) c6 ∧ Hp w [.row A34 (d + 1) c34 65 3 (az NR.cells (lf d)), .blk b8 65 [.bool (nR (nD x)).neg, .string (nR (nD x)).bz, .int .i64 (nR (nD x)).e] (0, 0), .row C (j * (d + 1) + k) c6 65 3 (az NR.cells ((LC ds d j ++ ((rT d).take k).map (x * ·)).map fun k => nR (nD k))), .row (some ⟨go, 0, none⟩) N c3 65 3 (az NR.cells (Kw ds))] w')
      (fun _ v _ => d + 1 - (intOf v).toNat) ?_ ?_
     ·refine ⟨0, c6, C, T6 _, rfl, rfl, ?_⟩;rw [Wb, UR, UF];exact hh
     ·clear hh;rintro ρ3 v6 v w3 ⟨k, c6, C, hk, rfl, rfl, hh⟩;by_cases hkd : k < d + 1
      ·have hb1 := xO (n := d) (k := k) TX;have hb2 := kj (n := d) (k := k) TX;have zb := qC d k hd127;have hmul := fun A cc w1 hT1 hS1 => eI A 2 cc [nR (nD x), nR (nD (bin d k))] w1 hT1 hS1 (by simpa using ⟨zx.ok TX, zb.ok TX⟩) 1600 (by simpa [bR] using ⟨zx, zb.mono TX⟩) TX TX;rw [show g8 ([nR (nD x), nR (nD (bin d k))].map NR.d) = nD (x * bin d k) by rw [PK]; show 1 * (nR (nD x)).d * (nR (nD (bin d k))).d = _; rw [bR, bR, V4]] at hmul;obtain ⟨ga, rfl⟩ := hh.cB (i := 0) rfl TX;refine sr ?_;refine dO ?_;refine cV (k := k) bk.out aK.size rfl rfl TX TX TY ?_;refine cw (vs := [_, _, _]) aK.out rfl (hh.iz (f := NR.cells) (x := nR (nD (bin d k))) (l := lf d) (i := 0) rfl NR.len TY hb2) rfl TY ?_;refine bV hh ?_;intro b10 w10 hh;refine bW hh 0 [_,_,_] ?_;intro ws hh;replace hh : Hp _ (.blk _ _ [_, _, _] _ :: _) _ := hh;refine aa (ao (mL ?_));refine cG hh 2 [_,_,_] ?_;refine cG hh 0 [_,_,_] ?_;refine s9 ?_;intro b43 w43 hh;refine bD hh (hmul _ _ _ (hT.hp hh) (hh.aC (i := 0) rfl)) rfl ?_;intro w44 hh;refine rC ?_;intro b45 w45 hh
       refine cK hh (i := 5) rfl rfl rfl (hh.aC (i := 0) rfl) bk.out aK.out rfl TY (by first | rfl | exact dR _ | exact dp _ | exact bZ _ | exact cv NR.one _) TX TX TY ?_;intro A46 c46 w46 hh;simp only [Uh, UH] at hh;replace hh := hh.sub (UM _ _);refine kN ?_;refine bj (mI (aA (ai ?_)));replace hh := hh.sub (T8 _ (T8 _ (T4 _ (T4 _ (T4 _ (T4 _ UA))))));refine ⟨⟨k + 1, c46, A46, TX, rfl, rfl, ?_⟩, by show d + 1 - (k + 1) < d + 1 - k; omega, ?_⟩
       ·have e : (LC ds d j ++ ((rT d).take (k + 1)).map (x * ·)).map (fun k => nR (nD k)) = (LC ds d j ++ ((rT d).take k).map (x * ·)).map (fun k => nR (nD k)) ++ [nR (nD (x * bin d k))] := by rw [ay hb1]; simp
        rw [e, bY];exact hh
       ·exact dQ
      ·obtain rfl : k = d + 1 := TX;rw [T9 (by rw [uB]; omega), ← J8 hx] at hh;refine sr ?_;refine y7 ?_;refine bj (mI (aA (ai ?_)));replace hh := hh.sub (T8 _ (T8 _ (T4 _ (T4 _ UA))));refine ⟨⟨j + 1, c6, C, TX, rfl, ?_, ?_⟩, by show N - (j + 1) < N - j; omega, ?_⟩
       ·rw [Va]; rfl
       ·rw [Va]; exact hh
       ·exact dQ
    ·obtain rfl : j = N := TX;rw [← hsnoc, ← hstep] at hh;rw [← hstep];refine sr ?_;refine bg (aa (ah (cF (a6 (aD (aD (bB (ai (ao (mL (aL (aA (bE (ai (ao ?_)))))))))))))));refine bj (mI (aA (ai ?_)));replace hh := hh.sub (T4 _ (T8 _ UA));refine ⟨⟨i + 1, c6, C, TX, rfl, rfl, hh⟩, by show n - (i + 1) < n - i; omega, ?_⟩;exact dQ
  ·obtain rfl : i = n := TX;rw [T9 TX] at hh ⊢;exact OV
def jx (d r : Nat) (t : Dyadic) : Dyadic := t ^ r * (1 - t) ^ (d - r)
def sS : List Nat → List Nat → List Dyadic → Dyadic
 | d :: ds, r :: rs, t :: ts => jx d r t * sS ds rs ts
 | _, _, _ => 1
def mC (ds : List Nat) (xs : List Dyadic) (ts : List Dyadic) : Dyadic := sm (List.range (av ds)) fun p => (xs[p]?).getD 0 * sS ds (cL ds p) ts
def kU (d : Nat) (t : Dyadic) (m : Nat) (xs : List Dyadic) : List Dyadic := (List.range m).map fun q => sm (List.range (d + 1)) fun r => (xs[r + (d + 1) * q]?).getD 0 * jx d r t
def nG : List Nat → List Dyadic → List Dyadic → List Dyadic
 | d :: ds, t :: ts, xs => nG ds ts (kU d t (av ds) xs)
 | _, _, xs => xs
theorem qu (d : Nat) (t : Dyadic) (m : Nat) (xs : List Dyadic) : (kU d t m xs).length = m := by simp [kU]
theorem wZ : ∀ (ds : List Nat) (ts xs : List Dyadic), ts.length = ds.length → xs.length = av ds → nG ds ts xs = [mC ds xs ts]
 | [], [], xs, _, h => by
  match xs, h with
  | [x], _ =>
   show [x] = [x * 1 + 0];congr 1;grind
 | d :: ds, t :: ts, xs, h1, h2 => by
  rw [nG, wZ ds ts _ (by simpa using h1) (qu _ _ _ _)];unfold mC;rw [xF];congr 1;refine bo fun q hq => ?_;have hq2 := UT.1 hq;have : (kU d t (av ds) xs)[q]? = some (sm (List.range (d + 1)) fun r => (xs[r + (d + 1) * q]?).getD 0 * jx d r t) := by
   unfold kU;rw [Ue, UY hq2]
   rfl
  rw [this, Vo, ← kF];refine bo fun r hr => ?_;have hr2 := UT.1 hr;rw [cL, VW, UG hr2, Vk _ _ TX, U1 hr2, Uv, sS];grind
theorem nn (t : Dyadic) (a b : Nat) : t ^ (a + b) = t ^ a * t ^ b := by
 induction b with
 | zero => rw [Vu]; grind
 | succ b ih => rw [← WU]; grind
theorem MK (n : Nat) (a b : Dyadic) : sm (List.range (n + 1)) (fun k => nD (bin n k) * a ^ k * b ^ (n - k)) = (a + b) ^ n := by
 induction n with
 | zero => show nD 1 * a ^ 0 * b ^ 0 + 0 = (a + b) ^ 0; rw [Cz]; grind
 | succ n ih =>
  have e2 : ∀ k, nD (bin (n + 1) (k + 1)) * a ^ (k + 1) * b ^ (n + 1 - (k + 1)) = nD (bin n k) * a ^ k * b ^ (n - k) * a + nD (bin n (k + 1)) * a ^ (k + 1) * b ^ (n - k) := fun k => by
   rw [bin, xE, show n + 1 - (k + 1) = n - k by omega];grind
  rw [Bo, bo (g := fun k => nD (bin n k) * a ^ k * b ^ (n - k) * a + nD (bin n (k + 1)) * a ^ (k + 1) * b ^ (n - k)) fun k _ => e2 k, ti, kF, ih, p9];have e3 : sm (List.range (n + 1)) (fun k => nD (bin n (k + 1)) * a ^ (k + 1) * b ^ (n - k)) = sm (List.range n) (fun k => nD (bin n (k + 1)) * a ^ (k + 1) * b ^ (n - (k + 1))) * b := by
   rw [Wh, jz, sA (show n < n + 1 by omega), En, ← kF];have : ∀ x y : Dyadic, x + 0 * y * b ^ (n - n) = x := fun x y => by grind
   rw [this];refine bo fun k hk => ?_;have hk2 := UT.1 hk;rw [show n - k = (n - (k + 1)) + 1 by omega];grind
  have e4 : (a + b) ^ n = nD 1 * a ^ 0 * b ^ (n - 0) + sm (List.range n) (fun k => nD (bin n (k + 1)) * a ^ (k + 1) * b ^ (n - (k + 1))) := by
   rw [← ih, Bo, p9]
  rw [e3];have e5 : (a + b) ^ (n + 1) = (a + b) ^ n * a + (a + b) ^ n * b := by grind
  rw [e5];generalize hS : sm (List.range n) (fun k => nD (bin n (k + 1)) * a ^ (k + 1) * b ^ (n - (k + 1))) = S at *;rw [e4, show n + 1 - 0 = n + 1 by omega, show n - 0 = n by omega, Cz];grind
def sR : List Nat → (List Nat → Dyadic) → Dyadic
 | [], F => F []
 | d :: ds, F => sm (List.range (d + 1)) fun r => sR ds fun row => F (r :: row)
theorem JG : ∀ (ds : List Nat) (F : List Nat → Dyadic), sm (List.range (av ds)) (fun p => F (cL ds p)) = sR ds F
 | [], F => by show F [] + 0 = F []; grind
 | d :: ds, F => by
  rw [xF, oM, sR];refine bo fun r hr => ?_;have hr2 := UT.1 hr;rw [← JG ds];refine bo fun q _ => ?_;rw [cL, VW, UG hr2, Vk _ _ TX, U1 hr2, Uv]
theorem kP : ∀ {ds : List Nat} {F G : List Nat → Dyadic}, (∀ row, ll ds row → F row = G row) → sR ds F = sR ds G
 | [], F, G, h => h [] trivial
 | d :: ds, F, G, h => by
  rw [sR, sR];refine bo fun r hr => kP fun row hrow => h _ ⟨by have := UT.1 hr; omega, hrow⟩
theorem N6 {α : Type} : ∀ (ds : List Nat) (l : List α) (F : α → List Nat → Dyadic), sR ds (fun row => sm l fun a => F a row) = sm l fun a => sR ds (F a)
 | [], _, _ => rfl
 | d :: ds, l, F => by
  rw [sR];simp only [sR];rw [oM l, bo fun r _ => N6 ds l fun a row => F a (r :: row)]
theorem x7 : ∀ (ds : List Nat) (F : List Nat → Dyadic) (c : Dyadic), sR ds (fun row => F row * c) = sR ds F * c
 | [], _, _ => rfl
 | d :: ds, F, c => by
  rw [sR, sR, ← kF];exact bo fun r _ => x7 ds _ c
def gu (ds : List Nat) (a : Nat) (M : Nat → Nat → Dyadic) (xs : List Dyadic) : List Dyadic :=
 (List.range (av ds)).map fun p => sm (List.range (ds.getD a 0 + 1)) fun i => co ds xs ((cL ds p).set a i) * M i ((cL ds p).getD a 0)
theorem nU (ds : List Nat) (a : Nat) (M : Nat → Nat → Dyadic) (xs : List Dyadic) : (gu ds a M xs).length = av ds := by simp [gu]
theorem vE {row : List Nat} (a : Nat) (M : Nat → Nat → Dyadic) (xs : List Dyadic) (h : ll ds row) : co ds (gu ds a M xs) row = sm (List.range (ds.getD a 0 + 1)) fun i => co ds xs (row.set a i) * M i (row.getD a 0) := by
 rw [E1 h];unfold gu;rw [Ue, UY (mR h)];simp only [Vx, Vo, iC h]
theorem DM : ∀ {ds row : List Nat} {a i : Nat}, ll ds row → i ≤ ds.getD a 0 → ll ds (row.set a i)
 | [], [], _, _, _, _ => trivial
 | d :: ds, r :: rs, 0, i, h, hi => ⟨hi, h.2⟩
 | d :: ds, r :: rs, a + 1, i, h, hi => ⟨h.1, DM (a := a) h.2 (by simpa using hi)⟩
def Sx (d : Nat) (s : Dyadic) (i k : Nat) : Dyadic := if k < i then 0 else nD (bin (d - i) (k - i)) * s ^ i * (1 - s) ^ (k - i)
def So (d : Nat) (s : Dyadic) (i k : Nat) : Dyadic := if i < k then 0 else nD (bin i (i - k)) * s ^ (i - k) * (1 - s) ^ (d - i)
theorem MJ (d i : Nat) (hi : i ≤ d) (f : Nat → Dyadic) : sm (List.range (d + 1)) (fun k => if k < i then 0 else f (k - i)) = sm (List.range (d - i + 1)) f := by
 obtain ⟨m, rfl⟩ : ∃ m, d = i + m := ⟨d - i, TX⟩;rw [show i + m - i + 1 = m + 1 by omega, show i + m + 1 = i + (m + 1) by omega, List.range_add, ld, jt, jA fun k hk => by rw [T2 (UT.1 hk)]];have : ∀ x : Dyadic, 0 + x = x := fun x => by grind
 rw [this];exact bo fun k _ => by rw [T3 TX, Nat.add_sub_cancel_left]
theorem LJ (ds : List Nat) (xs ts : List Dyadic) : mC ds xs ts = sR ds fun row => co ds xs row * sS ds row ts := by
 rw [← JG];unfold mC;exact bo fun p hp => by rw [tB (UT.1 hp)]
variable {q : Nat}
theorem rm : ∀ (A B : List Nat) (p : Nat), cL (A ++ B) p = cL A p ++ cL B (p / av A)
 | [], B, p => by rw [Ub, av, Nat.div_one]; rfl
 | d :: A, B, p => by rw [Ud, cL, cL, rm A B, av, VE]; rfl
theorem zZ : ∀ (A : List Nat) (f q : Nat), cL A (f + av A * q) = cL A f
 | [], _, _ => rfl
 | d :: A, f, q => by
  rw [cL, cL, av, UX, VW, Vk _ _ TX, zZ A]
section
variable {A B : List Nat} {d : Nat}
def df (A : List Nat) (d f k q : Nat) : Nat := f + av A * (k + (d + 1) * q)
theorem uG {f : Nat} (hf : f < av A) (hk : k ≤ d) (hq : q < av B) : df A d f k q < av (A ++ d :: B) := by
 rw [dT, av, df];have h1 : k + (d + 1) * q + 1 ≤ (d + 1) * av B := by
  have : (d + 1) * (q + 1) ≤ (d + 1) * av B := Uz _ hq;rw [VM] at this;omega
 have h2 := Uz (av A) h1;rw [VM] at h2;omega
theorem wx {f : Nat} (hf : f < av A) (hk : k ≤ d) : cL (A ++ d :: B) (df A d f k q) = cL A f ++ k :: cL B q := by
 unfold df;rw [rm, zZ, Vk _ _ (cS A), U1 hf, Uv, cL, VW, UG TX, Vk _ _ TX, U1 TX, Uv]
theorem C0 {p : Nat} (h : p < av (A ++ d :: B)) : ∃ f k q, f < av A ∧ k ≤ d ∧ q < av B ∧ p = df A d f k q := by
 rw [dT, av] at h;have hA := cS A;refine ⟨p % av A, p / av A % (d + 1), p / av A / (d + 1), Uw _ hA, by have := Uw (p / av A) (show 0 < d + 1 by omega); omega, ?_, ?_⟩
 ·rw [Vr TX, Vr hA, UC, UC (av B)];exact h
 ·unfold df;rw [WH, WH]
theorem zQ (x y : List Nat) (k : Nat) : (x ++ k :: y).getD x.length 0 = k := by
 rw [U7, Vg (T5 _), UW]
 rfl
theorem Df (x y : List Nat) (k i : Nat) : (x ++ k :: y).set x.length i = x ++ i :: y := by
 rw [V3 _ _ (T5 _), UW, Uh]
def fg (A : List Nat) (d : Nat) (xs : List Dyadic) (f q : Nat) : List Dyadic := (List.range (d + 1)).map fun i => (xs[df A d f i q]?).getD 0
theorem HI {f : Nat} (M : Nat → Nat → Dyadic) (xs : List Dyadic) (hf : f < av A) (hk : k ≤ d) (hq : q < av B) :
  (gu (A ++ d :: B) A.length M xs)[df A d f k q]? = some (sm (List.range (d + 1)) fun i => (xs[df A d f i q]?).getD 0 * M i k) := by
 have hp := uG (B := B) hf hk hq;unfold gu;rw [Ue, UY hp];simp only [Vx];rw [wx hf hk, zQ];have hl := uk A f;rw [show ((cL A f ++ k :: cL B q).getD A.length 0) = k by rw [← hl]; exact zQ _ _ _];congr 1;refine bo fun i hi => ?_;have hi2 : i ≤ d := by have := UT.1 hi; omega
 rw [show (cL A f ++ k :: cL B q).set A.length i = cL A f ++ i :: cL B q by rw [← hl]; exact Df _ _ _ _, ← wx (B := B) hf hi2, tB (uG hf hi2 hq)]
end
def Ss (ns : List Nat) : Bool := ns.any (fun d => decide (127 < d)) || decide (4096 < av ns)
def Pb (a b : List Nat) : List Nat := List.zipWith (· + ·) a b
theorem HK (N : Nat) : fF N [.bool false, .string (ByteArray.mk #[]), .int .i64 0] = az NR.cells ((nu N []).map nR) := by
 rw [uE, List.map_replicate]
 induction N with
 | zero => rfl
 | succ n ih => rw [V9, jH, ← ih]; rfl
def Tc (ds es : List Nat) (xs ys : List Dyadic) (k : Nat) : List (Nat × Dyadic) :=
 (List.range k).flatMap fun k => (List.range (av ds)).map fun i => (il (C1 ds es) (C1 (cL ds i) (cL es k)), (xs[i]?).getD 0 * (ys[k]?).getD 0)
def Qr (ns ms : List Nat) (xs ys : List Dyadic) : List Dyadic := nu (av (Pb ns ms)) (Tc ns.reverse ms.reverse xs ys (av ms))
variable {w w' : World}
structure FX where
 A : Option Addr
 n : Nat
 a : Nat
 B : Option Addr
 m : Nat
 b : Nat
 ds : List Int
 cs : List NR
def FX.cells (f : FX) : List Value := [.slice f.A f.n f.a, .slice f.B f.m f.b]
def FX.v (f : FX) : Value := .agg #[.slice f.A f.n f.a, .slice f.B f.m f.b]
structure FX.at_ (f : FX) (w : World) : Prop where
 dg : Sl w f.A f.n 1 (bJ f.ds)
 nm : Sl w f.B f.m 3 (az NR.cells f.cs)
theorem FX.at_.ext {f : FX} (h : f.at_ w) (hb : Below w.heap.size w w') : f.at_ w' := ⟨h.dg.ext hb, h.nm.ext hb⟩
structure FX.l9 (f : FX) (k : Nat) : Prop where
 Sc : f.n ≤ 1000
 Tk : f.m ≤ 100000
 num : ∀ c ∈ f.cs, c.ok ∧ Sz k c.d
def FX.e (f : FX) : Int := fE f.ds f.cs
theorem xM (f : FX) (k : Nat) (w : World) (hT : eh w) (h : f.at_ w) (hl : f.l9 k) :
  Calls Tryz.prog 41 #[.agg #[.slice f.A f.n f.a, .slice f.B f.m f.b]] w fun r w' => r = .returned (.int .i64 f.e) ∧ Below w.heap.size w w' :=
 vi f.A f.B f.n f.a f.m f.b f.ds f.cs w hT h.dg h.nm (by have := hl.Sc; omega) (by have := hl.Tk; omega) fun a ha => (hl.num a ha).1
def SF (fs : List FX) : Bool := fs.any fun f => decide (f.n ≠ (fs.map FX.n).headD 0)
def Dm (fs : List FX) : Int := match fs.find? (fun f => decide (f.e ≠ 0)) with | some f => f.e | none => if fs.length = 0 ∨ SF fs = true then 1 else 0
open Go.ChangeShapes Go.WideShapes Go.ChangeAt Go.RowKit Go.ChangeMaps
variable {next : Rf → World → Prop}
section
variable {ro : Mode} {P : Program} {N : Nat} {Q : Kq} {ρ : Rf} {w : World}
theorem J7 {c : Code} {id : Nat} (mods : List Nat) (s0 : Nat) (J : Value → World → Prop) (hc : WC ro P N c (qH id (cx (fun ρ2 w2 => J (ρ2 s0) w2 ∧ iJ mods ρ2 ρ) Q)) ρ w)
  (hn : ∀ ρ' v0 w', J v0 w' → next (cI (mask mods ρ' ρ) s0 v0) w') : WC ro P N c (qH id (cx next Q)) ρ w :=
 hc.mono fun e ρ2 w2 hq => by
  have key : J (ρ2 s0) w2 ∧ iJ mods ρ2 ρ → next ρ2 w2 := fun h => by
   have := hn ρ2 (ρ2 s0) w2 h.1;rwa [iL h.2, gG] at this
  cases e with
  | normal => exact key hq
  | exit i =>
   by_cases h : i = id
   ·subst h;simp only [qH, cx, if_true] at hq ⊢;exact key hq
   ·simp only [qH, cx, T3 h] at hq ⊢;exact hq
  | _ => exact hq
theorem Gq {a c : Code} (mods : List Nat) (J : World → Prop) (hc : WC ro P N a (cx (fun ρ2 w2 => J w2 ∧ iJ mods ρ2 ρ) Q) ρ w) (hn : ∀ ρ' w', J w' → WC ro P N c Q (mask mods ρ' ρ) w') : WC ro P N (.seq a c) Q ρ w :=
 ah (hc.mono fun e ρ2 w2 hq => by
  cases e with
  | normal =>
   have := hn ρ2 w2 hq.1;rwa [iL hq.2] at this
  | _ => exact hq)
end
section
variable {ro : Mode} {P : Program} {N : Nat} {Q : Kq} {ρ : Rf} {w : World}
theorem Ge {a c : Code} (mods : List Nat) (s0 : Nat) (J : Value → World → Prop) (hc : WC ro P N a (cx (fun ρ2 w2 => J (ρ2 s0) w2 ∧ iJ mods ρ2 ρ) Q) ρ w) (hn : ∀ ρ' v0 w', J v0 w' → WC ro P N c Q (cI (mask mods ρ' ρ) s0 v0) w') : WC ro P N (.seq a c) Q ρ w :=
 ah (hc.mono fun e ρ2 w2 hq => by
  cases e with
  | normal =>
   have := hn ρ2 (ρ2 s0) w2 hq.1;rwa [iL hq.2, gG] at this
  | _ => exact hq)
end
variable {p : List TR} {α β : Type}
def mulM (a b : ByteArray) : ByteArray := str (mulL a.data.toList b.data.toList).1
def mm (a b : ByteArray) : Int := (mulL a.data.toList b.data.toList).2
def qI (x y : TR) : TR := ⟨mulM x.m y.m, nR (x.c.d * y.c.d)⟩
def cg (p q : List TR) : List TR := p.flatMap fun x => q.map (qI x)
def qW (p q : List TR) : List Int := p.flatMap fun x => q.map fun y => mm x.m y.m
def eZ (p q : List TR) : Int := if 65536 < p.length * q.length then 3 else match (qW p q).find? fun e => decide (e ≠ 0) with | some e => e | none => if 4096 < (aE (cg p q)).length then 3 else 0
theorem Be {α β : Type} {f : α → List β} {k : Nat} : ∀ {l : List α}, (∀ x ∈ l, (f x).length = k) → (l.flatMap f).length = l.length * k
 | [], _ => by simp
 | x :: l, h => by
  rw [WE, Ua, h x Uc, Be fun y hy => h y (Uf _ hy), Uq, Va, VU]
theorem jF (p q : List TR) : (cg p q).length = p.length * q.length := Be fun x _ => Ug _
theorem qV {γ : Type} {f : α → β → γ} {p : List α} {q : List β} {i : Nat} {x : α} (hx : p[i]? = some x) :
  ((p.take (i + 1)).flatMap fun x => q.map (f x)) = ((p.take i).flatMap fun x => q.map (f x)) ++ (q.take q.length).map (f x) := by
 rw [ay hx, Xk, T9 (T5 _)];simp
theorem BO {γ : Type} {f : α → β → γ} {p : List α} {q : List β} {i : Nat} {x : α} {y : β} (hx : p[i]? = some x) (hy : q[j]? = some y) :
  ∃ R, (p.flatMap fun x => q.map (f x)) = (((p.take i).flatMap fun x => q.map (f x)) ++ (q.take j).map (f x)) ++ f x y :: R := by
 refine ⟨(q.drop (j + 1)).map (f x) ++ (p.drop (i + 1)).flatMap fun x => q.map (f x), ?_⟩;have e1 : p = p.take i ++ x :: p.drop (i + 1) := by rw [← gJ hx, UZ]
 have e2 : q = q.take j ++ y :: q.drop (j + 1) := by rw [← gJ hy, UZ]
 have e3 : q.map (f x) = (q.take j).map (f x) ++ f x y :: (q.drop (j + 1)).map (f x) := by
  rw [← Ut, ← UU, ← e2]
 calc (p.flatMap fun x => q.map (f x)) = (p.take i ++ x :: p.drop (i + 1)).flatMap fun x => q.map (f x) := by rw [← e1]
  _ = _ := by rw [Xk, WE, e3]; simp
theorem o7 {q : List TR} (hp : iI k p) (hq : iI j q) (h : k + j ≤ 1000000) : iI (k + j) (cg p q) := fun t ht => by
 obtain ⟨x, hx, ht⟩ := VY.1 ht;obtain ⟨y, hy, rfl⟩ := Ui.1 ht;have hs := (hp x hx).2.mul (hq y hy).2;exact ⟨hs.ok TX, by show Sz _ (nR _).d; rw [bR]; exact hs⟩
theorem GA (a b : ByteArray) : (mulM a b).size ≤ b.size := by
 unfold mulM;rw [lk];unfold mulL;split
 ·rename_i l hl;have := (vw hl).2.2;have h4 : l.length ≤ b.data.toList.length := by rw [this.2, List.length_zipWith, cX, cX]; omega
  have h5 : (J3 l).length ≤ l.length := by unfold J3; split <;> simp
  rw [dE];exact Ur h5 h4
 ·exact T6 _
variable {l ts : List TR}
theorem I7 (c : Dyadic) (f : ByteArray → Dyadic) (l : List TR) : wS (fun m => c * f m) l = c * wS f l := by
 induction l with
 | nil => exact (Xm _).symm
 | cons t l ih => rw [wS, wS, ih]; grind
theorem I8 (f : ByteArray → Dyadic) (x : TR) (q : List TR) : wS f (q.map (qI x)) = x.c.d * wS (fun b => f (mulM x.m b)) q := by
 induction q with
 | nil => exact (Xm _).symm
 | cons t q ih =>
  rw [Ut, wS, ih, wS];show (nR _).d * f (mulM x.m t.m) + _ = _;rw [bR];grind
theorem Br (f : ByteArray → Dyadic) (q : List TR) : ∀ p : List TR, wS f (cg p q) = wS (fun a => wS (fun b => f (mulM a b)) q) p
 | [] => rfl
 | t :: p => by
  show wS f (q.map (qI t) ++ cg p q) = _;rw [mY, I8, Br f q p, wS]
def mh (c : Dyadic) (t : TR) : TR := ⟨t.m, nR (t.c.d * c)⟩
theorem ct {v : Int} (h : fH v ts = 0) : iU v = true ∧ ts.length ≤ 4096 ∧ (∀ t ∈ ts, eK v t = true) ∧ Canon ts := by
 unfold fH at h
 cases hf : iU v with
 | false => rw [hf, T2 rfl] at h; omega
 | true =>
  rw [T3 (by rw [hf]; decide)] at h;by_cases h4 : 4096 < ts.length
  ·rw [T2 h4] at h; omega
  ·rw [T3 h4] at h;by_cases ho : okB v ts = true
   ·unfold okB at ho;rw [Uj] at ho;have hg : ∀ t ∈ ts, nH v t = true := Ux.1 ho.1;refine ⟨rfl, TX, fun t ht => ?_, uQ.1 ho.2, fun t ht => ?_, fun t ht => ?_⟩
    ·exact (V8.1 (hg t ht)).1
    ·exact B3 (V8.1 (V8.1 (hg t ht)).2).1
    ·exact ((r6 _).1 (V8.1 (V8.1 (hg t ht)).2).2).symm
   ·rw [T3 ho] at h; omega
theorem EE {v : Int} (hf : iU v = true) (h4 : ts.length ≤ 4096) (hm : ∀ t ∈ ts, eK v t = true) (hc : Canon ts) : fH v ts = 0 := by
 unfold fH;rw [T3 (by rw [hf]; decide), T3 TX, T2];unfold okB;rw [Uj];refine ⟨Ux.2 fun t ht => ?_, uQ.2 hc.rL⟩;show (eK v t && (x6 t && Sa t.c)) = true;rw [hm t ht, (r6 _).2 (hc.nf t ht).symm];unfold x6;rw [UB (hc.nz t ht)]
 rfl
theorem Pp {v : Int} {s t : TR} (h : s.m = t.m) (hs : eK v s = true) : eK v t = true := by unfold eK at hs ⊢; rwa [← h]
theorem lQ {v : Int} (h : ∀ t ∈ l, eK v t = true) : ∀ t ∈ aE l, eK v t = true := fun t ht => by
 obtain ⟨s, hs, e⟩ := fR t ht;exact Pp e (h s hs)
theorem eA {v : Int} (hf : iU v = true) (h4 : (aE l).length ≤ 4096) (hm : ∀ t ∈ l, eK v t = true) : fH v (aE l) = 0 := EE hf h4 (lQ hm) (eC l)
theorem I1 {v : Int} {x y : TR} (hx : eK v x = true) (h : mm x.m y.m = 0) : eK v (qI x y) = true := by
 unfold eK at hx ⊢;rw [Uj, Up] at hx;obtain ⟨_, _, h3, h4, h5⟩ := ni h;rw [Uj, Up];have h6 := U9 List.length h5;rw [cX, List.length_zipWith, cX, cX, h3, Nat.min_self] at h6;refine ⟨?_, ?_⟩
 ·show eM (mulM x.m y.m).data.toList = true;unfold mulM;rw [dv];exact h4
 ·show ((mulM x.m y.m).size : Int) = v;unfold mulM;rw [lk, h6, ← dE];exact hx.2
theorem mV {v : Int} {q : List TR} (hp : ∀ t ∈ p, eK v t = true) (h : ∀ e ∈ qW p q, e = 0) : ∀ t ∈ cg p q, eK v t = true := fun t ht => by
 obtain ⟨x, hx, ht⟩ := VY.1 ht;obtain ⟨y, hy, rfl⟩ := Ui.1 ht;exact I1 (hp x hx) (h _ (VY.2 ⟨x, hx, Ui.2 ⟨y, hy, rfl⟩⟩))
theorem j8 {q : List TR} (h : eZ p q = 0) : p.length * q.length ≤ 65536 ∧ (∀ e ∈ qW p q, e = 0) ∧ (aE (cg p q)).length ≤ 4096 := by
 unfold eZ at h;by_cases h6 : 65536 < p.length * q.length
 ·rw [T2 h6] at h; omega
 ·rw [T3 h6] at h;split at h
  ·rename_i e he;have := List.find?_some he;rw [Up] at this;exact absurd h this
  ·rename_i he;refine ⟨TX, fun e hm => ?_, ?_⟩
   ·have := List.find?_eq_none.1 he e hm;simpa using this
   ·by_cases h4 : 4096 < (aE (cg p q)).length
    ·rw [T2 h4] at h; omega
    ·omega
def eW (ps : List PX) : Int := (ps.map PX.v).headD 0
def BB (ps : List PX) : List TR := ps.flatMap PX.ts
def FT (ps : List PX) : Int := if eY ps = 0 then gp (BB ps) else eY ps
theorem xN {ps : List PX} (h : eY ps = 0) : ps ≠ [] ∧ (∀ g ∈ ps, g.e = 0) ∧ ∀ g ∈ ps, g.v = eW ps := by
 unfold eY at h;split at h
 ·rename_i f hf;have := List.find?_some hf;simp at this;exact absurd h this
 ·rename_i hf;split at h
  ·cases h
  rename_i hno;refine ⟨fun e => hno (.inl (by rw [e]; rfl)), fun f hm => ?_, fun f hm => ?_⟩
  ·have := List.find?_eq_none.1 hf f hm;simpa using this
  ·apply VO;intro hne;exact hno (.inr (VS.2 ⟨f, hm, Um hne⟩))
theorem yf {α β : Type} {f : α → List β} {B : Nat} : ∀ {l : List α}, (∀ x ∈ l, (f x).length ≤ B) → (l.flatMap f).length ≤ l.length * B
 | [], _ => by simp
 | x :: l, h => by
  rw [WE, Ua, Uq, Va];have h1 := h x Uc;have h2 := yf fun y hy => h y (Uf _ hy);omega
theorem FR {f : α → List β} {l : List α} {i : Nat} {x : α} (h : l[i]? = some x) : (l.take (i + 1)).flatMap f = (l.take i).flatMap f ++ f x := by
 rw [ay h, Xk];simp
theorem B6 {k : List TR} (h : aE l = aE k) : gp l = gp k := by unfold gp; rw [h]
theorem j1 {ps : List PX} {g : PX} (h : ps[0]? = some g) : eW ps = g.v := by
 rcases ps with _ | ⟨f, l⟩
 ·cases h
 ·have : f = g := by simpa using h
  rw [← this]; rfl
theorem n8 (L : Option Addr) (n c : Nat) (ps : List PX) (k : Nat) (w : World) (hT : eh w) (hL : Sl w L n 2 (az PX.cells ps)) (hn : n ≤ 100) (hf : ∀ g ∈ ps, g.at_ w) (hl : ∀ g ∈ ps, g.l9 k) (hk : k ≤ 2999000) :
  Calls Tryz.prog 16 #[.slice L n c] w fun r w' => ∃ g : PX, eX (FT ps) (eW ps) (aE (BB ps)) g ∧ r = .returned (.tuple #[.agg #[.int .i64 g.v, .slice g.A g.n g.c], .int .i64 (FT ps)]) ∧ Hp w [g.row] w' := by
 have hh := Hp.start w;have hln := hL.bq PX.len TY;have hlk := fun w1 hT1 hb => qX L n c ps k w1 hT1 (hL.ext hb) TX (fun g hg => (hf g hg).ext hb) hl;unfold FT;by_cases h0 : eY ps = 0
 ·rw [T2 h0];rw [h0] at hlk;obtain ⟨hne, gy, hvv⟩ := xN h0;have hpos := List.length_pos_iff.2 hne;obtain ⟨g0, h00⟩ := ak (l := ps) (k := 0) hpos;rw [j1 h00];have hfl : (BB ps).length ≤ ps.length * 4096 := yf fun g hg => (ct (gy g hg)).2.1;obtain ⟨ad, rfl, hr⟩ := hL.at_ TX;refine aj (N := 33) (l := [.slice (some ad) n c]) Tryz.func16 rfl rfl (by simp) ?_;refine sr ?_;refine bV hh ?_;intro b2 w2 hh;refine aI (aa (ah (sr (mL ?_))));refine bD hh (hlk _ (hT.hp hh) hh.below) rfl ?_;intro w9 hh;refine aI (aa (sr (mI ?_)));refine dn (aa (cF (ar (ai (sr (aL (aa (ah (sr (mL (aJ (mI (aa (aq ?_))))))))))))));replace hh := hh.de 96 4;refine bK [5, 7, 16, 17, 18, 19, 20, 21, 22, 23, 24] 5 16
   (fun a x w' => ∃ (i : Nat) (M : List TR) (A' : Option Addr) (c' : Nat), i ≤ n ∧ x = .int .i64 i ∧ a = .slice A' M.length c' ∧ MD (k + i) ((ps.take i).flatMap PX.ts) M ∧ Hp w [.row A' M.length c' 96 4 (az TR.cells M), .blk b2 24 [.int .i64 0, .slice none 0 0] (0, 0)] w')
   (fun _ x _ => n - (intOf x).toNat) ?_ ?_
  ·exact ⟨0, [], none, 0, T6 _, rfl, rfl, MD.self Xj (fun t ht => nomatch ht), hh⟩
  ·clear hh;rintro ρ' a_ x_ w' ⟨i, M, A', c', hi, rfl, rfl, hmd, hh⟩;have hfi : ((ps.take i).flatMap PX.ts).length ≤ i * 4096 := by
    have := yf (f := PX.ts) (B := 4096) (l := ps.take i) fun g hg => (ct (gy g (Wa hg))).2.1;rwa [Us, U0 TX] at this
   have hML := hmd.len;by_cases hlt : i < n
   ·obtain ⟨g, hx⟩ := ak (l := ps) (k := i) TX;have hmem := T7 hx;have hgl := hl g hmem;have hge := ct (gy g hmem);have hgc := hgl.cap;have hgn := hgl.n;refine sr ?_;refine dO ?_;refine cu ?_;refine Km ?_;refine bV hh ?_;intro b7 w7 hh;refine bW hh 0 [_,_] ?_;intro ws hh;replace hh : Hp _ (.blk _ _ [_, _] _ :: _) _ := hh;refine aa (ao (mL (bH ?_)));refine bG hh 0 ?_;refine aF (pZ A' M.length c' M g.A g.n g.c g.ts (k + i) _ (hT.hp hh) (hh.aC (i := 1) rfl) ((hf g hmem).ext hh.below) (hh.e8 (i := 1) rfl) hgc TX hgn TX hmd.rL hge.2.2.2.rL hmd.ok (hgl.ok.mono TX)) al.out rfl TY ?_;rintro e_ w23 ⟨L2, A2, c2, hm2, rfl, h3⟩;refine ⟨_, rfl, ?_⟩;replace hh := hh.join h3;simp only [Ud, Ub] at hh;refine kN ?_;refine bj (mI (aA (ai ?_)));replace hh := hh.sub (T4 _ (T8 _ (T8 _ (T4 _ UA))));refine ⟨⟨i + 1, L2, A2, c2, TX, rfl, rfl, ?_, hh⟩, by show n - (i + 1) < n - i; omega, ?_⟩
    ·rw [FR hx];exact hmd.H3 (MD.self hge.2.2.2.rL (hgl.ok.mono TX : iI (k + i) g.ts)) hm2 TX
    ·exact dQ
   ·obtain rfl : i = n := TX;rw [T9 TX] at hmd hfi hML;have hgM : aE M = aE (BB ps) := yF hmd.co;have hgE := B6 hgM;refine sr ?_;refine nF ?_;refine Di ?_;refine p6 ?_;refine bT aK.out rfl (cH hh.below ((hr.recAt PX.len h00) 0 _ rfl)) TY ?_;refine mL ?_;refine aF (kp _ A' M.length c' M (k + i) _ hT hh rfl TX TX hmd.ok) al.out rfl TY ?_;rintro e_ w30 ⟨g, og, rfl, hh⟩;refine ⟨_, rfl, ?_⟩;refine du ?_;refine du ?_;refine bW hh 1 [_,_] ?_;intro ws hh;replace hh : Hp _ (_ :: .blk _ _ [_, _] _ :: _) _ := hh;refine aI (aa (au ?_));refine EU ?_;rw [← hgE, ← hgM];exact Em
 ·rw [T3 h0];generalize eY ps = e at *;refine aj (N := 33) (l := [.slice L n c]) Tryz.func16 rfl rfl (by simp) ?_;refine sr ?_;refine bV hh ?_;intro b2 w2 hh;refine aI (aa (ah (sr (mL ?_))));refine bD hh (hlk _ (hT.hp hh) hh.below) rfl ?_;intro w9 hh;exact K7
def l0 (s : ByteArray) (i : Nat) : Int := match s.data.toList[i]? with | some c => c.toNat | none => 0
def Bz (l : List TR) (i : Nat) : Int := l.foldl (fun m t => max m (l0 t.m i)) 0
def l6 (m : Nat) (l : List TR) : List Int := (List.range m).map (Bz l)
def q9 (v : Int) (ts : List TR) : List Int := if fH v ts = 0 then l6 v.toNat ts else []
theorem fi (m : Nat) (l : List TR) : (l6 m l).length = m := by unfold l6; rw [Ug, V6]
theorem sv (l : List TR) (h : j < m) : (l6 m l)[j]? = some (Bz l j) := by
 unfold l6;rw [Ue, UY h]
 rfl
theorem uU (l : List TR) (t : TR) (i : Nat) : Bz (l ++ [t]) i = max (Bz l i) (l0 t.m i) := by unfold Bz; rw [Xi]; rfl
theorem HY {s : ByteArray} {i : Nat} {c : UInt8} (h : s.data.toList[i]? = some c) : l0 s i = c.toNat := by unfold l0; rw [h]
theorem Kz {A B : List α} {y : α} (h : A.length = B.length) (hy : B[j]? = some y) : (B.take j ++ A.drop j).set j y = B.take (j + 1) ++ A.drop (j + 1) := by
 have hj := (Uk.1 hy).1;have hl : (B.take j).length = j := by rw [Us]; omega
 obtain ⟨x, hx⟩ := ak (l := A) (k := j) TX;rw [gJ hx, ay hy, V3 _ _ TX, hl, UW];simp
theorem LV {A B : List α} {x : α} (h : A.length = B.length) (hx : A[j]? = some x) : (B.take j ++ A.drop j)[j]? = some x := by
 have hj := (Uk.1 hx).1;have hl : (B.take j).length = j := by rw [Us]; omega
 rw [Vg TX, hl, UW, VD, Vu, hx]
theorem H7 (m : Nat) : fF m [.int .i64 0] = bJ (l6 m []) := by
 have h1 : ∀ n, fF n [.int .i64 0] = bJ (List.replicate n 0) := fun n => by
  induction n with
  | zero => rfl
  | succ n ih => rw [fF, ih, V9]; rfl
 rw [h1];congr 1;apply Ve;intro i;by_cases h : i < m
 ·rw [sv [] h, List.getElem?_replicate, T2 h]
  rfl
 ·rw [Uy (by rw [Vt]; omega), Uy (by rw [fi]; omega)]
theorem mA (p : PX) (k : Nat) (w : World) (hT : eh w) (hp : p.at_ w) (lp : p.l9 k) :
  Calls Tryz.prog 82 #[.agg #[.int .i64 p.v, .slice p.A p.n p.c]] w fun r w' => ∃ A c, r = .returned (.slice A (q9 p.v p.ts).length c) ∧ Hp w [.row A (q9 p.v p.ts).length c 3 1 (bJ (q9 p.v p.ts))] w' := by
 have hh := Hp.start w;have hck := fun w1 hT1 hb => mO p k w1 hT1 (hp.ext hb) lp;by_cases h0 : p.e = 0
 ·rw [show q9 p.v p.ts = l6 p.v.toNat p.ts from T2 h0, fi];rw [h0] at hck;obtain ⟨hf, h4, hmy, _⟩ := ct h0;have hpl : p.ts.length = p.n := hp.ln;obtain ⟨pv, pA, pn, pc, ts⟩ := p;replace hf := iA.1 hf;replace hmy : ∀ t ∈ ts, eK pv t = true := hmy;replace hp : Sl w pA pn 4 (az TR.cells ts) := hp;have hsz : ∀ t ∈ ts, t.m.size ≤ 100000 := lp.sz;have hn := lp.n;replace hn : pn ≤ 1000000 := hn;replace hpl : ts.length = pn := hpl;obtain ⟨m, rfl⟩ : ∃ m : Nat, pv = (m : Int) := ⟨pv.toNat, by show pv = _; have : 0 ≤ pv := hf.1; omega⟩;replace hf : m ≤ 12 := by have h9 : (m : Int) ≤ 12 := hf.2; omega
  show Calls _ _ _ _ fun r w' => ∃ A c, r = .returned (.slice A m c) ∧ Hp w [.row A m c 3 1 (bJ (l6 m ts))] w';refine aj (N := 42) (l := [.agg #[.int .i64 m, .slice pA pn pc]]) Tryz.func82 rfl rfl (by simp) ?_;refine sr ?_;refine cD hh [_,_] ?_;intro b1 w1 hh;refine aL (aa (ah (sr ?_)));refine cG hh 0 [_,_] ?_;refine fJ ?_;intro w9 hh;refine dn (aa (cF (ar (ai (sr (bH ?_))))));refine bG hh 0 ?_;refine gi (n := m) hh rfl rfl TX TX bk.out aK.out rfl TX TX TY ?_;intro b13 w13 hh;refine aL (aa (ah (sr (bH ?_))));refine bG hh 1 ?_;refine aJ (mI (aa (aq ?_)));rw [H7] at hh;refine aP [5, 6, 7, 17, 18, 19, 20, 21, 22, 23, 24, 25, 26, 27, 28, 29, 30, 31, 32, 33, 34, 35, 36, 37, 38, 39, 40] 17
   (fun v w' => ∃ i : Nat, i ≤ pn ∧ v = .int .i64 i ∧ Hp w [.row (some ⟨b13, 0, none⟩) m m 3 1 (bJ (l6 m (ts.take i))), .blk b1 24 [.int .i64 m, .slice pA pn pc] (0, 0)] w')
   (fun v _ => pn - (intOf v).toNat) ?_ ?_
  ·exact ⟨0, T6 _, rfl, hh⟩
  ·clear hh;rintro ρ' v w' ⟨i, hi, rfl, hh⟩;by_cases hlt : i < pn
   ·obtain ⟨x, hx⟩ := ak (l := ts) (k := i) TX;obtain ⟨ad, rfl, hr⟩ := hp.at_ TX;have hxm := T7 hx;have hxs := hsz x hxm;have hmx := V8.1 (hmy x hxm);have hxz : x.m.size = m := by have := Vv hmx.2; omega
    have hxl : x.m.data.toList.length = m := by rw [← dE]; exact hxz
    have hex : iy x.m.data.toList = ints x.m.data.toList := jE hmx.1;have hel : (iy x.m.data.toList).length = m := by rw [hex, cX]; exact hxl
    have hBl : (l6 m (ts.take i)).length = (l6 m (ts.take (i + 1))).length := by rw [fi, fi]
    refine sr ?_;refine dO ?_;refine cu ?_;refine ra ?_;refine bV hh ?_;intro b5 w5 hh;refine bW hh 0 [_,_,_,_] ?_;intro ws hh;replace hh : Hp _ (.blk _ _ [_, _, _, _] _ :: _) _ := hh;refine aa (sr (bH ?_));refine bG hh 0 ?_;refine aF (gR x.m _ hxs) al.out rfl TY ?_;rintro e_ w23 ⟨A23, c23, rfl, hown_, hb_⟩;refine ⟨_, rfl, ?_⟩;replace hh := hh.aW (x := .row _ _ _ _ _ _) hb_ hown_;rw [hel] at hh ⊢;refine aJ (mI (aa (aq ?_)));refine aP [6, 7, 25, 26, 27, 28, 29, 30, 31, 32, 33, 34, 35, 36, 37, 38, 39] 25
     (fun v w' => ∃ j : Nat, j ≤ m ∧ v = .int .i64 j ∧ Hp w [.row A23 m c23 3 1 (bJ (iy x.m.data.toList)), .blk b5 96 [.string x.m, .bool x.c.neg, .string x.c.bz, .int .i64 x.c.e] (0, 0), .row (some ⟨b13, 0, none⟩) m m 3 1 (bJ ((l6 m (ts.take (i + 1))).take j ++ (l6 m (ts.take i)).drop j)), .blk b1 24 [.int .i64 m, .slice (some ad) pn pc] (0, 0)] w')
     (fun v _ => m - (intOf v).toNat) ?_ ?_
    ·exact ⟨0, T6 _, rfl, hh⟩
    ·clear hh;rintro ρ2 v w2 ⟨j, hj, rfl, hh⟩;by_cases hjn : j < m
     ·obtain ⟨e, he⟩ := ak (l := x.m.data.toList) (k := j) TX;have hee : (iy x.m.data.toList)[j]? = some (e.toNat : Int) := by rw [hex]; exact Lh he
      have ho := LV hBl (sv (ts.take i) hjn);have hset := Kz hBl (sv (ts.take (i + 1)) hjn);have hmx2 : Bz (ts.take (i + 1)) j = max (Bz (ts.take i) j) (e.toNat : Int) := by rw [ay hx, uU, HY he]
      rw [hmx2] at hset;have hol : ((l6 m (ts.take (i + 1))).take j ++ (l6 m (ts.take i)).drop j).length = m := by rw [Ua, Us, Vn, fi, fi]; omega
      generalize (l6 m (ts.take (i + 1))).take j ++ (l6 m (ts.take i)).drop j = M at *;have hee2 := cj hee;have ho2 := cj ho;have hll : (bJ M).length = m := by rw [bX]; exact hol
      obtain ⟨g, rfl⟩ := hh.cB (i := 0) rfl TX;refine sr ?_;refine ek ?_;refine rj ?_;refine jn ?_;refine aI (aI (aa (ao (mL (mI (mL (mI ?_)))))));refine rj ?_;refine bT aK.out rfl (hh.fh (i := 2) rfl (by first | assumption | (simp only [Uo]; assumption))) TY ?_;refine mI ?_;refine kQ rfl rfl TY ?_;refine uD ?_;have hmv : (if (e.toNat : Int) > Bz (ts.take i) j then (e.toNat : Int) else Bz (ts.take i) j) = max (Bz (ts.take i) j) (e.toNat : Int) := by split <;> omega
      refine bO hh (i := 2) (vs := [_]) rfl rfl (cJ rfl) rfl aK.out rfl TX rfl ?_;intro ws hh;simp only [Uh, UH] at hh;rw [hmv, rn _ (by rw [← bX]; omega), hset] at hh;refine fM ?_;refine bj (mI (aA (ai ?_)));refine ⟨⟨j + 1, TX, rfl, hh⟩, by show m - (j + 1) < m - j; omega, ?_⟩;exact dQ
     ·obtain rfl : j = m := TX;rw [T9 (by rw [fi]; omega), Vz (by rw [fi]; omega), UF] at hh;refine sr ?_;refine y7 ?_;refine bj (mI (aA (ai ?_)));replace hh := hh.sub (T8 _ (T8 _ (T4 _ (T4 _ UA))));refine ⟨⟨i + 1, TX, rfl, hh⟩, by show pn - (i + 1) < pn - i; omega, ?_⟩;exact dQ
   ·obtain rfl : i = pn := TX;rw [T9 TX] at hh;exact R5
 ·rw [show q9 p.v p.ts = [] from T3 h0];refine aj (N := 42) (l := [.agg #[.int .i64 p.v, .slice p.A p.n p.c]]) Tryz.func82 rfl rfl (by simp) ?_;refine sr ?_;refine cD hh [_,_] ?_;intro b1 w1 hh;refine aL (aa (ah (sr ?_)));refine cG hh 0 [_,_] ?_;refine fJ ?_;intro w9 hh;refine dn (aa (cT (sr (aL (aa (au (aG ?_)))))));refine cZ ?_;exact ⟨none, 0, rfl, (hh.sub (Vh _)).de 3 1⟩
def kJ (b : List SR) : Int := if b.any (fun s => !decide (s.lo.d < s.hi.d)) then 5 else if b.length = 0 then 1 else 0
theorem My (x y : Dyadic) : (0 ≤ kZ x y) ↔ ¬ x < y := by
 rcases QY x y with h | h | h
 ·rw [CP h]; exact ⟨fun h2 => by omega, fun h2 => absurd h h2⟩
 ·rw [h, Gn]; exact ⟨fun _ => by grind, fun _ => by omega⟩
 ·rw [B5 h]; exact ⟨fun _ => by grind, fun _ => by omega⟩
theorem pF (L : Option Addr) (n c : Nat) (b : List SR) (w : World) (hT : eh w) (hS : Sl w L n 6 (az SR.cells b)) (hb : ∀ s ∈ b, s.ok) (hn : n ≤ 1000000) :
  Calls Tryz.prog 115 #[.slice L n c] w fun r w' => r = .returned (.int .i64 (kJ b)) ∧ Below w.heap.size w w' := by
 have hh := Hp.start w;have hln := hS.bq SR.len TY;refine aj (N := 21) (l := [.slice L n c]) Tryz.func115 rfl rfl (by simp) ?_;refine za ?_;refine aP [2, 4, 7, 8, 9, 10, 11, 12, 13, 14, 15, 16, 17] 7
  (fun v w' => ∃ i : Nat, i ≤ n ∧ v = .int .i64 i ∧ (b.take i).any (fun s => !decide (s.lo.d < s.hi.d)) = false ∧ Hp w [] w')
  (fun v _ => n - (intOf v).toNat) ?_ ?_
 ·exact ⟨0, T6 _, rfl, rfl, hh⟩
 ·clear hh;rintro ρ' v w' ⟨i, hi, rfl, hall, hh⟩;by_cases hlt : i < n
  ·obtain ⟨s, hs⟩ := ak (l := b) (k := i) TX;have ms := T7 hs;obtain ⟨ad, rfl, hr⟩ := hS.at_ TX;have hc := fun w1 hT1 => nY s.lo s.hi w1 hT1 (hb s ms).1 (hb s ms).2;have e := My s.lo.d s.hi.d;generalize kZ s.lo.d s.hi.d = cc at *;by_cases g : 0 ≤ cc
   ·refine sr ?_;refine dO ?_;refine cu ?_;refine Jf ?_;refine bV hh ?_;intro b4 w4 hh;refine bW hh 0 [_,_,_,_,_,_] ?_;intro ws hh;replace hh : Hp _ (.blk _ _ [_, _, _, _, _, _] _ :: _) _ := hh;refine aa (sr (bH ?_));refine cG hh 0 [_,_,_] (bH ?_);refine cG hh 0 [_,_,_] ?_;refine bD hh (hc _ (hT.hp hh)) rfl ?_;intro w15 hh;refine dW (aa (cT (sr (aI (aa (au (cd (aG (aG (cd (aG ?_)))))))))));refine cZ ?_;have : b.any (fun s => !decide (s.lo.d < s.hi.d)) = true := VS.2 ⟨s, ms, by rw [UB (e.1 g)]; rfl⟩;exact ⟨by rw [kJ, T2 this], hh.below⟩
   ·refine sr ?_;refine dO ?_;refine cu ?_;refine Jf ?_;refine bV hh ?_;intro b4 w4 hh;refine bW hh 0 [_,_,_,_,_,_] ?_;intro ws hh;replace hh : Hp _ (.blk _ _ [_, _, _, _, _, _] _ :: _) _ := hh;refine aa (sr (bH ?_));refine cG hh 0 [_,_,_] (bH ?_);refine cG hh 0 [_,_,_] ?_;refine bD hh (hc _ (hT.hp hh)) rfl ?_;intro w15 hh;refine dW (aa (cF (ar (bE (ai (ao ?_))))));refine bj (mI (aA (ai ?_)));replace hh := hh.sub (T8 _ UA);refine ⟨⟨i + 1, TX, rfl, ?_, hh⟩, by show n - (i + 1) < n - i; omega, ?_⟩
    ·rw [ay hs, WO, hall, U4, WQ, W6, Bool.or_false, Um (by have : ¬ ¬ s.lo.d < s.hi.d := fun h => g (e.2 h); exact Wc.1 this)]
     rfl
    ·exact dQ
  ·rw [T9 TX] at hall;by_cases h0 : n = 0
   ·refine sr ?_;refine bg (aa (ah (cF (a6 (aD (aD (bB (ai (ah (sr (mL (aJ ?_))))))))))));refine E6 ?_;refine cZ ?_;exact ⟨by rw [kJ, hall, T3 (by simp), T2 TX], hh.below⟩
   ·refine sr ?_;refine bg (aa (ah (cF (a6 (aD (aD (bB (ai (ah (sr (mL (aJ ?_))))))))))));refine db (aa (cF (ar (ai (sr (aI (aa (au ?_))))))));refine cZ ?_;exact ⟨by rw [kJ, hall, T3 (by simp), T3 TX], hh.below⟩
theorem rG (L : Option Addr) (n c : Nat) (b : List SR) (w : World) (hT : eh w) (hS : Sl w L n 6 (az SR.cells b)) (hb : ∀ s ∈ b, s.ok) (hn : n ≤ 1000000) :
  Calls Tryz.prog 96 #[.slice L n c] w fun r w' => ∃ A c', r = .returned (.slice A n c') ∧ w'.ownsRow w.heap.size 81 6 (.slice A n c') n (az SR.cells (b.map SR.f)) ∧ Below w.heap.size w w' := by
 have hh := Hp.start w;have hln := hS.bq SR.len TY;refine aj (N := 19) (l := [.slice L n c]) Tryz.func96 rfl rfl (by simp) ?_;refine sr (aL (aa (sr (aL (aa (ah (sr (mL (aJ (mI (aa (aq ?_))))))))))));replace hh := hh.de 81 6;refine bK [3, 5, 8, 9, 10, 11, 12, 13, 14, 15, 16, 17] 3 8
  (fun v3 v w' => ∃ (i c3 : Nat) (A : Option Addr), i ≤ n ∧ v = .int .i64 i ∧ v3 = .slice A i c3 ∧ Hp w [.row A i c3 81 6 (az SR.cells ((b.take i).map SR.f))] w')
  (fun _ v _ => n - (intOf v).toNat) ?_ ?_
 ·exact ⟨0, 0, none, T6 _, rfl, rfl, hh⟩
 ·clear hh;rintro ρ' v3 v w' ⟨i, c3, A, hi, rfl, rfl, hh⟩;by_cases hlt : i < n
  ·obtain ⟨s, hs⟩ := ak (l := b) (k := i) TX;have ms := T7 hs;obtain ⟨ad, rfl, hr⟩ := hS.at_ TX;refine sr ?_;refine dO ?_;refine cu ?_;refine Jf ?_;refine bV hh ?_;intro b5 w5 hh;refine bW hh 0 [_,_,_,_,_,_] ?_;intro ws hh;replace hh : Hp _ (.blk _ _ [_, _, _, _, _, _] _ :: _) _ := hh;refine aa (ao (mL ?_));refine cG hh 0 [_,_,_,_,_,_] ?_;refine bD hh (xi s _ (hT.hp hh) (hb s ms)) rfl ?_;intro w14 hh;refine On ?_;intro b15 w15 hh;refine Nf ?_;intro A16 c16 w16 hh;simp only [Uh, UH] at hh;replace hh := hh.sub (UM _ _);refine kN ?_;refine bj (mI (aA (ai ?_)));replace hh := hh.sub (T8 _ (T4 _ UA));refine ⟨⟨i + 1, c16, A16, TX, rfl, rfl, ?_⟩, by show n - (i + 1) < n - i; omega, ?_⟩
   ·rw [ay hs, UU, bY];exact hh
   ·exact dQ
  ·obtain rfl : i = n := TX;rw [T9 TX] at hh;exact OV
def hasB (b : List SR) (p : List NR) : Bool := decide (b.length = p.length) && (b.zip p).all fun x => x.1.has x.2.d
def R8 (a b : List SR) : Bool := decide (a.length = b.length) && (a.zip b).all fun x => x.2.has x.1.lo.d && x.2.has x.1.hi.d
def CJ (dg ds : List Int) : Bool := (dg.zip ds).any fun q => decide (q.2 < q.1 ∨ 127 < q.2)
def pL (p : PX) (b : List SR) (ds : List Int) : Int :=
 if p.e ≠ 0 then p.e else if kJ b ≠ 0 then kJ b else if (b.length : Int) ≠ p.v ∨ (ds.length : Int) ≠ p.v then 1 else if CJ (q9 p.v p.ts) ds = true then 1 else if gM 1 ds = 0 then 3 else 0
theorem D9 {a : List α} {b : List β} {i : Nat} {x : α} {y : β} (hx : a[i]? = some x) (hy : b[i]? = some y) : (a.zip b)[i]? = some (x, y) := by
 rw [List.getElem?_zip_eq_some];exact ⟨hx, hy⟩
theorem uN (p : PX) (L : Option Addr) (n c : Nat) (b : List SR) (M : Option Addr) (m mc : Nat) (ds : List Int) (k : Nat) (w : World) (hT : eh w) (hp : p.at_ w) (lp : p.l9 k) (hB : Sl w L n 6 (az SR.cells b)) (hb : ∀ s ∈ b, s.ok) (hn : n ≤ 1000000) (hD : Sl w M m 1 (bJ ds)) (hm : m ≤ 1000000) :
  Calls Tryz.prog 87 #[.agg #[.int .i64 p.v, .slice p.A p.n p.c], .slice L n c, .slice M m mc] w fun r w' => r = .returned (.int .i64 (pL p b ds)) ∧ Below w.heap.size w w' := by
 have hh := Hp.start w;have hck := fun w1 hT1 hb => mO p k w1 hT1 (hp.ext hb) lp;have hbk := fun w1 hT1 hb1 => pF L n c b w1 hT1 (hB.ext hb1) hb hn;have hdg := fun w1 hT1 hb => mA p k w1 hT1 (hp.ext hb) lp;have hbl : b.length = n := hB.bq SR.len TY;have hdl : ds.length = m := by have := hD.1; rw [bX] at this; omega
 unfold pL;by_cases h0 : p.e ≠ 0
 ·rw [T2 h0];generalize p.e = e at *;refine AE ?_;refine sr ?_;refine cD hh [_,_] ?_;intro b3 w3 hh;refine aI (aa (ah (sr ?_)));refine cG hh 0 [_,_] ?_;refine fJ ?_;intro w12 hh;exact Pr
 ·rw [T3 h0];have hpe : p.e = 0 := TX;rw [hpe] at hck;by_cases h1 : kJ b ≠ 0
  ·rw [T2 h1];generalize kJ b = e at *;refine AE ?_;refine sr ?_;refine cD hh [_,_] ?_;intro b3 w3 hh;refine aI (aa (ah (sr ?_)));refine cG hh 0 [_,_] ?_;refine fJ ?_;intro w12 hh;refine aI (aa (sr (mI ?_)));refine uz ?_;refine bD hh (hbk _ (hT.hp hh) hh.below) rfl ?_;intro w17 hh;exact Pr
  ·rw [T3 h1];rw [show kJ b = 0 by omega] at hbk;by_cases h2 : (b.length : Int) ≠ p.v
   ·rw [T2 (.inl h2)];refine AE ?_;refine sr ?_;refine cD hh [_,_] ?_;intro b3 w3 hh;refine aI (aa (ah (sr ?_)));refine cG hh 0 [_,_] ?_;refine fJ ?_;intro w12 hh;refine aI (aa (sr (mI ?_)));refine uz ?_;refine bD hh (hbk _ (hT.hp hh) hh.below) rfl ?_;intro w17 hh;refine aI (aa (sr (mI ?_)));refine rz ?_;refine bG hh 0 ?_;refine dn (mB ?_);refine gS (gS (gS (gS (gS ?_))));refine fL ?_;exact Ki
   ·by_cases h3 : (ds.length : Int) ≠ p.v
    ·rw [T2 (.inr h3)];refine AE ?_;refine sr ?_;refine cD hh [_,_] ?_;intro b3 w3 hh;refine aI (aa (ah (sr ?_)));refine cG hh 0 [_,_] ?_;refine fJ ?_;intro w12 hh;refine aI (aa (sr (mI ?_)));refine uz ?_;refine bD hh (hbk _ (hT.hp hh) hh.below) rfl ?_;intro w17 hh;refine aI (aa (sr (mI ?_)));refine rz ?_;refine bG hh 0 ?_;refine dn (mB (gT (mL (gT (aJ (gT (bH (gT ?_))))))));refine bG hh 0 ?_;refine gT ?_;refine dn ?_;refine e7 ?_;exact Ki
    ·rw [T3 (fun h => h.elim h2 h3)];have hgl : (q9 p.v p.ts).length = m := by
      unfold q9;rw [T2 (show fH p.v p.ts = 0 from hpe), fi];omega
     have hzl : ((q9 p.v p.ts).zip ds).length = m := by rw [List.length_zip]; omega
     have hbd : CJ (q9 p.v p.ts) ds = ((q9 p.v p.ts).zip ds).any fun q => decide (q.2 < q.1 ∨ 127 < q.2) := rfl;generalize q9 p.v p.ts = dg at *;rw [hgl] at hdg;refine AE ?_;refine sr ?_;refine cD hh [_,_] ?_;intro b3 w3 hh;refine aI (aa (ah (sr ?_)));refine cG hh 0 [_,_] ?_;refine fJ ?_;intro w12 hh;refine aI (aa (sr (mI ?_)));refine uz ?_;refine bD hh (hbk _ (hT.hp hh) hh.below) rfl ?_;intro w17 hh;refine aI (aa (sr (mI ?_)));refine rz ?_;refine bG hh 0 ?_;refine dn (mB (gT (mL (gT (aJ (gT (bH (gT ?_))))))));refine bG hh 0 ?_;refine gT ?_;refine dn ?_;refine e7 ?_;refine aa (cF (ar (ai (ah (sr ?_)))));refine cG hh 0 [_,_] ?_;refine aF (hdg _ (hT.hp hh) hh.below) al.out rfl TY ?_;rintro e_ w34 ⟨G, gc, rfl, h4⟩;refine ⟨_, rfl, ?_⟩;replace hh := hh.join h4;simp only [Ud, Ub] at hh;refine aJ (mI (aa (aq ?_)));refine aP [6, 9, 10, 36, 37, 38, 39, 40, 41, 42, 43, 44, 45, 46, 47, 48, 49, 50, 51, 52, 53, 54] 36
      (fun v w' => ∃ i : Nat, i ≤ m ∧ v = .int .i64 i ∧ ((dg.zip ds).take i).any (fun q => decide (q.2 < q.1 ∨ 127 < q.2)) = false ∧ Hp w [.row G m gc 3 1 (bJ dg), .blk b3 24 [.int .i64 p.v, .slice p.A p.n p.c] (0, 0)] w')
      (fun v _ => m - (intOf v).toNat) ?_ ?_
     ·exact ⟨0, T6 _, rfl, rfl, hh⟩
     ·clear hh;rintro ρ' v w' ⟨i, hi, rfl, hall, hh⟩;by_cases hlt : i < m
      ·obtain ⟨x, hx⟩ := ak (l := dg) (k := i) TX;obtain ⟨y, hy⟩ := ak (l := ds) (k := i) TX;have hz := D9 hx hy;have hx2 := cj hx;have hy2 := cj hy;have hll : (bJ dg).length = m := by rw [bX]; exact hgl
       obtain ⟨ad, rfl, hr⟩ := hD.at_ TX;obtain ⟨g0, rfl⟩ := hh.cB (i := 0) rfl TX;by_cases hxy : y < x
       ·refine sr ?_;refine ek ?_;refine gk ?_;refine jn ?_;refine aI (aI (aa (sr (mL (mI ?_)))));refine cu ?_;refine ze ?_;refine mI ?_;refine bg (mB ?_);refine gS (gS (gS (gS (gS ?_))));refine fL ?_;refine Dh ?_;refine cZ ?_;rw [T2 (by rw [hbd]; exact VS.2 ⟨_, T7 hz, Um (.inl hxy)⟩)];exact ⟨rfl, hh.below⟩
       ·by_cases hy7 : 127 < y
        ·refine sr ?_;refine ek ?_;refine gk ?_;refine jn ?_;refine aI (aI (aa (sr (mL (mI ?_)))));refine cu ?_;refine ze ?_;refine mI ?_;refine bg (mB (gT (mL (gT (mI (gT ?_))))));refine cu ?_;refine aH rfl rfl ?_;refine ze ?_;refine gT ?_;refine cm ?_;refine e7 ?_;refine Dh ?_;refine cZ ?_;rw [T2 (by rw [hbd]; exact VS.2 ⟨_, T7 hz, Um (.inr hy7)⟩)];exact ⟨rfl, hh.below⟩
        ·refine sr ?_;refine ek ?_;refine gk ?_;refine jn ?_;refine aI (aI (aa (sr (mL (mI ?_)))));refine cu ?_;refine ze ?_;refine mI ?_;refine bg (mB (gT (mL (gT (mI (gT ?_))))));refine cu ?_;refine aH rfl rfl ?_;refine ze ?_;refine gT ?_;refine cm ?_;refine e7 ?_;refine wv ?_;refine bj (mI (aA (ai ?_)));refine ⟨⟨i + 1, TX, rfl, by rw [ay hz, WO, hall, WQ, W6, UB (fun h => h.elim hxy hy7)]; rfl, hh⟩, by show m - (i + 1) < m - i; omega, ?_⟩;exact dQ
      ·rw [T9 TX] at hall;rw [T3 (by rw [hbd, hall]; decide)];have hcn := fun w1 hb => eF M m mc ds w1 (hD.ext hb) hm;refine sr ?_;refine bg (aa (ah (cF (a6 (aD (aD (bB (ai (ah (sr (mL ?_)))))))))));by_cases h9 : gM 1 ds = 0
       ·rw [T2 h9];rw [h9] at hcn;refine bD hh (hcn _ hh.below) rfl ?_;intro w56 hh;refine E6 ?_;refine cZ ?_;exact ⟨rfl, hh.below⟩
       ·rw [T3 h9];generalize gM 1 ds = N at *;refine bD hh (hcn _ hh.below) rfl ?_;intro w56 hh;refine db (aa (cF (ar (ai (sr (aI (aa (au ?_))))))));refine cZ ?_;exact ⟨rfl, hh.below⟩
theorem Iq {q : List TR} (h : 65536 < p.length * q.length) : eZ p q = 3 := by unfold eZ; rw [T2 h]
theorem L7 {q : List TR} {e : Int} (h6 : ¬ 65536 < p.length * q.length) {a b : List Int} (h : qW p q = a ++ e :: b) (ha : ∀ x ∈ a, x = 0) (he : e ≠ 0) : eZ p q = e := by
 unfold eZ;rw [T3 h6, h, List.find?_append, iS (Vy.2 fun x hx => by simp [ha x hx]), List.find?_cons_of_pos (p := fun e : Int => decide (e ≠ 0)) (by simpa using he)]
 rfl
theorem Ah {q : List TR} (h6 : ¬ 65536 < p.length * q.length) (h : ∀ x ∈ qW p q, x = 0) : eZ p q = gp (cg p q) := by
 unfold eZ gp;rw [T3 h6, iS (Vy.2 fun x hx => by simp [h x hx])]
theorem xW (p q : PX) (k k2 : Nat) (w : World) (hT : eh w) (hp : p.at_ w) (hq : q.at_ w) (lp : p.l9 k) (lq : q.l9 k2) (hk : k + k2 ≤ 900000) :
  Calls Tryz.prog 80 #[.agg #[.int .i64 p.v, .slice p.A p.n p.c], .agg #[.int .i64 q.v, .slice q.A q.n q.c]] w fun r w' => ∃ g : PX, eX (eZ p.ts q.ts) p.v (aE (cg p.ts q.ts)) g ∧ r = .returned (.tuple #[.agg #[.int .i64 g.v, .slice g.A g.n g.c], .int .i64 (eZ p.ts q.ts)]) ∧ Hp w [g.row] w' := by
 have hh := Hp.start w;obtain ⟨pv, pA, pn, pc, ps⟩ := p;obtain ⟨qv, qA, qn, qc, qs⟩ := q;have hpl : ps.length = pn := hp.ln;have hql : qs.length = qn := hq.ln;have hpn : pn ≤ 1000000 := lp.n;have hqn : qn ≤ 1000000 := lq.n;have okp : iI k ps := lp.ok;have okq : iI k2 qs := lq.ok;have szp : ∀ t ∈ ps, t.m.size ≤ 100000 := lp.sz;have szq : ∀ t ∈ qs, t.m.size ≤ 100000 := lq.sz;replace hp : Sl w pA pn 4 (az TR.cells ps) := hp;replace hq : Sl w qA qn 4 (az TR.cells qs) := hq;clear lp lq;show Calls _ _ _ _ fun r w' => ∃ g : PX, eX (eZ ps qs) pv (aE (cg ps qs)) g ∧ r = .returned (.tuple #[.agg #[.int .i64 g.v, .slice g.A g.n g.c], .int .i64 (eZ ps qs)]) ∧ Hp w [g.row] w';have hmm : pn * qn ≤ 1000000 * 1000000 := Vs hpn hqn;obtain ⟨m, hm⟩ : ∃ m, m = pn * qn := ⟨_, rfl⟩;have hmi : (pn : Int) * (qn : Int) = (m : Int) := by rw [hm]; exact (Vm _ _).symm
 by_cases h6 : 65536 < m
 ·rw [Iq (by rw [hpl, hql, ← hm]; exact h6)];refine aj (N := 67) (l := [.agg #[.int .i64 pv, .slice pA pn pc], .agg #[.int .i64 qv, .slice qA qn qc]]) Tryz.func80 rfl rfl (by simp) ?_;refine sr ?_;refine cD hh [_,_] ?_;intro b2 w2 hh;refine cD hh [_,_] ?_;intro b3 w3 hh;refine bV hh ?_;intro b4 w4 hh;refine aI (aa (ah (sr (bH ?_))));refine bG hh 2 ?_;refine aJ (bH ?_);refine bG hh 1 ?_;refine aJ ?_;refine mulC ?_;refine cm (aa (cT (sr ?_)));exact Lm
 ·have hbig : ¬ 65536 < ps.length * qs.length := by rw [hpl, hql, ← hm]; exact h6
  refine aj (N := 67) (l := [.agg #[.int .i64 pv, .slice pA pn pc], .agg #[.int .i64 qv, .slice qA qn qc]]) Tryz.func80 rfl rfl (by simp) ?_;refine sr ?_;refine cD hh [_,_] ?_;intro b2 w2 hh;refine cD hh [_,_] ?_;intro b3 w3 hh;refine bV hh ?_;intro b4 w4 hh;refine aI (aa (ah (sr (bH ?_))));refine bG hh 2 ?_;refine aJ (bH ?_);refine bG hh 1 ?_;refine aJ ?_;refine mulC ?_;refine cm (aa (cF (ar (ai (sr (aL (aa (ah (sr (bH ?_))))))))));refine bG hh 2 ?_;refine aJ (mI (aa (aq ?_)));replace hh := hh.de 96 4;have hall : ∀ i, ((ps.take i).flatMap fun x => qs.map (qI x)).length ≤ 65536 := fun i => by
   have h1 : (cg ps qs).length = ((ps.take i).flatMap fun x => qs.map (qI x)).length + ((ps.drop i).flatMap fun x => qs.map (qI x)).length := by
    unfold cg;rw [← Ua, ← Xk, UZ]
   rw [jF] at h1;omega
  refine bK [5, 6, 8, 10, 11, 12, 25, 26, 27, 28, 29, 30, 31, 32, 33, 34, 35, 36, 37, 38, 39, 40, 41, 42, 43, 44, 45, 46, 47, 48, 49, 50, 51, 52, 53, 54, 55, 56, 57, 58, 59, 60] 6 25
   (fun a x w' => ∃ (i : Nat) (M : List TR) (A' : Option Addr) (c' : Nat), i ≤ pn ∧ x = .int .i64 i ∧ a = .slice A' M.length c' ∧ M = ((ps.take i).flatMap fun x => qs.map (qI x)) ∧ (∀ e ∈ ((ps.take i).flatMap fun x => qs.map fun y => mm x.m y.m), e = 0) ∧ Hp w [.row A' M.length c' 96 4 (az TR.cells M), .blk b4 24 [.int .i64 0, .slice none 0 0] (0, 0), .blk b3 24 [.int .i64 qv, .slice qA qn qc] (0, 0), .blk b2 24 [.int .i64 pv, .slice pA pn pc] (0, 0)] w')
   (fun _ x _ => pn - (intOf x).toNat) ?_ ?_
  ·exact ⟨0, [], none, 0, T6 _, rfl, rfl, rfl, fun e he => (nomatch he), hh⟩
  ·clear hh;rintro ρ' a_ x_ w' ⟨i, M, A', c', hi, rfl, rfl, hM, hz, hh⟩;have hMl := hall i;rw [← hM] at hMl;by_cases hlt : i < pn
   ·obtain ⟨x, hx⟩ := ak (l := ps) (k := i) TX;obtain ⟨ad, rfl, hr⟩ := hp.at_ TX;have hxm := T7 hx;have hxo := okp x hxm;have hxs := szp x hxm;refine sr ?_;refine dO ?_;refine cu ?_;refine ra ?_;refine bV hh ?_;intro b8 w8 hh;refine bW hh 0 [_,_,_,_] ?_;intro ws hh;replace hh : Hp _ (.blk _ _ [_, _, _, _] _ :: _) _ := hh;refine aa (sr (bH ?_));refine bG hh 3 ?_;refine aJ (mI (aa (aq ?_)));replace hh := hh.perm (U3 (l₁ := [_]));simp only [Ud, Ub] at hh;refine bK [5, 6, 10, 11, 12, 32, 33, 34, 35, 36, 37, 38, 39, 40, 41, 42, 43, 44, 45, 46, 47, 48, 49, 50, 51, 52, 53, 54, 55, 56, 57, 58, 59] 6 32
     (fun a z w' => ∃ (j : Nat) (N : List TR) (A' : Option Addr) (c' : Nat), j ≤ qn ∧ z = .int .i64 j ∧ a = .slice A' N.length c' ∧ N = M ++ (qs.take j).map (qI x) ∧ (∀ e ∈ (qs.take j).map (fun y => mm x.m y.m), e = 0) ∧ Hp w [.row A' N.length c' 96 4 (az TR.cells N), .blk b8 96 [.string x.m, .bool x.c.neg, .string x.c.bz, .int .i64 x.c.e] (0, 0), .blk b4 24 [.int .i64 0, .slice none 0 0] (0, 0), .blk b3 24 [.int .i64 qv, .slice qA qn qc] (0, 0), .blk b2 24 [.int .i64 pv, .slice (some ad) pn pc] (0, 0)] w')
     (fun _ z _ => qn - (intOf z).toNat) ?_ ?_
    ·refine ⟨0, M, A', c', T6 _, rfl, rfl, by simp, fun e he => (nomatch he), hh⟩
    ·clear hh;rintro ρ2 a2 x2 w2 ⟨j, N, A2, c2, hj, rfl, rfl, hN, hz2, hh⟩;by_cases hjn : j < qn
     ·obtain ⟨y, hy⟩ := ak (l := qs) (k := j) TX;obtain ⟨ad2, rfl, hr2⟩ := hq.at_ TX;have hym := T7 hy;have hyo := okq y hym;have hys := szq y hym;have hmul : ∀ w1, Calls Tryz.prog 165 #[.string x.m, .string y.m] w1 fun r w' => r = .returned (.tuple #[.string (mulM x.m y.m), .int .i64 (mm x.m y.m)]) ∧ Below w1.heap.size w1 w' := fun w1 => GS x.m y.m w1 hxs hys;have hdm := fun A cc w1 hT1 hS1 => eI A 2 cc [x.c, y.c] w1 hT1 hS1 (by simpa using ⟨hxo.1, hyo.1⟩) (k + k2) (by simpa using ⟨hxo.2.mono TX, hyo.2.mono TX⟩) TX TY;rw [show g8 ([x.c, y.c].map NR.d) = x.c.d * y.c.d by show 1 * x.c.d * y.c.d = _; rw [V4]] at hdm;obtain ⟨R, hR⟩ := BO (f := fun x y => mm x.m y.m) hx hy;have hzz : ∀ e ∈ ((ps.take i).flatMap fun x => qs.map fun y => mm x.m y.m) ++ (qs.take j).map (fun y => mm x.m y.m), e = 0 := fun e he => by
       rcases UD.1 he with he | he
       ·exact hz e he
       ·exact hz2 e he
      have hNl : N.length < 65536 := by
       have h1 := hall (i + 1);rw [qV hx, Ua, ← hM] at h1;rw [hN, Ua];simp at h1 ⊢;omega
      by_cases he : mm x.m y.m = 0
      ·refine sr ?_;refine dO ?_;refine oQ ?_;refine cw (vs := [_, _, _, _]) aK.out rfl ((hr2.ext hh.below).recAt TR.len hy) rfl TY ?_;refine bV hh ?_;intro b10 w10 hh;refine bW hh 0 [_,_,_,_] ?_;intro ws hh;replace hh : Hp _ (.blk _ _ [_, _, _, _] _ :: _) _ := hh;refine aa (sr (bH ?_));refine bG hh 2 ?_;refine bH ?_;refine bG hh 0 ?_;refine bD hh (hmul _) rfl ?_;intro w41 hh;refine mT ?_;refine du ?_;refine du ?_;refine aS (aI (aa (ah (sr (mI ?_)))));refine dn (aa (cF (ar (ai (ao (mL (mS (bH ?_))))))));refine cG hh 2 [_,_,_] (bH ?_);refine cG hh 0 [_,_,_] ?_;refine s9 ?_;intro b54 w54 hh;refine bD hh (hdm _ _ _ (hT.hp hh) (hh.aC (i := 0) rfl)) rfl ?_;intro w55 hh;refine gB [_,_,_,_] ?_;refine Bf ?_;intro b57 w57 hh;refine NL ?_;intro A58 c58 w58 hh;simp only [Uh, UH] at hh;replace hh := hh.sub (UM _ _);refine kN ?_;refine bj (mI (aA (ai ?_)));have e1 : az TR.cells N ++ [.string (mulM x.m y.m), .bool (nR (x.c.d * y.c.d)).neg, .string (nR (x.c.d * y.c.d)).bz, .int .i64 (nR (x.c.d * y.c.d)).e] = az TR.cells (N ++ [qI x y]) := by rw [bY, j5]; rfl
       replace hh := show Hp w (_ :: _ :: .row A58 (N.length + 1) c58 96 4 (az TR.cells N ++ [.string (mulM x.m y.m), .bool (nR (x.c.d * y.c.d)).neg, .string (nR (x.c.d * y.c.d)).bz, .int .i64 (nR (x.c.d * y.c.d)).e]) :: _) w58 from hh;rw [e1] at hh;replace hh := hh.sub (T8 _ (T8 _ (T4 _ (T4 _ (T4 _ (T4 _ (T4 _ UA)))))));refine ⟨⟨j + 1, N ++ [qI x y], _, _, TX, rfl, by rw [Ua]; rfl, by rw [hN, ay hy, UU, UI]; rfl, fun e h => ?_, ?_⟩, by show qn - (j + 1) < qn - j; omega, ?_⟩
       ·rw [ay hy, UU, UD] at h
        rcases h with h | h
        ·exact hz2 e h
        ·rw [Un.1 h]; exact he
       ·rw [Ua]; exact hh
       ·exact dQ
      ·rw [L7 hbig hR hzz he];generalize mm x.m y.m = e at *;refine sr ?_;refine dO ?_;refine oQ ?_;refine cw (vs := [_, _, _, _]) aK.out rfl ((hr2.ext hh.below).recAt TR.len hy) rfl TY ?_;refine bV hh ?_;intro b10 w10 hh;refine bW hh 0 [_,_,_,_] ?_;intro ws hh;replace hh : Hp _ (.blk _ _ [_, _, _, _] _ :: _) _ := hh;refine aa (sr (bH ?_));refine bG hh 2 ?_;refine bH ?_;refine bG hh 0 ?_;refine bD hh (hmul _) rfl ?_;intro w41 hh;refine mT ?_;refine du ?_;refine du ?_;refine aS (aI (aa (ah (sr (mI ?_)))));refine dn (aa (cT (sr ?_)));refine gB [_,_] (mI ?_);refine bW hh 3 [_,_] ?_;intro ws hh;replace hh : Hp _ (_ :: _ :: _ :: .blk _ _ [_, _] _ :: _) _ := hh;refine aI (aa (au (aG (cd (aG (aG (cd (cd (aG (aG (cd (aG ?_))))))))))));refine IV ?_;exact PF
     ·obtain rfl : j = qn := TX;rw [T9 TX] at hz2 hN;refine sr ?_;refine y7 ?_;refine bj (mI (aA (ai ?_)));replace hh := hh.sub (T4 _ (T8 _ (T4 _ (T4 _ (T4 _ UA)))));refine ⟨⟨i + 1, N, A2, c2, TX, rfl, rfl, by rw [qV hx, ← hM, T9 TX]; exact hN, fun e h => ?_, hh⟩, by show pn - (i + 1) < pn - i; omega, ?_⟩
      ·rw [qV (f := fun (x y : TR) => mm x.m y.m) hx, UD, WN] at h
       rcases h with h | h
       ·exact hz e h
       ·exact hz2 e h
      ·exact dQ
   ·obtain rfl : i = pn := TX;rw [T9 TX] at hz hM;have hMp : M = cg ps qs := hM;rw [Ah hbig hz, ← hMp];have hpo := o7 okp okq TX;rw [← hMp] at hpo;refine sr ?_;refine bg (aa (ah (cF (a6 (aD (aD (bB (ai (sr (bH ?_))))))))));refine bG hh 3 ?_;refine mL ?_;refine aF (kp pv A' M.length c' M (k + k2) _ hT hh rfl TX TX hpo) al.out rfl TY ?_;rintro e_ w64 ⟨g, og, rfl, hh⟩;refine ⟨_, rfl, ?_⟩;refine du ?_;refine du ?_;exact EP
variable {E : Int} {W w1 : World} {base : Nat} {fz : Nat × Nat}
def j7 (base : Nat) (E v : Int) (ts : List TR) : VP := fun x W => ∃ (g : PX) (w1 : World), x = .agg #[.int .i64 g.v, .slice g.A g.n g.c] ∧ eX E v ts g ∧ base ≤ w1.heap.size ∧ Hp w1 [g.row] W
theorem j7.ext {v : Int} (x : Value) (w w' : World) (h : j7 base E v ts x w) (hb : Below w.heap.size w w') : j7 base E v ts x w' := let ⟨g, w1, h1, h2, h3, h4⟩ := h; ⟨g, w1, h1, h2, h3, h4.ext hb⟩
def jR (base : Nat) (E v : Int) (ts : List TR) : VP := fun x W => ∃ (g : PX) (w1 : World), x = .tuple #[.agg #[.int .i64 g.v, .slice g.A g.n g.c], .int .i64 E] ∧ eX E v ts g ∧ base ≤ w1.heap.size ∧ Hp w1 [g.row] W
theorem jR.ext {v : Int} (x : Value) (w w' : World) (h : jR base E v ts x w) (hb : Below w.heap.size w w') : jR base E v ts x w' := let ⟨g, w1, h1, h2, h3, h4⟩ := h; ⟨g, w1, h1, h2, h3, h4.ext hb⟩
def zm (base : Nat) (v : Int) (ts : List TR) : VP := fun x W => ∃ (g : PX) (w1 : World), x = .slice g.A g.n g.c ∧ eX 0 v ts g ∧ base ≤ w1.heap.size ∧ Hp w1 [g.row] W
theorem zm.ext {v : Int} (x : Value) (w w' : World) (h : zm base v ts x w) (hb : Below w.heap.size w w') : zm base v ts x w' := let ⟨g, w1, h1, h2, h3, h4⟩ := h; ⟨g, w1, h1, h2, h3, h4.ext hb⟩
theorem PX.ne {g : PX} {b : Nat} {t : TypeId} {cs : Array Value} (h : Hp w1 [g.row] W) (h3 : W.heap[b]? = some (.cells cs t fz)) (h1 : 96 ≠ t) : ∀ x ∈ [g.row], x.id ≠ some b := fun x hx => by
 have hx2 := h.own x hx;obtain rfl := Un.1 hx;exact Kj hx2 h3 h1
def jk (a : List TR × Int) (g : PX) : List TR × Int := if a.2 = 0 then (aE (cg a.1 g.ts), eZ a.1 g.ts) else a
def Rq (ps : List PX) : List TR × Int := match ps with | [] => ([], 0) | g :: l => l.foldl jk (g.ts, 0)
def Er (ps : List PX) : Int := if eY ps = 0 then (Rq ps).2 else eY ps
theorem AJ {a : List TR × Int} (h : a.2 ≠ 0) : ∀ l : List PX, l.foldl jk a = a
 | [] => rfl
 | g :: l => by
  rw [Xo, show jk a g = a by unfold jk; rw [T3 h]];exact AJ h l
theorem Gc {l : List PX} {a : List TR × Int} {i : Nat} {g : PX} (hx : l[i]? = some g) (h0 : ((l.take i).foldl jk a).2 = 0) (h : eZ ((l.take i).foldl jk a).1 g.ts ≠ 0) : (l.foldl jk a).2 = eZ ((l.take i).foldl jk a).1 g.ts := by
 have e : l = l.take i ++ g :: l.drop (i + 1) := by rw [← gJ hx, UZ]
 have e2 : l.foldl jk a = (l.drop (i + 1)).foldl jk (jk ((l.take i).foldl jk a) g) := by
  conv => lhs; rw [e]
  rw [Xi, Xo]
 rw [e2];have e3 : jk ((l.take i).foldl jk a) g = (aE (cg ((l.take i).foldl jk a).1 g.ts), eZ ((l.take i).foldl jk a).1 g.ts) := T2 h0;rw [e3, AJ h]
theorem F6 {l : List PX} {a : List TR × Int} {i : Nat} {g : PX} (hx : l[i]? = some g) (h0 : ((l.take i).foldl jk a).2 = 0) : (l.take (i + 1)).foldl jk a = (aE (cg ((l.take i).foldl jk a).1 g.ts), eZ ((l.take i).foldl jk a).1 g.ts) := by
 rw [ay hx, Xi, Xo, List.foldl_nil];exact T2 h0
theorem E3 {q : List TR} (hp : iI k p) (hq : iI j q) (sq : ∀ t ∈ q, t.m.size ≤ 100000) (h : eZ p q = 0) (hk : k + j ≤ 900000) : iI (k + j + 65536) (aE (cg p q)) ∧ ∀ t ∈ aE (cg p q), t.m.size ≤ 100000 := by
 obtain ⟨h6, _, h4⟩ := j8 h;have ho := o7 hp hq TX;have hz := mP fun t ht => (ho t ht).2;rw [jF] at hz;refine ⟨fun t ht => ?_, fun t ht => ?_⟩
 ·have : Sz (k + j + 65536) t.c.d := (hz t ht).mono TX;refine ⟨?_, this⟩;rw [(eC _).nf t ht];exact this.ok TX
 ·obtain ⟨s, hs, e⟩ := fR t ht;obtain ⟨x, hx, hs⟩ := VY.1 hs;obtain ⟨y, hy, rfl⟩ := Ui.1 hs;rw [← e];exact Ur (GA _ _) (sq y hy)
theorem zI (L : Option Addr) (n c : Nat) (ps : List PX) (k s : Nat) (w : World) (hT : eh w) (hL : Sl w L n 2 (az PX.cells ps)) (hcn : n ≤ c) (hn : n ≤ 8) (hf : ∀ g ∈ ps, g.at_ w) (hl : ∀ g ∈ ps, g.l9 k) (hs : k + 65536 ≤ s) (hk : k + k + (n - 2) * s ≤ 900000) :
  Calls Tryz.prog 17 #[.slice L n c] w fun r w' => ∃ g : PX, eX (Er ps) (eW ps) (Rq ps).1 g ∧ r = .returned (.tuple #[.agg #[.int .i64 g.v, .slice g.A g.n g.c], .int .i64 (Er ps)]) ∧ Hp w [g.row] w' := by
 have hh := Hp.start w;have hln := hL.bq PX.len TY;have hlk := fun w1 hT1 hb => qX L n c ps k w1 hT1 (hL.ext hb) TX (fun g hg => (hf g hg).ext hb) hl;unfold Er;by_cases h0 : eY ps = 0
 ·rw [T2 h0];rw [h0] at hlk;obtain ⟨hne, gy, hvv⟩ := xN h0;obtain ⟨g0, pt, rfl⟩ := List.exists_cons_of_ne_nil hne;rw [j1 (g := g0) rfl];have hnp : pt.length + 1 = n := hln;obtain ⟨ad, rfl, hr⟩ := hL.at_ TX;have hm0 : g0 ∈ g0 :: pt := Uc;have hg0 := hl g0 hm0;have h00 : (g0 :: pt)[0]? = some g0 := rfl;show Calls _ _ _ _ fun r w' => ∃ g : PX, eX (pt.foldl jk (g0.ts, 0)).2 g0.v (pt.foldl jk (g0.ts, 0)).1 g ∧ r = .returned (.tuple #[.agg #[.int .i64 g.v, .slice g.A g.n g.c], .int .i64 (pt.foldl jk (g0.ts, 0)).2]) ∧ Hp w [g.row] w';refine aj (N := 46) (l := [.slice (some ad) n c]) Tryz.func17 rfl rfl (by simp) ?_;refine sr ?_;refine bV hh ?_;intro b2 w2 hh;refine aI (aa (ah (sr (mL ?_))));refine bD hh (hlk _ (hT.hp hh) hh.below) rfl ?_;intro w11 hh;refine aI (aa (sr (mI ?_)));refine dn (aa (cF (ar (ai (ah ?_)))));refine aV 11 [[(0, none)], [(16, some 0)], [(17, some 1)], [(18, some 2)], [(0, none)], [(20, some 4)], [(21, some 5)], [(22, some 6)], [(23, some 7)], [(19, some 3), (24, some 8)], []] [(10, 5), (9, 25), (8, 24), (7, 23), (6, 22), (5, 21), (4, 20), (3, 19), (2, 18), (1, 17), (0, 16)] hh mixed TZ ?_;refine fT ?_;refine l3 (0) ?_;refine Kx ?_
  refine rW (fun _ hj => cH hj.hp.below ((hr.recAt PX.len h00) 0 _ rfl)) ?_;refine fT ?_;refine l3 (0) ?_;refine Kx ?_;refine rW (fun _ hj => cH hj.hp.below ((hr.recAt PX.len h00) 1 _ rfl)) ?_;refine aT (i := 8) (zm w11.heap.size g0.v g0.ts) (zm.ext) ?_ ?_
  ·intro ρ1 w1 hj hR;exact bf rfl (aO al.out (aw (show ρ1 23 = Value.slice _ _ _ from hR.1) aZ)) (lE g0.A g0.n g0.c g0.ts w1 ((hf g0 hm0).ext hj.hp.below) hg0.n) (fun _ _ ⟨A, c, hq, ho, hb⟩ => ⟨_, hq, hb, ⟨g0.v, A, g0.n, c, g0.ts⟩, w1, rfl, ⟨rfl, rfl⟩, hj.bl.size, (Hp.start w1).aW (x := .row _ _ _ _ _ _) hb ho⟩)
  refine aT (i := 9) (j7 w11.heap.size 0 g0.v g0.ts) (j7.ext) ?_ ?_
  ·intro ρ1 w1 hj hR;exact let ⟨g, u, e, o, q, h⟩ := hR.2.1; fG rfl (sw (cs := [_, _]) aK.out kL.out (aM (show ρ1 19 = Value.int _ _ from hR.1) (aM e bU)) rfl) ⟨Below.refl _ _, g, u, by rw [show g.v = g0.v from o.v], o, q, h⟩
  refine aT (i := 10) (dt _ 24 _) dt.ext (fun ρ1 w1 hj hR => jN aK.out hj.bl (fun v w2 h hb => ⟨hb, h⟩)) ?_;refine aR ?_;intro f W hJ hV;have hb_4 := hJ.bl;obtain ⟨v5, v25, v24, v23, v22, v21, v20, v19, v18, v17, v16, _⟩ := hV;obtain ⟨g24, u24, e24, -⟩ := v24;obtain ⟨g25, u25, e25, o25, q25, h25⟩ := v25;obtain ⟨b5, e5, hl5, hc5⟩ : dt _ _ _ (f 10) W := v5;replace hh := hJ.qG hh hl5 hc5 q25 h25 (PX.ne h25 hc5 TY);refine aY (br (ae e5 (ae e25 (ae e24 (ae v23 (ae v22 (ae v21 (ae v20 (ae v19 (ae v18 (ae v17 (ae v16 aX)))))))))))) ?_;dsimp only [cf];clear e24 e25 e5 hJ;simp only [Ud, Ub] at hh;obtain ⟨gv, gA, gn, gc, gts⟩ := g25;obtain rfl : g0.v = gv := o25.v.symm;obtain rfl : g0.ts = gts := o25.ts.symm;replace hh := show Hp w (_ :: .row gA gn gc 96 4 (az TR.cells g0.ts) :: _) W from hh;have hgn : g0.ts.length = gn := (hh.aC (i := 1) rfl).bq TR.len TY;have hgc : gn ≤ gc := hh.e8 (i := 1) rfl;refine bW hh 0 [_,_] ?_;intro ws hh;replace hh : Hp _ (.blk _ _ [_, _] _ :: _) _ := hh;refine aa (ah (sr (mL ?_)));refine aQ rfl rfl TY (jl bk.out aK.size rfl rfl (l := 1) rfl TX TX) ?_;refine aJ (mI (aa (aq ?_)));replace hh := hh.perm (U3 (l₁ := [_]))
  simp only [Ud, Ub] at hh;refine aP [3, 7, 8, 9, 29, 30, 31, 32, 33, 34, 35, 36, 37, 38, 39, 40, 41, 42, 43, 44] 29
   (fun v w' => ∃ (i : Nat) (g : PX), i ≤ n - 1 ∧ v = .int .i64 i ∧ ((pt.take i).foldl jk (g0.ts, 0)).2 = 0 ∧ g.v = g0.v ∧ g.ts = ((pt.take i).foldl jk (g0.ts, 0)).1 ∧ g.l9 (k + i * s) ∧ Hp w [.row g.A g.n g.c 96 4 (az TR.cells g.ts), .blk b5 24 [.int .i64 g.v, .slice g.A g.n g.c] (0, 0), .blk b2 24 [.int .i64 0, .slice none 0 0] (0, 0)] w')
   (fun v _ => n - 1 - (intOf v).toNat) ?_ ?_
  ·exact ⟨0, ⟨g0.v, gA, gn, gc, g0.ts⟩, T6 _, rfl, rfl, rfl, rfl, ⟨by show gn ≤ 1000000; have := hg0.n; have h9 := (hf g0 hm0).ln; omega, hgc, hg0.ok.mono (by rw [Wx]; omega), hg0.sz⟩, hh⟩
  ·clear hh;rintro ρ' v w' ⟨i, g, hi, rfl, hz, hgv, hts, hgl, hh⟩;by_cases hlt : i < n - 1
   ·obtain ⟨f, hx⟩ := ak (l := pt) (k := i) TX;have hmem : f ∈ g0 :: pt := Uf _ (T7 hx);have his : i * s ≤ (n - 2) * s := U2 _ TX;have his1 := Va i s;have hbk : Sl w (if c = 1 then some ad else (some ad : Option Addr).map (·.add (1 * 2))) (n - 1) 2 (az PX.cells pt) := hL.back TX hcn;obtain ⟨ab, hAb, sb⟩ := hbk.at_ TX;have gy : Value.slice (if c = 1 then some ad else (some ad : Option Addr).map (·.add (1 * 2))) (n - 1) (c - 1) = .slice (some ab) (n - 1) (c - 1) := by rw [hAb]
    have hfl := hl f hmem;have hnx := F6 (a := (g0.ts, 0)) hx hz;have hsp := Gc (a := (g0.ts, 0)) hx hz;rw [← hts] at hnx hsp;refine sr ?_;refine dO ?_;refine da (k := i) bk.out aK.size gy rfl TX TX TY ?_;refine cw (vs := [_, _]) aK.out rfl (show Rd _ _ [.int .i64 f.v, .slice f.A f.n f.c] from (sb.ext hh.below).recAt PX.len hx) rfl TY ?_;refine bV hh ?_;intro b7 w7 hh;refine bW hh 0 [_,_] ?_;intro ws hh;replace hh : Hp _ (.blk _ _ [_, _] _ :: _) _ := hh;refine aa (sr ?_);refine cG hh 2 [_,_] ?_;refine cG hh 0 [_,_] ?_;refine aF (xW g f (k + i * s) k _ (hT.hp hh) (hh.aC (i := 1) rfl) ((hf f hmem).ext hh.below) hgl hfl TX) al.out rfl TY ?_;rintro e_ w36 ⟨h, oh, rfl, h3⟩;refine ⟨_, rfl, ?_⟩;replace hh := hh.join h3;simp only [Ud, Ub] at hh;by_cases he : eZ g.ts f.ts = 0
    ·obtain ⟨hv, hA, hn2, hc2, hts2⟩ := h;rw [he] at oh;obtain rfl : g.v = hv := oh.v.symm;obtain rfl : aE (cg g.ts f.ts) = hts2 := oh.ts.symm;replace hh := show Hp w (.row hA hn2 hc2 96 4 (az TR.cells (aE (cg g.ts f.ts))) :: _) w36 from hh;have hhn : (aE (cg g.ts f.ts)).length = hn2 := (hh.aC (i := 0) rfl).bq TR.len TY;have hhc : hn2 ≤ hc2 := hh.e8 (i := 0) rfl;have h4 := (j8 he).2.2;have htl := E3 hgl.ok hfl.ok hfl.sz he TX;refine mT ?_;refine du ?_;refine du ?_;refine bV hh ?_;intro b8 w8 hh;refine bW hh 0 [_,_] ?_;intro ws hh;replace hh : Hp _ (.blk _ _ [_, _] _ :: _) _ := hh;refine aI (aa (ah (sr (mI ?_))));refine dn (aa (cF (ar (ai (ao ?_)))));refine cG hh 0 [_,_] ?_;refine bW hh 4 [_,_] ?_;intro ws hh;replace hh : Hp _ (_ :: _ :: _ :: _ :: .blk _ _ [_, _] _ :: _) _ := hh;refine fM ?_;refine bj (mI (aA (ai ?_)));replace hh := hh.sub (T8 _ (T4 _ (T8 _ (T8 _ (T4 _ (T4 _ UA))))))
     refine ⟨⟨i + 1, ⟨g.v, hA, hn2, hc2, aE (cg g.ts f.ts)⟩, TX, rfl, by rw [hnx]; exact he, hgv, by rw [hnx], ⟨by show hn2 ≤ 1000000; omega, hhc, htl.1.mono (by rw [Va]; omega), htl.2⟩, hh⟩, by show n - 1 - (i + 1) < n - 1 - i; omega, ?_⟩;exact dQ
    ·rw [hsp he];refine mT ?_;refine du ?_;refine du ?_;refine bV hh ?_;intro b8 w8 hh;refine bW hh 0 [_,_] ?_;intro ws hh;replace hh : Hp _ (.blk _ _ [_, _] _ :: _) _ := hh;refine aI (aa (ah (sr (mI ?_))));refine dn (aa (cT (sr ?_)));refine gB [_,_] (mI ?_);refine bW hh 5 [_,_] ?_;intro ws hh;replace hh : Hp _ (_ :: _ :: _ :: _ :: _ :: .blk _ _ [_, _] _ :: _) _ := hh;refine aI (aa (au (aG (cd (aG (aG (cd (aG ?_))))))));refine Qk (eO rfl (eN (vs := [_, _]) aK.out (hh.ck (i := 5) (n := 2) rfl rfl) rfl) (j4 (la rfl) gm)) ?_;exact PF
   ·obtain rfl : i = n - 1 := TX;rw [T9 TX] at hz hts;refine sr ?_;refine mM ?_;refine cG hh 1 [_,_] ?_;refine bW hh 2 [_,_] ?_;intro ws hh;replace hh : Hp _ (_ :: _ :: .blk _ _ [_, _] _ :: _) _ := hh;refine aI (aa (au ?_));refine rJ ?_;rw [hz];exact ⟨g, ⟨hgv, hts⟩, rfl, hh.sub (T4 _ (Vh _))⟩
 ·rw [T3 h0];generalize eY ps = e at *;refine aj (N := 46) (l := [.slice L n c]) Tryz.func17 rfl rfl (by simp) ?_;refine sr ?_;refine bV hh ?_;intro b2 w2 hh;refine aI (aa (ah (sr (mL ?_))));refine bD hh (hlk _ (hT.hp hh) hh.below) rfl ?_;intro w11 hh;exact K7
theorem vm (A B : Option Addr) (n m c c' : Nat) (xs ys : List Int) (w : World) (hx : Sl w A n 1 (bJ xs)) (hy : Sl w B m 1 (bJ ys)) (hn : n ≤ 100000) (hm : m ≤ 100000) :
  Calls Tryz.prog 34 #[.slice A n c, .slice B m c'] w fun e w' => e = .returned (.bool (decide (xs = ys))) ∧ Below w.heap.size w w' := by
 have hxl : xs.length = n := by have := hx.1; rw [bX] at this; omega
 have hyl : ys.length = m := by have := hy.1; rw [bX] at this; omega
 have hh := Hp.start w;by_cases hnm : n = m
 ·subst hnm;refine aj (N := 26) (l := [.slice A n c, .slice B n c']) Tryz.func34 rfl rfl (by simp) ?_;refine xc ?_;refine HZ ?_;refine aP [4, 5, 11, 12, 13, 14, 15, 16, 17, 18, 19, 20, 21, 22, 23, 24, 25] 5
   (fun i w' => ∃ k : Nat, k ≤ n ∧ i = .int .i64 k ∧ xs.take k = ys.take k ∧ Hp w [] w')
   (fun i _ => n - (intOf i).toNat) ?_ ?_
  ·exact ⟨0, T6 _, rfl, rfl, hh⟩
  ·clear hh;rintro ρ' i w' ⟨k, hk, rfl, he, hh⟩;replace hx := hx.ext hh.below;replace hy := hy.ext hh.below;by_cases hlt : k < n
   ·obtain ⟨x, hxk⟩ := ak (l := xs) (k := k) TX;obtain ⟨y, hyk⟩ := ak (l := ys) (k := k) TX;obtain ⟨ad, rfl, hr⟩ := hx.at_ TX;obtain ⟨bd, rfl, hs⟩ := hy.at_ TX;by_cases hxy : x = y
    ·subst hxy;refine ah (sr (mI (mL (aJ ?_))));refine wD ?_;refine zN ?_;refine fT ?_;refine dF ?_;refine M4 ?_;refine rW (fun _ hj => fq (hr.ext hj.bl) (cj hxk) rfl) ?_;refine fT ?_;refine dF ?_;refine NG ?_;refine rW (fun _ hj => fq (hs.ext hj.bl) (cj hyk) rfl) ?_;refine aR ?_;intro f W hJ hV;have hb_6 := hJ.bl;obtain ⟨v24, v23, v22, v21, v20, v19, v18, v17, _⟩ := hV;replace hh := hJ.hp;refine AG ?_;dsimp only [cf];clear hJ;refine dn (aa (cF (ar (bE (ai (ao (mI ?_)))))));refine bj (aI (aA (ai ?_)));refine ⟨⟨k + 1, TX, rfl, by rw [ay hxk, ay hyk, he], hh⟩, by show n - (k + 1) < n - k; omega, ?_⟩;exact dQ
    ·refine ah (sr (mI (mL (aJ ?_))));refine wD ?_;refine zN ?_;refine fT ?_;refine dF ?_;refine M4 ?_;refine rW (fun _ hj => fq (hr.ext hj.bl) (cj hxk) rfl) ?_;refine fT ?_;refine dF ?_;refine NG ?_;refine rW (fun _ hj => fq (hs.ext hj.bl) (cj hyk) rfl) ?_;refine aR ?_;intro f W hJ hV;have hb_6 := hJ.bl;obtain ⟨v24, v23, v22, v21, v20, v19, v18, v17, _⟩ := hV;replace hh := hJ.hp;refine AG ?_;dsimp only [cf];clear hJ;refine dn (aa (cT (sr (aB (aa (au (cd (aG (aG (cd (aG ?_)))))))))));refine cZ ?_;have : ¬ xs = ys := fun h => hxy (by rw [h, hyk] at hxk; exact (UN hxk).symm);simp only [this, decide_false];exact ⟨trivial, hh.below⟩
   ·refine ah (sr (mI (mL (aJ ?_))));refine Aq ?_;refine cZ ?_;rw [T9 TX, T9 TX] at he;simp only [he, decide_true];exact ⟨trivial, hh.below⟩
 ·refine aj (N := 26) (l := [.slice A n c, .slice B m c']) Tryz.func34 rfl rfl (by simp) ?_;refine xc ?_;refine dn (aa (cT (sr (aB (aa (au (aG ?_)))))));refine cZ ?_;have : ¬ xs = ys := fun h => hnm (by rw [← hxl, ← hyl, h]);simp only [this, decide_false];exact ⟨trivial, hh.below⟩
def dJ (v : Int) : ByteArray := ⟨(List.replicate v.toNat 0).toArray⟩
theorem lM {v : Int} (h : 0 ≤ v) : ((dJ v).size : Int) = v := by
 have : (dJ v).size = v.toNat := by unfold dJ; show (List.replicate v.toNat (0 : UInt8)).toArray.size = _; rw [WJ, Vt]
 omega
theorem qT (v : Int) : eM (dJ v).data.toList = true := by
 unfold eM dJ;rw [Ux];intro c hc;have : (⟨(List.replicate v.toNat (0 : UInt8)).toArray⟩ : ByteArray).data.toList = List.replicate v.toNat 0 := rfl;rw [this] at hc;rw [(List.mem_replicate.1 hc).2];decide
theorem G8 (h : l.length ≤ 4096) : gp l = 0 := by
 unfold gp;have := bP l;rw [T3 TX]
theorem yO {v : Int} {t : TR} (hf : iU v = true) (h : eK v t = true) : p5 v [t] = 0 := by
 unfold p5;rw [T3 (by rw [hf]; simp [h]), T3 (by simp), G8 (by simp)]
def z3 (v : Int) : Int := if iU v = false then 1 else 0
theorem jy (v : Int) (c : NR) (k : Nat) (w : World) (hT : eh w) (hc : c.ok ∧ Sz k c.d) (hk : k ≤ 2999980) :
  Calls Tryz.prog 45 #[.int .i64 v, .agg #[.bool c.neg, .string c.bz, .int .i64 c.e]] w fun r w' => ∃ g : PX, eX (z3 v) v (aE [⟨dJ v, c⟩]) g ∧ r = .returned (.tuple #[.agg #[.int .i64 g.v, .slice g.A g.n g.c], .int .i64 (z3 v)]) ∧ Hp w [g.row] w' := by
 have hh := Hp.start w;have hfw := fun w1 => m7 v w1
 cases hf : iU v with
 | false =>
  rw [hf] at hfw;rw [show z3 v = 1 by unfold z3; rw [T2 hf]];refine aj (N := 20) (l := [.int .i64 v, .agg #[.bool c.neg, .string c.bz, .int .i64 c.e]]) Tryz.func45 rfl rfl (by simp) ?_;refine sr ?_;refine cD hh [_,_,_] ?_;intro b3 w3 hh;refine bV hh ?_;intro b4 w4 hh;refine aI (aa (ah (sr (mI ?_))));refine bD hh (hfw _) rfl ?_;intro w7 hh;refine fm ?_;refine aa (cT (sr ?_));exact Lm
 | true =>
  rw [hf] at hfw;obtain ⟨h0, h12⟩ := iA.1 hf;have hm : p5 v [⟨dJ v, c⟩] = 0 := yO hf (by unfold eK; rw [qT, Um (lM h0)]; rfl);have hmk := fun A cc w1 hT1 hS1 => ml v A 1 cc [⟨dJ v, c⟩] k w1 hT1 hS1 TY TX (fun t ht => by rw [Un.1 ht]; exact hc) (fun t ht => by rw [Un.1 ht]; have := lM h0; show (dJ v).size ≤ _; omega);rw [hm] at hmk;rw [show z3 v = 0 by unfold z3; rw [T3 (by rw [hf]; decide)]];refine aj (N := 20) (l := [.int .i64 v, .agg #[.bool c.neg, .string c.bz, .int .i64 c.e]]) Tryz.func45 rfl rfl (by simp) ?_;refine sr ?_;refine cD hh [_,_,_] ?_;intro b3 w3 hh;refine bV hh ?_;intro b4 w4 hh;refine aI (aa (ah (sr (mI ?_))));refine bD hh (hfw _) rfl ?_;intro w7 hh;refine fm ?_;refine aa (cF (ar (ai (ah ?_))));refine qJ [] [0, 0, 2, 6, 0, 30, 62, 127, 255, 255, 1023, 2047] 7 [[(0, none)], [(0, none)], [(11, some 1)], [(12, some 2)], [(3, none)], [(13, some 3), (14, some 4)], [(15, some 5)]] [(6, 16), (5, 15), (4, 14), (3, 13), (2, 12), (1, 11), (0, 10)] [([], 4, [(6, 16), (5, 15), (4, 14), (3, 13), (2, 12), (1, 11), (0, 10)])] hh mixed TZ TZ TY ?_;refine dF ?_;refine dF ?_
  refine aT (i := 2) (iT v.toNat 1 (nq (List.replicate v.toNat 0))) (iT.ext) ?_ ?_
  ·intro ρ1 w1 hj hR;exact uF v.toNat ▸ KW (n := v.toNat) (show ρ1 11 = Value.int _ _ from hR.1) (show ρ1 11 = Value.int _ _ from hR.1) TX TX bk.out aK.out rfl TX TX (fun _ _ h1 h2 => ⟨h2, h1⟩)
  refine aT (i := 3) (Is (.string (dJ v))) (Is.ext) ?_ ?_
  ·intro ρ1 w1 hj hR;obtain ⟨g12, e12, o12⟩ := hR.1;exact let ⟨g, e, o⟩ := hR.1; fG rfl (ko (l := List.replicate v.toNat 0) bk.out bk.out bk.out e o) ⟨Below.refl _ _, rfl⟩
  refine fU 1 [_,_,_] ?_;refine dB [_,_,_,_] ?_;refine tQ [_,_,_,_] ?_;refine aR ?_;intro p_ hp_;simp only [Ul, List.not_mem_nil, or_false] at hp_
  rcases hp_ with rfl
  intro f W hJ hV;have hb_3 := hJ.bl;obtain ⟨v16, v15, v14, v13, v12, v11, v10, _⟩ := hV;simp only [mz];have e10 : f 0 = _ := v10;rw [e10];have e11 : f 1 = _ := v11;rw [e11];obtain ⟨g12, e12, o12⟩ : iT v.toNat 1 (nq (List.replicate v.toNat 0)) (f 2) W := v12;rw [e12];have e13 : f 3 = _ := v13;rw [e13];have e14 : f 4 = _ := v14;rw [e14];have e15 : f 5 = _ := v15;rw [e15];obtain ⟨A16, c16, e16, f16⟩ : Rows _ _ _ (f 6) W := v16;rw [e16];replace hh := hJ.hp;clear e10 e11 e12 e13 e14 e15 e16 hJ;refine aF (hmk _ _ _ (hT.hp hh) f16) al.out rfl TY ?_; rintro e_ w17 ⟨g, og, rfl, h3⟩; refine ⟨_, rfl, ?_⟩; replace hh := hh.join h3;refine fp ?_;simp only [Ud, Ub] at hh;refine cW (i := 8) (by repeat (first | exact cA | refine bQ ?_ | refine cE ?_ | refine np_scope ?_)) rfl TZ TZ TZ (fun _ => fB (show _ = Value.tuple (List.toArray _) from rfl) rfl) TY ?_;refine cW (i := 9) (by repeat (first | exact cA | refine bQ ?_ | refine cE ?_ | refine np_scope ?_)) rfl TZ TZ TZ (fun _ => fB (show _ = Value.tuple (List.toArray _) from rfl) rfl) TY ?_;refine kd 10 TY TZ TY TZ TZ ?_;exact EP
def jZ (v : Int) (x : Nat) : ByteArray := ⟨((List.replicate v.toNat (0 : UInt8)).set x 1).toArray⟩
theorem qM {v : Int} {x : Nat} (h : 0 ≤ v) : ((jZ v x).size : Int) = v := by
 have : (jZ v x).size = v.toNat := by unfold jZ; show ((List.replicate v.toNat (0 : UInt8)).set x 1).toArray.size = _; rw [WJ, Wp, Vt]
 omega
theorem zf (v : Int) (x : Nat) : eM (jZ v x).data.toList = true := by
 unfold eM;rw [Ux];intro c hc;have : (jZ v x).data.toList = (List.replicate v.toNat 0).set x 1 := rfl;rw [this] at hc
 rcases List.mem_or_eq_of_mem_set hc with h | rfl
 ·rw [(List.mem_replicate.1 h).2]; decide
 ·decide
theorem F9 {l : List UInt8} {i : Nat} {c : UInt8} (h : i < l.length) : cq (nq l) (i * 1) [.int .u8 c.toNat] = nq (l.set i c) := by
 unfold cq nq;rw [Uo, Xh, T2 h, UU, Ut, WM, Wv, UI]
 rfl
def tp (v x : Int) : Int := if iU v = false ∨ x < 0 ∨ v ≤ x then 1 else 0
theorem sV (v x : Int) (w : World) (hT : eh w) :
  Calls Tryz.prog 117 #[.int .i64 v, .int .i64 x] w fun r w' => ∃ g : PX, eX (tp v x) v (aE [⟨jZ v x.toNat, nR ((1 : Int) : Dyadic)⟩]) g ∧ r = .returned (.tuple #[.agg #[.int .i64 g.v, .slice g.A g.n g.c], .int .i64 (tp v x)]) ∧ Hp w [g.row] w' := by
 have hh := Hp.start w;have hfw := fun w1 => m7 v w1
 cases hf : iU v with
 | false =>
  rw [hf] at hfw;rw [show tp v x = 1 by unfold tp; rw [T2 (.inl hf)]];refine D2 ?_;refine sr ?_;refine bV hh ?_;intro b4 w4 hh;refine aI (aa (ah (sr (mI ?_))));refine bD hh (hfw _) rfl ?_;intro w8 hh;refine fm ?_;refine mB ?_;refine gS (gS ?_);refine fL ?_;refine mB ?_;refine gS (gS (gS ?_));refine fL ?_;refine aa (cT (sr ?_));exact Lm
 | true =>
  rw [hf] at hfw;obtain ⟨h0, h12⟩ := iA.1 hf;by_cases hx0 : x < 0
  ·rw [show tp v x = 1 by unfold tp; rw [T2 (.inr (.inl hx0))]];refine D2 ?_;refine sr ?_;refine bV hh ?_;intro b4 w4 hh;refine aI (aa (ah (sr (mI ?_))));refine bD hh (hfw _) rfl ?_;intro w8 hh;refine fm ?_;refine mB (gT (mI (gT ?_)));refine bg ?_;refine e7 ?_;refine mB ?_;refine gS (gS (gS ?_));refine fL ?_;refine aa (cT (sr ?_));exact Lm
  ·by_cases hx1 : v ≤ x
   ·rw [show tp v x = 1 by unfold tp; rw [T2 (.inr (.inr hx1))]];refine D2 ?_;refine sr ?_;refine bV hh ?_;intro b4 w4 hh;refine aI (aa (ah (sr (mI ?_))));refine bD hh (hfw _) rfl ?_;intro w8 hh;refine fm ?_;refine mB (gT (mI (gT ?_)));refine bg ?_;refine e7 ?_;refine mB (gT (mI (gT (mI (gT ?_)))));refine dW ?_;refine e7 ?_;refine aa (cT (sr ?_));exact Lm
   ·rw [show tp v x = 0 by unfold tp; rw [T3 (by rintro (h | h | h); exact absurd (hf.symm.trans h) TY; omega; omega)]];have hm : p5 v [⟨jZ v x.toNat, nR ((1 : Int) : Dyadic)⟩] = 0 := yO hf (by unfold eK; rw [zf, Um (qM h0)]; rfl);have z1 : Sz 24 ((1 : Int) : Dyadic) := LO (m := 1) (e := 0) TY TY TY;have hmk := fun A cc w1 hT1 hS1 => ml v A 1 cc [⟨jZ v x.toNat, nR ((1 : Int) : Dyadic)⟩] 24 w1 hT1 hS1 TY TX (fun t ht => by rw [Un.1 ht]; exact ⟨z1.ok TY, by show Sz 24 (nR _).d; rw [bR]; exact z1⟩) (fun t ht => by rw [Un.1 ht]; have := qM (x := x.toNat) h0; show (jZ v x.toNat).size ≤ _; omega);rw [hm] at hmk;refine D2 ?_;refine sr ?_;refine bV hh ?_;intro b4 w4 hh;refine aI (aa (ah (sr (mI ?_))));refine bD hh (hfw _) rfl ?_;intro w8 hh;refine fm ?_;refine mB (gT (mI (gT ?_)));refine bg ?_;refine e7 ?_;refine mB (gT (mI (gT (mI (gT ?_)))));refine dW ?_;refine e7 ?_;refine aa (cF (ar (ai (sr (mI ?_)))));refine gi (n := (v.toNat)) hh rfl rfl TX TX bk.out aK.out rfl TX TX TY ?_;intro b21 w21 hh;refine aL (aa (sr (mL (mI ?_))));refine cV (k := (x.toNat)) bk.out aK.size rfl rfl TX TX TY ?_;rw [uF] at hh
    have hll : (nq (List.replicate v.toNat 0)).length = v.toNat := by simp [nq]
    refine Ig ?_;intro ws hh;simp only [Uh] at hh;rw [show cq (nq (List.replicate v.toNat 0)) (x.toNat * 1) [.int .u8 1] = nq ((List.replicate v.toNat 0).set x.toNat 1) from F9 (l := List.replicate v.toNat 0) (i := x.toNat) (c := 1) (by rw [Vt]; omega)] at hh;refine aa (ah ?_);refine qJ [] [0, 0, 2, 0, 14, 30, 63, 127, 127, 511, 1023] 6 [[(0, none)], [(6, none)], [(26, some 1)], [], [(27, some 2), (28, some 3)], [(29, some 4)]] [(5, 30), (4, 29), (3, 28), (2, 27), (1, 26), (0, 25)] [([], 4, [(5, 30), (4, 29), (3, 28), (2, 27), (1, 26), (0, 25)])] hh mixed TZ TZ TY ?_;refine dF ?_;refine fT ?_;refine aT (i := 2) (Is (.string ⟨(((List.replicate v.toNat 0).set x.toNat 1)).toArray⟩)) Is.ext ?_ ?_
    ·intro ρ1 w1 hj hR;exact fG rfl (ko (l := ((List.replicate v.toNat 0).set x.toNat 1)) bk.out bk.out bk.out (show ρ1 26 = Value.slice _ _ _ from hR.1) (hj.hp.aC (i := 0) rfl)) ⟨Below.refl _ _, rfl⟩
    refine dC (fun _ hj => jI 1 _ (hT.hp hj.hp) TY TY) ?_;refine dB [_,_,_,_] ?_;refine tQ [_,_,_,_] ?_;refine aR ?_;intro p_ hp_;simp only [Ul, List.not_mem_nil, or_false] at hp_
    rcases hp_ with rfl
    intro f W hJ hV;have hb_5 := hJ.bl;obtain ⟨v30, v29, v28, v27, v26, v25, _⟩ := hV;simp only [mz];have e25 : f 0 = _ := v25;rw [e25];have e26 : f 1 = _ := v26;rw [e26];have e27 : f 2 = _ := v27;rw [e27];have e28 : f 3 = _ := v28;rw [e28];have e29 : f 4 = _ := v29;rw [e29];obtain ⟨A30, c30, e30, f30⟩ : Rows _ _ _ (f 5) W := v30;rw [e30];replace hh := hJ.hp;clear e25 e26 e27 e28 e29 e30 hJ;refine aF (hmk _ _ _ (hT.hp hh) f30) al.out rfl TY ?_; rintro e_ w31 ⟨g, og, rfl, h3⟩; refine ⟨_, rfl, ?_⟩; replace hh := hh.join h3;refine fp ?_;simp only [Ud, Ub] at hh;refine cW (i := 7) (by repeat (first | exact cA | refine bQ ?_ | refine cE ?_ | refine np_scope ?_)) rfl TZ TZ TZ (fun _ => fB (show _ = Value.tuple (List.toArray _) from rfl) rfl) TY ?_;refine cW (i := 8) (by repeat (first | exact cA | refine bQ ?_ | refine cE ?_ | refine np_scope ?_)) rfl TZ TZ TZ (fun _ => fB (show _ = Value.tuple (List.toArray _) from rfl) rfl) TY ?_;refine kd 9 TY TZ TY TZ TZ ?_;exact Rm
def Sv (p : PX) (n : Nat) : List TR × Int := (List.replicate n p).foldl jk (aE [⟨dJ p.v, nR ((1 : Int) : Dyadic)⟩], 0)
def SN (p : PX) (n : Int) : Int := if p.e = 0 then (if n < 0 ∨ 127 < n then 1 else (Sv p n.toNat).2) else p.e
def SU (ps : List PX) (R : List HE) (g : PX) : Prop := (g ∈ ps ∧ R = []) ∨ R = [g.row]
variable {r : Bool}
theorem Mu (n : Nat) (m m' : ByteArray) (s s' : Bool) (a a' : ByteArray) (e e' : Int) (w : World) : (Op.equalIn (n + 4) 96 (.agg #[.string m, .bool s, .string a, .int .i64 e]) (.agg #[.string m', .bool s', .string a', .int .i64 e'])).run Tryz.prog w = .ok (m == m' && ((s == s' && a == a') && e == e')) w := by
 have h1 := fun (u : ByteArray) (x : Bool) (y : ByteArray) (z : Int) => Fb (P := Tryz.prog) (cs := #[.string u, .bool x, .string y, .int .i64 z]) (off := 0) (aK.out (P := Tryz.prog) (t := 9)) rfl;have h2 := fun (u : ByteArray) (x : Bool) (y : ByteArray) (z : Int) => N7 (P := Tryz.prog) (cs := #[.string u, .bool x, .string y, .int .i64 z]) (vs := #[.bool x, .string y, .int .i64 z]) (off := 1) (aK.out (P := Tryz.prog) (t := 65)) rfl;rw [Op.equalIn];simp [run_underlying Tryz.underlying96, h1, h2, RQ, J6]
 cases h : m == m' <;> cases h' : ((s == s' && a == a') && e == e') <;> simp_all
theorem yT {x y : TR} : (x.m == y.m && ((x.c.neg == y.c.neg && x.c.bz == y.c.bz) && x.c.e == y.c.e)) = true ↔ x = y := by
 obtain ⟨m, s, a, e⟩ := x;obtain ⟨m', s', a', e'⟩ := y;rw [Uj, nc, HC, TR.mk.injEq]
section
variable {ρ : Rf} {w : World} {d : Option Nat} {ty u : TypeId} {pos : String} {af : Array Edge} {g : Option (Nat × Bool)} {x y : Operand} {s t : TR}
theorem Nx (hx : ev ρ x = .agg s.cells.toArray) (hy : ev ρ y = .agg t.cells.toArray) (hr : (s.m == t.m && ((s.c.neg == t.c.neg && s.c.bz == t.c.bz) && s.c.e == t.c.e)) = r) :
  (execOp (ev ρ) ⟨d, .binOp .neq 96 x y u, ty, pos, af, g⟩).run Tryz.prog w = .ok (.value (.bool !r)) w := by
 have h1 : (Op.equal 96 (.agg s.cells.toArray) (.agg t.cells.toArray)).run Tryz.prog w = .ok r w := by rw [← hr]; exact Mu 9996 s.m t.m s.c.neg t.c.neg s.c.bz t.c.bz s.c.e t.c.e w
 simp only [execOp, hx, hy];simp [eqGuard, binOp, h1]
theorem Eh (hx : ev ρ x = .agg s.cells.toArray) (hy : ev ρ y = .agg t.cells.toArray) (h : s = t) :
  (execOp (ev ρ) ⟨d, .binOp .neq 96 x y u, ty, pos, af, g⟩).run Tryz.prog w = .ok (.value (.bool false)) w := Nx hx hy (yT.2 h)
theorem Mj (hx : ev ρ x = .agg s.cells.toArray) (hy : ev ρ y = .agg t.cells.toArray) (h : ¬ s = t) :
  (execOp (ev ρ) ⟨d, .binOp .neq 96 x y u, ty, pos, af, g⟩).run Tryz.prog w = .ok (.value (.bool true)) w := Nx hx hy (r := false) (Wz.2 fun h1 => h (yT.1 h1))
end
theorem LI {a b : List α} {i : Nat} (ha : a.length ≤ i) (hb : b.length ≤ i) (h : a.take i = b.take i) : a = b := by
 rwa [T9 ha, T9 hb] at h
theorem xm (A : Option Addr) (n c : Nat) (a : List TR) (B : Option Addr) (m d : Nat) (b : List TR) (w : World) (hS : Sl w A n 4 (az TR.cells a)) (hS2 : Sl w B m 4 (az TR.cells b)) (hn : n ≤ 1000000) (hm : m ≤ 1000000) :
  Calls Tryz.prog 73 #[.slice A n c, .slice B m d] w fun r w' => ∃ v, r = .returned (.bool v) ∧ (v = true ↔ a = b) ∧ Below w.heap.size w w' := by
 have hh := Hp.start w;have hla := hS.bq TR.len TY;have hlb := hS2.bq TR.len TY;by_cases hnm : n = m
 ·subst hnm;refine aj (N := 26) (l := [.slice A n c, .slice B n d]) Tryz.func73 rfl rfl (by simp) ?_;refine xc ?_;refine HZ ?_;refine aP [4, 5, 11, 12, 13, 14, 15, 16, 17, 18, 19, 20, 21, 22, 23, 24, 25] 5
   (fun v w' => ∃ i : Nat, i ≤ n ∧ v = .int .i64 i ∧ a.take i = b.take i ∧ Hp w [] w')
   (fun v _ => n - (intOf v).toNat) ?_ ?_
  ·exact ⟨0, T6 _, rfl, rfl, hh⟩
  ·clear hh;rintro ρ' v w' ⟨i, hi, rfl, he, hh⟩;by_cases hlt : i < n
   ·obtain ⟨s, hs⟩ := ak (l := a) (k := i) TX;obtain ⟨t, ht⟩ := ak (l := b) (k := i) TX;obtain ⟨ad, rfl, hr⟩ := hS.at_ TX;obtain ⟨ad2, rfl, hr2⟩ := hS2.at_ TX;by_cases hst : s = t
    ·refine ah (sr (mI (mL (aJ ?_))));refine wD ?_;refine zN ?_;refine fT ?_;refine dF ?_;refine l3 (i) ?_;refine DD ?_;refine fT ?_;refine dF ?_;refine l3 (i) ?_;refine EN ?_;refine aR ?_;intro f W hJ hV;have hb_6 := hJ.bl;obtain ⟨v24, v23, v22, v21, v20, v19, v18, v17, _⟩ := hV;replace hh := hJ.hp;refine AG ?_;dsimp only [cf];clear hJ;refine aQ rfl rfl TY (Eh (s := s) (t := t) rfl rfl hst) ?_;skip;refine sZ ?_;refine bj (aI (aA (ai ?_)));exact Ot
    ·refine ah (sr (mI (mL (aJ ?_))));refine wD ?_;refine zN ?_;refine fT ?_;refine dF ?_;refine l3 (i) ?_;refine DD ?_;refine fT ?_;refine dF ?_;refine l3 (i) ?_;refine EN ?_;refine aR ?_;intro f W hJ hV;have hb_6 := hJ.bl;obtain ⟨v24, v23, v22, v21, v20, v19, v18, v17, _⟩ := hV;replace hh := hJ.hp;refine AG ?_;exact Q0
   ·refine ah (sr (mI (mL (aJ ?_))));refine Aq ?_;exact Ny
 ·refine aj (N := 26) (l := [.slice A n c, .slice B m d]) Tryz.func73 rfl rfl (by simp) ?_;exact Ra
theorem Au (p q : PX) (w : World) (hp : p.at_ w) (hq : q.at_ w) (hn : p.n ≤ 1000000) (hm : q.n ≤ 1000000) :
  Calls Tryz.prog 15 #[.agg #[.int .i64 p.v, .slice p.A p.n p.c], .agg #[.int .i64 q.v, .slice q.A q.n q.c]] w fun r w' => ∃ v, r = .returned (.bool v) ∧ (v = true ↔ p.v = q.v ∧ p.ts = q.ts) ∧ Below w.heap.size w w' := by
 have hh := Hp.start w;have ht := fun w1 hb => xm p.A p.n p.c p.ts q.A q.n q.c q.ts w1 (hp.ext hb) (hq.ext hb) hn hm;by_cases hv : p.v = q.v
 ·refine NB ?_;exact Qw
 ·refine NB ?_;exact RO
def Tz (a : NR) : Bool := decide ((24 : Int) < a.bz.size ∨ a.e < -300 ∨ 300 < a.e)
structure TT (ts : List TR) : Prop where
 n : ts.length ≤ 12
 ok : iI 492 ts
 sz : ∀ t ∈ ts, t.m.size ≤ 50
def PX.norm (g : PX) : PX := ⟨g.v, none, 0, 0, g.ts⟩
theorem vW (ps : List PX) : eY (ps.map PX.norm) = eY ps := by
 have h1 : (ps.map PX.norm).find? (fun g => decide (g.e ≠ 0)) = (ps.find? fun g => decide (g.e ≠ 0)).map PX.norm := List.find?_map ..;have h2 : vr (ps.map PX.norm) = vr ps := by
  unfold vr;rw [List.any_map, U5]
  rfl
 unfold eY;rw [h1, h2, Ug]
 cases ps.find? (fun g => decide (g.e ≠ 0)) <;> rfl
theorem tC (ps : List PX) : eW (ps.map PX.norm) = eW ps := by unfold eW; rw [U5]; rfl
structure Bw (ps os : List PX) (R : List HE) : Prop where
 eq : ∀ (j : Nat) (g o : PX), ps[j]? = some g → os[j]? = some o → o.v = g.v ∧ o.ts = g.ts ∧ o.n = g.n
 my : ∀ o ∈ os, o.row ∈ R ∧ o.n ≤ o.c
theorem Bw.add {ps os : List PX} {R : List HE} {g o : PX} (h : Bw ps os R) (hx : ps[os.length]? = some g) (he : o.v = g.v ∧ o.ts = g.ts ∧ o.n = g.n) (hc : o.n ≤ o.c) : Bw ps (os ++ [o]) (o.row :: R) := by
 refine ⟨fun j g2 o2 h1 h2 => ?_, fun o2 h2 => ?_⟩
 ·by_cases hj : j < os.length
  ·rw [Wi hj] at h2;exact h.eq j g2 o2 h1 h2
  ·by_cases hj2 : j = os.length
   ·subst hj2;rw [Vg (T5 _), UW] at h2;rw [hx] at h1
    cases h1; cases h2
    exact he
   ·rw [Uy (by rw [Ua]; simp; omega)] at h2
    cases h2
 ·rcases UD.1 h2 with h2 | h2
  ·exact ⟨Uf _ (h.my o2 h2).1, (h.my o2 h2).2⟩
  ·rw [Un.1 h2];exact ⟨Uc, hc⟩
theorem Bw.key {ps os : List PX} {R : List HE} (h : Bw ps os R) (hl : os.length = ps.length) : os.map PX.norm = ps.map PX.norm := by
 apply Ve;intro j;rw [Ue, Ue];by_cases hj : j < os.length
 ·obtain ⟨o, ho⟩ := ak hj;obtain ⟨g, hg⟩ := ak (l := ps) (k := j) TX;obtain ⟨e1, e2, _⟩ := h.eq j g o hg ho;rw [ho, hg];show some (PX.norm o) = some (PX.norm g);unfold PX.norm;rw [e1, e2]
 ·rw [Uy TX, Uy TX]
theorem Fc {H : List HE} {g : PX} (hh : Hp w H w') (h : g.row ∈ H) : g.at_ w' := lI (hh.own g.row h)
def Bl (p : PX) (c : Dyadic) : Int := if p.e = 0 then gp (p.ts.map (mh c)) else p.e
theorem Gu {X : List TR} {c : Dyadic} {i : Nat} {z : TR} (hz : l[i]? = some z) (hX : X = (l.take i).map (mh c) ++ l.drop i) : X[i]? = some z ∧ X.set i ⟨z.m, nR (z.c.d * c)⟩ = (l.take (i + 1)).map (mh c) ++ l.drop (i + 1) := by
 obtain ⟨h1, h2⟩ := Uk.1 hz;have hl : ((l.take i).map (mh c)).length = i := by rw [Ug, Us]; omega
 refine ⟨?_, ?_⟩
 ·rw [hX, Vg TX, hl, UW, VD];exact hz
 ·rw [ay hz, UU, hX, V3 _ _ TX, hl, UW, UI, gJ hz]
  rfl
theorem Eb {c : Dyadic} (ho : iI k l) (hc : Sz j c) (hk : k + j ≤ 1000000) : iI (k + j) (l.map (mh c)) := fun t ht => by
 obtain ⟨z, hz, rfl⟩ := Ui.1 ht;have hs := (ho z hz).2.mul hc;exact ⟨hs.ok TX, by show Sz _ (nR _).d; rw [bR]; exact hs⟩
theorem px (p : PX) (c : NR) (k : Nat) (w : World) (hT : eh w) (hp : p.at_ w) (lp : p.l9 k) (hc : c.ok ∧ Sz k c.d) (hk : k ≤ 400000) :
  Calls Tryz.prog 53 #[.agg #[.int .i64 p.v, .slice p.A p.n p.c], .agg #[.bool c.neg, .string c.bz, .int .i64 c.e]] w fun r w' => ∃ g : PX, eX (Bl p c.d) p.v (aE (p.ts.map (mh c.d))) g ∧ r = .returned (.tuple #[.agg #[.int .i64 g.v, .slice g.A g.n g.c], .int .i64 (Bl p c.d)]) ∧ Hp w [g.row] w' := by
 have hh := Hp.start w;have hck := fun w1 hT1 hb => mO p k w1 hT1 (hp.ext hb) lp;unfold Bl;by_cases h0 : p.e = 0
 ·rw [T2 h0];rw [h0] at hck;obtain ⟨_, h4, _, _⟩ := ct h0;have hpl : p.ts.length = p.n := hp.ln;refine NX ?_;refine sr ?_;refine cD hh [_,_] ?_;intro b2 w2 hh;refine cD hh [_,_,_] ?_;intro b3 w3 hh;refine bV hh ?_;intro b4 w4 hh;refine aI (aa (ah (sr ?_)));refine cG hh 2 [_,_] ?_;refine fJ ?_;intro w10 hh;refine aI (aa (sr (mI ?_)));refine dn (aa (cF (ar (ai (sr (bH ?_))))));refine bG hh 2 ?_;refine aF (lE p.A p.n p.c p.ts _ (hp.ext hh.below) lp.n) al.out rfl TY ?_;rintro e_ w17 ⟨A17, c17, rfl, hown_, hb_⟩;refine ⟨_, rfl, ?_⟩;replace hh := hh.aW (x := .row _ _ _ _ _ _) hb_ hown_;refine rb ?_;refine aP [8, 20, 21, 22, 23, 24, 25, 26, 27, 28, 29, 30, 31, 32, 33, 34, 35] 20
   (fun v w' => ∃ (i : Nat) (X : List TR), i ≤ p.n ∧ v = .int .i64 i ∧ X = (p.ts.take i).map (mh c.d) ++ p.ts.drop i ∧ Hp w [.row A17 p.n c17 96 4 (az TR.cells X), .blk b4 24 [.int .i64 0, .slice none 0 0] (0, 0), .blk b3 65 [.bool c.neg, .string c.bz, .int .i64 c.e] (0, 0), .blk b2 24 [.int .i64 p.v, .slice p.A p.n p.c] (0, 0)] w')
   (fun v _ => p.n - (intOf v).toNat) ?_ ?_
  ·exact ⟨0, p.ts, T6 _, rfl, rfl, hh⟩
  ·clear hh;rintro ρ' v w' ⟨i, X, hi, rfl, hX, hh⟩;have hXl : X.length = p.n := by rw [hX, Ua, Ug, Us, Vn]; omega
   by_cases hlt : i < p.n
   ·obtain ⟨z, hz⟩ := ak (l := p.ts) (k := i) TX;obtain ⟨hXz, hXn⟩ := Gu hz hX;have hzo := lp.ok z (T7 hz);have hdm := fun A cc w1 hT1 hS1 => eI A 2 cc [z.c, c] w1 hT1 hS1 (by simpa using ⟨hzo.1, hc.1⟩) k (by simpa using ⟨hzo.2, hc.2⟩) TX TY;rw [show g8 ([z.c, c].map NR.d) = z.c.d * c.d by show 1 * z.c.d * c.d = _; rw [V4]] at hdm;have hrl := eP TR.len X;obtain ⟨g0, rfl⟩ := hh.cB (i := 0) rfl TX;refine sr ?_;refine bg (aa (ah (cT (ar (ai (ah (aq (sr (mI (aI (aa ?_)))))))))));refine aV 10 [[(7, none)], [(8, none)], [(7, none)], [(8, none)], [(25, some 2), (26, some 3)], [(27, some 4)], [(28, some 5)], [(3, none)], [(29, some 6), (30, some 7)], [(31, some 8)]] [(9, 32), (8, 31), (7, 30), (6, 29), (5, 28), (4, 27), (3, 26), (2, 25), (1, 24), (0, 23)] hh mixed TZ ?_;refine fT ?_;refine dF ?_;refine fT ?_;refine dF ?_;refine Ke (i) ?_;refine ej ?_;refine r9 [_,_,_] (fun _ hj => (hj.hp.iz (f := TR.cells) (x := z) (l := X) (i := 0) rfl TR.len TY hXz).drop 1) ?_;refine fU 2 [_,_,_] ?_;refine tQ [_,_,_,_,_,_] ?_;refine aT (i := 9) (Is (.agg #[.bool (nR (z.c.d * c.d)).neg, .string (nR (z.c.d * c.d)).bz, .int .i64 (nR (z.c.d * c.d)).e])) Is.ext ?_ ?_
    ·intro ρ1 w1 hj hR;obtain ⟨A31, c31, h31, s31⟩ := hR.1;exact bf rfl (aO al.out (aw h31 aZ)) (hdm A31 c31 _ (hT.hp hj.hp) s31) (fun _ _ hq => ⟨_, hq.1, hq.2, rfl⟩)
    refine aR ?_;intro f W hJ hV;have hb_8 := hJ.bl;obtain ⟨v32, v31, v30, v29, v28, v27, v26, v25, v24, v23, _⟩ := hV;obtain ⟨A31, c31, e31, f31⟩ : Rows _ _ _ (f 8) W := v31;replace hh := hJ.hp;refine aY (br (ae v32 (ae e31 (ae v30 (ae v29 (ae v28 (ae v27 (ae v26 (ae v25 (ae v24 (ae v23 aX))))))))))) ?_;dsimp only [cf];clear e31 hJ;refine gk ?_;refine bH ?_;refine bO hh (i := 0) (vs := [_, _, _]) rfl rfl (gO rfl) rfl aK.out rfl TX rfl ?_;intro ws hh;simp only [Uh] at hh;rw [vQ hXz, hXn] at hh;refine fM ?_;refine bj (mI (aA (ai ?_)));replace hh := hh.sub (T4 _ (T4 _ (T4 _ (T4 _ UA))));refine ⟨⟨i + 1, _, TX, rfl, rfl, hh⟩, by show p.n - (i + 1) < p.n - i; omega, ?_⟩;exact dQ
   ·obtain rfl : i = p.n := TX;rw [T9 TX, Vz TX, UF] at hX;have hso := Eb lp.ok hc.2 TX;rw [← hX] at hso ⊢;refine sr ?_;refine bg (aa (ah (cF (a6 (aD (aD (bB (ai (sr (bH ?_))))))))));refine bG hh 3 ?_;refine mL ?_;refine aF (kp p.v A17 p.n c17 X (k + k) _ hT hh hXl TX TX hso) al.out rfl TY ?_;rintro e_ w39 ⟨g, og, rfl, hh⟩;refine ⟨_, rfl, ?_⟩;refine du ?_;refine du ?_;exact EP
 ·rw [T3 h0];refine NX ?_;refine sr ?_;refine cD hh [_,_] ?_;intro b2 w2 hh;refine cD hh [_,_,_] ?_;intro b3 w3 hh;refine bV hh ?_;intro b4 w4 hh;refine aI (aa (ah (sr ?_)));refine cG hh 2 [_,_] ?_;refine fJ ?_;intro w10 hh;exact K7
abbrev ZT := List (List UInt8 × Int)
def zT (L : ZT) : List TR := L.map fun x => ⟨str x.1, nR ((x.2 : Int) : Dyadic)⟩
def zS (L : ZT) (b : List UInt8) : Int := match L with | [] => 0 | x :: L => (if x.1 = b then x.2 else 0) + zS L b
def zC : ZT → Bool
 | [] => true
 | [x] => !decide (x.2 = 0)
 | x :: y :: L => !decide (x.2 = 0) && (Op.bytesLess x.1 y.1 && zC (y :: L))
def zE (L K : ZT) : Bool := (L ++ K).all fun x => decide (zS L x.1 = zS K x.1)
def zP (P Q : ZT) : ZT := P.flatMap fun x => Q.map fun y => ((mulL x.1 y.1).1, x.2 * y.2)
def TO (P Q : ZT) : List Int := P.flatMap fun x => Q.map fun y => (mulL x.1 y.1).2
def zM (v : Int) (L : ZT) : Bool := L.all fun x => eM x.1 && decide ((x.1.length : Int) = v)
def zB (L : ZT) : Bool := L.all fun x => decide (x.2.natAbs < 256) && decide (x.1.length ≤ 50)
def Tp (n : Int) : ZT := [([0, 1], n), ([1, 0], 1)]
theorem o8 {g h : PX} (h1 : g.e = 0) (h2 : h.e = 0) (h3 : h.v = g.v) : eY [g, h] = 0 := by
 have e : [g, h].find? (fun g => decide (g.e ≠ 0)) = none := iS (Vy.2 fun x hx => by
  rcases Ul.1 hx with rfl | hx
  ·simp [h1]
  ·rw [Un.1 hx]; simp [h2])
 unfold eY;rw [e];show (if 2 = 0 ∨ vr [g, h] = true then (1 : Int) else 0) = 0;rw [T3];rintro (h0 | h0)
 ·cases h0
 ·obtain ⟨x, hx, hx2⟩ := VS.1 h0;have hx3 : x.v ≠ g.v := Vv hx2
  rcases Ul.1 hx with rfl | hx
  ·exact hx3 rfl
  ·rw [Un.1 hx] at hx3;exact hx3 h3
def Sr (ds : List Int) : VP := fun v W => ∃ g : Option Addr × Nat, v = .slice g.1 ds.length g.2 ∧ Sl W g.1 ds.length 1 (bJ ds)
theorem eX.len {v : Int} {g : PX} (o : eX E v ts g) (h : g.at_ w) : g.n ≤ ts.length := by
 have hl := h.ln;have hts := o.ts;by_cases hE : E = 0
 ·rw [T2 hE] at hts;rw [hts] at hl;omega
 ·rw [T3 hE] at hts;rw [hts] at hl;have h0 : g.n = 0 := hl.symm;omega
structure Td (E : Int) (g : PX) : Prop where
 bad : E ≠ 0 → g.v = 0 ∧ g.ts = []
 ok : E = 0 → g.e = 0 ∧ iI 100000 g.ts ∧ ∀ t ∈ g.ts, t.m.size ≤ 100000
theorem sB (h : gp l = 0) : (aE l).length ≤ 4096 := by
 unfold gp at h;by_cases h4 : 4096 < (aE l).length
 ·rw [T2 h4] at h; omega
 ·omega
theorem lr (h : iI k l) (hk : k + l.length ≤ j) (hj : j ≤ 3999990) : iI j (aE l) := fun t ht => by
 have h3 : Sz j t.c.d := (mP (fun t ht => (h t ht).2) t ht).mono hk;exact ⟨by rw [(eC l).nf t ht]; exact h3.ok hj, h3⟩
theorem nZ (h : ∀ t ∈ l, t.m.size ≤ 100000) : ∀ t ∈ aE l, t.m.size ≤ 100000 := fun t ht => by
 obtain ⟨s, hs, e⟩ := fR t ht;rw [← e];exact h s hs
theorem GQ {ps : List PX} {v : Int} (h0 : ps ≠ []) (he : ∀ g ∈ ps, g.e = 0) (hv : ∀ g ∈ ps, g.v = v) : eY ps = 0 := by
 unfold eY;rw [iS (Vy.2 fun x hx => by simp [he x hx])];show (if ps.length = 0 ∨ vr ps = true then (1 : Int) else 0) = 0;rw [T3];rintro (h | h)
 ·exact h0 (VC h)
 ·obtain ⟨x, hx, hx2⟩ := VS.1 h;have hx3 : x.v ≠ eW ps := Vv hx2;obtain ⟨g, l, rfl⟩ := List.exists_cons_of_ne_nil h0;exact hx3 ((hv x hx).trans (hv g Uc).symm)
theorem gQ (h : l.length ≤ 4096) : gp l = 0 := by
 unfold gp;have := bP l;rw [T3 TX]
theorem eX.v0 {v : Int} {g : PX} (o : eX 0 v ts g) : g.v = v := o.v
theorem eX.t0 {v : Int} {g : PX} (o : eX 0 v ts g) : g.ts = ts := o.ts
theorem Jg (p q : PX) : BB [p, q] = p.ts ++ q.ts := by show p.ts ++ (q.ts ++ []) = _; rw [UF]
def fK (j : Nat) (t : TR) : Nat := match t.m.data.toList[j]? with | some e => e.toNat | none => 0
theorem mE {t : TR} {e : UInt8} (h : t.m.data.toList[j]? = some e) : fK j t = e.toNat := by unfold fK; rw [h]
def bh (p : List TR) (j n : Nat) : List TR := p.filter fun t => decide (fK j t = n)
def hH (q : List TR) (sub : List TR → Int × List TR) (p : List TR) (j n : Nat) (a : Int × List TR) : Int × List TR :=
 if a.1 ≠ 0 then a else if a.2.length = 0 ∧ (bh p j n).length = 0 then a else
 if eZ a.2 q ≠ 0 then (eZ a.2 q, []) else if (sub (bh p j n)).1 ≠ 0 then ((sub (bh p j n)).1, []) else
 if gp (aE (cg a.2 q) ++ (sub (bh p j n)).2) ≠ 0 then (gp (aE (cg a.2 q) ++ (sub (bh p j n)).2), []) else (0, aE (aE (cg a.2 q) ++ (sub (bh p j n)).2))
def bA (q : List TR) (sub : List TR → Int × List TR) (p : List TR) (j : Nat) : Nat → Int × List TR
 | 0 => (0, [])
 | i + 1 => hH q sub p j (127 - i) (bA q sub p j i)
theorem iV (q : List TR) (sub : List TR → Int × List TR) (p : List TR) (j i : Nat) : bA q sub p j (i + 1) = hH q sub p j (127 - i) (bA q sub p j i) := rfl
def ep (v : Int) : List (List TR) → Nat → List TR → Int × List TR
 | [], _, p => (0, aE [⟨dJ v, (p.map TR.c).headD (nR 0)⟩])
 | q :: qs, j, p => bA q (ep v qs (j + 1)) p j 128
theorem jG {q : List TR} {sub : List TR → Int × List TR} {i : Nat} (h : (bA q sub p j i).1 ≠ 0) (hk : i ≤ k) : bA q sub p j k = bA q sub p j i := by
 induction k with
 | zero =>
  obtain rfl : i = 0 := TX
  rfl
 | succ k ih =>
  by_cases e : i = k + 1
  ·rw [e]
  ·have := ih TX;show hH q sub p j (127 - k) (bA q sub p j k) = _;rw [this];unfold hH;rw [T2 h]
theorem Aa {q : List TR} (hp : iI k p) (hq : iI j q) (sq : ∀ t ∈ q, t.m.size ≤ 100000) (h : eZ p q = 0) (hk : k + j ≤ 900000) : iI (k + j + p.length * q.length) (aE (cg p q)) ∧ ∀ t ∈ aE (cg p q), t.m.size ≤ 100000 := by
 obtain ⟨h6, _, h4⟩ := j8 h;have ho := o7 hp hq TX;have hz := mP fun t ht => (ho t ht).2;rw [jF] at hz;refine ⟨fun t ht => ?_, (E3 hp hq sq h hk).2⟩;have : Sz (k + j + p.length * q.length) t.c.d := hz t ht;refine ⟨?_, this⟩;rw [(eC _).nf t ht];exact this.ok TX
structure iW (v : Int) (k : Nat) (l : List TR) : Prop where
 e : fH v l = 0
 ok : iI k l
 sz : ∀ t ∈ l, t.m.size ≤ 100000
theorem iW.mono {v : Int} (h : iW v k l) (hk : k ≤ j) : iW v j l := ⟨h.e, h.ok.mono hk, h.sz⟩
theorem iW.nil {v : Int} (hv : iU v = true) : iW v k [] := ⟨EE hv (T6 _) (fun _ h => nomatch h) ⟨.nil, (fun _ h => nomatch h), (fun _ h => nomatch h)⟩, (fun _ h => nomatch h), (fun _ h => nomatch h)⟩
theorem iW.len {v : Int} (h : iW v k l) : l.length ≤ 4096 := (ct h.e).2.1
theorem Fi {v : Int} {q : List TR} {T : Nat} (hp : iW v k p) (hq : iW v j q) (hT : q.length ≤ T) (h : eZ p q = 0) (hk : k + j ≤ 900000) : iW v (k + j + 4096 * T) (aE (cg p q)) := by
 obtain ⟨h6, h5, h4⟩ := j8 h;obtain ⟨f1, f2, f3, f4⟩ := ct hp.e;have := Aa hp.ok hq.ok hq.sz h hk;have hm : p.length * q.length ≤ 4096 * T := Vs hp.len hT;exact ⟨eA f1 h4 (mV f3 h5), this.1.mono TX, this.2⟩
theorem Dq {v : Int} {a b : List TR} (ha : iW v k a) (hb : iW v k b) (h : gp (a ++ b) = 0) (hk : k ≤ 3000000) : iW v (k + 8192) (aE (a ++ b)) := by
 obtain ⟨f1, f2, f3, f4⟩ := ct ha.e;obtain ⟨g1, g2, g3, g4⟩ := ct hb.e;have hl : (a ++ b).length ≤ 8192 := by rw [Ua]; omega
 refine ⟨eA f1 (sB h) fun t ht => ?_, lr (fun t ht => ?_) (show k + (a ++ b).length ≤ k + 8192 by omega) TX, nZ fun t ht => ?_⟩
 ·rcases UD.1 ht with h | h
  ·exact f3 t h
  ·exact g3 t h
 ·rcases UD.1 ht with h | h
  ·exact ha.ok t h
  ·exact hb.ok t h
 ·rcases UD.1 ht with h | h
  ·exact ha.sz t h
  ·exact hb.sz t h
theorem HS {v : Int} {q : List TR} {sub : List TR → Int × List TR} {a : Int × List TR} {S K T B S' : Nat} (ha : iW v S a.2) (hq : iW v K q) (hT : q.length ≤ T) (hb : (sub (bh p j n)).1 = 0 → iW v B (sub (bh p j n)).2) (h1 : S + K + 4096 * T + 8192 ≤ S') (h2 : B + 8192 ≤ S') (hS : S' ≤ 900000)
  (h : (hH q sub p j n a).1 = 0) : iW v S' (hH q sub p j n a).2 := by
 unfold hH at h ⊢;by_cases c0 : a.1 ≠ 0
 ·rw [T2 c0] at h; exact absurd h c0
 ·rw [T3 c0] at h ⊢;by_cases c1 : a.2.length = 0 ∧ (bh p j n).length = 0
  ·rw [T2 c1];exact ha.mono TX
  ·rw [T3 c1] at h ⊢;by_cases c2 : eZ a.2 q ≠ 0
   ·rw [T2 c2] at h; exact absurd h c2
   ·rw [T3 c2] at h ⊢;by_cases c3 : (sub (bh p j n)).1 ≠ 0
    ·rw [T2 c3] at h; exact absurd h c3
    ·rw [T3 c3] at h ⊢;by_cases c4 : gp (aE (cg a.2 q) ++ (sub (bh p j n)).2) ≠ 0
     ·rw [T2 c4] at h; exact absurd h c4
     ·rw [T3 c4];exact (Dq ((Fi ha hq hT TX TX).mono (show _ ≤ S' - 8192 by omega)) ((hb TX).mono TX) TX TX).mono TX
theorem FH (h : ∀ t ∈ p, fK j t < n) : bh p j n = [] := List.filter_eq_nil_iff.2 fun t ht => by
 have := h t ht;simp only [Up];omega
theorem jh : ∀ t ∈ bh p j n, t ∈ p := fun t ht => (Vf.1 ht).1
theorem gL {q p : List TR} {sub : List TR → Int × List TR} {j D : Nat} (h : ∀ t ∈ p, fK j t ≤ D) : ∀ i, i + D ≤ 127 → bA q sub p j i = (0, [])
 | 0, _ => rfl
 | i + 1, hi => by
  show hH q sub p j (127 - i) (bA q sub p j i) = _;rw [gL h i TX, show hH q sub p j (127 - i) (0, []) = (0, []) by
   unfold hH;rw [T3 TY, T2 ⟨rfl, by rw [FH fun t ht => by have := h t ht; omega]; rfl⟩]]
def fS (c : Nat) : List Nat → Nat → Nat
 | [], k => k
 | d :: ds, k => fS c ds k + d * c + 8192
theorem qF (c k : Nat) : fS c [] k = k := rfl
theorem oe (c d k : Nat) (ds : List Nat) : fS c (d :: ds) k = fS c ds k + d * c + 8192 := rfl
theorem tR {v : Int} {q p : List TR} {sub : List TR → Int × List TR} {j D K T B c : Nat} (hv : iU v = true) (hq : iW v K q) (hT : q.length ≤ T) (hD : ∀ t ∈ p, fK j t ≤ D) (hD2 : D ≤ 127) (hb : ∀ n, (sub (bh p j n)).1 = 0 → iW v B (sub (bh p j n)).2) (hc : K + 4096 * T + 8192 ≤ c) (hS : B + D * c + 8192 ≤ 900000) :
  ∀ i, i ≤ 128 → (bA q sub p j i).1 = 0 → iW v (B + (i + D - 128) * c + 8192) (bA q sub p j i).2
 | 0, _, _ => iW.nil hv
 | i + 1, hi, h0 => by
  by_cases h1 : i + 1 + D ≤ 127
  ·rw [gL hD _ h1];exact iW.nil hv
  ·have h2 : (bA q sub p j i).1 = 0 := by
    refine VO fun c => ?_;rw [jG c (Nat.le_succ i)] at h0;exact c h0
   have hle : (i + 1 + D - 128) * c ≤ D * c := U2 _ TX;by_cases h3 : i + D ≤ 127
   ·have h4 := gL (q := q) (sub := sub) hD i h3;show iW v _ (hH q sub p j (127 - i) (bA q sub p j i)).2;have h5 : (hH q sub p j (127 - i) (bA q sub p j i)).1 = 0 := h0;rw [h4] at h5 ⊢;rw [show i + 1 + D - 128 = 0 by omega, Wx];unfold hH at h5 ⊢;rw [T3 TY] at h5 ⊢;by_cases c1 : ((0 : Int), ([] : List TR)).2.length = 0 ∧ (bh p j (127 - i)).length = 0
    ·rw [T2 c1]; exact iW.nil hv
    ·rw [T3 c1] at h5 ⊢;by_cases c2 : eZ [] q ≠ 0
     ·rw [T2 c2] at h5; exact absurd h5 c2
     ·rw [T3 c2] at h5 ⊢;by_cases c3 : (sub (bh p j (127 - i))).1 ≠ 0
      ·rw [T2 c3] at h5; exact absurd h5 c3
      ·rw [T3 c3] at h5 ⊢;by_cases c4 : gp (aE (cg [] q) ++ (sub (bh p j (127 - i))).2) ≠ 0
       ·rw [T2 c4] at h5; exact absurd h5 c4
       ·rw [T3 c4];have hn : iW v B (aE (cg [] q)) := iW.nil hv;exact (Dq hn (hb _ TX) TX TX).mono TX
   ·have ih := tR hv hq hT hD hD2 hb hc hS i TX h2;have e1 : (i + 1 + D - 128) * c = (i + D - 128) * c + c := by rw [show i + 1 + D - 128 = (i + D - 128) + 1 by omega, Va]
    rw [e1] at hle ⊢;generalize (i + D - 128) * c = y at *;generalize D * c = z at *;exact HS ih hq hT (hb _) TX TX TX h0
theorem qw {v : Int} {x : NR} (hv : iU v = true) (hx : Sz k x.d) (hk : k ≤ 900000) : iW v (k + 1) (aE [⟨dJ v, x⟩]) := by
 have h1 := iA.1 hv;have h2 := lM h1.1;refine ⟨eA hv (Ur (bP _) (show 1 ≤ 4096 by decide)) fun t ht => ?_, fun t ht => ?_, fun t ht => ?_⟩
 ·rw [Un.1 ht];unfold eK;rw [Uj, Up];exact ⟨qT v, h2⟩
 ·have h1 : Sz (k + 1) t.c.d := mP (k := k) (l := [⟨dJ v, x⟩]) (fun s hs => by rw [Un.1 hs]; exact hx) t ht;exact ⟨by rw [(eC _).nf t ht]; exact h1.ok TX, h1⟩
 ·obtain ⟨s, hs, e⟩ := fR t ht;rw [← e, Un.1 hs];show (dJ v).size ≤ 100000;omega
theorem D4 {v : Int} {K T c0 : Nat} (hv : iU v = true) (hc0 : K + 4096 * T + 8192 ≤ c0) : ∀ (qs : List (List TR)) (j : Nat) (p : List TR) (ds : List Nat) (k : Nat), (∀ q ∈ qs, iW v K q ∧ q.length ≤ T) → iI k p → ds.length = qs.length → (∀ (i d : Nat), ds[i]? = some d → d ≤ 127 ∧ ∀ t ∈ p, fK (j + i) t ≤ d) → fS c0 ds (k + 1) ≤ 900000 →
  (ep v qs j p).1 = 0 → iW v (fS c0 ds (k + 1)) (ep v qs j p).2 := by
 intro qs
 induction qs with
 | nil =>
  intro j p ds k _ hok hds _ hB _;obtain rfl : ds = [] := V1.1 hds;rw [qF] at hB ⊢;refine qw hv ?_ TX;exact QF
 | cons q qs ih =>
  intro j p ds k hq hok hds hD hB h0
  cases ds with
  | nil => cases hds
  | cons d ds =>
   have hd := hD 0 d rfl;rw [oe] at hB ⊢;have hB1 : fS c0 ds (k + 1) ≤ 900000 := TX;have hsub : ∀ n, (ep v qs (j + 1) (bh p j n)).1 = 0 → iW v (fS c0 ds (k + 1)) (ep v qs (j + 1) (bh p j n)).2 := fun n hn => by
    refine ih (j + 1) (bh p j n) ds k (fun r hr => hq r (Uf _ hr)) (fun t ht => hok t (jh t ht)) (by simpa using hds) (fun i e he => ?_) hB1 hn;exact RW
   have h1 := tR (sub := ep v qs (j + 1)) (p := p) (j := j) hv (hq q Uc).1 (hq q Uc).2 hd.2 hd.1 hsub hc0 hB 128 (T5 _) h0;rw [show 128 + d - 128 = d by omega] at h1;exact h1
variable {fr : Nat}
theorem BA : ∀ {a b : List UInt8} {j : Nat} {x y : UInt8}, Op.bytesLess a b = true → a.take j = b.take j → a[j]? = some x → b[j]? = some y → x.toNat ≤ y.toNat
 | [], _, j, x, y, _, _, hx, _ => by simp at hx
 | _, [], j, x, y, _, _, _, hy => by simp at hy
 | c :: a, d :: b, 0, x, y, h, _, hx, hy => by
  simp only [W7, VQ] at hx hy;subst hx; subst hy;simp only [Op.bytesLess, Wd, Uj, Up, VI] at h
  rcases h with h | ⟨h, _⟩
  ·exact Nat.le_of_lt (UInt8.lt_iff_toNat_lt.1 h)
  ·rw [h]; exact T5 _
 | c :: a, d :: b, j + 1, x, y, h, ht, hx, hy => by
  simp only [List.take_succ_cons, List.cons.injEq] at ht;obtain ⟨rfl, ht⟩ := ht;simp only [WI] at hx hy;refine BA (a := a) (b := b) ?_ ht hx hy;simpa [Op.bytesLess] using h
structure DG (v : Int) (j : Nat) (p : List TR) : Prop where
 rL : sC p
 may : ∀ t ∈ p, eK v t = true
 pre : ∀ a ∈ p, ∀ b ∈ p, a.m.data.toList.take j = b.m.data.toList.take j
theorem DG.size {v : Int} (h : DG v j p) : ∀ t ∈ p, (t.m.data.toList.length : Int) = v := fun t ht => by
 rw [← dE];exact Vv (V8.1 (h.may t ht)).2
theorem DG.get {v : Int} (h : DG v j p) (hj : (j : Int) < v) {t : TR} (ht : t ∈ p) : ∃ e : UInt8, t.m.data.toList[j]? = some e ∧ fK j t = e.toNat ∧ e.toNat < 128 := by
 obtain ⟨e, he⟩ := ak (l := t.m.data.toList) (k := j) (by have := h.size t ht; omega);exact ⟨e, he, mE he, so (V8.1 (h.may t ht)).1 he⟩
theorem DG.mono {v : Int} (h : DG v j p) (hj : (j : Int) < v) : p.Pairwise fun a b => fK j a ≤ fK j b := by
 refine List.Pairwise.imp_of_mem (fun {a b} ha hb hl => ?_) h.rL;obtain ⟨x, hx, ex, _⟩ := h.get hj ha;obtain ⟨y, hy, ey, _⟩ := h.get hj hb;rw [ex, ey];exact BA hl (h.pre a ha b hb) hx hy
theorem DG.with {v : Int} (h : DG v j p) (hj : (j : Int) < v) : DG v (j + 1) (bh p j n) := by
 refine ⟨h.rL.filter _, fun t ht => h.may t (jh t ht), fun a ha b hb => ?_⟩;obtain ⟨ha1, ha2⟩ := Vf.1 ha;obtain ⟨hb1, hb2⟩ := Vf.1 hb;obtain ⟨x, hx, ex, _⟩ := h.get hj ha1;obtain ⟨y, hy, ey, _⟩ := h.get hj hb1;have exy : x = y := WV.1 (by rw [← ex, ← ey, Vv ha2, Vv hb2]);rw [ay hx, ay hy, h.pre a ha1 b hb1, exy]
theorem Ib {p : List α} {en : Nat} (h : fr ≤ en) : p.drop fr = (p.drop fr).take (en - fr) ++ p.drop en := by
 have : p.drop en = (p.drop fr).drop (en - fr) := by rw [List.drop_drop]; congr 1; omega
 rw [this, UZ]
theorem z9 {en : Nat} (hfe : fr ≤ en) (h1 : ∀ t ∈ p.take fr, fK j t < n) (h2 : ∀ t ∈ (p.drop fr).take (en - fr), fK j t = n) (h3 : ∀ t ∈ p.drop en, n < fK j t) : bh p j n = (p.drop fr).take (en - fr) := by
 have e : p = p.take fr ++ ((p.drop fr).take (en - fr) ++ p.drop en) := by
  have : p.drop en = (p.drop fr).drop (en - fr) := by rw [List.drop_drop]; congr 1; omega
  rw [this, UZ, UZ]
 unfold bh
 conv => lhs; rw [e]
 rw [W3, W3, List.filter_eq_nil_iff.2, List.filter_eq_self.2, List.filter_eq_nil_iff.2, Ub, UF]
 ·intro t ht;have := h3 t ht;simp only [Up];omega
 ·intro t ht;have := h2 t ht;simpa using this
 ·intro t ht;have := h1 t ht;simp only [Up];omega
theorem GH {x : TR} (h : p.Pairwise fun a b => fK j a ≤ fK j b) (hx : p[fr]? = some x) (hn : fK j x < n) : ∀ t ∈ p.take (fr + 1), fK j t < n := fun t ht => by
 rw [ay hx] at ht
 rcases UD.1 ht with ht | ht
 ·have e : p = p.take fr ++ x :: p.drop (fr + 1) := by rw [← gJ hx, UZ]
  rw [e, List.pairwise_append] at h;have := h.2.2 t ht x Uc;omega
 ·obtain rfl := Un.1 ht;exact hn
def Ta (p : PX) (i : Int) : Int := if p.e = 0 then (if i < 0 ∨ p.v ≤ i then 1 else 0) else p.e
def SA (i : Nat) (t : TR) : Option TR := match t.m.data.toList[i]? with | some e => if e.toNat = 0 then none else some ⟨str (t.m.data.toList.set i (e - 1)), nR (t.c.d * ((e.toNat : Int) : Dyadic))⟩ | none => none
def Tt (i : Nat) (l : List TR) : List TR := l.filterMap (SA i)
variable {w0 : World}
theorem JJ.Ly {H L : List HE} (hJ : JJ w0 H w W) (hs : Hp w0 H w) (hb : w.heap.size ≤ w1.heap.size) (hL : Hp w1 L W) : Hp w0 (L ++ H) W :=
 hs.join (⟨hJ.bl, fun x hx => mK (hL.own x hx) hb, hL.nd⟩ : Hp w L W)
def ph (base : Nat) (E v : Int) (ts : List TR) : VP := j7 base E v ts
theorem ph.ext {v : Int} (x : Value) (w w' : World) (h : ph base E v ts x w) (hb : Below w.heap.size w w') : ph base E v ts x w' := j7.ext x w w' h hb
theorem y4 (v : Int) : aE [⟨dJ v, nR 0⟩] = [] := by
 unfold aE lZ x6
 rfl
theorem Cg (lA : Option Addr) (lc K T c0 : Nat) (v : Int) (ls : List PX) (hv : iU v = true) (hlc : ls.length ≤ lc) (hl12 : ls.length ≤ 12) (hls : ∀ g ∈ ls, iW v K g.ts ∧ g.v = v ∧ g.l9 K ∧ g.ts.length ≤ T) (hc0 : K + 4096 * T + 8192 ≤ c0) (hc1 : c0 ≤ 440000) :
  ∀ (qs : List PX) (j : Nat) (p : List TR) (A : Option Addr) (n c : Nat) (ds : List Nat) (k : Nat) (w : World), ls.drop j = qs → j ≤ ls.length → eh w → Sl w lA ls.length 2 (az PX.cells ls) → (∀ g ∈ ls, g.at_ w) → Sl w A n 4 (az TR.cells p) → n ≤ c → DG ls.length j p → iI k p → n ≤ 4096 → ds.length = qs.length → (∀ (i d : Nat), ds[i]? = some d → d ≤ 127 ∧ ∀ t ∈ p, fK (j + i) t ≤ d) → fS c0 ds (k + 1) ≤ 440000 →
  Calls Tryz.prog 156 #[.slice A n c, .int .i64 j, .slice lA ls.length lc, .int .i64 v] w fun r w' => ∃ g : PX, eX (ep v (qs.map PX.ts) j p).1 v (ep v (qs.map PX.ts) j p).2 g ∧ r = .returned (.tuple #[.agg #[.int .i64 g.v, .slice g.A g.n g.c], .int .i64 (ep v (qs.map PX.ts) j p).1]) ∧ Hp w [g.row] w' := by
 intro qs;have hK : K ≤ 440000 := TX;have hco : z3 v = 0 := T3 (by rw [hv]; decide)
 induction qs with
 | nil =>
  intro j p A n c ds k w hq hj hT hL hat hS hnc hsr hok hn hds hD hB;have hh := Hp.start w;have hln := hS.bq TR.len TY;obtain rfl : j = ls.length := by
   have := U9 List.length hq;rw [Vn] at this;simp only [W4] at this;omega
  obtain rfl : ds = [] := V1.1 hds;rw [qF] at hB;have hcn := fun c hc w1 hT1 => jy v c k w1 hT1 hc TX;rw [hco] at hcn
  cases p with
  | nil =>
   obtain rfl : n = 0 := by simpa using hln.symm
   show Calls _ _ _ _ fun r w' => ∃ g : PX, eX 0 v (aE [⟨dJ v, nR 0⟩]) g ∧ r = .returned (.tuple #[.agg #[.int .i64 g.v, .slice g.A g.n g.c], .int .i64 0]) ∧ Hp w [g.row] w';refine aj (N := 118) (l := [.slice A 0 c, .int .i64 ls.length, .slice lA ls.length lc, .int .i64 v]) Tryz.func156 rfl rfl (by simp) ?_;refine sr ?_;refine bV hh ?_;intro b8 w8 hh;refine aI (aa (ah (sr (mI (mL (aJ ?_))))));refine db (aa (cT (ah (sr (mL (aJ ?_))))));refine db (aa (cT (sr (mI ?_))));refine gB [_,_,_] ?_;refine aF (hcn (nR 0) ⟨(Sz.zero k).ok TX, by rw [bR]; exact Sz.zero k⟩ _ (hT.hp hh)) al.out rfl TY ?_;rintro e_ w25 ⟨g, og, rfl, h3⟩;refine ⟨_, rfl, ?_⟩;replace hh := hh.join h3;simp only [Ud, Ub] at hh;refine du ?_;refine du ?_;refine bW hh 1 [_,_] ?_;intro ws hh;replace hh : Hp _ (_ :: .blk _ _ [_, _] _ :: _) _ := hh;refine aI (aa (au (aG (aG ?_))));exact Qc
  | cons t p =>
   have hn1 : p.length + 1 = n := by simpa using hln
   have ht := hok t Uc;obtain ⟨ad, rfl, hr⟩ := hS.at_ TX;show Calls _ _ _ _ fun r w' => ∃ g : PX, eX 0 v (aE [⟨dJ v, t.c⟩]) g ∧ r = .returned (.tuple #[.agg #[.int .i64 g.v, .slice g.A g.n g.c], .int .i64 0]) ∧ Hp w [g.row] w';refine aj (N := 118) (l := [.slice (some ad) n c, .int .i64 ls.length, .slice lA ls.length lc, .int .i64 v]) Tryz.func156 rfl rfl (by simp) ?_;refine sr ?_;refine bV hh ?_;intro b8 w8 hh;refine aI (aa (ah (sr (mI (mL (aJ ?_))))));refine db (aa (cT (ah (sr (mL (aJ ?_))))));refine db (aa (cF (ar (ai (sr (mI (mL ?_)))))));refine Di ?_;refine p6 ?_;refine cw (vs := [_, _, _]) aK.out rfl (((hr.ext hh.below).recAt TR.len (show (t :: p)[0]? = some t from rfl)).drop 1) rfl TY ?_;refine aF (hcn t.c ht _ (hT.hp hh)) al.out rfl TY ?_;rintro e_ w33 ⟨g, og, rfl, h3⟩;refine ⟨_, rfl, ?_⟩;replace hh := hh.join h3;simp only [Ud, Ub] at hh;refine du ?_;refine du ?_;refine bW hh 1 [_,_] ?_;intro ws hh;replace hh : Hp _ (_ :: .blk _ _ [_, _] _ :: _) _ := hh;refine aI (aa (au (aG ?_)));exact Qc
 | cons q qs ih =>
  intro j p A n c ds k w hq hj hT hL hat hS hnc hsr hok hn hds hD hB;have hh := Hp.start w;have hln := hS.bq TR.len TY
  cases ds with
  | nil => cases hds
  | cons d ds =>
   have hd := hD 0 d rfl;have hjl : j < ls.length := by
    rcases UP j ls.length with h | h
    ·exact h
    ·rw [Vz h] at hq; cases hq
   have hqj : ls[j]? = some q := by rw [← List.head?_drop, hq]; rfl
   have hqs : ls.drop (j + 1) = qs := by rw [← List.tail_drop, hq]; rfl
   obtain ⟨hqk, hqv, hql, hqT⟩ := hls q (T7 hqj);rw [oe] at hB;have hB1 : fS c0 ds (k + 1) ≤ 440000 := TX;have hmono := hsr.mono TX;rw [Ut];show Calls _ _ _ _ fun r w' => ∃ g : PX, eX (bA q.ts (ep v (qs.map PX.ts) (j + 1)) p j 128).1 v (bA q.ts (ep v (qs.map PX.ts) (j + 1)) p j 128).2 g ∧ r = .returned (.tuple #[.agg #[.int .i64 g.v, .slice g.A g.n g.c], .int .i64 (bA q.ts (ep v (qs.map PX.ts) (j + 1)) p j 128).1]) ∧ Hp w [g.row] w';have hDs : ∀ n (i e : Nat), ds[i]? = some e → e ≤ 127 ∧ ∀ t ∈ bh p j n, fK (j + 1 + i) t ≤ e := fun n i e he => by
    exact RW
   have hrec : ∀ (m fr en : Nat) (w1 : World), eh w1 → Below w.heap.size w w1 → fr ≤ en → en ≤ n → bh p j m = (p.drop fr).take (en - fr) → Calls Tryz.prog 156 #[.slice (if c = fr then A else A.map (·.add (fr * 4))) (en - fr) (c - fr), .int .i64 ((j : Int) + 1), .slice lA ls.length lc, .int .i64 v] w1 fun r w' => ∃ g : PX, eX (ep v (qs.map PX.ts) (j + 1) (bh p j m)).1 v (ep v (qs.map PX.ts) (j + 1) (bh p j m)).2 g ∧ r = .returned (.tuple #[.agg #[.int .i64 g.v, .slice g.A g.n g.c], .int .i64 (ep v (qs.map PX.ts) (j + 1) (bh p j m)).1]) ∧ Hp w1 [g.row] w' := fun m fr en w1 hT1 hb h1 h2 hw => by
    have hcut := (hS.ext hb).cut h1 h2 hnc;rw [jK TR.len, k5 TR.len, ← hw] at hcut;exact ih (j + 1) (bh p j m) _ (en - fr) (c - fr) ds k w1 hqs TX hT1 (hL.ext hb) (fun g hg => (hat g hg).ext hb) hcut TX (hsr.with TX) (fun t ht => hok t (jh t ht)) TX (by simpa using hds) (hDs m) hB1
   have hsub : ∀ m, (ep v (qs.map PX.ts) (j + 1) (bh p j m)).1 = 0 → iW v (fS c0 ds (k + 1)) (ep v (qs.map PX.ts) (j + 1) (bh p j m)).2 := fun m hm => by
    refine D4 hv hc0 (qs.map PX.ts) (j + 1) (bh p j m) ds k (fun r hr => ?_) (fun t ht => hok t (jh t ht)) (by rw [Ug]; simpa using hds) (hDs m) TX hm;obtain ⟨g, hg, rfl⟩ := Ui.1 hr;have := hls g (Xa (by rw [hqs]; exact hg));exact ⟨this.1, this.2.2.2⟩
   generalize ep v (qs.map PX.ts) (j + 1) = sub at hrec hsub ⊢;have hlim := tR (sub := sub) (p := p) (j := j) hv hqk hqT hd.2 hd.1 hsub hc0 TX;have hlim2 : ∀ i, i ≤ 128 → (bA q.ts sub p j i).1 = 0 → iW v 440000 (bA q.ts sub p j i).2 := fun i hi h0 => (hlim i hi h0).mono (by
    have : (i + d - 128) * c0 ≤ d * c0 := U2 _ TX;omega)
   have hcn := fun w1 hT1 => jy v (nR 0) 0 w1 hT1 ⟨(Sz.zero 0).ok TY, by rw [bR]; exact Sz.zero 0⟩ TY;rw [hco, y4] at hcn;refine aj (N := 118) (l := [.slice A n c, .int .i64 j, .slice lA ls.length lc, .int .i64 v]) Tryz.func156 rfl rfl (by simp) ?_;refine sr ?_;refine bV hh ?_;intro b8 w8 hh;refine aI (aa (ah (sr (mI (mL (aJ ?_))))));refine db (aa (cF (ar (ai (sr (mI ?_))))));refine gB [_,_,_] ?_;refine aF (hcn _ (hT.hp hh)) al.out rfl TY ?_;rintro e_ w39 ⟨g, og, rfl, h3⟩;refine ⟨_, rfl, ?_⟩;replace hh := hh.join h3;simp only [Ud, Ub] at hh;refine mT ?_;refine du ?_;refine du ?_;refine bV hh ?_;intro b10 w10 hh;refine bW hh 0 [_,_] ?_;intro ws hh;replace hh : Hp _ (.blk _ _ [_, _] _ :: _) _ := hh;refine aI (aa (sr (mL (aJ (aI (aa (ah (sr (aI (aa (aq ?_)))))))))));refine y8 [11, 12, 13, 14, 15, 44, 45, 46, 47, 48, 49, 50, 51, 52, 53, 54, 55, 56, 57, 58, 59, 60, 61, 62, 63, 64, 65, 66, 67, 68, 69, 70, 71, 72, 73, 74, 75, 76, 77, 78, 79, 80, 81, 82, 83, 84, 85, 86, 87, 88, 89, 90, 91, 92, 93, 94, 95, 96, 97, 98, 99, 100, 101, 102, 103, 104, 105, 106, 107, 108, 109, 110, 111, 112] 11 12 13
    (fun e en nv w' => ∃ (i en_ : Nat) (e_ ov : Int) (oA : Option Addr) (on oc : Nat) (os : List TR), i ≤ 128 ∧ nv = .int .i64 (127 - (i : Int)) ∧ en = .int .i64 en_ ∧ e = .int .i64 e_ ∧ e_ = (bA q.ts sub p j i).1 ∧ en_ ≤ n ∧ (e_ = 0 → ov = v ∧ os = (bA q.ts sub p j i).2 ∧ (∀ t ∈ p.take en_, fK j t < 128 - i) ∧ (∀ t ∈ p.drop en_, 128 - i ≤ fK j t)) ∧ Hp w [.blk b10 24 [.int .i64 ov, .slice oA on oc] (0, 0), .row oA on oc 96 4 (az TR.cells os), .blk b8 24 [.int .i64 0, .slice none 0 0] (0, 0)] w')
    (fun _ _ nv _ => (intOf nv + 1).toNat) ?_ ?_
   ·refine ⟨0, n, 0, g.v, g.A, g.n, g.c, g.ts, T6 _, rfl, rfl, rfl, rfl, T5 _, fun _ => ⟨og.v, og.ts, fun t ht => ?_, fun t ht => ?_⟩, hh⟩
    ·obtain ⟨x, _, hx, h8⟩ := hsr.get TX (Wa ht);rw [hx];exact h8
    ·rw [Vz TX] at ht
     cases ht
   ·clear hh og h3;rintro ρ' e_ en_ nv_ w' ⟨i, en, e, ov, oA, on, oc, os, hi, rfl, rfl, rfl, he, hen, hok0, hh⟩;by_cases hcn : i < 128 ∧ e = 0
    ·obtain ⟨hi8, rfl⟩ := hcn;obtain ⟨rfl, rfl, hlo, hhi⟩ := hok0 rfl;clear hok0;obtain ⟨m, hm⟩ : ∃ m, m = 127 - i := ⟨_, rfl⟩;rw [show (127 - (i : Int)) = (m : Int) by omega];refine ah (sr (mI ?_));refine dW (mB (gT (mI (gT ?_))));refine db ?_;refine fL ?_;refine aa (cT (ar (ai (ah (aq (sr (mI (aI (aa (ah (aq ?_)))))))))));refine J7 zL2 14
      (fun f w' => ∃ fr : Nat, fr ≤ en ∧ f = .int .i64 fr ∧ bh p j m = (p.drop fr).take (en - fr) ∧ (∀ t ∈ p.take fr, fK j t < m) ∧ Hp w [.blk b10 24 [.int .i64 ov, .slice oA on oc] (0, 0), .row oA on oc 96 4 (az TR.cells (bA q.ts sub p j i).2), .blk b8 24 [.int .i64 0, .slice none 0 0] (0, 0)] w') ?_ ?_
     ·refine aP zL2 14
       (fun f w' => ∃ fr : Nat, fr ≤ en ∧ f = .int .i64 fr ∧ (∀ t ∈ (p.drop fr).take (en - fr), fK j t = m) ∧ Hp w [.blk b10 24 [.int .i64 ov, .slice oA on oc] (0, 0), .row oA on oc 96 4 (az TR.cells (bA q.ts sub p j i).2), .blk b8 24 [.int .i64 0, .slice none 0 0] (0, 0)] w')
       (fun f _ => (intOf f).toNat) ?_ ?_
      ·exact ⟨en, T5 _, rfl, (fun t ht => by rw [UW] at ht; cases ht), hh⟩
      ·clear hh;rintro ρ' f w' ⟨fr, hfr, rfl, hmid, hh⟩;by_cases h0 : 0 < fr
       ·obtain ⟨fr, rfl⟩ : ∃ g, fr = g + 1 := ⟨fr - 1, TX⟩;obtain ⟨x, hx⟩ := ak (l := p) (k := fr) TX;obtain ⟨ad, rfl, hr⟩ := hS.at_ TX;obtain ⟨e, hex, hxe, h8⟩ := hsr.get TX (T7 hx);by_cases hem : e.toNat = m
        ·refine ah (sr (mI ?_));refine cm (mB (gT (mL (gT (mI (gT ?_))))));refine dY (gT ?_);refine da (k := fr) bk.out aK.size rfl rfl TX TX TY ?_;refine gT ?_;refine p6 ?_;refine aH rfl rfl ?_;refine Ia ?_;refine gT (mI (gT ?_));refine j0 ?_;refine gT ?_;refine AD ?_;refine gT (mI (gT ?_));refine db ?_;refine fL ?_;refine aa (cT (ar (ai (aq (ao (mI ?_))))));refine dY (aI (aA (bE (ai ?_))));refine ⟨⟨fr, TX, by show Value.int .i64 (((fr + 1 : Nat) : Int) - 1) = _; congr 1; omega, fun t ht => ?_, hh⟩, by show (((fr + 1 : Nat) : Int) - 1).toNat < ((fr + 1 : Nat) : Int).toNat; omega, ?_⟩
         ·rw [gJ hx, show en - fr = (en - (fr + 1)) + 1 by omega, List.take_succ_cons] at ht
          rcases Ul.1 ht with rfl | ht
          ·rw [hxe, hem]
          ·exact hmid t ht
         ·exact dQ
        ·have hlt : e.toNat < m := by
          have := hlo x (by rw [show en = (fr + 1) + (en - (fr + 1)) by omega, List.take_add]; exact VT _ (by rw [ay hx]; exact VK _ Uc));omega
         have hall := GH hmono hx (n := m) (by rw [hxe]; exact hlt);refine ah (sr (mI ?_));refine cm (mB (gT (mL (gT (mI (gT ?_))))));refine dY (gT ?_);refine da (k := fr) bk.out aK.size rfl rfl TX TX TY ?_;refine gT ?_;refine p6 ?_;refine aH rfl rfl ?_;refine Ia ?_;refine gT (mI (gT ?_));refine j0 ?_;refine gT ?_;refine AD ?_;refine gT (mI (gT ?_));refine db ?_;refine fL ?_;refine aa (cF (a6 (aD (aD (bB (ai ?_))))));refine ⟨⟨fr + 1, hfr, rfl, z9 hfr hall hmid (fun t ht => by have := hhi t ht; omega), hall, hh⟩, ?_⟩;exact dQ
       ·obtain rfl : fr = 0 := TX;refine ah (sr (mI ?_));refine cm (mB ?_);refine gS (gS (gS (gS (gS ?_))));refine ju ?_;refine gS (gS (gS (gS (gS ?_))));refine e7 ?_;refine aa (cF (a6 (aD (aD (bB (ai ?_))))));refine ⟨⟨0, hfr, rfl, z9 hfr (fun t ht => by cases ht) hmid (fun t ht => by have := hhi t ht; omega), (fun t ht => by cases ht), hh⟩, ?_⟩;exact dQ
     ·skip;clear hh;rintro ρ' f w' ⟨fr, hfr, rfl, hwi, hbl, hh⟩;have hnx : bA q.ts sub p j (i + 1) = hH q.ts sub p j m (bA q.ts sub p j i) := by rw [iV, hm]
      have hop := hlim2 i TX he.symm;unfold hH at hnx;rw [T3 (by rw [← he]; decide)] at hnx;have hmi : m = 128 - (i + 1) := TX;have hmi2 : (127 - ((i + 1 : Nat) : Int)) = (m : Int) - 1 := TX;have hdf : ∀ t ∈ p.drop fr, m ≤ fK j t := fun t ht => by
       rw [Ib hfr] at ht
       rcases UD.1 ht with ht | ht
       ·rw [← hwi] at ht;have := Vv (Vf.1 ht).2;omega
       ·have := hhi t ht;omega
      have hst : (bA q.ts sub p j i) = (0, (bA q.ts sub p j i).2) := by rw [he]
      generalize (bA q.ts sub p j i).2 = os at *;have hoc : on ≤ oc := hh.e8 (i := 1) rfl;have hon : os.length = on := (hh.aC (i := 1) rfl).bq TR.len TY;have hwl : (bh p j m).length = en - fr := by rw [hwi, Us, Vn]; omega
      by_cases hsk : os.length = 0 ∧ (bh p j m).length = 0
      ·rw [T2 hsk] at hnx;obtain ⟨h1, h2⟩ := hsk;obtain rfl : on = 0 := TX;obtain rfl : fr = en := TX;refine ah (sr (bH ?_));refine bG hh 0 ?_;refine aJ ?_;refine db (mB (gT (mI (gT (mI (gT ?_))))));refine db ?_;refine fL ?_;refine aa (cT (a6 (aD (bB (ai (ao (mI ?_)))))));refine dY (aI (aA (ai ?_)));refine ⟨⟨i + 1, fr, 0, ov, oA, 0, oc, os, TX, by rw [hmi2]; rfl, rfl, rfl, by rw [hnx]; exact he, hen, fun _ => ⟨rfl, by rw [hnx, hst], fun t ht => by rw [← hmi]; exact hbl t ht, fun t ht => by rw [← hmi]; exact hdf t ht⟩, hh⟩, by show ((m : Int) - 1 + 1).toNat < ((m : Int) + 1).toNat; omega, ?_⟩;exact dQ
      ·rw [T3 hsk] at hnx;refine Gq [70, 71, 72, 73, 74, 75, 76, 77, 78]
        (fun w' => Hp w [.blk b10 24 [.int .i64 ov, .slice oA on oc] (0, 0), .row oA on oc 96 4 (az TR.cells os), .blk b8 24 [.int .i64 0, .slice none 0 0] (0, 0)] w') ?_ ?_
       ·by_cases h0 : on = 0
        ·subst h0;have hne : fr ≠ en := fun h => hsk ⟨hon, TX⟩;refine sr (bH ?_);refine bG hh 0 ?_;refine aJ ?_;refine db (mB (gT (mI (gT (mI (gT ?_))))));refine db ?_;refine fL ?_;refine aa (cF (ar (ai ?_)));refine ⟨hh, ?_⟩;exact KX
        ·refine sr (bH ?_);refine bG hh 0 ?_;refine aJ ?_;refine db (mB ?_);refine gS (gS (gS ?_));refine e7 ?_;refine aa (cF (ar (ai ?_)));refine ⟨hh, ?_⟩;exact KX
       ·skip;clear hh;rintro ρ' w' hh;obtain ⟨lad, rfl, hlr⟩ := hL.at_ TX;have hlp : eY [⟨ov, oA, on, oc, os⟩, q] = 0 := o8 hop.e (by unfold PX.e; rw [hqv]; exact hqk.e) hqv;have hmu : ∀ (A2 : Option Addr) (w1 : World), eh w1 → Sl w1 A2 2 2 (az PX.cells [⟨ov, oA, on, oc, os⟩, q]) → Sl w1 oA on 4 (az TR.cells os) → Below w.heap.size w w1 → Calls Tryz.prog 17 #[.slice A2 2 2] w1 fun r w' => ∃ g : PX, eX (eZ os q.ts) ov (aE (cg os q.ts)) g ∧ r = .returned (.tuple #[.agg #[.int .i64 g.v, .slice g.A g.n g.c], .int .i64 (eZ os q.ts)]) ∧ Hp w1 [g.row] w' := fun A2 w1 hT1 s1 s2 hb => by
         have h1 := zI A2 2 2 [⟨ov, oA, on, oc, os⟩, q] 440000 505536 w1 hT1 s1 TY TY (fun g hg => by
          rcases Ul.1 hg with rfl | hg
          ·exact s2
          ·rw [Un.1 hg]; exact (hat q (T7 hqj)).ext hb) (fun g hg => by
          rcases Ul.1 hg with rfl | hg
          ·exact ⟨by have := hop.len; show on ≤ 1000000; omega, hoc, hop.ok, hop.sz⟩
          ·rw [Un.1 hg]; exact ⟨hql.n, hql.cap, hql.ok.mono hK, hql.sz⟩) TY TY
         unfold Er at h1;rw [T2 hlp] at h1;exact h1
        refine sr ?_;refine bV hh ?_;intro b15 w15 hh;refine aa (ah (ah ?_));refine eu [] [9] [0, 0, 0, 6, 14, 31, 63, 127, 255, 255, 511, 2047] 10 [[(10, none)], [(2, none)], [(1, none)], [(81, some 1), (82, some 2)], [(83, some 3)], [(80, some 0), (84, some 4)], [(85, some 5)], [(86, some 6)], [(79, some 7)], [(79, some 7)]] [(9, 88), (8, 87), (7, 79), (6, 86), (5, 85), (4, 84), (3, 83), (2, 82), (1, 81), (0, 80)] hh mixed TZ fk rfl (by repeat (first | exact cA | refine bQ ?_ | refine cE ?_)) ?_;refine fU 1 [_,_] ?_;refine fT ?_;refine dF ?_;refine l3 (j) ?_;refine r9 [_,_] (fun _ hj => (hlr.ext hj.hp.below).recAt PX.len hqj) ?_;refine aT (i := 5) (iT 2 2 (az PX.cells [⟨ov, oA, on, oc, os⟩, q])) (iT.ext) ?_ ?_
        ·intro ρ1 w1 hj hR;exact ja (sz := 2) bk.out aK.out (show vT ρ1 [(0, .tmp 80), (1, .tmp 84)] = [(0, .agg #[.int .i64 ov, .slice oA on oc]), (1, .agg #[.int .i64 q.v, .slice q.A q.n q.c])] from aM (show ρ1 80 = _ from hR.1) (aM (show ρ1 84 = _ from hR.2.1) bU)) rfl rfl TY TY rfl fun v w2 h hb => ⟨hb, h⟩
        refine aT (i := 6) (jR hh.sz (eZ os q.ts) ov (aE (cg os q.ts))) (jR.ext) ?_ ?_
        ·intro ρ1 w1 hj hR;obtain ⟨g85, e85, o85⟩ := hR.1;exact let ⟨b, e1, s1⟩ := hR.1; bf rfl (aO al.out (aw e1 aZ)) (hmu _ w1 (hT.hp hj.hp) s1 (hj.hp.aC (i := 2) rfl) hj.hp.below) (fun _ _ ⟨g, og, hq, h3⟩ => ⟨_, hq, h3.below, g, w1, rfl, og, hj.bl.size, h3⟩)
        refine aT (i := 7) (jR hh.sz (eZ os q.ts) ov (aE (cg os q.ts))) (jR.ext) ?_ ?_
        ·exact OZ
        refine aT (i := 8) (ph hh.sz (eZ os q.ts) ov (aE (cg os q.ts))) (ph.ext) ?_ ?_
        ·exact PM
        refine aT (i := 9) (Is (.int .i64 (eZ os q.ts))) (Is.ext) ?_ ?_
        ·exact P3
        refine aR ?_;intro f W hJ hV _;have hb_15 := hJ.bl;obtain ⟨v88, v87, v79, v86, v85, v84, v83, v82, v81, v80, _⟩ := hV;obtain ⟨g85, e85, o85⟩ : iT 2 2 (az PX.cells [⟨ov, oA, on, oc, os⟩, q]) (f 5) W := v85;obtain ⟨g86, u86, e86, -⟩ := v86;obtain ⟨g79, u79, e79, -⟩ := v79;obtain ⟨g87, u87, e87, o87, q87, h87⟩ := v87;replace hh := JJ.Ly hJ hh q87 h87;refine aY (br (ae v88 (ae e87 (ae e79 (ae e86 (ae e85 (ae v84 (ae v83 (ae v82 (ae v81 (ae v80 aX))))))))))) ?_;dsimp only [cf];clear e85 e86 e79 e87 hJ;simp only [Ud, Ub] at hh;obtain ⟨gv, gA, gn, gc, gts⟩ := g87;replace hh := show Hp w (.row gA gn gc 96 4 (az TR.cells gts) :: _) W from hh;by_cases hte : eZ os q.ts = 0
        ·rw [T3 (by rw [hte]; decide)] at hnx;rw [hte] at o87;obtain rfl : ov = gv := o87.v.symm;obtain rfl : aE (cg os q.ts) = gts := o87.ts.symm;have hgc : gn ≤ gc := hh.e8 (i := 0) rfl;have hgl : (aE (cg os q.ts)).length = gn := (hh.aC (i := 0) rfl).bq TR.len TY;have hgo := Fi hop hqk hqT hte TX;refine bW hh 2 [_,_] ?_;intro ws hh;replace hh : Hp _ (_ :: _ :: .blk _ _ [_, _] _ :: _) _ := hh;refine aI (aa (sr (mI ?_)));refine db (aa (cT (ao (mL (mI (mI ?_))))));dsimp only at hh;refine aQ rfl rfl TY (iZ (lo := some (.tmp 93)) (hi := some (.tmp 94)) (l := fr) (h := en) bk.out aK.size rfl ⟨_, _, rfl, rfl⟩ ⟨_, _, rfl, rfl⟩ hfr TX) ?_;refine mI ?_;refine bj (mL (mI ?_));refine aF (hrec m fr en _ (hT.hp hh) hh.below hfr hen hwi) al.out rfl TY ?_;rintro e_ w100 ⟨g2, og2, rfl, h4⟩;refine ⟨_, rfl, ?_⟩;replace hh := hh.join h4;simp only [Ud, Ub] at hh;have hs2 := hsub m;obtain ⟨hv2, hA2, hn2, hc2, ht2⟩ := g2;replace hh := show Hp w (.row hA2 hn2 hc2 96 4 (az TR.cells ht2) :: _) _ from hh;by_cases hE2 : (sub (bh p j m)).1 = 0
         ·rw [T3 (by rw [hE2]; decide)] at hnx;rw [hE2] at og2;obtain rfl : ov = hv2 := og2.v.symm;obtain rfl : (sub (bh p j m)).2 = ht2 := og2.ts.symm;have ho2 := hs2 hE2;have hc2c : hn2 ≤ hc2 := hh.e8 (i := 0) rfl;have hl2 : ((sub (bh p j m)).2).length = hn2 := (hh.aC (i := 0) rfl).bq TR.len TY;generalize (sub (bh p j m)).2 = us at *;refine mT ?_;refine du ?_;refine du ?_;refine bW hh 2 [_,_] ?_;intro ws hh;replace hh : Hp _ (_ :: _ :: .blk _ _ [_, _] _ :: _) _ := hh;refine aI (aa (ah (sr (mI ?_))));refine db (aa (cT (ao ?_)));refine cG hh 3 [_,_] ?_;refine cG hh 2 [_,_] ?_;refine DN ?_;intro b108 w108 hh;dsimp only at hh;have hlp2 : eY [⟨ov, gA, gn, gc, aE (cg os q.ts)⟩, ⟨ov, hA2, hn2, hc2, us⟩] = 0 := o8 hgo.e ho2.e rfl;have had := n8 (some ⟨b108, 0, none⟩) 2 2 [⟨ov, gA, gn, gc, aE (cg os q.ts)⟩, ⟨ov, hA2, hn2, hc2, us⟩] 2000000 _ (hT.hp hh) (hh.aC (i := 0) rfl) TY (fun g hg => by
           rcases Ul.1 hg with rfl | hg
           ·exact hh.aC (i := 2) rfl
           ·rw [Un.1 hg]; exact hh.aC (i := 1) rfl) (fun g hg => by
           rcases Ul.1 hg with rfl | hg
           ·exact ⟨by have := hgo.len; show gn ≤ 1000000; omega, hgc, hgo.ok.mono TX, hgo.sz⟩
           ·rw [Un.1 hg]; exact ⟨by have := ho2.len; show hn2 ≤ 1000000; omega, hc2c, ho2.ok.mono TX, ho2.sz⟩) TY
          unfold FT at had;rw [T2 hlp2, Jg] at had;dsimp only at had;refine aF (had) al.out rfl TY ?_;rintro e_ w109 ⟨g3, og3, rfl, h5⟩;refine ⟨_, rfl, ?_⟩;replace hh := hh.join h5;simp only [Ud, Ub] at hh;obtain ⟨hv3, hA3, hn3, hc3, ht3⟩ := g3;replace hh := show Hp w (.row hA3 hn3 hc3 96 4 (az TR.cells ht3) :: _) _ from hh;refine mT ?_;refine du ?_;refine du ?_;refine bW hh 5 [_,_] ?_;intro ws hh;replace hh : Hp _ (_ :: _ :: _ :: _ :: _ :: .blk _ _ [_, _] _ :: _) _ := hh;refine aI (aa (ao (mI (aI (aA (bE (ai (ao (mI ?_)))))))));refine dY (aI (aA (ai ?_)));replace hh := hh.sub (T4 _ (T8 _ (T8 _ (T8 _ (T8 _ (T4 _ (T8 _ (T4 _ UA))))))));replace hh := hh.perm (U3 (l₁ := [_]));simp only [Ud, Ub] at hh;try dsimp only at hh
          refine ⟨⟨i + 1, fr, gp (aE (cg os q.ts) ++ us), hv3, hA3, hn3, hc3, ht3, TX, by rw [hmi2]; rfl, rfl, rfl, ?_, TX, fun h => ⟨?_, ?_, fun t ht => by rw [← hmi]; exact hbl t ht, fun t ht => by rw [← hmi]; exact hdf t ht⟩, hh⟩, by show ((m : Int) - 1 + 1).toNat < ((m : Int) + 1).toNat; omega, ?_⟩
          ·rw [hnx];by_cases hg : gp (aE (cg os q.ts) ++ us) ≠ 0
           ·rw [T2 hg]
           ·rw [T3 hg]; omega
          ·have := og3.v;rw [T2 h] at this;exact this
          ·rw [hnx, T3 (by rw [h]; decide)];have := og3.ts;rw [T2 h] at this;exact this
          ·exact dQ
         ·rw [T2 hE2] at hnx;refine mT ?_;refine du ?_;refine du ?_;refine bW hh 2 [_,_] ?_;intro ws hh;replace hh : Hp _ (_ :: _ :: .blk _ _ [_, _] _ :: _) _ := hh;refine aI (aa (ah (sr (mI ?_))));refine db (aa (cF (ar (ai (ao (mI (aI (aA (bE (ai (ao (mI ?_))))))))))));refine dY (aI (aA (ai ?_)));replace hh := hh.sub (T8 _ (T4 _ (T8 _ (T4 _ (T8 _ (T4 _ UA))))));replace hh := hh.perm (U3 (l₁ := [_]));simp only [Ud, Ub] at hh;refine ⟨⟨i + 1, fr, _, ov, gA, gn, gc, aE (cg os q.ts), TX, by rw [hmi2]; rfl, rfl, rfl, by rw [hnx], TX, fun h => absurd h hE2, hh⟩, by show ((m : Int) - 1 + 1).toNat < ((m : Int) + 1).toNat; omega, ?_⟩;exact dQ
        ·rw [T2 hte] at hnx;refine bW hh 2 [_,_] ?_;intro ws hh;replace hh : Hp _ (_ :: _ :: .blk _ _ [_, _] _ :: _) _ := hh;refine aI (aa (sr (mI ?_)));refine db (aa (cF (ar (ai (ah (sr (mI ?_)))))));refine db (aa (cF (ar (ai (ao (mI (aI (aA (bE (ai (ao (mI ?_))))))))))));refine dY (aI (aA (ai ?_)));replace hh := hh.sub (T4 _ (T8 _ (T4 _ (T8 _ (T4 _ UA)))));replace hh := hh.perm (U3 (l₁ := [_]));simp only [Ud, Ub] at hh;refine ⟨⟨i + 1, fr, eZ os q.ts, gv, gA, gn, gc, gts, TX, by rw [hmi2]; rfl, rfl, rfl, by rw [hnx], TX, fun h => absurd h hte, hh⟩, by show ((m : Int) - 1 + 1).toNat < ((m : Int) + 1).toNat; omega, ?_⟩;exact dQ
    ·have hfin : bA q.ts sub p j 128 = bA q.ts sub p j i := by
      by_cases h8 : i = 128
      ·rw [h8]
      ·exact jG TX hi
     rw [hfin];by_cases he0 : e = 0
     ·subst he0;obtain ⟨rfl, rfl, -, -⟩ := hok0 rfl;clear hok0 hfin;generalize bA q.ts sub p j i = X at *;obtain rfl : i = 128 := TX;rw [← he];refine ah (sr (mI ?_));refine dW (mB ?_);refine gS (gS ?_);refine e7 ?_;refine aa (cF (a6 (aD (aD (bB (ai (ah (sr (mI ?_)))))))));refine tW ?_;refine cG hh 0 [_,_] ?_;refine bW hh 2 [_,_] ?_;intro ws hh;replace hh : Hp _ (_ :: _ :: .blk _ _ [_, _] _ :: _) _ := hh;refine aI (aa (au ?_));refine rJ ?_;exact ⟨⟨ov, oA, on, oc, _⟩, ⟨rfl, rfl⟩, rfl, hh.sub (.cons _ (T4 _ (Vh _)))⟩
     ·rw [← he];clear hok0 hfin;generalize bA q.ts sub p j i = X at *;by_cases h8 : i = 128
      ·subst h8;refine ah (sr (mI ?_));refine dW (mB ?_);refine gS (gS ?_);refine e7 ?_;exact Rg
      ·refine ah (sr (mI ?_));refine dW (mB (gT (mI (gT ?_))));refine db ?_;refine fL ?_;exact Rg
def cQ (p : PX) (ls : List PX) : Int × List TR :=
 if p.e ≠ 0 then (p.e, []) else if (ls.length : Int) ≠ p.v then (1, []) else if ls.length ≠ 0 ∧ eY ls ≠ 0 then (eY ls, []) else ep (eW ls) (ls.map PX.ts) 0 p.ts
theorem C8 (f : PX) (p : Addr) (x : Int) (w : World) (hp : w.cell? p = some (.int .i64 x)) :
  Calls Tryz.prog 155 #[.agg #[.int .i64 f.v, .slice f.A f.n f.c], .pointer (some p)] w fun r w' => r = .returned (.bool (decide (f.v ≠ x))) ∧ Below w.heap.size w w' := by
 have hh := Hp.start w;by_cases hg : f.v = x
 ·refine aj (N := 8) (l := [.agg #[.int .i64 f.v, .slice f.A f.n f.c], .pointer (some p)]) Tryz.func155 rfl rfl (by simp) ?_;refine sr ?_;refine cD hh [_,_] ?_;intro b2 w2 hh;refine aB (aa (sr (bH ?_)));refine bG hh 0 ?_;refine bT aK.out rfl ((hh.below.cell (lv hp)).trans hp) TY ?_;exact M9
 ·refine aj (N := 8) (l := [.agg #[.int .i64 f.v, .slice f.A f.n f.c], .pointer (some p)]) Tryz.func155 rfl rfl (by simp) ?_;refine sr ?_;refine cD hh [_,_] ?_;intro b2 w2 hh;refine aB (aa (sr (bH ?_)));refine bG hh 0 ?_;refine bT aK.out rfl ((hh.below.cell (lv hp)).trans hp) TY ?_;exact Oc
structure Sy (p : PX) (ls : List PX) (k K T c0 : Nat) (ds : List Nat) : Prop where
 len : ds.length = ls.length
 SC : ∀ (i d : Nat), ds[i]? = some d → d ≤ 127 ∧ ∀ t ∈ p.ts, fK i t ≤ d
 grow : fS c0 ds (k + 1) ≤ 440000
 step : K + 4096 * T + 8192 ≤ c0
 top : c0 ≤ 440000
 l9 : ∀ g ∈ ls, g.l9 K
 N0 : ∀ g ∈ ls, g.ts.length ≤ T
theorem zD {v : Int} (h : fH v ts = 0) : DG v 0 ts := by
 obtain ⟨_, _, h3, h4⟩ := ct h;exact ⟨h4.rL, h3, fun a _ b _ => by rw [Wb, Wb]⟩
theorem pW (p : PX) (lA : Option Addr) (lc : Nat) (ls : List PX) (k K T c0 : Nat) (ds : List Nat) (w : World) (hT : eh w) (hp : p.at_ w) (lp : p.l9 k) (hL : Sl w lA ls.length 2 (az PX.cells ls)) (hat : ∀ g ∈ ls, g.at_ w) (hlc : ls.length ≤ lc) (hf : Sy p ls k K T c0 ds) :
  Calls Tryz.prog 69 #[.agg #[.int .i64 p.v, .slice p.A p.n p.c], .slice lA ls.length lc] w fun r w' => ∃ g : PX, eX (cQ p ls).1 (eW ls) (cQ p ls).2 g ∧ r = .returned (.tuple #[.agg #[.int .i64 g.v, .slice g.A g.n g.c], .int .i64 (cQ p ls).1]) ∧ Hp w [g.row] w' := by
 have hh := Hp.start w;have hck := fun w1 hT1 hb => mO p k w1 hT1 (hp.ext hb) lp;unfold cQ;by_cases h0 : p.e ≠ 0
 ·rw [T2 h0];generalize p.e = e at *;refine aj (N := 54) (l := [.agg #[.int .i64 p.v, .slice p.A p.n p.c], .slice lA ls.length lc]) Tryz.func69 rfl rfl (by simp) ?_;refine sr ?_;refine cD hh [_,_] ?_;intro b2 w2 hh;refine bV hh ?_;intro b4 w4 hh;refine aI (aa (ah (sr ?_)));refine cG hh 1 [_,_] ?_;refine fJ ?_;intro w12 hh;exact K7
 ·rw [T3 h0];have hpe : p.e = 0 := TX;rw [hpe] at hck;by_cases h1 : (ls.length : Int) ≠ p.v
  ·rw [T2 h1];refine aj (N := 54) (l := [.agg #[.int .i64 p.v, .slice p.A p.n p.c], .slice lA ls.length lc]) Tryz.func69 rfl rfl (by simp) ?_;refine sr ?_;refine cD hh [_,_] ?_;intro b2 w2 hh;refine bV hh ?_;intro b4 w4 hh;refine aI (aa (ah (sr ?_)));refine cG hh 1 [_,_] ?_;refine fJ ?_;intro w12 hh;refine aI (aa (sr (mI ?_)));refine rz ?_;refine bG hh 1 ?_;refine dn (aa (cT (sr ?_)));exact Lm
  ·rw [T3 h1];obtain ⟨hfw, h4, hmy, hca⟩ := ct hpe;replace hfw := iA.1 hfw;have hl12 : ls.length ≤ 12 := TX;have hpl := hp.ln;have hsr := zD hpe;have hput := fun (v : Int) (hv : iU v = true) (hz : ∀ g ∈ ls, fH v g.ts = 0) (hvv : ∀ g ∈ ls, g.v = v) w1 hT1 hb => Cg lA lc K T c0 v ls hv hlc hl12 (fun g hg => ⟨⟨hz g hg, (hf.l9 g hg).ok, (hf.l9 g hg).sz⟩, hvv g hg, hf.l9 g hg, hf.N0 g hg⟩) hf.step hf.top ls 0 p.ts p.A p.n p.c ds k w1 rfl (T6 _) hT1 (hL.ext hb) (fun g hg => (hat g hg).ext hb) (hp.ext hb) lp.cap (by rw [show ((ls.length : Nat) : Int) = p.v by omega]; exact hsr) lp.ok TX hf.len (fun i d h => by rw [Uv]; exact hf.SC i d h) hf.grow;by_cases hn : ls = []
   ·subst hn;rw [T3 (fun h => h.1 rfl)];have hpu := hput 0 rfl (fun g hg => by cases hg) (fun g hg => by cases hg);refine aj (N := 54) (l := [.agg #[.int .i64 p.v, .slice p.A p.n p.c], .slice lA 0 lc]) Tryz.func69 rfl rfl (by simp) ?_;refine sr ?_;refine cD hh [_,_] ?_;intro b2 w2 hh;refine bV hh ?_;intro b4 w4 hh;refine aI (aa (ah (sr ?_)));refine cG hh 1 [_,_] ?_;refine fJ ?_;intro w12 hh;refine aI (aa (sr (mI ?_)));refine rz ?_;refine bG hh 1 ?_;refine tW ?_;refine bV hh ?_;intro b7 w7 hh;refine bW hh 0 [_] ?_;intro ws hh;replace hh : Hp _ (.blk _ _ [_] _ :: _) _ := hh;refine aa (ah (sr (mL (aJ ?_))));refine cm (aa (cF (ar (ai (sr (bH ?_))))));refine bG hh 2 ?_;refine mL ?_;refine bG hh 0 ?_;replace hh := show Hp w (.blk b7 3 [.int .i64 0] (0, 0) :: _) _ from hh;exact MS
   ·have hlp0 : 0 < ls.length := List.length_pos_iff.2 hn;obtain ⟨lad, rfl, hlr⟩ := hL.at_ hlp0;refine aj (N := 54) (l := [.agg #[.int .i64 p.v, .slice p.A p.n p.c], .slice (some lad) ls.length lc]) Tryz.func69 rfl rfl (by simp) ?_;refine sr ?_;refine cD hh [_,_] ?_;intro b2 w2 hh;refine bV hh ?_;intro b4 w4 hh;refine aI (aa (ah (sr ?_)));refine cG hh 1 [_,_] ?_;refine fJ ?_;intro w12 hh;refine aI (aa (sr (mI ?_)));refine rz ?_;refine bG hh 1 ?_;refine tW ?_;refine bV hh ?_;intro b7 w7 hh;refine bW hh 0 [_] ?_;intro ws hh;replace hh : Hp _ (.blk _ _ [_] _ :: _) _ := hh;refine aa (ah (sr (mL (aJ ?_))));refine cm (aa (cT (ah (sr (mL (aJ (mI (aa (aq ?_)))))))));replace hh := show Hp w (.blk b7 3 [.int .i64 0] (0, 0) :: _) _ from hh;refine aP [5, 9, 10, 28, 29, 30, 31, 32, 33, 34, 35, 36, 37, 38] 28
     (fun v w' => ∃ i : Nat, i ≤ ls.length ∧ v = .int .i64 i ∧ (ls.take i).any (fun g => decide (g.e ≠ 0)) = false ∧ Hp w [.blk b7 3 [.int .i64 0] (0, 0), .blk b4 24 [.int .i64 0, .slice none 0 0] (0, 0), .blk b2 24 [.int .i64 p.v, .slice p.A p.n p.c] (0, 0)] w')
     (fun v _ => ls.length - (intOf v).toNat) ?_ ?_
    ·exact ⟨0, T6 _, rfl, rfl, hh⟩
    ·clear hh;rintro ρ' v w' ⟨i, hi, rfl, hall, hh⟩;by_cases hlt : i < ls.length
     ·obtain ⟨g, hx⟩ := ak (l := ls) (k := i) hlt;have hmem := T7 hx;have hc := fun w1 hT1 hb => mO g K w1 hT1 ((hat g hmem).ext hb) (hf.l9 g hmem);by_cases he : g.e = 0
      ·refine sr ?_;refine dO ?_;refine cu ?_;refine cw (vs := [_, _]) aK.out rfl ((hlr.ext hh.below).recAt PX.len hx) rfl TY ?_;refine bV hh ?_;intro b9 w9 hh;refine bW hh 0 [_,_] ?_;intro ws hh;replace hh : Hp _ (.blk _ _ [_, _] _ :: _) _ := hh;refine aa (sr ?_);refine cG hh 0 [_,_] ?_;refine bD hh (hc _ (hT.hp hh) hh.below) rfl ?_;intro w33 hh;refine aI (aa (sr (mI ?_)));refine dn (aa (cF (ar (bE (ai (ao ?_))))));refine bj (mI (aA (ai ?_)));replace hh := hh.sub (T8 _ (T4 _ (T4 _ (T4 _ UA))));refine ⟨⟨i + 1, TX, rfl, by rw [ay hx, WO, hall, WQ, W6, UB TX]; rfl, hh⟩, by show ls.length - (i + 1) < ls.length - i; omega, ?_⟩;exact dQ
      ·have hlk : eY ls = g.e := by unfold eY; rw [vA hall hx (Um he)]
       rw [T2 ⟨TX, by rw [hlk]; exact he⟩, hlk];refine sr ?_;refine dO ?_;refine cu ?_;refine cw (vs := [_, _]) aK.out rfl ((hlr.ext hh.below).recAt PX.len hx) rfl TY ?_;refine bV hh ?_;intro b9 w9 hh;refine bW hh 0 [_,_] ?_;intro ws hh;replace hh : Hp _ (.blk _ _ [_, _] _ :: _) _ := hh;refine aa (sr ?_);refine cG hh 0 [_,_] ?_;refine bD hh (hc _ (hT.hp hh) hh.below) rfl ?_;intro w33 hh;refine aI (aa (sr (mI ?_)));refine dn (aa (cT (sr ?_)));refine gB [_,_] (mI ?_);refine bW hh 2 [_,_] ?_;intro ws hh;replace hh : Hp _ (_ :: _ :: .blk _ _ [_, _] _ :: _) _ := hh;refine aI (aa (au (cd (aG (aG (cd (aG (aG ?_))))))));refine rJ ?_;exact PF
     ·rw [T9 TX] at hall;have hlk : eY ls = if ls.length = 0 ∨ vr ls = true then 1 else 0 := by unfold eY; rw [iS hall]
      obtain ⟨g0, h00⟩ := ak (l := ls) (k := 0) hlp0;have hhv : eW ls = g0.v := by
       cases ls with
       | nil => cases hlp0
       | cons x l => cases h00; rfl
      have hall0 : ∀ g ∈ ls, g.e = 0 := fun g hg => by
       have := Vy.1 hall g hg;simpa using this
      refine sr ?_;refine nF ?_;refine Di ?_;refine p6 ?_;refine bT aK.out rfl (((hlr.ext hh.below).recAt PX.len h00).cell (i := 0) rfl) TY ?_;refine bW hh 0 [_] ?_;intro ws hh;replace hh : Hp _ (.blk _ _ [_] _ :: _) _ := hh;refine aa (sr (mL ?_));refine vy ?_;replace hh := show Hp w (.blk b7 3 [.int .i64 g0.v] (0, 0) :: _) _ from hh;rw [← hhv] at hh;have hcell : World.cell? _ ⟨b7, 0, none⟩ = some (.int .i64 (eW ls)) := hh.dZ (i := 0) rfl rfl;have hoa := fun w1 hb => uy (some lad) ls.length lc ls 155 [.pointer (some ⟨b7, 0, none⟩)] (fun g => decide (g.v ≠ eW ls)) w1 (hL.ext (hh.below.trans (hb.mono hh.below.size))) TX (fun z w2 hz hb2 => C8 z ⟨b7, 0, none⟩ (eW ls) w2 (cH hb2 (cH hb hcell)))
      cases hod : vr ls with
      | true =>
       have hod2 : ls.any (fun g => decide (g.v ≠ eW ls)) = true := hod;rw [hod2] at hoa;have hl1 : eY ls = 1 := by rw [hlk, T2 (.inr hod)]
       rw [T2 ⟨TX, by rw [hl1]; decide⟩, hl1];refine bD hh (hoa _ (Below.refl _ _)) rfl ?_;intro w45 hh;refine aa (cT (sr ?_));refine gB [_,_] ?_;refine bW hh 1 [_,_] ?_;intro ws hh;replace hh : Hp _ (_ :: .blk _ _ [_, _] _ :: _) _ := hh;refine aI (aa (au (aG ?_)));refine EU ?_;exact ⟨PX.nil, eX.err TY, rfl, (hh.sub (Vh _)).CC⟩
      | false =>
       have hod2 : ls.any (fun g => decide (g.v ≠ eW ls)) = false := hod;rw [hod2] at hoa;have hl0 : eY ls = 0 := by
        rw [hlk, T3 (fun h => h.elim (fun h => by omega) fun h => by rw [hod] at h; cases h)]
       rw [T3 (fun h => h.2 hl0)];have hvv := (xN hl0).2.2;have hg0 := hall0 g0 (T7 h00);unfold PX.e at hg0;have hpu := hput (eW ls) (by rw [hhv]; exact (ct hg0).1) (fun g hg => by rw [← hvv g hg]; exact hall0 g hg) hvv;refine bD hh (hoa _ (Below.refl _ _)) rfl ?_;intro w45 hh;refine wu ?_;refine bG hh 2 ?_;refine mL ?_;refine bG hh 0 ?_;exact MS
theorem EA {o p : PX} {os ls : List PX} (hv : o.v = p.v) (ht : o.ts = p.ts) (h : os.map PX.norm = ls.map PX.norm) : cQ o os = cQ p ls ∧ eW os = eW ls := by
 have h1 : eY os = eY ls := by rw [← vW, h, vW]
 have h2 : eW os = eW ls := by rw [← tC, h, tC]
 have h3 : os.length = ls.length := by have := U9 List.length h; rwa [Ug, Ug] at this
 have h4 : os.map PX.ts = ls.map PX.ts := by
  have := U9 (List.map PX.ts) h;rw [U5, U5] at this;exact this
 refine ⟨?_, h2⟩;unfold cQ PX.e;rw [hv, ht, h1, h2, h3, h4]
variable {b : List SR}
theorem iQ {v : Int} (hv : iU v = true) (hm : ∀ t ∈ l, eK v t = true) (ho : iI k l) (hz : ∀ t ∈ l, t.m.size ≤ 100000) (hl : l.length ≤ n) (hn : n ≤ 4096) (hk : k + n ≤ 3999990) : iW v (k + n) (aE l) :=
 ⟨eA hv (Ur (bP _) TX) hm, lr ho TX TX, nZ hz⟩
def l5 (v i : Nat) : List TR := aE [⟨jZ v i, nR ((1 : Int) : Dyadic)⟩]
def kK (v : Nat) (x : Dyadic) : List TR := aE [⟨dJ v, nR x⟩]
def sF (v i : Nat) (x : Dyadic) : List TR := aE ((l5 v i).map (mh x))
def gK (v i : Nat) (s : SR) : List TR := aE (kK v s.L ++ sF v i (s.H - s.L))
def bp (b : List SR) : List PX := b.mapIdx fun i s => ⟨b.length, none, 0, 0, gK b.length i s⟩
theorem ee {v : Nat} (h : v ≤ 12) : iU (v : Int) = true := iA.2 ⟨TX, TX⟩
theorem sf {v i : Nat} (h : v ≤ 12) : iW (v : Int) 3 (l5 v i) := by
 have hs : ((jZ v i).size : Int) = v := qM TX;refine iQ (k := 2) (n := 1) (ee h) (fun t ht => ?_) (fun t ht => ?_) (fun t ht => ?_) (T5 _) TY TY
 ·rw [Un.1 ht];unfold eK;rw [Uj, Up];exact ⟨zf v i, hs⟩
 ·rw [Un.1 ht];exact ⟨Sz.one.ok TY, by show Sz 2 (nR _).d; rw [bR]; exact Sz.one.mono TY⟩
 ·rw [Un.1 ht];show (jZ v i).size ≤ 100000;omega
theorem si {v : Nat} {x : Dyadic} (h : v ≤ 12) (hx : Sz k x) (hk : k ≤ 900000) : iW (v : Int) (k + 1) (kK v x) := qw (ee h) (by show Sz k (nR x).d; rw [bR]; exact hx) hk
theorem Ep {v i : Nat} {x : Dyadic} (h : v ≤ 12) (hx : Sz k x) (hk : k ≤ 400000) : iW (v : Int) (k + k + 4) (sF v i x) := by
 have hv := sf (i := i) h;have hl : ((l5 v i).map (mh x)).length ≤ 1 := by rw [Ug]; exact bP _
 refine (iQ (k := 3 + k) (n := 1) (ee h) (fun t ht => ?_) (Eb hv.ok hx TX) (fun t ht => ?_) hl TY TX).mono (by
  by_cases h0 : k = 0
  ·omega
  ·omega)
 ·obtain ⟨s, hs, rfl⟩ := Ui.1 ht;exact (ct hv.e).2.2.1 s hs
 ·obtain ⟨s, hs, rfl⟩ := Ui.1 ht;exact hv.sz s hs
theorem nh {v i : Nat} {s : SR} (h : v ≤ 12) (hs : s.fin k) (hk : k ≤ 100000) : iW (v : Int) (k + k + 10) (gK v i s) ∧ (gK v i s).length ≤ 2 := by
 have h1 := si h (SR.KN hs) TX;have h2 := Ep (i := i) h ((SR.Qj hs).sub (SR.KN hs)) TX;have hl : (kK v s.L ++ sF v i (s.H - s.L)).length ≤ 2 := by
  rw [Ua];have a1 : (kK v s.L).length ≤ 1 := bP _;have a2 : (sF v i (s.H - s.L)).length ≤ 1 := Ur (bP _) (by rw [Ug]; exact bP _);omega
 have hm : ∀ {P : TR → Prop}, (∀ t ∈ kK v s.L, P t) → (∀ t ∈ sF v i (s.H - s.L), P t) → ∀ t ∈ kK v s.L ++ sF v i (s.H - s.L), P t := fun a b t ht => (UD.1 ht).elim (a t) (b t);refine ⟨(iQ (k := k + 1 + (k + 1) + 4) (n := 2) (ee h) (hm (ct h1.e).2.2.1 (ct h2.e).2.2.1) (hm (h1.ok.mono TX) h2.ok) (hm h1.sz h2.sz) hl TY TX).mono TX, Ur (bP _) hl⟩
theorem fW {i : Nat} {s : SR} (h : b[i]? = some s) : (bp b)[i]? = some ⟨b.length, none, 0, 0, gK b.length i s⟩ := by
 unfold bp;rw [Wr, h]
 rfl
theorem jX (b : List SR) : (bp b).length = b.length := by unfold bp; rw [List.length_mapIdx]
theorem C2 {g : PX} (h : g ∈ bp b) : ∃ i s, b[i]? = some s ∧ g = ⟨b.length, none, 0, 0, gK b.length i s⟩ := by
 obtain ⟨i, hi⟩ := Vw.1 h;obtain ⟨s, hs⟩ := ak (l := b) (k := i) (by have := (Uk.1 hi).1; rwa [jX] at this);rw [fW hs] at hi;exact ⟨i, s, hs, (UN hi).symm⟩
theorem MM {i : Nat} (h : n ≤ 12) (hi : i < n) : tp n i = 0 := T3 (by rw [ee h]; rintro (a | a | a) <;> first | cases a | omega)
theorem MY (h : n ≤ 12) : z3 n = 0 := T3 (by rw [ee h]; decide)
theorem xD (p : PX) (L : Option Addr) (n c : Nat) (b : List SR) (k : Nat) (ds : List Nat) (w : World) (hT : eh w) (hp : p.at_ w) (lp : p.l9 k) (hB : Sl w L n 6 (az SR.cells b)) (hb : ∀ s ∈ b, s.fin k) (hv : p.v = n) (hn0 : 0 < n) (hn : n ≤ 12) (hk : k ≤ 1000)
  (hds : ds.length = n) (hex : ∀ (i d : Nat), ds[i]? = some d → d ≤ 127 ∧ ∀ t ∈ p.ts, fK i t ≤ d) (hgr : fS (k + k + 16394) ds (k + 1) ≤ 440000) :
  Calls Tryz.prog 88 #[.agg #[.int .i64 p.v, .slice p.A p.n p.c], .slice L n c] w fun r w' => ∃ g : PX, eX (cQ p (bp b)).1 n (cQ p (bp b)).2 g ∧ r = .returned (.tuple #[.agg #[.int .i64 g.v, .slice g.A g.n g.c], .int .i64 (cQ p (bp b)).1]) ∧ Hp w [g.row] w' := by
 have hh := Hp.start w;have hbl : b.length = n := hB.bq SR.len TY;have hok : ∀ s ∈ b, s.ok := fun s hs => ⟨(hb s hs).1.ok, (hb s hs).2.ok⟩;have hfo := fun w1 hT1 hb1 => rG L n c b w1 hT1 (hB.ext hb1) hok TX;have hhv : eW (bp b) = n := by
  obtain ⟨s, hs⟩ := ak (l := b) (k := 0) TX;rw [j1 (fW hs), hbl]
 refine aj (N := 67) (l := [.agg #[.int .i64 p.v, .slice p.A p.n p.c], .slice L n c]) Tryz.func88 rfl rfl (by simp) ?_;refine sr ?_;refine cD hh [_,_] ?_;intro b2 w2 hh;refine bV hh ?_;intro b4 w4 hh;refine aI (aa (sr (aL (aa (ah (sr (mL ?_)))))));refine aF (hfo _ (hT.hp hh) hh.below) al.out rfl TY ?_;rintro e_ w18 ⟨A18, c18, rfl, hown_, hb_⟩;refine ⟨_, rfl, ?_⟩;replace hh := hh.aW (x := .row _ _ _ _ _ _) hb_ hown_;refine aJ (mI (aa (aq ?_)));replace hh := hh.de 24 2;refine bK [6, 7, 8, 9, 10, 11, 12, 13, 14, 15, 16, 20, 21, 22, 23, 24, 25, 26, 27, 28, 29, 30, 31, 32, 33, 34, 35, 36, 37, 38, 39, 40, 41, 42, 43, 44, 45, 46, 47, 48, 49, 50, 51, 52, 53, 54, 55, 56, 57, 58, 59, 60, 61] 6 20
  (fun a v w' => ∃ (i c3 : Nat) (A : Option Addr) (os : List PX) (R : List HE), i ≤ n ∧ v = .int .i64 i ∧ a = .slice A i c3 ∧ os.length = i ∧ Bw ((bp b).map fun g => ⟨g.v, none, g.ts.length, 0, g.ts⟩) os R ∧ Hp w (.row A i c3 24 2 (az PX.cells os) :: .row A18 n c18 81 6 (az SR.cells (b.map SR.f)) :: .blk b4 24 [.int .i64 0, .slice none 0 0] (0, 0) :: .blk b2 24 [.int .i64 p.v, .slice p.A p.n p.c] (0, 0) :: R) w')
  (fun _ v _ => n - (intOf v).toNat) ?_ ?_
 ·exact RZ
 ·clear hh;rintro ρ' a_ v w' ⟨i, c3, A, os, R, hi, rfl, rfl, hol, hcp, hh⟩;by_cases hlt : i < n
  ·obtain ⟨s, hs⟩ := ak (l := b) (k := i) TX;have hsf := hb s (T7 hs);have hsn : (b.map SR.f)[i]? = some s.f := by rw [Ue, hs]; rfl
   have zL := SR.KN hsf;have zH := SR.Qj hsf;have zW := zH.sub zL;obtain ⟨po, pl⟩ := nh (v := n) (i := i) hn hsf TX;have vo := sf (i := i) hn;have fo := Ep (i := i) hn zW TX;have co := si hn zL TX;have hva := fun w1 hT1 => sV (n : Int) (i : Int) w1 hT1;rw [MM hn hlt] at hva;have hsu := fun w1 hT1 => j6 (nR s.H) (nR s.L) w1 hT1 (zH.ok TX) (zL.ok TX) k (by rw [bR]; exact zH) (by rw [bR]; exact zL) TX;rw [bR, bR] at hsu;have hcn := fun w1 hT1 => jy (n : Int) (nR s.L) k w1 hT1 ⟨zL.ok TX, by rw [bR]; exact zL⟩ TX;rw [MY hn] at hcn;rw [Vp] at hva;have hV : aE [⟨jZ n i, nR ((1 : Int) : Dyadic)⟩] = l5 n i := rfl;have hC : aE [⟨dJ n, nR s.L⟩] = kK n s.L := rfl;have hF : aE ((l5 n i).map (mh (s.H - s.L))) = sF n i (s.H - s.L) := rfl;have hP : aE (kK n s.L ++ sF n i (s.H - s.L)) = gK n i s := rfl;have tl1 : (l5 n i).length ≤ 1 := bP _;have ul1 : (kK n s.L).length ≤ 1 := bP _;have fl1 : (sF n i (s.H - s.L)).length ≤ 1 := Ur (bP _) (by rw [Ug]; exact bP _);have hps := fW hs;rw [hbl] at hps;rw [hV] at hva;rw [hC] at hcn;clear hV hC;generalize l5 n i = VL at *;generalize kK n s.L = CL at *;generalize sF n i (s.H - s.L) = FL at *;generalize gK n i s = PL at *
   obtain ⟨gf, rfl⟩ := hh.cB (i := 1) rfl TX;refine sr ?_;refine ek ?_;refine gk ?_;refine cw (vs := [_, _, _, _, _, _]) aK.out rfl (hh.iz (f := SR.cells) (x := s.f) (l := b.map SR.f) (i := 1) rfl SR.len TY hsn) rfl TY ?_;refine bV hh ?_;intro b8 w8 hh;refine aI ?_;refine bW hh 0 [_,_,_,_,_,_] ?_;intro ws hh;replace hh : Hp _ (.blk _ _ [_, _, _, _, _, _] _ :: _) _ := hh;refine aa (sr (mL (aJ (mI ?_))));replace hh := show Hp w (.blk b8 81 [.bool (nR s.L).neg, .string (nR s.L).bz, .int .i64 (nR s.L).e, .bool (nR s.H).neg, .string (nR s.H).bz, .int .i64 (nR s.H).e] (0, 0) :: _) _ from hh;refine aF (hva _ (hT.hp hh)) al.out rfl TY ?_;rintro e_ w29 ⟨t, ot, rfl, h4⟩;refine ⟨_, rfl, ?_⟩;have htc : t.n ≤ t.c := h4.e8 (i := 0) rfl;replace hh := hh.join h4;clear h4;simp only [Ud, Ub] at hh;obtain ⟨tv, tA, tn, tc, tt⟩ := t;replace hh := show Hp w (.row tA tn tc 96 4 (az TR.cells tt) :: _) _ from hh;have et : VL = tt := ot.t0.symm;have ev_ : tv = (n : Int) := ot.v0;subst et ev_;have tln : VL.length = tn := (hh.aC (i := 0) rfl).bq TR.len TY
   have hsc := fun w1 hT1 ha => px ⟨n, tA, tn, tc, VL⟩ (nR (s.H - s.L)) (k + 3) w1 hT1 ha ⟨by show tn ≤ 1000000; omega, htc, vo.ok.mono TX, vo.sz⟩ ⟨zW.ok TX, by rw [bR]; exact zW.mono TX⟩ TX;have hse : Bl ⟨n, tA, tn, tc, VL⟩ (s.H - s.L) = 0 := by
    unfold Bl PX.e;rw [vo.e, T2 rfl];exact gQ (by rw [Ug]; show VL.length ≤ 4096; omega)
   rw [bR, hse] at hsc;dsimp only at hsc;rw [hF] at hsc;refine mT ?_;refine du ?_;refine du ?_;refine bV hh ?_;intro b9 w9 hh;refine bW hh 0 [_,_] ?_;intro ws hh;replace hh : Hp _ (.blk _ _ [_, _] _ :: _) _ := hh;refine aI (aa (ah ?_));refine eu [10] [9] [0, 0, 2, 0, 8, 30, 63, 127, 255, 255, 0, 1535, 4095] 11 [[(9, none)], [(8, none)], [(34, some 1)], [(8, none)], [(36, some 3)], [(35, some 2), (37, some 4)], [(33, some 0), (38, some 5)], [(39, some 6)], [(32, some 7)], [(32, some 7)], []] [(10, 11), (9, 41), (8, 40), (7, 32), (6, 39), (5, 38), (4, 37), (3, 36), (2, 35), (1, 34), (0, 33)] hh mixed TZ (qx rfl aK.out fk) rfl (by repeat (first | exact cA | refine bQ ?_ | refine cE ?_)) ?_;refine fU 0 [_,_] ?_;refine ej ?_;refine fU 2 [_,_,_] ?_;refine ej ?_;refine fU 2 [_,_,_] ?_;refine dC (fun _ hj => hsu _ (hT.hp hj.hp)) ?_;refine aT (i := 6) (jR hh.sz 0 n FL) (jR.ext) ?_ ?_
   ·intro ρ1 w1 hj hR;exact bf rfl (aO al.out (aw (show ρ1 33 = Value.agg (List.toArray _) from hR.1) (aw (show ρ1 38 = Value.agg (List.toArray _) from hR.2.1) aZ))) (hsc w1 (hT.hp hj.hp) (hj.hp.aC (i := 1) rfl)) (fun _ _ ⟨g, og, hq, h3⟩ => ⟨_, hq, h3.below, g, w1, rfl, og, hj.bl.size, h3⟩)
   refine aT (i := 7) (jR hh.sz 0 n FL) (jR.ext) ?_ ?_
   ·exact OZ
   refine aT (i := 8) (j7 hh.sz 0 n FL) (j7.ext) ?_ ?_
   ·exact PM
   refine aT (i := 9) (Is (.int .i64 0)) (Is.ext) ?_ ?_
   ·exact P3
   refine aT (i := 10) (dt _ 24 _) dt.ext (fun ρ1 w1 hj hR => jN aK.out hj.bl (fun v w2 h hb => ⟨hb, h⟩)) ?_;refine aR ?_;intro f W hJ hV _;have hb_6 := hJ.bl;obtain ⟨v11, v41, v40, v32, v39, v38, v37, v36, v35, v34, v33, _⟩ := hV;obtain ⟨g39, u39, e39, -⟩ := v39;obtain ⟨g32, u32, e32, -⟩ := v32;obtain ⟨g40, u40, e40, o40, q40, h40⟩ := v40;obtain ⟨b11, e11, hl11, hc11⟩ : dt _ _ _ (f 10) W := v11;replace hh := hJ.qG hh hl11 hc11 q40 h40 (PX.ne h40 hc11 TY);refine aY (br (ae e11 (ae v41 (ae e40 (ae e32 (ae e39 (ae v38 (ae v37 (ae v36 (ae v35 (ae v34 (ae v33 aX)))))))))))) ?_;dsimp only [cf];clear e39 e32 e40 e11 hJ;simp only [Ud, Ub] at hh;obtain ⟨fv, fA, fn, fc, ft⟩ := g40;replace hh := show Hp w (_ :: .row fA fn fc 96 4 (az TR.cells ft) :: _) W from hh;have et : FL = ft := o40.t0.symm;have ev_ : fv = (n : Int) := o40.v0;subst et ev_;have fln : FL.length = fn := (hh.aC (i := 1) rfl).bq TR.len TY;have fcc : fn ≤ fc := hh.e8 (i := 1) rfl;refine bW hh 0 [_,_] ?_;intro ws hh;replace hh : Hp _ (.blk _ _ [_, _] _ :: _) _ := hh;refine aI (aa (sr (mL (aJ (bH ?_)))));refine cG hh 4 [_,_,_] ?_;refine aF (hcn _ (hT.hp hh)) al.out rfl TY ?_
   rintro e_ w47 ⟨u, ou, rfl, h4⟩;refine ⟨_, rfl, ?_⟩;have huc : u.n ≤ u.c := h4.e8 (i := 0) rfl;replace hh := hh.join h4;clear h4;simp only [Ud, Ub] at hh;obtain ⟨uv, uA, un, uc, ut⟩ := u;replace hh := show Hp w (.row uA un uc 96 4 (az TR.cells ut) :: _) _ from hh;have et : CL = ut := ou.t0.symm;have ev_ : uv = (n : Int) := ou.v0;subst et ev_;have uln : CL.length = un := (hh.aC (i := 0) rfl).bq TR.len TY;refine mT ?_;refine du ?_;refine du ?_;refine bV hh ?_;intro b13 w13 hh;refine bW hh 0 [_,_] ?_;intro ws hh;replace hh : Hp _ (.blk _ _ [_, _] _ :: _) _ := hh;refine aI (aa (sr ?_));refine cG hh 0 [_,_] ?_;refine cG hh 2 [_,_] ?_;refine DN ?_;intro b53 w53 hh;have hlp : eY [⟨n, uA, un, uc, CL⟩, ⟨n, fA, fn, fc, FL⟩] = 0 := o8 co.e fo.e rfl;have had := fun A3 w1 hT1 hS1 s1 s2 => n8 A3 2 2 [⟨n, uA, un, uc, CL⟩, ⟨n, fA, fn, fc, FL⟩] (k + k + 10) w1 hT1 hS1 TY (fun g hg => by
    rcases Ul.1 hg with rfl | hg
    ·exact s1
    ·rw [Un.1 hg]; exact s2) (fun g hg => by
    rcases Ul.1 hg with rfl | hg
    ·exact ⟨by show un ≤ 1000000; omega, huc, co.ok.mono TX, co.sz⟩
    ·rw [Un.1 hg]; exact ⟨by show fn ≤ 1000000; omega, fcc, fo.ok.mono TX, fo.sz⟩) TX
   unfold FT at had;rw [T2 hlp, Jg] at had;dsimp only at had;rw [hP] at had;rw [gQ (l := CL ++ FL) (by rw [Ua]; omega)] at had;refine aF (had _ _ (hT.hp hh) (hh.aC (i := 0) rfl) (hh.aC (i := 2) rfl) (hh.aC (i := 4) rfl)) al.out rfl TY ?_;rintro e_ w54 ⟨z, oz, rfl, h4⟩;refine ⟨_, rfl, ?_⟩;have hzc : z.n ≤ z.c := h4.e8 (i := 0) rfl;replace hh := hh.join h4;clear h4;simp only [Ud, Ub] at hh;replace hh := show Hp w (.row z.A z.n z.c 96 4 (az TR.cells z.ts) :: _) _ from hh;have zln : z.ts.length = z.n := (hh.aC (i := 0) rfl).bq TR.len TY;refine mT ?_;refine du ?_;refine du ?_;refine bV hh ?_;intro b15 w15 hh;refine bW hh 0 [_,_] ?_;intro ws hh;replace hh : Hp _ (.blk _ _ [_, _] _ :: _) _ := hh;refine aI (aa (ao (mL ?_)));refine cG hh 0 [_,_] ?_;refine cP hh (cs := [_, _]) bk.out aK.out (aM (gO rfl) bU) rfl rfl TY TY TY rfl TY ?_;intro b59 w59 hh;refine cK hh (i := 11) rfl rfl rfl (hh.aC (i := 0) rfl) bk.out aK.out rfl TY (by first | rfl | exact dR _ | exact dp _ | exact bZ _ | exact cv NR.one _) TX TX TY ?_;intro A60 c60 w60 hh;simp only [Uh, UH] at hh;replace hh := hh.sub (UM _ _)
   refine kN ?_;refine bj (mI (aA (ai ?_)));replace hh := hh.sub (T8 _ (T4 _ (T8 _ (T8 _ (T8 _ (T8 _ (T8 _ (T8 _ (T8 _ (T8 _ (T4 _ (T4 _ (T4 _ (T4 _ (Vi _)))))))))))))));replace hh := hh.perm (U3 (l₁ := [_, _, _, _]));simp only [Ud, Ub] at hh;replace hh := hh.perm (U3 (l₁ := [_, _, _, _]));simp only [Ud, Ub] at hh;replace hh := hh.perm (U3 (l₁ := [_, _, _, _]));simp only [Ud, Ub] at hh;replace hh := hh.perm (U3 (l₁ := [_, _, _, _]));simp only [Ud, Ub] at hh;have hcp2 := hcp.add (g := ⟨n, none, PL.length, 0, PL⟩) (o := z) (by rw [hol, Ue, hps]; rfl) ⟨oz.v0, oz.t0, by rw [← zln, oz.t0]⟩ hzc;refine ⟨⟨i + 1, c60, A60, os ++ [z], z.row :: R, TX, rfl, rfl, by rw [Ua, hol]; rfl, hcp2, by rw [bY, j5]; exact hh⟩, by show n - (i + 1) < n - i; omega, ?_⟩
   exact dQ
  ·obtain rfl : i = n := TX;have hol2 : os.length = ((bp b).map fun g => (⟨g.v, none, g.ts.length, 0, g.ts⟩ : PX)).length := by rw [Ug, jX]; omega
   have hkey := hcp.key hol2;rw [U5] at hkey;replace hkey : os.map PX.norm = (bp b).map PX.norm := hkey;obtain ⟨ks, kh⟩ := EA (o := p) (p := p) rfl rfl hkey;have hall : ∀ o ∈ os, o.l9 (k + k + 10) ∧ o.ts.length ≤ 2 := fun o ho => by
    obtain ⟨j, hj⟩ := Vw.1 ho;have hjn : j < os.length := (Uk.1 hj).1;obtain ⟨s, hs⟩ := ak (l := b) (k := j) TX;obtain ⟨e1, e2, e3⟩ := hcp.eq j ⟨b.length, none, (gK b.length j s).length, 0, gK b.length j s⟩ o (by rw [Ue, fW hs]; rfl) hj;obtain ⟨po, pl⟩ := nh (v := b.length) (i := j) TX (hb s (T7 hs)) TX;replace e2 : o.ts = gK b.length j s := e2;replace e3 : o.n = (gK b.length j s).length := e3;exact Nr
   have hfit : Sy p os k (k + k + 10) 2 (k + k + 16394) ds := ⟨TX, hex, hgr, TX, TX, fun g hg => (hall g hg).1, fun g hg => (hall g hg).2⟩;have hsu := fun w1 hT1 ha hs hm hc => pW p A c3 os k (k + k + 10) 2 (k + k + 16394) ds w1 hT1 ha lp hs hm hc hfit;rw [ks, kh, hhv, hol] at hsu;generalize (cQ p (bp b)).1 = E at *;generalize (cQ p (bp b)).2 = S at *;refine sr ?_;refine mM ?_;refine cG hh 3 [_,_] (mL ?_);refine aF (hsu _ (hT.hp hh) (hp.ext hh.below) (hh.aC (i := 0) rfl) (fun z hz => Fc hh (Uf _ (Uf _ (Uf _ (Uf _ (hcp.my z hz).1))))) (hh.e8 (i := 0) rfl)) al.out rfl TY ?_;rintro e_ w64 ⟨g, og, rfl, h4⟩;refine ⟨_, rfl, ?_⟩;replace hh := hh.join h4;clear h4;simp only [Ud, Ub] at hh;refine du ?_;refine du ?_;refine bW hh 3 [_,_] ?_;intro ws hh;replace hh : Hp _ (_ :: _ :: _ :: .blk _ _ [_, _] _ :: _) _ := hh;refine aI (aa (au ?_));refine IV ?_;exact Em
def dM (i : Nat) (f : ByteArray → Dyadic) (m : ByteArray) : Dyadic :=
 match m.data.toList[i]? with | some e => ((e.toNat : Int) : Dyadic) * f (str (m.data.toList.set i (e - 1))) | none => 0
theorem Ow {f g : ByteArray → Dyadic} (h : ∀ t ∈ l, f t.m = g t.m) : wS f l = wS g l := by
 induction l with
 | nil => rfl
 | cons t l ih => rw [wS, wS, h t Uc, ih fun s hs => h s (Uf _ hs)]
theorem DJ {a b : List UInt8} (ha : eM a = true) (hb : eM b = true) (hl : b.length = a.length) (h : (List.zipWith (· + ·) (ints a) (ints b)).all cz = true) : mulL a b = ((List.zipWith (· + ·) (ints a) (ints b)).map xx, 0) := by
 unfold mulL;rw [L5 ha hb hl];show (J3 _, KM _) = _;rw [(pD h).1, (pD h).2]
theorem JL {a b : List UInt8} (h : (mulL a b).2 = 0) : (List.zipWith (· + ·) (ints a) (ints b)).all cz = true := by
 obtain ⟨_, _, _, h4, h5⟩ := ni h;rw [← h5];exact ME h4
theorem L6 {a b : ByteArray} {i : Nat} {x y : UInt8} (h : mm a b = 0) (hx : a.data.toList[i]? = some x) (hy : b.data.toList[i]? = some y) : (mulM a b).data.toList[i]? = some (xx ((x.toNat : Int) + y.toNat)) ∧ (xx ((x.toNat : Int) + y.toNat)).toNat = x.toNat + y.toNat := by
 obtain ⟨h1, h2, h3, _, _⟩ := ni h;have hall := JL h;have hiy : (ints b.data.toList)[i]? = some (y.toNat : Int) := by unfold ints; rw [Ue, hy]; rfl
 have hix : (ints a.data.toList)[i]? = some (x.toNat : Int) := by unfold ints; rw [Ue, hx]; rfl
 have hzz := J0 (f := fun (x y : Int) => x + y) hix hiy;have hxy : cz ((x.toNat : Int) + y.toNat) = true := Ux.1 hall _ (T7 hzz);have e1 := rU hxy;injection e1 with _ e1
 refine ⟨?_, TX⟩;unfold mulM;rw [dv, DJ h1 h2 h3 hall, Ue, hzz]
 rfl
def kA (B : Nat → Nat) (l : List TR) : Prop := ∀ t ∈ l, ∀ i, fK i t ≤ B i
theorem kA.mono {B C : Nat → Nat} (h : kA B l) (hb : ∀ i, B i ≤ C i) : kA C l := fun t ht i => Ur (h t ht i) (hb i)
theorem Qm {s t : TR} (h : s.m = t.m) (i : Nat) : fK i s = fK i t := by unfold fK; rw [h]
theorem kA.aE {B : Nat → Nat} {l : List TR} (h : kA B l) : kA B (aE l) := fun t ht i => by
 obtain ⟨s, hs, e⟩ := fR t ht;rw [← Qm e i];exact h s hs i
theorem kA.append {B : Nat → Nat} {k : List TR} (h : kA B l) (h2 : kA B k) : kA B (l ++ k) := fun t ht => (UD.1 ht).elim (h t) (h2 t)
theorem kA.prod {B C : Nat → Nat} {q : List TR} (hp : kA B p) (hq : kA C q) (h : ∀ e ∈ qW p q, e = 0) : kA (fun i => B i + C i) (cg p q) := fun t ht i => by
 obtain ⟨x, hx, ht⟩ := VY.1 ht;obtain ⟨y, hy, rfl⟩ := Ui.1 ht;have hz : mm x.m y.m = 0 := h _ (VY.2 ⟨x, hx, Ui.2 ⟨y, hy, rfl⟩⟩)
 cases ha : x.m.data.toList[i]? with
 | none =>
  have hl := Cr hz;have hx0 := Xq.1 ha;have e : (qI x y).m.data.toList[i]? = none := by
   show (str _).data.toList[i]? = none;rw [dv];exact Uy (by rw [hl]; exact hx0)
  unfold fK;rw [e];exact T6 _
 | some a =>
  obtain ⟨_, _, h3, _, _⟩ := ni hz;have hlt := (Uk.1 ha).1;obtain ⟨b, hb⟩ := ak (l := y.m.data.toList) (k := i) TX;obtain ⟨e1, e2⟩ := L6 hz ha hb;rw [mE (t := qI x y) e1, e2];have h1 := hp x hx i;have h2 := hq y hy i;rw [mE ha] at h1;rw [mE hb] at h2;show a.toNat + b.toNat ≤ B i + C i;omega
theorem oT {q p : List TR} {sub : List TR → Int × List TR} {j D : Nat} {E : Nat → Nat} (hq : kA (fun x => if x = j then 1 else 0) q) (hD : ∀ t ∈ p, fK j t ≤ D) (hE : E j = 0) (hs : ∀ n, (sub (bh p j n)).1 = 0 → kA E (sub (bh p j n)).2) :
  ∀ i, i ≤ 128 → (bA q sub p j i).1 = 0 → kA (fun x => if x = j then i + D - 128 else E x) (bA q sub p j i).2
 | 0, _, _ => fun t ht => (nomatch ht)
 | i + 1, hi, h0 => by
  have h1 : (bA q sub p j i).1 = 0 := by
   refine VO fun c => ?_;rw [jG c (Nat.le_succ i)] at h0;exact c h0
  have ih := oT hq hD hE hs i TX h1;have hsb : ∀ n, (sub (bh p j n)).1 = 0 → kA (fun x => if x = j then i + 1 + D - 128 else E x) (sub (bh p j n)).2 := fun n hn => (hs n hn).mono fun x => by
   by_cases hx : x = j
   ·rw [T2 hx, hx, hE]; exact T6 _
   ·rw [T3 hx]; exact T5 _
  have hpr : eZ (bA q sub p j i).2 q = 0 → kA (fun x => if x = j then i + 1 + D - 128 else E x) (aE (cg (bA q sub p j i).2 q)) := fun ht => by
   by_cases hlow : i + D ≤ 127
   ·rw [gL hD i hlow];exact fun t ht => (nomatch ht)
   ·refine ((ih.prod hq (j8 ht).2.1).mono fun x => ?_).aE;by_cases hx : x = j
    ·rw [T2 hx, T2 hx, T2 hx]; omega
    ·rw [T3 hx, T3 hx, T3 hx]; omega
  rw [iV] at h0 ⊢;unfold hH at h0 ⊢;rw [T3 (fun h => h h1)] at h0 ⊢;by_cases c1 : (bA q sub p j i).2.length = 0 ∧ (bh p j (127 - i)).length = 0
  ·rw [T2 c1, V1.1 c1.1];exact fun t ht => (nomatch ht)
  ·rw [T3 c1] at h0 ⊢;by_cases c2 : eZ (bA q sub p j i).2 q ≠ 0
   ·rw [T2 c2] at h0; exact absurd h0 c2
   ·rw [T3 c2] at h0 ⊢;by_cases c3 : (sub (bh p j (127 - i))).1 ≠ 0
    ·rw [T2 c3] at h0; exact absurd h0 c3
    ·rw [T3 c3] at h0 ⊢;by_cases c4 : gp (aE (cg (bA q sub p j i).2 q) ++ (sub (bh p j (127 - i))).2) ≠ 0
     ·rw [T2 c4] at h0; exact absurd h0 c4
     ·rw [T3 c4];exact ((hpr TX).append (hsb _ TX)).aE
theorem pq (v : Int) (c : NR) : kA (fun _ => 0) [⟨dJ v, c⟩] := fun t ht i => by
 rw [Un.1 ht]
 cases he : (⟨dJ v, c⟩ : TR).m.data.toList[i]? with
 | none => unfold fK; rw [he]; exact T5 _
 | some e =>
  rw [mE he];have hm := T7 he;replace hm : e ∈ (List.replicate v.toNat (0 : UInt8)) := by simpa [dJ] using hm
  rw [(List.mem_replicate.1 hm).2];exact T5 _
theorem xy {v : Int} : ∀ (qs : List (List TR)) (j : Nat) (p : List TR) (D : Nat → Nat), (∀ (i : Nat) (q : List TR), qs[i]? = some q → kA (fun x => if x = j + i then 1 else 0) q) → (∀ t ∈ p, ∀ i, i < qs.length → fK (j + i) t ≤ D (j + i)) → (ep v qs j p).1 = 0 → kA (fun x => if j ≤ x ∧ x < j + qs.length then D x else 0) (ep v qs j p).2 := by
 intro qs
 induction qs with
 | nil =>
  intro j p D _ _ _;exact (pq v _).aE.mono fun x => T6 _
 | cons q qs ih =>
  intro j p D hq hp h0;have hsub : ∀ n, (ep v qs (j + 1) (bh p j n)).1 = 0 → kA (fun x => if j + 1 ≤ x ∧ x < j + 1 + qs.length then D x else 0) (ep v qs (j + 1) (bh p j n)).2 := fun n hn => by
   refine ih (j + 1) (bh p j n) D (fun i r hr => ?_) (fun t ht i hi => ?_) hn
   ·have := hq (i + 1) r (by simpa using hr);rwa [show j + 1 + i = j + (i + 1) by omega]
   ·exact RA
  have hq0 : kA (fun x => if x = j then 1 else 0) q := hq 0 q rfl;have hD : ∀ t ∈ p, fK j t ≤ D j := fun t ht => hp t ht 0 (by rw [Uq]; omega);generalize hgen : ep v qs (j + 1) = sub at hsub;have e : ∀ m, m = 128 → (bA q sub p j m).1 = 0 → kA (fun x => if j ≤ x ∧ x < j + (q :: qs).length then D x else 0) (bA q sub p j m).2 := fun m hm h => by
   refine (oT hq0 hD (E := fun x => if j + 1 ≤ x ∧ x < j + 1 + qs.length then D x else 0) (by rw [T3 TX]) hsub m TX h).mono fun x => ?_;rw [Uq];by_cases hx : x = j
   ·rw [T2 hx, T2 TX, hx]; omega
   ·rw [T3 hx];by_cases h2 : j + 1 ≤ x ∧ x < j + 1 + qs.length
    ·rw [T2 h2, T2 TX]; exact T5 _
    ·rw [T3 h2]; exact T6 _
  have e2 : ep v (q :: qs) j p = bA q sub p j 128 := by rw [← hgen]; rfl
  rw [e2] at h0 ⊢;exact e 128 rfl h0
theorem QR {i : Nat} {t : TR} (h : t ∈ l) : l0 t.m i ≤ Bz l i := by
 induction l using jo with
 | h0 => cases h
 | hs l x ih =>
  rw [uU]
  rcases UD.1 h with h | h
  ·have := ih h; omega
  ·rw [Un.1 h]; omega
theorem Hy {i : Nat} {B : Int} (hB : 0 ≤ B) (h : ∀ t ∈ l, l0 t.m i ≤ B) : 0 ≤ Bz l i ∧ Bz l i ≤ B := by
 induction l using jo with
 | h0 => exact ⟨Int.le_refl _, hB⟩
 | hs l x ih =>
  rw [uU];have h1 := ih fun t ht => h t (VT _ ht);have h2 := h x (VK _ Uc);omega
theorem JQ (t : TR) (i : Nat) : (fK i t : Int) = l0 t.m i := by
 unfold fK l0
 cases t.m.data.toList[i]? <;> rfl
def cR (v : Int) (ts : List TR) : List Nat := (q9 v ts).map Int.toNat
theorem mf {v : Int} (h : fH v ts = 0) : q9 v ts = bL (cR v ts) ∧ (cR v ts).length = v.toNat ∧ ∀ (i d : Nat), (cR v ts)[i]? = some d → d ≤ 127 ∧ (∀ t ∈ ts, fK i t ≤ d) ∧ ((d : Int) = Bz ts i) := by
 obtain ⟨_, _, hm, _⟩ := ct h;have hd : q9 v ts = l6 v.toNat ts := T2 h;have hb : ∀ t ∈ ts, ∀ i, l0 t.m i ≤ 127 := fun t ht i => by
  have h1 := hm t ht;unfold eK at h1;rw [Uj] at h1;unfold l0
  cases he : t.m.data.toList[i]? with
  | none => decide
  | some e => have := so h1.1 he; show ((e.toNat : Nat) : Int) ≤ 127; omega
 refine ⟨?_, by unfold cR; rw [Ug, hd, fi], fun i d hi => ?_⟩
 ·unfold cR bL;rw [U5];refine (W5 _).symm.trans (V7 fun x hx => ?_);rw [hd] at hx;obtain ⟨i, _, rfl⟩ := Ui.1 hx;have := (Hy (B := 127) TY fun t ht => hb t ht i).1;show Bz ts i = ((Bz ts i).toNat : Int);omega
 ·unfold cR at hi;rw [hd, Ue] at hi;have hlt : i < v.toNat := by
   refine VO fun hc => ?_;rw [Uy (by rw [fi]; omega)] at hi
   cases hi
  rw [sv ts hlt] at hi;have h1 := Hy (l := ts) (i := i) (B := 127) TY fun t ht => hb t ht i;have h2 : (Bz ts i).toNat = d := UN hi;refine ⟨TX, fun t ht => ?_, TX⟩;have h3 := QR (i := i) ht;have h4 := JQ t i;omega
variable {xs : List Dyadic}
def dX (d : Nat) (a b : Dyadic) (i k : Nat) : Dyadic := if k < i then 0 else nD (bin (d - i) (k - i)) * a ^ i * b ^ (k - i)
def jm (xs : List Dyadic) (i : Nat) : Dyadic := (xs[i]?).getD 0
def kt (d : Nat) (M : Nat → Nat → Dyadic) (xs : List Dyadic) : List Dyadic := (List.range (d + 1)).map fun k => sm (List.range (d + 1)) fun i => jm xs i * M i k
def iE (d : Nat) (a b : Dyadic) (xs : List Dyadic) (i j : Nat) : List Dyadic := (List.range (d + 1)).map fun k => sm (List.range i) (fun m => jm xs m * dX d a b m k) + if i ≤ k ∧ k < i + j then jm xs i * dX d a b i k else 0
theorem jQ (d : Nat) (a b : Dyadic) (xs : List Dyadic) (i j : Nat) : (iE d a b xs i j).length = d + 1 := by simp [iE]
theorem tG (d : Nat) (a b : Dyadic) (xs : List Dyadic) : iE d a b xs 0 0 = List.replicate (d + 1) 0 := by
 unfold iE;refine List.eq_replicate_iff.2 ⟨by simp, fun x hx => ?_⟩;obtain ⟨k, _, rfl⟩ := Ui.1 hx;rw [T3 TX, Wm]
 rfl
theorem xn {d i : Nat} {a b : Dyadic} (h : k ≤ d) : (iE d a b xs i j)[k]? = some (sm (List.range i) (fun m => jm xs m * dX d a b m k) + if i ≤ k ∧ k < i + j then jm xs i * dX d a b i k else 0) := by
 unfold iE;exact Jd
theorem zX {d i : Nat} {a b : Dyadic} {o : Dyadic} (h : i + j ≤ d) (ho : (iE d a b xs i j)[i + j]? = some o) : (iE d a b xs i j).set (i + j) (o + jm xs i * dX d a b i (i + j)) = iE d a b xs i (j + 1) := by
 rw [xn h, T3 TX, Wm] at ho;have ho := UN ho;subst ho;refine Ve fun k => ?_;rw [VH, jQ];by_cases hk : k ≤ d
 ·rw [xn hk, xn hk];by_cases e : i + j = k
  ·subst e;rw [T2 rfl, T2 TX, T2 TX]
  ·rw [T3 e];by_cases h2 : i ≤ k ∧ k < i + j
   ·rw [T2 h2, T2 TX]
   ·rw [T3 h2, T3 TX]
 ·rw [T3 TX, Uy (by rw [jQ]; omega), Uy (by rw [jQ]; omega)]
theorem F5 {d i : Nat} {a b : Dyadic} (h : i ≤ d) : iE d a b xs i (d - i + 1) = iE d a b xs (i + 1) 0 := by
 unfold iE;refine V7 fun k hk => ?_;have hk := UT.1 hk;rw [T3 (show ¬ (i + 1 ≤ k ∧ k < i + 1 + 0) by omega), Wm, Wh, jz];by_cases h2 : i ≤ k
 ·rw [T2 TX]
 ·rw [T3 TX];unfold dX;rw [T2 (show k < i by omega), Xm]
theorem xd (d : Nat) (a b : Dyadic) (xs : List Dyadic) : iE d a b xs (d + 1) 0 = kt d (dX d a b) xs := by
 unfold iE kt;refine V7 fun k _ => ?_;rw [T3 TX, Wm]
theorem Sz.zU {a : Dyadic} (h : Sz q a) {i d : Nat} (hi : i ≤ d) : Sz (1 + q * d) (a ^ i) := (Sz.pow h i).mono (by have := Uz q hi; omega)
theorem xK {d i : Nat} {a b : Dyadic} (ha : Sz q a) (hb : Sz q b) (hd : d ≤ 127) (hk : k ≤ d) : Sz (130 + 2 * (q * d)) (dX d a b i k) := by
 unfold dX;split
 ·exact Sz.zero _
 ·refine (((qC (d - i) (k - i) TX).mul (ha.zU (show i ≤ d by omega))).mul (hb.zU (show k - i ≤ d by omega))).mono TX
theorem xp (h : ∀ x ∈ xs, Sz k x) (i : Nat) : Sz k (jm xs i) := by
 unfold jm
 cases hx : xs[i]? with
 | none => exact Sz.zero _
 | some x => exact h x (T7 hx)
theorem Dj {d i K : Nat} {a b : Dyadic} (hx : ∀ x ∈ xs, Sz K x) (ha : Sz q a) (hb : Sz q b) (hd : d ≤ 127) (hi : i ≤ d + 1) : ∀ x ∈ iE d a b xs i j, Sz (K + 130 + 2 * (q * d) + 130) x := fun x hx2 => by
 obtain ⟨k, hk, rfl⟩ := Ui.1 hx2;have hk := UT.1 hk;have h1 : ∀ m, Sz (K + (130 + 2 * (q * d))) (jm xs m * dX d a b m k) := fun m => (xp hx m).mul (xK ha hb hd TX);have h2 := zi (l := List.range i) (f := fun m => jm xs m * dX d a b m k) (k := K + (130 + 2 * (q * d))) fun m _ => h1 m;rw [V6] at h2;refine (h2.add (y := if i ≤ k ∧ k < i + j then jm xs i * dX d a b i k else 0) ?_).mono TX;split
 ·exact (h1 i).mono TX
 ·exact Sz.zero _
section
variable (A : List Nat) (d : Nat) (φ : List Dyadic → List Dyadic)
def Ti (X : List Dyadic) (q f i : Nat) : List Dyadic := (List.range X.length).map fun p =>
 if p / av A / (d + 1) = q ∧ (p % av A < f ∨ p % av A = f ∧ p / av A % (d + 1) < i) then jm (φ (fg A d X (p % av A) q)) (p / av A % (d + 1)) else jm X p
def Tu (X : List Dyadic) (q : Nat) : List Dyadic := Ti A d φ X q (av A) 0
end
section
variable {A : List Nat} {d : Nat} {φ : List Dyadic → List Dyadic} {X : List Dyadic}
theorem su {f : Nat} (hf : f < av A) (hk : k ≤ d) : df A d f k q % av A = f ∧ df A d f k q / av A % (d + 1) = k ∧ df A d f k q / av A / (d + 1) = q := by
 unfold df;have hA := cS A;rw [VW, UG hf, Vk _ _ hA, U1 hf, Uv, VW, UG TX, Vk _ _ TX, U1 TX, Uv];exact ⟨rfl, rfl, rfl⟩
theorem xS (p : Nat) : df A d (p % av A) (p / av A % (d + 1)) (p / av A / (d + 1)) = p := by
 unfold df;rw [WH, WH]
theorem Aw {l : List Dyadic} (h : k < l.length) : l[k]? = some (jm l k) := by
 unfold jm;rw [Vq h]
 rfl
def TQ (A : List Nat) (d : Nat) (B : List Nat) (M : Nat → Nat → Dyadic) (xs : List Dyadic) (j : Nat) : List Dyadic := (List.range xs.length).map fun p => if p / av A / (d + 1) < j then jm (gu (A ++ d :: B) A.length M xs) p else jm xs p
end
variable {F : Nat}
section
variable (A : List Nat) (d L : Nat) (φ : List Dyadic → List Dyadic)
def kI (p : Nat) : Nat := df A d (p % av A) 0 (p / av A / (d + 1))
def iP (X : List Dyadic) (F i : Nat) : List Dyadic := (List.range X.length).map fun p =>
 if p / av A % (d + 1) < L ∧ (kI A d p < F ∨ kI A d p = F ∧ p / av A % (d + 1) < i) then jm (φ (fg A d X (p % av A) (p / av A / (d + 1)))) (p / av A % (d + 1)) else jm X p
end
section
variable {A : List Nat} {d L : Nat} {φ : List Dyadic → List Dyadic} {X : List Dyadic}
theorem gF (F i : Nat) : (iP A d L φ X F i).length = X.length := by simp [iP]
theorem nj {i p : Nat} (h : p < X.length) : (iP A d L φ X F i)[p]? = some (if p / av A % (d + 1) < L ∧ (kI A d p < F ∨ kI A d p = F ∧ p / av A % (d + 1) < i) then jm (φ (fg A d X (p % av A) (p / av A / (d + 1)))) (p / av A % (d + 1)) else jm X p) := by
 unfold iP;rw [Ue, UY h]
 rfl
theorem yK {i G : Nat} (h : ∀ p, p < X.length → p / av A % (d + 1) < L → ((kI A d p < F ∨ kI A d p = F ∧ p / av A % (d + 1) < i) ↔ (kI A d p < G ∨ kI A d p = G ∧ p / av A % (d + 1) < j))) : iP A d L φ X F i = iP A d L φ X G j := by
 refine Ve fun p => ?_;by_cases hp : p < X.length
 ·rw [nj hp, nj hp];congr 1;by_cases hL : p / av A % (d + 1) < L
  ·by_cases h1 : kI A d p < F ∨ kI A d p = F ∧ p / av A % (d + 1) < i
   ·rw [T2 ⟨hL, h1⟩, T2 ⟨hL, (h p hp hL).1 h1⟩]
   ·rw [T3 (fun h => h1 h.2), T3 (fun h2 => h1 ((h p hp hL).2 h2.2))]
  ·rw [T3 (fun h => hL h.1), T3 (fun h => hL h.1)]
 ·rw [Uy (by rw [gF]; omega), Uy (by rw [gF]; omega)]
theorem GM : iP A d L φ X 0 0 = X := by
 refine Ve fun p => ?_;by_cases h : p < X.length
 ·rw [nj h, T3 TX, Aw h]
 ·rw [Uy (by rw [gF]; omega), Uy TX]
theorem CD {f : Nat} (hf : f < av A) : df A d f 0 q % av A = f ∧ df A d f 0 q / av A % (d + 1) = 0 ∧ df A d f 0 q / av A / (d + 1) = q := su hf (T6 _)
theorem GB {f : Nat} (hf : f < av A) (hk : k ≤ d) : kI A d (df A d f k q) = df A d f 0 q := by
 obtain ⟨h1, _, h3⟩ := su (q := q) hf hk;unfold kI;rw [h1, h3]
theorem GI (h : F / av A % (d + 1) ≠ 0) : iP A d L φ X F 0 = iP A d L φ X (F + 1) 0 := yK fun p _ _ => by
 have hne : kI A d p ≠ F := fun e => by
  have := (CD (d := d) (q := p / av A / (d + 1)) (Uw p (cS A))).2.1;unfold kI at e;rw [e] at this;exact h this
 omega
theorem Gz {i : Nat} (h : L ≤ i) : iP A d L φ X F i = iP A d L φ X (F + 1) 0 := yK fun p _ hL => by omega
theorem Hj {f i : Nat} (hf : f < av A) (hiL : i < L) (hi : i ≤ d) : (iP A d L φ X (df A d f 0 q) i).set (df A d f i q) (jm (φ (fg A d X f q)) i) = iP A d L φ X (df A d f 0 q) (i + 1) := by
 obtain ⟨h1, h2, h3⟩ := su (q := q) hf hi;refine Ve fun p => ?_;rw [VH, gF];by_cases hp : p < X.length
 ·rw [nj hp, nj hp];by_cases e : df A d f i q = p
  ·subst e;rw [T2 rfl, T2 hp, h1, h2, h3, GB hf hi, T2 ⟨hiL, .inr ⟨rfl, Nat.lt_succ_self i⟩⟩]
  ·rw [T3 e];have hne : ¬ (kI A d p = df A d f 0 q ∧ p / av A % (d + 1) = i) := fun ⟨a, b⟩ => by
    have e1 := CD (d := d) (q := p / av A / (d + 1)) (Uw p (cS A));have e2 := CD (d := d) (q := q) hf;unfold kI at a;rw [a] at e1;have := xS (A := A) (d := d) p;rw [b, ← e1.1, ← e1.2.2, e2.1, e2.2.2] at this;exact e this
   congr 1;by_cases hL : p / av A % (d + 1) < L ∧ (kI A d p < df A d f 0 q ∨ kI A d p = df A d f 0 q ∧ p / av A % (d + 1) < i)
   ·rw [T2 hL, T2 ⟨hL.1, TX⟩]
   ·rw [T3 hL, T3 (fun h => hL ⟨h.1, TX⟩)]
 ·rw [Uy (by rw [gF]; omega)];by_cases e : df A d f i q = p
  ·rw [T2 e, e, T3 hp, Uy (by rw [gF]; omega)]
  ·rw [T3 e, Uy (by rw [gF]; omega)]
theorem FB {B : List Nat} {p : Nat} (hX : X.length = av (A ++ d :: B)) (hp : p < X.length) : (iP A d L φ X X.length 0)[p]? = some (if p / av A % (d + 1) < L then jm (φ (fg A d X (p % av A) (p / av A / (d + 1)))) (p / av A % (d + 1)) else jm X p) := by
 rw [nj hp];have hlt : kI A d p < X.length := by
  have h1 := xS (A := A) (d := d) p;have h2 : kI A d p ≤ p := by
   conv => rhs; rw [← h1]
   unfold kI df;have := Uz (av A) (show 0 + (d + 1) * (p / av A / (d + 1)) ≤ p / av A % (d + 1) + (d + 1) * (p / av A / (d + 1)) by omega);omega
  omega
 congr 1;by_cases h : p / av A % (d + 1) < L
 ·rw [T2 ⟨h, .inl hlt⟩, T2 h]
 ·rw [T3 (fun h2 => h h2.1), T3 h]
theorem IP {B : List Nat} {M : Nat → Nat → Dyadic} (hX : X.length = av (A ++ d :: B)) : iP A d (d + 1) (kt d M) X X.length 0 = gu (A ++ d :: B) A.length M X := by
 refine Ve fun p => ?_;by_cases hp : p < X.length
 ·obtain ⟨f, k, q, hf, hk, hq, rfl⟩ := C0 (A := A) (d := d) (B := B) (by rw [← hX]; exact hp);obtain ⟨h1, h2, h3⟩ := su (q := q) hf hk;rw [FB hX hp, h1, h2, h3, T2 TX];have e1 : (kt d M (fg A d X f q))[k]? = some (sm (List.range (d + 1)) fun i => jm (fg A d X f q) i * M i k) := by
   unfold kt;exact Jd
  rw [HI M X hf hk hq];congr 1;show ((kt d M (fg A d X f q))[k]?).getD 0 = _;rw [e1];refine bo fun i hi => ?_;have hi := UT.1 hi;show ((fg A d X f q)[i]?).getD 0 * _ = _;unfold fg;rw [Ue, UY hi]
  rfl
 ·rw [Uy (by rw [gF]; omega), Uy (by rw [nU, ← hX]; omega)]
end
theorem mU (N : Nat) : fF N [.bool false, .string (ByteArray.mk #[]), .int .i64 0] = az NR.cells ((List.replicate N (0 : Dyadic)).map nR) := by
 rw [HK, uE]
theorem Sz.bz {x : Dyadic} (h : Sz k x) : (nR x).bz.size ≤ k + 1 := by have := h.nr.1; omega
structure MU (q : Nat) (s : NR) (x : Dyadic) : Prop where
 ok : s.ok
 bz : s.bz.size ≤ 2001
 d : s.d = x
 sz : Sz q x
theorem MU.of {x : Dyadic} (h : Sz q x) (hq : q ≤ 2000) : MU q (nR x) x := ⟨h.ok TX, by have := h.bz; omega, bR x, h⟩
def TB (l : List Dyadic) (i : Nat) : List Dyadic := (List.range l.length).map fun k => if k < i ∨ l.length ≤ k + i then jm l (l.length - 1 - k) else jm l k
def gy : List Dyadic → Dyadic → Dyadic
 | [], _ => 0
 | c :: cs, t => c + t * gy cs t
theorem kz {a b : Dyadic} (h : a * b = 0) (ha : a ≠ 0) : b = 0 := by
 refine VO fun hb => ?_;have key : ∀ x y : Dyadic, 0 < x → y ≠ 0 → x * y ≠ 0 := fun x y hx hy => by
  by_cases h0 : 0 < y
  ·have := Lean.Grind.OrderedRing.mul_pos hx h0;grind
  ·have hy0 : 0 < -y := by grind
   have := Lean.Grind.OrderedRing.mul_pos hx hy0;grind
 by_cases h0 : 0 < a
 ·exact key a b h0 hb h
 ·exact key (-a) b (by grind) hb (by grind)
theorem NM (l : List Dyadic) : ∃ a : Dyadic, ∀ b ∈ l, b < a := by
 induction l with
 | nil => exact ⟨0, fun b hb => nomatch hb⟩
 | cons x l ih =>
  obtain ⟨a, ha⟩ := ih;by_cases h : a ≤ x
  ·refine ⟨x + 1, fun b hb => ?_⟩
   rcases Ul.1 hb with rfl | hb
   ·grind
   ·have := ha b hb; grind
  ·refine ⟨a, fun b hb => ?_⟩
   rcases Ul.1 hb with rfl | hb
   ·grind
   ·exact ha b hb
theorem yn (a : Dyadic) : ∀ cs : List Dyadic, ∃ g : List Dyadic, g.length ≤ cs.length - 1 ∧ (∀ t, gy cs t = gy cs a + (t - a) * gy g t) ∧ ((∀ x ∈ g, x = 0) → gy cs a = 0 → ∀ x ∈ cs, x = 0)
 | [] => ⟨[], T5 _, fun t => by simp only [gy]; grind, fun _ _ x hx => nomatch hx⟩
 | [c] => ⟨[], T5 _, fun t => by simp only [gy]; grind, fun _ h x hx => by
   rw [Un.1 hx];simp only [gy] at h;grind⟩
 | c :: d :: cs => by
  obtain ⟨g, h1, h2, h3⟩ := yn a (d :: cs);refine ⟨gy (d :: cs) a :: g, ?_, fun t => ?_, fun hg h0 x hx => ?_⟩
  ·simp only [Uq] at h1 ⊢; omega
  ·show c + t * gy (d :: cs) t = (c + a * gy (d :: cs) a) + (t - a) * (gy (d :: cs) a + t * gy g t);rw [h2 t];generalize gy (d :: cs) a = A;generalize gy g t = B;grind
  ·have e1 : gy (d :: cs) a = 0 := hg _ Uc;have e2 := h3 (fun y hy => hg y (Uf _ hy)) e1
   rcases Ul.1 hx with rfl | hx
   ·rw [gy, e1] at h0; grind
   ·exact e2 x hx
theorem Av : ∀ (n : Nat) (cs bad : List Dyadic), cs.length ≤ n → (∀ t, t ∉ bad → gy cs t = 0) → ∀ x ∈ cs, x = 0
 | 0, cs, _, hn, _ => fun x hx => by
  rw [V1.1 (Nat.le_zero.1 hn)] at hx
  cases hx
 | n + 1, cs, bad, hn, h => by
  obtain ⟨a, ha⟩ := NM bad;have hab : a ∉ bad := fun hb => by have := ha a hb; grind
  obtain ⟨g, h1, h2, h3⟩ := yn a cs;have ha0 := h a hab;refine h3 (Av n g (a :: bad) TX fun t ht => ?_) ha0;rw [Ul, not_or] at ht;have e1 := h2 t;rw [h t ht.2, ha0] at e1;refine kz (a := t - a) (by grind) (fun e => ht.1 (by grind))
theorem vH (f : Nat → Dyadic) (t : Dyadic) : ∀ (n s : Nat), t ^ s * gy ((List.range' s n).map f) t = sm (List.range' s n) fun r => f r * t ^ r
 | 0, s => by rw [List.range'_zero]; exact Xm _
 | n + 1, s => by
  rw [List.range'_succ, Ut, gy, sm, ← vH f t n (s + 1), Xf];grind
theorem yl {f : Nat → Dyadic} (h : ∀ t, sm (List.range n) (fun r => f r * t ^ r) = 0) : ∀ r, r < n → f r = 0 := fun r hr => by
 refine Av n ((List.range n).map f) [] (by simp) (fun t _ => ?_) (f r) (Ui.2 ⟨r, UT.2 hr, rfl⟩);have e1 := vH f t n 0;rw [← List.range_eq_range', h t] at e1;refine kz e1 ?_;rw [WB];decide
def dL : List Nat → List Dyadic → Dyadic
 | a :: s, x :: xs => x ^ a * dL s xs
 | _, _ => 1
theorem Jy (l : List α) (k : α → Nat) (n : Nat) (hk : ∀ a ∈ l, k a < n) (f : α → Dyadic) : sm l f = sm (List.range n) fun r => sm (l.filter fun a => decide (k a = r)) f := by
 induction l with
 | nil => exact (jA fun r _ => rfl).symm
 | cons a l ih =>
  rw [sm, ih fun b hb => hk b (Uf _ hb)];have e : (fun r => sm ((a :: l).filter fun b => decide (k b = r)) f) = fun r => (if r = k a then f a else 0) + sm (l.filter fun b => decide (k b = r)) f := funext fun r => by
   by_cases h : k a = r
   ·rw [Xw (by simpa using h), sm, T2 h.symm]
   ·rw [Xb (by simpa using h), T3 (fun e => h e.symm)]; grind
  rw [e, ti, pz, T2 (hk a Uc)]
theorem y9 : ∀ (v : Nat) (l : List (List Nat × Dyadic)), (∀ q ∈ l, q.1.length = v) → (∀ xs : List Dyadic, xs.length = v → sm l (fun q => q.2 * dL q.1 xs) = 0) → ∀ a : List Nat, sm l (fun q => if q.1 = a then q.2 else 0) = 0
 | 0, l, hl, h, a => by
  have h0 := h [] rfl;by_cases ha : a = []
  ·refine Eq.trans (bo fun q hq => ?_) h0;have e1 := V1.1 (hl q hq);rw [e1, T2 ha.symm];show q.2 = q.2 * 1;grind
  ·exact jA fun q hq => T3 (by rw [V1.1 (hl q hq)]; exact fun e => ha e.symm)
 | v + 1, l, hl, h, a => by
  match a with
  | [] => exact jA fun q hq => T3 fun e => by have := hl q hq; rw [e] at this; cases this
  | a0 :: a =>
   obtain ⟨n, hn⟩ : ∃ n, ∀ q ∈ l, q.1.headD 0 < n := by
    clear hl h
    induction l with
    | nil => exact ⟨0, fun q hq => nomatch hq⟩
    | cons p l ih =>
     obtain ⟨n, hn⟩ := ih;refine ⟨max n (p.1.headD 0 + 1), fun q hq => ?_⟩
     rcases Ul.1 hq with rfl | hq
     ·omega
     ·have := hn q hq; omega
   have hsplit : ∀ (xs : List Dyadic), xs.length = v → ∀ r, r < n → sm (l.filter fun q => decide (q.1.headD 0 = r)) (fun q => q.2 * dL q.1.tail xs) = 0 := fun xs hx => by
    refine yl fun t => ?_;have e1 := h (t :: xs) (by simpa using hx);rw [Jy l (fun q => q.1.headD 0) n hn] at e1;refine Eq.trans (bo fun r _ => ?_) e1;rw [← kF];refine bo fun q hq => ?_;obtain ⟨hq1, hq2⟩ := Vf.1 hq;have hq3 := hl q hq1;obtain ⟨qa, qc⟩ := q
    match qa, hq3 with
    | b :: bs, _ =>
     have hb : b = r := by simpa using hq2
     show qc * dL bs xs * t ^ r = qc * (t ^ b * dL bs xs);rw [hb];grind
   by_cases ha0 : a0 < n
   ·have ih := y9 v ((l.filter fun q => decide (q.1.headD 0 = a0)).map fun q => (q.1.tail, q.2)) (fun q hq => by
     obtain ⟨p, hp, rfl⟩ := Ui.1 hq;have := hl p (Vf.1 hp).1;show p.1.tail.length = v;rw [List.length_tail];omega) (fun xs hx => by rw [jt]; exact hsplit xs hx a0 ha0) a
    rw [jt] at ih;rw [← wW l (fun q => decide (q.1.headD 0 = a0))]
    ·refine Eq.trans (bo fun q hq => ?_) ih;obtain ⟨hq1, hq2⟩ := Vf.1 hq;have hq3 := hl q hq1;obtain ⟨qa, qc⟩ := q
     match qa, hq3 with
     | b :: bs, _ =>
      have hb : b = a0 := by simpa using hq2
      subst hb;show (if b :: bs = b :: a then qc else 0) = if bs = a then qc else 0
      by_cases e : bs = a
      ·rw [T2 e, T2 (by rw [e])]
      ·rw [T3 e, T3 fun h => e (List.cons.inj h).2]
    ·intro q hq hf;refine T3 fun e => ?_;rw [e] at hf;simp at hf
   ·refine jA fun q hq => T3 fun e => ?_;have := hn q hq;rw [e] at this;exact ha0 this
theorem wc (x y : Dyadic) (n : Nat) : (x * y) ^ n = x ^ n * y ^ n := by
 induction n with
 | zero => grind
 | succ n ih => grind
theorem ij (n : Nat) : (1 : Dyadic) ^ n = 1 := by
 induction n with
 | zero => grind
 | succ n ih => grind
def cn (m : ByteArray) : List Nat := m.data.toList.map UInt8.toNat
theorem jY (m : ByteArray) : (cn m).length = m.size := by rw [dE]; exact Ug _
theorem sY {a b : ByteArray} (h : cn a = cn b) : a = b := tT (List.map_inj_right (fun _ _ => WV.1) |>.1 h)
theorem kT (m : ByteArray) : ints m.data.toList = bL (cn m) := by unfold ints bL cn; rw [U5]; rfl
theorem Je {a b : List Nat} (h : bL a = bL b) : a = b := (List.map_inj_right fun (x y : Nat) (e : (x : Int) = y) => Int.ofNat.inj e).1 h
def iG (xs : List Dyadic) (l : List TR) : Dyadic := wS (fun m => dL (cn m) xs) l
theorem pH (f : ByteArray → Dyadic) (l : List TR) : wS f l = sm l fun t => t.c.d * f t.m := by
 induction l with
 | nil => rfl
 | cons t l ih => rw [wS, sm, ih]
theorem ea (xs : List Dyadic) (l : List TR) : iG xs (aE l) = iG xs l := qg _ _
theorem nW (xs : List Dyadic) (l k : List TR) : iG xs (l ++ k) = iG xs l + iG xs k := mY _ _ _
theorem Bd : ∀ (a b : List Nat) (xs : List Dyadic), a.length = b.length → dL (List.zipWith (· + ·) a b) xs = dL a xs * dL b xs
 | [], [], xs, _ => by show (1 : Dyadic) = 1 * 1; grind
 | [], _ :: _, _, h => by cases h
 | _ :: _, [], _, h => by cases h
 | x :: a, y :: b, [], _ => by show (1 : Dyadic) = 1 * 1; grind
 | x :: a, y :: b, t :: xs, h => by
  rw [List.zipWith_cons_cons, dL, dL, dL, Bd a b xs (by simpa using h), nn];grind
theorem k7 : ∀ (n : Nat) (xs : List Dyadic), dL (List.replicate n 0) xs = 1
 | 0, xs => by cases xs <;> rfl
 | n + 1, [] => rfl
 | n + 1, x :: xs => by
  rw [V9, dL, k7 n xs, WB];grind
theorem HA {a b : ByteArray} (h : mm a b = 0) : cn (mulM a b) = List.zipWith (· + ·) (cn a) (cn b) ∧ (cn a).length = (cn b).length := by
 obtain ⟨_, _, h3, _, h5⟩ := ni h;refine ⟨Je ?_, by unfold cn; rw [Ug, Ug, h3]⟩;rw [← kT, mulM, dv, h5, kT, kT];unfold bL;rw [List.zipWith_map, List.map_zipWith];exact U9 (fun f => List.zipWith f (cn a) (cn b)) (funext fun x => funext fun y => (V0 x y).symm)
theorem GZ {q : List TR} (h : ∀ e ∈ qW p q, e = 0) : iG xs (cg p q) = iG xs p * iG xs q := by
 have hm : ∀ a ∈ p, ∀ b ∈ q, mm a.m b.m = 0 := fun a ha b hb => h _ (VY.2 ⟨a, ha, Ui.2 ⟨b, hb, rfl⟩⟩);unfold iG;rw [Br, Dyadic.mul_comm, ← I7];refine Ow fun a ha => ?_;rw [Dyadic.mul_comm, ← I7];refine Ow fun b hb => ?_;obtain ⟨e1, e2⟩ := HA (hm a ha b hb);rw [e1, Bd _ _ _ e2]
theorem sx (j : Nat) (t : TR) : fK j t = ((cn t.m)[j]?).getD 0 := by
 unfold fK cn;rw [Ue]
 cases t.m.data.toList[j]? <;> rfl
theorem Hn (g : TR → Dyadic) (Q : Dyadic) : sm p (fun t => if n ≤ fK j t then g t * Q ^ (fK j t - n) else 0) = sm p (fun t => if n + 1 ≤ fK j t then g t * Q ^ (fK j t - (n + 1)) else 0) * Q + sm (bh p j n) g := by
 have e1 : sm (bh p j n) g = sm p fun t => if fK j t = n then g t else 0 := by
  unfold bh;rw [← wW p (fun t => decide (fK j t = n)) (fun t => if fK j t = n then g t else 0) (fun t _ h => T3 (by simpa using h))];exact bo fun t ht => (T2 (by simpa using (Vf.1 ht).2)).symm
 rw [e1, ← kF, ← ti];refine bo fun t _ => ?_;by_cases h1 : fK j t = n
 ·rw [T2 TX, T3 TX, T2 h1, h1, UW, WB];grind
 ·rw [T3 h1];by_cases h2 : n + 1 ≤ fK j t
  ·rw [T2 TX, T2 h2, show fK j t - n = (fK j t - (n + 1)) + 1 by omega, Xf];grind
  ·rw [T3 TX, T3 h2];grind
theorem Dz {xs : List Dyadic} {q p : List TR} {sub : List TR → Int × List TR} {j : Nat} (g : TR → Dyadic) (hp : ∀ t ∈ p, fK j t ≤ 127) (hs : ∀ n, (sub (bh p j n)).1 = 0 → iG xs (sub (bh p j n)).2 = sm (bh p j n) g) :
  ∀ i, i ≤ 128 → (bA q sub p j i).1 = 0 → iG xs (bA q sub p j i).2 = sm p fun t => if 128 - i ≤ fK j t then g t * iG xs q ^ (fK j t - (128 - i)) else 0
 | 0, _, _ => (jA fun t ht => T3 (by have := hp t ht; omega)).symm
 | i + 1, hi, h0 => by
  have h1 : (bA q sub p j i).1 = 0 := by
   refine VO fun c => ?_;rw [jG c (Nat.le_succ i)] at h0;exact c h0
  have ih := Dz g hp hs i TX h1;have e1 := Hn (p := p) (j := j) (n := 127 - i) g (iG xs q);rw [show 128 - (i + 1) = 127 - i by omega, e1, show 127 - i + 1 = 128 - i by omega, ← ih];rw [iV] at h0 ⊢;unfold hH at h0 ⊢;rw [T3 (fun h => h h1)] at h0 ⊢;by_cases c1 : (bA q sub p j i).2.length = 0 ∧ (bh p j (127 - i)).length = 0
  ·rw [T2 c1, V1.1 c1.1, V1.1 c1.2];show (0 : Dyadic) = 0 * _ + 0;grind
  ·rw [T3 c1] at h0 ⊢;by_cases c2 : eZ (bA q sub p j i).2 q ≠ 0
   ·rw [T2 c2] at h0; exact absurd h0 c2
   ·rw [T3 c2] at h0 ⊢;by_cases c3 : (sub (bh p j (127 - i))).1 ≠ 0
    ·rw [T2 c3] at h0; exact absurd h0 c3
    ·rw [T3 c3] at h0 ⊢;by_cases c4 : gp (aE (cg (bA q sub p j i).2 q) ++ (sub (bh p j (127 - i))).2) ≠ 0
     ·rw [T2 c4] at h0; exact absurd h0 c4
     ·rw [T3 c4];show iG xs (aE _) = _;rw [ea, nW, ea, GZ (j8 TX).2.1, hs _ TX]
theorem K9 (h : sC p) (he : ∀ a ∈ p, ∀ b ∈ p, a.m = b.m) : p.length ≤ 1 := by
 match p, h, he with
 | [], _, _ => exact T6 _
 | [_], _, _ => exact T5 _
 | a :: b :: p, h, he =>
  have h1 := (Vl.1 h).1 b Uc;rw [he a Uc b (Uf _ Uc), gP] at h1
  cases h1
theorem DG.one {v : Int} (h : DG v j p) (hj : v ≤ j) : p.length ≤ 1 := K9 h.rL fun a ha b hb => tT (by
 have e := h.pre a ha b hb;have l1 := h.size a ha;have l2 := h.size b hb;rwa [T9 TX, T9 TX] at e)
theorem qk (v : Int) (q : List TR) (qs : List (List TR)) (j : Nat) (p : List TR) : ep v (q :: qs) j p = bA q (ep v qs (j + 1)) p j 128 := rfl
theorem Qd {v w : Int} (qs : List (List TR)) : ∀ (j : Nat) (p : List TR), DG w j p → w = ((j + qs.length : Nat) : Int) → (ep v qs j p).1 = 0 → iG xs (ep v qs j p).2 = sm p fun t => t.c.d * dL ((cn t.m).drop j) (qs.map (iG xs)) := by
 induction qs with
 | nil =>
  intro j p hs hw _;have h1 := hs.one (by rw [hw]; exact Int.le_refl _);show iG xs (aE _) = _;rw [ea];have hz : cn (dJ v) = List.replicate v.toNat 0 := by unfold cn dJ; simp
  match p, h1 with
  | [], _ =>
   show (nR 0).d * _ + 0 = 0;rw [bR];grind
  | [t], _ =>
   show t.c.d * dL (cn (dJ v)) xs + 0 = t.c.d * dL _ [] + 0;rw [hz, k7]
   cases (cn t.m).drop j <;> rfl
 | cons q qs ih =>
  intro j p hs hw h0;have hj : (j : Int) < w := by rw [hw, Uq]; omega
  have hx : ∀ t ∈ p, fK j t ≤ 127 := fun t ht => by
   obtain ⟨e, _, h2, h3⟩ := hs.get hj ht;omega
  rw [qk] at h0 ⊢;have hsub := fun n hn => ih (j + 1) (bh p j n) (hs.with hj) (by rw [hw, Uq]; omega) hn;generalize ep v qs (j + 1) = sub at hsub h0 ⊢;have h1 := fun i hi hz => Dz (xs := xs) (q := q) (sub := sub) (p := p) (j := j) (fun t => t.c.d * dL ((cn t.m).drop (j + 1)) (qs.map (iG xs))) hx hsub i hi hz;obtain ⟨m, hm⟩ : ∃ m, m = 128 := ⟨_, rfl⟩;rw [← hm] at h0 ⊢;rw [h1 m TX h0];refine bo fun t ht => ?_;rw [T2 TX, show fK j t - (128 - m) = fK j t by omega];obtain ⟨e, h2, h3, _⟩ := hs.get hj ht;have hd : (cn t.m).drop j = fK j t :: (cn t.m).drop (j + 1) := by
   refine gJ ?_;rw [h3];unfold cn;rw [Ue, h2]
   rfl
  rw [hd, Ut, dL];grind
theorem I9 {p : PX} {ls : List PX} (h : (cQ p ls).1 = 0) : iG xs (cQ p ls).2 = iG (ls.map fun g => iG xs g.ts) p.ts := by
 unfold cQ at h ⊢;by_cases h1 : p.e ≠ 0
 ·rw [T2 h1] at h; exact absurd h h1
 ·rw [T3 h1] at h ⊢;by_cases h2 : (ls.length : Int) ≠ p.v
  ·rw [T2 h2] at h; exact absurd h TY
  ·rw [T3 h2] at h ⊢;by_cases h3 : ls.length ≠ 0 ∧ eY ls ≠ 0
   ·rw [T2 h3] at h; exact absurd h h3.2
   ·rw [T3 h3] at h ⊢;rw [Qd (w := p.v) (ls.map PX.ts) 0 p.ts (zD (by unfold PX.e at h1; omega)) (by rw [Ug, Uv]; omega) h, U5];unfold iG;rw [pH]
    rfl
theorem PH {v : Nat} {k : List TR} (hl : Canon l) (hk : Canon k) (sl : ∀ t ∈ l, t.m.size = v) (sk : ∀ t ∈ k, t.m.size = v) (h : ∀ xs : List Dyadic, xs.length = v → iG xs l = iG xs k) : l = k := tk hl hk fun m => by
 have e1 := y9 v (l.map (fun t => (cn t.m, t.c.d)) ++ k.map (fun t => (cn t.m, -1 * t.c.d))) (fun q hq => by
  rcases UD.1 hq with hq | hq
  ·obtain ⟨t, ht, rfl⟩ := Ui.1 hq;rw [jY];exact sl t ht
  ·obtain ⟨t, ht, rfl⟩ := Ui.1 hq;rw [jY];exact sk t ht) (fun xs hx => by
  have e2 := h xs hx;unfold iG at e2;rw [pH, pH] at e2;rw [ld, jt, jt];show sm l (fun t => t.c.d * dL (cn t.m) xs) + sm k (fun t => -1 * t.c.d * dL (cn t.m) xs) = 0;rw [e2, ← ti];exact jA fun t _ => by grind) (cn m)
 rw [ld, jt, jt] at e1;have e3 : ∀ l : List TR, gj l m = sm l fun t => if cn t.m = cn m then t.c.d else 0 := fun l => by
  unfold gj;rw [pH];refine bo fun t _ => ?_;by_cases hm : t.m = m
  ·rw [T2 hm, T2 (by rw [hm])]; grind
  ·rw [T3 hm, T3 fun e => hm (sY e)]; grind
 have e4 : (sm k fun t => if cn t.m = cn m then -1 * t.c.d else 0) = -1 * gj k m := by
  rw [e3, ← iu];refine bo fun t _ => ?_;by_cases hm : cn t.m = cn m
  ·rw [T2 hm, T2 hm]
  ·rw [T3 hm, T3 hm]; grind
 have e5 : gj l m + -1 * gj k m = 0 := by
  rw [← e4, e3];exact e1
 grind
variable {X : List Dyadic}
def wK : Nat → List Nat → List Nat → List Nat → Dyadic
 | m + 1, _ :: ds, a :: s, r :: rs => (if a = r then 1 else 0) * wK m ds s rs
 | 0, d :: ds, a :: s, r :: rs => dX d 1 1 a r * wK 0 ds s rs
 | _, _, _, _ => 1
theorem DE : ∀ (j : Nat) (ds s rs : List Nat), j < ds.length → ll ds s → ll ds rs → sm (List.range (ds.getD j 0 + 1)) (fun i => wK (j + 1) ds s (rs.set j i) * dX (ds.getD j 0) 1 1 i (rs.getD j 0)) = wK j ds s rs
 | _, [], _, _, h, _, _ => by cases h
 | _, _ :: _, [], _, _, h, _ => by cases h
 | _, _ :: _, _ :: _, [], _, _, h => by cases h
 | 0, d :: ds, a :: s, r :: rs, _, h1, _ => by
  show sm (List.range (d + 1)) (fun i => (if a = i then 1 else 0) * wK 0 ds s rs * dX d 1 1 i r) = dX d 1 1 a r * wK 0 ds s rs;have e : sm (List.range (d + 1)) (fun i => (if a = i then 1 else 0) * wK 0 ds s rs * dX d 1 1 i r) = sm (List.range (d + 1)) fun i => if i = a then dX d 1 1 a r * wK 0 ds s rs else 0 := bo fun i _ => by
   by_cases h : a = i
   ·rw [T2 h, T2 h.symm, h]; grind
   ·rw [T3 h, T3 (fun e => h e.symm)]; grind
  rw [e, pz, T2 (by have := h1.1; omega)]
 | j + 1, d :: ds, a :: s, r :: rs, hj, h1, h2 => by
  show sm (List.range (ds.getD j 0 + 1)) (fun i => (if a = r then 1 else 0) * wK (j + 1) ds s (rs.set j i) * dX (ds.getD j 0) 1 1 i (rs.getD j 0)) = (if a = r then 1 else 0) * wK j ds s rs;rw [← DE j ds s rs (by simpa using hj) h1.2 h2.2, ← iu];exact bo fun i _ => by grind
theorem Kn : ∀ (ds s rs : List Nat), ll ds s → ll ds rs → wK ds.length ds s rs = if s = rs then 1 else 0
 | [], [], [], _, _ => by rw [T2 rfl]; rfl
 | [], _ :: _, _, h, _ => by cases h
 | [], [], _ :: _, _, h => by cases h
 | _ :: _, [], _, h, _ => by cases h
 | _ :: _, _ :: _, [], _, h => by cases h
 | d :: ds, a :: s, r :: rs, h1, h2 => by
  show (if a = r then 1 else 0) * wK ds.length ds s rs = _;rw [Kn ds s rs h1.2 h2.2];by_cases e1 : a = r
  ·by_cases e2 : s = rs
   ·rw [T2 e1, T2 e2, T2 (by rw [e1, e2])]; grind
   ·rw [T2 e1, T3 e2, T3 fun e => e2 (List.cons.inj e).2]; grind
  ·rw [T3 e1, T3 fun e => e1 (List.cons.inj e).1]; grind
abbrev QL := List (List Nat × Dyadic)
def X0 (ds : List Nat) (L : QL) : List Dyadic := nu (av ds) (L.map fun q => (il ds q.1, q.2))
def oI (ds : List Nat) (L : QL) : Nat → List Dyadic
 | 0 => X0 ds L
 | k + 1 => gu ds (ds.length - 1 - k) (dX (ds.getD (ds.length - 1 - k) 0) 1 1) (oI ds L k)
theorem qb (ds : List Nat) (L : QL) (k : Nat) : oI ds L (k + 1) = gu ds (ds.length - 1 - k) (dX (ds.getD (ds.length - 1 - k) 0) 1 1) (oI ds L k) := rfl
theorem AA (ds : List Nat) (L : QL) (k : Nat) : (oI ds L k).length = av ds := by
 cases k with
 | zero => exact k9 _ _
 | succ k => rw [qb, nU]
theorem II {ds : List Nat} {L : QL} (hL : ∀ q ∈ L, ll ds q.1) : ∀ k, k ≤ ds.length → ∀ row, ll ds row → co ds (oI ds L k) row = sm L fun q => q.2 * wK (ds.length - k) ds q.1 row
 | 0, _, row, hr => by
  have hp := mR hr;rw [E1 hr];show ((X0 ds L)[il ds row]?).getD 0 = _;unfold X0;rw [m8 _ hp, Vo, jt];refine bo fun q hq => ?_;rw [Nat.sub_zero, Kn ds q.1 row (hL q hq) hr];by_cases h : q.1 = row
  ·rw [T2 h, T2 (by rw [h])]; grind
  ·rw [T3 h, T3 fun e => h (by rw [← iC (hL q hq), ← iC hr]; exact U9 (cL ds) e)]; grind
 | k + 1, hk, row, hr => by
  obtain ⟨j, hj⟩ : ∃ j, j = ds.length - 1 - k := ⟨_, rfl⟩;rw [qb, ← hj, vE _ _ _ hr, show ds.length - (k + 1) = j by omega];have e1 : ∀ i, i < ds.getD j 0 + 1 → co ds (oI ds L k) (row.set j i) = sm L fun q => q.2 * wK (j + 1) ds q.1 (row.set j i) := fun i hi => by
   rw [II hL k TX (row.set j i) (DM hr TX), show ds.length - k = j + 1 by omega]
  rw [bo fun i hi => show co ds (oI ds L k) (row.set j i) * dX (ds.getD j 0) 1 1 i (row.getD j 0) = sm L fun q => q.2 * (wK (j + 1) ds q.1 (row.set j i) * dX (ds.getD j 0) 1 1 i (row.getD j 0)) by
   rw [e1 i (UT.1 hi), ← kF];exact bo fun q _ => by grind, oM]
  refine bo fun q hq => ?_;rw [← DE j ds q.1 row TX (hL q hq) hr, ← iu]
def qz (ns : List Nat) (l : List TR) : List Dyadic := (List.range (av ns.reverse)).map fun p => wS (fun m => wK 0 ns.reverse (cn m).reverse (cL ns.reverse p)) l
theorem sE (ns : List Nat) (l : List TR) : (qz ns l).length = av ns := by unfold qz; rw [Ug, V6, cU]
def rQ (l : List TR) : QL := l.map fun t => ((cn t.m).reverse, t.c.d)
theorem yI {ns : List Nat} (hl : ∀ t ∈ l, ll ns.reverse (cn t.m).reverse) : oI ns.reverse (rQ l) ns.length = qz ns l := by
 have hL : ∀ q ∈ rQ l, ll ns.reverse q.1 := fun q hq => by
  obtain ⟨t, ht, rfl⟩ := Ui.1 hq;exact hl t ht
 refine PW (ds := ns.reverse) (AA _ _ _) (by rw [sE, cU]) fun row hr => ?_;have hp := mR hr;rw [II hL ns.length (by rw [UJ]; exact T5 _) row hr, E1 hr, show ns.reverse.length - ns.length = 0 by rw [UJ, UW]];unfold qz rQ;rw [Ue, UY hp, jt];show _ = wS _ l;rw [pH, iC hr]
theorem sH : ∀ {ds rs : List Nat} (a : Nat), ll ds rs → rs.getD a 0 ≤ ds.getD a 0
 | [], [], _, _ => by simp
 | [], _ :: _, _, h => by cases h
 | _ :: _, [], _, h => by cases h
 | _ :: _, _ :: _, 0, h => h.1
 | _ :: ds, _ :: rs, a + 1, h => sH (ds := ds) (rs := rs) a h.2
theorem Gd {a d : Nat} (hx : ∀ x ∈ X, Sz k x) (hd : ds.getD a 0 = d) (hd7 : d ≤ 127) : ∀ x ∈ gu ds a (dX d 1 1) X, Sz (k + 520) x := fun x h => by
 obtain ⟨p, _, rfl⟩ := Ui.1 h;have hr : (cL ds p).getD a 0 ≤ d := by rw [← hd]; exact sH a (nk ds p)
 have h2 := zi (l := List.range (ds.getD a 0 + 1)) (f := fun i => co ds X ((cL ds p).set a i) * dX d 1 1 i ((cL ds p).getD a 0)) (k := k + (130 + 2 * (1 * d))) fun i _ => by
  refine Sz.mul ?_ (xK Sz.one Sz.one hd7 hr);exact Rw
 rw [V6, hd] at h2;rw [hd];exact h2.mono TX
theorem yU {B : Nat} (h : ∀ d ∈ ds, d ≤ B) (a : Nat) : ds.getD a 0 ≤ B := by
 rw [U7]
 cases ha : ds[a]? with
 | none => exact T6 _
 | some d => exact h d (T7 ha)
theorem B1 {ds : List Nat} {L : QL} {k : Nat} (h : ∀ x ∈ X0 ds L, Sz k x) (hd : ∀ d ∈ ds, d ≤ 127) : ∀ i, ∀ x ∈ oI ds L i, Sz (k + 520 * i) x
 | 0 => h
 | i + 1 => fun x hx => (Gd (B1 h hd i) rfl (yU hd _) x hx).mono TX
theorem Od (h : iI k l) : ∀ x ∈ X0 ds (rQ l), Sz (k + l.length) x := fun x hx => by
 have := LF (N := av ds) (L := (rQ l).map fun (q : List Nat × Dyadic) => (il ds q.1, q.2)) (k := k) (fun a ha => by
  obtain ⟨q, hq, rfl⟩ := Ui.1 ha;obtain ⟨t, ht, rfl⟩ := Ui.1 hq;exact (h t ht).2) x hx
 unfold rQ at this;rwa [Ug, Ug] at this
def Su (p : Int × Int) : Bool := decide (p.2 < p.1 ∨ 127 < p.2)
def Tq (ds es : List Int) : Int := if es.length ≠ ds.length then 1 else if (ds.zip es).any Su = true then 1 else if 4096 < av (es.map Int.toNat) then 3 else 0
def PN (a b : List Nat) : List Nat := List.zipWith (· - ·) a b
def P4 (ns ts : List Nat) (xs : List Dyadic) : List Dyadic := Qr ns (PN ts ns) xs ((CH (PN ts ns)).map nD)
def TH (es ds : List Int) : List Int := List.zipWith (· - ·) es ds
theorem vF (ts : List Nat) : (bL ts).map Int.toNat = ts := by
 unfold bL;rw [U5];exact W5 ts
def Tl (e : Int) : Ending := .returned (.tuple #[.agg #[.slice none 0 0, .slice none 0 0], .int .i64 e])
def FX.vq (f : FX) : HE := .row f.B f.m f.b 65 3 (az NR.cells f.cs)
def FX.uT (f : FX) : HE := .row f.A f.n f.a 3 1 (bJ f.ds)
def QK : List FX → List HE
 | [] => []
 | f :: fs => f.vq :: f.uT :: QK fs
def Qy (a b : List Nat) : List Nat := List.zipWith max a b
def maxD (fs : List FX) : List Nat := fs.foldl (fun a f => Qy a (f.ds.map Int.toNat)) ((fs.map fun f => f.ds.map Int.toNat).headD [])
def R9 (fs : List FX) : Int := if Dm fs ≠ 0 then Dm fs else if 4096 < av (maxD fs) then 3 else 0
def FX.ns (f : FX) : List Nat := f.ds.map Int.toNat
theorem FX.fv {f : FX} (h : f.e = 0) : f.ds = bL f.ns ∧ f.cs = (f.cs.map NR.d).map nR ∧ f.ns.length ≤ 12 ∧ (∀ d ∈ f.ns, d ≤ 127) ∧ f.cs.length = av f.ns ∧ av f.ns ≤ 4096 := by
 obtain ⟨ns, xs, hv, hxs⟩ := QP h;obtain ⟨h1, h2, h3, h4, h5, h6⟩ := hv;have e : f.ns = ns := by unfold FX.ns; rw [h1]; exact vF ns
 subst hxs;rw [e];exact ⟨h1, h2, h3, h4, by simpa using h5, h6⟩
structure TI (D : List Nat) (ys : List Dyadic) (g : FX) : Prop where
 ds : g.ds = bL D
 cs : g.cs = ys.map nR
 n : g.n = D.length
 m : g.m = av D
def TV (D : List Nat) (f : FX) : List Dyadic := P4 f.ns D (f.cs.map NR.d)
def TE (a b : List Nat) (j : Nat) : List Nat := (Qy a b).take j ++ a.drop j
def Qa (a b : List Dyadic) : List Dyadic := List.zipWith (· + ·) a b
def Ts : List (List Dyadic) → List Dyadic
 | [] => []
 | x :: l => l.foldl Qa x
def TF (a b : List Dyadic) (j : Nat) : List Dyadic := (Qa a b).take j ++ a.drop j
def SW (f g : FX) : Int := if Dm [f, g] ≠ 0 then Dm [f, g] else if Ss (Pb f.ns g.ns) = true then 3 else 0
def Tf (a b : List Nat) (j : Nat) : List Nat := (Pb a b).take j ++ a.drop j
end Go.Proofs.YteeckcbbnegmcaaGreatDoor
