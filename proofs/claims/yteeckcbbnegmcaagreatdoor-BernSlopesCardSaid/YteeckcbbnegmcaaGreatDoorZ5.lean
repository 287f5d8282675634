/- Lemmas for bernSlopes, part 5. -/
import Derived.Test.YteeckcbbnegmcaaGreatDoorZ4
namespace Go.Proofs.YteeckcbbnegmcaaGreatDoor
variable {ds : List Nat} {j k m n : Nat}
open Go.RowKit
theorem Ij : ∀ (ds row : List Nat), (∀ d ∈ ds, d ≤ 127) → Q5 ds row ≤ 2 ^ (127 * ds.length)
 | [], _, _ => by show 1 ≤ 1; exact UH _
 | d :: ds, [], _ => by show 1 ≤ _; exact Vj UA
 | d :: ds, r :: rs, h => by
  have h1 : bin d r ≤ 2 ^ 127 := U1 (yS d r) (Vr UA (h d UR));have h2 := Ij ds rs fun x hx => h x (UT _ hx);rw [Q5, U7, Wf, Wx, U8];exact V3 h1 h2
theorem Ph (h : n ≤ 2 ^ m) (hk : m < k) : Sz k (nD n) := NK (VK h (Nat.pow_lt_pow_right UA hk))
theorem Rw {x : Nat} (h : x ∈ CS ds) (h1 : ds.length ≤ 12) (h2 : ∀ d ∈ ds, d ≤ 127) : Sz 1600 (nD x) := by
 obtain ⟨p, _, rfl⟩ := UY.1 h;have h3 := Ij ds.reverse (cU ds.reverse p) fun d hd => h2 d (Xb.1 hd);exact Ph h3 (by rw [Vn]; omega)
def LU (ds : List Nat) (d j : Nat) : List Nat := ((CS ds).take j).flatMap fun x => (sF d).map (x * ·)
theorem I5 {d x : Nat} (h : (CS ds)[j]? = some x) : LU ds d (j + 1) = LU ds d j ++ (sF d).map (x * ·) := by
 unfold LU;rw [ay h, Xu, List.flatMap_singleton]
theorem tB (A : Option Addr) (n c : Nat) (ns : List Nat) (w : World) (hT : eb w) (hS : Sl w A n 1 (bL (bI ns))) (h12 : ns.length ≤ 12) (hlow : ∀ d ∈ ns, d ≤ 127) (hmax : au ns ≤ 4096) :
  Calls Tryz.prog 46 #[.slice A n c] w fun r w' => ∃ B c', r = .returned (.slice B (au ns) c') ∧ w'.ownsRow w.heap.size 65 3 (.slice B (au ns) c') (au ns) (az NR.cells (K0 ns)) ∧ Below w.heap.size w w' := by
 have hh := Hp.start w;have hln : ns.length = n := by have := hS.1; simpa [bL, bI] using this
 have hc := jE ns 1 UA UA hlow;rw [Wr, UF hmax] at hc;have hc1 : gL ((1 : Nat) : Int) (bI ns) = gL 1 (bI ns) := rfl;rw [hc1] at hc;have hpos := cM ns;have hcnt := fun w1 hS1 => ez A n c (bI ns) w1 hS1 Uz;rw [hc] at hcnt;refine aj (N := 52) (l := [.slice A n c]) Tryz.func46 rfl rfl (by simp) ?_;refine sr (aL (aa (ah (sr (mL (aJ ?_))))));refine cq (mB (gT (mL ?_)));refine aG rfl rfl ?_;refine bD hh (hcnt _ (hS.ext hh.below)) rfl ?_;intro w16 hh;refine gT ?_;refine cW ?_;refine eV ?_;refine vh ?_;refine AA ?_;intro w19 hh;refine sw ?_;intro b20 w20 hh;refine rT ?_;refine bK [3, 5, 6, 8, 10, 23, 24, 25, 26, 27, 28, 29, 30, 31, 32, 33, 34, 35, 36, 37, 38, 39, 40, 41, 42, 43, 44, 45, 46, 47, 48, 49, 50] 3 23
  (fun v3 v w' => ∃ (i c3 : Nat) (B : Option Addr), i ≤ n ∧ v = .int .i64 i ∧ v3 = .slice B (au (ns.take i)) c3 ∧ Hp w [.row B (au (ns.take i)) c3 65 3 (az NR.cells (K0 (ns.take i)))] w')
  (fun _ v _ => n - (intOf v).toNat) ?_ ?_
 ·exact ⟨0, _, _, UI _, rfl, rfl, hh⟩
 ·clear hh;rintro ρ' v3 v w' ⟨i, c3, B, hi, rfl, rfl, hh⟩;by_cases hlt : i < n
  ·obtain ⟨d, hd⟩ := ak (l := ns) (k := i) Uz;have hgi := cu (jk hd);have hd127 := hlow d (UJ hd);have htl : (ns.take i).length ≤ 12 := by rw [U6]; omega
   have htw : ∀ d ∈ ns.take i, d ≤ 127 := fun d hd => hlow d (WX hd);have hct := jn ns (i + 1);have hct2 := jn ns i;have hstep : au (ns.take (i + 1)) = au (ns.take i) * (d + 1) := by rw [ay hd, du]; simp [au]
   have hsnoc : K0 (ns.take (i + 1)) = (LU (ns.take i) d (au (ns.take i))).map fun k => nR (nD k) := by
    unfold K0 LU;rw [ay hd, KF, UQ (l := CS (ns.take i)) (by rw [DP]; exact UH _)]
   generalize hds : ns.take i = ds at *;generalize hN : au ds = N at *;obtain ⟨ad, rfl, hr⟩ := hS.at_ Uz;refine sr ?_;refine dH ?_;refine ct ?_;refine tC ?_;refine aI (aa (sr (aL (aa (ah (sr (mL (aJ (mI (aa (aq ?_)))))))))));replace hh := hh.cY 65 3;refine bK [6, 8, 10, 29, 30, 31, 32, 33, 34, 35, 36, 37, 38, 39, 40, 41, 42, 43, 44, 45, 46, 47, 48] 6 29
    (fun v6 v w' => ∃ (j c6 : Nat) (C : Option Addr), j ≤ N ∧ v = .int .i64 j ∧ v6 = .slice C (j * (d + 1)) c6 ∧ Hp w [.row C (j * (d + 1)) c6 65 3 (az NR.cells ((LU ds d j).map fun k => nR (nD k))), .row B N c3 65 3 (az NR.cells (K0 ds))] w')
    (fun _ v _ => N - (intOf v).toNat) ?_ ?_
   ·refine ⟨0, 0, none, UI _, rfl, ?_, ?_⟩
    ·rw [Xl]; rfl
    ·rw [Xl]; exact hh
   ·clear hh;rintro ρ2 v6 v w2 ⟨j, c6, C, hj, rfl, rfl, hh⟩;by_cases hjN : j < N
    ·obtain ⟨x, hx⟩ := ak (l := CS ds) (k := j) (by rw [DP]; omega);have hx2 : (K0 ds)[j]? = some (nR (nD x)) := by unfold K0; rw [UO, hx]; rfl
     have zx := Rw (UJ hx) htl htw;have hj1 : (j + 1) * (d + 1) ≤ N * (d + 1) := VG _ hjN;rw [VO] at hj1;obtain ⟨go, rfl⟩ := hh.cN (i := 1) rfl Uz;refine sr ?_;refine dH ?_;refine k7 ?_;refine cw (vs := [_, _, _]) aM.out rfl (hh.iF (f := NR.cells) (x := nR (nD x)) (l := K0 ds) (i := 1) rfl NR.len UA hx2) rfl UA ?_;refine bW hh ?_;intro b8 w8 hh;refine bX hh 0 [_,_,_] ?_;intro ws hh;replace hh : Hp _ (.blk _ _ [_, _, _] _ :: _) _ := hh;refine aa (sr (mI ?_));refine aF (kT d _ (hT.hp hh) hd127) al.out rfl UA ?_;rintro e_ w34 ⟨A34, c34, rfl, hown_, hb_⟩;refine ⟨_, rfl, ?_⟩;replace hh := hh.aV (x := .row _ _ _ _ _ _) hb_ hown_;refine aJ (mI (aa (aq ?_)));refine bK [6, 10, 36, 37, 38, 39, 40, 41, 42, 43, 44, 45, 46, 47] 6 36
      (fun v6 v w' => ∃ (k c6 : Nat) (C : Option Addr), k ≤ d + 1 ∧ v = .int .i64 k ∧ v6 = .slice C (j * (d + 1) + k) c6 ∧ Hp w [.row A34 (d + 1) c34 65 3 (az NR.cells (lz d)), .blk b8 65 [.bool (nR (nD x)).neg, .string (nR (nD x)).bA, .int .i64 (nR (nD x)).e] (0, 0), .row C (j * (d + 1) + k) c6 65 3 (az NR.cells ((LU ds d j ++ ((sF d).take k).map (x * ·)).map fun k => nR (nD k))), .row (some ⟨go, 0, none⟩) N c3 65 3 (az NR.cells (K0 ds))] w')
      (fun _ v _ => d + 1 - (intOf v).toNat) ?_ ?_
     ·refine ⟨0, c6, C, UI _, rfl, rfl, ?_⟩;rw [WY, VD, Vo];exact hh
     ·clear hh;rintro ρ3 v6 v w3 ⟨k, c6, C, hk, rfl, rfl, hh⟩;by_cases hkd : k < d + 1
      ·have hb1 := yH (n := d) (k := k) Uz;have hb2 := kM (n := d) (k := k) Uz;have zb := rq d k hd127;have hmul := fun A cc w1 hT1 hS1 => eK A 2 cc [nR (nD x), nR (nD (bin d k))] w1 hT1 hS1 (by simpa using ⟨zx.ok Uz, zb.ok Uz⟩) 1600 (by simpa [bY] using ⟨zx, zb.mono Uz⟩) Uz Uz;rw [show ik ([nR (nD x), nR (nD (bin d k))].map NR.d) = nD (x * bin d k) by rw [Po]; show 1 * (nR (nD x)).d * (nR (nD (bin d k))).d = _; rw [bY, bY, WO]] at hmul;obtain ⟨ga, rfl⟩ := hh.cN (i := 0) rfl Uz;refine sr ?_;refine dH ?_;refine cX (k := k) bk.out aM.size rfl rfl Uz Uz UA ?_;refine cw (vs := [_, _, _]) aM.out rfl (hh.iF (f := NR.cells) (x := nR (nD (bin d k))) (l := lz d) (i := 0) rfl NR.len UA hb2) rfl UA ?_;refine bW hh ?_;intro b10 w10 hh;refine bX hh 0 [_,_,_] ?_;intro ws hh;replace hh : Hp _ (.blk _ _ [_, _, _] _ :: _) _ := hh;refine aa (ao (mL ?_));refine cE hh 2 [_,_,_] ?_;refine cE hh 0 [_,_,_] ?_;refine xr ?_;intro b43 w43 hh;refine bD hh (hmul _ _ _ (hT.hp hh) (hh.aA (i := 0) rfl)) rfl ?_;intro w44 hh;refine sw ?_;intro b45 w45 hh
       refine cH hh (i := 5) rfl rfl rfl (hh.aA (i := 0) rfl) bk.out aM.out rfl UA (by first | rfl | exact dz _ | exact dh _ | exact bT _ | exact ck NR.one _) Uz Uz UA ?_;intro A46 c46 w46 hh;simp only [UU, Vp] at hh;replace hh := hh.sub (Vs _ _);refine kK ?_;refine bo (mI (aC (ai ?_)));replace hh := hh.sub (UL _ (UL _ (UG _ (UG _ (UG _ (UG _ Ve))))));refine ⟨⟨k + 1, c46, A46, Uz, rfl, rfl, ?_⟩, by show d + 1 - (k + 1) < d + 1 - k; omega, ?_⟩
       ·have e : (LU ds d j ++ ((sF d).take (k + 1)).map (x * ·)).map (fun k => nR (nD k)) = (LU ds d j ++ ((sF d).take k).map (x * ·)).map (fun k => nR (nD k)) ++ [nR (nD (x * bin d k))] := by rw [ay hb1]; simp
        rw [e, bU];exact hh
       ·exact dQ
      ·obtain rfl : k = d + 1 := Uz;rw [UQ (by rw [ux]; omega), ← I5 hx] at hh;refine sr ?_;refine Bs ?_;refine bo (mI (aC (ai ?_)));replace hh := hh.sub (UL _ (UL _ (UG _ (UG _ Ve))));refine ⟨⟨j + 1, c6, C, Uz, rfl, ?_, ?_⟩, by show N - (j + 1) < N - j; omega, ?_⟩
       ·rw [VO]; rfl
       ·rw [VO]; exact hh
       ·exact dQ
    ·obtain rfl : j = N := Uz;rw [← hsnoc, ← hstep] at hh;rw [← hstep];refine sr ?_;refine bh (aa (ah (cF (a9 (aE (aE (bC (ai (ao (mL (aL (aC (bE (ai (ao ?_)))))))))))))));refine bo (mI (aC (ai ?_)));replace hh := hh.sub (UG _ (UL _ Ve));refine ⟨⟨i + 1, c6, C, Uz, rfl, rfl, hh⟩, by show n - (i + 1) < n - i; omega, ?_⟩;exact dQ
  ·obtain rfl : i = n := Uz;rw [UQ Uz] at hh ⊢;exact QB
def fW (d r : Nat) (t : Dyadic) : Dyadic := t ^ r * (1 - t) ^ (d - r)
def nW : List Nat → List Nat → List Dyadic → Dyadic
 | d :: ds, r :: rs, t :: ts => fW d r t * nW ds rs ts
 | _, _, _ => 1
def gB (ds : List Nat) (xs : List Dyadic) (ts : List Dyadic) : Dyadic := sm (List.range (au ds)) fun p => (xs[p]?).getD 0 * nW ds (cU ds p) ts
def lj (d : Nat) (t : Dyadic) (m : Nat) (xs : List Dyadic) : List Dyadic := (List.range m).map fun q => sm (List.range (d + 1)) fun r => (xs[r + (d + 1) * q]?).getD 0 * fW d r t
def od : List Nat → List Dyadic → List Dyadic → List Dyadic
 | d :: ds, t :: ts, xs => od ds ts (lj d t (au ds) xs)
 | _, _, xs => xs
theorem rz (d : Nat) (t : Dyadic) (m : Nat) (xs : List Dyadic) : (lj d t m xs).length = m := by simp [lj]
theorem wX : ∀ (ds : List Nat) (ts xs : List Dyadic), ts.length = ds.length → xs.length = au ds → od ds ts xs = [gB ds xs ts]
 | [], [], xs, _, h => by
  match xs, h with
  | [x], _ =>
   show [x] = [x * 1 + 0];congr 1;grind
 | d :: ds, t :: ts, xs, h1, h2 => by
  rw [od, wX ds ts _ (by simpa using h1) (rz _ _ _ _)];unfold gB;rw [sO];congr 1;refine bg fun q hq => ?_;have hq2 := Vi.1 hq;have : (lj d t (au ds) xs)[q]? = some (sm (List.range (d + 1)) fun r => (xs[r + (d + 1) * q]?).getD 0 * fW d r t) := by
   unfold lj;rw [UO, Vq hq2]
   rfl
  rw [this, VV, ← kN];refine bg fun r hr => ?_;have hr2 := Vi.1 hr;exact SH
theorem qC (t : Dyadic) (a b : Nat) : t ^ (a + b) = t ^ a * t ^ b := by
 induction b with
 | zero => rw [We]; grind
 | succ b ih => rw [← Xi]; grind
theorem NG (n : Nat) (a b : Dyadic) : sm (List.range (n + 1)) (fun k => nD (bin n k) * a ^ k * b ^ (n - k)) = (a + b) ^ n := by
 induction n with
 | zero => show nD 1 * a ^ 0 * b ^ 0 + 0 = (a + b) ^ 0; rw [uM]; grind
 | succ n ih =>
  have e2 : ∀ k, nD (bin (n + 1) (k + 1)) * a ^ (k + 1) * b ^ (n + 1 - (k + 1)) = nD (bin n k) * a ^ k * b ^ (n - k) * a + nD (bin n (k + 1)) * a ^ (k + 1) * b ^ (n - k) := fun k => by
   rw [bin, tW, show n + 1 - (k + 1) = n - k by omega];grind
  rw [tw, bg (g := fun k => nD (bin n k) * a ^ k * b ^ (n - k) * a + nD (bin n (k + 1)) * a ^ (k + 1) * b ^ (n - k)) fun k _ => e2 k, oP, kN, ih, mU];have e3 : sm (List.range (n + 1)) (fun k => nD (bin n (k + 1)) * a ^ (k + 1) * b ^ (n - k)) = sm (List.range n) (fun k => nD (bin n (k + 1)) * a ^ (k + 1) * b ^ (n - (k + 1))) * b := by
   rw [Wy, jh, s7 (show n < n + 1 by omega), mf, ← kN];have : ∀ x y : Dyadic, x + 0 * y * b ^ (n - n) = x := fun x y => by grind
   rw [this];refine bg fun k hk => ?_;have hk2 := Vi.1 hk;rw [show n - k = (n - (k + 1)) + 1 by omega];grind
  have e4 : (a + b) ^ n = nD 1 * a ^ 0 * b ^ (n - 0) + sm (List.range n) (fun k => nD (bin n (k + 1)) * a ^ (k + 1) * b ^ (n - (k + 1))) := by
   rw [← ih, tw, mU]
  rw [e3];have e5 : (a + b) ^ (n + 1) = (a + b) ^ n * a + (a + b) ^ n * b := by grind
  rw [e5];generalize hS : sm (List.range n) (fun k => nD (bin n (k + 1)) * a ^ (k + 1) * b ^ (n - (k + 1))) = S at *;rw [e4, show n + 1 - 0 = n + 1 by omega, show n - 0 = n by omega, uM];grind
def sR : List Nat → (List Nat → Dyadic) → Dyadic
 | [], F => F []
 | d :: ds, F => sm (List.range (d + 1)) fun r => sR ds fun row => F (r :: row)
theorem NS : ∀ (ds : List Nat) (F : List Nat → Dyadic), sm (List.range (au ds)) (fun p => F (cU ds p)) = sR ds F
 | [], F => by show F [] + 0 = F []; grind
 | d :: ds, F => by
  rw [sO, nN, sR];refine bg fun r hr => ?_;have hr2 := Vi.1 hr;rw [← NS ds];refine bg fun q _ => ?_;rw [cU, Wa, Vh hr2, VS _ _ Uz, Vx hr2, U5]
theorem mC : ∀ {ds : List Nat} {F G : List Nat → Dyadic}, (∀ row, jD ds row → F row = G row) → sR ds F = sR ds G
 | [], F, G, h => h [] trivial
 | d :: ds, F, G, h => by
  rw [sR, sR];refine bg fun r hr => mC fun row hrow => h _ ⟨by have := Vi.1 hr; omega, hrow⟩
theorem uP : ∀ (ds : List Nat) (F : List Nat → Dyadic) (c : Dyadic), sR ds (fun row => F row * c) = sR ds F * c
 | [], _, _ => rfl
 | d :: ds, F, c => by
  rw [sR, sR, ← kN];exact bg fun r _ => uP ds _ c
def gR (ds : List Nat) (a : Nat) (M : Nat → Nat → Dyadic) (xs : List Dyadic) : List Dyadic :=
 (List.range (au ds)).map fun p => sm (List.range (ds.getD a 0 + 1)) fun i => co ds xs ((cU ds p).set a i) * M i ((cU ds p).getD a 0)
theorem oG (ds : List Nat) (a : Nat) (M : Nat → Nat → Dyadic) (xs : List Dyadic) : (gR ds a M xs).length = au ds := by simp [gR]
theorem G6 {row : List Nat} (a : Nat) (M : Nat → Nat → Dyadic) (xs : List Dyadic) (h : jD ds row) : co ds (gR ds a M xs) row = sm (List.range (ds.getD a 0 + 1)) fun i => co ds xs (row.set a i) * M i (row.getD a 0) := by
 rw [BF h];unfold gR;rw [UO, Vq (kG h)];simp only [Wj, VV, iB h]
theorem DG : ∀ {ds row : List Nat} {a i : Nat}, jD ds row → i ≤ ds.getD a 0 → jD ds (row.set a i)
 | [], [], _, _, _, _ => trivial
 | d :: ds, r :: rs, 0, i, h, hi => ⟨hi, h.2⟩
 | d :: ds, r :: rs, a + 1, i, h, hi => ⟨h.1, DG (a := a) h.2 (by simpa using hi)⟩
def S7 (d : Nat) (s : Dyadic) (i k : Nat) : Dyadic := if k < i then 0 else nD (bin (d - i) (k - i)) * s ^ i * (1 - s) ^ (k - i)
def S5 (d : Nat) (s : Dyadic) (i k : Nat) : Dyadic := if i < k then 0 else nD (bin i (i - k)) * s ^ (i - k) * (1 - s) ^ (d - i)
theorem OU (d i : Nat) (hi : i ≤ d) (f : Nat → Dyadic) : sm (List.range (d + 1)) (fun k => if k < i then 0 else f (k - i)) = sm (List.range (d - i + 1)) f := by
 obtain ⟨m, rfl⟩ : ∃ m, d = i + m := ⟨d - i, Uz⟩;rw [show i + m - i + 1 = m + 1 by omega, show i + m + 1 = i + (m + 1) by omega, List.range_add, qL, tR, pF fun k hk => by rw [UF (Vi.1 hk)]];have : ∀ x : Dyadic, 0 + x = x := fun x => by grind
 rw [this];exact bg fun k _ => by rw [UE Uz, Nat.add_sub_cancel_left]
theorem ML (ds : List Nat) (xs ts : List Dyadic) : gB ds xs ts = sR ds fun row => co ds xs row * nW ds row ts := by
 rw [← NS];unfold gB;exact bg fun p hp => by rw [yn (Vi.1 hp)]
variable {q : Nat}
theorem sj : ∀ {A B x y : List Nat}, x.length = A.length → eW (A ++ B) (x ++ y) = eW A x + au A * eW B y
 | [], B, [], y, _ => by rw [UN, UN, au, Wr]; show _ = 0 + _; rw [U5]
 | d :: A, B, r :: x, y, h => by
  rw [UP, UP, eW, eW, au, sj (by simpa using h), Vz, VB, Xi]
theorem r7 : ∀ (A B : List Nat) (p : Nat), cU (A ++ B) p = cU A p ++ cU B (p / au A)
 | [], B, p => by rw [UN, au, Nat.div_one]; rfl
 | d :: A, B, p => by rw [UP, cU, cU, r7 A B, au, Wo]; rfl
theorem BU : ∀ (A : List Nat) (f q : Nat), cU A (f + au A * q) = cU A f
 | [], _, _ => rfl
 | d :: A, f, q => by
  rw [cU, cU, au, VB, Wa, VS _ _ Uz, BU A]
section
variable {A B : List Nat} {d : Nat}
def cG (A : List Nat) (d f k q : Nat) : Nat := f + au A * (k + (d + 1) * q)
theorem na {f : Nat} (hf : f < au A) (hk : k ≤ d) (hq : q < au B) : cG A d f k q < au (A ++ d :: B) := by
 rw [du, au, cG];have h1 : k + (d + 1) * q + 1 ≤ (d + 1) * au B := by
  have : (d + 1) * (q + 1) ≤ (d + 1) * au B := Vm _ hq;rw [Wf] at this;omega
 have h2 := Vm (au A) h1;rw [Wf] at h2;omega
theorem xi {f : Nat} (hf : f < au A) (hk : k ≤ d) : cU (A ++ d :: B) (cG A d f k q) = cU A f ++ k :: cU B q := by
 unfold cG;rw [r7, BU, VS _ _ (cM A), Vx hf, U5, cU, Wa, Vh Uz, VS _ _ Uz, Vx Uz, U5]
theorem CJ {p : Nat} (h : p < au (A ++ d :: B)) : ∃ f k q, f < au A ∧ k ≤ d ∧ q < au B ∧ p = cG A d f k q := by
 rw [du, au] at h;have hA := cM A;refine ⟨p % au A, p / au A % (d + 1), p / au A / (d + 1), Va _ hA, by have := Va (p / au A) (show 0 < d + 1 by omega); omega, ?_, ?_⟩
 ·rw [V5 Uz, V5 hA, Vg, Vg (au B)];exact h
 ·unfold cG;rw [Xf, Xf]
theorem Be (x y : List Nat) (k : Nat) : (x ++ k :: y).getD x.length 0 = k := by
 rw [VQ, VW (UH _), Vw]
 rfl
theorem Dk (x y : List Nat) (k i : Nat) : (x ++ k :: y).set x.length i = x ++ i :: y := by
 rw [WW _ _ (UH _), Vw, UU]
def eY (A : List Nat) (d : Nat) (xs : List Dyadic) (f q : Nat) : List Dyadic := (List.range (d + 1)).map fun i => (xs[cG A d f i q]?).getD 0
theorem JN {f : Nat} (M : Nat → Nat → Dyadic) (xs : List Dyadic) (hf : f < au A) (hk : k ≤ d) (hq : q < au B) :
  (gR (A ++ d :: B) A.length M xs)[cG A d f k q]? = some (sm (List.range (d + 1)) fun i => (xs[cG A d f i q]?).getD 0 * M i k) := by
 have hp := na (B := B) hf hk hq;unfold gR;rw [UO, Vq hp];simp only [Wj];rw [xi hf hk, Be];have hl := zN A f;rw [show ((cU A f ++ k :: cU B q).getD A.length 0) = k by rw [← hl]; exact Be _ _ _];congr 1;refine bg fun i hi => ?_;have hi2 : i ≤ d := by have := Vi.1 hi; omega
 rw [show (cU A f ++ k :: cU B q).set A.length i = cU A f ++ i :: cU B q by rw [← hl]; exact Dk _ _ _ _, ← xi (B := B) hf hi2, yn (na hf hi2 hq)]
end
def S6 (ns : List Nat) : Bool := ns.any (fun d => decide (127 < d)) || decide (4096 < au ns)
def Pw (a b : List Nat) : List Nat := List.zipWith (· + ·) a b
theorem KC (N : Nat) : fM N [.bool false, .string (ByteArray.mk #[]), .int .i64 0] = az NR.cells ((nV N []).map nR) := by
 rw [uD, List.map_replicate]
 induction N with
 | zero => rfl
 | succ n ih => rw [WS, jZ, ← ih]; rfl
def TP (ds es : List Nat) (xs ys : List Dyadic) (k : Nat) : List (Nat × Dyadic) :=
 (List.range k).flatMap fun k => (List.range (au ds)).map fun i => (eW (CF ds es) (CF (cU ds i) (cU es k)), (xs[i]?).getD 0 * (ys[k]?).getD 0)
def Sn (ns ms : List Nat) (xs ys : List Dyadic) : List Dyadic := nV (au (Pw ns ms)) (TP ns.reverse ms.reverse xs ys (au ms))
variable {w w' : World}
structure FX where
 A : Option Addr
 n : Nat
 a : Nat
 B : Option Addr
 m : Nat
 b : Nat
 ds : List Int
 cs : List NR
def FX.cells (f : FX) : List Value := [.slice f.A f.n f.a, .slice f.B f.m f.b]
def FX.v (f : FX) : Value := .agg #[.slice f.A f.n f.a, .slice f.B f.m f.b]
structure FX.at_ (f : FX) (w : World) : Prop where
 dg : Sl w f.A f.n 1 (bL f.ds)
 nm : Sl w f.B f.m 3 (az NR.cells f.cs)
theorem FX.at_.ext {f : FX} (h : f.at_ w) (hb : Below w.heap.size w w') : f.at_ w' := ⟨h.dg.ext hb, h.nm.ext hb⟩
structure FX.kO (f : FX) (k : Nat) : Prop where
 SV : f.n ≤ 1000
 T9 : f.m ≤ 100000
 num : ∀ c ∈ f.cs, c.ok ∧ Sz k c.d
def FX.e (f : FX) : Int := fE f.ds f.cs
theorem yZ (f : FX) (k : Nat) (w : World) (hT : eb w) (h : f.at_ w) (hl : f.kO k) :
  Calls Tryz.prog 41 #[.agg #[.slice f.A f.n f.a, .slice f.B f.m f.b]] w fun r w' => r = .returned (.int .i64 f.e) ∧ Below w.heap.size w w' :=
 vA f.A f.B f.n f.a f.m f.b f.ds f.cs w hT h.dg h.nm (by have := hl.SV; omega) (by have := hl.T9; omega) fun a ha => (hl.num a ha).1
def Tk (fs : List FX) : Bool := fs.any fun f => decide (f.n ≠ (fs.map FX.n).headD 0)
def E2 (fs : List FX) : Int := match fs.find? (fun f => decide (f.e ≠ 0)) with | some f => f.e | none => if fs.length = 0 ∨ Tk fs = true then 1 else 0
open Go.ChangeShapes Go.WideShapes Go.ChangeAt Go.RowKit Go.ChangeMaps
variable {next : Rf → World → Prop}
section
variable {ro : Mode} {P : Program} {N : Nat} {Q : Kq} {ρ : Rf} {w : World}
theorem H4 {c : Code} {id : Nat} (mods : List Nat) (s0 : Nat) (J : Value → World → Prop) (hc : WC ro P N c (qI id (cD (fun ρ2 w2 => J (ρ2 s0) w2 ∧ iO mods ρ2 ρ) Q)) ρ w)
  (hn : ∀ ρ' v0 w', J v0 w' → next (cI (mask mods ρ' ρ) s0 v0) w') : WC ro P N c (qI id (cD next Q)) ρ w :=
 hc.mono fun e ρ2 w2 hq => by
  have key : J (ρ2 s0) w2 ∧ iO mods ρ2 ρ → next ρ2 w2 := fun h => by
   have := hn ρ2 (ρ2 s0) w2 h.1;rwa [iW h.2, gN] at this
  cases e with
  | normal => exact key hq
  | exit i =>
   by_cases h : i = id
   ·subst h;simp only [qI, cD, if_true] at hq ⊢;exact key hq
   ·simp only [qI, cD, UE h] at hq ⊢;exact hq
  | _ => exact hq
theorem Gs {a c : Code} (mods : List Nat) (J : World → Prop) (hc : WC ro P N a (cD (fun ρ2 w2 => J w2 ∧ iO mods ρ2 ρ) Q) ρ w) (hn : ∀ ρ' w', J w' → WC ro P N c Q (mask mods ρ' ρ) w') : WC ro P N (.seq a c) Q ρ w :=
 ah (hc.mono fun e ρ2 w2 hq => by
  cases e with
  | normal =>
   have := hn ρ2 w2 hq.1;rwa [iW hq.2] at this
  | _ => exact hq)
end
section
variable {ro : Mode} {P : Program} {N : Nat} {Q : Kq} {ρ : Rf} {w : World}
theorem Gd {a c : Code} (mods : List Nat) (s0 : Nat) (J : Value → World → Prop) (hc : WC ro P N a (cD (fun ρ2 w2 => J (ρ2 s0) w2 ∧ iO mods ρ2 ρ) Q) ρ w) (hn : ∀ ρ' v0 w', J v0 w' → WC ro P N c Q (cI (mask mods ρ' ρ) s0 v0) w') : WC ro P N (.seq a c) Q ρ w :=
 ah (hc.mono fun e ρ2 w2 hq => by
  cases e with
  | normal =>
   have := hn ρ2 (ρ2 s0) w2 hq.1;rwa [iW hq.2, gN] at this
  | _ => exact hq)
end
variable {p : List TR} {α β : Type}
def mulM (a b : ByteArray) : ByteArray := str (mulL a.data.toList b.data.toList).1
def m8 (a b : ByteArray) : Int := (mulL a.data.toList b.data.toList).2
def rF (x y : TR) : TR := ⟨mulM x.m y.m, nR (x.c.d * y.c.d)⟩
def cj (p q : List TR) : List TR := p.flatMap fun x => q.map (rF x)
def rZ (p q : List TR) : List Int := p.flatMap fun x => q.map fun y => m8 x.m y.m
def fm (p q : List TR) : Int := if 65536 < p.length * q.length then 3 else match (rZ p q).find? fun e => decide (e ≠ 0) with | some e => e | none => if 4096 < (aD (cj p q)).length then 3 else 0
theorem Ae {α β : Type} {f : α → List β} {k : Nat} : ∀ {l : List α}, (∀ x ∈ l, (f x).length = k) → (l.flatMap f).length = l.length * k
 | [], _ => by simp
 | x :: l, h => by
  rw [Xq, UM, h x UR, Ae fun y hy => h y (UT _ hy), U7, VO, Wx]
theorem jR (p q : List TR) : (cj p q).length = p.length * q.length := Ae fun x _ => US _
theorem rC {γ : Type} {f : α → β → γ} {p : List α} {q : List β} {i : Nat} {x : α} (hx : p[i]? = some x) :
  ((p.take (i + 1)).flatMap fun x => q.map (f x)) = ((p.take i).flatMap fun x => q.map (f x)) ++ (q.take q.length).map (f x) := by
 rw [ay hx, Xu, UQ (UH _)];simp
theorem CC {γ : Type} {f : α → β → γ} {p : List α} {q : List β} {i : Nat} {x : α} {y : β} (hx : p[i]? = some x) (hy : q[j]? = some y) :
  ∃ R, (p.flatMap fun x => q.map (f x)) = (((p.take i).flatMap fun x => q.map (f x)) ++ (q.take j).map (f x)) ++ f x y :: R := by
 refine ⟨(q.drop (j + 1)).map (f x) ++ (p.drop (i + 1)).flatMap fun x => q.map (f x), ?_⟩;have e1 : p = p.take i ++ x :: p.drop (i + 1) := by rw [← gl hx, VA]
 have e2 : q = q.take j ++ y :: q.drop (j + 1) := by rw [← gl hy, VA]
 have e3 : q.map (f x) = (q.take j).map (f x) ++ f x y :: (q.drop (j + 1)).map (f x) := by
  rw [← U9, ← VC, ← e2]
 calc (p.flatMap fun x => q.map (f x)) = (p.take i ++ x :: p.drop (i + 1)).flatMap fun x => q.map (f x) := by rw [← e1]
  _ = _ := by rw [Xu, Xq, e3]; simp
theorem pV {q : List TR} (hp : iu k p) (hq : iu j q) (h : k + j ≤ 1000000) : iu (k + j) (cj p q) := fun t ht => by
 obtain ⟨x, hx, ht⟩ := WI.1 ht;obtain ⟨y, hy, rfl⟩ := UY.1 ht;have hs := (hp x hx).2.mul (hq y hy).2;exact ⟨hs.ok Uz, by show Sz _ (nR _).d; rw [bY]; exact hs⟩
theorem Gg (a b : ByteArray) : (mulM a b).size ≤ b.size := by
 unfold mulM;rw [jC];unfold mulL;split
 ·rename_i l hl;have := (wD hl).2.2;have h4 : l.length ≤ b.data.toList.length := by rw [this.2, List.length_zipWith, da, da]; omega
  have h5 : (Ig l).length ≤ l.length := by unfold Ig; split <;> simp
  rw [di];exact U1 h5 h4
 ·exact UI _
variable {l ts : List TR}
theorem H6 (c : Dyadic) (f : ByteArray → Dyadic) (l : List TR) : wS (fun m => c * f m) l = c * wS f l := by
 induction l with
 | nil => exact (Xc _).symm
 | cons t l ih => rw [wS, wS, ih]; grind
theorem JI (f : ByteArray → Dyadic) (x : TR) (q : List TR) : wS f (q.map (rF x)) = x.c.d * wS (fun b => f (mulM x.m b)) q := by
 induction q with
 | nil => exact (Xc _).symm
 | cons t q ih =>
  rw [U9, wS, ih, wS];show (nR _).d * f (mulM x.m t.m) + _ = _;rw [bY];grind
theorem zA (f : ByteArray → Dyadic) (q : List TR) : ∀ p : List TR, wS f (cj p q) = wS (fun a => wS (fun b => f (mulM a b)) q) p
 | [] => rfl
 | t :: p => by
  show wS f (q.map (rF t) ++ cj p q) = _;rw [nw, JI, zA f q p, wS]
def j4 (c : Dyadic) (t : TR) : TR := ⟨t.m, nR (t.c.d * c)⟩
theorem cd {v : Int} (h : fh v ts = 0) : iw v = true ∧ ts.length ≤ 4096 ∧ (∀ t ∈ ts, dY v t = true) ∧ Canon ts := by
 unfold fh at h
 cases hf : iw v with
 | false => rw [hf, UF rfl] at h; omega
 | true =>
  rw [UE (by rw [hf]; decide)] at h;by_cases h4 : 4096 < ts.length
  ·rw [UF h4] at h; omega
  ·rw [UE h4] at h;by_cases ho : okB v ts = true
   ·unfold okB at ho;rw [UX] at ho;have hg : ∀ t ∈ ts, nZ v t = true := Vb.1 ho.1;refine ⟨rfl, Uz, fun t ht => ?_, ua.1 ho.2, fun t ht => ?_, fun t ht => ?_⟩
    ·exact (WN.1 (hg t ht)).1
    ·exact Dh (WN.1 (WN.1 (hg t ht)).2).1
    ·exact ((s9 _).1 (WN.1 (WN.1 (hg t ht)).2).2).symm
   ·rw [UE ho] at h; omega
theorem DR {v : Int} (hf : iw v = true) (h4 : ts.length ≤ 4096) (hm : ∀ t ∈ ts, dY v t = true) (hc : Canon ts) : fh v ts = 0 := by
 unfold fh;rw [UE (by rw [hf]; decide), UE Uz, UF];unfold okB;rw [UX];refine ⟨Vb.2 fun t ht => ?_, ua.2 hc.sv⟩;show (dY v t && (yY t && SP t.c)) = true;rw [hm t ht, (s9 _).2 (hc.nf t ht).symm];unfold yY;rw [Vf (hc.nz t ht)]
 rfl
theorem QI {v : Int} {s t : TR} (h : s.m = t.m) (hs : dY v s = true) : dY v t = true := by unfold dY at hs ⊢; rwa [← h]
theorem l8 {v : Int} (h : ∀ t ∈ l, dY v t = true) : ∀ t ∈ aD l, dY v t = true := fun t ht => by
 obtain ⟨s, hs, e⟩ := fj t ht;exact QI e (h s hs)
theorem dV {v : Int} (hf : iw v = true) (h4 : (aD l).length ≤ 4096) (hm : ∀ t ∈ l, dY v t = true) : fh v (aD l) = 0 := DR hf h4 (l8 hm) (fp l)
theorem Io {v : Int} {x y : TR} (hx : dY v x = true) (h : m8 x.m y.m = 0) : dY v (rF x y) = true := by
 unfold dY at hx ⊢;rw [UX, U2] at hx;obtain ⟨_, _, h3, h4, h5⟩ := nI h;rw [UX, U2];have h6 := VJ List.length h5;rw [da, List.length_zipWith, da, da, h3, Nat.min_self] at h6;refine ⟨?_, ?_⟩
 ·show ek (mulM x.m y.m).data.toList = true;unfold mulM;rw [cP];exact h4
 ·show ((mulM x.m y.m).size : Int) = v;unfold mulM;rw [jC, h6, ← di];exact hx.2
theorem nq {v : Int} {q : List TR} (hp : ∀ t ∈ p, dY v t = true) (h : ∀ e ∈ rZ p q, e = 0) : ∀ t ∈ cj p q, dY v t = true := fun t ht => by
 obtain ⟨x, hx, ht⟩ := WI.1 ht;obtain ⟨y, hy, rfl⟩ := UY.1 ht;exact Io (hp x hx) (h _ (WI.2 ⟨x, hx, UY.2 ⟨y, hy, rfl⟩⟩))
theorem kr {q : List TR} (h : fm p q = 0) : p.length * q.length ≤ 65536 ∧ (∀ e ∈ rZ p q, e = 0) ∧ (aD (cj p q)).length ≤ 4096 := by
 unfold fm at h;by_cases h6 : 65536 < p.length * q.length
 ·rw [UF h6] at h; omega
 ·rw [UE h6] at h;split at h
  ·rename_i e he;have := List.find?_some he;rw [U2] at this;exact absurd h this
  ·rename_i he;refine ⟨Uz, fun e hm => ?_, ?_⟩
   ·have := List.find?_eq_none.1 he e hm;simpa using this
   ·by_cases h4 : 4096 < (aD (cj p q)).length
    ·rw [UF h4] at h; omega
    ·omega
def eZ (ps : List PX) : Int := (ps.map PX.v).headD 0
def BV (ps : List PX) : List TR := ps.flatMap PX.ts
def Gm (ps : List PX) : Int := if fk ps = 0 then gh (BV ps) else fk ps
theorem yJ {ps : List PX} (h : fk ps = 0) : ps ≠ [] ∧ (∀ g ∈ ps, g.e = 0) ∧ ∀ g ∈ ps, g.v = eZ ps := by
 unfold fk at h;split at h
 ·rename_i f hf;have := List.find?_some hf;simp at this;exact absurd h this
 ·rename_i hf;split at h
  ·cases h
  rename_i hno;refine ⟨fun e => hno (.inl (by rw [e]; rfl)), fun f hm => ?_, fun f hm => ?_⟩
  ·have := List.find?_eq_none.1 hf f hm;simpa using this
  ·apply Wz;intro hne;exact hno (.inr (Wi.2 ⟨f, hm, U0 hne⟩))
theorem xQ {α β : Type} {f : α → List β} {B : Nat} : ∀ {l : List α}, (∀ x ∈ l, (f x).length ≤ B) → (l.flatMap f).length ≤ l.length * B
 | [], _ => by simp
 | x :: l, h => by
  rw [Xq, UM, U7, VO];have h1 := h x UR;have h2 := xQ fun y hy => h y (UT _ hy);omega
theorem Gv {f : α → List β} {l : List α} {i : Nat} {x : α} (h : l[i]? = some x) : (l.take (i + 1)).flatMap f = (l.take i).flatMap f ++ f x := by
 rw [ay h, Xu];simp
theorem Cc {k : List TR} (h : aD l = aD k) : gh l = gh k := by unfold gh; rw [h]
theorem kg {ps : List PX} {g : PX} (h : ps[0]? = some g) : eZ ps = g.v := by
 rcases ps with _ | ⟨f, l⟩
 ·cases h
 ·have : f = g := by simpa using h
  rw [← this]; rfl
theorem oS (L : Option Addr) (n c : Nat) (ps : List PX) (k : Nat) (w : World) (hT : eb w) (hL : Sl w L n 2 (az PX.cells ps)) (hn : n ≤ 100) (hf : ∀ g ∈ ps, g.at_ w) (hl : ∀ g ∈ ps, g.kO k) (hk : k ≤ 2999000) :
  Calls Tryz.prog 16 #[.slice L n c] w fun r w' => ∃ g : PX, fg (Gm ps) (eZ ps) (aD (BV ps)) g ∧ r = .returned (.tuple #[.agg #[.int .i64 g.v, .slice g.A g.n g.c], .int .i64 (Gm ps)]) ∧ Hp w [g.row] w' := by
 have hh := Hp.start w;have hln := hL.bq PX.len UA;have hlk := fun w1 hT1 hb => rN L n c ps k w1 hT1 (hL.ext hb) Uz (fun g hg => (hf g hg).ext hb) hl;unfold Gm;by_cases h0 : fk ps = 0
 ·rw [UF h0];rw [h0] at hlk;obtain ⟨hne, gO, hvv⟩ := yJ h0;have hpos := List.length_pos_iff.2 hne;obtain ⟨g0, h00⟩ := ak (l := ps) (k := 0) hpos;rw [kg h00];have hfl : (BV ps).length ≤ ps.length * 4096 := xQ fun g hg => (cd (gO g hg)).2.1;obtain ⟨ad, rfl, hr⟩ := hL.at_ Uz;refine aj (N := 33) (l := [.slice (some ad) n c]) Tryz.func16 rfl rfl (by simp) ?_;refine sr ?_;refine bW hh ?_;intro b2 w2 hh;refine aI (aa (ah (sr (mL ?_))));refine bD hh (hlk _ (hT.hp hh) hh.below) rfl ?_;intro w9 hh;refine aI (aa (sr (mI ?_)));refine dk (aa (cF (ar (ai (sr (aL (aa (ah (sr (mL (aJ (mI (aa (aq ?_))))))))))))));replace hh := hh.cY 96 4;refine bK [5, 7, 16, 17, 18, 19, 20, 21, 22, 23, 24] 5 16
   (fun a x w' => ∃ (i : Nat) (M : List TR) (A' : Option Addr) (c' : Nat), i ≤ n ∧ x = .int .i64 i ∧ a = .slice A' M.length c' ∧ MD (k + i) ((ps.take i).flatMap PX.ts) M ∧ Hp w [.row A' M.length c' 96 4 (az TR.cells M), .blk b2 24 [.int .i64 0, .slice none 0 0] (0, 0)] w')
   (fun _ x _ => n - (intOf x).toNat) ?_ ?_
  ·exact ⟨0, [], none, 0, UI _, rfl, rfl, MD.self XQ (fun t ht => nomatch ht), hh⟩
  ·clear hh;rintro ρ' a_ x_ w' ⟨i, M, A', c', hi, rfl, rfl, hmd, hh⟩;have hfi : ((ps.take i).flatMap PX.ts).length ≤ i * 4096 := by
    have := xQ (f := PX.ts) (B := 4096) (l := ps.take i) fun g hg => (cd (gO g (WX hg))).2.1;rwa [U6, VM Uz] at this
   have hML := hmd.len;by_cases hlt : i < n
   ·obtain ⟨g, hx⟩ := ak (l := ps) (k := i) Uz;have hmem := UJ hx;have hgl := hl g hmem;have hge := cd (gO g hmem);have hgc := hgl.cap;have hgn := hgl.n;refine sr ?_;refine dH ?_;refine ct ?_;refine I6 ?_;refine bW hh ?_;intro b7 w7 hh;refine bX hh 0 [_,_] ?_;intro ws hh;replace hh : Hp _ (.blk _ _ [_, _] _ :: _) _ := hh;refine aa (ao (mL (bH ?_)));refine bG hh 0 ?_;refine aF (pU A' M.length c' M g.A g.n g.c g.ts (k + i) _ (hT.hp hh) (hh.aA (i := 1) rfl) ((hf g hmem).ext hh.below) (hh.eM (i := 1) rfl) hgc Uz hgn Uz hmd.sv hge.2.2.2.sv hmd.ok (hgl.ok.mono Uz)) al.out rfl UA ?_;rintro e_ w23 ⟨L2, A2, c2, hm2, rfl, h3⟩;refine ⟨_, rfl, ?_⟩;replace hh := hh.join h3;simp only [UP, UN] at hh;refine kK ?_;refine bo (mI (aC (ai ?_)));replace hh := hh.sub (UG _ (UL _ (UL _ (UG _ Ve))));refine ⟨⟨i + 1, L2, A2, c2, Uz, rfl, rfl, ?_, hh⟩, by show n - (i + 1) < n - i; omega, ?_⟩
    ·rw [Gv hx];exact hmd.J0 (MD.self hge.2.2.2.sv (hgl.ok.mono Uz : iu (k + i) g.ts)) hm2 Uz
    ·exact dQ
   ·obtain rfl : i = n := Uz;rw [UQ Uz] at hmd hfi hML;have hgM : aD M = aD (BV ps) := yB hmd.co;have hgE := Cc hgM;refine sr ?_;refine oe ?_;refine DE ?_;refine pe ?_;refine bV aM.out rfl (cL hh.below ((hr.recAt PX.len h00) 0 _ rfl)) UA ?_;refine mL ?_;refine aF (kE _ A' M.length c' M (k + i) _ hT hh rfl Uz Uz hmd.ok) al.out rfl UA ?_;rintro e_ w30 ⟨g, og, rfl, hh⟩;refine ⟨_, rfl, ?_⟩;refine dt ?_;refine dt ?_;refine bX hh 1 [_,_] ?_;intro ws hh;replace hh : Hp _ (_ :: .blk _ _ [_, _] _ :: _) _ := hh;refine aI (aa (av ?_));refine DN ?_;rw [← hgE, ← hgM];exact Lg
 ·rw [UE h0];generalize fk ps = e at *;refine aj (N := 33) (l := [.slice L n c]) Tryz.func16 rfl rfl (by simp) ?_;refine sr ?_;refine bW hh ?_;intro b2 w2 hh;refine aI (aa (ah (sr (mL ?_))));refine bD hh (hlk _ (hT.hp hh) hh.below) rfl ?_;intro w9 hh;exact Sa
def mn (s : ByteArray) (i : Nat) : Int := match s.data.toList[i]? with | some c => c.toNat | none => 0
def Bl (l : List TR) (i : Nat) : Int := l.foldl (fun m t => max m (mn t.m i)) 0
def mr (m : Nat) (l : List TR) : List Int := (List.range m).map (Bl l)
def qO (v : Int) (ts : List TR) : List Int := if fh v ts = 0 then mr v.toNat ts else []
theorem fw (m : Nat) (l : List TR) : (mr m l).length = m := by unfold mr; rw [US, WK]
theorem sV (l : List TR) (h : j < m) : (mr m l)[j]? = some (Bl l j) := by
 unfold mr;rw [UO, Vq h]
 rfl
theorem ue (l : List TR) (t : TR) (i : Nat) : Bl (l ++ [t]) i = max (Bl l i) (mn t.m i) := by unfold Bl; rw [XV]; rfl
theorem I1 {s : ByteArray} {i : Nat} {c : UInt8} (h : s.data.toList[i]? = some c) : mn s i = c.toNat := by unfold mn; rw [h]
theorem K9 {A B : List α} {y : α} (h : A.length = B.length) (hy : B[j]? = some y) : (B.take j ++ A.drop j).set j y = B.take (j + 1) ++ A.drop (j + 1) := by
 have hj := (UW.1 hy).1;have hl : (B.take j).length = j := by rw [U6]; omega
 obtain ⟨x, hx⟩ := ak (l := A) (k := j) Uz;rw [gl hx, ay hy, WW _ _ Uz, hl, Vw];simp
theorem Na {A B : List α} {x : α} (h : A.length = B.length) (hx : A[j]? = some x) : (B.take j ++ A.drop j)[j]? = some x := by
 have hj := (UW.1 hx).1;have hl : (B.take j).length = j := by rw [U6]; omega
 rw [VW Uz, hl, Vw, Wt, We, hx]
theorem IZ (m : Nat) : fM m [.int .i64 0] = bL (mr m []) := by
 have h1 : ∀ n, fM n [.int .i64 0] = bL (List.replicate n 0) := fun n => by
  induction n with
  | zero => rfl
  | succ n ih => rw [fM, ih, WS]; rfl
 rw [h1];congr 1;apply VU;intro i;by_cases h : i < m
 ·rw [sV [] h, Yc, UF h]
  rfl
 ·rw [Vd (by rw [V1]; omega), Vd (by rw [fw]; omega)]
theorem mZ (p : PX) (k : Nat) (w : World) (hT : eb w) (hp : p.at_ w) (lp : p.kO k) :
  Calls Tryz.prog 82 #[.agg #[.int .i64 p.v, .slice p.A p.n p.c]] w fun r w' => ∃ A c, r = .returned (.slice A (qO p.v p.ts).length c) ∧ Hp w [.row A (qO p.v p.ts).length c 3 1 (bL (qO p.v p.ts))] w' := by
 have hh := Hp.start w;have hck := fun w1 hT1 hb => mb p k w1 hT1 (hp.ext hb) lp;by_cases h0 : p.e = 0
 ·rw [show qO p.v p.ts = mr p.v.toNat p.ts from UF h0, fw];rw [h0] at hck;obtain ⟨hf, h4, hmy, _⟩ := cd h0;have hpl : p.ts.length = p.n := hp.ln;obtain ⟨pv, pA, pn, pc, ts⟩ := p;replace hf := fP.1 hf;replace hmy : ∀ t ∈ ts, dY pv t = true := hmy;replace hp : Sl w pA pn 4 (az TR.cells ts) := hp;have hsz : ∀ t ∈ ts, t.m.size ≤ 100000 := lp.sz;have hn := lp.n;replace hn : pn ≤ 1000000 := hn;replace hpl : ts.length = pn := hpl;obtain ⟨m, rfl⟩ : ∃ m : Nat, pv = (m : Int) := ⟨pv.toNat, by show pv = _; have : 0 ≤ pv := hf.1; omega⟩;replace hf : m ≤ 12 := by have h9 : (m : Int) ≤ 12 := hf.2; omega
  show Calls _ _ _ _ fun r w' => ∃ A c, r = .returned (.slice A m c) ∧ Hp w [.row A m c 3 1 (bL (mr m ts))] w';refine aj (N := 42) (l := [.agg #[.int .i64 m, .slice pA pn pc]]) Tryz.func82 rfl rfl (by simp) ?_;refine sr ?_;refine cz hh [_,_] ?_;intro b1 w1 hh;refine aL (aa (ah (sr ?_)));refine cE hh 0 [_,_] ?_;refine eA ?_;intro w9 hh;refine dk (aa (cF (ar (ai (sr (bH ?_))))));refine bG hh 0 ?_;refine gu (n := m) hh rfl rfl Uz Uz bk.out aM.out rfl Uz Uz UA ?_;intro b13 w13 hh;refine aL (aa (ah (sr (bH ?_))));refine bG hh 1 ?_;refine aJ (mI (aa (aq ?_)));rw [IZ] at hh;refine aR [5, 6, 7, 17, 18, 19, 20, 21, 22, 23, 24, 25, 26, 27, 28, 29, 30, 31, 32, 33, 34, 35, 36, 37, 38, 39, 40] 17
   (fun v w' => ∃ i : Nat, i ≤ pn ∧ v = .int .i64 i ∧ Hp w [.row (some ⟨b13, 0, none⟩) m m 3 1 (bL (mr m (ts.take i))), .blk b1 24 [.int .i64 m, .slice pA pn pc] (0, 0)] w')
   (fun v _ => pn - (intOf v).toNat) ?_ ?_
  ·exact ⟨0, UI _, rfl, hh⟩
  ·clear hh;rintro ρ' v w' ⟨i, hi, rfl, hh⟩;by_cases hlt : i < pn
   ·obtain ⟨x, hx⟩ := ak (l := ts) (k := i) Uz;obtain ⟨ad, rfl, hr⟩ := hp.at_ Uz;have hxm := UJ hx;have hxs := hsz x hxm;have hmx := WN.1 (hmy x hxm);have hxz : x.m.size = m := by have := V9 hmx.2; omega
    have hxl : x.m.data.toList.length = m := by rw [← di]; exact hxz
    have hex : iz x.m.data.toList = ints x.m.data.toList := jV hmx.1;have hel : (iz x.m.data.toList).length = m := by rw [hex, da]; exact hxl
    have hBl : (mr m (ts.take i)).length = (mr m (ts.take (i + 1))).length := by rw [fw, fw]
    refine sr ?_;refine dH ?_;refine ct ?_;refine pg ?_;refine bW hh ?_;intro b5 w5 hh;refine bX hh 0 [_,_,_,_] ?_;intro ws hh;replace hh : Hp _ (.blk _ _ [_, _, _, _] _ :: _) _ := hh;refine aa (sr (bH ?_));refine bG hh 0 ?_;refine aF (gQ x.m _ hxs) al.out rfl UA ?_;rintro e_ w23 ⟨A23, c23, rfl, hown_, hb_⟩;refine ⟨_, rfl, ?_⟩;replace hh := hh.aV (x := .row _ _ _ _ _ _) hb_ hown_;rw [hel] at hh ⊢;refine aJ (mI (aa (aq ?_)));refine aR [6, 7, 25, 26, 27, 28, 29, 30, 31, 32, 33, 34, 35, 36, 37, 38, 39] 25
     (fun v w' => ∃ j : Nat, j ≤ m ∧ v = .int .i64 j ∧ Hp w [.row A23 m c23 3 1 (bL (iz x.m.data.toList)), .blk b5 96 [.string x.m, .bool x.c.neg, .string x.c.bA, .int .i64 x.c.e] (0, 0), .row (some ⟨b13, 0, none⟩) m m 3 1 (bL ((mr m (ts.take (i + 1))).take j ++ (mr m (ts.take i)).drop j)), .blk b1 24 [.int .i64 m, .slice (some ad) pn pc] (0, 0)] w')
     (fun v _ => m - (intOf v).toNat) ?_ ?_
    ·exact ⟨0, UI _, rfl, hh⟩
    ·clear hh;rintro ρ2 v w2 ⟨j, hj, rfl, hh⟩;by_cases hjn : j < m
     ·obtain ⟨e, he⟩ := ak (l := x.m.data.toList) (k := j) Uz;have hee : (iz x.m.data.toList)[j]? = some (e.toNat : Int) := by rw [hex]; exact M7 he
      have ho := Na hBl (sV (ts.take i) hjn);have hset := K9 hBl (sV (ts.take (i + 1)) hjn);have hmx2 : Bl (ts.take (i + 1)) j = max (Bl (ts.take i) j) (e.toNat : Int) := by rw [ay hx, ue, I1 he]
      rw [hmx2] at hset;have hol : ((mr m (ts.take (i + 1))).take j ++ (mr m (ts.take i)).drop j).length = m := by rw [UM, U6, VY, fw, fw]; omega
      generalize (mr m (ts.take (i + 1))).take j ++ (mr m (ts.take i)).drop j = M at *;have hee2 := cu hee;have ho2 := cu ho;have hll : (bL M).length = m := by rw [bO]; exact hol
      obtain ⟨g, rfl⟩ := hh.cN (i := 0) rfl Uz;refine sr ?_;refine eh ?_;refine k7 ?_;refine jA ?_;refine aI (aI (aa (ao (mL (mI (mL (mI ?_)))))));refine k7 ?_;refine bV aM.out rfl (hh.gg (i := 2) rfl (by first | assumption | (simp only [U3]; assumption))) UA ?_;refine mI ?_;refine lv rfl rfl UA ?_;refine u1 ?_;have hmv : (if (e.toNat : Int) > Bl (ts.take i) j then (e.toNat : Int) else Bl (ts.take i) j) = max (Bl (ts.take i) j) (e.toNat : Int) := by split <;> omega
      refine bQ hh (i := 2) (vs := [_]) rfl rfl (cK rfl) rfl aM.out rfl Uz rfl ?_;intro ws hh;simp only [UU, Vp] at hh;rw [hmv, rS _ (by rw [← bO]; omega), hset] at hh;refine fV ?_;refine bo (mI (aC (ai ?_)));refine ⟨⟨j + 1, Uz, rfl, hh⟩, by show m - (j + 1) < m - j; omega, ?_⟩;exact dQ
     ·obtain rfl : j = m := Uz;rw [UQ (by rw [fw]; omega), Wu (by rw [fw]; omega), Vo] at hh;refine sr ?_;refine Bs ?_;refine bo (mI (aC (ai ?_)));replace hh := hh.sub (UL _ (UL _ (UG _ (UG _ Ve))));refine ⟨⟨i + 1, Uz, rfl, hh⟩, by show pn - (i + 1) < pn - i; omega, ?_⟩;exact dQ
   ·obtain rfl : i = pn := Uz;rw [UQ Uz] at hh;exact SF
 ·rw [show qO p.v p.ts = [] from UE h0];refine aj (N := 42) (l := [.agg #[.int .i64 p.v, .slice p.A p.n p.c]]) Tryz.func82 rfl rfl (by simp) ?_;refine sr ?_;refine cz hh [_,_] ?_;intro b1 w1 hh;refine aL (aa (ah (sr ?_)));refine cE hh 0 [_,_] ?_;refine eA ?_;intro w9 hh;refine dk (aa (cT (sr (aL (aa (av (aH ?_)))))));refine de ?_;exact ⟨none, 0, rfl, (hh.sub (VT _)).cY 3 1⟩
def ko (b : List SR) : Int := if b.any (fun s => !decide (s.lo.d < s.hi.d)) then 5 else if b.length = 0 then 1 else 0
theorem MH (x y : Dyadic) : (0 ≤ lH x y) ↔ ¬ x < y := by
 rcases SL x y with h | h | h
 ·rw [CP h]; exact ⟨fun h2 => by omega, fun h2 => absurd h h2⟩
 ·rw [h, Gi]; exact ⟨fun _ => by grind, fun _ => by omega⟩
 ·rw [Dx h]; exact ⟨fun _ => by grind, fun _ => by omega⟩
theorem pI (L : Option Addr) (n c : Nat) (b : List SR) (w : World) (hT : eb w) (hS : Sl w L n 6 (az SR.cells b)) (hb : ∀ s ∈ b, s.ok) (hn : n ≤ 1000000) :
  Calls Tryz.prog 115 #[.slice L n c] w fun r w' => r = .returned (.int .i64 (ko b)) ∧ Below w.heap.size w w' := by
 have hh := Hp.start w;have hln := hS.bq SR.len UA;refine aj (N := 21) (l := [.slice L n c]) Tryz.func115 rfl rfl (by simp) ?_;refine zX ?_;refine aR [2, 4, 7, 8, 9, 10, 11, 12, 13, 14, 15, 16, 17] 7
  (fun v w' => ∃ i : Nat, i ≤ n ∧ v = .int .i64 i ∧ (b.take i).any (fun s => !decide (s.lo.d < s.hi.d)) = false ∧ Hp w [] w')
  (fun v _ => n - (intOf v).toNat) ?_ ?_
 ·exact ⟨0, UI _, rfl, rfl, hh⟩
 ·clear hh;rintro ρ' v w' ⟨i, hi, rfl, hall, hh⟩;by_cases hlt : i < n
  ·obtain ⟨s, hs⟩ := ak (l := b) (k := i) Uz;have ms := UJ hs;obtain ⟨ad, rfl, hr⟩ := hS.at_ Uz;have hc := fun w1 hT1 => oQ s.lo s.hi w1 hT1 (hb s ms).1 (hb s ms).2;have e := MH s.lo.d s.hi.d;generalize lH s.lo.d s.hi.d = cc at *;by_cases g : 0 ≤ cc
   ·refine sr ?_;refine dH ?_;refine ct ?_;refine Jd ?_;refine bW hh ?_;intro b4 w4 hh;refine bX hh 0 [_,_,_,_,_,_] ?_;intro ws hh;replace hh : Hp _ (.blk _ _ [_, _, _, _, _, _] _ :: _) _ := hh;refine aa (sr (bH ?_));refine cE hh 0 [_,_,_] (bH ?_);refine cE hh 0 [_,_,_] ?_;refine bD hh (hc _ (hT.hp hh)) rfl ?_;intro w15 hh;refine dL (aa (cT (sr (aI (aa (av (cf (aH (aH (cf (aH ?_)))))))))));refine de ?_;have : b.any (fun s => !decide (s.lo.d < s.hi.d)) = true := Wi.2 ⟨s, ms, by rw [Vf (e.1 g)]; rfl⟩;exact ⟨by rw [ko, UF this], hh.below⟩
   ·refine sr ?_;refine dH ?_;refine ct ?_;refine Jd ?_;refine bW hh ?_;intro b4 w4 hh;refine bX hh 0 [_,_,_,_,_,_] ?_;intro ws hh;replace hh : Hp _ (.blk _ _ [_, _, _, _, _, _] _ :: _) _ := hh;refine aa (sr (bH ?_));refine cE hh 0 [_,_,_] (bH ?_);refine cE hh 0 [_,_,_] ?_;refine bD hh (hc _ (hT.hp hh)) rfl ?_;intro w15 hh;refine dL (aa (cF (ar (bE (ai (ao ?_))))));refine bo (mI (aC (ai ?_)));replace hh := hh.sub (UL _ Ve);refine ⟨⟨i + 1, Uz, rfl, ?_, hh⟩, by show n - (i + 1) < n - i; omega, ?_⟩
    ·rw [ay hs, XK, hall, VI, XJ, XN, Bool.or_false, U0 (by have : ¬ ¬ s.lo.d < s.hi.d := fun h => g (e.2 h); exact W5.1 this)]
     rfl
    ·exact dQ
  ·rw [UQ Uz] at hall;by_cases h0 : n = 0
   ·refine sr ?_;refine bh (aa (ah (cF (a9 (aE (aE (bC (ai (ah (sr (mL (aJ ?_))))))))))));refine Eg ?_;refine de ?_;exact ⟨by rw [ko, hall, UE (by simp), UF Uz], hh.below⟩
   ·refine sr ?_;refine bh (aa (ah (cF (a9 (aE (aE (bC (ai (ah (sr (mL (aJ ?_))))))))))));refine cW (aa (cF (ar (ai (sr (aI (aa (av ?_))))))));refine de ?_;exact ⟨by rw [ko, hall, UE (by simp), UE Uz], hh.below⟩
theorem rQ (L : Option Addr) (n c : Nat) (b : List SR) (w : World) (hT : eb w) (hS : Sl w L n 6 (az SR.cells b)) (hb : ∀ s ∈ b, s.ok) (hn : n ≤ 1000000) :
  Calls Tryz.prog 96 #[.slice L n c] w fun r w' => ∃ A c', r = .returned (.slice A n c') ∧ w'.ownsRow w.heap.size 81 6 (.slice A n c') n (az SR.cells (b.map SR.f)) ∧ Below w.heap.size w w' := by
 have hh := Hp.start w;have hln := hS.bq SR.len UA;refine aj (N := 19) (l := [.slice L n c]) Tryz.func96 rfl rfl (by simp) ?_;refine sr (aL (aa (sr (aL (aa (ah (sr (mL (aJ (mI (aa (aq ?_))))))))))));replace hh := hh.cY 81 6;refine bK [3, 5, 8, 9, 10, 11, 12, 13, 14, 15, 16, 17] 3 8
  (fun v3 v w' => ∃ (i c3 : Nat) (A : Option Addr), i ≤ n ∧ v = .int .i64 i ∧ v3 = .slice A i c3 ∧ Hp w [.row A i c3 81 6 (az SR.cells ((b.take i).map SR.f))] w')
  (fun _ v _ => n - (intOf v).toNat) ?_ ?_
 ·exact ⟨0, 0, none, UI _, rfl, rfl, hh⟩
 ·clear hh;rintro ρ' v3 v w' ⟨i, c3, A, hi, rfl, rfl, hh⟩;by_cases hlt : i < n
  ·obtain ⟨s, hs⟩ := ak (l := b) (k := i) Uz;have ms := UJ hs;obtain ⟨ad, rfl, hr⟩ := hS.at_ Uz;refine sr ?_;refine dH ?_;refine ct ?_;refine Jd ?_;refine bW hh ?_;intro b5 w5 hh;refine bX hh 0 [_,_,_,_,_,_] ?_;intro ws hh;replace hh : Hp _ (.blk _ _ [_, _, _, _, _, _] _ :: _) _ := hh;refine aa (ao (mL ?_));refine cE hh 0 [_,_,_,_,_,_] ?_;refine bD hh (yK s _ (hT.hp hh) (hb s ms)) rfl ?_;intro w14 hh;refine NH ?_;intro b15 w15 hh;refine NL ?_;intro A16 c16 w16 hh;simp only [UU, Vp] at hh;replace hh := hh.sub (Vs _ _);refine kK ?_;refine bo (mI (aC (ai ?_)));replace hh := hh.sub (UL _ (UG _ Ve));refine ⟨⟨i + 1, c16, A16, Uz, rfl, rfl, ?_⟩, by show n - (i + 1) < n - i; omega, ?_⟩
   ·rw [ay hs, VC, bU];exact hh
   ·exact dQ
  ·obtain rfl : i = n := Uz;rw [UQ Uz] at hh;exact QB
def hasB (b : List SR) (p : List NR) : Bool := decide (b.length = p.length) && (b.zip p).all fun x => x.1.has x.2.d
def SO (a b : List SR) : Bool := decide (a.length = b.length) && (a.zip b).all fun x => x.2.has x.1.lo.d && x.2.has x.1.hi.d
def uj (dg ds : List Int) : Bool := (dg.zip ds).any fun q => decide (q.2 < q.1 ∨ 127 < q.2)
def nT (p : PX) (b : List SR) (ds : List Int) : Int :=
 if p.e ≠ 0 then p.e else if ko b ≠ 0 then ko b else if (b.length : Int) ≠ p.v ∨ (ds.length : Int) ≠ p.v then 1 else if uj (qO p.v p.ts) ds = true then 1 else if gL 1 ds = 0 then 3 else 0
theorem DT {a : List α} {b : List β} {i : Nat} {x : α} {y : β} (hx : a[i]? = some x) (hy : b[i]? = some y) : (a.zip b)[i]? = some (x, y) := by
 rw [List.getElem?_zip_eq_some];exact ⟨hx, hy⟩
theorem tQ (p : PX) (L : Option Addr) (n c : Nat) (b : List SR) (M : Option Addr) (m mc : Nat) (ds : List Int) (k : Nat) (w : World) (hT : eb w) (hp : p.at_ w) (lp : p.kO k) (hB : Sl w L n 6 (az SR.cells b)) (hb : ∀ s ∈ b, s.ok) (hn : n ≤ 1000000) (hD : Sl w M m 1 (bL ds)) (hm : m ≤ 1000000) :
  Calls Tryz.prog 87 #[.agg #[.int .i64 p.v, .slice p.A p.n p.c], .slice L n c, .slice M m mc] w fun r w' => r = .returned (.int .i64 (nT p b ds)) ∧ Below w.heap.size w w' := by
 have hh := Hp.start w;have hck := fun w1 hT1 hb => mb p k w1 hT1 (hp.ext hb) lp;have hbk := fun w1 hT1 hb1 => pI L n c b w1 hT1 (hB.ext hb1) hb hn;have hdg := fun w1 hT1 hb => mZ p k w1 hT1 (hp.ext hb) lp;have hbl : b.length = n := hB.bq SR.len UA;have hdl : ds.length = m := by have := hD.1; rw [bO] at this; omega
 unfold nT;by_cases h0 : p.e ≠ 0
 ·rw [UF h0];generalize p.e = e at *;refine y9 ?_;refine sr ?_;refine cz hh [_,_] ?_;intro b3 w3 hh;refine aI (aa (ah (sr ?_)));refine cE hh 0 [_,_] ?_;refine eA ?_;intro w12 hh;exact Qt
 ·rw [UE h0];have hpe : p.e = 0 := Uz;rw [hpe] at hck;by_cases h1 : ko b ≠ 0
  ·rw [UF h1];generalize ko b = e at *;refine y9 ?_;refine sr ?_;refine cz hh [_,_] ?_;intro b3 w3 hh;refine aI (aa (ah (sr ?_)));refine cE hh 0 [_,_] ?_;refine eA ?_;intro w12 hh;refine aI (aa (sr (mI ?_)));refine uV ?_;refine bD hh (hbk _ (hT.hp hh) hh.below) rfl ?_;intro w17 hh;exact Qt
  ·rw [UE h1];rw [show ko b = 0 by omega] at hbk;by_cases h2 : (b.length : Int) ≠ p.v
   ·rw [UF (.inl h2)];refine y9 ?_;refine sr ?_;refine cz hh [_,_] ?_;intro b3 w3 hh;refine aI (aa (ah (sr ?_)));refine cE hh 0 [_,_] ?_;refine eA ?_;intro w12 hh;refine aI (aa (sr (mI ?_)));refine uV ?_;refine bD hh (hbk _ (hT.hp hh) hh.below) rfl ?_;intro w17 hh;refine aI (aa (sr (mI ?_)));refine sa ?_;refine bG hh 0 ?_;refine dk (mB ?_);refine gS (gS (gS (gS (gS ?_))));refine fO ?_;exact C4
   ·by_cases h3 : (ds.length : Int) ≠ p.v
    ·rw [UF (.inr h3)];refine y9 ?_;refine sr ?_;refine cz hh [_,_] ?_;intro b3 w3 hh;refine aI (aa (ah (sr ?_)));refine cE hh 0 [_,_] ?_;refine eA ?_;intro w12 hh;refine aI (aa (sr (mI ?_)));refine uV ?_;refine bD hh (hbk _ (hT.hp hh) hh.below) rfl ?_;intro w17 hh;refine aI (aa (sr (mI ?_)));refine sa ?_;refine bG hh 0 ?_;refine dk (mB (gT (mL (gT (aJ (gT (bH (gT ?_))))))));refine bG hh 0 ?_;refine gT ?_;refine dk ?_;refine eV ?_;exact C4
    ·rw [UE (fun h => h.elim h2 h3)];have hgl : (qO p.v p.ts).length = m := by
      unfold qO;rw [UF (show fh p.v p.ts = 0 from hpe), fw];omega
     have hzl : ((qO p.v p.ts).zip ds).length = m := by rw [List.length_zip]; omega
     have hbd : uj (qO p.v p.ts) ds = ((qO p.v p.ts).zip ds).any fun q => decide (q.2 < q.1 ∨ 127 < q.2) := rfl;generalize qO p.v p.ts = dg at *;rw [hgl] at hdg;refine y9 ?_;refine sr ?_;refine cz hh [_,_] ?_;intro b3 w3 hh;refine aI (aa (ah (sr ?_)));refine cE hh 0 [_,_] ?_;refine eA ?_;intro w12 hh;refine aI (aa (sr (mI ?_)));refine uV ?_;refine bD hh (hbk _ (hT.hp hh) hh.below) rfl ?_;intro w17 hh;refine aI (aa (sr (mI ?_)));refine sa ?_;refine bG hh 0 ?_;refine dk (mB (gT (mL (gT (aJ (gT (bH (gT ?_))))))));refine bG hh 0 ?_;refine gT ?_;refine dk ?_;refine eV ?_;refine aa (cF (ar (ai (ah (sr ?_)))));refine cE hh 0 [_,_] ?_;refine aF (hdg _ (hT.hp hh) hh.below) al.out rfl UA ?_;rintro e_ w34 ⟨G, gc, rfl, h4⟩;refine ⟨_, rfl, ?_⟩;replace hh := hh.join h4;simp only [UP, UN] at hh;refine aJ (mI (aa (aq ?_)));refine aR [6, 9, 10, 36, 37, 38, 39, 40, 41, 42, 43, 44, 45, 46, 47, 48, 49, 50, 51, 52, 53, 54] 36
      (fun v w' => ∃ i : Nat, i ≤ m ∧ v = .int .i64 i ∧ ((dg.zip ds).take i).any (fun q => decide (q.2 < q.1 ∨ 127 < q.2)) = false ∧ Hp w [.row G m gc 3 1 (bL dg), .blk b3 24 [.int .i64 p.v, .slice p.A p.n p.c] (0, 0)] w')
      (fun v _ => m - (intOf v).toNat) ?_ ?_
     ·exact ⟨0, UI _, rfl, rfl, hh⟩
     ·clear hh;rintro ρ' v w' ⟨i, hi, rfl, hall, hh⟩;by_cases hlt : i < m
      ·obtain ⟨x, hx⟩ := ak (l := dg) (k := i) Uz;obtain ⟨y, hy⟩ := ak (l := ds) (k := i) Uz;have hz := DT hx hy;have hx2 := cu hx;have hy2 := cu hy;have hll : (bL dg).length = m := by rw [bO]; exact hgl
       obtain ⟨ad, rfl, hr⟩ := hD.at_ Uz;obtain ⟨g0, rfl⟩ := hh.cN (i := 0) rfl Uz;by_cases hxy : y < x
       ·refine sr ?_;refine eh ?_;refine gD ?_;refine jA ?_;refine aI (aI (aa (sr (mL (mI ?_)))));refine ct ?_;refine Au ?_;refine mI ?_;refine bh (mB ?_);refine gS (gS (gS (gS (gS ?_))));refine fO ?_;refine Er ?_;refine de ?_;rw [UF (by rw [hbd]; exact Wi.2 ⟨_, UJ hz, U0 (.inl hxy)⟩)];exact ⟨rfl, hh.below⟩
       ·by_cases hy7 : 127 < y
        ·refine sr ?_;refine eh ?_;refine gD ?_;refine jA ?_;refine aI (aI (aa (sr (mL (mI ?_)))));refine ct ?_;refine Au ?_;refine mI ?_;refine bh (mB (gT (mL (gT (mI (gT ?_))))));refine ct ?_;refine aG rfl rfl ?_;refine Au ?_;refine gT ?_;refine cq ?_;refine eV ?_;refine Er ?_;refine de ?_;rw [UF (by rw [hbd]; exact Wi.2 ⟨_, UJ hz, U0 (.inr hy7)⟩)];exact ⟨rfl, hh.below⟩
        ·refine sr ?_;refine eh ?_;refine gD ?_;refine jA ?_;refine aI (aI (aa (sr (mL (mI ?_)))));refine ct ?_;refine Au ?_;refine mI ?_;refine bh (mB (gT (mL (gT (mI (gT ?_))))));refine ct ?_;refine aG rfl rfl ?_;refine Au ?_;refine gT ?_;refine cq ?_;refine eV ?_;refine zi ?_;refine bo (mI (aC (ai ?_)));refine ⟨⟨i + 1, Uz, rfl, by rw [ay hz, XK, hall, XJ, XN, Vf (fun h => h.elim hxy hy7)]; rfl, hh⟩, by show m - (i + 1) < m - i; omega, ?_⟩;exact dQ
      ·rw [UQ Uz] at hall;rw [UE (by rw [hbd, hall]; decide)];have hcn := fun w1 hb => ez M m mc ds w1 (hD.ext hb) hm;refine sr ?_;refine bh (aa (ah (cF (a9 (aE (aE (bC (ai (ah (sr (mL ?_)))))))))));by_cases h9 : gL 1 ds = 0
       ·rw [UF h9];rw [h9] at hcn;refine bD hh (hcn _ hh.below) rfl ?_;intro w56 hh;refine Eg ?_;refine de ?_;exact ⟨rfl, hh.below⟩
       ·rw [UE h9];generalize gL 1 ds = N at *;refine bD hh (hcn _ hh.below) rfl ?_;intro w56 hh;refine cW (aa (cF (ar (ai (sr (aI (aa (av ?_))))))));refine de ?_;exact ⟨rfl, hh.below⟩
theorem IF {q : List TR} (h : 65536 < p.length * q.length) : fm p q = 3 := by unfold fm; rw [UF h]
theorem Mx {q : List TR} {e : Int} (h6 : ¬ 65536 < p.length * q.length) {a b : List Int} (h : rZ p q = a ++ e :: b) (ha : ∀ x ∈ a, x = 0) (he : e ≠ 0) : fm p q = e := by
 unfold fm;rw [UE h6, h, List.find?_append, iX (Wb.2 fun x hx => by simp [ha x hx]), List.find?_cons_of_pos (p := fun e : Int => decide (e ≠ 0)) (by simpa using he)]
 rfl
theorem BZ {q : List TR} (h6 : ¬ 65536 < p.length * q.length) (h : ∀ x ∈ rZ p q, x = 0) : fm p q = gh (cj p q) := by
 unfold fm gh;rw [UE h6, iX (Wb.2 fun x hx => by simp [h x hx])]
theorem yj (p q : PX) (k k2 : Nat) (w : World) (hT : eb w) (hp : p.at_ w) (hq : q.at_ w) (lp : p.kO k) (lq : q.kO k2) (hk : k + k2 ≤ 900000) :
  Calls Tryz.prog 80 #[.agg #[.int .i64 p.v, .slice p.A p.n p.c], .agg #[.int .i64 q.v, .slice q.A q.n q.c]] w fun r w' => ∃ g : PX, fg (fm p.ts q.ts) p.v (aD (cj p.ts q.ts)) g ∧ r = .returned (.tuple #[.agg #[.int .i64 g.v, .slice g.A g.n g.c], .int .i64 (fm p.ts q.ts)]) ∧ Hp w [g.row] w' := by
 have hh := Hp.start w;obtain ⟨pv, pA, pn, pc, ps⟩ := p;obtain ⟨qv, qA, qn, qc, qs⟩ := q;have hpl : ps.length = pn := hp.ln;have hql : qs.length = qn := hq.ln;have hpn : pn ≤ 1000000 := lp.n;have hqn : qn ≤ 1000000 := lq.n;have okp : iu k ps := lp.ok;have okq : iu k2 qs := lq.ok;have szp : ∀ t ∈ ps, t.m.size ≤ 100000 := lp.sz;have szq : ∀ t ∈ qs, t.m.size ≤ 100000 := lq.sz;replace hp : Sl w pA pn 4 (az TR.cells ps) := hp;replace hq : Sl w qA qn 4 (az TR.cells qs) := hq;clear lp lq;show Calls _ _ _ _ fun r w' => ∃ g : PX, fg (fm ps qs) pv (aD (cj ps qs)) g ∧ r = .returned (.tuple #[.agg #[.int .i64 g.v, .slice g.A g.n g.c], .int .i64 (fm ps qs)]) ∧ Hp w [g.row] w';have hmm : pn * qn ≤ 1000000 * 1000000 := V3 hpn hqn;obtain ⟨m, hm⟩ : ∃ m, m = pn * qn := ⟨_, rfl⟩;have hmi : (pn : Int) * (qn : Int) = (m : Int) := by rw [hm]; exact (V2 _ _).symm
 by_cases h6 : 65536 < m
 ·rw [IF (by rw [hpl, hql, ← hm]; exact h6)];refine aj (N := 67) (l := [.agg #[.int .i64 pv, .slice pA pn pc], .agg #[.int .i64 qv, .slice qA qn qc]]) Tryz.func80 rfl rfl (by simp) ?_;refine sr ?_;refine cz hh [_,_] ?_;intro b2 w2 hh;refine cz hh [_,_] ?_;intro b3 w3 hh;refine bW hh ?_;intro b4 w4 hh;refine aI (aa (ah (sr (bH ?_))));refine bG hh 2 ?_;refine aJ (bH ?_);refine bG hh 1 ?_;refine aJ ?_;refine mulC ?_;refine cq (aa (cT (sr ?_)));exact K2
 ·have hbig : ¬ 65536 < ps.length * qs.length := by rw [hpl, hql, ← hm]; exact h6
  refine aj (N := 67) (l := [.agg #[.int .i64 pv, .slice pA pn pc], .agg #[.int .i64 qv, .slice qA qn qc]]) Tryz.func80 rfl rfl (by simp) ?_;refine sr ?_;refine cz hh [_,_] ?_;intro b2 w2 hh;refine cz hh [_,_] ?_;intro b3 w3 hh;refine bW hh ?_;intro b4 w4 hh;refine aI (aa (ah (sr (bH ?_))));refine bG hh 2 ?_;refine aJ (bH ?_);refine bG hh 1 ?_;refine aJ ?_;refine mulC ?_;refine cq (aa (cF (ar (ai (sr (aL (aa (ah (sr (bH ?_))))))))));refine bG hh 2 ?_;refine aJ (mI (aa (aq ?_)));replace hh := hh.cY 96 4;have hall : ∀ i, ((ps.take i).flatMap fun x => qs.map (rF x)).length ≤ 65536 := fun i => by
   have h1 : (cj ps qs).length = ((ps.take i).flatMap fun x => qs.map (rF x)).length + ((ps.drop i).flatMap fun x => qs.map (rF x)).length := by
    unfold cj;rw [← UM, ← Xu, VA]
   rw [jR] at h1;omega
  refine bK [5, 6, 8, 10, 11, 12, 25, 26, 27, 28, 29, 30, 31, 32, 33, 34, 35, 36, 37, 38, 39, 40, 41, 42, 43, 44, 45, 46, 47, 48, 49, 50, 51, 52, 53, 54, 55, 56, 57, 58, 59, 60] 6 25
   (fun a x w' => ∃ (i : Nat) (M : List TR) (A' : Option Addr) (c' : Nat), i ≤ pn ∧ x = .int .i64 i ∧ a = .slice A' M.length c' ∧ M = ((ps.take i).flatMap fun x => qs.map (rF x)) ∧ (∀ e ∈ ((ps.take i).flatMap fun x => qs.map fun y => m8 x.m y.m), e = 0) ∧ Hp w [.row A' M.length c' 96 4 (az TR.cells M), .blk b4 24 [.int .i64 0, .slice none 0 0] (0, 0), .blk b3 24 [.int .i64 qv, .slice qA qn qc] (0, 0), .blk b2 24 [.int .i64 pv, .slice pA pn pc] (0, 0)] w')
   (fun _ x _ => pn - (intOf x).toNat) ?_ ?_
  ·exact ⟨0, [], none, 0, UI _, rfl, rfl, rfl, fun e he => (nomatch he), hh⟩
  ·clear hh;rintro ρ' a_ x_ w' ⟨i, M, A', c', hi, rfl, rfl, hM, hz, hh⟩;have hMl := hall i;rw [← hM] at hMl;by_cases hlt : i < pn
   ·obtain ⟨x, hx⟩ := ak (l := ps) (k := i) Uz;obtain ⟨ad, rfl, hr⟩ := hp.at_ Uz;have hxm := UJ hx;have hxo := okp x hxm;have hxs := szp x hxm;refine sr ?_;refine dH ?_;refine ct ?_;refine pg ?_;refine bW hh ?_;intro b8 w8 hh;refine bX hh 0 [_,_,_,_] ?_;intro ws hh;replace hh : Hp _ (.blk _ _ [_, _, _, _] _ :: _) _ := hh;refine aa (sr (bH ?_));refine bG hh 3 ?_;refine aJ (mI (aa (aq ?_)));replace hh := hh.perm (VH (l₁ := [_]));simp only [UP, UN] at hh;refine bK [5, 6, 10, 11, 12, 32, 33, 34, 35, 36, 37, 38, 39, 40, 41, 42, 43, 44, 45, 46, 47, 48, 49, 50, 51, 52, 53, 54, 55, 56, 57, 58, 59] 6 32
     (fun a z w' => ∃ (j : Nat) (N : List TR) (A' : Option Addr) (c' : Nat), j ≤ qn ∧ z = .int .i64 j ∧ a = .slice A' N.length c' ∧ N = M ++ (qs.take j).map (rF x) ∧ (∀ e ∈ (qs.take j).map (fun y => m8 x.m y.m), e = 0) ∧ Hp w [.row A' N.length c' 96 4 (az TR.cells N), .blk b8 96 [.string x.m, .bool x.c.neg, .string x.c.bA, .int .i64 x.c.e] (0, 0), .blk b4 24 [.int .i64 0, .slice none 0 0] (0, 0), .blk b3 24 [.int .i64 qv, .slice qA qn qc] (0, 0), .blk b2 24 [.int .i64 pv, .slice (some ad) pn pc] (0, 0)] w')
     (fun _ z _ => qn - (intOf z).toNat) ?_ ?_
    ·refine ⟨0, M, A', c', UI _, rfl, rfl, by simp, fun e he => (nomatch he), hh⟩
    ·clear hh;rintro ρ2 a2 x2 w2 ⟨j, N, A2, c2, hj, rfl, rfl, hN, hz2, hh⟩;by_cases hjn : j < qn
     ·obtain ⟨y, hy⟩ := ak (l := qs) (k := j) Uz;obtain ⟨ad2, rfl, hr2⟩ := hq.at_ Uz;have hym := UJ hy;have hyo := okq y hym;have hys := szq y hym;have hmul : ∀ w1, Calls Tryz.prog 165 #[.string x.m, .string y.m] w1 fun r w' => r = .returned (.tuple #[.string (mulM x.m y.m), .int .i64 (m8 x.m y.m)]) ∧ Below w1.heap.size w1 w' := fun w1 => GX x.m y.m w1 hxs hys;have hdm := fun A cc w1 hT1 hS1 => eK A 2 cc [x.c, y.c] w1 hT1 hS1 (by simpa using ⟨hxo.1, hyo.1⟩) (k + k2) (by simpa using ⟨hxo.2.mono Uz, hyo.2.mono Uz⟩) Uz UA;rw [show ik ([x.c, y.c].map NR.d) = x.c.d * y.c.d by show 1 * x.c.d * y.c.d = _; rw [WO]] at hdm;obtain ⟨R, hR⟩ := CC (f := fun x y => m8 x.m y.m) hx hy;have hzz : ∀ e ∈ ((ps.take i).flatMap fun x => qs.map fun y => m8 x.m y.m) ++ (qs.take j).map (fun y => m8 x.m y.m), e = 0 := fun e he => by
       rcases Vk.1 he with he | he
       ·exact hz e he
       ·exact hz2 e he
      have hNl : N.length < 65536 := by
       have h1 := hall (i + 1);rw [rC hx, UM, ← hM] at h1;rw [hN, UM];simp at h1 ⊢;omega
      by_cases he : m8 x.m y.m = 0
      ·refine sr ?_;refine dH ?_;refine qw ?_;refine cw (vs := [_, _, _, _]) aM.out rfl ((hr2.ext hh.below).recAt TR.len hy) rfl UA ?_;refine bW hh ?_;intro b10 w10 hh;refine bX hh 0 [_,_,_,_] ?_;intro ws hh;replace hh : Hp _ (.blk _ _ [_, _, _, _] _ :: _) _ := hh;refine aa (sr (bH ?_));refine bG hh 2 ?_;refine bH ?_;refine bG hh 0 ?_;refine bD hh (hmul _) rfl ?_;intro w41 hh;refine mT ?_;refine dt ?_;refine dt ?_;refine aS (aI (aa (ah (sr (mI ?_)))));refine dk (aa (cF (ar (ai (ao (mL (mS (bH ?_))))))));refine cE hh 2 [_,_,_] (bH ?_);refine cE hh 0 [_,_,_] ?_;refine xr ?_;intro b54 w54 hh;refine bD hh (hdm _ _ _ (hT.hp hh) (hh.aA (i := 0) rfl)) rfl ?_;intro w55 hh;refine gH [_,_,_,_] ?_;refine Bj ?_;intro b57 w57 hh;refine Ox ?_;intro A58 c58 w58 hh;simp only [UU, Vp] at hh;replace hh := hh.sub (Vs _ _);refine kK ?_;refine bo (mI (aC (ai ?_)));have e1 : az TR.cells N ++ [.string (mulM x.m y.m), .bool (nR (x.c.d * y.c.d)).neg, .string (nR (x.c.d * y.c.d)).bA, .int .i64 (nR (x.c.d * y.c.d)).e] = az TR.cells (N ++ [rF x y]) := by rw [bU, jv]; rfl
       replace hh := show Hp w (_ :: _ :: .row A58 (N.length + 1) c58 96 4 (az TR.cells N ++ [.string (mulM x.m y.m), .bool (nR (x.c.d * y.c.d)).neg, .string (nR (x.c.d * y.c.d)).bA, .int .i64 (nR (x.c.d * y.c.d)).e]) :: _) w58 from hh;rw [e1] at hh;replace hh := hh.sub (UL _ (UL _ (UG _ (UG _ (UG _ (UG _ (UG _ Ve)))))));refine ⟨⟨j + 1, N ++ [rF x y], _, _, Uz, rfl, by rw [UM]; rfl, by rw [hN, ay hy, VC, Vt]; rfl, fun e h => ?_, ?_⟩, by show qn - (j + 1) < qn - j; omega, ?_⟩
       ·rw [ay hy, VC, Vk] at h
        rcases h with h | h
        ·exact hz2 e h
        ·rw [U4.1 h]; exact he
       ·rw [UM]; exact hh
       ·exact dQ
      ·rw [Mx hbig hR hzz he];generalize m8 x.m y.m = e at *;refine sr ?_;refine dH ?_;refine qw ?_;refine cw (vs := [_, _, _, _]) aM.out rfl ((hr2.ext hh.below).recAt TR.len hy) rfl UA ?_;refine bW hh ?_;intro b10 w10 hh;refine bX hh 0 [_,_,_,_] ?_;intro ws hh;replace hh : Hp _ (.blk _ _ [_, _, _, _] _ :: _) _ := hh;refine aa (sr (bH ?_));refine bG hh 2 ?_;refine bH ?_;refine bG hh 0 ?_;refine bD hh (hmul _) rfl ?_;intro w41 hh;refine mT ?_;refine dt ?_;refine dt ?_;refine aS (aI (aa (ah (sr (mI ?_)))));refine dk (aa (cT (sr ?_)));refine gH [_,_] (mI ?_);refine bX hh 3 [_,_] ?_;intro ws hh;replace hh : Hp _ (_ :: _ :: _ :: .blk _ _ [_, _] _ :: _) _ := hh;refine aI (aa (av (aH (cf (aH (aH (cf (cf (aH (aH (cf (aH ?_))))))))))));refine HZ ?_;exact PI
     ·obtain rfl : j = qn := Uz;rw [UQ Uz] at hz2 hN;refine sr ?_;refine Bs ?_;refine bo (mI (aC (ai ?_)));replace hh := hh.sub (UG _ (UL _ (UG _ (UG _ (UG _ Ve)))));refine ⟨⟨i + 1, N, A2, c2, Uz, rfl, rfl, by rw [rC hx, ← hM, UQ Uz]; exact hN, fun e h => ?_, hh⟩, by show pn - (i + 1) < pn - i; omega, ?_⟩
      ·rw [rC (f := fun (x y : TR) => m8 x.m y.m) hx, Vk, Xy] at h
       rcases h with h | h
       ·exact hz e h
       ·exact hz2 e h
      ·exact dQ
   ·obtain rfl : i = pn := Uz;rw [UQ Uz] at hz hM;have hMp : M = cj ps qs := hM;rw [BZ hbig hz, ← hMp];have hpo := pV okp okq Uz;rw [← hMp] at hpo;refine sr ?_;refine HH ?_;refine bG hh 3 ?_;refine mL ?_;refine aF (kE pv A' M.length c' M (k + k2) _ hT hh rfl Uz Uz hpo) al.out rfl UA ?_;rintro e_ w64 ⟨g, og, rfl, hh⟩;refine ⟨_, rfl, ?_⟩;refine dt ?_;refine dt ?_;exact E8
variable {E : Int} {W w1 : World} {b base : Nat} {fz : Nat × Nat}
def j2 (base : Nat) (E v : Int) (ts : List TR) : VP := fun x W => ∃ (g : PX) (w1 : World), x = .agg #[.int .i64 g.v, .slice g.A g.n g.c] ∧ fg E v ts g ∧ base ≤ w1.heap.size ∧ Hp w1 [g.row] W
theorem j2.ext {v : Int} (x : Value) (w w' : World) (h : j2 base E v ts x w) (hb : Below w.heap.size w w') : j2 base E v ts x w' := let ⟨g, w1, h1, h2, h3, h4⟩ := h; ⟨g, w1, h1, h2, h3, h4.ext hb⟩
def iG (base : Nat) (E v : Int) (ts : List TR) : VP := fun x W => ∃ (g : PX) (w1 : World), x = .tuple #[.agg #[.int .i64 g.v, .slice g.A g.n g.c], .int .i64 E] ∧ fg E v ts g ∧ base ≤ w1.heap.size ∧ Hp w1 [g.row] W
theorem iG.ext {v : Int} (x : Value) (w w' : World) (h : iG base E v ts x w) (hb : Below w.heap.size w w') : iG base E v ts x w' := let ⟨g, w1, h1, h2, h3, h4⟩ := h; ⟨g, w1, h1, h2, h3, h4.ext hb⟩
def Aw (base : Nat) (v : Int) (ts : List TR) : VP := fun x W => ∃ (g : PX) (w1 : World), x = .slice g.A g.n g.c ∧ fg 0 v ts g ∧ base ≤ w1.heap.size ∧ Hp w1 [g.row] W
theorem Aw.ext {v : Int} (x : Value) (w w' : World) (h : Aw base v ts x w) (hb : Below w.heap.size w w') : Aw base v ts x w' := let ⟨g, w1, h1, h2, h3, h4⟩ := h; ⟨g, w1, h1, h2, h3, h4.ext hb⟩
theorem PX.ne {g : PX} {t : TypeId} {cs : Array Value} (h : Hp w1 [g.row] W) (h3 : W.heap[b]? = some (.cells cs t fz)) (h1 : 96 ≠ t) : ∀ x ∈ [g.row], x.id ≠ some b := fun x hx => by
 have hx2 := h.own x hx;obtain rfl := U4.1 hx;exact Ka hx2 h3 h1
def jF (a : List TR × Int) (g : PX) : List TR × Int := if a.2 = 0 then (aD (cj a.1 g.ts), fm a.1 g.ts) else a
def Re (ps : List PX) : List TR × Int := match ps with | [] => ([], 0) | g :: l => l.foldl jF (g.ts, 0)
def Et (ps : List PX) : Int := if fk ps = 0 then (Re ps).2 else fk ps
theorem BN {a : List TR × Int} (h : a.2 ≠ 0) : ∀ l : List PX, l.foldl jF a = a
 | [] => rfl
 | g :: l => by
  rw [X4, show jF a g = a by unfold jF; rw [UE h]];exact BN h l
theorem GS {l : List PX} {a : List TR × Int} {i : Nat} {g : PX} (hx : l[i]? = some g) (h0 : ((l.take i).foldl jF a).2 = 0) (h : fm ((l.take i).foldl jF a).1 g.ts ≠ 0) : (l.foldl jF a).2 = fm ((l.take i).foldl jF a).1 g.ts := by
 have e : l = l.take i ++ g :: l.drop (i + 1) := by rw [← gl hx, VA]
 have e2 : l.foldl jF a = (l.drop (i + 1)).foldl jF (jF ((l.take i).foldl jF a) g) := by
  conv => lhs; rw [e]
  rw [XV, X4]
 rw [e2];have e3 : jF ((l.take i).foldl jF a) g = (aD (cj ((l.take i).foldl jF a).1 g.ts), fm ((l.take i).foldl jF a).1 g.ts) := UF h0;rw [e3, BN h]
theorem F2 {l : List PX} {a : List TR × Int} {i : Nat} {g : PX} (hx : l[i]? = some g) (h0 : ((l.take i).foldl jF a).2 = 0) : (l.take (i + 1)).foldl jF a = (aD (cj ((l.take i).foldl jF a).1 g.ts), fm ((l.take i).foldl jF a).1 g.ts) := by
 rw [ay hx, XV, X4, List.foldl_nil];exact UF h0
theorem E9 {q : List TR} (hp : iu k p) (hq : iu j q) (sq : ∀ t ∈ q, t.m.size ≤ 100000) (h : fm p q = 0) (hk : k + j ≤ 900000) : iu (k + j + 65536) (aD (cj p q)) ∧ ∀ t ∈ aD (cj p q), t.m.size ≤ 100000 := by
 obtain ⟨h6, _, h4⟩ := kr h;have ho := pV hp hq Uz;have hz := nJ fun t ht => (ho t ht).2;rw [jR] at hz;refine ⟨fun t ht => ?_, fun t ht => ?_⟩
 ·have : Sz (k + j + 65536) t.c.d := (hz t ht).mono Uz;refine ⟨?_, this⟩;rw [(fp _).nf t ht];exact this.ok Uz
 ·obtain ⟨s, hs, e⟩ := fj t ht;obtain ⟨x, hx, hs⟩ := WI.1 hs;obtain ⟨y, hy, rfl⟩ := UY.1 hs;rw [← e];exact U1 (Gg _ _) (sq y hy)
theorem BH (L : Option Addr) (n c : Nat) (ps : List PX) (k s : Nat) (w : World) (hT : eb w) (hL : Sl w L n 2 (az PX.cells ps)) (hcn : n ≤ c) (hn : n ≤ 8) (hf : ∀ g ∈ ps, g.at_ w) (hl : ∀ g ∈ ps, g.kO k) (hs : k + 65536 ≤ s) (hk : k + k + (n - 2) * s ≤ 900000) :
  Calls Tryz.prog 17 #[.slice L n c] w fun r w' => ∃ g : PX, fg (Et ps) (eZ ps) (Re ps).1 g ∧ r = .returned (.tuple #[.agg #[.int .i64 g.v, .slice g.A g.n g.c], .int .i64 (Et ps)]) ∧ Hp w [g.row] w' := by
 have hh := Hp.start w;have hln := hL.bq PX.len UA;have hlk := fun w1 hT1 hb => rN L n c ps k w1 hT1 (hL.ext hb) Uz (fun g hg => (hf g hg).ext hb) hl;unfold Et;by_cases h0 : fk ps = 0
 ·rw [UF h0];rw [h0] at hlk;obtain ⟨hne, gO, hvv⟩ := yJ h0;obtain ⟨g0, pt, rfl⟩ := List.exists_cons_of_ne_nil hne;rw [kg (g := g0) rfl];have hnp : pt.length + 1 = n := hln;obtain ⟨ad, rfl, hr⟩ := hL.at_ Uz;have hm0 : g0 ∈ g0 :: pt := UR;have hg0 := hl g0 hm0;have h00 : (g0 :: pt)[0]? = some g0 := rfl;show Calls _ _ _ _ fun r w' => ∃ g : PX, fg (pt.foldl jF (g0.ts, 0)).2 g0.v (pt.foldl jF (g0.ts, 0)).1 g ∧ r = .returned (.tuple #[.agg #[.int .i64 g.v, .slice g.A g.n g.c], .int .i64 (pt.foldl jF (g0.ts, 0)).2]) ∧ Hp w [g.row] w';refine aj (N := 46) (l := [.slice (some ad) n c]) Tryz.func17 rfl rfl (by simp) ?_;refine sr ?_;refine bW hh ?_;intro b2 w2 hh;refine aI (aa (ah (sr (mL ?_))));refine bD hh (hlk _ (hT.hp hh) hh.below) rfl ?_;intro w11 hh;refine aI (aa (sr (mI ?_)));refine dk (aa (cF (ar (ai (ah ?_)))));refine aZ 11 [[(0, none)], [(16, some 0)], [(17, some 1)], [(18, some 2)], [(0, none)], [(20, some 4)], [(21, some 5)], [(22, some 6)], [(23, some 7)], [(19, some 3), (24, some 8)], []] [(10, 5), (9, 25), (8, 24), (7, 23), (6, 22), (5, 21), (4, 20), (3, 19), (2, 18), (1, 17), (0, 16)] hh mixed UB ?_;refine gC ?_;refine nM (0) ?_;refine KX ?_
  refine sM (fun _ hj => cL hj.hp.below ((hr.recAt PX.len h00) 0 _ rfl)) ?_;refine gC ?_;refine nM (0) ?_;refine KX ?_;refine sM (fun _ hj => cL hj.hp.below ((hr.recAt PX.len h00) 1 _ rfl)) ?_;refine aP (i := 8) (Aw w11.heap.size g0.v g0.ts) (Aw.ext) ?_ ?_
  ·intro ρ1 w1 hj hR;exact a7 rfl (aK al.out (aw (show ρ1 23 = Value.slice _ _ _ from hR.1) aW)) (lO g0.A g0.n g0.c g0.ts w1 ((hf g0 hm0).ext hj.hp.below) hg0.n) (fun _ _ ⟨A, c, hq, ho, hb⟩ => ⟨_, hq, hb, ⟨g0.v, A, g0.n, c, g0.ts⟩, w1, rfl, ⟨rfl, rfl⟩, hj.bl.size, (Hp.start w1).aV (x := .row _ _ _ _ _ _) hb ho⟩)
  refine aP (i := 9) (j2 w11.heap.size 0 g0.v g0.ts) (j2.ext) ?_ ?_
  ·intro ρ1 w1 hj hR;exact let ⟨g, u, e, o, q, h⟩ := hR.2.1; fi rfl (sT (cs := [_, _]) aM.out kW.out (aN (show ρ1 19 = Value.int _ _ from hR.1) (aN e bZ)) rfl) ⟨Below.refl _ _, g, u, by rw [show g.v = g0.v from o.v], o, q, h⟩
  refine aP (i := 10) (dw _ 24 _) dw.ext (fun ρ1 w1 hj hR => kd aM.out hj.bl (fun v w2 h hb => ⟨hb, h⟩)) ?_;refine aT ?_;intro f W hJ hV;have hb_4 := hJ.bl;obtain ⟨v5, v25, v24, v23, v22, v21, v20, v19, v18, v17, v16, _⟩ := hV;obtain ⟨g24, u24, e24, -⟩ := v24;obtain ⟨g25, u25, e25, o25, q25, h25⟩ := v25;obtain ⟨b5, e5, hl5, hc5⟩ : dw _ _ _ (f 10) W := v5;replace hh := hJ.rf hh hl5 hc5 q25 h25 (PX.ne h25 hc5 UA);refine aY (br (ae e5 (ae e25 (ae e24 (ae v23 (ae v22 (ae v21 (ae v20 (ae v19 (ae v18 (ae v17 (ae v16 aX)))))))))))) ?_;dsimp only [cg];clear e24 e25 e5 hJ;simp only [UP, UN] at hh;obtain ⟨gv, gA, gn, gc, gts⟩ := g25;obtain rfl : g0.v = gv := o25.v.symm;obtain rfl : g0.ts = gts := o25.ts.symm;replace hh := show Hp w (_ :: .row gA gn gc 96 4 (az TR.cells g0.ts) :: _) W from hh;have hgn : g0.ts.length = gn := (hh.aA (i := 1) rfl).bq TR.len UA;have hgc : gn ≤ gc := hh.eM (i := 1) rfl;refine bX hh 0 [_,_] ?_;intro ws hh;replace hh : Hp _ (.blk _ _ [_, _] _ :: _) _ := hh;refine aa (ah (sr (mL ?_)));refine aQ rfl rfl UA (jy bk.out aM.size rfl rfl (l := 1) rfl Uz Uz) ?_;refine aJ (mI (aa (aq ?_)));replace hh := hh.perm (VH (l₁ := [_]))
  simp only [UP, UN] at hh;refine aR [3, 7, 8, 9, 29, 30, 31, 32, 33, 34, 35, 36, 37, 38, 39, 40, 41, 42, 43, 44] 29
   (fun v w' => ∃ (i : Nat) (g : PX), i ≤ n - 1 ∧ v = .int .i64 i ∧ ((pt.take i).foldl jF (g0.ts, 0)).2 = 0 ∧ g.v = g0.v ∧ g.ts = ((pt.take i).foldl jF (g0.ts, 0)).1 ∧ g.kO (k + i * s) ∧ Hp w [.row g.A g.n g.c 96 4 (az TR.cells g.ts), .blk b5 24 [.int .i64 g.v, .slice g.A g.n g.c] (0, 0), .blk b2 24 [.int .i64 0, .slice none 0 0] (0, 0)] w')
   (fun v _ => n - 1 - (intOf v).toNat) ?_ ?_
  ·exact ⟨0, ⟨g0.v, gA, gn, gc, g0.ts⟩, UI _, rfl, rfl, rfl, rfl, ⟨by show gn ≤ 1000000; have := hg0.n; have h9 := (hf g0 hm0).ln; omega, hgc, hg0.ok.mono (by rw [Xl]; omega), hg0.sz⟩, hh⟩
  ·clear hh;rintro ρ' v w' ⟨i, g, hi, rfl, hz, hgv, hts, hgl, hh⟩;by_cases hlt : i < n - 1
   ·obtain ⟨f, hx⟩ := ak (l := pt) (k := i) Uz;have hmem : f ∈ g0 :: pt := UT _ (UJ hx);have his : i * s ≤ (n - 2) * s := VG _ Uz;have his1 := VO i s;have hbk : Sl w (if c = 1 then some ad else (some ad : Option Addr).map (·.add (1 * 2))) (n - 1) 2 (az PX.cells pt) := hL.back Uz hcn;obtain ⟨ab, hAb, sb⟩ := hbk.at_ Uz;have gO : Value.slice (if c = 1 then some ad else (some ad : Option Addr).map (·.add (1 * 2))) (n - 1) (c - 1) = .slice (some ab) (n - 1) (c - 1) := by rw [hAb]
    have hfl := hl f hmem;have hnx := F2 (a := (g0.ts, 0)) hx hz;have hsp := GS (a := (g0.ts, 0)) hx hz;rw [← hts] at hnx hsp;refine sr ?_;refine dH ?_;refine df (k := i) bk.out aM.size gO rfl Uz Uz UA ?_;refine cw (vs := [_, _]) aM.out rfl (show Rd _ _ [.int .i64 f.v, .slice f.A f.n f.c] from (sb.ext hh.below).recAt PX.len hx) rfl UA ?_;refine bW hh ?_;intro b7 w7 hh;refine bX hh 0 [_,_] ?_;intro ws hh;replace hh : Hp _ (.blk _ _ [_, _] _ :: _) _ := hh;refine aa (sr ?_);refine cE hh 2 [_,_] ?_;refine cE hh 0 [_,_] ?_;refine aF (yj g f (k + i * s) k _ (hT.hp hh) (hh.aA (i := 1) rfl) ((hf f hmem).ext hh.below) hgl hfl Uz) al.out rfl UA ?_;rintro e_ w36 ⟨h, oh, rfl, h3⟩;refine ⟨_, rfl, ?_⟩;replace hh := hh.join h3;simp only [UP, UN] at hh;by_cases he : fm g.ts f.ts = 0
    ·obtain ⟨hv, hA, hn2, hc2, hts2⟩ := h;rw [he] at oh;obtain rfl : g.v = hv := oh.v.symm;obtain rfl : aD (cj g.ts f.ts) = hts2 := oh.ts.symm;replace hh := show Hp w (.row hA hn2 hc2 96 4 (az TR.cells (aD (cj g.ts f.ts))) :: _) w36 from hh;have hhn : (aD (cj g.ts f.ts)).length = hn2 := (hh.aA (i := 0) rfl).bq TR.len UA;have hhc : hn2 ≤ hc2 := hh.eM (i := 0) rfl;have h4 := (kr he).2.2;have htl := E9 hgl.ok hfl.ok hfl.sz he Uz;refine mT ?_;refine dt ?_;refine dt ?_;refine bW hh ?_;intro b8 w8 hh;refine bX hh 0 [_,_] ?_;intro ws hh;replace hh : Hp _ (.blk _ _ [_, _] _ :: _) _ := hh;refine aI (aa (ah (sr (mI ?_))));refine dk (aa (cF (ar (ai (ao ?_)))));refine cE hh 0 [_,_] ?_;refine bX hh 4 [_,_] ?_;intro ws hh;replace hh : Hp _ (_ :: _ :: _ :: _ :: .blk _ _ [_, _] _ :: _) _ := hh;refine fV ?_;refine bo (mI (aC (ai ?_)));replace hh := hh.sub (UL _ (UG _ (UL _ (UL _ (UG _ (UG _ Ve))))))
     refine ⟨⟨i + 1, ⟨g.v, hA, hn2, hc2, aD (cj g.ts f.ts)⟩, Uz, rfl, by rw [hnx]; exact he, hgv, by rw [hnx], ⟨by show hn2 ≤ 1000000; omega, hhc, htl.1.mono (by rw [VO]; omega), htl.2⟩, hh⟩, by show n - 1 - (i + 1) < n - 1 - i; omega, ?_⟩;exact dQ
    ·rw [hsp he];refine mT ?_;refine dt ?_;refine dt ?_;refine bW hh ?_;intro b8 w8 hh;refine bX hh 0 [_,_] ?_;intro ws hh;replace hh : Hp _ (.blk _ _ [_, _] _ :: _) _ := hh;refine aI (aa (ah (sr (mI ?_))));refine dk (aa (cT (sr ?_)));refine gH [_,_] (mI ?_);refine bX hh 5 [_,_] ?_;intro ws hh;replace hh : Hp _ (_ :: _ :: _ :: _ :: _ :: .blk _ _ [_, _] _ :: _) _ := hh;refine aI (aa (av (aH (cf (aH (aH (cf (aH ?_))))))));refine QZ (eQ rfl (eN (vs := [_, _]) aM.out (hh.cn (i := 5) (n := 2) rfl rfl) rfl) (kj (lI rfl) gF)) ?_;exact PI
   ·obtain rfl : i = n - 1 := Uz;rw [UQ Uz] at hz hts;refine sr ?_;refine mM ?_;refine cE hh 1 [_,_] ?_;refine bX hh 2 [_,_] ?_;intro ws hh;replace hh : Hp _ (_ :: _ :: .blk _ _ [_, _] _ :: _) _ := hh;refine aI (aa (av ?_));refine pw ?_;rw [hz];exact ⟨g, ⟨hgv, hts⟩, rfl, hh.sub (UG _ (VT _))⟩
 ·rw [UE h0];generalize fk ps = e at *;refine aj (N := 46) (l := [.slice L n c]) Tryz.func17 rfl rfl (by simp) ?_;refine sr ?_;refine bW hh ?_;intro b2 w2 hh;refine aI (aa (ah (sr (mL ?_))));refine bD hh (hlk _ (hT.hp hh) hh.below) rfl ?_;intro w11 hh;exact Sa
theorem vP (A B : Option Addr) (n m c c' : Nat) (xs ys : List Int) (w : World) (hx : Sl w A n 1 (bL xs)) (hy : Sl w B m 1 (bL ys)) (hn : n ≤ 100000) (hm : m ≤ 100000) :
  Calls Tryz.prog 34 #[.slice A n c, .slice B m c'] w fun e w' => e = .returned (.bool (decide (xs = ys))) ∧ Below w.heap.size w w' := by
 have hxl : xs.length = n := by have := hx.1; rw [bO] at this; omega
 have hyl : ys.length = m := by have := hy.1; rw [bO] at this; omega
 have hh := Hp.start w;by_cases hnm : n = m
 ·subst hnm;refine aj (N := 26) (l := [.slice A n c, .slice B n c']) Tryz.func34 rfl rfl (by simp) ?_;refine zz ?_;refine KS ?_;refine aR [4, 5, 11, 12, 13, 14, 15, 16, 17, 18, 19, 20, 21, 22, 23, 24, 25] 5
   (fun i w' => ∃ k : Nat, k ≤ n ∧ i = .int .i64 k ∧ xs.take k = ys.take k ∧ Hp w [] w')
   (fun i _ => n - (intOf i).toNat) ?_ ?_
  ·exact ⟨0, UI _, rfl, rfl, hh⟩
  ·clear hh;rintro ρ' i w' ⟨k, hk, rfl, he, hh⟩;replace hx := hx.ext hh.below;replace hy := hy.ext hh.below;by_cases hlt : k < n
   ·obtain ⟨x, hxk⟩ := ak (l := xs) (k := k) Uz;obtain ⟨y, hyk⟩ := ak (l := ys) (k := k) Uz;obtain ⟨ad, rfl, hr⟩ := hx.at_ Uz;obtain ⟨bd, rfl, hs⟩ := hy.at_ Uz;by_cases hxy : x = y
    ·subst hxy;refine ah (sr (mI (mL (aJ ?_))));refine wC ?_;refine zk ?_;refine gC ?_;refine dP ?_;refine NU ?_;refine sM (fun _ hj => fC (hr.ext hj.bl) (cu hxk) rfl) ?_;refine gC ?_;refine dP ?_;refine O1 ?_;refine sM (fun _ hj => fC (hs.ext hj.bl) (cu hyk) rfl) ?_;refine aT ?_;intro f W hJ hV;have hb_6 := hJ.bl;obtain ⟨v24, v23, v22, v21, v20, v19, v18, v17, _⟩ := hV;replace hh := hJ.hp;refine zK ?_;dsimp only [cg];clear hJ;refine dk (aa (cF (ar (bE (ai (ao (mI ?_)))))));refine bo (aI (aC (ai ?_)));refine ⟨⟨k + 1, Uz, rfl, by rw [ay hxk, ay hyk, he], hh⟩, by show n - (k + 1) < n - k; omega, ?_⟩;exact dQ
    ·refine ah (sr (mI (mL (aJ ?_))));refine wC ?_;refine zk ?_;refine gC ?_;refine dP ?_;refine NU ?_;refine sM (fun _ hj => fC (hr.ext hj.bl) (cu hxk) rfl) ?_;refine gC ?_;refine dP ?_;refine O1 ?_;refine sM (fun _ hj => fC (hs.ext hj.bl) (cu hyk) rfl) ?_;refine aT ?_;intro f W hJ hV;have hb_6 := hJ.bl;obtain ⟨v24, v23, v22, v21, v20, v19, v18, v17, _⟩ := hV;replace hh := hJ.hp;refine zK ?_;dsimp only [cg];clear hJ;refine dk (aa (cT (sr (aB (aa (av (cf (aH (aH (cf (aH ?_)))))))))));refine de ?_;have : ¬ xs = ys := fun h => hxy (by rw [h, hyk] at hxk; exact (Vl hxk).symm);simp only [this, decide_false];exact ⟨trivial, hh.below⟩
   ·refine ah (sr (mI (mL (aJ ?_))));refine AQ ?_;refine de ?_;rw [UQ Uz, UQ Uz] at he;simp only [he, decide_true];exact ⟨trivial, hh.below⟩
 ·refine aj (N := 26) (l := [.slice A n c, .slice B m c']) Tryz.func34 rfl rfl (by simp) ?_;refine zz ?_;refine dk (aa (cT (sr (aB (aa (av (aH ?_)))))));refine de ?_;have : ¬ xs = ys := fun h => hnm (by rw [← hxl, ← hyl, h]);simp only [this, decide_false];exact ⟨trivial, hh.below⟩
def dZ (v : Int) : ByteArray := ⟨(List.replicate v.toNat 0).toArray⟩
theorem l7 {v : Int} (h : 0 ≤ v) : ((dZ v).size : Int) = v := by
 have : (dZ v).size = v.toNat := by unfold dZ; show (List.replicate v.toNat (0 : UInt8)).toArray.size = _; rw [Xm, V1]
 omega
theorem ru (v : Int) : ek (dZ v).data.toList = true := by
 unfold ek dZ;rw [Vb];intro c hc;have : (⟨(List.replicate v.toNat (0 : UInt8)).toArray⟩ : ByteArray).data.toList = List.replicate v.toNat 0 := rfl;rw [this] at hc;rw [(List.mem_replicate.1 hc).2];decide
theorem JW (h : l.length ≤ 4096) : gh l = 0 := by
 unfold gh;have := bM l;rw [UE Uz]
theorem Ad {v : Int} {t : TR} (hf : iw v = true) (h : dY v t = true) : me v [t] = 0 := by
 unfold me;rw [UE (by rw [hf]; simp [h]), UE (by simp), JW (by simp)]
def Ah (v : Int) : Int := if iw v = false then 1 else 0
theorem jP (v : Int) (c : NR) (k : Nat) (w : World) (hT : eb w) (hc : c.ok ∧ Sz k c.d) (hk : k ≤ 2999980) :
  Calls Tryz.prog 45 #[.int .i64 v, .agg #[.bool c.neg, .string c.bA, .int .i64 c.e]] w fun r w' => ∃ g : PX, fg (Ah v) v (aD [⟨dZ v, c⟩]) g ∧ r = .returned (.tuple #[.agg #[.int .i64 g.v, .slice g.A g.n g.c], .int .i64 (Ah v)]) ∧ Hp w [g.row] w' := by
 have hh := Hp.start w;have hfw := fun w1 => nH v w1
 cases hf : iw v with
 | false =>
  rw [hf] at hfw;rw [show Ah v = 1 by unfold Ah; rw [UF hf]];refine aj (N := 20) (l := [.int .i64 v, .agg #[.bool c.neg, .string c.bA, .int .i64 c.e]]) Tryz.func45 rfl rfl (by simp) ?_;refine sr ?_;refine cz hh [_,_,_] ?_;intro b3 w3 hh;refine bW hh ?_;intro b4 w4 hh;refine aI (aa (ah (sr (mI ?_))));refine bD hh (hfw _) rfl ?_;intro w7 hh;refine fy ?_;refine aa (cT (sr ?_));exact K2
 | true =>
  rw [hf] at hfw;obtain ⟨h0, h12⟩ := fP.1 hf;have hm : me v [⟨dZ v, c⟩] = 0 := Ad hf (by unfold dY; rw [ru, U0 (l7 h0)]; rfl);have hmk := fun A cc w1 hT1 hS1 => kI v A 1 cc [⟨dZ v, c⟩] k w1 hT1 hS1 UA Uz (fun t ht => by rw [U4.1 ht]; exact hc) (fun t ht => by rw [U4.1 ht]; have := l7 h0; show (dZ v).size ≤ _; omega);rw [hm] at hmk;rw [show Ah v = 0 by unfold Ah; rw [UE (by rw [hf]; decide)]];refine aj (N := 20) (l := [.int .i64 v, .agg #[.bool c.neg, .string c.bA, .int .i64 c.e]]) Tryz.func45 rfl rfl (by simp) ?_;refine sr ?_;refine cz hh [_,_,_] ?_;intro b3 w3 hh;refine bW hh ?_;intro b4 w4 hh;refine aI (aa (ah (sr (mI ?_))));refine bD hh (hfw _) rfl ?_;intro w7 hh;refine fy ?_;refine aa (cF (ar (ai (ah ?_))));refine qU [] [0, 0, 2, 6, 0, 30, 62, 127, 255, 255, 1023, 2047] 7 [[(0, none)], [(0, none)], [(11, some 1)], [(12, some 2)], [(3, none)], [(13, some 3), (14, some 4)], [(15, some 5)]] [(6, 16), (5, 15), (4, 14), (3, 13), (2, 12), (1, 11), (0, 10)] [([], 4, [(6, 16), (5, 15), (4, 14), (3, 13), (2, 12), (1, 11), (0, 10)])] hh mixed UB UB UA ?_;refine dP ?_;refine dP ?_
  refine aP (i := 2) (iQ v.toNat 1 (jQ (List.replicate v.toNat 0))) (iQ.ext) ?_ ?_
  ·intro ρ1 w1 hj hR;exact ve v.toNat ▸ Mw (n := v.toNat) (show ρ1 11 = Value.int _ _ from hR.1) (show ρ1 11 = Value.int _ _ from hR.1) Uz Uz bk.out aM.out rfl Uz Uz (fun _ _ h1 h2 => ⟨h2, h1⟩)
  refine aP (i := 3) (Is (.string (dZ v))) (Is.ext) ?_ ?_
  ·intro ρ1 w1 hj hR;obtain ⟨g12, e12, o12⟩ := hR.1;exact let ⟨g, e, o⟩ := hR.1; fi rfl (jw (l := List.replicate v.toNat 0) bk.out bk.out bk.out e o) ⟨Below.refl _ _, rfl⟩
  refine fS 1 [_,_,_] ?_;refine dB [_,_,_,_] ?_;refine sA [_,_,_,_] ?_;refine aT ?_;intro p_ hp_;simp only [UZ, List.not_mem_nil, or_false] at hp_
  rcases hp_ with rfl
  intro f W hJ hV;have hb_3 := hJ.bl;obtain ⟨v16, v15, v14, v13, v12, v11, v10, _⟩ := hV;simp only [mV];have e10 : f 0 = _ := v10;rw [e10];have e11 : f 1 = _ := v11;rw [e11];obtain ⟨g12, e12, o12⟩ : iQ v.toNat 1 (jQ (List.replicate v.toNat 0)) (f 2) W := v12;rw [e12];have e13 : f 3 = _ := v13;rw [e13];have e14 : f 4 = _ := v14;rw [e14];have e15 : f 5 = _ := v15;rw [e15];obtain ⟨A16, c16, e16, f16⟩ : Rows _ _ _ (f 6) W := v16;rw [e16];replace hh := hJ.hp;clear e10 e11 e12 e13 e14 e15 e16 hJ;refine aF (hmk _ _ _ (hT.hp hh) f16) al.out rfl UA ?_; rintro e_ w17 ⟨g, og, rfl, h3⟩; refine ⟨_, rfl, ?_⟩; replace hh := hh.join h3;refine fF ?_;simp only [UP, UN] at hh;refine cZ (i := 8) (by repeat (first | exact cA | refine bR ?_ | refine cB ?_ | refine np_scope ?_)) rfl UB UB UB (fun _ => fH (show _ = Value.tuple (List.toArray _) from rfl) rfl) UA ?_;refine cZ (i := 9) (by repeat (first | exact cA | refine bR ?_ | refine cB ?_ | refine np_scope ?_)) rfl UB UB UB (fun _ => fH (show _ = Value.tuple (List.toArray _) from rfl) rfl) UA ?_;refine kv 10 UA UB UA UB UB ?_;exact E8
def kR (v : Int) (x : Nat) : ByteArray := ⟨((List.replicate v.toNat (0 : UInt8)).set x 1).toArray⟩
theorem qK {v : Int} {x : Nat} (h : 0 ≤ v) : ((kR v x).size : Int) = v := by
 have : (kR v x).size = v.toNat := by unfold kR; show ((List.replicate v.toNat (0 : UInt8)).set x 1).toArray.size = _; rw [Xm, WU, V1]
 omega
theorem Bn (v : Int) (x : Nat) : ek (kR v x).data.toList = true := by
 unfold ek;rw [Vb];intro c hc;have : (kR v x).data.toList = (List.replicate v.toNat 0).set x 1 := rfl;rw [this] at hc
 rcases Yd hc with h | rfl
 ·rw [(List.mem_replicate.1 h).2]; decide
 ·decide
theorem FQ {l : List UInt8} {i : Nat} {c : UInt8} (h : i < l.length) : cm (jQ l) (i * 1) [.int .u8 c.toNat] = jQ (l.set i c) := by
 unfold cm jQ;rw [U3, XT, UF h, VC, U9, XB, Xr, Vt]
 rfl
def uI (v x : Int) : Int := if iw v = false ∨ x < 0 ∨ v ≤ x then 1 else 0
theorem uR (v x : Int) (w : World) (hT : eb w) :
  Calls Tryz.prog 117 #[.int .i64 v, .int .i64 x] w fun r w' => ∃ g : PX, fg (uI v x) v (aD [⟨kR v x.toNat, nR ((1 : Int) : Dyadic)⟩]) g ∧ r = .returned (.tuple #[.agg #[.int .i64 g.v, .slice g.A g.n g.c], .int .i64 (uI v x)]) ∧ Hp w [g.row] w' := by
 have hh := Hp.start w;have hfw := fun w1 => nH v w1
 cases hf : iw v with
 | false =>
  rw [hf] at hfw;rw [show uI v x = 1 by unfold uI; rw [UF (.inl hf)]];refine DL ?_;refine sr ?_;refine bW hh ?_;intro b4 w4 hh;refine aI (aa (ah (sr (mI ?_))));refine bD hh (hfw _) rfl ?_;intro w8 hh;refine fy ?_;refine mB ?_;refine gS (gS ?_);refine fO ?_;refine mB ?_;refine gS (gS (gS ?_));refine fO ?_;refine aa (cT (sr ?_));exact K2
 | true =>
  rw [hf] at hfw;obtain ⟨h0, h12⟩ := fP.1 hf;by_cases hx0 : x < 0
  ·rw [show uI v x = 1 by unfold uI; rw [UF (.inr (.inl hx0))]];refine DL ?_;refine sr ?_;refine bW hh ?_;intro b4 w4 hh;refine aI (aa (ah (sr (mI ?_))));refine bD hh (hfw _) rfl ?_;intro w8 hh;refine fy ?_;refine mB (gT (mI (gT ?_)));refine bh ?_;refine eV ?_;refine mB ?_;refine gS (gS (gS ?_));refine fO ?_;refine aa (cT (sr ?_));exact K2
  ·by_cases hx1 : v ≤ x
   ·rw [show uI v x = 1 by unfold uI; rw [UF (.inr (.inr hx1))]];refine DL ?_;refine sr ?_;refine bW hh ?_;intro b4 w4 hh;refine aI (aa (ah (sr (mI ?_))));refine bD hh (hfw _) rfl ?_;intro w8 hh;refine fy ?_;refine mB (gT (mI (gT ?_)));refine bh ?_;refine eV ?_;refine mB (gT (mI (gT (mI (gT ?_)))));refine dL ?_;refine eV ?_;refine aa (cT (sr ?_));exact K2
   ·rw [show uI v x = 0 by unfold uI; rw [UE (by rintro (h | h | h); exact absurd (hf.symm.trans h) UA; omega; omega)]];have hm : me v [⟨kR v x.toNat, nR ((1 : Int) : Dyadic)⟩] = 0 := Ad hf (by unfold dY; rw [Bn, U0 (qK h0)]; rfl);have z1 : Sz 24 ((1 : Int) : Dyadic) := Gk (m := 1) (e := 0) UA UA UA;have hmk := fun A cc w1 hT1 hS1 => kI v A 1 cc [⟨kR v x.toNat, nR ((1 : Int) : Dyadic)⟩] 24 w1 hT1 hS1 UA Uz (fun t ht => by rw [U4.1 ht]; exact ⟨z1.ok UA, by show Sz 24 (nR _).d; rw [bY]; exact z1⟩) (fun t ht => by rw [U4.1 ht]; have := qK (x := x.toNat) h0; show (kR v x.toNat).size ≤ _; omega);rw [hm] at hmk;refine DL ?_;refine sr ?_;refine bW hh ?_;intro b4 w4 hh;refine aI (aa (ah (sr (mI ?_))));refine bD hh (hfw _) rfl ?_;intro w8 hh;refine fy ?_;refine mB (gT (mI (gT ?_)));refine bh ?_;refine eV ?_;refine mB (gT (mI (gT (mI (gT ?_)))));refine dL ?_;refine eV ?_;refine aa (cF (ar (ai (sr (mI ?_)))));refine gu (n := (v.toNat)) hh rfl rfl Uz Uz bk.out aM.out rfl Uz Uz UA ?_;intro b21 w21 hh;refine aL (aa (sr (mL (mI ?_))));refine cX (k := (x.toNat)) bk.out aM.size rfl rfl Uz Uz UA ?_;rw [ve] at hh
    have hll : (jQ (List.replicate v.toNat 0)).length = v.toNat := by simp [jQ]
    refine HQ ?_;intro ws hh;simp only [UU] at hh;rw [show cm (jQ (List.replicate v.toNat 0)) (x.toNat * 1) [.int .u8 1] = jQ ((List.replicate v.toNat 0).set x.toNat 1) from FQ (l := List.replicate v.toNat 0) (i := x.toNat) (c := 1) (by rw [V1]; omega)] at hh;refine aa (ah ?_);refine qU [] [0, 0, 2, 0, 14, 30, 63, 127, 127, 511, 1023] 6 [[(0, none)], [(6, none)], [(26, some 1)], [], [(27, some 2), (28, some 3)], [(29, some 4)]] [(5, 30), (4, 29), (3, 28), (2, 27), (1, 26), (0, 25)] [([], 4, [(5, 30), (4, 29), (3, 28), (2, 27), (1, 26), (0, 25)])] hh mixed UB UB UA ?_;refine dP ?_;refine gC ?_;refine aP (i := 2) (Is (.string ⟨(((List.replicate v.toNat 0).set x.toNat 1)).toArray⟩)) Is.ext ?_ ?_
    ·intro ρ1 w1 hj hR;exact fi rfl (jw (l := ((List.replicate v.toNat 0).set x.toNat 1)) bk.out bk.out bk.out (show ρ1 26 = Value.slice _ _ _ from hR.1) (hj.hp.aA (i := 0) rfl)) ⟨Below.refl _ _, rfl⟩
    refine dC (fun _ hj => jW 1 _ (hT.hp hj.hp) UA UA) ?_;refine dB [_,_,_,_] ?_;refine sA [_,_,_,_] ?_;refine aT ?_;intro p_ hp_;simp only [UZ, List.not_mem_nil, or_false] at hp_
    rcases hp_ with rfl
    intro f W hJ hV;have hb_5 := hJ.bl;obtain ⟨v30, v29, v28, v27, v26, v25, _⟩ := hV;simp only [mV];have e25 : f 0 = _ := v25;rw [e25];have e26 : f 1 = _ := v26;rw [e26];have e27 : f 2 = _ := v27;rw [e27];have e28 : f 3 = _ := v28;rw [e28];have e29 : f 4 = _ := v29;rw [e29];obtain ⟨A30, c30, e30, f30⟩ : Rows _ _ _ (f 5) W := v30;rw [e30];replace hh := hJ.hp;clear e25 e26 e27 e28 e29 e30 hJ;refine aF (hmk _ _ _ (hT.hp hh) f30) al.out rfl UA ?_; rintro e_ w31 ⟨g, og, rfl, h3⟩; refine ⟨_, rfl, ?_⟩; replace hh := hh.join h3;refine fF ?_;simp only [UP, UN] at hh;refine cZ (i := 7) (by repeat (first | exact cA | refine bR ?_ | refine cB ?_ | refine np_scope ?_)) rfl UB UB UB (fun _ => fH (show _ = Value.tuple (List.toArray _) from rfl) rfl) UA ?_;refine cZ (i := 8) (by repeat (first | exact cA | refine bR ?_ | refine cB ?_ | refine np_scope ?_)) rfl UB UB UB (fun _ => fH (show _ = Value.tuple (List.toArray _) from rfl) rfl) UA ?_;refine kv 9 UA UB UA UB UB ?_;exact NQ
def S0 (p : PX) (n : Nat) : List TR × Int := (List.replicate n p).foldl jF (aD [⟨dZ p.v, nR ((1 : Int) : Dyadic)⟩], 0)
def TD (p : PX) (n : Int) : Int := if p.e = 0 then (if n < 0 ∨ 127 < n then 1 else (S0 p n.toNat).2) else p.e
def Tw (ps : List PX) (R : List HE) (g : PX) : Prop := (g ∈ ps ∧ R = []) ∨ R = [g.row]
variable {r : Bool}
theorem LA (n : Nat) (m m' : ByteArray) (s s' : Bool) (a a' : ByteArray) (e e' : Int) (w : World) : (Op.equalIn (n + 4) 96 (.agg #[.string m, .bool s, .string a, .int .i64 e]) (.agg #[.string m', .bool s', .string a', .int .i64 e'])).run Tryz.prog w = .ok (m == m' && ((s == s' && a == a') && e == e')) w := by
 have h1 := fun (u : ByteArray) (x : Bool) (y : ByteArray) (z : Int) => El (P := Tryz.prog) (cs := #[.string u, .bool x, .string y, .int .i64 z]) (off := 0) (aM.out (P := Tryz.prog) (t := 9)) rfl;have h2 := fun (u : ByteArray) (x : Bool) (y : ByteArray) (z : Int) => O6 (P := Tryz.prog) (cs := #[.string u, .bool x, .string y, .int .i64 z]) (vs := #[.bool x, .string y, .int .i64 z]) (off := 1) (aM.out (P := Tryz.prog) (t := 65)) rfl;rw [Op.equalIn];simp [run_underlying Tryz.underlying96, h1, h2, Q8, HK]
 cases h : m == m' <;> cases h' : ((s == s' && a == a') && e == e') <;> simp_all
theorem zd {x y : TR} : (x.m == y.m && ((x.c.neg == y.c.neg && x.c.bA == y.c.bA) && x.c.e == y.c.e)) = true ↔ x = y := by
 obtain ⟨m, s, a, e⟩ := x;obtain ⟨m', s', a', e'⟩ := y;rw [UX, nC, JS, TR.mk.injEq]
section
variable {ρ : Rf} {w : World} {d : Option Nat} {ty u : TypeId} {pos : String} {af : Array Edge} {g : Option (Nat × Bool)} {x y : Operand} {s t : TR}
theorem OL (hx : ev ρ x = .agg s.cells.toArray) (hy : ev ρ y = .agg t.cells.toArray) (hr : (s.m == t.m && ((s.c.neg == t.c.neg && s.c.bA == t.c.bA) && s.c.e == t.c.e)) = r) :
  (execOp (ev ρ) ⟨d, .binOp .neq 96 x y u, ty, pos, af, g⟩).run Tryz.prog w = .ok (.value (.bool !r)) w := by
 have h1 : (Op.equal 96 (.agg s.cells.toArray) (.agg t.cells.toArray)).run Tryz.prog w = .ok r w := by rw [← hr]; exact LA 9996 s.m t.m s.c.neg t.c.neg s.c.bA t.c.bA s.c.e t.c.e w
 simp only [execOp, hx, hy];simp [eqGuard, binOp, h1]
theorem MR (hx : ev ρ x = .agg s.cells.toArray) (hy : ev ρ y = .agg t.cells.toArray) (h : s = t) :
  (execOp (ev ρ) ⟨d, .binOp .neq 96 x y u, ty, pos, af, g⟩).run Tryz.prog w = .ok (.value (.bool false)) w := OL hx hy (zd.2 h)
theorem MM (hx : ev ρ x = .agg s.cells.toArray) (hy : ev ρ y = .agg t.cells.toArray) (h : ¬ s = t) :
  (execOp (ev ρ) ⟨d, .binOp .neq 96 x y u, ty, pos, af, g⟩).run Tryz.prog w = .ok (.value (.bool true)) w := OL hx hy (r := false) (Xh.2 fun h1 => h (zd.1 h1))
end
theorem L3 {a b : List α} {i : Nat} (ha : a.length ≤ i) (hb : b.length ≤ i) (h : a.take i = b.take i) : a = b := by
 rwa [UQ ha, UQ hb] at h
theorem xF (A : Option Addr) (n c : Nat) (a : List TR) (B : Option Addr) (m d : Nat) (b : List TR) (w : World) (hS : Sl w A n 4 (az TR.cells a)) (hS2 : Sl w B m 4 (az TR.cells b)) (hn : n ≤ 1000000) (hm : m ≤ 1000000) :
  Calls Tryz.prog 73 #[.slice A n c, .slice B m d] w fun r w' => ∃ v, r = .returned (.bool v) ∧ (v = true ↔ a = b) ∧ Below w.heap.size w w' := by
 have hh := Hp.start w;have hla := hS.bq TR.len UA;have hlb := hS2.bq TR.len UA;by_cases hnm : n = m
 ·subst hnm;refine aj (N := 26) (l := [.slice A n c, .slice B n d]) Tryz.func73 rfl rfl (by simp) ?_;refine zz ?_;refine KS ?_;refine aR [4, 5, 11, 12, 13, 14, 15, 16, 17, 18, 19, 20, 21, 22, 23, 24, 25] 5
   (fun v w' => ∃ i : Nat, i ≤ n ∧ v = .int .i64 i ∧ a.take i = b.take i ∧ Hp w [] w')
   (fun v _ => n - (intOf v).toNat) ?_ ?_
  ·exact ⟨0, UI _, rfl, rfl, hh⟩
  ·clear hh;rintro ρ' v w' ⟨i, hi, rfl, he, hh⟩;by_cases hlt : i < n
   ·obtain ⟨s, hs⟩ := ak (l := a) (k := i) Uz;obtain ⟨t, ht⟩ := ak (l := b) (k := i) Uz;obtain ⟨ad, rfl, hr⟩ := hS.at_ Uz;obtain ⟨ad2, rfl, hr2⟩ := hS2.at_ Uz;by_cases hst : s = t
    ·refine ah (sr (mI (mL (aJ ?_))));refine wC ?_;refine zk ?_;refine gC ?_;refine dP ?_;refine nM (i) ?_;refine su [_,_,_,_] (fun _ hj => (hr.ext hj.hp.below).recAt TR.len hs) ?_;refine gC ?_;refine dP ?_;refine nM (i) ?_;refine su [_,_,_,_] (fun _ hj => (hr2.ext hj.hp.below).recAt TR.len ht) ?_;refine aT ?_;intro f W hJ hV;have hb_6 := hJ.bl;obtain ⟨v24, v23, v22, v21, v20, v19, v18, v17, _⟩ := hV;replace hh := hJ.hp;refine zK ?_;dsimp only [cg];clear hJ;refine aQ rfl rfl UA (MR (s := s) (t := t) rfl rfl hst) ?_;skip;refine uk ?_;refine bo (aI (aC (ai ?_)));refine ⟨⟨i + 1, Uz, rfl, by rw [ay hs, ay ht, he, hst], hh⟩, by show n - (i + 1) < n - i; omega, ?_⟩;exact dQ
    ·refine ah (sr (mI (mL (aJ ?_))));refine wC ?_;refine zk ?_;refine gC ?_;refine dP ?_;refine nM (i) ?_;refine su [_,_,_,_] (fun _ hj => (hr.ext hj.hp.below).recAt TR.len hs) ?_;refine gC ?_;refine dP ?_;refine nM (i) ?_;refine su [_,_,_,_] (fun _ hj => (hr2.ext hj.hp.below).recAt TR.len ht) ?_;refine aT ?_;intro f W hJ hV;have hb_6 := hJ.bl;obtain ⟨v24, v23, v22, v21, v20, v19, v18, v17, _⟩ := hV;replace hh := hJ.hp;refine zK ?_;dsimp only [cg];clear hJ;refine aQ rfl rfl UA (MM (s := s) (t := t) rfl rfl hst) ?_;skip;refine aa (cT (sr (aB (aa (av (cf (aH (aH (cf (aH ?_))))))))));refine de ?_;refine ⟨_, rfl, ⟨fun h => (nomatch h), fun h => absurd ?_ hst⟩, hh.below⟩;rw [h, ht] at hs;exact (Vl hs).symm
   ·refine ah (sr (mI (mL (aJ ?_))));refine AQ ?_;refine de ?_;exact ⟨_, rfl, ⟨fun _ => L3 Uz Uz he, fun _ => rfl⟩, hh.below⟩
 ·refine aj (N := 26) (l := [.slice A n c, .slice B m d]) Tryz.func73 rfl rfl (by simp) ?_;refine zz ?_;refine dk (aa (cT (sr (aB (aa (av (aH ?_)))))));refine de ?_;exact ⟨_, rfl, ⟨fun h => (nomatch h), fun h => absurd (by rw [← hla, ← hlb, h]) hnm⟩, hh.below⟩
theorem Bz (p q : PX) (w : World) (hp : p.at_ w) (hq : q.at_ w) (hn : p.n ≤ 1000000) (hm : q.n ≤ 1000000) :
  Calls Tryz.prog 15 #[.agg #[.int .i64 p.v, .slice p.A p.n p.c], .agg #[.int .i64 q.v, .slice q.A q.n q.c]] w fun r w' => ∃ v, r = .returned (.bool v) ∧ (v = true ↔ p.v = q.v ∧ p.ts = q.ts) ∧ Below w.heap.size w w' := by
 have hh := Hp.start w;have ht := fun w1 hb => xF p.A p.n p.c p.ts q.A q.n q.c q.ts w1 (hp.ext hb) (hq.ext hb) hn hm;by_cases hv : p.v = q.v
 ·refine Ok ?_;refine sr ?_;refine cz hh [_,_] ?_;intro b2 w2 hh;refine cz hh [_,_] ?_;intro b3 w3 hh;refine aB (aa (sr (bH ?_)));refine bG hh 1 ?_;refine bH ?_;refine bG hh 0 ?_;refine cW (mB (gT (bH (gT ?_))));refine bG hh 1 ?_;refine gT (bH (gT ?_));refine bG hh 0 ?_;refine aG rfl rfl ?_;refine aF (ht _ hh.below) al.out rfl UA ?_;rintro e_ w15 ⟨v_, rfl, hv_, hb_⟩;refine ⟨_, rfl, ?_⟩;replace hh := hh.ext hb_;refine fO ?_;refine aB (aa (av ?_));refine de ?_;exact ⟨v_, rfl, hv_.trans ⟨fun h => ⟨hv, h⟩, fun h => h.2⟩, hh.below⟩
 ·refine Ok ?_;refine sr ?_;refine cz hh [_,_] ?_;intro b2 w2 hh;refine cz hh [_,_] ?_;intro b3 w3 hh;refine aB (aa (sr (bH ?_)));refine bG hh 1 ?_;refine bH ?_;refine bG hh 0 ?_;refine cW (mB ?_);refine gS (gS (gS (gS ?_)));refine jK ?_;refine eV ?_;refine aB (aa (av ?_));refine de ?_;exact ⟨_, rfl, ⟨fun h => (nomatch h), fun h => absurd h.1 hv⟩, hh.below⟩
def TW (a : NR) : Bool := decide ((24 : Int) < a.bA.size ∨ a.e < -300 ∨ 300 < a.e)
structure Uy (ts : List TR) : Prop where
 n : ts.length ≤ 12
 ok : iu 492 ts
 sz : ∀ t ∈ ts, t.m.size ≤ 50
def PX.norm (g : PX) : PX := ⟨g.v, none, 0, 0, g.ts⟩
theorem wy (ps : List PX) : fk (ps.map PX.norm) = fk ps := by
 have h1 : (ps.map PX.norm).find? (fun g => decide (g.e ≠ 0)) = (ps.find? fun g => decide (g.e ≠ 0)).map PX.norm := List.find?_map ..;have h2 : vC (ps.map PX.norm) = vC ps := by
  unfold vC;rw [List.any_map, VE]
  rfl
 unfold fk;rw [h1, h2, US]
 cases ps.find? (fun g => decide (g.e ≠ 0)) <;> rfl
theorem tI (ps : List PX) : eZ (ps.map PX.norm) = eZ ps := by unfold eZ; rw [VE]; rfl
structure AR (ps os : List PX) (R : List HE) : Prop where
 eq : ∀ (j : Nat) (g o : PX), ps[j]? = some g → os[j]? = some o → o.v = g.v ∧ o.ts = g.ts ∧ o.n = g.n
 my : ∀ o ∈ os, o.row ∈ R ∧ o.n ≤ o.c
theorem AR.add {ps os : List PX} {R : List HE} {g o : PX} (h : AR ps os R) (hx : ps[os.length]? = some g) (he : o.v = g.v ∧ o.ts = g.ts ∧ o.n = g.n) (hc : o.n ≤ o.c) : AR ps (os ++ [o]) (o.row :: R) := by
 refine ⟨fun j g2 o2 h1 h2 => ?_, fun o2 h2 => ?_⟩
 ·by_cases hj : j < os.length
  ·rw [WV hj] at h2;exact h.eq j g2 o2 h1 h2
  ·by_cases hj2 : j = os.length
   ·subst hj2;rw [VW (UH _), Vw] at h2;rw [hx] at h1
    cases h1; cases h2
    exact he
   ·rw [Vd (by rw [UM]; simp; omega)] at h2
    cases h2
 ·rcases Vk.1 h2 with h2 | h2
  ·exact ⟨UT _ (h.my o2 h2).1, (h.my o2 h2).2⟩
  ·rw [U4.1 h2];exact ⟨UR, hc⟩
theorem AR.key {ps os : List PX} {R : List HE} (h : AR ps os R) (hl : os.length = ps.length) : os.map PX.norm = ps.map PX.norm := by
 apply VU;intro j;rw [UO, UO];by_cases hj : j < os.length
 ·obtain ⟨o, ho⟩ := ak hj;obtain ⟨g, hg⟩ := ak (l := ps) (k := j) Uz;obtain ⟨e1, e2, _⟩ := h.eq j g o hg ho;rw [ho, hg];show some (PX.norm o) = some (PX.norm g);unfold PX.norm;rw [e1, e2]
 ·rw [Vd Uz, Vd Uz]
theorem D6 {H : List HE} {g : PX} (hh : Hp w H w') (h : g.row ∈ H) : g.at_ w' := lT (hh.own g.row h)
def Bv (p : PX) (c : Dyadic) : Int := if p.e = 0 then gh (p.ts.map (j4 c)) else p.e
theorem Hk {X : List TR} {c : Dyadic} {i : Nat} {z : TR} (hz : l[i]? = some z) (hX : X = (l.take i).map (j4 c) ++ l.drop i) : X[i]? = some z ∧ X.set i ⟨z.m, nR (z.c.d * c)⟩ = (l.take (i + 1)).map (j4 c) ++ l.drop (i + 1) := by
 obtain ⟨h1, h2⟩ := UW.1 hz;have hl : ((l.take i).map (j4 c)).length = i := by rw [US, U6]; omega
 refine ⟨?_, ?_⟩
 ·rw [hX, VW Uz, hl, Vw, Wt];exact hz
 ·rw [ay hz, VC, hX, WW _ _ Uz, hl, Vw, Vt, gl hz]
  rfl
theorem Fz {c : Dyadic} (ho : iu k l) (hc : Sz j c) (hk : k + j ≤ 1000000) : iu (k + j) (l.map (j4 c)) := fun t ht => by
 obtain ⟨z, hz, rfl⟩ := UY.1 ht;have hs := (ho z hz).2.mul hc;exact ⟨hs.ok Uz, by show Sz _ (nR _).d; rw [bY]; exact hs⟩
theorem pS (p : PX) (c : NR) (k : Nat) (w : World) (hT : eb w) (hp : p.at_ w) (lp : p.kO k) (hc : c.ok ∧ Sz k c.d) (hk : k ≤ 400000) :
  Calls Tryz.prog 53 #[.agg #[.int .i64 p.v, .slice p.A p.n p.c], .agg #[.bool c.neg, .string c.bA, .int .i64 c.e]] w fun r w' => ∃ g : PX, fg (Bv p c.d) p.v (aD (p.ts.map (j4 c.d))) g ∧ r = .returned (.tuple #[.agg #[.int .i64 g.v, .slice g.A g.n g.c], .int .i64 (Bv p c.d)]) ∧ Hp w [g.row] w' := by
 have hh := Hp.start w;have hck := fun w1 hT1 hb => mb p k w1 hT1 (hp.ext hb) lp;unfold Bv;by_cases h0 : p.e = 0
 ·rw [UF h0];rw [h0] at hck;obtain ⟨_, h4, _, _⟩ := cd h0;have hpl : p.ts.length = p.n := hp.ln;refine O4 ?_;refine sr ?_;refine cz hh [_,_] ?_;intro b2 w2 hh;refine cz hh [_,_,_] ?_;intro b3 w3 hh;refine bW hh ?_;intro b4 w4 hh;refine aI (aa (ah (sr ?_)));refine cE hh 2 [_,_] ?_;refine eA ?_;intro w10 hh;refine aI (aa (sr (mI ?_)));refine dk (aa (cF (ar (ai (sr (bH ?_))))));refine bG hh 2 ?_;refine aF (lO p.A p.n p.c p.ts _ (hp.ext hh.below) lp.n) al.out rfl UA ?_;rintro e_ w17 ⟨A17, c17, rfl, hown_, hb_⟩;refine ⟨_, rfl, ?_⟩;replace hh := hh.aV (x := .row _ _ _ _ _ _) hb_ hown_;refine rT ?_;refine aR [8, 20, 21, 22, 23, 24, 25, 26, 27, 28, 29, 30, 31, 32, 33, 34, 35] 20
   (fun v w' => ∃ (i : Nat) (X : List TR), i ≤ p.n ∧ v = .int .i64 i ∧ X = (p.ts.take i).map (j4 c.d) ++ p.ts.drop i ∧ Hp w [.row A17 p.n c17 96 4 (az TR.cells X), .blk b4 24 [.int .i64 0, .slice none 0 0] (0, 0), .blk b3 65 [.bool c.neg, .string c.bA, .int .i64 c.e] (0, 0), .blk b2 24 [.int .i64 p.v, .slice p.A p.n p.c] (0, 0)] w')
   (fun v _ => p.n - (intOf v).toNat) ?_ ?_
  ·exact ⟨0, p.ts, UI _, rfl, rfl, hh⟩
  ·clear hh;rintro ρ' v w' ⟨i, X, hi, rfl, hX, hh⟩;have hXl : X.length = p.n := by rw [hX, UM, US, U6, VY]; omega
   by_cases hlt : i < p.n
   ·obtain ⟨z, hz⟩ := ak (l := p.ts) (k := i) Uz;obtain ⟨hXz, hXn⟩ := Hk hz hX;have hzo := lp.ok z (UJ hz);have hdm := fun A cc w1 hT1 hS1 => eK A 2 cc [z.c, c] w1 hT1 hS1 (by simpa using ⟨hzo.1, hc.1⟩) k (by simpa using ⟨hzo.2, hc.2⟩) Uz UA;rw [show ik ([z.c, c].map NR.d) = z.c.d * c.d by show 1 * z.c.d * c.d = _; rw [WO]] at hdm;have hrl := eT TR.len X;obtain ⟨g0, rfl⟩ := hh.cN (i := 0) rfl Uz;refine sr ?_;refine bh (aa (ah (cT (ar (ai (ah (aq (sr (mI (aI (aa ?_)))))))))));refine aZ 10 [[(7, none)], [(8, none)], [(7, none)], [(8, none)], [(25, some 2), (26, some 3)], [(27, some 4)], [(28, some 5)], [(3, none)], [(29, some 6), (30, some 7)], [(31, some 8)]] [(9, 32), (8, 31), (7, 30), (6, 29), (5, 28), (4, 27), (3, 26), (2, 25), (1, 24), (0, 23)] hh mixed UB ?_;refine gC ?_;refine dP ?_;refine gC ?_;refine dP ?_;refine KZ (i) ?_;refine ef ?_;refine su [_,_,_] (fun _ hj => (hj.hp.iF (f := TR.cells) (x := z) (l := X) (i := 0) rfl TR.len UA hXz).drop 1) ?_;refine fS 2 [_,_,_] ?_;refine sA [_,_,_,_,_,_] ?_;refine aP (i := 9) (Is (.agg #[.bool (nR (z.c.d * c.d)).neg, .string (nR (z.c.d * c.d)).bA, .int .i64 (nR (z.c.d * c.d)).e])) Is.ext ?_ ?_
    ·intro ρ1 w1 hj hR;obtain ⟨A31, c31, h31, s31⟩ := hR.1;exact a7 rfl (aK al.out (aw h31 aW)) (hdm A31 c31 _ (hT.hp hj.hp) s31) (fun _ _ hq => ⟨_, hq.1, hq.2, rfl⟩)
    refine aT ?_;intro f W hJ hV;have hb_8 := hJ.bl;obtain ⟨v32, v31, v30, v29, v28, v27, v26, v25, v24, v23, _⟩ := hV;obtain ⟨A31, c31, e31, f31⟩ : Rows _ _ _ (f 8) W := v31;replace hh := hJ.hp;refine aY (br (ae v32 (ae e31 (ae v30 (ae v29 (ae v28 (ae v27 (ae v26 (ae v25 (ae v24 (ae v23 aX))))))))))) ?_;dsimp only [cg];clear e31 hJ;refine gD ?_;refine bH ?_;refine bQ hh (i := 0) (vs := [_, _, _]) rfl rfl (gU rfl) rfl aM.out rfl Uz rfl ?_;intro ws hh;simp only [UU] at hh;rw [wJ hXz, hXn] at hh;refine fV ?_;refine bo (mI (aC (ai ?_)));replace hh := hh.sub (UG _ (UG _ (UG _ (UG _ Ve))));refine ⟨⟨i + 1, _, Uz, rfl, rfl, hh⟩, by show p.n - (i + 1) < p.n - i; omega, ?_⟩;exact dQ
   ·obtain rfl : i = p.n := Uz;rw [UQ Uz, Wu Uz, Vo] at hX;have hso := Fz lp.ok hc.2 Uz;rw [← hX] at hso ⊢;refine sr ?_;refine HH ?_;refine bG hh 3 ?_;refine mL ?_;refine aF (kE p.v A17 p.n c17 X (k + k) _ hT hh hXl Uz Uz hso) al.out rfl UA ?_;rintro e_ w39 ⟨g, og, rfl, hh⟩;refine ⟨_, rfl, ?_⟩;refine dt ?_;refine dt ?_;exact E8
 ·rw [UE h0];refine O4 ?_;refine sr ?_;refine cz hh [_,_] ?_;intro b2 w2 hh;refine cz hh [_,_,_] ?_;intro b3 w3 hh;refine bW hh ?_;intro b4 w4 hh;refine aI (aa (ah (sr ?_)));refine cE hh 2 [_,_] ?_;refine eA ?_;intro w10 hh;exact Sa
abbrev ZT := List (List UInt8 × Int)
def zT (L : ZT) : List TR := L.map fun x => ⟨str x.1, nR ((x.2 : Int) : Dyadic)⟩
def zS (L : ZT) (b : List UInt8) : Int := match L with | [] => 0 | x :: L => (if x.1 = b then x.2 else 0) + zS L b
def zC : ZT → Bool
 | [] => true
 | [x] => !decide (x.2 = 0)
 | x :: y :: L => !decide (x.2 = 0) && (Op.bytesLess x.1 y.1 && zC (y :: L))
def zE (L K : ZT) : Bool := (L ++ K).all fun x => decide (zS L x.1 = zS K x.1)
def zP (P Q : ZT) : ZT := P.flatMap fun x => Q.map fun y => ((mulL x.1 y.1).1, x.2 * y.2)
def Uo (P Q : ZT) : List Int := P.flatMap fun x => Q.map fun y => (mulL x.1 y.1).2
def zM (v : Int) (L : ZT) : Bool := L.all fun x => ek x.1 && decide ((x.1.length : Int) = v)
def zB (L : ZT) : Bool := L.all fun x => decide (x.2.natAbs < 256) && decide (x.1.length ≤ 50)
def Uh (n : Int) : ZT := [([0, 1], n), ([1, 0], 1)]
theorem ql {g h : PX} (h1 : g.e = 0) (h2 : h.e = 0) (h3 : h.v = g.v) : fk [g, h] = 0 := by
 have e : [g, h].find? (fun g => decide (g.e ≠ 0)) = none := iX (Wb.2 fun x hx => by
  rcases UZ.1 hx with rfl | hx
  ·simp [h1]
  ·rw [U4.1 hx]; simp [h2])
 unfold fk;rw [e];show (if 2 = 0 ∨ vC [g, h] = true then (1 : Int) else 0) = 0;rw [UE];rintro (h0 | h0)
 ·cases h0
 ·obtain ⟨x, hx, hx2⟩ := Wi.1 h0;have hx3 : x.v ≠ g.v := V9 hx2
  rcases UZ.1 hx with rfl | hx
  ·exact hx3 rfl
  ·rw [U4.1 hx] at hx3;exact hx3 h3
def Tf (ds : List Int) : VP := fun v W => ∃ g : Option Addr × Nat, v = .slice g.1 ds.length g.2 ∧ Sl W g.1 ds.length 1 (bL ds)
structure TO (E : Int) (g : PX) : Prop where
 bad : E ≠ 0 → g.v = 0 ∧ g.ts = []
 ok : E = 0 → g.e = 0 ∧ iu 100000 g.ts ∧ ∀ t ∈ g.ts, t.m.size ≤ 100000
theorem pX (h : gh l = 0) : (aD l).length ≤ 4096 := by
 unfold gh at h;by_cases h4 : 4096 < (aD l).length
 ·rw [UF h4] at h; omega
 ·omega
theorem L7 {v : Int} (h : me v l = 0) : iw v = true ∧ (∀ t ∈ l, dY v t = true) ∧ (aD l).length ≤ 4096 := by
 unfold me at h;by_cases h1 : iw v = false ∨ (l.any fun t => !dY v t) = true
 ·rw [UF h1] at h; omega
 ·rw [UE h1] at h;by_cases h2 : 65536 < l.length
  ·rw [UF h2] at h; omega
  ·rw [UE h2] at h;refine ⟨by cases hf : iw v with | true => rfl | false => exact absurd (.inl hf) h1, fun t ht => ?_, pX h⟩
   cases hm : dY v t with
   | true => rfl
   | false => exact absurd (.inr (Wi.2 ⟨t, ht, by rw [hm]; rfl⟩)) h1
theorem iU (h : iu k l) (hk : k + l.length ≤ j) (hj : j ≤ 3999990) : iu j (aD l) := fun t ht => by
 have h3 : Sz j t.c.d := (nJ (fun t ht => (h t ht).2) t ht).mono hk;exact ⟨by rw [(fp l).nf t ht]; exact h3.ok hj, h3⟩
theorem j3 (h : ∀ t ∈ l, t.m.size ≤ 100000) : ∀ t ∈ aD l, t.m.size ≤ 100000 := fun t ht => by
 obtain ⟨s, hs, e⟩ := fj t ht;rw [← e];exact h s hs
theorem G1 {ps : List PX} {v : Int} (h0 : ps ≠ []) (he : ∀ g ∈ ps, g.e = 0) (hv : ∀ g ∈ ps, g.v = v) : fk ps = 0 := by
 unfold fk;rw [iX (Wb.2 fun x hx => by simp [he x hx])];show (if ps.length = 0 ∨ vC ps = true then (1 : Int) else 0) = 0;rw [UE];rintro (h | h)
 ·exact h0 (Wk h)
 ·obtain ⟨x, hx, hx2⟩ := Wi.1 h;have hx3 : x.v ≠ eZ ps := V9 hx2;obtain ⟨g, l, rfl⟩ := List.exists_cons_of_ne_nil h0;exact hx3 ((hv x hx).trans (hv g UR).symm)
theorem gY (h : l.length ≤ 4096) : gh l = 0 := by
 unfold gh;have := bM l;rw [UE Uz]
theorem fg.v0 {v : Int} {g : PX} (o : fg 0 v ts g) : g.v = v := o.v
theorem fg.t0 {v : Int} {g : PX} (o : fg 0 v ts g) : g.ts = ts := o.ts
theorem KN (p q : PX) : BV [p, q] = p.ts ++ q.ts := by show p.ts ++ (q.ts ++ []) = _; rw [Vo]
def eU (j : Nat) (t : TR) : Nat := match t.m.data.toList[j]? with | some e => e.toNat | none => 0
theorem mX {t : TR} {e : UInt8} (h : t.m.data.toList[j]? = some e) : eU j t = e.toNat := by unfold eU; rw [h]
def bm (p : List TR) (j n : Nat) : List TR := p.filter fun t => decide (eU j t = n)
def ic (q : List TR) (sub : List TR → Int × List TR) (p : List TR) (j n : Nat) (a : Int × List TR) : Int × List TR :=
 if a.1 ≠ 0 then a else if a.2.length = 0 ∧ (bm p j n).length = 0 then a else
 if fm a.2 q ≠ 0 then (fm a.2 q, []) else if (sub (bm p j n)).1 ≠ 0 then ((sub (bm p j n)).1, []) else
 if gh (aD (cj a.2 q) ++ (sub (bm p j n)).2) ≠ 0 then (gh (aD (cj a.2 q) ++ (sub (bm p j n)).2), []) else (0, aD (aD (cj a.2 q) ++ (sub (bm p j n)).2))
def bu (q : List TR) (sub : List TR → Int × List TR) (p : List TR) (j : Nat) : Nat → Int × List TR
 | 0 => (0, [])
 | i + 1 => ic q sub p j (127 - i) (bu q sub p j i)
theorem jc (q : List TR) (sub : List TR → Int × List TR) (p : List TR) (j i : Nat) : bu q sub p j (i + 1) = ic q sub p j (127 - i) (bu q sub p j i) := rfl
def ep (v : Int) : List (List TR) → Nat → List TR → Int × List TR
 | [], _, p => (0, aD [⟨dZ v, (p.map TR.c).headD (nR 0)⟩])
 | q :: qs, j, p => bu q (ep v qs (j + 1)) p j 128
theorem jT {q : List TR} {sub : List TR → Int × List TR} {i : Nat} (h : (bu q sub p j i).1 ≠ 0) (hk : i ≤ k) : bu q sub p j k = bu q sub p j i := by
 induction k with
 | zero =>
  obtain rfl : i = 0 := Uz
  rfl
 | succ k ih =>
  by_cases e : i = k + 1
  ·rw [e]
  ·have := ih Uz;show ic q sub p j (127 - k) (bu q sub p j k) = _;rw [this];unfold ic;rw [UF h]
theorem BO {q : List TR} (hp : iu k p) (hq : iu j q) (sq : ∀ t ∈ q, t.m.size ≤ 100000) (h : fm p q = 0) (hk : k + j ≤ 900000) : iu (k + j + p.length * q.length) (aD (cj p q)) ∧ ∀ t ∈ aD (cj p q), t.m.size ≤ 100000 := by
 obtain ⟨h6, _, h4⟩ := kr h;have ho := pV hp hq Uz;have hz := nJ fun t ht => (ho t ht).2;rw [jR] at hz;refine ⟨fun t ht => ?_, (E9 hp hq sq h hk).2⟩;have : Sz (k + j + p.length * q.length) t.c.d := hz t ht;refine ⟨?_, this⟩;rw [(fp _).nf t ht];exact this.ok Uz
structure iZ (v : Int) (k : Nat) (l : List TR) : Prop where
 e : fh v l = 0
 ok : iu k l
 sz : ∀ t ∈ l, t.m.size ≤ 100000
theorem iZ.mono {v : Int} (h : iZ v k l) (hk : k ≤ j) : iZ v j l := ⟨h.e, h.ok.mono hk, h.sz⟩
theorem iZ.nil {v : Int} (hv : iw v = true) : iZ v k [] := ⟨DR hv (UI _) (fun _ h => nomatch h) ⟨.nil, (fun _ h => nomatch h), (fun _ h => nomatch h)⟩, (fun _ h => nomatch h), (fun _ h => nomatch h)⟩
theorem iZ.len {v : Int} (h : iZ v k l) : l.length ≤ 4096 := (cd h.e).2.1
theorem ES {v : Int} {q : List TR} {T : Nat} (hp : iZ v k p) (hq : iZ v j q) (hT : q.length ≤ T) (h : fm p q = 0) (hk : k + j ≤ 900000) : iZ v (k + j + 4096 * T) (aD (cj p q)) := by
 obtain ⟨h6, h5, h4⟩ := kr h;obtain ⟨f1, f2, f3, f4⟩ := cd hp.e;have := BO hp.ok hq.ok hq.sz h hk;have hm : p.length * q.length ≤ 4096 * T := V3 hp.len hT;exact ⟨dV f1 h4 (nq f3 h5), this.1.mono Uz, this.2⟩
theorem FE {v : Int} {a b : List TR} (ha : iZ v k a) (hb : iZ v k b) (h : gh (a ++ b) = 0) (hk : k ≤ 3000000) : iZ v (k + 8192) (aD (a ++ b)) := by
 obtain ⟨f1, f2, f3, f4⟩ := cd ha.e;obtain ⟨g1, g2, g3, g4⟩ := cd hb.e;have hl : (a ++ b).length ≤ 8192 := by rw [UM]; omega
 refine ⟨dV f1 (pX h) fun t ht => ?_, iU (fun t ht => ?_) (show k + (a ++ b).length ≤ k + 8192 by omega) Uz, j3 fun t ht => ?_⟩
 ·rcases Vk.1 ht with h | h
  ·exact f3 t h
  ·exact g3 t h
 ·rcases Vk.1 ht with h | h
  ·exact ha.ok t h
  ·exact hb.ok t h
 ·rcases Vk.1 ht with h | h
  ·exact ha.sz t h
  ·exact hb.sz t h
theorem J5 {v : Int} {q : List TR} {sub : List TR → Int × List TR} {a : Int × List TR} {S K T B S' : Nat} (ha : iZ v S a.2) (hq : iZ v K q) (hT : q.length ≤ T) (hb : (sub (bm p j n)).1 = 0 → iZ v B (sub (bm p j n)).2) (h1 : S + K + 4096 * T + 8192 ≤ S') (h2 : B + 8192 ≤ S') (hS : S' ≤ 900000)
  (h : (ic q sub p j n a).1 = 0) : iZ v S' (ic q sub p j n a).2 := by
 unfold ic at h ⊢;by_cases c0 : a.1 ≠ 0
 ·rw [UF c0] at h; exact absurd h c0
 ·rw [UE c0] at h ⊢;by_cases c1 : a.2.length = 0 ∧ (bm p j n).length = 0
  ·rw [UF c1];exact ha.mono Uz
  ·rw [UE c1] at h ⊢;by_cases c2 : fm a.2 q ≠ 0
   ·rw [UF c2] at h; exact absurd h c2
   ·rw [UE c2] at h ⊢;by_cases c3 : (sub (bm p j n)).1 ≠ 0
    ·rw [UF c3] at h; exact absurd h c3
    ·rw [UE c3] at h ⊢;by_cases c4 : gh (aD (cj a.2 q) ++ (sub (bm p j n)).2) ≠ 0
     ·rw [UF c4] at h; exact absurd h c4
     ·rw [UE c4];exact (FE ((ES ha hq hT Uz Uz).mono (show _ ≤ S' - 8192 by omega)) ((hb Uz).mono Uz) Uz Uz).mono Uz
theorem GG (h : ∀ t ∈ p, eU j t < n) : bm p j n = [] := X6.2 fun t ht => by
 have := h t ht;simp only [U2];omega
theorem jq : ∀ t ∈ bm p j n, t ∈ p := fun t ht => (V7.1 ht).1
theorem g7 {q p : List TR} {sub : List TR → Int × List TR} {j D : Nat} (h : ∀ t ∈ p, eU j t ≤ D) : ∀ i, i + D ≤ 127 → bu q sub p j i = (0, [])
 | 0, _ => rfl
 | i + 1, hi => by
  show ic q sub p j (127 - i) (bu q sub p j i) = _;rw [g7 h i Uz, show ic q sub p j (127 - i) (0, []) = (0, []) by
   unfold ic;rw [UE UA, UF ⟨rfl, by rw [GG fun t ht => by have := h t ht; omega]; rfl⟩]]
def ff (c : Nat) : List Nat → Nat → Nat
 | [], k => k
 | d :: ds, k => ff c ds k + d * c + 8192
theorem qZ (c k : Nat) : ff c [] k = k := rfl
theorem oJ (c d k : Nat) (ds : List Nat) : ff c (d :: ds) k = ff c ds k + d * c + 8192 := rfl
theorem tG {v : Int} {q p : List TR} {sub : List TR → Int × List TR} {j D K T B c : Nat} (hv : iw v = true) (hq : iZ v K q) (hT : q.length ≤ T) (hD : ∀ t ∈ p, eU j t ≤ D) (hD2 : D ≤ 127) (hb : ∀ n, (sub (bm p j n)).1 = 0 → iZ v B (sub (bm p j n)).2) (hc : K + 4096 * T + 8192 ≤ c) (hS : B + D * c + 8192 ≤ 900000) :
  ∀ i, i ≤ 128 → (bu q sub p j i).1 = 0 → iZ v (B + (i + D - 128) * c + 8192) (bu q sub p j i).2
 | 0, _, _ => iZ.nil hv
 | i + 1, hi, h0 => by
  by_cases h1 : i + 1 + D ≤ 127
  ·rw [g7 hD _ h1];exact iZ.nil hv
  ·have h2 : (bu q sub p j i).1 = 0 := by
    refine Wz fun c => ?_;rw [jT c (Nat.le_succ i)] at h0;exact c h0
   have hle : (i + 1 + D - 128) * c ≤ D * c := VG _ Uz;by_cases h3 : i + D ≤ 127
   ·have h4 := g7 (q := q) (sub := sub) hD i h3;show iZ v _ (ic q sub p j (127 - i) (bu q sub p j i)).2;have h5 : (ic q sub p j (127 - i) (bu q sub p j i)).1 = 0 := h0;rw [h4] at h5 ⊢;rw [show i + 1 + D - 128 = 0 by omega, Xl];unfold ic at h5 ⊢;rw [UE UA] at h5 ⊢;by_cases c1 : ((0 : Int), ([] : List TR)).2.length = 0 ∧ (bm p j (127 - i)).length = 0
    ·rw [UF c1]; exact iZ.nil hv
    ·rw [UE c1] at h5 ⊢;by_cases c2 : fm [] q ≠ 0
     ·rw [UF c2] at h5; exact absurd h5 c2
     ·rw [UE c2] at h5 ⊢;by_cases c3 : (sub (bm p j (127 - i))).1 ≠ 0
      ·rw [UF c3] at h5; exact absurd h5 c3
      ·rw [UE c3] at h5 ⊢;by_cases c4 : gh (aD (cj [] q) ++ (sub (bm p j (127 - i))).2) ≠ 0
       ·rw [UF c4] at h5; exact absurd h5 c4
       ·rw [UE c4];have hn : iZ v B (aD (cj [] q)) := iZ.nil hv;exact (FE hn (hb _ Uz) Uz Uz).mono Uz
   ·have ih := tG hv hq hT hD hD2 hb hc hS i Uz h2;have e1 : (i + 1 + D - 128) * c = (i + D - 128) * c + c := by rw [show i + 1 + D - 128 = (i + D - 128) + 1 by omega, VO]
    rw [e1] at hle ⊢;generalize (i + D - 128) * c = y at *;generalize D * c = z at *;exact J5 ih hq hT (hb _) Uz Uz Uz h0
theorem qW {v : Int} {x : NR} (hv : iw v = true) (hx : Sz k x.d) (hk : k ≤ 900000) : iZ v (k + 1) (aD [⟨dZ v, x⟩]) := by
 have h1 := fP.1 hv;have h2 := l7 h1.1;refine ⟨dV hv (U1 (bM _) (show 1 ≤ 4096 by decide)) fun t ht => ?_, fun t ht => ?_, fun t ht => ?_⟩
 ·rw [U4.1 ht];unfold dY;rw [UX, U2];exact ⟨ru v, h2⟩
 ·have h1 : Sz (k + 1) t.c.d := nJ (k := k) (l := [⟨dZ v, x⟩]) (fun s hs => by rw [U4.1 hs]; exact hx) t ht;exact ⟨by rw [(fp _).nf t ht]; exact h1.ok Uz, h1⟩
 ·obtain ⟨s, hs, e⟩ := fj t ht;rw [← e, U4.1 hs];show (dZ v).size ≤ 100000;omega
theorem EZ {v : Int} {K T c0 : Nat} (hv : iw v = true) (hc0 : K + 4096 * T + 8192 ≤ c0) : ∀ (qs : List (List TR)) (j : Nat) (p : List TR) (ds : List Nat) (k : Nat), (∀ q ∈ qs, iZ v K q ∧ q.length ≤ T) → iu k p → ds.length = qs.length → (∀ (i d : Nat), ds[i]? = some d → d ≤ 127 ∧ ∀ t ∈ p, eU (j + i) t ≤ d) → ff c0 ds (k + 1) ≤ 900000 →
  (ep v qs j p).1 = 0 → iZ v (ff c0 ds (k + 1)) (ep v qs j p).2 := by
 intro qs
 induction qs with
 | nil =>
  intro j p ds k _ hok hds _ hB _;obtain rfl : ds = [] := W9.1 hds;rw [qZ] at hB ⊢;refine qW hv ?_ Uz;exact Rb
 | cons q qs ih =>
  intro j p ds k hq hok hds hD hB h0
  cases ds with
  | nil => cases hds
  | cons d ds =>
   have hd := hD 0 d rfl;rw [oJ] at hB ⊢;have hB1 : ff c0 ds (k + 1) ≤ 900000 := Uz;have hsub : ∀ n, (ep v qs (j + 1) (bm p j n)).1 = 0 → iZ v (ff c0 ds (k + 1)) (ep v qs (j + 1) (bm p j n)).2 := fun n hn => by
    refine ih (j + 1) (bm p j n) ds k (fun r hr => hq r (UT _ hr)) (fun t ht => hok t (jq t ht)) (by simpa using hds) (fun i e he => ?_) hB1 hn;exact SD
   have h1 := tG (sub := ep v qs (j + 1)) (p := p) (j := j) hv (hq q UR).1 (hq q UR).2 hd.2 hd.1 hsub hc0 hB 128 (UH _) h0;rw [show 128 + d - 128 = d by omega] at h1;exact h1
variable {fr : Nat}
theorem BR : ∀ {a b : List UInt8} {j : Nat} {x y : UInt8}, Op.bytesLess a b = true → a.take j = b.take j → a[j]? = some x → b[j]? = some y → x.toNat ≤ y.toNat
 | [], _, j, x, y, _, _, hx, _ => by simp at hx
 | _, [], j, x, y, _, _, _, hy => by simp at hy
 | c :: a, d :: b, 0, x, y, h, _, hx, hy => by
  simp only [XM, Wv] at hx hy;subst hx; subst hy;simp only [Op.bytesLess, W6, UX, U2, Wl] at h
  rcases h with h | ⟨h, _⟩
  ·exact Nat.le_of_lt (UInt8.lt_iff_toNat_lt.1 h)
  ·rw [h]; exact UH _
 | c :: a, d :: b, j + 1, x, y, h, ht, hx, hy => by
  simp only [List.take_succ_cons, List.cons.injEq] at ht;obtain ⟨rfl, ht⟩ := ht;simp only [Xn] at hx hy;refine BR (a := a) (b := b) ?_ ht hx hy;simpa [Op.bytesLess] using h
structure DD (v : Int) (j : Nat) (p : List TR) : Prop where
 sv : td p
 may : ∀ t ∈ p, dY v t = true
 pre : ∀ a ∈ p, ∀ b ∈ p, a.m.data.toList.take j = b.m.data.toList.take j
theorem DD.size {v : Int} (h : DD v j p) : ∀ t ∈ p, (t.m.data.toList.length : Int) = v := fun t ht => by
 rw [← di];exact V9 (WN.1 (h.may t ht)).2
theorem DD.get {v : Int} (h : DD v j p) (hj : (j : Int) < v) {t : TR} (ht : t ∈ p) : ∃ e : UInt8, t.m.data.toList[j]? = some e ∧ eU j t = e.toNat ∧ e.toNat < 128 := by
 obtain ⟨e, he⟩ := ak (l := t.m.data.toList) (k := j) (by have := h.size t ht; omega);exact ⟨e, he, mX he, sX (WN.1 (h.may t ht)).1 he⟩
theorem DD.mono {v : Int} (h : DD v j p) (hj : (j : Int) < v) : p.Pairwise fun a b => eU j a ≤ eU j b := by
 refine List.Pairwise.imp_of_mem (fun {a b} ha hb hl => ?_) h.sv;obtain ⟨x, hx, ex, _⟩ := h.get hj ha;obtain ⟨y, hy, ey, _⟩ := h.get hj hb;rw [ex, ey];exact BR hl (h.pre a ha b hb) hx hy
theorem DD.with {v : Int} (h : DD v j p) (hj : (j : Int) < v) : DD v (j + 1) (bm p j n) := by
 refine ⟨h.sv.filter _, fun t ht => h.may t (jq t ht), fun a ha b hb => ?_⟩;obtain ⟨ha1, ha2⟩ := V7.1 ha;obtain ⟨hb1, hb2⟩ := V7.1 hb;obtain ⟨x, hx, ex, _⟩ := h.get hj ha1;obtain ⟨y, hy, ey, _⟩ := h.get hj hb1;have exy : x = y := XA.1 (by rw [← ex, ← ey, V9 ha2, V9 hb2]);rw [ay hx, ay hy, h.pre a ha1 b hb1, exy]
theorem Iu {p : List α} {en : Nat} (h : fr ≤ en) : p.drop fr = (p.drop fr).take (en - fr) ++ p.drop en := by
 have : p.drop en = (p.drop fr).drop (en - fr) := by rw [List.drop_drop]; congr 1; omega
 rw [this, VA]
theorem BD {en : Nat} (hfe : fr ≤ en) (h1 : ∀ t ∈ p.take fr, eU j t < n) (h2 : ∀ t ∈ (p.drop fr).take (en - fr), eU j t = n) (h3 : ∀ t ∈ p.drop en, n < eU j t) : bm p j n = (p.drop fr).take (en - fr) := by
 have e : p = p.take fr ++ ((p.drop fr).take (en - fr) ++ p.drop en) := by
  have : p.drop en = (p.drop fr).drop (en - fr) := by rw [List.drop_drop]; congr 1; omega
  rw [this, VA, VA]
 unfold bm
 conv => lhs; rw [e]
 rw [XF, XF, X6.2, List.filter_eq_self.2, X6.2, UN, Vo]
 ·intro t ht;have := h3 t ht;simp only [U2];omega
 ·intro t ht;have := h2 t ht;simpa using this
 ·intro t ht;have := h1 t ht;simp only [U2];omega
theorem Gc {x : TR} (h : p.Pairwise fun a b => eU j a ≤ eU j b) (hx : p[fr]? = some x) (hn : eU j x < n) : ∀ t ∈ p.take (fr + 1), eU j t < n := fun t ht => by
 rw [ay hx] at ht
 rcases Vk.1 ht with ht | ht
 ·have e : p = p.take fr ++ x :: p.drop (fr + 1) := by rw [← gl hx, VA]
  rw [e, List.pairwise_append] at h;have := h.2.2 t ht x UR;omega
 ·obtain rfl := U4.1 ht;exact hn
variable {w0 : World}
def yg (p : PX) (i : Int) : Int := if p.e = 0 then (if i < 0 ∨ p.v ≤ i then 1 else 0) else p.e
theorem F9 (p : PX) (i : Int) (k : Nat) (w : World) (hT : eb w) (hp : p.at_ w) (lp : p.kO k) :
  Calls Tryz.prog 71 #[.agg #[.int .i64 p.v, .slice p.A p.n p.c], .int .i64 i] w fun r w' => r = .returned (.int .i64 (yg p i)) ∧ Below w.heap.size w w' := by
 have hh := Hp.start w;have hck := fun w1 hT1 hb => mb p k w1 hT1 (hp.ext hb) lp;unfold yg;by_cases h0 : p.e = 0
 ·rw [UF h0];rw [h0] at hck;by_cases h1 : i < 0
  ·rw [UF (.inl h1)];refine DS ?_;refine sr ?_;refine cz hh [_,_] ?_;intro b2 w2 hh;refine aI (aa (ah (sr ?_)));refine cE hh 0 [_,_] ?_;refine eA ?_;intro w7 hh;refine aI (aa (sr (mI ?_)));refine xe ?_;refine bh (mB ?_);refine gS (gS (gS (gS ?_)));refine fO ?_;exact C4
  ·by_cases h2 : p.v ≤ i
   ·rw [UF (.inr h2)];refine DS ?_;refine sr ?_;refine cz hh [_,_] ?_;intro b2 w2 hh;refine aI (aa (ah (sr ?_)));refine cE hh 0 [_,_] ?_;refine eA ?_;intro w7 hh;refine aI (aa (sr (mI ?_)));refine xe ?_;refine bh (mB (gT (mI (gT (bH (gT ?_))))));refine bG hh 0 ?_;refine gT ?_;refine dL ?_;refine eV ?_;exact C4
   ·rw [UE Uz];refine DS ?_;refine sr ?_;refine cz hh [_,_] ?_;intro b2 w2 hh;refine aI (aa (ah (sr ?_)));refine cE hh 0 [_,_] ?_;refine eA ?_;intro w7 hh;refine aI (aa (sr (mI ?_)));refine xe ?_;refine bh (mB (gT (mI (gT (bH (gT ?_))))));refine bG hh 0 ?_;refine gT ?_;exact RF
 ·rw [UE h0];refine DS ?_;exact Ny
theorem Hp.L9 {H : List HE} (h : Hp w0 H w) {i : Nat} {t : TypeId} {l : List UInt8} {ex : List Value} (hi : H[i]? = some (.blk b t (jQ l ++ ex) fz)) (hl : l.length = n) : Sl w (some ⟨b, 0, none⟩) n 1 (jQ l) := by
 refine ⟨by rw [jg, hl, U3], fun _ => ⟨_, rfl, fun j u hu => ?_⟩⟩;refine h.Di hi j u ?_;rw [WV (UW.1 hu).1];exact hu
def nU (i : Nat) (t : TR) : Option TR := match t.m.data.toList[i]? with | some e => if e.toNat = 0 then none else some ⟨str (t.m.data.toList.set i (e - 1)), nR (t.c.d * ((e.toNat : Int) : Dyadic))⟩ | none => none
def jx (i : Nat) (l : List TR) : List TR := l.filterMap (nU i)
theorem FM {i : Nat} {x : TR} (h : l[j]? = some x) : jx i (l.take (j + 1)) = jx i (l.take j) ++ (nU i x).toList := by
 unfold jx;rw [ay h, W7];congr 1
theorem EO {p : PX} {i : Int} (h : yg p i = 0) : p.e = 0 ∧ 0 ≤ i ∧ i < p.v := by
 unfold yg at h;by_cases h0 : p.e = 0
 ·rw [UF h0] at h;by_cases h1 : i < 0 ∨ p.v ≤ i
  ·rw [UF h1] at h; cases h
  ·exact ⟨h0, Uz, Uz⟩
 ·rw [UE h0] at h; exact absurd h h0
theorem Mi {l : List UInt8} {ex : List Value} {i : Nat} {e : UInt8} (h : i < l.length) (he : e.toNat ≠ 0) : cm (jQ l ++ ex) (i * 1) [.int .u8 (((e.toNat + 256 - 1) % 256 : Nat) : Int)] = jQ (l.set i (e - 1)) ++ ex := by
 have hl : i < (jQ l).length := by rw [jg]; exact h
 have h1 : (1 : UInt8) ≤ e := by rw [XW]; show 1 ≤ e.toNat; omega
 have h2 : e.toNat < 256 := e.toNat_lt;have h3 : (e - 1).toNat = (e.toNat + 256 - 1) % 256 := by
  rw [XZ _ _ h1];show e.toNat - 1 = _;omega
 rw [U3, cJ (by rw [UM]; omega), List.set_append_left _ _ hl];congr 1;unfold jQ;rw [WT, h3]
theorem tx {l : List UInt8} : ek l = true ↔ ∀ c ∈ l, c.toNat < 128 := by
 unfold ek;rw [Vb];exact ⟨fun h c hc => V9 (h c hc), fun h c hc => U0 (h c hc)⟩
theorem nL {i : Nat} {t s : TR} (h : nU i t = some s) : ∃ e, t.m.data.toList[i]? = some e ∧ e.toNat ≠ 0 ∧ s = ⟨str (t.m.data.toList.set i (e - 1)), nR (t.c.d * ((e.toNat : Int) : Dyadic))⟩ := by
 unfold nU at h;split at h
 ·rename_i e he;by_cases h0 : e.toNat = 0
  ·rw [UF h0] at h; cases h
  ·rw [UE h0] at h;exact ⟨e, he, h0, (Vl h).symm⟩
 ·cases h
theorem JO {v : Int} {i : Nat} {t s : TR} (h : nU i t = some s) (ht : dY v t = true) : dY v s = true := by
 obtain ⟨e, he, h0, rfl⟩ := nL h;unfold dY at ht ⊢;rw [UX, U2] at ht;rw [UX, U2];refine ⟨?_, ?_⟩
 ·show ek (str _).data.toList = true;rw [cP, tx];intro c hc
  rcases Yd hc with hc | rfl
  ·exact tx.1 ht.1 c hc
  ·have h1 : (1 : UInt8) ≤ e := by rw [XW]; show 1 ≤ e.toNat; omega
   rw [XZ _ _ h1];have := tx.1 ht.1 e (UJ he);omega
 ·show ((str _).size : Int) = v;rw [jC, WU, ← di];exact ht.2
theorem Ea {i : Nat} {t s : TR} (h : nU i t = some s) (ht : Sz k t.c.d) (hk : k ≤ 1000000) : s.c.ok ∧ Sz (k + 24) s.c.d ∧ s.m.size = t.m.size := by
 obtain ⟨e, he, h0, rfl⟩ := nL h;have he8 : e.toNat < 256 := e.toNat_lt;have zn : Sz 24 ((e.toNat : Int) : Dyadic) := Gk (m := (e.toNat : Int)) (e := 0) Uz UA UA;have hs := ht.mul zn;exact ⟨hs.ok Uz, by show Sz _ (nR _).d; rw [bY]; exact hs, by show (str _).size = _; rw [jC, WU, ← di]⟩
theorem Fh {v : Int} {i : Nat} (h : fh v ts = 0) (ho : iu k ts) (hz : ∀ t ∈ ts, t.m.size ≤ 100000) (hk : k ≤ 100000) : me v (jx i ts) = 0 ∧ iu (k + 24) (jx i ts) ∧ ∀ t ∈ jx i ts, t.m.size ≤ 100000 := by
 obtain ⟨h1, h2, h3, _⟩ := cd h;have hl : (jx i ts).length ≤ 4096 := U1 (List.length_filterMap_le _ _) h2;have hm : ∀ s ∈ jx i ts, ∃ t ∈ ts, nU i t = some s := fun s hs => VF.1 hs;refine ⟨?_, fun s hs => ?_, fun s hs => ?_⟩
 ·unfold me;rw [UE, UE Uz]
  ·unfold gh;have := bM (jx i ts);rw [UE Uz]
  ·rintro (h5 | h5)
   ·rw [h1] at h5; cases h5
   ·obtain ⟨s, hs, h6⟩ := Wi.1 h5;obtain ⟨t, ht, h7⟩ := hm s hs;rw [JO h7 (h3 t ht)] at h6
    cases h6
 ·obtain ⟨t, ht, h7⟩ := hm s hs;have := Ea h7 (ho t ht).2 Uz;exact ⟨this.1, this.2.1⟩
 ·obtain ⟨t, ht, h7⟩ := hm s hs;rw [(Ea h7 (ho t ht).2 Uz).2.2];exact hz t ht
theorem vK (p : PX) (which : Int) (k : Nat) (w : World) (hT : eb w) (hp : p.at_ w) (lp : p.kO k) (hk : k ≤ 100000) :
  Calls Tryz.prog 14 #[.agg #[.int .i64 p.v, .slice p.A p.n p.c], .int .i64 which] w fun r w' => ∃ g : PX, fg (yg p which) p.v (aD (jx which.toNat p.ts)) g ∧ r = .returned (.tuple #[.agg #[.int .i64 g.v, .slice g.A g.n g.c], .int .i64 (yg p which)]) ∧ Hp w [g.row] w' := by
 have hh := Hp.start w;have hck := fun w1 hT1 hb => F9 p which k w1 hT1 (hp.ext hb) lp;by_cases h0 : yg p which = 0
 ·obtain ⟨hpe, hi0, hiv⟩ := EO h0;rw [h0] at hck ⊢;obtain ⟨hf, h4, hmy, _⟩ := cd hpe;replace hf := fP.1 hf;obtain ⟨pv, pA, pn, pc, ts⟩ := p;replace hpl : ts.length = pn := hp.ln;replace hp : Sl w pA pn 4 (az TR.cells ts) := hp;have okp : iu k ts := lp.ok;have szp : ∀ t ∈ ts, t.m.size ≤ 100000 := lp.sz;replace hmy : ∀ t ∈ ts, dY pv t = true := hmy;replace h4 : ts.length ≤ 4096 := h4;replace hf : 0 ≤ pv ∧ pv ≤ 12 := hf;replace hiv : which < pv := hiv;obtain ⟨j, rfl⟩ : ∃ j : Nat, which = (j : Int) := ⟨which.toNat, Uz⟩;rw [show ((j : Int)).toNat = j from rfl];show Calls _ _ _ _ fun r w' => ∃ g : PX, fg 0 pv (aD (jx j ts)) g ∧ r = .returned (.tuple #[.agg #[.int .i64 g.v, .slice g.A g.n g.c], .int .i64 0]) ∧ Hp w [g.row] w';refine aj (N := 64) (l := [.agg #[.int .i64 pv, .slice pA pn pc], .int .i64 j]) Tryz.func14 rfl rfl (by simp) ?_;refine sr ?_;refine cz hh [_,_] ?_;intro b2 w2 hh;refine bW hh ?_;intro b4 w4 hh;refine aI (aa (ah (sr ?_)));refine cE hh 1 [_,_] (mI ?_);refine eA ?_;intro w14 hh;refine aI (aa (sr (mI ?_)));refine dk (aa (cF (ar (ai (sr (aL (aa (ah (sr (bH ?_))))))))));refine bG hh 1 ?_;refine aJ (mI (aa (aq ?_)));replace hh := hh.cY 96 4
  refine bK [7, 9, 10, 11, 22, 23, 24, 25, 26, 27, 28, 29, 30, 31, 32, 33, 34, 35, 36, 37, 38, 39, 40, 41, 42, 43, 44, 45, 46, 47, 48, 49, 50, 51, 52, 53, 54, 55, 56, 57] 7 22
   (fun a v w' => ∃ (i : Nat) (M : List TR) (A : Option Addr) (c : Nat), i ≤ pn ∧ v = .int .i64 i ∧ M = jx j (ts.take i) ∧ a = .slice A M.length c ∧ Hp w [.row A M.length c 96 4 (az TR.cells M), .blk b4 24 [.int .i64 0, .slice none 0 0] (0, 0), .blk b2 24 [.int .i64 pv, .slice pA pn pc] (0, 0)] w')
   (fun _ v _ => pn - (intOf v).toNat) ?_ ?_
  ·exact ⟨0, [], none, 0, UI _, rfl, rfl, rfl, hh⟩
  ·clear hh;rintro ρ' a_ v w' ⟨i, M, A, c, hi, rfl, hM, rfl, hh⟩;have hMl : M.length ≤ i := by rw [hM]; exact U1 (List.length_filterMap_le _ _) (by rw [U6]; omega)
   by_cases hlt : i < pn
   ·obtain ⟨x, hx⟩ := ak (l := ts) (k := i) Uz;obtain ⟨ad, rfl, hr⟩ := hp.at_ Uz;have hxo := okp x (UJ hx);have hmx := WN.1 (hmy x (UJ hx));have hxz : (x.m.size : Int) = pv := V9 hmx.2;obtain ⟨e, he⟩ := ak (l := x.m.data.toList) (k := j) (by rw [← di]; omega);have he8 : e.toNat < 256 := e.toNat_lt;have hbl : j < x.m.data.toList.length := (UW.1 he).1;have hdt : nU j x = if e.toNat = 0 then none else some ⟨str (x.m.data.toList.set j (e - 1)), nR (x.c.d * ((e.toNat : Int) : Dyadic))⟩ := by unfold nU; rw [he]
    have hsn := FM (i := j) hx;rw [← hM] at hsn;refine sr ?_;refine dH ?_;refine ct ?_;refine pg ?_;refine bW hh ?_;intro b9 w9 hh;refine bX hh 0 [_,_,_,_] ?_;intro ws hh;replace hh : Hp _ (.blk _ _ [_, _, _, _] _ :: _) _ := hh;refine aa (sr (bH ?_));refine bG hh 0 ?_;refine yW hh bk.out bk.out bk.out rfl UA ?_;intro g28 c28 x28 w28 hh;have hcl : (jQ x.m.data.toList ++ x28)[j]? = some (.int .u8 (e.toNat : Int)) := by rw [WV (by rw [jg]; exact hbl)]; unfold jQ; rw [UO, he]; rfl
    generalize (((jQ x.m.data.toList ++ x28).length, (jQ x.m.data.toList ++ x28).length + 1) : Nat × Nat) = fz at hh;by_cases he0 : e.toNat = 0
    ·rw [hdt, UF he0] at hsn;refine aL (aa (ah (sr (mL (mI ?_)))));refine k7 ?_;refine FJ ?_;refine cW (aa (cT (a9 (aE (bC (ai (ao ?_)))))));refine bo (mI (aC (ai ?_)));replace hh := hh.sub (UL _ (UL _ (UG _ (UG _ (UG _ Ve)))));refine ⟨⟨i + 1, M, A, c, Uz, rfl, by rw [hsn]; simp, rfl, hh⟩, by show pn - (i + 1) < pn - i; omega, ?_⟩;exact dQ
    ·rw [hdt, UE he0] at hsn;refine aL (aa (ah (sr (mL (mI ?_)))));refine k7 ?_;refine FJ ?_;refine cW (aa (cF (ar (ai (sr (mL (mI ?_)))))));refine k7 ?_;refine FJ ?_;refine xu ?_;refine aI (aa (sr (mL (mI ?_))));refine k7 ?_;refine FJ ?_;refine yU (b := 1) rfl rfl Uz UA ?_;refine k7 ?_;refine vp hh (i := 0) (vs := [_]) rfl rfl (cK rfl) rfl aM.out rfl (by rw [UM, jg]; omega) rfl ?_;intro ws hh;simp only [UU] at hh;rw [Mi hbl he0] at hh;have hbl2 : (x.m.data.toList.set j (e - 1)).length = x.m.size := by rw [WU, ← di]
     have zn : Sz 24 ((e.toNat : Int) : Dyadic) := Gk (m := (e.toNat : Int)) (e := 0) Uz UA UA;have hdm := fun A cc w1 hT1 hS1 => eK A 2 cc [x.c, nR ((e.toNat : Int) : Dyadic)] w1 hT1 hS1 (by simpa using ⟨hxo.1, zn.ok UA⟩) (k + 24) (by simpa [bY] using ⟨hxo.2.mono Uz, zn.mono Uz⟩) Uz UA;rw [show ik ([x.c, nR ((e.toNat : Int) : Dyadic)].map NR.d) = x.c.d * ((e.toNat : Int) : Dyadic) by show 1 * x.c.d * (nR _).d = _; rw [bY, WO]] at hdm;refine aa ?_;refine aZ 11 [[(7, none)], [(10, none)], [(46, some 1)], [(9, none)], [(48, some 3)], [(11, none)], [(50, some 5)], [(49, some 4), (51, some 6)], [(52, some 7)], [(47, some 2), (53, some 8)], [(54, some 9)]] [(10, 55), (9, 54), (8, 53), (7, 52), (6, 51), (5, 50), (4, 49), (3, 48), (2, 47), (1, 46), (0, 45)] hh mixed UB ?_;refine gC ?_;refine gC ?_;refine aP (i := 2) (Is (.string ⟨((x.m.data.toList.set j (e - 1))).toArray⟩)) Is.ext ?_ ?_
     ·intro ρ1 w1 hj hR;exact fi rfl (jw (l := (x.m.data.toList.set j (e - 1))) bk.out bk.out bk.out (show ρ1 46 = Value.slice _ _ _ from hR.1) (hj.hp.L9 (i := 0) rfl hbl2)) ⟨Below.refl _ _, rfl⟩
     refine ef ?_;refine fS 1 [_,_,_] ?_;refine dP ?_;refine dC (fun _ hj => jW (e.toNat : Int) _ (hT.hp hj.hp) Uz Uz) ?_;refine sA [_,_,_,_,_,_] ?_;refine aP (i := 8) (Is (.agg #[.bool (nR (x.c.d * ((e.toNat : Int) : Dyadic))).neg, .string (nR (x.c.d * ((e.toNat : Int) : Dyadic))).bA, .int .i64 (nR (x.c.d * ((e.toNat : Int) : Dyadic))).e])) Is.ext ?_ ?_
     ·intro ρ1 w1 hj hR;obtain ⟨A52, c52, h52, s52⟩ := hR.1;exact a7 rfl (aK al.out (aw h52 aW)) (hdm A52 c52 _ (hT.hp hj.hp) s52) (fun _ _ hq => ⟨_, hq.1, hq.2, rfl⟩)
     refine dB [_,_,_,_] ?_;refine sA [_,_,_,_] ?_;refine aT ?_;intro f W hJ hV;have hb_12 := hJ.bl;obtain ⟨v55, v54, v53, v52, v51, v50, v49, v48, v47, v46, v45, _⟩ := hV;obtain ⟨A52, c52, e52, f52⟩ : Rows _ _ _ (f 7) W := v52;obtain ⟨A55, c55, e55, f55⟩ : Rows _ _ _ (f 10) W := v55;replace hh := hJ.hp;refine aY (br (ae e55 (ae v54 (ae v53 (ae e52 (ae v51 (ae v50 (ae v49 (ae v48 (ae v47 (ae v46 (ae v45 aX)))))))))))) ?_;dsimp only [cg];clear e52 e55 hJ;refine cH hh (i := 2) rfl rfl rfl (f55) bk.out aM.out rfl UA (by first | rfl | exact dz _ | exact dh _ | exact bT _ | exact ck NR.one _) Uz Uz UA ?_;intro A56 c56 w56 hh;simp only [UU, Vp] at hh;refine kK ?_;refine bo (mI (aC (ai ?_)));replace hh := hh.sub (UL _ (UL _ (UG _ (UG _ (UG _ Ve)))));refine ⟨⟨i + 1, M ++ [⟨str (x.m.data.toList.set j (e - 1)), nR (x.c.d * ((e.toNat : Int) : Dyadic))⟩], A56, c56, Uz, rfl, by rw [hsn]; rfl, by rw [UM]; rfl, by rw [UM, bU, jv]; exact hh⟩, by show pn - (i + 1) < pn - i; omega, ?_⟩;exact dQ
   ·obtain rfl : i = pn := Uz;rw [UQ Uz] at hM;have hmk : me pv M = 0 ∧ iu (k + 24) M ∧ ∀ t ∈ M, t.m.size ≤ 100000 := by
     rw [hM];exact Fh hpe okp szp hk
    have hmc := fun A c w1 hT1 hS1 => kI pv A M.length c M (k + 24) w1 hT1 hS1 Uz Uz hmk.2.1 hmk.2.2;rw [hmk.1] at hmc;refine sr ?_;refine HH ?_;refine bG hh 2 ?_;refine mL ?_;refine aF (hmc _ _ _ (hT.hp hh) (hh.aA (i := 0) rfl)) al.out rfl UA ?_;rintro e_ w61 ⟨g, og, rfl, h3⟩;refine ⟨_, rfl, ?_⟩;replace hh := hh.join h3;simp only [UP, UN] at hh;refine dt ?_;refine dt ?_;refine bX hh 2 [_,_] ?_;intro ws hh;replace hh : Hp _ (_ :: _ :: .blk _ _ [_, _] _ :: _) _ := hh;refine aI (aa (av ?_));refine pw ?_;rw [hM] at og;exact Lg
 ·generalize yg p which = e at *;refine aj (N := 64) (l := [.agg #[.int .i64 p.v, .slice p.A p.n p.c], .int .i64 which]) Tryz.func14 rfl rfl (by simp) ?_;refine sr ?_;refine cz hh [_,_] ?_;intro b2 w2 hh;refine bW hh ?_;intro b4 w4 hh;refine aI (aa (ah (sr ?_)));refine cE hh 1 [_,_] (mI ?_);refine eA ?_;intro w14 hh;exact Sa
theorem JJ.Em {H L : List HE} (hJ : JJ w0 H w W) (hs : Hp w0 H w) (hb : w.heap.size ≤ w1.heap.size) (hL : Hp w1 L W) : Hp w0 (L ++ H) W :=
 hs.join (⟨hJ.bl, fun x hx => mK (hL.own x hx) hb, hL.nd⟩ : Hp w L W)
def ma (base : Nat) (E v : Int) (ts : List TR) : VP := j2 base E v ts
theorem ma.ext {v : Int} (x : Value) (w w' : World) (h : ma base E v ts x w) (hb : Below w.heap.size w w') : ma base E v ts x w' := j2.ext x w w' h hb
theorem BP (v : Int) : aD [⟨dZ v, nR 0⟩] = [] := by
 unfold aD ml yY
 rfl
theorem CT (lA : Option Addr) (lc K T c0 : Nat) (v : Int) (ls : List PX) (hv : iw v = true) (hlc : ls.length ≤ lc) (hl12 : ls.length ≤ 12) (hls : ∀ g ∈ ls, iZ v K g.ts ∧ g.v = v ∧ g.kO K ∧ g.ts.length ≤ T) (hc0 : K + 4096 * T + 8192 ≤ c0) (hc1 : c0 ≤ 440000) :
  ∀ (qs : List PX) (j : Nat) (p : List TR) (A : Option Addr) (n c : Nat) (ds : List Nat) (k : Nat) (w : World), ls.drop j = qs → j ≤ ls.length → eb w → Sl w lA ls.length 2 (az PX.cells ls) → (∀ g ∈ ls, g.at_ w) → Sl w A n 4 (az TR.cells p) → n ≤ c → DD ls.length j p → iu k p → n ≤ 4096 → ds.length = qs.length → (∀ (i d : Nat), ds[i]? = some d → d ≤ 127 ∧ ∀ t ∈ p, eU (j + i) t ≤ d) → ff c0 ds (k + 1) ≤ 440000 →
  Calls Tryz.prog 156 #[.slice A n c, .int .i64 j, .slice lA ls.length lc, .int .i64 v] w fun r w' => ∃ g : PX, fg (ep v (qs.map PX.ts) j p).1 v (ep v (qs.map PX.ts) j p).2 g ∧ r = .returned (.tuple #[.agg #[.int .i64 g.v, .slice g.A g.n g.c], .int .i64 (ep v (qs.map PX.ts) j p).1]) ∧ Hp w [g.row] w' := by
 intro qs;have hK : K ≤ 440000 := Uz;have hco : Ah v = 0 := UE (by rw [hv]; decide)
 induction qs with
 | nil =>
  intro j p A n c ds k w hq hj hT hL hat hS hnc hsr hok hn hds hD hB;have hh := Hp.start w;have hln := hS.bq TR.len UA;obtain rfl : j = ls.length := by
   have := VJ List.length hq;rw [VY] at this;simp only [Xz] at this;omega
  obtain rfl : ds = [] := W9.1 hds;rw [qZ] at hB;have hcn := fun c hc w1 hT1 => jP v c k w1 hT1 hc Uz;rw [hco] at hcn
  cases p with
  | nil =>
   obtain rfl : n = 0 := by simpa using hln.symm
   show Calls _ _ _ _ fun r w' => ∃ g : PX, fg 0 v (aD [⟨dZ v, nR 0⟩]) g ∧ r = .returned (.tuple #[.agg #[.int .i64 g.v, .slice g.A g.n g.c], .int .i64 0]) ∧ Hp w [g.row] w';refine aj (N := 118) (l := [.slice A 0 c, .int .i64 ls.length, .slice lA ls.length lc, .int .i64 v]) Tryz.func156 rfl rfl (by simp) ?_;refine sr ?_;refine bW hh ?_;intro b8 w8 hh;refine aI (aa (ah (sr (mI (mL (aJ ?_))))));refine cW (aa (cT (ah (sr (mL (aJ ?_))))));refine cW (aa (cT (sr (mI ?_))));refine gH [_,_,_] ?_;refine aF (hcn (nR 0) ⟨(Sz.zero k).ok Uz, by rw [bY]; exact Sz.zero k⟩ _ (hT.hp hh)) al.out rfl UA ?_;rintro e_ w25 ⟨g, og, rfl, h3⟩;refine ⟨_, rfl, ?_⟩;replace hh := hh.join h3;simp only [UP, UN] at hh;refine dt ?_;refine dt ?_;refine bX hh 1 [_,_] ?_;intro ws hh;replace hh : Hp _ (_ :: .blk _ _ [_, _] _ :: _) _ := hh;refine aI (aa (av (aH (aH ?_))));exact QC
  | cons t p =>
   have hn1 : p.length + 1 = n := by simpa using hln
   have ht := hok t UR;obtain ⟨ad, rfl, hr⟩ := hS.at_ Uz;show Calls _ _ _ _ fun r w' => ∃ g : PX, fg 0 v (aD [⟨dZ v, t.c⟩]) g ∧ r = .returned (.tuple #[.agg #[.int .i64 g.v, .slice g.A g.n g.c], .int .i64 0]) ∧ Hp w [g.row] w';refine aj (N := 118) (l := [.slice (some ad) n c, .int .i64 ls.length, .slice lA ls.length lc, .int .i64 v]) Tryz.func156 rfl rfl (by simp) ?_;refine sr ?_;refine bW hh ?_;intro b8 w8 hh;refine aI (aa (ah (sr (mI (mL (aJ ?_))))));refine cW (aa (cT (ah (sr (mL (aJ ?_))))));refine cW (aa (cF (ar (ai (sr (mI (mL ?_)))))));refine DE ?_;refine pe ?_;refine cw (vs := [_, _, _]) aM.out rfl (((hr.ext hh.below).recAt TR.len (show (t :: p)[0]? = some t from rfl)).drop 1) rfl UA ?_;refine aF (hcn t.c ht _ (hT.hp hh)) al.out rfl UA ?_;rintro e_ w33 ⟨g, og, rfl, h3⟩;refine ⟨_, rfl, ?_⟩;replace hh := hh.join h3;simp only [UP, UN] at hh;refine dt ?_;refine dt ?_;refine bX hh 1 [_,_] ?_;intro ws hh;replace hh : Hp _ (_ :: .blk _ _ [_, _] _ :: _) _ := hh;refine aI (aa (av (aH ?_)));exact QC
 | cons q qs ih =>
  intro j p A n c ds k w hq hj hT hL hat hS hnc hsr hok hn hds hD hB;have hh := Hp.start w;have hln := hS.bq TR.len UA
  cases ds with
  | nil => cases hds
  | cons d ds =>
   have hd := hD 0 d rfl;have hjl : j < ls.length := by
    rcases Vv j ls.length with h | h
    ·exact h
    ·rw [Wu h] at hq; cases hq
   have hqj : ls[j]? = some q := by rw [← List.head?_drop, hq]; rfl
   have hqs : ls.drop (j + 1) = qs := by rw [← List.tail_drop, hq]; rfl
   obtain ⟨hqk, hqv, hql, hqT⟩ := hls q (UJ hqj);rw [oJ] at hB;have hB1 : ff c0 ds (k + 1) ≤ 440000 := Uz;have hmono := hsr.mono Uz;rw [U9];show Calls _ _ _ _ fun r w' => ∃ g : PX, fg (bu q.ts (ep v (qs.map PX.ts) (j + 1)) p j 128).1 v (bu q.ts (ep v (qs.map PX.ts) (j + 1)) p j 128).2 g ∧ r = .returned (.tuple #[.agg #[.int .i64 g.v, .slice g.A g.n g.c], .int .i64 (bu q.ts (ep v (qs.map PX.ts) (j + 1)) p j 128).1]) ∧ Hp w [g.row] w';have hDs : ∀ n (i e : Nat), ds[i]? = some e → e ≤ 127 ∧ ∀ t ∈ bm p j n, eU (j + 1 + i) t ≤ e := fun n i e he => by
    exact SD
   have hrec : ∀ (m fr en : Nat) (w1 : World), eb w1 → Below w.heap.size w w1 → fr ≤ en → en ≤ n → bm p j m = (p.drop fr).take (en - fr) → Calls Tryz.prog 156 #[.slice (if c = fr then A else A.map (·.add (fr * 4))) (en - fr) (c - fr), .int .i64 ((j : Int) + 1), .slice lA ls.length lc, .int .i64 v] w1 fun r w' => ∃ g : PX, fg (ep v (qs.map PX.ts) (j + 1) (bm p j m)).1 v (ep v (qs.map PX.ts) (j + 1) (bm p j m)).2 g ∧ r = .returned (.tuple #[.agg #[.int .i64 g.v, .slice g.A g.n g.c], .int .i64 (ep v (qs.map PX.ts) (j + 1) (bm p j m)).1]) ∧ Hp w1 [g.row] w' := fun m fr en w1 hT1 hb h1 h2 hw => by
    have hcut := (hS.ext hb).cut h1 h2 hnc;rw [jU TR.len, kX TR.len, ← hw] at hcut;exact ih (j + 1) (bm p j m) _ (en - fr) (c - fr) ds k w1 hqs Uz hT1 (hL.ext hb) (fun g hg => (hat g hg).ext hb) hcut Uz (hsr.with Uz) (fun t ht => hok t (jq t ht)) Uz (by simpa using hds) (hDs m) hB1
   have hsub : ∀ m, (ep v (qs.map PX.ts) (j + 1) (bm p j m)).1 = 0 → iZ v (ff c0 ds (k + 1)) (ep v (qs.map PX.ts) (j + 1) (bm p j m)).2 := fun m hm => by
    refine EZ hv hc0 (qs.map PX.ts) (j + 1) (bm p j m) ds k (fun r hr => ?_) (fun t ht => hok t (jq t ht)) (by rw [US]; simpa using hds) (hDs m) Uz hm;obtain ⟨g, hg, rfl⟩ := UY.1 hr;have := hls g (XR (by rw [hqs]; exact hg));exact ⟨this.1, this.2.2.2⟩
   generalize ep v (qs.map PX.ts) (j + 1) = sub at hrec hsub ⊢;have hlim := tG (sub := sub) (p := p) (j := j) hv hqk hqT hd.2 hd.1 hsub hc0 Uz;have hlim2 : ∀ i, i ≤ 128 → (bu q.ts sub p j i).1 = 0 → iZ v 440000 (bu q.ts sub p j i).2 := fun i hi h0 => (hlim i hi h0).mono (by
    have : (i + d - 128) * c0 ≤ d * c0 := VG _ Uz;omega)
   have hcn := fun w1 hT1 => jP v (nR 0) 0 w1 hT1 ⟨(Sz.zero 0).ok UA, by rw [bY]; exact Sz.zero 0⟩ UA;rw [hco, BP] at hcn;refine aj (N := 118) (l := [.slice A n c, .int .i64 j, .slice lA ls.length lc, .int .i64 v]) Tryz.func156 rfl rfl (by simp) ?_;refine sr ?_;refine bW hh ?_;intro b8 w8 hh;refine aI (aa (ah (sr (mI (mL (aJ ?_))))));refine cW (aa (cF (ar (ai (sr (mI ?_))))));refine gH [_,_,_] ?_;refine aF (hcn _ (hT.hp hh)) al.out rfl UA ?_;rintro e_ w39 ⟨g, og, rfl, h3⟩;refine ⟨_, rfl, ?_⟩;replace hh := hh.join h3;simp only [UP, UN] at hh;refine mT ?_;refine dt ?_;refine dt ?_;refine bW hh ?_;intro b10 w10 hh;refine bX hh 0 [_,_] ?_;intro ws hh;replace hh : Hp _ (.blk _ _ [_, _] _ :: _) _ := hh;refine aI (aa (sr (mL (aJ (aI (aa (ah (sr (aI (aa (aq ?_)))))))))));refine zj [11, 12, 13, 14, 15, 44, 45, 46, 47, 48, 49, 50, 51, 52, 53, 54, 55, 56, 57, 58, 59, 60, 61, 62, 63, 64, 65, 66, 67, 68, 69, 70, 71, 72, 73, 74, 75, 76, 77, 78, 79, 80, 81, 82, 83, 84, 85, 86, 87, 88, 89, 90, 91, 92, 93, 94, 95, 96, 97, 98, 99, 100, 101, 102, 103, 104, 105, 106, 107, 108, 109, 110, 111, 112] 11 12 13
    (fun e en nv w' => ∃ (i en_ : Nat) (e_ ov : Int) (oA : Option Addr) (on oc : Nat) (os : List TR), i ≤ 128 ∧ nv = .int .i64 (127 - (i : Int)) ∧ en = .int .i64 en_ ∧ e = .int .i64 e_ ∧ e_ = (bu q.ts sub p j i).1 ∧ en_ ≤ n ∧ (e_ = 0 → ov = v ∧ os = (bu q.ts sub p j i).2 ∧ (∀ t ∈ p.take en_, eU j t < 128 - i) ∧ (∀ t ∈ p.drop en_, 128 - i ≤ eU j t)) ∧ Hp w [.blk b10 24 [.int .i64 ov, .slice oA on oc] (0, 0), .row oA on oc 96 4 (az TR.cells os), .blk b8 24 [.int .i64 0, .slice none 0 0] (0, 0)] w')
    (fun _ _ nv _ => (intOf nv + 1).toNat) ?_ ?_
   ·refine ⟨0, n, 0, g.v, g.A, g.n, g.c, g.ts, UI _, rfl, rfl, rfl, rfl, UH _, fun _ => ⟨og.v, og.ts, fun t ht => ?_, fun t ht => ?_⟩, hh⟩
    ·obtain ⟨x, _, hx, h8⟩ := hsr.get Uz (WX ht);rw [hx];exact h8
    ·rw [Wu Uz] at ht
     cases ht
   ·clear hh og h3;rintro ρ' e_ en_ nv_ w' ⟨i, en, e, ov, oA, on, oc, os, hi, rfl, rfl, rfl, he, hen, hok0, hh⟩;by_cases hcn : i < 128 ∧ e = 0
    ·obtain ⟨hi8, rfl⟩ := hcn;obtain ⟨rfl, rfl, hlo, hhi⟩ := hok0 rfl;clear hok0;obtain ⟨m, hm⟩ : ∃ m, m = 127 - i := ⟨_, rfl⟩;rw [show (127 - (i : Int)) = (m : Int) by omega];refine ah (sr (mI ?_));refine dL (mB (gT (mI (gT ?_))));refine cW ?_;refine fO ?_;refine aa (cT (ar (ai (ah (aq (sr (mI (aI (aa (ah (aq ?_)))))))))));refine H4 zL2 14
      (fun f w' => ∃ fr : Nat, fr ≤ en ∧ f = .int .i64 fr ∧ bm p j m = (p.drop fr).take (en - fr) ∧ (∀ t ∈ p.take fr, eU j t < m) ∧ Hp w [.blk b10 24 [.int .i64 ov, .slice oA on oc] (0, 0), .row oA on oc 96 4 (az TR.cells (bu q.ts sub p j i).2), .blk b8 24 [.int .i64 0, .slice none 0 0] (0, 0)] w') ?_ ?_
     ·refine aR zL2 14
       (fun f w' => ∃ fr : Nat, fr ≤ en ∧ f = .int .i64 fr ∧ (∀ t ∈ (p.drop fr).take (en - fr), eU j t = m) ∧ Hp w [.blk b10 24 [.int .i64 ov, .slice oA on oc] (0, 0), .row oA on oc 96 4 (az TR.cells (bu q.ts sub p j i).2), .blk b8 24 [.int .i64 0, .slice none 0 0] (0, 0)] w')
       (fun f _ => (intOf f).toNat) ?_ ?_
      ·exact ⟨en, UH _, rfl, (fun t ht => by rw [Vw] at ht; cases ht), hh⟩
      ·clear hh;rintro ρ' f w' ⟨fr, hfr, rfl, hmid, hh⟩;by_cases h0 : 0 < fr
       ·obtain ⟨fr, rfl⟩ : ∃ g, fr = g + 1 := ⟨fr - 1, Uz⟩;obtain ⟨x, hx⟩ := ak (l := p) (k := fr) Uz;obtain ⟨ad, rfl, hr⟩ := hS.at_ Uz;obtain ⟨e, hex, hxe, h8⟩ := hsr.get Uz (UJ hx);by_cases hem : e.toNat = m
        ·refine ah (sr (mI ?_));refine cq (mB (gT (mL (gT (mI (gT ?_))))));refine dW (gT ?_);refine df (k := fr) bk.out aM.size rfl rfl Uz Uz UA ?_;refine gT ?_;refine pe ?_;refine aG rfl rfl ?_;refine KQ ?_;refine gT (mI (gT ?_));refine ke ?_;refine gT ?_;refine xu ?_;refine gT (mI (gT ?_));refine cW ?_;refine fO ?_;refine aa (cT (ar (ai (aq (ao (mI ?_))))));refine dW (aI (aC (bE (ai ?_))));refine ⟨⟨fr, Uz, by show Value.int .i64 (((fr + 1 : Nat) : Int) - 1) = _; congr 1; omega, fun t ht => ?_, hh⟩, by show (((fr + 1 : Nat) : Int) - 1).toNat < ((fr + 1 : Nat) : Int).toNat; omega, ?_⟩
         ·rw [gl hx, show en - fr = (en - (fr + 1)) + 1 by omega, List.take_succ_cons] at ht
          rcases UZ.1 ht with rfl | ht
          ·rw [hxe, hem]
          ·exact hmid t ht
         ·exact dQ
        ·have hlt : e.toNat < m := by
          have := hlo x (by rw [show en = (fr + 1) + (en - (fr + 1)) by omega, List.take_add]; exact WB _ (by rw [ay hx]; exact Wp _ UR));omega
         have hall := Gc hmono hx (n := m) (by rw [hxe]; exact hlt);refine ah (sr (mI ?_));refine cq (mB (gT (mL (gT (mI (gT ?_))))));refine dW (gT ?_);refine df (k := fr) bk.out aM.size rfl rfl Uz Uz UA ?_;refine gT ?_;refine pe ?_;refine aG rfl rfl ?_;refine KQ ?_;refine gT (mI (gT ?_));refine ke ?_;refine gT ?_;refine xu ?_;refine gT (mI (gT ?_));refine cW ?_;refine fO ?_;refine aa (cF (a9 (aE (aE (bC (ai ?_))))));refine ⟨⟨fr + 1, hfr, rfl, BD hfr hall hmid (fun t ht => by have := hhi t ht; omega), hall, hh⟩, ?_⟩;exact dQ
       ·obtain rfl : fr = 0 := Uz;refine ah (sr (mI ?_));refine cq (mB ?_);refine gS (gS (gS (gS (gS ?_))));refine jK ?_;refine gS (gS (gS (gS (gS ?_))));refine eV ?_;refine aa (cF (a9 (aE (aE (bC (ai ?_))))));refine ⟨⟨0, hfr, rfl, BD hfr (fun t ht => by cases ht) hmid (fun t ht => by have := hhi t ht; omega), (fun t ht => by cases ht), hh⟩, ?_⟩;exact dQ
     ·skip;clear hh;rintro ρ' f w' ⟨fr, hfr, rfl, hwi, hbl, hh⟩;have hnx : bu q.ts sub p j (i + 1) = ic q.ts sub p j m (bu q.ts sub p j i) := by rw [jc, hm]
      have hop := hlim2 i Uz he.symm;unfold ic at hnx;rw [UE (by rw [← he]; decide)] at hnx;have hmi : m = 128 - (i + 1) := Uz;have hmi2 : (127 - ((i + 1 : Nat) : Int)) = (m : Int) - 1 := Uz;have hdf : ∀ t ∈ p.drop fr, m ≤ eU j t := fun t ht => by
       rw [Iu hfr] at ht
       rcases Vk.1 ht with ht | ht
       ·rw [← hwi] at ht;have := V9 (V7.1 ht).2;omega
       ·have := hhi t ht;omega
      have hst : (bu q.ts sub p j i) = (0, (bu q.ts sub p j i).2) := by rw [he]
      generalize (bu q.ts sub p j i).2 = os at *;have hoc : on ≤ oc := hh.eM (i := 1) rfl;have hon : os.length = on := (hh.aA (i := 1) rfl).bq TR.len UA;have hwl : (bm p j m).length = en - fr := by rw [hwi, U6, VY]; omega
      by_cases hsk : os.length = 0 ∧ (bm p j m).length = 0
      ·rw [UF hsk] at hnx;obtain ⟨h1, h2⟩ := hsk;obtain rfl : on = 0 := Uz;obtain rfl : fr = en := Uz;refine ah (sr (bH ?_));refine bG hh 0 ?_;refine aJ ?_;refine cW (mB (gT (mI (gT (mI (gT ?_))))));refine cW ?_;refine fO ?_;refine aa (cT (a9 (aE (bC (ai (ao (mI ?_)))))));refine dW (aI (aC (ai ?_)));refine ⟨⟨i + 1, fr, 0, ov, oA, 0, oc, os, Uz, by rw [hmi2]; rfl, rfl, rfl, by rw [hnx]; exact he, hen, fun _ => ⟨rfl, by rw [hnx, hst], fun t ht => by rw [← hmi]; exact hbl t ht, fun t ht => by rw [← hmi]; exact hdf t ht⟩, hh⟩, by show ((m : Int) - 1 + 1).toNat < ((m : Int) + 1).toNat; omega, ?_⟩;exact dQ
      ·rw [UE hsk] at hnx;refine Gs [70, 71, 72, 73, 74, 75, 76, 77, 78]
        (fun w' => Hp w [.blk b10 24 [.int .i64 ov, .slice oA on oc] (0, 0), .row oA on oc 96 4 (az TR.cells os), .blk b8 24 [.int .i64 0, .slice none 0 0] (0, 0)] w') ?_ ?_
       ·by_cases h0 : on = 0
        ·subst h0;have hne : fr ≠ en := fun h => hsk ⟨hon, Uz⟩;refine sr (bH ?_);refine bG hh 0 ?_;refine aJ ?_;refine cW (mB (gT (mI (gT (mI (gT ?_))))));refine cW ?_;refine fO ?_;refine aa (cF (ar (ai ?_)));refine ⟨hh, ?_⟩;exact Nb
        ·refine sr (bH ?_);refine bG hh 0 ?_;refine aJ ?_;refine cW (mB ?_);refine gS (gS (gS ?_));refine eV ?_;refine aa (cF (ar (ai ?_)));refine ⟨hh, ?_⟩;exact Nb
       ·skip;clear hh;rintro ρ' w' hh;obtain ⟨lad, rfl, hlr⟩ := hL.at_ Uz;have hlp : fk [⟨ov, oA, on, oc, os⟩, q] = 0 := ql hop.e (by unfold PX.e; rw [hqv]; exact hqk.e) hqv;have hmu : ∀ (A2 : Option Addr) (w1 : World), eb w1 → Sl w1 A2 2 2 (az PX.cells [⟨ov, oA, on, oc, os⟩, q]) → Sl w1 oA on 4 (az TR.cells os) → Below w.heap.size w w1 → Calls Tryz.prog 17 #[.slice A2 2 2] w1 fun r w' => ∃ g : PX, fg (fm os q.ts) ov (aD (cj os q.ts)) g ∧ r = .returned (.tuple #[.agg #[.int .i64 g.v, .slice g.A g.n g.c], .int .i64 (fm os q.ts)]) ∧ Hp w1 [g.row] w' := fun A2 w1 hT1 s1 s2 hb => by
         have h1 := BH A2 2 2 [⟨ov, oA, on, oc, os⟩, q] 440000 505536 w1 hT1 s1 UA UA (fun g hg => by
          rcases UZ.1 hg with rfl | hg
          ·exact s2
          ·rw [U4.1 hg]; exact (hat q (UJ hqj)).ext hb) (fun g hg => by
          rcases UZ.1 hg with rfl | hg
          ·exact ⟨by have := hop.len; show on ≤ 1000000; omega, hoc, hop.ok, hop.sz⟩
          ·rw [U4.1 hg]; exact ⟨hql.n, hql.cap, hql.ok.mono hK, hql.sz⟩) UA UA
         unfold Et at h1;rw [UF hlp] at h1;exact h1
        refine sr ?_;refine bW hh ?_;intro b15 w15 hh;refine aa (ah (ah ?_));refine dX [] [9] [0, 0, 0, 6, 14, 31, 63, 127, 255, 255, 511, 2047] 10 [[(10, none)], [(2, none)], [(1, none)], [(81, some 1), (82, some 2)], [(83, some 3)], [(80, some 0), (84, some 4)], [(85, some 5)], [(86, some 6)], [(79, some 7)], [(79, some 7)]] [(9, 88), (8, 87), (7, 79), (6, 86), (5, 85), (4, 84), (3, 83), (2, 82), (1, 81), (0, 80)] hh mixed UB eO rfl (by repeat (first | exact cA | refine bR ?_ | refine cB ?_)) ?_;refine fS 1 [_,_] ?_;refine gC ?_;refine dP ?_;refine nM (j) ?_;refine su [_,_] (fun _ hj => (hlr.ext hj.hp.below).recAt PX.len hqj) ?_;refine aP (i := 5) (iQ 2 2 (az PX.cells [⟨ov, oA, on, oc, os⟩, q])) (iQ.ext) ?_ ?_
        ·intro ρ1 w1 hj hR;exact ji (sz := 2) bk.out aM.out (show xn ρ1 [(0, .tmp 80), (1, .tmp 84)] = [(0, .agg #[.int .i64 ov, .slice oA on oc]), (1, .agg #[.int .i64 q.v, .slice q.A q.n q.c])] from aN (show ρ1 80 = _ from hR.1) (aN (show ρ1 84 = _ from hR.2.1) bZ)) rfl rfl UA UA rfl fun v w2 h hb => ⟨hb, h⟩
        refine aP (i := 6) (iG hh.sz (fm os q.ts) ov (aD (cj os q.ts))) (iG.ext) ?_ ?_
        ·intro ρ1 w1 hj hR;obtain ⟨g85, e85, o85⟩ := hR.1;exact let ⟨b, e1, s1⟩ := hR.1; a7 rfl (aK al.out (aw e1 aW)) (hmu _ w1 (hT.hp hj.hp) s1 (hj.hp.aA (i := 2) rfl) hj.hp.below) (fun _ _ ⟨g, og, hq, h3⟩ => ⟨_, hq, h3.below, g, w1, rfl, og, hj.bl.size, h3⟩)
        refine aP (i := 7) (iG hh.sz (fm os q.ts) ov (aD (cj os q.ts))) (iG.ext) ?_ ?_
        ·exact Ln
        refine aP (i := 8) (ma hh.sz (fm os q.ts) ov (aD (cj os q.ts))) (ma.ext) ?_ ?_
        ·exact M4
        refine aP (i := 9) (Is (.int .i64 (fm os q.ts))) (Is.ext) ?_ ?_
        ·exact MN
        refine aT ?_;intro f W hJ hV _;have hb_15 := hJ.bl;obtain ⟨v88, v87, v79, v86, v85, v84, v83, v82, v81, v80, _⟩ := hV;obtain ⟨g85, e85, o85⟩ : iQ 2 2 (az PX.cells [⟨ov, oA, on, oc, os⟩, q]) (f 5) W := v85;obtain ⟨g86, u86, e86, -⟩ := v86;obtain ⟨g79, u79, e79, -⟩ := v79;obtain ⟨g87, u87, e87, o87, q87, h87⟩ := v87;replace hh := JJ.Em hJ hh q87 h87;refine aY (br (ae v88 (ae e87 (ae e79 (ae e86 (ae e85 (ae v84 (ae v83 (ae v82 (ae v81 (ae v80 aX))))))))))) ?_;dsimp only [cg];clear e85 e86 e79 e87 hJ;simp only [UP, UN] at hh;obtain ⟨gv, gA, gn, gc, gts⟩ := g87;replace hh := show Hp w (.row gA gn gc 96 4 (az TR.cells gts) :: _) W from hh;by_cases hte : fm os q.ts = 0
        ·rw [UE (by rw [hte]; decide)] at hnx;rw [hte] at o87;obtain rfl : ov = gv := o87.v.symm;obtain rfl : aD (cj os q.ts) = gts := o87.ts.symm;have hgc : gn ≤ gc := hh.eM (i := 0) rfl;have hgl : (aD (cj os q.ts)).length = gn := (hh.aA (i := 0) rfl).bq TR.len UA;have hgo := ES hop hqk hqT hte Uz;refine bX hh 2 [_,_] ?_;intro ws hh;replace hh : Hp _ (_ :: _ :: .blk _ _ [_, _] _ :: _) _ := hh;refine aI (aa (sr (mI ?_)));refine cW (aa (cT (ao (mL (mI (mI ?_))))));dsimp only at hh;refine aQ rfl rfl UA (jf (lo := some (.tmp 93)) (hi := some (.tmp 94)) (l := fr) (h := en) bk.out aM.size rfl ⟨_, _, rfl, rfl⟩ ⟨_, _, rfl, rfl⟩ hfr Uz) ?_;refine mI ?_;refine bo (mL (mI ?_));refine aF (hrec m fr en _ (hT.hp hh) hh.below hfr hen hwi) al.out rfl UA ?_;rintro e_ w100 ⟨g2, og2, rfl, h4⟩;refine ⟨_, rfl, ?_⟩;replace hh := hh.join h4;simp only [UP, UN] at hh;have hs2 := hsub m;obtain ⟨hv2, hA2, hn2, hc2, ht2⟩ := g2;replace hh := show Hp w (.row hA2 hn2 hc2 96 4 (az TR.cells ht2) :: _) _ from hh;by_cases hE2 : (sub (bm p j m)).1 = 0
         ·rw [UE (by rw [hE2]; decide)] at hnx;rw [hE2] at og2;obtain rfl : ov = hv2 := og2.v.symm;obtain rfl : (sub (bm p j m)).2 = ht2 := og2.ts.symm;have ho2 := hs2 hE2;have hc2c : hn2 ≤ hc2 := hh.eM (i := 0) rfl;have hl2 : ((sub (bm p j m)).2).length = hn2 := (hh.aA (i := 0) rfl).bq TR.len UA;generalize (sub (bm p j m)).2 = us at *;refine mT ?_;refine dt ?_;refine dt ?_;refine bX hh 2 [_,_] ?_;intro ws hh;replace hh : Hp _ (_ :: _ :: .blk _ _ [_, _] _ :: _) _ := hh;refine aI (aa (ah (sr (mI ?_))));refine cW (aa (cT (ao ?_)));refine cE hh 3 [_,_] ?_;refine cE hh 2 [_,_] ?_;refine DU ?_;intro b108 w108 hh;dsimp only at hh;have hlp2 : fk [⟨ov, gA, gn, gc, aD (cj os q.ts)⟩, ⟨ov, hA2, hn2, hc2, us⟩] = 0 := ql hgo.e ho2.e rfl;have had := oS (some ⟨b108, 0, none⟩) 2 2 [⟨ov, gA, gn, gc, aD (cj os q.ts)⟩, ⟨ov, hA2, hn2, hc2, us⟩] 2000000 _ (hT.hp hh) (hh.aA (i := 0) rfl) UA (fun g hg => by
           rcases UZ.1 hg with rfl | hg
           ·exact hh.aA (i := 2) rfl
           ·rw [U4.1 hg]; exact hh.aA (i := 1) rfl) (fun g hg => by
           rcases UZ.1 hg with rfl | hg
           ·exact ⟨by have := hgo.len; show gn ≤ 1000000; omega, hgc, hgo.ok.mono Uz, hgo.sz⟩
           ·rw [U4.1 hg]; exact ⟨by have := ho2.len; show hn2 ≤ 1000000; omega, hc2c, ho2.ok.mono Uz, ho2.sz⟩) UA
          unfold Gm at had;rw [UF hlp2, KN] at had;dsimp only at had;refine aF (had) al.out rfl UA ?_;rintro e_ w109 ⟨g3, og3, rfl, h5⟩;refine ⟨_, rfl, ?_⟩;replace hh := hh.join h5;simp only [UP, UN] at hh;obtain ⟨hv3, hA3, hn3, hc3, ht3⟩ := g3;replace hh := show Hp w (.row hA3 hn3 hc3 96 4 (az TR.cells ht3) :: _) _ from hh;refine mT ?_;refine dt ?_;refine dt ?_;refine bX hh 5 [_,_] ?_;intro ws hh;replace hh : Hp _ (_ :: _ :: _ :: _ :: _ :: .blk _ _ [_, _] _ :: _) _ := hh;refine aI (aa (ao (mI (aI (aC (bE (ai (ao (mI ?_)))))))));refine dW (aI (aC (ai ?_)));replace hh := hh.sub (UG _ (UL _ (UL _ (UL _ (UL _ (UG _ (UL _ (UG _ Ve))))))));replace hh := hh.perm (VH (l₁ := [_]));simp only [UP, UN] at hh;try dsimp only at hh
          refine ⟨⟨i + 1, fr, gh (aD (cj os q.ts) ++ us), hv3, hA3, hn3, hc3, ht3, Uz, by rw [hmi2]; rfl, rfl, rfl, ?_, Uz, fun h => ⟨?_, ?_, fun t ht => by rw [← hmi]; exact hbl t ht, fun t ht => by rw [← hmi]; exact hdf t ht⟩, hh⟩, by show ((m : Int) - 1 + 1).toNat < ((m : Int) + 1).toNat; omega, ?_⟩
          ·rw [hnx];by_cases hg : gh (aD (cj os q.ts) ++ us) ≠ 0
           ·rw [UF hg]
           ·rw [UE hg]; omega
          ·have := og3.v;rw [UF h] at this;exact this
          ·rw [hnx, UE (by rw [h]; decide)];have := og3.ts;rw [UF h] at this;exact this
          ·exact dQ
         ·rw [UF hE2] at hnx;refine mT ?_;refine dt ?_;refine dt ?_;refine bX hh 2 [_,_] ?_;intro ws hh;replace hh : Hp _ (_ :: _ :: .blk _ _ [_, _] _ :: _) _ := hh;refine aI (aa (ah (sr (mI ?_))));refine cW (aa (cF (ar (ai (ao (mI (aI (aC (bE (ai (ao (mI ?_))))))))))));refine dW (aI (aC (ai ?_)));replace hh := hh.sub (UL _ (UG _ (UL _ (UG _ (UL _ (UG _ Ve))))));replace hh := hh.perm (VH (l₁ := [_]));simp only [UP, UN] at hh;refine ⟨⟨i + 1, fr, _, ov, gA, gn, gc, aD (cj os q.ts), Uz, by rw [hmi2]; rfl, rfl, rfl, by rw [hnx], Uz, fun h => absurd h hE2, hh⟩, by show ((m : Int) - 1 + 1).toNat < ((m : Int) + 1).toNat; omega, ?_⟩;exact dQ
        ·rw [UF hte] at hnx;refine bX hh 2 [_,_] ?_;intro ws hh;replace hh : Hp _ (_ :: _ :: .blk _ _ [_, _] _ :: _) _ := hh;refine aI (aa (sr (mI ?_)));refine cW (aa (cF (ar (ai (ah (sr (mI ?_)))))));refine cW (aa (cF (ar (ai (ao (mI (aI (aC (bE (ai (ao (mI ?_))))))))))));refine dW (aI (aC (ai ?_)));replace hh := hh.sub (UG _ (UL _ (UG _ (UL _ (UG _ Ve)))));replace hh := hh.perm (VH (l₁ := [_]));simp only [UP, UN] at hh;refine ⟨⟨i + 1, fr, fm os q.ts, gv, gA, gn, gc, gts, Uz, by rw [hmi2]; rfl, rfl, rfl, by rw [hnx], Uz, fun h => absurd h hte, hh⟩, by show ((m : Int) - 1 + 1).toNat < ((m : Int) + 1).toNat; omega, ?_⟩;exact dQ
    ·have hfin : bu q.ts sub p j 128 = bu q.ts sub p j i := by
      by_cases h8 : i = 128
      ·rw [h8]
      ·exact jT Uz hi
     rw [hfin];by_cases he0 : e = 0
     ·subst he0;obtain ⟨rfl, rfl, -, -⟩ := hok0 rfl;clear hok0 hfin;generalize bu q.ts sub p j i = X at *;obtain rfl : i = 128 := Uz;rw [← he];refine ah (sr (mI ?_));refine dL (mB ?_);refine gS (gS ?_);refine eV ?_;refine aa (cF (a9 (aE (aE (bC (ai (ah (sr (mI ?_)))))))));refine wV ?_;refine cE hh 0 [_,_] ?_;refine bX hh 2 [_,_] ?_;intro ws hh;replace hh : Hp _ (_ :: _ :: .blk _ _ [_, _] _ :: _) _ := hh;refine aI (aa (av ?_));refine pw ?_;exact ⟨⟨ov, oA, on, oc, _⟩, ⟨rfl, rfl⟩, rfl, hh.sub (.cons _ (UG _ (VT _)))⟩
     ·rw [← he];clear hok0 hfin;generalize bu q.ts sub p j i = X at *;by_cases h8 : i = 128
      ·subst h8;refine ah (sr (mI ?_));refine dL (mB ?_);refine gS (gS ?_);refine eV ?_;exact Sm
      ·refine ah (sr (mI ?_));refine dL (mB (gT (mI (gT ?_))));refine cW ?_;refine fO ?_;exact Sm
def cV (p : PX) (ls : List PX) : Int × List TR :=
 if p.e ≠ 0 then (p.e, []) else if (ls.length : Int) ≠ p.v then (1, []) else if ls.length ≠ 0 ∧ fk ls ≠ 0 then (fk ls, []) else ep (eZ ls) (ls.map PX.ts) 0 p.ts
theorem Cu (f : PX) (p : Addr) (x : Int) (w : World) (hp : w.cell? p = some (.int .i64 x)) :
  Calls Tryz.prog 155 #[.agg #[.int .i64 f.v, .slice f.A f.n f.c], .pointer (some p)] w fun r w' => r = .returned (.bool (decide (f.v ≠ x))) ∧ Below w.heap.size w w' := by
 have hh := Hp.start w;by_cases hg : f.v = x
 ·refine aj (N := 8) (l := [.agg #[.int .i64 f.v, .slice f.A f.n f.c], .pointer (some p)]) Tryz.func155 rfl rfl (by simp) ?_;refine sr ?_;refine cz hh [_,_] ?_;intro b2 w2 hh;refine aB (aa (sr (bH ?_)));refine bG hh 0 ?_;refine bV aM.out rfl ((hh.below.cell (lQ hp)).trans hp) UA ?_;exact Ou
 ·refine aj (N := 8) (l := [.agg #[.int .i64 f.v, .slice f.A f.n f.c], .pointer (some p)]) Tryz.func155 rfl rfl (by simp) ?_;refine sr ?_;refine cz hh [_,_] ?_;intro b2 w2 hh;refine aB (aa (sr (bH ?_)));refine bG hh 0 ?_;refine bV aM.out rfl ((hh.below.cell (lQ hp)).trans hp) UA ?_;exact OE
structure Th (p : PX) (ls : List PX) (k K T c0 : Nat) (ds : List Nat) : Prop where
 len : ds.length = ls.length
 SX : ∀ (i d : Nat), ds[i]? = some d → d ≤ 127 ∧ ∀ t ∈ p.ts, eU i t ≤ d
 grow : ff c0 ds (k + 1) ≤ 440000
 step : K + 4096 * T + 8192 ≤ c0
 top : c0 ≤ 440000
 kO : ∀ g ∈ ls, g.kO K
 NO : ∀ g ∈ ls, g.ts.length ≤ T
theorem zg {v : Int} (h : fh v ts = 0) : DD v 0 ts := by
 obtain ⟨_, _, h3, h4⟩ := cd h;exact ⟨h4.sv, h3, fun a _ b _ => by rw [WY, WY]⟩
theorem p5 (p : PX) (lA : Option Addr) (lc : Nat) (ls : List PX) (k K T c0 : Nat) (ds : List Nat) (w : World) (hT : eb w) (hp : p.at_ w) (lp : p.kO k) (hL : Sl w lA ls.length 2 (az PX.cells ls)) (hat : ∀ g ∈ ls, g.at_ w) (hlc : ls.length ≤ lc) (hf : Th p ls k K T c0 ds) :
  Calls Tryz.prog 69 #[.agg #[.int .i64 p.v, .slice p.A p.n p.c], .slice lA ls.length lc] w fun r w' => ∃ g : PX, fg (cV p ls).1 (eZ ls) (cV p ls).2 g ∧ r = .returned (.tuple #[.agg #[.int .i64 g.v, .slice g.A g.n g.c], .int .i64 (cV p ls).1]) ∧ Hp w [g.row] w' := by
 have hh := Hp.start w;have hck := fun w1 hT1 hb => mb p k w1 hT1 (hp.ext hb) lp;unfold cV;by_cases h0 : p.e ≠ 0
 ·rw [UF h0];generalize p.e = e at *;refine aj (N := 54) (l := [.agg #[.int .i64 p.v, .slice p.A p.n p.c], .slice lA ls.length lc]) Tryz.func69 rfl rfl (by simp) ?_;refine sr ?_;refine cz hh [_,_] ?_;intro b2 w2 hh;refine bW hh ?_;intro b4 w4 hh;refine aI (aa (ah (sr ?_)));refine cE hh 1 [_,_] ?_;refine eA ?_;intro w12 hh;exact Sa
 ·rw [UE h0];have hpe : p.e = 0 := Uz;rw [hpe] at hck;by_cases h1 : (ls.length : Int) ≠ p.v
  ·rw [UF h1];refine aj (N := 54) (l := [.agg #[.int .i64 p.v, .slice p.A p.n p.c], .slice lA ls.length lc]) Tryz.func69 rfl rfl (by simp) ?_;refine sr ?_;refine cz hh [_,_] ?_;intro b2 w2 hh;refine bW hh ?_;intro b4 w4 hh;refine aI (aa (ah (sr ?_)));refine cE hh 1 [_,_] ?_;refine eA ?_;intro w12 hh;refine aI (aa (sr (mI ?_)));refine sa ?_;refine bG hh 1 ?_;refine dk (aa (cT (sr ?_)));exact K2
  ·rw [UE h1];obtain ⟨hfw, h4, hmy, hca⟩ := cd hpe;replace hfw := fP.1 hfw;have hl12 : ls.length ≤ 12 := Uz;have hpl := hp.ln;have hsr := zg hpe;have hput := fun (v : Int) (hv : iw v = true) (hz : ∀ g ∈ ls, fh v g.ts = 0) (hvv : ∀ g ∈ ls, g.v = v) w1 hT1 hb => CT lA lc K T c0 v ls hv hlc hl12 (fun g hg => ⟨⟨hz g hg, (hf.kO g hg).ok, (hf.kO g hg).sz⟩, hvv g hg, hf.kO g hg, hf.NO g hg⟩) hf.step hf.top ls 0 p.ts p.A p.n p.c ds k w1 rfl (UI _) hT1 (hL.ext hb) (fun g hg => (hat g hg).ext hb) (hp.ext hb) lp.cap (by rw [show ((ls.length : Nat) : Int) = p.v by omega]; exact hsr) lp.ok Uz hf.len (fun i d h => by rw [U5]; exact hf.SX i d h) hf.grow;by_cases hn : ls = []
   ·subst hn;rw [UE (fun h => h.1 rfl)];have hpu := hput 0 rfl (fun g hg => by cases hg) (fun g hg => by cases hg);refine aj (N := 54) (l := [.agg #[.int .i64 p.v, .slice p.A p.n p.c], .slice lA 0 lc]) Tryz.func69 rfl rfl (by simp) ?_;refine sr ?_;refine cz hh [_,_] ?_;intro b2 w2 hh;refine bW hh ?_;intro b4 w4 hh;refine aI (aa (ah (sr ?_)));refine cE hh 1 [_,_] ?_;refine eA ?_;intro w12 hh;refine aI (aa (sr (mI ?_)));refine sa ?_;refine bG hh 1 ?_;refine wV ?_;refine bW hh ?_;intro b7 w7 hh;refine bX hh 0 [_] ?_;intro ws hh;replace hh : Hp _ (.blk _ _ [_] _ :: _) _ := hh;refine aa (ah (sr (mL (aJ ?_))));refine cq (aa (cF (ar (ai (sr (bH ?_))))));refine bG hh 2 ?_;refine mL ?_;refine bG hh 0 ?_;replace hh := show Hp w (.blk b7 3 [.int .i64 0] (0, 0) :: _) _ from hh;exact OD
   ·have hlp0 : 0 < ls.length := List.length_pos_iff.2 hn;obtain ⟨lad, rfl, hlr⟩ := hL.at_ hlp0;refine aj (N := 54) (l := [.agg #[.int .i64 p.v, .slice p.A p.n p.c], .slice (some lad) ls.length lc]) Tryz.func69 rfl rfl (by simp) ?_;refine sr ?_;refine cz hh [_,_] ?_;intro b2 w2 hh;refine bW hh ?_;intro b4 w4 hh;refine aI (aa (ah (sr ?_)));refine cE hh 1 [_,_] ?_;refine eA ?_;intro w12 hh;refine aI (aa (sr (mI ?_)));refine sa ?_;refine bG hh 1 ?_;refine wV ?_;refine bW hh ?_;intro b7 w7 hh;refine bX hh 0 [_] ?_;intro ws hh;replace hh : Hp _ (.blk _ _ [_] _ :: _) _ := hh;refine aa (ah (sr (mL (aJ ?_))));refine cq (aa (cT (ah (sr (mL (aJ (mI (aa (aq ?_)))))))));replace hh := show Hp w (.blk b7 3 [.int .i64 0] (0, 0) :: _) _ from hh;refine aR [5, 9, 10, 28, 29, 30, 31, 32, 33, 34, 35, 36, 37, 38] 28
     (fun v w' => ∃ i : Nat, i ≤ ls.length ∧ v = .int .i64 i ∧ (ls.take i).any (fun g => decide (g.e ≠ 0)) = false ∧ Hp w [.blk b7 3 [.int .i64 0] (0, 0), .blk b4 24 [.int .i64 0, .slice none 0 0] (0, 0), .blk b2 24 [.int .i64 p.v, .slice p.A p.n p.c] (0, 0)] w')
     (fun v _ => ls.length - (intOf v).toNat) ?_ ?_
    ·exact ⟨0, UI _, rfl, rfl, hh⟩
    ·clear hh;rintro ρ' v w' ⟨i, hi, rfl, hall, hh⟩;by_cases hlt : i < ls.length
     ·obtain ⟨g, hx⟩ := ak (l := ls) (k := i) hlt;have hmem := UJ hx;have hc := fun w1 hT1 hb => mb g K w1 hT1 ((hat g hmem).ext hb) (hf.kO g hmem);by_cases he : g.e = 0
      ·refine sr ?_;refine dH ?_;refine ct ?_;refine cw (vs := [_, _]) aM.out rfl ((hlr.ext hh.below).recAt PX.len hx) rfl UA ?_;refine bW hh ?_;intro b9 w9 hh;refine bX hh 0 [_,_] ?_;intro ws hh;replace hh : Hp _ (.blk _ _ [_, _] _ :: _) _ := hh;refine aa (sr ?_);refine cE hh 0 [_,_] ?_;refine bD hh (hc _ (hT.hp hh) hh.below) rfl ?_;intro w33 hh;refine aI (aa (sr (mI ?_)));refine dk (aa (cF (ar (bE (ai (ao ?_))))));refine bo (mI (aC (ai ?_)));replace hh := hh.sub (UL _ (UG _ (UG _ (UG _ Ve))));refine ⟨⟨i + 1, Uz, rfl, by rw [ay hx, XK, hall, XJ, XN, Vf Uz]; rfl, hh⟩, by show ls.length - (i + 1) < ls.length - i; omega, ?_⟩;exact dQ
      ·have hlk : fk ls = g.e := by unfold fk; rw [xk hall hx (U0 he)]
       rw [UF ⟨Uz, by rw [hlk]; exact he⟩, hlk];refine sr ?_;refine dH ?_;refine ct ?_;refine cw (vs := [_, _]) aM.out rfl ((hlr.ext hh.below).recAt PX.len hx) rfl UA ?_;refine bW hh ?_;intro b9 w9 hh;refine bX hh 0 [_,_] ?_;intro ws hh;replace hh : Hp _ (.blk _ _ [_, _] _ :: _) _ := hh;refine aa (sr ?_);refine cE hh 0 [_,_] ?_;refine bD hh (hc _ (hT.hp hh) hh.below) rfl ?_;intro w33 hh;refine aI (aa (sr (mI ?_)));refine dk (aa (cT (sr ?_)));refine gH [_,_] (mI ?_);refine bX hh 2 [_,_] ?_;intro ws hh;replace hh : Hp _ (_ :: _ :: .blk _ _ [_, _] _ :: _) _ := hh;refine aI (aa (av (cf (aH (aH (cf (aH (aH ?_))))))));refine pw ?_;exact PI
     ·rw [UQ Uz] at hall;have hlk : fk ls = if ls.length = 0 ∨ vC ls = true then 1 else 0 := by unfold fk; rw [iX hall]
      obtain ⟨g0, h00⟩ := ak (l := ls) (k := 0) hlp0;have hhv : eZ ls = g0.v := by
       cases ls with
       | nil => cases hlp0
       | cons x l => cases h00; rfl
      have hall0 : ∀ g ∈ ls, g.e = 0 := fun g hg => by
       have := Wb.1 hall g hg;simpa using this
      refine sr ?_;refine oe ?_;refine DE ?_;refine pe ?_;refine bV aM.out rfl (((hlr.ext hh.below).recAt PX.len h00).cell (i := 0) rfl) UA ?_;refine bX hh 0 [_] ?_;intro ws hh;replace hh : Hp _ (.blk _ _ [_] _ :: _) _ := hh;refine aa (sr (mL ?_));refine xy ?_;replace hh := show Hp w (.blk b7 3 [.int .i64 g0.v] (0, 0) :: _) _ from hh;rw [← hhv] at hh;have hcell : World.cell? _ ⟨b7, 0, none⟩ = some (.int .i64 (eZ ls)) := hh.dN (i := 0) rfl rfl;have hoa := fun w1 hb => uG (some lad) ls.length lc ls 155 [.pointer (some ⟨b7, 0, none⟩)] (fun g => decide (g.v ≠ eZ ls)) w1 (hL.ext (hh.below.trans (hb.mono hh.below.size))) Uz (fun z w2 hz hb2 => Cu z ⟨b7, 0, none⟩ (eZ ls) w2 (cL hb2 (cL hb hcell)))
      cases hod : vC ls with
      | true =>
       have hod2 : ls.any (fun g => decide (g.v ≠ eZ ls)) = true := hod;rw [hod2] at hoa;have hl1 : fk ls = 1 := by rw [hlk, UF (.inr hod)]
       rw [UF ⟨Uz, by rw [hl1]; decide⟩, hl1];refine bD hh (hoa _ (Below.refl _ _)) rfl ?_;intro w45 hh;refine aa (cT (sr ?_));refine gH [_,_] ?_;refine bX hh 1 [_,_] ?_;intro ws hh;replace hh : Hp _ (_ :: .blk _ _ [_, _] _ :: _) _ := hh;refine aI (aa (av (aH ?_)));refine DN ?_;exact ⟨PX.nil, fg.err UA, rfl, (hh.sub (VT _)).Ca⟩
      | false =>
       have hod2 : ls.any (fun g => decide (g.v ≠ eZ ls)) = false := hod;rw [hod2] at hoa;have hl0 : fk ls = 0 := by
        rw [hlk, UE (fun h => h.elim (fun h => by omega) fun h => by rw [hod] at h; cases h)]
       rw [UE (fun h => h.2 hl0)];have hvv := (yJ hl0).2.2;have hg0 := hall0 g0 (UJ h00);unfold PX.e at hg0;have hpu := hput (eZ ls) (by rw [hhv]; exact (cd hg0).1) (fun g hg => by rw [← hvv g hg]; exact hall0 g hg) hvv;refine bD hh (hoa _ (Below.refl _ _)) rfl ?_;intro w45 hh;refine wW ?_;refine bG hh 2 ?_;refine mL ?_;refine bG hh 0 ?_;exact OD
theorem Fb {o p : PX} {os ls : List PX} (hv : o.v = p.v) (ht : o.ts = p.ts) (h : os.map PX.norm = ls.map PX.norm) : cV o os = cV p ls ∧ eZ os = eZ ls := by
 have h1 : fk os = fk ls := by rw [← wy, h, wy]
 have h2 : eZ os = eZ ls := by rw [← tI, h, tI]
 have h3 : os.length = ls.length := by have := VJ List.length h; rwa [US, US] at this
 have h4 : os.map PX.ts = ls.map PX.ts := by
  have := VJ (List.map PX.ts) h;rw [VE, VE] at this;exact this
 refine ⟨?_, h2⟩;unfold cV PX.e;rw [hv, ht, h1, h2, h3, h4]
theorem je {v : Int} (hv : iw v = true) (hm : ∀ t ∈ l, dY v t = true) (ho : iu k l) (hz : ∀ t ∈ l, t.m.size ≤ 100000) (hl : l.length ≤ n) (hn : n ≤ 4096) (hk : k + n ≤ 3999990) : iZ v (k + n) (aD l) :=
 ⟨dV hv (U1 (bM _) Uz) hm, iU ho Uz Uz, j3 hz⟩
def m9 (v i : Nat) : List TR := aD [⟨kR v i, nR ((1 : Int) : Dyadic)⟩]
def k9 (v : Nat) (x : Dyadic) : List TR := aD [⟨dZ v, nR x⟩]
def th (v i : Nat) (x : Dyadic) : List TR := aD ((m9 v i).map (j4 x))
def g8 (v i : Nat) (s : SR) : List TR := aD (k9 v s.L ++ th v i (s.H - s.L))
def bj (b : List SR) : List PX := b.mapIdx fun i s => ⟨b.length, none, 0, 0, g8 b.length i s⟩
theorem eu {v : Nat} (h : v ≤ 12) : iw (v : Int) = true := fP.2 ⟨Uz, Uz⟩
theorem sI {v i : Nat} (h : v ≤ 12) : iZ (v : Int) 3 (m9 v i) := by
 have hs : ((kR v i).size : Int) = v := qK Uz;refine je (k := 2) (n := 1) (eu h) (fun t ht => ?_) (fun t ht => ?_) (fun t ht => ?_) (UH _) UA UA
 ·rw [U4.1 ht];unfold dY;rw [UX, U2];exact ⟨Bn v i, hs⟩
 ·rw [U4.1 ht];exact ⟨Sz.one.ok UA, by show Sz 2 (nR _).d; rw [bY]; exact Sz.one.mono UA⟩
 ·rw [U4.1 ht];show (kR v i).size ≤ 100000;omega
theorem sP {v : Nat} {x : Dyadic} (h : v ≤ 12) (hx : Sz k x) (hk : k ≤ 900000) : iZ (v : Int) (k + 1) (k9 v x) := qW (eu h) (by show Sz k (nR x).d; rw [bY]; exact hx) hk
theorem Ed {v i : Nat} {x : Dyadic} (h : v ≤ 12) (hx : Sz k x) (hk : k ≤ 400000) : iZ (v : Int) (k + k + 4) (th v i x) := by
 have hv := sI (i := i) h;have hl : ((m9 v i).map (j4 x)).length ≤ 1 := by rw [US]; exact bM _
 refine (je (k := 3 + k) (n := 1) (eu h) (fun t ht => ?_) (Fz hv.ok hx Uz) (fun t ht => ?_) hl UA Uz).mono (by
  by_cases h0 : k = 0
  ·omega
  ·omega)
 ·obtain ⟨s, hs, rfl⟩ := UY.1 ht;exact (cd hv.e).2.2.1 s hs
 ·obtain ⟨s, hs, rfl⟩ := UY.1 ht;exact hv.sz s hs
theorem lf {v i : Nat} {s : SR} (h : v ≤ 12) (hs : s.fin k) (hk : k ≤ 100000) : iZ (v : Int) (k + k + 10) (g8 v i s) ∧ (g8 v i s).length ≤ 2 := by
 have h1 := sP h (SR.MX hs) Uz;have h2 := Ed (i := i) h ((SR.QY hs).sub (SR.MX hs)) Uz;have hl : (k9 v s.L ++ th v i (s.H - s.L)).length ≤ 2 := by
  rw [UM];have a1 : (k9 v s.L).length ≤ 1 := bM _;have a2 : (th v i (s.H - s.L)).length ≤ 1 := U1 (bM _) (by rw [US]; exact bM _);omega
 have hm : ∀ {P : TR → Prop}, (∀ t ∈ k9 v s.L, P t) → (∀ t ∈ th v i (s.H - s.L), P t) → ∀ t ∈ k9 v s.L ++ th v i (s.H - s.L), P t := fun a b t ht => (Vk.1 ht).elim (a t) (b t);refine ⟨(je (k := k + 1 + (k + 1) + 4) (n := 2) (eu h) (hm (cd h1.e).2.2.1 (cd h2.e).2.2.1) (hm (h1.ok.mono Uz) h2.ok) (hm h1.sz h2.sz) hl UA Uz).mono Uz, U1 (bM _) hl⟩
theorem fK {b : List SR} {i : Nat} {s : SR} (h : b[i]? = some s) : (bj b)[i]? = some ⟨b.length, none, 0, 0, g8 b.length i s⟩ := by
 unfold bj;rw [Xx, h]
 rfl
theorem iY (b : List SR) : (bj b).length = b.length := by unfold bj; rw [List.length_mapIdx]
theorem CK {b : List SR} {g : PX} (h : g ∈ bj b) : ∃ i s, b[i]? = some s ∧ g = ⟨b.length, none, 0, 0, g8 b.length i s⟩ := by
 obtain ⟨i, hi⟩ := V6.1 h;obtain ⟨s, hs⟩ := ak (l := b) (k := i) (by have := (UW.1 hi).1; rwa [iY] at this);rw [fK hs] at hi;exact ⟨i, s, hs, (Vl hi).symm⟩
theorem Od {i : Nat} (h : n ≤ 12) (hi : i < n) : uI n i = 0 := UE (by rw [eu h]; rintro (a | a | a) <;> first | cases a | omega)
theorem Oj (h : n ≤ 12) : Ah n = 0 := UE (by rw [eu h]; decide)
theorem xX (p : PX) (L : Option Addr) (n c : Nat) (b : List SR) (k : Nat) (ds : List Nat) (w : World) (hT : eb w) (hp : p.at_ w) (lp : p.kO k) (hB : Sl w L n 6 (az SR.cells b)) (hb : ∀ s ∈ b, s.fin k) (hv : p.v = n) (hn0 : 0 < n) (hn : n ≤ 12) (hk : k ≤ 1000)
  (hds : ds.length = n) (hex : ∀ (i d : Nat), ds[i]? = some d → d ≤ 127 ∧ ∀ t ∈ p.ts, eU i t ≤ d) (hgr : ff (k + k + 16394) ds (k + 1) ≤ 440000) :
  Calls Tryz.prog 88 #[.agg #[.int .i64 p.v, .slice p.A p.n p.c], .slice L n c] w fun r w' => ∃ g : PX, fg (cV p (bj b)).1 n (cV p (bj b)).2 g ∧ r = .returned (.tuple #[.agg #[.int .i64 g.v, .slice g.A g.n g.c], .int .i64 (cV p (bj b)).1]) ∧ Hp w [g.row] w' := by
 have hh := Hp.start w;have hbl : b.length = n := hB.bq SR.len UA;have hok : ∀ s ∈ b, s.ok := fun s hs => ⟨(hb s hs).1.ok, (hb s hs).2.ok⟩;have hfo := fun w1 hT1 hb1 => rQ L n c b w1 hT1 (hB.ext hb1) hok Uz;have hhv : eZ (bj b) = n := by
  obtain ⟨s, hs⟩ := ak (l := b) (k := 0) Uz;rw [kg (fK hs), hbl]
 refine aj (N := 67) (l := [.agg #[.int .i64 p.v, .slice p.A p.n p.c], .slice L n c]) Tryz.func88 rfl rfl (by simp) ?_;refine sr ?_;refine cz hh [_,_] ?_;intro b2 w2 hh;refine bW hh ?_;intro b4 w4 hh;refine aI (aa (sr (aL (aa (ah (sr (mL ?_)))))));refine aF (hfo _ (hT.hp hh) hh.below) al.out rfl UA ?_;rintro e_ w18 ⟨A18, c18, rfl, hown_, hb_⟩;refine ⟨_, rfl, ?_⟩;replace hh := hh.aV (x := .row _ _ _ _ _ _) hb_ hown_;refine aJ (mI (aa (aq ?_)));replace hh := hh.cY 24 2;refine bK [6, 7, 8, 9, 10, 11, 12, 13, 14, 15, 16, 20, 21, 22, 23, 24, 25, 26, 27, 28, 29, 30, 31, 32, 33, 34, 35, 36, 37, 38, 39, 40, 41, 42, 43, 44, 45, 46, 47, 48, 49, 50, 51, 52, 53, 54, 55, 56, 57, 58, 59, 60, 61] 6 20
  (fun a v w' => ∃ (i c3 : Nat) (A : Option Addr) (os : List PX) (R : List HE), i ≤ n ∧ v = .int .i64 i ∧ a = .slice A i c3 ∧ os.length = i ∧ AR ((bj b).map fun g => ⟨g.v, none, g.ts.length, 0, g.ts⟩) os R ∧ Hp w (.row A i c3 24 2 (az PX.cells os) :: .row A18 n c18 81 6 (az SR.cells (b.map SR.f)) :: .blk b4 24 [.int .i64 0, .slice none 0 0] (0, 0) :: .blk b2 24 [.int .i64 p.v, .slice p.A p.n p.c] (0, 0) :: R) w')
  (fun _ v _ => n - (intOf v).toNat) ?_ ?_
 ·exact RJ
 ·clear hh;rintro ρ' a_ v w' ⟨i, c3, A, os, R, hi, rfl, rfl, hol, hcp, hh⟩;by_cases hlt : i < n
  ·obtain ⟨s, hs⟩ := ak (l := b) (k := i) Uz;have hsf := hb s (UJ hs);have hsn : (b.map SR.f)[i]? = some s.f := by rw [UO, hs]; rfl
   have zL := SR.MX hsf;have zH := SR.QY hsf;have zW := zH.sub zL;obtain ⟨po, pl⟩ := lf (v := n) (i := i) hn hsf Uz;have vo := sI (i := i) hn;have fo := Ed (i := i) hn zW Uz;have co := sP hn zL Uz;have hva := fun w1 hT1 => uR (n : Int) (i : Int) w1 hT1;rw [Od hn hlt] at hva;have hsu := fun w1 hT1 => j5 (nR s.H) (nR s.L) w1 hT1 (zH.ok Uz) (zL.ok Uz) k (by rw [bY]; exact zH) (by rw [bY]; exact zL) Uz;rw [bY, bY] at hsu;have hcn := fun w1 hT1 => jP (n : Int) (nR s.L) k w1 hT1 ⟨zL.ok Uz, by rw [bY]; exact zL⟩ Uz;rw [Oj hn] at hcn;rw [V8] at hva;have hV : aD [⟨kR n i, nR ((1 : Int) : Dyadic)⟩] = m9 n i := rfl;have hC : aD [⟨dZ n, nR s.L⟩] = k9 n s.L := rfl;have hF : aD ((m9 n i).map (j4 (s.H - s.L))) = th n i (s.H - s.L) := rfl;have hP : aD (k9 n s.L ++ th n i (s.H - s.L)) = g8 n i s := rfl;have tl1 : (m9 n i).length ≤ 1 := bM _;have ul1 : (k9 n s.L).length ≤ 1 := bM _;have fl1 : (th n i (s.H - s.L)).length ≤ 1 := U1 (bM _) (by rw [US]; exact bM _);have hps := fK hs;rw [hbl] at hps;rw [hV] at hva;rw [hC] at hcn;clear hV hC;generalize m9 n i = VL at *;generalize k9 n s.L = CL at *;generalize th n i (s.H - s.L) = FL at *;generalize g8 n i s = PL at *
   obtain ⟨gf, rfl⟩ := hh.cN (i := 1) rfl Uz;refine sr ?_;refine eh ?_;refine gD ?_;refine cw (vs := [_, _, _, _, _, _]) aM.out rfl (hh.iF (f := SR.cells) (x := s.f) (l := b.map SR.f) (i := 1) rfl SR.len UA hsn) rfl UA ?_;refine bW hh ?_;intro b8 w8 hh;refine aI ?_;refine bX hh 0 [_,_,_,_,_,_] ?_;intro ws hh;replace hh : Hp _ (.blk _ _ [_, _, _, _, _, _] _ :: _) _ := hh;refine aa (sr (mL (aJ (mI ?_))));replace hh := show Hp w (.blk b8 81 [.bool (nR s.L).neg, .string (nR s.L).bA, .int .i64 (nR s.L).e, .bool (nR s.H).neg, .string (nR s.H).bA, .int .i64 (nR s.H).e] (0, 0) :: _) _ from hh;refine aF (hva _ (hT.hp hh)) al.out rfl UA ?_;rintro e_ w29 ⟨t, ot, rfl, h4⟩;refine ⟨_, rfl, ?_⟩;have htc : t.n ≤ t.c := h4.eM (i := 0) rfl;replace hh := hh.join h4;clear h4;simp only [UP, UN] at hh;obtain ⟨tv, tA, tn, tc, tt⟩ := t;replace hh := show Hp w (.row tA tn tc 96 4 (az TR.cells tt) :: _) _ from hh;have et : VL = tt := ot.t0.symm;have ev_ : tv = (n : Int) := ot.v0;subst et ev_;have tln : VL.length = tn := (hh.aA (i := 0) rfl).bq TR.len UA
   have hsc := fun w1 hT1 ha => pS ⟨n, tA, tn, tc, VL⟩ (nR (s.H - s.L)) (k + 3) w1 hT1 ha ⟨by show tn ≤ 1000000; omega, htc, vo.ok.mono Uz, vo.sz⟩ ⟨zW.ok Uz, by rw [bY]; exact zW.mono Uz⟩ Uz;have hse : Bv ⟨n, tA, tn, tc, VL⟩ (s.H - s.L) = 0 := by
    unfold Bv PX.e;rw [vo.e, UF rfl];exact gY (by rw [US]; show VL.length ≤ 4096; omega)
   rw [bY, hse] at hsc;dsimp only at hsc;rw [hF] at hsc;refine mT ?_;refine dt ?_;refine dt ?_;refine bW hh ?_;intro b9 w9 hh;refine bX hh 0 [_,_] ?_;intro ws hh;replace hh : Hp _ (.blk _ _ [_, _] _ :: _) _ := hh;refine aI (aa (ah ?_));refine dX [10] [9] [0, 0, 2, 0, 8, 30, 63, 127, 255, 255, 0, 1535, 4095] 11 [[(9, none)], [(8, none)], [(34, some 1)], [(8, none)], [(36, some 3)], [(35, some 2), (37, some 4)], [(33, some 0), (38, some 5)], [(39, some 6)], [(32, some 7)], [(32, some 7)], []] [(10, 11), (9, 41), (8, 40), (7, 32), (6, 39), (5, 38), (4, 37), (3, 36), (2, 35), (1, 34), (0, 33)] hh mixed UB (qJ rfl aM.out eO) rfl (by repeat (first | exact cA | refine bR ?_ | refine cB ?_)) ?_;refine fS 0 [_,_] ?_;refine ef ?_;refine fS 2 [_,_,_] ?_;refine ef ?_;refine fS 2 [_,_,_] ?_;refine dC (fun _ hj => hsu _ (hT.hp hj.hp)) ?_;refine aP (i := 6) (iG hh.sz 0 n FL) (iG.ext) ?_ ?_
   ·intro ρ1 w1 hj hR;exact a7 rfl (aK al.out (aw (show ρ1 33 = Value.agg (List.toArray _) from hR.1) (aw (show ρ1 38 = Value.agg (List.toArray _) from hR.2.1) aW))) (hsc w1 (hT.hp hj.hp) (hj.hp.aA (i := 1) rfl)) (fun _ _ ⟨g, og, hq, h3⟩ => ⟨_, hq, h3.below, g, w1, rfl, og, hj.bl.size, h3⟩)
   refine aP (i := 7) (iG hh.sz 0 n FL) (iG.ext) ?_ ?_
   ·exact Ln
   refine aP (i := 8) (j2 hh.sz 0 n FL) (j2.ext) ?_ ?_
   ·exact M4
   refine aP (i := 9) (Is (.int .i64 0)) (Is.ext) ?_ ?_
   ·exact MN
   refine aP (i := 10) (dw _ 24 _) dw.ext (fun ρ1 w1 hj hR => kd aM.out hj.bl (fun v w2 h hb => ⟨hb, h⟩)) ?_;refine aT ?_;intro f W hJ hV _;have hb_6 := hJ.bl;obtain ⟨v11, v41, v40, v32, v39, v38, v37, v36, v35, v34, v33, _⟩ := hV;obtain ⟨g39, u39, e39, -⟩ := v39;obtain ⟨g32, u32, e32, -⟩ := v32;obtain ⟨g40, u40, e40, o40, q40, h40⟩ := v40;obtain ⟨b11, e11, hl11, hc11⟩ : dw _ _ _ (f 10) W := v11;replace hh := hJ.rf hh hl11 hc11 q40 h40 (PX.ne h40 hc11 UA);refine aY (br (ae e11 (ae v41 (ae e40 (ae e32 (ae e39 (ae v38 (ae v37 (ae v36 (ae v35 (ae v34 (ae v33 aX)))))))))))) ?_;dsimp only [cg];clear e39 e32 e40 e11 hJ;simp only [UP, UN] at hh;obtain ⟨fv, fA, fn, fc, ft⟩ := g40;replace hh := show Hp w (_ :: .row fA fn fc 96 4 (az TR.cells ft) :: _) W from hh;have et : FL = ft := o40.t0.symm;have ev_ : fv = (n : Int) := o40.v0;subst et ev_;have fln : FL.length = fn := (hh.aA (i := 1) rfl).bq TR.len UA;have fcc : fn ≤ fc := hh.eM (i := 1) rfl;refine bX hh 0 [_,_] ?_;intro ws hh;replace hh : Hp _ (.blk _ _ [_, _] _ :: _) _ := hh;refine aI (aa (sr (mL (aJ (bH ?_)))));refine cE hh 4 [_,_,_] ?_;refine aF (hcn _ (hT.hp hh)) al.out rfl UA ?_
   rintro e_ w47 ⟨u, ou, rfl, h4⟩;refine ⟨_, rfl, ?_⟩;have huc : u.n ≤ u.c := h4.eM (i := 0) rfl;replace hh := hh.join h4;clear h4;simp only [UP, UN] at hh;obtain ⟨uv, uA, un, uc, ut⟩ := u;replace hh := show Hp w (.row uA un uc 96 4 (az TR.cells ut) :: _) _ from hh;have et : CL = ut := ou.t0.symm;have ev_ : uv = (n : Int) := ou.v0;subst et ev_;have uln : CL.length = un := (hh.aA (i := 0) rfl).bq TR.len UA;refine mT ?_;refine dt ?_;refine dt ?_;refine bW hh ?_;intro b13 w13 hh;refine bX hh 0 [_,_] ?_;intro ws hh;replace hh : Hp _ (.blk _ _ [_, _] _ :: _) _ := hh;refine aI (aa (sr ?_));refine cE hh 0 [_,_] ?_;refine cE hh 2 [_,_] ?_;refine DU ?_;intro b53 w53 hh;have hlp : fk [⟨n, uA, un, uc, CL⟩, ⟨n, fA, fn, fc, FL⟩] = 0 := ql co.e fo.e rfl;have had := fun A3 w1 hT1 hS1 s1 s2 => oS A3 2 2 [⟨n, uA, un, uc, CL⟩, ⟨n, fA, fn, fc, FL⟩] (k + k + 10) w1 hT1 hS1 UA (fun g hg => by
    rcases UZ.1 hg with rfl | hg
    ·exact s1
    ·rw [U4.1 hg]; exact s2) (fun g hg => by
    rcases UZ.1 hg with rfl | hg
    ·exact ⟨by show un ≤ 1000000; omega, huc, co.ok.mono Uz, co.sz⟩
    ·rw [U4.1 hg]; exact ⟨by show fn ≤ 1000000; omega, fcc, fo.ok.mono Uz, fo.sz⟩) Uz
   unfold Gm at had;rw [UF hlp, KN] at had;dsimp only at had;rw [hP] at had;rw [gY (l := CL ++ FL) (by rw [UM]; omega)] at had;refine aF (had _ _ (hT.hp hh) (hh.aA (i := 0) rfl) (hh.aA (i := 2) rfl) (hh.aA (i := 4) rfl)) al.out rfl UA ?_;rintro e_ w54 ⟨z, oz, rfl, h4⟩;refine ⟨_, rfl, ?_⟩;have hzc : z.n ≤ z.c := h4.eM (i := 0) rfl;replace hh := hh.join h4;clear h4;simp only [UP, UN] at hh;replace hh := show Hp w (.row z.A z.n z.c 96 4 (az TR.cells z.ts) :: _) _ from hh;have zln : z.ts.length = z.n := (hh.aA (i := 0) rfl).bq TR.len UA;refine mT ?_;refine dt ?_;refine dt ?_;refine bW hh ?_;intro b15 w15 hh;refine bX hh 0 [_,_] ?_;intro ws hh;replace hh : Hp _ (.blk _ _ [_, _] _ :: _) _ := hh;refine aI (aa (ao (mL ?_)));refine cE hh 0 [_,_] ?_;refine cR hh (cs := [_, _]) bk.out aM.out (aN (gU rfl) bZ) rfl rfl UA UA UA rfl UA ?_;intro b59 w59 hh;refine cH hh (i := 11) rfl rfl rfl (hh.aA (i := 0) rfl) bk.out aM.out rfl UA (by first | rfl | exact dz _ | exact dh _ | exact bT _ | exact ck NR.one _) Uz Uz UA ?_;intro A60 c60 w60 hh;simp only [UU, Vp] at hh;replace hh := hh.sub (Vs _ _)
   refine kK ?_;refine bo (mI (aC (ai ?_)));replace hh := hh.sub (UL _ (UG _ (UL _ (UL _ (UL _ (UL _ (UL _ (UL _ (UL _ (UL _ (UG _ (UG _ (UG _ (UG _ (VX _)))))))))))))));replace hh := hh.perm (VH (l₁ := [_, _, _, _]));simp only [UP, UN] at hh;replace hh := hh.perm (VH (l₁ := [_, _, _, _]));simp only [UP, UN] at hh;replace hh := hh.perm (VH (l₁ := [_, _, _, _]));simp only [UP, UN] at hh;replace hh := hh.perm (VH (l₁ := [_, _, _, _]));simp only [UP, UN] at hh;have hcp2 := hcp.add (g := ⟨n, none, PL.length, 0, PL⟩) (o := z) (by rw [hol, UO, hps]; rfl) ⟨oz.v0, oz.t0, by rw [← zln, oz.t0]⟩ hzc;refine ⟨⟨i + 1, c60, A60, os ++ [z], z.row :: R, Uz, rfl, rfl, by rw [UM, hol]; rfl, hcp2, by rw [bU, jv]; exact hh⟩, by show n - (i + 1) < n - i; omega, ?_⟩
   exact dQ
  ·obtain rfl : i = n := Uz;have hol2 : os.length = ((bj b).map fun g => (⟨g.v, none, g.ts.length, 0, g.ts⟩ : PX)).length := by rw [US, iY]; omega
   have hkey := hcp.key hol2;rw [VE] at hkey;replace hkey : os.map PX.norm = (bj b).map PX.norm := hkey;obtain ⟨ks, kh⟩ := Fb (o := p) (p := p) rfl rfl hkey;have hall : ∀ o ∈ os, o.kO (k + k + 10) ∧ o.ts.length ≤ 2 := fun o ho => by
    obtain ⟨j, hj⟩ := V6.1 ho;have hjn : j < os.length := (UW.1 hj).1;obtain ⟨s, hs⟩ := ak (l := b) (k := j) Uz;obtain ⟨e1, e2, e3⟩ := hcp.eq j ⟨b.length, none, (g8 b.length j s).length, 0, g8 b.length j s⟩ o (by rw [UO, fK hs]; rfl) hj;obtain ⟨po, pl⟩ := lf (v := b.length) (i := j) Uz (hb s (UJ hs)) Uz;replace e2 : o.ts = g8 b.length j s := e2;replace e3 : o.n = (g8 b.length j s).length := e3;exact ND
   have hfit : Th p os k (k + k + 10) 2 (k + k + 16394) ds := ⟨Uz, hex, hgr, Uz, Uz, fun g hg => (hall g hg).1, fun g hg => (hall g hg).2⟩;have hsu := fun w1 hT1 ha hs hm hc => p5 p A c3 os k (k + k + 10) 2 (k + k + 16394) ds w1 hT1 ha lp hs hm hc hfit;rw [ks, kh, hhv, hol] at hsu;generalize (cV p (bj b)).1 = E at *;generalize (cV p (bj b)).2 = S at *;refine sr ?_;refine mM ?_;refine cE hh 3 [_,_] (mL ?_);refine aF (hsu _ (hT.hp hh) (hp.ext hh.below) (hh.aA (i := 0) rfl) (fun z hz => D6 hh (UT _ (UT _ (UT _ (UT _ (hcp.my z hz).1))))) (hh.eM (i := 0) rfl)) al.out rfl UA ?_;rintro e_ w64 ⟨g, og, rfl, h4⟩;refine ⟨_, rfl, ?_⟩;replace hh := hh.join h4;clear h4;simp only [UP, UN] at hh;refine dt ?_;refine dt ?_;refine bX hh 3 [_,_] ?_;intro ws hh;replace hh : Hp _ (_ :: _ :: _ :: .blk _ _ [_, _] _ :: _) _ := hh;refine aI (aa (av ?_));refine HZ ?_;exact Lg
def dM (i : Nat) (f : ByteArray → Dyadic) (m : ByteArray) : Dyadic :=
 match m.data.toList[i]? with | some e => ((e.toNat : Int) : Dyadic) * f (str (m.data.toList.set i (e - 1))) | none => 0
theorem Oy {i : Nat} {f : ByteArray → Dyadic} {m : ByteArray} {e : UInt8} (h : m.data.toList[i]? = some e) : dM i f m = ((e.toNat : Int) : Dyadic) * f (str (m.data.toList.set i (e - 1))) := by
 unfold dM; rw [h]
theorem L5 {i : Nat} {f : ByteArray → Dyadic} {m : ByteArray} (h : m.data.toList[i]? = none) : dM i f m = 0 := by
 unfold dM; rw [h]
theorem LF (i : Nat) (f : ByteArray → Dyadic) (l : List TR) : wS f (jx i l) = wS (dM i f) l := by
 induction l with
 | nil => rfl
 | cons t l ih =>
  rw [wS, ← ih];unfold jx;rw [Wm]
  cases he : t.m.data.toList[i]? with
  | none =>
   rw [L5 he, show nU i t = none by unfold nU; rw [he], Xc, WH]
  | some e =>
   rw [Oy he];by_cases h0 : e.toNat = 0
   ·rw [show nU i t = none by unfold nU; rw [he]; exact UF h0, h0];show _ = t.c.d * ((0 : Dyadic) * _) + _;rw [W8, Xc, WH]
   ·rw [show nU i t = some ⟨str (t.m.data.toList.set i (e - 1)), nR (t.c.d * ((e.toNat : Int) : Dyadic))⟩ by unfold nU; rw [he]; exact UE h0];show wS f (_ :: _) = _;rw [wS];show (nR _).d * _ + _ = _;rw [bY, Dyadic.mul_assoc]
theorem NN {f g : ByteArray → Dyadic} (h : ∀ t ∈ l, f t.m = g t.m) : wS f l = wS g l := by
 induction l with
 | nil => rfl
 | cons t l ih => rw [wS, wS, h t UR, ih fun s hs => h s (UT _ hs)]
theorem EE {a b : List UInt8} (ha : ek a = true) (hb : ek b = true) (hl : b.length = a.length) (h : (List.zipWith (· + ·) (ints a) (ints b)).all cC = true) : mulL a b = ((List.zipWith (· + ·) (ints a) (ints b)).map xK, 0) := by
 unfold mulL;rw [MT ha hb hl];show (Ig _, LC _) = _;rw [(qy h).1, (qy h).2]
theorem Km {a b : List UInt8} (h : (mulL a b).2 = 0) : (List.zipWith (· + ·) (ints a) (ints b)).all cC = true := by
 obtain ⟨_, _, _, h4, h5⟩ := nI h;rw [← h5];exact ME h4
theorem Lk {a b : ByteArray} {i : Nat} {x y : UInt8} (h : m8 a b = 0) (hx : a.data.toList[i]? = some x) (hy : b.data.toList[i]? = some y) : (mulM a b).data.toList[i]? = some (xK ((x.toNat : Int) + y.toNat)) ∧ (xK ((x.toNat : Int) + y.toNat)).toNat = x.toNat + y.toNat := by
 obtain ⟨h1, h2, h3, _, _⟩ := nI h;have hall := Km h;have hiy : (ints b.data.toList)[i]? = some (y.toNat : Int) := by unfold ints; rw [UO, hy]; rfl
 have hix : (ints a.data.toList)[i]? = some (x.toNat : Int) := by unfold ints; rw [UO, hx]; rfl
 have hzz := IJ (f := fun (x y : Int) => x + y) hix hiy;have hxy : cC ((x.toNat : Int) + y.toNat) = true := Vb.1 hall _ (UJ hzz);have e1 := sH hxy;injection e1 with _ e1
 refine ⟨?_, Uz⟩;unfold mulM;rw [cP, EE h1 h2 h3 hall, UO, hzz]
 rfl
def lK (B : Nat → Nat) (l : List TR) : Prop := ∀ t ∈ l, ∀ i, eU i t ≤ B i
theorem lK.mono {B C : Nat → Nat} (h : lK B l) (hb : ∀ i, B i ≤ C i) : lK C l := fun t ht i => U1 (h t ht i) (hb i)
theorem OX {s t : TR} (h : s.m = t.m) (i : Nat) : eU i s = eU i t := by unfold eU; rw [h]
theorem lK.aD {B : Nat → Nat} {l : List TR} (h : lK B l) : lK B (aD l) := fun t ht i => by
 obtain ⟨s, hs, e⟩ := fj t ht;rw [← OX e i];exact h s hs i
theorem lK.append {B : Nat → Nat} {k : List TR} (h : lK B l) (h2 : lK B k) : lK B (l ++ k) := fun t ht => (Vk.1 ht).elim (h t) (h2 t)
theorem lK.prod {B C : Nat → Nat} {q : List TR} (hp : lK B p) (hq : lK C q) (h : ∀ e ∈ rZ p q, e = 0) : lK (fun i => B i + C i) (cj p q) := fun t ht i => by
 obtain ⟨x, hx, ht⟩ := WI.1 ht;obtain ⟨y, hy, rfl⟩ := UY.1 ht;have hz : m8 x.m y.m = 0 := h _ (WI.2 ⟨x, hx, UY.2 ⟨y, hy, rfl⟩⟩)
 cases ha : x.m.data.toList[i]? with
 | none =>
  have hl := DC hz;have hx0 := List.getElem?_eq_none_iff.1 ha;have e : (rF x y).m.data.toList[i]? = none := by
   show (str _).data.toList[i]? = none;rw [cP];exact Vd (by rw [hl]; exact hx0)
  unfold eU;rw [e];exact UI _
 | some a =>
  obtain ⟨_, _, h3, _, _⟩ := nI hz;have hlt := (UW.1 ha).1;obtain ⟨b, hb⟩ := ak (l := y.m.data.toList) (k := i) Uz;obtain ⟨e1, e2⟩ := Lk hz ha hb;rw [mX (t := rF x y) e1, e2];have h1 := hp x hx i;have h2 := hq y hy i;rw [mX ha] at h1;rw [mX hb] at h2;show a.toNat + b.toNat ≤ B i + C i;omega
theorem p6 {q p : List TR} {sub : List TR → Int × List TR} {j D : Nat} {E : Nat → Nat} (hq : lK (fun x => if x = j then 1 else 0) q) (hD : ∀ t ∈ p, eU j t ≤ D) (hE : E j = 0) (hs : ∀ n, (sub (bm p j n)).1 = 0 → lK E (sub (bm p j n)).2) :
  ∀ i, i ≤ 128 → (bu q sub p j i).1 = 0 → lK (fun x => if x = j then i + D - 128 else E x) (bu q sub p j i).2
 | 0, _, _ => fun t ht => (nomatch ht)
 | i + 1, hi, h0 => by
  have h1 : (bu q sub p j i).1 = 0 := by
   refine Wz fun c => ?_;rw [jT c (Nat.le_succ i)] at h0;exact c h0
  have ih := p6 hq hD hE hs i Uz h1;have hsb : ∀ n, (sub (bm p j n)).1 = 0 → lK (fun x => if x = j then i + 1 + D - 128 else E x) (sub (bm p j n)).2 := fun n hn => (hs n hn).mono fun x => by
   by_cases hx : x = j
   ·rw [UF hx, hx, hE]; exact UI _
   ·rw [UE hx]; exact UH _
  have hpr : fm (bu q sub p j i).2 q = 0 → lK (fun x => if x = j then i + 1 + D - 128 else E x) (aD (cj (bu q sub p j i).2 q)) := fun ht => by
   by_cases hlow : i + D ≤ 127
   ·rw [g7 hD i hlow];exact fun t ht => (nomatch ht)
   ·refine ((ih.prod hq (kr ht).2.1).mono fun x => ?_).aD;by_cases hx : x = j
    ·rw [UF hx, UF hx, UF hx]; omega
    ·rw [UE hx, UE hx, UE hx]; omega
  rw [jc] at h0 ⊢;unfold ic at h0 ⊢;rw [UE (fun h => h h1)] at h0 ⊢;by_cases c1 : (bu q sub p j i).2.length = 0 ∧ (bm p j (127 - i)).length = 0
  ·rw [UF c1, W9.1 c1.1];exact fun t ht => (nomatch ht)
  ·rw [UE c1] at h0 ⊢;by_cases c2 : fm (bu q sub p j i).2 q ≠ 0
   ·rw [UF c2] at h0; exact absurd h0 c2
   ·rw [UE c2] at h0 ⊢;by_cases c3 : (sub (bm p j (127 - i))).1 ≠ 0
    ·rw [UF c3] at h0; exact absurd h0 c3
    ·rw [UE c3] at h0 ⊢;by_cases c4 : gh (aD (cj (bu q sub p j i).2 q) ++ (sub (bm p j (127 - i))).2) ≠ 0
     ·rw [UF c4] at h0; exact absurd h0 c4
     ·rw [UE c4];exact ((hpr Uz).append (hsb _ Uz)).aD
theorem tU (v : Int) (c : NR) : lK (fun _ => 0) [⟨dZ v, c⟩] := fun t ht i => by
 rw [U4.1 ht]
 cases he : (⟨dZ v, c⟩ : TR).m.data.toList[i]? with
 | none => unfold eU; rw [he]; exact UH _
 | some e =>
  rw [mX he];have hm := UJ he;replace hm : e ∈ (List.replicate v.toNat (0 : UInt8)) := by simpa [dZ] using hm
  rw [(List.mem_replicate.1 hm).2];exact UH _
theorem yQ {v : Int} : ∀ (qs : List (List TR)) (j : Nat) (p : List TR) (D : Nat → Nat), (∀ (i : Nat) (q : List TR), qs[i]? = some q → lK (fun x => if x = j + i then 1 else 0) q) → (∀ t ∈ p, ∀ i, i < qs.length → eU (j + i) t ≤ D (j + i)) → (ep v qs j p).1 = 0 → lK (fun x => if j ≤ x ∧ x < j + qs.length then D x else 0) (ep v qs j p).2 := by
 intro qs
 induction qs with
 | nil =>
  intro j p D _ _ _;exact (tU v _).aD.mono fun x => UI _
 | cons q qs ih =>
  intro j p D hq hp h0;have hsub : ∀ n, (ep v qs (j + 1) (bm p j n)).1 = 0 → lK (fun x => if j + 1 ≤ x ∧ x < j + 1 + qs.length then D x else 0) (ep v qs (j + 1) (bm p j n)).2 := fun n hn => by
   refine ih (j + 1) (bm p j n) D (fun i r hr => ?_) (fun t ht i hi => ?_) hn
   ·have := hq (i + 1) r (by simpa using hr);rwa [show j + 1 + i = j + (i + 1) by omega]
   ·exact Ra
  have hq0 : lK (fun x => if x = j then 1 else 0) q := hq 0 q rfl;have hD : ∀ t ∈ p, eU j t ≤ D j := fun t ht => hp t ht 0 (by rw [U7]; omega);generalize hgen : ep v qs (j + 1) = sub at hsub;have e : ∀ m, m = 128 → (bu q sub p j m).1 = 0 → lK (fun x => if j ≤ x ∧ x < j + (q :: qs).length then D x else 0) (bu q sub p j m).2 := fun m hm h => by
   refine (p6 hq0 hD (E := fun x => if j + 1 ≤ x ∧ x < j + 1 + qs.length then D x else 0) (by rw [UE Uz]) hsub m Uz h).mono fun x => ?_;rw [U7];by_cases hx : x = j
   ·rw [UF hx, UF Uz, hx]; omega
   ·rw [UE hx];by_cases h2 : j + 1 ≤ x ∧ x < j + 1 + qs.length
    ·rw [UF h2, UF Uz]; exact UH _
    ·rw [UE h2]; exact UI _
  have e2 : ep v (q :: qs) j p = bu q sub p j 128 := by rw [← hgen]; rfl
  rw [e2] at h0 ⊢;exact e 128 rfl h0
theorem Si {i : Nat} {t : TR} (h : t ∈ l) : mn t.m i ≤ Bl l i := by
 induction l using jo with
 | h0 => cases h
 | hs l x ih =>
  rw [ue]
  rcases Vk.1 h with h | h
  ·have := ih h; omega
  ·rw [U4.1 h]; omega
theorem FF {i : Nat} {B : Int} (hB : 0 ≤ B) (h : ∀ t ∈ l, mn t.m i ≤ B) : 0 ≤ Bl l i ∧ Bl l i ≤ B := by
 induction l using jo with
 | h0 => exact ⟨Int.le_refl _, hB⟩
 | hs l x ih =>
  rw [ue];have h1 := ih fun t ht => h t (WB _ ht);have h2 := h x (Wp _ UR);omega
theorem z6 (t : TR) (i : Nat) : (eU i t : Int) = mn t.m i := by
 unfold eU mn
 cases t.m.data.toList[i]? <;> rfl
def cS (v : Int) (ts : List TR) : List Nat := (qO v ts).map Int.toNat
theorem jI {v : Int} (h : fh v ts = 0) : qO v ts = bI (cS v ts) ∧ (cS v ts).length = v.toNat ∧ ∀ (i d : Nat), (cS v ts)[i]? = some d → d ≤ 127 ∧ (∀ t ∈ ts, eU i t ≤ d) ∧ ((d : Int) = Bl ts i) := by
 obtain ⟨_, _, hm, _⟩ := cd h;have hd : qO v ts = mr v.toNat ts := UF h;have hb : ∀ t ∈ ts, ∀ i, mn t.m i ≤ 127 := fun t ht i => by
  have h1 := hm t ht;unfold dY at h1;rw [UX] at h1;unfold mn
  cases he : t.m.data.toList[i]? with
  | none => decide
  | some e => have := sX h1.1 he; show ((e.toNat : Nat) : Int) ≤ 127; omega
 refine ⟨?_, by unfold cS; rw [US, hd, fw], fun i d hi => ?_⟩
 ·unfold cS bI;rw [VE];refine (Xv _).symm.trans (Ws fun x hx => ?_);rw [hd] at hx;obtain ⟨i, _, rfl⟩ := UY.1 hx;have := (FF (B := 127) UA fun t ht => hb t ht i).1;show Bl ts i = ((Bl ts i).toNat : Int);omega
 ·unfold cS at hi;rw [hd, UO] at hi;have hlt : i < v.toNat := by
   refine Wz fun hc => ?_;rw [Vd (by rw [fw]; omega)] at hi
   cases hi
  rw [sV ts hlt] at hi;have h1 := FF (l := ts) (i := i) (B := 127) UA fun t ht => hb t ht i;have h2 : (Bl ts i).toNat = d := Vl hi;refine ⟨Uz, fun t ht => ?_, Uz⟩;have h3 := Si (i := i) ht;have h4 := z6 t i;omega
variable {xs : List Dyadic}
def ej (d : Nat) (a b : Dyadic) (i k : Nat) : Dyadic := if k < i then 0 else nD (bin (d - i) (k - i)) * a ^ i * b ^ (k - i)
def jB (xs : List Dyadic) (i : Nat) : Dyadic := (xs[i]?).getD 0
def kL (d : Nat) (M : Nat → Nat → Dyadic) (xs : List Dyadic) : List Dyadic := (List.range (d + 1)).map fun k => sm (List.range (d + 1)) fun i => jB xs i * M i k
def ix (d : Nat) (a b : Dyadic) (xs : List Dyadic) (i j : Nat) : List Dyadic := (List.range (d + 1)).map fun k => sm (List.range i) (fun m => jB xs m * ej d a b m k) + if i ≤ k ∧ k < i + j then jB xs i * ej d a b i k else 0
theorem j7 (d : Nat) (a b : Dyadic) (xs : List Dyadic) (i j : Nat) : (ix d a b xs i j).length = d + 1 := by simp [ix]
theorem uU (d : Nat) (a b : Dyadic) (xs : List Dyadic) : ix d a b xs 0 0 = List.replicate (d + 1) 0 := by
 unfold ix;refine List.eq_replicate_iff.2 ⟨by simp, fun x hx => ?_⟩;obtain ⟨k, _, rfl⟩ := UY.1 hx;rw [UE Uz, Xd]
 rfl
theorem yA {d i : Nat} {a b : Dyadic} (h : k ≤ d) : (ix d a b xs i j)[k]? = some (sm (List.range i) (fun m => jB xs m * ej d a b m k) + if i ≤ k ∧ k < i + j then jB xs i * ej d a b i k else 0) := by
 unfold ix;exact HL
theorem zm {d i : Nat} {a b : Dyadic} {o : Dyadic} (h : i + j ≤ d) (ho : (ix d a b xs i j)[i + j]? = some o) : (ix d a b xs i j).set (i + j) (o + jB xs i * ej d a b i (i + j)) = ix d a b xs i (j + 1) := by
 rw [yA h, UE Uz, Xd] at ho;have ho := Vl ho;subst ho;refine VU fun k => ?_;rw [Wd, j7];by_cases hk : k ≤ d
 ·rw [yA hk, yA hk];by_cases e : i + j = k
  ·subst e;rw [UF rfl, UF Uz, UF Uz]
  ·rw [UE e];by_cases h2 : i ≤ k ∧ k < i + j
   ·rw [UF h2, UF Uz]
   ·rw [UE h2, UE Uz]
 ·rw [UE Uz, Vd (by rw [j7]; omega), Vd (by rw [j7]; omega)]
theorem Gr {d i : Nat} {a b : Dyadic} (h : i ≤ d) : ix d a b xs i (d - i + 1) = ix d a b xs (i + 1) 0 := by
 unfold ix;refine Ws fun k hk => ?_;have hk := Vi.1 hk;rw [UE (show ¬ (i + 1 ≤ k ∧ k < i + 1 + 0) by omega), Xd, Wy, jh];by_cases h2 : i ≤ k
 ·rw [UF Uz]
 ·rw [UE Uz];unfold ej;rw [UF (show k < i by omega), Xc]
theorem xg (d : Nat) (a b : Dyadic) (xs : List Dyadic) : ix d a b xs (d + 1) 0 = kL d (ej d a b) xs := by
 unfold ix kL;refine Ws fun k _ => ?_;rw [UE Uz, Xd]
theorem Sz.BT {a : Dyadic} (h : Sz q a) {i d : Nat} (hi : i ≤ d) : Sz (1 + q * d) (a ^ i) := (Sz.pow h i).mono (by have := Vm q hi; omega)
theorem yI {d i : Nat} {a b : Dyadic} (ha : Sz q a) (hb : Sz q b) (hd : d ≤ 127) (hk : k ≤ d) : Sz (130 + 2 * (q * d)) (ej d a b i k) := by
 unfold ej;split
 ·exact Sz.zero _
 ·refine (((rq (d - i) (k - i) Uz).mul (ha.BT (show i ≤ d by omega))).mul (hb.BT (show k - i ≤ d by omega))).mono Uz
theorem xz (h : ∀ x ∈ xs, Sz k x) (i : Nat) : Sz k (jB xs i) := by
 unfold jB
 cases hx : xs[i]? with
 | none => exact Sz.zero _
 | some x => exact h x (UJ hx)
theorem Ff {d i K : Nat} {a b : Dyadic} (hx : ∀ x ∈ xs, Sz K x) (ha : Sz q a) (hb : Sz q b) (hd : d ≤ 127) (hi : i ≤ d + 1) : ∀ x ∈ ix d a b xs i j, Sz (K + 130 + 2 * (q * d) + 130) x := fun x hx2 => by
 obtain ⟨k, hk, rfl⟩ := UY.1 hx2;have hk := Vi.1 hk;have h1 : ∀ m, Sz (K + (130 + 2 * (q * d))) (jB xs m * ej d a b m k) := fun m => (xz hx m).mul (yI ha hb hd Uz);have h2 := Af (l := List.range i) (f := fun m => jB xs m * ej d a b m k) (k := K + (130 + 2 * (q * d))) fun m _ => h1 m;rw [WK] at h2;refine (h2.add (y := if i ≤ k ∧ k < i + j then jB xs i * ej d a b i k else 0) ?_).mono Uz;split
 ·exact (h1 i).mono Uz
 ·exact Sz.zero _
section
variable (A : List Nat) (d : Nat) (φ : List Dyadic → List Dyadic)
def T8 (X : List Dyadic) (q f i : Nat) : List Dyadic := (List.range X.length).map fun p =>
 if p / au A / (d + 1) = q ∧ (p % au A < f ∨ p % au A = f ∧ p / au A % (d + 1) < i) then jB (φ (eY A d X (p % au A) q)) (p / au A % (d + 1)) else jB X p
def Ud (X : List Dyadic) (q : Nat) : List Dyadic := T8 A d φ X q (au A) 0
end
section
variable {A : List Nat} {d : Nat} {φ : List Dyadic → List Dyadic} {X : List Dyadic}
theorem nh {f : Nat} (hf : f < au A) (hk : k ≤ d) : cG A d f k q % au A = f ∧ cG A d f k q / au A % (d + 1) = k ∧ cG A d f k q / au A / (d + 1) = q := by
 unfold cG;have hA := cM A;rw [Wa, Vh hf, VS _ _ hA, Vx hf, U5, Wa, Vh Uz, VS _ _ Uz, Vx Uz, U5];exact ⟨rfl, rfl, rfl⟩
theorem yN (p : Nat) : cG A d (p % au A) (p / au A % (d + 1)) (p / au A / (d + 1)) = p := by
 unfold cG;rw [Xf, Xf]
theorem zU {l : List Dyadic} (h : k < l.length) : l[k]? = some (jB l k) := by
 unfold jB;rw [VZ h]
 rfl
def Um (A : List Nat) (d : Nat) (B : List Nat) (M : Nat → Nat → Dyadic) (xs : List Dyadic) (j : Nat) : List Dyadic := (List.range xs.length).map fun p => if p / au A / (d + 1) < j then jB (gR (A ++ d :: B) A.length M xs) p else jB xs p
end
section
variable (A : List Nat) (d L : Nat) (φ : List Dyadic → List Dyadic)
def kS (p : Nat) : Nat := cG A d (p % au A) 0 (p / au A / (d + 1))
def iT (X : List Dyadic) (F i : Nat) : List Dyadic := (List.range X.length).map fun p =>
 if p / au A % (d + 1) < L ∧ (kS A d p < F ∨ kS A d p = F ∧ p / au A % (d + 1) < i) then jB (φ (eY A d X (p % au A) (p / au A / (d + 1)))) (p / au A % (d + 1)) else jB X p
end
section
variable {A : List Nat} {d L : Nat} {φ : List Dyadic → List Dyadic} {X : List Dyadic}
theorem gI (F i : Nat) : (iT A d L φ X F i).length = X.length := by simp [iT]
theorem nA {F i p : Nat} (h : p < X.length) : (iT A d L φ X F i)[p]? = some (if p / au A % (d + 1) < L ∧ (kS A d p < F ∨ kS A d p = F ∧ p / au A % (d + 1) < i) then jB (φ (eY A d X (p % au A) (p / au A / (d + 1)))) (p / au A % (d + 1)) else jB X p) := by
 unfold iT;rw [UO, Vq h]
 rfl
theorem ze {F i G : Nat} (h : ∀ p, p < X.length → p / au A % (d + 1) < L → ((kS A d p < F ∨ kS A d p = F ∧ p / au A % (d + 1) < i) ↔ (kS A d p < G ∨ kS A d p = G ∧ p / au A % (d + 1) < j))) : iT A d L φ X F i = iT A d L φ X G j := by
 refine VU fun p => ?_;by_cases hp : p < X.length
 ·rw [nA hp, nA hp];congr 1;by_cases hL : p / au A % (d + 1) < L
  ·by_cases h1 : kS A d p < F ∨ kS A d p = F ∧ p / au A % (d + 1) < i
   ·rw [UF ⟨hL, h1⟩, UF ⟨hL, (h p hp hL).1 h1⟩]
   ·rw [UE (fun h => h1 h.2), UE (fun h2 => h1 ((h p hp hL).2 h2.2))]
  ·rw [UE (fun h => hL h.1), UE (fun h => hL h.1)]
 ·rw [Vd (by rw [gI]; omega), Vd (by rw [gI]; omega)]
theorem F1 : iT A d L φ X 0 0 = X := by
 refine VU fun p => ?_;by_cases h : p < X.length
 ·rw [nA h, UE Uz, zU h]
 ·rw [Vd (by rw [gI]; omega), Vd Uz]
theorem Dp {f : Nat} (hf : f < au A) : cG A d f 0 q % au A = f ∧ cG A d f 0 q / au A % (d + 1) = 0 ∧ cG A d f 0 q / au A / (d + 1) = q := nh hf (UI _)
theorem FY {f : Nat} (hf : f < au A) (hk : k ≤ d) : kS A d (cG A d f k q) = cG A d f 0 q := by
 obtain ⟨h1, _, h3⟩ := nh (q := q) hf hk;unfold kS;rw [h1, h3]
theorem Hl {F : Nat} (h : F / au A % (d + 1) ≠ 0) : iT A d L φ X F 0 = iT A d L φ X (F + 1) 0 := ze fun p _ _ => by
 have hne : kS A d p ≠ F := fun e => by
  have := (Dp (d := d) (q := p / au A / (d + 1)) (Va p (cM A))).2.1;unfold kS at e;rw [e] at this;exact h this
 omega
theorem Gb {F i : Nat} (h : L ≤ i) : iT A d L φ X F i = iT A d L φ X (F + 1) 0 := ze fun p _ hL => by omega
theorem Kn {f i : Nat} (hf : f < au A) (hiL : i < L) (hi : i ≤ d) : (iT A d L φ X (cG A d f 0 q) i).set (cG A d f i q) (jB (φ (eY A d X f q)) i) = iT A d L φ X (cG A d f 0 q) (i + 1) := by
 obtain ⟨h1, h2, h3⟩ := nh (q := q) hf hi;refine VU fun p => ?_;rw [Wd, gI];by_cases hp : p < X.length
 ·rw [nA hp, nA hp];by_cases e : cG A d f i q = p
  ·subst e;rw [UF rfl, UF hp, h1, h2, h3, FY hf hi, UF ⟨hiL, .inr ⟨rfl, Nat.lt_succ_self i⟩⟩]
  ·rw [UE e];have hne : ¬ (kS A d p = cG A d f 0 q ∧ p / au A % (d + 1) = i) := fun ⟨a, b⟩ => by
    have e1 := Dp (d := d) (q := p / au A / (d + 1)) (Va p (cM A));have e2 := Dp (d := d) (q := q) hf;unfold kS at a;rw [a] at e1;have := yN (A := A) (d := d) p;rw [b, ← e1.1, ← e1.2.2, e2.1, e2.2.2] at this;exact e this
   congr 1;by_cases hL : p / au A % (d + 1) < L ∧ (kS A d p < cG A d f 0 q ∨ kS A d p = cG A d f 0 q ∧ p / au A % (d + 1) < i)
   ·rw [UF hL, UF ⟨hL.1, Uz⟩]
   ·rw [UE hL, UE (fun h => hL ⟨h.1, Uz⟩)]
 ·rw [Vd (by rw [gI]; omega)];by_cases e : cG A d f i q = p
  ·rw [UF e, e, UE hp, Vd (by rw [gI]; omega)]
  ·rw [UE e, Vd (by rw [gI]; omega)]
theorem wO {B : List Nat} {p : Nat} (hX : X.length = au (A ++ d :: B)) (hp : p < X.length) : (iT A d L φ X X.length 0)[p]? = some (if p / au A % (d + 1) < L then jB (φ (eY A d X (p % au A) (p / au A / (d + 1)))) (p / au A % (d + 1)) else jB X p) := by
 rw [nA hp];have hlt : kS A d p < X.length := by
  have h1 := yN (A := A) (d := d) p;have h2 : kS A d p ≤ p := by
   conv => rhs; rw [← h1]
   unfold kS cG;have := Vm (au A) (show 0 + (d + 1) * (p / au A / (d + 1)) ≤ p / au A % (d + 1) + (d + 1) * (p / au A / (d + 1)) by omega);omega
  omega
 congr 1;by_cases h : p / au A % (d + 1) < L
 ·rw [UF ⟨h, .inl hlt⟩, UF h]
 ·rw [UE (fun h2 => h h2.1), UE h]
theorem Jm {B : List Nat} {M : Nat → Nat → Dyadic} (hX : X.length = au (A ++ d :: B)) : iT A d (d + 1) (kL d M) X X.length 0 = gR (A ++ d :: B) A.length M X := by
 refine VU fun p => ?_;by_cases hp : p < X.length
 ·obtain ⟨f, k, q, hf, hk, hq, rfl⟩ := CJ (A := A) (d := d) (B := B) (by rw [← hX]; exact hp);obtain ⟨h1, h2, h3⟩ := nh (q := q) hf hk;rw [wO hX hp, h1, h2, h3, UF Uz];have e1 : (kL d M (eY A d X f q))[k]? = some (sm (List.range (d + 1)) fun i => jB (eY A d X f q) i * M i k) := by
   unfold kL;exact HL
  rw [JN M X hf hk hq];congr 1;show ((kL d M (eY A d X f q))[k]?).getD 0 = _;rw [e1];refine bg fun i hi => ?_;have hi := Vi.1 hi;show ((eY A d X f q)[i]?).getD 0 * _ = _;unfold eY;rw [UO, Vq hi]
  rfl
 ·rw [Vd (by rw [gI]; omega), Vd (by rw [oG, ← hX]; omega)]
end
theorem nF (N : Nat) : fM N [.bool false, .string (ByteArray.mk #[]), .int .i64 0] = az NR.cells ((List.replicate N (0 : Dyadic)).map nR) := by
 rw [KC, uD]
theorem Sz.bA {x : Dyadic} (h : Sz k x) : (nR x).bA.size ≤ k + 1 := by have := h.nr.1; omega
structure N5 (q : Nat) (s : NR) (x : Dyadic) : Prop where
 ok : s.ok
 bA : s.bA.size ≤ 2001
 d : s.d = x
 sz : Sz q x
theorem N5.of {x : Dyadic} (h : Sz q x) (hq : q ≤ 2000) : N5 q (nR x) x := ⟨h.ok Uz, by have := h.bA; omega, bY x, h⟩
def Ue (l : List Dyadic) (i : Nat) : List Dyadic := (List.range l.length).map fun k => if k < i ∨ l.length ≤ k + i then jB l (l.length - 1 - k) else jB l k
def gO : List Dyadic → Dyadic → Dyadic
 | [], _ => 0
 | c :: cs, t => c + t * gO cs t
theorem rW {a b : Dyadic} (h : a * b = 0) (ha : a ≠ 0) : b = 0 := by
 refine Wz fun hb => ?_;have key : ∀ x y : Dyadic, 0 < x → y ≠ 0 → x * y ≠ 0 := fun x y hx hy => by
  by_cases h0 : 0 < y
  ·have := Lean.Grind.OrderedRing.mul_pos hx h0;grind
  ·have hy0 : 0 < -y := by grind
   have := Lean.Grind.OrderedRing.mul_pos hx hy0;grind
 by_cases h0 : 0 < a
 ·exact key a b h0 hb h
 ·exact key (-a) b (by grind) hb (by grind)
theorem Su (l : List Dyadic) : ∃ a : Dyadic, ∀ b ∈ l, b < a := by
 induction l with
 | nil => exact ⟨0, fun b hb => nomatch hb⟩
 | cons x l ih =>
  obtain ⟨a, ha⟩ := ih;by_cases h : a ≤ x
  ·refine ⟨x + 1, fun b hb => ?_⟩
   rcases UZ.1 hb with rfl | hb
   ·grind
   ·have := ha b hb; grind
  ·refine ⟨a, fun b hb => ?_⟩
   rcases UZ.1 hb with rfl | hb
   ·grind
   ·exact ha b hb
theorem Ev (a : Dyadic) : ∀ cs : List Dyadic, ∃ g : List Dyadic, g.length ≤ cs.length - 1 ∧ (∀ t, gO cs t = gO cs a + (t - a) * gO g t) ∧ ((∀ x ∈ g, x = 0) → gO cs a = 0 → ∀ x ∈ cs, x = 0)
 | [] => ⟨[], UH _, fun t => by simp only [gO]; grind, fun _ _ x hx => nomatch hx⟩
 | [c] => ⟨[], UH _, fun t => by simp only [gO]; grind, fun _ h x hx => by
   rw [U4.1 hx];simp only [gO] at h;grind⟩
 | c :: d :: cs => by
  obtain ⟨g, h1, h2, h3⟩ := Ev a (d :: cs);refine ⟨gO (d :: cs) a :: g, ?_, fun t => ?_, fun hg h0 x hx => ?_⟩
  ·simp only [U7] at h1 ⊢; omega
  ·show c + t * gO (d :: cs) t = (c + a * gO (d :: cs) a) + (t - a) * (gO (d :: cs) a + t * gO g t);rw [h2 t];generalize gO (d :: cs) a = A;generalize gO g t = B;grind
  ·have e1 : gO (d :: cs) a = 0 := hg _ UR;have e2 := h3 (fun y hy => hg y (UT _ hy)) e1
   rcases UZ.1 hx with rfl | hx
   ·rw [gO, e1] at h0; grind
   ·exact e2 x hx
theorem uz : ∀ (n : Nat) (cs bad : List Dyadic), cs.length ≤ n → (∀ t, t ∉ bad → gO cs t = 0) → ∀ x ∈ cs, x = 0
 | 0, cs, _, hn, _ => fun x hx => by
  rw [W9.1 (Nat.le_zero.1 hn)] at hx
  cases hx
 | n + 1, cs, bad, hn, h => by
  obtain ⟨a, ha⟩ := Su bad;have hab : a ∉ bad := fun hb => by have := ha a hb; grind
  obtain ⟨g, h1, h2, h3⟩ := Ev a cs;have ha0 := h a hab;refine h3 (uz n g (a :: bad) Uz fun t ht => ?_) ha0;rw [UZ, not_or] at ht;have e1 := h2 t;rw [h t ht.2, ha0] at e1;refine rW (a := t - a) (by grind) (fun e => ht.1 (by grind))
theorem vY (f : Nat → Dyadic) (t : Dyadic) : ∀ (n s : Nat), t ^ s * gO ((List.range' s n).map f) t = sm (List.range' s n) fun r => f r * t ^ r
 | 0, s => by rw [List.range'_zero]; exact Xc _
 | n + 1, s => by
  rw [List.range'_succ, U9, gO, sm, ← vY f t n (s + 1), Xp];grind
theorem yz {f : Nat → Dyadic} (h : ∀ t, sm (List.range n) (fun r => f r * t ^ r) = 0) : ∀ r, r < n → f r = 0 := fun r hr => by
 refine uz n ((List.range n).map f) [] (by simp) (fun t _ => ?_) (f r) (UY.2 ⟨r, Vi.2 hr, rfl⟩);have e1 := vY f t n 0;rw [← List.range_eq_range', h t] at e1;refine rW e1 ?_;rw [W4];decide
def eF : List Nat → List Dyadic → Dyadic
 | a :: s, x :: xs => x ^ a * eF s xs
 | _, _ => 1
theorem GA (x y : Dyadic) (n : Nat) : (x * y) ^ n = x ^ n * y ^ n := by
 induction n with
 | zero => grind
 | succ n ih => grind
theorem iV (n : Nat) : (1 : Dyadic) ^ n = 1 := by
 induction n with
 | zero => grind
 | succ n ih => grind
theorem Ki {d : Nat} {f : Nat → Dyadic} (h : ∀ t, sm (List.range (d + 1)) (fun r => f r * fW d r t) = 0) : ∀ r, r ≤ d → f r = 0 := by
 have hp : ∀ (m : Nat) (t : Dyadic), (1 - t) ^ m = sm (List.range (m + 1)) fun k => nD (bin m k) * ((-1 : Dyadic) ^ k) * t ^ k := fun m t => by
  have e1 := NG m (-t) 1;rw [show -t + 1 = 1 - t by grind] at e1;rw [← e1];refine bg fun k _ => ?_;rw [iV, show (-t) ^ k = (-1 : Dyadic) ^ k * t ^ k by rw [← GA]; congr 1; grind];grind
 let M : Nat → Nat → Dyadic := fun r k => if k < r then 0 else nD (bin (d - r) (k - r)) * (-1 : Dyadic) ^ (k - r)
 have hb : ∀ r, r ≤ d → ∀ t, fW d r t = sm (List.range (d + 1)) fun k => M r k * t ^ k := fun r hr t => by
  have e0 : (fun k => M r k * t ^ k) = fun k => if k < r then 0 else (fun j => nD (bin (d - r) j) * (-1 : Dyadic) ^ j * t ^ (j + r)) (k - r) := funext fun k => by
   show (if k < r then 0 else nD (bin (d - r) (k - r)) * (-1 : Dyadic) ^ (k - r)) * t ^ k = _;by_cases hk : k < r
   ·rw [UF hk, UF hk, W8]
   ·rw [UE hk, UE hk];show _ = nD (bin (d - r) (k - r)) * (-1 : Dyadic) ^ (k - r) * t ^ (k - r + r);rw [Nat.sub_add_cancel Uz]
  rw [e0, OU d r hr fun j => nD (bin (d - r) j) * (-1 : Dyadic) ^ j * t ^ (j + r)];show t ^ r * (1 - t) ^ (d - r) = _;rw [hp, ← iC];refine bg fun k _ => ?_;rw [qC];grind
 have hk : ∀ k, k < d + 1 → sm (List.range (d + 1)) (fun r => f r * M r k) = 0 := yz fun t => by
  rw [show (sm (List.range (d + 1)) fun r => sm (List.range (d + 1)) (fun r_1 => f r_1 * M r_1 r) * t ^ r) = sm (List.range (d + 1)) fun k => sm (List.range (d + 1)) fun r => f r * M r k * t ^ k from bg fun k _ => (kN _ _ _).symm, nN];refine Eq.trans (bg fun r hr => ?_) (h t);rw [hb r (by have := Vi.1 hr; omega) t, ← iC];exact bg fun k _ => by grind
 intro r hr
 induction r using Nat.strongRecOn with
 | _ r ih =>
  have e1 := hk r Uz;have e2 : sm (List.range (d + 1)) (fun q => f q * M q r) = sm (List.range (d + 1)) fun q => if q = r then f r else 0 := bg fun q hq => by
   by_cases h1 : q < r
   ·rw [ih q h1 Uz, UE Uz, W8]
   ·by_cases h2 : q = r
    ·subst h2;rw [UF rfl];show f q * (if q < q then 0 else nD (bin (d - q) (q - q)) * (-1 : Dyadic) ^ (q - q)) = f q;rw [UE (Nat.lt_irrefl _), Vw, mU, W4, uM];grind
    ·rw [UE h2];show f q * (if r < q then 0 else _) = 0;rw [UF Uz, Xc]
  rw [e2, pE, UF Uz] at e1;exact e1
theorem val_zero : ∀ (ds : List Nat) (xs : List Dyadic), (∀ ts : List Dyadic, ts.length = ds.length → gB ds xs ts = 0) → ∀ p, p < au ds → (xs[p]?).getD 0 = 0
 | [], xs, h, p, hp => by
  have e1 := h [] rfl;obtain rfl : p = 0 := by simpa [au] using hp
  have e2 : gB [] xs [] = (xs[0]?).getD 0 * 1 + 0 := rfl;rw [e2] at e1;grind
 | d :: ds, xs, h, p, hp => by
  have hr : p % (d + 1) < d + 1 := Va _ Uz;have hq : p / (d + 1) < au ds := by rw [V5 Uz, Vg]; exact hp
  have hsl : ∀ r, r ≤ d → ∀ q, q < au ds → (xs[r + (d + 1) * q]?).getD 0 = 0 := fun r hr q hq => by
   have ih := val_zero ds ((List.range (au ds)).map fun q => (xs[r + (d + 1) * q]?).getD 0) (fun ts hts => ?_) q hq
   ·rw [UO, Vq hq] at ih;exact ih
   ·refine Ki (d := d) (f := fun r => gB ds ((List.range (au ds)).map fun q => (xs[r + (d + 1) * q]?).getD 0) ts) (fun t => ?_) r hr;have e1 := h (t :: ts) (by simpa using hts);unfold gB at e1;rw [sO, nN] at e1;refine Eq.trans (bg fun r hr => ?_) e1;unfold gB;rw [← kN];refine bg fun q hq => ?_;have hr2 := Vi.1 hr;rw [UO, Vq (Vi.1 hq)];show (xs[r + (d + 1) * q]?).getD 0 * nW ds (cU ds q) ts * fW d r t = _;exact SH
  have := hsl (p % (d + 1)) Uz (p / (d + 1)) hq;rwa [Xf] at this
theorem val_inj {ys : List Dyadic} (hx : xs.length = au ds) (hy : ys.length = au ds) (h : ∀ ts : List Dyadic, ts.length = ds.length → gB ds xs ts = gB ds ys ts) : xs = ys := by
 refine VU fun p => ?_;by_cases hp : p < au ds
 ·have e1 := val_zero ds ((List.range (au ds)).map fun p => (xs[p]?).getD 0 - (ys[p]?).getD 0) (fun ts hts => ?_) p hp
  ·rw [UO, Vq hp] at e1;replace e1 : (xs[p]?).getD 0 - (ys[p]?).getD 0 = 0 := e1;obtain ⟨x, h1⟩ : ∃ x, xs[p]? = some x := ⟨_, VZ Uz⟩;obtain ⟨y, h2⟩ : ∃ y, ys[p]? = some y := ⟨_, VZ Uz⟩;rw [h1, h2] at e1 ⊢;have e2 : x - y = 0 := e1;congr 1;grind
  ·have e1 := h ts hts;have e2 : gB ds ((List.range (au ds)).map fun p => (xs[p]?).getD 0 - (ys[p]?).getD 0) ts = gB ds xs ts + (-1) * gB ds ys ts := by
    unfold gB;rw [← iC, ← oP];refine bg fun q hq => ?_;rw [UO, Vq (Vi.1 hq)];show ((xs[q]?).getD 0 - (ys[q]?).getD 0) * _ = _;grind
   rw [e2, e1];grind
 ·rw [Vd Uz, Vd Uz]
end Go.Proofs.YteeckcbbnegmcaaGreatDoor
