/- Lemmas for castSame, part 5. -/
import Derived.RangeFuncFrom
import Derived.RangeFuncCalls
import Derived.RangeFuncLeaves
import Derived.Shelf.Abstract
import Derived.Test.YteeckcbbnegmcaaGreatDoorZ4
namespace Go.Proofs.YteeckcbbnegmcaaGreatDoor
def fS (d r : Nat) (t : Dyadic) : Dyadic := t ^ r * (1 - t) ^ (d - r)
def lu : List Nat → List Nat → List Dyadic → Dyadic
 | d :: ds, r :: rs, t :: ts => fS d r t * lu ds rs ts
 | _, _, _ => 1
def jm (ds : List Nat) (xs : List Dyadic) (ts : List Dyadic) : Dyadic := sm (List.range (ar ds)) fun p => (xs[p]?).getD 0 * lu ds (cV ds p) ts
def Pw (d : Nat) (t : Dyadic) (m : Nat) (xs : List Dyadic) : List Dyadic := (List.range m).map fun q => sm (List.range (d + 1)) fun r => (xs[r + (d + 1) * q]?).getD 0 * fS d r t
def OZ : List Nat → List Dyadic → List Dyadic → List Dyadic
 | d :: ds, t :: ts, xs => OZ ds ts (Pw d t (ar ds) xs)
 | _, _, xs => xs
theorem ky (t : Dyadic) (a b : Nat) : t ^ (a + b) = t ^ a * t ^ b := by
 induction b with
 | zero => rw [TB]; grind
 | succ b ih => rw [← U7]; grind
theorem CU (n : Nat) (a b : Dyadic) : sm (List.range (n + 1)) (fun k => nD (bin n k) * a ^ k * b ^ (n - k)) = (a + b) ^ n := by
 induction n with
 | zero => show nD 1 * a ^ 0 * b ^ 0 + 0 = (a + b) ^ 0; rw [wq]; grind
 | succ n ih =>
  have e2 : ∀ k, nD (bin (n + 1) (k + 1)) * a ^ (k + 1) * b ^ (n + 1 - (k + 1)) = nD (bin n k) * a ^ k * b ^ (n - k) * a + nD (bin n (k + 1)) * a ^ (k + 1) * b ^ (n - k) := fun k => by
   rw [bin, vM, show n + 1 - (k + 1) = n - k by omega];grind
  rw [r9, aY (g := fun k => nD (bin n k) * a ^ k * b ^ (n - k) * a + nD (bin n (k + 1)) * a ^ (k + 1) * b ^ (n - k)) fun k _ => e2 k, wL, jO, ih, mm];have e3 : sm (List.range (n + 1)) (fun k => nD (bin n (k + 1)) * a ^ (k + 1) * b ^ (n - k)) = sm (List.range n) (fun k => nD (bin n (k + 1)) * a ^ (k + 1) * b ^ (n - (k + 1))) * b := by
   rw [Uv, jt, ri (show n < n + 1 by omega), BU, ← jO];have : ∀ x y : Dyadic, x + 0 * y * b ^ (n - n) = x := fun x y => by grind
   rw [this];refine aY fun k hk => ?_;have hk2 := S1.1 hk;rw [show n - k = (n - (k + 1)) + 1 by omega];grind
  have e4 : (a + b) ^ n = nD 1 * a ^ 0 * b ^ (n - 0) + sm (List.range n) (fun k => nD (bin n (k + 1)) * a ^ (k + 1) * b ^ (n - (k + 1))) := by
   rw [← ih, r9, mm]
  rw [e3];have e5 : (a + b) ^ (n + 1) = (a + b) ^ n * a + (a + b) ^ n * b := by grind
  rw [e5];generalize hS : sm (List.range n) (fun k => nD (bin n (k + 1)) * a ^ (k + 1) * b ^ (n - (k + 1))) = S at *;rw [e4, show n + 1 - 0 = n + 1 by omega, show n - 0 = n by omega, wq];grind
variable {M : Nat → Nat → Dyadic} {ds : List Nat} {xs : List Dyadic}
def sR : List Nat → (List Nat → Dyadic) → Dyadic
 | [], F => F []
 | d :: ds, F => sm (List.range (d + 1)) fun r => sR ds fun row => F (r :: row)
theorem K5 : ∀ (ds : List Nat) (F : List Nat → Dyadic), sm (List.range (ar ds)) (fun p => F (cV ds p)) = sR ds F
 | [], F => by show F [] + 0 = F []; grind
 | d :: ds, F => by
  rw [xb, lI, sR];refine aY fun r hr => ?_;have hr2 := S1.1 hr;rw [← K5 ds];refine aY fun q _ => ?_;rw [cV, T9, SY hr2, TE _ _ Sd, Tj hr2, SM]
theorem mw : ∀ {ds : List Nat} {F G : List Nat → Dyadic}, (∀ row, lN ds row → F row = G row) → sR ds F = sR ds G
 | [], F, G, h => h [] trivial
 | d :: ds, F, G, h => by
  rw [sR, sR];refine aY fun r hr => mw fun row hrow => h _ ⟨by have := S1.1 hr; omega, hrow⟩
theorem LA {α : Type} : ∀ (ds : List Nat) (l : List α) (F : α → List Nat → Dyadic), sR ds (fun row => sm l fun a => F a row) = sm l fun a => sR ds (F a)
 | [], _, _ => rfl
 | d :: ds, l, F => by
  rw [sR];simp only [sR];rw [lI l, aY fun r _ => LA ds l fun a row => F a (r :: row)]
theorem wh : ∀ (ds : List Nat) (F : List Nat → Dyadic) (c : Dyadic), sR ds (fun row => F row * c) = sR ds F * c
 | [], _, _ => rfl
 | d :: ds, F, c => by
  rw [sR, sR, ← jO];exact aY fun r _ => wh ds _ c
def dw (ds : List Nat) (a : Nat) (M : Nat → Nat → Dyadic) (xs : List Dyadic) : List Dyadic :=
 (List.range (ar ds)).map fun p => sm (List.range (ds.getD a 0 + 1)) fun i => co ds xs ((cV ds p).set a i) * M i ((cV ds p).getD a 0)
theorem iE (ds : List Nat) (a : Nat) (M : Nat → Nat → Dyadic) (xs : List Dyadic) : (dw ds a M xs).length = ar ds := by simp [dw]
theorem uo {row : List Nat} (a : Nat) (M : Nat → Nat → Dyadic) (xs : List Dyadic) (h : lN ds row) : co ds (dw ds a M xs) row = sm (List.range (ds.getD a 0 + 1)) fun i => co ds xs (row.set a i) * M i (row.getD a 0) := by
 rw [Cy h];unfold dw;rw [St, S8 (m4 h)];simp only [T5, TM, hU h]
theorem BX : ∀ {ds row : List Nat} {a i : Nat}, lN ds row → i ≤ ds.getD a 0 → lN ds (row.set a i)
 | [], [], _, _, _, _ => trivial
 | d :: ds, r :: rs, 0, i, h, hi => ⟨hi, h.2⟩
 | d :: ds, r :: rs, a + 1, i, h, hi => ⟨h.1, BX (a := a) h.2 (by simpa using hi)⟩
def ua (d : Nat) (s : Dyadic) (i k : Nat) : Dyadic := if k < i then 0 else nD (bin (d - i) (k - i)) * s ^ i * (1 - s) ^ (k - i)
def ue (d : Nat) (s : Dyadic) (i k : Nat) : Dyadic := if i < k then 0 else nD (bin i (i - k)) * s ^ (i - k) * (1 - s) ^ (d - i)
theorem GM (d i : Nat) (hi : i ≤ d) (f : Nat → Dyadic) : sm (List.range (d + 1)) (fun k => if k < i then 0 else f (k - i)) = sm (List.range (d - i + 1)) f := by
 obtain ⟨m, rfl⟩ : ∃ m, d = i + m := ⟨d - i, Sd⟩;rw [show i + m - i + 1 = m + 1 by omega, show i + m + 1 = i + (m + 1) by omega, List.range_add, mP, pP, nY fun k hk => by rw [Sj (S1.1 hk)]];have : ∀ x : Dyadic, 0 + x = x := fun x => by grind
 rw [this];exact aY fun k _ => by rw [Si Sd, Nat.add_sub_cancel_left]
theorem Ju {d i : Nat} (s t : Dyadic) (h : i ≤ d) : sm (List.range (d + 1)) (fun k => ua d s i k * fS d k t) = fS d i (s * t) := by
 have hb := CU (d - i) ((1 - s) * t) (1 - t);have e1 : (1 - s) * t + (1 - t) = 1 - s * t := by grind
 rw [e1] at hb;have hpw : ∀ (x y : Dyadic) (n : Nat), (x * y) ^ n = x ^ n * y ^ n := fun x y n => by
  exact IU
 have e2 : fS d i (s * t) = s ^ i * t ^ i * (1 - s * t) ^ (d - i) := by unfold fS; rw [hpw]
 rw [e2, ← hb, ← gy, ← GM d i h fun k => s ^ i * t ^ i * (nD (bin (d - i) k) * ((1 - s) * t) ^ k * (1 - t) ^ (d - i - k))];refine aY fun k hk => ?_;have hk2 := S1.1 hk;unfold ua;by_cases hki : k < i
 ·rw [Sj hki, Sj hki]; grind
 ·rw [Si hki, Si hki, fS, hpw, show d - i - (k - i) = d - k by omega];have e3 : t ^ k = t ^ i * t ^ (k - i) := by rw [← ky, show i + (k - i) = k by omega]
  rw [e3];grind
theorem Ho (n : Nat) : ∀ f : Nat → Dyadic, sm (List.range (n + 1)) f = sm (List.range (n + 1)) fun k => f (n - k) := by
 induction n with
 | zero => intro f; rfl
 | succ n ih =>
  intro f;have e : sm (List.range (n + 1 + 1)) (fun k => f (n + 1 - k)) = f (n + 1) + sm (List.range (n + 1)) fun k => f (n - k) := by
   rw [r9];congr 1;exact aY fun k _ => by rw [show n + 1 - (k + 1) = n - k by omega]
  rw [Uv, jt, ih f, ← Uv, e];grind
theorem Jt {d i : Nat} (s t : Dyadic) (h : i ≤ d) : sm (List.range (d + 1)) (fun k => ue d s i k * fS d k t) = fS d i (s + (1 - s) * t) := by
 have hb := CU i (s * (1 - t)) t;have e1 : s * (1 - t) + t = s + (1 - s) * t := by grind
 rw [e1] at hb;have hpw : ∀ (x y : Dyadic) (n : Nat), (x * y) ^ n = x ^ n * y ^ n := fun x y n => by
  exact IU
 have e2 : fS d i (s + (1 - s) * t) = (s + (1 - s) * t) ^ i * ((1 - s) ^ (d - i) * (1 - t) ^ (d - i)) := by
  unfold fS;rw [← hpw];congr 2;grind
 rw [e2, ← hb];have e3 : ∀ f : Nat → Dyadic, sm (List.range (d + 1)) (fun k => if i < k then 0 else f (i - k)) = sm (List.range (i + 1)) f := fun f => by
  obtain ⟨m, rfl⟩ : ∃ m, d = i + m := ⟨d - i, Sd⟩;rw [show i + m + 1 = (i + 1) + m by omega, List.range_add, mP, pP, nY (l := List.range m) fun k _ => by rw [Sj Sd]];have h0 : ∀ x : Dyadic, x + 0 = x := fun x => by grind
  rw [h0];rw [Ho i f];refine aY fun k hk => ?_;have hk2 := S1.1 hk;rw [Si Sd]
 rw [← jO, ← e3 fun k => nD (bin i k) * (s * (1 - t)) ^ k * t ^ (i - k) * ((1 - s) ^ (d - i) * (1 - t) ^ (d - i))];refine aY fun k hk => ?_;have hk2 := S1.1 hk;unfold ue;by_cases hki : i < k
 ·rw [Sj hki, Sj hki]; grind
 ·rw [Si hki, Si hki, fS, hpw, show i - (i - k) = k by omega];have e4 : (1 - t) ^ (d - k) = (1 - t) ^ (i - k) * (1 - t) ^ (d - i) := by rw [← ky, show i - k + (d - i) = d - k by omega]
  rw [e4];grind
theorem B6 (ds : List Nat) (xs ts : List Dyadic) : jm ds xs ts = sR ds fun row => co ds xs row * lu ds row ts := by
 rw [← K5];unfold jm;exact aY fun p hp => by rw [vQ (S1.1 hp)]
theorem uR : ∀ (ds : List Nat) (a : Nat) (M : Nat → Nat → Dyadic) (G : List Nat → Dyadic) (ts : List Dyadic) (t t' : Dyadic), a < ds.length → ts.length = ds.length →
  (∀ i, i ≤ ds.getD a 0 → sm (List.range (ds.getD a 0 + 1)) (fun k => M i k * fS (ds.getD a 0) k t) = fS (ds.getD a 0) i t') →
  sR ds (fun row => sm (List.range (ds.getD a 0 + 1)) (fun i => G (row.set a i) * M i (row.getD a 0)) * lu ds row (ts.set a t)) = sR ds fun row => G row * lu ds row (ts.set a t')
 | d :: ds, 0, M, G, u :: ts, t, t', _, _, h => by
  simp only [sR, List.getD_cons_zero, Sy, lu] at h ⊢;have e1 : ∀ r, sR ds (fun row => sm (List.range (d + 1)) (fun i => G (i :: row) * M i r) * (fS d r t * lu ds row ts)) = sm (List.range (d + 1)) fun i => sR ds (fun row => G (i :: row) * lu ds row ts) * (M i r * fS d r t) := fun r => by
   rw [aY (l := List.range (d + 1)) (g := fun i => sR ds fun row => G (i :: row) * lu ds row ts * (M i r * fS d r t)) fun i _ => (wh ds _ _).symm, ← LA];refine mw fun row _ => ?_;rw [← jO];exact aY fun i _ => by grind
  rw [aY fun r _ => e1 r, lI];refine aY fun i hi => ?_;have hi2 := S1.1 hi;rw [gy, h i Sd, ← wh];exact mw fun row _ => by grind
 | d :: ds, a + 1, M, G, u :: ts, t, t', h1, h2, h => by
  simp only [sR, List.getD_cons_succ, Tb, lu] at h ⊢;refine aY fun r _ => ?_;have ih := uR ds a M (fun row => G (r :: row)) ts t t' (by simpa using h1) (by simpa using h2) h;have e1 : ∀ (F : List Nat → Dyadic) (us : List Dyadic), sR ds (fun row => F row * (fS d r u * lu ds row us)) = sR ds (fun row => F row * lu ds row us) * fS d r u := fun F us => by
   rw [← wh];exact mw fun row _ => by grind
  rw [e1, e1, ih]
theorem vy {a : Nat} {ts : List Dyadic} {t t' : Dyadic} (ha : a < ds.length) (hl : ts.length = ds.length)
  (h : ∀ i, i ≤ ds.getD a 0 → sm (List.range (ds.getD a 0 + 1)) (fun k => M i k * fS (ds.getD a 0) k t) = fS (ds.getD a 0) i t') : jm ds (dw ds a M xs) (ts.set a t) = jm ds xs (ts.set a t') := by
 rw [B6, B6, ← uR ds a M (co ds xs) ts t t' ha hl h];exact mw fun row hrow => by rw [uo a M xs hrow]
variable {k q : Nat}
theorem qF : ∀ (A B : List Nat) (p : Nat), cV (A ++ B) p = cV A p ++ cV B (p / ar A)
 | [], B, p => by rw [Ss, ar, Nat.div_one]; rfl
 | d :: A, B, p => by rw [Sv, cV, cV, qF A B, ar, T2]; rfl
theorem yR : ∀ (A : List Nat) (f q : Nat), cV A (f + ar A * q) = cV A f
 | [], _, _ => rfl
 | d :: A, f, q => by
  rw [cV, cV, ar, Ti, T9, TE _ _ Sd, yR A]
section
variable {A B : List Nat} {d : Nat}
def bO (A : List Nat) (d f k q : Nat) : Nat := f + ar A * (k + (d + 1) * q)
theorem l4 {f : Nat} (hf : f < ar A) (hk : k ≤ d) (hq : q < ar B) : bO A d f k q < ar (A ++ d :: B) := by
 rw [dP, ar, bO];have h1 : k + (d + 1) * q + 1 ≤ (d + 1) * ar B := by
  have : (d + 1) * (q + 1) ≤ (d + 1) * ar B := SX _ hq;rw [TZ] at this;omega
 have h2 := SX (ar A) h1;rw [TZ] at h2;omega
theorem uL {f : Nat} (hf : f < ar A) (hk : k ≤ d) : cV (A ++ d :: B) (bO A d f k q) = cV A f ++ k :: cV B q := by
 unfold bO;rw [qF, yR, TE _ _ (dm A), Tj hf, SM, cV, T9, SY Sd, TE _ _ Sd, Tj Sd, SM]
theorem lC {p : Nat} (h : p < ar (A ++ d :: B)) : ∃ f k q, f < ar A ∧ k ≤ d ∧ q < ar B ∧ p = bO A d f k q := by
 rw [dP, ar] at h;have hA := dm A;refine ⟨p % ar A, p / ar A % (d + 1), p / ar A / (d + 1), SO _ hA, by have := SO (p / ar A) (show 0 < d + 1 by omega); omega, ?_, ?_⟩
 ·rw [TO Sd, TO hA, SS, SS (ar B)];exact h
 ·unfold bO;rw [UD, UD]
theorem zw (x y : List Nat) (k : Nat) : (x ++ k :: y).getD x.length 0 = k := by
 rw [TC, Tu (So _), Td]
 rfl
theorem Bm (x y : List Nat) (k i : Nat) : (x ++ k :: y).set x.length i = x ++ i :: y := by
 rw [Un _ _ (So _), Td, Sy]
def bZ (A : List Nat) (d : Nat) (xs : List Dyadic) (f q : Nat) : List Dyadic := (List.range (d + 1)).map fun i => (xs[bO A d f i q]?).getD 0
theorem rR {f : Nat} (M : Nat → Nat → Dyadic) (xs : List Dyadic) (hf : f < ar A) (hk : k ≤ d) (hq : q < ar B) :
  (dw (A ++ d :: B) A.length M xs)[bO A d f k q]? = some (sm (List.range (d + 1)) fun i => (xs[bO A d f i q]?).getD 0 * M i k) := by
 have hp := l4 (B := B) hf hk hq;unfold dw;rw [St, S8 hp];simp only [T5];rw [uL hf hk, zw];have hl := yq A f;rw [show ((cV A f ++ k :: cV B q).getD A.length 0) = k by rw [← hl]; exact zw _ _ _];congr 1;refine aY fun i hi => ?_;have hi2 : i ≤ d := by have := S1.1 hi; omega
 rw [show (cV A f ++ k :: cV B q).set A.length i = cV A f ++ i :: cV B q by rw [← hl]; exact Bm _ _ _ _, ← uL (B := B) hf hi2, vQ (l4 hf hi2 hq)]
end
open Go.RowKit
def Qs (ns : List Nat) : Bool := ns.any (fun d => decide (127 < d)) || decide (4096 < ar ns)
def MZ (a b : List Nat) : List Nat := List.zipWith (· + ·) a b
theorem HH (N : Nat) : gd N [.bool false, .string (ByteArray.mk #[]), .int .i64 0] = aw NR.cells ((m6 N []).map nR) := by
 rw [sV, List.map_replicate]
 induction N with
 | zero => rfl
 | succ n ih => rw [UC, iL, ← ih]; rfl
def RI (ds es : List Nat) (xs ys : List Dyadic) (k : Nat) : List (Nat × Dyadic) :=
 (List.range k).flatMap fun k => (List.range (ar ds)).map fun i => (g6 (AO ds es) (AO (cV ds i) (cV es k)), (xs[i]?).getD 0 * (ys[k]?).getD 0)
def Oo (ns ms : List Nat) (xs ys : List Dyadic) : List Dyadic := m6 (ar (MZ ns ms)) (RI ns.reverse ms.reverse xs ys (ar ms))
variable {w w' : World}
structure FX where
 A : Option Addr
 n : Nat
 a : Nat
 B : Option Addr
 m : Nat
 b : Nat
 ds : List Int
 cs : List NR
def FX.cells (f : FX) : List Value := [.slice f.A f.n f.a, .slice f.B f.m f.b]
def FX.v (f : FX) : Value := .agg #[.slice f.A f.n f.a, .slice f.B f.m f.b]
structure FX.at_ (f : FX) (w : World) : Prop where
 dg : Sl w f.A f.n 1 (bm f.ds)
 nm : Sl w f.B f.m 3 (aw NR.cells f.cs)
theorem FX.at_.ext {f : FX} (h : f.at_ w) (hb : Below w.heap.size w w') : f.at_ w' := ⟨h.dg.ext hb, h.nm.ext hb⟩
structure FX.kq (f : FX) (k : Nat) : Prop where
 Mv : f.n ≤ 1000
 PU : f.m ≤ 100000
 num : ∀ c ∈ f.cs, c.ok ∧ Sz k c.d
def FX.e (f : FX) : Int := fE f.ds f.cs
theorem vZ (f : FX) (k : Nat) (w : World) (hT : dD w) (h : f.at_ w) (hl : f.kq k) :
  Calls Tryz.prog 41 #[.agg #[.slice f.A f.n f.a, .slice f.B f.m f.b]] w fun r w' => r = .returned (.int .i64 f.e) ∧ Below w.heap.size w w' :=
 tY f.A f.B f.n f.a f.m f.b f.ds f.cs w hT h.dg h.nm (by have := hl.Mv; omega) (by have := hl.PU; omega) fun a ha => (hl.num a ha).1
def Qg (fs : List FX) : Bool := fs.any fun f => decide (f.n ≠ (fs.map FX.n).headD 0)
def Ci (fs : List FX) : Int := match fs.find? (fun f => decide (f.e ≠ 0)) with | some f => f.e | none => if fs.length = 0 ∨ Qg fs = true then 1 else 0
open Go.ChangeShapes Go.WideShapes Go.ChangeAt Go.RowKit Go.ChangeMaps
variable {N base m : Nat} {P : Program} {R : Ending → World → Prop} {args : Array Operand} {assign body : Code} {ops : Array Oper} {pos : String} {vs : List Value} {w0 : World} {α : Type} {ρ : Rf}
abbrev p7 (D : Nat) : Deferred := { target := .collected D, args := #[] }
abbrev Ld (M : List Nat) : List HE := M.map fun D => .ob D (.deferred (some []))
theorem FR {D : List Deferred} {a b : Act} (h : eG N D a ρ) (k : eG N D b ρ) : a = b := by
 obtain ⟨t, d⟩ := a;obtain ⟨t', d'⟩ := b;obtain ⟨h1, h2, h3⟩ := h;obtain ⟨k1, k2, k3⟩ := k;obtain rfl : d = d' := h1.trans k1.symm;congr 1;refine Array.ext (h2.trans k2.symm) fun i hi hi' => ?_;have e1 := h3 i;have e2 := k3 i;rw [Tn, Ut hi] at e1;rw [Tn, Ut hi'] at e2;exact e1.trans e2.symm
abbrev Kd := Exit → List Nat → Rf → World → Prop
structure WD (P : Program) (N : Nat) (c : Code) (Q : Kd) (ρ : Rf) (w : World) : Prop where
 out : ∀ (M : List Nat) a, eG N (M.map p7) a ρ → ∀ n, c.wpIn Fence.wide n P (fun e a' w' => ∃ M' ρ', eG N ((M' ++ M).map p7) a' ρ' ∧ Q e M' ρ' w') a w
def Qx (next : List Nat → Rf → World → Prop) (Q : Kd) : Kd
 | .normal, M, ρ, w => next M ρ w
 | e, M, ρ, w => Q e M ρ w
def x8 (M : List Nat) (Q : Kd) : Kd := fun e M2 ρ w => Q e (M2 ++ M) ρ w
def Nl (id : Nat) (Q : Kd) : Kd
 | .exit id', M, ρ, w => if id' = id then Q .normal M ρ w else Q (.exit id') M ρ w
 | e, M, ρ, w => Q e M ρ w
def Pt (Q : Kd) : Kq := fun e ρ w => Q e [] ρ w
section
variable {P : Program} {N : Nat} {Q : Kd} {ρ : Rf} {w : World}
theorem Lq {c : Code} (h : ∀ D, WC ⟨none, D, true⟩ P N c (Pt Q) ρ w) : WD P N c Q ρ w :=
 ⟨fun M a hf n => wpIn_mono ((h (M.map p7)).jX a hf n) fun e a' w' ⟨ρ', hf', hq⟩ => ⟨[], ρ', hf', hq⟩⟩
theorem Gj {x y : Code} (h : WD P N x (Qx (fun M ρ w => WD P N y (x8 M Q) ρ w) Q) ρ w) : WD P N (.seq x y) Q ρ w :=
 ⟨fun M a hf n => wpIn_seq (wpIn_mono (h.out M a hf n) fun e a' w' ⟨M', ρ', hf', hq⟩ => by
  cases e with
  | normal =>
   refine wpIn_mono ((hq : WD P N y (x8 M' Q) ρ' w').out (M' ++ M) a' hf' n) fun e a2 w2 ⟨M2, ρ2, hf2, hq2⟩ => ?_;exact ⟨M2 ++ M', ρ2, by rw [S5]; exact hf2, hq2⟩
  | _ => exact ⟨M', ρ', hf', hq⟩)⟩
theorem vC {x y : Code} (h : ∀ D, WC ⟨none, D, true⟩ P N x (dR (fun ρ w => WD P N y Q ρ w) (Pt Q)) ρ w) : WD P N (.seq x y) Q ρ w :=
 Gj (Lq fun D => (h D).mono fun e ρ w hq => by
  cases e with
  | normal =>
   show WD P N y (x8 [] Q) ρ w;have e0 : x8 [] Q = Q := by funext e M ρ w; unfold x8; rw [S3]
   rw [e0];exact hq
  | _ => exact hq)
theorem Hg {id : Nat} {c : Code} (h : WD P N c (Nl id Q) ρ w) : WD P N (.block id c) Q ρ w :=
 ⟨fun M a hf n => wpIn_block (wpIn_mono (h.out M a hf n) fun e a' w' ⟨M', ρ', hf', hq⟩ => by
  cases e with
  | exit id' =>
   by_cases hid : id' = id
   ·simp only [Nl, hid, if_true] at hq;simp only [Exit.inBlock, hid, if_true];exact ⟨M', ρ', hf', hq⟩
   ·simp only [Nl, hid, if_false] at hq;simp only [Exit.inBlock, hid, if_false];exact ⟨M', ρ', hf', hq⟩
  | _ => exact ⟨M', ρ', hf', hq⟩)⟩
def Ln {α : Type} (Kp : World → World → Prop) (I : List α → World → Prop) (pre : List α) (x : α) (W : World) : Kq
 | .normal, _, W' => KeepsOthers W W' ∧ Kp W W' ∧ I (pre ++ [x]) W'
 | _, _, _ => False
def OL : Kq := fun _ _ _ => False
theorem vd {ps : Tmp} {v : Value} {a : Array Value} : ((#[ps] : Array Tmp).zip #[v]).foldl (fun t (p, v) => t.setIfInBounds p v) a = a.setIfInBounds ps v := by simp
theorem Hf {g : Operand} {p : Tmp} {gf : Nat} {lb : Array Value} (hp : p < N) (hg : ev ρ g = .func (.func gf) #[] lb) (eg : ∀ args w, (callFunc gf args).run P w = .ok (.enter gf args) w)
  {enc : α → Value} {Kp : World → World → Prop} {S : List α → Prop} {Nn : Nat} (hseq : ∀ n, SeqStopsK Fence.wide n P gf lb (fun x => #[enc x]) Kp S (fun _ => True) Nn w)
  (hKt : ∀ {A B C : World}, Kp A B → Kp B C → Kp A C) (hKb : ∀ (W : World) (l : Nat) (o o' : Obj), w.heap.size ≤ l → W.heap[l]? = some o → o.isCells = false → o.isWalk = false → Kp W (W.putObj l o'))
  (I : List α → World → Prop) (hI : OwnFrom w.heap.size I) (h0 : I [] w) (ρ1 : α → Rf) (hρ : ∀ x i, N ≤ i → ρ1 x i = ρ i)
  (hassign : ∀ l x W, WC ⟨some l, [], true⟩ P N assign (dR (fun ρ' W' => ρ' = ρ1 x ∧ W' = W) OL) (cx ρ p (enc x)) W)
  (hbody : ∀ l pre x W, I pre W → pre.length < Nn → WC ⟨some l, [], true⟩ P N body (Ln Kp I pre x W) (ρ1 x) W)
  (hdone : ∀ (D : Nat) (xs : List α) (W : World), w.heap.size ≤ D → S xs → I xs W → W.heap[D]? = some (.deferred (some [])) → Q .normal [D] ρ W) : WD P N (.rangeFunc g #[p] assign body) Q ρ w := by
 refine ⟨fun M a hf n => ?_⟩;have hfit : ∀ x, eG N [] { tmps := Array.ofFn fun i : Fin N => ρ1 x i, defers := [] } (ρ1 x) := fun x => by
  refine ⟨rfl, by simp, fun i => ?_⟩;rw [Tn];by_cases hi : i < N
  ·rw [Ut (by simpa using hi)];simp
  ·rw [U5 (by simp; omega), hρ x i Sd, ← hf.at_ i, Tn, U5 (by rw [hf.sz]; omega)]
 have main : (Code.rangeFunc g #[p] assign body).wpIn Fence.wide (n + 1) P (fun e a' w' => ∃ M' ρ', eG N ((M' ++ M).map p7) a' ρ' ∧ Q e M' ρ' w') a w := by
  refine wpIn_rangeFunc_ownF (F := Fence.wide) (n := n + 1) rfl Sd (gf := gf) (lb := lb) (by rw [hf.eval]; exact hg) trivial eg (hseq _) hKt hKb (Below.refl _ _) (fun _ => rfl) I (fun _ _ _ => False) hI
   (fun _ _ _ _ _ hs _ _ => hs) h0 (fun x => { tmps := Array.ofFn fun i : Fin N => ρ1 x i, defers := [] }) (fun l x W K hK => ?_) (fun l pre x W hi hl => ?_) (fun D xs W hD hS hi hW => ?_) (fun _ _ _ _ _ _ h _ => h.elim)
  ·refine wpIn_mono ((hassign l x W).jX _ ⟨rfl, ?_, fun i => ?_⟩ _) fun e a' w' ⟨ρ', hf', hq⟩ => ?_
   ·rw [vd];simp [hf.sz]
   ·rw [vd, ← (hf.put hp (enc x)).at_ i]
    rfl
   ·cases e with
    | normal =>
     obtain ⟨rfl, rfl⟩ := hq;rw [FR hf' (hfit x)];exact hK
    | _ => exact hq.elim
  ·refine wpIn_mono ((hbody l pre x W hi hl).jX _ (hfit x) _) fun e a' w' ⟨ρ', hf', hq⟩ => ?_
   cases e with
   | normal => exact hq
   | _ => exact hq.elim
  ·exact ⟨[D], ρ, ⟨by rw [hf.nd]; rfl, hf.sz, hf.at_⟩, hdone D xs W hD hS hi hW⟩
 intro b k cs hro hb _;exact main b k cs hro hb (room_wide _)
end
def Oj (P : Program) (fn : Func) (R : Ending → World → Prop) : Kd := fun e M ρ w =>
 (e = .normal ∨ e = .ret) ∧ ∀ tmps : Array Value, (∀ i, tmps.getD i undef = ρ i) → ∀ n, LeavesInM Fence.wide n P fn tmps R (M.map p7) .returning w
theorem EA {f : FuncId} {fn : Func} {c : Code} {l : List Value}
  (hf : P.funcs[f]? = some fn) (hb : fn.body = some c) (hn : fn.ntmps = N) (ha : l.length ≤ N)
  (h : WD P N c (Oj P fn R) (CI l) w) : Calls P f l.toArray w R := by
 refine (callsIn_wide (n := 0)).1 (callsIn_of_wp_marks hf hb trivial ?_ rfl);refine wpIn_mono (h.out [] _ ⟨rfl, by simp [hn]; omega, fun i => ?_⟩ 0) ?_
 ·exact MW
 ·rintro e a w' ⟨M, ρ', hf', he, hl⟩;rw [S3] at hf'
  rcases he with rfl | rfl
  ·show LeavesInM _ _ _ _ a.tmps _ a.defers _ _;rw [hf'.nd];exact hl _ hf'.at_ 0
  ·show LeavesInM _ _ _ _ a.tmps _ a.defers _ _;rw [hf'.nd];exact hl _ hf'.at_ 0
theorem Au {f : FuncId} {fn : Func} {c : Code} {l : List Value}
  (hf : P.funcs[f]? = some fn) (hb : fn.body = some c) (hn : fn.ntmps = N) (ha : l.length ≤ N)
  (h : WC ⟨none, [], true⟩ P N c (mn P fn R) (CI l) w) : Calls P f l.toArray w R := by
 refine (callsIn_wide (n := 0)).1 (callsIn_of_wp hf hb trivial ?_ rfl);refine wpIn_mono (h.jX _ ⟨rfl, by simp [hn]; omega, fun i => ?_⟩ 0) ?_
 ·exact MW
 ·rintro e a w' ⟨ρ', hf', he, v, hr, hR⟩
  rcases he with rfl | rfl
  ·exact ⟨hf'.nd, v, hr _ hf'.at_, hR⟩
  ·exact ⟨hf'.nd, v, hr _ hf'.at_, hR⟩
def HE.Me : HE → Bool
 | .ob _ _ => false
 | _ => true
theorem sX {x : HE} {b : Nat} (h : x.holds base w) (hc : x.Me = true) (hid : x.id = some b) : ∃ o, w.heap[b]? = some o ∧ o.isCells = true := by
 cases x with
 | blk b' t cs fz =>
  obtain rfl : b' = b := Tc hid;exact ⟨_, h.2.1, rfl⟩
 | row A n c t sz xs =>
  rcases h.2 with ⟨h1, _⟩ | ⟨g, cap, cur, h1, _, h3, _⟩
  ·injection h1 with e1
   subst e1
   cases hid
  ·injection h1 with e1
   subst e1;obtain rfl : g = b := Tc hid;exact ⟨_, h3, rfl⟩
 | ob _ _ => cases hc
theorem Hp.Mi {H : List HE} (h : Hp w0 H w) (hc : ∀ x ∈ H, x.Me = true) {row : Option Nat} (hg : w.grownBy w' row) (hr : ∀ r, row = some r → w0.heap.size ≤ r ∧ ∃ o : Obj, w.heap[r]? = some o ∧ o.isCells = false) : Hp w0 H w' := by
 refine ⟨⟨hg.os.trans h.below.os, hg.tape.trans h.below.tape, hg.output.trans h.below.output, SK h.size hg.size, fun k hk => ?_⟩, fun x hx => ?_, h.nd⟩
 ·refine (hg.block k (Tg hk h.size) fun e => ?_).trans (h.below.block k hk);have := (hr k e.symm).1;omega
 ·refine nG (h.own x hx) fun b hid => hg.block b (dX (h.own x hx) hid).2 fun e => ?_;obtain ⟨o, h1, h2⟩ := sX (h.own x hx) (hc x hx) hid;obtain ⟨_, o', h3, h4⟩ := hr b e.symm;rw [h1] at h3
  cases h3
  rw [h2] at h4
  cases h4
theorem Hp.OQ {H : List HE} (h : Hp w0 H w) (hc : ∀ x ∈ H, x.Me = true) {D : Nat} {o : Obj} (hD : w0.heap.size ≤ D) (h1 : w.heap[D]? = some o) (ho : o.isCells = false) : Hp w0 (.ob D o :: H) w := by
 refine ⟨h.below, fun x hx => ?_, ?_⟩
 ·rcases SH.1 hx with rfl | hx
  ·exact ⟨hD, h1⟩
  ·exact h.own x hx
 ·rw [Ux];show (D :: H.filterMap HE.id).Nodup;refine Uk.2 ⟨fun hm => ?_, h.nd⟩;obtain ⟨y, hy, hyb⟩ := Tq.1 hm;obtain ⟨o', h2, h3⟩ := sX (h.own y hy) (hc y hy) hyb;rw [h1] at h2
  cases h2
  rw [ho] at h3
  cases h3
def JU (base : Nat) (ids : List Nat) (w : World) (k : Nat) : Option HE := if base ≤ k ∧ ids.contains k = false then (w.heap[k]?).map fun o => .ob k o else none
def FD (base : Nat) (ids : List Nat) (w : World) : List HE := (List.range w.heap.size).filterMap (JU base ids w)
theorem rC {ids : List Nat} {x : HE} (h : JU base ids w k = some x) : ∃ o, x = .ob k o ∧ base ≤ k ∧ k ∉ ids ∧ w.heap[k]? = some o := by
 unfold JU at h;split at h
 ·rename_i h1;obtain ⟨o, h2, h3⟩ := TH.1 h;exact ⟨o, h3.symm, h1.1, by simpa using h1.2, h2⟩
 ·cases h
theorem Hp.IW {H : List HE} (h : Hp w0 H w) : Hp w0 (H ++ FD w0.heap.size (H.filterMap HE.id) w) w := by
 refine ⟨h.below, fun x hx => ?_, ?_⟩
 ·rcases S2.1 hx with hx | hx
  ·exact h.own x hx
  ·obtain ⟨k, _, hk⟩ := Tq.1 hx;obtain ⟨o, rfl, h1, _, h3⟩ := rC hk;exact ⟨h1, h3⟩
 ·rw [VC];refine List.nodup_append.2 ⟨h.nd, ?_, fun a ha b hb e => ?_⟩
  ·unfold FD;rw [List.filterMap_filterMap];refine List.Pairwise.filterMap _ (fun a a' hne b hb b' hb' e => ?_) List.nodup_range;obtain ⟨x, hx, hx2⟩ := Option.bind_eq_some_iff.1 hb;obtain ⟨y, hy, hy2⟩ := Option.bind_eq_some_iff.1 hb';obtain ⟨o, rfl, _⟩ := rC hx;obtain ⟨o', rfl, _⟩ := rC hy;obtain rfl : a = b := Tc hx2;obtain rfl : a' = b' := Tc hy2;exact hne e
  ·obtain ⟨x, hx, hx2⟩ := Tq.1 hb;obtain ⟨k, _, hk⟩ := Tq.1 hx;obtain ⟨o, rfl, _, h2, _⟩ := rC hk;obtain rfl : k = b := Tc hx2;exact h2 (e ▸ ha)
theorem Hp.keeps {H H' : List HE} (hs : Hp w0 H w) (hc : ∀ x ∈ H, x.Me = true) (he : Hp w0 (H' ++ FD w0.heap.size (H.filterMap HE.id) w) w') (hid : H'.filterMap HE.id = H.filterMap HE.id) : KeepsOthers w w' := by
 have key : ∀ k, k < w.heap.size → k < w'.heap.size ∧ ∀ o, w.heap[k]? = some o → o.isCells = false → w'.heap[k]? = some o := fun k hk => by
  by_cases h0 : k < w0.heap.size
  ·exact ⟨Tg h0 he.size, fun o h1 _ => (he.below.block k h0).trans ((hs.below.block k h0).symm.trans h1)⟩
  ·by_cases hm : k ∈ H.filterMap HE.id
   ·obtain ⟨y, hy, hyb⟩ := Tq.1 (hid ▸ hm);refine ⟨(dX (he.own y (Uh _ hy)) hyb).2, fun o h1 h2 => ?_⟩;obtain ⟨z, hz, hzb⟩ := Tq.1 hm;obtain ⟨o', h3, h4⟩ := sX (hs.own z hz) (hc z hz) hzb;rw [h1] at h3
    cases h3
    rw [h2] at h4
    cases h4
   ·have hx : HE.ob k w.heap[k] ∈ FD w0.heap.size (H.filterMap HE.id) w := Tq.2 ⟨k, S1.2 hk, by
     unfold JU;rw [Sj ⟨Sd, by simpa using hm⟩, Ut hk]
     rfl⟩
    have h1 := he.own _ (TG _ hx);refine ⟨(dX h1 rfl).2, fun o h2 _ => ?_⟩;rw [Ut hk] at h2
    cases h2
    exact h1.2
 refine ⟨?_, fun k o h1 h2 => (key k (Vy.1 h1).1).2 o h1 h2⟩
 rcases T8 w.heap.size with h | h
 ·omega
 ·have := (key (w.heap.size - 1) Sd).1;omega
theorem o8 {P : Program} {fn : Func} {tmps : Array Value} {R : Ending → World → Prop} {n : Nat} {w0 : World} {H : List HE} : ∀ (M : List Nat) (w : World), Hp w0 (Ld M ++ H) w → (∀ w2, Hp w0 H w2 → ∃ v, (results fn tmps).run P w2 = .ok v w2 ∧ R (.returned v) w2) →
  LeavesInM Fence.wide n P fn tmps R (M.map p7) .returning w
 | [], w, hh, h => h w hh
 | D :: M, w, hh, h => by
  have hD : w.heap[D]? = some (.deferred (some [])) := (hh.own _ Sq).2;refine ⟨by simp, .inl ⟨D, w.putObj D (.deferred none), rfl, run_takeDeferred hD, o8 M _ ?_ h⟩⟩;have hb := (hh.own _ Sq).1;have h2 := hh.KE (i := 0) (x := .ob D (.deferred (some []))) (y := .ob D (.deferred none)) (w' := w.putObj D (.deferred none)) rfl (fun b e => .inl e) ?_ (fun b hlt hne => World.putObj_heap_other (fun e => hne (by rw [e]; rfl))) ⟨hb, ?_⟩
  ·exact h2.sub (Th _ _)
  ·have hg := grownBy_putObj' w D (.deferred none);refine ⟨hg.os.trans hh.below.os, hg.tape.trans hh.below.tape, hg.output.trans hh.below.output, SK hh.size hg.size, fun k hk => (hg.block k (Tg hk hh.size) fun e => ?_).trans (hh.below.block k hk)⟩
   cases e
   omega
  ·exact World.putObj_heap_same (Vy.1 hD).1
theorem Ek {fn : Func} {e : Exit} {M : List Nat} {H : List HE} {rs : List ResultVar} (hh : Hp w0 (Ld M ++ H) w) (he : e = .normal ∨ e = .ret) (hr : fn.results = rs.toArray)
  (h : ∀ w2, Hp w0 H w2 → gM P ρ w2 rs vs ∧ R (.returned (uX vs)) w2) : Oj P fn R e M ρ w := by
 refine ⟨he, fun tmps ht n => o8 M w hh fun w2 hh2 => ?_⟩;obtain ⟨h1, h2⟩ := h w2 hh2;obtain ⟨_, v, h3, h4⟩ := ka (e := e) he hr h1 h2;exact ⟨v, h3 tmps ht, h4⟩
theorem Kh {d : Option Nat} {ty : TypeId} {af : Array Edge} {g : Option (Nat × Bool)} {x : Operand} {ts : Array TypeId} {l : Nat} {fn : FuncId} {tmps : Array Value}
  (hx : ev ρ x = .func (.yield l) #[] #[]) (ha : uM ρ args.toList = vs) (hy : (Instr.yield l vs.toArray).run P w = .ok (.round l fn tmps assign body) w) : (execOp (ev ρ) ⟨d, .call ⟨.value x, args, ts⟩, ty, pos, af, g⟩).run P w = .ok (.round l fn tmps assign body) w := by
 have h2 : args.map (ev ρ) = vs.toArray := mW args ha;simp [execOp, resolve, Deferred.ofValue, hx, h2, invoke, callFunc, program, Sem.run, hy]
theorem HA {Q : Kq} {rest : List Oper} {d : Nat} {ty : TypeId} {af : Array Edge} {x : Operand} {ts : Array TypeId} {l : Nat}
  (hx : ev ρ x = .func (.yield l) #[] #[]) (ha : uM ρ args.toList = vs) (hy : YieldAt Fence.wide m P l vs.toArray w R) (hN : d < N) (kk : ∀ e w', R e w' → ∃ v, e = .returned v ∧ WL ⟨none, [], true⟩ P N ops Q rest (cx ρ d v) w') :
  WL ⟨none, [], true⟩ P N ops Q (⟨some d, .call ⟨.value x, args, ts⟩, ty, pos, af, none⟩ :: rest) ρ w := by
 obtain ⟨fn, tmps, as_, bd, h1, h2⟩ := hy;refine ⟨fun h => (by cases h), fun a hf n => wpListIn_plain rfl fun K hK => ⟨fun _ _ => trivial, ?_⟩⟩;rw [hf.eval, kU _ (Kh hx ha h1) (fun _ h => by cases h)];refine ⟨fun h => (by cases h), ?_⟩;refine ⟨trivial, fun c cs _ => ?_⟩;obtain ⟨e, w', hR, hs⟩ := h2.2 c cs (room_wide _);refine ⟨e, w', ?_, hs⟩;obtain ⟨v, rfl, hk⟩ := kk e w' hR;exact hK _ _ (hk.jX _ (hf.put hN v) n)
variable {W : World} {ad : Addr} {c n : Nat}
theorem M8 {d : Option Nat} {ty : TypeId} {af : Array Edge} {g : Option (Nat × Bool)} {t e : TypeId} {x lo hi mx : Operand} {l h sz : Nat} {k1 k2 k3 : IntKind} {m1 m2 m3 : Int}
  (ht : P.underlying t = some (.slice e)) (hsz : (P.info? e).map (·.size) = some sz) (hx : ev ρ x = .slice (some ad) n c) (hlo : ev ρ lo = .int k1 m1) (hhi : ev ρ hi = .int k2 m2) (hmx : ev ρ mx = .int k3 m3) (e1 : m1 = (l : Int)) (e2 : m2 = (h : Int)) (e3 : m3 = (q : Int))
  (h1 : l ≤ h) (h2 : h ≤ q) (h3 : q ≤ c) (h4 : l < q) : (execOp (ev ρ) ⟨d, .slice t x (some lo) (some hi) (some mx), ty, pos, af, g⟩).run P w = .ok (.value (.slice (some (ad.add (l * sz))) (h - l) (q - l))) w := by
 obtain ⟨i, hi1, hi2⟩ := TH.1 hsz;subst e1 e2 e3 hi2;have a1 : (l : Int) ≤ h := Sd;have a2 : (h : Int) ≤ q := Sd;have a3 : (q : Int) ≤ c := Sd;have a4 : ¬ q = l := Sd;have a5 : ¬ q - l = 0 := Sd;simp [execOp, hx, Instr.sliceAt, Instr.slice, run_underlying ht, Instr.sliceBounds, Instr.sliceBound, asIntOf, hlo, hhi, hmx, h1, h2, h3, a4, a5, sizeOf, typeInfo, hi1]
theorem zY (A : Option Addr) (n c K : Nat) (w : World) (hK : 1 ≤ K) :
  Calls Tryz.prog 126 #[.slice A n c, .int .i64 K] w fun r w' => ∃ b2 b3, r = .returned (.func (.func 192) #[] #[.pointer (some ⟨b2, 0, none⟩), .pointer (some ⟨b3, 0, none⟩)]) ∧ Hp w [.blk b3 3 [.int .i64 K] (0, 0), .blk b2 37 [.slice A n c] (0, 0)] w' := by
 have hh := Hp.start w;refine aj (N := 9) (l := [.slice A n c, .int .i64 K]) Tryz.func126 rfl rfl (by simp) ?_;refine sr ?_;refine cq hh [_] ?_;intro b2 w2 hh;refine cq hh [_] ?_;intro b3 w3 hh;refine kt (by first | exact xt rfl | exact wY rfl) Se ?_;refine aa (ah (sr ?_));refine bE hh 0 ?_;refine a6 (aa (cF (aq (ai (sr ?_)))));refine sB rfl (aA (Bh rfl) (aA (Bh rfl) a7)) Se ?_;refine kt (by first | exact xt rfl | exact wY rfl) Se ?_;refine aa (au ?_);refine da ?_;exact ⟨_, _, rfl, hh⟩
def zg (b2 b3 : Nat) (W W' : World) : Prop := W'.cell? ⟨b2, 0, none⟩ = W.cell? ⟨b2, 0, none⟩ ∧ W'.cell? ⟨b3, 0, none⟩ = W.cell? ⟨b3, 0, none⟩
theorem rS {W' : World} (h : Below W.heap.size W W') : W.grownBy W' none := ⟨h.os, h.tape, h.output, h.size, fun k hk _ => h.block k hk⟩
theorem JE {b2 b3 : Nat} {A B C : World} (h : zg b2 b3 A B) (k : zg b2 b3 B C) : zg b2 b3 A C := ⟨k.1.trans h.1, k.2.trans h.2⟩
theorem KO {b2 b3 : Nat} (h2 : b2 < w.heap.size) (h3 : b3 < w.heap.size) (W : World) (l : Nat) (o o' : Obj) (hl : w.heap.size ≤ l) : zg b2 b3 W (W.putObj l o') :=
 ⟨World.cell?_of_block (World.putObj_heap_other (fun e => by simp at e; omega)), World.cell?_of_block (World.putObj_heap_other (fun e => by simp at e; omega))⟩
theorem EB (b2 b3 : Nat) (ad : Addr) (n c K m : Nat) (w : World) (h2 : w.cell? ⟨b2, 0, none⟩ = some (.slice (some ad) n c)) (h3 : w.cell? ⟨b3, 0, none⟩ = some (.int .i64 K)) (hn : n = m * K) (hK : 0 < K) (hc : n ≤ c) (hb : n ≤ 1000000) (hKb : K ≤ 1000000) :
  ∀ N1, SeqStopsK Fence.wide N1 Tryz.prog 192 #[.pointer (some ⟨b2, 0, none⟩), .pointer (some ⟨b3, 0, none⟩)] (fun j : Fin m => #[.slice (some (ad.add (j.val * K * 3))) K K]) (zg b2 b3) (fun xs => xs = List.finRange m) (fun _ => True) m w := by
 intro N1 l J Jx W hW hAb hAbx hY h0;refine callsIn_wide.2 ?_;show Calls _ _ #[.func (.yield l) #[] #[], .pointer (some ⟨b2, 0, none⟩), .pointer (some ⟨b3, 0, none⟩)] W _;have hAbd : ∀ xs W1 W2, J xs W1 → Below W1.heap.size W1 W2 → J xs W2 := fun xs W1 W2 h hb => hAb xs W1 W2 none h (rS hb) (fun r e => nomatch e);have c2 := cj hW h2;have c3 := cj hW h3;refine Au (N := 31) (l := [.func (.yield l) #[] #[], .pointer (some ⟨b2, 0, none⟩), .pointer (some ⟨b3, 0, none⟩)]) Tryz.func192 rfl rfl (by simp) ?_;refine sr (aI (aa (ao ?_)));refine aN [4, 5, 6, 7, 8, 9, 10, 11, 12, 13, 14, 15, 16, 17, 18, 19, 20, 21, 22, 23, 24, 25, 26, 27, 28, 29, 30] 4
  (fun v w' => ∃ j : Nat, j ≤ m ∧ v = .int .i64 ((j * K : Nat) : Int) ∧ J ((List.finRange m).take j) w' ∧ w'.cell? ⟨b2, 0, none⟩ = some (.slice (some ad) n c) ∧ w'.cell? ⟨b3, 0, none⟩ = some (.int .i64 K))
  (fun v _ => n + 1 - (intOf v).toNat) ?_ ?_
 ·exact ⟨0, Sn _, by rw [UE]; rfl, h0, c2, c3⟩
 ·clear c2 c3 h0;rintro ρ' v w' ⟨j, hj, rfl, hJj, c2, c3⟩;have hh := Hp.start w';by_cases hlt : j < m
  ·have h5 : (j + 1) * K ≤ m * K := S9 _ hlt;have h6 : (j + 1) * K = j * K + K := Tl j K;refine ah (sr (mI ?_));refine cv aP.out rfl (c2) Se ?_;refine aK ?_;refine Cu ?_;refine Ik ?_;refine aU 5 [[(2, none)], [(1, none)], [(4, none)], [(14, some 1), (15, some 2)], [(16, some 3)]] [(4, 17), (3, 16), (2, 15), (1, 14), (0, 13)] hh mixed Sf ?_;refine wJ (fun _ hj => cj hj.bl c3) ?_;refine wJ (fun _ hj => cj hj.bl c2) ?_;refine eH ?_;refine bB (i := 3) (fun ρ1 w1 hj hR => ik (l := (j * K)) bq.out aP.size (show ρ1 14 = Value.slice _ _ _ from hR.1) (show ρ1 15 = Value.int _ _ from hR.2.1) Sd Sd Sd) ?_;refine GN ?_;refine aR ?_;intro f W hJ hV;have hb_3 := hJ.bl;obtain ⟨v17, v16, v15, v14, v13, _⟩ := hV;replace hh := hJ.hp;refine aX (bp (ae v17 (ae v16 (ae v15 (ae v14 (ae v13 aW)))))) ?_;dsimp only [ck];clear hJ;have hmin : (if ((n - j * K : Nat) : Int) < (K : Int) then ((n - j * K : Nat) : Int) else (K : Int)) = (K : Int) := Si Sd;refine vB rfl rfl Se ?_;rw [hmin];have c2' := cj hh.below c2;have c3' := cj hh.below c3;have hJ2 := hAbd _ _ _ hJj hh.below
   have hfr : (List.finRange m)[j]? = some ⟨j, hlt⟩ := by rw [Ts (by rw [Vj]; exact hlt), List.getElem_finRange]; rfl
   have hy := hY ((List.finRange m).take j) ⟨j, hlt⟩ _ hJ2 (by rw [SP, Vj]; omega);refine aI (aa (sr ?_));refine ix ?_;refine cv aP.out rfl (c2') Se ?_;refine mI (mI (mI ?_));refine a9 (mI (mI ?_));refine a9 ?_;refine aM rfl rfl Se (M8 bq.out aP.size (C5 rfl) rfl rfl rfl (l := j * K) (h := j * K + K) (q := j * K + K) rfl Sd Sd Sd Sd Sd Sd) ?_;have e28 : j * K + K - j * K = K := Sd;rw [e28];refine HA rfl (aA (C5 rfl) a7) hy Se ?_;rintro e_ w29 (⟨rfl, hJ3, hk⟩ | ⟨rfl, hJx⟩)
   ·refine ⟨_, rfl, ?_⟩;have c2'' := hk.1.trans c2';have c3'' := hk.2.trans c3';refine fF ?_;refine zO ?_;refine cv aP.out rfl (c3'') Se ?_;refine a9 (aI (az (ai ?_)));refine ⟨⟨j + 1, hlt, ?_, by rw [ay hfr]; exact hJ3, c2'', c3''⟩, ?_, ?_⟩
    ·show Value.int _ (((j * K : Nat) : Int) + (K : Int)) = _;rw [h6]
     rfl
    ·show n + 1 - (((j * K : Nat) : Int) + (K : Int)).toNat < n + 1 - ((j * K : Nat) : Int).toNat;omega
    ·exact eB
   ·refine ⟨_, rfl, ?_⟩;refine fF ?_;refine aa (cT (au (bQ (aG (aG (bQ ?_))))));refine Jc (by first | exact .inr rfl | exact .inl rfl) rfl ?_;exact ⟨⟨_, rfl⟩, .inr ⟨_, trivial, hJx⟩⟩
  ·obtain rfl : j = m := Sd;refine ah (sr (mI ?_));refine cv aP.out rfl (c2) Se ?_;refine aK ?_;refine a6 (aa (cF (aV (aE (aE (bo ?_))))));refine Jc (by first | exact .inr rfl | exact .inl rfl) rfl ?_;rw [Su (by rw [Vj]; omega)] at hJj;exact ⟨⟨_, rfl⟩, .inl ⟨_, rfl, hJj⟩⟩
variable {j : Nat}
def ej (d : Nat) (a b : Dyadic) (i k : Nat) : Dyadic := if k < i then 0 else nD (bin (d - i) (k - i)) * a ^ i * b ^ (k - i)
theorem M0 (d : Nat) (s : Dyadic) : ej d s (1 - s) = ua d s := rfl
def dV (xs : List Dyadic) (i : Nat) : Dyadic := (xs[i]?).getD 0
def cY (d : Nat) (M : Nat → Nat → Dyadic) (xs : List Dyadic) : List Dyadic := (List.range (d + 1)).map fun k => sm (List.range (d + 1)) fun i => dV xs i * M i k
def hH (d : Nat) (a b : Dyadic) (xs : List Dyadic) (i j : Nat) : List Dyadic := (List.range (d + 1)).map fun k => sm (List.range i) (fun m => dV xs m * ej d a b m k) + if i ≤ k ∧ k < i + j then dV xs i * ej d a b i k else 0
theorem jP (d : Nat) (a b : Dyadic) (xs : List Dyadic) (i j : Nat) : (hH d a b xs i j).length = d + 1 := by simp [hH]
theorem sT (d : Nat) (a b : Dyadic) (xs : List Dyadic) : hH d a b xs 0 0 = List.replicate (d + 1) 0 := by
 unfold hH;refine List.eq_replicate_iff.2 ⟨by simp, fun x hx => ?_⟩;obtain ⟨k, _, rfl⟩ := SB.1 hx;rw [Si Sd, UH]
 rfl
theorem wW {d i : Nat} {a b : Dyadic} (h : k ≤ d) : (hH d a b xs i j)[k]? = some (sm (List.range i) (fun m => dV xs m * ej d a b m k) + if i ≤ k ∧ k < i + j then dV xs i * ej d a b i k else 0) := by
 unfold hH;exact F0
theorem xV {d i : Nat} {a b : Dyadic} {o : Dyadic} (h : i + j ≤ d) (ho : (hH d a b xs i j)[i + j]? = some o) : (hH d a b xs i j).set (i + j) (o + dV xs i * ej d a b i (i + j)) = hH d a b xs i (j + 1) := by
 rw [wW h, Si Sd, UH] at ho;have ho := Tc ho;subst ho;refine S0 fun k => ?_;rw [Tz, jP];by_cases hk : k ≤ d
 ·rw [wW hk, wW hk];by_cases e : i + j = k
  ·subst e;rw [Sj rfl, Sj Sd, Sj Sd]
  ·rw [Si e];by_cases h2 : i ≤ k ∧ k < i + j
   ·rw [Sj h2, Sj Sd]
   ·rw [Si h2, Si Sd]
 ·rw [Si Sd, Sw (by rw [jP]; omega), Sw (by rw [jP]; omega)]
theorem vk {d i : Nat} {a b : Dyadic} (h : i ≤ d) : hH d a b xs i (d - i + 1) = hH d a b xs (i + 1) 0 := by
 unfold hH;refine Um fun k hk => ?_;have hk := S1.1 hk;rw [Si (show ¬ (i + 1 ≤ k ∧ k < i + 1 + 0) by omega), UH, Uv, jt];by_cases h2 : i ≤ k
 ·rw [Sj Sd]
 ·rw [Si Sd];unfold ej;rw [Sj (show k < i by omega), U4]
theorem mH (d : Nat) (a b : Dyadic) (xs : List Dyadic) : hH d a b xs (d + 1) 0 = cY d (ej d a b) xs := by
 unfold hH cY;refine Um fun k _ => ?_;rw [Si Sd, UH]
theorem Sz.Jj {a : Dyadic} (h : Sz q a) {i d : Nat} (hi : i ≤ d) : Sz (1 + q * d) (a ^ i) := (Sz.pow h i).mono (by have := SX q hi; omega)
theorem Co {d i : Nat} {a b : Dyadic} (ha : Sz q a) (hb : Sz q b) (hd : d ≤ 127) (hk : k ≤ d) : Sz (130 + 2 * (q * d)) (ej d a b i k) := by
 unfold ej;split
 ·exact Sz.zero _
 ·refine (((pJ (d - i) (k - i) Sd).mul (ha.Jj (show i ≤ d by omega))).mul (hb.Jj (show k - i ≤ d by omega))).mono Sd
theorem nV (h : ∀ x ∈ xs, Sz k x) (i : Nat) : Sz k (dV xs i) := by
 unfold dV
 cases hx : xs[i]? with
 | none => exact Sz.zero _
 | some x => exact h x (Sp hx)
theorem rk {d i K : Nat} {a b : Dyadic} (hx : ∀ x ∈ xs, Sz K x) (ha : Sz q a) (hb : Sz q b) (hd : d ≤ 127) (hi : i ≤ d + 1) : ∀ x ∈ hH d a b xs i j, Sz (K + 130 + 2 * (q * d) + 130) x := fun x hx2 => by
 obtain ⟨k, hk, rfl⟩ := SB.1 hx2;have hk := S1.1 hk;have h1 : ∀ m, Sz (K + (130 + 2 * (q * d))) (dV xs m * ej d a b m k) := fun m => (nV hx m).mul (Co ha hb hd Sd);have h2 := HF (l := List.range i) (f := fun m => dV xs m * ej d a b m k) (k := K + (130 + 2 * (q * d))) fun m _ => h1 m;rw [UU] at h2;refine (h2.add (y := if i ≤ k ∧ k < i + j then dV xs i * ej d a b i k else 0) ?_).mono Sd;split
 ·exact (h1 i).mono Sd
 ·exact Sz.zero _
theorem jF (d : Nat) (M : Nat → Nat → Dyadic) (xs : List Dyadic) : (cY d M xs).length = d + 1 := by simp [cY]
theorem pd {d : Nat} (h : k ≤ d) : (cY d M xs)[k]? = some (sm (List.range (d + 1)) fun i => dV xs i * M i k) := by
 unfold cY;exact F0
theorem yV {d : Nat} {s : Dyadic} (hl : xs.length = d + 1) : (cY d (ej d (1 - s) s) xs.reverse).reverse = cY d (ue d s) xs := by
 refine S0 fun k => ?_;by_cases hk : k ≤ d
 ·rw [TI (by rw [jF]; omega), jF, show d + 1 - 1 - k = d - k by omega, pd Sd, pd hk];congr 1;rw [Ho];refine aY fun i hi => ?_;have hi := S1.1 hi;have e1 : dV xs.reverse (d - i) = dV xs i := by
   unfold dV;rw [TI Sd, hl, show d + 1 - 1 - (d - i) = i by omega]
  rw [e1];congr 1;unfold ej ue;by_cases h : i < k
  ·rw [Sj Sd, Sj h]
  ·rw [Si Sd, Si h, show d - (d - i) = i by omega, show d - k - (d - i) = i - k by omega];generalize nD (bin i (i - k)) = x;generalize (1 - s) ^ (d - i) = y;generalize s ^ (i - k) = z;grind
 ·rw [Sw (by rw [SZ, jF]; omega), Sw (by rw [jF]; omega)]
variable {G : Nat}
section
variable (A : List Nat) (d : Nat) (φ : List Dyadic → List Dyadic)
def stS (X : List Dyadic) (q f i : Nat) : List Dyadic := (List.range X.length).map fun p =>
 if p / ar A / (d + 1) = q ∧ (p % ar A < f ∨ p % ar A = f ∧ p / ar A % (d + 1) < i) then dV (φ (bZ A d X (p % ar A) q)) (p / ar A % (d + 1)) else dV X p
def Hq (X : List Dyadic) (q : Nat) : List Dyadic := stS A d φ X q (ar A) 0
end
section
variable {A : List Nat} {d : Nat} {φ : List Dyadic → List Dyadic} {X : List Dyadic}
theorem jz (q f i : Nat) : (stS A d φ X q f i).length = X.length := by simp [stS]
theorem nW {f i p : Nat} (h : p < X.length) : (stS A d φ X q f i)[p]? = some (if p / ar A / (d + 1) = q ∧ (p % ar A < f ∨ p % ar A = f ∧ p / ar A % (d + 1) < i) then dV (φ (bZ A d X (p % ar A) q)) (p / ar A % (d + 1)) else dV X p) := by
 unfold stS;rw [St, S8 h]
 rfl
theorem jr {f : Nat} (hf : f < ar A) (hk : k ≤ d) : bO A d f k q % ar A = f ∧ bO A d f k q / ar A % (d + 1) = k ∧ bO A d f k q / ar A / (d + 1) = q := by
 unfold bO;have hA := dm A;rw [T9, SY hf, TE _ _ hA, Tj hf, SM, T9, SY Sd, TE _ _ Sd, Tj Sd, SM];exact ⟨rfl, rfl, rfl⟩
theorem rm (p : Nat) : bO A d (p % ar A) (p / ar A % (d + 1)) (p / ar A / (d + 1)) = p := by
 unfold bO;rw [UD, UD]
theorem kE {l : List Dyadic} (h : k < l.length) : l[k]? = some (dV l k) := by
 unfold dV;rw [Ts h]
 rfl
theorem ID (q : Nat) : stS A d φ X q 0 0 = X := by
 refine S0 fun p => ?_;by_cases h : p < X.length
 ·rw [nW h, Si Sd, kE h]
 ·rw [Sw (by rw [jz]; omega), Sw Sd]
theorem FF (q f : Nat) : stS A d φ X q f (d + 1) = stS A d φ X q (f + 1) 0 := by
 refine S0 fun p => ?_;by_cases h : p < X.length
 ·rw [nW h, nW h];have := SO (p / ar A) (show 0 < d + 1 by omega);congr 1;by_cases h1 : p / ar A / (d + 1) = q ∧ p % ar A < f + 1
  ·rw [Sj Sd, Sj Sd]
  ·rw [Si Sd, Si Sd]
 ·rw [Sw (by rw [jz]; omega), Sw (by rw [jz]; omega)]
theorem HU {f i : Nat} (hf : f < ar A) (hi : i ≤ d) (hp : bO A d f i q < X.length) : (stS A d φ X q f 0)[bO A d f i q]? = some (dV (bZ A d X f q) i) := by
 obtain ⟨h1, h2, h3⟩ := jr (q := q) hf hi;rw [nW hp, h1, h2, h3, Si Sd];congr 1;unfold bZ;have : dV ((List.range (d + 1)).map fun i => (X[bO A d f i q]?).getD 0) i = (X[bO A d f i q]?).getD 0 := by
  unfold dV;exact F0
 rw [this]
 rfl
theorem Ji {f i : Nat} (hf : f < ar A) (hi : i ≤ d) (hp : bO A d f i q < X.length) : (stS A d φ X q f i).set (bO A d f i q) (dV (φ (bZ A d X f q)) i) = stS A d φ X q f (i + 1) := by
 obtain ⟨h1, h2, h3⟩ := jr (q := q) hf hi;refine S0 fun p => ?_;rw [Tz, jz];by_cases h : p < X.length
 ·rw [nW h, nW h];by_cases e : bO A d f i q = p
  ·subst e;rw [Sj rfl, Sj h, h1, h2, h3, Sj Sd]
  ·rw [Si e];congr 1;by_cases h4 : p / ar A / (d + 1) = q ∧ (p % ar A < f ∨ p % ar A = f ∧ p / ar A % (d + 1) < i)
   ·rw [Sj h4, Sj Sd]
   ·rw [Si h4, Si];intro h5;have h6 : p / ar A / (d + 1) = q ∧ p % ar A = f ∧ p / ar A % (d + 1) = i := Sd;have := rm (A := A) (d := d) p;rw [h6.1, h6.2.1, h6.2.2] at this;exact e this
 ·rw [Si Sd, Sw (by rw [jz]; omega), Sw (by rw [jz]; omega)]
theorem Mf {f i : Nat} (hX : ∀ x ∈ X, Sz k x) (hφ : ∀ l : List Dyadic, l.length = d + 1 → (∀ x ∈ l, Sz k x) → ∀ x ∈ φ l, Sz (k + G) x) : ∀ x ∈ stS A d φ X q f i, Sz (k + G) x := fun x hx => by
 obtain ⟨p, hp, rfl⟩ := SB.1 hx;split
 ·refine nV (hφ _ (by simp [bZ]) fun y hy => ?_) _;obtain ⟨j, _, rfl⟩ := SB.1 hy;exact nV hX _
 ·exact (nV hX p).mono Sd
def Fy (A : List Nat) (d : Nat) (B : List Nat) (M : Nat → Nat → Dyadic) (xs : List Dyadic) (j : Nat) : List Dyadic := (List.range xs.length).map fun p => if p / ar A / (d + 1) < j then dV (dw (A ++ d :: B) A.length M xs) p else dV xs p
theorem oF (B : List Nat) (M : Nat → Nat → Dyadic) (xs : List Dyadic) (j : Nat) : (Fy A d B M xs j).length = xs.length := by simp [Fy]
theorem sv {B : List Nat} {p : Nat} (h : p < xs.length) : (Fy A d B M xs j)[p]? = some (if p / ar A / (d + 1) < j then dV (dw (A ++ d :: B) A.length M xs) p else dV xs p) := by
 unfold Fy;rw [St, S8 h]
 rfl
theorem HI (B : List Nat) (M : Nat → Nat → Dyadic) (xs : List Dyadic) : Fy A d B M xs 0 = xs := by
 refine S0 fun p => ?_;by_cases h : p < xs.length
 ·rw [sv h, Si (Nat.not_lt_zero _), kE h]
 ·rw [Sw (by rw [oF]; omega), Sw Sd]
theorem Gk {B : List Nat} (hl : xs.length = ar (A ++ d :: B)) : Fy A d B M xs (ar B) = dw (A ++ d :: B) A.length M xs := by
 refine S0 fun p => ?_;by_cases h : p < xs.length
 ·obtain ⟨f, k, q, hf, hk, hq, rfl⟩ := lC (A := A) (d := d) (B := B) (p := p) Sd;rw [sv h, (jr hf hk).2.2, Sj hq, kE (by rw [iE]; omega)]
 ·rw [Sw (by rw [oF]; omega), Sw (by rw [iE]; omega)]
theorem F8 {B : List Nat} (hl : xs.length = ar (A ++ d :: B)) : Hq A d (cY d M) (Fy A d B M xs j) j = Fy A d B M xs (j + 1) := by
 refine S0 fun p => ?_;by_cases h : p < xs.length
 ·obtain ⟨f, k, q, hf, hk, hq, rfl⟩ := lC (A := A) (d := d) (B := B) (p := p) Sd;obtain ⟨h1, h2, h3⟩ := jr (q := q) hf hk;unfold Hq;rw [nW (by rw [oF]; exact h), sv h, h1, h2, h3];congr 1;by_cases e : q = j
  ·subst e;rw [Sj ⟨rfl, .inl hf⟩, Sj Sd];have e1 : bZ A d (Fy A d B M xs q) f q = bZ A d xs f q := by
    unfold bZ;refine Um fun i hi => ?_;have hi := S1.1 hi;have hp2 : bO A d f i q < xs.length := by rw [hl]; exact l4 hf Sd hq
    rw [sv hp2, (jr hf (show i ≤ d by omega)).2.2, Si Sd, kE hp2]
   rw [e1];have e2 : dV (cY d M (bZ A d xs f q)) k = sm (List.range (d + 1)) fun i => dV (bZ A d xs f q) i * M i k := by
    show ((cY d M _)[k]?).getD 0 = _;rw [pd hk]
    rfl
   have e3 : dV (dw (A ++ d :: B) A.length M xs) (bO A d f k q) = sm (List.range (d + 1)) fun i => (xs[bO A d f i q]?).getD 0 * M i k := by
    show ((dw _ _ M xs)[_]?).getD 0 = _;rw [rR M xs hf hk hq]
    rfl
   rw [e2, e3];refine aY fun i hi => ?_;have hi := S1.1 hi;congr 1;show ((bZ A d xs f q)[i]?).getD 0 = _;unfold bZ;rw [St, S8 hi]
   rfl
  ·rw [Si Sd];have e1 : dV (Fy A d B M xs j) (bO A d f k q) = if q < j then dV (dw (A ++ d :: B) A.length M xs) (bO A d f k q) else dV xs (bO A d f k q) := by
    show ((Fy A d B M xs j)[_]?).getD 0 = _;rw [sv h, h3]
    rfl
   rw [e1];by_cases h4 : q < j
   ·rw [Sj h4, Sj Sd]
   ·rw [Si h4, Si Sd]
 ·rw [Sw (by unfold Hq; rw [jz, oF]; omega), Sw (by rw [oF]; omega)]
end
variable {Hr : List HE}
theorem pM (N : Nat) : gd N [.bool false, .string (ByteArray.mk #[]), .int .i64 0] = aw NR.cells ((List.replicate N (0 : Dyadic)).map nR) := by
 rw [HH, sV]
theorem Sz.bf {x : Dyadic} (h : Sz k x) : (nR x).bf.size ≤ k + 1 := by have := h.nr.1; omega
theorem IQ (m : Nat) : HJ [m] = (lU m).map fun n => nR (nD n) := by
 have h : z6 [m] = lU m := by
  have h1 := zI [] m;have h2 : z6 [] = [1] := by decide
  rw [Ss, h2] at h1;rw [h1];simp
 unfold HJ;rw [h]
structure z5 (q : Nat) (s : NR) (x : Dyadic) : Prop where
 ok : s.ok
 bf : s.bf.size ≤ 2001
 d : s.d = x
 sz : Sz q x
theorem z5.of {x : Dyadic} (h : Sz q x) (hq : q ≤ 2000) : z5 q (nR x) x := ⟨h.ok Sd, by have := h.bf; omega, cn x, h⟩
theorem qU (sa sb : NR) (a b : Dyadic) (L : Option Addr) (n c d : Nat) (xs : List Dyadic) (k q : Nat) (w : World) (hT : dD w) (hS : Sl w L n 3 (aw NR.cells (xs.map nR))) (hn : n = d + 1) (hd : d ≤ 127) (hx : ∀ x ∈ xs, Sz k x) (va : z5 q sa a) (vb : z5 q sb b) (hk : k ≤ 300000) (hq : q ≤ 2000) :
  Calls Tryz.prog 167 #[.agg #[.bool sa.neg, .string sa.bf, .int .i64 sa.e, .bool sb.neg, .string sb.bf, .int .i64 sb.e], .slice L n c] w fun r w' => ∃ A c', r = .returned (.slice A n c') ∧ w'.ownsRow w.heap.size 65 3 (.slice A n c') n (aw NR.cells ((cY d (ej d a b) xs).map nR)) ∧ Below w.heap.size w w' := by
 have hh := Hp.start w;have hln : xs.length = n := by have := hS.bz NR.len Se; simpa using this
 have hqd : q * d ≤ 2000 * 127 := Tw hq hd;have ha := va.sz;have hb := vb.sz;have hpw : ∀ (sz : NR) (z : Dyadic), z5 q sz z → ∀ (i : Nat), i ≤ d → ∀ w1, dD w1 → Calls Tryz.prog 51 #[.agg #[.bool sz.neg, .string sz.bf, .int .i64 sz.e], .int .i64 (i : Int)] w1 fun r w' => r = .returned (.agg #[.bool (nR (z ^ i)).neg, .string (nR (z ^ i)).bf, .int .i64 (nR (z ^ i)).e]) ∧ Below w1.heap.size w1 w' := fun sz z hz i hi w1 hT1 => by
  have h1 := hz.bf;have h2 : i * sz.bf.size ≤ 127 * 2001 := Tw Sd Sd;have := BF sz i w1 hT1 hz.ok (by rw [T7]; omega) Sd;rwa [hz.d, T7] at this
 obtain ⟨ad, rfl, hr⟩ := hS.at_ Sd;refine aj (N := 66) (l := [.agg #[.bool sa.neg, .string sa.bf, .int .i64 sa.e, .bool sb.neg, .string sb.bf, .int .i64 sb.e], .slice (some ad) n c]) Tryz.func167 rfl rfl (by simp) ?_;refine sr ?_;refine cq hh [_,_,_,_,_,_] ?_;intro b2 w2 hh;refine aL (aa (sr (mL (aK ?_))));refine eu (aI (aa (sr (mI ?_))));refine a9 ?_;refine Dz ?_;intro b16 w16 hh;refine pj ?_;rw [pM, hn, ← sT d a b xs, ← hn] at hh;refine aN [7, 8, 9, 10, 19, 20, 21, 22, 23, 24, 25, 26, 27, 28, 29, 30, 31, 32, 33, 34, 35, 36, 37, 38, 39, 40, 41, 42, 43, 44, 45, 46, 47, 48, 49, 50, 51, 52, 53, 54, 55, 56, 57, 58, 59, 60, 61, 62, 63, 64] 19
  (fun v w' => ∃ i : Nat, i ≤ n ∧ v = .int .i64 i ∧ Hp w [.row (some ⟨b16, 0, none⟩) n n 65 3 (aw NR.cells ((hH d a b xs i 0).map nR)), .blk b2 183 [.bool sa.neg, .string sa.bf, .int .i64 sa.e, .bool sb.neg, .string sb.bf, .int .i64 sb.e] (0, 0)] w')
  (fun v _ => n - (intOf v).toNat) ?_ ?_
 ·exact ⟨0, Sn _, rfl, hh⟩
 ·clear hh;rintro ρ' v w' ⟨i, hi, rfl, hh⟩;by_cases hlt : i < n
  ·obtain ⟨x, hxi⟩ := av (l := xs) (k := i) Sd;have hxn : (xs.map nR)[i]? = some (nR x) := by rw [St, hxi]; rfl
   have hat : dV xs i = x := by unfold dV; rw [hxi]; rfl
   have zx := hx x (Sp hxi);have hpa := hpw sa a va i Sd;have zp := ha.Jj (show i ≤ d by omega);have zc := zx.mul zp;have hmul := fun A cc w1 hT1 hS1 => iD A 2 cc [nR x, nR (a ^ i)] w1 hT1 hS1 (by simpa using ⟨zx.ok Sd, zp.ok Sd⟩) 600000 (by simpa [cn] using ⟨zx.mono Sd, zp.mono Sd⟩) Sd Sd;rw [show iX ([nR x, nR (a ^ i)].map NR.d) = x * a ^ i by simp only [SW, Tx, cn]; show 1 * x * a ^ i = _; rw [Uz]] at hmul;refine sr ?_;refine fj ?_;refine bX ?_;refine ct (vs := [_, _, _]) aP.out rfl ((hr.ext hh.below).recAt NR.len hxn) rfl Se ?_;refine bJ hh ?_;intro b8 w8 hh;refine aI ?_;refine bK hh 0 [_,_,_] ?_;intro ws hh;replace hh : Hp _ (.blk _ _ [_, _, _] _ :: _) _ := hh;refine aa (ah ?_);refine aU 5 [[(8, none)], [(2, none)], [(25, some 1)], [(7, none)], [(26, some 2), (27, some 3)]] [(4, 28), (3, 27), (2, 26), (1, 25), (0, 24)] hh mixed Sf ?_;refine eX 0 [_,_,_] ?_;refine ek ?_;refine eX 2 [_,_,_] ?_;refine eH ?_;refine dC (fun _ hj => hpa _ (hT.hp hj.hp)) ?_;refine aR ?_;intro f W hJ hV;have hb_6 := hJ.bl;obtain ⟨v28, v27, v26, v25, v24, _⟩ := hV;replace hh := hJ.hp;refine aX (bp (ae v28 (ae v27 (ae v26 (ae v25 (ae v24 aW)))))) ?_
   dsimp only [ck];clear hJ;refine u2 ?_;intro b29 w29 hh;refine br hh (hmul _ _ _ (hT.hp hh) (hh.aD (i := 0) rfl)) rfl ?_;intro w30 hh;refine bK hh 1 [_,_,_] ?_;intro ws hh;replace hh : Hp _ (_ :: .blk _ _ [_, _, _] _ :: _) _ := hh;refine aa (sr (mI (mI ?_)));refine eu ?_;refine qI ?_;intro b34 w34 hh;have e33 : (n : Int) - 1 - (i : Int) = ((d - i : Nat) : Int) := Sd;rw [e33] at hh;have hcw : ar [d - i] = d - i + 1 := by simp [ar]
   have hwt := fun w1 hT1 hS1 => tB (some ⟨b34, 0, none⟩) 1 1 [d - i] w1 hT1 hS1 (by simp) (by simp; omega) (by rw [hcw]; omega);rw [hcw, IQ] at hwt;refine aC (hwt _ (hT.hp hh) (hh.aD (i := 0) rfl)) ak.out rfl Se ?_;rintro e_ w35 ⟨A35, c35, rfl, hown_, hb_⟩;refine ⟨_, rfl, ?_⟩;replace hh := hh.aO (x := .row _ _ _ _ _ _) hb_ hown_;refine aK (mI (aa (ao ?_)));replace hh := hh.sub (Sk _ (Sm _ (Sm _ (Sk _ (Sk _ (Sk _ SD))))));refine aN [9, 10, 37, 38, 39, 40, 41, 42, 43, 44, 45, 46, 47, 48, 49, 50, 51, 52, 53, 54, 55, 56, 57, 58, 59, 60, 61, 62, 63] 37
    (fun v w' => ∃ j : Nat, j ≤ d - i + 1 ∧ v = .int .i64 j ∧ Hp w [.row A35 (d - i + 1) c35 65 3 (aw NR.cells ((lU (d - i)).map fun n => nR (nD n))), .blk b8 65 [.bool (nR (x * a ^ i)).neg, .string (nR (x * a ^ i)).bf, .int .i64 (nR (x * a ^ i)).e] (0, 0), .row (some ⟨b16, 0, none⟩) n n 65 3 (aw NR.cells ((hH d a b xs i j).map nR)), .blk b2 183 [.bool sa.neg, .string sa.bf, .int .i64 sa.e, .bool sb.neg, .string sb.bf, .int .i64 sb.e] (0, 0)] w')
    (fun v _ => d - i + 1 - (intOf v).toNat) ?_ ?_
   ·exact ⟨0, Sn _, rfl, hh⟩
   ·clear hh;rintro ρ2 v w2 ⟨j, hj, rfl, hh⟩;by_cases hjn : j < d - i + 1
    ·have hbl : (lU (d - i))[j]? = some (bin (d - i) j) := rB Sd;have hbn : ((lU (d - i)).map fun n => nR (nD n))[j]? = some (nR (nD (bin (d - i) j))) := by rw [St, hbl]; rfl
     have zb := pJ (d - i) j Sd;have hpb := hpw sb b vb j Sd;have zq := hb.Jj (show j ≤ d by omega);obtain ⟨o, ho⟩ := av (l := hH d a b xs i j) (k := i + j) (by rw [jP]; omega);have hon : ((hH d a b xs i j).map nR)[i + j]? = some (nR o) := by rw [St, ho]; rfl
     have zo := rk (j := j) hx ha hb hd (show i ≤ d + 1 by omega) o (Sp ho);have zy := (zc.mul zb).mul zq;have hm3 := fun A cc w1 hT1 hS1 => iD A 3 cc [nR (x * a ^ i), nR (nD (bin (d - i) j)), nR (b ^ j)] w1 hT1 hS1 (by simpa using ⟨zc.ok Sd, zb.ok Sd, zq.ok Sd⟩) 600000 (by simpa [cn] using ⟨zc.mono Sd, zb.mono Sd, zq.mono Sd⟩) Sd Sd;rw [show iX ([nR (x * a ^ i), nR (nD (bin (d - i) j)), nR (b ^ j)].map NR.d) = x * a ^ i * nD (bin (d - i) j) * b ^ j by simp only [SW, Tx, cn]; show 1 * (x * a ^ i) * _ * _ = _; rw [Uz]] at hm3;have hset := xV (show i + j ≤ d by omega) ho;have hval : dV xs i * ej d a b i (i + j) = x * a ^ i * nD (bin (d - i) j) * b ^ j := by
      unfold ej;rw [hat, Si Sd, show i + j - i = j by omega];generalize nD (bin (d - i) j) = u;generalize a ^ i = v;generalize b ^ j = z;grind
     rw [hval] at hset;generalize x * a ^ i * nD (bin (d - i) j) * b ^ j = y at *;have hsum := fun A cc w1 hT1 hS1 => iG A 2 cc [nR o, nR y] w1 hT1 hS1 (by simpa using ⟨zo.ok Sd, zy.ok Sd⟩) 2000000 (by simpa [cn] using ⟨zo.mono Sd, zy.mono Sd⟩) Sd;rw [show m9 ([nR o, nR y].map NR.d) = o + y by simp only [SW, Tx, cn, kx]] at hsum;have hll : ((hH d a b xs i j).map nR).length = n := by rw [Sx, jP]; omega
     generalize hH d a b xs i j = S at *;have hrl := dZ NR.len (S.map nR);obtain ⟨gw, rfl⟩ := hh.cD (i := 0) rfl Sd;refine sr ?_;refine fj ?_;refine qN ?_;refine ct (vs := [_, _, _]) aP.out rfl (hh.eL (f := NR.cells) (x := nR (nD (bin (d - i) j))) (l := (lU (d - i)).map fun n => nR (nD n)) (i := 0) rfl NR.len Se hbn) rfl Se ?_;refine bJ hh ?_;intro b10 w10 hh;refine aI ?_;refine bK hh 0 [_,_,_] ?_;intro ws hh;replace hh : Hp _ (.blk _ _ [_, _, _] _ :: _) _ := hh;refine aa ?_;refine aU 20 [[(6, none)], [(7, none)], [(9, none)], [(43, some 1), (44, some 2)], [(6, none)], [(7, none)], [(9, none)], [(47, some 5), (48, some 6)], [(46, some 4), (49, some 7)], [(50, some 8)], [(8, none)], [(10, none)], [(2, none)], [(54, some 12)], [(9, none)], [(55, some 13), (56, some 14)], [(52, some 10), (53, some 11), (57, some 15)], [(58, some 16)], [(51, some 9), (59, some 17)], [(60, some 18)]] [(19, 61), (18, 60), (17, 59), (16, 58), (15, 57), (14, 56), (13, 55), (12, 54), (11, 53), (10, 52), (9, 51), (8, 50), (7, 49), (6, 48), (5, 47), (4, 46), (3, 45), (2, 44), (1, 43), (0, 42)] hh mixed Sf ?_;refine iw ?_;refine eH ?_;refine eH ?_;refine uh ?_;refine iw ?_;refine eH ?_;refine eH ?_
     refine uh ?_;refine Df ((i + j)) ?_;refine xx [_,_,_] (fun _ hj => hj.hp.eL (f := NR.cells) (x := nR o) (l := S.map nR) (i := 3) rfl NR.len Se hon) ?_;refine eX 2 [_,_,_] ?_;refine eX 0 [_,_,_] ?_;refine ek ?_;refine eX 4 [_,_,_] ?_;refine eH ?_;refine dC (fun _ hj => hpb _ (hT.hp hj.hp)) ?_;refine z7 [_,_,_,_,_,_,_,_,_] ?_;refine a8 (i := 17) (Is (.agg #[.bool (nR y).neg, .string (nR y).bf, .int .i64 (nR y).e])) Is.ext ?_ ?_
     ·intro ρ1 w1 hj hR;obtain ⟨A58, c58, h58, s58⟩ := hR.1;exact bA rfl (aZ ak.out (aA h58 a7)) (hm3 A58 c58 _ (hT.hp hj.hp) s58) (fun _ _ hq => ⟨_, hq.1, hq.2, rfl⟩)
     refine z7 [_,_,_,_,_,_] ?_;refine a8 (i := 19) (Is (.agg #[.bool (nR (o + y)).neg, .string (nR (o + y)).bf, .int .i64 (nR (o + y)).e])) Is.ext ?_ ?_
     ·intro ρ1 w1 hj hR;obtain ⟨A60, c60, h60, s60⟩ := hR.1;exact bA rfl (aZ ak.out (aA h60 a7)) (hsum A60 c60 _ (hT.hp hj.hp) s60) (fun _ _ hq => ⟨_, hq.1, hq.2, rfl⟩)
     refine aR ?_;intro f W hJ hV;have hb_10 := hJ.bl;obtain ⟨v61, v60, v59, v58, v57, v56, v55, v54, v53, v52, v51, v50, v49, v48, v47, v46, v45, v44, v43, v42, _⟩ := hV;obtain ⟨A58, c58, e58, f58⟩ : Rows _ _ _ (f 16) W := v58;obtain ⟨A60, c60, e60, f60⟩ : Rows _ _ _ (f 18) W := v60;replace hh := hJ.hp;refine aX (bp (ae v61 (ae e60 (ae v59 (ae e58 (ae v57 (ae v56 (ae v55 (ae v54 (ae v53 (ae v52 (ae v51 (ae v50 (ae v49 (ae v48 (ae v47 (ae v46 (ae v45 (ae v44 (ae v43 (ae v42 aW))))))))))))))))))))) ?_;dsimp only [ck];clear e58 e60 hJ;refine cG (k := (i + j)) bq.out aP.size rfl rfl Sd Sd Se ?_;refine Hm ?_;intro ws hh;simp only [Sy, Tb] at hh;rw [show bM (aw NR.cells (S.map nR)) ((i + j) * 3) [.bool (nR (o + y)).neg, .string (nR (o + y)).bf, .int .i64 (nR (o + y)).e] = aw NR.cells ((S.map nR).set (i + j) (nR (o + y))) from dO NR.len Sd, ← Ua, hset] at hh;refine fG ?_;refine a9 (mI (az (ai ?_)));replace hh := hh.sub (Sm _ (Sk _ (Sk _ (Sk _ (Sk _ SD)))));exact LR
    ·obtain rfl : j = d - i + 1 := Sd;rw [vk Sd] at hh;refine sr ?_;refine te ?_;refine a9 (mI (az (ai ?_)));replace hh := hh.sub (Sm _ (Sm _ (Sk _ (Sk _ SD))));exact xD
  ·obtain rfl : i = n := Sd;rw [show hH d a b xs i 0 = cY d (ej d a b) xs by rw [hn, mH]] at hh;exact I1
def pN (l : List Dyadic) (i : Nat) : List Dyadic := (List.range l.length).map fun k => if k < i ∨ l.length ≤ k + i then dV l (l.length - 1 - k) else dV l k
theorem m5 {l : List Dyadic} {i : Nat} (h : k < l.length) : (pN l i)[k]? = some (if k < i ∨ l.length ≤ k + i then dV l (l.length - 1 - k) else dV l k) := by
 unfold pN;rw [St, S8 h]
 rfl
theorem re {l : List Dyadic} (h : k < l.length) : l[k]? = some (dV l k) := by
 unfold dV;rw [Ts h]
 rfl
theorem kH (l : List Dyadic) (i : Nat) : (pN l i).length = l.length := by simp [pN]
theorem EL (l : List Dyadic) : pN l 0 = l := by
 refine S0 fun k => ?_;by_cases h : k < l.length
 ·rw [m5 h, Si Sd, re h]
 ·rw [Sw (by rw [kH]; omega), Sw Sd]
theorem E0 {l : List Dyadic} {i : Nat} (h : l.length ≤ 2 * i + 1) : pN l i = l.reverse := by
 refine S0 fun k => ?_;by_cases hk : k < l.length
 ·rw [m5 hk, TI hk, re (show l.length - 1 - k < l.length by omega)];split
  ·rfl
  ·rw [show l.length - 1 - k = k by omega]
 ·rw [Sw (by rw [kH]; omega), Sw (by rw [SZ]; omega)]
theorem D8 {l : List Dyadic} {i : Nat} (h : 2 * i + 1 < l.length) : ((pN l i).set i (dV l (l.length - 1 - i))).set (l.length - 1 - i) (dV l i) = pN l (i + 1) := by
 refine S0 fun k => ?_;by_cases hk : k < l.length
 ·rw [Tz, Tz, TL, kH, m5 hk, m5 hk];by_cases h1 : l.length - 1 - i = k
  ·rw [Sj h1, Sj Sd, Sj Sd, show l.length - 1 - k = i by omega]
  ·rw [Si h1];by_cases h2 : i = k
   ·subst h2;rw [Sj rfl, Sj hk, Sj Sd]
   ·rw [Si h2];by_cases h3 : k < i ∨ l.length ≤ k + i
    ·rw [Sj h3, Sj Sd]
    ·rw [Si h3, Si Sd]
 ·rw [Sw (by rw [TL, TL, kH]; omega), Sw (by rw [kH]; omega)]
theorem sU (g n c : Nat) (l : List Dyadic) (w : World) (hh : Hp w0 (.row (some ⟨g, 0, none⟩) n c 65 3 (aw NR.cells (l.map nR)) :: Hr) w) (hl : l.length = n) (hn : n ≤ 1000000) :
  Calls Tryz.prog 208 #[.slice (some ⟨g, 0, none⟩) n c] w fun r w' => r = .returned (.tuple #[]) ∧ Hp w0 (.row (some ⟨g, 0, none⟩) n c 65 3 (aw NR.cells (l.reverse.map nR)) :: Hr) w' := by
 refine aj (N := 28) (l := [.slice (some ⟨g, 0, none⟩) n c]) Tryz.func208 rfl rfl (by simp) ?_;refine sr (mL (aK ?_));refine eu (aI (aI (aa (ao ?_))));refine bP [2, 3, 7, 8, 9, 10, 11, 12, 13, 14, 15, 16, 17, 18, 19, 20, 21, 22, 23, 24, 25, 26, 27] 2 3
  (fun v2 v w' => ∃ i : Nat, 2 * i ≤ n + 1 ∧ v2 = .int .i64 i ∧ v = .int .i64 ((n : Int) - 1 - i) ∧ Hp w0 (.row (some ⟨g, 0, none⟩) n c 65 3 (aw NR.cells ((pN l i).map nR)) :: Hr) w')
  (fun v _ _ => n - (intOf v).toNat) ?_ ?_
 ·exact ⟨0, Sd, rfl, by show Value.int _ _ = Value.int _ _; rw [show (n : Int) - 1 - ((0 : Nat) : Int) = (n : Int) - 1 by omega], by rw [EL]; exact hh⟩
 ·clear hh;rintro ρ' v2 v w' ⟨i, hi, rfl, rfl, hh⟩;by_cases hlt : (i : Int) < (n : Int) - 1 - i
  ·have h1 : ((pN l i).map nR)[n - 1 - i]? = some (nR (dV l (n - 1 - i))) := by
    rw [St, m5 Sd, Si Sd]
    rfl
   have h2 : ((pN l i).map nR)[i]? = some (nR (dV l i)) := by
    rw [St, m5 Sd, Si Sd]
    rfl
   have hst := D8 (l := l) (i := i) Sd;rw [hl] at hst;have hll : ((pN l i).map nR).length = n := by rw [Sx, kH, hl]
   generalize pN l i = S at *;have hrl := dZ NR.len (S.map nR);generalize dV l (n - 1 - i) = x at *;generalize dV l i = y at *;refine ah (sr (mI (mI ?_)));refine B7 ?_;refine eM [] [2, 3] [0, 0, 0, 0, 0, 0, 48, 112, 0, 0, 768, 1792, 4083, 8179, 16383, 32767] 12 [[(0, none)], [(2, none)], [(0, none)], [(3, none)], [(0, none)], [(3, none)], [(18, some 4), (19, some 5)], [(20, some 6)], [(0, none)], [(2, none)], [(22, some 8), (23, some 9)], [(24, some 10)]] [(11, 25), (10, 24), (9, 23), (8, 22), (7, 21), (6, 20), (5, 19), (4, 18), (3, 17), (2, 16), (1, 15), (0, 14)] hh mixed Sf fN rfl (by repeat (first | exact bT | refine bG ?_ | refine bW ?_)) ?_;refine iw ?_;refine eH ?_;refine iw ?_;refine eH ?_;refine iw ?_;refine eH ?_;refine Df ((n - 1 - i)) ?_;refine xx [_,_,_] (fun _ hj => hj.hp.eL (f := NR.cells) (x := nR x) (l := S.map nR) (i := 0) rfl NR.len Se h1) ?_;refine iw ?_;refine eH ?_;refine Df (i) ?_;refine xx [_,_,_] (fun _ hj => hj.hp.eL (f := NR.cells) (x := nR y) (l := S.map nR) (i := 0) rfl NR.len Se h2) ?_;refine aR ?_;intro f W hJ hV _;have hb_3 := hJ.bl;obtain ⟨v25, v24, v23, v22, v21, v20, v19, v18, v17, v16, v15, v14, _⟩ := hV;replace hh := hJ.hp
   refine aX (bp (ae v25 (ae v24 (ae v23 (ae v22 (ae v21 (ae v20 (ae v19 (ae v18 (ae v17 (ae v16 (ae v15 (ae v14 aW))))))))))))) ?_;dsimp only [ck];clear hJ;refine gj ?_;refine C4 ?_;intro ws hh;simp only [Sy] at hh;rw [show bM (aw NR.cells (S.map nR)) (i * 3) [.bool (nR x).neg, .string (nR x).bf, .int .i64 (nR x).e] = aw NR.cells ((S.map nR).set i (nR x)) from dO NR.len Sd] at hh;have hrl2 := dZ NR.len ((S.map nR).set i (nR x));rw [TL] at hrl2;refine cG (k := (n - 1 - i)) bq.out aP.size rfl rfl Sd Sd Se ?_;refine C4 ?_;intro ws hh;simp only [Sy] at hh;rw [show bM (aw NR.cells ((S.map nR).set i (nR x))) ((n - 1 - i) * 3) [.bool (nR y).neg, .string (nR y).bf, .int .i64 (nR y).e] = aw NR.cells (((S.map nR).set i (nR x)).set (n - 1 - i) (nR y)) from dO NR.len (by rw [TL]; omega), ← Ua, ← Ua, hst] at hh;refine az (bg (ai (al (mI ?_))));refine a9 (mI ?_);refine eu (aI (aI (az (ai ?_))));refine ⟨⟨i + 1, Sd, rfl, ?_, hh⟩, by show n - (i + 1) < n - i; omega, ?_⟩
   ·show Value.int _ _ = Value.int _ _;rw [show (n : Int) - 1 - ((i + 1 : Nat) : Int) = (n : Int) - 1 - (i : Int) - 1 by omega]
   ·exact eB
  ·rw [E0 Sd] at hh;refine ah (sr (mI (mI ?_)));refine a6 (aa (cF (aV (aE (aE (bo ?_))))));refine Jc (by first | exact .inr rfl | exact .inl rfl) rfl ?_;exact ⟨rfl, hh⟩
theorem yz (sa sb : NR) (a b : Dyadic) (L : Option Addr) (n c d : Nat) (xs : List Dyadic) (k q : Nat) (w : World) (hT : dD w) (hS : Sl w L n 3 (aw NR.cells (xs.map nR))) (hn : n = d + 1) (hd : d ≤ 127) (hx : ∀ x ∈ xs, Sz k x) (va : z5 q sa a) (vb : z5 q sb b) (hk : k ≤ 300000) (hq : q ≤ 2000) :
  Calls Tryz.prog 168 #[.agg #[.bool sa.neg, .string sa.bf, .int .i64 sa.e, .bool sb.neg, .string sb.bf, .int .i64 sb.e], .slice L n c] w fun r w' => ∃ A c', r = .returned (.slice A n c') ∧ w'.ownsRow w.heap.size 65 3 (.slice A n c') n (aw NR.cells ((cY d (ej d b a) xs.reverse).reverse.map nR)) ∧ Below w.heap.size w w' := by
 have hh := Hp.start w;have hln : xs.length = n := by have := hS.bz NR.len Se; simpa using this
 refine aj (N := 21) (l := [.agg #[.bool sa.neg, .string sa.bf, .int .i64 sa.e, .bool sb.neg, .string sb.bf, .int .i64 sb.e], .slice L n c]) Tryz.func168 rfl rfl (by simp) ?_;refine sr ?_;refine cq hh [_,_,_,_,_,_] ?_;intro b2 w2 hh;refine aL (aa (sr (mL ?_)));refine aC (jw L n c (xs.map nR) _ (hS.ext hh.below) Sd) ak.out rfl Se ?_;rintro e_ w8 ⟨A8, c8, rfl, hown_, hb_⟩;refine ⟨_, rfl, ?_⟩;replace hh := hh.aO (x := .row _ _ _ _ _ _) hb_ hown_;obtain ⟨g8, rfl⟩ := hh.cD (i := 0) rfl Sd;refine aL (aa (sr (mL ?_)));refine aC (sU g8 n c8 xs _ hh hln Sd) ak.out rfl Se ?_;rintro e_ w10 ⟨rfl, hh2⟩;refine ⟨_, rfl, ?_⟩;replace hh := hh2;clear hh2;have hlo := fun w1 hT1 hS1 => qU sb sa b a (some ⟨g8, 0, none⟩) n c8 d xs.reverse k q w1 hT1 hS1 hn hd (fun x hx2 => hx x (Ui.1 hx2)) vb va hk hq;refine aa (sr (bF ?_));refine cu hh 1 [_,_,_] (bF ?_);refine cu hh 1 [_,_,_] ?_;refine gg [_,_,_,_,_,_] (mL ?_);refine aC (hlo _ (hT.hp hh) (hh.aD (i := 0) rfl)) ak.out rfl Se ?_;rintro e_ w17 ⟨A17, c17, rfl, hown_, hb_⟩;refine ⟨_, rfl, ?_⟩;replace hh := hh.aO (x := .row _ _ _ _ _ _) hb_ hown_;obtain ⟨g17, rfl⟩ := hh.cD (i := 0) rfl Sd;refine aL (aa (sr (mL ?_)))
 refine aC (sU g17 n c17 (cY d (ej d b a) xs.reverse) _ hh (by rw [jF]; omega) Sd) ak.out rfl Se ?_;rintro e_ w19 ⟨rfl, hh2⟩;refine ⟨_, rfl, ?_⟩;replace hh := hh2;clear hh2;refine aa (sr (mL (aL (aa (au ?_)))));exact MQ
def P7 (p : Int × Int) : Bool := decide (p.2 < p.1 ∨ 127 < p.2)
def RO (ds es : List Int) : Int := if es.length ≠ ds.length then 1 else if (ds.zip es).any P7 = true then 1 else if 4096 < ar (es.map Int.toNat) then 3 else 0
def Ms (a b : List Nat) : List Nat := List.zipWith (· - ·) a b
def MV (ns ts : List Nat) (xs : List Dyadic) : List Dyadic := Oo ns (Ms ts ns) xs ((z6 (Ms ts ns)).map nD)
theorem qf : ∀ {a b : List Nat}, a.length = b.length → (∀ (i x y : Nat), a[i]? = some x → b[i]? = some y → x ≤ y) → ar a ≤ ar b
 | [], [], _, _ => So _
 | [], _ :: _, h, _ => by simp at h
 | _ :: _, [], h, _ => by simp at h
 | x :: a, y :: b, h, h2 => by
  have h0 := h2 0 x y rfl rfl;rw [ar, ar];exact Tw Sd (qf (by simpa using h) fun i p q hp hq => h2 (i + 1) p q hp hq)
def R9 (es ds : List Int) : List Int := List.zipWith (· - ·) es ds
theorem uT (ts : List Nat) : (bL ts).map Int.toNat = ts := by
 unfold bL;rw [Ty];exact UY ts
def Qj (e : Int) : Ending := .returned (.tuple #[.agg #[.slice none 0 0, .slice none 0 0], .int .i64 e])
def FX.jv (f : FX) : HE := .row f.B f.m f.b 65 3 (aw NR.cells f.cs)
def FX.jn (f : FX) : HE := .row f.A f.n f.a 3 1 (bm f.ds)
def Ow : List FX → List HE
 | [] => []
 | f :: fs => f.jv :: f.jn :: Ow fs
theorem Hp.dV {H : List HE} (h : Hp w0 H w) {f : FX} (h1 : f.jv ∈ H) (h2 : f.jn ∈ H) : f.at_ w := ⟨mV (h.own _ h2), mV (h.own _ h1)⟩
def O2 (a b : List Nat) : List Nat := List.zipWith max a b
def maxD (fs : List FX) : List Nat := fs.foldl (fun a f => O2 a (f.ds.map Int.toNat)) ((fs.map fun f => f.ds.map Int.toNat).headD [])
def P0 (fs : List FX) : Int := if Ci fs ≠ 0 then Ci fs else if 4096 < ar (maxD fs) then 3 else 0
def FX.ns (f : FX) : List Nat := f.ds.map Int.toNat
theorem FX.fv {f : FX} (h : f.e = 0) : f.ds = bL f.ns ∧ f.cs = (f.cs.map NR.d).map nR ∧ f.ns.length ≤ 12 ∧ (∀ d ∈ f.ns, d ≤ 127) ∧ f.cs.length = ar f.ns ∧ ar f.ns ≤ 4096 := by
 obtain ⟨ns, xs, hv, hxs⟩ := Oh h;obtain ⟨h1, h2, h3, h4, h5, h6⟩ := hv;have e : f.ns = ns := by unfold FX.ns; rw [h1]; exact uT ns
 subst hxs;rw [e];exact ⟨h1, h2, h3, h4, by simpa using h5, h6⟩
structure Sa (D : List Nat) (ys : List Dyadic) (g : FX) : Prop where
 ds : g.ds = bL D
 cs : g.cs = ys.map nR
 n : g.n = D.length
 m : g.m = ar D
def RW (D : List Nat) (f : FX) : List Dyadic := MV f.ns D (f.cs.map NR.d)
def RF (a b : List Nat) (j : Nat) : List Nat := (O2 a b).take j ++ a.drop j
def L7 (a b : List Dyadic) : List Dyadic := List.zipWith (· + ·) a b
def Rt : List (List Dyadic) → List Dyadic
 | [] => []
 | x :: l => l.foldl L7 x
def RP (a b : List Dyadic) (j : Nat) : List Dyadic := (L7 a b).take j ++ a.drop j
def QQ (f g : FX) : Int := if Ci [f, g] ≠ 0 then Ci [f, g] else if Qs (MZ f.ns g.ns) = true then 3 else 0
def RB (a b : List Nat) (j : Nat) : List Nat := (MZ a b).take j ++ a.drop j
theorem tV (A B : Option Addr) (n m c c' : Nat) (xs ys : List Int) (w : World) (hx : Sl w A n 1 (bm xs)) (hy : Sl w B m 1 (bm ys)) (hn : n ≤ 100000) (hm : m ≤ 100000) :
  Calls Tryz.prog 34 #[.slice A n c, .slice B m c'] w fun e w' => e = .returned (.bool (decide (xs = ys))) ∧ Below w.heap.size w w' := by
 have hxl : xs.length = n := by have := hx.1; rw [cL] at this; omega
 have hyl : ys.length = m := by have := hy.1; rw [cL] at this; omega
 have hh := Hp.start w;by_cases hnm : n = m
 ·subst hnm;refine aj (N := 26) (l := [.slice A n c, .slice B n c']) Tryz.func34 rfl rfl (by simp) ?_;refine sr (aB (aa (ah (sr (mL (aK (mL (aK ?_))))))));refine cX (aa (cF (aq (ai (ah (sr (aI (aa (ao ?_)))))))));refine aN [4, 5, 11, 12, 13, 14, 15, 16, 17, 18, 19, 20, 21, 22, 23, 24, 25] 5
   (fun i w' => ∃ k : Nat, k ≤ n ∧ i = .int .i64 k ∧ xs.take k = ys.take k ∧ Hp w [] w')
   (fun i _ => n - (intOf i).toNat) ?_ ?_
  ·exact ⟨0, Sn _, rfl, rfl, hh⟩
  ·clear hh;rintro ρ' i w' ⟨k, hk, rfl, he, hh⟩;replace hx := hx.ext hh.below;replace hy := hy.ext hh.below;by_cases hlt : k < n
   ·obtain ⟨x, hxk⟩ := av (l := xs) (k := k) Sd;obtain ⟨y, hyk⟩ := av (l := ys) (k := k) Sd;obtain ⟨ad, rfl, hr⟩ := hx.at_ Sd;obtain ⟨bd, rfl, hs⟩ := hy.at_ Sd;by_cases hxy : x = y
    ·subst hxy;refine ah (sr (mI (mL (aK ?_))));refine Cu ?_;refine IB ?_;refine iw ?_;refine eH ?_;refine LQ ?_;refine wJ (fun _ hj => jQ (hr.ext hj.bl) (cO hxk) rfl) ?_;refine iw ?_;refine eH ?_;refine Lg ?_;refine wJ (fun _ hj => jQ (hs.ext hj.bl) (cO hyk) rfl) ?_;refine aR ?_;intro f W hJ hV;have hb_6 := hJ.bl;obtain ⟨v24, v23, v22, v21, v20, v19, v18, v17, _⟩ := hV;replace hh := hJ.hp;refine GS ?_;dsimp only [ck];clear hJ;refine cX (aa (cF (aq (bg (ai (al (mI ?_)))))));refine a9 (aI (az (ai ?_)));refine ⟨⟨k + 1, Sd, rfl, by rw [ay hxk, ay hyk, he], hh⟩, by show n - (k + 1) < n - k; omega, ?_⟩;exact eB
    ·refine ah (sr (mI (mL (aK ?_))));refine Cu ?_;refine IB ?_;refine iw ?_;refine eH ?_;refine LQ ?_;refine wJ (fun _ hj => jQ (hr.ext hj.bl) (cO hxk) rfl) ?_;refine iw ?_;refine eH ?_;refine Lg ?_;refine wJ (fun _ hj => jQ (hs.ext hj.bl) (cO hyk) rfl) ?_;refine aR ?_;intro f W hJ hV;have hb_6 := hJ.bl;obtain ⟨v24, v23, v22, v21, v20, v19, v18, v17, _⟩ := hV;replace hh := hJ.hp;refine GS ?_;dsimp only [ck];clear hJ;refine cX (aa (cT (sr (aB (aa (au (bQ (aG (aG (bQ (aG ?_)))))))))));refine da ?_;have : ¬ xs = ys := fun h => hxy (by rw [h, hyk] at hxk; exact (Tc hxk).symm);simp only [this, decide_false];exact ⟨trivial, hh.below⟩
   ·refine ah (sr (mI (mL (aK ?_))));refine a6 (aa (cF (aV (aE (aE (bo (ai (sr (aB (aa (au ?_)))))))))));refine da ?_;rw [Su Sd, Su Sd] at he;simp only [he, decide_true];exact ⟨trivial, hh.below⟩
 ·refine aj (N := 26) (l := [.slice A n c, .slice B m c']) Tryz.func34 rfl rfl (by simp) ?_;refine sr (aB (aa (ah (sr (mL (aK (mL (aK ?_))))))));refine cX (aa (cT (sr (aB (aa (au (aG ?_)))))));refine da ?_;have : ¬ xs = ys := fun h => hnm (by rw [← hxl, ← hyl, h]);simp only [this, decide_false];exact ⟨trivial, hh.below⟩
theorem tW (A : Option Addr) (n c : Nat) (ds : List Int) (w : World) (hS : Sl w A n 1 (bm ds)) (hn : n ≤ 1000000) :
  Calls Tryz.prog 44 #[.slice A n c] w fun r w' => r = .returned (.int .i64 (El ds)) ∧ Below w.heap.size w w' := by
 have hh := Hp.start w;have hln : ds.length = n := by have := hS.1; simpa [bm] using this
 unfold El;refine aj (N := 39) (l := [.slice A n c]) Tryz.func44 rfl rfl (by simp) ?_;refine sr (aI (aa (sr (aI (aa (ah (sr (aI (aa (ao ?_))))))))));refine aN [2, 4, 6, 7, 8, 9, 10, 11, 12, 13, 14, 15, 16, 17, 18, 19, 20, 21, 22, 23] 4
  (fun v w' => ∃ i : Nat, i ≤ n ∧ v = .int .i64 i ∧ (ds.take i).any (fun d => !cM d) = false ∧ Hp w [] w')
  (fun v _ => n - (intOf v).toNat) ?_ ?_
 ·exact ⟨0, Sn _, rfl, rfl, hh⟩
 ·clear hh;rintro ρ' v w' ⟨i, hi, rfl, hall, hh⟩;by_cases hlt : i < n
  ·obtain ⟨d, hd⟩ := av (l := ds) (k := i) Sd;have hgi := cO hd;obtain ⟨ad, rfl, hr⟩ := hS.at_ Sd;have hbad : (!cM d) = true → ds.any (fun d => !cM d) = true := fun h => Ub.2 ⟨d, Sp hd, h⟩;by_cases h1 : d < 0
   ·refine ah (sr (mI (mL (aK ?_))));refine tH ?_;refine bX ?_;refine iy ?_;refine a6 (mB ?_);refine gS (gS (gS (gS (gS ?_))));refine fV ?_;exact NY
   ·by_cases h2 : 127 < d
    ·refine ah (sr (mI (mL (aK ?_))));refine tH ?_;refine bX ?_;refine iy ?_;refine a6 (mB (gT (mL (gT (mI (gT ?_))))));refine bX ?_;refine gT ?_;refine iy ?_;refine gT ?_;refine cg ?_;refine fa ?_;exact NY
    ·refine ah (sr (mI (mL (aK ?_))));refine tH ?_;refine bX ?_;refine iy ?_;refine a6 (mB (gT (mL (gT (mI (gT ?_))))));refine bX ?_;refine gT ?_;refine iy ?_;refine gT ?_;refine cg ?_;refine fa ?_;refine zO ?_;refine a9 (aI (az (ai ?_)));refine ⟨⟨i + 1, Sd, rfl, ?_, hh⟩, by show n - (i + 1) < n - i; omega, ?_⟩
     ·rw [ay hd, Ve, hall, UQ, Va, cM, SF Sd, SF Sd]; rfl
     ·exact eB
  ·rw [Su Sd] at hall;rw [hall, Si Se];obtain ⟨ns, hns, hlow⟩ := uD hall;have hds : ∀ (j : Nat) (d : Int), ds[j]? = some d → 0 ≤ d ∧ d ≤ 127 := fun j d hd => by
    have := TA.1 hall d (Sp hd);simp [cM] at this;omega
   refine ah (sr (mI (mL (aK ?_))));refine a6 (aa (cF (aV (aE (aE (bo (ai (ah (sr (aI (aa (ao ?_))))))))))));refine bP [3, 5, 24, 25, 26, 27, 28, 29, 30, 31, 32, 33, 34, 35, 36, 37] 3 5
    (fun v3 v w' => ∃ (i : Nat) (q : Int), i ≤ n ∧ v = .int .i64 i ∧ v3 = .int .i64 q ∧ 0 ≤ q ∧ q ≤ 4097 ∧ wO 1 ds = wO q (ds.drop i) ∧ Hp w [] w')
    (fun _ v _ => n - (intOf v).toNat) ?_ ?_
   ·exact ⟨0, 1, Sn _, rfl, rfl, Sd, Sd, rfl, hh⟩
   ·clear hh;rintro ρ2 v3 v w2 ⟨j, q, hj, rfl, rfl, hq1, hq2, hc, hh⟩;by_cases hjn : j < n
    ·obtain ⟨d, hd⟩ := av (l := ds) (k := j) Sd;have hgi := cO hd;have hdb := hds j d hd;obtain ⟨ad, rfl, hr⟩ := hS.at_ Sd;rw [gE hd, wO] at hc;have hm1 : 0 * 0 ≤ q * (d + 1) := Int.mul_le_mul hq1 Sd Se Sd;have hm2 : q * (d + 1) ≤ 4097 * 128 := Int.mul_le_mul hq2 Sd Sd Se;refine ah (sr (mI (mL (aK ?_))));refine a6 (aa (cT (aq (ai (ah (ao (al (mI (mL (mI ?_))))))))));refine oL ?_;refine iy ?_;refine a9 ?_;refine mulC ?_;refine vB rfl rfl Se ?_;refine aI (az (bg (ai (al (mI ?_)))));refine a9 (aI (az (ai ?_)));refine ⟨⟨j + 1, _, Sd, rfl, rfl, by split <;> omega, by split <;> omega, by rw [hc, show min (q * (d + 1)) 4097 = if 4097 < q * (d + 1) then 4097 else q * (d + 1) by split <;> omega], hh⟩, by show n - (j + 1) < n - j; omega, ?_⟩;exact eB
    ·rw [Uf Sd] at hc;refine ah (sr (mI (mL (aK ?_))));refine a6 (aa (cF (aV (aE (aE (bo (ai (sr (mI (aI (aa (au ?_))))))))))));refine da ?_;exact ⟨by rw [hc]; rfl, hh.below⟩
def RY (n : Nat) (k : Int) : Dyadic := if k < 0 ∨ (n : Int) < k then 0 else nD (bin n k.toNat)
def QN (ns : List Nat) : List ByteArray := (M4 (bL ns)).map fX
theorem ze (L : Option Addr) (n c : Nat) (b : List NR) (M : Option Addr) (c2 : Nat) (w : World) (hS : Sl w L n 3 (aw NR.cells b)) (hS2 : Sl w M n 3 (aw NR.cells b)) (hn : n ≤ 1000000) :
  Calls Tryz.prog 56 #[.slice L n c, .slice M n c2] w fun r w' => r = .returned (.bool true) ∧ Below w.heap.size w w' := by
 have hh := Hp.start w;have hln := hS.bz NR.len Se;refine aj (N := 26) (l := [.slice L n c, .slice M n c2]) Tryz.func56 rfl rfl (by simp) ?_;refine sr (aB (aa (ah (sr (mL (aK (mL (aK ?_))))))));refine cX (aa (cF (aq (ai (ah (sr (aI (aa (ao ?_)))))))));refine aN [4, 5, 11, 12, 13, 14, 15, 16, 17, 18, 19, 20, 21, 22, 23, 24, 25] 5
  (fun v w' => ∃ i : Nat, i ≤ n ∧ v = .int .i64 i ∧ Hp w [] w')
  (fun v _ => n - (intOf v).toNat) ?_ ?_
 ·exact ⟨0, Sn _, rfl, hh⟩
 ·clear hh;rintro ρ' v w' ⟨i, hi, rfl, hh⟩;by_cases hlt : i < n
  ·obtain ⟨s, hs⟩ := av (l := b) (k := i) Sd;obtain ⟨ad, rfl, hr⟩ := hS.at_ Sd;obtain ⟨ad2, rfl, hr2⟩ := hS2.at_ Sd;refine ah (sr (mI (mL (aK ?_))));refine Cu ?_;refine IB ?_;refine iw ?_;refine eH ?_;refine qe (i) ?_;refine xx [_,_,_] (fun _ hj => (hr.ext hj.hp.below).recAt NR.len hs) ?_;refine iw ?_;refine eH ?_;refine qe (i) ?_;refine xx [_,_,_] (fun _ hj => (hr2.ext hj.hp.below).recAt NR.len hs) ?_;refine aR ?_;intro f W hJ hV;have hb_6 := hJ.bl;obtain ⟨v24, v23, v22, v21, v20, v19, v18, v17, _⟩ := hV;replace hh := hJ.hp;refine GS ?_;dsimp only [ck];clear hJ;refine CM rfl rfl (by first | assumption | rfl) Se ?_;refine zO ?_;refine a9 (aI (az (ai ?_)));exact xD
  ·refine ah (sr (mI (mL (aK ?_))));refine a6 (aa (cF (aV (aE (aE (bo (ai (sr (aB (aa (au ?_)))))))))));refine da ?_;exact ⟨rfl, hh.below⟩
theorem xk (A B : Option Addr) (n c m c2 : Nat) (A' B' : Option Addr) (c' c2' : Nat) (ds : List Int) (cs : List NR) (w : World) (hS : Sl w A n 1 (bm ds)) (hS2 : Sl w B m 3 (aw NR.cells cs)) (hS3 : Sl w A' n 1 (bm ds)) (hS4 : Sl w B' m 3 (aw NR.cells cs)) (hn : n ≤ 100000) (hm : m ≤ 1000000) :
  Calls Tryz.prog 23 #[.agg #[.slice A n c, .slice B m c2], .agg #[.slice A' n c', .slice B' m c2']] w fun r w' => r = .returned (.bool true) ∧ Below w.heap.size w w' := by
 have hh := Hp.start w;have hnum := fun w1 h1 h2 => tV A A' n n c c' ds ds w1 h1 h2 hn hn;simp only [decide_true] at hnum;refine aj (N := 17) (l := [.agg #[.slice A n c, .slice B m c2], .agg #[.slice A' n c', .slice B' m c2']]) Tryz.func23 rfl rfl (by simp) ?_;refine sr ?_;refine cq hh [_,_] ?_;intro b2 w2 hh;refine cq hh [_,_] ?_;intro b3 w3 hh;refine aB (aa (sr (bF ?_)));refine bE hh 1 ?_;refine bF ?_;refine bE hh 0 ?_;refine br hh (hnum _ (hS.ext hh.below) (hS3.ext hh.below)) rfl ?_;intro w9 hh;refine mB (gT (bF (gT ?_)));refine bE hh 1 ?_;refine gT (bF (gT ?_));refine bE hh 0 ?_;refine aH rfl rfl ?_;refine br hh (ze B m c2 cs B' c2' _ (hS2.ext hh.below) (hS4.ext hh.below) hm) rfl ?_;intro w15 hh;refine fV ?_;exact vV
def RG (ds es : List Nat) (xs ys : List Dyadic) (i m : Nat) : List (Nat × Dyadic) := (List.range m).map fun k => (g6 (AO ds es) (AO (cV ds i) (cV es k)), (xs[i]?).getD 0 * (ys[k]?).getD 0)
def RZ (ds es : List Nat) (xs ys : List Dyadic) (i : Nat) : List (Nat × Dyadic) := (List.range i).flatMap fun i => RG ds es xs ys i (ar es)
def bS (rs : List Nat) : List UInt8 := (bL rs).map z4
def Kb (ns : List Nat) (a : Nat) : List Nat := ns.set a (ns.getD a 0 + 1)
def R1 (ns : List Nat) (a : Nat) (xs : List Dyadic) : List Dyadic :=
 (List.range (ar (Kb ns a))).map fun p => co ns.reverse xs (cV (Kb ns a).reverse p) + if 0 < (cV (Kb ns a).reverse p).getD (ns.length - 1 - a) 0 then co ns.reverse xs (QB (cV (Kb ns a).reverse p) (ns.length - 1 - a)) else 0
theorem lh : ∀ (ds rs : List Nat), lN ds rs ↔ rs.length = ds.length ∧ ∀ (i d r : Nat), ds[i]? = some d → rs[i]? = some r → r ≤ d
 | [], [] => by simp [lN]
 | [], _ :: _ => by simp [lN]
 | _ :: _, [] => by simp [lN]
 | d :: ds, r :: rs => by
  rw [lN, lh ds rs];constructor
  ·rintro ⟨h1, h2, h3⟩;refine ⟨by rw [SG, SG, h2], fun i e s he hs => ?_⟩
   cases i with
   | zero => cases he; cases hs; exact h1
   | succ i => exact h3 i e s he hs
  ·rintro ⟨h1, h2⟩;exact ⟨h2 0 d r rfl rfl, by simpa using h1, fun i e s he hs => h2 (i + 1) e s he hs⟩
def Q5 (ns : List Nat) (xs : List Dyadic) (cs : List Nat) (zs : List Dyadic) : Prop := zs.length = ar cs ∧ cs.length = ns.length ∧ (∀ (i n c : Nat), ns[i]? = some n → cs[i]? = some c → n ≤ c) ∧ ∀ row : List Nat, row.length = ns.length → co cs.reverse zs row = Q1 (Ms cs ns).reverse (co ns.reverse xs) row
def Q8 (w : World) (b i : Nat) : Int := match w.cell? ⟨b, 0, none⟩ with
 | some (.slice (some a) _ _) => match w.cell? (a.add (i * 1)) with
  | some (.int _ z) => z
  | _ => 0
 | _ => 0
structure RS (ns ts : List Nat) (xs : List Dyadic) (k n : Nat) (F FC : Option Addr) (c1 c2 i T : Nat) (cur : List Nat) (zs : List Dyadic) (A B : Option Addr) (ca cb : Nat) (R : List HE) (w : World) : Prop where
 lP : Q5 ns xs cur zs
 le : ∀ (j c t : Nat), cur[j]? = some c → ts[j]? = some t → c ≤ t
 eq : ∀ (j c t : Nat), j < i → cur[j]? = some c → ts[j]? = some t → c = t
 sz : ∀ x ∈ zs, Sz (k + T) x
 src : (A = F ∧ ca = c1 ∧ B = FC ∧ cb = c2 ∧ cur = ns ∧ zs = xs) ∨ R = [.row B (ar cur) cb 65 3 (aw NR.cells (zs.map nR)), .row A n ca 3 1 (bm (bL cur))]
 rd : ∀ (H : List HE) (w' : World), Hp w (H ++ R) w' → Sl w' A n 1 (bm (bL cur)) ∧ Sl w' B (ar cur) 3 (aw NR.cells (zs.map nR))
theorem FX.at_.ln {g : FX} (h : g.at_ w) : g.ds.length = g.n ∧ g.cs.length = g.m := ⟨by have := h.dg.1; rw [cL] at this; omega, h.nm.bz NR.len Se⟩
def Kept (fs : List FX) (R : List HE) (g : FX) : Prop := g ∈ fs ∨ (g.jv ∈ R ∧ g.jn ∈ R)
variable {E : Int} {ys : List Dyadic}
def OJ (E : Int) (D : List Nat) : List Int := if E = 0 then bL D else []
def Nb (E : Int) (ys : List Dyadic) : List NR := if E = 0 then ys.map nR else []
structure Out (E : Int) (D : List Nat) (ys : List Dyadic) (g : FX) : Prop where
 ds : g.ds = OJ E D
 cs : g.cs = Nb E ys
 n : g.n ≤ 100000
 m : g.m ≤ 1000000
def FX.nil : FX := ⟨none, 0, 0, none, 0, 0, [], []⟩
theorem Hp.BA {H : List HE} (h : Hp w0 H w) : Hp w0 (FX.nil.jv :: FX.nil.jn :: H) w := (h.dL 3 1).dL 65 3
theorem Out.err {D : List Nat} (h : E ≠ 0) : Out E D ys FX.nil := ⟨by unfold OJ; rw [Si h]; rfl, by unfold Nb; rw [Si h]; rfl, Sn _, Sn _⟩
theorem dT (g h : FX) (w : World) (hg : g.at_ w) (hh : h.at_ w) (e : g.ds = h.ds ∧ g.cs = h.cs) (hn : g.n ≤ 100000) (hm : g.m ≤ 1000000) :
  Calls Tryz.prog 23 #[.agg #[.slice g.A g.n g.a, .slice g.B g.m g.b], .agg #[.slice h.A h.n h.a, .slice h.B h.m h.b]] w fun r w' => r = .returned (.bool true) ∧ Below w.heap.size w w' := by
 have l1 := hg.ln;have l2 := hh.ln;obtain ⟨hg1, hg2⟩ := hg;obtain ⟨hh1, hh2⟩ := hh;have e1 : h.n = g.n := by rw [← l1.1, ← l2.1, e.1]
 have e2 : h.m = g.m := by rw [← l1.2, ← l2.2, e.2]
 rw [← e.1, e1] at hh1;rw [← e.2, e2] at hh2;rw [e1, e2];exact xk g.A g.B g.n g.a g.m g.b h.A h.B h.a h.b g.ds g.cs w hg1 hg2 hh1 hh2 hn hm
def Qw (f : FX) (es : List Int) : Int := if f.e ≠ 0 then f.e else RO f.ds es
def FX.key (f : FX) : List Int × List NR × Nat := (f.ds, f.cs, f.n)
def QT (base : Nat) (E : Int) (D : List Nat) (ys : List Dyadic) : VP := fun v W => ∃ (g : FX) (w1 : World), v = .agg #[.slice g.A g.n g.a, .slice g.B g.m g.b] ∧ Out E D ys g ∧ base ≤ w1.heap.size ∧ Hp w1 [g.jv, g.jn] W
def Ry (base : Nat) (E : Int) (D : List Nat) (ys : List Dyadic) : VP := fun v W => ∃ (g : FX) (w1 : World), v = .tuple #[.agg #[.slice g.A g.n g.a, .slice g.B g.m g.b], .int .i64 E] ∧ Out E D ys g ∧ base ≤ w1.heap.size ∧ Hp w1 [g.jv, g.jn] W
instance : aP Tryz.prog 122 1 false 8 [.nilFunc] := {}
theorem Ft {bs : List (Fin m)} {q : Fin m} (h : bs ++ [q] = (List.finRange m).take (bs ++ [q]).length) (hb : bs.length < m) : bs = (List.finRange m).take bs.length ∧ q.val = bs.length := by
 have hl : (bs ++ [q]).length = bs.length + 1 := by simp
 rw [hl] at h;have h1 := Tm (List.take bs.length) h;rw [List.take_left' rfl, List.take_take, Tp Sd] at h1;have h2 : (bs ++ [q])[bs.length]? = ((List.finRange m).take (bs.length + 1))[bs.length]? := by rw [← h]
 rw [Tu (So _), Td, Ul, Sj Sd, show (List.finRange m)[bs.length]? = some ⟨bs.length, hb⟩ by rw [Ts (by rw [Vj]; exact hb), List.getElem_finRange]; rfl] at h2;exact ⟨h1, Tm Fin.val (Tc h2)⟩
theorem Fa {Q : Kd} {g : Operand} {p : Tmp} {gf : Nat} {lb : Array Value} (q : Nat) (hq : q < N) (hp : p < N) (hg : ev ρ g = .func (.func gf) #[] lb) (eg : ∀ args w, (callFunc gf args).run P w = .ok (.enter gf args) w)
  {enc : α → Value} {Kp : World → World → Prop} {S : List α → Prop} {Nn : Nat} (hseq : ∀ n, SeqStopsK Fence.wide n P gf lb (fun x => #[enc x]) Kp S (fun _ => True) Nn w)
  (hKt : ∀ {A B C : World}, Kp A B → Kp B C → Kp A C) (hKb : ∀ (W : World) (l : Nat) (o o' : Obj), w.heap.size ≤ l → W.heap[l]? = some o → o.isCells = false → o.isWalk = false → Kp W (W.putObj l o'))
  (I : List α → World → Prop) (hI : OwnFrom w.heap.size I) (h0 : I [] w)
  (hassign : ∀ l x W, WC ⟨some l, [], true⟩ P N assign (dR (fun ρ' W' => ρ' = cx (cx ρ p (enc x)) q (enc x) ∧ W' = W) OL) (cx ρ p (enc x)) W)
  (hbody : ∀ l pre x W, I pre W → pre.length < Nn → WC ⟨some l, [], true⟩ P N body (Ln Kp I pre x W) (cx (cx ρ p (enc x)) q (enc x)) W)
  (hdone : ∀ (D : Nat) (xs : List α) (W : World), w.heap.size ≤ D → S xs → I xs W → W.heap[D]? = some (.deferred (some [])) → Q .normal [D] ρ W) : WD P N (.rangeFunc g #[p] assign body) Q ρ w :=
 Hf hp hg eg hseq hKt hKb I hI h0 (fun x => cx (cx ρ p (enc x)) q (enc x)) (fun x i hi => by rw [iH _ (fun h => absurd hq (by rw [← h]; exact Nat.not_lt.2 hi)), iH _ (fun h => absurd hp (by rw [← h]; exact Nat.not_lt.2 hi))]) hassign hbody hdone
theorem pb (DA NA : Option Addr) (n c m e : Nat) (pre suf : List Nat) (dd : Nat) (M : Nat → Nat → Dyadic) (xs : List Dyadic) (fid : FuncId) (fst cap : List Value) (k G : Nat) (w : World) [ak Tryz.prog fid] (hT : dD w)
  (hD : Sl w DA n 1 (bm (bL (pre ++ dd :: suf)))) (hS : Sl w NA m 3 (aw NR.cells (xs.map nR))) (hcap : n ≤ c) (hn : n ≤ 1000) (hlow : ∀ x ∈ pre ++ dd :: suf, x ≤ 127) (hm : xs.length = ar (suf.reverse ++ dd :: pre.reverse)) (hm4 : m ≤ 4096)
  (hx : ∀ x ∈ xs, Sz k x) (hk : k + ar pre * G ≤ 300000)
  (hdo : ∀ (L : Option Addr) (c2 : Nat) (ls : List Dyadic) (q : Nat) (w1 : World), Below w.heap.size w w1 → dD w1 → Sl w1 L (dd + 1) 3 (aw NR.cells (ls.map nR)) → (∀ x ∈ ls, Sz q x) → q ≤ 300000 →
   Calls Tryz.prog fid (fst ++ Value.slice L (dd + 1) c2 :: cap).toArray w1 fun r w' => ∃ A c', r = .returned (.slice A (dd + 1) c') ∧ w'.ownsRow w1.heap.size 65 3 (.slice A (dd + 1) c') (dd + 1) (aw NR.cells ((cY dd M ls).map nR)) ∧ Below w1.heap.size w1 w')
  (hgr : ∀ (ls : List Dyadic) (q : Nat), ls.length = dd + 1 → (∀ x ∈ ls, Sz q x) → ∀ x ∈ cY dd M ls, Sz (q + G) x) :
  Calls Tryz.prog 166 #[.agg #[.slice DA n c, .slice NA m e], .int .i64 (pre.length : Nat), .func (.func fid) fst.toArray cap.toArray] w fun r w' => ∃ A a B b, r = .returned (.agg #[.slice A n a, .slice B m b]) ∧ Hp w [.row B m b 65 3 (aw NR.cells ((dw (suf.reverse ++ dd :: pre.reverse) suf.length M xs).map nR)), .row A n a 3 1 (bm (bL (pre ++ dd :: suf)))] w' := by
 have hh := Hp.start w;have hln : pre.length + (suf.length + 1) = n := by have := hD.1; rw [cL, ig, Sr, SG] at this; omega
 have hlm : xs.length = m := by have := hS.bz NR.len Se; rw [Sx] at this; exact this
 have hcA : ar suf.reverse = ar suf := dn suf;have hcB : ar pre.reverse = ar pre := dn pre;have hmK : m = ar pre * ((dd + 1) * ar suf) := by rw [← hlm, hm, dP, ar, hcA, hcB]; rw [SS (ar suf), Nat.mul_right_comm, SS _ (ar pre)]
 have hA0 := dm suf;have hB0 := dm pre;have hAm : ar suf ≤ m := by rw [hmK]; exact SK (UZ _ Sd) (UZ _ hB0)
 have hKm : (dd + 1) * ar suf ≤ m := by rw [hmK]; exact UZ _ hB0
 have hdl : dd ≤ 127 := hlow dd (TG _ Sq);obtain ⟨ad, rfl, hr⟩ := hD.at_ Sd;have hgd : (bm (bL (pre ++ dd :: suf)))[pre.length]? = some (.int .i64 (dd : Nat)) := cO (lf (by rw [Tu (So _), Td]; rfl));refine EA (N := 93) (l := [.agg #[.slice (some ad) n c, .slice NA m e], .int .i64 (pre.length : Nat), .func (.func fid) fst.toArray cap.toArray]) Tryz.func166 rfl rfl (by simp) ?_;refine vC fun D_ => ?_;refine al ?_;refine cq hh [_,_] ?_;intro b3 w3 hh;refine cq hh [_] ?_;intro b5 w5 hh;refine bJ hh ?_;intro b6 w6 hh;refine aa ?_;refine vC fun D_ => ?_;refine al (bF ?_);refine bE hh 2 ?_;refine mI ?_;refine db (k := pre.length) bq.out aP.size rfl rfl Sd Sd Se ?_;refine cv aP.out rfl ((hr.ext hh.below).DB hgd) Se ?_;refine a9 ?_;refine bJ hh ?_;intro b7 w7 hh;refine bJ hh ?_;intro b8 w8 hh;refine bK hh 1 [_] ?_;intro ws hh;replace hh : Hp _ (_ :: .blk _ _ [_] _ :: _) _ := hh;refine bK hh 0 [_] ?_;intro ws hh;replace hh : Hp _ (.blk _ _ [_] _ :: _) _ := hh;refine aa ?_;refine vC fun D_ => ?_;refine sr (bF ?_);refine bE hh 4 ?_;refine mI ?_;refine a9 ?_
 refine aM rfl rfl Se (ik bq.out aP.size rfl rfl (l := pre.length + 1) rfl Sd Sd) ?_;have hbk := hD.back (l := pre.length + 1) (c := c) Sd hcap;have hds : (bm (bL (pre ++ dd :: suf))).drop ((pre.length + 1) * 1) = bm (bL suf) := by
  rw [SI];unfold bm bL;rw [← UN, ← UN, ← U9, List.drop_left]
  rfl
 rw [hds] at hbk;generalize (if c = pre.length + 1 then some ad else (some ad : Option Addr).map (·.add ((pre.length + 1) * 1))) = CA at hbk ⊢;have en : n - (pre.length + 1) = suf.length := Sd;rw [en] at hbk ⊢;refine aK (mI (aa (ao ?_)));have hcap' : ∀ i, ar (suf.take i) ≤ ar suf := jb suf;refine aN [10, 30, 31, 32, 33, 34, 35, 36, 37, 38] 30
  (fun v w' => ∃ i : Nat, i ≤ suf.length ∧ v = .int .i64 i ∧ Hp w [.blk b8 3 [.int .i64 (ar (suf.take i) : Nat)] (0, 0), .blk b7 3 [.int .i64 ((dd : Nat) + 1)] (0, 0), .blk b6 39 [.slice none 0 0, .slice none 0 0] (0, 0), .blk b5 122 [.func (.func fid) fst.toArray cap.toArray] (0, 0), .blk b3 39 [.slice (some ad) n c, .slice NA m e] (0, 0)] w')
  (fun v _ => suf.length - (intOf v).toNat) ?_ ?_
 ·exact ⟨0, Sn _, rfl, hh⟩
 ·clear hh;rintro ρ' v w' ⟨i, hi, rfl, hh⟩;by_cases hlt : i < suf.length
  ·obtain ⟨x, hxi⟩ := av (l := suf) (k := i) hlt;have hgi := cO (lf hxi);have hx2 := hlow x (TG _ (SA _ (Sp hxi)));have hct := hcap' (i + 1);have hct2 := hcap' i;have hstep : ar (suf.take (i + 1)) = ar (suf.take i) * (x + 1) := by rw [ay hxi, dP]; simp [ar]
   have e1 : ((ar (suf.take i) : Nat) : Int) * ((x : Int) + 1) = ((ar (suf.take (i + 1)) : Nat) : Int) := by rw [hstep, Tv, TX]; rfl
   obtain ⟨ab, rfl, sb⟩ := hbk.at_ Sd;refine sr ?_;refine dq ?_;refine bX ?_;refine cv aP.out rfl ((sb.ext hh.below).DB hgi) Se ?_;refine aI (aa (al ?_));refine bE hh 0 ?_;refine mI ?_;refine a9 ?_;refine mulC ?_;refine bK hh 0 [_] ?_;intro ws hh;replace hh : Hp _ (.blk _ _ [_] _ :: _) _ := hh;refine fG ?_;refine a9 (mI (az (ai ?_)));rw [e1] at hh;refine ⟨⟨i + 1, Sd, rfl, hh⟩, by show suf.length - (i + 1) < suf.length - i; omega, ?_⟩;exact eB
  ·obtain rfl : i = suf.length := Sd;rw [Su (So _), ← hcA] at hh;rw [← hcA, ← hcB] at hmK;rw [← hcA] at hA0 hKm;rw [← hcB] at hB0 hk;have hrA : suf.reverse.length = suf.length := SZ;rw [← hrA];generalize suf.reverse = A at *;generalize pre.reverse = B at *;refine sr ?_;refine a6 (aa (ah (cF (aV (aE (aE (bo (ai ?_))))))));refine vC fun D_ => ?_;refine Ik ?_;refine aU 8 [[(3, none)], [(39, some 0)], [(40, some 1)], [(3, none)], [(42, some 3)], [(43, some 4)], [(41, some 2), (44, some 5)], []] [(7, 11), (6, 45), (5, 44), (4, 43), (3, 42), (2, 41), (1, 40), (0, 39)] hh mixed Sf ?_;refine ek ?_;refine gH 4 ?_;refine a8 (i := 2) (q8 hh.sz 3 n 1 (bm (bL (pre ++ dd :: suf)))) (q8.ext) ?_ ?_
   ·intro ρ1 w1 hj hR;exact bA rfl (aZ ak.out (aA (show ρ1 40 = Value.slice _ _ _ from hR.1) a7)) (k4 (some ad) n c _ w1 (hD.ext hj.hp.below) Sd) (fun _ _ ⟨A, c, hq, ho, hb⟩ => ⟨_, hq, hb, A, c, rfl, eY ho hj.bl.size⟩)
   refine ek ?_;refine gH 4 ?_;refine a8 (i := 5) (q8 hh.sz 65 m 3 (aw NR.cells (xs.map nR))) (q8.ext) ?_ ?_
   ·intro ρ1 w1 hj hR;exact bA rfl (aZ ak.out (aA (show ρ1 43 = Value.slice _ _ _ from hR.1) a7)) (jw NA m e _ w1 (hS.ext hj.hp.below) Sd) (fun _ _ ⟨A, c, hq, ho, hb⟩ => ⟨_, hq, hb, A, c, rfl, eY ho hj.bl.size⟩)
   refine a8 (i := 6) (px hh.sz 3 65 n 1 m 3 (bm (bL (pre ++ dd :: suf))) (aw NR.cells (xs.map nR))) (px.ext) ?_ ?_
   ·exact Pb
   refine a8 (i := 7) (di _ 39 _) di.ext (fun ρ1 w1 hj hR => jU aP.out hj.bl (fun v w2 h hb => ⟨hb, h⟩)) ?_;refine aR ?_;intro f W hJ hV;have hb_7 := hJ.bl;obtain ⟨v11, v45, v44, v43, v42, v41, v40, v39, _⟩ := hV;obtain ⟨g41, u41, e41, -⟩ := v41;obtain ⟨g44, u44, e44, -⟩ := v44;obtain ⟨A45, c45, B45, k45, e45, o45, p45⟩ := v45;obtain ⟨b11, e11, hl11, hc11⟩ : di _ _ _ (f 7) W := v11;replace hh := JJ.tx hJ hh hl11 hc11 o45 p45 Se Se Se;refine aX (bp (ae e11 (ae e45 (ae e44 (ae v43 (ae v42 (ae e41 (ae v40 (ae v39 aW))))))))) ?_;dsimp only [ck];clear e41 e44 e45 e11 hJ;have eK : ((dd : Nat) : Int) + 1 = ((dd + 1 : Nat) : Int) := Sd;have eK2 : (((dd : Nat) : Int) + 1) * ((ar A : Nat) : Int) = (((dd + 1) * ar A : Nat) : Int) := by rw [eK, ← Tv]
   refine bK hh 0 [_,_] ?_;intro ws hh;replace hh : Hp _ (.blk _ _ [_, _] _ :: _) _ := hh;refine aa ?_;refine Gj ?_;refine vC fun D_ => ?_;refine al (bF ?_);refine bE hh 0 ?_;refine bE hh 4 ?_;refine bE hh 3 ?_;refine mulC ?_;rw [eK2];refine aC (zY B45 m k45 ((dd + 1) * ar A) _ (SK hA0 (UZ _ Sd))) ak.out rfl Se ?_;rintro e_ w51 ⟨b2, b1, rfl, h2⟩;refine ⟨_, rfl, ?_⟩;replace hh := hh.join h2;simp only [Sv, Ss] at hh;clear h2;refine aa ?_;have hmk := hh.fH (i := 4) rfl;obtain ⟨g, rfl⟩ := hh.cD (i := 4) rfl Sd;have hc2 := hh.dW (i := 1) (o := 0) rfl rfl;have hc1 := hh.dW (i := 0) (o := 0) rfl rfl;have hseq := EB b2 b1 ⟨g, 0, none⟩ m k45 ((dd + 1) * ar A) (ar B) _ hc2 hc1 hmK (Tg hA0 (UZ _ Sd)) hmk Sd Sd;refine Hg (Fa (α := Fin (ar B)) (enc := fun j : Fin (ar B) => .slice (some ((⟨g, 0, none⟩ : Addr).add (j.val * ((dd + 1) * ar A) * 3))) ((dd + 1) * ar A) ((dd + 1) * ar A)) 12 Se Se rfl (enters_of Tryz.func192 Sf rfl) hseq JE (fun W l o o' h _ _ _ => KO (lk hc2) (lk hc1) W l o o' h)
    (fun bs W => ∃ X : List Dyadic, X.length = m ∧ (∀ x ∈ X, Sz (k + bs.length * G) x) ∧ (bs = (List.finRange (ar B)).take bs.length → X = Fy A dd B M xs bs.length) ∧ Hp w [.row (some ⟨g, 0, none⟩) m k45 65 3 (aw NR.cells (X.map nR)), .row A45 n c45 3 1 (bm (bL (pre ++ dd :: suf))), .blk b1 3 [.int .i64 (((dd + 1) * ar A : Nat) : Int)] (0, 0), .blk b2 37 [.slice (some ⟨g, 0, none⟩) m k45] (0, 0), .blk b11 39 [.slice A45 n c45, .slice (some ⟨g, 0, none⟩) m k45] (0, 0), .blk b8 3 [.int .i64 (ar A : Nat)] (0, 0), .blk b7 3 [.int .i64 ((dd : Nat) + 1)] (0, 0), .blk b6 39 [.slice none 0 0, .slice none 0 0] (0, 0), .blk b5 122 [.func (.func fid) fst.toArray cap.toArray] (0, 0), .blk b3 39 [.slice (some ad) n c, .slice NA m e] (0, 0)] W)
    ?own ?zero ?asg ?body ?done)
   case own =>
    intro s W W' row ⟨X, h1, h2, h3, h4⟩ hg hr;exact ⟨X, h1, h2, h3, h4.Mi (by simp [HE.Me]) hg fun r e => ⟨SK hh.size (hr r e).1, (hr r e).2⟩⟩
   case zero =>
    refine ⟨xs, hlm, fun x h => (hx x h).mono Sd, fun _ => (HI _ _ _).symm, ?_⟩;replace hh := hh.perm (Tr (l₁ := [_, _, _]));simp only [Sv, Ss] at hh;replace hh := hh.perm (Tr (l₁ := [_, _, _, _]));simp only [Sv, Ss] at hh;exact hh
   case asg =>
    intro l x W;refine al (aL (az ?_));exact ⟨rfl, rfl⟩
   case body =>
    rintro l bs q W ⟨X, hXl, hXz, hXe, hh0⟩ hbl;have hqB := q.isLt;have hkb : bs.length * G ≤ ar B * G := S9 _ Sd;have hh := hh0.IW;simp only [Sv, Ss] at hh;generalize hO : FD _ _ _ = O at hh;have hzl : ∀ f, ∀ x ∈ bZ A dd X f q.val, Sz (k + bs.length * G) x := fun f x h => by
     obtain ⟨i, _, rfl⟩ := SB.1 h;exact nV hXz _
    have hPl : ∀ f i, f < ar A → i ≤ dd → bO A dd f i q.val < X.length := fun f i h1 h2 => by rw [hXl, ← hlm, hm]; exact l4 h1 h2 hqB
    have eAd : ∀ f i, ((⟨g, 0, none⟩ : Addr).add (q.val * ((dd + 1) * ar A) * 3)).add ((f + i * ar A) * 3) = ⟨g, bO A dd f i q.val * 3, none⟩ := fun f i => by
     rw [eC, eC];congr 1;unfold bO;grind
    rw [← ID (A := A) (d := dd) (φ := cY dd M) (X := X) q.val] at hh;refine ao (sr ?_);refine bE hh 5 ?_;refine mI (aa (ao ?_));refine aN [13, 14, 15, 16, 17, 54, 55, 56, 57, 58, 59, 60, 61, 62, 63, 64, 65, 66, 67, 68, 69, 70, 71, 72, 73, 74, 75, 76, 77, 78, 79, 80, 81, 82, 83, 84, 85, 86, 87, 88, 89, 90, 91] 54
     (fun v w' => ∃ f : Nat, f ≤ ar A ∧ v = .int .i64 f ∧ Hp w (.row (some ⟨g, 0, none⟩) m k45 65 3 (aw NR.cells ((stS A dd (cY dd M) X q.val f 0).map nR)) :: .row A45 n c45 3 1 (bm (bL (pre ++ dd :: suf))) :: .blk b1 3 [.int .i64 (((dd + 1) * ar A : Nat) : Int)] (0, 0) :: .blk b2 37 [.slice (some ⟨g, 0, none⟩) m k45] (0, 0) :: .blk b11 39 [.slice A45 n c45, .slice (some ⟨g, 0, none⟩) m k45] (0, 0) :: .blk b8 3 [.int .i64 (ar A : Nat)] (0, 0) :: .blk b7 3 [.int .i64 ((dd : Nat) + 1)] (0, 0) :: .blk b6 39 [.slice none 0 0, .slice none 0 0] (0, 0) :: .blk b5 122 [.func (.func fid) fst.toArray cap.toArray] (0, 0) :: .blk b3 39 [.slice (some ad) n c, .slice NA m e] (0, 0) :: O) w')
     (fun v _ => ar A - (intOf v).toNat) ?_ ?_
    ·exact ⟨0, Sn _, rfl, hh⟩
    ·clear hh;rintro ρ' v w' ⟨f, hf, rfl, hh⟩;by_cases hlt : f < ar A
     ·refine sr ?_;refine a6 (aa (ah (cT (aq (ai (ah (ao (sr (mI (aI (aa (sr (aL (aa (ah (sr ?_))))))))))))))));refine bE hh 6 ?_;refine mI (aa (ao ?_));replace hh := hh.dL 65 3;refine bP [14, 15, 58, 59, 60, 61, 62, 63, 64, 65, 66, 67, 68, 69, 70, 71, 72] 14 58
       (fun v14 v w' => ∃ (i c14 : Nat) (A14 : Option Addr), i ≤ dd + 1 ∧ v14 = .slice A14 i c14 ∧ v = .int .i64 i ∧ Hp w (.row A14 i c14 65 3 (aw NR.cells (((bZ A dd X f q.val).take i).map nR)) :: .row (some ⟨g, 0, none⟩) m k45 65 3 (aw NR.cells ((stS A dd (cY dd M) X q.val f 0).map nR)) :: .row A45 n c45 3 1 (bm (bL (pre ++ dd :: suf))) :: .blk b1 3 [.int .i64 (((dd + 1) * ar A : Nat) : Int)] (0, 0) :: .blk b2 37 [.slice (some ⟨g, 0, none⟩) m k45] (0, 0) :: .blk b11 39 [.slice A45 n c45, .slice (some ⟨g, 0, none⟩) m k45] (0, 0) :: .blk b8 3 [.int .i64 (ar A : Nat)] (0, 0) :: .blk b7 3 [.int .i64 ((dd : Nat) + 1)] (0, 0) :: .blk b6 39 [.slice none 0 0, .slice none 0 0] (0, 0) :: .blk b5 122 [.func (.func fid) fst.toArray cap.toArray] (0, 0) :: .blk b3 39 [.slice (some ad) n c, .slice NA m e] (0, 0) :: O) w')
       (fun _ v _ => dd + 1 - (intOf v).toNat) ?_ ?_
      ·exact ⟨0, 0, none, Sn _, rfl, rfl, hh⟩
      ·clear hh;rintro ρ2 v14 v w2 ⟨i, c14, A14, hi, rfl, rfl, hh⟩;by_cases hin : i < dd + 1
       ·have hfi : f + i * ar A < (dd + 1) * ar A := by
         have := S9 (ar A) (show i ≤ dd by omega);rw [Tl];omega
        have hat := HU (φ := cY dd M) hlt (show i ≤ dd by omega) (hPl f i hlt Sd);refine sr ?_;refine a6 (aa (ah (cT (aq (ai (ah (ao (sr (mI (aI (aa (al (mL (mL (mI (mI ?_))))))))))))))));refine bE hh 6 ?_;refine mulC ?_;refine a9 ?_;refine db (k := f + i * ar A) bq.out aP.size rfl rfl (by rw [TX, Tv]) hfi Se ?_;rw [eAd];refine ct (vs := [_, _, _]) aP.out rfl (hh.eL (f := NR.cells) (i := 1) rfl NR.len Se (show ((stS A dd (cY dd M) X q.val f 0).map nR)[bO A dd f i q.val]? = some (nR (dV (bZ A dd X f q.val) i)) by rw [St, hat]; rfl)) rfl Se ?_;refine qu ?_;intro b70 w70 hh;refine qp ?_;intro A71 c71 w71 hh;simp only [Sy, Tb] at hh;replace hh := hh.sub (Th _ _);refine na ?_;refine a9 (mI (az (ai ?_)));have htk : aw NR.cells (((bZ A dd X f q.val).take i).map nR) ++ [.bool (nR (dV (bZ A dd X f q.val) i)).neg, .string (nR (dV (bZ A dd X f q.val) i)).bf, .int .i64 (nR (dV (bZ A dd X f q.val) i)).e] = aw NR.cells (((bZ A dd X f q.val).take (i + 1)).map nR) := by
         rw [ay (re (l := bZ A dd X f q.val) (k := i) (by unfold bZ; simp; omega)), Tt, cA]
         rfl
        rw [htk] at hh;refine ⟨⟨i + 1, _, _, Sd, rfl, rfl, hh⟩, by show dd + 1 - (i + 1) < dd + 1 - i; omega, ?_⟩;exact eB
       ·obtain rfl : i = dd + 1 := Sd;rw [Su (by unfold bZ; simp)] at hh;have hdl := fun w1 h1 hT1 hS1 => hdo A14 c14 (bZ A dd X f q.val) (k + bs.length * G) w1 h1 hT1 hS1 (hzl f) Sd;refine sr ?_;refine mq ?_;refine bE hh 9 ?_;refine mL ?_;refine fR (hdl _ hh.below (hT.hp hh) (hh.aD (i := 0) rfl)) ak.out rfl rfl Se ?_;rintro e_ w75 ⟨A75, c75, rfl, hown_, hb_⟩;refine ⟨_, rfl, ?_⟩;replace hh := hh.aO (x := .row _ _ _ _ _ _) hb_ hown_;obtain ⟨g75, rfl⟩ := hh.cD (i := 0) rfl Sd;refine aK (mI (aa (ao ?_)));replace hh := hh.sub (Sk _ (Sm _ (Sk _ (Sk _ (Sk _ (Sk _ (Sk _ (Sk _ (Sk _ (Sk _ (Sk _ (Sk _ (TJ _)))))))))))));generalize hφ : cY dd M (bZ A dd X f q.val) = ys at hh;have hyl : ys.length = dd + 1 := by rw [← hφ, jF]
        refine aN [16, 17, 77, 78, 79, 80, 81, 82, 83, 84, 85, 86, 87, 88, 89, 90] 77
         (fun v w' => ∃ i : Nat, i ≤ dd + 1 ∧ v = .int .i64 i ∧ Hp w (.row (some ⟨g75, 0, none⟩) (dd + 1) c75 65 3 (aw NR.cells (ys.map nR)) :: .row (some ⟨g, 0, none⟩) m k45 65 3 (aw NR.cells ((stS A dd (cY dd M) X q.val f i).map nR)) :: .row A45 n c45 3 1 (bm (bL (pre ++ dd :: suf))) :: .blk b1 3 [.int .i64 (((dd + 1) * ar A : Nat) : Int)] (0, 0) :: .blk b2 37 [.slice (some ⟨g, 0, none⟩) m k45] (0, 0) :: .blk b11 39 [.slice A45 n c45, .slice (some ⟨g, 0, none⟩) m k45] (0, 0) :: .blk b8 3 [.int .i64 (ar A : Nat)] (0, 0) :: .blk b7 3 [.int .i64 ((dd : Nat) + 1)] (0, 0) :: .blk b6 39 [.slice none 0 0, .slice none 0 0] (0, 0) :: .blk b5 122 [.func (.func fid) fst.toArray cap.toArray] (0, 0) :: .blk b3 39 [.slice (some ad) n c, .slice NA m e] (0, 0) :: O) w')
         (fun v _ => dd + 1 - (intOf v).toNat) ?_ ?_
        ·exact ⟨0, Sn _, rfl, hh⟩
        ·clear hh;rintro ρ3 v w3 ⟨i, hi, rfl, hh⟩;by_cases hin : i < dd + 1
         ·have hfi : f + i * ar A < (dd + 1) * ar A := by
           have := S9 (ar A) (show i ≤ dd by omega);rw [Tl];omega
          have hset := Ji (φ := cY dd M) hlt (show i ≤ dd by omega) (hPl f i hlt Sd);rw [hφ] at hset;have hPx := hPl f i hlt (show i ≤ dd by omega);have hSl := jz (A := A) (d := dd) (φ := cY dd M) (X := X) q.val f i;have hrl := dZ NR.len ((stS A dd (cY dd M) X q.val f i).map nR);have hyi : (ys.map nR)[i]? = some (nR (dV ys i)) := by rw [St, re Sd]; rfl
          generalize dV ys i = y at *;refine sr ?_;refine fj ?_;refine gj ?_;refine ct (vs := [_, _, _]) aP.out rfl (hh.eL (f := NR.cells) (i := 0) rfl NR.len Se hyi) rfl Se ?_;refine bJ hh ?_;intro b17 w17 hh;refine aI ?_;refine bK hh 0 [_,_,_] ?_;intro ws hh;replace hh : Hp _ (.blk _ _ [_, _, _] _ :: _) _ := hh;refine aa (al (mL (mI (mI ?_))));refine bE hh 7 ?_;refine mulC ?_;refine a9 ?_;refine cu hh 0 [_,_,_] ?_;refine db (k := f + i * ar A) bq.out aP.size rfl rfl (by rw [TX, Tv]) hfi Se ?_;rw [eAd];generalize stS A dd (cY dd M) X q.val f i = V at *;have hpl : bO A dd f i q.val < (V.map nR).length := by rw [Sx, hSl]; exact hPx
          refine bY hh (i := 2) (vs := [_, _, _]) rfl rfl (iq rfl) rfl aP.out rfl (by rw [hrl]; omega) rfl ?_;intro ws hh;simp only [Sy, Tb] at hh;rw [show bM (aw NR.cells (V.map nR)) (bO A dd f i q.val * 3) [.bool (nR y).neg, .string (nR y).bf, .int .i64 (nR y).e] = aw NR.cells ((V.map nR).set (bO A dd f i q.val) (nR y)) from dO NR.len hpl, ← Ua, hset] at hh;refine fG ?_;refine a9 (mI (az (ai ?_)));replace hh := hh.sub (Sm _ (Sk _ (Sk _ (Sk _ (Sk _ (Sk _ (Sk _ (Sk _ (Sk _ (Sk _ (Sk _ (Sk _ (TJ _)))))))))))));refine ⟨⟨i + 1, Sd, rfl, hh⟩, by show dd + 1 - (i + 1) < dd + 1 - i; omega, ?_⟩;exact eB
         ·obtain rfl : i = dd + 1 := Sd;rw [FF] at hh;refine sr ?_;refine te ?_;refine a9 (mI (az (ai ?_)));replace hh := hh.sub (Sm _ (Sk _ (Sk _ (Sk _ (Sk _ (Sk _ (Sk _ (Sk _ (Sk _ (Sk _ (Sk _ (TJ _))))))))))));refine ⟨⟨f + 1, Sd, rfl, hh⟩, by show ar A - (f + 1) < ar A - f; omega, ?_⟩;exact eB
     ·obtain rfl : f = ar A := Sd;refine sr ?_;refine a6 (aa (ah (cF (aV (aE (aE (bo (bg ?_))))))));subst hO;refine ⟨hh0.keeps (H' := [_, _, _, _, _, _, _, _, _, _]) (by simp [HE.Me]) hh rfl, ⟨by rw [hh.dW (i := 3) (o := 0) rfl rfl, hh0.dW (i := 3) (o := 0) rfl rfl], by rw [hh.dW (i := 2) (o := 0) rfl rfl, hh0.dW (i := 2) (o := 0) rfl rfl]⟩, Hq A dd (cY dd M) X q.val, ?_, ?_, ?_, ?_⟩
      ·unfold Hq;rw [jz, hXl]
      ·intro x h;refine (Mf hXz (fun l h1 h2 => hgr l _ h1 h2) x h).mono ?_;rw [Sr, List.length_singleton, Tl];omega
      ·intro h;obtain ⟨h1, h2⟩ := Ft h hbl;rw [hXe h1, h2, Sr, List.length_singleton];exact F8 (hm ▸ rfl)
      ·exact hh.sub (by repeat (first | exact TN _ | apply Sk))
   case done =>
    rintro D bs W hD2 rfl ⟨X, hXl, hXz, hXe, hh0⟩ hDo;have hA2 := hXe (by rw [Su (So _)]);rw [Vj] at hA2;rw [hA2, Gk hm] at hh0;have hD3 := SK hh.size hD2;replace hh := hh0.OQ (by simp [HE.Me]) hD3 hDo rfl;refine vC fun D_ => ?_;refine al ?_;refine cu hh 5 [_,_] ?_;refine bK hh 8 [_,_] ?_;intro ws hh;replace hh : Hp _ (_ :: _ :: _ :: _ :: _ :: _ :: _ :: _ :: .blk _ _ [_, _] _ :: _) _ := hh;refine aa ?_;refine Lq fun D_ => ?_;refine au ?_;refine Ek (M := [D]) (vs := [.agg #[.slice A45 n c45, .slice (some ⟨g, 0, none⟩) m k45]]) hh (.inr rfl) rfl ?_;intro w2 hh;refine ⟨(dy rfl (dz (vs := [_, _]) aP.out (hh.bH (i := 7) (n := 2) rfl rfl) rfl) fq), ?_⟩;replace hh := hh.sub (Sk _ (Sk _ (Sm _ (Sm _ (Sm _ (Sm _ (Sm _ (Sm _ (Sm _ (Sm _ SD))))))))));exact ⟨_, _, _, _, rfl, hh⟩
variable {n1 n2 s1 s2 : Nat} {t1 t2 : TypeId} {xs1 xs2 : List Value}
def QV (n m : Nat) (ds : List Int) (cs : List NR) : VP := fun v W => ∃ A a B b, v = .agg #[.slice A n a, .slice B m b] ∧ n ≤ a ∧ Sl W A n 1 (bm ds) ∧ Sl W B m 3 (aw NR.cells cs)
theorem GG {d : Nat} {s : Dyadic} (hd : d ≤ 127) (hs : Sz q s) (hs1 : Sz q (1 - s)) (ls : List Dyadic) (k : Nat) (hx : ∀ x ∈ ls, Sz k x) : ∀ x ∈ cY d (ua d s) ls, Sz (k + (260 + 2 * (q * d))) x := fun x h => by
 rw [← M0, ← mH] at h;exact (rk hx hs hs1 hd (So _) x h).mono Sd
theorem FZ {d : Nat} {s : Dyadic} (hd : d ≤ 127) (hs : Sz q s) (hs1 : Sz q (1 - s)) (ls : List Dyadic) (k : Nat) (hl : ls.length = d + 1) (hx : ∀ x ∈ ls, Sz k x) : ∀ x ∈ cY d (ue d s) ls, Sz (k + (260 + 2 * (q * d))) x := fun x h => by
 rw [← yV hl, Ui, ← mH] at h;exact (rk (fun y hy => hx y (Ui.1 hy)) hs1 hs hd (So _) x h).mono Sd
theorem JJ.Kj {H : List HE} {c1 c2 : Nat} {A1 A2 : Option Addr} (hJ : JJ w0 H w W) (hs : Hp w0 H w)
  (o1 : W.ownsRow w.heap.size t1 s1 (.slice A1 n1 c1) n1 xs1) (o2 : W.ownsRow w.heap.size t2 s2 (.slice A2 n2 c2) n2 xs2) (h12 : t1 ≠ t2) : Hp w0 (.row A1 n1 c1 t1 s1 xs1 :: .row A2 n2 c2 t2 s2 xs2 :: H) W := by
 have hL : Hp w [.row A1 n1 c1 t1 s1 xs1, .row A2 n2 c2 t2 s2 xs2] W := by
  exact NQ
 exact hs.join hL
theorem ET (DA NA : Option Addr) (n c m e : Nat) (pre suf : List Nat) (dd : Nat) (sn : NR) (s : Dyadic) (xs : List Dyadic) (k q : Nat) (w : World) (hT : dD w)
  (hD : Sl w DA n 1 (bm (bL (pre ++ dd :: suf)))) (hS : Sl w NA m 3 (aw NR.cells (xs.map nR))) (hcap : n ≤ c) (hn : n ≤ 1000) (hlow : ∀ x ∈ pre ++ dd :: suf, x ≤ 127) (hm : xs.length = ar (suf.reverse ++ dd :: pre.reverse)) (hm4 : m ≤ 4096)
  (hx : ∀ x ∈ xs, Sz k x) (hk : k + ar pre * (260 + 2 * (q * dd)) ≤ 300000) (hq : q ≤ 2000) (vs : z5 q sn s) (hs1 : Sz q (1 - s)) :
  Calls Tryz.prog 166 #[.agg #[.slice DA n c, .slice NA m e], .int .i64 (pre.length : Nat), .func (.func 167) #[.agg #[.bool sn.neg, .string sn.bf, .int .i64 sn.e, .bool (nR (1 - s)).neg, .string (nR (1 - s)).bf, .int .i64 (nR (1 - s)).e]] #[]] w fun r w' => ∃ A a B b, r = .returned (.agg #[.slice A n a, .slice B m b]) ∧ Hp w [.row B m b 65 3 (aw NR.cells ((dw (suf.reverse ++ dd :: pre.reverse) suf.length (ua dd s) xs).map nR)), .row A n a 3 1 (bm (bL (pre ++ dd :: suf)))] w' := by
 have hs := vs.sz;have hdl : dd ≤ 127 := hlow dd (TG _ Sq);exact (pb DA NA n c m e pre suf dd (ua dd s) xs 167 [.agg #[.bool sn.neg, .string sn.bf, .int .i64 sn.e, .bool (nR (1 - s)).neg, .string (nR (1 - s)).bf, .int .i64 (nR (1 - s)).e]] [] k (260 + 2 * (q * dd)) w hT hD hS hcap hn hlow hm hm4 hx hk (fun L c2 ls p w1 _ hT1 hS1 hz hp => qU sn (nR (1 - s)) s (1 - s) L (dd + 1) c2 dd ls p q w1 hT1 hS1 rfl hdl hz vs (z5.of hs1 hq) hp hq) (fun ls p _ hz => GG hdl hs hs1 ls p hz))
theorem Eg (DA NA : Option Addr) (n c m e : Nat) (pre suf : List Nat) (dd : Nat) (sn : NR) (s : Dyadic) (xs : List Dyadic) (k q : Nat) (w : World) (hT : dD w)
  (hD : Sl w DA n 1 (bm (bL (pre ++ dd :: suf)))) (hS : Sl w NA m 3 (aw NR.cells (xs.map nR))) (hcap : n ≤ c) (hn : n ≤ 1000) (hlow : ∀ x ∈ pre ++ dd :: suf, x ≤ 127) (hm : xs.length = ar (suf.reverse ++ dd :: pre.reverse)) (hm4 : m ≤ 4096)
  (hx : ∀ x ∈ xs, Sz k x) (hk : k + ar pre * (260 + 2 * (q * dd)) ≤ 300000) (hq : q ≤ 2000) (vs : z5 q sn s) (hs1 : Sz q (1 - s)) :
  Calls Tryz.prog 166 #[.agg #[.slice DA n c, .slice NA m e], .int .i64 (pre.length : Nat), .func (.func 168) #[.agg #[.bool sn.neg, .string sn.bf, .int .i64 sn.e, .bool (nR (1 - s)).neg, .string (nR (1 - s)).bf, .int .i64 (nR (1 - s)).e]] #[]] w fun r w' => ∃ A a B b, r = .returned (.agg #[.slice A n a, .slice B m b]) ∧ Hp w [.row B m b 65 3 (aw NR.cells ((dw (suf.reverse ++ dd :: pre.reverse) suf.length (ue dd s) xs).map nR)), .row A n a 3 1 (bm (bL (pre ++ dd :: suf)))] w' := by
 have hs := vs.sz;have hdl : dd ≤ 127 := hlow dd (TG _ Sq);refine (pb DA NA n c m e pre suf dd (ue dd s) xs 168 [.agg #[.bool sn.neg, .string sn.bf, .int .i64 sn.e, .bool (nR (1 - s)).neg, .string (nR (1 - s)).bf, .int .i64 (nR (1 - s)).e]] [] k (260 + 2 * (q * dd)) w hT hD hS hcap hn hlow hm hm4 hx hk (fun L c2 ls p w1 _ hT1 hS1 hz hp => ?_) (fun ls p hl hz => FZ hdl hs hs1 ls p hl hz))
 ·have hll : ls.length = dd + 1 := by have := hS1.bz NR.len Se; simpa using this
  have := yz sn (nR (1 - s)) s (1 - s) L (dd + 1) c2 dd ls p q w1 hT1 hS1 rfl hdl hz vs (z5.of hs1 hq) hp hq;rw [yV hll] at this;exact this
instance : aP Tryz.prog 122 1 false 8 [.nilFunc] := {}
def iZ (up : Bool) (s : Dyadic) (ns : List Nat) (a : Nat) (xs : List Dyadic) : List Dyadic := dw ns.reverse (ns.length - 1 - a) (if up then ue (ns.getD a 0) s else ua (ns.getD a 0) s) xs
def fZ (fx : FX) (ax : Int) : Int := if fx.e ≠ 0 then fx.e else if ax < 0 ∨ (fx.n : Int) ≤ ax then 1 else 0
def KC (e : Int) : Ending := .returned (.tuple #[.agg #[.slice none 0 0, .slice none 0 0], .agg #[.slice none 0 0, .slice none 0 0], .int .i64 e])
theorem s9 {ns : List Nat} {a : Nat} (h : a < ns.length) : ∃ pre dd suf, ns = pre ++ dd :: suf ∧ a = pre.length ∧ ns.getD a 0 = dd ∧ ns.length - 1 - a = suf.length := by
 refine ⟨ns.take a, ns[a], ns.drop (a + 1), ?_, by rw [SP]; omega, by rw [TC, Ts h]; rfl, by rw [TT]; omega⟩;rw [← T4 h, To]
theorem nC (fx : FX) (ax : Int) (sn : NR) (s : Dyadic) (k q : Nat) (w : World) (hT : dD w) (hf : fx.at_ w) (hl : fx.kq k) (hcap : fx.n ≤ fx.a) (vs : z5 q sn s) (hs1 : Sz q (1 - s)) (hq : q ≤ 2000) (hk : fx.e = 0 → ∀ d ∈ fx.ns, k + fx.m * (260 + 2 * (q * d)) ≤ 300000) :
  Calls Tryz.prog 84 #[.agg #[.slice fx.A fx.n fx.a, .slice fx.B fx.m fx.b], .int .i64 ax, .agg #[.bool sn.neg, .string sn.bf, .int .i64 sn.e]] w fun r w' => Below w.heap.size w w' ∧ ((fZ fx ax ≠ 0 ∧ r = KC (fZ fx ax)) ∨
   (fZ fx ax = 0 ∧ ∃ A1 a1 B1 b1 A2 a2 B2 b2, r = .returned (.tuple #[.agg #[.slice A1 fx.n a1, .slice B1 fx.m b1], .agg #[.slice A2 fx.n a2, .slice B2 fx.m b2], .int .i64 0]) ∧ Hp w [.row B2 fx.m b2 65 3 (aw NR.cells ((iZ true s fx.ns ax.toNat (fx.cs.map NR.d)).map nR)), .row A2 fx.n a2 3 1 (bm fx.ds), .row A1 fx.n a1 3 1 (bm fx.ds), .row B1 fx.m b1 65 3 (aw NR.cells ((iZ false s fx.ns ax.toNat (fx.cs.map NR.d)).map nR))] w')) := by
 have hh := Hp.start w;have hs := vs.sz;have hln : fx.ds.length = fx.n := by have := hf.dg.1; simpa [bm] using this
 have hlm := hf.nm.bz NR.len Se;have hn20 := hl.Mv;have hck := fun w1 hT1 hb => vZ fx k w1 hT1 (hf.ext hb) hl;by_cases h0 : fx.e = 0
 ·by_cases h1 : ax < 0
  ·have hE : fZ fx ax = 1 := by unfold fZ; rw [Si Sd, Sj (.inl h1)]
   refine DM ?_;refine sr ?_;refine cq hh [_,_] ?_;intro b3 w3 hh;refine cq hh [_,_,_] ?_;intro b5 w5 hh;refine bJ hh ?_;intro b6 w6 hh;refine bJ hh ?_;intro b7 w7 hh;refine aI (aa (ah (sr ?_)));refine cu hh 3 [_,_] ?_;refine gW ?_;intro w12 hh;refine aI (aa (sr (mI ?_)));refine cX (aa (cF (aq (ai (ah (sr (mI ?_)))))));refine a6 (mB ?_);refine gS (gS (gS (gS (gS ?_))));refine fV ?_;exact NU
  ·by_cases h2 : (fx.n : Int) ≤ ax
   ·have hE : fZ fx ax = 1 := by unfold fZ; rw [Si Sd, Sj (.inr h2)]
    refine DM ?_;refine sr ?_;refine cq hh [_,_] ?_;intro b3 w3 hh;refine cq hh [_,_,_] ?_;intro b5 w5 hh;refine bJ hh ?_;intro b6 w6 hh;refine bJ hh ?_;intro b7 w7 hh;refine aI (aa (ah (sr ?_)));refine cu hh 3 [_,_] ?_;refine gW ?_;intro w12 hh;refine aI (aa (sr (mI ?_)));refine cX (aa (cF (aq (ai (ah (sr (mI ?_)))))));refine a6 (mB (gT (mI (gT (bF (gT ?_))))));refine bE hh 3 ?_;refine gT (aK (gT ?_));refine ee ?_;refine fa ?_;exact NU
   ·have hE : fZ fx ax = 0 := by unfold fZ; rw [Si Sd, Si Sd]
    rw [hE];obtain ⟨hdeg, hnum, _, hlow, hcnt, hmax⟩ := FX.fv h0;have hnl : fx.ns.length = fx.n := by unfold FX.ns; rw [Sx]; exact hln
    obtain ⟨pre, dd, suf, hns, hap, hgd, hsl⟩ := s9 (ns := fx.ns) (a := ax.toNat) Sd;have hD := hf.dg;have hN := hf.nm;have hLo : iZ false s fx.ns ax.toNat (fx.cs.map NR.d) = dw (suf.reverse ++ dd :: pre.reverse) suf.length (ua dd s) (fx.cs.map NR.d) := by
     exact OW
    have hUp : iZ true s fx.ns ax.toNat (fx.cs.map NR.d) = dw (suf.reverse ++ dd :: pre.reverse) suf.length (ue dd s) (fx.cs.map NR.d) := by
     exact OW
    rw [hLo, hUp];have hax : ax = ((pre.length : Nat) : Int) := Sd;have hxl : (fx.cs.map NR.d).length = ar (suf.reverse ++ dd :: pre.reverse) := by
     rw [Sx, hcnt, show suf.reverse ++ dd :: pre.reverse = fx.ns.reverse by rw [hns, Vk, Ue, S5]; rfl, dn]
    have hpm : ar pre ≤ fx.m := by
     have h3 := jb fx.ns pre.length;rw [hns, List.take_left' rfl] at h3;rw [← hns, ← hcnt] at h3;omega
    have hkk : k + ar pre * (260 + 2 * (q * dd)) ≤ 300000 := by
     have h3 := hk h0 dd (by rw [hns]; exact TG _ Sq);have h4 := S9 (260 + 2 * (q * dd)) hpm;omega
    have hxz : ∀ x ∈ fx.cs.map NR.d, Sz k x := fun x h => by
     obtain ⟨c, hc, rfl⟩ := SB.1 h;exact (hl.num c hc).2
    have hm4 : fx.m ≤ 4096 := Sd;rw [hdeg, hns] at hD;rw [hnum] at hN;rw [hns] at hlow;have hds : fx.ds = bL (pre ++ dd :: suf) := by rw [hdeg, hns]
    rw [hds];have hlo := fun w1 hT1 hb => ET fx.A fx.B fx.n fx.a fx.m fx.b pre suf dd sn s _ k q w1 hT1 (hD.ext hb) (hN.ext hb) hcap hn20 hlow hxl hm4 hxz hkk hq vs hs1;have hup := fun w1 hT1 hb => Eg fx.A fx.B fx.n fx.a fx.m fx.b pre suf dd sn s _ k q w1 hT1 (hD.ext hb) (hN.ext hb) hcap hn20 hlow hxl hm4 hxz hkk hq vs hs1;have hof : ∀ w1, dD w1 → Calls Tryz.prog 50 #[.int .i64 1] w1 fun r w' => r = .returned (.agg #[.bool (nR (1 : Dyadic)).neg, .string (nR (1 : Dyadic)).bf, .int .i64 (nR (1 : Dyadic)).e]) ∧ Below w1.heap.size w1 w' := fun w1 hT1 => kJ 1 w1 hT1 Se Se;have hsb := fun w1 hT1 => rK (nR (1 : Dyadic)) sn w1 hT1 (Sz.one.ok Sd) vs.ok (q + 1) (by rw [cn]; exact Sz.one.mono Sd) (by rw [vs.d]; exact hs.mono Sd) Sd;simp only [cn, vs.d] at hsb;refine DM ?_;refine sr ?_;refine cq hh [_,_] ?_;intro b3 w3 hh;refine cq hh [_,_,_] ?_;intro b5 w5 hh;refine bJ hh ?_;intro b6 w6 hh;refine bJ hh ?_;intro b7 w7 hh;refine aI (aa (ah (sr ?_)));refine cu hh 3 [_,_] ?_;refine gW ?_;intro w12 hh;refine aI (aa (sr (mI ?_)));refine cX (aa (cF (aq (ai (ah (sr (mI ?_)))))));refine a6 (mB (gT (mI (gT (bF (gT ?_))))));refine bE hh 3 ?_;refine gT (aK (gT ?_));refine ee ?_;refine fa ?_
    refine aa (cF (aq (ai (ah ?_))));subst hax;refine aU 6 [[(5, none)], [], [(5, none)], [(30, some 1), (31, some 2)], [(29, some 0), (32, some 3)], []] [(5, 10), (4, 33), (3, 32), (2, 31), (1, 30), (0, 29)] hh mixed Sf ?_;refine eX 2 [_,_,_] ?_;refine dC (fun _ hj => hof _ (hT.hp hj.hp)) ?_;refine eX 2 [_,_,_] ?_;refine dC (fun _ hj => hsb _ (hT.hp hj.hp)) ?_;refine dB [_,_,_,_,_,_] ?_;refine a8 (i := 5) (di _ 183 _) di.ext (fun ρ1 w1 hj hR => jU aP.out hj.bl (fun v w2 h hb => ⟨hb, h⟩)) ?_;refine aR ?_;intro f W hJ hV;have hb_6 := hJ.bl;obtain ⟨v10, v33, v32, v31, v30, v29, _⟩ := hV;obtain ⟨b10, e10, hl10, hc10⟩ : di _ _ _ (f 5) W := v10;replace hh := hJ.newVar hh hl10 hc10;refine aX (bp (ae e10 (ae v33 (ae v32 (ae v31 (ae v30 (ae v29 aW))))))) ?_;dsimp only [ck];clear e10 hJ;refine bK hh 0 [_,_,_,_,_,_] ?_;intro ws hh;replace hh : Hp _ (.blk _ _ [_, _, _, _, _, _] _ :: _) _ := hh;refine aa (ah ?_);refine aU 9 [[(3, none)], [(1, none)], [(10, none)], [(36, some 2)], [(34, some 0), (35, some 1), (37, some 3)], [(3, none)], [(1, none)], [(10, none)], [(41, some 7)]] [(8, 42), (7, 41), (6, 40), (5, 39), (4, 38), (3, 37), (2, 36), (1, 35), (0, 34)] hh mixed Sf ?_;refine eX 4 [_,_] ?_
    refine eH ?_;refine eX 0 [_,_,_,_,_,_] ?_;refine a8 (i := 3) (Is (.func (.func 167) #[.agg #[.bool sn.neg, .string sn.bf, .int .i64 sn.e, .bool (nR (1 - s)).neg, .string (nR (1 - s)).bf, .int .i64 (nR (1 - s)).e]] #[])) (Is.ext) ?_ ?_
    ·intro ρ1 w1 hj hR;exact gK rfl (nw (aA (show ρ1 36 = Value.agg _ from hR.1) a7) a7) ⟨Below.refl _ _, rfl⟩
    refine a8 (i := 4) (px hh.sz 3 65 fx.n 1 fx.m 3 (bm (bL (pre ++ dd :: suf))) (aw NR.cells ((dw (suf.reverse ++ dd :: pre.reverse) suf.length (ua dd s) (fx.cs.map NR.d)).map nR))) (px.ext) ?_ ?_
    ·intro ρ1 w1 hj hR;exact bA rfl (aZ ak.out (aA (show ρ1 34 = Value.agg _ from hR.1) (aA (show ρ1 35 = Value.int _ _ from hR.2.1) (aA (show ρ1 37 = Value.func _ _ _ from hR.2.2.1) a7)))) (hlo w1 (hT.hp hj.hp) hj.hp.below) (fun _ _ ⟨A, a, B, b, q1, q2⟩ => ⟨_, q1, q2.below, A, a, B, b, rfl, eY (q2.at_ (i := 1) rfl) hj.bl.size, eY (q2.at_ (i := 0) rfl) hj.bl.size⟩)
    refine eX 4 [_,_] ?_;refine eH ?_;refine eX 0 [_,_,_,_,_,_] ?_;refine a8 (i := 8) (Is (.func (.func 168) #[.agg #[.bool sn.neg, .string sn.bf, .int .i64 sn.e, .bool (nR (1 - s)).neg, .string (nR (1 - s)).bf, .int .i64 (nR (1 - s)).e]] #[])) (Is.ext) ?_ ?_
    ·intro ρ1 w1 hj hR;exact gK rfl (nw (aA (show ρ1 41 = Value.agg _ from hR.1) a7) a7) ⟨Below.refl _ _, rfl⟩
    refine aR ?_;intro f W hJ hV;have hb_7 := hJ.bl;obtain ⟨v42, v41, v40, v39, v38, v37, v36, v35, v34, _⟩ := hV;obtain ⟨A38, c38, B38, k38, e38, o38, p38⟩ := v38;replace hh := JJ.Kj hJ hh o38 p38 Se;clear o38 p38;refine aX (bp (ae v42 (ae v41 (ae v40 (ae v39 (ae e38 (ae v37 (ae v36 (ae v35 (ae v34 aW)))))))))) ?_;dsimp only [ck];clear e38 hJ;refine aC (hup _ (hT.hp hh) hh.below) ak.out rfl Se ?_;rintro e_ w43 ⟨A43, a43, B43, b43, rfl, h2⟩;refine ⟨_, rfl, ?_⟩;replace hh := hh.join h2;simp only [Sv, Ss] at hh;clear h2;refine bK hh 6 [_,_] ?_;intro ws hh;replace hh : Hp _ (_ :: _ :: _ :: _ :: _ :: _ :: .blk _ _ [_, _] _ :: _) _ := hh;refine bK hh 5 [_,_] ?_;intro ws hh;replace hh : Hp _ (_ :: _ :: _ :: _ :: _ :: .blk _ _ [_, _] _ :: _) _ := hh;refine aI (aa (au ?_));refine N9 (dy rfl (dz (vs := [_, _]) aP.out (hh.bH (i := 6) (n := 2) rfl rfl) rfl) (dy rfl (dz (vs := [_, _]) aP.out (hh.bH (i := 5) (n := 2) rfl rfl) rfl) (jq (j6 rfl) fq))) ?_
    replace hh := hh.sub (Sk _ (Sk _ (Sk _ (Sk _ (Sm _ (Sm _ (Sm _ (Sm _ (Sm _ SD)))))))));exact ⟨hh.below, .inr ⟨rfl, _, _, _, _, _, _, _, _, rfl, hh⟩⟩
 ·have hE : fZ fx ax = fx.e := by unfold fZ; rw [Sj h0]
  refine DM ?_;refine sr ?_;refine cq hh [_,_] ?_;intro b3 w3 hh;refine cq hh [_,_,_] ?_;intro b5 w5 hh;refine bJ hh ?_;intro b6 w6 hh;refine bJ hh ?_;intro b7 w7 hh;refine aI (aa (ah (sr ?_)));refine cu hh 3 [_,_] ?_;refine gW ?_;intro w12 hh;refine aI (aa (sr (mI ?_)));refine cX (aa (cT (sr ?_)));refine gg [_,_] ?_;refine gg [_,_] (mI ?_);refine bK hh 1 [_,_] ?_;intro ws hh;replace hh : Hp _ (_ :: .blk _ _ [_, _] _ :: _) _ := hh;refine bK hh 0 [_,_] ?_;intro ws hh;replace hh : Hp _ (.blk _ _ [_, _] _ :: _) _ := hh;refine aI (aa (au (aG ?_)));refine Gs ?_;exact ⟨hh.below, .inl ⟨by rw [hE]; exact h0, by rw [hE]; rfl⟩⟩
def ko (n : Nat) (h : Int) : Bool := decide (h < 0 ∨ (n : Int) ≤ h.tdiv 2)
theorem wB (h : Int) (A : Option Addr) (n c b : Nat) (w : World) (hp : w.cell? ⟨b, 0, none⟩ = some (.slice A n c)) (h1 : -9223372036854775808 ≤ h) (h2 : h ≤ 9223372036854775807) :
  Calls Tryz.prog 101 #[.int .i64 h, .pointer (some ⟨b, 0, none⟩)] w fun r w' => r = .returned (.bool (ko n h)) ∧ Below w.heap.size w w' := by
 have hh := Hp.start w;by_cases g : h < 0
 ·refine aj (N := 14) (l := [.int .i64 h, .pointer (some ⟨b, 0, none⟩)]) Tryz.func101 rfl rfl (by simp) ?_;refine sr (aB (aa (sr (mI ?_))));refine a6 (mB ?_);refine gS (gS (gS ?_));refine kP ?_;refine gS (gS ?_);refine fV ?_;refine aB (aa (au ?_));refine da ?_;exact ⟨by rw [show ko n h = true by unfold ko; rw [SF (.inl g)]], hh.below⟩
 ·refine aj (N := 14) (l := [.int .i64 h, .pointer (some ⟨b, 0, none⟩)]) Tryz.func101 rfl rfl (by simp) ?_;refine sr (aB (aa (sr (mI ?_))));refine a6 (mB (gT (mI (gT ?_))));refine kT ?_;refine gT ?_;refine nq ?_;refine aH rfl rfl ?_;refine cv aP.out rfl (hp) Se ?_;refine gT (aK (gT ?_));refine ee ?_;refine fa ?_;refine aB (aa (au ?_));refine da ?_;refine ⟨?_, hh.below⟩;unfold ko;congr 2;have e := Vb (a := h) (b := 2) Sd;rw [e];simp only [decide_eq_decide];omega
theorem md (H : Option Addr) (m c2 : Nat) (hs : List Int) (A : Option Addr) (n c b : Nat) (w : World) (hS : Sl w H m 1 (bm hs)) (hm : m ≤ 1000000) (hp : w.cell? ⟨b, 0, none⟩ = some (.slice A n c)) (hz : ∀ h ∈ hs, -9223372036854775808 ≤ h ∧ h ≤ 9223372036854775807) :
  Calls Tryz.prog 100 #[.slice H m c2, .func (.func 101) #[] #[.pointer (some ⟨b, 0, none⟩)]] w fun r w' => r = .returned (.bool (hs.any (ko n))) ∧ Below w.heap.size w w' :=
 tu H m c2 hs 101 [.pointer (some ⟨b, 0, none⟩)] (ko n) w hS hm fun z w1 hz2 hb => wB z A n c b w1 (cj hb hp) (hz z hz2).1 (hz z hz2).2
theorem oZ (fx : FX) (ax : Int) (k q : Nat) (w : World) (hT : dD w) (hf : fx.at_ w) (hl : fx.kq k) (hcap : fx.n ≤ fx.a) (hs : Sz q (cf (-1))) (hs1 : Sz q (1 - cf (-1))) (hq : q ≤ 2000) (hk : fx.e = 0 → ∀ d ∈ fx.ns, k + fx.m * (260 + 2 * (q * d)) ≤ 300000) (h0 : fZ fx ax ≠ 0) :
  Calls Tryz.prog 21 #[.agg #[.slice fx.A fx.n fx.a, .slice fx.B fx.m fx.b], .int .i64 ax] w fun r w' => Below w.heap.size w w' ∧ r = KC (fZ fx ax) := by
 have hh := Hp.start w;have hof : ∀ w1, dD w1 → Calls Tryz.prog 50 #[.int .i64 1] w1 fun r w' => r = .returned (.agg #[.bool (nR (1 : Dyadic)).neg, .string (nR (1 : Dyadic)).bf, .int .i64 (nR (1 : Dyadic)).e]) ∧ Below w1.heap.size w1 w' := fun w1 hT1 => kJ 1 w1 hT1 Se Se;have hsh := fun w1 hT1 => lz (nR (1 : Dyadic)) (-1) w1 hT1 (by have := Sz.one.bf; omega) (by decide +kernel) (by decide +kernel) Se Se;rw [cn, Uz] at hsh;have hc : ∀ w1, dD w1 → Below w.heap.size w w1 → Calls Tryz.prog 84 #[.agg #[.slice fx.A fx.n fx.a, .slice fx.B fx.m fx.b], .int .i64 ax, .agg #[.bool (nR (cf (-1))).neg, .string (nR (cf (-1))).bf, .int .i64 (nR (cf (-1))).e]] w1 fun r w' => r = KC (fZ fx ax) ∧ Below w1.heap.size w1 w' := fun w1 hT1 hb => (nC fx ax (nR (cf (-1))) (cf (-1)) k q w1 hT1 (hf.ext hb) hl hcap (z5.of hs hq) hs1 hq hk).mono fun r w' ⟨h1, h2⟩ => by
  rcases h2 with ⟨_, h2⟩ | ⟨h2, _⟩
  ·exact ⟨h2, h1⟩
  ·exact absurd h2 h0
 refine aj (N := 15) (l := [.agg #[.slice fx.A fx.n fx.a, .slice fx.B fx.m fx.b], .int .i64 ax]) Tryz.func21 rfl rfl (by simp) ?_;refine sr ?_;refine cq hh [_,_] ?_;intro b2 w2 hh;refine bJ hh ?_;intro b4 w4 hh;refine bJ hh ?_;intro b5 w5 hh;refine aI (aa (ah ?_));refine Lz ?_;refine eX 2 [_,_] ?_;refine eH ?_;refine dC (fun _ hj => hof _ (hT.hp hj.hp)) ?_;refine dC (fun _ hj => hsh _ (hT.hp hj.hp)) ?_;refine aR ?_;intro p_ hp_;simp only [SH, Vm, or_false] at hp_
 rcases hp_ with rfl
 ·intro f W hJ hV;have hb_1 := hJ.bl;obtain ⟨v10, v9, v8, v7, _⟩ := hV;simp only [k5];have e7 : f 0 = _ := v7;rw [e7];have e8 : f 1 = _ := v8;rw [e8];have e9 : f 2 = _ := v9;rw [e9];have e10 : f 3 = _ := v10;rw [e10];replace hh := hJ.hp;clear e7 e8 e9 e10 hJ;refine aC (hc _ (hT.hp hh) hh.below) ak.out rfl Se ?_; rintro e_ w11 ⟨rfl, hb_⟩; refine ⟨_, rfl, ?_⟩; replace hh := hh.ext hb_;refine eN ?_;refine cd (i := 5) (by repeat (first | exact bT | refine bG ?_ | refine bW ?_)) rfl Sf Sf Sf (fun _ => de (show _ = Value.tuple (List.toArray _) from rfl) rfl) Se ?_;refine cd (i := 6) (by repeat (first | exact bT | refine bG ?_ | refine bW ?_)) rfl Sf Sf Sf (fun _ => de (show _ = Value.tuple (List.toArray _) from rfl) rfl) Se ?_;refine cd (i := 7) (by repeat (first | exact bT | refine bG ?_ | refine bW ?_)) rfl Sf Sf Sf (fun _ => de (show _ = Value.tuple (List.toArray _) from rfl) rfl) Se ?_;refine Cd ?_;refine bK hh 1 [_,_] ?_;intro ws hh;replace hh : Hp _ (_ :: .blk _ _ [_, _] _ :: _) _ := hh;refine bK hh 0 [_,_] ?_;intro ws hh;replace hh : Hp _ (.blk _ _ [_, _] _ :: _) _ := hh;refine aI (aa (au ?_));refine Gs ?_;exact ⟨hh.below, rfl⟩
theorem um (fx : FX) (ax : Int) (k q : Nat) (w : World) (hT : dD w) (hf : fx.at_ w) (hl : fx.kq k) (hcap : fx.n ≤ fx.a) (hs : Sz q (cf (-1))) (hs1 : Sz q (1 - cf (-1))) (hq : q ≤ 2000) (hk : fx.e = 0 → ∀ d ∈ fx.ns, k + fx.m * (260 + 2 * (q * d)) ≤ 300000) (h0 : fZ fx ax = 0) :
  Calls Tryz.prog 21 #[.agg #[.slice fx.A fx.n fx.a, .slice fx.B fx.m fx.b], .int .i64 ax] w fun r w' => ∃ A1 a1 B1 b1 A2 a2 B2 b2, r = .returned (.tuple #[.agg #[.slice A1 fx.n a1, .slice B1 fx.m b1], .agg #[.slice A2 fx.n a2, .slice B2 fx.m b2], .int .i64 0]) ∧ Hp w [.row B2 fx.m b2 65 3 (aw NR.cells ((iZ true (cf (-1)) fx.ns ax.toNat (fx.cs.map NR.d)).map nR)), .row A2 fx.n a2 3 1 (bm fx.ds), .row A1 fx.n a1 3 1 (bm fx.ds), .row B1 fx.m b1 65 3 (aw NR.cells ((iZ false (cf (-1)) fx.ns ax.toNat (fx.cs.map NR.d)).map nR))] w' := by
 have hh := Hp.start w;have hof : ∀ w1, dD w1 → Calls Tryz.prog 50 #[.int .i64 1] w1 fun r w' => r = .returned (.agg #[.bool (nR (1 : Dyadic)).neg, .string (nR (1 : Dyadic)).bf, .int .i64 (nR (1 : Dyadic)).e]) ∧ Below w1.heap.size w1 w' := fun w1 hT1 => kJ 1 w1 hT1 Se Se;have hsh := fun w1 hT1 => lz (nR (1 : Dyadic)) (-1) w1 hT1 (by have := Sz.one.bf; omega) (by decide +kernel) (by decide +kernel) Se Se;rw [cn, Uz] at hsh
 have hc : ∀ w1, dD w1 → Below w.heap.size w w1 → Calls Tryz.prog 84 #[.agg #[.slice fx.A fx.n fx.a, .slice fx.B fx.m fx.b], .int .i64 ax, .agg #[.bool (nR (cf (-1))).neg, .string (nR (cf (-1))).bf, .int .i64 (nR (cf (-1))).e]] w1 fun r w' => ∃ A1 a1 B1 b1 A2 a2 B2 b2, r = .returned (.tuple #[.agg #[.slice A1 fx.n a1, .slice B1 fx.m b1], .agg #[.slice A2 fx.n a2, .slice B2 fx.m b2], .int .i64 0]) ∧ Hp w1 [.row B2 fx.m b2 65 3 (aw NR.cells ((iZ true (cf (-1)) fx.ns ax.toNat (fx.cs.map NR.d)).map nR)), .row A2 fx.n a2 3 1 (bm fx.ds), .row A1 fx.n a1 3 1 (bm fx.ds), .row B1 fx.m b1 65 3 (aw NR.cells ((iZ false (cf (-1)) fx.ns ax.toNat (fx.cs.map NR.d)).map nR))] w' := fun w1 hT1 hb => (nC fx ax (nR (cf (-1))) (cf (-1)) k q w1 hT1 (hf.ext hb) hl hcap (z5.of hs hq) hs1 hq hk).mono fun r w' ⟨h1, h2⟩ => by
  rcases h2 with ⟨h2, _⟩ | ⟨_, h2⟩
  ·exact absurd h0 h2
  ·exact h2
 refine aj (N := 15) (l := [.agg #[.slice fx.A fx.n fx.a, .slice fx.B fx.m fx.b], .int .i64 ax]) Tryz.func21 rfl rfl (by simp) ?_;refine sr ?_;refine cq hh [_,_] ?_;intro b2 w2 hh;refine bJ hh ?_;intro b4 w4 hh;refine bJ hh ?_;intro b5 w5 hh;refine aI (aa (ah ?_));refine Lz ?_;refine eX 2 [_,_] ?_;refine eH ?_;refine dC (fun _ hj => hof _ (hT.hp hj.hp)) ?_;refine dC (fun _ hj => hsh _ (hT.hp hj.hp)) ?_;refine aR ?_;intro p_ hp_;simp only [SH, Vm, or_false] at hp_
 rcases hp_ with rfl
 ·intro f W hJ hV;have hb_1 := hJ.bl;obtain ⟨v10, v9, v8, v7, _⟩ := hV;simp only [k5];have e7 : f 0 = _ := v7;rw [e7];have e8 : f 1 = _ := v8;rw [e8];have e9 : f 2 = _ := v9;rw [e9];have e10 : f 3 = _ := v10;rw [e10];replace hh := hJ.hp;clear e7 e8 e9 e10 hJ;refine aC (hc _ (hT.hp hh) hh.below) ak.out rfl Se ?_; rintro e_ w11 ⟨A1, a1, B1, b1, A2, a2, B2, b2', rfl, h2⟩; refine ⟨_, rfl, ?_⟩; replace hh := hh.join h2; simp only [Sv, Ss] at hh;refine eN ?_;refine cd (i := 5) (by repeat (first | exact bT | refine bG ?_ | refine bW ?_)) rfl Sf Sf Sf (fun _ => de (show _ = Value.tuple (List.toArray _) from rfl) rfl) Se ?_;refine cd (i := 6) (by repeat (first | exact bT | refine bG ?_ | refine bW ?_)) rfl Sf Sf Sf (fun _ => de (show _ = Value.tuple (List.toArray _) from rfl) rfl) Se ?_;refine cd (i := 7) (by repeat (first | exact bT | refine bG ?_ | refine bW ?_)) rfl Sf Sf Sf (fun _ => de (show _ = Value.tuple (List.toArray _) from rfl) rfl) Se ?_;refine Cd ?_;refine bK hh 5 [_,_] ?_;intro ws hh;replace hh : Hp _ (_ :: _ :: _ :: _ :: _ :: .blk _ _ [_, _] _ :: _) _ := hh;refine bK hh 4 [_,_] ?_;intro ws hh
  replace hh : Hp _ (_ :: _ :: _ :: _ :: .blk _ _ [_, _] _ :: _) _ := hh;refine aI (aa (au ?_));refine N9 (dy rfl (dz (vs := [_, _]) aP.out (hh.bH (i := 5) (n := 2) rfl rfl) rfl) (dy rfl (dz (vs := [_, _]) aP.out (hh.bH (i := 4) (n := 2) rfl rfl) rfl) (jq (j6 rfl) fq))) ?_;replace hh := hh.sub (Sk _ (Sk _ (Sk _ (Sk _ (Sm _ (Sm _ (Sm _ SD)))))));exact ⟨_, _, _, _, _, _, _, _, rfl, hh⟩
theorem zf {A : List Nat} {d : Nat} {B : List Nat} (hl : xs.length = ar (A ++ d :: B)) (hx : ∀ x ∈ xs, Sz k x)
  (hg : ∀ ls : List Dyadic, ls.length = d + 1 → (∀ x ∈ ls, Sz k x) → ∀ x ∈ cY d M ls, Sz (k + G) x) : ∀ x ∈ dw (A ++ d :: B) A.length M xs, Sz (k + G) x := fun x hx2 => by
 obtain ⟨p, hp⟩ := TV.1 hx2;have hpl := (SC.1 hp).1;rw [iE] at hpl;obtain ⟨f, j, q, hf, hj, hq, rfl⟩ := lC (A := A) (d := d) (B := B) (p := p) Sd;rw [rR M xs hf hj hq] at hp;have hp := Tc hp;have hll : (bZ A d xs f q).length = d + 1 := by simp [bZ]
 refine hg (bZ A d xs f q) hll (fun y hy => ?_) x (Sp (i := j) ?_)
 ·obtain ⟨i, _, rfl⟩ := SB.1 hy;exact nV hx _
 ·rw [pd hj, ← hp];congr 1;refine aY fun i hi => ?_;have hi := S1.1 hi;congr 1;show ((bZ A d xs f q)[i]?).getD 0 = _;unfold bZ;rw [St, S8 hi]
  rfl
theorem r8 (up : Bool) (s : Dyadic) (ns : List Nat) (a : Nat) (xs : List Dyadic) : (iZ up s ns a xs).length = ar ns := by
 unfold iZ;rw [iE, dn]
theorem JX {up : Bool} {s : Dyadic} {ns : List Nat} {a D : Nat} (ha : a < ns.length) (hd : ∀ d ∈ ns, d ≤ D) (hD : D ≤ 127) (hl : xs.length = ar ns) (hs : Sz q s) (hs1 : Sz q (1 - s)) (hx : ∀ x ∈ xs, Sz k x) : ∀ x ∈ iZ up s ns a xs, Sz (k + (260 + 2 * (q * D))) x := fun x h => by
 obtain ⟨pre, dd, suf, hns, hap, hgd, hsl⟩ := s9 ha;have hdD : dd ≤ D := hd dd (by rw [hns]; exact TG _ Sq);have hqd : q * dd ≤ q * D := SX _ hdD;have hr : ns.reverse = suf.reverse ++ dd :: pre.reverse := by rw [hns, Vk, Ue, S5]; rfl
 have hxl : xs.length = ar (suf.reverse ++ dd :: pre.reverse) := by rw [← hr, dn, hl]
 unfold iZ at h;have er : suf.reverse.length = suf.length := SZ;rw [hsl, hgd, hr, ← er] at h
 cases up with
 | true => exact (zf hxl hx (fun ls h1 h2 => FZ Sd hs hs1 ls k h1 h2) x h).mono Sd
 | false => exact (zf hxl hx (fun ls _ h2 => GG Sd hs hs1 ls k h2) x h).mono Sd
def Cj (ns : List Nat) (xs : List Dyadic) (h : Int) : List Dyadic := iZ (decide (h % 2 = 1)) (cf (-1)) ns (h / 2).toNat xs
def kK (ns : List Nat) (xs : List Dyadic) (hs : List Int) : List Dyadic := hs.foldl (Cj ns) xs
theorem tP (ns : List Nat) (xs : List Dyadic) (hs : List Int) (h : Int) : kK ns xs (hs ++ [h]) = Cj ns (kK ns xs hs) h := by
 unfold kK;rw [UI]
 rfl
theorem Fl {ns : List Nat} (hl : xs.length = ar ns) (hs : List Int) : (kK ns xs hs).length = ar ns := by
 rcases List.eq_nil_or_concat hs with rfl | ⟨l, h, rfl⟩
 ·exact hl
 ·rw [List.concat_eq_append, tP];exact r8 _ _ _ _ _
theorem zU {ns : List Nat} {q D : Nat} (hd : ∀ d ∈ ns, d ≤ D) (hD : D ≤ 127) (hs : Sz q (cf (-1))) (hs1 : Sz q (1 - cf (-1))) : ∀ (l : List Int) (k : Nat) (xs : List Dyadic), (∀ h ∈ l, 0 ≤ h ∧ h / 2 < ns.length) → xs.length = ar ns → (∀ x ∈ xs, Sz k x) → ∀ x ∈ kK ns xs l, Sz (k + l.length * (260 + 2 * (q * D))) x
 | [], k, xs, _, _, hx, x, h => by
  rw [U3, UE, TB];exact hx x h
 | h :: l, k, xs, hv, hl, hx, x, hm => by
  have hh := hv h Sq;have h1 := JX (up := decide (h % 2 = 1)) (a := (h / 2).toNat) Sd hd hD hl hs hs1 hx;have h2 := zU hd hD hs hs1 l (k + (260 + 2 * (q * D))) (Cj ns xs h) (fun y hy => hv y (SA _ hy)) (r8 _ _ _ _ _) h1 x hm;refine h2.mono ?_;rw [SG, Up l.length 1, T6];omega
def R5 (up : Bool) (d : Nat) (s : Dyadic) : Nat → Nat → Dyadic := if up then ue d s else ua d s
def R4 (ns rr : List Nat) (a : Nat) (xs : List Dyadic) (M : Nat → Nat → Dyadic) (r i : Nat) : Dyadic := sm (List.range i) fun j => co ns.reverse xs (rr.set a j) * M j r
def ir (fx : FX) (hs : List Int) : Int := if fx.e ≠ 0 then fx.e else if hs.any (ko fx.n) = true then 1 else 0
theorem DV (fx : FX) (L : Option Addr) (m2 c2 : Nat) (hs : List Int) (k : Nat) (w : World) (hT : dD w) (hf : fx.at_ w) (hl : fx.kq k) (hS : Sl w L m2 1 (bm hs)) (hm2 : m2 ≤ 1000000) (hz : ∀ h ∈ hs, -9223372036854775808 ≤ h ∧ h ≤ 9223372036854775807) (hE : ir fx hs ≠ 0) :
  Calls Tryz.prog 24 #[.agg #[.slice fx.A fx.n fx.a, .slice fx.B fx.m fx.b], .slice L m2 c2] w fun r w' => r = Qj (ir fx hs) ∧ Below w.heap.size w w' := by
 have hh := Hp.start w;have hck := fun w1 hT1 hb => vZ fx k w1 hT1 (hf.ext hb) hl;by_cases h0 : fx.e = 0
 ·by_cases h1 : hs.any (ko fx.n) = true
  ·have hE2 : ir fx hs = 1 := by unfold ir; rw [Si Sd, Sj h1]
   refine HC ?_;refine sr ?_;refine cq hh [_,_] ?_;intro b2 w2 hh;refine bJ hh ?_;intro b4 w4 hh;refine aI (aa (ah (sr ?_)));refine cu hh 1 [_,_] ?_;refine gW ?_;intro w14 hh;refine aI (aa (sr (mI ?_)));refine vm ?_;refine qS ?_;have hany := fun b w1 hb hp => md L m2 c2 hs fx.A fx.n fx.a b w1 (hS.ext hb) hm2 hp hz;rw [h1] at hany;refine br hh (hany _ _ hh.below (hh.dW (i := 1) (o := 0) rfl rfl)) rfl ?_;intro w21 hh;refine aa (cT (sr ?_));refine gg [_,_] ?_;exact OE
  ·exact absurd (by unfold ir; rw [Si Sd, Si h1]) hE
 ·have hE2 : ir fx hs = fx.e := by unfold ir; rw [Sj h0]
  refine HC ?_;refine sr ?_;refine cq hh [_,_] ?_;intro b2 w2 hh;refine bJ hh ?_;intro b4 w4 hh;refine aI (aa (ah (sr ?_)));refine cu hh 1 [_,_] ?_;refine gW ?_;intro w14 hh;refine aI (aa (sr (mI ?_)));refine cX (aa (cT (sr ?_)));refine gg [_,_] (mI ?_);exact OE
section
variable {P : Program} {N : Nat} {ops : Array Oper} {Q : Kq} {ρ : Rf} {w : World} {rest : List Oper} {d ty : Nat} {pos : String} {af : Array Edge}
theorem QG (a : Int) : IntKind.i64.wrap (BitVec.ofInt IntKind.i64.bits a &&& BitVec.ofInt IntKind.i64.bits 1).toNat = a % 2 := by
 have h1 : (BitVec.ofInt IntKind.i64.bits a &&& BitVec.ofInt IntKind.i64.bits 1).toNat = (a % 2).toNat := by
  show (BitVec.ofInt 64 a &&& BitVec.ofInt 64 1).toNat = _;rw [BitVec.toNat_and, show (BitVec.ofInt 64 1).toNat = 2 ^ 1 - 1 by decide, Nat.and_two_pow_sub_one_eq_mod, BitVec.toNat_ofInt];omega
 rw [h1, jW Sd Sd];omega
theorem xj {t u : Nat} {x y : Operand} {a : Int} (hx : ev ρ x = .int .i64 a) (hy : ev ρ y = .int .i64 1) (hN : d < N) (kk : WL .plain P N ops Q rest (cx ρ d (.int .i64 (a % 2))) w) : WL .plain P N ops Q (⟨some d, .binOp .and t x y u, ty, pos, af, none⟩ :: rest) ρ w :=
 aM rfl rfl hN (by rw [LO hx hy, QG]) kk
end
theorem Ic (fx : FX) (L : Option Addr) (m2 c2 : Nat) (hs : List Int) (k q D : Nat) (w : World) (hT : dD w) (hf : fx.at_ w) (hl : fx.kq k) (hcap : fx.n ≤ fx.a) (hS : Sl w L m2 1 (bm hs)) (hm2 : m2 ≤ 1000000) (hz : ∀ h ∈ hs, -9223372036854775808 ≤ h ∧ h ≤ 9223372036854775807) (hE : ir fx hs = 0)
  (h2s : Sz q (cf (-1))) (h2t : Sz q (1 - cf (-1))) (hq : q ≤ 2000) (hdD : ∀ d ∈ fx.ns, d ≤ D) (hD : D ≤ 127) (hk : k + m2 * (260 + 2 * (q * D)) + fx.m * (260 + 2 * (q * D)) ≤ 300000) :
  Calls Tryz.prog 24 #[.agg #[.slice fx.A fx.n fx.a, .slice fx.B fx.m fx.b], .slice L m2 c2] w fun r w' => ∃ A a B b, r = .returned (.tuple #[.agg #[.slice A fx.n a, .slice B fx.m b], .int .i64 0]) ∧ Hp w [.row B fx.m b 65 3 (aw NR.cells ((kK fx.ns (fx.cs.map NR.d) hs).map nR)), .row A fx.n a 3 1 (bm fx.ds)] w' := by
 have hh := Hp.start w;have hck := fun w1 hT1 hb => vZ fx k w1 hT1 (hf.ext hb) hl;have hn20 := hl.Mv;have hm60 := hl.PU;have h0 : fx.e = 0 := by
  refine T1 fun h => ?_;unfold ir at hE;rw [Sj h] at hE;exact h hE
 have h1 : hs.any (ko fx.n) = false := by
  cases h : hs.any (ko fx.n) with
  | false => rfl
  | true => unfold ir at hE; rw [Si Sd, Sj h] at hE; exact absurd hE Se
 refine HC ?_;refine sr ?_;refine cq hh [_,_] ?_;intro b2 w2 hh;refine bJ hh ?_;intro b4 w4 hh;refine aI (aa (ah (sr ?_)));refine cu hh 1 [_,_] ?_;refine gW ?_;intro w14 hh;refine aI (aa (sr (mI ?_)));refine vm ?_;refine qS ?_;have hany := fun b w1 hb hp => md L m2 c2 hs fx.A fx.n fx.a b w1 (hS.ext hb) hm2 hp hz;rw [h1] at hany;refine br hh (hany _ _ hh.below (hh.dW (i := 1) (o := 0) rfl rfl)) rfl ?_;intro w21 hh;refine aa (cF (aq (ai (ah ?_))));refine aU 8 [[(2, none)], [(23, some 0)], [(24, some 1)], [(2, none)], [(26, some 3)], [(27, some 4)], [(25, some 2), (28, some 5)], []] [(7, 7), (6, 29), (5, 28), (4, 27), (3, 26), (2, 25), (1, 24), (0, 23)] hh mixed Sf ?_;refine ek ?_;refine gH 1 ?_;refine a8 (i := 2) (q8 hh.sz 3 fx.n 1 (bm fx.ds)) (q8.ext) ?_ ?_
 ·intro ρ1 w1 hj hR;exact bA rfl (aZ ak.out (aA (show ρ1 24 = Value.slice _ _ _ from hR.1) a7)) (k4 fx.A fx.n fx.a _ w1 (hf.dg.ext hj.hp.below) Sd) (fun _ _ ⟨A, c, hq, ho, hb⟩ => ⟨_, hq, hb, A, c, rfl, eY ho hj.bl.size⟩)
 refine ek ?_;refine gH 1 ?_;refine a8 (i := 5) (q8 hh.sz 65 fx.m 3 (aw NR.cells fx.cs)) (q8.ext) ?_ ?_
 ·intro ρ1 w1 hj hR;exact bA rfl (aZ ak.out (aA (show ρ1 27 = Value.slice _ _ _ from hR.1) a7)) (jw fx.B fx.m fx.b _ w1 (hf.nm.ext hj.hp.below) Sd) (fun _ _ ⟨A, c, hq, ho, hb⟩ => ⟨_, hq, hb, A, c, rfl, eY ho hj.bl.size⟩)
 refine a8 (i := 6) (px hh.sz 3 65 fx.n 1 fx.m 3 (bm fx.ds) (aw NR.cells fx.cs)) (px.ext) ?_ ?_
 ·exact Pb
 refine a8 (i := 7) (di _ 39 _) di.ext (fun ρ1 w1 hj hR => jU aP.out hj.bl (fun v w2 h hb => ⟨hb, h⟩)) ?_;refine aR ?_;intro f W hJ hV;have hb_6 := hJ.bl;obtain ⟨v7, v29, v28, v27, v26, v25, v24, v23, _⟩ := hV;obtain ⟨g25, u25, e25, -⟩ := v25;obtain ⟨g28, u28, e28, -⟩ := v28;obtain ⟨A29, c29, B29, k29, e29, o29, p29⟩ := v29;obtain ⟨b7, e7, hl7, hc7⟩ : di _ _ _ (f 7) W := v7;replace hh := JJ.tx hJ hh hl7 hc7 o29 p29 Se Se Se;refine aX (bp (ae e7 (ae e29 (ae e28 (ae v27 (ae v26 (ae e25 (ae v24 (ae v23 aW))))))))) ?_;dsimp only [ck];clear e25 e28 e29 e7 hJ;refine bK hh 0 [_,_] ?_;intro ws hh;replace hh : Hp _ (.blk _ _ [_, _] _ :: _) _ := hh;refine u6 ?_;obtain ⟨hdeg, hnum, h12, hlow, hcnt, hmax⟩ := FX.fv h0;have hln : fx.ds.length = fx.n := by have := hf.dg.1; simpa [bm] using this
 have hlm := hf.nm.bz NR.len Se;have hnl : fx.ns.length = fx.n := by unfold FX.ns; rw [Sx]; exact hln
 have hl2 : hs.length = m2 := by have := hS.1; simpa [bm] using this
 have hxl : (fx.cs.map NR.d).length = ar fx.ns := by rw [Sx, hcnt]
 have hxz : ∀ x ∈ fx.cs.map NR.d, Sz k x := fun x h => by
  obtain ⟨c, hc, rfl⟩ := SB.1 h;exact (hl.num c hc).2
 have hgood : ∀ h ∈ hs, 0 ≤ h ∧ h / 2 < fx.ns.length := fun h hm => by
  have h4 := TA.1 h1 h hm;unfold ko at h4;rw [decide_eq_true_iff] at h4;have h3 : 0 ≤ h := Sd;rw [Vb h3] at h4;omega
 have hqD : q * D ≤ 2000 * 127 := Tw hq hD;clear hany hck;rw [show aw NR.cells fx.cs = aw NR.cells ((kK fx.ns (fx.cs.map NR.d) (hs.take 0)).map nR) by rw [show kK fx.ns (fx.cs.map NR.d) (hs.take 0) = fx.cs.map NR.d from rfl, ← hnum]] at hh;refine aN [9, 10, 11, 12, 32, 33, 34, 35, 36, 37, 38, 39, 40, 41, 42, 43, 44, 45, 46, 47, 48, 49] 32
  (fun v w' => ∃ (i a b : Nat) (A B : Option Addr), i ≤ m2 ∧ v = .int .i64 i ∧ Hp w [.blk b7 39 [.slice A fx.n a, .slice B fx.m b] (0, 0), .row A fx.n a 3 1 (bm fx.ds), .row B fx.m b 65 3 (aw NR.cells ((kK fx.ns (fx.cs.map NR.d) (hs.take i)).map nR)), .blk b4 39 [.slice none 0 0, .slice none 0 0] (0, 0), .blk b2 39 [.slice fx.A fx.n fx.a, .slice fx.B fx.m fx.b] (0, 0)] w')
  (fun v _ => m2 - (intOf v).toNat) ?_ ?_
 ·exact ⟨0, _, _, _, _, Sn _, rfl, hh⟩
 ·clear hh;rintro ρ' v w' ⟨i, a, b, A, B, hi, rfl, hh⟩;by_cases hlt : i < m2
  ·obtain ⟨h, hh1⟩ := av (l := hs) (k := i) Sd;have hgi := cO hh1;have hmem := Sp hh1;obtain ⟨g0, g1⟩ := hgood h hmem;obtain ⟨z0, z1⟩ := hz h hmem;obtain ⟨ad, rfl, hr⟩ := hS.at_ Sd;have hcap7 := hh.fH (i := 1) rfl;have htl : (hs.take i).length = i := by rw [SP]; omega
   have hys := zU hdD hD h2s h2t (hs.take i) k _ (fun y hy => hgood y (Uc hy)) hxl hxz;have hyl := Fl (ns := fx.ns) hxl (hs.take i);have hsn := tP fx.ns (fx.cs.map NR.d) (hs.take i) h;rw [← ay hh1] at hsn;rw [htl] at hys;generalize kK fx.ns (fx.cs.map NR.d) (hs.take i) = ys at *;have hback : (ys.map nR).map NR.d = ys := by rw [Ty]; exact (Um fun x _ => cn x).trans (List.map_id ys)
   have hiK : i * (260 + 2 * (q * D)) ≤ m2 * (260 + 2 * (q * D)) := S9 _ hi;have hlim : (⟨A, fx.n, a, B, fx.m, b, fx.ds, ys.map nR⟩ : FX).kq (k + i * (260 + 2 * (q * D))) := ⟨hl.Mv, hl.PU, fun c hc => by
    obtain ⟨y, hy, rfl⟩ := SB.1 hc;have := hys y hy;exact ⟨this.ok Sd, by rw [cn]; exact this⟩⟩
   have hcut : fZ ⟨A, fx.n, a, B, fx.m, b, fx.ds, ys.map nR⟩ (h / 2) = 0 := by
    have e1 : (⟨A, fx.n, a, B, fx.m, b, fx.ds, ys.map nR⟩ : FX).e = 0 := FV.ok (xs := ys) ⟨hdeg, rfl, h12, hlow, hyl, hmax⟩;unfold fZ;rw [Si (fun e => e e1), Si (by show ¬(h / 2 < 0 ∨ (fx.n : Int) ≤ h / 2); omega)]
   have hkk : ∀ d ∈ fx.ns, k + i * (260 + 2 * (q * D)) + fx.m * (260 + 2 * (q * d)) ≤ 300000 := fun d hd => by
    have h5 := SX q (hdD d hd);have h6 := SX fx.m (show 260 + 2 * (q * d) ≤ 260 + 2 * (q * D) by omega);omega
   have hcall := fun w1 hT1 hA hB => um ⟨A, fx.n, a, B, fx.m, b, fx.ds, ys.map nR⟩ (h / 2) (k + i * (260 + 2 * (q * D))) q w1 hT1 ⟨hA, hB⟩ hlim hcap7 h2s h2t hq (fun _ => hkk) hcut;simp only [hback] at hcall;unfold Cj at hsn;clear hys hlim hcut hkk;by_cases hp : h % 2 = 1
   ·rw [SF hp] at hsn;refine sr ?_;refine dq ?_;refine bX ?_;refine iy ?_;refine aI (aa (sr ?_));refine cu hh 0 [_,_] (mI ?_);refine kT ?_;refine aC (hcall _ (hT.hp hh) (hh.aD (i := 1) rfl) (hh.aD (i := 2) rfl)) ak.out rfl Se ?_;rintro e_ w40 ⟨A1, a1, B1, b1, A2, a2, B2, b2', rfl, h2⟩;refine ⟨_, rfl, ?_⟩;replace hh := hh.join h2;simp only [Sv, Ss] at hh;clear h2;refine mT ?_;refine cE ?_;refine cE ?_;refine cE ?_;refine bJ hh ?_;intro b10 w10 hh;refine bJ hh ?_;intro b11 w11 hh;refine bK hh 1 [_,_] ?_;intro ws hh;replace hh : Hp _ (_ :: .blk _ _ [_, _] _ :: _) _ := hh;refine bK hh 0 [_,_] ?_;intro ws hh;replace hh : Hp _ (.blk _ _ [_, _] _ :: _) _ := hh;refine aI (aa (sr ?_));refine cu hh 1 [_,_] ?_;refine bK hh 6 [_,_] ?_;intro ws hh;replace hh : Hp _ (_ :: _ :: _ :: _ :: _ :: _ :: .blk _ _ [_, _] _ :: _) _ := hh;refine aa (sr (mI ?_));refine xj rfl rfl Se ?_;refine cH (aa (cT (al ?_)));refine cu hh 0 [_,_] ?_;refine bK hh 6 [_,_] ?_;intro ws hh;replace hh : Hp _ (_ :: _ :: _ :: _ :: _ :: _ :: .blk _ _ [_, _] _ :: _) _ := hh;refine fG ?_;refine a9 (mI (az (ai ?_)))
    replace hh := hh.sub (Sm _ (Sm _ (Sk _ (Sk _ (Sm _ (Sm _ (Sk _ (Sm _ (Sm _ (Sk _ (Sk _ SD)))))))))));exact LG
   ·rw [SQ hp] at hsn;refine sr ?_;refine dq ?_;refine bX ?_;refine iy ?_;refine aI (aa (sr ?_));refine cu hh 0 [_,_] (mI ?_);refine kT ?_;refine aC (hcall _ (hT.hp hh) (hh.aD (i := 1) rfl) (hh.aD (i := 2) rfl)) ak.out rfl Se ?_;rintro e_ w40 ⟨A1, a1, B1, b1, A2, a2, B2, b2', rfl, h2⟩;refine ⟨_, rfl, ?_⟩;replace hh := hh.join h2;simp only [Sv, Ss] at hh;clear h2;refine mT ?_;refine cE ?_;refine cE ?_;refine cE ?_;refine bJ hh ?_;intro b10 w10 hh;refine bJ hh ?_;intro b11 w11 hh;refine bK hh 1 [_,_] ?_;intro ws hh;replace hh : Hp _ (_ :: .blk _ _ [_, _] _ :: _) _ := hh;refine bK hh 0 [_,_] ?_;intro ws hh;replace hh : Hp _ (.blk _ _ [_, _] _ :: _) _ := hh;refine aI (aa (sr ?_));refine cu hh 1 [_,_] ?_;refine bK hh 6 [_,_] ?_;intro ws hh;replace hh : Hp _ (_ :: _ :: _ :: _ :: _ :: _ :: .blk _ _ [_, _] _ :: _) _ := hh;refine aa (sr (mI ?_));refine xj rfl rfl Se ?_;refine cH (aa (cF (aq (bg (ai (al ?_))))));refine a9 (mI (az (ai ?_)))
    replace hh := hh.sub (Sm _ (Sm _ (Sm _ (Sm _ (Sk _ (Sk _ (Sk _ (Sm _ (Sm _ (Sk _ (Sk _ SD)))))))))));replace hh := hh.perm (Tr (l₁ := [_]));simp only [Sv, Ss] at hh;exact LG
  ·obtain rfl : i = m2 := Sd;rw [Su Sd] at hh;refine sr ?_;refine mq ?_;refine cu hh 0 [_,_] ?_;refine bK hh 3 [_,_] ?_;intro ws hh;replace hh : Hp _ (_ :: _ :: _ :: .blk _ _ [_, _] _ :: _) _ := hh;refine aI (aa (au ?_));replace hh := hh.sub (Sm _ (Sk _ (Sk _ (Sk _ (Sm _ SD)))));refine sj ?_;exact ⟨_, _, _, _, rfl, (hh.sub (Vu [_, _] _)).perm (List.Perm.swap _ _ _)⟩
def Ru (R : List HE) (g : FX) : Prop := R = [g.jv, g.jn] ∨ g.m = 0 ∧ R = [g.jn]
variable {fx : FX}
theorem vD {ax : Int} (h : fZ fx ax = 0) : fx.e = 0 ∧ 0 ≤ ax ∧ ax < fx.n := by
 unfold fZ at h;split at h
 ·rename_i h1; exact absurd h h1
 ·rename_i h1;split at h
  ·cases h
  ·omega
theorem Bp {hs : List Int} (h : ir fx hs = 0) : fx.e = 0 := by
 unfold ir at h;split at h
 ·rename_i h1; exact absurd h h1
 ·rename_i h1; omega
theorem sw {A : Option Addr} {a : Nat} {B : Option Addr} {b : Nat} (k : Nat) (h0 : fx.e = 0) (hl : fx.kq k) : Out 0 fx.ns ys ⟨A, fx.n, a, B, fx.m, b, fx.ds, ys.map nR⟩ :=
 ⟨(FX.fv h0).1, rfl, by show fx.n ≤ 100000; have := hl.Mv; omega, by show fx.m ≤ 1000000; have := hl.PU; omega⟩
theorem MP (fx : FX) (ax : Int) (sn : NR) (s : Dyadic) (k q : Nat) (w : World) (hT : dD w) (hf : fx.at_ w) (hl : fx.kq k) (hcap : fx.n ≤ fx.a) (vs : z5 q sn s) (hs1 : Sz q (1 - s)) (hq : q ≤ 2000) (hk : fx.e = 0 → ∀ d ∈ fx.ns, k + fx.m * (260 + 2 * (q * d)) ≤ 300000) :
  Calls Tryz.prog 84 #[.agg #[.slice fx.A fx.n fx.a, .slice fx.B fx.m fx.b], .int .i64 ax, .agg #[.bool sn.neg, .string sn.bf, .int .i64 sn.e]] w fun r w' => ∃ g h : FX, Out (fZ fx ax) fx.ns (iZ false s fx.ns ax.toNat (fx.cs.map NR.d)) g ∧ Out (fZ fx ax) fx.ns (iZ true s fx.ns ax.toNat (fx.cs.map NR.d)) h ∧
   r = .returned (.tuple #[.agg #[.slice g.A g.n g.a, .slice g.B g.m g.b], .agg #[.slice h.A h.n h.a, .slice h.B h.m h.b], .int .i64 (fZ fx ax)]) ∧ Hp w [h.jv, h.jn, g.jn, g.jv] w' := by
 refine (nC fx ax sn s k q w hT hf hl hcap vs hs1 hq hk).mono fun r w' ⟨hb, h⟩ => ?_
 rcases h with ⟨h0, rfl⟩ | ⟨h0, A1, a1, B1, b1, A2, a2, B2, b2, rfl, hh⟩
 ·exact ⟨FX.nil, FX.nil, Out.err h0, Out.err h0, rfl, (((Hp.start w).ext hb).BA).BA.perm (List.Perm.cons _ (List.Perm.cons _ (List.Perm.swap _ _ _)))⟩
 ·have he := (vD h0).1;rw [h0];exact ⟨_, _, sw (A := A1) (a := a1) (B := B1) (b := b1) k he hl, sw (A := A2) (a := a2) (B := B2) (b := b2) k he hl, rfl, hh⟩
theorem xG (fx : FX) (ax : Int) (k q : Nat) (w : World) (hT : dD w) (hf : fx.at_ w) (hl : fx.kq k) (hcap : fx.n ≤ fx.a) (hs : Sz q (cf (-1))) (hs1 : Sz q (1 - cf (-1))) (hq : q ≤ 2000) (hk : fx.e = 0 → ∀ d ∈ fx.ns, k + fx.m * (260 + 2 * (q * d)) ≤ 300000) :
  Calls Tryz.prog 21 #[.agg #[.slice fx.A fx.n fx.a, .slice fx.B fx.m fx.b], .int .i64 ax] w fun r w' => ∃ g h : FX, Out (fZ fx ax) fx.ns (iZ false (cf (-1)) fx.ns ax.toNat (fx.cs.map NR.d)) g ∧ Out (fZ fx ax) fx.ns (iZ true (cf (-1)) fx.ns ax.toNat (fx.cs.map NR.d)) h ∧
   r = .returned (.tuple #[.agg #[.slice g.A g.n g.a, .slice g.B g.m g.b], .agg #[.slice h.A h.n h.a, .slice h.B h.m h.b], .int .i64 (fZ fx ax)]) ∧ Hp w [h.jv, h.jn, g.jn, g.jv] w' := by
 by_cases h0 : fZ fx ax = 0
 ·refine (um fx ax k q w hT hf hl hcap hs hs1 hq hk h0).mono fun r w' ⟨A1, a1, B1, b1, A2, a2, B2, b2, hr, hh⟩ => ?_;have he := (vD h0).1;rw [h0];exact ⟨_, _, sw (A := A1) (a := a1) (B := B1) (b := b1) k he hl, sw (A := A2) (a := a2) (B := B2) (b := b2) k he hl, hr, hh⟩
 ·refine (oZ fx ax k q w hT hf hl hcap hs hs1 hq hk h0).mono fun r w' ⟨hb, hr⟩ => ?_;exact ⟨FX.nil, FX.nil, Out.err h0, Out.err h0, hr, (((Hp.start w).ext hb).BA).BA.perm (List.Perm.cons _ (List.Perm.cons _ (List.Perm.swap _ _ _)))⟩
theorem DQ (fx : FX) (L : Option Addr) (m2 c2 : Nat) (hs : List Int) (k q D : Nat) (w : World) (hT : dD w) (hf : fx.at_ w) (hl : fx.kq k) (hcap : fx.n ≤ fx.a) (hS : Sl w L m2 1 (bm hs)) (hm2 : m2 ≤ 1000000) (hz : ∀ h ∈ hs, -9223372036854775808 ≤ h ∧ h ≤ 9223372036854775807)
  (h2s : Sz q (cf (-1))) (h2t : Sz q (1 - cf (-1))) (hq : q ≤ 2000) (hdD : fx.e = 0 → ∀ d ∈ fx.ns, d ≤ D) (hD : D ≤ 127) (hk : k + m2 * (260 + 2 * (q * D)) + fx.m * (260 + 2 * (q * D)) ≤ 300000) :
  Calls Tryz.prog 24 #[.agg #[.slice fx.A fx.n fx.a, .slice fx.B fx.m fx.b], .slice L m2 c2] w fun r w' => ∃ g : FX, Out (ir fx hs) fx.ns (kK fx.ns (fx.cs.map NR.d) hs) g ∧ r = .returned (.tuple #[.agg #[.slice g.A g.n g.a, .slice g.B g.m g.b], .int .i64 (ir fx hs)]) ∧ Hp w [g.jv, g.jn] w' := by
 by_cases h0 : ir fx hs = 0
 ·have he := Bp h0;refine (Ic fx L m2 c2 hs k q D w hT hf hl hcap hS hm2 hz h0 h2s h2t hq (hdD he) hD hk).mono fun r w' ⟨A, a, B, b, hr, hh⟩ => ?_;rw [h0];exact ⟨_, sw (A := A) (a := a) (B := B) (b := b) k he hl, hr, hh⟩
 ·refine (DV fx L m2 c2 hs k w hT hf hl hS hm2 hz h0).mono fun r w' ⟨hr, hb⟩ => ?_;exact ⟨FX.nil, Out.err h0, hr, ((Hp.start w).ext hb).BA⟩
def xm (a : NR) : Bool := decide ((8 : Int) < a.bf.size ∨ a.e < -60 ∨ 60 < a.e)
theorem nU (a : NR) (w : World) :
  Calls Tryz.prog 81 #[.agg #[.bool a.neg, .string a.bf, .int .i64 a.e]] w fun r w' => r = .returned (.bool (xm a)) ∧ Below w.heap.size w w' := by
 have hh := Hp.start w;by_cases h1 : (8 : Int) < a.bf.size
 ·refine DK ?_;refine sr ?_;refine cq hh [_,_,_] ?_;intro b1 w1 hh;refine aB (aa (sr (bF (bF ?_))));refine bE hh 0 ?_;refine bD bq.out rfl Se ?_;refine cg (mB ?_);refine gS (gS (gS ?_));refine fV ?_;refine mB ?_;refine gS (gS (gS ?_));refine fV ?_;refine aB (aa (au ?_));refine da ?_;refine ⟨?_, hh.below⟩;unfold xm;rw [SF (.inl h1)]
 ·by_cases h2 : a.e < -60
  ·refine DK ?_;refine sr ?_;refine cq hh [_,_,_] ?_;intro b1 w1 hh;refine aB (aa (sr (bF (bF ?_))));refine bE hh 0 ?_;refine bD bq.out rfl Se ?_;refine cg (mB (gT (bF (gT ?_))));refine bE hh 0 ?_;refine gT ?_;refine a6 ?_;refine fa ?_;refine mB ?_;refine gS (gS (gS ?_));refine fV ?_;refine aB (aa (au ?_));refine da ?_;refine ⟨?_, hh.below⟩;unfold xm;rw [SF (.inr (.inl h2))]
  ·by_cases h3 : 60 < a.e
   ·refine DK ?_;refine sr ?_;refine cq hh [_,_,_] ?_;intro b1 w1 hh;refine aB (aa (sr (bF (bF ?_))));refine bE hh 0 ?_;refine bD bq.out rfl Se ?_;refine cg (mB (gT (bF (gT ?_))));refine bE hh 0 ?_;refine gT ?_;refine a6 ?_;refine fa ?_;refine mB (gT (bF (gT ?_)));refine bE hh 0 ?_;refine gT ?_;refine cg ?_;refine fa ?_;refine aB (aa (au ?_));refine da ?_;refine ⟨?_, hh.below⟩;unfold xm;rw [SF (.inr (.inr h3))]
   ·refine DK ?_;refine sr ?_;refine cq hh [_,_,_] ?_;intro b1 w1 hh;refine aB (aa (sr (bF (bF ?_))));refine bE hh 0 ?_;refine bD bq.out rfl Se ?_;refine cg (mB (gT (bF (gT ?_))));refine bE hh 0 ?_;refine gT ?_;refine a6 ?_;refine fa ?_;refine mB (gT (bF (gT ?_)));refine bE hh 0 ?_;refine gT ?_;refine cg ?_;refine fa ?_;refine aB (aa (au ?_));refine da ?_;refine ⟨?_, hh.below⟩;unfold xm;rw [SQ Sd]
theorem MS {a : NR} (h : xm a = false) : a.ok ∧ Sz 124 a.d := by
 have h' := of_decide_eq_false h;have h1 : (a.bf.size : Int) ≤ 8 := Sd;have h2 : -60 ≤ a.e := Sd;have h3 : a.e ≤ 60 := Sd;exact ⟨⟨Sd, Sd, Sd⟩, Sz.raw (m := 64) (E := 60) Sd h2 h3⟩
def FX.QD (f : FX) : Prop := f.kq 124 ∧ f.m ≤ 120 ∧ f.n ≤ 20 ∧ ∀ d ∈ f.ds, d ≤ 6 ∨ 128 ≤ d
abbrev iz (l : List Int) (A : Option Addr) (a : Nat) (B : Option Addr) (b : Nat) : FX := ⟨A, 1, a, B, l.length, b, [(l.length : Int) - 1], l.map fun z : Int => nR ((z : Dyadic) * cf (-2))⟩
theorem wN {l : List Int} {A : Option Addr} {a : Nat} {B : Option Addr} {b : Nat} (hn : l.length ≤ 100) (hl : ∀ z ∈ l, z.natAbs < 256) : (iz l A a B b).kq 124 := by
 refine ⟨by show 1 ≤ 1000; omega, by show l.length ≤ 100000; omega, fun c hc => ?_⟩;obtain ⟨z, hz, rfl⟩ := SB.1 hc;have h : Sz 34 ((z : Dyadic) * cf (-2)) := (show Sz 24 (z : Dyadic) from Fv (e := 0) (hl z hz) Se Se).mul (Sz.two (k := 2) Se Se);exact ⟨h.ok Sd, by rw [cn]; exact h.mono Sd⟩
theorem dv (l : List Int) (A : Option Addr) (c : Nat) (w : World) (hS : Sl w A l.length 1 (bm l)) (h0 : 0 < l.length) (hn : l.length ≤ 100) (hl : ∀ z ∈ l, z.natAbs < 256) :
  Calls Tryz.prog 83 #[.slice A l.length c] w fun r w' => ∃ (A : Option Addr) (a : Nat) (B : Option Addr) (b : Nat), r = .returned (.agg #[.slice A 1 a, .slice B l.length b]) ∧ Hp w [(iz l A a B b).jv, (iz l A a B b).jn] w' := by
 have hh := Hp.start w;obtain ⟨n, hn2⟩ : ∃ n, n = l.length := ⟨_, rfl⟩;have hnd : (iz l none 0 none 0).ds = [(n : Int) - 1] := by rw [hn2]
 rw [← hn2] at hS h0 hn ⊢;refine aj (N := 28) (l := [.slice A n c]) Tryz.func83 rfl rfl (by simp) ?_;refine sr ?_;refine bJ hh ?_;intro b2 w2 hh;refine aa (sr (mL (aK ?_)));refine eu ?_;refine qI ?_;intro b8 w8 hh;refine gg [_,_] ?_;refine bJ hh ?_;intro b3 w3 hh;refine bK hh 0 [_,_] ?_;intro ws hh;replace hh : Hp _ (.blk _ _ [_, _] _ :: _) _ := hh;refine aa (ah (sr (aI (aa (ao ?_)))));replace hh := hh.perm (Tr (l₁ := [_]));simp only [Sv, Ss] at hh;have hcap := hh.fH (i := 0) rfl;replace hh := hh.perm (Tr (l₁ := [_]));simp only [Sv, Ss] at hh;replace hh := hh.dL 65 3;refine aN [4, 10, 11, 12, 13, 14, 15, 16, 17, 18, 19, 20, 21, 22, 23, 24, 25, 26] 4
  (fun v w' => ∃ (i c1 : Nat) (B : Option Addr), i ≤ n ∧ v = .int .i64 i ∧ Hp w [.row B i c1 65 3 (aw NR.cells ((l.take i).map fun z : Int => nR ((z : Dyadic) * cf (-2)))), .blk b3 39 [.slice (some ⟨b8, 0, none⟩) 1 1, .slice B i c1] (0, 0), .row (some ⟨b8, 0, none⟩) 1 1 3 1 (bm [(n : Int) - 1]), .blk b2 39 [.slice none 0 0, .slice none 0 0] (0, 0)] w')
  (fun v _ => n - (intOf v).toNat) ?_ ?_
 ·exact ⟨0, 0, none, Sn _, rfl, hh⟩
 ·clear hh;rintro ρ' v w' ⟨i, c1, B, hi, rfl, hh⟩;by_cases hlt : i < n
  ·obtain ⟨z, hz⟩ := av (l := l) (k := i) Sd;have hgz := cO hz;have hzb := hl z (Sp hz);obtain ⟨ad, rfl, hr⟩ := hS.at_ Sd;refine ah (sr (mI (mL (aK ?_))));refine B7 ?_;have hsh := fun w1 => ow (nR (z : Dyadic)) (-2) w1 (by have := (show Sz 24 (z : Dyadic) from Fv (e := 0) hzb Se Se).bf; omega) (by have := (show Sz 24 (z : Dyadic) from Fv (e := 0) hzb Se Se).nr; omega) (by have := (show Sz 24 (z : Dyadic) from Fv (e := 0) hzb Se Se).nr; omega) Se Se;rw [cn] at hsh;refine aU 9 [[(3, none)], [(16, some 0)], [(0, none)], [(4, none)], [(18, some 2), (19, some 3)], [(20, some 4)], [(21, some 5)], [(22, some 6)], [(23, some 7)]] [(8, 24), (7, 23), (6, 22), (5, 21), (4, 20), (3, 19), (2, 18), (1, 17), (0, 16)] hh mixed Sf ?_;refine ek ?_;refine gH 1 ?_;refine iw ?_;refine eH ?_;refine qe (i) ?_;refine bB (i := 5) (fun ρ1 w1 hj hR => ju aP.out (show ρ1 20 = Value.pointer _ from hR.1) ((hr.ext hj.hp.below).DB (by assumption))) ?_;refine dC (fun _ hj => pE z _ Sd Sd) ?_;refine dC (fun _ hj => hsh _) ?_;refine z7 [_,_,_] ?_;refine aR ?_;intro f W hJ hV;have hb_5 := hJ.bl;obtain ⟨v24, v23, v22, v21, v20, v19, v18, v17, v16, _⟩ := hV
   obtain ⟨A24, c24, e24, f24⟩ : Rows _ _ _ (f 8) W := v24;replace hh := hJ.hp;refine aX (bp (ae e24 (ae v23 (ae v22 (ae v21 (ae v20 (ae v19 (ae v18 (ae v17 (ae v16 aW)))))))))) ?_;dsimp only [ck];clear e24 hJ;refine cR hh (i := 0) rfl rfl rfl (f24) bq.out aP.out rfl Se (by first | rfl | exact ez _ | exact du _ | exact bU _ | exact cw NR.one _) Sd Sd Se ?_;intro A25 c25 w25 hh;simp only [Sy] at hh;refine bF ?_;refine bK hh 1 [_] ?_;intro ws hh;replace hh : Hp _ (_ :: .blk _ _ [_, _] _ :: _) _ := hh;refine az (bg (ai (al (mI ?_))));refine a9 (aI (az (ai ?_)));replace hh := hh.sub (Sk _ (Sk _ (Sk _ (Sk _ SD))));refine ⟨⟨i + 1, c25, A25, Sd, rfl, ?_⟩, by show n - (i + 1) < n - i; omega, ?_⟩
   ·rw [ay hz, Tt, cA];exact hh
   ·exact eB
  ·obtain rfl : i = n := Sd;rw [Su Sd] at hh;refine ah (sr (mI (mL (aK ?_))));refine a6 (aa (cF (aV (aE (aE (bo (ai (sr ?_))))))));refine cu hh 1 [_,_] ?_;refine bK hh 3 [_,_] ?_;intro ws hh;replace hh : Hp _ (_ :: _ :: _ :: .blk _ _ [_, _] _ :: _) _ := hh;refine aa (au ?_);replace hh := hh.sub (Sk _ (Sm _ (Sk _ (Sk _ SD))));refine II (dy rfl (dz (vs := [_, _]) aP.out (hh.bH (i := 2) (n := 2) rfl rfl) rfl) fq) ?_;refine ⟨some ⟨b8, 0, none⟩, 1, B, c1, rfl, ?_⟩;unfold FX.jv FX.jn;dsimp only;rw [← hn2];exact hh.sub (Vu [_, _] _)
theorem iT : Sz 2 (cf (-1)) ∧ Sz 2 (1 - cf (-1)) := ⟨(show Sz 1 (cf (-1)) from ⟨1, by decide +kernel, Se⟩).mono Sd, Sz.one.sub (show Sz 1 (cf (-1)) from ⟨1, by decide +kernel, Se⟩)⟩
theorem wc {l : List Int} {D : List Nat} {g : FX} (h : Out 0 D ys g) (h1 : bL D = [(l.length : Int) - 1]) (h2 : ys = l.map fun z : Int => (z : Dyadic) * cf (-2)) (hg : g.at_ w) : ∃ (A : Option Addr) (a : Nat) (B : Option Addr) (b : Nat), g = iz l A a B b := by
 have l1 := hg.ln;obtain ⟨xy, hc0, -, -⟩ := h;obtain ⟨A, n, a, B, m, b, ds, cs⟩ := g;have hd : ds = [(l.length : Int) - 1] := xy.trans h1;have hc : cs = l.map fun z : Int => nR ((z : Dyadic) * cf (-2)) := hc0.trans (by unfold Nb; rw [Sj rfl, h2, Ty]; rfl);obtain ⟨q1, q2⟩ : ds.length = n ∧ cs.length = m := l1;clear xy hc0 h1 h2 hg;subst hd hc q1;obtain rfl : l.length = m := by rw [← q2, Sx]
 exact ⟨A, a, B, b, rfl⟩
abbrev N8 (l : List Int) : List Dyadic := l.map fun z : Int => (z : Dyadic) * cf (-2)
theorem GW {l : List Int} {A : Option Addr} {a : Nat} {B : Option Addr} {b : Nat} (k q : Nat) (hn : l.length ≤ 100) (hk : k + 100 * (260 + 2 * (q * 100)) ≤ 300000) : (iz l A a B b).e = 0 → ∀ d ∈ (iz l A a B b).ns, k + (iz l A a B b).m * (260 + 2 * (q * d)) ≤ 300000 := fun _ d hd => by
 have hd2 : d ∈ [((l.length : Int) - 1).toNat] := hd;rw [SN] at hd2;have h1 : q * d ≤ q * 100 := SX _ Sd;have h2 : l.length * (260 + 2 * (q * d)) ≤ 100 * (260 + 2 * (q * 100)) := Tw hn Sd;show k + l.length * (260 + 2 * (q * d)) ≤ 300000;omega
theorem Gf (l l1 l2 : List Int) (A : Option Addr) (a : Nat) (B : Option Addr) (b : Nat) (w : World) (hT : dD w) (hf : (iz l A a B b).at_ w) (hcap : 1 ≤ a) (hn : l.length ≤ 100) (hl : ∀ z ∈ l, z.natAbs < 256)
  (h : fZ (iz l A a B b) 0 = 0 ∧ iZ false (cf (-1)) (iz l A a B b).ns 0 ((iz l A a B b).cs.map NR.d) = N8 l1 ∧ iZ true (cf (-1)) (iz l A a B b).ns 0 ((iz l A a B b).cs.map NR.d) = N8 l2 ∧ bL (iz l A a B b).ns = [(l1.length : Int) - 1] ∧ bL (iz l A a B b).ns = [(l2.length : Int) - 1]) :
  Calls Tryz.prog 21 #[.agg #[.slice A 1 a, .slice B l.length b], .int .i64 0] w fun r w' => ∃ A1 a1 B1 b1 A2 a2 B2 b2, r = .returned (.tuple #[.agg #[.slice A1 1 a1, .slice B1 l1.length b1], .agg #[.slice A2 1 a2, .slice B2 l2.length b2], .int .i64 0]) ∧ Hp w [(iz l2 A2 a2 B2 b2).jv, (iz l2 A2 a2 B2 b2).jn, (iz l1 A1 a1 B1 b1).jn, (iz l1 A1 a1 B1 b1).jv] w' := by
 have := xG (iz l A a B b) 0 124 2 w hT hf (wN hn hl) hcap iT.1 iT.2 Se (GW 124 2 hn Se);exact PH
theorem P5 (l l1 l2 : List Int) (A : Option Addr) (a : Nat) (B : Option Addr) (b : Nat) (w : World) (hT : dD w) (hf : (iz l A a B b).at_ w) (hcap : 1 ≤ a) (hn : l.length ≤ 100) (hl : ∀ z ∈ l, z.natAbs < 256)
  (h : fZ (iz l A a B b) 0 = 0 ∧ iZ false (cf (-2)) (iz l A a B b).ns 0 ((iz l A a B b).cs.map NR.d) = N8 l1 ∧ iZ true (cf (-2)) (iz l A a B b).ns 0 ((iz l A a B b).cs.map NR.d) = N8 l2 ∧ bL (iz l A a B b).ns = [(l1.length : Int) - 1] ∧ bL (iz l A a B b).ns = [(l2.length : Int) - 1]) :
  Calls Tryz.prog 84 #[.agg #[.slice A 1 a, .slice B l.length b], .int .i64 0, .agg #[.bool (nR (cf (-2))).neg, .string (nR (cf (-2))).bf, .int .i64 (nR (cf (-2))).e]] w fun r w' => ∃ A1 a1 B1 b1 A2 a2 B2 b2, r = .returned (.tuple #[.agg #[.slice A1 1 a1, .slice B1 l1.length b1], .agg #[.slice A2 1 a2, .slice B2 l2.length b2], .int .i64 0]) ∧ Hp w [(iz l2 A2 a2 B2 b2).jv, (iz l2 A2 a2 B2 b2).jn, (iz l1 A1 a1 B1 b1).jn, (iz l1 A1 a1 B1 b1).jv] w' := by
 have z : Sz 2 (cf (-2)) := ⟨1, by decide +kernel, Se⟩;have := MP (iz l A a B b) 0 (nR (cf (-2))) (cf (-2)) 124 4 w hT hf (wN hn hl) hcap (z5.of (z.mono Se) Se) ((Sz.one.mono (show 1 ≤ 3 by decide)).sub (z.mono (show 2 ≤ 3 by decide))) Se (GW 124 4 hn Se);exact PH
theorem Ol (l l1 hs : List Int) (A : Option Addr) (a : Nat) (B : Option Addr) (b : Nat) (L : Option Addr) (c : Nat) (w : World) (hT : dD w) (hf : (iz l A a B b).at_ w) (hcap : 1 ≤ a) (hn : l.length ≤ 10) (hl : ∀ z ∈ l, z.natAbs < 256) (hS : Sl w L hs.length 1 (bm hs)) (hm : hs.length ≤ 6) (hz : ∀ z ∈ hs, -9223372036854775808 ≤ z ∧ z ≤ 9223372036854775807)
  (h : ir (iz l A a B b) hs = 0 ∧ kK (iz l A a B b).ns ((iz l A a B b).cs.map NR.d) hs = N8 l1 ∧ bL (iz l A a B b).ns = [(l1.length : Int) - 1]) :
  Calls Tryz.prog 24 #[.agg #[.slice A 1 a, .slice B l.length b], .slice L hs.length c] w fun r w' => ∃ A1 a1 B1 b1, r = .returned (.tuple #[.agg #[.slice A1 1 a1, .slice B1 l1.length b1], .int .i64 0]) ∧ Hp w [(iz l1 A1 a1 B1 b1).jv, (iz l1 A1 a1 B1 b1).jn] w' := by
 have := DQ (iz l A a B b) L hs.length c hs 124 2 10 w hT hf (wN Sd hl) hcap hS Sd hz iT.1 iT.2 Se (fun _ d hd => by
  have hd2 : d ∈ [((l.length : Int) - 1).toNat] := hd;rw [SN] at hd2;omega) Se (by
  show 124 + hs.length * (260 + 2 * (2 * 10)) + l.length * (260 + 2 * (2 * 10)) ≤ 300000;omega)
 rw [h.1] at this;refine this.mono fun r w' ⟨g, o1, hr, hh⟩ => ?_;obtain ⟨A1, a1, B1, b1, rfl⟩ := wc o1 h.2.2 h.2.1 (hh.dV (Sp (i := 0) rfl) (Sp (i := 1) rfl));exact ⟨A1, a1, B1, b1, hr, hh⟩
theorem EY (B : Option Addr) (b : Nat) (w : World) (hT : dD w) (hS : Sl w B 1 3 (aw NR.cells [nR ((7 : Int) : Dyadic)])) :
  Calls Tryz.prog 21 #[.agg #[.slice none 0 0, .slice B 1 b], .int .i64 0] w fun r w' => r = KC 1 ∧ Below w.heap.size w w' := by
 have z : Sz 24 ((7 : Int) : Dyadic) := Fv (m := 7) (e := 0) Se Se Se;have hE : fZ (⟨none, 0, 0, B, 1, b, [], [nR ((7 : Int) : Dyadic)]⟩ : FX) 0 = 1 := by kernel_rfl
 have := oZ (⟨none, 0, 0, B, 1, b, [], [nR ((7 : Int) : Dyadic)]⟩ : FX) 0 124 2 w hT ⟨Sl.nil _ _ _, hS⟩ ⟨Sn _, TK rfl, fun c hc => by
  rw [SN] at hc;subst hc;exact ⟨z.ok Sd, by rw [cn]; exact z.mono Sd⟩⟩ (So _) iT.1 iT.2 Se (fun _ d hd => by cases hd) (by rw [hE]; decide)
 rw [hE] at this;exact this.mono fun r w' h => ⟨h.2, h.1⟩
def dK (l : List Int) : VP := fun v W => ∃ g : FX, v = .agg #[.slice g.A g.n g.a, .slice g.B g.m g.b] ∧ g.ds = [(l.length : Int) - 1] ∧ g.cs = (l.map fun z : Int => nR ((z : Dyadic) * cf (-2))) ∧ g.at_ W
theorem dK.ext {l : List Int} (v : Value) (w w' : World) (h : dK l v w) (hb : Below w.heap.size w w') : dK l v w' := let ⟨g, h1, h2, h3, h4⟩ := h; ⟨g, h1, h2, h3, h4.ext hb⟩
theorem jy (w : World) (hT : dD w) : Calls Tryz.prog 19 #[] w fun r w' => r = .returned (.bool true) ∧ Below w.heap.size w w' := by
 have hh := Hp.start w;have hsh := fun w1 => ow (nR ((1 : Int) : Dyadic)) (-2) w1 (by decide +kernel) (by decide +kernel) (by decide +kernel) Se Se;rw [cn, show ((1 : Int) : Dyadic) * cf (-2) = cf (-2) from Uz _] at hsh;refine aj (N := 113) (l := []) Tryz.func19 rfl rfl (by simp) ?_;refine sr (aB (aa (sr ?_)));refine Io ?_;intro b16 w16 hh;refine aC (dv [0, 4] _ _ _ (hh.aD (i := 0) rfl) Se Se Se) ak.out rfl Se ?_;rintro e_ w17 ⟨Af1, af1, Bf1, bf1, rfl, h2⟩;refine ⟨_, rfl, ?_⟩;replace hh := hh.join h2;clear h2;have capf1 := hh.fH (i := 1) rfl;refine aC (Gf [0, 4] [0, 2] [2, 4] Af1 af1 Bf1 bf1 _ (hT.hp hh) (hh.dV (Sp (i := 0) rfl) (Sp (i := 1) rfl)) capf1 Se Se ⟨by kernel_rfl, by kernel_rfl, by kernel_rfl, by kernel_rfl, by kernel_rfl⟩) ak.out rfl Se ?_;rintro e_ w18 ⟨Ar1, ar1, Br1, br1, Ar2, ar2, Br2, br2, rfl, h2⟩;refine ⟨_, rfl, ?_⟩;replace hh := hh.join h2;clear h2;replace hh := hh.sub (Sk _ (Sk _ (Sk _ (Sk _ (Sm _ (Sm _ (Sm _ SD)))))));refine mT ?_;refine cE ?_;refine cE ?_;refine cE ?_
 refine bJ hh ?_;intro b1 w1 hh;refine bJ hh ?_;intro b2 w2 hh;refine bK hh 1 [_,_] ?_;intro ws hh;replace hh : Hp _ (_ :: .blk _ _ [_, _] _ :: _) _ := hh;refine bK hh 0 [_,_] ?_;intro ws hh;replace hh : Hp _ (.blk _ _ [_, _] _ :: _) _ := hh;refine aI (aa (sr ?_));refine LK ?_;intro b23 w23 hh;refine aC (dv [0, 0, 16] _ _ _ (hh.aD (i := 0) rfl) Se Se Se) ak.out rfl Se ?_;rintro e_ w24 ⟨Af2, af2, Bf2, bf2, rfl, h2⟩;refine ⟨_, rfl, ?_⟩;replace hh := hh.join h2;clear h2;have capf2 := hh.fH (i := 1) rfl;refine aC (Gf [0, 0, 16] [0, 0, 4] [4, 16, 16] Af2 af2 Bf2 bf2 _ (hT.hp hh) (hh.dV (Sp (i := 0) rfl) (Sp (i := 1) rfl)) capf2 Se Se ⟨by kernel_rfl, by kernel_rfl, by kernel_rfl, by kernel_rfl, by kernel_rfl⟩) ak.out rfl Se ?_;rintro e_ w25 ⟨Ar4, ar4, Br4, br4, Ar5, ar5, Br5, br5, rfl, h2⟩;refine ⟨_, rfl, ?_⟩;replace hh := hh.join h2;clear h2
 replace hh := hh.sub (Sk _ (Sk _ (Sk _ (Sk _ (Sm _ (Sm _ (Sm _ (Sk _ (Sk _ (Sk _ (Sk _ (Sk _ (Sk _ SD)))))))))))));refine mT ?_;refine cE ?_;refine cE ?_;refine cE ?_;refine bJ hh ?_;intro b4 w4 hh;refine bJ hh ?_;intro b5 w5 hh;refine bK hh 1 [_,_] ?_;intro ws hh;replace hh : Hp _ (_ :: .blk _ _ [_, _] _ :: _) _ := hh;refine bK hh 0 [_,_] ?_;intro ws hh;replace hh : Hp _ (.blk _ _ [_, _] _ :: _) _ := hh;refine aI (aa (sr ?_));refine Io ?_;intro b30 w30 hh;refine aC (dv [0, 4] _ _ _ (hh.aD (i := 0) rfl) Se Se Se) ak.out rfl Se ?_;rintro e_ w31 ⟨Af3, af3, Bf3, bf3, rfl, h2⟩;refine ⟨_, rfl, ?_⟩;replace hh := hh.join h2;clear h2;have capf3 := hh.fH (i := 1) rfl;refine br hh (pE 1 _ Se Se) rfl ?_;intro w32 hh;refine br hh (hsh _) rfl ?_;intro w33 hh
 refine aC (P5 [0, 4] [0, 1] [1, 4] Af3 af3 Bf3 bf3 _ (hT.hp hh) (hh.dV (Sp (i := 0) rfl) (Sp (i := 1) rfl)) capf3 Se Se ⟨by kernel_rfl, by kernel_rfl, by kernel_rfl, by kernel_rfl, by kernel_rfl⟩) ak.out rfl Se ?_;rintro e_ w34 ⟨Ar7, ar7, Br7, br7, Ar8, ar8, Br8, br8, rfl, h2⟩;refine ⟨_, rfl, ?_⟩;replace hh := hh.join h2;clear h2;replace hh := hh.sub (Sk _ (Sk _ (Sk _ (Sk _ (Sm _ (Sm _ (Sm _ (Sk _ (Sk _ (Sk _ (Sk _ (Sk _ (Sk _ (Sk _ (Sk _ (Sk _ (Sk _ (Sk _ (Sk _ SD)))))))))))))))))));refine mT ?_;refine cE ?_;refine cE ?_;refine cE ?_;refine bJ hh ?_;intro b7 w7 hh;refine bJ hh ?_;intro b8 w8 hh;refine bK hh 1 [_,_] ?_;intro ws hh;replace hh : Hp _ (_ :: .blk _ _ [_, _] _ :: _) _ := hh;refine bK hh 0 [_,_] ?_;intro ws hh;replace hh : Hp _ (.blk _ _ [_, _] _ :: _) _ := hh
 refine aI (aa (sr ?_));refine LK ?_;intro b39 w39 hh;refine aC (dv [0, 0, 16] _ _ _ (hh.aD (i := 0) rfl) Se Se Se) ak.out rfl Se ?_;rintro e_ w40 ⟨Af4, af4, Bf4, bf4, rfl, h2⟩;refine ⟨_, rfl, ?_⟩;replace hh := hh.join h2;clear h2;have capf4 := hh.fH (i := 1) rfl;refine Io ?_;intro b41 w41 hh;refine aC (Ol [0, 0, 16] [4, 12, 9] [1, 0] Af4 af4 Bf4 bf4 _ _ _ (hT.hp hh) (hh.dV (Sp (i := 1) rfl) (Sp (i := 2) rfl)) capf4 Se Se (hh.aD (i := 0) rfl) Se Se ⟨by kernel_rfl, by kernel_rfl, by kernel_rfl⟩) ak.out rfl Se ?_;rintro e_ w42 ⟨Ar10, ar10, Br10, br10, rfl, h2⟩;refine ⟨_, rfl, ?_⟩;replace hh := hh.join h2;clear h2
 replace hh := hh.sub (Sk _ (Sk _ (Sm _ (Sm _ (Sm _ (Sm _ (Sk _ (Sk _ (Sk _ (Sk _ (Sk _ (Sk _ (Sk _ (Sk _ (Sk _ (Sk _ (Sk _ (Sk _ (Sk _ (Sk _ (Sk _ (Sk _ (Sk _ (Sk _ SD))))))))))))))))))))))));refine mT ?_;refine cE ?_;refine cE ?_;refine bJ hh ?_;intro b10 w10 hh;refine bK hh 0 [_,_] ?_;intro ws hh;replace hh : Hp _ (.blk _ _ [_, _] _ :: _) _ := hh;refine aI (aa (sr ?_));refine br hh (pE 7 _ Se Se) rfl ?_;intro w46 hh;refine qu ?_;intro b47 w47 hh;refine gg [_,_] ?_;refine aC (EY _ _ _ (hT.hp hh) (hh.aD (i := 0) rfl)) ak.out rfl Se ?_;rintro e_ w49 ⟨rfl, hb_⟩;refine ⟨_, rfl, ?_⟩;replace hh := hh.ext hb_
 replace hh := hh.sub (Sm _ (Sk _ (Sk _ (Sk _ (Sk _ (Sk _ (Sk _ (Sk _ (Sk _ (Sk _ (Sk _ (Sk _ (Sk _ (Sk _ (Sk _ (Sk _ (Sk _ (Sk _ (Sk _ (Sk _ (Sk _ (Sk _ SD))))))))))))))))))))));refine mT ?_;refine cE ?_;refine cE ?_;refine cE ?_;refine bJ hh ?_;intro b12 w12 hh;refine bJ hh ?_;intro b13 w13 hh;refine bK hh 1 [_,_] ?_;intro ws hh;replace hh : Hp _ (_ :: .blk _ _ [_, _] _ :: _) _ := hh;refine bK hh 0 [_,_] ?_;intro ws hh;replace hh : Hp _ (.blk _ _ [_, _] _ :: _) _ := hh;refine aI (aa (ah ?_))
 replace hh := hh.sub (Sm _ (Sm _ (Sk _ (Sk _ (Sk _ (Sk _ (Sk _ (Sk _ (Sk _ (Sk _ (Sk _ (Sk _ (Sk _ (Sk _ (Sk _ (Sk _ (Sk _ (Sk _ (Sk _ (Sk _ (Sk _ (Sk _ (Sk _ SD)))))))))))))))))))))))
 refine eM [] [] [0, 0, 2, 7, 15, 31, 31, 95, 255, 511, 1023, 2047, 4095, 8191, 16383, 32767, 32767, 98303, 262143, 524287, 1048575, 2097151, 2097151, 6291455, 16777215, 33554431, 67108863, 134217727, 268435455, 536870911, 1073741823, 2147483647, 2147483647, 6442450943, 17179869183, 34359738367, 68719476735, 137438953471, 137438953471, 412316860415, 1099511627775, 2199023255551, 4398046511103, 8796093022207, 17592186044415, 35184372088831, 70368744177663, 140737488355327, 140737488355327, 422212465065983, 1125899906842623, 2251799813685247, 4503599627370495, 9007199254740991, 18014398509481983, 36028797018963967, 72057594037927935, 144115188075855871, 288230376151711743, 576460752303423487, 1152921504606846975] 50 [[(1, none)], [], [(54, some 1)], [(53, some 0), (55, some 2)], [(56, some 3)], [(2, none), (57, some 4)], [(57, some 4)], [(59, some 6), (57, some 4)], [(58, some 5), (60, some 7), (57, some 4)], [(57, some 4), (61, some 8)], [(62, some 9)], [(3, none), (63, some 10)], [(64, some 11), (63, some 10)], [(63, some 10), (65, some 12)], [(66, some 13)], [(4, none), (67, some 14)], [(67, some 14)], [(69, some 16), (67, some 14)], [(68, some 15), (70, some 17), (67, some 14)], [(67, some 14), (71, some 18)], [(72, some 19)], [(5, none), (73, some 20)], [(73, some 20)], [(75, some 22), (73, some 20)], [(74, some 21), (76, some 23), (73, some 20)], [(73, some 20), (77, some 24)], [(78, some 25)], [(6, none), (79, some 26)], [(80, some 27), (79, some 26)], [(79, some 26), (81, some 28)], [(82, some 29)], [(7, none), (83, some 30)], [(83, some 30)], [(85, some 32), (83, some 30)], [(84, some 31), (86, some 33), (83, some 30)], [(83, some 30), (87, some 34)], [(88, some 35)], [(8, none), (89, some 36)], [(89, some 36)], [(91, some 38), (89, some 36)], [(90, some 37), (92, some 39), (89, some 36)], [(89, some 36), (93, some 40)], [(94, some 41)], [(9, none), (95, some 42)], [(96, some 43), (95, some 42)], [(95, some 42), (97, some 44)], [(98, some 45)], [(10, none), (99, some 46)], [(99, some 46)], [(101, some 48), (99, some 46)]] [(49, 102), (48, 101), (47, 100), (46, 99), (45, 98), (44, 97), (43, 96), (42, 95), (41, 94), (40, 93), (39, 92), (38, 91), (37, 90), (36, 89), (35, 88), (34, 87), (33, 86), (32, 85), (31, 84), (30, 83), (29, 82), (28, 81), (27, 80), (26, 79), (25, 78), (24, 77), (23, 76), (22, 75), (21, 74), (20, 73), (19, 72), (18, 71), (17, 70), (16, 69), (15, 68), (14, 67), (13, 66), (12, 65), (11, 64), (10, 63), (9, 62), (8, 61), (7, 60), (6, 59), (5, 58), (4, 57), (3, 56), (2, 55), (1, 54), (0, 53)] hh mixed Sf fN rfl (by repeat (first | exact bT | refine bG ?_ | refine bW ?_)) ?_
 refine eX 16 [_,_] ?_;refine z7 [_,_] ?_;refine a8 (i := 2) (dK [0, 2]) (dK.ext) ?_ ?_
 ·intro ρ1 w1 hj hR;obtain ⟨A54, c54, h54, s54⟩ := hR.1;exact let ⟨A, c, e1, s1⟩ := hR.1; bA rfl (aZ ak.out (aA e1 a7)) (dv [0, 2] A c w1 s1 Se Se Se) (fun _ _ ⟨A2, a2, B2, b2, q1, q2⟩ => ⟨_, q1, q2.below, iz [0, 2] A2 a2 B2 b2, rfl, rfl, rfl, q2.dV Sq (SA _ Sq)⟩)
 refine a8 (i := 3) (Is (.bool true)) (Is.ext) ?_ ?_
 ·intro ρ1 w1 hj hR;obtain ⟨g55, e55, o55⟩ := hR.2.1;exact let ⟨g, e1, e2, e3, e4⟩ := hR.2.1; bA rfl (aZ ak.out (aA (show ρ1 53 = Value.agg (List.toArray _) from hR.1) (aA e1 a7))) (dT (iz [0, 2] Ar1 ar1 Br1 br1) g w1 (hj.hp.dV (Sp (i := 20) rfl) (Sp (i := 19) rfl)) e4 ⟨e2.symm, e3.symm⟩ (TK rfl) (TK rfl)) (fun _ _ ⟨q1, q2⟩ => ⟨_, q1, q2, rfl⟩)
 refine pK ?_;refine dG (eX 15 [_,_] ?_);refine dp (i := 6) (cs := [_, _]) rfl (fun ρ1 w1 hj hR => (show ρ1 57 = Value.bool _ from hR.1)) bq.out aP.out (fun ρ1 w1 hj hR => (bC rfl (bC rfl dF))) rfl rfl Se Se rfl ?_;refine a8 (i := 7) (dK [2, 4]) (dK.ext) ?_ ?_
 ·intro ρ1 w1 hj hR;obtain ⟨A59, c59, h59, s59⟩ := hR.1;exact let ⟨A, c, e1, s1⟩ := hR.1; bV rfl (show ρ1 57 = Value.bool _ from hR.2.1) (bA rfl (aZ ak.out (aA e1 a7)) (dv [2, 4] A c w1 s1 Se Se Se) (fun _ _ ⟨A2, a2, B2, b2, q1, q2⟩ => ⟨_, q1, q2.below, iz [2, 4] A2 a2 B2 b2, rfl, rfl, rfl, q2.dV Sq (SA _ Sq)⟩))
 refine a8 (i := 8) (Is (.bool true)) (Is.ext) ?_ ?_
 ·intro ρ1 w1 hj hR;obtain ⟨g60, e60, o60⟩ := hR.2.1;exact let ⟨g, e1, e2, e3, e4⟩ := hR.2.1; bV rfl (show ρ1 57 = Value.bool _ from hR.2.2.1) (bA rfl (aZ ak.out (aA (show ρ1 58 = Value.agg (List.toArray _) from hR.1) (aA e1 a7))) (dT (iz [2, 4] Ar2 ar2 Br2 br2) g w1 (hj.hp.dV (Sp (i := 17) rfl) (Sp (i := 18) rfl)) e4 ⟨e2.symm, e3.symm⟩ (TK rfl) (TK rfl)) (fun _ _ ⟨q1, q2⟩ => ⟨_, q1, q2, rfl⟩))
 refine IM ?_;refine pK ?_;refine dG (eH ?_);refine dG (zu ?_);refine IM ?_;refine pK ?_;refine dG (eX 10 [_,_] ?_);refine dp (i := 16) (cs := [_, _, _]) rfl (fun ρ1 w1 hj hR => (show ρ1 67 = Value.bool _ from hR.1)) bq.out aP.out (fun ρ1 w1 hj hR => (bC rfl (bC rfl (bC rfl dF)))) rfl rfl Se Se rfl ?_;refine a8 (i := 17) (dK [0, 0, 4]) (dK.ext) ?_ ?_
 ·intro ρ1 w1 hj hR;obtain ⟨A69, c69, h69, s69⟩ := hR.1;exact let ⟨A, c, e1, s1⟩ := hR.1; bV rfl (show ρ1 67 = Value.bool _ from hR.2.1) (bA rfl (aZ ak.out (aA e1 a7)) (dv [0, 0, 4] A c w1 s1 Se Se Se) (fun _ _ ⟨A2, a2, B2, b2, q1, q2⟩ => ⟨_, q1, q2.below, iz [0, 0, 4] A2 a2 B2 b2, rfl, rfl, rfl, q2.dV Sq (SA _ Sq)⟩))
 refine a8 (i := 18) (Is (.bool true)) (Is.ext) ?_ ?_
 ·intro ρ1 w1 hj hR;obtain ⟨g70, e70, o70⟩ := hR.2.1;exact let ⟨g, e1, e2, e3, e4⟩ := hR.2.1; bV rfl (show ρ1 67 = Value.bool _ from hR.2.2.1) (bA rfl (aZ ak.out (aA (show ρ1 68 = Value.agg (List.toArray _) from hR.1) (aA e1 a7))) (dT (iz [0, 0, 4] Ar4 ar4 Br4 br4) g w1 (hj.hp.dV (Sp (i := 14) rfl) (Sp (i := 13) rfl)) e4 ⟨e2.symm, e3.symm⟩ (TK rfl) (TK rfl)) (fun _ _ ⟨q1, q2⟩ => ⟨_, q1, q2, rfl⟩))
 refine IM ?_;refine pK ?_;refine dG (eX 9 [_,_] ?_);refine dp (i := 22) (cs := [_, _, _]) rfl (fun ρ1 w1 hj hR => (show ρ1 73 = Value.bool _ from hR.1)) bq.out aP.out (fun ρ1 w1 hj hR => (bC rfl (bC rfl (bC rfl dF)))) rfl rfl Se Se rfl ?_;refine a8 (i := 23) (dK [4, 16, 16]) (dK.ext) ?_ ?_
 ·intro ρ1 w1 hj hR;obtain ⟨A75, c75, h75, s75⟩ := hR.1;exact let ⟨A, c, e1, s1⟩ := hR.1; bV rfl (show ρ1 73 = Value.bool _ from hR.2.1) (bA rfl (aZ ak.out (aA e1 a7)) (dv [4, 16, 16] A c w1 s1 Se Se Se) (fun _ _ ⟨A2, a2, B2, b2, q1, q2⟩ => ⟨_, q1, q2.below, iz [4, 16, 16] A2 a2 B2 b2, rfl, rfl, rfl, q2.dV Sq (SA _ Sq)⟩))
 refine a8 (i := 24) (Is (.bool true)) (Is.ext) ?_ ?_
 ·intro ρ1 w1 hj hR;obtain ⟨g76, e76, o76⟩ := hR.2.1;exact let ⟨g, e1, e2, e3, e4⟩ := hR.2.1; bV rfl (show ρ1 73 = Value.bool _ from hR.2.2.1) (bA rfl (aZ ak.out (aA (show ρ1 74 = Value.agg (List.toArray _) from hR.1) (aA e1 a7))) (dT (iz [4, 16, 16] Ar5 ar5 Br5 br5) g w1 (hj.hp.dV (Sp (i := 11) rfl) (Sp (i := 12) rfl)) e4 ⟨e2.symm, e3.symm⟩ (TK rfl) (TK rfl)) (fun _ _ ⟨q1, q2⟩ => ⟨_, q1, q2, rfl⟩))
 refine IM ?_;refine pK ?_;refine dG (eH ?_);refine dG (zu ?_);refine IM ?_;refine pK ?_;refine dG (eX 4 [_,_] ?_);refine dp (i := 32) (cs := [_, _]) rfl (fun ρ1 w1 hj hR => (show ρ1 83 = Value.bool _ from hR.1)) bq.out aP.out (fun ρ1 w1 hj hR => (bC rfl (bC rfl dF))) rfl rfl Se Se rfl ?_;refine a8 (i := 33) (dK [0, 1]) (dK.ext) ?_ ?_
 ·intro ρ1 w1 hj hR;obtain ⟨A85, c85, h85, s85⟩ := hR.1;exact let ⟨A, c, e1, s1⟩ := hR.1; bV rfl (show ρ1 83 = Value.bool _ from hR.2.1) (bA rfl (aZ ak.out (aA e1 a7)) (dv [0, 1] A c w1 s1 Se Se Se) (fun _ _ ⟨A2, a2, B2, b2, q1, q2⟩ => ⟨_, q1, q2.below, iz [0, 1] A2 a2 B2 b2, rfl, rfl, rfl, q2.dV Sq (SA _ Sq)⟩))
 refine a8 (i := 34) (Is (.bool true)) (Is.ext) ?_ ?_
 ·intro ρ1 w1 hj hR;obtain ⟨g86, e86, o86⟩ := hR.2.1;exact let ⟨g, e1, e2, e3, e4⟩ := hR.2.1; bV rfl (show ρ1 83 = Value.bool _ from hR.2.2.1) (bA rfl (aZ ak.out (aA (show ρ1 84 = Value.agg (List.toArray _) from hR.1) (aA e1 a7))) (dT (iz [0, 1] Ar7 ar7 Br7 br7) g w1 (hj.hp.dV (Sp (i := 8) rfl) (Sp (i := 7) rfl)) e4 ⟨e2.symm, e3.symm⟩ (TK rfl) (TK rfl)) (fun _ _ ⟨q1, q2⟩ => ⟨_, q1, q2, rfl⟩))
 refine IM ?_;refine pK ?_;refine dG (eX 3 [_,_] ?_);refine dp (i := 38) (cs := [_, _]) rfl (fun ρ1 w1 hj hR => (show ρ1 89 = Value.bool _ from hR.1)) bq.out aP.out (fun ρ1 w1 hj hR => (bC rfl (bC rfl dF))) rfl rfl Se Se rfl ?_;refine a8 (i := 39) (dK [1, 4]) (dK.ext) ?_ ?_
 ·intro ρ1 w1 hj hR;obtain ⟨A91, c91, h91, s91⟩ := hR.1;exact let ⟨A, c, e1, s1⟩ := hR.1; bV rfl (show ρ1 89 = Value.bool _ from hR.2.1) (bA rfl (aZ ak.out (aA e1 a7)) (dv [1, 4] A c w1 s1 Se Se Se) (fun _ _ ⟨A2, a2, B2, b2, q1, q2⟩ => ⟨_, q1, q2.below, iz [1, 4] A2 a2 B2 b2, rfl, rfl, rfl, q2.dV Sq (SA _ Sq)⟩))
 refine a8 (i := 40) (Is (.bool true)) (Is.ext) ?_ ?_
 ·intro ρ1 w1 hj hR;obtain ⟨g92, e92, o92⟩ := hR.2.1;exact let ⟨g, e1, e2, e3, e4⟩ := hR.2.1; bV rfl (show ρ1 89 = Value.bool _ from hR.2.2.1) (bA rfl (aZ ak.out (aA (show ρ1 90 = Value.agg (List.toArray _) from hR.1) (aA e1 a7))) (dT (iz [1, 4] Ar8 ar8 Br8 br8) g w1 (hj.hp.dV (Sp (i := 5) rfl) (Sp (i := 6) rfl)) e4 ⟨e2.symm, e3.symm⟩ (TK rfl) (TK rfl)) (fun _ _ ⟨q1, q2⟩ => ⟨_, q1, q2, rfl⟩))
 refine IM ?_;refine pK ?_;refine dG (eH ?_);refine dG (zu ?_);refine IM ?_;refine pK ?_;refine dG (eX 0 [_,_] ?_);refine dp (i := 48) (cs := [_, _, _]) rfl (fun ρ1 w1 hj hR => (show ρ1 99 = Value.bool _ from hR.1)) bq.out aP.out (fun ρ1 w1 hj hR => (bC rfl (bC rfl (bC rfl dF)))) rfl rfl Se Se rfl ?_;refine a8 (i := 49) (dK [4, 12, 9]) (dK.ext) ?_ ?_
 ·intro ρ1 w1 hj hR;obtain ⟨A101, c101, h101, s101⟩ := hR.1;exact let ⟨A, c, e1, s1⟩ := hR.1; bV rfl (show ρ1 99 = Value.bool _ from hR.2.1) (bA rfl (aZ ak.out (aA e1 a7)) (dv [4, 12, 9] A c w1 s1 Se Se Se) (fun _ _ ⟨A2, a2, B2, b2, q1, q2⟩ => ⟨_, q1, q2.below, iz [4, 12, 9] A2 a2 B2 b2, rfl, rfl, rfl, q2.dV Sq (SA _ Sq)⟩))
 refine aR ?_;intro f W hJ hV _;have hb_6 := hJ.bl;obtain ⟨v102, v101, v100, v99, v98, v97, v96, v95, v94, v93, v92, v91, v90, v89, v88, v87, v86, v85, v84, v83, v82, v81, v80, v79, v78, v77, v76, v75, v74, v73, v72, v71, v70, v69, v68, v67, v66, v65, v64, v63, v62, v61, v60, v59, v58, v57, v56, v55, v54, v53, _⟩ := hV;obtain ⟨A54, c54, e54, f54⟩ : Rows _ _ _ (f 1) W := v54;obtain ⟨g55, e55, o55⟩ : dK [0, 2] (f 2) W := v55;obtain ⟨A59, c59, e59, f59⟩ : Rows _ _ _ (f 6) W := v59;obtain ⟨g60, e60, o60⟩ : dK [2, 4] (f 7) W := v60;obtain ⟨A69, c69, e69, f69⟩ : Rows _ _ _ (f 16) W := v69;obtain ⟨g70, e70, o70⟩ : dK [0, 0, 4] (f 17) W := v70;obtain ⟨A75, c75, e75, f75⟩ : Rows _ _ _ (f 22) W := v75;obtain ⟨g76, e76, o76⟩ : dK [4, 16, 16] (f 23) W := v76;obtain ⟨A85, c85, e85, f85⟩ : Rows _ _ _ (f 32) W := v85;obtain ⟨g86, e86, o86⟩ : dK [0, 1] (f 33) W := v86;obtain ⟨A91, c91, e91, f91⟩ : Rows _ _ _ (f 38) W := v91;obtain ⟨g92, e92, o92⟩ : dK [1, 4] (f 39) W := v92;obtain ⟨A101, c101, e101, f101⟩ : Rows _ _ _ (f 48) W := v101;obtain ⟨g102, e102, o102⟩ : dK [4, 12, 9] (f 49) W := v102;replace hh := hJ.hp
 refine aX (bp (ae e102 (ae e101 (ae v100 (ae v99 (ae v98 (ae v97 (ae v96 (ae v95 (ae v94 (ae v93 (ae e92 (ae e91 (ae v90 (ae v89 (ae v88 (ae v87 (ae e86 (ae e85 (ae v84 (ae v83 (ae v82 (ae v81 (ae v80 (ae v79 (ae v78 (ae v77 (ae e76 (ae e75 (ae v74 (ae v73 (ae v72 (ae v71 (ae e70 (ae e69 (ae v68 (ae v67 (ae v66 (ae v65 (ae v64 (ae v63 (ae v62 (ae v61 (ae e60 (ae e59 (ae v58 (ae v57 (ae v56 (ae e55 (ae e54 (ae v53 aW))))))))))))))))))))))))))))))))))))))))))))))))))) ?_;dsimp only [ck];clear e54 e55 e59 e60 e69 e70 e75 e76 e85 e86 e91 e92 e101 e102 hJ;refine aH rfl rfl ?_;refine br hh (dT (iz [4, 12, 9] Ar10 ar10 Br10 br10) g102 _ (hh.dV (Sp (i := 1) rfl) (Sp (i := 2) rfl)) o102.2.2 ⟨o102.1.symm, o102.2.1.symm⟩ (TK rfl) (TK rfl)) rfl ?_;intro w103 hh;refine fV ?_;refine mB (gT (mI (gT ?_)));refine cH ?_;refine fV ?_;refine mB (gT (mI (gT ?_)));refine cH ?_;refine fV ?_;exact vV
variable {p : List TR} {β : Type}
def mulM (a b : ByteArray) : ByteArray := str (mulL a.data.toList b.data.toList).1
def l8 (a b : ByteArray) : Int := (mulL a.data.toList b.data.toList).2
def pQ (x y : TR) : TR := ⟨mulM x.m y.m, nR (x.c.d * y.c.d)⟩
def bR (p q : List TR) : List TR := p.flatMap fun x => q.map (pQ x)
def qt (p q : List TR) : List Int := p.flatMap fun x => q.map fun y => l8 x.m y.m
def e6 (p q : List TR) : Int := if 65536 < p.length * q.length then 3 else match (qt p q).find? fun e => decide (e ≠ 0) with | some e => e | none => if 4096 < (aF (bR p q)).length then 3 else 0
theorem xU {α β : Type} {f : α → List β} {k : Nat} : ∀ {l : List α}, (∀ x ∈ l, (f x).length = k) → (l.flatMap f).length = l.length * k
 | [], _ => by simp
 | x :: l, h => by
  rw [List.flatMap_cons, Sr, h x Sq, xU fun y hy => h y (SA _ hy), SG, Tl, Uj]
theorem jE (p q : List TR) : (bR p q).length = p.length * q.length := xU fun x _ => Sx _
theorem pY {γ : Type} {f : α → β → γ} {p : List α} {q : List β} {i : Nat} {x : α} (hx : p[i]? = some x) :
  ((p.take (i + 1)).flatMap fun x => q.map (f x)) = ((p.take i).flatMap fun x => q.map (f x)) ++ (q.take q.length).map (f x) := by
 rw [ay hx, Vf, Su (So _)];simp
theorem Ap {γ : Type} {f : α → β → γ} {p : List α} {q : List β} {i : Nat} {x : α} {y : β} (hx : p[i]? = some x) (hy : q[j]? = some y) :
  ∃ R, (p.flatMap fun x => q.map (f x)) = (((p.take i).flatMap fun x => q.map (f x)) ++ (q.take j).map (f x)) ++ f x y :: R := by
 refine ⟨(q.drop (j + 1)).map (f x) ++ (p.drop (i + 1)).flatMap fun x => q.map (f x), ?_⟩;have e1 : p = p.take i ++ x :: p.drop (i + 1) := by rw [← gE hx, To]
 have e2 : q = q.take j ++ y :: q.drop (j + 1) := by rw [← gE hy, To]
 have e3 : q.map (f x) = (q.take j).map (f x) ++ f x y :: (q.drop (j + 1)).map (f x) := by
  rw [← SW, ← Tt, ← e2]
 calc (p.flatMap fun x => q.map (f x)) = (p.take i ++ x :: p.drop (i + 1)).flatMap fun x => q.map (f x) := by rw [← e1]
  _ = _ := by rw [Vf, List.flatMap_cons, e3]; simp
theorem oO {q : List TR} (hp : iA k p) (hq : iA j q) (h : k + j ≤ 1000000) : iA (k + j) (bR p q) := fun t ht => by
 obtain ⟨x, hx, ht⟩ := Uw.1 ht;obtain ⟨y, hy, rfl⟩ := SB.1 ht;have hs := (hp x hx).2.mul (hq y hy).2;exact ⟨hs.ok Sd, by show Sz _ (nR _).d; rw [cn]; exact hs⟩
theorem Ec (a b : ByteArray) : (mulM a b).size ≤ b.size := by
 unfold mulM;rw [l7];unfold mulL;split
 ·rename_i l hl;have := (u4 hl).2.2;have h4 : l.length ≤ b.data.toList.length := by rw [this.2, List.length_zipWith, cK, cK]; omega
  have h5 : (IH l).length ≤ l.length := by unfold IH; split <;> simp
  rw [dE];exact SK h5 h4
 ·exact Sn _
variable {l ts : List TR}
theorem HW (c : Dyadic) (f : ByteArray → Dyadic) (l : List TR) : wS (fun m => c * f m) l = c * wS f l := by
 induction l with
 | nil => exact (U4 _).symm
 | cons t l ih => rw [wS, wS, ih]; grind
theorem H0 (f : ByteArray → Dyadic) (x : TR) (q : List TR) : wS f (q.map (pQ x)) = x.c.d * wS (fun b => f (mulM x.m b)) q := by
 induction q with
 | nil => exact (U4 _).symm
 | cons t q ih =>
  rw [SW, wS, ih, wS];show (nR _).d * f (mulM x.m t.m) + _ = _;rw [cn];grind
theorem yU (f : ByteArray → Dyadic) (q : List TR) : ∀ p : List TR, wS f (bR p q) = wS (fun a => wS (fun b => f (mulM a b)) q) p
 | [] => rfl
 | t :: p => by
  show wS f (q.map (pQ t) ++ bR p q) = _;rw [mC, H0, yU f q p, wS]
def nx (c : Dyadic) (t : TR) : TR := ⟨t.m, nR (t.c.d * c)⟩
theorem cm {v : Int} (h : fh v ts = 0) : iJ v = true ∧ ts.length ≤ 4096 ∧ (∀ t ∈ ts, fK v t = true) ∧ Canon ts := by
 unfold fh at h
 cases hf : iJ v with
 | false => rw [hf, Sj rfl] at h; omega
 | true =>
  rw [Si (by rw [hf]; decide)] at h;by_cases h4 : 4096 < ts.length
  ·rw [Sj h4] at h; omega
  ·rw [Si h4] at h;by_cases ho : okB v ts = true
   ·unfold okB at ho;rw [SE] at ho;have hg : ∀ t ∈ ts, ni v t = true := SU.1 ho.1;refine ⟨rfl, Sd, fun t ht => ?_, sZ.1 ho.2, fun t ht => ?_, fun t ht => ?_⟩
    ·exact (Uq.1 (hg t ht)).1
    ·exact Aa (Uq.1 (Uq.1 (hg t ht)).2).1
    ·exact ((rn _).1 (Uq.1 (Uq.1 (hg t ht)).2).2).symm
   ·rw [Si ho] at h; omega
theorem Dv {v : Int} (hf : iJ v = true) (h4 : ts.length ≤ 4096) (hm : ∀ t ∈ ts, fK v t = true) (hc : Canon ts) : fh v ts = 0 := by
 unfold fh;rw [Si (by rw [hf]; decide), Si Sd, Sj];unfold okB;rw [SE];refine ⟨SU.2 fun t ht => ?_, sZ.2 hc.qO⟩;show (fK v t && (vL t && PV t.c)) = true;rw [hm t ht, (rn _).2 (hc.nf t ht).symm];unfold vL;rw [SQ (hc.nz t ht)]
 rfl
theorem Mz {v : Int} {s t : TR} (h : s.m = t.m) (hs : fK v s = true) : fK v t = true := by unfold fK at hs ⊢; rwa [← h]
theorem lE {v : Int} (h : ∀ t ∈ l, fK v t = true) : ∀ t ∈ aF l, fK v t = true := fun t ht => by
 obtain ⟨s, hs, e⟩ := jT t ht;exact Mz e (h s hs)
theorem eV {v : Int} (hf : iJ v = true) (h4 : (aF l).length ≤ 4096) (hm : ∀ t ∈ l, fK v t = true) : fh v (aF l) = 0 := Dv hf h4 (lE hm) (eZ l)
theorem Ha {v : Int} {x y : TR} (hx : fK v x = true) (h : l8 x.m y.m = 0) : fK v (pQ x y) = true := by
 unfold fK at hx ⊢;rw [SE, SJ] at hx;obtain ⟨_, _, h3, h4, h5⟩ := mU h;rw [SE, SJ];have h6 := Tm List.length h5;rw [cK, List.length_zipWith, cK, cK, h3, Nat.min_self] at h6;refine ⟨?_, ?_⟩
 ·show eI (mulM x.m y.m).data.toList = true;unfold mulM;rw [eE];exact h4
 ·show ((mulM x.m y.m).size : Int) = v;unfold mulM;rw [l7, h6, ← dE];exact hx.2
theorem mz {v : Int} {q : List TR} (hp : ∀ t ∈ p, fK v t = true) (h : ∀ e ∈ qt p q, e = 0) : ∀ t ∈ bR p q, fK v t = true := fun t ht => by
 obtain ⟨x, hx, ht⟩ := Uw.1 ht;obtain ⟨y, hy, rfl⟩ := SB.1 ht;exact Ha (hp x hx) (h _ (Uw.2 ⟨x, hx, SB.2 ⟨y, hy, rfl⟩⟩))
theorem jZ {q : List TR} (h : e6 p q = 0) : p.length * q.length ≤ 65536 ∧ (∀ e ∈ qt p q, e = 0) ∧ (aF (bR p q)).length ≤ 4096 := by
 unfold e6 at h;by_cases h6 : 65536 < p.length * q.length
 ·rw [Sj h6] at h; omega
 ·rw [Si h6] at h;split at h
  ·rename_i e he;have := List.find?_some he;rw [SJ] at this;exact absurd h this
  ·rename_i he;refine ⟨Sd, fun e hm => ?_, ?_⟩
   ·have := List.find?_eq_none.1 he e hm;simpa using this
   ·by_cases h4 : 4096 < (aF (bR p q)).length
    ·rw [Sj h4] at h; omega
    ·omega
def ff (ps : List PX) : Int := (ps.map PX.v).headD 0
def yv (ps : List PX) : List TR := ps.flatMap PX.ts
def G7 (ps : List PX) : Int := if fi ps = 0 then fY (yv ps) else fi ps
theorem xg {ps : List PX} (h : fi ps = 0) : ps ≠ [] ∧ (∀ g ∈ ps, g.e = 0) ∧ ∀ g ∈ ps, g.v = ff ps := by
 unfold fi at h;split at h
 ·rename_i f hf;have := List.find?_some hf;simp at this;exact absurd h this
 ·rename_i hf;split at h
  ·cases h
  rename_i hno;refine ⟨fun e => hno (.inl (by rw [e]; rfl)), fun f hm => ?_, fun f hm => ?_⟩
  ·have := List.find?_eq_none.1 hf f hm;simpa using this
  ·apply T1;intro hne;exact hno (.inr (Ub.2 ⟨f, hm, SF hne⟩))
theorem wg {α β : Type} {f : α → List β} {B : Nat} : ∀ {l : List α}, (∀ x ∈ l, (f x).length ≤ B) → (l.flatMap f).length ≤ l.length * B
 | [], _ => by simp
 | x :: l, h => by
  rw [List.flatMap_cons, Sr, SG, Tl];have h1 := h x Sq;have h2 := wg fun y hy => h y (SA _ hy);omega
theorem Fj {f : α → List β} {l : List α} {i : Nat} {x : α} (h : l[i]? = some x) : (l.take (i + 1)).flatMap f = (l.take i).flatMap f ++ f x := by
 rw [ay h, Vf];simp
theorem Bv {k : List TR} (h : aF l = aF k) : fY l = fY k := by unfold fY; rw [h]
theorem kD {ps : List PX} {g : PX} (h : ps[0]? = some g) : ff ps = g.v := by
 rcases ps with _ | ⟨f, l⟩
 ·cases h
 ·have : f = g := by simpa using h
  rw [← this]; rfl
theorem tG (L : Option Addr) (n c : Nat) (ps : List PX) (k : Nat) (w : World) (hT : dD w) (hL : Sl w L n 2 (aw PX.cells ps)) (hn : n ≤ 100) (hf : ∀ g ∈ ps, g.at_ w) (hl : ∀ g ∈ ps, g.kq k) (hk : k ≤ 2999000) :
  Calls Tryz.prog 16 #[.slice L n c] w fun r w' => ∃ g : PX, gh (G7 ps) (ff ps) (aF (yv ps)) g ∧ r = .returned (.tuple #[.agg #[.int .i64 g.v, .slice g.A g.n g.c], .int .i64 (G7 ps)]) ∧ Hp w [g.row] w' := by
 have hh := Hp.start w;have hln := hL.bz PX.len Se;have hlk := fun w1 hT1 hb => qz L n c ps k w1 hT1 (hL.ext hb) Sd (fun g hg => (hf g hg).ext hb) hl;unfold G7;by_cases h0 : fi ps = 0
 ·rw [Sj h0];rw [h0] at hlk;obtain ⟨hne, nX, hvv⟩ := xg h0;have hpos := List.length_pos_iff.2 hne;obtain ⟨g0, h00⟩ := av (l := ps) (k := 0) hpos;rw [kD h00];have hfl : (yv ps).length ≤ ps.length * 4096 := wg fun g hg => (cm (nX g hg)).2.1;obtain ⟨ad, rfl, hr⟩ := hL.at_ Sd;refine aj (N := 33) (l := [.slice (some ad) n c]) Tryz.func16 rfl rfl (by simp) ?_;refine sr ?_;refine bJ hh ?_;intro b2 w2 hh;refine aI (aa (ah (sr (mL ?_))));refine br hh (hlk _ (hT.hp hh) hh.below) rfl ?_;intro w9 hh;refine aI (aa (sr (mI ?_)));refine cX (aa (cF (aq (ai (sr (aL (aa (ah (sr (mL (aK (mI (aa (ao ?_))))))))))))));replace hh := hh.dL 96 4;refine bP [5, 7, 16, 17, 18, 19, 20, 21, 22, 23, 24] 5 16
   (fun a x w' => ∃ (i : Nat) (M : List TR) (A' : Option Addr) (c' : Nat), i ≤ n ∧ x = .int .i64 i ∧ a = .slice A' M.length c' ∧ MD (k + i) ((ps.take i).flatMap PX.ts) M ∧ Hp w [.row A' M.length c' 96 4 (aw TR.cells M), .blk b2 24 [.int .i64 0, .slice none 0 0] (0, 0)] w')
   (fun _ x _ => n - (intOf x).toNat) ?_ ?_
  ·exact ⟨0, [], none, 0, Sn _, rfl, rfl, MD.self Vh (fun t ht => nomatch ht), hh⟩
  ·clear hh;rintro ρ' a_ x_ w' ⟨i, M, A', c', hi, rfl, rfl, hmd, hh⟩;have hfi : ((ps.take i).flatMap PX.ts).length ≤ i * 4096 := by
    have := wg (f := PX.ts) (B := 4096) (l := ps.take i) fun g hg => (cm (nX g (Uc hg))).2.1;rwa [SP, Tp Sd] at this
   have hML := hmd.len;by_cases hlt : i < n
   ·obtain ⟨g, hx⟩ := av (l := ps) (k := i) Sd;have hmem := Sp hx;have hgl := hl g hmem;have hge := cm (nX g hmem);have hgc := hgl.cap;have hgn := hgl.n;refine sr ?_;refine dq ?_;refine bX ?_;refine F6 ?_;refine bJ hh ?_;intro b7 w7 hh;refine bK hh 0 [_,_] ?_;intro ws hh;replace hh : Hp _ (.blk _ _ [_, _] _ :: _) _ := hh;refine aa (al (mL (bF ?_)));refine bE hh 0 ?_;refine aC (n7 A' M.length c' M g.A g.n g.c g.ts (k + i) _ (hT.hp hh) (hh.aD (i := 1) rfl) ((hf g hmem).ext hh.below) (hh.fH (i := 1) rfl) hgc Sd hgn Sd hmd.qO hge.2.2.2.qO hmd.ok (hgl.ok.mono Sd)) ak.out rfl Se ?_;rintro e_ w23 ⟨L2, A2, c2, hm2, rfl, h3⟩;refine ⟨_, rfl, ?_⟩;replace hh := hh.join h3;simp only [Sv, Ss] at hh;refine na ?_;refine a9 (mI (az (ai ?_)));replace hh := hh.sub (Sk _ (Sm _ (Sm _ (Sk _ SD))));refine ⟨⟨i + 1, L2, A2, c2, Sd, rfl, rfl, ?_, hh⟩, by show n - (i + 1) < n - i; omega, ?_⟩
    ·rw [Fj hx];exact hmd.Hw (MD.self hge.2.2.2.qO (hgl.ok.mono Sd : iA (k + i) g.ts)) hm2 Sd
    ·exact eB
   ·obtain rfl : i = n := Sd;rw [Su Sd] at hmd hfi hML;have hgM : aF M = aF (yv ps) := xi hmd.co;have hgE := Bv hgM;refine sr ?_;refine oV ?_;refine Dn ?_;refine nq ?_;refine cv aP.out rfl (cj hh.below ((hr.recAt PX.len h00) 0 _ rfl)) Se ?_;refine mL ?_;refine aC (ke _ A' M.length c' M (k + i) _ hT hh rfl Sd Sd hmd.ok) ak.out rfl Se ?_;rintro e_ w30 ⟨g, og, rfl, hh⟩;refine ⟨_, rfl, ?_⟩;refine cE ?_;refine cE ?_;refine bK hh 1 [_,_] ?_;intro ws hh;replace hh : Hp _ (_ :: .blk _ _ [_, _] _ :: _) _ := hh;refine aI (aa (au ?_));refine CF ?_;rw [← hgE, ← hgM];exact CX
 ·rw [Si h0];generalize fi ps = e at *;refine aj (N := 33) (l := [.slice L n c]) Tryz.func16 rfl rfl (by simp) ?_;refine sr ?_;refine bJ hh ?_;intro b2 w2 hh;refine aI (aa (ah (sr (mL ?_))));refine br hh (hlk _ (hT.hp hh) hh.below) rfl ?_;intro w9 hh;exact Kr
def lQ (s : ByteArray) (i : Nat) : Int := match s.data.toList[i]? with | some c => c.toNat | none => 0
def zZ (l : List TR) (i : Nat) : Int := l.foldl (fun m t => max m (lQ t.m i)) 0
def lW (m : Nat) (l : List TR) : List Int := (List.range m).map (zZ l)
def qi (v : Int) (ts : List TR) : List Int := if fh v ts = 0 then lW v.toNat ts else []
theorem fm (m : Nat) (l : List TR) : (lW m l).length = m := by unfold lW; rw [Sx, UU]
theorem rl (l : List TR) (h : j < m) : (lW m l)[j]? = some (zZ l j) := by
 unfold lW;rw [St, S8 h]
 rfl
theorem rP (l : List TR) (t : TR) (i : Nat) : zZ (l ++ [t]) i = max (zZ l i) (lQ t.m i) := by unfold zZ; rw [UI]; rfl
theorem Hs {s : ByteArray} {i : Nat} {c : UInt8} (h : s.data.toList[i]? = some c) : lQ s i = c.toNat := by unfold lQ; rw [h]
theorem Jp {A B : List α} {y : α} (h : A.length = B.length) (hy : B[j]? = some y) : (B.take j ++ A.drop j).set j y = B.take (j + 1) ++ A.drop (j + 1) := by
 have hj := (SC.1 hy).1;have hl : (B.take j).length = j := by rw [SP]; omega
 obtain ⟨x, hx⟩ := av (l := A) (k := j) Sd;rw [gE hx, ay hy, Un _ _ Sd, hl, Td];simp
theorem Ky {A B : List α} {x : α} (h : A.length = B.length) (hx : A[j]? = some x) : (B.take j ++ A.drop j)[j]? = some x := by
 have hj := (SC.1 hx).1;have hl : (B.take j).length = j := by rw [SP]; omega
 rw [Tu Sd, hl, Td, Uo, TB, hx]
theorem FJ (m : Nat) : gd m [.int .i64 0] = bm (lW m []) := by
 have h1 : ∀ n, gd n [.int .i64 0] = bm (List.replicate n 0) := fun n => by
  induction n with
  | zero => rfl
  | succ n ih => rw [gd, ih, UC]; rfl
 rw [h1];congr 1;apply S0;intro i;by_cases h : i < m
 ·rw [rl [] h, List.getElem?_replicate, Sj h]
  rfl
 ·rw [Sw (by rw [TP]; omega), Sw (by rw [fm]; omega)]
theorem mi (p : PX) (k : Nat) (w : World) (hT : dD w) (hp : p.at_ w) (lp : p.kq k) :
  Calls Tryz.prog 82 #[.agg #[.int .i64 p.v, .slice p.A p.n p.c]] w fun r w' => ∃ A c, r = .returned (.slice A (qi p.v p.ts).length c) ∧ Hp w [.row A (qi p.v p.ts).length c 3 1 (bm (qi p.v p.ts))] w' := by
 have hh := Hp.start w;have hck := fun w1 hT1 hb => mZ p k w1 hT1 (hp.ext hb) lp;by_cases h0 : p.e = 0
 ·rw [show qi p.v p.ts = lW p.v.toNat p.ts from Sj h0, fm];rw [h0] at hck;obtain ⟨hf, h4, hmy, _⟩ := cm h0;have hpl : p.ts.length = p.n := hp.ln;obtain ⟨pv, pA, pn, pc, ts⟩ := p;replace hf := gu.1 hf;replace hmy : ∀ t ∈ ts, fK pv t = true := hmy;replace hp : Sl w pA pn 4 (aw TR.cells ts) := hp;have hsz : ∀ t ∈ ts, t.m.size ≤ 100000 := lp.sz;have hn := lp.n;replace hn : pn ≤ 1000000 := hn;replace hpl : ts.length = pn := hpl;obtain ⟨m, rfl⟩ : ∃ m : Nat, pv = (m : Int) := ⟨pv.toNat, by show pv = _; have : 0 ≤ pv := hf.1; omega⟩;replace hf : m ≤ 12 := by have h9 : (m : Int) ≤ 12 := hf.2; omega
  show Calls _ _ _ _ fun r w' => ∃ A c, r = .returned (.slice A m c) ∧ Hp w [.row A m c 3 1 (bm (lW m ts))] w';refine aj (N := 42) (l := [.agg #[.int .i64 m, .slice pA pn pc]]) Tryz.func82 rfl rfl (by simp) ?_;refine sr ?_;refine cq hh [_,_] ?_;intro b1 w1 hh;refine aL (aa (ah (sr ?_)));refine cu hh 0 [_,_] ?_;refine gW ?_;intro w9 hh;refine cX (aa (cF (aq (ai (sr (bF ?_))))));refine bE hh 0 ?_;refine gD (n := m) hh rfl rfl Sd Sd bq.out aP.out rfl Sd Sd Se ?_;intro b13 w13 hh;refine aL (aa (ah (sr (bF ?_))));refine bE hh 1 ?_;refine aK (mI (aa (ao ?_)));rw [FJ] at hh;refine aN [5, 6, 7, 17, 18, 19, 20, 21, 22, 23, 24, 25, 26, 27, 28, 29, 30, 31, 32, 33, 34, 35, 36, 37, 38, 39, 40] 17
   (fun v w' => ∃ i : Nat, i ≤ pn ∧ v = .int .i64 i ∧ Hp w [.row (some ⟨b13, 0, none⟩) m m 3 1 (bm (lW m (ts.take i))), .blk b1 24 [.int .i64 m, .slice pA pn pc] (0, 0)] w')
   (fun v _ => pn - (intOf v).toNat) ?_ ?_
  ·exact ⟨0, Sn _, rfl, hh⟩
  ·clear hh;rintro ρ' v w' ⟨i, hi, rfl, hh⟩;by_cases hlt : i < pn
   ·obtain ⟨x, hx⟩ := av (l := ts) (k := i) Sd;obtain ⟨ad, rfl, hr⟩ := hp.at_ Sd;have hxm := Sp hx;have hxs := hsz x hxm;have hmx := Uq.1 (hmy x hxm);have hxz : x.m.size = m := by have := Ug hmx.2; omega
    have hxl : x.m.data.toList.length = m := by rw [← dE]; exact hxz
    have hex : jh x.m.data.toList = ints x.m.data.toList := kB hmx.1;have hel : (jh x.m.data.toList).length = m := by rw [hex, cK]; exact hxl
    have hBl : (lW m (ts.take i)).length = (lW m (ts.take (i + 1))).length := by rw [fm, fm]
    refine sr ?_;refine dq ?_;refine bX ?_;refine qJ ?_;refine bJ hh ?_;intro b5 w5 hh;refine bK hh 0 [_,_,_,_] ?_;intro ws hh;replace hh : Hp _ (.blk _ _ [_, _, _, _] _ :: _) _ := hh;refine aa (sr (bF ?_));refine bE hh 0 ?_;refine aC (iS x.m _ hxs) ak.out rfl Se ?_;rintro e_ w23 ⟨A23, c23, rfl, hown_, hb_⟩;refine ⟨_, rfl, ?_⟩;replace hh := hh.aO (x := .row _ _ _ _ _ _) hb_ hown_;rw [hel] at hh ⊢;refine aK (mI (aa (ao ?_)));refine aN [6, 7, 25, 26, 27, 28, 29, 30, 31, 32, 33, 34, 35, 36, 37, 38, 39] 25
     (fun v w' => ∃ j : Nat, j ≤ m ∧ v = .int .i64 j ∧ Hp w [.row A23 m c23 3 1 (bm (jh x.m.data.toList)), .blk b5 96 [.string x.m, .bool x.c.neg, .string x.c.bf, .int .i64 x.c.e] (0, 0), .row (some ⟨b13, 0, none⟩) m m 3 1 (bm ((lW m (ts.take (i + 1))).take j ++ (lW m (ts.take i)).drop j)), .blk b1 24 [.int .i64 m, .slice (some ad) pn pc] (0, 0)] w')
     (fun v _ => m - (intOf v).toNat) ?_ ?_
    ·exact ⟨0, Sn _, rfl, hh⟩
    ·clear hh;rintro ρ2 v w2 ⟨j, hj, rfl, hh⟩;by_cases hjn : j < m
     ·obtain ⟨e, he⟩ := av (l := x.m.data.toList) (k := j) Sd;have hee : (jh x.m.data.toList)[j]? = some (e.toNat : Int) := by rw [hex]; exact Kt he
      have ho := Ky hBl (rl (ts.take i) hjn);have hset := Jp hBl (rl (ts.take (i + 1)) hjn);have hmx2 : zZ (ts.take (i + 1)) j = max (zZ (ts.take i) j) (e.toNat : Int) := by rw [ay hx, rP, Hs he]
      rw [hmx2] at hset;have hol : ((lW m (ts.take (i + 1))).take j ++ (lW m (ts.take i)).drop j).length = m := by rw [Sr, SP, TT, fm, fm]; omega
      generalize (lW m (ts.take (i + 1))).take j ++ (lW m (ts.take i)).drop j = M at *;have hee2 := cO hee;have ho2 := cO ho;have hll : (bm M).length = m := by rw [cL]; exact hol
      obtain ⟨g, rfl⟩ := hh.cD (i := 0) rfl Sd;refine sr ?_;refine fj ?_;refine qN ?_;refine jR ?_;refine aI (aI (aa (al (mL (mI (mL (mI ?_)))))));refine qN ?_;refine cv aP.out rfl (hh.gk (i := 2) rfl (by first | assumption | (simp only [SI]; assumption))) Se ?_;refine mI ?_;refine kI rfl rfl Se ?_;refine Dr ?_;have hmv : (if (e.toNat : Int) > zZ (ts.take i) j then (e.toNat : Int) else zZ (ts.take i) j) = max (zZ (ts.take i) j) (e.toNat : Int) := by split <;> omega
      refine bY hh (i := 2) (vs := [_]) rfl rfl (cJ rfl) rfl aP.out rfl Sd rfl ?_;intro ws hh;simp only [Sy, Tb] at hh;rw [hmv, x6 _ (by rw [← cL]; omega), hset] at hh;refine fG ?_;refine a9 (mI (az (ai ?_)));refine ⟨⟨j + 1, Sd, rfl, hh⟩, by show m - (j + 1) < m - j; omega, ?_⟩;exact eB
     ·obtain rfl : j = m := Sd;rw [Su (by rw [fm]; omega), Uf (by rw [fm]; omega), S3] at hh;refine sr ?_;refine te ?_;refine a9 (mI (az (ai ?_)));replace hh := hh.sub (Sm _ (Sm _ (Sk _ (Sk _ SD))));refine ⟨⟨i + 1, Sd, rfl, hh⟩, by show pn - (i + 1) < pn - i; omega, ?_⟩;exact eB
   ·obtain rfl : i = pn := Sd;rw [Su Sd] at hh;exact PG
 ·rw [show qi p.v p.ts = [] from Si h0];refine aj (N := 42) (l := [.agg #[.int .i64 p.v, .slice p.A p.n p.c]]) Tryz.func82 rfl rfl (by simp) ?_;refine sr ?_;refine cq hh [_,_] ?_;intro b1 w1 hh;refine aL (aa (ah (sr ?_)));refine cu hh 0 [_,_] ?_;refine gW ?_;intro w9 hh;refine cX (aa (cT (sr (aL (aa (au (aG ?_)))))));refine da ?_;exact ⟨none, 0, rfl, (hh.sub (TN _)).dL 3 1⟩
def kM (b : List SR) : Int := if b.any (fun s => !decide (s.lo.d < s.hi.d)) then 5 else if b.length = 0 then 1 else 0
theorem Jh (x y : Dyadic) : (0 ≤ kS x y) ↔ ¬ x < y := by
 rcases OY x y with h | h | h
 ·rw [AD h]; exact ⟨fun h2 => by omega, fun h2 => absurd h h2⟩
 ·rw [h, Fh]; exact ⟨fun _ => by grind, fun _ => by omega⟩
 ·rw [Ah h]; exact ⟨fun _ => by grind, fun _ => by omega⟩
theorem xq (L : Option Addr) (n c : Nat) (b : List SR) (w : World) (hT : dD w) (hS : Sl w L n 6 (aw SR.cells b)) (hb : ∀ s ∈ b, s.ok) (hn : n ≤ 1000000) :
  Calls Tryz.prog 115 #[.slice L n c] w fun r w' => r = .returned (.int .i64 (kM b)) ∧ Below w.heap.size w w' := by
 have hh := Hp.start w;have hln := hS.bz SR.len Se;refine aj (N := 21) (l := [.slice L n c]) Tryz.func115 rfl rfl (by simp) ?_;refine zk ?_;refine aN [2, 4, 7, 8, 9, 10, 11, 12, 13, 14, 15, 16, 17] 7
  (fun v w' => ∃ i : Nat, i ≤ n ∧ v = .int .i64 i ∧ (b.take i).any (fun s => !decide (s.lo.d < s.hi.d)) = false ∧ Hp w [] w')
  (fun v _ => n - (intOf v).toNat) ?_ ?_
 ·exact ⟨0, Sn _, rfl, rfl, hh⟩
 ·clear hh;rintro ρ' v w' ⟨i, hi, rfl, hall, hh⟩;by_cases hlt : i < n
  ·obtain ⟨s, hs⟩ := av (l := b) (k := i) Sd;have ms := Sp hs;obtain ⟨ad, rfl, hr⟩ := hS.at_ Sd;have hc := fun w1 hT1 => nJ s.lo s.hi w1 hT1 (hb s ms).1 (hb s ms).2;have e := Jh s.lo.d s.hi.d;generalize kS s.lo.d s.hi.d = cc at *;by_cases g : 0 ≤ cc
   ·refine sr ?_;refine dq ?_;refine bX ?_;refine HL ?_;refine bJ hh ?_;intro b4 w4 hh;refine bK hh 0 [_,_,_,_,_,_] ?_;intro ws hh;replace hh : Hp _ (.blk _ _ [_, _, _, _, _, _] _ :: _) _ := hh;refine aa (sr (bF ?_));refine cu hh 0 [_,_,_] (bF ?_);refine cu hh 0 [_,_,_] ?_;refine br hh (hc _ (hT.hp hh)) rfl ?_;intro w15 hh;refine ee (aa (cT (sr (aI (aa (au (bQ (aG (aG (bQ (aG ?_)))))))))));refine da ?_;have : b.any (fun s => !decide (s.lo.d < s.hi.d)) = true := Ub.2 ⟨s, ms, by rw [SQ (e.1 g)]; rfl⟩;exact ⟨by rw [kM, Sj this], hh.below⟩
   ·refine sr ?_;refine dq ?_;refine bX ?_;refine HL ?_;refine bJ hh ?_;intro b4 w4 hh;refine bK hh 0 [_,_,_,_,_,_] ?_;intro ws hh;replace hh : Hp _ (.blk _ _ [_, _, _, _, _, _] _ :: _) _ := hh;refine aa (sr (bF ?_));refine cu hh 0 [_,_,_] (bF ?_);refine cu hh 0 [_,_,_] ?_;refine br hh (hc _ (hT.hp hh)) rfl ?_;intro w15 hh;refine ee (aa (cF (aq (bg (ai (al ?_))))));refine a9 (mI (az (ai ?_)));replace hh := hh.sub (Sm _ SD);refine ⟨⟨i + 1, Sd, rfl, ?_, hh⟩, by show n - (i + 1) < n - i; omega, ?_⟩
    ·rw [ay hs, Ve, hall, Tf, UQ, Va, Bool.or_false, SF (by have : ¬ ¬ s.lo.d < s.hi.d := fun h => g (e.2 h); exact Uy.1 this)]
     rfl
    ·exact eB
  ·rw [Su Sd] at hall;by_cases h0 : n = 0
   ·refine sr ?_;refine a6 (aa (ah (cF (aV (aE (aE (bo (ai (ah (sr (mL (aK ?_))))))))))));refine Cl ?_;refine da ?_;exact ⟨by rw [kM, hall, Si (by simp), Sj Sd], hh.below⟩
   ·refine sr ?_;refine a6 (aa (ah (cF (aV (aE (aE (bo (ai (ah (sr (mL (aK ?_))))))))))));refine cH (aa (cF (aq (ai (sr (aI (aa (au ?_))))))));refine da ?_;exact ⟨by rw [kM, hall, Si (by simp), Si Sd], hh.below⟩
theorem mr (L : Option Addr) (n c : Nat) (b : List SR) (w : World) (hT : dD w) (hS : Sl w L n 6 (aw SR.cells b)) (hb : ∀ s ∈ b, s.ok) (hn : n ≤ 1000000) :
  Calls Tryz.prog 96 #[.slice L n c] w fun r w' => ∃ A c', r = .returned (.slice A n c') ∧ w'.ownsRow w.heap.size 81 6 (.slice A n c') n (aw SR.cells (b.map SR.f)) ∧ Below w.heap.size w w' := by
 have hh := Hp.start w;have hln := hS.bz SR.len Se;refine aj (N := 19) (l := [.slice L n c]) Tryz.func96 rfl rfl (by simp) ?_;refine sr (aL (aa (sr (aL (aa (ah (sr (mL (aK (mI (aa (ao ?_))))))))))));replace hh := hh.dL 81 6;refine bP [3, 5, 8, 9, 10, 11, 12, 13, 14, 15, 16, 17] 3 8
  (fun v3 v w' => ∃ (i c3 : Nat) (A : Option Addr), i ≤ n ∧ v = .int .i64 i ∧ v3 = .slice A i c3 ∧ Hp w [.row A i c3 81 6 (aw SR.cells ((b.take i).map SR.f))] w')
  (fun _ v _ => n - (intOf v).toNat) ?_ ?_
 ·exact ⟨0, 0, none, Sn _, rfl, rfl, hh⟩
 ·clear hh;rintro ρ' v3 v w' ⟨i, c3, A, hi, rfl, rfl, hh⟩;by_cases hlt : i < n
  ·obtain ⟨s, hs⟩ := av (l := b) (k := i) Sd;have ms := Sp hs;obtain ⟨ad, rfl, hr⟩ := hS.at_ Sd;refine sr ?_;refine dq ?_;refine bX ?_;refine HL ?_;refine bJ hh ?_;intro b5 w5 hh;refine bK hh 0 [_,_,_,_,_,_] ?_;intro ws hh;replace hh : Hp _ (.blk _ _ [_, _, _, _, _, _] _ :: _) _ := hh;refine aa (al (mL ?_));refine cu hh 0 [_,_,_,_,_,_] ?_;refine br hh (vK s _ (hT.hp hh) (hb s ms)) rfl ?_;intro w14 hh;refine dr hh (cs := [_, _, _, _, _, _]) bq.out aP.out (bC (iq rfl) dF) rfl rfl Se Se Se rfl Se ?_;intro b15 w15 hh;refine cR hh (i := 2) rfl rfl rfl (hh.aD (i := 0) rfl) bq.out aP.out rfl Se (by first | rfl | exact ez _ | exact du _ | exact bU _ | exact cw NR.one _) Sd Sd Se ?_;intro A16 c16 w16 hh;simp only [Sy, Tb] at hh;replace hh := hh.sub (Th _ _);refine na ?_;refine a9 (mI (az (ai ?_)));replace hh := hh.sub (Sm _ (Sk _ SD));refine ⟨⟨i + 1, c16, A16, Sd, rfl, rfl, ?_⟩, by show n - (i + 1) < n - i; omega, ?_⟩
   ·rw [ay hs, Tt, cA];exact hh
   ·exact eB
  ·obtain rfl : i = n := Sd;rw [Su Sd] at hh;exact I1
def hasB (b : List SR) (p : List NR) : Bool := decide (b.length = p.length) && (b.zip p).all fun x => x.1.has x.2.d
def PZ (a b : List SR) : Bool := decide (a.length = b.length) && (a.zip b).all fun x => x.2.has x.1.lo.d && x.2.has x.1.hi.d
def tm (dg ds : List Int) : Bool := (dg.zip ds).any fun q => decide (q.2 < q.1 ∨ 127 < q.2)
def m7 (p : PX) (b : List SR) (ds : List Int) : Int :=
 if p.e ≠ 0 then p.e else if kM b ≠ 0 then kM b else if (b.length : Int) ≠ p.v ∨ (ds.length : Int) ≠ p.v then 1 else if tm (qi p.v p.ts) ds = true then 1 else if gi 1 ds = 0 then 3 else 0
theorem Dw {a : List α} {b : List β} {i : Nat} {x : α} {y : β} (hx : a[i]? = some x) (hy : b[i]? = some y) : (a.zip b)[i]? = some (x, y) := by
 rw [List.getElem?_zip_eq_some];exact ⟨hx, hy⟩
theorem sg (p : PX) (L : Option Addr) (n c : Nat) (b : List SR) (M : Option Addr) (m mc : Nat) (ds : List Int) (k : Nat) (w : World) (hT : dD w) (hp : p.at_ w) (lp : p.kq k) (hB : Sl w L n 6 (aw SR.cells b)) (hb : ∀ s ∈ b, s.ok) (hn : n ≤ 1000000) (hD : Sl w M m 1 (bm ds)) (hm : m ≤ 1000000) :
  Calls Tryz.prog 87 #[.agg #[.int .i64 p.v, .slice p.A p.n p.c], .slice L n c, .slice M m mc] w fun r w' => r = .returned (.int .i64 (m7 p b ds)) ∧ Below w.heap.size w w' := by
 have hh := Hp.start w;have hck := fun w1 hT1 hb => mZ p k w1 hT1 (hp.ext hb) lp;have hbk := fun w1 hT1 hb1 => xq L n c b w1 hT1 (hB.ext hb1) hb hn;have hdg := fun w1 hT1 hb => mi p k w1 hT1 (hp.ext hb) lp;have hbl : b.length = n := hB.bz SR.len Se;have hdl : ds.length = m := by have := hD.1; rw [cL] at this; omega
 unfold m7;by_cases h0 : p.e ≠ 0
 ·rw [Sj h0];generalize p.e = e at *;refine zN ?_;refine sr ?_;refine cq hh [_,_] ?_;intro b3 w3 hh;refine aI (aa (ah (sr ?_)));refine cu hh 0 [_,_] ?_;refine gW ?_;intro w12 hh;exact O7
 ·rw [Si h0];have hpe : p.e = 0 := Sd;rw [hpe] at hck;by_cases h1 : kM b ≠ 0
  ·rw [Sj h1];generalize kM b = e at *;refine zN ?_;refine sr ?_;refine cq hh [_,_] ?_;intro b3 w3 hh;refine aI (aa (ah (sr ?_)));refine cu hh 0 [_,_] ?_;refine gW ?_;intro w12 hh;refine aI (aa (sr (mI ?_)));refine vm ?_;refine br hh (hbk _ (hT.hp hh) hh.below) rfl ?_;intro w17 hh;exact O7
  ·rw [Si h1];rw [show kM b = 0 by omega] at hbk;by_cases h2 : (b.length : Int) ≠ p.v
   ·rw [Sj (.inl h2)];refine zN ?_;refine sr ?_;refine cq hh [_,_] ?_;intro b3 w3 hh;refine aI (aa (ah (sr ?_)));refine cu hh 0 [_,_] ?_;refine gW ?_;intro w12 hh;refine aI (aa (sr (mI ?_)));refine vm ?_;refine br hh (hbk _ (hT.hp hh) hh.below) rfl ?_;intro w17 hh;refine aI (aa (sr (mI ?_)));refine uF ?_;refine bE hh 0 ?_;refine cX (mB ?_);refine gS (gS (gS (gS (gS ?_))));refine fV ?_;exact MF
   ·by_cases h3 : (ds.length : Int) ≠ p.v
    ·rw [Sj (.inr h3)];refine zN ?_;refine sr ?_;refine cq hh [_,_] ?_;intro b3 w3 hh;refine aI (aa (ah (sr ?_)));refine cu hh 0 [_,_] ?_;refine gW ?_;intro w12 hh;refine aI (aa (sr (mI ?_)));refine vm ?_;refine br hh (hbk _ (hT.hp hh) hh.below) rfl ?_;intro w17 hh;refine aI (aa (sr (mI ?_)));refine uF ?_;refine bE hh 0 ?_;refine cX (mB (gT (mL (gT (aK (gT (bF (gT ?_))))))));refine bE hh 0 ?_;refine gT ?_;refine cX ?_;refine fa ?_;exact MF
    ·rw [Si (fun h => h.elim h2 h3)];have hgl : (qi p.v p.ts).length = m := by
      unfold qi;rw [Sj (show fh p.v p.ts = 0 from hpe), fm];omega
     have hzl : ((qi p.v p.ts).zip ds).length = m := by rw [List.length_zip]; omega
     have hbd : tm (qi p.v p.ts) ds = ((qi p.v p.ts).zip ds).any fun q => decide (q.2 < q.1 ∨ 127 < q.2) := rfl;generalize qi p.v p.ts = dg at *;rw [hgl] at hdg;refine zN ?_;refine sr ?_;refine cq hh [_,_] ?_;intro b3 w3 hh;refine aI (aa (ah (sr ?_)));refine cu hh 0 [_,_] ?_;refine gW ?_;intro w12 hh;refine aI (aa (sr (mI ?_)));refine vm ?_;refine br hh (hbk _ (hT.hp hh) hh.below) rfl ?_;intro w17 hh;refine aI (aa (sr (mI ?_)));refine uF ?_;refine bE hh 0 ?_;refine cX (mB (gT (mL (gT (aK (gT (bF (gT ?_))))))));refine bE hh 0 ?_;refine gT ?_;refine cX ?_;refine fa ?_;refine aa (cF (aq (ai (ah (sr ?_)))));refine cu hh 0 [_,_] ?_;refine aC (hdg _ (hT.hp hh) hh.below) ak.out rfl Se ?_;rintro e_ w34 ⟨G, gc, rfl, h4⟩;refine ⟨_, rfl, ?_⟩;replace hh := hh.join h4;simp only [Sv, Ss] at hh;refine aK (mI (aa (ao ?_)));refine aN [6, 9, 10, 36, 37, 38, 39, 40, 41, 42, 43, 44, 45, 46, 47, 48, 49, 50, 51, 52, 53, 54] 36
      (fun v w' => ∃ i : Nat, i ≤ m ∧ v = .int .i64 i ∧ ((dg.zip ds).take i).any (fun q => decide (q.2 < q.1 ∨ 127 < q.2)) = false ∧ Hp w [.row G m gc 3 1 (bm dg), .blk b3 24 [.int .i64 p.v, .slice p.A p.n p.c] (0, 0)] w')
      (fun v _ => m - (intOf v).toNat) ?_ ?_
     ·exact ⟨0, Sn _, rfl, rfl, hh⟩
     ·clear hh;rintro ρ' v w' ⟨i, hi, rfl, hall, hh⟩;by_cases hlt : i < m
      ·obtain ⟨x, hx⟩ := av (l := dg) (k := i) Sd;obtain ⟨y, hy⟩ := av (l := ds) (k := i) Sd;have hz := Dw hx hy;have hx2 := cO hx;have hy2 := cO hy;have hll : (bm dg).length = m := by rw [cL]; exact hgl
       obtain ⟨ad, rfl, hr⟩ := hD.at_ Sd;obtain ⟨g0, rfl⟩ := hh.cD (i := 0) rfl Sd;by_cases hxy : y < x
       ·refine sr ?_;refine fj ?_;refine gj ?_;refine jR ?_;refine aI (aI (aa (sr (mL (mI ?_)))));refine bX ?_;refine zQ ?_;refine mI ?_;refine a6 (mB ?_);refine gS (gS (gS (gS (gS ?_))));refine fV ?_;refine BW ?_;refine da ?_;rw [Sj (by rw [hbd]; exact Ub.2 ⟨_, Sp hz, SF (.inl hxy)⟩)];exact ⟨rfl, hh.below⟩
       ·by_cases hy7 : 127 < y
        ·refine sr ?_;refine fj ?_;refine gj ?_;refine jR ?_;refine aI (aI (aa (sr (mL (mI ?_)))));refine bX ?_;refine zQ ?_;refine mI ?_;refine a6 (mB (gT (mL (gT (mI (gT ?_))))));refine bX ?_;refine aH rfl rfl ?_;refine zQ ?_;refine gT ?_;refine cg ?_;refine fa ?_;refine BW ?_;refine da ?_;rw [Sj (by rw [hbd]; exact Ub.2 ⟨_, Sp hz, SF (.inr hy7)⟩)];exact ⟨rfl, hh.below⟩
        ·refine sr ?_;refine fj ?_;refine gj ?_;refine jR ?_;refine aI (aI (aa (sr (mL (mI ?_)))));refine bX ?_;refine zQ ?_;refine mI ?_;refine a6 (mB (gT (mL (gT (mI (gT ?_))))));refine bX ?_;refine aH rfl rfl ?_;refine zQ ?_;refine gT ?_;refine cg ?_;refine fa ?_;refine yP ?_;refine a9 (mI (az (ai ?_)));refine ⟨⟨i + 1, Sd, rfl, by rw [ay hz, Ve, hall, UQ, Va, SQ (fun h => h.elim hxy hy7)]; rfl, hh⟩, by show m - (i + 1) < m - i; omega, ?_⟩;exact eB
      ·rw [Su Sd] at hall;rw [Si (by rw [hbd, hall]; decide)];have hcn := fun w1 hb => eA M m mc ds w1 (hD.ext hb) hm;refine sr ?_;refine a6 (aa (ah (cF (aV (aE (aE (bo (ai (ah (sr (mL ?_)))))))))));by_cases h9 : gi 1 ds = 0
       ·rw [Sj h9];rw [h9] at hcn;refine br hh (hcn _ hh.below) rfl ?_;intro w56 hh;refine Cl ?_;refine da ?_;exact ⟨rfl, hh.below⟩
       ·rw [Si h9];generalize gi 1 ds = N at *;refine br hh (hcn _ hh.below) rfl ?_;intro w56 hh;refine cH (aa (cF (aq (ai (sr (aI (aa (au ?_))))))));refine da ?_;exact ⟨rfl, hh.below⟩
end Go.Proofs.YteeckcbbnegmcaaGreatDoor
