/- Lemmas for bernSlopes, part 6. -/
import Derived.RangeFuncFrom
import Derived.RangeFuncCalls
import Derived.RangeFuncLeaves
import Derived.Shelf.Abstract
import Derived.OrdersIn
import Derived.Test.YteeckcbbnegmcaaGreatDoorZ5
namespace Go.Proofs.YteeckcbbnegmcaaGreatDoor
variable {j n : Nat} {p : List TR} {xs : List Dyadic}
open Go.RowKit
def cv (m : ByteArray) : List Nat := m.data.toList.map UInt8.toNat
theorem mQ (m : ByteArray) : (cv m).length = m.size := by rw [di]; exact US _
theorem zV {a b : ByteArray} (h : cv a = cv b) : a = b := uq (List.map_inj_right (fun _ _ => XA.1) |>.1 h)
theorem lJ (m : ByteArray) : ints m.data.toList = bI (cv m) := by unfold ints bI cv; rw [VE]; rfl
theorem HM {a b : List Nat} (h : bI a = bI b) : a = b := (List.map_inj_right fun (x y : Nat) (e : (x : Int) = y) => Int.ofNat.inj e).1 h
def kQ (xs : List Dyadic) (l : List TR) : Dyadic := wS (fun m => eF (cv m) xs) l
theorem tK (f : ByteArray → Dyadic) (l : List TR) : wS f l = sm l fun t => t.c.d * f t.m := by
 induction l with
 | nil => rfl
 | cons t l ih => rw [wS, sm, ih]
theorem fY (xs : List Dyadic) (l : List TR) : kQ xs (aD l) = kQ xs l := rp _ _
theorem tP (xs : List Dyadic) (l k : List TR) : kQ xs (l ++ k) = kQ xs l + kQ xs k := nw _ _ _
theorem Ak : ∀ (a b : List Nat) (xs : List Dyadic), a.length = b.length → eF (List.zipWith (· + ·) a b) xs = eF a xs * eF b xs
 | [], [], xs, _ => by show (1 : Dyadic) = 1 * 1; grind
 | [], _ :: _, _, h => by cases h
 | _ :: _, [], _, h => by cases h
 | x :: a, y :: b, [], _ => by show (1 : Dyadic) = 1 * 1; grind
 | x :: a, y :: b, t :: xs, h => by
  rw [List.zipWith_cons_cons, eF, eF, eF, Ak a b xs (by simpa using h), qC];grind
theorem ni : ∀ (n : Nat) (xs : List Dyadic), eF (List.replicate n 0) xs = 1
 | 0, xs => by cases xs <;> rfl
 | n + 1, [] => rfl
 | n + 1, x :: xs => by
  rw [WS, eF, ni n xs, W4];grind
theorem KA {a b : ByteArray} (h : m8 a b = 0) : cv (mulM a b) = List.zipWith (· + ·) (cv a) (cv b) ∧ (cv a).length = (cv b).length := by
 obtain ⟨_, _, h3, _, h5⟩ := nI h;refine ⟨HM ?_, by unfold cv; rw [US, US, h3]⟩;rw [← lJ, mulM, cP, h5, lJ, lJ];unfold bI;rw [List.zipWith_map, List.map_zipWith];exact VJ (fun f => List.zipWith f (cv a) (cv b)) (funext fun x => funext fun y => (WE x y).symm)
theorem Jo {q : List TR} (h : ∀ e ∈ rZ p q, e = 0) : kQ xs (cj p q) = kQ xs p * kQ xs q := by
 have hm : ∀ a ∈ p, ∀ b ∈ q, m8 a.m b.m = 0 := fun a ha b hb => h _ (WI.2 ⟨a, ha, UY.2 ⟨b, hb, rfl⟩⟩);unfold kQ;rw [zA, Dyadic.mul_comm, ← H6];refine NN fun a ha => ?_;rw [Dyadic.mul_comm, ← H6];refine NN fun b hb => ?_;obtain ⟨e1, e2⟩ := KA (hm a ha b hb);rw [e1, Ak _ _ _ e2]
theorem xI (j : Nat) (t : TR) : eU j t = ((cv t.m)[j]?).getD 0 := by
 unfold eU cv;rw [UO]
 cases t.m.data.toList[j]? <;> rfl
theorem I0 (g : TR → Dyadic) (Q : Dyadic) : sm p (fun t => if n ≤ eU j t then g t * Q ^ (eU j t - n) else 0) = sm p (fun t => if n + 1 ≤ eU j t then g t * Q ^ (eU j t - (n + 1)) else 0) * Q + sm (bm p j n) g := by
 have e1 : sm (bm p j n) g = sm p fun t => if eU j t = n then g t else 0 := by
  unfold bm;rw [← GL p (fun t => decide (eU j t = n)) (fun t => if eU j t = n then g t else 0) (fun t _ h => UE (by simpa using h))];exact bg fun t ht => (UF (by simpa using (V7.1 ht).2)).symm
 rw [e1, ← kN, ← oP];refine bg fun t _ => ?_;by_cases h1 : eU j t = n
 ·rw [UF Uz, UE Uz, UF h1, h1, Vw, W4];grind
 ·rw [UE h1];by_cases h2 : n + 1 ≤ eU j t
  ·rw [UF Uz, UF h2, show eU j t - n = (eU j t - (n + 1)) + 1 by omega, Xp];grind
  ·rw [UE Uz, UE h2];grind
theorem DH {xs : List Dyadic} {q p : List TR} {sub : List TR → Int × List TR} {j : Nat} (g : TR → Dyadic) (hp : ∀ t ∈ p, eU j t ≤ 127) (hs : ∀ n, (sub (bm p j n)).1 = 0 → kQ xs (sub (bm p j n)).2 = sm (bm p j n) g) :
  ∀ i, i ≤ 128 → (bu q sub p j i).1 = 0 → kQ xs (bu q sub p j i).2 = sm p fun t => if 128 - i ≤ eU j t then g t * kQ xs q ^ (eU j t - (128 - i)) else 0
 | 0, _, _ => (pF fun t ht => UE (by have := hp t ht; omega)).symm
 | i + 1, hi, h0 => by
  have h1 : (bu q sub p j i).1 = 0 := by
   refine Wz fun c => ?_;rw [jT c (Nat.le_succ i)] at h0;exact c h0
  have ih := DH g hp hs i Uz h1;have e1 := I0 (p := p) (j := j) (n := 127 - i) g (kQ xs q);rw [show 128 - (i + 1) = 127 - i by omega, e1, show 127 - i + 1 = 128 - i by omega, ← ih];rw [jc] at h0 ⊢;unfold ic at h0 ⊢;rw [UE (fun h => h h1)] at h0 ⊢;by_cases c1 : (bu q sub p j i).2.length = 0 ∧ (bm p j (127 - i)).length = 0
  ·rw [UF c1, W9.1 c1.1, W9.1 c1.2];show (0 : Dyadic) = 0 * _ + 0;grind
  ·rw [UE c1] at h0 ⊢;by_cases c2 : fm (bu q sub p j i).2 q ≠ 0
   ·rw [UF c2] at h0; exact absurd h0 c2
   ·rw [UE c2] at h0 ⊢;by_cases c3 : (sub (bm p j (127 - i))).1 ≠ 0
    ·rw [UF c3] at h0; exact absurd h0 c3
    ·rw [UE c3] at h0 ⊢;by_cases c4 : gh (aD (cj (bu q sub p j i).2 q) ++ (sub (bm p j (127 - i))).2) ≠ 0
     ·rw [UF c4] at h0; exact absurd h0 c4
     ·rw [UE c4];show kQ xs (aD _) = _;rw [fY, tP, fY, Jo (kr Uz).2.1, hs _ Uz]
theorem Li (h : td p) (he : ∀ a ∈ p, ∀ b ∈ p, a.m = b.m) : p.length ≤ 1 := by
 match p, h, he with
 | [], _, _ => exact UI _
 | [_], _, _ => exact UH _
 | a :: b :: p, h, he =>
  have h1 := (V4.1 h).1 b UR;rw [he a UR b (UT _ UR), gZ] at h1
  cases h1
theorem DD.one {v : Int} (h : DD v j p) (hj : v ≤ j) : p.length ≤ 1 := Li h.sv fun a ha b hb => uq (by
 have e := h.pre a ha b hb;have l1 := h.size a ha;have l2 := h.size b hb;rwa [UQ Uz, UQ Uz] at e)
theorem qR (v : Int) (q : List TR) (qs : List (List TR)) (j : Nat) (p : List TR) : ep v (q :: qs) j p = bu q (ep v qs (j + 1)) p j 128 := rfl
theorem PB {v w : Int} (qs : List (List TR)) : ∀ (j : Nat) (p : List TR), DD w j p → w = ((j + qs.length : Nat) : Int) → (ep v qs j p).1 = 0 → kQ xs (ep v qs j p).2 = sm p fun t => t.c.d * eF ((cv t.m).drop j) (qs.map (kQ xs)) := by
 induction qs with
 | nil =>
  intro j p hs hw _;have h1 := hs.one (by rw [hw]; exact Int.le_refl _);show kQ xs (aD _) = _;rw [fY];have hz : cv (dZ v) = List.replicate v.toNat 0 := by unfold cv dZ; simp
  match p, h1 with
  | [], _ =>
   show (nR 0).d * _ + 0 = 0;rw [bY];grind
  | [t], _ =>
   show t.c.d * eF (cv (dZ v)) xs + 0 = t.c.d * eF _ [] + 0;rw [hz, ni]
   cases (cv t.m).drop j <;> rfl
 | cons q qs ih =>
  intro j p hs hw h0;have hj : (j : Int) < w := by rw [hw, U7]; omega
  have hx : ∀ t ∈ p, eU j t ≤ 127 := fun t ht => by
   obtain ⟨e, _, h2, h3⟩ := hs.get hj ht;omega
  rw [qR] at h0 ⊢;have hsub := fun n hn => ih (j + 1) (bm p j n) (hs.with hj) (by rw [hw, U7]; omega) hn;generalize ep v qs (j + 1) = sub at hsub h0 ⊢;have h1 := fun i hi hz => DH (xs := xs) (q := q) (sub := sub) (p := p) (j := j) (fun t => t.c.d * eF ((cv t.m).drop (j + 1)) (qs.map (kQ xs))) hx hsub i hi hz;obtain ⟨m, hm⟩ : ∃ m, m = 128 := ⟨_, rfl⟩;rw [← hm] at h0 ⊢;rw [h1 m Uz h0];refine bg fun t ht => ?_;rw [UF Uz, show eU j t - (128 - m) = eU j t by omega];obtain ⟨e, h2, h3, _⟩ := hs.get hj ht;have hd : (cv t.m).drop j = eU j t :: (cv t.m).drop (j + 1) := by
   refine gl ?_;rw [h3];unfold cv;rw [UO, h2]
   rfl
  rw [hd, U9, eF];grind
theorem Pm {p : PX} {ls : List PX} (h : (cV p ls).1 = 0) : kQ xs (cV p ls).2 = kQ (ls.map fun g => kQ xs g.ts) p.ts := by
 unfold cV at h ⊢;by_cases h1 : p.e ≠ 0
 ·rw [UF h1] at h; exact absurd h h1
 ·rw [UE h1] at h ⊢;by_cases h2 : (ls.length : Int) ≠ p.v
  ·rw [UF h2] at h; exact absurd h UA
  ·rw [UE h2] at h ⊢;by_cases h3 : ls.length ≠ 0 ∧ fk ls ≠ 0
   ·rw [UF h3] at h; exact absurd h h3.2
   ·rw [UE h3] at h ⊢;rw [PB (w := p.v) (ls.map PX.ts) 0 p.ts (zg (by unfold PX.e at h1; omega)) (by rw [US, U5]; omega) h, VE];unfold kQ;rw [tK]
    rfl
variable {X : List Dyadic} {ds : List Nat} {k : Nat} {l : List TR}
def wK : Nat → List Nat → List Nat → List Nat → Dyadic
 | m + 1, _ :: ds, a :: s, r :: rs => (if a = r then 1 else 0) * wK m ds s rs
 | 0, d :: ds, a :: s, r :: rs => ej d 1 1 a r * wK 0 ds s rs
 | _, _, _, _ => 1
theorem Ef : ∀ (j : Nat) (ds s rs : List Nat), j < ds.length → jD ds s → jD ds rs → sm (List.range (ds.getD j 0 + 1)) (fun i => wK (j + 1) ds s (rs.set j i) * ej (ds.getD j 0) 1 1 i (rs.getD j 0)) = wK j ds s rs
 | _, [], _, _, h, _, _ => by cases h
 | _, _ :: _, [], _, _, h, _ => by cases h
 | _, _ :: _, _ :: _, [], _, _, h => by cases h
 | 0, d :: ds, a :: s, r :: rs, _, h1, _ => by
  show sm (List.range (d + 1)) (fun i => (if a = i then 1 else 0) * wK 0 ds s rs * ej d 1 1 i r) = ej d 1 1 a r * wK 0 ds s rs;have e : sm (List.range (d + 1)) (fun i => (if a = i then 1 else 0) * wK 0 ds s rs * ej d 1 1 i r) = sm (List.range (d + 1)) fun i => if i = a then ej d 1 1 a r * wK 0 ds s rs else 0 := bg fun i _ => by
   by_cases h : a = i
   ·rw [UF h, UF h.symm, h]; grind
   ·rw [UE h, UE (fun e => h e.symm)]; grind
  rw [e, pE, UF (by have := h1.1; omega)]
 | j + 1, d :: ds, a :: s, r :: rs, hj, h1, h2 => by
  show sm (List.range (ds.getD j 0 + 1)) (fun i => (if a = r then 1 else 0) * wK (j + 1) ds s (rs.set j i) * ej (ds.getD j 0) 1 1 i (rs.getD j 0)) = (if a = r then 1 else 0) * wK j ds s rs;rw [← Ef j ds s rs (by simpa using hj) h1.2 h2.2, ← iC];exact bg fun i _ => by grind
theorem HJ : ∀ (ds s rs : List Nat), jD ds s → jD ds rs → wK ds.length ds s rs = if s = rs then 1 else 0
 | [], [], [], _, _ => by rw [UF rfl]; rfl
 | [], _ :: _, _, h, _ => by cases h
 | [], [], _ :: _, _, h => by cases h
 | _ :: _, [], _, h, _ => by cases h
 | _ :: _, _ :: _, [], _, h => by cases h
 | d :: ds, a :: s, r :: rs, h1, h2 => by
  show (if a = r then 1 else 0) * wK ds.length ds s rs = _;rw [HJ ds s rs h1.2 h2.2];by_cases e1 : a = r
  ·by_cases e2 : s = rs
   ·rw [UF e1, UF e2, UF (by rw [e1, e2])]; grind
   ·rw [UF e1, UE e2, UE fun e => e2 (List.cons.inj e).2]; grind
  ·rw [UE e1, UE fun e => e1 (List.cons.inj e).1]; grind
abbrev QL := List (List Nat × Dyadic)
def X0 (ds : List Nat) (L : QL) : List Dyadic := nV (au ds) (L.map fun q => (eW ds q.1, q.2))
def pk (ds : List Nat) (L : QL) : Nat → List Dyadic
 | 0 => X0 ds L
 | k + 1 => gR ds (ds.length - 1 - k) (ej (ds.getD (ds.length - 1 - k) 0) 1 1) (pk ds L k)
theorem qF (ds : List Nat) (L : QL) (k : Nat) : pk ds L (k + 1) = gR ds (ds.length - 1 - k) (ej (ds.getD (ds.length - 1 - k) 0) 1 1) (pk ds L k) := rfl
theorem B1 (ds : List Nat) (L : QL) (k : Nat) : (pk ds L k).length = au ds := by
 cases k with
 | zero => exact lh _ _
 | succ k => rw [qF, oG]
theorem J3 {ds : List Nat} {L : QL} (hL : ∀ q ∈ L, jD ds q.1) : ∀ k, k ≤ ds.length → ∀ row, jD ds row → co ds (pk ds L k) row = sm L fun q => q.2 * wK (ds.length - k) ds q.1 row
 | 0, _, row, hr => by
  have hp := kG hr;rw [BF hr];show ((X0 ds L)[eW ds row]?).getD 0 = _;unfold X0;rw [nn _ hp, VV, tR];refine bg fun q hq => ?_;rw [Nat.sub_zero, HJ ds q.1 row (hL q hq) hr];by_cases h : q.1 = row
  ·rw [UF h, UF (by rw [h])]; grind
  ·rw [UE h, UE fun e => h (by rw [← iB (hL q hq), ← iB hr]; exact VJ (cU ds) e)]; grind
 | k + 1, hk, row, hr => by
  obtain ⟨j, hj⟩ : ∃ j, j = ds.length - 1 - k := ⟨_, rfl⟩;rw [qF, ← hj, G6 _ _ _ hr, show ds.length - (k + 1) = j by omega];have e1 : ∀ i, i < ds.getD j 0 + 1 → co ds (pk ds L k) (row.set j i) = sm L fun q => q.2 * wK (j + 1) ds q.1 (row.set j i) := fun i hi => by
   rw [J3 hL k Uz (row.set j i) (DG hr Uz), show ds.length - k = j + 1 by omega]
  rw [bg fun i hi => show co ds (pk ds L k) (row.set j i) * ej (ds.getD j 0) 1 1 i (row.getD j 0) = sm L fun q => q.2 * (wK (j + 1) ds q.1 (row.set j i) * ej (ds.getD j 0) 1 1 i (row.getD j 0)) by
   rw [e1 i (Vi.1 hi), ← kN];exact bg fun q _ => by grind, nN]
  refine bg fun q hq => ?_;rw [← Ef j ds q.1 row Uz (hL q hq) hr, ← iC]
def qb (ns : List Nat) (l : List TR) : List Dyadic := (List.range (au ns.reverse)).map fun p => wS (fun m => wK 0 ns.reverse (cv m).reverse (cU ns.reverse p)) l
theorem lX (ns : List Nat) (l : List TR) : (qb ns l).length = au ns := by unfold qb; rw [US, WK, cx]
def sE (l : List TR) : QL := l.map fun t => ((cv t.m).reverse, t.c.d)
theorem zO {ns : List Nat} (hl : ∀ t ∈ l, jD ns.reverse (cv t.m).reverse) : pk ns.reverse (sE l) ns.length = qb ns l := by
 have hL : ∀ q ∈ sE l, jD ns.reverse q.1 := fun q hq => by
  obtain ⟨t, ht, rfl⟩ := UY.1 hq;exact hl t ht
 refine Pk (ds := ns.reverse) (B1 _ _ _) (by rw [lX, cx]) fun row hr => ?_;have hp := kG hr;rw [J3 hL ns.length (by rw [Vn]; exact UH _) row hr, BF hr, show ns.reverse.length - ns.length = 0 by rw [Vn, Vw]];unfold qb sE;rw [UO, Vq hp, tR];show _ = wS _ l;rw [tK, iB hr]
theorem tO : ∀ {ds rs : List Nat} (a : Nat), jD ds rs → rs.getD a 0 ≤ ds.getD a 0
 | [], [], _, _ => by simp
 | [], _ :: _, _, h => by cases h
 | _ :: _, [], _, h => by cases h
 | _ :: _, _ :: _, 0, h => h.1
 | _ :: ds, _ :: rs, a + 1, h => tO (ds := ds) (rs := rs) a h.2
theorem GY {a d : Nat} (hx : ∀ x ∈ X, Sz k x) (hd : ds.getD a 0 = d) (hd7 : d ≤ 127) : ∀ x ∈ gR ds a (ej d 1 1) X, Sz (k + 520) x := fun x h => by
 obtain ⟨p, _, rfl⟩ := UY.1 h;have hr : (cU ds p).getD a 0 ≤ d := by rw [← hd]; exact tO a (nG ds p)
 have h2 := Af (l := List.range (ds.getD a 0 + 1)) (f := fun i => co ds X ((cU ds p).set a i) * ej d 1 1 i ((cU ds p).getD a 0)) (k := k + (130 + 2 * (1 * d))) fun i _ => by
  refine Sz.mul ?_ (yI Sz.one Sz.one hd7 hr);exact RY
 rw [WK, hd] at h2;rw [hd];exact h2.mono Uz
theorem zJ {B : Nat} (h : ∀ d ∈ ds, d ≤ B) (a : Nat) : ds.getD a 0 ≤ B := by
 rw [VQ]
 cases ha : ds[a]? with
 | none => exact UI _
 | some d => exact h d (UJ ha)
theorem C3 {ds : List Nat} {L : QL} {k : Nat} (h : ∀ x ∈ X0 ds L, Sz k x) (hd : ∀ d ∈ ds, d ≤ 127) : ∀ i, ∀ x ∈ pk ds L i, Sz (k + 520 * i) x
 | 0 => h
 | i + 1 => fun x hx => (GY (C3 h hd i) rfl (zJ hd _) x hx).mono Uz
theorem O9 (h : iu k l) : ∀ x ∈ X0 ds (sE l), Sz (k + l.length) x := fun x hx => by
 have := MF (N := au ds) (L := (sE l).map fun (q : List Nat × Dyadic) => (eW ds q.1, q.2)) (k := k) (fun a ha => by
  obtain ⟨q, hq, rfl⟩ := UY.1 ha;obtain ⟨t, ht, rfl⟩ := UY.1 hq;exact (h t ht).2) x hx
 unfold sE at this;rwa [US, US] at this
def Td (p : Int × Int) : Bool := decide (p.2 < p.1 ∨ 127 < p.2)
def T5 (ds es : List Int) : Int := if es.length ≠ ds.length then 1 else if (ds.zip es).any Td = true then 1 else if 4096 < au (es.map Int.toNat) then 3 else 0
def PW (a b : List Nat) : List Nat := List.zipWith (· - ·) a b
def P0 (ns ts : List Nat) (xs : List Dyadic) : List Dyadic := Sn ns (PW ts ns) xs ((CS (PW ts ns)).map nD)
theorem nt : ∀ {a b : List Nat}, a.length = b.length → (∀ (i x y : Nat), a[i]? = some x → b[i]? = some y → x ≤ y) → au a ≤ au b
 | [], [], _, _ => UH _
 | [], _ :: _, h, _ => by simp at h
 | _ :: _, [], h, _ => by simp at h
 | x :: a, y :: b, h, h2 => by
  have h0 := h2 0 x y rfl rfl;rw [au, au];exact V3 Uz (nt (by simpa using h) fun i p q hp hq => h2 (i + 1) p q hp hq)
def Us (es ds : List Int) : List Int := List.zipWith (· - ·) es ds
theorem wB (ts : List Nat) : (bI ts).map Int.toNat = ts := by
 unfold bI;rw [VE];exact Xv ts
def Ub (e : Int) : Ending := .returned (.tuple #[.agg #[.slice none 0 0, .slice none 0 0], .int .i64 e])
def FX.vO (f : FX) : HE := .row f.B f.m f.b 65 3 (az NR.cells f.cs)
def FX.uE (f : FX) : HE := .row f.A f.n f.a 3 1 (bL f.ds)
def SM : List FX → List HE
 | [] => []
 | f :: fs => f.vO :: f.uE :: SM fs
def Sb (a b : List Nat) : List Nat := List.zipWith max a b
def maxD (fs : List FX) : List Nat := fs.foldl (fun a f => Sb a (f.ds.map Int.toNat)) ((fs.map fun f => f.ds.map Int.toNat).headD [])
def SU (fs : List FX) : Int := if E2 fs ≠ 0 then E2 fs else if 4096 < au (maxD fs) then 3 else 0
def FX.ns (f : FX) : List Nat := f.ds.map Int.toNat
theorem FX.fv {f : FX} (h : f.e = 0) : f.ds = bI f.ns ∧ f.cs = (f.cs.map NR.d).map nR ∧ f.ns.length ≤ 12 ∧ (∀ d ∈ f.ns, d ≤ 127) ∧ f.cs.length = au f.ns ∧ au f.ns ≤ 4096 := by
 obtain ⟨ns, xs, hv, hxs⟩ := RK h;obtain ⟨h1, h2, h3, h4, h5, h6⟩ := hv;have e : f.ns = ns := by unfold FX.ns; rw [h1]; exact wB ns
 subst hxs;rw [e];exact ⟨h1, h2, h3, h4, by simpa using h5, h6⟩
structure Un (D : List Nat) (ys : List Dyadic) (g : FX) : Prop where
 ds : g.ds = bI D
 cs : g.cs = ys.map nR
 n : g.n = D.length
 m : g.m = au D
def Ur (D : List Nat) (f : FX) : List Dyadic := P0 f.ns D (f.cs.map NR.d)
def TQ (a b : List Nat) (j : Nat) : List Nat := (Sb a b).take j ++ a.drop j
def Qe (a b : List Dyadic) : List Dyadic := List.zipWith (· + ·) a b
def TU : List (List Dyadic) → List Dyadic
 | [] => []
 | x :: l => l.foldl Qe x
def Uj (a b : List Dyadic) (j : Nat) : List Dyadic := (Qe a b).take j ++ a.drop j
def Ts (f g : FX) : Int := if E2 [f, g] ≠ 0 then E2 [f, g] else if S6 (Pw f.ns g.ns) = true then 3 else 0
def T0 (a b : List Nat) (j : Nat) : List Nat := (Pw a b).take j ++ a.drop j
variable {c c' : Nat} {ls : List Int} {w0 : World}
theorem AO {H : List HE} {L D : Option Addr} {ds : List Int} (w : World) (hh : Hp w0 (.row L n c 3 1 (bL ls) :: H) w) (hD : Sl w0 D n 1 (bL ds)) (hn : n ≤ 100000)
  (hl : ls.all cC = true) (hd : ds.all cC = true) (hll : ls.length = n) :
  Calls Tryz.prog 186 #[.slice L n c, .slice D n c'] w fun e w' =>
   match rr ds ls with
   | some l' => e = .returned (.bool true) ∧ Hp w0 (.row L n c 3 1 (bL l') :: H) w'
   | none => e = .returned (.bool false) ∧ Hp w0 (.row L n c 3 1 (bL (fU n)) :: H) w' := by
 have hdl : ds.length = n := by have := hD.1; rw [bO] at this; omega
 refine aj (N := 31) (l := [.slice L n c, .slice D n c']) Tryz.func186 rfl rfl (by simp) ?_;refine sr (aB (aa (ah (sr (mL (aJ ?_))))));refine dW (aI (aa (aq ?_)));refine aR [4, 5, 9, 10, 11, 12, 13, 14, 15, 16, 17, 18, 19, 20, 21, 22, 23, 24, 25, 26, 27, 28, 29, 30] 5
  (fun i w' => ∃ (k : Nat) (z : Int), k ≤ n ∧ i = .int .i64 z ∧ z = (k : Int) - 1 ∧ rr (ds.drop k) (ls.drop k) = none ∧ Hp w0 (.row L n c 3 1 (bL (nS ls k n)) :: H) w')
  (fun i _ => (intOf i + 1).toNat) ?_ ?_
 ·exact ⟨n, _, UH _, rfl, rfl, by rw [Wu Uz]; rfl, by rw [J9 hll]; exact hh⟩
 ·clear hh;rintro ρ' i w' ⟨k, z, hk, rfl, hz, hnx, hh⟩
  cases k with
  | zero =>
   refine ah (sr (mI ?_));refine dL (aa (cF (a9 (aE (aE (bC (ai (sr (aB (aa (av ?_)))))))))));refine de ?_;rw [List.drop_zero, List.drop_zero] at hnx;rw [hnx];exact ⟨rfl, by simpa [nS] using hh⟩
  | succ k =>
   obtain rfl : z = (k : Int) := Uz;obtain ⟨x, hx⟩ := ak (l := ls) (k := k) Uz;obtain ⟨d, hdk⟩ := ak (l := ds) (k := k) Uz;have bx := Aa hl hx;have bd := Aa hd hdk;have hx2 := cu (Qc (n := n) hx);have hol := K6 hll hk;have hol2 := bO (nS ls (k + 1) n);obtain ⟨g, rfl⟩ := hh.cN (i := 0) rfl Uz;have hD' := hD.ext hh.below;obtain ⟨ad, rfl, hr⟩ := hD'.at_ Uz;by_cases hlt : x < d
   ·refine ah (sr (mI ?_));refine dL (aa (cT (ar (ai (ah (aq (ah (ah ?_))))))));refine OV ?_;refine gC ?_;refine dP ?_;refine OO ?_;refine Nx ?_;refine gC ?_;refine dP ?_;refine NX ?_;refine sM (fun _ hj => fC (hr.ext hj.bl) (cu hdk) rfl) ?_;refine aT ?_;intro f W hJ hV;have hb_4 := hJ.bl;obtain ⟨v20, v19, v18, v17, v16, v15, v14, v13, _⟩ := hV;replace hh := hJ.hp;refine OK ?_;dsimp only [cg];clear hJ;refine bh (aa (cT (sr (mL (mI ?_)))));refine u1 ?_;refine jA ?_;refine bo ?_;refine u1 ?_;refine bQ hh (i := 0) (vs := [_]) rfl rfl (cK rfl) rfl aM.out rfl Uz rfl ?_;intro ws hh;simp only [UU] at hh;refine aa (sr (aB (aa (av (aH (cf (aH (aH (cf (aH ?_))))))))));refine de ?_;rw [U3, Ez _ hll Uz] at hh;rw [Il hdl hll hdk hx hnx hlt];exact ⟨rfl, hh⟩
   ·refine ah (sr (mI ?_));refine dL (aa (cT (ar (ai (ah (aq (ah (ah ?_))))))));refine OV ?_;refine gC ?_;refine dP ?_;refine OO ?_;refine Nx ?_;refine gC ?_;refine dP ?_;refine NX ?_;refine sM (fun _ hj => fC (hr.ext hj.bl) (cu hdk) rfl) ?_;refine aT ?_;intro f W hJ hV;have hb_4 := hJ.bl;obtain ⟨v20, v19, v18, v17, v16, v15, v14, v13, _⟩ := hV;replace hh := hJ.hp;refine OK ?_;dsimp only [cg];clear hJ;refine bh (aa (cF (ar (ai (ao (mL (mI ?_)))))));refine u1 ?_;refine bQ hh (i := 0) (vs := [_]) rfl rfl (cK rfl) rfl aM.out rfl Uz rfl ?_;intro ws hh;simp only [UU] at hh;refine aC (bE (ai (ao (mI ?_))));refine dW (aI (aC (ai ?_)));rw [U3, Ez _ hll Uz, HO Uz] at hh;refine ⟨⟨k, _, Uz, rfl, rfl, J4 hdk hx hnx hlt, hh⟩, by show ((k : Int) - 1 + 1).toNat < ((k : Int) + 1).toNat; omega, ?_⟩;exact dQ
theorem Jf (n : Nat) : fM n [Value.int .i64 0] = bL (fU n) := by rw [uO]; simp [bL, fU]
theorem Hj (l : List ByteArray) (x : ByteArray) : lS l ++ [.string x] = lS (l ++ [x]) := by simp [lS]
theorem GZ (D : Option Addr) (n c : Nat) (ds : List Int) (w : World) (hD : Sl w D n 1 (bL ds)) (hn : n ≤ 100000) :
  Calls Tryz.prog 119 #[.slice D n c] w fun e w' => ∃ A c, e = .returned (.slice A (xD ds).length c) ∧ w'.ownsRow w.heap.size 9 1 (.slice A (xD ds).length c) (xD ds).length (lS (xD ds)) ∧ Below w.heap.size w w' := by
 have hdl : ds.length = n := by have := hD.1; rw [bO] at this; omega
 have hh := Hp.start w;refine aj (N := 52) (l := [.slice D n c]) Tryz.func119 rfl rfl (by simp) ?_;refine sr (aL (aa (sr (aI (aa (ah (sr (mL (aJ (mI (aa (aq ?_))))))))))));refine bK [2, 3, 5, 13, 14, 15, 16, 17, 18, 19, 20, 21, 22, 23, 24, 25, 26, 27, 28, 29, 30, 31, 32, 33, 34] 3 13
  (fun p i w' => ∃ (k : Nat), k ≤ n ∧ i = .int .i64 k ∧ p = .int .i64 (eP (ds.take k)).length ∧ (eP (ds.take k)).length ≤ 65536 ∧ yC 1 ds = yC (eP (ds.take k)).length (ds.drop k) ∧ w = w')
  (fun _ i _ => n - (intOf i).toNat) ?_ ?_
 ·exact ⟨0, UI _, rfl, rfl, by simp [eP], rfl, rfl⟩
 ·rintro ρ' p i w' ⟨k, hk, rfl, rfl, hsz, hok, rfl⟩;by_cases hlt : k < n
  ·obtain ⟨d, hdk⟩ := ak (l := ds) (k := k) Uz;obtain ⟨ad, rfl, hr⟩ := hD.at_ Uz;have hpos := Av (ds.take k);by_cases hb1 : 0 ≤ d ∧ d ≤ 127
   ·have hm1 : (0 : Int) ≤ (eP (ds.take k)).length * (d + 1) := Int.mul_nonneg Uz Uz;have hm2 : ((eP (ds.take k)).length : Int) * (d + 1) ≤ 65536 * 128 := XE Uz Uz Uz Uz;by_cases hb2 : ((eP (ds.take k)).length : Int) * (d + 1) ≤ 65536
    ·have hstep := Kl hdk hok ⟨hb1, hb2⟩;rw [← lE hdk hb1.1] at hstep;have hl2 := lE hdk hb1.1;refine sr ?_;refine dH ?_;refine um ?_;refine bV aM.out rfl (fC hr (cu hdk) rfl) UA ?_;refine aI (aa (ah (sr (mI ?_))));refine bh (mB (gT (mI (gT ?_))));refine cq ?_;refine eV ?_;refine mB (gT (mI (gT (mI (gT ?_)))));refine bo (gT ?_);refine mulC (gT ?_);refine cq ?_;refine eV ?_;refine aa (cF (ar (ai (ao (mI (mI ?_))))));refine bo ?_;refine mulC (aI (aC (bE (ai (ao ?_)))));refine bo (mI (aC (ai ?_)));refine ⟨⟨k + 1, Uz, rfl, by rw [hl2]; rfl, Uz, hstep, rfl⟩, by show n - (k + 1) < n - k; omega, ?_⟩;exact dQ
    ·have hf := BJ hdk hok fun h => hb2 h.2;refine sr ?_;refine dH ?_;refine um ?_;refine bV aM.out rfl (fC hr (cu hdk) rfl) UA ?_;refine aI (aa (ah (sr (mI ?_))));refine bh (mB (gT (mI (gT ?_))));refine cq ?_;refine eV ?_;refine mB (gT (mI (gT (mI (gT ?_)))));refine bo (gT ?_);refine mulC (gT ?_);refine cq ?_;refine eV ?_;exact PV
   ·have hf := BJ hdk hok fun h => hb1 h.1;refine sr ?_;refine dH ?_;refine um ?_;refine bV aM.out rfl (fC hr (cu hdk) rfl) UA ?_;by_cases h0 : d < 0
    ·refine aI (aa (ah (sr (mI ?_))));refine bh (mB ?_);refine gS (gS ?_);refine fO ?_;refine mB ?_;refine gS (gS (gS (gS (gS ?_))));refine fO ?_;exact PV
    ·refine aI (aa (ah (sr (mI ?_))));refine bh (mB (gT (mI (gT ?_))));refine cq ?_;refine eV ?_;refine mB ?_;refine gS (gS (gS (gS (gS ?_))));refine fO ?_;exact PV
  ·obtain rfl : n = k := Uz;rw [UQ Uz] at hsz;rw [Wu Uz] at hok;have hok : yC 1 ds = true := hok;have hbd := Jq ds 1 hok;have hen := zG ds fun d hd => (hbd d hd).1;have hall := se ds hbd;have hdok : ds.all cC = true := by
    rw [Vb]; intro d hd; have := hbd d hd; simp [cC, this]
   have hAl : xD ds = (eP ds).map fX := by simp only [xD, hok, if_true]
   refine sr ?_;refine bh (aa (ah (cF (a9 (aE (aE (bC (ai (sr (mL (aJ ?_)))))))))));refine gu hh rfl rfl rfl rfl bk.out aM.out rfl Uz Uz UA ?_;intro b37 w37 hh;refine aL (aa (sr (aL (aa (ah (sr (aB (aa (aq ?_)))))))));rw [Jf] at hh;rw [hdl] at hen;refine bK [7, 8, 9, 10, 38, 39, 40, 41, 42, 43, 44, 45, 46, 47, 48, 49, 50] 7 8
    (fun v b w' => ∃ (done rest : List (List Int)) (a : List Int) (A : Option Addr) (c' : Nat), v = .slice A done.length c' ∧ Hp w [.row (some ⟨b37, 0, none⟩) n n 3 1 (bL a), .row A done.length c' 9 1 (lS (done.map fX))] w' ∧ eP ds = done ++ rest ∧ ((b = .bool true ∧ nQ (rr ds) a rest) ∨ (b = .bool false ∧ rest = [])))
    (fun v _ _ => 65537 - lenOf v) ?_ ?_
   ·exact ⟨[], _, _, none, 0, rfl, (hh.cY _ _).swap, rfl, .inl ⟨rfl, hen⟩⟩
   ·clear hh;rintro ρ' v b w' ⟨done, rest, a, A, c', rfl, hh, hap, hc⟩
    rcases hc with ⟨rfl, hE⟩ | ⟨rfl, rfl⟩
    ·have hlen : (eP ds).length = done.length + rest.length := by rw [hap, UM]
     have hre : rest = a :: rest.tail := by
      rcases vU hE with ⟨h, _⟩ | ⟨c, L, h, _⟩ <;> simp [h]
     have hrl : rest.length = rest.tail.length + 1 := by rw [hre]; simp
     have ha : a ∈ eP ds := by rw [hap, hre]; simp
     have hao := hall a ha;have hal := mj ds a ha;obtain ⟨eo1, eo2⟩ := qy hao;have e1 : lS (done.map fX) ++ [.string (str (Ig a))] = lS ((done ++ [a]).map fX) := by rw [Hj, eo1, VC]; rfl
     refine ah (sr (mB (aa (cT (ar (ai (ah (aq (sr (mL ?_))))))))));refine bD hh (AZ _ _ _ _ _ (hh.aA (i := 0) rfl) Uz) rfl ?_;intro w44 hh;refine mT ?_;refine dt ?_;refine dt ?_;refine aS (aI (aa (ao (mL (mS ?_)))));refine cR hh (cs := [_]) bk.out aM.out (aN (B5 rfl) bZ) rfl rfl UA UA UA rfl UA ?_;intro b49 w49 hh;refine cH hh (i := 2) rfl rfl rfl (hh.aA (i := 0) rfl) bk.out aM.out rfl UA rfl Uz Uz UA ?_;intro A50 c50 w50 hh;simp only [UU, Vp] at hh;replace hh := hh.sub (Vs _ _);refine aL (aC (bE (ai (ao (mL (mL ?_))))));rw [e1] at hh;have hcc := AO (D := D) (c' := c) (ds := ds) _ hh hD Uz hao hdok Uz
     rcases vU hE with ⟨h1, h2⟩ | ⟨c2, L, h1, h2, h3⟩
     ·rw [h2] at hcc;refine aF (hcc) al.out rfl UA ?_;rintro e_ w_ ⟨rfl, hh⟩;refine ⟨_, rfl, ?_⟩;refine aB (aC (ai ?_));refine ⟨⟨done ++ [a], [], _, A50, c50, by rw [UM]; rfl, by rw [UM]; exact hh, by rw [hap, h1]; simp, .inr ⟨rfl, rfl⟩⟩, by show 65537 - (done.length + 1) < 65537 - done.length; omega, ?_⟩;exact dQ
     ·rw [h2] at hcc;refine aF (hcc) al.out rfl UA ?_;rintro e_ w_ ⟨rfl, hh⟩;refine ⟨_, rfl, ?_⟩;refine aB (aC (ai ?_));refine ⟨⟨done ++ [a], L, c2, A50, c50, by rw [UM]; rfl, by rw [UM]; exact hh, by rw [hap, h1]; simp, .inl ⟨rfl, h3⟩⟩, by show 65537 - (done.length + 1) < 65537 - done.length; omega, ?_⟩;exact dQ
    ·refine ah (sr (mB (aa (cF (a9 (aE (aE (bC (ai (sr (mL (aL (aa (av ?_))))))))))))));refine de ?_;have h1 := hh.at_ (i := 1) rfl;have hdn : eP ds = done := by rw [hap]; simp
     rw [hAl, hdn, US];exact ⟨A, c', rfl, h1, hh.below⟩
theorem vB (A : Option Addr) (n c : Nat) (ds : List Int) (w : World) (hS : Sl w A n 1 (bL ds)) (hn : n ≤ 1000000) :
  Calls Tryz.prog 44 #[.slice A n c] w fun r w' => r = .returned (.int .i64 (FN ds)) ∧ Below w.heap.size w w' := by
 have hh := Hp.start w;have hln : ds.length = n := by have := hS.1; simpa [bL] using this
 unfold FN;refine aj (N := 39) (l := [.slice A n c]) Tryz.func44 rfl rfl (by simp) ?_;refine sr (aI (aa (sr (aI (aa (ah (sr (aI (aa (aq ?_))))))))));refine aR [2, 4, 6, 7, 8, 9, 10, 11, 12, 13, 14, 15, 16, 17, 18, 19, 20, 21, 22, 23] 4
  (fun v w' => ∃ i : Nat, i ≤ n ∧ v = .int .i64 i ∧ (ds.take i).any (fun d => !cC d) = false ∧ Hp w [] w')
  (fun v _ => n - (intOf v).toNat) ?_ ?_
 ·exact ⟨0, UI _, rfl, rfl, hh⟩
 ·clear hh;rintro ρ' v w' ⟨i, hi, rfl, hall, hh⟩;by_cases hlt : i < n
  ·obtain ⟨d, hd⟩ := ak (l := ds) (k := i) Uz;have hgi := cu hd;obtain ⟨ad, rfl, hr⟩ := hS.at_ Uz;have hbad : (!cC d) = true → ds.any (fun d => !cC d) = true := fun h => Wi.2 ⟨d, UJ hd, h⟩;by_cases h1 : d < 0
   ·refine ah (sr (mI (mL (aJ ?_))));refine rR ?_;refine ct ?_;refine jL ?_;refine bh (mB ?_);refine gS (gS (gS (gS (gS ?_))));refine fO ?_;exact RO
   ·by_cases h2 : 127 < d
    ·refine ah (sr (mI (mL (aJ ?_))));refine rR ?_;refine ct ?_;refine jL ?_;refine bh (mB (gT (mL (gT (mI (gT ?_))))));refine ct ?_;refine gT ?_;refine jL ?_;refine gT ?_;refine cq ?_;refine eV ?_;exact RO
    ·refine ah (sr (mI (mL (aJ ?_))));refine rR ?_;refine ct ?_;refine jL ?_;refine bh (mB (gT (mL (gT (mI (gT ?_))))));refine ct ?_;refine gT ?_;refine jL ?_;refine gT ?_;refine cq ?_;refine eV ?_;refine uk ?_;refine bo (aI (aC (ai ?_)));refine ⟨⟨i + 1, Uz, rfl, ?_, hh⟩, by show n - (i + 1) < n - i; omega, ?_⟩
     ·rw [ay hd, XK, hall, XJ, XN, cC, U0 Uz, U0 Uz]; rfl
     ·exact dQ
  ·rw [UQ Uz] at hall;rw [hall, UE UA];obtain ⟨ns, hns, hlow⟩ := xj hall;have hds : ∀ (j : Nat) (d : Int), ds[j]? = some d → 0 ≤ d ∧ d ≤ 127 := fun j d hd => by
    have := Wb.1 hall d (UJ hd);simp [cC] at this;omega
   refine ah (sr (mI (mL (aJ ?_))));refine bh (aa (cF (a9 (aE (aE (bC (ai (ah (sr (aI (aa (aq ?_))))))))))));refine bK [3, 5, 24, 25, 26, 27, 28, 29, 30, 31, 32, 33, 34, 35, 36, 37] 3 5
    (fun v3 v w' => ∃ (i : Nat) (q : Int), i ≤ n ∧ v = .int .i64 i ∧ v3 = .int .i64 q ∧ 0 ≤ q ∧ q ≤ 4097 ∧ yh 1 ds = yh q (ds.drop i) ∧ Hp w [] w')
    (fun _ v _ => n - (intOf v).toNat) ?_ ?_
   ·exact ⟨0, 1, UI _, rfl, rfl, Uz, Uz, rfl, hh⟩
   ·clear hh;rintro ρ2 v3 v w2 ⟨j, q, hj, rfl, rfl, hq1, hq2, hc, hh⟩;by_cases hjn : j < n
    ·obtain ⟨d, hd⟩ := ak (l := ds) (k := j) Uz;have hgi := cu hd;have hdb := hds j d hd;obtain ⟨ad, rfl, hr⟩ := hS.at_ Uz;rw [gl hd, yh] at hc;have hm1 : 0 * 0 ≤ q * (d + 1) := XE hq1 Uz UA Uz;have hm2 : q * (d + 1) ≤ 4097 * 128 := XE hq2 Uz Uz UA;refine ah (sr (mI (mL (aJ ?_))));refine bh (aa (cT (ar (ai (ah (aq (ao (mI (mL (mI ?_))))))))));refine qw ?_;refine jL ?_;refine bo ?_;refine mulC ?_;refine wN rfl rfl UA ?_;refine aI (aC (bE (ai (ao (mI ?_)))));refine bo (aI (aC (ai ?_)));refine ⟨⟨j + 1, _, Uz, rfl, rfl, by split <;> omega, by split <;> omega, by rw [hc, show min (q * (d + 1)) 4097 = if 4097 < q * (d + 1) then 4097 else q * (d + 1) by split <;> omega], hh⟩, by show n - (j + 1) < n - j; omega, ?_⟩;exact dQ
    ·rw [Wu Uz] at hc;refine ah (sr (mI (mL (aJ ?_))));refine bh (aa (cF (a9 (aE (aE (bC (ai (sr (mI (aI (aa (av ?_))))))))))));refine de ?_;exact ⟨by rw [hc]; rfl, hh.below⟩
def Uu (n : Nat) (k : Int) : Dyadic := if k < 0 ∨ (n : Int) < k then 0 else nD (bin n k.toNat)
theorem Ex : ∀ (ns : List Nat) (n : Nat), (∀ d ∈ ns, d ≤ 127) → n * au ns ≤ 65536 → 1 ≤ n → yC n (bI ns) = true
 | [], _, _, _, _ => rfl
 | d :: ns, n, h, hc, h1 => by
  have hd := h d UR;have e1 : (n : Int) * ((d : Int) + 1) = ((n * (d + 1) : Nat) : Int) := by rw [V2, WE]; rfl
  rw [au, ← VB] at hc;have h2 : n * (d + 1) * 1 ≤ n * (d + 1) * au ns := Vm _ (cM ns);have ih := Ex ns (n * (d + 1)) (fun x hx => h x (UT _ hx)) hc (Nat.mul_pos h1 Uz);show (decide (0 ≤ (d : Int)) && (decide ((d : Int) ≤ 127) && (decide ((n : Int) * ((d : Int) + 1) ≤ 65536) && yC ((n : Int) * ((d : Int) + 1)) (bI ns)))) = true;rw [e1, ih, U0 Uz, U0 Uz, U0 Uz]
  rfl
def sy (ns : List Nat) : List ByteArray := (eP (bI ns)).map fX
theorem Ha (ns : List Nat) : (sy ns).length = au ns := by unfold sy; rw [US, IW, cx]
theorem KB {ns : List Nat} {p : Nat} (h : p < au ns) : (sy ns)[p]? = some (fX (bI (cU ns.reverse p).reverse)) := by
 unfold sy;rw [UO, LN (by rw [cx]; exact h)]
 rfl
theorem Sd {l : List Nat} {i r : Nat} (h : l[i]? = some r) (hr : r ≤ 255) : ∃ c : UInt8, (fX (bI l)).data.toList[i]? = some c ∧ c.toNat = r := by
 refine ⟨xK (r : Int), ?_, ?_⟩
 ·unfold fX;rw [cP, UO, jk h]
  rfl
 ·show (UInt8.ofNat ((r : Int)).toNat).toNat = r;rw [V8, X2];omega
theorem jz (L : Option Addr) (n c : Nat) (b : List NR) (M : Option Addr) (c2 : Nat) (w : World) (hS : Sl w L n 3 (az NR.cells b)) (hS2 : Sl w M n 3 (az NR.cells b)) (hn : n ≤ 1000000) :
  Calls Tryz.prog 56 #[.slice L n c, .slice M n c2] w fun r w' => r = .returned (.bool true) ∧ Below w.heap.size w w' := by
 have hh := Hp.start w;have hln := hS.bq NR.len UA;refine aj (N := 26) (l := [.slice L n c, .slice M n c2]) Tryz.func56 rfl rfl (by simp) ?_;refine zz ?_;refine KS ?_;refine aR [4, 5, 11, 12, 13, 14, 15, 16, 17, 18, 19, 20, 21, 22, 23, 24, 25] 5
  (fun v w' => ∃ i : Nat, i ≤ n ∧ v = .int .i64 i ∧ Hp w [] w')
  (fun v _ => n - (intOf v).toNat) ?_ ?_
 ·exact ⟨0, UI _, rfl, hh⟩
 ·clear hh;rintro ρ' v w' ⟨i, hi, rfl, hh⟩;by_cases hlt : i < n
  ·obtain ⟨s, hs⟩ := ak (l := b) (k := i) Uz;obtain ⟨ad, rfl, hr⟩ := hS.at_ Uz;obtain ⟨ad2, rfl, hr2⟩ := hS2.at_ Uz;refine ah (sr (mI (mL (aJ ?_))));refine wC ?_;refine zk ?_;refine gC ?_;refine dP ?_;refine nM (i) ?_;refine su [_,_,_] (fun _ hj => (hr.ext hj.hp.below).recAt NR.len hs) ?_;refine gC ?_;refine dP ?_;refine nM (i) ?_;refine su [_,_,_] (fun _ hj => (hr2.ext hj.hp.below).recAt NR.len hs) ?_;refine aT ?_;intro f W hJ hV;have hb_6 := hJ.bl;obtain ⟨v24, v23, v22, v21, v20, v19, v18, v17, _⟩ := hV;replace hh := hJ.hp;refine zK ?_;dsimp only [cg];clear hJ;refine Fs rfl rfl (by first | assumption | rfl) UA ?_;refine uk ?_;refine bo (aI (aC (ai ?_)));exact IK
  ·refine ah (sr (mI (mL (aJ ?_))));refine AQ ?_;refine de ?_;exact ⟨rfl, hh.below⟩
theorem yv (A B : Option Addr) (n c m c2 : Nat) (A' B' : Option Addr) (c' c2' : Nat) (ds : List Int) (cs : List NR) (w : World) (hS : Sl w A n 1 (bL ds)) (hS2 : Sl w B m 3 (az NR.cells cs)) (hS3 : Sl w A' n 1 (bL ds)) (hS4 : Sl w B' m 3 (az NR.cells cs)) (hn : n ≤ 100000) (hm : m ≤ 1000000) :
  Calls Tryz.prog 23 #[.agg #[.slice A n c, .slice B m c2], .agg #[.slice A' n c', .slice B' m c2']] w fun r w' => r = .returned (.bool true) ∧ Below w.heap.size w w' := by
 have hh := Hp.start w;have hnum := fun w1 h1 h2 => vP A A' n n c c' ds ds w1 h1 h2 hn hn;simp only [decide_true] at hnum;refine aj (N := 17) (l := [.agg #[.slice A n c, .slice B m c2], .agg #[.slice A' n c', .slice B' m c2']]) Tryz.func23 rfl rfl (by simp) ?_;refine sr ?_;refine cz hh [_,_] ?_;intro b2 w2 hh;refine cz hh [_,_] ?_;intro b3 w3 hh;refine aB (aa (sr (bH ?_)));refine bG hh 1 ?_;refine bH ?_;refine bG hh 0 ?_;refine bD hh (hnum _ (hS.ext hh.below) (hS3.ext hh.below)) rfl ?_;intro w9 hh;refine mB (gT (bH (gT ?_)));refine bG hh 1 ?_;refine gT (bH (gT ?_));refine bG hh 0 ?_;refine aG rfl rfl ?_;refine bD hh (jz B m c2 cs B' c2' _ (hS2.ext hh.below) (hS4.ext hh.below) hm) rfl ?_;intro w15 hh;refine fO ?_;exact vy
def TY (ds es : List Nat) (xs ys : List Dyadic) (i m : Nat) : List (Nat × Dyadic) := (List.range m).map fun k => (eW (CF ds es) (CF (cU ds i) (cU es k)), (xs[i]?).getD 0 * (ys[k]?).getD 0)
def Ut (ds es : List Nat) (xs ys : List Dyadic) (i : Nat) : List (Nat × Dyadic) := (List.range i).flatMap fun i => TY ds es xs ys i (au es)
def bS (rs : List Nat) : List UInt8 := (bI rs).map xK
def MQ (ns : List Nat) (a : Nat) : List Nat := ns.set a (ns.getD a 0 + 1)
def Uv (ns : List Nat) (a : Nat) (xs : List Dyadic) : List Dyadic :=
 (List.range (au (MQ ns a))).map fun p => co ns.reverse xs (cU (MQ ns a).reverse p) + if 0 < (cU (MQ ns a).reverse p).getD (ns.length - 1 - a) 0 then co ns.reverse xs (Ta (cU (MQ ns a).reverse p) (ns.length - 1 - a)) else 0
theorem km : ∀ (ds rs : List Nat), jD ds rs ↔ rs.length = ds.length ∧ ∀ (i d r : Nat), ds[i]? = some d → rs[i]? = some r → r ≤ d
 | [], [] => by simp [jD]
 | [], _ :: _ => by simp [jD]
 | _ :: _, [] => by simp [jD]
 | d :: ds, r :: rs => by
  rw [jD, km ds rs];constructor
  ·rintro ⟨h1, h2, h3⟩;refine ⟨by rw [U7, U7, h2], fun i e s he hs => ?_⟩
   cases i with
   | zero => cases he; cases hs; exact h1
   | succ i => exact h3 i e s he hs
  ·rintro ⟨h1, h2⟩;exact ⟨h2 0 d r rfl rfl, by simpa using h1, fun i e s he hs => h2 (i + 1) e s he hs⟩
def Ug (ns : List Nat) (xs : List Dyadic) (cs : List Nat) (zs : List Dyadic) : Prop := zs.length = au cs ∧ cs.length = ns.length ∧ (∀ (i n c : Nat), ns[i]? = some n → cs[i]? = some c → n ≤ c) ∧ ∀ row : List Nat, row.length = ns.length → co cs.reverse zs row = Tv (PW cs ns).reverse (co ns.reverse xs) row
structure oN (p : PX) (b : List SR) (ns : List Nat) : Prop where
 e : p.e = 0
 box : ko b = 0
 pos : 0 < b.length
 l9 : b.length ≤ 12
 v : p.v = b.length
 nl : ns.length = b.length
 low : ∀ d ∈ ns, d ≤ 127
 most : au ns ≤ 4096
 own : ∀ (i d : Nat), ns[i]? = some d → ∀ t ∈ p.ts, eU i t ≤ d
theorem xS {p : PX} {b : List SR} {D : List Int} (h : nT p b D = 0) : D = bI (D.map Int.toNat) ∧ oN p b (D.map Int.toNat) := by
 unfold nT at h;by_cases h0 : p.e ≠ 0
 ·rw [UF h0] at h; exact absurd h h0
 ·rw [UE h0] at h;by_cases h1 : ko b ≠ 0
  ·rw [UF h1] at h; exact absurd h h1
  ·rw [UE h1] at h;by_cases h2 : (b.length : Int) ≠ p.v ∨ (D.length : Int) ≠ p.v
   ·rw [UF h2] at h; exact absurd h UA
   ·rw [UE h2] at h;by_cases h3 : uj (qO p.v p.ts) D = true
    ·rw [UF h3] at h; exact absurd h UA
    ·rw [UE h3] at h;by_cases h4 : gL 1 D = 0
     ·rw [UF h4] at h; exact absurd h UA
     ·have hpe : p.e = 0 := W5.1 h0;obtain ⟨f1, _, _, _⟩ := cd hpe;have f2 := fP.1 f1;obtain ⟨o1, o2, o3⟩ := jI hpe;have hbv : (b.length : Int) = p.v := W5.1 fun c => h2 (.inl c);have hdv : (D.length : Int) = p.v := W5.1 fun c => h2 (.inr c);have hD : ∀ (i : Nat) (y : Int), D[i]? = some y → ∃ d : Nat, (cS p.v p.ts)[i]? = some d ∧ (d : Int) ≤ y ∧ y ≤ 127 := fun i y hy => by
       have hi := (UW.1 hy).1;obtain ⟨d, hd⟩ := ak (l := cS p.v p.ts) (k := i) Uz;have hg : (qO p.v p.ts)[i]? = some (d : Int) := by rw [o1]; exact jk hd
       have := Wb.1 ((Bool.not_eq_true _).mp h3) _ (UJ (DT hg hy));rw [U2] at this;exact ⟨d, hd, by show (d : Int) ≤ y; omega, by show y ≤ 127; omega⟩
      have hnat : D = bI (D.map Int.toNat) := by
       unfold bI;rw [VE];refine (Xv _).symm.trans (Ws fun y hy => ?_);obtain ⟨i, hi⟩ := V6.1 hy;obtain ⟨d, _, h5, _⟩ := hD i y hi;show y = ((y.toNat : Nat) : Int);omega
      have hlow : ∀ d ∈ D.map Int.toNat, d ≤ 127 := fun d hd => by
       obtain ⟨y, hy, rfl⟩ := UY.1 hd;obtain ⟨i, hi⟩ := V6.1 hy;obtain ⟨_, _, _, h6⟩ := hD i y hi;omega
      refine ⟨hnat, hpe, W5.1 h1, ?_, Uz, hbv.symm, by rw [US]; omega, hlow, ?_, fun i d hd t ht => ?_⟩
      ·rcases WG b.length with c | c
       ·have h9 := W5.1 h1;unfold ko at h9;rw [W9.1 c] at h9;exact absurd h9 UA
       ·exact c
      ·have h8 := jE (D.map Int.toNat) 1 (UH _) UA hlow;rw [← hnat, Wr] at h8;rw [show gL 1 D = gL ((1 : Nat) : Int) D from rfl, h8] at h4;exact W5.1 fun c => h4 (UE c)
      ·rw [UO] at hd;obtain ⟨y, hy, hyd⟩ := Wc.1 hd;obtain ⟨d2, h7, h8, h9⟩ := hD i y hy;have := (o3 i d2 h7).2.1 t ht;omega
theorem oN.kD {p : PX} {b : List SR} {ns : List Nat} (h : oN p b ns) : (cS p.v p.ts).length = b.length := by
 rw [(jI h.e).2.1, h.v];exact V8 _
theorem MC (v i : Nat) (c : NR) : lK (fun x => if x = i then 1 else 0) [⟨kR v i, c⟩] := fun t ht j => by
 rw [U4.1 ht]
 cases he : (⟨kR v i, c⟩ : TR).m.data.toList[j]? with
 | none => unfold eU; rw [he]; exact UI _
 | some e =>
  rw [mX he];show e.toNat ≤ if j = i then 1 else 0
  have e1 : ((List.replicate v (0 : UInt8)).set i 1)[j]? = some e := by simpa [kR] using he
  rw [Wd] at e1;by_cases hj : i = j
  ·rw [UF hj] at e1;rw [UF hj.symm];split at e1
   ·rw [← Vl e1]; decide
   ·cases e1
  ·rw [UE hj] at e1;rw [(List.mem_replicate.1 (UJ e1)).2];exact UI _
theorem qH (v i : Nat) (s : SR) : lK (fun x => if x = i then 1 else 0) (g8 v i s) := by
 refine lK.aD (lK.append ((tU v _).aD.mono fun x => UI _) (lK.aD fun t ht j => ?_));obtain ⟨z, hz, rfl⟩ := UY.1 ht;rw [show eU j (j4 (s.H - s.L) z) = eU j z from rfl];exact (MC v i _).aD z hz j
theorem rk {p : PX} {b : List SR} {ns : List Nat} (h : oN p b ns) (ho : iu k p.ts) (hb : ∀ s ∈ b, s.fin k) (hk : k ≤ 1000) (hgr : ff (k + k + 16394) (cS p.v p.ts) (k + 1) ≤ 440000) (h0 : (cV p (bj b)).1 = 0) :
  iZ b.length 440000 (cV p (bj b)).2 ∧ ∀ t ∈ (cV p (bj b)).2, jD ns.reverse (cv t.m).reverse := by
 have hl := h.l9;have hpos := h.pos;have hln := iY b;obtain ⟨_, o2, o3⟩ := jI h.e;have hol := h.kD;have hhv : eZ (bj b) = b.length := by
  obtain ⟨s, hs⟩ := ak (l := b) (k := 0) Uz;rw [kg (fK hs)]
 unfold cV at h0 ⊢;rw [UE (fun c => c h.e), UE (by rw [hln, h.v]; exact fun c => c rfl)] at h0 ⊢;by_cases hlk : (bj b).length ≠ 0 ∧ fk (bj b) ≠ 0
 ·rw [UF hlk] at h0; exact absurd h0 hlk.2
 ·rw [UE hlk, hhv] at h0 ⊢;have hq : ∀ q ∈ (bj b).map PX.ts, iZ b.length (k + k + 10) q ∧ q.length ≤ 2 := fun q hq => by
   obtain ⟨g, hg, rfl⟩ := UY.1 hq;obtain ⟨i, s, hs, rfl⟩ := CK hg;exact lf hl (hb s (UJ hs)) Uz
  have h1 := EZ (eu hl) (show k + k + 10 + 4096 * 2 + 8192 ≤ k + k + 16394 by omega) ((bj b).map PX.ts) 0 p.ts (cS p.v p.ts) k hq ho (by rw [US, hln, hol]) (fun i d hd => ⟨(o3 i d hd).1, fun t ht => by rw [U5]; exact (o3 i d hd).2.1 t ht⟩) Uz h0;refine ⟨h1.mono hgr, ?_⟩;have h2 := yQ ((bj b).map PX.ts) 0 p.ts (fun i => (ns[i]?).getD 0) (fun i q hi => ?_) (fun t ht i hi => ?_) h0
  ·intro t ht;have hm := (cd h1.e).2.2.1 t ht;unfold dY at hm;rw [UX, U2] at hm;have hsz : (cv t.m).length = b.length := by rw [mQ]; omega
   rw [km];refine ⟨by rw [Vn, Vn, hsz, h.nl], fun i d r hd hr => ?_⟩;have hi := (UW.1 hd).1;rw [Vn] at hi;rw [Ww hi] at hd;rw [Ww (by rw [hsz, ← h.nl]; exact hi), hsz, ← h.nl] at hr;have h3 := h2 t ht (ns.length - 1 - i);dsimp only at h3;rw [US, hln, UF ⟨UI _, by have := h.nl; omega⟩, hd, xI, hr] at h3;exact h3
  ·rw [UO] at hi;obtain ⟨g, hg, rfl⟩ := Wc.1 hi;obtain ⟨s, hs⟩ := ak (l := b) (k := i) (by have := (UW.1 hg).1; rwa [hln] at this);rw [fK hs] at hg;rw [← Vl hg, U5];exact qH _ i s
  ·rw [US, hln] at hi;rw [U5];obtain ⟨d, hd⟩ := ak (l := ns) (k := i) (by rw [h.nl]; exact hi);rw [hd];exact h.own i d hd t ht
theorem yX (L : Option Addr) (n c d : Nat) (xs : List Dyadic) (k : Nat) (w : World) (hT : eb w) (hS : Sl w L n 3 (az NR.cells (xs.map nR))) (hn : n = d + 1) (hd : d ≤ 127) (hx : ∀ x ∈ xs, Sz k x) (hk : k ≤ 500000) :
  Calls Tryz.prog 94 #[.slice L n c] w fun r w' => ∃ A c', r = .returned (.slice A n c') ∧ Hp w [.row A n c' 65 3 (az NR.cells ((kL d (ej d 1 1) xs).map nR))] w' := by
 have hh := Hp.start w;have hln : xs.length = n := by have := hS.bq NR.len UA; simpa using this
 have ha : Sz 1 1 := Sz.one;obtain ⟨ad, rfl, hr⟩ := hS.at_ Uz;refine aj (N := 52) (l := [.slice (some ad) n c]) Tryz.func94 rfl rfl (by simp) ?_;refine sr (aL (aa (sr (mL (aJ ?_)))));refine dW (aI (aa (sr (mI ?_))));refine bo ?_;refine Ir ?_;intro b14 w14 hh;refine rT ?_;rw [nF, hn, ← uU d 1 1 xs, ← hn] at hh;refine aR [5, 6, 7, 8, 17, 18, 19, 20, 21, 22, 23, 24, 25, 26, 27, 28, 29, 30, 31, 32, 33, 34, 35, 36, 37, 38, 39, 40, 41, 42, 43, 44, 45, 46, 47, 48, 49, 50] 17
  (fun v w' => ∃ i : Nat, i ≤ n ∧ v = .int .i64 i ∧ Hp w [.row (some ⟨b14, 0, none⟩) n n 65 3 (az NR.cells ((ix d 1 1 xs i 0).map nR))] w')
  (fun v _ => n - (intOf v).toNat) ?_ ?_
 ·exact ⟨0, UI _, rfl, hh⟩
 ·clear hh;rintro ρ' v w' ⟨i, hi, rfl, hh⟩;by_cases hlt : i < n
  ·obtain ⟨x, hxi⟩ := ak (l := xs) (k := i) Uz;have hxn : (xs.map nR)[i]? = some (nR x) := by rw [UO, hxi]; rfl
   have hat : jB xs i = x := by unfold jB; rw [hxi]; rfl
   have zx := hx x (UJ hxi);have hch := fun w1 hT1 => kT (d - i) w1 hT1 Uz;refine sr ?_;refine eh ?_;refine ct ?_;refine IH ?_;refine bW hh ?_;intro b6 w6 hh;refine aI ?_;refine bX hh 0 [_,_,_] ?_;intro ws hh;replace hh : Hp _ (.blk _ _ [_, _, _] _ :: _) _ := hh;refine aa (sr (mI (mI ?_)));refine dW ?_;have e24 : (n : Int) - 1 - (i : Int) = ((d - i : Nat) : Int) := Uz;rw [← e24] at hch;refine aF (hch _ (hT.hp hh)) al.out rfl UA ?_;rintro e_ w25 ⟨A25, c25, rfl, hown_, hb_⟩;refine ⟨_, rfl, ?_⟩;replace hh := hh.aV (x := .row _ _ _ _ _ _) hb_ hown_;refine aJ (mI (aa (aq ?_)));replace hh := hh.sub (UG _ (UG _ (UG _ Ve)));refine aR [7, 8, 27, 28, 29, 30, 31, 32, 33, 34, 35, 36, 37, 38, 39, 40, 41, 42, 43, 44, 45, 46, 47, 48, 49] 27
    (fun v w' => ∃ j : Nat, j ≤ d - i + 1 ∧ v = .int .i64 j ∧ Hp w [.row A25 (d - i + 1) c25 65 3 (az NR.cells (lz (d - i))), .blk b6 65 [.bool (nR x).neg, .string (nR x).bA, .int .i64 (nR x).e] (0, 0), .row (some ⟨b14, 0, none⟩) n n 65 3 (az NR.cells ((ix d 1 1 xs i j).map nR))] w')
    (fun v _ => d - i + 1 - (intOf v).toNat) ?_ ?_
   ·exact ⟨0, UI _, rfl, hh⟩
   ·clear hh;rintro ρ2 v w2 ⟨j, hj, rfl, hh⟩;by_cases hjn : j < d - i + 1
    ·have hbn : (lz (d - i))[j]? = some (nR (nD (bin (d - i) j))) := kM Uz;have zb := rq (d - i) j Uz;obtain ⟨o, ho⟩ := ak (l := ix d 1 1 xs i j) (k := i + j) (by rw [j7]; omega);have hon : ((ix d 1 1 xs i j).map nR)[i + j]? = some (nR o) := by rw [UO, ho]; rfl
     have zo := Ff (j := j) hx ha ha hd (show i ≤ d + 1 by omega) o (UJ ho);have zy := zx.mul zb;have hm2 := fun A cc w1 hT1 hS1 => eK A 2 cc [nR x, nR (nD (bin (d - i) j))] w1 hT1 hS1 (by simpa using ⟨zx.ok Uz, zb.ok Uz⟩) 600000 (by simpa [bY] using ⟨zx.mono Uz, zb.mono Uz⟩) Uz Uz;rw [show ik ([nR x, nR (nD (bin (d - i) j))].map NR.d) = x * nD (bin (d - i) j) by simp only [U9, VD, bY]; show 1 * x * _ = _; rw [WO]] at hm2;have hset := zm (show i + j ≤ d by omega) ho;have hval : jB xs i * ej d 1 1 i (i + j) = x * nD (bin (d - i) j) := by
      unfold ej;rw [hat, UE Uz, show i + j - i = j by omega, iV, iV];generalize nD (bin (d - i) j) = u;grind
     rw [hval] at hset;generalize x * nD (bin (d - i) j) = y at *;have hsum := fun A cc w1 hT1 hS1 => jd A 2 cc [nR o, nR y] w1 hT1 hS1 (by simpa using ⟨zo.ok Uz, zy.ok Uz⟩) 2000000 (by simpa [bY] using ⟨zo.mono Uz, zy.mono Uz⟩) Uz;rw [show mA ([nR o, nR y].map NR.d) = o + y by simp only [U9, VD, bY, k0]] at hsum;have hll : ((ix d 1 1 xs i j).map nR).length = n := by rw [US, j7]; omega
     generalize ix d 1 1 xs i j = S at *;have hrl := eT NR.len (S.map nR);obtain ⟨gw, rfl⟩ := hh.cN (i := 0) rfl Uz;refine sr ?_;refine eh ?_;refine k7 ?_;refine Oz ?_;refine bW hh ?_;intro b8 w8 hh;refine aI ?_;refine bX hh 0 [_,_,_] ?_;intro ws hh;replace hh : Hp _ (.blk _ _ [_, _, _] _ :: _) _ := hh;refine aa ?_;refine aZ 16 [[(4, none)], [(5, none)], [(7, none)], [(33, some 1), (34, some 2)], [(4, none)], [(5, none)], [(7, none)], [(37, some 5), (38, some 6)], [(36, some 4), (39, some 7)], [(40, some 8)], [(6, none)], [(8, none)], [(42, some 10), (43, some 11)], [(44, some 12)], [(41, some 9), (45, some 13)], [(46, some 14)]] [(15, 47), (14, 46), (13, 45), (12, 44), (11, 43), (10, 42), (9, 41), (8, 40), (7, 39), (6, 38), (5, 37), (4, 36), (3, 35), (2, 34), (1, 33), (0, 32)] hh mixed UB ?_;refine gC ?_;refine dP ?_;refine dP ?_;refine sG ?_;refine gC ?_;refine dP ?_;refine dP ?_;refine sG ?_;refine KZ ((i + j)) ?_;refine su [_,_,_] (fun _ hj => hj.hp.iF (f := NR.cells) (x := nR o) (l := S.map nR) (i := 3) rfl NR.len UA hon) ?_;refine fS 2 [_,_,_] ?_;refine fS 0 [_,_,_] ?_;refine sA [_,_,_,_,_,_] ?_
     refine aP (i := 13) (Is (.agg #[.bool (nR y).neg, .string (nR y).bA, .int .i64 (nR y).e])) Is.ext ?_ ?_
     ·intro ρ1 w1 hj hR;obtain ⟨A44, c44, h44, s44⟩ := hR.1;exact a7 rfl (aK al.out (aw h44 aW)) (hm2 A44 c44 _ (hT.hp hj.hp) s44) (fun _ _ hq => ⟨_, hq.1, hq.2, rfl⟩)
     refine sA [_,_,_,_,_,_] ?_;refine aP (i := 15) (Is (.agg #[.bool (nR (o + y)).neg, .string (nR (o + y)).bA, .int .i64 (nR (o + y)).e])) Is.ext ?_ ?_
     ·intro ρ1 w1 hj hR;obtain ⟨A46, c46, h46, s46⟩ := hR.1;exact a7 rfl (aK al.out (aw h46 aW)) (hsum A46 c46 _ (hT.hp hj.hp) s46) (fun _ _ hq => ⟨_, hq.1, hq.2, rfl⟩)
     refine aT ?_;intro f W hJ hV;have hb_9 := hJ.bl;obtain ⟨v47, v46, v45, v44, v43, v42, v41, v40, v39, v38, v37, v36, v35, v34, v33, v32, _⟩ := hV;obtain ⟨A44, c44, e44, f44⟩ : Rows _ _ _ (f 12) W := v44;obtain ⟨A46, c46, e46, f46⟩ : Rows _ _ _ (f 14) W := v46;replace hh := hJ.hp;refine aY (br (ae v47 (ae e46 (ae v45 (ae e44 (ae v43 (ae v42 (ae v41 (ae v40 (ae v39 (ae v38 (ae v37 (ae v36 (ae v35 (ae v34 (ae v33 (ae v32 aX))))))))))))))))) ?_;dsimp only [cg];clear e44 e46 hJ;exact Ot
    ·exact Ob
  ·obtain rfl : i = n := Uz;rw [show ix d 1 1 xs i 0 = kL d (ej d 1 1) xs by rw [hn, xg]] at hh;exact PN
def Tx (w : World) (b i : Nat) : Int := match w.cell? ⟨b, 0, none⟩ with
 | some (.slice (some a) _ _) => match w.cell? (a.add (i * 1)) with
  | some (.int _ z) => z
  | _ => 0
 | _ => 0
structure RS (ns ts : List Nat) (xs : List Dyadic) (k n : Nat) (F FC : Option Addr) (c1 c2 i T : Nat) (cur : List Nat) (zs : List Dyadic) (A B : Option Addr) (ca cb : Nat) (R : List HE) (w : World) : Prop where
 T6 : Ug ns xs cur zs
 le : ∀ (j c t : Nat), cur[j]? = some c → ts[j]? = some t → c ≤ t
 eq : ∀ (j c t : Nat), j < i → cur[j]? = some c → ts[j]? = some t → c = t
 sz : ∀ x ∈ zs, Sz (k + T) x
 src : (A = F ∧ ca = c1 ∧ B = FC ∧ cb = c2 ∧ cur = ns ∧ zs = xs) ∨ R = [.row B (au cur) cb 65 3 (az NR.cells (zs.map nR)), .row A n ca 3 1 (bL (bI cur))]
 rd : ∀ (H : List HE) (w' : World), Hp w (H ++ R) w' → Sl w' A n 1 (bL (bI cur)) ∧ Sl w' B (au cur) 3 (az NR.cells (zs.map nR))
variable {w : World}
theorem FX.at_.ln {g : FX} (h : g.at_ w) : g.ds.length = g.n ∧ g.cs.length = g.m := ⟨by have := h.dg.1; rw [bO] at this; omega, h.nm.bq NR.len UA⟩
def Kept (fs : List FX) (R : List HE) (g : FX) : Prop := g ∈ fs ∨ (g.vO ∈ R ∧ g.uE ∈ R)
variable {E : Int}
def Rm (E : Int) (D : List Nat) : List Int := if E = 0 then bI D else []
def RA (E : Int) (ys : List Dyadic) : List NR := if E = 0 then ys.map nR else []
structure Out (E : Int) (D : List Nat) (ys : List Dyadic) (g : FX) : Prop where
 ds : g.ds = Rm E D
 cs : g.cs = RA E ys
 n : g.n ≤ 100000
 m : g.m ≤ 1000000
def FX.nil : FX := ⟨none, 0, 0, none, 0, 0, [], []⟩
theorem Hp.Rz {H : List HE} (h : Hp w0 H w) : Hp w0 (FX.nil.vO :: FX.nil.uE :: H) w := (h.cY 3 1).cY 65 3
theorem Out.err {D : List Nat} {ys : List Dyadic} (h : E ≠ 0) : Out E D ys FX.nil := ⟨by unfold Rm; rw [UE h]; rfl, by unfold RA; rw [UE h]; rfl, UI _, UI _⟩
theorem rV (g h : FX) (w : World) (hg : g.at_ w) (hh : h.at_ w) (e : g.ds = h.ds ∧ g.cs = h.cs) (hn : g.n ≤ 100000) (hm : g.m ≤ 1000000) :
  Calls Tryz.prog 23 #[.agg #[.slice g.A g.n g.a, .slice g.B g.m g.b], .agg #[.slice h.A h.n h.a, .slice h.B h.m h.b]] w fun r w' => r = .returned (.bool true) ∧ Below w.heap.size w w' := by
 have l1 := hg.ln;have l2 := hh.ln;obtain ⟨hg1, hg2⟩ := hg;obtain ⟨hh1, hh2⟩ := hh;have e1 : h.n = g.n := by rw [← l1.1, ← l2.1, e.1]
 have e2 : h.m = g.m := by rw [← l1.2, ← l2.2, e.2]
 rw [← e.1, e1] at hh1;rw [← e.2, e2] at hh2;rw [e1, e2];exact yv g.A g.B g.n g.a g.m g.b h.A h.B h.a h.b g.ds g.cs w hg1 hg2 hh1 hh2 hn hm
def Tn (f : FX) (es : List Int) : Int := if f.e ≠ 0 then f.e else T5 f.ds es
def FX.key (f : FX) : List Int × List NR × Nat := (f.ds, f.cs, f.n)
variable {M : List Nat} {N b base m : Nat} {P : Program} {R : Ending → World → Prop} {args : Array Operand} {assign body : Code} {ops : Array Oper} {pos : String} {vs : List Value} {w' : World} {α : Type} {ρ : Rf}
abbrev oH (D : Nat) : Deferred := { target := .collected D, args := #[] }
abbrev p9 (M : List Nat) : List HE := M.map fun D => .ob D (.deferred (some []))
theorem Kw {D : List Deferred} {a b : Act} (h : ew N D a ρ) (k : ew N D b ρ) : a = b := by
 obtain ⟨t, d⟩ := a;obtain ⟨t', d'⟩ := b;obtain ⟨h1, h2, h3⟩ := h;obtain ⟨k1, k2, k3⟩ := k;obtain rfl : d = d' := h1.trans k1.symm;congr 1;refine Array.ext (h2.trans k2.symm) fun i hi hi' => ?_;have e1 := h3 i;have e2 := k3 i;rw [VR, WZ hi] at e1;rw [VR, WZ hi'] at e2;exact e1.trans e2.symm
abbrev Kd := Exit → List Nat → Rf → World → Prop
structure WD (P : Program) (N : Nat) (c : Code) (Q : Kd) (ρ : Rf) (w : World) : Prop where
 out : ∀ (M : List Nat) a, ew N (M.map oH) a ρ → ∀ n, c.wpIn Fence.wide n P (fun e a' w' => ∃ M' ρ', ew N ((M' ++ M).map oH) a' ρ' ∧ Q e M' ρ' w') a w
def y3 (next : List Nat → Rf → World → Prop) (Q : Kd) : Kd
 | .normal, M, ρ, w => next M ρ w
 | e, M, ρ, w => Q e M ρ w
def uN (M : List Nat) (Q : Kd) : Kd := fun e M2 ρ w => Q e (M2 ++ M) ρ w
def KP (id : Nat) (Q : Kd) : Kd
 | .exit id', M, ρ, w => if id' = id then Q .normal M ρ w else Q (.exit id') M ρ w
 | e, M, ρ, w => Q e M ρ w
def Kz (Q : Kd) : Kq := fun e ρ w => Q e [] ρ w
section
variable {P : Program} {N : Nat} {Q : Kd} {ρ : Rf} {w : World}
theorem D5 {c : Code} (h : ∀ D, WC ⟨none, D, true⟩ P N c (Kz Q) ρ w) : WD P N c Q ρ w :=
 ⟨fun M a hf n => wpIn_mono ((h (M.map oH)).jM a hf n) fun e a' w' ⟨ρ', hf', hq⟩ => ⟨[], ρ', hf', hq⟩⟩
theorem xW {x y : Code} (h : WD P N x (y3 (fun M ρ w => WD P N y (uN M Q) ρ w) Q) ρ w) : WD P N (.seq x y) Q ρ w :=
 ⟨fun M a hf n => wpIn_seq (wpIn_mono (h.out M a hf n) fun e a' w' ⟨M', ρ', hf', hq⟩ => by
  cases e with
  | normal =>
   refine wpIn_mono ((hq : WD P N y (uN M' Q) ρ' w').out (M' ++ M) a' hf' n) fun e a2 w2 ⟨M2, ρ2, hf2, hq2⟩ => ?_;exact ⟨M2 ++ M', ρ2, by rw [Vt]; exact hf2, hq2⟩
  | _ => exact ⟨M', ρ', hf', hq⟩)⟩
theorem jJ {x y : Code} (h : ∀ D, WC ⟨none, D, true⟩ P N x (cD (fun ρ w => WD P N y Q ρ w) (Kz Q)) ρ w) : WD P N (.seq x y) Q ρ w :=
 xW (D5 fun D => (h D).mono fun e ρ w hq => by
  cases e with
  | normal =>
   show WD P N y (uN [] Q) ρ w;have e0 : uN [] Q = Q := by funext e M ρ w; unfold uN; rw [Vo]
   rw [e0];exact hq
  | _ => exact hq)
theorem uT {id : Nat} {c : Code} (h : WD P N c (KP id Q) ρ w) : WD P N (.block id c) Q ρ w :=
 ⟨fun M a hf n => wpIn_block (wpIn_mono (h.out M a hf n) fun e a' w' ⟨M', ρ', hf', hq⟩ => by
  cases e with
  | exit id' =>
   by_cases hid : id' = id
   ·simp only [KP, hid, if_true] at hq;simp only [Exit.inBlock, hid, if_true];exact ⟨M', ρ', hf', hq⟩
   ·simp only [KP, hid, if_false] at hq;simp only [Exit.inBlock, hid, if_false];exact ⟨M', ρ', hf', hq⟩
  | _ => exact ⟨M', ρ', hf', hq⟩)⟩
theorem Mm {c : Code} (I : List Nat → Rf → World → Prop) (μ : Rf → World → Nat) (h0 : I [] ρ w)
  (round : ∀ M ρ w, I M ρ w → WD P N c (fun e M2 ρ' w' => y3 (fun M2 ρ' w' => I M2 ρ' w' ∧ μ ρ' w' < μ ρ w) Q e (M2 ++ M) ρ' w') ρ w) : WD P N (.loop c) Q ρ w := by
 refine ⟨fun M0 a hf n => ?_⟩;refine wpIn_loop (fun a w => ∃ M ρ, ew N ((M ++ M0).map oH) a ρ ∧ I M ρ w) (fun a w => μ (fun i => a.tmps.getD i undef) w) ⟨[], ρ, hf, h0⟩ ?_;rintro a w ⟨M, ρ, hf, hi⟩;refine wpIn_mono ((round M ρ w hi).out (M ++ M0) a hf n) ?_;rintro e a' w' ⟨M', ρ', hf', hq⟩;rw [← Vt] at hf';have e1 : (fun i => a.tmps.getD i undef) = ρ := funext hf.at_;have e2 : (fun i => a'.tmps.getD i undef) = ρ' := funext hf'.at_
 cases e with
 | normal => exact ⟨⟨_, ρ', hf', hq.1⟩, by rw [e1, e2]; exact hq.2⟩
 | _ => exact ⟨_, ρ', hf', hq⟩
def OJ {α : Type} (Kp : World → World → Prop) (I : List α → World → Prop) (pre : List α) (x : α) (W : World) : Kq
 | .normal, _, W' => KeepsOthers W W' ∧ Kp W W' ∧ I (pre ++ [x]) W'
 | _, _, _ => False
def pO : Kq := fun _ _ _ => False
theorem wY {ps : Tmp} {v : Value} {a : Array Value} : ((#[ps] : Array Tmp).zip #[v]).foldl (fun t (p, v) => t.setIfInBounds p v) a = a.setIfInBounds ps v := by simp
theorem Iw {g : Operand} {p : Tmp} {gf : Nat} {lb : Array Value} (hp : p < N) (hg : ev ρ g = .func (.func gf) #[] lb) (eg : ∀ args w, (callFunc gf args).run P w = .ok (.enter gf args) w)
  {enc : α → Value} {Kp : World → World → Prop} {S : List α → Prop} {Nn : Nat} (hseq : ∀ n, SeqStopsK Fence.wide n P gf lb (fun x => #[enc x]) Kp S (fun _ => True) Nn w)
  (hKt : ∀ {A B C : World}, Kp A B → Kp B C → Kp A C) (hKb : ∀ (W : World) (l : Nat) (o o' : Obj), w.heap.size ≤ l → W.heap[l]? = some o → o.isCells = false → o.isWalk = false → Kp W (W.putObj l o'))
  (I : List α → World → Prop) (hI : OwnFrom w.heap.size I) (h0 : I [] w) (ρ1 : α → Rf) (hρ : ∀ x i, N ≤ i → ρ1 x i = ρ i)
  (hassign : ∀ l x W, WC ⟨some l, [], true⟩ P N assign (cD (fun ρ' W' => ρ' = ρ1 x ∧ W' = W) pO) (cI ρ p (enc x)) W)
  (hbody : ∀ l pre x W, I pre W → pre.length < Nn → WC ⟨some l, [], true⟩ P N body (OJ Kp I pre x W) (ρ1 x) W)
  (hdone : ∀ (D : Nat) (xs : List α) (W : World), w.heap.size ≤ D → S xs → I xs W → W.heap[D]? = some (.deferred (some [])) → Q .normal [D] ρ W) : WD P N (.rangeFunc g #[p] assign body) Q ρ w := by
 refine ⟨fun M a hf n => ?_⟩;have hfit : ∀ x, ew N [] { tmps := Array.ofFn fun i : Fin N => ρ1 x i, defers := [] } (ρ1 x) := fun x => by
  refine ⟨rfl, by simp, fun i => ?_⟩;rw [VR];by_cases hi : i < N
  ·rw [WZ (by simpa using hi)];simp
  ·rw [XL (by simp; omega), hρ x i Uz, ← hf.at_ i, VR, XL (by rw [hf.sz]; omega)]
 have main : (Code.rangeFunc g #[p] assign body).wpIn Fence.wide (n + 1) P (fun e a' w' => ∃ M' ρ', ew N ((M' ++ M).map oH) a' ρ' ∧ Q e M' ρ' w') a w := by
  refine wpIn_rangeFunc_ownF (F := Fence.wide) (n := n + 1) rfl Uz (gf := gf) (lb := lb) (by rw [hf.eval]; exact hg) trivial eg (hseq _) hKt hKb (Below.refl _ _) (fun _ => rfl) I (fun _ _ _ => False) hI
   (fun _ _ _ _ _ hs _ _ => hs) h0 (fun x => { tmps := Array.ofFn fun i : Fin N => ρ1 x i, defers := [] }) (fun l x W K hK => ?_) (fun l pre x W hi hl => ?_) (fun D xs W hD hS hi hW => ?_) (fun _ _ _ _ _ _ h _ => h.elim)
  ·refine wpIn_mono ((hassign l x W).jM _ ⟨rfl, ?_, fun i => ?_⟩ _) fun e a' w' ⟨ρ', hf', hq⟩ => ?_
   ·rw [wY];simp [hf.sz]
   ·rw [wY, ← (hf.put hp (enc x)).at_ i]
    rfl
   ·cases e with
    | normal =>
     obtain ⟨rfl, rfl⟩ := hq;rw [Kw hf' (hfit x)];exact hK
    | _ => exact hq.elim
  ·refine wpIn_mono ((hbody l pre x W hi hl).jM _ (hfit x) _) fun e a' w' ⟨ρ', hf', hq⟩ => ?_
   cases e with
   | normal => exact hq
   | _ => exact hq.elim
  ·exact ⟨[D], ρ, ⟨by rw [hf.nd]; rfl, hf.sz, hf.at_⟩, hdone D xs W hD hS hi hW⟩
 intro b k cs hro hb _;exact main b k cs hro hb (room_wide _)
end
def SB (P : Program) (fn : Func) (R : Ending → World → Prop) : Kd := fun e M ρ w =>
 (e = .normal ∨ e = .ret) ∧ ∀ tmps : Array Value, (∀ i, tmps.getD i undef = ρ i) → ∀ n, LeavesInM Fence.wide n P fn tmps R (M.map oH) .returning w
theorem Gu {f : FuncId} {fn : Func} {c : Code} {l : List Value}
  (hf : P.funcs[f]? = some fn) (hb : fn.body = some c) (hn : fn.ntmps = N) (ha : l.length ≤ N)
  (h : WD P N c (SB P fn R) (E1 l) w) : Calls P f l.toArray w R := by
 refine (callsIn_wide (n := 0)).1 (callsIn_of_wp_marks hf hb trivial ?_ rfl);refine wpIn_mono (h.out [] _ ⟨rfl, by simp [hn]; omega, fun i => ?_⟩ 0) ?_
 ·exact PC
 ·rintro e a w' ⟨M, ρ', hf', he, hl⟩;rw [Vo] at hf'
  rcases he with rfl | rfl
  ·show LeavesInM _ _ _ _ a.tmps _ a.defers _ _;rw [hf'.nd];exact hl _ hf'.at_ 0
  ·show LeavesInM _ _ _ _ a.tmps _ a.defers _ _;rw [hf'.nd];exact hl _ hf'.at_ 0
theorem B8 {f : FuncId} {fn : Func} {c : Code} {l : List Value}
  (hf : P.funcs[f]? = some fn) (hb : fn.body = some c) (hn : fn.ntmps = N) (ha : l.length ≤ N)
  (h : WC ⟨none, [], true⟩ P N c (nc P fn R) (E1 l) w) : Calls P f l.toArray w R := by
 refine (callsIn_wide (n := 0)).1 (callsIn_of_wp hf hb trivial ?_ rfl);refine wpIn_mono (h.jM _ ⟨rfl, by simp [hn]; omega, fun i => ?_⟩ 0) ?_
 ·exact PC
 ·rintro e a w' ⟨ρ', hf', he, v, hr, hR⟩
  rcases he with rfl | rfl
  ·exact ⟨hf'.nd, v, hr _ hf'.at_, hR⟩
  ·exact ⟨hf'.nd, v, hr _ hf'.at_, hR⟩
def HE.QX : HE → Bool
 | .ob _ _ => false
 | _ => true
theorem u5 {x : HE} (h : x.holds base w) (hc : x.QX = true) (hid : x.id = some b) : ∃ o, w.heap[b]? = some o ∧ o.isCells = true := by
 cases x with
 | blk b' t cs fz =>
  obtain rfl : b' = b := Vl hid;exact ⟨_, h.2.1, rfl⟩
 | row A n c t sz xs =>
  rcases h.2 with ⟨h1, _⟩ | ⟨g, cap, cur, h1, _, h3, _⟩
  ·injection h1 with e1
   subst e1
   cases hid
  ·injection h1 with e1
   subst e1;obtain rfl : g = b := Vl hid;exact ⟨_, h3, rfl⟩
 | ob _ _ => cases hc
theorem Hp.QM {H : List HE} (h : Hp w0 H w) (hc : ∀ x ∈ H, x.QX = true) {row : Option Nat} (hg : w.grownBy w' row) (hr : ∀ r, row = some r → w0.heap.size ≤ r ∧ ∃ o : Obj, w.heap[r]? = some o ∧ o.isCells = false) : Hp w0 H w' := by
 refine ⟨⟨hg.os.trans h.below.os, hg.tape.trans h.below.tape, hg.output.trans h.below.output, U1 h.size hg.size, fun k hk => ?_⟩, fun x hx => ?_, h.nd⟩
 ·refine (hg.block k (VN hk h.size) fun e => ?_).trans (h.below.block k hk);have := (hr k e.symm).1;omega
 ·refine oC (h.own x hx) fun b hid => hg.block b (dO (h.own x hx) hid).2 fun e => ?_;obtain ⟨o, h1, h2⟩ := u5 (h.own x hx) (hc x hx) hid;obtain ⟨_, o', h3, h4⟩ := hr b e.symm;rw [h1] at h3
  cases h3
  rw [h2] at h4
  cases h4
def Nl (base : Nat) (ids : List Nat) (w : World) (k : Nat) : Option HE := if base ≤ k ∧ ids.contains k = false then (w.heap[k]?).map fun o => .ob k o else none
def C2 (base : Nat) (ids : List Nat) (w : World) : List HE := (List.range w.heap.size).filterMap (Nl base ids w)
theorem sJ {ids : List Nat} {x : HE} (h : Nl base ids w k = some x) : ∃ o, x = .ob k o ∧ base ≤ k ∧ k ∉ ids ∧ w.heap[k]? = some o := by
 unfold Nl at h;split at h
 ·rename_i h1;obtain ⟨o, h2, h3⟩ := Wc.1 h;exact ⟨o, h3.symm, h1.1, by simpa using h1.2, h2⟩
 ·cases h
theorem Hp.LG {H : List HE} (h : Hp w0 H w) : Hp w0 (H ++ C2 w0.heap.size (H.filterMap HE.id) w) w := by
 refine ⟨h.below, fun x hx => ?_, ?_⟩
 ·rcases Vk.1 hx with hx | hx
  ·exact h.own x hx
  ·obtain ⟨k, _, hk⟩ := VF.1 hx;obtain ⟨o, rfl, h1, _, h3⟩ := sJ hk;exact ⟨h1, h3⟩
 ·rw [W7];refine XI.2 ⟨h.nd, ?_, fun a ha b hb e => ?_⟩
  ·unfold C2;rw [List.filterMap_filterMap];refine List.Pairwise.filterMap _ (fun a a' hne b hb b' hb' e => ?_) List.nodup_range;obtain ⟨x, hx, hx2⟩ := Option.bind_eq_some_iff.1 hb;obtain ⟨y, hy, hy2⟩ := Option.bind_eq_some_iff.1 hb';obtain ⟨o, rfl, _⟩ := sJ hx;obtain ⟨o', rfl, _⟩ := sJ hy;obtain rfl : a = b := Vl hx2;obtain rfl : a' = b' := Vl hy2;exact hne e
  ·obtain ⟨x, hx, hx2⟩ := VF.1 hb;obtain ⟨k, _, hk⟩ := VF.1 hx;obtain ⟨o, rfl, _, h2, _⟩ := sJ hk;obtain rfl : k = b := Vl hx2;exact h2 (e ▸ ha)
theorem pD {P : Program} {fn : Func} {tmps : Array Value} {R : Ending → World → Prop} {n : Nat} {w0 : World} {H : List HE} : ∀ (M : List Nat) (w : World), Hp w0 (p9 M ++ H) w → (∀ w2, Hp w0 H w2 → ∃ v, (results fn tmps).run P w2 = .ok v w2 ∧ R (.returned v) w2) →
  LeavesInM Fence.wide n P fn tmps R (M.map oH) .returning w
 | [], w, hh, h => h w hh
 | D :: M, w, hh, h => by
  have hD : w.heap[D]? = some (.deferred (some [])) := (hh.own _ UR).2;refine ⟨by simp, .inl ⟨D, w.putObj D (.deferred none), rfl, run_takeDeferred hD, pD M _ ?_ h⟩⟩;have hb := (hh.own _ UR).1;have h2 := hh.LY (i := 0) (x := .ob D (.deferred (some []))) (y := .ob D (.deferred none)) (w' := w.putObj D (.deferred none)) rfl (fun b e => .inl e) ?_ (fun b hlt hne => World.putObj_heap_other (fun e => hne (by rw [e]; rfl))) ⟨hb, ?_⟩
  ·exact h2.sub (Vs _ _)
  ·have hg := grownBy_putObj' w D (.deferred none);refine ⟨hg.os.trans hh.below.os, hg.tape.trans hh.below.tape, hg.output.trans hh.below.output, U1 hh.size hg.size, fun k hk => (hg.block k (VN hk hh.size) fun e => ?_).trans (hh.below.block k hk)⟩
   cases e
   omega
  ·exact World.putObj_heap_same (Xw.1 hD).1
theorem qV {fn : Func} {e : Exit} {H : List HE} {rs : List ResultVar} (hh : Hp w0 (p9 M ++ H) w) (he : e = .normal ∨ e = .ret) (hr : fn.results = rs.toArray)
  (h : ∀ w2, Hp w0 H w2 → gW P ρ w2 rs vs ∧ R (.returned (xm vs)) w2) : SB P fn R e M ρ w := by
 refine ⟨he, fun tmps ht n => pD M w hh fun w2 hh2 => ?_⟩;obtain ⟨h1, h2⟩ := h w2 hh2;obtain ⟨_, v, h3, h4⟩ := kH (e := e) he hr h1 h2;exact ⟨v, h3 tmps ht, h4⟩
theorem Lt {d : Option Nat} {ty : TypeId} {af : Array Edge} {g : Option (Nat × Bool)} {x : Operand} {ts : Array TypeId} {l : Nat} {fn : FuncId} {tmps : Array Value}
  (hx : ev ρ x = .func (.yield l) #[] #[]) (ha : xf ρ args.toList = vs) (hy : (Instr.yield l vs.toArray).run P w = .ok (.round l fn tmps assign body) w) : (execOp (ev ρ) ⟨d, .call ⟨.value x, args, ts⟩, ty, pos, af, g⟩).run P w = .ok (.round l fn tmps assign body) w := by
 have h2 : args.map (ev ρ) = vs.toArray := nB args ha;simp [execOp, resolve, Deferred.ofValue, hx, h2, invoke, callFunc, program, Sem.run, hy]
theorem Ku {Q : Kq} {rest : List Oper} {d : Nat} {ty : TypeId} {af : Array Edge} {x : Operand} {ts : Array TypeId} {l : Nat}
  (hx : ev ρ x = .func (.yield l) #[] #[]) (ha : xf ρ args.toList = vs) (hy : YieldAt Fence.wide m P l vs.toArray w R) (hN : d < N) (kk : ∀ e w', R e w' → ∃ v, e = .returned v ∧ WL ⟨none, [], true⟩ P N ops Q rest (cI ρ d v) w') :
  WL ⟨none, [], true⟩ P N ops Q (⟨some d, .call ⟨.value x, args, ts⟩, ty, pos, af, none⟩ :: rest) ρ w := by
 obtain ⟨fn, tmps, as_, bd, h1, h2⟩ := hy;refine ⟨fun h => (by cases h), fun a hf n => wpListIn_plain rfl fun K hK => ⟨fun _ _ => trivial, ?_⟩⟩;rw [hf.eval, kZ _ (Lt hx ha h1) (fun _ h => by cases h)];refine ⟨fun h => (by cases h), ?_⟩;refine ⟨trivial, fun c cs _ => ?_⟩;obtain ⟨e, w', hR, hs⟩ := h2.2 c cs (room_wide _);refine ⟨e, w', ?_, hs⟩;obtain ⟨v, rfl, hk⟩ := kk e w' hR;exact hK _ _ (hk.jM _ (hf.put hN v) n)
variable {W : World} {ad : Addr} {q : Nat}
theorem PO {d : Option Nat} {ty : TypeId} {af : Array Edge} {g : Option (Nat × Bool)} {t e : TypeId} {x lo hi mx : Operand} {l h sz : Nat} {k1 k2 k3 : IntKind} {m1 m2 m3 : Int}
  (ht : P.underlying t = some (.slice e)) (hsz : (P.info? e).map (·.size) = some sz) (hx : ev ρ x = .slice (some ad) n c) (hlo : ev ρ lo = .int k1 m1) (hhi : ev ρ hi = .int k2 m2) (hmx : ev ρ mx = .int k3 m3) (e1 : m1 = (l : Int)) (e2 : m2 = (h : Int)) (e3 : m3 = (q : Int))
  (h1 : l ≤ h) (h2 : h ≤ q) (h3 : q ≤ c) (h4 : l < q) : (execOp (ev ρ) ⟨d, .slice t x (some lo) (some hi) (some mx), ty, pos, af, g⟩).run P w = .ok (.value (.slice (some (ad.add (l * sz))) (h - l) (q - l))) w := by
 obtain ⟨i, hi1, hi2⟩ := Wc.1 hsz;subst e1 e2 e3 hi2;have a1 : (l : Int) ≤ h := Uz;have a2 : (h : Int) ≤ q := Uz;have a3 : (q : Int) ≤ c := Uz;have a4 : ¬ q = l := Uz;have a5 : ¬ q - l = 0 := Uz;simp [execOp, hx, Instr.sliceAt, Instr.slice, run_underlying ht, Instr.sliceBounds, Instr.sliceBound, asIntOf, hlo, hhi, hmx, h1, h2, h3, a4, a5, sizeOf, typeInfo, hi1]
theorem Bp (A : Option Addr) (n c K : Nat) (w : World) (hK : 1 ≤ K) :
  Calls Tryz.prog 126 #[.slice A n c, .int .i64 K] w fun r w' => ∃ b2 b3, r = .returned (.func (.func 192) #[] #[.pointer (some ⟨b2, 0, none⟩), .pointer (some ⟨b3, 0, none⟩)]) ∧ Hp w [.blk b3 3 [.int .i64 K] (0, 0), .blk b2 37 [.slice A n c] (0, 0)] w' := by
 have hh := Hp.start w;refine aj (N := 9) (l := [.slice A n c, .int .i64 K]) Tryz.func126 rfl rfl (by simp) ?_;refine sr ?_;refine cz hh [_] ?_;intro b2 w2 hh;refine cz hh [_] ?_;intro b3 w3 hh;refine j8 (by first | exact sY rfl | exact sZ rfl) UA ?_;refine aa (ah (sr ?_));refine bG hh 0 ?_;refine bh (aa (cF (ar (ai (sr ?_)))));exact RB
def AF (b2 b3 : Nat) (W W' : World) : Prop := W'.cell? ⟨b2, 0, none⟩ = W.cell? ⟨b2, 0, none⟩ ∧ W'.cell? ⟨b3, 0, none⟩ = W.cell? ⟨b3, 0, none⟩
theorem uL {W' : World} (h : Below W.heap.size W W') : W.grownBy W' none := ⟨h.os, h.tape, h.output, h.size, fun k hk _ => h.block k hk⟩
theorem L0 {b2 b3 : Nat} {A B C : World} (h : AF b2 b3 A B) (k : AF b2 b3 B C) : AF b2 b3 A C := ⟨k.1.trans h.1, k.2.trans h.2⟩
theorem LW {b2 b3 : Nat} (h2 : b2 < w.heap.size) (h3 : b3 < w.heap.size) (W : World) (l : Nat) (o o' : Obj) (hl : w.heap.size ≤ l) : AF b2 b3 W (W.putObj l o') :=
 ⟨World.cell?_of_block (World.putObj_heap_other (fun e => by simp at e; omega)), World.cell?_of_block (World.putObj_heap_other (fun e => by simp at e; omega))⟩
theorem GB (b2 b3 : Nat) (ad : Addr) (n c K m : Nat) (w : World) (h2 : w.cell? ⟨b2, 0, none⟩ = some (.slice (some ad) n c)) (h3 : w.cell? ⟨b3, 0, none⟩ = some (.int .i64 K)) (hn : n = m * K) (hK : 0 < K) (hc : n ≤ c) (hb : n ≤ 1000000) (hKb : K ≤ 1000000) :
  ∀ N1, SeqStopsK Fence.wide N1 Tryz.prog 192 #[.pointer (some ⟨b2, 0, none⟩), .pointer (some ⟨b3, 0, none⟩)] (fun j : Fin m => #[.slice (some (ad.add (j.val * K * 3))) K K]) (AF b2 b3) (fun xs => xs = List.finRange m) (fun _ => True) m w := by
 intro N1 l J Jx W hW hAb hAbx hY h0;refine callsIn_wide.2 ?_;show Calls _ _ #[.func (.yield l) #[] #[], .pointer (some ⟨b2, 0, none⟩), .pointer (some ⟨b3, 0, none⟩)] W _;have hAbd : ∀ xs W1 W2, J xs W1 → Below W1.heap.size W1 W2 → J xs W2 := fun xs W1 W2 h hb => hAb xs W1 W2 none h (uL hb) (fun r e => nomatch e);have c2 := cL hW h2;have c3 := cL hW h3;refine B8 (N := 31) (l := [.func (.yield l) #[] #[], .pointer (some ⟨b2, 0, none⟩), .pointer (some ⟨b3, 0, none⟩)]) Tryz.func192 rfl rfl (by simp) ?_;refine sr (aI (aa (aq ?_)));refine aR [4, 5, 6, 7, 8, 9, 10, 11, 12, 13, 14, 15, 16, 17, 18, 19, 20, 21, 22, 23, 24, 25, 26, 27, 28, 29, 30] 4
  (fun v w' => ∃ j : Nat, j ≤ m ∧ v = .int .i64 ((j * K : Nat) : Int) ∧ J ((List.finRange m).take j) w' ∧ w'.cell? ⟨b2, 0, none⟩ = some (.slice (some ad) n c) ∧ w'.cell? ⟨b3, 0, none⟩ = some (.int .i64 K))
  (fun v _ => n + 1 - (intOf v).toNat) ?_ ?_
 ·exact ⟨0, UI _, by rw [Xl]; rfl, h0, c2, c3⟩
 ·clear c2 c3 h0;rintro ρ' v w' ⟨j, hj, rfl, hJj, c2, c3⟩;have hh := Hp.start w';by_cases hlt : j < m
  ·have h5 : (j + 1) * K ≤ m * K := VG _ hlt;have h6 : (j + 1) * K = j * K + K := VO j K;refine ah (sr (mI ?_));refine bV aM.out rfl (c2) UA ?_;refine aJ ?_;refine wC ?_;refine PK ?_;refine aZ 5 [[(2, none)], [(1, none)], [(4, none)], [(14, some 1), (15, some 2)], [(16, some 3)]] [(4, 17), (3, 16), (2, 15), (1, 14), (0, 13)] hh mixed UB ?_;refine sM (fun _ hj => cL hj.bl c3) ?_;refine sM (fun _ hj => cL hj.bl c2) ?_;refine dP ?_;refine bz (i := 3) (fun ρ1 w1 hj hR => jy (l := (j * K)) bk.out aM.size (show ρ1 14 = Value.slice _ _ _ from hR.1) (show ρ1 15 = Value.int _ _ from hR.2.1) Uz Uz Uz) ?_;refine CE ?_;refine aT ?_;intro f W hJ hV;have hb_3 := hJ.bl;obtain ⟨v17, v16, v15, v14, v13, _⟩ := hV;replace hh := hJ.hp;refine aY (br (ae v17 (ae v16 (ae v15 (ae v14 (ae v13 aX)))))) ?_;dsimp only [cg];clear hJ;have hmin : (if ((n - j * K : Nat) : Int) < (K : Int) then ((n - j * K : Nat) : Int) else (K : Int)) = (K : Int) := UE Uz;refine wN rfl rfl UA ?_;rw [hmin];have c2' := cL hh.below c2;have c3' := cL hh.below c3;have hJ2 := hAbd _ _ _ hJj hh.below
   have hfr : (List.finRange m)[j]? = some ⟨j, hlt⟩ := by rw [VZ (by rw [XH]; exact hlt), List.getElem_finRange]; rfl
   have hy := hY ((List.finRange m).take j) ⟨j, hlt⟩ _ hJ2 (by rw [U6, XH]; omega);refine aI (aa (sr ?_));refine iL ?_;refine bV aM.out rfl (c2') UA ?_;refine mI (mI (mI ?_));refine bo (mI (mI ?_));refine bo ?_;refine aQ rfl rfl UA (PO bk.out aM.size (Fo rfl) rfl rfl rfl (l := j * K) (h := j * K + K) (q := j * K + K) rfl Uz Uz Uz Uz Uz Uz) ?_;have e28 : j * K + K - j * K = K := Uz;rw [e28];refine Ku rfl (aw (Fo rfl) aW) hy UA ?_;rintro e_ w29 (⟨rfl, hJ3, hk⟩ | ⟨rfl, hJx⟩)
   ·refine ⟨_, rfl, ?_⟩;have c2'' := hk.1.trans c2';have c3'' := hk.2.trans c3';refine fy ?_;refine uk ?_;refine bV aM.out rfl (c3'') UA ?_;refine bo (aI (aC (ai ?_)));refine ⟨⟨j + 1, hlt, ?_, by rw [ay hfr]; exact hJ3, c2'', c3''⟩, ?_, ?_⟩
    ·show Value.int _ (((j * K : Nat) : Int) + (K : Int)) = _;rw [h6]
     rfl
    ·show n + 1 - (((j * K : Nat) : Int) + (K : Int)).toNat < n + 1 - ((j * K : Nat) : Int).toNat;omega
    ·exact dQ
   ·refine ⟨_, rfl, ?_⟩;refine fy ?_;refine aa (cT (av (cf (aH (aH (cf ?_))))));refine QW (by first | exact .inr rfl | exact .inl rfl) rfl ?_;exact ⟨⟨_, rfl⟩, .inr ⟨_, trivial, hJx⟩⟩
  ·obtain rfl : j = m := Uz;refine ah (sr (mI ?_));refine bV aM.out rfl (c2) UA ?_;refine aJ ?_;refine bh (aa (cF (a9 (aE (aE (bC ?_))))));refine QW (by first | exact .inr rfl | exact .inl rfl) rfl ?_;rw [UQ (by rw [XH]; omega)] at hJj;exact ⟨⟨_, rfl⟩, .inl ⟨_, rfl, hJj⟩⟩
def Tr (base : Nat) (E : Int) (D : List Nat) (ys : List Dyadic) : VP := fun v W => ∃ (g : FX) (w1 : World), v = .agg #[.slice g.A g.n g.a, .slice g.B g.m g.b] ∧ Out E D ys g ∧ base ≤ w1.heap.size ∧ Hp w1 [g.vO, g.uE] W
def T1 (base : Nat) (E : Int) (D : List Nat) (ys : List Dyadic) : VP := fun v W => ∃ (g : FX) (w1 : World), v = .tuple #[.agg #[.slice g.A g.n g.a, .slice g.B g.m g.b], .int .i64 E] ∧ Out E D ys g ∧ base ≤ w1.heap.size ∧ Hp w1 [g.vO, g.uE] W
instance : aM Tryz.prog 122 1 false 8 [.nilFunc] := {}
theorem Gz {bs : List (Fin m)} {q : Fin m} (h : bs ++ [q] = (List.finRange m).take (bs ++ [q]).length) (hb : bs.length < m) : bs = (List.finRange m).take bs.length ∧ q.val = bs.length := by
 have hl : (bs ++ [q]).length = bs.length + 1 := by simp
 rw [hl] at h;have h1 := VJ (List.take bs.length) h;rw [List.take_left' rfl, List.take_take, VM Uz] at h1;have h2 : (bs ++ [q])[bs.length]? = ((List.finRange m).take (bs.length + 1))[bs.length]? := by rw [← h]
 rw [VW (UH _), Vw, Wq, UF Uz, show (List.finRange m)[bs.length]? = some ⟨bs.length, hb⟩ by rw [VZ (by rw [XH]; exact hb), List.getElem_finRange]; rfl] at h2;exact ⟨h1, VJ Fin.val (Vl h2)⟩
theorem FK {Q : Kd} {g : Operand} {p : Tmp} {gf : Nat} {lb : Array Value} (q : Nat) (hq : q < N) (hp : p < N) (hg : ev ρ g = .func (.func gf) #[] lb) (eg : ∀ args w, (callFunc gf args).run P w = .ok (.enter gf args) w)
  {enc : α → Value} {Kp : World → World → Prop} {S : List α → Prop} {Nn : Nat} (hseq : ∀ n, SeqStopsK Fence.wide n P gf lb (fun x => #[enc x]) Kp S (fun _ => True) Nn w)
  (hKt : ∀ {A B C : World}, Kp A B → Kp B C → Kp A C) (hKb : ∀ (W : World) (l : Nat) (o o' : Obj), w.heap.size ≤ l → W.heap[l]? = some o → o.isCells = false → o.isWalk = false → Kp W (W.putObj l o'))
  (I : List α → World → Prop) (hI : OwnFrom w.heap.size I) (h0 : I [] w)
  (hassign : ∀ l x W, WC ⟨some l, [], true⟩ P N assign (cD (fun ρ' W' => ρ' = cI (cI ρ p (enc x)) q (enc x) ∧ W' = W) pO) (cI ρ p (enc x)) W)
  (hbody : ∀ l pre x W, I pre W → pre.length < Nn → WC ⟨some l, [], true⟩ P N body (OJ Kp I pre x W) (cI (cI ρ p (enc x)) q (enc x)) W)
  (hdone : ∀ (D : Nat) (xs : List α) (W : World), w.heap.size ≤ D → S xs → I xs W → W.heap[D]? = some (.deferred (some [])) → Q .normal [D] ρ W) : WD P N (.rangeFunc g #[p] assign body) Q ρ w :=
 Iw hp hg eg hseq hKt hKb I hI h0 (fun x => cI (cI ρ p (enc x)) q (enc x)) (fun x i hi => by rw [bp _ (fun h => absurd hq (by rw [← h]; exact Nat.not_lt.2 hi)), bp _ (fun h => absurd hp (by rw [← h]; exact Nat.not_lt.2 hi))]) hassign hbody hdone
def TM (n m : Nat) (ds : List Int) (cs : List NR) : VP := fun v W => ∃ A a B b, v = .agg #[.slice A n a, .slice B m b] ∧ n ≤ a ∧ Sl W A n 1 (bL ds) ∧ Sl W B m 3 (az NR.cells cs)
theorem JJ.Nf {H : List HE} {t1 t2 : TypeId} {xs1 xs2 : List Value} {n1 c1 s1 n2 c2 s2 : Nat} {A1 A2 : Option Addr} (hJ : JJ w0 H w W) (hs : Hp w0 H w)
  (o1 : W.ownsRow w.heap.size t1 s1 (.slice A1 n1 c1) n1 xs1) (o2 : W.ownsRow w.heap.size t2 s2 (.slice A2 n2 c2) n2 xs2) (h12 : t1 ≠ t2) : Hp w0 (.row A1 n1 c1 t1 s1 xs1 :: .row A2 n2 c2 t2 s2 xs2 :: H) W := by
 have hL : Hp w [.row A1 n1 c1 t1 s1 xs1, .row A2 n2 c2 t2 s2 xs2] W := by
  refine ⟨hJ.bl, fun x hx => ?_, ?_⟩
  ·rcases UZ.1 hx with rfl | hx
   ·exact o1
   ·obtain rfl := U4.1 hx;exact o2
  ·rw [Wm];split
   ·exact N7
   ·rename_i b1 hb1;refine WM.2 ⟨fun hm => ?_, ?_⟩
    ·obtain ⟨y, hy, hyb⟩ := VF.1 hm;obtain rfl := U4.1 hy;exact Ld o1 o2 h12 b1 hb1 hyb
    ·exact N7
 exact hs.join hL
instance : aM Tryz.prog 122 1 false 8 [.nilFunc] := {}
def Tg (up : Bool) (s : Dyadic) (ns : List Nat) (a : Nat) (xs : List Dyadic) : List Dyadic := gR ns.reverse (ns.length - 1 - a) (if up then S5 (ns.getD a 0) s else S7 (ns.getD a 0) s) xs
def kY (fx : FX) (ax : Int) : Int := if fx.e ≠ 0 then fx.e else if ax < 0 ∨ (fx.n : Int) ≤ ax then 1 else 0
def TX (e : Int) : Ending := .returned (.tuple #[.agg #[.slice none 0 0, .slice none 0 0], .agg #[.slice none 0 0, .slice none 0 0], .int .i64 e])
def S4 (n : Nat) (h : Int) : Bool := decide (h < 0 ∨ (n : Int) ≤ h.tdiv 2)
def RU (ns : List Nat) (xs : List Dyadic) (h : Int) : List Dyadic := Tg (decide (h % 2 = 1)) (pf (-1)) ns (h / 2).toNat xs
def TG (ns : List Nat) (xs : List Dyadic) (hs : List Int) : List Dyadic := hs.foldl (RU ns) xs
def Tz (fx : FX) (hs : List Int) : Int := if fx.e ≠ 0 then fx.e else if hs.any (S4 fx.n) = true then 1 else 0
section
variable {P : Program} {N : Nat} {ops : Array Oper} {Q : Kq} {ρ : Rf} {w : World} {rest : List Oper} {d ty : Nat} {pos : String} {af : Array Edge}
theorem Tp (a : Int) : IntKind.i64.wrap (BitVec.ofInt IntKind.i64.bits a &&& BitVec.ofInt IntKind.i64.bits 1).toNat = a % 2 := by
 have h1 : (BitVec.ofInt IntKind.i64.bits a &&& BitVec.ofInt IntKind.i64.bits 1).toNat = (a % 2).toNat := by
  show (BitVec.ofInt 64 a &&& BitVec.ofInt 64 1).toNat = _;rw [BitVec.toNat_and, show (BitVec.ofInt 64 1).toNat = 2 ^ 1 - 1 by decide, Nat.and_two_pow_sub_one_eq_mod, BitVec.toNat_ofInt];omega
 rw [h1, ka Uz Uz];omega
theorem JB {t u : Nat} {x y : Operand} {a : Int} (hx : ev ρ x = .int .i64 a) (hy : ev ρ y = .int .i64 1) (hN : d < N) (kk : WL .plain P N ops Q rest (cI ρ d (.int .i64 (a % 2))) w) : WL .plain P N ops Q (⟨some d, .binOp .and t x y u, ty, pos, af, none⟩ :: rest) ρ w :=
 aQ rfl rfl hN (by rw [OY hx hy, Tp]) kk
end
def Uc (R : List HE) (g : FX) : Prop := R = [g.vO, g.uE] ∨ g.m = 0 ∧ R = [g.uE]
theorem Gf {fx : FX} {ax : Int} (h : kY fx ax = 0) : fx.e = 0 ∧ 0 ≤ ax ∧ ax < fx.n := by
 unfold kY at h;split at h
 ·rename_i h1; exact absurd h h1
 ·rename_i h1;split at h
  ·cases h
  ·omega
theorem C9 (fx : FX) (ax : Int) (k : Nat) (w : World) (hT : eb w) (hf : fx.at_ w) (hl : fx.kO k) :
  Calls Tryz.prog 144 #[.agg #[.slice fx.A fx.n fx.a, .slice fx.B fx.m fx.b], .int .i64 ax] w fun r w' => r = .returned (.int .i64 (kY fx ax)) ∧ Below w.heap.size w w' := by
 have hh := Hp.start w;have hck := fun w1 hT1 hb => yZ fx k w1 hT1 (hf.ext hb) hl;by_cases h0 : fx.e = 0
 ·by_cases h1 : ax < 0
  ·rw [show kY fx ax = 1 by unfold kY; rw [UE Uz, UF (.inl h1)]];refine DM ?_;refine sr ?_;refine cz hh [_,_] ?_;intro b2 w2 hh;refine aI (aa (ah (sr ?_)));refine cE hh 0 [_,_] ?_;refine eA ?_;intro w7 hh;refine aI (aa (sr (mI ?_)));refine xe ?_;refine bh (mB ?_);refine gS (gS (gS (gS (gS ?_))));refine fO ?_;exact C4
  ·by_cases h2 : (fx.n : Int) ≤ ax
   ·rw [show kY fx ax = 1 by unfold kY; rw [UE Uz, UF (.inr h2)]];refine DM ?_;refine sr ?_;refine cz hh [_,_] ?_;intro b2 w2 hh;refine aI (aa (ah (sr ?_)));refine cE hh 0 [_,_] ?_;refine eA ?_;intro w7 hh;refine aI (aa (sr (mI ?_)));refine xe ?_;refine bh (mB (gT (mI (gT (bH (gT ?_))))));refine bG hh 0 ?_;refine gT (aJ (gT ?_));refine dL ?_;refine eV ?_;exact C4
   ·rw [show kY fx ax = 0 by unfold kY; rw [UE Uz, UE Uz]];refine DM ?_;refine sr ?_;refine cz hh [_,_] ?_;intro b2 w2 hh;refine aI (aa (ah (sr ?_)));refine cE hh 0 [_,_] ?_;refine eA ?_;intro w7 hh;refine aI (aa (sr (mI ?_)));refine xe ?_;refine bh (mB (gT (mI (gT (bH (gT ?_))))));refine bG hh 0 ?_;refine gT (aJ (gT ?_));exact RF
 ·rw [show kY fx ax = fx.e by unfold kY; rw [UF h0]];refine DM ?_;exact Ny
theorem lM (A : Option Addr) (n c a d : Nat) (ns : List Nat) (w : World) (hS : Sl w A n 1 (bL (bI ns))) (hcap : n ≤ c) (hn : n ≤ 1000) (hd : ns[a]? = some d) (hlow : ∀ x ∈ ns, x ≤ 127) (hmax : au ns ≤ 4096) :
  Calls Tryz.prog 92 #[.slice A n c, .int .i64 a] w fun r w' => r = .returned (.agg #[.int .i64 ((d : Int) + 1), .int .i64 (au (ns.drop (a + 1)) : Nat)]) ∧ Below w.heap.size w w' := by
 have hh := Hp.start w;have hln : ns.length = n := by have := hS.1; simpa [bL, bI] using this
 have ha := (UW.1 hd).1;have hd127 := hlow d (UJ hd);have hgd := cu (jk hd);have hbk := hS.back (l := a + 1) (c := c) Uz hcap;have hds : (bL (bI ns)).drop ((a + 1) * 1) = bL (bI (ns.drop (a + 1))) := by
  rw [U3];unfold bL bI;rw [← Xr, ← Xr]
 rw [hds] at hbk;have hcd : gL 1 (bI (ns.drop (a + 1))) = (au (ns.drop (a + 1)) : Nat) := by
  have h1 := jE (ns.drop (a + 1)) 1 UA UA (fun x hx => hlow x (XR hx));have h2 : au (ns.drop (a + 1)) ≤ au ns := by
   have h3 : au ns = au (ns.take (a + 1)) * au (ns.drop (a + 1)) := by rw [← du, VA]
   rw [h3];exact Nat.le_mul_of_pos_left _ (cM _)
  rw [Wr, UF Uz] at h1;exact h1
 have hcnt := fun w1 hS1 => ez (if c = a + 1 then A else A.map (·.add ((a + 1) * 1))) (n - (a + 1)) (c - (a + 1)) (bI (ns.drop (a + 1))) w1 hS1 Uz;rw [hcd] at hcnt;obtain ⟨ad, rfl, srd⟩ := hS.at_ Uz;refine aj (N := 16) (l := [.slice (some ad) n c, .int .i64 a]) Tryz.func92 rfl rfl (by simp) ?_;refine sr ?_;refine bW hh ?_;intro b4 w4 hh;refine aa (ah ?_);refine aZ 10 [[(0, none)], [(1, none)], [(5, some 0), (6, some 1)], [(7, some 2)], [(8, some 3)], [(0, none)], [(1, none)], [(11, some 6)], [(10, some 5), (12, some 7)], [(13, some 8)]] [(9, 14), (8, 13), (7, 12), (6, 11), (5, 10), (4, 9), (3, 8), (2, 7), (1, 6), (0, 5)] hh mixed UB ?_;refine gC ?_;refine dP ?_;refine nM (a) ?_;refine sM (fun _ hj => (srd.ext hj.hp.below).ya hgd) ?_;refine sG ?_;refine gC ?_;refine dP ?_;refine sG ?_;refine bz (i := 8) (fun ρ1 w1 hj hR => jy (l := (a + 1)) bk.out aM.size (show ρ1 10 = Value.slice _ _ _ from hR.1) (show ρ1 12 = Value.int _ _ from hR.2.1) Uz Uz Uz) ?_;refine dC (fun _ hj => hcnt _ (hbk.ext hj.hp.below)) ?_;refine aT ?_;intro f W hJ hV;have hb_1 := hJ.bl;obtain ⟨v14, v13, v12, v11, v10, v9, v8, v7, v6, v5, _⟩ := hV;replace hh := hJ.hp;refine N3 ?_;dsimp only [cg];clear hJ
 refine gH [_,_] ?_;exact Oi
theorem Hv (A : List Nat) (d f i q : Nat) : cG A d f i q = cG A d f 0 q + i * au A := by
 unfold cG;rw [Vz, Vz, Nat.mul_zero, Vg i];omega
theorem mH (g : FuncId) [al Tryz.prog g] (A B : List Nat) (d L : Nat) (φ : List Dyadic → List Dyadic) (C : Option Addr) (n c k : Nat) (X : List Dyadic) (w : World) (hT : eb w) (hS : Sl w C n 3 (az NR.cells (X.map nR))) (hn : n = au (A ++ d :: B)) (hmax : n ≤ 4096) (hL : L ≤ d + 1) (hd : d ≤ 127) (hx : ∀ x ∈ X, Sz k x)
  (hg : ∀ (Y : List Dyadic) (D : Option Addr) (dc : Nat) (w1 : World), eb w1 → (∀ y ∈ Y, Sz k y) → Sl w1 D (d + 1) 3 (az NR.cells (Y.map nR)) → Calls Tryz.prog g #[.slice D (d + 1) dc] w1 fun r w' => ∃ E ec, r = .returned (.slice E L ec) ∧ Hp w1 [.row E L ec 65 3 (az NR.cells ((φ Y).map nR))] w')
  (hφ : ∀ Y : List Dyadic, Y.length = d + 1 → (φ Y).length = L) :
  Calls Tryz.prog 93 #[.agg #[.int .i64 ((d : Int) + 1), .int .i64 (au A : Nat)], .slice C n c, .func (.func g) #[] #[]] w fun r w' => ∃ E ec, r = .returned (.slice E n ec) ∧ Hp w [.row E n ec 65 3 (az NR.cells ((iT A d L φ X n 0).map nR))] w' := by
 have hh := Hp.start w;have hXl : X.length = n := by have := hS.bq NR.len UA; simpa using this
 have hap := cM A;have hap2 : au A ≤ n := by
  rw [hn, du];exact X8 _ (cM _)
 have hcl := fun w1 hb => yO C n c (X.map nR) w1 (hS.ext hb) Uz;refine aj (N := 67) (l := [.agg #[.int .i64 ((d : Int) + 1), .int .i64 (au A : Nat)], .slice C n c, .func (.func g) #[] #[]]) Tryz.func93 rfl rfl (by simp) ?_;refine sr ?_;refine cz hh [_,_] ?_;intro b3 w3 hh;refine aL (aa (sr (mL ?_)));refine aF (hcl _ hh.below) al.out rfl UA ?_;rintro e_ w14 ⟨A14, c14, rfl, hown_, hb_⟩;refine ⟨_, rfl, ?_⟩;replace hh := hh.aV (x := .row _ _ _ _ _ _) hb_ hown_;rw [show X.map nR = (iT A d L φ X 0 0).map nR by rw [F1]] at hh;clear hcl;refine rT ?_;refine aR [8, 9, 10, 11, 12, 17, 18, 19, 20, 21, 22, 23, 24, 25, 26, 27, 28, 29, 30, 31, 32, 33, 34, 35, 36, 37, 38, 39, 40, 41, 42, 43, 44, 45, 46, 47, 48, 49, 50, 51, 52, 53, 54, 55, 56, 57, 58, 59, 60, 61, 62, 63, 64, 65] 17
  (fun v w' => ∃ F : Nat, F ≤ n ∧ v = .int .i64 F ∧ Hp w [.row A14 n c14 65 3 (az NR.cells ((iT A d L φ X F 0).map nR)), .blk b3 119 [.int .i64 ((d : Int) + 1), .int .i64 (au A : Nat)] (0, 0)] w')
  (fun v _ => n - (intOf v).toNat) ?_ ?_
 ·exact ⟨0, UI _, rfl, hh⟩
 ·clear hh;rintro ρ' v w' ⟨F, hF, rfl, hh⟩;by_cases hlt : F < n
  ·have hcast : ((F : Int) / ((au A : Nat) : Int)) % ((d : Int) + 1) = ((F / au A % (d + 1) : Nat) : Int) := by norm_cast
   have hq0 : (0 : Int) ≤ (F : Int) / ((au A : Nat) : Int) := Int.ediv_nonneg Uz Uz;by_cases h0 : F / au A % (d + 1) = 0
   ·obtain ⟨u0, hfF⟩ : ∃ u0, u0 = F % au A := ⟨_, rfl⟩;obtain ⟨q, hqF⟩ : ∃ q, q = F / au A / (d + 1) := ⟨_, rfl⟩;have hf : u0 < au A := by rw [hfF]; exact Va _ hap
    have hFe : F = cG A d u0 0 q := by rw [hfF, hqF, ← h0, yN]
    have hq : q < au B := by
     rw [hqF, Wo, V5 (Nat.mul_pos hap Uz)];rw [hn, du, au] at hlt
     calc F < au A * ((d + 1) * au B) := hlt
      _ = au B * (au A * (d + 1)) := by rw [← VB, Vg]
    have hpl : ∀ i, i ≤ d → cG A d u0 i q < n := fun i hi => by rw [hn]; exact na hf hi hq
    have hpi : ∀ i, cG A d u0 i q = F + i * au A := fun i => by rw [hFe]; exact Hv A d u0 i q
    have hxl : (eY A d X u0 q).length = d + 1 := by simp [eY]
    have hxz : ∀ y ∈ eY A d X u0 q, Sz k y := fun y hy => by
     obtain ⟨i, hi, rfl⟩ := UY.1 hy;exact xz hx _
    obtain ⟨ad, hCA, hr⟩ := hS.at_ Uz;rw [hCA] at *;refine sr ?_;refine bh (aa (ah (cT (ar (ai (ah (aq (sr (mI (aI (aa (ah (ah ?_)))))))))))));refine Og ?_;refine dP ?_;refine ef ?_;refine gE 1 ?_;refine Pa ?_;refine ef ?_;refine gE 1 ?_;refine aT ?_;intro f W hJ hV;have hb_5 := hJ.bl;obtain ⟨v25, v24, v23, v22, v21, v20, _⟩ := hV;replace hh := hJ.hp;refine aY (br (ae v25 (ae v24 (ae v23 (ae v22 (ae v21 (ae v20 aX))))))) ?_;dsimp only [cg];clear hJ;refine so ?_;refine dk (aa (cF (ar (ai (sr (aL (aa (ah (sr (bH ?_))))))))));refine bG hh 1 ?_;refine mI (aa (aq ?_));replace hh := hh.cY 65 3;refine bK [9, 10, 30, 31, 32, 33, 34, 35, 36, 37, 38, 39, 40, 41, 42, 43, 44, 45] 9 30
     (fun a v w' => ∃ (i : Nat) (A' : Option Addr) (c' : Nat), i ≤ d + 1 ∧ v = .int .i64 i ∧ a = .slice A' i c' ∧ Hp w [.row A' i c' 65 3 (az NR.cells (((eY A d X u0 q).take i).map nR)), .row A14 n c14 65 3 (az NR.cells ((iT A d L φ X F 0).map nR)), .blk b3 119 [.int .i64 ((d : Int) + 1), .int .i64 (au A : Nat)] (0, 0)] w')
     (fun _ v _ => d + 1 - (intOf v).toNat) ?_ ?_
    ·exact ⟨0, none, 0, UI _, rfl, rfl, hh⟩
    ·clear hh;rintro ρ2 a_ v w2 ⟨i, A', c', hi, rfl, rfl, hh⟩;by_cases hil : i < d + 1
     ·obtain ⟨y, hy⟩ := ak (l := eY A d X u0 q) (k := i) Uz;have hyx : (X.map nR)[cG A d u0 i q]? = some (nR y) := by
       have h1 := hpl i Uz;unfold eY at hy;rw [UO, Vq hil] at hy;have h2 : (X[cG A d u0 i q]?).getD 0 = y := Vl hy;rw [UO, zU (show cG A d u0 i q < X.length by omega)];show some (nR (jB X _)) = _;unfold jB;rw [h2]
      have hpn := hpl i Uz;have hpq := hpi i;obtain ⟨m, hm⟩ : ∃ m, m = i * au A := ⟨_, rfl⟩;have hmi : (i : Int) * ((au A : Nat) : Int) = (m : Int) := by rw [hm]; exact (V2 _ _).symm
      rw [← hm] at hpq;refine sr ?_;refine bh (aa (ah (cT (ar (ai (ah (aq (sr (mI (aI (aa (ao (mL (mL (mI (mI (bH ?_)))))))))))))))));refine bG hh 2 ?_;refine mulC ?_;refine bo ?_;refine df (k := (cG A d u0 i q)) bk.out aM.size rfl rfl Uz Uz UA ?_;refine cw (vs := [_, _, _]) aM.out rfl ((hr.ext hh.below).recAt NR.len hyx) rfl UA ?_;refine sw ?_;intro b43 w43 hh;refine qi ?_;intro A44 c44 w44 hh;simp only [UU, Vp] at hh;replace hh := hh.sub (Vs _ _);refine kK ?_;refine bo (mI (aC (ai ?_)));have e1 : az NR.cells (((eY A d X u0 q).take i).map nR) ++ [.bool (nR y).neg, .string (nR y).bA, .int .i64 (nR y).e] = az NR.cells (((eY A d X u0 q).take (i + 1)).map nR) := by rw [ay hy, VC, bU, U9, VD, jv]; rfl
      rw [e1] at hh;refine ⟨⟨i + 1, A44, c44, Uz, rfl, rfl, hh⟩, by show d + 1 - (i + 1) < d + 1 - i; omega, ?_⟩;exact dQ
     ·obtain rfl : i = d + 1 := Uz;rw [UQ Uz] at hh;refine sr ?_;refine mM ?_;refine iL ?_;refine mL ?_;refine gy (hg (eY A d X u0 q) A' c' _ (hT.hp hh) hxz (hh.aA (i := 0) rfl)) al.out rfl rfl UA ?_;rintro e_ w48 ⟨E, ec, rfl, h4⟩;refine ⟨_, rfl, ?_⟩;replace hh := hh.join h4;clear h4;simp only [UP, UN] at hh;replace hh := hh.sub (UG _ (UL _ (UG _ (UG _ Ve))));have hφl := hφ (eY A d X u0 q) hxl;refine aJ (mI (aa (aq ?_)));refine aR [11, 12, 50, 51, 52, 53, 54, 55, 56, 57, 58, 59, 60, 61, 62, 63, 64] 50
       (fun v w' => ∃ j : Nat, j ≤ L ∧ v = .int .i64 j ∧ Hp w [.row E L ec 65 3 (az NR.cells ((φ (eY A d X u0 q)).map nR)), .row A14 n c14 65 3 (az NR.cells ((iT A d L φ X F j).map nR)), .blk b3 119 [.int .i64 ((d : Int) + 1), .int .i64 (au A : Nat)] (0, 0)] w')
       (fun v _ => L - (intOf v).toNat) ?_ ?_
      ·exact ⟨0, UI _, rfl, hh⟩
      ·clear hh;rintro ρ3 v w3 ⟨j, hj, rfl, hh⟩;by_cases hjl : j < L
       ·obtain ⟨y, hy⟩ := ak (l := φ (eY A d X u0 q)) (k := j) Uz;have hyn : ((φ (eY A d X u0 q)).map nR)[j]? = some (nR y) := by rw [UO, hy]; rfl
        have hpn := hpl j Uz;have hpq := hpi j;have hset := Kn (φ := φ) (X := X) (q := q) hf hjl (show j ≤ d by omega);rw [← hFe, show jB (φ (eY A d X u0 q)) j = y by unfold jB; rw [hy]; rfl] at hset;obtain ⟨m, hm⟩ : ∃ m, m = j * au A := ⟨_, rfl⟩;have hmi : (j : Int) * ((au A : Nat) : Int) = (m : Int) := by rw [hm]; exact (V2 _ _).symm
        rw [← hm] at hpq;have hll : ((iT A d L φ X F j).map nR).length = n := by rw [US, gI]; exact hXl
        generalize iT A d L φ X F j = S at *;generalize cG A d u0 j q = P at *;have hrl := eT NR.len (S.map nR);obtain ⟨gr, rfl⟩ := hh.cN (i := 0) rfl Uz;obtain ⟨go, rfl⟩ := hh.cN (i := 1) rfl Uz;refine sr ?_;refine eh ?_;refine k7 ?_;refine cw (vs := [_, _, _]) aM.out rfl (hh.iF (f := NR.cells) (x := nR y) (l := (φ (eY A d X u0 q)).map nR) (i := 0) rfl NR.len UA hyn) rfl UA ?_;refine bW hh ?_;intro b12 w12 hh;refine aI ?_;refine bX hh 0 [_,_,_] ?_;intro ws hh;replace hh : Hp _ (.blk _ _ [_, _, _] _ :: _) _ := hh;refine aa (ao (mL (mI (mI (bH ?_)))));refine bG hh 3 ?_;refine mulC ?_;refine bo ?_;refine cE hh 0 [_,_,_] ?_;refine cX (k := P) bk.out aM.size rfl rfl Uz Uz UA ?_;refine bQ hh (i := 2) (vs := [_, _, _]) rfl rfl (gU rfl) rfl aM.out rfl Uz rfl ?_;intro ws hh;simp only [UU, Vp] at hh;rw [show cm (az NR.cells (S.map nR)) (P * 3) [.bool (nR y).neg, .string (nR y).bA, .int .i64 (nR y).e] = az NR.cells ((S.map nR).set P (nR y)) from ju NR.len Uz, ← WT, hset] at hh;refine fV ?_;refine bo (mI (aC (ai ?_)))
        replace hh := hh.sub (UL _ (UG _ (UG _ (UG _ Ve))));refine ⟨⟨j + 1, Uz, rfl, hh⟩, by show L - (j + 1) < L - j; omega, ?_⟩;exact dQ
       ·rw [Gb (show L ≤ j by omega)] at hh;refine sr ?_;refine Bs ?_;refine bo (mI (aC (ai ?_)));replace hh := hh.sub (UL _ (UG _ (UG _ Ve)));refine ⟨⟨F + 1, Uz, rfl, hh⟩, by show n - (F + 1) < n - F; omega, ?_⟩;exact dQ
   ·rw [Hl h0] at hh;refine sr ?_;refine bh (aa (ah (cT (ar (ai (ah (aq (sr (mI (aI (aa (ah (ah ?_)))))))))))));refine Og ?_;refine dP ?_;refine ef ?_;refine gE 1 ?_;refine Pa ?_;refine ef ?_;refine gE 1 ?_;refine aT ?_;intro f W hJ hV;have hb_5 := hJ.bl;obtain ⟨v25, v24, v23, v22, v21, v20, _⟩ := hV;replace hh := hJ.hp;refine aY (br (ae v25 (ae v24 (ae v23 (ae v22 (ae v21 (ae v20 aX))))))) ?_;dsimp only [cg];clear hJ;refine so ?_;refine dk (aa (cT (a9 (aE (bC (ai (ao ?_)))))));refine bo (mI (aC (ai ?_)));refine ⟨⟨F + 1, Uz, rfl, hh⟩, by show n - (F + 1) < n - F; omega, ?_⟩;exact dQ
  ·obtain rfl : F = n := Uz;exact SF
def pJ (p : PX) (ds : List Int) : List Int := if ds.length = 0 then qO p.v p.ts else ds
def Lb (p : PX) (ds : List Int) : List Nat := (pJ p ds).map Int.toNat
def mv (p : PX) (b : List SR) (ds : List Int) : Int := if nT p b (pJ p ds) ≠ 0 then nT p b (pJ p ds) else (cV p (bj b)).1
theorem Me {ns : List Nat} {i d : Nat} (h : ns[i]? = some d) : ns.reverse = (ns.drop (i + 1)).reverse ++ d :: (ns.take i).reverse := by
 exact Rv
theorem P3 (ds : List Nat) : X0 ds (sE []) = List.replicate (au ds) 0 := uD _
theorem LD {i : Nat} {t : TR} (hl : ∀ t ∈ l, jD ds (cv t.m).reverse) (hr : td l) (ht : l[i]? = some t) : (X0 ds (sE (l.take i))).set (eW ds (cv t.m).reverse) t.c.d = X0 ds (sE (l.take (i + 1))) := by
 have hok := hl t (UJ ht);have hp := kG hok;have h0 : (X0 ds (sE (l.take i)))[eW ds (cv t.m).reverse]? = some 0 := by
  unfold X0;rw [nn _ hp];congr 1;unfold sE;rw [VE, tR];refine pF fun s hs => UE fun e => ?_;replace e : eW ds (cv s.m).reverse = eW ds (cv t.m).reverse := e;have e2 : (cv s.m).reverse = (cv t.m).reverse := by rw [← iB (hl s (WX hs)), e, iB hok]
  have e3 : s.m = t.m := zV (List.reverse_inj.1 e2);obtain ⟨j, hj⟩ := V6.1 hs;have hji : j < i := by have := (UW.1 hj).1; rw [U6] at this; omega
  rw [List.getElem?_take_of_lt hji] at hj;have h1 := (UW.1 hj);have h2 := (UW.1 ht);have h3 := List.pairwise_iff_getElem.1 hr j i h1.1 h2.1 hji;rw [h1.2, h2.2, e3, gZ] at h3
  cases h3
 have h1 := G8 (v := t.c.d) (show (nV (au ds) ((sE (l.take i)).map fun (q : List Nat × Dyadic) => (eW ds q.1, q.2)))[eW ds (cv t.m).reverse]? = some 0 from h0);rw [WH] at h1;show (nV (au ds) ((sE (l.take i)).map fun (q : List Nat × Dyadic) => (eW ds q.1, q.2))).set _ _ = _;rw [h1, ay ht];unfold X0 sE;rw [VC, VC]
 rfl
set_option maxRecDepth 10000 in
theorem qT (p : PX) (L : Option Addr) (n c : Nat) (b : List SR) (M : Option Addr) (m mc : Nat) (ds : List Int) (k : Nat) (w : World) (hT : eb w) (hp : p.at_ w) (lp : p.kO k) (hB : Sl w L n 6 (az SR.cells b)) (hb : ∀ s ∈ b, s.fin k) (hn : n ≤ 1000000) (hD : Sl w M m 1 (bL ds)) (hm : m ≤ 1000000) (hmc : m ≤ mc) (hk : k ≤ 1000)
  (hgr : nT p b (pJ p ds) = 0 → ff (k + k + 16394) (cS p.v p.ts) (k + 1) ≤ 440000) :
  Calls Tryz.prog 20 #[.agg #[.int .i64 p.v, .slice p.A p.n p.c], .slice L n c, .slice M m mc] w fun r w' => ∃ g : FX, Out (mv p b ds) (Lb p ds) (qb (Lb p ds) (cV p (bj b)).2) g ∧ r = .returned (.tuple #[.agg #[.slice g.A g.n g.a, .slice g.B g.m g.b], .int .i64 (mv p b ds)]) ∧ Hp w [g.vO, g.uE] w' := by
 have hh := Hp.start w;have hbl : b.length = n := hB.bq SR.len UA;have hdl : ds.length = m := by have := hD.1; rw [bO] at this; omega
 have hok : ∀ s ∈ b, s.ok := fun s hs => ⟨(hb s hs).1.ok, (hb s hs).2.ok⟩;have hDd : pJ p ds = if m = 0 then qO p.v p.ts else ds := by unfold pJ; rw [hdl]
 have hoN : Lb p ds = (pJ p ds).map Int.toNat := rfl;have hoE : mv p b ds = if nT p b (pJ p ds) ≠ 0 then nT p b (pJ p ds) else (cV p (bj b)).1 := rfl
 rw [hoN, hoE];clear hoN hoE;generalize pJ p ds = D at *;refine aj (N := 94) (l := [.agg #[.int .i64 p.v, .slice p.A p.n p.c], .slice L n c, .slice M m mc]) Tryz.func20 rfl rfl (by simp) ?_;refine sr ?_;refine cz hh [_,_] ?_;intro b3 w3 hh;refine bW hh ?_;intro b6 w6 hh;refine aI (aa ?_);refine Gd [2, 18, 19, 20, 21, 22] 2
  (fun v w' => ∃ (M2 : Option Addr) (m2 mc2 : Nat) (R : List HE), v = .slice M2 m2 mc2 ∧ m2 ≤ mc2 ∧ m2 ≤ 1000000 ∧ D.length = m2 ∧ (∀ (H : List HE) (w1 : World), Hp w (H ++ R) w1 → Sl w1 M2 m2 1 (bL D)) ∧ Hp w (.blk b6 39 [.slice none 0 0, .slice none 0 0] (0, 0) :: .blk b3 24 [.int .i64 p.v, .slice p.A p.n p.c] (0, 0) :: R) w') ?_ ?_
 ·by_cases hm0 : m = 0
  ·subst hm0;rw [UF rfl] at hDd;have hdg := fun w1 hT1 hb => mZ p k w1 hT1 (hp.ext hb) lp;rw [← hDd] at hdg;have hl4 : D.length ≤ 1000000 := by
    rw [hDd];exact Rn
   refine sr (mL (aJ ?_));refine cW (aa (cT (ao ?_)));refine cE hh 1 [_,_] ?_;refine aF (hdg _ (hT.hp hh) hh.below) al.out rfl UA ?_;rintro e_ w22 ⟨G, gc, rfl, h4⟩;refine ⟨_, rfl, ?_⟩;have hgc : D.length ≤ gc := h4.eM (i := 0) rfl;replace hh := hh.join h4;clear h4;simp only [UP, UN] at hh;refine aL (aa ?_);replace hh := hh.perm (VH (l₁ := [_, _]));simp only [UP, UN] at hh;replace hh := hh.perm (VH (l₁ := [_, _]));simp only [UP, UN] at hh;refine ⟨⟨G, D.length, gc, _, rfl, hgc, hl4, rfl, fun H w1 h1 => lT (h1.own (.row G D.length gc 3 1 (bL D)) (Wp _ UR)), hh⟩, ?_⟩;exact Nb
  ·rw [UE hm0] at hDd;refine sr (mL (aJ ?_));refine cW (aa (cF (ar (ai ?_))));refine ⟨⟨M, m, mc, [], rfl, hmc, hm, by rw [hDd]; exact hdl, fun H w1 h1 => by rw [hDd]; exact hD.ext h1.below, hh⟩, ?_⟩;exact Nb
 ·skip;clear hh hDd hdl hD hm hmc;rintro ρ' v w' ⟨M2, m2, mc2, R, rfl, hmc2, hm2, hDl, hrd, hh⟩;have hfi := fun w1 hT1 hb1 hd => tQ p L n c b M2 m2 mc2 D k w1 hT1 (hp.ext hb1) lp (hB.ext hb1) hok hn hd hm2;by_cases hE : nT p b D ≠ 0
  ·rw [UF hE];generalize nT p b D = E at *;refine ah (sr ?_);refine cE hh 1 [_,_] (mL (mL ?_));refine bD hh (hfi _ (hT.hp hh) hh.below (hrd [_, _] _ hh)) rfl ?_;intro w26 hh;exact Rr
  ·rw [UE hE];have hE0 : nT p b D = 0 := Uz;obtain ⟨hnat, hF⟩ := xS hE0;rw [hE0] at hfi;have hpe := hF.e;have hn0 := hF.pos;have hn12 := hF.l9;have hnl := hF.nl;have hlow := hF.low;have hmost := hF.most;have hgr2 := hgr hE0;obtain ⟨_, o2, o3⟩ := jI hpe;have hwi := fun w1 hT1 hb1 => xX p L n c b k (cS p.v p.ts) w1 hT1 (hp.ext hb1) lp (hB.ext hb1) hb (by rw [hF.v, hbl]) Uz Uz hk (by rw [hF.kD]; exact hbl) (fun i d hd => ⟨(o3 i d hd).1, (o3 i d hd).2.1⟩) hgr2;have hsp := rk hF lp.ok hb hk hgr2;clear hgr hgr2 o2 o3 hfi;have hfi := fun w1 hT1 hb1 hd => tQ p L n c b M2 m2 mc2 D k w1 hT1 (hp.ext hb1) lp (hB.ext hb1) hok hn hd hm2;rw [hE0] at hfi;clear hE hE0;have hcnt : gL 1 D = ((au (D.map Int.toNat) : Nat) : Int) := by
    have h8 := jE (D.map Int.toNat) 1 (UH _) UA hlow;rw [← hnat, Wr, UF hmost] at h8;exact h8
   have hco := fun w1 hd => ez M2 m2 mc2 D w1 hd hm2;rw [hcnt] at hco;have hcl := fun w1 hd => lR M2 m2 mc2 D w1 hd hm2;have hm2n : m2 = n := by rw [← hDl, ← hbl, ← hnl, US]
   generalize hns : D.map Int.toNat = ns at *;generalize (cV p (bj b)).1 = E at *;generalize (cV p (bj b)).2 = S at *;have hN0 := cM ns;refine ah (sr ?_);refine cE hh 1 [_,_] (mL (mL ?_));refine bD hh (hfi _ (hT.hp hh) hh.below (hrd [_, _] _ hh)) rfl ?_;intro w26 hh;refine aI (aa (sr (mI ?_)));refine wV ?_;refine cE hh 1 [_,_] (mL ?_);refine aF (hwi _ (hT.hp hh) hh.below) al.out rfl UA ?_;rintro e_ w34 ⟨q, oq, rfl, h4⟩;refine ⟨_, rfl, ?_⟩;replace hh := hh.join h4;clear h4;simp only [UP, UN] at hh;replace hh := show Hp w (.row q.A q.n q.c 96 4 (az TR.cells q.ts) :: _) _ from hh;by_cases hE2 : E ≠ 0
   ·refine mT ?_;refine dt ?_;refine dt ?_;refine bW hh ?_;intro b9 w9 hh;refine bX hh 0 [_,_] ?_;intro ws hh;replace hh : Hp _ (.blk _ _ [_, _] _ :: _) _ := hh;refine aI (aa (ah (sr (mI ?_))));refine dk (aa (cT (sr ?_)));refine gH [_,_] (mI ?_);refine bX hh 2 [_,_] ?_;intro ws hh;replace hh : Hp _ (_ :: _ :: .blk _ _ [_, _] _ :: _) _ := hh;refine aI (aa (av (aH ?_)));refine pw ?_;exact ⟨FX.nil, Out.err hE2, rfl, (hh.sub (VT _)).Rz⟩
   ·have hE0 : E = 0 := Uz;subst hE0;obtain ⟨hso, hsr⟩ := hsp rfl;have et : q.ts = S := oq.t0;rw [et] at hh;clear oq et;generalize q.v = qv at *;generalize q.A = qA at *;generalize q.n = qn at *;generalize q.c = qc at *;have hSl : S.length = qn := (hh.aA (i := 0) rfl).bq TR.len UA;have hSn := hso.len;obtain ⟨_, _, hSm, hSc⟩ := cd hso.e;refine mT ?_;refine dt ?_;refine dt ?_;refine bW hh ?_;intro b9 w9 hh;refine bX hh 0 [_,_] ?_;intro ws hh;replace hh : Hp _ (.blk _ _ [_, _] _ :: _) _ := hh;refine aI (aa (ah (sr (mI ?_))));refine dk (aa (cF (ar (ai (sr (mL ?_))))));refine aF (hcl _ (hrd [_, _, _, _] _ hh)) al.out rfl UA ?_;rintro e_ w42 ⟨A42, c42, rfl, hown_, hb_⟩;refine ⟨_, rfl, ?_⟩;replace hh := hh.aV (x := .row _ _ _ _ _ _) hb_ hown_;refine mL ?_;refine bD hh (hco _ (hrd [_, _, _, _, _] _ hh)) rfl ?_;intro w44 hh;refine gu (n := (au ns)) hh rfl rfl Uz Uz bk.out aM.out rfl Uz Uz UA ?_;intro b45 w45 hh;refine gH [_,_] ?_;refine bW hh ?_;intro b11 w11 hh;refine bX hh 0 [_,_] ?_;intro ws hh;replace hh : Hp _ (.blk _ _ [_, _] _ :: _) _ := hh;refine aa (ah (sr (bH ?_)));refine bG hh 3 ?_;refine aJ (mI (aa (aq ?_)));rw [nF, ← cx ns, ← P3 ns.reverse, cx] at hh
    refine aR [13, 14, 15, 16, 50, 51, 52, 53, 54, 55, 56, 57, 58, 59, 60, 61, 62, 63, 64, 65, 66, 67, 68, 69, 70, 71, 72, 73, 74, 75, 76, 77, 78, 79] 50
     (fun v w' => ∃ i : Nat, i ≤ qn ∧ v = .int .i64 i ∧ Hp w (.blk b11 39 [.slice A42 m2 c42, .slice (some ⟨b45, 0, none⟩) (au ns) (au ns)] (0, 0) :: .row (some ⟨b45, 0, none⟩) (au ns) (au ns) 65 3 (az NR.cells ((X0 ns.reverse (sE (S.take i))).map nR)) :: .row A42 m2 c42 3 1 (bL D) :: .blk b9 24 [.int .i64 qv, .slice qA qn qc] (0, 0) :: .row qA qn qc 96 4 (az TR.cells S) :: .blk b6 39 [.slice none 0 0, .slice none 0 0] (0, 0) :: .blk b3 24 [.int .i64 p.v, .slice p.A p.n p.c] (0, 0) :: R) w')
     (fun v _ => qn - (intOf v).toNat) ?_ ?_
    ·exact ⟨0, UI _, rfl, hh⟩
    ·clear hh;rintro ρ2 v w2 ⟨i, hi, rfl, hh⟩;by_cases hlt : i < qn
     ·obtain ⟨x, hx⟩ := ak (l := S) (k := i) Uz;have hxm := UJ hx;have hxo := hsr x hxm;have hx2 := hSm x hxm;unfold dY at hx2;rw [UX, U2] at hx2;have hxs : x.m.size = n := Uz;have hxz := hso.sz x hxm;have hxc : x.c = nR x.c.d := hSc.nf x hxm;have hex : iz x.m.data.toList = bI (cv x.m) := by rw [jV hx2.1, lJ]
      have hesl : (cv x.m).length = n := by rw [mQ]; exact hxs
      have hel : (iz x.m.data.toList).length = n := by rw [hex, fR]; exact hesl
      have hset := LD hsr hSc.sv hx;have hX0l : ((X0 ns.reverse (sE (S.take i))).map nR).length = au ns := by rw [US]; unfold X0; rw [lh, cx]
      have hcell : az TR.cells S = az TR.cells S := rfl;have hokat : ∀ (j d r : Nat), ns[j]? = some d → (cv x.m)[j]? = some r → r ≤ d := fun j d r hd hr => by
       have hj := (UW.1 hd).1;refine ((km _ _).1 hxo).2 (n - 1 - j) d r ?_ ?_
       ·rw [Ww Uz, show ns.length - 1 - (n - 1 - j) = j by omega]; exact hd
       ·rw [Ww Uz, show (cv x.m).length - 1 - (n - 1 - j) = j by omega]; exact hr
      obtain ⟨gq, rfl⟩ := hh.cN (i := 4) rfl Uz;refine sr ?_;refine dH ?_;refine gD ?_;refine cw (vs := [_, _, _, _]) aM.out rfl (hh.iF (f := TR.cells) (x := x) (l := S) (i := 4) rfl TR.len UA hx) rfl UA ?_;refine bW hh ?_;intro b13 w13 hh;refine bX hh 0 [_,_,_,_] ?_;intro ws hh;replace hh : Hp _ (.blk _ _ [_, _, _, _] _ :: _) _ := hh;refine aa (sr (aI (aa (ah (sr (bH ?_))))));refine bG hh 0 ?_;refine aF (gQ x.m _ hxz) al.out rfl UA ?_;rintro e_ w56 ⟨A56, c56, rfl, hown_, hb_⟩;refine ⟨_, rfl, ?_⟩;replace hh := hh.aV (x := .row _ _ _ _ _ _) hb_ hown_;rw [hel, hex] at hh;rw [hel];refine aJ (mI (aa (aq ?_)));refine bK [14, 15, 16, 58, 59, 60, 61, 62, 63, 64, 65, 66, 67, 68, 69, 70, 71, 72] 14 58
       (fun a v w' => ∃ (j z : Nat), j ≤ n ∧ v = .int .i64 j ∧ a = .int .i64 z ∧ z = eW (ns.take j).reverse ((cv x.m).take j).reverse ∧ z < au (ns.take j) ∧ Hp w (.row A56 n c56 3 1 (bL (bI (cv x.m))) :: .blk b13 96 [.string x.m, .bool x.c.neg, .string x.c.bA, .int .i64 x.c.e] (0, 0) :: .blk b11 39 [.slice A42 m2 c42, .slice (some ⟨b45, 0, none⟩) (au ns) (au ns)] (0, 0) :: .row (some ⟨b45, 0, none⟩) (au ns) (au ns) 65 3 (az NR.cells ((X0 ns.reverse (sE (S.take i))).map nR)) :: .row A42 m2 c42 3 1 (bL D) :: .blk b9 24 [.int .i64 qv, .slice (some ⟨gq, 0, none⟩) qn qc] (0, 0) :: .row (some ⟨gq, 0, none⟩) qn qc 96 4 (az TR.cells S) :: .blk b6 39 [.slice none 0 0, .slice none 0 0] (0, 0) :: .blk b3 24 [.int .i64 p.v, .slice p.A p.n p.c] (0, 0) :: R) w')
       (fun _ v _ => n - (intOf v).toNat) ?_ ?_
      ·exact ⟨0, 0, UI _, rfl, rfl, rfl, Nat.one_pos, hh⟩
      ·clear hh;rintro ρ3 a_ v w3 ⟨j, z, hj, rfl, rfl, hz, hz2, hh⟩;by_cases hjn : j < n
       ·obtain ⟨d, hd⟩ := ak (l := ns) (k := j) Uz;obtain ⟨r, hr⟩ := ak (l := cv x.m) (k := j) Uz;have hrd2 := hokat j d r hd hr;have hd7 := hlow d (UJ hd);have hgD : (bL D)[j]? = some (.int .i64 (d : Int)) := by rw [hnat]; exact cu (jk hd)
        have hgE := cu (jk hr);have hst := Ke hd hr;have hcs := Kj hd;rw [cx, cx] at hcs;rw [← hz] at hst;have hct := jn ns (j + 1);have hnew : r + (d + 1) * z < (d + 1) * au (ns.take j) := by
         have : (d + 1) * (z + 1) ≤ (d + 1) * au (ns.take j) := Vm _ hz2;rw [Wf] at this;omega
        have hpr : (z : Int) * ((d : Int) + 1) = (((d + 1) * z : Nat) : Int) := by rw [Vg, V2, WE]; rfl
        have hDs := hrd [_, _, _, _, _, _, _, _, _] _ hh;obtain ⟨ad, hMe, hsr2⟩ := hDs.at_ Uz;have gO : Value.slice M2 m2 mc2 = .slice (some ad) m2 mc2 := by rw [hMe]
        have hel2 : (bL (bI (cv x.m))).length = n := by rw [bO, fR]; exact hesl
        obtain ⟨gx, rfl⟩ := hh.cN (i := 0) rfl Uz;refine sr ?_;refine eh ?_;refine k7 ?_;refine jA ?_;refine aI (aI (aa (ao (mI (mL (mI ?_))))));refine df (k := j) bk.out aM.size gO rfl Uz Uz UA ?_;refine bV aM.out rfl (hsr2.ya hgD) UA ?_;refine bo ?_;refine mulC (mI ?_);refine bo (aI (aC (bE (ai (ao ?_)))));refine bo (mI (aC (ai ?_)));rw [hpr];refine ⟨⟨j + 1, r + (d + 1) * z, Uz, rfl, ?_, hst.symm, Uz, hh⟩, by show n - (j + 1) < n - j; omega, ?_⟩
        ·show Value.int IntKind.i64 ((((d + 1) * z : Nat) : Int) + (r : Int)) = _;rw [show (((d + 1) * z : Nat) : Int) + (r : Int) = ((r + (d + 1) * z : Nat) : Int) by omega]
        ·exact dQ
       ·obtain rfl : j = n := Uz;rw [UQ Uz, UQ Uz] at hz;rw [UQ Uz] at hz2;rw [← hz] at hset;generalize X0 ns.reverse (sE (S.take i)) = X at *;have hrl := eT NR.len (X.map nR);refine sr ?_;refine bh (aa (ah (cF (a9 (aE (aE (bC (ai (ao (bH ?_))))))))));refine bG hh 2 ?_;refine mI (bH ?_);refine cE hh 1 [_,_,_] ?_;refine cX (k := z) bk.out aM.size rfl rfl Uz Uz UA ?_;refine bQ hh (i := 3) (vs := [_, _, _]) rfl rfl (gU rfl) rfl aM.out rfl Uz rfl ?_;intro ws hh;simp only [UU, Vp] at hh;rw [hxc, show cm (az NR.cells (X.map nR)) (z * 3) [.bool (nR x.c.d).neg, .string (nR x.c.d).bA, .int .i64 (nR x.c.d).e] = az NR.cells ((X.map nR).set z (nR x.c.d)) from ju NR.len Uz, ← WT, hset] at hh;refine fV ?_;refine bo (mI (aC (ai ?_)));replace hh := hh.sub (UL _ (UL _ (UG _ (UG _ (UG _ (UG _ (UG _ (UG _ (UG _ (VX _))))))))));refine ⟨⟨i + 1, Uz, rfl, hh⟩, by show qn - (i + 1) < qn - i; omega, ?_⟩;exact dQ
     ·obtain rfl : i = qn := Uz;rw [UQ Uz, show X0 ns.reverse (sE S) = pk ns.reverse (sE S) 0 from rfl] at hh;have hoff := zO hsr;have hXz := C3 (O9 (ds := ns.reverse) hso.ok) (fun d hd => hlow d (Xb.1 hd));have hnr : ns.reverse.length = n := by rw [Vn]; omega
      refine sr ?_;refine bh (aa (ah (cF (a9 (aE (aE (bC (ai (ah (sr (mL (aJ (mI (aa (aq ?_)))))))))))))));replace hh := hh.sub (UG _ (UG _ (UG _ (UL _ (UL _ (UG _ (UG _ (VX _))))))));refine aR [17, 82, 83, 84, 85, 86, 87, 88, 89, 90, 91, 92] 82
       (fun v w' => ∃ (j : Nat) (A : Option Addr) (ac : Nat), j ≤ n ∧ v = .int .i64 j ∧ Hp w (.blk b11 39 [.slice A42 m2 c42, .slice A (au ns) ac] (0, 0) :: .row A (au ns) ac 65 3 (az NR.cells ((pk ns.reverse (sE S) j).map nR)) :: .row A42 m2 c42 3 1 (bL D) :: .blk b6 39 [.slice none 0 0, .slice none 0 0] (0, 0) :: .blk b3 24 [.int .i64 p.v, .slice p.A p.n p.c] (0, 0) :: R) w')
       (fun v _ => n - (intOf v).toNat) ?_ ?_
      ·exact ⟨0, _, _, UI _, rfl, hh⟩
      ·clear hh;rintro ρ4 v w4 ⟨j, A, ac, hj, rfl, hh⟩;by_cases hjn : j < n
       ·obtain ⟨d, hd⟩ := ak (l := ns) (k := j) Uz;have hd7 := hlow d (UJ hd);have hrm := Me hd;have hol : (pk ns.reverse (sE S) j).length = au ns := by rw [B1, cx]
        have hof := fun w1 hs => lM M2 m2 mc2 j d ns w1 (by rw [← hnat]; exact hs) hmc2 Uz hd hlow hmost;have hcn : au ns = au ((ns.drop (j + 1)).reverse ++ d :: (ns.take j).reverse) := by rw [← hrm, cx]
        have hli := fun w1 hT1 hS1 => mH 94 (ns.drop (j + 1)).reverse (ns.take j).reverse d (d + 1) (kL d (ej d 1 1)) A (au ns) ac (440000 + S.length + 520 * j) (pk ns.reverse (sE S) j) w1 hT1 hS1 hcn hmost (UH _) hd7 (hXz j) (fun Y E ec w2 hT2 hy hs => yX E (d + 1) ec d Y _ w2 hT2 hs rfl hd7 hy Uz) (fun Y _ => by simp [kL]);have hM := Jm (M := ej d 1 1) (A := (ns.drop (j + 1)).reverse) (B := (ns.take j).reverse) (X := pk ns.reverse (sE S) j) (hol.trans hcn);have hsu := qF ns.reverse (sE S) j;have hgd : ns.reverse.getD (ns.reverse.length - 1 - j) 0 = d := by
         rw [VQ, Ww Uz, show ns.length - 1 - (ns.reverse.length - 1 - j) = j by omega, hd]
         rfl
        rw [hgd, show ns.reverse.length - 1 - j = (ns.drop (j + 1)).reverse.length by rw [Vn, Vn, VY]; omega] at hsu;rw [hol, ← hrm, ← hsu] at hM;rw [hM, cx] at hli;clear hM hsu hgd hcn;refine sr ?_;refine bh (aa (ah (cT (ar (ai (ah (aq (sr (mI (aI (aa ?_)))))))))));refine aZ 5 [[(2, none)], [(17, none)], [(85, some 0), (86, some 1)], [(11, none)], [(88, some 3)]] [(4, 89), (3, 88), (2, 87), (1, 86), (0, 85)] hh mixed UB ?_;refine gC ?_;refine dP ?_;refine dC (fun _ hj => hof _ (hrd [_, _, _, _, _] _ hj.hp)) ?_;refine ef ?_;refine gE 0 ?_;refine aT ?_;intro f W hJ hV;have hb_24 := hJ.bl;obtain ⟨v89, v88, v87, v86, v85, _⟩ := hV;replace hh := hJ.hp;refine aY (br (ae v89 (ae v88 (ae v87 (ae v86 (ae v85 aX)))))) ?_;dsimp only [cg];clear hJ;refine aF (hli _ (hT.hp hh) (hh.aA (i := 1) rfl)) al.out rfl UA ?_;rintro e_ w90 ⟨E, ec, rfl, h4⟩;refine ⟨_, rfl, ?_⟩;replace hh := hh.join h4;clear h4;simp only [UP, UN] at hh;refine bH ?_;refine bX hh 1 [_] ?_;intro ws hh;replace hh : Hp _ (_ :: .blk _ _ [_, _] _ :: _) _ := hh;refine fV ?_;refine bo (mI (aC (ai ?_)))
        replace hh := hh.sub (UG _ (UG _ (UL _ (UG _ (UG _ (UG _ (VX _)))))));replace hh := hh.perm (VH (l₁ := [_]));simp only [UP, UN] at hh;refine ⟨⟨j + 1, E, ec, Uz, rfl, hh⟩, by show n - (j + 1) < n - j; omega, ?_⟩;exact dQ
       ·obtain rfl : j = n := Uz;rw [hnl, hbl] at hoff;rw [hoff] at hh;refine sr ?_;refine mM ?_;refine cE hh 0 [_,_] ?_;refine bX hh 3 [_,_] ?_;intro ws hh;replace hh : Hp _ (_ :: _ :: _ :: .blk _ _ [_, _] _ :: _) _ := hh;refine aI (aa (av ?_));refine HZ ?_;exact ⟨⟨A42, m2, c42, A, au ns, ac, D, (qb ns S).map nR⟩, ⟨hnat, rfl, by show m2 ≤ 100000; omega, by show au ns ≤ 1000000; omega⟩, rfl, hh.sub (.cons _ (.cons_cons _ (.cons_cons _ (VT _))))⟩
def vM (a : NR) : Bool := decide ((8 : Int) < a.bA.size ∨ a.e < -60 ∨ 60 < a.e)
theorem PF {a : NR} (h : vM a = false) : a.ok ∧ Sz 124 a.d := by
 have h' := of_decide_eq_false h;have h1 : (a.bA.size : Int) ≤ 8 := Uz;have h2 : -60 ≤ a.e := Uz;have h3 : a.e ≤ 60 := Uz;exact ⟨⟨Uz, Uz, Uz⟩, Sz.raw (m := 64) (E := 60) Uz h2 h3⟩
def FX.small (f : FX) : Prop := f.kO 124 ∧ f.m ≤ 60 ∧ f.n ≤ 20
abbrev Uw (l : List Int) (A : Option Addr) (a : Nat) (B : Option Addr) (b : Nat) : FX := ⟨A, 1, a, B, l.length, b, [(l.length : Int) - 1], l.map fun z : Int => nR (z : Dyadic)⟩
def wz (ds : List Int) (cs : List NR) : VP := fun v W => ∃ g : FX, v = .agg #[.slice g.A g.n g.a, .slice g.B g.m g.b] ∧ g.ds = ds ∧ g.cs = cs ∧ g.at_ W
theorem wz.ext {ds : List Int} {cs : List NR} (v : Value) (w w' : World) (h : wz ds cs v w) (hb : Below w.heap.size w w') : wz ds cs v w' := let ⟨g, h1, h2, h3, h4⟩ := h; ⟨g, h1, h2, h3, h4.ext hb⟩
variable {K : Value → World → Prop} {ag : Bool} {by' : Nat} {cs zc : List Value} {parts : Array (Nat × Operand)} {ps : List (Nat × Value)} {z : Int}
section
variable {P : Program} {ρ : Rf} {w : World}
theorem Qv {d : Option Nat} {ty : TypeId} {af : Array Edge} {t e : TypeId} {len sz : Nat} (ht : P.underlying t = some (.slice e)) (hte : dr P e = some (sz, ag, by', zc))
  (hp : xn ρ parts.toList = ps) (hzl : zc.length = sz) (hf : ky (fun i => some (i * sz, sz)) (fM len zc) ps = some cs) (h0 : ¬ len * sz = 0) (hsl : len * sz ≤ 16777216) (hl : cs.length = len * sz) (hn : len ≤ 1000000) (hbs : base ≤ w.heap.size)
  (hk : ∀ v w2, vx base e len sz cs v w2 → Below w.heap.size w w2 → K v w2) : OG P ops ⟨d, .buildSlice t len parts, ty, pos, af, none⟩ ρ w K := by
 obtain ⟨z, hz, hzc⟩ := dF (w := w) hte;have hbl : Below w.heap.size w (w.alloc (.cells cs.toArray e)) := (Below.refl _ _).alloc (UH _) _;refine fi rfl (w' := w.alloc (.cells cs.toArray e)) (v := .slice (some ⟨w.heap.size, 0, none⟩) len len) ?_ (hk _ _ ⟨_, _, rfl, hl, .inr ⟨w.heap.size, len, cs.toArray, rfl, hbs, heap_alloc_new w _, UH _, by unfold maxLen; omega, by simpa using hl, by rw [← hl]; simp⟩⟩ hbl);exact Ql
end
def eB (z : Int) : NR := nR (z : Dyadic)
def kf (l : List Int) : List SR := l.map fun z => ⟨nR 0, eB z⟩
theorem pQ (h : z.natAbs < 256) : (eB z).ok ∧ Sz 24 (eB z).d := by
 have z1 : Sz 24 ((z : Int) : Dyadic) := Gk (m := z) (e := 0) h UA UA;exact ⟨z1.ok UA, by unfold eB; rw [bY]; exact z1⟩
theorem l3 (l : List Int) (A : Option Addr) (n c : Nat) (w : World) (hS : Sl w A n 1 (bL l)) (hl : ∀ z ∈ l, z.natAbs < 256) (hn : n ≤ 1000) :
  Calls Tryz.prog 104 #[.slice A n c] w fun r w' => ∃ B c', r = .returned (.slice B n c') ∧ Hp w [.row B n c' 65 3 (az NR.cells (l.map eB))] w' := by
 have hh := Hp.start w;have hln : l.length = n := by have := hS.1; rw [bO] at this; omega
 refine aj (N := 20) (l := [.slice A n c]) Tryz.func104 rfl rfl (by simp) ?_;refine sr (aL (aa (sr (aL (aa (ah (sr (aI (aa (aq ?_))))))))));replace hh := hh.cY 65 3;refine bK [3, 4, 5, 6, 7, 8, 9, 10, 11, 12, 13, 14, 15, 16, 17, 18] 3 4
  (fun a v w' => ∃ (i c1 : Nat) (B : Option Addr), i ≤ n ∧ v = .int .i64 i ∧ a = .slice B i c1 ∧ Hp w [.row B i c1 65 3 (az NR.cells ((l.take i).map eB))] w')
  (fun _ v _ => n - (intOf v).toNat) ?_ ?_
 ·exact ⟨0, 0, none, UI _, rfl, rfl, hh⟩
 ·clear hh;rintro ρ' a_ v w' ⟨i, c1, B, hi, rfl, rfl, hh⟩;by_cases hlt : i < n
  ·obtain ⟨z, hz⟩ := ak (l := l) (k := i) Uz;have hgz := cu hz;have hzb := hl z (UJ hz);obtain ⟨ad, rfl, hr⟩ := hS.at_ Uz;refine ah (sr (mI (mL (aJ ?_))));refine Kr ?_;refine ct ?_;refine bV aM.out rfl ((hr.ext hh.below).ya hgz) UA ?_;refine bD hh (lC z _ Uz Uz) rfl ?_;intro w16 hh;refine sw ?_;intro b17 w17 hh;refine qi ?_;intro A18 c18 w18 hh;simp only [UU, Vp] at hh;replace hh := hh.sub (Vs _ _);refine vR ?_;refine bo (aI (aC (ai ?_)));refine ⟨⟨i + 1, c18, A18, Uz, rfl, rfl, ?_⟩, by show n - (i + 1) < n - i; omega, ?_⟩
   ·rw [ay hz, VC, bU];exact hh
   ·exact dQ
  ·exact Sw
theorem CQ (l : List Int) (A : Option Addr) (n c : Nat) (w : World) (hS : Sl w A n 1 (bL l)) (hl : ∀ z ∈ l, z.natAbs < 256) (hn : n ≤ 1000) :
  Calls Tryz.prog 105 #[.slice A n c] w fun r w' => ∃ B c', r = .returned (.slice B n c') ∧ Hp w [.row B n c' 81 6 (az SR.cells (kf l))] w' := by
 have hh := Hp.start w;have hln : l.length = n := by have := hS.1; rw [bO] at this; omega
 refine aj (N := 21) (l := [.slice A n c]) Tryz.func105 rfl rfl (by simp) ?_;refine sr (aL (aa (sr (aL (aa (ah (sr (aI (aa (aq ?_))))))))));replace hh := hh.cY 81 6;refine bK [3, 4, 5, 6, 7, 8, 9, 10, 11, 12, 13, 14, 15, 16, 17, 18, 19] 3 4
  (fun a v w' => ∃ (i c1 : Nat) (B : Option Addr), i ≤ n ∧ v = .int .i64 i ∧ a = .slice B i c1 ∧ Hp w [.row B i c1 81 6 (az SR.cells (kf (l.take i)))] w')
  (fun _ v _ => n - (intOf v).toNat) ?_ ?_
 ·exact ⟨0, 0, none, UI _, rfl, rfl, hh⟩
 ·clear hh;rintro ρ' a_ v w' ⟨i, c1, B, hi, rfl, rfl, hh⟩;by_cases hlt : i < n
  ·obtain ⟨z, hz⟩ := ak (l := l) (k := i) Uz;have hgz := cu hz;have hzb := hl z (UJ hz);obtain ⟨ad, rfl, hr⟩ := hS.at_ Uz;have e1 : az SR.cells (kf (l.take (i + 1))) = az SR.cells (kf (l.take i)) ++ [.bool false, .string (ByteArray.mk #[]), .int .i64 0, .bool (nR (z : Dyadic)).neg, .string (nR (z : Dyadic)).bA, .int .i64 (nR (z : Dyadic)).e] := by
    unfold kf;rw [ay hz, VC, bU, U9, VD, jv, lU]
    rfl
   refine ah (sr (mI (mL (aJ ?_))));refine Kr ?_;refine ct ?_;refine bV aM.out rfl ((hr.ext hh.below).ya hgz) UA ?_;refine bD hh (lC z _ Uz Uz) rfl ?_;intro w16 hh;refine gH [_,_,_,_,_,_] ?_;refine NH ?_;intro b18 w18 hh;refine qi ?_;intro A19 c19 w19 hh;simp only [UU, Vp] at hh;replace hh := hh.sub (Vs _ _);refine vR ?_;refine bo (aI (aC (ai ?_)));refine ⟨⟨i + 1, c19, A19, Uz, rfl, rfl, ?_⟩, by show n - (i + 1) < n - i; omega, ?_⟩
   ·rw [e1];exact hh
   ·exact dQ
  ·exact Sw
theorem yD (z : Int) (es : List UInt8) (A : Option Addr) (n c : Nat) (w : World) (hS : Sl w A n 1 (jQ es)) (hz : z.natAbs < 256) (hn : es.length = n) (hn2 : n ≤ 1000) :
  Calls Tryz.prog 107 #[.int .i64 z, .slice A n c] w fun r w' => ∃ B c', r = .returned (.agg #[.int .i64 n, .slice B 1 c']) ∧ Hp w [.row B 1 c' 96 4 (az TR.cells [⟨str es, eB z⟩])] w' := by
 have hh := Hp.start w;refine aj (N := 14) (l := [.int .i64 z, .slice A n c]) Tryz.func107 rfl rfl (by simp) ?_;refine sr ?_;refine bW hh ?_;intro b4 w4 hh;refine aa (ah ?_);refine aZ 8 [[(1, none)], [(5, some 0)], [(1, none)], [(7, some 2)], [(0, none)], [(9, some 4)], [(8, some 3), (10, some 5)], [(11, some 6)]] [(7, 12), (6, 11), (5, 10), (4, 9), (3, 8), (2, 7), (1, 6), (0, 5)] hh mixed UB ?_;refine gC ?_;refine CE ?_;refine gC ?_;refine aP (i := 3) (Is (.string ⟨(es).toArray⟩)) Is.ext ?_ ?_
 ·intro ρ1 w1 hj hR;exact fi rfl (jw (l := es) bk.out bk.out bk.out (show ρ1 7 = Value.slice _ _ _ from hR.1) (hS.ext hj.hp.below)) ⟨Below.refl _ _, rfl⟩
 refine dP ?_;refine dC (fun _ hj => lC z _ Uz Uz) ?_;refine dB [_,_,_,_] ?_;refine aP (i := 7) (vx hh.sz 96 1 4 (az TR.cells [⟨str es, eB z⟩])) (vx.ext) ?_ ?_
 ·intro ρ1 w1 hj hR;exact Qv (sz := 4) bk.out aM.out (show xn ρ1 [(0, .tmp 11)] = [(0, .agg #[.string (str es), .bool (eB z).neg, .string (eB z).bA, .int .i64 (eB z).e])] from aN (show ρ1 11 = _ from hR.1) bZ) rfl rfl UA UA rfl UA hj.bl.size fun v w2 h hb => ⟨hb, h⟩
 refine aT ?_;intro f W hJ hV;have hb_1 := hJ.bl;obtain ⟨v12, v11, v10, v9, v8, v7, v6, v5, _⟩ := hV;obtain ⟨A12, c12, e12, o12⟩ : vx _ _ _ _ _ (f 7) W := v12;replace hh := JJ.Ie hh hJ.hp o12;clear o12;refine aY (br (ae e12 (ae v11 (ae v10 (ae v9 (ae v8 (ae v7 (ae v6 (ae v5 aX))))))))) ?_;dsimp only [cg];clear e12 hJ;refine gH [_,_] ?_;refine bX hh 1 [_,_] ?_;intro ws hh;replace hh : Hp _ (_ :: .blk _ _ [_, _] _ :: _) _ := hh;refine aa (av ?_);refine AW ?_;exact ⟨A12, c12, rfl, hh.sub (UG _ (VT _))⟩
theorem Hi (p : PX) (L : Option Addr) (n c : Nat) (b : List SR) (M : Option Addr) (m mc : Nat) (ds : List Int) (A : Option Addr) (k ac : Nat) (l : List Int) (w : World) (hT : eb w) (hp : p.at_ w) (lp : p.kO 124) (hB : Sl w L n 6 (az SR.cells b)) (hb : ∀ s ∈ b, s.fin 124) (hn : n ≤ 1000) (hD : Sl w M m 1 (bL ds)) (hm : m ≤ 1000) (hmc : m ≤ mc)
  (hgr : ff (124 + 124 + 16394) (cS p.v p.ts) (124 + 1) ≤ 440000) (hS : Sl w A k 1 (bL l)) (hl : ∀ z ∈ l, z.natAbs < 256) (hk : k ≤ 1000) (hE : mv p b ds = 0) (hX : qb (Lb p ds) (cV p (bj b)).2 = l.map fun z : Int => (z : Dyadic)) :
  Calls Tryz.prog 106 #[.agg #[.int .i64 p.v, .slice p.A p.n p.c], .slice L n c, .slice M m mc, .slice A k ac] w fun r w' => r = .returned (.bool true) ∧ Below w.heap.size w w' := by
 have hh := Hp.start w;have hof := fun w1 hT1 hb1 => qT p L n c b M m mc ds 124 w1 hT1 (hp.ext hb1) lp (hB.ext hb1) hb Uz (hD.ext hb1) Uz hmc UA (fun _ => hgr);rw [hE, hX] at hof;have hro := fun w1 hb1 => l3 l A k ac w1 (hS.ext hb1) hl hk;have hll : l.length = k := by have := hS.1; rw [bO] at this; omega
 refine aj (N := 27) (l := [.agg #[.int .i64 p.v, .slice p.A p.n p.c], .slice L n c, .slice M m mc, .slice A k ac]) Tryz.func106 rfl rfl (by simp) ?_;refine sr ?_;refine cz hh [_,_] ?_;intro b4 w4 hh;refine aB (aa (sr ?_));refine cE hh 0 [_,_] (mL (mL ?_));refine aF (hof _ (hT.hp hh) hh.below) al.out rfl UA ?_;rintro e_ w15 ⟨g, og, rfl, h4⟩;refine ⟨_, rfl, ?_⟩;replace hh := hh.join h4;clear h4;simp only [UP, UN] at hh;have hcs : g.cs = l.map eB := by
  rw [og.cs];show (l.map fun z : Int => (z : Dyadic)).map nR = _;rw [VE]
  rfl
 replace hh := show Hp w (.row g.B g.m g.b 65 3 (az NR.cells g.cs) :: .row g.A g.n g.a 3 1 (bL g.ds) :: _) _ from hh;rw [hcs] at hh;have hgm : g.m = k := by have := (hh.aA (i := 0) rfl).bq NR.len UA; rw [US] at this; omega
 refine mT ?_;refine dt ?_;refine dt ?_;refine bW hh ?_;intro b9 w9 hh;refine bX hh 0 [_,_] ?_;intro ws hh;replace hh : Hp _ (.blk _ _ [_, _] _ :: _) _ := hh;refine aI (aa (ah ?_));refine aZ 7 [[(10, none)], [(18, some 0)], [(19, some 1)], [(9, none), (20, some 2)], [(21, some 3), (20, some 2)], [(3, none), (20, some 2)], [(23, some 5), (20, some 2)]] [(6, 24), (5, 23), (4, 22), (3, 21), (2, 20), (1, 19), (0, 18)] hh mixed UB ?_;refine dP ?_;refine yl ?_;refine oK ?_;refine dG (ef ?_);refine dG (gE 0 ?_);refine dG (gC ?_);refine aP (i := 6) (Rows k 3 (az NR.cells (l.map eB))) (Rows.ext) ?_ ?_
 ·intro ρ1 w1 hj hR;exact bf rfl (show ρ1 20 = Value.bool _ from hR.2.1) (a7 rfl (aK al.out (aw (show ρ1 23 = Value.slice _ _ _ from hR.1) aW)) (hro w1 hj.hp.below) (fun _ _ ⟨B, c', hq, h3⟩ => ⟨_, hq, h3.below, B, c', rfl, h3.aA (i := 0) rfl⟩))
 refine aT ?_;intro f W hJ hV;have hb_2 := hJ.bl;obtain ⟨v24, v23, v22, v21, v20, v19, v18, _⟩ := hV;obtain ⟨A24, c24, e24, f24⟩ : Rows _ _ _ (f 6) W := v24;replace hh := hJ.hp;refine aY (br (ae e24 (ae v23 (ae v22 (ae v21 (ae v20 (ae v19 (ae v18 aX)))))))) ?_;dsimp only [cg];clear e24 hJ;have hsg := hh.aA (i := 1) rfl;rw [hgm];rw [hgm] at hsg;refine aG rfl rfl ?_;refine bD hh (jz g.B k g.b (l.map eB) A24 c24 _ hsg f24 Uz) rfl ?_;intro w25 hh;refine fO ?_;exact vy
theorem wx (j : Nat) : j % 2 = 0 ∧ (-1 : Dyadic) ^ j = 1 ∨ j % 2 = 1 ∧ (-1 : Dyadic) ^ j = -1 := by
 induction j with
 | zero => exact .inl ⟨rfl, by grind⟩
 | succ n ih =>
  rcases ih with ⟨h, e⟩ | ⟨h, e⟩
  ·exact .inr ⟨Uz, by grind⟩
  ·exact .inl ⟨Uz, by grind⟩
theorem pY {ns : List Nat} {i d : Nat} (h : ns[i]? = some d) : ns.reverse = (ns.drop (i + 1)).reverse ++ d :: (ns.take i).reverse := by
 exact Rv
theorem ti (L : Option Addr) (n c d : Nat) (xs : List Dyadic) (k : Nat) (w : World) (hT : eb w) (hS : Sl w L n 3 (az NR.cells (xs.map nR))) (hn : n = d + 1) (hd : d ≤ 127) (hx : ∀ x ∈ xs, Sz k x) (hk : k ≤ 500000) :
  Calls Tryz.prog 116 #[.slice L n c] w fun r w' => ∃ A c', r = .returned (.slice A n c') ∧ Hp w [.row A n c' 65 3 (az NR.cells ((kL d (ej d 1 (-1)) xs).map nR))] w' := by
 have hh := Hp.start w;have hln : xs.length = n := by have := hS.bq NR.len UA; simpa using this
 have ha : Sz 1 1 := Sz.one;obtain ⟨ad, rfl, hr⟩ := hS.at_ Uz;refine aj (N := 57) (l := [.slice (some ad) n c]) Tryz.func116 rfl rfl (by simp) ?_;refine sr (aL (aa (sr (mL (aJ ?_)))));refine dW (aI (aa (sr (mI ?_))));refine bo ?_;refine Ir ?_;intro b14 w14 hh;refine rT ?_;rw [nF, hn, ← uU d 1 (-1) xs, ← hn] at hh;refine aR [5, 6, 7, 8, 17, 18, 19, 20, 21, 22, 23, 24, 25, 26, 27, 28, 29, 30, 31, 32, 33, 34, 35, 36, 37, 38, 39, 40, 41, 42, 43, 44, 45, 46, 47, 48, 49, 50, 51, 52, 53, 54, 55] 17
  (fun v w' => ∃ i : Nat, i ≤ n ∧ v = .int .i64 i ∧ Hp w [.row (some ⟨b14, 0, none⟩) n n 65 3 (az NR.cells ((ix d 1 (-1) xs i 0).map nR))] w')
  (fun v _ => n - (intOf v).toNat) ?_ ?_
 ·exact ⟨0, UI _, rfl, hh⟩
 ·clear hh;rintro ρ' v w' ⟨i, hi, rfl, hh⟩;by_cases hlt : i < n
  ·obtain ⟨x, hxi⟩ := ak (l := xs) (k := i) Uz;have hxn : (xs.map nR)[i]? = some (nR x) := by rw [UO, hxi]; rfl
   have hat : jB xs i = x := by unfold jB; rw [hxi]; rfl
   have zx := hx x (UJ hxi);have hch := fun w1 hT1 => kT (d - i) w1 hT1 Uz;refine sr ?_;refine eh ?_;refine ct ?_;refine IH ?_;refine bW hh ?_;intro b6 w6 hh;refine aI ?_;refine bX hh 0 [_,_,_] ?_;intro ws hh;replace hh : Hp _ (.blk _ _ [_, _, _] _ :: _) _ := hh;refine aa (sr (mI (mI ?_)));refine dW ?_;have e24 : (n : Int) - 1 - (i : Int) = ((d - i : Nat) : Int) := Uz;rw [← e24] at hch;refine aF (hch _ (hT.hp hh)) al.out rfl UA ?_;rintro e_ w25 ⟨A25, c25, rfl, hown_, hb_⟩;refine ⟨_, rfl, ?_⟩;replace hh := hh.aV (x := .row _ _ _ _ _ _) hb_ hown_;refine aJ (mI (aa (aq ?_)));replace hh := hh.sub (UG _ (UG _ (UG _ Ve)));refine aR [7, 8, 27, 28, 29, 30, 31, 32, 33, 34, 35, 36, 37, 38, 39, 40, 41, 42, 43, 44, 45, 46, 47, 48, 49, 50, 51, 52, 53, 54] 27
    (fun v w' => ∃ j : Nat, j ≤ d - i + 1 ∧ v = .int .i64 j ∧ Hp w [.row A25 (d - i + 1) c25 65 3 (az NR.cells (lz (d - i))), .blk b6 65 [.bool (nR x).neg, .string (nR x).bA, .int .i64 (nR x).e] (0, 0), .row (some ⟨b14, 0, none⟩) n n 65 3 (az NR.cells ((ix d 1 (-1) xs i j).map nR))] w')
    (fun v _ => d - i + 1 - (intOf v).toNat) ?_ ?_
   ·exact ⟨0, UI _, rfl, hh⟩
   ·clear hh;rintro ρ2 v w2 ⟨j, hj, rfl, hh⟩;by_cases hjn : j < d - i + 1
    ·have hbn : (lz (d - i))[j]? = some (nR (nD (bin (d - i) j))) := kM Uz;have zb := rq (d - i) j Uz;obtain ⟨o, ho⟩ := ak (l := ix d 1 (-1) xs i j) (k := i + j) (by rw [j7]; omega);have hon : ((ix d 1 (-1) xs i j).map nR)[i + j]? = some (nR o) := by rw [UO, ho]; rfl
     have zo := Ff (j := j) hx ha (show Sz 1 (-1 : Dyadic) from Sz.one.neg) hd (show i ≤ d + 1 by omega) o (UJ ho);have zy := zx.mul zb;have hset := zm (a := 1) (b := -1) (xs := xs) (show i + j ≤ d by omega) ho;have hval : jB xs i * ej d 1 (-1) i (i + j) = x * (nD (bin (d - i) j) * (-1 : Dyadic) ^ j) := by
      unfold ej;rw [hat, UE Uz, show i + j - i = j by omega, iV];generalize nD (bin (d - i) j) = u;generalize (-1 : Dyadic) ^ j = e;grind
     rw [hval] at hset;have zu : Sz (130 + 1) (nD (bin (d - i) j) * (-1 : Dyadic) ^ j) := by
      rcases wx j with e | e
      ·rw [e.2, Dyadic.mul_one]; exact zb.mono Uz
      ·rw [e.2, show nD (bin (d - i) j) * (-1 : Dyadic) = - nD (bin (d - i) j) by grind]; exact zb.neg.mono Uz
     have zbo : (nR (nD (bin (d - i) j))).ok := zb.ok Uz;have hng := fun w1 hT1 => oZ (nR (nD (bin (d - i) j))) w1 hT1 (by have := zbo.1; omega) (by have := zbo.2.1; omega) (by have := zbo.2.2; omega);rw [bY] at hng;have hsg := wx j;have hll : ((ix d 1 (-1) xs i j).map nR).length = n := by rw [US, j7]; omega
     generalize ix d 1 (-1) xs i j = S at *;obtain ⟨gw, rfl⟩ := hh.cN (i := 0) rfl Uz;refine sr ?_;refine eh ?_;refine k7 ?_;refine Oz ?_
     rcases hsg with ⟨h2, he⟩ | ⟨h2, he⟩
     ·refine bW hh ?_;intro b8 w8 hh;refine aI ?_;refine bX hh 0 [_,_,_] ?_;intro ws hh;replace hh : Hp _ (.blk _ _ [_, _, _] _ :: _) _ := hh;refine aa (ah (sr (mI ?_)));refine JB rfl rfl UA ?_;refine cW (aa (cF (ar (ai ?_))));rw [he, Dyadic.mul_one] at hset zu;generalize nD (bin (d - i) j) = u at *;exact OC
     ·refine bW hh ?_;intro b8 w8 hh;refine aI ?_;refine bX hh 0 [_,_,_] ?_;intro ws hh;replace hh : Hp _ (.blk _ _ [_, _, _] _ :: _) _ := hh;refine aa (ah (sr (mI ?_)));refine JB rfl rfl UA ?_;refine cW (aa (cT (ao ?_)));refine cE hh 0 [_,_,_] ?_;refine bD hh (hng _ (hT.hp hh)) rfl ?_;intro w36 hh;rw [he, show nD (bin (d - i) j) * (-1 : Dyadic) = - nD (bin (d - i) j) by grind] at hset zu;refine bX hh 0 [_,_,_] ?_;intro ws hh;replace hh : Hp _ (.blk _ _ [_, _, _] _ :: _) _ := hh;refine aa ?_;generalize - nD (bin (d - i) j) = u at *;exact OC
    ·exact Ob
  ·obtain rfl : i = n := Uz;rw [show ix d 1 (-1) xs i 0 = kL d (ej d 1 (-1)) xs by rw [hn, xg]] at hh;exact PN
theorem TF (z : Int) (h : z.natAbs < 256) : Sz 24 (z : Dyadic) := Gk (e := 0) h UA UA
def IE (d : Nat) (xs : List Dyadic) (i : Nat) : Dyadic := jB xs (i + 1) * (((i : Int) + 1 : Int) : Dyadic) - jB xs i * (((d : Int) - (i : Int) : Int) : Dyadic)
def qf (d : Nat) (xs : List Dyadic) : List Dyadic := (List.range d).map (IE d xs)
theorem Ab (d : Nat) (xs : List Dyadic) : (qf d xs).length = d := by simp [qf]
theorem DV {d i : Nat} (h : i < d) : (qf d xs)[i]? = some (IE d xs i) := by
 unfold qf;rw [UO, Vq h]
 rfl
theorem Bh (L : Option Addr) (n c d : Nat) (xs : List Dyadic) (k : Nat) (w : World) (hT : eb w) (hS : Sl w L n 3 (az NR.cells (xs.map nR))) (hn : n = d + 1) (hd : d ≤ 127) (hx : ∀ x ∈ xs, Sz k x) (hk : k ≤ 500000) :
  Calls Tryz.prog 145 #[.slice L n c] w fun r w' => ∃ A c', r = .returned (.slice A d c') ∧ Hp w [.row A d c' 65 3 (az NR.cells ((qf d xs).map nR))] w' := by
 have hh := Hp.start w;have hln : xs.length = n := by have := hS.bq NR.len UA; simpa using this
 obtain ⟨ad, rfl, hr⟩ := hS.at_ Uz;have hsl := Ab d xs;refine aj (N := 41) (l := [.slice (some ad) n c]) Tryz.func145 rfl rfl (by simp) ?_;refine sr (aL (aa (sr (mL (aJ ?_)))));refine dW (aI (aa (sr (aL (aa (ah (sr (mI (mI (aa (aq ?_)))))))))));replace hh := hh.cY 65 3;refine bK [4, 5, 6, 11, 12, 13, 14, 15, 16, 17, 18, 19, 20, 21, 22, 23, 24, 25, 26, 27, 28, 29, 30, 31, 32, 33, 34, 35, 36, 37, 38, 39] 4 11
  (fun a v w' => ∃ (i : Nat) (A : Option Addr) (ac : Nat), i ≤ d ∧ v = .int .i64 i ∧ a = .slice A i ac ∧ Hp w [.row A i ac 65 3 (az NR.cells (((qf d xs).take i).map nR))] w')
  (fun _ v _ => d - (intOf v).toNat) ?_ ?_
 ·exact ⟨0, none, 0, UI _, rfl, rfl, hh⟩
 ·clear hh;rintro ρ' a_ v w' ⟨i, A, ac, hi, rfl, rfl, hh⟩;by_cases hlt : i < d
  ·obtain ⟨x, hxi⟩ := ak (l := xs) (k := i) Uz;obtain ⟨y, hyi⟩ := ak (l := xs) (k := i + 1) Uz;have hxn : (xs.map nR)[i]? = some (nR x) := by rw [UO, hxi]; rfl
   have hyn : (xs.map nR)[i + 1]? = some (nR y) := by rw [UO, hyi]; rfl
   have zx := hx x (UJ hxi);have zy := hx y (UJ hyi);have z1 := TF ((i : Int) + 1) Uz;have z2 := TF ((d : Int) - (i : Int)) Uz;have hv : IE d xs i = y * (((i : Int) + 1 : Int) : Dyadic) - x * (((d : Int) - (i : Int) : Int) : Dyadic) := by
    unfold IE jB;rw [hxi, hyi]
    rfl
   have hat := DV (xs := xs) hlt;rw [hv] at hat;have hof1 := fun w1 hT1 => jW ((i : Int) + 1) w1 hT1 Uz Uz;have hof2 := fun w1 hT1 => jW ((d : Int) - (i : Int)) w1 hT1 Uz Uz;generalize (((i : Int) + 1 : Int) : Dyadic) = e1 at *;generalize (((d : Int) - (i : Int) : Int) : Dyadic) = e2 at *;rw [show (d : Int) - (i : Int) = (n : Int) - 1 - (i : Int) by omega] at hof2;have zp := zy.mul z1;have zq := zx.mul z2;have hm1 := fun A cc w1 hT1 hS1 => eK A 2 cc [nR y, nR e1] w1 hT1 hS1 (by simpa using ⟨zy.ok Uz, z1.ok Uz⟩) 600000 (by simpa [bY] using ⟨zy.mono Uz, z1.mono Uz⟩) Uz Uz;rw [show ik ([nR y, nR e1].map NR.d) = y * e1 by simp only [U9, VD, bY]; show 1 * y * _ = _; rw [WO]] at hm1;have hm2 := fun A cc w1 hT1 hS1 => eK A 2 cc [nR x, nR e2] w1 hT1 hS1 (by simpa using ⟨zx.ok Uz, z2.ok Uz⟩) 600000 (by simpa [bY] using ⟨zx.mono Uz, z2.mono Uz⟩) Uz Uz;rw [show ik ([nR x, nR e2].map NR.d) = x * e2 by simp only [U9, VD, bY]; show 1 * x * _ = _; rw [WO]] at hm2;generalize y * e1 = p at *;generalize x * e2 = q at *
   have hsb := fun w1 hT1 => j5 (nR p) (nR q) w1 hT1 (zp.ok Uz) (zq.ok Uz) (k + 24) (by rw [bY]; exact zp) (by rw [bY]; exact zq) Uz;rw [bY, bY] at hsb;refine sr ?_;refine bh (aa (ah (cT (ar (ai (ah (aq (sr (mI (aI (aa (ah ?_))))))))))));refine aZ 11 [[(0, none)], [(5, none)], [(15, some 1)], [(14, some 0), (16, some 2)], [(17, some 3)], [(5, none)], [(19, some 5)], [(20, some 6)], [(18, some 4), (21, some 7)], [(22, some 8)], []] [(10, 6), (9, 23), (8, 22), (7, 21), (6, 20), (5, 19), (4, 18), (3, 17), (2, 16), (1, 15), (0, 14)] hh mixed UB ?_;refine gC ?_;refine dP ?_;refine sG ?_;refine bz (i := 3) (fun ρ1 w1 hj hR => dA bk.out aM.size (show ρ1 14 = Value.slice _ _ _ from hR.1) (show ρ1 16 = Value.int _ _ from hR.2.1) Uz Uz) ?_;refine su [_,_,_] (fun _ hj => (hr.ext hj.hp.below).recAt NR.len hyn) ?_;refine dP ?_;refine sG ?_;refine dC (fun _ hj => hof1 _ (hT.hp hj.hp)) ?_;refine sA [_,_,_,_,_,_] ?_;refine aP (i := 9) (Is (.agg #[.bool (nR p).neg, .string (nR p).bA, .int .i64 (nR p).e])) Is.ext ?_ ?_
   ·intro ρ1 w1 hj hR;obtain ⟨A22, c22, h22, s22⟩ := hR.1;exact a7 rfl (aK al.out (aw h22 aW)) (hm1 A22 c22 _ (hT.hp hj.hp) s22) (fun _ _ hq => ⟨_, hq.1, hq.2, rfl⟩)
   refine aP (i := 10) (dw _ 65 _) dw.ext (fun ρ1 w1 hj hR => kd aM.out hj.bl (fun v w2 h hb => ⟨hb, h⟩)) ?_;refine aT ?_;intro f W hJ hV;have hb_6 := hJ.bl;obtain ⟨v6, v23, v22, v21, v20, v19, v18, v17, v16, v15, v14, _⟩ := hV;obtain ⟨A22, c22, e22, f22⟩ : Rows _ _ _ (f 8) W := v22;obtain ⟨b6, e6, hl6, hc6⟩ : dw _ _ _ (f 10) W := v6;replace hh := hJ.newVar hh hl6 hc6;refine aY (br (ae e6 (ae v23 (ae e22 (ae v21 (ae v20 (ae v19 (ae v18 (ae v17 (ae v16 (ae v15 (ae v14 aX)))))))))))) ?_;dsimp only [cg];clear e22 e6 hJ;refine bX hh 0 [_,_,_] ?_;intro ws hh;replace hh : Hp _ (.blk _ _ [_, _, _] _ :: _) _ := hh;refine aa ?_;refine aZ 14 [[(4, none)], [(6, none)], [(0, none)], [(5, none)], [(26, some 2), (27, some 3)], [(28, some 4)], [(3, none)], [(5, none)], [(30, some 6), (31, some 7)], [(32, some 8)], [(29, some 5), (33, some 9)], [(34, some 10)], [(25, some 1), (35, some 11)], [(36, some 12)]] [(13, 37), (12, 36), (11, 35), (10, 34), (9, 33), (8, 32), (7, 31), (6, 30), (5, 29), (4, 28), (3, 27), (2, 26), (1, 25), (0, 24)] hh mixed UB ?_;refine gC ?_;refine fS 0 [_,_,_] ?_;refine gC ?_;refine dP ?_
   refine bz (i := 4) (fun ρ1 w1 hj hR => dA bk.out aM.size (show ρ1 26 = Value.slice _ _ _ from hR.1) (show ρ1 27 = Value.int _ _ from hR.2.1) Uz Uz) ?_;refine su [_,_,_] (fun _ hj => (hr.ext hj.hp.below).recAt NR.len hxn) ?_;refine dP ?_;refine dP ?_;refine vN ?_;refine dC (fun _ hj => hof2 _ (hT.hp hj.hp)) ?_;refine sA [_,_,_,_,_,_] ?_;refine aP (i := 11) (Is (.agg #[.bool (nR q).neg, .string (nR q).bA, .int .i64 (nR q).e])) Is.ext ?_ ?_
   ·intro ρ1 w1 hj hR;obtain ⟨A34, c34, h34, s34⟩ := hR.1;exact a7 rfl (aK al.out (aw h34 aW)) (hm2 A34 c34 _ (hT.hp hj.hp) s34) (fun _ _ hq => ⟨_, hq.1, hq.2, rfl⟩)
   refine dC (fun _ hj => hsb _ (hT.hp hj.hp)) ?_;refine sA [_,_,_] ?_;refine aT ?_;intro f W hJ hV;have hb_7 := hJ.bl;obtain ⟨v37, v36, v35, v34, v33, v32, v31, v30, v29, v28, v27, v26, v25, v24, _⟩ := hV;obtain ⟨A34, c34, e34, f34⟩ : Rows _ _ _ (f 10) W := v34;obtain ⟨A37, c37, e37, f37⟩ : Rows _ _ _ (f 13) W := v37;replace hh := hJ.hp;refine aY (br (ae e37 (ae v36 (ae v35 (ae e34 (ae v33 (ae v32 (ae v31 (ae v30 (ae v29 (ae v28 (ae v27 (ae v26 (ae v25 (ae v24 aX))))))))))))))) ?_;dsimp only [cg];clear e34 e37 hJ;refine cH hh (i := 1) rfl rfl rfl (f37) bk.out aM.out rfl UA (by first | rfl | exact dz _ | exact dh _ | exact bT _ | exact ck NR.one _) Uz Uz UA ?_;intro A38 c38 w38 hh;simp only [UU, Vp] at hh;refine kK ?_;refine bo (mI (aC (ai ?_)));have e1 : az NR.cells (((qf d xs).take i).map nR) ++ [.bool (nR (p - q)).neg, .string (nR (p - q)).bA, .int .i64 (nR (p - q)).e] = az NR.cells (((qf d xs).take (i + 1)).map nR) := by rw [ay hat, VC, bU, U9, VD, jv]; rfl
   rw [e1] at hh;replace hh := hh.sub (UL _ (VX _));refine ⟨⟨i + 1, A38, c38, Uz, rfl, rfl, hh⟩, by show d - (i + 1) < d - i; omega, ?_⟩;exact dQ
  ·obtain rfl : i = d := Uz;rw [UQ Uz] at hh;exact PN
variable {cp : Operand} {kc kl : IntKind}
abbrev Cs := F7
theorem Cs.ext {t : TypeId} {sz : Nat} (v : Value) (w w' : World) (h : Cs base t n sz cs v w) (hb : Below w.heap.size w w') : Cs base t n sz cs v w' := F7.ext v w w' h hb
section
variable {P : Program} {ρ : Rf} {w : World}
theorem J7 {d : Option Nat} {ty : TypeId} {af : Array Edge} {t e : TypeId} {l : Operand} {L C : Int} {sz : Nat} (hl : ev ρ l = .int kl L) (hc : ev ρ cp = .int kc C) (hL : L = (n : Int)) (hC : C = (n : Int))
  (ht : P.underlying t = some (.slice e)) (hte : dr P e = some (sz, ag, by', zc)) (hzl : zc.length = sz) (hb : by' * n ≤ 281474976710656) (h63 : n ≤ 9223372036854775807) (hbs : base ≤ w.heap.size)
  (hk : ∀ v w2, F7 base e n sz (fM n zc) v w2 → Below w.heap.size w w2 → K v w2) : OG P ops ⟨d, .makeSlice t l cp, ty, pos, af, none⟩ ρ w K := by
 obtain ⟨i, z, dd, hi, hd, hz, hs, hby, hzc, _⟩ := eG hte;subst hL; subst hC;obtain ⟨w', hr, hown, hg⟩ := run_make_full (P := P) w base t e i z sz ht hi hz hs kl kc n (by rw [hby]; exact hb) (by unfold maxLen; omega) hbs;have hzz : (madeCells z.cells (n * sz)).toList = fM n zc := by
  exact QA
 rw [hzz] at hown;exact fi rfl (w' := w') (v := .slice (some ⟨w.heap.size, 0, none⟩) n n) (by simp [execOp, hl, hc, hr]) (hk _ _ ⟨_, _, rfl, hown⟩ ⟨hg.os, hg.tape, hg.output, hg.size, fun j hj => hg.block j hj (by simp)⟩)
end
def mO (q : Nat → Bool) (xs : List Dyadic) (i : Nat) : List Dyadic := ((List.range i).filter q).map fun p => (xs[p]?).getD 0
theorem Gp (q : Nat → Bool) (xs : List Dyadic) (i : Nat) : mO q xs (i + 1) = mO q xs i ++ if q i = true then [(xs[i]?).getD 0] else [] := by
 unfold mO;rw [Wy, XF, VC];congr 1;by_cases h : q i = true
 ·rw [UF h, List.filter_cons_of_pos h]; rfl
 ·rw [UE h, X7 h]; rfl
theorem Bb (q : Nat → Bool) (xs : List Dyadic) (i : Nat) : (mO q xs i).length ≤ i := by
 unfold mO;rw [US];exact U1 (List.length_filter_le _ _) (by rw [WK]; exact UH _)
def mz (ap d : Nat) (p : Nat) : Bool := decide (p / ap % (d + 1) < d)
def jb (ns : List Nat) (a : Nat) : List Nat := ns.set a (ns.getD a 0 - 1)
def vr (ns : List Nat) (a : Nat) (xs : List Dyadic) : List Dyadic := if ns.getD a 0 = 0 then List.replicate xs.length 0 else mO (mz (au (ns.drop (a + 1))) (ns.getD a 0)) (iT (ns.drop (a + 1)).reverse (ns.getD a 0) (ns.getD a 0) (qf (ns.getD a 0)) xs xs.length 0) xs.length
set_option maxRecDepth 10000 in
theorem p8 (fx : FX) (ax : Int) (k : Nat) (w : World) (hT : eb w) (hf : fx.at_ w) (hl : fx.kO k) (hcap : fx.n ≤ fx.a) (hk : k ≤ 500000) :
  Calls Tryz.prog 55 #[.agg #[.slice fx.A fx.n fx.a, .slice fx.B fx.m fx.b], .int .i64 ax] w fun r w' => ∃ g : FX, Out (kY fx ax) (jb fx.ns ax.toNat) (vr fx.ns ax.toNat (fx.cs.map NR.d)) g ∧ r = .returned (.tuple #[.agg #[.slice g.A g.n g.a, .slice g.B g.m g.b], .int .i64 (kY fx ax)]) ∧ Hp w [g.vO, g.uE] w' := by
 have hh := Hp.start w;have hhas := fun w1 hT1 hb => C9 fx ax k w1 hT1 (hf.ext hb) hl;by_cases hE : kY fx ax ≠ 0
 ·refine aj (N := 78) (l := [.agg #[.slice fx.A fx.n fx.a, .slice fx.B fx.m fx.b], .int .i64 ax]) Tryz.func55 rfl rfl (by simp) ?_;refine sr ?_;refine cz hh [_,_] ?_;intro b2 w2 hh;refine bW hh ?_;intro b4 w4 hh;refine aI (aa (ah (sr ?_)));refine cE hh 1 [_,_] (mI ?_);refine bD hh (hhas _ (hT.hp hh) hh.below) rfl ?_;intro w13 hh;exact Rr
 ·have hE : kY fx ax = 0 := Uz;obtain ⟨h0, hx0, hx1⟩ := Gf hE;obtain ⟨a, rfl⟩ : ∃ a : Nat, ax = a := ⟨ax.toNat, Uz⟩;rw [hE] at hhas ⊢;rw [V8];obtain ⟨hdeg, hnum, h12, hlow, hcnt, hmax⟩ := FX.fv h0;have hln := hf.ln.1;have hlm := hf.ln.2;have hnl : fx.ns.length = fx.n := by unfold FX.ns; rw [US]; exact hln
  obtain ⟨d, hd⟩ := ak (l := fx.ns) (k := a) Uz;have hd127 := hlow d (UJ hd);have hgd0 : fx.ns.getD a 0 = d := by rw [VQ, hd]; rfl
  have hgd : (bL fx.ds)[a]? = some (.int .i64 (d : Int)) := by rw [hdeg]; exact cu (jk hd)
  obtain ⟨ad0, hAD, sD⟩ := hf.dg.at_ Uz;have gO : Value.slice fx.A fx.n fx.a = .slice (some ad0) fx.n fx.a := by rw [hAD]
  by_cases vv : d = 0
  ·subst vv;have hcl := fun w1 hb => lR fx.A fx.n fx.a fx.ds w1 (hf.dg.ext hb) Uz;have hDN : bI (jb fx.ns a) = fx.ds := by
    unfold jb;rw [hgd0, Ao hd, hdeg]
   have hDX : vr fx.ns a (fx.cs.map NR.d) = List.replicate fx.m 0 := by
    unfold vr;rw [UF hgd0, US, hlm]
   refine aj (N := 78) (l := [.agg #[.slice fx.A fx.n fx.a, .slice fx.B fx.m fx.b], .int .i64 a]) Tryz.func55 rfl rfl (by simp) ?_;refine sr ?_;refine cz hh [_,_] ?_;intro b2 w2 hh;refine bW hh ?_;intro b4 w4 hh;refine aI (aa (ah (sr ?_)));refine cE hh 1 [_,_] (mI ?_);refine bD hh (hhas _ (hT.hp hh) hh.below) rfl ?_;intro w13 hh;refine aI (aa (sr (mI ?_)));refine dk (aa (cF (ar (ai (ah (sr (bH ?_)))))));refine bG hh 1 ?_;refine mI ?_;refine df (k := a) bk.out aM.size gO rfl Uz Uz UA ?_;refine bV aM.out rfl ((sD.ext hh.below).ya hgd) UA ?_;refine cW (aa (cT (ah ?_)));refine aZ 7 [[(2, none)], [(24, some 0)], [(25, some 1)], [(2, none)], [(27, some 3)], [(28, some 4)], [(29, some 5)]] [(6, 30), (5, 29), (4, 28), (3, 27), (2, 26), (1, 25), (0, 24)] hh mixed UB ?_;refine ef ?_;refine gE 1 ?_;refine aP (i := 2) (Cs hh.sz 3 fx.n 1 (bL fx.ds)) (Cs.ext) ?_ ?_
   ·intro ρ1 w1 hj hR;exact a7 rfl (aK al.out (aw (show ρ1 25 = Value.slice _ _ _ from hR.1) aW)) (hcl w1 hj.hp.below) (fun _ _ ⟨A, c, hq, ho, hb⟩ => ⟨_, hq, hb, A, c, rfl, oO ho hj.bl.size⟩)
   refine ef ?_;refine gE 1 ?_;refine CE ?_;refine aP (i := 6) (Cs hh.sz 65 fx.m 3 (az NR.cells ((List.replicate fx.m (0 : Dyadic)).map nR))) (Cs.ext) ?_ ?_
   ·intro ρ1 w1 hj hR;exact nF fx.m ▸ J7 (n := fx.m) (show ρ1 29 = Value.int _ _ from hR.1) (show ρ1 29 = Value.int _ _ from hR.1) rfl rfl bk.out aM.out rfl Uz Uz hj.bl.size (fun _ _ h1 h2 => ⟨h2, h1⟩)
   refine aT ?_;intro f W hJ hV;have hb_5 := hJ.bl;obtain ⟨v30, v29, v28, v27, v26, v25, v24, _⟩ := hV;obtain ⟨A26, c26, e26, o26⟩ := v26;obtain ⟨A30, c30, e30, o30⟩ := v30;replace hh := JJ.Nf hJ hh o26 o30 UA;clear o26 o30;refine aY (br (ae e30 (ae v29 (ae v28 (ae v27 (ae e26 (ae v25 (ae v24 aX)))))))) ?_;dsimp only [cg];clear e26 e30 hJ;refine gH [_,_] ?_;refine bX hh 2 [_,_] ?_;intro ws hh;replace hh : Hp _ (_ :: _ :: .blk _ _ [_, _] _ :: _) _ := hh;refine aI (aa (av (aH ?_)));replace hh := hh.sub (UG _ (UG _ (UG _ (UL _ Ve))));replace hh := hh.perm (VH (l₁ := [_]));simp only [UP, UN] at hh;refine pw ?_;exact ⟨⟨A26, fx.n, c26, A30, fx.m, c30, fx.ds, (List.replicate fx.m (0 : Dyadic)).map nR⟩, ⟨hDN.symm, by rw [hDX]; rfl, by show fx.n ≤ 100000; omega, by show fx.m ≤ 1000000; omega⟩, rfl, hh.sub (UG _ (UG _ (VT _)))⟩
  ·have hdg : Sl w fx.A fx.n 1 (bL (bI fx.ns)) := by rw [← hdeg]; exact hf.dg
   have hof := fun w1 hb => lM fx.A fx.n fx.a a d fx.ns w1 (hdg.ext hb) hcap Uz hd hlow hmax;have hcl := fun w1 hb => lR fx.A fx.n fx.a fx.ds w1 (hf.dg.ext hb) Uz;have hDN : bI (jb fx.ns a) = fx.ds.set a ((d : Int) - 1) := by
    unfold jb;rw [hgd0]
    conv => rhs; rw [hdeg]
    unfold bI;rw [WT, show ((d - 1 : Nat) : Int) = (d : Int) - 1 by omega]
   obtain ⟨X, hX⟩ : ∃ X, X = fx.cs.map NR.d := ⟨_, rfl⟩;rw [← hX] at hnum ⊢;have hXl : X.length = fx.m := by rw [hX, US]; exact hlm
   have hXz : ∀ x ∈ X, Sz k x := fun x h => by
    rw [hX] at h;obtain ⟨z, hz, rfl⟩ := UY.1 h;exact (hl.num z hz).2
   have hDX : vr fx.ns a X = mO (mz (au (fx.ns.drop (a + 1))) d) (iT (fx.ns.drop (a + 1)).reverse d d (qf d) X fx.m 0) fx.m := by
    unfold vr;rw [hgd0, UE vv, hXl]
   have hsp : fx.m = au ((fx.ns.drop (a + 1)).reverse ++ d :: (fx.ns.take a).reverse) := by
    rw [← pY hd, cx];exact hlm.symm.trans hcnt
   have hSX : Sl w fx.B fx.m 3 (az NR.cells (X.map nR)) := by rw [← hnum]; exact hf.nm
   have hli := fun w1 hT1 hb => mH 145 (fx.ns.drop (a + 1)).reverse (fx.ns.take a).reverse d d (qf d) fx.B fx.m fx.b k X w1 hT1 (hSX.ext hb) hsp Uz Uz hd127 hXz (fun Y E ec w2 hT2 hy hs => Bh E (d + 1) ec d Y k w2 hT2 hs rfl hd127 hy hk) (fun Y _ => Ab d Y);rw [cx] at hli;have hap := cM (fx.ns.drop (a + 1));have hap2 : au (fx.ns.drop (a + 1)) ≤ 4096 := by
    have h3 : au fx.ns = au (fx.ns.take (a + 1)) * au (fx.ns.drop (a + 1)) := by rw [← du, VA]
    have := Nat.le_mul_of_pos_left (au (fx.ns.drop (a + 1))) (cM (fx.ns.take (a + 1)));omega
   rw [hDX];have hYl : (iT (fx.ns.drop (a + 1)).reverse d d (qf d) X fx.m 0).length = fx.m := by rw [gI, hXl]
   generalize iT (fx.ns.drop (a + 1)).reverse d d (qf d) X fx.m 0 = Y at *;generalize au (fx.ns.drop (a + 1)) = ap at *;refine aj (N := 78) (l := [.agg #[.slice fx.A fx.n fx.a, .slice fx.B fx.m fx.b], .int .i64 a]) Tryz.func55 rfl rfl (by simp) ?_;refine sr ?_;refine cz hh [_,_] ?_;intro b2 w2 hh;refine bW hh ?_;intro b4 w4 hh;refine aI (aa (ah (sr ?_)));refine cE hh 1 [_,_] (mI ?_);refine bD hh (hhas _ (hT.hp hh) hh.below) rfl ?_;intro w13 hh;refine aI (aa (sr (mI ?_)));refine dk (aa (cF (ar (ai (ah (sr (bH ?_)))))));refine bG hh 1 ?_;refine mI ?_;refine df (k := a) bk.out aM.size gO rfl Uz Uz UA ?_;refine bV aM.out rfl ((sD.ext hh.below).ya hgd) UA ?_;refine cW (aa (cF (ar (ai (sr (bH ?_))))));refine bG hh 1 ?_;refine mI ?_;refine bD hh (hof _ hh.below) rfl ?_;intro w35 hh;refine bW hh ?_;intro b7 w7 hh;refine bX hh 0 [_,_] ?_;intro ws hh;replace hh : Hp _ (.blk _ _ [_, _] _ :: _) _ := hh;refine aa (sr (bH ?_));refine bG hh 2 ?_;refine aF (hcl _ hh.below) al.out rfl UA ?_;rintro e_ w38 ⟨A38, c38, rfl, hown_, hb_⟩;refine ⟨_, rfl, ?_⟩;replace hh := hh.aV (x := .row _ _ _ _ _ _) hb_ hown_;obtain ⟨gd, rfl⟩ := hh.cN (i := 0) rfl Uz;have hil := bO fx.ds
   have hm0 : 0 < fx.m := by have := cM fx.ns; omega
   refine gH [_,_] ?_;refine bW hh ?_;intro b8 w8 hh;refine bX hh 0 [_,_] ?_;intro ws hh;replace hh : Hp _ (.blk _ _ [_, _] _ :: _) _ := hh;refine aa (sr (bH ?_));refine bG hh 0 ?_;refine mI ?_;refine cX (k := a) bk.out aM.size rfl rfl Uz Uz UA ?_;refine Jv ?_;refine dW ?_;refine cX (k := a) bk.out aM.size rfl rfl Uz Uz UA ?_;refine bQ hh (i := 1) (vs := [_]) rfl rfl (cK rfl) rfl aM.out rfl Uz rfl ?_;intro ws hh;simp only [UU, Vp] at hh;rw [rS _ Uz] at hh;refine aa (ah (sr ?_));refine cE hh 2 [_,_] (bH ?_);refine bG hh 4 ?_;refine aF (hli _ (hT.hp hh) hh.below) al.out rfl UA ?_;rintro e_ w50 ⟨E, ec, rfl, h4⟩;refine ⟨_, rfl, ?_⟩;replace hh := hh.join h4;clear h4;simp only [UP, UN] at hh;obtain ⟨gn, rfl⟩ := hh.cN (i := 0) rfl Uz;refine aJ (mI (aa (aq ?_)));replace hh := hh.cY 65 3;refine aR [9, 10, 52, 53, 54, 55, 56, 57, 58, 59, 60, 61, 62, 63, 64, 65, 66, 67, 68, 69, 70, 71, 72, 73, 74, 75, 76] 52
    (fun v w' => ∃ (i c1 : Nat) (B : Option Addr), i ≤ fx.m ∧ v = .int .i64 i ∧ Hp w [.row B (mO (mz ap d) Y i).length c1 65 3 (az NR.cells ((mO (mz ap d) Y i).map nR)), .row (some ⟨gn, 0, none⟩) fx.m ec 65 3 (az NR.cells (Y.map nR)), .blk b8 39 [.slice (some ⟨gd, 0, none⟩) fx.n c38, .slice B (mO (mz ap d) Y i).length c1] (0, 0), .row (some ⟨gd, 0, none⟩) fx.n c38 3 1 (bL (fx.ds.set a ((d : Int) - 1))), .blk b7 119 [.int .i64 ((d : Int) + 1), .int .i64 (ap : Int)] (0, 0), .blk b4 39 [.slice none 0 0, .slice none 0 0] (0, 0), .blk b2 39 [.slice fx.A fx.n fx.a, .slice fx.B fx.m fx.b] (0, 0)] w')
    (fun v _ => fx.m - (intOf v).toNat) ?_ ?_
   ·exact ⟨0, 0, none, UI _, rfl, hh⟩
   ·clear hh;rintro ρ' v w' ⟨i, c1, B, hi, rfl, hh⟩;by_cases hlt : i < fx.m
    ·obtain ⟨x, hx⟩ := ak (l := Y) (k := i) Uz;have hxn : (Y.map nR)[i]? = some (nR x) := by rw [UO, hx]; rfl
     have hxd : (Y[i]?).getD 0 = x := by rw [hx]; rfl
     have hcast : ((i : Int) / (ap : Int)) % ((d : Int) + 1) = ((i / ap % (d + 1) : Nat) : Int) := by norm_cast
     have hq0 : (0 : Int) ≤ (i : Int) / (ap : Int) := Int.ediv_nonneg Uz Uz;have hst := Gp (mz ap d) Y i;rw [hxd] at hst;have hfl := Bb (mz ap d) Y i;have hrl := eT NR.len (Y.map nR);have hYl2 : (Y.map nR).length = fx.m := by rw [US]; exact hYl
     have hQ : mz ap d i = decide (i / ap % (d + 1) < d) := rfl;generalize hF : mO (mz ap d) Y i = F at *;by_cases hdg2 : i / ap % (d + 1) < d
     ·rw [hQ, U0 hdg2, UF rfl] at hst;refine sr ?_;refine eh ?_;refine gD ?_;refine OI ?_;refine bW hh ?_;intro b10 w10 hh;refine aI ?_;refine bX hh 0 [_,_,_] ?_;intro ws hh;replace hh : Hp _ (.blk _ _ [_, _, _] _ :: _) _ := hh;refine aa (ah ?_);refine ON ?_;refine dP ?_;refine ef ?_;refine gE 5 ?_;refine Oh ?_;refine ef ?_;refine gE 5 ?_;refine OS ?_;refine ef ?_;refine gE 7 ?_;refine dP ?_;refine aP (i := 10) (Is (.pointer (some (ad0.add (a * 1))))) (Is.ext) ?_ ?_
      ·exact Q9
      refine sM (fun _ hj => (sD.ext hj.hp.below).ya hgd) ?_;refine aT ?_;intro f W hJ hV;have hb_12 := hJ.bl;obtain ⟨v68, v67, v66, v65, v64, v63, v62, v61, v60, v59, v58, v57, _⟩ := hV;replace hh := hJ.hp;refine N2 ?_;dsimp only [cg];clear hJ;refine bh (aa (cT (ao (bH ?_))));refine bG hh 3 ?_;refine cE hh 0 [_,_,_] ?_;refine sw ?_;intro b73 w73 hh;refine NL ?_;intro A74 c74 w74 hh;simp only [UU, Vp] at hh;replace hh := hh.sub (Vs _ _);refine bH ?_;refine bX hh 3 [_] ?_;intro ws hh;replace hh : Hp _ (_ :: _ :: _ :: .blk _ _ [_, _] _ :: _) _ := hh;refine fV ?_;refine bo (mI (aC (ai ?_)));replace hh := hh.sub (UL _ (UG _ (UG _ (UG _ (UG _ (UG _ (UG _ (UG _ Ve))))))));refine ⟨⟨i + 1, c74, A74, Uz, rfl, ?_⟩, by show fx.m - (i + 1) < fx.m - i; omega, ?_⟩
      ·rw [hst, UM, VC, bU];exact hh
      ·exact dQ
     ·rw [hQ, Vf hdg2, UE UA, Vo] at hst;refine sr ?_;refine eh ?_;refine gD ?_;refine OI ?_;refine bW hh ?_;intro b10 w10 hh;refine aI ?_;refine bX hh 0 [_,_,_] ?_;intro ws hh;replace hh : Hp _ (.blk _ _ [_, _, _] _ :: _) _ := hh;refine aa (ah ?_);refine ON ?_;refine dP ?_;refine ef ?_;refine gE 5 ?_;refine Oh ?_;refine ef ?_;refine gE 5 ?_;refine OS ?_;refine ef ?_;refine gE 7 ?_;refine dP ?_;refine aP (i := 10) (Is (.pointer (some (ad0.add (a * 1))))) (Is.ext) ?_ ?_
      ·exact Q9
      refine sM (fun _ hj => (sD.ext hj.hp.below).ya hgd) ?_;refine aT ?_;intro f W hJ hV;have hb_12 := hJ.bl;obtain ⟨v68, v67, v66, v65, v64, v63, v62, v61, v60, v59, v58, v57, _⟩ := hV;replace hh := hJ.hp;refine N2 ?_;dsimp only [cg];clear hJ;refine bh (aa (cF (ar (bE (ai (ao ?_))))));refine bo (mI (aC (ai ?_)));replace hh := hh.sub (UL _ (UG _ (UG _ (UG _ (UG _ (UG _ (UG _ (UG _ Ve))))))));refine ⟨⟨i + 1, c1, B, Uz, rfl, by rw [hst]; exact hh⟩, by show fx.m - (i + 1) < fx.m - i; omega, ?_⟩;exact dQ
    ·obtain rfl : i = fx.m := Uz;refine sr ?_;refine mM ?_;refine cE hh 2 [_,_] ?_;refine bX hh 5 [_,_] ?_;intro ws hh;replace hh : Hp _ (_ :: _ :: _ :: _ :: _ :: .blk _ _ [_, _] _ :: _) _ := hh;refine aI (aa (av ?_));replace hh := hh.sub (UG _ (UL _ (UL _ (UG _ (UL _ (UG _ (UL _ Ve)))))));refine pw ?_;refine ⟨⟨some ⟨gd, 0, none⟩, fx.n, c38, B, (mO (mz ap d) Y fx.m).length, c1, fx.ds.set a ((d : Int) - 1), (mO (mz ap d) Y fx.m).map nR⟩, ⟨hDN.symm, rfl, by show fx.n ≤ 100000; omega, ?_⟩, rfl, hh.sub (Xa [_, _] _)⟩;have := Bb (mz ap d) Y fx.m;show (mO (mz ap d) Y fx.m).length ≤ 1000000;omega
def GV (ds : List Nat) (X : List Dyadic) : Nat → List Dyadic
 | 0 => X
 | k + 1 => gR ds (ds.length - 1 - k) (ej (ds.getD (ds.length - 1 - k) 0) 1 (-1)) (GV ds X k)
theorem Al (ds : List Nat) (X : List Dyadic) (k : Nat) : GV ds X (k + 1) = gR ds (ds.length - 1 - k) (ej (ds.getD (ds.length - 1 - k) 0) 1 (-1)) (GV ds X k) := rfl
theorem Mo (h : X.length = au ds) (k : Nat) : (GV ds X k).length = au ds := by
 cases k with
 | zero => exact h
 | succ k => rw [Al, oG]
theorem F5 {a d : Nat} (hx : ∀ x ∈ X, Sz k x) (hd : ds.getD a 0 = d) (hd7 : d ≤ 127) : ∀ x ∈ gR ds a (ej d 1 (-1)) X, Sz (k + 520) x := fun x h => by
 obtain ⟨p, _, rfl⟩ := UY.1 h;have hr : (cU ds p).getD a 0 ≤ d := by rw [← hd]; exact tO a (nG ds p)
 have h2 := Af (l := List.range (ds.getD a 0 + 1)) (f := fun i => co ds X ((cU ds p).set a i) * ej d 1 (-1) i ((cU ds p).getD a 0)) (k := k + (130 + 2 * (1 * d))) fun i _ => by
  refine Sz.mul ?_ (yI Sz.one (show Sz 1 (-1 : Dyadic) from Sz.one.neg) hd7 hr);exact RY
 rw [WK, hd] at h2;rw [hd];exact h2.mono Uz
theorem Ih {ds : List Nat} {X : List Dyadic} {k : Nat} (h : ∀ x ∈ X, Sz k x) (hd : ∀ d ∈ ds, d ≤ 127) : ∀ i, ∀ x ∈ GV ds X i, Sz (k + 520 * i) x
 | 0 => h
 | i + 1 => fun x hx => (F5 (Ih h hd i) rfl (zJ hd _) x hx).mono Uz
def C5 (b : List SR) (i : Nat) : Dyadic := match b[i]? with | some s => s.H - s.L | none => 0
def wP (b : List SR) (ns es : List Nat) : Nat → Dyadic
 | 0 => 1
 | i + 1 => wP b ns es i * C5 b i ^ (ns.getD i 0 - es.getD i 0)
def jO (ns : List Nat) (p : Nat) : List Nat := (cU ns.reverse p).reverse
def Qu (b : List SR) (ns : List Nat) (C : List Dyadic) (p : Nat) : TR := ⟨fX (bI (jO ns p)), nR (jB C p * wP b ns (jO ns p) b.length)⟩
def mw (b : List SR) (ns : List Nat) (C : List Dyadic) : List TR := (List.range (au ns)).map (Qu b ns C)
def tV (v i : Nat) (s : SR) : List TR := aD (m9 v i ++ k9 v (-s.L))
def mm (b : List SR) : List PX := b.mapIdx fun i s => ⟨b.length, none, 0, 0, tV b.length i s⟩
theorem ub {b : List SR} {i : Nat} {s : SR} (h : b[i]? = some s) : (mm b)[i]? = some ⟨b.length, none, 0, 0, tV b.length i s⟩ := by
 unfold mm;rw [Xx, h]
 rfl
theorem GF (b : List SR) : (mm b).length = b.length := by unfold mm; rw [List.length_mapIdx]
theorem AX {v i : Nat} {s : SR} (h : v ≤ 12) (hs : s.fin k) (hk : k ≤ 100000) : iZ (v : Int) (k + 10) (tV v i s) ∧ (tV v i s).length ≤ 2 := by
 have h1 := sI (i := i) h;have h2 := sP h (SR.MX hs).neg Uz;have hl : (m9 v i ++ k9 v (-s.L)).length ≤ 2 := by
  rw [UM];have a1 : (m9 v i).length ≤ 1 := bM _;have a2 : (k9 v (-s.L)).length ≤ 1 := bM _;omega
 have hm : ∀ {P : TR → Prop}, (∀ t ∈ m9 v i, P t) → (∀ t ∈ k9 v (-s.L), P t) → ∀ t ∈ m9 v i ++ k9 v (-s.L), P t := fun a b t ht => (Vk.1 ht).elim (a t) (b t);refine ⟨(je (k := k + 4) (n := 2) (eu h) (hm (cd h1.e).2.2.1 (cd h2.e).2.2.1) (hm (h1.ok.mono Uz) (h2.ok.mono Uz)) (hm h1.sz h2.sz) hl UA Uz).mono Uz, U1 (bM _) hl⟩
theorem Mb {r : List Nat} (h : ∀ d ∈ r, d ≤ 255) : cv (fX (bI r)) = r := by
 unfold cv fX bI;rw [cP, VE, VE];refine (Ws fun d hd => ?_).trans (List.map_id r);have := h d hd;show (xK (d : Int)).toNat = d;obtain ⟨c, hc, e⟩ := Sd (l := [d]) (i := 0) rfl this;unfold fX bI at hc;rw [cP] at hc;rw [show xK (d : Int) = c from Vl hc];exact e
theorem Fq {ns : List Nat} (p : Nat) : jD ns.reverse (jO ns p).reverse := by unfold jO; rw [XG]; exact nG _ _
theorem mP (ns : List Nat) (p : Nat) : (jO ns p).length = ns.length := by
 have := nx (Fq (ns := ns) p);rwa [Vn, Vn] at this
theorem yF {ns : List Nat} {p i d r : Nat} (hd : ns[i]? = some d) (hr : (jO ns p)[i]? = some r) : r ≤ d := by
 have h1 := (UW.1 hd).1;have h2 := mP ns p;refine ((km _ _).1 (Fq (ns := ns) p)).2 (ns.length - 1 - i) d r ?_ ?_
 ·rw [Ww Uz, show ns.length - 1 - (ns.length - 1 - i) = i by omega]; exact hd
 ·rw [Ww Uz, show (jO ns p).length - 1 - (ns.length - 1 - i) = i by omega]; exact hr
theorem An {ns : List Nat} {B p : Nat} (h : ∀ d ∈ ns, d ≤ B) : ∀ r ∈ jO ns p, r ≤ B := fun r hr => by
 obtain ⟨i, hi⟩ := V6.1 hr;have h1 := (UW.1 hi).1;rw [mP] at h1;obtain ⟨d, hd⟩ := ak (l := ns) (k := i) h1;exact U1 (yF hd hi) (h d (UJ hd))
theorem yb {ns : List Nat} {p : Nat} (h : ∀ d ∈ ns, d ≤ 127) : cv (fX (bI (jO ns p))) = jO ns p := Mb fun r hr => U1 (An h r hr) UA
theorem At (b : List SR) (ns : List Nat) (C : List Dyadic) : (mw b ns C).length = au ns := by simp [mw]
theorem LJ {b : List SR} {ns : List Nat} {C : List Dyadic} {p : Nat} (h : p < au ns) : (mw b ns C)[p]? = some (Qu b ns C p) := by
 unfold mw;rw [UO, Vq h]
 rfl
theorem HC {b : List SR} {ns es : List Nat} {k : Nat} (hb : ∀ s ∈ b, s.fin k) : ∀ i, i ≤ ns.length → Sz (1 + i + (k + 1) * (ns.take i).sum) (wP b ns es i)
 | 0, _ => Sz.one.mono Uz
 | i + 1, hi => by
  have h1 := HC (es := es) (ns := ns) hb i Uz;obtain ⟨d, hd⟩ := ak (l := ns) (k := i) hi;have hg : ns.getD i 0 = d := by rw [VQ, hd]; rfl
  have hw : Sz (k + 1) (C5 b i) := by
   unfold C5
   cases h : b[i]? with
   | none => exact Sz.zero _
   | some s => exact ((SR.QY (hb s (UJ h))).sub (SR.MX (hb s (UJ h)))).mono Uz
  have h2 := hw.BT (show ns.getD i 0 - es.getD i 0 ≤ d by omega);have h3 := h1.mul h2;rw [ay hd, List.sum_append, List.sum_singleton, Vz];exact h3.mono Uz
theorem Pj {b : List SR} {ns : List Nat} {C : List Dyadic} {K : Nat} (hb : ∀ s ∈ b, s.fin k) (hbl : b.length = ns.length) (hC : ∀ x ∈ C, Sz K x) (hlow : ∀ d ∈ ns, d ≤ 127) (hN : ns.length ≤ 100000) (hK : K + (1 + ns.length + (k + 1) * ns.sum) ≤ 2999000) : iu (K + (1 + ns.length + (k + 1) * ns.sum)) (mw b ns C) ∧ (∀ t ∈ mw b ns C, dY (ns.length : Int) t = true) ∧ (∀ t ∈ mw b ns C, t.m.size ≤ 100000 ∧ ∃ p, cv t.m = jO ns p) := by
 refine ⟨fun t ht => ?_, fun t ht => ?_, fun t ht => ?_⟩
 ·obtain ⟨p, hp, rfl⟩ := UY.1 ht;have h1 := HC (ns := ns) (es := jO ns p) hb ns.length (UH _);rw [Xy] at h1;have h2 := (xz hC p).mul h1;show (nR (jB C p * wP b ns (jO ns p) b.length)).ok ∧ Sz _ (nR (jB C p * wP b ns (jO ns p) b.length)).d;rw [hbl, bY];exact ⟨h2.ok Uz, h2⟩
 ·obtain ⟨p, hp, rfl⟩ := UY.1 ht;have h1 := yb (p := p) hlow;have h2 : (fX (bI (jO ns p))).size = ns.length := by rw [← mQ, h1, mP]
  unfold dY;rw [UX, U2];refine ⟨?_, by show ((fX (bI (jO ns p))).size : Int) = _; rw [h2]⟩;unfold ek;rw [Vb];intro c hc;have : c.toNat ∈ cv (fX (bI (jO ns p))) := UY.2 ⟨c, hc, rfl⟩;rw [h1] at this;exact U0 (by have := An hlow c.toNat this; omega)
 ·obtain ⟨p, hp, rfl⟩ := UY.1 ht;have h1 := yb (p := p) hlow;have h2 : (fX (bI (jO ns p))).size = ns.length := by rw [← mQ, h1, mP]
  exact ⟨by show (fX (bI (jO ns p))).size ≤ 100000; omega, p, h1⟩
theorem Ic {b : List SR} {ns : List Nat} {C : List Dyadic} (h12 : ns.length ≤ 12) (hm : ∀ t ∈ mw b ns C, dY (ns.length : Int) t = true) (hc : au ns ≤ 4096) : me (ns.length : Int) (mw b ns C) = 0 := by
 have hl := At b ns C;unfold me;rw [UE, UE Uz, gY Uz];rintro (h | h)
 ·rw [eu h12] at h; cases h
 ·obtain ⟨t, ht, h2⟩ := Wi.1 h;rw [hm t ht] at h2
  cases h2
theorem FT {b : List SR} {os : List PX} {R : List HE} {kb : Nat} (hcp : AR ((mm b).map fun g => ⟨g.v, none, g.ts.length, 0, g.ts⟩) os R) (hol : os.length = b.length) (h12 : b.length ≤ 12) (hb : ∀ s ∈ b, s.fin kb) (hkb : kb ≤ 1000) : ∀ o ∈ os, o.kO (kb + 10) ∧ o.ts.length ≤ 2 := fun o ho => by
 obtain ⟨j, hj⟩ := V6.1 ho;have hjn : j < os.length := (UW.1 hj).1;obtain ⟨s, hs⟩ := ak (l := b) (k := j) Uz;obtain ⟨po, pl⟩ := AX (v := b.length) (i := j) h12 (hb s (UJ hs)) Uz;have hx := ub hs;generalize tV b.length j s = Q at hx po pl;obtain ⟨e1, e2, e3⟩ := hcp.eq j ⟨b.length, none, Q.length, 0, Q⟩ o (by rw [UO, hx]; rfl) hj;replace e2 : o.ts = Q := e2;replace e3 : o.n = Q.length := e3;exact ND
def Nk (b : List SR) (ns : List Nat) (C : List Dyadic) : PX := ⟨(ns.length : Int), none, 0, 0, aD (mw b ns C)⟩
def MA (fx : FX) : List Dyadic := GV fx.ns.reverse (fx.cs.map NR.d) fx.ns.length
def Ac (fx : FX) (b : List SR) : Int × List TR := cV (Nk b fx.ns (MA fx)) (mm b)
def q9 (fx : FX) (b : List SR) : Int := if fx.e ≠ 0 then fx.e else if ko b ≠ 0 then ko b else if b.length ≠ fx.n then 1 else (Ac fx b).1
def sC (n k kb : Nat) (ns : List Nat) : Nat := k + 520 * n + (1 + n + (kb + 1) * ns.sum)
set_option maxRecDepth 10000 in
theorem AJ (fx : FX) (L : Option Addr) (n c : Nat) (b : List SR) (k kb : Nat) (w : World) (hT : eb w) (hf : fx.at_ w) (hl : fx.kO k) (hcap : fx.n ≤ fx.a) (hB : Sl w L n 6 (az SR.cells b)) (hb : ∀ s ∈ b, s.fin kb) (hn : n ≤ 1000000) (hkb : kb ≤ 1000)
  (hK : fx.e = 0 → fx.n = n → sC n k kb fx.ns ≤ 400000) (hgr : fx.e = 0 → fx.n = n → ff (kb + 16394) fx.ns (sC n k kb fx.ns + 4097) ≤ 440000) :
  Calls Tryz.prog 37 #[.agg #[.slice fx.A fx.n fx.a, .slice fx.B fx.m fx.b], .slice L n c] w fun r w' => ∃ g : PX, fg (q9 fx b) n (Ac fx b).2 g ∧ r = .returned (.tuple #[.agg #[.int .i64 g.v, .slice g.A g.n g.c], .int .i64 (q9 fx b)]) ∧ Hp w [g.row] w' := by
 have hh := Hp.start w;have hbl : b.length = n := hB.bq SR.len UA;have hok : ∀ s ∈ b, s.ok := fun s hs => ⟨(hb s hs).1.ok, (hb s hs).2.ok⟩;have hck := fun w1 hT1 hb1 => yZ fx k w1 hT1 (hf.ext hb1) hl;have hbc := fun w1 hT1 hb1 => pI L n c b w1 hT1 (hB.ext hb1) hok hn;by_cases h0 : fx.e = 0
 ·by_cases h1 : ko b = 0
  ·by_cases h2 : n = fx.n
   ·have hE : q9 fx b = (Ac fx b).1 := by unfold q9; rw [UE Uz, UE Uz, UE Uz]
    have hpos : 0 < n := by
     rw [← hbl];by_cases h : b.length = 0
     ·unfold ko at h1;rw [UF h] at h1;split at h1 <;> omega
     ·omega
    obtain ⟨hdeg, hnum, h12, hlow, hcnt, hmax⟩ := FX.fv h0;have hln := hf.ln.1;have hlm := hf.ln.2;have hnl : fx.ns.length = n := by unfold FX.ns; rw [US]; omega
    have hdg : Sl w fx.A fx.n 1 (bL (bI fx.ns)) := by rw [← hdeg]; exact hf.dg
    obtain ⟨X, hX⟩ : ∃ X, X = fx.cs.map NR.d := ⟨_, rfl⟩;have hC : MA fx = GV fx.ns.reverse X n := by unfold MA; rw [hX, hnl]
    rw [← hX] at hnum;have hXl : X.length = au fx.ns := by rw [hX, US]; exact hcnt
    have hXz : ∀ x ∈ X, Sz k x := fun x h => by
     rw [hX] at h;obtain ⟨z, hz, rfl⟩ := UY.1 h;exact (hl.num z hz).2
    have hSX : Sl w fx.B fx.m 3 (az NR.cells (X.map nR)) := by rw [← hnum]; exact hf.nm
    have hmc : fx.m = au fx.ns := Uz;have hK := hK h0 h2.symm;have hgr := hgr h0 h2.symm;have hR : Ac fx b = cV (Nk b fx.ns (MA fx)) (mm b) := rfl;rw [hC] at hR;rw [hE];clear hE hC;generalize Ac fx b = R0 at *;subst hR;have hfo := fun w1 hT1 hb1 => rQ L n c b w1 hT1 (hB.ext hb1) hok hn;generalize fx.ns = ns at *;generalize fx.ds = ds at *;generalize fx.cs = cs at *;have hdgw : ∀ (H : List HE) (w1 : World), Hp w H w1 → Sl w1 fx.A fx.n 1 (bL (bI ns)) := fun H w1 h => hdg.ext h.below;have hgX : ∀ j, (GV ns.reverse X j).length = au ns := fun j => by rw [Mo (by rw [cx]; exact hXl), cx]
    have hgZ := Ih (ds := ns.reverse) hXz (fun d hd => hlow d (Xb.1 hd));rw [h0] at hck;rw [h1] at hbc;refine Fl ?_;refine sr ?_;refine cz hh [_,_] ?_;intro b2 w2 hh;refine bW hh ?_;intro b4 w4 hh;refine aI (aa (ah (sr ?_)));refine cE hh 1 [_,_] ?_;refine eA ?_;intro w28 hh;refine aI (aa (sr (mI ?_)));refine uV ?_;refine bD hh (hbc _ (hT.hp hh) hh.below) rfl ?_;intro w34 hh;refine aI (aa (sr (mI ?_)));refine sa ?_;refine bG hh 1 ?_;refine aJ ?_;refine dk (aa (cF (ar (ai (sr (bH ?_))))));refine bG hh 1 ?_;refine aL (aa (ah (sr (bH ?_))));refine bG hh 1 ?_;refine aJ (mI (aa (aq ?_)));refine bK [8, 9, 51, 52, 53, 54, 55, 56, 57, 58, 59, 60] 8 51
     (fun q v w' => ∃ (j : Nat) (A : Option Addr) (ac : Nat) (R : List HE), j ≤ n ∧ v = .int .i64 j ∧ q = .slice A fx.m ac ∧ (∀ (H : List HE) (w1 : World), Hp w (H ++ R) w1 → Sl w1 A fx.m 3 (az NR.cells ((GV ns.reverse X j).map nR))) ∧ Hp w (.blk b4 24 [.int .i64 0, .slice none 0 0] (0, 0) :: .blk b2 39 [.slice fx.A fx.n fx.a, .slice fx.B fx.m fx.b] (0, 0) :: R) w')
     (fun _ v _ => n - (intOf v).toNat) ?_ ?_
    ·exact ⟨0, fx.B, fx.b, [], UI _, rfl, rfl, fun H w1 h => hSX.ext h.below, hh⟩
    ·clear hh;rintro ρ' q_ v w' ⟨j, A, ac, R, hj, rfl, rfl, hrd, hh⟩;by_cases hlt : j < n
     ·obtain ⟨d, hd⟩ := ak (l := ns) (k := j) Uz;have hd7 := hlow d (UJ hd);have hof := fun w1 hs => lM fx.A fx.n fx.a j d ns w1 hs hcap Uz hd hlow Uz;have hrm : ns.reverse = (ns.drop (j + 1)).reverse ++ d :: (ns.take j).reverse := pY hd;have hcn : fx.m = au ((ns.drop (j + 1)).reverse ++ d :: (ns.take j).reverse) := by rw [← hrm, cx]; exact hmc
      have hli := fun w1 hT1 hS1 => mH 116 (ns.drop (j + 1)).reverse (ns.take j).reverse d (d + 1) (kL d (ej d 1 (-1))) A fx.m ac (k + 520 * j) (GV ns.reverse X j) w1 hT1 hS1 hcn Uz (UH _) hd7 (hgZ j) (fun Y E ec w2 hT2 hy hs => ti E (d + 1) ec d Y (k + 520 * j) w2 hT2 hs rfl hd7 hy (by unfold sC at hK; omega)) (fun Y _ => by simp [kL]);have hM := Jm (M := ej d 1 (-1)) (A := (ns.drop (j + 1)).reverse) (B := (ns.take j).reverse) (X := GV ns.reverse X j) ((hgX j).trans (hmc.symm.trans hcn));have hsu := Al ns.reverse X j;have hgd : ns.reverse.getD (ns.reverse.length - 1 - j) 0 = d := by
       rw [VQ, Ww (by rw [Vn]; omega), Vn, show ns.length - 1 - (ns.length - 1 - j) = j by omega, hd]
       rfl
      rw [hgd, show ns.reverse.length - 1 - j = (ns.drop (j + 1)).reverse.length by rw [Vn, Vn, VY]; omega] at hsu;rw [hgX j, ← hrm, ← hsu, ← hmc] at hM;rw [hM, cx] at hli;clear hM hsu hgd hcn;refine sr ?_;refine bh (aa (ah (cT (ar (ai (ah (aq (sr (mI (aI (aa (ao (bH ?_)))))))))))));refine bG hh 1 ?_;refine mI ?_;refine bD hh (hof _ (hdgw _ _ hh)) rfl ?_;intro w57 hh;refine mL ?_;refine aF (hli _ (hT.hp hh) (hrd [_, _] _ hh)) al.out rfl UA ?_;rintro e_ w59 ⟨E, ec, rfl, h4⟩;refine ⟨_, rfl, ?_⟩;replace hh := hh.join h4;clear h4;simp only [UP, UN] at hh;refine kK ?_;refine bo (mI (aC (ai ?_)));replace hh := hh.sub (UG _ (UG _ (UG _ (VX _))));replace hh := hh.perm (VH (l₁ := [_, _]));simp only [UP, UN] at hh;replace hh := hh.perm (VH (l₁ := [_, _]));simp only [UP, UN] at hh;replace hh := hh.sub (.cons_cons _ (.cons_cons _ (.cons_cons _ (VT _))))
      refine ⟨⟨j + 1, E, ec, [.row E fx.m ec 65 3 (az NR.cells ((GV ns.reverse X (j + 1)).map nR))], Uz, rfl, rfl, fun H w1 h => lT (h.own _ (Wp _ (U4.2 rfl))), hh⟩, by show n - (j + 1) < n - j; omega, ?_⟩;exact dQ
     ·obtain rfl : n = j := Uz;obtain ⟨adC, rfl⟩ : ∃ ad, A = some ad := let ⟨ad, e, _⟩ := (hrd [_, _] _ hh).at_ (by have := cM ns; omega); ⟨ad, e⟩;generalize hCC : GV ns.reverse X n = C at *;have hCl : C.length = au ns := by rw [← hCC]; exact hgX n
      have hCz : ∀ x ∈ C, Sz (k + 520 * n) x := by rw [← hCC]; have := hgZ n; exact this
      clear hgX hgZ;refine sr ?_;refine oe ?_;refine aF (hfo _ (hT.hp hh) hh.below) al.out rfl UA ?_;rintro e_ w62 ⟨A62, c62, rfl, hown_, hb_⟩;refine ⟨_, rfl, ?_⟩;replace hh := hh.aV (x := .row _ _ _ _ _ _) hb_ hown_;obtain ⟨adS, hAS⟩ : ∃ ad, A62 = some ad := let ⟨ad, e, _⟩ := (hh.aA (i := 0) rfl).at_ hpos; ⟨ad, e⟩;rw [hAS] at hh ⊢;clear hAS;refine aL (aa (sr (aL (aa (ah (sr (mL (aJ (mI (aa (aq ?_)))))))))));replace hh := hh.cY 24 2;refine bK [10, 11, 12, 13, 14, 15, 16, 17, 18, 65, 66, 67, 68, 69, 70, 71, 72, 73, 74, 75, 76, 77, 78, 79, 80, 81, 82, 83, 84, 85, 86, 87, 88, 89, 90, 91, 92, 93, 94, 95, 96, 97] 10 65
       (fun a v w' => ∃ (i c3 : Nat) (A : Option Addr) (os : List PX) (R2 : List HE), i ≤ n ∧ v = .int .i64 i ∧ a = .slice A i c3 ∧ os.length = i ∧ AR ((mm b).map fun g => ⟨g.v, none, g.ts.length, 0, g.ts⟩) os R2 ∧ Hp w (.row A i c3 24 2 (az PX.cells os) :: .row (some adS) n c62 81 6 (az SR.cells (b.map SR.f)) :: .blk b4 24 [.int .i64 0, .slice none 0 0] (0, 0) :: .blk b2 39 [.slice fx.A fx.n fx.a, .slice fx.B fx.m fx.b] (0, 0) :: (R2 ++ R)) w')
       (fun _ v _ => n - (intOf v).toNat) ?_ ?_
      ·exact RJ
      ·clear hh;rintro ρ2 a_ v w2 ⟨i, c3, A, os, R2, hi, rfl, rfl, hol, hcp, hh⟩;by_cases hlt2 : i < n
       ·obtain ⟨s, hs⟩ := ak (l := b) (k := i) Uz;have hsf := hb s (UJ hs);have hsn : (b.map SR.f)[i]? = some s.f := by rw [UO, hs]; rfl
        have zL := SR.MX hsf;obtain ⟨po, pl⟩ := AX (v := n) (i := i) Uz hsf Uz;have vo := sI (v := n) (i := i) Uz;have co := sP (v := n) Uz zL.neg Uz;have hva := fun w1 hT1 => uR (n : Int) (i : Int) w1 hT1;rw [Od Uz hlt2] at hva;rw [V8] at hva;have zLo : (nR s.L).ok := zL.ok Uz;have hng := fun w1 hT1 => oZ (nR s.L) w1 hT1 (by have := zLo.1; omega) (by have := zLo.2.1; omega) (by have := zLo.2.2; omega);rw [bY] at hng;have hcn := fun w1 hT1 => jP (n : Int) (nR (-s.L)) kb w1 hT1 ⟨zL.neg.ok Uz, by rw [bY]; exact zL.neg⟩ Uz;rw [Oj Uz] at hcn;have hV : aD [⟨kR n i, nR ((1 : Int) : Dyadic)⟩] = m9 n i := rfl;have hC : aD [⟨dZ n, nR (-s.L)⟩] = k9 n (-s.L) := rfl;have hP : aD (m9 n i ++ k9 n (-s.L)) = tV n i s := rfl;have tl1 : (m9 n i).length ≤ 1 := bM _;have ul1 : (k9 n (-s.L)).length ≤ 1 := bM _;have hps := ub hs;rw [hbl] at hps;rw [hV] at hva;rw [hC] at hcn;clear hV hC;generalize m9 n i = VL at *;generalize k9 n (-s.L) = CL at *;generalize tV n i s = PL at *;obtain ⟨ad', e', hrS⟩ := (hh.aA (i := 1) rfl).at_ hpos;obtain rfl := Vl e';refine sr ?_;refine eh ?_;refine ct ?_;refine cw (vs := [_, _, _, _, _, _]) aM.out rfl (hrS.recAt SR.len hsn) rfl UA ?_
        refine bW hh ?_;intro b12 w12 hh;refine aI ?_;refine bX hh 0 [_,_,_,_,_,_] ?_;intro ws hh;replace hh : Hp _ (.blk _ _ [_, _, _, _, _, _] _ :: _) _ := hh;refine aa (sr (mL (aJ (mI ?_))));replace hh := show Hp w (.blk b12 81 [.bool (nR s.L).neg, .string (nR s.L).bA, .int .i64 (nR s.L).e, .bool (nR s.H).neg, .string (nR s.H).bA, .int .i64 (nR s.H).e] (0, 0) :: _) _ from hh;refine aF (hva _ (hT.hp hh)) al.out rfl UA ?_;rintro e_ w74 ⟨t, ot, rfl, h4⟩;refine ⟨_, rfl, ?_⟩;have htc : t.n ≤ t.c := h4.eM (i := 0) rfl;replace hh := hh.join h4;clear h4;simp only [UP, UN] at hh;obtain ⟨tv, tA, tn, tc, tt⟩ := t;replace hh := show Hp w (.row tA tn tc 96 4 (az TR.cells tt) :: _) _ from hh;have et : VL = tt := ot.t0.symm;have ev_ : tv = (n : Int) := ot.v0;subst et ev_;have tln : VL.length = tn := (hh.aA (i := 0) rfl).bq TR.len UA;refine mT ?_;refine dt ?_;refine dt ?_;refine bW hh ?_;intro b13 w13 hh;refine bX hh 0 [_,_] ?_;intro ws hh;replace hh : Hp _ (.blk _ _ [_, _] _ :: _) _ := hh;refine aI (aa (sr (mL (aJ (bH ?_)))));refine cE hh 2 [_,_,_] ?_;refine bD hh (hng _ (hT.hp hh)) rfl ?_;intro w82 hh;refine aF (hcn _ (hT.hp hh)) al.out rfl UA ?_
        rintro e_ w83 ⟨u, ou, rfl, h4⟩;refine ⟨_, rfl, ?_⟩;have huc : u.n ≤ u.c := h4.eM (i := 0) rfl;replace hh := hh.join h4;clear h4;simp only [UP, UN] at hh;obtain ⟨uv, uA, un, uc, ut⟩ := u;replace hh := show Hp w (.row uA un uc 96 4 (az TR.cells ut) :: _) _ from hh;have et : CL = ut := ou.t0.symm;have ev_ : uv = (n : Int) := ou.v0;subst et ev_;have uln : CL.length = un := (hh.aA (i := 0) rfl).bq TR.len UA;refine mT ?_;refine dt ?_;refine dt ?_;refine bW hh ?_;intro b15 w15 hh;refine bX hh 0 [_,_] ?_;intro ws hh;replace hh : Hp _ (.blk _ _ [_, _] _ :: _) _ := hh;refine aI (aa (sr ?_));refine cE hh 2 [_,_] ?_;refine cE hh 0 [_,_] ?_;refine DU ?_;intro b89 w89 hh;have hlp : fk [⟨n, tA, tn, tc, VL⟩, ⟨n, uA, un, uc, CL⟩] = 0 := ql vo.e co.e rfl;have had := fun A3 w1 hT1 hS1 s1 s2 => oS A3 2 2 [⟨n, tA, tn, tc, VL⟩, ⟨n, uA, un, uc, CL⟩] (kb + 10) w1 hT1 hS1 UA (fun g hg => by
         rcases UZ.1 hg with rfl | hg
         ·exact s1
         ·rw [U4.1 hg]; exact s2) (fun g hg => by
         rcases UZ.1 hg with rfl | hg
         ·exact ⟨by show tn ≤ 1000000; omega, htc, vo.ok.mono Uz, vo.sz⟩
         ·rw [U4.1 hg]; exact ⟨by show un ≤ 1000000; omega, huc, co.ok.mono Uz, co.sz⟩) Uz
        unfold Gm at had;rw [UF hlp, KN] at had;dsimp only at had;rw [hP] at had;rw [gY (l := VL ++ CL) (by rw [UM]; omega)] at had;refine aF (had _ _ (hT.hp hh) (hh.aA (i := 0) rfl) (hh.aA (i := 4) rfl) (hh.aA (i := 2) rfl)) al.out rfl UA ?_;rintro e_ w90 ⟨z, oz, rfl, h4⟩;refine ⟨_, rfl, ?_⟩;have hzc : z.n ≤ z.c := h4.eM (i := 0) rfl;replace hh := hh.join h4;clear h4;simp only [UP, UN] at hh;replace hh := show Hp w (.row z.A z.n z.c 96 4 (az TR.cells z.ts) :: _) _ from hh;have zln : z.ts.length = z.n := (hh.aA (i := 0) rfl).bq TR.len UA;refine mT ?_;refine dt ?_;refine dt ?_;refine bW hh ?_;intro b17 w17 hh;refine bX hh 0 [_,_] ?_;intro ws hh;replace hh : Hp _ (.blk _ _ [_, _] _ :: _) _ := hh;refine aI (aa (ao (mL ?_)));refine cE hh 0 [_,_] ?_;refine cR hh (cs := [_, _]) bk.out aM.out (aN (gU rfl) bZ) rfl rfl UA UA UA rfl UA ?_;intro b95 w95 hh;refine cH hh (i := 9) rfl rfl rfl (hh.aA (i := 0) rfl) bk.out aM.out rfl UA (by first | rfl | exact dz _ | exact dh _ | exact bT _ | exact ck NR.one _) Uz Uz UA ?_;intro A96 c96 w96 hh;simp only [UU, Vp] at hh;replace hh := hh.sub (Vs _ _)
        refine kK ?_;refine bo (mI (aC (ai ?_)));replace hh := hh.sub (UL _ (UG _ (UL _ (UL _ (UL _ (UL _ (UL _ (UL _ (UG _ (UG _ (UG _ (UG _ (VX _)))))))))))));replace hh := hh.perm (VH (l₁ := [_, _, _, _]));simp only [UP, UN] at hh;replace hh := hh.perm (VH (l₁ := [_, _, _, _]));simp only [UP, UN] at hh;replace hh := hh.perm (VH (l₁ := [_, _, _, _]));simp only [UP, UN] at hh;replace hh := hh.perm (VH (l₁ := [_, _, _, _]));simp only [UP, UN] at hh;have hcp2 := hcp.add (g := ⟨n, none, PL.length, 0, PL⟩) (o := z) (by rw [hol, UO, hps]; rfl) ⟨oz.v0, oz.t0, by rw [← zln, oz.t0]⟩ hzc;refine ⟨⟨i + 1, c96, A96, os ++ [z], z.row :: R2, Uz, rfl, rfl, by rw [UM, hol]; rfl, hcp2, by rw [bU, jv]; exact hh⟩, by show n - (i + 1) < n - i; omega, ?_⟩;exact dQ
       ·obtain rfl : n = i := Uz;have hol2 : os.length = ((mm b).map fun g => (⟨g.v, none, g.ts.length, 0, g.ts⟩ : PX)).length := by rw [US, GF]; omega
        have hkey := hcp.key hol2;rw [VE] at hkey;replace hkey : os.map PX.norm = (mm b).map PX.norm := hkey;have hoc : n ≤ c3 := hh.eM (i := 0) rfl;have hn12 : n ≤ 12 := Uz;have hxb : (mw b ns C).length = au ns := At b ns C;obtain ⟨bo1, bo2, bo3⟩ := Pj (C := C) (ns := ns) hb Uz hCz hlow Uz (by rw [hnl]; unfold sC at hK; omega);have hmk := Ic (b := b) (C := C) (ns := ns) Uz bo2 hmax;have hal : xD (bI ns) = sy ns := by unfold xD; rw [show yC 1 (bI ns) = true from Ex ns 1 hlow Uz (UH _)]; rfl
        have hall := fun w1 hD => GZ fx.A fx.n fx.a (bI ns) w1 hD Uz;rw [hal, Ha] at hall;have hrd2 : ∀ (H : List HE) (w1 : World), Hp w (H ++ (R2 ++ R)) w1 → Sl w1 (some adC) fx.m 3 (az NR.cells (C.map nR)) := fun H w1 h => hrd (H ++ R2) w1 (by rw [Vt]; exact h);have hmy := hcp.my;generalize hRR : (R2 ++ R : List HE) = RR at *;refine sr ?_;refine bh (aa (ah (cF (a9 (aE (aE (bC (ai (sr (aL (aa (ah (sr (bH ?_))))))))))))));refine bG hh 3 ?_;refine aF (hall _ (hdgw _ _ hh)) al.out rfl UA ?_;rintro e_ w100 ⟨A100, c100, rfl, hown_, hb_⟩;refine ⟨_, rfl, ?_⟩;replace hh := hh.aV (x := .row _ _ _ _ _ _) hb_ hown_;refine aJ (mI (aa (aq ?_)));replace hh := hh.cY 96 4;refine bK [19, 20, 21, 22, 23, 24, 102, 103, 104, 105, 106, 107, 108, 109, 110, 111, 112, 113, 114, 115, 116, 117, 118, 119, 120, 121, 122, 123, 124, 125, 126, 127, 128, 129, 130, 131, 132, 133, 134, 135, 136, 137, 138, 139, 140, 141, 142, 143, 144, 145, 146, 147, 148] 19 102
         (fun a v w' => ∃ (i c1 : Nat) (D : Option Addr), i ≤ au ns ∧ v = .int .i64 i ∧ a = .slice D i c1 ∧ Hp w (.row D i c1 96 4 (az TR.cells ((mw b ns C).take i)) :: .row A100 (au ns) c100 9 1 (lS (sy ns)) :: .row A n c3 24 2 (az PX.cells os) :: .row (some adS) n c62 81 6 (az SR.cells (b.map SR.f)) :: .blk b4 24 [.int .i64 0, .slice none 0 0] (0, 0) :: .blk b2 39 [.slice fx.A fx.n fx.a, .slice fx.B fx.m fx.b] (0, 0) :: RR) w')
         (fun _ v _ => au ns - (intOf v).toNat) ?_ ?_
        ·exact ⟨0, 0, none, UI _, rfl, rfl, hh⟩
        ·clear hh;rintro ρ3 a_ v w3 ⟨i, c1, D, hi2, rfl, rfl, hh⟩;by_cases hlt3 : i < au ns
         ·obtain ⟨x, hx⟩ := ak (l := C) (k := i) Uz;have hxn : (C.map nR)[i]? = some (nR x) := by rw [UO, hx]; rfl
          have zx := hCz x (UJ hx);have hax : jB C i = x := by unfold jB; rw [hx]; rfl
          have hti := LJ (b := b) (C := C) hlt3;have hms : (lS (sy ns))[i]? = some (.string (fX (bI (jO ns i)))) := by unfold lS; rw [UO, KB hlt3]; rfl
          have hmm := bo2 _ (UJ hti);have hmz := (bo3 _ (UJ hti)).1;have hrl := mP ns i;have hrr : ∀ (q d r : Nat), ns[q]? = some d → (jO ns i)[q]? = some r → r ≤ d := fun q d r h1 h2 => yF h1 h2;have hes := yb (p := i) hlow;unfold Qu at hti hmm hmz;rw [hax] at hti;generalize fX (bI (jO ns i)) = M at *;generalize jO ns i = es at *;have hex : iz M.data.toList = bI es := by rw [jV (by unfold dY at hmm; rw [UX] at hmm; exact hmm.1), lJ, hes]
          have hel : (iz M.data.toList).length = n := by rw [hex, fR]; omega
          have hxp := fun w1 => gQ M w1 hmz;rw [hel, hex] at hxp;obtain ⟨ad', e', hrC⟩ := (hrd2 [_, _, _, _, _, _] _ hh).at_ Uz;obtain rfl := Vl e';obtain ⟨ga, rfl⟩ := hh.cN (i := 1) rfl Uz;refine sr ?_;refine eh ?_;refine gD ?_;refine Jv ?_;refine aI (aS (aa (sr (mL (mI ?_)))));refine df bk.out aM.size rfl rfl rfl Uz UA ?_;refine cw (vs := [_, _, _]) aM.out rfl (hrC.recAt NR.len hxn) rfl UA ?_;refine bW hh ?_;intro b22 w22 hh;refine bX hh 0 [_,_,_] ?_;intro ws hh;replace hh : Hp _ (.blk _ _ [_, _, _] _ :: _) _ := hh;refine aa (ah (sr (mS ?_)));refine aF (hxp _) al.out rfl UA ?_;rintro e_ w112 ⟨A112, c112, rfl, hown_, hb_⟩;refine ⟨_, rfl, ?_⟩;replace hh := hh.aV (x := .row _ _ _ _ _ _) hb_ hown_;refine aJ (mI (aa (aq ?_)));rw [show x = x * wP b ns es 0 by show x = x * 1; rw [Dyadic.mul_one]] at hh;refine aR [23, 24, 114, 115, 116, 117, 118, 119, 120, 121, 122, 123, 124, 125, 126, 127, 128, 129, 130, 131, 132, 133, 134, 135, 136, 137, 138, 139, 140, 141] 114
           (fun v w' => ∃ q : Nat, q ≤ n ∧ v = .int .i64 q ∧ Hp w (.row A112 n c112 3 1 (bL (bI es)) :: .blk b22 65 [.bool (nR (x * wP b ns es q)).neg, .string (nR (x * wP b ns es q)).bA, .int .i64 (nR (x * wP b ns es q)).e] (0, 0) :: .row D i c1 96 4 (az TR.cells ((mw b ns C).take i)) :: .row (some ⟨ga, 0, none⟩) (au ns) c100 9 1 (lS (sy ns)) :: .row A n c3 24 2 (az PX.cells os) :: .row (some adS) n c62 81 6 (az SR.cells (b.map SR.f)) :: .blk b4 24 [.int .i64 0, .slice none 0 0] (0, 0) :: .blk b2 39 [.slice fx.A fx.n fx.a, .slice fx.B fx.m fx.b] (0, 0) :: RR) w')
           (fun v _ => n - (intOf v).toNat) ?_ ?_
          ·exact ⟨0, UI _, rfl, hh⟩
          ·clear hh;rintro ρ4 v w4 ⟨q, hq, rfl, hh⟩;by_cases hqn : q < n
           ·obtain ⟨s, hs⟩ := ak (l := b) (k := q) Uz;obtain ⟨d, hd⟩ := ak (l := ns) (k := q) Uz;obtain ⟨r, hr⟩ := ak (l := es) (k := q) Uz;have hsf := hb s (UJ hs);have hsn : (b.map SR.f)[q]? = some s.f := by rw [UO, hs]; rfl
            have hrd3 := hrr q d r hd hr;have hd7 := hlow d (UJ hd);have hgE := cu (jk hr);have hgD : (bL (bI ns))[q]? = some (.int .i64 (d : Int)) := cu (jk hd);have zW := (SR.QY hsf).sub (SR.MX hsf);have hsu := fun w1 hT1 => j5 (nR s.H) (nR s.L) w1 hT1 ((SR.QY hsf).ok Uz) ((SR.MX hsf).ok Uz) kb (by rw [bY]; exact SR.QY hsf) (by rw [bY]; exact SR.MX hsf) Uz;rw [bY, bY] at hsu;have hwi : wP b ns es (q + 1) = wP b ns es q * (s.H - s.L) ^ (d - r) := by
             show wP b ns es q * C5 b q ^ (ns.getD q 0 - es.getD q 0) = _;rw [show C5 b q = s.H - s.L by unfold C5; rw [hs], VQ, VQ, hd, hr]
             rfl
            have zq := zx.mul (HC (es := es) (ns := ns) hb q Uz);have hsum : (ns.take q).sum ≤ ns.sum := by
             conv => rhs; rw [← VA q ns, List.sum_append]
             omega
            have hsum2 := Vm (kb + 1) hsum;have hnw := zW.nr;have hpm : (d - r) * (nR (s.H - s.L)).bA.size ≤ 1000000 := U1 (V3 (show d - r ≤ 127 by omega) (show (nR (s.H - s.L)).bA.size ≤ 1100 by omega)) UA;have hpw := fun w1 hT1 => uJ (nR (s.H - s.L)) ((d : Int) - (r : Int)) w1 hT1 (zW.ok Uz) (by rw [show ((d : Int) - (r : Int)).toNat = d - r by omega]; exact hpm) Uz;rw [bY, show ((d : Int) - (r : Int)).toNat = d - r by omega] at hpw;have zp := zW.BT (show d - r ≤ 127 by omega);have hm2 := fun A cc w1 hT1 hS1 => eK A 2 cc [nR (x * wP b ns es q), nR ((s.H - s.L) ^ (d - r))] w1 hT1 hS1 (by simpa using ⟨zq.ok (by unfold sC at hK; omega), zp.ok Uz⟩) 600000 (by simpa [bY] using ⟨zq.mono (by unfold sC at hK; omega), zp.mono Uz⟩) Uz Uz;rw [show ik ([nR (x * wP b ns es q), nR ((s.H - s.L) ^ (d - r))].map NR.d) = x * wP b ns es (q + 1) by simp only [U9, VD, bY]; show 1 * (x * wP b ns es q) * _ = _; rw [WO, hwi, Dyadic.mul_assoc]] at hm2;obtain ⟨ad', e', hrS⟩ := (hh.aA (i := 5) rfl).at_ hpos;obtain rfl := Vl e';obtain ⟨adD, hAD, hrD⟩ := (hdgw _ _ hh).at_ Uz
            have gO : Value.slice fx.A fx.n fx.a = .slice (some adD) fx.n fx.a := by rw [hAD]
            clear hwi;generalize x * wP b ns es q = y at *;generalize hy2 : x * wP b ns es (q + 1) = y2 at *;generalize (s.H - s.L) ^ (d - r) = u at *;obtain ⟨ge, rfl⟩ := hh.cN (i := 0) rfl Uz;refine sr ?_;refine eh ?_;refine cX (k := q) bk.out aM.size rfl rfl Uz Uz UA ?_;refine jA ?_;refine aI (aI (aa ?_));refine aZ 20 [[(22, none)], [(1, none)], [(23, none)], [(120, some 1), (121, some 2)], [(122, some 3)], [(123, some 4)], [(1, none)], [(23, none)], [(125, some 6), (126, some 7)], [(127, some 8)], [(128, some 9)], [(124, some 5), (129, some 10)], [(2, none)], [(131, some 12)], [(23, none)], [(132, some 13), (133, some 14)], [(134, some 15)], [(24, none)], [(135, some 16), (136, some 17)], [(130, some 11), (137, some 18)]] [(19, 138), (18, 137), (17, 136), (16, 135), (15, 134), (14, 133), (13, 132), (12, 131), (11, 130), (10, 129), (9, 128), (8, 127), (7, 126), (6, 125), (5, 124), (4, 123), (3, 122), (2, 121), (1, 120), (0, 119)] hh mixed UB ?_;refine fS 1 [_,_,_] ?_;refine gC ?_;refine dP ?_;refine nM (q) ?_;refine KX ?_;refine su [_,_,_] (fun _ hj => ((((hrS.ext hj.bl).recAt SR.len hsn).drop 3).take 3)) ?_;refine gC ?_;refine dP ?_;refine nM (q) ?_;refine KX ?_
            refine su [_,_,_] (fun _ hj => ((((hrS.ext hj.bl).recAt SR.len hsn).drop 0).take 3)) ?_;refine dC (fun _ hj => hsu _ (hT.hp hj.hp)) ?_;refine ef ?_;refine gE 7 ?_;refine dP ?_;refine aP (i := 15) (Is (.pointer (some (adD.add (q * 1))))) (Is.ext) ?_ ?_
            ·intro ρ1 w1 hj hR;exact fi rfl (ie (k := q) bk.out aM.size ((show ρ1 132 = Value.slice _ _ _ from hR.1).trans gO) (show ρ1 133 = Value.int _ _ from hR.2.1) Uz Uz) ⟨Below.refl _ _, rfl⟩
            refine sM (fun _ hj => (hrD.ext hj.bl).ya hgD) ?_;refine dP ?_;refine vN ?_;refine dC (fun _ hj => hpw _ (hT.hp hj.hp)) ?_;refine aT ?_;intro f W hJ hV;have hb_33 := hJ.bl;obtain ⟨v138, v137, v136, v135, v134, v133, v132, v131, v130, v129, v128, v127, v126, v125, v124, v123, v122, v121, v120, v119, _⟩ := hV;replace hh := hJ.hp;refine aY (br (ae v138 (ae v137 (ae v136 (ae v135 (ae v134 (ae v133 (ae v132 (ae v131 (ae v130 (ae v129 (ae v128 (ae v127 (ae v126 (ae v125 (ae v124 (ae v123 (ae v122 (ae v121 (ae v120 (ae v119 aX))))))))))))))))))))) ?_;dsimp only [cg];clear hJ;refine xr ?_;intro b139 w139 hh;refine bD hh (hm2 _ _ _ (hT.hp hh) (hh.aA (i := 0) rfl)) rfl ?_;intro w140 hh;refine bX hh 2 [_,_,_] ?_;intro ws hh;replace hh : Hp _ (_ :: _ :: .blk _ _ [_, _, _] _ :: _) _ := hh;refine fV ?_;refine bo (mI (aC (ai ?_)));replace hh := hh.sub (UL _ (UG _ (UG _ (UG _ (UG _ (UG _ (UG _ (UG _ (UG _ (VX _))))))))))
            refine ⟨⟨q + 1, Uz, rfl, by rw [hy2]; exact hh⟩, by show n - (q + 1) < n - q; omega, ?_⟩;exact dQ
           ·obtain rfl : n = q := Uz;rw [hbl] at hti;refine sr ?_;refine bh (aa (ah (cF (a9 (aE (aE (bC (ai (ao (mL (mS ?_)))))))))));refine cE hh 1 [_,_,_] ?_;refine gH [_,_,_,_] ?_;refine Bj ?_;intro b146 w146 hh;refine Ox ?_;intro A147 c147 w147 hh;simp only [UU, Vp] at hh;replace hh := hh.sub (Vs _ _);refine kK ?_;refine bo (mI (aC (ai ?_)));have e1 : az TR.cells ((mw b ns C).take i) ++ [.string M, .bool (nR (x * wP b ns es n)).neg, .string (nR (x * wP b ns es n)).bA, .int .i64 (nR (x * wP b ns es n)).e] = az TR.cells ((mw b ns C).take (i + 1)) := by rw [ay hti, bU, jv]; rfl
            replace hh := hh.sub (UL _ (UL _ (UG _ (UG _ (UG _ (UG _ (UG _ (UG _ (VX _)))))))));replace hh := show Hp w (.row A147 (i + 1) c147 96 4 (az TR.cells ((mw b ns C).take i) ++ [.string M, .bool (nR (x * wP b ns es n)).neg, .string (nR (x * wP b ns es n)).bA, .int .i64 (nR (x * wP b ns es n)).e]) :: _) _ from hh;rw [e1] at hh;refine ⟨⟨i + 1, c147, A147, Uz, rfl, rfl, hh⟩, by show au ns - (i + 1) < au ns - i; omega, ?_⟩;exact dQ
         ·obtain rfl : au ns = i := Uz;rw [UQ Uz] at hh;have hbz := fun t ht => (bo3 t ht).1;have hmA := fun w1 hT1 hS1 => kI (n : Int) D (au ns) c1 (mw b ns C) (sC n k kb ns) w1 hT1 hS1 Uz Uz (bo1.mono (by rw [hnl]; exact UH _)) hbz;rw [hnl] at hmk bo2;rw [hmk] at hmA;refine sr ?_;refine bh (aa (ah (cF (a9 (aE (aE (bC (ai (sr (mL (aJ (mL ?_))))))))))));refine aF (hmA _ (hT.hp hh) (hh.aA (i := 0) rfl)) al.out rfl UA ?_;rintro e_ w153 ⟨g, og, rfl, h4⟩;refine ⟨_, rfl, ?_⟩;have hgc : g.n ≤ g.c := h4.eM (i := 0) rfl;replace hh := hh.join h4;clear h4;simp only [UP, UN] at hh;obtain ⟨gv, gA, gn, gc, gt⟩ := g;replace hh := show Hp w (.row gA gn gc 96 4 (az TR.cells gt) :: _) _ from hh;replace hgc : gn ≤ gc := hgc;have et : aD (mw b ns C) = gt := og.t0.symm;have ev_ : gv = (n : Int) := og.v0;subst ev_;have gln : gt.length = gn := (hh.aA (i := 0) rfl).bq TR.len UA;have gl2 : gt.length ≤ 4096 := by rw [← et]; exact U1 (bM _) Uz
          have gok : iZ (n : Int) (sC n k kb ns + 4096) gt := by
           rw [← et];exact je (eu hn12) bo2 (bo1.mono (by rw [hnl]; exact UH _)) hbz Uz (UH _) Uz
          have hgex : ∀ (i d : Nat), ns[i]? = some d → d ≤ 127 ∧ ∀ t ∈ gt, eU i t ≤ d := fun i d hd => ⟨hlow d (UJ hd), fun t ht => by
           rw [← et] at ht;obtain ⟨s, hs, e⟩ := fj t ht;obtain ⟨_, p, hp⟩ := bo3 s hs;rw [xI, ← e, hp]
           cases hr : (jO ns p)[i]? with
           | none => exact UI _
           | some r => exact yF hd hr⟩
          have hall := FT hcp Uz Uz hb Uz;have hhv : eZ (mm b) = n := by
           obtain ⟨s, hs⟩ := ak (l := b) (k := 0) Uz;rw [kg (ub hs), hbl]
          obtain ⟨ks, kh⟩ := Fb (o := ⟨(n : Int), gA, gn, gc, gt⟩) (p := Nk b ns C) (by show (n : Int) = (ns.length : Int); omega) et.symm hkey;have hfit : Th ⟨(n : Int), gA, gn, gc, gt⟩ os (sC n k kb ns + 4096) (kb + 10) 2 (kb + 16394) ns := ⟨Uz, hgex, hgr, Uz, Uz, fun g hg => (hall g hg).1, fun g hg => (hall g hg).2⟩;have hsu := fun w1 hT1 ha hs hm hc => p5 ⟨(n : Int), gA, gn, gc, gt⟩ A c3 os (sC n k kb ns + 4096) (kb + 10) 2 (kb + 16394) ns w1 hT1 ha ⟨by show gn ≤ 1000000; omega, hgc, gok.ok, gok.sz⟩ hs hm hc hfit;rw [ks, kh, hhv, hol] at hsu;generalize cV (Nk b ns C) (mm b) = R0 at *;refine mT ?_;refine dt ?_;refine dt ?_;refine bW hh ?_;intro b25 w25 hh;refine bX hh 0 [_,_] ?_;intro ws hh;replace hh : Hp _ (.blk _ _ [_, _] _ :: _) _ := hh;refine aI (aa (ah (sr (mI ?_))));refine wV ?_;refine cE hh 0 [_,_] (mL ?_);refine aF (hsu _ (hT.hp hh) (hh.aA (i := 1) rfl) (hh.aA (i := 4) rfl) (fun z hz => D6 hh (UT _ (UT _ (UT _ (UT _ (UT _ (UT _ (UT _ (UT _ (hRR ▸ WB R (hmy z hz).1)))))))))) hoc) al.out rfl UA ?_
          rintro e_ w162 ⟨z, oz, rfl, h4⟩;refine ⟨_, rfl, ?_⟩;replace hh := hh.join h4;clear h4;simp only [UP, UN] at hh;refine dt ?_;refine dt ?_;refine bX hh 7 [_,_] ?_;intro ws hh;replace hh : Hp _ (_ :: _ :: _ :: _ :: _ :: _ :: _ :: .blk _ _ [_, _] _ :: _) _ := hh;refine aI (aa (av ?_));refine QZ (eQ rfl (eN (vs := [_, _]) aM.out (hh.cn (i := 7) (n := 2) rfl rfl) rfl) (kj (lI rfl) gF)) ?_;exact ⟨z, oz, rfl, hh.sub (UG _ (VT _))⟩
   ·have hE : q9 fx b = 1 := by unfold q9; rw [UE Uz, UE Uz, UF Uz]
    rw [h0] at hck;rw [h1] at hbc;rw [hE];have hln := hf.ln.1;refine Fl ?_;refine sr ?_;refine cz hh [_,_] ?_;intro b2 w2 hh;refine bW hh ?_;intro b4 w4 hh;refine aI (aa (ah (sr ?_)));refine cE hh 1 [_,_] ?_;refine eA ?_;intro w28 hh;refine aI (aa (sr (mI ?_)));refine uV ?_;refine bD hh (hbc _ (hT.hp hh) hh.below) rfl ?_;intro w34 hh;refine aI (aa (sr (mI ?_)));refine sa ?_;refine bG hh 1 ?_;refine aJ ?_;refine dk (aa (cT (sr ?_)));refine gH [_,_] ?_;exact RW
  ·have hE : q9 fx b = ko b := by unfold q9; rw [UE Uz, UF h1]
   rw [h0] at hck;rw [hE];refine Fl ?_;refine sr ?_;refine cz hh [_,_] ?_;intro b2 w2 hh;refine bW hh ?_;intro b4 w4 hh;refine aI (aa (ah (sr ?_)));refine cE hh 1 [_,_] ?_;refine eA ?_;intro w28 hh;refine aI (aa (sr (mI ?_)));refine uV ?_;refine bD hh (hbc _ (hT.hp hh) hh.below) rfl ?_;intro w34 hh;exact NJ
 ·have hE : q9 fx b = fx.e := by unfold q9; rw [UF h0]
  rw [hE];refine Fl ?_;refine sr ?_;refine cz hh [_,_] ?_;intro b2 w2 hh;refine bW hh ?_;intro b4 w4 hh;refine aI (aa (ah (sr ?_)));refine cE hh 1 [_,_] ?_;refine eA ?_;intro w28 hh;exact NJ
section
variable {P : Program} {N : Nat} {Q : Kd} {ρ : Rf} {w : World}
theorem WD.mono {c : Code} {Q' : Kd} (h : WD P N c Q ρ w) (hq : ∀ e M ρ w, Q e M ρ w → Q' e M ρ w) : WD P N c Q' ρ w :=
 ⟨fun M a hf n => wpIn_mono (h.out M a hf n) fun e a' w' ⟨M', ρ', hf', hk⟩ => ⟨M', ρ', hf', hq e M' ρ' w' hk⟩⟩
theorem I8 {c : Code} (mods : List Nat) (s0 s1 : Nat) (I : List Nat → Value → Value → World → Prop) (μ : Value → Value → World → Nat) (h0 : I [] (ρ s0) (ρ s1) w)
  (round : ∀ M ρ' v0 v1 w', I M v0 v1 w' → WD P N c (fun e M2 ρ2 w2 => y3 (fun M3 ρ2 w2 => I M3 (ρ2 s0) (ρ2 s1) w2 ∧ μ (ρ2 s0) (ρ2 s1) w2 < μ v0 v1 w' ∧ iO mods ρ2 ρ) Q e (M2 ++ M) ρ2 w2) (cI (cI (mask mods ρ' ρ) s0 v0) s1 v1) w') : WD P N (.loop c) Q ρ w :=
 Mm (fun M ρ1 w1 => I M (ρ1 s0) (ρ1 s1) w1 ∧ iO mods ρ1 ρ) (fun ρ1 w1 => μ (ρ1 s0) (ρ1 s1) w1) ⟨h0, fun _ _ => rfl⟩ fun M ρ1 w1 ⟨hi, ha⟩ => by
  have h := round M ρ1 (ρ1 s0) (ρ1 s1) w1 hi;rw [iW ha, gN, gN] at h;exact h.mono fun e M2 ρ2 w2 hq => by
   cases e with
   | normal => exact ⟨⟨hq.1, hq.2.2⟩, hq.2.1⟩
   | _ => exact hq
theorem Qy {id : Nat} {next : List Nat → Rf → World → Prop} (h : next M ρ w) : Kz (uN M (KP id (y3 next Q))) .normal ρ w := h
theorem Ii {M0 : List Nat} {next : List Nat → Rf → World → Prop} (h : next (M ++ M0) ρ w) : Kz (uN M (fun e M2 ρ2 w2 => y3 next Q e (M2 ++ M0) ρ2 w2)) .normal ρ w := h
theorem K7 {M0 : List Nat} {id : Nat} {next next' : List Nat → Rf → World → Prop} (h : next' M0 ρ w) : Kz (fun e M2 ρ2 w2 => y3 next (KP id (y3 next' Q)) e (M2 ++ M0) ρ2 w2) (.exit id) ρ w := by
 show if id = id then y3 next' Q .normal ([] ++ M0) ρ w else y3 next' Q (.exit id) ([] ++ M0) ρ w
 rw [UF rfl];exact h
end
structure Marks (w0 : World) (M : List Nat) (w : World) : Prop where
 at_ : ∀ D ∈ M, w0.heap.size ≤ D ∧ w.heap[D]? = some (.deferred (some []))
 nd : M.Nodup
theorem DZ (M : List Nat) : (p9 M).filterMap HE.id = M := by
 induction M with
 | nil => rfl
 | cons D M ih => rw [show p9 (D :: M) = .ob D (.deferred (some [])) :: p9 M from rfl, Wm, show HE.id (.ob D (.deferred (some []))) = some D from rfl]; simp only [ih]
theorem Hp.marks {H : List HE} (h : Hp w0 (H ++ p9 M) w) : Marks w0 M w := by
 refine ⟨fun D hD => h.own (.ob D (.deferred (some []))) (Wp _ (List.mem_map_of_mem (f := fun D => HE.ob D (.deferred (some []))) hD)), ?_⟩;have := h.nd;rw [W7, DZ] at this;exact (XI.1 this).2.1
theorem Hp.QJ {H : List HE} (h : Hp w0 H w) (hc : ∀ x ∈ H, x.QX = true) (hm : Marks w0 M w) : Hp w0 (H ++ p9 M) w := by
 refine ⟨h.below, fun x hx => ?_, ?_⟩
 ·rcases Vk.1 hx with hx | hx
  ·exact h.own x hx
  ·obtain ⟨D, hD, rfl⟩ := UY.1 hx;exact hm.at_ D hD
 ·rw [W7, DZ];refine XI.2 ⟨h.nd, hm.nd, fun a ha b hb e => ?_⟩;subst e;obtain ⟨y, hy, hyb⟩ := VF.1 ha;obtain ⟨o', h2, h3⟩ := u5 (h.own y hy) (hc y hy) hyb;rw [(hm.at_ a hb).2] at h2
  cases h2
  cases h3
theorem Marks.keeps (h : Marks w0 M w) (hk : KeepsOthers w w') : Marks w0 M w' := ⟨fun D hD => ⟨(h.at_ D hD).1, hk.2 D _ (h.at_ D hD).2 rfl⟩, h.nd⟩
theorem Marks.grown {ws : World} (h : Marks w0 M w) (hlt : ∀ D ∈ M, D < ws.heap.size) {row : Option Nat} (hg : w.grownBy w' row) (hr : ∀ r, row = some r → ws.heap.size ≤ r) : Marks w0 M w' := by
 refine ⟨fun D hD => ⟨(h.at_ D hD).1, ?_⟩, h.nd⟩;have h1 := (h.at_ D hD).2;refine (hg.block D (Xw.1 h1).1 fun e => ?_).trans h1;have := hr D e.symm;have := hlt D hD;omega
theorem Marks.lt (h : Marks w0 M w) : ∀ D ∈ M, D < w.heap.size := fun D hD => (Xw.1 (h.at_ D hD).2).1
theorem Marks.cons {ws : World} {D : Nat} (h : Marks w0 M w) (hlt : ∀ D ∈ M, D < ws.heap.size) (h0 : w0.heap.size ≤ ws.heap.size) (hD : ws.heap.size ≤ D) (h1 : w.heap[D]? = some (.deferred (some []))) : Marks w0 (D :: M) w := by
 refine ⟨fun E hE => ?_, WM.2 ⟨fun hm => ?_, h.nd⟩⟩
 ·rcases UZ.1 hE with rfl | hE
  ·exact ⟨Uz, h1⟩
  ·exact h.at_ E hE
 ·have := hlt D hm;omega
theorem Hp.Qq {L : List HE} (h : Hp w0 L w) (hs : (p9 M).Sublist L) : Marks w0 M w := Hp.marks (H := []) (h.sub hs)
theorem Hp.P7 {x y : HE} {T T' : List HE} (hs : Hp w0 (x :: T) w) (hc : ∀ z ∈ x :: T, z.QX = true) (he : Hp w0 (y :: (T' ++ C2 w0.heap.size ((x :: T).filterMap HE.id) w)) w') (hid : T'.filterMap HE.id = T.filterMap HE.id) (hy : y.id = some b) : KeepsOthers w w' := by
 have hoth : ∀ k, k < w.heap.size → w0.heap.size ≤ k → k ∉ (x :: T).filterMap HE.id → ∃ o, w.heap[k]? = some o ∧ HE.ob k o ∈ C2 w0.heap.size ((x :: T).filterMap HE.id) w := fun k hk h0 hm => ⟨w.heap[k], WZ hk, VF.2 ⟨k, Vi.2 hk, by
  unfold Nl;rw [UF ⟨h0, by simpa using hm⟩, WZ hk]
  rfl⟩⟩
 have hob : ∀ z ∈ C2 w0.heap.size ((x :: T).filterMap HE.id) w, z ∈ y :: (T' ++ C2 w0.heap.size ((x :: T).filterMap HE.id) w) := fun z hz => UT _ (Wp _ hz);have hbl := dO (he.own y UR) hy;have hnd := he.nd;rw [Wm, hy] at hnd;have hnd1 := (WM.1 hnd).1;refine ⟨?_, fun k o h1 h2 => ?_⟩
 ·rcases WG w.heap.size with h | h
  ·omega
  ·have hk : w.heap.size - 1 < w.heap.size := Uz;by_cases h0 : w.heap.size - 1 < w0.heap.size
   ·have := he.size;omega
   ·by_cases hm : w.heap.size - 1 ∈ (x :: T).filterMap HE.id
    ·rw [Wm] at hm;have hT : w.heap.size - 1 ∈ T.filterMap HE.id → w.heap.size ≤ w'.heap.size := fun hm => by
      obtain ⟨z, hz, hzb⟩ := VF.1 (hid ▸ hm);have := (dO (he.own z (UT _ (WB _ hz))) hzb).2;omega
     split at hm
     ·exact hT hm
     ·rename_i r hr
      rcases UZ.1 hm with e | hm
      ·by_cases hb : b < w.heap.size
       ·by_cases hbk : b = w.heap.size - 1
        ·omega
        ·exfalso;by_cases hbm : b ∈ (x :: T).filterMap HE.id
         ·rw [Wm, hr] at hbm
          rcases UZ.1 hbm with e2 | hbm
          ·omega
          ·rw [← hid] at hbm;exact hnd1 (by rw [W7]; exact WB _ hbm)
         ·obtain ⟨o, _, h3⟩ := hoth b hb hbl.1 hbm;exact hnd1 (by rw [W7]; exact Wp _ (VF.2 ⟨_, h3, rfl⟩))
       ·omega
      ·exact hT hm
    ·obtain ⟨o, _, h3⟩ := hoth _ hk Uz hm;have := (dO (he.own _ (hob _ h3)) rfl).2;omega
 ·have hk := (Xw.1 h1).1;by_cases h0 : k < w0.heap.size
  ·exact (he.below.block k h0).trans ((hs.below.block k h0).symm.trans h1)
  ·by_cases hm : k ∈ (x :: T).filterMap HE.id
   ·obtain ⟨z, hz, hzb⟩ := VF.1 hm;obtain ⟨o', h3, h4⟩ := u5 (hs.own z hz) (hc z hz) hzb;rw [h1] at h3
    cases h3
    rw [h2] at h4
    cases h4
   ·obtain ⟨o', h3, h4⟩ := hoth k hk Uz hm;rw [h1] at h3
    cases h3
    exact (he.own _ (hob _ h4)).2
def l0 (d : Nat) (t : Dyadic) (xs : List Dyadic) (i : Nat) : Dyadic := sm (List.range i) fun r => jB xs r * fW d r t
theorem G5 (d : Nat) (t : Dyadic) (xs : List Dyadic) (i : Nat) : l0 d t xs (i + 1) = l0 d t xs i + jB xs i * fW d i t := by
 unfold l0;rw [Wy, jh]
theorem xN {d i : Nat} {t : Dyadic} (hx : ∀ x ∈ xs, Sz k x) (ht : Sz q t) (ht1 : Sz q (1 - t)) (hi : i ≤ d + 1) : Sz (k + (2 + 2 * (q * d)) + i) (l0 d t xs i) := by
 have h2 := Af (l := List.range i) (f := fun r => jB xs r * fW d r t) (k := k + (2 + 2 * (q * d))) fun r hr => by
  have hr := Vi.1 hr;unfold fW;exact ((xz hx r).mul ((ht.BT (show r ≤ d by omega)).mul (ht1.BT (show d - r ≤ d by omega)))).mono Uz
 rw [WK] at h2;exact h2
theorem vH (tn : NR) (t : Dyadic) (bt bl : Addr) (L : Option Addr) (n c d : Nat) (xs : List Dyadic) (k q : Nat) (w : World) (hT : eb w) (hS : Sl w L n 3 (az NR.cells (xs.map nR))) (hn : n = d + 1) (hd : d ≤ 127) (hx : ∀ x ∈ xs, Sz k x) (vt : N5 q tn t) (ht1 : Sz q (1 - t))
  (hb1 : Rd w bt [.bool tn.neg, .string tn.bA, .int .i64 tn.e]) (hb2 : Rd w bl [.bool (nR (1 - t)).neg, .string (nR (1 - t)).bA, .int .i64 (nR (1 - t)).e]) (hk : k ≤ 500000) (hq : q ≤ 2000) :
  Calls Tryz.prog 191 #[.slice L n c, .pointer (some bt), .pointer (some bl)] w fun r w' => r = .returned (.agg #[.bool (nR (l0 d t xs (d + 1))).neg, .string (nR (l0 d t xs (d + 1))).bA, .int .i64 (nR (l0 d t xs (d + 1))).e]) ∧ Below w.heap.size w w' := by
 have hh := Hp.start w;have hln : xs.length = n := by have := hS.bq NR.len UA; simpa using this
 have hqd : q * d ≤ 2000 * 127 := V3 hq hd;have ht := vt.sz;have hpw : ∀ (sn : NR) (z : Dyadic), N5 q sn z → ∀ (i : Nat), i ≤ d → ∀ w1, eb w1 → Calls Tryz.prog 51 #[.agg #[.bool sn.neg, .string sn.bA, .int .i64 sn.e], .int .i64 (i : Int)] w1 fun r w' => r = .returned (.agg #[.bool (nR (z ^ i)).neg, .string (nR (z ^ i)).bA, .int .i64 (nR (z ^ i)).e]) ∧ Below w1.heap.size w1 w' := fun sn z hz i hi w1 hT1 => by
  have h1 := hz.bA;have h2 : i * sn.bA.size ≤ 127 * 2001 := V3 Uz Uz;have := uJ sn i w1 hT1 hz.ok (by rw [V8]; omega) Uz;rwa [hz.d, V8] at this
 obtain ⟨ad, rfl, hr⟩ := hS.at_ Uz;refine aj (N := 35) (l := [.slice (some ad) n c, .pointer (some bt), .pointer (some bl)]) Tryz.func191 rfl rfl (by simp) ?_;refine sr ?_;refine bW hh ?_;intro b4 w4 hh;refine aa (sr (mL (aJ ?_)));refine dW (aI (aa (sr ?_)));refine bW hh ?_;intro b6 w6 hh;refine vX ?_;refine aR [7, 8, 14, 15, 16, 17, 18, 19, 20, 21, 22, 23, 24, 25, 26, 27, 28, 29, 30, 31, 32, 33] 14
  (fun v w' => ∃ i : Nat, i ≤ n ∧ v = .int .i64 i ∧ Hp w [.blk b6 65 [.bool (nR (l0 d t xs i)).neg, .string (nR (l0 d t xs i)).bA, .int .i64 (nR (l0 d t xs i)).e] (0, 0), .blk b4 65 [.bool false, .string (ByteArray.mk #[]), .int .i64 0] (0, 0)] w')
  (fun v _ => n - (intOf v).toNat) ?_ ?_
 ·exact ⟨0, UI _, rfl, hh⟩
 ·clear hh;rintro ρ' v w' ⟨i, hi, rfl, hh⟩;by_cases hlt : i < n
  ·obtain ⟨x, hxi⟩ := ak (l := xs) (k := i) Uz;have hxn : (xs.map nR)[i]? = some (nR x) := by rw [UO, hxi]; rfl
   have hat : jB xs i = x := by unfold jB; rw [hxi]; rfl
   have zx := hx x (UJ hxi);have hpa := hpw tn t vt i Uz;have hpb := hpw (nR (1 - t)) (1 - t) (N5.of ht1 hq) (d - i) Uz;have zp := ht.BT (show i ≤ d by omega);have zq := ht1.BT (show d - i ≤ d by omega);have zo := xN (d := d) (i := i) hx ht ht1 Uz;have zy := (zx.mul zp).mul zq;have hst := G5 d t xs i;unfold fW at hst;rw [hat, ← Dyadic.mul_assoc] at hst;have hm3 := fun A cc w1 hT1 hS1 => eK A 3 cc [nR x, nR (t ^ i), nR ((1 - t) ^ (d - i))] w1 hT1 hS1 (by simpa using ⟨zx.ok Uz, zp.ok Uz, zq.ok Uz⟩) 600000 (by simpa [bY] using ⟨zx.mono Uz, zp.mono Uz, zq.mono Uz⟩) Uz Uz;rw [show ik ([nR x, nR (t ^ i), nR ((1 - t) ^ (d - i))].map NR.d) = x * t ^ i * (1 - t) ^ (d - i) by simp only [U9, VD, bY]; show 1 * x * _ * _ = _; rw [WO]] at hm3;generalize x * t ^ i * (1 - t) ^ (d - i) = y at *;have hsum := fun A cc w1 hT1 hS1 => jd A 2 cc [nR (l0 d t xs i), nR y] w1 hT1 hS1 (by simpa using ⟨zo.ok Uz, zy.ok Uz⟩) 2000000 (by simpa [bY] using ⟨zo.mono Uz, zy.mono Uz⟩) Uz;rw [show mA ([nR (l0 d t xs i), nR y].map NR.d) = l0 d t xs i + y by simp only [U9, VD, bY, k0], ← hst] at hsum;generalize hS2 : l0 d t xs (i + 1) = S2 at *
   generalize l0 d t xs i = S1 at *;have e27 : (n : Int) - 1 - (i : Int) = ((d - i : Nat) : Int) := Uz;refine sr ?_;refine eh ?_;refine um ?_;refine IH ?_;refine bW hh ?_;intro b8 w8 hh;refine aI ?_;refine bX hh 0 [_,_,_] ?_;intro ws hh;replace hh : Hp _ (.blk _ _ [_, _, _] _ :: _) _ := hh;refine aa ?_;rw [← e27] at hpb;refine aZ 12 [[(6, none)], [(8, none)], [(1, none)], [(7, none)], [(21, some 2), (22, some 3)], [(2, none)], [(5, none)], [(7, none)], [(25, some 6), (26, some 7)], [(24, some 5), (27, some 8)], [(20, some 1), (23, some 4), (28, some 9)], [(29, some 10)]] [(11, 30), (10, 29), (9, 28), (8, 27), (7, 26), (6, 25), (5, 24), (4, 23), (3, 22), (2, 21), (1, 20), (0, 19)] hh mixed UB ?_;refine fS 1 [_,_,_] ?_;refine fS 0 [_,_,_] ?_;refine su [_,_,_] (fun _ hj => hb1.ext hj.hp.below) ?_;refine dP ?_;refine dC (fun _ hj => hpa _ (hT.hp hj.hp)) ?_;refine su [_,_,_] (fun _ hj => hb2.ext hj.hp.below) ?_;refine dP ?_;refine dP ?_;refine vN ?_;refine dC (fun _ hj => hpb _ (hT.hp hj.hp)) ?_;refine sA [_,_,_,_,_,_,_,_,_] ?_;refine aP (i := 11) (Is (.agg #[.bool (nR y).neg, .string (nR y).bA, .int .i64 (nR y).e])) Is.ext ?_ ?_
   ·intro ρ1 w1 hj hR;obtain ⟨A29, c29, h29, s29⟩ := hR.1;exact a7 rfl (aK al.out (aw h29 aW)) (hm3 A29 c29 _ (hT.hp hj.hp) s29) (fun _ _ hq => ⟨_, hq.1, hq.2, rfl⟩)
   refine aT ?_;intro f W hJ hV;have hb_6 := hJ.bl;obtain ⟨v30, v29, v28, v27, v26, v25, v24, v23, v22, v21, v20, v19, _⟩ := hV;obtain ⟨A29, c29, e29, f29⟩ : Rows _ _ _ (f 10) W := v29;replace hh := hJ.hp;refine aY (br (ae v30 (ae e29 (ae v28 (ae v27 (ae v26 (ae v25 (ae v24 (ae v23 (ae v22 (ae v21 (ae v20 (ae v19 aX))))))))))))) ?_;dsimp only [cg];clear e29 hJ;refine xr ?_;intro b31 w31 hh;refine bD hh (hsum _ _ _ (hT.hp hh) (hh.aA (i := 0) rfl)) rfl ?_;intro w32 hh;refine bX hh 2 [_,_,_] ?_;intro ws hh;replace hh : Hp _ (_ :: _ :: .blk _ _ [_, _, _] _ :: _) _ := hh;refine fV ?_;refine bo (mI (aC (ai ?_)));replace hh := hh.sub (UL _ (UL _ (UG _ (UG _ Ve))));refine ⟨⟨i + 1, Uz, rfl, by rw [hS2]; exact hh⟩, by show n - (i + 1) < n - i; omega, ?_⟩;exact dQ
  ·obtain rfl : i = n := Uz;rw [show i = d + 1 from hn] at hh;refine sr ?_;refine mM ?_;refine cE hh 0 [_,_,_] ?_;exact P2
theorem yo (tn : NR) (t : Dyadic) (q : Nat) (w : World) (hT : eb w) (vt : N5 q tn t) (hq : q ≤ 2000) :
  Calls Tryz.prog 125 #[.agg #[.bool tn.neg, .string tn.bA, .int .i64 tn.e]] w fun r w' => ∃ b1 b3, r = .returned (.func (.func 191) #[] #[.pointer (some ⟨b1, 0, none⟩), .pointer (some ⟨b3, 0, none⟩)]) ∧ Hp w [.blk b3 65 [.bool (nR (1 - t)).neg, .string (nR (1 - t)).bA, .int .i64 (nR (1 - t)).e] (0, 0), .blk b1 65 [.bool tn.neg, .string tn.bA, .int .i64 tn.e] (0, 0)] w' := by
 have hh := Hp.start w;have hof : ∀ w1, eb w1 → Calls Tryz.prog 50 #[.int .i64 1] w1 fun r w' => r = .returned (.agg #[.bool (nR (1 : Dyadic)).neg, .string (nR (1 : Dyadic)).bA, .int .i64 (nR (1 : Dyadic)).e]) ∧ Below w1.heap.size w1 w' := fun w1 hT1 => jW 1 w1 hT1 UA UA;have hsb := fun w1 hT1 => j5 (nR (1 : Dyadic)) tn w1 hT1 (Sz.one.ok Uz) vt.ok (q + 1) (by rw [bY]; exact Sz.one.mono Uz) (by rw [vt.d]; exact vt.sz.mono Uz) Uz;simp only [bY, vt.d] at hsb;refine aj (N := 8) (l := [.agg #[.bool tn.neg, .string tn.bA, .int .i64 tn.e]]) Tryz.func125 rfl rfl (by simp) ?_;refine sr ?_;refine cz hh [_,_,_] ?_;intro b1 w1 hh;refine j8 (by first | exact sY rfl | exact sZ rfl) UA ?_;refine aa (ah ?_);refine aZ 4 [[], [(1, none)], [(4, some 0), (5, some 1)], []] [(3, 3), (2, 6), (1, 5), (0, 4)] hh mixed UB ?_;refine dC (fun _ hj => hof _ (hT.hp hj.hp)) ?_;refine fS 0 [_,_,_] ?_;refine dC (fun _ hj => hsb _ (hT.hp hj.hp)) ?_;refine aP (i := 3) (dw _ 65 _) dw.ext (fun ρ1 w1 hj hR => kd aM.out hj.bl (fun v w2 h hb => ⟨hb, h⟩)) ?_;refine aT ?_;intro f W hJ hV;have hb_1 := hJ.bl;obtain ⟨v3, v6, v5, v4, _⟩ := hV;obtain ⟨b3, e3, hl3, hc3⟩ : dw _ _ _ (f 3) W := v3;replace hh := hJ.newVar hh hl3 hc3
 refine aY (br (ae e3 (ae v6 (ae v5 (ae v4 aX))))) ?_;dsimp only [cg];clear e3 hJ;refine bX hh 0 [_,_,_] ?_;intro ws hh;replace hh : Hp _ (.blk _ _ [_, _, _] _ :: _) _ := hh;refine aa (sr ?_);exact RB
theorem Sl.part {l : List NR} (h : Sl w (some ad) n 3 (az NR.cells l)) (p m : Nat) (hpm : p + m ≤ n) (hm : 0 < m) : Sl w (some (ad.add (p * 3))) m 3 (az NR.cells ((l.drop p).take m)) := by
 have hl := h.bq NR.len UA;obtain ⟨ad', e, r⟩ := h.2 Uz;obtain rfl : ad = ad' := Vl e;refine ⟨by rw [eT NR.len, U6, VY, hl, VM Uz], fun _ => ⟨_, rfl, fun j u hu => ?_⟩⟩;rw [l5];refine r (p * 3 + j) u ?_;rw [← kX NR.len, ← jU NR.len, Wq] at hu;split at hu
 ·rw [Wt] at hu;exact hu
 ·cases hu
def mR (K q : Nat) (X : List Dyadic) : List Dyadic := (X.drop (q * K)).take K
theorem wG (K q : Nat) (X : List Dyadic) : ((X.map nR).drop (q * K)).take K = (mR K q X).map nR := by unfold mR; rw [XB, Xr]
theorem q8 {K : Nat} {x : Dyadic} (h : x ∈ mR K q X) : x ∈ X := XR (WX h)
theorem xd {d : Nat} (t : Dyadic) (X : List Dyadic) : l0 d t (mR (d + 1) q X) (d + 1) = sm (List.range (d + 1)) fun r => (X[r + (d + 1) * q]?).getD 0 * fW d r t := by
 unfold l0;refine bg fun r hr => ?_;have hr := Vi.1 hr;unfold jB mR;rw [Wq, UF hr, Wt, show q * (d + 1) + r = r + (d + 1) * q by rw [Vg]; omega]
theorem I4 {d : Nat} (t : Dyadic) (X : List Dyadic) (h : q < m) : (lj d t m X)[q]? = some (l0 d t (mR (d + 1) q X) (d + 1)) := by
 unfold lj;rw [UO, Vq h, xd]
 rfl
theorem Kt {d : Nat} {t : Dyadic} (hx : ∀ x ∈ X, Sz k x) (ht : Sz q t) (ht1 : Sz q (1 - t)) : ∀ x ∈ lj d t m X, Sz (k + (2 + 2 * (q * d)) + (d + 1)) x := fun x h => by
 obtain ⟨p, _, rfl⟩ := UY.1 h;rw [← xd];exact xN (fun y hy => hx y (q8 hy)) ht ht1 (UH _)
theorem B9 {ns : List Nat} {ts : List Dyadic} {i d : Nat} {t : Dyadic} (X : List Dyadic) (hd : ns[i]? = some d) (ht : ts[i]? = some t) : od (ns.take (i + 1)).reverse (ts.take (i + 1)).reverse X = od (ns.take i).reverse (ts.take i).reverse (lj d t (au (ns.take i)) X) := by
 rw [ay hd, ay ht, List.reverse_append, List.reverse_append];show od (d :: (ns.take i).reverse) (t :: (ts.take i).reverse) X = _;rw [od, cx]
def Jt (fx : FX) (m : Nat) : Int := if fx.e ≠ 0 then fx.e else if m ≠ fx.n then 1 else 0
def MO (fx : FX) (tn : List NR) : Dyadic := if Jt fx tn.length = 0 then gB fx.ns.reverse (fx.cs.map NR.d) (tn.map NR.d).reverse else 0
variable {fuel : Nat} {next : Rf → World → Prop} {rs : List Nat}
section
variable {P : Program} {N : Nat} {Q : Kq} {ρ : Rf} {w : World} {ro : Option Nat} {D : List Deferred}
structure WR (ro : Option Nat) (D : List Deferred) (P : Program) (N : Nat) (ops : Array Oper) (Q : Kq) (fuel : Nat) (L : Array Bool) (ρ : Rf) (w : World) : Prop where
 out : ∀ a, ew N D a ρ → ∀ n, wpAnyIn (FW ro) n P .any ops (dx N D Q) fuel L a w
theorem yd {F : Fence} {o : Oper} {a : Act} {K : Act → World → Prop} {r : Result Next} (h : o.uponIn F n P a K (dx N D (cD next Q)) r) : o.uponIn F n P a K (dx N D Q) r := by
 have hp : ∀ c a w, dx N D (cD next Q) (.panic c) a w → dx N D Q (.panic c) a w := fun _ _ _ h => h;have ho : LetsOut (dx N D (cD next Q)) → LetsOut (dx N D Q) := fun ⟨a, w, h⟩ => ⟨a, w, h⟩
 cases r with
 | ok n w' =>
  cases n <;> simp only [Oper.uponIn] at h ⊢ <;> first
   | exact h
   | exact ⟨h.1, CallsIn.mono h.2 (fun e w'' he => by cases e <;> first | exact he | exact hp _ _ _ he | exact ho he)⟩
   | exact ⟨h.1, RoundIn.mono h.2 (fun e w'' he => by cases e <;> first | exact he | exact hp _ _ _ he | exact ho he)⟩
 | halt x w' => cases x <;> simp only [Oper.uponIn] at h ⊢ <;> first | exact h | exact hp _ _ _ h | exact ho h
theorem yp {L : Array Bool} (hr : Region.ready .any ops L = rs) (hne : rs ≠ [])
  (h : ∀ i ∈ rs, ∃ o, ops[i]? = some o ∧ WL ⟨ro, D, true⟩ P N ops (cD (fun ρ w => WR ro D P N ops Q fuel (L.setIfInBounds i true) ρ w) Q) [o] ρ w) : WR ro D P N ops Q (fuel + 1) L ρ w := by
 refine ⟨fun a hf n => ⟨fun e => absurd (hr.symm.trans e) hne, fun i hi => ?_⟩⟩;rw [hr] at hi;obtain ⟨o, ho, hw⟩ := h i hi;have h1 := hw.jM a hf n;have hK : ∀ a w, wpListIn (FW ro) n P ops (dx N D (cD (fun ρ w => WR ro D P N ops Q fuel (L.setIfInBounds i true) ρ w) Q)) [] a w → wpAnyIn (FW ro) n P .any ops (dx N D Q) fuel (L.setIfInBounds i true) a w := fun a w ⟨ρ', hf', hq⟩ => by
  have hq' : WR ro D P N ops Q fuel (L.setIfInBounds i true) ρ' w := hq;exact hq'.out a hf' n
 unfold wpOpIn;rw [ho];simp only [];unfold wpListIn at h1;split at h1
 ·rename_i hwt;rw [UF hwt];have h2 := Oper.wpIn_mono hK h1;unfold Oper.wpIn at h2 ⊢;exact ⟨h2.1, yd h2.2⟩
 ·rename_i hwt;rw [UE hwt];exact ⟨h1.1, hK _ _ h1.2⟩
theorem QP {L : Array Bool} (hr : Region.ready .any ops L = []) (h : Q .normal ρ w) : WR ro D P N ops Q fuel L ρ w :=
 ⟨fun a hf n => by
  cases fuel with
  | zero => exact ⟨hr, ρ, hf, h⟩
  | succ fuel => exact ⟨fun _ => ⟨ρ, hf, h⟩, fun i hi => by rw [hr] at hi; cases hi⟩⟩
theorem Ib {id : Nat} {l : List Oper} {H : List HE} (hh : Hp w0 H w) (hm : P.follows .mixedOrders = true) (h : ∀ w', JJ w0 H w w' → WR ro D P N l.toArray Q l.length (Array.replicate l.length false) ρ w') : WC ⟨ro, D, true⟩ P N (.region id l.toArray true) Q ρ w := by
 refine ⟨fun h => (by cases h), fun a hf n => wpIn_region_any hm ?_⟩;have hb : Below w.heap.size w ({ w with drawn := w.drawn + 1 } : World) := ⟨rfl, rfl, rfl, UH _, fun _ _ => rfl⟩;have := (h _ ((JJ.start hh).ext hb)).out a hf n;simpa using this
theorem xM {F : Fence} {o : Oper} {a : Act} {K : Act → World → Prop} {Q1 Q2 : Exit → Act → World → Prop} {r : Result Next} (hq : ∀ e a w, Q1 e a w → Q2 e a w) (h : o.uponIn F n P a K Q1 r) : o.uponIn F n P a K Q2 r := by
 have ho : LetsOut Q1 → LetsOut Q2 := fun ⟨a, w, h⟩ => ⟨a, w, hq _ _ _ h⟩
 cases r with
 | ok n w' =>
  cases n <;> simp only [Oper.uponIn] at h ⊢ <;> first
   | exact h
   | exact ⟨h.1, CallsIn.mono h.2 (fun e w'' he => by cases e <;> first | exact he | exact hq _ _ _ he | exact ho he)⟩
   | exact ⟨h.1, RoundIn.mono h.2 (fun e w'' he => by cases e <;> first | exact he | exact hq _ _ _ he | exact ho he)⟩
 | halt x w' => cases x <;> simp only [Oper.uponIn] at h ⊢ <;> first | exact h | exact hq _ _ _ h | exact ho h
theorem rg {o : Oper} {A B : Rf → World → Prop} (h : WL ⟨ro, D, true⟩ P N ops (cD A pO) [o] ρ w) (hi : ∀ ρ w, A ρ w → B ρ w) : WL ⟨ro, D, true⟩ P N ops (cD B Q) [o] ρ w := by
 refine ⟨fun h => (by cases h), fun a hf n => ?_⟩;have h1 := h.jM a hf n;have hq : ∀ e a w, dx N D (cD A pO) e a w → dx N D (cD B Q) e a w := fun e a w ⟨ρ', hf', hk⟩ => ⟨ρ', hf', by
  cases e with
  | normal => exact hi _ _ hk
  | _ => exact hk.elim⟩
 unfold wpListIn at h1 ⊢;split at h1
 ·rename_i hwt;rw [UF hwt];have h2 := Oper.wpIn_mono (K' := wpListIn (FW ro) n P ops (dx N D (cD B Q)) []) (fun a w h => hq .normal a w h) h1;unfold Oper.wpIn at h2 ⊢;exact ⟨h2.1, xM hq h2.2⟩
 ·rename_i hwt;rw [UE hwt];exact ⟨h1.1, hq .normal _ _ h1.2⟩
theorem Iv {o0 o1 o2 o3 o4 o5 o6 : Oper} {I : Bool → Bool → Bool → Bool → Bool → Rf → World → Prop} {J K : Rf → World → Prop}
  (e0 : ops[0]? = some o0) (e1 : ops[1]? = some o1) (e2 : ops[2]? = some o2) (e3 : ops[3]? = some o3) (e4 : ops[4]? = some o4) (e5 : ops[5]? = some o5) (e6 : ops[6]? = some o6)
  (r0 : Region.ready .any ops #[false, false, false, false, false, false, false] = [0, 1, 2])
  (r1 : Region.ready .any ops #[false, true, false, false, false, false, false] = [0, 2])
  (r2 : Region.ready .any ops #[false, false, true, false, false, false, false] = [0, 1])
  (r3 : Region.ready .any ops #[false, true, true, false, false, false, false] = [0, 3])
  (r4 : Region.ready .any ops #[false, true, true, true, false, false, false] = [0, 4])
  (r5 : Region.ready .any ops #[false, true, true, true, true, false, false] = [0])
  (q0 : Region.ready .any ops #[true, false, false, false, false, false, false] = [1, 2])
  (q1 : Region.ready .any ops #[true, true, false, false, false, false, false] = [2])
  (q2 : Region.ready .any ops #[true, false, true, false, false, false, false] = [1])
  (q3 : Region.ready .any ops #[true, true, true, false, false, false, false] = [3])
  (q4 : Region.ready .any ops #[true, true, true, true, false, false, false] = [4])
  (q5 : Region.ready .any ops #[true, true, true, true, true, false, false] = [5])
  (q6 : Region.ready .any ops #[true, true, true, true, true, true, false] = [6])
  (q7 : Region.ready .any ops #[true, true, true, true, true, true, true] = [])
  (s0 : ∀ a b e g ρ w, I false a b e g ρ w → WL ⟨ro, D, true⟩ P N ops (cD (fun ρ w => I true a b e g ρ w) pO) [o0] ρ w)
  (s1 : ∀ c b ρ w, I c false b false false ρ w → WL ⟨ro, D, true⟩ P N ops (cD (fun ρ w => I c true b false false ρ w) pO) [o1] ρ w)
  (s2 : ∀ c a ρ w, I c a false false false ρ w → WL ⟨ro, D, true⟩ P N ops (cD (fun ρ w => I c a true false false ρ w) pO) [o2] ρ w)
  (s3 : ∀ c ρ w, I c true true false false ρ w → WL ⟨ro, D, true⟩ P N ops (cD (fun ρ w => I c true true true false ρ w) pO) [o3] ρ w)
  (s4 : ∀ c ρ w, I c true true true false ρ w → WL ⟨ro, D, true⟩ P N ops (cD (fun ρ w => I c true true true true ρ w) pO) [o4] ρ w)
  (s5 : ∀ ρ w, I true true true true true ρ w → WL ⟨ro, D, true⟩ P N ops (cD J pO) [o5] ρ w)
  (s6 : ∀ ρ w, J ρ w → WL ⟨ro, D, true⟩ P N ops (cD K pO) [o6] ρ w)
  (fin : ∀ ρ w, K ρ w → Q .normal ρ w) (st : I false false false false false ρ w) : WR ro D P N ops Q 7 #[false, false, false, false, false, false, false] ρ w := by
 have one : ∀ {fuel : Nat} {L : Array Bool} {i : Nat} {o : Oper} {ρ : Rf} {w : World} {A : Rf → World → Prop}, Region.ready .any ops L = [i] → ops[i]? = some o → WL ⟨ro, D, true⟩ P N ops (cD A pO) [o] ρ w → (∀ ρ w, A ρ w → WR ro D P N ops Q fuel (L.setIfInBounds i true) ρ w) → WR ro D P N ops Q (fuel + 1) L ρ w := fun hr ho h hi =>
  yp hr (by simp) fun j hj => by
   obtain rfl := U4.1 hj;exact ⟨_, ho, rg h hi⟩
 have two : ∀ {fuel : Nat} {L : Array Bool} {i j : Nat} {o p : Oper} {ρ : Rf} {w : World} {A B : Rf → World → Prop}, Region.ready .any ops L = [i, j] → ops[i]? = some o → ops[j]? = some p → WL ⟨ro, D, true⟩ P N ops (cD A pO) [o] ρ w → (∀ ρ w, A ρ w → WR ro D P N ops Q fuel (L.setIfInBounds i true) ρ w) → WL ⟨ro, D, true⟩ P N ops (cD B pO) [p] ρ w → (∀ ρ w, B ρ w → WR ro D P N ops Q fuel (L.setIfInBounds j true) ρ w) → WR ro D P N ops Q (fuel + 1) L ρ w := fun hr ho hp h hi h2 hi2 =>
  yp hr (by simp) fun k hk => by
   rcases UZ.1 hk with rfl | hk
   ·exact ⟨_, ho, rg h hi⟩
   ·obtain rfl := U4.1 hk;exact ⟨_, hp, rg h2 hi2⟩
 have n7 : ∀ ρ w, K ρ w → WR ro D P N ops Q 0 #[true, true, true, true, true, true, true] ρ w := fun ρ w h => QP q7 (fin ρ w h);have n6 : ∀ ρ w, J ρ w → WR ro D P N ops Q 1 #[true, true, true, true, true, true, false] ρ w := fun ρ w h => one q6 e6 (s6 ρ w h) n7;have n5 : ∀ ρ w, I true true true true true ρ w → WR ro D P N ops Q 2 #[true, true, true, true, true, false, false] ρ w := fun ρ w h => one q5 e5 (s5 ρ w h) n6;have n4 : ∀ ρ w, I true true true true false ρ w → WR ro D P N ops Q 3 #[true, true, true, true, false, false, false] ρ w := fun ρ w h => one q4 e4 (s4 true ρ w h) n5;have m5 : ∀ ρ w, I false true true true true ρ w → WR ro D P N ops Q 3 #[false, true, true, true, true, false, false] ρ w := fun ρ w h => one r5 e0 (s0 _ _ _ _ ρ w h) n5;have m4 : ∀ ρ w, I false true true true false ρ w → WR ro D P N ops Q 4 #[false, true, true, true, false, false, false] ρ w := fun ρ w h => two r4 e0 e4 (s0 _ _ _ _ ρ w h) n4 (s4 false ρ w h) m5;have n3 : ∀ ρ w, I true true true false false ρ w → WR ro D P N ops Q 4 #[true, true, true, false, false, false, false] ρ w := fun ρ w h => one q3 e3 (s3 true ρ w h) n4
 have m3 : ∀ ρ w, I false true true false false ρ w → WR ro D P N ops Q 5 #[false, true, true, false, false, false, false] ρ w := fun ρ w h => two r3 e0 e3 (s0 _ _ _ _ ρ w h) n3 (s3 false ρ w h) m4;have n1 : ∀ ρ w, I true true false false false ρ w → WR ro D P N ops Q 5 #[true, true, false, false, false, false, false] ρ w := fun ρ w h => one q1 e2 (s2 true true ρ w h) n3;have n2 : ∀ ρ w, I true false true false false ρ w → WR ro D P N ops Q 5 #[true, false, true, false, false, false, false] ρ w := fun ρ w h => one q2 e1 (s1 true true ρ w h) n3;have m1 : ∀ ρ w, I false true false false false ρ w → WR ro D P N ops Q 6 #[false, true, false, false, false, false, false] ρ w := fun ρ w h => two r1 e0 e2 (s0 _ _ _ _ ρ w h) n1 (s2 false true ρ w h) m3;have m2 : ∀ ρ w, I false false true false false ρ w → WR ro D P N ops Q 6 #[false, false, true, false, false, false, false] ρ w := fun ρ w h => two r2 e0 e1 (s0 _ _ _ _ ρ w h) n2 (s1 false true ρ w h) m3;have n0 : ∀ ρ w, I true false false false false ρ w → WR ro D P N ops Q 6 #[true, false, false, false, false, false, false] ρ w := fun ρ w h => two q0 e1 e2 (s1 true false ρ w h) n1 (s2 true false ρ w h) n2
 refine yp r0 (by simp) fun k hk => ?_
 rcases UZ.1 hk with rfl | hk
 ·exact ⟨_, e0, rg (s0 _ _ _ _ ρ w st) n0⟩
 ·rcases UZ.1 hk with rfl | hk
  ·exact ⟨_, e1, rg (s1 false false ρ w st) m1⟩
  ·obtain rfl := U4.1 hk;exact ⟨_, e2, rg (s2 false false ρ w st) m2⟩
end
end Go.Proofs.YteeckcbbnegmcaaGreatDoor
