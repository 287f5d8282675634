/- Lemmas for castOrder, part 5. -/
import Derived.Test.YtioilmppidlbnaaGreatDoorZ4
/- slices.Chunk of a slice of numbers, and what it yields. -/
namespace Go.Proofs.YtioilmppidlbnaaGreatDoor
open Go.RowKit
theorem xE {P : Program} {ρ : Rf} {w : World} {d : Option Nat} {ty : TypeId} {pos : String} {af : Array Edge} {g : Option (Nat × Bool)} {t e : TypeId} {x lo hi mx : Operand} {ad : Addr} {n c l h q sz : Nat} {k1 k2 k3 : IntKind} {m1 m2 m3 : Int}
  (ht : P.underlying t = some (.slice e)) (hsz : (P.info? e).map (·.size) = some sz) (hx : ev ρ x = .slice (some ad) n c) (hlo : ev ρ lo = .int k1 m1) (hhi : ev ρ hi = .int k2 m2) (hmx : ev ρ mx = .int k3 m3) (e1 : m1 = (l : Int)) (e2 : m2 = (h : Int)) (e3 : m3 = (q : Int))
  (h1 : l ≤ h) (h2 : h ≤ q) (h3 : q ≤ c) (h4 : l < q) : (execOp (ev ρ) ⟨d, .slice t x (some lo) (some hi) (some mx), ty, pos, af, g⟩).run P w = .ok (.value (.slice (some (ad.add (l * sz))) (h - l) (q - l))) w := by
 obtain ⟨i, hi1, hi2⟩ := Option.map_eq_some_iff.1 hsz
 subst e1 e2 e3 hi2
 have a1 : (l : Int) ≤ h := by omega
 have a2 : (h : Int) ≤ q := by omega
 have a3 : (q : Int) ≤ c := by omega
 have a4 : ¬ q = l := by omega
 have a5 : ¬ q - l = 0 := by omega
 simp [execOp, hx, Instr.sliceAt, Instr.slice, run_underlying ht, Instr.sliceBounds, Instr.sliceBound, asIntOf, hlo, hhi, hmx, h1, h2, h3, a4, a5, sizeOf, typeInfo, hi1]
theorem pB (A : Option Addr) (n c K : Nat) (w : World) (hK : 1 ≤ K) :
  Calls Tryz.prog 70 #[.slice A n c, .int .i64 K] w fun r w' => ∃ b2 b3, r = .returned (.func (.func 122) #[] #[.pointer (some ⟨b2, 0, none⟩), .pointer (some ⟨b3, 0, none⟩)]) ∧ Hp w [.blk b3 3 [.int .i64 K] (0, 0), .blk b2 26 [.slice A n c] (0, 0)] w' := by
 have hh := Hp.start w
 refine aj (N := 9) (l := [.slice A n c, .int .i64 K]) Tryz.func70 rfl rfl (by simp) ?_
 refine sr ?_
 refine cY hh [_] ?_
 intro b2 w2 hh
 refine cY hh [_] ?_
 intro b3 w3 hh
 refine gW (by first | exact fU rfl | exact fW rfl) (by decide) ?_
 refine aa (ah (sr ?_))
 refine bJ hh 0 ?_
 refine aQ (aa (cF (al (ai (sr ?_)))))
 refine jK rfl (aF (oN rfl) (aF (oN rfl) bz)) (by decide) ?_
 refine gW (by first | exact fU rfl | exact fW rfl) (by decide) ?_
 refine aa (aq ?_)
 refine cu ?_
 exact ⟨_, _, rfl, hh⟩
def pN (b2 b3 : Nat) (W W' : World) : Prop := W'.cell? ⟨b2, 0, none⟩ = W.cell? ⟨b2, 0, none⟩ ∧ W'.cell? ⟨b3, 0, none⟩ = W.cell? ⟨b3, 0, none⟩
theorem mq {W W' : World} (h : Below W.heap.size W W') : W.grownBy W' none := ⟨h.os, h.tape, h.output, h.size, fun k hk _ => h.block k hk⟩
theorem u6 {b2 b3 : Nat} {A B C : World} (h : pN b2 b3 A B) (k : pN b2 b3 B C) : pN b2 b3 A C := ⟨k.1.trans h.1, k.2.trans h.2⟩
theorem vI {b2 b3 : Nat} {w : World} (h2 : b2 < w.heap.size) (h3 : b3 < w.heap.size) (W : World) (l : Nat) (o o' : Obj) (hl : w.heap.size ≤ l) : pN b2 b3 W (W.putObj l o') :=
 ⟨World.cell?_of_block (World.putObj_heap_other (fun e => by simp at e; omega)), World.cell?_of_block (World.putObj_heap_other (fun e => by simp at e; omega))⟩
theorem sU (b2 b3 : Nat) (ad : Addr) (n c K m : Nat) (w : World) (h2 : w.cell? ⟨b2, 0, none⟩ = some (.slice (some ad) n c)) (h3 : w.cell? ⟨b3, 0, none⟩ = some (.int .i64 K)) (hn : n = m * K) (hK : 0 < K) (hc : n ≤ c) (hb : n ≤ 1000000) (hKb : K ≤ 1000000) :
  ∀ N1, SeqStopsK Fence.wide N1 Tryz.prog 122 #[.pointer (some ⟨b2, 0, none⟩), .pointer (some ⟨b3, 0, none⟩)] (fun j : Fin m => #[.slice (some (ad.add (j.val * K * 3))) K K]) (pN b2 b3) (fun xs => xs = List.finRange m) (fun _ => True) m w := by
 intro N1 l J Jx W hW hAb hAbx hY h0
 refine callsIn_wide.2 ?_
 show Calls _ _ #[.func (.yield l) #[] #[], .pointer (some ⟨b2, 0, none⟩), .pointer (some ⟨b3, 0, none⟩)] W _
 have hAbd : ∀ xs W1 W2, J xs W1 → Below W1.heap.size W1 W2 → J xs W2 := fun xs W1 W2 h hb => hAb xs W1 W2 none h (mq hb) (fun r e => nomatch e)
 have c2 := eh hW h2
 have c3 := eh hW h3
 refine qh (N := 31) (l := [.func (.yield l) #[] #[], .pointer (some ⟨b2, 0, none⟩), .pointer (some ⟨b3, 0, none⟩)]) Tryz.func122 rfl rfl (by simp) ?_
 refine sr (aI (aa (ak ?_)))
 refine bE [4, 5, 6, 7, 8, 9, 10, 11, 12, 13, 14, 15, 16, 17, 18, 19, 20, 21, 22, 23, 24, 25, 26, 27, 28, 29, 30] 4
  (fun v w' => ∃ j : Nat, j ≤ m ∧ v = .int .i64 ((j * K : Nat) : Int) ∧ J ((List.finRange m).take j) w' ∧ w'.cell? ⟨b2, 0, none⟩ = some (.slice (some ad) n c) ∧ w'.cell? ⟨b3, 0, none⟩ = some (.int .i64 K))
  (fun v _ => n + 1 - (intOf v).toNat) ?_ ?_
 ·exact ⟨0, Nat.zero_le _, by rw [Nat.zero_mul]; rfl, h0, c2, c3⟩
 ·clear c2 c3 h0
  rintro ρ' v w' ⟨j, hj, rfl, hJj, c2, c3⟩
  have hh := Hp.start w'
  by_cases hlt : j < m
  ·have h5 : (j + 1) * K ≤ m * K := Nat.mul_le_mul_right _ hlt
   have h6 : (j + 1) * K = j * K + K := Nat.succ_mul j K
   refine ah (sr (mI ?_))
   refine bh aE.out rfl (c2) (by decide) ?_
   refine a8 ?_
   refine aQ (aa (cT (al (ai (ah (ak (ah ?_)))))))
   refine tX ?_
   refine aR 5 [[(2, none)], [(1, none)], [(4, none)], [(14, some 1), (15, some 2)], [(16, some 3)]] [(4, 17), (3, 16), (2, 15), (1, 14), (0, 13)] hh mixed (by kernel_rfl) ?_
   refine oR (fun _ hj => eh hj.bl c3) ?_
   refine oR (fun _ hj => eh hj.bl c2) ?_
   refine fg ?_
   refine br (i := 3) (fun ρ1 w1 hj hR => pr (l := (j * K)) aK.out aE.size (show ρ1 14 = Value.slice _ _ _ from hR.1) (show ρ1 15 = Value.int _ _ from hR.2.1) (by omega) (by omega) (by omega)) ?_
   refine um ?_
   refine bp ?_
   intro f W hJ hV
   have hb_3 := hJ.bl
   obtain ⟨v17, v16, v15, v14, v13, _⟩ := hV
   replace hh := hJ.hp
   refine a6 (bq (ae v17 (ae v16 (ae v15 (ae v14 (ae v13 a0)))))) ?_
   dsimp only [cz]
   clear hJ
   have hmin : (if ((n - j * K : Nat) : Int) < (K : Int) then ((n - j * K : Nat) : Int) else (K : Int)) = (K : Int) := if_neg (by omega)
   refine ru rfl rfl (by decide) ?_
   rw [hmin]
   have c2' := eh hh.below c2
   have c3' := eh hh.below c3
   have hJ2 := hAbd _ _ _ hJj hh.below
   have hfr : (List.finRange m)[j]? = some ⟨j, hlt⟩ := by rw [List.getElem?_eq_getElem (by rw [List.length_finRange]; exact hlt), List.getElem_finRange]; rfl
   have hy := hY ((List.finRange m).take j) ⟨j, hlt⟩ _ hJ2 (by rw [List.length_take, List.length_finRange]; omega)
   refine aI (aa (sr ?_))
   refine fO (by first | exact fU rfl | exact fW rfl) (by decide) ?_
   refine bh aE.out rfl (c2') (by decide) ?_
   refine mI (mI (mI ?_))
   refine bA (mI (mI ?_))
   refine bA ?_
   refine aT rfl rfl (by decide) (xE aK.out aE.size (rW rfl) rfl rfl rfl (l := j * K) (h := j * K + K) (q := j * K + K) rfl (by omega) (by omega) (by omega) (by omega) (by omega) (by omega)) ?_
   have e28 : j * K + K - j * K = K := by omega
   rw [e28]
   refine uc rfl (aF (rW rfl) bz) hy (by decide) ?_
   rintro e_ w29 (⟨rfl, hJ3, hk⟩ | ⟨rfl, hJx⟩)
   ·refine ⟨_, rfl, ?_⟩
    have c2'' := hk.1.trans c2'
    have c3'' := hk.2.trans c3'
    refine th ?_
    refine aa (cF (al (aU (ai (ao (mI ?_))))))
    refine bh aE.out rfl (c3'') (by decide) ?_
    refine bA (aI (aD (ai ?_)))
    refine ⟨⟨j + 1, hlt, ?_, by rw [bk hfr]; exact hJ3, c2'', c3''⟩, ?_, ?_⟩
    ·show Value.int _ (((j * K : Nat) : Int) + (K : Int)) = _
     rw [h6]
     rfl
    ·show n + 1 - (((j * K : Nat) : Int) + (K : Int)).toNat < n + 1 - ((j * K : Nat) : Int).toNat
     omega
    ·(repeat (first | exact aw _ _ _ | refine az rfl ?_ | refine av rfl ?_))
   ·refine ⟨_, rfl, ?_⟩
    refine th ?_
    refine aa (cT (aq (cH (a7 (a7 (cH ?_))))))
    refine tW (by first | exact .inr rfl | exact .inl rfl) rfl ?_
    exact ⟨⟨_, rfl⟩, .inr ⟨_, trivial, hJx⟩⟩
  ·obtain rfl : j = m := by omega
   refine ah (sr (mI ?_))
   refine bh aE.out rfl (c2) (by decide) ?_
   refine a8 ?_
   refine aQ (aa (cF ?_))
   refine aZ ?_
   refine aA (aA (bo ?_))
   refine tW (by first | exact .inr rfl | exact .inl rfl) rfl ?_
   rw [List.take_of_length_le (by rw [List.length_finRange]; omega)] at hJj
   exact ⟨⟨_, rfl⟩, .inl ⟨_, rfl, hJj⟩⟩
end Go.Proofs.YtioilmppidlbnaaGreatDoor
/- Plain laws: a line of numbers, parted. No program in sight. -/
namespace Go.Proofs.YtioilmppidlbnaaGreatDoor
def gR (d : Nat) (a b : Dyadic) (i k : Nat) : Dyadic := if k < i then 0 else nD (bin (d - i) (k - i)) * a ^ i * b ^ (k - i)
theorem xJ (d : Nat) (s : Dyadic) : gR d s (1 - s) = oZ d s := rfl
def dq (xs : List Dyadic) (i : Nat) : Dyadic := (xs[i]?).getD 0
def db (d : Nat) (M : Nat → Nat → Dyadic) (xs : List Dyadic) : List Dyadic := (List.range (d + 1)).map fun k => sm (List.range (d + 1)) fun i => dq xs i * M i k
def gC (d : Nat) (a b : Dyadic) (xs : List Dyadic) (i j : Nat) : List Dyadic := (List.range (d + 1)).map fun k => sm (List.range i) (fun m => dq xs m * gR d a b m k) + if i ≤ k ∧ k < i + j then dq xs i * gR d a b i k else 0
theorem iB (d : Nat) (a b : Dyadic) (xs : List Dyadic) (i j : Nat) : (gC d a b xs i j).length = d + 1 := by simp [gC]
theorem qA (d : Nat) (a b : Dyadic) (xs : List Dyadic) : gC d a b xs 0 0 = List.replicate (d + 1) 0 := by
 unfold gC
 refine List.eq_replicate_iff.2 ⟨by simp, fun x hx => ?_⟩
 obtain ⟨k, _, rfl⟩ := List.mem_map.1 hx
 rw [if_neg (by omega), Dyadic.add_zero]
 rfl
theorem oI {d i j k : Nat} {a b : Dyadic} {xs : List Dyadic} (h : k ≤ d) : (gC d a b xs i j)[k]? = some (sm (List.range i) (fun m => dq xs m * gR d a b m k) + if i ≤ k ∧ k < i + j then dq xs i * gR d a b i k else 0) := by
 unfold gC
 rw [List.getElem?_map, List.getElem?_range (by omega)]
 rfl
theorem tt {d i j : Nat} {a b : Dyadic} {xs : List Dyadic} {o : Dyadic} (h : i + j ≤ d) (ho : (gC d a b xs i j)[i + j]? = some o) : (gC d a b xs i j).set (i + j) (o + dq xs i * gR d a b i (i + j)) = gC d a b xs i (j + 1) := by
 rw [oI h, if_neg (by omega), Dyadic.add_zero] at ho
 have ho := Option.some.inj ho
 subst ho
 refine List.ext_getElem? fun k => ?_
 rw [List.getElem?_set, iB]
 by_cases hk : k ≤ d
 ·rw [oI hk, oI hk]
  by_cases e : i + j = k
  ·subst e
   rw [if_pos rfl, if_pos (by omega), if_pos (by omega)]
  ·rw [if_neg e]
   by_cases h2 : i ≤ k ∧ k < i + j
   ·rw [if_pos h2, if_pos (by omega)]
   ·rw [if_neg h2, if_neg (by omega)]
 ·rw [if_neg (by omega), List.getElem?_eq_none (by rw [iB]; omega), List.getElem?_eq_none (by rw [iB]; omega)]
theorem sJ {d i : Nat} {a b : Dyadic} {xs : List Dyadic} (h : i ≤ d) : gC d a b xs i (d - i + 1) = gC d a b xs (i + 1) 0 := by
 unfold gC
 refine List.map_congr_left fun k hk => ?_
 have hk := List.mem_range.1 hk
 rw [if_neg (show ¬ (i + 1 ≤ k ∧ k < i + 1 + 0) by omega), Dyadic.add_zero, List.range_succ, lz]
 by_cases h2 : i ≤ k
 ·rw [if_pos (by omega)]
 ·rw [if_neg (by omega)]
  unfold gR
  rw [if_pos (show k < i by omega), Dyadic.mul_zero]
theorem kQ (d : Nat) (a b : Dyadic) (xs : List Dyadic) : gC d a b xs (d + 1) 0 = db d (gR d a b) xs := by
 unfold gC db
 refine List.map_congr_left fun k _ => ?_
 rw [if_neg (by omega), Dyadic.add_zero]
theorem Sz.u2 {q : Nat} {a : Dyadic} (h : Sz q a) {i d : Nat} (hi : i ≤ d) : Sz (1 + q * d) (a ^ i) := (Sz.pow h i).mono (by have := Nat.mul_le_mul_left q hi; omega)
theorem wk {d i k q : Nat} {a b : Dyadic} (ha : Sz q a) (hb : Sz q b) (hd : d ≤ 127) (hk : k ≤ d) : Sz (130 + 2 * (q * d)) (gR d a b i k) := by
 unfold gR
 split
 ·exact Sz.zero _
 ·refine (((l6 (d - i) (k - i) (by omega)).mul (ha.u2 (show i ≤ d by omega))).mul (hb.u2 (show k - i ≤ d by omega))).mono (by omega)
theorem kS {xs : List Dyadic} {k : Nat} (h : ∀ x ∈ xs, Sz k x) (i : Nat) : Sz k (dq xs i) := by
 unfold dq
 cases hx : xs[i]? with
 | none => exact Sz.zero _
 | some x => exact h x (List.mem_of_getElem? hx)
theorem n9 {d i j q K : Nat} {a b : Dyadic} {xs : List Dyadic} (hx : ∀ x ∈ xs, Sz K x) (ha : Sz q a) (hb : Sz q b) (hd : d ≤ 127) (hi : i ≤ d + 1) : ∀ x ∈ gC d a b xs i j, Sz (K + 130 + 2 * (q * d) + 130) x := fun x hx2 => by
 obtain ⟨k, hk, rfl⟩ := List.mem_map.1 hx2
 have hk := List.mem_range.1 hk
 have h1 : ∀ m, Sz (K + (130 + 2 * (q * d))) (dq xs m * gR d a b m k) := fun m => (kS hx m).mul (wk ha hb hd (by omega))
 have h2 := yt (l := List.range i) (f := fun m => dq xs m * gR d a b m k) (k := K + (130 + 2 * (q * d))) fun m _ => h1 m
 rw [List.length_range] at h2
 refine (h2.add (y := if i ≤ k ∧ k < i + j then dq xs i * gR d a b i k else 0) ?_).mono (by omega)
 split
 ·exact (h1 i).mono (by omega)
 ·exact Sz.zero _
theorem gl (d : Nat) (M : Nat → Nat → Dyadic) (xs : List Dyadic) : (db d M xs).length = d + 1 := by simp [db]
theorem ks {d k : Nat} {M : Nat → Nat → Dyadic} {xs : List Dyadic} (h : k ≤ d) : (db d M xs)[k]? = some (sm (List.range (d + 1)) fun i => dq xs i * M i k) := by
 unfold db
 rw [List.getElem?_map, List.getElem?_range (by omega)]
 rfl
theorem o8 {d : Nat} {s : Dyadic} {xs : List Dyadic} (hl : xs.length = d + 1) : (db d (gR d (1 - s) s) xs.reverse).reverse = db d (qf d s) xs := by
 refine List.ext_getElem? fun k => ?_
 by_cases hk : k ≤ d
 ·rw [List.getElem?_reverse (by rw [gl]; omega), gl, show d + 1 - 1 - k = d - k by omega, ks (by omega), ks hk]
  congr 1
  rw [xR]
  refine fq fun i hi => ?_
  have hi := List.mem_range.1 hi
  have e1 : dq xs.reverse (d - i) = dq xs i := by
   unfold dq
   rw [List.getElem?_reverse (by omega), hl, show d + 1 - 1 - (d - i) = i by omega]
  rw [e1]
  congr 1
  unfold gR qf
  by_cases h : i < k
  ·rw [if_pos (by omega), if_pos h]
  ·rw [if_neg (by omega), if_neg h, show d - (d - i) = i by omega, show d - k - (d - i) = i - k by omega]
   generalize nD (bin i (i - k)) = x
   generalize (1 - s) ^ (d - i) = y
   generalize s ^ (i - k) = z
   grind
 ·rw [List.getElem?_eq_none (by rw [List.length_reverse, gl]; omega), List.getElem?_eq_none (by rw [gl]; omega)]
end Go.Proofs.YtioilmppidlbnaaGreatDoor
/- Plain laws: the lines of a form along an axis, changed one by one, block by block. No program in sight. -/
namespace Go.Proofs.YtioilmppidlbnaaGreatDoor
section
variable (A : List Nat) (d : Nat) (φ : List Dyadic → List Dyadic)
def oQ (X : List Dyadic) (q f i : Nat) : List Dyadic := (List.range X.length).map fun p =>
 if p / aC A / (d + 1) = q ∧ (p % aC A < f ∨ p % aC A = f ∧ p / aC A % (d + 1) < i) then dq (φ (di A d X (p % aC A) q)) (p / aC A % (d + 1)) else dq X p
def uK (X : List Dyadic) (q : Nat) : List Dyadic := oQ A d φ X q (aC A) 0
end
section
variable {A : List Nat} {d : Nat} {φ : List Dyadic → List Dyadic} {X : List Dyadic}
theorem fT (q f i : Nat) : (oQ A d φ X q f i).length = X.length := by simp [oQ]
theorem jI {q f i p : Nat} (h : p < X.length) : (oQ A d φ X q f i)[p]? = some (if p / aC A / (d + 1) = q ∧ (p % aC A < f ∨ p % aC A = f ∧ p / aC A % (d + 1) < i) then dq (φ (di A d X (p % aC A) q)) (p / aC A % (d + 1)) else dq X p) := by
 unfold oQ
 rw [List.getElem?_map, List.getElem?_range h]
 rfl
theorem kr {f k q : Nat} (hf : f < aC A) (hk : k ≤ d) : cQ A d f k q % aC A = f ∧ cQ A d f k q / aC A % (d + 1) = k ∧ cQ A d f k q / aC A / (d + 1) = q := by
 unfold cQ
 have hA := fh A
 rw [Nat.add_mul_mod_self_left, Nat.mod_eq_of_lt hf, Nat.add_mul_div_left _ _ hA, Nat.div_eq_of_lt hf, Nat.zero_add, Nat.add_mul_mod_self_left, Nat.mod_eq_of_lt (by omega), Nat.add_mul_div_left _ _ (by omega), Nat.div_eq_of_lt (by omega), Nat.zero_add]
 exact ⟨rfl, rfl, rfl⟩
theorem wm (p : Nat) : cQ A d (p % aC A) (p / aC A % (d + 1)) (p / aC A / (d + 1)) = p := by
 unfold cQ
 rw [Nat.mod_add_div, Nat.mod_add_div]
theorem jP {l : List Dyadic} {k : Nat} (h : k < l.length) : l[k]? = some (dq l k) := by
 unfold dq
 rw [List.getElem?_eq_getElem h]
 rfl
theorem tT (q : Nat) : oQ A d φ X q 0 0 = X := by
 refine List.ext_getElem? fun p => ?_
 by_cases h : p < X.length
 ·rw [jI h, if_neg (by omega), jP h]
 ·rw [List.getElem?_eq_none (by rw [fT]; omega), List.getElem?_eq_none (by omega)]
theorem uP (q f : Nat) : oQ A d φ X q f (d + 1) = oQ A d φ X q (f + 1) 0 := by
 refine List.ext_getElem? fun p => ?_
 by_cases h : p < X.length
 ·rw [jI h, jI h]
  have := Nat.mod_lt (p / aC A) (show 0 < d + 1 by omega)
  congr 1
  by_cases h1 : p / aC A / (d + 1) = q ∧ p % aC A < f + 1
  ·rw [if_pos (by omega), if_pos (by omega)]
  ·rw [if_neg (by omega), if_neg (by omega)]
 ·rw [List.getElem?_eq_none (by rw [fT]; omega), List.getElem?_eq_none (by rw [fT]; omega)]
theorem tq {q f i : Nat} (hf : f < aC A) (hi : i ≤ d) (hp : cQ A d f i q < X.length) : (oQ A d φ X q f 0)[cQ A d f i q]? = some (dq (di A d X f q) i) := by
 obtain ⟨h1, h2, h3⟩ := kr (q := q) hf hi
 rw [jI hp, h1, h2, h3, if_neg (by omega)]
 congr 1
 unfold di
 have : dq ((List.range (d + 1)).map fun i => (X[cQ A d f i q]?).getD 0) i = (X[cQ A d f i q]?).getD 0 := by
  unfold dq
  rw [List.getElem?_map, List.getElem?_range (by omega)]
  rfl
 rw [this]
 rfl
theorem vn {q f i : Nat} (hf : f < aC A) (hi : i ≤ d) (hp : cQ A d f i q < X.length) : (oQ A d φ X q f i).set (cQ A d f i q) (dq (φ (di A d X f q)) i) = oQ A d φ X q f (i + 1) := by
 obtain ⟨h1, h2, h3⟩ := kr (q := q) hf hi
 refine List.ext_getElem? fun p => ?_
 rw [List.getElem?_set, fT]
 by_cases h : p < X.length
 ·rw [jI h, jI h]
  by_cases e : cQ A d f i q = p
  ·subst e
   rw [if_pos rfl, if_pos h, h1, h2, h3, if_pos (by omega)]
  ·rw [if_neg e]
   congr 1
   by_cases h4 : p / aC A / (d + 1) = q ∧ (p % aC A < f ∨ p % aC A = f ∧ p / aC A % (d + 1) < i)
   ·rw [if_pos h4, if_pos (by omega)]
   ·rw [if_neg h4, if_neg]
    intro h5
    have h6 : p / aC A / (d + 1) = q ∧ p % aC A = f ∧ p / aC A % (d + 1) = i := by omega
    have := wm (A := A) (d := d) p
    rw [h6.1, h6.2.1, h6.2.2] at this
    exact e this
 ·rw [if_neg (by omega), List.getElem?_eq_none (by rw [fT]; omega), List.getElem?_eq_none (by rw [fT]; omega)]
theorem wX {q f i k G : Nat} (hX : ∀ x ∈ X, Sz k x) (hφ : ∀ l : List Dyadic, l.length = d + 1 → (∀ x ∈ l, Sz k x) → ∀ x ∈ φ l, Sz (k + G) x) : ∀ x ∈ oQ A d φ X q f i, Sz (k + G) x := fun x hx => by
 obtain ⟨p, hp, rfl⟩ := List.mem_map.1 hx
 split
 ·refine kS (hφ _ (by simp [di]) fun y hy => ?_) _
  obtain ⟨j, _, rfl⟩ := List.mem_map.1 hy
  exact kS hX _
 ·exact (kS hX p).mono (by omega)
def tj (A : List Nat) (d : Nat) (B : List Nat) (M : Nat → Nat → Dyadic) (xs : List Dyadic) (j : Nat) : List Dyadic := (List.range xs.length).map fun p => if p / aC A / (d + 1) < j then dq (cM (A ++ d :: B) A.length M xs) p else dq xs p
theorem jX (B : List Nat) (M : Nat → Nat → Dyadic) (xs : List Dyadic) (j : Nat) : (tj A d B M xs j).length = xs.length := by simp [tj]
theorem mV {B : List Nat} {M : Nat → Nat → Dyadic} {xs : List Dyadic} {j p : Nat} (h : p < xs.length) : (tj A d B M xs j)[p]? = some (if p / aC A / (d + 1) < j then dq (cM (A ++ d :: B) A.length M xs) p else dq xs p) := by
 unfold tj
 rw [List.getElem?_map, List.getElem?_range h]
 rfl
theorem uq (B : List Nat) (M : Nat → Nat → Dyadic) (xs : List Dyadic) : tj A d B M xs 0 = xs := by
 refine List.ext_getElem? fun p => ?_
 by_cases h : p < xs.length
 ·rw [mV h, if_neg (Nat.not_lt_zero _), jP h]
 ·rw [List.getElem?_eq_none (by rw [jX]; omega), List.getElem?_eq_none (by omega)]
theorem tu {B : List Nat} {M : Nat → Nat → Dyadic} {xs : List Dyadic} (hl : xs.length = aC (A ++ d :: B)) : tj A d B M xs (aC B) = cM (A ++ d :: B) A.length M xs := by
 refine List.ext_getElem? fun p => ?_
 by_cases h : p < xs.length
 ·obtain ⟨f, k, q, hf, hk, hq, rfl⟩ := jJ (A := A) (d := d) (B := B) (p := p) (by omega)
  rw [mV h, (kr hf hk).2.2, if_pos hq, jP (by rw [fA]; omega)]
 ·rw [List.getElem?_eq_none (by rw [jX]; omega), List.getElem?_eq_none (by rw [fA]; omega)]
theorem ui {B : List Nat} {M : Nat → Nat → Dyadic} {xs : List Dyadic} {j : Nat} (hl : xs.length = aC (A ++ d :: B)) : uK A d (db d M) (tj A d B M xs j) j = tj A d B M xs (j + 1) := by
 refine List.ext_getElem? fun p => ?_
 by_cases h : p < xs.length
 ·obtain ⟨f, k, q, hf, hk, hq, rfl⟩ := jJ (A := A) (d := d) (B := B) (p := p) (by omega)
  obtain ⟨h1, h2, h3⟩ := kr (q := q) hf hk
  unfold uK
  rw [jI (by rw [jX]; exact h), mV h, h1, h2, h3]
  congr 1
  by_cases e : q = j
  ·subst e
   rw [if_pos ⟨rfl, .inl hf⟩, if_pos (by omega)]
   have e1 : di A d (tj A d B M xs q) f q = di A d xs f q := by
    unfold di
    refine List.map_congr_left fun i hi => ?_
    have hi := List.mem_range.1 hi
    have hp2 : cQ A d f i q < xs.length := by rw [hl]; exact kA hf (by omega) hq
    rw [mV hp2, (kr hf (show i ≤ d by omega)).2.2, if_neg (by omega), jP hp2]
   rw [e1]
   have e2 : dq (db d M (di A d xs f q)) k = sm (List.range (d + 1)) fun i => dq (di A d xs f q) i * M i k := by
    show ((db d M _)[k]?).getD 0 = _
    rw [ks hk]
    rfl
   have e3 : dq (cM (A ++ d :: B) A.length M xs) (cQ A d f k q) = sm (List.range (d + 1)) fun i => (xs[cQ A d f i q]?).getD 0 * M i k := by
    show ((cM _ _ M xs)[_]?).getD 0 = _
    rw [pT M xs hf hk hq]
    rfl
   rw [e2, e3]
   refine fq fun i hi => ?_
   have hi := List.mem_range.1 hi
   congr 1
   show ((di A d xs f q)[i]?).getD 0 = _
   unfold di
   rw [List.getElem?_map, List.getElem?_range hi]
   rfl
  ·rw [if_neg (by omega)]
   have e1 : dq (tj A d B M xs j) (cQ A d f k q) = if q < j then dq (cM (A ++ d :: B) A.length M xs) (cQ A d f k q) else dq xs (cQ A d f k q) := by
    show ((tj A d B M xs j)[_]?).getD 0 = _
    rw [mV h, h3]
    rfl
   rw [e1]
   by_cases h4 : q < j
   ·rw [if_pos h4, if_pos (by omega)]
   ·rw [if_neg h4, if_neg (by omega)]
 ·rw [List.getElem?_eq_none (by unfold uK; rw [fT, jX]; omega), List.getElem?_eq_none (by rw [jX]; omega)]
end
end Go.Proofs.YtioilmppidlbnaaGreatDoor
/- The walks through knife.lower, slices.Reverse and knife.upper. -/
namespace Go.Proofs.YtioilmppidlbnaaGreatDoor
open Go.RowKit
theorem sV (N : Nat) : gQ N [.bool false, .string (ByteArray.mk #[]), .int .i64 0] = bm NR.cells ((List.replicate N (0 : Dyadic)).map nR) := by
 rw [uN, oU]
theorem Sz.bD {k : Nat} {x : Dyadic} (h : Sz k x) : (nR x).bD.size ≤ k + 1 := by have := h.nr.1; omega
theorem vh (m : Nat) : ua [m] = (ix m).map fun n => nR (nD n) := by
 have h : qZ [m] = ix m := by
  have h1 := pX [] m
  have h2 : qZ [] = [1] := by decide
  rw [List.nil_append, h2] at h1
  rw [h1]
  simp
 unfold ua
 rw [h]
structure nY (q : Nat) (s : NR) (x : Dyadic) : Prop where
 ok : s.ok
 bD : s.bD.size ≤ 2001
 d : s.d = x
 sz : Sz q x
theorem nY.of {q : Nat} {x : Dyadic} (h : Sz q x) (hq : q ≤ 2000) : nY q (nR x) x := ⟨h.ok (by omega), by have := h.bD; omega, eG x, h⟩
theorem k9 (sa sb : NR) (a b : Dyadic) (L : Option Addr) (n c d : Nat) (xs : List Dyadic) (k q : Nat) (w : World) (hT : ff w) (hS : Sl w L n 3 (bm NR.cells (xs.map nR))) (hn : n = d + 1) (hd : d ≤ 127) (hx : ∀ x ∈ xs, Sz k x) (va : nY q sa a) (vb : nY q sb b) (hk : k ≤ 300000) (hq : q ≤ 2000) :
  Calls Tryz.prog 87 #[.agg #[.bool sa.neg, .string sa.bD, .int .i64 sa.e, .bool sb.neg, .string sb.bD, .int .i64 sb.e], .slice L n c] w fun r w' => ∃ A c', r = .returned (.slice A n c') ∧ w'.ownsRow w.heap.size 39 3 (.slice A n c') n (bm NR.cells ((db d (gR d a b) xs).map nR)) ∧ Below w.heap.size w w' := by
 have hh := Hp.start w
 have hln : xs.length = n := by have := hS.eB NR.len (by decide); simpa using this
 have hqd : q * d ≤ 2000 * 127 := Nat.mul_le_mul hq hd
 have ha := va.sz
 have hb := vb.sz
 have hpw : ∀ (sz : NR) (z : Dyadic), nY q sz z → ∀ (i : Nat), i ≤ d → ∀ w1, ff w1 → Calls Tryz.prog 121 #[.agg #[.bool sz.neg, .string sz.bD, .int .i64 sz.e], .int .i64 (i : Int)] w1 fun r w' => r = .returned (.agg #[.bool (nR (z ^ i)).neg, .string (nR (z ^ i)).bD, .int .i64 (nR (z ^ i)).e]) ∧ Below w1.heap.size w1 w' := fun sz z hz i hi w1 hT1 => by
  have h1 := hz.bD
  have h2 : i * sz.bD.size ≤ 127 * 2001 := Nat.mul_le_mul (by omega) (by omega)
  have := rf sz i w1 hT1 hz.ok (by rw [Int.toNat_natCast]; omega) (by omega)
  rwa [hz.d, Int.toNat_natCast] at this
 obtain ⟨ad, rfl, hr⟩ := hS.at_ (by omega)
 refine aj (N := 66) (l := [.agg #[.bool sa.neg, .string sa.bD, .int .i64 sa.e, .bool sb.neg, .string sb.bD, .int .i64 sb.e], .slice (some ad) n c]) Tryz.func87 rfl rfl (by simp) ?_
 refine sr ?_
 refine cY hh [_,_,_,_,_,_] ?_
 intro b2 w2 hh
 refine aL (aa (sr (mL (a8 ?_))))
 refine ed (aI (aa (sr (mI ?_))))
 refine bA ?_
 refine fI (n := n) hh rfl rfl (by omega) (by omega) aK.out aE.out rfl (by omega) (by omega) (by decide) ?_
 intro b16 w16 hh
 refine aL (aa (ah (sr (mL (a8 (mI (aa (ak ?_))))))))
 rw [sV, hn, ← qA d a b xs, ← hn] at hh
 refine bE [7, 8, 9, 10, 19, 20, 21, 22, 23, 24, 25, 26, 27, 28, 29, 30, 31, 32, 33, 34, 35, 36, 37, 38, 39, 40, 41, 42, 43, 44, 45, 46, 47, 48, 49, 50, 51, 52, 53, 54, 55, 56, 57, 58, 59, 60, 61, 62, 63, 64] 19
  (fun v w' => ∃ i : Nat, i ≤ n ∧ v = .int .i64 i ∧ Hp w [.row (some ⟨b16, 0, none⟩) n n 39 3 (bm NR.cells ((gC d a b xs i 0).map nR)), .blk b2 117 [.bool sa.neg, .string sa.bD, .int .i64 sa.e, .bool sb.neg, .string sb.bD, .int .i64 sb.e] (0, 0)] w')
  (fun v _ => n - (intOf v).toNat) ?_ ?_
 ·exact ⟨0, Nat.zero_le _, rfl, hh⟩
 ·clear hh
  rintro ρ' v w' ⟨i, hi, rfl, hh⟩
  by_cases hlt : i < n
  ·obtain ⟨x, hxi⟩ := aW (l := xs) (k := i) (by omega)
   have hxn : (xs.map nR)[i]? = some (nR x) := by rw [List.getElem?_map, hxi]; rfl
   have hat : dq xs i = x := by unfold dq; rw [hxi]; rfl
   have zx := hx x (List.mem_of_getElem? hxi)
   have hpa := hpw sa a va i (by omega)
   have zp := ha.u2 (show i ≤ d by omega)
   have zc := zx.mul zp
   have hmul := fun A cc w1 hT1 hS1 => jA A 2 cc [nR x, nR (a ^ i)] w1 hT1 hS1 (by simpa using ⟨zx.ok (by omega), zp.ok (by omega)⟩) 600000 (by simpa [eG] using ⟨zx.mono (by omega), zp.mono (by omega)⟩) (by omega) (by omega)
   rw [show g7 ([nR x, nR (a ^ i)].map NR.d) = x * a ^ i by simp only [List.map_cons, List.map_nil, eG]; show 1 * x * a ^ i = _; rw [Dyadic.one_mul]] at hmul
   refine sr ?_
   refine aQ (aa (ah (cT (al (ai (ah (ak (sr (mI ?_)))))))))
   refine aX (k := i) aK.out aE.size rfl rfl (by omega) (by omega) (by decide) ?_
   refine eO (vs := [_, _, _]) aE.out rfl ((hr.ext hh.below).recAt NR.len hxn) rfl (by decide) ?_
   refine cd hh ?_
   intro b8 w8 hh
   refine aI ?_
   refine bK hh 0 [_,_,_] ?_
   intro ws hh
   replace hh : Hp _ (.blk _ _ [_, _, _] _ :: _) _ := hh
   refine aa (ah ?_)
   refine aR 5 [[(8, none)], [(2, none)], [(25, some 1)], [(7, none)], [(26, some 2), (27, some 3)]] [(4, 28), (3, 27), (2, 26), (1, 25), (0, 24)] hh mixed (by kernel_rfl) ?_
   refine fF 0 [_,_,_] ?_
   refine fJ ?_
   refine fF 2 [_,_,_] ?_
   refine fg ?_
   refine dC (fun _ hj => hpa _ (hT.hp hj.hp)) ?_
   refine bp ?_
   intro f W hJ hV
   have hb_6 := hJ.bl
   obtain ⟨v28, v27, v26, v25, v24, _⟩ := hV
   replace hh := hJ.hp
   refine a6 (bq (ae v28 (ae v27 (ae v26 (ae v25 (ae v24 a0)))))) ?_
   dsimp only [cz]
   clear hJ
   refine bf hh (cs := [_, _, _, _, _, _]) aK.out aE.out (aP (dR rfl) (aP (dR rfl) bO)) rfl rfl (by decide) (by decide) (by decide) rfl (by decide) ?_
   intro b29 w29 hh
   refine bG hh (hmul _ _ _ (hT.hp hh) (hh.aV (i := 0) rfl)) rfl ?_
   intro w30 hh
   refine bK hh 1 [_,_,_] ?_
   intro ws hh
   replace hh : Hp _ (_ :: .blk _ _ [_, _, _] _ :: _) _ := hh
   refine aa (sr (mI (mI ?_)))
   refine ed ?_
   refine bf hh (cs := [_]) aK.out aE.out (aP (bI rfl) bO) rfl rfl (by decide) (by decide) (by decide) rfl (by decide) ?_
   intro b34 w34 hh
   have e33 : (n : Int) - 1 - (i : Int) = ((d - i : Nat) : Int) := by omega
   rw [e33] at hh
   have hcw : aC [d - i] = d - i + 1 := by simp [aC]
   have hwt := fun w1 hT1 hS1 => lZ (some ⟨b34, 0, none⟩) 1 1 [d - i] w1 hT1 hS1 (by simp) (by simp; omega) (by rw [hcw]; omega)
   rw [hcw, vh] at hwt
   refine aM (hwt _ (hT.hp hh) (hh.aV (i := 0) rfl)) ar.out rfl (by decide) ?_
   rintro e_ w35 ⟨A35, c35, rfl, hown_, hb_⟩
   refine ⟨_, rfl, ?_⟩
   replace hh := hh.a9 (x := .row _ _ _ _ _ _) hb_ hown_
   refine a8 (mI (aa (ak ?_)))
   replace hh := hh.sub (List.Sublist.cons_cons _ (List.Sublist.cons _ (List.Sublist.cons _ (List.Sublist.cons_cons _ (List.Sublist.cons_cons _ (List.Sublist.cons_cons _ List.Sublist.slnil))))))
   refine bE [9, 10, 37, 38, 39, 40, 41, 42, 43, 44, 45, 46, 47, 48, 49, 50, 51, 52, 53, 54, 55, 56, 57, 58, 59, 60, 61, 62, 63] 37
    (fun v w' => ∃ j : Nat, j ≤ d - i + 1 ∧ v = .int .i64 j ∧ Hp w [.row A35 (d - i + 1) c35 39 3 (bm NR.cells ((ix (d - i)).map fun n => nR (nD n))), .blk b8 39 [.bool (nR (x * a ^ i)).neg, .string (nR (x * a ^ i)).bD, .int .i64 (nR (x * a ^ i)).e] (0, 0), .row (some ⟨b16, 0, none⟩) n n 39 3 (bm NR.cells ((gC d a b xs i j).map nR)), .blk b2 117 [.bool sa.neg, .string sa.bD, .int .i64 sa.e, .bool sb.neg, .string sb.bD, .int .i64 sb.e] (0, 0)] w')
    (fun v _ => d - i + 1 - (intOf v).toNat) ?_ ?_
   ·exact ⟨0, Nat.zero_le _, rfl, hh⟩
   ·clear hh
    rintro ρ2 v w2 ⟨j, hj, rfl, hh⟩
    by_cases hjn : j < d - i + 1
    ·have hbl : (ix (d - i))[j]? = some (bin (d - i) j) := lB (by omega)
     have hbn : ((ix (d - i)).map fun n => nR (nD n))[j]? = some (nR (nD (bin (d - i) j))) := by rw [List.getElem?_map, hbl]; rfl
     have zb := l6 (d - i) j (by omega)
     have hpb := hpw sb b vb j (by omega)
     have zq := hb.u2 (show j ≤ d by omega)
     obtain ⟨o, ho⟩ := aW (l := gC d a b xs i j) (k := i + j) (by rw [iB]; omega)
     have hon : ((gC d a b xs i j).map nR)[i + j]? = some (nR o) := by rw [List.getElem?_map, ho]; rfl
     have zo := n9 (j := j) hx ha hb hd (show i ≤ d + 1 by omega) o (List.mem_of_getElem? ho)
     have zy := (zc.mul zb).mul zq
     have hm3 := fun A cc w1 hT1 hS1 => jA A 3 cc [nR (x * a ^ i), nR (nD (bin (d - i) j)), nR (b ^ j)] w1 hT1 hS1 (by simpa using ⟨zc.ok (by omega), zb.ok (by omega), zq.ok (by omega)⟩) 600000 (by simpa [eG] using ⟨zc.mono (by omega), zb.mono (by omega), zq.mono (by omega)⟩) (by omega) (by omega)
     rw [show g7 ([nR (x * a ^ i), nR (nD (bin (d - i) j)), nR (b ^ j)].map NR.d) = x * a ^ i * nD (bin (d - i) j) * b ^ j by simp only [List.map_cons, List.map_nil, eG]; show 1 * (x * a ^ i) * _ * _ = _; rw [Dyadic.one_mul]] at hm3
     have hset := tt (show i + j ≤ d by omega) ho
     have hval : dq xs i * gR d a b i (i + j) = x * a ^ i * nD (bin (d - i) j) * b ^ j := by
      unfold gR
      rw [hat, if_neg (by omega), show i + j - i = j by omega]
      generalize nD (bin (d - i) j) = u
      generalize a ^ i = v
      generalize b ^ j = z
      grind
     rw [hval] at hset
     generalize x * a ^ i * nD (bin (d - i) j) * b ^ j = y at *
     have hsum := fun A cc w1 hT1 hS1 => jw A 2 cc [nR o, nR y] w1 hT1 hS1 (by simpa using ⟨zo.ok (by omega), zy.ok (by omega)⟩) 2000000 (by simpa [eG] using ⟨zo.mono (by omega), zy.mono (by omega)⟩) (by omega)
     rw [show kg ([nR o, nR y].map NR.d) = o + y by simp only [List.map_cons, List.map_nil, eG, lN]] at hsum
     have hll : ((gC d a b xs i j).map nR).length = n := by rw [List.length_map, iB]; omega
     generalize gC d a b xs i j = S at *
     have hrl := gy NR.len (S.map nR)
     obtain ⟨gw, rfl⟩ := hh.eI (i := 0) rfl (by omega)
     refine sr ?_
     refine aQ (aa (ah (cT (al (ai (ah (ak (sr (mI ?_)))))))))
     refine bC (k := j) aK.out aE.size rfl rfl (by omega) (by omega) (by decide) ?_
     refine eO (vs := [_, _, _]) aE.out rfl (hh.gO (f := NR.cells) (x := nR (nD (bin (d - i) j))) (l := (ix (d - i)).map fun n => nR (nD n)) (i := 0) rfl NR.len (by decide) hbn) rfl (by decide) ?_
     refine cd hh ?_
     intro b10 w10 hh
     refine aI ?_
     refine bK hh 0 [_,_,_] ?_
     intro ws hh
     replace hh : Hp _ (.blk _ _ [_, _, _] _ :: _) _ := hh
     refine aa ?_
     refine aR 20 [[(6, none)], [(7, none)], [(9, none)], [(43, some 1), (44, some 2)], [(6, none)], [(7, none)], [(9, none)], [(47, some 5), (48, some 6)], [(46, some 4), (49, some 7)], [(50, some 8)], [(8, none)], [(10, none)], [(2, none)], [(54, some 12)], [(9, none)], [(55, some 13), (56, some 14)], [(52, some 10), (53, some 11), (57, some 15)], [(58, some 16)], [(51, some 9), (59, some 17)], [(60, some 18)]] [(19, 61), (18, 60), (17, 59), (16, 58), (15, 57), (14, 56), (13, 55), (12, 54), (11, 53), (10, 52), (9, 51), (8, 50), (7, 49), (6, 48), (5, 47), (4, 46), (3, 45), (2, 44), (1, 43), (0, 42)] hh mixed (by kernel_rfl) ?_
     refine iX ?_
     refine fg ?_
     refine fg ?_
     refine ti ?_
     refine iX ?_
     refine fg ?_
     refine fg ?_
     refine ti ?_
     refine uW ((i + j)) ?_
     refine xI [_,_,_] (fun _ hj => hj.hp.gO (f := NR.cells) (x := nR o) (l := S.map nR) (i := 3) rfl NR.len (by decide) hon) ?_
     refine fF 2 [_,_,_] ?_
     refine fF 0 [_,_,_] ?_
     refine fJ ?_
     refine fF 4 [_,_,_] ?_
     refine fg ?_
     refine dC (fun _ hj => hpb _ (hT.hp hj.hp)) ?_
     refine uV [_,_,_,_,_,_,_,_,_] ?_
     refine bM (i := 17) (Is (.agg #[.bool (nR y).neg, .string (nR y).bD, .int .i64 (nR y).e])) Is.ext ?_ ?_
     ·intro ρ1 w1 hj hR
      obtain ⟨A58, c58, h58, s58⟩ := hR.1
      exact bP rfl (bF ar.out (aF h58 bz)) (hm3 A58 c58 _ (hT.hp hj.hp) s58) (fun _ _ hq => ⟨_, hq.1, hq.2, rfl⟩)
     refine uV [_,_,_,_,_,_] ?_
     refine bM (i := 19) (Is (.agg #[.bool (nR (o + y)).neg, .string (nR (o + y)).bD, .int .i64 (nR (o + y)).e])) Is.ext ?_ ?_
     ·intro ρ1 w1 hj hR
      obtain ⟨A60, c60, h60, s60⟩ := hR.1
      exact bP rfl (bF ar.out (aF h60 bz)) (hsum A60 c60 _ (hT.hp hj.hp) s60) (fun _ _ hq => ⟨_, hq.1, hq.2, rfl⟩)
     refine bp ?_
     intro f W hJ hV
     have hb_10 := hJ.bl
     obtain ⟨v61, v60, v59, v58, v57, v56, v55, v54, v53, v52, v51, v50, v49, v48, v47, v46, v45, v44, v43, v42, _⟩ := hV
     obtain ⟨A58, c58, e58, f58⟩ : Rows _ _ _ (f 16) W := v58
     obtain ⟨A60, c60, e60, f60⟩ : Rows _ _ _ (f 18) W := v60
     replace hh := hJ.hp
     refine a6 (bq (ae v61 (ae e60 (ae v59 (ae e58 (ae v57 (ae v56 (ae v55 (ae v54 (ae v53 (ae v52 (ae v51 (ae v50 (ae v49 (ae v48 (ae v47 (ae v46 (ae v45 (ae v44 (ae v43 (ae v42 a0))))))))))))))))))))) ?_
     dsimp only [cz]
     clear e58 e60 hJ
     refine bC (k := (i + j)) aK.out aE.size rfl rfl (by omega) (by omega) (by decide) ?_
     refine bu hh (i := 3) (vs := [_, _, _]) rfl rfl (dR rfl) rfl aE.out rfl (by omega) rfl ?_
     intro ws hh
     simp only [List.set_cons_zero, List.set_cons_succ] at hh
     rw [show ct (bm NR.cells (S.map nR)) ((i + j) * 3) [.bool (nR (o + y)).neg, .string (nR (o + y)).bD, .int .i64 (nR (o + y)).e] = bm NR.cells ((S.map nR).set (i + j) (nR (o + y))) from gE NR.len (by omega), ← List.map_set, hset] at hh
     refine aD (aU (ai (ao ?_)))
     refine bA (mI (aD (ai ?_)))
     replace hh := hh.sub (List.Sublist.cons _ (List.Sublist.cons_cons _ (List.Sublist.cons_cons _ (List.Sublist.cons_cons _ (List.Sublist.cons_cons _ List.Sublist.slnil)))))
     refine ⟨⟨j + 1, by omega, rfl, hh⟩, by show d - i + 1 - (j + 1) < d - i + 1 - j; omega, ?_⟩
     (repeat (first | exact aw _ _ _ | refine az rfl ?_ | refine av rfl ?_))
    ·obtain rfl : j = d - i + 1 := by omega
     rw [sJ (by omega)] at hh
     refine sr ?_
     refine aQ (aa (ah (cF ?_)))
     refine aZ ?_
     refine aA (aA (bo (aU (ai (ao ?_)))))
     refine bA (mI (aD (ai ?_)))
     replace hh := hh.sub (List.Sublist.cons _ (List.Sublist.cons _ (List.Sublist.cons_cons _ (List.Sublist.cons_cons _ List.Sublist.slnil))))
     refine ⟨⟨i + 1, by omega, rfl, hh⟩, by show n - (i + 1) < n - i; omega, ?_⟩
     (repeat (first | exact aw _ _ _ | refine az rfl ?_ | refine av rfl ?_))
  ·obtain rfl : i = n := by omega
   rw [show gC d a b xs i 0 = db d (gR d a b) xs by rw [hn, kQ]] at hh
   refine sr ?_
   refine aQ (aa (ah (cF ?_)))
   refine aZ ?_
   refine aA (aA (bo (ai (sr (mL (aL (aa (aq ?_))))))))
   refine cu ?_
   exact ⟨_, _, rfl, hh.at_ (i := 0) rfl, hh.below⟩
def kV (l : List Dyadic) (i : Nat) : List Dyadic := (List.range l.length).map fun k => if k < i ∨ l.length ≤ k + i then dq l (l.length - 1 - k) else dq l k
theorem jj {l : List Dyadic} {i k : Nat} (h : k < l.length) : (kV l i)[k]? = some (if k < i ∨ l.length ≤ k + i then dq l (l.length - 1 - k) else dq l k) := by
 unfold kV
 rw [List.getElem?_map, List.getElem?_range h]
 rfl
theorem lr {l : List Dyadic} {k : Nat} (h : k < l.length) : l[k]? = some (dq l k) := by
 unfold dq
 rw [List.getElem?_eq_getElem h]
 rfl
theorem gY (l : List Dyadic) (i : Nat) : (kV l i).length = l.length := by simp [kV]
theorem sT (l : List Dyadic) : kV l 0 = l := by
 refine List.ext_getElem? fun k => ?_
 by_cases h : k < l.length
 ·rw [jj h, if_neg (by omega), lr h]
 ·rw [List.getElem?_eq_none (by rw [gY]; omega), List.getElem?_eq_none (by omega)]
theorem sX {l : List Dyadic} {i : Nat} (h : l.length ≤ 2 * i + 1) : kV l i = l.reverse := by
 refine List.ext_getElem? fun k => ?_
 by_cases hk : k < l.length
 ·rw [jj hk, List.getElem?_reverse hk, lr (show l.length - 1 - k < l.length by omega)]
  split
  ·rfl
  ·rw [show l.length - 1 - k = k by omega]
 ·rw [List.getElem?_eq_none (by rw [gY]; omega), List.getElem?_eq_none (by rw [List.length_reverse]; omega)]
theorem sl {l : List Dyadic} {i : Nat} (h : 2 * i + 1 < l.length) : ((kV l i).set i (dq l (l.length - 1 - i))).set (l.length - 1 - i) (dq l i) = kV l (i + 1) := by
 refine List.ext_getElem? fun k => ?_
 by_cases hk : k < l.length
 ·rw [List.getElem?_set, List.getElem?_set, List.length_set, gY, jj hk, jj hk]
  by_cases h1 : l.length - 1 - i = k
  ·rw [if_pos h1, if_pos (by omega), if_pos (by omega), show l.length - 1 - k = i by omega]
  ·rw [if_neg h1]
   by_cases h2 : i = k
   ·subst h2
    rw [if_pos rfl, if_pos hk, if_pos (by omega)]
   ·rw [if_neg h2]
    by_cases h3 : k < i ∨ l.length ≤ k + i
    ·rw [if_pos h3, if_pos (by omega)]
    ·rw [if_neg h3, if_neg (by omega)]
 ·rw [List.getElem?_eq_none (by rw [List.length_set, List.length_set, gY]; omega), List.getElem?_eq_none (by rw [gY]; omega)]
theorem mX {w0 : World} {Hr : List HE} (g n c : Nat) (l : List Dyadic) (w : World) (hh : Hp w0 (.row (some ⟨g, 0, none⟩) n c 39 3 (bm NR.cells (l.map nR)) :: Hr) w) (hl : l.length = n) (hn : n ≤ 1000000) :
  Calls Tryz.prog 140 #[.slice (some ⟨g, 0, none⟩) n c] w fun r w' => r = .returned (.tuple #[]) ∧ Hp w0 (.row (some ⟨g, 0, none⟩) n c 39 3 (bm NR.cells (l.reverse.map nR)) :: Hr) w' := by
 refine aj (N := 28) (l := [.slice (some ⟨g, 0, none⟩) n c]) Tryz.func140 rfl rfl (by simp) ?_
 refine sr (mL (a8 ?_))
 refine ed (aI (aI (aa (ak ?_))))
 refine ck [2, 3, 7, 8, 9, 10, 11, 12, 13, 14, 15, 16, 17, 18, 19, 20, 21, 22, 23, 24, 25, 26, 27] 2 3
  (fun v2 v w' => ∃ i : Nat, 2 * i ≤ n + 1 ∧ v2 = .int .i64 i ∧ v = .int .i64 ((n : Int) - 1 - i) ∧ Hp w0 (.row (some ⟨g, 0, none⟩) n c 39 3 (bm NR.cells ((kV l i).map nR)) :: Hr) w')
  (fun v _ _ => n - (intOf v).toNat) ?_ ?_
 ·exact ⟨0, by omega, rfl, by show Value.int _ _ = Value.int _ _; rw [show (n : Int) - 1 - ((0 : Nat) : Int) = (n : Int) - 1 by omega], by rw [sT]; exact hh⟩
 ·clear hh
  rintro ρ' v2 v w' ⟨i, hi, rfl, rfl, hh⟩
  by_cases hlt : (i : Int) < (n : Int) - 1 - i
  ·have h1 : ((kV l i).map nR)[n - 1 - i]? = some (nR (dq l (n - 1 - i))) := by
    rw [List.getElem?_map, jj (by omega), if_neg (by omega)]
    rfl
   have h2 : ((kV l i).map nR)[i]? = some (nR (dq l i)) := by
    rw [List.getElem?_map, jj (by omega), if_neg (by omega)]
    rfl
   have hst := sl (l := l) (i := i) (by omega)
   rw [hl] at hst
   have hll : ((kV l i).map nR).length = n := by rw [List.length_map, gY, hl]
   generalize kV l i = S at *
   have hrl := gy NR.len (S.map nR)
   generalize dq l (n - 1 - i) = x at *
   generalize dq l i = y at *
   refine ah (sr (mI (mI ?_)))
   refine aQ (aa (cT (al (ai (ah (ak ?_))))))
   refine kM [] [2, 3] [0, 0, 0, 0, 0, 0, 48, 112, 0, 0, 768, 1792, 4083, 8179, 16383, 32767] 12 [[(0, none)], [(2, none)], [(0, none)], [(3, none)], [(0, none)], [(3, none)], [(18, some 4), (19, some 5)], [(20, some 6)], [(0, none)], [(2, none)], [(22, some 8), (23, some 9)], [(24, some 10)]] [(11, 25), (10, 24), (9, 23), (8, 22), (7, 21), (6, 20), (5, 19), (4, 18), (3, 17), (2, 16), (1, 15), (0, 14)] hh mixed (by kernel_rfl) mv rfl (by repeat (first | exact ig | refine fS ?_ | refine ie ?_)) ?_
   refine iX ?_
   refine fg ?_
   refine iX ?_
   refine fg ?_
   refine iX ?_
   refine fg ?_
   refine uW ((n - 1 - i)) ?_
   refine xI [_,_,_] (fun _ hj => hj.hp.gO (f := NR.cells) (x := nR x) (l := S.map nR) (i := 0) rfl NR.len (by decide) h1) ?_
   refine iX ?_
   refine fg ?_
   refine uW (i) ?_
   refine xI [_,_,_] (fun _ hj => hj.hp.gO (f := NR.cells) (x := nR y) (l := S.map nR) (i := 0) rfl NR.len (by decide) h2) ?_
   refine bp ?_
   intro f W hJ hV _
   have hb_3 := hJ.bl
   obtain ⟨v25, v24, v23, v22, v21, v20, v19, v18, v17, v16, v15, v14, _⟩ := hV
   replace hh := hJ.hp
   refine a6 (bq (ae v25 (ae v24 (ae v23 (ae v22 (ae v21 (ae v20 (ae v19 (ae v18 (ae v17 (ae v16 (ae v15 (ae v14 a0))))))))))))) ?_
   dsimp only [cz]
   clear hJ
   refine bC (k := i) aK.out aE.size rfl rfl (by omega) (by omega) (by decide) ?_
   refine bu hh (i := 0) (vs := [_, _, _]) rfl rfl (dR rfl) rfl aE.out rfl (by omega) rfl ?_
   intro ws hh
   simp only [List.set_cons_zero] at hh
   rw [show ct (bm NR.cells (S.map nR)) (i * 3) [.bool (nR x).neg, .string (nR x).bD, .int .i64 (nR x).e] = bm NR.cells ((S.map nR).set i (nR x)) from gE NR.len (by omega)] at hh
   have hrl2 := gy NR.len ((S.map nR).set i (nR x))
   rw [List.length_set] at hrl2
   refine bC (k := (n - 1 - i)) aK.out aE.size rfl rfl (by omega) (by omega) (by decide) ?_
   refine bu hh (i := 0) (vs := [_, _, _]) rfl rfl (dR rfl) rfl aE.out rfl (by omega) rfl ?_
   intro ws hh
   simp only [List.set_cons_zero] at hh
   rw [show ct (bm NR.cells ((S.map nR).set i (nR x))) ((n - 1 - i) * 3) [.bool (nR y).neg, .string (nR y).bD, .int .i64 (nR y).e] = bm NR.cells (((S.map nR).set i (nR x)).set (n - 1 - i) (nR y)) from gE NR.len (by rw [List.length_set]; omega), ← List.map_set, ← List.map_set, hst] at hh
   refine aD (aU (ai (ao (mI ?_))))
   refine bA (mI ?_)
   refine ed (aI (aI (aD (ai ?_))))
   refine ⟨⟨i + 1, by omega, rfl, ?_, hh⟩, by show n - (i + 1) < n - i; omega, ?_⟩
   ·show Value.int _ _ = Value.int _ _
    rw [show (n : Int) - 1 - ((i + 1 : Nat) : Int) = (n : Int) - 1 - (i : Int) - 1 by omega]
   ·(repeat (first | exact aw _ _ _ | refine az rfl ?_ | refine av rfl ?_))
  ·rw [sX (by omega)] at hh
   refine ah (sr (mI (mI ?_)))
   refine aQ (aa (cF ?_))
   refine aZ ?_
   refine aA (aA (bo ?_))
   refine tW (by first | exact .inr rfl | exact .inl rfl) rfl ?_
   exact ⟨rfl, hh⟩
theorem p6 (sa sb : NR) (a b : Dyadic) (L : Option Addr) (n c d : Nat) (xs : List Dyadic) (k q : Nat) (w : World) (hT : ff w) (hS : Sl w L n 3 (bm NR.cells (xs.map nR))) (hn : n = d + 1) (hd : d ≤ 127) (hx : ∀ x ∈ xs, Sz k x) (va : nY q sa a) (vb : nY q sb b) (hk : k ≤ 300000) (hq : q ≤ 2000) :
  Calls Tryz.prog 88 #[.agg #[.bool sa.neg, .string sa.bD, .int .i64 sa.e, .bool sb.neg, .string sb.bD, .int .i64 sb.e], .slice L n c] w fun r w' => ∃ A c', r = .returned (.slice A n c') ∧ w'.ownsRow w.heap.size 39 3 (.slice A n c') n (bm NR.cells ((db d (gR d b a) xs.reverse).reverse.map nR)) ∧ Below w.heap.size w w' := by
 have hh := Hp.start w
 have hln : xs.length = n := by have := hS.eB NR.len (by decide); simpa using this
 refine aj (N := 21) (l := [.agg #[.bool sa.neg, .string sa.bD, .int .i64 sa.e, .bool sb.neg, .string sb.bD, .int .i64 sb.e], .slice L n c]) Tryz.func88 rfl rfl (by simp) ?_
 refine sr ?_
 refine cY hh [_,_,_,_,_,_] ?_
 intro b2 w2 hh
 refine aL (aa (sr (mL ?_)))
 refine aM (ir L n c (xs.map nR) _ (hS.ext hh.below) (by omega)) ar.out rfl (by decide) ?_
 rintro e_ w8 ⟨A8, c8, rfl, hown_, hb_⟩
 refine ⟨_, rfl, ?_⟩
 replace hh := hh.a9 (x := .row _ _ _ _ _ _) hb_ hown_
 obtain ⟨g8, rfl⟩ := hh.eI (i := 0) rfl (by omega)
 refine aL (aa (sr (mL ?_)))
 refine aM (mX g8 n c8 xs _ hh hln (by omega)) ar.out rfl (by decide) ?_
 rintro e_ w10 ⟨rfl, hh2⟩
 refine ⟨_, rfl, ?_⟩
 replace hh := hh2
 clear hh2
 have hlo := fun w1 hT1 hS1 => k9 sb sa b a (some ⟨g8, 0, none⟩) n c8 d xs.reverse k q w1 hT1 hS1 hn hd (fun x hx2 => hx x (List.mem_reverse.1 hx2)) vb va hk hq
 refine aa (sr (bH ?_))
 refine cU hh 1 [_,_,_] (bH ?_)
 refine cU hh 1 [_,_,_] ?_
 refine fQ [_,_,_,_,_,_] (mL ?_)
 refine aM (hlo _ (hT.hp hh) (hh.aV (i := 0) rfl)) ar.out rfl (by decide) ?_
 rintro e_ w17 ⟨A17, c17, rfl, hown_, hb_⟩
 refine ⟨_, rfl, ?_⟩
 replace hh := hh.a9 (x := .row _ _ _ _ _ _) hb_ hown_
 obtain ⟨g17, rfl⟩ := hh.eI (i := 0) rfl (by omega)
 refine aL (aa (sr (mL ?_)))
 refine aM (mX g17 n c17 (db d (gR d b a) xs.reverse) _ hh (by rw [gl]; omega) (by omega)) ar.out rfl (by decide) ?_
 rintro e_ w19 ⟨rfl, hh2⟩
 refine ⟨_, rfl, ?_⟩
 replace hh := hh2
 clear hh2
 refine aa (sr (mL (aL (aa (aq ?_)))))
 refine cu ?_
 exact ⟨_, _, rfl, hh.at_ (i := 0) rfl, hh.below⟩
end Go.Proofs.YtioilmppidlbnaaGreatDoor
/- The walk through lift.Raise. -/
namespace Go.Proofs.YtioilmppidlbnaaGreatDoor
open Go.RowKit
def y3 (p : Int × Int) : Bool := decide (p.2 < p.1 ∨ 127 < p.2)
def zO (ds es : List Int) : Int := if es.length ≠ ds.length then 1 else if (ds.zip es).any y3 = true then 1 else if 4096 < aC (es.map Int.toNat) then 3 else 0
def wW (a b : List Nat) : List Nat := List.zipWith (· - ·) a b
def xM (ns ts : List Nat) (xs : List Dyadic) : List Dyadic := yH ns (wW ts ns) xs ((qZ (wW ts ns)).map nD)
def Af (es ds : List Int) : List Int := List.zipWith (· - ·) es ds
theorem nQ (ts : List Nat) : (cx ts).map Int.toNat = ts := by
 unfold cx
 rw [List.map_map]
 exact List.map_id' ts
def yS (e : Int) : Ending := .returned (.tuple #[.agg #[.slice none 0 0, .slice none 0 0], .int .i64 e])
end Go.Proofs.YtioilmppidlbnaaGreatDoor
/- The walk through lift.raised. -/
namespace Go.Proofs.YtioilmppidlbnaaGreatDoor
open Go.RowKit
def FX.fY (f : FX) : HE := .row f.B f.m f.b 39 3 (bm NR.cells f.cs)
def FX.fN (f : FX) : HE := .row f.A f.n f.a 3 1 (bX f.ds)
def ym : List FX → List HE
 | [] => []
 | f :: fs => f.fY :: f.fN :: ym fs
theorem Hp.dq {w0 w : World} {H : List HE} (h : Hp w0 H w) {f : FX} (h1 : f.fY ∈ H) (h2 : f.fN ∈ H) : f.at_ w := ⟨oD (h.own _ h2), oD (h.own _ h1)⟩
def yz (a b : List Nat) : List Nat := List.zipWith max a b
def maxD (fs : List FX) : List Nat := fs.foldl (fun a f => yz a (f.ds.map Int.toNat)) ((fs.map fun f => f.ds.map Int.toNat).headD [])
def yN (fs : List FX) : Int := if rz fs ≠ 0 then rz fs else if 4096 < aC (maxD fs) then 3 else 0
end Go.Proofs.YtioilmppidlbnaaGreatDoor
/- The walk through lift.raised. -/
namespace Go.Proofs.YtioilmppidlbnaaGreatDoor
open Go.RowKit
def FX.ns (f : FX) : List Nat := f.ds.map Int.toNat
theorem FX.fv {f : FX} (h : f.e = 0) : f.ds = cx f.ns ∧ f.cs = (f.cs.map NR.d).map nR ∧ f.ns.length ≤ 12 ∧ (∀ d ∈ f.ns, d ≤ 127) ∧ f.cs.length = aC f.ns ∧ aC f.ns ≤ 4096 := by
 obtain ⟨ns, xs, hv, hxs⟩ := yF h
 obtain ⟨h1, h2, h3, h4, h5, h6⟩ := hv
 have e : f.ns = ns := by unfold FX.ns; rw [h1]; exact nQ ns
 subst hxs
 rw [e]
 exact ⟨h1, h2, h3, h4, by simpa using h5, h6⟩
structure z8 (D : List Nat) (ys : List Dyadic) (g : FX) : Prop where
 ds : g.ds = cx D
 cs : g.cs = ys.map nR
 n : g.n = D.length
 m : g.m = aC D
def Ab (D : List Nat) (f : FX) : List Dyadic := xM f.ns D (f.cs.map NR.d)
def zK (a b : List Nat) (j : Nat) : List Nat := (yz a b).take j ++ a.drop j
end Go.Proofs.YtioilmppidlbnaaGreatDoor
/- The walks through lift.Both and lift.Add. -/
namespace Go.Proofs.YtioilmppidlbnaaGreatDoor
open Go.RowKit
end Go.Proofs.YtioilmppidlbnaaGreatDoor
/- The walk through lift.Add. -/
namespace Go.Proofs.YtioilmppidlbnaaGreatDoor
open Go.RowKit
def yi (a b : List Dyadic) : List Dyadic := List.zipWith (· + ·) a b
def zB : List (List Dyadic) → List Dyadic
 | [] => []
 | x :: l => l.foldl yi x
def zH (a b : List Dyadic) (j : Nat) : List Dyadic := (yi a b).take j ++ a.drop j
theorem Hp.iL {w0 w : World} {H : List HE} (h : Hp w0 H w) {i n c sz : Nat} {A : Option Addr} {t : TypeId} {xs : List Value} (hi : H[i]? = some (.row A n c t sz xs)) : n ≤ c := by
 have h1 : w.ownsRow w0.heap.size t sz (.slice A n c) n xs := h.at_ hi
 rcases h1.2 with ⟨_, h3⟩ | ⟨g, cap, cur, h2, _, _, h5, _⟩
 ·omega
 ·injection h2 with _ _ e3
  omega
end Go.Proofs.YtioilmppidlbnaaGreatDoor
/- The walks through lift.Mul and lift.Scale. -/
namespace Go.Proofs.YtioilmppidlbnaaGreatDoor
open Go.RowKit
def zD (f g : FX) : Int := if rz [f, g] ≠ 0 then rz [f, g] else if yY (xb f.ns g.ns) = true then 3 else 0
def zI (a b : List Nat) (j : Nat) : List Nat := (xb a b).take j ++ a.drop j
end Go.Proofs.YtioilmppidlbnaaGreatDoor
/- The walks through the program's package of products of powers (mono), and through the document's answer's. -/
namespace Go.Proofs.YtioilmppidlbnaaGreatDoor
open Go.RowKit
end Go.Proofs.YtioilmppidlbnaaGreatDoor
/- The walks through the document's answer's products of powers. -/
namespace Go.Proofs.YtioilmppidlbnaaGreatDoor
open Go.RowKit
theorem mY (A B : Option Addr) (n m c c' : Nat) (xs ys : List Int) (w : World) (hx : Sl w A n 1 (bX xs)) (hy : Sl w B m 1 (bX ys)) (hn : n ≤ 100000) (hm : m ≤ 100000) :
  Calls Tryz.prog 44 #[.slice A n c, .slice B m c'] w fun e w' => e = .returned (.bool (decide (xs = ys))) ∧ Below w.heap.size w w' := by
 have hxl : xs.length = n := by have := hx.1; rw [gK] at this; omega
 have hyl : ys.length = m := by have := hy.1; rw [gK] at this; omega
 have hh := Hp.start w
 by_cases hnm : n = m
 ·subst hnm
  refine aj (N := 26) (l := [.slice A n c, .slice B n c']) Tryz.func44 rfl rfl (by simp) ?_
  refine sr (aB (aa (ah (sr (mL (a8 (mL (a8 ?_))))))))
  refine fe (aa (cF (al (ai (ah (sr (aI (aa (ak ?_)))))))))
  refine bE [4, 5, 11, 12, 13, 14, 15, 16, 17, 18, 19, 20, 21, 22, 23, 24, 25] 5
   (fun i w' => ∃ k : Nat, k ≤ n ∧ i = .int .i64 k ∧ xs.take k = ys.take k ∧ Hp w [] w')
   (fun i _ => n - (intOf i).toNat) ?_ ?_
  ·exact ⟨0, Nat.zero_le _, rfl, rfl, hh⟩
  ·clear hh
   rintro ρ' i w' ⟨k, hk, rfl, he, hh⟩
   replace hx := hx.ext hh.below
   replace hy := hy.ext hh.below
   by_cases hlt : k < n
   ·obtain ⟨x, hxk⟩ := aW (l := xs) (k := k) (by omega)
    obtain ⟨y, hyk⟩ := aW (l := ys) (k := k) (by omega)
    obtain ⟨ad, rfl, hr⟩ := hx.at_ (by omega)
    obtain ⟨bd, rfl, hs⟩ := hy.at_ (by omega)
    by_cases hxy : x = y
    ·subst hxy
     refine ah (sr (mI (mL (a8 ?_))))
     refine aQ (aa (cT (al (ai (ah (ak (ah ?_)))))))
     refine aR 8 [[(0, none)], [(5, none)], [(17, some 0), (18, some 1)], [(19, some 2)], [(1, none)], [(5, none)], [(21, some 4), (22, some 5)], [(23, some 6)]] [(7, 24), (6, 23), (5, 22), (4, 21), (3, 20), (2, 19), (1, 18), (0, 17)] hh mixed (by kernel_rfl) ?_
     refine iX ?_
     refine fg ?_
     refine br (i := 2) (fun ρ1 w1 hj hR => ee aK.out aE.size (show ρ1 17 = Value.slice _ _ _ from hR.1) (show ρ1 18 = Value.int _ _ from hR.2.1) (by omega) (by omega)) ?_
     refine oR (fun _ hj => jW (hr.ext hj.bl) (eM hxk) rfl) ?_
     refine iX ?_
     refine fg ?_
     refine br (i := 6) (fun ρ1 w1 hj hR => ee aK.out aE.size (show ρ1 21 = Value.slice _ _ _ from hR.1) (show ρ1 22 = Value.int _ _ from hR.2.1) (by omega) (by omega)) ?_
     refine oR (fun _ hj => jW (hs.ext hj.bl) (eM hyk) rfl) ?_
     refine bp ?_
     intro f W hJ hV
     have hb_6 := hJ.bl
     obtain ⟨v24, v23, v22, v21, v20, v19, v18, v17, _⟩ := hV
     replace hh := hJ.hp
     refine a6 (bq (ae v24 (ae v23 (ae v22 (ae v21 (ae v20 (ae v19 (ae v18 (ae v17 a0))))))))) ?_
     dsimp only [cz]
     clear hJ
     refine fe (aa (cF (al (aU (ai (ao (mI ?_)))))))
     refine bA (aI (aD (ai ?_)))
     refine ⟨⟨k + 1, by omega, rfl, by rw [bk hxk, bk hyk, he], hh⟩, by show n - (k + 1) < n - k; omega, ?_⟩
     (repeat (first | exact aw _ _ _ | refine az rfl ?_ | refine av rfl ?_))
    ·refine ah (sr (mI (mL (a8 ?_))))
     refine aQ (aa (cT (al (ai (ah (ak (ah ?_)))))))
     refine aR 8 [[(0, none)], [(5, none)], [(17, some 0), (18, some 1)], [(19, some 2)], [(1, none)], [(5, none)], [(21, some 4), (22, some 5)], [(23, some 6)]] [(7, 24), (6, 23), (5, 22), (4, 21), (3, 20), (2, 19), (1, 18), (0, 17)] hh mixed (by kernel_rfl) ?_
     refine iX ?_
     refine fg ?_
     refine br (i := 2) (fun ρ1 w1 hj hR => ee aK.out aE.size (show ρ1 17 = Value.slice _ _ _ from hR.1) (show ρ1 18 = Value.int _ _ from hR.2.1) (by omega) (by omega)) ?_
     refine oR (fun _ hj => jW (hr.ext hj.bl) (eM hxk) rfl) ?_
     refine iX ?_
     refine fg ?_
     refine br (i := 6) (fun ρ1 w1 hj hR => ee aK.out aE.size (show ρ1 21 = Value.slice _ _ _ from hR.1) (show ρ1 22 = Value.int _ _ from hR.2.1) (by omega) (by omega)) ?_
     refine oR (fun _ hj => jW (hs.ext hj.bl) (eM hyk) rfl) ?_
     refine bp ?_
     intro f W hJ hV
     have hb_6 := hJ.bl
     obtain ⟨v24, v23, v22, v21, v20, v19, v18, v17, _⟩ := hV
     replace hh := hJ.hp
     refine a6 (bq (ae v24 (ae v23 (ae v22 (ae v21 (ae v20 (ae v19 (ae v18 (ae v17 a0))))))))) ?_
     dsimp only [cz]
     clear hJ
     refine fe (aa (cT (sr (aB (aa (aq (cH (a7 (a7 (cH (a7 ?_)))))))))))
     refine cu ?_
     have : ¬ xs = ys := fun h => hxy (by rw [h, hyk] at hxk; exact (Option.some.inj hxk).symm)
     simp only [this, decide_false]
     first | exact ⟨rfl, hh.below⟩ | exact ⟨trivial, hh.below⟩
   ·refine ah (sr (mI (mL (a8 ?_))))
    refine aQ (aa (cF ?_))
    refine aZ ?_
    refine aA (aA (bo (ai (sr (aB (aa (aq ?_)))))))
    refine cu ?_
    rw [List.take_of_length_le (by omega), List.take_of_length_le (by omega)] at he
    simp only [he, decide_true]
    first | exact ⟨rfl, hh.below⟩ | exact ⟨trivial, hh.below⟩
 ·refine aj (N := 26) (l := [.slice A n c, .slice B m c']) Tryz.func44 rfl rfl (by simp) ?_
  refine sr (aB (aa (ah (sr (mL (a8 (mL (a8 ?_))))))))
  refine fe (aa (cT (sr (aB (aa (aq (a7 ?_)))))))
  refine cu ?_
  have : ¬ xs = ys := fun h => hnm (by rw [← hxl, ← hyl, h])
  simp only [this, decide_false]
  first | exact ⟨rfl, hh.below⟩ | exact ⟨trivial, hh.below⟩
end Go.Proofs.YtioilmppidlbnaaGreatDoor
/- The walks through count and All. -/
namespace Go.Proofs.YtioilmppidlbnaaGreatDoor
open Go.RowKit
end Go.Proofs.YtioilmppidlbnaaGreatDoor
/- The walk through the document's answer's All. -/
namespace Go.Proofs.YtioilmppidlbnaaGreatDoor
open Go.RowKit
end Go.Proofs.YtioilmppidlbnaaGreatDoor
/- The walks through ogeeref12: forms by definition: what is wrong, ways to choose, places. -/
namespace Go.Proofs.YtioilmppidlbnaaGreatDoor
open Go.RowKit
end Go.Proofs.YtioilmppidlbnaaGreatDoor
/- The walks through ogeeref12, second part: ways to choose, rows, places, equal forms, a form of one's own. -/
namespace Go.Proofs.YtioilmppidlbnaaGreatDoor
open Go.RowKit
def z6 (n : Nat) (k : Int) : Dyadic := if k < 0 ∨ (n : Int) < k then 0 else nD (bin n k.toNat)
def zl (ns : List Nat) : List ByteArray := (xL (cx ns)).map fX
theorem qa (L : Option Addr) (n c : Nat) (b : List NR) (M : Option Addr) (c2 : Nat) (w : World) (hS : Sl w L n 3 (bm NR.cells b)) (hS2 : Sl w M n 3 (bm NR.cells b)) (hn : n ≤ 1000000) :
  Calls Tryz.prog 56 #[.slice L n c, .slice M n c2] w fun r w' => r = .returned (.bool true) ∧ Below w.heap.size w w' := by
 have hh := Hp.start w
 have hln := hS.eB NR.len (by decide)
 refine aj (N := 26) (l := [.slice L n c, .slice M n c2]) Tryz.func56 rfl rfl (by simp) ?_
 refine sr (aB (aa (ah (sr (mL (a8 (mL (a8 ?_))))))))
 refine fe (aa (cF (al (ai (ah (sr (aI (aa (ak ?_)))))))))
 refine bE [4, 5, 11, 12, 13, 14, 15, 16, 17, 18, 19, 20, 21, 22, 23, 24, 25] 5
  (fun v w' => ∃ i : Nat, i ≤ n ∧ v = .int .i64 i ∧ Hp w [] w')
  (fun v _ => n - (intOf v).toNat) ?_ ?_
 ·exact ⟨0, Nat.zero_le _, rfl, hh⟩
 ·clear hh
  rintro ρ' v w' ⟨i, hi, rfl, hh⟩
  by_cases hlt : i < n
  ·obtain ⟨s, hs⟩ := aW (l := b) (k := i) (by omega)
   obtain ⟨ad, rfl, hr⟩ := hS.at_ (by omega)
   obtain ⟨ad2, rfl, hr2⟩ := hS2.at_ (by omega)
   refine ah (sr (mI (mL (a8 ?_))))
   refine aQ (aa (cT (al (ai (ah (ak (ah ?_)))))))
   refine aR 8 [[(0, none)], [(5, none)], [(17, some 0), (18, some 1)], [(19, some 2)], [(1, none)], [(5, none)], [(21, some 4), (22, some 5)], [(23, some 6)]] [(7, 24), (6, 23), (5, 22), (4, 21), (3, 20), (2, 19), (1, 18), (0, 17)] hh mixed (by kernel_rfl) ?_
   refine iX ?_
   refine fg ?_
   refine qk (i) ?_
   refine xI [_,_,_] (fun _ hj => (hr.ext hj.hp.below).recAt NR.len hs) ?_
   refine iX ?_
   refine fg ?_
   refine qk (i) ?_
   refine xI [_,_,_] (fun _ hj => (hr2.ext hj.hp.below).recAt NR.len hs) ?_
   refine bp ?_
   intro f W hJ hV
   have hb_6 := hJ.bl
   obtain ⟨v24, v23, v22, v21, v20, v19, v18, v17, _⟩ := hV
   replace hh := hJ.hp
   refine a6 (bq (ae v24 (ae v23 (ae v22 (ae v21 (ae v20 (ae v19 (ae v18 (ae v17 a0))))))))) ?_
   dsimp only [cz]
   clear hJ
   first | refine oJ rfl rfl (by first | assumption | rfl) (by decide) ?_ | refine oB rfl rfl (by assumption) (by decide) ?_
   refine aa (cF (al (aU (ai (ao (mI ?_))))))
   refine bA (aI (aD (ai ?_)))
   refine ⟨⟨i + 1, by omega, rfl, hh⟩, by show n - (i + 1) < n - i; omega, ?_⟩
   (repeat (first | exact aw _ _ _ | refine az rfl ?_ | refine av rfl ?_))
  ·refine ah (sr (mI (mL (a8 ?_))))
   refine aQ (aa (cF ?_))
   refine aZ ?_
   refine aA (aA (bo (ai (sr (aB (aa (aq ?_)))))))
   refine cu ?_
   exact ⟨rfl, hh.below⟩
theorem om (A B : Option Addr) (n c m c2 : Nat) (A' B' : Option Addr) (c' c2' : Nat) (ds : List Int) (cs : List NR) (w : World) (hS : Sl w A n 1 (bX ds)) (hS2 : Sl w B m 3 (bm NR.cells cs)) (hS3 : Sl w A' n 1 (bX ds)) (hS4 : Sl w B' m 3 (bm NR.cells cs)) (hn : n ≤ 100000) (hm : m ≤ 1000000) :
  Calls Tryz.prog 17 #[.agg #[.slice A n c, .slice B m c2], .agg #[.slice A' n c', .slice B' m c2']] w fun r w' => r = .returned (.bool true) ∧ Below w.heap.size w w' := by
 have hh := Hp.start w
 have hnum := fun w1 h1 h2 => mY A A' n n c c' ds ds w1 h1 h2 hn hn
 simp only [decide_true] at hnum
 refine aj (N := 17) (l := [.agg #[.slice A n c, .slice B m c2], .agg #[.slice A' n c', .slice B' m c2']]) Tryz.func17 rfl rfl (by simp) ?_
 refine sr ?_
 refine cY hh [_,_] ?_
 intro b2 w2 hh
 refine cY hh [_,_] ?_
 intro b3 w3 hh
 refine aB (aa (sr (bH ?_)))
 refine bJ hh 1 ?_
 refine bH ?_
 refine bJ hh 0 ?_
 refine bG hh (hnum _ (hS.ext hh.below) (hS3.ext hh.below)) rfl ?_
 intro w9 hh
 refine mB ?_
 first | refine gS ?_ | (refine gT ?_; refine bH ?_) | refine gV ?_
 first | refine gS ?_ | (refine gT ?_; refine bJ hh 1 ?_) | refine gV ?_
 first | refine gS ?_ | (refine gT ?_; refine bH ?_) | refine gV ?_
 first | refine gS ?_ | (refine gT ?_; refine bJ hh 0 ?_) | refine gV ?_
 refine aY rfl rfl ?_
 refine bG hh (qa B m c2 cs B' c2' _ (hS2.ext hh.below) (hS4.ext hh.below) hm) rfl ?_
 intro w15 hh
 first | refine dk ?_ | refine dm ?_
 refine aB (aa (aq ?_))
 refine cu ?_
 exact ⟨rfl, hh.below⟩
end Go.Proofs.YtioilmppidlbnaaGreatDoor
/- The walks through ogeeref14: Big, Times. -/
namespace Go.Proofs.YtioilmppidlbnaaGreatDoor
open Go.RowKit
end Go.Proofs.YtioilmppidlbnaaGreatDoor
/- The walk through ogeeref14.Times. -/
namespace Go.Proofs.YtioilmppidlbnaaGreatDoor
open Go.RowKit
def z3 (ds es : List Nat) (xs ys : List Dyadic) (i m : Nat) : List (Nat × Dyadic) := (List.range m).map fun k => (kt (qR ds es) (qR (du ds i) (du es k)), (xs[i]?).getD 0 * (ys[k]?).getD 0)
def Aa (ds es : List Nat) (xs ys : List Dyadic) (i : Nat) : List (Nat × Dyadic) := (List.range i).flatMap fun i => z3 ds es xs ys i (aC es)
def bS (rs : List Nat) : List UInt8 := (cx rs).map yR
end Go.Proofs.YtioilmppidlbnaaGreatDoor
/- Plain laws: a form, raised degree by degree. -/
namespace Go.Proofs.YtioilmppidlbnaaGreatDoor
def vz (ns : List Nat) (a : Nat) : List Nat := ns.set a (ns.getD a 0 + 1)
def Ad (ns : List Nat) (a : Nat) (xs : List Dyadic) : List Dyadic :=
 (List.range (aC (vz ns a))).map fun p => co ns.reverse xs (du (vz ns a).reverse p) + if 0 < (du (vz ns a).reverse p).getD (ns.length - 1 - a) 0 then co ns.reverse xs (za (du (vz ns a).reverse p) (ns.length - 1 - a)) else 0
def zA (ns : List Nat) (xs : List Dyadic) (cs : List Nat) (zs : List Dyadic) : Prop := zs.length = aC cs ∧ cs.length = ns.length ∧ (∀ (i n c : Nat), ns[i]? = some n → cs[i]? = some c → n ≤ c) ∧ ∀ row : List Nat, row.length = ns.length → co cs.reverse zs row = zj (wW cs ns).reverse (co ns.reverse xs) row
end Go.Proofs.YtioilmppidlbnaaGreatDoor
/- The walk through ogeeref14.up. -/
namespace Go.Proofs.YtioilmppidlbnaaGreatDoor
open Go.RowKit
end Go.Proofs.YtioilmppidlbnaaGreatDoor
/- The walk through ogeeref14.Raise. -/
namespace Go.Proofs.YtioilmppidlbnaaGreatDoor
open Go.RowKit
def zw (w : World) (b i : Nat) : Int := match w.cell? ⟨b, 0, none⟩ with
 | some (.slice (some a) _ _) => match w.cell? (a.add (i * 1)) with
  | some (.int _ z) => z
  | _ => 0
 | _ => 0
structure RS (ns ts : List Nat) (xs : List Dyadic) (k n : Nat) (F FC : Option Addr) (c1 c2 i T : Nat) (cur : List Nat) (zs : List Dyadic) (A B : Option Addr) (ca cb : Nat) (R : List HE) (w : World) : Prop where
 Ae : zA ns xs cur zs
 le : ∀ (j c t : Nat), cur[j]? = some c → ts[j]? = some t → c ≤ t
 eq : ∀ (j c t : Nat), j < i → cur[j]? = some c → ts[j]? = some t → c = t
 sz : ∀ x ∈ zs, Sz (k + T) x
 src : (A = F ∧ ca = c1 ∧ B = FC ∧ cb = c2 ∧ cur = ns ∧ zs = xs) ∨ R = [.row B (aC cur) cb 39 3 (bm NR.cells (zs.map nR)), .row A n ca 3 1 (bX (cx cur))]
 rd : ∀ (H : List HE) (w' : World), Hp w (H ++ R) w' → Sl w' A n 1 (bX (cx cur)) ∧ Sl w' B (aC cur) 3 (bm NR.cells (zs.map nR))
end Go.Proofs.YtioilmppidlbnaaGreatDoor
/- The walks through ogeeref14.Like and ogeeref14.All. -/
namespace Go.Proofs.YtioilmppidlbnaaGreatDoor
open Go.RowKit
theorem FX.at_.ln {g : FX} {w : World} (h : g.at_ w) : g.ds.length = g.n ∧ g.cs.length = g.m := ⟨by have := h.dg.1; rw [gK] at this; omega, h.nm.eB NR.len (by decide)⟩
def Kept (fs : List FX) (R : List HE) (g : FX) : Prop := g ∈ fs ∨ (g.fY ∈ R ∧ g.fN ∈ R)
end Go.Proofs.YtioilmppidlbnaaGreatDoor
/- The contracts of package lift once more, each with one ending: a form that one owns, empty where there is an error. -/
namespace Go.Proofs.YtioilmppidlbnaaGreatDoor
open Go.RowKit
def yh (E : Int) (D : List Nat) : List Int := if E = 0 then cx D else []
def xt (E : Int) (ys : List Dyadic) : List NR := if E = 0 then ys.map nR else []
structure Out (E : Int) (D : List Nat) (ys : List Dyadic) (g : FX) : Prop where
 ds : g.ds = yh E D
 cs : g.cs = xt E ys
 n : g.n ≤ 100000
 m : g.m ≤ 1000000
def FX.nil : FX := ⟨none, 0, 0, none, 0, 0, [], []⟩
theorem Hp.uw {w0 w : World} {H : List HE} (h : Hp w0 H w) : Hp w0 (FX.nil.fY :: FX.nil.fN :: H) w := (h.fo 3 1).fo 39 3
theorem Out.err {E : Int} {D : List Nat} {ys : List Dyadic} (h : E ≠ 0) : Out E D ys FX.nil := ⟨by unfold yh; rw [if_neg h]; rfl, by unfold xt; rw [if_neg h]; rfl, Nat.zero_le _, Nat.zero_le _⟩
theorem Out.same {E : Int} {D : List Nat} {ys : List Dyadic} {g h : FX} (h1 : Out E D ys g) (h2 : Out E D ys h) : g.ds = h.ds ∧ g.cs = h.cs := ⟨h1.ds.trans h2.ds.symm, h1.cs.trans h2.cs.symm⟩
theorem cN (g h : FX) (w : World) (hg : g.at_ w) (hh : h.at_ w) (e : g.ds = h.ds ∧ g.cs = h.cs) (hn : g.n ≤ 100000) (hm : g.m ≤ 1000000) :
  Calls Tryz.prog 17 #[.agg #[.slice g.A g.n g.a, .slice g.B g.m g.b], .agg #[.slice h.A h.n h.a, .slice h.B h.m h.b]] w fun r w' => r = .returned (.bool true) ∧ Below w.heap.size w w' := by
 have l1 := hg.ln
 have l2 := hh.ln
 obtain ⟨hg1, hg2⟩ := hg
 obtain ⟨hh1, hh2⟩ := hh
 have e1 : h.n = g.n := by rw [← l1.1, ← l2.1, e.1]
 have e2 : h.m = g.m := by rw [← l1.2, ← l2.2, e.2]
 rw [← e.1, e1] at hh1
 rw [← e.2, e2] at hh2
 rw [e1, e2]
 exact om g.A g.B g.n g.a g.m g.b h.A h.B h.a h.b g.ds g.cs w hg1 hg2 hh1 hh2 hn hm
def y4 (f : FX) (es : List Int) : Int := if f.e ≠ 0 then f.e else zO f.ds es
def FX.key (f : FX) : List Int × List NR × Nat := (f.ds, f.cs, f.n)
end Go.Proofs.YtioilmppidlbnaaGreatDoor
/- Forms that a call in a drawn region hands back, with a new variable beside them. -/
namespace Go.Proofs.YtioilmppidlbnaaGreatDoor
open Go.RowKit
def zz (base : Nat) (E : Int) (D : List Nat) (ys : List Dyadic) : VP := fun v W => ∃ (g : FX) (w1 : World), v = .agg #[.slice g.A g.n g.a, .slice g.B g.m g.b] ∧ Out E D ys g ∧ base ≤ w1.heap.size ∧ Hp w1 [g.fY, g.fN] W
def zQ (base : Nat) (E : Int) (D : List Nat) (ys : List Dyadic) : VP := fun v W => ∃ (g : FX) (w1 : World), v = .tuple #[.agg #[.slice g.A g.n g.a, .slice g.B g.m g.b], .int .i64 E] ∧ Out E D ys g ∧ base ≤ w1.heap.size ∧ Hp w1 [g.fY, g.fN] W
end Go.Proofs.YtioilmppidlbnaaGreatDoor
/- The walk through cast.along: every line of a form along an axis, changed by a function. -/
namespace Go.Proofs.YtioilmppidlbnaaGreatDoor
open Go.RowKit
instance : aE Tryz.prog 115 1 false 8 [.nilFunc] := ⟨by kernel_rfl⟩
theorem tf {m : Nat} {bs : List (Fin m)} {q : Fin m} (h : bs ++ [q] = (List.finRange m).take (bs ++ [q]).length) (hb : bs.length < m) : bs = (List.finRange m).take bs.length ∧ q.val = bs.length := by
 have hl : (bs ++ [q]).length = bs.length + 1 := by simp
 rw [hl] at h
 have h1 := congrArg (List.take bs.length) h
 rw [List.take_left' rfl, List.take_take, Nat.min_eq_left (by omega)] at h1
 have h2 : (bs ++ [q])[bs.length]? = ((List.finRange m).take (bs.length + 1))[bs.length]? := by rw [← h]
 rw [List.getElem?_append_right (Nat.le_refl _), Nat.sub_self, List.getElem?_take, if_pos (by omega), show (List.finRange m)[bs.length]? = some ⟨bs.length, hb⟩ by rw [List.getElem?_eq_getElem (by rw [List.length_finRange]; exact hb), List.getElem_finRange]; rfl] at h2
 exact ⟨h1, congrArg Fin.val (Option.some.inj h2)⟩
theorem sY {P : Program} {N : Nat} {Q : Kd} {ρ : Rf} {w : World} {α : Type} {g : Operand} {p : Tmp} {assign body : Code} {gf : Nat} {lb : Array Value} (q : Nat) (hq : q < N) (hp : p < N) (hg : ev ρ g = .func (.func gf) #[] lb) (eg : ∀ args w, (callFunc gf args).run P w = .ok (.enter gf args) w)
  {enc : α → Value} {Kp : World → World → Prop} {S : List α → Prop} {Nn : Nat} (hseq : ∀ n, SeqStopsK Fence.wide n P gf lb (fun x => #[enc x]) Kp S (fun _ => True) Nn w)
  (hKt : ∀ {A B C : World}, Kp A B → Kp B C → Kp A C) (hKb : ∀ (W : World) (l : Nat) (o o' : Obj), w.heap.size ≤ l → W.heap[l]? = some o → o.isCells = false → o.isWalk = false → Kp W (W.putObj l o'))
  (I : List α → World → Prop) (hI : OwnFrom w.heap.size I) (h0 : I [] w)
  (hassign : ∀ l x W, WC ⟨some l, [], true⟩ P N assign (dV (fun ρ' W' => ρ' = bZ (bZ ρ p (enc x)) q (enc x) ∧ W' = W) yq) (bZ ρ p (enc x)) W)
  (hbody : ∀ l pre x W, I pre W → pre.length < Nn → WC ⟨some l, [], true⟩ P N body (wv Kp I pre x W) (bZ (bZ ρ p (enc x)) q (enc x)) W)
  (hdone : ∀ (D : Nat) (xs : List α) (W : World), w.heap.size ≤ D → S xs → I xs W → W.heap[D]? = some (.deferred (some [])) → Q .normal [D] ρ W) : WD P N (.rangeFunc g #[p] assign body) Q ρ w :=
 tm hp hg eg hseq hKt hKb I hI h0 (fun x => bZ (bZ ρ p (enc x)) q (enc x)) (fun x i hi => by rw [fC _ (fun h => absurd hq (by rw [← h]; exact Nat.not_lt.2 hi)), fC _ (fun h => absurd hp (by rw [← h]; exact Nat.not_lt.2 hi))]) hassign hbody hdone
theorem jS (DA NA : Option Addr) (n c m e : Nat) (pre suf : List Nat) (dd : Nat) (M : Nat → Nat → Dyadic) (xs : List Dyadic) (fid : FuncId) (fst cap : List Value) (k G : Nat) (w : World) [ar Tryz.prog fid] (hT : ff w)
  (hD : Sl w DA n 1 (bX (cx (pre ++ dd :: suf)))) (hS : Sl w NA m 3 (bm NR.cells (xs.map nR))) (hcap : n ≤ c) (hn : n ≤ 1000) (hlow : ∀ x ∈ pre ++ dd :: suf, x ≤ 127) (hm : xs.length = aC (suf.reverse ++ dd :: pre.reverse)) (hm4 : m ≤ 4096)
  (hx : ∀ x ∈ xs, Sz k x) (hk : k + aC pre * G ≤ 300000)
  (hdo : ∀ (L : Option Addr) (c2 : Nat) (ls : List Dyadic) (q : Nat) (w1 : World), Below w.heap.size w w1 → ff w1 → Sl w1 L (dd + 1) 3 (bm NR.cells (ls.map nR)) → (∀ x ∈ ls, Sz q x) → q ≤ 300000 →
   Calls Tryz.prog fid (fst ++ Value.slice L (dd + 1) c2 :: cap).toArray w1 fun r w' => ∃ A c', r = .returned (.slice A (dd + 1) c') ∧ w'.ownsRow w1.heap.size 39 3 (.slice A (dd + 1) c') (dd + 1) (bm NR.cells ((db dd M ls).map nR)) ∧ Below w1.heap.size w1 w')
  (hgr : ∀ (ls : List Dyadic) (q : Nat), ls.length = dd + 1 → (∀ x ∈ ls, Sz q x) → ∀ x ∈ db dd M ls, Sz (q + G) x) :
  Calls Tryz.prog 86 #[.agg #[.slice DA n c, .slice NA m e], .int .i64 (pre.length : Nat), .func (.func fid) fst.toArray cap.toArray] w fun r w' => ∃ A a B b, r = .returned (.agg #[.slice A n a, .slice B m b]) ∧ Hp w [.row B m b 39 3 (bm NR.cells ((cM (suf.reverse ++ dd :: pre.reverse) suf.length M xs).map nR)), .row A n a 3 1 (bX (cx (pre ++ dd :: suf)))] w' := by
 have hh := Hp.start w
 have hln : pre.length + (suf.length + 1) = n := by have := hD.1; rw [gK, kh, List.length_append, List.length_cons] at this; omega
 have hlm : xs.length = m := by have := hS.eB NR.len (by decide); rw [List.length_map] at this; exact this
 have hcA : aC suf.reverse = aC suf := hG suf
 have hcB : aC pre.reverse = aC pre := hG pre
 have hmK : m = aC pre * ((dd + 1) * aC suf) := by rw [← hlm, hm, eo, aC, hcA, hcB]; rw [Nat.mul_comm (aC suf), Nat.mul_right_comm, Nat.mul_comm _ (aC pre)]
 have hA0 := fh suf
 have hB0 := fh pre
 have hAm : aC suf ≤ m := by rw [hmK]; exact Nat.le_trans (Nat.le_mul_of_pos_left _ (by omega)) (Nat.le_mul_of_pos_left _ hB0)
 have hKm : (dd + 1) * aC suf ≤ m := by rw [hmK]; exact Nat.le_mul_of_pos_left _ hB0
 have hdl : dd ≤ 127 := hlow dd (List.mem_append_right _ List.mem_cons_self)
 obtain ⟨ad, rfl, hr⟩ := hD.at_ (by omega)
 have hgd : (bX (cx (pre ++ dd :: suf)))[pre.length]? = some (.int .i64 (dd : Nat)) := eM (od (by rw [List.getElem?_append_right (Nat.le_refl _), Nat.sub_self]; rfl))
 refine sE (N := 93) (l := [.agg #[.slice (some ad) n c, .slice NA m e], .int .i64 (pre.length : Nat), .func (.func fid) fst.toArray cap.toArray]) Tryz.func86 rfl rfl (by simp) ?_
 refine nx fun D_ => ?_
 refine ao ?_
 refine cY hh [_,_] ?_
 intro b3 w3 hh
 refine cY hh [_] ?_
 intro b5 w5 hh
 refine cd hh ?_
 intro b6 w6 hh
 refine aa ?_
 refine nx fun D_ => ?_
 refine ao (bH ?_)
 refine bJ hh 2 ?_
 refine mI ?_
 refine aX (k := pre.length) aK.out aE.size rfl rfl (by omega) (by omega) (by decide) ?_
 refine bh aE.out rfl ((hr.ext hh.below).hQ hgd) (by decide) ?_
 refine bA ?_
 refine cd hh ?_
 intro b7 w7 hh
 refine cd hh ?_
 intro b8 w8 hh
 refine bK hh 1 [_] ?_
 intro ws hh
 replace hh : Hp _ (_ :: .blk _ _ [_] _ :: _) _ := hh
 refine bK hh 0 [_] ?_
 intro ws hh
 replace hh : Hp _ (.blk _ _ [_] _ :: _) _ := hh
 refine aa ?_
 refine nx fun D_ => ?_
 refine sr (bH ?_)
 refine bJ hh 4 ?_
 refine mI ?_
 refine bA ?_
 refine aT rfl rfl (by decide) (pr aK.out aE.size rfl rfl (l := pre.length + 1) rfl (by omega) (by omega)) ?_
 have hbk := hD.back (l := pre.length + 1) (c := c) (by omega) hcap
 have hds : (bX (cx (pre ++ dd :: suf))).drop ((pre.length + 1) * 1) = bX (cx suf) := by
  rw [Nat.mul_one]
  unfold bX cx
  rw [← List.map_drop, ← List.map_drop, ← List.drop_drop, List.drop_left]
  rfl
 rw [hds] at hbk
 generalize (if c = pre.length + 1 then some ad else (some ad : Option Addr).map (·.add ((pre.length + 1) * 1))) = CA at hbk ⊢
 have en : n - (pre.length + 1) = suf.length := by omega
 rw [en] at hbk ⊢
 refine a8 (mI (aa (ak ?_)))
 have hcap' : ∀ i, aC (suf.take i) ≤ aC suf := gN suf
 refine bE [10, 30, 31, 32, 33, 34, 35, 36, 37, 38] 30
  (fun v w' => ∃ i : Nat, i ≤ suf.length ∧ v = .int .i64 i ∧ Hp w [.blk b8 3 [.int .i64 (aC (suf.take i) : Nat)] (0, 0), .blk b7 3 [.int .i64 ((dd : Nat) + 1)] (0, 0), .blk b6 28 [.slice none 0 0, .slice none 0 0] (0, 0), .blk b5 115 [.func (.func fid) fst.toArray cap.toArray] (0, 0), .blk b3 28 [.slice (some ad) n c, .slice NA m e] (0, 0)] w')
  (fun v _ => suf.length - (intOf v).toNat) ?_ ?_
 ·exact ⟨0, Nat.zero_le _, rfl, hh⟩
 ·clear hh
  rintro ρ' v w' ⟨i, hi, rfl, hh⟩
  by_cases hlt : i < suf.length
  ·obtain ⟨x, hxi⟩ := aW (l := suf) (k := i) hlt
   have hgi := eM (od hxi)
   have hx2 := hlow x (List.mem_append_right _ (List.mem_cons_of_mem _ (List.mem_of_getElem? hxi)))
   have hct := hcap' (i + 1)
   have hct2 := hcap' i
   have hstep : aC (suf.take (i + 1)) = aC (suf.take i) * (x + 1) := by rw [bk hxi, eo]; simp [aC]
   have e1 : ((aC (suf.take i) : Nat) : Int) * ((x : Int) + 1) = ((aC (suf.take (i + 1)) : Nat) : Int) := by rw [hstep, Int.natCast_mul, Int.natCast_add]; rfl
   obtain ⟨ab, rfl, sb⟩ := hbk.at_ (by omega)
   refine sr ?_
   refine aQ (aa (ah (cT (al (ai (ah (ak (sr ?_))))))))
   refine aX (k := i) aK.out aE.size rfl rfl (by omega) (by omega) (by decide) ?_
   refine bh aE.out rfl ((sb.ext hh.below).hQ hgi) (by decide) ?_
   refine aI (aa (ao ?_))
   refine bJ hh 0 ?_
   refine mI ?_
   refine bA ?_
   refine mulC ?_
   refine bK hh 0 [_] ?_
   intro ws hh
   replace hh : Hp _ (.blk _ _ [_] _ :: _) _ := hh
   refine aD (aU (ai (ao ?_)))
   refine bA (mI (aD (ai ?_)))
   rw [e1] at hh
   refine ⟨⟨i + 1, by omega, rfl, hh⟩, by show suf.length - (i + 1) < suf.length - i; omega, ?_⟩
   (repeat (first | exact aw _ _ _ | refine az rfl ?_ | refine av rfl ?_))
  ·obtain rfl : i = suf.length := by omega
   rw [List.take_of_length_le (Nat.le_refl _), ← hcA] at hh
   rw [← hcA, ← hcB] at hmK
   rw [← hcA] at hA0 hKm
   rw [← hcB] at hB0 hk
   have hrA : suf.reverse.length = suf.length := List.length_reverse
   rw [← hrA]
   generalize suf.reverse = A at *
   generalize pre.reverse = B at *
   refine sr ?_
   refine aQ (aa (ah (cF ?_)))
   refine aZ ?_
   refine aA (aA (bo (ai ?_)))
   refine nx fun D_ => ?_
   refine tX ?_
   refine aR 8 [[(3, none)], [(39, some 0)], [(40, some 1)], [(3, none)], [(42, some 3)], [(43, some 4)], [(41, some 2), (44, some 5)], []] [(7, 11), (6, 45), (5, 44), (4, 43), (3, 42), (2, 41), (1, 40), (0, 39)] hh mixed (by kernel_rfl) ?_
   refine fJ ?_
   refine gU 4 ?_
   refine bM (i := 2) (lU hh.sz 3 n 1 (bX (cx (pre ++ dd :: suf)))) (lU.ext) ?_ ?_
   ·intro ρ1 w1 hj hR
    exact bP rfl (bF ar.out (aF (show ρ1 40 = Value.slice _ _ _ from hR.1) bz)) (kB (some ad) n c _ w1 (hD.ext hj.hp.below) (by omega)) (fun _ _ ⟨A, c, hq, ho, hb⟩ => ⟨_, hq, hb, A, c, rfl, eR ho hj.bl.size⟩)
   refine fJ ?_
   refine gU 4 ?_
   refine bM (i := 5) (lU hh.sz 39 m 3 (bm NR.cells (xs.map nR))) (lU.ext) ?_ ?_
   ·intro ρ1 w1 hj hR
    exact bP rfl (bF ar.out (aF (show ρ1 43 = Value.slice _ _ _ from hR.1) bz)) (ir NA m e _ w1 (hS.ext hj.hp.below) (by omega)) (fun _ _ ⟨A, c, hq, ho, hb⟩ => ⟨_, hq, hb, A, c, rfl, eR ho hj.bl.size⟩)
   refine bM (i := 6) (ka hh.sz 3 39 n 1 m 3 (bX (cx (pre ++ dd :: suf))) (bm NR.cells (xs.map nR))) (ka.ext) ?_ ?_
   ·intro ρ1 w1 hj hR
    exact let ⟨A, c, e1, o1⟩ := hR.1; let ⟨B, k, e2, o2⟩ := hR.2.1; iA rfl (lJ (cs := [_, _]) aE.out ia.out (aP e1 (aP e2 bO)) rfl) ⟨Below.refl _ _, A, c, B, k, rfl, o1, o2⟩
   refine bM (i := 7) (cV _ 28 _) cV.ext (fun ρ1 w1 hj hR => gB aE.out hj.bl (fun v w2 h hb => ⟨hb, h⟩)) ?_
   refine bp ?_
   intro f W hJ hV
   have hb_7 := hJ.bl
   obtain ⟨v11, v45, v44, v43, v42, v41, v40, v39, _⟩ := hV
   obtain ⟨g41, u41, e41, -⟩ := v41
   obtain ⟨g44, u44, e44, -⟩ := v44
   obtain ⟨A45, c45, B45, k45, e45, o45, p45⟩ := v45
   obtain ⟨b11, e11, hl11, hc11⟩ : cV _ _ _ (f 7) W := v11
   replace hh := JJ.mh hJ hh hl11 hc11 o45 p45 (by decide) (by decide) (by decide)
   refine a6 (bq (ae e11 (ae e45 (ae e44 (ae v43 (ae v42 (ae e41 (ae v40 (ae v39 a0))))))))) ?_
   dsimp only [cz]
   clear e41 e44 e45 e11 hJ
   have eK : ((dd : Nat) : Int) + 1 = ((dd + 1 : Nat) : Int) := by omega
   have eK2 : (((dd : Nat) : Int) + 1) * ((aC A : Nat) : Int) = (((dd + 1) * aC A : Nat) : Int) := by rw [eK, ← Int.natCast_mul]
   refine bK hh 0 [_,_] ?_
   intro ws hh
   replace hh : Hp _ (.blk _ _ [_, _] _ :: _) _ := hh
   refine aa ?_
   refine tB ?_
   refine nx fun D_ => ?_
   refine ao (bH ?_)
   refine bJ hh 0 ?_
   refine bJ hh 4 ?_
   refine bJ hh 3 ?_
   refine mulC ?_
   rw [eK2]
   refine aM (pB B45 m k45 ((dd + 1) * aC A) _ (Nat.le_trans hA0 (Nat.le_mul_of_pos_left _ (by omega)))) ar.out rfl (by decide) ?_
   rintro e_ w51 ⟨b2, b1, rfl, h2⟩
   refine ⟨_, rfl, ?_⟩
   replace hh := hh.join h2
   simp only [List.cons_append, List.nil_append] at hh
   clear h2
   refine aa ?_
   have hmk := hh.iL (i := 4) rfl
   obtain ⟨g, rfl⟩ := hh.eI (i := 4) rfl (by omega)
   have hc2 := hh.eH (i := 1) (o := 0) rfl rfl
   have hc1 := hh.eH (i := 0) (o := 0) rfl rfl
   have hseq := sU b2 b1 ⟨g, 0, none⟩ m k45 ((dd + 1) * aC A) (aC B) _ hc2 hc1 hmK (Nat.lt_of_lt_of_le hA0 (Nat.le_mul_of_pos_left _ (by omega))) hmk (by omega) (by omega)
   refine uk (sY (α := Fin (aC B)) (enc := fun j : Fin (aC B) => .slice (some ((⟨g, 0, none⟩ : Addr).add (j.val * ((dd + 1) * aC A) * 3))) ((dd + 1) * aC A) ((dd + 1) * aC A)) 12 (by decide) (by decide) rfl (enters_of Tryz.func122 (by kernel_rfl) rfl) hseq u6 (fun W l o o' h _ _ _ => vI (n6 hc2) (n6 hc1) W l o o' h)
    (fun bs W => ∃ X : List Dyadic, X.length = m ∧ (∀ x ∈ X, Sz (k + bs.length * G) x) ∧ (bs = (List.finRange (aC B)).take bs.length → X = tj A dd B M xs bs.length) ∧ Hp w [.row (some ⟨g, 0, none⟩) m k45 39 3 (bm NR.cells (X.map nR)), .row A45 n c45 3 1 (bX (cx (pre ++ dd :: suf))), .blk b1 3 [.int .i64 (((dd + 1) * aC A : Nat) : Int)] (0, 0), .blk b2 26 [.slice (some ⟨g, 0, none⟩) m k45] (0, 0), .blk b11 28 [.slice A45 n c45, .slice (some ⟨g, 0, none⟩) m k45] (0, 0), .blk b8 3 [.int .i64 (aC A : Nat)] (0, 0), .blk b7 3 [.int .i64 ((dd : Nat) + 1)] (0, 0), .blk b6 28 [.slice none 0 0, .slice none 0 0] (0, 0), .blk b5 115 [.func (.func fid) fst.toArray cap.toArray] (0, 0), .blk b3 28 [.slice (some ad) n c, .slice NA m e] (0, 0)] W)
    ?own ?zero ?asg ?body ?done)
   case own =>
    intro s W W' row ⟨X, h1, h2, h3, h4⟩ hg hr
    exact ⟨X, h1, h2, h3, h4.wT (by simp [HE.wV]) hg fun r e => ⟨Nat.le_trans hh.size (hr r e).1, (hr r e).2⟩⟩
   case zero =>
    refine ⟨xs, hlm, fun x h => (hx x h).mono (by omega), fun _ => (uq _ _ _).symm, ?_⟩
    replace hh := hh.perm (List.perm_middle (l₁ := [_, _, _]))
    simp only [List.cons_append, List.nil_append] at hh
    replace hh := hh.perm (List.perm_middle (l₁ := [_, _, _, _]))
    simp only [List.cons_append, List.nil_append] at hh
    exact hh
   case asg =>
    intro l x W
    refine ao (aL (aD ?_))
    exact ⟨rfl, rfl⟩
   case body =>
    rintro l bs q W ⟨X, hXl, hXz, hXe, hh0⟩ hbl
    have hqB := q.isLt
    have hkb : bs.length * G ≤ aC B * G := Nat.mul_le_mul_right _ (by omega)
    have hh := hh0.vQ
    simp only [List.cons_append, List.nil_append] at hh
    generalize hO : uL _ _ _ = O at hh
    have hzl : ∀ f, ∀ x ∈ di A dd X f q.val, Sz (k + bs.length * G) x := fun f x h => by
     obtain ⟨i, _, rfl⟩ := List.mem_map.1 h
     exact kS hXz _
    have hPl : ∀ f i, f < aC A → i ≤ dd → cQ A dd f i q.val < X.length := fun f i h1 h2 => by rw [hXl, ← hlm, hm]; exact kA h1 h2 hqB
    have eAd : ∀ f i, ((⟨g, 0, none⟩ : Addr).add (q.val * ((dd + 1) * aC A) * 3)).add ((f + i * aC A) * 3) = ⟨g, cQ A dd f i q.val * 3, none⟩ := fun f i => by
     rw [dA, dA]
     congr 1
     unfold cQ
     grind
    rw [← tT (A := A) (d := dd) (φ := db dd M) (X := X) q.val] at hh
    refine ak (sr ?_)
    refine bJ hh 5 ?_
    refine mI (aa (ak ?_))
    refine bE [13, 14, 15, 16, 17, 54, 55, 56, 57, 58, 59, 60, 61, 62, 63, 64, 65, 66, 67, 68, 69, 70, 71, 72, 73, 74, 75, 76, 77, 78, 79, 80, 81, 82, 83, 84, 85, 86, 87, 88, 89, 90, 91] 54
     (fun v w' => ∃ f : Nat, f ≤ aC A ∧ v = .int .i64 f ∧ Hp w (.row (some ⟨g, 0, none⟩) m k45 39 3 (bm NR.cells ((oQ A dd (db dd M) X q.val f 0).map nR)) :: .row A45 n c45 3 1 (bX (cx (pre ++ dd :: suf))) :: .blk b1 3 [.int .i64 (((dd + 1) * aC A : Nat) : Int)] (0, 0) :: .blk b2 26 [.slice (some ⟨g, 0, none⟩) m k45] (0, 0) :: .blk b11 28 [.slice A45 n c45, .slice (some ⟨g, 0, none⟩) m k45] (0, 0) :: .blk b8 3 [.int .i64 (aC A : Nat)] (0, 0) :: .blk b7 3 [.int .i64 ((dd : Nat) + 1)] (0, 0) :: .blk b6 28 [.slice none 0 0, .slice none 0 0] (0, 0) :: .blk b5 115 [.func (.func fid) fst.toArray cap.toArray] (0, 0) :: .blk b3 28 [.slice (some ad) n c, .slice NA m e] (0, 0) :: O) w')
     (fun v _ => aC A - (intOf v).toNat) ?_ ?_
    ·exact ⟨0, Nat.zero_le _, rfl, hh⟩
    ·clear hh
     rintro ρ' v w' ⟨f, hf, rfl, hh⟩
     by_cases hlt : f < aC A
     ·refine sr ?_
      refine aQ (aa (ah (cT (al (ai (ah (ak (sr (mI (aI (aa ?_)))))))))))
      refine sr (aL (aa (ah (sr ?_))))
      refine bJ hh 6 ?_
      refine mI (aa (ak ?_))
      replace hh := hh.fo 39 3
      refine ck [14, 15, 58, 59, 60, 61, 62, 63, 64, 65, 66, 67, 68, 69, 70, 71, 72] 14 58
       (fun v14 v w' => ∃ (i c14 : Nat) (A14 : Option Addr), i ≤ dd + 1 ∧ v14 = .slice A14 i c14 ∧ v = .int .i64 i ∧ Hp w (.row A14 i c14 39 3 (bm NR.cells (((di A dd X f q.val).take i).map nR)) :: .row (some ⟨g, 0, none⟩) m k45 39 3 (bm NR.cells ((oQ A dd (db dd M) X q.val f 0).map nR)) :: .row A45 n c45 3 1 (bX (cx (pre ++ dd :: suf))) :: .blk b1 3 [.int .i64 (((dd + 1) * aC A : Nat) : Int)] (0, 0) :: .blk b2 26 [.slice (some ⟨g, 0, none⟩) m k45] (0, 0) :: .blk b11 28 [.slice A45 n c45, .slice (some ⟨g, 0, none⟩) m k45] (0, 0) :: .blk b8 3 [.int .i64 (aC A : Nat)] (0, 0) :: .blk b7 3 [.int .i64 ((dd : Nat) + 1)] (0, 0) :: .blk b6 28 [.slice none 0 0, .slice none 0 0] (0, 0) :: .blk b5 115 [.func (.func fid) fst.toArray cap.toArray] (0, 0) :: .blk b3 28 [.slice (some ad) n c, .slice NA m e] (0, 0) :: O) w')
       (fun _ v _ => dd + 1 - (intOf v).toNat) ?_ ?_
      ·exact ⟨0, 0, none, Nat.zero_le _, rfl, rfl, hh⟩
      ·clear hh
       rintro ρ2 v14 v w2 ⟨i, c14, A14, hi, rfl, rfl, hh⟩
       by_cases hin : i < dd + 1
       ·have hfi : f + i * aC A < (dd + 1) * aC A := by
         have := Nat.mul_le_mul_right (aC A) (show i ≤ dd by omega)
         rw [Nat.succ_mul]
         omega
        have hat := tq (φ := db dd M) hlt (show i ≤ dd by omega) (hPl f i hlt (by omega))
        refine sr ?_
        refine aQ (aa (ah (cT (al (ai (ah (ak (sr (mI (aI (aa ?_)))))))))))
        refine ao (mL (mL (mI (mI ?_))))
        refine bJ hh 6 ?_
        refine mulC ?_
        refine bA ?_
        refine aX (k := f + i * aC A) aK.out aE.size rfl rfl (by rw [Int.natCast_add, Int.natCast_mul]) hfi (by decide) ?_
        rw [eAd]
        refine eO (vs := [_, _, _]) aE.out rfl (hh.gO (f := NR.cells) (i := 1) rfl NR.len (by decide) (show ((oQ A dd (db dd M) X q.val f 0).map nR)[cQ A dd f i q.val]? = some (nR (dq (di A dd X f q.val) i)) by rw [List.getElem?_map, hat]; rfl)) rfl (by decide) ?_
        refine bf hh (cs := [_, _, _]) aK.out aE.out (aP (dR rfl) bO) rfl rfl (by decide) (by decide) (by decide) rfl (by decide) ?_
        intro b70 w70 hh
        refine dY hh (i := 1) rfl rfl rfl (hh.aV (i := 0) rfl) aK.out aE.out rfl (by decide) (by first | rfl | exact dt _ | exact cJ _ | exact cq _ | exact cI NR.one _) (by omega) (by omega) (by decide) ?_
        intro A71 c71 w71 hh
        simp only [List.set_cons_zero, List.set_cons_succ] at hh
        replace hh := hh.sub (List.sublist_cons_self _ _)
        refine aL (aD (aU (ai (ao ?_))))
        refine bA (mI (aD (ai ?_)))
        have htk : bm NR.cells (((di A dd X f q.val).take i).map nR) ++ [.bool (nR (dq (di A dd X f q.val) i)).neg, .string (nR (dq (di A dd X f q.val) i)).bD, .int .i64 (nR (dq (di A dd X f q.val) i)).e] = bm NR.cells (((di A dd X f q.val).take (i + 1)).map nR) := by
         rw [bk (lr (l := di A dd X f q.val) (k := i) (by unfold di; simp; omega)), List.map_append, eY]
         rfl
        rw [htk] at hh
        refine ⟨⟨i + 1, _, _, by omega, rfl, rfl, hh⟩, by show dd + 1 - (i + 1) < dd + 1 - i; omega, ?_⟩
        (repeat (first | exact aw _ _ _ | refine az rfl ?_ | refine av rfl ?_))
       ·obtain rfl : i = dd + 1 := by omega
        rw [List.take_of_length_le (by unfold di; simp)] at hh
        have hdl := fun w1 h1 hT1 hS1 => hdo A14 c14 (di A dd X f q.val) (k + bs.length * G) w1 h1 hT1 hS1 (hzl f) (by omega)
        refine sr ?_
        refine aQ (aa (ah (cF ?_)))
        refine aZ ?_
        refine aA (aA (bo (ai (sr ?_))))
        refine bJ hh 9 ?_
        refine mL ?_
        refine j3 (hdl _ hh.below (hT.hp hh) (hh.aV (i := 0) rfl)) ar.out rfl rfl (by decide) ?_
        rintro e_ w75 ⟨A75, c75, rfl, hown_, hb_⟩
        refine ⟨_, rfl, ?_⟩
        replace hh := hh.a9 (x := .row _ _ _ _ _ _) hb_ hown_
        obtain ⟨g75, rfl⟩ := hh.eI (i := 0) rfl (by omega)
        refine a8 (mI (aa (ak ?_)))
        replace hh := hh.sub (List.Sublist.cons_cons _ (List.Sublist.cons _ (List.Sublist.cons_cons _ (List.Sublist.cons_cons _ (List.Sublist.cons_cons _ (List.Sublist.cons_cons _ (List.Sublist.cons_cons _ (List.Sublist.cons_cons _ (List.Sublist.cons_cons _ (List.Sublist.cons_cons _ (List.Sublist.cons_cons _ (List.Sublist.cons_cons _ (List.Sublist.refl _)))))))))))))
        generalize hφ : db dd M (di A dd X f q.val) = ys at hh
        have hyl : ys.length = dd + 1 := by rw [← hφ, gl]
        refine bE [16, 17, 77, 78, 79, 80, 81, 82, 83, 84, 85, 86, 87, 88, 89, 90] 77
         (fun v w' => ∃ i : Nat, i ≤ dd + 1 ∧ v = .int .i64 i ∧ Hp w (.row (some ⟨g75, 0, none⟩) (dd + 1) c75 39 3 (bm NR.cells (ys.map nR)) :: .row (some ⟨g, 0, none⟩) m k45 39 3 (bm NR.cells ((oQ A dd (db dd M) X q.val f i).map nR)) :: .row A45 n c45 3 1 (bX (cx (pre ++ dd :: suf))) :: .blk b1 3 [.int .i64 (((dd + 1) * aC A : Nat) : Int)] (0, 0) :: .blk b2 26 [.slice (some ⟨g, 0, none⟩) m k45] (0, 0) :: .blk b11 28 [.slice A45 n c45, .slice (some ⟨g, 0, none⟩) m k45] (0, 0) :: .blk b8 3 [.int .i64 (aC A : Nat)] (0, 0) :: .blk b7 3 [.int .i64 ((dd : Nat) + 1)] (0, 0) :: .blk b6 28 [.slice none 0 0, .slice none 0 0] (0, 0) :: .blk b5 115 [.func (.func fid) fst.toArray cap.toArray] (0, 0) :: .blk b3 28 [.slice (some ad) n c, .slice NA m e] (0, 0) :: O) w')
         (fun v _ => dd + 1 - (intOf v).toNat) ?_ ?_
        ·exact ⟨0, Nat.zero_le _, rfl, hh⟩
        ·clear hh
         rintro ρ3 v w3 ⟨i, hi, rfl, hh⟩
         by_cases hin : i < dd + 1
         ·have hfi : f + i * aC A < (dd + 1) * aC A := by
           have := Nat.mul_le_mul_right (aC A) (show i ≤ dd by omega)
           rw [Nat.succ_mul]
           omega
          have hset := vn (φ := db dd M) hlt (show i ≤ dd by omega) (hPl f i hlt (by omega))
          rw [hφ] at hset
          have hPx := hPl f i hlt (show i ≤ dd by omega)
          have hSl := fT (A := A) (d := dd) (φ := db dd M) (X := X) q.val f i
          have hrl := gy NR.len ((oQ A dd (db dd M) X q.val f i).map nR)
          have hyi : (ys.map nR)[i]? = some (nR (dq ys i)) := by rw [List.getElem?_map, lr (by omega)]; rfl
          generalize dq ys i = y at *
          refine sr ?_
          refine aQ (aa (ah (cT (al (ai (ah (ak (sr (mI ?_)))))))))
          refine bC (k := i) aK.out aE.size rfl rfl (by omega) (by omega) (by decide) ?_
          refine eO (vs := [_, _, _]) aE.out rfl (hh.gO (f := NR.cells) (i := 0) rfl NR.len (by decide) hyi) rfl (by decide) ?_
          refine cd hh ?_
          intro b17 w17 hh
          refine aI ?_
          refine bK hh 0 [_,_,_] ?_
          intro ws hh
          replace hh : Hp _ (.blk _ _ [_, _, _] _ :: _) _ := hh
          refine aa (ao (mL (mI (mI ?_))))
          refine bJ hh 7 ?_
          refine mulC ?_
          refine bA ?_
          refine cU hh 0 [_,_,_] ?_
          refine aX (k := f + i * aC A) aK.out aE.size rfl rfl (by rw [Int.natCast_add, Int.natCast_mul]) hfi (by decide) ?_
          rw [eAd]
          generalize oQ A dd (db dd M) X q.val f i = V at *
          have hpl : cQ A dd f i q.val < (V.map nR).length := by rw [List.length_map, hSl]; exact hPx
          refine bu hh (i := 2) (vs := [_, _, _]) rfl rfl (dR rfl) rfl aE.out rfl (by rw [hrl]; omega) rfl ?_
          intro ws hh
          simp only [List.set_cons_zero, List.set_cons_succ] at hh
          rw [show ct (bm NR.cells (V.map nR)) (cQ A dd f i q.val * 3) [.bool (nR y).neg, .string (nR y).bD, .int .i64 (nR y).e] = bm NR.cells ((V.map nR).set (cQ A dd f i q.val) (nR y)) from gE NR.len hpl, ← List.map_set, hset] at hh
          refine aD (aU (ai (ao ?_)))
          refine bA (mI (aD (ai ?_)))
          replace hh := hh.sub (List.Sublist.cons _ (List.Sublist.cons_cons _ (List.Sublist.cons_cons _ (List.Sublist.cons_cons _ (List.Sublist.cons_cons _ (List.Sublist.cons_cons _ (List.Sublist.cons_cons _ (List.Sublist.cons_cons _ (List.Sublist.cons_cons _ (List.Sublist.cons_cons _ (List.Sublist.cons_cons _ (List.Sublist.cons_cons _ (List.Sublist.refl _)))))))))))))
          refine ⟨⟨i + 1, by omega, rfl, hh⟩, by show dd + 1 - (i + 1) < dd + 1 - i; omega, ?_⟩
          (repeat (first | exact aw _ _ _ | refine az rfl ?_ | refine av rfl ?_))
         ·obtain rfl : i = dd + 1 := by omega
          rw [uP] at hh
          refine sr ?_
          refine aQ (aa (ah (cF ?_)))
          refine aZ ?_
          refine aA (aA (bo (aU (ai (ao ?_)))))
          refine bA (mI (aD (ai ?_)))
          replace hh := hh.sub (List.Sublist.cons _ (List.Sublist.cons_cons _ (List.Sublist.cons_cons _ (List.Sublist.cons_cons _ (List.Sublist.cons_cons _ (List.Sublist.cons_cons _ (List.Sublist.cons_cons _ (List.Sublist.cons_cons _ (List.Sublist.cons_cons _ (List.Sublist.cons_cons _ (List.Sublist.cons_cons _ (List.Sublist.refl _))))))))))))
          refine ⟨⟨f + 1, by omega, rfl, hh⟩, by show aC A - (f + 1) < aC A - f; omega, ?_⟩
          (repeat (first | exact aw _ _ _ | refine az rfl ?_ | refine av rfl ?_))
     ·obtain rfl : f = aC A := by omega
      refine sr ?_
      refine aQ (aa (ah (cF ?_)))
      refine aZ ?_
      refine aA (aA (bo (aU ?_)))
      subst hO
      refine ⟨hh0.keeps (H' := [_, _, _, _, _, _, _, _, _, _]) (by simp [HE.wV]) hh rfl, ⟨by rw [hh.eH (i := 3) (o := 0) rfl rfl, hh0.eH (i := 3) (o := 0) rfl rfl], by rw [hh.eH (i := 2) (o := 0) rfl rfl, hh0.eH (i := 2) (o := 0) rfl rfl]⟩, uK A dd (db dd M) X q.val, ?_, ?_, ?_, ?_⟩
      ·unfold uK
       rw [fT, hXl]
      ·intro x h
       refine (wX hXz (fun l h1 h2 => hgr l _ h1 h2) x h).mono ?_
       rw [List.length_append, List.length_singleton, Nat.succ_mul]
       omega
      ·intro h
       obtain ⟨h1, h2⟩ := tf h hbl
       rw [hXe h1, h2, List.length_append, List.length_singleton]
       exact ui (hm ▸ rfl)
      ·exact hh.sub (by repeat (first | exact List.nil_sublist _ | apply List.Sublist.cons_cons))
   case done =>
    rintro D bs W hD2 rfl ⟨X, hXl, hXz, hXe, hh0⟩ hDo
    have hA2 := hXe (by rw [List.take_of_length_le (Nat.le_refl _)])
    rw [List.length_finRange] at hA2
    rw [hA2, tu hm] at hh0
    have hD3 := Nat.le_trans hh.size hD2
    replace hh := hh0.yx (by simp [HE.wV]) hD3 hDo rfl
    refine nx fun D_ => ?_
    refine ao ?_
    refine cU hh 5 [_,_] ?_
    refine bK hh 8 [_,_] ?_
    intro ws hh
    replace hh : Hp _ (_ :: _ :: _ :: _ :: _ :: _ :: _ :: _ :: .blk _ _ [_, _] _ :: _) _ := hh
    refine aa ?_
    refine wz fun D_ => ?_
    refine aq ?_
    refine sQ (M := [D]) (vs := [.agg #[.slice A45 n c45, .slice (some ⟨g, 0, none⟩) m k45]]) hh (.inr rfl) rfl ?_
    intro w2 hh
    refine ⟨(aN rfl (aO (vs := [_, _]) aE.out (hh.au (i := 7) (n := 2) rfl rfl) rfl) bx), ?_⟩
    replace hh := hh.sub (List.Sublist.cons_cons _ (List.Sublist.cons_cons _ (List.Sublist.cons _ (List.Sublist.cons _ (List.Sublist.cons _ (List.Sublist.cons _ (List.Sublist.cons _ (List.Sublist.cons _ (List.Sublist.cons _ (List.Sublist.cons _ List.Sublist.slnil))))))))))
    exact ⟨_, _, _, _, rfl, hh⟩
end Go.Proofs.YtioilmppidlbnaaGreatDoor
/- The walk through cast.Cut. -/
namespace Go.Proofs.YtioilmppidlbnaaGreatDoor
open Go.RowKit
def zk (n m : Nat) (ds : List Int) (cs : List NR) : VP := fun v W => ∃ A a B b, v = .agg #[.slice A n a, .slice B m b] ∧ n ≤ a ∧ Sl W A n 1 (bX ds) ∧ Sl W B m 3 (bm NR.cells cs)
theorem tF {d q : Nat} {s : Dyadic} (hd : d ≤ 127) (hs : Sz q s) (hs1 : Sz q (1 - s)) (ls : List Dyadic) (k : Nat) (hx : ∀ x ∈ ls, Sz k x) : ∀ x ∈ db d (oZ d s) ls, Sz (k + (260 + 2 * (q * d))) x := fun x h => by
 rw [← xJ, ← kQ] at h
 exact (n9 hx hs hs1 hd (Nat.le_refl _) x h).mono (by omega)
theorem uJ {d q : Nat} {s : Dyadic} (hd : d ≤ 127) (hs : Sz q s) (hs1 : Sz q (1 - s)) (ls : List Dyadic) (k : Nat) (hl : ls.length = d + 1) (hx : ∀ x ∈ ls, Sz k x) : ∀ x ∈ db d (qf d s) ls, Sz (k + (260 + 2 * (q * d))) x := fun x h => by
 rw [← o8 hl, List.mem_reverse, ← kQ] at h
 exact (n9 (fun y hy => hx y (List.mem_reverse.1 hy)) hs1 hs hd (Nat.le_refl _) x h).mono (by omega)
theorem JJ.vc {w0 w W : World} {H : List HE} {t1 t2 : TypeId} {xs1 xs2 : List Value} {n1 c1 s1 n2 c2 s2 : Nat} {A1 A2 : Option Addr} (hJ : JJ w0 H w W) (hs : Hp w0 H w)
  (o1 : W.ownsRow w.heap.size t1 s1 (.slice A1 n1 c1) n1 xs1) (o2 : W.ownsRow w.heap.size t2 s2 (.slice A2 n2 c2) n2 xs2) (h12 : t1 ≠ t2) : Hp w0 (.row A1 n1 c1 t1 s1 xs1 :: .row A2 n2 c2 t2 s2 xs2 :: H) W := by
 have hL : Hp w [.row A1 n1 c1 t1 s1 xs1, .row A2 n2 c2 t2 s2 xs2] W := by
  refine ⟨hJ.bl, fun x hx => ?_, ?_⟩
  ·rcases List.mem_cons.1 hx with rfl | hx
   ·exact o1
   ·obtain rfl := List.mem_singleton.1 hx
    exact o2
  ·rw [List.filterMap_cons]
   split
   ·rw [List.filterMap_cons]
    split
    ·exact List.nodup_nil
    ·exact List.nodup_cons.2 ⟨by simp, List.nodup_nil⟩
   ·rename_i b1 hb1
    refine List.nodup_cons.2 ⟨fun hm => ?_, ?_⟩
    ·obtain ⟨y, hy, hyb⟩ := List.mem_filterMap.1 hm
     obtain rfl := List.mem_singleton.1 hy
     exact sf o1 o2 h12 b1 hb1 hyb
    ·rw [List.filterMap_cons]
     split
     ·exact List.nodup_nil
     ·exact List.nodup_cons.2 ⟨by simp, List.nodup_nil⟩
 exact hs.join hL
theorem s8 (DA NA : Option Addr) (n c m e : Nat) (pre suf : List Nat) (dd : Nat) (sn : NR) (s : Dyadic) (xs : List Dyadic) (k q : Nat) (w : World) (hT : ff w)
  (hD : Sl w DA n 1 (bX (cx (pre ++ dd :: suf)))) (hS : Sl w NA m 3 (bm NR.cells (xs.map nR))) (hcap : n ≤ c) (hn : n ≤ 1000) (hlow : ∀ x ∈ pre ++ dd :: suf, x ≤ 127) (hm : xs.length = aC (suf.reverse ++ dd :: pre.reverse)) (hm4 : m ≤ 4096)
  (hx : ∀ x ∈ xs, Sz k x) (hk : k + aC pre * (260 + 2 * (q * dd)) ≤ 300000) (hq : q ≤ 2000) (vs : nY q sn s) (hs1 : Sz q (1 - s)) :
  Calls Tryz.prog 86 #[.agg #[.slice DA n c, .slice NA m e], .int .i64 (pre.length : Nat), .func (.func 87) #[.agg #[.bool sn.neg, .string sn.bD, .int .i64 sn.e, .bool (nR (1 - s)).neg, .string (nR (1 - s)).bD, .int .i64 (nR (1 - s)).e]] #[]] w fun r w' => ∃ A a B b, r = .returned (.agg #[.slice A n a, .slice B m b]) ∧ Hp w [.row B m b 39 3 (bm NR.cells ((cM (suf.reverse ++ dd :: pre.reverse) suf.length (oZ dd s) xs).map nR)), .row A n a 3 1 (bX (cx (pre ++ dd :: suf)))] w' := by
 have hs := vs.sz
 have hdl : dd ≤ 127 := hlow dd (List.mem_append_right _ List.mem_cons_self)
 exact (jS DA NA n c m e pre suf dd (oZ dd s) xs 87 [.agg #[.bool sn.neg, .string sn.bD, .int .i64 sn.e, .bool (nR (1 - s)).neg, .string (nR (1 - s)).bD, .int .i64 (nR (1 - s)).e]] [] k (260 + 2 * (q * dd)) w hT hD hS hcap hn hlow hm hm4 hx hk (fun L c2 ls p w1 _ hT1 hS1 hz hp => k9 sn (nR (1 - s)) s (1 - s) L (dd + 1) c2 dd ls p q w1 hT1 hS1 rfl hdl hz vs (nY.of hs1 hq) hp hq) (fun ls p _ hz => tF hdl hs hs1 ls p hz))
theorem ta (DA NA : Option Addr) (n c m e : Nat) (pre suf : List Nat) (dd : Nat) (sn : NR) (s : Dyadic) (xs : List Dyadic) (k q : Nat) (w : World) (hT : ff w)
  (hD : Sl w DA n 1 (bX (cx (pre ++ dd :: suf)))) (hS : Sl w NA m 3 (bm NR.cells (xs.map nR))) (hcap : n ≤ c) (hn : n ≤ 1000) (hlow : ∀ x ∈ pre ++ dd :: suf, x ≤ 127) (hm : xs.length = aC (suf.reverse ++ dd :: pre.reverse)) (hm4 : m ≤ 4096)
  (hx : ∀ x ∈ xs, Sz k x) (hk : k + aC pre * (260 + 2 * (q * dd)) ≤ 300000) (hq : q ≤ 2000) (vs : nY q sn s) (hs1 : Sz q (1 - s)) :
  Calls Tryz.prog 86 #[.agg #[.slice DA n c, .slice NA m e], .int .i64 (pre.length : Nat), .func (.func 88) #[.agg #[.bool sn.neg, .string sn.bD, .int .i64 sn.e, .bool (nR (1 - s)).neg, .string (nR (1 - s)).bD, .int .i64 (nR (1 - s)).e]] #[]] w fun r w' => ∃ A a B b, r = .returned (.agg #[.slice A n a, .slice B m b]) ∧ Hp w [.row B m b 39 3 (bm NR.cells ((cM (suf.reverse ++ dd :: pre.reverse) suf.length (qf dd s) xs).map nR)), .row A n a 3 1 (bX (cx (pre ++ dd :: suf)))] w' := by
 have hs := vs.sz
 have hdl : dd ≤ 127 := hlow dd (List.mem_append_right _ List.mem_cons_self)
 refine (jS DA NA n c m e pre suf dd (qf dd s) xs 88 [.agg #[.bool sn.neg, .string sn.bD, .int .i64 sn.e, .bool (nR (1 - s)).neg, .string (nR (1 - s)).bD, .int .i64 (nR (1 - s)).e]] [] k (260 + 2 * (q * dd)) w hT hD hS hcap hn hlow hm hm4 hx hk (fun L c2 ls p w1 _ hT1 hS1 hz hp => ?_) (fun ls p hl hz => uJ hdl hs hs1 ls p hl hz))
 ·have hll : ls.length = dd + 1 := by have := hS1.eB NR.len (by decide); simpa using this
  have := p6 sn (nR (1 - s)) s (1 - s) L (dd + 1) c2 dd ls p q w1 hT1 hS1 rfl hdl hz vs (nY.of hs1 hq) hp hq
  rw [o8 hll] at this
  exact this
end Go.Proofs.YtioilmppidlbnaaGreatDoor
/- The walk through cast.Cut. -/
namespace Go.Proofs.YtioilmppidlbnaaGreatDoor
open Go.RowKit
instance : aE Tryz.prog 115 1 false 8 [.nilFunc] := ⟨by kernel_rfl⟩
def ec (up : Bool) (s : Dyadic) (ns : List Nat) (a : Nat) (xs : List Dyadic) : List Dyadic := cM ns.reverse (ns.length - 1 - a) (if up then qf (ns.getD a 0) s else oZ (ns.getD a 0) s) xs
def ek (fx : FX) (ax : Int) : Int := if fx.e ≠ 0 then fx.e else if ax < 0 ∨ (fx.n : Int) ≤ ax then 1 else 0
def uY (e : Int) : Ending := .returned (.tuple #[.agg #[.slice none 0 0, .slice none 0 0], .agg #[.slice none 0 0, .slice none 0 0], .int .i64 e])
theorem l7 {ns : List Nat} {a : Nat} (h : a < ns.length) : ∃ pre dd suf, ns = pre ++ dd :: suf ∧ a = pre.length ∧ ns.getD a 0 = dd ∧ ns.length - 1 - a = suf.length := by
 refine ⟨ns.take a, ns[a], ns.drop (a + 1), ?_, by rw [List.length_take]; omega, by rw [List.getD_eq_getElem?_getD, List.getElem?_eq_getElem h]; rfl, by rw [List.length_drop]; omega⟩
 rw [← List.drop_eq_getElem_cons h, List.take_append_drop]
theorem jG (fx : FX) (ax : Int) (sn : NR) (s : Dyadic) (k q : Nat) (w : World) (hT : ff w) (hf : fx.at_ w) (hl : fx.rI k) (hcap : fx.n ≤ fx.a) (vs : nY q sn s) (hs1 : Sz q (1 - s)) (hq : q ≤ 2000) (hk : fx.e = 0 → ∀ d ∈ fx.ns, k + fx.m * (260 + 2 * (q * d)) ≤ 300000) :
  Calls Tryz.prog 38 #[.agg #[.slice fx.A fx.n fx.a, .slice fx.B fx.m fx.b], .int .i64 ax, .agg #[.bool sn.neg, .string sn.bD, .int .i64 sn.e]] w fun r w' => Below w.heap.size w w' ∧ ((ek fx ax ≠ 0 ∧ r = uY (ek fx ax)) ∨
   (ek fx ax = 0 ∧ ∃ A1 a1 B1 b1 A2 a2 B2 b2, r = .returned (.tuple #[.agg #[.slice A1 fx.n a1, .slice B1 fx.m b1], .agg #[.slice A2 fx.n a2, .slice B2 fx.m b2], .int .i64 0]) ∧ Hp w [.row B2 fx.m b2 39 3 (bm NR.cells ((ec true s fx.ns ax.toNat (fx.cs.map NR.d)).map nR)), .row A2 fx.n a2 3 1 (bX fx.ds), .row A1 fx.n a1 3 1 (bX fx.ds), .row B1 fx.m b1 39 3 (bm NR.cells ((ec false s fx.ns ax.toNat (fx.cs.map NR.d)).map nR))] w')) := by
 have hh := Hp.start w
 have hs := vs.sz
 have hln : fx.ds.length = fx.n := by have := hf.dg.1; simpa [bX] using this
 have hlm := hf.nm.eB NR.len (by decide)
 have hn20 := hl.xU
 have hck := fun w1 hT1 hb => n4 fx k w1 hT1 (hf.ext hb) hl
 by_cases h0 : fx.e = 0
 ·by_cases h1 : ax < 0
  ·have hE : ek fx ax = 1 := by unfold ek; rw [if_neg (by omega), if_pos (.inl h1)]
   refine aj (N := 44) (l := [.agg #[.slice fx.A fx.n fx.a, .slice fx.B fx.m fx.b], .int .i64 ax, .agg #[.bool sn.neg, .string sn.bD, .int .i64 sn.e]]) Tryz.func38 rfl rfl (by simp) ?_
   refine sr ?_
   refine cY hh [_,_] ?_
   intro b3 w3 hh
   refine cY hh [_,_,_] ?_
   intro b5 w5 hh
   refine cd hh ?_
   intro b6 w6 hh
   refine cd hh ?_
   intro b7 w7 hh
   refine aI (aa (ah (sr ?_)))
   refine cU hh 3 [_,_] ?_
   refine bG hh (hck _ (hT.hp hh) hh.below) rfl ?_
   intro w12 hh
   refine aI (aa (sr (mI ?_)))
   refine fe (aa (cF (al (ai (ah (sr (mI ?_)))))))
   refine aQ (mB ?_)
   first | refine gS ?_ | (refine gT ?_; refine mI ?_) | refine gV ?_
   first | refine gS ?_ | (refine gT ?_; refine bH ?_) | refine gV ?_
   first | refine gS ?_ | (refine gT ?_; refine bJ hh 3 ?_) | refine gV ?_
   first | refine gS ?_ | (refine gT ?_; refine a8 ?_) | refine gV ?_
   first | refine gS ?_ | (refine gT ?_; refine dp ?_) | refine gV ?_
   first | refine dk ?_ | refine dm ?_
   refine aa (cT (sr ?_))
   refine fQ [_,_] ?_
   refine fQ [_,_] ?_
   refine bK hh 1 [_,_] ?_
   intro ws hh
   replace hh : Hp _ (_ :: .blk _ _ [_, _] _ :: _) _ := hh
   refine bK hh 0 [_,_] ?_
   intro ws hh
   replace hh : Hp _ (.blk _ _ [_, _] _ :: _) _ := hh
   refine aI (aa (aq (a7 ?_)))
   refine qu (aN rfl (aO (vs := [_, _]) aE.out (hh.au (i := 1) (n := 2) rfl rfl) rfl) (aN rfl (aO (vs := [_, _]) aE.out (hh.au (i := 0) (n := 2) rfl rfl) rfl) (ea (gp rfl) bx))) ?_
   exact ⟨hh.below, .inl ⟨by rw [hE]; decide, by rw [hE]; rfl⟩⟩
  ·by_cases h2 : (fx.n : Int) ≤ ax
   ·have hE : ek fx ax = 1 := by unfold ek; rw [if_neg (by omega), if_pos (.inr h2)]
    refine aj (N := 44) (l := [.agg #[.slice fx.A fx.n fx.a, .slice fx.B fx.m fx.b], .int .i64 ax, .agg #[.bool sn.neg, .string sn.bD, .int .i64 sn.e]]) Tryz.func38 rfl rfl (by simp) ?_
    refine sr ?_
    refine cY hh [_,_] ?_
    intro b3 w3 hh
    refine cY hh [_,_,_] ?_
    intro b5 w5 hh
    refine cd hh ?_
    intro b6 w6 hh
    refine cd hh ?_
    intro b7 w7 hh
    refine aI (aa (ah (sr ?_)))
    refine cU hh 3 [_,_] ?_
    refine bG hh (hck _ (hT.hp hh) hh.below) rfl ?_
    intro w12 hh
    refine aI (aa (sr (mI ?_)))
    refine fe (aa (cF (al (ai (ah (sr (mI ?_)))))))
    refine aQ (mB ?_)
    first | refine gS ?_ | (refine gT ?_; refine mI ?_) | refine gV ?_
    first | refine gS ?_ | (refine gT ?_; refine bH ?_) | refine gV ?_
    first | refine gS ?_ | (refine gT ?_; refine bJ hh 3 ?_) | refine gV ?_
    first | refine gS ?_ | (refine gT ?_; refine a8 ?_) | refine gV ?_
    first | refine gS ?_ | (refine gT ?_; refine dp ?_) | refine gV ?_
    first | refine dk ?_ | refine dm ?_
    refine aa (cT (sr ?_))
    refine fQ [_,_] ?_
    refine fQ [_,_] ?_
    refine bK hh 1 [_,_] ?_
    intro ws hh
    replace hh : Hp _ (_ :: .blk _ _ [_, _] _ :: _) _ := hh
    refine bK hh 0 [_,_] ?_
    intro ws hh
    replace hh : Hp _ (.blk _ _ [_, _] _ :: _) _ := hh
    refine aI (aa (aq (a7 ?_)))
    refine qu (aN rfl (aO (vs := [_, _]) aE.out (hh.au (i := 1) (n := 2) rfl rfl) rfl) (aN rfl (aO (vs := [_, _]) aE.out (hh.au (i := 0) (n := 2) rfl rfl) rfl) (ea (gp rfl) bx))) ?_
    exact ⟨hh.below, .inl ⟨by rw [hE]; decide, by rw [hE]; rfl⟩⟩
   ·have hE : ek fx ax = 0 := by unfold ek; rw [if_neg (by omega), if_neg (by omega)]
    rw [hE]
    obtain ⟨hdeg, hnum, _, hlow, hcnt, hmax⟩ := FX.fv h0
    have hnl : fx.ns.length = fx.n := by unfold FX.ns; rw [List.length_map]; exact hln
    obtain ⟨pre, dd, suf, hns, hap, hgd, hsl⟩ := l7 (ns := fx.ns) (a := ax.toNat) (by omega)
    have hD := hf.dg
    have hN := hf.nm
    have hLo : ec false s fx.ns ax.toNat (fx.cs.map NR.d) = cM (suf.reverse ++ dd :: pre.reverse) suf.length (oZ dd s) (fx.cs.map NR.d) := by
     unfold ec
     rw [hsl, hgd, hns, List.reverse_append, List.reverse_cons, List.append_assoc]
     rfl
    have hUp : ec true s fx.ns ax.toNat (fx.cs.map NR.d) = cM (suf.reverse ++ dd :: pre.reverse) suf.length (qf dd s) (fx.cs.map NR.d) := by
     unfold ec
     rw [hsl, hgd, hns, List.reverse_append, List.reverse_cons, List.append_assoc]
     rfl
    rw [hLo, hUp]
    have hax : ax = ((pre.length : Nat) : Int) := by omega
    have hxl : (fx.cs.map NR.d).length = aC (suf.reverse ++ dd :: pre.reverse) := by
     rw [List.length_map, hcnt, show suf.reverse ++ dd :: pre.reverse = fx.ns.reverse by rw [hns, List.reverse_append, List.reverse_cons, List.append_assoc]; rfl, hG]
    have hpm : aC pre ≤ fx.m := by
     have h3 := gN fx.ns pre.length
     rw [hns, List.take_left' rfl] at h3
     rw [← hns, ← hcnt] at h3
     omega
    have hkk : k + aC pre * (260 + 2 * (q * dd)) ≤ 300000 := by
     have h3 := hk h0 dd (by rw [hns]; exact List.mem_append_right _ List.mem_cons_self)
     have h4 := Nat.mul_le_mul_right (260 + 2 * (q * dd)) hpm
     omega
    have hxz : ∀ x ∈ fx.cs.map NR.d, Sz k x := fun x h => by
     obtain ⟨c, hc, rfl⟩ := List.mem_map.1 h
     exact (hl.num c hc).2
    have hm4 : fx.m ≤ 4096 := by omega
    rw [hdeg, hns] at hD
    rw [hnum] at hN
    rw [hns] at hlow
    have hds : fx.ds = cx (pre ++ dd :: suf) := by rw [hdeg, hns]
    rw [hds]
    have hlo := fun w1 hT1 hb => s8 fx.A fx.B fx.n fx.a fx.m fx.b pre suf dd sn s _ k q w1 hT1 (hD.ext hb) (hN.ext hb) hcap hn20 hlow hxl hm4 hxz hkk hq vs hs1
    have hup := fun w1 hT1 hb => ta fx.A fx.B fx.n fx.a fx.m fx.b pre suf dd sn s _ k q w1 hT1 (hD.ext hb) (hN.ext hb) hcap hn20 hlow hxl hm4 hxz hkk hq vs hs1
    have hof : ∀ w1, ff w1 → Calls Tryz.prog 47 #[.int .i64 1] w1 fun r w' => r = .returned (.agg #[.bool (nR (1 : Dyadic)).neg, .string (nR (1 : Dyadic)).bD, .int .i64 (nR (1 : Dyadic)).e]) ∧ Below w1.heap.size w1 w' := fun w1 hT1 => e6 1 w1 hT1 (by decide) (by decide)
    have hsb := fun w1 hT1 => q9 (nR (1 : Dyadic)) sn w1 hT1 (Sz.one.ok (by omega)) vs.ok (q + 1) (by rw [eG]; exact Sz.one.mono (by omega)) (by rw [vs.d]; exact hs.mono (by omega)) (by omega)
    simp only [eG, vs.d] at hsb
    refine aj (N := 44) (l := [.agg #[.slice fx.A fx.n fx.a, .slice fx.B fx.m fx.b], .int .i64 ax, .agg #[.bool sn.neg, .string sn.bD, .int .i64 sn.e]]) Tryz.func38 rfl rfl (by simp) ?_
    refine sr ?_
    refine cY hh [_,_] ?_
    intro b3 w3 hh
    refine cY hh [_,_,_] ?_
    intro b5 w5 hh
    refine cd hh ?_
    intro b6 w6 hh
    refine cd hh ?_
    intro b7 w7 hh
    refine aI (aa (ah (sr ?_)))
    refine cU hh 3 [_,_] ?_
    refine bG hh (hck _ (hT.hp hh) hh.below) rfl ?_
    intro w12 hh
    refine aI (aa (sr (mI ?_)))
    refine fe (aa (cF (al (ai (ah (sr (mI ?_)))))))
    refine aQ (mB ?_)
    first | refine gS ?_ | (refine gT ?_; refine mI ?_) | refine gV ?_
    first | refine gS ?_ | (refine gT ?_; refine bH ?_) | refine gV ?_
    first | refine gS ?_ | (refine gT ?_; refine bJ hh 3 ?_) | refine gV ?_
    first | refine gS ?_ | (refine gT ?_; refine a8 ?_) | refine gV ?_
    first | refine gS ?_ | (refine gT ?_; refine dp ?_) | refine gV ?_
    first | refine dk ?_ | refine dm ?_
    refine aa (cF (al (ai (ah ?_))))
    subst hax
    refine aR 6 [[(5, none)], [], [(5, none)], [(30, some 1), (31, some 2)], [(29, some 0), (32, some 3)], []] [(5, 10), (4, 33), (3, 32), (2, 31), (1, 30), (0, 29)] hh mixed (by kernel_rfl) ?_
    refine fF 2 [_,_,_] ?_
    refine dC (fun _ hj => hof _ (hT.hp hj.hp)) ?_
    refine fF 2 [_,_,_] ?_
    refine dC (fun _ hj => hsb _ (hT.hp hj.hp)) ?_
    refine dB [_,_,_,_,_,_] ?_
    refine bM (i := 5) (cV _ 117 _) cV.ext (fun ρ1 w1 hj hR => gB aE.out hj.bl (fun v w2 h hb => ⟨hb, h⟩)) ?_
    refine bp ?_
    intro f W hJ hV
    have hb_6 := hJ.bl
    obtain ⟨v10, v33, v32, v31, v30, v29, _⟩ := hV
    obtain ⟨b10, e10, hl10, hc10⟩ : cV _ _ _ (f 5) W := v10
    replace hh := hJ.newVar hh hl10 hc10
    refine a6 (bq (ae e10 (ae v33 (ae v32 (ae v31 (ae v30 (ae v29 a0))))))) ?_
    dsimp only [cz]
    clear e10 hJ
    refine bK hh 0 [_,_,_,_,_,_] ?_
    intro ws hh
    replace hh : Hp _ (.blk _ _ [_, _, _, _, _, _] _ :: _) _ := hh
    refine aa (ah ?_)
    refine aR 9 [[(3, none)], [(1, none)], [(10, none)], [(36, some 2)], [(34, some 0), (35, some 1), (37, some 3)], [(3, none)], [(1, none)], [(10, none)], [(41, some 7)]] [(8, 42), (7, 41), (6, 40), (5, 39), (4, 38), (3, 37), (2, 36), (1, 35), (0, 34)] hh mixed (by kernel_rfl) ?_
    refine fF 4 [_,_] ?_
    refine fg ?_
    refine fF 0 [_,_,_,_,_,_] ?_
    refine bM (i := 3) (Is (.func (.func 87) #[.agg #[.bool sn.neg, .string sn.bD, .int .i64 sn.e, .bool (nR (1 - s)).neg, .string (nR (1 - s)).bD, .int .i64 (nR (1 - s)).e]] #[])) (Is.ext) ?_ ?_
    ·intro ρ1 w1 hj hR
     exact iA rfl (jM (aF (show ρ1 36 = Value.agg _ from hR.1) bz) bz) ⟨Below.refl _ _, rfl⟩
    refine bM (i := 4) (ka hh.sz 3 39 fx.n 1 fx.m 3 (bX (cx (pre ++ dd :: suf))) (bm NR.cells ((cM (suf.reverse ++ dd :: pre.reverse) suf.length (oZ dd s) (fx.cs.map NR.d)).map nR))) (ka.ext) ?_ ?_
    ·intro ρ1 w1 hj hR
     exact bP rfl (bF ar.out (aF (show ρ1 34 = Value.agg _ from hR.1) (aF (show ρ1 35 = Value.int _ _ from hR.2.1) (aF (show ρ1 37 = Value.func _ _ _ from hR.2.2.1) bz)))) (hlo w1 (hT.hp hj.hp) hj.hp.below) (fun _ _ ⟨A, a, B, b, q1, q2⟩ => ⟨_, q1, q2.below, A, a, B, b, rfl, eR (q2.at_ (i := 1) rfl) hj.bl.size, eR (q2.at_ (i := 0) rfl) hj.bl.size⟩)
    refine fF 4 [_,_] ?_
    refine fg ?_
    refine fF 0 [_,_,_,_,_,_] ?_
    refine bM (i := 8) (Is (.func (.func 88) #[.agg #[.bool sn.neg, .string sn.bD, .int .i64 sn.e, .bool (nR (1 - s)).neg, .string (nR (1 - s)).bD, .int .i64 (nR (1 - s)).e]] #[])) (Is.ext) ?_ ?_
    ·intro ρ1 w1 hj hR
     exact iA rfl (jM (aF (show ρ1 41 = Value.agg _ from hR.1) bz) bz) ⟨Below.refl _ _, rfl⟩
    refine bp ?_
    intro f W hJ hV
    have hb_7 := hJ.bl
    obtain ⟨v42, v41, v40, v39, v38, v37, v36, v35, v34, _⟩ := hV
    obtain ⟨A38, c38, B38, k38, e38, o38, p38⟩ := v38
    replace hh := JJ.vc hJ hh o38 p38 (by decide)
    clear o38 p38
    refine a6 (bq (ae v42 (ae v41 (ae v40 (ae v39 (ae e38 (ae v37 (ae v36 (ae v35 (ae v34 a0)))))))))) ?_
    dsimp only [cz]
    clear e38 hJ
    refine aM (hup _ (hT.hp hh) hh.below) ar.out rfl (by decide) ?_
    rintro e_ w43 ⟨A43, a43, B43, b43, rfl, h2⟩
    refine ⟨_, rfl, ?_⟩
    replace hh := hh.join h2
    simp only [List.cons_append, List.nil_append] at hh
    clear h2
    refine bK hh 6 [_,_] ?_
    intro ws hh
    replace hh : Hp _ (_ :: _ :: _ :: _ :: _ :: _ :: .blk _ _ [_, _] _ :: _) _ := hh
    refine bK hh 5 [_,_] ?_
    intro ws hh
    replace hh : Hp _ (_ :: _ :: _ :: _ :: _ :: .blk _ _ [_, _] _ :: _) _ := hh
    refine aI (aa (aq ?_))
    refine qu (aN rfl (aO (vs := [_, _]) aE.out (hh.au (i := 6) (n := 2) rfl rfl) rfl) (aN rfl (aO (vs := [_, _]) aE.out (hh.au (i := 5) (n := 2) rfl rfl) rfl) (ea (gp rfl) bx))) ?_
    replace hh := hh.sub (List.Sublist.cons_cons _ (List.Sublist.cons_cons _ (List.Sublist.cons_cons _ (List.Sublist.cons_cons _ (List.Sublist.cons _ (List.Sublist.cons _ (List.Sublist.cons _ (List.Sublist.cons _ (List.Sublist.cons _ List.Sublist.slnil)))))))))
    exact ⟨hh.below, .inr ⟨rfl, _, _, _, _, _, _, _, _, rfl, hh⟩⟩
 ·have hE : ek fx ax = fx.e := by unfold ek; rw [if_pos h0]
  refine aj (N := 44) (l := [.agg #[.slice fx.A fx.n fx.a, .slice fx.B fx.m fx.b], .int .i64 ax, .agg #[.bool sn.neg, .string sn.bD, .int .i64 sn.e]]) Tryz.func38 rfl rfl (by simp) ?_
  refine sr ?_
  refine cY hh [_,_] ?_
  intro b3 w3 hh
  refine cY hh [_,_,_] ?_
  intro b5 w5 hh
  refine cd hh ?_
  intro b6 w6 hh
  refine cd hh ?_
  intro b7 w7 hh
  refine aI (aa (ah (sr ?_)))
  refine cU hh 3 [_,_] ?_
  refine bG hh (hck _ (hT.hp hh) hh.below) rfl ?_
  intro w12 hh
  refine aI (aa (sr (mI ?_)))
  refine fe (aa (cT (sr ?_)))
  refine fQ [_,_] ?_
  refine fQ [_,_] (mI ?_)
  refine bK hh 1 [_,_] ?_
  intro ws hh
  replace hh : Hp _ (_ :: .blk _ _ [_, _] _ :: _) _ := hh
  refine bK hh 0 [_,_] ?_
  intro ws hh
  replace hh : Hp _ (.blk _ _ [_, _] _ :: _) _ := hh
  refine aI (aa (aq (a7 ?_)))
  refine qu (aN rfl (aO (vs := [_, _]) aE.out (hh.au (i := 1) (n := 2) rfl rfl) rfl) (aN rfl (aO (vs := [_, _]) aE.out (hh.au (i := 0) (n := 2) rfl rfl) rfl) (ea (gp rfl) bx))) ?_
  exact ⟨hh.below, .inl ⟨by rw [hE]; exact h0, by rw [hE]; rfl⟩⟩
end Go.Proofs.YtioilmppidlbnaaGreatDoor
/- The walks through cast.Part's closure. -/
namespace Go.Proofs.YtioilmppidlbnaaGreatDoor
open Go.RowKit
def l3 (n : Nat) (h : Int) : Bool := decide (h < 0 ∨ (n : Int) ≤ h.tdiv 2)
theorem n0 (h : Int) (A : Option Addr) (n c b : Nat) (w : World) (hp : w.cell? ⟨b, 0, none⟩ = some (.slice A n c)) (h1 : -9223372036854775808 ≤ h) (h2 : h ≤ 9223372036854775807) :
  Calls Tryz.prog 91 #[.int .i64 h, .pointer (some ⟨b, 0, none⟩)] w fun r w' => r = .returned (.bool (l3 n h)) ∧ Below w.heap.size w w' := by
 have hh := Hp.start w
 by_cases g : h < 0
 ·refine aj (N := 14) (l := [.int .i64 h, .pointer (some ⟨b, 0, none⟩)]) Tryz.func91 rfl rfl (by simp) ?_
  refine sr (aB (aa (sr (mI ?_))))
  refine aQ (mB ?_)
  first | refine gS ?_ | (refine gT ?_; refine mI ?_) | refine gV ?_
  first | refine gS ?_ | (refine gT ?_; refine fD rfl rfl (by omega) (by omega) (by omega) (by decide) ?_) | refine gV ?_
  first | refine gS ?_ | (refine gT ?_; refine jZ dT.out rfl (by decide) ?_) | refine gV ?_
  first | (refine bV (by decide) rfl rfl (by decide) ?_) | (refine wl_guard_skipV (by decide) rfl rfl ?_)
  first | refine gS ?_ | (refine gT ?_; refine a8 ?_) | refine gV ?_
  first | refine gS ?_ | (refine gT ?_; refine dp ?_) | refine gV ?_
  first | refine dk ?_ | refine dm ?_
  refine aB (aa (aq ?_))
  refine cu ?_
  exact ⟨by rw [show l3 n h = true by unfold l3; rw [decide_eq_true (.inl g)]], hh.below⟩
 ·refine aj (N := 14) (l := [.int .i64 h, .pointer (some ⟨b, 0, none⟩)]) Tryz.func91 rfl rfl (by simp) ?_
  refine sr (aB (aa (sr (mI ?_))))
  refine aQ (mB ?_)
  first | refine gS ?_ | (refine gT ?_; refine mI ?_) | refine gV ?_
  first | refine gS ?_ | (refine gT ?_; refine fD rfl rfl (by omega) (by omega) (by omega) (by decide) ?_) | refine gV ?_
  first | refine gS ?_ | (refine gT ?_; refine jZ dT.out rfl (by decide) ?_) | refine gV ?_
  refine aY rfl rfl ?_
  refine bh aE.out rfl (hp) (by decide) ?_
  first | refine gS ?_ | (refine gT ?_; refine a8 ?_) | refine gV ?_
  first | refine gS ?_ | (refine gT ?_; refine dp ?_) | refine gV ?_
  first | refine dk ?_ | refine dm ?_
  refine aB (aa (aq ?_))
  refine cu ?_
  refine ⟨?_, hh.below⟩
  unfold l3
  congr 2
  have e := Int.tdiv_eq_ediv_of_nonneg (a := h) (b := 2) (by omega)
  rw [e]
  simp only [decide_eq_decide]
  omega
theorem iJ (H : Option Addr) (m c2 : Nat) (hs : List Int) (A : Option Addr) (n c b : Nat) (w : World) (hS : Sl w H m 1 (bX hs)) (hm : m ≤ 1000000) (hp : w.cell? ⟨b, 0, none⟩ = some (.slice A n c)) (hz : ∀ h ∈ hs, -9223372036854775808 ≤ h ∧ h ≤ 9223372036854775807) :
  Calls Tryz.prog 90 #[.slice H m c2, .func (.func 91) #[] #[.pointer (some ⟨b, 0, none⟩)]] w fun r w' => r = .returned (.bool (hs.any (l3 n))) ∧ Below w.heap.size w w' :=
 l9 H m c2 hs 91 [.pointer (some ⟨b, 0, none⟩)] (l3 n) w hS hm fun z w1 hz2 hb => n0 z A n c b w1 (eh hb hp) (hz z hz2).1 (hz z hz2).2
end Go.Proofs.YtioilmppidlbnaaGreatDoor
/- A pure operation, of several that are ready, may as well come first. Plain lemma, no program in sight. -/
namespace Go.Proofs.YtioilmppidlbnaaGreatDoor
open Go.RowKit
theorem iY {P : Program} {N : Nat} {Q : Kq} {ops : Array Oper} {fuel : Nat} {L : Array Bool} {i d : Nat} {op : Op} {ty : TypeId} {pos : String} {af : Array Edge} {v : Value} {ρ : Rf} {w : World} (hq : NP Q) (hi : ops[i]? = some ⟨some d, op, ty, pos, af, none⟩) (hs : Region.noSelect ops = true) (hf : Region.free .any ops L i = true) (hr : (Region.ready .any ops L).contains i = true)
  (hv : ∀ w, (execOp (ev ρ) ⟨some d, op, ty, pos, af, none⟩).run P w = .ok (.value v) w) (hN : d < N) (h : WA P N ops Q fuel (L.setIfInBounds i true) (bZ ρ d v) w) : WA P N ops Q (fuel + 1) L ρ w :=
 ⟨fun a hfit => wpAny_first hi (Region.noSelect_spec hs) (fun c a w ⟨ρ', _, hq'⟩ => (hq c ρ' w hq').elim) fuel L a w (Region.free_spec hi hf) (by simpa using hr) (.inl ⟨by simp [Region.wanted], fun w => by rw [hfit.eval]; exact hv w⟩) (h.out _ (hfit.put hN v))⟩
end Go.Proofs.YtioilmppidlbnaaGreatDoor
/- The walk through cast.Halve. -/
namespace Go.Proofs.YtioilmppidlbnaaGreatDoor
open Go.RowKit
theorem j2 (fx : FX) (ax : Int) (k q : Nat) (w : World) (hT : ff w) (hf : fx.at_ w) (hl : fx.rI k) (hcap : fx.n ≤ fx.a) (hs : Sz q (cj (-1))) (hs1 : Sz q (1 - cj (-1))) (hq : q ≤ 2000) (hk : fx.e = 0 → ∀ d ∈ fx.ns, k + fx.m * (260 + 2 * (q * d)) ≤ 300000) (h0 : ek fx ax ≠ 0) :
  Calls Tryz.prog 40 #[.agg #[.slice fx.A fx.n fx.a, .slice fx.B fx.m fx.b], .int .i64 ax] w fun r w' => Below w.heap.size w w' ∧ r = uY (ek fx ax) := by
 have hh := Hp.start w
 have hof : ∀ w1, ff w1 → Calls Tryz.prog 47 #[.int .i64 1] w1 fun r w' => r = .returned (.agg #[.bool (nR (1 : Dyadic)).neg, .string (nR (1 : Dyadic)).bD, .int .i64 (nR (1 : Dyadic)).e]) ∧ Below w1.heap.size w1 w' := fun w1 hT1 => e6 1 w1 hT1 (by decide) (by decide)
 have hsh := fun w1 hT1 => kq (nR (1 : Dyadic)) (-1) w1 hT1 (by have := Sz.one.bD; omega) (by decide +kernel) (by decide +kernel) (by decide) (by decide)
 rw [eG, Dyadic.one_mul] at hsh
 have hc : ∀ w1, ff w1 → Below w.heap.size w w1 → Calls Tryz.prog 38 #[.agg #[.slice fx.A fx.n fx.a, .slice fx.B fx.m fx.b], .int .i64 ax, .agg #[.bool (nR (cj (-1))).neg, .string (nR (cj (-1))).bD, .int .i64 (nR (cj (-1))).e]] w1 fun r w' => r = uY (ek fx ax) ∧ Below w1.heap.size w1 w' := fun w1 hT1 hb => (jG fx ax (nR (cj (-1))) (cj (-1)) k q w1 hT1 (hf.ext hb) hl hcap (nY.of hs hq) hs1 hq hk).mono fun r w' ⟨h1, h2⟩ => by
  rcases h2 with ⟨_, h2⟩ | ⟨h2, _⟩
  ·exact ⟨h2, h1⟩
  ·exact absurd h2 h0
 refine aj (N := 15) (l := [.agg #[.slice fx.A fx.n fx.a, .slice fx.B fx.m fx.b], .int .i64 ax]) Tryz.func40 rfl rfl (by simp) ?_
 refine sr ?_
 refine cY hh [_,_] ?_
 intro b2 w2 hh
 refine cd hh ?_
 intro b4 w4 hh
 refine cd hh ?_
 intro b5 w5 hh
 refine aI (aa (ah ?_))
 refine nq [] [0, 0, 0, 4, 15, 31, 31, 31, 255, 511, 1023] 4 [[(2, none)], [(1, none)], [], [(9, some 2)]] [(3, 10), (2, 9), (1, 8), (0, 7)] [([], 6, [(3, 10), (2, 9), (1, 8), (0, 7)])] hh mixed (by kernel_rfl) (by kernel_rfl) (by decide) ?_
 refine fF 2 [_,_] ?_
 refine fg ?_
 refine dC (fun _ hj => hof _ (hT.hp hj.hp)) ?_
 refine dC (fun _ hj => hsh _ (hT.hp hj.hp)) ?_
 refine bp ?_
 intro p_ hp_
 simp only [List.mem_cons, List.not_mem_nil, or_false] at hp_
 rcases hp_ with rfl
 ·intro f W hJ hV
  have hb_1 := hJ.bl
  obtain ⟨v10, v9, v8, v7, _⟩ := hV
  simp only [jl]
  have e7 : f 0 = _ := v7
  rw [e7]
  have e8 : f 1 = _ := v8
  rw [e8]
  have e9 : f 2 = _ := v9
  rw [e9]
  have e10 : f 3 = _ := v10
  rw [e10]
  replace hh := hJ.hp
  clear e7 e8 e9 e10 hJ
  refine aM (hc _ (hT.hp hh) hh.below) ar.out rfl (by decide) ?_; rintro e_ w11 ⟨rfl, hb_⟩; refine ⟨_, rfl, ?_⟩; replace hh := hh.ext hb_
  refine dM ?_
  refine iY (i := 5) (by repeat (first | exact ig | refine fS ?_ | refine ie ?_)) rfl (by kernel_rfl) (by kernel_rfl) (by kernel_rfl) (fun _ => eZ (show _ = Value.tuple (List.toArray _) from rfl) rfl) (by decide) ?_
  refine iY (i := 6) (by repeat (first | exact ig | refine fS ?_ | refine ie ?_)) rfl (by kernel_rfl) (by kernel_rfl) (by kernel_rfl) (fun _ => eZ (show _ = Value.tuple (List.toArray _) from rfl) rfl) (by decide) ?_
  refine iY (i := 7) (by repeat (first | exact ig | refine fS ?_ | refine ie ?_)) rfl (by kernel_rfl) (by kernel_rfl) (by kernel_rfl) (fun _ => eZ (show _ = Value.tuple (List.toArray _) from rfl) rfl) (by decide) ?_
  refine fm 8 (by decide) (by kernel_rfl) (by decide) (by kernel_rfl) (by kernel_rfl) ?_
  refine bK hh 1 [_,_] ?_
  intro ws hh
  replace hh : Hp _ (_ :: .blk _ _ [_, _] _ :: _) _ := hh
  refine bK hh 0 [_,_] ?_
  intro ws hh
  replace hh : Hp _ (.blk _ _ [_, _] _ :: _) _ := hh
  refine aI (aa (aq ?_))
  refine qu (aN rfl (aO (vs := [_, _]) aE.out (hh.au (i := 1) (n := 2) rfl rfl) rfl) (aN rfl (aO (vs := [_, _]) aE.out (hh.au (i := 0) (n := 2) rfl rfl) rfl) (ea (gp rfl) bx))) ?_
  exact ⟨hh.below, rfl⟩
theorem nz (fx : FX) (ax : Int) (k q : Nat) (w : World) (hT : ff w) (hf : fx.at_ w) (hl : fx.rI k) (hcap : fx.n ≤ fx.a) (hs : Sz q (cj (-1))) (hs1 : Sz q (1 - cj (-1))) (hq : q ≤ 2000) (hk : fx.e = 0 → ∀ d ∈ fx.ns, k + fx.m * (260 + 2 * (q * d)) ≤ 300000) (h0 : ek fx ax = 0) :
  Calls Tryz.prog 40 #[.agg #[.slice fx.A fx.n fx.a, .slice fx.B fx.m fx.b], .int .i64 ax] w fun r w' => ∃ A1 a1 B1 b1 A2 a2 B2 b2, r = .returned (.tuple #[.agg #[.slice A1 fx.n a1, .slice B1 fx.m b1], .agg #[.slice A2 fx.n a2, .slice B2 fx.m b2], .int .i64 0]) ∧ Hp w [.row B2 fx.m b2 39 3 (bm NR.cells ((ec true (cj (-1)) fx.ns ax.toNat (fx.cs.map NR.d)).map nR)), .row A2 fx.n a2 3 1 (bX fx.ds), .row A1 fx.n a1 3 1 (bX fx.ds), .row B1 fx.m b1 39 3 (bm NR.cells ((ec false (cj (-1)) fx.ns ax.toNat (fx.cs.map NR.d)).map nR))] w' := by
 have hh := Hp.start w
 have hof : ∀ w1, ff w1 → Calls Tryz.prog 47 #[.int .i64 1] w1 fun r w' => r = .returned (.agg #[.bool (nR (1 : Dyadic)).neg, .string (nR (1 : Dyadic)).bD, .int .i64 (nR (1 : Dyadic)).e]) ∧ Below w1.heap.size w1 w' := fun w1 hT1 => e6 1 w1 hT1 (by decide) (by decide)
 have hsh := fun w1 hT1 => kq (nR (1 : Dyadic)) (-1) w1 hT1 (by have := Sz.one.bD; omega) (by decide +kernel) (by decide +kernel) (by decide) (by decide)
 rw [eG, Dyadic.one_mul] at hsh
 have hc : ∀ w1, ff w1 → Below w.heap.size w w1 → Calls Tryz.prog 38 #[.agg #[.slice fx.A fx.n fx.a, .slice fx.B fx.m fx.b], .int .i64 ax, .agg #[.bool (nR (cj (-1))).neg, .string (nR (cj (-1))).bD, .int .i64 (nR (cj (-1))).e]] w1 fun r w' => ∃ A1 a1 B1 b1 A2 a2 B2 b2, r = .returned (.tuple #[.agg #[.slice A1 fx.n a1, .slice B1 fx.m b1], .agg #[.slice A2 fx.n a2, .slice B2 fx.m b2], .int .i64 0]) ∧ Hp w1 [.row B2 fx.m b2 39 3 (bm NR.cells ((ec true (cj (-1)) fx.ns ax.toNat (fx.cs.map NR.d)).map nR)), .row A2 fx.n a2 3 1 (bX fx.ds), .row A1 fx.n a1 3 1 (bX fx.ds), .row B1 fx.m b1 39 3 (bm NR.cells ((ec false (cj (-1)) fx.ns ax.toNat (fx.cs.map NR.d)).map nR))] w' := fun w1 hT1 hb => (jG fx ax (nR (cj (-1))) (cj (-1)) k q w1 hT1 (hf.ext hb) hl hcap (nY.of hs hq) hs1 hq hk).mono fun r w' ⟨h1, h2⟩ => by
  rcases h2 with ⟨h2, _⟩ | ⟨_, h2⟩
  ·exact absurd h0 h2
  ·exact h2
 refine aj (N := 15) (l := [.agg #[.slice fx.A fx.n fx.a, .slice fx.B fx.m fx.b], .int .i64 ax]) Tryz.func40 rfl rfl (by simp) ?_
 refine sr ?_
 refine cY hh [_,_] ?_
 intro b2 w2 hh
 refine cd hh ?_
 intro b4 w4 hh
 refine cd hh ?_
 intro b5 w5 hh
 refine aI (aa (ah ?_))
 refine nq [] [0, 0, 0, 4, 15, 31, 31, 31, 255, 511, 1023] 4 [[(2, none)], [(1, none)], [], [(9, some 2)]] [(3, 10), (2, 9), (1, 8), (0, 7)] [([], 6, [(3, 10), (2, 9), (1, 8), (0, 7)])] hh mixed (by kernel_rfl) (by kernel_rfl) (by decide) ?_
 refine fF 2 [_,_] ?_
 refine fg ?_
 refine dC (fun _ hj => hof _ (hT.hp hj.hp)) ?_
 refine dC (fun _ hj => hsh _ (hT.hp hj.hp)) ?_
 refine bp ?_
 intro p_ hp_
 simp only [List.mem_cons, List.not_mem_nil, or_false] at hp_
 rcases hp_ with rfl
 ·intro f W hJ hV
  have hb_1 := hJ.bl
  obtain ⟨v10, v9, v8, v7, _⟩ := hV
  simp only [jl]
  have e7 : f 0 = _ := v7
  rw [e7]
  have e8 : f 1 = _ := v8
  rw [e8]
  have e9 : f 2 = _ := v9
  rw [e9]
  have e10 : f 3 = _ := v10
  rw [e10]
  replace hh := hJ.hp
  clear e7 e8 e9 e10 hJ
  refine aM (hc _ (hT.hp hh) hh.below) ar.out rfl (by decide) ?_; rintro e_ w11 ⟨A1, a1, B1, b1, A2, a2, B2, b2', rfl, h2⟩; refine ⟨_, rfl, ?_⟩; replace hh := hh.join h2; simp only [List.cons_append, List.nil_append] at hh
  refine dM ?_
  refine iY (i := 5) (by repeat (first | exact ig | refine fS ?_ | refine ie ?_)) rfl (by kernel_rfl) (by kernel_rfl) (by kernel_rfl) (fun _ => eZ (show _ = Value.tuple (List.toArray _) from rfl) rfl) (by decide) ?_
  refine iY (i := 6) (by repeat (first | exact ig | refine fS ?_ | refine ie ?_)) rfl (by kernel_rfl) (by kernel_rfl) (by kernel_rfl) (fun _ => eZ (show _ = Value.tuple (List.toArray _) from rfl) rfl) (by decide) ?_
  refine iY (i := 7) (by repeat (first | exact ig | refine fS ?_ | refine ie ?_)) rfl (by kernel_rfl) (by kernel_rfl) (by kernel_rfl) (fun _ => eZ (show _ = Value.tuple (List.toArray _) from rfl) rfl) (by decide) ?_
  refine fm 8 (by decide) (by kernel_rfl) (by decide) (by kernel_rfl) (by kernel_rfl) ?_
  refine bK hh 5 [_,_] ?_
  intro ws hh
  replace hh : Hp _ (_ :: _ :: _ :: _ :: _ :: .blk _ _ [_, _] _ :: _) _ := hh
  refine bK hh 4 [_,_] ?_
  intro ws hh
  replace hh : Hp _ (_ :: _ :: _ :: _ :: .blk _ _ [_, _] _ :: _) _ := hh
  refine aI (aa (aq ?_))
  refine qu (aN rfl (aO (vs := [_, _]) aE.out (hh.au (i := 5) (n := 2) rfl rfl) rfl) (aN rfl (aO (vs := [_, _]) aE.out (hh.au (i := 4) (n := 2) rfl rfl) rfl) (ea (gp rfl) bx))) ?_
  replace hh := hh.sub (List.Sublist.cons_cons _ (List.Sublist.cons_cons _ (List.Sublist.cons_cons _ (List.Sublist.cons_cons _ (List.Sublist.cons _ (List.Sublist.cons _ (List.Sublist.cons _ List.Sublist.slnil)))))))
  exact ⟨_, _, _, _, _, _, _, _, rfl, hh⟩
end Go.Proofs.YtioilmppidlbnaaGreatDoor
/- Plain laws: how large the numbers of a changed form are; a form in parts. No program in sight. -/
namespace Go.Proofs.YtioilmppidlbnaaGreatDoor
theorem pK {A : List Nat} {d : Nat} {B : List Nat} {M : Nat → Nat → Dyadic} {xs : List Dyadic} {k G : Nat} (hl : xs.length = aC (A ++ d :: B)) (hx : ∀ x ∈ xs, Sz k x)
  (hg : ∀ ls : List Dyadic, ls.length = d + 1 → (∀ x ∈ ls, Sz k x) → ∀ x ∈ db d M ls, Sz (k + G) x) : ∀ x ∈ cM (A ++ d :: B) A.length M xs, Sz (k + G) x := fun x hx2 => by
 obtain ⟨p, hp⟩ := List.mem_iff_getElem?.1 hx2
 have hpl := (List.getElem?_eq_some_iff.1 hp).1
 rw [fA] at hpl
 obtain ⟨f, j, q, hf, hj, hq, rfl⟩ := jJ (A := A) (d := d) (B := B) (p := p) (by omega)
 rw [pT M xs hf hj hq] at hp
 have hp := Option.some.inj hp
 have hll : (di A d xs f q).length = d + 1 := by simp [di]
 refine hg (di A d xs f q) hll (fun y hy => ?_) x (List.mem_of_getElem? (i := j) ?_)
 ·obtain ⟨i, _, rfl⟩ := List.mem_map.1 hy
  exact kS hx _
 ·rw [ks hj, ← hp]
  congr 1
  refine fq fun i hi => ?_
  have hi := List.mem_range.1 hi
  congr 1
  show ((di A d xs f q)[i]?).getD 0 = _
  unfold di
  rw [List.getElem?_map, List.getElem?_range hi]
  rfl
theorem lQ (up : Bool) (s : Dyadic) (ns : List Nat) (a : Nat) (xs : List Dyadic) : (ec up s ns a xs).length = aC ns := by
 unfold ec
 rw [fA, hG]
theorem r6 {up : Bool} {s : Dyadic} {ns : List Nat} {a k q D : Nat} {xs : List Dyadic} (ha : a < ns.length) (hd : ∀ d ∈ ns, d ≤ D) (hD : D ≤ 127) (hl : xs.length = aC ns) (hs : Sz q s) (hs1 : Sz q (1 - s)) (hx : ∀ x ∈ xs, Sz k x) : ∀ x ∈ ec up s ns a xs, Sz (k + (260 + 2 * (q * D))) x := fun x h => by
 obtain ⟨pre, dd, suf, hns, hap, hgd, hsl⟩ := l7 ha
 have hdD : dd ≤ D := hd dd (by rw [hns]; exact List.mem_append_right _ List.mem_cons_self)
 have hqd : q * dd ≤ q * D := Nat.mul_le_mul_left _ hdD
 have hr : ns.reverse = suf.reverse ++ dd :: pre.reverse := by rw [hns, List.reverse_append, List.reverse_cons, List.append_assoc]; rfl
 have hxl : xs.length = aC (suf.reverse ++ dd :: pre.reverse) := by rw [← hr, hG, hl]
 unfold ec at h
 have er : suf.reverse.length = suf.length := List.length_reverse
 rw [hsl, hgd, hr, ← er] at h
 cases up with
 | true => exact (pK hxl hx (fun ls h1 h2 => uJ (by omega) hs hs1 ls k h1 h2) x h).mono (by omega)
 | false => exact (pK hxl hx (fun ls _ h2 => tF (by omega) hs hs1 ls k h2) x h).mono (by omega)
def rn (ns : List Nat) (xs : List Dyadic) (h : Int) : List Dyadic := ec (decide (h % 2 = 1)) (cj (-1)) ns (h / 2).toNat xs
def iw (ns : List Nat) (xs : List Dyadic) (hs : List Int) : List Dyadic := hs.foldl (rn ns) xs
theorem mR (ns : List Nat) (xs : List Dyadic) (hs : List Int) (h : Int) : iw ns xs (hs ++ [h]) = rn ns (iw ns xs hs) h := by
 unfold iw
 rw [List.foldl_append]
 rfl
theorem sx {ns : List Nat} {xs : List Dyadic} (hl : xs.length = aC ns) (hs : List Int) : (iw ns xs hs).length = aC ns := by
 rcases List.eq_nil_or_concat hs with rfl | ⟨l, h, rfl⟩
 ·exact hl
 ·rw [List.concat_eq_append, mR]
  exact lQ _ _ _ _ _
theorem pW {ns : List Nat} {q D : Nat} (hd : ∀ d ∈ ns, d ≤ D) (hD : D ≤ 127) (hs : Sz q (cj (-1))) (hs1 : Sz q (1 - cj (-1))) : ∀ (l : List Int) (k : Nat) (xs : List Dyadic), (∀ h ∈ l, 0 ≤ h ∧ h / 2 < ns.length) → xs.length = aC ns → (∀ x ∈ xs, Sz k x) → ∀ x ∈ iw ns xs l, Sz (k + l.length * (260 + 2 * (q * D))) x
 | [], k, xs, _, _, hx, x, h => by
  rw [List.length_nil, Nat.zero_mul, Nat.add_zero]
  exact hx x h
 | h :: l, k, xs, hv, hl, hx, x, hm => by
  have hh := hv h List.mem_cons_self
  have h1 := r6 (up := decide (h % 2 = 1)) (a := (h / 2).toNat) (by omega) hd hD hl hs hs1 hx
  have h2 := pW hd hD hs hs1 l (k + (260 + 2 * (q * D))) (rn ns xs h) (fun y hy => hv y (List.mem_cons_of_mem _ hy)) (lQ _ _ _ _ _) h1 x hm
  refine h2.mono ?_
  rw [List.length_cons, Nat.add_mul l.length 1, Nat.one_mul]
  omega
end Go.Proofs.YtioilmppidlbnaaGreatDoor
/- The walk through ogeeref13.share, and Half. -/
namespace Go.Proofs.YtioilmppidlbnaaGreatDoor
open Go.RowKit
def Ac (up : Bool) (d : Nat) (s : Dyadic) : Nat → Nat → Dyadic := if up then qf d s else oZ d s
end Go.Proofs.YtioilmppidlbnaaGreatDoor
/- The walk through ogeeref13.part. -/
namespace Go.Proofs.YtioilmppidlbnaaGreatDoor
open Go.RowKit
def z4 (ns rr : List Nat) (a : Nat) (xs : List Dyadic) (M : Nat → Nat → Dyadic) (r i : Nat) : Dyadic := sm (List.range i) fun j => co ns.reverse xs (rr.set a j) * M j r
end Go.Proofs.YtioilmppidlbnaaGreatDoor
/- The walk through cast.Part. -/
namespace Go.Proofs.YtioilmppidlbnaaGreatDoor
open Go.RowKit
def fR (fx : FX) (hs : List Int) : Int := if fx.e ≠ 0 then fx.e else if hs.any (l3 fx.n) = true then 1 else 0
theorem sZ (fx : FX) (L : Option Addr) (m2 c2 : Nat) (hs : List Int) (k : Nat) (w : World) (hT : ff w) (hf : fx.at_ w) (hl : fx.rI k) (hS : Sl w L m2 1 (bX hs)) (hm2 : m2 ≤ 1000000) (hz : ∀ h ∈ hs, -9223372036854775808 ≤ h ∧ h ≤ 9223372036854775807) (hE : fR fx hs ≠ 0) :
  Calls Tryz.prog 42 #[.agg #[.slice fx.A fx.n fx.a, .slice fx.B fx.m fx.b], .slice L m2 c2] w fun r w' => r = yS (fR fx hs) ∧ Below w.heap.size w w' := by
 have hh := Hp.start w
 have hck := fun w1 hT1 hb => n4 fx k w1 hT1 (hf.ext hb) hl
 by_cases h0 : fx.e = 0
 ·by_cases h1 : hs.any (l3 fx.n) = true
  ·have hE2 : fR fx hs = 1 := by unfold fR; rw [if_neg (by omega), if_pos h1]
   refine aj (N := 51) (l := [.agg #[.slice fx.A fx.n fx.a, .slice fx.B fx.m fx.b], .slice L m2 c2]) Tryz.func42 rfl rfl (by simp) ?_
   refine sr ?_
   refine cY hh [_,_] ?_
   intro b2 w2 hh
   refine cd hh ?_
   intro b4 w4 hh
   refine aI (aa (ah (sr ?_)))
   refine cU hh 1 [_,_] ?_
   refine bG hh (hck _ (hT.hp hh) hh.below) rfl ?_
   intro w14 hh
   refine aI (aa (sr (mI ?_)))
   refine fe (aa (cF (al (ai (ah (sr (mL ?_)))))))
   refine jK rfl (aF (oN rfl) bz) (by decide) ?_
   have hany := fun b w1 hb hp => iJ L m2 c2 hs fx.A fx.n fx.a b w1 (hS.ext hb) hm2 hp hz
   rw [h1] at hany
   refine bG hh (hany _ _ hh.below (hh.eH (i := 1) (o := 0) rfl rfl)) rfl ?_
   intro w21 hh
   refine aa (cT (sr ?_))
   refine fQ [_,_] ?_
   refine bK hh 0 [_,_] ?_
   intro ws hh
   replace hh : Hp _ (.blk _ _ [_, _] _ :: _) _ := hh
   refine aI (aa (aq (a7 ?_)))
   refine yX (aN rfl (aO (vs := [_, _]) aE.out (hh.au (i := 0) (n := 2) rfl rfl) rfl) (ea (gp rfl) bx)) ?_
   exact ⟨by rw [hE2]; rfl, hh.below⟩
  ·exact absurd (by unfold fR; rw [if_neg (by omega), if_neg h1]) hE
 ·have hE2 : fR fx hs = fx.e := by unfold fR; rw [if_pos h0]
  refine aj (N := 51) (l := [.agg #[.slice fx.A fx.n fx.a, .slice fx.B fx.m fx.b], .slice L m2 c2]) Tryz.func42 rfl rfl (by simp) ?_
  refine sr ?_
  refine cY hh [_,_] ?_
  intro b2 w2 hh
  refine cd hh ?_
  intro b4 w4 hh
  refine aI (aa (ah (sr ?_)))
  refine cU hh 1 [_,_] ?_
  refine bG hh (hck _ (hT.hp hh) hh.below) rfl ?_
  intro w14 hh
  refine aI (aa (sr (mI ?_)))
  refine fe (aa (cT (sr ?_)))
  refine fQ [_,_] (mI ?_)
  refine bK hh 0 [_,_] ?_
  intro ws hh
  replace hh : Hp _ (.blk _ _ [_, _] _ :: _) _ := hh
  refine aI (aa (aq (a7 ?_)))
  refine yX (aN rfl (aO (vs := [_, _]) aE.out (hh.au (i := 0) (n := 2) rfl rfl) rfl) (ea (gp rfl) bx)) ?_
  exact ⟨by rw [hE2]; rfl, hh.below⟩
end Go.Proofs.YtioilmppidlbnaaGreatDoor
/- The last bit of a number. Plain lemma, no program in sight. -/
namespace Go.Proofs.YtioilmppidlbnaaGreatDoor
open Go.RowKit
section
variable {P : Program} {N : Nat} {ops : Array Oper} {Q : Kq} {ρ : Rf} {w : World} {rest : List Oper} {d ty : Nat} {pos : String} {af : Array Edge}
theorem y7 (a : Int) : IntKind.i64.wrap (BitVec.ofInt IntKind.i64.bits a &&& BitVec.ofInt IntKind.i64.bits 1).toNat = a % 2 := by
 have h1 : (BitVec.ofInt IntKind.i64.bits a &&& BitVec.ofInt IntKind.i64.bits 1).toNat = (a % 2).toNat := by
  show (BitVec.ofInt 64 a &&& BitVec.ofInt 64 1).toNat = _
  rw [BitVec.toNat_and, show (BitVec.ofInt 64 1).toNat = 2 ^ 1 - 1 by decide, Nat.and_two_pow_sub_one_eq_mod, BitVec.toNat_ofInt]
  omega
 rw [h1, gv (by omega) (by omega)]
 omega
theorem tk {t u : Nat} {x y : Operand} {a : Int} (hx : ev ρ x = .int .i64 a) (hy : ev ρ y = .int .i64 1) (hN : d < N) (kk : WL .plain P N ops Q rest (bZ ρ d (.int .i64 (a % 2))) w) : WL .plain P N ops Q (⟨some d, .binOp .and t x y u, ty, pos, af, none⟩ :: rest) ρ w :=
 aT rfl rfl hN (by rw [wP hx hy, y7]) kk
end
end Go.Proofs.YtioilmppidlbnaaGreatDoor
/- The walk through cast.Part, the good ending. -/
namespace Go.Proofs.YtioilmppidlbnaaGreatDoor
open Go.RowKit
theorem tG (fx : FX) (L : Option Addr) (m2 c2 : Nat) (hs : List Int) (k q D : Nat) (w : World) (hT : ff w) (hf : fx.at_ w) (hl : fx.rI k) (hcap : fx.n ≤ fx.a) (hS : Sl w L m2 1 (bX hs)) (hm2 : m2 ≤ 1000000) (hz : ∀ h ∈ hs, -9223372036854775808 ≤ h ∧ h ≤ 9223372036854775807) (hE : fR fx hs = 0)
  (h2s : Sz q (cj (-1))) (h2t : Sz q (1 - cj (-1))) (hq : q ≤ 2000) (hdD : ∀ d ∈ fx.ns, d ≤ D) (hD : D ≤ 127) (hk : k + m2 * (260 + 2 * (q * D)) + fx.m * (260 + 2 * (q * D)) ≤ 300000) :
  Calls Tryz.prog 42 #[.agg #[.slice fx.A fx.n fx.a, .slice fx.B fx.m fx.b], .slice L m2 c2] w fun r w' => ∃ A a B b, r = .returned (.tuple #[.agg #[.slice A fx.n a, .slice B fx.m b], .int .i64 0]) ∧ Hp w [.row B fx.m b 39 3 (bm NR.cells ((iw fx.ns (fx.cs.map NR.d) hs).map nR)), .row A fx.n a 3 1 (bX fx.ds)] w' := by
 have hh := Hp.start w
 have hck := fun w1 hT1 hb => n4 fx k w1 hT1 (hf.ext hb) hl
 have hn20 := hl.xU
 have hm60 := hl.yg
 have h0 : fx.e = 0 := by
  refine Classical.byContradiction fun h => ?_
  unfold fR at hE
  rw [if_pos h] at hE
  exact h hE
 have h1 : hs.any (l3 fx.n) = false := by
  cases h : hs.any (l3 fx.n) with
  | false => rfl
  | true => unfold fR at hE; rw [if_neg (by omega), if_pos h] at hE; exact absurd hE (by decide)
 refine aj (N := 51) (l := [.agg #[.slice fx.A fx.n fx.a, .slice fx.B fx.m fx.b], .slice L m2 c2]) Tryz.func42 rfl rfl (by simp) ?_
 refine sr ?_
 refine cY hh [_,_] ?_
 intro b2 w2 hh
 refine cd hh ?_
 intro b4 w4 hh
 refine aI (aa (ah (sr ?_)))
 refine cU hh 1 [_,_] ?_
 refine bG hh (hck _ (hT.hp hh) hh.below) rfl ?_
 intro w14 hh
 refine aI (aa (sr (mI ?_)))
 refine fe (aa (cF (al (ai (ah (sr (mL ?_)))))))
 refine jK rfl (aF (oN rfl) bz) (by decide) ?_
 have hany := fun b w1 hb hp => iJ L m2 c2 hs fx.A fx.n fx.a b w1 (hS.ext hb) hm2 hp hz
 rw [h1] at hany
 refine bG hh (hany _ _ hh.below (hh.eH (i := 1) (o := 0) rfl rfl)) rfl ?_
 intro w21 hh
 refine aa (cF (al (ai (ah ?_))))
 refine aR 8 [[(2, none)], [(23, some 0)], [(24, some 1)], [(2, none)], [(26, some 3)], [(27, some 4)], [(25, some 2), (28, some 5)], []] [(7, 7), (6, 29), (5, 28), (4, 27), (3, 26), (2, 25), (1, 24), (0, 23)] hh mixed (by kernel_rfl) ?_
 refine fJ ?_
 refine gU 1 ?_
 refine bM (i := 2) (lU hh.sz 3 fx.n 1 (bX fx.ds)) (lU.ext) ?_ ?_
 ·intro ρ1 w1 hj hR
  exact bP rfl (bF ar.out (aF (show ρ1 24 = Value.slice _ _ _ from hR.1) bz)) (kB fx.A fx.n fx.a _ w1 (hf.dg.ext hj.hp.below) (by omega)) (fun _ _ ⟨A, c, hq, ho, hb⟩ => ⟨_, hq, hb, A, c, rfl, eR ho hj.bl.size⟩)
 refine fJ ?_
 refine gU 1 ?_
 refine bM (i := 5) (lU hh.sz 39 fx.m 3 (bm NR.cells fx.cs)) (lU.ext) ?_ ?_
 ·intro ρ1 w1 hj hR
  exact bP rfl (bF ar.out (aF (show ρ1 27 = Value.slice _ _ _ from hR.1) bz)) (ir fx.B fx.m fx.b _ w1 (hf.nm.ext hj.hp.below) (by omega)) (fun _ _ ⟨A, c, hq, ho, hb⟩ => ⟨_, hq, hb, A, c, rfl, eR ho hj.bl.size⟩)
 refine bM (i := 6) (ka hh.sz 3 39 fx.n 1 fx.m 3 (bX fx.ds) (bm NR.cells fx.cs)) (ka.ext) ?_ ?_
 ·intro ρ1 w1 hj hR
  exact let ⟨A, c, e1, o1⟩ := hR.1; let ⟨B, k, e2, o2⟩ := hR.2.1; iA rfl (lJ (cs := [_, _]) aE.out ia.out (aP e1 (aP e2 bO)) rfl) ⟨Below.refl _ _, A, c, B, k, rfl, o1, o2⟩
 refine bM (i := 7) (cV _ 28 _) cV.ext (fun ρ1 w1 hj hR => gB aE.out hj.bl (fun v w2 h hb => ⟨hb, h⟩)) ?_
 refine bp ?_
 intro f W hJ hV
 have hb_6 := hJ.bl
 obtain ⟨v7, v29, v28, v27, v26, v25, v24, v23, _⟩ := hV
 obtain ⟨g25, u25, e25, -⟩ := v25
 obtain ⟨g28, u28, e28, -⟩ := v28
 obtain ⟨A29, c29, B29, k29, e29, o29, p29⟩ := v29
 obtain ⟨b7, e7, hl7, hc7⟩ : cV _ _ _ (f 7) W := v7
 replace hh := JJ.mh hJ hh hl7 hc7 o29 p29 (by decide) (by decide) (by decide)
 refine a6 (bq (ae e7 (ae e29 (ae e28 (ae v27 (ae v26 (ae e25 (ae v24 (ae v23 a0))))))))) ?_
 dsimp only [cz]
 clear e25 e28 e29 e7 hJ
 refine bK hh 0 [_,_] ?_
 intro ws hh
 replace hh : Hp _ (.blk _ _ [_, _] _ :: _) _ := hh
 refine aa (ah (sr (mL (a8 (mI (aa (ak ?_)))))))
 obtain ⟨hdeg, hnum, h12, hlow, hcnt, hmax⟩ := FX.fv h0
 have hln : fx.ds.length = fx.n := by have := hf.dg.1; simpa [bX] using this
 have hlm := hf.nm.eB NR.len (by decide)
 have hnl : fx.ns.length = fx.n := by unfold FX.ns; rw [List.length_map]; exact hln
 have hl2 : hs.length = m2 := by have := hS.1; simpa [bX] using this
 have hxl : (fx.cs.map NR.d).length = aC fx.ns := by rw [List.length_map, hcnt]
 have hxz : ∀ x ∈ fx.cs.map NR.d, Sz k x := fun x h => by
  obtain ⟨c, hc, rfl⟩ := List.mem_map.1 h
  exact (hl.num c hc).2
 have hgood : ∀ h ∈ hs, 0 ≤ h ∧ h / 2 < fx.ns.length := fun h hm => by
  have h4 := List.any_eq_false.1 h1 h hm
  unfold l3 at h4
  rw [decide_eq_true_iff] at h4
  have h3 : 0 ≤ h := by omega
  rw [Int.tdiv_eq_ediv_of_nonneg h3] at h4
  omega
 have hqD : q * D ≤ 2000 * 127 := Nat.mul_le_mul hq hD
 clear hany hck
 rw [show bm NR.cells fx.cs = bm NR.cells ((iw fx.ns (fx.cs.map NR.d) (hs.take 0)).map nR) by rw [show iw fx.ns (fx.cs.map NR.d) (hs.take 0) = fx.cs.map NR.d from rfl, ← hnum]] at hh
 refine bE [9, 10, 11, 12, 32, 33, 34, 35, 36, 37, 38, 39, 40, 41, 42, 43, 44, 45, 46, 47, 48, 49] 32
  (fun v w' => ∃ (i a b : Nat) (A B : Option Addr), i ≤ m2 ∧ v = .int .i64 i ∧ Hp w [.blk b7 28 [.slice A fx.n a, .slice B fx.m b] (0, 0), .row A fx.n a 3 1 (bX fx.ds), .row B fx.m b 39 3 (bm NR.cells ((iw fx.ns (fx.cs.map NR.d) (hs.take i)).map nR)), .blk b4 28 [.slice none 0 0, .slice none 0 0] (0, 0), .blk b2 28 [.slice fx.A fx.n fx.a, .slice fx.B fx.m fx.b] (0, 0)] w')
  (fun v _ => m2 - (intOf v).toNat) ?_ ?_
 ·exact ⟨0, _, _, _, _, Nat.zero_le _, rfl, hh⟩
 ·clear hh
  rintro ρ' v w' ⟨i, a, b, A, B, hi, rfl, hh⟩
  by_cases hlt : i < m2
  ·obtain ⟨h, hh1⟩ := aW (l := hs) (k := i) (by omega)
   have hgi := eM hh1
   have hmem := List.mem_of_getElem? hh1
   obtain ⟨g0, g1⟩ := hgood h hmem
   obtain ⟨z0, z1⟩ := hz h hmem
   obtain ⟨ad, rfl, hr⟩ := hS.at_ (by omega)
   have hcap7 := hh.iL (i := 1) rfl
   have htl : (hs.take i).length = i := by rw [List.length_take]; omega
   have hys := pW hdD hD h2s h2t (hs.take i) k _ (fun y hy => hgood y (List.mem_of_mem_take hy)) hxl hxz
   have hyl := sx (ns := fx.ns) hxl (hs.take i)
   have hsn := mR fx.ns (fx.cs.map NR.d) (hs.take i) h
   rw [← bk hh1] at hsn
   rw [htl] at hys
   generalize iw fx.ns (fx.cs.map NR.d) (hs.take i) = ys at *
   have hback : (ys.map nR).map NR.d = ys := by rw [List.map_map]; exact (List.map_congr_left fun x _ => eG x).trans (List.map_id ys)
   have hiK : i * (260 + 2 * (q * D)) ≤ m2 * (260 + 2 * (q * D)) := Nat.mul_le_mul_right _ hi
   have hlim : (⟨A, fx.n, a, B, fx.m, b, fx.ds, ys.map nR⟩ : FX).rI (k + i * (260 + 2 * (q * D))) := ⟨hl.xU, hl.yg, fun c hc => by
    obtain ⟨y, hy, rfl⟩ := List.mem_map.1 hc
    have := hys y hy
    exact ⟨this.ok (by omega), by rw [eG]; exact this⟩⟩
   have hcut : ek ⟨A, fx.n, a, B, fx.m, b, fx.ds, ys.map nR⟩ (h / 2) = 0 := by
    have e1 : (⟨A, fx.n, a, B, fx.m, b, fx.ds, ys.map nR⟩ : FX).e = 0 := FV.ok (xs := ys) ⟨hdeg, rfl, h12, hlow, hyl, hmax⟩
    unfold ek
    rw [if_neg (fun e => e e1), if_neg (by show ¬(h / 2 < 0 ∨ (fx.n : Int) ≤ h / 2); omega)]
   have hkk : ∀ d ∈ fx.ns, k + i * (260 + 2 * (q * D)) + fx.m * (260 + 2 * (q * d)) ≤ 300000 := fun d hd => by
    have h5 := Nat.mul_le_mul_left q (hdD d hd)
    have h6 := Nat.mul_le_mul_left fx.m (show 260 + 2 * (q * d) ≤ 260 + 2 * (q * D) by omega)
    omega
   have hcall := fun w1 hT1 hA hB => nz ⟨A, fx.n, a, B, fx.m, b, fx.ds, ys.map nR⟩ (h / 2) (k + i * (260 + 2 * (q * D))) q w1 hT1 ⟨hA, hB⟩ hlim hcap7 h2s h2t hq (fun _ => hkk) hcut
   simp only [hback] at hcall
   unfold rn at hsn
   clear hys hlim hcut hkk
   by_cases hp : h % 2 = 1
   ·rw [decide_eq_true hp] at hsn
    refine sr ?_
    refine aQ (aa (ah (cT (al (ai (ah (ak (sr ?_))))))))
    refine aX (k := i) aK.out aE.size rfl rfl (by omega) (by omega) (by decide) ?_
    refine bh aE.out rfl ((hr.ext hh.below).hQ (by assumption)) (by decide) ?_
    refine aI (aa (sr ?_))
    refine cU hh 0 [_,_] (mI ?_)
    refine fD rfl rfl (by omega) (by omega) (by omega) (by decide) ?_
    refine aM (hcall _ (hT.hp hh) (hh.aV (i := 1) rfl) (hh.aV (i := 2) rfl)) ar.out rfl (by decide) ?_
    rintro e_ w40 ⟨A1, a1, B1, b1, A2, a2, B2, b2', rfl, h2⟩
    refine ⟨_, rfl, ?_⟩
    replace hh := hh.join h2
    simp only [List.cons_append, List.nil_append] at hh
    clear h2
    refine mT ?_
    refine dE ?_
    refine dE ?_
    refine dE ?_
    refine cd hh ?_
    intro b10 w10 hh
    refine cd hh ?_
    intro b11 w11 hh
    refine bK hh 1 [_,_] ?_
    intro ws hh
    replace hh : Hp _ (_ :: .blk _ _ [_, _] _ :: _) _ := hh
    refine bK hh 0 [_,_] ?_
    intro ws hh
    replace hh : Hp _ (.blk _ _ [_, _] _ :: _) _ := hh
    refine aI (aa (sr ?_))
    refine cU hh 1 [_,_] ?_
    refine bK hh 6 [_,_] ?_
    intro ws hh
    replace hh : Hp _ (_ :: _ :: _ :: _ :: _ :: _ :: .blk _ _ [_, _] _ :: _) _ := hh
    refine aa (sr (mI ?_))
    refine tk rfl rfl (by decide) ?_
    refine dH (aa (cT (ao ?_)))
    refine cU hh 0 [_,_] ?_
    refine bK hh 6 [_,_] ?_
    intro ws hh
    replace hh : Hp _ (_ :: _ :: _ :: _ :: _ :: _ :: .blk _ _ [_, _] _ :: _) _ := hh
    refine aD (aU (ai (ao ?_)))
    refine bA (mI (aD (ai ?_)))
    replace hh := hh.sub (List.Sublist.cons _ (List.Sublist.cons _ (List.Sublist.cons_cons _ (List.Sublist.cons_cons _ (List.Sublist.cons _ (List.Sublist.cons _ (List.Sublist.cons_cons _ (List.Sublist.cons _ (List.Sublist.cons _ (List.Sublist.cons_cons _ (List.Sublist.cons_cons _ List.Sublist.slnil)))))))))))
    replace hh := hh.perm (List.perm_middle (l₁ := [_]))
    simp only [List.cons_append, List.nil_append] at hh
    replace hh := hh.perm (List.perm_middle (l₁ := [_, _]))
    simp only [List.cons_append, List.nil_append] at hh
    refine ⟨⟨i + 1, _, _, _, _, by omega, rfl, by rw [hsn]; exact hh⟩, by show m2 - (i + 1) < m2 - i; omega, ?_⟩
    (repeat (first | exact aw _ _ _ | refine az rfl ?_ | refine av rfl ?_))
   ·rw [decide_eq_false hp] at hsn
    refine sr ?_
    refine aQ (aa (ah (cT (al (ai (ah (ak (sr ?_))))))))
    refine aX (k := i) aK.out aE.size rfl rfl (by omega) (by omega) (by decide) ?_
    refine bh aE.out rfl ((hr.ext hh.below).hQ (by assumption)) (by decide) ?_
    refine aI (aa (sr ?_))
    refine cU hh 0 [_,_] (mI ?_)
    refine fD rfl rfl (by omega) (by omega) (by omega) (by decide) ?_
    refine aM (hcall _ (hT.hp hh) (hh.aV (i := 1) rfl) (hh.aV (i := 2) rfl)) ar.out rfl (by decide) ?_
    rintro e_ w40 ⟨A1, a1, B1, b1, A2, a2, B2, b2', rfl, h2⟩
    refine ⟨_, rfl, ?_⟩
    replace hh := hh.join h2
    simp only [List.cons_append, List.nil_append] at hh
    clear h2
    refine mT ?_
    refine dE ?_
    refine dE ?_
    refine dE ?_
    refine cd hh ?_
    intro b10 w10 hh
    refine cd hh ?_
    intro b11 w11 hh
    refine bK hh 1 [_,_] ?_
    intro ws hh
    replace hh : Hp _ (_ :: .blk _ _ [_, _] _ :: _) _ := hh
    refine bK hh 0 [_,_] ?_
    intro ws hh
    replace hh : Hp _ (.blk _ _ [_, _] _ :: _) _ := hh
    refine aI (aa (sr ?_))
    refine cU hh 1 [_,_] ?_
    refine bK hh 6 [_,_] ?_
    intro ws hh
    replace hh : Hp _ (_ :: _ :: _ :: _ :: _ :: _ :: .blk _ _ [_, _] _ :: _) _ := hh
    refine aa (sr (mI ?_))
    refine tk rfl rfl (by decide) ?_
    refine dH (aa (cF (al (aU (ai (ao ?_))))))
    refine bA (mI (aD (ai ?_)))
    replace hh := hh.sub (List.Sublist.cons _ (List.Sublist.cons _ (List.Sublist.cons _ (List.Sublist.cons _ (List.Sublist.cons_cons _ (List.Sublist.cons_cons _ (List.Sublist.cons_cons _ (List.Sublist.cons _ (List.Sublist.cons _ (List.Sublist.cons_cons _ (List.Sublist.cons_cons _ List.Sublist.slnil)))))))))))
    replace hh := hh.perm (List.perm_middle (l₁ := [_]))
    simp only [List.cons_append, List.nil_append] at hh
    replace hh := hh.perm (List.perm_middle (l₁ := [_]))
    simp only [List.cons_append, List.nil_append] at hh
    replace hh := hh.perm (List.perm_middle (l₁ := [_, _]))
    simp only [List.cons_append, List.nil_append] at hh
    refine ⟨⟨i + 1, _, _, _, _, by omega, rfl, by rw [hsn]; exact hh⟩, by show m2 - (i + 1) < m2 - i; omega, ?_⟩
    (repeat (first | exact aw _ _ _ | refine az rfl ?_ | refine av rfl ?_))
  ·obtain rfl : i = m2 := by omega
   rw [List.take_of_length_le (by omega)] at hh
   refine sr ?_
   refine aQ (aa (ah (cF ?_)))
   refine aZ ?_
   refine aA (aA (bo (ai (sr ?_))))
   refine cU hh 0 [_,_] ?_
   refine bK hh 3 [_,_] ?_
   intro ws hh
   replace hh : Hp _ (_ :: _ :: _ :: .blk _ _ [_, _] _ :: _) _ := hh
   refine aI (aa (aq ?_))
   replace hh := hh.sub (List.Sublist.cons _ (List.Sublist.cons_cons _ (List.Sublist.cons_cons _ (List.Sublist.cons_cons _ (List.Sublist.cons _ List.Sublist.slnil)))))
   refine yX (aN rfl (aO (vs := [_, _]) aE.out (hh.au (i := 2) (n := 2) rfl rfl) rfl) (ea (gp rfl) bx)) ?_
   exact ⟨_, _, _, _, rfl, (hh.sub (List.sublist_append_left [_, _] _)).perm (List.Perm.swap _ _ _)⟩
end Go.Proofs.YtioilmppidlbnaaGreatDoor
/- The walks through ogeeref14.Add, Mul and Scale. -/
namespace Go.Proofs.YtioilmppidlbnaaGreatDoor
open Go.RowKit
def zC (R : List HE) (g : FX) : Prop := R = [g.fY, g.fN] ∨ g.m = 0 ∧ R = [g.fN]
end Go.Proofs.YtioilmppidlbnaaGreatDoor
/- The contracts of package cast once more, each with one ending: forms that one owns, empty where there is an error. -/
namespace Go.Proofs.YtioilmppidlbnaaGreatDoor
open Go.RowKit
theorem gk {fx : FX} {ax : Int} (h : ek fx ax = 0) : fx.e = 0 ∧ 0 ≤ ax ∧ ax < fx.n := by
 unfold ek at h
 split at h
 ·rename_i h1; exact absurd h h1
 ·rename_i h1
  split at h
  ·cases h
  ·omega
theorem qG {fx : FX} {hs : List Int} (h : fR fx hs = 0) : fx.e = 0 := by
 unfold fR at h
 split at h
 ·rename_i h1; exact absurd h h1
 ·rename_i h1; omega
theorem mo {fx : FX} {A : Option Addr} {a : Nat} {B : Option Addr} {b : Nat} {ys : List Dyadic} (k : Nat) (h0 : fx.e = 0) (hl : fx.rI k) : Out 0 fx.ns ys ⟨A, fx.n, a, B, fx.m, b, fx.ds, ys.map nR⟩ :=
 ⟨(FX.fv h0).1, rfl, by show fx.n ≤ 100000; have := hl.xU; omega, by show fx.m ≤ 1000000; have := hl.yg; omega⟩
theorem xx {D : List Nat} {ys : List Dyadic} {g : FX} (h : Out 0 D ys g) (h1 : D.length ≤ 12) (h2 : ∀ d ∈ D, d ≤ 127) (h3 : ys.length = aC D) (h4 : aC D ≤ 4096) : g.e = 0 ∧ g.ns = D ∧ g.cs.map NR.d = ys := by
 have e1 : g.ds = cx D := h.ds
 have e2 : g.cs = ys.map nR := h.cs
 refine ⟨?_, ?_, ?_⟩
 ·unfold FX.e
  rw [e1, e2]
  exact FV.ok (xs := ys) ⟨rfl, rfl, h1, h2, h3, h4⟩
 ·unfold FX.ns
  rw [e1]
  exact nQ D
 ·rw [e2, List.map_map]
  exact (List.map_congr_left fun x _ => eG x).trans (List.map_id ys)
theorem oE (fx : FX) (ax : Int) (sn : NR) (s : Dyadic) (k q : Nat) (w : World) (hT : ff w) (hf : fx.at_ w) (hl : fx.rI k) (hcap : fx.n ≤ fx.a) (vs : nY q sn s) (hs1 : Sz q (1 - s)) (hq : q ≤ 2000) (hk : fx.e = 0 → ∀ d ∈ fx.ns, k + fx.m * (260 + 2 * (q * d)) ≤ 300000) :
  Calls Tryz.prog 38 #[.agg #[.slice fx.A fx.n fx.a, .slice fx.B fx.m fx.b], .int .i64 ax, .agg #[.bool sn.neg, .string sn.bD, .int .i64 sn.e]] w fun r w' => ∃ g h : FX, Out (ek fx ax) fx.ns (ec false s fx.ns ax.toNat (fx.cs.map NR.d)) g ∧ Out (ek fx ax) fx.ns (ec true s fx.ns ax.toNat (fx.cs.map NR.d)) h ∧
   r = .returned (.tuple #[.agg #[.slice g.A g.n g.a, .slice g.B g.m g.b], .agg #[.slice h.A h.n h.a, .slice h.B h.m h.b], .int .i64 (ek fx ax)]) ∧ Hp w [h.fY, h.fN, g.fN, g.fY] w' := by
 refine (jG fx ax sn s k q w hT hf hl hcap vs hs1 hq hk).mono fun r w' ⟨hb, h⟩ => ?_
 rcases h with ⟨h0, rfl⟩ | ⟨h0, A1, a1, B1, b1, A2, a2, B2, b2, rfl, hh⟩
 ·exact ⟨FX.nil, FX.nil, Out.err h0, Out.err h0, rfl, (((Hp.start w).ext hb).uw).uw.perm (List.Perm.cons _ (List.Perm.cons _ (List.Perm.swap _ _ _)))⟩
 ·have he := (gk h0).1
  rw [h0]
  exact ⟨_, _, mo (A := A1) (a := a1) (B := B1) (b := b1) k he hl, mo (A := A2) (a := a2) (B := B2) (b := b2) k he hl, rfl, hh⟩
theorem uG (fx : FX) (ax : Int) (k q : Nat) (w : World) (hT : ff w) (hf : fx.at_ w) (hl : fx.rI k) (hcap : fx.n ≤ fx.a) (hs : Sz q (cj (-1))) (hs1 : Sz q (1 - cj (-1))) (hq : q ≤ 2000) (hk : fx.e = 0 → ∀ d ∈ fx.ns, k + fx.m * (260 + 2 * (q * d)) ≤ 300000) :
  Calls Tryz.prog 40 #[.agg #[.slice fx.A fx.n fx.a, .slice fx.B fx.m fx.b], .int .i64 ax] w fun r w' => ∃ g h : FX, Out (ek fx ax) fx.ns (ec false (cj (-1)) fx.ns ax.toNat (fx.cs.map NR.d)) g ∧ Out (ek fx ax) fx.ns (ec true (cj (-1)) fx.ns ax.toNat (fx.cs.map NR.d)) h ∧
   r = .returned (.tuple #[.agg #[.slice g.A g.n g.a, .slice g.B g.m g.b], .agg #[.slice h.A h.n h.a, .slice h.B h.m h.b], .int .i64 (ek fx ax)]) ∧ Hp w [h.fY, h.fN, g.fN, g.fY] w' := by
 by_cases h0 : ek fx ax = 0
 ·refine (nz fx ax k q w hT hf hl hcap hs hs1 hq hk h0).mono fun r w' ⟨A1, a1, B1, b1, A2, a2, B2, b2, hr, hh⟩ => ?_
  have he := (gk h0).1
  rw [h0]
  exact ⟨_, _, mo (A := A1) (a := a1) (B := B1) (b := b1) k he hl, mo (A := A2) (a := a2) (B := B2) (b := b2) k he hl, hr, hh⟩
 ·refine (j2 fx ax k q w hT hf hl hcap hs hs1 hq hk h0).mono fun r w' ⟨hb, hr⟩ => ?_
  exact ⟨FX.nil, FX.nil, Out.err h0, Out.err h0, hr, (((Hp.start w).ext hb).uw).uw.perm (List.Perm.cons _ (List.Perm.cons _ (List.Perm.swap _ _ _)))⟩
theorem u9 (fx : FX) (L : Option Addr) (m2 c2 : Nat) (hs : List Int) (k q D : Nat) (w : World) (hT : ff w) (hf : fx.at_ w) (hl : fx.rI k) (hcap : fx.n ≤ fx.a) (hS : Sl w L m2 1 (bX hs)) (hm2 : m2 ≤ 1000000) (hz : ∀ h ∈ hs, -9223372036854775808 ≤ h ∧ h ≤ 9223372036854775807)
  (h2s : Sz q (cj (-1))) (h2t : Sz q (1 - cj (-1))) (hq : q ≤ 2000) (hdD : fx.e = 0 → ∀ d ∈ fx.ns, d ≤ D) (hD : D ≤ 127) (hk : k + m2 * (260 + 2 * (q * D)) + fx.m * (260 + 2 * (q * D)) ≤ 300000) :
  Calls Tryz.prog 42 #[.agg #[.slice fx.A fx.n fx.a, .slice fx.B fx.m fx.b], .slice L m2 c2] w fun r w' => ∃ g : FX, Out (fR fx hs) fx.ns (iw fx.ns (fx.cs.map NR.d) hs) g ∧ r = .returned (.tuple #[.agg #[.slice g.A g.n g.a, .slice g.B g.m g.b], .int .i64 (fR fx hs)]) ∧ Hp w [g.fY, g.fN] w' := by
 by_cases h0 : fR fx hs = 0
 ·have he := qG h0
  refine (tG fx L m2 c2 hs k q D w hT hf hl hcap hS hm2 hz h0 h2s h2t hq (hdD he) hD hk).mono fun r w' ⟨A, a, B, b, hr, hh⟩ => ?_
  rw [h0]
  exact ⟨_, mo (A := A) (a := a) (B := B) (b := b) k he hl, hr, hh⟩
 ·refine (sZ fx L m2 c2 hs k w hT hf hl hS hm2 hz h0).mono fun r w' ⟨hr, hb⟩ => ?_
  exact ⟨FX.nil, Out.err h0, hr, ((Hp.start w).ext hb).uw⟩
end Go.Proofs.YtioilmppidlbnaaGreatDoor
/- The walks through ogeeref13.Cut and Part. -/
namespace Go.Proofs.YtioilmppidlbnaaGreatDoor
open Go.RowKit
end Go.Proofs.YtioilmppidlbnaaGreatDoor
/- The walks through ogeelaw13's own helpers: what is more than is reckoned with. -/
namespace Go.Proofs.YtioilmppidlbnaaGreatDoor
open Go.RowKit
def mu (a : NR) : Bool := decide ((8 : Int) < a.bD.size ∨ a.e < -60 ∨ 60 < a.e)
theorem jx (a : NR) (w : World) :
  Calls Tryz.prog 36 #[.agg #[.bool a.neg, .string a.bD, .int .i64 a.e]] w fun r w' => r = .returned (.bool (mu a)) ∧ Below w.heap.size w w' := by
 have hh := Hp.start w
 by_cases h1 : (8 : Int) < a.bD.size
 ·refine aj (N := 18) (l := [.agg #[.bool a.neg, .string a.bD, .int .i64 a.e]]) Tryz.func36 rfl rfl (by simp) ?_
  refine sr ?_
  refine cY hh [_,_,_] ?_
  intro b1 w1 hh
  refine aB (aa (sr (bH (bH ?_))))
  refine bJ hh 0 ?_
  refine cg aK.out rfl (by decide) ?_
  refine cn (mB ?_)
  first | refine gS ?_ | (refine gT ?_; refine bH ?_) | refine gV ?_
  first | refine gS ?_ | (refine gT ?_; refine bJ hh 0 ?_) | refine gV ?_
  first | refine gS ?_ | (refine gT ?_; refine aQ ?_) | refine gV ?_
  first | refine dk ?_ | refine dm ?_
  refine mB ?_
  first | refine gS ?_ | (refine gT ?_; refine bH ?_) | refine gV ?_
  first | refine gS ?_ | (refine gT ?_; refine bJ hh 0 ?_) | refine gV ?_
  first | refine gS ?_ | (refine gT ?_; refine cn ?_) | refine gV ?_
  first | refine dk ?_ | refine dm ?_
  refine aB (aa (aq ?_))
  refine cu ?_
  refine ⟨?_, hh.below⟩
  unfold mu
  rw [decide_eq_true (.inl h1)]
 ·by_cases h2 : a.e < -60
  ·refine aj (N := 18) (l := [.agg #[.bool a.neg, .string a.bD, .int .i64 a.e]]) Tryz.func36 rfl rfl (by simp) ?_
   refine sr ?_
   refine cY hh [_,_,_] ?_
   intro b1 w1 hh
   refine aB (aa (sr (bH (bH ?_))))
   refine bJ hh 0 ?_
   refine cg aK.out rfl (by decide) ?_
   refine cn (mB ?_)
   first | refine gS ?_ | (refine gT ?_; refine bH ?_) | refine gV ?_
   first | refine gS ?_ | (refine gT ?_; refine bJ hh 0 ?_) | refine gV ?_
   first | refine gS ?_ | (refine gT ?_; refine aQ ?_) | refine gV ?_
   first | refine dk ?_ | refine dm ?_
   refine mB ?_
   first | refine gS ?_ | (refine gT ?_; refine bH ?_) | refine gV ?_
   first | refine gS ?_ | (refine gT ?_; refine bJ hh 0 ?_) | refine gV ?_
   first | refine gS ?_ | (refine gT ?_; refine cn ?_) | refine gV ?_
   first | refine dk ?_ | refine dm ?_
   refine aB (aa (aq ?_))
   refine cu ?_
   refine ⟨?_, hh.below⟩
   unfold mu
   rw [decide_eq_true (.inr (.inl h2))]
  ·by_cases h3 : 60 < a.e
   ·refine aj (N := 18) (l := [.agg #[.bool a.neg, .string a.bD, .int .i64 a.e]]) Tryz.func36 rfl rfl (by simp) ?_
    refine sr ?_
    refine cY hh [_,_,_] ?_
    intro b1 w1 hh
    refine aB (aa (sr (bH (bH ?_))))
    refine bJ hh 0 ?_
    refine cg aK.out rfl (by decide) ?_
    refine cn (mB ?_)
    first | refine gS ?_ | (refine gT ?_; refine bH ?_) | refine gV ?_
    first | refine gS ?_ | (refine gT ?_; refine bJ hh 0 ?_) | refine gV ?_
    first | refine gS ?_ | (refine gT ?_; refine aQ ?_) | refine gV ?_
    first | refine dk ?_ | refine dm ?_
    refine mB ?_
    first | refine gS ?_ | (refine gT ?_; refine bH ?_) | refine gV ?_
    first | refine gS ?_ | (refine gT ?_; refine bJ hh 0 ?_) | refine gV ?_
    first | refine gS ?_ | (refine gT ?_; refine cn ?_) | refine gV ?_
    first | refine dk ?_ | refine dm ?_
    refine aB (aa (aq ?_))
    refine cu ?_
    refine ⟨?_, hh.below⟩
    unfold mu
    rw [decide_eq_true (.inr (.inr h3))]
   ·refine aj (N := 18) (l := [.agg #[.bool a.neg, .string a.bD, .int .i64 a.e]]) Tryz.func36 rfl rfl (by simp) ?_
    refine sr ?_
    refine cY hh [_,_,_] ?_
    intro b1 w1 hh
    refine aB (aa (sr (bH (bH ?_))))
    refine bJ hh 0 ?_
    refine cg aK.out rfl (by decide) ?_
    refine cn (mB ?_)
    first | refine gS ?_ | (refine gT ?_; refine bH ?_) | refine gV ?_
    first | refine gS ?_ | (refine gT ?_; refine bJ hh 0 ?_) | refine gV ?_
    first | refine gS ?_ | (refine gT ?_; refine aQ ?_) | refine gV ?_
    first | refine dk ?_ | refine dm ?_
    refine mB ?_
    first | refine gS ?_ | (refine gT ?_; refine bH ?_) | refine gV ?_
    first | refine gS ?_ | (refine gT ?_; refine bJ hh 0 ?_) | refine gV ?_
    first | refine gS ?_ | (refine gT ?_; refine cn ?_) | refine gV ?_
    first | refine dk ?_ | refine dm ?_
    refine aB (aa (aq ?_))
    refine cu ?_
    refine ⟨?_, hh.below⟩
    unfold mu
    rw [decide_eq_false (by omega)]
theorem yw {a : NR} (h : mu a = false) : a.ok ∧ Sz 124 a.d := by
 have h' := of_decide_eq_false h
 have h1 : (a.bD.size : Int) ≤ 8 := by omega
 have h2 : -60 ≤ a.e := by omega
 have h3 : a.e ≤ 60 := by omega
 exact ⟨⟨by omega, by omega, by omega⟩, Sz.raw (m := 64) (E := 60) (by omega) h2 h3⟩
def FX.mf (f : FX) : Prop := f.rI 124 ∧ f.m ≤ 120 ∧ f.n ≤ 20 ∧ ∀ d ∈ f.ds, d ≤ 6 ∨ 128 ≤ d
theorem n8 (f : FX) (w : World) (hf : f.at_ w) :
  Calls Tryz.prog 35 #[.agg #[.slice f.A f.n f.a, .slice f.B f.m f.b]] w fun r w' => ∃ b : Bool, r = .returned (.bool b) ∧ (b = false → f.mf) ∧ Below w.heap.size w w' := by
 have hh := Hp.start w
 have hl1 := hf.ln.1
 have hl2 := hf.ln.2
 by_cases h1 : 20 < f.n
 ·refine aj (N := 49) (l := [.agg #[.slice f.A f.n f.a, .slice f.B f.m f.b]]) Tryz.func35 rfl rfl (by simp) ?_
  refine sr ?_
  refine cY hh [_,_] ?_
  intro b1 w1 hh
  refine aB (aa (ah (sr (bH ?_))))
  refine bJ hh 0 ?_
  refine a8 ?_
  refine cn (mB ?_)
  first | refine gS ?_ | (refine gT ?_; refine bH ?_) | refine gV ?_
  first | refine gS ?_ | (refine gT ?_; refine bJ hh 0 ?_) | refine gV ?_
  first | refine gS ?_ | (refine gT ?_; refine a8 ?_) | refine gV ?_
  first | refine gS ?_ | (refine gT ?_; refine cn ?_) | refine gV ?_
  first | refine dk ?_ | refine dm ?_
  refine aa ?_
  refine cT (sr (aB (aa (aq (a7 ?_)))))
  refine cu ?_
  exact ⟨_, rfl, fun h => (by cases h), hh.below⟩
 ·by_cases h2 : 120 < f.m
  ·refine aj (N := 49) (l := [.agg #[.slice f.A f.n f.a, .slice f.B f.m f.b]]) Tryz.func35 rfl rfl (by simp) ?_
   refine sr ?_
   refine cY hh [_,_] ?_
   intro b1 w1 hh
   refine aB (aa (ah (sr (bH ?_))))
   refine bJ hh 0 ?_
   refine a8 ?_
   refine cn (mB ?_)
   first | refine gS ?_ | (refine gT ?_; refine bH ?_) | refine gV ?_
   first | refine gS ?_ | (refine gT ?_; refine bJ hh 0 ?_) | refine gV ?_
   first | refine gS ?_ | (refine gT ?_; refine a8 ?_) | refine gV ?_
   first | refine gS ?_ | (refine gT ?_; refine cn ?_) | refine gV ?_
   first | refine dk ?_ | refine dm ?_
   refine aa ?_
   refine cT (sr (aB (aa (aq (a7 ?_)))))
   refine cu ?_
   exact ⟨_, rfl, fun h => (by cases h), hh.below⟩
  ·refine aj (N := 49) (l := [.agg #[.slice f.A f.n f.a, .slice f.B f.m f.b]]) Tryz.func35 rfl rfl (by simp) ?_
   refine sr ?_
   refine cY hh [_,_] ?_
   intro b1 w1 hh
   refine aB (aa (ah (sr (bH ?_))))
   refine bJ hh 0 ?_
   refine a8 ?_
   refine cn (mB ?_)
   first | refine gS ?_ | (refine gT ?_; refine bH ?_) | refine gV ?_
   first | refine gS ?_ | (refine gT ?_; refine bJ hh 0 ?_) | refine gV ?_
   first | refine gS ?_ | (refine gT ?_; refine a8 ?_) | refine gV ?_
   first | refine gS ?_ | (refine gT ?_; refine cn ?_) | refine gV ?_
   first | refine dk ?_ | refine dm ?_
   refine aa ?_
   refine cF (al (ai (ah (sr (aI (aa (ak ?_)))))))
   refine bE [2, 3, 15, 16, 17, 18, 19, 20, 21, 22, 23, 24, 25, 26, 27] 3
    (fun v w' => ∃ i : Nat, i ≤ f.m ∧ v = .int .i64 i ∧ (∀ x ∈ f.cs.take i, mu x = false) ∧ Hp w [.blk b1 28 [.slice f.A f.n f.a, .slice f.B f.m f.b] (0, 0)] w')
    (fun v _ => f.m - (intOf v).toNat) ?_ ?_
   ·exact ⟨0, Nat.zero_le _, rfl, fun x hx => (by simp at hx), hh⟩
   ·clear hh
    rintro ρ' v w' ⟨i, hi, rfl, hall, hh⟩
    by_cases hlt : i < f.m
    ·obtain ⟨x, hx⟩ := aW (l := f.cs) (k := i) (by omega)
     obtain ⟨a2, hA2, s2⟩ := hf.nm.at_ (by omega)
     have hev : Value.slice f.B f.m f.b = .slice (some a2) f.m f.b := by rw [hA2]
     have hc := fun w1 => jx x w1
     cases hb : mu x with
     | true =>
      rw [hb] at hc
      refine ah (sr (mI (bH ?_)))
      refine bJ hh 0 ?_
      refine a8 ?_
      refine aQ (aa (cT (al (ai (ah (ak (sr (bH ?_))))))))
      refine bJ hh 0 ?_
      refine mI ?_
      refine aX (k := i) aK.out aE.size hev rfl (by omega) (by omega) (by decide) ?_
      refine eO (vs := [_, _, _]) aE.out rfl ((s2.ext hh.below).recAt NR.len hx) rfl (by decide) ?_
      refine bG hh (hc _) rfl ?_
      intro w27 hh
      refine aa (cT (sr (aB (aa (aq (cH (a7 (a7 (cH (a7 ?_))))))))))
      refine cu ?_
      exact ⟨_, rfl, fun h => (by cases h), hh.below⟩
     | false =>
      rw [hb] at hc
      refine ah (sr (mI (bH ?_)))
      refine bJ hh 0 ?_
      refine a8 ?_
      refine aQ (aa (cT (al (ai (ah (ak (sr (bH ?_))))))))
      refine bJ hh 0 ?_
      refine mI ?_
      refine aX (k := i) aK.out aE.size hev rfl (by omega) (by omega) (by decide) ?_
      refine eO (vs := [_, _, _]) aE.out rfl ((s2.ext hh.below).recAt NR.len hx) rfl (by decide) ?_
      refine bG hh (hc _) rfl ?_
      intro w27 hh
      refine aa (cF (al (aU (ai (ao (mI ?_))))))
      refine bA (aI (aD (ai ?_)))
      refine ⟨⟨i + 1, by omega, rfl, fun y hy => ?_, hh⟩, by show f.m - (i + 1) < f.m - i; omega, ?_⟩
      ·rw [bk hx, List.mem_append, List.mem_singleton] at hy
       rcases hy with hy | rfl
       ·exact hall y hy
       ·exact hb
      ·(repeat (first | exact aw _ _ _ | refine az rfl ?_ | refine av rfl ?_))
    ·rw [List.take_of_length_le (by omega)] at hall
     have hfin : (∀ d ∈ f.ds, d ≤ 6 ∨ 128 ≤ d) → f.mf := fun hd => ⟨⟨by omega, by omega, fun c hc => yw (hall c hc)⟩, by omega, by omega, hd⟩
     clear hall
     refine ah (sr (mI (bH ?_)))
     refine bJ hh 0 ?_
     refine a8 ?_
     refine aQ (aa (cF ?_))
     refine aZ ?_
     refine aA (aA (bo (ai (ah (sr (aI (aa (ak ?_))))))))
     refine bE [2, 4, 28, 29, 30, 31, 32, 33, 34, 35, 36, 37, 38, 39, 40, 41, 42, 43, 44, 45, 46, 47, 48] 4
      (fun v w' => ∃ i : Nat, i ≤ f.n ∧ v = .int .i64 i ∧ (∀ d ∈ f.ds.take i, d ≤ 6 ∨ 128 ≤ d) ∧ Hp w [.blk b1 28 [.slice f.A f.n f.a, .slice f.B f.m f.b] (0, 0)] w')
      (fun v _ => f.n - (intOf v).toNat) ?_ ?_
     ·exact ⟨0, Nat.zero_le _, rfl, fun x hx => (by simp at hx), hh⟩
     ·clear hh
      rintro ρ2 v w2 ⟨j, hj, rfl, hds, hh⟩
      by_cases hlt2 : j < f.n
      ·obtain ⟨d, hd⟩ := aW (l := f.ds) (k := j) (by omega)
       have hgd := eM hd
       obtain ⟨a1, hA1, s1⟩ := hf.dg.at_ (by omega)
       have hev : Value.slice f.A f.n f.a = .slice (some a1) f.n f.a := by rw [hA1]
       by_cases h6 : 6 < d
       ·by_cases h128 : d < 128
        ·refine ah (sr (mI (bH ?_)))
         refine bJ hh 0 ?_
         refine a8 ?_
         refine aQ (aa (cT (al (ai (ah (ak (sr (bH ?_))))))))
         refine bJ hh 0 ?_
         refine mI ?_
         refine aX (k := j) aK.out aE.size hev rfl (by omega) (by omega) (by decide) ?_
         refine bh aE.out rfl ((s1.ext hh.below).hQ hgd) (by decide) ?_
         refine cn (mB ?_)
         first | refine gS ?_ | (refine gT ?_; refine bH ?_) | refine gV ?_
         first | refine gS ?_ | (refine gT ?_; refine bJ hh 0 ?_) | refine gV ?_
         first | refine gS ?_ | (refine gT ?_; refine mI ?_) | refine gV ?_
         first | refine gS ?_ | (refine gT ?_; refine aX (k := j) aK.out aE.size hev rfl (by omega) (by omega) (by decide) ?_) | refine gV ?_
         refine aY rfl rfl ?_
         refine bh aE.out rfl ((s1.ext hh.below).hQ hgd) (by decide) ?_
         first | refine gS ?_ | (refine gT ?_; refine aQ ?_) | refine gV ?_
         first | refine dk ?_ | refine dm ?_
         refine aa (cT (sr (aB (aa (aq (cH (a7 (a7 (cH (a7 ?_))))))))))
         refine cu ?_
         exact ⟨_, rfl, fun h => (by cases h), hh.below⟩
        ·refine ah (sr (mI (bH ?_)))
         refine bJ hh 0 ?_
         refine a8 ?_
         refine aQ (aa (cT (al (ai (ah (ak (sr (bH ?_))))))))
         refine bJ hh 0 ?_
         refine mI ?_
         refine aX (k := j) aK.out aE.size hev rfl (by omega) (by omega) (by decide) ?_
         refine bh aE.out rfl ((s1.ext hh.below).hQ hgd) (by decide) ?_
         refine cn (mB ?_)
         first | refine gS ?_ | (refine gT ?_; refine bH ?_) | refine gV ?_
         first | refine gS ?_ | (refine gT ?_; refine bJ hh 0 ?_) | refine gV ?_
         first | refine gS ?_ | (refine gT ?_; refine mI ?_) | refine gV ?_
         first | refine gS ?_ | (refine gT ?_; refine aX (k := j) aK.out aE.size hev rfl (by omega) (by omega) (by decide) ?_) | refine gV ?_
         refine aY rfl rfl ?_
         refine bh aE.out rfl ((s1.ext hh.below).hQ hgd) (by decide) ?_
         first | refine gS ?_ | (refine gT ?_; refine aQ ?_) | refine gV ?_
         first | refine dk ?_ | refine dm ?_
         refine aa (cF (al (aU (ai (ao (mI ?_))))))
         refine bA (aI (aD (ai ?_)))
         have hds2 : ∀ d ∈ f.ds.take (j + 1), d ≤ 6 ∨ 128 ≤ d := fun y hy => by
          rw [bk hd, List.mem_append, List.mem_singleton] at hy
          rcases hy with hy | rfl
          ·exact hds y hy
          ·omega
         refine ⟨⟨j + 1, by omega, rfl, hds2, hh⟩, by show f.n - (j + 1) < f.n - j; omega, ?_⟩
         (repeat (first | exact aw _ _ _ | refine az rfl ?_ | refine av rfl ?_))
       ·refine ah (sr (mI (bH ?_)))
        refine bJ hh 0 ?_
        refine a8 ?_
        refine aQ (aa (cT (al (ai (ah (ak (sr (bH ?_))))))))
        refine bJ hh 0 ?_
        refine mI ?_
        refine aX (k := j) aK.out aE.size hev rfl (by omega) (by omega) (by decide) ?_
        refine bh aE.out rfl ((s1.ext hh.below).hQ hgd) (by decide) ?_
        refine cn (mB ?_)
        first | refine gS ?_ | (refine gT ?_; refine bH ?_) | refine gV ?_
        first | refine gS ?_ | (refine gT ?_; refine bJ hh 0 ?_) | refine gV ?_
        first | refine gS ?_ | (refine gT ?_; refine mI ?_) | refine gV ?_
        first | refine gS ?_ | (refine gT ?_; refine s_indexAddr aK.out aE.size rfl rfl (by omega) (by omega) (by decide) ?_) | refine gV ?_
        first | (refine bV (by decide) rfl rfl (by decide) ?_) | (refine wl_guard_skipV (by decide) rfl rfl ?_)
        first | refine gS ?_ | (refine gT ?_; refine aQ ?_) | refine gV ?_
        first | refine dk ?_ | refine dm ?_
        refine aa (cF (al (aU (ai (ao (mI ?_))))))
        refine bA (aI (aD (ai ?_)))
        have hds2 : ∀ d ∈ f.ds.take (j + 1), d ≤ 6 ∨ 128 ≤ d := fun y hy => by
         rw [bk hd, List.mem_append, List.mem_singleton] at hy
         rcases hy with hy | rfl
         ·exact hds y hy
         ·omega
        refine ⟨⟨j + 1, by omega, rfl, hds2, hh⟩, by show f.n - (j + 1) < f.n - j; omega, ?_⟩
        (repeat (first | exact aw _ _ _ | refine az rfl ?_ | refine av rfl ?_))
      ·rw [List.take_of_length_le (by omega)] at hds
       refine ah (sr (mI (bH ?_)))
       refine bJ hh 0 ?_
       refine a8 ?_
       refine aQ (aa (cF ?_))
       refine aZ ?_
       refine aA (aA (bo (ai (sr (aB (aa (aq ?_)))))))
       refine cu ?_
       exact ⟨_, rfl, fun _ => hfin hds, hh.below⟩
end Go.Proofs.YtioilmppidlbnaaGreatDoor
/- The walks through ogeelaw13's examples. -/
namespace Go.Proofs.YtioilmppidlbnaaGreatDoor
open Go.RowKit
abbrev fu (l : List Int) (A : Option Addr) (a : Nat) (B : Option Addr) (b : Nat) : FX := ⟨A, 1, a, B, l.length, b, [(l.length : Int) - 1], l.map fun z : Int => nR ((z : Dyadic) * cj (-2))⟩
theorem ox {l : List Int} {A : Option Addr} {a : Nat} {B : Option Addr} {b : Nat} (hn : l.length ≤ 100) (hl : ∀ z ∈ l, z.natAbs < 256) : (fu l A a B b).rI 124 := by
 refine ⟨by show 1 ≤ 1000; omega, by show l.length ≤ 100000; omega, fun c hc => ?_⟩
 obtain ⟨z, hz, rfl⟩ := List.mem_map.1 hc
 have h : Sz 34 ((z : Dyadic) * cj (-2)) := (show Sz 24 (z : Dyadic) from uM (e := 0) (hl z hz) (by decide) (by decide)).mul (Sz.two (k := 2) (by decide) (by decide))
 exact ⟨h.ok (by omega), by rw [eG]; exact h.mono (by omega)⟩
theorem cR (l : List Int) (A : Option Addr) (c : Nat) (w : World) (hS : Sl w A l.length 1 (bX l)) (h0 : 0 < l.length) (hn : l.length ≤ 100) (hl : ∀ z ∈ l, z.natAbs < 256) :
  Calls Tryz.prog 83 #[.slice A l.length c] w fun r w' => ∃ (A : Option Addr) (a : Nat) (B : Option Addr) (b : Nat), r = .returned (.agg #[.slice A 1 a, .slice B l.length b]) ∧ Hp w [(fu l A a B b).fY, (fu l A a B b).fN] w' := by
 have hh := Hp.start w
 obtain ⟨n, hn2⟩ : ∃ n, n = l.length := ⟨_, rfl⟩
 have hnd : (fu l none 0 none 0).ds = [(n : Int) - 1] := by rw [hn2]
 rw [← hn2] at hS h0 hn ⊢
 refine aj (N := 28) (l := [.slice A n c]) Tryz.func83 rfl rfl (by simp) ?_
 refine sr ?_
 refine cd hh ?_
 intro b2 w2 hh
 refine aa (sr (mL (a8 ?_)))
 refine ed ?_
 refine bf hh (cs := [_]) aK.out aE.out (aP (bI rfl) bO) rfl rfl (by decide) (by decide) (by decide) rfl (by decide) ?_
 intro b8 w8 hh
 refine fQ [_,_] ?_
 refine cd hh ?_
 intro b3 w3 hh
 refine bK hh 0 [_,_] ?_
 intro ws hh
 replace hh : Hp _ (.blk _ _ [_, _] _ :: _) _ := hh
 refine aa (ah (sr (aI (aa (ak ?_)))))
 replace hh := hh.perm (List.perm_middle (l₁ := [_]))
 simp only [List.cons_append, List.nil_append] at hh
 have hcap := hh.iL (i := 0) rfl
 replace hh := hh.perm (List.perm_middle (l₁ := [_]))
 simp only [List.cons_append, List.nil_append] at hh
 replace hh := hh.fo 39 3
 refine bE [4, 10, 11, 12, 13, 14, 15, 16, 17, 18, 19, 20, 21, 22, 23, 24, 25, 26] 4
  (fun v w' => ∃ (i c1 : Nat) (B : Option Addr), i ≤ n ∧ v = .int .i64 i ∧ Hp w [.row B i c1 39 3 (bm NR.cells ((l.take i).map fun z : Int => nR ((z : Dyadic) * cj (-2)))), .blk b3 28 [.slice (some ⟨b8, 0, none⟩) 1 1, .slice B i c1] (0, 0), .row (some ⟨b8, 0, none⟩) 1 1 3 1 (bX [(n : Int) - 1]), .blk b2 28 [.slice none 0 0, .slice none 0 0] (0, 0)] w')
  (fun v _ => n - (intOf v).toNat) ?_ ?_
 ·exact ⟨0, 0, none, Nat.zero_le _, rfl, hh⟩
 ·clear hh
  rintro ρ' v w' ⟨i, c1, B, hi, rfl, hh⟩
  by_cases hlt : i < n
  ·obtain ⟨z, hz⟩ := aW (l := l) (k := i) (by omega)
   have hgz := eM hz
   have hzb := hl z (List.mem_of_getElem? hz)
   obtain ⟨ad, rfl, hr⟩ := hS.at_ (by omega)
   refine ah (sr (mI (mL (a8 ?_))))
   refine aQ (aa (cT (al (ai (ah (ak ?_))))))
   have hsh := fun w1 => jY (nR (z : Dyadic)) (-2) w1 (by have := (show Sz 24 (z : Dyadic) from uM (e := 0) hzb (by decide) (by decide)).bD; omega) (by have := (show Sz 24 (z : Dyadic) from uM (e := 0) hzb (by decide) (by decide)).nr; omega) (by have := (show Sz 24 (z : Dyadic) from uM (e := 0) hzb (by decide) (by decide)).nr; omega) (by decide) (by decide)
   rw [eG] at hsh
   refine aR 9 [[(3, none)], [(16, some 0)], [(0, none)], [(4, none)], [(18, some 2), (19, some 3)], [(20, some 4)], [(21, some 5)], [(22, some 6)], [(23, some 7)]] [(8, 24), (7, 23), (6, 22), (5, 21), (4, 20), (3, 19), (2, 18), (1, 17), (0, 16)] hh mixed (by kernel_rfl) ?_
   refine fJ ?_
   refine gU 1 ?_
   refine iX ?_
   refine fg ?_
   refine qk (i) ?_
   refine br (i := 5) (fun ρ1 w1 hj hR => fZ aE.out (show ρ1 20 = Value.pointer _ from hR.1) ((hr.ext hj.hp.below).hQ (by assumption))) ?_
   refine dC (fun _ hj => kK z _ (by omega) (by omega)) ?_
   refine dC (fun _ hj => hsh _) ?_
   refine uV [_,_,_] ?_
   refine bp ?_
   intro f W hJ hV
   have hb_5 := hJ.bl
   obtain ⟨v24, v23, v22, v21, v20, v19, v18, v17, v16, _⟩ := hV
   obtain ⟨A24, c24, e24, f24⟩ : Rows _ _ _ (f 8) W := v24
   replace hh := hJ.hp
   refine a6 (bq (ae e24 (ae v23 (ae v22 (ae v21 (ae v20 (ae v19 (ae v18 (ae v17 (ae v16 a0)))))))))) ?_
   dsimp only [cz]
   clear e24 hJ
   refine dY hh (i := 0) rfl rfl rfl (f24) aK.out aE.out rfl (by decide) (by first | rfl | exact dt _ | exact cJ _ | exact cq _ | exact cI NR.one _) (by omega) (by omega) (by decide) ?_
   intro A25 c25 w25 hh
   simp only [List.set_cons_zero] at hh
   refine bH ?_
   refine bK hh 1 [_] ?_
   intro ws hh
   replace hh : Hp _ (_ :: .blk _ _ [_, _] _ :: _) _ := hh
   refine aD (aU (ai (ao (mI ?_))))
   refine bA (aI (aD (ai ?_)))
   replace hh := hh.sub (List.Sublist.cons_cons _ (List.Sublist.cons_cons _ (List.Sublist.cons_cons _ (List.Sublist.cons_cons _ List.Sublist.slnil))))
   refine ⟨⟨i + 1, c25, A25, by omega, rfl, ?_⟩, by show n - (i + 1) < n - i; omega, ?_⟩
   ·rw [bk hz, List.map_append, eY]
    exact hh
   ·(repeat (first | exact aw _ _ _ | refine az rfl ?_ | refine av rfl ?_))
  ·obtain rfl : i = n := by omega
   rw [List.take_of_length_le (by omega)] at hh
   refine ah (sr (mI (mL (a8 ?_))))
   refine aQ (aa (cF ?_))
   refine aZ ?_
   refine aA (aA (bo (ai (sr ?_))))
   refine cU hh 1 [_,_] ?_
   refine bK hh 3 [_,_] ?_
   intro ws hh
   replace hh : Hp _ (_ :: _ :: _ :: .blk _ _ [_, _] _ :: _) _ := hh
   refine aa (aq ?_)
   replace hh := hh.sub (List.Sublist.cons_cons _ (List.Sublist.cons _ (List.Sublist.cons_cons _ (List.Sublist.cons_cons _ List.Sublist.slnil))))
   refine gh (aN rfl (aO (vs := [_, _]) aE.out (hh.au (i := 2) (n := 2) rfl rfl) rfl) bx) ?_
   refine ⟨some ⟨b8, 0, none⟩, 1, B, c1, rfl, ?_⟩
   unfold FX.fY FX.fN
   dsimp only
   rw [← hn2]
   exact hh.sub (List.sublist_append_left [_, _] _)
end Go.Proofs.YtioilmppidlbnaaGreatDoor
/- The walk through ogeelaw13.awake. -/
namespace Go.Proofs.YtioilmppidlbnaaGreatDoor
open Go.RowKit
theorem je : Sz 2 (cj (-1)) ∧ Sz 2 (1 - cj (-1)) := ⟨(show Sz 1 (cj (-1)) from ⟨1, by decide +kernel, by decide⟩).mono (by omega), Sz.one.sub (show Sz 1 (cj (-1)) from ⟨1, by decide +kernel, by decide⟩)⟩
theorem ku {l : List Int} {D : List Nat} {ys : List Dyadic} {g : FX} {w : World} (h : Out 0 D ys g) (h1 : cx D = [(l.length : Int) - 1]) (h2 : ys = l.map fun z : Int => (z : Dyadic) * cj (-2)) (hg : g.at_ w) : ∃ (A : Option Addr) (a : Nat) (B : Option Addr) (b : Nat), g = fu l A a B b := by
 have l1 := hg.ln
 obtain ⟨oS, hc0, -, -⟩ := h
 obtain ⟨A, n, a, B, m, b, ds, cs⟩ := g
 have hd : ds = [(l.length : Int) - 1] := oS.trans h1
 have hc : cs = l.map fun z : Int => nR ((z : Dyadic) * cj (-2)) := hc0.trans (by unfold xt; rw [if_pos rfl, h2, List.map_map]; rfl)
 obtain ⟨q1, q2⟩ : ds.length = n ∧ cs.length = m := l1
 clear oS hc0 h1 h2 hg
 subst hd hc q1
 obtain rfl : l.length = m := by rw [← q2, List.length_map]
 exact ⟨A, a, B, b, rfl⟩
abbrev yK (l : List Int) : List Dyadic := l.map fun z : Int => (z : Dyadic) * cj (-2)
theorem tw {l : List Int} {A : Option Addr} {a : Nat} {B : Option Addr} {b : Nat} (k q : Nat) (hn : l.length ≤ 100) (hk : k + 100 * (260 + 2 * (q * 100)) ≤ 300000) : (fu l A a B b).e = 0 → ∀ d ∈ (fu l A a B b).ns, k + (fu l A a B b).m * (260 + 2 * (q * d)) ≤ 300000 := fun _ d hd => by
 have hd2 : d ∈ [((l.length : Int) - 1).toNat] := hd
 rw [List.mem_singleton] at hd2
 have h1 : q * d ≤ q * 100 := Nat.mul_le_mul_left _ (by omega)
 have h2 : l.length * (260 + 2 * (q * d)) ≤ 100 * (260 + 2 * (q * 100)) := Nat.mul_le_mul hn (by omega)
 show k + l.length * (260 + 2 * (q * d)) ≤ 300000
 omega
theorem tn (l l1 l2 : List Int) (A : Option Addr) (a : Nat) (B : Option Addr) (b : Nat) (w : World) (hT : ff w) (hf : (fu l A a B b).at_ w) (hcap : 1 ≤ a) (hn : l.length ≤ 100) (hl : ∀ z ∈ l, z.natAbs < 256)
  (h : ek (fu l A a B b) 0 = 0 ∧ ec false (cj (-1)) (fu l A a B b).ns 0 ((fu l A a B b).cs.map NR.d) = yK l1 ∧ ec true (cj (-1)) (fu l A a B b).ns 0 ((fu l A a B b).cs.map NR.d) = yK l2 ∧ cx (fu l A a B b).ns = [(l1.length : Int) - 1] ∧ cx (fu l A a B b).ns = [(l2.length : Int) - 1]) :
  Calls Tryz.prog 40 #[.agg #[.slice A 1 a, .slice B l.length b], .int .i64 0] w fun r w' => ∃ A1 a1 B1 b1 A2 a2 B2 b2, r = .returned (.tuple #[.agg #[.slice A1 1 a1, .slice B1 l1.length b1], .agg #[.slice A2 1 a2, .slice B2 l2.length b2], .int .i64 0]) ∧ Hp w [(fu l2 A2 a2 B2 b2).fY, (fu l2 A2 a2 B2 b2).fN, (fu l1 A1 a1 B1 b1).fN, (fu l1 A1 a1 B1 b1).fY] w' := by
 have := uG (fu l A a B b) 0 124 2 w hT hf (ox hn hl) hcap je.1 je.2 (by decide) (tw 124 2 hn (by decide))
 rw [h.1] at this
 refine this.mono fun r w' ⟨g, g2, o1, o2, hr, hh⟩ => ?_
 obtain ⟨A1, a1, B1, b1, rfl⟩ := ku o1 h.2.2.2.1 h.2.1 (hh.dq (List.mem_of_getElem? (i := 3) rfl) (List.mem_of_getElem? (i := 2) rfl))
 obtain ⟨A2, a2, B2, b2, rfl⟩ := ku o2 h.2.2.2.2 h.2.2.1 (hh.dq (List.mem_of_getElem? (i := 0) rfl) (List.mem_of_getElem? (i := 1) rfl))
 exact ⟨A1, a1, B1, b1, A2, a2, B2, b2, hr, hh⟩
theorem yV (l l1 l2 : List Int) (A : Option Addr) (a : Nat) (B : Option Addr) (b : Nat) (w : World) (hT : ff w) (hf : (fu l A a B b).at_ w) (hcap : 1 ≤ a) (hn : l.length ≤ 100) (hl : ∀ z ∈ l, z.natAbs < 256)
  (h : ek (fu l A a B b) 0 = 0 ∧ ec false (cj (-2)) (fu l A a B b).ns 0 ((fu l A a B b).cs.map NR.d) = yK l1 ∧ ec true (cj (-2)) (fu l A a B b).ns 0 ((fu l A a B b).cs.map NR.d) = yK l2 ∧ cx (fu l A a B b).ns = [(l1.length : Int) - 1] ∧ cx (fu l A a B b).ns = [(l2.length : Int) - 1]) :
  Calls Tryz.prog 38 #[.agg #[.slice A 1 a, .slice B l.length b], .int .i64 0, .agg #[.bool (nR (cj (-2))).neg, .string (nR (cj (-2))).bD, .int .i64 (nR (cj (-2))).e]] w fun r w' => ∃ A1 a1 B1 b1 A2 a2 B2 b2, r = .returned (.tuple #[.agg #[.slice A1 1 a1, .slice B1 l1.length b1], .agg #[.slice A2 1 a2, .slice B2 l2.length b2], .int .i64 0]) ∧ Hp w [(fu l2 A2 a2 B2 b2).fY, (fu l2 A2 a2 B2 b2).fN, (fu l1 A1 a1 B1 b1).fN, (fu l1 A1 a1 B1 b1).fY] w' := by
 have z : Sz 2 (cj (-2)) := ⟨1, by decide +kernel, by decide⟩
 have := oE (fu l A a B b) 0 (nR (cj (-2))) (cj (-2)) 124 4 w hT hf (ox hn hl) hcap (nY.of (z.mono (by decide)) (by decide)) ((Sz.one.mono (show 1 ≤ 3 by decide)).sub (z.mono (show 2 ≤ 3 by decide))) (by decide) (tw 124 4 hn (by decide))
 rw [h.1] at this
 refine this.mono fun r w' ⟨g, g2, o1, o2, hr, hh⟩ => ?_
 obtain ⟨A1, a1, B1, b1, rfl⟩ := ku o1 h.2.2.2.1 h.2.1 (hh.dq (List.mem_of_getElem? (i := 3) rfl) (List.mem_of_getElem? (i := 2) rfl))
 obtain ⟨A2, a2, B2, b2, rfl⟩ := ku o2 h.2.2.2.2 h.2.2.1 (hh.dq (List.mem_of_getElem? (i := 0) rfl) (List.mem_of_getElem? (i := 1) rfl))
 exact ⟨A1, a1, B1, b1, A2, a2, B2, b2, hr, hh⟩
theorem yA (l l1 hs : List Int) (A : Option Addr) (a : Nat) (B : Option Addr) (b : Nat) (L : Option Addr) (c : Nat) (w : World) (hT : ff w) (hf : (fu l A a B b).at_ w) (hcap : 1 ≤ a) (hn : l.length ≤ 10) (hl : ∀ z ∈ l, z.natAbs < 256) (hS : Sl w L hs.length 1 (bX hs)) (hm : hs.length ≤ 6) (hz : ∀ z ∈ hs, -9223372036854775808 ≤ z ∧ z ≤ 9223372036854775807)
  (h : fR (fu l A a B b) hs = 0 ∧ iw (fu l A a B b).ns ((fu l A a B b).cs.map NR.d) hs = yK l1 ∧ cx (fu l A a B b).ns = [(l1.length : Int) - 1]) :
  Calls Tryz.prog 42 #[.agg #[.slice A 1 a, .slice B l.length b], .slice L hs.length c] w fun r w' => ∃ A1 a1 B1 b1, r = .returned (.tuple #[.agg #[.slice A1 1 a1, .slice B1 l1.length b1], .int .i64 0]) ∧ Hp w [(fu l1 A1 a1 B1 b1).fY, (fu l1 A1 a1 B1 b1).fN] w' := by
 have := u9 (fu l A a B b) L hs.length c hs 124 2 10 w hT hf (ox (by omega) hl) hcap hS (by omega) hz je.1 je.2 (by decide) (fun _ d hd => by
  have hd2 : d ∈ [((l.length : Int) - 1).toNat] := hd
  rw [List.mem_singleton] at hd2
  omega) (by decide) (by
  show 124 + hs.length * (260 + 2 * (2 * 10)) + l.length * (260 + 2 * (2 * 10)) ≤ 300000
  omega)
 rw [h.1] at this
 refine this.mono fun r w' ⟨g, o1, hr, hh⟩ => ?_
 obtain ⟨A1, a1, B1, b1, rfl⟩ := ku o1 h.2.2 h.2.1 (hh.dq (List.mem_of_getElem? (i := 0) rfl) (List.mem_of_getElem? (i := 1) rfl))
 exact ⟨A1, a1, B1, b1, hr, hh⟩
theorem su (B : Option Addr) (b : Nat) (w : World) (hT : ff w) (hS : Sl w B 1 3 (bm NR.cells [nR ((7 : Int) : Dyadic)])) :
  Calls Tryz.prog 40 #[.agg #[.slice none 0 0, .slice B 1 b], .int .i64 0] w fun r w' => r = uY 1 ∧ Below w.heap.size w w' := by
 have z : Sz 24 ((7 : Int) : Dyadic) := uM (m := 7) (e := 0) (by decide) (by decide) (by decide)
 have hE : ek (⟨none, 0, 0, B, 1, b, [], [nR ((7 : Int) : Dyadic)]⟩ : FX) 0 = 1 := by kernel_rfl
 have := j2 (⟨none, 0, 0, B, 1, b, [], [nR ((7 : Int) : Dyadic)]⟩ : FX) 0 124 2 w hT ⟨Sl.nil _ _ _, hS⟩ ⟨Nat.zero_le _, Nat.le_of_ble_eq_true rfl, fun c hc => by
  rw [List.mem_singleton] at hc
  subst hc
  exact ⟨z.ok (by omega), by rw [eG]; exact z.mono (by omega)⟩⟩ (Nat.le_refl _) je.1 je.2 (by decide) (fun _ d hd => by cases hd) (by rw [hE]; decide)
 rw [hE] at this
 exact this.mono fun r w' h => ⟨h.2, h.1⟩
def da (l : List Int) : VP := fun v W => ∃ g : FX, v = .agg #[.slice g.A g.n g.a, .slice g.B g.m g.b] ∧ g.ds = [(l.length : Int) - 1] ∧ g.cs = (l.map fun z : Int => nR ((z : Dyadic) * cj (-2))) ∧ g.at_ W
theorem da.ext {l : List Int} (v : Value) (w w' : World) (h : da l v w) (hb : Below w.heap.size w w') : da l v w' := let ⟨g, h1, h2, h3, h4⟩ := h; ⟨g, h1, h2, h3, h4.ext hb⟩
theorem dQ (w : World) (hT : ff w) : Calls Tryz.prog 37 #[] w fun r w' => r = .returned (.bool true) ∧ Below w.heap.size w w' := by
 have hh := Hp.start w
 have hsh := fun w1 => jY (nR ((1 : Int) : Dyadic)) (-2) w1 (by decide +kernel) (by decide +kernel) (by decide +kernel) (by decide) (by decide)
 rw [eG, show ((1 : Int) : Dyadic) * cj (-2) = cj (-2) from Dyadic.one_mul _] at hsh
 refine aj (N := 113) (l := []) Tryz.func37 rfl rfl (by simp) ?_
 refine sr (aB (aa (sr ?_)))
 refine bf hh (cs := [_, _]) aK.out aE.out (aP rfl (aP rfl bO)) rfl rfl (by decide) (by decide) (by decide) rfl (by decide) ?_
 intro b16 w16 hh
 refine aM (cR [0, 4] _ _ _ (hh.aV (i := 0) rfl) (by decide) (by decide) (by decide)) ar.out rfl (by decide) ?_
 rintro e_ w17 ⟨Af1, af1, Bf1, bf1, rfl, h2⟩
 refine ⟨_, rfl, ?_⟩
 replace hh := hh.join h2
 clear h2
 have capf1 := hh.iL (i := 1) rfl
 refine aM (tn [0, 4] [0, 2] [2, 4] Af1 af1 Bf1 bf1 _ (hT.hp hh) (hh.dq (List.mem_of_getElem? (i := 0) rfl) (List.mem_of_getElem? (i := 1) rfl)) capf1 (by decide) (by decide) ⟨by kernel_rfl, by kernel_rfl, by kernel_rfl, by kernel_rfl, by kernel_rfl⟩) ar.out rfl (by decide) ?_
 rintro e_ w18 ⟨Ar1, ar1, Br1, br1, Ar2, ar2, Br2, br2, rfl, h2⟩
 refine ⟨_, rfl, ?_⟩
 replace hh := hh.join h2
 clear h2
 replace hh := hh.sub (List.Sublist.cons_cons _ (List.Sublist.cons_cons _ (List.Sublist.cons_cons _ (List.Sublist.cons_cons _ (List.Sublist.cons _ (List.Sublist.cons _ (List.Sublist.cons _ List.Sublist.slnil)))))))
 refine mT ?_
 refine dE ?_
 refine dE ?_
 refine dE ?_
 refine cd hh ?_
 intro b1 w1 hh
 refine cd hh ?_
 intro b2 w2 hh
 refine bK hh 1 [_,_] ?_
 intro ws hh
 replace hh : Hp _ (_ :: .blk _ _ [_, _] _ :: _) _ := hh
 refine bK hh 0 [_,_] ?_
 intro ws hh
 replace hh : Hp _ (.blk _ _ [_, _] _ :: _) _ := hh
 refine aI (aa (sr ?_))
 refine bf hh (cs := [_, _, _]) aK.out aE.out (aP rfl (aP rfl (aP rfl bO))) rfl rfl (by decide) (by decide) (by decide) rfl (by decide) ?_
 intro b23 w23 hh
 refine aM (cR [0, 0, 16] _ _ _ (hh.aV (i := 0) rfl) (by decide) (by decide) (by decide)) ar.out rfl (by decide) ?_
 rintro e_ w24 ⟨Af2, af2, Bf2, bf2, rfl, h2⟩
 refine ⟨_, rfl, ?_⟩
 replace hh := hh.join h2
 clear h2
 have capf2 := hh.iL (i := 1) rfl
 refine aM (tn [0, 0, 16] [0, 0, 4] [4, 16, 16] Af2 af2 Bf2 bf2 _ (hT.hp hh) (hh.dq (List.mem_of_getElem? (i := 0) rfl) (List.mem_of_getElem? (i := 1) rfl)) capf2 (by decide) (by decide) ⟨by kernel_rfl, by kernel_rfl, by kernel_rfl, by kernel_rfl, by kernel_rfl⟩) ar.out rfl (by decide) ?_
 rintro e_ w25 ⟨Ar4, ar4, Br4, br4, Ar5, ar5, Br5, br5, rfl, h2⟩
 refine ⟨_, rfl, ?_⟩
 replace hh := hh.join h2
 clear h2
 replace hh := hh.sub (List.Sublist.cons_cons _ (List.Sublist.cons_cons _ (List.Sublist.cons_cons _ (List.Sublist.cons_cons _ (List.Sublist.cons _ (List.Sublist.cons _ (List.Sublist.cons _ (List.Sublist.cons_cons _ (List.Sublist.cons_cons _ (List.Sublist.cons_cons _ (List.Sublist.cons_cons _ (List.Sublist.cons_cons _ (List.Sublist.cons_cons _ List.Sublist.slnil)))))))))))))
 refine mT ?_
 refine dE ?_
 refine dE ?_
 refine dE ?_
 refine cd hh ?_
 intro b4 w4 hh
 refine cd hh ?_
 intro b5 w5 hh
 refine bK hh 1 [_,_] ?_
 intro ws hh
 replace hh : Hp _ (_ :: .blk _ _ [_, _] _ :: _) _ := hh
 refine bK hh 0 [_,_] ?_
 intro ws hh
 replace hh : Hp _ (.blk _ _ [_, _] _ :: _) _ := hh
 refine aI (aa (sr ?_))
 refine bf hh (cs := [_, _]) aK.out aE.out (aP rfl (aP rfl bO)) rfl rfl (by decide) (by decide) (by decide) rfl (by decide) ?_
 intro b30 w30 hh
 refine aM (cR [0, 4] _ _ _ (hh.aV (i := 0) rfl) (by decide) (by decide) (by decide)) ar.out rfl (by decide) ?_
 rintro e_ w31 ⟨Af3, af3, Bf3, bf3, rfl, h2⟩
 refine ⟨_, rfl, ?_⟩
 replace hh := hh.join h2
 clear h2
 have capf3 := hh.iL (i := 1) rfl
 refine bG hh (kK 1 _ (by decide) (by decide)) rfl ?_
 intro w32 hh
 refine bG hh (hsh _) rfl ?_
 intro w33 hh
 refine aM (yV [0, 4] [0, 1] [1, 4] Af3 af3 Bf3 bf3 _ (hT.hp hh) (hh.dq (List.mem_of_getElem? (i := 0) rfl) (List.mem_of_getElem? (i := 1) rfl)) capf3 (by decide) (by decide) ⟨by kernel_rfl, by kernel_rfl, by kernel_rfl, by kernel_rfl, by kernel_rfl⟩) ar.out rfl (by decide) ?_
 rintro e_ w34 ⟨Ar7, ar7, Br7, br7, Ar8, ar8, Br8, br8, rfl, h2⟩
 refine ⟨_, rfl, ?_⟩
 replace hh := hh.join h2
 clear h2
 replace hh := hh.sub (List.Sublist.cons_cons _ (List.Sublist.cons_cons _ (List.Sublist.cons_cons _ (List.Sublist.cons_cons _ (List.Sublist.cons _ (List.Sublist.cons _ (List.Sublist.cons _ (List.Sublist.cons_cons _ (List.Sublist.cons_cons _ (List.Sublist.cons_cons _ (List.Sublist.cons_cons _ (List.Sublist.cons_cons _ (List.Sublist.cons_cons _ (List.Sublist.cons_cons _ (List.Sublist.cons_cons _ (List.Sublist.cons_cons _ (List.Sublist.cons_cons _ (List.Sublist.cons_cons _ (List.Sublist.cons_cons _ List.Sublist.slnil)))))))))))))))))))
 refine mT ?_
 refine dE ?_
 refine dE ?_
 refine dE ?_
 refine cd hh ?_
 intro b7 w7 hh
 refine cd hh ?_
 intro b8 w8 hh
 refine bK hh 1 [_,_] ?_
 intro ws hh
 replace hh : Hp _ (_ :: .blk _ _ [_, _] _ :: _) _ := hh
 refine bK hh 0 [_,_] ?_
 intro ws hh
 replace hh : Hp _ (.blk _ _ [_, _] _ :: _) _ := hh
 refine aI (aa (sr ?_))
 refine bf hh (cs := [_, _, _]) aK.out aE.out (aP rfl (aP rfl (aP rfl bO))) rfl rfl (by decide) (by decide) (by decide) rfl (by decide) ?_
 intro b39 w39 hh
 refine aM (cR [0, 0, 16] _ _ _ (hh.aV (i := 0) rfl) (by decide) (by decide) (by decide)) ar.out rfl (by decide) ?_
 rintro e_ w40 ⟨Af4, af4, Bf4, bf4, rfl, h2⟩
 refine ⟨_, rfl, ?_⟩
 replace hh := hh.join h2
 clear h2
 have capf4 := hh.iL (i := 1) rfl
 refine bf hh (cs := [_, _]) aK.out aE.out (aP rfl (aP rfl bO)) rfl rfl (by decide) (by decide) (by decide) rfl (by decide) ?_
 intro b41 w41 hh
 refine aM (yA [0, 0, 16] [4, 12, 9] [1, 0] Af4 af4 Bf4 bf4 _ _ _ (hT.hp hh) (hh.dq (List.mem_of_getElem? (i := 1) rfl) (List.mem_of_getElem? (i := 2) rfl)) capf4 (by decide) (by decide) (hh.aV (i := 0) rfl) (by decide) (by decide) ⟨by kernel_rfl, by kernel_rfl, by kernel_rfl⟩) ar.out rfl (by decide) ?_
 rintro e_ w42 ⟨Ar10, ar10, Br10, br10, rfl, h2⟩
 refine ⟨_, rfl, ?_⟩
 replace hh := hh.join h2
 clear h2
 replace hh := hh.sub (List.Sublist.cons_cons _ (List.Sublist.cons_cons _ (List.Sublist.cons _ (List.Sublist.cons _ (List.Sublist.cons _ (List.Sublist.cons _ (List.Sublist.cons_cons _ (List.Sublist.cons_cons _ (List.Sublist.cons_cons _ (List.Sublist.cons_cons _ (List.Sublist.cons_cons _ (List.Sublist.cons_cons _ (List.Sublist.cons_cons _ (List.Sublist.cons_cons _ (List.Sublist.cons_cons _ (List.Sublist.cons_cons _ (List.Sublist.cons_cons _ (List.Sublist.cons_cons _ (List.Sublist.cons_cons _ (List.Sublist.cons_cons _ (List.Sublist.cons_cons _ (List.Sublist.cons_cons _ (List.Sublist.cons_cons _ (List.Sublist.cons_cons _ List.Sublist.slnil))))))))))))))))))))))))
 refine mT ?_
 refine dE ?_
 refine dE ?_
 refine cd hh ?_
 intro b10 w10 hh
 refine bK hh 0 [_,_] ?_
 intro ws hh
 replace hh : Hp _ (.blk _ _ [_, _] _ :: _) _ := hh
 refine aI (aa (sr ?_))
 refine bG hh (kK 7 _ (by decide) (by decide)) rfl ?_
 intro w46 hh
 refine bf hh (cs := [_, _, _]) aK.out aE.out (aP (dR rfl) bO) rfl rfl (by decide) (by decide) (by decide) rfl (by decide) ?_
 intro b47 w47 hh
 refine fQ [_,_] ?_
 refine aM (su _ _ _ (hT.hp hh) (hh.aV (i := 0) rfl)) ar.out rfl (by decide) ?_
 rintro e_ w49 ⟨rfl, hb_⟩
 refine ⟨_, rfl, ?_⟩
 replace hh := hh.ext hb_
 replace hh := hh.sub (List.Sublist.cons _ (List.Sublist.cons_cons _ (List.Sublist.cons_cons _ (List.Sublist.cons_cons _ (List.Sublist.cons_cons _ (List.Sublist.cons_cons _ (List.Sublist.cons_cons _ (List.Sublist.cons_cons _ (List.Sublist.cons_cons _ (List.Sublist.cons_cons _ (List.Sublist.cons_cons _ (List.Sublist.cons_cons _ (List.Sublist.cons_cons _ (List.Sublist.cons_cons _ (List.Sublist.cons_cons _ (List.Sublist.cons_cons _ (List.Sublist.cons_cons _ (List.Sublist.cons_cons _ (List.Sublist.cons_cons _ (List.Sublist.cons_cons _ (List.Sublist.cons_cons _ (List.Sublist.cons_cons _ List.Sublist.slnil))))))))))))))))))))))
 refine mT ?_
 refine dE ?_
 refine dE ?_
 refine dE ?_
 refine cd hh ?_
 intro b12 w12 hh
 refine cd hh ?_
 intro b13 w13 hh
 refine bK hh 1 [_,_] ?_
 intro ws hh
 replace hh : Hp _ (_ :: .blk _ _ [_, _] _ :: _) _ := hh
 refine bK hh 0 [_,_] ?_
 intro ws hh
 replace hh : Hp _ (.blk _ _ [_, _] _ :: _) _ := hh
 refine aI (aa (ah ?_))
 replace hh := hh.sub (List.Sublist.cons _ (List.Sublist.cons _ (List.Sublist.cons_cons _ (List.Sublist.cons_cons _ (List.Sublist.cons_cons _ (List.Sublist.cons_cons _ (List.Sublist.cons_cons _ (List.Sublist.cons_cons _ (List.Sublist.cons_cons _ (List.Sublist.cons_cons _ (List.Sublist.cons_cons _ (List.Sublist.cons_cons _ (List.Sublist.cons_cons _ (List.Sublist.cons_cons _ (List.Sublist.cons_cons _ (List.Sublist.cons_cons _ (List.Sublist.cons_cons _ (List.Sublist.cons_cons _ (List.Sublist.cons_cons _ (List.Sublist.cons_cons _ (List.Sublist.cons_cons _ (List.Sublist.cons_cons _ (List.Sublist.cons_cons _ List.Sublist.slnil)))))))))))))))))))))))
 refine kM [] [] [0, 0, 2, 7, 15, 31, 31, 95, 255, 511, 1023, 2047, 4095, 8191, 16383, 32767, 32767, 98303, 262143, 524287, 1048575, 2097151, 2097151, 6291455, 16777215, 33554431, 67108863, 134217727, 268435455, 536870911, 1073741823, 2147483647, 2147483647, 6442450943, 17179869183, 34359738367, 68719476735, 137438953471, 137438953471, 412316860415, 1099511627775, 2199023255551, 4398046511103, 8796093022207, 17592186044415, 35184372088831, 70368744177663, 140737488355327, 140737488355327, 422212465065983, 1125899906842623, 2251799813685247, 4503599627370495, 9007199254740991, 18014398509481983, 36028797018963967, 72057594037927935, 144115188075855871, 288230376151711743, 576460752303423487, 1152921504606846975] 50 [[(1, none)], [], [(54, some 1)], [(53, some 0), (55, some 2)], [(56, some 3)], [(2, none), (57, some 4)], [(57, some 4)], [(59, some 6), (57, some 4)], [(58, some 5), (60, some 7), (57, some 4)], [(57, some 4), (61, some 8)], [(62, some 9)], [(3, none), (63, some 10)], [(64, some 11), (63, some 10)], [(63, some 10), (65, some 12)], [(66, some 13)], [(4, none), (67, some 14)], [(67, some 14)], [(69, some 16), (67, some 14)], [(68, some 15), (70, some 17), (67, some 14)], [(67, some 14), (71, some 18)], [(72, some 19)], [(5, none), (73, some 20)], [(73, some 20)], [(75, some 22), (73, some 20)], [(74, some 21), (76, some 23), (73, some 20)], [(73, some 20), (77, some 24)], [(78, some 25)], [(6, none), (79, some 26)], [(80, some 27), (79, some 26)], [(79, some 26), (81, some 28)], [(82, some 29)], [(7, none), (83, some 30)], [(83, some 30)], [(85, some 32), (83, some 30)], [(84, some 31), (86, some 33), (83, some 30)], [(83, some 30), (87, some 34)], [(88, some 35)], [(8, none), (89, some 36)], [(89, some 36)], [(91, some 38), (89, some 36)], [(90, some 37), (92, some 39), (89, some 36)], [(89, some 36), (93, some 40)], [(94, some 41)], [(9, none), (95, some 42)], [(96, some 43), (95, some 42)], [(95, some 42), (97, some 44)], [(98, some 45)], [(10, none), (99, some 46)], [(99, some 46)], [(101, some 48), (99, some 46)]] [(49, 102), (48, 101), (47, 100), (46, 99), (45, 98), (44, 97), (43, 96), (42, 95), (41, 94), (40, 93), (39, 92), (38, 91), (37, 90), (36, 89), (35, 88), (34, 87), (33, 86), (32, 85), (31, 84), (30, 83), (29, 82), (28, 81), (27, 80), (26, 79), (25, 78), (24, 77), (23, 76), (22, 75), (21, 74), (20, 73), (19, 72), (18, 71), (17, 70), (16, 69), (15, 68), (14, 67), (13, 66), (12, 65), (11, 64), (10, 63), (9, 62), (8, 61), (7, 60), (6, 59), (5, 58), (4, 57), (3, 56), (2, 55), (1, 54), (0, 53)] hh mixed (by kernel_rfl) mv rfl (by repeat (first | exact ig | refine fS ?_ | refine ie ?_)) ?_
 refine fF 16 [_,_] ?_
 refine uV [_,_] ?_
 refine bM (i := 2) (da [0, 2]) (da.ext) ?_ ?_
 ·intro ρ1 w1 hj hR
  obtain ⟨A54, c54, h54, s54⟩ := hR.1
  exact let ⟨A, c, e1, s1⟩ := hR.1; bP rfl (bF ar.out (aF e1 bz)) (cR [0, 2] A c w1 s1 (by decide) (by decide) (by decide)) (fun _ _ ⟨A2, a2, B2, b2, q1, q2⟩ => ⟨_, q1, q2.below, fu [0, 2] A2 a2 B2 b2, rfl, rfl, rfl, q2.dq List.mem_cons_self (List.mem_cons_of_mem _ List.mem_cons_self)⟩)
 refine bM (i := 3) (Is (.bool true)) (Is.ext) ?_ ?_
 ·intro ρ1 w1 hj hR
  exact let ⟨g, e1, e2, e3, e4⟩ := hR.2.1; bP rfl (bF ar.out (aF (show ρ1 53 = Value.agg (List.toArray _) from hR.1) (aF e1 bz))) (cN (fu [0, 2] Ar1 ar1 Br1 br1) g w1 (hj.hp.dq (List.mem_of_getElem? (i := 20) rfl) (List.mem_of_getElem? (i := 19) rfl)) e4 ⟨e2.symm, e3.symm⟩ (Nat.le_of_ble_eq_true rfl) (Nat.le_of_ble_eq_true rfl)) (fun _ _ ⟨q1, q2⟩ => ⟨_, q1, q2, rfl⟩)
 refine vM ?_
 first | refine dS ?_ | refine dU ?_ | refine dG (fF 15 [_,_] ?_)
 refine cE (i := 6) (cs := [_, _]) rfl (fun ρ1 w1 hj hR => (show ρ1 57 = Value.bool _ from hR.1)) aK.out aE.out (fun ρ1 w1 hj hR => (aP rfl (aP rfl bO))) rfl rfl (by decide) (by decide) rfl ?_
 refine bM (i := 7) (da [2, 4]) (da.ext) ?_ ?_
 ·intro ρ1 w1 hj hR
  obtain ⟨A59, c59, h59, s59⟩ := hR.1
  exact let ⟨A, c, e1, s1⟩ := hR.1; bR rfl (show ρ1 57 = Value.bool _ from hR.2.1) (bP rfl (bF ar.out (aF e1 bz)) (cR [2, 4] A c w1 s1 (by decide) (by decide) (by decide)) (fun _ _ ⟨A2, a2, B2, b2, q1, q2⟩ => ⟨_, q1, q2.below, fu [2, 4] A2 a2 B2 b2, rfl, rfl, rfl, q2.dq List.mem_cons_self (List.mem_cons_of_mem _ List.mem_cons_self)⟩))
 refine bM (i := 8) (Is (.bool true)) (Is.ext) ?_ ?_
 ·intro ρ1 w1 hj hR
  exact let ⟨g, e1, e2, e3, e4⟩ := hR.2.1; bR rfl (show ρ1 57 = Value.bool _ from hR.2.2.1) (bP rfl (bF ar.out (aF (show ρ1 58 = Value.agg (List.toArray _) from hR.1) (aF e1 bz))) (cN (fu [2, 4] Ar2 ar2 Br2 br2) g w1 (hj.hp.dq (List.mem_of_getElem? (i := 17) rfl) (List.mem_of_getElem? (i := 18) rfl)) e4 ⟨e2.symm, e3.symm⟩ (Nat.le_of_ble_eq_true rfl) (Nat.le_of_ble_eq_true rfl)) (fun _ _ ⟨q1, q2⟩ => ⟨_, q1, q2, rfl⟩))
 first | refine wN ?_ | refine dpF ?_
 refine vM ?_
 first | refine dS ?_ | refine dU ?_ | refine dG (fg ?_)
 first | refine dS ?_ | refine dU ?_ | refine dG (wY ?_)
 first | refine wN ?_ | refine dpF ?_
 refine vM ?_
 first | refine dS ?_ | refine dU ?_ | refine dG (fF 10 [_,_] ?_)
 refine cE (i := 16) (cs := [_, _, _]) rfl (fun ρ1 w1 hj hR => (show ρ1 67 = Value.bool _ from hR.1)) aK.out aE.out (fun ρ1 w1 hj hR => (aP rfl (aP rfl (aP rfl bO)))) rfl rfl (by decide) (by decide) rfl ?_
 refine bM (i := 17) (da [0, 0, 4]) (da.ext) ?_ ?_
 ·intro ρ1 w1 hj hR
  obtain ⟨A69, c69, h69, s69⟩ := hR.1
  exact let ⟨A, c, e1, s1⟩ := hR.1; bR rfl (show ρ1 67 = Value.bool _ from hR.2.1) (bP rfl (bF ar.out (aF e1 bz)) (cR [0, 0, 4] A c w1 s1 (by decide) (by decide) (by decide)) (fun _ _ ⟨A2, a2, B2, b2, q1, q2⟩ => ⟨_, q1, q2.below, fu [0, 0, 4] A2 a2 B2 b2, rfl, rfl, rfl, q2.dq List.mem_cons_self (List.mem_cons_of_mem _ List.mem_cons_self)⟩))
 refine bM (i := 18) (Is (.bool true)) (Is.ext) ?_ ?_
 ·intro ρ1 w1 hj hR
  exact let ⟨g, e1, e2, e3, e4⟩ := hR.2.1; bR rfl (show ρ1 67 = Value.bool _ from hR.2.2.1) (bP rfl (bF ar.out (aF (show ρ1 68 = Value.agg (List.toArray _) from hR.1) (aF e1 bz))) (cN (fu [0, 0, 4] Ar4 ar4 Br4 br4) g w1 (hj.hp.dq (List.mem_of_getElem? (i := 14) rfl) (List.mem_of_getElem? (i := 13) rfl)) e4 ⟨e2.symm, e3.symm⟩ (Nat.le_of_ble_eq_true rfl) (Nat.le_of_ble_eq_true rfl)) (fun _ _ ⟨q1, q2⟩ => ⟨_, q1, q2, rfl⟩))
 first | refine wN ?_ | refine dpF ?_
 refine vM ?_
 first | refine dS ?_ | refine dU ?_ | refine dG (fF 9 [_,_] ?_)
 refine cE (i := 22) (cs := [_, _, _]) rfl (fun ρ1 w1 hj hR => (show ρ1 73 = Value.bool _ from hR.1)) aK.out aE.out (fun ρ1 w1 hj hR => (aP rfl (aP rfl (aP rfl bO)))) rfl rfl (by decide) (by decide) rfl ?_
 refine bM (i := 23) (da [4, 16, 16]) (da.ext) ?_ ?_
 ·intro ρ1 w1 hj hR
  obtain ⟨A75, c75, h75, s75⟩ := hR.1
  exact let ⟨A, c, e1, s1⟩ := hR.1; bR rfl (show ρ1 73 = Value.bool _ from hR.2.1) (bP rfl (bF ar.out (aF e1 bz)) (cR [4, 16, 16] A c w1 s1 (by decide) (by decide) (by decide)) (fun _ _ ⟨A2, a2, B2, b2, q1, q2⟩ => ⟨_, q1, q2.below, fu [4, 16, 16] A2 a2 B2 b2, rfl, rfl, rfl, q2.dq List.mem_cons_self (List.mem_cons_of_mem _ List.mem_cons_self)⟩))
 refine bM (i := 24) (Is (.bool true)) (Is.ext) ?_ ?_
 ·intro ρ1 w1 hj hR
  exact let ⟨g, e1, e2, e3, e4⟩ := hR.2.1; bR rfl (show ρ1 73 = Value.bool _ from hR.2.2.1) (bP rfl (bF ar.out (aF (show ρ1 74 = Value.agg (List.toArray _) from hR.1) (aF e1 bz))) (cN (fu [4, 16, 16] Ar5 ar5 Br5 br5) g w1 (hj.hp.dq (List.mem_of_getElem? (i := 11) rfl) (List.mem_of_getElem? (i := 12) rfl)) e4 ⟨e2.symm, e3.symm⟩ (Nat.le_of_ble_eq_true rfl) (Nat.le_of_ble_eq_true rfl)) (fun _ _ ⟨q1, q2⟩ => ⟨_, q1, q2, rfl⟩))
 first | refine wN ?_ | refine dpF ?_
 refine vM ?_
 first | refine dS ?_ | refine dU ?_ | refine dG (fg ?_)
 first | refine dS ?_ | refine dU ?_ | refine dG (wY ?_)
 first | refine wN ?_ | refine dpF ?_
 refine vM ?_
 first | refine dS ?_ | refine dU ?_ | refine dG (fF 4 [_,_] ?_)
 refine cE (i := 32) (cs := [_, _]) rfl (fun ρ1 w1 hj hR => (show ρ1 83 = Value.bool _ from hR.1)) aK.out aE.out (fun ρ1 w1 hj hR => (aP rfl (aP rfl bO))) rfl rfl (by decide) (by decide) rfl ?_
 refine bM (i := 33) (da [0, 1]) (da.ext) ?_ ?_
 ·intro ρ1 w1 hj hR
  obtain ⟨A85, c85, h85, s85⟩ := hR.1
  exact let ⟨A, c, e1, s1⟩ := hR.1; bR rfl (show ρ1 83 = Value.bool _ from hR.2.1) (bP rfl (bF ar.out (aF e1 bz)) (cR [0, 1] A c w1 s1 (by decide) (by decide) (by decide)) (fun _ _ ⟨A2, a2, B2, b2, q1, q2⟩ => ⟨_, q1, q2.below, fu [0, 1] A2 a2 B2 b2, rfl, rfl, rfl, q2.dq List.mem_cons_self (List.mem_cons_of_mem _ List.mem_cons_self)⟩))
 refine bM (i := 34) (Is (.bool true)) (Is.ext) ?_ ?_
 ·intro ρ1 w1 hj hR
  exact let ⟨g, e1, e2, e3, e4⟩ := hR.2.1; bR rfl (show ρ1 83 = Value.bool _ from hR.2.2.1) (bP rfl (bF ar.out (aF (show ρ1 84 = Value.agg (List.toArray _) from hR.1) (aF e1 bz))) (cN (fu [0, 1] Ar7 ar7 Br7 br7) g w1 (hj.hp.dq (List.mem_of_getElem? (i := 8) rfl) (List.mem_of_getElem? (i := 7) rfl)) e4 ⟨e2.symm, e3.symm⟩ (Nat.le_of_ble_eq_true rfl) (Nat.le_of_ble_eq_true rfl)) (fun _ _ ⟨q1, q2⟩ => ⟨_, q1, q2, rfl⟩))
 first | refine wN ?_ | refine dpF ?_
 refine vM ?_
 first | refine dS ?_ | refine dU ?_ | refine dG (fF 3 [_,_] ?_)
 refine cE (i := 38) (cs := [_, _]) rfl (fun ρ1 w1 hj hR => (show ρ1 89 = Value.bool _ from hR.1)) aK.out aE.out (fun ρ1 w1 hj hR => (aP rfl (aP rfl bO))) rfl rfl (by decide) (by decide) rfl ?_
 refine bM (i := 39) (da [1, 4]) (da.ext) ?_ ?_
 ·intro ρ1 w1 hj hR
  obtain ⟨A91, c91, h91, s91⟩ := hR.1
  exact let ⟨A, c, e1, s1⟩ := hR.1; bR rfl (show ρ1 89 = Value.bool _ from hR.2.1) (bP rfl (bF ar.out (aF e1 bz)) (cR [1, 4] A c w1 s1 (by decide) (by decide) (by decide)) (fun _ _ ⟨A2, a2, B2, b2, q1, q2⟩ => ⟨_, q1, q2.below, fu [1, 4] A2 a2 B2 b2, rfl, rfl, rfl, q2.dq List.mem_cons_self (List.mem_cons_of_mem _ List.mem_cons_self)⟩))
 refine bM (i := 40) (Is (.bool true)) (Is.ext) ?_ ?_
 ·intro ρ1 w1 hj hR
  exact let ⟨g, e1, e2, e3, e4⟩ := hR.2.1; bR rfl (show ρ1 89 = Value.bool _ from hR.2.2.1) (bP rfl (bF ar.out (aF (show ρ1 90 = Value.agg (List.toArray _) from hR.1) (aF e1 bz))) (cN (fu [1, 4] Ar8 ar8 Br8 br8) g w1 (hj.hp.dq (List.mem_of_getElem? (i := 5) rfl) (List.mem_of_getElem? (i := 6) rfl)) e4 ⟨e2.symm, e3.symm⟩ (Nat.le_of_ble_eq_true rfl) (Nat.le_of_ble_eq_true rfl)) (fun _ _ ⟨q1, q2⟩ => ⟨_, q1, q2, rfl⟩))
 first | refine wN ?_ | refine dpF ?_
 refine vM ?_
 first | refine dS ?_ | refine dU ?_ | refine dG (fg ?_)
 first | refine dS ?_ | refine dU ?_ | refine dG (wY ?_)
 first | refine wN ?_ | refine dpF ?_
 refine vM ?_
 first | refine dS ?_ | refine dU ?_ | refine dG (fF 0 [_,_] ?_)
 refine cE (i := 48) (cs := [_, _, _]) rfl (fun ρ1 w1 hj hR => (show ρ1 99 = Value.bool _ from hR.1)) aK.out aE.out (fun ρ1 w1 hj hR => (aP rfl (aP rfl (aP rfl bO)))) rfl rfl (by decide) (by decide) rfl ?_
 refine bM (i := 49) (da [4, 12, 9]) (da.ext) ?_ ?_
 ·intro ρ1 w1 hj hR
  obtain ⟨A101, c101, h101, s101⟩ := hR.1
  exact let ⟨A, c, e1, s1⟩ := hR.1; bR rfl (show ρ1 99 = Value.bool _ from hR.2.1) (bP rfl (bF ar.out (aF e1 bz)) (cR [4, 12, 9] A c w1 s1 (by decide) (by decide) (by decide)) (fun _ _ ⟨A2, a2, B2, b2, q1, q2⟩ => ⟨_, q1, q2.below, fu [4, 12, 9] A2 a2 B2 b2, rfl, rfl, rfl, q2.dq List.mem_cons_self (List.mem_cons_of_mem _ List.mem_cons_self)⟩))
 refine bp ?_
 intro f W hJ hV _
 have hb_6 := hJ.bl
 obtain ⟨v102, v101, v100, v99, v98, v97, v96, v95, v94, v93, v92, v91, v90, v89, v88, v87, v86, v85, v84, v83, v82, v81, v80, v79, v78, v77, v76, v75, v74, v73, v72, v71, v70, v69, v68, v67, v66, v65, v64, v63, v62, v61, v60, v59, v58, v57, v56, v55, v54, v53, _⟩ := hV
 obtain ⟨A54, c54, e54, f54⟩ : Rows _ _ _ (f 1) W := v54
 obtain ⟨g55, e55, o55⟩ : da [0, 2] (f 2) W := v55
 obtain ⟨A59, c59, e59, f59⟩ : Rows _ _ _ (f 6) W := v59
 obtain ⟨g60, e60, o60⟩ : da [2, 4] (f 7) W := v60
 obtain ⟨A69, c69, e69, f69⟩ : Rows _ _ _ (f 16) W := v69
 obtain ⟨g70, e70, o70⟩ : da [0, 0, 4] (f 17) W := v70
 obtain ⟨A75, c75, e75, f75⟩ : Rows _ _ _ (f 22) W := v75
 obtain ⟨g76, e76, o76⟩ : da [4, 16, 16] (f 23) W := v76
 obtain ⟨A85, c85, e85, f85⟩ : Rows _ _ _ (f 32) W := v85
 obtain ⟨g86, e86, o86⟩ : da [0, 1] (f 33) W := v86
 obtain ⟨A91, c91, e91, f91⟩ : Rows _ _ _ (f 38) W := v91
 obtain ⟨g92, e92, o92⟩ : da [1, 4] (f 39) W := v92
 obtain ⟨A101, c101, e101, f101⟩ : Rows _ _ _ (f 48) W := v101
 obtain ⟨g102, e102, o102⟩ : da [4, 12, 9] (f 49) W := v102
 replace hh := hJ.hp
 refine a6 (bq (ae e102 (ae e101 (ae v100 (ae v99 (ae v98 (ae v97 (ae v96 (ae v95 (ae v94 (ae v93 (ae e92 (ae e91 (ae v90 (ae v89 (ae v88 (ae v87 (ae e86 (ae e85 (ae v84 (ae v83 (ae v82 (ae v81 (ae v80 (ae v79 (ae v78 (ae v77 (ae e76 (ae e75 (ae v74 (ae v73 (ae v72 (ae v71 (ae e70 (ae e69 (ae v68 (ae v67 (ae v66 (ae v65 (ae v64 (ae v63 (ae v62 (ae v61 (ae e60 (ae e59 (ae v58 (ae v57 (ae v56 (ae e55 (ae e54 (ae v53 a0))))))))))))))))))))))))))))))))))))))))))))))))))) ?_
 dsimp only [cz]
 clear e54 e55 e59 e60 e69 e70 e75 e76 e85 e86 e91 e92 e101 e102 hJ
 refine aY rfl rfl ?_
 refine bG hh (cN (fu [4, 12, 9] Ar10 ar10 Br10 br10) g102 _ (hh.dq (List.mem_of_getElem? (i := 1) rfl) (List.mem_of_getElem? (i := 2) rfl)) o102.2.2 ⟨o102.1.symm, o102.2.1.symm⟩ (Nat.le_of_ble_eq_true rfl) (Nat.le_of_ble_eq_true rfl)) rfl ?_
 intro w103 hh
 first | refine dk ?_ | refine dm ?_
 refine mB ?_
 first | refine gS ?_ | (refine gT ?_; refine mI ?_) | refine gV ?_
 first | refine gS ?_ | (refine gT ?_; refine dH ?_) | refine gV ?_
 first | refine dk ?_ | refine dm ?_
 refine mB ?_
 first | refine gS ?_ | (refine gT ?_; refine mI ?_) | refine gV ?_
 first | refine gS ?_ | (refine gT ?_; refine dH ?_) | refine gV ?_
 first | refine dk ?_ | refine dm ?_
 refine aB (aa (aq ?_))
 refine cu ?_
 exact ⟨rfl, hh.below⟩
end Go.Proofs.YtioilmppidlbnaaGreatDoor
/- What a call hands back stays, whatever is written to one's own blocks. Plain lemmas, no program in sight. -/
namespace Go.Proofs.YtioilmppidlbnaaGreatDoor
open Go.RowKit
end Go.Proofs.YtioilmppidlbnaaGreatDoor
/- The walk through the law CastCuts. -/
namespace Go.Proofs.YtioilmppidlbnaaGreatDoor
open Go.RowKit
def zh (base : Nat) (E : Int) (D : List Nat) (ys : List Dyadic) : VP := fun v W => ∃ g : FX, v = .agg #[.slice g.A g.n g.a, .slice g.B g.m g.b] ∧ Out E D ys g ∧ ∃ w2 : World, base ≤ w2.heap.size ∧ Hp w2 [g.fY, g.fN] W
def zu (base : Nat) (E : Int) (D : List Nat) (ys zs : List Dyadic) : VP := fun v W => ∃ g h : FX, v = .tuple #[.agg #[.slice g.A g.n g.a, .slice g.B g.m g.b], .agg #[.slice h.A h.n h.a, .slice h.B h.m h.b], .int .i64 E] ∧ Out E D ys g ∧ Out E D zs h ∧ ∃ w2 : World, base ≤ w2.heap.size ∧ Hp w2 [h.fY, h.fN, g.fN, g.fY] W
theorem kU {f : FX} (h : f.mf) (h0 : f.e = 0) : ∀ d ∈ f.ns, d ≤ 6 := fun d hd => by
 obtain ⟨hdeg, -, -, hlow, -, -⟩ := FX.fv h0
 have h1 := hlow d hd
 have h2 := h.2.2.2 (d : Int) (by rw [hdeg]; unfold cx; exact List.mem_map_of_mem hd)
 omega
theorem pD {c : NR} (h : mu c = false) : nY 125 c c.d ∧ Sz 125 (1 - c.d) := by
 have h' := of_decide_eq_false h
 obtain ⟨h1, h2⟩ := yw h
 exact ⟨⟨h1, by omega, rfl, h2.mono (by omega)⟩, (Sz.one.mono (show 1 ≤ 124 by omega)).sub h2⟩
theorem ux {f : FX} (h : f.mf) (k q : Nat) (hk : k + 120 * (260 + 2 * (q * 6)) ≤ 300000) : f.e = 0 → ∀ d ∈ f.ns, k + f.m * (260 + 2 * (q * d)) ≤ 300000 := fun h0 d hd => by
 have h1 : q * d ≤ q * 6 := Nat.mul_le_mul_left _ (kU h h0 d hd)
 have h2 : f.m * (260 + 2 * (q * d)) ≤ 120 * (260 + 2 * (q * 6)) := Nat.mul_le_mul h.2.1 (by omega)
 omega
end Go.Proofs.YtioilmppidlbnaaGreatDoor
/- The walk through the law CastOrder. -/
namespace Go.Proofs.YtioilmppidlbnaaGreatDoor
open Go.RowKit
theorem jc {u v : Bool} {s t : Dyadic} {D : List Nat} {i j : Nat} (xs : List Dyadic) (hi : i < D.length) (hj : j < D.length) (h : i ≠ j) : ec u t D j (ec v s D i xs) = ec v s D i (ec u t D j xs) := by
 unfold ec
 exact qL (by omega) _ _ _
theorem gI (fa : FX) (hs : fa.mf) (up : Bool) (ax ay : Int) (hx : ek fa ax = 0) (hy : ek fa ay = 0) (c e : NR) (vs : nY 125 c c.d) (hs1 : Sz 125 (1 - c.d)) (vt : nY 125 e e.d) (ht1 : Sz 125 (1 - e.d)) (g : FX) (w : World) (hT : ff w)
  (o : Out 0 fa.ns (ec up c.d fa.ns ax.toNat (fa.cs.map NR.d)) g) (hg : g.at_ w) (hcap : g.n ≤ g.a) (hf : fa.ds.length = fa.n ∧ fa.cs.length = fa.m) :
  Calls Tryz.prog 38 #[.agg #[.slice g.A g.n g.a, .slice g.B g.m g.b], .int .i64 ay, .agg #[.bool e.neg, .string e.bD, .int .i64 e.e]] w fun r w' => ∃ p q : FX, Out 0 fa.ns (ec false e.d fa.ns ay.toNat (ec up c.d fa.ns ax.toNat (fa.cs.map NR.d))) p ∧ Out 0 fa.ns (ec true e.d fa.ns ay.toNat (ec up c.d fa.ns ax.toNat (fa.cs.map NR.d))) q ∧
   r = .returned (.tuple #[.agg #[.slice p.A p.n p.a, .slice p.B p.m p.b], .agg #[.slice q.A q.n q.a, .slice q.B q.m q.b], .int .i64 0]) ∧ Hp w [q.fY, q.fN, p.fN, p.fY] w' := by
 obtain ⟨h0, hx0, hx1⟩ := gk hx
 obtain ⟨-, hy0, hy1⟩ := gk hy
 obtain ⟨hdeg, hnum, h12, hlow, hcnt, hmax⟩ := FX.fv h0
 have hnl : fa.ns.length = fa.n := by unfold FX.ns; rw [List.length_map]; exact hf.1
 have hyl : (ec up c.d fa.ns ax.toNat (fa.cs.map NR.d)).length = aC fa.ns := lQ _ _ _ _ _
 obtain ⟨e1, e2, e3⟩ := xx o h12 hlow hyl hmax
 have hgl := hg.ln
 have gn : g.n = fa.n := by rw [← hgl.1, o.ds]; show (cx fa.ns).length = _; rw [kh, hnl]
 have gm : g.m = fa.m := by rw [← hgl.2, o.cs]; show ((ec up c.d fa.ns ax.toNat (fa.cs.map NR.d)).map nR).length = _; rw [List.length_map, hyl, ← hcnt, hf.2]
 have hsz := r6 (up := up) (a := ax.toNat) (k := 124) (D := 6) (xs := fa.cs.map NR.d) (by omega) (kU hs h0) (by decide) (by rw [List.length_map, hcnt]) vs.sz hs1 fun x h => by
  obtain ⟨z, hz, rfl⟩ := List.mem_map.1 h
  exact (hs.1.num z hz).2
 have hlim : g.rI 1884 := ⟨by rw [gn]; exact hs.1.xU, by rw [gm]; exact hs.1.yg, fun z hz => by
  rw [o.cs] at hz
  obtain ⟨y, hy, rfl⟩ := List.mem_map.1 (show z ∈ (ec up c.d fa.ns ax.toNat (fa.cs.map NR.d)).map nR from hz)
  have := hsz y hy
  exact ⟨this.ok (by decide), by rw [eG]; exact this⟩⟩
 have hk : g.e = 0 → ∀ d ∈ g.ns, 1884 + g.m * (260 + 2 * (125 * d)) ≤ 300000 := fun _ d hd => by
  rw [e2] at hd
  have h1 := kU hs h0 d hd
  have h2 : g.m * (260 + 2 * (125 * d)) ≤ 120 * (260 + 2 * (125 * 6)) := Nat.mul_le_mul (by rw [gm]; exact hs.2.1) (by omega)
  omega
 have hE : ek g ay = 0 := by
  unfold ek
  rw [if_neg (fun h => h e1), if_neg (by rw [gn]; omega)]
 have := oE g ay e e.d 1884 125 w hT hg hlim hcap vt ht1 (by decide) hk
 rw [hE, e2, e3] at this
 exact this
theorem lp (fa : FX) (ax ay : Int) (c e : NR) (w : World) (hT : ff w) (hf : fa.at_ w) (hcap : fa.n ≤ fa.a) :
  Calls Tryz.prog 9 #[.agg #[.slice fa.A fa.n fa.a, .slice fa.B fa.m fa.b], .int .i64 ax, .int .i64 ay, .agg #[.bool c.neg, .string c.bD, .int .i64 c.e], .agg #[.bool e.neg, .string e.bD, .int .i64 e.e]] w fun r w' => r = .returned (.bool true) ∧ Below w.heap.size w w' := by
 have hh := Hp.start w
 refine aj (N := 135) (l := [.agg #[.slice fa.A fa.n fa.a, .slice fa.B fa.m fa.b], .int .i64 ax, .int .i64 ay, .agg #[.bool c.neg, .string c.bD, .int .i64 c.e], .agg #[.bool e.neg, .string e.bD, .int .i64 e.e]]) Tryz.func9 rfl rfl (by simp) ?_
 refine sr ?_
 refine cY hh [_,_] ?_
 intro b5 w5 hh
 refine cY hh [_,_,_] ?_
 intro b8 w8 hh
 refine cY hh [_,_,_] ?_
 intro b9 w9 hh
 refine aB (aa (ah (sr ?_)))
 refine cU hh 2 [_,_] ?_
 refine aM (n8 fa _ (hf.ext hh.below)) ar.out rfl (by decide) ?_
 rintro e_ w30 ⟨p1, rfl, hs, hb_⟩
 refine ⟨_, rfl, ?_⟩
 replace hh := hh.ext hb_
 cases p1 with
 | true =>
  refine mB ?_
  first | refine gS ?_ | (refine gT ?_; refine cU hh 1 [_,_,_] ?_) | refine gV ?_
  first | refine bV (by decide) rfl rfl (by decide) ?_ | refine wl_guard_skipV (by decide) rfl rfl ?_
  first | refine dk ?_ | refine dm ?_
  refine mB ?_
  first | refine gS ?_ | (refine gT ?_; refine cU hh 0 [_,_,_] ?_) | refine gV ?_
  first | refine bV (by decide) rfl rfl (by decide) ?_ | refine wl_guard_skipV (by decide) rfl rfl ?_
  first | refine dk ?_ | refine dm ?_
  refine mB ?_
  first | refine gS ?_ | (refine gT ?_; refine mI ?_) | refine gV ?_
  first | refine gS ?_ | (refine gT ?_; refine mI ?_) | refine gV ?_
  first | refine gS ?_ | (refine gT ?_; refine dH ?_) | refine gV ?_
  first | refine dk ?_ | refine dm ?_
  refine aa (cT (sr ?_))
  refine bG hh (dQ _ (hT.hp hh)) rfl ?_
  intro w44 hh
  refine aB (aa (aq (a7 ?_)))
  refine cu ?_
  exact ⟨rfl, hh.below⟩
 | false =>
  have hs := hs rfl
  have hfc := fun w1 => jx c w1
  refine mB ?_
  first | refine gS ?_ | (refine gT ?_; refine cU hh 1 [_,_,_] ?_) | refine gV ?_
  cases hfr : mu c with
  | true =>
   rw [hfr] at hfc
   refine aY rfl rfl ?_
   refine bG hh (hfc _) rfl ?_
   intro w33 hh
   first | refine dk ?_ | refine dm ?_
   refine mB ?_
   first | refine gS ?_ | (refine gT ?_; refine cU hh 0 [_,_,_] ?_) | refine gV ?_
   first | refine bV (by decide) rfl rfl (by decide) ?_ | refine wl_guard_skipV (by decide) rfl rfl ?_
   first | refine dk ?_ | refine dm ?_
   refine mB ?_
   first | refine gS ?_ | (refine gT ?_; refine mI ?_) | refine gV ?_
   first | refine gS ?_ | (refine gT ?_; refine mI ?_) | refine gV ?_
   first | refine gS ?_ | (refine gT ?_; refine dH ?_) | refine gV ?_
   first | refine dk ?_ | refine dm ?_
   refine aa (cT (sr ?_))
   refine bG hh (dQ _ (hT.hp hh)) rfl ?_
   intro w44 hh
   refine aB (aa (aq (a7 ?_)))
   refine cu ?_
   exact ⟨rfl, hh.below⟩
  | false =>
   rw [hfr] at hfc
   obtain ⟨vs, hs1⟩ := pD hfr
   have hfe := fun w1 => jx e w1
   refine aY rfl rfl ?_
   refine bG hh (hfc _) rfl ?_
   intro w33 hh
   first | refine dk ?_ | refine dm ?_
   refine mB ?_
   first | refine gS ?_ | (refine gT ?_; refine cU hh 0 [_,_,_] ?_) | refine gV ?_
   cases hfr2 : mu e with
   | true =>
    rw [hfr2] at hfe
    refine aY rfl rfl ?_
    refine bG hh (hfe _) rfl ?_
    intro w37 hh
    first | refine dk ?_ | refine dm ?_
    refine mB ?_
    first | refine gS ?_ | (refine gT ?_; refine mI ?_) | refine gV ?_
    first | refine gS ?_ | (refine gT ?_; refine mI ?_) | refine gV ?_
    first | refine gS ?_ | (refine gT ?_; refine dH ?_) | refine gV ?_
    first | refine dk ?_ | refine dm ?_
    refine aa (cT (sr ?_))
    refine bG hh (dQ _ (hT.hp hh)) rfl ?_
    intro w44 hh
    refine aB (aa (aq (a7 ?_)))
    refine cu ?_
    exact ⟨rfl, hh.below⟩
   | false =>
    rw [hfr2] at hfe
    obtain ⟨vt, ht1⟩ := pD hfr2
    refine aY rfl rfl ?_
    refine bG hh (hfe _) rfl ?_
    intro w37 hh
    by_cases hxy : ax = ay
    ·first | refine dk ?_ | refine dm ?_
     refine mB ?_
     first | refine gS ?_ | (refine gT ?_; refine mI ?_) | refine gV ?_
     first | refine gS ?_ | (refine gT ?_; refine mI ?_) | refine gV ?_
     first | refine gS ?_ | (refine gT ?_; refine dH ?_) | refine gV ?_
     first | refine dk ?_ | refine dm ?_
     refine aa (cT (sr ?_))
     refine bG hh (dQ _ (hT.hp hh)) rfl ?_
     intro w44 hh
     refine aB (aa (aq (a7 ?_)))
     refine cu ?_
     exact ⟨rfl, hh.below⟩
    ·obtain ⟨hsl, hsm, hsn, hsd⟩ := id hs
     have hk := ux hs 124 125 (by decide)
     have hc1 := fun w1 hT1 hb => oE fa ax c c.d 124 125 w1 hT1 (hf.ext hb) hsl hcap vs hs1 (by decide) hk
     have hc2 := fun w1 hT1 hb => oE fa ay e e.d 124 125 w1 hT1 (hf.ext hb) hsl hcap vt ht1 (by decide) hk
     have hln := hf.ln
     first | refine dk ?_ | refine dm ?_
     refine mB ?_
     first | refine gS ?_ | (refine gT ?_; refine mI ?_) | refine gV ?_
     first | refine gS ?_ | (refine gT ?_; refine mI ?_) | refine gV ?_
     first | refine gS ?_ | (refine gT ?_; refine dH ?_) | refine gV ?_
     first | refine dk ?_ | refine dm ?_
     refine aa (cF (al (ai (sr ?_))))
     refine cU hh 2 [_,_] (mI ?_)
     refine cU hh 1 [_,_,_] ?_
     refine aM (hc1 _ (hT.hp hh) hh.below) ar.out rfl (by decide) ?_
     rintro e_ w49 ⟨ga, gb, oga, ogb, rfl, h2⟩
     refine ⟨_, rfl, ?_⟩
     replace hh := hh.join h2
     simp only [List.cons_append, List.nil_append] at hh
     clear h2
     refine mT ?_
     refine dE ?_
     refine dE ?_
     refine dE ?_
     refine cd hh ?_
     intro b11 w11 hh
     refine cd hh ?_
     intro b12 w12 hh
     refine bK hh 1 [_,_] ?_
     intro ws hh
     replace hh : Hp _ (_ :: .blk _ _ [_, _] _ :: _) _ := hh
     refine bK hh 0 [_,_] ?_
     intro ws hh
     replace hh : Hp _ (.blk _ _ [_, _] _ :: _) _ := hh
     refine aI (aa (sr ?_))
     refine cU hh 8 [_,_] (mI ?_)
     refine cU hh 6 [_,_,_] ?_
     refine aM (hc2 _ (hT.hp hh) hh.below) ar.out rfl (by decide) ?_
     rintro e_ w57 ⟨gc, gd, ogc, ogd, rfl, h2⟩
     refine ⟨_, rfl, ?_⟩
     replace hh := hh.join h2
     simp only [List.cons_append, List.nil_append] at hh
     clear h2
     by_cases hE1 : ek fa ax = 0
     ·by_cases hE2 : ek fa ay = 0
      ·obtain ⟨h0, hx0, hx1⟩ := gk hE1
       obtain ⟨-, hy0, hy1⟩ := gk hE2
       have hnl : fa.ns.length = fa.n := by unfold FX.ns; rw [List.length_map]; exact hln.1
       have swff := jc (u := false) (v := false) (s := c.d) (t := e.d) (D := fa.ns) (i := ax.toNat) (j := ay.toNat) (fa.cs.map NR.d) (by omega) (by omega) (by omega)
       have swft := jc (u := false) (v := true) (s := c.d) (t := e.d) (D := fa.ns) (i := ax.toNat) (j := ay.toNat) (fa.cs.map NR.d) (by omega) (by omega) (by omega)
       have swtf := jc (u := true) (v := false) (s := c.d) (t := e.d) (D := fa.ns) (i := ax.toNat) (j := ay.toNat) (fa.cs.map NR.d) (by omega) (by omega) (by omega)
       have swtt := jc (u := true) (v := true) (s := c.d) (t := e.d) (D := fa.ns) (i := ax.toNat) (j := ay.toNat) (fa.cs.map NR.d) (by omega) (by omega) (by omega)
       have hga := fun w1 hT1 hg hca => gI fa hs false ax ay hE1 hE2 c e vs hs1 vt ht1 ga w1 hT1 (hE1 ▸ oga) hg hca hln
       have hgb := fun w1 hT1 hg hca => gI fa hs true ax ay hE1 hE2 c e vs hs1 vt ht1 gb w1 hT1 (hE1 ▸ ogb) hg hca hln
       have hgc := fun w1 hT1 hg hca => gI fa hs false ay ax hE2 hE1 e c vt ht1 vs hs1 gc w1 hT1 (hE2 ▸ ogc) hg hca hln
       have hgd := fun w1 hT1 hg hca => gI fa hs true ay ax hE2 hE1 e c vt ht1 vs hs1 gd w1 hT1 (hE2 ▸ ogd) hg hca hln
       refine mT ?_
       refine dE ?_
       refine dE ?_
       refine dE ?_
       refine cd hh ?_
       intro b14 w14 hh
       refine cd hh ?_
       intro b15 w15 hh
       refine bK hh 1 [_,_] ?_
       intro ws hh
       replace hh : Hp _ (_ :: .blk _ _ [_, _] _ :: _) _ := hh
       refine bK hh 0 [_,_] ?_
       intro ws hh
       replace hh : Hp _ (.blk _ _ [_, _] _ :: _) _ := hh
       refine aI (aa (ah (sr (mI ?_))))
       refine fe (mB ?_)
       first | refine gS ?_ | (refine gT ?_; refine mI ?_) | refine gV ?_
       first | refine gS ?_ | (refine gT ?_; refine fe ?_) | refine gV ?_
       first | refine dk ?_ | refine dm ?_
       refine aa (cF (al (ai (sr ?_))))
       refine cU hh 7 [_,_] (mI ?_)
       refine cU hh 12 [_,_,_] ?_
       refine aM (hga _ (hT.hp hh) (hh.dq (List.mem_of_getElem? (i := 11) rfl) (List.mem_of_getElem? (i := 10) rfl)) (hh.iL (i := 10) rfl)) ar.out rfl (by decide) ?_
       rintro e_ w72 ⟨a1, a2, oa1, oa2, rfl, h2⟩
       refine ⟨_, rfl, ?_⟩
       replace hh := hh.join h2
       simp only [List.cons_append, List.nil_append] at hh
       clear h2
       refine mT ?_
       refine dE ?_
       refine dE ?_
       refine dE ?_
       refine cd hh ?_
       intro b17 w17 hh
       refine cd hh ?_
       intro b18 w18 hh
       refine bK hh 1 [_,_] ?_
       intro ws hh
       replace hh : Hp _ (_ :: .blk _ _ [_, _] _ :: _) _ := hh
       refine bK hh 0 [_,_] ?_
       intro ws hh
       replace hh : Hp _ (.blk _ _ [_, _] _ :: _) _ := hh
       refine aI (aa (sr ?_))
       refine cU hh 12 [_,_] (mI ?_)
       refine cU hh 18 [_,_,_] ?_
       refine aM (hgb _ (hT.hp hh) (hh.dq (List.mem_of_getElem? (i := 14) rfl) (List.mem_of_getElem? (i := 15) rfl)) (hh.iL (i := 15) rfl)) ar.out rfl (by decide) ?_
       rintro e_ w80 ⟨b1x, b2x, ob1x, ob2x, rfl, h2⟩
       refine ⟨_, rfl, ?_⟩
       replace hh := hh.join h2
       simp only [List.cons_append, List.nil_append] at hh
       clear h2
       refine mT ?_
       refine dE ?_
       refine dE ?_
       refine dE ?_
       refine cd hh ?_
       intro b20 w20 hh
       refine cd hh ?_
       intro b21 w21 hh
       refine bK hh 1 [_,_] ?_
       intro ws hh
       replace hh : Hp _ (_ :: .blk _ _ [_, _] _ :: _) _ := hh
       refine bK hh 0 [_,_] ?_
       intro ws hh
       replace hh : Hp _ (.blk _ _ [_, _] _ :: _) _ := hh
       refine aI (aa (sr ?_))
       refine cU hh 13 [_,_] (mI ?_)
       refine cU hh 25 [_,_,_] ?_
       refine aM (hgc _ (hT.hp hh) (hh.dq (List.mem_of_getElem? (i := 17) rfl) (List.mem_of_getElem? (i := 16) rfl)) (hh.iL (i := 16) rfl)) ar.out rfl (by decide) ?_
       rintro e_ w88 ⟨c1, c2, oc1, oc2, rfl, h2⟩
       refine ⟨_, rfl, ?_⟩
       replace hh := hh.join h2
       simp only [List.cons_append, List.nil_append] at hh
       clear h2
       refine mT ?_
       refine dE ?_
       refine dE ?_
       refine dE ?_
       refine cd hh ?_
       intro b23 w23 hh
       refine cd hh ?_
       intro b24 w24 hh
       refine bK hh 1 [_,_] ?_
       intro ws hh
       replace hh : Hp _ (_ :: .blk _ _ [_, _] _ :: _) _ := hh
       refine bK hh 0 [_,_] ?_
       intro ws hh
       replace hh : Hp _ (.blk _ _ [_, _] _ :: _) _ := hh
       refine aI (aa (sr ?_))
       refine cU hh 18 [_,_] (mI ?_)
       refine cU hh 31 [_,_,_] ?_
       refine aM (hgd _ (hT.hp hh) (hh.dq (List.mem_of_getElem? (i := 20) rfl) (List.mem_of_getElem? (i := 21) rfl)) (hh.iL (i := 21) rfl)) ar.out rfl (by decide) ?_
       rintro e_ w96 ⟨d1, d2, od1, od2, rfl, h2⟩
       refine ⟨_, rfl, ?_⟩
       replace hh := hh.join h2
       simp only [List.cons_append, List.nil_append] at hh
       clear h2
       refine mT ?_
       refine dE ?_
       refine dE ?_
       refine dE ?_
       refine cd hh ?_
       intro b26 w26 hh
       refine cd hh ?_
       intro b27 w27 hh
       refine bK hh 1 [_,_] ?_
       intro ws hh
       replace hh : Hp _ (_ :: .blk _ _ [_, _] _ :: _) _ := hh
       refine bK hh 0 [_,_] ?_
       intro ws hh
       replace hh : Hp _ (.blk _ _ [_, _] _ :: _) _ := hh
       refine aI (aa (ah (sr (mI ?_))))
       refine fe (mB ?_)
       first | refine gS ?_ | (refine gT ?_; refine mI ?_) | refine gV ?_
       first | refine gS ?_ | (refine gT ?_; refine fe ?_) | refine gV ?_
       first | refine dk ?_ | refine dm ?_
       refine mB ?_
       first | refine gS ?_ | (refine gT ?_; refine mI ?_) | refine gV ?_
       first | refine gS ?_ | (refine gT ?_; refine fe ?_) | refine gV ?_
       first | refine dk ?_ | refine dm ?_
       refine mB ?_
       first | refine gS ?_ | (refine gT ?_; refine mI ?_) | refine gV ?_
       first | refine gS ?_ | (refine gT ?_; refine fe ?_) | refine gV ?_
       first | refine dk ?_ | refine dm ?_
       refine aa ?_
       refine cF (al (ai (sr ?_)))
       refine cU hh 19 [_,_] ?_
       refine cU hh 7 [_,_] ?_
       refine bG hh (cN a1 c1 _ (hh.dq (List.mem_of_getElem? (i := 23) rfl) (List.mem_of_getElem? (i := 22) rfl)) (hh.dq (List.mem_of_getElem? (i := 11) rfl) (List.mem_of_getElem? (i := 10) rfl)) (oa1.same (swff ▸ oc1)) oa1.n oa1.m) rfl ?_
       intro w116 hh
       refine mB ?_
       first | refine gS ?_ | (refine gT ?_; refine cU hh 18 [_,_] ?_) | refine gV ?_
       first | refine gS ?_ | (refine gT ?_; refine cU hh 1 [_,_] ?_) | refine gV ?_
       refine aY rfl rfl ?_
       refine bG hh (cN a2 d1 _ (hh.dq (List.mem_of_getElem? (i := 20) rfl) (List.mem_of_getElem? (i := 21) rfl)) (hh.dq (List.mem_of_getElem? (i := 5) rfl) (List.mem_of_getElem? (i := 4) rfl)) (oa2.same (swtf ▸ od1)) oa2.n oa2.m) rfl ?_
       intro w120 hh
       first | refine dk ?_ | refine dm ?_
       refine mB ?_
       first | refine gS ?_ | (refine gT ?_; refine cU hh 13 [_,_] ?_) | refine gV ?_
       first | refine gS ?_ | (refine gT ?_; refine cU hh 6 [_,_] ?_) | refine gV ?_
       refine aY rfl rfl ?_
       refine bG hh (cN b1x c2 _ (hh.dq (List.mem_of_getElem? (i := 17) rfl) (List.mem_of_getElem? (i := 16) rfl)) (hh.dq (List.mem_of_getElem? (i := 8) rfl) (List.mem_of_getElem? (i := 9) rfl)) (ob1x.same (swft ▸ oc2)) ob1x.n ob1x.m) rfl ?_
       intro w125 hh
       first | refine dk ?_ | refine dm ?_
       refine mB ?_
       first | refine gS ?_ | (refine gT ?_; refine cU hh 12 [_,_] ?_) | refine gV ?_
       first | refine gS ?_ | (refine gT ?_; refine cU hh 0 [_,_] ?_) | refine gV ?_
       refine aY rfl rfl ?_
       refine bG hh (cN b2x d2 _ (hh.dq (List.mem_of_getElem? (i := 14) rfl) (List.mem_of_getElem? (i := 15) rfl)) (hh.dq (List.mem_of_getElem? (i := 2) rfl) (List.mem_of_getElem? (i := 3) rfl)) (ob2x.same (swtt ▸ od2)) ob2x.n ob2x.m) rfl ?_
       intro w130 hh
       first | refine dk ?_ | refine dm ?_
       refine mB ?_
       refine aY rfl rfl ?_
       refine bG hh (dQ _ (hT.hp hh)) rfl ?_
       intro w133 hh
       first | refine dk ?_ | refine dm ?_
       refine aB (aa (aq ?_))
       refine cu ?_
       exact ⟨rfl, hh.below⟩
      ·refine mT ?_
       refine dE ?_
       refine dE ?_
       refine dE ?_
       refine cd hh ?_
       intro b14 w14 hh
       refine cd hh ?_
       intro b15 w15 hh
       refine bK hh 1 [_,_] ?_
       intro ws hh
       replace hh : Hp _ (_ :: .blk _ _ [_, _] _ :: _) _ := hh
       refine bK hh 0 [_,_] ?_
       intro ws hh
       replace hh : Hp _ (.blk _ _ [_, _] _ :: _) _ := hh
       refine aI (aa (ah (sr (mI ?_))))
       refine fe (mB ?_)
       first | refine gS ?_ | (refine gT ?_; refine mI ?_) | refine gV ?_
       first | refine gS ?_ | (refine gT ?_; refine fe ?_) | refine gV ?_
       first | refine dk ?_ | refine dm ?_
       refine aa (cT (sr ?_))
       refine bG hh (dQ _ (hT.hp hh)) rfl ?_
       intro w67 hh
       refine aB (aa (aq (a7 ?_)))
       refine cu ?_
       exact ⟨rfl, hh.below⟩
     ·refine mT ?_
      refine dE ?_
      refine dE ?_
      refine dE ?_
      refine cd hh ?_
      intro b14 w14 hh
      refine cd hh ?_
      intro b15 w15 hh
      refine bK hh 1 [_,_] ?_
      intro ws hh
      replace hh : Hp _ (_ :: .blk _ _ [_, _] _ :: _) _ := hh
      refine bK hh 0 [_,_] ?_
      intro ws hh
      replace hh : Hp _ (.blk _ _ [_, _] _ :: _) _ := hh
      refine aI (aa (ah (sr (mI ?_))))
      refine fe (mB ?_)
      first | refine gS ?_ | (refine gT ?_; refine mI ?_) | refine gV ?_
      first | refine gS ?_ | (refine gT ?_; refine fe ?_) | refine gV ?_
      first | refine dk ?_ | refine dm ?_
      refine aa (cT (sr ?_))
      refine bG hh (dQ _ (hT.hp hh)) rfl ?_
      intro w67 hh
      refine aB (aa (aq (a7 ?_)))
      refine cu ?_
      exact ⟨rfl, hh.below⟩
end Go.Proofs.YtioilmppidlbnaaGreatDoor
