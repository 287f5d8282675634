/- Lemmas for castParts, part 5. -/
import Derived.RangeFuncFrom
import Derived.RangeFuncCalls
import Derived.RangeFuncLeaves
import Derived.Shelf.Abstract
import Derived.Test.YtioilmppidlbnaaGreatDoorZ4
/- The walk through bern.Weights. -/
namespace Go.Proofs.YtioilmppidlbnaaGreatDoor
open Go.RowKit
theorem uZ : ∀ (ds row : List Nat), (∀ d ∈ ds, d ≤ 127) → Aq ds row ≤ 2 ^ (127 * ds.length)
 | [], _, _ => by show 1 ≤ 1; exact Nat.le_refl _
 | d :: ds, [], _ => by show 1 ≤ _; exact Nat.pow_pos (by decide)
 | d :: ds, r :: rs, h => by
  have h1 : bin d r ≤ 2 ^ 127 := Nat.le_trans (nU d r) (Nat.pow_le_pow_right (by decide) (h d List.mem_cons_self))
  have h2 := uZ ds rs fun x hx => h x (List.mem_cons_of_mem _ hx)
  rw [Aq, List.length_cons, Nat.mul_succ, Nat.add_comm, Nat.pow_add]
  exact Nat.mul_le_mul h1 h2
theorem zf {n m k : Nat} (h : n ≤ 2 ^ m) (hk : m < k) : Sz k (nD n) := wo (Nat.lt_of_le_of_lt h (Nat.pow_lt_pow_right (by decide) hk))
theorem Ab {ds : List Nat} {x : Nat} (h : x ∈ se ds) (h1 : ds.length ≤ 12) (h2 : ∀ d ∈ ds, d ≤ 127) : Sz 1600 (nD x) := by
 obtain ⟨p, _, rfl⟩ := List.mem_map.1 h
 have h3 := uZ ds.reverse (dp ds.reverse p) fun d hd => h2 d (List.mem_reverse.1 hd)
 exact zf h3 (by rw [List.length_reverse]; omega)
def xd (ds : List Nat) (d j : Nat) : List Nat := ((se ds).take j).flatMap fun x => (jc d).map (x * ·)
theorem vh {ds : List Nat} {d j x : Nat} (h : (se ds)[j]? = some x) : xd ds d (j + 1) = xd ds d j ++ (jc d).map (x * ·) := by
 unfold xd
 rw [a9 h, List.flatMap_append, List.flatMap_singleton]
theorem mV (A : Option Addr) (n c : Nat) (ns : List Nat) (w : World) (hT : fK w) (hS : Sl w A n 1 (bP (bL ns))) (h12 : ns.length ≤ 12) (hlow : ∀ d ∈ ns, d ≤ 127) (hmax : aC ns ≤ 4096) :
  Calls Tryz.prog 65 #[.slice A n c] w fun r w' => ∃ B c', r = .returned (.slice B (aC ns) c') ∧ w'.ownsRow w.heap.size 39 3 (.slice B (aC ns) c') (aC ns) (br NR.cells (vD ns)) ∧ Below w.heap.size w w' := by
 have hh := Hp.start w
 have hln : ns.length = n := by have := hS.1; simpa [bP, bL] using this
 have hc := je ns 1 (by decide) (by decide) hlow
 rw [Nat.one_mul, if_pos hmax] at hc
 have hc1 : fP ((1 : Nat) : Int) (bL ns) = fP 1 (bL ns) := rfl
 rw [hc1] at hc
 have hpos := dx ns
 have hcnt := fun w1 hS1 => dM A n c (bL ns) w1 hS1 (by omega)
 rw [hc] at hcnt
 refine aj (N := 52) (l := [.slice A n c]) Tryz.func65 rfl rfl (by simp) ?_
 refine sr (aL (aa (ah (sr (mL (a7 ?_))))))
 refine bO (mB ?_)
 first | refine gS ?_ | (refine gT ?_; refine mL ?_) | refine gV ?_
 refine bp rfl rfl ?_
 refine bB hh (hcnt _ (hS.ext hh.below)) rfl ?_
 intro w16 hh
 first | refine gS ?_ | (refine gT ?_; refine cV ?_) | refine gV ?_
 first | refine db ?_ | refine de ?_
 refine aa (cF (ak (ai (sr ?_))))
 refine bB hh (fB 1 _ (hT.hp hh) (by omega) (by omega)) rfl ?_
 intro w19 hh
 refine bo hh (cs := [_, _, _]) aN.out aA.out (a6 (ed rfl) bR) rfl rfl (by decide) (by decide) (by decide) rfl (by decide) ?_
 intro b20 w20 hh
 refine aL (aa (ah (sr (mL (a7 (mI (aa (al ?_))))))))
 refine bY [3, 5, 6, 8, 10, 23, 24, 25, 26, 27, 28, 29, 30, 31, 32, 33, 34, 35, 36, 37, 38, 39, 40, 41, 42, 43, 44, 45, 46, 47, 48, 49, 50] 3 23
  (fun v3 v w' => ∃ (i c3 : Nat) (B : Option Addr), i ≤ n ∧ v = .int .i64 i ∧ v3 = .slice B (aC (ns.take i)) c3 ∧ Hp w [.row B (aC (ns.take i)) c3 39 3 (br NR.cells (vD (ns.take i)))] w')
  (fun _ v _ => n - (intOf v).toNat) ?_ ?_
 ·exact ⟨0, _, _, Nat.zero_le _, rfl, rfl, hh⟩
 ·clear hh
  rintro ρ' v3 v w' ⟨i, c3, B, hi, rfl, rfl, hh⟩
  by_cases hlt : i < n
  ·obtain ⟨d, hd⟩ := aO (l := ns) (k := i) (by omega)
   have hgi := cg (iH hd)
   have hd127 := hlow d (List.mem_of_getElem? hd)
   have htl : (ns.take i).length ≤ 12 := by rw [List.length_take]; omega
   have htw : ∀ d ∈ ns.take i, d ≤ 127 := fun d hd => hlow d (List.mem_of_mem_take hd)
   have hct := gx ns (i + 1)
   have hct2 := gx ns i
   have hstep : aC (ns.take (i + 1)) = aC (ns.take i) * (d + 1) := by rw [a9 hd, eV]; simp [aC]
   have hsnoc : vD (ns.take (i + 1)) = (xd (ns.take i) d (aC (ns.take i))).map fun k => nR (nD k) := by
    unfold vD xd
    rw [a9 hd, qh, List.take_of_length_le (l := se (ns.take i)) (by rw [tR]; exact Nat.le_refl _)]
   generalize hds : ns.take i = ds at *
   generalize hN : aC ds = N at *
   obtain ⟨ad, rfl, hr⟩ := hS.at_ (by omega)
   refine sr ?_
   refine aK (aa (ah (cT (ak (ai (ah (al (sr ?_))))))))
   refine aX (k := i) aN.out aA.size rfl rfl (by omega) (by omega) (by decide) ?_
   refine aV aA.out rfl ((hr.ext hh.below).fJ hgi) (by decide) ?_
   refine aI (aa (sr (aL (aa (ah (sr (mL (a7 (mI (aa (al ?_)))))))))))
   replace hh := hh.eW 39 3
   refine bY [6, 8, 10, 29, 30, 31, 32, 33, 34, 35, 36, 37, 38, 39, 40, 41, 42, 43, 44, 45, 46, 47, 48] 6 29
    (fun v6 v w' => ∃ (j c6 : Nat) (C : Option Addr), j ≤ N ∧ v = .int .i64 j ∧ v6 = .slice C (j * (d + 1)) c6 ∧ Hp w [.row C (j * (d + 1)) c6 39 3 (br NR.cells ((xd ds d j).map fun k => nR (nD k))), .row B N c3 39 3 (br NR.cells (vD ds))] w')
    (fun _ v _ => N - (intOf v).toNat) ?_ ?_
   ·refine ⟨0, 0, none, Nat.zero_le _, rfl, ?_, ?_⟩
    ·rw [Nat.zero_mul]; rfl
    ·rw [Nat.zero_mul]; exact hh
   ·clear hh
    rintro ρ2 v6 v w2 ⟨j, c6, C, hj, rfl, rfl, hh⟩
    by_cases hjN : j < N
    ·obtain ⟨x, hx⟩ := aO (l := se ds) (k := j) (by rw [tR]; omega)
     have hx2 : (vD ds)[j]? = some (nR (nD x)) := by unfold vD; rw [List.getElem?_map, hx]; rfl
     have zx := Ab (List.mem_of_getElem? hx) htl htw
     have hj1 : (j + 1) * (d + 1) ≤ N * (d + 1) := Nat.mul_le_mul_right _ hjN
     rw [Nat.succ_mul] at hj1
     obtain ⟨go, rfl⟩ := hh.ea (i := 1) rfl (by omega)
     refine sr ?_
     refine aK (aa (ah (cT (ak (ai (ah (al (sr ?_))))))))
     refine bA (k := j) aN.out aA.size rfl rfl (by omega) (by omega) (by decide) ?_
     refine fu (vs := [_, _, _]) aA.out rfl (hh.ie (f := NR.cells) (x := nR (nD x)) (l := vD ds) (i := 1) rfl NR.len (by decide) hx2) rfl (by decide) ?_
     refine cf hh ?_
     intro b8 w8 hh
     refine bD hh 0 [_,_,_] ?_
     intro ws hh
     replace hh : Hp _ (.blk _ _ [_, _, _] _ :: _) _ := hh
     refine aa (sr (mI ?_))
     refine aU (oe d _ (hT.hp hh) hd127) av.out rfl (by decide) ?_
     rintro e_ w34 ⟨A34, c34, rfl, hown_, hb_⟩
     refine ⟨_, rfl, ?_⟩
     replace hh := hh.bj (x := .row _ _ _ _ _ _) hb_ hown_
     refine a7 (mI (aa (al ?_)))
     refine bY [6, 10, 36, 37, 38, 39, 40, 41, 42, 43, 44, 45, 46, 47] 6 36
      (fun v6 v w' => ∃ (k c6 : Nat) (C : Option Addr), k ≤ d + 1 ∧ v = .int .i64 k ∧ v6 = .slice C (j * (d + 1) + k) c6 ∧ Hp w [.row A34 (d + 1) c34 39 3 (br NR.cells (kd d)), .blk b8 39 [.bool (nR (nD x)).neg, .string (nR (nD x)).bk, .int .i64 (nR (nD x)).e] (0, 0), .row C (j * (d + 1) + k) c6 39 3 (br NR.cells ((xd ds d j ++ ((jc d).take k).map (x * ·)).map fun k => nR (nD k))), .row (some ⟨go, 0, none⟩) N c3 39 3 (br NR.cells (vD ds))] w')
      (fun _ v _ => d + 1 - (intOf v).toNat) ?_ ?_
     ·refine ⟨0, c6, C, Nat.zero_le _, rfl, rfl, ?_⟩
      rw [List.take_zero, List.map_nil, List.append_nil]
      exact hh
     ·clear hh
      rintro ρ3 v6 v w3 ⟨k, c6, C, hk, rfl, rfl, hh⟩
      by_cases hkd : k < d + 1
      ·have hb1 := ml (n := d) (k := k) (by omega)
       have hb2 := jV (n := d) (k := k) (by omega)
       have zb := lJ d k hd127
       have hmul := fun A cc w1 hT1 hS1 => ke A 2 cc [nR (nD x), nR (nD (bin d k))] w1 hT1 hS1 (by simpa using ⟨zx.ok (by omega), zb.ok (by omega)⟩) 1600 (by simpa [dH] using ⟨zx, zb.mono (by omega)⟩) (by omega) (by omega)
       rw [show iC ([nR (nD x), nR (nD (bin d k))].map NR.d) = nD (x * bin d k) by rw [zA]; show 1 * (nR (nD x)).d * (nR (nD (bin d k))).d = _; rw [dH, dH, Dyadic.one_mul]] at hmul
       obtain ⟨ga, rfl⟩ := hh.ea (i := 0) rfl (by omega)
       refine sr ?_
       refine aK (aa (ah (cT (ak (ai (ah (al (sr ?_))))))))
       refine bA (k := k) aN.out aA.size rfl rfl (by omega) (by omega) (by decide) ?_
       refine fu (vs := [_, _, _]) aA.out rfl (hh.ie (f := NR.cells) (x := nR (nD (bin d k))) (l := kd d) (i := 0) rfl NR.len (by decide) hb2) rfl (by decide) ?_
       refine cf hh ?_
       intro b10 w10 hh
       refine bD hh 0 [_,_,_] ?_
       intro ws hh
       replace hh : Hp _ (.blk _ _ [_, _, _] _ :: _) _ := hh
       refine aa (aq (mL ?_))
       refine da hh 2 [_,_,_] ?_
       refine da hh 0 [_,_,_] ?_
       refine bo hh (cs := [_, _, _, _, _, _]) aN.out aA.out (a6 (ed rfl) (a6 (ed rfl) bR)) rfl rfl (by decide) (by decide) (by decide) rfl (by decide) ?_
       intro b43 w43 hh
       refine bB hh (hmul _ _ _ (hT.hp hh) (hh.bf (i := 0) rfl)) rfl ?_
       intro w44 hh
       refine bo hh (cs := [_, _, _]) aN.out aA.out (a6 (ed rfl) bR) rfl rfl (by decide) (by decide) (by decide) rfl (by decide) ?_
       intro b45 w45 hh
       refine df hh (i := 5) rfl rfl rfl (hh.bf (i := 0) rfl) aN.out aA.out rfl (by decide) (by first | rfl | exact dr _ | exact cH _ | exact bW _ | exact cz NR.one _) (by omega) (by omega) (by decide) ?_
       intro A46 c46 w46 hh
       simp only [List.set_cons_zero, List.set_cons_succ] at hh
       replace hh := hh.sub (List.sublist_cons_self _ _)
       refine aL (aD (a0 (ai (aq ?_))))
       refine bz (mI (aD (ai ?_)))
       replace hh := hh.sub (List.Sublist.cons _ (List.Sublist.cons _ (List.Sublist.cons_cons _ (List.Sublist.cons_cons _ (List.Sublist.cons_cons _ (List.Sublist.cons_cons _ List.Sublist.slnil))))))
       refine ⟨⟨k + 1, c46, A46, by omega, rfl, rfl, ?_⟩, by show d + 1 - (k + 1) < d + 1 - k; omega, ?_⟩
       ·have e : (xd ds d j ++ ((jc d).take (k + 1)).map (x * ·)).map (fun k => nR (nD k)) = (xd ds d j ++ ((jc d).take k).map (x * ·)).map (fun k => nR (nD k)) ++ [nR (nD (x * bin d k))] := by rw [a9 hb1]; simp
        rw [e, eP]
        exact hh
       ·(repeat (first | exact aw _ _ _ | refine az rfl ?_ | refine au rfl ?_))
      ·obtain rfl : k = d + 1 := by omega
       rw [List.take_of_length_le (by rw [m9]; omega), ← vh hx] at hh
       refine sr ?_
       refine aK (aa (ah (cF ?_)))
       refine aY ?_
       refine ay (ay (bm (a0 (ai (aq ?_)))))
       refine bz (mI (aD (ai ?_)))
       replace hh := hh.sub (List.Sublist.cons _ (List.Sublist.cons _ (List.Sublist.cons_cons _ (List.Sublist.cons_cons _ List.Sublist.slnil))))
       refine ⟨⟨j + 1, c6, C, by omega, rfl, ?_, ?_⟩, by show N - (j + 1) < N - j; omega, ?_⟩
       ·rw [Nat.succ_mul]; rfl
       ·rw [Nat.succ_mul]; exact hh
       ·(repeat (first | exact aw _ _ _ | refine az rfl ?_ | refine au rfl ?_))
    ·obtain rfl : j = N := by omega
     rw [← hsnoc, ← hstep] at hh
     rw [← hstep]
     refine sr ?_
     refine aK (aa (ah (cF ?_)))
     refine aY ?_
     refine ay (ay (bm (ai (aq (mL (aL (aD (a0 (ai (aq ?_))))))))))
     refine bz (mI (aD (ai ?_)))
     replace hh := hh.sub (List.Sublist.cons_cons _ (List.Sublist.cons _ List.Sublist.slnil))
     refine ⟨⟨i + 1, c6, C, by omega, rfl, rfl, hh⟩, by show n - (i + 1) < n - i; omega, ?_⟩
     (repeat (first | exact aw _ _ _ | refine az rfl ?_ | refine au rfl ?_))
  ·obtain rfl : i = n := by omega
   rw [List.take_of_length_le (by omega)] at hh ⊢
   refine sr ?_
   refine aK (aa (ah (cF ?_)))
   refine aY ?_
   refine ay (ay (bm (ai (sr (mL (aL (aa (ao ?_))))))))
   refine cx ?_
   exact ⟨_, _, rfl, hh.at_ (i := 0) rfl, hh.below⟩
end Go.Proofs.YtioilmppidlbnaaGreatDoor
/- Plain laws: values of forms. No program in sight. -/
namespace Go.Proofs.YtioilmppidlbnaaGreatDoor
def zR (d r : Nat) (t : Dyadic) : Dyadic := t ^ r * (1 - t) ^ (d - r)
def z8 : List Nat → List Nat → List Dyadic → Dyadic
 | d :: ds, r :: rs, t :: ts => zR d r t * z8 ds rs ts
 | _, _, _ => 1
def BE (ds : List Nat) (xs : List Dyadic) (ts : List Dyadic) : Dyadic := sm (List.range (aC ds)) fun p => (xs[p]?).getD 0 * z8 ds (dp ds p) ts
def zH (d : Nat) (t : Dyadic) (m : Nat) (xs : List Dyadic) : List Dyadic := (List.range m).map fun q => sm (List.range (d + 1)) fun r => (xs[r + (d + 1) * q]?).getD 0 * zR d r t
def zM : List Nat → List Dyadic → List Dyadic → List Dyadic
 | d :: ds, t :: ts, xs => zM ds ts (zH d t (aC ds) xs)
 | _, _, xs => xs
end Go.Proofs.YtioilmppidlbnaaGreatDoor
/- Plain laws: forms changed along an axis; both parts of a form that is cut. No program in sight. -/
namespace Go.Proofs.YtioilmppidlbnaaGreatDoor
def sR : List Nat → (List Nat → Dyadic) → Dyadic
 | [], F => F []
 | d :: ds, F => sm (List.range (d + 1)) fun r => sR ds fun row => F (r :: row)
def et (ds : List Nat) (a : Nat) (M : Nat → Nat → Dyadic) (xs : List Dyadic) : List Dyadic :=
 (List.range (aC ds)).map fun p => sm (List.range (ds.getD a 0 + 1)) fun i => co ds xs ((dp ds p).set a i) * M i ((dp ds p).getD a 0)
theorem iY (ds : List Nat) (a : Nat) (M : Nat → Nat → Dyadic) (xs : List Dyadic) : (et ds a M xs).length = aC ds := by simp [et]
theorem tr : ∀ {ds row : List Nat} {a i : Nat}, rn ds row → i ≤ ds.getD a 0 → rn ds (row.set a i)
 | [], [], _, _, _, _ => trivial
 | d :: ds, r :: rs, 0, i, h, hi => ⟨hi, h.2⟩
 | d :: ds, r :: rs, a + 1, i, h, hi => ⟨h.1, tr (a := a) h.2 (by simpa using hi)⟩
def lO (d : Nat) (s : Dyadic) (i k : Nat) : Dyadic := if k < i then 0 else nD (bin (d - i) (k - i)) * s ^ i * (1 - s) ^ (k - i)
def lp (d : Nat) (s : Dyadic) (i k : Nat) : Dyadic := if i < k then 0 else nD (bin i (i - k)) * s ^ (i - k) * (1 - s) ^ (d - i)
theorem zd (n : Nat) : ∀ f : Nat → Dyadic, sm (List.range (n + 1)) f = sm (List.range (n + 1)) fun k => f (n - k) := by
 induction n with
 | zero => intro f; rfl
 | succ n ih =>
  intro f
  have e : sm (List.range (n + 1 + 1)) (fun k => f (n + 1 - k)) = f (n + 1) + sm (List.range (n + 1)) fun k => f (n - k) := by
   rw [vJ]
   congr 1
   exact jq fun k _ => by rw [show n + 1 - (k + 1) = n - k by omega]
  rw [List.range_succ, kW, ih f, ← List.range_succ, e]
  grind
end Go.Proofs.YtioilmppidlbnaaGreatDoor
/- Plain laws: the lines of a form along an axis, by places. No program in sight. -/
namespace Go.Proofs.YtioilmppidlbnaaGreatDoor
theorem mc : ∀ (A B : List Nat) (p : Nat), dp (A ++ B) p = dp A p ++ dp B (p / aC A)
 | [], B, p => by rw [List.nil_append, aC, Nat.div_one]; rfl
 | d :: A, B, p => by rw [List.cons_append, dp, dp, mc A B, aC, Nat.div_div_eq_div_mul]; rfl
theorem q9 : ∀ (A : List Nat) (f q : Nat), dp A (f + aC A * q) = dp A f
 | [], _, _ => rfl
 | d :: A, f, q => by
  rw [dp, dp, aC, Nat.mul_assoc, Nat.add_mul_mod_self_left, Nat.add_mul_div_left _ _ (by omega), q9 A]
section
variable {A B : List Nat} {d : Nat}
def cW (A : List Nat) (d f k q : Nat) : Nat := f + aC A * (k + (d + 1) * q)
theorem kx {f k q : Nat} (hf : f < aC A) (hk : k ≤ d) (hq : q < aC B) : cW A d f k q < aC (A ++ d :: B) := by
 rw [eV, aC, cW]
 have h1 : k + (d + 1) * q + 1 ≤ (d + 1) * aC B := by
  have : (d + 1) * (q + 1) ≤ (d + 1) * aC B := Nat.mul_le_mul_left _ hq
  rw [Nat.mul_succ] at this
  omega
 have h2 := Nat.mul_le_mul_left (aC A) h1
 rw [Nat.mul_succ] at h2
 omega
theorem oP {f k q : Nat} (hf : f < aC A) (hk : k ≤ d) : dp (A ++ d :: B) (cW A d f k q) = dp A f ++ k :: dp B q := by
 unfold cW
 rw [mc, q9, Nat.add_mul_div_left _ _ (dx A), Nat.div_eq_of_lt hf, Nat.zero_add, dp, Nat.add_mul_mod_self_left, Nat.mod_eq_of_lt (by omega), Nat.add_mul_div_left _ _ (by omega), Nat.div_eq_of_lt (by omega), Nat.zero_add]
theorem ko {p : Nat} (h : p < aC (A ++ d :: B)) : ∃ f k q, f < aC A ∧ k ≤ d ∧ q < aC B ∧ p = cW A d f k q := by
 rw [eV, aC] at h
 have hA := dx A
 refine ⟨p % aC A, p / aC A % (d + 1), p / aC A / (d + 1), Nat.mod_lt _ hA, by have := Nat.mod_lt (p / aC A) (show 0 < d + 1 by omega); omega, ?_, ?_⟩
 ·rw [Nat.div_lt_iff_lt_mul (by omega), Nat.div_lt_iff_lt_mul hA, Nat.mul_comm, Nat.mul_comm (aC B)]
  exact h
 ·unfold cW
  rw [Nat.mod_add_div, Nat.mod_add_div]
theorem qz (x y : List Nat) (k : Nat) : (x ++ k :: y).getD x.length 0 = k := by
 rw [List.getD_eq_getElem?_getD, List.getElem?_append_right (Nat.le_refl _), Nat.sub_self]
 rfl
theorem rE (x y : List Nat) (k i : Nat) : (x ++ k :: y).set x.length i = x ++ i :: y := by
 rw [List.set_append_right _ _ (Nat.le_refl _), Nat.sub_self, List.set_cons_zero]
def dz (A : List Nat) (d : Nat) (xs : List Dyadic) (f q : Nat) : List Dyadic := (List.range (d + 1)).map fun i => (xs[cW A d f i q]?).getD 0
theorem p8 {f k q : Nat} (M : Nat → Nat → Dyadic) (xs : List Dyadic) (hf : f < aC A) (hk : k ≤ d) (hq : q < aC B) :
  (et (A ++ d :: B) A.length M xs)[cW A d f k q]? = some (sm (List.range (d + 1)) fun i => (xs[cW A d f i q]?).getD 0 * M i k) := by
 have hp := kx (B := B) hf hk hq
 unfold et
 rw [List.getElem?_map, List.getElem?_range hp]
 simp only [Option.map_some]
 rw [oP hf hk, qz]
 have hl := nX A f
 rw [show ((dp A f ++ k :: dp B q).getD A.length 0) = k by rw [← hl]; exact qz _ _ _]
 congr 1
 refine jq fun i hi => ?_
 have hi2 : i ≤ d := by have := List.mem_range.1 hi; omega
 rw [show (dp A f ++ k :: dp B q).set A.length i = dp A f ++ i :: dp B q by rw [← hl]; exact rE _ _ _ _, ← oP (B := B) hf hi2, yU (kx hf hi2 hq)]
end
end Go.Proofs.YtioilmppidlbnaaGreatDoor
/- The walks through package lift: sizes, places. -/
namespace Go.Proofs.YtioilmppidlbnaaGreatDoor
open Go.RowKit
def AB (ns : List Nat) : Bool := ns.any (fun d => decide (127 < d)) || decide (4096 < aC ns)
theorem sO : ∀ {ds rs : List Nat} {k d r : Nat}, rn ds rs → ds[k]? = some d → rs[k]? = some r → r ≤ d
 | [], _, _, _, _, _, h, _ => by simp at h
 | _ :: _, [], _, _, _, _, _, h => by simp at h
 | d :: ds, r :: rs, 0, _, _, h, h1, h2 => by
  simp only [List.getElem?_cons_zero, Option.some.injEq] at h1 h2
  subst h1 h2
  exact h.1
 | d :: ds, r :: rs, k + 1, _, _, h, h1, h2 => sO (k := k) h.2 (by simpa using h1) (by simpa using h2)
end Go.Proofs.YtioilmppidlbnaaGreatDoor
/- The walks through package lift: indices, products. -/
namespace Go.Proofs.YtioilmppidlbnaaGreatDoor
open Go.RowKit
end Go.Proofs.YtioilmppidlbnaaGreatDoor
/- The walk through lift.times. -/
namespace Go.Proofs.YtioilmppidlbnaaGreatDoor
open Go.RowKit
def yO (a b : List Nat) : List Nat := List.zipWith (· + ·) a b
theorem vd (N : Nat) : fY N [.bool false, .string (ByteArray.mk #[]), .int .i64 0] = br NR.cells ((wI N []).map nR) := by
 rw [qS, List.map_replicate]
 induction N with
 | zero => rfl
 | succ n ih => rw [List.replicate_succ, gl, ← ih]; rfl
def Br (ds es : List Nat) (xs ys : List Dyadic) (k : Nat) : List (Nat × Dyadic) :=
 (List.range k).flatMap fun k => (List.range (aC ds)).map fun i => (ij (sM ds es) (sM (dp ds i) (dp es k)), (xs[i]?).getD 0 * (ys[k]?).getD 0)
def Aa (ns ms : List Nat) (xs ys : List Dyadic) : List Dyadic := wI (aC (yO ns ms)) (Br ns.reverse ms.reverse xs ys (aC ms))
end Go.Proofs.YtioilmppidlbnaaGreatDoor
/- The walks through package lift: forms that are alike, degrees raised. -/
namespace Go.Proofs.YtioilmppidlbnaaGreatDoor
open Go.RowKit
structure FX where
 A : Option Addr
 n : Nat
 a : Nat
 B : Option Addr
 m : Nat
 b : Nat
 ds : List Int
 cs : List NR
def FX.cells (f : FX) : List Value := [.slice f.A f.n f.a, .slice f.B f.m f.b]
def FX.v (f : FX) : Value := .agg #[.slice f.A f.n f.a, .slice f.B f.m f.b]
structure FX.at_ (f : FX) (w : World) : Prop where
 dg : Sl w f.A f.n 1 (bP f.ds)
 nm : Sl w f.B f.m 3 (br NR.cells f.cs)
theorem FX.at_.ext {f : FX} {w w' : World} (h : f.at_ w) (hb : Below w.heap.size w w') : f.at_ w' := ⟨h.dg.ext hb, h.nm.ext hb⟩
structure FX.rl (f : FX) (k : Nat) : Prop where
 zF : f.n ≤ 1000
 Ay : f.m ≤ 100000
 num : ∀ c ∈ f.cs, c.ok ∧ Sz k c.d
def FX.e (f : FX) : Int := fE f.ds f.cs
theorem pK (f : FX) (k : Nat) (w : World) (hT : fK w) (h : f.at_ w) (hl : f.rl k) :
  Calls Tryz.prog 64 #[.agg #[.slice f.A f.n f.a, .slice f.B f.m f.b]] w fun r w' => r = .returned (.int .i64 f.e) ∧ Below w.heap.size w w' :=
 n6 f.A f.B f.n f.a f.m f.b f.ds f.cs w hT h.dg h.nm (by have := hl.zF; omega) (by have := hl.Ay; omega) fun a ha => (hl.num a ha).1
def AQ (fs : List FX) : Bool := fs.any fun f => decide (f.n ≠ (fs.map FX.n).headD 0)
def tL (fs : List FX) : Int := match fs.find? (fun f => decide (f.e ≠ 0)) with | some f => f.e | none => if fs.length = 0 ∨ AQ fs = true then 1 else 0
end Go.Proofs.YtioilmppidlbnaaGreatDoor
/- Arguments opened: forms. -/
namespace Go.Proofs.YtioilmppidlbnaaGreatDoor
open Go.ChangeShapes Go.WideShapes Go.ChangeAt Go.RowKit Go.ChangeMaps
theorem m7 {α : Type} {f : α → List Value} {p : α → Prop} {sz : Nat} {P : Program} {t e : TypeId} {H : Type} {enc : TypeId × Value → H} {W : World} {base fuel : Nat} {sp : Nat → Bool} {held : Bool} {cs : List Value} {x : DataW H × List MemPlace}
  (hf : ∀ x, (f x).length = sz) (h0 : 0 < sz) (ht : P.underlying t = some (.slice e)) (hc : P.cellsOf e = sz) (one : ∀ fuel cs x, DataW.trod enc P W base sp held fuel e cs = some x → ∃ a, cs = f a ∧ p a)
  (hfu : DataW.trod enc P W base sp held fuel t cs = some x) : ∃ (A : Option Addr) (n c : Nat) (l : List α), cs = [.slice A n c] ∧ Sl W A n sz (br f l) ∧ ∀ a ∈ l, p a := by
 rcases Go.Deep.open_slice ht hfu with ⟨h1, _⟩ | ⟨ad, n, cp, m, k, D, Pl, h1, _, h2, h3, hm, _, h5⟩
 ·exact ⟨none, 0, 0, [], h1, Sl.nil W none sz, fun _ h => by simp at h⟩
 ·have hnm : n ≤ m := by rw [hm]; split <;> omega
  obtain ⟨l, hl, hp⟩ := nK (p := fun i a => W.cells? base (ad.add (i * sz)) sz = some (f a) ∧ p a) n fun i hi => by
   obtain ⟨cs, h6, h7⟩ := h5 i (by omega)
   rw [hc] at h6
   obtain ⟨a, rfl, h8⟩ := one _ _ _ h7
   exact ⟨a, h6, h8⟩
  refine ⟨some ad, n, cp, l, h1, ⟨by rw [fS hf, hl], fun _ => ⟨ad, rfl, fun j u hu => ?_⟩⟩, fun a ha => ?_⟩
  ·have hdm : j / sz * sz + j % sz = j := by rw [Nat.mul_comm]; exact Nat.div_add_mod j sz
   have hmod : j % sz < sz := Nat.mod_lt _ h0
   have hj : j / sz < l.length := by
    have := (List.getElem?_eq_some_iff.1 hu).1
    rw [fS hf] at this
    exact Nat.div_lt_of_lt_mul (by rw [Nat.mul_comm]; exact this)
   obtain ⟨x, hx⟩ := aO hj
   have h6 := nF hf hx
   have h7 : (f x)[j % sz]? = some u := by
    rw [← h6, List.getElem?_take, if_pos hmod, List.getElem?_drop, hdm]
    exact hu
   have h8 := (World.cells?_some (hp _ _ hx).1).2.2 (j % sz) hmod
   rw [h7, iJ, hdm] at h8
   exact h8
  ·obtain ⟨i, hi⟩ := List.mem_iff_getElem?.1 ha
   exact (hp i a hi).2
set_option maxRecDepth 100000 in
theorem rN {H : Type} {enc : TypeId × Value → H} {W : World} {base fuel : Nat} {sp : Nat → Bool} {held : Bool} {cs : List Value} {x : DataW H × List MemPlace} (h : DataW.trod enc Tryz.prog W base sp held fuel 28 cs = some x) :
  ∃ f : FX, cs = f.cells ∧ f.at_ W := by
 have c0 : Tryz.prog.cellsOf 28 = 2 := by kernel_rfl
 have c1 : Tryz.prog.cellsOf 25 = 1 := by kernel_rfl
 have c2 : Tryz.prog.cellsOf 26 = 1 := by kernel_rfl
 obtain ⟨y0, y1, n, _, hl, h0, h1⟩ := trod_struct2 Tryz.underlying28 h
 obtain ⟨A, n, a, l, e0, s0, _⟩ := m7 IC.len (by decide) Tryz.underlying25 (by kernel_rfl) (fun _ _ _ h => oT h) h0
 obtain ⟨B, m, b, k, e1, s1, _⟩ := m7 NR.len (by decide) Tryz.underlying26 (by kernel_rfl) (fun _ _ _ h => uv h) h1
 rw [sZ] at s0
 rw [c0] at hl
 match cs, hl with
 | [x0, x1], _ =>
  simp only [c1, c2] at e0 e1
  simp at e0 e1
  subst e0 e1
  exact ⟨⟨A, n, a, B, m, b, l, k⟩, rfl, s0, s1⟩
set_option maxRecDepth 100000 in
theorem ux {H : Type} {enc : TypeId × Value → H} {W : World} {r : Reach} {base b0 : Nat} {sp : Nat → Bool} {held : Bool} {v : Value} {d : DataW H} {ps : List MemPlace}
  (hval : Value.okWide Tryz.prog W r b0 28 v) (hd : DataW.Trod enc Tryz.prog W base sp held 28 v d ps) : ∃ f : FX, v = .agg #[.slice f.A f.n f.a, .slice f.B f.m f.b] ∧ f.at_ W := by
 obtain ⟨cs, rfl, _⟩ := okWide_struct Tryz.underlying28 hval
 obtain ⟨fuel, hf⟩ := hd
 obtain ⟨f, h1, h2⟩ := rN hf
 refine ⟨f, ?_, h2⟩
 have h3 : cs.toList = f.cells := h1
 rw [← Array.toList_inj.1 (show cs.toList = (#[.slice f.A f.n f.a, .slice f.B f.m f.b] : Array Value).toList from h3)]
end Go.Proofs.YtioilmppidlbnaaGreatDoor
/- A range over a function, for one loop variable. Plain lemmas, no program in sight. -/
namespace Go.Proofs.YtioilmppidlbnaaGreatDoor
open Go.RowKit
abbrev lF (D : Nat) : Deferred := { target := .collected D, args := #[] }
abbrev yf (M : List Nat) : List HE := M.map fun D => .ob D (.deferred (some []))
theorem vt {N : Nat} {D : List Deferred} {a b : Act} {ρ : Rf} (h : ej N D a ρ) (k : ej N D b ρ) : a = b := by
 obtain ⟨t, d⟩ := a
 obtain ⟨t', d'⟩ := b
 obtain ⟨h1, h2, h3⟩ := h
 obtain ⟨k1, k2, k3⟩ := k
 obtain rfl : d = d' := h1.trans k1.symm
 congr 1
 refine Array.ext (h2.trans k2.symm) fun i hi hi' => ?_
 have e1 := h3 i
 have e2 := k3 i
 rw [Array.getD_eq_getD_getElem?, Array.getElem?_eq_getElem hi] at e1
 rw [Array.getD_eq_getD_getElem?, Array.getElem?_eq_getElem hi'] at e2
 exact e1.trans e2.symm
abbrev Kd := Exit → List Nat → Rf → World → Prop
structure WD (P : Program) (N : Nat) (c : Code) (Q : Kd) (ρ : Rf) (w : World) : Prop where
 out : ∀ (M : List Nat) a, ej N (M.map lF) a ρ → ∀ n, c.wpIn Fence.wide n P (fun e a' w' => ∃ M' ρ', ej N ((M' ++ M).map lF) a' ρ' ∧ Q e M' ρ' w') a w
def AX (next : List Nat → Rf → World → Prop) (Q : Kd) : Kd
 | .normal, M, ρ, w => next M ρ w
 | e, M, ρ, w => Q e M ρ w
def qq (M : List Nat) (Q : Kd) : Kd := fun e M2 ρ w => Q e (M2 ++ M) ρ w
def y4 (id : Nat) (Q : Kd) : Kd
 | .exit id', M, ρ, w => if id' = id then Q .normal M ρ w else Q (.exit id') M ρ w
 | e, M, ρ, w => Q e M ρ w
def z5 (Q : Kd) : Kq := fun e ρ w => Q e [] ρ w
section
variable {P : Program} {N : Nat} {Q : Kd} {ρ : Rf} {w : World}
theorem yw {c : Code} (h : ∀ D, WC ⟨none, D, true⟩ P N c (z5 Q) ρ w) : WD P N c Q ρ w :=
 ⟨fun M a hf n => wpIn_mono ((h (M.map lF)).ik a hf n) fun e a' w' ⟨ρ', hf', hq⟩ => ⟨[], ρ', hf', hq⟩⟩
theorem vU {x y : Code} (h : WD P N x (AX (fun M ρ w => WD P N y (qq M Q) ρ w) Q) ρ w) : WD P N (.seq x y) Q ρ w :=
 ⟨fun M a hf n => wpIn_seq (wpIn_mono (h.out M a hf n) fun e a' w' ⟨M', ρ', hf', hq⟩ => by
  cases e with
  | normal =>
   refine wpIn_mono ((hq : WD P N y (qq M' Q) ρ' w').out (M' ++ M) a' hf' n) fun e a2 w2 ⟨M2, ρ2, hf2, hq2⟩ => ?_
   exact ⟨M2 ++ M', ρ2, by rw [List.append_assoc]; exact hf2, hq2⟩
  | _ => exact ⟨M', ρ', hf', hq⟩)⟩
theorem oO {x y : Code} (h : ∀ D, WC ⟨none, D, true⟩ P N x (eA (fun ρ w => WD P N y Q ρ w) (z5 Q)) ρ w) : WD P N (.seq x y) Q ρ w :=
 vU (yw fun D => (h D).mono fun e ρ w hq => by
  cases e with
  | normal =>
   show WD P N y (qq [] Q) ρ w
   have e0 : qq [] Q = Q := by funext e M ρ w; unfold qq; rw [List.append_nil]
   rw [e0]
   exact hq
  | _ => exact hq)
theorem wv {id : Nat} {c : Code} (h : WD P N c (y4 id Q) ρ w) : WD P N (.block id c) Q ρ w :=
 ⟨fun M a hf n => wpIn_block (wpIn_mono (h.out M a hf n) fun e a' w' ⟨M', ρ', hf', hq⟩ => by
  cases e with
  | exit id' =>
   by_cases hid : id' = id
   ·simp only [y4, hid, if_true] at hq
    simp only [Exit.inBlock, hid, if_true]
    exact ⟨M', ρ', hf', hq⟩
   ·simp only [y4, hid, if_false] at hq
    simp only [Exit.inBlock, hid, if_false]
    exact ⟨M', ρ', hf', hq⟩
  | _ => exact ⟨M', ρ', hf', hq⟩)⟩
def yk {α : Type} (Kp : World → World → Prop) (I : List α → World → Prop) (pre : List α) (x : α) (W : World) : Kq
 | .normal, _, W' => KeepsOthers W W' ∧ Kp W W' ∧ I (pre ++ [x]) W'
 | _, _, _ => False
def Aj : Kq := fun _ _ _ => False
theorem oW {ps : Tmp} {v : Value} {a : Array Value} : ((#[ps] : Array Tmp).zip #[v]).foldl (fun t (p, v) => t.setIfInBounds p v) a = a.setIfInBounds ps v := by simp
theorem vS {α : Type} {g : Operand} {p : Tmp} {assign body : Code} {gf : Nat} {lb : Array Value} (hp : p < N) (hg : ev ρ g = .func (.func gf) #[] lb) (eg : ∀ args w, (callFunc gf args).run P w = .ok (.enter gf args) w)
  {enc : α → Value} {Kp : World → World → Prop} {S : List α → Prop} {Nn : Nat} (hseq : ∀ n, SeqStopsK Fence.wide n P gf lb (fun x => #[enc x]) Kp S (fun _ => True) Nn w)
  (hKt : ∀ {A B C : World}, Kp A B → Kp B C → Kp A C) (hKb : ∀ (W : World) (l : Nat) (o o' : Obj), w.heap.size ≤ l → W.heap[l]? = some o → o.isCells = false → o.isWalk = false → Kp W (W.putObj l o'))
  (I : List α → World → Prop) (hI : OwnFrom w.heap.size I) (h0 : I [] w) (ρ1 : α → Rf) (hρ : ∀ x i, N ≤ i → ρ1 x i = ρ i)
  (hassign : ∀ l x W, WC ⟨some l, [], true⟩ P N assign (eA (fun ρ' W' => ρ' = ρ1 x ∧ W' = W) Aj) (cm ρ p (enc x)) W)
  (hbody : ∀ l pre x W, I pre W → pre.length < Nn → WC ⟨some l, [], true⟩ P N body (yk Kp I pre x W) (ρ1 x) W)
  (hdone : ∀ (D : Nat) (xs : List α) (W : World), w.heap.size ≤ D → S xs → I xs W → W.heap[D]? = some (.deferred (some [])) → Q .normal [D] ρ W) : WD P N (.rangeFunc g #[p] assign body) Q ρ w := by
 refine ⟨fun M a hf n => ?_⟩
 have hfit : ∀ x, ej N [] { tmps := Array.ofFn fun i : Fin N => ρ1 x i, defers := [] } (ρ1 x) := fun x => by
  refine ⟨rfl, by simp, fun i => ?_⟩
  rw [Array.getD_eq_getD_getElem?]
  by_cases hi : i < N
  ·rw [Array.getElem?_eq_getElem (by simpa using hi)]
   simp
  ·rw [Array.getElem?_eq_none (by simp; omega), hρ x i (by omega), ← hf.at_ i, Array.getD_eq_getD_getElem?, Array.getElem?_eq_none (by rw [hf.sz]; omega)]
 have main : (Code.rangeFunc g #[p] assign body).wpIn Fence.wide (n + 1) P (fun e a' w' => ∃ M' ρ', ej N ((M' ++ M).map lF) a' ρ' ∧ Q e M' ρ' w') a w := by
  refine wpIn_rangeFunc_ownF (F := Fence.wide) (n := n + 1) rfl (by omega) (gf := gf) (lb := lb) (by rw [hf.eval]; exact hg) trivial eg (hseq _) hKt hKb (Below.refl _ _) (fun _ => rfl) I (fun _ _ _ => False) hI
   (fun _ _ _ _ _ hs _ _ => hs) h0 (fun x => { tmps := Array.ofFn fun i : Fin N => ρ1 x i, defers := [] }) (fun l x W K hK => ?_) (fun l pre x W hi hl => ?_) (fun D xs W hD hS hi hW => ?_) (fun _ _ _ _ _ _ h _ => h.elim)
  ·refine wpIn_mono ((hassign l x W).ik _ ⟨rfl, ?_, fun i => ?_⟩ _) fun e a' w' ⟨ρ', hf', hq⟩ => ?_
   ·rw [oW]
    simp [hf.sz]
   ·rw [oW, ← (hf.put hp (enc x)).at_ i]
    rfl
   ·cases e with
    | normal =>
     obtain ⟨rfl, rfl⟩ := hq
     rw [vt hf' (hfit x)]
     exact hK
    | _ => exact hq.elim
  ·refine wpIn_mono ((hbody l pre x W hi hl).ik _ (hfit x) _) fun e a' w' ⟨ρ', hf', hq⟩ => ?_
   cases e with
   | normal => exact hq
   | _ => exact hq.elim
  ·exact ⟨[D], ρ, ⟨by rw [hf.nd]; rfl, hf.sz, hf.at_⟩, hdone D xs W hD hS hi hW⟩
 intro b k cs hro hb _
 exact main b k cs hro hb (room_wide _)
end
def Am (P : Program) (fn : Func) (R : Ending → World → Prop) : Kd := fun e M ρ w =>
 (e = .normal ∨ e = .ret) ∧ ∀ tmps : Array Value, (∀ i, tmps.getD i undef = ρ i) → ∀ n, LeavesInM Fence.wide n P fn tmps R (M.map lF) .returning w
theorem ui {P : Program} {f : FuncId} {fn : Func} {c : Code} {N : Nat} {l : List Value} {w : World} {R : Ending → World → Prop}
  (hf : P.funcs[f]? = some fn) (hb : fn.body = some c) (hn : fn.ntmps = N) (ha : l.length ≤ N)
  (h : WD P N c (Am P fn R) (oS l) w) : Calls P f l.toArray w R := by
 refine (callsIn_wide (n := 0)).1 (callsIn_of_wp_marks hf hb trivial ?_ rfl)
 refine wpIn_mono (h.out [] _ ⟨rfl, by simp [hn]; omega, fun i => ?_⟩ 0) ?_
 ·simp only [oS]
  rcases Nat.lt_or_ge i l.length with hi | hi
  ·rw [Array.getD_eq_getD_getElem?, Array.getElem?_append_left (by simpa using hi)]
   simp [List.getD_eq_getElem?_getD]
  ·rw [Array.getD_eq_getD_getElem?, Array.getElem?_append_right (by simpa using hi)]
   simp only [List.getD_eq_getElem?_getD, List.getElem?_eq_none hi, Option.getD_none, Array.getElem?_replicate]
   split <;> rfl
 ·rintro e a w' ⟨M, ρ', hf', he, hl⟩
  rw [List.append_nil] at hf'
  rcases he with rfl | rfl
  ·show LeavesInM _ _ _ _ a.tmps _ a.defers _ _
   rw [hf'.nd]
   exact hl _ hf'.at_ 0
  ·show LeavesInM _ _ _ _ a.tmps _ a.defers _ _
   rw [hf'.nd]
   exact hl _ hf'.at_ 0
theorem rH {P : Program} {f : FuncId} {fn : Func} {c : Code} {N : Nat} {l : List Value} {w : World} {R : Ending → World → Prop}
  (hf : P.funcs[f]? = some fn) (hb : fn.body = some c) (hn : fn.ntmps = N) (ha : l.length ≤ N)
  (h : WC ⟨none, [], true⟩ P N c (jh P fn R) (oS l) w) : Calls P f l.toArray w R := by
 refine (callsIn_wide (n := 0)).1 (callsIn_of_wp hf hb trivial ?_ rfl)
 refine wpIn_mono (h.ik _ ⟨rfl, by simp [hn]; omega, fun i => ?_⟩ 0) ?_
 ·simp only [oS]
  rcases Nat.lt_or_ge i l.length with hi | hi
  ·rw [Array.getD_eq_getD_getElem?, Array.getElem?_append_left (by simpa using hi)]
   simp [List.getD_eq_getElem?_getD]
  ·rw [Array.getD_eq_getD_getElem?, Array.getElem?_append_right (by simpa using hi)]
   simp only [List.getD_eq_getElem?_getD, List.getElem?_eq_none hi, Option.getD_none, Array.getElem?_replicate]
   split <;> rfl
 ·rintro e a w' ⟨ρ', hf', he, v, hr, hR⟩
  rcases he with rfl | rfl
  ·exact ⟨hf'.nd, v, hr _ hf'.at_, hR⟩
  ·exact ⟨hf'.nd, v, hr _ hf'.at_, hR⟩
def HE.yz : HE → Bool
 | .ob _ _ => false
 | _ => true
theorem nv {base : Nat} {w : World} {x : HE} {b : Nat} (h : x.holds base w) (hc : x.yz = true) (hid : x.id = some b) : ∃ o, w.heap[b]? = some o ∧ o.isCells = true := by
 cases x with
 | blk b' t cs fz =>
  obtain rfl : b' = b := Option.some.inj hid
  exact ⟨_, h.2.1, rfl⟩
 | row A n c t sz xs =>
  rcases h.2 with ⟨h1, _⟩ | ⟨g, cap, cur, h1, _, h3, _⟩
  ·injection h1 with e1
   subst e1
   cases hid
  ·injection h1 with e1
   subst e1
   obtain rfl : g = b := Option.some.inj hid
   exact ⟨_, h3, rfl⟩
 | ob _ _ => cases hc
theorem Hp.yD {w0 w w' : World} {H : List HE} (h : Hp w0 H w) (hc : ∀ x ∈ H, x.yz = true) {row : Option Nat} (hg : w.grownBy w' row) (hr : ∀ r, row = some r → w0.heap.size ≤ r ∧ ∃ o : Obj, w.heap[r]? = some o ∧ o.isCells = false) : Hp w0 H w' := by
 refine ⟨⟨hg.os.trans h.below.os, hg.tape.trans h.below.tape, hg.output.trans h.below.output, Nat.le_trans h.size hg.size, fun k hk => ?_⟩, fun x hx => ?_, h.nd⟩
 ·refine (hg.block k (Nat.lt_of_lt_of_le hk h.size) fun e => ?_).trans (h.below.block k hk)
  have := (hr k e.symm).1
  omega
 ·refine kj (h.own x hx) fun b hid => hg.block b (dJ (h.own x hx) hid).2 fun e => ?_
  obtain ⟨o, h1, h2⟩ := nv (h.own x hx) (hc x hx) hid
  obtain ⟨_, o', h3, h4⟩ := hr b e.symm
  rw [h1] at h3
  cases h3
  rw [h2] at h4
  cases h4
theorem Hp.Ai {w0 w : World} {H : List HE} (h : Hp w0 H w) (hc : ∀ x ∈ H, x.yz = true) {D : Nat} {o : Obj} (hD : w0.heap.size ≤ D) (h1 : w.heap[D]? = some o) (ho : o.isCells = false) : Hp w0 (.ob D o :: H) w := by
 refine ⟨h.below, fun x hx => ?_, ?_⟩
 ·rcases List.mem_cons.1 hx with rfl | hx
  ·exact ⟨hD, h1⟩
  ·exact h.own x hx
 ·rw [List.filterMap_cons]
  show (D :: H.filterMap HE.id).Nodup
  refine List.nodup_cons.2 ⟨fun hm => ?_, h.nd⟩
  obtain ⟨y, hy, hyb⟩ := List.mem_filterMap.1 hm
  obtain ⟨o', h2, h3⟩ := nv (h.own y hy) (hc y hy) hyb
  rw [h1] at h2
  cases h2
  rw [ho] at h3
  cases h3
def wL (base : Nat) (ids : List Nat) (w : World) (k : Nat) : Option HE := if base ≤ k ∧ ids.contains k = false then (w.heap[k]?).map fun o => .ob k o else none
def vF (base : Nat) (ids : List Nat) (w : World) : List HE := (List.range w.heap.size).filterMap (wL base ids w)
theorem mE {base : Nat} {ids : List Nat} {w : World} {k : Nat} {x : HE} (h : wL base ids w k = some x) : ∃ o, x = .ob k o ∧ base ≤ k ∧ k ∉ ids ∧ w.heap[k]? = some o := by
 unfold wL at h
 split at h
 ·rename_i h1
  obtain ⟨o, h2, h3⟩ := Option.map_eq_some_iff.1 h
  exact ⟨o, h3.symm, h1.1, by simpa using h1.2, h2⟩
 ·cases h
theorem Hp.xl {w0 w : World} {H : List HE} (h : Hp w0 H w) : Hp w0 (H ++ vF w0.heap.size (H.filterMap HE.id) w) w := by
 refine ⟨h.below, fun x hx => ?_, ?_⟩
 ·rcases List.mem_append.1 hx with hx | hx
  ·exact h.own x hx
  ·obtain ⟨k, _, hk⟩ := List.mem_filterMap.1 hx
   obtain ⟨o, rfl, h1, _, h3⟩ := mE hk
   exact ⟨h1, h3⟩
 ·rw [List.filterMap_append]
  refine List.nodup_append.2 ⟨h.nd, ?_, fun a ha b hb e => ?_⟩
  ·unfold vF
   rw [List.filterMap_filterMap]
   refine List.Pairwise.filterMap _ (fun a a' hne b hb b' hb' e => ?_) List.nodup_range
   obtain ⟨x, hx, hx2⟩ := Option.bind_eq_some_iff.1 hb
   obtain ⟨y, hy, hy2⟩ := Option.bind_eq_some_iff.1 hb'
   obtain ⟨o, rfl, _⟩ := mE hx
   obtain ⟨o', rfl, _⟩ := mE hy
   obtain rfl : a = b := Option.some.inj hx2
   obtain rfl : a' = b' := Option.some.inj hy2
   exact hne e
  ·obtain ⟨x, hx, hx2⟩ := List.mem_filterMap.1 hb
   obtain ⟨k, _, hk⟩ := List.mem_filterMap.1 hx
   obtain ⟨o, rfl, _, h2, _⟩ := mE hk
   obtain rfl : k = b := Option.some.inj hx2
   exact h2 (e ▸ ha)
theorem Hp.keeps {w0 w w' : World} {H H' : List HE} (hs : Hp w0 H w) (hc : ∀ x ∈ H, x.yz = true) (he : Hp w0 (H' ++ vF w0.heap.size (H.filterMap HE.id) w) w') (hid : H'.filterMap HE.id = H.filterMap HE.id) : KeepsOthers w w' := by
 have key : ∀ k, k < w.heap.size → k < w'.heap.size ∧ ∀ o, w.heap[k]? = some o → o.isCells = false → w'.heap[k]? = some o := fun k hk => by
  by_cases h0 : k < w0.heap.size
  ·exact ⟨Nat.lt_of_lt_of_le h0 he.size, fun o h1 _ => (he.below.block k h0).trans ((hs.below.block k h0).symm.trans h1)⟩
  ·by_cases hm : k ∈ H.filterMap HE.id
   ·obtain ⟨y, hy, hyb⟩ := List.mem_filterMap.1 (hid ▸ hm)
    refine ⟨(dJ (he.own y (List.mem_append_left _ hy)) hyb).2, fun o h1 h2 => ?_⟩
    obtain ⟨z, hz, hzb⟩ := List.mem_filterMap.1 hm
    obtain ⟨o', h3, h4⟩ := nv (hs.own z hz) (hc z hz) hzb
    rw [h1] at h3
    cases h3
    rw [h2] at h4
    cases h4
   ·have hx : HE.ob k w.heap[k] ∈ vF w0.heap.size (H.filterMap HE.id) w := List.mem_filterMap.2 ⟨k, List.mem_range.2 hk, by
     unfold wL
     rw [if_pos ⟨by omega, by simpa using hm⟩, Array.getElem?_eq_getElem hk]
     rfl⟩
    have h1 := he.own _ (List.mem_append_right _ hx)
    refine ⟨(dJ h1 rfl).2, fun o h2 _ => ?_⟩
    rw [Array.getElem?_eq_getElem hk] at h2
    cases h2
    exact h1.2
 refine ⟨?_, fun k o h1 h2 => (key k (Array.getElem?_eq_some_iff.1 h1).1).2 o h1 h2⟩
 rcases Nat.eq_zero_or_pos w.heap.size with h | h
 ·omega
 ·have := (key (w.heap.size - 1) (by omega)).1
  omega
theorem ld {P : Program} {fn : Func} {tmps : Array Value} {R : Ending → World → Prop} {n : Nat} {w0 : World} {H : List HE} : ∀ (M : List Nat) (w : World), Hp w0 (yf M ++ H) w → (∀ w2, Hp w0 H w2 → ∃ v, (results fn tmps).run P w2 = .ok v w2 ∧ R (.returned v) w2) →
  LeavesInM Fence.wide n P fn tmps R (M.map lF) .returning w
 | [], w, hh, h => h w hh
 | D :: M, w, hh, h => by
  have hD : w.heap[D]? = some (.deferred (some [])) := (hh.own _ List.mem_cons_self).2
  refine ⟨by simp, .inl ⟨D, w.putObj D (.deferred none), rfl, run_takeDeferred hD, ld M _ ?_ h⟩⟩
  have hb := (hh.own _ List.mem_cons_self).1
  have h2 := hh.x5 (i := 0) (x := .ob D (.deferred (some []))) (y := .ob D (.deferred none)) (w' := w.putObj D (.deferred none)) rfl (fun b e => .inl e) ?_ (fun b hlt hne => World.putObj_heap_other (fun e => hne (by rw [e]; rfl))) ⟨hb, ?_⟩
  ·exact h2.sub (List.sublist_cons_self _ _)
  ·have hg := grownBy_putObj' w D (.deferred none)
   refine ⟨hg.os.trans hh.below.os, hg.tape.trans hh.below.tape, hg.output.trans hh.below.output, Nat.le_trans hh.size hg.size, fun k hk => (hg.block k (Nat.lt_of_lt_of_le hk hh.size) fun e => ?_).trans (hh.below.block k hk)⟩
   cases e
   omega
  ·exact World.putObj_heap_same (Array.getElem?_eq_some_iff.1 hD).1
theorem uA {P : Program} {fn : Func} {R : Ending → World → Prop} {ρ : Rf} {w w0 : World} {e : Exit} {M : List Nat} {H : List HE} {rs : List ResultVar} {vs : List Value} (hh : Hp w0 (yf M ++ H) w) (he : e = .normal ∨ e = .ret) (hr : fn.results = rs.toArray)
  (h : ∀ w2, Hp w0 H w2 → fy P ρ w2 rs vs ∧ R (.returned (ow vs)) w2) : Am P fn R e M ρ w := by
 refine ⟨he, fun tmps ht n => ld M w hh fun w2 hh2 => ?_⟩
 obtain ⟨h1, h2⟩ := h w2 hh2
 obtain ⟨_, v, h3, h4⟩ := hQ (e := e) he hr h1 h2
 exact ⟨v, h3 tmps ht, h4⟩
theorem x4 {P : Program} {w : World} {ρ : Rf} {d : Option Nat} {ty : TypeId} {pos : String} {af : Array Edge} {g : Option (Nat × Bool)} {x : Operand} {args : Array Operand} {ts : Array TypeId} {vs : List Value} {l : Nat} {fn : FuncId} {tmps : Array Value} {assign body : Code}
  (hx : ev ρ x = .func (.yield l) #[] #[]) (ha : oF ρ args.toList = vs) (hy : (Instr.yield l vs.toArray).run P w = .ok (.round l fn tmps assign body) w) : (execOp (ev ρ) ⟨d, .call ⟨.value x, args, ts⟩, ty, pos, af, g⟩).run P w = .ok (.round l fn tmps assign body) w := by
 have h2 : args.map (ev ρ) = vs.toArray := jG args ha
 simp [execOp, resolve, Deferred.ofValue, hx, h2, invoke, callFunc, program, Sem.run, hy]
theorem vN {P : Program} {N : Nat} {ops : Array Oper} {Q : Kq} {ρ : Rf} {w : World} {rest : List Oper} {d : Nat} {ty : TypeId} {pos : String} {af : Array Edge} {x : Operand} {args : Array Operand} {ts : Array TypeId} {vs : List Value} {l m : Nat} {R : Ending → World → Prop}
  (hx : ev ρ x = .func (.yield l) #[] #[]) (ha : oF ρ args.toList = vs) (hy : YieldAt Fence.wide m P l vs.toArray w R) (hN : d < N) (kk : ∀ e w', R e w' → ∃ v, e = .returned v ∧ WL ⟨none, [], true⟩ P N ops Q rest (cm ρ d v) w') :
  WL ⟨none, [], true⟩ P N ops Q (⟨some d, .call ⟨.value x, args, ts⟩, ty, pos, af, none⟩ :: rest) ρ w := by
 obtain ⟨fn, tmps, as_, bd, h1, h2⟩ := hy
 refine ⟨fun h => (by cases h), fun a hf n => wpListIn_plain rfl fun K hK => ⟨fun _ _ => trivial, ?_⟩⟩
 rw [hf.eval, iq _ (x4 hx ha h1) (fun _ h => by cases h)]
 refine ⟨fun h => (by cases h), ?_⟩
 refine ⟨trivial, fun c cs _ => ?_⟩
 obtain ⟨e, w', hR, hs⟩ := h2.2 c cs (room_wide _)
 refine ⟨e, w', ?_, hs⟩
 obtain ⟨v, rfl, hk⟩ := kk e w' hR
 exact hK _ _ (hk.ik _ (hf.put hN v) n)
end Go.Proofs.YtioilmppidlbnaaGreatDoor
/- slices.Chunk of a slice of numbers, and what it yields. -/
namespace Go.Proofs.YtioilmppidlbnaaGreatDoor
open Go.RowKit
theorem yQ {P : Program} {ρ : Rf} {w : World} {d : Option Nat} {ty : TypeId} {pos : String} {af : Array Edge} {g : Option (Nat × Bool)} {t e : TypeId} {x lo hi mx : Operand} {ad : Addr} {n c l h q sz : Nat} {k1 k2 k3 : IntKind} {m1 m2 m3 : Int}
  (ht : P.underlying t = some (.slice e)) (hsz : (P.info? e).map (·.size) = some sz) (hx : ev ρ x = .slice (some ad) n c) (hlo : ev ρ lo = .int k1 m1) (hhi : ev ρ hi = .int k2 m2) (hmx : ev ρ mx = .int k3 m3) (e1 : m1 = (l : Int)) (e2 : m2 = (h : Int)) (e3 : m3 = (q : Int))
  (h1 : l ≤ h) (h2 : h ≤ q) (h3 : q ≤ c) (h4 : l < q) : (execOp (ev ρ) ⟨d, .slice t x (some lo) (some hi) (some mx), ty, pos, af, g⟩).run P w = .ok (.value (.slice (some (ad.add (l * sz))) (h - l) (q - l))) w := by
 obtain ⟨i, hi1, hi2⟩ := Option.map_eq_some_iff.1 hsz
 subst e1 e2 e3 hi2
 have a1 : (l : Int) ≤ h := by omega
 have a2 : (h : Int) ≤ q := by omega
 have a3 : (q : Int) ≤ c := by omega
 have a4 : ¬ q = l := by omega
 have a5 : ¬ q - l = 0 := by omega
 simp [execOp, hx, Instr.sliceAt, Instr.slice, run_underlying ht, Instr.sliceBounds, Instr.sliceBound, asIntOf, hlo, hhi, hmx, h1, h2, h3, a4, a5, sizeOf, typeInfo, hi1]
theorem qM (A : Option Addr) (n c K : Nat) (w : World) (hK : 1 ≤ K) :
  Calls Tryz.prog 70 #[.slice A n c, .int .i64 K] w fun r w' => ∃ b2 b3, r = .returned (.func (.func 122) #[] #[.pointer (some ⟨b2, 0, none⟩), .pointer (some ⟨b3, 0, none⟩)]) ∧ Hp w [.blk b3 3 [.int .i64 K] (0, 0), .blk b2 26 [.slice A n c] (0, 0)] w' := by
 have hh := Hp.start w
 refine aj (N := 9) (l := [.slice A n c, .int .i64 K]) Tryz.func70 rfl rfl (by simp) ?_
 refine sr ?_
 refine cw hh [_] ?_
 intro b2 w2 hh
 refine cw hh [_] ?_
 intro b3 w3 hh
 refine im (by first | exact gK rfl | exact gJ rfl) (by decide) ?_
 refine aa (ah (sr ?_))
 refine bI hh 0 ?_
 refine aK (aa (cF (ak (ai (sr ?_)))))
 refine kt rfl (aM (pX rfl) (aM (pX rfl) bE)) (by decide) ?_
 refine im (by first | exact gK rfl | exact gJ rfl) (by decide) ?_
 refine aa (ao ?_)
 refine cx ?_
 exact ⟨_, _, rfl, hh⟩
def qB (b2 b3 : Nat) (W W' : World) : Prop := W'.cell? ⟨b2, 0, none⟩ = W.cell? ⟨b2, 0, none⟩ ∧ W'.cell? ⟨b3, 0, none⟩ = W.cell? ⟨b3, 0, none⟩
theorem nx {W W' : World} (h : Below W.heap.size W W') : W.grownBy W' none := ⟨h.os, h.tape, h.output, h.size, fun k hk _ => h.block k hk⟩
theorem wR {b2 b3 : Nat} {A B C : World} (h : qB b2 b3 A B) (k : qB b2 b3 B C) : qB b2 b3 A C := ⟨k.1.trans h.1, k.2.trans h.2⟩
theorem wY {b2 b3 : Nat} {w : World} (h2 : b2 < w.heap.size) (h3 : b3 < w.heap.size) (W : World) (l : Nat) (o o' : Obj) (hl : w.heap.size ≤ l) : qB b2 b3 W (W.putObj l o') :=
 ⟨World.cell?_of_block (World.putObj_heap_other (fun e => by simp at e; omega)), World.cell?_of_block (World.putObj_heap_other (fun e => by simp at e; omega))⟩
theorem uQ (b2 b3 : Nat) (ad : Addr) (n c K m : Nat) (w : World) (h2 : w.cell? ⟨b2, 0, none⟩ = some (.slice (some ad) n c)) (h3 : w.cell? ⟨b3, 0, none⟩ = some (.int .i64 K)) (hn : n = m * K) (hK : 0 < K) (hc : n ≤ c) (hb : n ≤ 1000000) (hKb : K ≤ 1000000) :
  ∀ N1, SeqStopsK Fence.wide N1 Tryz.prog 122 #[.pointer (some ⟨b2, 0, none⟩), .pointer (some ⟨b3, 0, none⟩)] (fun j : Fin m => #[.slice (some (ad.add (j.val * K * 3))) K K]) (qB b2 b3) (fun xs => xs = List.finRange m) (fun _ => True) m w := by
 intro N1 l J Jx W hW hAb hAbx hY h0
 refine callsIn_wide.2 ?_
 show Calls _ _ #[.func (.yield l) #[] #[], .pointer (some ⟨b2, 0, none⟩), .pointer (some ⟨b3, 0, none⟩)] W _
 have hAbd : ∀ xs W1 W2, J xs W1 → Below W1.heap.size W1 W2 → J xs W2 := fun xs W1 W2 h hb => hAb xs W1 W2 none h (nx hb) (fun r e => nomatch e)
 have c2 := eN hW h2
 have c3 := eN hW h3
 refine rH (N := 31) (l := [.func (.yield l) #[] #[], .pointer (some ⟨b2, 0, none⟩), .pointer (some ⟨b3, 0, none⟩)]) Tryz.func122 rfl rfl (by simp) ?_
 refine sr (aI (aa (al ?_)))
 refine bx [4, 5, 6, 7, 8, 9, 10, 11, 12, 13, 14, 15, 16, 17, 18, 19, 20, 21, 22, 23, 24, 25, 26, 27, 28, 29, 30] 4
  (fun v w' => ∃ j : Nat, j ≤ m ∧ v = .int .i64 ((j * K : Nat) : Int) ∧ J ((List.finRange m).take j) w' ∧ w'.cell? ⟨b2, 0, none⟩ = some (.slice (some ad) n c) ∧ w'.cell? ⟨b3, 0, none⟩ = some (.int .i64 K))
  (fun v _ => n + 1 - (intOf v).toNat) ?_ ?_
 ·exact ⟨0, Nat.zero_le _, by rw [Nat.zero_mul]; rfl, h0, c2, c3⟩
 ·clear c2 c3 h0
  rintro ρ' v w' ⟨j, hj, rfl, hJj, c2, c3⟩
  have hh := Hp.start w'
  by_cases hlt : j < m
  ·have h5 : (j + 1) * K ≤ m * K := Nat.mul_le_mul_right _ hlt
   have h6 : (j + 1) * K = j * K + K := Nat.succ_mul j K
   refine ah (sr (mI ?_))
   refine aV aA.out rfl (c2) (by decide) ?_
   refine a7 ?_
   refine aK (aa (cT (ak (ai (ah (al (ah ?_)))))))
   refine u9 ?_
   refine aE 5 [[(2, none)], [(1, none)], [(4, none)], [(14, some 1), (15, some 2)], [(16, some 3)]] [(4, 17), (3, 16), (2, 15), (1, 14), (0, 13)] hh mixed (by kernel_rfl) ?_
   refine pJ (fun _ hj => eN hj.bl c3) ?_
   refine pJ (fun _ hj => eN hj.bl c2) ?_
   refine dk ?_
   refine bh (i := 3) (fun ρ1 w1 hj hR => qL (l := (j * K)) aN.out aA.size (show ρ1 14 = Value.slice _ _ _ from hR.1) (show ρ1 15 = Value.int _ _ from hR.2.1) (by omega) (by omega) (by omega)) ?_
   refine qa ?_
   refine aW ?_
   intro f W hJ hV
   have hb_3 := hJ.bl
   obtain ⟨v17, v16, v15, v14, v13, _⟩ := hV
   replace hh := hJ.hp
   refine aJ (aZ (ae v17 (ae v16 (ae v15 (ae v14 (ae v13 aH)))))) ?_
   dsimp only [bQ]
   clear hJ
   have hmin : (if ((n - j * K : Nat) : Int) < (K : Int) then ((n - j * K : Nat) : Int) else (K : Int)) = (K : Int) := if_neg (by omega)
   refine qm rfl rfl (by decide) ?_
   rw [hmin]
   have c2' := eN hh.below c2
   have c3' := eN hh.below c3
   have hJ2 := hAbd _ _ _ hJj hh.below
   have hfr : (List.finRange m)[j]? = some ⟨j, hlt⟩ := by rw [List.getElem?_eq_getElem (by rw [List.length_finRange]; exact hlt), List.getElem_finRange]; rfl
   have hy := hY ((List.finRange m).take j) ⟨j, hlt⟩ _ hJ2 (by rw [List.length_take, List.length_finRange]; omega)
   refine aI (aa (sr ?_))
   refine gD (by first | exact gK rfl | exact gJ rfl) (by decide) ?_
   refine aV aA.out rfl (c2') (by decide) ?_
   refine mI (mI (mI ?_))
   refine bz (mI (mI ?_))
   refine bz ?_
   refine a8 rfl rfl (by decide) (yQ aN.out aA.size (ti rfl) rfl rfl rfl (l := j * K) (h := j * K + K) (q := j * K + K) rfl (by omega) (by omega) (by omega) (by omega) (by omega) (by omega)) ?_
   have e28 : j * K + K - j * K = K := by omega
   rw [e28]
   refine vN rfl (aM (ti rfl) bE) hy (by decide) ?_
   rintro e_ w29 (⟨rfl, hJ3, hk⟩ | ⟨rfl, hJx⟩)
   ·refine ⟨_, rfl, ?_⟩
    have c2'' := hk.1.trans c2'
    have c3'' := hk.2.trans c3'
    refine qF ?_
    refine aa (cF (ak (a0 (ai (aq (mI ?_))))))
    refine aV aA.out rfl (c3'') (by decide) ?_
    refine bz (aI (aD (ai ?_)))
    refine ⟨⟨j + 1, hlt, ?_, by rw [a9 hfr]; exact hJ3, c2'', c3''⟩, ?_, ?_⟩
    ·show Value.int _ (((j * K : Nat) : Int) + (K : Int)) = _
     rw [h6]
     rfl
    ·show n + 1 - (((j * K : Nat) : Int) + (K : Int)).toNat < n + 1 - ((j * K : Nat) : Int).toNat
     omega
    ·(repeat (first | exact aw _ _ _ | refine az rfl ?_ | refine au rfl ?_))
   ·refine ⟨_, rfl, ?_⟩
    refine qF ?_
    refine aa (cT (ao (bZ (aQ (aQ (bZ ?_))))))
    refine u4 (by first | exact .inr rfl | exact .inl rfl) rfl ?_
    exact ⟨⟨_, rfl⟩, .inr ⟨_, trivial, hJx⟩⟩
  ·obtain rfl : j = m := by omega
   refine ah (sr (mI ?_))
   refine aV aA.out rfl (c2) (by decide) ?_
   refine a7 ?_
   refine aK (aa (cF ?_))
   refine aY ?_
   refine ay (ay (bm ?_))
   refine u4 (by first | exact .inr rfl | exact .inl rfl) rfl ?_
   rw [List.take_of_length_le (by rw [List.length_finRange]; omega)] at hJj
   exact ⟨⟨_, rfl⟩, .inl ⟨_, rfl, hJj⟩⟩
end Go.Proofs.YtioilmppidlbnaaGreatDoor
/- Plain laws: a line of numbers, parted. No program in sight. -/
namespace Go.Proofs.YtioilmppidlbnaaGreatDoor
def ic (d : Nat) (a b : Dyadic) (i k : Nat) : Dyadic := if k < i then 0 else nD (bin (d - i) (k - i)) * a ^ i * b ^ (k - i)
theorem vn (d : Nat) (s : Dyadic) : ic d s (1 - s) = lO d s := rfl
def ec (xs : List Dyadic) (i : Nat) : Dyadic := (xs[i]?).getD 0
def dv (d : Nat) (M : Nat → Nat → Dyadic) (xs : List Dyadic) : List Dyadic := (List.range (d + 1)).map fun k => sm (List.range (d + 1)) fun i => ec xs i * M i k
def g9 (d : Nat) (a b : Dyadic) (xs : List Dyadic) (i j : Nat) : List Dyadic := (List.range (d + 1)).map fun k => sm (List.range i) (fun m => ec xs m * ic d a b m k) + if i ≤ k ∧ k < i + j then ec xs i * ic d a b i k else 0
theorem jz (d : Nat) (a b : Dyadic) (xs : List Dyadic) (i j : Nat) : (g9 d a b xs i j).length = d + 1 := by simp [g9]
theorem rS (d : Nat) (a b : Dyadic) (xs : List Dyadic) : g9 d a b xs 0 0 = List.replicate (d + 1) 0 := by
 unfold g9
 refine List.eq_replicate_iff.2 ⟨by simp, fun x hx => ?_⟩
 obtain ⟨k, _, rfl⟩ := List.mem_map.1 hx
 rw [if_neg (by omega), Dyadic.add_zero]
 rfl
theorem o0 {d i j k : Nat} {a b : Dyadic} {xs : List Dyadic} (h : k ≤ d) : (g9 d a b xs i j)[k]? = some (sm (List.range i) (fun m => ec xs m * ic d a b m k) + if i ≤ k ∧ k < i + j then ec xs i * ic d a b i k else 0) := by
 unfold g9
 rw [List.getElem?_map, List.getElem?_range (by omega)]
 rfl
theorem vP {d i j : Nat} {a b : Dyadic} {xs : List Dyadic} {o : Dyadic} (h : i + j ≤ d) (ho : (g9 d a b xs i j)[i + j]? = some o) : (g9 d a b xs i j).set (i + j) (o + ec xs i * ic d a b i (i + j)) = g9 d a b xs i (j + 1) := by
 rw [o0 h, if_neg (by omega), Dyadic.add_zero] at ho
 have ho := Option.some.inj ho
 subst ho
 refine List.ext_getElem? fun k => ?_
 rw [List.getElem?_set, jz]
 by_cases hk : k ≤ d
 ·rw [o0 hk, o0 hk]
  by_cases e : i + j = k
  ·subst e
   rw [if_pos rfl, if_pos (by omega), if_pos (by omega)]
  ·rw [if_neg e]
   by_cases h2 : i ≤ k ∧ k < i + j
   ·rw [if_pos h2, if_pos (by omega)]
   ·rw [if_neg h2, if_neg (by omega)]
 ·rw [if_neg (by omega), List.getElem?_eq_none (by rw [jz]; omega), List.getElem?_eq_none (by rw [jz]; omega)]
theorem uE {d i : Nat} {a b : Dyadic} {xs : List Dyadic} (h : i ≤ d) : g9 d a b xs i (d - i + 1) = g9 d a b xs (i + 1) 0 := by
 unfold g9
 refine List.map_congr_left fun k hk => ?_
 have hk := List.mem_range.1 hk
 rw [if_neg (show ¬ (i + 1 ≤ k ∧ k < i + 1 + 0) by omega), Dyadic.add_zero, List.range_succ, kW]
 by_cases h2 : i ≤ k
 ·rw [if_pos (by omega)]
 ·rw [if_neg (by omega)]
  unfold ic
  rw [if_pos (show k < i by omega), Dyadic.mul_zero]
theorem lN (d : Nat) (a b : Dyadic) (xs : List Dyadic) : g9 d a b xs (d + 1) 0 = dv d (ic d a b) xs := by
 unfold g9 dv
 refine List.map_congr_left fun k _ => ?_
 rw [if_neg (by omega), Dyadic.add_zero]
theorem Sz.od {q : Nat} {a : Dyadic} (h : Sz q a) {i d : Nat} (hi : i ≤ d) : Sz (1 + q * d) (a ^ i) := (Sz.pow h i).mono (by have := Nat.mul_le_mul_left q hi; omega)
theorem tB {d i k q : Nat} {a b : Dyadic} (ha : Sz q a) (hb : Sz q b) (hd : d ≤ 127) (hk : k ≤ d) : Sz (130 + 2 * (q * d)) (ic d a b i k) := by
 unfold ic
 split
 ·exact Sz.zero _
 ·refine (((lJ (d - i) (k - i) (by omega)).mul (ha.od (show i ≤ d by omega))).mul (hb.od (show k - i ≤ d by omega))).mono (by omega)
theorem lS {xs : List Dyadic} {k : Nat} (h : ∀ x ∈ xs, Sz k x) (i : Nat) : Sz k (ec xs i) := by
 unfold ec
 cases hx : xs[i]? with
 | none => exact Sz.zero _
 | some x => exact h x (List.mem_of_getElem? hx)
theorem pw {d i j q K : Nat} {a b : Dyadic} {xs : List Dyadic} (hx : ∀ x ∈ xs, Sz K x) (ha : Sz q a) (hb : Sz q b) (hd : d ≤ 127) (hi : i ≤ d + 1) : ∀ x ∈ g9 d a b xs i j, Sz (K + 130 + 2 * (q * d) + 130) x := fun x hx2 => by
 obtain ⟨k, hk, rfl⟩ := List.mem_map.1 hx2
 have hk := List.mem_range.1 hk
 have h1 : ∀ m, Sz (K + (130 + 2 * (q * d))) (ec xs m * ic d a b m k) := fun m => (lS hx m).mul (tB ha hb hd (by omega))
 have h2 := yq (l := List.range i) (f := fun m => ec xs m * ic d a b m k) (k := K + (130 + 2 * (q * d))) fun m _ => h1 m
 rw [List.length_range] at h2
 refine (h2.add (y := if i ≤ k ∧ k < i + j then ec xs i * ic d a b i k else 0) ?_).mono (by omega)
 split
 ·exact (h1 i).mono (by omega)
 ·exact Sz.zero _
theorem gN (d : Nat) (M : Nat → Nat → Dyadic) (xs : List Dyadic) : (dv d M xs).length = d + 1 := by simp [dv]
theorem lu {d k : Nat} {M : Nat → Nat → Dyadic} {xs : List Dyadic} (h : k ≤ d) : (dv d M xs)[k]? = some (sm (List.range (d + 1)) fun i => ec xs i * M i k) := by
 unfold dv
 rw [List.getElem?_map, List.getElem?_range (by omega)]
 rfl
theorem qC {d : Nat} {s : Dyadic} {xs : List Dyadic} (hl : xs.length = d + 1) : (dv d (ic d (1 - s) s) xs.reverse).reverse = dv d (lp d s) xs := by
 refine List.ext_getElem? fun k => ?_
 by_cases hk : k ≤ d
 ·rw [List.getElem?_reverse (by rw [gN]; omega), gN, show d + 1 - 1 - k = d - k by omega, lu (by omega), lu hk]
  congr 1
  rw [zd]
  refine jq fun i hi => ?_
  have hi := List.mem_range.1 hi
  have e1 : ec xs.reverse (d - i) = ec xs i := by
   unfold ec
   rw [List.getElem?_reverse (by omega), hl, show d + 1 - 1 - (d - i) = i by omega]
  rw [e1]
  congr 1
  unfold ic lp
  by_cases h : i < k
  ·rw [if_pos (by omega), if_pos h]
  ·rw [if_neg (by omega), if_neg h, show d - (d - i) = i by omega, show d - k - (d - i) = i - k by omega]
   generalize nD (bin i (i - k)) = x
   generalize (1 - s) ^ (d - i) = y
   generalize s ^ (i - k) = z
   grind
 ·rw [List.getElem?_eq_none (by rw [List.length_reverse, gN]; omega), List.getElem?_eq_none (by rw [gN]; omega)]
end Go.Proofs.YtioilmppidlbnaaGreatDoor
/- Plain laws: the lines of a form along an axis, changed one by one, block by block. No program in sight. -/
namespace Go.Proofs.YtioilmppidlbnaaGreatDoor
section
variable (A : List Nat) (d : Nat) (φ : List Dyadic → List Dyadic)
def p6 (X : List Dyadic) (q f i : Nat) : List Dyadic := (List.range X.length).map fun p =>
 if p / aC A / (d + 1) = q ∧ (p % aC A < f ∨ p % aC A = f ∧ p / aC A % (d + 1) < i) then ec (φ (dz A d X (p % aC A) q)) (p / aC A % (d + 1)) else ec X p
def u3 (X : List Dyadic) (q : Nat) : List Dyadic := p6 A d φ X q (aC A) 0
end
section
variable {A : List Nat} {d : Nat} {φ : List Dyadic → List Dyadic} {X : List Dyadic}
theorem gE (q f i : Nat) : (p6 A d φ X q f i).length = X.length := by simp [p6]
theorem kq {q f i p : Nat} (h : p < X.length) : (p6 A d φ X q f i)[p]? = some (if p / aC A / (d + 1) = q ∧ (p % aC A < f ∨ p % aC A = f ∧ p / aC A % (d + 1) < i) then ec (φ (dz A d X (p % aC A) q)) (p / aC A % (d + 1)) else ec X p) := by
 unfold p6
 rw [List.getElem?_map, List.getElem?_range h]
 rfl
theorem kF {f k q : Nat} (hf : f < aC A) (hk : k ≤ d) : cW A d f k q % aC A = f ∧ cW A d f k q / aC A % (d + 1) = k ∧ cW A d f k q / aC A / (d + 1) = q := by
 unfold cW
 have hA := dx A
 rw [Nat.add_mul_mod_self_left, Nat.mod_eq_of_lt hf, Nat.add_mul_div_left _ _ hA, Nat.div_eq_of_lt hf, Nat.zero_add, Nat.add_mul_mod_self_left, Nat.mod_eq_of_lt (by omega), Nat.add_mul_div_left _ _ (by omega), Nat.div_eq_of_lt (by omega), Nat.zero_add]
 exact ⟨rfl, rfl, rfl⟩
theorem xE (p : Nat) : cW A d (p % aC A) (p / aC A % (d + 1)) (p / aC A / (d + 1)) = p := by
 unfold cW
 rw [Nat.mod_add_div, Nat.mod_add_div]
theorem ll {l : List Dyadic} {k : Nat} (h : k < l.length) : l[k]? = some (ec l k) := by
 unfold ec
 rw [List.getElem?_eq_getElem h]
 rfl
theorem vB (q : Nat) : p6 A d φ X q 0 0 = X := by
 refine List.ext_getElem? fun p => ?_
 by_cases h : p < X.length
 ·rw [kq h, if_neg (by omega), ll h]
 ·rw [List.getElem?_eq_none (by rw [gE]; omega), List.getElem?_eq_none (by omega)]
theorem vo (q f : Nat) : p6 A d φ X q f (d + 1) = p6 A d φ X q (f + 1) 0 := by
 refine List.ext_getElem? fun p => ?_
 by_cases h : p < X.length
 ·rw [kq h, kq h]
  have := Nat.mod_lt (p / aC A) (show 0 < d + 1 by omega)
  congr 1
  by_cases h1 : p / aC A / (d + 1) = q ∧ p % aC A < f + 1
  ·rw [if_pos (by omega), if_pos (by omega)]
  ·rw [if_neg (by omega), if_neg (by omega)]
 ·rw [List.getElem?_eq_none (by rw [gE]; omega), List.getElem?_eq_none (by rw [gE]; omega)]
theorem vg {q f i : Nat} (hf : f < aC A) (hi : i ≤ d) (hp : cW A d f i q < X.length) : (p6 A d φ X q f 0)[cW A d f i q]? = some (ec (dz A d X f q) i) := by
 obtain ⟨h1, h2, h3⟩ := kF (q := q) hf hi
 rw [kq hp, h1, h2, h3, if_neg (by omega)]
 congr 1
 unfold dz
 have : ec ((List.range (d + 1)).map fun i => (X[cW A d f i q]?).getD 0) i = (X[cW A d f i q]?).getD 0 := by
  unfold ec
  rw [List.getElem?_map, List.getElem?_range (by omega)]
  rfl
 rw [this]
 rfl
theorem xC {q f i : Nat} (hf : f < aC A) (hi : i ≤ d) (hp : cW A d f i q < X.length) : (p6 A d φ X q f i).set (cW A d f i q) (ec (φ (dz A d X f q)) i) = p6 A d φ X q f (i + 1) := by
 obtain ⟨h1, h2, h3⟩ := kF (q := q) hf hi
 refine List.ext_getElem? fun p => ?_
 rw [List.getElem?_set, gE]
 by_cases h : p < X.length
 ·rw [kq h, kq h]
  by_cases e : cW A d f i q = p
  ·subst e
   rw [if_pos rfl, if_pos h, h1, h2, h3, if_pos (by omega)]
  ·rw [if_neg e]
   congr 1
   by_cases h4 : p / aC A / (d + 1) = q ∧ (p % aC A < f ∨ p % aC A = f ∧ p / aC A % (d + 1) < i)
   ·rw [if_pos h4, if_pos (by omega)]
   ·rw [if_neg h4, if_neg]
    intro h5
    have h6 : p / aC A / (d + 1) = q ∧ p % aC A = f ∧ p / aC A % (d + 1) = i := by omega
    have := xE (A := A) (d := d) p
    rw [h6.1, h6.2.1, h6.2.2] at this
    exact e this
 ·rw [if_neg (by omega), List.getElem?_eq_none (by rw [gE]; omega), List.getElem?_eq_none (by rw [gE]; omega)]
theorem y2 {q f i k G : Nat} (hX : ∀ x ∈ X, Sz k x) (hφ : ∀ l : List Dyadic, l.length = d + 1 → (∀ x ∈ l, Sz k x) → ∀ x ∈ φ l, Sz (k + G) x) : ∀ x ∈ p6 A d φ X q f i, Sz (k + G) x := fun x hx => by
 obtain ⟨p, hp, rfl⟩ := List.mem_map.1 hx
 split
 ·refine lS (hφ _ (by simp [dz]) fun y hy => ?_) _
  obtain ⟨j, _, rfl⟩ := List.mem_map.1 hy
  exact lS hX _
 ·exact (lS hX p).mono (by omega)
def uV (A : List Nat) (d : Nat) (B : List Nat) (M : Nat → Nat → Dyadic) (xs : List Dyadic) (j : Nat) : List Dyadic := (List.range xs.length).map fun p => if p / aC A / (d + 1) < j then ec (et (A ++ d :: B) A.length M xs) p else ec xs p
theorem kN (B : List Nat) (M : Nat → Nat → Dyadic) (xs : List Dyadic) (j : Nat) : (uV A d B M xs j).length = xs.length := by simp [uV]
theorem mZ {B : List Nat} {M : Nat → Nat → Dyadic} {xs : List Dyadic} {j p : Nat} (h : p < xs.length) : (uV A d B M xs j)[p]? = some (if p / aC A / (d + 1) < j then ec (et (A ++ d :: B) A.length M xs) p else ec xs p) := by
 unfold uV
 rw [List.getElem?_map, List.getElem?_range h]
 rfl
theorem wF (B : List Nat) (M : Nat → Nat → Dyadic) (xs : List Dyadic) : uV A d B M xs 0 = xs := by
 refine List.ext_getElem? fun p => ?_
 by_cases h : p < xs.length
 ·rw [mZ h, if_neg (Nat.not_lt_zero _), ll h]
 ·rw [List.getElem?_eq_none (by rw [kN]; omega), List.getElem?_eq_none (by omega)]
theorem wj {B : List Nat} {M : Nat → Nat → Dyadic} {xs : List Dyadic} (hl : xs.length = aC (A ++ d :: B)) : uV A d B M xs (aC B) = et (A ++ d :: B) A.length M xs := by
 refine List.ext_getElem? fun p => ?_
 by_cases h : p < xs.length
 ·obtain ⟨f, k, q, hf, hk, hq, rfl⟩ := ko (A := A) (d := d) (B := B) (p := p) (by omega)
  rw [mZ h, (kF hf hk).2.2, if_pos hq, ll (by rw [iY]; omega)]
 ·rw [List.getElem?_eq_none (by rw [kN]; omega), List.getElem?_eq_none (by rw [iY]; omega)]
theorem vK {B : List Nat} {M : Nat → Nat → Dyadic} {xs : List Dyadic} {j : Nat} (hl : xs.length = aC (A ++ d :: B)) : u3 A d (dv d M) (uV A d B M xs j) j = uV A d B M xs (j + 1) := by
 refine List.ext_getElem? fun p => ?_
 by_cases h : p < xs.length
 ·obtain ⟨f, k, q, hf, hk, hq, rfl⟩ := ko (A := A) (d := d) (B := B) (p := p) (by omega)
  obtain ⟨h1, h2, h3⟩ := kF (q := q) hf hk
  unfold u3
  rw [kq (by rw [kN]; exact h), mZ h, h1, h2, h3]
  congr 1
  by_cases e : q = j
  ·subst e
   rw [if_pos ⟨rfl, .inl hf⟩, if_pos (by omega)]
   have e1 : dz A d (uV A d B M xs q) f q = dz A d xs f q := by
    unfold dz
    refine List.map_congr_left fun i hi => ?_
    have hi := List.mem_range.1 hi
    have hp2 : cW A d f i q < xs.length := by rw [hl]; exact kx hf (by omega) hq
    rw [mZ hp2, (kF hf (show i ≤ d by omega)).2.2, if_neg (by omega), ll hp2]
   rw [e1]
   have e2 : ec (dv d M (dz A d xs f q)) k = sm (List.range (d + 1)) fun i => ec (dz A d xs f q) i * M i k := by
    show ((dv d M _)[k]?).getD 0 = _
    rw [lu hk]
    rfl
   have e3 : ec (et (A ++ d :: B) A.length M xs) (cW A d f k q) = sm (List.range (d + 1)) fun i => (xs[cW A d f i q]?).getD 0 * M i k := by
    show ((et _ _ M xs)[_]?).getD 0 = _
    rw [p8 M xs hf hk hq]
    rfl
   rw [e2, e3]
   refine jq fun i hi => ?_
   have hi := List.mem_range.1 hi
   congr 1
   show ((dz A d xs f q)[i]?).getD 0 = _
   unfold dz
   rw [List.getElem?_map, List.getElem?_range hi]
   rfl
  ·rw [if_neg (by omega)]
   have e1 : ec (uV A d B M xs j) (cW A d f k q) = if q < j then ec (et (A ++ d :: B) A.length M xs) (cW A d f k q) else ec xs (cW A d f k q) := by
    show ((uV A d B M xs j)[_]?).getD 0 = _
    rw [mZ h, h3]
    rfl
   rw [e1]
   by_cases h4 : q < j
   ·rw [if_pos h4, if_pos (by omega)]
   ·rw [if_neg h4, if_neg (by omega)]
 ·rw [List.getElem?_eq_none (by unfold u3; rw [gE, kN]; omega), List.getElem?_eq_none (by rw [kN]; omega)]
end
end Go.Proofs.YtioilmppidlbnaaGreatDoor
/- The walks through knife.lower, slices.Reverse and knife.upper. -/
namespace Go.Proofs.YtioilmppidlbnaaGreatDoor
open Go.RowKit
theorem uk (N : Nat) : fY N [.bool false, .string (ByteArray.mk #[]), .int .i64 0] = br NR.cells ((List.replicate N (0 : Dyadic)).map nR) := by
 rw [vd, qS]
theorem Sz.bk {k : Nat} {x : Dyadic} (h : Sz k x) : (nR x).bk.size ≤ k + 1 := by have := h.nr.1; omega
theorem xQ (m : Nat) : vD [m] = (jc m).map fun n => nR (nD n) := by
 have h : se [m] = jc m := by
  have h1 := qh [] m
  have h2 : se [] = [1] := by decide
  rw [List.nil_append, h2] at h1
  rw [h1]
  simp
 unfold vD
 rw [h]
structure mi (q : Nat) (s : NR) (x : Dyadic) : Prop where
 ok : s.ok
 bk : s.bk.size ≤ 2001
 d : s.d = x
 sz : Sz q x
theorem mi.of {q : Nat} {x : Dyadic} (h : Sz q x) (hq : q ≤ 2000) : mi q (nR x) x := ⟨h.ok (by omega), by have := h.bk; omega, dH x, h⟩
theorem l3 (sa sb : NR) (a b : Dyadic) (L : Option Addr) (n c d : Nat) (xs : List Dyadic) (k q : Nat) (w : World) (hT : fK w) (hS : Sl w L n 3 (br NR.cells (xs.map nR))) (hn : n = d + 1) (hd : d ≤ 127) (hx : ∀ x ∈ xs, Sz k x) (va : mi q sa a) (vb : mi q sb b) (hk : k ≤ 300000) (hq : q ≤ 2000) :
  Calls Tryz.prog 87 #[.agg #[.bool sa.neg, .string sa.bk, .int .i64 sa.e, .bool sb.neg, .string sb.bk, .int .i64 sb.e], .slice L n c] w fun r w' => ∃ A c', r = .returned (.slice A n c') ∧ w'.ownsRow w.heap.size 39 3 (.slice A n c') n (br NR.cells ((dv d (ic d a b) xs).map nR)) ∧ Below w.heap.size w w' := by
 have hh := Hp.start w
 have hln : xs.length = n := by have := hS.eI NR.len (by decide); simpa using this
 have hqd : q * d ≤ 2000 * 127 := Nat.mul_le_mul hq hd
 have ha := va.sz
 have hb := vb.sz
 have hpw : ∀ (sz : NR) (z : Dyadic), mi q sz z → ∀ (i : Nat), i ≤ d → ∀ w1, fK w1 → Calls Tryz.prog 121 #[.agg #[.bool sz.neg, .string sz.bk, .int .i64 sz.e], .int .i64 (i : Int)] w1 fun r w' => r = .returned (.agg #[.bool (nR (z ^ i)).neg, .string (nR (z ^ i)).bk, .int .i64 (nR (z ^ i)).e]) ∧ Below w1.heap.size w1 w' := fun sz z hz i hi w1 hT1 => by
  have h1 := hz.bk
  have h2 : i * sz.bk.size ≤ 127 * 2001 := Nat.mul_le_mul (by omega) (by omega)
  have := r4 sz i w1 hT1 hz.ok (by rw [Int.toNat_natCast]; omega) (by omega)
  rwa [hz.d, Int.toNat_natCast] at this
 obtain ⟨ad, rfl, hr⟩ := hS.at_ (by omega)
 refine aj (N := 66) (l := [.agg #[.bool sa.neg, .string sa.bk, .int .i64 sa.e, .bool sb.neg, .string sb.bk, .int .i64 sb.e], .slice (some ad) n c]) Tryz.func87 rfl rfl (by simp) ?_
 refine sr ?_
 refine cw hh [_,_,_,_,_,_] ?_
 intro b2 w2 hh
 refine aL (aa (sr (mL (a7 ?_))))
 refine eo (aI (aa (sr (mI ?_))))
 refine bz ?_
 refine gn (n := n) hh rfl rfl (by omega) (by omega) aN.out aA.out rfl (by omega) (by omega) (by decide) ?_
 intro b16 w16 hh
 refine aL (aa (ah (sr (mL (a7 (mI (aa (al ?_))))))))
 rw [uk, hn, ← rS d a b xs, ← hn] at hh
 refine bx [7, 8, 9, 10, 19, 20, 21, 22, 23, 24, 25, 26, 27, 28, 29, 30, 31, 32, 33, 34, 35, 36, 37, 38, 39, 40, 41, 42, 43, 44, 45, 46, 47, 48, 49, 50, 51, 52, 53, 54, 55, 56, 57, 58, 59, 60, 61, 62, 63, 64] 19
  (fun v w' => ∃ i : Nat, i ≤ n ∧ v = .int .i64 i ∧ Hp w [.row (some ⟨b16, 0, none⟩) n n 39 3 (br NR.cells ((g9 d a b xs i 0).map nR)), .blk b2 117 [.bool sa.neg, .string sa.bk, .int .i64 sa.e, .bool sb.neg, .string sb.bk, .int .i64 sb.e] (0, 0)] w')
  (fun v _ => n - (intOf v).toNat) ?_ ?_
 ·exact ⟨0, Nat.zero_le _, rfl, hh⟩
 ·clear hh
  rintro ρ' v w' ⟨i, hi, rfl, hh⟩
  by_cases hlt : i < n
  ·obtain ⟨x, hxi⟩ := aO (l := xs) (k := i) (by omega)
   have hxn : (xs.map nR)[i]? = some (nR x) := by rw [List.getElem?_map, hxi]; rfl
   have hat : ec xs i = x := by unfold ec; rw [hxi]; rfl
   have zx := hx x (List.mem_of_getElem? hxi)
   have hpa := hpw sa a va i (by omega)
   have zp := ha.od (show i ≤ d by omega)
   have zc := zx.mul zp
   have hmul := fun A cc w1 hT1 hS1 => ke A 2 cc [nR x, nR (a ^ i)] w1 hT1 hS1 (by simpa using ⟨zx.ok (by omega), zp.ok (by omega)⟩) 600000 (by simpa [dH] using ⟨zx.mono (by omega), zp.mono (by omega)⟩) (by omega) (by omega)
   rw [show iC ([nR x, nR (a ^ i)].map NR.d) = x * a ^ i by simp only [List.map_cons, List.map_nil, dH]; show 1 * x * a ^ i = _; rw [Dyadic.one_mul]] at hmul
   refine sr ?_
   refine aK (aa (ah (cT (ak (ai (ah (al (sr (mI ?_)))))))))
   refine aX (k := i) aN.out aA.size rfl rfl (by omega) (by omega) (by decide) ?_
   refine fu (vs := [_, _, _]) aA.out rfl ((hr.ext hh.below).recAt NR.len hxn) rfl (by decide) ?_
   refine cf hh ?_
   intro b8 w8 hh
   refine aI ?_
   refine bD hh 0 [_,_,_] ?_
   intro ws hh
   replace hh : Hp _ (.blk _ _ [_, _, _] _ :: _) _ := hh
   refine aa (ah ?_)
   refine aE 5 [[(8, none)], [(2, none)], [(25, some 1)], [(7, none)], [(26, some 2), (27, some 3)]] [(4, 28), (3, 27), (2, 26), (1, 25), (0, 24)] hh mixed (by kernel_rfl) ?_
   refine dV 0 [_,_,_] ?_
   refine dT ?_
   refine dV 2 [_,_,_] ?_
   refine dk ?_
   refine dC (fun _ hj => hpa _ (hT.hp hj.hp)) ?_
   refine aW ?_
   intro f W hJ hV
   have hb_6 := hJ.bl
   obtain ⟨v28, v27, v26, v25, v24, _⟩ := hV
   replace hh := hJ.hp
   refine aJ (aZ (ae v28 (ae v27 (ae v26 (ae v25 (ae v24 aH)))))) ?_
   dsimp only [bQ]
   clear hJ
   refine bo hh (cs := [_, _, _, _, _, _]) aN.out aA.out (a6 (ed rfl) (a6 (ed rfl) bR)) rfl rfl (by decide) (by decide) (by decide) rfl (by decide) ?_
   intro b29 w29 hh
   refine bB hh (hmul _ _ _ (hT.hp hh) (hh.bf (i := 0) rfl)) rfl ?_
   intro w30 hh
   refine bD hh 1 [_,_,_] ?_
   intro ws hh
   replace hh : Hp _ (_ :: .blk _ _ [_, _, _] _ :: _) _ := hh
   refine aa (sr (mI (mI ?_)))
   refine eo ?_
   refine bo hh (cs := [_]) aN.out aA.out (a6 (bM rfl) bR) rfl rfl (by decide) (by decide) (by decide) rfl (by decide) ?_
   intro b34 w34 hh
   have e33 : (n : Int) - 1 - (i : Int) = ((d - i : Nat) : Int) := by omega
   rw [e33] at hh
   have hcw : aC [d - i] = d - i + 1 := by simp [aC]
   have hwt := fun w1 hT1 hS1 => mV (some ⟨b34, 0, none⟩) 1 1 [d - i] w1 hT1 hS1 (by simp) (by simp; omega) (by rw [hcw]; omega)
   rw [hcw, xQ] at hwt
   refine aU (hwt _ (hT.hp hh) (hh.bf (i := 0) rfl)) av.out rfl (by decide) ?_
   rintro e_ w35 ⟨A35, c35, rfl, hown_, hb_⟩
   refine ⟨_, rfl, ?_⟩
   replace hh := hh.bj (x := .row _ _ _ _ _ _) hb_ hown_
   refine a7 (mI (aa (al ?_)))
   replace hh := hh.sub (List.Sublist.cons_cons _ (List.Sublist.cons _ (List.Sublist.cons _ (List.Sublist.cons_cons _ (List.Sublist.cons_cons _ (List.Sublist.cons_cons _ List.Sublist.slnil))))))
   refine bx [9, 10, 37, 38, 39, 40, 41, 42, 43, 44, 45, 46, 47, 48, 49, 50, 51, 52, 53, 54, 55, 56, 57, 58, 59, 60, 61, 62, 63] 37
    (fun v w' => ∃ j : Nat, j ≤ d - i + 1 ∧ v = .int .i64 j ∧ Hp w [.row A35 (d - i + 1) c35 39 3 (br NR.cells ((jc (d - i)).map fun n => nR (nD n))), .blk b8 39 [.bool (nR (x * a ^ i)).neg, .string (nR (x * a ^ i)).bk, .int .i64 (nR (x * a ^ i)).e] (0, 0), .row (some ⟨b16, 0, none⟩) n n 39 3 (br NR.cells ((g9 d a b xs i j).map nR)), .blk b2 117 [.bool sa.neg, .string sa.bk, .int .i64 sa.e, .bool sb.neg, .string sb.bk, .int .i64 sb.e] (0, 0)] w')
    (fun v _ => d - i + 1 - (intOf v).toNat) ?_ ?_
   ·exact ⟨0, Nat.zero_le _, rfl, hh⟩
   ·clear hh
    rintro ρ2 v w2 ⟨j, hj, rfl, hh⟩
    by_cases hjn : j < d - i + 1
    ·have hbl : (jc (d - i))[j]? = some (bin (d - i) j) := ml (by omega)
     have hbn : ((jc (d - i)).map fun n => nR (nD n))[j]? = some (nR (nD (bin (d - i) j))) := by rw [List.getElem?_map, hbl]; rfl
     have zb := lJ (d - i) j (by omega)
     have hpb := hpw sb b vb j (by omega)
     have zq := hb.od (show j ≤ d by omega)
     obtain ⟨o, ho⟩ := aO (l := g9 d a b xs i j) (k := i + j) (by rw [jz]; omega)
     have hon : ((g9 d a b xs i j).map nR)[i + j]? = some (nR o) := by rw [List.getElem?_map, ho]; rfl
     have zo := pw (j := j) hx ha hb hd (show i ≤ d + 1 by omega) o (List.mem_of_getElem? ho)
     have zy := (zc.mul zb).mul zq
     have hm3 := fun A cc w1 hT1 hS1 => ke A 3 cc [nR (x * a ^ i), nR (nD (bin (d - i) j)), nR (b ^ j)] w1 hT1 hS1 (by simpa using ⟨zc.ok (by omega), zb.ok (by omega), zq.ok (by omega)⟩) 600000 (by simpa [dH] using ⟨zc.mono (by omega), zb.mono (by omega), zq.mono (by omega)⟩) (by omega) (by omega)
     rw [show iC ([nR (x * a ^ i), nR (nD (bin (d - i) j)), nR (b ^ j)].map NR.d) = x * a ^ i * nD (bin (d - i) j) * b ^ j by simp only [List.map_cons, List.map_nil, dH]; show 1 * (x * a ^ i) * _ * _ = _; rw [Dyadic.one_mul]] at hm3
     have hset := vP (show i + j ≤ d by omega) ho
     have hval : ec xs i * ic d a b i (i + j) = x * a ^ i * nD (bin (d - i) j) * b ^ j := by
      unfold ic
      rw [hat, if_neg (by omega), show i + j - i = j by omega]
      generalize nD (bin (d - i) j) = u
      generalize a ^ i = v
      generalize b ^ j = z
      grind
     rw [hval] at hset
     generalize x * a ^ i * nD (bin (d - i) j) * b ^ j = y at *
     have hsum := fun A cc w1 hT1 hS1 => kp A 2 cc [nR o, nR y] w1 hT1 hS1 (by simpa using ⟨zo.ok (by omega), zy.ok (by omega)⟩) 2000000 (by simpa [dH] using ⟨zo.mono (by omega), zy.mono (by omega)⟩) (by omega)
     rw [show kU ([nR o, nR y].map NR.d) = o + y by simp only [List.map_cons, List.map_nil, dH, nn]] at hsum
     have hll : ((g9 d a b xs i j).map nR).length = n := by rw [List.length_map, jz]; omega
     generalize g9 d a b xs i j = S at *
     have hrl := fS NR.len (S.map nR)
     obtain ⟨gw, rfl⟩ := hh.ea (i := 0) rfl (by omega)
     refine sr ?_
     refine aK (aa (ah (cT (ak (ai (ah (al (sr (mI ?_)))))))))
     refine bA (k := j) aN.out aA.size rfl rfl (by omega) (by omega) (by decide) ?_
     refine fu (vs := [_, _, _]) aA.out rfl (hh.ie (f := NR.cells) (x := nR (nD (bin (d - i) j))) (l := (jc (d - i)).map fun n => nR (nD n)) (i := 0) rfl NR.len (by decide) hbn) rfl (by decide) ?_
     refine cf hh ?_
     intro b10 w10 hh
     refine aI ?_
     refine bD hh 0 [_,_,_] ?_
     intro ws hh
     replace hh : Hp _ (.blk _ _ [_, _, _] _ :: _) _ := hh
     refine aa ?_
     refine aE 20 [[(6, none)], [(7, none)], [(9, none)], [(43, some 1), (44, some 2)], [(6, none)], [(7, none)], [(9, none)], [(47, some 5), (48, some 6)], [(46, some 4), (49, some 7)], [(50, some 8)], [(8, none)], [(10, none)], [(2, none)], [(54, some 12)], [(9, none)], [(55, some 13), (56, some 14)], [(52, some 10), (53, some 11), (57, some 15)], [(58, some 16)], [(51, some 9), (59, some 17)], [(60, some 18)]] [(19, 61), (18, 60), (17, 59), (16, 58), (15, 57), (14, 56), (13, 55), (12, 54), (11, 53), (10, 52), (9, 51), (8, 50), (7, 49), (6, 48), (5, 47), (4, 46), (3, 45), (2, 44), (1, 43), (0, 42)] hh mixed (by kernel_rfl) ?_
     refine g6 ?_
     refine dk ?_
     refine dk ?_
     refine rb ?_
     refine g6 ?_
     refine dk ?_
     refine dk ?_
     refine rb ?_
     refine wJ ((i + j)) ?_
     refine uW [_,_,_] (fun _ hj => hj.hp.ie (f := NR.cells) (x := nR o) (l := S.map nR) (i := 3) rfl NR.len (by decide) hon) ?_
     refine dV 2 [_,_,_] ?_
     refine dV 0 [_,_,_] ?_
     refine dT ?_
     refine dV 4 [_,_,_] ?_
     refine dk ?_
     refine dC (fun _ hj => hpb _ (hT.hp hj.hp)) ?_
     refine uT [_,_,_,_,_,_,_,_,_] ?_
     refine bC (i := 17) (Is (.agg #[.bool (nR y).neg, .string (nR y).bk, .int .i64 (nR y).e])) Is.ext ?_ ?_
     ·intro ρ1 w1 hj hR
      obtain ⟨A58, c58, h58, s58⟩ := hR.1
      exact bV rfl (bJ av.out (aM h58 bE)) (hm3 A58 c58 _ (hT.hp hj.hp) s58) (fun _ _ hq => ⟨_, hq.1, hq.2, rfl⟩)
     refine uT [_,_,_,_,_,_] ?_
     refine bC (i := 19) (Is (.agg #[.bool (nR (o + y)).neg, .string (nR (o + y)).bk, .int .i64 (nR (o + y)).e])) Is.ext ?_ ?_
     ·intro ρ1 w1 hj hR
      obtain ⟨A60, c60, h60, s60⟩ := hR.1
      exact bV rfl (bJ av.out (aM h60 bE)) (hsum A60 c60 _ (hT.hp hj.hp) s60) (fun _ _ hq => ⟨_, hq.1, hq.2, rfl⟩)
     refine aW ?_
     intro f W hJ hV
     have hb_10 := hJ.bl
     obtain ⟨v61, v60, v59, v58, v57, v56, v55, v54, v53, v52, v51, v50, v49, v48, v47, v46, v45, v44, v43, v42, _⟩ := hV
     obtain ⟨A58, c58, e58, f58⟩ : Rows _ _ _ (f 16) W := v58
     obtain ⟨A60, c60, e60, f60⟩ : Rows _ _ _ (f 18) W := v60
     replace hh := hJ.hp
     refine aJ (aZ (ae v61 (ae e60 (ae v59 (ae e58 (ae v57 (ae v56 (ae v55 (ae v54 (ae v53 (ae v52 (ae v51 (ae v50 (ae v49 (ae v48 (ae v47 (ae v46 (ae v45 (ae v44 (ae v43 (ae v42 aH))))))))))))))))))))) ?_
     dsimp only [bQ]
     clear e58 e60 hJ
     refine bA (k := (i + j)) aN.out aA.size rfl rfl (by omega) (by omega) (by decide) ?_
     refine bF hh (i := 3) (vs := [_, _, _]) rfl rfl (ed rfl) rfl aA.out rfl (by omega) rfl ?_
     intro ws hh
     simp only [List.set_cons_zero, List.set_cons_succ] at hh
     rw [show cB (br NR.cells (S.map nR)) ((i + j) * 3) [.bool (nR (o + y)).neg, .string (nR (o + y)).bk, .int .i64 (nR (o + y)).e] = br NR.cells ((S.map nR).set (i + j) (nR (o + y))) from hZ NR.len (by omega), ← List.map_set, hset] at hh
     refine aD (a0 (ai (aq ?_)))
     refine bz (mI (aD (ai ?_)))
     replace hh := hh.sub (List.Sublist.cons _ (List.Sublist.cons_cons _ (List.Sublist.cons_cons _ (List.Sublist.cons_cons _ (List.Sublist.cons_cons _ List.Sublist.slnil)))))
     refine ⟨⟨j + 1, by omega, rfl, hh⟩, by show d - i + 1 - (j + 1) < d - i + 1 - j; omega, ?_⟩
     (repeat (first | exact aw _ _ _ | refine az rfl ?_ | refine au rfl ?_))
    ·obtain rfl : j = d - i + 1 := by omega
     rw [uE (by omega)] at hh
     refine sr ?_
     refine aK (aa (ah (cF ?_)))
     refine aY ?_
     refine ay (ay (bm (a0 (ai (aq ?_)))))
     refine bz (mI (aD (ai ?_)))
     replace hh := hh.sub (List.Sublist.cons _ (List.Sublist.cons _ (List.Sublist.cons_cons _ (List.Sublist.cons_cons _ List.Sublist.slnil))))
     refine ⟨⟨i + 1, by omega, rfl, hh⟩, by show n - (i + 1) < n - i; omega, ?_⟩
     (repeat (first | exact aw _ _ _ | refine az rfl ?_ | refine au rfl ?_))
  ·obtain rfl : i = n := by omega
   rw [show g9 d a b xs i 0 = dv d (ic d a b) xs by rw [hn, lN]] at hh
   refine sr ?_
   refine aK (aa (ah (cF ?_)))
   refine aY ?_
   refine ay (ay (bm (ai (sr (mL (aL (aa (ao ?_))))))))
   refine cx ?_
   exact ⟨_, _, rfl, hh.at_ (i := 0) rfl, hh.below⟩
def lR (l : List Dyadic) (i : Nat) : List Dyadic := (List.range l.length).map fun k => if k < i ∨ l.length ≤ k + i then ec l (l.length - 1 - k) else ec l k
theorem jH {l : List Dyadic} {i k : Nat} (h : k < l.length) : (lR l i)[k]? = some (if k < i ∨ l.length ≤ k + i then ec l (l.length - 1 - k) else ec l k) := by
 unfold lR
 rw [List.getElem?_map, List.getElem?_range h]
 rfl
theorem mm {l : List Dyadic} {k : Nat} (h : k < l.length) : l[k]? = some (ec l k) := by
 unfold ec
 rw [List.getElem?_eq_getElem h]
 rfl
theorem iu (l : List Dyadic) (i : Nat) : (lR l i).length = l.length := by simp [lR]
theorem ug (l : List Dyadic) : lR l 0 = l := by
 refine List.ext_getElem? fun k => ?_
 by_cases h : k < l.length
 ·rw [jH h, if_neg (by omega), mm h]
 ·rw [List.getElem?_eq_none (by rw [iu]; omega), List.getElem?_eq_none (by omega)]
theorem uz {l : List Dyadic} {i : Nat} (h : l.length ≤ 2 * i + 1) : lR l i = l.reverse := by
 refine List.ext_getElem? fun k => ?_
 by_cases hk : k < l.length
 ·rw [jH hk, List.getElem?_reverse hk, mm (show l.length - 1 - k < l.length by omega)]
  split
  ·rfl
  ·rw [show l.length - 1 - k = k by omega]
 ·rw [List.getElem?_eq_none (by rw [iu]; omega), List.getElem?_eq_none (by rw [List.length_reverse]; omega)]
theorem tT {l : List Dyadic} {i : Nat} (h : 2 * i + 1 < l.length) : ((lR l i).set i (ec l (l.length - 1 - i))).set (l.length - 1 - i) (ec l i) = lR l (i + 1) := by
 refine List.ext_getElem? fun k => ?_
 by_cases hk : k < l.length
 ·rw [List.getElem?_set, List.getElem?_set, List.length_set, iu, jH hk, jH hk]
  by_cases h1 : l.length - 1 - i = k
  ·rw [if_pos h1, if_pos (by omega), if_pos (by omega), show l.length - 1 - k = i by omega]
  ·rw [if_neg h1]
   by_cases h2 : i = k
   ·subst h2
    rw [if_pos rfl, if_pos hk, if_pos (by omega)]
   ·rw [if_neg h2]
    by_cases h3 : k < i ∨ l.length ≤ k + i
    ·rw [if_pos h3, if_pos (by omega)]
    ·rw [if_neg h3, if_neg (by omega)]
 ·rw [List.getElem?_eq_none (by rw [List.length_set, List.length_set, iu]; omega), List.getElem?_eq_none (by rw [iu]; omega)]
theorem nk {w0 : World} {Hr : List HE} (g n c : Nat) (l : List Dyadic) (w : World) (hh : Hp w0 (.row (some ⟨g, 0, none⟩) n c 39 3 (br NR.cells (l.map nR)) :: Hr) w) (hl : l.length = n) (hn : n ≤ 1000000) :
  Calls Tryz.prog 140 #[.slice (some ⟨g, 0, none⟩) n c] w fun r w' => r = .returned (.tuple #[]) ∧ Hp w0 (.row (some ⟨g, 0, none⟩) n c 39 3 (br NR.cells (l.reverse.map nR)) :: Hr) w' := by
 refine aj (N := 28) (l := [.slice (some ⟨g, 0, none⟩) n c]) Tryz.func140 rfl rfl (by simp) ?_
 refine sr (mL (a7 ?_))
 refine eo (aI (aI (aa (al ?_))))
 refine bY [2, 3, 7, 8, 9, 10, 11, 12, 13, 14, 15, 16, 17, 18, 19, 20, 21, 22, 23, 24, 25, 26, 27] 2 3
  (fun v2 v w' => ∃ i : Nat, 2 * i ≤ n + 1 ∧ v2 = .int .i64 i ∧ v = .int .i64 ((n : Int) - 1 - i) ∧ Hp w0 (.row (some ⟨g, 0, none⟩) n c 39 3 (br NR.cells ((lR l i).map nR)) :: Hr) w')
  (fun v _ _ => n - (intOf v).toNat) ?_ ?_
 ·exact ⟨0, by omega, rfl, by show Value.int _ _ = Value.int _ _; rw [show (n : Int) - 1 - ((0 : Nat) : Int) = (n : Int) - 1 by omega], by rw [ug]; exact hh⟩
 ·clear hh
  rintro ρ' v2 v w' ⟨i, hi, rfl, rfl, hh⟩
  by_cases hlt : (i : Int) < (n : Int) - 1 - i
  ·have h1 : ((lR l i).map nR)[n - 1 - i]? = some (nR (ec l (n - 1 - i))) := by
    rw [List.getElem?_map, jH (by omega), if_neg (by omega)]
    rfl
   have h2 : ((lR l i).map nR)[i]? = some (nR (ec l i)) := by
    rw [List.getElem?_map, jH (by omega), if_neg (by omega)]
    rfl
   have hst := tT (l := l) (i := i) (by omega)
   rw [hl] at hst
   have hll : ((lR l i).map nR).length = n := by rw [List.length_map, iu, hl]
   generalize lR l i = S at *
   have hrl := fS NR.len (S.map nR)
   generalize ec l (n - 1 - i) = x at *
   generalize ec l i = y at *
   refine ah (sr (mI (mI ?_)))
   refine aK (aa (cT (ak (ai (ah (al ?_))))))
   refine lI [] [2, 3] [0, 0, 0, 0, 0, 0, 48, 112, 0, 0, 768, 1792, 4083, 8179, 16383, 32767] 12 [[(0, none)], [(2, none)], [(0, none)], [(3, none)], [(0, none)], [(3, none)], [(18, some 4), (19, some 5)], [(20, some 6)], [(0, none)], [(2, none)], [(22, some 8), (23, some 9)], [(24, some 10)]] [(11, 25), (10, 24), (9, 23), (8, 22), (7, 21), (6, 20), (5, 19), (4, 18), (3, 17), (2, 16), (1, 15), (0, 14)] hh mixed (by kernel_rfl) nI rfl (by repeat (first | exact iT | refine gF ?_ | refine ja ?_)) ?_
   refine g6 ?_
   refine dk ?_
   refine g6 ?_
   refine dk ?_
   refine g6 ?_
   refine dk ?_
   refine wJ ((n - 1 - i)) ?_
   refine uW [_,_,_] (fun _ hj => hj.hp.ie (f := NR.cells) (x := nR x) (l := S.map nR) (i := 0) rfl NR.len (by decide) h1) ?_
   refine g6 ?_
   refine dk ?_
   refine wJ (i) ?_
   refine uW [_,_,_] (fun _ hj => hj.hp.ie (f := NR.cells) (x := nR y) (l := S.map nR) (i := 0) rfl NR.len (by decide) h2) ?_
   refine aW ?_
   intro f W hJ hV _
   have hb_3 := hJ.bl
   obtain ⟨v25, v24, v23, v22, v21, v20, v19, v18, v17, v16, v15, v14, _⟩ := hV
   replace hh := hJ.hp
   refine aJ (aZ (ae v25 (ae v24 (ae v23 (ae v22 (ae v21 (ae v20 (ae v19 (ae v18 (ae v17 (ae v16 (ae v15 (ae v14 aH))))))))))))) ?_
   dsimp only [bQ]
   clear hJ
   refine bA (k := i) aN.out aA.size rfl rfl (by omega) (by omega) (by decide) ?_
   refine bF hh (i := 0) (vs := [_, _, _]) rfl rfl (ed rfl) rfl aA.out rfl (by omega) rfl ?_
   intro ws hh
   simp only [List.set_cons_zero] at hh
   rw [show cB (br NR.cells (S.map nR)) (i * 3) [.bool (nR x).neg, .string (nR x).bk, .int .i64 (nR x).e] = br NR.cells ((S.map nR).set i (nR x)) from hZ NR.len (by omega)] at hh
   have hrl2 := fS NR.len ((S.map nR).set i (nR x))
   rw [List.length_set] at hrl2
   refine bA (k := (n - 1 - i)) aN.out aA.size rfl rfl (by omega) (by omega) (by decide) ?_
   refine bF hh (i := 0) (vs := [_, _, _]) rfl rfl (ed rfl) rfl aA.out rfl (by omega) rfl ?_
   intro ws hh
   simp only [List.set_cons_zero] at hh
   rw [show cB (br NR.cells ((S.map nR).set i (nR x))) ((n - 1 - i) * 3) [.bool (nR y).neg, .string (nR y).bk, .int .i64 (nR y).e] = br NR.cells (((S.map nR).set i (nR x)).set (n - 1 - i) (nR y)) from hZ NR.len (by rw [List.length_set]; omega), ← List.map_set, ← List.map_set, hst] at hh
   refine aD (a0 (ai (aq (mI ?_))))
   refine bz (mI ?_)
   refine eo (aI (aI (aD (ai ?_))))
   refine ⟨⟨i + 1, by omega, rfl, ?_, hh⟩, by show n - (i + 1) < n - i; omega, ?_⟩
   ·show Value.int _ _ = Value.int _ _
    rw [show (n : Int) - 1 - ((i + 1 : Nat) : Int) = (n : Int) - 1 - (i : Int) - 1 by omega]
   ·(repeat (first | exact aw _ _ _ | refine az rfl ?_ | refine au rfl ?_))
  ·rw [uz (by omega)] at hh
   refine ah (sr (mI (mI ?_)))
   refine aK (aa (cF ?_))
   refine aY ?_
   refine ay (ay (bm ?_))
   refine u4 (by first | exact .inr rfl | exact .inl rfl) rfl ?_
   exact ⟨rfl, hh⟩
theorem qN (sa sb : NR) (a b : Dyadic) (L : Option Addr) (n c d : Nat) (xs : List Dyadic) (k q : Nat) (w : World) (hT : fK w) (hS : Sl w L n 3 (br NR.cells (xs.map nR))) (hn : n = d + 1) (hd : d ≤ 127) (hx : ∀ x ∈ xs, Sz k x) (va : mi q sa a) (vb : mi q sb b) (hk : k ≤ 300000) (hq : q ≤ 2000) :
  Calls Tryz.prog 88 #[.agg #[.bool sa.neg, .string sa.bk, .int .i64 sa.e, .bool sb.neg, .string sb.bk, .int .i64 sb.e], .slice L n c] w fun r w' => ∃ A c', r = .returned (.slice A n c') ∧ w'.ownsRow w.heap.size 39 3 (.slice A n c') n (br NR.cells ((dv d (ic d b a) xs.reverse).reverse.map nR)) ∧ Below w.heap.size w w' := by
 have hh := Hp.start w
 have hln : xs.length = n := by have := hS.eI NR.len (by decide); simpa using this
 refine aj (N := 21) (l := [.agg #[.bool sa.neg, .string sa.bk, .int .i64 sa.e, .bool sb.neg, .string sb.bk, .int .i64 sb.e], .slice L n c]) Tryz.func88 rfl rfl (by simp) ?_
 refine sr ?_
 refine cw hh [_,_,_,_,_,_] ?_
 intro b2 w2 hh
 refine aL (aa (sr (mL ?_)))
 refine aU (iL L n c (xs.map nR) _ (hS.ext hh.below) (by omega)) av.out rfl (by decide) ?_
 rintro e_ w8 ⟨A8, c8, rfl, hown_, hb_⟩
 refine ⟨_, rfl, ?_⟩
 replace hh := hh.bj (x := .row _ _ _ _ _ _) hb_ hown_
 obtain ⟨g8, rfl⟩ := hh.ea (i := 0) rfl (by omega)
 refine aL (aa (sr (mL ?_)))
 refine aU (nk g8 n c8 xs _ hh hln (by omega)) av.out rfl (by decide) ?_
 rintro e_ w10 ⟨rfl, hh2⟩
 refine ⟨_, rfl, ?_⟩
 replace hh := hh2
 clear hh2
 have hlo := fun w1 hT1 hS1 => l3 sb sa b a (some ⟨g8, 0, none⟩) n c8 d xs.reverse k q w1 hT1 hS1 hn hd (fun x hx2 => hx x (List.mem_reverse.1 hx2)) vb va hk hq
 refine aa (sr (bG ?_))
 refine da hh 1 [_,_,_] (bG ?_)
 refine da hh 1 [_,_,_] ?_
 refine fg [_,_,_,_,_,_] (mL ?_)
 refine aU (hlo _ (hT.hp hh) (hh.bf (i := 0) rfl)) av.out rfl (by decide) ?_
 rintro e_ w17 ⟨A17, c17, rfl, hown_, hb_⟩
 refine ⟨_, rfl, ?_⟩
 replace hh := hh.bj (x := .row _ _ _ _ _ _) hb_ hown_
 obtain ⟨g17, rfl⟩ := hh.ea (i := 0) rfl (by omega)
 refine aL (aa (sr (mL ?_)))
 refine aU (nk g17 n c17 (dv d (ic d b a) xs.reverse) _ hh (by rw [gN]; omega) (by omega)) av.out rfl (by decide) ?_
 rintro e_ w19 ⟨rfl, hh2⟩
 refine ⟨_, rfl, ?_⟩
 replace hh := hh2
 clear hh2
 refine aa (sr (mL (aL (aa (ao ?_)))))
 refine cx ?_
 exact ⟨_, _, rfl, hh.at_ (i := 0) rfl, hh.below⟩
end Go.Proofs.YtioilmppidlbnaaGreatDoor
/- The walk through lift.Raise. -/
namespace Go.Proofs.YtioilmppidlbnaaGreatDoor
open Go.RowKit
def AN (p : Int × Int) : Bool := decide (p.2 < p.1 ∨ 127 < p.2)
def BA (ds es : List Int) : Int := if es.length ≠ ds.length then 1 else if (ds.zip es).any AN = true then 1 else if 4096 < aC (es.map Int.toNat) then 3 else 0
def yL (a b : List Nat) : List Nat := List.zipWith (· - ·) a b
def yA (ns ts : List Nat) (xs : List Dyadic) : List Dyadic := Aa ns (yL ts ns) xs ((se (yL ts ns)).map nD)
def BK (es ds : List Int) : List Int := List.zipWith (· - ·) es ds
theorem tS (ts : List Nat) : (bL ts).map Int.toNat = ts := by
 unfold bL
 rw [List.map_map]
 exact List.map_id' ts
def AU (e : Int) : Ending := .returned (.tuple #[.agg #[.slice none 0 0, .slice none 0 0], .int .i64 e])
end Go.Proofs.YtioilmppidlbnaaGreatDoor
/- The walk through lift.raised. -/
namespace Go.Proofs.YtioilmppidlbnaaGreatDoor
open Go.RowKit
def FX.gI (f : FX) : HE := .row f.B f.m f.b 39 3 (br NR.cells f.cs)
def FX.gC (f : FX) : HE := .row f.A f.n f.a 3 1 (bP f.ds)
def As : List FX → List HE
 | [] => []
 | f :: fs => f.gI :: f.gC :: As fs
theorem Hp.ec {w0 w : World} {H : List HE} (h : Hp w0 H w) {f : FX} (h1 : f.gI ∈ H) (h2 : f.gC ∈ H) : f.at_ w := ⟨mr (h.own _ h2), mr (h.own _ h1)⟩
def Ap (a b : List Nat) : List Nat := List.zipWith max a b
def maxD (fs : List FX) : List Nat := fs.foldl (fun a f => Ap a (f.ds.map Int.toNat)) ((fs.map fun f => f.ds.map Int.toNat).headD [])
def Aw (fs : List FX) : Int := if tL fs ≠ 0 then tL fs else if 4096 < aC (maxD fs) then 3 else 0
end Go.Proofs.YtioilmppidlbnaaGreatDoor
/- The walk through lift.raised. -/
namespace Go.Proofs.YtioilmppidlbnaaGreatDoor
open Go.RowKit
def FX.ns (f : FX) : List Nat := f.ds.map Int.toNat
theorem FX.fv {f : FX} (h : f.e = 0) : f.ds = bL f.ns ∧ f.cs = (f.cs.map NR.d).map nR ∧ f.ns.length ≤ 12 ∧ (∀ d ∈ f.ns, d ≤ 127) ∧ f.cs.length = aC f.ns ∧ aC f.ns ≤ 4096 := by
 obtain ⟨ns, xs, hv, hxs⟩ := zU h
 obtain ⟨h1, h2, h3, h4, h5, h6⟩ := hv
 have e : f.ns = ns := by unfold FX.ns; rw [h1]; exact tS ns
 subst hxs
 rw [e]
 exact ⟨h1, h2, h3, h4, by simpa using h5, h6⟩
structure BJ (D : List Nat) (ys : List Dyadic) (g : FX) : Prop where
 ds : g.ds = bL D
 cs : g.cs = ys.map nR
 n : g.n = D.length
 m : g.m = aC D
def BN (D : List Nat) (f : FX) : List Dyadic := yA f.ns D (f.cs.map NR.d)
def BB (a b : List Nat) (j : Nat) : List Nat := (Ap a b).take j ++ a.drop j
end Go.Proofs.YtioilmppidlbnaaGreatDoor
/- The walks through lift.Both and lift.Add. -/
namespace Go.Proofs.YtioilmppidlbnaaGreatDoor
open Go.RowKit
end Go.Proofs.YtioilmppidlbnaaGreatDoor
/- The walk through lift.Add. -/
namespace Go.Proofs.YtioilmppidlbnaaGreatDoor
open Go.RowKit
def Ar (a b : List Dyadic) : List Dyadic := List.zipWith (· + ·) a b
def Bm : List (List Dyadic) → List Dyadic
 | [] => []
 | x :: l => l.foldl Ar x
def Bk (a b : List Dyadic) (j : Nat) : List Dyadic := (Ar a b).take j ++ a.drop j
theorem Hp.k5 {w0 w : World} {H : List HE} (h : Hp w0 H w) {i n c sz : Nat} {A : Option Addr} {t : TypeId} {xs : List Value} (hi : H[i]? = some (.row A n c t sz xs)) : n ≤ c := by
 have h1 : w.ownsRow w0.heap.size t sz (.slice A n c) n xs := h.at_ hi
 rcases h1.2 with ⟨_, h3⟩ | ⟨g, cap, cur, h2, _, _, h5, _⟩
 ·omega
 ·injection h2 with _ _ e3
  omega
end Go.Proofs.YtioilmppidlbnaaGreatDoor
/- The walks through lift.Mul and lift.Scale. -/
namespace Go.Proofs.YtioilmppidlbnaaGreatDoor
open Go.RowKit
def BC (f g : FX) : Int := if tL [f, g] ≠ 0 then tL [f, g] else if AB (yO f.ns g.ns) = true then 3 else 0
def Bt (a b : List Nat) (j : Nat) : List Nat := (yO a b).take j ++ a.drop j
end Go.Proofs.YtioilmppidlbnaaGreatDoor
/- The walks through the program's package of products of powers (mono), and through the document's answer's. -/
namespace Go.Proofs.YtioilmppidlbnaaGreatDoor
open Go.RowKit
end Go.Proofs.YtioilmppidlbnaaGreatDoor
/- The walks through the document's answer's products of powers. -/
namespace Go.Proofs.YtioilmppidlbnaaGreatDoor
open Go.RowKit
theorem jY (A B : Option Addr) (n m c c' : Nat) (xs ys : List Int) (w : World) (hx : Sl w A n 1 (bP xs)) (hy : Sl w B m 1 (bP ys)) (hn : n ≤ 100000) (hm : m ≤ 100000) :
  Calls Tryz.prog 44 #[.slice A n c, .slice B m c'] w fun e w' => e = .returned (.bool (decide (xs = ys))) ∧ Below w.heap.size w w' := by
 have hxl : xs.length = n := by have := hx.1; rw [gu] at this; omega
 have hyl : ys.length = m := by have := hy.1; rw [gu] at this; omega
 have hh := Hp.start w
 by_cases hnm : n = m
 ·subst hnm
  refine aj (N := 26) (l := [.slice A n c, .slice B n c']) Tryz.func44 rfl rfl (by simp) ?_
  refine sr (aB (aa (ah (sr (mL (a7 (mL (a7 ?_))))))))
  refine gA (aa (cF (ak (ai (ah (sr (aI (aa (al ?_)))))))))
  refine bx [4, 5, 11, 12, 13, 14, 15, 16, 17, 18, 19, 20, 21, 22, 23, 24, 25] 5
   (fun i w' => ∃ k : Nat, k ≤ n ∧ i = .int .i64 k ∧ xs.take k = ys.take k ∧ Hp w [] w')
   (fun i _ => n - (intOf i).toNat) ?_ ?_
  ·exact ⟨0, Nat.zero_le _, rfl, rfl, hh⟩
  ·clear hh
   rintro ρ' i w' ⟨k, hk, rfl, he, hh⟩
   replace hx := hx.ext hh.below
   replace hy := hy.ext hh.below
   by_cases hlt : k < n
   ·obtain ⟨x, hxk⟩ := aO (l := xs) (k := k) (by omega)
    obtain ⟨y, hyk⟩ := aO (l := ys) (k := k) (by omega)
    obtain ⟨ad, rfl, hr⟩ := hx.at_ (by omega)
    obtain ⟨bd, rfl, hs⟩ := hy.at_ (by omega)
    by_cases hxy : x = y
    ·subst hxy
     refine ah (sr (mI (mL (a7 ?_))))
     refine aK (aa (cT (ak (ai (ah (al (ah ?_)))))))
     refine aE 8 [[(0, none)], [(5, none)], [(17, some 0), (18, some 1)], [(19, some 2)], [(1, none)], [(5, none)], [(21, some 4), (22, some 5)], [(23, some 6)]] [(7, 24), (6, 23), (5, 22), (4, 21), (3, 20), (2, 19), (1, 18), (0, 17)] hh mixed (by kernel_rfl) ?_
     refine g6 ?_
     refine dk ?_
     refine bh (i := 2) (fun ρ1 w1 hj hR => cL aN.out aA.size (show ρ1 17 = Value.slice _ _ _ from hR.1) (show ρ1 18 = Value.int _ _ from hR.2.1) (by omega) (by omega)) ?_
     refine pJ (fun _ hj => dO (hr.ext hj.bl) (cg hxk) rfl) ?_
     refine g6 ?_
     refine dk ?_
     refine bh (i := 6) (fun ρ1 w1 hj hR => cL aN.out aA.size (show ρ1 21 = Value.slice _ _ _ from hR.1) (show ρ1 22 = Value.int _ _ from hR.2.1) (by omega) (by omega)) ?_
     refine pJ (fun _ hj => dO (hs.ext hj.bl) (cg hyk) rfl) ?_
     refine aW ?_
     intro f W hJ hV
     have hb_6 := hJ.bl
     obtain ⟨v24, v23, v22, v21, v20, v19, v18, v17, _⟩ := hV
     replace hh := hJ.hp
     refine aJ (aZ (ae v24 (ae v23 (ae v22 (ae v21 (ae v20 (ae v19 (ae v18 (ae v17 aH))))))))) ?_
     dsimp only [bQ]
     clear hJ
     refine gA (aa (cF (ak (a0 (ai (aq (mI ?_)))))))
     refine bz (aI (aD (ai ?_)))
     refine ⟨⟨k + 1, by omega, rfl, by rw [a9 hxk, a9 hyk, he], hh⟩, by show n - (k + 1) < n - k; omega, ?_⟩
     (repeat (first | exact aw _ _ _ | refine az rfl ?_ | refine au rfl ?_))
    ·refine ah (sr (mI (mL (a7 ?_))))
     refine aK (aa (cT (ak (ai (ah (al (ah ?_)))))))
     refine aE 8 [[(0, none)], [(5, none)], [(17, some 0), (18, some 1)], [(19, some 2)], [(1, none)], [(5, none)], [(21, some 4), (22, some 5)], [(23, some 6)]] [(7, 24), (6, 23), (5, 22), (4, 21), (3, 20), (2, 19), (1, 18), (0, 17)] hh mixed (by kernel_rfl) ?_
     refine g6 ?_
     refine dk ?_
     refine bh (i := 2) (fun ρ1 w1 hj hR => cL aN.out aA.size (show ρ1 17 = Value.slice _ _ _ from hR.1) (show ρ1 18 = Value.int _ _ from hR.2.1) (by omega) (by omega)) ?_
     refine pJ (fun _ hj => dO (hr.ext hj.bl) (cg hxk) rfl) ?_
     refine g6 ?_
     refine dk ?_
     refine bh (i := 6) (fun ρ1 w1 hj hR => cL aN.out aA.size (show ρ1 21 = Value.slice _ _ _ from hR.1) (show ρ1 22 = Value.int _ _ from hR.2.1) (by omega) (by omega)) ?_
     refine pJ (fun _ hj => dO (hs.ext hj.bl) (cg hyk) rfl) ?_
     refine aW ?_
     intro f W hJ hV
     have hb_6 := hJ.bl
     obtain ⟨v24, v23, v22, v21, v20, v19, v18, v17, _⟩ := hV
     replace hh := hJ.hp
     refine aJ (aZ (ae v24 (ae v23 (ae v22 (ae v21 (ae v20 (ae v19 (ae v18 (ae v17 aH))))))))) ?_
     dsimp only [bQ]
     clear hJ
     refine gA (aa (cT (sr (aB (aa (ao (bZ (aQ (aQ (bZ (aQ ?_)))))))))))
     refine cx ?_
     have : ¬ xs = ys := fun h => hxy (by rw [h, hyk] at hxk; exact (Option.some.inj hxk).symm)
     simp only [this, decide_false]
     first | exact ⟨rfl, hh.below⟩ | exact ⟨trivial, hh.below⟩
   ·refine ah (sr (mI (mL (a7 ?_))))
    refine aK (aa (cF ?_))
    refine aY ?_
    refine ay (ay (bm (ai (sr (aB (aa (ao ?_)))))))
    refine cx ?_
    rw [List.take_of_length_le (by omega), List.take_of_length_le (by omega)] at he
    simp only [he, decide_true]
    first | exact ⟨rfl, hh.below⟩ | exact ⟨trivial, hh.below⟩
 ·refine aj (N := 26) (l := [.slice A n c, .slice B m c']) Tryz.func44 rfl rfl (by simp) ?_
  refine sr (aB (aa (ah (sr (mL (a7 (mL (a7 ?_))))))))
  refine gA (aa (cT (sr (aB (aa (ao (aQ ?_)))))))
  refine cx ?_
  have : ¬ xs = ys := fun h => hnm (by rw [← hxl, ← hyl, h])
  simp only [this, decide_false]
  first | exact ⟨rfl, hh.below⟩ | exact ⟨trivial, hh.below⟩
end Go.Proofs.YtioilmppidlbnaaGreatDoor
/- The walks through count and All. -/
namespace Go.Proofs.YtioilmppidlbnaaGreatDoor
open Go.RowKit
theorem tU (l : List ByteArray) (x : ByteArray) : hG l ++ [.string x] = hG (l ++ [x]) := by simp [hG]
end Go.Proofs.YtioilmppidlbnaaGreatDoor
/- The walk through the document's answer's All. -/
namespace Go.Proofs.YtioilmppidlbnaaGreatDoor
open Go.RowKit
theorem sT (D : Option Addr) (n c : Nat) (ds : List Int) (w : World) (hD : Sl w D n 1 (bP ds)) (hn : n ≤ 100000) :
  Calls Tryz.prog 154 #[.slice D n c] w fun e w' => ∃ A c, e = .returned (.slice A (nY ds).length c) ∧ w'.ownsRow w.heap.size 9 1 (.slice A (nY ds).length c) (nY ds).length (hG (nY ds)) ∧ Below w.heap.size w w' := by
 have hdl : ds.length = n := by have := hD.1; rw [gu] at this; omega
 have hh := Hp.start w
 refine aj (N := 72) (l := [.slice D n c]) Tryz.func154 rfl rfl (by simp) ?_
 refine sr (aL (aa (sr (aI (aa (ah (sr (aI (aa (al ?_))))))))))
 refine bY [2, 3, 4, 10, 11, 12, 13, 14, 15, 16, 17, 18, 19, 20, 21, 22, 23, 24, 25, 26, 27, 28, 29, 30, 31, 32, 33, 34, 35, 36] 3 4
  (fun p i w' => ∃ (k : Nat), k ≤ n ∧ i = .int .i64 k ∧ p = .int .i64 (dD (ds.take k)).length ∧ (dD (ds.take k)).length ≤ 65536 ∧ n4 1 ds = n4 (dD (ds.take k)).length (ds.drop k) ∧ w = w')
  (fun _ i _ => n - (intOf i).toNat) ?_ ?_
 ·exact ⟨0, Nat.zero_le _, rfl, rfl, by simp [dD], rfl, rfl⟩
 ·rintro ρ' p i w' ⟨k, hk, rfl, rfl, hsz, hok, rfl⟩
  by_cases hlt : k < n
  ·obtain ⟨d, hdk⟩ := aO (l := ds) (k := k) (by omega)
   obtain ⟨ad, rfl, hr⟩ := hD.at_ (by omega)
   have hpos := ra (ds.take k)
   by_cases hb1 : 0 ≤ d ∧ d ≤ 127
   ·have hm1 : (0 : Int) ≤ (dD (ds.take k)).length * (d + 1) := Int.mul_nonneg (by omega) (by omega)
    have hm2 : ((dD (ds.take k)).length : Int) * (d + 1) ≤ 65536 * 128 := Int.mul_le_mul (by omega) (by omega) (by omega) (by omega)
    by_cases hb2 : ((dD (ds.take k)).length : Int) * (d + 1) ≤ 65536
    ·have hstep := q4 hdk hok ⟨hb1, hb2⟩
     rw [← gm hdk hb1.1] at hstep
     have hl2 := gm hdk hb1.1
     refine ah (sr (mI (mL (a7 ?_))))
     refine aK (aa (cT (ak (ai (ah (al (ah (sr (mL (mI ?_))))))))))
     refine cq aN.out aA.size rfl rfl (by omega) (by omega) (by decide) ?_
     refine aV aA.out rfl (dO hr (cg hdk) rfl) (by decide) ?_
     refine aK (mB ?_)
     first | refine gS ?_ | (refine gT ?_; refine mL ?_) | refine gV ?_
     first | refine gS ?_ | (refine gT ?_; refine mI ?_) | refine gV ?_
     first | refine gS ?_ | (refine gT ?_; refine cq aN.out aA.size rfl rfl (by omega) (by omega) (by decide) ?_) | refine gV ?_
     refine bp rfl rfl (aV aA.out rfl (dO hr (cg hdk) rfl) (by decide) ?_)
     first | refine gS ?_ | (refine gT ?_; refine bO ?_) | refine gV ?_
     first | refine db ?_ | refine de ?_
     refine aa (cF (ak (ai (sr (mI (mL (mI ?_)))))))
     refine cq aN.out aA.size rfl rfl (by omega) (by omega) (by decide) ?_
     refine aV aA.out rfl (dO hr (cg hdk) rfl) (by decide) ?_
     refine bz ?_
     refine mulC (aI (aa (sr (mI ?_))))
     refine bO (aa (cF (ak (a0 (ai (aq (mI ?_)))))))
     refine bz (aI (aD (ai ?_)))
     refine ⟨⟨k + 1, by omega, rfl, by rw [hl2]; rfl, by omega, hstep, rfl⟩, by show n - (k + 1) < n - k; omega, ?_⟩
     (repeat (first | exact aw _ _ _ | refine az rfl ?_ | refine au rfl ?_))
    ·have hf := na hdk hok fun h => hb2 h.2
     refine ah (sr (mI (mL (a7 ?_))))
     refine aK (aa (cT (ak (ai (ah (al (ah (sr (mL (mI ?_))))))))))
     refine cq aN.out aA.size rfl rfl (by omega) (by omega) (by decide) ?_
     refine aV aA.out rfl (dO hr (cg hdk) rfl) (by decide) ?_
     refine aK (mB ?_)
     first | refine gS ?_ | (refine gT ?_; refine mL ?_) | refine gV ?_
     first | refine gS ?_ | (refine gT ?_; refine mI ?_) | refine gV ?_
     first | refine gS ?_ | (refine gT ?_; refine cq aN.out aA.size rfl rfl (by omega) (by omega) (by decide) ?_) | refine gV ?_
     refine bp rfl rfl (aV aA.out rfl (dO hr (cg hdk) rfl) (by decide) ?_)
     first | refine gS ?_ | (refine gT ?_; refine bO ?_) | refine gV ?_
     first | refine db ?_ | refine de ?_
     refine aa (cF (ak (ai (sr (mI (mL (mI ?_)))))))
     refine cq aN.out aA.size rfl rfl (by omega) (by omega) (by decide) ?_
     refine aV aA.out rfl (dO hr (cg hdk) rfl) (by decide) ?_
     refine bz ?_
     refine mulC (aI (aa (sr (mI ?_))))
     refine bO (aa (cT (sr (aL (aa (ao (bZ (aQ (aQ (bZ (aQ ?_)))))))))))
     refine cx ?_
     simp only [nY, hf]
     exact ⟨none, 0, rfl, World.ownsRow_nil _ _ _ _, hh.below⟩
   ·have hf := na hdk hok fun h => hb1 h.1
    refine ah (sr (mI (mL (a7 ?_))))
    refine aK (aa (cT (ak (ai (ah (al (ah (sr (mL (mI ?_))))))))))
    refine cq aN.out aA.size rfl rfl (by omega) (by omega) (by decide) ?_
    refine aV aA.out rfl (dO hr (cg hdk) rfl) (by decide) ?_
    by_cases h0 : d < 0
    ·refine aK (mB ?_)
     first | refine gS ?_ | (refine gT ?_; refine mL ?_) | refine gV ?_
     first | refine gS ?_ | (refine gT ?_; refine mI ?_) | refine gV ?_
     first | refine gS ?_ | (refine gT ?_; refine cq aN.out aA.size rfl rfl (by omega) (by omega) (by decide) ?_) | refine gV ?_
     refine cG (by decide) rfl rfl (by decide) ?_
     first | refine gS ?_ | (refine gT ?_; refine bO ?_) | refine gV ?_
     first | refine db ?_ | refine de ?_
     refine aa (cT (sr (aL (aa (ao (aQ (bZ (aQ (aQ (bZ (aQ ?_)))))))))))
     refine cx ?_
     simp only [nY, hf]
     exact ⟨none, 0, rfl, World.ownsRow_nil _ _ _ _, hh.below⟩
    ·refine aK (mB ?_)
     first | refine gS ?_ | (refine gT ?_; refine mL ?_) | refine gV ?_
     first | refine gS ?_ | (refine gT ?_; refine mI ?_) | refine gV ?_
     first | refine gS ?_ | (refine gT ?_; refine cq aN.out aA.size rfl rfl (by omega) (by omega) (by decide) ?_) | refine gV ?_
     refine bp rfl rfl (aV aA.out rfl (dO hr (cg hdk) rfl) (by decide) ?_)
     first | refine gS ?_ | (refine gT ?_; refine bO ?_) | refine gV ?_
     first | refine db ?_ | refine de ?_
     refine aa (cT (sr (aL (aa (ao (aQ (bZ (aQ (aQ (bZ (aQ ?_)))))))))))
     refine cx ?_
     simp only [nY, hf]
     exact ⟨none, 0, rfl, World.ownsRow_nil _ _ _ _, hh.below⟩
  ·obtain rfl : n = k := by omega
   rw [List.drop_of_length_le (by omega)] at hok
   have hok : n4 1 ds = true := hok
   have hbd := sy ds 1 hok
   have hAl : nY ds = (dD ds).map fX := by simp only [nY, hok, if_true]
   refine ah (sr (mI (mL (a7 ?_))))
   refine aK (aa (cF ?_))
   refine aY ?_
   refine ay (ay (bm (ai (sr ?_))))
   refine bo hh (cs := [_]) aN.out aA.out (a6 rfl bR) rfl rfl (by decide) (by decide) (by decide) rfl (by decide) ?_
   intro b37 w37 hh
   refine aL (aa (ah (sr (aI (aa (al ?_))))))
   refine bY [5, 6, 7, 8, 9, 38, 39, 40, 41, 42, 43, 44, 45, 46, 47, 48, 49, 50, 51, 52, 53, 54, 55, 56, 57, 58, 59, 60, 61, 62, 63, 64, 65, 66, 67, 68, 69, 70] 5 6
    (fun v i w' => ∃ (k : Nat) (A : Option Addr) (c' : Nat), k ≤ n ∧ i = .int .i64 k ∧ v = .slice A ((dD (ds.take k)).map fX).length c' ∧ Hp w [.row A ((dD (ds.take k)).map fX).length c' 9 1 (hG ((dD (ds.take k)).map fX))] w')
    (fun _ i _ => n - (intOf i).toNat) ?_ ?_
   ·exact ⟨0, _, _, Nat.zero_le _, rfl, rfl, hh⟩
   ·clear hh hsz hk
    rintro ρ2 v i w' ⟨k, A, c', hk, rfl, rfl, hh⟩
    by_cases hlt : k < n
    ·obtain ⟨d, hdk⟩ := aO (l := ds) (k := k) (by omega)
     have bd := hbd d (List.mem_of_getElem? hdk)
     have hst := xG hdk
     have hbig := (nC hok (k + 1) (by omega)).2
     have hbig2 : (((dD (ds.take k)).map fX).flatMap (gX d)).length ≤ 65536 := by rw [← hst, List.length_map]; exact hbig
     have hsm : ∀ (j : Nat) (s : ByteArray), ((dD (ds.take k)).map fX)[j]? = some s → s.size ≤ k := fun j s h => xb h
     have hS := (nC hok k (by omega)).2
     rw [← List.length_map (f := fX)] at hS
     generalize (dD (ds.take k)).map fX = S at *
     refine ah (sr (mI (mL (a7 ?_))))
     refine aK (aa (cT (ak (ai (ah (al (sr (aL (aa (ah (ah ?_)))))))))))
     refine aq (aI (aa (al ?_)))
     replace hh := hh.eW 9 1
     refine bY [7, 8, 9, 44, 45, 46, 47, 48, 49, 50, 51, 52, 53, 54, 55, 56, 57, 58, 59, 60, 61, 62, 63, 64, 65, 66, 67, 68, 69] 7 8
      (fun v j w' => ∃ (j' : Nat) (B : Option Addr) (c2 : Nat), j' ≤ S.length ∧ j = .int .i64 j' ∧ v = .slice B ((S.take j').flatMap (gX d)).length c2 ∧ Hp w [.row B ((S.take j').flatMap (gX d)).length c2 9 1 (hG ((S.take j').flatMap (gX d))), .row A S.length c' 9 1 (hG S)] w')
      (fun _ j _ => S.length - (intOf j).toNat) ?_ ?_
     ·exact ⟨0, none, 0, Nat.zero_le _, rfl, rfl, hh⟩
     ·clear hh
      rintro ρ3 v j w' ⟨j, B, c2, hj, rfl, rfl, hh⟩
      by_cases hlj : j < S.length
      ·obtain ⟨s, hs⟩ := aO hlj
       have hss := hsm j s hs
       have hs2 := mo hs
       have hlS := jC S
       refine ah (sr (mI (mL (a7 ?_))))
       refine aK (aa (cT (ak (ai (ah (al (sr (aI (aa (al ?_))))))))))
       refine bY [7, 9, 50, 51, 52, 53, 54, 55, 56, 57, 58, 59, 60, 61, 62, 63, 64, 65, 66, 67, 68, 69] 7 9
        (fun v q w' => ∃ (q' : Nat) (B : Option Addr) (c2 : Nat), q' ≤ d.toNat + 1 ∧ q = .int .i64 q' ∧ v = .slice B ((S.take j).flatMap (gX d) ++ (gX d s).take q').length c2 ∧ Hp w [.row B ((S.take j).flatMap (gX d) ++ (gX d s).take q').length c2 9 1 (hG ((S.take j).flatMap (gX d) ++ (gX d s).take q')), .row A S.length c' 9 1 (hG S)] w')
        (fun _ q _ => d.toNat + 1 - (intOf q).toNat) ?_ ?_
       ·exact ⟨0, B, c2, Nat.zero_le _, rfl, by rw [List.take_zero, List.append_nil]; rfl, by rw [List.take_zero, List.append_nil]; exact hh⟩
       ·clear hh
        rintro ρ4 v q w' ⟨q, B, c2, hq, rfl, rfl, hh⟩
        obtain ⟨ad, rfl, hr⟩ := (hD.ext hh.below).at_ (by omega)
        by_cases hlq : q < d.toNat + 1
        ·have hq2 : (q : Int) ≤ d := by omega
         have hqo : dI (q : Int) = true := by simp [dI]; omega
         have hgb := z7 (d := d) hs q
         have hcat : s.size + (ByteArray.mk [ru (q : Int)].toArray).size ≤ 9223372036854775807 := by show s.size + 1 ≤ _; omega
         obtain ⟨go, rfl⟩ := hh.ea (i := 1) rfl (by omega)
         refine ah (sr (mI (mL (mI ?_))))
         refine cq aN.out aA.size rfl rfl (by omega) (by omega) (by decide) ?_
         refine aV aA.out rfl (dO hr (cg hdk) rfl) (by decide) ?_
         refine xr (aa (cT (ak (ai (ah (al ?_))))))
         refine aE 11 [[(7, none)], [(5, none)], [(8, none)], [(59, some 1), (60, some 2)], [(61, some 3)], [(9, none)], [(63, some 5)], [(64, some 6)], [(65, some 7)], [(62, some 4), (66, some 8)], [(67, some 9)]] [(10, 68), (9, 67), (8, 66), (7, 65), (6, 64), (5, 63), (4, 62), (3, 61), (2, 60), (1, 59), (0, 58)] hh mixed (by kernel_rfl) ?_
         refine g6 ?_
         refine g6 ?_
         refine dk ?_
         refine bh (i := 3) (fun ρ1 w1 hj hR => j7 aN.out aA.size (show ρ1 59 = Value.slice _ _ _ from hR.1) (show ρ1 60 = Value.int _ _ from hR.2.1) rfl (by omega)) ?_
         refine bh (i := 4) (fun ρ1 w1 hj hR => dt aA.out (show ρ1 61 = Value.pointer _ from hR.1) (hj.hp.cE (i := 1) rfl (by rw [Nat.mul_one]; exact hs2))) ?_
         refine dk ?_
         refine bh (i := 6) (fun ρ1 w1 hj hR => gW aN.out aN.out (show ρ1 63 = Value.int _ _ from hR.1)) ?_
         refine uT [_] ?_
         refine bC (i := 8) (Is (.string ⟨([ru (q : Int)]).toArray⟩)) Is.ext ?_ ?_
         ·intro ρ1 w1 hj hR
          obtain ⟨A65, c65, h65, s65⟩ := hR.1
          exact gh rfl (jm (l := [ru (q : Int)]) aN.out aN.out aN.out h65 (by rw [xc (by omega) (by omega), wZ hqo] at s65; exact s65)) ⟨Below.refl _ _, rfl⟩
         refine bh (i := 9) (fun ρ1 w1 hj hR => Ao (show ρ1 62 = Value.string _ from hR.1) (show ρ1 66 = Value.string _ from hR.2.1) (by first | omega | assumption | (simp only [jj, iV]; omega))) ?_
         refine uT [_] ?_
         refine aW ?_
         intro f W hJ hV
         have hb_21 := hJ.bl
         obtain ⟨v68, v67, v66, v65, v64, v63, v62, v61, v60, v59, v58, _⟩ := hV
         obtain ⟨A65, c65, e65, f65⟩ : Rows _ _ _ (f 7) W := v65
         obtain ⟨A68, c68, e68, f68⟩ : Rows _ _ _ (f 10) W := v68
         replace hh := hJ.hp
         refine aJ (aZ (ae e68 (ae v67 (ae v66 (ae e65 (ae v64 (ae v63 (ae v62 (ae v61 (ae v60 (ae v59 (ae v58 aH)))))))))))) ?_
         dsimp only [bQ]
         clear e65 e68 hJ
         refine df hh (i := 0) rfl rfl rfl (f68) aN.out aA.out rfl (by decide) rfl (by omega) (by omega) (by decide) ?_
         intro A69 c69 w69 hh
         simp only [List.set_cons_zero] at hh
         refine aL (aD (a0 (ai (aq (mI ?_)))))
         refine bz (aI (aD (ai ?_)))
         have e1 : hG ((S.take j).flatMap (gX d) ++ (gX d s).take q) ++ [.string (s ++ ByteArray.mk [ru (q : Int)].toArray)] = hG ((S.take j).flatMap (gX d) ++ (gX d s).take (q + 1)) := by
          rw [tU, a9 (yt hq2), List.append_assoc]; rfl
         have e2 : ((S.take j).flatMap (gX d) ++ (gX d s).take q).length + 1 = ((S.take j).flatMap (gX d) ++ (gX d s).take (q + 1)).length := by
          rw [a9 (yt (s := s) hq2)]; simp; omega
         rw [e1, e2] at hh
         refine ⟨⟨q + 1, A69, c69, by omega, rfl, by rw [← e2]; rfl, hh⟩, by show d.toNat + 1 - (q + 1) < d.toNat + 1 - q; omega, ?_⟩
         (repeat (first | exact aw _ _ _ | refine az rfl ?_ | refine au rfl ?_))
        ·refine ah (sr (mI (mL (mI ?_))))
         refine cq aN.out aA.size rfl rfl (by omega) (by omega) (by decide) ?_
         refine aV aA.out rfl (dO hr (cg hdk) rfl) (by decide) ?_
         refine xr (aa (cF ?_))
         refine aY ?_
         refine ay (ay (bm (a0 (ai (aq (mI ?_))))))
         refine bz (aI (aD (ai ?_)))
         obtain rfl : q = d.toNat + 1 := by omega
         have e3 : (S.take j).flatMap (gX d) ++ (gX d s).take (d.toNat + 1) = (S.take (j + 1)).flatMap (gX d) := by
          rw [List.take_of_length_le (l := gX d s) (by rw [uh]; omega), a9 hs, List.flatMap_append]; simp
         rw [e3] at hh ⊢
         refine ⟨⟨j + 1, B, c2, by omega, rfl, rfl, hh⟩, by show S.length - (j + 1) < S.length - j; omega, ?_⟩
         (repeat (first | exact aw _ _ _ | refine az rfl ?_ | refine au rfl ?_))
      ·refine ah (sr (mI (mL (a7 ?_))))
       refine aK (aa (cF ?_))
       refine aY ?_
       refine ay (ay (bm (ai (aq (mL (aL (aD (a0 (ai (aq (mI ?_)))))))))))
       refine bz (aI (aD (ai ?_)))
       rw [List.take_of_length_le (l := S) (by omega), ← hst] at hh ⊢
       refine ⟨⟨k + 1, B, c2, by omega, rfl, rfl, hh.sub (.cons_cons _ (List.nil_sublist _))⟩, by show n - (k + 1) < n - k; omega, ?_⟩
       (repeat (first | exact aw _ _ _ | refine az rfl ?_ | refine au rfl ?_))
    ·refine ah (sr (mI (mL (a7 ?_))))
     refine aK (aa (cF ?_))
     refine aY ?_
     refine ay (ay (bm (ai (sr (mL (aL (aa (ao ?_))))))))
     refine cx ?_
     have hds : dD (ds.take k) = dD ds := by rw [List.take_of_length_le (l := ds) (by omega)]
     have h1 := hh.at_ (i := 0) rfl
     rw [hAl, ← hds]
     exact ⟨A, c', rfl, h1, hh.below⟩
end Go.Proofs.YtioilmppidlbnaaGreatDoor
/- The walks through ogeeref12: forms by definition: what is wrong, ways to choose, places. -/
namespace Go.Proofs.YtioilmppidlbnaaGreatDoor
open Go.RowKit
theorem fh (A : Option Addr) (n c : Nat) (ds : List Int) (w : World) (hS : Sl w A n 1 (bP ds)) (hn : n ≤ 1000000) :
  Calls Tryz.prog 32 #[.slice A n c] w fun r w' => r = .returned (.int .i64 (mg ds)) ∧ Below w.heap.size w w' := by
 have hh := Hp.start w
 have hln : ds.length = n := by have := hS.1; simpa [bP] using this
 unfold mg
 refine aj (N := 39) (l := [.slice A n c]) Tryz.func32 rfl rfl (by simp) ?_
 refine sr (aI (aa (sr (aI (aa (ah (sr (aI (aa (al ?_))))))))))
 refine bx [2, 4, 6, 7, 8, 9, 10, 11, 12, 13, 14, 15, 16, 17, 18, 19, 20, 21, 22, 23] 4
  (fun v w' => ∃ i : Nat, i ≤ n ∧ v = .int .i64 i ∧ (ds.take i).any (fun d => !dI d) = false ∧ Hp w [] w')
  (fun v _ => n - (intOf v).toNat) ?_ ?_
 ·exact ⟨0, Nat.zero_le _, rfl, rfl, hh⟩
 ·clear hh
  rintro ρ' v w' ⟨i, hi, rfl, hall, hh⟩
  by_cases hlt : i < n
  ·obtain ⟨d, hd⟩ := aO (l := ds) (k := i) (by omega)
   have hgi := cg hd
   obtain ⟨ad, rfl, hr⟩ := hS.at_ (by omega)
   have hbad : (!dI d) = true → ds.any (fun d => !dI d) = true := fun h => List.any_eq_true.2 ⟨d, List.mem_of_getElem? hd, h⟩
   by_cases h1 : d < 0
   ·refine ah (sr (mI (mL (a7 ?_))))
    refine aK (aa (cT (ak (ai (ah (al (sr (mL (mI ?_)))))))))
    refine aX (k := i) aN.out aA.size rfl rfl (by omega) (by omega) (by decide) ?_
    refine aV aA.out rfl ((hr.ext hh.below).fJ (by assumption)) (by decide) ?_
    refine aK (mB ?_)
    first | refine gS ?_ | (refine gT ?_; refine mL ?_) | refine gV ?_
    first | refine gS ?_ | (refine gT ?_; refine mI ?_) | refine gV ?_
    first | refine gS ?_ | (refine gT ?_; refine aX (k := i) aN.out aA.size rfl rfl (by omega) (by omega) (by decide) ?_) | refine gV ?_
    first | refine gS ?_ | (refine gT ?_; refine aV aA.out rfl ((hr.ext hh.below).fJ (by assumption)) (by decide) ?_) | refine gV ?_
    first | refine gS ?_ | (refine gT ?_; refine bO ?_) | refine gV ?_
    first | refine db ?_ | refine de ?_
    refine aa (cT (sr (aI (aa (ao (bZ (aQ (aQ (bZ (aQ ?_))))))))))
    refine cx ?_
    rw [hbad (by simp [dI]; omega), if_pos rfl]
    exact ⟨rfl, hh.below⟩
   ·by_cases h2 : 127 < d
    ·refine ah (sr (mI (mL (a7 ?_))))
     refine aK (aa (cT (ak (ai (ah (al (sr (mL (mI ?_)))))))))
     refine aX (k := i) aN.out aA.size rfl rfl (by omega) (by omega) (by decide) ?_
     refine aV aA.out rfl ((hr.ext hh.below).fJ (by assumption)) (by decide) ?_
     refine aK (mB ?_)
     first | refine gS ?_ | (refine gT ?_; refine mL ?_) | refine gV ?_
     first | refine gS ?_ | (refine gT ?_; refine mI ?_) | refine gV ?_
     first | refine gS ?_ | (refine gT ?_; refine aX (k := i) aN.out aA.size rfl rfl (by omega) (by omega) (by decide) ?_) | refine gV ?_
     first | refine gS ?_ | (refine gT ?_; refine aV aA.out rfl ((hr.ext hh.below).fJ (by assumption)) (by decide) ?_) | refine gV ?_
     first | refine gS ?_ | (refine gT ?_; refine bO ?_) | refine gV ?_
     first | refine db ?_ | refine de ?_
     refine aa (cT (sr (aI (aa (ao (bZ (aQ (aQ (bZ (aQ ?_))))))))))
     refine cx ?_
     rw [hbad (by simp [dI]; omega), if_pos rfl]
     exact ⟨rfl, hh.below⟩
    ·refine ah (sr (mI (mL (a7 ?_))))
     refine aK (aa (cT (ak (ai (ah (al (sr (mL (mI ?_)))))))))
     refine aX (k := i) aN.out aA.size rfl rfl (by omega) (by omega) (by decide) ?_
     refine aV aA.out rfl ((hr.ext hh.below).fJ (by assumption)) (by decide) ?_
     refine aK (mB ?_)
     first | refine gS ?_ | (refine gT ?_; refine mL ?_) | refine gV ?_
     first | refine gS ?_ | (refine gT ?_; refine mI ?_) | refine gV ?_
     first | refine gS ?_ | (refine gT ?_; refine aX (k := i) aN.out aA.size rfl rfl (by omega) (by omega) (by decide) ?_) | refine gV ?_
     first | refine gS ?_ | (refine gT ?_; refine aV aA.out rfl ((hr.ext hh.below).fJ (by assumption)) (by decide) ?_) | refine gV ?_
     first | refine gS ?_ | (refine gT ?_; refine bO ?_) | refine gV ?_
     first | refine db ?_ | refine de ?_
     refine aa (cF (ak (a0 (ai (aq (mI ?_))))))
     refine bz (aI (aD (ai ?_)))
     refine ⟨⟨i + 1, by omega, rfl, ?_, hh⟩, by show n - (i + 1) < n - i; omega, ?_⟩
     ·rw [a9 hd, List.any_append, hall, List.any_cons, List.any_nil, dI, decide_eq_true (by omega), decide_eq_true (by omega)]; rfl
     ·(repeat (first | exact aw _ _ _ | refine az rfl ?_ | refine au rfl ?_))
  ·rw [List.take_of_length_le (by omega)] at hall
   rw [hall, if_neg (by decide)]
   obtain ⟨ns, hns, hlow⟩ := lP hall
   have hds : ∀ (j : Nat) (d : Int), ds[j]? = some d → 0 ≤ d ∧ d ≤ 127 := fun j d hd => by
    have := List.any_eq_false.1 hall d (List.mem_of_getElem? hd)
    simp [dI] at this
    omega
   refine ah (sr (mI (mL (a7 ?_))))
   refine aK (aa (cF ?_))
   refine aY ?_
   refine ay (ay (bm (ai (ah (sr (aI (aa (al ?_))))))))
   refine bY [3, 5, 24, 25, 26, 27, 28, 29, 30, 31, 32, 33, 34, 35, 36, 37] 3 5
    (fun v3 v w' => ∃ (i : Nat) (q : Int), i ≤ n ∧ v = .int .i64 i ∧ v3 = .int .i64 q ∧ 0 ≤ q ∧ q ≤ 4097 ∧ o4 1 ds = o4 q (ds.drop i) ∧ Hp w [] w')
    (fun _ v _ => n - (intOf v).toNat) ?_ ?_
   ·exact ⟨0, 1, Nat.zero_le _, rfl, rfl, by omega, by omega, rfl, hh⟩
   ·clear hh
    rintro ρ2 v3 v w2 ⟨j, q, hj, rfl, rfl, hq1, hq2, hc, hh⟩
    by_cases hjn : j < n
    ·obtain ⟨d, hd⟩ := aO (l := ds) (k := j) (by omega)
     have hgi := cg hd
     have hdb := hds j d hd
     obtain ⟨ad, rfl, hr⟩ := hS.at_ (by omega)
     rw [td hd, o4] at hc
     have hm1 : 0 * 0 ≤ q * (d + 1) := Int.mul_le_mul hq1 (by omega) (by decide) (by omega)
     have hm2 : q * (d + 1) ≤ 4097 * 128 := Int.mul_le_mul hq2 (by omega) (by omega) (by decide)
     refine ah (sr (mI (mL (a7 ?_))))
     refine aK (aa (cT (ak (ai (ah (al (aq (mI (mL (mI ?_))))))))))
     refine aX (k := j) aN.out aA.size rfl rfl (by omega) (by omega) (by decide) ?_
     refine aV aA.out rfl ((hr.ext hh.below).fJ (by assumption)) (by decide) ?_
     refine bz ?_
     refine mulC ?_
     refine qm rfl rfl (by decide) ?_
     refine aI (aD (a0 (ai (aq (mI ?_)))))
     refine bz (aI (aD (ai ?_)))
     refine ⟨⟨j + 1, _, by omega, rfl, rfl, by split <;> omega, by split <;> omega, by rw [hc, show min (q * (d + 1)) 4097 = if 4097 < q * (d + 1) then 4097 else q * (d + 1) by split <;> omega], hh⟩, by show n - (j + 1) < n - j; omega, ?_⟩
     (repeat (first | exact aw _ _ _ | refine az rfl ?_ | refine au rfl ?_))
    ·rw [List.drop_of_length_le (by omega)] at hc
     refine ah (sr (mI (mL (a7 ?_))))
     refine aK (aa (cF ?_))
     refine aY ?_
     refine ay (ay (bm (ai (sr (mI (aI (aa (ao ?_))))))))
     refine cx ?_
     exact ⟨by rw [hc]; rfl, hh.below⟩
theorem vT {ds : List Int} (h : ds.any (fun d => !dI d) = false) : (fP 1 ds = 0 ↔ 4096 < mg ds) ∧ (fP 1 ds ≠ 0 → fP 1 ds = mg ds) ∧ 1 ≤ mg ds := by
 obtain ⟨ns, rfl, hlow⟩ := lP h
 have h1 := je ns 1 (by decide) (by decide) hlow
 have h2 := p9 ns 1 (by decide) (by decide)
 have hp := dx ns
 rw [Nat.one_mul] at h1 h2
 unfold mg
 rw [h, if_neg (by decide)]
 have e1 : fP ((1 : Nat) : Int) (bL ns) = fP 1 (bL ns) := rfl
 have e2 : o4 ((1 : Nat) : Int) (bL ns) = o4 1 (bL ns) := rfl
 rw [e1] at h1
 rw [e2] at h2
 rw [h1, h2]
 split <;> omega
theorem n7 (A B : Option Addr) (n c m c2 : Nat) (ds : List Int) (cs : List NR) (w : World) (hS : Sl w A n 1 (bP ds)) (hS2 : Sl w B m 3 (br NR.cells cs)) (hn : n ≤ 1000000) (hc : ∀ a ∈ cs, a.ok) :
  Calls Tryz.prog 66 #[.agg #[.slice A n c, .slice B m c2]] w fun r w' => r = .returned (.int .i64 (fE ds cs)) ∧ Below w.heap.size w w' := by
 have hh := Hp.start w
 have hln : ds.length = n := by have := hS.1; simpa [bP] using this
 have hlm := hS2.eI NR.len (by decide)
 unfold fE
 by_cases g1 : 12 < n
 ·refine aj (N := 40) (l := [.agg #[.slice A n c, .slice B m c2]]) Tryz.func66 rfl rfl (by simp) ?_
  refine sr ?_
  refine cw hh [_,_] ?_
  intro b1 w1 hh
  refine aI (aa (sr (bG ?_)))
  refine bI hh 0 ?_
  refine bB hh (fh A n c ds _ (hS.ext hh.below) hn) rfl ?_
  intro w7 hh
  refine aI (aa (ah (sr (bG ?_))))
  refine bI hh 0 ?_
  refine a7 ?_
  refine bO (mB ?_)
  first | refine gS ?_ | (refine gT ?_; refine mI ?_) | refine gV ?_
  first | refine gS ?_ | (refine gT ?_; refine aK ?_) | refine gV ?_
  first | refine db ?_ | refine de ?_
  refine aa (cT (sr (aI (aa (ao (aQ ?_))))))
  refine cx ?_
  exact ⟨by rw [if_pos (.inl (by omega))], hh.below⟩
 ·cases g2 : ds.any (fun d => !dI d) with
  | true =>
   have hcd : mg ds = -1 := by unfold mg; rw [g2, if_pos rfl]
   refine aj (N := 40) (l := [.agg #[.slice A n c, .slice B m c2]]) Tryz.func66 rfl rfl (by simp) ?_
   refine sr ?_
   refine cw hh [_,_] ?_
   intro b1 w1 hh
   refine aI (aa (sr (bG ?_)))
   refine bI hh 0 ?_
   refine bB hh (fh A n c ds _ (hS.ext hh.below) hn) rfl ?_
   intro w7 hh
   rw [hcd]
   refine aI (aa (ah (sr (bG ?_))))
   refine bI hh 0 ?_
   refine a7 ?_
   refine bO (mB ?_)
   first | refine gS ?_ | (refine gT ?_; refine mI ?_) | refine gV ?_
   first | refine gS ?_ | (refine gT ?_; refine aK ?_) | refine gV ?_
   first | refine db ?_ | refine de ?_
   refine aa (cT (sr (aI (aa (ao (aQ ?_))))))
   refine cx ?_
   exact ⟨by rw [if_pos (.inr rfl)], hh.below⟩
  | false =>
   rw [if_neg (fun h => h.elim (fun h => by omega) (fun h => by cases h))]
   obtain ⟨k1, k2, k3⟩ := vT g2
   by_cases g3 : fP 1 ds = 0
   ·have k4 := k1.1 g3
    refine aj (N := 40) (l := [.agg #[.slice A n c, .slice B m c2]]) Tryz.func66 rfl rfl (by simp) ?_
    refine sr ?_
    refine cw hh [_,_] ?_
    intro b1 w1 hh
    refine aI (aa (sr (bG ?_)))
    refine bI hh 0 ?_
    refine bB hh (fh A n c ds _ (hS.ext hh.below) hn) rfl ?_
    intro w7 hh
    refine aI (aa (ah (sr (bG ?_))))
    refine bI hh 0 ?_
    refine a7 ?_
    refine bO (mB ?_)
    first | refine gS ?_ | (refine gT ?_; refine mI ?_) | refine gV ?_
    first | refine gS ?_ | (refine gT ?_; refine aK ?_) | refine gV ?_
    first | refine db ?_ | refine de ?_
    refine aa (cF (ak (ai (ah (sr (mI ?_))))))
    refine bO (aa (cT (sr (aI (aa (ao (aQ ?_)))))))
    refine cx ?_
    exact ⟨by rw [if_pos g3], hh.below⟩
   ·have k4 : ¬ 4096 < mg ds := fun h => g3 (k1.2 h)
    rw [if_neg g3, k2 g3]
    by_cases g4 : (m : Int) = mg ds
    ·rw [if_neg (show ¬ (cs.length : Int) ≠ mg ds by omega)]
     refine aj (N := 40) (l := [.agg #[.slice A n c, .slice B m c2]]) Tryz.func66 rfl rfl (by simp) ?_
     refine sr ?_
     refine cw hh [_,_] ?_
     intro b1 w1 hh
     refine aI (aa (sr (bG ?_)))
     refine bI hh 0 ?_
     refine bB hh (fh A n c ds _ (hS.ext hh.below) hn) rfl ?_
     intro w7 hh
     refine aI (aa (ah (sr (bG ?_))))
     refine bI hh 0 ?_
     refine a7 ?_
     refine bO (mB ?_)
     first | refine gS ?_ | (refine gT ?_; refine mI ?_) | refine gV ?_
     first | refine gS ?_ | (refine gT ?_; refine aK ?_) | refine gV ?_
     first | refine db ?_ | refine de ?_
     refine aa (cF (ak (ai (ah (sr (mI ?_))))))
     refine bO (aa (cF (ak (ai (ah (sr (bG ?_)))))))
     refine bI hh 0 ?_
     refine a7 (mI ?_)
     refine gA (aa (cF (ak (ai (ah (sr (aI (aa (al ?_)))))))))
     refine bx [2, 4, 23, 24, 25, 26, 27, 28, 29, 30, 31, 32, 33, 34, 35, 36, 37, 38, 39] 4
      (fun v w' => ∃ i : Nat, i ≤ m ∧ v = .int .i64 i ∧ (cs.take i).any me = false ∧ Hp w [.blk b1 28 [.slice A n c, .slice B m c2] (0, 0)] w')
      (fun v _ => m - (intOf v).toNat) ?_ ?_
     ·exact ⟨0, Nat.zero_le _, rfl, rfl, hh⟩
     ·clear hh
      rintro ρ' v w' ⟨i, hi, rfl, hall, hh⟩
      by_cases hlt : i < m
      ·obtain ⟨x, hx⟩ := aO (l := cs) (k := i) (by omega)
       have hxo := hc x (List.mem_of_getElem? hx)
       have hf := fun w1 => dL x w1 (by have := hxo.1; omega) (by have := hxo.2; omega) (by have := hxo.2; omega)
       obtain ⟨ad, rfl, hr⟩ := hS2.at_ (by omega)
       cases g5 : me x with
       | true =>
        have he : ¬ nR x.d = x := fun h => by rw [iB.2 h] at g5; cases g5
        refine ah (sr (mI (mI ?_)))
        refine aK (aa (cT (ak (ai (ah (al (ah ?_)))))))
        refine aE 11 [[(1, none)], [(28, some 0)], [(4, none)], [(29, some 1), (30, some 2)], [(31, some 3)], [(32, some 4)], [(1, none)], [(34, some 6)], [(4, none)], [(35, some 7), (36, some 8)], [(37, some 9)]] [(10, 38), (9, 37), (8, 36), (7, 35), (6, 34), (5, 33), (4, 32), (3, 31), (2, 30), (1, 29), (0, 28)] hh mixed (by kernel_rfl) ?_
        refine dT ?_
        refine eY 0 ?_
        refine dk ?_
        refine bh (i := 3) (fun ρ1 w1 hj hR => cL aN.out aA.size (show ρ1 29 = Value.slice _ _ _ from hR.1) (show ρ1 30 = Value.int _ _ from hR.2.1) (by omega) (by omega)) ?_
        refine uW [_,_,_] (fun _ hj => (hr.ext hj.hp.below).recAt NR.len hx) ?_
        refine dC (fun _ hj => hf _) ?_
        refine dT ?_
        refine eY 0 ?_
        refine dk ?_
        refine bh (i := 9) (fun ρ1 w1 hj hR => cL aN.out aA.size (show ρ1 35 = Value.slice _ _ _ from hR.1) (show ρ1 36 = Value.int _ _ from hR.2.1) (by omega) (by omega)) ?_
        refine uW [_,_,_] (fun _ hj => (hr.ext hj.hp.below).recAt NR.len hx) ?_
        refine aW ?_
        intro f W hJ hV
        have hb_11 := hJ.bl
        obtain ⟨v38, v37, v36, v35, v34, v33, v32, v31, v30, v29, v28, _⟩ := hV
        replace hh := hJ.hp
        refine aJ (aZ (ae v38 (ae v37 (ae v36 (ae v35 (ae v34 (ae v33 (ae v32 (ae v31 (ae v30 (ae v29 (ae v28 aH)))))))))))) ?_
        dsimp only [bQ]
        clear hJ
        first | refine lq rfl rfl (by first | assumption | rfl) (by decide) ?_ | refine kK rfl rfl (by assumption) (by decide) ?_
        refine aa (cT (sr (aI (aa (ao (bZ (aQ (aQ (bZ (aQ ?_))))))))))
        refine cx ?_
        exact ⟨by rw [if_pos (List.any_eq_true.2 ⟨x, List.mem_of_getElem? hx, g5⟩)], hh.below⟩
       | false =>
        have he := iB.1 g5
        refine ah (sr (mI (mI ?_)))
        refine aK (aa (cT (ak (ai (ah (al (ah ?_)))))))
        refine aE 11 [[(1, none)], [(28, some 0)], [(4, none)], [(29, some 1), (30, some 2)], [(31, some 3)], [(32, some 4)], [(1, none)], [(34, some 6)], [(4, none)], [(35, some 7), (36, some 8)], [(37, some 9)]] [(10, 38), (9, 37), (8, 36), (7, 35), (6, 34), (5, 33), (4, 32), (3, 31), (2, 30), (1, 29), (0, 28)] hh mixed (by kernel_rfl) ?_
        refine dT ?_
        refine eY 0 ?_
        refine dk ?_
        refine bh (i := 3) (fun ρ1 w1 hj hR => cL aN.out aA.size (show ρ1 29 = Value.slice _ _ _ from hR.1) (show ρ1 30 = Value.int _ _ from hR.2.1) (by omega) (by omega)) ?_
        refine uW [_,_,_] (fun _ hj => (hr.ext hj.hp.below).recAt NR.len hx) ?_
        refine dC (fun _ hj => hf _) ?_
        refine dT ?_
        refine eY 0 ?_
        refine dk ?_
        refine bh (i := 9) (fun ρ1 w1 hj hR => cL aN.out aA.size (show ρ1 35 = Value.slice _ _ _ from hR.1) (show ρ1 36 = Value.int _ _ from hR.2.1) (by omega) (by omega)) ?_
        refine uW [_,_,_] (fun _ hj => (hr.ext hj.hp.below).recAt NR.len hx) ?_
        refine aW ?_
        intro f W hJ hV
        have hb_11 := hJ.bl
        obtain ⟨v38, v37, v36, v35, v34, v33, v32, v31, v30, v29, v28, _⟩ := hV
        replace hh := hJ.hp
        refine aJ (aZ (ae v38 (ae v37 (ae v36 (ae v35 (ae v34 (ae v33 (ae v32 (ae v31 (ae v30 (ae v29 (ae v28 aH)))))))))))) ?_
        dsimp only [bQ]
        clear hJ
        first | refine lq rfl rfl (by first | assumption | rfl) (by decide) ?_ | refine kK rfl rfl (by assumption) (by decide) ?_
        refine aa (cF (ak (a0 (ai (aq (mI ?_))))))
        refine bz (aI (aD (ai ?_)))
        refine ⟨⟨i + 1, by omega, rfl, by rw [a9 hx, List.any_append, hall, List.any_cons, List.any_nil, g5]; rfl, hh⟩, by show m - (i + 1) < m - i; omega, ?_⟩
        (repeat (first | exact aw _ _ _ | refine az rfl ?_ | refine au rfl ?_))
      ·rw [List.take_of_length_le (by omega)] at hall
       refine ah (sr (mI (mI ?_)))
       refine aK (aa (cF ?_))
       refine aY ?_
       refine ay (ay (bm (ai (sr (aI (aa (ao ?_)))))))
       refine cx ?_
       exact ⟨by rw [hall, if_neg (by decide)], hh.below⟩
    ·rw [if_pos (show (cs.length : Int) ≠ mg ds by omega)]
     refine aj (N := 40) (l := [.agg #[.slice A n c, .slice B m c2]]) Tryz.func66 rfl rfl (by simp) ?_
     refine sr ?_
     refine cw hh [_,_] ?_
     intro b1 w1 hh
     refine aI (aa (sr (bG ?_)))
     refine bI hh 0 ?_
     refine bB hh (fh A n c ds _ (hS.ext hh.below) hn) rfl ?_
     intro w7 hh
     refine aI (aa (ah (sr (bG ?_))))
     refine bI hh 0 ?_
     refine a7 ?_
     refine bO (mB ?_)
     first | refine gS ?_ | (refine gT ?_; refine mI ?_) | refine gV ?_
     first | refine gS ?_ | (refine gT ?_; refine aK ?_) | refine gV ?_
     first | refine db ?_ | refine de ?_
     refine aa (cF (ak (ai (ah (sr (mI ?_))))))
     refine bO (aa (cF (ak (ai (ah (sr (bG ?_)))))))
     refine bI hh 0 ?_
     refine a7 (mI ?_)
     refine gA (aa (cT (sr (aI (aa (ao (aQ ?_)))))))
     refine cx ?_
     exact ⟨rfl, hh.below⟩
end Go.Proofs.YtioilmppidlbnaaGreatDoor
/- The walks through ogeeref12, second part: ways to choose, rows, places, equal forms, a form of one's own. -/
namespace Go.Proofs.YtioilmppidlbnaaGreatDoor
open Go.RowKit
def mA (n : Nat) (k : Int) : Dyadic := if k < 0 ∨ (n : Int) < k then 0 else nD (bin n k.toNat)
theorem pC {n : Nat} (k : Int) (h : n ≤ 127) : Sz 128 (mA n k) := by
 unfold mA
 split
 ·exact Sz.zero _
 ·exact wo (Nat.lt_of_le_of_lt (nU n _) (Nat.pow_lt_pow_right (by decide) (by omega)))
theorem jr : ∀ (n : Nat) (N k : Int) (w : World), n ≤ 127 → N = n → -1000 ≤ k → k ≤ 1000 →
  Calls Tryz.prog 183 #[.int .i64 N, .int .i64 k] w fun r w' => r = .returned (.agg #[.bool (nR (mA n k)).neg, .string (nR (mA n k)).bk, .int .i64 (nR (mA n k)).e]) ∧ Below w.heap.size w w' := by
 intro n
 induction n with
 | zero =>
  intro N k w hn hN h1 h2
  have hh := Hp.start w
  by_cases hz : k < 0 ∨ N < k
  ·have e : mA 0 k = 0 := by unfold mA; rw [if_pos (by omega)]
   rw [e]
   by_cases hz1 : k < 0
   ·refine aj (N := 31) (l := [.int .i64 N, .int .i64 k]) Tryz.func183 rfl rfl (by simp) ?_
    refine sr ?_
    refine cf hh ?_
    intro b4 w4 hh
    refine aa (ah (sr (mI ?_)))
    refine aK (mB ?_)
    first | refine gS ?_ | (refine gT ?_; refine mI ?_) | refine gV ?_
    first | refine gS ?_ | (refine gT ?_; refine mI ?_) | refine gV ?_
    first | refine gS ?_ | (refine gT ?_; refine bO ?_) | refine gV ?_
    first | refine db ?_ | refine de ?_
    refine aa (cT (sr ?_))
    refine fg [_,_,_] ?_
    refine bD hh 0 [_,_,_] ?_
    intro ws hh
    replace hh : Hp _ (.blk _ _ [_, _, _] _ :: _) _ := hh
    refine aa (ao (aQ ?_))
    refine eG (aG rfl (aF (vs := [_, _, _]) aA.out (hh.ar (i := 0) (n := 3) rfl rfl) rfl) bg) ?_
    exact ⟨rfl, hh.below⟩
   ·refine aj (N := 31) (l := [.int .i64 N, .int .i64 k]) Tryz.func183 rfl rfl (by simp) ?_
    refine sr ?_
    refine cf hh ?_
    intro b4 w4 hh
    refine aa (ah (sr (mI ?_)))
    refine aK (mB ?_)
    first | refine gS ?_ | (refine gT ?_; refine mI ?_) | refine gV ?_
    first | refine gS ?_ | (refine gT ?_; refine mI ?_) | refine gV ?_
    first | refine gS ?_ | (refine gT ?_; refine bO ?_) | refine gV ?_
    first | refine db ?_ | refine de ?_
    refine aa (cT (sr ?_))
    refine fg [_,_,_] ?_
    refine bD hh 0 [_,_,_] ?_
    intro ws hh
    replace hh : Hp _ (.blk _ _ [_, _, _] _ :: _) _ := hh
    refine aa (ao (aQ ?_))
    refine eG (aG rfl (aF (vs := [_, _, _]) aA.out (hh.ar (i := 0) (n := 3) rfl rfl) rfl) bg) ?_
    exact ⟨rfl, hh.below⟩
  ·obtain rfl : k = 0 := by omega
   have e : mA 0 0 = ((1 : Int) : Dyadic) := rfl
   rw [e]
   refine aj (N := 31) (l := [.int .i64 N, .int .i64 0]) Tryz.func183 rfl rfl (by simp) ?_
   refine sr ?_
   refine cf hh ?_
   intro b4 w4 hh
   refine aa (ah (sr (mI ?_)))
   refine aK (mB ?_)
   first | refine gS ?_ | (refine gT ?_; refine mI ?_) | refine gV ?_
   first | refine gS ?_ | (refine gT ?_; refine mI ?_) | refine gV ?_
   first | refine gS ?_ | (refine gT ?_; refine bO ?_) | refine gV ?_
   first | refine db ?_ | refine de ?_
   refine aa (cF (ak (ai (ah (sr (mI ?_))))))
   refine cV (mB ?_)
   first | refine gS ?_ | (refine gT ?_; refine mI ?_) | refine gV ?_
   first | refine gS ?_ | (refine gT ?_; refine mI ?_) | refine gV ?_
   first | refine gS ?_ | (refine gT ?_; refine cV ?_) | refine gV ?_
   first | refine db ?_ | refine de ?_
   refine aa (cT (sr ?_))
   refine bB hh (eH 1 _ (by omega) (by omega)) rfl ?_
   intro w20 hh
   refine bD hh 0 [_,_,_] ?_
   intro ws hh
   replace hh : Hp _ (.blk _ _ [_, _, _] _ :: _) _ := hh
   refine aa (ao (aQ ?_))
   refine eG (aG rfl (aF (vs := [_, _, _]) aA.out (hh.ar (i := 0) (n := 3) rfl rfl) rfl) bg) ?_
   exact ⟨rfl, hh.below⟩
 | succ n ih =>
  intro N k w hn hN h1 h2
  have hh := Hp.start w
  by_cases hz : k < 0 ∨ N < k
  ·have e : mA (n + 1) k = 0 := by unfold mA; rw [if_pos (by omega)]
   rw [e]
   by_cases hz1 : k < 0
   ·refine aj (N := 31) (l := [.int .i64 N, .int .i64 k]) Tryz.func183 rfl rfl (by simp) ?_
    refine sr ?_
    refine cf hh ?_
    intro b4 w4 hh
    refine aa (ah (sr (mI ?_)))
    refine aK (mB ?_)
    first | refine gS ?_ | (refine gT ?_; refine mI ?_) | refine gV ?_
    first | refine gS ?_ | (refine gT ?_; refine mI ?_) | refine gV ?_
    first | refine gS ?_ | (refine gT ?_; refine bO ?_) | refine gV ?_
    first | refine db ?_ | refine de ?_
    refine aa (cT (sr ?_))
    refine fg [_,_,_] ?_
    refine bD hh 0 [_,_,_] ?_
    intro ws hh
    replace hh : Hp _ (.blk _ _ [_, _, _] _ :: _) _ := hh
    refine aa (ao (aQ ?_))
    refine eG (aG rfl (aF (vs := [_, _, _]) aA.out (hh.ar (i := 0) (n := 3) rfl rfl) rfl) bg) ?_
    exact ⟨rfl, hh.below⟩
   ·refine aj (N := 31) (l := [.int .i64 N, .int .i64 k]) Tryz.func183 rfl rfl (by simp) ?_
    refine sr ?_
    refine cf hh ?_
    intro b4 w4 hh
    refine aa (ah (sr (mI ?_)))
    refine aK (mB ?_)
    first | refine gS ?_ | (refine gT ?_; refine mI ?_) | refine gV ?_
    first | refine gS ?_ | (refine gT ?_; refine mI ?_) | refine gV ?_
    first | refine gS ?_ | (refine gT ?_; refine bO ?_) | refine gV ?_
    first | refine db ?_ | refine de ?_
    refine aa (cT (sr ?_))
    refine fg [_,_,_] ?_
    refine bD hh 0 [_,_,_] ?_
    intro ws hh
    replace hh : Hp _ (.blk _ _ [_, _, _] _ :: _) _ := hh
    refine aa (ao (aQ ?_))
    refine eG (aG rfl (aF (vs := [_, _, _]) aA.out (hh.ar (i := 0) (n := 3) rfl rfl) rfl) bg) ?_
    exact ⟨rfl, hh.below⟩
  ·by_cases hs : k = 0 ∨ k = N
   ·have e : mA (n + 1) k = ((1 : Int) : Dyadic) := by
     unfold mA
     rw [if_neg (by omega)]
     rcases hs with rfl | h
     ·rw [show Int.toNat 0 = 0 from rfl, nW]; rfl
     ·rw [show k.toNat = n + 1 by omega, mR]; rfl
    rw [e]
    by_cases hs1 : k = 0
    ·refine aj (N := 31) (l := [.int .i64 N, .int .i64 k]) Tryz.func183 rfl rfl (by simp) ?_
     refine sr ?_
     refine cf hh ?_
     intro b4 w4 hh
     refine aa (ah (sr (mI ?_)))
     refine aK (mB ?_)
     first | refine gS ?_ | (refine gT ?_; refine mI ?_) | refine gV ?_
     first | refine gS ?_ | (refine gT ?_; refine mI ?_) | refine gV ?_
     first | refine gS ?_ | (refine gT ?_; refine bO ?_) | refine gV ?_
     first | refine db ?_ | refine de ?_
     refine aa (cF (ak (ai (ah (sr (mI ?_))))))
     refine cV (mB ?_)
     first | refine gS ?_ | (refine gT ?_; refine mI ?_) | refine gV ?_
     first | refine gS ?_ | (refine gT ?_; refine mI ?_) | refine gV ?_
     first | refine gS ?_ | (refine gT ?_; refine cV ?_) | refine gV ?_
     first | refine db ?_ | refine de ?_
     refine aa (cT (sr ?_))
     refine bB hh (eH 1 _ (by omega) (by omega)) rfl ?_
     intro w20 hh
     refine bD hh 0 [_,_,_] ?_
     intro ws hh
     replace hh : Hp _ (.blk _ _ [_, _, _] _ :: _) _ := hh
     refine aa (ao (aQ ?_))
     refine eG (aG rfl (aF (vs := [_, _, _]) aA.out (hh.ar (i := 0) (n := 3) rfl rfl) rfl) bg) ?_
     exact ⟨rfl, hh.below⟩
    ·refine aj (N := 31) (l := [.int .i64 N, .int .i64 k]) Tryz.func183 rfl rfl (by simp) ?_
     refine sr ?_
     refine cf hh ?_
     intro b4 w4 hh
     refine aa (ah (sr (mI ?_)))
     refine aK (mB ?_)
     first | refine gS ?_ | (refine gT ?_; refine mI ?_) | refine gV ?_
     first | refine gS ?_ | (refine gT ?_; refine mI ?_) | refine gV ?_
     first | refine gS ?_ | (refine gT ?_; refine bO ?_) | refine gV ?_
     first | refine db ?_ | refine de ?_
     refine aa (cF (ak (ai (ah (sr (mI ?_))))))
     refine cV (mB ?_)
     first | refine gS ?_ | (refine gT ?_; refine mI ?_) | refine gV ?_
     first | refine gS ?_ | (refine gT ?_; refine mI ?_) | refine gV ?_
     first | refine gS ?_ | (refine gT ?_; refine cV ?_) | refine gV ?_
     first | refine db ?_ | refine de ?_
     refine aa (cT (sr ?_))
     refine bB hh (eH 1 _ (by omega) (by omega)) rfl ?_
     intro w20 hh
     refine bD hh 0 [_,_,_] ?_
     intro ws hh
     replace hh : Hp _ (.blk _ _ [_, _, _] _ :: _) _ := hh
     refine aa (ao (aQ ?_))
     refine eG (aG rfl (aF (vs := [_, _, _]) aA.out (hh.ar (i := 0) (n := 3) rfl rfl) rfl) bg) ?_
     exact ⟨rfl, hh.below⟩
   ·obtain ⟨j, rfl⟩ : ∃ j : Nat, k = ((j + 1 : Nat) : Int) := ⟨(k - 1).toNat, by omega⟩
    have z1 := pC (n := n) (((j + 1 : Nat) : Int) - 1) (by omega)
    have z2 := pC (n := n) ((j + 1 : Nat) : Int) (by omega)
    have e : mA n (((j + 1 : Nat) : Int) - 1) + mA n ((j + 1 : Nat) : Int) = mA (n + 1) ((j + 1 : Nat) : Int) := by
     unfold mA
     rw [if_neg (by omega), if_neg (by omega), if_neg (by omega), ← pY, show (((j + 1 : Nat) : Int) - 1).toNat = j by omega, Int.toNat_natCast]
     rfl
    have hpl := fun w1 => jD (nR (mA n (((j + 1 : Nat) : Int) - 1))) (nR (mA n ((j + 1 : Nat) : Int))) w1 (z1.ok (by omega)) (z2.ok (by omega))
    rw [dH, dH, e] at hpl
    refine aj (N := 31) (l := [.int .i64 N, .int .i64 ((j + 1 : Nat) : Int)]) Tryz.func183 rfl rfl (by simp) ?_
    refine sr ?_
    refine cf hh ?_
    intro b4 w4 hh
    refine aa (ah (sr (mI ?_)))
    refine aK (mB ?_)
    first | refine gS ?_ | (refine gT ?_; refine mI ?_) | refine gV ?_
    first | refine gS ?_ | (refine gT ?_; refine mI ?_) | refine gV ?_
    first | refine gS ?_ | (refine gT ?_; refine bO ?_) | refine gV ?_
    first | refine db ?_ | refine de ?_
    refine aa (cF (ak (ai (ah (sr (mI ?_))))))
    refine cV (mB ?_)
    first | refine gS ?_ | (refine gT ?_; refine mI ?_) | refine gV ?_
    first | refine gS ?_ | (refine gT ?_; refine mI ?_) | refine gV ?_
    first | refine gS ?_ | (refine gT ?_; refine cV ?_) | refine gV ?_
    first | refine db ?_ | refine de ?_
    refine aa (cF (ak (ai (sr (mI ?_)))))
    refine eo (mI ?_)
    refine eo ?_
    refine bB hh (ih (N - 1) (((j + 1 : Nat) : Int) - 1) _ (by omega) (by omega) (by omega) (by omega)) rfl ?_
    intro w25 hh
    refine mI ?_
    refine eo (mI ?_)
    refine bB hh (ih (N - 1) ((j + 1 : Nat) : Int) _ (by omega) (by omega) (by omega) (by omega)) rfl ?_
    intro w29 hh
    refine bB hh (hpl _) rfl ?_
    intro w30 hh
    refine bD hh 0 [_,_,_] ?_
    intro ws hh
    replace hh : Hp _ (.blk _ _ [_, _, _] _ :: _) _ := hh
    refine aa (ao ?_)
    refine eG (aG rfl (aF (vs := [_, _, _]) aA.out (hh.ar (i := 0) (n := 3) rfl rfl) rfl) bg) ?_
    exact ⟨rfl, hh.below⟩
theorem tj : ∀ (ns : List Nat) (n : Nat), (∀ d ∈ ns, d ≤ 127) → n * aC ns ≤ 65536 → 1 ≤ n → n4 n (bL ns) = true
 | [], _, _, _, _ => rfl
 | d :: ns, n, h, hc, h1 => by
  have hd := h d List.mem_cons_self
  have e1 : (n : Int) * ((d : Int) + 1) = ((n * (d + 1) : Nat) : Int) := by rw [Int.natCast_mul, Int.natCast_add]; rfl
  rw [aC, ← Nat.mul_assoc] at hc
  have h2 : n * (d + 1) * 1 ≤ n * (d + 1) * aC ns := Nat.mul_le_mul_left _ (dx ns)
  have ih := tj ns (n * (d + 1)) (fun x hx => h x (List.mem_cons_of_mem _ hx)) hc (Nat.mul_pos h1 (by omega))
  show (decide (0 ≤ (d : Int)) && (decide ((d : Int) ≤ 127) && (decide ((n : Int) * ((d : Int) + 1) ≤ 65536) && n4 ((n : Int) * ((d : Int) + 1)) (bL ns)))) = true
  rw [e1, ih, decide_eq_true (by omega), decide_eq_true (by omega), decide_eq_true (by omega)]
  rfl
def lY (ns : List Nat) : List ByteArray := (dD (bL ns)).map fX
theorem ub (ns : List Nat) : (lY ns).length = aC ns := by unfold lY; rw [List.length_map, vZ, eC]
theorem vA {ns : List Nat} {p : Nat} (h : p < aC ns) : (lY ns)[p]? = some (fX (bL (dp ns.reverse p).reverse)) := by
 unfold lY
 rw [List.getElem?_map, wW (by rw [eC]; exact h)]
 rfl
theorem pA (A : Option Addr) (n c : Nat) (ns : List Nat) (w : World) (hS : Sl w A n 1 (bP (bL ns))) (h12 : ns.length ≤ 12) (hlow : ∀ d ∈ ns, d ≤ 127) (hmax : aC ns ≤ 65536) :
  Calls Tryz.prog 112 #[.slice A n c] w fun r w' => ∃ B c', r = .returned (.slice B (aC ns) c') ∧ w'.ownsRow w.heap.size 9 1 (.slice B (aC ns) c') (aC ns) (hG (lY ns)) ∧ Below w.heap.size w w' := by
 have hh := Hp.start w
 have hln : ns.length = n := by have := hS.1; simpa [bP, bL] using this
 have ha : nY (bL ns) = lY ns := by
  have h1 : n4 1 (bL ns) = true := tj ns 1 hlow (by rw [Nat.one_mul]; exact hmax) (Nat.le_refl _)
  unfold nY
  rw [if_pos h1]
  rfl
 have hc := fun w1 hS1 => sT A n c (bL ns) w1 hS1 (by omega)
 rw [ha, ub] at hc
 refine aj (N := 5) (l := [.slice A n c]) Tryz.func112 rfl rfl (by simp) ?_
 refine sr (aL (aa (sr (mL ?_))))
 refine aU (hc _ (hS.ext hh.below)) av.out rfl (by decide) ?_
 rintro e_ w4 ⟨A4, c4, rfl, hown_, hb_⟩
 refine ⟨_, rfl, ?_⟩
 replace hh := hh.bj (x := .row _ _ _ _ _ _) hb_ hown_
 refine aL (aa (ao ?_))
 refine cx ?_
 exact ⟨_, _, rfl, hh.at_ (i := 0) rfl, hh.below⟩
theorem An {l : List Nat} {i r : Nat} (h : l[i]? = some r) (hr : r ≤ 255) : ∃ c : UInt8, (fX (bL l)).data.toList[i]? = some c ∧ c.toNat = r := by
 refine ⟨ru (r : Int), ?_, ?_⟩
 ·unfold fX
  rw [eO, List.getElem?_map, iH h]
  rfl
 ·show (UInt8.ofNat ((r : Int)).toNat).toNat = r
  rw [Int.toNat_natCast, UInt8.toNat_ofNat']
  omega
theorem rA (A : Option Addr) (n c : Nat) (ns rs : List Nat) (w : World) (hS : Sl w A n 1 (bP (bL ns))) (hn : n ≤ 1000) (hmax : aC ns ≤ 1000000) (hl : rs.length = ns.length) (hok : ∀ (i d r : Nat), ns[i]? = some d → rs[i]? = some r → r ≤ d) (hlow : ∀ d ∈ ns, d ≤ 255) :
  Calls Tryz.prog 113 #[.slice A n c, .string (fX (bL rs))] w fun r w' => r = .returned (.int .i64 (ij ns.reverse rs.reverse)) ∧ Below w.heap.size w w' := by
 have hh := Hp.start w
 have hln : ns.length = n := by have := hS.1; simpa [bP, bL] using this
 refine aj (N := 26) (l := [.slice A n c, .string (fX (bL rs))]) Tryz.func113 rfl rfl (by simp) ?_
 refine sr (aI (aa (sr (aI (aa (ah (sr (aI (aa (al ?_))))))))))
 refine bY [5, 6, 7, 8, 9, 10, 11, 12, 13, 14, 15, 16, 17, 18, 19, 20, 21, 22, 23, 24] 5 6
  (fun v5 v w' => ∃ (i q : Nat), i ≤ n ∧ v = .int .i64 i ∧ v5 = .int .i64 q ∧ q = ij (ns.take i).reverse (rs.take i).reverse ∧ q < aC (ns.take i) ∧ Hp w [] w')
  (fun _ v _ => n - (intOf v).toNat) ?_ ?_
 ·exact ⟨0, 0, Nat.zero_le _, rfl, rfl, rfl, Nat.one_pos, hh⟩
 ·clear hh
  rintro ρ' v5 v w' ⟨i, q, hi, rfl, rfl, hq, hq2, hh⟩
  by_cases hlt : i < n
  ·obtain ⟨d, hd⟩ := aO (l := ns) (k := i) (by omega)
   obtain ⟨r, hr⟩ := aO (l := rs) (k := i) (by omega)
   have hgi := cg (iH hd)
   have hrd := hok i d r hd hr
   have hd255 := hlow d (List.mem_of_getElem? hd)
   obtain ⟨ch, hch, hcr⟩ := An hr (by omega)
   have hch2 : (fX (bL rs)).data.toList[(i : Int).toNat]? = some ch := hch
   have hst := vp hd hr
   have hcs := u7 hd
   rw [eC, eC] at hcs
   rw [← hq] at hst
   have hct := gx ns (i + 1)
   have hnew : r + (d + 1) * q < (d + 1) * aC (ns.take i) := by
    have : (d + 1) * (q + 1) ≤ (d + 1) * aC (ns.take i) := Nat.mul_le_mul_left _ hq2
    rw [Nat.mul_succ] at this
    omega
   have hpr : (q : Int) * ((d : Int) + 1) = (((d + 1) * q : Nat) : Int) := by rw [Nat.mul_comm, Int.natCast_mul, Int.natCast_add]; rfl
   obtain ⟨ad, rfl, hsr⟩ := hS.at_ (by omega)
   refine ah (sr (mI (mL (a7 ?_))))
   refine aK (aa (cT (ak (ai (ah (al ?_))))))
   refine aE 11 [[(5, none)], [(0, none)], [(6, none)], [(14, some 1), (15, some 2)], [(16, some 3)], [(17, some 4)], [(13, some 0), (18, some 5)], [(1, none)], [(6, none)], [(20, some 7), (21, some 8)], [(22, some 9)]] [(10, 23), (9, 22), (8, 21), (7, 20), (6, 19), (5, 18), (4, 17), (3, 16), (2, 15), (1, 14), (0, 13)] hh mixed (by kernel_rfl) ?_
   refine dk ?_
   refine g6 ?_
   refine dk ?_
   refine l7 (i) ?_
   refine bh (i := 4) (fun ρ1 w1 hj hR => dt aA.out (show ρ1 16 = Value.pointer _ from hR.1) ((hsr.ext hj.hp.below).fJ (by assumption))) ?_
   refine rb ?_
   refine zj ?_
   refine Bf ?_
   refine dk ?_
   refine bh (i := 9) (fun ρ1 w1 hj hR => jw aN.out (show ρ1 20 = Value.string _ from hR.1) (show ρ1 21 = Value.int _ _ from hR.2.1) (by omega) (by assumption)) ?_
   refine bh (i := 10) (fun ρ1 w1 hj hR => nM aN.out aN.out (show ρ1 22 = Value.int _ _ from hR.1) (by omega) (by omega)) ?_
   refine aW ?_
   intro f W hJ hV
   have hb_5 := hJ.bl
   obtain ⟨v23, v22, v21, v20, v19, v18, v17, v16, v15, v14, v13, _⟩ := hV
   replace hh := hJ.hp
   refine aJ (aZ (ae v23 (ae v22 (ae v21 (ae v20 (ae v19 (ae v18 (ae v17 (ae v16 (ae v15 (ae v14 (ae v13 aH)))))))))))) ?_
   dsimp only [bQ]
   clear hJ
   refine bz (aI (aD (a0 (ai (aq (mI ?_))))))
   refine bz (aI (aD (ai ?_)))
   rw [hcr, hpr]
   refine ⟨⟨i + 1, r + (d + 1) * q, by omega, rfl, ?_, hst.symm, by omega, hh⟩, by show n - (i + 1) < n - i; omega, ?_⟩
   ·show Value.int IntKind.i64 ((((d + 1) * q : Nat) : Int) + (r : Int)) = _
    rw [show (((d + 1) * q : Nat) : Int) + (r : Int) = ((r + (d + 1) * q : Nat) : Int) by omega]
   ·(repeat (first | exact aw _ _ _ | refine az rfl ?_ | refine au rfl ?_))
  ·obtain rfl : i = n := by omega
   rw [List.take_of_length_le (by omega), List.take_of_length_le (by omega)] at hq
   refine ah (sr (mI (mL (a7 ?_))))
   refine aK (aa (cF ?_))
   refine aY ?_
   refine ay (ay (bm (ai (sr (mI (aI (aa (ao ?_))))))))
   refine cx ?_
   exact ⟨by rw [hq], hh.below⟩
theorem qT (L : Option Addr) (n c : Nat) (b : List NR) (M : Option Addr) (c2 : Nat) (w : World) (hS : Sl w L n 3 (br NR.cells b)) (hS2 : Sl w M n 3 (br NR.cells b)) (hn : n ≤ 1000000) :
  Calls Tryz.prog 56 #[.slice L n c, .slice M n c2] w fun r w' => r = .returned (.bool true) ∧ Below w.heap.size w w' := by
 have hh := Hp.start w
 have hln := hS.eI NR.len (by decide)
 refine aj (N := 26) (l := [.slice L n c, .slice M n c2]) Tryz.func56 rfl rfl (by simp) ?_
 refine sr (aB (aa (ah (sr (mL (a7 (mL (a7 ?_))))))))
 refine gA (aa (cF (ak (ai (ah (sr (aI (aa (al ?_)))))))))
 refine bx [4, 5, 11, 12, 13, 14, 15, 16, 17, 18, 19, 20, 21, 22, 23, 24, 25] 5
  (fun v w' => ∃ i : Nat, i ≤ n ∧ v = .int .i64 i ∧ Hp w [] w')
  (fun v _ => n - (intOf v).toNat) ?_ ?_
 ·exact ⟨0, Nat.zero_le _, rfl, hh⟩
 ·clear hh
  rintro ρ' v w' ⟨i, hi, rfl, hh⟩
  by_cases hlt : i < n
  ·obtain ⟨s, hs⟩ := aO (l := b) (k := i) (by omega)
   obtain ⟨ad, rfl, hr⟩ := hS.at_ (by omega)
   obtain ⟨ad2, rfl, hr2⟩ := hS2.at_ (by omega)
   refine ah (sr (mI (mL (a7 ?_))))
   refine aK (aa (cT (ak (ai (ah (al (ah ?_)))))))
   refine aE 8 [[(0, none)], [(5, none)], [(17, some 0), (18, some 1)], [(19, some 2)], [(1, none)], [(5, none)], [(21, some 4), (22, some 5)], [(23, some 6)]] [(7, 24), (6, 23), (5, 22), (4, 21), (3, 20), (2, 19), (1, 18), (0, 17)] hh mixed (by kernel_rfl) ?_
   refine g6 ?_
   refine dk ?_
   refine l7 (i) ?_
   refine uW [_,_,_] (fun _ hj => (hr.ext hj.hp.below).recAt NR.len hs) ?_
   refine g6 ?_
   refine dk ?_
   refine l7 (i) ?_
   refine uW [_,_,_] (fun _ hj => (hr2.ext hj.hp.below).recAt NR.len hs) ?_
   refine aW ?_
   intro f W hJ hV
   have hb_6 := hJ.bl
   obtain ⟨v24, v23, v22, v21, v20, v19, v18, v17, _⟩ := hV
   replace hh := hJ.hp
   refine aJ (aZ (ae v24 (ae v23 (ae v22 (ae v21 (ae v20 (ae v19 (ae v18 (ae v17 aH))))))))) ?_
   dsimp only [bQ]
   clear hJ
   first | refine lq rfl rfl (by first | assumption | rfl) (by decide) ?_ | refine kK rfl rfl (by assumption) (by decide) ?_
   refine aa (cF (ak (a0 (ai (aq (mI ?_))))))
   refine bz (aI (aD (ai ?_)))
   refine ⟨⟨i + 1, by omega, rfl, hh⟩, by show n - (i + 1) < n - i; omega, ?_⟩
   (repeat (first | exact aw _ _ _ | refine az rfl ?_ | refine au rfl ?_))
  ·refine ah (sr (mI (mL (a7 ?_))))
   refine aK (aa (cF ?_))
   refine aY ?_
   refine ay (ay (bm (ai (sr (aB (aa (ao ?_)))))))
   refine cx ?_
   exact ⟨rfl, hh.below⟩
theorem pb (A B : Option Addr) (n c m c2 : Nat) (A' B' : Option Addr) (c' c2' : Nat) (ds : List Int) (cs : List NR) (w : World) (hS : Sl w A n 1 (bP ds)) (hS2 : Sl w B m 3 (br NR.cells cs)) (hS3 : Sl w A' n 1 (bP ds)) (hS4 : Sl w B' m 3 (br NR.cells cs)) (hn : n ≤ 100000) (hm : m ≤ 1000000) :
  Calls Tryz.prog 17 #[.agg #[.slice A n c, .slice B m c2], .agg #[.slice A' n c', .slice B' m c2']] w fun r w' => r = .returned (.bool true) ∧ Below w.heap.size w w' := by
 have hh := Hp.start w
 have hnum := fun w1 h1 h2 => jY A A' n n c c' ds ds w1 h1 h2 hn hn
 simp only [decide_true] at hnum
 refine aj (N := 17) (l := [.agg #[.slice A n c, .slice B m c2], .agg #[.slice A' n c', .slice B' m c2']]) Tryz.func17 rfl rfl (by simp) ?_
 refine sr ?_
 refine cw hh [_,_] ?_
 intro b2 w2 hh
 refine cw hh [_,_] ?_
 intro b3 w3 hh
 refine aB (aa (sr (bG ?_)))
 refine bI hh 1 ?_
 refine bG ?_
 refine bI hh 0 ?_
 refine bB hh (hnum _ (hS.ext hh.below) (hS3.ext hh.below)) rfl ?_
 intro w9 hh
 refine mB ?_
 first | refine gS ?_ | (refine gT ?_; refine bG ?_) | refine gV ?_
 first | refine gS ?_ | (refine gT ?_; refine bI hh 1 ?_) | refine gV ?_
 first | refine gS ?_ | (refine gT ?_; refine bG ?_) | refine gV ?_
 first | refine gS ?_ | (refine gT ?_; refine bI hh 0 ?_) | refine gV ?_
 refine bp rfl rfl ?_
 refine bB hh (qT B m c2 cs B' c2' _ (hS2.ext hh.below) (hS4.ext hh.below) hm) rfl ?_
 intro w15 hh
 first | refine db ?_ | refine de ?_
 refine aB (aa (ao ?_))
 refine cx ?_
 exact ⟨rfl, hh.below⟩
theorem p7 (A B : Option Addr) (n c m c2 : Nat) (ds : List Int) (cs : List NR) (w : World) (hS : Sl w A n 1 (bP ds)) (hS2 : Sl w B m 3 (br NR.cells cs)) (hn : n ≤ 1000000) (hm : m ≤ 1000000) :
  Calls Tryz.prog 14 #[.agg #[.slice A n c, .slice B m c2]] w fun r w' => ∃ A' c' B' c2' R, r = .returned (.agg #[.slice A' n c', .slice B' m c2']) ∧ (R = [.row B' m c2' 39 3 (br NR.cells cs), .row A' n c' 3 1 (bP ds)] ∨ m = 0 ∧ R = [.row A' n c' 3 1 (bP ds)]) ∧ Hp w R w' := by
 have hh := Hp.start w
 have hone : ((br NR.cells cs).all Value.oneCell') = true := cz NR.one _
 have hone2 := bW ds
 refine aj (N := 12) (l := [.agg #[.slice A n c, .slice B m c2]]) Tryz.func14 rfl rfl (by simp) ?_
 refine sr ?_
 refine cw hh [_,_] ?_
 intro b1 w1 hh
 refine cf hh ?_
 intro b2 w2 hh
 refine aa (ah ?_)
 refine aE 7 [[], [(1, none)], [(4, some 1)], [(3, some 0), (5, some 2)], [], [(1, none)], [(8, some 5)]] [(6, 9), (5, 8), (4, 7), (3, 6), (2, 5), (1, 4), (0, 3)] hh mixed (by kernel_rfl) ?_
 refine oJ (i := 0) aN.out aA.out (fun w1 hj => hj.bl.size) ?_
 refine dT ?_
 refine eY 1 ?_
 refine sF (i := 3) (fun ρ1 w1 hj hR => hR.1) (fun ρ1 w1 hj hR => ⟨_, _, (show ρ1 5 = Value.slice _ _ _ from hR.2.1), hS.ext hj.hp.below⟩) aN.out aA.out rfl (by decide) (by first | rfl | assumption) (by unfold maxLen; omega) (by omega) (fun w1 hj => hj.bl.size) ?_
 refine oJ (i := 4) aN.out aA.out (fun w1 hj => hj.bl.size) ?_
 refine dT ?_
 refine eY 1 ?_
 refine aW ?_
 intro f W hJ hV
 have hb_1 := hJ.bl
 obtain ⟨v9, v8, v7, v6, v5, v4, v3, _⟩ := hV
 obtain ⟨g3, e3, _⟩ : pU _ _ _ (f 0) W := v3
 obtain ⟨A6, c6, e6, o6⟩ : rG _ _ _ _ _ (f 3) W := v6
 obtain ⟨g7, e7, _⟩ : pU _ _ _ (f 4) W := v7
 replace hh := JJ.zu hh hJ.hp o6
 clear o6
 refine aJ (aZ (ae v9 (ae v8 (ae e7 (ae e6 (ae v5 (ae v4 (ae e3 aH)))))))) ?_
 dsimp only [bQ]
 clear e3 e6 e7 hJ
 refine pQ rfl rfl (hS2.ext hh.below) aN.out aA.out rfl (by decide) hone (by unfold maxLen; omega) (by omega) (by decide) ?_ ?_
 ·rintro rfl
  refine fg [_,_] ?_
  refine bD hh 1 [_,_] ?_
  intro ws hh
  replace hh : Hp _ (_ :: .blk _ _ [_, _] _ :: _) _ := hh
  refine aa (ao ?_)
  refine eG (aG rfl (aF (vs := [_, _]) aA.out (hh.ar (i := 1) (n := 2) rfl rfl) rfl) bg) ?_
  exact ⟨_, _, _, _, _, rfl, .inr ⟨rfl, rfl⟩, hh.sub (List.sublist_append_left [_] _)⟩
 ·intro A10 c10 w10 h0 hb ho
  replace hh := hh.bj (x := .row _ _ _ _ _ _) hb ho
  refine fg [_,_] ?_
  refine bD hh 2 [_,_] ?_
  intro ws hh
  replace hh : Hp _ (_ :: _ :: .blk _ _ [_, _] _ :: _) _ := hh
  refine aa (ao ?_)
  refine eG (aG rfl (aF (vs := [_, _]) aA.out (hh.ar (i := 2) (n := 2) rfl rfl) rfl) bg) ?_
  exact ⟨_, _, _, _, _, rfl, .inl rfl, hh.sub (List.sublist_append_left [_, _] _)⟩
end Go.Proofs.YtioilmppidlbnaaGreatDoor
/- The walks through ogeeref14: Big, Times. -/
namespace Go.Proofs.YtioilmppidlbnaaGreatDoor
open Go.RowKit
end Go.Proofs.YtioilmppidlbnaaGreatDoor
/- The walk through ogeeref14.Times. -/
namespace Go.Proofs.YtioilmppidlbnaaGreatDoor
open Go.RowKit
def Bz (ds es : List Nat) (xs ys : List Dyadic) (i m : Nat) : List (Nat × Dyadic) := (List.range m).map fun k => (ij (sM ds es) (sM (dp ds i) (dp es k)), (xs[i]?).getD 0 * (ys[k]?).getD 0)
def BI (ds es : List Nat) (xs ys : List Dyadic) (i : Nat) : List (Nat × Dyadic) := (List.range i).flatMap fun i => Bz ds es xs ys i (aC es)
def bS (rs : List Nat) : List UInt8 := (bL rs).map ru
theorem zh {ns rs : List Nat} (h : rn ns.reverse rs) (j d r : Nat) (h1 : ns[j]? = some d) (h2 : rs.reverse[j]? = some r) : r ≤ d := by
 have hl := p4 h
 rw [List.length_reverse] at hl
 have hj := (List.getElem?_eq_some_iff.1 h1).1
 rw [List.getElem?_reverse (by omega)] at h2
 refine sO h ?_ h2
 rw [List.getElem?_reverse (by omega), show ns.length - 1 - (rs.length - 1 - j) = j by omega]
 exact h1
end Go.Proofs.YtioilmppidlbnaaGreatDoor
/- Plain laws: a form, raised degree by degree. -/
namespace Go.Proofs.YtioilmppidlbnaaGreatDoor
def wT (ns : List Nat) (a : Nat) : List Nat := ns.set a (ns.getD a 0 + 1)
def BO (ns : List Nat) (a : Nat) (xs : List Dyadic) : List Dyadic :=
 (List.range (aC (wT ns a))).map fun p => co ns.reverse xs (dp (wT ns a).reverse p) + if 0 < (dp (wT ns a).reverse p).getD (ns.length - 1 - a) 0 then co ns.reverse xs (AF (dp (wT ns a).reverse p) (ns.length - 1 - a)) else 0
theorem u6 {l : List Nat} {a x : Nat} (h : a < l.length) : (l.set a x).reverse = l.reverse.set (l.length - 1 - a) x := by
 refine List.ext_getElem? fun i => ?_
 by_cases hi : i < l.length
 ·rw [List.getElem?_reverse (by rw [List.length_set]; exact hi), List.getElem?_set, List.getElem?_set, List.length_set, List.length_reverse, List.getElem?_reverse hi]
  by_cases h2 : a = l.length - 1 - i
  ·rw [if_pos h2, if_pos (by omega), if_pos (by omega), if_pos (by omega)]
  ·rw [if_neg h2, if_neg (by omega)]
 ·rw [List.getElem?_eq_none (by simp; omega), List.getElem?_eq_none (by simp; omega)]
theorem qE {l : List Nat} {a : Nat} (h : a < l.length) : l.reverse.getD (l.length - 1 - a) 0 = l.getD a 0 := by
 rw [List.getD_eq_getElem?_getD, List.getD_eq_getElem?_getD, List.getElem?_reverse (by omega), show l.length - 1 - (l.length - 1 - a) = a by omega]
def BD (ns : List Nat) (xs : List Dyadic) (cs : List Nat) (zs : List Dyadic) : Prop := zs.length = aC cs ∧ cs.length = ns.length ∧ (∀ (i n c : Nat), ns[i]? = some n → cs[i]? = some c → n ≤ c) ∧ ∀ row : List Nat, row.length = ns.length → co cs.reverse zs row = Ba (yL cs ns).reverse (co ns.reverse xs) row
end Go.Proofs.YtioilmppidlbnaaGreatDoor
/- The walk through ogeeref14.up. -/
namespace Go.Proofs.YtioilmppidlbnaaGreatDoor
open Go.RowKit
theorem Hp.yR {w0 w : World} {H : List HE} (h : Hp w0 H w) {i b n : Nat} {t : TypeId} {l : List UInt8} {ex : List Value} {fz : Nat × Nat} (hi : H[i]? = some (.blk b t (ky l ++ ex) fz)) (hl : l.length = n) : Sl w (some ⟨b, 0, none⟩) n 1 (ky l) := by
 refine ⟨by rw [fw, hl, Nat.mul_one], fun _ => ⟨_, rfl, fun j u hu => ?_⟩⟩
 refine h.rU hi j u ?_
 rw [List.getElem?_append_left (List.getElem?_eq_some_iff.1 hu).1]
 exact hu
theorem Af {rs : List Nat} {i r : Nat} (h : rs[i]? = some r) (hr : r ≤ 255) : (ky (bS rs))[i]? = some (.int .u8 (r : Int)) := by
 unfold ky bS
 rw [List.getElem?_map, List.getElem?_map, iH h]
 show some (Value.int .u8 ((ru (r : Int)).toNat : Int)) = _
 have : (ru (r : Int)).toNat = r := by
  show (UInt8.ofNat ((r : Int)).toNat).toNat = r
  rw [Int.toNat_natCast, UInt8.toNat_ofNat']
  omega
 rw [this]
end Go.Proofs.YtioilmppidlbnaaGreatDoor
/- The walk through ogeeref14.Raise. -/
namespace Go.Proofs.YtioilmppidlbnaaGreatDoor
open Go.RowKit
def Bg (w : World) (b i : Nat) : Int := match w.cell? ⟨b, 0, none⟩ with
 | some (.slice (some a) _ _) => match w.cell? (a.add (i * 1)) with
  | some (.int _ z) => z
  | _ => 0
 | _ => 0
structure RS (ns ts : List Nat) (xs : List Dyadic) (k n : Nat) (F FC : Option Addr) (c1 c2 i T : Nat) (cur : List Nat) (zs : List Dyadic) (A B : Option Addr) (ca cb : Nat) (R : List HE) (w : World) : Prop where
 BL : BD ns xs cur zs
 le : ∀ (j c t : Nat), cur[j]? = some c → ts[j]? = some t → c ≤ t
 eq : ∀ (j c t : Nat), j < i → cur[j]? = some c → ts[j]? = some t → c = t
 sz : ∀ x ∈ zs, Sz (k + T) x
 src : (A = F ∧ ca = c1 ∧ B = FC ∧ cb = c2 ∧ cur = ns ∧ zs = xs) ∨ R = [.row B (aC cur) cb 39 3 (br NR.cells (zs.map nR)), .row A n ca 3 1 (bP (bL cur))]
 rd : ∀ (H : List HE) (w' : World), Hp w (H ++ R) w' → Sl w' A n 1 (bP (bL cur)) ∧ Sl w' B (aC cur) 3 (br NR.cells (zs.map nR))
end Go.Proofs.YtioilmppidlbnaaGreatDoor
/- The walks through ogeeref14.Like and ogeeref14.All. -/
namespace Go.Proofs.YtioilmppidlbnaaGreatDoor
open Go.RowKit
theorem wg (f : FX) (k : Nat) (w : World) (h : f.at_ w) (hl : f.rl k) :
  Calls Tryz.prog 66 #[.agg #[.slice f.A f.n f.a, .slice f.B f.m f.b]] w fun r w' => r = .returned (.int .i64 f.e) ∧ Below w.heap.size w w' :=
 n7 f.A f.B f.n f.a f.m f.b f.ds f.cs w h.dg h.nm (by have := hl.zF; omega) fun a ha => (hl.num a ha).1
theorem FX.at_.ln {g : FX} {w : World} (h : g.at_ w) : g.ds.length = g.n ∧ g.cs.length = g.m := ⟨by have := h.dg.1; rw [gu] at this; omega, h.nm.eI NR.len (by decide)⟩
def Kept (fs : List FX) (R : List HE) (g : FX) : Prop := g ∈ fs ∨ (g.gI ∈ R ∧ g.gC ∈ R)
theorem Kept.at_ {w w' : World} {fs : List FX} {R H : List HE} {g : FX} (h : Kept fs R g) (hf : ∀ f ∈ fs, f.at_ w) (hs : ∀ x ∈ R, x ∈ H) (hh : Hp w H w') : g.at_ w' := by
 rcases h with h | ⟨h1, h2⟩
 ·exact (hf g h).ext hh.below
 ·exact hh.ec (hs _ h1) (hs _ h2)
theorem Kept.sub {fs : List FX} {R R' : List HE} {g : FX} (h : Kept fs R g) (hs : ∀ x ∈ R, x ∈ R') : Kept fs R' g := h.imp id fun ⟨a, b⟩ => ⟨hs _ a, hs _ b⟩
end Go.Proofs.YtioilmppidlbnaaGreatDoor
/- The contracts of package lift once more, each with one ending: a form that one owns, empty where there is an error. -/
namespace Go.Proofs.YtioilmppidlbnaaGreatDoor
open Go.RowKit
def zW (E : Int) (D : List Nat) : List Int := if E = 0 then bL D else []
def y9 (E : Int) (ys : List Dyadic) : List NR := if E = 0 then ys.map nR else []
structure Out (E : Int) (D : List Nat) (ys : List Dyadic) (g : FX) : Prop where
 ds : g.ds = zW E D
 cs : g.cs = y9 E ys
 n : g.n ≤ 100000
 m : g.m ≤ 1000000
def FX.nil : FX := ⟨none, 0, 0, none, 0, 0, [], []⟩
theorem Hp.uL {w0 w : World} {H : List HE} (h : Hp w0 H w) : Hp w0 (FX.nil.gI :: FX.nil.gC :: H) w := (h.eW 3 1).eW 39 3
theorem Out.err {E : Int} {D : List Nat} {ys : List Dyadic} (h : E ≠ 0) : Out E D ys FX.nil := ⟨by unfold zW; rw [if_neg h]; rfl, by unfold y9; rw [if_neg h]; rfl, Nat.zero_le _, Nat.zero_le _⟩
theorem Out.same {E : Int} {D : List Nat} {ys : List Dyadic} {g h : FX} (h1 : Out E D ys g) (h2 : Out E D ys h) : g.ds = h.ds ∧ g.cs = h.cs := ⟨h1.ds.trans h2.ds.symm, h1.cs.trans h2.cs.symm⟩
theorem dK (g h : FX) (w : World) (hg : g.at_ w) (hh : h.at_ w) (e : g.ds = h.ds ∧ g.cs = h.cs) (hn : g.n ≤ 100000) (hm : g.m ≤ 1000000) :
  Calls Tryz.prog 17 #[.agg #[.slice g.A g.n g.a, .slice g.B g.m g.b], .agg #[.slice h.A h.n h.a, .slice h.B h.m h.b]] w fun r w' => r = .returned (.bool true) ∧ Below w.heap.size w w' := by
 have l1 := hg.ln
 have l2 := hh.ln
 obtain ⟨hg1, hg2⟩ := hg
 obtain ⟨hh1, hh2⟩ := hh
 have e1 : h.n = g.n := by rw [← l1.1, ← l2.1, e.1]
 have e2 : h.m = g.m := by rw [← l1.2, ← l2.2, e.2]
 rw [← e.1, e1] at hh1
 rw [← e.2, e2] at hh2
 rw [e1, e2]
 exact pb g.A g.B g.n g.a g.m g.b h.A h.B h.a h.b g.ds g.cs w hg1 hg2 hh1 hh2 hn hm
def AM (f : FX) (es : List Int) : Int := if f.e ≠ 0 then f.e else BA f.ds es
def FX.key (f : FX) : List Int × List NR × Nat := (f.ds, f.cs, f.n)
end Go.Proofs.YtioilmppidlbnaaGreatDoor
/- Forms that a call in a drawn region hands back, with a new variable beside them. -/
namespace Go.Proofs.YtioilmppidlbnaaGreatDoor
open Go.RowKit
def Be (base : Nat) (E : Int) (D : List Nat) (ys : List Dyadic) : VP := fun v W => ∃ (g : FX) (w1 : World), v = .agg #[.slice g.A g.n g.a, .slice g.B g.m g.b] ∧ Out E D ys g ∧ base ≤ w1.heap.size ∧ Hp w1 [g.gI, g.gC] W
def Bw (base : Nat) (E : Int) (D : List Nat) (ys : List Dyadic) : VP := fun v W => ∃ (g : FX) (w1 : World), v = .tuple #[.agg #[.slice g.A g.n g.a, .slice g.B g.m g.b], .int .i64 E] ∧ Out E D ys g ∧ base ≤ w1.heap.size ∧ Hp w1 [g.gI, g.gC] W
end Go.Proofs.YtioilmppidlbnaaGreatDoor
/- The walk through cast.along: every line of a form along an axis, changed by a function. -/
namespace Go.Proofs.YtioilmppidlbnaaGreatDoor
open Go.RowKit
instance : aA Tryz.prog 115 1 false 8 [.nilFunc] := ⟨by kernel_rfl⟩
theorem uI {m : Nat} {bs : List (Fin m)} {q : Fin m} (h : bs ++ [q] = (List.finRange m).take (bs ++ [q]).length) (hb : bs.length < m) : bs = (List.finRange m).take bs.length ∧ q.val = bs.length := by
 have hl : (bs ++ [q]).length = bs.length + 1 := by simp
 rw [hl] at h
 have h1 := congrArg (List.take bs.length) h
 rw [List.take_left' rfl, List.take_take, Nat.min_eq_left (by omega)] at h1
 have h2 : (bs ++ [q])[bs.length]? = ((List.finRange m).take (bs.length + 1))[bs.length]? := by rw [← h]
 rw [List.getElem?_append_right (Nat.le_refl _), Nat.sub_self, List.getElem?_take, if_pos (by omega), show (List.finRange m)[bs.length]? = some ⟨bs.length, hb⟩ by rw [List.getElem?_eq_getElem (by rw [List.length_finRange]; exact hb), List.getElem_finRange]; rfl] at h2
 exact ⟨h1, congrArg Fin.val (Option.some.inj h2)⟩
theorem uH {P : Program} {N : Nat} {Q : Kd} {ρ : Rf} {w : World} {α : Type} {g : Operand} {p : Tmp} {assign body : Code} {gf : Nat} {lb : Array Value} (q : Nat) (hq : q < N) (hp : p < N) (hg : ev ρ g = .func (.func gf) #[] lb) (eg : ∀ args w, (callFunc gf args).run P w = .ok (.enter gf args) w)
  {enc : α → Value} {Kp : World → World → Prop} {S : List α → Prop} {Nn : Nat} (hseq : ∀ n, SeqStopsK Fence.wide n P gf lb (fun x => #[enc x]) Kp S (fun _ => True) Nn w)
  (hKt : ∀ {A B C : World}, Kp A B → Kp B C → Kp A C) (hKb : ∀ (W : World) (l : Nat) (o o' : Obj), w.heap.size ≤ l → W.heap[l]? = some o → o.isCells = false → o.isWalk = false → Kp W (W.putObj l o'))
  (I : List α → World → Prop) (hI : OwnFrom w.heap.size I) (h0 : I [] w)
  (hassign : ∀ l x W, WC ⟨some l, [], true⟩ P N assign (eA (fun ρ' W' => ρ' = cm (cm ρ p (enc x)) q (enc x) ∧ W' = W) Aj) (cm ρ p (enc x)) W)
  (hbody : ∀ l pre x W, I pre W → pre.length < Nn → WC ⟨some l, [], true⟩ P N body (yk Kp I pre x W) (cm (cm ρ p (enc x)) q (enc x)) W)
  (hdone : ∀ (D : Nat) (xs : List α) (W : World), w.heap.size ≤ D → S xs → I xs W → W.heap[D]? = some (.deferred (some [])) → Q .normal [D] ρ W) : WD P N (.rangeFunc g #[p] assign body) Q ρ w :=
 vS hp hg eg hseq hKt hKb I hI h0 (fun x => cm (cm ρ p (enc x)) q (enc x)) (fun x i hi => by rw [gi _ (fun h => absurd hq (by rw [← h]; exact Nat.not_lt.2 hi)), gi _ (fun h => absurd hp (by rw [← h]; exact Nat.not_lt.2 hi))]) hassign hbody hdone
theorem k7 (DA NA : Option Addr) (n c m e : Nat) (pre suf : List Nat) (dd : Nat) (M : Nat → Nat → Dyadic) (xs : List Dyadic) (fid : FuncId) (fst cap : List Value) (k G : Nat) (w : World) [av Tryz.prog fid] (hT : fK w)
  (hD : Sl w DA n 1 (bP (bL (pre ++ dd :: suf)))) (hS : Sl w NA m 3 (br NR.cells (xs.map nR))) (hcap : n ≤ c) (hn : n ≤ 1000) (hlow : ∀ x ∈ pre ++ dd :: suf, x ≤ 127) (hm : xs.length = aC (suf.reverse ++ dd :: pre.reverse)) (hm4 : m ≤ 4096)
  (hx : ∀ x ∈ xs, Sz k x) (hk : k + aC pre * G ≤ 300000)
  (hdo : ∀ (L : Option Addr) (c2 : Nat) (ls : List Dyadic) (q : Nat) (w1 : World), Below w.heap.size w w1 → fK w1 → Sl w1 L (dd + 1) 3 (br NR.cells (ls.map nR)) → (∀ x ∈ ls, Sz q x) → q ≤ 300000 →
   Calls Tryz.prog fid (fst ++ Value.slice L (dd + 1) c2 :: cap).toArray w1 fun r w' => ∃ A c', r = .returned (.slice A (dd + 1) c') ∧ w'.ownsRow w1.heap.size 39 3 (.slice A (dd + 1) c') (dd + 1) (br NR.cells ((dv dd M ls).map nR)) ∧ Below w1.heap.size w1 w')
  (hgr : ∀ (ls : List Dyadic) (q : Nat), ls.length = dd + 1 → (∀ x ∈ ls, Sz q x) → ∀ x ∈ dv dd M ls, Sz (q + G) x) :
  Calls Tryz.prog 86 #[.agg #[.slice DA n c, .slice NA m e], .int .i64 (pre.length : Nat), .func (.func fid) fst.toArray cap.toArray] w fun r w' => ∃ A a B b, r = .returned (.agg #[.slice A n a, .slice B m b]) ∧ Hp w [.row B m b 39 3 (br NR.cells ((et (suf.reverse ++ dd :: pre.reverse) suf.length M xs).map nR)), .row A n a 3 1 (bP (bL (pre ++ dd :: suf)))] w' := by
 have hh := Hp.start w
 have hln : pre.length + (suf.length + 1) = n := by have := hD.1; rw [gu, iw, List.length_append, List.length_cons] at this; omega
 have hlm : xs.length = m := by have := hS.eI NR.len (by decide); rw [List.length_map] at this; exact this
 have hcA : aC suf.reverse = aC suf := eC suf
 have hcB : aC pre.reverse = aC pre := eC pre
 have hmK : m = aC pre * ((dd + 1) * aC suf) := by rw [← hlm, hm, eV, aC, hcA, hcB]; rw [Nat.mul_comm (aC suf), Nat.mul_right_comm, Nat.mul_comm _ (aC pre)]
 have hA0 := dx suf
 have hB0 := dx pre
 have hAm : aC suf ≤ m := by rw [hmK]; exact Nat.le_trans (Nat.le_mul_of_pos_left _ (by omega)) (Nat.le_mul_of_pos_left _ hB0)
 have hKm : (dd + 1) * aC suf ≤ m := by rw [hmK]; exact Nat.le_mul_of_pos_left _ hB0
 have hdl : dd ≤ 127 := hlow dd (List.mem_append_right _ List.mem_cons_self)
 obtain ⟨ad, rfl, hr⟩ := hD.at_ (by omega)
 have hgd : (bP (bL (pre ++ dd :: suf)))[pre.length]? = some (.int .i64 (dd : Nat)) := cg (iH (by rw [List.getElem?_append_right (Nat.le_refl _), Nat.sub_self]; rfl))
 refine ui (N := 93) (l := [.agg #[.slice (some ad) n c, .slice NA m e], .int .i64 (pre.length : Nat), .func (.func fid) fst.toArray cap.toArray]) Tryz.func86 rfl rfl (by simp) ?_
 refine oO fun D_ => ?_
 refine aq ?_
 refine cw hh [_,_] ?_
 intro b3 w3 hh
 refine cw hh [_] ?_
 intro b5 w5 hh
 refine cf hh ?_
 intro b6 w6 hh
 refine aa ?_
 refine oO fun D_ => ?_
 refine aq (bG ?_)
 refine bI hh 2 ?_
 refine mI ?_
 refine aX (k := pre.length) aN.out aA.size rfl rfl (by omega) (by omega) (by decide) ?_
 refine aV aA.out rfl ((hr.ext hh.below).fJ hgd) (by decide) ?_
 refine bz ?_
 refine cf hh ?_
 intro b7 w7 hh
 refine cf hh ?_
 intro b8 w8 hh
 refine bD hh 1 [_] ?_
 intro ws hh
 replace hh : Hp _ (_ :: .blk _ _ [_] _ :: _) _ := hh
 refine bD hh 0 [_] ?_
 intro ws hh
 replace hh : Hp _ (.blk _ _ [_] _ :: _) _ := hh
 refine aa ?_
 refine oO fun D_ => ?_
 refine sr (bG ?_)
 refine bI hh 4 ?_
 refine mI ?_
 refine bz ?_
 refine a8 rfl rfl (by decide) (qL aN.out aA.size rfl rfl (l := pre.length + 1) rfl (by omega) (by omega)) ?_
 have hbk := hD.back (l := pre.length + 1) (c := c) (by omega) hcap
 have hds : (bP (bL (pre ++ dd :: suf))).drop ((pre.length + 1) * 1) = bP (bL suf) := by
  rw [Nat.mul_one]
  unfold bP bL
  rw [← List.map_drop, ← List.map_drop, ← List.drop_drop, List.drop_left]
  rfl
 rw [hds] at hbk
 generalize (if c = pre.length + 1 then some ad else (some ad : Option Addr).map (·.add ((pre.length + 1) * 1))) = CA at hbk ⊢
 have en : n - (pre.length + 1) = suf.length := by omega
 rw [en] at hbk ⊢
 refine a7 (mI (aa (al ?_)))
 have hcap' : ∀ i, aC (suf.take i) ≤ aC suf := gx suf
 refine bx [10, 30, 31, 32, 33, 34, 35, 36, 37, 38] 30
  (fun v w' => ∃ i : Nat, i ≤ suf.length ∧ v = .int .i64 i ∧ Hp w [.blk b8 3 [.int .i64 (aC (suf.take i) : Nat)] (0, 0), .blk b7 3 [.int .i64 ((dd : Nat) + 1)] (0, 0), .blk b6 28 [.slice none 0 0, .slice none 0 0] (0, 0), .blk b5 115 [.func (.func fid) fst.toArray cap.toArray] (0, 0), .blk b3 28 [.slice (some ad) n c, .slice NA m e] (0, 0)] w')
  (fun v _ => suf.length - (intOf v).toNat) ?_ ?_
 ·exact ⟨0, Nat.zero_le _, rfl, hh⟩
 ·clear hh
  rintro ρ' v w' ⟨i, hi, rfl, hh⟩
  by_cases hlt : i < suf.length
  ·obtain ⟨x, hxi⟩ := aO (l := suf) (k := i) hlt
   have hgi := cg (iH hxi)
   have hx2 := hlow x (List.mem_append_right _ (List.mem_cons_of_mem _ (List.mem_of_getElem? hxi)))
   have hct := hcap' (i + 1)
   have hct2 := hcap' i
   have hstep : aC (suf.take (i + 1)) = aC (suf.take i) * (x + 1) := by rw [a9 hxi, eV]; simp [aC]
   have e1 : ((aC (suf.take i) : Nat) : Int) * ((x : Int) + 1) = ((aC (suf.take (i + 1)) : Nat) : Int) := by rw [hstep, Int.natCast_mul, Int.natCast_add]; rfl
   obtain ⟨ab, rfl, sb⟩ := hbk.at_ (by omega)
   refine sr ?_
   refine aK (aa (ah (cT (ak (ai (ah (al (sr ?_))))))))
   refine aX (k := i) aN.out aA.size rfl rfl (by omega) (by omega) (by decide) ?_
   refine aV aA.out rfl ((sb.ext hh.below).fJ hgi) (by decide) ?_
   refine aI (aa (aq ?_))
   refine bI hh 0 ?_
   refine mI ?_
   refine bz ?_
   refine mulC ?_
   refine bD hh 0 [_] ?_
   intro ws hh
   replace hh : Hp _ (.blk _ _ [_] _ :: _) _ := hh
   refine aD (a0 (ai (aq ?_)))
   refine bz (mI (aD (ai ?_)))
   rw [e1] at hh
   refine ⟨⟨i + 1, by omega, rfl, hh⟩, by show suf.length - (i + 1) < suf.length - i; omega, ?_⟩
   (repeat (first | exact aw _ _ _ | refine az rfl ?_ | refine au rfl ?_))
  ·obtain rfl : i = suf.length := by omega
   rw [List.take_of_length_le (Nat.le_refl _), ← hcA] at hh
   rw [← hcA, ← hcB] at hmK
   rw [← hcA] at hA0 hKm
   rw [← hcB] at hB0 hk
   have hrA : suf.reverse.length = suf.length := List.length_reverse
   rw [← hrA]
   generalize suf.reverse = A at *
   generalize pre.reverse = B at *
   refine sr ?_
   refine aK (aa (ah (cF ?_)))
   refine aY ?_
   refine ay (ay (bm (ai ?_)))
   refine oO fun D_ => ?_
   refine u9 ?_
   refine aE 8 [[(3, none)], [(39, some 0)], [(40, some 1)], [(3, none)], [(42, some 3)], [(43, some 4)], [(41, some 2), (44, some 5)], []] [(7, 11), (6, 45), (5, 44), (4, 43), (3, 42), (2, 41), (1, 40), (0, 39)] hh mixed (by kernel_rfl) ?_
   refine dT ?_
   refine eY 4 ?_
   refine bC (i := 2) (np hh.sz 3 n 1 (bP (bL (pre ++ dd :: suf)))) (np.ext) ?_ ?_
   ·intro ρ1 w1 hj hR
    exact bV rfl (bJ av.out (aM (show ρ1 40 = Value.slice _ _ _ from hR.1) bE)) (kL (some ad) n c _ w1 (hD.ext hj.hp.below) (by omega)) (fun _ _ ⟨A, c, hq, ho, hb⟩ => ⟨_, hq, hb, A, c, rfl, fq ho hj.bl.size⟩)
   refine dT ?_
   refine eY 4 ?_
   refine bC (i := 5) (np hh.sz 39 m 3 (br NR.cells (xs.map nR))) (np.ext) ?_ ?_
   ·intro ρ1 w1 hj hR
    exact bV rfl (bJ av.out (aM (show ρ1 43 = Value.slice _ _ _ from hR.1) bE)) (iL NA m e _ w1 (hS.ext hj.hp.below) (by omega)) (fun _ _ ⟨A, c, hq, ho, hb⟩ => ⟨_, hq, hb, A, c, rfl, fq ho hj.bl.size⟩)
   refine bC (i := 6) (kD hh.sz 3 39 n 1 m 3 (bP (bL (pre ++ dd :: suf))) (br NR.cells (xs.map nR))) (kD.ext) ?_ ?_
   ·intro ρ1 w1 hj hR
    exact let ⟨A, c, e1, o1⟩ := hR.1; let ⟨B, k, e2, o2⟩ := hR.2.1; gh rfl (mF (cs := [_, _]) aA.out iF.out (a6 e1 (a6 e2 bR)) rfl) ⟨Below.refl _ _, A, c, B, k, rfl, o1, o2⟩
   refine bC (i := 7) (bK _ 28 _) bK.ext (fun ρ1 w1 hj hR => dA aA.out hj.bl (fun v w2 h hb => ⟨hb, h⟩)) ?_
   refine aW ?_
   intro f W hJ hV
   have hb_7 := hJ.bl
   obtain ⟨v11, v45, v44, v43, v42, v41, v40, v39, _⟩ := hV
   obtain ⟨g41, u41, e41, -⟩ := v41
   obtain ⟨g44, u44, e44, -⟩ := v44
   obtain ⟨A45, c45, B45, k45, e45, o45, p45⟩ := v45
   obtain ⟨b11, e11, hl11, hc11⟩ : bK _ _ _ (f 7) W := v11
   replace hh := JJ.mP hJ hh hl11 hc11 o45 p45 (by decide) (by decide) (by decide)
   refine aJ (aZ (ae e11 (ae e45 (ae e44 (ae v43 (ae v42 (ae e41 (ae v40 (ae v39 aH))))))))) ?_
   dsimp only [bQ]
   clear e41 e44 e45 e11 hJ
   have eK : ((dd : Nat) : Int) + 1 = ((dd + 1 : Nat) : Int) := by omega
   have eK2 : (((dd : Nat) : Int) + 1) * ((aC A : Nat) : Int) = (((dd + 1) * aC A : Nat) : Int) := by rw [eK, ← Int.natCast_mul]
   refine bD hh 0 [_,_] ?_
   intro ws hh
   replace hh : Hp _ (.blk _ _ [_, _] _ :: _) _ := hh
   refine aa ?_
   refine vU ?_
   refine oO fun D_ => ?_
   refine aq (bG ?_)
   refine bI hh 0 ?_
   refine bI hh 4 ?_
   refine bI hh 3 ?_
   refine mulC ?_
   rw [eK2]
   refine aU (qM B45 m k45 ((dd + 1) * aC A) _ (Nat.le_trans hA0 (Nat.le_mul_of_pos_left _ (by omega)))) av.out rfl (by decide) ?_
   rintro e_ w51 ⟨b2, b1, rfl, h2⟩
   refine ⟨_, rfl, ?_⟩
   replace hh := hh.join h2
   simp only [List.cons_append, List.nil_append] at hh
   clear h2
   refine aa ?_
   have hmk := hh.k5 (i := 4) rfl
   obtain ⟨g, rfl⟩ := hh.ea (i := 4) rfl (by omega)
   have hc2 := hh.eQ (i := 1) (o := 0) rfl rfl
   have hc1 := hh.eQ (i := 0) (o := 0) rfl rfl
   have hseq := uQ b2 b1 ⟨g, 0, none⟩ m k45 ((dd + 1) * aC A) (aC B) _ hc2 hc1 hmK (Nat.lt_of_lt_of_le hA0 (Nat.le_mul_of_pos_left _ (by omega))) hmk (by omega) (by omega)
   refine wv (uH (α := Fin (aC B)) (enc := fun j : Fin (aC B) => .slice (some ((⟨g, 0, none⟩ : Addr).add (j.val * ((dd + 1) * aC A) * 3))) ((dd + 1) * aC A) ((dd + 1) * aC A)) 12 (by decide) (by decide) rfl (enters_of Tryz.func122 (by kernel_rfl) rfl) hseq wR (fun W l o o' h _ _ _ => wY (po hc2) (po hc1) W l o o' h)
    (fun bs W => ∃ X : List Dyadic, X.length = m ∧ (∀ x ∈ X, Sz (k + bs.length * G) x) ∧ (bs = (List.finRange (aC B)).take bs.length → X = uV A dd B M xs bs.length) ∧ Hp w [.row (some ⟨g, 0, none⟩) m k45 39 3 (br NR.cells (X.map nR)), .row A45 n c45 3 1 (bP (bL (pre ++ dd :: suf))), .blk b1 3 [.int .i64 (((dd + 1) * aC A : Nat) : Int)] (0, 0), .blk b2 26 [.slice (some ⟨g, 0, none⟩) m k45] (0, 0), .blk b11 28 [.slice A45 n c45, .slice (some ⟨g, 0, none⟩) m k45] (0, 0), .blk b8 3 [.int .i64 (aC A : Nat)] (0, 0), .blk b7 3 [.int .i64 ((dd : Nat) + 1)] (0, 0), .blk b6 28 [.slice none 0 0, .slice none 0 0] (0, 0), .blk b5 115 [.func (.func fid) fst.toArray cap.toArray] (0, 0), .blk b3 28 [.slice (some ad) n c, .slice NA m e] (0, 0)] W)
    ?own ?zero ?asg ?body ?done)
   case own =>
    intro s W W' row ⟨X, h1, h2, h3, h4⟩ hg hr
    exact ⟨X, h1, h2, h3, h4.yD (by simp [HE.yz]) hg fun r e => ⟨Nat.le_trans hh.size (hr r e).1, (hr r e).2⟩⟩
   case zero =>
    refine ⟨xs, hlm, fun x h => (hx x h).mono (by omega), fun _ => (wF _ _ _).symm, ?_⟩
    replace hh := hh.perm (List.perm_middle (l₁ := [_, _, _]))
    simp only [List.cons_append, List.nil_append] at hh
    replace hh := hh.perm (List.perm_middle (l₁ := [_, _, _, _]))
    simp only [List.cons_append, List.nil_append] at hh
    exact hh
   case asg =>
    intro l x W
    refine aq (aL (aD ?_))
    exact ⟨rfl, rfl⟩
   case body =>
    rintro l bs q W ⟨X, hXl, hXz, hXe, hh0⟩ hbl
    have hqB := q.isLt
    have hkb : bs.length * G ≤ aC B * G := Nat.mul_le_mul_right _ (by omega)
    have hh := hh0.xl
    simp only [List.cons_append, List.nil_append] at hh
    generalize hO : vF _ _ _ = O at hh
    have hzl : ∀ f, ∀ x ∈ dz A dd X f q.val, Sz (k + bs.length * G) x := fun f x h => by
     obtain ⟨i, _, rfl⟩ := List.mem_map.1 h
     exact lS hXz _
    have hPl : ∀ f i, f < aC A → i ≤ dd → cW A dd f i q.val < X.length := fun f i h1 h2 => by rw [hXl, ← hlm, hm]; exact kx h1 h2 hqB
    have eAd : ∀ f i, ((⟨g, 0, none⟩ : Addr).add (q.val * ((dd + 1) * aC A) * 3)).add ((f + i * aC A) * 3) = ⟨g, cW A dd f i q.val * 3, none⟩ := fun f i => by
     rw [eb, eb]
     congr 1
     unfold cW
     grind
    rw [← vB (A := A) (d := dd) (φ := dv dd M) (X := X) q.val] at hh
    refine al (sr ?_)
    refine bI hh 5 ?_
    refine mI (aa (al ?_))
    refine bx [13, 14, 15, 16, 17, 54, 55, 56, 57, 58, 59, 60, 61, 62, 63, 64, 65, 66, 67, 68, 69, 70, 71, 72, 73, 74, 75, 76, 77, 78, 79, 80, 81, 82, 83, 84, 85, 86, 87, 88, 89, 90, 91] 54
     (fun v w' => ∃ f : Nat, f ≤ aC A ∧ v = .int .i64 f ∧ Hp w (.row (some ⟨g, 0, none⟩) m k45 39 3 (br NR.cells ((p6 A dd (dv dd M) X q.val f 0).map nR)) :: .row A45 n c45 3 1 (bP (bL (pre ++ dd :: suf))) :: .blk b1 3 [.int .i64 (((dd + 1) * aC A : Nat) : Int)] (0, 0) :: .blk b2 26 [.slice (some ⟨g, 0, none⟩) m k45] (0, 0) :: .blk b11 28 [.slice A45 n c45, .slice (some ⟨g, 0, none⟩) m k45] (0, 0) :: .blk b8 3 [.int .i64 (aC A : Nat)] (0, 0) :: .blk b7 3 [.int .i64 ((dd : Nat) + 1)] (0, 0) :: .blk b6 28 [.slice none 0 0, .slice none 0 0] (0, 0) :: .blk b5 115 [.func (.func fid) fst.toArray cap.toArray] (0, 0) :: .blk b3 28 [.slice (some ad) n c, .slice NA m e] (0, 0) :: O) w')
     (fun v _ => aC A - (intOf v).toNat) ?_ ?_
    ·exact ⟨0, Nat.zero_le _, rfl, hh⟩
    ·clear hh
     rintro ρ' v w' ⟨f, hf, rfl, hh⟩
     by_cases hlt : f < aC A
     ·refine sr ?_
      refine aK (aa (ah (cT (ak (ai (ah (al (sr (mI (aI (aa ?_)))))))))))
      refine sr (aL (aa (ah (sr ?_))))
      refine bI hh 6 ?_
      refine mI (aa (al ?_))
      replace hh := hh.eW 39 3
      refine bY [14, 15, 58, 59, 60, 61, 62, 63, 64, 65, 66, 67, 68, 69, 70, 71, 72] 14 58
       (fun v14 v w' => ∃ (i c14 : Nat) (A14 : Option Addr), i ≤ dd + 1 ∧ v14 = .slice A14 i c14 ∧ v = .int .i64 i ∧ Hp w (.row A14 i c14 39 3 (br NR.cells (((dz A dd X f q.val).take i).map nR)) :: .row (some ⟨g, 0, none⟩) m k45 39 3 (br NR.cells ((p6 A dd (dv dd M) X q.val f 0).map nR)) :: .row A45 n c45 3 1 (bP (bL (pre ++ dd :: suf))) :: .blk b1 3 [.int .i64 (((dd + 1) * aC A : Nat) : Int)] (0, 0) :: .blk b2 26 [.slice (some ⟨g, 0, none⟩) m k45] (0, 0) :: .blk b11 28 [.slice A45 n c45, .slice (some ⟨g, 0, none⟩) m k45] (0, 0) :: .blk b8 3 [.int .i64 (aC A : Nat)] (0, 0) :: .blk b7 3 [.int .i64 ((dd : Nat) + 1)] (0, 0) :: .blk b6 28 [.slice none 0 0, .slice none 0 0] (0, 0) :: .blk b5 115 [.func (.func fid) fst.toArray cap.toArray] (0, 0) :: .blk b3 28 [.slice (some ad) n c, .slice NA m e] (0, 0) :: O) w')
       (fun _ v _ => dd + 1 - (intOf v).toNat) ?_ ?_
      ·exact ⟨0, 0, none, Nat.zero_le _, rfl, rfl, hh⟩
      ·clear hh
       rintro ρ2 v14 v w2 ⟨i, c14, A14, hi, rfl, rfl, hh⟩
       by_cases hin : i < dd + 1
       ·have hfi : f + i * aC A < (dd + 1) * aC A := by
         have := Nat.mul_le_mul_right (aC A) (show i ≤ dd by omega)
         rw [Nat.succ_mul]
         omega
        have hat := vg (φ := dv dd M) hlt (show i ≤ dd by omega) (hPl f i hlt (by omega))
        refine sr ?_
        refine aK (aa (ah (cT (ak (ai (ah (al (sr (mI (aI (aa ?_)))))))))))
        refine aq (mL (mL (mI (mI ?_))))
        refine bI hh 6 ?_
        refine mulC ?_
        refine bz ?_
        refine aX (k := f + i * aC A) aN.out aA.size rfl rfl (by rw [Int.natCast_add, Int.natCast_mul]) hfi (by decide) ?_
        rw [eAd]
        refine fu (vs := [_, _, _]) aA.out rfl (hh.ie (f := NR.cells) (i := 1) rfl NR.len (by decide) (show ((p6 A dd (dv dd M) X q.val f 0).map nR)[cW A dd f i q.val]? = some (nR (ec (dz A dd X f q.val) i)) by rw [List.getElem?_map, hat]; rfl)) rfl (by decide) ?_
        refine bo hh (cs := [_, _, _]) aN.out aA.out (a6 (ed rfl) bR) rfl rfl (by decide) (by decide) (by decide) rfl (by decide) ?_
        intro b70 w70 hh
        refine df hh (i := 1) rfl rfl rfl (hh.bf (i := 0) rfl) aN.out aA.out rfl (by decide) (by first | rfl | exact dr _ | exact cH _ | exact bW _ | exact cz NR.one _) (by omega) (by omega) (by decide) ?_
        intro A71 c71 w71 hh
        simp only [List.set_cons_zero, List.set_cons_succ] at hh
        replace hh := hh.sub (List.sublist_cons_self _ _)
        refine aL (aD (a0 (ai (aq ?_))))
        refine bz (mI (aD (ai ?_)))
        have htk : br NR.cells (((dz A dd X f q.val).take i).map nR) ++ [.bool (nR (ec (dz A dd X f q.val) i)).neg, .string (nR (ec (dz A dd X f q.val) i)).bk, .int .i64 (nR (ec (dz A dd X f q.val) i)).e] = br NR.cells (((dz A dd X f q.val).take (i + 1)).map nR) := by
         rw [a9 (mm (l := dz A dd X f q.val) (k := i) (by unfold dz; simp; omega)), List.map_append, eP]
         rfl
        rw [htk] at hh
        refine ⟨⟨i + 1, _, _, by omega, rfl, rfl, hh⟩, by show dd + 1 - (i + 1) < dd + 1 - i; omega, ?_⟩
        (repeat (first | exact aw _ _ _ | refine az rfl ?_ | refine au rfl ?_))
       ·obtain rfl : i = dd + 1 := by omega
        rw [List.take_of_length_le (by unfold dz; simp)] at hh
        have hdl := fun w1 h1 hT1 hS1 => hdo A14 c14 (dz A dd X f q.val) (k + bs.length * G) w1 h1 hT1 hS1 (hzl f) (by omega)
        refine sr ?_
        refine aK (aa (ah (cF ?_)))
        refine aY ?_
        refine ay (ay (bm (ai (sr ?_))))
        refine bI hh 9 ?_
        refine mL ?_
        refine lv (hdl _ hh.below (hT.hp hh) (hh.bf (i := 0) rfl)) av.out rfl rfl (by decide) ?_
        rintro e_ w75 ⟨A75, c75, rfl, hown_, hb_⟩
        refine ⟨_, rfl, ?_⟩
        replace hh := hh.bj (x := .row _ _ _ _ _ _) hb_ hown_
        obtain ⟨g75, rfl⟩ := hh.ea (i := 0) rfl (by omega)
        refine a7 (mI (aa (al ?_)))
        replace hh := hh.sub (List.Sublist.cons_cons _ (List.Sublist.cons _ (List.Sublist.cons_cons _ (List.Sublist.cons_cons _ (List.Sublist.cons_cons _ (List.Sublist.cons_cons _ (List.Sublist.cons_cons _ (List.Sublist.cons_cons _ (List.Sublist.cons_cons _ (List.Sublist.cons_cons _ (List.Sublist.cons_cons _ (List.Sublist.cons_cons _ (List.Sublist.refl _)))))))))))))
        generalize hφ : dv dd M (dz A dd X f q.val) = ys at hh
        have hyl : ys.length = dd + 1 := by rw [← hφ, gN]
        refine bx [16, 17, 77, 78, 79, 80, 81, 82, 83, 84, 85, 86, 87, 88, 89, 90] 77
         (fun v w' => ∃ i : Nat, i ≤ dd + 1 ∧ v = .int .i64 i ∧ Hp w (.row (some ⟨g75, 0, none⟩) (dd + 1) c75 39 3 (br NR.cells (ys.map nR)) :: .row (some ⟨g, 0, none⟩) m k45 39 3 (br NR.cells ((p6 A dd (dv dd M) X q.val f i).map nR)) :: .row A45 n c45 3 1 (bP (bL (pre ++ dd :: suf))) :: .blk b1 3 [.int .i64 (((dd + 1) * aC A : Nat) : Int)] (0, 0) :: .blk b2 26 [.slice (some ⟨g, 0, none⟩) m k45] (0, 0) :: .blk b11 28 [.slice A45 n c45, .slice (some ⟨g, 0, none⟩) m k45] (0, 0) :: .blk b8 3 [.int .i64 (aC A : Nat)] (0, 0) :: .blk b7 3 [.int .i64 ((dd : Nat) + 1)] (0, 0) :: .blk b6 28 [.slice none 0 0, .slice none 0 0] (0, 0) :: .blk b5 115 [.func (.func fid) fst.toArray cap.toArray] (0, 0) :: .blk b3 28 [.slice (some ad) n c, .slice NA m e] (0, 0) :: O) w')
         (fun v _ => dd + 1 - (intOf v).toNat) ?_ ?_
        ·exact ⟨0, Nat.zero_le _, rfl, hh⟩
        ·clear hh
         rintro ρ3 v w3 ⟨i, hi, rfl, hh⟩
         by_cases hin : i < dd + 1
         ·have hfi : f + i * aC A < (dd + 1) * aC A := by
           have := Nat.mul_le_mul_right (aC A) (show i ≤ dd by omega)
           rw [Nat.succ_mul]
           omega
          have hset := xC (φ := dv dd M) hlt (show i ≤ dd by omega) (hPl f i hlt (by omega))
          rw [hφ] at hset
          have hPx := hPl f i hlt (show i ≤ dd by omega)
          have hSl := gE (A := A) (d := dd) (φ := dv dd M) (X := X) q.val f i
          have hrl := fS NR.len ((p6 A dd (dv dd M) X q.val f i).map nR)
          have hyi : (ys.map nR)[i]? = some (nR (ec ys i)) := by rw [List.getElem?_map, mm (by omega)]; rfl
          generalize ec ys i = y at *
          refine sr ?_
          refine aK (aa (ah (cT (ak (ai (ah (al (sr (mI ?_)))))))))
          refine bA (k := i) aN.out aA.size rfl rfl (by omega) (by omega) (by decide) ?_
          refine fu (vs := [_, _, _]) aA.out rfl (hh.ie (f := NR.cells) (i := 0) rfl NR.len (by decide) hyi) rfl (by decide) ?_
          refine cf hh ?_
          intro b17 w17 hh
          refine aI ?_
          refine bD hh 0 [_,_,_] ?_
          intro ws hh
          replace hh : Hp _ (.blk _ _ [_, _, _] _ :: _) _ := hh
          refine aa (aq (mL (mI (mI ?_))))
          refine bI hh 7 ?_
          refine mulC ?_
          refine bz ?_
          refine da hh 0 [_,_,_] ?_
          refine aX (k := f + i * aC A) aN.out aA.size rfl rfl (by rw [Int.natCast_add, Int.natCast_mul]) hfi (by decide) ?_
          rw [eAd]
          generalize p6 A dd (dv dd M) X q.val f i = V at *
          have hpl : cW A dd f i q.val < (V.map nR).length := by rw [List.length_map, hSl]; exact hPx
          refine bF hh (i := 2) (vs := [_, _, _]) rfl rfl (ed rfl) rfl aA.out rfl (by rw [hrl]; omega) rfl ?_
          intro ws hh
          simp only [List.set_cons_zero, List.set_cons_succ] at hh
          rw [show cB (br NR.cells (V.map nR)) (cW A dd f i q.val * 3) [.bool (nR y).neg, .string (nR y).bk, .int .i64 (nR y).e] = br NR.cells ((V.map nR).set (cW A dd f i q.val) (nR y)) from hZ NR.len hpl, ← List.map_set, hset] at hh
          refine aD (a0 (ai (aq ?_)))
          refine bz (mI (aD (ai ?_)))
          replace hh := hh.sub (List.Sublist.cons _ (List.Sublist.cons_cons _ (List.Sublist.cons_cons _ (List.Sublist.cons_cons _ (List.Sublist.cons_cons _ (List.Sublist.cons_cons _ (List.Sublist.cons_cons _ (List.Sublist.cons_cons _ (List.Sublist.cons_cons _ (List.Sublist.cons_cons _ (List.Sublist.cons_cons _ (List.Sublist.cons_cons _ (List.Sublist.refl _)))))))))))))
          refine ⟨⟨i + 1, by omega, rfl, hh⟩, by show dd + 1 - (i + 1) < dd + 1 - i; omega, ?_⟩
          (repeat (first | exact aw _ _ _ | refine az rfl ?_ | refine au rfl ?_))
         ·obtain rfl : i = dd + 1 := by omega
          rw [vo] at hh
          refine sr ?_
          refine aK (aa (ah (cF ?_)))
          refine aY ?_
          refine ay (ay (bm (a0 (ai (aq ?_)))))
          refine bz (mI (aD (ai ?_)))
          replace hh := hh.sub (List.Sublist.cons _ (List.Sublist.cons_cons _ (List.Sublist.cons_cons _ (List.Sublist.cons_cons _ (List.Sublist.cons_cons _ (List.Sublist.cons_cons _ (List.Sublist.cons_cons _ (List.Sublist.cons_cons _ (List.Sublist.cons_cons _ (List.Sublist.cons_cons _ (List.Sublist.cons_cons _ (List.Sublist.refl _))))))))))))
          refine ⟨⟨f + 1, by omega, rfl, hh⟩, by show aC A - (f + 1) < aC A - f; omega, ?_⟩
          (repeat (first | exact aw _ _ _ | refine az rfl ?_ | refine au rfl ?_))
     ·obtain rfl : f = aC A := by omega
      refine sr ?_
      refine aK (aa (ah (cF ?_)))
      refine aY ?_
      refine ay (ay (bm (a0 ?_)))
      subst hO
      refine ⟨hh0.keeps (H' := [_, _, _, _, _, _, _, _, _, _]) (by simp [HE.yz]) hh rfl, ⟨by rw [hh.eQ (i := 3) (o := 0) rfl rfl, hh0.eQ (i := 3) (o := 0) rfl rfl], by rw [hh.eQ (i := 2) (o := 0) rfl rfl, hh0.eQ (i := 2) (o := 0) rfl rfl]⟩, u3 A dd (dv dd M) X q.val, ?_, ?_, ?_, ?_⟩
      ·unfold u3
       rw [gE, hXl]
      ·intro x h
       refine (y2 hXz (fun l h1 h2 => hgr l _ h1 h2) x h).mono ?_
       rw [List.length_append, List.length_singleton, Nat.succ_mul]
       omega
      ·intro h
       obtain ⟨h1, h2⟩ := uI h hbl
       rw [hXe h1, h2, List.length_append, List.length_singleton]
       exact vK (hm ▸ rfl)
      ·exact hh.sub (by repeat (first | exact List.nil_sublist _ | apply List.Sublist.cons_cons))
   case done =>
    rintro D bs W hD2 rfl ⟨X, hXl, hXz, hXe, hh0⟩ hDo
    have hA2 := hXe (by rw [List.take_of_length_le (Nat.le_refl _)])
    rw [List.length_finRange] at hA2
    rw [hA2, wj hm] at hh0
    have hD3 := Nat.le_trans hh.size hD2
    replace hh := hh0.Ai (by simp [HE.yz]) hD3 hDo rfl
    refine oO fun D_ => ?_
    refine aq ?_
    refine da hh 5 [_,_] ?_
    refine bD hh 8 [_,_] ?_
    intro ws hh
    replace hh : Hp _ (_ :: _ :: _ :: _ :: _ :: _ :: _ :: _ :: .blk _ _ [_, _] _ :: _) _ := hh
    refine aa ?_
    refine yw fun D_ => ?_
    refine ao ?_
    refine uA (M := [D]) (vs := [.agg #[.slice A45 n c45, .slice (some ⟨g, 0, none⟩) m k45]]) hh (.inr rfl) rfl ?_
    intro w2 hh
    refine ⟨(aG rfl (aF (vs := [_, _]) aA.out (hh.ar (i := 7) (n := 2) rfl rfl) rfl) bg), ?_⟩
    replace hh := hh.sub (List.Sublist.cons_cons _ (List.Sublist.cons_cons _ (List.Sublist.cons _ (List.Sublist.cons _ (List.Sublist.cons _ (List.Sublist.cons _ (List.Sublist.cons _ (List.Sublist.cons _ (List.Sublist.cons _ (List.Sublist.cons _ List.Sublist.slnil))))))))))
    exact ⟨_, _, _, _, rfl, hh⟩
end Go.Proofs.YtioilmppidlbnaaGreatDoor
/- The walk through cast.Cut. -/
namespace Go.Proofs.YtioilmppidlbnaaGreatDoor
open Go.RowKit
def Bh (n m : Nat) (ds : List Int) (cs : List NR) : VP := fun v W => ∃ A a B b, v = .agg #[.slice A n a, .slice B m b] ∧ n ≤ a ∧ Sl W A n 1 (bP ds) ∧ Sl W B m 3 (br NR.cells cs)
theorem vH {d q : Nat} {s : Dyadic} (hd : d ≤ 127) (hs : Sz q s) (hs1 : Sz q (1 - s)) (ls : List Dyadic) (k : Nat) (hx : ∀ x ∈ ls, Sz k x) : ∀ x ∈ dv d (lO d s) ls, Sz (k + (260 + 2 * (q * d))) x := fun x h => by
 rw [← vn, ← lN] at h
 exact (pw hx hs hs1 hd (Nat.le_refl _) x h).mono (by omega)
theorem vW {d q : Nat} {s : Dyadic} (hd : d ≤ 127) (hs : Sz q s) (hs1 : Sz q (1 - s)) (ls : List Dyadic) (k : Nat) (hl : ls.length = d + 1) (hx : ∀ x ∈ ls, Sz k x) : ∀ x ∈ dv d (lp d s) ls, Sz (k + (260 + 2 * (q * d))) x := fun x h => by
 rw [← qC hl, List.mem_reverse, ← lN] at h
 exact (pw (fun y hy => hx y (List.mem_reverse.1 hy)) hs1 hs hd (Nat.le_refl _) x h).mono (by omega)
theorem JJ.xB {w0 w W : World} {H : List HE} {t1 t2 : TypeId} {xs1 xs2 : List Value} {n1 c1 s1 n2 c2 s2 : Nat} {A1 A2 : Option Addr} (hJ : JJ w0 H w W) (hs : Hp w0 H w)
  (o1 : W.ownsRow w.heap.size t1 s1 (.slice A1 n1 c1) n1 xs1) (o2 : W.ownsRow w.heap.size t2 s2 (.slice A2 n2 c2) n2 xs2) (h12 : t1 ≠ t2) : Hp w0 (.row A1 n1 c1 t1 s1 xs1 :: .row A2 n2 c2 t2 s2 xs2 :: H) W := by
 have hL : Hp w [.row A1 n1 c1 t1 s1 xs1, .row A2 n2 c2 t2 s2 xs2] W := by
  refine ⟨hJ.bl, fun x hx => ?_, ?_⟩
  ·rcases List.mem_cons.1 hx with rfl | hx
   ·exact o1
   ·obtain rfl := List.mem_singleton.1 hx
    exact o2
  ·rw [List.filterMap_cons]
   split
   ·rw [List.filterMap_cons]
    split
    ·exact List.nodup_nil
    ·exact List.nodup_cons.2 ⟨by simp, List.nodup_nil⟩
   ·rename_i b1 hb1
    refine List.nodup_cons.2 ⟨fun hm => ?_, ?_⟩
    ·obtain ⟨y, hy, hyb⟩ := List.mem_filterMap.1 hm
     obtain rfl := List.mem_singleton.1 hy
     exact tg o1 o2 h12 b1 hb1 hyb
    ·rw [List.filterMap_cons]
     split
     ·exact List.nodup_nil
     ·exact List.nodup_cons.2 ⟨by simp, List.nodup_nil⟩
 exact hs.join hL
theorem uc (DA NA : Option Addr) (n c m e : Nat) (pre suf : List Nat) (dd : Nat) (sn : NR) (s : Dyadic) (xs : List Dyadic) (k q : Nat) (w : World) (hT : fK w)
  (hD : Sl w DA n 1 (bP (bL (pre ++ dd :: suf)))) (hS : Sl w NA m 3 (br NR.cells (xs.map nR))) (hcap : n ≤ c) (hn : n ≤ 1000) (hlow : ∀ x ∈ pre ++ dd :: suf, x ≤ 127) (hm : xs.length = aC (suf.reverse ++ dd :: pre.reverse)) (hm4 : m ≤ 4096)
  (hx : ∀ x ∈ xs, Sz k x) (hk : k + aC pre * (260 + 2 * (q * dd)) ≤ 300000) (hq : q ≤ 2000) (vs : mi q sn s) (hs1 : Sz q (1 - s)) :
  Calls Tryz.prog 86 #[.agg #[.slice DA n c, .slice NA m e], .int .i64 (pre.length : Nat), .func (.func 87) #[.agg #[.bool sn.neg, .string sn.bk, .int .i64 sn.e, .bool (nR (1 - s)).neg, .string (nR (1 - s)).bk, .int .i64 (nR (1 - s)).e]] #[]] w fun r w' => ∃ A a B b, r = .returned (.agg #[.slice A n a, .slice B m b]) ∧ Hp w [.row B m b 39 3 (br NR.cells ((et (suf.reverse ++ dd :: pre.reverse) suf.length (lO dd s) xs).map nR)), .row A n a 3 1 (bP (bL (pre ++ dd :: suf)))] w' := by
 have hs := vs.sz
 have hdl : dd ≤ 127 := hlow dd (List.mem_append_right _ List.mem_cons_self)
 exact (k7 DA NA n c m e pre suf dd (lO dd s) xs 87 [.agg #[.bool sn.neg, .string sn.bk, .int .i64 sn.e, .bool (nR (1 - s)).neg, .string (nR (1 - s)).bk, .int .i64 (nR (1 - s)).e]] [] k (260 + 2 * (q * dd)) w hT hD hS hcap hn hlow hm hm4 hx hk (fun L c2 ls p w1 _ hT1 hS1 hz hp => l3 sn (nR (1 - s)) s (1 - s) L (dd + 1) c2 dd ls p q w1 hT1 hS1 rfl hdl hz vs (mi.of hs1 hq) hp hq) (fun ls p _ hz => vH hdl hs hs1 ls p hz))
theorem tV (DA NA : Option Addr) (n c m e : Nat) (pre suf : List Nat) (dd : Nat) (sn : NR) (s : Dyadic) (xs : List Dyadic) (k q : Nat) (w : World) (hT : fK w)
  (hD : Sl w DA n 1 (bP (bL (pre ++ dd :: suf)))) (hS : Sl w NA m 3 (br NR.cells (xs.map nR))) (hcap : n ≤ c) (hn : n ≤ 1000) (hlow : ∀ x ∈ pre ++ dd :: suf, x ≤ 127) (hm : xs.length = aC (suf.reverse ++ dd :: pre.reverse)) (hm4 : m ≤ 4096)
  (hx : ∀ x ∈ xs, Sz k x) (hk : k + aC pre * (260 + 2 * (q * dd)) ≤ 300000) (hq : q ≤ 2000) (vs : mi q sn s) (hs1 : Sz q (1 - s)) :
  Calls Tryz.prog 86 #[.agg #[.slice DA n c, .slice NA m e], .int .i64 (pre.length : Nat), .func (.func 88) #[.agg #[.bool sn.neg, .string sn.bk, .int .i64 sn.e, .bool (nR (1 - s)).neg, .string (nR (1 - s)).bk, .int .i64 (nR (1 - s)).e]] #[]] w fun r w' => ∃ A a B b, r = .returned (.agg #[.slice A n a, .slice B m b]) ∧ Hp w [.row B m b 39 3 (br NR.cells ((et (suf.reverse ++ dd :: pre.reverse) suf.length (lp dd s) xs).map nR)), .row A n a 3 1 (bP (bL (pre ++ dd :: suf)))] w' := by
 have hs := vs.sz
 have hdl : dd ≤ 127 := hlow dd (List.mem_append_right _ List.mem_cons_self)
 refine (k7 DA NA n c m e pre suf dd (lp dd s) xs 88 [.agg #[.bool sn.neg, .string sn.bk, .int .i64 sn.e, .bool (nR (1 - s)).neg, .string (nR (1 - s)).bk, .int .i64 (nR (1 - s)).e]] [] k (260 + 2 * (q * dd)) w hT hD hS hcap hn hlow hm hm4 hx hk (fun L c2 ls p w1 _ hT1 hS1 hz hp => ?_) (fun ls p hl hz => vW hdl hs hs1 ls p hl hz))
 ·have hll : ls.length = dd + 1 := by have := hS1.eI NR.len (by decide); simpa using this
  have := qN sn (nR (1 - s)) s (1 - s) L (dd + 1) c2 dd ls p q w1 hT1 hS1 rfl hdl hz vs (mi.of hs1 hq) hp hq
  rw [qC hll] at this
  exact this
end Go.Proofs.YtioilmppidlbnaaGreatDoor
/- The walk through cast.Cut. -/
namespace Go.Proofs.YtioilmppidlbnaaGreatDoor
open Go.RowKit
instance : aA Tryz.prog 115 1 false 8 [.nilFunc] := ⟨by kernel_rfl⟩
def fN (up : Bool) (s : Dyadic) (ns : List Nat) (a : Nat) (xs : List Dyadic) : List Dyadic := et ns.reverse (ns.length - 1 - a) (if up then lp (ns.getD a 0) s else lO (ns.getD a 0) s) xs
def fM (fx : FX) (ax : Int) : Int := if fx.e ≠ 0 then fx.e else if ax < 0 ∨ (fx.n : Int) ≤ ax then 1 else 0
def wO (e : Int) : Ending := .returned (.tuple #[.agg #[.slice none 0 0, .slice none 0 0], .agg #[.slice none 0 0, .slice none 0 0], .int .i64 e])
theorem mU {ns : List Nat} {a : Nat} (h : a < ns.length) : ∃ pre dd suf, ns = pre ++ dd :: suf ∧ a = pre.length ∧ ns.getD a 0 = dd ∧ ns.length - 1 - a = suf.length := by
 refine ⟨ns.take a, ns[a], ns.drop (a + 1), ?_, by rw [List.length_take]; omega, by rw [List.getD_eq_getElem?_getD, List.getElem?_eq_getElem h]; rfl, by rw [List.length_drop]; omega⟩
 rw [← List.drop_eq_getElem_cons h, List.take_append_drop]
theorem km (fx : FX) (ax : Int) (sn : NR) (s : Dyadic) (k q : Nat) (w : World) (hT : fK w) (hf : fx.at_ w) (hl : fx.rl k) (hcap : fx.n ≤ fx.a) (vs : mi q sn s) (hs1 : Sz q (1 - s)) (hq : q ≤ 2000) (hk : fx.e = 0 → ∀ d ∈ fx.ns, k + fx.m * (260 + 2 * (q * d)) ≤ 300000) :
  Calls Tryz.prog 38 #[.agg #[.slice fx.A fx.n fx.a, .slice fx.B fx.m fx.b], .int .i64 ax, .agg #[.bool sn.neg, .string sn.bk, .int .i64 sn.e]] w fun r w' => Below w.heap.size w w' ∧ ((fM fx ax ≠ 0 ∧ r = wO (fM fx ax)) ∨
   (fM fx ax = 0 ∧ ∃ A1 a1 B1 b1 A2 a2 B2 b2, r = .returned (.tuple #[.agg #[.slice A1 fx.n a1, .slice B1 fx.m b1], .agg #[.slice A2 fx.n a2, .slice B2 fx.m b2], .int .i64 0]) ∧ Hp w [.row B2 fx.m b2 39 3 (br NR.cells ((fN true s fx.ns ax.toNat (fx.cs.map NR.d)).map nR)), .row A2 fx.n a2 3 1 (bP fx.ds), .row A1 fx.n a1 3 1 (bP fx.ds), .row B1 fx.m b1 39 3 (br NR.cells ((fN false s fx.ns ax.toNat (fx.cs.map NR.d)).map nR))] w')) := by
 have hh := Hp.start w
 have hs := vs.sz
 have hln : fx.ds.length = fx.n := by have := hf.dg.1; simpa [bP] using this
 have hlm := hf.nm.eI NR.len (by decide)
 have hn20 := hl.zF
 have hck := fun w1 hT1 hb => pK fx k w1 hT1 (hf.ext hb) hl
 by_cases h0 : fx.e = 0
 ·by_cases h1 : ax < 0
  ·have hE : fM fx ax = 1 := by unfold fM; rw [if_neg (by omega), if_pos (.inl h1)]
   refine aj (N := 44) (l := [.agg #[.slice fx.A fx.n fx.a, .slice fx.B fx.m fx.b], .int .i64 ax, .agg #[.bool sn.neg, .string sn.bk, .int .i64 sn.e]]) Tryz.func38 rfl rfl (by simp) ?_
   refine sr ?_
   refine cw hh [_,_] ?_
   intro b3 w3 hh
   refine cw hh [_,_,_] ?_
   intro b5 w5 hh
   refine cf hh ?_
   intro b6 w6 hh
   refine cf hh ?_
   intro b7 w7 hh
   refine aI (aa (ah (sr ?_)))
   refine da hh 3 [_,_] ?_
   refine bB hh (hck _ (hT.hp hh) hh.below) rfl ?_
   intro w12 hh
   refine aI (aa (sr (mI ?_)))
   refine gA (aa (cF (ak (ai (ah (sr (mI ?_)))))))
   refine aK (mB ?_)
   first | refine gS ?_ | (refine gT ?_; refine mI ?_) | refine gV ?_
   first | refine gS ?_ | (refine gT ?_; refine bG ?_) | refine gV ?_
   first | refine gS ?_ | (refine gT ?_; refine bI hh 3 ?_) | refine gV ?_
   first | refine gS ?_ | (refine gT ?_; refine a7 ?_) | refine gV ?_
   first | refine gS ?_ | (refine gT ?_; refine dn ?_) | refine gV ?_
   first | refine db ?_ | refine de ?_
   refine aa (cT (sr ?_))
   refine fg [_,_] ?_
   refine fg [_,_] ?_
   refine bD hh 1 [_,_] ?_
   intro ws hh
   replace hh : Hp _ (_ :: .blk _ _ [_, _] _ :: _) _ := hh
   refine bD hh 0 [_,_] ?_
   intro ws hh
   replace hh : Hp _ (.blk _ _ [_, _] _ :: _) _ := hh
   refine aI (aa (ao (aQ ?_)))
   refine sH (aG rfl (aF (vs := [_, _]) aA.out (hh.ar (i := 1) (n := 2) rfl rfl) rfl) (aG rfl (aF (vs := [_, _]) aA.out (hh.ar (i := 0) (n := 2) rfl rfl) rfl) (dW (fO rfl) bg))) ?_
   exact ⟨hh.below, .inl ⟨by rw [hE]; decide, by rw [hE]; rfl⟩⟩
  ·by_cases h2 : (fx.n : Int) ≤ ax
   ·have hE : fM fx ax = 1 := by unfold fM; rw [if_neg (by omega), if_pos (.inr h2)]
    refine aj (N := 44) (l := [.agg #[.slice fx.A fx.n fx.a, .slice fx.B fx.m fx.b], .int .i64 ax, .agg #[.bool sn.neg, .string sn.bk, .int .i64 sn.e]]) Tryz.func38 rfl rfl (by simp) ?_
    refine sr ?_
    refine cw hh [_,_] ?_
    intro b3 w3 hh
    refine cw hh [_,_,_] ?_
    intro b5 w5 hh
    refine cf hh ?_
    intro b6 w6 hh
    refine cf hh ?_
    intro b7 w7 hh
    refine aI (aa (ah (sr ?_)))
    refine da hh 3 [_,_] ?_
    refine bB hh (hck _ (hT.hp hh) hh.below) rfl ?_
    intro w12 hh
    refine aI (aa (sr (mI ?_)))
    refine gA (aa (cF (ak (ai (ah (sr (mI ?_)))))))
    refine aK (mB ?_)
    first | refine gS ?_ | (refine gT ?_; refine mI ?_) | refine gV ?_
    first | refine gS ?_ | (refine gT ?_; refine bG ?_) | refine gV ?_
    first | refine gS ?_ | (refine gT ?_; refine bI hh 3 ?_) | refine gV ?_
    first | refine gS ?_ | (refine gT ?_; refine a7 ?_) | refine gV ?_
    first | refine gS ?_ | (refine gT ?_; refine dn ?_) | refine gV ?_
    first | refine db ?_ | refine de ?_
    refine aa (cT (sr ?_))
    refine fg [_,_] ?_
    refine fg [_,_] ?_
    refine bD hh 1 [_,_] ?_
    intro ws hh
    replace hh : Hp _ (_ :: .blk _ _ [_, _] _ :: _) _ := hh
    refine bD hh 0 [_,_] ?_
    intro ws hh
    replace hh : Hp _ (.blk _ _ [_, _] _ :: _) _ := hh
    refine aI (aa (ao (aQ ?_)))
    refine sH (aG rfl (aF (vs := [_, _]) aA.out (hh.ar (i := 1) (n := 2) rfl rfl) rfl) (aG rfl (aF (vs := [_, _]) aA.out (hh.ar (i := 0) (n := 2) rfl rfl) rfl) (dW (fO rfl) bg))) ?_
    exact ⟨hh.below, .inl ⟨by rw [hE]; decide, by rw [hE]; rfl⟩⟩
   ·have hE : fM fx ax = 0 := by unfold fM; rw [if_neg (by omega), if_neg (by omega)]
    rw [hE]
    obtain ⟨hdeg, hnum, _, hlow, hcnt, hmax⟩ := FX.fv h0
    have hnl : fx.ns.length = fx.n := by unfold FX.ns; rw [List.length_map]; exact hln
    obtain ⟨pre, dd, suf, hns, hap, hgd, hsl⟩ := mU (ns := fx.ns) (a := ax.toNat) (by omega)
    have hD := hf.dg
    have hN := hf.nm
    have hLo : fN false s fx.ns ax.toNat (fx.cs.map NR.d) = et (suf.reverse ++ dd :: pre.reverse) suf.length (lO dd s) (fx.cs.map NR.d) := by
     unfold fN
     rw [hsl, hgd, hns, List.reverse_append, List.reverse_cons, List.append_assoc]
     rfl
    have hUp : fN true s fx.ns ax.toNat (fx.cs.map NR.d) = et (suf.reverse ++ dd :: pre.reverse) suf.length (lp dd s) (fx.cs.map NR.d) := by
     unfold fN
     rw [hsl, hgd, hns, List.reverse_append, List.reverse_cons, List.append_assoc]
     rfl
    rw [hLo, hUp]
    have hax : ax = ((pre.length : Nat) : Int) := by omega
    have hxl : (fx.cs.map NR.d).length = aC (suf.reverse ++ dd :: pre.reverse) := by
     rw [List.length_map, hcnt, show suf.reverse ++ dd :: pre.reverse = fx.ns.reverse by rw [hns, List.reverse_append, List.reverse_cons, List.append_assoc]; rfl, eC]
    have hpm : aC pre ≤ fx.m := by
     have h3 := gx fx.ns pre.length
     rw [hns, List.take_left' rfl] at h3
     rw [← hns, ← hcnt] at h3
     omega
    have hkk : k + aC pre * (260 + 2 * (q * dd)) ≤ 300000 := by
     have h3 := hk h0 dd (by rw [hns]; exact List.mem_append_right _ List.mem_cons_self)
     have h4 := Nat.mul_le_mul_right (260 + 2 * (q * dd)) hpm
     omega
    have hxz : ∀ x ∈ fx.cs.map NR.d, Sz k x := fun x h => by
     obtain ⟨c, hc, rfl⟩ := List.mem_map.1 h
     exact (hl.num c hc).2
    have hm4 : fx.m ≤ 4096 := by omega
    rw [hdeg, hns] at hD
    rw [hnum] at hN
    rw [hns] at hlow
    have hds : fx.ds = bL (pre ++ dd :: suf) := by rw [hdeg, hns]
    rw [hds]
    have hlo := fun w1 hT1 hb => uc fx.A fx.B fx.n fx.a fx.m fx.b pre suf dd sn s _ k q w1 hT1 (hD.ext hb) (hN.ext hb) hcap hn20 hlow hxl hm4 hxz hkk hq vs hs1
    have hup := fun w1 hT1 hb => tV fx.A fx.B fx.n fx.a fx.m fx.b pre suf dd sn s _ k q w1 hT1 (hD.ext hb) (hN.ext hb) hcap hn20 hlow hxl hm4 hxz hkk hq vs hs1
    have hof : ∀ w1, fK w1 → Calls Tryz.prog 47 #[.int .i64 1] w1 fun r w' => r = .returned (.agg #[.bool (nR (1 : Dyadic)).neg, .string (nR (1 : Dyadic)).bk, .int .i64 (nR (1 : Dyadic)).e]) ∧ Below w1.heap.size w1 w' := fun w1 hT1 => fB 1 w1 hT1 (by decide) (by decide)
    have hsb := fun w1 hT1 => sg (nR (1 : Dyadic)) sn w1 hT1 (Sz.one.ok (by omega)) vs.ok (q + 1) (by rw [dH]; exact Sz.one.mono (by omega)) (by rw [vs.d]; exact hs.mono (by omega)) (by omega)
    simp only [dH, vs.d] at hsb
    refine aj (N := 44) (l := [.agg #[.slice fx.A fx.n fx.a, .slice fx.B fx.m fx.b], .int .i64 ax, .agg #[.bool sn.neg, .string sn.bk, .int .i64 sn.e]]) Tryz.func38 rfl rfl (by simp) ?_
    refine sr ?_
    refine cw hh [_,_] ?_
    intro b3 w3 hh
    refine cw hh [_,_,_] ?_
    intro b5 w5 hh
    refine cf hh ?_
    intro b6 w6 hh
    refine cf hh ?_
    intro b7 w7 hh
    refine aI (aa (ah (sr ?_)))
    refine da hh 3 [_,_] ?_
    refine bB hh (hck _ (hT.hp hh) hh.below) rfl ?_
    intro w12 hh
    refine aI (aa (sr (mI ?_)))
    refine gA (aa (cF (ak (ai (ah (sr (mI ?_)))))))
    refine aK (mB ?_)
    first | refine gS ?_ | (refine gT ?_; refine mI ?_) | refine gV ?_
    first | refine gS ?_ | (refine gT ?_; refine bG ?_) | refine gV ?_
    first | refine gS ?_ | (refine gT ?_; refine bI hh 3 ?_) | refine gV ?_
    first | refine gS ?_ | (refine gT ?_; refine a7 ?_) | refine gV ?_
    first | refine gS ?_ | (refine gT ?_; refine dn ?_) | refine gV ?_
    first | refine db ?_ | refine de ?_
    refine aa (cF (ak (ai (ah ?_))))
    subst hax
    refine aE 6 [[(5, none)], [], [(5, none)], [(30, some 1), (31, some 2)], [(29, some 0), (32, some 3)], []] [(5, 10), (4, 33), (3, 32), (2, 31), (1, 30), (0, 29)] hh mixed (by kernel_rfl) ?_
    refine dV 2 [_,_,_] ?_
    refine dC (fun _ hj => hof _ (hT.hp hj.hp)) ?_
    refine dV 2 [_,_,_] ?_
    refine dC (fun _ hj => hsb _ (hT.hp hj.hp)) ?_
    refine dB [_,_,_,_,_,_] ?_
    refine bC (i := 5) (bK _ 117 _) bK.ext (fun ρ1 w1 hj hR => dA aA.out hj.bl (fun v w2 h hb => ⟨hb, h⟩)) ?_
    refine aW ?_
    intro f W hJ hV
    have hb_6 := hJ.bl
    obtain ⟨v10, v33, v32, v31, v30, v29, _⟩ := hV
    obtain ⟨b10, e10, hl10, hc10⟩ : bK _ _ _ (f 5) W := v10
    replace hh := hJ.newVar hh hl10 hc10
    refine aJ (aZ (ae e10 (ae v33 (ae v32 (ae v31 (ae v30 (ae v29 aH))))))) ?_
    dsimp only [bQ]
    clear e10 hJ
    refine bD hh 0 [_,_,_,_,_,_] ?_
    intro ws hh
    replace hh : Hp _ (.blk _ _ [_, _, _, _, _, _] _ :: _) _ := hh
    refine aa (ah ?_)
    refine aE 9 [[(3, none)], [(1, none)], [(10, none)], [(36, some 2)], [(34, some 0), (35, some 1), (37, some 3)], [(3, none)], [(1, none)], [(10, none)], [(41, some 7)]] [(8, 42), (7, 41), (6, 40), (5, 39), (4, 38), (3, 37), (2, 36), (1, 35), (0, 34)] hh mixed (by kernel_rfl) ?_
    refine dV 4 [_,_] ?_
    refine dk ?_
    refine dV 0 [_,_,_,_,_,_] ?_
    refine bC (i := 3) (Is (.func (.func 87) #[.agg #[.bool sn.neg, .string sn.bk, .int .i64 sn.e, .bool (nR (1 - s)).neg, .string (nR (1 - s)).bk, .int .i64 (nR (1 - s)).e]] #[])) (Is.ext) ?_ ?_
    ·intro ρ1 w1 hj hR
     exact gh rfl (ks (aM (show ρ1 36 = Value.agg _ from hR.1) bE) bE) ⟨Below.refl _ _, rfl⟩
    refine bC (i := 4) (kD hh.sz 3 39 fx.n 1 fx.m 3 (bP (bL (pre ++ dd :: suf))) (br NR.cells ((et (suf.reverse ++ dd :: pre.reverse) suf.length (lO dd s) (fx.cs.map NR.d)).map nR))) (kD.ext) ?_ ?_
    ·intro ρ1 w1 hj hR
     exact bV rfl (bJ av.out (aM (show ρ1 34 = Value.agg _ from hR.1) (aM (show ρ1 35 = Value.int _ _ from hR.2.1) (aM (show ρ1 37 = Value.func _ _ _ from hR.2.2.1) bE)))) (hlo w1 (hT.hp hj.hp) hj.hp.below) (fun _ _ ⟨A, a, B, b, q1, q2⟩ => ⟨_, q1, q2.below, A, a, B, b, rfl, fq (q2.at_ (i := 1) rfl) hj.bl.size, fq (q2.at_ (i := 0) rfl) hj.bl.size⟩)
    refine dV 4 [_,_] ?_
    refine dk ?_
    refine dV 0 [_,_,_,_,_,_] ?_
    refine bC (i := 8) (Is (.func (.func 88) #[.agg #[.bool sn.neg, .string sn.bk, .int .i64 sn.e, .bool (nR (1 - s)).neg, .string (nR (1 - s)).bk, .int .i64 (nR (1 - s)).e]] #[])) (Is.ext) ?_ ?_
    ·intro ρ1 w1 hj hR
     exact gh rfl (ks (aM (show ρ1 41 = Value.agg _ from hR.1) bE) bE) ⟨Below.refl _ _, rfl⟩
    refine aW ?_
    intro f W hJ hV
    have hb_7 := hJ.bl
    obtain ⟨v42, v41, v40, v39, v38, v37, v36, v35, v34, _⟩ := hV
    obtain ⟨A38, c38, B38, k38, e38, o38, p38⟩ := v38
    replace hh := JJ.xB hJ hh o38 p38 (by decide)
    clear o38 p38
    refine aJ (aZ (ae v42 (ae v41 (ae v40 (ae v39 (ae e38 (ae v37 (ae v36 (ae v35 (ae v34 aH)))))))))) ?_
    dsimp only [bQ]
    clear e38 hJ
    refine aU (hup _ (hT.hp hh) hh.below) av.out rfl (by decide) ?_
    rintro e_ w43 ⟨A43, a43, B43, b43, rfl, h2⟩
    refine ⟨_, rfl, ?_⟩
    replace hh := hh.join h2
    simp only [List.cons_append, List.nil_append] at hh
    clear h2
    refine bD hh 6 [_,_] ?_
    intro ws hh
    replace hh : Hp _ (_ :: _ :: _ :: _ :: _ :: _ :: .blk _ _ [_, _] _ :: _) _ := hh
    refine bD hh 5 [_,_] ?_
    intro ws hh
    replace hh : Hp _ (_ :: _ :: _ :: _ :: _ :: .blk _ _ [_, _] _ :: _) _ := hh
    refine aI (aa (ao ?_))
    refine sH (aG rfl (aF (vs := [_, _]) aA.out (hh.ar (i := 6) (n := 2) rfl rfl) rfl) (aG rfl (aF (vs := [_, _]) aA.out (hh.ar (i := 5) (n := 2) rfl rfl) rfl) (dW (fO rfl) bg))) ?_
    replace hh := hh.sub (List.Sublist.cons_cons _ (List.Sublist.cons_cons _ (List.Sublist.cons_cons _ (List.Sublist.cons_cons _ (List.Sublist.cons _ (List.Sublist.cons _ (List.Sublist.cons _ (List.Sublist.cons _ (List.Sublist.cons _ List.Sublist.slnil)))))))))
    exact ⟨hh.below, .inr ⟨rfl, _, _, _, _, _, _, _, _, rfl, hh⟩⟩
 ·have hE : fM fx ax = fx.e := by unfold fM; rw [if_pos h0]
  refine aj (N := 44) (l := [.agg #[.slice fx.A fx.n fx.a, .slice fx.B fx.m fx.b], .int .i64 ax, .agg #[.bool sn.neg, .string sn.bk, .int .i64 sn.e]]) Tryz.func38 rfl rfl (by simp) ?_
  refine sr ?_
  refine cw hh [_,_] ?_
  intro b3 w3 hh
  refine cw hh [_,_,_] ?_
  intro b5 w5 hh
  refine cf hh ?_
  intro b6 w6 hh
  refine cf hh ?_
  intro b7 w7 hh
  refine aI (aa (ah (sr ?_)))
  refine da hh 3 [_,_] ?_
  refine bB hh (hck _ (hT.hp hh) hh.below) rfl ?_
  intro w12 hh
  refine aI (aa (sr (mI ?_)))
  refine gA (aa (cT (sr ?_)))
  refine fg [_,_] ?_
  refine fg [_,_] (mI ?_)
  refine bD hh 1 [_,_] ?_
  intro ws hh
  replace hh : Hp _ (_ :: .blk _ _ [_, _] _ :: _) _ := hh
  refine bD hh 0 [_,_] ?_
  intro ws hh
  replace hh : Hp _ (.blk _ _ [_, _] _ :: _) _ := hh
  refine aI (aa (ao (aQ ?_)))
  refine sH (aG rfl (aF (vs := [_, _]) aA.out (hh.ar (i := 1) (n := 2) rfl rfl) rfl) (aG rfl (aF (vs := [_, _]) aA.out (hh.ar (i := 0) (n := 2) rfl rfl) rfl) (dW (fO rfl) bg))) ?_
  exact ⟨hh.below, .inl ⟨by rw [hE]; exact h0, by rw [hE]; rfl⟩⟩
end Go.Proofs.YtioilmppidlbnaaGreatDoor
/- The walks through cast.Part's closure. -/
namespace Go.Proofs.YtioilmppidlbnaaGreatDoor
open Go.RowKit
def jl (n : Nat) (h : Int) : Bool := decide (h < 0 ∨ (n : Int) ≤ h.tdiv 2)
theorem pO (h : Int) (A : Option Addr) (n c b : Nat) (w : World) (hp : w.cell? ⟨b, 0, none⟩ = some (.slice A n c)) (h1 : -9223372036854775808 ≤ h) (h2 : h ≤ 9223372036854775807) :
  Calls Tryz.prog 91 #[.int .i64 h, .pointer (some ⟨b, 0, none⟩)] w fun r w' => r = .returned (.bool (jl n h)) ∧ Below w.heap.size w w' := by
 have hh := Hp.start w
 by_cases g : h < 0
 ·refine aj (N := 14) (l := [.int .i64 h, .pointer (some ⟨b, 0, none⟩)]) Tryz.func91 rfl rfl (by simp) ?_
  refine sr (aB (aa (sr (mI ?_))))
  refine aK (mB ?_)
  first | refine gS ?_ | (refine gT ?_; refine mI ?_) | refine gV ?_
  first | refine gS ?_ | (refine gT ?_; refine gk rfl rfl (by omega) (by omega) (by omega) (by decide) ?_) | refine gV ?_
  first | refine gS ?_ | (refine gT ?_; refine kB ez.out rfl (by decide) ?_) | refine gV ?_
  first | (refine cG (by decide) rfl rfl (by decide) ?_) | (refine wl_guard_skipV (by decide) rfl rfl ?_)
  first | refine gS ?_ | (refine gT ?_; refine a7 ?_) | refine gV ?_
  first | refine gS ?_ | (refine gT ?_; refine dn ?_) | refine gV ?_
  first | refine db ?_ | refine de ?_
  refine aB (aa (ao ?_))
  refine cx ?_
  exact ⟨by rw [show jl n h = true by unfold jl; rw [decide_eq_true (.inl g)]], hh.below⟩
 ·refine aj (N := 14) (l := [.int .i64 h, .pointer (some ⟨b, 0, none⟩)]) Tryz.func91 rfl rfl (by simp) ?_
  refine sr (aB (aa (sr (mI ?_))))
  refine aK (mB ?_)
  first | refine gS ?_ | (refine gT ?_; refine mI ?_) | refine gV ?_
  first | refine gS ?_ | (refine gT ?_; refine gk rfl rfl (by omega) (by omega) (by omega) (by decide) ?_) | refine gV ?_
  first | refine gS ?_ | (refine gT ?_; refine kB ez.out rfl (by decide) ?_) | refine gV ?_
  refine bp rfl rfl ?_
  refine aV aA.out rfl (hp) (by decide) ?_
  first | refine gS ?_ | (refine gT ?_; refine a7 ?_) | refine gV ?_
  first | refine gS ?_ | (refine gT ?_; refine dn ?_) | refine gV ?_
  first | refine db ?_ | refine de ?_
  refine aB (aa (ao ?_))
  refine cx ?_
  refine ⟨?_, hh.below⟩
  unfold jl
  congr 2
  have e := Int.tdiv_eq_ediv_of_nonneg (a := h) (b := 2) (by omega)
  rw [e]
  simp only [decide_eq_decide]
  omega
theorem jx (H : Option Addr) (m c2 : Nat) (hs : List Int) (A : Option Addr) (n c b : Nat) (w : World) (hS : Sl w H m 1 (bP hs)) (hm : m ≤ 1000000) (hp : w.cell? ⟨b, 0, none⟩ = some (.slice A n c)) (hz : ∀ h ∈ hs, -9223372036854775808 ≤ h ∧ h ≤ 9223372036854775807) :
  Calls Tryz.prog 90 #[.slice H m c2, .func (.func 91) #[] #[.pointer (some ⟨b, 0, none⟩)]] w fun r w' => r = .returned (.bool (hs.any (jl n))) ∧ Below w.heap.size w w' :=
 m0 H m c2 hs 91 [.pointer (some ⟨b, 0, none⟩)] (jl n) w hS hm fun z w1 hz2 hb => pO z A n c b w1 (eN hb hp) (hz z hz2).1 (hz z hz2).2
end Go.Proofs.YtioilmppidlbnaaGreatDoor
/- A pure operation, of several that are ready, may as well come first. Plain lemma, no program in sight. -/
namespace Go.Proofs.YtioilmppidlbnaaGreatDoor
open Go.RowKit
theorem jK {P : Program} {N : Nat} {Q : Kq} {ops : Array Oper} {fuel : Nat} {L : Array Bool} {i d : Nat} {op : Op} {ty : TypeId} {pos : String} {af : Array Edge} {v : Value} {ρ : Rf} {w : World} (hq : NP Q) (hi : ops[i]? = some ⟨some d, op, ty, pos, af, none⟩) (hs : Region.noSelect ops = true) (hf : Region.free .any ops L i = true) (hr : (Region.ready .any ops L).contains i = true)
  (hv : ∀ w, (execOp (ev ρ) ⟨some d, op, ty, pos, af, none⟩).run P w = .ok (.value v) w) (hN : d < N) (h : WA P N ops Q fuel (L.setIfInBounds i true) (cm ρ d v) w) : WA P N ops Q (fuel + 1) L ρ w :=
 ⟨fun a hfit => wpAny_first hi (Region.noSelect_spec hs) (fun c a w ⟨ρ', _, hq'⟩ => (hq c ρ' w hq').elim) fuel L a w (Region.free_spec hi hf) (by simpa using hr) (.inl ⟨by simp [Region.wanted], fun w => by rw [hfit.eval]; exact hv w⟩) (h.out _ (hfit.put hN v))⟩
end Go.Proofs.YtioilmppidlbnaaGreatDoor
/- The walk through cast.Halve. -/
namespace Go.Proofs.YtioilmppidlbnaaGreatDoor
open Go.RowKit
theorem lh (fx : FX) (ax : Int) (k q : Nat) (w : World) (hT : fK w) (hf : fx.at_ w) (hl : fx.rl k) (hcap : fx.n ≤ fx.a) (hs : Sz q (ck (-1))) (hs1 : Sz q (1 - ck (-1))) (hq : q ≤ 2000) (hk : fx.e = 0 → ∀ d ∈ fx.ns, k + fx.m * (260 + 2 * (q * d)) ≤ 300000) (h0 : fM fx ax ≠ 0) :
  Calls Tryz.prog 40 #[.agg #[.slice fx.A fx.n fx.a, .slice fx.B fx.m fx.b], .int .i64 ax] w fun r w' => Below w.heap.size w w' ∧ r = wO (fM fx ax) := by
 have hh := Hp.start w
 have hof : ∀ w1, fK w1 → Calls Tryz.prog 47 #[.int .i64 1] w1 fun r w' => r = .returned (.agg #[.bool (nR (1 : Dyadic)).neg, .string (nR (1 : Dyadic)).bk, .int .i64 (nR (1 : Dyadic)).e]) ∧ Below w1.heap.size w1 w' := fun w1 hT1 => fB 1 w1 hT1 (by decide) (by decide)
 have hsh := fun w1 hT1 => lg (nR (1 : Dyadic)) (-1) w1 hT1 (by have := Sz.one.bk; omega) (by decide +kernel) (by decide +kernel) (by decide) (by decide)
 rw [dH, Dyadic.one_mul] at hsh
 have hc : ∀ w1, fK w1 → Below w.heap.size w w1 → Calls Tryz.prog 38 #[.agg #[.slice fx.A fx.n fx.a, .slice fx.B fx.m fx.b], .int .i64 ax, .agg #[.bool (nR (ck (-1))).neg, .string (nR (ck (-1))).bk, .int .i64 (nR (ck (-1))).e]] w1 fun r w' => r = wO (fM fx ax) ∧ Below w1.heap.size w1 w' := fun w1 hT1 hb => (km fx ax (nR (ck (-1))) (ck (-1)) k q w1 hT1 (hf.ext hb) hl hcap (mi.of hs hq) hs1 hq hk).mono fun r w' ⟨h1, h2⟩ => by
  rcases h2 with ⟨_, h2⟩ | ⟨h2, _⟩
  ·exact ⟨h2, h1⟩
  ·exact absurd h2 h0
 refine aj (N := 15) (l := [.agg #[.slice fx.A fx.n fx.a, .slice fx.B fx.m fx.b], .int .i64 ax]) Tryz.func40 rfl rfl (by simp) ?_
 refine sr ?_
 refine cw hh [_,_] ?_
 intro b2 w2 hh
 refine cf hh ?_
 intro b4 w4 hh
 refine cf hh ?_
 intro b5 w5 hh
 refine aI (aa (ah ?_))
 refine oL [] [0, 0, 0, 4, 15, 31, 31, 31, 255, 511, 1023] 4 [[(2, none)], [(1, none)], [], [(9, some 2)]] [(3, 10), (2, 9), (1, 8), (0, 7)] [([], 6, [(3, 10), (2, 9), (1, 8), (0, 7)])] hh mixed (by kernel_rfl) (by kernel_rfl) (by decide) ?_
 refine dV 2 [_,_] ?_
 refine dk ?_
 refine dC (fun _ hj => hof _ (hT.hp hj.hp)) ?_
 refine dC (fun _ hj => hsh _ (hT.hp hj.hp)) ?_
 refine aW ?_
 intro p_ hp_
 simp only [List.mem_cons, List.not_mem_nil, or_false] at hp_
 rcases hp_ with rfl
 ·intro f W hJ hV
  have hb_1 := hJ.bl
  obtain ⟨v10, v9, v8, v7, _⟩ := hV
  simp only [jX]
  have e7 : f 0 = _ := v7
  rw [e7]
  have e8 : f 1 = _ := v8
  rw [e8]
  have e9 : f 2 = _ := v9
  rw [e9]
  have e10 : f 3 = _ := v10
  rw [e10]
  replace hh := hJ.hp
  clear e7 e8 e9 e10 hJ
  refine aU (hc _ (hT.hp hh) hh.below) av.out rfl (by decide) ?_; rintro e_ w11 ⟨rfl, hb_⟩; refine ⟨_, rfl, ?_⟩; replace hh := hh.ext hb_
  refine ee ?_
  refine jK (i := 5) (by repeat (first | exact iT | refine gF ?_ | refine ja ?_)) rfl (by kernel_rfl) (by kernel_rfl) (by kernel_rfl) (fun _ => fD (show _ = Value.tuple (List.toArray _) from rfl) rfl) (by decide) ?_
  refine jK (i := 6) (by repeat (first | exact iT | refine gF ?_ | refine ja ?_)) rfl (by kernel_rfl) (by kernel_rfl) (by kernel_rfl) (fun _ => fD (show _ = Value.tuple (List.toArray _) from rfl) rfl) (by decide) ?_
  refine jK (i := 7) (by repeat (first | exact iT | refine gF ?_ | refine ja ?_)) rfl (by kernel_rfl) (by kernel_rfl) (by kernel_rfl) (fun _ => fD (show _ = Value.tuple (List.toArray _) from rfl) rfl) (by decide) ?_
  refine fR 8 (by decide) (by kernel_rfl) (by decide) (by kernel_rfl) (by kernel_rfl) ?_
  refine bD hh 1 [_,_] ?_
  intro ws hh
  replace hh : Hp _ (_ :: .blk _ _ [_, _] _ :: _) _ := hh
  refine bD hh 0 [_,_] ?_
  intro ws hh
  replace hh : Hp _ (.blk _ _ [_, _] _ :: _) _ := hh
  refine aI (aa (ao ?_))
  refine sH (aG rfl (aF (vs := [_, _]) aA.out (hh.ar (i := 1) (n := 2) rfl rfl) rfl) (aG rfl (aF (vs := [_, _]) aA.out (hh.ar (i := 0) (n := 2) rfl rfl) rfl) (dW (fO rfl) bg))) ?_
  exact ⟨hh.below, rfl⟩
theorem ou (fx : FX) (ax : Int) (k q : Nat) (w : World) (hT : fK w) (hf : fx.at_ w) (hl : fx.rl k) (hcap : fx.n ≤ fx.a) (hs : Sz q (ck (-1))) (hs1 : Sz q (1 - ck (-1))) (hq : q ≤ 2000) (hk : fx.e = 0 → ∀ d ∈ fx.ns, k + fx.m * (260 + 2 * (q * d)) ≤ 300000) (h0 : fM fx ax = 0) :
  Calls Tryz.prog 40 #[.agg #[.slice fx.A fx.n fx.a, .slice fx.B fx.m fx.b], .int .i64 ax] w fun r w' => ∃ A1 a1 B1 b1 A2 a2 B2 b2, r = .returned (.tuple #[.agg #[.slice A1 fx.n a1, .slice B1 fx.m b1], .agg #[.slice A2 fx.n a2, .slice B2 fx.m b2], .int .i64 0]) ∧ Hp w [.row B2 fx.m b2 39 3 (br NR.cells ((fN true (ck (-1)) fx.ns ax.toNat (fx.cs.map NR.d)).map nR)), .row A2 fx.n a2 3 1 (bP fx.ds), .row A1 fx.n a1 3 1 (bP fx.ds), .row B1 fx.m b1 39 3 (br NR.cells ((fN false (ck (-1)) fx.ns ax.toNat (fx.cs.map NR.d)).map nR))] w' := by
 have hh := Hp.start w
 have hof : ∀ w1, fK w1 → Calls Tryz.prog 47 #[.int .i64 1] w1 fun r w' => r = .returned (.agg #[.bool (nR (1 : Dyadic)).neg, .string (nR (1 : Dyadic)).bk, .int .i64 (nR (1 : Dyadic)).e]) ∧ Below w1.heap.size w1 w' := fun w1 hT1 => fB 1 w1 hT1 (by decide) (by decide)
 have hsh := fun w1 hT1 => lg (nR (1 : Dyadic)) (-1) w1 hT1 (by have := Sz.one.bk; omega) (by decide +kernel) (by decide +kernel) (by decide) (by decide)
 rw [dH, Dyadic.one_mul] at hsh
 have hc : ∀ w1, fK w1 → Below w.heap.size w w1 → Calls Tryz.prog 38 #[.agg #[.slice fx.A fx.n fx.a, .slice fx.B fx.m fx.b], .int .i64 ax, .agg #[.bool (nR (ck (-1))).neg, .string (nR (ck (-1))).bk, .int .i64 (nR (ck (-1))).e]] w1 fun r w' => ∃ A1 a1 B1 b1 A2 a2 B2 b2, r = .returned (.tuple #[.agg #[.slice A1 fx.n a1, .slice B1 fx.m b1], .agg #[.slice A2 fx.n a2, .slice B2 fx.m b2], .int .i64 0]) ∧ Hp w1 [.row B2 fx.m b2 39 3 (br NR.cells ((fN true (ck (-1)) fx.ns ax.toNat (fx.cs.map NR.d)).map nR)), .row A2 fx.n a2 3 1 (bP fx.ds), .row A1 fx.n a1 3 1 (bP fx.ds), .row B1 fx.m b1 39 3 (br NR.cells ((fN false (ck (-1)) fx.ns ax.toNat (fx.cs.map NR.d)).map nR))] w' := fun w1 hT1 hb => (km fx ax (nR (ck (-1))) (ck (-1)) k q w1 hT1 (hf.ext hb) hl hcap (mi.of hs hq) hs1 hq hk).mono fun r w' ⟨h1, h2⟩ => by
  rcases h2 with ⟨h2, _⟩ | ⟨_, h2⟩
  ·exact absurd h0 h2
  ·exact h2
 refine aj (N := 15) (l := [.agg #[.slice fx.A fx.n fx.a, .slice fx.B fx.m fx.b], .int .i64 ax]) Tryz.func40 rfl rfl (by simp) ?_
 refine sr ?_
 refine cw hh [_,_] ?_
 intro b2 w2 hh
 refine cf hh ?_
 intro b4 w4 hh
 refine cf hh ?_
 intro b5 w5 hh
 refine aI (aa (ah ?_))
 refine oL [] [0, 0, 0, 4, 15, 31, 31, 31, 255, 511, 1023] 4 [[(2, none)], [(1, none)], [], [(9, some 2)]] [(3, 10), (2, 9), (1, 8), (0, 7)] [([], 6, [(3, 10), (2, 9), (1, 8), (0, 7)])] hh mixed (by kernel_rfl) (by kernel_rfl) (by decide) ?_
 refine dV 2 [_,_] ?_
 refine dk ?_
 refine dC (fun _ hj => hof _ (hT.hp hj.hp)) ?_
 refine dC (fun _ hj => hsh _ (hT.hp hj.hp)) ?_
 refine aW ?_
 intro p_ hp_
 simp only [List.mem_cons, List.not_mem_nil, or_false] at hp_
 rcases hp_ with rfl
 ·intro f W hJ hV
  have hb_1 := hJ.bl
  obtain ⟨v10, v9, v8, v7, _⟩ := hV
  simp only [jX]
  have e7 : f 0 = _ := v7
  rw [e7]
  have e8 : f 1 = _ := v8
  rw [e8]
  have e9 : f 2 = _ := v9
  rw [e9]
  have e10 : f 3 = _ := v10
  rw [e10]
  replace hh := hJ.hp
  clear e7 e8 e9 e10 hJ
  refine aU (hc _ (hT.hp hh) hh.below) av.out rfl (by decide) ?_; rintro e_ w11 ⟨A1, a1, B1, b1, A2, a2, B2, b2', rfl, h2⟩; refine ⟨_, rfl, ?_⟩; replace hh := hh.join h2; simp only [List.cons_append, List.nil_append] at hh
  refine ee ?_
  refine jK (i := 5) (by repeat (first | exact iT | refine gF ?_ | refine ja ?_)) rfl (by kernel_rfl) (by kernel_rfl) (by kernel_rfl) (fun _ => fD (show _ = Value.tuple (List.toArray _) from rfl) rfl) (by decide) ?_
  refine jK (i := 6) (by repeat (first | exact iT | refine gF ?_ | refine ja ?_)) rfl (by kernel_rfl) (by kernel_rfl) (by kernel_rfl) (fun _ => fD (show _ = Value.tuple (List.toArray _) from rfl) rfl) (by decide) ?_
  refine jK (i := 7) (by repeat (first | exact iT | refine gF ?_ | refine ja ?_)) rfl (by kernel_rfl) (by kernel_rfl) (by kernel_rfl) (fun _ => fD (show _ = Value.tuple (List.toArray _) from rfl) rfl) (by decide) ?_
  refine fR 8 (by decide) (by kernel_rfl) (by decide) (by kernel_rfl) (by kernel_rfl) ?_
  refine bD hh 5 [_,_] ?_
  intro ws hh
  replace hh : Hp _ (_ :: _ :: _ :: _ :: _ :: .blk _ _ [_, _] _ :: _) _ := hh
  refine bD hh 4 [_,_] ?_
  intro ws hh
  replace hh : Hp _ (_ :: _ :: _ :: _ :: .blk _ _ [_, _] _ :: _) _ := hh
  refine aI (aa (ao ?_))
  refine sH (aG rfl (aF (vs := [_, _]) aA.out (hh.ar (i := 5) (n := 2) rfl rfl) rfl) (aG rfl (aF (vs := [_, _]) aA.out (hh.ar (i := 4) (n := 2) rfl rfl) rfl) (dW (fO rfl) bg))) ?_
  replace hh := hh.sub (List.Sublist.cons_cons _ (List.Sublist.cons_cons _ (List.Sublist.cons_cons _ (List.Sublist.cons_cons _ (List.Sublist.cons _ (List.Sublist.cons _ (List.Sublist.cons _ List.Sublist.slnil)))))))
  exact ⟨_, _, _, _, _, _, _, _, rfl, hh⟩
end Go.Proofs.YtioilmppidlbnaaGreatDoor
/- Plain laws: how large the numbers of a changed form are; a form in parts. No program in sight. -/
namespace Go.Proofs.YtioilmppidlbnaaGreatDoor
theorem rg {A : List Nat} {d : Nat} {B : List Nat} {M : Nat → Nat → Dyadic} {xs : List Dyadic} {k G : Nat} (hl : xs.length = aC (A ++ d :: B)) (hx : ∀ x ∈ xs, Sz k x)
  (hg : ∀ ls : List Dyadic, ls.length = d + 1 → (∀ x ∈ ls, Sz k x) → ∀ x ∈ dv d M ls, Sz (k + G) x) : ∀ x ∈ et (A ++ d :: B) A.length M xs, Sz (k + G) x := fun x hx2 => by
 obtain ⟨p, hp⟩ := List.mem_iff_getElem?.1 hx2
 have hpl := (List.getElem?_eq_some_iff.1 hp).1
 rw [iY] at hpl
 obtain ⟨f, j, q, hf, hj, hq, rfl⟩ := ko (A := A) (d := d) (B := B) (p := p) (by omega)
 rw [p8 M xs hf hj hq] at hp
 have hp := Option.some.inj hp
 have hll : (dz A d xs f q).length = d + 1 := by simp [dz]
 refine hg (dz A d xs f q) hll (fun y hy => ?_) x (List.mem_of_getElem? (i := j) ?_)
 ·obtain ⟨i, _, rfl⟩ := List.mem_map.1 hy
  exact lS hx _
 ·rw [lu hj, ← hp]
  congr 1
  refine jq fun i hi => ?_
  have hi := List.mem_range.1 hi
  congr 1
  show ((dz A d xs f q)[i]?).getD 0 = _
  unfold dz
  rw [List.getElem?_map, List.getElem?_range hi]
  rfl
theorem mN (up : Bool) (s : Dyadic) (ns : List Nat) (a : Nat) (xs : List Dyadic) : (fN up s ns a xs).length = aC ns := by
 unfold fN
 rw [iY, eC]
theorem xT {up : Bool} {s : Dyadic} {ns : List Nat} {a k q D : Nat} {xs : List Dyadic} (ha : a < ns.length) (hd : ∀ d ∈ ns, d ≤ D) (hD : D ≤ 127) (hl : xs.length = aC ns) (hs : Sz q s) (hs1 : Sz q (1 - s)) (hx : ∀ x ∈ xs, Sz k x) : ∀ x ∈ fN up s ns a xs, Sz (k + (260 + 2 * (q * D))) x := fun x h => by
 obtain ⟨pre, dd, suf, hns, hap, hgd, hsl⟩ := mU ha
 have hdD : dd ≤ D := hd dd (by rw [hns]; exact List.mem_append_right _ List.mem_cons_self)
 have hqd : q * dd ≤ q * D := Nat.mul_le_mul_left _ hdD
 have hr : ns.reverse = suf.reverse ++ dd :: pre.reverse := by rw [hns, List.reverse_append, List.reverse_cons, List.append_assoc]; rfl
 have hxl : xs.length = aC (suf.reverse ++ dd :: pre.reverse) := by rw [← hr, eC, hl]
 unfold fN at h
 have er : suf.reverse.length = suf.length := List.length_reverse
 rw [hsl, hgd, hr, ← er] at h
 cases up with
 | true => exact (rg hxl hx (fun ls h1 h2 => vW (by omega) hs hs1 ls k h1 h2) x h).mono (by omega)
 | false => exact (rg hxl hx (fun ls _ h2 => vH (by omega) hs hs1 ls k h2) x h).mono (by omega)
def qG (ns : List Nat) (xs : List Dyadic) (h : Int) : List Dyadic := fN (decide (h % 2 = 1)) (ck (-1)) ns (h / 2).toNat xs
def fZ (ns : List Nat) (xs : List Dyadic) (hs : List Int) : List Dyadic := hs.foldl (qG ns) xs
theorem ku (ns : List Nat) (xs : List Dyadic) (hs : List Int) (h : Int) : fZ ns xs (hs ++ [h]) = qG ns (fZ ns xs hs) h := by
 unfold fZ
 rw [List.foldl_append]
 rfl
theorem uy {ns : List Nat} {xs : List Dyadic} (hl : xs.length = aC ns) (hs : List Int) : (fZ ns xs hs).length = aC ns := by
 rcases List.eq_nil_or_concat hs with rfl | ⟨l, h, rfl⟩
 ·exact hl
 ·rw [List.concat_eq_append, ku]
  exact mN _ _ _ _ _
theorem nu {ns : List Nat} {q D : Nat} (hd : ∀ d ∈ ns, d ≤ D) (hD : D ≤ 127) (hs : Sz q (ck (-1))) (hs1 : Sz q (1 - ck (-1))) : ∀ (l : List Int) (k : Nat) (xs : List Dyadic), (∀ h ∈ l, 0 ≤ h ∧ h / 2 < ns.length) → xs.length = aC ns → (∀ x ∈ xs, Sz k x) → ∀ x ∈ fZ ns xs l, Sz (k + l.length * (260 + 2 * (q * D))) x
 | [], k, xs, _, _, hx, x, h => by
  rw [List.length_nil, Nat.zero_mul, Nat.add_zero]
  exact hx x h
 | h :: l, k, xs, hv, hl, hx, x, hm => by
  have hh := hv h List.mem_cons_self
  have h1 := xT (up := decide (h % 2 = 1)) (a := (h / 2).toNat) (by omega) hd hD hl hs hs1 hx
  have h2 := nu hd hD hs hs1 l (k + (260 + 2 * (q * D))) (qG ns xs h) (fun y hy => hv y (List.mem_cons_of_mem _ hy)) (mN _ _ _ _ _) h1 x hm
  refine h2.mono ?_
  rw [List.length_cons, Nat.add_mul l.length 1, Nat.one_mul]
  omega
end Go.Proofs.YtioilmppidlbnaaGreatDoor
