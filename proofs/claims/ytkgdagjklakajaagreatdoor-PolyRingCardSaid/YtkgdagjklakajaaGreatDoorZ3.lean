/- Lemmas for polyRing, part 3. -/
import Derived.Test.YtkgdagjklakajaaGreatDoorZ2
/- Several texts in one: Nat, NatB, NatC, NatD, NatE, NatF. -/
namespace Go.Proofs.YtkgdagjklakajaaGreatDoor
open Go.RowKit
theorem fB (A : Option Addr) (n c : Nat) (xs : List Nat) (w : World) (hx : Sl w A n 1 (cu xs)) (hc : n ≤ c) (hn : n ≤ 1000000000000) :
  Calls Tryz.prog 239 #[.slice A n c] w fun e w' => e = .returned (.slice A (di xs).length c) ∧ Below w.heap.size w w' := by
 have hlen : xs.length = n := by have := hx.1; rw [aQ] at this; omega
 have hh := Hp.start w
 refine ak (N := 21) (l := [.slice A n c]) Tryz.func239 rfl rfl (by simp) ?_
 refine sr (aL (aa (ai (aq ?_))))
 refine bD [0, 3, 4, 5, 6, 7, 8, 9, 10, 11, 12, 13, 14, 15, 16, 17, 18, 19] 0
  (fun v w' => ∃ k : Nat, k ≤ n ∧ v = .slice A k c ∧ di (xs.take k) = di xs ∧ w' = w)
  (fun v _ => lenOf v) ?_ ?_
 ·exact ⟨n, Nat.le_refl _, rfl, by rw [List.take_of_length_le (by omega)], rfl⟩
 ·rintro ρ' v w' ⟨k, hk, rfl, hcut, rfl⟩
  by_cases h0 : k = 0
  ·subst h0
   refine ai (sr (mL (a5 ?_)))
   refine cg (mB ?_)
   first | refine gS ?_ | (refine gT ?_; refine mL ?_) | refine gV ?_
   first | refine gS ?_ | (refine gT ?_; refine mL ?_) | refine gV ?_
   first | refine gS ?_ | (refine gT ?_; refine a5 ?_) | refine gV ?_
   first | refine gS ?_ | (refine gT ?_; refine fp ?_) | refine gV ?_
   first | refine gS ?_ | (refine gT ?_; refine fY aJ.out aC.size rfl rfl (by omega) (by omega) (by decide) ?_) | refine gV ?_
   first | (refine bH (by decide) rfl rfl (by decide) ?_) | (refine fF (by decide) rfl rfl ?_)
   first | refine gS ?_ | (refine gT ?_; refine cI ?_) | refine gV ?_
   first | refine ct ?_ | refine cq ?_
   refine aa (cF ?_)
   refine a4 ?_
   refine aD (aD (bp (aj (sr (mL (aL (aa (ao ?_))))))))
   refine cd ?_
   rw [← hcut]
   exact ⟨rfl, hh.below⟩
  ·obtain ⟨j, rfl⟩ : ∃ j, k = j + 1 := ⟨k - 1, by omega⟩
   obtain ⟨d, hd⟩ := aR (l := xs) (k := j) (by omega)
   obtain ⟨ad, rfl, hr⟩ := hx.at_ (by omega)
   have hd2 := dH hd
   rw [aW hd] at hcut
   by_cases hz : d = 0
   ·subst hz
    rw [nn] at hcut
    refine ai (sr (mL (a5 ?_)))
    refine cg (mB ?_)
    first | refine gS ?_ | (refine gT ?_; refine mL ?_) | refine gV ?_
    first | refine gS ?_ | (refine gT ?_; refine mL ?_) | refine gV ?_
    first | refine gS ?_ | (refine gT ?_; refine a5 ?_) | refine gV ?_
    first | refine gS ?_ | (refine gT ?_; refine fp ?_) | refine gV ?_
    first | refine gS ?_ | (refine gT ?_; refine a0 (k := j) aJ.out aC.size rfl rfl (by omega) (by omega) (by decide) ?_) | refine gV ?_
    first | refine gS ?_ | (refine gT ?_; refine bJ aC.out rfl ((hr.ext hh.below).mg (by assumption)) (by decide) ?_) | refine gV ?_
    first | refine gS ?_ | (refine gT ?_; refine cI ?_) | refine gV ?_
    first | refine ct ?_ | refine cq ?_
    refine aa (cT (al (aj (aq (au (mL (mL (a5 ?_))))))))
    refine fp ?_
    refine k7 (h := j) aJ.out aC.size rfl rfl (by omega) (by omega) (by decide) ?_
    refine aL (aK (a3 (aj ?_)))
    refine ⟨⟨j, by omega, rfl, hcut, rfl⟩, by show j < j + 1; omega, ?_⟩
    (repeat (first | exact aA _ _ _ | refine aE rfl ?_ | refine ax rfl ?_))
   ·rw [oG hz] at hcut
    refine ai (sr (mL (a5 ?_)))
    refine cg (mB ?_)
    first | refine gS ?_ | (refine gT ?_; refine mL ?_) | refine gV ?_
    first | refine gS ?_ | (refine gT ?_; refine mL ?_) | refine gV ?_
    first | refine gS ?_ | (refine gT ?_; refine a5 ?_) | refine gV ?_
    first | refine gS ?_ | (refine gT ?_; refine fp ?_) | refine gV ?_
    first | refine gS ?_ | (refine gT ?_; refine a0 (k := j) aJ.out aC.size rfl rfl (by omega) (by omega) (by decide) ?_) | refine gV ?_
    first | refine gS ?_ | (refine gT ?_; refine bJ aC.out rfl ((hr.ext hh.below).mg (by assumption)) (by decide) ?_) | refine gV ?_
    first | refine gS ?_ | (refine gT ?_; refine cI ?_) | refine gV ?_
    first | refine ct ?_ | refine cq ?_
    refine aa (cF ?_)
    refine a4 ?_
    refine aD (aD (bp (aj (sr (mL (aL (aa (ao ?_))))))))
    refine cd ?_
    rw [← hcut, List.length_append, List.length_take, Nat.min_eq_left (by omega)]
    exact ⟨rfl, hh.below⟩
theorem ez {B : Nat} {l : List Nat} {i c : Nat} (h : l[i]? = some c) : bk B (l.take (i + 1)) = bk B (l.take i) + B ^ i * c := by
 have hi := (List.getElem?_eq_some_iff.1 h).1
 rw [aW h, dP, List.length_take, Nat.min_eq_left (by omega)]
 simp [bk]
theorem Hp.tO {w0 w : World} {H : List HE} {A : Option Addr} {n c : Nat} {t : TypeId} {xs : List Nat} (h : Hp w0 (.row A n c t 1 (cu xs) :: H) w) (hl : xs.length = n) : Hp w0 (.row A (di xs).length c t 1 (cu (di xs)) :: H) w := by
 have h1 := er xs
 have h2 := h.sx (k := (di xs).length) (by omega)
 rw [Nat.mul_one, ← po, ← gq] at h2
 exact h2
theorem uB (a : ByteArray) (w : World) (ha : a.size ≤ 100000000000) :
  Calls Tryz.prog 220 #[.string a] w fun e w' => ∃ b c, e = .returned (.slice (some ⟨b, 0, none⟩) (aT 18446744073709551616 (bn a.data.toList)).length c) ∧ w'.ownsRow w.heap.size 195 1 (.slice (some ⟨b, 0, none⟩) (aT 18446744073709551616 (bn a.data.toList)).length c) (aT 18446744073709551616 (bn a.data.toList)).length (cu (aT 18446744073709551616 (bn a.data.toList))) ∧ Below w.heap.size w w' := by
 have hsz := dF a
 have hh := Hp.start w
 refine ak (N := 39) (l := [.string a]) Tryz.func220 rfl rfl (by simp) ?_
 refine sr (aL (aa (sr (mS ?_))))
 refine bB aJ.out rfl (by decide) ?_
 refine bO ?_
 refine ie rfl rfl (by omega) (by omega) (by omega) (by decide) ?_
 refine fH (n := (a.size + 7) / 8) hh rfl rfl (by omega) (by omega) aJ.out aC.out rfl (by omega) (by omega) (by decide) ?_
 intro b10 w10 hh
 refine aL (aa (ai (sr (mS ?_))))
 refine bB aJ.out rfl (by decide) ?_
 refine mI (aa (aq ?_))
 rw [kQ] at hh
 refine bD [4, 5, 13, 14, 15, 16, 17, 18, 19, 20, 21, 22, 23, 24, 25, 26, 27, 28, 29, 30, 31, 32, 33, 34, 35, 36] 13
  (fun v w' => ∃ i : Nat, i ≤ a.size ∧ v = .int .i64 i ∧ Hp w [.row (some ⟨b10, 0, none⟩) ((a.size + 7) / 8) ((a.size + 7) / 8) 195 1 (cu (bF 18446744073709551616 ((a.size + 7) / 8) (bk 256 ((rN a.data.toList).take i))))] w')
  (fun v _ => a.size - (intOf v).toNat) ?_ ?_
 ·exact ⟨0, Nat.zero_le _, rfl, by rw [List.take_zero, bk, lL]; exact hh⟩
 ·clear hh
  rintro ρ' v w' ⟨i, hi, rfl, hh⟩
  by_cases hlt : i < a.size
  ·obtain ⟨c, hc⟩ := aR (l := a.data.toList) (k := ((a.size : Int) - 1 - i).toNat) (by omega)
   have hlo := wg (s := a.data.toList) (i := i) (c := c) (by omega) (by rw [← hc]; congr 1; omega)
   have hc8 := c.toNat_lt
   have hn := fN ((p5 a.data.toList).take i)
   rw [List.length_take, kb, Nat.min_eq_left (by omega)] at hn
   obtain ⟨s1, s2, s3⟩ := yv (k := (a.size + 7) / 8) (bk 256 ((rN a.data.toList).take i)) hn hc8 (by omega)
   have hg := dH (fD (B := 18446744073709551616) ((a.size + 7) / 8) (bk 256 ((rN a.data.toList).take i)) (i / 8) (by omega))
   have e1 : ((i : Int) % 8 * 8).toNat = i % 8 * 8 := by omega
   refine sr ?_
   refine aZ (aa (ai (cT (al (aj (ai (aq (sr (mI (aI (aa ?_)))))))))))
   refine sr (mS ?_)
   refine bB aJ.out rfl (by decide) ?_
   refine fp (mI ?_)
   refine fp (aI (aa ?_))
   refine bf 13 [[(3, none)], [(4, none)], [(22, some 1)], [(21, some 0), (23, some 2)], [(24, some 3)], [(0, none)], [(5, none)], [(26, some 5), (27, some 6)], [(28, some 7)], [(4, none)], [(30, some 9)], [(31, some 10)], [(29, some 8), (32, some 11)]] [(12, 33), (11, 32), (10, 31), (9, 30), (8, 29), (7, 28), (6, 27), (5, 26), (4, 25), (3, 24), (2, 23), (1, 22), (0, 21)] hh mixed (by kernel_rfl) ?_
   refine iB ?_
   refine fe ?_
   refine bm (i := 2) (fun ρ1 w1 hj hR => pJ (show ρ1 22 = Value.int _ _ from hR.1) rfl (by omega) (by omega) (by omega)) ?_
   refine zQ (i / 8) ?_
   refine bm (i := 4) (fun ρ1 w1 hj hR => gU aC.out (show ρ1 24 = Value.pointer _ from hR.1) (hj.hp.cE (i := 0) rfl (by first | assumption | (simp only [Nat.mul_one]; assumption)))) ?_
   refine Bc ?_
   refine fe ?_
   refine bm (i := 7) (fun ρ1 w1 hj hR => lW aJ.out (show ρ1 26 = Value.string _ from hR.1) (show ρ1 27 = Value.int _ _ from hR.2.1) (by omega) (by assumption)) ?_
   first | refine bm (i := 8) (fun ρ1 w1 hj hR => nv aJ.out aJ.out (show ρ1 28 = Value.int _ _ from hR.1) (by first | assumption | omega)) ?_ | refine bm (i := 8) (fun ρ1 w1 hj hR => tS aJ.out aJ.out (show ρ1 28 = Value.int _ _ from hR.1)) ?_
   refine fe ?_
   refine bm (i := 10) (fun ρ1 w1 hj hR => lJ (show ρ1 30 = Value.int _ _ from hR.1) rfl (by omega) (by omega)) ?_
   refine Ax ?_
   refine bm (i := 12) (fun ρ1 w1 hj hR => pT (show ρ1 29 = Value.int _ _ from hR.1) (show ρ1 32 = Value.int _ _ from hR.2.1) (by omega)) ?_
   refine bo ?_
   intro f W hJ hV
   have hb_6 := hJ.bl
   obtain ⟨v33, v32, v31, v30, v29, v28, v27, v26, v25, v24, v23, v22, v21, _⟩ := hV
   replace hh := hJ.hp
   refine a7 (bu (ah v33 (ah v32 (ah v31 (ah v30 (ah v29 (ah v28 (ah v27 (ah v26 (ah v25 (ah v24 (ah v23 (ah v22 (ah v21 a6)))))))))))))) ?_
   dsimp only [cJ]
   clear hJ
   refine um rfl rfl (by first | assumption | omega) (by first | assumption | omega) (by decide) ?_
   refine bs (k := i / 8) aJ.out aC.size rfl rfl (by omega) (by omega) (by decide) ?_
   refine br hh (i := 0) (vs := [_]) rfl rfl (bI rfl) rfl aC.out rfl (by rw [aQ, aN]; omega) rfl ?_
   intro ws hh
   simp only [List.set_cons_zero] at hh
   rw [e1, Nat.mod_eq_of_lt s2, so s1, bX (by rw [aQ, aN]; omega), Nat.mul_one, eG, s3, ← ez hlo] at hh
   refine aK (a3 (aj (au ?_)))
   refine bO (mI (aK (aj ?_)))
   refine ⟨⟨i + 1, by omega, rfl, hh⟩, by show a.size - (i + 1) < a.size - i; omega, ?_⟩
   (repeat (first | exact aA _ _ _ | refine aE rfl ?_ | refine ax rfl ?_))
  ·refine sr ?_
   refine aZ (aa (ai (cF ?_)))
   refine a4 ?_
   refine aD (aD (bp (aj (sr (mL ?_)))))
   rw [List.take_of_length_le (by rw [kb]; omega)] at hh
   refine bE hh (fB _ _ _ (bF 18446744073709551616 ((a.size + 7) / 8) (bn a.data.toList)) _ (hh.az (i := 0) rfl) (Nat.le_refl _) (by omega)) rfl ?_
   intro w38 hh
   refine aL (aa (ao ?_))
   refine cd ?_
   have hbd : bn a.data.toList < 18446744073709551616 ^ ((a.size + 7) / 8) := by
    refine Nat.lt_of_lt_of_le (yR _) ?_
    rw [← hsz, show (256 : Nat) = 2 ^ 8 from rfl, show (18446744073709551616 : Nat) = 2 ^ 64 from rfl, ← Nat.pow_mul, ← Nat.pow_mul]
    exact Nat.pow_le_pow_right (by omega) (by omega)
   have hd : di (bF 18446744073709551616 ((a.size + 7) / 8) (bn a.data.toList)) = aT 18446744073709551616 (bn a.data.toList) := by
    rw [eB (by omega) (ek (by omega) _ _), bZ hbd]
   have h1 := (Hp.tO (xs := bF 18446744073709551616 ((a.size + 7) / 8) (bn a.data.toList)) hh (aN _ _)).at_ (i := 0) rfl
   rw [hd] at h1
   rw [hd]
   exact ⟨_, _, rfl, h1, hh.below⟩
theorem Sl.zh {w : World} {A : Option Addr} {n : Nat} {xs : List Nat} (h : Sl w A n 1 (cu xs)) {k : Nat} (hk : k ≤ n) : Sl w A k 1 (cu (xs.take k)) := by
 have hl := h.1
 rw [aQ] at hl
 refine ⟨by rw [aQ, List.length_take]; omega, fun h0 => ?_⟩
 obtain ⟨ad, he, hr⟩ := h.2 (by omega)
 exact ⟨ad, he, by rw [po]; exact hr.take k⟩
theorem Sl.pX {w : World} {A : Option Addr} {n : Nat} {xs : List Nat} (h : Sl w A n 1 (cu xs)) : Sl w A (di xs).length 1 (cu (di xs)) := by
 have hl := h.1
 rw [aQ] at hl
 have := er xs
 have h2 := h.zh (k := (di xs).length) (by omega)
 rwa [← gq] at h2
theorem su {xs : List Nat} (h : Dg 18446744073709551616 xs) : bA (bk 18446744073709551616 xs) ≤ 64 * xs.length := by
 apply cV
 rw [Nat.pow_mul]
 exact fN h
theorem nD (A : Option Addr) (n c : Nat) (xs : List Nat) (w : World) (hx : Sl w A n 1 (cu xs)) (hd : Dg 18446744073709551616 xs) (hc : n ≤ c) (hn : n ≤ 100000000000) :
  Calls Tryz.prog 242 #[.slice A n c] w fun e w' => e = .returned (.int .i64 (bA (bk 18446744073709551616 xs))) ∧ Below w.heap.size w w' := by
 have hl := hx.1
 rw [aQ] at hl
 have hcl := er xs
 have hcx := hx.pX
 have hcd := hd.cut
 have hlast := o7 xs
 rw [← iu]
 generalize hcs : di xs = cs at *
 have hh := Hp.start w
 refine ak (N := 19) (l := [.slice A n c]) Tryz.func242 rfl rfl (by simp) ?_
 refine sr (aI (aa (sr (mL ?_))))
 refine bE hh (fB _ _ _ xs _ hx hc (by omega)) rfl ?_
 intro w4 hh
 rw [hcs]
 by_cases h0 : cs.length = 0
 ·refine aL (aa (ai (sr (mL (a5 ?_)))))
  refine cI (aa (cT (sr (aI (aa (ao (aM ?_)))))))
  refine cd ?_
  have : cs = [] := List.eq_nil_of_length_eq_zero h0
  subst this
  exact ⟨by rw [bk, iq]; rfl, hh.below⟩
 ·obtain ⟨ad, rfl, hr⟩ := hcx.at_ (by omega)
  obtain ⟨d, hd⟩ := aR (l := cs) (k := cs.length - 1) (by omega)
  have hd2 := dH hd
  have hd3 := hcd.at_ hd
  have e1 : cs.take (cs.length - 1) ++ [d] = cs := by rw [← aW hd, List.take_of_length_le (by omega)]
  have hnz : d ≠ 0 := by
   intro h
   subst h
   apply hlast
   rw [List.getLast?_eq_getElem?]
   exact hd
  have hb := wo (B := 18446744073709551616) (b := 64) (m := cs.length - 1) (by decide) (hcd.take (cs.length - 1)) (by rw [List.length_take]; omega) hnz
  rw [e1] at hb
  have hb2 : bA d ≤ 64 := cV (by simpa using hd3)
  refine aL (aa (ai (sr (mL (a5 ?_)))))
  refine cI (aa (cF (al (aj (sr (mL (a5 ?_)))))))
  refine mulC (mL (mL (a5 ?_)))
  refine fp ?_
  refine a0 (k := cs.length - 1) aJ.out aC.size rfl rfl (by omega) (by omega) (by decide) ?_
  refine bJ aC.out rfl ((hr.ext hh.below).mg (by assumption)) (by decide) ?_
  refine bE hh (sa _ _ hd3) rfl ?_
  intro w17 hh
  refine fp (aI (aa (ao ?_)))
  refine cd ?_
  refine ⟨?_, hh.below⟩
  congr 2
  omega
theorem r3 (N : Nat) : (aT 256 N).length = (bA N + 7) / 8 := by
 have h256 : (256 : Nat) = 2 ^ 8 := rfl
 have h1 : (aT 256 N).length ≤ (bA N + 7) / 8 := by
  apply fA (by omega)
  refine Nat.lt_of_lt_of_le (cN N) ?_
  rw [h256, ← Nat.pow_mul]
  exact Nat.pow_le_pow_right (by omega) (by omega)
 have h2 := jL (B := 256) (by omega) N
 have h3 : bA N ≤ 8 * (aT 256 N).length := by
  apply cV
  rw [Nat.pow_mul]
  exact h2
 omega
theorem ig {B : Nat} (i N : Nat) : bF B (i + 1) N = bF B i N ++ [N / B ^ i % B] := by
 apply List.ext_getElem?
 intro j
 rcases Nat.lt_trichotomy j i with h | h | h
 ·rw [fD _ _ _ (by omega), List.getElem?_append_left (by rw [aN]; exact h), fD _ _ _ h]
 ·subst h
  rw [fD _ _ _ (by omega), List.getElem?_append_right (by rw [aN]; omega), aN]
  simp
 ·rw [List.getElem?_eq_none (by rw [aN]; omega), List.getElem?_eq_none (by rw [List.length_append, aN]; simp; omega)]
theorem tp {R : List Nat} {k x : Nat} : (List.replicate (k + 1) 0 ++ R).set k x = List.replicate k 0 ++ (x :: R) := by
 rw [List.replicate_succ', List.append_assoc, List.set_append_right _ _ (by simp)]
 simp
theorem fx (A : Option Addr) (n c : Nat) (xs : List Nat) (w : World) (hx : Sl w A n 1 (cu xs)) (hd : Dg 18446744073709551616 xs) (hc : n ≤ c) (hn : n ≤ 10000000000) :
  Calls Tryz.prog 231 #[.slice A n c] w fun e w' => e = .returned (.string (str (sb (bk 18446744073709551616 xs)))) ∧ Below w.heap.size w w' := by
 have hl := hx.1
 rw [aQ] at hl
 have hcl := er xs
 have hcx := hx.pX
 have hcd := hd.cut
 have hbl := su hcd
 have hcan := eB (by omega) hd
 have hlen := r3 (bk 18446744073709551616 xs)
 rw [iu] at hbl
 have hh := Hp.start w
 refine ak (N := 37) (l := [.slice A n c]) Tryz.func231 rfl rfl (by simp) ?_
 refine sr (aS (aa (sr (mL ?_))))
 refine bE hh (fB _ _ _ xs _ hx hc (by omega)) rfl ?_
 intro w7 hh
 rw [hcan] at hcl hcx hcd hbl
 rw [hcan]
 refine aL (aa (sr (mL ?_)))
 refine bE hh (nD _ _ _ (aT 18446744073709551616 (bk 18446744073709551616 xs)) _ (hcx.ext hh.below) hcd (by omega) (by omega)) rfl ?_
 intro w9 hh
 rw [dr (by omega)]
 generalize bk 18446744073709551616 xs = M at *
 refine bO ?_
 refine ie rfl rfl (by omega) (by omega) (by omega) (by decide) ?_
 refine aI (aa (sr (mI ?_)))
 refine fH (n := (bA M + 7) / 8) hh rfl rfl (by omega) (by omega) aJ.out aC.out rfl (by omega) (by omega) (by decide) ?_
 intro b13 w13 hh
 refine aL (aa (ai (sr (mI (mI (aa (aq ?_)))))))
 rw [k6] at hh
 refine bD [5, 15, 16, 17, 18, 19, 20, 21, 22, 23, 24, 25, 26, 27, 28, 29, 30, 31, 32, 33, 34] 15
  (fun v w' => ∃ i : Nat, i ≤ (bA M + 7) / 8 ∧ v = .int .i64 i ∧ Hp w [.row (some ⟨b13, 0, none⟩) ((bA M + 7) / 8) ((bA M + 7) / 8) 5 1 (eZ (List.replicate ((bA M + 7) / 8 - i) 0 ++ (bF 256 i M).reverse))] w')
  (fun v _ => (bA M + 7) / 8 - (intOf v).toNat) ?_ ?_
 ·exact ⟨0, Nat.zero_le _, rfl, by simpa [bF] using hh⟩
 ·clear hh
  rintro ρ' v w' ⟨i, hi, rfl, hh⟩
  by_cases hlt : i < (bA M + 7) / 8
  ·obtain ⟨ad, rfl, hr⟩ := hcx.at_ (by omega)
   have hg := rv (B := 18446744073709551616) (n := M) (i := i / 8) (by omega) (by omega)
   have hg2 := dH hg
   have e1 : ((i : Int) % 8 * 8).toNat = i % 8 * 8 := by omega
   refine sr ?_
   refine aZ (aa (ai (cT (al (aj (ai (aq (sr (mI (aI (aa ?_)))))))))))
   refine au (mL (mI ?_))
   refine fp (mI ?_)
   refine fp (mL (mI ?_))
   refine ie rfl rfl (by omega) (by omega) (by omega) (by decide) ?_
   refine a0 (k := i / 8) aJ.out aC.size rfl rfl (by omega) (by omega) (by decide) ?_
   refine bJ aC.out rfl ((hr.ext hh.below).mg (by assumption)) (by decide) ?_
   refine mI ?_
   refine jz rfl rfl (by omega) (by omega) (by decide) ?_
   refine mulC ?_
   refine rW rfl rfl (by omega) (by decide) ?_
   first | refine cS aJ.out aJ.out rfl (by first | assumption | omega) (by decide) ?_ | refine eT aJ.out aJ.out rfl (by decide) ?_
   refine bs (k := (bA M + 7) / 8 - 1 - i) aJ.out aC.size rfl rfl (by omega) (by omega) (by decide) ?_
   refine br hh (i := 0) (vs := [_]) rfl rfl (bI rfl) rfl aC.out rfl (by rw [bY, List.length_append, List.length_reverse, List.length_replicate, aN]; omega) rfl ?_
   intro ws hh
   simp only [List.set_cons_zero] at hh
   obtain ⟨k, hk⟩ : ∃ k, (bA M + 7) / 8 - i = k + 1 := ⟨(bA M + 7) / 8 - i - 1, by omega⟩
   rw [e1, uE, Nat.mul_one, bX (by rw [bY, List.length_append, List.length_reverse, List.length_replicate, aN]; omega), jO, hk, show (bA M + 7) / 8 - 1 - i = k by omega, tp, ← List.reverse_concat, ← ig] at hh
   refine aK (a3 (aj (au ?_)))
   refine bO (mI (aK (aj ?_)))
   refine ⟨⟨i + 1, by omega, rfl, by rw [show (bA M + 7) / 8 - (i + 1) = k by omega]; exact hh⟩, by show (bA M + 7) / 8 - (i + 1) < (bA M + 7) / 8 - i; omega, ?_⟩
   (repeat (first | exact aA _ _ _ | refine aE rfl ?_ | refine ax rfl ?_))
  ·obtain rfl : i = (bA M + 7) / 8 := by omega
   have hfin : eZ (List.replicate ((bA M + 7) / 8 - (bA M + 7) / 8) 0 ++ (bF 256 ((bA M + 7) / 8) M).reverse) = j6 (sb M) := by
    rw [Nat.sub_self, List.replicate_zero, List.nil_append, ← hlen]
    have h1 : M < 256 ^ (aT 256 M).length := jL (by omega) M
    rw [qY (by omega) h1, Nat.sub_self, List.replicate_zero, List.append_nil, oT (fun d hd => (dg (B := 256) (by omega) M).1 d (List.mem_reverse.1 hd)), sb, List.map_reverse]
   rw [hfin] at hh
   refine sr ?_
   refine aZ (aa (ai (cF ?_)))
   refine a4 ?_
   refine aD (aD (bp (aj (sr (mL ?_)))))
   refine jl aJ.out aJ.out aJ.out rfl (hh.az (i := 0) rfl) (by decide) ?_
   refine aS (aa (ao ?_))
   refine cd ?_
   exact ⟨rfl, hh.below⟩
theorem jZ (A : Option Addr) (n c m : Nat) (xs : List Nat) (w : World) (hx : Sl w A n 1 (cu xs)) (hn : n ≤ 10000000000) (hm : m ≤ 10000000000) :
  Calls Tryz.prog 243 #[.slice A n c, .int .i64 m] w fun e w' => ∃ b, e = .returned (.slice (some ⟨b, 0, none⟩) (max m n) (max m n)) ∧ w'.ownsRow w.heap.size 195 1 (.slice (some ⟨b, 0, none⟩) (max m n) (max m n)) (max m n) (cu (xs ++ List.replicate (max m n - n) 0)) ∧ Below w.heap.size w w' := by
 have hl := hx.1
 rw [aQ] at hl
 have hh := Hp.start w
 refine ak (N := 15) (l := [.slice A n c, .int .i64 m]) Tryz.func243 rfl rfl (by simp) ?_
 refine sr (aL (aa (sr (mI (mL (a5 ?_))))))
 refine jc rfl rfl (by decide) ?_
 refine fH (n := max m n) hh rfl rfl (by omega) (by omega) aJ.out aC.out rfl (by omega) (by omega) (by decide) ?_
 intro b10 w10 hh
 refine aL (aa (sr (mL (mL ?_))))
 rw [kQ] at hh
 refine xz hh (i := 0) (o := 0) rfl rfl rfl (hx.ext hh.below) aJ.out aC.out (by rw [aQ, List.length_replicate]; omega) (cU _) (by decide) ?_
 intro w13 hh
 skip
 have e1 : bV (cu (List.replicate (max m n) 0)) 0 ((cu xs).take (min n (max m n) * 1)) = cu (xs ++ List.replicate (max m n - n) 0) := by
  rw [List.take_of_length_le (by rw [aQ]; omega), bV, List.take_zero, List.nil_append, aQ, ← o6, ← q8, List.drop_replicate]
  congr 3
  omega
 simp only [List.set_cons_zero, e1] at hh
 refine aa (sr (mL (aL (aa (ao ?_)))))
 refine cd ?_
 exact ⟨_, rfl, hh.at_ (i := 0) rfl, hh.below⟩
theorem ki (A B : Option Addr) (n c m c' : Nat) (xs ys : List Nat) (w : World) (hx : Sl w A n 1 (cu xs)) (hy : Sl w B m 1 (cu ys)) (hdx : Dg 18446744073709551616 xs) (hdy : Dg 18446744073709551616 ys) (hc : n ≤ c) (hc' : m ≤ c') (hn : n ≤ 100000000000) (hm : m ≤ 100000000000) :
  Calls Tryz.prog 246 #[.slice A n c, .slice B m c'] w fun e w' => e = .returned (.int .i64 (im (bk 18446744073709551616 xs) (bk 18446744073709551616 ys))) ∧ Below w.heap.size w w' := by
 have hlx := hx.1
 have hly := hy.1
 rw [aQ] at hlx hly
 have hcx := hx.pX
 have hcy := hy.pX
 have hxl := er xs
 have hyl := er ys
 have hx2 := Can.cut hdx
 have hy2 := Can.cut hdy
 have hh := Hp.start w
 rw [← iu xs, ← iu ys]
 refine ak (N := 47) (l := [.slice A n c, .slice B m c']) Tryz.func246 rfl rfl (by simp) ?_
 refine sr (aI (aa (sr (mL ?_))))
 refine bE hh (fB _ _ _ xs _ hx hc (by omega)) rfl ?_
 intro w7 hh
 refine mL ?_
 refine bE hh (fB _ _ _ ys _ (hy.ext hh.below) hc' (by omega)) rfl ?_
 intro w9 hh
 generalize di xs = us at *
 generalize di ys = vs at *
 by_cases hlen : us.length = vs.length
 ·refine aL (aL (aa (ai (sr (mL (a5 (mL (a5 ?_))))))))
  refine dR (aa (cF (al (aj (ai (sr (mL (a5 ?_))))))))
  refine fp (aI (aa (aq ?_)))
  refine bD [4, 5, 23, 24, 25, 26, 27, 28, 29, 30, 31, 32, 33, 34, 35, 36, 37, 38, 39, 40, 41, 42, 43, 44, 45, 46] 5
   (fun v w' => ∃ k : Nat, k ≤ us.length ∧ v = .int .i64 ((k : Int) - 1) ∧ us.drop k = vs.drop k ∧ Hp w [] w')
   (fun v _ => (intOf v + 1).toNat) ?_ ?_
  ·exact ⟨us.length, Nat.le_refl _, rfl, by rw [List.drop_length, List.drop_eq_nil_of_le (by omega)], hh⟩
  ·clear hh
   rintro ρ' v w' ⟨k, hk, rfl, hd, hh⟩
   by_cases h0 : k = 0
   ·subst h0
    refine ai (sr (mI ?_))
    refine dx (aa (cF ?_))
    refine a4 ?_
    refine aD (aD (bp (aj (sr (aI (aa (ao ?_)))))))
    refine cd ?_
    rw [List.drop_zero, List.drop_zero] at hd
    rw [hd]
    exact ⟨by rw [uf rfl], hh.below⟩
   ·obtain ⟨j, rfl⟩ : ∃ j, k = j + 1 := ⟨k - 1, by omega⟩
    obtain ⟨x, hxj⟩ := aR (l := us) (k := j) (by omega)
    obtain ⟨y, hyj⟩ := aR (l := vs) (k := j) (by omega)
    obtain ⟨ad, rfl, hr⟩ := hcx.at_ (by omega)
    obtain ⟨ad2, rfl, hs⟩ := hcy.at_ (by omega)
    have hx3 := dH hxj
    have hy3 := dH hyj
    by_cases hlt : x < y
    ·have hf := oO hx2.1 hxj hyj hd hlt
     refine ai (sr (mI ?_))
     refine dx (aa (cT (al (aj (ai (aq (aq (ai ?_))))))))
     refine bf 8 [[(0, none)], [(5, none)], [(28, some 0), (29, some 1)], [(30, some 2)], [(1, none)], [(5, none)], [(32, some 4), (33, some 5)], [(34, some 6)]] [(7, 35), (6, 34), (5, 33), (4, 32), (3, 31), (2, 30), (1, 29), (0, 28)] hh mixed (by kernel_rfl) ?_
     refine iB ?_
     refine fe ?_
     refine lY (j) ?_
     refine lf (fun _ hj => (hr.ext hj.hp.below).mg hx3) ?_
     refine iB ?_
     refine fe ?_
     refine lY (j) ?_
     refine lf (fun _ hj => (hs.ext hj.hp.below).mg hy3) ?_
     refine bo ?_
     intro f W hJ hV
     have hb_9 := hJ.bl
     obtain ⟨v35, v34, v33, v32, v31, v30, v29, v28, _⟩ := hV
     replace hh := hJ.hp
     refine a7 (bu (ah v35 (ah v34 (ah v33 (ah v32 (ah v31 (ah v30 (ah v29 (ah v28 a6))))))))) ?_
     dsimp only [cJ]
     clear hJ
     refine aZ (aB (aa (cT (sr (aI (aa (ao (bU (bU (aM (aM ?_)))))))))))
     refine bU (aM ?_)
     refine cd ?_
     exact ⟨by rw [iK hf], hh.below⟩
    ·by_cases hgt : y < x
     ·have hf := oO hy2.1 hyj hxj hd.symm hgt
      refine ai (sr (mI ?_))
      refine dx (aa (cT (al (aj (ai (aq (aq (ai ?_))))))))
      refine bf 8 [[(0, none)], [(5, none)], [(28, some 0), (29, some 1)], [(30, some 2)], [(1, none)], [(5, none)], [(32, some 4), (33, some 5)], [(34, some 6)]] [(7, 35), (6, 34), (5, 33), (4, 32), (3, 31), (2, 30), (1, 29), (0, 28)] hh mixed (by kernel_rfl) ?_
      refine iB ?_
      refine fe ?_
      refine lY (j) ?_
      refine lf (fun _ hj => (hr.ext hj.hp.below).mg hx3) ?_
      refine iB ?_
      refine fe ?_
      refine lY (j) ?_
      refine lf (fun _ hj => (hs.ext hj.hp.below).mg hy3) ?_
      refine bo ?_
      intro f W hJ hV
      have hb_9 := hJ.bl
      obtain ⟨v35, v34, v33, v32, v31, v30, v29, v28, _⟩ := hV
      replace hh := hJ.hp
      refine a7 (bu (ah v35 (ah v34 (ah v33 (ah v32 (ah v31 (ah v30 (ah v29 (ah v28 a6))))))))) ?_
      dsimp only [cJ]
      clear hJ
      refine aZ (aB (aa (cF (ai ?_))))
      refine bf 8 [[(0, none)], [(5, none)], [(38, some 0), (39, some 1)], [(40, some 2)], [(1, none)], [(5, none)], [(42, some 4), (43, some 5)], [(44, some 6)]] [(7, 45), (6, 44), (5, 43), (4, 42), (3, 41), (2, 40), (1, 39), (0, 38)] hh mixed (by kernel_rfl) ?_
      refine iB ?_
      refine fe ?_
      refine lY (j) ?_
      refine lf (fun _ hj => (hr.ext hj.hp.below).mg hx3) ?_
      refine iB ?_
      refine fe ?_
      refine lY (j) ?_
      refine lf (fun _ hj => (hs.ext hj.hp.below).mg hy3) ?_
      refine bo ?_
      intro f W hJ hV
      have hb_11 := hJ.bl
      obtain ⟨v45, v44, v43, v42, v41, v40, v39, v38, _⟩ := hV
      replace hh := hJ.hp
      refine a7 (bu (ah v45 (ah v44 (ah v43 (ah v42 (ah v41 (ah v40 (ah v39 (ah v38 a6))))))))) ?_
      dsimp only [cJ]
      clear hJ
      refine cg (aB (aa (cT (sr (aI (aa (ao (bU (bU (aM (aM ?_)))))))))))
      refine bU (aM ?_)
      refine cd ?_
      exact ⟨by rw [qk hf], hh.below⟩
     ·refine ai (sr (mI ?_))
      refine dx (aa (cT (al (aj (ai (aq (aq (ai ?_))))))))
      refine bf 8 [[(0, none)], [(5, none)], [(28, some 0), (29, some 1)], [(30, some 2)], [(1, none)], [(5, none)], [(32, some 4), (33, some 5)], [(34, some 6)]] [(7, 35), (6, 34), (5, 33), (4, 32), (3, 31), (2, 30), (1, 29), (0, 28)] hh mixed (by kernel_rfl) ?_
      refine iB ?_
      refine fe ?_
      refine lY (j) ?_
      refine lf (fun _ hj => (hr.ext hj.hp.below).mg hx3) ?_
      refine iB ?_
      refine fe ?_
      refine lY (j) ?_
      refine lf (fun _ hj => (hs.ext hj.hp.below).mg hy3) ?_
      refine bo ?_
      intro f W hJ hV
      have hb_9 := hJ.bl
      obtain ⟨v35, v34, v33, v32, v31, v30, v29, v28, _⟩ := hV
      replace hh := hJ.hp
      refine a7 (bu (ah v35 (ah v34 (ah v33 (ah v32 (ah v31 (ah v30 (ah v29 (ah v28 a6))))))))) ?_
      dsimp only [cJ]
      clear hJ
      refine aZ (aB (aa (cF (ai ?_))))
      refine bf 8 [[(0, none)], [(5, none)], [(38, some 0), (39, some 1)], [(40, some 2)], [(1, none)], [(5, none)], [(42, some 4), (43, some 5)], [(44, some 6)]] [(7, 45), (6, 44), (5, 43), (4, 42), (3, 41), (2, 40), (1, 39), (0, 38)] hh mixed (by kernel_rfl) ?_
      refine iB ?_
      refine fe ?_
      refine lY (j) ?_
      refine lf (fun _ hj => (hr.ext hj.hp.below).mg hx3) ?_
      refine iB ?_
      refine fe ?_
      refine lY (j) ?_
      refine lf (fun _ hj => (hs.ext hj.hp.below).mg hy3) ?_
      refine bo ?_
      intro f W hJ hV
      have hb_11 := hJ.bl
      obtain ⟨v45, v44, v43, v42, v41, v40, v39, v38, _⟩ := hV
      replace hh := hJ.hp
      refine a7 (bu (ah v45 (ah v44 (ah v43 (ah v42 (ah v41 (ah v40 (ah v39 (ah v38 a6))))))))) ?_
      dsimp only [cJ]
      clear hJ
      refine cg (aB (aa (cF (al (a3 (a3 (aj (au (mI ?_)))))))))
      refine fp (aI (aK (aj ?_)))
      refine ⟨⟨j, by omega, by show Value.int _ _ = Value.int _ _; congr 1; omega, pQ hxj hyj hd (by omega), hh⟩, by show ((((j + 1 : Nat) : Int) - 1 - 1) + 1).toNat < ((((j + 1 : Nat) : Int) - 1) + 1).toNat; omega, ?_⟩
      (repeat (first | exact aA _ _ _ | refine aE rfl ?_ | refine ax rfl ?_))
 ·by_cases hlt : us.length < vs.length
  ·have hf : bk 18446744073709551616 us < bk 18446744073709551616 vs := by
    refine Nat.lt_of_not_le fun h => ?_
    have := hy2.mU hx2 (by omega) h
    omega
   refine aL (aL (aa (ai (sr (mL (a5 (mL (a5 ?_))))))))
   refine dR (aa (cT (ai (sr (mL (a5 (mL (a5 ?_))))))))
   refine aZ (aa (cT (sr (aI (aa (ao (aM (aM ?_))))))))
   refine cd ?_
   exact ⟨by rw [iK hf], hh.below⟩
  ·have hf : bk 18446744073709551616 vs < bk 18446744073709551616 us := by
    refine Nat.lt_of_not_le fun h => ?_
    have := hx2.mU hy2 (by omega) h
    omega
   refine aL (aL (aa (ai (sr (mL (a5 (mL (a5 ?_))))))))
   refine dR (aa (cT (ai (sr (mL (a5 (mL (a5 ?_))))))))
   refine aZ (aa (cF (al (aj (sr (aI (aa (ao (aM ?_)))))))))
   refine cd ?_
   exact ⟨by rw [qk hf], hh.below⟩
end Go.Proofs.YtkgdagjklakajaaGreatDoor
namespace Go.Proofs.YtkgdagjklakajaaGreatDoor
open Go.RowKit
theorem Ah {y m : Nat} (hy : y < 18446744073709551616) (hm : m < 18446744073709551616) : y * m ≤ 340282366920938463426481119284349108225 := Nat.mul_le_mul (by omega : y ≤ 18446744073709551615) (by omega : m ≤ 18446744073709551615)
theorem pk {x y m c P : Nat} (hx : x < 18446744073709551616) (hc : c < 18446744073709551616) (hP : P ≤ 340282366920938463426481119284349108225) (he : P = y * m) :
  (x + (P % 18446744073709551616 + c + 0) % 18446744073709551616 + 0) % 18446744073709551616 = (x + y * m + c) % 18446744073709551616 ∧ ((P / 18446744073709551616 + (P % 18446744073709551616 + c + 0) / 18446744073709551616) % 18446744073709551616 + (x + (P % 18446744073709551616 + c + 0) % 18446744073709551616 + 0) / 18446744073709551616) % 18446744073709551616 = (x + y * m + c) / 18446744073709551616 ∧ (x + y * m + c) / 18446744073709551616 < 18446744073709551616 := by
 rw [← he]
 omega
theorem rP {w0 : World} {H : List HE} {b M C c' ny cy m : Nat} {Y : Option Addr} (pre xs post ys : List Nat) (w : World) (hh : Hp w0 (.row (some ⟨b, 0, none⟩) M C 195 1 (cu (pre ++ xs ++ post)) :: H) w)
  (hy : ∀ w1 cs, Hp w0 (.row (some ⟨b, 0, none⟩) M C 195 1 cs :: H) w1 → Sl w1 Y ny 1 (cu ys)) (hxd : Dg 18446744073709551616 xs) (hyd : Dg 18446744073709551616 ys) (hm : m < 18446744073709551616) (hM : xs.length ≤ 100000000000) (hny : ny ≤ 100000000000) :
  Calls Tryz.prog 249 #[.slice (some ⟨b, pre.length, none⟩) xs.length c', .slice Y ny cy, .int .u64 (m : Int)] w fun e w' => e = .returned (.tuple #[]) ∧ Hp w0 (.row (some ⟨b, 0, none⟩) M C 195 1 (cu (pre ++ fc 18446744073709551616 xs ys m 0 ++ post)) :: H) w' := by
 have hly := (hy _ _ hh).1
 rw [aQ] at hly
 refine ak (N := 56) (l := [.slice (some ⟨b, pre.length, none⟩) xs.length c', .slice Y ny cy, .int .u64 (m : Int)]) Tryz.func249 rfl rfl (by simp) ?_
 refine sr (aI (aa (sr (mL (a5 (mI (aa (aq ?_))))))))
 refine cY [6, 7, 8, 9, 10, 11, 14, 15, 16, 17, 18, 19, 20, 21, 22, 23, 24, 25, 26, 27, 28, 29, 30, 31, 32, 33, 34, 35, 36, 37, 38, 39, 40, 41, 42, 43, 44, 45, 46, 47, 48, 49, 50, 51, 52, 53, 54, 55] 6 14
  (fun c i w' => ∃ (done rest : List Nat) (cr : Nat), done.length + rest.length = xs.length ∧ i = .int .i64 done.length ∧ c = .int .u64 (cr : Int) ∧ cr < 18446744073709551616 ∧ Dg 18446744073709551616 rest ∧ done ++ fc 18446744073709551616 rest (ys.drop done.length) m cr = fc 18446744073709551616 xs ys m 0 ∧ Hp w0 (.row (some ⟨b, 0, none⟩) M C 195 1 (cu (pre ++ (done ++ rest) ++ post)) :: H) w')
  (fun _ i _ => xs.length - (intOf i).toNat) ?_ ?_
 ·exact ⟨[], xs, 0, by simp, rfl, rfl, by omega, hxd, rfl, hh⟩
 ·clear hh
  rintro ρ' c i w' ⟨done, rest, cr, hlen, rfl, rfl, hcr, hrd, heq, hh⟩
  by_cases hlt : done.length < xs.length
  ·obtain ⟨x, r, rfl⟩ : ∃ x r, rest = x :: r := by
    cases rest with
    | nil => simp at hlen; omega
    | cons x r => exact ⟨x, r, rfl⟩
   have hx := hrd.head
   have hg := dH (pq (pre := pre) (done := done) (r := r) (post := post) (x := x))
   have hlr : done.length + (r.length + 1) = xs.length := by simpa using hlen
   simp only [fc, tail_drop, nL] at heq
   by_cases hiy : done.length < ny
   ·obtain ⟨y, hyk⟩ := aR (l := ys) (k := done.length) (by omega)
    obtain ⟨ad, rfl, _⟩ := (hy _ _ hh).at_ (by omega)
    rw [hyk, Option.getD_some] at heq
    have hyw := hyd.at_ hyk
    refine sr ?_
    refine aZ (aa (ai (cT (al (aj (ai (aq (sr (mI (aI (aa ?_)))))))))))
    refine sr (aI (aa (ai (sr (mI (mL (a5 ?_)))))))
    refine aZ (aa (cT (au (mL (mI ?_)))))
    refine a0 (k := done.length) aJ.out aC.size rfl rfl (by omega) (by omega) (by decide) ?_
    refine bJ aC.out rfl ((hy _ _ hh).zI hyk) (by decide) ?_
    refine aI (aa (sr (mI (mI ?_))))
    obtain ⟨p1, p2, p3⟩ := pk (y := y) (m := m) hx hcr (Ah hyw hm) rfl
    refine bE hh (lU y m _ hyw hm) rfl ?_
    intro w28 hh
    refine mT ?_
    refine cM ?_
    refine cM ?_
    refine aI (aI (aa (sr (mI (mI ?_)))))
    refine hU (gr (y * m % 18446744073709551616) cr 0 (by omega) _) (aF (bI rfl) (aF (bI rfl) (aF rfl bj))) (by decide) ?_
    refine mT ?_
    refine cM ?_
    refine cM ?_
    refine aI (aI (aa (sr (mI (mI ?_)))))
    refine fQ rfl rfl (by decide) ?_
    refine aI (aa (sr (mL (mI (mL (mI ?_))))))
    refine dn aJ.out aC.size rfl rfl rfl (by omega) (by decide) ?_
    refine bJ aC.out rfl (hh.cE (i := 0) rfl (by first | assumption | (simp only [Nat.mul_one]; assumption))) (by decide) ?_
    refine mI ?_
    refine hU (gr x ((y * m % 18446744073709551616 + cr + 0) % 18446744073709551616) 0 (by omega) _) (aF (bI rfl) (aF (bI rfl) (aF rfl bj))) (by decide) ?_
    refine mT ?_
    refine cM ?_
    refine cM ?_
    refine dn (k := done.length) aJ.out aC.size rfl rfl (by omega) (by omega) (by decide) ?_
    refine br hh (i := 0) (vs := [_]) rfl rfl (bI rfl) rfl aC.out rfl (by rw [aQ]; simp only [List.length_append, List.length_cons]; omega) rfl ?_
    intro ws hh
    simp only [List.set_cons_zero] at hh
    rw [p1, Nat.mul_one, bX (by rw [aQ]; simp only [List.length_append, List.length_cons]; omega), eG, jB] at hh
    refine aI (aa (au (mI (mI ?_))))
    refine fQ rfl rfl (by decide) ?_
    refine aI (aK (a3 (aj (au ?_))))
    refine bO (mI (aK (aj ?_)))
    rw [p2]
    refine ⟨⟨done ++ [(x + y * m + cr) % 18446744073709551616], r, _, by simp; omega, by rw [List.length_append]; rfl, rfl, p3, hrd.tail, ?_, hh⟩, by show xs.length - (done.length + 1) < xs.length - done.length; omega, ?_⟩
    ·rw [← heq, List.append_assoc, List.length_append]; rfl
    (repeat (first | exact aA _ _ _ | refine aE rfl ?_ | refine ax rfl ?_))
   ·rw [List.getElem?_eq_none (by omega), Option.getD_none] at heq
    have h0w : (0 : Nat) < 18446744073709551616 := by omega
    refine sr ?_
    refine aZ (aa (ai (cT (al (aj (ai (aq (sr (mI (aI (aa ?_)))))))))))
    refine sr (aI (aa (ai (sr (mI (mL (a5 ?_)))))))
    refine aZ (aa (cF (al (aj (sr (mI (mI ?_)))))))
    obtain ⟨p1, p2, p3⟩ := pk (y := 0) (m := m) hx hcr (Ah h0w hm) rfl
    refine bE hh (lU 0 m _ h0w hm) rfl ?_
    intro w28 hh
    refine mT ?_
    refine cM ?_
    refine cM ?_
    refine aI (aI (aa (sr (mI (mI ?_)))))
    refine hU (gr (0 * m % 18446744073709551616) cr 0 (by omega) _) (aF (bI rfl) (aF (bI rfl) (aF rfl bj))) (by decide) ?_
    refine mT ?_
    refine cM ?_
    refine cM ?_
    refine aI (aI (aa (sr (mI (mI ?_)))))
    refine fQ rfl rfl (by decide) ?_
    refine aI (aa (sr (mL (mI (mL (mI ?_))))))
    refine dn aJ.out aC.size rfl rfl rfl (by omega) (by decide) ?_
    refine bJ aC.out rfl (hh.cE (i := 0) rfl (by first | assumption | (simp only [Nat.mul_one]; assumption))) (by decide) ?_
    refine mI ?_
    refine hU (gr x ((0 * m % 18446744073709551616 + cr + 0) % 18446744073709551616) 0 (by omega) _) (aF (bI rfl) (aF (bI rfl) (aF rfl bj))) (by decide) ?_
    refine mT ?_
    refine cM ?_
    refine cM ?_
    refine dn (k := done.length) aJ.out aC.size rfl rfl (by omega) (by omega) (by decide) ?_
    refine br hh (i := 0) (vs := [_]) rfl rfl (bI rfl) rfl aC.out rfl (by rw [aQ]; simp only [List.length_append, List.length_cons]; omega) rfl ?_
    intro ws hh
    simp only [List.set_cons_zero] at hh
    rw [p1, Nat.mul_one, bX (by rw [aQ]; simp only [List.length_append, List.length_cons]; omega), eG, jB] at hh
    refine aI (aa (au (mI (mI ?_))))
    refine fQ rfl rfl (by decide) ?_
    refine aI (aK (a3 (aj (au ?_))))
    refine bO (mI (aK (aj ?_)))
    rw [p2]
    refine ⟨⟨done ++ [(x + 0 * m + cr) % 18446744073709551616], r, _, by simp; omega, by rw [List.length_append]; rfl, rfl, p3, hrd.tail, ?_, hh⟩, by show xs.length - (done.length + 1) < xs.length - done.length; omega, ?_⟩
    ·rw [← heq, List.append_assoc, List.length_append]; rfl
    (repeat (first | exact aA _ _ _ | refine aE rfl ?_ | refine ax rfl ?_))
  ·have hr0 : rest = [] := List.eq_nil_of_length_eq_zero (by omega)
   subst hr0
   refine sr ?_
   refine aZ (aa (ai (cF ?_)))
   refine a4 ?_
   refine aD (aD (bp ?_))
   refine Al (by first | exact .inr rfl | exact .inl rfl) rfl  ?_
   rw [List.append_nil, fc, List.append_nil] at *
   rw [← heq]
   exact ⟨rfl, hh⟩
theorem qP {w0 : World} {H : List HE} {b M C c' ny cy : Nat} {Y : Option Addr} (pre xs post ys : List Nat) (w : World) (hh : Hp w0 (.row (some ⟨b, 0, none⟩) M C 195 1 (cu (pre ++ xs ++ post)) :: H) w)
  (hy : ∀ w1 cs, Hp w0 (.row (some ⟨b, 0, none⟩) M C 195 1 cs :: H) w1 → Sl w1 Y ny 1 (cu ys)) (hxd : Dg 18446744073709551616 xs) (hyd : Dg 18446744073709551616 ys) (hM : xs.length ≤ 100000000000) (hny : ny ≤ 100000000000) (hsub : rn 18446744073709551616 xs ys 0 = 0) :
  Calls Tryz.prog 247 #[.slice (some ⟨b, pre.length, none⟩) xs.length c', .slice Y ny cy] w fun e w' => e = .returned (.bool true) ∧ Hp w0 (.row (some ⟨b, 0, none⟩) M C 195 1 (cu (pre ++ mb 18446744073709551616 xs ys 0 ++ post)) :: H) w' := by
 have hly := (hy _ _ hh).1
 rw [aQ] at hly
 refine ak (N := 37) (l := [.slice (some ⟨b, pre.length, none⟩) xs.length c', .slice Y ny cy]) Tryz.func247 rfl rfl (by simp) ?_
 refine sr (aB (aa (sr (aI (aa (ai (sr (mL (a5 (mI (aa ?_)))))))))))
 refine aq ?_
 refine cY [5, 6, 7, 10, 11, 12, 13, 14, 15, 16, 17, 18, 19, 20, 21, 22, 23, 24, 25, 26, 27, 28, 29, 30, 31, 32, 33, 34] 5 10
  (fun c i w' => ∃ (done rest : List Nat) (cr : Nat), done.length + rest.length = xs.length ∧ i = .int .i64 done.length ∧ c = .int .u64 (cr : Int) ∧ cr ≤ 1 ∧ Dg 18446744073709551616 rest ∧ done ++ mb 18446744073709551616 rest (ys.drop done.length) cr = mb 18446744073709551616 xs ys 0 ∧ rn 18446744073709551616 rest (ys.drop done.length) cr = 0 ∧ Hp w0 (.row (some ⟨b, 0, none⟩) M C 195 1 (cu (pre ++ (done ++ rest) ++ post)) :: H) w')
  (fun _ i _ => xs.length - (intOf i).toNat) ?_ ?_
 ·exact ⟨[], xs, 0, by simp, rfl, rfl, by omega, hxd, rfl, hsub, hh⟩
 ·clear hh
  rintro ρ' c i w' ⟨done, rest, cr, hlen, rfl, rfl, hcr, hrd, heq, hsb, hh⟩
  by_cases hlt : done.length < xs.length
  ·obtain ⟨x, r, rfl⟩ : ∃ x r, rest = x :: r := by
    cases rest with
    | nil => simp at hlen; omega
    | cons x r => exact ⟨x, r, rfl⟩
   have hx := hrd.head
   have hg := dH (pq (pre := pre) (done := done) (r := r) (post := post) (x := x))
   have hlr : done.length + (r.length + 1) = xs.length := by simpa using hlen
   simp only [mb, rn, tail_drop, nL] at heq hsb
   by_cases hiy : done.length < ny
   ·obtain ⟨y, hyk⟩ := aR (l := ys) (k := done.length) (by omega)
    obtain ⟨ad, rfl, _⟩ := (hy _ _ hh).at_ (by omega)
    rw [hyk, Option.getD_some] at heq hsb
    have hyw := hyd.at_ hyk
    refine sr ?_
    refine aZ (aa (ai (cT (al (aj (ai (aq (sr (mI (aI (aa ?_)))))))))))
    refine sr (aI (aa (ai (sr (mI (mL (a5 ?_)))))))
    refine aZ (aa (cT (au (mL (mI ?_)))))
    refine a0 (k := done.length) aJ.out aC.size rfl rfl (by omega) (by omega) (by decide) ?_
    refine bJ aC.out rfl ((hy _ _ hh).zI hyk) (by decide) ?_
    refine aI (aa (au (mL (mI (mL (mI ?_))))))
    refine dn (k := done.length) aJ.out aC.size rfl rfl (by omega) (by omega) (by decide) ?_
    refine bJ aC.out rfl (hh.cE (i := 0) rfl (by first | assumption | (simp only [Nat.mul_one]; assumption))) (by decide) ?_
    refine mI (mI ?_)
    refine hU (pd x y cr hcr _) (aF (bI rfl) (aF (bI rfl) (aF (bI rfl) bj))) (by decide) ?_
    refine mT ?_
    refine cM ?_
    refine cM ?_
    refine dn (k := done.length) aJ.out aC.size rfl rfl (by omega) (by omega) (by decide) ?_
    refine br hh (i := 0) (vs := [_]) rfl rfl (bI rfl) rfl aC.out rfl (by rw [aQ]; simp only [List.length_append, List.length_cons]; omega) rfl ?_
    intro ws hh
    simp only [List.set_cons_zero] at hh
    rw [Nat.mul_one, bX (by rw [aQ]; simp only [List.length_append, List.length_cons]; omega), eG, jB] at hh
    refine aI (aK (a3 (aj (au ?_))))
    refine bO (mI (aK (aj ?_)))
    refine ⟨⟨done ++ [(x + 18446744073709551616 - y - cr) % 18446744073709551616], r, _, by simp; omega, by rw [List.length_append]; rfl, rfl, by split <;> omega, hrd.tail, ?_, ?_, hh⟩, by show xs.length - (done.length + 1) < xs.length - done.length; omega, ?_⟩
    ·rw [← heq, List.append_assoc, List.length_append]; rfl
    ·rw [List.length_append]; exact hsb
    (repeat (first | exact aA _ _ _ | refine aE rfl ?_ | refine ax rfl ?_))
   ·rw [List.getElem?_eq_none (by omega), Option.getD_none] at heq hsb
    refine sr ?_
    refine aZ (aa (ai (cT (al (aj (ai (aq (sr (mI (aI (aa ?_)))))))))))
    refine sr (aI (aa (ai (sr (mI (mL (a5 ?_)))))))
    refine aZ (aa (cF (al (aj (au (mL (mI (mL (mI ?_)))))))))
    refine dn (k := done.length) aJ.out aC.size rfl rfl (by omega) (by omega) (by decide) ?_
    refine bJ aC.out rfl (hh.cE (i := 0) rfl (by first | assumption | (simp only [Nat.mul_one]; assumption))) (by decide) ?_
    refine mI (mI ?_)
    refine hU (pd x 0 cr hcr _) (aF (bI rfl) (aF (bI rfl) (aF (bI rfl) bj))) (by decide) ?_
    refine mT ?_
    refine cM ?_
    refine cM ?_
    refine dn (k := done.length) aJ.out aC.size rfl rfl (by omega) (by omega) (by decide) ?_
    refine br hh (i := 0) (vs := [_]) rfl rfl (bI rfl) rfl aC.out rfl (by rw [aQ]; simp only [List.length_append, List.length_cons]; omega) rfl ?_
    intro ws hh
    simp only [List.set_cons_zero] at hh
    rw [Nat.mul_one, bX (by rw [aQ]; simp only [List.length_append, List.length_cons]; omega), eG, jB] at hh
    refine aI (aK (a3 (aj (au ?_))))
    refine bO (mI (aK (aj ?_)))
    refine ⟨⟨done ++ [(x + 18446744073709551616 - 0 - cr) % 18446744073709551616], r, _, by simp; omega, by rw [List.length_append]; rfl, rfl, by split <;> omega, hrd.tail, ?_, ?_, hh⟩, by show xs.length - (done.length + 1) < xs.length - done.length; omega, ?_⟩
    ·rw [← heq, List.append_assoc, List.length_append]; rfl
    ·rw [List.length_append]; exact hsb
    (repeat (first | exact aA _ _ _ | refine aE rfl ?_ | refine ax rfl ?_))
  ·have hr0 : rest = [] := List.eq_nil_of_length_eq_zero (by omega)
   subst hr0
   obtain rfl : cr = 0 := hsb
   refine sr ?_
   refine aZ (aa (ai (cF ?_)))
   refine a4 ?_
   refine aD (aD (bp (aj (sr (mI ?_)))))
   refine cI (aB (aa (ao ?_)))
   refine cd ?_
   rw [List.append_nil, mb, List.append_nil] at *
   rw [← heq]
   exact ⟨rfl, hh⟩
theorem r8 {w0 : World} {H : List HE} {b M C c' ny cy : Nat} {Y : Option Addr} (pre xs post ys : List Nat) (w : World) (hh : Hp w0 (.row (some ⟨b, 0, none⟩) M C 195 1 (cu (pre ++ xs ++ post)) :: H) w)
  (hy : ∀ w1 cs, Hp w0 (.row (some ⟨b, 0, none⟩) M C 195 1 cs :: H) w1 → Sl w1 Y ny 1 (cu ys)) (hxd : Dg 18446744073709551616 xs) (hyd : Dg 18446744073709551616 ys) (hM : xs.length ≤ 100000000000) (hny : ny ≤ 100000000000) :
  Calls Tryz.prog 244 #[.slice (some ⟨b, pre.length, none⟩) xs.length c', .slice Y ny cy] w fun e w' => e = .returned (.tuple #[]) ∧ Hp w0 (.row (some ⟨b, 0, none⟩) M C 195 1 (cu (pre ++ fc 18446744073709551616 xs ys 1 0 ++ post)) :: H) w' := by
 have hly := (hy _ _ hh).1
 rw [aQ] at hly
 refine ak (N := 34) (l := [.slice (some ⟨b, pre.length, none⟩) xs.length c', .slice Y ny cy]) Tryz.func244 rfl rfl (by simp) ?_
 refine sr (aI (aa (sr (mL (a5 (mI (aa (aq ?_))))))))
 refine cY [4, 5, 6, 9, 10, 11, 12, 13, 14, 15, 16, 17, 18, 19, 20, 21, 22, 23, 24, 25, 26, 27, 28, 29, 30, 31, 32, 33] 4 9
  (fun c i w' => ∃ (done rest : List Nat) (cr : Nat), done.length + rest.length = xs.length ∧ i = .int .i64 done.length ∧ c = .int .u64 (cr : Int) ∧ cr ≤ 1 ∧ Dg 18446744073709551616 rest ∧ done ++ fc 18446744073709551616 rest (ys.drop done.length) 1 cr = fc 18446744073709551616 xs ys 1 0 ∧ Hp w0 (.row (some ⟨b, 0, none⟩) M C 195 1 (cu (pre ++ (done ++ rest) ++ post)) :: H) w')
  (fun _ i _ => xs.length - (intOf i).toNat) ?_ ?_
 ·exact ⟨[], xs, 0, by simp, rfl, rfl, by omega, hxd, rfl, hh⟩
 ·clear hh
  rintro ρ' c i w' ⟨done, rest, cr, hlen, rfl, rfl, hcr, hrd, heq, hh⟩
  by_cases hlt : done.length < xs.length
  ·obtain ⟨x, r, rfl⟩ : ∃ x r, rest = x :: r := by
    cases rest with
    | nil => simp at hlen; omega
    | cons x r => exact ⟨x, r, rfl⟩
   have hx := hrd.head
   have hg := dH (pq (pre := pre) (done := done) (r := r) (post := post) (x := x))
   have hlr : done.length + (r.length + 1) = xs.length := by simpa using hlen
   simp only [fc, tail_drop, nL, Nat.mul_one] at heq
   by_cases hiy : done.length < ny
   ·obtain ⟨y, hyk⟩ := aR (l := ys) (k := done.length) (by omega)
    obtain ⟨ad, rfl, _⟩ := (hy _ _ hh).at_ (by omega)
    rw [hyk, Option.getD_some] at heq
    have hyw := hyd.at_ hyk
    refine sr ?_
    refine aZ (aa (ai (cT (al (aj (ai (aq (sr (mI (aI (aa ?_)))))))))))
    refine sr (aI (aa (ai (sr (mI (mL (a5 ?_)))))))
    refine aZ (aa (cT (au (mL (mI ?_)))))
    refine a0 (k := done.length) aJ.out aC.size rfl rfl (by omega) (by omega) (by decide) ?_
    refine bJ aC.out rfl ((hy _ _ hh).zI hyk) (by decide) ?_
    refine aI (aa (au (mL (mI (mL (mI ?_))))))
    refine dn (k := done.length) aJ.out aC.size rfl rfl (by omega) (by omega) (by decide) ?_
    refine bJ aC.out rfl (hh.cE (i := 0) rfl (by first | assumption | (simp only [Nat.mul_one]; assumption))) (by decide) ?_
    refine mI (mI ?_)
    refine hU (gr x y cr hcr _) (aF (bI rfl) (aF (bI rfl) (aF (bI rfl) bj))) (by decide) ?_
    refine mT ?_
    refine cM ?_
    refine cM ?_
    refine dn (k := done.length) aJ.out aC.size rfl rfl (by omega) (by omega) (by decide) ?_
    refine br hh (i := 0) (vs := [_]) rfl rfl (bI rfl) rfl aC.out rfl (by rw [aQ]; simp only [List.length_append, List.length_cons]; omega) rfl ?_
    intro ws hh
    simp only [List.set_cons_zero] at hh
    rw [Nat.mul_one, bX (by rw [aQ]; simp only [List.length_append, List.length_cons]; omega), eG, jB] at hh
    refine aI (aK (a3 (aj (au ?_))))
    refine bO (mI (aK (aj ?_)))
    refine ⟨⟨done ++ [(x + y + cr) % 18446744073709551616], r, _, by simp; omega, by rw [List.length_append]; rfl, rfl, by omega, hrd.tail, ?_, hh⟩, by show xs.length - (done.length + 1) < xs.length - done.length; omega, ?_⟩
    ·rw [← heq, List.append_assoc, List.length_append]; rfl
    (repeat (first | exact aA _ _ _ | refine aE rfl ?_ | refine ax rfl ?_))
   ·rw [List.getElem?_eq_none (by omega), Option.getD_none] at heq
    refine sr ?_
    refine aZ (aa (ai (cT (al (aj (ai (aq (sr (mI (aI (aa ?_)))))))))))
    refine sr (aI (aa (ai (sr (mI (mL (a5 ?_)))))))
    refine aZ (aa (cF (al (aj (au (mL (mI (mL (mI ?_)))))))))
    refine dn (k := done.length) aJ.out aC.size rfl rfl (by omega) (by omega) (by decide) ?_
    refine bJ aC.out rfl (hh.cE (i := 0) rfl (by first | assumption | (simp only [Nat.mul_one]; assumption))) (by decide) ?_
    refine mI (mI ?_)
    refine hU (gr x 0 cr hcr _) (aF (bI rfl) (aF (bI rfl) (aF (bI rfl) bj))) (by decide) ?_
    refine mT ?_
    refine cM ?_
    refine cM ?_
    refine dn (k := done.length) aJ.out aC.size rfl rfl (by omega) (by omega) (by decide) ?_
    refine br hh (i := 0) (vs := [_]) rfl rfl (bI rfl) rfl aC.out rfl (by rw [aQ]; simp only [List.length_append, List.length_cons]; omega) rfl ?_
    intro ws hh
    simp only [List.set_cons_zero] at hh
    rw [Nat.mul_one, bX (by rw [aQ]; simp only [List.length_append, List.length_cons]; omega), eG, jB] at hh
    refine aI (aK (a3 (aj (au ?_))))
    refine bO (mI (aK (aj ?_)))
    refine ⟨⟨done ++ [(x + 0 + cr) % 18446744073709551616], r, _, by simp; omega, by rw [List.length_append]; rfl, rfl, by omega, hrd.tail, ?_, hh⟩, by show xs.length - (done.length + 1) < xs.length - done.length; omega, ?_⟩
    ·rw [← heq, List.append_assoc, List.length_append]; rfl
    (repeat (first | exact aA _ _ _ | refine aE rfl ?_ | refine ax rfl ?_))
  ·have hr0 : rest = [] := List.eq_nil_of_length_eq_zero (by omega)
   subst hr0
   refine sr ?_
   refine aZ (aa (ai (cF ?_)))
   refine a4 ?_
   refine aD (aD (bp ?_))
   refine Al (by first | exact .inr rfl | exact .inl rfl) rfl  ?_
   rw [List.append_nil, fc, List.append_nil] at *
   rw [← heq]
   exact ⟨rfl, hh⟩
end Go.Proofs.YtkgdagjklakajaaGreatDoor
namespace Go.Proofs.YtkgdagjklakajaaGreatDoor
open Go.RowKit
theorem yz {k i n d : Nat} (D : Nat) (hD : D < 18446744073709551616 ^ i) (hd : d < 18446744073709551616) (hk : i + n / 64 + 1 < k) :
  (D * 2 ^ n) / 18446744073709551616 ^ (i + n / 64) % 18446744073709551616 < 2 ^ (n % 64) ∧ d * 2 ^ (n % 64) % 18446744073709551616 = (d % 2 ^ (64 - n % 64)) * 2 ^ (n % 64) ∧
  (bF 18446744073709551616 k (D * 2 ^ n)).set (i + n / 64) ((D * 2 ^ n) / 18446744073709551616 ^ (i + n / 64) % 18446744073709551616 + d * 2 ^ (n % 64) % 18446744073709551616) = bF 18446744073709551616 k (D * 2 ^ n + 18446744073709551616 ^ (i + n / 64) * (d * 2 ^ (n % 64) % 18446744073709551616)) ∧
  (D * 2 ^ n + 18446744073709551616 ^ (i + n / 64) * (d * 2 ^ (n % 64) % 18446744073709551616)) / 18446744073709551616 ^ (i + n / 64 + 1) % 18446744073709551616 = 0 ∧
  (bF 18446744073709551616 k (D * 2 ^ n + 18446744073709551616 ^ (i + n / 64) * (d * 2 ^ (n % 64) % 18446744073709551616))).set (i + n / 64 + 1) (d / 2 ^ (64 - n % 64)) = bF 18446744073709551616 k ((D + 18446744073709551616 ^ i * d) * 2 ^ n) ∧
  (n % 64 = 0 → D * 2 ^ n + 18446744073709551616 ^ (i + n / 64) * (d * 2 ^ (n % 64) % 18446744073709551616) = (D + 18446744073709551616 ^ i * d) * 2 ^ n) := by
 have hW : (18446744073709551616 : Nat) = 2 ^ 64 := by decide
 have hs : n % 64 < 64 := Nat.mod_lt _ (by omega)
 have hn : 2 ^ n = 18446744073709551616 ^ (n / 64) * 2 ^ (n % 64) := by
  rw [hW, ← Nat.pow_mul, ← Nat.pow_add]; congr 1; omega
 generalize hq : n / 64 = q at *
 generalize hse : n % 64 = s at *
 have e : (18446744073709551616 : Nat) = 2 ^ (64 - s) * 2 ^ s := by rw [← Nat.pow_add, hW]; congr 1; omega
 have hpos : 0 < 2 ^ s := Nat.pow_pos (by omega)
 have hwp : ∀ j : Nat, 0 < 18446744073709551616 ^ j := fun j => Nat.pow_pos (by decide)
 have hP : D * 2 ^ n < 18446744073709551616 ^ (i + q) * 2 ^ s := by
  rw [hn, ← Nat.mul_assoc, Nat.pow_add]
  exact Nat.mul_lt_mul_of_pos_right (Nat.mul_lt_mul_of_pos_right hD (hwp q)) hpos
 have h1 : (D * 2 ^ n) / 18446744073709551616 ^ (i + q) < 2 ^ s := by rw [Nat.div_lt_iff_lt_mul (hwp _), Nat.mul_comm (2 ^ s)]; exact hP
 have hsW : 2 ^ s ≤ 18446744073709551616 := by rw [hW]; exact Nat.pow_le_pow_right (by omega) (by omega)
 have h2 : d * 2 ^ s % 18446744073709551616 = (d % 2 ^ (64 - s)) * 2 ^ s := by rw [e, Nat.mul_mod_mul_right]
 have h3 : (d % 2 ^ (64 - s) + 1) * 2 ^ s ≤ 18446744073709551616 := by
  rw [e]
  exact Nat.mul_le_mul_right _ (Nat.mod_lt _ (Nat.pow_pos (by omega)))
 rw [Nat.succ_mul] at h3
 have h4 : (D * 2 ^ n) / 18446744073709551616 ^ (i + q) % 18446744073709551616 = (D * 2 ^ n) / 18446744073709551616 ^ (i + q) := Nat.mod_eq_of_lt (by omega)
 have hlt1 : D * 2 ^ n + 18446744073709551616 ^ (i + q) * (d * 2 ^ s % 18446744073709551616) < 18446744073709551616 ^ (i + q + 1) := by
  rw [h2, Nat.pow_succ]
  have : 18446744073709551616 ^ (i + q) * ((d % 2 ^ (64 - s)) * 2 ^ s + 2 ^ s) ≤ 18446744073709551616 ^ (i + q) * 18446744073709551616 := Nat.mul_le_mul_left _ h3
  rw [Nat.mul_add] at this
  omega
 have hup := zo (d := d) (s := s) hd (by omega)
 have hfin : D * 2 ^ n + 18446744073709551616 ^ (i + q) * (d * 2 ^ s % 18446744073709551616) + 18446744073709551616 ^ (i + q + 1) * (d / 2 ^ (64 - s)) = (D + 18446744073709551616 ^ i * d) * 2 ^ n := by
  have h5 : 18446744073709551616 ^ (i + q) * (d * 2 ^ s % 18446744073709551616) + 18446744073709551616 ^ (i + q + 1) * (d / 2 ^ (64 - s)) = 18446744073709551616 ^ (i + q) * (d * 2 ^ s) := by
   conv => rhs; rw [← hup.1, Nat.mul_add]
   rw [Nat.pow_succ, Nat.mul_assoc, Nat.mul_comm 18446744073709551616]
  rw [Nat.add_assoc, h5, Nat.add_mul, hn, Nat.pow_add]
  congr 1
  simp only [Nat.mul_assoc, Nat.mul_left_comm, Nat.mul_comm]
 have hbig : ∀ j, j < k → 18446744073709551616 ^ j * 18446744073709551616 ≤ 18446744073709551616 ^ k := fun j hj => by rw [← Nat.pow_succ]; exact Nat.pow_le_pow_right (by decide) hj
 have hb1 := hbig (i + q) (by omega)
 rw [← Nat.pow_succ] at hb1
 refine ⟨by rw [h4]; exact h1, h2, ?_, ?_, ?_, ?_⟩
 ·exact kY (by decide) (by omega) (by omega) (by rw [h4, h2]; omega)
 ·rw [Nat.div_eq_of_lt hlt1]
 ·have h6 : (D * 2 ^ n + 18446744073709551616 ^ (i + q) * (d * 2 ^ s % 18446744073709551616)) / 18446744073709551616 ^ (i + q + 1) % 18446744073709551616 = 0 := by rw [Nat.div_eq_of_lt hlt1]
  have h7 : d / 2 ^ (64 - s) < 18446744073709551616 := Nat.lt_of_le_of_lt (Nat.div_le_self _ _) hd
  have h8 := kY (B := 18446744073709551616) (k := k) (n := D * 2 ^ n + 18446744073709551616 ^ (i + q) * (d * 2 ^ s % 18446744073709551616)) (j := i + q + 1) (v := d / 2 ^ (64 - s)) (by decide) hk ?_ (by rw [h6]; omega)
  ·rw [h6, Nat.zero_add, hfin] at h8
   exact h8
  ·have h9 : 18446744073709551616 ^ (i + q + 1) * (d / 2 ^ (64 - s) + 1) ≤ 18446744073709551616 ^ (i + q + 1) * 18446744073709551616 := Nat.mul_le_mul_left _ h7
   have h10 := hbig (i + q + 1) hk
   rw [Nat.mul_succ] at h9
   omega
 ·intro h0
  subst h0
  rw [← hfin]
  have : d / 2 ^ (64 - 0) = 0 := Nat.div_eq_of_lt (by rw [← hW]; exact hd)
  rw [this]
  simp
theorem vn (A : Option Addr) (n c m : Nat) (xs : List Nat) (w : World) (hx : Sl w A n 1 (cu xs)) (hd : Dg 18446744073709551616 xs) (hn : n ≤ 1000000000) (hm : m ≤ 10000000000) :
  Calls Tryz.prog 240 #[.slice A n c, .int .i64 (m : Int)] w fun e w' => ∃ A c, e = .returned (.slice A (aT 18446744073709551616 (bk 18446744073709551616 xs * 2 ^ m)).length c) ∧ w'.ownsRow w.heap.size 195 1 (.slice A (aT 18446744073709551616 (bk 18446744073709551616 xs * 2 ^ m)).length c) (aT 18446744073709551616 (bk 18446744073709551616 xs * 2 ^ m)).length (cu (aT 18446744073709551616 (bk 18446744073709551616 xs * 2 ^ m))) ∧ Below w.heap.size w w' := by
 have hl := hx.1
 rw [aQ] at hl
 have hh := Hp.start w
 have hs1 : ((m : Int) % 64).toNat = m % 64 := by omega
 refine ak (N := 55) (l := [.slice A n c, .int .i64 (m : Int)]) Tryz.func240 rfl rfl (by simp) ?_
 refine sr (aL (aa (sr (mL (a5 (mI ?_))))))
 refine ie rfl rfl (by omega) (by omega) (by omega) (by decide) ?_
 refine bO ?_
 refine bO ?_
 refine fH (n := n + m / 64 + 1) hh rfl rfl (by omega) (by omega) aJ.out aC.out rfl (by omega) (by omega) (by decide) ?_
 intro b15 w15 hh
 refine aL (aa (ai (sr (mL (a5 (mI (aa (aq ?_))))))))
 rw [kQ] at hh
 refine bD [6, 7, 8, 18, 19, 20, 21, 22, 23, 24, 25, 26, 27, 28, 29, 30, 31, 32, 33, 34, 35, 36, 37, 38, 39, 40, 41, 42, 43, 44, 45, 46, 47, 48, 49, 50, 51, 52] 18
  (fun v w' => ∃ i : Nat, i ≤ n ∧ v = .int .i64 i ∧ Hp w [.row (some ⟨b15, 0, none⟩) (n + m / 64 + 1) (n + m / 64 + 1) 195 1 (cu (bF 18446744073709551616 (n + m / 64 + 1) (bk 18446744073709551616 (xs.take i) * 2 ^ m)))] w')
  (fun v _ => n - (intOf v).toNat) ?_ ?_
 ·exact ⟨0, Nat.zero_le _, rfl, by rw [List.take_zero, bk, Nat.zero_mul, lL]; exact hh⟩
 ·clear hh
  rintro ρ' v w' ⟨i, hi, rfl, hh⟩
  by_cases hlt : i < n
  ·obtain ⟨d, hdi⟩ := aR (l := xs) (k := i) (by omega)
   obtain ⟨ad, rfl, hr⟩ := hx.at_ (by omega)
   have hd2 := dH hdi
   have hdw := hd.at_ hdi
   have hD := fN (hd.take i)
   rw [List.length_take, Nat.min_eq_left (by omega)] at hD
   obtain ⟨s1, s2, s3, s4, s5, s6⟩ := yz (k := n + m / 64 + 1) (n := m) (bk 18446744073709551616 (xs.take i)) hD hdw (by omega)
   have hg := dH (fD (B := 18446744073709551616) (n + m / 64 + 1) (bk 18446744073709551616 (xs.take i) * 2 ^ m) (i + m / 64) (by omega))
   refine sr ?_
   refine aZ (aa (ai (cT (al (aj (ai (aq (sr (mI ?_)))))))))
   refine a0 aJ.out aC.size rfl rfl rfl (by omega) (by decide) ?_
   refine bJ aC.out rfl ((hr.ext hh.below).mg (by assumption)) (by decide) ?_
   refine aI (aI (aa (sr (mI (mI ?_)))))
   refine ie rfl rfl (by omega) (by omega) (by omega) (by decide) ?_
   refine bO (aI (aa (ai ?_)))
   refine bf 8 [[(5, none)], [(8, none)], [(27, some 0), (28, some 1)], [(29, some 2)], [(7, none)], [(1, none)], [(32, some 5)], [(31, some 4), (33, some 6)]] [(7, 34), (6, 33), (5, 32), (4, 31), (3, 30), (2, 29), (1, 28), (0, 27)] hh mixed (by kernel_rfl) ?_
   refine iB ?_
   refine fe ?_
   refine zQ (i + m / 64) ?_
   refine bm (i := 3) (fun ρ1 w1 hj hR => gU aC.out (show ρ1 29 = Value.pointer _ from hR.1) (hj.hp.cE (i := 0) rfl (by rw [Nat.mul_one]; exact hg))) ?_
   refine fe ?_
   refine fe ?_
   refine bm (i := 6) (fun ρ1 w1 hj hR => lJ (show ρ1 32 = Value.int _ _ from hR.1) rfl (by omega) (by omega)) ?_
   refine bm (i := 7) (fun ρ1 w1 hj hR => pT (show ρ1 31 = Value.int _ _ from hR.1) (show ρ1 33 = Value.int _ _ from hR.2.1) (by omega)) ?_
   refine bo ?_
   intro f W hJ hV
   have hb_6 := hJ.bl
   obtain ⟨v34, v33, v32, v31, v30, v29, v28, v27, _⟩ := hV
   replace hh := hJ.hp
   refine a7 (bu (ah v34 (ah v33 (ah v32 (ah v31 (ah v30 (ah v29 (ah v28 (ah v27 a6))))))))) ?_
   dsimp only [cJ]
   clear hJ
   refine um rfl rfl (by first | assumption | omega) (by first | assumption | omega) (by decide) ?_
   refine bs (k := i + m / 64) aJ.out aC.size rfl rfl (by omega) (by omega) (by decide) ?_
   refine br hh (i := 0) (vs := [_]) rfl rfl (bI rfl) rfl aC.out rfl (by rw [aQ, aN]; omega) rfl ?_
   intro ws hh
   simp only [List.set_cons_zero] at hh
   rw [hs1, s2, so s1, ← s2, Nat.mul_one, bX (by rw [aQ, aN]; omega), eG, s3] at hh
   by_cases h0 : m % 64 = 0
   ·refine aa (sr (mI ?_))
    refine jz rfl rfl (by omega) (by omega) (by decide) ?_
    refine cg (aa (cF (al (a3 (aj (au ?_))))))
    refine bO (mI (aK (aj ?_)))
    rw [s6 h0, ← ez hdi] at hh
    refine ⟨⟨i + 1, by omega, rfl, hh⟩, by show n - (i + 1) < n - i; omega, ?_⟩
    (repeat (first | exact aA _ _ _ | refine aE rfl ?_ | refine ax rfl ?_))
   ·have hg2 := dH (fD (B := 18446744073709551616) (n + m / 64 + 1) (bk 18446744073709551616 (xs.take i) * 2 ^ m + 18446744073709551616 ^ (i + m / 64) * (d * 2 ^ (m % 64) % 18446744073709551616)) (i + m / 64 + 1) (by omega))
    rw [s4] at hg2
    have hs2 : (64 - (m : Int) % 64).toNat = 64 - m % 64 := by omega
    have hd64 : d / 2 ^ (64 - (m : Int) % 64).toNat < 18446744073709551616 := Nat.lt_of_le_of_lt (Nat.div_le_self _ _) hdw
    have h0w : (0 : Nat) < 18446744073709551616 := by omega
    refine aa (sr (mI ?_))
    refine jz rfl rfl (by omega) (by omega) (by decide) ?_
    refine cg (aa (cT ?_))
    refine bf 10 [[(5, none)], [(8, none)], [(41, some 1)], [(40, some 0), (42, some 2)], [(43, some 3)], [(7, none)], [(1, none)], [(46, some 6)], [(47, some 7)], [(45, some 5), (48, some 8)]] [(9, 49), (8, 48), (7, 47), (6, 46), (5, 45), (4, 44), (3, 43), (2, 42), (1, 41), (0, 40)] hh mixed (by kernel_rfl) ?_
    refine iB ?_
    refine fe ?_
    refine yq ?_
    refine zQ (i + m / 64 + 1) ?_
    refine bm (i := 4) (fun ρ1 w1 hj hR => gU aC.out (show ρ1 43 = Value.pointer _ from hR.1) (hj.hp.cE (i := 0) rfl (by rw [Nat.mul_one]; exact hg2))) ?_
    refine fe ?_
    refine fe ?_
    refine bm (i := 7) (fun ρ1 w1 hj hR => lJ (show ρ1 46 = Value.int _ _ from hR.1) rfl (by omega) (by omega)) ?_
    refine n8 ?_
    refine bm (i := 9) (fun ρ1 w1 hj hR => rU (show ρ1 45 = Value.int _ _ from hR.1) (show ρ1 48 = Value.int _ _ from hR.2.1) (by omega)) ?_
    refine bo ?_
    intro f W hJ hV
    have hb_8 := hJ.bl
    obtain ⟨v49, v48, v47, v46, v45, v44, v43, v42, v41, v40, _⟩ := hV
    replace hh := hJ.hp
    refine a7 (bu (ah v49 (ah v48 (ah v47 (ah v46 (ah v45 (ah v44 (ah v43 (ah v42 (ah v41 (ah v40 a6))))))))))) ?_
    dsimp only [cJ]
    clear hJ
    refine um rfl rfl (by first | assumption | omega) (by first | assumption | omega) (by decide) ?_
    refine bs (k := i + m / 64 + 1) aJ.out aC.size rfl rfl (by omega) (by omega) (by decide) ?_
    refine br hh (i := 0) (vs := [_]) rfl rfl (bI rfl) rfl aC.out rfl (by rw [aQ, aN]; omega) rfl ?_
    intro ws hh
    simp only [List.set_cons_zero] at hh
    rw [hs2, Nat.zero_or, Nat.mul_one, bX (by rw [aQ, aN]; omega), eG, s5, ← ez hdi] at hh
    refine aK (a3 (aj (au ?_)))
    refine bO (mI (aK (aj ?_)))
    refine ⟨⟨i + 1, by omega, rfl, hh⟩, by show n - (i + 1) < n - i; omega, ?_⟩
    (repeat (first | exact aA _ _ _ | refine aE rfl ?_ | refine ax rfl ?_))
  ·refine sr ?_
   refine aZ (aa (ai (cF ?_)))
   refine a4 ?_
   refine aD (aD (bp (aj (sr (mL ?_)))))
   rw [List.take_of_length_le (by omega)] at hh
   refine bE hh (fB _ _ _ (bF 18446744073709551616 (n + m / 64 + 1) (bk 18446744073709551616 xs * 2 ^ m)) _ (hh.az (i := 0) rfl) (Nat.le_refl _) (by omega)) rfl ?_
   intro w54 hh
   refine aL (aa (ao ?_))
   refine cd ?_
   have hbd : bk 18446744073709551616 xs * 2 ^ m < 18446744073709551616 ^ (n + m / 64 + 1) := by
    have h1 := fN hd
    rw [show xs.length = n by omega] at h1
    have h2 : 2 ^ m ≤ 18446744073709551616 ^ (m / 64 + 1) := by
     rw [show (18446744073709551616 : Nat) = 2 ^ 64 from rfl, ← Nat.pow_mul]
     exact Nat.pow_le_pow_right (by omega) (by omega)
    rw [show n + m / 64 + 1 = n + (m / 64 + 1) by omega, Nat.pow_add]
    exact Nat.lt_of_lt_of_le (Nat.mul_lt_mul_of_pos_right h1 (Nat.pow_pos (by omega))) (Nat.mul_le_mul_left _ h2)
   have hd : di (bF 18446744073709551616 (n + m / 64 + 1) (bk 18446744073709551616 xs * 2 ^ m)) = aT 18446744073709551616 (bk 18446744073709551616 xs * 2 ^ m) := by
    rw [eB (by omega) (ek (by omega) _ _), bZ hbd]
   have h1 := (Hp.tO (xs := bF 18446744073709551616 (n + m / 64 + 1) (bk 18446744073709551616 xs * 2 ^ m)) hh (aN _ _)).at_ (i := 0) rfl
   rw [hd] at h1
   rw [hd]
   exact ⟨_, _, rfl, h1, hh.below⟩
end Go.Proofs.YtkgdagjklakajaaGreatDoor
namespace Go.Proofs.YtkgdagjklakajaaGreatDoor
open Go.RowKit
theorem Sl.zv {w : World} {ad : Addr} {n : Nat} {xs : List Nat} (h : Sl w (some ad) n 1 (cu xs)) {k : Nat} (hk : k < n) : Sl w (some (ad.add (k * 1))) (n - k) 1 (cu (xs.drop k)) := by
 have hl := h.1
 rw [aQ] at hl
 refine ⟨by rw [aQ, List.length_drop]; omega, fun h0 => ⟨_, rfl, ?_⟩⟩
 obtain ⟨ad', he, hr⟩ := h.2 (by omega)
 injection he with he
 subst he
 rw [Nat.mul_one, o6]
 exact hr.drop k
theorem uJ {N j s : Nat} (hs : s < 64) (h0 : 0 < s) :
  (N / 18446744073709551616 ^ (j + 1) % 18446744073709551616) * 2 ^ (64 - s) % 18446744073709551616 = N / 18446744073709551616 ^ (j + 1) % 2 ^ s * 2 ^ (64 - s) ∧
  (N / 18446744073709551616 ^ j % 18446744073709551616 / 2 ^ s ||| (N / 18446744073709551616 ^ (j + 1) % 18446744073709551616) * 2 ^ (64 - s) % 18446744073709551616) = N / 2 ^ (64 * j + s) % 18446744073709551616 := by
 have hW : (18446744073709551616 : Nat) = 2 ^ 64 := by decide
 have e : (18446744073709551616 : Nat) = 2 ^ s * 2 ^ (64 - s) := by rw [← Nat.pow_add, hW]; congr 1; omega
 have h1 : (N / 18446744073709551616 ^ (j + 1) % 18446744073709551616) * 2 ^ (64 - s) % 18446744073709551616 = N / 18446744073709551616 ^ (j + 1) % 2 ^ s * 2 ^ (64 - s) := by
  generalize N / 18446744073709551616 ^ (j + 1) = m
  rw [e, Nat.mul_mod_mul_right, Nat.mod_mul_right_mod]
 obtain ⟨h2, h3⟩ := oV N j s hs h0
 exact ⟨h1, by rw [h1, so h2, h3]⟩
theorem qJ (A : Option Addr) (n c m : Nat) (xs : List Nat) (w : World) (hx : Sl w A n 1 (cu xs)) (hd : Dg 18446744073709551616 xs) (hc : n ≤ c) (hn : n ≤ 1000000000) (hm : m ≤ 1000000000000) :
  Calls Tryz.prog 241 #[.slice A n c, .int .i64 (m : Int)] w fun e w' => ∃ A c, e = .returned (.slice A (aT 18446744073709551616 (bk 18446744073709551616 xs / 2 ^ m)).length c) ∧ w'.ownsRow w.heap.size 195 1 (.slice A (aT 18446744073709551616 (bk 18446744073709551616 xs / 2 ^ m)).length c) (aT 18446744073709551616 (bk 18446744073709551616 xs / 2 ^ m)).length (cu (aT 18446744073709551616 (bk 18446744073709551616 xs / 2 ^ m))) ∧ Below w.heap.size w w' := by
 have hl := hx.1
 rw [aQ] at hl
 have hh := Hp.start w
 have hs1 : ((m : Int) % 64).toNat = m % 64 := by omega
 have hW : (18446744073709551616 : Nat) = 2 ^ 64 := by decide
 have hmm : 2 ^ m = 18446744073709551616 ^ (m / 64) * 2 ^ (m % 64) := by
  rw [hW, ← Nat.pow_mul, ← Nat.pow_add]; congr 1; omega
 have hlt := fN hd
 rw [show xs.length = n by omega] at hlt
 by_cases hbig : n ≤ m / 64
 ·have h0 : bk 18446744073709551616 xs / 2 ^ m = 0 := by
   apply Nat.div_eq_of_lt
   refine Nat.lt_of_lt_of_le hlt (Nat.le_trans (Nat.pow_le_pow_right (by decide) hbig) ?_)
   rw [hmm]
   exact Nat.le_mul_of_pos_right _ (Nat.pow_pos (by omega))
  refine ak (N := 61) (l := [.slice A n c, .int .i64 (m : Int)]) Tryz.func241 rfl rfl (by simp) ?_
  refine sr (aL (aa (ai (sr (mI ?_)))))
  refine ie rfl rfl (by omega) (by omega) (by omega) (by decide) ?_
  refine mL (a5 ?_)
  refine dx (aa (cT (sr (aL (aa (ao (aM ?_)))))))
  refine cd ?_
  rw [h0, eS (by omega)]
  exact ⟨none, 0, rfl, World.ownsRow_nil _ _ _ _, hh.below⟩
 ·obtain ⟨ad, rfl, hr⟩ := hx.at_ (by omega)
  have hsd := hx.zv (k := m / 64) (by omega)
  have hget : ∀ j, j < n → xs[j]? = some (bk 18446744073709551616 xs / 18446744073709551616 ^ j % 18446744073709551616) := fun j hj => by
   obtain ⟨d, hdj⟩ := aR (l := xs) (k := j) (by omega)
   rw [hdj, mi hd hdj]
  refine ak (N := 61) (l := [.slice (some ad) n c, .int .i64 (m : Int)]) Tryz.func241 rfl rfl (by simp) ?_
  refine sr (aL (aa (ai (sr (mI ?_)))))
  refine ie rfl rfl (by omega) (by omega) (by omega) (by decide) ?_
  refine mL (a5 ?_)
  refine dx (aa (cF (al (aj (sr (mL (mI ?_)))))))
  refine ie rfl rfl (by omega) (by omega) (by omega) (by decide) ?_
  first | refine mW (l := m / 64) aJ.out aC.size rfl rfl (by omega) (by omega) (by omega) (by omega) (by decide) ?_ | refine l7 (l := m / 64) aJ.out aC.size rfl rfl (by omega) (by omega) (by omega) (by omega) (by decide) ?_
  refine aH (jZ _ _ _ 0 _ _ hsd (by omega) (by omega)) ar.out rfl (by decide) ?_
  rintro e_ w_ ⟨b16, rfl, hown_, hb_⟩
  refine ⟨_, rfl, ?_⟩
  replace hh := hh.a9 (x := .row _ _ _ _ _ _) hb_ hown_
  rw [Nat.zero_max, Nat.sub_self, List.replicate_zero, List.append_nil] at hh
  rw [Nat.zero_max]
  refine aL (aa (ai (sr (mL (a5 (mI (aa (aq ?_))))))))
  refine bD [6, 19, 20, 21, 22, 23, 24, 25, 26, 27, 28, 29, 30, 31, 32, 33, 34, 35, 36, 37, 38, 39, 40, 41, 42, 43, 44, 45, 46, 47, 48, 49, 50, 51, 52, 53, 54, 55, 56, 57, 58] 19
   (fun v w' => ∃ i : Nat, i ≤ n - m / 64 ∧ v = .int .i64 i ∧ Hp w [.row (some ⟨b16, 0, none⟩) (n - m / 64) (n - m / 64) 195 1 (cu (bF 18446744073709551616 i (bk 18446744073709551616 xs / 2 ^ m) ++ xs.drop (m / 64 + i)))] w')
   (fun v _ => (n - m / 64) - (intOf v).toNat) ?_ ?_
  ·exact ⟨0, Nat.zero_le _, rfl, hh⟩
  ·clear hh
   rintro ρ' v w' ⟨i, hi, rfl, hh⟩
   by_cases hlt2 : i < n - m / 64
   ·have hgi := hget (m / 64 + i) (by omega)
    have hdr : xs.drop (m / 64 + i) = (bk 18446744073709551616 xs / 18446744073709551616 ^ (m / 64 + i) % 18446744073709551616) :: xs.drop (m / 64 + i + 1) := by
     rw [List.drop_eq_getElem_cons (by omega)]
     congr 1
     have := List.getElem?_eq_some_iff.1 hgi
     exact this.2
    have hcell : (bF 18446744073709551616 i (bk 18446744073709551616 xs / 2 ^ m) ++ xs.drop (m / 64 + i))[i]? = some (bk 18446744073709551616 xs / 18446744073709551616 ^ (m / 64 + i) % 18446744073709551616) := by
     rw [List.getElem?_append_right (by rw [aN]; omega), aN, hdr]; simp
    have hg := dH hcell
    have hset : ∀ y, (bF 18446744073709551616 i (bk 18446744073709551616 xs / 2 ^ m) ++ xs.drop (m / 64 + i)).set i y = bF 18446744073709551616 i (bk 18446744073709551616 xs / 2 ^ m) ++ y :: xs.drop (m / 64 + i + 1) := fun y => by
     rw [hdr, List.set_append_right _ _ (by rw [aN]; omega), aN, Nat.sub_self, List.set_cons_zero]
    have hll : (bF 18446744073709551616 i (bk 18446744073709551616 xs / 2 ^ m) ++ xs.drop (m / 64 + i)).length = n - m / 64 := by rw [List.length_append, aN, List.length_drop]; omega
    have hac : ∀ y, bF 18446744073709551616 i (bk 18446744073709551616 xs / 2 ^ m) ++ y :: xs.drop (m / 64 + i + 1) = (bF 18446744073709551616 i (bk 18446744073709551616 xs / 2 ^ m) ++ [y]) ++ xs.drop (m / 64 + (i + 1)) := fun y => List.append_cons _ _ _
    have hnew : bF 18446744073709551616 (i + 1) (bk 18446744073709551616 xs / 2 ^ m) = bF 18446744073709551616 i (bk 18446744073709551616 xs / 2 ^ m) ++ [bk 18446744073709551616 xs / 2 ^ (64 * (m / 64 + i) + m % 64) % 18446744073709551616] := by
     rw [ig, Nat.div_div_eq_div_mul]
     congr 4
     rw [hW, ← Nat.pow_mul, ← Nat.pow_add]; congr 1; omega
    refine sr ?_
    refine aZ (aa (ai (cT (al (aj (ai (aq (sr (mI (aI (aa ?_)))))))))))
    refine sr (mL (mI ?_))
    refine bs (k := i) aJ.out aC.size rfl rfl (by omega) (by omega) (by decide) ?_
    refine bJ aC.out rfl (hh.cE (i := 0) rfl (by first | assumption | (simp only [Nat.mul_one]; assumption))) (by decide) ?_
    refine mI ?_
    refine jz rfl rfl (by omega) (by omega) (by decide) ?_
    refine rW rfl rfl (by omega) (by decide) ?_
    refine bs (k := i) aJ.out aC.size rfl rfl (by omega) (by omega) (by decide) ?_
    refine br hh (i := 0) (vs := [_]) rfl rfl (bI rfl) rfl aC.out rfl (by rw [aQ, hll]; omega) rfl ?_
    intro ws hh
    simp only [List.set_cons_zero] at hh
    rw [hs1, Nat.mul_one, bX (by rw [aQ, hll]; omega), eG, hset] at hh
    by_cases h0 : m % 64 = 0
    ·have e1 : bk 18446744073709551616 xs / 18446744073709551616 ^ (m / 64 + i) % 18446744073709551616 / 2 ^ (m % 64) = bk 18446744073709551616 xs / 2 ^ (64 * (m / 64 + i) + m % 64) % 18446744073709551616 := by
      rw [h0, Nat.pow_zero, Nat.div_one, Nat.add_zero, Nat.pow_mul, ← hW]
     by_cases hl : i + 1 < n - m / 64
     ·refine aa (sr (mI ?_))
      refine bO (mL (a5 ?_))
      refine aZ (mB ?_)
      first | refine gS ?_ | (refine gT ?_; refine mI ?_) | refine gV ?_
      first | refine gS ?_ | (refine gT ?_; refine jz rfl rfl (by omega) (by omega) (by decide) ?_) | refine gV ?_
      first | refine gS ?_ | (refine gT ?_; refine cg ?_) | refine gV ?_
      first | refine ct ?_ | refine cq ?_
      refine aa (cF (al (a3 (aj (au ?_)))))
      refine bO (mI (aK (aj ?_)))
      rw [e1, hac, ← hnew] at hh
      refine ⟨⟨i + 1, by omega, rfl, hh⟩, by show (n - m / 64) - (i + 1) < (n - m / 64) - i; omega, ?_⟩
      (repeat (first | exact aA _ _ _ | refine aE rfl ?_ | refine ax rfl ?_))
     ·refine aa (sr (mI ?_))
      refine bO (mL (a5 ?_))
      refine aZ (mB ?_)
      first | refine gS ?_ | (refine gT ?_; refine mI ?_) | refine gV ?_
      first | refine gS ?_ | (refine gT ?_; refine jz rfl rfl (by omega) (by omega) (by decide) ?_) | refine gV ?_
      first | refine gS ?_ | (refine gT ?_; refine cg ?_) | refine gV ?_
      first | refine ct ?_ | refine cq ?_
      refine aa (cF (al (a3 (aj (au ?_)))))
      refine bO (mI (aK (aj ?_)))
      rw [e1, hac, ← hnew] at hh
      refine ⟨⟨i + 1, by omega, rfl, hh⟩, by show (n - m / 64) - (i + 1) < (n - m / 64) - i; omega, ?_⟩
      (repeat (first | exact aA _ _ _ | refine aE rfl ?_ | refine ax rfl ?_))
    ·by_cases hl : i + 1 < n - m / 64
     ·have hgj := hget (m / 64 + i + 1) (by omega)
      have hgj2 := dH hgj
      obtain ⟨d1, d2⟩ := uJ (N := bk 18446744073709551616 xs) (j := m / 64 + i) (s := m % 64) (Nat.mod_lt _ (by omega)) (by omega)
      have hcell2 : (bF 18446744073709551616 i (bk 18446744073709551616 xs / 2 ^ m) ++ (bk 18446744073709551616 xs / 18446744073709551616 ^ (m / 64 + i) % 18446744073709551616 / 2 ^ (m % 64)) :: xs.drop (m / 64 + i + 1))[i]? = some (bk 18446744073709551616 xs / 18446744073709551616 ^ (m / 64 + i) % 18446744073709551616 / 2 ^ (m % 64)) := by
       rw [List.getElem?_append_right (by rw [aN]; omega), aN]; simp
      have hg2 := dH hcell2
      have hset2 : ∀ y z, (bF 18446744073709551616 i (bk 18446744073709551616 xs / 2 ^ m) ++ y :: xs.drop (m / 64 + i + 1)).set i z = bF 18446744073709551616 i (bk 18446744073709551616 xs / 2 ^ m) ++ z :: xs.drop (m / 64 + i + 1) := fun y z => by
       rw [List.set_append_right _ _ (by rw [aN]; omega), aN, Nat.sub_self, List.set_cons_zero]
      have hll2 : ∀ y, (bF 18446744073709551616 i (bk 18446744073709551616 xs / 2 ^ m) ++ y :: xs.drop (m / 64 + i + 1)).length = n - m / 64 := fun y => by rw [List.length_append, aN, List.length_cons, List.length_drop]; omega
      have hs2 : (64 - (m : Int) % 64).toNat = 64 - m % 64 := by omega
      have b1 : bk 18446744073709551616 xs / 18446744073709551616 ^ (m / 64 + i) % 18446744073709551616 / 2 ^ (m % 64) < 18446744073709551616 := Nat.lt_of_le_of_lt (Nat.div_le_self _ _) (Nat.mod_lt _ (by omega))
      have b2 : bk 18446744073709551616 xs / 18446744073709551616 ^ (m / 64 + i + 1) % 18446744073709551616 * 2 ^ (64 - (m : Int) % 64).toNat % 18446744073709551616 < 18446744073709551616 := Nat.mod_lt _ (by omega)
      refine aa (sr (mI ?_))
      refine bO (mL (a5 ?_))
      refine aZ (mB ?_)
      first | refine gS ?_ | (refine gT ?_; refine mI ?_) | refine gV ?_
      first | refine gS ?_ | (refine gT ?_; refine jz rfl rfl (by omega) (by omega) (by decide) ?_) | refine gV ?_
      first | refine gS ?_ | (refine gT ?_; refine cg ?_) | refine gV ?_
      first | refine ct ?_ | refine cq ?_
      refine aa (cT ?_)
      refine bf 16 [[(5, none)], [(6, none)], [(40, some 0), (41, some 1)], [(42, some 2)], [(0, none)], [(1, none)], [(45, some 5)], [(6, none)], [(46, some 6), (47, some 7)], [(48, some 8)], [(44, some 4), (49, some 9)], [(50, some 10)], [(1, none)], [(52, some 12)], [(53, some 13)], [(51, some 11), (54, some 14)]] [(15, 55), (14, 54), (13, 53), (12, 52), (11, 51), (10, 50), (9, 49), (8, 48), (7, 47), (6, 46), (5, 45), (4, 44), (3, 43), (2, 42), (1, 41), (0, 40)] hh mixed (by kernel_rfl) ?_
      refine iB ?_
      refine fe ?_
      refine zQ (i) ?_
      refine bm (i := 3) (fun ρ1 w1 hj hR => gU aC.out (show ρ1 42 = Value.pointer _ from hR.1) (hj.hp.cE (i := 0) rfl (by rw [Nat.mul_one]; exact hg2))) ?_
      refine iB ?_
      refine fe ?_
      refine bm (i := 6) (fun ρ1 w1 hj hR => pJ (show ρ1 45 = Value.int _ _ from hR.1) rfl (by omega) (by omega) (by omega)) ?_
      refine fe ?_
      refine yq ?_
      refine yq ?_
      refine lY (m / 64 + i + 1) ?_
      refine lf (fun _ hj => (hr.ext hj.hp.below).mg hgj2) ?_
      refine fe ?_
      refine bm (i := 13) (fun ρ1 w1 hj hR => lJ (show ρ1 52 = Value.int _ _ from hR.1) rfl (by omega) (by omega)) ?_
      refine n8 ?_
      refine bm (i := 15) (fun ρ1 w1 hj hR => pT (show ρ1 51 = Value.int _ _ from hR.1) (show ρ1 54 = Value.int _ _ from hR.2.1) (by omega)) ?_
      refine bo ?_
      intro f W hJ hV
      have hb_9 := hJ.bl
      obtain ⟨v55, v54, v53, v52, v51, v50, v49, v48, v47, v46, v45, v44, v43, v42, v41, v40, _⟩ := hV
      replace hh := hJ.hp
      refine a7 (bu (ah v55 (ah v54 (ah v53 (ah v52 (ah v51 (ah v50 (ah v49 (ah v48 (ah v47 (ah v46 (ah v45 (ah v44 (ah v43 (ah v42 (ah v41 (ah v40 a6))))))))))))))))) ?_
      dsimp only [cJ]
      clear hJ
      refine um rfl rfl (by first | assumption | omega) (by first | assumption | omega) (by decide) ?_
      refine bs (k := i) aJ.out aC.size rfl rfl (by omega) (by omega) (by decide) ?_
      refine br hh (i := 0) (vs := [_]) rfl rfl (bI rfl) rfl aC.out rfl (by rw [aQ, hll2]; omega) rfl ?_
      intro ws hh
      simp only [List.set_cons_zero] at hh
      rw [hs2, d2, Nat.mul_one, bX (by rw [aQ, hll2]; omega), eG, hset2, hac, ← hnew] at hh
      refine aK (a3 (aj (au ?_)))
      refine bO (mI (aK (aj ?_)))
      refine ⟨⟨i + 1, by omega, rfl, hh⟩, by show (n - m / 64) - (i + 1) < (n - m / 64) - i; omega, ?_⟩
      (repeat (first | exact aA _ _ _ | refine aE rfl ?_ | refine ax rfl ?_))
     ·have e1 : bk 18446744073709551616 xs / 18446744073709551616 ^ (m / 64 + i) % 18446744073709551616 / 2 ^ (m % 64) = bk 18446744073709551616 xs / 2 ^ (64 * (m / 64 + i) + m % 64) % 18446744073709551616 := by
       obtain ⟨h2, h3⟩ := oV (bk 18446744073709551616 xs) (m / 64 + i) (m % 64) (Nat.mod_lt _ (by omega)) (by omega)
       have h4 : bk 18446744073709551616 xs / 18446744073709551616 ^ (m / 64 + i + 1) = 0 := Nat.div_eq_of_lt (Nat.lt_of_lt_of_le hlt (Nat.pow_le_pow_right (by decide) (by omega)))
       rw [h4] at h3
       simpa using h3
      refine aa (sr (mI ?_))
      refine bO (mL (a5 ?_))
      refine aZ (mB ?_)
      first | refine gS ?_ | (refine gT ?_; refine mI ?_) | refine gV ?_
      first | refine gS ?_ | (refine gT ?_; refine jz rfl rfl (by omega) (by omega) (by decide) ?_) | refine gV ?_
      first | refine gS ?_ | (refine gT ?_; refine cg ?_) | refine gV ?_
      first | refine ct ?_ | refine cq ?_
      refine aa (cF (al (a3 (aj (au ?_)))))
      refine bO (mI (aK (aj ?_)))
      rw [e1, hac, ← hnew] at hh
      refine ⟨⟨i + 1, by omega, rfl, hh⟩, by show (n - m / 64) - (i + 1) < (n - m / 64) - i; omega, ?_⟩
      (repeat (first | exact aA _ _ _ | refine aE rfl ?_ | refine ax rfl ?_))
   ·obtain rfl : i = n - m / 64 := by omega
    rw [List.drop_eq_nil_of_le (by omega), List.append_nil] at hh
    refine sr ?_
    refine aZ (aa (ai (cF ?_)))
    refine a4 ?_
    refine aD (aD (bp (aj (sr (mL ?_)))))
    refine bE hh (fB _ _ _ (bF 18446744073709551616 (n - m / 64) (bk 18446744073709551616 xs / 2 ^ m)) _ (hh.az (i := 0) rfl) (Nat.le_refl _) (by omega)) rfl ?_
    intro w60 hh
    refine aL (aa (ao ?_))
    refine cd ?_
    have hbd : bk 18446744073709551616 xs / 2 ^ m < 18446744073709551616 ^ (n - m / 64) := by
     rw [Nat.div_lt_iff_lt_mul (Nat.pow_pos (by omega)), hmm, ← Nat.mul_assoc, ← Nat.pow_add, show n - m / 64 + m / 64 = n by omega]
     exact Nat.lt_of_lt_of_le hlt (Nat.le_mul_of_pos_right _ (Nat.pow_pos (by omega)))
    have hd : di (bF 18446744073709551616 (n - m / 64) (bk 18446744073709551616 xs / 2 ^ m)) = aT 18446744073709551616 (bk 18446744073709551616 xs / 2 ^ m) := by
     rw [eB (by omega) (ek (by omega) _ _), bZ hbd]
    have h1 := (Hp.tO (xs := bF 18446744073709551616 (n - m / 64) (bk 18446744073709551616 xs / 2 ^ m)) hh (aN _ _)).at_ (i := 0) rfl
    rw [hd] at h1
    rw [hd]
    exact ⟨_, _, rfl, h1, hh.below⟩
end Go.Proofs.YtkgdagjklakajaaGreatDoor
namespace Go.Proofs.YtkgdagjklakajaaGreatDoor
open Go.RowKit
def bN (a : ByteArray) : Nat := bn a.data.toList
def sN (n : Nat) : ByteArray := str (sb n)
theorem eb (n : Nat) : bN (sN n) = n := by rw [bN, sN, cD, Af]
theorem gR (n : Nat) : (sN n).size = (bA n + 7) / 8 := by rw [sN, gI, ux, r3]
theorem sC {a b : Nat} (h : sN a = sN b) : a = b := by rw [← eb a, h, eb]
theorem gl : sN 0 = ByteArray.mk #[] := by rw [sN, yM]; rfl
theorem oC (a : ByteArray) : bN a < 256 ^ a.size := by rw [dF]; exact yR _
theorem ff (a : ByteArray) : bA (bN a) ≤ 8 * a.size := by
 apply cV
 have := oC a
 rwa [show (256 : Nat) = 2 ^ 8 from rfl, ← Nat.pow_mul] at this
theorem u7 {n k : Nat} (h : n < 256 ^ k) : (aT 18446744073709551616 n).length ≤ (k + 7) / 8 := by
 apply fA (by omega)
 refine Nat.lt_of_lt_of_le h ?_
 rw [show (256 : Nat) = 2 ^ 8 from rfl, show (18446744073709551616 : Nat) = 2 ^ 64 from rfl, ← Nat.pow_mul, ← Nat.pow_mul]
 exact Nat.pow_le_pow_right (by omega) (by omega)
theorem eH (a : ByteArray) : (aT 18446744073709551616 (bN a)).length ≤ (a.size + 7) / 8 := u7 (oC a)
theorem e8 (n : Nat) : Dg 18446744073709551616 (aT 18446744073709551616 n) := (dg (by omega) n).1
theorem eV (n : Nat) : bk 18446744073709551616 (aT 18446744073709551616 n) = n := dr (by omega) n
theorem cQ (a : ByteArray) (w : World) (ha : a.size ≤ 1000000000) :
  Calls Tryz.prog 220 #[.string a] w fun e w' => ∃ b c, e = .returned (.slice (some ⟨b, 0, none⟩) (aT 18446744073709551616 (bN a)).length c) ∧ w'.ownsRow w.heap.size 195 1 (.slice (some ⟨b, 0, none⟩) (aT 18446744073709551616 (bN a)).length c) (aT 18446744073709551616 (bN a)).length (cu (aT 18446744073709551616 (bN a))) ∧ Below w.heap.size w w' := uB a w (by omega)
theorem lT (n : Nat) (w : World) (hn : n < 18446744073709551616) :
  Calls Tryz.prog 203 #[.int .u64 (n : Int)] w fun e w' => e = .returned (.string (sN n)) ∧ Below w.heap.size w w' := by
 have hh := Hp.start w
 refine ak (N := 6) (l := [.int .u64 (n : Int)]) Tryz.func203 rfl rfl (by simp) ?_
 refine sr (aS (aa (sr (mI ?_))))
 refine aO hh (cs := [_]) aJ.out aC.out (aG (bI rfl) bC) rfl rfl (by decide) (by decide) (by decide) rfl (by decide) ?_
 intro b4 w4 hh
 refine bE hh (fx _ _ _ [n] _ (hh.az (i := 0) rfl) (Dg.cons hn Dg.nil) (Nat.le_refl _) (by omega)) rfl ?_
 intro w5 hh
 refine aS (aa (ao ?_))
 refine cd ?_
 refine ⟨?_, hh.below⟩
 rw [sN]
 simp [bk]
theorem pS (a b : ByteArray) (w : World) (ha : a.size ≤ 1000000000) (hb : b.size ≤ 1000000000) :
  Calls Tryz.prog 245 #[.string a, .string b] w fun e w' => e = .returned (.int .i64 (im (bN a) (bN b))) ∧ Below w.heap.size w w' := by
 have hh := Hp.start w
 have h1 := eH a
 have h2 := eH b
 refine ak (N := 10) (l := [.string a, .string b]) Tryz.func245 rfl rfl (by simp) ?_
 refine sr (aI (aa (sr (mS ?_))))
 refine aH (cQ a _ ha) ar.out rfl (by decide) ?_
 rintro e_ w6 ⟨A6, c6, rfl, hown_, hb_⟩
 refine ⟨_, rfl, ?_⟩
 replace hh := hh.a9 (x := .row _ _ _ _ _ _) hb_ hown_
 refine mS ?_
 refine aH (cQ b _ hb) ar.out rfl (by decide) ?_
 rintro e_ w8 ⟨A8, c8, rfl, hown_, hb_⟩
 refine ⟨_, rfl, ?_⟩
 replace hh := hh.a9 (x := .row _ _ _ _ _ _) hb_ hown_
 refine bE hh (ki _ _ _ _ _ _ (aT 18446744073709551616 (bN a)) (aT 18446744073709551616 (bN b)) _ (hh.az (i := 1) rfl) (hh.az (i := 0) rfl) (e8 _) (e8 _) (hh.dh (i := 1) rfl) (hh.dh (i := 0) rfl) (by omega) (by omega)) rfl ?_
 intro w9 hh
 rw [eV, eV]
 refine aI (aa (ao ?_))
 refine cd ?_
 exact ⟨rfl, hh.below⟩
theorem iP (a : ByteArray) (w : World) (ha : a.size ≤ 1000000000) :
  Calls Tryz.prog 224 #[.string a] w fun e w' => e = .returned (.int .i64 (bA (bN a))) ∧ Below w.heap.size w w' := by
 have hh := Hp.start w
 have h1 := eH a
 refine ak (N := 6) (l := [.string a]) Tryz.func224 rfl rfl (by simp) ?_
 refine sr (aI (aa (sr (mS ?_))))
 refine aH (cQ a _ ha) ar.out rfl (by decide) ?_
 rintro e_ w4 ⟨A4, c4, rfl, hown_, hb_⟩
 refine ⟨_, rfl, ?_⟩
 replace hh := hh.a9 (x := .row _ _ _ _ _ _) hb_ hown_
 refine bE hh (nD _ _ _ (aT 18446744073709551616 (bN a)) _ (hh.az (i := 0) rfl) (e8 _) (hh.dh (i := 0) rfl) (by omega)) rfl ?_
 intro w5 hh
 rw [eV]
 refine aI (aa (ao ?_))
 refine cd ?_
 exact ⟨rfl, hh.below⟩
theorem ky (n m : Nat) : bA (n * 2 ^ m) ≤ bA n + m := by
 apply cV
 rw [Nat.pow_add]
 exact Nat.mul_lt_mul_of_pos_right (cN n) (Nat.pow_pos (by omega))
theorem nU (n : Nat) : (aT 18446744073709551616 n).length ≤ (bA n + 63) / 64 := by
 apply fA (by omega)
 refine Nat.lt_of_lt_of_le (cN n) ?_
 rw [show (18446744073709551616 : Nat) = 2 ^ 64 from rfl, ← Nat.pow_mul]
 exact Nat.pow_le_pow_right (by omega) (by omega)
theorem qb (a : ByteArray) (m : Nat) (w : World) (ha : a.size ≤ 1000000000) (hm : m ≤ 10000000000) :
  Calls Tryz.prog 222 #[.string a, .int .i64 (m : Int)] w fun e w' => e = .returned (.string (sN (bN a * 2 ^ m))) ∧ Below w.heap.size w w' := by
 have hh := Hp.start w
 have h1 := eH a
 have h2 := nU (bN a * 2 ^ m)
 have h3 := ky (bN a) m
 have h4 := ff a
 have e1 : (if (0 : Int) > (m : Int) then 0 else (m : Int)) = m := if_neg (by omega)
 refine ak (N := 11) (l := [.string a, .int .i64 (m : Int)]) Tryz.func222 rfl rfl (by simp) ?_
 refine sr (aS (aa (sr (mS ?_))))
 refine aH (cQ a _ ha) ar.out rfl (by decide) ?_
 rintro e_ w6 ⟨A6, c6, rfl, hown_, hb_⟩
 refine ⟨_, rfl, ?_⟩
 replace hh := hh.a9 (x := .row _ _ _ _ _ _) hb_ hown_
 refine mI ?_
 refine jc rfl rfl (by decide) ?_
 rw [e1]
 refine aH (vn _ _ _ m (aT 18446744073709551616 (bN a)) _ (hh.az (i := 0) rfl) (e8 _) (by omega) hm) ar.out rfl (by decide) ?_
 rintro e_ w9 ⟨A9, c9, rfl, hown_, hb_⟩
 refine ⟨_, rfl, ?_⟩
 replace hh := hh.a9 (x := .row _ _ _ _ _ _) hb_ hown_
 rw [eV] at *
 refine bE hh (fx _ _ _ (aT 18446744073709551616 (bN a * 2 ^ m)) _ (hh.az (i := 0) rfl) (e8 _) (hh.dh (i := 0) rfl) (by omega)) rfl ?_
 intro w10 hh
 rw [eV]
 refine aS (aa (ao ?_))
 refine cd ?_
 exact ⟨rfl, hh.below⟩
theorem kL (n m : Nat) : bA (n / 2 ^ m) ≤ bA n := by
 apply cV
 exact Nat.lt_of_le_of_lt (Nat.div_le_self _ _) (cN n)
theorem p9 (a : ByteArray) (m : Nat) (w : World) (ha : a.size ≤ 1000000000) (hm : m ≤ 1000000000000) :
  Calls Tryz.prog 223 #[.string a, .int .i64 (m : Int)] w fun e w' => e = .returned (.string (sN (bN a / 2 ^ m))) ∧ Below w.heap.size w w' := by
 have hh := Hp.start w
 have h1 := eH a
 have h2 := nU (bN a / 2 ^ m)
 have h3 := kL (bN a) m
 have h4 := ff a
 have e1 : (if (0 : Int) > (m : Int) then 0 else (m : Int)) = m := if_neg (by omega)
 refine ak (N := 11) (l := [.string a, .int .i64 (m : Int)]) Tryz.func223 rfl rfl (by simp) ?_
 refine sr (aS (aa (sr (mS ?_))))
 refine aH (cQ a _ ha) ar.out rfl (by decide) ?_
 rintro e_ w6 ⟨A6, c6, rfl, hown_, hb_⟩
 refine ⟨_, rfl, ?_⟩
 replace hh := hh.a9 (x := .row _ _ _ _ _ _) hb_ hown_
 refine mI ?_
 refine jc rfl rfl (by decide) ?_
 rw [e1]
 refine aH (qJ _ _ _ m (aT 18446744073709551616 (bN a)) _ (hh.az (i := 0) rfl) (e8 _) (hh.dh (i := 0) rfl) (by omega) hm) ar.out rfl (by decide) ?_
 rintro e_ w9 ⟨A9, c9, rfl, hown_, hb_⟩
 refine ⟨_, rfl, ?_⟩
 replace hh := hh.a9 (x := .row _ _ _ _ _ _) hb_ hown_
 rw [eV] at *
 refine bE hh (fx _ _ _ (aT 18446744073709551616 (bN a / 2 ^ m)) _ (hh.az (i := 0) rfl) (e8 _) (hh.dh (i := 0) rfl) (by omega)) rfl ?_
 intro w10 hh
 rw [eV]
 refine aS (aa (ao ?_))
 refine cd ?_
 exact ⟨rfl, hh.below⟩
theorem xA {x y : Nat} (h : y ≤ x) : rn 18446744073709551616 (aT 18446744073709551616 x) (aT 18446744073709551616 y) 0 = 0 ∧ bk 18446744073709551616 (mb 18446744073709551616 (aT 18446744073709551616 x) (aT 18446744073709551616 y) 0) = x - y := by
 have := wO (B := 18446744073709551616) (by omega) (aT 18446744073709551616 x) (aT 18446744073709551616 y) 0 (e8 _) (e8 _) (by omega) (by rw [eV, eV]; omega)
 rw [eV, eV] at this
 exact ⟨this.2, by omega⟩
theorem ld (a b : ByteArray) (w : World) (ha : a.size ≤ 1000000000) (hb : b.size ≤ 1000000000) :
  Calls Tryz.prog 228 #[.string a, .string b] w fun e w' => e = .returned (.tuple #[.string (sN (bN a - bN b)), .bool (decide (bN b ≤ bN a))]) ∧ Below w.heap.size w w' := by
 have hh := Hp.start w
 have h1 := eH a
 have h2 := eH b
 by_cases hlt : bN a < bN b
 ·refine ak (N := 21) (l := [.string a, .string b]) Tryz.func228 rfl rfl (by simp) ?_
  refine sr (aS (aB (aa (sr (mS ?_)))))
  refine aH (cQ a _ ha) ar.out rfl (by decide) ?_
  rintro e_ w9 ⟨A9, c9, rfl, hown_, hb_⟩
  refine ⟨_, rfl, ?_⟩
  replace hh := hh.a9 (x := .row _ _ _ _ _ _) hb_ hown_
  refine mS ?_
  refine aH (cQ b _ hb) ar.out rfl (by decide) ?_
  rintro e_ w11 ⟨A11, c11, rfl, hown_, hb_⟩
  refine ⟨_, rfl, ?_⟩
  replace hh := hh.a9 (x := .row _ _ _ _ _ _) hb_ hown_
  refine aL (aL (aa (ai (sr (mL (mL ?_))))))
  refine bE hh (ki _ _ _ _ _ _ (aT 18446744073709551616 (bN a)) (aT 18446744073709551616 (bN b)) _ (hh.az (i := 1) rfl) (hh.az (i := 0) rfl) (e8 _) (e8 _) (hh.dh (i := 1) rfl) (hh.dh (i := 0) rfl) (by omega) (by omega)) rfl ?_
  intro w14 hh
  rw [eV, eV, iK hlt]
  refine aZ (aa (cT (sr (aS (aB (aa (ao (aM ?_))))))))
  refine u4 ?_
  rw [Nat.sub_eq_zero_of_le (by omega), decide_eq_false (by omega), gl]
  exact ⟨rfl, hh.below⟩
 ·obtain ⟨s1, s2⟩ := xA (Nat.le_of_not_lt hlt)
  have hc : ¬ im (bN a) (bN b) < 0 := by unfold im; split <;> (try split) <;> omega
  refine ak (N := 21) (l := [.string a, .string b]) Tryz.func228 rfl rfl (by simp) ?_
  refine sr (aS (aB (aa (sr (mS ?_)))))
  refine aH (cQ a _ ha) ar.out rfl (by decide) ?_
  rintro e_ w9 ⟨A9, c9, rfl, hown_, hb_⟩
  refine ⟨_, rfl, ?_⟩
  replace hh := hh.a9 (x := .row _ _ _ _ _ _) hb_ hown_
  refine mS ?_
  refine aH (cQ b _ hb) ar.out rfl (by decide) ?_
  rintro e_ w11 ⟨A11, c11, rfl, hown_, hb_⟩
  refine ⟨_, rfl, ?_⟩
  replace hh := hh.a9 (x := .row _ _ _ _ _ _) hb_ hown_
  refine aL (aL (aa (ai (sr (mL (mL ?_))))))
  refine bE hh (ki _ _ _ _ _ _ (aT 18446744073709551616 (bN a)) (aT 18446744073709551616 (bN b)) _ (hh.az (i := 1) rfl) (hh.az (i := 0) rfl) (e8 _) (e8 _) (hh.dh (i := 1) rfl) (hh.dh (i := 0) rfl) (by omega) (by omega)) rfl ?_
  intro w14 hh
  rw [eV, eV]
  refine aZ (aa (cF (al (aj (sr (mL (mL ?_)))))))
  replace hh := hh.front 1 rfl
  rw [← List.append_nil (aT 18446744073709551616 (bN a)), ← List.nil_append (aT 18446744073709551616 (bN a))] at hh
  have hll := (hh.yL (i := 0) rfl)
  rw [List.nil_append, List.append_nil] at hll
  refine aH (qP [] (aT 18446744073709551616 (bN a)) [] (aT 18446744073709551616 (bN b)) _ hh (fun w1 cs h => h.az (i := 1) rfl) (e8 _) (e8 _) (by omega) (by omega) s1) ar.out rfl (by decide) ?_
  rintro e_ w_ ⟨rfl, hh⟩
  refine ⟨_, rfl, ?_⟩
  simp only [List.nil_append, List.append_nil] at hh
  refine aa (sr (mL ?_))
  refine bE hh (fx _ _ _ (mb 18446744073709551616 (aT 18446744073709551616 (bN a)) (aT 18446744073709551616 (bN b)) 0) _ (hh.az (i := 0) rfl) (xR (by omega) _ _ _) (hh.dh (i := 0) rfl) (by omega)) rfl ?_
  intro w20 hh
  rw [s2]
  refine aS (aB (aa (ao ?_)))
  refine u4 ?_
  rw [decide_eq_true (by omega)]
  exact ⟨rfl, hh.below⟩
theorem qm (a b : ByteArray) (w : World) (ha : a.size ≤ 1000000000) (hb : b.size ≤ 1000000000) :
  Calls Tryz.prog 230 #[.string a, .string b] w fun e w' => e = .returned (.string (sN (bN a * bN b))) ∧ Below w.heap.size w w' := by
 have hh := Hp.start w
 have h1 := eH a
 have h2 := eH b
 refine ak (N := 37) (l := [.string a, .string b]) Tryz.func230 rfl rfl (by simp) ?_
 refine sr (aS (aa (sr (mS ?_))))
 refine aH (cQ a _ ha) ar.out rfl (by decide) ?_
 rintro e_ w11 ⟨A11, c11, rfl, hown_, hb_⟩
 refine ⟨_, rfl, ?_⟩
 replace hh := hh.a9 (x := .row _ _ _ _ _ _) hb_ hown_
 refine mS ?_
 refine aH (cQ b _ hb) ar.out rfl (by decide) ?_
 rintro e_ w13 ⟨A13, c13, rfl, hown_, hb_⟩
 refine ⟨_, rfl, ?_⟩
 replace hh := hh.a9 (x := .row _ _ _ _ _ _) hb_ hown_
 have hxd := e8 (bN a)
 have hyd := e8 (bN b)
 have hX := eV (bN a)
 have hY := eV (bN b)
 generalize aT 18446744073709551616 (bN a) = xs at *
 generalize aT 18446744073709551616 (bN b) = ys at *
 refine aL (aL (aa (sr (mL (a5 (mL (a5 ?_)))))))
 refine bO ?_
 refine bO ?_
 refine fH (n := xs.length + ys.length + 1) hh rfl rfl (by omega) (by omega) aJ.out aC.out rfl (by omega) (by omega) (by decide) ?_
 intro b20 w20 hh
 refine aL (aa (ai (sr (mL (a5 (mI (aa (aq ?_))))))))
 rw [kQ] at hh
 refine bD [8, 9, 23, 24, 25, 26, 27, 28, 29, 30, 31, 32, 33, 34] 23
  (fun v w' => ∃ (i : Nat) (L : List Nat), i ≤ xs.length ∧ v = .int .i64 i ∧ Dg 18446744073709551616 L ∧ L.length = xs.length + ys.length + 1 ∧ bk 18446744073709551616 L = bk 18446744073709551616 (xs.take i) * bk 18446744073709551616 ys ∧ Hp w [.row (some ⟨b20, 0, none⟩) (xs.length + ys.length + 1) (xs.length + ys.length + 1) 195 1 (cu L), .row (some ⟨A13, 0, none⟩) ys.length c13 195 1 (cu ys), .row (some ⟨A11, 0, none⟩) xs.length c11 195 1 (cu xs)] w')
  (fun v _ => xs.length - (intOf v).toNat) ?_ ?_
 ·exact ⟨0, _, Nat.zero_le _, rfl, Dg.wQ (by omega) _, by simp, by simp [lK, bk], hh⟩
 ·clear hh
  rintro ρ' v w' ⟨i, L, hi, rfl, hLd, hLl, hLv, hh⟩
  by_cases hlt : i < xs.length
  ·obtain ⟨m, hm⟩ := aR (l := xs) (k := i) (by omega)
   have hm2 := dH hm
   have hmw := hxd.at_ hm
   have hpl : (L.take i).length = i := by rw [List.length_take]; omega
   have hsl : (L.drop i).length = xs.length + ys.length + 1 - i := by rw [List.length_drop]; omega
   refine sr ?_
   refine aZ (aa (ai (cT (al (aj (ai (aq (sr (mI ?_)))))))))
   refine bs (k := i) aJ.out aC.size rfl rfl (by omega) (by omega) (by decide) ?_
   refine bJ aC.out rfl (hh.cE (i := 2) rfl (by first | assumption | (simp only [Nat.mul_one]; assumption))) (by decide) ?_
   refine aI (aI (aa (au (mL (mI ?_)))))
   first | refine mW (l := i) aJ.out aC.size rfl rfl (by omega) (by omega) (by omega) (by omega) (by decide) ?_ | refine l7 (l := i) aJ.out aC.size rfl rfl (by omega) (by omega) (by omega) (by omega) (by decide) ?_
   refine mL (mI ?_)
   have hc := rP (c' := xs.length + ys.length + 1 - i) (ny := ys.length) (cy := c13) (m := m) (Y := some ⟨A13, 0, none⟩) (L.take i) (L.drop i) [] ys _ (by rw [List.append_nil, List.take_append_drop]; exact hh) (fun w1 cs h => h.az (i := 1) rfl) (hLd.drop i) hyd hmw (by omega) (by omega)
   rw [hpl, hsl, List.append_nil] at hc
   rw [Nat.zero_add, Nat.mul_one]
   refine aH (hc) ar.out rfl (by decide) ?_
   rintro e_ w_ ⟨rfl, hh⟩
   refine ⟨_, rfl, ?_⟩
   have hlt1 := fN (hxd.take (i + 1))
   have hlt2 := fN hyd
   rw [List.length_take, Nat.min_eq_left (by omega)] at hlt1
   have hsn := ez (B := 18446744073709551616) hm
   have hsplit := fV (B := 18446744073709551616) L i (by omega)
   have hnew : 18446744073709551616 ^ i * (bk 18446744073709551616 (L.drop i) + bk 18446744073709551616 ys * m + 0) + bk 18446744073709551616 (L.take i) = bk 18446744073709551616 (xs.take (i + 1)) * bk 18446744073709551616 ys := by
    rw [hsn, Nat.add_mul, ← hLv, hsplit, Nat.add_zero, Nat.mul_add, Nat.mul_assoc, Nat.mul_comm m]; omega
   have hbd : bk 18446744073709551616 (L.drop i) + bk 18446744073709551616 ys * m + 0 < 18446744073709551616 ^ (L.drop i).length := by
    refine Nat.lt_of_mul_lt_mul_left (a := 18446744073709551616 ^ i) ?_
    rw [← Nat.pow_add, hsl]
    refine Nat.lt_of_le_of_lt (Nat.le_add_right _ (bk 18446744073709551616 (L.take i))) ?_
    rw [hnew]
    refine Nat.lt_of_lt_of_le (Nat.mul_lt_mul'' hlt1 hlt2) ?_
    rw [← Nat.pow_add]
    exact Nat.pow_le_pow_right (by decide) (by omega)
   have hdp := o9 (B := 18446744073709551616) (by omega) _ _ _ _ hbd
   refine aK (a3 (aj (au ?_)))
   refine bO (mI (aK (aj ?_)))
   refine ⟨⟨i + 1, L.take i ++ fc 18446744073709551616 (L.drop i) ys m 0, by omega, rfl, (hLd.take i).append (q9 (by omega) _ _ _ _), by rw [List.length_append, ks, hpl, hsl]; omega, ?_, hh⟩, by show xs.length - (i + 1) < xs.length - i; omega, ?_⟩
   ·rw [dP, hdp, hpl, Nat.add_comm]; exact hnew
   (repeat (first | exact aA _ _ _ | refine aE rfl ?_ | refine ax rfl ?_))
  ·obtain rfl : i = xs.length := by omega
   rw [List.take_length, hX, hY] at hLv
   refine sr ?_
   refine aZ (aa (ai (cF ?_)))
   refine a4 ?_
   refine aD (aD (bp (aj (sr (mL ?_)))))
   refine bE hh (fx _ _ _ L _ (hh.az (i := 0) rfl) hLd (Nat.le_refl _) (by omega)) rfl ?_
   intro w36 hh
   rw [hLv]
   refine aS (aa (ao ?_))
   refine cd ?_
   exact ⟨rfl, hh.below⟩
theorem ym {n d r k : Nat} (hd : d ≠ 0) (hdw : d < 18446744073709551616) (hn : n = 18446744073709551616 ^ k * (d + 18446744073709551616 * r)) : tz n = 64 * k + tz d := by
 obtain ⟨m, hm⟩ := mu hd
 have ht : tz d < 64 := oR hd (by simpa using hdw)
 have hW : (18446744073709551616 : Nat) = 2 ^ 64 := by decide
 generalize tz d = t at *
 have e : n = 2 ^ (64 * k + t) * (2 * (m + 2 ^ (63 - t) * r) + 1) := by
  rw [hn, Nat.pow_add, Nat.pow_mul, ← hW, Nat.mul_assoc]
  congr 1
  have h1 : 18446744073709551616 = 2 ^ t * (2 * 2 ^ (63 - t)) := by rw [hW, ← Nat.pow_succ', ← Nat.pow_add]; congr 1; omega
  have h2 : 18446744073709551616 * r = 2 ^ t * (2 * 2 ^ (63 - t) * r) := by rw [← Nat.mul_assoc, ← h1]
  rw [h2]
  conv => lhs; rw [hm]
  rw [← Nat.mul_add]
  congr 1
  rw [Nat.mul_add, Nat.mul_assoc]; omega
 rw [e, tR]
theorem gB (a : ByteArray) (w : World) (ha : a.size ≤ 1000000000) (hT : gM w) :
  Calls Tryz.prog 197 #[.string a] w fun e w' => e = .returned (.int .i64 (tz (bN a))) ∧ Below w.heap.size w w' := by
 have hh := Hp.start w
 have h1 := eH a
 refine ak (N := 21) (l := [.string a]) Tryz.func197 rfl rfl (by simp) ?_
 refine sr (aI (aa (ai (sr (mS ?_)))))
 refine aH (cQ a _ ha) ar.out rfl (by decide) ?_
 rintro e_ w6 ⟨A6, c6, rfl, hown_, hb_⟩
 refine ⟨_, rfl, ?_⟩
 replace hh := hh.a9 (x := .row _ _ _ _ _ _) hb_ hown_
 have hxd := e8 (bN a)
 have hX := eV (bN a)
 generalize aT 18446744073709551616 (bN a) = xs at *
 refine a5 (mI (aa (aq ?_)))
 refine bD [2, 3, 4, 8, 9, 10, 11, 12, 13, 14, 15, 16, 17, 18, 19, 20] 8
  (fun v w' => ∃ (i : Nat), i ≤ xs.length ∧ v = .int .i64 i ∧ bk 18446744073709551616 (xs.take i) = 0 ∧ Hp w [.row (some ⟨A6, 0, none⟩) xs.length c6 195 1 (cu xs)] w')
  (fun v _ => xs.length - (intOf v).toNat) ?_ ?_
 ·exact ⟨0, Nat.zero_le _, rfl, rfl, hh⟩
 ·clear hh
  rintro ρ' v w' ⟨i, hi, rfl, hz, hh⟩
  by_cases hlt : i < xs.length
  ·obtain ⟨d, hm⟩ := aR (l := xs) (k := i) (by omega)
   have hm2 := dH hm
   have hmw := hxd.at_ hm
   by_cases h0 : d = 0
   ·subst h0
    refine sr ?_
    refine aZ (aa (ai (cT (al (aj (ai (aq (sr (mI ?_)))))))))
    refine bs (k := i) aJ.out aC.size rfl rfl (by omega) (by omega) (by decide) ?_
    refine bJ aC.out rfl (hh.cE (i := 0) rfl (by first | assumption | (simp only [Nat.mul_one]; assumption))) (by decide) ?_
    refine aI (aI (aa (sr (mI ?_))))
    refine dR (aa (cF (al (a3 (aj (au ?_))))))
    refine bO (mI (aK (aj ?_)))
    refine ⟨⟨i + 1, by omega, rfl, by rw [ez hm, hz]; simp, hh⟩, by show xs.length - (i + 1) < xs.length - i; omega, ?_⟩
    (repeat (first | exact aA _ _ _ | refine aE rfl ?_ | refine ax rfl ?_))
   ·have htz : tz (bN a) = 64 * i + tz d := by
     have h3 := fV (B := 18446744073709551616) xs i (by omega)
     have h4 := (List.getElem?_eq_some_iff.1 hm)
     rw [hz, List.drop_eq_getElem_cons hlt, h4.2, bk, hX, Nat.zero_add] at h3
     exact ym h0 hmw h3
    have ht : tz d < 64 := oR h0 (by simpa using hmw)
    refine sr ?_
    refine aZ (aa (ai (cT (al (aj (ai (aq (sr (mI ?_)))))))))
    refine bs (k := i) aJ.out aC.size rfl rfl (by omega) (by omega) (by decide) ?_
    refine bJ aC.out rfl (hh.cE (i := 0) rfl (by first | assumption | (simp only [Nat.mul_one]; assumption))) (by decide) ?_
    refine aI (aI (aa (sr (mI ?_))))
    refine dR (aa (cT (sr (mI ?_))))
    refine mulC (mI ?_)
    refine bE hh (si _ _ hmw h0 (hT.hp hh)) rfl ?_
    intro w18 hh
    refine bO (aI (aa (ao (bU (aM (aM (bU (aM ?_))))))))
    refine cd ?_
    refine ⟨?_, hh.below⟩
    congr 2
    omega
  ·refine sr ?_
   refine aZ (aa (ai (cF ?_)))
   refine a4 ?_
   refine aD (aD (bp (aj (sr (aI (aa (ao ?_)))))))
   refine cd ?_
   rw [List.take_of_length_le (by omega), hX] at hz
   rw [hz]
   exact ⟨rfl, hh.below⟩
theorem x5 {x y k : Nat} (hx : x < 18446744073709551616 ^ k) (hy : y < 18446744073709551616 ^ k) : bk 18446744073709551616 (fc 18446744073709551616 (aT 18446744073709551616 x ++ List.replicate (k + 1 - (aT 18446744073709551616 x).length) 0) (aT 18446744073709551616 y) 1 0) = x + y := by
 have hl := fA (B := 18446744073709551616) (by omega) hx
 have h1 : bk 18446744073709551616 (aT 18446744073709551616 x ++ List.replicate (k + 1 - (aT 18446744073709551616 x).length) 0) = x := by rw [dP, lK, eV]; simp
 have h2 : (aT 18446744073709551616 x ++ List.replicate (k + 1 - (aT 18446744073709551616 x).length) 0).length = k + 1 := by rw [List.length_append, List.length_replicate]; omega
 rw [o9 (by omega), h1, eV]
 ·omega
 ·rw [h1, h2, eV, Nat.pow_succ]
  have : 0 < 18446744073709551616 ^ k := Nat.pow_pos (by decide)
  omega
theorem lF (l : List Nat) (x : Nat) : (l ++ [x]).sum = l.sum + x := by simp
theorem pw (L : Option Addr) (n c : Nat) (ss : List ByteArray) (w : World) (hS : Sl w L n 1 (qK ss)) (hn : n ≤ 1000000) (hs : ∀ s ∈ ss, s.size ≤ 1000000000) :
  Calls Tryz.prog 226 #[.slice L n c] w fun e w' => e = .returned (.string (sN (ss.map bN).sum)) ∧ Below w.heap.size w w' := by
 have hsl : ss.length = n := by have := hS.1; rw [l4] at this; omega
 have hh := Hp.start w
 refine ak (N := 31) (l := [.slice L n c]) Tryz.func226 rfl rfl (by simp) ?_
 refine sr (aS (aa (sr (aL (aa (ai (sr (mL (a5 (mI (aa ?_)))))))))))
 refine aq ?_
 replace hh := hh.fE 195 1
 refine cY [3, 5, 6, 9, 10, 11, 12, 13, 14, 15, 16, 17, 18, 19, 20, 21, 22, 23, 24, 25, 26, 27, 28] 3 9
  (fun v j w' => ∃ (i : Nat) (A : Option Addr) (c' T : Nat), i ≤ n ∧ j = .int .i64 i ∧ T = ((ss.take i).map bN).sum ∧ v = .slice A (aT 18446744073709551616 T).length c' ∧ (aT 18446744073709551616 T).length ≤ 125000001 + i ∧ Hp w [.row A (aT 18446744073709551616 T).length c' 195 1 (cu (aT 18446744073709551616 T))] w')
  (fun _ j _ => n - (intOf j).toNat) ?_ ?_
 ·exact ⟨0, none, 0, 0, Nat.zero_le _, rfl, rfl, by rw [eS (by omega)]; rfl, by rw [eS (by omega)]; simp, by rw [eS (by omega)]; exact hh⟩
 ·clear hh
  rintro ρ' v j w' ⟨i, A, c', T, hi, rfl, hT, rfl, hTl, hh⟩
  by_cases hlt : i < n
  ·obtain ⟨s, hsi⟩ := aR (l := ss) (k := i) (by omega)
   obtain ⟨ad, rfl, hr⟩ := hS.at_ (by omega)
   have hs2 := tI hsi
   have hsz := hs s (List.mem_of_getElem? hsi)
   have hlx := eH s
   have hT2 : ((ss.take (i + 1)).map bN).sum = T + bN s := by rw [aW hsi, List.map_append, List.map_singleton, lF, hT]
   have e1 : (if ((aT 18446744073709551616 (bN s)).length : Int) > ((aT 18446744073709551616 T).length : Int) then ((aT 18446744073709551616 (bN s)).length : Int) else ((aT 18446744073709551616 T).length : Int)) + 1 = ((max (aT 18446744073709551616 T).length (aT 18446744073709551616 (bN s)).length + 1 : Nat) : Int) := by split <;> omega
   have hb1 : T < 18446744073709551616 ^ max (aT 18446744073709551616 T).length (aT 18446744073709551616 (bN s)).length := Nat.lt_of_lt_of_le (jL (by omega) T) (Nat.pow_le_pow_right (by decide) (Nat.le_max_left _ _))
   have hb2 : bN s < 18446744073709551616 ^ max (aT 18446744073709551616 T).length (aT 18446744073709551616 (bN s)).length := Nat.lt_of_lt_of_le (jL (by omega) (bN s)) (Nat.pow_le_pow_right (by decide) (Nat.le_max_right _ _))
   have hadd := x5 hb1 hb2
   refine sr ?_
   refine aZ (aa (ai (cT (al (aj (ai (aq (sr ?_))))))))
   refine a0 aJ.out aC.size rfl rfl rfl (by omega) (by decide) ?_
   refine bJ aC.out rfl ((hr.ext hh.below).mg (by assumption)) (by decide) ?_
   refine aS (aa (sr (mS ?_)))
   refine aH (cQ s _ hsz) ar.out rfl (by decide) ?_
   rintro e_ w14 ⟨A14, c14, rfl, hown_, hb_⟩
   refine ⟨_, rfl, ?_⟩
   replace hh := hh.a9 (x := .row _ _ _ _ _ _) hb_ hown_
   refine aL (aa (sr (mL (mL (a5 (mL (a5 ?_)))))))
   refine jc rfl rfl (by decide) ?_
   refine bO ?_
   rw [e1]
   generalize hM : max (aT 18446744073709551616 T).length (aT 18446744073709551616 (bN s)).length = M at *
   refine aH (jZ _ _ _ (M + 1) _ _ (hh.az (i := 1) rfl) (by omega) (by omega)) ar.out rfl (by decide) ?_
   rintro e_ w_ ⟨b22, rfl, hown_, hb_⟩
   refine ⟨_, rfl, ?_⟩
   replace hh := hh.a9 (x := .row _ _ _ _ _ _) hb_ hown_
   have e2 : max (M + 1) (aT 18446744073709551616 T).length = M + 1 := by omega
   rw [e2] at hh
   rw [e2]
   refine aL (aa (sr (mL (mL ?_))))
   have hc := r8 (c' := M + 1) (ny := (aT 18446744073709551616 (bN s)).length) (cy := c14) (Y := some ⟨A14, 0, none⟩) [] (aT 18446744073709551616 T ++ List.replicate (M + 1 - (aT 18446744073709551616 T).length) 0) [] (aT 18446744073709551616 (bN s)) _ (by rw [List.append_nil, List.nil_append]; exact hh) (fun w1 cs h => h.az (i := 1) rfl) ((e8 _).append (Dg.wQ (by omega) _)) (e8 _) (by rw [List.length_append, List.length_replicate]; omega) (by omega)
   have e3 : (aT 18446744073709551616 T ++ List.replicate (M + 1 - (aT 18446744073709551616 T).length) 0).length = M + 1 := by rw [List.length_append, List.length_replicate]; omega
   rw [e3, List.append_nil, List.nil_append] at hc
   refine aH (hc) ar.out rfl (by decide) ?_
   rintro e_ w_ ⟨rfl, hh⟩
   refine ⟨_, rfl, ?_⟩
   have hpl : (fc 18446744073709551616 (aT 18446744073709551616 T ++ List.replicate (M + 1 - (aT 18446744073709551616 T).length) 0) (aT 18446744073709551616 (bN s)) 1 0).length = M + 1 := by rw [ks, e3]
   have hpd := q9 (B := 18446744073709551616) (by omega) (aT 18446744073709551616 T ++ List.replicate (M + 1 - (aT 18446744073709551616 T).length) 0) (aT 18446744073709551616 (bN s)) 1 0
   generalize fc 18446744073709551616 (aT 18446744073709551616 T ++ List.replicate (M + 1 - (aT 18446744073709551616 T).length) 0) (aT 18446744073709551616 (bN s)) 1 0 = Z at *
   have hcz : di Z = aT 18446744073709551616 (T + bN s) := by rw [eB (by omega) hpd, hadd]
   have hcl := er Z
   refine aa (au (mL ?_))
   refine bE hh (fB _ _ _ Z _ (hh.az (i := 0) rfl) (Nat.le_refl _) (by omega)) rfl ?_
   intro w27 hh
   replace hh := (hh.tO hpl).sub (List.sublist_append_left [_] _)
   rw [hcz] at *
   refine aL (aK (a3 (aj (au ?_))))
   refine bO (mI (aK (aj ?_)))
   refine ⟨⟨i + 1, _, _, T + bN s, by omega, rfl, hT2.symm, rfl, by omega, hh⟩, by show n - (i + 1) < n - i; omega, ?_⟩
   (repeat (first | exact aA _ _ _ | refine aE rfl ?_ | refine ax rfl ?_))
  ·refine sr ?_
   refine aZ (aa (ai (cF ?_)))
   refine a4 ?_
   refine aD (aD (bp (aj (sr (mL ?_)))))
   refine bE hh (fx _ _ _ (aT 18446744073709551616 T) _ (hh.az (i := 0) rfl) (e8 _) (hh.dh (i := 0) rfl) (by omega)) rfl ?_
   intro w30 hh
   rw [eV]
   refine aS (aa (ao ?_))
   refine cd ?_
   rw [List.take_of_length_le (by omega)] at hT
   rw [hT]
   exact ⟨rfl, hh.below⟩
end Go.Proofs.YtkgdagjklakajaaGreatDoor
namespace Go.Proofs.YtkgdagjklakajaaGreatDoor
open Go.RowKit
theorem rS (s : ByteArray) (l h : Nat) : s.extract l h = str ((s.data.toList.take h).drop l) := by
 apply sg
 rw [cD]
 simp [ByteArray.extract, ByteArray.copySlice, List.drop_take]
def zz : Value → Nat
 | .string t => t.size
 | _ => 0
theorem mE (s : ByteArray) (w : World) :
  Calls Tryz.prog 257 #[.string s, .int .u8 ((0 : UInt8).toNat : Int)] w fun e w' => e = .returned (.string (sN (bN s))) ∧ Below w.heap.size w w' := by
 have hh := Hp.start w
 refine ak (N := 17) (l := [.string s, .int .u8 ((0 : UInt8).toNat : Int)]) Tryz.func257 rfl rfl (by simp) ?_
 refine sr (aS (aa (ai (aq ?_))))
 refine bD [0, 5, 6, 7, 8, 9, 10, 11, 12, 13, 14, 15] 0
  (fun v w' => ∃ l : List UInt8, v = .string (str l) ∧ l.length ≤ s.size ∧ bn l = bN s ∧ w' = w)
  (fun v _ => zz v) ?_ ?_
 ·exact ⟨s.data.toList, by rw [wI]; rfl, by rw [dF]; exact Nat.le_refl _, rfl, rfl⟩
 ·rintro ρ' v w' ⟨l, rfl, hl, hb, rfl⟩
  have hsz := gI l
  cases l with
  | nil =>
   refine ai (sr (mS ?_))
   refine bB aJ.out rfl (by decide) ?_
   refine cg (mB ?_)
   first | refine gS ?_ | (refine gT ?_; refine mS ?_) | refine gV ?_
   first | refine gS ?_ | (refine gT ?_; refine bL aJ.out rfl rfl (by omega) (by assumption) (by decide) ?_) | refine gV ?_
   first | refine gS ?_ | (refine gT ?_; refine mI ?_) | refine gV ?_
   first | refine gS ?_ | (refine gT ?_; refine cI ?_) | refine gV ?_
   first | refine ct ?_ | refine cq ?_
   refine aa (cF ?_)
   refine a4 ?_
   refine aD (aD (bp (aj (sr (mS (aS (aa (ao ?_))))))))
   refine cd ?_
   rw [sN, ← hb]
   exact ⟨rfl, hh.below⟩
  | cons c l =>
   have hc0 : (str (c :: l)).data.toList[(0 : Int).toNat]? = some c := by rw [cD]; rfl
   have hc8 := c.toNat_lt
   have hlen : (str (c :: l)).size = l.length + 1 := by rw [hsz]; rfl
   have hz : (0 : UInt8).toNat = 0 := rfl
   by_cases h0 : c = 0
   ·subst h0
    refine ai (sr (mS ?_))
    refine bB aJ.out rfl (by decide) ?_
    refine cg (mB ?_)
    first | refine gS ?_ | (refine gT ?_; refine mS ?_) | refine gV ?_
    first | refine gS ?_ | (refine gT ?_; refine bL aJ.out rfl rfl (by omega) (by assumption) (by decide) ?_) | refine gV ?_
    first | refine gS ?_ | (refine gT ?_; refine mI ?_) | refine gV ?_
    first | refine gS ?_ | (refine gT ?_; refine cI ?_) | refine gV ?_
    first | refine ct ?_ | refine cq ?_
    refine aa (cT (al (aj (aq (au (mS ?_))))))
    refine lS (l := 1) (h := (str ((0 : UInt8) :: l)).size) aJ.out rfl ⟨_, _, rfl, by omega⟩ rfl (by omega) (by omega) (by decide) ?_
    refine aS (aK (a3 (aj ?_)))
    rw [rS, cD, List.take_of_length_le (by rw [hlen]; simp), List.drop_succ_cons, List.drop_zero]
    refine ⟨⟨l, rfl, by simp at hl; omega, by rw [← hb, wK], rfl⟩, ?_, ?_⟩
    ·show (str l).size < (str (0 :: l)).size
     rw [hlen, gI]; omega
    (repeat (first | exact aA _ _ _ | refine aE rfl ?_ | refine ax rfl ?_))
   ·have hcn : c.toNat ≠ 0 := fun h => h0 (UInt8.toNat_inj.1 h)
    refine ai (sr (mS ?_))
    refine bB aJ.out rfl (by decide) ?_
    refine cg (mB ?_)
    first | refine gS ?_ | (refine gT ?_; refine mS ?_) | refine gV ?_
    first | refine gS ?_ | (refine gT ?_; refine bL aJ.out rfl rfl (by omega) (by assumption) (by decide) ?_) | refine gV ?_
    first | refine gS ?_ | (refine gT ?_; refine mI ?_) | refine gV ?_
    first | refine gS ?_ | (refine gT ?_; refine cI ?_) | refine gV ?_
    first | refine ct ?_ | refine cq ?_
    refine aa (cF ?_)
    refine a4 ?_
    refine aD (aD (bp (aj (sr (mS (aS (aa (ao ?_))))))))
    refine cd ?_
    rw [sN, ← hb, Ao (by simpa using h0)]
    exact ⟨rfl, hh.below⟩
theorem m4 (s : ByteArray) (w : World) :
  Calls Tryz.prog 248 #[.string s, .string (ByteArray.mk #[0])] w fun e w' => e = .returned (.string (sN (bN s))) ∧ Below w.heap.size w w' := by
 have hh := Hp.start w
 have hne : ¬ ByteArray.mk #[(0 : UInt8)] = ByteArray.mk #[] := by intro h; injection h with h; simp at h
 have hsz1 : (ByteArray.mk #[(0 : UInt8)]).size = 1 := rfl
 have hc0 : (ByteArray.mk #[(0 : UInt8)]).data.toList[(0 : Int).toNat]? = some 0 := rfl
 have hz : (0 : UInt8).toNat = 0 := rfl
 by_cases h0 : s = ByteArray.mk #[]
 ·subst h0
  refine ak (N := 37) (l := [.string (ByteArray.mk #[]), .string (ByteArray.mk #[0])]) Tryz.func248 rfl rfl (by simp) ?_
  refine sr (aS (aa (ai (sr (mS ?_)))))
  first | refine ec rfl rfl (by first | rfl | assumption | decide) (by decide) ?_ | refine ef rfl rfl (by first | assumption | decide) (by decide) ?_
  refine mB ?_
  first | refine gS ?_ | (refine gT ?_; refine mS ?_) | refine gV ?_
  first | refine gS ?_ | (refine gT ?_; (first | refine ec rfl rfl (by first | rfl | assumption | decide) (by decide) ?_ | refine ef rfl rfl (by first | assumption | decide) (by decide) ?_)) | refine gV ?_
  first | refine ct ?_ | refine cq ?_
  refine aa (cT (sr (mS (aS (aa (ao (aM ?_)))))))
  refine cd ?_
  rw [show bN (ByteArray.mk #[]) = 0 from rfl, gl]
  exact ⟨rfl, hh.below⟩
 ·refine ak (N := 37) (l := [.string s, .string (ByteArray.mk #[0])]) Tryz.func248 rfl rfl (by simp) ?_
  refine sr (aS (aa (ai (sr (mS ?_)))))
  first | refine ec rfl rfl (by first | rfl | assumption | decide) (by decide) ?_ | refine ef rfl rfl (by first | assumption | decide) (by decide) ?_
  refine mB ?_
  first | refine gS ?_ | (refine gT ?_; refine mS ?_) | refine gV ?_
  first | refine gS ?_ | (refine gT ?_; (first | refine ec rfl rfl (by first | rfl | assumption | decide) (by decide) ?_ | refine ef rfl rfl (by first | assumption | decide) (by decide) ?_)) | refine gV ?_
  first | refine ct ?_ | refine cq ?_
  refine aa (cF (al (aj (ai (sr (mS ?_))))))
  refine bB aJ.out rfl (by decide) ?_
  refine cI (mB ?_)
  first | refine gS ?_ | (refine gT ?_; refine mS ?_) | refine gV ?_
  first | refine gS ?_ | (refine gT ?_; refine bL aJ.out rfl rfl (by omega) (by assumption) (by decide) ?_) | refine gV ?_
  first | refine gS ?_ | (refine gT ?_; refine aZ ?_) | refine gV ?_
  first | refine ct ?_ | refine cq ?_
  refine aa (cT (sr (mS (mS ?_))))
  refine bL aJ.out rfl rfl (by omega) (by assumption) (by decide) ?_
  refine bE hh (mE s _) rfl ?_
  intro w25 hh
  refine aS (aa (ao (aM ?_)))
  refine cd ?_
  exact ⟨rfl, hh.below⟩
theorem hZ (s : ByteArray) (w : World) :
  Calls Tryz.prog 229 #[.string s] w fun e w' => e = .returned (.string (sN (bN s))) ∧ Below w.heap.size w w' := by
 have hh := Hp.start w
 refine ak (N := 5) (l := [.string s]) Tryz.func229 rfl rfl (by simp) ?_
 refine sr (aS (aa (sr (mS ?_))))
 refine bE hh (m4 s _) rfl ?_
 intro w4 hh
 refine aS (aa (ao ?_))
 refine cd ?_
 exact ⟨rfl, hh.below⟩
end Go.Proofs.YtkgdagjklakajaaGreatDoor
/- Several texts in one: Whole, WholeB, WholeC, Dy. -/
namespace Go.Proofs.YtkgdagjklakajaaGreatDoor
open Go.RowKit
def iv (s : Bool) (m : ByteArray) : Int := if s then -(bN m : Int) else bN m
def iN (z : Int) : Bool := decide (z < 0)
def iM (z : Int) : ByteArray := sN z.natAbs
theorem fw (z : Int) : iv (iN z) (iM z) = z := by
 unfold iv iN iM
 rw [eb]
 by_cases h : z < 0
 ·rw [decide_eq_true h, if_pos rfl]; omega
 ·rw [decide_eq_false h, if_neg (by simp)]; omega
theorem mw {z : Int} : iM z = ByteArray.mk #[] ↔ z = 0 := by
 rw [iM, ← gl]
 constructor
 ·intro h; have := sC h; omega
 ·intro h; rw [h]; rfl
theorem gL (s : Bool) (m : ByteArray) : (iv s m).natAbs = bN m := by
 unfold iv; split <;> omega
theorem tk (s : Bool) (m : ByteArray) : iM (iv s m) = sN (bN m) := by rw [iM, gL]
theorem yN (s : Bool) (m : ByteArray) : iN (iv s m) = (s && decide (bN m ≠ 0)) := by
 unfold iN iv
 rw [Bool.eq_iff_iff, Bool.and_eq_true, decide_eq_true_eq, decide_eq_true_eq]
 cases s
 ·simp only [Bool.false_eq_true, if_false, false_and, iff_false]; omega
 ·simp only [if_true, true_and]; omega
theorem jA (s : Bool) (m : ByteArray) (w : World) :
  Calls Tryz.prog 200 #[.agg #[.bool s, .string m]] w fun e w' => e = .returned (.agg #[.string m, .bool s]) ∧ Below w.heap.size w w' := by
 have hh := Hp.start w
 refine ak (N := 8) (l := [.agg #[.bool s, .string m]]) Tryz.func200 rfl rfl (by simp) ?_
 refine sr ?_
 refine dp hh [_,_] ?_
 intro b1 w1 hh
 refine cj hh ?_
 intro b2 w2 hh
 refine aa (sr (bP ?_))
 refine bQ hh 1 ?_
 refine bP ?_
 refine bQ hh 1 ?_
 refine eM [_,_] ?_
 refine bK hh 0 [_,_] ?_
 intro ws hh
 replace hh : Hp _ (.blk _ _ [_, _] _ :: _) _ := hh
 refine aa (ao ?_)
 refine hO (aU rfl (aV (vs := [_, _]) aC.out (hh.aw (i := 0) (n := 2) rfl rfl) rfl) bg) ?_
 exact ⟨rfl, hh.below⟩
theorem df (s : Bool) (m : ByteArray) (w : World) :
  Calls Tryz.prog 201 #[.agg #[.string m, .bool s]] w fun e w' => e = .returned (.agg #[.bool (iN (iv s m)), .string (iM (iv s m))]) ∧ Below w.heap.size w w' := by
 have hh := Hp.start w
 rw [yN, tk]
 cases s with
 | false =>
  refine ak (N := 15) (l := [.agg #[.string m, .bool false]]) Tryz.func201 rfl rfl (by simp) ?_
  refine sr ?_
  refine dp hh [_,_] ?_
  intro b1 w1 hh
  refine cj hh ?_
  intro b2 w2 hh
  refine aa (sr (bP ?_))
  refine bQ hh 1 ?_
  refine bE hh (hZ m _) rfl ?_
  intro w6 hh
  refine aS (aa (sr (bP ?_)))
  refine bQ hh 1 ?_
  refine mB ?_
  first | refine gS ?_ | (refine gT ?_; refine mS ?_) | refine gV ?_
  first | refine gS ?_ | (refine gT ?_; (first | refine fy rfl rfl (by first | rfl | assumption | decide) (by decide) ?_ | refine fv rfl rfl (by first | assumption | decide) (by decide) ?_)) | refine gV ?_
  first | refine ct ?_ | refine cq ?_
  refine mS ?_
  refine eM [_,_] ?_
  refine bK hh 0 [_,_] ?_
  intro ws hh
  replace hh : Hp _ (.blk _ _ [_, _] _ :: _) _ := hh
  refine aa (ao ?_)
  refine hO (aU rfl (aV (vs := [_, _]) aC.out (hh.aw (i := 0) (n := 2) rfl rfl) rfl) bg) ?_
  exact ⟨rfl, hh.below⟩
 | true =>
  by_cases h0 : sN (bN m) = ByteArray.mk #[]
  ·refine ak (N := 15) (l := [.agg #[.string m, .bool true]]) Tryz.func201 rfl rfl (by simp) ?_
   refine sr ?_
   refine dp hh [_,_] ?_
   intro b1 w1 hh
   refine cj hh ?_
   intro b2 w2 hh
   refine aa (sr (bP ?_))
   refine bQ hh 1 ?_
   refine bE hh (hZ m _) rfl ?_
   intro w6 hh
   refine aS (aa (sr (bP ?_)))
   refine bQ hh 1 ?_
   refine mB ?_
   first | refine gS ?_ | (refine gT ?_; refine mS ?_) | refine gV ?_
   first | refine gS ?_ | (refine gT ?_; (first | refine fy rfl rfl (by first | rfl | assumption | decide) (by decide) ?_ | refine fv rfl rfl (by first | assumption | decide) (by decide) ?_)) | refine gV ?_
   first | refine ct ?_ | refine cq ?_
   refine mS ?_
   refine eM [_,_] ?_
   refine bK hh 0 [_,_] ?_
   intro ws hh
   replace hh : Hp _ (.blk _ _ [_, _] _ :: _) _ := hh
   refine aa (ao ?_)
   refine hO (aU rfl (aV (vs := [_, _]) aC.out (hh.aw (i := 0) (n := 2) rfl rfl) rfl) bg) ?_
   have h1 : bN m = 0 := by rw [← gl] at h0; exact sC h0
   rw [decide_eq_false (by omega)]
   exact ⟨rfl, hh.below⟩
  ·refine ak (N := 15) (l := [.agg #[.string m, .bool true]]) Tryz.func201 rfl rfl (by simp) ?_
   refine sr ?_
   refine dp hh [_,_] ?_
   intro b1 w1 hh
   refine cj hh ?_
   intro b2 w2 hh
   refine aa (sr (bP ?_))
   refine bQ hh 1 ?_
   refine bE hh (hZ m _) rfl ?_
   intro w6 hh
   refine aS (aa (sr (bP ?_)))
   refine bQ hh 1 ?_
   refine mB ?_
   first | refine gS ?_ | (refine gT ?_; refine mS ?_) | refine gV ?_
   first | refine gS ?_ | (refine gT ?_; (first | refine fy rfl rfl (by first | rfl | assumption | decide) (by decide) ?_ | refine fv rfl rfl (by first | assumption | decide) (by decide) ?_)) | refine gV ?_
   first | refine ct ?_ | refine cq ?_
   refine mS ?_
   refine eM [_,_] ?_
   refine bK hh 0 [_,_] ?_
   intro ws hh
   replace hh : Hp _ (.blk _ _ [_, _] _ :: _) _ := hh
   refine aa (ao ?_)
   refine hO (aU rfl (aV (vs := [_, _]) aC.out (hh.aw (i := 0) (n := 2) rfl rfl) rfl) bg) ?_
   have h1 : bN m ≠ 0 := fun h => h0 (by rw [h, gl])
   rw [decide_eq_true h1]
   exact ⟨rfl, hh.below⟩
def AU (s : Bool) (m : ByteArray) : Value := .agg #[.string m, .bool s]
theorem mN (a b : ByteArray) (w : World) (ha : a.size ≤ 1000000000) (hb : b.size ≤ 1000000000) :
  Calls Tryz.prog 227 #[.string a, .string b] w fun e w' => e = .returned (.int .i64 (im (bN a) (bN b))) ∧ Below w.heap.size w w' := by
 have hh := Hp.start w
 refine ak (N := 8) (l := [.string a, .string b]) Tryz.func227 rfl rfl (by simp) ?_
 refine sr (aI (aa (sr (mS (mS ?_)))))
 refine bE hh (pS a b _ ha hb) rfl ?_
 intro w7 hh
 refine aI (aa (ao ?_))
 refine cd ?_
 exact ⟨rfl, hh.below⟩
theorem jd (s : Bool) (m : ByteArray) (w : World) :
  Calls Tryz.prog 204 #[.agg #[.bool s, .string m]] w fun e w' => e = .returned (.agg #[.bool (iN (iv s m)), .string (iM (iv s m))]) ∧ Below w.heap.size w w' := by
 have hh := Hp.start w
 refine ak (N := 6) (l := [.agg #[.bool s, .string m]]) Tryz.func204 rfl rfl (by simp) ?_
 refine sr ?_
 refine dp hh [_,_] ?_
 intro b1 w1 hh
 refine cj hh ?_
 intro b2 w2 hh
 refine aa (sr ?_)
 refine cf hh 1 [_,_] ?_
 refine bE hh (jA s m _) rfl ?_
 intro w4 hh
 refine bE hh (df s m _) rfl ?_
 intro w5 hh
 refine bK hh 0 [_,_] ?_
 intro ws hh
 replace hh : Hp _ (.blk _ _ [_, _] _ :: _) _ := hh
 refine aa (ao ?_)
 refine hO (aU rfl (aV (vs := [_, _]) aC.out (hh.aw (i := 0) (n := 2) rfl rfl) rfl) bg) ?_
 exact ⟨rfl, hh.below⟩
theorem sF (s : Bool) (m : ByteArray) (w : World) :
  Calls Tryz.prog 188 #[.agg #[.bool s, .string m]] w fun e w' => e = .returned (.agg #[.bool (iN (-(iv s m))), .string (iM (-(iv s m)))]) ∧ Below w.heap.size w w' := by
 have hh := Hp.start w
 have e1 : iv (!s) m = -(iv s m) := by unfold iv; cases s <;> simp
 refine ak (N := 10) (l := [.agg #[.bool s, .string m]]) Tryz.func188 rfl rfl (by simp) ?_
 refine sr ?_
 refine dp hh [_,_] ?_
 intro b1 w1 hh
 refine cj hh ?_
 intro b2 w2 hh
 refine aa (sr (bP ?_))
 refine bQ hh 1 ?_
 refine bP ?_
 refine bQ hh 1 ?_
 refine eo ?_
 refine eM [_,_] ?_
 refine bE hh (df (!s) m _) rfl ?_
 intro w9 hh
 rw [e1]
 refine bK hh 0 [_,_] ?_
 intro ws hh
 replace hh : Hp _ (.blk _ _ [_, _] _ :: _) _ := hh
 refine aa (ao ?_)
 refine hO (aU rfl (aV (vs := [_, _]) aC.out (hh.aw (i := 0) (n := 2) rfl rfl) rfl) bg) ?_
 exact ⟨rfl, hh.below⟩
theorem jm (s : Bool) (m : ByteArray) (w : World) :
  Calls Tryz.prog 170 #[.agg #[.bool s, .string m]] w fun e w' => e = .returned (.int .i64 (iv s m).sign) ∧ Below w.heap.size w w' := by
 have hh := Hp.start w
 by_cases h1 : iv s m < 0
 ·have hn : iN (iv s m) = true := decide_eq_true h1
  refine ak (N := 13) (l := [.agg #[.bool s, .string m]]) Tryz.func170 rfl rfl (by simp) ?_
  refine sr ?_
  refine dp hh [_,_] ?_
  intro b1 w1 hh
  refine aI (aa (sr ?_))
  refine cf hh 0 [_,_] ?_
  refine bE hh (jd s m _) rfl ?_
  intro w5 hh
  rw [hn]
  refine cj hh ?_
  intro b3 w3 hh
  refine bK hh 0 [_,_] ?_
  intro ws hh
  replace hh : Hp _ (.blk _ _ [_, _] _ :: _) _ := hh
  refine aa (ai (aq (sr (bP ?_))))
  refine bQ hh 0 ?_
  refine aB (aa (cT (sr (aI (aa (ao (bU (aM ?_))))))))
  refine cd ?_
  exact ⟨by rw [Int.sign_eq_neg_one_of_neg h1], hh.below⟩
 ·have hn : iN (iv s m) = false := decide_eq_false h1
  by_cases h0 : iM (iv s m) = ByteArray.mk #[]
  ·refine ak (N := 13) (l := [.agg #[.bool s, .string m]]) Tryz.func170 rfl rfl (by simp) ?_
   refine sr ?_
   refine dp hh [_,_] ?_
   intro b1 w1 hh
   refine aI (aa (sr ?_))
   refine cf hh 0 [_,_] ?_
   refine bE hh (jd s m _) rfl ?_
   intro w5 hh
   rw [hn]
   refine cj hh ?_
   intro b3 w3 hh
   refine bK hh 0 [_,_] ?_
   intro ws hh
   replace hh : Hp _ (.blk _ _ [_, _] _ :: _) _ := hh
   refine aa (ai (aq (sr (bP ?_))))
   refine bQ hh 0 ?_
   refine aB (aa (cF (sr (bP ?_))))
   refine bQ hh 0 ?_
   first | refine ec rfl rfl (by first | rfl | assumption | decide) (by decide) ?_ | refine ef rfl rfl (by first | assumption | decide) (by decide) ?_
   refine aB (aa (cT (sr (aI (aa (ao (bU (aM ?_))))))))
   refine cd ?_
   exact ⟨by rw [mw.1 h0]; rfl, hh.below⟩
  ·have h2 : 0 < iv s m := by
    have : iv s m ≠ 0 := fun h => h0 (mw.2 h)
    omega
   refine ak (N := 13) (l := [.agg #[.bool s, .string m]]) Tryz.func170 rfl rfl (by simp) ?_
   refine sr ?_
   refine dp hh [_,_] ?_
   intro b1 w1 hh
   refine aI (aa (sr ?_))
   refine cf hh 0 [_,_] ?_
   refine bE hh (jd s m _) rfl ?_
   intro w5 hh
   rw [hn]
   refine cj hh ?_
   intro b3 w3 hh
   refine bK hh 0 [_,_] ?_
   intro ws hh
   replace hh : Hp _ (.blk _ _ [_, _] _ :: _) _ := hh
   refine aa (ai (aq (sr (bP ?_))))
   refine bQ hh 0 ?_
   refine aB (aa (cF (sr (bP ?_))))
   refine bQ hh 0 ?_
   first | refine ec rfl rfl (by first | rfl | assumption | decide) (by decide) ?_ | refine ef rfl rfl (by first | assumption | decide) (by decide) ?_
   refine aB (aa (cF (al (a3 (aj (sr (aI (aa (ao ?_)))))))))
   refine cd ?_
   exact ⟨by rw [Int.sign_eq_one_of_pos h2], hh.below⟩
theorem dV (z : Int) : (iM z).size = (bA z.natAbs + 7) / 8 := gR _
def oS (s t : Bool) (a b : ByteArray) : Bool := if s = t then s else if bN a < bN b then t else s
theorem yh (s t : Bool) (a b : ByteArray) : iv (oS s t a b) (iM (iv s a + iv t b)) = iv s a + iv t b := by
 unfold iM iv
 rw [eb]
 unfold oS
 cases s <;> cases t <;> simp <;> (try split) <;> (try simp) <;> omega
theorem xk (s t : Bool) (a b : ByteArray) : iv (s != t) (iM (iv s a * iv t b)) = iv s a * iv t b := by
 rw [iM, Int.natAbs_mul, gL, gL]
 unfold iv
 rw [eb]
 cases s <;> cases t <;> simp [Int.mul_neg, Int.neg_mul]
theorem rf (s t : Bool) (a b : ByteArray) (w : World) (ha : a.size ≤ 1000000000) (hb : b.size ≤ 1000000000) :
  Calls Tryz.prog 199 #[.agg #[.string a, .bool s], .agg #[.string b, .bool t]] w fun e w' => e = .returned (.agg #[.string (iM (iv s a + iv t b)), .bool (oS s t a b)]) ∧ Below w.heap.size w w' := by
 have hh := Hp.start w
 have hiv : ∀ (u : Bool) (n : Nat) (z : Int), (z = if u then -(n : Int) else n) → sN n = iM z := by
  intro u n z hz
  have h1 : z.natAbs = n := by rw [hz]; split <;> omega
  rw [iM, h1]
 by_cases hst : s = t
 ·subst hst
  have e1 := hiv s (bN a + bN b) (iv s a + iv s b) (by unfold iv; split <;> omega)
  refine ak (N := 41) (l := [.agg #[.string a, .bool s], .agg #[.string b, .bool s]]) Tryz.func199 rfl rfl (by simp) ?_
  refine sr ?_
  refine dp hh [_,_] ?_
  intro b2 w2 hh
  refine dp hh [_,_] ?_
  intro b3 w3 hh
  refine cj hh ?_
  intro b4 w4 hh
  refine aa (ai (sr (bP ?_)))
  refine bQ hh 2 ?_
  refine bP ?_
  refine bQ hh 1 ?_
  first | refine jM aJ.out rfl rfl (by first | rfl | assumption) (by decide) ?_ | refine jK aJ.out rfl rfl (by first | rfl | assumption | decide) (by decide) ?_ | refine s_eql_bool aJ.out rfl rfl (by decide) ?_
  refine aa (cT (ai ?_))
  refine bf 8 [[(2, none)], [(12, some 0)], [(3, none)], [(14, some 2)], [(13, some 1), (15, some 3)], [(16, some 4)], [(2, none)], [(18, some 6)]] [(7, 19), (6, 18), (5, 17), (4, 16), (3, 15), (2, 14), (1, 13), (0, 12)] hh mixed (by kernel_rfl) ?_
  refine dN ?_
  refine fC 2 ?_
  refine dN ?_
  refine fC 1 ?_
  refine yQ [_,_] ?_
  refine bz (i := 5) (Is (.string (sN (bN a + bN b)))) Is.ext ?_ ?_
  ·intro ρ1 w1 hj hR
   obtain ⟨A16, c16, h16, s16⟩ := hR.1
   exact cG rfl (bh ar.out (aF h16 bj)) (pw A16 2 c16 [a, b] _ s16 (by omega) (by simp; omega)) (fun _ _ hq => ⟨_, hq.1, hq.2, rfl⟩)
  refine dN ?_
  refine fC 2 ?_
  refine bo ?_
  intro f W hJ hV
  have hb_2 := hJ.bl
  obtain ⟨v19, v18, v17, v16, v15, v14, v13, v12, _⟩ := hV
  obtain ⟨A16, c16, e16, f16⟩ : Rows _ _ _ (f 4) W := v16
  replace hh := hJ.hp
  refine a7 (bu (ah v19 (ah v18 (ah v17 (ah e16 (ah v15 (ah v14 (ah v13 (ah v12 a6))))))))) ?_
  dsimp only [cJ]
  clear e16 hJ
  refine eM [_,_] ?_
  refine bK hh 0 [_,_] ?_
  intro ws hh
  replace hh : Hp _ (.blk _ _ [_, _] _ :: _) _ := hh
  refine aa (ao (aM ?_))
  refine hO (aU rfl (aV (vs := [_, _]) aC.out (hh.aw (i := 0) (n := 2) rfl rfl) rfl) bg) ?_
  rw [e1, oS, if_pos rfl]
  exact ⟨rfl, hh.below⟩
 ·by_cases hlt : bN a < bN b
  ·have e1 := hiv t (bN b - bN a) (iv s a + iv t b) (by unfold iv; cases s <;> cases t <;> simp at hst ⊢ <;> omega)
   refine ak (N := 41) (l := [.agg #[.string a, .bool s], .agg #[.string b, .bool t]]) Tryz.func199 rfl rfl (by simp) ?_
   refine sr ?_
   refine dp hh [_,_] ?_
   intro b2 w2 hh
   refine dp hh [_,_] ?_
   intro b3 w3 hh
   refine cj hh ?_
   intro b4 w4 hh
   refine aa (ai (sr (bP ?_)))
   refine bQ hh 2 ?_
   refine bP ?_
   refine bQ hh 1 ?_
   first | refine jM aJ.out rfl rfl (by first | rfl | assumption) (by decide) ?_ | refine jK aJ.out rfl rfl (by first | rfl | assumption | decide) (by decide) ?_ | refine s_eql_bool aJ.out rfl rfl (by decide) ?_
   refine aa (cF (al (aj (ai (sr (bP ?_))))))
   refine bQ hh 2 ?_
   refine bP ?_
   refine bQ hh 1 ?_
   refine bE hh (mN a b _ ha hb) rfl ?_
   intro w25 hh
   rw [iK hlt]
   refine aZ (aa (cT (au ?_)))
   refine cf hh 1 [_,_] ?_
   refine cf hh 2 [_,_] ?_
   refine bK hh 2 [_,_] ?_
   intro ws hh
   replace hh : Hp _ (_ :: _ :: .blk _ _ [_, _] _ :: _) _ := hh
   refine bK hh 1 [_,_] ?_
   intro ws hh
   replace hh : Hp _ (_ :: .blk _ _ [_, _] _ :: _) _ := hh
   refine aa (sr (bP ?_))
   refine bQ hh 2 ?_
   refine bP ?_
   refine bQ hh 1 ?_
   refine bE hh (ld b a _ hb ha) rfl ?_
   intro w34 hh
   refine mT ?_
   refine cM ?_
   refine cM ?_
   refine aS (aB (aa (sr (mS (bP ?_)))))
   refine bQ hh 2 ?_
   refine eM [_,_] ?_
   refine bK hh 0 [_,_] ?_
   intro ws hh
   replace hh : Hp _ (.blk _ _ [_, _] _ :: _) _ := hh
   refine aa (ao ?_)
   refine hO (aU rfl (aV (vs := [_, _]) aC.out (hh.aw (i := 0) (n := 2) rfl rfl) rfl) bg) ?_
   rw [e1, oS, if_neg hst, if_pos hlt]
   exact ⟨rfl, hh.below⟩
  ·have e1 := hiv s (bN a - bN b) (iv s a + iv t b) (by unfold iv; cases s <;> cases t <;> simp at hst ⊢ <;> omega)
   have hc : ¬ im (bN a) (bN b) < 0 := by unfold im; split <;> (try split) <;> omega
   refine ak (N := 41) (l := [.agg #[.string a, .bool s], .agg #[.string b, .bool t]]) Tryz.func199 rfl rfl (by simp) ?_
   refine sr ?_
   refine dp hh [_,_] ?_
   intro b2 w2 hh
   refine dp hh [_,_] ?_
   intro b3 w3 hh
   refine cj hh ?_
   intro b4 w4 hh
   refine aa (ai (sr (bP ?_)))
   refine bQ hh 2 ?_
   refine bP ?_
   refine bQ hh 1 ?_
   first | refine jM aJ.out rfl rfl (by first | rfl | assumption) (by decide) ?_ | refine jK aJ.out rfl rfl (by first | rfl | assumption | decide) (by decide) ?_ | refine s_eql_bool aJ.out rfl rfl (by decide) ?_
   refine aa (cF (al (aj (ai (sr (bP ?_))))))
   refine bQ hh 2 ?_
   refine bP ?_
   refine bQ hh 1 ?_
   refine bE hh (mN a b _ ha hb) rfl ?_
   intro w25 hh
   refine aZ (aa (cF (al (aj (sr (bP ?_))))))
   refine bQ hh 2 ?_
   refine bP ?_
   refine bQ hh 1 ?_
   refine bE hh (ld a b _ ha hb) rfl ?_
   intro w34 hh
   refine mT ?_
   refine cM ?_
   refine cM ?_
   refine aS (aB (aa (sr (mS (bP ?_)))))
   refine bQ hh 2 ?_
   refine eM [_,_] ?_
   refine bK hh 0 [_,_] ?_
   intro ws hh
   replace hh : Hp _ (.blk _ _ [_, _] _ :: _) _ := hh
   refine aa (ao ?_)
   refine hO (aU rfl (aV (vs := [_, _]) aC.out (hh.aw (i := 0) (n := 2) rfl rfl) rfl) bg) ?_
   rw [e1, oS, if_neg hst, if_neg hlt]
   exact ⟨rfl, hh.below⟩
theorem pB (s t : Bool) (a b : ByteArray) (w : World) (ha : a.size ≤ 1000000000) (hb : b.size ≤ 1000000000) :
  Calls Tryz.prog 202 #[.agg #[.string a, .bool s], .agg #[.string b, .bool t]] w fun e w' => e = .returned (.agg #[.string (iM (iv s a * iv t b)), .bool (s != t)]) ∧ Below w.heap.size w w' := by
 have hh := Hp.start w
 have e0 : (iv s a * iv t b).natAbs = bN a * bN b := by rw [Int.natAbs_mul, gL, gL]
 have e1 : iM (iv s a * iv t b) = sN (bN a * bN b) := by rw [iM, e0]
 refine ak (N := 16) (l := [.agg #[.string a, .bool s], .agg #[.string b, .bool t]]) Tryz.func202 rfl rfl (by simp) ?_
 refine sr ?_
 refine dp hh [_,_] ?_
 intro b2 w2 hh
 refine dp hh [_,_] ?_
 intro b3 w3 hh
 refine cj hh ?_
 intro b4 w4 hh
 refine aa (ai ?_)
 refine bf 10 [[(2, none)], [(5, some 0)], [(3, none)], [(7, some 2)], [(6, some 1), (8, some 3)], [(2, none)], [(10, some 5)], [(3, none)], [(12, some 7)], [(11, some 6), (13, some 8)]] [(9, 14), (8, 13), (7, 12), (6, 11), (5, 10), (4, 9), (3, 8), (2, 7), (1, 6), (0, 5)] hh mixed (by kernel_rfl) ?_
 refine dN ?_
 refine fC 2 ?_
 refine dN ?_
 refine fC 1 ?_
 refine dC (fun _ hj => qm a b _ ha hb) ?_
 refine dN ?_
 refine fC 2 ?_
 refine dN ?_
 refine fC 1 ?_
 first | refine bm (i := 9) (fun ρ1 w1 hj hR => ui aJ.out (show ρ1 11 = Value.bool _ from hR.1) (show ρ1 13 = Value.bool _ from hR.2.1) (by first | rfl | assumption)) ?_ | refine bm (i := 9) (fun ρ1 w1 hj hR => tm aJ.out (show ρ1 11 = Value.bool _ from hR.1) (show ρ1 13 = Value.bool _ from hR.2.1) (by first | assumption | decide)) ?_ | refine bm (i := 9) (fun ρ1 w1 hj hR => kd aJ.out (show ρ1 11 = Value.bool _ from hR.1) (show ρ1 13 = Value.bool _ from hR.2.1)) ?_
 refine bo ?_
 intro f W hJ hV
 have hb_1 := hJ.bl
 obtain ⟨v14, v13, v12, v11, v10, v9, v8, v7, v6, v5, _⟩ := hV
 replace hh := hJ.hp
 refine a7 (bu (ah v14 (ah v13 (ah v12 (ah v11 (ah v10 (ah v9 (ah v8 (ah v7 (ah v6 (ah v5 a6))))))))))) ?_
 dsimp only [cJ]
 clear hJ
 refine eM [_,_] ?_
 refine bK hh 0 [_,_] ?_
 intro ws hh
 replace hh : Hp _ (.blk _ _ [_, _] _ :: _) _ := hh
 refine aa (ao ?_)
 refine hO (aU rfl (aV (vs := [_, _]) aC.out (hh.aw (i := 0) (n := 2) rfl rfl) rfl) bg) ?_
 rw [e1]
 exact ⟨rfl, hh.below⟩
theorem lH (n : Int) (w : World) (h1 : -9223372036854775808 ≤ n) (h2 : n ≤ 9223372036854775807) :
  Calls Tryz.prog 158 #[.int .i64 n] w fun e w' => e = .returned (.agg #[.bool (iN n), .string (iM n)]) ∧ Below w.heap.size w w' := by
 have hh := Hp.start w
 by_cases h0 : n < 0
 ·have e1 : iv true (sN n.natAbs) = n := by unfold iv; rw [eb, if_pos rfl]; omega
  have hw : IntKind.u64.wrap n = ((18446744073709551616 - n.natAbs : Nat) : Int) := by
   rw [show n = ((18446744073709551616 - n.natAbs : Nat) : Int) + -((18446744073709551616 : Nat) : Int) by omega]
   have := UK.wrap_add (k := .u64) (((18446744073709551616 - n.natAbs : Nat) : Int) + -((18446744073709551616 : Nat) : Int))
   rw [← this, Int.neg_add_cancel_right, UK.kZ (by omega)]
   omega
  have hn : (18446744073709551616 - (18446744073709551616 - n.natAbs)) % 18446744073709551616 = n.natAbs := by omega
  refine ak (N := 16) (l := [.int .i64 n]) Tryz.func158 rfl rfl (by simp) ?_
  refine sr ?_
  refine cj hh ?_
  intro b2 w2 hh
  refine aa (ai (sr (mI ?_)))
  refine aZ (aa (cT (sr (mI ?_))))
  refine nJ aJ.out aJ.out rfl (by decide) ?_
  rw [hw]
  refine xe rfl (by omega) (by decide) ?_
  rw [hn]
  skip
  refine bE hh (lT n.natAbs _ (by omega)) rfl ?_
  intro w8 hh
  refine eM [_,_] ?_
  refine bE hh (df true (sN n.natAbs) _) rfl ?_
  intro w10 hh
  rw [e1]
  refine bK hh 0 [_,_] ?_
  intro ws hh
  replace hh : Hp _ (.blk _ _ [_, _] _ :: _) _ := hh
  refine aa (ao (aM ?_))
  refine hO (aU rfl (aV (vs := [_, _]) aC.out (hh.aw (i := 0) (n := 2) rfl rfl) rfl) bg) ?_
  exact ⟨rfl, hh.below⟩
 ·obtain ⟨m, rfl⟩ := Int.eq_ofNat_of_zero_le (by omega : 0 ≤ n)
  have e1 : iv false (sN m) = m := by unfold iv; rw [eb]; simp
  have hm : m < 18446744073709551616 := by omega
  refine ak (N := 16) (l := [.int .i64 (m : Int)]) Tryz.func158 rfl rfl (by simp) ?_
  refine sr ?_
  refine cj hh ?_
  intro b2 w2 hh
  refine aa (ai (sr (mI ?_)))
  refine aZ (aa (cF (al (aj (sr (mI ?_))))))
  first | refine cS aJ.out aJ.out rfl (by first | assumption | omega) (by decide) ?_ | refine eT aJ.out aJ.out rfl (by decide) ?_
  refine bE hh (lT m _ hm) rfl ?_
  intro w13 hh
  refine eM [_,_] ?_
  refine bE hh (df false (sN m) _) rfl ?_
  intro w15 hh
  rw [e1]
  refine bK hh 0 [_,_] ?_
  intro ws hh
  replace hh : Hp _ (.blk _ _ [_, _] _ :: _) _ := hh
  refine aa (ao ?_)
  refine hO (aU rfl (aV (vs := [_, _]) aC.out (hh.aw (i := 0) (n := 2) rfl rfl) rfl) bg) ?_
  exact ⟨rfl, hh.below⟩
end Go.Proofs.YtkgdagjklakajaaGreatDoor
namespace Go.Proofs.YtkgdagjklakajaaGreatDoor
open Go.RowKit
structure IR where
 neg : Bool
 cC : ByteArray
def IR.cells (a : IR) : List Value := [.bool a.neg, .string a.cC]
def IR.v (a : IR) : Int := iv a.neg a.cC
def iR (z : Int) : IR := ⟨iN z, iM z⟩
theorem Ai (z : Int) : (iR z).v = z := fw z
theorem IR.len (a : IR) : a.cells.length = 2 := rfl
theorem kV (x y : Int) : bA (x + y).natAbs ≤ max (bA x.natAbs) (bA y.natAbs) + 1 := by
 apply cV
 have h1 := cN x.natAbs
 have h2 := cN y.natAbs
 have h3 : 2 ^ bA x.natAbs ≤ 2 ^ max (bA x.natAbs) (bA y.natAbs) := Nat.pow_le_pow_right (by omega) (Nat.le_max_left _ _)
 have h4 : 2 ^ bA y.natAbs ≤ 2 ^ max (bA x.natAbs) (bA y.natAbs) := Nat.pow_le_pow_right (by omega) (Nat.le_max_right _ _)
 rw [Nat.pow_succ]
 omega
theorem kz (s : Bool) (m : ByteArray) : bA (iv s m).natAbs ≤ 8 * m.size := by rw [gL]; exact ff m
theorem uU (l : List Int) (x : Int) : (l ++ [x]).sum = l.sum + x := by simp
theorem nw (L : Option Addr) (n c : Nat) (l : List IR) (w : World) (hS : Sl w L n 2 (a8 IR.cells l)) (hn : n ≤ 1000000) (hs : ∀ s ∈ l, s.cC.size ≤ 100000000) :
  Calls Tryz.prog 156 #[.slice L n c] w fun e w' => e = .returned (.agg #[.bool (iN (l.map IR.v).sum), .string (iM (l.map IR.v).sum)]) ∧ Below w.heap.size w w' := by
 have hl := hS.ck IR.len (by omega)
 have hh := Hp.start w
 refine ak (N := 19) (l := [.slice L n c]) Tryz.func156 rfl rfl (by simp) ?_
 refine sr ?_
 refine cj hh ?_
 intro b2 w2 hh
 refine aa (sr ?_)
 refine cj hh ?_
 intro b3 w3 hh
 refine aa (ai (sr (mL (a5 (mI (aa (aq ?_)))))))
 refine bD [5, 8, 9, 10, 11, 12, 13, 14, 15, 16] 8
  (fun j w' => ∃ (i : Nat) (u : Bool) (S : Int), i ≤ n ∧ j = .int .i64 i ∧ S = ((l.take i).map IR.v).sum ∧ iv u (iM S) = S ∧ bA S.natAbs ≤ 800000000 + i ∧ Hp w [.blk b3 190 [.string (iM S), .bool u] (0, 0), .blk b2 24 [.bool false, .string (ByteArray.mk #[])] (0, 0)] w')
  (fun j _ => n - (intOf j).toNat) ?_ ?_
 ·exact ⟨0, false, 0, Nat.zero_le _, rfl, rfl, by rw [iM]; exact congrArg _ (eb 0), by simp [iq], by rw [iM, Int.natAbs_zero, gl]; exact hh⟩
 ·clear hh
  rintro ρ' j w' ⟨i, u, S, hi, rfl, hS2, hu, hb, hh⟩
  by_cases hlt : i < n
  ·obtain ⟨x, hx⟩ := aR (l := l) (k := i) (by omega)
   obtain ⟨ad, rfl, hr⟩ := hS.at_ (by omega)
   have hxs := hs x (List.mem_of_getElem? hx)
   have hS3 : ((l.take (i + 1)).map IR.v).sum = S + x.v := by rw [aW hx, List.map_append, List.map_singleton, uU, hS2]
   have hms : (iM S).size ≤ 1000000000 := by rw [dV]; omega
   have hbx := kz x.neg x.cC
   have hba := kV S x.v
   have hpl := yh u x.neg (iM S) x.cC
   rw [hu] at hpl
   have hwc := fun w1 => rf u x.neg (iM S) x.cC w1 hms (by omega)
   rw [hu] at hwc
   refine sr ?_
   refine aZ (aa (ai (cT (al (aj (ai (aq (sr ?_))))))))
   refine a0 (k := i) aJ.out aC.size rfl rfl (by omega) (by omega) (by decide) ?_
   refine cb (vs := [_, _]) aC.out rfl (((hr.ext hh.below).recAt IR.len hx)) rfl (by decide) ?_
   refine cj hh ?_
   intro b5 w5 hh
   refine bK hh 0 [_,_] ?_
   intro ws hh
   replace hh : Hp _ (.blk _ _ [_, _] _ :: _) _ := hh
   refine aa ?_
   refine bf 3 [[(3, none)], [(5, none)], [(13, some 1)]] [(2, 14), (1, 13), (0, 12)] hh mixed (by kernel_rfl) ?_
   refine gj 1 [_,_] ?_
   refine gj 0 [_,_] ?_
   refine dC (fun _ hj => jA x.neg x.cC _) ?_
   refine bo ?_
   intro f W hJ hV
   have hb_5 := hJ.bl
   obtain ⟨v14, v13, v12, _⟩ := hV
   replace hh := hJ.hp
   refine a7 (bu (ah v14 (ah v13 (ah v12 a6)))) ?_
   dsimp only [cJ]
   clear hJ
   refine bE hh (hwc _) rfl ?_
   intro w15 hh
   refine bK hh 1 [_,_] ?_
   intro ws hh
   replace hh : Hp _ (_ :: .blk _ _ [_, _] _ :: _) _ := hh
   refine aK (a3 (aj (au ?_)))
   refine bO (mI (aK (aj ?_)))
   replace hh := hh.sub (List.sublist_cons_self _ _)
   refine ⟨⟨i + 1, _, _, by omega, rfl, hS3.symm, hpl, by unfold IR.v at hba ⊢; omega, hh⟩, by show n - (i + 1) < n - i; omega, ?_⟩
   (repeat (first | exact aA _ _ _ | refine aE rfl ?_ | refine ax rfl ?_))
  ·refine sr ?_
   refine aZ (aa (ai (cF ?_)))
   refine a4 ?_
   refine aD (aD (bp (aj (sr ?_))))
   refine cf hh 0 [_,_] ?_
   refine bE hh (df u (iM S) _) rfl ?_
   intro w18 hh
   rw [hu]
   refine bK hh 1 [_,_] ?_
   intro ws hh
   replace hh : Hp _ (_ :: .blk _ _ [_, _] _ :: _) _ := hh
   refine aa (ao ?_)
   refine hO (aU rfl (aV (vs := [_, _]) aC.out (hh.aw (i := 1) (n := 2) rfl rfl) rfl) bg) ?_
   rw [List.take_of_length_le (by omega)] at hS2
   rw [hS2]
   exact ⟨rfl, hh.below⟩
theorem rH (s : Bool) (b : ByteArray) : (iM (-(iv s b))).size ≤ b.size := by
 have := kz s b
 rw [dV, Int.natAbs_neg]; omega
theorem r7 (s t : Bool) (a b : ByteArray) (w : World) (ha : a.size ≤ 100000000) (hb : b.size ≤ 100000000) :
  Calls Tryz.prog 225 #[.agg #[.bool s, .string a], .agg #[.bool t, .string b]] w fun e w' => e = .returned (.agg #[.bool (iN (iv s a - iv t b)), .string (iM (iv s a - iv t b))]) ∧ Below w.heap.size w w' := by
 have hh := Hp.start w
 have h1 := rH t b
 have e1 : ([IR.mk s a, iR (-(iv t b))].map IR.v).sum = iv s a - iv t b := by
  simp only [List.map_cons, List.map_nil, List.sum_cons, List.sum_nil, Ai]
  simp only [IR.v]; omega
 refine ak (N := 10) (l := [.agg #[.bool s, .string a], .agg #[.bool t, .string b]]) Tryz.func225 rfl rfl (by simp) ?_
 refine sr ?_
 refine dp hh [_,_] ?_
 intro b2 w2 hh
 refine dp hh [_,_] ?_
 intro b3 w3 hh
 refine cj hh ?_
 intro b4 w4 hh
 refine aa (ai ?_)
 refine bf 3 [[(2, none)], [(3, none)], [(6, some 1)]] [(2, 7), (1, 6), (0, 5)] hh mixed (by kernel_rfl) ?_
 refine gj 2 [_,_] ?_
 refine gj 1 [_,_] ?_
 refine dC (fun _ hj => sF t b _) ?_
 refine bo ?_
 intro f W hJ hV
 have hb_1 := hJ.bl
 obtain ⟨v7, v6, v5, _⟩ := hV
 replace hh := hJ.hp
 refine a7 (bu (ah v7 (ah v6 (ah v5 a6)))) ?_
 dsimp only [cJ]
 clear hJ
 refine aO hh (cs := [_, _, _, _]) aJ.out aC.out (aG (bq rfl) (aG (bq rfl) bC)) rfl rfl (by decide) (by decide) (by decide) rfl (by decide) ?_
 intro b8 w8 hh
 refine bE hh (nw _ 2 _ [IR.mk s a, iR (-(iv t b))] _ (hh.az (i := 0) rfl) (by omega) (by simp [iR]; omega)) rfl ?_
 intro w9 hh
 rw [e1]
 refine bK hh 1 [_,_] ?_
 intro ws hh
 replace hh : Hp _ (_ :: .blk _ _ [_, _] _ :: _) _ := hh
 refine aa (ao ?_)
 refine hO (aU rfl (aV (vs := [_, _]) aC.out (hh.aw (i := 1) (n := 2) rfl rfl) rfl) bg) ?_
 exact ⟨rfl, hh.below⟩
theorem vS (a b : Nat) : bA (a * b) ≤ bA a + bA b := by
 apply cV
 rw [Nat.pow_add]
 exact Nat.mul_lt_mul'' (cN a) (cN b)
theorem kC (a b : Int) : bA (a * b).natAbs ≤ bA a.natAbs + bA b.natAbs := by rw [Int.natAbs_mul]; exact vS _ _
def jx : List Int → Int
 | [] => 1
 | x :: l => x * jx l
theorem rZ (l : List Int) (x : Int) : jx (l ++ [x]) = jx l * x := by
 induction l with
 | nil => simp [jx]
 | cons y l ih => simp only [List.cons_append, jx, ih, Int.mul_assoc]
theorem rp (l : List Nat) (i : Nat) : (l.take i).sum ≤ l.sum := by
 rw [← List.sum_append_nat.symm.trans (congrArg List.sum (List.take_append_drop i l))]; omega
theorem rF : bA 1 = 1 := by decide +kernel
theorem sL (L : Option Addr) (n c : Nat) (l : List IR) (w : World) (hS : Sl w L n 2 (a8 IR.cells l)) (hn : n ≤ 1000000) (hs : (l.map fun a => a.cC.size).sum ≤ 100000000) :
  Calls Tryz.prog 157 #[.slice L n c] w fun e w' => e = .returned (.agg #[.bool (iN (jx (l.map IR.v))), .string (iM (jx (l.map IR.v)))]) ∧ Below w.heap.size w w' := by
 have hl := hS.ck IR.len (by omega)
 have hh := Hp.start w
 have hsum := rp (l.map fun a => a.cC.size)
 refine ak (N := 21) (l := [.slice L n c]) Tryz.func157 rfl rfl (by simp) ?_
 refine sr ?_
 refine cj hh ?_
 intro b2 w2 hh
 refine aa (sr ?_)
 refine bE hh (lH 1 _ (by omega) (by omega)) rfl ?_
 intro w6 hh
 refine bE hh (jA _ _ _) rfl ?_
 intro w7 hh
 refine cj hh ?_
 intro b3 w3 hh
 refine bK hh 0 [_,_] ?_
 intro ws hh
 replace hh : Hp _ (.blk _ _ [_, _] _ :: _) _ := hh
 refine aa (ai (sr (mL (a5 (mI (aa (aq ?_)))))))
 refine bD [5, 10, 11, 12, 13, 14, 15, 16, 17, 18] 10
  (fun j w' => ∃ (i : Nat) (u : Bool) (S : Int), i ≤ n ∧ j = .int .i64 i ∧ S = jx ((l.take i).map IR.v) ∧ iv u (iM S) = S ∧ bA S.natAbs ≤ 1 + 8 * ((l.map fun a => a.cC.size).take i).sum ∧ Hp w [.blk b3 190 [.string (iM S), .bool u] (0, 0), .blk b2 24 [.bool false, .string (ByteArray.mk #[])] (0, 0)] w')
  (fun j _ => n - (intOf j).toNat) ?_ ?_
 ·exact ⟨0, _, 1, Nat.zero_le _, rfl, rfl, fw 1, by rw [Int.natAbs_one, rF]; omega, hh⟩
 ·clear hh
  rintro ρ' j w' ⟨i, u, S, hi, rfl, hS2, hu, hb, hh⟩
  by_cases hlt : i < n
  ·obtain ⟨x, hx⟩ := aR (l := l) (k := i) (by omega)
   obtain ⟨ad, rfl, hr⟩ := hS.at_ (by omega)
   have hsi := hsum i
   have hsi2 := hsum (i + 1)
   have hsz : ((l.map fun a => a.cC.size).take (i + 1)).sum = ((l.map fun a => a.cC.size).take i).sum + x.cC.size := by
    rw [aW (x := x.cC.size) (by rw [List.getElem?_map, hx]; rfl), lF]
   have hS3 : jx ((l.take (i + 1)).map IR.v) = S * x.v := by rw [aW hx, List.map_append, List.map_singleton, rZ, hS2]
   have hms : (iM S).size ≤ 1000000000 := by rw [dV]; omega
   have hbx := kz x.neg x.cC
   have hba := kC S x.v
   have hpl := xk u x.neg (iM S) x.cC
   rw [hu] at hpl
   have hwc := fun w1 => pB u x.neg (iM S) x.cC w1 hms (by omega)
   rw [hu] at hwc
   refine sr ?_
   refine aZ (aa (ai (cT (al (aj (ai (aq (sr ?_))))))))
   refine a0 (k := i) aJ.out aC.size rfl rfl (by omega) (by omega) (by decide) ?_
   refine cb (vs := [_, _]) aC.out rfl (((hr.ext hh.below).recAt IR.len hx)) rfl (by decide) ?_
   refine cj hh ?_
   intro b5 w5 hh
   refine bK hh 0 [_,_] ?_
   intro ws hh
   replace hh : Hp _ (.blk _ _ [_, _] _ :: _) _ := hh
   refine aa ?_
   refine bf 3 [[(3, none)], [(5, none)], [(15, some 1)]] [(2, 16), (1, 15), (0, 14)] hh mixed (by kernel_rfl) ?_
   refine gj 1 [_,_] ?_
   refine gj 0 [_,_] ?_
   refine dC (fun _ hj => jA x.neg x.cC _) ?_
   refine bo ?_
   intro f W hJ hV
   have hb_5 := hJ.bl
   obtain ⟨v16, v15, v14, _⟩ := hV
   replace hh := hJ.hp
   refine a7 (bu (ah v16 (ah v15 (ah v14 a6)))) ?_
   dsimp only [cJ]
   clear hJ
   refine bE hh (hwc _) rfl ?_
   intro w17 hh
   refine bK hh 1 [_,_] ?_
   intro ws hh
   replace hh : Hp _ (_ :: .blk _ _ [_, _] _ :: _) _ := hh
   refine aK (a3 (aj (au ?_)))
   refine bO (mI (aK (aj ?_)))
   replace hh := hh.sub (List.sublist_cons_self _ _)
   refine ⟨⟨i + 1, _, _, by omega, rfl, hS3.symm, hpl, by unfold IR.v at hba ⊢; omega, hh⟩, by show n - (i + 1) < n - i; omega, ?_⟩
   (repeat (first | exact aA _ _ _ | refine aE rfl ?_ | refine ax rfl ?_))
  ·refine sr ?_
   refine aZ (aa (ai (cF ?_)))
   refine a4 ?_
   refine aD (aD (bp (aj (sr ?_))))
   refine cf hh 0 [_,_] ?_
   refine bE hh (df u (iM S) _) rfl ?_
   intro w20 hh
   rw [hu]
   refine bK hh 1 [_,_] ?_
   intro ws hh
   replace hh : Hp _ (_ :: .blk _ _ [_, _] _ :: _) _ := hh
   refine aa (ao ?_)
   refine hO (aU rfl (aV (vs := [_, _]) aC.out (hh.aw (i := 1) (n := 2) rfl rfl) rfl) bg) ?_
   rw [List.take_of_length_le (by omega)] at hS2
   rw [hS2]
   exact ⟨rfl, hh.below⟩
theorem ru (M k : Nat) (h : 2 ^ k ∣ M) : -((M / 2 ^ k : Nat) : Int) = -(M : Int) / 2 ^ k := by
 obtain ⟨q, rfl⟩ := h
 have hp : (0 : Int) < 2 ^ k := Int.pow_pos (by omega)
 rw [Nat.mul_div_cancel_left _ (Nat.pow_pos (by omega)), Int.natCast_mul, ← Int.mul_neg, Int.natCast_pow]
 exact (Int.mul_ediv_cancel_left _ (by exact Int.ne_of_gt hp)).symm
theorem qh (M k : Nat) (h : ¬ 2 ^ k ∣ M) : -((M / 2 ^ k : Nat) : Int) - 1 = -(M : Int) / 2 ^ k := by
 have hp : (0 : Int) < 2 ^ k := Int.pow_pos (by omega)
 have h1 := Nat.div_add_mod M (2 ^ k)
 have h2 := Nat.mod_lt M (Nat.pow_pos (n := k) (show 0 < 2 by omega))
 have h3 : M % 2 ^ k ≠ 0 := fun h0 => h (Nat.dvd_of_mod_eq_zero h0)
 have hc : ((2 ^ k : Nat) : Int) = 2 ^ k := by simp
 symm
 rw [Int.ediv_eq_iff_of_pos hp, ← hc]
 have h4 : (M : Int) = (2 ^ k : Nat) * (M / 2 ^ k : Nat) + (M % 2 ^ k : Nat) := by rw [← Int.natCast_mul, ← Int.natCast_add, h1]
 generalize hK : ((2 ^ k : Nat) : Int) = K at *
 generalize ((M / 2 ^ k : Nat) : Int) = q at *
 have e : (-q - 1) * K = -(K * q) - K := by rw [Int.sub_mul, Int.neg_mul, Int.mul_comm q]; omega
 have e2 : (-q - 1 + 1) * K = -(K * q) := by rw [Int.sub_add_cancel, Int.neg_mul, Int.mul_comm]
 omega
theorem vJ {M k : Nat} (h0 : M ≠ 0) : 2 ^ k ∣ M ↔ k ≤ tz M := by
 obtain ⟨m, hm⟩ := mu h0
 generalize tz M = t at *
 constructor
 ·intro h
  rcases Nat.lt_or_ge t k with hlt | hge
  ·exfalso
   obtain ⟨q, hq⟩ := h
   rw [hm, show k = t + (1 + (k - t - 1)) by omega, Nat.pow_add, Nat.pow_add, Nat.mul_assoc] at hq
   have := Nat.eq_of_mul_eq_mul_left (Nat.pow_pos (by omega)) hq
   rw [Nat.pow_one, Nat.mul_assoc] at this
   omega
  ·exact hge
 ·intro h
  rw [hm]
  exact Nat.dvd_trans (Nat.pow_dvd_pow 2 h) (Nat.dvd_mul_right _ _)
end Go.Proofs.YtkgdagjklakajaaGreatDoor
namespace Go.Proofs.YtkgdagjklakajaaGreatDoor
open Go.RowKit
theorem zG (s : Bool) (a : ByteArray) (m : Nat) : iv s (sN (bN a * 2 ^ m)) = iv s a * 2 ^ m := by
 unfold iv
 rw [eb]
 cases s <;> simp [Int.natCast_mul, Int.neg_mul]
theorem sB (s : Bool) (a : ByteArray) (m : Nat) (w : World) (ha : a.size ≤ 100000000) (hm : m ≤ 1000000000) :
  Calls Tryz.prog 198 #[.agg #[.bool s, .string a], .int .i64 (m : Int)] w fun e w' => e = .returned (.agg #[.bool (iN (iv s a * 2 ^ m)), .string (iM (iv s a * 2 ^ m))]) ∧ Below w.heap.size w w' := by
 have hh := Hp.start w
 refine ak (N := 47) (l := [.agg #[.bool s, .string a], .int .i64 (m : Int)]) Tryz.func198 rfl rfl (by simp) ?_
 refine sr ?_
 refine dp hh [_,_] ?_
 intro b2 w2 hh
 refine cj hh ?_
 intro b4 w4 hh
 refine aa (ai (sr (mI ?_)))
 refine dx (aa (cT (ai ?_)))
 refine bf 6 [[(2, none)], [(8, some 0)], [(1, none)], [(9, some 1), (10, some 2)], [(2, none)], [(12, some 4)]] [(5, 13), (4, 12), (3, 11), (2, 10), (1, 9), (0, 8)] hh mixed (by kernel_rfl) ?_
 refine dN ?_
 refine fC 1 ?_
 refine fe ?_
 refine dC (fun _ hj => qb a m _ (by omega) (by omega)) ?_
 refine dN ?_
 refine fC 1 ?_
 refine bo ?_
 intro f W hJ hV
 have hb_2 := hJ.bl
 obtain ⟨v13, v12, v11, v10, v9, v8, _⟩ := hV
 replace hh := hJ.hp
 refine a7 (bu (ah v13 (ah v12 (ah v11 (ah v10 (ah v9 (ah v8 a6))))))) ?_
 dsimp only [cJ]
 clear hJ
 refine eM [_,_] ?_
 refine bE hh (df s (sN (bN a * 2 ^ m)) _) rfl ?_
 intro w15 hh
 rw [zG]
 refine bK hh 0 [_,_] ?_
 intro ws hh
 replace hh : Hp _ (.blk _ _ [_, _] _ :: _) _ := hh
 refine aa (ao (aM ?_))
 refine hO (aU rfl (aV (vs := [_, _]) aC.out (hh.aw (i := 0) (n := 2) rfl rfl) rfl) bg) ?_
 exact ⟨rfl, hh.below⟩
theorem sU (s : Bool) (a : ByteArray) (m : Nat) (w : World) (hT : gM w) (ha : a.size ≤ 100000000) (h0 : 0 < m) (hm : m ≤ 1000000000000) :
  Calls Tryz.prog 198 #[.agg #[.bool s, .string a], .int .i64 (-(m : Int))] w fun e w' => e = .returned (.agg #[.bool (iN (iv s a / 2 ^ m)), .string (iM (iv s a / 2 ^ m))]) ∧ Below w.heap.size w w' := by
 have hh := Hp.start w
 have e1 : (if (-1099511627776 : Int) > -(m : Int) then -1099511627776 else -(m : Int)) = -(m : Int) := if_neg (by omega)
 have e2 : -(-(m : Int)) = (m : Int) := by omega
 have hcs : ∀ w1, Calls Tryz.prog 223 #[.string a, .int .i64 (-(-(m : Int)))] w1 fun e w' => e = .returned (.string (sN (bN a / 2 ^ m))) ∧ Below w1.heap.size w1 w' := fun w1 => by
  rw [e2]; exact p9 a m w1 (by omega) (by omega)
 cases s with
 | false =>
  have e3 : iv false (sN (bN a / 2 ^ m)) = iv false a / 2 ^ m := by
   unfold iv
   rw [eb]
   simp
  refine ak (N := 47) (l := [.agg #[.bool false, .string a], .int .i64 (-(m : Int))]) Tryz.func198 rfl rfl (by simp) ?_
  refine sr ?_
  refine dp hh [_,_] ?_
  intro b2 w2 hh
  refine cj hh ?_
  intro b4 w4 hh
  refine aa (ai (sr (mI ?_)))
  refine dx (aa (cF (al (aj (sr (mI ?_))))))
  refine jc rfl rfl (by decide) ?_
  refine aI (aa (ai ?_))
  rw [e1]
  refine bf 10 [[(2, none)], [(18, some 0)], [(1, none)], [(20, some 2)], [(19, some 1), (21, some 3)], [(2, none)], [(23, some 5)], [(22, some 4), (24, some 6)], [(25, some 7)], []] [(9, 5), (8, 26), (7, 25), (6, 24), (5, 23), (4, 22), (3, 21), (2, 20), (1, 19), (0, 18)] hh mixed (by kernel_rfl) ?_
  refine dN ?_
  refine fC 1 ?_
  refine fe ?_
  refine bm (i := 3) (fun ρ1 w1 hj hR => ns (show ρ1 20 = Value.int _ _ from hR.1) (by omega) (by omega)) ?_
  refine dC (fun _ hj => hcs _) ?_
  refine dN ?_
  refine fC 1 ?_
  refine dB [_,_] ?_
  refine dC (fun _ hj => df false (sN (bN a / 2 ^ m)) _) ?_
  refine bz (i := 9) (ca _ 24 _) ca.ext (fun ρ1 w1 hj hR => eY aC.out hj.bl (fun v w2 h hb => ⟨hb, h⟩)) ?_
  refine bo ?_
  intro f W hJ hV
  have hb_4 := hJ.bl
  obtain ⟨v5, v26, v25, v24, v23, v22, v21, v20, v19, v18, _⟩ := hV
  obtain ⟨b5, e5, hl5, hc5⟩ : ca _ _ _ (f 9) W := v5
  replace hh := hJ.newVar hh hl5 hc5
  refine a7 (bu (ah e5 (ah v26 (ah v25 (ah v24 (ah v23 (ah v22 (ah v21 (ah v20 (ah v19 (ah v18 a6))))))))))) ?_
  dsimp only [cJ]
  clear e5 hJ
  rw [e3]
  refine bK hh 0 [_,_] ?_
  intro ws hh
  replace hh : Hp _ (.blk _ _ [_, _] _ :: _) _ := hh
  refine aa (ai (sr (bP ?_)))
  refine bQ hh 2 ?_
  refine mB ?_
  first | refine gS ?_ | (refine gT ?_; refine bP ?_) | refine gV ?_
  first | refine gS ?_ | (refine gT ?_; refine bQ hh 2 ?_) | refine gV ?_
  refine bH (by decide) rfl rfl (by decide) ?_
  first | refine gS ?_ | (refine gT ?_; refine cg ?_) | refine gV ?_
  first | refine ct ?_ | refine cq ?_
  refine mB ?_
  first | refine gS ?_ | (refine gT ?_; refine bP ?_) | refine gV ?_
  first | refine gS ?_ | (refine gT ?_; refine bQ hh 2 ?_) | refine gV ?_
  refine bH (by decide) rfl rfl (by decide) ?_
  first | refine gS ?_ | (refine gT ?_; refine mI ?_) | refine gV ?_
  first | refine gS ?_ | (refine gT ?_; refine lg rfl (by omega) (by omega) (by decide) ?_) | refine gV ?_
  first | refine gS ?_ | (refine gT ?_; refine aZ ?_) | refine gV ?_
  first | refine ct ?_ | refine cq ?_
  refine aa (cF (al (aj (sr ?_))))
  refine cf hh 0 [_,_] ?_
  refine bK hh 1 [_,_] ?_
  intro ws hh
  replace hh : Hp _ (_ :: .blk _ _ [_, _] _ :: _) _ := hh
  refine aa (ao ?_)
  refine hO (aU rfl (aV (vs := [_, _]) aC.out (hh.aw (i := 1) (n := 2) rfl rfl) rfl) bg) ?_
  exact ⟨rfl, hh.below⟩
 | true =>
  have hb := ff a
  have e4 : iv true (sN (bN a / 2 ^ m)) = -((bN a / 2 ^ m : Nat) : Int) := by
   unfold iv
   rw [eb, if_pos rfl]
  have e5 : iv true a = -(bN a : Int) := by unfold iv; rw [if_pos rfl]
  by_cases hz : bN a = 0
  ·have e3 : iv true (sN (bN a / 2 ^ m)) = iv true a / 2 ^ m := by
    rw [e4, e5, hz]; simp
   refine ak (N := 47) (l := [.agg #[.bool true, .string a], .int .i64 (-(m : Int))]) Tryz.func198 rfl rfl (by simp) ?_
   refine sr ?_
   refine dp hh [_,_] ?_
   intro b2 w2 hh
   refine cj hh ?_
   intro b4 w4 hh
   refine aa (ai (sr (mI ?_)))
   refine dx (aa (cF (al (aj (sr (mI ?_))))))
   refine jc rfl rfl (by decide) ?_
   refine aI (aa (ai ?_))
   rw [e1]
   refine bf 10 [[(2, none)], [(18, some 0)], [(1, none)], [(20, some 2)], [(19, some 1), (21, some 3)], [(2, none)], [(23, some 5)], [(22, some 4), (24, some 6)], [(25, some 7)], []] [(9, 5), (8, 26), (7, 25), (6, 24), (5, 23), (4, 22), (3, 21), (2, 20), (1, 19), (0, 18)] hh mixed (by kernel_rfl) ?_
   refine dN ?_
   refine fC 1 ?_
   refine fe ?_
   refine bm (i := 3) (fun ρ1 w1 hj hR => ns (show ρ1 20 = Value.int _ _ from hR.1) (by omega) (by omega)) ?_
   refine dC (fun _ hj => hcs _) ?_
   refine dN ?_
   refine fC 1 ?_
   refine dB [_,_] ?_
   refine dC (fun _ hj => df true (sN (bN a / 2 ^ m)) _) ?_
   refine bz (i := 9) (ca _ 24 _) ca.ext (fun ρ1 w1 hj hR => eY aC.out hj.bl (fun v w2 h hb => ⟨hb, h⟩)) ?_
   refine bo ?_
   intro f W hJ hV
   have hb_4 := hJ.bl
   obtain ⟨v5, v26, v25, v24, v23, v22, v21, v20, v19, v18, _⟩ := hV
   obtain ⟨b5, e5, hl5, hc5⟩ : ca _ _ _ (f 9) W := v5
   replace hh := hJ.newVar hh hl5 hc5
   refine a7 (bu (ah e5 (ah v26 (ah v25 (ah v24 (ah v23 (ah v22 (ah v21 (ah v20 (ah v19 (ah v18 a6))))))))))) ?_
   dsimp only [cJ]
   clear e5 hJ
   rw [e3]
   refine bK hh 0 [_,_] ?_
   intro ws hh
   replace hh : Hp _ (.blk _ _ [_, _] _ :: _) _ := hh
   refine aa (ai (sr (bP ?_)))
   refine bQ hh 2 ?_
   refine mB ?_
   first | refine gS ?_ | (refine gT ?_; refine bP ?_) | refine gV ?_
   first | refine gS ?_ | (refine gT ?_; refine bQ hh 2 ?_) | refine gV ?_
   refine aX rfl rfl ?_
   refine bE hh (iP a _ (by omega)) rfl ?_
   intro w32 hh
   rw [hz, iq]
   first | refine gS ?_ | (refine gT ?_; refine cg ?_) | refine gV ?_
   first | refine ct ?_ | refine cq ?_
   refine mB ?_
   first | refine gS ?_ | (refine gT ?_; refine bP ?_) | refine gV ?_
   first | refine gS ?_ | (refine gT ?_; refine bQ hh 2 ?_) | refine gV ?_
   refine bH (by decide) rfl rfl (by decide) ?_
   first | refine gS ?_ | (refine gT ?_; refine mI ?_) | refine gV ?_
   first | refine gS ?_ | (refine gT ?_; refine lg rfl (by omega) (by omega) (by decide) ?_) | refine gV ?_
   first | refine gS ?_ | (refine gT ?_; refine aZ ?_) | refine gV ?_
   first | refine ct ?_ | refine cq ?_
   refine aa (cF (al (aj (sr ?_))))
   refine cf hh 0 [_,_] ?_
   refine bK hh 1 [_,_] ?_
   intro ws hh
   replace hh : Hp _ (_ :: .blk _ _ [_, _] _ :: _) _ := hh
   refine aa (ao ?_)
   refine hO (aU rfl (aV (vs := [_, _]) aC.out (hh.aw (i := 1) (n := 2) rfl rfl) rfl) bg) ?_
   exact ⟨rfl, hh.below⟩
  ·have hbp := kK hz
   by_cases hd : 2 ^ m ∣ bN a
   ·have e3 : iv true (sN (bN a / 2 ^ m)) = iv true a / 2 ^ m := by
     rw [e4, e5]; exact ru _ _ hd
    have htz := (vJ hz).1 hd
    refine ak (N := 47) (l := [.agg #[.bool true, .string a], .int .i64 (-(m : Int))]) Tryz.func198 rfl rfl (by simp) ?_
    refine sr ?_
    refine dp hh [_,_] ?_
    intro b2 w2 hh
    refine cj hh ?_
    intro b4 w4 hh
    refine aa (ai (sr (mI ?_)))
    refine dx (aa (cF (al (aj (sr (mI ?_))))))
    refine jc rfl rfl (by decide) ?_
    refine aI (aa (ai ?_))
    rw [e1]
    refine bf 10 [[(2, none)], [(18, some 0)], [(1, none)], [(20, some 2)], [(19, some 1), (21, some 3)], [(2, none)], [(23, some 5)], [(22, some 4), (24, some 6)], [(25, some 7)], []] [(9, 5), (8, 26), (7, 25), (6, 24), (5, 23), (4, 22), (3, 21), (2, 20), (1, 19), (0, 18)] hh mixed (by kernel_rfl) ?_
    refine dN ?_
    refine fC 1 ?_
    refine fe ?_
    refine bm (i := 3) (fun ρ1 w1 hj hR => ns (show ρ1 20 = Value.int _ _ from hR.1) (by omega) (by omega)) ?_
    refine dC (fun _ hj => hcs _) ?_
    refine dN ?_
    refine fC 1 ?_
    refine dB [_,_] ?_
    refine dC (fun _ hj => df true (sN (bN a / 2 ^ m)) _) ?_
    refine bz (i := 9) (ca _ 24 _) ca.ext (fun ρ1 w1 hj hR => eY aC.out hj.bl (fun v w2 h hb => ⟨hb, h⟩)) ?_
    refine bo ?_
    intro f W hJ hV
    have hb_4 := hJ.bl
    obtain ⟨v5, v26, v25, v24, v23, v22, v21, v20, v19, v18, _⟩ := hV
    obtain ⟨b5, e5, hl5, hc5⟩ : ca _ _ _ (f 9) W := v5
    replace hh := hJ.newVar hh hl5 hc5
    refine a7 (bu (ah e5 (ah v26 (ah v25 (ah v24 (ah v23 (ah v22 (ah v21 (ah v20 (ah v19 (ah v18 a6))))))))))) ?_
    dsimp only [cJ]
    clear e5 hJ
    rw [e3]
    refine bK hh 0 [_,_] ?_
    intro ws hh
    replace hh : Hp _ (.blk _ _ [_, _] _ :: _) _ := hh
    refine aa (ai (sr (bP ?_)))
    refine bQ hh 2 ?_
    refine mB ?_
    first | refine gS ?_ | (refine gT ?_; refine bP ?_) | refine gV ?_
    first | refine gS ?_ | (refine gT ?_; refine bQ hh 2 ?_) | refine gV ?_
    refine aX rfl rfl ?_
    refine bE hh (iP a _ (by omega)) rfl ?_
    intro w32 hh
    first | refine gS ?_ | (refine gT ?_; refine cg ?_) | refine gV ?_
    first | refine ct ?_ | refine cq ?_
    refine mB ?_
    first | refine gS ?_ | (refine gT ?_; refine bP ?_) | refine gV ?_
    first | refine gS ?_ | (refine gT ?_; refine bQ hh 2 ?_) | refine gV ?_
    refine aX rfl rfl ?_
    refine bE hh (gB a _ (by omega) (hT.hp hh)) rfl ?_
    intro w38 hh
    first | refine gS ?_ | (refine gT ?_; refine mI ?_) | refine gV ?_
    first | refine gS ?_ | (refine gT ?_; refine lg rfl (by omega) (by omega) (by decide) ?_) | refine gV ?_
    first | refine gS ?_ | (refine gT ?_; refine aZ ?_) | refine gV ?_
    first | refine ct ?_ | refine cq ?_
    refine aa (cF (al (aj (sr ?_))))
    refine cf hh 0 [_,_] ?_
    refine bK hh 1 [_,_] ?_
    intro ws hh
    replace hh : Hp _ (_ :: .blk _ _ [_, _] _ :: _) _ := hh
    refine aa (ao ?_)
    refine hO (aU rfl (aV (vs := [_, _]) aC.out (hh.aw (i := 1) (n := 2) rfl rfl) rfl) bg) ?_
    exact ⟨rfl, hh.below⟩
   ·have e3 : iv true (sN (bN a / 2 ^ m)) - 1 = iv true a / 2 ^ m := by
     rw [e4, e5]; exact qh _ _ hd
    have htz : tz (bN a) < m := Nat.lt_of_not_le fun h => hd ((vJ hz).2 h)
    have hsz : (iM (iv true (sN (bN a / 2 ^ m)))).size ≤ 100000000 := by
     have := kL (bN a) m
     rw [dV, gL, eb]; omega
    have hsub : ∀ w1, Calls Tryz.prog 225 #[.agg #[.bool (iN (iv true (sN (bN a / 2 ^ m)))), .string (iM (iv true (sN (bN a / 2 ^ m))))], .agg #[.bool (iN 1), .string (iM 1)]] w1 fun e w' => e = .returned (.agg #[.bool (iN (iv true a / 2 ^ m)), .string (iM (iv true a / 2 ^ m))]) ∧ Below w1.heap.size w1 w' := fun w1 => by
     have := r7 (iN (iv true (sN (bN a / 2 ^ m)))) (iN 1) (iM (iv true (sN (bN a / 2 ^ m)))) (iM 1) w1 hsz (by rw [dV, Int.natAbs_one, rF]; omega)
     rw [fw, fw, e3] at this
     exact this
    refine ak (N := 47) (l := [.agg #[.bool true, .string a], .int .i64 (-(m : Int))]) Tryz.func198 rfl rfl (by simp) ?_
    refine sr ?_
    refine dp hh [_,_] ?_
    intro b2 w2 hh
    refine cj hh ?_
    intro b4 w4 hh
    refine aa (ai (sr (mI ?_)))
    refine dx (aa (cF (al (aj (sr (mI ?_))))))
    refine jc rfl rfl (by decide) ?_
    refine aI (aa (ai ?_))
    rw [e1]
    refine bf 10 [[(2, none)], [(18, some 0)], [(1, none)], [(20, some 2)], [(19, some 1), (21, some 3)], [(2, none)], [(23, some 5)], [(22, some 4), (24, some 6)], [(25, some 7)], []] [(9, 5), (8, 26), (7, 25), (6, 24), (5, 23), (4, 22), (3, 21), (2, 20), (1, 19), (0, 18)] hh mixed (by kernel_rfl) ?_
    refine dN ?_
    refine fC 1 ?_
    refine fe ?_
    refine bm (i := 3) (fun ρ1 w1 hj hR => ns (show ρ1 20 = Value.int _ _ from hR.1) (by omega) (by omega)) ?_
    refine dC (fun _ hj => hcs _) ?_
    refine dN ?_
    refine fC 1 ?_
    refine dB [_,_] ?_
    refine dC (fun _ hj => df true (sN (bN a / 2 ^ m)) _) ?_
    refine bz (i := 9) (ca _ 24 _) ca.ext (fun ρ1 w1 hj hR => eY aC.out hj.bl (fun v w2 h hb => ⟨hb, h⟩)) ?_
    refine bo ?_
    intro f W hJ hV
    have hb_4 := hJ.bl
    obtain ⟨v5, v26, v25, v24, v23, v22, v21, v20, v19, v18, _⟩ := hV
    obtain ⟨b5, e5, hl5, hc5⟩ : ca _ _ _ (f 9) W := v5
    replace hh := hJ.newVar hh hl5 hc5
    refine a7 (bu (ah e5 (ah v26 (ah v25 (ah v24 (ah v23 (ah v22 (ah v21 (ah v20 (ah v19 (ah v18 a6))))))))))) ?_
    dsimp only [cJ]
    clear e5 hJ
    refine bK hh 0 [_,_] ?_
    intro ws hh
    replace hh : Hp _ (.blk _ _ [_, _] _ :: _) _ := hh
    refine aa (ai (sr (bP ?_)))
    refine bQ hh 2 ?_
    refine mB ?_
    first | refine gS ?_ | (refine gT ?_; refine bP ?_) | refine gV ?_
    first | refine gS ?_ | (refine gT ?_; refine bQ hh 2 ?_) | refine gV ?_
    refine aX rfl rfl ?_
    refine bE hh (iP a _ (by omega)) rfl ?_
    intro w32 hh
    first | refine gS ?_ | (refine gT ?_; refine cg ?_) | refine gV ?_
    first | refine ct ?_ | refine cq ?_
    refine mB ?_
    first | refine gS ?_ | (refine gT ?_; refine bP ?_) | refine gV ?_
    first | refine gS ?_ | (refine gT ?_; refine bQ hh 2 ?_) | refine gV ?_
    refine aX rfl rfl ?_
    refine bE hh (gB a _ (by omega) (hT.hp hh)) rfl ?_
    intro w38 hh
    first | refine gS ?_ | (refine gT ?_; refine mI ?_) | refine gV ?_
    first | refine gS ?_ | (refine gT ?_; refine lg rfl (by omega) (by omega) (by decide) ?_) | refine gV ?_
    first | refine gS ?_ | (refine gT ?_; refine aZ ?_) | refine gV ?_
    first | refine ct ?_ | refine cq ?_
    refine aa (cT (ai ?_))
    refine bf 2 [[(5, none)], []] [(1, 44), (0, 43)] hh mixed (by kernel_rfl) ?_
    refine gj 0 [_,_] ?_
    refine dC (fun _ hj => lH 1 _ (by omega) (by omega)) ?_
    refine bo ?_
    intro f W hJ hV
    have hb_6 := hJ.bl
    obtain ⟨v44, v43, _⟩ := hV
    replace hh := hJ.hp
    refine a7 (bu (ah v44 (ah v43 a6))) ?_
    dsimp only [cJ]
    clear hJ
    refine bE hh (hsub _) rfl ?_
    intro w45 hh
    refine bK hh 1 [_,_] ?_
    intro ws hh
    replace hh : Hp _ (_ :: .blk _ _ [_, _] _ :: _) _ := hh
    refine aa (ao (aM ?_))
    refine hO (aU rfl (aV (vs := [_, _]) aC.out (hh.aw (i := 1) (n := 2) rfl rfl) rfl) bg) ?_
    exact ⟨rfl, hh.below⟩
end Go.Proofs.YtkgdagjklakajaaGreatDoor
namespace Go.Proofs.YtkgdagjklakajaaGreatDoor
open Go.RowKit
theorem zn : (2 : Rat) ≠ 0 := by decide
theorem two_pos (k : Int) : (0 : Rat) < 2 ^ k := Rat.zpow_pos (by decide)
theorem gY (i p : Int) : (Dyadic.ofIntWithPrec i p).toRat = i * 2 ^ (-p) := Dyadic.toRat_ofIntWithPrec_eq_mul_two_pow
theorem oU (i p : Int) (n : Nat) : Dyadic.ofIntWithPrec (i * 2 ^ n) (p + n) = Dyadic.ofIntWithPrec i p := by
 rw [← Int.shiftLeft_eq]; exact Dyadic.ofIntWithPrec_shiftLeft_add
theorem iU (i : Int) {p q : Int} {n : Nat} (h : q = p + n) : Dyadic.ofIntWithPrec i p = Dyadic.ofIntWithPrec (i * 2 ^ n) q := by
 subst h; exact (oU i p n).symm
theorem qd (i j p : Int) : Dyadic.ofIntWithPrec i p + Dyadic.ofIntWithPrec j p = Dyadic.ofIntWithPrec (i + j) p := by
 rw [← Dyadic.toRat_inj, Dyadic.toRat_add, gY, gY, gY, Rat.intCast_add, Rat.add_mul]
theorem pF (i j p q : Int) : Dyadic.ofIntWithPrec i p * Dyadic.ofIntWithPrec j q = Dyadic.ofIntWithPrec (i * j) (p + q) := by
 rw [← Dyadic.toRat_inj, Dyadic.toRat_mul, gY, gY, gY, Rat.intCast_mul, Int.neg_add, Rat.zpow_add zn]
 grind
theorem pU (i j p : Int) : Dyadic.ofIntWithPrec i p < Dyadic.ofIntWithPrec j p ↔ i < j := by
 rw [← Dyadic.toRat_lt_toRat_iff, gY, gY]
 rw [← Rat.intCast_lt_intCast]
 constructor
 ·intro h
  exact Rat.lt_of_mul_lt_mul_right h (Rat.le_of_lt (two_pos _))
 ·intro h
  exact Rat.mul_lt_mul_of_pos_right h (two_pos _)
theorem kS (p : Int) : Dyadic.ofIntWithPrec 0 p = 0 := rfl
theorem yp {i j p : Int} (h : Dyadic.ofIntWithPrec i p = Dyadic.ofIntWithPrec j p) : i = j := by
 rcases Int.lt_trichotomy i j with h1 | h1 | h1
 ·rw [← pU i j p, h] at h1
  exact absurd h1 (by rw [pU]; omega)
 ·exact h1
 ·rw [← pU j i p, h] at h1
  exact absurd h1 (by rw [pU]; omega)
theorem jb {i p : Int} (h : Dyadic.ofIntWithPrec i p = 0) : i = 0 := yp (p := p) (by rw [h]; rfl)
theorem th (n k : Int) (h : n % 2 = 1) : Dyadic.ofOdd n k h = Dyadic.ofIntWithPrec n k := Dyadic.ofOdd_eq_ofIntWithPrec
theorem tA {i p : Int} (h : i ≠ 0) : Dyadic.ofIntWithPrec i p = .ofOdd (i >>> i.trailingZeros) (p - i.trailingZeros) (Int.shiftRight_trailingZeros_mod_two h) := by
 rw [Dyadic.ofIntWithPrec, dif_neg h]
structure NR where
 neg : Bool
 cC : ByteArray
 e : Int
def NR.cells (a : NR) : List Value := [.bool a.neg, .string a.cC, .int .i64 a.e]
theorem NR.len (a : NR) : a.cells.length = 3 := rfl
def NR.i (a : NR) : Int := iv a.neg a.cC
def NR.d (a : NR) : Dyadic := Dyadic.ofIntWithPrec a.i (-a.e)
def nR : Dyadic → NR
 | .zero => ⟨false, ByteArray.mk #[], 0⟩
 | .ofOdd n k _ => ⟨iN n, iM n, -k⟩
theorem kX : nR 0 = ⟨false, ByteArray.mk #[], 0⟩ := rfl
theorem eO (x : Dyadic) : (nR x).d = x := by
 cases x with
 | zero => rfl
 | ofOdd n k h =>
  simp only [nR, NR.d, NR.i, fw, Int.neg_neg]
  exact (th n k h).symm
theorem zq {x y : Dyadic} : nR x = nR y ↔ x = y := ⟨fun h => by rw [← eO x, h, eO], fun h => by rw [h]⟩
theorem Ak (s : Bool) (a : ByteArray) : (iv s a).trailingZeros = tz (bN a) := by
 unfold iv
 split
 ·rw [Int.trailingZeros_neg]; rfl
 ·rfl
theorem tg (s : Bool) (a : ByteArray) : iv s a = 0 ↔ bN a = 0 := by
 have := gL s a
 omega
theorem lG {s : Bool} {a : ByteArray} {e : Int} (h : iv s a ≠ 0) : nR (Dyadic.ofIntWithPrec (iv s a) (-e)) = ⟨iN (iv s a / 2 ^ tz (bN a)), iM (iv s a / 2 ^ tz (bN a)), e + tz (bN a)⟩ := by
 rw [tA h, nR, Int.shiftRight_eq_div_pow, Ak]
 have e1 : -(-e - (tz (bN a) : Int)) = e + tz (bN a) := by omega
 rw [e1, Int.natCast_pow]
 rfl
def Sz (k : Nat) (x : Dyadic) : Prop := ∃ i : Int, x = Dyadic.ofIntWithPrec i k ∧ i.natAbs < 2 ^ (2 * k)
theorem Sz.zero (k : Nat) : Sz k 0 := ⟨0, rfl, by simpa using Nat.pow_pos (by omega)⟩
theorem Sz.mono {k l : Nat} {x : Dyadic} (h : Sz k x) (hl : k ≤ l) : Sz l x := by
 obtain ⟨i, rfl, hi⟩ := h
 refine ⟨i * 2 ^ (l - k), iU i (by omega), ?_⟩
 rw [Int.natAbs_mul, Int.natAbs_pow]
 have h1 : i.natAbs * 2 ^ (l - k) < 2 ^ (2 * k) * 2 ^ (l - k) := Nat.mul_lt_mul_of_pos_right hi (Nat.pow_pos (by omega))
 rw [← Nat.pow_add] at h1
 exact Nat.lt_of_lt_of_le h1 (Nat.pow_le_pow_right (by omega) (by omega))
theorem Sz.add {k : Nat} {x y : Dyadic} (hx : Sz k x) (hy : Sz k y) : Sz (k + 1) (x + y) := by
 obtain ⟨i, rfl, hi⟩ := hx
 obtain ⟨j, rfl, hj⟩ := hy
 rw [qd]
 refine ⟨(i + j) * 2 ^ 1, iU _ (by omega), ?_⟩
 have h1 : 2 ^ (2 * (k + 1)) = 4 * 2 ^ (2 * k) := by rw [show 2 * (k + 1) = 2 * k + 2 by omega, Nat.pow_add]; omega
 rw [h1]
 omega
theorem Sz.mul {k l : Nat} {x y : Dyadic} (hx : Sz k x) (hy : Sz l y) : Sz (k + l) (x * y) := by
 obtain ⟨i, rfl, hi⟩ := hx
 obtain ⟨j, rfl, hj⟩ := hy
 rw [pF]
 refine ⟨i * j, by rw [Int.natCast_add], ?_⟩
 rw [Int.natAbs_mul, Nat.mul_add, Nat.pow_add]
 exact Nat.mul_lt_mul'' hi hj
theorem lC {i : Int} (h : i ≠ 0) : 2 ^ i.trailingZeros ≤ i.natAbs := by
 have h1 := Int.two_pow_trailingZeros_dvd h
 have h2 := Int.natAbs_dvd_natAbs.2 h1
 rw [Int.natAbs_pow] at h2
 exact Nat.le_of_dvd (by omega) h2
theorem Sz.nr {k : Nat} {x : Dyadic} (h : Sz k x) : (nR x).cC.size ≤ (2 * k + 7) / 8 ∧ -(k : Int) ≤ (nR x).e ∧ (nR x).e ≤ k := by
 obtain ⟨i, rfl, hi⟩ := h
 by_cases h0 : i = 0
 ·subst h0
  rw [kS, kX]
  exact ⟨Nat.zero_le _, (by omega : -(k : Int) ≤ 0), (by omega : (0 : Int) ≤ k)⟩
 ·have h2 := lC h0
  rw [tA h0, nR]
  simp only
  refine ⟨?_, by omega, ?_⟩
  ·rw [dV]
   have : bA (i >>> i.trailingZeros).natAbs ≤ 2 * k := by
    apply cV
    refine Nat.lt_of_le_of_lt ?_ hi
    rw [Int.shiftRight_eq_div_pow]
    exact Int.natAbs_ediv_le_natAbs _ _
   omega
  ·have h3 : 2 ^ i.trailingZeros < 2 ^ (2 * k) := Nat.lt_of_le_of_lt h2 hi
   have := (Nat.pow_lt_pow_iff_right (by omega)).1 h3
   omega
theorem Sz.raw {a : NR} {m E : Nat} (hm : 8 * a.cC.size ≤ m) (h1 : -(E : Int) ≤ a.e) (h2 : a.e ≤ E) : Sz (m + E) a.d := by
 refine ⟨a.i * 2 ^ (a.e + m + E).toNat, iU _ (by omega), ?_⟩
 have h3 : a.i.natAbs < 2 ^ m := by
  rw [NR.i, gL]
  refine Nat.lt_of_lt_of_le (cN _) (Nat.pow_le_pow_right (by omega) ?_)
  have := ff a.cC
  omega
 rw [Int.natAbs_mul, Int.natAbs_pow]
 have h4 := Nat.mul_lt_mul_of_pos_right h3 (Nat.pow_pos (n := (a.e + m + E).toNat) (show 0 < 2 by omega))
 rw [← Nat.pow_add] at h4
 exact Nat.lt_of_lt_of_le h4 (Nat.pow_le_pow_right (by omega) (by omega))
def tU (i n : Int) : Int := if 0 ≤ n then i * 2 ^ n.toNat else i / 2 ^ (-n).toNat
theorem wa (n : Int) : tU 0 n = 0 := by unfold tU; split <;> simp
def cA : Dyadic → Int → Int
 | .zero, _ => 0
 | .ofOdd n k _, p => tU n (p - k)
def cR : Dyadic → Dyadic → Int
 | .zero, .zero => 0
 | .zero, .ofOdd _ k _ => k
 | .ofOdd _ k _, .zero => k
 | .ofOdd _ k _, .ofOdd _ l _ => max k l
theorem jR (n k p : Int) (h : n % 2 = 1) (hp : k ≤ p) : Dyadic.ofIntWithPrec (cA (.ofOdd n k h) p) p = .ofOdd n k h := by
 simp only [cA]
 rw [th, tU, if_pos (by omega)]
 exact (iU n (by omega)).symm
theorem Am (x y : Dyadic) : Dyadic.ofIntWithPrec (cA x (cR x y)) (cR x y) = x := by
 cases x with
 | zero => rfl
 | ofOdd n k h =>
  cases y with
  | zero => exact jR _ _ _ _ (Int.le_refl _)
  | ofOdd m l g => exact jR _ _ _ _ (Int.le_max_left _ _)
theorem z9 (x y : Dyadic) : Dyadic.ofIntWithPrec (cA y (cR x y)) (cR x y) = y := by
 cases y with
 | zero => rfl
 | ofOdd n k h =>
  cases x with
  | zero => exact jR _ _ _ _ (Int.le_refl _)
  | ofOdd m l g => exact jR _ _ _ _ (Int.le_max_right _ _)
theorem yH (x y : Dyadic) : Dyadic.ofIntWithPrec (cA x (cR x y) + cA y (cR x y)) (cR x y) = x + y := by
 rw [← qd, Am, z9]
theorem xa (i n : Int) : bA (tU i n).natAbs ≤ bA i.natAbs + n.toNat := by
 unfold tU
 split
 ·rw [Int.natAbs_mul, Int.natAbs_pow]
  exact ky _ _
 ·have : bA (i / 2 ^ (-n).toNat).natAbs ≤ bA i.natAbs := cV (Nat.lt_of_le_of_lt (Int.natAbs_ediv_le_natAbs _ _) (cN _))
  omega
theorem tw (x y : Dyadic) (E : Int) (h1 : -E ≤ (nR x).e ∧ (nR x).e ≤ E) (h2 : -E ≤ (nR y).e ∧ (nR y).e ≤ E) : -E ≤ cR x y ∧ cR x y ≤ E := by
 cases x <;> cases y <;> simp only [nR, cR] at * <;> omega
theorem nB (x : Dyadic) (p : Int) : bA (cA x p).natAbs ≤ 8 * (nR x).cC.size + (p + (nR x).e).toNat := by
 cases x with
 | zero => simp [cA, iq]
 | ofOdd n k h =>
  have h1 := xa n (p - k)
  have h2 := ff (iM n)
  rw [iM, eb] at h2
  simp only [cA, nR]
  rw [show p + -k = p - k by omega]
  rw [← iM] at h2
  omega
end Go.Proofs.YtkgdagjklakajaaGreatDoor
/- Several texts in one: Dyad, DyadB, DyadC, CmpD. -/
namespace Go.Proofs.YtkgdagjklakajaaGreatDoor
open Go.RowKit
variable {ro : Mode}
theorem tv {P : Program} {t : TypeId} {n by' : Nat} {zc : List Value} {cs : Array Value} {off : Nat} {v : Value} (ht : cZ P t = some (n, false, by', zc)) (hv : cs[off]? = some v) (w : World) : (part t cs off).run P w = .ok v w := by
 simp [part, gK ht, hv]
theorem yV {P : Program} {t : TypeId} {n by' : Nat} {zc : List Value} {cs vs : Array Value} {off : Nat} (ht : cZ P t = some (n, true, by', zc)) (hv : cs.extract off (off + n) = vs) (w : World) : (part t cs off).run P w = .ok (.agg vs) w := by
 simp [part, gK ht, eg ht, hv]
theorem AE (n : Nat) (a b : Bool) (w : World) : (Op.equalIn (n + 1) 4 (.bool a) (.bool b)).run Tryz.prog w = .ok (a == b) w := by
 simp [Op.equalIn, run_underlying Tryz.underlying4]
theorem z3 (n : Nat) (a b : ByteArray) (w : World) : (Op.equalIn (n + 1) 9 (.string a) (.string b)).run Tryz.prog w = .ok (a == b) w := by
 simp [Op.equalIn, run_underlying Tryz.underlying9]
theorem Ay (n : Nat) (a b : Int) (w : World) : (Op.equalIn (n + 1) 3 (.int .i64 a) (.int .i64 b)).run Tryz.prog w = .ok (a == b) w := by
 simp [Op.equalIn, run_underlying Tryz.underlying3]
theorem eq_int (n : Nat) (s s' : Bool) (a a' : ByteArray) (w : World) : (Op.equalIn (n + 2) 24 (.agg #[.bool s, .string a]) (.agg #[.bool s', .string a'])).run Tryz.prog w = .ok (s == s' && a == a') w := by
 have h1 := fun (x : Bool) (y : ByteArray) => tv (P := Tryz.prog) (cs := #[.bool x, .string y]) (off := 0) (aC.out (P := Tryz.prog) (t := 4)) rfl
 have h2 := fun (x : Bool) (y : ByteArray) => tv (P := Tryz.prog) (cs := #[.bool x, .string y]) (off := 1) (aC.out (P := Tryz.prog) (t := 9)) rfl
 rw [Op.equalIn]
 simp [run_underlying Tryz.underlying24, h1, h2, AE, z3]
 cases h : s == s' <;> cases h' : a == a' <;> simp_all
theorem sw (n : Nat) (s s' : Bool) (a a' : ByteArray) (e e' : Int) (w : World) : (Op.equalIn (n + 3) 26 (.agg #[.bool s, .string a, .int .i64 e]) (.agg #[.bool s', .string a', .int .i64 e'])).run Tryz.prog w = .ok ((s == s' && a == a') && e == e') w := by
 have h1 := fun (x : Bool) (y : ByteArray) (z : Int) => yV (P := Tryz.prog) (cs := #[.bool x, .string y, .int .i64 z]) (vs := #[.bool x, .string y]) (off := 0) (aC.out (P := Tryz.prog) (t := 24)) rfl
 have h2 := fun (x : Bool) (y : ByteArray) (z : Int) => tv (P := Tryz.prog) (cs := #[.bool x, .string y, .int .i64 z]) (off := 2) (aC.out (P := Tryz.prog) (t := 3)) rfl
 rw [Op.equalIn]
 simp [run_underlying Tryz.underlying26, h1, h2, eq_int, Ay]
 cases h : s == s' <;> cases h' : a == a' <;> cases h2 : e == e' <;> simp_all
section
variable {ρ : Rf} {w : World} {d : Option Nat} {ty u : TypeId} {pos : String} {af : Array Edge} {g : Option (Nat × Bool)} {x y : Operand} {s s' : Bool} {a a' : ByteArray} {e e' : Int}
theorem vx {a b : ByteArray} : (a == b) = true ↔ a = b := by
 have : (a == b) = (a.data == b.data) := rfl
 rw [this, beq_iff_eq]
 exact ⟨fun h => by cases a; cases b; simp_all, fun h => by rw [h]⟩
theorem kI : ((s == s' && a == a') && e == e') = true ↔ NR.mk s a e = NR.mk s' a' e' := by
 rw [Bool.and_eq_true, Bool.and_eq_true, beq_iff_eq, vx, beq_iff_eq, NR.mk.injEq, and_assoc]
theorem y3 {r : Bool} (hx : ev ρ x = .agg #[.bool s, .string a, .int .i64 e]) (hy : ev ρ y = .agg #[.bool s', .string a', .int .i64 e']) (hr : ((s == s' && a == a') && e == e') = r) :
  (execOp (ev ρ) ⟨d, .binOp .eql 26 x y u, ty, pos, af, g⟩).run Tryz.prog w = .ok (.value (.bool r)) w := by
 have h1 : (Op.equal 26 (.agg #[.bool s, .string a, .int .i64 e]) (.agg #[.bool s', .string a', .int .i64 e'])).run Tryz.prog w = .ok r w := by rw [← hr]; exact sw 9997 s s' a a' e e' w
 simp only [execOp, hx, hy]
 simp [eqGuard, binOp, h1]
theorem yX {r : Bool} (hx : ev ρ x = .agg #[.bool s, .string a, .int .i64 e]) (hy : ev ρ y = .agg #[.bool s', .string a', .int .i64 e']) (hr : ((s == s' && a == a') && e == e') = r) :
  (execOp (ev ρ) ⟨d, .binOp .neq 26 x y u, ty, pos, af, g⟩).run Tryz.prog w = .ok (.value (.bool !r)) w := by
 have h1 : (Op.equal 26 (.agg #[.bool s, .string a, .int .i64 e]) (.agg #[.bool s', .string a', .int .i64 e'])).run Tryz.prog w = .ok r w := by rw [← hr]; exact sw 9997 s s' a a' e e' w
 simp only [execOp, hx, hy]
 simp [eqGuard, binOp, h1]
theorem xQ (hx : ev ρ x = .agg #[.bool s, .string a, .int .i64 e]) (hy : ev ρ y = .agg #[.bool s', .string a', .int .i64 e']) (h : NR.mk s a e = NR.mk s' a' e') :
  (execOp (ev ρ) ⟨d, .binOp .eql 26 x y u, ty, pos, af, g⟩).run Tryz.prog w = .ok (.value (.bool true)) w := y3 hx hy (kI.2 h)
theorem xH (hx : ev ρ x = .agg #[.bool s, .string a, .int .i64 e]) (hy : ev ρ y = .agg #[.bool s', .string a', .int .i64 e']) (h : ¬ NR.mk s a e = NR.mk s' a' e') :
  (execOp (ev ρ) ⟨d, .binOp .eql 26 x y u, ty, pos, af, g⟩).run Tryz.prog w = .ok (.value (.bool false)) w := y3 hx hy (by rw [Bool.eq_false_iff]; exact fun h1 => h (kI.1 h1))
theorem jS (hx : ev ρ x = .agg #[.bool s, .string a, .int .i64 e]) (hy : ev ρ y = .agg #[.bool s', .string a', .int .i64 e']) (h : NR.mk s a e = NR.mk s' a' e') :
  (execOp (ev ρ) ⟨d, .binOp .neq 26 x y u, ty, pos, af, g⟩).run Tryz.prog w = .ok (.value (.bool false)) w := yX hx hy (kI.2 h)
theorem jG (hx : ev ρ x = .agg #[.bool s, .string a, .int .i64 e]) (hy : ev ρ y = .agg #[.bool s', .string a', .int .i64 e']) (h : ¬ NR.mk s a e = NR.mk s' a' e') :
  (execOp (ev ρ) ⟨d, .binOp .neq 26 x y u, ty, pos, af, g⟩).run Tryz.prog w = .ok (.value (.bool true)) w := yX hx hy (r := false) (by rw [Bool.eq_false_iff]; exact fun h1 => h (kI.1 h1))
end
section
variable {N : Nat} {ops : Array Oper} {Q : Kq} {ρ : Rf} {w : World} {rest : List Oper} {d : Nat} {ty u : TypeId} {pos : String} {af : Array Edge} {x y : Operand} {s s' : Bool} {a a' : ByteArray} {e e' : Int}
theorem kT (hx : ev ρ x = .agg #[.bool s, .string a, .int .i64 e]) (hy : ev ρ y = .agg #[.bool s', .string a', .int .i64 e']) (h : NR.mk s a e = NR.mk s' a' e') (hN : d < N) (kk : WL ro Tryz.prog N ops Q rest (cv ρ d (.bool true)) w) :
  WL ro Tryz.prog N ops Q (⟨some d, .binOp .eql 26 x y u, ty, pos, af, none⟩ :: rest) ρ w := aY rfl rfl hN (xQ hx hy h) kk
theorem kr (hx : ev ρ x = .agg #[.bool s, .string a, .int .i64 e]) (hy : ev ρ y = .agg #[.bool s', .string a', .int .i64 e']) (h : ¬ NR.mk s a e = NR.mk s' a' e') (hN : d < N) (kk : WL ro Tryz.prog N ops Q rest (cv ρ d (.bool false)) w) :
  WL ro Tryz.prog N ops Q (⟨some d, .binOp .eql 26 x y u, ty, pos, af, none⟩ :: rest) ρ w := aY rfl rfl hN (xH hx hy h) kk
end
theorem kP (s : Bool) (a : ByteArray) (n : Int) (w : World) (hT : gM w) (ha : a.size ≤ 100000000) (h1 : -1000000000 ≤ n) (h2 : n ≤ 1000000000) :
  Calls Tryz.prog 198 #[.agg #[.bool s, .string a], .int .i64 n] w fun e w' => e = .returned (.agg #[.bool (iN (tU (iv s a) n)), .string (iM (tU (iv s a) n))]) ∧ Below w.heap.size w w' := by
 unfold tU
 by_cases h : 0 ≤ n
 ·rw [if_pos h]
  obtain ⟨m, rfl⟩ := Int.eq_ofNat_of_zero_le h
  rw [Int.toNat_natCast]
  exact sB s a m w ha (by omega)
 ·rw [if_neg h]
  obtain ⟨m, hm⟩ := Int.eq_ofNat_of_zero_le (show 0 ≤ -n by omega)
  rw [hm, Int.toNat_natCast, show n = -(m : Int) by omega]
  exact sU s a m w hT ha (by omega) (by omega)
theorem gZ (s : Bool) (a : ByteArray) (e : Int) (w : World) (hT : gM w) (ha : a.size ≤ 100000000) (h1 : -1000000000000 ≤ e) (h2 : e ≤ 1000000000000) :
  Calls Tryz.prog 155 #[.agg #[.bool s, .string a], .int .i64 e] w fun r w' => r = .returned (.agg #[.bool (nR (Dyadic.ofIntWithPrec (iv s a) (-e))).neg, .string (nR (Dyadic.ofIntWithPrec (iv s a) (-e))).cC, .int .i64 (nR (Dyadic.ofIntWithPrec (iv s a) (-e))).e]) ∧ Below w.heap.size w w' := by
 have hh := Hp.start w
 by_cases h0 : iv s a = 0
 ·rw [h0, kS, kX]
  refine ak (N := 21) (l := [.agg #[.bool s, .string a], .int .i64 e]) Tryz.func155 rfl rfl (by simp) ?_
  refine sr ?_
  refine dp hh [_,_] ?_
  intro b2 w2 hh
  refine cj hh ?_
  intro b4 w4 hh
  refine aa (ai (sr ?_))
  refine cf hh 1 [_,_] ?_
  refine bE hh (jm s a _) rfl ?_
  intro w7 hh
  rw [h0]
  refine cI (aa (cT (sr ?_)))
  refine eM [_,_,_] ?_
  refine bK hh 0 [_,_,_] ?_
  intro ws hh
  replace hh : Hp _ (.blk _ _ [_, _, _] _ :: _) _ := hh
  refine aa (ao (aM ?_))
  refine hO (aU rfl (aV (vs := [_, _, _]) aC.out (hh.aw (i := 0) (n := 3) rfl rfl) rfl) bg) ?_
  exact ⟨rfl, hh.below⟩
 ·have hs : (iv s a).sign ≠ 0 := by rw [ne_eq, Int.sign_eq_zero_iff_zero]; exact h0
  rw [lG h0]
  have hz : bN a ≠ 0 := fun h => h0 ((tg s a).2 h)
  have htz : tz (bN a) < 8 * a.size + 1 := by
   have := oC a
   rw [show (256 : Nat) = 2 ^ 8 from rfl, ← Nat.pow_mul] at this
   have := oR hz this
   omega
  have hsh : tU (iv s a) (-(tz (bN a) : Int)) = iv s a / 2 ^ tz (bN a) := by
   unfold tU
   split
   ·have : tz (bN a) = 0 := by omega
    rw [this]; simp
   ·rw [Int.neg_neg, Int.toNat_natCast]
  refine ak (N := 21) (l := [.agg #[.bool s, .string a], .int .i64 e]) Tryz.func155 rfl rfl (by simp) ?_
  refine sr ?_
  refine dp hh [_,_] ?_
  intro b2 w2 hh
  refine cj hh ?_
  intro b4 w4 hh
  refine aa (ai (sr ?_))
  refine cf hh 1 [_,_] ?_
  refine bE hh (jm s a _) rfl ?_
  intro w7 hh
  refine cI (aa (cF (al (aj (sr (bP ?_))))))
  refine bQ hh 1 ?_
  refine bE hh (gB a _ (by omega) (hT.hp hh)) rfl ?_
  intro w12 hh
  refine aI (aa (sr ?_))
  refine cf hh 1 [_,_] (mI ?_)
  refine lg rfl (by omega) (by omega) (by decide) ?_
  refine bE hh (kP s a (-(tz (bN a) : Int)) _ (hT.hp hh) ha (by omega) (by omega)) rfl ?_
  intro w16 hh
  rw [hsh]
  refine mI (mI ?_)
  refine bO ?_
  refine eM [_,_,_] ?_
  refine bK hh 0 [_,_,_] ?_
  intro ws hh
  replace hh : Hp _ (.blk _ _ [_, _, _] _ :: _) _ := hh
  refine aa (ao ?_)
  refine hO (aU rfl (aV (vs := [_, _, _]) aC.out (hh.aw (i := 0) (n := 3) rfl rfl) rfl) bg) ?_
  exact ⟨rfl, hh.below⟩
def NR.ok (a : NR) : Prop := a.cC.size ≤ 1000000 ∧ -10000000 ≤ a.e ∧ a.e ≤ 10000000
theorem Sz.ok {k : Nat} {x : Dyadic} (h : Sz k x) (hk : k ≤ 3999990) : (nR x).ok := by
 have := h.nr
 refine ⟨by omega, by omega, by omega⟩
theorem lR (n : Int) (w : World) (hT : gM w) (h1 : -9223372036854775808 ≤ n) (h2 : n ≤ 9223372036854775807) :
  Calls Tryz.prog 77 #[.int .i64 n] w fun r w' => r = .returned (.agg #[.bool (nR (n : Dyadic)).neg, .string (nR (n : Dyadic)).cC, .int .i64 (nR (n : Dyadic)).e]) ∧ Below w.heap.size w w' := by
 have hh := Hp.start w
 have hsz : (iM n).size ≤ 100000000 := by
  rw [dV]
  have : bA n.natAbs ≤ 64 := cV (by omega)
  omega
 have hc : ∀ w1, gM w1 → Calls Tryz.prog 155 #[.agg #[.bool (iN n), .string (iM n)], .int .i64 0] w1 fun r w' => r = .returned (.agg #[.bool (nR (n : Dyadic)).neg, .string (nR (n : Dyadic)).cC, .int .i64 (nR (n : Dyadic)).e]) ∧ Below w1.heap.size w1 w' := fun w1 hT1 => by
  have := gZ (iN n) (iM n) 0 w1 hT1 hsz (by omega) (by omega)
  rw [fw] at this
  exact this
 refine ak (N := 6) (l := [.int .i64 n]) Tryz.func77 rfl rfl (by simp) ?_
 refine sr ?_
 refine cj hh ?_
 intro b2 w2 hh
 refine aa (sr (mI ?_))
 refine bE hh (lH n _ h1 h2) rfl ?_
 intro w4 hh
 refine bE hh (hc _ (hT.hp hh)) rfl ?_
 intro w5 hh
 refine bK hh 0 [_,_,_] ?_
 intro ws hh
 replace hh : Hp _ (.blk _ _ [_, _, _] _ :: _) _ := hh
 refine aa (ao ?_)
 refine hO (aU rfl (aV (vs := [_, _, _]) aC.out (hh.aw (i := 0) (n := 3) rfl rfl) rfl) bg) ?_
 exact ⟨rfl, hh.below⟩
theorem ea (a : NR) (w : World) (hT : gM w) (ha : a.cC.size ≤ 100000000) (h1 : -1000000000000 ≤ a.e) (h2 : a.e ≤ 1000000000000) :
  Calls Tryz.prog 98 #[.agg #[.bool a.neg, .string a.cC, .int .i64 a.e]] w fun r w' => r = .returned (.agg #[.bool (nR a.d).neg, .string (nR a.d).cC, .int .i64 (nR a.d).e]) ∧ Below w.heap.size w w' := by
 have hh := Hp.start w
 refine ak (N := 8) (l := [.agg #[.bool a.neg, .string a.cC, .int .i64 a.e]]) Tryz.func98 rfl rfl (by simp) ?_
 refine sr ?_
 refine dp hh [_,_,_] ?_
 intro b1 w1 hh
 refine cj hh ?_
 intro b2 w2 hh
 refine aa (sr (bP ?_))
 refine cf hh 1 [_,_] (bP ?_)
 refine bQ hh 1 ?_
 refine bE hh (gZ a.neg a.cC a.e _ (hT.hp hh) ha h1 h2) rfl ?_
 intro w7 hh
 refine bK hh 0 [_,_,_] ?_
 intro ws hh
 replace hh : Hp _ (.blk _ _ [_, _, _] _ :: _) _ := hh
 refine aa (ao ?_)
 refine hO (aU rfl (aV (vs := [_, _, _]) aC.out (hh.aw (i := 0) (n := 3) rfl rfl) rfl) bg) ?_
 exact ⟨rfl, hh.below⟩
theorem ma (a : NR) (w : World) :
  Calls Tryz.prog 97 #[.agg #[.bool a.neg, .string a.cC, .int .i64 a.e]] w fun r w' => r = .returned (.int .i64 a.i.sign) ∧ Below w.heap.size w w' := by
 have hh := Hp.start w
 refine ak (N := 6) (l := [.agg #[.bool a.neg, .string a.cC, .int .i64 a.e]]) Tryz.func97 rfl rfl (by simp) ?_
 refine sr ?_
 refine dp hh [_,_,_] ?_
 intro b1 w1 hh
 refine aI (aa (sr (bP ?_)))
 refine cf hh 0 [_,_] ?_
 refine bE hh (jm a.neg a.cC _) rfl ?_
 intro w5 hh
 refine aI (aa (ao ?_))
 refine cd ?_
 exact ⟨rfl, hh.below⟩
theorem oZ (s : Int) (a : NR) (w : World) (hT : gM w) (ha : a.cC.size ≤ 100000000) (h1 : -1000000000 ≤ a.e - s) (h2 : a.e - s ≤ 1000000000) :
  Calls Tryz.prog 196 #[.int .i64 s, .agg #[.bool a.neg, .string a.cC, .int .i64 a.e]] w fun r w' => r = .returned (.agg #[.bool (iN (tU a.i (a.e - s))), .string (iM (tU a.i (a.e - s)))]) ∧ Below w.heap.size w w' := by
 have hh := Hp.start w
 refine ak (N := 12) (l := [.int .i64 s, .agg #[.bool a.neg, .string a.cC, .int .i64 a.e]]) Tryz.func196 rfl rfl (by simp) ?_
 refine sr ?_
 refine dp hh [_,_,_] ?_
 intro b3 w3 hh
 refine cj hh ?_
 intro b4 w4 hh
 refine aa (sr (bP ?_))
 refine cf hh 1 [_,_] (bP ?_)
 refine bQ hh 1 ?_
 refine mI ?_
 refine fp ?_
 refine bE hh (kP a.neg a.cC (a.e - s) _ (hT.hp hh) ha h1 h2) rfl ?_
 intro w11 hh
 refine bK hh 0 [_,_] ?_
 intro ws hh
 replace hh : Hp _ (.blk _ _ [_, _] _ :: _) _ := hh
 refine aa (ao ?_)
 refine hO (aU rfl (aV (vs := [_, _]) aC.out (hh.aw (i := 0) (n := 2) rfl rfl) rfl) bg) ?_
 exact ⟨rfl, hh.below⟩
theorem sE (x : Dyadic) (p : Int) : tU (nR x).i ((nR x).e - -p) = cA x p := by
 cases x with
 | zero => exact wa _
 | ofOdd n k h =>
  simp only [nR, NR.i, fw, cA]
  congr 1
  omega
theorem g8 (x : Dyadic) : nR x = ⟨false, ByteArray.mk #[], 0⟩ ↔ x = 0 := by rw [← kX, zq]
theorem kH {a : NR} (h : a.ok) : Sz 18000000 a.d ∧ (nR a.d).cC.size ≤ 1000000 ∧ -18000000 ≤ (nR a.d).e ∧ (nR a.d).e ≤ 18000000 := by
 obtain ⟨h1, h2, h3⟩ := h
 refine ⟨Sz.raw (m := 8000000) (E := 10000000) (by omega) (by omega) (by omega), ?_⟩
 by_cases h0 : iv a.neg a.cC = 0
 ·rw [NR.d, NR.i, h0, kS, kX]
  exact ⟨Nat.zero_le _, by simp, by simp⟩
 ·rw [NR.d, NR.i, lG h0]
  have hz : bN a.cC ≠ 0 := fun h => h0 ((tg a.neg a.cC).2 h)
  have htz : tz (bN a.cC) < 8 * a.cC.size + 1 := by
   have := oC a.cC
   rw [show (256 : Nat) = 2 ^ 8 from rfl, ← Nat.pow_mul] at this
   have := oR hz this
   omega
  have hb : bA (iv a.neg a.cC / 2 ^ tz (bN a.cC)).natAbs ≤ 8 * a.cC.size := by
   apply cV
   refine Nat.lt_of_le_of_lt (Int.natAbs_ediv_le_natAbs _ _) ?_
   rw [gL]
   exact Nat.lt_of_lt_of_le (cN _) (Nat.pow_le_pow_right (by omega) (ff _))
  simp only
  rw [dV]
  refine ⟨by omega, by omega, by omega⟩
theorem pr (a b : NR) (w : World) (hT : gM w) (ha : a.ok) (hb : b.ok) :
  Calls Tryz.prog 154 #[.agg #[.bool a.neg, .string a.cC, .int .i64 a.e], .agg #[.bool b.neg, .string b.cC, .int .i64 b.e]] w fun r w' => r = .returned (.agg #[.int .i64 (-(cR a.d b.d)), .bool (iN (cA a.d (cR a.d b.d))), .string (iM (cA a.d (cR a.d b.d))), .bool (iN (cA b.d (cR a.d b.d))), .string (iM (cA b.d (cR a.d b.d)))]) ∧ Below w.heap.size w w' := by
 have hh := Hp.start w
 obtain ⟨ha1, ha2, ha3⟩ := ha
 obtain ⟨hb1, hb2, hb3⟩ := hb
 obtain ⟨_, fa1, fa2, fa3⟩ := kH (a := a) ⟨ha1, ha2, ha3⟩
 obtain ⟨_, fb1, fb2, fb3⟩ := kH (a := b) ⟨hb1, hb2, hb3⟩
 have hP := tw a.d b.d 18000000 (by omega) (by omega)
 have hcx := fun w1 hT1 => oZ (-(cR a.d b.d)) (nR a.d) w1 hT1 (by omega) (by omega) (by omega)
 have hcy := fun w1 hT1 => oZ (-(cR a.d b.d)) (nR b.d) w1 hT1 (by omega) (by omega) (by omega)
 rw [sE] at hcx hcy
 by_cases h0 : a.d = 0
 ·have h0' := (g8 a.d).2 h0
  have hs : (nR b.d).e = -(cR a.d b.d) := by
   rw [h0]
   cases b.d with
   | zero => rfl
   | ofOdd n k h => rfl
  refine ak (N := 41) (l := [.agg #[.bool a.neg, .string a.cC, .int .i64 a.e], .agg #[.bool b.neg, .string b.cC, .int .i64 b.e]]) Tryz.func154 rfl rfl (by simp) ?_
  refine sr ?_
  refine dp hh [_,_,_] ?_
  intro b2 w2 hh
  refine dp hh [_,_,_] ?_
  intro b3 w3 hh
  refine cj hh ?_
  intro b4 w4 hh
  refine aa (ai ?_)
  refine bf 3 [[(2, none)], [(7, some 0)], [(3, none)]] [(2, 9), (1, 8), (0, 7)] hh mixed (by kernel_rfl) ?_
  refine gj 2 [_,_,_] ?_
  refine dC (fun _ hj => ea a _ (hT.hp hj.hp) (by omega) (by omega) (by omega)) ?_
  refine gj 1 [_,_,_] ?_
  refine bo ?_
  intro f W hJ hV
  have hb_1 := hJ.bl
  obtain ⟨v9, v8, v7, _⟩ := hV
  replace hh := hJ.hp
  refine a7 (bu (ah v9 (ah v8 (ah v7 a6)))) ?_
  dsimp only [cJ]
  clear hJ
  refine bE hh (ea b _ (hT.hp hh) (by omega) (by omega) (by omega)) rfl ?_
  intro w10 hh
  refine bK hh 2 [_,_,_] ?_
  intro ws hh
  replace hh : Hp _ (_ :: _ :: .blk _ _ [_, _, _] _ :: _) _ := hh
  refine bK hh 1 [_,_,_] ?_
  intro ws hh
  replace hh : Hp _ (_ :: .blk _ _ [_, _, _] _ :: _) _ := hh
  refine aa (sr (bP ?_))
  refine bQ hh 2 ?_
  refine bP ?_
  refine bQ hh 1 ?_
  refine wx rfl rfl (by decide) ?_
  refine aI (aa (ai (aq (sr ?_))))
  refine cf hh 2 [_,_,_] ?_
  refine eM [_,_,_] ?_
  first | refine kT rfl rfl (by first | assumption | rfl) (by decide) ?_ | refine kr rfl rfl (by assumption) (by decide) ?_
  refine aB (aa (cT (au (bP ?_))))
  refine bQ hh 1 ?_
  refine aI (aK (a3 (aj (sr ?_))))
  rw [hs]
  refine mI ?_
  refine eM [_,_,_,_,_] ?_
  refine cj hh ?_
  intro b6 w6 hh
  refine bK hh 0 [_,_,_,_,_] ?_
  intro ws hh
  replace hh : Hp _ (.blk _ _ [_, _, _, _, _] _ :: _) _ := hh
  refine aa (ai ?_)
  refine bf 9 [[(6, none)], [(30, some 0)], [(2, none)], [(31, some 1), (32, some 2)], [(6, none)], [(34, some 4)], [(3, none)], [(35, some 5), (36, some 6)], [(6, none)]] [(8, 38), (7, 37), (6, 36), (5, 35), (4, 34), (3, 33), (2, 32), (1, 31), (0, 30)] hh mixed (by kernel_rfl) ?_
  refine dN ?_
  refine fC 0 ?_
  refine gj 3 [_,_,_] ?_
  refine dC (fun _ hj => hcx _ (hT.hp hj.hp)) ?_
  refine dN ?_
  refine fC 0 ?_
  refine gj 2 [_,_,_] ?_
  refine dC (fun _ hj => hcy _ (hT.hp hj.hp)) ?_
  refine dN ?_
  refine bo ?_
  intro f W hJ hV
  have hb_8 := hJ.bl
  obtain ⟨v38, v37, v36, v35, v34, v33, v32, v31, v30, _⟩ := hV
  replace hh := hJ.hp
  refine a7 (bu (ah v38 (ah v37 (ah v36 (ah v35 (ah v34 (ah v33 (ah v32 (ah v31 (ah v30 a6)))))))))) ?_
  dsimp only [cJ]
  clear hJ
  refine bK hh 0 [_,_] ?_
  intro ws hh
  replace hh : Hp _ (.blk _ _ [_, _, _, _, _] _ :: _) _ := hh
  refine bP ?_
  refine bK hh 0 [_,_] ?_
  intro ws hh
  replace hh : Hp _ (.blk _ _ [_, _, _, _, _] _ :: _) _ := hh
  refine aa (sr ?_)
  refine cf hh 0 [_,_,_,_,_] ?_
  refine bK hh 1 [_,_,_,_,_] ?_
  intro ws hh
  replace hh : Hp _ (_ :: .blk _ _ [_, _, _, _, _] _ :: _) _ := hh
  refine aa (ao ?_)
  refine hO (aU rfl (aV (vs := [_, _, _, _, _]) aC.out (hh.aw (i := 1) (n := 5) rfl rfl) rfl) bg) ?_
  exact ⟨rfl, hh.below⟩
 ·have h0' : ¬ nR a.d = ⟨false, ByteArray.mk #[], 0⟩ := fun h => h0 ((g8 _).1 h)
  by_cases h1 : b.d = 0
  ·have h1' := (g8 b.d).2 h1
   have hs : (nR a.d).e = -(cR a.d b.d) := by
    rw [h1]
    cases a.d with
    | zero => rfl
    | ofOdd n k h => rfl
   refine ak (N := 41) (l := [.agg #[.bool a.neg, .string a.cC, .int .i64 a.e], .agg #[.bool b.neg, .string b.cC, .int .i64 b.e]]) Tryz.func154 rfl rfl (by simp) ?_
   refine sr ?_
   refine dp hh [_,_,_] ?_
   intro b2 w2 hh
   refine dp hh [_,_,_] ?_
   intro b3 w3 hh
   refine cj hh ?_
   intro b4 w4 hh
   refine aa (ai ?_)
   refine bf 3 [[(2, none)], [(7, some 0)], [(3, none)]] [(2, 9), (1, 8), (0, 7)] hh mixed (by kernel_rfl) ?_
   refine gj 2 [_,_,_] ?_
   refine dC (fun _ hj => ea a _ (hT.hp hj.hp) (by omega) (by omega) (by omega)) ?_
   refine gj 1 [_,_,_] ?_
   refine bo ?_
   intro f W hJ hV
   have hb_1 := hJ.bl
   obtain ⟨v9, v8, v7, _⟩ := hV
   replace hh := hJ.hp
   refine a7 (bu (ah v9 (ah v8 (ah v7 a6)))) ?_
   dsimp only [cJ]
   clear hJ
   refine bE hh (ea b _ (hT.hp hh) (by omega) (by omega) (by omega)) rfl ?_
   intro w10 hh
   refine bK hh 2 [_,_,_] ?_
   intro ws hh
   replace hh : Hp _ (_ :: _ :: .blk _ _ [_, _, _] _ :: _) _ := hh
   refine bK hh 1 [_,_,_] ?_
   intro ws hh
   replace hh : Hp _ (_ :: .blk _ _ [_, _, _] _ :: _) _ := hh
   refine aa (sr (bP ?_))
   refine bQ hh 2 ?_
   refine bP ?_
   refine bQ hh 1 ?_
   refine wx rfl rfl (by decide) ?_
   refine aI (aa (ai (aq (sr ?_))))
   refine cf hh 2 [_,_,_] ?_
   refine eM [_,_,_] ?_
   first | refine kT rfl rfl (by first | assumption | rfl) (by decide) ?_ | refine kr rfl rfl (by assumption) (by decide) ?_
   refine aB (aa (cF (sr ?_)))
   refine cf hh 1 [_,_,_] ?_
   refine eM [_,_,_] ?_
   first | refine kT rfl rfl (by first | assumption | rfl) (by decide) ?_ | refine kr rfl rfl (by assumption) (by decide) ?_
   refine aB (aa (cT (au (bP ?_))))
   refine bQ hh 2 ?_
   refine aI (aK (a3 (aj (sr ?_))))
   rw [hs]
   refine mI ?_
   refine eM [_,_,_,_,_] ?_
   refine cj hh ?_
   intro b6 w6 hh
   refine bK hh 0 [_,_,_,_,_] ?_
   intro ws hh
   replace hh : Hp _ (.blk _ _ [_, _, _, _, _] _ :: _) _ := hh
   refine aa (ai ?_)
   refine bf 9 [[(6, none)], [(30, some 0)], [(2, none)], [(31, some 1), (32, some 2)], [(6, none)], [(34, some 4)], [(3, none)], [(35, some 5), (36, some 6)], [(6, none)]] [(8, 38), (7, 37), (6, 36), (5, 35), (4, 34), (3, 33), (2, 32), (1, 31), (0, 30)] hh mixed (by kernel_rfl) ?_
   refine dN ?_
   refine fC 0 ?_
   refine gj 3 [_,_,_] ?_
   refine dC (fun _ hj => hcx _ (hT.hp hj.hp)) ?_
   refine dN ?_
   refine fC 0 ?_
   refine gj 2 [_,_,_] ?_
   refine dC (fun _ hj => hcy _ (hT.hp hj.hp)) ?_
   refine dN ?_
   refine bo ?_
   intro f W hJ hV
   have hb_8 := hJ.bl
   obtain ⟨v38, v37, v36, v35, v34, v33, v32, v31, v30, _⟩ := hV
   replace hh := hJ.hp
   refine a7 (bu (ah v38 (ah v37 (ah v36 (ah v35 (ah v34 (ah v33 (ah v32 (ah v31 (ah v30 a6)))))))))) ?_
   dsimp only [cJ]
   clear hJ
   refine bK hh 0 [_,_] ?_
   intro ws hh
   replace hh : Hp _ (.blk _ _ [_, _, _, _, _] _ :: _) _ := hh
   refine bP ?_
   refine bK hh 0 [_,_] ?_
   intro ws hh
   replace hh : Hp _ (.blk _ _ [_, _, _, _, _] _ :: _) _ := hh
   refine aa (sr ?_)
   refine cf hh 0 [_,_,_,_,_] ?_
   refine bK hh 1 [_,_,_,_,_] ?_
   intro ws hh
   replace hh : Hp _ (_ :: .blk _ _ [_, _, _, _, _] _ :: _) _ := hh
   refine aa (ao ?_)
   refine hO (aU rfl (aV (vs := [_, _, _, _, _]) aC.out (hh.aw (i := 1) (n := 5) rfl rfl) rfl) bg) ?_
   exact ⟨rfl, hh.below⟩
  ·have h1' : ¬ nR b.d = ⟨false, ByteArray.mk #[], 0⟩ := fun h => h1 ((g8 _).1 h)
   have hs : (if (nR b.d).e < (nR a.d).e then (nR b.d).e else (nR a.d).e) = -(cR a.d b.d) := by
    revert h0 h1
    cases a.d with
    | zero => intro h; exact absurd rfl h
    | ofOdd n k h =>
     cases b.d with
     | zero => intro _ h; exact absurd rfl h
     | ofOdd m l g =>
      intro _ _
      simp only [nR, cR]
      omega
   refine ak (N := 41) (l := [.agg #[.bool a.neg, .string a.cC, .int .i64 a.e], .agg #[.bool b.neg, .string b.cC, .int .i64 b.e]]) Tryz.func154 rfl rfl (by simp) ?_
   refine sr ?_
   refine dp hh [_,_,_] ?_
   intro b2 w2 hh
   refine dp hh [_,_,_] ?_
   intro b3 w3 hh
   refine cj hh ?_
   intro b4 w4 hh
   refine aa (ai ?_)
   refine bf 3 [[(2, none)], [(7, some 0)], [(3, none)]] [(2, 9), (1, 8), (0, 7)] hh mixed (by kernel_rfl) ?_
   refine gj 2 [_,_,_] ?_
   refine dC (fun _ hj => ea a _ (hT.hp hj.hp) (by omega) (by omega) (by omega)) ?_
   refine gj 1 [_,_,_] ?_
   refine bo ?_
   intro f W hJ hV
   have hb_1 := hJ.bl
   obtain ⟨v9, v8, v7, _⟩ := hV
   replace hh := hJ.hp
   refine a7 (bu (ah v9 (ah v8 (ah v7 a6)))) ?_
   dsimp only [cJ]
   clear hJ
   refine bE hh (ea b _ (hT.hp hh) (by omega) (by omega) (by omega)) rfl ?_
   intro w10 hh
   refine bK hh 2 [_,_,_] ?_
   intro ws hh
   replace hh : Hp _ (_ :: _ :: .blk _ _ [_, _, _] _ :: _) _ := hh
   refine bK hh 1 [_,_,_] ?_
   intro ws hh
   replace hh : Hp _ (_ :: .blk _ _ [_, _, _] _ :: _) _ := hh
   refine aa (sr (bP ?_))
   refine bQ hh 2 ?_
   refine bP ?_
   refine bQ hh 1 ?_
   refine wx rfl rfl (by decide) ?_
   refine aI (aa (ai (aq (sr ?_))))
   refine cf hh 2 [_,_,_] ?_
   refine eM [_,_,_] ?_
   first | refine kT rfl rfl (by first | assumption | rfl) (by decide) ?_ | refine kr rfl rfl (by assumption) (by decide) ?_
   refine aB (aa (cF (sr ?_)))
   refine cf hh 1 [_,_,_] ?_
   refine eM [_,_,_] ?_
   first | refine kT rfl rfl (by first | assumption | rfl) (by decide) ?_ | refine kr rfl rfl (by assumption) (by decide) ?_
   refine aB (aa (cF (al (a3 (aj (sr ?_))))))
   rw [hs]
   refine mI ?_
   refine eM [_,_,_,_,_] ?_
   refine cj hh ?_
   intro b6 w6 hh
   refine bK hh 0 [_,_,_,_,_] ?_
   intro ws hh
   replace hh : Hp _ (.blk _ _ [_, _, _, _, _] _ :: _) _ := hh
   refine aa (ai ?_)
   refine bf 9 [[(6, none)], [(30, some 0)], [(2, none)], [(31, some 1), (32, some 2)], [(6, none)], [(34, some 4)], [(3, none)], [(35, some 5), (36, some 6)], [(6, none)]] [(8, 38), (7, 37), (6, 36), (5, 35), (4, 34), (3, 33), (2, 32), (1, 31), (0, 30)] hh mixed (by kernel_rfl) ?_
   refine dN ?_
   refine fC 0 ?_
   refine gj 3 [_,_,_] ?_
   refine dC (fun _ hj => hcx _ (hT.hp hj.hp)) ?_
   refine dN ?_
   refine fC 0 ?_
   refine gj 2 [_,_,_] ?_
   refine dC (fun _ hj => hcy _ (hT.hp hj.hp)) ?_
   refine dN ?_
   refine bo ?_
   intro f W hJ hV
   have hb_8 := hJ.bl
   obtain ⟨v38, v37, v36, v35, v34, v33, v32, v31, v30, _⟩ := hV
   replace hh := hJ.hp
   refine a7 (bu (ah v38 (ah v37 (ah v36 (ah v35 (ah v34 (ah v33 (ah v32 (ah v31 (ah v30 a6)))))))))) ?_
   dsimp only [cJ]
   clear hJ
   refine bK hh 0 [_,_] ?_
   intro ws hh
   replace hh : Hp _ (.blk _ _ [_, _, _, _, _] _ :: _) _ := hh
   refine bP ?_
   refine bK hh 0 [_,_] ?_
   intro ws hh
   replace hh : Hp _ (.blk _ _ [_, _, _, _, _] _ :: _) _ := hh
   refine aa (sr ?_)
   refine cf hh 0 [_,_,_,_,_] ?_
   refine bK hh 1 [_,_,_,_,_] ?_
   intro ws hh
   replace hh : Hp _ (_ :: .blk _ _ [_, _, _, _, _] _ :: _) _ := hh
   refine aa (ao ?_)
   refine hO (aU rfl (aV (vs := [_, _, _, _, _]) aC.out (hh.aw (i := 1) (n := 5) rfl rfl) rfl) bg) ?_
   exact ⟨rfl, hh.below⟩
end Go.Proofs.YtkgdagjklakajaaGreatDoor
namespace Go.Proofs.YtkgdagjklakajaaGreatDoor
open Go.RowKit
def AZ (x y : Dyadic) : Int := if x < y then -1 else if y < x then 1 else 0
theorem oL {a b : NR} (ha : a.ok) (hb : b.ok) : (iM (cA a.d (cR a.d b.d))).size ≤ 6000000 ∧ (iM (cA b.d (cR a.d b.d))).size ≤ 6000000 ∧ -18000000 ≤ cR a.d b.d ∧ cR a.d b.d ≤ 18000000 := by
 obtain ⟨_, fa1, fa2, fa3⟩ := kH ha
 obtain ⟨_, fb1, fb2, fb3⟩ := kH hb
 have hP := tw a.d b.d 18000000 (by omega) (by omega)
 have h1 := nB a.d (cR a.d b.d)
 have h2 := nB b.d (cR a.d b.d)
 rw [dV, dV]
 refine ⟨by omega, by omega, hP.1, hP.2⟩
def A0 (n : Int) : Dyadic := Dyadic.ofIntWithPrec 1 (-n)
def mf : List Dyadic → Dyadic := fun l => l.foldl (· + ·) 0
theorem pj (l : List Dyadic) (x : Dyadic) : mf (l ++ [x]) = mf l + x := by simp [mf]
theorem Sz.sum {k : Nat} {l : List Dyadic} (h : ∀ x ∈ l, Sz k x) : Sz (k + l.length) (mf l) := by
 have : ∀ (n : Nat), n ≤ l.length → Sz (k + n) (mf (l.take n)) := by
  intro n
  induction n with
  | zero => intro _; exact Sz.zero _
  | succ n ih =>
   intro hn
   obtain ⟨x, hx⟩ := aR (l := l) (k := n) (by omega)
   rw [aW hx, pj]
   exact (ih (by omega)).add ((h x (List.mem_of_getElem? hx)).mono (by omega))
 have h2 := this l.length (Nat.le_refl _)
 rwa [List.take_length] at h2
theorem m6 (a b : NR) (w : World) (hT : gM w) (ha : a.ok) (hb : b.ok) :
  Calls Tryz.prog 155 #[.agg #[.bool (iN (cA a.d (cR a.d b.d) + cA b.d (cR a.d b.d))), .string (iM (cA a.d (cR a.d b.d) + cA b.d (cR a.d b.d)))], .int .i64 (-(cR a.d b.d))] w fun r w' => r = .returned (.agg #[.bool (nR (a.d + b.d)).neg, .string (nR (a.d + b.d)).cC, .int .i64 (nR (a.d + b.d)).e]) ∧ Below w.heap.size w w' := by
 obtain ⟨hs1, hs2, hP1, hP2⟩ := oL ha hb
 rw [dV] at hs1 hs2
 have h3 := kV (cA a.d (cR a.d b.d)) (cA b.d (cR a.d b.d))
 have := gZ (iN (cA a.d (cR a.d b.d) + cA b.d (cR a.d b.d))) (iM (cA a.d (cR a.d b.d) + cA b.d (cR a.d b.d))) (-(cR a.d b.d)) w hT (by rw [dV]; omega) (by omega) (by omega)
 rw [fw, Int.neg_neg, yH] at this
 exact this
theorem te (L : Option Addr) (n c : Nat) (l : List NR) (w : World) (hT : gM w) (hS : Sl w L n 3 (a8 NR.cells l)) (hl : ∀ a ∈ l, a.ok) (k : Nat) (hk : ∀ a ∈ l, Sz k a.d) (hkn : k + n ≤ 3999990) :
  Calls Tryz.prog 74 #[.slice L n c] w fun r w' => r = .returned (.agg #[.bool (nR (mf (l.map NR.d))).neg, .string (nR (mf (l.map NR.d))).cC, .int .i64 (nR (mf (l.map NR.d))).e]) ∧ Below w.heap.size w w' := by
 have hln := hS.ck NR.len (by omega)
 have hh := Hp.start w
 refine ak (N := 27) (l := [.slice L n c]) Tryz.func74 rfl rfl (by simp) ?_
 refine sr ?_
 refine cj hh ?_
 intro b2 w2 hh
 refine aa (sr ?_)
 refine cj hh ?_
 intro b3 w3 hh
 refine aa (ai (sr (mL (a5 (mI (aa (aq ?_)))))))
 refine bD [5, 6, 9, 10, 11, 12, 13, 14, 15, 16, 17, 18, 19, 20, 21, 22, 23, 24, 25] 9
  (fun j w' => ∃ (i : Nat) (S : Dyadic), i ≤ n ∧ j = .int .i64 i ∧ S = mf ((l.take i).map NR.d) ∧ Hp w [.blk b3 26 [.bool (nR S).neg, .string (nR S).cC, .int .i64 (nR S).e] (0, 0), .blk b2 26 [.bool false, .string (ByteArray.mk #[]), .int .i64 0] (0, 0)] w')
  (fun j _ => n - (intOf j).toNat) ?_ ?_
 ·exact ⟨0, 0, Nat.zero_le _, rfl, rfl, hh⟩
 ·clear hh
  rintro ρ' j w' ⟨i, S, hi, rfl, hS2, hh⟩
  by_cases hlt : i < n
  ·obtain ⟨x, hx⟩ := aR (l := l) (k := i) (by omega)
   obtain ⟨ad, rfl, hr⟩ := hS.at_ (by omega)
   have hxm := List.mem_of_getElem? hx
   have hS3 : mf ((l.take (i + 1)).map NR.d) = S + x.d := by rw [aW hx, List.map_append, List.map_singleton, pj, hS2]
   have hSz : Sz (k + i) S := by
    rw [hS2]
    have := Sz.sum (k := k) (l := (l.take i).map NR.d) (fun y hy => by
     obtain ⟨a, ha, rfl⟩ := List.mem_map.1 hy
     exact hk a (List.mem_of_mem_take ha))
    rw [List.length_map, List.length_take, Nat.min_eq_left (by omega)] at this
    exact this
   have hSo := hSz.ok (by omega)
   have hlc := fun w1 hT1 => pr (nR S) x w1 hT1 hSo (hl x hxm)
   have hmc := fun w1 hT1 => m6 (nR S) x w1 hT1 hSo (hl x hxm)
   obtain ⟨hs1, hs2, _⟩ := oL hSo (hl x hxm)
   rw [eO] at hlc hmc hs1 hs2
   have e1 : ([iR (cA S (cR S x.d)), iR (cA x.d (cR S x.d))].map IR.v).sum = cA S (cR S x.d) + cA x.d (cR S x.d) := by
    simp only [List.map_cons, List.map_nil, List.sum_cons, List.sum_nil, Ai]; omega
   have hac : ∀ (A : Option Addr) (cc : Nat) (w1 : World), Sl w1 A 2 2 (a8 IR.cells [iR (cA S (cR S x.d)), iR (cA x.d (cR S x.d))]) → Calls Tryz.prog 156 #[.slice A 2 cc] w1 fun e w' => e = .returned (.agg #[.bool (iN (cA S (cR S x.d) + cA x.d (cR S x.d))), .string (iM (cA S (cR S x.d) + cA x.d (cR S x.d)))]) ∧ Below w1.heap.size w1 w' := fun A cc w1 hsl => by
    have := nw A 2 cc [iR (cA S (cR S x.d)), iR (cA x.d (cR S x.d))] w1 hsl (by omega) (by simp [iR]; omega)
    rw [e1] at this
    exact this
   refine sr ?_
   refine aZ (aa (ai (cT (al (aj (ai (aq (sr ?_))))))))
   refine a0 (k := i) aJ.out aC.size rfl rfl (by omega) (by omega) (by decide) ?_
   refine cb (vs := [_, _, _]) aC.out rfl (((hr.ext hh.below).recAt NR.len hx)) rfl (by decide) ?_
   refine cj hh ?_
   intro b5 w5 hh
   refine bK hh 0 [_,_,_] ?_
   intro ws hh
   replace hh : Hp _ (.blk _ _ [_, _, _] _ :: _) _ := hh
   refine aa (sr ?_)
   refine cf hh 1 [_,_,_] ?_
   refine cf hh 0 [_,_,_] ?_
   refine bE hh (hlc _ (hT.hp hh)) rfl ?_
   intro w15 hh
   refine cj hh ?_
   intro b6 w6 hh
   refine bK hh 0 [_,_,_,_,_] ?_
   intro ws hh
   replace hh : Hp _ (.blk _ _ [_, _, _, _, _] _ :: _) _ := hh
   refine aa ?_
   refine bf 8 [[(6, none)], [(16, some 0)], [(6, none)], [(18, some 2)], [(17, some 1), (19, some 3)], [(20, some 4)], [(6, none)], [(22, some 6)]] [(7, 23), (6, 22), (5, 21), (4, 20), (3, 19), (2, 18), (1, 17), (0, 16)] hh mixed (by kernel_rfl) ?_
   refine dN ?_
   refine gj 0 [_,_] ?_
   refine dN ?_
   refine gj 0 [_,_] ?_
   refine yQ [_,_,_,_] ?_
   refine bz (i := 5) (Is (.agg #[.bool (iN (cA S (cR S x.d) + cA x.d (cR S x.d))), .string (iM (cA S (cR S x.d) + cA x.d (cR S x.d)))])) Is.ext ?_ ?_
   ·intro ρ1 w1 hj hR
    obtain ⟨A20, c20, h20, s20⟩ := hR.1
    exact cG rfl (bh ar.out (aF h20 bj)) (hac A20 c20 _ s20) (fun _ _ hq => ⟨_, hq.1, hq.2, rfl⟩)
   refine dN ?_
   refine fC 0 ?_
   refine bo ?_
   intro f W hJ hV
   have hb_6 := hJ.bl
   obtain ⟨v23, v22, v21, v20, v19, v18, v17, v16, _⟩ := hV
   obtain ⟨A20, c20, e20, f20⟩ : Rows _ _ _ (f 4) W := v20
   replace hh := hJ.hp
   refine a7 (bu (ah v23 (ah v22 (ah v21 (ah e20 (ah v19 (ah v18 (ah v17 (ah v16 a6))))))))) ?_
   dsimp only [cJ]
   clear e20 hJ
   refine bE hh (hmc _ (hT.hp hh)) rfl ?_
   intro w24 hh
   refine bK hh 2 [_,_,_] ?_
   intro ws hh
   replace hh : Hp _ (_ :: _ :: .blk _ _ [_, _, _] _ :: _) _ := hh
   refine aK (a3 (aj (au ?_)))
   refine bO (mI (aK (aj ?_)))
   replace hh := hh.sub ((List.sublist_cons_self _ _).trans (List.sublist_cons_self _ _))
   refine ⟨⟨i + 1, _, by omega, rfl, hS3.symm, hh⟩, by show n - (i + 1) < n - i; omega, ?_⟩
   (repeat (first | exact aA _ _ _ | refine aE rfl ?_ | refine ax rfl ?_))
  ·refine sr ?_
   refine aZ (aa (ai (cF ?_)))
   refine a4 ?_
   refine aD (aD (bp (aj (sr ?_))))
   refine cf hh 0 [_,_,_] ?_
   refine bK hh 1 [_,_,_] ?_
   intro ws hh
   replace hh : Hp _ (_ :: .blk _ _ [_, _, _] _ :: _) _ := hh
   refine aa (ao ?_)
   refine hO (aU rfl (aV (vs := [_, _, _]) aC.out (hh.aw (i := 1) (n := 3) rfl rfl) rfl) bg) ?_
   rw [List.take_of_length_le (by omega)] at hS2
   rw [hS2]
   exact ⟨rfl, hh.below⟩
theorem vN (x y : Dyadic) : mf [x, y] = x + y := by
 show (0 + x) + y = x + y
 rw [Dyadic.zero_add]
def iW : List Dyadic → Dyadic := fun l => l.foldl (· * ·) 1
theorem nG (l : List Dyadic) (x : Dyadic) : iW (l ++ [x]) = iW l * x := by simp [iW]
theorem Sz.one : Sz 1 1 := ⟨2, by decide +kernel, by decide⟩
theorem Sz.prod {k : Nat} {l : List Dyadic} (h : ∀ x ∈ l, Sz k x) : Sz (1 + k * l.length) (iW l) := by
 have : ∀ (n : Nat), n ≤ l.length → Sz (1 + k * n) (iW (l.take n)) := by
  intro n
  induction n with
  | zero => intro _; exact Sz.one
  | succ n ih =>
   intro hn
   obtain ⟨x, hx⟩ := aR (l := l) (k := n) (by omega)
   rw [aW hx, nG]
   exact ((ih (by omega)).mul (h x (List.mem_of_getElem? hx))).mono (by rw [Nat.mul_succ]; omega)
 have h2 := this l.length (Nat.le_refl _)
 rwa [List.take_length] at h2
theorem nS (L : Option Addr) (n c : Nat) (l : List NR) (w : World) (hT : gM w) (hS : Sl w L n 3 (a8 NR.cells l)) (hl : ∀ a ∈ l, a.ok) (k : Nat) (hk : ∀ a ∈ l, Sz k a.d) (hkn : k * n ≤ 3999980) (hn : n ≤ 1000000) :
  Calls Tryz.prog 75 #[.slice L n c] w fun r w' => r = .returned (.agg #[.bool (nR (iW (l.map NR.d))).neg, .string (nR (iW (l.map NR.d))).cC, .int .i64 (nR (iW (l.map NR.d))).e]) ∧ Below w.heap.size w w' := by
 have hln := hS.ck NR.len (by omega)
 have hh := Hp.start w
 refine ak (N := 27) (l := [.slice L n c]) Tryz.func75 rfl rfl (by simp) ?_
 refine sr ?_
 refine cj hh ?_
 intro b2 w2 hh
 refine aa (sr ?_)
 refine bE hh (lR 1 _ (hT.hp hh) (by omega) (by omega)) rfl ?_
 intro w6 hh
 refine cj hh ?_
 intro b3 w3 hh
 refine bK hh 0 [_,_,_] ?_
 intro ws hh
 replace hh : Hp _ (.blk _ _ [_, _, _] _ :: _) _ := hh
 refine aa (ai (sr (mL (a5 (mI (aa (aq ?_)))))))
 refine bD [5, 9, 10, 11, 12, 13, 14, 15, 16, 17, 18, 19, 20, 21, 22, 23, 24, 25] 9
  (fun j w' => ∃ (i : Nat) (S : Dyadic), i ≤ n ∧ j = .int .i64 i ∧ S = iW ((l.take i).map NR.d) ∧ Hp w [.blk b3 26 [.bool (nR S).neg, .string (nR S).cC, .int .i64 (nR S).e] (0, 0), .blk b2 26 [.bool false, .string (ByteArray.mk #[]), .int .i64 0] (0, 0)] w')
  (fun j _ => n - (intOf j).toNat) ?_ ?_
 ·exact ⟨0, _, Nat.zero_le _, rfl, rfl, hh⟩
 ·clear hh
  rintro ρ' j w' ⟨i, S, hi, rfl, hS2, hh⟩
  by_cases hlt : i < n
  ·obtain ⟨x, hx⟩ := aR (l := l) (k := i) (by omega)
   obtain ⟨ad, rfl, hr⟩ := hS.at_ (by omega)
   have hxm := List.mem_of_getElem? hx
   have hS3 : iW ((l.take (i + 1)).map NR.d) = S * x.d := by rw [aW hx, List.map_append, List.map_singleton, nG, hS2]
   have hSz : Sz (1 + k * i) S := by
    rw [hS2]
    have := Sz.prod (k := k) (l := (l.take i).map NR.d) (fun y hy => by
     obtain ⟨a, ha, rfl⟩ := List.mem_map.1 hy
     exact hk a (List.mem_of_mem_take ha))
    rw [List.length_map, List.length_take, Nat.min_eq_left (by omega)] at this
    exact this
   have hki : k * i ≤ k * n := Nat.mul_le_mul_left _ hi
   obtain ⟨so1, so2, so3⟩ := hSz.ok (by omega)
   obtain ⟨xo1, xo2, xo3⟩ := hl x hxm
   have e1 : jx ([IR.mk (nR S).neg (nR S).cC, IR.mk x.neg x.cC].map IR.v) = (nR S).i * x.i := by
    simp only [List.map_cons, List.map_nil, jx, Int.mul_one]; rfl
   have e2 : Dyadic.ofIntWithPrec ((nR S).i * x.i) (-((nR S).e + x.e)) = S * x.d := by
    have := pF (nR S).i x.i (-(nR S).e) (-x.e)
    rw [Int.neg_add, ← this]
    congr 1
    exact eO S
   have hac : ∀ (A : Option Addr) (cc : Nat) (w1 : World), Sl w1 A 2 2 (a8 IR.cells [IR.mk (nR S).neg (nR S).cC, IR.mk x.neg x.cC]) → Calls Tryz.prog 157 #[.slice A 2 cc] w1 fun e w' => e = .returned (.agg #[.bool (iN ((nR S).i * x.i)), .string (iM ((nR S).i * x.i))]) ∧ Below w1.heap.size w1 w' := fun A cc w1 hsl => by
    have := sL A 2 cc [IR.mk (nR S).neg (nR S).cC, IR.mk x.neg x.cC] w1 hsl (by omega) (by simp; omega)
    rw [e1] at this
    exact this
   have hmc : ∀ w1, gM w1 → Calls Tryz.prog 155 #[.agg #[.bool (iN ((nR S).i * x.i)), .string (iM ((nR S).i * x.i))], .int .i64 ((nR S).e + x.e)] w1 fun r w' => r = .returned (.agg #[.bool (nR (S * x.d)).neg, .string (nR (S * x.d)).cC, .int .i64 (nR (S * x.d)).e]) ∧ Below w1.heap.size w1 w' := fun w1 hT1 => by
    have hb1 := kz (nR S).neg (nR S).cC
    have hb2 := kz x.neg x.cC
    have hb3 := kC (nR S).i x.i
    have := gZ (iN ((nR S).i * x.i)) (iM ((nR S).i * x.i)) ((nR S).e + x.e) w1 hT1 (by rw [dV]; unfold NR.i at hb3 ⊢; omega) (by omega) (by omega)
    rw [fw, e2] at this
    exact this
   refine sr ?_
   refine aZ (aa (ai (cT (al (aj (ai (aq (sr ?_))))))))
   refine a0 (k := i) aJ.out aC.size rfl rfl (by omega) (by omega) (by decide) ?_
   refine cb (vs := [_, _, _]) aC.out rfl (((hr.ext hh.below).recAt NR.len hx)) rfl (by decide) ?_
   refine cj hh ?_
   intro b5 w5 hh
   refine bK hh 0 [_,_,_] ?_
   intro ws hh
   replace hh : Hp _ (.blk _ _ [_, _, _] _ :: _) _ := hh
   refine aa ?_
   refine bf 11 [[(3, none)], [(13, some 0)], [(5, none)], [(15, some 2)], [(14, some 1), (16, some 3)], [(17, some 4)], [(3, none)], [(19, some 6)], [(5, none)], [(21, some 8)], [(20, some 7), (22, some 9)]] [(10, 23), (9, 22), (8, 21), (7, 20), (6, 19), (5, 18), (4, 17), (3, 16), (2, 15), (1, 14), (0, 13)] hh mixed (by kernel_rfl) ?_
   refine dN ?_
   refine gj 1 [_,_] ?_
   refine dN ?_
   refine gj 0 [_,_] ?_
   refine yQ [_,_,_,_] ?_
   refine bz (i := 5) (Is (.agg #[.bool (iN ((nR S).i * x.i)), .string (iM ((nR S).i * x.i))])) Is.ext ?_ ?_
   ·intro ρ1 w1 hj hR
    obtain ⟨A17, c17, h17, s17⟩ := hR.1
    exact cG rfl (bh ar.out (aF h17 bj)) (hac A17 c17 _ s17) (fun _ _ hq => ⟨_, hq.1, hq.2, rfl⟩)
   refine dN ?_
   refine fC 1 ?_
   refine dN ?_
   refine fC 0 ?_
   refine yq ?_
   refine bo ?_
   intro f W hJ hV
   have hb_5 := hJ.bl
   obtain ⟨v23, v22, v21, v20, v19, v18, v17, v16, v15, v14, v13, _⟩ := hV
   obtain ⟨A17, c17, e17, f17⟩ : Rows _ _ _ (f 4) W := v17
   replace hh := hJ.hp
   refine a7 (bu (ah v23 (ah v22 (ah v21 (ah v20 (ah v19 (ah v18 (ah e17 (ah v16 (ah v15 (ah v14 (ah v13 a6)))))))))))) ?_
   dsimp only [cJ]
   clear e17 hJ
   refine bE hh (hmc _ (hT.hp hh)) rfl ?_
   intro w24 hh
   refine bK hh 1 [_,_,_] ?_
   intro ws hh
   replace hh : Hp _ (_ :: .blk _ _ [_, _, _] _ :: _) _ := hh
   refine aK (a3 (aj (au ?_)))
   refine bO (mI (aK (aj ?_)))
   replace hh := hh.sub (List.sublist_cons_self _ _)
   refine ⟨⟨i + 1, _, by omega, rfl, hS3.symm, hh⟩, by show n - (i + 1) < n - i; omega, ?_⟩
   (repeat (first | exact aA _ _ _ | refine aE rfl ?_ | refine ax rfl ?_))
  ·refine sr ?_
   refine aZ (aa (ai (cF ?_)))
   refine a4 ?_
   refine aD (aD (bp (aj (sr ?_))))
   refine cf hh 0 [_,_,_] ?_
   refine bK hh 1 [_,_,_] ?_
   intro ws hh
   replace hh : Hp _ (_ :: .blk _ _ [_, _, _] _ :: _) _ := hh
   refine aa (ao ?_)
   refine hO (aU rfl (aV (vs := [_, _, _]) aC.out (hh.aw (i := 1) (n := 3) rfl rfl) rfl) bg) ?_
   rw [List.take_of_length_le (by omega)] at hS2
   rw [hS2]
   exact ⟨rfl, hh.below⟩
end Go.Proofs.YtkgdagjklakajaaGreatDoor
namespace Go.Proofs.YtkgdagjklakajaaGreatDoor
open Go.RowKit
def AO (f : Dyadic → Dyadic → Bool) : List Dyadic → Dyadic
 | [] => 0
 | a :: r => r.foldl (fun out a => if f a out then a else out) a
end Go.Proofs.YtkgdagjklakajaaGreatDoor
namespace Go.Proofs.YtkgdagjklakajaaGreatDoor
end Go.Proofs.YtkgdagjklakajaaGreatDoor
