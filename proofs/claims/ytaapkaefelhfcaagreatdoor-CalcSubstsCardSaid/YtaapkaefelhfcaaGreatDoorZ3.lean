/- Lemmas for calcSubsts, part 3. -/
import Derived.Test.YtaapkaefelhfcaaGreatDoorZ2
/- Several texts in one: Nat, NatB, NatC, NatD, NatE, NatF. -/
namespace Go.Proofs.YtaapkaefelhfcaaGreatDoor
open Go.RowKit
theorem fZ (A : Option Addr) (n c : Nat) (xs : List Nat) (w : World) (hx : Sl w A n 1 (cW xs)) (hc : n ≤ c) (hn : n ≤ 1000000000000) :
  Calls Tryz.prog 272 #[.slice A n c] w fun e w' => e = .returned (.slice A (dI xs).length c) ∧ Below w.heap.size w w' := by
 have hlen : xs.length = n := by have := hx.1; rw [a5] at this; omega
 have hh := Hp.start w
 refine ak (N := 21) (l := [.slice A n c]) Tryz.func272 rfl rfl (by simp) ?_
 refine sr (aL (ae (ah (al ?_))))
 refine bs [0, 3, 4, 5, 6, 7, 8, 9, 10, 11, 12, 13, 14, 15, 16, 17, 18, 19] 0
  (fun v w' => ∃ k : Nat, k ≤ n ∧ v = .slice A k c ∧ dI (xs.take k) = dI xs ∧ w' = w)
  (fun v _ => lenOf v) ?_ ?_
 ·exact ⟨n, Nat.le_refl _, rfl, by rw [List.take_of_length_le (by omega)], rfl⟩
 ·rintro ρ' v w' ⟨k, hk, rfl, hcut, rfl⟩
  by_cases h0 : k = 0
  ·subst h0
   refine ah (sr (mL (aO ?_)))
   refine bY (mB ?_)
   first | refine gS ?_ | (refine gT ?_; refine mL ?_) | refine gV ?_
   first | refine gS ?_ | (refine gT ?_; refine mL ?_) | refine gV ?_
   first | refine gS ?_ | (refine gT ?_; refine aO ?_) | refine gV ?_
   first | refine gS ?_ | (refine gT ?_; refine eB ?_) | refine gV ?_
   first | refine gS ?_ | (refine gT ?_; refine cJ aF.out aC.size rfl rfl (by omega) (by omega) (by decide) ?_) | refine gV ?_
   first | (refine cm (by decide) rfl rfl (by decide) ?_) | (refine gj (by decide) rfl rfl ?_)
   first | refine gS ?_ | (refine gT ?_; refine ck ?_) | refine gV ?_
   first | refine cR ?_ | refine cQ ?_
   refine ae (cF ?_)
   refine aP ?_
   refine ay (ay (a6 (ai (sr (mL (aL (ae (ao ?_))))))))
   refine cA ?_
   rw [← hcut]
   exact ⟨rfl, hh.below⟩
  ·obtain ⟨j, rfl⟩ : ∃ j, k = j + 1 := ⟨k - 1, by omega⟩
   obtain ⟨d, hd⟩ := aD (l := xs) (k := j) (by omega)
   obtain ⟨ad, rfl, hr⟩ := hx.at_ (by omega)
   have hd2 := ea hd
   rw [aJ hd] at hcut
   by_cases hz : d = 0
   ·subst hz
    rw [nW] at hcut
    refine ah (sr (mL (aO ?_)))
    refine bY (mB ?_)
    first | refine gS ?_ | (refine gT ?_; refine mL ?_) | refine gV ?_
    first | refine gS ?_ | (refine gT ?_; refine mL ?_) | refine gV ?_
    first | refine gS ?_ | (refine gT ?_; refine aO ?_) | refine gV ?_
    first | refine gS ?_ | (refine gT ?_; refine eB ?_) | refine gV ?_
    first | refine gS ?_ | (refine gT ?_; refine aR (k := j) aF.out aC.size rfl rfl (by omega) (by omega) (by decide) ?_) | refine gV ?_
    first | refine gS ?_ | (refine gT ?_; refine bh aC.out rfl ((hr.ext hh.below).nJ (by assumption)) (by decide) ?_) | refine gV ?_
    first | refine gS ?_ | (refine gT ?_; refine ck ?_) | refine gV ?_
    first | refine cR ?_ | refine cQ ?_
    refine ae (cT (aj (ai (al (aq (mL (mL (aO ?_))))))))
    refine eB ?_
    refine jg (h := j) aF.out aC.size rfl rfl (by omega) (by omega) (by decide) ?_
    refine aL (aE (aW (ai ?_)))
    refine ⟨⟨j, by omega, rfl, hcut, rfl⟩, by show j < j + 1; omega, ?_⟩
    (repeat (first | exact aw _ _ _ | refine ax rfl ?_ | refine ar rfl ?_))
   ·rw [qN hz] at hcut
    refine ah (sr (mL (aO ?_)))
    refine bY (mB ?_)
    first | refine gS ?_ | (refine gT ?_; refine mL ?_) | refine gV ?_
    first | refine gS ?_ | (refine gT ?_; refine mL ?_) | refine gV ?_
    first | refine gS ?_ | (refine gT ?_; refine aO ?_) | refine gV ?_
    first | refine gS ?_ | (refine gT ?_; refine eB ?_) | refine gV ?_
    first | refine gS ?_ | (refine gT ?_; refine aR (k := j) aF.out aC.size rfl rfl (by omega) (by omega) (by decide) ?_) | refine gV ?_
    first | refine gS ?_ | (refine gT ?_; refine bh aC.out rfl ((hr.ext hh.below).nJ (by assumption)) (by decide) ?_) | refine gV ?_
    first | refine gS ?_ | (refine gT ?_; refine ck ?_) | refine gV ?_
    first | refine cR ?_ | refine cQ ?_
    refine ae (cF ?_)
    refine aP ?_
    refine ay (ay (a6 (ai (sr (mL (aL (ae (ao ?_))))))))
    refine cA ?_
    rw [← hcut, List.length_append, List.length_take, Nat.min_eq_left (by omega)]
    exact ⟨rfl, hh.below⟩
theorem eA {B : Nat} {l : List Nat} {i c : Nat} (h : l[i]? = some c) : bD B (l.take (i + 1)) = bD B (l.take i) + B ^ i * c := by
 have hi := (List.getElem?_eq_some_iff.1 h).1
 rw [aJ h, eu, List.length_take, Nat.min_eq_left (by omega)]
 simp [bD]
theorem Hp.vl {w0 w : World} {H : List HE} {A : Option Addr} {n c : Nat} {t : TypeId} {xs : List Nat} (h : Hp w0 (.row A n c t 1 (cW xs) :: H) w) (hl : xs.length = n) : Hp w0 (.row A (dI xs).length c t 1 (cW (dI xs)) :: H) w := by
 have h1 := eN xs
 have h2 := h.ua (k := (dI xs).length) (by omega)
 rw [Nat.mul_one, ← qd, ← iq] at h2
 exact h2
theorem wE (a : ByteArray) (w : World) (ha : a.size ≤ 100000000000) :
  Calls Tryz.prog 250 #[.string a] w fun e w' => ∃ b c, e = .returned (.slice (some ⟨b, 0, none⟩) (aZ 18446744073709551616 (bn a.data.toList)).length c) ∧ w'.ownsRow w.heap.size 221 1 (.slice (some ⟨b, 0, none⟩) (aZ 18446744073709551616 (bn a.data.toList)).length c) (aZ 18446744073709551616 (bn a.data.toList)).length (cW (aZ 18446744073709551616 (bn a.data.toList))) ∧ Below w.heap.size w w' := by
 have hsz := cw a
 have hh := Hp.start w
 refine ak (N := 39) (l := [.string a]) Tryz.func250 rfl rfl (by simp) ?_
 refine sr (aL (ae (sr (mS ?_))))
 refine bg aF.out rfl (by decide) ?_
 refine bL ?_
 refine jd rfl rfl (by omega) (by omega) (by omega) (by decide) ?_
 refine gO (n := (a.size + 7) / 8) hh rfl rfl (by omega) (by omega) aF.out aC.out rfl (by omega) (by omega) (by decide) ?_
 intro b10 w10 hh
 refine aL (ae (ah (sr (mS ?_))))
 refine bg aF.out rfl (by decide) ?_
 refine mI (ae (al ?_))
 rw [l7] at hh
 refine bs [4, 5, 13, 14, 15, 16, 17, 18, 19, 20, 21, 22, 23, 24, 25, 26, 27, 28, 29, 30, 31, 32, 33, 34, 35, 36] 13
  (fun v w' => ∃ i : Nat, i ≤ a.size ∧ v = .int .i64 i ∧ Hp w [.row (some ⟨b10, 0, none⟩) ((a.size + 7) / 8) ((a.size + 7) / 8) 221 1 (cW (bT 18446744073709551616 ((a.size + 7) / 8) (bD 256 ((tN a.data.toList).take i))))] w')
  (fun v _ => a.size - (intOf v).toNat) ?_ ?_
 ·exact ⟨0, Nat.zero_le _, rfl, by rw [List.take_zero, bD, mz]; exact hh⟩
 ·clear hh
  rintro ρ' v w' ⟨i, hi, rfl, hh⟩
  by_cases hlt : i < a.size
  ·obtain ⟨c, hc⟩ := aD (l := a.data.toList) (k := ((a.size : Int) - 1 - i).toNat) (by omega)
   have hlo := y6 (s := a.data.toList) (i := i) (c := c) (by omega) (by rw [← hc]; congr 1; omega)
   have hc8 := c.toNat_lt
   have hn := gl ((q6 a.data.toList).take i)
   rw [List.length_take, k5, Nat.min_eq_left (by omega)] at hn
   obtain ⟨s1, s2, s3⟩ := zJ (k := (a.size + 7) / 8) (bD 256 ((tN a.data.toList).take i)) hn hc8 (by omega)
   have hg := ea (gp (B := 18446744073709551616) ((a.size + 7) / 8) (bD 256 ((tN a.data.toList).take i)) (i / 8) (by omega))
   have e1 : ((i : Int) % 8 * 8).toNat = i % 8 * 8 := by omega
   refine sr ?_
   refine aU (ae (ah (cT (aj (ai (ah (al (sr (mI (aI (ae ?_)))))))))))
   refine sr (mS ?_)
   refine bg aF.out rfl (by decide) ?_
   refine eB (mI ?_)
   refine eB (aI (ae ?_))
   refine aX 13 [[(3, none)], [(4, none)], [(22, some 1)], [(21, some 0), (23, some 2)], [(24, some 3)], [(0, none)], [(5, none)], [(26, some 5), (27, some 6)], [(28, some 7)], [(4, none)], [(30, some 9)], [(31, some 10)], [(29, some 8), (32, some 11)]] [(12, 33), (11, 32), (10, 31), (9, 30), (8, 29), (7, 28), (6, 27), (5, 26), (4, 25), (3, 24), (2, 23), (1, 22), (0, 21)] hh mixed (by kernel_rfl) ?_
   refine fN ?_
   refine eb ?_
   refine bq (i := 2) (fun ρ1 w1 hj hR => qO (show ρ1 22 = Value.int _ _ from hR.1) rfl (by omega) (by omega) (by omega)) ?_
   refine AH (i / 8) ?_
   refine bq (i := 4) (fun ρ1 w1 hj hR => ic aC.out (show ρ1 24 = Value.pointer _ from hR.1) (hj.hp.cI (i := 0) rfl (by first | assumption | (simp only [Nat.mul_one]; assumption)))) ?_
   refine Cu ?_
   refine eb ?_
   refine bq (i := 7) (fun ρ1 w1 hj hR => gU aF.out (show ρ1 26 = Value.string _ from hR.1) (show ρ1 27 = Value.int _ _ from hR.2.1) (by omega) (by assumption)) ?_
   first | refine bq (i := 8) (fun ρ1 w1 hj hR => oD aF.out aF.out (show ρ1 28 = Value.int _ _ from hR.1) (by first | assumption | omega)) ?_ | refine bq (i := 8) (fun ρ1 w1 hj hR => vU aF.out aF.out (show ρ1 28 = Value.int _ _ from hR.1)) ?_
   refine eb ?_
   refine bq (i := 10) (fun ρ1 w1 hj hR => mQ (show ρ1 30 = Value.int _ _ from hR.1) rfl (by omega) (by omega)) ?_
   refine CC ?_
   refine bq (i := 12) (fun ρ1 w1 hj hR => rH (show ρ1 29 = Value.int _ _ from hR.1) (show ρ1 32 = Value.int _ _ from hR.2.1) (by omega)) ?_
   refine a0 ?_
   intro f W hJ hV
   have hb_6 := hJ.bl
   obtain ⟨v33, v32, v31, v30, v29, v28, v27, v26, v25, v24, v23, v22, v21, _⟩ := hV
   replace hh := hJ.hp
   refine aN (a4 (aa v33 (aa v32 (aa v31 (aa v30 (aa v29 (aa v28 (aa v27 (aa v26 (aa v25 (aa v24 (aa v23 (aa v22 (aa v21 aM)))))))))))))) ?_
   dsimp only [ca]
   clear hJ
   refine vC rfl rfl (by first | assumption | omega) (by first | assumption | omega) (by decide) ?_
   refine bp (k := i / 8) aF.out aC.size rfl rfl (by omega) (by omega) (by decide) ?_
   refine bP hh (i := 0) (vs := [_]) rfl rfl (cb rfl) rfl aC.out rfl (by rw [a5, aY]; omega) rfl ?_
   intro ws hh
   simp only [List.set_cons_zero] at hh
   rw [e1, Nat.mod_eq_of_lt s2, uP s1, cz (by rw [a5, aY]; omega), Nat.mul_one, fg, s3, ← eA hlo] at hh
   refine aE (aW (ai (aq ?_)))
   refine bL (mI (aE (ai ?_)))
   refine ⟨⟨i + 1, by omega, rfl, hh⟩, by show a.size - (i + 1) < a.size - i; omega, ?_⟩
   (repeat (first | exact aw _ _ _ | refine ax rfl ?_ | refine ar rfl ?_))
  ·refine sr ?_
   refine aU (ae (ah (cF ?_)))
   refine aP ?_
   refine ay (ay (a6 (ai (sr (mL ?_)))))
   rw [List.take_of_length_le (by rw [k5]; omega)] at hh
   refine bG hh (fZ _ _ _ (bT 18446744073709551616 ((a.size + 7) / 8) (bn a.data.toList)) _ (hh.aK (i := 0) rfl) (Nat.le_refl _) (by omega)) rfl ?_
   intro w38 hh
   refine aL (ae (ao ?_))
   refine cA ?_
   have hbd : bn a.data.toList < 18446744073709551616 ^ ((a.size + 7) / 8) := by
    refine Nat.lt_of_lt_of_le (AW _) ?_
    rw [← hsz, show (256 : Nat) = 2 ^ 8 from rfl, show (18446744073709551616 : Nat) = 2 ^ 64 from rfl, ← Nat.pow_mul, ← Nat.pow_mul]
    exact Nat.pow_le_pow_right (by omega) (by omega)
   have hd : dI (bT 18446744073709551616 ((a.size + 7) / 8) (bn a.data.toList)) = aZ 18446744073709551616 (bn a.data.toList) := by
    rw [eT (by omega) (ec (by omega) _ _), cu hbd]
   have h1 := (Hp.vl (xs := bT 18446744073709551616 ((a.size + 7) / 8) (bn a.data.toList)) hh (aY _ _)).at_ (i := 0) rfl
   rw [hd] at h1
   rw [hd]
   exact ⟨_, _, rfl, h1, hh.below⟩
theorem Sl.BL {w : World} {A : Option Addr} {n : Nat} {xs : List Nat} (h : Sl w A n 1 (cW xs)) {k : Nat} (hk : k ≤ n) : Sl w A k 1 (cW (xs.take k)) := by
 have hl := h.1
 rw [a5] at hl
 refine ⟨by rw [a5, List.length_take]; omega, fun h0 => ?_⟩
 obtain ⟨ad, he, hr⟩ := h.2 (by omega)
 exact ⟨ad, he, by rw [qd]; exact hr.take k⟩
theorem Sl.qW {w : World} {A : Option Addr} {n : Nat} {xs : List Nat} (h : Sl w A n 1 (cW xs)) : Sl w A (dI xs).length 1 (cW (dI xs)) := by
 have hl := h.1
 rw [a5] at hl
 have := eN xs
 have h2 := h.BL (k := (dI xs).length) (by omega)
 rwa [← iq] at h2
theorem u6 {xs : List Nat} (h : Dg 18446744073709551616 xs) : bM (bD 18446744073709551616 xs) ≤ 64 * xs.length := by
 apply du
 rw [Nat.pow_mul]
 exact gl h
theorem oK (A : Option Addr) (n c : Nat) (xs : List Nat) (w : World) (hx : Sl w A n 1 (cW xs)) (hd : Dg 18446744073709551616 xs) (hc : n ≤ c) (hn : n ≤ 100000000000) :
  Calls Tryz.prog 275 #[.slice A n c] w fun e w' => e = .returned (.int .i64 (bM (bD 18446744073709551616 xs))) ∧ Below w.heap.size w w' := by
 have hl := hx.1
 rw [a5] at hl
 have hcl := eN xs
 have hcx := hx.qW
 have hcd := hd.cut
 have hlast := qo xs
 rw [← jr]
 generalize hcs : dI xs = cs at *
 have hh := Hp.start w
 refine ak (N := 19) (l := [.slice A n c]) Tryz.func275 rfl rfl (by simp) ?_
 refine sr (aI (ae (sr (mL ?_))))
 refine bG hh (fZ _ _ _ xs _ hx hc (by omega)) rfl ?_
 intro w4 hh
 rw [hcs]
 by_cases h0 : cs.length = 0
 ·refine aL (ae (ah (sr (mL (aO ?_)))))
  refine ck (ae (cT (sr (aI (ae (ao (az ?_)))))))
  refine cA ?_
  have : cs = [] := List.eq_nil_of_length_eq_zero h0
  subst this
  exact ⟨by rw [bD, jf]; rfl, hh.below⟩
 ·obtain ⟨ad, rfl, hr⟩ := hcx.at_ (by omega)
  obtain ⟨d, hd⟩ := aD (l := cs) (k := cs.length - 1) (by omega)
  have hd2 := ea hd
  have hd3 := hcd.at_ hd
  have e1 : cs.take (cs.length - 1) ++ [d] = cs := by rw [← aJ hd, List.take_of_length_le (by omega)]
  have hnz : d ≠ 0 := by
   intro h
   subst h
   apply hlast
   rw [List.getLast?_eq_getElem?]
   exact hd
  have hb := yb (B := 18446744073709551616) (b := 64) (m := cs.length - 1) (by decide) (hcd.take (cs.length - 1)) (by rw [List.length_take]; omega) hnz
  rw [e1] at hb
  have hb2 : bM d ≤ 64 := du (by simpa using hd3)
  refine aL (ae (ah (sr (mL (aO ?_)))))
  refine ck (ae (cF (aj (ai (sr (mL (aO ?_)))))))
  refine mulC (mL (mL (aO ?_)))
  refine eB ?_
  refine aR (k := cs.length - 1) aF.out aC.size rfl rfl (by omega) (by omega) (by decide) ?_
  refine bh aC.out rfl ((hr.ext hh.below).nJ (by assumption)) (by decide) ?_
  refine bG hh (vd _ _ hd3) rfl ?_
  intro w17 hh
  refine eB (aI (ae (ao ?_)))
  refine cA ?_
  refine ⟨?_, hh.below⟩
  congr 2
  omega
theorem uy (N : Nat) : (aZ 256 N).length = (bM N + 7) / 8 := by
 have h256 : (256 : Nat) = 2 ^ 8 := rfl
 have h1 : (aZ 256 N).length ≤ (bM N + 7) / 8 := by
  apply fW (by omega)
  refine Nat.lt_of_lt_of_le (df N) ?_
  rw [h256, ← Nat.pow_mul]
  exact Nat.pow_le_pow_right (by omega) (by omega)
 have h2 := kF (B := 256) (by omega) N
 have h3 : bM N ≤ 8 * (aZ 256 N).length := by
  apply du
  rw [Nat.pow_mul]
  exact h2
 omega
theorem jl {B : Nat} (i N : Nat) : bT B (i + 1) N = bT B i N ++ [N / B ^ i % B] := by
 apply List.ext_getElem?
 intro j
 rcases Nat.lt_trichotomy j i with h | h | h
 ·rw [gp _ _ _ (by omega), List.getElem?_append_left (by rw [aY]; exact h), gp _ _ _ h]
 ·subst h
  rw [gp _ _ _ (by omega), List.getElem?_append_right (by rw [aY]; omega), aY]
  simp
 ·rw [List.getElem?_eq_none (by rw [aY]; omega), List.getElem?_eq_none (by rw [List.length_append, aY]; simp; omega)]
theorem vV {R : List Nat} {k x : Nat} : (List.replicate (k + 1) 0 ++ R).set k x = List.replicate k 0 ++ (x :: R) := by
 rw [List.replicate_succ', List.append_assoc, List.set_append_right _ _ (by simp)]
 simp
theorem gd (A : Option Addr) (n c : Nat) (xs : List Nat) (w : World) (hx : Sl w A n 1 (cW xs)) (hd : Dg 18446744073709551616 xs) (hc : n ≤ c) (hn : n ≤ 10000000000) :
  Calls Tryz.prog 261 #[.slice A n c] w fun e w' => e = .returned (.string (str (sb (bD 18446744073709551616 xs)))) ∧ Below w.heap.size w w' := by
 have hl := hx.1
 rw [a5] at hl
 have hcl := eN xs
 have hcx := hx.qW
 have hcd := hd.cut
 have hbl := u6 hcd
 have hcan := eT (by omega) hd
 have hlen := uy (bD 18446744073709551616 xs)
 rw [jr] at hbl
 have hh := Hp.start w
 refine ak (N := 37) (l := [.slice A n c]) Tryz.func261 rfl rfl (by simp) ?_
 refine sr (aS (ae (sr (mL ?_))))
 refine bG hh (fZ _ _ _ xs _ hx hc (by omega)) rfl ?_
 intro w7 hh
 rw [hcan] at hcl hcx hcd hbl
 rw [hcan]
 refine aL (ae (sr (mL ?_)))
 refine bG hh (oK _ _ _ (aZ 18446744073709551616 (bD 18446744073709551616 xs)) _ (hcx.ext hh.below) hcd (by omega) (by omega)) rfl ?_
 intro w9 hh
 rw [dK (by omega)]
 generalize bD 18446744073709551616 xs = M at *
 refine bL ?_
 refine jd rfl rfl (by omega) (by omega) (by omega) (by decide) ?_
 refine aI (ae (sr (mI ?_)))
 refine gO (n := (bM M + 7) / 8) hh rfl rfl (by omega) (by omega) aF.out aC.out rfl (by omega) (by omega) (by decide) ?_
 intro b13 w13 hh
 refine aL (ae (ah (sr (mI (mI (ae (al ?_)))))))
 rw [lE] at hh
 refine bs [5, 15, 16, 17, 18, 19, 20, 21, 22, 23, 24, 25, 26, 27, 28, 29, 30, 31, 32, 33, 34] 15
  (fun v w' => ∃ i : Nat, i ≤ (bM M + 7) / 8 ∧ v = .int .i64 i ∧ Hp w [.row (some ⟨b13, 0, none⟩) ((bM M + 7) / 8) ((bM M + 7) / 8) 5 1 (fy (List.replicate ((bM M + 7) / 8 - i) 0 ++ (bT 256 i M).reverse))] w')
  (fun v _ => (bM M + 7) / 8 - (intOf v).toNat) ?_ ?_
 ·exact ⟨0, Nat.zero_le _, rfl, by simpa [bT] using hh⟩
 ·clear hh
  rintro ρ' v w' ⟨i, hi, rfl, hh⟩
  by_cases hlt : i < (bM M + 7) / 8
  ·obtain ⟨ad, rfl, hr⟩ := hcx.at_ (by omega)
   have hg := te (B := 18446744073709551616) (n := M) (i := i / 8) (by omega) (by omega)
   have hg2 := ea hg
   have e1 : ((i : Int) % 8 * 8).toNat = i % 8 * 8 := by omega
   refine sr ?_
   refine aU (ae (ah (cT (aj (ai (ah (al (sr (mI (aI (ae ?_)))))))))))
   refine aq (mL (mI ?_))
   refine eB (mI ?_)
   refine eB (mL (mI ?_))
   refine jd rfl rfl (by omega) (by omega) (by omega) (by decide) ?_
   refine aR (k := i / 8) aF.out aC.size rfl rfl (by omega) (by omega) (by decide) ?_
   refine bh aC.out rfl ((hr.ext hh.below).nJ (by assumption)) (by decide) ?_
   refine mI ?_
   refine jY rfl rfl (by omega) (by omega) (by decide) ?_
   refine mulC ?_
   refine uj rfl rfl (by omega) (by decide) ?_
   first | refine dq aF.out aF.out rfl (by first | assumption | omega) (by decide) ?_ | refine fp aF.out aF.out rfl (by decide) ?_
   refine bp (k := (bM M + 7) / 8 - 1 - i) aF.out aC.size rfl rfl (by omega) (by omega) (by decide) ?_
   refine bP hh (i := 0) (vs := [_]) rfl rfl (cb rfl) rfl aC.out rfl (by rw [cH, List.length_append, List.length_reverse, List.length_replicate, aY]; omega) rfl ?_
   intro ws hh
   simp only [List.set_cons_zero] at hh
   obtain ⟨k, hk⟩ : ∃ k, (bM M + 7) / 8 - i = k + 1 := ⟨(bM M + 7) / 8 - i - 1, by omega⟩
   rw [e1, xM, Nat.mul_one, cz (by rw [cH, List.length_append, List.length_reverse, List.length_replicate, aY]; omega), ky, hk, show (bM M + 7) / 8 - 1 - i = k by omega, vV, ← List.reverse_concat, ← jl] at hh
   refine aE (aW (ai (aq ?_)))
   refine bL (mI (aE (ai ?_)))
   refine ⟨⟨i + 1, by omega, rfl, by rw [show (bM M + 7) / 8 - (i + 1) = k by omega]; exact hh⟩, by show (bM M + 7) / 8 - (i + 1) < (bM M + 7) / 8 - i; omega, ?_⟩
   (repeat (first | exact aw _ _ _ | refine ax rfl ?_ | refine ar rfl ?_))
  ·obtain rfl : i = (bM M + 7) / 8 := by omega
   have hfin : fy (List.replicate ((bM M + 7) / 8 - (bM M + 7) / 8) 0 ++ (bT 256 ((bM M + 7) / 8) M).reverse) = je (sb M) := by
    rw [Nat.sub_self, List.replicate_zero, List.nil_append, ← hlen]
    have h1 : M < 256 ^ (aZ 256 M).length := kF (by omega) M
    rw [sE (by omega) h1, Nat.sub_self, List.replicate_zero, List.append_nil, pW (fun d hd => (dw (B := 256) (by omega) M).1 d (List.mem_reverse.1 hd)), sb, List.map_reverse]
   rw [hfin] at hh
   refine sr ?_
   refine aU (ae (ah (cF ?_)))
   refine aP ?_
   refine ay (ay (a6 (ai (sr (mL ?_)))))
   refine iY aF.out aF.out aF.out rfl (hh.aK (i := 0) rfl) (by decide) ?_
   refine aS (ae (ao ?_))
   refine cA ?_
   exact ⟨rfl, hh.below⟩
theorem kU (A : Option Addr) (n c m : Nat) (xs : List Nat) (w : World) (hx : Sl w A n 1 (cW xs)) (hn : n ≤ 10000000000) (hm : m ≤ 10000000000) :
  Calls Tryz.prog 276 #[.slice A n c, .int .i64 m] w fun e w' => ∃ b, e = .returned (.slice (some ⟨b, 0, none⟩) (max m n) (max m n)) ∧ w'.ownsRow w.heap.size 221 1 (.slice (some ⟨b, 0, none⟩) (max m n) (max m n)) (max m n) (cW (xs ++ List.replicate (max m n - n) 0)) ∧ Below w.heap.size w w' := by
 have hl := hx.1
 rw [a5] at hl
 have hh := Hp.start w
 refine ak (N := 15) (l := [.slice A n c, .int .i64 m]) Tryz.func276 rfl rfl (by simp) ?_
 refine sr (aL (ae (sr (mI (mL (aO ?_))))))
 refine kq rfl rfl (by decide) ?_
 refine gO (n := max m n) hh rfl rfl (by omega) (by omega) aF.out aC.out rfl (by omega) (by omega) (by decide) ?_
 intro b10 w10 hh
 refine aL (ae (sr (mL (mL ?_))))
 rw [l7] at hh
 refine zX hh (i := 0) (o := 0) rfl rfl rfl (hx.ext hh.below) aF.out aC.out (by rw [a5, List.length_replicate]; omega) (bI _) (by decide) ?_
 intro w13 hh
 skip
 have e1 : cB (cW (List.replicate (max m n) 0)) 0 ((cW xs).take (min n (max m n) * 1)) = cW (xs ++ List.replicate (max m n - n) 0) := by
  rw [List.take_of_length_le (by rw [a5]; omega), cB, List.take_zero, List.nil_append, a5, ← qa, ← tS, List.drop_replicate]
  congr 3
  omega
 simp only [List.set_cons_zero, e1] at hh
 refine ae (sr (mL (aL (ae (ao ?_)))))
 refine cA ?_
 exact ⟨_, rfl, hh.at_ (i := 0) rfl, hh.below⟩
theorem lv (A B : Option Addr) (n c m c' : Nat) (xs ys : List Nat) (w : World) (hx : Sl w A n 1 (cW xs)) (hy : Sl w B m 1 (cW ys)) (hdx : Dg 18446744073709551616 xs) (hdy : Dg 18446744073709551616 ys) (hc : n ≤ c) (hc' : m ≤ c') (hn : n ≤ 100000000000) (hm : m ≤ 100000000000) :
  Calls Tryz.prog 279 #[.slice A n c, .slice B m c'] w fun e w' => e = .returned (.int .i64 (ju (bD 18446744073709551616 xs) (bD 18446744073709551616 ys))) ∧ Below w.heap.size w w' := by
 have hlx := hx.1
 have hly := hy.1
 rw [a5] at hlx hly
 have hcx := hx.qW
 have hcy := hy.qW
 have hxl := eN xs
 have hyl := eN ys
 have hx2 := Can.cut hdx
 have hy2 := Can.cut hdy
 have hh := Hp.start w
 rw [← jr xs, ← jr ys]
 refine ak (N := 47) (l := [.slice A n c, .slice B m c']) Tryz.func279 rfl rfl (by simp) ?_
 refine sr (aI (ae (sr (mL ?_))))
 refine bG hh (fZ _ _ _ xs _ hx hc (by omega)) rfl ?_
 intro w7 hh
 refine mL ?_
 refine bG hh (fZ _ _ _ ys _ (hy.ext hh.below) hc' (by omega)) rfl ?_
 intro w9 hh
 generalize dI xs = us at *
 generalize dI ys = vs at *
 by_cases hlen : us.length = vs.length
 ·refine aL (aL (ae (ah (sr (mL (aO (mL (aO ?_))))))))
  refine cE (ae (cF (aj (ai (ah (sr (mL (aO ?_))))))))
  refine eB (aI (ae (al ?_)))
  refine bs [4, 5, 23, 24, 25, 26, 27, 28, 29, 30, 31, 32, 33, 34, 35, 36, 37, 38, 39, 40, 41, 42, 43, 44, 45, 46] 5
   (fun v w' => ∃ k : Nat, k ≤ us.length ∧ v = .int .i64 ((k : Int) - 1) ∧ us.drop k = vs.drop k ∧ Hp w [] w')
   (fun v _ => (intOf v + 1).toNat) ?_ ?_
  ·exact ⟨us.length, Nat.le_refl _, rfl, by rw [List.drop_length, List.drop_eq_nil_of_le (by omega)], hh⟩
  ·clear hh
   rintro ρ' v w' ⟨k, hk, rfl, hd, hh⟩
   by_cases h0 : k = 0
   ·subst h0
    refine ah (sr (mI ?_))
    refine dn (ae (cF ?_))
    refine aP ?_
    refine ay (ay (a6 (ai (sr (aI (ae (ao ?_)))))))
    refine cA ?_
    rw [List.drop_zero, List.drop_zero] at hd
    rw [hd]
    exact ⟨by rw [vX rfl], hh.below⟩
   ·obtain ⟨j, rfl⟩ : ∃ j, k = j + 1 := ⟨k - 1, by omega⟩
    obtain ⟨x, hxj⟩ := aD (l := us) (k := j) (by omega)
    obtain ⟨y, hyj⟩ := aD (l := vs) (k := j) (by omega)
    obtain ⟨ad, rfl, hr⟩ := hcx.at_ (by omega)
    obtain ⟨ad2, rfl, hs⟩ := hcy.at_ (by omega)
    have hx3 := ea hxj
    have hy3 := ea hyj
    by_cases hlt : x < y
    ·have hf := pV hx2.1 hxj hyj hd hlt
     refine ah (sr (mI ?_))
     refine dn (ae (cT (aj (ai (ah (al (al (ah ?_))))))))
     refine aX 8 [[(0, none)], [(5, none)], [(28, some 0), (29, some 1)], [(30, some 2)], [(1, none)], [(5, none)], [(32, some 4), (33, some 5)], [(34, some 6)]] [(7, 35), (6, 34), (5, 33), (4, 32), (3, 31), (2, 30), (1, 29), (0, 28)] hh mixed (by kernel_rfl) ?_
     refine fN ?_
     refine eb ?_
     refine iA (j) ?_
     refine hU (fun _ hj => (hr.ext hj.hp.below).nJ hx3) ?_
     refine fN ?_
     refine eb ?_
     refine iA (j) ?_
     refine hU (fun _ hj => (hs.ext hj.hp.below).nJ hy3) ?_
     refine a0 ?_
     intro f W hJ hV
     have hb_9 := hJ.bl
     obtain ⟨v35, v34, v33, v32, v31, v30, v29, v28, _⟩ := hV
     replace hh := hJ.hp
     refine aN (a4 (aa v35 (aa v34 (aa v33 (aa v32 (aa v31 (aa v30 (aa v29 (aa v28 aM))))))))) ?_
     dsimp only [ca]
     clear hJ
     refine aU (aB (ae (cT (sr (aI (ae (ao (br (br (az (az ?_)))))))))))
     refine br (az ?_)
     refine cA ?_
     exact ⟨by rw [jL hf], hh.below⟩
    ·by_cases hgt : y < x
     ·have hf := pV hy2.1 hyj hxj hd.symm hgt
      refine ah (sr (mI ?_))
      refine dn (ae (cT (aj (ai (ah (al (al (ah ?_))))))))
      refine aX 8 [[(0, none)], [(5, none)], [(28, some 0), (29, some 1)], [(30, some 2)], [(1, none)], [(5, none)], [(32, some 4), (33, some 5)], [(34, some 6)]] [(7, 35), (6, 34), (5, 33), (4, 32), (3, 31), (2, 30), (1, 29), (0, 28)] hh mixed (by kernel_rfl) ?_
      refine fN ?_
      refine eb ?_
      refine iA (j) ?_
      refine hU (fun _ hj => (hr.ext hj.hp.below).nJ hx3) ?_
      refine fN ?_
      refine eb ?_
      refine iA (j) ?_
      refine hU (fun _ hj => (hs.ext hj.hp.below).nJ hy3) ?_
      refine a0 ?_
      intro f W hJ hV
      have hb_9 := hJ.bl
      obtain ⟨v35, v34, v33, v32, v31, v30, v29, v28, _⟩ := hV
      replace hh := hJ.hp
      refine aN (a4 (aa v35 (aa v34 (aa v33 (aa v32 (aa v31 (aa v30 (aa v29 (aa v28 aM))))))))) ?_
      dsimp only [ca]
      clear hJ
      refine aU (aB (ae (cF (ah ?_))))
      refine aX 8 [[(0, none)], [(5, none)], [(38, some 0), (39, some 1)], [(40, some 2)], [(1, none)], [(5, none)], [(42, some 4), (43, some 5)], [(44, some 6)]] [(7, 45), (6, 44), (5, 43), (4, 42), (3, 41), (2, 40), (1, 39), (0, 38)] hh mixed (by kernel_rfl) ?_
      refine fN ?_
      refine eb ?_
      refine iA (j) ?_
      refine hU (fun _ hj => (hr.ext hj.hp.below).nJ hx3) ?_
      refine fN ?_
      refine eb ?_
      refine iA (j) ?_
      refine hU (fun _ hj => (hs.ext hj.hp.below).nJ hy3) ?_
      refine a0 ?_
      intro f W hJ hV
      have hb_11 := hJ.bl
      obtain ⟨v45, v44, v43, v42, v41, v40, v39, v38, _⟩ := hV
      replace hh := hJ.hp
      refine aN (a4 (aa v45 (aa v44 (aa v43 (aa v42 (aa v41 (aa v40 (aa v39 (aa v38 aM))))))))) ?_
      dsimp only [ca]
      clear hJ
      refine bY (aB (ae (cT (sr (aI (ae (ao (br (br (az (az ?_)))))))))))
      refine br (az ?_)
      refine cA ?_
      exact ⟨by rw [rq hf], hh.below⟩
     ·refine ah (sr (mI ?_))
      refine dn (ae (cT (aj (ai (ah (al (al (ah ?_))))))))
      refine aX 8 [[(0, none)], [(5, none)], [(28, some 0), (29, some 1)], [(30, some 2)], [(1, none)], [(5, none)], [(32, some 4), (33, some 5)], [(34, some 6)]] [(7, 35), (6, 34), (5, 33), (4, 32), (3, 31), (2, 30), (1, 29), (0, 28)] hh mixed (by kernel_rfl) ?_
      refine fN ?_
      refine eb ?_
      refine iA (j) ?_
      refine hU (fun _ hj => (hr.ext hj.hp.below).nJ hx3) ?_
      refine fN ?_
      refine eb ?_
      refine iA (j) ?_
      refine hU (fun _ hj => (hs.ext hj.hp.below).nJ hy3) ?_
      refine a0 ?_
      intro f W hJ hV
      have hb_9 := hJ.bl
      obtain ⟨v35, v34, v33, v32, v31, v30, v29, v28, _⟩ := hV
      replace hh := hJ.hp
      refine aN (a4 (aa v35 (aa v34 (aa v33 (aa v32 (aa v31 (aa v30 (aa v29 (aa v28 aM))))))))) ?_
      dsimp only [ca]
      clear hJ
      refine aU (aB (ae (cF (ah ?_))))
      refine aX 8 [[(0, none)], [(5, none)], [(38, some 0), (39, some 1)], [(40, some 2)], [(1, none)], [(5, none)], [(42, some 4), (43, some 5)], [(44, some 6)]] [(7, 45), (6, 44), (5, 43), (4, 42), (3, 41), (2, 40), (1, 39), (0, 38)] hh mixed (by kernel_rfl) ?_
      refine fN ?_
      refine eb ?_
      refine iA (j) ?_
      refine hU (fun _ hj => (hr.ext hj.hp.below).nJ hx3) ?_
      refine fN ?_
      refine eb ?_
      refine iA (j) ?_
      refine hU (fun _ hj => (hs.ext hj.hp.below).nJ hy3) ?_
      refine a0 ?_
      intro f W hJ hV
      have hb_11 := hJ.bl
      obtain ⟨v45, v44, v43, v42, v41, v40, v39, v38, _⟩ := hV
      replace hh := hJ.hp
      refine aN (a4 (aa v45 (aa v44 (aa v43 (aa v42 (aa v41 (aa v40 (aa v39 (aa v38 aM))))))))) ?_
      dsimp only [ca]
      clear hJ
      refine bY (aB (ae (cF (aj (aW (aW (ai (aq (mI ?_)))))))))
      refine eB (aI (aE (ai ?_)))
      refine ⟨⟨j, by omega, by show Value.int _ _ = Value.int _ _; congr 1; omega, q8 hxj hyj hd (by omega), hh⟩, by show ((((j + 1 : Nat) : Int) - 1 - 1) + 1).toNat < ((((j + 1 : Nat) : Int) - 1) + 1).toNat; omega, ?_⟩
      (repeat (first | exact aw _ _ _ | refine ax rfl ?_ | refine ar rfl ?_))
 ·by_cases hlt : us.length < vs.length
  ·have hf : bD 18446744073709551616 us < bD 18446744073709551616 vs := by
    refine Nat.lt_of_not_le fun h => ?_
    have := hy2.ot hx2 (by omega) h
    omega
   refine aL (aL (ae (ah (sr (mL (aO (mL (aO ?_))))))))
   refine cE (ae (cT (ah (sr (mL (aO (mL (aO ?_))))))))
   refine aU (ae (cT (sr (aI (ae (ao (az (az ?_))))))))
   refine cA ?_
   exact ⟨by rw [jL hf], hh.below⟩
  ·have hf : bD 18446744073709551616 vs < bD 18446744073709551616 us := by
    refine Nat.lt_of_not_le fun h => ?_
    have := hx2.ot hy2 (by omega) h
    omega
   refine aL (aL (ae (ah (sr (mL (aO (mL (aO ?_))))))))
   refine cE (ae (cT (ah (sr (mL (aO (mL (aO ?_))))))))
   refine aU (ae (cF (aj (ai (sr (aI (ae (ao (az ?_)))))))))
   refine cA ?_
   exact ⟨by rw [rq hf], hh.below⟩
end Go.Proofs.YtaapkaefelhfcaaGreatDoor
namespace Go.Proofs.YtaapkaefelhfcaaGreatDoor
open Go.RowKit
theorem Co {y m : Nat} (hy : y < 18446744073709551616) (hm : m < 18446744073709551616) : y * m ≤ 340282366920938463426481119284349108225 := Nat.mul_le_mul (by omega : y ≤ 18446744073709551615) (by omega : m ≤ 18446744073709551615)
theorem qz {x y m c P : Nat} (hx : x < 18446744073709551616) (hc : c < 18446744073709551616) (hP : P ≤ 340282366920938463426481119284349108225) (he : P = y * m) :
  (x + (P % 18446744073709551616 + c + 0) % 18446744073709551616 + 0) % 18446744073709551616 = (x + y * m + c) % 18446744073709551616 ∧ ((P / 18446744073709551616 + (P % 18446744073709551616 + c + 0) / 18446744073709551616) % 18446744073709551616 + (x + (P % 18446744073709551616 + c + 0) % 18446744073709551616 + 0) / 18446744073709551616) % 18446744073709551616 = (x + y * m + c) / 18446744073709551616 ∧ (x + y * m + c) / 18446744073709551616 < 18446744073709551616 := by
 rw [← he]
 omega
theorem tm {w0 : World} {H : List HE} {b M C c' ny cy m : Nat} {Y : Option Addr} (pre xs post ys : List Nat) (w : World) (hh : Hp w0 (.row (some ⟨b, 0, none⟩) M C 221 1 (cW (pre ++ xs ++ post)) :: H) w)
  (hy : ∀ w1 cs, Hp w0 (.row (some ⟨b, 0, none⟩) M C 221 1 cs :: H) w1 → Sl w1 Y ny 1 (cW ys)) (hxd : Dg 18446744073709551616 xs) (hyd : Dg 18446744073709551616 ys) (hm : m < 18446744073709551616) (hM : xs.length ≤ 100000000000) (hny : ny ≤ 100000000000) :
  Calls Tryz.prog 282 #[.slice (some ⟨b, pre.length, none⟩) xs.length c', .slice Y ny cy, .int .u64 (m : Int)] w fun e w' => e = .returned (.tuple #[]) ∧ Hp w0 (.row (some ⟨b, 0, none⟩) M C 221 1 (cW (pre ++ fF 18446744073709551616 xs ys m 0 ++ post)) :: H) w' := by
 have hly := (hy _ _ hh).1
 rw [a5] at hly
 refine ak (N := 56) (l := [.slice (some ⟨b, pre.length, none⟩) xs.length c', .slice Y ny cy, .int .u64 (m : Int)]) Tryz.func282 rfl rfl (by simp) ?_
 refine sr (aI (ae (sr (mL (aO (mI (ae (al ?_))))))))
 refine ct [6, 7, 8, 9, 10, 11, 14, 15, 16, 17, 18, 19, 20, 21, 22, 23, 24, 25, 26, 27, 28, 29, 30, 31, 32, 33, 34, 35, 36, 37, 38, 39, 40, 41, 42, 43, 44, 45, 46, 47, 48, 49, 50, 51, 52, 53, 54, 55] 6 14
  (fun c i w' => ∃ (done rest : List Nat) (cr : Nat), done.length + rest.length = xs.length ∧ i = .int .i64 done.length ∧ c = .int .u64 (cr : Int) ∧ cr < 18446744073709551616 ∧ Dg 18446744073709551616 rest ∧ done ++ fF 18446744073709551616 rest (ys.drop done.length) m cr = fF 18446744073709551616 xs ys m 0 ∧ Hp w0 (.row (some ⟨b, 0, none⟩) M C 221 1 (cW (pre ++ (done ++ rest) ++ post)) :: H) w')
  (fun _ i _ => xs.length - (intOf i).toNat) ?_ ?_
 ·exact ⟨[], xs, 0, by simp, rfl, rfl, by omega, hxd, rfl, hh⟩
 ·clear hh
  rintro ρ' c i w' ⟨done, rest, cr, hlen, rfl, rfl, hcr, hrd, heq, hh⟩
  by_cases hlt : done.length < xs.length
  ·obtain ⟨x, r, rfl⟩ : ∃ x r, rest = x :: r := by
    cases rest with
    | nil => simp at hlen; omega
    | cons x r => exact ⟨x, r, rfl⟩
   have hx := hrd.head
   have hg := ea (rZ (pre := pre) (done := done) (r := r) (post := post) (x := x))
   have hlr : done.length + (r.length + 1) = xs.length := by simpa using hlen
   simp only [fF, tail_drop, n0] at heq
   by_cases hiy : done.length < ny
   ·obtain ⟨y, hyk⟩ := aD (l := ys) (k := done.length) (by omega)
    obtain ⟨ad, rfl, _⟩ := (hy _ _ hh).at_ (by omega)
    rw [hyk, Option.getD_some] at heq
    have hyw := hyd.at_ hyk
    refine sr ?_
    refine aU (ae (ah (cT (aj (ai (ah (al (sr (mI (aI (ae ?_)))))))))))
    refine sr (aI (ae (ah (sr (mI (mL (aO ?_)))))))
    refine aU (ae (cT (aq (mL (mI ?_)))))
    refine aR (k := done.length) aF.out aC.size rfl rfl (by omega) (by omega) (by decide) ?_
    refine bh aC.out rfl ((hy _ _ hh).Bs hyk) (by decide) ?_
    refine aI (ae (sr (mI (mI ?_))))
    obtain ⟨p1, p2, p3⟩ := qz (y := y) (m := m) hx hcr (Co hyw hm) rfl
    refine bG hh (np y m _ hyw hm) rfl ?_
    intro w28 hh
    refine mT ?_
    refine dp ?_
    refine dp ?_
    refine aI (aI (ae (sr (mI (mI ?_)))))
    refine iU (il (y * m % 18446744073709551616) cr 0 (by omega) _) (aA (cb rfl) (aA (cb rfl) (aA rfl a9))) (by decide) ?_
    refine mT ?_
    refine dp ?_
    refine dp ?_
    refine aI (aI (ae (sr (mI (mI ?_)))))
    refine gm rfl rfl (by decide) ?_
    refine aI (ae (sr (mL (mI (mL (mI ?_))))))
    refine dH aF.out aC.size rfl rfl rfl (by omega) (by decide) ?_
    refine bh aC.out rfl (hh.cI (i := 0) rfl (by first | assumption | (simp only [Nat.mul_one]; assumption))) (by decide) ?_
    refine mI ?_
    refine iU (il x ((y * m % 18446744073709551616 + cr + 0) % 18446744073709551616) 0 (by omega) _) (aA (cb rfl) (aA (cb rfl) (aA rfl a9))) (by decide) ?_
    refine mT ?_
    refine dp ?_
    refine dp ?_
    refine dH (k := done.length) aF.out aC.size rfl rfl (by omega) (by omega) (by decide) ?_
    refine bP hh (i := 0) (vs := [_]) rfl rfl (cb rfl) rfl aC.out rfl (by rw [a5]; simp only [List.length_append, List.length_cons]; omega) rfl ?_
    intro ws hh
    simp only [List.set_cons_zero] at hh
    rw [p1, Nat.mul_one, cz (by rw [a5]; simp only [List.length_append, List.length_cons]; omega), fg, kE] at hh
    refine aI (ae (aq (mI (mI ?_))))
    refine gm rfl rfl (by decide) ?_
    refine aI (aE (aW (ai (aq ?_))))
    refine bL (mI (aE (ai ?_)))
    rw [p2]
    refine ⟨⟨done ++ [(x + y * m + cr) % 18446744073709551616], r, _, by simp; omega, by rw [List.length_append]; rfl, rfl, p3, hrd.tail, ?_, hh⟩, by show xs.length - (done.length + 1) < xs.length - done.length; omega, ?_⟩
    ·rw [← heq, List.append_assoc, List.length_append]; rfl
    (repeat (first | exact aw _ _ _ | refine ax rfl ?_ | refine ar rfl ?_))
   ·rw [List.getElem?_eq_none (by omega), Option.getD_none] at heq
    have h0w : (0 : Nat) < 18446744073709551616 := by omega
    refine sr ?_
    refine aU (ae (ah (cT (aj (ai (ah (al (sr (mI (aI (ae ?_)))))))))))
    refine sr (aI (ae (ah (sr (mI (mL (aO ?_)))))))
    refine aU (ae (cF (aj (ai (sr (mI (mI ?_)))))))
    obtain ⟨p1, p2, p3⟩ := qz (y := 0) (m := m) hx hcr (Co h0w hm) rfl
    refine bG hh (np 0 m _ h0w hm) rfl ?_
    intro w28 hh
    refine mT ?_
    refine dp ?_
    refine dp ?_
    refine aI (aI (ae (sr (mI (mI ?_)))))
    refine iU (il (0 * m % 18446744073709551616) cr 0 (by omega) _) (aA (cb rfl) (aA (cb rfl) (aA rfl a9))) (by decide) ?_
    refine mT ?_
    refine dp ?_
    refine dp ?_
    refine aI (aI (ae (sr (mI (mI ?_)))))
    refine gm rfl rfl (by decide) ?_
    refine aI (ae (sr (mL (mI (mL (mI ?_))))))
    refine dH aF.out aC.size rfl rfl rfl (by omega) (by decide) ?_
    refine bh aC.out rfl (hh.cI (i := 0) rfl (by first | assumption | (simp only [Nat.mul_one]; assumption))) (by decide) ?_
    refine mI ?_
    refine iU (il x ((0 * m % 18446744073709551616 + cr + 0) % 18446744073709551616) 0 (by omega) _) (aA (cb rfl) (aA (cb rfl) (aA rfl a9))) (by decide) ?_
    refine mT ?_
    refine dp ?_
    refine dp ?_
    refine dH (k := done.length) aF.out aC.size rfl rfl (by omega) (by omega) (by decide) ?_
    refine bP hh (i := 0) (vs := [_]) rfl rfl (cb rfl) rfl aC.out rfl (by rw [a5]; simp only [List.length_append, List.length_cons]; omega) rfl ?_
    intro ws hh
    simp only [List.set_cons_zero] at hh
    rw [p1, Nat.mul_one, cz (by rw [a5]; simp only [List.length_append, List.length_cons]; omega), fg, kE] at hh
    refine aI (ae (aq (mI (mI ?_))))
    refine gm rfl rfl (by decide) ?_
    refine aI (aE (aW (ai (aq ?_))))
    refine bL (mI (aE (ai ?_)))
    rw [p2]
    refine ⟨⟨done ++ [(x + 0 * m + cr) % 18446744073709551616], r, _, by simp; omega, by rw [List.length_append]; rfl, rfl, p3, hrd.tail, ?_, hh⟩, by show xs.length - (done.length + 1) < xs.length - done.length; omega, ?_⟩
    ·rw [← heq, List.append_assoc, List.length_append]; rfl
    (repeat (first | exact aw _ _ _ | refine ax rfl ?_ | refine ar rfl ?_))
  ·have hr0 : rest = [] := List.eq_nil_of_length_eq_zero (by omega)
   subst hr0
   refine sr ?_
   refine aU (ae (ah (cF ?_)))
   refine aP ?_
   refine ay (ay (a6 ?_))
   refine Cl (by first | exact .inr rfl | exact .inl rfl) rfl  ?_
   rw [List.append_nil, fF, List.append_nil] at *
   rw [← heq]
   exact ⟨rfl, hh⟩
theorem sC {w0 : World} {H : List HE} {b M C c' ny cy : Nat} {Y : Option Addr} (pre xs post ys : List Nat) (w : World) (hh : Hp w0 (.row (some ⟨b, 0, none⟩) M C 221 1 (cW (pre ++ xs ++ post)) :: H) w)
  (hy : ∀ w1 cs, Hp w0 (.row (some ⟨b, 0, none⟩) M C 221 1 cs :: H) w1 → Sl w1 Y ny 1 (cW ys)) (hxd : Dg 18446744073709551616 xs) (hyd : Dg 18446744073709551616 ys) (hM : xs.length ≤ 100000000000) (hny : ny ≤ 100000000000) (hsub : sa 18446744073709551616 xs ys 0 = 0) :
  Calls Tryz.prog 280 #[.slice (some ⟨b, pre.length, none⟩) xs.length c', .slice Y ny cy] w fun e w' => e = .returned (.bool true) ∧ Hp w0 (.row (some ⟨b, 0, none⟩) M C 221 1 (cW (pre ++ nx 18446744073709551616 xs ys 0 ++ post)) :: H) w' := by
 have hly := (hy _ _ hh).1
 rw [a5] at hly
 refine ak (N := 37) (l := [.slice (some ⟨b, pre.length, none⟩) xs.length c', .slice Y ny cy]) Tryz.func280 rfl rfl (by simp) ?_
 refine sr (aB (ae (sr (aI (ae (ah (sr (mL (aO (mI (ae ?_)))))))))))
 refine al ?_
 refine ct [5, 6, 7, 10, 11, 12, 13, 14, 15, 16, 17, 18, 19, 20, 21, 22, 23, 24, 25, 26, 27, 28, 29, 30, 31, 32, 33, 34] 5 10
  (fun c i w' => ∃ (done rest : List Nat) (cr : Nat), done.length + rest.length = xs.length ∧ i = .int .i64 done.length ∧ c = .int .u64 (cr : Int) ∧ cr ≤ 1 ∧ Dg 18446744073709551616 rest ∧ done ++ nx 18446744073709551616 rest (ys.drop done.length) cr = nx 18446744073709551616 xs ys 0 ∧ sa 18446744073709551616 rest (ys.drop done.length) cr = 0 ∧ Hp w0 (.row (some ⟨b, 0, none⟩) M C 221 1 (cW (pre ++ (done ++ rest) ++ post)) :: H) w')
  (fun _ i _ => xs.length - (intOf i).toNat) ?_ ?_
 ·exact ⟨[], xs, 0, by simp, rfl, rfl, by omega, hxd, rfl, hsub, hh⟩
 ·clear hh
  rintro ρ' c i w' ⟨done, rest, cr, hlen, rfl, rfl, hcr, hrd, heq, hsb, hh⟩
  by_cases hlt : done.length < xs.length
  ·obtain ⟨x, r, rfl⟩ : ∃ x r, rest = x :: r := by
    cases rest with
    | nil => simp at hlen; omega
    | cons x r => exact ⟨x, r, rfl⟩
   have hx := hrd.head
   have hg := ea (rZ (pre := pre) (done := done) (r := r) (post := post) (x := x))
   have hlr : done.length + (r.length + 1) = xs.length := by simpa using hlen
   simp only [nx, sa, tail_drop, n0] at heq hsb
   by_cases hiy : done.length < ny
   ·obtain ⟨y, hyk⟩ := aD (l := ys) (k := done.length) (by omega)
    obtain ⟨ad, rfl, _⟩ := (hy _ _ hh).at_ (by omega)
    rw [hyk, Option.getD_some] at heq hsb
    have hyw := hyd.at_ hyk
    refine sr ?_
    refine aU (ae (ah (cT (aj (ai (ah (al (sr (mI (aI (ae ?_)))))))))))
    refine sr (aI (ae (ah (sr (mI (mL (aO ?_)))))))
    refine aU (ae (cT (aq (mL (mI ?_)))))
    refine aR (k := done.length) aF.out aC.size rfl rfl (by omega) (by omega) (by decide) ?_
    refine bh aC.out rfl ((hy _ _ hh).Bs hyk) (by decide) ?_
    refine aI (ae (aq (mL (mI (mL (mI ?_))))))
    refine dH (k := done.length) aF.out aC.size rfl rfl (by omega) (by omega) (by decide) ?_
    refine bh aC.out rfl (hh.cI (i := 0) rfl (by first | assumption | (simp only [Nat.mul_one]; assumption))) (by decide) ?_
    refine mI (mI ?_)
    refine iU (qF x y cr hcr _) (aA (cb rfl) (aA (cb rfl) (aA (cb rfl) a9))) (by decide) ?_
    refine mT ?_
    refine dp ?_
    refine dp ?_
    refine dH (k := done.length) aF.out aC.size rfl rfl (by omega) (by omega) (by decide) ?_
    refine bP hh (i := 0) (vs := [_]) rfl rfl (cb rfl) rfl aC.out rfl (by rw [a5]; simp only [List.length_append, List.length_cons]; omega) rfl ?_
    intro ws hh
    simp only [List.set_cons_zero] at hh
    rw [Nat.mul_one, cz (by rw [a5]; simp only [List.length_append, List.length_cons]; omega), fg, kE] at hh
    refine aI (aE (aW (ai (aq ?_))))
    refine bL (mI (aE (ai ?_)))
    refine ⟨⟨done ++ [(x + 18446744073709551616 - y - cr) % 18446744073709551616], r, _, by simp; omega, by rw [List.length_append]; rfl, rfl, by split <;> omega, hrd.tail, ?_, ?_, hh⟩, by show xs.length - (done.length + 1) < xs.length - done.length; omega, ?_⟩
    ·rw [← heq, List.append_assoc, List.length_append]; rfl
    ·rw [List.length_append]; exact hsb
    (repeat (first | exact aw _ _ _ | refine ax rfl ?_ | refine ar rfl ?_))
   ·rw [List.getElem?_eq_none (by omega), Option.getD_none] at heq hsb
    refine sr ?_
    refine aU (ae (ah (cT (aj (ai (ah (al (sr (mI (aI (ae ?_)))))))))))
    refine sr (aI (ae (ah (sr (mI (mL (aO ?_)))))))
    refine aU (ae (cF (aj (ai (aq (mL (mI (mL (mI ?_)))))))))
    refine dH (k := done.length) aF.out aC.size rfl rfl (by omega) (by omega) (by decide) ?_
    refine bh aC.out rfl (hh.cI (i := 0) rfl (by first | assumption | (simp only [Nat.mul_one]; assumption))) (by decide) ?_
    refine mI (mI ?_)
    refine iU (qF x 0 cr hcr _) (aA (cb rfl) (aA (cb rfl) (aA (cb rfl) a9))) (by decide) ?_
    refine mT ?_
    refine dp ?_
    refine dp ?_
    refine dH (k := done.length) aF.out aC.size rfl rfl (by omega) (by omega) (by decide) ?_
    refine bP hh (i := 0) (vs := [_]) rfl rfl (cb rfl) rfl aC.out rfl (by rw [a5]; simp only [List.length_append, List.length_cons]; omega) rfl ?_
    intro ws hh
    simp only [List.set_cons_zero] at hh
    rw [Nat.mul_one, cz (by rw [a5]; simp only [List.length_append, List.length_cons]; omega), fg, kE] at hh
    refine aI (aE (aW (ai (aq ?_))))
    refine bL (mI (aE (ai ?_)))
    refine ⟨⟨done ++ [(x + 18446744073709551616 - 0 - cr) % 18446744073709551616], r, _, by simp; omega, by rw [List.length_append]; rfl, rfl, by split <;> omega, hrd.tail, ?_, ?_, hh⟩, by show xs.length - (done.length + 1) < xs.length - done.length; omega, ?_⟩
    ·rw [← heq, List.append_assoc, List.length_append]; rfl
    ·rw [List.length_append]; exact hsb
    (repeat (first | exact aw _ _ _ | refine ax rfl ?_ | refine ar rfl ?_))
  ·have hr0 : rest = [] := List.eq_nil_of_length_eq_zero (by omega)
   subst hr0
   obtain rfl : cr = 0 := hsb
   refine sr ?_
   refine aU (ae (ah (cF ?_)))
   refine aP ?_
   refine ay (ay (a6 (ai (sr (mI ?_)))))
   refine ck (aB (ae (ao ?_)))
   refine cA ?_
   rw [List.append_nil, nx, List.append_nil] at *
   rw [← heq]
   exact ⟨rfl, hh⟩
theorem uz {w0 : World} {H : List HE} {b M C c' ny cy : Nat} {Y : Option Addr} (pre xs post ys : List Nat) (w : World) (hh : Hp w0 (.row (some ⟨b, 0, none⟩) M C 221 1 (cW (pre ++ xs ++ post)) :: H) w)
  (hy : ∀ w1 cs, Hp w0 (.row (some ⟨b, 0, none⟩) M C 221 1 cs :: H) w1 → Sl w1 Y ny 1 (cW ys)) (hxd : Dg 18446744073709551616 xs) (hyd : Dg 18446744073709551616 ys) (hM : xs.length ≤ 100000000000) (hny : ny ≤ 100000000000) :
  Calls Tryz.prog 277 #[.slice (some ⟨b, pre.length, none⟩) xs.length c', .slice Y ny cy] w fun e w' => e = .returned (.tuple #[]) ∧ Hp w0 (.row (some ⟨b, 0, none⟩) M C 221 1 (cW (pre ++ fF 18446744073709551616 xs ys 1 0 ++ post)) :: H) w' := by
 have hly := (hy _ _ hh).1
 rw [a5] at hly
 refine ak (N := 34) (l := [.slice (some ⟨b, pre.length, none⟩) xs.length c', .slice Y ny cy]) Tryz.func277 rfl rfl (by simp) ?_
 refine sr (aI (ae (sr (mL (aO (mI (ae (al ?_))))))))
 refine ct [4, 5, 6, 9, 10, 11, 12, 13, 14, 15, 16, 17, 18, 19, 20, 21, 22, 23, 24, 25, 26, 27, 28, 29, 30, 31, 32, 33] 4 9
  (fun c i w' => ∃ (done rest : List Nat) (cr : Nat), done.length + rest.length = xs.length ∧ i = .int .i64 done.length ∧ c = .int .u64 (cr : Int) ∧ cr ≤ 1 ∧ Dg 18446744073709551616 rest ∧ done ++ fF 18446744073709551616 rest (ys.drop done.length) 1 cr = fF 18446744073709551616 xs ys 1 0 ∧ Hp w0 (.row (some ⟨b, 0, none⟩) M C 221 1 (cW (pre ++ (done ++ rest) ++ post)) :: H) w')
  (fun _ i _ => xs.length - (intOf i).toNat) ?_ ?_
 ·exact ⟨[], xs, 0, by simp, rfl, rfl, by omega, hxd, rfl, hh⟩
 ·clear hh
  rintro ρ' c i w' ⟨done, rest, cr, hlen, rfl, rfl, hcr, hrd, heq, hh⟩
  by_cases hlt : done.length < xs.length
  ·obtain ⟨x, r, rfl⟩ : ∃ x r, rest = x :: r := by
    cases rest with
    | nil => simp at hlen; omega
    | cons x r => exact ⟨x, r, rfl⟩
   have hx := hrd.head
   have hg := ea (rZ (pre := pre) (done := done) (r := r) (post := post) (x := x))
   have hlr : done.length + (r.length + 1) = xs.length := by simpa using hlen
   simp only [fF, tail_drop, n0, Nat.mul_one] at heq
   by_cases hiy : done.length < ny
   ·obtain ⟨y, hyk⟩ := aD (l := ys) (k := done.length) (by omega)
    obtain ⟨ad, rfl, _⟩ := (hy _ _ hh).at_ (by omega)
    rw [hyk, Option.getD_some] at heq
    have hyw := hyd.at_ hyk
    refine sr ?_
    refine aU (ae (ah (cT (aj (ai (ah (al (sr (mI (aI (ae ?_)))))))))))
    refine sr (aI (ae (ah (sr (mI (mL (aO ?_)))))))
    refine aU (ae (cT (aq (mL (mI ?_)))))
    refine aR (k := done.length) aF.out aC.size rfl rfl (by omega) (by omega) (by decide) ?_
    refine bh aC.out rfl ((hy _ _ hh).Bs hyk) (by decide) ?_
    refine aI (ae (aq (mL (mI (mL (mI ?_))))))
    refine dH (k := done.length) aF.out aC.size rfl rfl (by omega) (by omega) (by decide) ?_
    refine bh aC.out rfl (hh.cI (i := 0) rfl (by first | assumption | (simp only [Nat.mul_one]; assumption))) (by decide) ?_
    refine mI (mI ?_)
    refine iU (il x y cr hcr _) (aA (cb rfl) (aA (cb rfl) (aA (cb rfl) a9))) (by decide) ?_
    refine mT ?_
    refine dp ?_
    refine dp ?_
    refine dH (k := done.length) aF.out aC.size rfl rfl (by omega) (by omega) (by decide) ?_
    refine bP hh (i := 0) (vs := [_]) rfl rfl (cb rfl) rfl aC.out rfl (by rw [a5]; simp only [List.length_append, List.length_cons]; omega) rfl ?_
    intro ws hh
    simp only [List.set_cons_zero] at hh
    rw [Nat.mul_one, cz (by rw [a5]; simp only [List.length_append, List.length_cons]; omega), fg, kE] at hh
    refine aI (aE (aW (ai (aq ?_))))
    refine bL (mI (aE (ai ?_)))
    refine ⟨⟨done ++ [(x + y + cr) % 18446744073709551616], r, _, by simp; omega, by rw [List.length_append]; rfl, rfl, by omega, hrd.tail, ?_, hh⟩, by show xs.length - (done.length + 1) < xs.length - done.length; omega, ?_⟩
    ·rw [← heq, List.append_assoc, List.length_append]; rfl
    (repeat (first | exact aw _ _ _ | refine ax rfl ?_ | refine ar rfl ?_))
   ·rw [List.getElem?_eq_none (by omega), Option.getD_none] at heq
    refine sr ?_
    refine aU (ae (ah (cT (aj (ai (ah (al (sr (mI (aI (ae ?_)))))))))))
    refine sr (aI (ae (ah (sr (mI (mL (aO ?_)))))))
    refine aU (ae (cF (aj (ai (aq (mL (mI (mL (mI ?_)))))))))
    refine dH (k := done.length) aF.out aC.size rfl rfl (by omega) (by omega) (by decide) ?_
    refine bh aC.out rfl (hh.cI (i := 0) rfl (by first | assumption | (simp only [Nat.mul_one]; assumption))) (by decide) ?_
    refine mI (mI ?_)
    refine iU (il x 0 cr hcr _) (aA (cb rfl) (aA (cb rfl) (aA (cb rfl) a9))) (by decide) ?_
    refine mT ?_
    refine dp ?_
    refine dp ?_
    refine dH (k := done.length) aF.out aC.size rfl rfl (by omega) (by omega) (by decide) ?_
    refine bP hh (i := 0) (vs := [_]) rfl rfl (cb rfl) rfl aC.out rfl (by rw [a5]; simp only [List.length_append, List.length_cons]; omega) rfl ?_
    intro ws hh
    simp only [List.set_cons_zero] at hh
    rw [Nat.mul_one, cz (by rw [a5]; simp only [List.length_append, List.length_cons]; omega), fg, kE] at hh
    refine aI (aE (aW (ai (aq ?_))))
    refine bL (mI (aE (ai ?_)))
    refine ⟨⟨done ++ [(x + 0 + cr) % 18446744073709551616], r, _, by simp; omega, by rw [List.length_append]; rfl, rfl, by omega, hrd.tail, ?_, hh⟩, by show xs.length - (done.length + 1) < xs.length - done.length; omega, ?_⟩
    ·rw [← heq, List.append_assoc, List.length_append]; rfl
    (repeat (first | exact aw _ _ _ | refine ax rfl ?_ | refine ar rfl ?_))
  ·have hr0 : rest = [] := List.eq_nil_of_length_eq_zero (by omega)
   subst hr0
   refine sr ?_
   refine aU (ae (ah (cF ?_)))
   refine aP ?_
   refine ay (ay (a6 ?_))
   refine Cl (by first | exact .inr rfl | exact .inl rfl) rfl  ?_
   rw [List.append_nil, fF, List.append_nil] at *
   rw [← heq]
   exact ⟨rfl, hh⟩
end Go.Proofs.YtaapkaefelhfcaaGreatDoor
namespace Go.Proofs.YtaapkaefelhfcaaGreatDoor
open Go.RowKit
theorem zZ {k i n d : Nat} (D : Nat) (hD : D < 18446744073709551616 ^ i) (hd : d < 18446744073709551616) (hk : i + n / 64 + 1 < k) :
  (D * 2 ^ n) / 18446744073709551616 ^ (i + n / 64) % 18446744073709551616 < 2 ^ (n % 64) ∧ d * 2 ^ (n % 64) % 18446744073709551616 = (d % 2 ^ (64 - n % 64)) * 2 ^ (n % 64) ∧
  (bT 18446744073709551616 k (D * 2 ^ n)).set (i + n / 64) ((D * 2 ^ n) / 18446744073709551616 ^ (i + n / 64) % 18446744073709551616 + d * 2 ^ (n % 64) % 18446744073709551616) = bT 18446744073709551616 k (D * 2 ^ n + 18446744073709551616 ^ (i + n / 64) * (d * 2 ^ (n % 64) % 18446744073709551616)) ∧
  (D * 2 ^ n + 18446744073709551616 ^ (i + n / 64) * (d * 2 ^ (n % 64) % 18446744073709551616)) / 18446744073709551616 ^ (i + n / 64 + 1) % 18446744073709551616 = 0 ∧
  (bT 18446744073709551616 k (D * 2 ^ n + 18446744073709551616 ^ (i + n / 64) * (d * 2 ^ (n % 64) % 18446744073709551616))).set (i + n / 64 + 1) (d / 2 ^ (64 - n % 64)) = bT 18446744073709551616 k ((D + 18446744073709551616 ^ i * d) * 2 ^ n) ∧
  (n % 64 = 0 → D * 2 ^ n + 18446744073709551616 ^ (i + n / 64) * (d * 2 ^ (n % 64) % 18446744073709551616) = (D + 18446744073709551616 ^ i * d) * 2 ^ n) := by
 have hW : (18446744073709551616 : Nat) = 2 ^ 64 := by decide
 have hs : n % 64 < 64 := Nat.mod_lt _ (by omega)
 have hn : 2 ^ n = 18446744073709551616 ^ (n / 64) * 2 ^ (n % 64) := by
  rw [hW, ← Nat.pow_mul, ← Nat.pow_add]; congr 1; omega
 generalize hq : n / 64 = q at *
 generalize hse : n % 64 = s at *
 have e : (18446744073709551616 : Nat) = 2 ^ (64 - s) * 2 ^ s := by rw [← Nat.pow_add, hW]; congr 1; omega
 have hpos : 0 < 2 ^ s := Nat.pow_pos (by omega)
 have hwp : ∀ j : Nat, 0 < 18446744073709551616 ^ j := fun j => Nat.pow_pos (by decide)
 have hP : D * 2 ^ n < 18446744073709551616 ^ (i + q) * 2 ^ s := by
  rw [hn, ← Nat.mul_assoc, Nat.pow_add]
  exact Nat.mul_lt_mul_of_pos_right (Nat.mul_lt_mul_of_pos_right hD (hwp q)) hpos
 have h1 : (D * 2 ^ n) / 18446744073709551616 ^ (i + q) < 2 ^ s := by rw [Nat.div_lt_iff_lt_mul (hwp _), Nat.mul_comm (2 ^ s)]; exact hP
 have hsW : 2 ^ s ≤ 18446744073709551616 := by rw [hW]; exact Nat.pow_le_pow_right (by omega) (by omega)
 have h2 : d * 2 ^ s % 18446744073709551616 = (d % 2 ^ (64 - s)) * 2 ^ s := by rw [e, Nat.mul_mod_mul_right]
 have h3 : (d % 2 ^ (64 - s) + 1) * 2 ^ s ≤ 18446744073709551616 := by
  rw [e]
  exact Nat.mul_le_mul_right _ (Nat.mod_lt _ (Nat.pow_pos (by omega)))
 rw [Nat.succ_mul] at h3
 have h4 : (D * 2 ^ n) / 18446744073709551616 ^ (i + q) % 18446744073709551616 = (D * 2 ^ n) / 18446744073709551616 ^ (i + q) := Nat.mod_eq_of_lt (by omega)
 have hlt1 : D * 2 ^ n + 18446744073709551616 ^ (i + q) * (d * 2 ^ s % 18446744073709551616) < 18446744073709551616 ^ (i + q + 1) := by
  rw [h2, Nat.pow_succ]
  have : 18446744073709551616 ^ (i + q) * ((d % 2 ^ (64 - s)) * 2 ^ s + 2 ^ s) ≤ 18446744073709551616 ^ (i + q) * 18446744073709551616 := Nat.mul_le_mul_left _ h3
  rw [Nat.mul_add] at this
  omega
 have hup := BI (d := d) (s := s) hd (by omega)
 have hfin : D * 2 ^ n + 18446744073709551616 ^ (i + q) * (d * 2 ^ s % 18446744073709551616) + 18446744073709551616 ^ (i + q + 1) * (d / 2 ^ (64 - s)) = (D + 18446744073709551616 ^ i * d) * 2 ^ n := by
  have h5 : 18446744073709551616 ^ (i + q) * (d * 2 ^ s % 18446744073709551616) + 18446744073709551616 ^ (i + q + 1) * (d / 2 ^ (64 - s)) = 18446744073709551616 ^ (i + q) * (d * 2 ^ s) := by
   conv => rhs; rw [← hup.1, Nat.mul_add]
   rw [Nat.pow_succ, Nat.mul_assoc, Nat.mul_comm 18446744073709551616]
  rw [Nat.add_assoc, h5, Nat.add_mul, hn, Nat.pow_add]
  congr 1
  simp only [Nat.mul_assoc, Nat.mul_left_comm, Nat.mul_comm]
 have hbig : ∀ j, j < k → 18446744073709551616 ^ j * 18446744073709551616 ≤ 18446744073709551616 ^ k := fun j hj => by rw [← Nat.pow_succ]; exact Nat.pow_le_pow_right (by decide) hj
 have hb1 := hbig (i + q) (by omega)
 rw [← Nat.pow_succ] at hb1
 refine ⟨by rw [h4]; exact h1, h2, ?_, ?_, ?_, ?_⟩
 ·exact ma (by decide) (by omega) (by omega) (by rw [h4, h2]; omega)
 ·rw [Nat.div_eq_of_lt hlt1]
 ·have h6 : (D * 2 ^ n + 18446744073709551616 ^ (i + q) * (d * 2 ^ s % 18446744073709551616)) / 18446744073709551616 ^ (i + q + 1) % 18446744073709551616 = 0 := by rw [Nat.div_eq_of_lt hlt1]
  have h7 : d / 2 ^ (64 - s) < 18446744073709551616 := Nat.lt_of_le_of_lt (Nat.div_le_self _ _) hd
  have h8 := ma (B := 18446744073709551616) (k := k) (n := D * 2 ^ n + 18446744073709551616 ^ (i + q) * (d * 2 ^ s % 18446744073709551616)) (j := i + q + 1) (v := d / 2 ^ (64 - s)) (by decide) hk ?_ (by rw [h6]; omega)
  ·rw [h6, Nat.zero_add, hfin] at h8
   exact h8
  ·have h9 : 18446744073709551616 ^ (i + q + 1) * (d / 2 ^ (64 - s) + 1) ≤ 18446744073709551616 ^ (i + q + 1) * 18446744073709551616 := Nat.mul_le_mul_left _ h7
   have h10 := hbig (i + q + 1) hk
   rw [Nat.mul_succ] at h9
   omega
 ·intro h0
  subst h0
  rw [← hfin]
  have : d / 2 ^ (64 - 0) = 0 := Nat.div_eq_of_lt (by rw [← hW]; exact hd)
  rw [this]
  simp
theorem wQ (A : Option Addr) (n c m : Nat) (xs : List Nat) (w : World) (hx : Sl w A n 1 (cW xs)) (hd : Dg 18446744073709551616 xs) (hn : n ≤ 1000000000) (hm : m ≤ 10000000000) :
  Calls Tryz.prog 273 #[.slice A n c, .int .i64 (m : Int)] w fun e w' => ∃ A c, e = .returned (.slice A (aZ 18446744073709551616 (bD 18446744073709551616 xs * 2 ^ m)).length c) ∧ w'.ownsRow w.heap.size 221 1 (.slice A (aZ 18446744073709551616 (bD 18446744073709551616 xs * 2 ^ m)).length c) (aZ 18446744073709551616 (bD 18446744073709551616 xs * 2 ^ m)).length (cW (aZ 18446744073709551616 (bD 18446744073709551616 xs * 2 ^ m))) ∧ Below w.heap.size w w' := by
 have hl := hx.1
 rw [a5] at hl
 have hh := Hp.start w
 have hs1 : ((m : Int) % 64).toNat = m % 64 := by omega
 refine ak (N := 55) (l := [.slice A n c, .int .i64 (m : Int)]) Tryz.func273 rfl rfl (by simp) ?_
 refine sr (aL (ae (sr (mL (aO (mI ?_))))))
 refine jd rfl rfl (by omega) (by omega) (by omega) (by decide) ?_
 refine bL ?_
 refine bL ?_
 refine gO (n := n + m / 64 + 1) hh rfl rfl (by omega) (by omega) aF.out aC.out rfl (by omega) (by omega) (by decide) ?_
 intro b15 w15 hh
 refine aL (ae (ah (sr (mL (aO (mI (ae (al ?_))))))))
 rw [l7] at hh
 refine bs [6, 7, 8, 18, 19, 20, 21, 22, 23, 24, 25, 26, 27, 28, 29, 30, 31, 32, 33, 34, 35, 36, 37, 38, 39, 40, 41, 42, 43, 44, 45, 46, 47, 48, 49, 50, 51, 52] 18
  (fun v w' => ∃ i : Nat, i ≤ n ∧ v = .int .i64 i ∧ Hp w [.row (some ⟨b15, 0, none⟩) (n + m / 64 + 1) (n + m / 64 + 1) 221 1 (cW (bT 18446744073709551616 (n + m / 64 + 1) (bD 18446744073709551616 (xs.take i) * 2 ^ m)))] w')
  (fun v _ => n - (intOf v).toNat) ?_ ?_
 ·exact ⟨0, Nat.zero_le _, rfl, by rw [List.take_zero, bD, Nat.zero_mul, mz]; exact hh⟩
 ·clear hh
  rintro ρ' v w' ⟨i, hi, rfl, hh⟩
  by_cases hlt : i < n
  ·obtain ⟨d, hdi⟩ := aD (l := xs) (k := i) (by omega)
   obtain ⟨ad, rfl, hr⟩ := hx.at_ (by omega)
   have hd2 := ea hdi
   have hdw := hd.at_ hdi
   have hD := gl (hd.take i)
   rw [List.length_take, Nat.min_eq_left (by omega)] at hD
   obtain ⟨s1, s2, s3, s4, s5, s6⟩ := zZ (k := n + m / 64 + 1) (n := m) (bD 18446744073709551616 (xs.take i)) hD hdw (by omega)
   have hg := ea (gp (B := 18446744073709551616) (n + m / 64 + 1) (bD 18446744073709551616 (xs.take i) * 2 ^ m) (i + m / 64) (by omega))
   refine sr ?_
   refine aU (ae (ah (cT (aj (ai (ah (al (sr (mI ?_)))))))))
   refine aR aF.out aC.size rfl rfl rfl (by omega) (by decide) ?_
   refine bh aC.out rfl ((hr.ext hh.below).nJ (by assumption)) (by decide) ?_
   refine aI (aI (ae (sr (mI (mI ?_)))))
   refine jd rfl rfl (by omega) (by omega) (by omega) (by decide) ?_
   refine bL (aI (ae (ah ?_)))
   refine aX 8 [[(5, none)], [(8, none)], [(27, some 0), (28, some 1)], [(29, some 2)], [(7, none)], [(1, none)], [(32, some 5)], [(31, some 4), (33, some 6)]] [(7, 34), (6, 33), (5, 32), (4, 31), (3, 30), (2, 29), (1, 28), (0, 27)] hh mixed (by kernel_rfl) ?_
   refine fN ?_
   refine eb ?_
   refine AH (i + m / 64) ?_
   refine bq (i := 3) (fun ρ1 w1 hj hR => ic aC.out (show ρ1 29 = Value.pointer _ from hR.1) (hj.hp.cI (i := 0) rfl (by rw [Nat.mul_one]; exact hg))) ?_
   refine eb ?_
   refine eb ?_
   refine bq (i := 6) (fun ρ1 w1 hj hR => mQ (show ρ1 32 = Value.int _ _ from hR.1) rfl (by omega) (by omega)) ?_
   refine bq (i := 7) (fun ρ1 w1 hj hR => rH (show ρ1 31 = Value.int _ _ from hR.1) (show ρ1 33 = Value.int _ _ from hR.2.1) (by omega)) ?_
   refine a0 ?_
   intro f W hJ hV
   have hb_6 := hJ.bl
   obtain ⟨v34, v33, v32, v31, v30, v29, v28, v27, _⟩ := hV
   replace hh := hJ.hp
   refine aN (a4 (aa v34 (aa v33 (aa v32 (aa v31 (aa v30 (aa v29 (aa v28 (aa v27 aM))))))))) ?_
   dsimp only [ca]
   clear hJ
   refine vC rfl rfl (by first | assumption | omega) (by first | assumption | omega) (by decide) ?_
   refine bp (k := i + m / 64) aF.out aC.size rfl rfl (by omega) (by omega) (by decide) ?_
   refine bP hh (i := 0) (vs := [_]) rfl rfl (cb rfl) rfl aC.out rfl (by rw [a5, aY]; omega) rfl ?_
   intro ws hh
   simp only [List.set_cons_zero] at hh
   rw [hs1, s2, uP s1, ← s2, Nat.mul_one, cz (by rw [a5, aY]; omega), fg, s3] at hh
   by_cases h0 : m % 64 = 0
   ·refine ae (sr (mI ?_))
    refine jY rfl rfl (by omega) (by omega) (by decide) ?_
    refine bY (ae (cF (aj (aW (ai (aq ?_))))))
    refine bL (mI (aE (ai ?_)))
    rw [s6 h0, ← eA hdi] at hh
    refine ⟨⟨i + 1, by omega, rfl, hh⟩, by show n - (i + 1) < n - i; omega, ?_⟩
    (repeat (first | exact aw _ _ _ | refine ax rfl ?_ | refine ar rfl ?_))
   ·have hg2 := ea (gp (B := 18446744073709551616) (n + m / 64 + 1) (bD 18446744073709551616 (xs.take i) * 2 ^ m + 18446744073709551616 ^ (i + m / 64) * (d * 2 ^ (m % 64) % 18446744073709551616)) (i + m / 64 + 1) (by omega))
    rw [s4] at hg2
    have hs2 : (64 - (m : Int) % 64).toNat = 64 - m % 64 := by omega
    have hd64 : d / 2 ^ (64 - (m : Int) % 64).toNat < 18446744073709551616 := Nat.lt_of_le_of_lt (Nat.div_le_self _ _) hdw
    have h0w : (0 : Nat) < 18446744073709551616 := by omega
    refine ae (sr (mI ?_))
    refine jY rfl rfl (by omega) (by omega) (by decide) ?_
    refine bY (ae (cT ?_))
    refine aX 10 [[(5, none)], [(8, none)], [(41, some 1)], [(40, some 0), (42, some 2)], [(43, some 3)], [(7, none)], [(1, none)], [(46, some 6)], [(47, some 7)], [(45, some 5), (48, some 8)]] [(9, 49), (8, 48), (7, 47), (6, 46), (5, 45), (4, 44), (3, 43), (2, 42), (1, 41), (0, 40)] hh mixed (by kernel_rfl) ?_
    refine fN ?_
    refine eb ?_
    refine uB ?_
    refine AH (i + m / 64 + 1) ?_
    refine bq (i := 4) (fun ρ1 w1 hj hR => ic aC.out (show ρ1 43 = Value.pointer _ from hR.1) (hj.hp.cI (i := 0) rfl (by rw [Nat.mul_one]; exact hg2))) ?_
    refine eb ?_
    refine eb ?_
    refine bq (i := 7) (fun ρ1 w1 hj hR => mQ (show ρ1 46 = Value.int _ _ from hR.1) rfl (by omega) (by omega)) ?_
    refine jU ?_
    refine bq (i := 9) (fun ρ1 w1 hj hR => ve (show ρ1 45 = Value.int _ _ from hR.1) (show ρ1 48 = Value.int _ _ from hR.2.1) (by omega)) ?_
    refine a0 ?_
    intro f W hJ hV
    have hb_8 := hJ.bl
    obtain ⟨v49, v48, v47, v46, v45, v44, v43, v42, v41, v40, _⟩ := hV
    replace hh := hJ.hp
    refine aN (a4 (aa v49 (aa v48 (aa v47 (aa v46 (aa v45 (aa v44 (aa v43 (aa v42 (aa v41 (aa v40 aM))))))))))) ?_
    dsimp only [ca]
    clear hJ
    refine vC rfl rfl (by first | assumption | omega) (by first | assumption | omega) (by decide) ?_
    refine bp (k := i + m / 64 + 1) aF.out aC.size rfl rfl (by omega) (by omega) (by decide) ?_
    refine bP hh (i := 0) (vs := [_]) rfl rfl (cb rfl) rfl aC.out rfl (by rw [a5, aY]; omega) rfl ?_
    intro ws hh
    simp only [List.set_cons_zero] at hh
    rw [hs2, Nat.zero_or, Nat.mul_one, cz (by rw [a5, aY]; omega), fg, s5, ← eA hdi] at hh
    refine aE (aW (ai (aq ?_)))
    refine bL (mI (aE (ai ?_)))
    refine ⟨⟨i + 1, by omega, rfl, hh⟩, by show n - (i + 1) < n - i; omega, ?_⟩
    (repeat (first | exact aw _ _ _ | refine ax rfl ?_ | refine ar rfl ?_))
  ·refine sr ?_
   refine aU (ae (ah (cF ?_)))
   refine aP ?_
   refine ay (ay (a6 (ai (sr (mL ?_)))))
   rw [List.take_of_length_le (by omega)] at hh
   refine bG hh (fZ _ _ _ (bT 18446744073709551616 (n + m / 64 + 1) (bD 18446744073709551616 xs * 2 ^ m)) _ (hh.aK (i := 0) rfl) (Nat.le_refl _) (by omega)) rfl ?_
   intro w54 hh
   refine aL (ae (ao ?_))
   refine cA ?_
   have hbd : bD 18446744073709551616 xs * 2 ^ m < 18446744073709551616 ^ (n + m / 64 + 1) := by
    have h1 := gl hd
    rw [show xs.length = n by omega] at h1
    have h2 : 2 ^ m ≤ 18446744073709551616 ^ (m / 64 + 1) := by
     rw [show (18446744073709551616 : Nat) = 2 ^ 64 from rfl, ← Nat.pow_mul]
     exact Nat.pow_le_pow_right (by omega) (by omega)
    rw [show n + m / 64 + 1 = n + (m / 64 + 1) by omega, Nat.pow_add]
    exact Nat.lt_of_lt_of_le (Nat.mul_lt_mul_of_pos_right h1 (Nat.pow_pos (by omega))) (Nat.mul_le_mul_left _ h2)
   have hd : dI (bT 18446744073709551616 (n + m / 64 + 1) (bD 18446744073709551616 xs * 2 ^ m)) = aZ 18446744073709551616 (bD 18446744073709551616 xs * 2 ^ m) := by
    rw [eT (by omega) (ec (by omega) _ _), cu hbd]
   have h1 := (Hp.vl (xs := bT 18446744073709551616 (n + m / 64 + 1) (bD 18446744073709551616 xs * 2 ^ m)) hh (aY _ _)).at_ (i := 0) rfl
   rw [hd] at h1
   rw [hd]
   exact ⟨_, _, rfl, h1, hh.below⟩
end Go.Proofs.YtaapkaefelhfcaaGreatDoor
namespace Go.Proofs.YtaapkaefelhfcaaGreatDoor
open Go.RowKit
theorem Sl.Bz {w : World} {ad : Addr} {n : Nat} {xs : List Nat} (h : Sl w (some ad) n 1 (cW xs)) {k : Nat} (hk : k < n) : Sl w (some (ad.add (k * 1))) (n - k) 1 (cW (xs.drop k)) := by
 have hl := h.1
 rw [a5] at hl
 refine ⟨by rw [a5, List.length_drop]; omega, fun h0 => ⟨_, rfl, ?_⟩⟩
 obtain ⟨ad', he, hr⟩ := h.2 (by omega)
 injection he with he
 subst he
 rw [Nat.mul_one, qa]
 exact hr.drop k
theorem xa {N j s : Nat} (hs : s < 64) (h0 : 0 < s) :
  (N / 18446744073709551616 ^ (j + 1) % 18446744073709551616) * 2 ^ (64 - s) % 18446744073709551616 = N / 18446744073709551616 ^ (j + 1) % 2 ^ s * 2 ^ (64 - s) ∧
  (N / 18446744073709551616 ^ j % 18446744073709551616 / 2 ^ s ||| (N / 18446744073709551616 ^ (j + 1) % 18446744073709551616) * 2 ^ (64 - s) % 18446744073709551616) = N / 2 ^ (64 * j + s) % 18446744073709551616 := by
 have hW : (18446744073709551616 : Nat) = 2 ^ 64 := by decide
 have e : (18446744073709551616 : Nat) = 2 ^ s * 2 ^ (64 - s) := by rw [← Nat.pow_add, hW]; congr 1; omega
 have h1 : (N / 18446744073709551616 ^ (j + 1) % 18446744073709551616) * 2 ^ (64 - s) % 18446744073709551616 = N / 18446744073709551616 ^ (j + 1) % 2 ^ s * 2 ^ (64 - s) := by
  generalize N / 18446744073709551616 ^ (j + 1) = m
  rw [e, Nat.mul_mod_mul_right, Nat.mod_mul_right_mod]
 obtain ⟨h2, h3⟩ := qy N j s hs h0
 exact ⟨h1, by rw [h1, uP h2, h3]⟩
theorem tK (A : Option Addr) (n c m : Nat) (xs : List Nat) (w : World) (hx : Sl w A n 1 (cW xs)) (hd : Dg 18446744073709551616 xs) (hc : n ≤ c) (hn : n ≤ 1000000000) (hm : m ≤ 1000000000000) :
  Calls Tryz.prog 274 #[.slice A n c, .int .i64 (m : Int)] w fun e w' => ∃ A c, e = .returned (.slice A (aZ 18446744073709551616 (bD 18446744073709551616 xs / 2 ^ m)).length c) ∧ w'.ownsRow w.heap.size 221 1 (.slice A (aZ 18446744073709551616 (bD 18446744073709551616 xs / 2 ^ m)).length c) (aZ 18446744073709551616 (bD 18446744073709551616 xs / 2 ^ m)).length (cW (aZ 18446744073709551616 (bD 18446744073709551616 xs / 2 ^ m))) ∧ Below w.heap.size w w' := by
 have hl := hx.1
 rw [a5] at hl
 have hh := Hp.start w
 have hs1 : ((m : Int) % 64).toNat = m % 64 := by omega
 have hW : (18446744073709551616 : Nat) = 2 ^ 64 := by decide
 have hmm : 2 ^ m = 18446744073709551616 ^ (m / 64) * 2 ^ (m % 64) := by
  rw [hW, ← Nat.pow_mul, ← Nat.pow_add]; congr 1; omega
 have hlt := gl hd
 rw [show xs.length = n by omega] at hlt
 by_cases hbig : n ≤ m / 64
 ·have h0 : bD 18446744073709551616 xs / 2 ^ m = 0 := by
   apply Nat.div_eq_of_lt
   refine Nat.lt_of_lt_of_le hlt (Nat.le_trans (Nat.pow_le_pow_right (by decide) hbig) ?_)
   rw [hmm]
   exact Nat.le_mul_of_pos_right _ (Nat.pow_pos (by omega))
  refine ak (N := 61) (l := [.slice A n c, .int .i64 (m : Int)]) Tryz.func274 rfl rfl (by simp) ?_
  refine sr (aL (ae (ah (sr (mI ?_)))))
  refine jd rfl rfl (by omega) (by omega) (by omega) (by decide) ?_
  refine mL (aO ?_)
  refine dn (ae (cT (sr (aL (ae (ao (az ?_)))))))
  refine cA ?_
  rw [h0, fu (by omega)]
  exact ⟨none, 0, rfl, World.ownsRow_nil _ _ _ _, hh.below⟩
 ·obtain ⟨ad, rfl, hr⟩ := hx.at_ (by omega)
  have hsd := hx.Bz (k := m / 64) (by omega)
  have hget : ∀ j, j < n → xs[j]? = some (bD 18446744073709551616 xs / 18446744073709551616 ^ j % 18446744073709551616) := fun j hj => by
   obtain ⟨d, hdj⟩ := aD (l := xs) (k := j) (by omega)
   rw [hdj, nA hd hdj]
  refine ak (N := 61) (l := [.slice (some ad) n c, .int .i64 (m : Int)]) Tryz.func274 rfl rfl (by simp) ?_
  refine sr (aL (ae (ah (sr (mI ?_)))))
  refine jd rfl rfl (by omega) (by omega) (by omega) (by decide) ?_
  refine mL (aO ?_)
  refine dn (ae (cF (aj (ai (sr (mL (mI ?_)))))))
  refine jd rfl rfl (by omega) (by omega) (by omega) (by decide) ?_
  first | refine o9 (l := m / 64) aF.out aC.size rfl rfl (by omega) (by omega) (by omega) (by omega) (by decide) ?_ | refine nj (l := m / 64) aF.out aC.size rfl rfl (by omega) (by omega) (by omega) (by omega) (by decide) ?_
  refine aV (kU _ _ _ 0 _ _ hsd (by omega) (by omega)) av.out rfl (by decide) ?_
  rintro e_ w_ ⟨b16, rfl, hown_, hb_⟩
  refine ⟨_, rfl, ?_⟩
  replace hh := hh.bk (x := .row _ _ _ _ _ _) hb_ hown_
  rw [Nat.zero_max, Nat.sub_self, List.replicate_zero, List.append_nil] at hh
  rw [Nat.zero_max]
  refine aL (ae (ah (sr (mL (aO (mI (ae (al ?_))))))))
  refine bs [6, 19, 20, 21, 22, 23, 24, 25, 26, 27, 28, 29, 30, 31, 32, 33, 34, 35, 36, 37, 38, 39, 40, 41, 42, 43, 44, 45, 46, 47, 48, 49, 50, 51, 52, 53, 54, 55, 56, 57, 58] 19
   (fun v w' => ∃ i : Nat, i ≤ n - m / 64 ∧ v = .int .i64 i ∧ Hp w [.row (some ⟨b16, 0, none⟩) (n - m / 64) (n - m / 64) 221 1 (cW (bT 18446744073709551616 i (bD 18446744073709551616 xs / 2 ^ m) ++ xs.drop (m / 64 + i)))] w')
   (fun v _ => (n - m / 64) - (intOf v).toNat) ?_ ?_
  ·exact ⟨0, Nat.zero_le _, rfl, hh⟩
  ·clear hh
   rintro ρ' v w' ⟨i, hi, rfl, hh⟩
   by_cases hlt2 : i < n - m / 64
   ·have hgi := hget (m / 64 + i) (by omega)
    have hdr : xs.drop (m / 64 + i) = (bD 18446744073709551616 xs / 18446744073709551616 ^ (m / 64 + i) % 18446744073709551616) :: xs.drop (m / 64 + i + 1) := by
     rw [List.drop_eq_getElem_cons (by omega)]
     congr 1
     have := List.getElem?_eq_some_iff.1 hgi
     exact this.2
    have hcell : (bT 18446744073709551616 i (bD 18446744073709551616 xs / 2 ^ m) ++ xs.drop (m / 64 + i))[i]? = some (bD 18446744073709551616 xs / 18446744073709551616 ^ (m / 64 + i) % 18446744073709551616) := by
     rw [List.getElem?_append_right (by rw [aY]; omega), aY, hdr]; simp
    have hg := ea hcell
    have hset : ∀ y, (bT 18446744073709551616 i (bD 18446744073709551616 xs / 2 ^ m) ++ xs.drop (m / 64 + i)).set i y = bT 18446744073709551616 i (bD 18446744073709551616 xs / 2 ^ m) ++ y :: xs.drop (m / 64 + i + 1) := fun y => by
     rw [hdr, List.set_append_right _ _ (by rw [aY]; omega), aY, Nat.sub_self, List.set_cons_zero]
    have hll : (bT 18446744073709551616 i (bD 18446744073709551616 xs / 2 ^ m) ++ xs.drop (m / 64 + i)).length = n - m / 64 := by rw [List.length_append, aY, List.length_drop]; omega
    have hac : ∀ y, bT 18446744073709551616 i (bD 18446744073709551616 xs / 2 ^ m) ++ y :: xs.drop (m / 64 + i + 1) = (bT 18446744073709551616 i (bD 18446744073709551616 xs / 2 ^ m) ++ [y]) ++ xs.drop (m / 64 + (i + 1)) := fun y => List.append_cons _ _ _
    have hnew : bT 18446744073709551616 (i + 1) (bD 18446744073709551616 xs / 2 ^ m) = bT 18446744073709551616 i (bD 18446744073709551616 xs / 2 ^ m) ++ [bD 18446744073709551616 xs / 2 ^ (64 * (m / 64 + i) + m % 64) % 18446744073709551616] := by
     rw [jl, Nat.div_div_eq_div_mul]
     congr 4
     rw [hW, ← Nat.pow_mul, ← Nat.pow_add]; congr 1; omega
    refine sr ?_
    refine aU (ae (ah (cT (aj (ai (ah (al (sr (mI (aI (ae ?_)))))))))))
    refine sr (mL (mI ?_))
    refine bp (k := i) aF.out aC.size rfl rfl (by omega) (by omega) (by decide) ?_
    refine bh aC.out rfl (hh.cI (i := 0) rfl (by first | assumption | (simp only [Nat.mul_one]; assumption))) (by decide) ?_
    refine mI ?_
    refine jY rfl rfl (by omega) (by omega) (by decide) ?_
    refine uj rfl rfl (by omega) (by decide) ?_
    refine bp (k := i) aF.out aC.size rfl rfl (by omega) (by omega) (by decide) ?_
    refine bP hh (i := 0) (vs := [_]) rfl rfl (cb rfl) rfl aC.out rfl (by rw [a5, hll]; omega) rfl ?_
    intro ws hh
    simp only [List.set_cons_zero] at hh
    rw [hs1, Nat.mul_one, cz (by rw [a5, hll]; omega), fg, hset] at hh
    by_cases h0 : m % 64 = 0
    ·have e1 : bD 18446744073709551616 xs / 18446744073709551616 ^ (m / 64 + i) % 18446744073709551616 / 2 ^ (m % 64) = bD 18446744073709551616 xs / 2 ^ (64 * (m / 64 + i) + m % 64) % 18446744073709551616 := by
      rw [h0, Nat.pow_zero, Nat.div_one, Nat.add_zero, Nat.pow_mul, ← hW]
     by_cases hl : i + 1 < n - m / 64
     ·refine ae (sr (mI ?_))
      refine bL (mL (aO ?_))
      refine aU (mB ?_)
      first | refine gS ?_ | (refine gT ?_; refine mI ?_) | refine gV ?_
      first | refine gS ?_ | (refine gT ?_; refine jY rfl rfl (by omega) (by omega) (by decide) ?_) | refine gV ?_
      first | refine gS ?_ | (refine gT ?_; refine bY ?_) | refine gV ?_
      first | refine cR ?_ | refine cQ ?_
      refine ae (cF (aj (aW (ai (aq ?_)))))
      refine bL (mI (aE (ai ?_)))
      rw [e1, hac, ← hnew] at hh
      refine ⟨⟨i + 1, by omega, rfl, hh⟩, by show (n - m / 64) - (i + 1) < (n - m / 64) - i; omega, ?_⟩
      (repeat (first | exact aw _ _ _ | refine ax rfl ?_ | refine ar rfl ?_))
     ·refine ae (sr (mI ?_))
      refine bL (mL (aO ?_))
      refine aU (mB ?_)
      first | refine gS ?_ | (refine gT ?_; refine mI ?_) | refine gV ?_
      first | refine gS ?_ | (refine gT ?_; refine jY rfl rfl (by omega) (by omega) (by decide) ?_) | refine gV ?_
      first | refine gS ?_ | (refine gT ?_; refine bY ?_) | refine gV ?_
      first | refine cR ?_ | refine cQ ?_
      refine ae (cF (aj (aW (ai (aq ?_)))))
      refine bL (mI (aE (ai ?_)))
      rw [e1, hac, ← hnew] at hh
      refine ⟨⟨i + 1, by omega, rfl, hh⟩, by show (n - m / 64) - (i + 1) < (n - m / 64) - i; omega, ?_⟩
      (repeat (first | exact aw _ _ _ | refine ax rfl ?_ | refine ar rfl ?_))
    ·by_cases hl : i + 1 < n - m / 64
     ·have hgj := hget (m / 64 + i + 1) (by omega)
      have hgj2 := ea hgj
      obtain ⟨d1, d2⟩ := xa (N := bD 18446744073709551616 xs) (j := m / 64 + i) (s := m % 64) (Nat.mod_lt _ (by omega)) (by omega)
      have hcell2 : (bT 18446744073709551616 i (bD 18446744073709551616 xs / 2 ^ m) ++ (bD 18446744073709551616 xs / 18446744073709551616 ^ (m / 64 + i) % 18446744073709551616 / 2 ^ (m % 64)) :: xs.drop (m / 64 + i + 1))[i]? = some (bD 18446744073709551616 xs / 18446744073709551616 ^ (m / 64 + i) % 18446744073709551616 / 2 ^ (m % 64)) := by
       rw [List.getElem?_append_right (by rw [aY]; omega), aY]; simp
      have hg2 := ea hcell2
      have hset2 : ∀ y z, (bT 18446744073709551616 i (bD 18446744073709551616 xs / 2 ^ m) ++ y :: xs.drop (m / 64 + i + 1)).set i z = bT 18446744073709551616 i (bD 18446744073709551616 xs / 2 ^ m) ++ z :: xs.drop (m / 64 + i + 1) := fun y z => by
       rw [List.set_append_right _ _ (by rw [aY]; omega), aY, Nat.sub_self, List.set_cons_zero]
      have hll2 : ∀ y, (bT 18446744073709551616 i (bD 18446744073709551616 xs / 2 ^ m) ++ y :: xs.drop (m / 64 + i + 1)).length = n - m / 64 := fun y => by rw [List.length_append, aY, List.length_cons, List.length_drop]; omega
      have hs2 : (64 - (m : Int) % 64).toNat = 64 - m % 64 := by omega
      have b1 : bD 18446744073709551616 xs / 18446744073709551616 ^ (m / 64 + i) % 18446744073709551616 / 2 ^ (m % 64) < 18446744073709551616 := Nat.lt_of_le_of_lt (Nat.div_le_self _ _) (Nat.mod_lt _ (by omega))
      have b2 : bD 18446744073709551616 xs / 18446744073709551616 ^ (m / 64 + i + 1) % 18446744073709551616 * 2 ^ (64 - (m : Int) % 64).toNat % 18446744073709551616 < 18446744073709551616 := Nat.mod_lt _ (by omega)
      refine ae (sr (mI ?_))
      refine bL (mL (aO ?_))
      refine aU (mB ?_)
      first | refine gS ?_ | (refine gT ?_; refine mI ?_) | refine gV ?_
      first | refine gS ?_ | (refine gT ?_; refine jY rfl rfl (by omega) (by omega) (by decide) ?_) | refine gV ?_
      first | refine gS ?_ | (refine gT ?_; refine bY ?_) | refine gV ?_
      first | refine cR ?_ | refine cQ ?_
      refine ae (cT ?_)
      refine aX 16 [[(5, none)], [(6, none)], [(40, some 0), (41, some 1)], [(42, some 2)], [(0, none)], [(1, none)], [(45, some 5)], [(6, none)], [(46, some 6), (47, some 7)], [(48, some 8)], [(44, some 4), (49, some 9)], [(50, some 10)], [(1, none)], [(52, some 12)], [(53, some 13)], [(51, some 11), (54, some 14)]] [(15, 55), (14, 54), (13, 53), (12, 52), (11, 51), (10, 50), (9, 49), (8, 48), (7, 47), (6, 46), (5, 45), (4, 44), (3, 43), (2, 42), (1, 41), (0, 40)] hh mixed (by kernel_rfl) ?_
      refine fN ?_
      refine eb ?_
      refine AH (i) ?_
      refine bq (i := 3) (fun ρ1 w1 hj hR => ic aC.out (show ρ1 42 = Value.pointer _ from hR.1) (hj.hp.cI (i := 0) rfl (by rw [Nat.mul_one]; exact hg2))) ?_
      refine fN ?_
      refine eb ?_
      refine bq (i := 6) (fun ρ1 w1 hj hR => qO (show ρ1 45 = Value.int _ _ from hR.1) rfl (by omega) (by omega) (by omega)) ?_
      refine eb ?_
      refine uB ?_
      refine uB ?_
      refine iA (m / 64 + i + 1) ?_
      refine hU (fun _ hj => (hr.ext hj.hp.below).nJ hgj2) ?_
      refine eb ?_
      refine bq (i := 13) (fun ρ1 w1 hj hR => mQ (show ρ1 52 = Value.int _ _ from hR.1) rfl (by omega) (by omega)) ?_
      refine jU ?_
      refine bq (i := 15) (fun ρ1 w1 hj hR => rH (show ρ1 51 = Value.int _ _ from hR.1) (show ρ1 54 = Value.int _ _ from hR.2.1) (by omega)) ?_
      refine a0 ?_
      intro f W hJ hV
      have hb_9 := hJ.bl
      obtain ⟨v55, v54, v53, v52, v51, v50, v49, v48, v47, v46, v45, v44, v43, v42, v41, v40, _⟩ := hV
      replace hh := hJ.hp
      refine aN (a4 (aa v55 (aa v54 (aa v53 (aa v52 (aa v51 (aa v50 (aa v49 (aa v48 (aa v47 (aa v46 (aa v45 (aa v44 (aa v43 (aa v42 (aa v41 (aa v40 aM))))))))))))))))) ?_
      dsimp only [ca]
      clear hJ
      refine vC rfl rfl (by first | assumption | omega) (by first | assumption | omega) (by decide) ?_
      refine bp (k := i) aF.out aC.size rfl rfl (by omega) (by omega) (by decide) ?_
      refine bP hh (i := 0) (vs := [_]) rfl rfl (cb rfl) rfl aC.out rfl (by rw [a5, hll2]; omega) rfl ?_
      intro ws hh
      simp only [List.set_cons_zero] at hh
      rw [hs2, d2, Nat.mul_one, cz (by rw [a5, hll2]; omega), fg, hset2, hac, ← hnew] at hh
      refine aE (aW (ai (aq ?_)))
      refine bL (mI (aE (ai ?_)))
      refine ⟨⟨i + 1, by omega, rfl, hh⟩, by show (n - m / 64) - (i + 1) < (n - m / 64) - i; omega, ?_⟩
      (repeat (first | exact aw _ _ _ | refine ax rfl ?_ | refine ar rfl ?_))
     ·have e1 : bD 18446744073709551616 xs / 18446744073709551616 ^ (m / 64 + i) % 18446744073709551616 / 2 ^ (m % 64) = bD 18446744073709551616 xs / 2 ^ (64 * (m / 64 + i) + m % 64) % 18446744073709551616 := by
       obtain ⟨h2, h3⟩ := qy (bD 18446744073709551616 xs) (m / 64 + i) (m % 64) (Nat.mod_lt _ (by omega)) (by omega)
       have h4 : bD 18446744073709551616 xs / 18446744073709551616 ^ (m / 64 + i + 1) = 0 := Nat.div_eq_of_lt (Nat.lt_of_lt_of_le hlt (Nat.pow_le_pow_right (by decide) (by omega)))
       rw [h4] at h3
       simpa using h3
      refine ae (sr (mI ?_))
      refine bL (mL (aO ?_))
      refine aU (mB ?_)
      first | refine gS ?_ | (refine gT ?_; refine mI ?_) | refine gV ?_
      first | refine gS ?_ | (refine gT ?_; refine jY rfl rfl (by omega) (by omega) (by decide) ?_) | refine gV ?_
      first | refine gS ?_ | (refine gT ?_; refine bY ?_) | refine gV ?_
      first | refine cR ?_ | refine cQ ?_
      refine ae (cF (aj (aW (ai (aq ?_)))))
      refine bL (mI (aE (ai ?_)))
      rw [e1, hac, ← hnew] at hh
      refine ⟨⟨i + 1, by omega, rfl, hh⟩, by show (n - m / 64) - (i + 1) < (n - m / 64) - i; omega, ?_⟩
      (repeat (first | exact aw _ _ _ | refine ax rfl ?_ | refine ar rfl ?_))
   ·obtain rfl : i = n - m / 64 := by omega
    rw [List.drop_eq_nil_of_le (by omega), List.append_nil] at hh
    refine sr ?_
    refine aU (ae (ah (cF ?_)))
    refine aP ?_
    refine ay (ay (a6 (ai (sr (mL ?_)))))
    refine bG hh (fZ _ _ _ (bT 18446744073709551616 (n - m / 64) (bD 18446744073709551616 xs / 2 ^ m)) _ (hh.aK (i := 0) rfl) (Nat.le_refl _) (by omega)) rfl ?_
    intro w60 hh
    refine aL (ae (ao ?_))
    refine cA ?_
    have hbd : bD 18446744073709551616 xs / 2 ^ m < 18446744073709551616 ^ (n - m / 64) := by
     rw [Nat.div_lt_iff_lt_mul (Nat.pow_pos (by omega)), hmm, ← Nat.mul_assoc, ← Nat.pow_add, show n - m / 64 + m / 64 = n by omega]
     exact Nat.lt_of_lt_of_le hlt (Nat.le_mul_of_pos_right _ (Nat.pow_pos (by omega)))
    have hd : dI (bT 18446744073709551616 (n - m / 64) (bD 18446744073709551616 xs / 2 ^ m)) = aZ 18446744073709551616 (bD 18446744073709551616 xs / 2 ^ m) := by
     rw [eT (by omega) (ec (by omega) _ _), cu hbd]
    have h1 := (Hp.vl (xs := bT 18446744073709551616 (n - m / 64) (bD 18446744073709551616 xs / 2 ^ m)) hh (aY _ _)).at_ (i := 0) rfl
    rw [hd] at h1
    rw [hd]
    exact ⟨_, _, rfl, h1, hh.below⟩
end Go.Proofs.YtaapkaefelhfcaaGreatDoor
namespace Go.Proofs.YtaapkaefelhfcaaGreatDoor
open Go.RowKit
def bN (a : ByteArray) : Nat := bn a.data.toList
def sN (n : Nat) : ByteArray := str (sb n)
theorem eD (n : Nat) : bN (sN n) = n := by rw [bN, sN, dm, Ck]
theorem gN (n : Nat) : (sN n).size = (bM n + 7) / 8 := by rw [sN, eh, wW, uy]
theorem u2 {a b : Nat} (h : sN a = sN b) : a = b := by rw [← eD a, h, eD]
theorem hZ : sN 0 = ByteArray.mk #[] := by rw [sN, zr]; rfl
theorem qt (a : ByteArray) : bN a < 256 ^ a.size := by rw [cw]; exact AW _
theorem eJ (a : ByteArray) : bM (bN a) ≤ 8 * a.size := by
 apply du
 have := qt a
 rwa [show (256 : Nat) = 2 ^ 8 from rfl, ← Nat.pow_mul] at this
theorem wN {n k : Nat} (h : n < 256 ^ k) : (aZ 18446744073709551616 n).length ≤ (k + 7) / 8 := by
 apply fW (by omega)
 refine Nat.lt_of_lt_of_le h ?_
 rw [show (256 : Nat) = 2 ^ 8 from rfl, show (18446744073709551616 : Nat) = 2 ^ 64 from rfl, ← Nat.pow_mul, ← Nat.pow_mul]
 exact Nat.pow_le_pow_right (by omega) (by omega)
theorem fo (a : ByteArray) : (aZ 18446744073709551616 (bN a)).length ≤ (a.size + 7) / 8 := wN (qt a)
theorem fG (n : Nat) : Dg 18446744073709551616 (aZ 18446744073709551616 n) := (dw (by omega) n).1
theorem fv (n : Nat) : bD 18446744073709551616 (aZ 18446744073709551616 n) = n := dK (by omega) n
theorem dr (a : ByteArray) (w : World) (ha : a.size ≤ 1000000000) :
  Calls Tryz.prog 250 #[.string a] w fun e w' => ∃ b c, e = .returned (.slice (some ⟨b, 0, none⟩) (aZ 18446744073709551616 (bN a)).length c) ∧ w'.ownsRow w.heap.size 221 1 (.slice (some ⟨b, 0, none⟩) (aZ 18446744073709551616 (bN a)).length c) (aZ 18446744073709551616 (bN a)).length (cW (aZ 18446744073709551616 (bN a))) ∧ Below w.heap.size w w' := wE a w (by omega)
theorem m7 (n : Nat) (w : World) (hn : n < 18446744073709551616) :
  Calls Tryz.prog 229 #[.int .u64 (n : Int)] w fun e w' => e = .returned (.string (sN n)) ∧ Below w.heap.size w w' := by
 have hh := Hp.start w
 refine ak (N := 6) (l := [.int .u64 (n : Int)]) Tryz.func229 rfl rfl (by simp) ?_
 refine sr (aS (ae (sr (mI ?_))))
 refine bB hh (cs := [_]) aF.out aC.out (bm (cb rfl) cn) rfl rfl (by decide) (by decide) (by decide) rfl (by decide) ?_
 intro b4 w4 hh
 refine bG hh (gd _ _ _ [n] _ (hh.aK (i := 0) rfl) (Dg.cons hn Dg.nil) (Nat.le_refl _) (by omega)) rfl ?_
 intro w5 hh
 refine aS (ae (ao ?_))
 refine cA ?_
 refine ⟨?_, hh.below⟩
 rw [sN]
 simp [bD]
theorem rJ (a b : ByteArray) (w : World) (ha : a.size ≤ 1000000000) (hb : b.size ≤ 1000000000) :
  Calls Tryz.prog 278 #[.string a, .string b] w fun e w' => e = .returned (.int .i64 (ju (bN a) (bN b))) ∧ Below w.heap.size w w' := by
 have hh := Hp.start w
 have h1 := fo a
 have h2 := fo b
 refine ak (N := 10) (l := [.string a, .string b]) Tryz.func278 rfl rfl (by simp) ?_
 refine sr (aI (ae (sr (mS ?_))))
 refine aV (dr a _ ha) av.out rfl (by decide) ?_
 rintro e_ w6 ⟨A6, c6, rfl, hown_, hb_⟩
 refine ⟨_, rfl, ?_⟩
 replace hh := hh.bk (x := .row _ _ _ _ _ _) hb_ hown_
 refine mS ?_
 refine aV (dr b _ hb) av.out rfl (by decide) ?_
 rintro e_ w8 ⟨A8, c8, rfl, hown_, hb_⟩
 refine ⟨_, rfl, ?_⟩
 replace hh := hh.bk (x := .row _ _ _ _ _ _) hb_ hown_
 refine bG hh (lv _ _ _ _ _ _ (aZ 18446744073709551616 (bN a)) (aZ 18446744073709551616 (bN b)) _ (hh.aK (i := 1) rfl) (hh.aK (i := 0) rfl) (fG _) (fG _) (hh.dv (i := 1) rfl) (hh.dv (i := 0) rfl) (by omega) (by omega)) rfl ?_
 intro w9 hh
 rw [fv, fv]
 refine aI (ae (ao ?_))
 refine cA ?_
 exact ⟨rfl, hh.below⟩
theorem jK (a : ByteArray) (w : World) (ha : a.size ≤ 1000000000) :
  Calls Tryz.prog 254 #[.string a] w fun e w' => e = .returned (.int .i64 (bM (bN a))) ∧ Below w.heap.size w w' := by
 have hh := Hp.start w
 have h1 := fo a
 refine ak (N := 6) (l := [.string a]) Tryz.func254 rfl rfl (by simp) ?_
 refine sr (aI (ae (sr (mS ?_))))
 refine aV (dr a _ ha) av.out rfl (by decide) ?_
 rintro e_ w4 ⟨A4, c4, rfl, hown_, hb_⟩
 refine ⟨_, rfl, ?_⟩
 replace hh := hh.bk (x := .row _ _ _ _ _ _) hb_ hown_
 refine bG hh (oK _ _ _ (aZ 18446744073709551616 (bN a)) _ (hh.aK (i := 0) rfl) (fG _) (hh.dv (i := 0) rfl) (by omega)) rfl ?_
 intro w5 hh
 rw [fv]
 refine aI (ae (ao ?_))
 refine cA ?_
 exact ⟨rfl, hh.below⟩
theorem gy (n m : Nat) : bM (n * 2 ^ m) ≤ bM n + m := by
 apply du
 rw [Nat.pow_add]
 exact Nat.mul_lt_mul_of_pos_right (df n) (Nat.pow_pos (by omega))
theorem pw (n : Nat) : (aZ 18446744073709551616 n).length ≤ (bM n + 63) / 64 := by
 apply fW (by omega)
 refine Nat.lt_of_lt_of_le (df n) ?_
 rw [show (18446744073709551616 : Nat) = 2 ^ 64 from rfl, ← Nat.pow_mul]
 exact Nat.pow_le_pow_right (by omega) (by omega)
theorem rm (a : ByteArray) (m : Nat) (w : World) (ha : a.size ≤ 1000000000) (hm : m ≤ 10000000000) :
  Calls Tryz.prog 252 #[.string a, .int .i64 (m : Int)] w fun e w' => e = .returned (.string (sN (bN a * 2 ^ m))) ∧ Below w.heap.size w w' := by
 have hh := Hp.start w
 have h1 := fo a
 have h2 := pw (bN a * 2 ^ m)
 have h3 := gy (bN a) m
 have h4 := eJ a
 have e1 : (if (0 : Int) > (m : Int) then 0 else (m : Int)) = m := if_neg (by omega)
 refine ak (N := 11) (l := [.string a, .int .i64 (m : Int)]) Tryz.func252 rfl rfl (by simp) ?_
 refine sr (aS (ae (sr (mS ?_))))
 refine aV (dr a _ ha) av.out rfl (by decide) ?_
 rintro e_ w6 ⟨A6, c6, rfl, hown_, hb_⟩
 refine ⟨_, rfl, ?_⟩
 replace hh := hh.bk (x := .row _ _ _ _ _ _) hb_ hown_
 refine mI ?_
 refine kq rfl rfl (by decide) ?_
 rw [e1]
 refine aV (wQ _ _ _ m (aZ 18446744073709551616 (bN a)) _ (hh.aK (i := 0) rfl) (fG _) (by omega) hm) av.out rfl (by decide) ?_
 rintro e_ w9 ⟨A9, c9, rfl, hown_, hb_⟩
 refine ⟨_, rfl, ?_⟩
 replace hh := hh.bk (x := .row _ _ _ _ _ _) hb_ hown_
 rw [fv] at *
 refine bG hh (gd _ _ _ (aZ 18446744073709551616 (bN a * 2 ^ m)) _ (hh.aK (i := 0) rfl) (fG _) (hh.dv (i := 0) rfl) (by omega)) rfl ?_
 intro w10 hh
 rw [fv]
 refine aS (ae (ao ?_))
 refine cA ?_
 exact ⟨rfl, hh.below⟩
theorem mb (n m : Nat) : bM (n / 2 ^ m) ≤ bM n := by
 apply du
 exact Nat.lt_of_le_of_lt (Nat.div_le_self _ _) (df n)
theorem rv (a : ByteArray) (m : Nat) (w : World) (ha : a.size ≤ 1000000000) (hm : m ≤ 1000000000000) :
  Calls Tryz.prog 253 #[.string a, .int .i64 (m : Int)] w fun e w' => e = .returned (.string (sN (bN a / 2 ^ m))) ∧ Below w.heap.size w w' := by
 have hh := Hp.start w
 have h1 := fo a
 have h2 := pw (bN a / 2 ^ m)
 have h3 := mb (bN a) m
 have h4 := eJ a
 have e1 : (if (0 : Int) > (m : Int) then 0 else (m : Int)) = m := if_neg (by omega)
 refine ak (N := 11) (l := [.string a, .int .i64 (m : Int)]) Tryz.func253 rfl rfl (by simp) ?_
 refine sr (aS (ae (sr (mS ?_))))
 refine aV (dr a _ ha) av.out rfl (by decide) ?_
 rintro e_ w6 ⟨A6, c6, rfl, hown_, hb_⟩
 refine ⟨_, rfl, ?_⟩
 replace hh := hh.bk (x := .row _ _ _ _ _ _) hb_ hown_
 refine mI ?_
 refine kq rfl rfl (by decide) ?_
 rw [e1]
 refine aV (tK _ _ _ m (aZ 18446744073709551616 (bN a)) _ (hh.aK (i := 0) rfl) (fG _) (hh.dv (i := 0) rfl) (by omega) hm) av.out rfl (by decide) ?_
 rintro e_ w9 ⟨A9, c9, rfl, hown_, hb_⟩
 refine ⟨_, rfl, ?_⟩
 replace hh := hh.bk (x := .row _ _ _ _ _ _) hb_ hown_
 rw [fv] at *
 refine bG hh (gd _ _ _ (aZ 18446744073709551616 (bN a / 2 ^ m)) _ (hh.aK (i := 0) rfl) (fG _) (hh.dv (i := 0) rfl) (by omega)) rfl ?_
 intro w10 hh
 rw [fv]
 refine aS (ae (ao ?_))
 refine cA ?_
 exact ⟨rfl, hh.below⟩
theorem zW {x y : Nat} (h : y ≤ x) : sa 18446744073709551616 (aZ 18446744073709551616 x) (aZ 18446744073709551616 y) 0 = 0 ∧ bD 18446744073709551616 (nx 18446744073709551616 (aZ 18446744073709551616 x) (aZ 18446744073709551616 y) 0) = x - y := by
 have := yz (B := 18446744073709551616) (by omega) (aZ 18446744073709551616 x) (aZ 18446744073709551616 y) 0 (fG _) (fG _) (by omega) (by rw [fv, fv]; omega)
 rw [fv, fv] at this
 exact ⟨this.2, by omega⟩
theorem lW (a b : ByteArray) (w : World) (ha : a.size ≤ 1000000000) (hb : b.size ≤ 1000000000) :
  Calls Tryz.prog 258 #[.string a, .string b] w fun e w' => e = .returned (.tuple #[.string (sN (bN a - bN b)), .bool (decide (bN b ≤ bN a))]) ∧ Below w.heap.size w w' := by
 have hh := Hp.start w
 have h1 := fo a
 have h2 := fo b
 by_cases hlt : bN a < bN b
 ·refine ak (N := 21) (l := [.string a, .string b]) Tryz.func258 rfl rfl (by simp) ?_
  refine sr (aS (aB (ae (sr (mS ?_)))))
  refine aV (dr a _ ha) av.out rfl (by decide) ?_
  rintro e_ w9 ⟨A9, c9, rfl, hown_, hb_⟩
  refine ⟨_, rfl, ?_⟩
  replace hh := hh.bk (x := .row _ _ _ _ _ _) hb_ hown_
  refine mS ?_
  refine aV (dr b _ hb) av.out rfl (by decide) ?_
  rintro e_ w11 ⟨A11, c11, rfl, hown_, hb_⟩
  refine ⟨_, rfl, ?_⟩
  replace hh := hh.bk (x := .row _ _ _ _ _ _) hb_ hown_
  refine aL (aL (ae (ah (sr (mL (mL ?_))))))
  refine bG hh (lv _ _ _ _ _ _ (aZ 18446744073709551616 (bN a)) (aZ 18446744073709551616 (bN b)) _ (hh.aK (i := 1) rfl) (hh.aK (i := 0) rfl) (fG _) (fG _) (hh.dv (i := 1) rfl) (hh.dv (i := 0) rfl) (by omega) (by omega)) rfl ?_
  intro w14 hh
  rw [fv, fv, jL hlt]
  refine aU (ae (cT (sr (aS (aB (ae (ao (az ?_))))))))
  refine q5 ?_
  rw [Nat.sub_eq_zero_of_le (by omega), decide_eq_false (by omega), hZ]
  exact ⟨rfl, hh.below⟩
 ·obtain ⟨s1, s2⟩ := zW (Nat.le_of_not_lt hlt)
  have hc : ¬ ju (bN a) (bN b) < 0 := by unfold ju; split <;> (try split) <;> omega
  refine ak (N := 21) (l := [.string a, .string b]) Tryz.func258 rfl rfl (by simp) ?_
  refine sr (aS (aB (ae (sr (mS ?_)))))
  refine aV (dr a _ ha) av.out rfl (by decide) ?_
  rintro e_ w9 ⟨A9, c9, rfl, hown_, hb_⟩
  refine ⟨_, rfl, ?_⟩
  replace hh := hh.bk (x := .row _ _ _ _ _ _) hb_ hown_
  refine mS ?_
  refine aV (dr b _ hb) av.out rfl (by decide) ?_
  rintro e_ w11 ⟨A11, c11, rfl, hown_, hb_⟩
  refine ⟨_, rfl, ?_⟩
  replace hh := hh.bk (x := .row _ _ _ _ _ _) hb_ hown_
  refine aL (aL (ae (ah (sr (mL (mL ?_))))))
  refine bG hh (lv _ _ _ _ _ _ (aZ 18446744073709551616 (bN a)) (aZ 18446744073709551616 (bN b)) _ (hh.aK (i := 1) rfl) (hh.aK (i := 0) rfl) (fG _) (fG _) (hh.dv (i := 1) rfl) (hh.dv (i := 0) rfl) (by omega) (by omega)) rfl ?_
  intro w14 hh
  rw [fv, fv]
  refine aU (ae (cF (aj (ai (sr (mL (mL ?_)))))))
  replace hh := hh.front 1 rfl
  rw [← List.append_nil (aZ 18446744073709551616 (bN a)), ← List.nil_append (aZ 18446744073709551616 (bN a))] at hh
  have hll := (hh.zo (i := 0) rfl)
  rw [List.nil_append, List.append_nil] at hll
  refine aV (sC [] (aZ 18446744073709551616 (bN a)) [] (aZ 18446744073709551616 (bN b)) _ hh (fun w1 cs h => h.aK (i := 1) rfl) (fG _) (fG _) (by omega) (by omega) s1) av.out rfl (by decide) ?_
  rintro e_ w_ ⟨rfl, hh⟩
  refine ⟨_, rfl, ?_⟩
  simp only [List.nil_append, List.append_nil] at hh
  refine ae (sr (mL ?_))
  refine bG hh (gd _ _ _ (nx 18446744073709551616 (aZ 18446744073709551616 (bN a)) (aZ 18446744073709551616 (bN b)) 0) _ (hh.aK (i := 0) rfl) (Ad (by omega) _ _ _) (hh.dv (i := 0) rfl) (by omega)) rfl ?_
  intro w20 hh
  rw [s2]
  refine aS (aB (ae (ao ?_)))
  refine q5 ?_
  rw [decide_eq_true (by omega)]
  exact ⟨rfl, hh.below⟩
theorem rV (a b : ByteArray) (w : World) (ha : a.size ≤ 1000000000) (hb : b.size ≤ 1000000000) :
  Calls Tryz.prog 260 #[.string a, .string b] w fun e w' => e = .returned (.string (sN (bN a * bN b))) ∧ Below w.heap.size w w' := by
 have hh := Hp.start w
 have h1 := fo a
 have h2 := fo b
 refine ak (N := 37) (l := [.string a, .string b]) Tryz.func260 rfl rfl (by simp) ?_
 refine sr (aS (ae (sr (mS ?_))))
 refine aV (dr a _ ha) av.out rfl (by decide) ?_
 rintro e_ w11 ⟨A11, c11, rfl, hown_, hb_⟩
 refine ⟨_, rfl, ?_⟩
 replace hh := hh.bk (x := .row _ _ _ _ _ _) hb_ hown_
 refine mS ?_
 refine aV (dr b _ hb) av.out rfl (by decide) ?_
 rintro e_ w13 ⟨A13, c13, rfl, hown_, hb_⟩
 refine ⟨_, rfl, ?_⟩
 replace hh := hh.bk (x := .row _ _ _ _ _ _) hb_ hown_
 have hxd := fG (bN a)
 have hyd := fG (bN b)
 have hX := fv (bN a)
 have hY := fv (bN b)
 generalize aZ 18446744073709551616 (bN a) = xs at *
 generalize aZ 18446744073709551616 (bN b) = ys at *
 refine aL (aL (ae (sr (mL (aO (mL (aO ?_)))))))
 refine bL ?_
 refine bL ?_
 refine gO (n := xs.length + ys.length + 1) hh rfl rfl (by omega) (by omega) aF.out aC.out rfl (by omega) (by omega) (by decide) ?_
 intro b20 w20 hh
 refine aL (ae (ah (sr (mL (aO (mI (ae (al ?_))))))))
 rw [l7] at hh
 refine bs [8, 9, 23, 24, 25, 26, 27, 28, 29, 30, 31, 32, 33, 34] 23
  (fun v w' => ∃ (i : Nat) (L : List Nat), i ≤ xs.length ∧ v = .int .i64 i ∧ Dg 18446744073709551616 L ∧ L.length = xs.length + ys.length + 1 ∧ bD 18446744073709551616 L = bD 18446744073709551616 (xs.take i) * bD 18446744073709551616 ys ∧ Hp w [.row (some ⟨b20, 0, none⟩) (xs.length + ys.length + 1) (xs.length + ys.length + 1) 221 1 (cW L), .row (some ⟨A13, 0, none⟩) ys.length c13 221 1 (cW ys), .row (some ⟨A11, 0, none⟩) xs.length c11 221 1 (cW xs)] w')
  (fun v _ => xs.length - (intOf v).toNat) ?_ ?_
 ·exact ⟨0, _, Nat.zero_le _, rfl, Dg.yg (by omega) _, by simp, by simp [mr, bD], hh⟩
 ·clear hh
  rintro ρ' v w' ⟨i, L, hi, rfl, hLd, hLl, hLv, hh⟩
  by_cases hlt : i < xs.length
  ·obtain ⟨m, hm⟩ := aD (l := xs) (k := i) (by omega)
   have hm2 := ea hm
   have hmw := hxd.at_ hm
   have hpl : (L.take i).length = i := by rw [List.length_take]; omega
   have hsl : (L.drop i).length = xs.length + ys.length + 1 - i := by rw [List.length_drop]; omega
   refine sr ?_
   refine aU (ae (ah (cT (aj (ai (ah (al (sr (mI ?_)))))))))
   refine bp (k := i) aF.out aC.size rfl rfl (by omega) (by omega) (by decide) ?_
   refine bh aC.out rfl (hh.cI (i := 2) rfl (by first | assumption | (simp only [Nat.mul_one]; assumption))) (by decide) ?_
   refine aI (aI (ae (aq (mL (mI ?_)))))
   first | refine o9 (l := i) aF.out aC.size rfl rfl (by omega) (by omega) (by omega) (by omega) (by decide) ?_ | refine nj (l := i) aF.out aC.size rfl rfl (by omega) (by omega) (by omega) (by omega) (by decide) ?_
   refine mL (mI ?_)
   have hc := tm (c' := xs.length + ys.length + 1 - i) (ny := ys.length) (cy := c13) (m := m) (Y := some ⟨A13, 0, none⟩) (L.take i) (L.drop i) [] ys _ (by rw [List.append_nil, List.take_append_drop]; exact hh) (fun w1 cs h => h.aK (i := 1) rfl) (hLd.drop i) hyd hmw (by omega) (by omega)
   rw [hpl, hsl, List.append_nil] at hc
   rw [Nat.zero_add, Nat.mul_one]
   refine aV (hc) av.out rfl (by decide) ?_
   rintro e_ w_ ⟨rfl, hh⟩
   refine ⟨_, rfl, ?_⟩
   have hlt1 := gl (hxd.take (i + 1))
   have hlt2 := gl hyd
   rw [List.length_take, Nat.min_eq_left (by omega)] at hlt1
   have hsn := eA (B := 18446744073709551616) hm
   have hsplit := gP (B := 18446744073709551616) L i (by omega)
   have hnew : 18446744073709551616 ^ i * (bD 18446744073709551616 (L.drop i) + bD 18446744073709551616 ys * m + 0) + bD 18446744073709551616 (L.take i) = bD 18446744073709551616 (xs.take (i + 1)) * bD 18446744073709551616 ys := by
    rw [hsn, Nat.add_mul, ← hLv, hsplit, Nat.add_zero, Nat.mul_add, Nat.mul_assoc, Nat.mul_comm m]; omega
   have hbd : bD 18446744073709551616 (L.drop i) + bD 18446744073709551616 ys * m + 0 < 18446744073709551616 ^ (L.drop i).length := by
    refine Nat.lt_of_mul_lt_mul_left (a := 18446744073709551616 ^ i) ?_
    rw [← Nat.pow_add, hsl]
    refine Nat.lt_of_le_of_lt (Nat.le_add_right _ (bD 18446744073709551616 (L.take i))) ?_
    rw [hnew]
    refine Nat.lt_of_lt_of_le (Nat.mul_lt_mul'' hlt1 hlt2) ?_
    rw [← Nat.pow_add]
    exact Nat.pow_le_pow_right (by decide) (by omega)
   have hdp := qJ (B := 18446744073709551616) (by omega) _ _ _ _ hbd
   refine aE (aW (ai (aq ?_)))
   refine bL (mI (aE (ai ?_)))
   refine ⟨⟨i + 1, L.take i ++ fF 18446744073709551616 (L.drop i) ys m 0, by omega, rfl, (hLd.take i).append (tT (by omega) _ _ _ _), by rw [List.length_append, lC, hpl, hsl]; omega, ?_, hh⟩, by show xs.length - (i + 1) < xs.length - i; omega, ?_⟩
   ·rw [eu, hdp, hpl, Nat.add_comm]; exact hnew
   (repeat (first | exact aw _ _ _ | refine ax rfl ?_ | refine ar rfl ?_))
  ·obtain rfl : i = xs.length := by omega
   rw [List.take_length, hX, hY] at hLv
   refine sr ?_
   refine aU (ae (ah (cF ?_)))
   refine aP ?_
   refine ay (ay (a6 (ai (sr (mL ?_)))))
   refine bG hh (gd _ _ _ L _ (hh.aK (i := 0) rfl) hLd (Nat.le_refl _) (by omega)) rfl ?_
   intro w36 hh
   rw [hLv]
   refine aS (ae (ao ?_))
   refine cA ?_
   exact ⟨rfl, hh.below⟩
theorem zU {n d r k : Nat} (hd : d ≠ 0) (hdw : d < 18446744073709551616) (hn : n = 18446744073709551616 ^ k * (d + 18446744073709551616 * r)) : tz n = 64 * k + tz d := by
 obtain ⟨m, hm⟩ := nG hd
 have ht : tz d < 64 := qD hd (by simpa using hdw)
 have hW : (18446744073709551616 : Nat) = 2 ^ 64 := by decide
 generalize tz d = t at *
 have e : n = 2 ^ (64 * k + t) * (2 * (m + 2 ^ (63 - t) * r) + 1) := by
  rw [hn, Nat.pow_add, Nat.pow_mul, ← hW, Nat.mul_assoc]
  congr 1
  have h1 : 18446744073709551616 = 2 ^ t * (2 * 2 ^ (63 - t)) := by rw [hW, ← Nat.pow_succ', ← Nat.pow_add]; congr 1; omega
  have h2 : 18446744073709551616 * r = 2 ^ t * (2 * 2 ^ (63 - t) * r) := by rw [← Nat.mul_assoc, ← h1]
  rw [h2]
  conv => lhs; rw [hm]
  rw [← Nat.mul_add]
  congr 1
  rw [Nat.mul_add, Nat.mul_assoc]; omega
 rw [e, vn]
theorem iF (a : ByteArray) (w : World) (ha : a.size ≤ 1000000000) (hT : hG w) :
  Calls Tryz.prog 223 #[.string a] w fun e w' => e = .returned (.int .i64 (tz (bN a))) ∧ Below w.heap.size w w' := by
 have hh := Hp.start w
 have h1 := fo a
 refine ak (N := 21) (l := [.string a]) Tryz.func223 rfl rfl (by simp) ?_
 refine sr (aI (ae (ah (sr (mS ?_)))))
 refine aV (dr a _ ha) av.out rfl (by decide) ?_
 rintro e_ w6 ⟨A6, c6, rfl, hown_, hb_⟩
 refine ⟨_, rfl, ?_⟩
 replace hh := hh.bk (x := .row _ _ _ _ _ _) hb_ hown_
 have hxd := fG (bN a)
 have hX := fv (bN a)
 generalize aZ 18446744073709551616 (bN a) = xs at *
 refine aO (mI (ae (al ?_)))
 refine bs [2, 3, 4, 8, 9, 10, 11, 12, 13, 14, 15, 16, 17, 18, 19, 20] 8
  (fun v w' => ∃ (i : Nat), i ≤ xs.length ∧ v = .int .i64 i ∧ bD 18446744073709551616 (xs.take i) = 0 ∧ Hp w [.row (some ⟨A6, 0, none⟩) xs.length c6 221 1 (cW xs)] w')
  (fun v _ => xs.length - (intOf v).toNat) ?_ ?_
 ·exact ⟨0, Nat.zero_le _, rfl, rfl, hh⟩
 ·clear hh
  rintro ρ' v w' ⟨i, hi, rfl, hz, hh⟩
  by_cases hlt : i < xs.length
  ·obtain ⟨d, hm⟩ := aD (l := xs) (k := i) (by omega)
   have hm2 := ea hm
   have hmw := hxd.at_ hm
   by_cases h0 : d = 0
   ·subst h0
    refine sr ?_
    refine aU (ae (ah (cT (aj (ai (ah (al (sr (mI ?_)))))))))
    refine bp (k := i) aF.out aC.size rfl rfl (by omega) (by omega) (by decide) ?_
    refine bh aC.out rfl (hh.cI (i := 0) rfl (by first | assumption | (simp only [Nat.mul_one]; assumption))) (by decide) ?_
    refine aI (aI (ae (sr (mI ?_))))
    refine cE (ae (cF (aj (aW (ai (aq ?_))))))
    refine bL (mI (aE (ai ?_)))
    refine ⟨⟨i + 1, by omega, rfl, by rw [eA hm, hz]; simp, hh⟩, by show xs.length - (i + 1) < xs.length - i; omega, ?_⟩
    (repeat (first | exact aw _ _ _ | refine ax rfl ?_ | refine ar rfl ?_))
   ·have htz : tz (bN a) = 64 * i + tz d := by
     have h3 := gP (B := 18446744073709551616) xs i (by omega)
     have h4 := (List.getElem?_eq_some_iff.1 hm)
     rw [hz, List.drop_eq_getElem_cons hlt, h4.2, bD, hX, Nat.zero_add] at h3
     exact zU h0 hmw h3
    have ht : tz d < 64 := qD h0 (by simpa using hmw)
    refine sr ?_
    refine aU (ae (ah (cT (aj (ai (ah (al (sr (mI ?_)))))))))
    refine bp (k := i) aF.out aC.size rfl rfl (by omega) (by omega) (by decide) ?_
    refine bh aC.out rfl (hh.cI (i := 0) rfl (by first | assumption | (simp only [Nat.mul_one]; assumption))) (by decide) ?_
    refine aI (aI (ae (sr (mI ?_))))
    refine cE (ae (cT (sr (mI ?_))))
    refine mulC (mI ?_)
    refine bG hh (uG _ _ hmw h0 (hT.hp hh)) rfl ?_
    intro w18 hh
    refine bL (aI (ae (ao (br (az (az (br (az ?_))))))))
    refine cA ?_
    refine ⟨?_, hh.below⟩
    congr 2
    omega
  ·refine sr ?_
   refine aU (ae (ah (cF ?_)))
   refine aP ?_
   refine ay (ay (a6 (ai (sr (aI (ae (ao ?_)))))))
   refine cA ?_
   rw [List.take_of_length_le (by omega), hX] at hz
   rw [hz]
   exact ⟨rfl, hh.below⟩
theorem Ag {x y k : Nat} (hx : x < 18446744073709551616 ^ k) (hy : y < 18446744073709551616 ^ k) : bD 18446744073709551616 (fF 18446744073709551616 (aZ 18446744073709551616 x ++ List.replicate (k + 1 - (aZ 18446744073709551616 x).length) 0) (aZ 18446744073709551616 y) 1 0) = x + y := by
 have hl := fW (B := 18446744073709551616) (by omega) hx
 have h1 : bD 18446744073709551616 (aZ 18446744073709551616 x ++ List.replicate (k + 1 - (aZ 18446744073709551616 x).length) 0) = x := by rw [eu, mr, fv]; simp
 have h2 : (aZ 18446744073709551616 x ++ List.replicate (k + 1 - (aZ 18446744073709551616 x).length) 0).length = k + 1 := by rw [List.length_append, List.length_replicate]; omega
 rw [qJ (by omega), h1, fv]
 ·omega
 ·rw [h1, h2, fv, Nat.pow_succ]
  have : 0 < 18446744073709551616 ^ k := Nat.pow_pos (by decide)
  omega
theorem mZ (l : List Nat) (x : Nat) : (l ++ [x]).sum = l.sum + x := by simp
theorem rL (L : Option Addr) (n c : Nat) (ss : List ByteArray) (w : World) (hS : Sl w L n 1 (sJ ss)) (hn : n ≤ 1000000) (hs : ∀ s ∈ ss, s.size ≤ 1000000000) :
  Calls Tryz.prog 256 #[.slice L n c] w fun e w' => e = .returned (.string (sN (ss.map bN).sum)) ∧ Below w.heap.size w w' := by
 have hsl : ss.length = n := by have := hS.1; rw [na] at this; omega
 have hh := Hp.start w
 refine ak (N := 31) (l := [.slice L n c]) Tryz.func256 rfl rfl (by simp) ?_
 refine sr (aS (ae (sr (aL (ae (ah (sr (mL (aO (mI (ae ?_)))))))))))
 refine al ?_
 replace hh := hh.di 221 1
 refine ct [3, 5, 6, 9, 10, 11, 12, 13, 14, 15, 16, 17, 18, 19, 20, 21, 22, 23, 24, 25, 26, 27, 28] 3 9
  (fun v j w' => ∃ (i : Nat) (A : Option Addr) (c' T : Nat), i ≤ n ∧ j = .int .i64 i ∧ T = ((ss.take i).map bN).sum ∧ v = .slice A (aZ 18446744073709551616 T).length c' ∧ (aZ 18446744073709551616 T).length ≤ 125000001 + i ∧ Hp w [.row A (aZ 18446744073709551616 T).length c' 221 1 (cW (aZ 18446744073709551616 T))] w')
  (fun _ j _ => n - (intOf j).toNat) ?_ ?_
 ·exact ⟨0, none, 0, 0, Nat.zero_le _, rfl, rfl, by rw [fu (by omega)]; rfl, by rw [fu (by omega)]; simp, by rw [fu (by omega)]; exact hh⟩
 ·clear hh
  rintro ρ' v j w' ⟨i, A, c', T, hi, rfl, hT, rfl, hTl, hh⟩
  by_cases hlt : i < n
  ·obtain ⟨s, hsi⟩ := aD (l := ss) (k := i) (by omega)
   obtain ⟨ad, rfl, hr⟩ := hS.at_ (by omega)
   have hs2 := vz hsi
   have hsz := hs s (List.mem_of_getElem? hsi)
   have hlx := fo s
   have hT2 : ((ss.take (i + 1)).map bN).sum = T + bN s := by rw [aJ hsi, List.map_append, List.map_singleton, mZ, hT]
   have e1 : (if ((aZ 18446744073709551616 (bN s)).length : Int) > ((aZ 18446744073709551616 T).length : Int) then ((aZ 18446744073709551616 (bN s)).length : Int) else ((aZ 18446744073709551616 T).length : Int)) + 1 = ((max (aZ 18446744073709551616 T).length (aZ 18446744073709551616 (bN s)).length + 1 : Nat) : Int) := by split <;> omega
   have hb1 : T < 18446744073709551616 ^ max (aZ 18446744073709551616 T).length (aZ 18446744073709551616 (bN s)).length := Nat.lt_of_lt_of_le (kF (by omega) T) (Nat.pow_le_pow_right (by decide) (Nat.le_max_left _ _))
   have hb2 : bN s < 18446744073709551616 ^ max (aZ 18446744073709551616 T).length (aZ 18446744073709551616 (bN s)).length := Nat.lt_of_lt_of_le (kF (by omega) (bN s)) (Nat.pow_le_pow_right (by decide) (Nat.le_max_right _ _))
   have hadd := Ag hb1 hb2
   refine sr ?_
   refine aU (ae (ah (cT (aj (ai (ah (al (sr ?_))))))))
   refine aR aF.out aC.size rfl rfl rfl (by omega) (by decide) ?_
   refine bh aC.out rfl ((hr.ext hh.below).nJ (by assumption)) (by decide) ?_
   refine aS (ae (sr (mS ?_)))
   refine aV (dr s _ hsz) av.out rfl (by decide) ?_
   rintro e_ w14 ⟨A14, c14, rfl, hown_, hb_⟩
   refine ⟨_, rfl, ?_⟩
   replace hh := hh.bk (x := .row _ _ _ _ _ _) hb_ hown_
   refine aL (ae (sr (mL (mL (aO (mL (aO ?_)))))))
   refine kq rfl rfl (by decide) ?_
   refine bL ?_
   rw [e1]
   generalize hM : max (aZ 18446744073709551616 T).length (aZ 18446744073709551616 (bN s)).length = M at *
   refine aV (kU _ _ _ (M + 1) _ _ (hh.aK (i := 1) rfl) (by omega) (by omega)) av.out rfl (by decide) ?_
   rintro e_ w_ ⟨b22, rfl, hown_, hb_⟩
   refine ⟨_, rfl, ?_⟩
   replace hh := hh.bk (x := .row _ _ _ _ _ _) hb_ hown_
   have e2 : max (M + 1) (aZ 18446744073709551616 T).length = M + 1 := by omega
   rw [e2] at hh
   rw [e2]
   refine aL (ae (sr (mL (mL ?_))))
   have hc := uz (c' := M + 1) (ny := (aZ 18446744073709551616 (bN s)).length) (cy := c14) (Y := some ⟨A14, 0, none⟩) [] (aZ 18446744073709551616 T ++ List.replicate (M + 1 - (aZ 18446744073709551616 T).length) 0) [] (aZ 18446744073709551616 (bN s)) _ (by rw [List.append_nil, List.nil_append]; exact hh) (fun w1 cs h => h.aK (i := 1) rfl) ((fG _).append (Dg.yg (by omega) _)) (fG _) (by rw [List.length_append, List.length_replicate]; omega) (by omega)
   have e3 : (aZ 18446744073709551616 T ++ List.replicate (M + 1 - (aZ 18446744073709551616 T).length) 0).length = M + 1 := by rw [List.length_append, List.length_replicate]; omega
   rw [e3, List.append_nil, List.nil_append] at hc
   refine aV (hc) av.out rfl (by decide) ?_
   rintro e_ w_ ⟨rfl, hh⟩
   refine ⟨_, rfl, ?_⟩
   have hpl : (fF 18446744073709551616 (aZ 18446744073709551616 T ++ List.replicate (M + 1 - (aZ 18446744073709551616 T).length) 0) (aZ 18446744073709551616 (bN s)) 1 0).length = M + 1 := by rw [lC, e3]
   have hpd := tT (B := 18446744073709551616) (by omega) (aZ 18446744073709551616 T ++ List.replicate (M + 1 - (aZ 18446744073709551616 T).length) 0) (aZ 18446744073709551616 (bN s)) 1 0
   generalize fF 18446744073709551616 (aZ 18446744073709551616 T ++ List.replicate (M + 1 - (aZ 18446744073709551616 T).length) 0) (aZ 18446744073709551616 (bN s)) 1 0 = Z at *
   have hcz : dI Z = aZ 18446744073709551616 (T + bN s) := by rw [eT (by omega) hpd, hadd]
   have hcl := eN Z
   refine ae (aq (mL ?_))
   refine bG hh (fZ _ _ _ Z _ (hh.aK (i := 0) rfl) (Nat.le_refl _) (by omega)) rfl ?_
   intro w27 hh
   replace hh := (hh.vl hpl).sub (List.sublist_append_left [_] _)
   rw [hcz] at *
   refine aL (aE (aW (ai (aq ?_))))
   refine bL (mI (aE (ai ?_)))
   refine ⟨⟨i + 1, _, _, T + bN s, by omega, rfl, hT2.symm, rfl, by omega, hh⟩, by show n - (i + 1) < n - i; omega, ?_⟩
   (repeat (first | exact aw _ _ _ | refine ax rfl ?_ | refine ar rfl ?_))
  ·refine sr ?_
   refine aU (ae (ah (cF ?_)))
   refine aP ?_
   refine ay (ay (a6 (ai (sr (mL ?_)))))
   refine bG hh (gd _ _ _ (aZ 18446744073709551616 T) _ (hh.aK (i := 0) rfl) (fG _) (hh.dv (i := 0) rfl) (by omega)) rfl ?_
   intro w30 hh
   rw [fv]
   refine aS (ae (ao ?_))
   refine cA ?_
   rw [List.take_of_length_le (by omega)] at hT
   rw [hT]
   exact ⟨rfl, hh.below⟩
end Go.Proofs.YtaapkaefelhfcaaGreatDoor
namespace Go.Proofs.YtaapkaefelhfcaaGreatDoor
open Go.RowKit
theorem uY (s : ByteArray) (l h : Nat) : s.extract l h = str ((s.data.toList.take h).drop l) := by
 apply mC
 rw [dm]
 simp [ByteArray.extract, ByteArray.copySlice, List.drop_take]
def BH : Value → Nat
 | .string t => t.size
 | _ => 0
theorem nX (s : ByteArray) (w : World) :
  Calls Tryz.prog 290 #[.string s, .int .u8 ((0 : UInt8).toNat : Int)] w fun e w' => e = .returned (.string (sN (bN s))) ∧ Below w.heap.size w w' := by
 have hh := Hp.start w
 refine ak (N := 17) (l := [.string s, .int .u8 ((0 : UInt8).toNat : Int)]) Tryz.func290 rfl rfl (by simp) ?_
 refine sr (aS (ae (ah (al ?_))))
 refine bs [0, 5, 6, 7, 8, 9, 10, 11, 12, 13, 14, 15] 0
  (fun v w' => ∃ l : List UInt8, v = .string (str l) ∧ l.length ≤ s.size ∧ bn l = bN s ∧ w' = w)
  (fun v _ => BH v) ?_ ?_
 ·exact ⟨s.data.toList, by rw [BG]; rfl, by rw [cw]; exact Nat.le_refl _, rfl, rfl⟩
 ·rintro ρ' v w' ⟨l, rfl, hl, hb, rfl⟩
  have hsz := eh l
  cases l with
  | nil =>
   refine ah (sr (mS ?_))
   refine bg aF.out rfl (by decide) ?_
   refine bY (mB ?_)
   first | refine gS ?_ | (refine gT ?_; refine mS ?_) | refine gV ?_
   first | refine gS ?_ | (refine gT ?_; refine bo aF.out rfl rfl (by omega) (by assumption) (by decide) ?_) | refine gV ?_
   first | refine gS ?_ | (refine gT ?_; refine mI ?_) | refine gV ?_
   first | refine gS ?_ | (refine gT ?_; refine ck ?_) | refine gV ?_
   first | refine cR ?_ | refine cQ ?_
   refine ae (cF ?_)
   refine aP ?_
   refine ay (ay (a6 (ai (sr (mS (aS (ae (ao ?_))))))))
   refine cA ?_
   rw [sN, ← hb]
   exact ⟨rfl, hh.below⟩
  | cons c l =>
   have hc0 : (str (c :: l)).data.toList[(0 : Int).toNat]? = some c := by rw [dm]; rfl
   have hc8 := c.toNat_lt
   have hlen : (str (c :: l)).size = l.length + 1 := by rw [hsz]; rfl
   have hz : (0 : UInt8).toNat = 0 := rfl
   by_cases h0 : c = 0
   ·subst h0
    refine ah (sr (mS ?_))
    refine bg aF.out rfl (by decide) ?_
    refine bY (mB ?_)
    first | refine gS ?_ | (refine gT ?_; refine mS ?_) | refine gV ?_
    first | refine gS ?_ | (refine gT ?_; refine bo aF.out rfl rfl (by omega) (by assumption) (by decide) ?_) | refine gV ?_
    first | refine gS ?_ | (refine gT ?_; refine mI ?_) | refine gV ?_
    first | refine gS ?_ | (refine gT ?_; refine ck ?_) | refine gV ?_
    first | refine cR ?_ | refine cQ ?_
    refine ae (cT (aj (ai (al (aq (mS ?_))))))
    refine nu (l := 1) (h := (str ((0 : UInt8) :: l)).size) aF.out rfl ⟨_, _, rfl, by omega⟩ rfl (by omega) (by omega) (by decide) ?_
    refine aS (aE (aW (ai ?_)))
    rw [uY, dm, List.take_of_length_le (by rw [hlen]; simp), List.drop_succ_cons, List.drop_zero]
    refine ⟨⟨l, rfl, by simp at hl; omega, by rw [← hb, yx], rfl⟩, ?_, ?_⟩
    ·show (str l).size < (str (0 :: l)).size
     rw [hlen, eh]; omega
    (repeat (first | exact aw _ _ _ | refine ax rfl ?_ | refine ar rfl ?_))
   ·have hcn : c.toNat ≠ 0 := fun h => h0 (UInt8.toNat_inj.1 h)
    refine ah (sr (mS ?_))
    refine bg aF.out rfl (by decide) ?_
    refine bY (mB ?_)
    first | refine gS ?_ | (refine gT ?_; refine mS ?_) | refine gV ?_
    first | refine gS ?_ | (refine gT ?_; refine bo aF.out rfl rfl (by omega) (by assumption) (by decide) ?_) | refine gV ?_
    first | refine gS ?_ | (refine gT ?_; refine mI ?_) | refine gV ?_
    first | refine gS ?_ | (refine gT ?_; refine ck ?_) | refine gV ?_
    first | refine cR ?_ | refine cQ ?_
    refine ae (cF ?_)
    refine aP ?_
    refine ay (ay (a6 (ai (sr (mS (aS (ae (ao ?_))))))))
    refine cA ?_
    rw [sN, ← hb, BV (by simpa using h0)]
    exact ⟨rfl, hh.below⟩
theorem ou (s : ByteArray) (w : World) :
  Calls Tryz.prog 281 #[.string s, .string (ByteArray.mk #[0])] w fun e w' => e = .returned (.string (sN (bN s))) ∧ Below w.heap.size w w' := by
 have hh := Hp.start w
 have hne : ¬ ByteArray.mk #[(0 : UInt8)] = ByteArray.mk #[] := by intro h; injection h with h; simp at h
 have hsz1 : (ByteArray.mk #[(0 : UInt8)]).size = 1 := rfl
 have hc0 : (ByteArray.mk #[(0 : UInt8)]).data.toList[(0 : Int).toNat]? = some 0 := rfl
 have hz : (0 : UInt8).toNat = 0 := rfl
 by_cases h0 : s = ByteArray.mk #[]
 ·subst h0
  refine ak (N := 37) (l := [.string (ByteArray.mk #[]), .string (ByteArray.mk #[0])]) Tryz.func281 rfl rfl (by simp) ?_
  refine sr (aS (ae (ah (sr (mS ?_)))))
  first | refine dD rfl rfl (by first | rfl | assumption | decide) (by decide) ?_ | refine dy rfl rfl (by first | assumption | decide) (by decide) ?_
  refine mB ?_
  first | refine gS ?_ | (refine gT ?_; refine mS ?_) | refine gV ?_
  first | refine gS ?_ | (refine gT ?_; (first | refine dD rfl rfl (by first | rfl | assumption | decide) (by decide) ?_ | refine dy rfl rfl (by first | assumption | decide) (by decide) ?_)) | refine gV ?_
  first | refine cR ?_ | refine cQ ?_
  refine ae (cT (sr (mS (aS (ae (ao (az ?_)))))))
  refine cA ?_
  rw [show bN (ByteArray.mk #[]) = 0 from rfl, hZ]
  exact ⟨rfl, hh.below⟩
 ·refine ak (N := 37) (l := [.string s, .string (ByteArray.mk #[0])]) Tryz.func281 rfl rfl (by simp) ?_
  refine sr (aS (ae (ah (sr (mS ?_)))))
  first | refine dD rfl rfl (by first | rfl | assumption | decide) (by decide) ?_ | refine dy rfl rfl (by first | assumption | decide) (by decide) ?_
  refine mB ?_
  first | refine gS ?_ | (refine gT ?_; refine mS ?_) | refine gV ?_
  first | refine gS ?_ | (refine gT ?_; (first | refine dD rfl rfl (by first | rfl | assumption | decide) (by decide) ?_ | refine dy rfl rfl (by first | assumption | decide) (by decide) ?_)) | refine gV ?_
  first | refine cR ?_ | refine cQ ?_
  refine ae (cF (aj (ai (ah (sr (mS ?_))))))
  refine bg aF.out rfl (by decide) ?_
  refine ck (mB ?_)
  first | refine gS ?_ | (refine gT ?_; refine mS ?_) | refine gV ?_
  first | refine gS ?_ | (refine gT ?_; refine bo aF.out rfl rfl (by omega) (by assumption) (by decide) ?_) | refine gV ?_
  first | refine gS ?_ | (refine gT ?_; refine aU ?_) | refine gV ?_
  first | refine cR ?_ | refine cQ ?_
  refine ae (cT (sr (mS (mS ?_))))
  refine bo aF.out rfl rfl (by omega) (by assumption) (by decide) ?_
  refine bG hh (nX s _) rfl ?_
  intro w25 hh
  refine aS (ae (ao (az ?_)))
  refine cA ?_
  exact ⟨rfl, hh.below⟩
theorem jc (s : ByteArray) (w : World) :
  Calls Tryz.prog 259 #[.string s] w fun e w' => e = .returned (.string (sN (bN s))) ∧ Below w.heap.size w w' := by
 have hh := Hp.start w
 refine ak (N := 5) (l := [.string s]) Tryz.func259 rfl rfl (by simp) ?_
 refine sr (aS (ae (sr (mS ?_))))
 refine bG hh (ou s _) rfl ?_
 intro w4 hh
 refine aS (ae (ao ?_))
 refine cA ?_
 exact ⟨rfl, hh.below⟩
end Go.Proofs.YtaapkaefelhfcaaGreatDoor
/- Several texts in one: Whole, WholeB, WholeC, Dy. -/
namespace Go.Proofs.YtaapkaefelhfcaaGreatDoor
open Go.RowKit
def iv (s : Bool) (m : ByteArray) : Int := if s then -(bN m : Int) else bN m
def iN (z : Int) : Bool := decide (z < 0)
def iM (z : Int) : ByteArray := sN z.natAbs
theorem fC (z : Int) : iv (iN z) (iM z) = z := by
 unfold iv iN iM
 rw [eD]
 by_cases h : z < 0
 ·rw [decide_eq_true h, if_pos rfl]; omega
 ·rw [decide_eq_false h, if_neg (by simp)]; omega
theorem nE {z : Int} : iM z = ByteArray.mk #[] ↔ z = 0 := by
 rw [iM, ← hZ]
 constructor
 ·intro h; have := u2 h; omega
 ·intro h; rw [h]; rfl
theorem gJ (s : Bool) (m : ByteArray) : (iv s m).natAbs = bN m := by
 unfold iv; split <;> omega
theorem vA (s : Bool) (m : ByteArray) : iM (iv s m) = sN (bN m) := by rw [iM, gJ]
theorem AK (s : Bool) (m : ByteArray) : iN (iv s m) = (s && decide (bN m ≠ 0)) := by
 unfold iN iv
 rw [Bool.eq_iff_iff, Bool.and_eq_true, decide_eq_true_eq, decide_eq_true_eq]
 cases s
 ·simp only [Bool.false_eq_true, if_false, false_and, iff_false]; omega
 ·simp only [if_true, true_and]; omega
theorem kr (s : Bool) (m : ByteArray) (w : World) :
  Calls Tryz.prog 226 #[.agg #[.bool s, .string m]] w fun e w' => e = .returned (.agg #[.string m, .bool s]) ∧ Below w.heap.size w w' := by
 have hh := Hp.start w
 refine ak (N := 8) (l := [.agg #[.bool s, .string m]]) Tryz.func226 rfl rfl (by simp) ?_
 refine sr ?_
 refine cK hh [_,_] ?_
 intro b1 w1 hh
 refine cv hh ?_
 intro b2 w2 hh
 refine ae (sr (bC ?_))
 refine bH hh 1 ?_
 refine bC ?_
 refine bH hh 1 ?_
 refine ep [_,_] ?_
 refine bE hh 0 [_,_] ?_
 intro ws hh
 replace hh : Hp _ (.blk _ _ [_, _] _ :: _) _ := hh
 refine ae (ao ?_)
 refine gI (aG rfl (aH (vs := [_, _]) aC.out (hh.au (i := 0) (n := 2) rfl rfl) rfl) a7) ?_
 exact ⟨rfl, hh.below⟩
theorem dz (s : Bool) (m : ByteArray) (w : World) :
  Calls Tryz.prog 227 #[.agg #[.string m, .bool s]] w fun e w' => e = .returned (.agg #[.bool (iN (iv s m)), .string (iM (iv s m))]) ∧ Below w.heap.size w w' := by
 have hh := Hp.start w
 rw [AK, vA]
 cases s with
 | false =>
  refine ak (N := 15) (l := [.agg #[.string m, .bool false]]) Tryz.func227 rfl rfl (by simp) ?_
  refine sr ?_
  refine cK hh [_,_] ?_
  intro b1 w1 hh
  refine cv hh ?_
  intro b2 w2 hh
  refine ae (sr (bC ?_))
  refine bH hh 1 ?_
  refine bG hh (jc m _) rfl ?_
  intro w6 hh
  refine aS (ae (sr (bC ?_)))
  refine bH hh 1 ?_
  refine mB ?_
  first | refine gS ?_ | (refine gT ?_; refine mS ?_) | refine gV ?_
  first | refine gS ?_ | (refine gT ?_; (first | refine gf rfl rfl (by first | rfl | assumption | decide) (by decide) ?_ | refine fV rfl rfl (by first | assumption | decide) (by decide) ?_)) | refine gV ?_
  first | refine cR ?_ | refine cQ ?_
  refine mS ?_
  refine ep [_,_] ?_
  refine bE hh 0 [_,_] ?_
  intro ws hh
  replace hh : Hp _ (.blk _ _ [_, _] _ :: _) _ := hh
  refine ae (ao ?_)
  refine gI (aG rfl (aH (vs := [_, _]) aC.out (hh.au (i := 0) (n := 2) rfl rfl) rfl) a7) ?_
  exact ⟨rfl, hh.below⟩
 | true =>
  by_cases h0 : sN (bN m) = ByteArray.mk #[]
  ·refine ak (N := 15) (l := [.agg #[.string m, .bool true]]) Tryz.func227 rfl rfl (by simp) ?_
   refine sr ?_
   refine cK hh [_,_] ?_
   intro b1 w1 hh
   refine cv hh ?_
   intro b2 w2 hh
   refine ae (sr (bC ?_))
   refine bH hh 1 ?_
   refine bG hh (jc m _) rfl ?_
   intro w6 hh
   refine aS (ae (sr (bC ?_)))
   refine bH hh 1 ?_
   refine mB ?_
   first | refine gS ?_ | (refine gT ?_; refine mS ?_) | refine gV ?_
   first | refine gS ?_ | (refine gT ?_; (first | refine gf rfl rfl (by first | rfl | assumption | decide) (by decide) ?_ | refine fV rfl rfl (by first | assumption | decide) (by decide) ?_)) | refine gV ?_
   first | refine cR ?_ | refine cQ ?_
   refine mS ?_
   refine ep [_,_] ?_
   refine bE hh 0 [_,_] ?_
   intro ws hh
   replace hh : Hp _ (.blk _ _ [_, _] _ :: _) _ := hh
   refine ae (ao ?_)
   refine gI (aG rfl (aH (vs := [_, _]) aC.out (hh.au (i := 0) (n := 2) rfl rfl) rfl) a7) ?_
   have h1 : bN m = 0 := by rw [← hZ] at h0; exact u2 h0
   rw [decide_eq_false (by omega)]
   exact ⟨rfl, hh.below⟩
  ·refine ak (N := 15) (l := [.agg #[.string m, .bool true]]) Tryz.func227 rfl rfl (by simp) ?_
   refine sr ?_
   refine cK hh [_,_] ?_
   intro b1 w1 hh
   refine cv hh ?_
   intro b2 w2 hh
   refine ae (sr (bC ?_))
   refine bH hh 1 ?_
   refine bG hh (jc m _) rfl ?_
   intro w6 hh
   refine aS (ae (sr (bC ?_)))
   refine bH hh 1 ?_
   refine mB ?_
   first | refine gS ?_ | (refine gT ?_; refine mS ?_) | refine gV ?_
   first | refine gS ?_ | (refine gT ?_; (first | refine gf rfl rfl (by first | rfl | assumption | decide) (by decide) ?_ | refine fV rfl rfl (by first | assumption | decide) (by decide) ?_)) | refine gV ?_
   first | refine cR ?_ | refine cQ ?_
   refine mS ?_
   refine ep [_,_] ?_
   refine bE hh 0 [_,_] ?_
   intro ws hh
   replace hh : Hp _ (.blk _ _ [_, _] _ :: _) _ := hh
   refine ae (ao ?_)
   refine gI (aG rfl (aH (vs := [_, _]) aC.out (hh.au (i := 0) (n := 2) rfl rfl) rfl) a7) ?_
   have h1 : bN m ≠ 0 := fun h => h0 (by rw [h, hZ])
   rw [decide_eq_true h1]
   exact ⟨rfl, hh.below⟩
def C5 (s : Bool) (m : ByteArray) : Value := .agg #[.string m, .bool s]
theorem po (a b : ByteArray) (w : World) (ha : a.size ≤ 1000000000) (hb : b.size ≤ 1000000000) :
  Calls Tryz.prog 257 #[.string a, .string b] w fun e w' => e = .returned (.int .i64 (ju (bN a) (bN b))) ∧ Below w.heap.size w w' := by
 have hh := Hp.start w
 refine ak (N := 8) (l := [.string a, .string b]) Tryz.func257 rfl rfl (by simp) ?_
 refine sr (aI (ae (sr (mS (mS ?_)))))
 refine bG hh (rJ a b _ ha hb) rfl ?_
 intro w7 hh
 refine aI (ae (ao ?_))
 refine cA ?_
 exact ⟨rfl, hh.below⟩
theorem ko (s : Bool) (m : ByteArray) (w : World) :
  Calls Tryz.prog 249 #[.agg #[.bool s, .string m]] w fun e w' => e = .returned (.agg #[.bool (iN (iv s m)), .string (iM (iv s m))]) ∧ Below w.heap.size w w' := by
 have hh := Hp.start w
 refine ak (N := 6) (l := [.agg #[.bool s, .string m]]) Tryz.func249 rfl rfl (by simp) ?_
 refine sr ?_
 refine cK hh [_,_] ?_
 intro b1 w1 hh
 refine cv hh ?_
 intro b2 w2 hh
 refine ae (sr ?_)
 refine dh hh 1 [_,_] ?_
 refine bG hh (kr s m _) rfl ?_
 intro w4 hh
 refine bG hh (dz s m _) rfl ?_
 intro w5 hh
 refine bE hh 0 [_,_] ?_
 intro ws hh
 replace hh : Hp _ (.blk _ _ [_, _] _ :: _) _ := hh
 refine ae (ao ?_)
 refine gI (aG rfl (aH (vs := [_, _]) aC.out (hh.au (i := 0) (n := 2) rfl rfl) rfl) a7) ?_
 exact ⟨rfl, hh.below⟩
theorem tY (s : Bool) (m : ByteArray) (w : World) :
  Calls Tryz.prog 214 #[.agg #[.bool s, .string m]] w fun e w' => e = .returned (.agg #[.bool (iN (-(iv s m))), .string (iM (-(iv s m)))]) ∧ Below w.heap.size w w' := by
 have hh := Hp.start w
 have e1 : iv (!s) m = -(iv s m) := by unfold iv; cases s <;> simp
 refine ak (N := 10) (l := [.agg #[.bool s, .string m]]) Tryz.func214 rfl rfl (by simp) ?_
 refine sr ?_
 refine cK hh [_,_] ?_
 intro b1 w1 hh
 refine cv hh ?_
 intro b2 w2 hh
 refine ae (sr (bC ?_))
 refine bH hh 1 ?_
 refine bC ?_
 refine bH hh 1 ?_
 refine fi ?_
 refine ep [_,_] ?_
 refine bG hh (dz (!s) m _) rfl ?_
 intro w9 hh
 rw [e1]
 refine bE hh 0 [_,_] ?_
 intro ws hh
 replace hh : Hp _ (.blk _ _ [_, _] _ :: _) _ := hh
 refine ae (ao ?_)
 refine gI (aG rfl (aH (vs := [_, _]) aC.out (hh.au (i := 0) (n := 2) rfl rfl) rfl) a7) ?_
 exact ⟨rfl, hh.below⟩
theorem jZ (s : Bool) (m : ByteArray) (w : World) :
  Calls Tryz.prog 222 #[.agg #[.bool s, .string m]] w fun e w' => e = .returned (.int .i64 (iv s m).sign) ∧ Below w.heap.size w w' := by
 have hh := Hp.start w
 by_cases h1 : iv s m < 0
 ·have hn : iN (iv s m) = true := decide_eq_true h1
  refine ak (N := 13) (l := [.agg #[.bool s, .string m]]) Tryz.func222 rfl rfl (by simp) ?_
  refine sr ?_
  refine cK hh [_,_] ?_
  intro b1 w1 hh
  refine aI (ae (sr ?_))
  refine dh hh 0 [_,_] ?_
  refine bG hh (ko s m _) rfl ?_
  intro w5 hh
  rw [hn]
  refine cv hh ?_
  intro b3 w3 hh
  refine bE hh 0 [_,_] ?_
  intro ws hh
  replace hh : Hp _ (.blk _ _ [_, _] _ :: _) _ := hh
  refine ae (ah (al (sr (bC ?_))))
  refine bH hh 0 ?_
  refine aB (ae (cT (sr (aI (ae (ao (br (az ?_))))))))
  refine cA ?_
  exact ⟨by rw [Int.sign_eq_neg_one_of_neg h1], hh.below⟩
 ·have hn : iN (iv s m) = false := decide_eq_false h1
  by_cases h0 : iM (iv s m) = ByteArray.mk #[]
  ·refine ak (N := 13) (l := [.agg #[.bool s, .string m]]) Tryz.func222 rfl rfl (by simp) ?_
   refine sr ?_
   refine cK hh [_,_] ?_
   intro b1 w1 hh
   refine aI (ae (sr ?_))
   refine dh hh 0 [_,_] ?_
   refine bG hh (ko s m _) rfl ?_
   intro w5 hh
   rw [hn]
   refine cv hh ?_
   intro b3 w3 hh
   refine bE hh 0 [_,_] ?_
   intro ws hh
   replace hh : Hp _ (.blk _ _ [_, _] _ :: _) _ := hh
   refine ae (ah (al (sr (bC ?_))))
   refine bH hh 0 ?_
   refine aB (ae (cF (sr (bC ?_))))
   refine bH hh 0 ?_
   first | refine dD rfl rfl (by first | rfl | assumption | decide) (by decide) ?_ | refine dy rfl rfl (by first | assumption | decide) (by decide) ?_
   refine aB (ae (cT (sr (aI (ae (ao (br (az ?_))))))))
   refine cA ?_
   exact ⟨by rw [nE.1 h0]; rfl, hh.below⟩
  ·have h2 : 0 < iv s m := by
    have : iv s m ≠ 0 := fun h => h0 (nE.2 h)
    omega
   refine ak (N := 13) (l := [.agg #[.bool s, .string m]]) Tryz.func222 rfl rfl (by simp) ?_
   refine sr ?_
   refine cK hh [_,_] ?_
   intro b1 w1 hh
   refine aI (ae (sr ?_))
   refine dh hh 0 [_,_] ?_
   refine bG hh (ko s m _) rfl ?_
   intro w5 hh
   rw [hn]
   refine cv hh ?_
   intro b3 w3 hh
   refine bE hh 0 [_,_] ?_
   intro ws hh
   replace hh : Hp _ (.blk _ _ [_, _] _ :: _) _ := hh
   refine ae (ah (al (sr (bC ?_))))
   refine bH hh 0 ?_
   refine aB (ae (cF (sr (bC ?_))))
   refine bH hh 0 ?_
   first | refine dD rfl rfl (by first | rfl | assumption | decide) (by decide) ?_ | refine dy rfl rfl (by first | assumption | decide) (by decide) ?_
   refine aB (ae (cF (aj (aW (ai (sr (aI (ae (ao ?_)))))))))
   refine cA ?_
   exact ⟨by rw [Int.sign_eq_one_of_pos h2], hh.below⟩
theorem dP (z : Int) : (iM z).size = (bM z.natAbs + 7) / 8 := gN _
def qI (s t : Bool) (a b : ByteArray) : Bool := if s = t then s else if bN a < bN b then t else s
theorem z7 (s t : Bool) (a b : ByteArray) : iv (qI s t a b) (iM (iv s a + iv t b)) = iv s a + iv t b := by
 unfold iM iv
 rw [eD]
 unfold qI
 cases s <;> cases t <;> simp <;> (try split) <;> (try simp) <;> omega
theorem tI (s t : Bool) (a b : ByteArray) : iv (s != t) (iM (iv s a * iv t b)) = iv s a * iv t b := by
 rw [iM, Int.natAbs_mul, gJ, gJ]
 unfold iv
 rw [eD]
 cases s <;> cases t <;> simp [Int.mul_neg, Int.neg_mul]
theorem tv (s t : Bool) (a b : ByteArray) (w : World) (ha : a.size ≤ 1000000000) (hb : b.size ≤ 1000000000) :
  Calls Tryz.prog 225 #[.agg #[.string a, .bool s], .agg #[.string b, .bool t]] w fun e w' => e = .returned (.agg #[.string (iM (iv s a + iv t b)), .bool (qI s t a b)]) ∧ Below w.heap.size w w' := by
 have hh := Hp.start w
 have hiv : ∀ (u : Bool) (n : Nat) (z : Int), (z = if u then -(n : Int) else n) → sN n = iM z := by
  intro u n z hz
  have h1 : z.natAbs = n := by rw [hz]; split <;> omega
  rw [iM, h1]
 by_cases hst : s = t
 ·subst hst
  have e1 := hiv s (bN a + bN b) (iv s a + iv s b) (by unfold iv; split <;> omega)
  refine ak (N := 41) (l := [.agg #[.string a, .bool s], .agg #[.string b, .bool s]]) Tryz.func225 rfl rfl (by simp) ?_
  refine sr ?_
  refine cK hh [_,_] ?_
  intro b2 w2 hh
  refine cK hh [_,_] ?_
  intro b3 w3 hh
  refine cv hh ?_
  intro b4 w4 hh
  refine ae (ah (sr (bC ?_)))
  refine bH hh 2 ?_
  refine bC ?_
  refine bH hh 1 ?_
  first | refine kJ aF.out rfl rfl (by first | rfl | assumption) (by decide) ?_ | refine kI aF.out rfl rfl (by first | rfl | assumption | decide) (by decide) ?_ | refine s_eql_bool aF.out rfl rfl (by decide) ?_
  refine ae (cT (ah ?_))
  refine aX 8 [[(2, none)], [(12, some 0)], [(3, none)], [(14, some 2)], [(13, some 1), (15, some 3)], [(16, some 4)], [(2, none)], [(18, some 6)]] [(7, 19), (6, 18), (5, 17), (4, 16), (3, 15), (2, 14), (1, 13), (0, 12)] hh mixed (by kernel_rfl) ?_
  refine cD ?_
  refine dF 2 ?_
  refine cD ?_
  refine dF 1 ?_
  refine pD [_,_] ?_
  refine bj (i := 5) (Is (.string (sN (bN a + bN b)))) Is.ext ?_ ?_
  ·intro ρ1 w1 hj hR
   obtain ⟨A16, c16, h16, s16⟩ := hR.1
   exact bW rfl (a3 av.out (aA h16 a9)) (rL A16 2 c16 [a, b] _ s16 (by omega) (by simp; omega)) (fun _ _ hq => ⟨_, hq.1, hq.2, rfl⟩)
  refine cD ?_
  refine dF 2 ?_
  refine a0 ?_
  intro f W hJ hV
  have hb_2 := hJ.bl
  obtain ⟨v19, v18, v17, v16, v15, v14, v13, v12, _⟩ := hV
  obtain ⟨A16, c16, e16, f16⟩ : Rows _ _ _ (f 4) W := v16
  replace hh := hJ.hp
  refine aN (a4 (aa v19 (aa v18 (aa v17 (aa e16 (aa v15 (aa v14 (aa v13 (aa v12 aM))))))))) ?_
  dsimp only [ca]
  clear e16 hJ
  refine ep [_,_] ?_
  refine bE hh 0 [_,_] ?_
  intro ws hh
  replace hh : Hp _ (.blk _ _ [_, _] _ :: _) _ := hh
  refine ae (ao (az ?_))
  refine gI (aG rfl (aH (vs := [_, _]) aC.out (hh.au (i := 0) (n := 2) rfl rfl) rfl) a7) ?_
  rw [e1, qI, if_pos rfl]
  exact ⟨rfl, hh.below⟩
 ·by_cases hlt : bN a < bN b
  ·have e1 := hiv t (bN b - bN a) (iv s a + iv t b) (by unfold iv; cases s <;> cases t <;> simp at hst ⊢ <;> omega)
   refine ak (N := 41) (l := [.agg #[.string a, .bool s], .agg #[.string b, .bool t]]) Tryz.func225 rfl rfl (by simp) ?_
   refine sr ?_
   refine cK hh [_,_] ?_
   intro b2 w2 hh
   refine cK hh [_,_] ?_
   intro b3 w3 hh
   refine cv hh ?_
   intro b4 w4 hh
   refine ae (ah (sr (bC ?_)))
   refine bH hh 2 ?_
   refine bC ?_
   refine bH hh 1 ?_
   first | refine kJ aF.out rfl rfl (by first | rfl | assumption) (by decide) ?_ | refine kI aF.out rfl rfl (by first | rfl | assumption | decide) (by decide) ?_ | refine s_eql_bool aF.out rfl rfl (by decide) ?_
   refine ae (cF (aj (ai (ah (sr (bC ?_))))))
   refine bH hh 2 ?_
   refine bC ?_
   refine bH hh 1 ?_
   refine bG hh (po a b _ ha hb) rfl ?_
   intro w25 hh
   rw [jL hlt]
   refine aU (ae (cT (aq ?_)))
   refine dh hh 1 [_,_] ?_
   refine dh hh 2 [_,_] ?_
   refine bE hh 2 [_,_] ?_
   intro ws hh
   replace hh : Hp _ (_ :: _ :: .blk _ _ [_, _] _ :: _) _ := hh
   refine bE hh 1 [_,_] ?_
   intro ws hh
   replace hh : Hp _ (_ :: .blk _ _ [_, _] _ :: _) _ := hh
   refine ae (sr (bC ?_))
   refine bH hh 2 ?_
   refine bC ?_
   refine bH hh 1 ?_
   refine bG hh (lW b a _ hb ha) rfl ?_
   intro w34 hh
   refine mT ?_
   refine dp ?_
   refine dp ?_
   refine aS (aB (ae (sr (mS (bC ?_)))))
   refine bH hh 2 ?_
   refine ep [_,_] ?_
   refine bE hh 0 [_,_] ?_
   intro ws hh
   replace hh : Hp _ (.blk _ _ [_, _] _ :: _) _ := hh
   refine ae (ao ?_)
   refine gI (aG rfl (aH (vs := [_, _]) aC.out (hh.au (i := 0) (n := 2) rfl rfl) rfl) a7) ?_
   rw [e1, qI, if_neg hst, if_pos hlt]
   exact ⟨rfl, hh.below⟩
  ·have e1 := hiv s (bN a - bN b) (iv s a + iv t b) (by unfold iv; cases s <;> cases t <;> simp at hst ⊢ <;> omega)
   have hc : ¬ ju (bN a) (bN b) < 0 := by unfold ju; split <;> (try split) <;> omega
   refine ak (N := 41) (l := [.agg #[.string a, .bool s], .agg #[.string b, .bool t]]) Tryz.func225 rfl rfl (by simp) ?_
   refine sr ?_
   refine cK hh [_,_] ?_
   intro b2 w2 hh
   refine cK hh [_,_] ?_
   intro b3 w3 hh
   refine cv hh ?_
   intro b4 w4 hh
   refine ae (ah (sr (bC ?_)))
   refine bH hh 2 ?_
   refine bC ?_
   refine bH hh 1 ?_
   first | refine kJ aF.out rfl rfl (by first | rfl | assumption) (by decide) ?_ | refine kI aF.out rfl rfl (by first | rfl | assumption | decide) (by decide) ?_ | refine s_eql_bool aF.out rfl rfl (by decide) ?_
   refine ae (cF (aj (ai (ah (sr (bC ?_))))))
   refine bH hh 2 ?_
   refine bC ?_
   refine bH hh 1 ?_
   refine bG hh (po a b _ ha hb) rfl ?_
   intro w25 hh
   refine aU (ae (cF (aj (ai (sr (bC ?_))))))
   refine bH hh 2 ?_
   refine bC ?_
   refine bH hh 1 ?_
   refine bG hh (lW a b _ ha hb) rfl ?_
   intro w34 hh
   refine mT ?_
   refine dp ?_
   refine dp ?_
   refine aS (aB (ae (sr (mS (bC ?_)))))
   refine bH hh 2 ?_
   refine ep [_,_] ?_
   refine bE hh 0 [_,_] ?_
   intro ws hh
   replace hh : Hp _ (.blk _ _ [_, _] _ :: _) _ := hh
   refine ae (ao ?_)
   refine gI (aG rfl (aH (vs := [_, _]) aC.out (hh.au (i := 0) (n := 2) rfl rfl) rfl) a7) ?_
   rw [e1, qI, if_neg hst, if_neg hlt]
   exact ⟨rfl, hh.below⟩
theorem rg (s t : Bool) (a b : ByteArray) (w : World) (ha : a.size ≤ 1000000000) (hb : b.size ≤ 1000000000) :
  Calls Tryz.prog 228 #[.agg #[.string a, .bool s], .agg #[.string b, .bool t]] w fun e w' => e = .returned (.agg #[.string (iM (iv s a * iv t b)), .bool (s != t)]) ∧ Below w.heap.size w w' := by
 have hh := Hp.start w
 have e0 : (iv s a * iv t b).natAbs = bN a * bN b := by rw [Int.natAbs_mul, gJ, gJ]
 have e1 : iM (iv s a * iv t b) = sN (bN a * bN b) := by rw [iM, e0]
 refine ak (N := 16) (l := [.agg #[.string a, .bool s], .agg #[.string b, .bool t]]) Tryz.func228 rfl rfl (by simp) ?_
 refine sr ?_
 refine cK hh [_,_] ?_
 intro b2 w2 hh
 refine cK hh [_,_] ?_
 intro b3 w3 hh
 refine cv hh ?_
 intro b4 w4 hh
 refine ae (ah ?_)
 refine aX 10 [[(2, none)], [(5, some 0)], [(3, none)], [(7, some 2)], [(6, some 1), (8, some 3)], [(2, none)], [(10, some 5)], [(3, none)], [(12, some 7)], [(11, some 6), (13, some 8)]] [(9, 14), (8, 13), (7, 12), (6, 11), (5, 10), (4, 9), (3, 8), (2, 7), (1, 6), (0, 5)] hh mixed (by kernel_rfl) ?_
 refine cD ?_
 refine dF 2 ?_
 refine cD ?_
 refine dF 1 ?_
 refine dC (fun _ hj => rV a b _ ha hb) ?_
 refine cD ?_
 refine dF 2 ?_
 refine cD ?_
 refine dF 1 ?_
 first | refine bq (i := 9) (fun ρ1 w1 hj hR => rn aF.out (show ρ1 11 = Value.bool _ from hR.1) (show ρ1 13 = Value.bool _ from hR.2.1) (by first | rfl | assumption)) ?_ | refine bq (i := 9) (fun ρ1 w1 hj hR => rz aF.out (show ρ1 11 = Value.bool _ from hR.1) (show ρ1 13 = Value.bool _ from hR.2.1) (by first | assumption | decide)) ?_ | refine bq (i := 9) (fun ρ1 w1 hj hR => jx aF.out (show ρ1 11 = Value.bool _ from hR.1) (show ρ1 13 = Value.bool _ from hR.2.1)) ?_
 refine a0 ?_
 intro f W hJ hV
 have hb_1 := hJ.bl
 obtain ⟨v14, v13, v12, v11, v10, v9, v8, v7, v6, v5, _⟩ := hV
 replace hh := hJ.hp
 refine aN (a4 (aa v14 (aa v13 (aa v12 (aa v11 (aa v10 (aa v9 (aa v8 (aa v7 (aa v6 (aa v5 aM))))))))))) ?_
 dsimp only [ca]
 clear hJ
 refine ep [_,_] ?_
 refine bE hh 0 [_,_] ?_
 intro ws hh
 replace hh : Hp _ (.blk _ _ [_, _] _ :: _) _ := hh
 refine ae (ao ?_)
 refine gI (aG rfl (aH (vs := [_, _]) aC.out (hh.au (i := 0) (n := 2) rfl rfl) rfl) a7) ?_
 rw [e1]
 exact ⟨rfl, hh.below⟩
theorem mF (n : Int) (w : World) (h1 : -9223372036854775808 ≤ n) (h2 : n ≤ 9223372036854775807) :
  Calls Tryz.prog 167 #[.int .i64 n] w fun e w' => e = .returned (.agg #[.bool (iN n), .string (iM n)]) ∧ Below w.heap.size w w' := by
 have hh := Hp.start w
 by_cases h0 : n < 0
 ·have e1 : iv true (sN n.natAbs) = n := by unfold iv; rw [eD, if_pos rfl]; omega
  have hw : IntKind.u64.wrap n = ((18446744073709551616 - n.natAbs : Nat) : Int) := by
   rw [show n = ((18446744073709551616 - n.natAbs : Nat) : Int) + -((18446744073709551616 : Nat) : Int) by omega]
   have := UK.wrap_add (k := .u64) (((18446744073709551616 - n.natAbs : Nat) : Int) + -((18446744073709551616 : Nat) : Int))
   rw [← this, Int.neg_add_cancel_right, UK.me (by omega)]
   omega
  have hn : (18446744073709551616 - (18446744073709551616 - n.natAbs)) % 18446744073709551616 = n.natAbs := by omega
  refine ak (N := 16) (l := [.int .i64 n]) Tryz.func167 rfl rfl (by simp) ?_
  refine sr ?_
  refine cv hh ?_
  intro b2 w2 hh
  refine ae (ah (sr (mI ?_)))
  refine aU (ae (cT (sr (mI ?_))))
  refine ll aF.out aF.out rfl (by decide) ?_
  rw [hw]
  refine xO rfl (by omega) (by decide) ?_
  rw [hn]
  skip
  refine bG hh (m7 n.natAbs _ (by omega)) rfl ?_
  intro w8 hh
  refine ep [_,_] ?_
  refine bG hh (dz true (sN n.natAbs) _) rfl ?_
  intro w10 hh
  rw [e1]
  refine bE hh 0 [_,_] ?_
  intro ws hh
  replace hh : Hp _ (.blk _ _ [_, _] _ :: _) _ := hh
  refine ae (ao (az ?_))
  refine gI (aG rfl (aH (vs := [_, _]) aC.out (hh.au (i := 0) (n := 2) rfl rfl) rfl) a7) ?_
  exact ⟨rfl, hh.below⟩
 ·obtain ⟨m, rfl⟩ := Int.eq_ofNat_of_zero_le (by omega : 0 ≤ n)
  have e1 : iv false (sN m) = m := by unfold iv; rw [eD]; simp
  have hm : m < 18446744073709551616 := by omega
  refine ak (N := 16) (l := [.int .i64 (m : Int)]) Tryz.func167 rfl rfl (by simp) ?_
  refine sr ?_
  refine cv hh ?_
  intro b2 w2 hh
  refine ae (ah (sr (mI ?_)))
  refine aU (ae (cF (aj (ai (sr (mI ?_))))))
  first | refine dq aF.out aF.out rfl (by first | assumption | omega) (by decide) ?_ | refine fp aF.out aF.out rfl (by decide) ?_
  refine bG hh (m7 m _ hm) rfl ?_
  intro w13 hh
  refine ep [_,_] ?_
  refine bG hh (dz false (sN m) _) rfl ?_
  intro w15 hh
  rw [e1]
  refine bE hh 0 [_,_] ?_
  intro ws hh
  replace hh : Hp _ (.blk _ _ [_, _] _ :: _) _ := hh
  refine ae (ao ?_)
  refine gI (aG rfl (aH (vs := [_, _]) aC.out (hh.au (i := 0) (n := 2) rfl rfl) rfl) a7) ?_
  exact ⟨rfl, hh.below⟩
end Go.Proofs.YtaapkaefelhfcaaGreatDoor
namespace Go.Proofs.YtaapkaefelhfcaaGreatDoor
open Go.RowKit
structure IR where
 neg : Bool
 bJ : ByteArray
def IR.cells (a : IR) : List Value := [.bool a.neg, .string a.bJ]
def IR.v (a : IR) : Int := iv a.neg a.bJ
def iR (z : Int) : IR := ⟨iN z, iM z⟩
theorem BX (z : Int) : (iR z).v = z := fC z
theorem IR.len (a : IR) : a.cells.length = 2 := rfl
theorem jz (x y : Int) : bM (x + y).natAbs ≤ max (bM x.natAbs) (bM y.natAbs) + 1 := by
 apply du
 have h1 := df x.natAbs
 have h2 := df y.natAbs
 have h3 : 2 ^ bM x.natAbs ≤ 2 ^ max (bM x.natAbs) (bM y.natAbs) := Nat.pow_le_pow_right (by omega) (Nat.le_max_left _ _)
 have h4 : 2 ^ bM y.natAbs ≤ 2 ^ max (bM x.natAbs) (bM y.natAbs) := Nat.pow_le_pow_right (by omega) (Nat.le_max_right _ _)
 rw [Nat.pow_succ]
 omega
theorem ig (s : Bool) (m : ByteArray) : bM (iv s m).natAbs ≤ 8 * m.size := by rw [gJ]; exact eJ m
theorem xi (l : List Int) (x : Int) : (l ++ [x]).sum = l.sum + x := by simp
theorem oe (L : Option Addr) (n c : Nat) (l : List IR) (w : World) (hS : Sl w L n 2 (aQ IR.cells l)) (hn : n ≤ 1000000) (hs : ∀ s ∈ l, s.bJ.size ≤ 100000000) :
  Calls Tryz.prog 165 #[.slice L n c] w fun e w' => e = .returned (.agg #[.bool (iN (l.map IR.v).sum), .string (iM (l.map IR.v).sum)]) ∧ Below w.heap.size w w' := by
 have hl := hS.cg IR.len (by omega)
 have hh := Hp.start w
 refine ak (N := 19) (l := [.slice L n c]) Tryz.func165 rfl rfl (by simp) ?_
 refine sr ?_
 refine cv hh ?_
 intro b2 w2 hh
 refine ae (sr ?_)
 refine cv hh ?_
 intro b3 w3 hh
 refine ae (ah (sr (mL (aO (mI (ae (al ?_)))))))
 refine bs [5, 8, 9, 10, 11, 12, 13, 14, 15, 16] 8
  (fun j w' => ∃ (i : Nat) (u : Bool) (S : Int), i ≤ n ∧ j = .int .i64 i ∧ S = ((l.take i).map IR.v).sum ∧ iv u (iM S) = S ∧ bM S.natAbs ≤ 800000000 + i ∧ Hp w [.blk b3 216 [.string (iM S), .bool u] (0, 0), .blk b2 27 [.bool false, .string (ByteArray.mk #[])] (0, 0)] w')
  (fun j _ => n - (intOf j).toNat) ?_ ?_
 ·exact ⟨0, false, 0, Nat.zero_le _, rfl, rfl, by rw [iM]; exact congrArg _ (eD 0), by simp [jf], by rw [iM, Int.natAbs_zero, hZ]; exact hh⟩
 ·clear hh
  rintro ρ' j w' ⟨i, u, S, hi, rfl, hS2, hu, hb, hh⟩
  by_cases hlt : i < n
  ·obtain ⟨x, hx⟩ := aD (l := l) (k := i) (by omega)
   obtain ⟨ad, rfl, hr⟩ := hS.at_ (by omega)
   have hxs := hs x (List.mem_of_getElem? hx)
   have hS3 : ((l.take (i + 1)).map IR.v).sum = S + x.v := by rw [aJ hx, List.map_append, List.map_singleton, xi, hS2]
   have hms : (iM S).size ≤ 1000000000 := by rw [dP]; omega
   have hbx := ig x.neg x.bJ
   have hba := jz S x.v
   have hpl := z7 u x.neg (iM S) x.bJ
   rw [hu] at hpl
   have hwc := fun w1 => tv u x.neg (iM S) x.bJ w1 hms (by omega)
   rw [hu] at hwc
   refine sr ?_
   refine aU (ae (ah (cT (aj (ai (ah (al (sr ?_))))))))
   refine aR (k := i) aF.out aC.size rfl rfl (by omega) (by omega) (by decide) ?_
   refine bQ (vs := [_, _]) aC.out rfl (((hr.ext hh.below).recAt IR.len hx)) rfl (by decide) ?_
   refine cv hh ?_
   intro b5 w5 hh
   refine bE hh 0 [_,_] ?_
   intro ws hh
   replace hh : Hp _ (.blk _ _ [_, _] _ :: _) _ := hh
   refine ae ?_
   refine aX 3 [[(3, none)], [(5, none)], [(13, some 1)]] [(2, 14), (1, 13), (0, 12)] hh mixed (by kernel_rfl) ?_
   refine ef 1 [_,_] ?_
   refine ef 0 [_,_] ?_
   refine dC (fun _ hj => kr x.neg x.bJ _) ?_
   refine a0 ?_
   intro f W hJ hV
   have hb_5 := hJ.bl
   obtain ⟨v14, v13, v12, _⟩ := hV
   replace hh := hJ.hp
   refine aN (a4 (aa v14 (aa v13 (aa v12 aM)))) ?_
   dsimp only [ca]
   clear hJ
   refine bG hh (hwc _) rfl ?_
   intro w15 hh
   refine bE hh 1 [_,_] ?_
   intro ws hh
   replace hh : Hp _ (_ :: .blk _ _ [_, _] _ :: _) _ := hh
   refine aE (aW (ai (aq ?_)))
   refine bL (mI (aE (ai ?_)))
   replace hh := hh.sub (List.sublist_cons_self _ _)
   refine ⟨⟨i + 1, _, _, by omega, rfl, hS3.symm, hpl, by unfold IR.v at hba ⊢; omega, hh⟩, by show n - (i + 1) < n - i; omega, ?_⟩
   (repeat (first | exact aw _ _ _ | refine ax rfl ?_ | refine ar rfl ?_))
  ·refine sr ?_
   refine aU (ae (ah (cF ?_)))
   refine aP ?_
   refine ay (ay (a6 (ai (sr ?_))))
   refine dh hh 0 [_,_] ?_
   refine bG hh (dz u (iM S) _) rfl ?_
   intro w18 hh
   rw [hu]
   refine bE hh 1 [_,_] ?_
   intro ws hh
   replace hh : Hp _ (_ :: .blk _ _ [_, _] _ :: _) _ := hh
   refine ae (ao ?_)
   refine gI (aG rfl (aH (vs := [_, _]) aC.out (hh.au (i := 1) (n := 2) rfl rfl) rfl) a7) ?_
   rw [List.take_of_length_le (by omega)] at hS2
   rw [hS2]
   exact ⟨rfl, hh.below⟩
theorem sF (s : Bool) (b : ByteArray) : (iM (-(iv s b))).size ≤ b.size := by
 have := ig s b
 rw [dP, Int.natAbs_neg]; omega
theorem u0 (s t : Bool) (a b : ByteArray) (w : World) (ha : a.size ≤ 100000000) (hb : b.size ≤ 100000000) :
  Calls Tryz.prog 255 #[.agg #[.bool s, .string a], .agg #[.bool t, .string b]] w fun e w' => e = .returned (.agg #[.bool (iN (iv s a - iv t b)), .string (iM (iv s a - iv t b))]) ∧ Below w.heap.size w w' := by
 have hh := Hp.start w
 have h1 := sF t b
 have e1 : ([IR.mk s a, iR (-(iv t b))].map IR.v).sum = iv s a - iv t b := by
  simp only [List.map_cons, List.map_nil, List.sum_cons, List.sum_nil, BX]
  simp only [IR.v]; omega
 refine ak (N := 10) (l := [.agg #[.bool s, .string a], .agg #[.bool t, .string b]]) Tryz.func255 rfl rfl (by simp) ?_
 refine sr ?_
 refine cK hh [_,_] ?_
 intro b2 w2 hh
 refine cK hh [_,_] ?_
 intro b3 w3 hh
 refine cv hh ?_
 intro b4 w4 hh
 refine ae (ah ?_)
 refine aX 3 [[(2, none)], [(3, none)], [(6, some 1)]] [(2, 7), (1, 6), (0, 5)] hh mixed (by kernel_rfl) ?_
 refine ef 2 [_,_] ?_
 refine ef 1 [_,_] ?_
 refine dC (fun _ hj => tY t b _) ?_
 refine a0 ?_
 intro f W hJ hV
 have hb_1 := hJ.bl
 obtain ⟨v7, v6, v5, _⟩ := hV
 replace hh := hJ.hp
 refine aN (a4 (aa v7 (aa v6 (aa v5 aM)))) ?_
 dsimp only [ca]
 clear hJ
 refine bB hh (cs := [_, _, _, _]) aF.out aC.out (bm (dM rfl) (bm (dM rfl) cn)) rfl rfl (by decide) (by decide) (by decide) rfl (by decide) ?_
 intro b8 w8 hh
 refine bG hh (oe _ 2 _ [IR.mk s a, iR (-(iv t b))] _ (hh.aK (i := 0) rfl) (by omega) (by simp [iR]; omega)) rfl ?_
 intro w9 hh
 rw [e1]
 refine bE hh 1 [_,_] ?_
 intro ws hh
 replace hh : Hp _ (_ :: .blk _ _ [_, _] _ :: _) _ := hh
 refine ae (ao ?_)
 refine gI (aG rfl (aH (vs := [_, _]) aC.out (hh.au (i := 1) (n := 2) rfl rfl) rfl) a7) ?_
 exact ⟨rfl, hh.below⟩
theorem sW (a b : Nat) : bM (a * b) ≤ bM a + bM b := by
 apply du
 rw [Nat.pow_add]
 exact Nat.mul_lt_mul'' (df a) (df b)
theorem jw (a b : Int) : bM (a * b).natAbs ≤ bM a.natAbs + bM b.natAbs := by rw [Int.natAbs_mul]; exact sW _ _
def j6 : List Int → Int
 | [] => 1
 | x :: l => x * j6 l
theorem uw (l : List Int) (x : Int) : j6 (l ++ [x]) = j6 l * x := by
 induction l with
 | nil => simp [j6]
 | cons y l ih => simp only [List.cons_append, j6, ih, Int.mul_assoc]
theorem sn (l : List Nat) (i : Nat) : (l.take i).sum ≤ l.sum := by
 rw [← List.sum_append_nat.symm.trans (congrArg List.sum (List.take_append_drop i l))]; omega
theorem tf : bM 1 = 1 := by decide +kernel
theorem u9 (L : Option Addr) (n c : Nat) (l : List IR) (w : World) (hS : Sl w L n 2 (aQ IR.cells l)) (hn : n ≤ 1000000) (hs : (l.map fun a => a.bJ.size).sum ≤ 100000000) :
  Calls Tryz.prog 166 #[.slice L n c] w fun e w' => e = .returned (.agg #[.bool (iN (j6 (l.map IR.v))), .string (iM (j6 (l.map IR.v)))]) ∧ Below w.heap.size w w' := by
 have hl := hS.cg IR.len (by omega)
 have hh := Hp.start w
 have hsum := sn (l.map fun a => a.bJ.size)
 refine ak (N := 21) (l := [.slice L n c]) Tryz.func166 rfl rfl (by simp) ?_
 refine sr ?_
 refine cv hh ?_
 intro b2 w2 hh
 refine ae (sr ?_)
 refine bG hh (mF 1 _ (by omega) (by omega)) rfl ?_
 intro w6 hh
 refine bG hh (kr _ _ _) rfl ?_
 intro w7 hh
 refine cv hh ?_
 intro b3 w3 hh
 refine bE hh 0 [_,_] ?_
 intro ws hh
 replace hh : Hp _ (.blk _ _ [_, _] _ :: _) _ := hh
 refine ae (ah (sr (mL (aO (mI (ae (al ?_)))))))
 refine bs [5, 10, 11, 12, 13, 14, 15, 16, 17, 18] 10
  (fun j w' => ∃ (i : Nat) (u : Bool) (S : Int), i ≤ n ∧ j = .int .i64 i ∧ S = j6 ((l.take i).map IR.v) ∧ iv u (iM S) = S ∧ bM S.natAbs ≤ 1 + 8 * ((l.map fun a => a.bJ.size).take i).sum ∧ Hp w [.blk b3 216 [.string (iM S), .bool u] (0, 0), .blk b2 27 [.bool false, .string (ByteArray.mk #[])] (0, 0)] w')
  (fun j _ => n - (intOf j).toNat) ?_ ?_
 ·exact ⟨0, _, 1, Nat.zero_le _, rfl, rfl, fC 1, by rw [Int.natAbs_one, tf]; omega, hh⟩
 ·clear hh
  rintro ρ' j w' ⟨i, u, S, hi, rfl, hS2, hu, hb, hh⟩
  by_cases hlt : i < n
  ·obtain ⟨x, hx⟩ := aD (l := l) (k := i) (by omega)
   obtain ⟨ad, rfl, hr⟩ := hS.at_ (by omega)
   have hsi := hsum i
   have hsi2 := hsum (i + 1)
   have hsz : ((l.map fun a => a.bJ.size).take (i + 1)).sum = ((l.map fun a => a.bJ.size).take i).sum + x.bJ.size := by
    rw [aJ (x := x.bJ.size) (by rw [List.getElem?_map, hx]; rfl), mZ]
   have hS3 : j6 ((l.take (i + 1)).map IR.v) = S * x.v := by rw [aJ hx, List.map_append, List.map_singleton, uw, hS2]
   have hms : (iM S).size ≤ 1000000000 := by rw [dP]; omega
   have hbx := ig x.neg x.bJ
   have hba := jw S x.v
   have hpl := tI u x.neg (iM S) x.bJ
   rw [hu] at hpl
   have hwc := fun w1 => rg u x.neg (iM S) x.bJ w1 hms (by omega)
   rw [hu] at hwc
   refine sr ?_
   refine aU (ae (ah (cT (aj (ai (ah (al (sr ?_))))))))
   refine aR (k := i) aF.out aC.size rfl rfl (by omega) (by omega) (by decide) ?_
   refine bQ (vs := [_, _]) aC.out rfl (((hr.ext hh.below).recAt IR.len hx)) rfl (by decide) ?_
   refine cv hh ?_
   intro b5 w5 hh
   refine bE hh 0 [_,_] ?_
   intro ws hh
   replace hh : Hp _ (.blk _ _ [_, _] _ :: _) _ := hh
   refine ae ?_
   refine aX 3 [[(3, none)], [(5, none)], [(15, some 1)]] [(2, 16), (1, 15), (0, 14)] hh mixed (by kernel_rfl) ?_
   refine ef 1 [_,_] ?_
   refine ef 0 [_,_] ?_
   refine dC (fun _ hj => kr x.neg x.bJ _) ?_
   refine a0 ?_
   intro f W hJ hV
   have hb_5 := hJ.bl
   obtain ⟨v16, v15, v14, _⟩ := hV
   replace hh := hJ.hp
   refine aN (a4 (aa v16 (aa v15 (aa v14 aM)))) ?_
   dsimp only [ca]
   clear hJ
   refine bG hh (hwc _) rfl ?_
   intro w17 hh
   refine bE hh 1 [_,_] ?_
   intro ws hh
   replace hh : Hp _ (_ :: .blk _ _ [_, _] _ :: _) _ := hh
   refine aE (aW (ai (aq ?_)))
   refine bL (mI (aE (ai ?_)))
   replace hh := hh.sub (List.sublist_cons_self _ _)
   refine ⟨⟨i + 1, _, _, by omega, rfl, hS3.symm, hpl, by unfold IR.v at hba ⊢; omega, hh⟩, by show n - (i + 1) < n - i; omega, ?_⟩
   (repeat (first | exact aw _ _ _ | refine ax rfl ?_ | refine ar rfl ?_))
  ·refine sr ?_
   refine aU (ae (ah (cF ?_)))
   refine aP ?_
   refine ay (ay (a6 (ai (sr ?_))))
   refine dh hh 0 [_,_] ?_
   refine bG hh (dz u (iM S) _) rfl ?_
   intro w20 hh
   rw [hu]
   refine bE hh 1 [_,_] ?_
   intro ws hh
   replace hh : Hp _ (_ :: .blk _ _ [_, _] _ :: _) _ := hh
   refine ae (ao ?_)
   refine gI (aG rfl (aH (vs := [_, _]) aC.out (hh.au (i := 1) (n := 2) rfl rfl) rfl) a7) ?_
   rw [List.take_of_length_le (by omega)] at hS2
   rw [hS2]
   exact ⟨rfl, hh.below⟩
theorem tD (M k : Nat) (h : 2 ^ k ∣ M) : -((M / 2 ^ k : Nat) : Int) = -(M : Int) / 2 ^ k := by
 obtain ⟨q, rfl⟩ := h
 have hp : (0 : Int) < 2 ^ k := Int.pow_pos (by omega)
 rw [Nat.mul_div_cancel_left _ (Nat.pow_pos (by omega)), Int.natCast_mul, ← Int.mul_neg, Int.natCast_pow]
 exact (Int.mul_ediv_cancel_left _ (by exact Int.ne_of_gt hp)).symm
theorem rB (M k : Nat) (h : ¬ 2 ^ k ∣ M) : -((M / 2 ^ k : Nat) : Int) - 1 = -(M : Int) / 2 ^ k := by
 have hp : (0 : Int) < 2 ^ k := Int.pow_pos (by omega)
 have h1 := Nat.div_add_mod M (2 ^ k)
 have h2 := Nat.mod_lt M (Nat.pow_pos (n := k) (show 0 < 2 by omega))
 have h3 : M % 2 ^ k ≠ 0 := fun h0 => h (Nat.dvd_of_mod_eq_zero h0)
 have hc : ((2 ^ k : Nat) : Int) = 2 ^ k := by simp
 symm
 rw [Int.ediv_eq_iff_of_pos hp, ← hc]
 have h4 : (M : Int) = (2 ^ k : Nat) * (M / 2 ^ k : Nat) + (M % 2 ^ k : Nat) := by rw [← Int.natCast_mul, ← Int.natCast_add, h1]
 generalize hK : ((2 ^ k : Nat) : Int) = K at *
 generalize ((M / 2 ^ k : Nat) : Int) = q at *
 have e : (-q - 1) * K = -(K * q) - K := by rw [Int.sub_mul, Int.neg_mul, Int.mul_comm q]; omega
 have e2 : (-q - 1 + 1) * K = -(K * q) := by rw [Int.sub_add_cancel, Int.neg_mul, Int.mul_comm]
 omega
theorem x9 {M k : Nat} (h0 : M ≠ 0) : 2 ^ k ∣ M ↔ k ≤ tz M := by
 obtain ⟨m, hm⟩ := nG h0
 generalize tz M = t at *
 constructor
 ·intro h
  rcases Nat.lt_or_ge t k with hlt | hge
  ·exfalso
   obtain ⟨q, hq⟩ := h
   rw [hm, show k = t + (1 + (k - t - 1)) by omega, Nat.pow_add, Nat.pow_add, Nat.mul_assoc] at hq
   have := Nat.eq_of_mul_eq_mul_left (Nat.pow_pos (by omega)) hq
   rw [Nat.pow_one, Nat.mul_assoc] at this
   omega
  ·exact hge
 ·intro h
  rw [hm]
  exact Nat.dvd_trans (Nat.pow_dvd_pow 2 h) (Nat.dvd_mul_right _ _)
end Go.Proofs.YtaapkaefelhfcaaGreatDoor
namespace Go.Proofs.YtaapkaefelhfcaaGreatDoor
open Go.RowKit
theorem Br (s : Bool) (a : ByteArray) (m : Nat) : iv s (sN (bN a * 2 ^ m)) = iv s a * 2 ^ m := by
 unfold iv
 rw [eD]
 cases s <;> simp [Int.natCast_mul, Int.neg_mul]
theorem ue (s : Bool) (a : ByteArray) (m : Nat) (w : World) (ha : a.size ≤ 100000000) (hm : m ≤ 1000000000) :
  Calls Tryz.prog 224 #[.agg #[.bool s, .string a], .int .i64 (m : Int)] w fun e w' => e = .returned (.agg #[.bool (iN (iv s a * 2 ^ m)), .string (iM (iv s a * 2 ^ m))]) ∧ Below w.heap.size w w' := by
 have hh := Hp.start w
 refine ak (N := 47) (l := [.agg #[.bool s, .string a], .int .i64 (m : Int)]) Tryz.func224 rfl rfl (by simp) ?_
 refine sr ?_
 refine cK hh [_,_] ?_
 intro b2 w2 hh
 refine cv hh ?_
 intro b4 w4 hh
 refine ae (ah (sr (mI ?_)))
 refine dn (ae (cT (ah ?_)))
 refine aX 6 [[(2, none)], [(8, some 0)], [(1, none)], [(9, some 1), (10, some 2)], [(2, none)], [(12, some 4)]] [(5, 13), (4, 12), (3, 11), (2, 10), (1, 9), (0, 8)] hh mixed (by kernel_rfl) ?_
 refine cD ?_
 refine dF 1 ?_
 refine eb ?_
 refine dC (fun _ hj => rm a m _ (by omega) (by omega)) ?_
 refine cD ?_
 refine dF 1 ?_
 refine a0 ?_
 intro f W hJ hV
 have hb_2 := hJ.bl
 obtain ⟨v13, v12, v11, v10, v9, v8, _⟩ := hV
 replace hh := hJ.hp
 refine aN (a4 (aa v13 (aa v12 (aa v11 (aa v10 (aa v9 (aa v8 aM))))))) ?_
 dsimp only [ca]
 clear hJ
 refine ep [_,_] ?_
 refine bG hh (dz s (sN (bN a * 2 ^ m)) _) rfl ?_
 intro w15 hh
 rw [Br]
 refine bE hh 0 [_,_] ?_
 intro ws hh
 replace hh : Hp _ (.blk _ _ [_, _] _ :: _) _ := hh
 refine ae (ao (az ?_))
 refine gI (aG rfl (aH (vs := [_, _]) aC.out (hh.au (i := 0) (n := 2) rfl rfl) rfl) a7) ?_
 exact ⟨rfl, hh.below⟩
theorem u1 (s : Bool) (a : ByteArray) (m : Nat) (w : World) (hT : hG w) (ha : a.size ≤ 100000000) (h0 : 0 < m) (hm : m ≤ 1000000000000) :
  Calls Tryz.prog 224 #[.agg #[.bool s, .string a], .int .i64 (-(m : Int))] w fun e w' => e = .returned (.agg #[.bool (iN (iv s a / 2 ^ m)), .string (iM (iv s a / 2 ^ m))]) ∧ Below w.heap.size w w' := by
 have hh := Hp.start w
 have e1 : (if (-1099511627776 : Int) > -(m : Int) then -1099511627776 else -(m : Int)) = -(m : Int) := if_neg (by omega)
 have e2 : -(-(m : Int)) = (m : Int) := by omega
 have hcs : ∀ w1, Calls Tryz.prog 253 #[.string a, .int .i64 (-(-(m : Int)))] w1 fun e w' => e = .returned (.string (sN (bN a / 2 ^ m))) ∧ Below w1.heap.size w1 w' := fun w1 => by
  rw [e2]; exact rv a m w1 (by omega) (by omega)
 cases s with
 | false =>
  have e3 : iv false (sN (bN a / 2 ^ m)) = iv false a / 2 ^ m := by
   unfold iv
   rw [eD]
   simp
  refine ak (N := 47) (l := [.agg #[.bool false, .string a], .int .i64 (-(m : Int))]) Tryz.func224 rfl rfl (by simp) ?_
  refine sr ?_
  refine cK hh [_,_] ?_
  intro b2 w2 hh
  refine cv hh ?_
  intro b4 w4 hh
  refine ae (ah (sr (mI ?_)))
  refine dn (ae (cF (aj (ai (sr (mI ?_))))))
  refine kq rfl rfl (by decide) ?_
  refine aI (ae (ah ?_))
  rw [e1]
  refine aX 10 [[(2, none)], [(18, some 0)], [(1, none)], [(20, some 2)], [(19, some 1), (21, some 3)], [(2, none)], [(23, some 5)], [(22, some 4), (24, some 6)], [(25, some 7)], []] [(9, 5), (8, 26), (7, 25), (6, 24), (5, 23), (4, 22), (3, 21), (2, 20), (1, 19), (0, 18)] hh mixed (by kernel_rfl) ?_
  refine cD ?_
  refine dF 1 ?_
  refine eb ?_
  refine bq (i := 3) (fun ρ1 w1 hj hR => ph (show ρ1 20 = Value.int _ _ from hR.1) (by omega) (by omega)) ?_
  refine dC (fun _ hj => hcs _) ?_
  refine cD ?_
  refine dF 1 ?_
  refine dB [_,_] ?_
  refine dC (fun _ hj => dz false (sN (bN a / 2 ^ m)) _) ?_
  refine bj (i := 9) (cN _ 27 _) cN.ext (fun ρ1 w1 hj hR => fI aC.out hj.bl (fun v w2 h hb => ⟨hb, h⟩)) ?_
  refine a0 ?_
  intro f W hJ hV
  have hb_4 := hJ.bl
  obtain ⟨v5, v26, v25, v24, v23, v22, v21, v20, v19, v18, _⟩ := hV
  obtain ⟨b5, e5, hl5, hc5⟩ : cN _ _ _ (f 9) W := v5
  replace hh := hJ.newVar hh hl5 hc5
  refine aN (a4 (aa e5 (aa v26 (aa v25 (aa v24 (aa v23 (aa v22 (aa v21 (aa v20 (aa v19 (aa v18 aM))))))))))) ?_
  dsimp only [ca]
  clear e5 hJ
  rw [e3]
  refine bE hh 0 [_,_] ?_
  intro ws hh
  replace hh : Hp _ (.blk _ _ [_, _] _ :: _) _ := hh
  refine ae (ah (sr (bC ?_)))
  refine bH hh 2 ?_
  refine mB ?_
  first | refine gS ?_ | (refine gT ?_; refine bC ?_) | refine gV ?_
  first | refine gS ?_ | (refine gT ?_; refine bH hh 2 ?_) | refine gV ?_
  refine cm (by decide) rfl rfl (by decide) ?_
  first | refine gS ?_ | (refine gT ?_; refine bY ?_) | refine gV ?_
  first | refine cR ?_ | refine cQ ?_
  refine mB ?_
  first | refine gS ?_ | (refine gT ?_; refine bC ?_) | refine gV ?_
  first | refine gS ?_ | (refine gT ?_; refine bH hh 2 ?_) | refine gV ?_
  refine cm (by decide) rfl rfl (by decide) ?_
  first | refine gS ?_ | (refine gT ?_; refine mI ?_) | refine gV ?_
  first | refine gS ?_ | (refine gT ?_; refine mX rfl (by omega) (by omega) (by decide) ?_) | refine gV ?_
  first | refine gS ?_ | (refine gT ?_; refine aU ?_) | refine gV ?_
  first | refine cR ?_ | refine cQ ?_
  refine ae (cF (aj (ai (sr ?_))))
  refine dh hh 0 [_,_] ?_
  refine bE hh 1 [_,_] ?_
  intro ws hh
  replace hh : Hp _ (_ :: .blk _ _ [_, _] _ :: _) _ := hh
  refine ae (ao ?_)
  refine gI (aG rfl (aH (vs := [_, _]) aC.out (hh.au (i := 1) (n := 2) rfl rfl) rfl) a7) ?_
  exact ⟨rfl, hh.below⟩
 | true =>
  have hb := eJ a
  have e4 : iv true (sN (bN a / 2 ^ m)) = -((bN a / 2 ^ m : Nat) : Int) := by
   unfold iv
   rw [eD, if_pos rfl]
  have e5 : iv true a = -(bN a : Int) := by unfold iv; rw [if_pos rfl]
  by_cases hz : bN a = 0
  ·have e3 : iv true (sN (bN a / 2 ^ m)) = iv true a / 2 ^ m := by
    rw [e4, e5, hz]; simp
   refine ak (N := 47) (l := [.agg #[.bool true, .string a], .int .i64 (-(m : Int))]) Tryz.func224 rfl rfl (by simp) ?_
   refine sr ?_
   refine cK hh [_,_] ?_
   intro b2 w2 hh
   refine cv hh ?_
   intro b4 w4 hh
   refine ae (ah (sr (mI ?_)))
   refine dn (ae (cF (aj (ai (sr (mI ?_))))))
   refine kq rfl rfl (by decide) ?_
   refine aI (ae (ah ?_))
   rw [e1]
   refine aX 10 [[(2, none)], [(18, some 0)], [(1, none)], [(20, some 2)], [(19, some 1), (21, some 3)], [(2, none)], [(23, some 5)], [(22, some 4), (24, some 6)], [(25, some 7)], []] [(9, 5), (8, 26), (7, 25), (6, 24), (5, 23), (4, 22), (3, 21), (2, 20), (1, 19), (0, 18)] hh mixed (by kernel_rfl) ?_
   refine cD ?_
   refine dF 1 ?_
   refine eb ?_
   refine bq (i := 3) (fun ρ1 w1 hj hR => ph (show ρ1 20 = Value.int _ _ from hR.1) (by omega) (by omega)) ?_
   refine dC (fun _ hj => hcs _) ?_
   refine cD ?_
   refine dF 1 ?_
   refine dB [_,_] ?_
   refine dC (fun _ hj => dz true (sN (bN a / 2 ^ m)) _) ?_
   refine bj (i := 9) (cN _ 27 _) cN.ext (fun ρ1 w1 hj hR => fI aC.out hj.bl (fun v w2 h hb => ⟨hb, h⟩)) ?_
   refine a0 ?_
   intro f W hJ hV
   have hb_4 := hJ.bl
   obtain ⟨v5, v26, v25, v24, v23, v22, v21, v20, v19, v18, _⟩ := hV
   obtain ⟨b5, e5, hl5, hc5⟩ : cN _ _ _ (f 9) W := v5
   replace hh := hJ.newVar hh hl5 hc5
   refine aN (a4 (aa e5 (aa v26 (aa v25 (aa v24 (aa v23 (aa v22 (aa v21 (aa v20 (aa v19 (aa v18 aM))))))))))) ?_
   dsimp only [ca]
   clear e5 hJ
   rw [e3]
   refine bE hh 0 [_,_] ?_
   intro ws hh
   replace hh : Hp _ (.blk _ _ [_, _] _ :: _) _ := hh
   refine ae (ah (sr (bC ?_)))
   refine bH hh 2 ?_
   refine mB ?_
   first | refine gS ?_ | (refine gT ?_; refine bC ?_) | refine gV ?_
   first | refine gS ?_ | (refine gT ?_; refine bH hh 2 ?_) | refine gV ?_
   refine bu rfl rfl ?_
   refine bG hh (jK a _ (by omega)) rfl ?_
   intro w32 hh
   rw [hz, jf]
   first | refine gS ?_ | (refine gT ?_; refine bY ?_) | refine gV ?_
   first | refine cR ?_ | refine cQ ?_
   refine mB ?_
   first | refine gS ?_ | (refine gT ?_; refine bC ?_) | refine gV ?_
   first | refine gS ?_ | (refine gT ?_; refine bH hh 2 ?_) | refine gV ?_
   refine cm (by decide) rfl rfl (by decide) ?_
   first | refine gS ?_ | (refine gT ?_; refine mI ?_) | refine gV ?_
   first | refine gS ?_ | (refine gT ?_; refine mX rfl (by omega) (by omega) (by decide) ?_) | refine gV ?_
   first | refine gS ?_ | (refine gT ?_; refine aU ?_) | refine gV ?_
   first | refine cR ?_ | refine cQ ?_
   refine ae (cF (aj (ai (sr ?_))))
   refine dh hh 0 [_,_] ?_
   refine bE hh 1 [_,_] ?_
   intro ws hh
   replace hh : Hp _ (_ :: .blk _ _ [_, _] _ :: _) _ := hh
   refine ae (ao ?_)
   refine gI (aG rfl (aH (vs := [_, _]) aC.out (hh.au (i := 1) (n := 2) rfl rfl) rfl) a7) ?_
   exact ⟨rfl, hh.below⟩
  ·have hbp := lQ hz
   by_cases hd : 2 ^ m ∣ bN a
   ·have e3 : iv true (sN (bN a / 2 ^ m)) = iv true a / 2 ^ m := by
     rw [e4, e5]; exact tD _ _ hd
    have htz := (x9 hz).1 hd
    refine ak (N := 47) (l := [.agg #[.bool true, .string a], .int .i64 (-(m : Int))]) Tryz.func224 rfl rfl (by simp) ?_
    refine sr ?_
    refine cK hh [_,_] ?_
    intro b2 w2 hh
    refine cv hh ?_
    intro b4 w4 hh
    refine ae (ah (sr (mI ?_)))
    refine dn (ae (cF (aj (ai (sr (mI ?_))))))
    refine kq rfl rfl (by decide) ?_
    refine aI (ae (ah ?_))
    rw [e1]
    refine aX 10 [[(2, none)], [(18, some 0)], [(1, none)], [(20, some 2)], [(19, some 1), (21, some 3)], [(2, none)], [(23, some 5)], [(22, some 4), (24, some 6)], [(25, some 7)], []] [(9, 5), (8, 26), (7, 25), (6, 24), (5, 23), (4, 22), (3, 21), (2, 20), (1, 19), (0, 18)] hh mixed (by kernel_rfl) ?_
    refine cD ?_
    refine dF 1 ?_
    refine eb ?_
    refine bq (i := 3) (fun ρ1 w1 hj hR => ph (show ρ1 20 = Value.int _ _ from hR.1) (by omega) (by omega)) ?_
    refine dC (fun _ hj => hcs _) ?_
    refine cD ?_
    refine dF 1 ?_
    refine dB [_,_] ?_
    refine dC (fun _ hj => dz true (sN (bN a / 2 ^ m)) _) ?_
    refine bj (i := 9) (cN _ 27 _) cN.ext (fun ρ1 w1 hj hR => fI aC.out hj.bl (fun v w2 h hb => ⟨hb, h⟩)) ?_
    refine a0 ?_
    intro f W hJ hV
    have hb_4 := hJ.bl
    obtain ⟨v5, v26, v25, v24, v23, v22, v21, v20, v19, v18, _⟩ := hV
    obtain ⟨b5, e5, hl5, hc5⟩ : cN _ _ _ (f 9) W := v5
    replace hh := hJ.newVar hh hl5 hc5
    refine aN (a4 (aa e5 (aa v26 (aa v25 (aa v24 (aa v23 (aa v22 (aa v21 (aa v20 (aa v19 (aa v18 aM))))))))))) ?_
    dsimp only [ca]
    clear e5 hJ
    rw [e3]
    refine bE hh 0 [_,_] ?_
    intro ws hh
    replace hh : Hp _ (.blk _ _ [_, _] _ :: _) _ := hh
    refine ae (ah (sr (bC ?_)))
    refine bH hh 2 ?_
    refine mB ?_
    first | refine gS ?_ | (refine gT ?_; refine bC ?_) | refine gV ?_
    first | refine gS ?_ | (refine gT ?_; refine bH hh 2 ?_) | refine gV ?_
    refine bu rfl rfl ?_
    refine bG hh (jK a _ (by omega)) rfl ?_
    intro w32 hh
    first | refine gS ?_ | (refine gT ?_; refine bY ?_) | refine gV ?_
    first | refine cR ?_ | refine cQ ?_
    refine mB ?_
    first | refine gS ?_ | (refine gT ?_; refine bC ?_) | refine gV ?_
    first | refine gS ?_ | (refine gT ?_; refine bH hh 2 ?_) | refine gV ?_
    refine bu rfl rfl ?_
    refine bG hh (iF a _ (by omega) (hT.hp hh)) rfl ?_
    intro w38 hh
    first | refine gS ?_ | (refine gT ?_; refine mI ?_) | refine gV ?_
    first | refine gS ?_ | (refine gT ?_; refine mX rfl (by omega) (by omega) (by decide) ?_) | refine gV ?_
    first | refine gS ?_ | (refine gT ?_; refine aU ?_) | refine gV ?_
    first | refine cR ?_ | refine cQ ?_
    refine ae (cF (aj (ai (sr ?_))))
    refine dh hh 0 [_,_] ?_
    refine bE hh 1 [_,_] ?_
    intro ws hh
    replace hh : Hp _ (_ :: .blk _ _ [_, _] _ :: _) _ := hh
    refine ae (ao ?_)
    refine gI (aG rfl (aH (vs := [_, _]) aC.out (hh.au (i := 1) (n := 2) rfl rfl) rfl) a7) ?_
    exact ⟨rfl, hh.below⟩
   ·have e3 : iv true (sN (bN a / 2 ^ m)) - 1 = iv true a / 2 ^ m := by
     rw [e4, e5]; exact rB _ _ hd
    have htz : tz (bN a) < m := Nat.lt_of_not_le fun h => hd ((x9 hz).2 h)
    have hsz : (iM (iv true (sN (bN a / 2 ^ m)))).size ≤ 100000000 := by
     have := mb (bN a) m
     rw [dP, gJ, eD]; omega
    have hsub : ∀ w1, Calls Tryz.prog 255 #[.agg #[.bool (iN (iv true (sN (bN a / 2 ^ m)))), .string (iM (iv true (sN (bN a / 2 ^ m))))], .agg #[.bool (iN 1), .string (iM 1)]] w1 fun e w' => e = .returned (.agg #[.bool (iN (iv true a / 2 ^ m)), .string (iM (iv true a / 2 ^ m))]) ∧ Below w1.heap.size w1 w' := fun w1 => by
     have := u0 (iN (iv true (sN (bN a / 2 ^ m)))) (iN 1) (iM (iv true (sN (bN a / 2 ^ m)))) (iM 1) w1 hsz (by rw [dP, Int.natAbs_one, tf]; omega)
     rw [fC, fC, e3] at this
     exact this
    refine ak (N := 47) (l := [.agg #[.bool true, .string a], .int .i64 (-(m : Int))]) Tryz.func224 rfl rfl (by simp) ?_
    refine sr ?_
    refine cK hh [_,_] ?_
    intro b2 w2 hh
    refine cv hh ?_
    intro b4 w4 hh
    refine ae (ah (sr (mI ?_)))
    refine dn (ae (cF (aj (ai (sr (mI ?_))))))
    refine kq rfl rfl (by decide) ?_
    refine aI (ae (ah ?_))
    rw [e1]
    refine aX 10 [[(2, none)], [(18, some 0)], [(1, none)], [(20, some 2)], [(19, some 1), (21, some 3)], [(2, none)], [(23, some 5)], [(22, some 4), (24, some 6)], [(25, some 7)], []] [(9, 5), (8, 26), (7, 25), (6, 24), (5, 23), (4, 22), (3, 21), (2, 20), (1, 19), (0, 18)] hh mixed (by kernel_rfl) ?_
    refine cD ?_
    refine dF 1 ?_
    refine eb ?_
    refine bq (i := 3) (fun ρ1 w1 hj hR => ph (show ρ1 20 = Value.int _ _ from hR.1) (by omega) (by omega)) ?_
    refine dC (fun _ hj => hcs _) ?_
    refine cD ?_
    refine dF 1 ?_
    refine dB [_,_] ?_
    refine dC (fun _ hj => dz true (sN (bN a / 2 ^ m)) _) ?_
    refine bj (i := 9) (cN _ 27 _) cN.ext (fun ρ1 w1 hj hR => fI aC.out hj.bl (fun v w2 h hb => ⟨hb, h⟩)) ?_
    refine a0 ?_
    intro f W hJ hV
    have hb_4 := hJ.bl
    obtain ⟨v5, v26, v25, v24, v23, v22, v21, v20, v19, v18, _⟩ := hV
    obtain ⟨b5, e5, hl5, hc5⟩ : cN _ _ _ (f 9) W := v5
    replace hh := hJ.newVar hh hl5 hc5
    refine aN (a4 (aa e5 (aa v26 (aa v25 (aa v24 (aa v23 (aa v22 (aa v21 (aa v20 (aa v19 (aa v18 aM))))))))))) ?_
    dsimp only [ca]
    clear e5 hJ
    refine bE hh 0 [_,_] ?_
    intro ws hh
    replace hh : Hp _ (.blk _ _ [_, _] _ :: _) _ := hh
    refine ae (ah (sr (bC ?_)))
    refine bH hh 2 ?_
    refine mB ?_
    first | refine gS ?_ | (refine gT ?_; refine bC ?_) | refine gV ?_
    first | refine gS ?_ | (refine gT ?_; refine bH hh 2 ?_) | refine gV ?_
    refine bu rfl rfl ?_
    refine bG hh (jK a _ (by omega)) rfl ?_
    intro w32 hh
    first | refine gS ?_ | (refine gT ?_; refine bY ?_) | refine gV ?_
    first | refine cR ?_ | refine cQ ?_
    refine mB ?_
    first | refine gS ?_ | (refine gT ?_; refine bC ?_) | refine gV ?_
    first | refine gS ?_ | (refine gT ?_; refine bH hh 2 ?_) | refine gV ?_
    refine bu rfl rfl ?_
    refine bG hh (iF a _ (by omega) (hT.hp hh)) rfl ?_
    intro w38 hh
    first | refine gS ?_ | (refine gT ?_; refine mI ?_) | refine gV ?_
    first | refine gS ?_ | (refine gT ?_; refine mX rfl (by omega) (by omega) (by decide) ?_) | refine gV ?_
    first | refine gS ?_ | (refine gT ?_; refine aU ?_) | refine gV ?_
    first | refine cR ?_ | refine cQ ?_
    refine ae (cT (ah ?_))
    refine aX 2 [[(5, none)], []] [(1, 44), (0, 43)] hh mixed (by kernel_rfl) ?_
    refine ef 0 [_,_] ?_
    refine dC (fun _ hj => mF 1 _ (by omega) (by omega)) ?_
    refine a0 ?_
    intro f W hJ hV
    have hb_6 := hJ.bl
    obtain ⟨v44, v43, _⟩ := hV
    replace hh := hJ.hp
    refine aN (a4 (aa v44 (aa v43 aM))) ?_
    dsimp only [ca]
    clear hJ
    refine bG hh (hsub _) rfl ?_
    intro w45 hh
    refine bE hh 1 [_,_] ?_
    intro ws hh
    replace hh : Hp _ (_ :: .blk _ _ [_, _] _ :: _) _ := hh
    refine ae (ao (az ?_))
    refine gI (aG rfl (aH (vs := [_, _]) aC.out (hh.au (i := 1) (n := 2) rfl rfl) rfl) a7) ?_
    exact ⟨rfl, hh.below⟩
end Go.Proofs.YtaapkaefelhfcaaGreatDoor
namespace Go.Proofs.YtaapkaefelhfcaaGreatDoor
open Go.RowKit
theorem BA : (2 : Rat) ≠ 0 := by decide
theorem two_pos (k : Int) : (0 : Rat) < 2 ^ k := Rat.zpow_pos (by decide)
theorem iQ (i p : Int) : (Dyadic.ofIntWithPrec i p).toRat = i * 2 ^ (-p) := Dyadic.toRat_ofIntWithPrec_eq_mul_two_pow
theorem mv (i p : Int) (n : Nat) : Dyadic.ofIntWithPrec (i * 2 ^ n) (p + n) = Dyadic.ofIntWithPrec i p := by
 rw [← Int.shiftLeft_eq]; exact Dyadic.ofIntWithPrec_shiftLeft_add
theorem jJ (i : Int) {p q : Int} {n : Nat} (h : q = p + n) : Dyadic.ofIntWithPrec i p = Dyadic.ofIntWithPrec (i * 2 ^ n) q := by
 subst h; exact (mv i p n).symm
theorem rf (i j p : Int) : Dyadic.ofIntWithPrec i p + Dyadic.ofIntWithPrec j p = Dyadic.ofIntWithPrec (i + j) p := by
 rw [← Dyadic.toRat_inj, Dyadic.toRat_add, iQ, iQ, iQ, Rat.intCast_add, Rat.add_mul]
theorem q9 (i j p q : Int) : Dyadic.ofIntWithPrec i p * Dyadic.ofIntWithPrec j q = Dyadic.ofIntWithPrec (i * j) (p + q) := by
 rw [← Dyadic.toRat_inj, Dyadic.toRat_mul, iQ, iQ, iQ, Rat.intCast_mul, Int.neg_add, Rat.zpow_add BA]
 grind
theorem rD (i j p : Int) : Dyadic.ofIntWithPrec i p < Dyadic.ofIntWithPrec j p ↔ i < j := by
 rw [← Dyadic.toRat_lt_toRat_iff, iQ, iQ]
 rw [← Rat.intCast_lt_intCast]
 constructor
 ·intro h
  exact Rat.lt_of_mul_lt_mul_right h (Rat.le_of_lt (two_pos _))
 ·intro h
  exact Rat.mul_lt_mul_of_pos_right h (two_pos _)
theorem ke (p : Int) : Dyadic.ofIntWithPrec 0 p = 0 := rfl
theorem Ax {i j p : Int} (h : Dyadic.ofIntWithPrec i p = Dyadic.ofIntWithPrec j p) : i = j := by
 rcases Int.lt_trichotomy i j with h1 | h1 | h1
 ·rw [← rD i j p, h] at h1
  exact absurd h1 (by rw [rD]; omega)
 ·exact h1
 ·rw [← rD j i p, h] at h1
  exact absurd h1 (by rw [rD]; omega)
theorem gQ {i p : Int} (h : Dyadic.ofIntWithPrec i p = 0) : i = 0 := Ax (p := p) (by rw [h]; rfl)
theorem wa (n k : Int) (h : n % 2 = 1) : Dyadic.ofOdd n k h = Dyadic.ofIntWithPrec n k := Dyadic.ofOdd_eq_ofIntWithPrec
theorem wk {i p : Int} (h : i ≠ 0) : Dyadic.ofIntWithPrec i p = .ofOdd (i >>> i.trailingZeros) (p - i.trailingZeros) (Int.shiftRight_trailingZeros_mod_two h) := by
 rw [Dyadic.ofIntWithPrec, dif_neg h]
structure NR where
 neg : Bool
 bJ : ByteArray
 e : Int
def NR.cells (a : NR) : List Value := [.bool a.neg, .string a.bJ, .int .i64 a.e]
theorem NR.len (a : NR) : a.cells.length = 3 := rfl
def NR.i (a : NR) : Int := iv a.neg a.bJ
def NR.d (a : NR) : Dyadic := Dyadic.ofIntWithPrec a.i (-a.e)
def nR : Dyadic → NR
 | .zero => ⟨false, ByteArray.mk #[], 0⟩
 | .ofOdd n k _ => ⟨iN n, iM n, -k⟩
theorem l3 : nR 0 = ⟨false, ByteArray.mk #[], 0⟩ := rfl
theorem dX (x : Dyadic) : (nR x).d = x := by
 cases x with
 | zero => rfl
 | ofOdd n k h =>
  simp only [nR, NR.d, NR.i, fC, Int.neg_neg]
  exact (wa n k h).symm
theorem BN {x y : Dyadic} : nR x = nR y ↔ x = y := ⟨fun h => by rw [← dX x, h, dX], fun h => by rw [h]⟩
theorem BZ (s : Bool) (a : ByteArray) : (iv s a).trailingZeros = tz (bN a) := by
 unfold iv
 split
 ·rw [Int.trailingZeros_neg]; rfl
 ·rfl
theorem vq (s : Bool) (a : ByteArray) : iv s a = 0 ↔ bN a = 0 := by
 have := gJ s a
 omega
theorem mJ {s : Bool} {a : ByteArray} {e : Int} (h : iv s a ≠ 0) : nR (Dyadic.ofIntWithPrec (iv s a) (-e)) = ⟨iN (iv s a / 2 ^ tz (bN a)), iM (iv s a / 2 ^ tz (bN a)), e + tz (bN a)⟩ := by
 rw [wk h, nR, Int.shiftRight_eq_div_pow, BZ]
 have e1 : -(-e - (tz (bN a) : Int)) = e + tz (bN a) := by omega
 rw [e1, Int.natCast_pow]
 rfl
def Sz (k : Nat) (x : Dyadic) : Prop := ∃ i : Int, x = Dyadic.ofIntWithPrec i k ∧ i.natAbs < 2 ^ (2 * k)
theorem Sz.zero (k : Nat) : Sz k 0 := ⟨0, rfl, by simpa using Nat.pow_pos (by omega)⟩
theorem Sz.mono {k l : Nat} {x : Dyadic} (h : Sz k x) (hl : k ≤ l) : Sz l x := by
 obtain ⟨i, rfl, hi⟩ := h
 refine ⟨i * 2 ^ (l - k), jJ i (by omega), ?_⟩
 rw [Int.natAbs_mul, Int.natAbs_pow]
 have h1 : i.natAbs * 2 ^ (l - k) < 2 ^ (2 * k) * 2 ^ (l - k) := Nat.mul_lt_mul_of_pos_right hi (Nat.pow_pos (by omega))
 rw [← Nat.pow_add] at h1
 exact Nat.lt_of_lt_of_le h1 (Nat.pow_le_pow_right (by omega) (by omega))
theorem Sz.add {k : Nat} {x y : Dyadic} (hx : Sz k x) (hy : Sz k y) : Sz (k + 1) (x + y) := by
 obtain ⟨i, rfl, hi⟩ := hx
 obtain ⟨j, rfl, hj⟩ := hy
 rw [rf]
 refine ⟨(i + j) * 2 ^ 1, jJ _ (by omega), ?_⟩
 have h1 : 2 ^ (2 * (k + 1)) = 4 * 2 ^ (2 * k) := by rw [show 2 * (k + 1) = 2 * k + 2 by omega, Nat.pow_add]; omega
 rw [h1]
 omega
theorem Sz.mul {k l : Nat} {x y : Dyadic} (hx : Sz k x) (hy : Sz l y) : Sz (k + l) (x * y) := by
 obtain ⟨i, rfl, hi⟩ := hx
 obtain ⟨j, rfl, hj⟩ := hy
 rw [q9]
 refine ⟨i * j, by rw [Int.natCast_add], ?_⟩
 rw [Int.natAbs_mul, Nat.mul_add, Nat.pow_add]
 exact Nat.mul_lt_mul'' hi hj
theorem mY {i : Int} (h : i ≠ 0) : 2 ^ i.trailingZeros ≤ i.natAbs := by
 have h1 := Int.two_pow_trailingZeros_dvd h
 have h2 := Int.natAbs_dvd_natAbs.2 h1
 rw [Int.natAbs_pow] at h2
 exact Nat.le_of_dvd (by omega) h2
theorem Sz.nr {k : Nat} {x : Dyadic} (h : Sz k x) : (nR x).bJ.size ≤ (2 * k + 7) / 8 ∧ -(k : Int) ≤ (nR x).e ∧ (nR x).e ≤ k := by
 obtain ⟨i, rfl, hi⟩ := h
 by_cases h0 : i = 0
 ·subst h0
  rw [ke, l3]
  exact ⟨Nat.zero_le _, (by omega : -(k : Int) ≤ 0), (by omega : (0 : Int) ≤ k)⟩
 ·have h2 := mY h0
  rw [wk h0, nR]
  simp only
  refine ⟨?_, by omega, ?_⟩
  ·rw [dP]
   have : bM (i >>> i.trailingZeros).natAbs ≤ 2 * k := by
    apply du
    refine Nat.lt_of_le_of_lt ?_ hi
    rw [Int.shiftRight_eq_div_pow]
    exact Int.natAbs_ediv_le_natAbs _ _
   omega
  ·have h3 : 2 ^ i.trailingZeros < 2 ^ (2 * k) := Nat.lt_of_le_of_lt h2 hi
   have := (Nat.pow_lt_pow_iff_right (by omega)).1 h3
   omega
theorem Sz.raw {a : NR} {m E : Nat} (hm : 8 * a.bJ.size ≤ m) (h1 : -(E : Int) ≤ a.e) (h2 : a.e ≤ E) : Sz (m + E) a.d := by
 refine ⟨a.i * 2 ^ (a.e + m + E).toNat, jJ _ (by omega), ?_⟩
 have h3 : a.i.natAbs < 2 ^ m := by
  rw [NR.i, gJ]
  refine Nat.lt_of_lt_of_le (df _) (Nat.pow_le_pow_right (by omega) ?_)
  have := eJ a.bJ
  omega
 rw [Int.natAbs_mul, Int.natAbs_pow]
 have h4 := Nat.mul_lt_mul_of_pos_right h3 (Nat.pow_pos (n := (a.e + m + E).toNat) (show 0 < 2 by omega))
 rw [← Nat.pow_add] at h4
 exact Nat.lt_of_lt_of_le h4 (Nat.pow_le_pow_right (by omega) (by omega))
def vm (i n : Int) : Int := if 0 ≤ n then i * 2 ^ n.toNat else i / 2 ^ (-n).toNat
theorem yk (n : Int) : vm 0 n = 0 := by unfold vm; split <;> simp
def cY : Dyadic → Int → Int
 | .zero, _ => 0
 | .ofOdd n k _, p => vm n (p - k)
def dt : Dyadic → Dyadic → Int
 | .zero, .zero => 0
 | .zero, .ofOdd _ k _ => k
 | .ofOdd _ k _, .zero => k
 | .ofOdd _ k _, .ofOdd _ l _ => max k l
theorem kC (n k p : Int) (h : n % 2 = 1) (hp : k ≤ p) : Dyadic.ofIntWithPrec (cY (.ofOdd n k h) p) p = .ofOdd n k h := by
 simp only [cY]
 rw [wa, vm, if_pos (by omega)]
 exact (jJ n (by omega)).symm
theorem B6 (x y : Dyadic) : Dyadic.ofIntWithPrec (cY x (dt x y)) (dt x y) = x := by
 cases x with
 | zero => rfl
 | ofOdd n k h =>
  cases y with
  | zero => exact kC _ _ _ _ (Int.le_refl _)
  | ofOdd m l g => exact kC _ _ _ _ (Int.le_max_left _ _)
theorem Ce (x y : Dyadic) : Dyadic.ofIntWithPrec (cY y (dt x y)) (dt x y) = y := by
 cases y with
 | zero => rfl
 | ofOdd n k h =>
  cases x with
  | zero => exact kC _ _ _ _ (Int.le_refl _)
  | ofOdd m l g => exact kC _ _ _ _ (Int.le_max_right _ _)
theorem zO (x y : Dyadic) : Dyadic.ofIntWithPrec (cY x (dt x y) + cY y (dt x y)) (dt x y) = x + y := by
 rw [← rf, B6, Ce]
theorem yK (i n : Int) : bM (vm i n).natAbs ≤ bM i.natAbs + n.toNat := by
 unfold vm
 split
 ·rw [Int.natAbs_mul, Int.natAbs_pow]
  exact gy _ _
 ·have : bM (i / 2 ^ (-n).toNat).natAbs ≤ bM i.natAbs := du (Nat.lt_of_le_of_lt (Int.natAbs_ediv_le_natAbs _ _) (df _))
  omega
theorem wx (x y : Dyadic) (E : Int) (h1 : -E ≤ (nR x).e ∧ (nR x).e ≤ E) (h2 : -E ≤ (nR y).e ∧ (nR y).e ≤ E) : -E ≤ dt x y ∧ dt x y ≤ E := by
 cases x <;> cases y <;> simp only [nR, dt] at * <;> omega
theorem nS (x : Dyadic) (p : Int) : bM (cY x p).natAbs ≤ 8 * (nR x).bJ.size + (p + (nR x).e).toNat := by
 cases x with
 | zero => simp [cY, jf]
 | ofOdd n k h =>
  have h1 := yK n (p - k)
  have h2 := eJ (iM n)
  rw [iM, eD] at h2
  simp only [cY, nR]
  rw [show p + -k = p - k by omega]
  rw [← iM] at h2
  omega
end Go.Proofs.YtaapkaefelhfcaaGreatDoor
/- Several texts in one: Dyad, DyadB, DyadC, CmpD. -/
namespace Go.Proofs.YtaapkaefelhfcaaGreatDoor
open Go.RowKit
variable {ro : Mode}
theorem vE {P : Program} {t : TypeId} {n by' : Nat} {zc : List Value} {cs : Array Value} {off : Nat} {v : Value} (ht : db P t = some (n, false, by', zc)) (hv : cs[off]? = some v) (w : World) : (part t cs off).run P w = .ok v w := by
 simp [part, iK ht, hv]
theorem A0 {P : Program} {t : TypeId} {n by' : Nat} {zc : List Value} {cs vs : Array Value} {off : Nat} (ht : db P t = some (n, true, by', zc)) (hv : cs.extract off (off + n) = vs) (w : World) : (part t cs off).run P w = .ok (.agg vs) w := by
 simp [part, iK ht, dQ ht, hv]
theorem CE (n : Nat) (a b : Bool) (w : World) : (Op.equalIn (n + 1) 4 (.bool a) (.bool b)).run Tryz.prog w = .ok (a == b) w := by
 simp [Op.equalIn, run_underlying Tryz.underlying4]
theorem B3 (n : Nat) (a b : ByteArray) (w : World) : (Op.equalIn (n + 1) 9 (.string a) (.string b)).run Tryz.prog w = .ok (a == b) w := by
 simp [Op.equalIn, run_underlying Tryz.underlying9]
theorem CF (n : Nat) (a b : Int) (w : World) : (Op.equalIn (n + 1) 3 (.int .i64 a) (.int .i64 b)).run Tryz.prog w = .ok (a == b) w := by
 simp [Op.equalIn, run_underlying Tryz.underlying3]
theorem eq_int (n : Nat) (s s' : Bool) (a a' : ByteArray) (w : World) : (Op.equalIn (n + 2) 27 (.agg #[.bool s, .string a]) (.agg #[.bool s', .string a'])).run Tryz.prog w = .ok (s == s' && a == a') w := by
 have h1 := fun (x : Bool) (y : ByteArray) => vE (P := Tryz.prog) (cs := #[.bool x, .string y]) (off := 0) (aC.out (P := Tryz.prog) (t := 4)) rfl
 have h2 := fun (x : Bool) (y : ByteArray) => vE (P := Tryz.prog) (cs := #[.bool x, .string y]) (off := 1) (aC.out (P := Tryz.prog) (t := 9)) rfl
 rw [Op.equalIn]
 simp [run_underlying Tryz.underlying27, h1, h2, CE, B3]
 cases h : s == s' <;> cases h' : a == a' <;> simp_all
theorem ui (n : Nat) (s s' : Bool) (a a' : ByteArray) (e e' : Int) (w : World) : (Op.equalIn (n + 3) 29 (.agg #[.bool s, .string a, .int .i64 e]) (.agg #[.bool s', .string a', .int .i64 e'])).run Tryz.prog w = .ok ((s == s' && a == a') && e == e') w := by
 have h1 := fun (x : Bool) (y : ByteArray) (z : Int) => A0 (P := Tryz.prog) (cs := #[.bool x, .string y, .int .i64 z]) (vs := #[.bool x, .string y]) (off := 0) (aC.out (P := Tryz.prog) (t := 27)) rfl
 have h2 := fun (x : Bool) (y : ByteArray) (z : Int) => vE (P := Tryz.prog) (cs := #[.bool x, .string y, .int .i64 z]) (off := 2) (aC.out (P := Tryz.prog) (t := 3)) rfl
 rw [Op.equalIn]
 simp [run_underlying Tryz.underlying29, h1, h2, eq_int, CF]
 cases h : s == s' <;> cases h' : a == a' <;> cases h2 : e == e' <;> simp_all
section
variable {ρ : Rf} {w : World} {d : Option Nat} {ty u : TypeId} {pos : String} {af : Array Edge} {g : Option (Nat × Bool)} {x y : Operand} {s s' : Bool} {a a' : ByteArray} {e e' : Int}
theorem yp {a b : ByteArray} : (a == b) = true ↔ a = b := by
 have : (a == b) = (a.data == b.data) := rfl
 rw [this, beq_iff_eq]
 exact ⟨fun h => by cases a; cases b; simp_all, fun h => by rw [h]⟩
theorem lG : ((s == s' && a == a') && e == e') = true ↔ NR.mk s a e = NR.mk s' a' e' := by
 rw [Bool.and_eq_true, Bool.and_eq_true, beq_iff_eq, yp, beq_iff_eq, NR.mk.injEq, and_assoc]
theorem AV {r : Bool} (hx : ev ρ x = .agg #[.bool s, .string a, .int .i64 e]) (hy : ev ρ y = .agg #[.bool s', .string a', .int .i64 e']) (hr : ((s == s' && a == a') && e == e') = r) :
  (execOp (ev ρ) ⟨d, .binOp .eql 29 x y u, ty, pos, af, g⟩).run Tryz.prog w = .ok (.value (.bool r)) w := by
 have h1 : (Op.equal 29 (.agg #[.bool s, .string a, .int .i64 e]) (.agg #[.bool s', .string a', .int .i64 e'])).run Tryz.prog w = .ok r w := by rw [← hr]; exact ui 9997 s s' a a' e e' w
 simp only [execOp, hx, hy]
 simp [eqGuard, binOp, h1]
theorem AR {r : Bool} (hx : ev ρ x = .agg #[.bool s, .string a, .int .i64 e]) (hy : ev ρ y = .agg #[.bool s', .string a', .int .i64 e']) (hr : ((s == s' && a == a') && e == e') = r) :
  (execOp (ev ρ) ⟨d, .binOp .neq 29 x y u, ty, pos, af, g⟩).run Tryz.prog w = .ok (.value (.bool !r)) w := by
 have h1 : (Op.equal 29 (.agg #[.bool s, .string a, .int .i64 e]) (.agg #[.bool s', .string a', .int .i64 e'])).run Tryz.prog w = .ok r w := by rw [← hr]; exact ui 9997 s s' a a' e e' w
 simp only [execOp, hx, hy]
 simp [eqGuard, binOp, h1]
theorem vT (hx : ev ρ x = .agg #[.bool s, .string a, .int .i64 e]) (hy : ev ρ y = .agg #[.bool s', .string a', .int .i64 e']) (h : NR.mk s a e = NR.mk s' a' e') :
  (execOp (ev ρ) ⟨d, .binOp .eql 29 x y u, ty, pos, af, g⟩).run Tryz.prog w = .ok (.value (.bool true)) w := AV hx hy (lG.2 h)
theorem wu (hx : ev ρ x = .agg #[.bool s, .string a, .int .i64 e]) (hy : ev ρ y = .agg #[.bool s', .string a', .int .i64 e']) (h : ¬ NR.mk s a e = NR.mk s' a' e') :
  (execOp (ev ρ) ⟨d, .binOp .eql 29 x y u, ty, pos, af, g⟩).run Tryz.prog w = .ok (.value (.bool false)) w := AV hx hy (by rw [Bool.eq_false_iff]; exact fun h1 => h (lG.1 h1))
theorem jN (hx : ev ρ x = .agg #[.bool s, .string a, .int .i64 e]) (hy : ev ρ y = .agg #[.bool s', .string a', .int .i64 e']) (h : NR.mk s a e = NR.mk s' a' e') :
  (execOp (ev ρ) ⟨d, .binOp .neq 29 x y u, ty, pos, af, g⟩).run Tryz.prog w = .ok (.value (.bool false)) w := AR hx hy (lG.2 h)
theorem jF (hx : ev ρ x = .agg #[.bool s, .string a, .int .i64 e]) (hy : ev ρ y = .agg #[.bool s', .string a', .int .i64 e']) (h : ¬ NR.mk s a e = NR.mk s' a' e') :
  (execOp (ev ρ) ⟨d, .binOp .neq 29 x y u, ty, pos, af, g⟩).run Tryz.prog w = .ok (.value (.bool true)) w := AR hx hy (r := false) (by rw [Bool.eq_false_iff]; exact fun h1 => h (lG.1 h1))
end
section
variable {N : Nat} {ops : Array Oper} {Q : Kq} {ρ : Rf} {w : World} {rest : List Oper} {d : Nat} {ty u : TypeId} {pos : String} {af : Array Edge} {x y : Operand} {s s' : Bool} {a a' : ByteArray} {e e' : Int}
theorem lJ (hx : ev ρ x = .agg #[.bool s, .string a, .int .i64 e]) (hy : ev ρ y = .agg #[.bool s', .string a', .int .i64 e']) (h : NR.mk s a e = NR.mk s' a' e') (hN : d < N) (kk : WL ro Tryz.prog N ops Q rest (cL ρ d (.bool true)) w) :
  WL ro Tryz.prog N ops Q (⟨some d, .binOp .eql 29 x y u, ty, pos, af, none⟩ :: rest) ρ w := a8 rfl rfl hN (vT hx hy h) kk
theorem l9 (hx : ev ρ x = .agg #[.bool s, .string a, .int .i64 e]) (hy : ev ρ y = .agg #[.bool s', .string a', .int .i64 e']) (h : ¬ NR.mk s a e = NR.mk s' a' e') (hN : d < N) (kk : WL ro Tryz.prog N ops Q rest (cL ρ d (.bool false)) w) :
  WL ro Tryz.prog N ops Q (⟨some d, .binOp .eql 29 x y u, ty, pos, af, none⟩ :: rest) ρ w := a8 rfl rfl hN (wu hx hy h) kk
theorem nB (hx : ev ρ x = .agg #[.bool s, .string a, .int .i64 e]) (hy : ev ρ y = .agg #[.bool s', .string a', .int .i64 e']) (h : ¬ NR.mk s a e = NR.mk s' a' e') (hN : d < N) (kk : WL ro Tryz.prog N ops Q rest (cL ρ d (.bool true)) w) :
  WL ro Tryz.prog N ops Q (⟨some d, .binOp .neq 29 x y u, ty, pos, af, none⟩ :: rest) ρ w := a8 rfl rfl hN (jF hx hy h) kk
theorem nO (hx : ev ρ x = .agg #[.bool s, .string a, .int .i64 e]) (hy : ev ρ y = .agg #[.bool s', .string a', .int .i64 e']) (h : NR.mk s a e = NR.mk s' a' e') (hN : d < N) (kk : WL ro Tryz.prog N ops Q rest (cL ρ d (.bool false)) w) :
  WL ro Tryz.prog N ops Q (⟨some d, .binOp .neq 29 x y u, ty, pos, af, none⟩ :: rest) ρ w := a8 rfl rfl hN (jN hx hy h) kk
end
theorem lN (s : Bool) (a : ByteArray) (n : Int) (w : World) (hT : hG w) (ha : a.size ≤ 100000000) (h1 : -1000000000 ≤ n) (h2 : n ≤ 1000000000) :
  Calls Tryz.prog 224 #[.agg #[.bool s, .string a], .int .i64 n] w fun e w' => e = .returned (.agg #[.bool (iN (vm (iv s a) n)), .string (iM (vm (iv s a) n))]) ∧ Below w.heap.size w w' := by
 unfold vm
 by_cases h : 0 ≤ n
 ·rw [if_pos h]
  obtain ⟨m, rfl⟩ := Int.eq_ofNat_of_zero_le h
  rw [Int.toNat_natCast]
  exact ue s a m w ha (by omega)
 ·rw [if_neg h]
  obtain ⟨m, hm⟩ := Int.eq_ofNat_of_zero_le (show 0 ≤ -n by omega)
  rw [hm, Int.toNat_natCast, show n = -(m : Int) by omega]
  exact u1 s a m w hT ha (by omega) (by omega)
theorem iW (s : Bool) (a : ByteArray) (e : Int) (w : World) (hT : hG w) (ha : a.size ≤ 100000000) (h1 : -1000000000000 ≤ e) (h2 : e ≤ 1000000000000) :
  Calls Tryz.prog 164 #[.agg #[.bool s, .string a], .int .i64 e] w fun r w' => r = .returned (.agg #[.bool (nR (Dyadic.ofIntWithPrec (iv s a) (-e))).neg, .string (nR (Dyadic.ofIntWithPrec (iv s a) (-e))).bJ, .int .i64 (nR (Dyadic.ofIntWithPrec (iv s a) (-e))).e]) ∧ Below w.heap.size w w' := by
 have hh := Hp.start w
 by_cases h0 : iv s a = 0
 ·rw [h0, ke, l3]
  refine ak (N := 21) (l := [.agg #[.bool s, .string a], .int .i64 e]) Tryz.func164 rfl rfl (by simp) ?_
  refine sr ?_
  refine cK hh [_,_] ?_
  intro b2 w2 hh
  refine cv hh ?_
  intro b4 w4 hh
  refine ae (ah (sr ?_))
  refine dh hh 1 [_,_] ?_
  refine bG hh (jZ s a _) rfl ?_
  intro w7 hh
  rw [h0]
  refine ck (ae (cT (sr ?_)))
  refine ep [_,_,_] ?_
  refine bE hh 0 [_,_,_] ?_
  intro ws hh
  replace hh : Hp _ (.blk _ _ [_, _, _] _ :: _) _ := hh
  refine ae (ao (az ?_))
  refine gI (aG rfl (aH (vs := [_, _, _]) aC.out (hh.au (i := 0) (n := 3) rfl rfl) rfl) a7) ?_
  exact ⟨rfl, hh.below⟩
 ·have hs : (iv s a).sign ≠ 0 := by rw [ne_eq, Int.sign_eq_zero_iff_zero]; exact h0
  rw [mJ h0]
  have hz : bN a ≠ 0 := fun h => h0 ((vq s a).2 h)
  have htz : tz (bN a) < 8 * a.size + 1 := by
   have := qt a
   rw [show (256 : Nat) = 2 ^ 8 from rfl, ← Nat.pow_mul] at this
   have := qD hz this
   omega
  have hsh : vm (iv s a) (-(tz (bN a) : Int)) = iv s a / 2 ^ tz (bN a) := by
   unfold vm
   split
   ·have : tz (bN a) = 0 := by omega
    rw [this]; simp
   ·rw [Int.neg_neg, Int.toNat_natCast]
  refine ak (N := 21) (l := [.agg #[.bool s, .string a], .int .i64 e]) Tryz.func164 rfl rfl (by simp) ?_
  refine sr ?_
  refine cK hh [_,_] ?_
  intro b2 w2 hh
  refine cv hh ?_
  intro b4 w4 hh
  refine ae (ah (sr ?_))
  refine dh hh 1 [_,_] ?_
  refine bG hh (jZ s a _) rfl ?_
  intro w7 hh
  refine ck (ae (cF (aj (ai (sr (bC ?_))))))
  refine bH hh 1 ?_
  refine bG hh (iF a _ (by omega) (hT.hp hh)) rfl ?_
  intro w12 hh
  refine aI (ae (sr ?_))
  refine dh hh 1 [_,_] (mI ?_)
  refine mX rfl (by omega) (by omega) (by decide) ?_
  refine bG hh (lN s a (-(tz (bN a) : Int)) _ (hT.hp hh) ha (by omega) (by omega)) rfl ?_
  intro w16 hh
  rw [hsh]
  refine mI (mI ?_)
  refine bL ?_
  refine ep [_,_,_] ?_
  refine bE hh 0 [_,_,_] ?_
  intro ws hh
  replace hh : Hp _ (.blk _ _ [_, _, _] _ :: _) _ := hh
  refine ae (ao ?_)
  refine gI (aG rfl (aH (vs := [_, _, _]) aC.out (hh.au (i := 0) (n := 3) rfl rfl) rfl) a7) ?_
  exact ⟨rfl, hh.below⟩
def NR.ok (a : NR) : Prop := a.bJ.size ≤ 1000000 ∧ -10000000 ≤ a.e ∧ a.e ≤ 10000000
theorem Sz.ok {k : Nat} {x : Dyadic} (h : Sz k x) (hk : k ≤ 3999990) : (nR x).ok := by
 have := h.nr
 refine ⟨by omega, by omega, by omega⟩
theorem mK (n : Int) (w : World) (hT : hG w) (h1 : -9223372036854775808 ≤ n) (h2 : n ≤ 9223372036854775807) :
  Calls Tryz.prog 68 #[.int .i64 n] w fun r w' => r = .returned (.agg #[.bool (nR (n : Dyadic)).neg, .string (nR (n : Dyadic)).bJ, .int .i64 (nR (n : Dyadic)).e]) ∧ Below w.heap.size w w' := by
 have hh := Hp.start w
 have hsz : (iM n).size ≤ 100000000 := by
  rw [dP]
  have : bM n.natAbs ≤ 64 := du (by omega)
  omega
 have hc : ∀ w1, hG w1 → Calls Tryz.prog 164 #[.agg #[.bool (iN n), .string (iM n)], .int .i64 0] w1 fun r w' => r = .returned (.agg #[.bool (nR (n : Dyadic)).neg, .string (nR (n : Dyadic)).bJ, .int .i64 (nR (n : Dyadic)).e]) ∧ Below w1.heap.size w1 w' := fun w1 hT1 => by
  have := iW (iN n) (iM n) 0 w1 hT1 hsz (by omega) (by omega)
  rw [fC] at this
  exact this
 refine ak (N := 6) (l := [.int .i64 n]) Tryz.func68 rfl rfl (by simp) ?_
 refine sr ?_
 refine cv hh ?_
 intro b2 w2 hh
 refine ae (sr (mI ?_))
 refine bG hh (mF n _ h1 h2) rfl ?_
 intro w4 hh
 refine bG hh (hc _ (hT.hp hh)) rfl ?_
 intro w5 hh
 refine bE hh 0 [_,_,_] ?_
 intro ws hh
 replace hh : Hp _ (.blk _ _ [_, _, _] _ :: _) _ := hh
 refine ae (ao ?_)
 refine gI (aG rfl (aH (vs := [_, _, _]) aC.out (hh.au (i := 0) (n := 3) rfl rfl) rfl) a7) ?_
 exact ⟨rfl, hh.below⟩
theorem eH (a : NR) (w : World) (hT : hG w) (ha : a.bJ.size ≤ 100000000) (h1 : -1000000000000 ≤ a.e) (h2 : a.e ≤ 1000000000000) :
  Calls Tryz.prog 159 #[.agg #[.bool a.neg, .string a.bJ, .int .i64 a.e]] w fun r w' => r = .returned (.agg #[.bool (nR a.d).neg, .string (nR a.d).bJ, .int .i64 (nR a.d).e]) ∧ Below w.heap.size w w' := by
 have hh := Hp.start w
 refine ak (N := 8) (l := [.agg #[.bool a.neg, .string a.bJ, .int .i64 a.e]]) Tryz.func159 rfl rfl (by simp) ?_
 refine sr ?_
 refine cK hh [_,_,_] ?_
 intro b1 w1 hh
 refine cv hh ?_
 intro b2 w2 hh
 refine ae (sr (bC ?_))
 refine dh hh 1 [_,_] (bC ?_)
 refine bH hh 1 ?_
 refine bG hh (iW a.neg a.bJ a.e _ (hT.hp hh) ha h1 h2) rfl ?_
 intro w7 hh
 refine bE hh 0 [_,_,_] ?_
 intro ws hh
 replace hh : Hp _ (.blk _ _ [_, _, _] _ :: _) _ := hh
 refine ae (ao ?_)
 refine gI (aG rfl (aH (vs := [_, _, _]) aC.out (hh.au (i := 0) (n := 3) rfl rfl) rfl) a7) ?_
 exact ⟨rfl, hh.below⟩
theorem nl (a : NR) (w : World) :
  Calls Tryz.prog 180 #[.agg #[.bool a.neg, .string a.bJ, .int .i64 a.e]] w fun r w' => r = .returned (.int .i64 a.i.sign) ∧ Below w.heap.size w w' := by
 have hh := Hp.start w
 refine ak (N := 6) (l := [.agg #[.bool a.neg, .string a.bJ, .int .i64 a.e]]) Tryz.func180 rfl rfl (by simp) ?_
 refine sr ?_
 refine cK hh [_,_,_] ?_
 intro b1 w1 hh
 refine aI (ae (sr (bC ?_)))
 refine dh hh 0 [_,_] ?_
 refine bG hh (jZ a.neg a.bJ _) rfl ?_
 intro w5 hh
 refine aI (ae (ao ?_))
 refine cA ?_
 exact ⟨rfl, hh.below⟩
theorem qw (s : Int) (a : NR) (w : World) (hT : hG w) (ha : a.bJ.size ≤ 100000000) (h1 : -1000000000 ≤ a.e - s) (h2 : a.e - s ≤ 1000000000) :
  Calls Tryz.prog 221 #[.int .i64 s, .agg #[.bool a.neg, .string a.bJ, .int .i64 a.e]] w fun r w' => r = .returned (.agg #[.bool (iN (vm a.i (a.e - s))), .string (iM (vm a.i (a.e - s)))]) ∧ Below w.heap.size w w' := by
 have hh := Hp.start w
 refine ak (N := 12) (l := [.int .i64 s, .agg #[.bool a.neg, .string a.bJ, .int .i64 a.e]]) Tryz.func221 rfl rfl (by simp) ?_
 refine sr ?_
 refine cK hh [_,_,_] ?_
 intro b3 w3 hh
 refine cv hh ?_
 intro b4 w4 hh
 refine ae (sr (bC ?_))
 refine dh hh 1 [_,_] (bC ?_)
 refine bH hh 1 ?_
 refine mI ?_
 refine eB ?_
 refine bG hh (lN a.neg a.bJ (a.e - s) _ (hT.hp hh) ha h1 h2) rfl ?_
 intro w11 hh
 refine bE hh 0 [_,_] ?_
 intro ws hh
 replace hh : Hp _ (.blk _ _ [_, _] _ :: _) _ := hh
 refine ae (ao ?_)
 refine gI (aG rfl (aH (vs := [_, _]) aC.out (hh.au (i := 0) (n := 2) rfl rfl) rfl) a7) ?_
 exact ⟨rfl, hh.below⟩
theorem uZ (x : Dyadic) (p : Int) : vm (nR x).i ((nR x).e - -p) = cY x p := by
 cases x with
 | zero => exact yk _
 | ofOdd n k h =>
  simp only [nR, NR.i, fC, cY]
  congr 1
  omega
theorem iS (x : Dyadic) : nR x = ⟨false, ByteArray.mk #[], 0⟩ ↔ x = 0 := by rw [← l3, BN]
theorem js {a : NR} (h : a.ok) : Sz 18000000 a.d ∧ (nR a.d).bJ.size ≤ 1000000 ∧ -18000000 ≤ (nR a.d).e ∧ (nR a.d).e ≤ 18000000 := by
 obtain ⟨h1, h2, h3⟩ := h
 refine ⟨Sz.raw (m := 8000000) (E := 10000000) (by omega) (by omega) (by omega), ?_⟩
 by_cases h0 : iv a.neg a.bJ = 0
 ·rw [NR.d, NR.i, h0, ke, l3]
  exact ⟨Nat.zero_le _, by simp, by simp⟩
 ·rw [NR.d, NR.i, mJ h0]
  have hz : bN a.bJ ≠ 0 := fun h => h0 ((vq a.neg a.bJ).2 h)
  have htz : tz (bN a.bJ) < 8 * a.bJ.size + 1 := by
   have := qt a.bJ
   rw [show (256 : Nat) = 2 ^ 8 from rfl, ← Nat.pow_mul] at this
   have := qD hz this
   omega
  have hb : bM (iv a.neg a.bJ / 2 ^ tz (bN a.bJ)).natAbs ≤ 8 * a.bJ.size := by
   apply du
   refine Nat.lt_of_le_of_lt (Int.natAbs_ediv_le_natAbs _ _) ?_
   rw [gJ]
   exact Nat.lt_of_lt_of_le (df _) (Nat.pow_le_pow_right (by omega) (eJ _))
  simp only
  rw [dP]
  refine ⟨by omega, by omega, by omega⟩
theorem rk (a b : NR) (w : World) (hT : hG w) (ha : a.ok) (hb : b.ok) :
  Calls Tryz.prog 163 #[.agg #[.bool a.neg, .string a.bJ, .int .i64 a.e], .agg #[.bool b.neg, .string b.bJ, .int .i64 b.e]] w fun r w' => r = .returned (.agg #[.int .i64 (-(dt a.d b.d)), .bool (iN (cY a.d (dt a.d b.d))), .string (iM (cY a.d (dt a.d b.d))), .bool (iN (cY b.d (dt a.d b.d))), .string (iM (cY b.d (dt a.d b.d)))]) ∧ Below w.heap.size w w' := by
 have hh := Hp.start w
 obtain ⟨ha1, ha2, ha3⟩ := ha
 obtain ⟨hb1, hb2, hb3⟩ := hb
 obtain ⟨_, fa1, fa2, fa3⟩ := js (a := a) ⟨ha1, ha2, ha3⟩
 obtain ⟨_, fb1, fb2, fb3⟩ := js (a := b) ⟨hb1, hb2, hb3⟩
 have hP := wx a.d b.d 18000000 (by omega) (by omega)
 have hcx := fun w1 hT1 => qw (-(dt a.d b.d)) (nR a.d) w1 hT1 (by omega) (by omega) (by omega)
 have hcy := fun w1 hT1 => qw (-(dt a.d b.d)) (nR b.d) w1 hT1 (by omega) (by omega) (by omega)
 rw [uZ] at hcx hcy
 by_cases h0 : a.d = 0
 ·have h0' := (iS a.d).2 h0
  have hs : (nR b.d).e = -(dt a.d b.d) := by
   rw [h0]
   cases b.d with
   | zero => rfl
   | ofOdd n k h => rfl
  refine ak (N := 41) (l := [.agg #[.bool a.neg, .string a.bJ, .int .i64 a.e], .agg #[.bool b.neg, .string b.bJ, .int .i64 b.e]]) Tryz.func163 rfl rfl (by simp) ?_
  refine sr ?_
  refine cK hh [_,_,_] ?_
  intro b2 w2 hh
  refine cK hh [_,_,_] ?_
  intro b3 w3 hh
  refine cv hh ?_
  intro b4 w4 hh
  refine ae (ah ?_)
  refine aX 3 [[(2, none)], [(7, some 0)], [(3, none)]] [(2, 9), (1, 8), (0, 7)] hh mixed (by kernel_rfl) ?_
  refine ef 2 [_,_,_] ?_
  refine dC (fun _ hj => eH a _ (hT.hp hj.hp) (by omega) (by omega) (by omega)) ?_
  refine ef 1 [_,_,_] ?_
  refine a0 ?_
  intro f W hJ hV
  have hb_1 := hJ.bl
  obtain ⟨v9, v8, v7, _⟩ := hV
  replace hh := hJ.hp
  refine aN (a4 (aa v9 (aa v8 (aa v7 aM)))) ?_
  dsimp only [ca]
  clear hJ
  refine bG hh (eH b _ (hT.hp hh) (by omega) (by omega) (by omega)) rfl ?_
  intro w10 hh
  refine bE hh 2 [_,_,_] ?_
  intro ws hh
  replace hh : Hp _ (_ :: _ :: .blk _ _ [_, _, _] _ :: _) _ := hh
  refine bE hh 1 [_,_,_] ?_
  intro ws hh
  replace hh : Hp _ (_ :: .blk _ _ [_, _, _] _ :: _) _ := hh
  refine ae (sr (bC ?_))
  refine bH hh 2 ?_
  refine bC ?_
  refine bH hh 1 ?_
  refine xS rfl rfl (by decide) ?_
  refine aI (ae (ah (al (sr ?_))))
  refine dh hh 2 [_,_,_] ?_
  refine ep [_,_,_] ?_
  first | refine lJ rfl rfl (by first | assumption | rfl) (by decide) ?_ | refine l9 rfl rfl (by assumption) (by decide) ?_
  refine aB (ae (cT (aq (bC ?_))))
  refine bH hh 1 ?_
  refine aI (aE (aW (ai (sr ?_))))
  rw [hs]
  refine mI ?_
  refine ep [_,_,_,_,_] ?_
  refine cv hh ?_
  intro b6 w6 hh
  refine bE hh 0 [_,_,_,_,_] ?_
  intro ws hh
  replace hh : Hp _ (.blk _ _ [_, _, _, _, _] _ :: _) _ := hh
  refine ae (ah ?_)
  refine aX 9 [[(6, none)], [(30, some 0)], [(2, none)], [(31, some 1), (32, some 2)], [(6, none)], [(34, some 4)], [(3, none)], [(35, some 5), (36, some 6)], [(6, none)]] [(8, 38), (7, 37), (6, 36), (5, 35), (4, 34), (3, 33), (2, 32), (1, 31), (0, 30)] hh mixed (by kernel_rfl) ?_
  refine cD ?_
  refine dF 0 ?_
  refine ef 3 [_,_,_] ?_
  refine dC (fun _ hj => hcx _ (hT.hp hj.hp)) ?_
  refine cD ?_
  refine dF 0 ?_
  refine ef 2 [_,_,_] ?_
  refine dC (fun _ hj => hcy _ (hT.hp hj.hp)) ?_
  refine cD ?_
  refine a0 ?_
  intro f W hJ hV
  have hb_8 := hJ.bl
  obtain ⟨v38, v37, v36, v35, v34, v33, v32, v31, v30, _⟩ := hV
  replace hh := hJ.hp
  refine aN (a4 (aa v38 (aa v37 (aa v36 (aa v35 (aa v34 (aa v33 (aa v32 (aa v31 (aa v30 aM)))))))))) ?_
  dsimp only [ca]
  clear hJ
  refine bE hh 0 [_,_] ?_
  intro ws hh
  replace hh : Hp _ (.blk _ _ [_, _, _, _, _] _ :: _) _ := hh
  refine bC ?_
  refine bE hh 0 [_,_] ?_
  intro ws hh
  replace hh : Hp _ (.blk _ _ [_, _, _, _, _] _ :: _) _ := hh
  refine ae (sr ?_)
  refine dh hh 0 [_,_,_,_,_] ?_
  refine bE hh 1 [_,_,_,_,_] ?_
  intro ws hh
  replace hh : Hp _ (_ :: .blk _ _ [_, _, _, _, _] _ :: _) _ := hh
  refine ae (ao ?_)
  refine gI (aG rfl (aH (vs := [_, _, _, _, _]) aC.out (hh.au (i := 1) (n := 5) rfl rfl) rfl) a7) ?_
  exact ⟨rfl, hh.below⟩
 ·have h0' : ¬ nR a.d = ⟨false, ByteArray.mk #[], 0⟩ := fun h => h0 ((iS _).1 h)
  by_cases h1 : b.d = 0
  ·have h1' := (iS b.d).2 h1
   have hs : (nR a.d).e = -(dt a.d b.d) := by
    rw [h1]
    cases a.d with
    | zero => rfl
    | ofOdd n k h => rfl
   refine ak (N := 41) (l := [.agg #[.bool a.neg, .string a.bJ, .int .i64 a.e], .agg #[.bool b.neg, .string b.bJ, .int .i64 b.e]]) Tryz.func163 rfl rfl (by simp) ?_
   refine sr ?_
   refine cK hh [_,_,_] ?_
   intro b2 w2 hh
   refine cK hh [_,_,_] ?_
   intro b3 w3 hh
   refine cv hh ?_
   intro b4 w4 hh
   refine ae (ah ?_)
   refine aX 3 [[(2, none)], [(7, some 0)], [(3, none)]] [(2, 9), (1, 8), (0, 7)] hh mixed (by kernel_rfl) ?_
   refine ef 2 [_,_,_] ?_
   refine dC (fun _ hj => eH a _ (hT.hp hj.hp) (by omega) (by omega) (by omega)) ?_
   refine ef 1 [_,_,_] ?_
   refine a0 ?_
   intro f W hJ hV
   have hb_1 := hJ.bl
   obtain ⟨v9, v8, v7, _⟩ := hV
   replace hh := hJ.hp
   refine aN (a4 (aa v9 (aa v8 (aa v7 aM)))) ?_
   dsimp only [ca]
   clear hJ
   refine bG hh (eH b _ (hT.hp hh) (by omega) (by omega) (by omega)) rfl ?_
   intro w10 hh
   refine bE hh 2 [_,_,_] ?_
   intro ws hh
   replace hh : Hp _ (_ :: _ :: .blk _ _ [_, _, _] _ :: _) _ := hh
   refine bE hh 1 [_,_,_] ?_
   intro ws hh
   replace hh : Hp _ (_ :: .blk _ _ [_, _, _] _ :: _) _ := hh
   refine ae (sr (bC ?_))
   refine bH hh 2 ?_
   refine bC ?_
   refine bH hh 1 ?_
   refine xS rfl rfl (by decide) ?_
   refine aI (ae (ah (al (sr ?_))))
   refine dh hh 2 [_,_,_] ?_
   refine ep [_,_,_] ?_
   first | refine lJ rfl rfl (by first | assumption | rfl) (by decide) ?_ | refine l9 rfl rfl (by assumption) (by decide) ?_
   refine aB (ae (cF (sr ?_)))
   refine dh hh 1 [_,_,_] ?_
   refine ep [_,_,_] ?_
   first | refine lJ rfl rfl (by first | assumption | rfl) (by decide) ?_ | refine l9 rfl rfl (by assumption) (by decide) ?_
   refine aB (ae (cT (aq (bC ?_))))
   refine bH hh 2 ?_
   refine aI (aE (aW (ai (sr ?_))))
   rw [hs]
   refine mI ?_
   refine ep [_,_,_,_,_] ?_
   refine cv hh ?_
   intro b6 w6 hh
   refine bE hh 0 [_,_,_,_,_] ?_
   intro ws hh
   replace hh : Hp _ (.blk _ _ [_, _, _, _, _] _ :: _) _ := hh
   refine ae (ah ?_)
   refine aX 9 [[(6, none)], [(30, some 0)], [(2, none)], [(31, some 1), (32, some 2)], [(6, none)], [(34, some 4)], [(3, none)], [(35, some 5), (36, some 6)], [(6, none)]] [(8, 38), (7, 37), (6, 36), (5, 35), (4, 34), (3, 33), (2, 32), (1, 31), (0, 30)] hh mixed (by kernel_rfl) ?_
   refine cD ?_
   refine dF 0 ?_
   refine ef 3 [_,_,_] ?_
   refine dC (fun _ hj => hcx _ (hT.hp hj.hp)) ?_
   refine cD ?_
   refine dF 0 ?_
   refine ef 2 [_,_,_] ?_
   refine dC (fun _ hj => hcy _ (hT.hp hj.hp)) ?_
   refine cD ?_
   refine a0 ?_
   intro f W hJ hV
   have hb_8 := hJ.bl
   obtain ⟨v38, v37, v36, v35, v34, v33, v32, v31, v30, _⟩ := hV
   replace hh := hJ.hp
   refine aN (a4 (aa v38 (aa v37 (aa v36 (aa v35 (aa v34 (aa v33 (aa v32 (aa v31 (aa v30 aM)))))))))) ?_
   dsimp only [ca]
   clear hJ
   refine bE hh 0 [_,_] ?_
   intro ws hh
   replace hh : Hp _ (.blk _ _ [_, _, _, _, _] _ :: _) _ := hh
   refine bC ?_
   refine bE hh 0 [_,_] ?_
   intro ws hh
   replace hh : Hp _ (.blk _ _ [_, _, _, _, _] _ :: _) _ := hh
   refine ae (sr ?_)
   refine dh hh 0 [_,_,_,_,_] ?_
   refine bE hh 1 [_,_,_,_,_] ?_
   intro ws hh
   replace hh : Hp _ (_ :: .blk _ _ [_, _, _, _, _] _ :: _) _ := hh
   refine ae (ao ?_)
   refine gI (aG rfl (aH (vs := [_, _, _, _, _]) aC.out (hh.au (i := 1) (n := 5) rfl rfl) rfl) a7) ?_
   exact ⟨rfl, hh.below⟩
  ·have h1' : ¬ nR b.d = ⟨false, ByteArray.mk #[], 0⟩ := fun h => h1 ((iS _).1 h)
   have hs : (if (nR b.d).e < (nR a.d).e then (nR b.d).e else (nR a.d).e) = -(dt a.d b.d) := by
    revert h0 h1
    cases a.d with
    | zero => intro h; exact absurd rfl h
    | ofOdd n k h =>
     cases b.d with
     | zero => intro _ h; exact absurd rfl h
     | ofOdd m l g =>
      intro _ _
      simp only [nR, dt]
      omega
   refine ak (N := 41) (l := [.agg #[.bool a.neg, .string a.bJ, .int .i64 a.e], .agg #[.bool b.neg, .string b.bJ, .int .i64 b.e]]) Tryz.func163 rfl rfl (by simp) ?_
   refine sr ?_
   refine cK hh [_,_,_] ?_
   intro b2 w2 hh
   refine cK hh [_,_,_] ?_
   intro b3 w3 hh
   refine cv hh ?_
   intro b4 w4 hh
   refine ae (ah ?_)
   refine aX 3 [[(2, none)], [(7, some 0)], [(3, none)]] [(2, 9), (1, 8), (0, 7)] hh mixed (by kernel_rfl) ?_
   refine ef 2 [_,_,_] ?_
   refine dC (fun _ hj => eH a _ (hT.hp hj.hp) (by omega) (by omega) (by omega)) ?_
   refine ef 1 [_,_,_] ?_
   refine a0 ?_
   intro f W hJ hV
   have hb_1 := hJ.bl
   obtain ⟨v9, v8, v7, _⟩ := hV
   replace hh := hJ.hp
   refine aN (a4 (aa v9 (aa v8 (aa v7 aM)))) ?_
   dsimp only [ca]
   clear hJ
   refine bG hh (eH b _ (hT.hp hh) (by omega) (by omega) (by omega)) rfl ?_
   intro w10 hh
   refine bE hh 2 [_,_,_] ?_
   intro ws hh
   replace hh : Hp _ (_ :: _ :: .blk _ _ [_, _, _] _ :: _) _ := hh
   refine bE hh 1 [_,_,_] ?_
   intro ws hh
   replace hh : Hp _ (_ :: .blk _ _ [_, _, _] _ :: _) _ := hh
   refine ae (sr (bC ?_))
   refine bH hh 2 ?_
   refine bC ?_
   refine bH hh 1 ?_
   refine xS rfl rfl (by decide) ?_
   refine aI (ae (ah (al (sr ?_))))
   refine dh hh 2 [_,_,_] ?_
   refine ep [_,_,_] ?_
   first | refine lJ rfl rfl (by first | assumption | rfl) (by decide) ?_ | refine l9 rfl rfl (by assumption) (by decide) ?_
   refine aB (ae (cF (sr ?_)))
   refine dh hh 1 [_,_,_] ?_
   refine ep [_,_,_] ?_
   first | refine lJ rfl rfl (by first | assumption | rfl) (by decide) ?_ | refine l9 rfl rfl (by assumption) (by decide) ?_
   refine aB (ae (cF (aj (aW (ai (sr ?_))))))
   rw [hs]
   refine mI ?_
   refine ep [_,_,_,_,_] ?_
   refine cv hh ?_
   intro b6 w6 hh
   refine bE hh 0 [_,_,_,_,_] ?_
   intro ws hh
   replace hh : Hp _ (.blk _ _ [_, _, _, _, _] _ :: _) _ := hh
   refine ae (ah ?_)
   refine aX 9 [[(6, none)], [(30, some 0)], [(2, none)], [(31, some 1), (32, some 2)], [(6, none)], [(34, some 4)], [(3, none)], [(35, some 5), (36, some 6)], [(6, none)]] [(8, 38), (7, 37), (6, 36), (5, 35), (4, 34), (3, 33), (2, 32), (1, 31), (0, 30)] hh mixed (by kernel_rfl) ?_
   refine cD ?_
   refine dF 0 ?_
   refine ef 3 [_,_,_] ?_
   refine dC (fun _ hj => hcx _ (hT.hp hj.hp)) ?_
   refine cD ?_
   refine dF 0 ?_
   refine ef 2 [_,_,_] ?_
   refine dC (fun _ hj => hcy _ (hT.hp hj.hp)) ?_
   refine cD ?_
   refine a0 ?_
   intro f W hJ hV
   have hb_8 := hJ.bl
   obtain ⟨v38, v37, v36, v35, v34, v33, v32, v31, v30, _⟩ := hV
   replace hh := hJ.hp
   refine aN (a4 (aa v38 (aa v37 (aa v36 (aa v35 (aa v34 (aa v33 (aa v32 (aa v31 (aa v30 aM)))))))))) ?_
   dsimp only [ca]
   clear hJ
   refine bE hh 0 [_,_] ?_
   intro ws hh
   replace hh : Hp _ (.blk _ _ [_, _, _, _, _] _ :: _) _ := hh
   refine bC ?_
   refine bE hh 0 [_,_] ?_
   intro ws hh
   replace hh : Hp _ (.blk _ _ [_, _, _, _, _] _ :: _) _ := hh
   refine ae (sr ?_)
   refine dh hh 0 [_,_,_,_,_] ?_
   refine bE hh 1 [_,_,_,_,_] ?_
   intro ws hh
   replace hh : Hp _ (_ :: .blk _ _ [_, _, _, _, _] _ :: _) _ := hh
   refine ae (ao ?_)
   refine gI (aG rfl (aH (vs := [_, _, _, _, _]) aC.out (hh.au (i := 1) (n := 5) rfl rfl) rfl) a7) ?_
   exact ⟨rfl, hh.below⟩
end Go.Proofs.YtaapkaefelhfcaaGreatDoor
namespace Go.Proofs.YtaapkaefelhfcaaGreatDoor
open Go.RowKit
def C7 (x y : Dyadic) : Int := if x < y then -1 else if y < x then 1 else 0
theorem qC {a b : NR} (ha : a.ok) (hb : b.ok) : (iM (cY a.d (dt a.d b.d))).size ≤ 6000000 ∧ (iM (cY b.d (dt a.d b.d))).size ≤ 6000000 ∧ -18000000 ≤ dt a.d b.d ∧ dt a.d b.d ≤ 18000000 := by
 obtain ⟨_, fa1, fa2, fa3⟩ := js ha
 obtain ⟨_, fb1, fb2, fb3⟩ := js hb
 have hP := wx a.d b.d 18000000 (by omega) (by omega)
 have h1 := nS a.d (dt a.d b.d)
 have h2 := nS b.d (dt a.d b.d)
 rw [dP, dP]
 refine ⟨by omega, by omega, hP.1, hP.2⟩
def C1 (n : Int) : Dyadic := Dyadic.ofIntWithPrec 1 (-n)
def mW : List Dyadic → Dyadic := fun l => l.foldl (· + ·) 0
theorem pY (l : List Dyadic) (x : Dyadic) : mW (l ++ [x]) = mW l + x := by simp [mW]
theorem Sz.sum {k : Nat} {l : List Dyadic} (h : ∀ x ∈ l, Sz k x) : Sz (k + l.length) (mW l) := by
 have : ∀ (n : Nat), n ≤ l.length → Sz (k + n) (mW (l.take n)) := by
  intro n
  induction n with
  | zero => intro _; exact Sz.zero _
  | succ n ih =>
   intro hn
   obtain ⟨x, hx⟩ := aD (l := l) (k := n) (by omega)
   rw [aJ hx, pY]
   exact (ih (by omega)).add ((h x (List.mem_of_getElem? hx)).mono (by omega))
 have h2 := this l.length (Nat.le_refl _)
 rwa [List.take_length] at h2
theorem oF (a b : NR) (w : World) (hT : hG w) (ha : a.ok) (hb : b.ok) :
  Calls Tryz.prog 164 #[.agg #[.bool (iN (cY a.d (dt a.d b.d) + cY b.d (dt a.d b.d))), .string (iM (cY a.d (dt a.d b.d) + cY b.d (dt a.d b.d)))], .int .i64 (-(dt a.d b.d))] w fun r w' => r = .returned (.agg #[.bool (nR (a.d + b.d)).neg, .string (nR (a.d + b.d)).bJ, .int .i64 (nR (a.d + b.d)).e]) ∧ Below w.heap.size w w' := by
 obtain ⟨hs1, hs2, hP1, hP2⟩ := qC ha hb
 rw [dP] at hs1 hs2
 have h3 := jz (cY a.d (dt a.d b.d)) (cY b.d (dt a.d b.d))
 have := iW (iN (cY a.d (dt a.d b.d) + cY b.d (dt a.d b.d))) (iM (cY a.d (dt a.d b.d) + cY b.d (dt a.d b.d))) (-(dt a.d b.d)) w hT (by rw [dP]; omega) (by omega) (by omega)
 rw [fC, Int.neg_neg, zO] at this
 exact this
theorem n5 (L : Option Addr) (n c : Nat) (l : List NR) (w : World) (hT : hG w) (hS : Sl w L n 3 (aQ NR.cells l)) (hl : ∀ a ∈ l, a.ok) (k : Nat) (hk : ∀ a ∈ l, Sz k a.d) (hkn : k + n ≤ 3999990) :
  Calls Tryz.prog 65 #[.slice L n c] w fun r w' => r = .returned (.agg #[.bool (nR (mW (l.map NR.d))).neg, .string (nR (mW (l.map NR.d))).bJ, .int .i64 (nR (mW (l.map NR.d))).e]) ∧ Below w.heap.size w w' := by
 have hln := hS.cg NR.len (by omega)
 have hh := Hp.start w
 refine ak (N := 27) (l := [.slice L n c]) Tryz.func65 rfl rfl (by simp) ?_
 refine sr ?_
 refine cv hh ?_
 intro b2 w2 hh
 refine ae (sr ?_)
 refine cv hh ?_
 intro b3 w3 hh
 refine ae (ah (sr (mL (aO (mI (ae (al ?_)))))))
 refine bs [5, 6, 9, 10, 11, 12, 13, 14, 15, 16, 17, 18, 19, 20, 21, 22, 23, 24, 25] 9
  (fun j w' => ∃ (i : Nat) (S : Dyadic), i ≤ n ∧ j = .int .i64 i ∧ S = mW ((l.take i).map NR.d) ∧ Hp w [.blk b3 29 [.bool (nR S).neg, .string (nR S).bJ, .int .i64 (nR S).e] (0, 0), .blk b2 29 [.bool false, .string (ByteArray.mk #[]), .int .i64 0] (0, 0)] w')
  (fun j _ => n - (intOf j).toNat) ?_ ?_
 ·exact ⟨0, 0, Nat.zero_le _, rfl, rfl, hh⟩
 ·clear hh
  rintro ρ' j w' ⟨i, S, hi, rfl, hS2, hh⟩
  by_cases hlt : i < n
  ·obtain ⟨x, hx⟩ := aD (l := l) (k := i) (by omega)
   obtain ⟨ad, rfl, hr⟩ := hS.at_ (by omega)
   have hxm := List.mem_of_getElem? hx
   have hS3 : mW ((l.take (i + 1)).map NR.d) = S + x.d := by rw [aJ hx, List.map_append, List.map_singleton, pY, hS2]
   have hSz : Sz (k + i) S := by
    rw [hS2]
    have := Sz.sum (k := k) (l := (l.take i).map NR.d) (fun y hy => by
     obtain ⟨a, ha, rfl⟩ := List.mem_map.1 hy
     exact hk a (List.mem_of_mem_take ha))
    rw [List.length_map, List.length_take, Nat.min_eq_left (by omega)] at this
    exact this
   have hSo := hSz.ok (by omega)
   have hlc := fun w1 hT1 => rk (nR S) x w1 hT1 hSo (hl x hxm)
   have hmc := fun w1 hT1 => oF (nR S) x w1 hT1 hSo (hl x hxm)
   obtain ⟨hs1, hs2, _⟩ := qC hSo (hl x hxm)
   rw [dX] at hlc hmc hs1 hs2
   have e1 : ([iR (cY S (dt S x.d)), iR (cY x.d (dt S x.d))].map IR.v).sum = cY S (dt S x.d) + cY x.d (dt S x.d) := by
    simp only [List.map_cons, List.map_nil, List.sum_cons, List.sum_nil, BX]; omega
   have hac : ∀ (A : Option Addr) (cc : Nat) (w1 : World), Sl w1 A 2 2 (aQ IR.cells [iR (cY S (dt S x.d)), iR (cY x.d (dt S x.d))]) → Calls Tryz.prog 165 #[.slice A 2 cc] w1 fun e w' => e = .returned (.agg #[.bool (iN (cY S (dt S x.d) + cY x.d (dt S x.d))), .string (iM (cY S (dt S x.d) + cY x.d (dt S x.d)))]) ∧ Below w1.heap.size w1 w' := fun A cc w1 hsl => by
    have := oe A 2 cc [iR (cY S (dt S x.d)), iR (cY x.d (dt S x.d))] w1 hsl (by omega) (by simp [iR]; omega)
    rw [e1] at this
    exact this
   refine sr ?_
   refine aU (ae (ah (cT (aj (ai (ah (al (sr ?_))))))))
   refine aR (k := i) aF.out aC.size rfl rfl (by omega) (by omega) (by decide) ?_
   refine bQ (vs := [_, _, _]) aC.out rfl (((hr.ext hh.below).recAt NR.len hx)) rfl (by decide) ?_
   refine cv hh ?_
   intro b5 w5 hh
   refine bE hh 0 [_,_,_] ?_
   intro ws hh
   replace hh : Hp _ (.blk _ _ [_, _, _] _ :: _) _ := hh
   refine ae (sr ?_)
   refine dh hh 1 [_,_,_] ?_
   refine dh hh 0 [_,_,_] ?_
   refine bG hh (hlc _ (hT.hp hh)) rfl ?_
   intro w15 hh
   refine cv hh ?_
   intro b6 w6 hh
   refine bE hh 0 [_,_,_,_,_] ?_
   intro ws hh
   replace hh : Hp _ (.blk _ _ [_, _, _, _, _] _ :: _) _ := hh
   refine ae ?_
   refine aX 8 [[(6, none)], [(16, some 0)], [(6, none)], [(18, some 2)], [(17, some 1), (19, some 3)], [(20, some 4)], [(6, none)], [(22, some 6)]] [(7, 23), (6, 22), (5, 21), (4, 20), (3, 19), (2, 18), (1, 17), (0, 16)] hh mixed (by kernel_rfl) ?_
   refine cD ?_
   refine ef 0 [_,_] ?_
   refine cD ?_
   refine ef 0 [_,_] ?_
   refine pD [_,_,_,_] ?_
   refine bj (i := 5) (Is (.agg #[.bool (iN (cY S (dt S x.d) + cY x.d (dt S x.d))), .string (iM (cY S (dt S x.d) + cY x.d (dt S x.d)))])) Is.ext ?_ ?_
   ·intro ρ1 w1 hj hR
    obtain ⟨A20, c20, h20, s20⟩ := hR.1
    exact bW rfl (a3 av.out (aA h20 a9)) (hac A20 c20 _ s20) (fun _ _ hq => ⟨_, hq.1, hq.2, rfl⟩)
   refine cD ?_
   refine dF 0 ?_
   refine a0 ?_
   intro f W hJ hV
   have hb_6 := hJ.bl
   obtain ⟨v23, v22, v21, v20, v19, v18, v17, v16, _⟩ := hV
   obtain ⟨A20, c20, e20, f20⟩ : Rows _ _ _ (f 4) W := v20
   replace hh := hJ.hp
   refine aN (a4 (aa v23 (aa v22 (aa v21 (aa e20 (aa v19 (aa v18 (aa v17 (aa v16 aM))))))))) ?_
   dsimp only [ca]
   clear e20 hJ
   refine bG hh (hmc _ (hT.hp hh)) rfl ?_
   intro w24 hh
   refine bE hh 2 [_,_,_] ?_
   intro ws hh
   replace hh : Hp _ (_ :: _ :: .blk _ _ [_, _, _] _ :: _) _ := hh
   refine aE (aW (ai (aq ?_)))
   refine bL (mI (aE (ai ?_)))
   replace hh := hh.sub ((List.sublist_cons_self _ _).trans (List.sublist_cons_self _ _))
   refine ⟨⟨i + 1, _, by omega, rfl, hS3.symm, hh⟩, by show n - (i + 1) < n - i; omega, ?_⟩
   (repeat (first | exact aw _ _ _ | refine ax rfl ?_ | refine ar rfl ?_))
  ·refine sr ?_
   refine aU (ae (ah (cF ?_)))
   refine aP ?_
   refine ay (ay (a6 (ai (sr ?_))))
   refine dh hh 0 [_,_,_] ?_
   refine bE hh 1 [_,_,_] ?_
   intro ws hh
   replace hh : Hp _ (_ :: .blk _ _ [_, _, _] _ :: _) _ := hh
   refine ae (ao ?_)
   refine gI (aG rfl (aH (vs := [_, _, _]) aC.out (hh.au (i := 1) (n := 3) rfl rfl) rfl) a7) ?_
   rw [List.take_of_length_le (by omega)] at hS2
   rw [hS2]
   exact ⟨rfl, hh.below⟩
theorem se (x y : Dyadic) : mW [x, y] = x + y := by
 show (0 + x) + y = x + y
 rw [Dyadic.zero_add]
def g9 : List Dyadic → Dyadic := fun l => l.foldl (· * ·) 1
theorem nQ (l : List Dyadic) (x : Dyadic) : g9 (l ++ [x]) = g9 l * x := by simp [g9]
theorem Sz.one : Sz 1 1 := ⟨2, by decide +kernel, by decide⟩
theorem Sz.prod {k : Nat} {l : List Dyadic} (h : ∀ x ∈ l, Sz k x) : Sz (1 + k * l.length) (g9 l) := by
 have : ∀ (n : Nat), n ≤ l.length → Sz (1 + k * n) (g9 (l.take n)) := by
  intro n
  induction n with
  | zero => intro _; exact Sz.one
  | succ n ih =>
   intro hn
   obtain ⟨x, hx⟩ := aD (l := l) (k := n) (by omega)
   rw [aJ hx, nQ]
   exact ((ih (by omega)).mul (h x (List.mem_of_getElem? hx))).mono (by rw [Nat.mul_succ]; omega)
 have h2 := this l.length (Nat.le_refl _)
 rwa [List.take_length] at h2
theorem gF (L : Option Addr) (n c : Nat) (l : List NR) (w : World) (hT : hG w) (hS : Sl w L n 3 (aQ NR.cells l)) (hl : ∀ a ∈ l, a.ok) (k : Nat) (hk : ∀ a ∈ l, Sz k a.d) (hkn : k * n ≤ 3999980) (hn : n ≤ 1000000) :
  Calls Tryz.prog 66 #[.slice L n c] w fun r w' => r = .returned (.agg #[.bool (nR (g9 (l.map NR.d))).neg, .string (nR (g9 (l.map NR.d))).bJ, .int .i64 (nR (g9 (l.map NR.d))).e]) ∧ Below w.heap.size w w' := by
 have hln := hS.cg NR.len (by omega)
 have hh := Hp.start w
 refine ak (N := 27) (l := [.slice L n c]) Tryz.func66 rfl rfl (by simp) ?_
 refine sr ?_
 refine cv hh ?_
 intro b2 w2 hh
 refine ae (sr ?_)
 refine bG hh (mK 1 _ (hT.hp hh) (by omega) (by omega)) rfl ?_
 intro w6 hh
 refine cv hh ?_
 intro b3 w3 hh
 refine bE hh 0 [_,_,_] ?_
 intro ws hh
 replace hh : Hp _ (.blk _ _ [_, _, _] _ :: _) _ := hh
 refine ae (ah (sr (mL (aO (mI (ae (al ?_)))))))
 refine bs [5, 9, 10, 11, 12, 13, 14, 15, 16, 17, 18, 19, 20, 21, 22, 23, 24, 25] 9
  (fun j w' => ∃ (i : Nat) (S : Dyadic), i ≤ n ∧ j = .int .i64 i ∧ S = g9 ((l.take i).map NR.d) ∧ Hp w [.blk b3 29 [.bool (nR S).neg, .string (nR S).bJ, .int .i64 (nR S).e] (0, 0), .blk b2 29 [.bool false, .string (ByteArray.mk #[]), .int .i64 0] (0, 0)] w')
  (fun j _ => n - (intOf j).toNat) ?_ ?_
 ·exact ⟨0, _, Nat.zero_le _, rfl, rfl, hh⟩
 ·clear hh
  rintro ρ' j w' ⟨i, S, hi, rfl, hS2, hh⟩
  by_cases hlt : i < n
  ·obtain ⟨x, hx⟩ := aD (l := l) (k := i) (by omega)
   obtain ⟨ad, rfl, hr⟩ := hS.at_ (by omega)
   have hxm := List.mem_of_getElem? hx
   have hS3 : g9 ((l.take (i + 1)).map NR.d) = S * x.d := by rw [aJ hx, List.map_append, List.map_singleton, nQ, hS2]
   have hSz : Sz (1 + k * i) S := by
    rw [hS2]
    have := Sz.prod (k := k) (l := (l.take i).map NR.d) (fun y hy => by
     obtain ⟨a, ha, rfl⟩ := List.mem_map.1 hy
     exact hk a (List.mem_of_mem_take ha))
    rw [List.length_map, List.length_take, Nat.min_eq_left (by omega)] at this
    exact this
   have hki : k * i ≤ k * n := Nat.mul_le_mul_left _ hi
   obtain ⟨so1, so2, so3⟩ := hSz.ok (by omega)
   obtain ⟨xo1, xo2, xo3⟩ := hl x hxm
   have e1 : j6 ([IR.mk (nR S).neg (nR S).bJ, IR.mk x.neg x.bJ].map IR.v) = (nR S).i * x.i := by
    simp only [List.map_cons, List.map_nil, j6, Int.mul_one]; rfl
   have e2 : Dyadic.ofIntWithPrec ((nR S).i * x.i) (-((nR S).e + x.e)) = S * x.d := by
    have := q9 (nR S).i x.i (-(nR S).e) (-x.e)
    rw [Int.neg_add, ← this]
    congr 1
    exact dX S
   have hac : ∀ (A : Option Addr) (cc : Nat) (w1 : World), Sl w1 A 2 2 (aQ IR.cells [IR.mk (nR S).neg (nR S).bJ, IR.mk x.neg x.bJ]) → Calls Tryz.prog 166 #[.slice A 2 cc] w1 fun e w' => e = .returned (.agg #[.bool (iN ((nR S).i * x.i)), .string (iM ((nR S).i * x.i))]) ∧ Below w1.heap.size w1 w' := fun A cc w1 hsl => by
    have := u9 A 2 cc [IR.mk (nR S).neg (nR S).bJ, IR.mk x.neg x.bJ] w1 hsl (by omega) (by simp; omega)
    rw [e1] at this
    exact this
   have hmc : ∀ w1, hG w1 → Calls Tryz.prog 164 #[.agg #[.bool (iN ((nR S).i * x.i)), .string (iM ((nR S).i * x.i))], .int .i64 ((nR S).e + x.e)] w1 fun r w' => r = .returned (.agg #[.bool (nR (S * x.d)).neg, .string (nR (S * x.d)).bJ, .int .i64 (nR (S * x.d)).e]) ∧ Below w1.heap.size w1 w' := fun w1 hT1 => by
    have hb1 := ig (nR S).neg (nR S).bJ
    have hb2 := ig x.neg x.bJ
    have hb3 := jw (nR S).i x.i
    have := iW (iN ((nR S).i * x.i)) (iM ((nR S).i * x.i)) ((nR S).e + x.e) w1 hT1 (by rw [dP]; unfold NR.i at hb3 ⊢; omega) (by omega) (by omega)
    rw [fC, e2] at this
    exact this
   refine sr ?_
   refine aU (ae (ah (cT (aj (ai (ah (al (sr ?_))))))))
   refine aR (k := i) aF.out aC.size rfl rfl (by omega) (by omega) (by decide) ?_
   refine bQ (vs := [_, _, _]) aC.out rfl (((hr.ext hh.below).recAt NR.len hx)) rfl (by decide) ?_
   refine cv hh ?_
   intro b5 w5 hh
   refine bE hh 0 [_,_,_] ?_
   intro ws hh
   replace hh : Hp _ (.blk _ _ [_, _, _] _ :: _) _ := hh
   refine ae ?_
   refine aX 11 [[(3, none)], [(13, some 0)], [(5, none)], [(15, some 2)], [(14, some 1), (16, some 3)], [(17, some 4)], [(3, none)], [(19, some 6)], [(5, none)], [(21, some 8)], [(20, some 7), (22, some 9)]] [(10, 23), (9, 22), (8, 21), (7, 20), (6, 19), (5, 18), (4, 17), (3, 16), (2, 15), (1, 14), (0, 13)] hh mixed (by kernel_rfl) ?_
   refine cD ?_
   refine ef 1 [_,_] ?_
   refine cD ?_
   refine ef 0 [_,_] ?_
   refine pD [_,_,_,_] ?_
   refine bj (i := 5) (Is (.agg #[.bool (iN ((nR S).i * x.i)), .string (iM ((nR S).i * x.i))])) Is.ext ?_ ?_
   ·intro ρ1 w1 hj hR
    obtain ⟨A17, c17, h17, s17⟩ := hR.1
    exact bW rfl (a3 av.out (aA h17 a9)) (hac A17 c17 _ s17) (fun _ _ hq => ⟨_, hq.1, hq.2, rfl⟩)
   refine cD ?_
   refine dF 1 ?_
   refine cD ?_
   refine dF 0 ?_
   refine uB ?_
   refine a0 ?_
   intro f W hJ hV
   have hb_5 := hJ.bl
   obtain ⟨v23, v22, v21, v20, v19, v18, v17, v16, v15, v14, v13, _⟩ := hV
   obtain ⟨A17, c17, e17, f17⟩ : Rows _ _ _ (f 4) W := v17
   replace hh := hJ.hp
   refine aN (a4 (aa v23 (aa v22 (aa v21 (aa v20 (aa v19 (aa v18 (aa e17 (aa v16 (aa v15 (aa v14 (aa v13 aM)))))))))))) ?_
   dsimp only [ca]
   clear e17 hJ
   refine bG hh (hmc _ (hT.hp hh)) rfl ?_
   intro w24 hh
   refine bE hh 1 [_,_,_] ?_
   intro ws hh
   replace hh : Hp _ (_ :: .blk _ _ [_, _, _] _ :: _) _ := hh
   refine aE (aW (ai (aq ?_)))
   refine bL (mI (aE (ai ?_)))
   replace hh := hh.sub (List.sublist_cons_self _ _)
   refine ⟨⟨i + 1, _, by omega, rfl, hS3.symm, hh⟩, by show n - (i + 1) < n - i; omega, ?_⟩
   (repeat (first | exact aw _ _ _ | refine ax rfl ?_ | refine ar rfl ?_))
  ·refine sr ?_
   refine aU (ae (ah (cF ?_)))
   refine aP ?_
   refine ay (ay (a6 (ai (sr ?_))))
   refine dh hh 0 [_,_,_] ?_
   refine bE hh 1 [_,_,_] ?_
   intro ws hh
   replace hh : Hp _ (_ :: .blk _ _ [_, _, _] _ :: _) _ := hh
   refine ae (ao ?_)
   refine gI (aG rfl (aH (vs := [_, _, _]) aC.out (hh.au (i := 1) (n := 3) rfl rfl) rfl) a7) ?_
   rw [List.take_of_length_le (by omega)] at hS2
   rw [hS2]
   exact ⟨rfl, hh.below⟩
end Go.Proofs.YtaapkaefelhfcaaGreatDoor
namespace Go.Proofs.YtaapkaefelhfcaaGreatDoor
open Go.RowKit
def C0 (f : Dyadic → Dyadic → Bool) : List Dyadic → Dyadic
 | [] => 0
 | a :: r => r.foldl (fun out a => if f a out then a else out) a
end Go.Proofs.YtaapkaefelhfcaaGreatDoor
namespace Go.Proofs.YtaapkaefelhfcaaGreatDoor
end Go.Proofs.YtaapkaefelhfcaaGreatDoor
