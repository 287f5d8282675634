/- Lemmas for calcEvals, part 3. -/
import Derived.Test.YtaapkaefelhfcaaGreatDoorZ2
/- Several texts in one: Nat, NatB, NatC, NatD, NatE, NatF. -/
namespace Go.Proofs.YtaapkaefelhfcaaGreatDoor
open Go.RowKit
theorem fR (A : Option Addr) (n c : Nat) (xs : List Nat) (w : World) (hx : Sl w A n 1 (cL xs)) (hc : n ≤ c) (hn : n ≤ 1000000000000) :
  Calls Tryz.prog 272 #[.slice A n c] w fun e w' => e = .returned (.slice A (dD xs).length c) ∧ Below w.heap.size w w' := by
 have hlen : xs.length = n := by have := hx.1; rw [aY] at this; omega
 have hh := Hp.start w
 refine aj (N := 21) (l := [.slice A n c]) Tryz.func272 rfl rfl (by simp) ?_
 refine sr (aL (ae (ah (ao ?_))))
 refine bs [0, 3, 4, 5, 6, 7, 8, 9, 10, 11, 12, 13, 14, 15, 16, 17, 18, 19] 0
  (fun v w' => ∃ k : Nat, k ≤ n ∧ v = .slice A k c ∧ dD (xs.take k) = dD xs ∧ w' = w)
  (fun v _ => lenOf v) ?_ ?_
 ·exact ⟨n, Nat.le_refl _, rfl, by rw [List.take_of_length_le (by omega)], rfl⟩
 ·rintro ρ' v w' ⟨k, hk, rfl, hcut, rfl⟩
  by_cases h0 : k = 0
  ·subst h0
   refine ah (sr (mL (a0 ?_)))
   refine ck (mB ?_)
   first | refine gS ?_ | (refine gT ?_; refine mL ?_) | refine gV ?_
   first | refine gS ?_ | (refine gT ?_; refine mL ?_) | refine gV ?_
   first | refine gS ?_ | (refine gT ?_; refine a0 ?_) | refine gV ?_
   first | refine gS ?_ | (refine gT ?_; refine eA ?_) | refine gV ?_
   first | refine gS ?_ | (refine gT ?_; refine fQ aF.out aA.size rfl rfl (by omega) (by omega) (by decide) ?_) | refine gV ?_
   first | (refine cd (by decide) rfl rfl (by decide) ?_) | (refine fU (by decide) rfl rfl ?_)
   first | refine gS ?_ | (refine gT ?_; refine cu ?_) | refine gV ?_
   first | refine cS ?_ | refine cU ?_
   refine ae (cF ?_)
   refine aO ?_
   refine ay (ay (a8 (ai (sr (mL (aL (ae (al ?_))))))))
   refine cn ?_
   rw [← hcut]
   exact ⟨rfl, hh.below⟩
  ·obtain ⟨j, rfl⟩ : ∃ j, k = j + 1 := ⟨k - 1, by omega⟩
   obtain ⟨d, hd⟩ := aE (l := xs) (k := j) (by omega)
   obtain ⟨ad, rfl, hr⟩ := hx.at_ (by omega)
   have hd2 := dX hd
   rw [aN hd] at hcut
   by_cases hz : d = 0
   ·subst hz
    rw [oE] at hcut
    refine ah (sr (mL (a0 ?_)))
    refine ck (mB ?_)
    first | refine gS ?_ | (refine gT ?_; refine mL ?_) | refine gV ?_
    first | refine gS ?_ | (refine gT ?_; refine mL ?_) | refine gV ?_
    first | refine gS ?_ | (refine gT ?_; refine a0 ?_) | refine gV ?_
    first | refine gS ?_ | (refine gT ?_; refine eA ?_) | refine gV ?_
    first | refine gS ?_ | (refine gT ?_; refine aQ (k := j) aF.out aA.size rfl rfl (by omega) (by omega) (by decide) ?_) | refine gV ?_
    first | refine gS ?_ | (refine gT ?_; refine bj aA.out rfl ((hr.ext hh.below).nu (by assumption)) (by decide) ?_) | refine gV ?_
    first | refine gS ?_ | (refine gT ?_; refine cu ?_) | refine gV ?_
    first | refine cS ?_ | refine cU ?_
    refine ae (cT (ak (ai (ao (aq (mL (mL (a0 ?_))))))))
    refine eA ?_
    refine jc (h := j) aF.out aA.size rfl rfl (by omega) (by omega) (by decide) ?_
    refine aL (aC (aT (ai ?_)))
    refine ⟨⟨j, by omega, rfl, hcut, rfl⟩, by show j < j + 1; omega, ?_⟩
    (repeat (first | exact aw _ _ _ | refine ax rfl ?_ | refine au rfl ?_))
   ·rw [p9 hz] at hcut
    refine ah (sr (mL (a0 ?_)))
    refine ck (mB ?_)
    first | refine gS ?_ | (refine gT ?_; refine mL ?_) | refine gV ?_
    first | refine gS ?_ | (refine gT ?_; refine mL ?_) | refine gV ?_
    first | refine gS ?_ | (refine gT ?_; refine a0 ?_) | refine gV ?_
    first | refine gS ?_ | (refine gT ?_; refine eA ?_) | refine gV ?_
    first | refine gS ?_ | (refine gT ?_; refine aQ (k := j) aF.out aA.size rfl rfl (by omega) (by omega) (by decide) ?_) | refine gV ?_
    first | refine gS ?_ | (refine gT ?_; refine bj aA.out rfl ((hr.ext hh.below).nu (by assumption)) (by decide) ?_) | refine gV ?_
    first | refine gS ?_ | (refine gT ?_; refine cu ?_) | refine gV ?_
    first | refine cS ?_ | refine cU ?_
    refine ae (cF ?_)
    refine aO ?_
    refine ay (ay (a8 (ai (sr (mL (aL (ae (al ?_))))))))
    refine cn ?_
    rw [← hcut, List.length_append, List.length_take, Nat.min_eq_left (by omega)]
    exact ⟨rfl, hh.below⟩
theorem ek {B : Nat} {l : List Nat} {i c : Nat} (h : l[i]? = some c) : bz B (l.take (i + 1)) = bz B (l.take i) + B ^ i * c := by
 have hi := (List.getElem?_eq_some_iff.1 h).1
 rw [aN h, ep, List.length_take, Nat.min_eq_left (by omega)]
 simp [bz]
theorem Hp.u3 {w0 w : World} {H : List HE} {A : Option Addr} {n c : Nat} {t : TypeId} {xs : List Nat} (h : Hp w0 (.row A n c t 1 (cL xs) :: H) w) (hl : xs.length = n) : Hp w0 (.row A (dD xs).length c t 1 (cL (dD xs)) :: H) w := by
 have h1 := eN xs
 have h2 := h.uR (k := (dD xs).length) (by omega)
 rw [Nat.mul_one, ← pT, ← hG] at h2
 exact h2
theorem wJ (a : ByteArray) (w : World) (ha : a.size ≤ 100000000000) :
  Calls Tryz.prog 250 #[.string a] w fun e w' => ∃ b c, e = .returned (.slice (some ⟨b, 0, none⟩) (aX 18446744073709551616 (bn a.data.toList)).length c) ∧ w'.ownsRow w.heap.size 221 1 (.slice (some ⟨b, 0, none⟩) (aX 18446744073709551616 (bn a.data.toList)).length c) (aX 18446744073709551616 (bn a.data.toList)).length (cL (aX 18446744073709551616 (bn a.data.toList))) ∧ Below w.heap.size w w' := by
 have hsz := bZ a
 have hh := Hp.start w
 refine aj (N := 39) (l := [.string a]) Tryz.func250 rfl rfl (by simp) ?_
 refine sr (aL (ae (sr (mS ?_))))
 refine bp aF.out rfl (by decide) ?_
 refine bL ?_
 refine iZ rfl rfl (by omega) (by omega) (by omega) (by decide) ?_
 refine gI (n := (a.size + 7) / 8) hh rfl rfl (by omega) (by omega) aF.out aA.out rfl (by omega) (by omega) (by decide) ?_
 intro b10 w10 hh
 refine aL (ae (ah (sr (mS ?_))))
 refine bp aF.out rfl (by decide) ?_
 refine mI (ae (ao ?_))
 rw [k9] at hh
 refine bs [4, 5, 13, 14, 15, 16, 17, 18, 19, 20, 21, 22, 23, 24, 25, 26, 27, 28, 29, 30, 31, 32, 33, 34, 35, 36] 13
  (fun v w' => ∃ i : Nat, i ≤ a.size ∧ v = .int .i64 i ∧ Hp w [.row (some ⟨b10, 0, none⟩) ((a.size + 7) / 8) ((a.size + 7) / 8) 221 1 (cL (bM 18446744073709551616 ((a.size + 7) / 8) (bz 256 ((ta a.data.toList).take i))))] w')
  (fun v _ => a.size - (intOf v).toNat) ?_ ?_
 ·exact ⟨0, Nat.zero_le _, rfl, by rw [List.take_zero, bz, mG]; exact hh⟩
 ·clear hh
  rintro ρ' v w' ⟨i, hi, rfl, hh⟩
  by_cases hlt : i < a.size
  ·obtain ⟨c, hc⟩ := aE (l := a.data.toList) (k := ((a.size : Int) - 1 - i).toNat) (by omega)
   have hlo := yq (s := a.data.toList) (i := i) (c := c) (by omega) (by rw [← hc]; congr 1; omega)
   have hc8 := c.toNat_lt
   have hn := fY ((rH a.data.toList).take i)
   rw [List.length_take, kT, Nat.min_eq_left (by omega)] at hn
   obtain ⟨s1, s2, s3⟩ := zK (k := (a.size + 7) / 8) (bz 256 ((ta a.data.toList).take i)) hn hc8 (by omega)
   have hg := dX (fZ (B := 18446744073709551616) ((a.size + 7) / 8) (bz 256 ((ta a.data.toList).take i)) (i / 8) (by omega))
   have e1 : ((i : Int) % 8 * 8).toNat = i % 8 * 8 := by omega
   refine sr ?_
   refine aW (ae (ah (cT (ak (ai (ah (ao (sr (mI (aI (ae ?_)))))))))))
   refine sr (mS ?_)
   refine bp aF.out rfl (by decide) ?_
   refine eA (mI ?_)
   refine eA (aI (ae ?_))
   refine aU 13 [[(3, none)], [(4, none)], [(22, some 1)], [(21, some 0), (23, some 2)], [(24, some 3)], [(0, none)], [(5, none)], [(26, some 5), (27, some 6)], [(28, some 7)], [(4, none)], [(30, some 9)], [(31, some 10)], [(29, some 8), (32, some 11)]] [(12, 33), (11, 32), (10, 31), (9, 30), (8, 29), (7, 28), (6, 27), (5, 26), (4, 25), (3, 24), (2, 23), (1, 22), (0, 21)] hh mixed (by kernel_rfl) ?_
   refine fX ?_
   refine ej ?_
   refine bm (i := 2) (fun ρ1 w1 hj hR => q7 (show ρ1 22 = Value.int _ _ from hR.1) rfl (by omega) (by omega) (by omega)) ?_
   refine AB (i / 8) ?_
   refine bm (i := 4) (fun ρ1 w1 hj hR => g8 aA.out (show ρ1 24 = Value.pointer _ from hR.1) (hj.hp.cC (i := 0) rfl (by first | assumption | (simp only [Nat.mul_one]; assumption)))) ?_
   refine B9 ?_
   refine ej ?_
   refine bm (i := 7) (fun ρ1 w1 hj hR => iD aF.out (show ρ1 26 = Value.string _ from hR.1) (show ρ1 27 = Value.int _ _ from hR.2.1) (by omega) (by assumption)) ?_
   first | refine bm (i := 8) (fun ρ1 w1 hj hR => nC aF.out aF.out (show ρ1 28 = Value.int _ _ from hR.1) (by first | assumption | omega)) ?_ | refine bm (i := 8) (fun ρ1 w1 hj hR => wg aF.out aF.out (show ρ1 28 = Value.int _ _ from hR.1)) ?_
   refine ej ?_
   refine bm (i := 10) (fun ρ1 w1 hj hR => mF (show ρ1 30 = Value.int _ _ from hR.1) rfl (by omega) (by omega)) ?_
   refine Cs ?_
   refine bm (i := 12) (fun ρ1 w1 hj hR => rg (show ρ1 29 = Value.int _ _ from hR.1) (show ρ1 32 = Value.int _ _ from hR.2.1) (by omega)) ?_
   refine a6 ?_
   intro f W hJ hV
   have hb_6 := hJ.bl
   obtain ⟨v33, v32, v31, v30, v29, v28, v27, v26, v25, v24, v23, v22, v21, _⟩ := hV
   replace hh := hJ.hp
   refine aK (a4 (aa v33 (aa v32 (aa v31 (aa v30 (aa v29 (aa v28 (aa v27 (aa v26 (aa v25 (aa v24 (aa v23 (aa v22 (aa v21 aM)))))))))))))) ?_
   dsimp only [bX]
   clear hJ
   refine u9 rfl rfl (by first | assumption | omega) (by first | assumption | omega) (by decide) ?_
   refine bg (k := i / 8) aF.out aA.size rfl rfl (by omega) (by omega) (by decide) ?_
   refine bJ hh (i := 0) (vs := [_]) rfl rfl (bT rfl) rfl aA.out rfl (by rw [aY, aV]; omega) rfl ?_
   intro ws hh
   simp only [List.set_cons_zero] at hh
   rw [e1, Nat.mod_eq_of_lt s2, uz s1, cm (by rw [aY, aV]; omega), Nat.mul_one, eY, s3, ← ek hlo] at hh
   refine aC (aT (ai (aq ?_)))
   refine bL (mI (aC (ai ?_)))
   refine ⟨⟨i + 1, by omega, rfl, hh⟩, by show a.size - (i + 1) < a.size - i; omega, ?_⟩
   (repeat (first | exact aw _ _ _ | refine ax rfl ?_ | refine au rfl ?_))
  ·refine sr ?_
   refine aW (ae (ah (cF ?_)))
   refine aO ?_
   refine ay (ay (a8 (ai (sr (mL ?_)))))
   rw [List.take_of_length_le (by rw [kT]; omega)] at hh
   refine bA hh (fR _ _ _ (bM 18446744073709551616 ((a.size + 7) / 8) (bn a.data.toList)) _ (hh.aJ (i := 0) rfl) (Nat.le_refl _) (by omega)) rfl ?_
   intro w38 hh
   refine aL (ae (al ?_))
   refine cn ?_
   have hbd : bn a.data.toList < 18446744073709551616 ^ ((a.size + 7) / 8) := by
    refine Nat.lt_of_lt_of_le (Av _) ?_
    rw [← hsz, show (256 : Nat) = 2 ^ 8 from rfl, show (18446744073709551616 : Nat) = 2 ^ 64 from rfl, ← Nat.pow_mul, ← Nat.pow_mul]
    exact Nat.pow_le_pow_right (by omega) (by omega)
   have hd : dD (bM 18446744073709551616 ((a.size + 7) / 8) (bn a.data.toList)) = aX 18446744073709551616 (bn a.data.toList) := by
    rw [eR (by omega) (dV (by omega) _ _), cf hbd]
   have h1 := (Hp.u3 (xs := bM 18446744073709551616 ((a.size + 7) / 8) (bn a.data.toList)) hh (aV _ _)).at_ (i := 0) rfl
   rw [hd] at h1
   rw [hd]
   exact ⟨_, _, rfl, h1, hh.below⟩
theorem Sl.AX {w : World} {A : Option Addr} {n : Nat} {xs : List Nat} (h : Sl w A n 1 (cL xs)) {k : Nat} (hk : k ≤ n) : Sl w A k 1 (cL (xs.take k)) := by
 have hl := h.1
 rw [aY] at hl
 refine ⟨by rw [aY, List.length_take]; omega, fun h0 => ?_⟩
 obtain ⟨ad, he, hr⟩ := h.2 (by omega)
 exact ⟨ad, he, by rw [pT]; exact hr.take k⟩
theorem Sl.rj {w : World} {A : Option Addr} {n : Nat} {xs : List Nat} (h : Sl w A n 1 (cL xs)) : Sl w A (dD xs).length 1 (cL (dD xs)) := by
 have hl := h.1
 rw [aY] at hl
 have := eN xs
 have h2 := h.AX (k := (dD xs).length) (by omega)
 rwa [← hG] at h2
theorem uF {xs : List Nat} (h : Dg 18446744073709551616 xs) : bH (bz 18446744073709551616 xs) ≤ 64 * xs.length := by
 apply dn
 rw [Nat.pow_mul]
 exact fY h
theorem oF (A : Option Addr) (n c : Nat) (xs : List Nat) (w : World) (hx : Sl w A n 1 (cL xs)) (hd : Dg 18446744073709551616 xs) (hc : n ≤ c) (hn : n ≤ 100000000000) :
  Calls Tryz.prog 275 #[.slice A n c] w fun e w' => e = .returned (.int .i64 (bH (bz 18446744073709551616 xs))) ∧ Below w.heap.size w w' := by
 have hl := hx.1
 rw [aY] at hl
 have hcl := eN xs
 have hcx := hx.rj
 have hcd := hd.cut
 have hlast := qt xs
 rw [← jk]
 generalize hcs : dD xs = cs at *
 have hh := Hp.start w
 refine aj (N := 19) (l := [.slice A n c]) Tryz.func275 rfl rfl (by simp) ?_
 refine sr (aI (ae (sr (mL ?_))))
 refine bA hh (fR _ _ _ xs _ hx hc (by omega)) rfl ?_
 intro w4 hh
 rw [hcs]
 by_cases h0 : cs.length = 0
 ·refine aL (ae (ah (sr (mL (a0 ?_)))))
  refine cu (ae (cT (sr (aI (ae (al (aD ?_)))))))
  refine cn ?_
  have : cs = [] := List.eq_nil_of_length_eq_zero h0
  subst this
  exact ⟨by rw [bz, jb]; rfl, hh.below⟩
 ·obtain ⟨ad, rfl, hr⟩ := hcx.at_ (by omega)
  obtain ⟨d, hd⟩ := aE (l := cs) (k := cs.length - 1) (by omega)
  have hd2 := dX hd
  have hd3 := hcd.at_ hd
  have e1 : cs.take (cs.length - 1) ++ [d] = cs := by rw [← aN hd, List.take_of_length_le (by omega)]
  have hnz : d ≠ 0 := by
   intro h
   subst h
   apply hlast
   rw [List.getLast?_eq_getElem?]
   exact hd
  have hb := xU (B := 18446744073709551616) (b := 64) (m := cs.length - 1) (by decide) (hcd.take (cs.length - 1)) (by rw [List.length_take]; omega) hnz
  rw [e1] at hb
  have hb2 : bH d ≤ 64 := dn (by simpa using hd3)
  refine aL (ae (ah (sr (mL (a0 ?_)))))
  refine cu (ae (cF (ak (ai (sr (mL (a0 ?_)))))))
  refine mulC (mL (mL (a0 ?_)))
  refine eA ?_
  refine aQ (k := cs.length - 1) aF.out aA.size rfl rfl (by omega) (by omega) (by decide) ?_
  refine bj aA.out rfl ((hr.ext hh.below).nu (by assumption)) (by decide) ?_
  refine bA hh (uw _ _ hd3) rfl ?_
  intro w17 hh
  refine eA (aI (ae (al ?_)))
  refine cn ?_
  refine ⟨?_, hh.below⟩
  congr 2
  omega
theorem ur (N : Nat) : (aX 256 N).length = (bH N + 7) / 8 := by
 have h256 : (256 : Nat) = 2 ^ 8 := rfl
 have h1 : (aX 256 N).length ≤ (bH N + 7) / 8 := by
  apply fK (by omega)
  refine Nat.lt_of_lt_of_le (cX N) ?_
  rw [h256, ← Nat.pow_mul]
  exact Nat.pow_le_pow_right (by omega) (by omega)
 have h2 := kC (B := 256) (by omega) N
 have h3 : bH N ≤ 8 * (aX 256 N).length := by
  apply dn
  rw [Nat.pow_mul]
  exact h2
 omega
theorem je {B : Nat} (i N : Nat) : bM B (i + 1) N = bM B i N ++ [N / B ^ i % B] := by
 apply List.ext_getElem?
 intro j
 rcases Nat.lt_trichotomy j i with h | h | h
 ·rw [fZ _ _ _ (by omega), List.getElem?_append_left (by rw [aV]; exact h), fZ _ _ _ h]
 ·subst h
  rw [fZ _ _ _ (by omega), List.getElem?_append_right (by rw [aV]; omega), aV]
  simp
 ·rw [List.getElem?_eq_none (by rw [aV]; omega), List.getElem?_eq_none (by rw [List.length_append, aV]; simp; omega)]
theorem vP {R : List Nat} {k x : Nat} : (List.replicate (k + 1) 0 ++ R).set k x = List.replicate k 0 ++ (x :: R) := by
 rw [List.replicate_succ', List.append_assoc, List.set_append_right _ _ (by simp)]
 simp
theorem fL (A : Option Addr) (n c : Nat) (xs : List Nat) (w : World) (hx : Sl w A n 1 (cL xs)) (hd : Dg 18446744073709551616 xs) (hc : n ≤ c) (hn : n ≤ 10000000000) :
  Calls Tryz.prog 261 #[.slice A n c] w fun e w' => e = .returned (.string (str (sb (bz 18446744073709551616 xs)))) ∧ Below w.heap.size w w' := by
 have hl := hx.1
 rw [aY] at hl
 have hcl := eN xs
 have hcx := hx.rj
 have hcd := hd.cut
 have hbl := uF hcd
 have hcan := eR (by omega) hd
 have hlen := ur (bz 18446744073709551616 xs)
 rw [jk] at hbl
 have hh := Hp.start w
 refine aj (N := 37) (l := [.slice A n c]) Tryz.func261 rfl rfl (by simp) ?_
 refine sr (aS (ae (sr (mL ?_))))
 refine bA hh (fR _ _ _ xs _ hx hc (by omega)) rfl ?_
 intro w7 hh
 rw [hcan] at hcl hcx hcd hbl
 rw [hcan]
 refine aL (ae (sr (mL ?_)))
 refine bA hh (oF _ _ _ (aX 18446744073709551616 (bz 18446744073709551616 xs)) _ (hcx.ext hh.below) hcd (by omega) (by omega)) rfl ?_
 intro w9 hh
 rw [dH (by omega)]
 generalize bz 18446744073709551616 xs = M at *
 refine bL ?_
 refine iZ rfl rfl (by omega) (by omega) (by omega) (by decide) ?_
 refine aI (ae (sr (mI ?_)))
 refine gI (n := (bH M + 7) / 8) hh rfl rfl (by omega) (by omega) aF.out aA.out rfl (by omega) (by omega) (by decide) ?_
 intro b13 w13 hh
 refine aL (ae (ah (sr (mI (mI (ae (ao ?_)))))))
 rw [la] at hh
 refine bs [5, 15, 16, 17, 18, 19, 20, 21, 22, 23, 24, 25, 26, 27, 28, 29, 30, 31, 32, 33, 34] 15
  (fun v w' => ∃ i : Nat, i ≤ (bH M + 7) / 8 ∧ v = .int .i64 i ∧ Hp w [.row (some ⟨b13, 0, none⟩) ((bH M + 7) / 8) ((bH M + 7) / 8) 5 1 (fk (List.replicate ((bH M + 7) / 8 - i) 0 ++ (bM 256 i M).reverse))] w')
  (fun v _ => (bH M + 7) / 8 - (intOf v).toNat) ?_ ?_
 ·exact ⟨0, Nat.zero_le _, rfl, by simpa [bM] using hh⟩
 ·clear hh
  rintro ρ' v w' ⟨i, hi, rfl, hh⟩
  by_cases hlt : i < (bH M + 7) / 8
  ·obtain ⟨ad, rfl, hr⟩ := hcx.at_ (by omega)
   have hg := tB (B := 18446744073709551616) (n := M) (i := i / 8) (by omega) (by omega)
   have hg2 := dX hg
   have e1 : ((i : Int) % 8 * 8).toNat = i % 8 * 8 := by omega
   refine sr ?_
   refine aW (ae (ah (cT (ak (ai (ah (ao (sr (mI (aI (ae ?_)))))))))))
   refine aq (mL (mI ?_))
   refine eA (mI ?_)
   refine eA (mL (mI ?_))
   refine iZ rfl rfl (by omega) (by omega) (by omega) (by decide) ?_
   refine aQ (k := i / 8) aF.out aA.size rfl rfl (by omega) (by omega) (by decide) ?_
   refine bj aA.out rfl ((hr.ext hh.below).nu (by assumption)) (by decide) ?_
   refine mI ?_
   refine j4 rfl rfl (by omega) (by omega) (by decide) ?_
   refine mulC ?_
   refine tK rfl rfl (by omega) (by decide) ?_
   first | refine di aF.out aF.out rfl (by first | assumption | omega) (by decide) ?_ | refine ff aF.out aF.out rfl (by decide) ?_
   refine bg (k := (bH M + 7) / 8 - 1 - i) aF.out aA.size rfl rfl (by omega) (by omega) (by decide) ?_
   refine bJ hh (i := 0) (vs := [_]) rfl rfl (bT rfl) rfl aA.out rfl (by rw [cD, List.length_append, List.length_reverse, List.length_replicate, aV]; omega) rfl ?_
   intro ws hh
   simp only [List.set_cons_zero] at hh
   obtain ⟨k, hk⟩ : ∃ k, (bH M + 7) / 8 - i = k + 1 := ⟨(bH M + 7) / 8 - i - 1, by omega⟩
   rw [e1, xk, Nat.mul_one, cm (by rw [cD, List.length_append, List.length_reverse, List.length_replicate, aV]; omega), kn, hk, show (bH M + 7) / 8 - 1 - i = k by omega, vP, ← List.reverse_concat, ← je] at hh
   refine aC (aT (ai (aq ?_)))
   refine bL (mI (aC (ai ?_)))
   refine ⟨⟨i + 1, by omega, rfl, by rw [show (bH M + 7) / 8 - (i + 1) = k by omega]; exact hh⟩, by show (bH M + 7) / 8 - (i + 1) < (bH M + 7) / 8 - i; omega, ?_⟩
   (repeat (first | exact aw _ _ _ | refine ax rfl ?_ | refine au rfl ?_))
  ·obtain rfl : i = (bH M + 7) / 8 := by omega
   have hfin : fk (List.replicate ((bH M + 7) / 8 - (bH M + 7) / 8) 0 ++ (bM 256 ((bH M + 7) / 8) M).reverse) = iQ (sb M) := by
    rw [Nat.sub_self, List.replicate_zero, List.nil_append, ← hlen]
    have h1 : M < 256 ^ (aX 256 M).length := kC (by omega) M
    rw [rY (by omega) h1, Nat.sub_self, List.replicate_zero, List.append_nil, pU (fun d hd => (dr (B := 256) (by omega) M).1 d (List.mem_reverse.1 hd)), sb, List.map_reverse]
   rw [hfin] at hh
   refine sr ?_
   refine aW (ae (ah (cF ?_)))
   refine aO ?_
   refine ay (ay (a8 (ai (sr (mL ?_)))))
   refine kb aF.out aF.out aF.out rfl (hh.aJ (i := 0) rfl) (by decide) ?_
   refine aS (ae (al ?_))
   refine cn ?_
   exact ⟨rfl, hh.below⟩
theorem kJ (A : Option Addr) (n c m : Nat) (xs : List Nat) (w : World) (hx : Sl w A n 1 (cL xs)) (hn : n ≤ 10000000000) (hm : m ≤ 10000000000) :
  Calls Tryz.prog 276 #[.slice A n c, .int .i64 m] w fun e w' => ∃ b, e = .returned (.slice (some ⟨b, 0, none⟩) (max m n) (max m n)) ∧ w'.ownsRow w.heap.size 221 1 (.slice (some ⟨b, 0, none⟩) (max m n) (max m n)) (max m n) (cL (xs ++ List.replicate (max m n - n) 0)) ∧ Below w.heap.size w w' := by
 have hl := hx.1
 rw [aY] at hl
 have hh := Hp.start w
 refine aj (N := 15) (l := [.slice A n c, .int .i64 m]) Tryz.func276 rfl rfl (by simp) ?_
 refine sr (aL (ae (sr (mI (mL (a0 ?_))))))
 refine jV rfl rfl (by decide) ?_
 refine gI (n := max m n) hh rfl rfl (by omega) (by omega) aF.out aA.out rfl (by omega) (by omega) (by decide) ?_
 intro b10 w10 hh
 refine aL (ae (sr (mL (mL ?_))))
 rw [k9] at hh
 refine zY hh (i := 0) (o := 0) rfl rfl rfl (hx.ext hh.below) aF.out aA.out (by rw [aY, List.length_replicate]; omega) (bF _) (by decide) ?_
 intro w13 hh
 skip
 have e1 : cq (cL (List.replicate (max m n) 0)) 0 ((cL xs).take (min n (max m n) * 1)) = cL (xs ++ List.replicate (max m n - n) 0) := by
  rw [List.take_of_length_le (by rw [aY]; omega), cq, List.take_zero, List.nil_append, aY, ← pJ, ← sH, List.drop_replicate]
  congr 3
  omega
 simp only [List.set_cons_zero, e1] at hh
 refine ae (sr (mL (aL (ae (al ?_)))))
 refine cn ?_
 exact ⟨_, rfl, hh.at_ (i := 0) rfl, hh.below⟩
theorem k8 (A B : Option Addr) (n c m c' : Nat) (xs ys : List Nat) (w : World) (hx : Sl w A n 1 (cL xs)) (hy : Sl w B m 1 (cL ys)) (hdx : Dg 18446744073709551616 xs) (hdy : Dg 18446744073709551616 ys) (hc : n ≤ c) (hc' : m ≤ c') (hn : n ≤ 100000000000) (hm : m ≤ 100000000000) :
  Calls Tryz.prog 279 #[.slice A n c, .slice B m c'] w fun e w' => e = .returned (.int .i64 (jh (bz 18446744073709551616 xs) (bz 18446744073709551616 ys))) ∧ Below w.heap.size w w' := by
 have hlx := hx.1
 have hly := hy.1
 rw [aY] at hlx hly
 have hcx := hx.rj
 have hcy := hy.rj
 have hxl := eN xs
 have hyl := eN ys
 have hx2 := Can.cut hdx
 have hy2 := Can.cut hdy
 have hh := Hp.start w
 rw [← jk xs, ← jk ys]
 refine aj (N := 47) (l := [.slice A n c, .slice B m c']) Tryz.func279 rfl rfl (by simp) ?_
 refine sr (aI (ae (sr (mL ?_))))
 refine bA hh (fR _ _ _ xs _ hx hc (by omega)) rfl ?_
 intro w7 hh
 refine mL ?_
 refine bA hh (fR _ _ _ ys _ (hy.ext hh.below) hc' (by omega)) rfl ?_
 intro w9 hh
 generalize dD xs = us at *
 generalize dD ys = vs at *
 by_cases hlen : us.length = vs.length
 ·refine aL (aL (ae (ah (sr (mL (a0 (mL (a0 ?_))))))))
  refine cQ (ae (cF (ak (ai (ah (sr (mL (a0 ?_))))))))
  refine eA (aI (ae (ao ?_)))
  refine bs [4, 5, 23, 24, 25, 26, 27, 28, 29, 30, 31, 32, 33, 34, 35, 36, 37, 38, 39, 40, 41, 42, 43, 44, 45, 46] 5
   (fun v w' => ∃ k : Nat, k ≤ us.length ∧ v = .int .i64 ((k : Int) - 1) ∧ us.drop k = vs.drop k ∧ Hp w [] w')
   (fun v _ => (intOf v + 1).toNat) ?_ ?_
  ·exact ⟨us.length, Nat.le_refl _, rfl, by rw [List.drop_length, List.drop_eq_nil_of_le (by omega)], hh⟩
  ·clear hh
   rintro ρ' v w' ⟨k, hk, rfl, hd, hh⟩
   by_cases h0 : k = 0
   ·subst h0
    refine ah (sr (mI ?_))
    refine dg (ae (cF ?_))
    refine aO ?_
    refine ay (ay (a8 (ai (sr (aI (ae (al ?_)))))))
    refine cn ?_
    rw [List.drop_zero, List.drop_zero] at hd
    rw [hd]
    exact ⟨by rw [vy rfl], hh.below⟩
   ·obtain ⟨j, rfl⟩ : ∃ j, k = j + 1 := ⟨k - 1, by omega⟩
    obtain ⟨x, hxj⟩ := aE (l := us) (k := j) (by omega)
    obtain ⟨y, hyj⟩ := aE (l := vs) (k := j) (by omega)
    obtain ⟨ad, rfl, hr⟩ := hcx.at_ (by omega)
    obtain ⟨ad2, rfl, hs⟩ := hcy.at_ (by omega)
    have hx3 := dX hxj
    have hy3 := dX hyj
    by_cases hlt : x < y
    ·have hf := pP hx2.1 hxj hyj hd hlt
     refine ah (sr (mI ?_))
     refine dg (ae (cT (ak (ai (ah (ao (ao (ah ?_))))))))
     refine aU 8 [[(0, none)], [(5, none)], [(28, some 0), (29, some 1)], [(30, some 2)], [(1, none)], [(5, none)], [(32, some 4), (33, some 5)], [(34, some 6)]] [(7, 35), (6, 34), (5, 33), (4, 32), (3, 31), (2, 30), (1, 29), (0, 28)] hh mixed (by kernel_rfl) ?_
     refine fX ?_
     refine ej ?_
     refine jN (j) ?_
     refine jq (fun _ hj => (hr.ext hj.hp.below).nu hx3) ?_
     refine fX ?_
     refine ej ?_
     refine jN (j) ?_
     refine jq (fun _ hj => (hs.ext hj.hp.below).nu hy3) ?_
     refine a6 ?_
     intro f W hJ hV
     have hb_9 := hJ.bl
     obtain ⟨v35, v34, v33, v32, v31, v30, v29, v28, _⟩ := hV
     replace hh := hJ.hp
     refine aK (a4 (aa v35 (aa v34 (aa v33 (aa v32 (aa v31 (aa v30 (aa v29 (aa v28 aM))))))))) ?_
     dsimp only [bX]
     clear hJ
     refine aW (aB (ae (cT (sr (aI (ae (al (bP (bP (aD (aD ?_)))))))))))
     refine bP (aD ?_)
     refine cn ?_
     exact ⟨by rw [jw hf], hh.below⟩
    ·by_cases hgt : y < x
     ·have hf := pP hy2.1 hyj hxj hd.symm hgt
      refine ah (sr (mI ?_))
      refine dg (ae (cT (ak (ai (ah (ao (ao (ah ?_))))))))
      refine aU 8 [[(0, none)], [(5, none)], [(28, some 0), (29, some 1)], [(30, some 2)], [(1, none)], [(5, none)], [(32, some 4), (33, some 5)], [(34, some 6)]] [(7, 35), (6, 34), (5, 33), (4, 32), (3, 31), (2, 30), (1, 29), (0, 28)] hh mixed (by kernel_rfl) ?_
      refine fX ?_
      refine ej ?_
      refine jN (j) ?_
      refine jq (fun _ hj => (hr.ext hj.hp.below).nu hx3) ?_
      refine fX ?_
      refine ej ?_
      refine jN (j) ?_
      refine jq (fun _ hj => (hs.ext hj.hp.below).nu hy3) ?_
      refine a6 ?_
      intro f W hJ hV
      have hb_9 := hJ.bl
      obtain ⟨v35, v34, v33, v32, v31, v30, v29, v28, _⟩ := hV
      replace hh := hJ.hp
      refine aK (a4 (aa v35 (aa v34 (aa v33 (aa v32 (aa v31 (aa v30 (aa v29 (aa v28 aM))))))))) ?_
      dsimp only [bX]
      clear hJ
      refine aW (aB (ae (cF (ah ?_))))
      refine aU 8 [[(0, none)], [(5, none)], [(38, some 0), (39, some 1)], [(40, some 2)], [(1, none)], [(5, none)], [(42, some 4), (43, some 5)], [(44, some 6)]] [(7, 45), (6, 44), (5, 43), (4, 42), (3, 41), (2, 40), (1, 39), (0, 38)] hh mixed (by kernel_rfl) ?_
      refine fX ?_
      refine ej ?_
      refine jN (j) ?_
      refine jq (fun _ hj => (hr.ext hj.hp.below).nu hx3) ?_
      refine fX ?_
      refine ej ?_
      refine jN (j) ?_
      refine jq (fun _ hj => (hs.ext hj.hp.below).nu hy3) ?_
      refine a6 ?_
      intro f W hJ hV
      have hb_11 := hJ.bl
      obtain ⟨v45, v44, v43, v42, v41, v40, v39, v38, _⟩ := hV
      replace hh := hJ.hp
      refine aK (a4 (aa v45 (aa v44 (aa v43 (aa v42 (aa v41 (aa v40 (aa v39 (aa v38 aM))))))))) ?_
      dsimp only [bX]
      clear hJ
      refine ck (aB (ae (cT (sr (aI (ae (al (bP (bP (aD (aD ?_)))))))))))
      refine bP (aD ?_)
      refine cn ?_
      exact ⟨by rw [rG hf], hh.below⟩
     ·refine ah (sr (mI ?_))
      refine dg (ae (cT (ak (ai (ah (ao (ao (ah ?_))))))))
      refine aU 8 [[(0, none)], [(5, none)], [(28, some 0), (29, some 1)], [(30, some 2)], [(1, none)], [(5, none)], [(32, some 4), (33, some 5)], [(34, some 6)]] [(7, 35), (6, 34), (5, 33), (4, 32), (3, 31), (2, 30), (1, 29), (0, 28)] hh mixed (by kernel_rfl) ?_
      refine fX ?_
      refine ej ?_
      refine jN (j) ?_
      refine jq (fun _ hj => (hr.ext hj.hp.below).nu hx3) ?_
      refine fX ?_
      refine ej ?_
      refine jN (j) ?_
      refine jq (fun _ hj => (hs.ext hj.hp.below).nu hy3) ?_
      refine a6 ?_
      intro f W hJ hV
      have hb_9 := hJ.bl
      obtain ⟨v35, v34, v33, v32, v31, v30, v29, v28, _⟩ := hV
      replace hh := hJ.hp
      refine aK (a4 (aa v35 (aa v34 (aa v33 (aa v32 (aa v31 (aa v30 (aa v29 (aa v28 aM))))))))) ?_
      dsimp only [bX]
      clear hJ
      refine aW (aB (ae (cF (ah ?_))))
      refine aU 8 [[(0, none)], [(5, none)], [(38, some 0), (39, some 1)], [(40, some 2)], [(1, none)], [(5, none)], [(42, some 4), (43, some 5)], [(44, some 6)]] [(7, 45), (6, 44), (5, 43), (4, 42), (3, 41), (2, 40), (1, 39), (0, 38)] hh mixed (by kernel_rfl) ?_
      refine fX ?_
      refine ej ?_
      refine jN (j) ?_
      refine jq (fun _ hj => (hr.ext hj.hp.below).nu hx3) ?_
      refine fX ?_
      refine ej ?_
      refine jN (j) ?_
      refine jq (fun _ hj => (hs.ext hj.hp.below).nu hy3) ?_
      refine a6 ?_
      intro f W hJ hV
      have hb_11 := hJ.bl
      obtain ⟨v45, v44, v43, v42, v41, v40, v39, v38, _⟩ := hV
      replace hh := hJ.hp
      refine aK (a4 (aa v45 (aa v44 (aa v43 (aa v42 (aa v41 (aa v40 (aa v39 (aa v38 aM))))))))) ?_
      dsimp only [bX]
      clear hJ
      refine ck (aB (ae (cF (ak (aT (aT (ai (aq (mI ?_)))))))))
      refine eA (aI (aC (ai ?_)))
      refine ⟨⟨j, by omega, by show Value.int _ _ = Value.int _ _; congr 1; omega, qX hxj hyj hd (by omega), hh⟩, by show ((((j + 1 : Nat) : Int) - 1 - 1) + 1).toNat < ((((j + 1 : Nat) : Int) - 1) + 1).toNat; omega, ?_⟩
      (repeat (first | exact aw _ _ _ | refine ax rfl ?_ | refine au rfl ?_))
 ·by_cases hlt : us.length < vs.length
  ·have hf : bz 18446744073709551616 us < bz 18446744073709551616 vs := by
    refine Nat.lt_of_not_le fun h => ?_
    have := hy2.nN hx2 (by omega) h
    omega
   refine aL (aL (ae (ah (sr (mL (a0 (mL (a0 ?_))))))))
   refine cQ (ae (cT (ah (sr (mL (a0 (mL (a0 ?_))))))))
   refine aW (ae (cT (sr (aI (ae (al (aD (aD ?_))))))))
   refine cn ?_
   exact ⟨by rw [jw hf], hh.below⟩
  ·have hf : bz 18446744073709551616 vs < bz 18446744073709551616 us := by
    refine Nat.lt_of_not_le fun h => ?_
    have := hx2.nN hy2 (by omega) h
    omega
   refine aL (aL (ae (ah (sr (mL (a0 (mL (a0 ?_))))))))
   refine cQ (ae (cT (ah (sr (mL (a0 (mL (a0 ?_))))))))
   refine aW (ae (cF (ak (ai (sr (aI (ae (al (aD ?_)))))))))
   refine cn ?_
   exact ⟨by rw [rG hf], hh.below⟩
end Go.Proofs.YtaapkaefelhfcaaGreatDoor
namespace Go.Proofs.YtaapkaefelhfcaaGreatDoor
open Go.RowKit
theorem BX {y m : Nat} (hy : y < 18446744073709551616) (hm : m < 18446744073709551616) : y * m ≤ 340282366920938463426481119284349108225 := Nat.mul_le_mul (by omega : y ≤ 18446744073709551615) (by omega : m ≤ 18446744073709551615)
theorem qu {x y m c P : Nat} (hx : x < 18446744073709551616) (hc : c < 18446744073709551616) (hP : P ≤ 340282366920938463426481119284349108225) (he : P = y * m) :
  (x + (P % 18446744073709551616 + c + 0) % 18446744073709551616 + 0) % 18446744073709551616 = (x + y * m + c) % 18446744073709551616 ∧ ((P / 18446744073709551616 + (P % 18446744073709551616 + c + 0) / 18446744073709551616) % 18446744073709551616 + (x + (P % 18446744073709551616 + c + 0) % 18446744073709551616 + 0) / 18446744073709551616) % 18446744073709551616 = (x + y * m + c) / 18446744073709551616 ∧ (x + y * m + c) / 18446744073709551616 < 18446744073709551616 := by
 rw [← he]
 omega
theorem tg {w0 : World} {H : List HE} {b M C c' ny cy m : Nat} {Y : Option Addr} (pre xs post ys : List Nat) (w : World) (hh : Hp w0 (.row (some ⟨b, 0, none⟩) M C 221 1 (cL (pre ++ xs ++ post)) :: H) w)
  (hy : ∀ w1 cs, Hp w0 (.row (some ⟨b, 0, none⟩) M C 221 1 cs :: H) w1 → Sl w1 Y ny 1 (cL ys)) (hxd : Dg 18446744073709551616 xs) (hyd : Dg 18446744073709551616 ys) (hm : m < 18446744073709551616) (hM : xs.length ≤ 100000000000) (hny : ny ≤ 100000000000) :
  Calls Tryz.prog 282 #[.slice (some ⟨b, pre.length, none⟩) xs.length c', .slice Y ny cy, .int .u64 (m : Int)] w fun e w' => e = .returned (.tuple #[]) ∧ Hp w0 (.row (some ⟨b, 0, none⟩) M C 221 1 (cL (pre ++ fu 18446744073709551616 xs ys m 0 ++ post)) :: H) w' := by
 have hly := (hy _ _ hh).1
 rw [aY] at hly
 refine aj (N := 56) (l := [.slice (some ⟨b, pre.length, none⟩) xs.length c', .slice Y ny cy, .int .u64 (m : Int)]) Tryz.func282 rfl rfl (by simp) ?_
 refine sr (aI (ae (sr (mL (a0 (mI (ae (ao ?_))))))))
 refine cE [6, 7, 8, 9, 10, 11, 14, 15, 16, 17, 18, 19, 20, 21, 22, 23, 24, 25, 26, 27, 28, 29, 30, 31, 32, 33, 34, 35, 36, 37, 38, 39, 40, 41, 42, 43, 44, 45, 46, 47, 48, 49, 50, 51, 52, 53, 54, 55] 6 14
  (fun c i w' => ∃ (done rest : List Nat) (cr : Nat), done.length + rest.length = xs.length ∧ i = .int .i64 done.length ∧ c = .int .u64 (cr : Int) ∧ cr < 18446744073709551616 ∧ Dg 18446744073709551616 rest ∧ done ++ fu 18446744073709551616 rest (ys.drop done.length) m cr = fu 18446744073709551616 xs ys m 0 ∧ Hp w0 (.row (some ⟨b, 0, none⟩) M C 221 1 (cL (pre ++ (done ++ rest) ++ post)) :: H) w')
  (fun _ i _ => xs.length - (intOf i).toNat) ?_ ?_
 ·exact ⟨[], xs, 0, by simp, rfl, rfl, by omega, hxd, rfl, hh⟩
 ·clear hh
  rintro ρ' c i w' ⟨done, rest, cr, hlen, rfl, rfl, hcr, hrd, heq, hh⟩
  by_cases hlt : done.length < xs.length
  ·obtain ⟨x, r, rfl⟩ : ∃ x r, rest = x :: r := by
    cases rest with
    | nil => simp at hlen; omega
    | cons x r => exact ⟨x, r, rfl⟩
   have hx := hrd.head
   have hg := dX (qU (pre := pre) (done := done) (r := r) (post := post) (x := x))
   have hlr : done.length + (r.length + 1) = xs.length := by simpa using hlen
   simp only [fu, tail_drop, oW] at heq
   by_cases hiy : done.length < ny
   ·obtain ⟨y, hyk⟩ := aE (l := ys) (k := done.length) (by omega)
    obtain ⟨ad, rfl, _⟩ := (hy _ _ hh).at_ (by omega)
    rw [hyk, Option.getD_some] at heq
    have hyw := hyd.at_ hyk
    refine sr ?_
    refine aW (ae (ah (cT (ak (ai (ah (ao (sr (mI (aI (ae ?_)))))))))))
    refine sr (aI (ae (ah (sr (mI (mL (a0 ?_)))))))
    refine aW (ae (cT (aq (mL (mI ?_)))))
    refine aQ (k := done.length) aF.out aA.size rfl rfl (by omega) (by omega) (by decide) ?_
    refine bj aA.out rfl ((hy _ _ hh).Bk hyk) (by decide) ?_
    refine aI (ae (sr (mI (mI ?_))))
    obtain ⟨p1, p2, p3⟩ := qu (y := y) (m := m) hx hcr (BX hyw hm) rfl
    refine bA hh (m5 y m _ hyw hm) rfl ?_
    intro w28 hh
    refine mT ?_
    refine dx ?_
    refine dx ?_
    refine aI (aI (ae (sr (mI (mI ?_)))))
    refine iI (ic (y * m % 18446744073709551616) cr 0 (by omega) _) (az (bT rfl) (az (bT rfl) (az rfl a7))) (by decide) ?_
    refine mT ?_
    refine dx ?_
    refine dx ?_
    refine aI (aI (ae (sr (mI (mI ?_)))))
    refine fD rfl rfl (by decide) ?_
    refine aI (ae (sr (mL (mI (mL (mI ?_))))))
    refine dA aF.out aA.size rfl rfl rfl (by omega) (by decide) ?_
    refine bj aA.out rfl (hh.cC (i := 0) rfl (by first | assumption | (simp only [Nat.mul_one]; assumption))) (by decide) ?_
    refine mI ?_
    refine iI (ic x ((y * m % 18446744073709551616 + cr + 0) % 18446744073709551616) 0 (by omega) _) (az (bT rfl) (az (bT rfl) (az rfl a7))) (by decide) ?_
    refine mT ?_
    refine dx ?_
    refine dx ?_
    refine dA (k := done.length) aF.out aA.size rfl rfl (by omega) (by omega) (by decide) ?_
    refine bJ hh (i := 0) (vs := [_]) rfl rfl (bT rfl) rfl aA.out rfl (by rw [aY]; simp only [List.length_append, List.length_cons]; omega) rfl ?_
    intro ws hh
    simp only [List.set_cons_zero] at hh
    rw [p1, Nat.mul_one, cm (by rw [aY]; simp only [List.length_append, List.length_cons]; omega), eY, kx] at hh
    refine aI (ae (aq (mI (mI ?_))))
    refine fD rfl rfl (by decide) ?_
    refine aI (aC (aT (ai (aq ?_))))
    refine bL (mI (aC (ai ?_)))
    rw [p2]
    refine ⟨⟨done ++ [(x + y * m + cr) % 18446744073709551616], r, _, by simp; omega, by rw [List.length_append]; rfl, rfl, p3, hrd.tail, ?_, hh⟩, by show xs.length - (done.length + 1) < xs.length - done.length; omega, ?_⟩
    ·rw [← heq, List.append_assoc, List.length_append]; rfl
    (repeat (first | exact aw _ _ _ | refine ax rfl ?_ | refine au rfl ?_))
   ·rw [List.getElem?_eq_none (by omega), Option.getD_none] at heq
    have h0w : (0 : Nat) < 18446744073709551616 := by omega
    refine sr ?_
    refine aW (ae (ah (cT (ak (ai (ah (ao (sr (mI (aI (ae ?_)))))))))))
    refine sr (aI (ae (ah (sr (mI (mL (a0 ?_)))))))
    refine aW (ae (cF (ak (ai (sr (mI (mI ?_)))))))
    obtain ⟨p1, p2, p3⟩ := qu (y := 0) (m := m) hx hcr (BX h0w hm) rfl
    refine bA hh (m5 0 m _ h0w hm) rfl ?_
    intro w28 hh
    refine mT ?_
    refine dx ?_
    refine dx ?_
    refine aI (aI (ae (sr (mI (mI ?_)))))
    refine iI (ic (0 * m % 18446744073709551616) cr 0 (by omega) _) (az (bT rfl) (az (bT rfl) (az rfl a7))) (by decide) ?_
    refine mT ?_
    refine dx ?_
    refine dx ?_
    refine aI (aI (ae (sr (mI (mI ?_)))))
    refine fD rfl rfl (by decide) ?_
    refine aI (ae (sr (mL (mI (mL (mI ?_))))))
    refine dA aF.out aA.size rfl rfl rfl (by omega) (by decide) ?_
    refine bj aA.out rfl (hh.cC (i := 0) rfl (by first | assumption | (simp only [Nat.mul_one]; assumption))) (by decide) ?_
    refine mI ?_
    refine iI (ic x ((0 * m % 18446744073709551616 + cr + 0) % 18446744073709551616) 0 (by omega) _) (az (bT rfl) (az (bT rfl) (az rfl a7))) (by decide) ?_
    refine mT ?_
    refine dx ?_
    refine dx ?_
    refine dA (k := done.length) aF.out aA.size rfl rfl (by omega) (by omega) (by decide) ?_
    refine bJ hh (i := 0) (vs := [_]) rfl rfl (bT rfl) rfl aA.out rfl (by rw [aY]; simp only [List.length_append, List.length_cons]; omega) rfl ?_
    intro ws hh
    simp only [List.set_cons_zero] at hh
    rw [p1, Nat.mul_one, cm (by rw [aY]; simp only [List.length_append, List.length_cons]; omega), eY, kx] at hh
    refine aI (ae (aq (mI (mI ?_))))
    refine fD rfl rfl (by decide) ?_
    refine aI (aC (aT (ai (aq ?_))))
    refine bL (mI (aC (ai ?_)))
    rw [p2]
    refine ⟨⟨done ++ [(x + 0 * m + cr) % 18446744073709551616], r, _, by simp; omega, by rw [List.length_append]; rfl, rfl, p3, hrd.tail, ?_, hh⟩, by show xs.length - (done.length + 1) < xs.length - done.length; omega, ?_⟩
    ·rw [← heq, List.append_assoc, List.length_append]; rfl
    (repeat (first | exact aw _ _ _ | refine ax rfl ?_ | refine au rfl ?_))
  ·have hr0 : rest = [] := List.eq_nil_of_length_eq_zero (by omega)
   subst hr0
   refine sr ?_
   refine aW (ae (ah (cF ?_)))
   refine aO ?_
   refine ay (ay (a8 ?_))
   refine BH (by first | exact .inr rfl | exact .inl rfl) rfl  ?_
   rw [List.append_nil, fu, List.append_nil] at *
   rw [← heq]
   exact ⟨rfl, hh⟩
theorem tm {w0 : World} {H : List HE} {b M C c' ny cy : Nat} {Y : Option Addr} (pre xs post ys : List Nat) (w : World) (hh : Hp w0 (.row (some ⟨b, 0, none⟩) M C 221 1 (cL (pre ++ xs ++ post)) :: H) w)
  (hy : ∀ w1 cs, Hp w0 (.row (some ⟨b, 0, none⟩) M C 221 1 cs :: H) w1 → Sl w1 Y ny 1 (cL ys)) (hxd : Dg 18446744073709551616 xs) (hyd : Dg 18446744073709551616 ys) (hM : xs.length ≤ 100000000000) (hny : ny ≤ 100000000000) (hsub : tw 18446744073709551616 xs ys 0 = 0) :
  Calls Tryz.prog 280 #[.slice (some ⟨b, pre.length, none⟩) xs.length c', .slice Y ny cy] w fun e w' => e = .returned (.bool true) ∧ Hp w0 (.row (some ⟨b, 0, none⟩) M C 221 1 (cL (pre ++ nj 18446744073709551616 xs ys 0 ++ post)) :: H) w' := by
 have hly := (hy _ _ hh).1
 rw [aY] at hly
 refine aj (N := 37) (l := [.slice (some ⟨b, pre.length, none⟩) xs.length c', .slice Y ny cy]) Tryz.func280 rfl rfl (by simp) ?_
 refine sr (aB (ae (sr (aI (ae (ah (sr (mL (a0 (mI (ae ?_)))))))))))
 refine ao ?_
 refine cE [5, 6, 7, 10, 11, 12, 13, 14, 15, 16, 17, 18, 19, 20, 21, 22, 23, 24, 25, 26, 27, 28, 29, 30, 31, 32, 33, 34] 5 10
  (fun c i w' => ∃ (done rest : List Nat) (cr : Nat), done.length + rest.length = xs.length ∧ i = .int .i64 done.length ∧ c = .int .u64 (cr : Int) ∧ cr ≤ 1 ∧ Dg 18446744073709551616 rest ∧ done ++ nj 18446744073709551616 rest (ys.drop done.length) cr = nj 18446744073709551616 xs ys 0 ∧ tw 18446744073709551616 rest (ys.drop done.length) cr = 0 ∧ Hp w0 (.row (some ⟨b, 0, none⟩) M C 221 1 (cL (pre ++ (done ++ rest) ++ post)) :: H) w')
  (fun _ i _ => xs.length - (intOf i).toNat) ?_ ?_
 ·exact ⟨[], xs, 0, by simp, rfl, rfl, by omega, hxd, rfl, hsub, hh⟩
 ·clear hh
  rintro ρ' c i w' ⟨done, rest, cr, hlen, rfl, rfl, hcr, hrd, heq, hsb, hh⟩
  by_cases hlt : done.length < xs.length
  ·obtain ⟨x, r, rfl⟩ : ∃ x r, rest = x :: r := by
    cases rest with
    | nil => simp at hlen; omega
    | cons x r => exact ⟨x, r, rfl⟩
   have hx := hrd.head
   have hg := dX (qU (pre := pre) (done := done) (r := r) (post := post) (x := x))
   have hlr : done.length + (r.length + 1) = xs.length := by simpa using hlen
   simp only [nj, tw, tail_drop, oW] at heq hsb
   by_cases hiy : done.length < ny
   ·obtain ⟨y, hyk⟩ := aE (l := ys) (k := done.length) (by omega)
    obtain ⟨ad, rfl, _⟩ := (hy _ _ hh).at_ (by omega)
    rw [hyk, Option.getD_some] at heq hsb
    have hyw := hyd.at_ hyk
    refine sr ?_
    refine aW (ae (ah (cT (ak (ai (ah (ao (sr (mI (aI (ae ?_)))))))))))
    refine sr (aI (ae (ah (sr (mI (mL (a0 ?_)))))))
    refine aW (ae (cT (aq (mL (mI ?_)))))
    refine aQ (k := done.length) aF.out aA.size rfl rfl (by omega) (by omega) (by decide) ?_
    refine bj aA.out rfl ((hy _ _ hh).Bk hyk) (by decide) ?_
    refine aI (ae (aq (mL (mI (mL (mI ?_))))))
    refine dA (k := done.length) aF.out aA.size rfl rfl (by omega) (by omega) (by decide) ?_
    refine bj aA.out rfl (hh.cC (i := 0) rfl (by first | assumption | (simp only [Nat.mul_one]; assumption))) (by decide) ?_
    refine mI (mI ?_)
    refine iI (qp x y cr hcr _) (az (bT rfl) (az (bT rfl) (az (bT rfl) a7))) (by decide) ?_
    refine mT ?_
    refine dx ?_
    refine dx ?_
    refine dA (k := done.length) aF.out aA.size rfl rfl (by omega) (by omega) (by decide) ?_
    refine bJ hh (i := 0) (vs := [_]) rfl rfl (bT rfl) rfl aA.out rfl (by rw [aY]; simp only [List.length_append, List.length_cons]; omega) rfl ?_
    intro ws hh
    simp only [List.set_cons_zero] at hh
    rw [Nat.mul_one, cm (by rw [aY]; simp only [List.length_append, List.length_cons]; omega), eY, kx] at hh
    refine aI (aC (aT (ai (aq ?_))))
    refine bL (mI (aC (ai ?_)))
    refine ⟨⟨done ++ [(x + 18446744073709551616 - y - cr) % 18446744073709551616], r, _, by simp; omega, by rw [List.length_append]; rfl, rfl, by split <;> omega, hrd.tail, ?_, ?_, hh⟩, by show xs.length - (done.length + 1) < xs.length - done.length; omega, ?_⟩
    ·rw [← heq, List.append_assoc, List.length_append]; rfl
    ·rw [List.length_append]; exact hsb
    (repeat (first | exact aw _ _ _ | refine ax rfl ?_ | refine au rfl ?_))
   ·rw [List.getElem?_eq_none (by omega), Option.getD_none] at heq hsb
    refine sr ?_
    refine aW (ae (ah (cT (ak (ai (ah (ao (sr (mI (aI (ae ?_)))))))))))
    refine sr (aI (ae (ah (sr (mI (mL (a0 ?_)))))))
    refine aW (ae (cF (ak (ai (aq (mL (mI (mL (mI ?_)))))))))
    refine dA (k := done.length) aF.out aA.size rfl rfl (by omega) (by omega) (by decide) ?_
    refine bj aA.out rfl (hh.cC (i := 0) rfl (by first | assumption | (simp only [Nat.mul_one]; assumption))) (by decide) ?_
    refine mI (mI ?_)
    refine iI (qp x 0 cr hcr _) (az (bT rfl) (az (bT rfl) (az (bT rfl) a7))) (by decide) ?_
    refine mT ?_
    refine dx ?_
    refine dx ?_
    refine dA (k := done.length) aF.out aA.size rfl rfl (by omega) (by omega) (by decide) ?_
    refine bJ hh (i := 0) (vs := [_]) rfl rfl (bT rfl) rfl aA.out rfl (by rw [aY]; simp only [List.length_append, List.length_cons]; omega) rfl ?_
    intro ws hh
    simp only [List.set_cons_zero] at hh
    rw [Nat.mul_one, cm (by rw [aY]; simp only [List.length_append, List.length_cons]; omega), eY, kx] at hh
    refine aI (aC (aT (ai (aq ?_))))
    refine bL (mI (aC (ai ?_)))
    refine ⟨⟨done ++ [(x + 18446744073709551616 - 0 - cr) % 18446744073709551616], r, _, by simp; omega, by rw [List.length_append]; rfl, rfl, by split <;> omega, hrd.tail, ?_, ?_, hh⟩, by show xs.length - (done.length + 1) < xs.length - done.length; omega, ?_⟩
    ·rw [← heq, List.append_assoc, List.length_append]; rfl
    ·rw [List.length_append]; exact hsb
    (repeat (first | exact aw _ _ _ | refine ax rfl ?_ | refine au rfl ?_))
  ·have hr0 : rest = [] := List.eq_nil_of_length_eq_zero (by omega)
   subst hr0
   obtain rfl : cr = 0 := hsb
   refine sr ?_
   refine aW (ae (ah (cF ?_)))
   refine aO ?_
   refine ay (ay (a8 (ai (sr (mI ?_)))))
   refine cu (aB (ae (al ?_)))
   refine cn ?_
   rw [List.append_nil, nj, List.append_nil] at *
   rw [← heq]
   exact ⟨rfl, hh⟩
theorem ub {w0 : World} {H : List HE} {b M C c' ny cy : Nat} {Y : Option Addr} (pre xs post ys : List Nat) (w : World) (hh : Hp w0 (.row (some ⟨b, 0, none⟩) M C 221 1 (cL (pre ++ xs ++ post)) :: H) w)
  (hy : ∀ w1 cs, Hp w0 (.row (some ⟨b, 0, none⟩) M C 221 1 cs :: H) w1 → Sl w1 Y ny 1 (cL ys)) (hxd : Dg 18446744073709551616 xs) (hyd : Dg 18446744073709551616 ys) (hM : xs.length ≤ 100000000000) (hny : ny ≤ 100000000000) :
  Calls Tryz.prog 277 #[.slice (some ⟨b, pre.length, none⟩) xs.length c', .slice Y ny cy] w fun e w' => e = .returned (.tuple #[]) ∧ Hp w0 (.row (some ⟨b, 0, none⟩) M C 221 1 (cL (pre ++ fu 18446744073709551616 xs ys 1 0 ++ post)) :: H) w' := by
 have hly := (hy _ _ hh).1
 rw [aY] at hly
 refine aj (N := 34) (l := [.slice (some ⟨b, pre.length, none⟩) xs.length c', .slice Y ny cy]) Tryz.func277 rfl rfl (by simp) ?_
 refine sr (aI (ae (sr (mL (a0 (mI (ae (ao ?_))))))))
 refine cE [4, 5, 6, 9, 10, 11, 12, 13, 14, 15, 16, 17, 18, 19, 20, 21, 22, 23, 24, 25, 26, 27, 28, 29, 30, 31, 32, 33] 4 9
  (fun c i w' => ∃ (done rest : List Nat) (cr : Nat), done.length + rest.length = xs.length ∧ i = .int .i64 done.length ∧ c = .int .u64 (cr : Int) ∧ cr ≤ 1 ∧ Dg 18446744073709551616 rest ∧ done ++ fu 18446744073709551616 rest (ys.drop done.length) 1 cr = fu 18446744073709551616 xs ys 1 0 ∧ Hp w0 (.row (some ⟨b, 0, none⟩) M C 221 1 (cL (pre ++ (done ++ rest) ++ post)) :: H) w')
  (fun _ i _ => xs.length - (intOf i).toNat) ?_ ?_
 ·exact ⟨[], xs, 0, by simp, rfl, rfl, by omega, hxd, rfl, hh⟩
 ·clear hh
  rintro ρ' c i w' ⟨done, rest, cr, hlen, rfl, rfl, hcr, hrd, heq, hh⟩
  by_cases hlt : done.length < xs.length
  ·obtain ⟨x, r, rfl⟩ : ∃ x r, rest = x :: r := by
    cases rest with
    | nil => simp at hlen; omega
    | cons x r => exact ⟨x, r, rfl⟩
   have hx := hrd.head
   have hg := dX (qU (pre := pre) (done := done) (r := r) (post := post) (x := x))
   have hlr : done.length + (r.length + 1) = xs.length := by simpa using hlen
   simp only [fu, tail_drop, oW, Nat.mul_one] at heq
   by_cases hiy : done.length < ny
   ·obtain ⟨y, hyk⟩ := aE (l := ys) (k := done.length) (by omega)
    obtain ⟨ad, rfl, _⟩ := (hy _ _ hh).at_ (by omega)
    rw [hyk, Option.getD_some] at heq
    have hyw := hyd.at_ hyk
    refine sr ?_
    refine aW (ae (ah (cT (ak (ai (ah (ao (sr (mI (aI (ae ?_)))))))))))
    refine sr (aI (ae (ah (sr (mI (mL (a0 ?_)))))))
    refine aW (ae (cT (aq (mL (mI ?_)))))
    refine aQ (k := done.length) aF.out aA.size rfl rfl (by omega) (by omega) (by decide) ?_
    refine bj aA.out rfl ((hy _ _ hh).Bk hyk) (by decide) ?_
    refine aI (ae (aq (mL (mI (mL (mI ?_))))))
    refine dA (k := done.length) aF.out aA.size rfl rfl (by omega) (by omega) (by decide) ?_
    refine bj aA.out rfl (hh.cC (i := 0) rfl (by first | assumption | (simp only [Nat.mul_one]; assumption))) (by decide) ?_
    refine mI (mI ?_)
    refine iI (ic x y cr hcr _) (az (bT rfl) (az (bT rfl) (az (bT rfl) a7))) (by decide) ?_
    refine mT ?_
    refine dx ?_
    refine dx ?_
    refine dA (k := done.length) aF.out aA.size rfl rfl (by omega) (by omega) (by decide) ?_
    refine bJ hh (i := 0) (vs := [_]) rfl rfl (bT rfl) rfl aA.out rfl (by rw [aY]; simp only [List.length_append, List.length_cons]; omega) rfl ?_
    intro ws hh
    simp only [List.set_cons_zero] at hh
    rw [Nat.mul_one, cm (by rw [aY]; simp only [List.length_append, List.length_cons]; omega), eY, kx] at hh
    refine aI (aC (aT (ai (aq ?_))))
    refine bL (mI (aC (ai ?_)))
    refine ⟨⟨done ++ [(x + y + cr) % 18446744073709551616], r, _, by simp; omega, by rw [List.length_append]; rfl, rfl, by omega, hrd.tail, ?_, hh⟩, by show xs.length - (done.length + 1) < xs.length - done.length; omega, ?_⟩
    ·rw [← heq, List.append_assoc, List.length_append]; rfl
    (repeat (first | exact aw _ _ _ | refine ax rfl ?_ | refine au rfl ?_))
   ·rw [List.getElem?_eq_none (by omega), Option.getD_none] at heq
    refine sr ?_
    refine aW (ae (ah (cT (ak (ai (ah (ao (sr (mI (aI (ae ?_)))))))))))
    refine sr (aI (ae (ah (sr (mI (mL (a0 ?_)))))))
    refine aW (ae (cF (ak (ai (aq (mL (mI (mL (mI ?_)))))))))
    refine dA (k := done.length) aF.out aA.size rfl rfl (by omega) (by omega) (by decide) ?_
    refine bj aA.out rfl (hh.cC (i := 0) rfl (by first | assumption | (simp only [Nat.mul_one]; assumption))) (by decide) ?_
    refine mI (mI ?_)
    refine iI (ic x 0 cr hcr _) (az (bT rfl) (az (bT rfl) (az (bT rfl) a7))) (by decide) ?_
    refine mT ?_
    refine dx ?_
    refine dx ?_
    refine dA (k := done.length) aF.out aA.size rfl rfl (by omega) (by omega) (by decide) ?_
    refine bJ hh (i := 0) (vs := [_]) rfl rfl (bT rfl) rfl aA.out rfl (by rw [aY]; simp only [List.length_append, List.length_cons]; omega) rfl ?_
    intro ws hh
    simp only [List.set_cons_zero] at hh
    rw [Nat.mul_one, cm (by rw [aY]; simp only [List.length_append, List.length_cons]; omega), eY, kx] at hh
    refine aI (aC (aT (ai (aq ?_))))
    refine bL (mI (aC (ai ?_)))
    refine ⟨⟨done ++ [(x + 0 + cr) % 18446744073709551616], r, _, by simp; omega, by rw [List.length_append]; rfl, rfl, by omega, hrd.tail, ?_, hh⟩, by show xs.length - (done.length + 1) < xs.length - done.length; omega, ?_⟩
    ·rw [← heq, List.append_assoc, List.length_append]; rfl
    (repeat (first | exact aw _ _ _ | refine ax rfl ?_ | refine au rfl ?_))
  ·have hr0 : rest = [] := List.eq_nil_of_length_eq_zero (by omega)
   subst hr0
   refine sr ?_
   refine aW (ae (ah (cF ?_)))
   refine aO ?_
   refine ay (ay (a8 ?_))
   refine BH (by first | exact .inr rfl | exact .inl rfl) rfl  ?_
   rw [List.append_nil, fu, List.append_nil] at *
   rw [← heq]
   exact ⟨rfl, hh⟩
end Go.Proofs.YtaapkaefelhfcaaGreatDoor
namespace Go.Proofs.YtaapkaefelhfcaaGreatDoor
open Go.RowKit
theorem Ae {k i n d : Nat} (D : Nat) (hD : D < 18446744073709551616 ^ i) (hd : d < 18446744073709551616) (hk : i + n / 64 + 1 < k) :
  (D * 2 ^ n) / 18446744073709551616 ^ (i + n / 64) % 18446744073709551616 < 2 ^ (n % 64) ∧ d * 2 ^ (n % 64) % 18446744073709551616 = (d % 2 ^ (64 - n % 64)) * 2 ^ (n % 64) ∧
  (bM 18446744073709551616 k (D * 2 ^ n)).set (i + n / 64) ((D * 2 ^ n) / 18446744073709551616 ^ (i + n / 64) % 18446744073709551616 + d * 2 ^ (n % 64) % 18446744073709551616) = bM 18446744073709551616 k (D * 2 ^ n + 18446744073709551616 ^ (i + n / 64) * (d * 2 ^ (n % 64) % 18446744073709551616)) ∧
  (D * 2 ^ n + 18446744073709551616 ^ (i + n / 64) * (d * 2 ^ (n % 64) % 18446744073709551616)) / 18446744073709551616 ^ (i + n / 64 + 1) % 18446744073709551616 = 0 ∧
  (bM 18446744073709551616 k (D * 2 ^ n + 18446744073709551616 ^ (i + n / 64) * (d * 2 ^ (n % 64) % 18446744073709551616))).set (i + n / 64 + 1) (d / 2 ^ (64 - n % 64)) = bM 18446744073709551616 k ((D + 18446744073709551616 ^ i * d) * 2 ^ n) ∧
  (n % 64 = 0 → D * 2 ^ n + 18446744073709551616 ^ (i + n / 64) * (d * 2 ^ (n % 64) % 18446744073709551616) = (D + 18446744073709551616 ^ i * d) * 2 ^ n) := by
 have hW : (18446744073709551616 : Nat) = 2 ^ 64 := by decide
 have hs : n % 64 < 64 := Nat.mod_lt _ (by omega)
 have hn : 2 ^ n = 18446744073709551616 ^ (n / 64) * 2 ^ (n % 64) := by
  rw [hW, ← Nat.pow_mul, ← Nat.pow_add]; congr 1; omega
 generalize hq : n / 64 = q at *
 generalize hse : n % 64 = s at *
 have e : (18446744073709551616 : Nat) = 2 ^ (64 - s) * 2 ^ s := by rw [← Nat.pow_add, hW]; congr 1; omega
 have hpos : 0 < 2 ^ s := Nat.pow_pos (by omega)
 have hwp : ∀ j : Nat, 0 < 18446744073709551616 ^ j := fun j => Nat.pow_pos (by decide)
 have hP : D * 2 ^ n < 18446744073709551616 ^ (i + q) * 2 ^ s := by
  rw [hn, ← Nat.mul_assoc, Nat.pow_add]
  exact Nat.mul_lt_mul_of_pos_right (Nat.mul_lt_mul_of_pos_right hD (hwp q)) hpos
 have h1 : (D * 2 ^ n) / 18446744073709551616 ^ (i + q) < 2 ^ s := by rw [Nat.div_lt_iff_lt_mul (hwp _), Nat.mul_comm (2 ^ s)]; exact hP
 have hsW : 2 ^ s ≤ 18446744073709551616 := by rw [hW]; exact Nat.pow_le_pow_right (by omega) (by omega)
 have h2 : d * 2 ^ s % 18446744073709551616 = (d % 2 ^ (64 - s)) * 2 ^ s := by rw [e, Nat.mul_mod_mul_right]
 have h3 : (d % 2 ^ (64 - s) + 1) * 2 ^ s ≤ 18446744073709551616 := by
  rw [e]
  exact Nat.mul_le_mul_right _ (Nat.mod_lt _ (Nat.pow_pos (by omega)))
 rw [Nat.succ_mul] at h3
 have h4 : (D * 2 ^ n) / 18446744073709551616 ^ (i + q) % 18446744073709551616 = (D * 2 ^ n) / 18446744073709551616 ^ (i + q) := Nat.mod_eq_of_lt (by omega)
 have hlt1 : D * 2 ^ n + 18446744073709551616 ^ (i + q) * (d * 2 ^ s % 18446744073709551616) < 18446744073709551616 ^ (i + q + 1) := by
  rw [h2, Nat.pow_succ]
  have : 18446744073709551616 ^ (i + q) * ((d % 2 ^ (64 - s)) * 2 ^ s + 2 ^ s) ≤ 18446744073709551616 ^ (i + q) * 18446744073709551616 := Nat.mul_le_mul_left _ h3
  rw [Nat.mul_add] at this
  omega
 have hup := AM (d := d) (s := s) hd (by omega)
 have hfin : D * 2 ^ n + 18446744073709551616 ^ (i + q) * (d * 2 ^ s % 18446744073709551616) + 18446744073709551616 ^ (i + q + 1) * (d / 2 ^ (64 - s)) = (D + 18446744073709551616 ^ i * d) * 2 ^ n := by
  have h5 : 18446744073709551616 ^ (i + q) * (d * 2 ^ s % 18446744073709551616) + 18446744073709551616 ^ (i + q + 1) * (d / 2 ^ (64 - s)) = 18446744073709551616 ^ (i + q) * (d * 2 ^ s) := by
   conv => rhs; rw [← hup.1, Nat.mul_add]
   rw [Nat.pow_succ, Nat.mul_assoc, Nat.mul_comm 18446744073709551616]
  rw [Nat.add_assoc, h5, Nat.add_mul, hn, Nat.pow_add]
  congr 1
  simp only [Nat.mul_assoc, Nat.mul_left_comm, Nat.mul_comm]
 have hbig : ∀ j, j < k → 18446744073709551616 ^ j * 18446744073709551616 ≤ 18446744073709551616 ^ k := fun j hj => by rw [← Nat.pow_succ]; exact Nat.pow_le_pow_right (by decide) hj
 have hb1 := hbig (i + q) (by omega)
 rw [← Nat.pow_succ] at hb1
 refine ⟨by rw [h4]; exact h1, h2, ?_, ?_, ?_, ?_⟩
 ·exact lX (by decide) (by omega) (by omega) (by rw [h4, h2]; omega)
 ·rw [Nat.div_eq_of_lt hlt1]
 ·have h6 : (D * 2 ^ n + 18446744073709551616 ^ (i + q) * (d * 2 ^ s % 18446744073709551616)) / 18446744073709551616 ^ (i + q + 1) % 18446744073709551616 = 0 := by rw [Nat.div_eq_of_lt hlt1]
  have h7 : d / 2 ^ (64 - s) < 18446744073709551616 := Nat.lt_of_le_of_lt (Nat.div_le_self _ _) hd
  have h8 := lX (B := 18446744073709551616) (k := k) (n := D * 2 ^ n + 18446744073709551616 ^ (i + q) * (d * 2 ^ s % 18446744073709551616)) (j := i + q + 1) (v := d / 2 ^ (64 - s)) (by decide) hk ?_ (by rw [h6]; omega)
  ·rw [h6, Nat.zero_add, hfin] at h8
   exact h8
  ·have h9 : 18446744073709551616 ^ (i + q + 1) * (d / 2 ^ (64 - s) + 1) ≤ 18446744073709551616 ^ (i + q + 1) * 18446744073709551616 := Nat.mul_le_mul_left _ h7
   have h10 := hbig (i + q + 1) hk
   rw [Nat.mul_succ] at h9
   omega
 ·intro h0
  subst h0
  rw [← hfin]
  have : d / 2 ^ (64 - 0) = 0 := Nat.div_eq_of_lt (by rw [← hW]; exact hd)
  rw [this]
  simp
theorem wO (A : Option Addr) (n c m : Nat) (xs : List Nat) (w : World) (hx : Sl w A n 1 (cL xs)) (hd : Dg 18446744073709551616 xs) (hn : n ≤ 1000000000) (hm : m ≤ 10000000000) :
  Calls Tryz.prog 273 #[.slice A n c, .int .i64 (m : Int)] w fun e w' => ∃ A c, e = .returned (.slice A (aX 18446744073709551616 (bz 18446744073709551616 xs * 2 ^ m)).length c) ∧ w'.ownsRow w.heap.size 221 1 (.slice A (aX 18446744073709551616 (bz 18446744073709551616 xs * 2 ^ m)).length c) (aX 18446744073709551616 (bz 18446744073709551616 xs * 2 ^ m)).length (cL (aX 18446744073709551616 (bz 18446744073709551616 xs * 2 ^ m))) ∧ Below w.heap.size w w' := by
 have hl := hx.1
 rw [aY] at hl
 have hh := Hp.start w
 have hs1 : ((m : Int) % 64).toNat = m % 64 := by omega
 refine aj (N := 55) (l := [.slice A n c, .int .i64 (m : Int)]) Tryz.func273 rfl rfl (by simp) ?_
 refine sr (aL (ae (sr (mL (a0 (mI ?_))))))
 refine iZ rfl rfl (by omega) (by omega) (by omega) (by decide) ?_
 refine bL ?_
 refine bL ?_
 refine gI (n := n + m / 64 + 1) hh rfl rfl (by omega) (by omega) aF.out aA.out rfl (by omega) (by omega) (by decide) ?_
 intro b15 w15 hh
 refine aL (ae (ah (sr (mL (a0 (mI (ae (ao ?_))))))))
 rw [k9] at hh
 refine bs [6, 7, 8, 18, 19, 20, 21, 22, 23, 24, 25, 26, 27, 28, 29, 30, 31, 32, 33, 34, 35, 36, 37, 38, 39, 40, 41, 42, 43, 44, 45, 46, 47, 48, 49, 50, 51, 52] 18
  (fun v w' => ∃ i : Nat, i ≤ n ∧ v = .int .i64 i ∧ Hp w [.row (some ⟨b15, 0, none⟩) (n + m / 64 + 1) (n + m / 64 + 1) 221 1 (cL (bM 18446744073709551616 (n + m / 64 + 1) (bz 18446744073709551616 (xs.take i) * 2 ^ m)))] w')
  (fun v _ => n - (intOf v).toNat) ?_ ?_
 ·exact ⟨0, Nat.zero_le _, rfl, by rw [List.take_zero, bz, Nat.zero_mul, mG]; exact hh⟩
 ·clear hh
  rintro ρ' v w' ⟨i, hi, rfl, hh⟩
  by_cases hlt : i < n
  ·obtain ⟨d, hdi⟩ := aE (l := xs) (k := i) (by omega)
   obtain ⟨ad, rfl, hr⟩ := hx.at_ (by omega)
   have hd2 := dX hdi
   have hdw := hd.at_ hdi
   have hD := fY (hd.take i)
   rw [List.length_take, Nat.min_eq_left (by omega)] at hD
   obtain ⟨s1, s2, s3, s4, s5, s6⟩ := Ae (k := n + m / 64 + 1) (n := m) (bz 18446744073709551616 (xs.take i)) hD hdw (by omega)
   have hg := dX (fZ (B := 18446744073709551616) (n + m / 64 + 1) (bz 18446744073709551616 (xs.take i) * 2 ^ m) (i + m / 64) (by omega))
   refine sr ?_
   refine aW (ae (ah (cT (ak (ai (ah (ao (sr (mI ?_)))))))))
   refine aQ aF.out aA.size rfl rfl rfl (by omega) (by decide) ?_
   refine bj aA.out rfl ((hr.ext hh.below).nu (by assumption)) (by decide) ?_
   refine aI (aI (ae (sr (mI (mI ?_)))))
   refine iZ rfl rfl (by omega) (by omega) (by omega) (by decide) ?_
   refine bL (aI (ae (ah ?_)))
   refine aU 8 [[(5, none)], [(8, none)], [(27, some 0), (28, some 1)], [(29, some 2)], [(7, none)], [(1, none)], [(32, some 5)], [(31, some 4), (33, some 6)]] [(7, 34), (6, 33), (5, 32), (4, 31), (3, 30), (2, 29), (1, 28), (0, 27)] hh mixed (by kernel_rfl) ?_
   refine fX ?_
   refine ej ?_
   refine AB (i + m / 64) ?_
   refine bm (i := 3) (fun ρ1 w1 hj hR => g8 aA.out (show ρ1 29 = Value.pointer _ from hR.1) (hj.hp.cC (i := 0) rfl (by rw [Nat.mul_one]; exact hg))) ?_
   refine ej ?_
   refine ej ?_
   refine bm (i := 6) (fun ρ1 w1 hj hR => mF (show ρ1 32 = Value.int _ _ from hR.1) rfl (by omega) (by omega)) ?_
   refine bm (i := 7) (fun ρ1 w1 hj hR => rg (show ρ1 31 = Value.int _ _ from hR.1) (show ρ1 33 = Value.int _ _ from hR.2.1) (by omega)) ?_
   refine a6 ?_
   intro f W hJ hV
   have hb_6 := hJ.bl
   obtain ⟨v34, v33, v32, v31, v30, v29, v28, v27, _⟩ := hV
   replace hh := hJ.hp
   refine aK (a4 (aa v34 (aa v33 (aa v32 (aa v31 (aa v30 (aa v29 (aa v28 (aa v27 aM))))))))) ?_
   dsimp only [bX]
   clear hJ
   refine u9 rfl rfl (by first | assumption | omega) (by first | assumption | omega) (by decide) ?_
   refine bg (k := i + m / 64) aF.out aA.size rfl rfl (by omega) (by omega) (by decide) ?_
   refine bJ hh (i := 0) (vs := [_]) rfl rfl (bT rfl) rfl aA.out rfl (by rw [aY, aV]; omega) rfl ?_
   intro ws hh
   simp only [List.set_cons_zero] at hh
   rw [hs1, s2, uz s1, ← s2, Nat.mul_one, cm (by rw [aY, aV]; omega), eY, s3] at hh
   by_cases h0 : m % 64 = 0
   ·refine ae (sr (mI ?_))
    refine j4 rfl rfl (by omega) (by omega) (by decide) ?_
    refine ck (ae (cF (ak (aT (ai (aq ?_))))))
    refine bL (mI (aC (ai ?_)))
    rw [s6 h0, ← ek hdi] at hh
    refine ⟨⟨i + 1, by omega, rfl, hh⟩, by show n - (i + 1) < n - i; omega, ?_⟩
    (repeat (first | exact aw _ _ _ | refine ax rfl ?_ | refine au rfl ?_))
   ·have hg2 := dX (fZ (B := 18446744073709551616) (n + m / 64 + 1) (bz 18446744073709551616 (xs.take i) * 2 ^ m + 18446744073709551616 ^ (i + m / 64) * (d * 2 ^ (m % 64) % 18446744073709551616)) (i + m / 64 + 1) (by omega))
    rw [s4] at hg2
    have hs2 : (64 - (m : Int) % 64).toNat = 64 - m % 64 := by omega
    have hd64 : d / 2 ^ (64 - (m : Int) % 64).toNat < 18446744073709551616 := Nat.lt_of_le_of_lt (Nat.div_le_self _ _) hdw
    have h0w : (0 : Nat) < 18446744073709551616 := by omega
    refine ae (sr (mI ?_))
    refine j4 rfl rfl (by omega) (by omega) (by decide) ?_
    refine ck (ae (cT ?_))
    refine aU 10 [[(5, none)], [(8, none)], [(41, some 1)], [(40, some 0), (42, some 2)], [(43, some 3)], [(7, none)], [(1, none)], [(46, some 6)], [(47, some 7)], [(45, some 5), (48, some 8)]] [(9, 49), (8, 48), (7, 47), (6, 46), (5, 45), (4, 44), (3, 43), (2, 42), (1, 41), (0, 40)] hh mixed (by kernel_rfl) ?_
    refine fX ?_
    refine ej ?_
    refine uX ?_
    refine AB (i + m / 64 + 1) ?_
    refine bm (i := 4) (fun ρ1 w1 hj hR => g8 aA.out (show ρ1 43 = Value.pointer _ from hR.1) (hj.hp.cC (i := 0) rfl (by rw [Nat.mul_one]; exact hg2))) ?_
    refine ej ?_
    refine ej ?_
    refine bm (i := 7) (fun ρ1 w1 hj hR => mF (show ρ1 46 = Value.int _ _ from hR.1) rfl (by omega) (by omega)) ?_
    refine jS ?_
    refine bm (i := 9) (fun ρ1 w1 hj hR => tI (show ρ1 45 = Value.int _ _ from hR.1) (show ρ1 48 = Value.int _ _ from hR.2.1) (by omega)) ?_
    refine a6 ?_
    intro f W hJ hV
    have hb_8 := hJ.bl
    obtain ⟨v49, v48, v47, v46, v45, v44, v43, v42, v41, v40, _⟩ := hV
    replace hh := hJ.hp
    refine aK (a4 (aa v49 (aa v48 (aa v47 (aa v46 (aa v45 (aa v44 (aa v43 (aa v42 (aa v41 (aa v40 aM))))))))))) ?_
    dsimp only [bX]
    clear hJ
    refine u9 rfl rfl (by first | assumption | omega) (by first | assumption | omega) (by decide) ?_
    refine bg (k := i + m / 64 + 1) aF.out aA.size rfl rfl (by omega) (by omega) (by decide) ?_
    refine bJ hh (i := 0) (vs := [_]) rfl rfl (bT rfl) rfl aA.out rfl (by rw [aY, aV]; omega) rfl ?_
    intro ws hh
    simp only [List.set_cons_zero] at hh
    rw [hs2, Nat.zero_or, Nat.mul_one, cm (by rw [aY, aV]; omega), eY, s5, ← ek hdi] at hh
    refine aC (aT (ai (aq ?_)))
    refine bL (mI (aC (ai ?_)))
    refine ⟨⟨i + 1, by omega, rfl, hh⟩, by show n - (i + 1) < n - i; omega, ?_⟩
    (repeat (first | exact aw _ _ _ | refine ax rfl ?_ | refine au rfl ?_))
  ·refine sr ?_
   refine aW (ae (ah (cF ?_)))
   refine aO ?_
   refine ay (ay (a8 (ai (sr (mL ?_)))))
   rw [List.take_of_length_le (by omega)] at hh
   refine bA hh (fR _ _ _ (bM 18446744073709551616 (n + m / 64 + 1) (bz 18446744073709551616 xs * 2 ^ m)) _ (hh.aJ (i := 0) rfl) (Nat.le_refl _) (by omega)) rfl ?_
   intro w54 hh
   refine aL (ae (al ?_))
   refine cn ?_
   have hbd : bz 18446744073709551616 xs * 2 ^ m < 18446744073709551616 ^ (n + m / 64 + 1) := by
    have h1 := fY hd
    rw [show xs.length = n by omega] at h1
    have h2 : 2 ^ m ≤ 18446744073709551616 ^ (m / 64 + 1) := by
     rw [show (18446744073709551616 : Nat) = 2 ^ 64 from rfl, ← Nat.pow_mul]
     exact Nat.pow_le_pow_right (by omega) (by omega)
    rw [show n + m / 64 + 1 = n + (m / 64 + 1) by omega, Nat.pow_add]
    exact Nat.lt_of_lt_of_le (Nat.mul_lt_mul_of_pos_right h1 (Nat.pow_pos (by omega))) (Nat.mul_le_mul_left _ h2)
   have hd : dD (bM 18446744073709551616 (n + m / 64 + 1) (bz 18446744073709551616 xs * 2 ^ m)) = aX 18446744073709551616 (bz 18446744073709551616 xs * 2 ^ m) := by
    rw [eR (by omega) (dV (by omega) _ _), cf hbd]
   have h1 := (Hp.u3 (xs := bM 18446744073709551616 (n + m / 64 + 1) (bz 18446744073709551616 xs * 2 ^ m)) hh (aV _ _)).at_ (i := 0) rfl
   rw [hd] at h1
   rw [hd]
   exact ⟨_, _, rfl, h1, hh.below⟩
end Go.Proofs.YtaapkaefelhfcaaGreatDoor
namespace Go.Proofs.YtaapkaefelhfcaaGreatDoor
open Go.RowKit
theorem Sl.AZ {w : World} {ad : Addr} {n : Nat} {xs : List Nat} (h : Sl w (some ad) n 1 (cL xs)) {k : Nat} (hk : k < n) : Sl w (some (ad.add (k * 1))) (n - k) 1 (cL (xs.drop k)) := by
 have hl := h.1
 rw [aY] at hl
 refine ⟨by rw [aY, List.length_drop]; omega, fun h0 => ⟨_, rfl, ?_⟩⟩
 obtain ⟨ad', he, hr⟩ := h.2 (by omega)
 injection he with he
 subst he
 rw [Nat.mul_one, pJ]
 exact hr.drop k
theorem wy {N j s : Nat} (hs : s < 64) (h0 : 0 < s) :
  (N / 18446744073709551616 ^ (j + 1) % 18446744073709551616) * 2 ^ (64 - s) % 18446744073709551616 = N / 18446744073709551616 ^ (j + 1) % 2 ^ s * 2 ^ (64 - s) ∧
  (N / 18446744073709551616 ^ j % 18446744073709551616 / 2 ^ s ||| (N / 18446744073709551616 ^ (j + 1) % 18446744073709551616) * 2 ^ (64 - s) % 18446744073709551616) = N / 2 ^ (64 * j + s) % 18446744073709551616 := by
 have hW : (18446744073709551616 : Nat) = 2 ^ 64 := by decide
 have e : (18446744073709551616 : Nat) = 2 ^ s * 2 ^ (64 - s) := by rw [← Nat.pow_add, hW]; congr 1; omega
 have h1 : (N / 18446744073709551616 ^ (j + 1) % 18446744073709551616) * 2 ^ (64 - s) % 18446744073709551616 = N / 18446744073709551616 ^ (j + 1) % 2 ^ s * 2 ^ (64 - s) := by
  generalize N / 18446744073709551616 ^ (j + 1) = m
  rw [e, Nat.mul_mod_mul_right, Nat.mod_mul_right_mod]
 obtain ⟨h2, h3⟩ := pY N j s hs h0
 exact ⟨h1, by rw [h1, uz h2, h3]⟩
theorem tA (A : Option Addr) (n c m : Nat) (xs : List Nat) (w : World) (hx : Sl w A n 1 (cL xs)) (hd : Dg 18446744073709551616 xs) (hc : n ≤ c) (hn : n ≤ 1000000000) (hm : m ≤ 1000000000000) :
  Calls Tryz.prog 274 #[.slice A n c, .int .i64 (m : Int)] w fun e w' => ∃ A c, e = .returned (.slice A (aX 18446744073709551616 (bz 18446744073709551616 xs / 2 ^ m)).length c) ∧ w'.ownsRow w.heap.size 221 1 (.slice A (aX 18446744073709551616 (bz 18446744073709551616 xs / 2 ^ m)).length c) (aX 18446744073709551616 (bz 18446744073709551616 xs / 2 ^ m)).length (cL (aX 18446744073709551616 (bz 18446744073709551616 xs / 2 ^ m))) ∧ Below w.heap.size w w' := by
 have hl := hx.1
 rw [aY] at hl
 have hh := Hp.start w
 have hs1 : ((m : Int) % 64).toNat = m % 64 := by omega
 have hW : (18446744073709551616 : Nat) = 2 ^ 64 := by decide
 have hmm : 2 ^ m = 18446744073709551616 ^ (m / 64) * 2 ^ (m % 64) := by
  rw [hW, ← Nat.pow_mul, ← Nat.pow_add]; congr 1; omega
 have hlt := fY hd
 rw [show xs.length = n by omega] at hlt
 by_cases hbig : n ≤ m / 64
 ·have h0 : bz 18446744073709551616 xs / 2 ^ m = 0 := by
   apply Nat.div_eq_of_lt
   refine Nat.lt_of_lt_of_le hlt (Nat.le_trans (Nat.pow_le_pow_right (by decide) hbig) ?_)
   rw [hmm]
   exact Nat.le_mul_of_pos_right _ (Nat.pow_pos (by omega))
  refine aj (N := 61) (l := [.slice A n c, .int .i64 (m : Int)]) Tryz.func274 rfl rfl (by simp) ?_
  refine sr (aL (ae (ah (sr (mI ?_)))))
  refine iZ rfl rfl (by omega) (by omega) (by omega) (by decide) ?_
  refine mL (a0 ?_)
  refine dg (ae (cT (sr (aL (ae (al (aD ?_)))))))
  refine cn ?_
  rw [h0, fg (by omega)]
  exact ⟨none, 0, rfl, World.ownsRow_nil _ _ _ _, hh.below⟩
 ·obtain ⟨ad, rfl, hr⟩ := hx.at_ (by omega)
  have hsd := hx.AZ (k := m / 64) (by omega)
  have hget : ∀ j, j < n → xs[j]? = some (bz 18446744073709551616 xs / 18446744073709551616 ^ j % 18446744073709551616) := fun j hj => by
   obtain ⟨d, hdj⟩ := aE (l := xs) (k := j) (by omega)
   rw [hdj, nq hd hdj]
  refine aj (N := 61) (l := [.slice (some ad) n c, .int .i64 (m : Int)]) Tryz.func274 rfl rfl (by simp) ?_
  refine sr (aL (ae (ah (sr (mI ?_)))))
  refine iZ rfl rfl (by omega) (by omega) (by omega) (by decide) ?_
  refine mL (a0 ?_)
  refine dg (ae (cF (ak (ai (sr (mL (mI ?_)))))))
  refine iZ rfl rfl (by omega) (by omega) (by omega) (by decide) ?_
  first | refine ou (l := m / 64) aF.out aA.size rfl rfl (by omega) (by omega) (by omega) (by omega) (by decide) ?_ | refine mW (l := m / 64) aF.out aA.size rfl rfl (by omega) (by omega) (by omega) (by omega) (by decide) ?_
  refine aR (kJ _ _ _ 0 _ _ hsd (by omega) (by omega)) ar.out rfl (by decide) ?_
  rintro e_ w_ ⟨b16, rfl, hown_, hb_⟩
  refine ⟨_, rfl, ?_⟩
  replace hh := hh.bh (x := .row _ _ _ _ _ _) hb_ hown_
  rw [Nat.zero_max, Nat.sub_self, List.replicate_zero, List.append_nil] at hh
  rw [Nat.zero_max]
  refine aL (ae (ah (sr (mL (a0 (mI (ae (ao ?_))))))))
  refine bs [6, 19, 20, 21, 22, 23, 24, 25, 26, 27, 28, 29, 30, 31, 32, 33, 34, 35, 36, 37, 38, 39, 40, 41, 42, 43, 44, 45, 46, 47, 48, 49, 50, 51, 52, 53, 54, 55, 56, 57, 58] 19
   (fun v w' => ∃ i : Nat, i ≤ n - m / 64 ∧ v = .int .i64 i ∧ Hp w [.row (some ⟨b16, 0, none⟩) (n - m / 64) (n - m / 64) 221 1 (cL (bM 18446744073709551616 i (bz 18446744073709551616 xs / 2 ^ m) ++ xs.drop (m / 64 + i)))] w')
   (fun v _ => (n - m / 64) - (intOf v).toNat) ?_ ?_
  ·exact ⟨0, Nat.zero_le _, rfl, hh⟩
  ·clear hh
   rintro ρ' v w' ⟨i, hi, rfl, hh⟩
   by_cases hlt2 : i < n - m / 64
   ·have hgi := hget (m / 64 + i) (by omega)
    have hdr : xs.drop (m / 64 + i) = (bz 18446744073709551616 xs / 18446744073709551616 ^ (m / 64 + i) % 18446744073709551616) :: xs.drop (m / 64 + i + 1) := by
     rw [List.drop_eq_getElem_cons (by omega)]
     congr 1
     have := List.getElem?_eq_some_iff.1 hgi
     exact this.2
    have hcell : (bM 18446744073709551616 i (bz 18446744073709551616 xs / 2 ^ m) ++ xs.drop (m / 64 + i))[i]? = some (bz 18446744073709551616 xs / 18446744073709551616 ^ (m / 64 + i) % 18446744073709551616) := by
     rw [List.getElem?_append_right (by rw [aV]; omega), aV, hdr]; simp
    have hg := dX hcell
    have hset : ∀ y, (bM 18446744073709551616 i (bz 18446744073709551616 xs / 2 ^ m) ++ xs.drop (m / 64 + i)).set i y = bM 18446744073709551616 i (bz 18446744073709551616 xs / 2 ^ m) ++ y :: xs.drop (m / 64 + i + 1) := fun y => by
     rw [hdr, List.set_append_right _ _ (by rw [aV]; omega), aV, Nat.sub_self, List.set_cons_zero]
    have hll : (bM 18446744073709551616 i (bz 18446744073709551616 xs / 2 ^ m) ++ xs.drop (m / 64 + i)).length = n - m / 64 := by rw [List.length_append, aV, List.length_drop]; omega
    have hac : ∀ y, bM 18446744073709551616 i (bz 18446744073709551616 xs / 2 ^ m) ++ y :: xs.drop (m / 64 + i + 1) = (bM 18446744073709551616 i (bz 18446744073709551616 xs / 2 ^ m) ++ [y]) ++ xs.drop (m / 64 + (i + 1)) := fun y => List.append_cons _ _ _
    have hnew : bM 18446744073709551616 (i + 1) (bz 18446744073709551616 xs / 2 ^ m) = bM 18446744073709551616 i (bz 18446744073709551616 xs / 2 ^ m) ++ [bz 18446744073709551616 xs / 2 ^ (64 * (m / 64 + i) + m % 64) % 18446744073709551616] := by
     rw [je, Nat.div_div_eq_div_mul]
     congr 4
     rw [hW, ← Nat.pow_mul, ← Nat.pow_add]; congr 1; omega
    refine sr ?_
    refine aW (ae (ah (cT (ak (ai (ah (ao (sr (mI (aI (ae ?_)))))))))))
    refine sr (mL (mI ?_))
    refine bg (k := i) aF.out aA.size rfl rfl (by omega) (by omega) (by decide) ?_
    refine bj aA.out rfl (hh.cC (i := 0) rfl (by first | assumption | (simp only [Nat.mul_one]; assumption))) (by decide) ?_
    refine mI ?_
    refine j4 rfl rfl (by omega) (by omega) (by decide) ?_
    refine tK rfl rfl (by omega) (by decide) ?_
    refine bg (k := i) aF.out aA.size rfl rfl (by omega) (by omega) (by decide) ?_
    refine bJ hh (i := 0) (vs := [_]) rfl rfl (bT rfl) rfl aA.out rfl (by rw [aY, hll]; omega) rfl ?_
    intro ws hh
    simp only [List.set_cons_zero] at hh
    rw [hs1, Nat.mul_one, cm (by rw [aY, hll]; omega), eY, hset] at hh
    by_cases h0 : m % 64 = 0
    ·have e1 : bz 18446744073709551616 xs / 18446744073709551616 ^ (m / 64 + i) % 18446744073709551616 / 2 ^ (m % 64) = bz 18446744073709551616 xs / 2 ^ (64 * (m / 64 + i) + m % 64) % 18446744073709551616 := by
      rw [h0, Nat.pow_zero, Nat.div_one, Nat.add_zero, Nat.pow_mul, ← hW]
     by_cases hl : i + 1 < n - m / 64
     ·refine ae (sr (mI ?_))
      refine bL (mL (a0 ?_))
      refine aW (mB ?_)
      first | refine gS ?_ | (refine gT ?_; refine mI ?_) | refine gV ?_
      first | refine gS ?_ | (refine gT ?_; refine j4 rfl rfl (by omega) (by omega) (by decide) ?_) | refine gV ?_
      first | refine gS ?_ | (refine gT ?_; refine ck ?_) | refine gV ?_
      first | refine cS ?_ | refine cU ?_
      refine ae (cF (ak (aT (ai (aq ?_)))))
      refine bL (mI (aC (ai ?_)))
      rw [e1, hac, ← hnew] at hh
      refine ⟨⟨i + 1, by omega, rfl, hh⟩, by show (n - m / 64) - (i + 1) < (n - m / 64) - i; omega, ?_⟩
      (repeat (first | exact aw _ _ _ | refine ax rfl ?_ | refine au rfl ?_))
     ·refine ae (sr (mI ?_))
      refine bL (mL (a0 ?_))
      refine aW (mB ?_)
      first | refine gS ?_ | (refine gT ?_; refine mI ?_) | refine gV ?_
      first | refine gS ?_ | (refine gT ?_; refine j4 rfl rfl (by omega) (by omega) (by decide) ?_) | refine gV ?_
      first | refine gS ?_ | (refine gT ?_; refine ck ?_) | refine gV ?_
      first | refine cS ?_ | refine cU ?_
      refine ae (cF (ak (aT (ai (aq ?_)))))
      refine bL (mI (aC (ai ?_)))
      rw [e1, hac, ← hnew] at hh
      refine ⟨⟨i + 1, by omega, rfl, hh⟩, by show (n - m / 64) - (i + 1) < (n - m / 64) - i; omega, ?_⟩
      (repeat (first | exact aw _ _ _ | refine ax rfl ?_ | refine au rfl ?_))
    ·by_cases hl : i + 1 < n - m / 64
     ·have hgj := hget (m / 64 + i + 1) (by omega)
      have hgj2 := dX hgj
      obtain ⟨d1, d2⟩ := wy (N := bz 18446744073709551616 xs) (j := m / 64 + i) (s := m % 64) (Nat.mod_lt _ (by omega)) (by omega)
      have hcell2 : (bM 18446744073709551616 i (bz 18446744073709551616 xs / 2 ^ m) ++ (bz 18446744073709551616 xs / 18446744073709551616 ^ (m / 64 + i) % 18446744073709551616 / 2 ^ (m % 64)) :: xs.drop (m / 64 + i + 1))[i]? = some (bz 18446744073709551616 xs / 18446744073709551616 ^ (m / 64 + i) % 18446744073709551616 / 2 ^ (m % 64)) := by
       rw [List.getElem?_append_right (by rw [aV]; omega), aV]; simp
      have hg2 := dX hcell2
      have hset2 : ∀ y z, (bM 18446744073709551616 i (bz 18446744073709551616 xs / 2 ^ m) ++ y :: xs.drop (m / 64 + i + 1)).set i z = bM 18446744073709551616 i (bz 18446744073709551616 xs / 2 ^ m) ++ z :: xs.drop (m / 64 + i + 1) := fun y z => by
       rw [List.set_append_right _ _ (by rw [aV]; omega), aV, Nat.sub_self, List.set_cons_zero]
      have hll2 : ∀ y, (bM 18446744073709551616 i (bz 18446744073709551616 xs / 2 ^ m) ++ y :: xs.drop (m / 64 + i + 1)).length = n - m / 64 := fun y => by rw [List.length_append, aV, List.length_cons, List.length_drop]; omega
      have hs2 : (64 - (m : Int) % 64).toNat = 64 - m % 64 := by omega
      have b1 : bz 18446744073709551616 xs / 18446744073709551616 ^ (m / 64 + i) % 18446744073709551616 / 2 ^ (m % 64) < 18446744073709551616 := Nat.lt_of_le_of_lt (Nat.div_le_self _ _) (Nat.mod_lt _ (by omega))
      have b2 : bz 18446744073709551616 xs / 18446744073709551616 ^ (m / 64 + i + 1) % 18446744073709551616 * 2 ^ (64 - (m : Int) % 64).toNat % 18446744073709551616 < 18446744073709551616 := Nat.mod_lt _ (by omega)
      refine ae (sr (mI ?_))
      refine bL (mL (a0 ?_))
      refine aW (mB ?_)
      first | refine gS ?_ | (refine gT ?_; refine mI ?_) | refine gV ?_
      first | refine gS ?_ | (refine gT ?_; refine j4 rfl rfl (by omega) (by omega) (by decide) ?_) | refine gV ?_
      first | refine gS ?_ | (refine gT ?_; refine ck ?_) | refine gV ?_
      first | refine cS ?_ | refine cU ?_
      refine ae (cT ?_)
      refine aU 16 [[(5, none)], [(6, none)], [(40, some 0), (41, some 1)], [(42, some 2)], [(0, none)], [(1, none)], [(45, some 5)], [(6, none)], [(46, some 6), (47, some 7)], [(48, some 8)], [(44, some 4), (49, some 9)], [(50, some 10)], [(1, none)], [(52, some 12)], [(53, some 13)], [(51, some 11), (54, some 14)]] [(15, 55), (14, 54), (13, 53), (12, 52), (11, 51), (10, 50), (9, 49), (8, 48), (7, 47), (6, 46), (5, 45), (4, 44), (3, 43), (2, 42), (1, 41), (0, 40)] hh mixed (by kernel_rfl) ?_
      refine fX ?_
      refine ej ?_
      refine AB (i) ?_
      refine bm (i := 3) (fun ρ1 w1 hj hR => g8 aA.out (show ρ1 42 = Value.pointer _ from hR.1) (hj.hp.cC (i := 0) rfl (by rw [Nat.mul_one]; exact hg2))) ?_
      refine fX ?_
      refine ej ?_
      refine bm (i := 6) (fun ρ1 w1 hj hR => q7 (show ρ1 45 = Value.int _ _ from hR.1) rfl (by omega) (by omega) (by omega)) ?_
      refine ej ?_
      refine uX ?_
      refine uX ?_
      refine jN (m / 64 + i + 1) ?_
      refine jq (fun _ hj => (hr.ext hj.hp.below).nu hgj2) ?_
      refine ej ?_
      refine bm (i := 13) (fun ρ1 w1 hj hR => mF (show ρ1 52 = Value.int _ _ from hR.1) rfl (by omega) (by omega)) ?_
      refine jS ?_
      refine bm (i := 15) (fun ρ1 w1 hj hR => rg (show ρ1 51 = Value.int _ _ from hR.1) (show ρ1 54 = Value.int _ _ from hR.2.1) (by omega)) ?_
      refine a6 ?_
      intro f W hJ hV
      have hb_9 := hJ.bl
      obtain ⟨v55, v54, v53, v52, v51, v50, v49, v48, v47, v46, v45, v44, v43, v42, v41, v40, _⟩ := hV
      replace hh := hJ.hp
      refine aK (a4 (aa v55 (aa v54 (aa v53 (aa v52 (aa v51 (aa v50 (aa v49 (aa v48 (aa v47 (aa v46 (aa v45 (aa v44 (aa v43 (aa v42 (aa v41 (aa v40 aM))))))))))))))))) ?_
      dsimp only [bX]
      clear hJ
      refine u9 rfl rfl (by first | assumption | omega) (by first | assumption | omega) (by decide) ?_
      refine bg (k := i) aF.out aA.size rfl rfl (by omega) (by omega) (by decide) ?_
      refine bJ hh (i := 0) (vs := [_]) rfl rfl (bT rfl) rfl aA.out rfl (by rw [aY, hll2]; omega) rfl ?_
      intro ws hh
      simp only [List.set_cons_zero] at hh
      rw [hs2, d2, Nat.mul_one, cm (by rw [aY, hll2]; omega), eY, hset2, hac, ← hnew] at hh
      refine aC (aT (ai (aq ?_)))
      refine bL (mI (aC (ai ?_)))
      refine ⟨⟨i + 1, by omega, rfl, hh⟩, by show (n - m / 64) - (i + 1) < (n - m / 64) - i; omega, ?_⟩
      (repeat (first | exact aw _ _ _ | refine ax rfl ?_ | refine au rfl ?_))
     ·have e1 : bz 18446744073709551616 xs / 18446744073709551616 ^ (m / 64 + i) % 18446744073709551616 / 2 ^ (m % 64) = bz 18446744073709551616 xs / 2 ^ (64 * (m / 64 + i) + m % 64) % 18446744073709551616 := by
       obtain ⟨h2, h3⟩ := pY (bz 18446744073709551616 xs) (m / 64 + i) (m % 64) (Nat.mod_lt _ (by omega)) (by omega)
       have h4 : bz 18446744073709551616 xs / 18446744073709551616 ^ (m / 64 + i + 1) = 0 := Nat.div_eq_of_lt (Nat.lt_of_lt_of_le hlt (Nat.pow_le_pow_right (by decide) (by omega)))
       rw [h4] at h3
       simpa using h3
      refine ae (sr (mI ?_))
      refine bL (mL (a0 ?_))
      refine aW (mB ?_)
      first | refine gS ?_ | (refine gT ?_; refine mI ?_) | refine gV ?_
      first | refine gS ?_ | (refine gT ?_; refine j4 rfl rfl (by omega) (by omega) (by decide) ?_) | refine gV ?_
      first | refine gS ?_ | (refine gT ?_; refine ck ?_) | refine gV ?_
      first | refine cS ?_ | refine cU ?_
      refine ae (cF (ak (aT (ai (aq ?_)))))
      refine bL (mI (aC (ai ?_)))
      rw [e1, hac, ← hnew] at hh
      refine ⟨⟨i + 1, by omega, rfl, hh⟩, by show (n - m / 64) - (i + 1) < (n - m / 64) - i; omega, ?_⟩
      (repeat (first | exact aw _ _ _ | refine ax rfl ?_ | refine au rfl ?_))
   ·obtain rfl : i = n - m / 64 := by omega
    rw [List.drop_eq_nil_of_le (by omega), List.append_nil] at hh
    refine sr ?_
    refine aW (ae (ah (cF ?_)))
    refine aO ?_
    refine ay (ay (a8 (ai (sr (mL ?_)))))
    refine bA hh (fR _ _ _ (bM 18446744073709551616 (n - m / 64) (bz 18446744073709551616 xs / 2 ^ m)) _ (hh.aJ (i := 0) rfl) (Nat.le_refl _) (by omega)) rfl ?_
    intro w60 hh
    refine aL (ae (al ?_))
    refine cn ?_
    have hbd : bz 18446744073709551616 xs / 2 ^ m < 18446744073709551616 ^ (n - m / 64) := by
     rw [Nat.div_lt_iff_lt_mul (Nat.pow_pos (by omega)), hmm, ← Nat.mul_assoc, ← Nat.pow_add, show n - m / 64 + m / 64 = n by omega]
     exact Nat.lt_of_lt_of_le hlt (Nat.le_mul_of_pos_right _ (Nat.pow_pos (by omega)))
    have hd : dD (bM 18446744073709551616 (n - m / 64) (bz 18446744073709551616 xs / 2 ^ m)) = aX 18446744073709551616 (bz 18446744073709551616 xs / 2 ^ m) := by
     rw [eR (by omega) (dV (by omega) _ _), cf hbd]
    have h1 := (Hp.u3 (xs := bM 18446744073709551616 (n - m / 64) (bz 18446744073709551616 xs / 2 ^ m)) hh (aV _ _)).at_ (i := 0) rfl
    rw [hd] at h1
    rw [hd]
    exact ⟨_, _, rfl, h1, hh.below⟩
end Go.Proofs.YtaapkaefelhfcaaGreatDoor
namespace Go.Proofs.YtaapkaefelhfcaaGreatDoor
open Go.RowKit
def bN (a : ByteArray) : Nat := bn a.data.toList
def sN (n : Nat) : ByteArray := str (sb n)
theorem eC (n : Nat) : bN (sN n) = n := by rw [bN, sN, db, B6]
theorem gH (n : Nat) : (sN n).size = (bH n + 7) / 8 := by rw [sN, dT, wI, ur]
theorem uq {a b : Nat} (h : sN a = sN b) : a = b := by rw [← eC a, h, eC]
theorem g7 : sN 0 = ByteArray.mk #[] := by rw [sN, zi]; rfl
theorem qa (a : ByteArray) : bN a < 256 ^ a.size := by rw [bZ]; exact Av _
theorem eI (a : ByteArray) : bH (bN a) ≤ 8 * a.size := by
 apply dn
 have := qa a
 rwa [show (256 : Nat) = 2 ^ 8 from rfl, ← Nat.pow_mul] at this
theorem wN {n k : Nat} (h : n < 256 ^ k) : (aX 18446744073709551616 n).length ≤ (k + 7) / 8 := by
 apply fK (by omega)
 refine Nat.lt_of_lt_of_le h ?_
 rw [show (256 : Nat) = 2 ^ 8 from rfl, show (18446744073709551616 : Nat) = 2 ^ 64 from rfl, ← Nat.pow_mul, ← Nat.pow_mul]
 exact Nat.pow_le_pow_right (by omega) (by omega)
theorem eW (a : ByteArray) : (aX 18446744073709551616 (bN a)).length ≤ (a.size + 7) / 8 := wN (qa a)
theorem fv (n : Nat) : Dg 18446744073709551616 (aX 18446744073709551616 n) := (dr (by omega) n).1
theorem fj (n : Nat) : bz 18446744073709551616 (aX 18446744073709551616 n) = n := dH (by omega) n
theorem dm (a : ByteArray) (w : World) (ha : a.size ≤ 1000000000) :
  Calls Tryz.prog 250 #[.string a] w fun e w' => ∃ b c, e = .returned (.slice (some ⟨b, 0, none⟩) (aX 18446744073709551616 (bN a)).length c) ∧ w'.ownsRow w.heap.size 221 1 (.slice (some ⟨b, 0, none⟩) (aX 18446744073709551616 (bN a)).length c) (aX 18446744073709551616 (bN a)).length (cL (aX 18446744073709551616 (bN a))) ∧ Below w.heap.size w w' := wJ a w (by omega)
theorem mX (n : Nat) (w : World) (hn : n < 18446744073709551616) :
  Calls Tryz.prog 229 #[.int .u64 (n : Int)] w fun e w' => e = .returned (.string (sN n)) ∧ Below w.heap.size w w' := by
 have hh := Hp.start w
 refine aj (N := 6) (l := [.int .u64 (n : Int)]) Tryz.func229 rfl rfl (by simp) ?_
 refine sr (aS (ae (sr (mI ?_))))
 refine bO hh (cs := [_]) aF.out aA.out (br (bT rfl) ct) rfl rfl (by decide) (by decide) (by decide) rfl (by decide) ?_
 intro b4 w4 hh
 refine bA hh (fL _ _ _ [n] _ (hh.aJ (i := 0) rfl) (Dg.cons hn Dg.nil) (Nat.le_refl _) (by omega)) rfl ?_
 intro w5 hh
 refine aS (ae (al ?_))
 refine cn ?_
 refine ⟨?_, hh.below⟩
 rw [sN]
 simp [bz]
theorem qL (a b : ByteArray) (w : World) (ha : a.size ≤ 1000000000) (hb : b.size ≤ 1000000000) :
  Calls Tryz.prog 278 #[.string a, .string b] w fun e w' => e = .returned (.int .i64 (jh (bN a) (bN b))) ∧ Below w.heap.size w w' := by
 have hh := Hp.start w
 have h1 := eW a
 have h2 := eW b
 refine aj (N := 10) (l := [.string a, .string b]) Tryz.func278 rfl rfl (by simp) ?_
 refine sr (aI (ae (sr (mS ?_))))
 refine aR (dm a _ ha) ar.out rfl (by decide) ?_
 rintro e_ w6 ⟨A6, c6, rfl, hown_, hb_⟩
 refine ⟨_, rfl, ?_⟩
 replace hh := hh.bh (x := .row _ _ _ _ _ _) hb_ hown_
 refine mS ?_
 refine aR (dm b _ hb) ar.out rfl (by decide) ?_
 rintro e_ w8 ⟨A8, c8, rfl, hown_, hb_⟩
 refine ⟨_, rfl, ?_⟩
 replace hh := hh.bh (x := .row _ _ _ _ _ _) hb_ hown_
 refine bA hh (k8 _ _ _ _ _ _ (aX 18446744073709551616 (bN a)) (aX 18446744073709551616 (bN b)) _ (hh.aJ (i := 1) rfl) (hh.aJ (i := 0) rfl) (fv _) (fv _) (hh.dp (i := 1) rfl) (hh.dp (i := 0) rfl) (by omega) (by omega)) rfl ?_
 intro w9 hh
 rw [fj, fj]
 refine aI (ae (al ?_))
 refine cn ?_
 exact ⟨rfl, hh.below⟩
theorem jt (a : ByteArray) (w : World) (ha : a.size ≤ 1000000000) :
  Calls Tryz.prog 254 #[.string a] w fun e w' => e = .returned (.int .i64 (bH (bN a))) ∧ Below w.heap.size w w' := by
 have hh := Hp.start w
 have h1 := eW a
 refine aj (N := 6) (l := [.string a]) Tryz.func254 rfl rfl (by simp) ?_
 refine sr (aI (ae (sr (mS ?_))))
 refine aR (dm a _ ha) ar.out rfl (by decide) ?_
 rintro e_ w4 ⟨A4, c4, rfl, hown_, hb_⟩
 refine ⟨_, rfl, ?_⟩
 replace hh := hh.bh (x := .row _ _ _ _ _ _) hb_ hown_
 refine bA hh (oF _ _ _ (aX 18446744073709551616 (bN a)) _ (hh.aJ (i := 0) rfl) (fv _) (hh.dp (i := 0) rfl) (by omega)) rfl ?_
 intro w5 hh
 rw [fj]
 refine aI (ae (al ?_))
 refine cn ?_
 exact ⟨rfl, hh.below⟩
theorem fW (n m : Nat) : bH (n * 2 ^ m) ≤ bH n + m := by
 apply dn
 rw [Nat.pow_add]
 exact Nat.mul_lt_mul_of_pos_right (cX n) (Nat.pow_pos (by omega))
theorem oq (n : Nat) : (aX 18446744073709551616 n).length ≤ (bH n + 63) / 64 := by
 apply fK (by omega)
 refine Nat.lt_of_lt_of_le (cX n) ?_
 rw [show (18446744073709551616 : Nat) = 2 ^ 64 from rfl, ← Nat.pow_mul]
 exact Nat.pow_le_pow_right (by omega) (by omega)
theorem qD (a : ByteArray) (m : Nat) (w : World) (ha : a.size ≤ 1000000000) (hm : m ≤ 10000000000) :
  Calls Tryz.prog 252 #[.string a, .int .i64 (m : Int)] w fun e w' => e = .returned (.string (sN (bN a * 2 ^ m))) ∧ Below w.heap.size w w' := by
 have hh := Hp.start w
 have h1 := eW a
 have h2 := oq (bN a * 2 ^ m)
 have h3 := fW (bN a) m
 have h4 := eI a
 have e1 : (if (0 : Int) > (m : Int) then 0 else (m : Int)) = m := if_neg (by omega)
 refine aj (N := 11) (l := [.string a, .int .i64 (m : Int)]) Tryz.func252 rfl rfl (by simp) ?_
 refine sr (aS (ae (sr (mS ?_))))
 refine aR (dm a _ ha) ar.out rfl (by decide) ?_
 rintro e_ w6 ⟨A6, c6, rfl, hown_, hb_⟩
 refine ⟨_, rfl, ?_⟩
 replace hh := hh.bh (x := .row _ _ _ _ _ _) hb_ hown_
 refine mI ?_
 refine jV rfl rfl (by decide) ?_
 rw [e1]
 refine aR (wO _ _ _ m (aX 18446744073709551616 (bN a)) _ (hh.aJ (i := 0) rfl) (fv _) (by omega) hm) ar.out rfl (by decide) ?_
 rintro e_ w9 ⟨A9, c9, rfl, hown_, hb_⟩
 refine ⟨_, rfl, ?_⟩
 replace hh := hh.bh (x := .row _ _ _ _ _ _) hb_ hown_
 rw [fj] at *
 refine bA hh (fL _ _ _ (aX 18446744073709551616 (bN a * 2 ^ m)) _ (hh.aJ (i := 0) rfl) (fv _) (hh.dp (i := 0) rfl) (by omega)) rfl ?_
 intro w10 hh
 rw [fj]
 refine aS (ae (al ?_))
 refine cn ?_
 exact ⟨rfl, hh.below⟩
theorem lW (n m : Nat) : bH (n / 2 ^ m) ≤ bH n := by
 apply dn
 exact Nat.lt_of_le_of_lt (Nat.div_le_self _ _) (cX n)
theorem re (a : ByteArray) (m : Nat) (w : World) (ha : a.size ≤ 1000000000) (hm : m ≤ 1000000000000) :
  Calls Tryz.prog 253 #[.string a, .int .i64 (m : Int)] w fun e w' => e = .returned (.string (sN (bN a / 2 ^ m))) ∧ Below w.heap.size w w' := by
 have hh := Hp.start w
 have h1 := eW a
 have h2 := oq (bN a / 2 ^ m)
 have h3 := lW (bN a) m
 have h4 := eI a
 have e1 : (if (0 : Int) > (m : Int) then 0 else (m : Int)) = m := if_neg (by omega)
 refine aj (N := 11) (l := [.string a, .int .i64 (m : Int)]) Tryz.func253 rfl rfl (by simp) ?_
 refine sr (aS (ae (sr (mS ?_))))
 refine aR (dm a _ ha) ar.out rfl (by decide) ?_
 rintro e_ w6 ⟨A6, c6, rfl, hown_, hb_⟩
 refine ⟨_, rfl, ?_⟩
 replace hh := hh.bh (x := .row _ _ _ _ _ _) hb_ hown_
 refine mI ?_
 refine jV rfl rfl (by decide) ?_
 rw [e1]
 refine aR (tA _ _ _ m (aX 18446744073709551616 (bN a)) _ (hh.aJ (i := 0) rfl) (fv _) (hh.dp (i := 0) rfl) (by omega) hm) ar.out rfl (by decide) ?_
 rintro e_ w9 ⟨A9, c9, rfl, hown_, hb_⟩
 refine ⟨_, rfl, ?_⟩
 replace hh := hh.bh (x := .row _ _ _ _ _ _) hb_ hown_
 rw [fj] at *
 refine bA hh (fL _ _ _ (aX 18446744073709551616 (bN a / 2 ^ m)) _ (hh.aJ (i := 0) rfl) (fv _) (hh.dp (i := 0) rfl) (by omega)) rfl ?_
 intro w10 hh
 rw [fj]
 refine aS (ae (al ?_))
 refine cn ?_
 exact ⟨rfl, hh.below⟩
theorem Ac {x y : Nat} (h : y ≤ x) : tw 18446744073709551616 (aX 18446744073709551616 x) (aX 18446744073709551616 y) 0 = 0 ∧ bz 18446744073709551616 (nj 18446744073709551616 (aX 18446744073709551616 x) (aX 18446744073709551616 y) 0) = x - y := by
 have := x6 (B := 18446744073709551616) (by omega) (aX 18446744073709551616 x) (aX 18446744073709551616 y) 0 (fv _) (fv _) (by omega) (by rw [fj, fj]; omega)
 rw [fj, fj] at this
 exact ⟨this.2, by omega⟩
theorem lb (a b : ByteArray) (w : World) (ha : a.size ≤ 1000000000) (hb : b.size ≤ 1000000000) :
  Calls Tryz.prog 258 #[.string a, .string b] w fun e w' => e = .returned (.tuple #[.string (sN (bN a - bN b)), .bool (decide (bN b ≤ bN a))]) ∧ Below w.heap.size w w' := by
 have hh := Hp.start w
 have h1 := eW a
 have h2 := eW b
 by_cases hlt : bN a < bN b
 ·refine aj (N := 21) (l := [.string a, .string b]) Tryz.func258 rfl rfl (by simp) ?_
  refine sr (aS (aB (ae (sr (mS ?_)))))
  refine aR (dm a _ ha) ar.out rfl (by decide) ?_
  rintro e_ w9 ⟨A9, c9, rfl, hown_, hb_⟩
  refine ⟨_, rfl, ?_⟩
  replace hh := hh.bh (x := .row _ _ _ _ _ _) hb_ hown_
  refine mS ?_
  refine aR (dm b _ hb) ar.out rfl (by decide) ?_
  rintro e_ w11 ⟨A11, c11, rfl, hown_, hb_⟩
  refine ⟨_, rfl, ?_⟩
  replace hh := hh.bh (x := .row _ _ _ _ _ _) hb_ hown_
  refine aL (aL (ae (ah (sr (mL (mL ?_))))))
  refine bA hh (k8 _ _ _ _ _ _ (aX 18446744073709551616 (bN a)) (aX 18446744073709551616 (bN b)) _ (hh.aJ (i := 1) rfl) (hh.aJ (i := 0) rfl) (fv _) (fv _) (hh.dp (i := 1) rfl) (hh.dp (i := 0) rfl) (by omega) (by omega)) rfl ?_
  intro w14 hh
  rw [fj, fj, jw hlt]
  refine aW (ae (cT (sr (aS (aB (ae (al (aD ?_))))))))
  refine xp ?_
  rw [Nat.sub_eq_zero_of_le (by omega), decide_eq_false (by omega), g7]
  exact ⟨rfl, hh.below⟩
 ·obtain ⟨s1, s2⟩ := Ac (Nat.le_of_not_lt hlt)
  have hc : ¬ jh (bN a) (bN b) < 0 := by unfold jh; split <;> (try split) <;> omega
  refine aj (N := 21) (l := [.string a, .string b]) Tryz.func258 rfl rfl (by simp) ?_
  refine sr (aS (aB (ae (sr (mS ?_)))))
  refine aR (dm a _ ha) ar.out rfl (by decide) ?_
  rintro e_ w9 ⟨A9, c9, rfl, hown_, hb_⟩
  refine ⟨_, rfl, ?_⟩
  replace hh := hh.bh (x := .row _ _ _ _ _ _) hb_ hown_
  refine mS ?_
  refine aR (dm b _ hb) ar.out rfl (by decide) ?_
  rintro e_ w11 ⟨A11, c11, rfl, hown_, hb_⟩
  refine ⟨_, rfl, ?_⟩
  replace hh := hh.bh (x := .row _ _ _ _ _ _) hb_ hown_
  refine aL (aL (ae (ah (sr (mL (mL ?_))))))
  refine bA hh (k8 _ _ _ _ _ _ (aX 18446744073709551616 (bN a)) (aX 18446744073709551616 (bN b)) _ (hh.aJ (i := 1) rfl) (hh.aJ (i := 0) rfl) (fv _) (fv _) (hh.dp (i := 1) rfl) (hh.dp (i := 0) rfl) (by omega) (by omega)) rfl ?_
  intro w14 hh
  rw [fj, fj]
  refine aW (ae (cF (ak (ai (sr (mL (mL ?_)))))))
  replace hh := hh.front 1 rfl
  rw [← List.append_nil (aX 18446744073709551616 (bN a)), ← List.nil_append (aX 18446744073709551616 (bN a))] at hh
  have hll := (hh.z3 (i := 0) rfl)
  rw [List.nil_append, List.append_nil] at hll
  refine aR (tm [] (aX 18446744073709551616 (bN a)) [] (aX 18446744073709551616 (bN b)) _ hh (fun w1 cs h => h.aJ (i := 1) rfl) (fv _) (fv _) (by omega) (by omega) s1) ar.out rfl (by decide) ?_
  rintro e_ w_ ⟨rfl, hh⟩
  refine ⟨_, rfl, ?_⟩
  simp only [List.nil_append, List.append_nil] at hh
  refine ae (sr (mL ?_))
  refine bA hh (fL _ _ _ (nj 18446744073709551616 (aX 18446744073709551616 (bN a)) (aX 18446744073709551616 (bN b)) 0) _ (hh.aJ (i := 0) rfl) (zL (by omega) _ _ _) (hh.dp (i := 0) rfl) (by omega)) rfl ?_
  intro w20 hh
  rw [s2]
  refine aS (aB (ae (al ?_)))
  refine xp ?_
  rw [decide_eq_true (by omega)]
  exact ⟨rfl, hh.below⟩
theorem rk (a b : ByteArray) (w : World) (ha : a.size ≤ 1000000000) (hb : b.size ≤ 1000000000) :
  Calls Tryz.prog 260 #[.string a, .string b] w fun e w' => e = .returned (.string (sN (bN a * bN b))) ∧ Below w.heap.size w w' := by
 have hh := Hp.start w
 have h1 := eW a
 have h2 := eW b
 refine aj (N := 37) (l := [.string a, .string b]) Tryz.func260 rfl rfl (by simp) ?_
 refine sr (aS (ae (sr (mS ?_))))
 refine aR (dm a _ ha) ar.out rfl (by decide) ?_
 rintro e_ w11 ⟨A11, c11, rfl, hown_, hb_⟩
 refine ⟨_, rfl, ?_⟩
 replace hh := hh.bh (x := .row _ _ _ _ _ _) hb_ hown_
 refine mS ?_
 refine aR (dm b _ hb) ar.out rfl (by decide) ?_
 rintro e_ w13 ⟨A13, c13, rfl, hown_, hb_⟩
 refine ⟨_, rfl, ?_⟩
 replace hh := hh.bh (x := .row _ _ _ _ _ _) hb_ hown_
 have hxd := fv (bN a)
 have hyd := fv (bN b)
 have hX := fj (bN a)
 have hY := fj (bN b)
 generalize aX 18446744073709551616 (bN a) = xs at *
 generalize aX 18446744073709551616 (bN b) = ys at *
 refine aL (aL (ae (sr (mL (a0 (mL (a0 ?_)))))))
 refine bL ?_
 refine bL ?_
 refine gI (n := xs.length + ys.length + 1) hh rfl rfl (by omega) (by omega) aF.out aA.out rfl (by omega) (by omega) (by decide) ?_
 intro b20 w20 hh
 refine aL (ae (ah (sr (mL (a0 (mI (ae (ao ?_))))))))
 rw [k9] at hh
 refine bs [8, 9, 23, 24, 25, 26, 27, 28, 29, 30, 31, 32, 33, 34] 23
  (fun v w' => ∃ (i : Nat) (L : List Nat), i ≤ xs.length ∧ v = .int .i64 i ∧ Dg 18446744073709551616 L ∧ L.length = xs.length + ys.length + 1 ∧ bz 18446744073709551616 L = bz 18446744073709551616 (xs.take i) * bz 18446744073709551616 ys ∧ Hp w [.row (some ⟨b20, 0, none⟩) (xs.length + ys.length + 1) (xs.length + ys.length + 1) 221 1 (cL L), .row (some ⟨A13, 0, none⟩) ys.length c13 221 1 (cL ys), .row (some ⟨A11, 0, none⟩) xs.length c11 221 1 (cL xs)] w')
  (fun v _ => xs.length - (intOf v).toNat) ?_ ?_
 ·exact ⟨0, _, Nat.zero_le _, rfl, Dg.xN (by omega) _, by simp, by simp [mK, bz], hh⟩
 ·clear hh
  rintro ρ' v w' ⟨i, L, hi, rfl, hLd, hLl, hLv, hh⟩
  by_cases hlt : i < xs.length
  ·obtain ⟨m, hm⟩ := aE (l := xs) (k := i) (by omega)
   have hm2 := dX hm
   have hmw := hxd.at_ hm
   have hpl : (L.take i).length = i := by rw [List.length_take]; omega
   have hsl : (L.drop i).length = xs.length + ys.length + 1 - i := by rw [List.length_drop]; omega
   refine sr ?_
   refine aW (ae (ah (cT (ak (ai (ah (ao (sr (mI ?_)))))))))
   refine bg (k := i) aF.out aA.size rfl rfl (by omega) (by omega) (by decide) ?_
   refine bj aA.out rfl (hh.cC (i := 2) rfl (by first | assumption | (simp only [Nat.mul_one]; assumption))) (by decide) ?_
   refine aI (aI (ae (aq (mL (mI ?_)))))
   first | refine ou (l := i) aF.out aA.size rfl rfl (by omega) (by omega) (by omega) (by omega) (by decide) ?_ | refine mW (l := i) aF.out aA.size rfl rfl (by omega) (by omega) (by omega) (by omega) (by decide) ?_
   refine mL (mI ?_)
   have hc := tg (c' := xs.length + ys.length + 1 - i) (ny := ys.length) (cy := c13) (m := m) (Y := some ⟨A13, 0, none⟩) (L.take i) (L.drop i) [] ys _ (by rw [List.append_nil, List.take_append_drop]; exact hh) (fun w1 cs h => h.aJ (i := 1) rfl) (hLd.drop i) hyd hmw (by omega) (by omega)
   rw [hpl, hsl, List.append_nil] at hc
   rw [Nat.zero_add, Nat.mul_one]
   refine aR (hc) ar.out rfl (by decide) ?_
   rintro e_ w_ ⟨rfl, hh⟩
   refine ⟨_, rfl, ?_⟩
   have hlt1 := fY (hxd.take (i + 1))
   have hlt2 := fY hyd
   rw [List.length_take, Nat.min_eq_left (by omega)] at hlt1
   have hsn := ek (B := 18446744073709551616) hm
   have hsplit := gG (B := 18446744073709551616) L i (by omega)
   have hnew : 18446744073709551616 ^ i * (bz 18446744073709551616 (L.drop i) + bz 18446744073709551616 ys * m + 0) + bz 18446744073709551616 (L.take i) = bz 18446744073709551616 (xs.take (i + 1)) * bz 18446744073709551616 ys := by
    rw [hsn, Nat.add_mul, ← hLv, hsplit, Nat.add_zero, Nat.mul_add, Nat.mul_assoc, Nat.mul_comm m]; omega
   have hbd : bz 18446744073709551616 (L.drop i) + bz 18446744073709551616 ys * m + 0 < 18446744073709551616 ^ (L.drop i).length := by
    refine Nat.lt_of_mul_lt_mul_left (a := 18446744073709551616 ^ i) ?_
    rw [← Nat.pow_add, hsl]
    refine Nat.lt_of_le_of_lt (Nat.le_add_right _ (bz 18446744073709551616 (L.take i))) ?_
    rw [hnew]
    refine Nat.lt_of_lt_of_le (Nat.mul_lt_mul'' hlt1 hlt2) ?_
    rw [← Nat.pow_add]
    exact Nat.pow_le_pow_right (by decide) (by omega)
   have hdp := p5 (B := 18446744073709551616) (by omega) _ _ _ _ hbd
   refine aC (aT (ai (aq ?_)))
   refine bL (mI (aC (ai ?_)))
   refine ⟨⟨i + 1, L.take i ++ fu 18446744073709551616 (L.drop i) ys m 0, by omega, rfl, (hLd.take i).append (sP (by omega) _ _ _ _), by rw [List.length_append, lf, hpl, hsl]; omega, ?_, hh⟩, by show xs.length - (i + 1) < xs.length - i; omega, ?_⟩
   ·rw [ep, hdp, hpl, Nat.add_comm]; exact hnew
   (repeat (first | exact aw _ _ _ | refine ax rfl ?_ | refine au rfl ?_))
  ·obtain rfl : i = xs.length := by omega
   rw [List.take_length, hX, hY] at hLv
   refine sr ?_
   refine aW (ae (ah (cF ?_)))
   refine aO ?_
   refine ay (ay (a8 (ai (sr (mL ?_)))))
   refine bA hh (fL _ _ _ L _ (hh.aJ (i := 0) rfl) hLd (Nat.le_refl _) (by omega)) rfl ?_
   intro w36 hh
   rw [hLv]
   refine aS (ae (al ?_))
   refine cn ?_
   exact ⟨rfl, hh.below⟩
theorem z4 {n d r k : Nat} (hd : d ≠ 0) (hdw : d < 18446744073709551616) (hn : n = 18446744073709551616 ^ k * (d + 18446744073709551616 * r)) : tz n = 64 * k + tz d := by
 obtain ⟨m, hm⟩ := nx hd
 have ht : tz d < 64 := qd hd (by simpa using hdw)
 have hW : (18446744073709551616 : Nat) = 2 ^ 64 := by decide
 generalize tz d = t at *
 have e : n = 2 ^ (64 * k + t) * (2 * (m + 2 ^ (63 - t) * r) + 1) := by
  rw [hn, Nat.pow_add, Nat.pow_mul, ← hW, Nat.mul_assoc]
  congr 1
  have h1 : 18446744073709551616 = 2 ^ t * (2 * 2 ^ (63 - t)) := by rw [hW, ← Nat.pow_succ', ← Nat.pow_add]; congr 1; omega
  have h2 : 18446744073709551616 * r = 2 ^ t * (2 * 2 ^ (63 - t) * r) := by rw [← Nat.mul_assoc, ← h1]
  rw [h2]
  conv => lhs; rw [hm]
  rw [← Nat.mul_add]
  congr 1
  rw [Nat.mul_add, Nat.mul_assoc]; omega
 rw [e, vq]
theorem iu (a : ByteArray) (w : World) (ha : a.size ≤ 1000000000) (hT : gW w) :
  Calls Tryz.prog 223 #[.string a] w fun e w' => e = .returned (.int .i64 (tz (bN a))) ∧ Below w.heap.size w w' := by
 have hh := Hp.start w
 have h1 := eW a
 refine aj (N := 21) (l := [.string a]) Tryz.func223 rfl rfl (by simp) ?_
 refine sr (aI (ae (ah (sr (mS ?_)))))
 refine aR (dm a _ ha) ar.out rfl (by decide) ?_
 rintro e_ w6 ⟨A6, c6, rfl, hown_, hb_⟩
 refine ⟨_, rfl, ?_⟩
 replace hh := hh.bh (x := .row _ _ _ _ _ _) hb_ hown_
 have hxd := fv (bN a)
 have hX := fj (bN a)
 generalize aX 18446744073709551616 (bN a) = xs at *
 refine a0 (mI (ae (ao ?_)))
 refine bs [2, 3, 4, 8, 9, 10, 11, 12, 13, 14, 15, 16, 17, 18, 19, 20] 8
  (fun v w' => ∃ (i : Nat), i ≤ xs.length ∧ v = .int .i64 i ∧ bz 18446744073709551616 (xs.take i) = 0 ∧ Hp w [.row (some ⟨A6, 0, none⟩) xs.length c6 221 1 (cL xs)] w')
  (fun v _ => xs.length - (intOf v).toNat) ?_ ?_
 ·exact ⟨0, Nat.zero_le _, rfl, rfl, hh⟩
 ·clear hh
  rintro ρ' v w' ⟨i, hi, rfl, hz, hh⟩
  by_cases hlt : i < xs.length
  ·obtain ⟨d, hm⟩ := aE (l := xs) (k := i) (by omega)
   have hm2 := dX hm
   have hmw := hxd.at_ hm
   by_cases h0 : d = 0
   ·subst h0
    refine sr ?_
    refine aW (ae (ah (cT (ak (ai (ah (ao (sr (mI ?_)))))))))
    refine bg (k := i) aF.out aA.size rfl rfl (by omega) (by omega) (by decide) ?_
    refine bj aA.out rfl (hh.cC (i := 0) rfl (by first | assumption | (simp only [Nat.mul_one]; assumption))) (by decide) ?_
    refine aI (aI (ae (sr (mI ?_))))
    refine cQ (ae (cF (ak (aT (ai (aq ?_))))))
    refine bL (mI (aC (ai ?_)))
    refine ⟨⟨i + 1, by omega, rfl, by rw [ek hm, hz]; simp, hh⟩, by show xs.length - (i + 1) < xs.length - i; omega, ?_⟩
    (repeat (first | exact aw _ _ _ | refine ax rfl ?_ | refine au rfl ?_))
   ·have htz : tz (bN a) = 64 * i + tz d := by
     have h3 := gG (B := 18446744073709551616) xs i (by omega)
     have h4 := (List.getElem?_eq_some_iff.1 hm)
     rw [hz, List.drop_eq_getElem_cons hlt, h4.2, bz, hX, Nat.zero_add] at h3
     exact z4 h0 hmw h3
    have ht : tz d < 64 := qd h0 (by simpa using hmw)
    refine sr ?_
    refine aW (ae (ah (cT (ak (ai (ah (ao (sr (mI ?_)))))))))
    refine bg (k := i) aF.out aA.size rfl rfl (by omega) (by omega) (by decide) ?_
    refine bj aA.out rfl (hh.cC (i := 0) rfl (by first | assumption | (simp only [Nat.mul_one]; assumption))) (by decide) ?_
    refine aI (aI (ae (sr (mI ?_))))
    refine cQ (ae (cT (sr (mI ?_))))
    refine mulC (mI ?_)
    refine bA hh (tG _ _ hmw h0 (hT.hp hh)) rfl ?_
    intro w18 hh
    refine bL (aI (ae (al (bP (aD (aD (bP (aD ?_))))))))
    refine cn ?_
    refine ⟨?_, hh.below⟩
    congr 2
    omega
  ·refine sr ?_
   refine aW (ae (ah (cF ?_)))
   refine aO ?_
   refine ay (ay (a8 (ai (sr (aI (ae (al ?_)))))))
   refine cn ?_
   rw [List.take_of_length_le (by omega), hX] at hz
   rw [hz]
   exact ⟨rfl, hh.below⟩
theorem zt {x y k : Nat} (hx : x < 18446744073709551616 ^ k) (hy : y < 18446744073709551616 ^ k) : bz 18446744073709551616 (fu 18446744073709551616 (aX 18446744073709551616 x ++ List.replicate (k + 1 - (aX 18446744073709551616 x).length) 0) (aX 18446744073709551616 y) 1 0) = x + y := by
 have hl := fK (B := 18446744073709551616) (by omega) hx
 have h1 : bz 18446744073709551616 (aX 18446744073709551616 x ++ List.replicate (k + 1 - (aX 18446744073709551616 x).length) 0) = x := by rw [ep, mK, fj]; simp
 have h2 : (aX 18446744073709551616 x ++ List.replicate (k + 1 - (aX 18446744073709551616 x).length) 0).length = k + 1 := by rw [List.length_append, List.length_replicate]; omega
 rw [p5 (by omega), h1, fj]
 ·omega
 ·rw [h1, h2, fj, Nat.pow_succ]
  have : 0 < 18446744073709551616 ^ k := Nat.pow_pos (by decide)
  omega
theorem mA (l : List Nat) (x : Nat) : (l ++ [x]).sum = l.sum + x := by simp
theorem qR (L : Option Addr) (n c : Nat) (ss : List ByteArray) (w : World) (hS : Sl w L n 1 (sX ss)) (hn : n ≤ 1000000) (hs : ∀ s ∈ ss, s.size ≤ 1000000000) :
  Calls Tryz.prog 256 #[.slice L n c] w fun e w' => e = .returned (.string (sN (ss.map bN).sum)) ∧ Below w.heap.size w w' := by
 have hsl : ss.length = n := by have := hS.1; rw [m8] at this; omega
 have hh := Hp.start w
 refine aj (N := 31) (l := [.slice L n c]) Tryz.func256 rfl rfl (by simp) ?_
 refine sr (aS (ae (sr (aL (ae (ah (sr (mL (a0 (mI (ae ?_)))))))))))
 refine ao ?_
 replace hh := hh.dK 221 1
 refine cE [3, 5, 6, 9, 10, 11, 12, 13, 14, 15, 16, 17, 18, 19, 20, 21, 22, 23, 24, 25, 26, 27, 28] 3 9
  (fun v j w' => ∃ (i : Nat) (A : Option Addr) (c' T : Nat), i ≤ n ∧ j = .int .i64 i ∧ T = ((ss.take i).map bN).sum ∧ v = .slice A (aX 18446744073709551616 T).length c' ∧ (aX 18446744073709551616 T).length ≤ 125000001 + i ∧ Hp w [.row A (aX 18446744073709551616 T).length c' 221 1 (cL (aX 18446744073709551616 T))] w')
  (fun _ j _ => n - (intOf j).toNat) ?_ ?_
 ·exact ⟨0, none, 0, 0, Nat.zero_le _, rfl, rfl, by rw [fg (by omega)]; rfl, by rw [fg (by omega)]; simp, by rw [fg (by omega)]; exact hh⟩
 ·clear hh
  rintro ρ' v j w' ⟨i, A, c', T, hi, rfl, hT, rfl, hTl, hh⟩
  by_cases hlt : i < n
  ·obtain ⟨s, hsi⟩ := aE (l := ss) (k := i) (by omega)
   obtain ⟨ad, rfl, hr⟩ := hS.at_ (by omega)
   have hs2 := vd hsi
   have hsz := hs s (List.mem_of_getElem? hsi)
   have hlx := eW s
   have hT2 : ((ss.take (i + 1)).map bN).sum = T + bN s := by rw [aN hsi, List.map_append, List.map_singleton, mA, hT]
   have e1 : (if ((aX 18446744073709551616 (bN s)).length : Int) > ((aX 18446744073709551616 T).length : Int) then ((aX 18446744073709551616 (bN s)).length : Int) else ((aX 18446744073709551616 T).length : Int)) + 1 = ((max (aX 18446744073709551616 T).length (aX 18446744073709551616 (bN s)).length + 1 : Nat) : Int) := by split <;> omega
   have hb1 : T < 18446744073709551616 ^ max (aX 18446744073709551616 T).length (aX 18446744073709551616 (bN s)).length := Nat.lt_of_lt_of_le (kC (by omega) T) (Nat.pow_le_pow_right (by decide) (Nat.le_max_left _ _))
   have hb2 : bN s < 18446744073709551616 ^ max (aX 18446744073709551616 T).length (aX 18446744073709551616 (bN s)).length := Nat.lt_of_lt_of_le (kC (by omega) (bN s)) (Nat.pow_le_pow_right (by decide) (Nat.le_max_right _ _))
   have hadd := zt hb1 hb2
   refine sr ?_
   refine aW (ae (ah (cT (ak (ai (ah (ao (sr ?_))))))))
   refine aQ aF.out aA.size rfl rfl rfl (by omega) (by decide) ?_
   refine bj aA.out rfl ((hr.ext hh.below).nu (by assumption)) (by decide) ?_
   refine aS (ae (sr (mS ?_)))
   refine aR (dm s _ hsz) ar.out rfl (by decide) ?_
   rintro e_ w14 ⟨A14, c14, rfl, hown_, hb_⟩
   refine ⟨_, rfl, ?_⟩
   replace hh := hh.bh (x := .row _ _ _ _ _ _) hb_ hown_
   refine aL (ae (sr (mL (mL (a0 (mL (a0 ?_)))))))
   refine jV rfl rfl (by decide) ?_
   refine bL ?_
   rw [e1]
   generalize hM : max (aX 18446744073709551616 T).length (aX 18446744073709551616 (bN s)).length = M at *
   refine aR (kJ _ _ _ (M + 1) _ _ (hh.aJ (i := 1) rfl) (by omega) (by omega)) ar.out rfl (by decide) ?_
   rintro e_ w_ ⟨b22, rfl, hown_, hb_⟩
   refine ⟨_, rfl, ?_⟩
   replace hh := hh.bh (x := .row _ _ _ _ _ _) hb_ hown_
   have e2 : max (M + 1) (aX 18446744073709551616 T).length = M + 1 := by omega
   rw [e2] at hh
   rw [e2]
   refine aL (ae (sr (mL (mL ?_))))
   have hc := ub (c' := M + 1) (ny := (aX 18446744073709551616 (bN s)).length) (cy := c14) (Y := some ⟨A14, 0, none⟩) [] (aX 18446744073709551616 T ++ List.replicate (M + 1 - (aX 18446744073709551616 T).length) 0) [] (aX 18446744073709551616 (bN s)) _ (by rw [List.append_nil, List.nil_append]; exact hh) (fun w1 cs h => h.aJ (i := 1) rfl) ((fv _).append (Dg.xN (by omega) _)) (fv _) (by rw [List.length_append, List.length_replicate]; omega) (by omega)
   have e3 : (aX 18446744073709551616 T ++ List.replicate (M + 1 - (aX 18446744073709551616 T).length) 0).length = M + 1 := by rw [List.length_append, List.length_replicate]; omega
   rw [e3, List.append_nil, List.nil_append] at hc
   refine aR (hc) ar.out rfl (by decide) ?_
   rintro e_ w_ ⟨rfl, hh⟩
   refine ⟨_, rfl, ?_⟩
   have hpl : (fu 18446744073709551616 (aX 18446744073709551616 T ++ List.replicate (M + 1 - (aX 18446744073709551616 T).length) 0) (aX 18446744073709551616 (bN s)) 1 0).length = M + 1 := by rw [lf, e3]
   have hpd := sP (B := 18446744073709551616) (by omega) (aX 18446744073709551616 T ++ List.replicate (M + 1 - (aX 18446744073709551616 T).length) 0) (aX 18446744073709551616 (bN s)) 1 0
   generalize fu 18446744073709551616 (aX 18446744073709551616 T ++ List.replicate (M + 1 - (aX 18446744073709551616 T).length) 0) (aX 18446744073709551616 (bN s)) 1 0 = Z at *
   have hcz : dD Z = aX 18446744073709551616 (T + bN s) := by rw [eR (by omega) hpd, hadd]
   have hcl := eN Z
   refine ae (aq (mL ?_))
   refine bA hh (fR _ _ _ Z _ (hh.aJ (i := 0) rfl) (Nat.le_refl _) (by omega)) rfl ?_
   intro w27 hh
   replace hh := (hh.u3 hpl).sub (List.sublist_append_left [_] _)
   rw [hcz] at *
   refine aL (aC (aT (ai (aq ?_))))
   refine bL (mI (aC (ai ?_)))
   refine ⟨⟨i + 1, _, _, T + bN s, by omega, rfl, hT2.symm, rfl, by omega, hh⟩, by show n - (i + 1) < n - i; omega, ?_⟩
   (repeat (first | exact aw _ _ _ | refine ax rfl ?_ | refine au rfl ?_))
  ·refine sr ?_
   refine aW (ae (ah (cF ?_)))
   refine aO ?_
   refine ay (ay (a8 (ai (sr (mL ?_)))))
   refine bA hh (fL _ _ _ (aX 18446744073709551616 T) _ (hh.aJ (i := 0) rfl) (fv _) (hh.dp (i := 0) rfl) (by omega)) rfl ?_
   intro w30 hh
   rw [fj]
   refine aS (ae (al ?_))
   refine cn ?_
   rw [List.take_of_length_le (by omega)] at hT
   rw [hT]
   exact ⟨rfl, hh.below⟩
end Go.Proofs.YtaapkaefelhfcaaGreatDoor
namespace Go.Proofs.YtaapkaefelhfcaaGreatDoor
open Go.RowKit
theorem tH (s : ByteArray) (l h : Nat) : s.extract l h = str ((s.data.toList.take h).drop l) := by
 apply md
 rw [db]
 simp [ByteArray.extract, ByteArray.copySlice, List.drop_take]
def A3 : Value → Nat
 | .string t => t.size
 | _ => 0
theorem pb (s : ByteArray) (w : World) :
  Calls Tryz.prog 290 #[.string s, .int .u8 ((0 : UInt8).toNat : Int)] w fun e w' => e = .returned (.string (sN (bN s))) ∧ Below w.heap.size w w' := by
 have hh := Hp.start w
 refine aj (N := 17) (l := [.string s, .int .u8 ((0 : UInt8).toNat : Int)]) Tryz.func290 rfl rfl (by simp) ?_
 refine sr (aS (ae (ah (ao ?_))))
 refine bs [0, 5, 6, 7, 8, 9, 10, 11, 12, 13, 14, 15] 0
  (fun v w' => ∃ l : List UInt8, v = .string (str l) ∧ l.length ≤ s.size ∧ bn l = bN s ∧ w' = w)
  (fun v _ => A3 v) ?_ ?_
 ·exact ⟨s.data.toList, by rw [AP]; rfl, by rw [bZ]; exact Nat.le_refl _, rfl, rfl⟩
 ·rintro ρ' v w' ⟨l, rfl, hl, hb, rfl⟩
  have hsz := dT l
  cases l with
  | nil =>
   refine ah (sr (mS ?_))
   refine bp aF.out rfl (by decide) ?_
   refine ck (mB ?_)
   first | refine gS ?_ | (refine gT ?_; refine mS ?_) | refine gV ?_
   first | refine gS ?_ | (refine gT ?_; refine bo aF.out rfl rfl (by omega) (by assumption) (by decide) ?_) | refine gV ?_
   first | refine gS ?_ | (refine gT ?_; refine mI ?_) | refine gV ?_
   first | refine gS ?_ | (refine gT ?_; refine cu ?_) | refine gV ?_
   first | refine cS ?_ | refine cU ?_
   refine ae (cF ?_)
   refine aO ?_
   refine ay (ay (a8 (ai (sr (mS (aS (ae (al ?_))))))))
   refine cn ?_
   rw [sN, ← hb]
   exact ⟨rfl, hh.below⟩
  | cons c l =>
   have hc0 : (str (c :: l)).data.toList[(0 : Int).toNat]? = some c := by rw [db]; rfl
   have hc8 := c.toNat_lt
   have hlen : (str (c :: l)).size = l.length + 1 := by rw [hsz]; rfl
   have hz : (0 : UInt8).toNat = 0 := rfl
   by_cases h0 : c = 0
   ·subst h0
    refine ah (sr (mS ?_))
    refine bp aF.out rfl (by decide) ?_
    refine ck (mB ?_)
    first | refine gS ?_ | (refine gT ?_; refine mS ?_) | refine gV ?_
    first | refine gS ?_ | (refine gT ?_; refine bo aF.out rfl rfl (by omega) (by assumption) (by decide) ?_) | refine gV ?_
    first | refine gS ?_ | (refine gT ?_; refine mI ?_) | refine gV ?_
    first | refine gS ?_ | (refine gT ?_; refine cu ?_) | refine gV ?_
    first | refine cS ?_ | refine cU ?_
    refine ae (cT (ak (ai (ao (aq (mS ?_))))))
    refine mY (l := 1) (h := (str ((0 : UInt8) :: l)).size) aF.out rfl ⟨_, _, rfl, by omega⟩ rfl (by omega) (by omega) (by decide) ?_
    refine aS (aC (aT (ai ?_)))
    rw [tH, db, List.take_of_length_le (by rw [hlen]; simp), List.drop_succ_cons, List.drop_zero]
    refine ⟨⟨l, rfl, by simp at hl; omega, by rw [← hb, yf], rfl⟩, ?_, ?_⟩
    ·show (str l).size < (str (0 :: l)).size
     rw [hlen, dT]; omega
    (repeat (first | exact aw _ _ _ | refine ax rfl ?_ | refine au rfl ?_))
   ·have hcn : c.toNat ≠ 0 := fun h => h0 (UInt8.toNat_inj.1 h)
    refine ah (sr (mS ?_))
    refine bp aF.out rfl (by decide) ?_
    refine ck (mB ?_)
    first | refine gS ?_ | (refine gT ?_; refine mS ?_) | refine gV ?_
    first | refine gS ?_ | (refine gT ?_; refine bo aF.out rfl rfl (by omega) (by assumption) (by decide) ?_) | refine gV ?_
    first | refine gS ?_ | (refine gT ?_; refine mI ?_) | refine gV ?_
    first | refine gS ?_ | (refine gT ?_; refine cu ?_) | refine gV ?_
    first | refine cS ?_ | refine cU ?_
    refine ae (cF ?_)
    refine aO ?_
    refine ay (ay (a8 (ai (sr (mS (aS (ae (al ?_))))))))
    refine cn ?_
    rw [sN, ← hb, BN (by simpa using h0)]
    exact ⟨rfl, hh.below⟩
theorem nO (s : ByteArray) (w : World) :
  Calls Tryz.prog 281 #[.string s, .string (ByteArray.mk #[0])] w fun e w' => e = .returned (.string (sN (bN s))) ∧ Below w.heap.size w w' := by
 have hh := Hp.start w
 have hne : ¬ ByteArray.mk #[(0 : UInt8)] = ByteArray.mk #[] := by intro h; injection h with h; simp at h
 have hsz1 : (ByteArray.mk #[(0 : UInt8)]).size = 1 := rfl
 have hc0 : (ByteArray.mk #[(0 : UInt8)]).data.toList[(0 : Int).toNat]? = some 0 := rfl
 have hz : (0 : UInt8).toNat = 0 := rfl
 by_cases h0 : s = ByteArray.mk #[]
 ·subst h0
  refine aj (N := 37) (l := [.string (ByteArray.mk #[]), .string (ByteArray.mk #[0])]) Tryz.func281 rfl rfl (by simp) ?_
  refine sr (aS (ae (ah (sr (mS ?_)))))
  first | refine dt rfl rfl (by first | rfl | assumption | decide) (by decide) ?_ | refine dv rfl rfl (by first | assumption | decide) (by decide) ?_
  refine mB ?_
  first | refine gS ?_ | (refine gT ?_; refine mS ?_) | refine gV ?_
  first | refine gS ?_ | (refine gT ?_; (first | refine dt rfl rfl (by first | rfl | assumption | decide) (by decide) ?_ | refine dv rfl rfl (by first | assumption | decide) (by decide) ?_)) | refine gV ?_
  first | refine cS ?_ | refine cU ?_
  refine ae (cT (sr (mS (aS (ae (al (aD ?_)))))))
  refine cn ?_
  rw [show bN (ByteArray.mk #[]) = 0 from rfl, g7]
  exact ⟨rfl, hh.below⟩
 ·refine aj (N := 37) (l := [.string s, .string (ByteArray.mk #[0])]) Tryz.func281 rfl rfl (by simp) ?_
  refine sr (aS (ae (ah (sr (mS ?_)))))
  first | refine dt rfl rfl (by first | rfl | assumption | decide) (by decide) ?_ | refine dv rfl rfl (by first | assumption | decide) (by decide) ?_
  refine mB ?_
  first | refine gS ?_ | (refine gT ?_; refine mS ?_) | refine gV ?_
  first | refine gS ?_ | (refine gT ?_; (first | refine dt rfl rfl (by first | rfl | assumption | decide) (by decide) ?_ | refine dv rfl rfl (by first | assumption | decide) (by decide) ?_)) | refine gV ?_
  first | refine cS ?_ | refine cU ?_
  refine ae (cF (ak (ai (ah (sr (mS ?_))))))
  refine bp aF.out rfl (by decide) ?_
  refine cu (mB ?_)
  first | refine gS ?_ | (refine gT ?_; refine mS ?_) | refine gV ?_
  first | refine gS ?_ | (refine gT ?_; refine bo aF.out rfl rfl (by omega) (by assumption) (by decide) ?_) | refine gV ?_
  first | refine gS ?_ | (refine gT ?_; refine aW ?_) | refine gV ?_
  first | refine cS ?_ | refine cU ?_
  refine ae (cT (sr (mS (mS ?_))))
  refine bo aF.out rfl rfl (by omega) (by assumption) (by decide) ?_
  refine bA hh (pb s _) rfl ?_
  intro w25 hh
  refine aS (ae (al (aD ?_)))
  refine cn ?_
  exact ⟨rfl, hh.below⟩
theorem iY (s : ByteArray) (w : World) :
  Calls Tryz.prog 259 #[.string s] w fun e w' => e = .returned (.string (sN (bN s))) ∧ Below w.heap.size w w' := by
 have hh := Hp.start w
 refine aj (N := 5) (l := [.string s]) Tryz.func259 rfl rfl (by simp) ?_
 refine sr (aS (ae (sr (mS ?_))))
 refine bA hh (nO s _) rfl ?_
 intro w4 hh
 refine aS (ae (al ?_))
 refine cn ?_
 exact ⟨rfl, hh.below⟩
end Go.Proofs.YtaapkaefelhfcaaGreatDoor
/- Several texts in one: Whole, WholeB, WholeC, Dy. -/
namespace Go.Proofs.YtaapkaefelhfcaaGreatDoor
open Go.RowKit
def iv (s : Bool) (m : ByteArray) : Int := if s then -(bN m : Int) else bN m
def iN (z : Int) : Bool := decide (z < 0)
def iM (z : Int) : ByteArray := sN z.natAbs
theorem fx (z : Int) : iv (iN z) (iM z) = z := by
 unfold iv iN iM
 rw [eC]
 by_cases h : z < 0
 ·rw [decide_eq_true h, if_pos rfl]; omega
 ·rw [decide_eq_false h, if_neg (by simp)]; omega
theorem np {z : Int} : iM z = ByteArray.mk #[] ↔ z = 0 := by
 rw [iM, ← g7]
 constructor
 ·intro h; have := uq h; omega
 ·intro h; rw [h]; rfl
theorem gD (s : Bool) (m : ByteArray) : (iv s m).natAbs = bN m := by
 unfold iv; split <;> omega
theorem vp (s : Bool) (m : ByteArray) : iM (iv s m) = sN (bN m) := by rw [iM, gD]
theorem AJ (s : Bool) (m : ByteArray) : iN (iv s m) = (s && decide (bN m ≠ 0)) := by
 unfold iN iv
 rw [Bool.eq_iff_iff, Bool.and_eq_true, decide_eq_true_eq, decide_eq_true_eq]
 cases s
 ·simp only [Bool.false_eq_true, if_false, false_and, iff_false]; omega
 ·simp only [if_true, true_and]; omega
theorem kz (s : Bool) (m : ByteArray) (w : World) :
  Calls Tryz.prog 226 #[.agg #[.bool s, .string m]] w fun e w' => e = .returned (.agg #[.string m, .bool s]) ∧ Below w.heap.size w w' := by
 have hh := Hp.start w
 refine aj (N := 8) (l := [.agg #[.bool s, .string m]]) Tryz.func226 rfl rfl (by simp) ?_
 refine sr ?_
 refine cz hh [_,_] ?_
 intro b1 w1 hh
 refine cj hh ?_
 intro b2 w2 hh
 refine ae (sr (bB ?_))
 refine bE hh 1 ?_
 refine bB ?_
 refine bE hh 1 ?_
 refine eH [_,_] ?_
 refine bD hh 0 [_,_] ?_
 intro ws hh
 replace hh : Hp _ (.blk _ _ [_, _] _ :: _) _ := hh
 refine ae (al ?_)
 refine gr (aH rfl (aG (vs := [_, _]) aA.out (hh.av (i := 0) (n := 2) rfl rfl) rfl) a9) ?_
 exact ⟨rfl, hh.below⟩
theorem dq (s : Bool) (m : ByteArray) (w : World) :
  Calls Tryz.prog 227 #[.agg #[.string m, .bool s]] w fun e w' => e = .returned (.agg #[.bool (iN (iv s m)), .string (iM (iv s m))]) ∧ Below w.heap.size w w' := by
 have hh := Hp.start w
 rw [AJ, vp]
 cases s with
 | false =>
  refine aj (N := 15) (l := [.agg #[.string m, .bool false]]) Tryz.func227 rfl rfl (by simp) ?_
  refine sr ?_
  refine cz hh [_,_] ?_
  intro b1 w1 hh
  refine cj hh ?_
  intro b2 w2 hh
  refine ae (sr (bB ?_))
  refine bE hh 1 ?_
  refine bA hh (iY m _) rfl ?_
  intro w6 hh
  refine aS (ae (sr (bB ?_)))
  refine bE hh 1 ?_
  refine mB ?_
  first | refine gS ?_ | (refine gT ?_; refine mS ?_) | refine gV ?_
  first | refine gS ?_ | (refine gT ?_; (first | refine fN rfl rfl (by first | rfl | assumption | decide) (by decide) ?_ | refine fO rfl rfl (by first | assumption | decide) (by decide) ?_)) | refine gV ?_
  first | refine cS ?_ | refine cU ?_
  refine mS ?_
  refine eH [_,_] ?_
  refine bD hh 0 [_,_] ?_
  intro ws hh
  replace hh : Hp _ (.blk _ _ [_, _] _ :: _) _ := hh
  refine ae (al ?_)
  refine gr (aH rfl (aG (vs := [_, _]) aA.out (hh.av (i := 0) (n := 2) rfl rfl) rfl) a9) ?_
  exact ⟨rfl, hh.below⟩
 | true =>
  by_cases h0 : sN (bN m) = ByteArray.mk #[]
  ·refine aj (N := 15) (l := [.agg #[.string m, .bool true]]) Tryz.func227 rfl rfl (by simp) ?_
   refine sr ?_
   refine cz hh [_,_] ?_
   intro b1 w1 hh
   refine cj hh ?_
   intro b2 w2 hh
   refine ae (sr (bB ?_))
   refine bE hh 1 ?_
   refine bA hh (iY m _) rfl ?_
   intro w6 hh
   refine aS (ae (sr (bB ?_)))
   refine bE hh 1 ?_
   refine mB ?_
   first | refine gS ?_ | (refine gT ?_; refine mS ?_) | refine gV ?_
   first | refine gS ?_ | (refine gT ?_; (first | refine fN rfl rfl (by first | rfl | assumption | decide) (by decide) ?_ | refine fO rfl rfl (by first | assumption | decide) (by decide) ?_)) | refine gV ?_
   first | refine cS ?_ | refine cU ?_
   refine mS ?_
   refine eH [_,_] ?_
   refine bD hh 0 [_,_] ?_
   intro ws hh
   replace hh : Hp _ (.blk _ _ [_, _] _ :: _) _ := hh
   refine ae (al ?_)
   refine gr (aH rfl (aG (vs := [_, _]) aA.out (hh.av (i := 0) (n := 2) rfl rfl) rfl) a9) ?_
   have h1 : bN m = 0 := by rw [← g7] at h0; exact uq h0
   rw [decide_eq_false (by omega)]
   exact ⟨rfl, hh.below⟩
  ·refine aj (N := 15) (l := [.agg #[.string m, .bool true]]) Tryz.func227 rfl rfl (by simp) ?_
   refine sr ?_
   refine cz hh [_,_] ?_
   intro b1 w1 hh
   refine cj hh ?_
   intro b2 w2 hh
   refine ae (sr (bB ?_))
   refine bE hh 1 ?_
   refine bA hh (iY m _) rfl ?_
   intro w6 hh
   refine aS (ae (sr (bB ?_)))
   refine bE hh 1 ?_
   refine mB ?_
   first | refine gS ?_ | (refine gT ?_; refine mS ?_) | refine gV ?_
   first | refine gS ?_ | (refine gT ?_; (first | refine fN rfl rfl (by first | rfl | assumption | decide) (by decide) ?_ | refine fO rfl rfl (by first | assumption | decide) (by decide) ?_)) | refine gV ?_
   first | refine cS ?_ | refine cU ?_
   refine mS ?_
   refine eH [_,_] ?_
   refine bD hh 0 [_,_] ?_
   intro ws hh
   replace hh : Hp _ (.blk _ _ [_, _] _ :: _) _ := hh
   refine ae (al ?_)
   refine gr (aH rfl (aG (vs := [_, _]) aA.out (hh.av (i := 0) (n := 2) rfl rfl) rfl) a9) ?_
   have h1 : bN m ≠ 0 := fun h => h0 (by rw [h, g7])
   rw [decide_eq_true h1]
   exact ⟨rfl, hh.below⟩
def CN (s : Bool) (m : ByteArray) : Value := .agg #[.string m, .bool s]
theorem nM (a b : ByteArray) (w : World) (ha : a.size ≤ 1000000000) (hb : b.size ≤ 1000000000) :
  Calls Tryz.prog 257 #[.string a, .string b] w fun e w' => e = .returned (.int .i64 (jh (bN a) (bN b))) ∧ Below w.heap.size w w' := by
 have hh := Hp.start w
 refine aj (N := 8) (l := [.string a, .string b]) Tryz.func257 rfl rfl (by simp) ?_
 refine sr (aI (ae (sr (mS (mS ?_)))))
 refine bA hh (qL a b _ ha hb) rfl ?_
 intro w7 hh
 refine aI (ae (al ?_))
 refine cn ?_
 exact ⟨rfl, hh.below⟩
theorem ke (s : Bool) (m : ByteArray) (w : World) :
  Calls Tryz.prog 249 #[.agg #[.bool s, .string m]] w fun e w' => e = .returned (.agg #[.bool (iN (iv s m)), .string (iM (iv s m))]) ∧ Below w.heap.size w w' := by
 have hh := Hp.start w
 refine aj (N := 6) (l := [.agg #[.bool s, .string m]]) Tryz.func249 rfl rfl (by simp) ?_
 refine sr ?_
 refine cz hh [_,_] ?_
 intro b1 w1 hh
 refine cj hh ?_
 intro b2 w2 hh
 refine ae (sr ?_)
 refine cB hh 1 [_,_] ?_
 refine bA hh (kz s m _) rfl ?_
 intro w4 hh
 refine bA hh (dq s m _) rfl ?_
 intro w5 hh
 refine bD hh 0 [_,_] ?_
 intro ws hh
 replace hh : Hp _ (.blk _ _ [_, _] _ :: _) _ := hh
 refine ae (al ?_)
 refine gr (aH rfl (aG (vs := [_, _]) aA.out (hh.av (i := 0) (n := 2) rfl rfl) rfl) a9) ?_
 exact ⟨rfl, hh.below⟩
theorem uG (s : Bool) (m : ByteArray) (w : World) :
  Calls Tryz.prog 214 #[.agg #[.bool s, .string m]] w fun e w' => e = .returned (.agg #[.bool (iN (-(iv s m))), .string (iM (-(iv s m)))]) ∧ Below w.heap.size w w' := by
 have hh := Hp.start w
 have e1 : iv (!s) m = -(iv s m) := by unfold iv; cases s <;> simp
 refine aj (N := 10) (l := [.agg #[.bool s, .string m]]) Tryz.func214 rfl rfl (by simp) ?_
 refine sr ?_
 refine cz hh [_,_] ?_
 intro b1 w1 hh
 refine cj hh ?_
 intro b2 w2 hh
 refine ae (sr (bB ?_))
 refine bE hh 1 ?_
 refine bB ?_
 refine bE hh 1 ?_
 refine gg ?_
 refine eH [_,_] ?_
 refine bA hh (dq (!s) m _) rfl ?_
 intro w9 hh
 rw [e1]
 refine bD hh 0 [_,_] ?_
 intro ws hh
 replace hh : Hp _ (.blk _ _ [_, _] _ :: _) _ := hh
 refine ae (al ?_)
 refine gr (aH rfl (aG (vs := [_, _]) aA.out (hh.av (i := 0) (n := 2) rfl rfl) rfl) a9) ?_
 exact ⟨rfl, hh.below⟩
theorem jR (s : Bool) (m : ByteArray) (w : World) :
  Calls Tryz.prog 222 #[.agg #[.bool s, .string m]] w fun e w' => e = .returned (.int .i64 (iv s m).sign) ∧ Below w.heap.size w w' := by
 have hh := Hp.start w
 by_cases h1 : iv s m < 0
 ·have hn : iN (iv s m) = true := decide_eq_true h1
  refine aj (N := 13) (l := [.agg #[.bool s, .string m]]) Tryz.func222 rfl rfl (by simp) ?_
  refine sr ?_
  refine cz hh [_,_] ?_
  intro b1 w1 hh
  refine aI (ae (sr ?_))
  refine cB hh 0 [_,_] ?_
  refine bA hh (ke s m _) rfl ?_
  intro w5 hh
  rw [hn]
  refine cj hh ?_
  intro b3 w3 hh
  refine bD hh 0 [_,_] ?_
  intro ws hh
  replace hh : Hp _ (.blk _ _ [_, _] _ :: _) _ := hh
  refine ae (ah (ao (sr (bB ?_))))
  refine bE hh 0 ?_
  refine aB (ae (cT (sr (aI (ae (al (bP (aD ?_))))))))
  refine cn ?_
  exact ⟨by rw [Int.sign_eq_neg_one_of_neg h1], hh.below⟩
 ·have hn : iN (iv s m) = false := decide_eq_false h1
  by_cases h0 : iM (iv s m) = ByteArray.mk #[]
  ·refine aj (N := 13) (l := [.agg #[.bool s, .string m]]) Tryz.func222 rfl rfl (by simp) ?_
   refine sr ?_
   refine cz hh [_,_] ?_
   intro b1 w1 hh
   refine aI (ae (sr ?_))
   refine cB hh 0 [_,_] ?_
   refine bA hh (ke s m _) rfl ?_
   intro w5 hh
   rw [hn]
   refine cj hh ?_
   intro b3 w3 hh
   refine bD hh 0 [_,_] ?_
   intro ws hh
   replace hh : Hp _ (.blk _ _ [_, _] _ :: _) _ := hh
   refine ae (ah (ao (sr (bB ?_))))
   refine bE hh 0 ?_
   refine aB (ae (cF (sr (bB ?_))))
   refine bE hh 0 ?_
   first | refine dt rfl rfl (by first | rfl | assumption | decide) (by decide) ?_ | refine dv rfl rfl (by first | assumption | decide) (by decide) ?_
   refine aB (ae (cT (sr (aI (ae (al (bP (aD ?_))))))))
   refine cn ?_
   exact ⟨by rw [np.1 h0]; rfl, hh.below⟩
  ·have h2 : 0 < iv s m := by
    have : iv s m ≠ 0 := fun h => h0 (np.2 h)
    omega
   refine aj (N := 13) (l := [.agg #[.bool s, .string m]]) Tryz.func222 rfl rfl (by simp) ?_
   refine sr ?_
   refine cz hh [_,_] ?_
   intro b1 w1 hh
   refine aI (ae (sr ?_))
   refine cB hh 0 [_,_] ?_
   refine bA hh (ke s m _) rfl ?_
   intro w5 hh
   rw [hn]
   refine cj hh ?_
   intro b3 w3 hh
   refine bD hh 0 [_,_] ?_
   intro ws hh
   replace hh : Hp _ (.blk _ _ [_, _] _ :: _) _ := hh
   refine ae (ah (ao (sr (bB ?_))))
   refine bE hh 0 ?_
   refine aB (ae (cF (sr (bB ?_))))
   refine bE hh 0 ?_
   first | refine dt rfl rfl (by first | rfl | assumption | decide) (by decide) ?_ | refine dv rfl rfl (by first | assumption | decide) (by decide) ?_
   refine aB (ae (cF (ak (aT (ai (sr (aI (ae (al ?_)))))))))
   refine cn ?_
   exact ⟨by rw [Int.sign_eq_one_of_pos h2], hh.below⟩
theorem dM (z : Int) : (iM z).size = (bH z.natAbs + 7) / 8 := gH _
def qf (s t : Bool) (a b : ByteArray) : Bool := if s = t then s else if bN a < bN b then t else s
theorem yV (s t : Bool) (a b : ByteArray) : iv (qf s t a b) (iM (iv s a + iv t b)) = iv s a + iv t b := by
 unfold iM iv
 rw [eC]
 unfold qf
 cases s <;> cases t <;> simp <;> (try split) <;> (try simp) <;> omega
theorem rO (s t : Bool) (a b : ByteArray) : iv (s != t) (iM (iv s a * iv t b)) = iv s a * iv t b := by
 rw [iM, Int.natAbs_mul, gD, gD]
 unfold iv
 rw [eC]
 cases s <;> cases t <;> simp [Int.mul_neg, Int.neg_mul]
theorem sZ (s t : Bool) (a b : ByteArray) (w : World) (ha : a.size ≤ 1000000000) (hb : b.size ≤ 1000000000) :
  Calls Tryz.prog 225 #[.agg #[.string a, .bool s], .agg #[.string b, .bool t]] w fun e w' => e = .returned (.agg #[.string (iM (iv s a + iv t b)), .bool (qf s t a b)]) ∧ Below w.heap.size w w' := by
 have hh := Hp.start w
 have hiv : ∀ (u : Bool) (n : Nat) (z : Int), (z = if u then -(n : Int) else n) → sN n = iM z := by
  intro u n z hz
  have h1 : z.natAbs = n := by rw [hz]; split <;> omega
  rw [iM, h1]
 by_cases hst : s = t
 ·subst hst
  have e1 := hiv s (bN a + bN b) (iv s a + iv s b) (by unfold iv; split <;> omega)
  refine aj (N := 41) (l := [.agg #[.string a, .bool s], .agg #[.string b, .bool s]]) Tryz.func225 rfl rfl (by simp) ?_
  refine sr ?_
  refine cz hh [_,_] ?_
  intro b2 w2 hh
  refine cz hh [_,_] ?_
  intro b3 w3 hh
  refine cj hh ?_
  intro b4 w4 hh
  refine ae (ah (sr (bB ?_)))
  refine bE hh 2 ?_
  refine bB ?_
  refine bE hh 1 ?_
  first | refine kf aF.out rfl rfl (by first | rfl | assumption) (by decide) ?_ | refine kj aF.out rfl rfl (by first | rfl | assumption | decide) (by decide) ?_ | refine s_eql_bool aF.out rfl rfl (by decide) ?_
  refine ae (cT (ah ?_))
  refine aU 8 [[(2, none)], [(12, some 0)], [(3, none)], [(14, some 2)], [(13, some 1), (15, some 3)], [(16, some 4)], [(2, none)], [(18, some 6)]] [(7, 19), (6, 18), (5, 17), (4, 16), (3, 15), (2, 14), (1, 13), (0, 12)] hh mixed (by kernel_rfl) ?_
  refine cw ?_
  refine dI 2 ?_
  refine cw ?_
  refine dI 1 ?_
  refine px [_,_] ?_
  refine bk (i := 5) (Is (.string (sN (bN a + bN b)))) Is.ext ?_ ?_
  ·intro ρ1 w1 hj hR
   obtain ⟨A16, c16, h16, s16⟩ := hR.1
   exact bU rfl (a3 ar.out (az h16 a7)) (qR A16 2 c16 [a, b] _ s16 (by omega) (by simp; omega)) (fun _ _ hq => ⟨_, hq.1, hq.2, rfl⟩)
  refine cw ?_
  refine dI 2 ?_
  refine a6 ?_
  intro f W hJ hV
  have hb_2 := hJ.bl
  obtain ⟨v19, v18, v17, v16, v15, v14, v13, v12, _⟩ := hV
  obtain ⟨A16, c16, e16, f16⟩ : Rows _ _ _ (f 4) W := v16
  replace hh := hJ.hp
  refine aK (a4 (aa v19 (aa v18 (aa v17 (aa e16 (aa v15 (aa v14 (aa v13 (aa v12 aM))))))))) ?_
  dsimp only [bX]
  clear e16 hJ
  refine eH [_,_] ?_
  refine bD hh 0 [_,_] ?_
  intro ws hh
  replace hh : Hp _ (.blk _ _ [_, _] _ :: _) _ := hh
  refine ae (al (aD ?_))
  refine gr (aH rfl (aG (vs := [_, _]) aA.out (hh.av (i := 0) (n := 2) rfl rfl) rfl) a9) ?_
  rw [e1, qf, if_pos rfl]
  exact ⟨rfl, hh.below⟩
 ·by_cases hlt : bN a < bN b
  ·have e1 := hiv t (bN b - bN a) (iv s a + iv t b) (by unfold iv; cases s <;> cases t <;> simp at hst ⊢ <;> omega)
   refine aj (N := 41) (l := [.agg #[.string a, .bool s], .agg #[.string b, .bool t]]) Tryz.func225 rfl rfl (by simp) ?_
   refine sr ?_
   refine cz hh [_,_] ?_
   intro b2 w2 hh
   refine cz hh [_,_] ?_
   intro b3 w3 hh
   refine cj hh ?_
   intro b4 w4 hh
   refine ae (ah (sr (bB ?_)))
   refine bE hh 2 ?_
   refine bB ?_
   refine bE hh 1 ?_
   first | refine kf aF.out rfl rfl (by first | rfl | assumption) (by decide) ?_ | refine kj aF.out rfl rfl (by first | rfl | assumption | decide) (by decide) ?_ | refine s_eql_bool aF.out rfl rfl (by decide) ?_
   refine ae (cF (ak (ai (ah (sr (bB ?_))))))
   refine bE hh 2 ?_
   refine bB ?_
   refine bE hh 1 ?_
   refine bA hh (nM a b _ ha hb) rfl ?_
   intro w25 hh
   rw [jw hlt]
   refine aW (ae (cT (aq ?_)))
   refine cB hh 1 [_,_] ?_
   refine cB hh 2 [_,_] ?_
   refine bD hh 2 [_,_] ?_
   intro ws hh
   replace hh : Hp _ (_ :: _ :: .blk _ _ [_, _] _ :: _) _ := hh
   refine bD hh 1 [_,_] ?_
   intro ws hh
   replace hh : Hp _ (_ :: .blk _ _ [_, _] _ :: _) _ := hh
   refine ae (sr (bB ?_))
   refine bE hh 2 ?_
   refine bB ?_
   refine bE hh 1 ?_
   refine bA hh (lb b a _ hb ha) rfl ?_
   intro w34 hh
   refine mT ?_
   refine dx ?_
   refine dx ?_
   refine aS (aB (ae (sr (mS (bB ?_)))))
   refine bE hh 2 ?_
   refine eH [_,_] ?_
   refine bD hh 0 [_,_] ?_
   intro ws hh
   replace hh : Hp _ (.blk _ _ [_, _] _ :: _) _ := hh
   refine ae (al ?_)
   refine gr (aH rfl (aG (vs := [_, _]) aA.out (hh.av (i := 0) (n := 2) rfl rfl) rfl) a9) ?_
   rw [e1, qf, if_neg hst, if_pos hlt]
   exact ⟨rfl, hh.below⟩
  ·have e1 := hiv s (bN a - bN b) (iv s a + iv t b) (by unfold iv; cases s <;> cases t <;> simp at hst ⊢ <;> omega)
   have hc : ¬ jh (bN a) (bN b) < 0 := by unfold jh; split <;> (try split) <;> omega
   refine aj (N := 41) (l := [.agg #[.string a, .bool s], .agg #[.string b, .bool t]]) Tryz.func225 rfl rfl (by simp) ?_
   refine sr ?_
   refine cz hh [_,_] ?_
   intro b2 w2 hh
   refine cz hh [_,_] ?_
   intro b3 w3 hh
   refine cj hh ?_
   intro b4 w4 hh
   refine ae (ah (sr (bB ?_)))
   refine bE hh 2 ?_
   refine bB ?_
   refine bE hh 1 ?_
   first | refine kf aF.out rfl rfl (by first | rfl | assumption) (by decide) ?_ | refine kj aF.out rfl rfl (by first | rfl | assumption | decide) (by decide) ?_ | refine s_eql_bool aF.out rfl rfl (by decide) ?_
   refine ae (cF (ak (ai (ah (sr (bB ?_))))))
   refine bE hh 2 ?_
   refine bB ?_
   refine bE hh 1 ?_
   refine bA hh (nM a b _ ha hb) rfl ?_
   intro w25 hh
   refine aW (ae (cF (ak (ai (sr (bB ?_))))))
   refine bE hh 2 ?_
   refine bB ?_
   refine bE hh 1 ?_
   refine bA hh (lb a b _ ha hb) rfl ?_
   intro w34 hh
   refine mT ?_
   refine dx ?_
   refine dx ?_
   refine aS (aB (ae (sr (mS (bB ?_)))))
   refine bE hh 2 ?_
   refine eH [_,_] ?_
   refine bD hh 0 [_,_] ?_
   intro ws hh
   replace hh : Hp _ (.blk _ _ [_, _] _ :: _) _ := hh
   refine ae (al ?_)
   refine gr (aH rfl (aG (vs := [_, _]) aA.out (hh.av (i := 0) (n := 2) rfl rfl) rfl) a9) ?_
   rw [e1, qf, if_neg hst, if_neg hlt]
   exact ⟨rfl, hh.below⟩
theorem qC (s t : Bool) (a b : ByteArray) (w : World) (ha : a.size ≤ 1000000000) (hb : b.size ≤ 1000000000) :
  Calls Tryz.prog 228 #[.agg #[.string a, .bool s], .agg #[.string b, .bool t]] w fun e w' => e = .returned (.agg #[.string (iM (iv s a * iv t b)), .bool (s != t)]) ∧ Below w.heap.size w w' := by
 have hh := Hp.start w
 have e0 : (iv s a * iv t b).natAbs = bN a * bN b := by rw [Int.natAbs_mul, gD, gD]
 have e1 : iM (iv s a * iv t b) = sN (bN a * bN b) := by rw [iM, e0]
 refine aj (N := 16) (l := [.agg #[.string a, .bool s], .agg #[.string b, .bool t]]) Tryz.func228 rfl rfl (by simp) ?_
 refine sr ?_
 refine cz hh [_,_] ?_
 intro b2 w2 hh
 refine cz hh [_,_] ?_
 intro b3 w3 hh
 refine cj hh ?_
 intro b4 w4 hh
 refine ae (ah ?_)
 refine aU 10 [[(2, none)], [(5, some 0)], [(3, none)], [(7, some 2)], [(6, some 1), (8, some 3)], [(2, none)], [(10, some 5)], [(3, none)], [(12, some 7)], [(11, some 6), (13, some 8)]] [(9, 14), (8, 13), (7, 12), (6, 11), (5, 10), (4, 9), (3, 8), (2, 7), (1, 6), (0, 5)] hh mixed (by kernel_rfl) ?_
 refine cw ?_
 refine dI 2 ?_
 refine cw ?_
 refine dI 1 ?_
 refine dC (fun _ hj => rk a b _ ha hb) ?_
 refine cw ?_
 refine dI 2 ?_
 refine cw ?_
 refine dI 1 ?_
 first | refine bm (i := 9) (fun ρ1 w1 hj hR => qE aF.out (show ρ1 11 = Value.bool _ from hR.1) (show ρ1 13 = Value.bool _ from hR.2.1) (by first | rfl | assumption)) ?_ | refine bm (i := 9) (fun ρ1 w1 hj hR => qG aF.out (show ρ1 11 = Value.bool _ from hR.1) (show ρ1 13 = Value.bool _ from hR.2.1) (by first | assumption | decide)) ?_ | refine bm (i := 9) (fun ρ1 w1 hj hR => jv aF.out (show ρ1 11 = Value.bool _ from hR.1) (show ρ1 13 = Value.bool _ from hR.2.1)) ?_
 refine a6 ?_
 intro f W hJ hV
 have hb_1 := hJ.bl
 obtain ⟨v14, v13, v12, v11, v10, v9, v8, v7, v6, v5, _⟩ := hV
 replace hh := hJ.hp
 refine aK (a4 (aa v14 (aa v13 (aa v12 (aa v11 (aa v10 (aa v9 (aa v8 (aa v7 (aa v6 (aa v5 aM))))))))))) ?_
 dsimp only [bX]
 clear hJ
 refine eH [_,_] ?_
 refine bD hh 0 [_,_] ?_
 intro ws hh
 replace hh : Hp _ (.blk _ _ [_, _] _ :: _) _ := hh
 refine ae (al ?_)
 refine gr (aH rfl (aG (vs := [_, _]) aA.out (hh.av (i := 0) (n := 2) rfl rfl) rfl) a9) ?_
 rw [e1]
 exact ⟨rfl, hh.below⟩
theorem ma (n : Int) (w : World) (h1 : -9223372036854775808 ≤ n) (h2 : n ≤ 9223372036854775807) :
  Calls Tryz.prog 167 #[.int .i64 n] w fun e w' => e = .returned (.agg #[.bool (iN n), .string (iM n)]) ∧ Below w.heap.size w w' := by
 have hh := Hp.start w
 by_cases h0 : n < 0
 ·have e1 : iv true (sN n.natAbs) = n := by unfold iv; rw [eC, if_pos rfl]; omega
  have hw : IntKind.u64.wrap n = ((18446744073709551616 - n.natAbs : Nat) : Int) := by
   rw [show n = ((18446744073709551616 - n.natAbs : Nat) : Int) + -((18446744073709551616 : Nat) : Int) by omega]
   have := UK.wrap_add (k := .u64) (((18446744073709551616 - n.natAbs : Nat) : Int) + -((18446744073709551616 : Nat) : Int))
   rw [← this, Int.neg_add_cancel_right, UK.lK (by omega)]
   omega
  have hn : (18446744073709551616 - (18446744073709551616 - n.natAbs)) % 18446744073709551616 = n.natAbs := by omega
  refine aj (N := 16) (l := [.int .i64 n]) Tryz.func167 rfl rfl (by simp) ?_
  refine sr ?_
  refine cj hh ?_
  intro b2 w2 hh
  refine ae (ah (sr (mI ?_)))
  refine aW (ae (cT (sr (mI ?_))))
  refine oB aF.out aF.out rfl (by decide) ?_
  rw [hw]
  refine xy rfl (by omega) (by decide) ?_
  rw [hn]
  skip
  refine bA hh (mX n.natAbs _ (by omega)) rfl ?_
  intro w8 hh
  refine eH [_,_] ?_
  refine bA hh (dq true (sN n.natAbs) _) rfl ?_
  intro w10 hh
  rw [e1]
  refine bD hh 0 [_,_] ?_
  intro ws hh
  replace hh : Hp _ (.blk _ _ [_, _] _ :: _) _ := hh
  refine ae (al (aD ?_))
  refine gr (aH rfl (aG (vs := [_, _]) aA.out (hh.av (i := 0) (n := 2) rfl rfl) rfl) a9) ?_
  exact ⟨rfl, hh.below⟩
 ·obtain ⟨m, rfl⟩ := Int.eq_ofNat_of_zero_le (by omega : 0 ≤ n)
  have e1 : iv false (sN m) = m := by unfold iv; rw [eC]; simp
  have hm : m < 18446744073709551616 := by omega
  refine aj (N := 16) (l := [.int .i64 (m : Int)]) Tryz.func167 rfl rfl (by simp) ?_
  refine sr ?_
  refine cj hh ?_
  intro b2 w2 hh
  refine ae (ah (sr (mI ?_)))
  refine aW (ae (cF (ak (ai (sr (mI ?_))))))
  first | refine di aF.out aF.out rfl (by first | assumption | omega) (by decide) ?_ | refine ff aF.out aF.out rfl (by decide) ?_
  refine bA hh (mX m _ hm) rfl ?_
  intro w13 hh
  refine eH [_,_] ?_
  refine bA hh (dq false (sN m) _) rfl ?_
  intro w15 hh
  rw [e1]
  refine bD hh 0 [_,_] ?_
  intro ws hh
  replace hh : Hp _ (.blk _ _ [_, _] _ :: _) _ := hh
  refine ae (al ?_)
  refine gr (aH rfl (aG (vs := [_, _]) aA.out (hh.av (i := 0) (n := 2) rfl rfl) rfl) a9) ?_
  exact ⟨rfl, hh.below⟩
end Go.Proofs.YtaapkaefelhfcaaGreatDoor
namespace Go.Proofs.YtaapkaefelhfcaaGreatDoor
open Go.RowKit
structure IR where
 neg : Bool
 bu : ByteArray
def IR.cells (a : IR) : List Value := [.bool a.neg, .string a.bu]
def IR.v (a : IR) : Int := iv a.neg a.bu
def iR (z : Int) : IR := ⟨iN z, iM z⟩
theorem BQ (z : Int) : (iR z).v = z := fx z
theorem IR.len (a : IR) : a.cells.length = 2 := rfl
theorem jB (x y : Int) : bH (x + y).natAbs ≤ max (bH x.natAbs) (bH y.natAbs) + 1 := by
 apply dn
 have h1 := cX x.natAbs
 have h2 := cX y.natAbs
 have h3 : 2 ^ bH x.natAbs ≤ 2 ^ max (bH x.natAbs) (bH y.natAbs) := Nat.pow_le_pow_right (by omega) (Nat.le_max_left _ _)
 have h4 : 2 ^ bH y.natAbs ≤ 2 ^ max (bH x.natAbs) (bH y.natAbs) := Nat.pow_le_pow_right (by omega) (Nat.le_max_right _ _)
 rw [Nat.pow_succ]
 omega
theorem hF (s : Bool) (m : ByteArray) : bH (iv s m).natAbs ≤ 8 * m.size := by rw [gD]; exact eI m
theorem wv (l : List Int) (x : Int) : (l ++ [x]).sum = l.sum + x := by simp
theorem oG (L : Option Addr) (n c : Nat) (l : List IR) (w : World) (hS : Sl w L n 2 (aP IR.cells l)) (hn : n ≤ 1000000) (hs : ∀ s ∈ l, s.bu.size ≤ 100000000) :
  Calls Tryz.prog 165 #[.slice L n c] w fun e w' => e = .returned (.agg #[.bool (iN (l.map IR.v).sum), .string (iM (l.map IR.v).sum)]) ∧ Below w.heap.size w w' := by
 have hl := hS.cx IR.len (by omega)
 have hh := Hp.start w
 refine aj (N := 19) (l := [.slice L n c]) Tryz.func165 rfl rfl (by simp) ?_
 refine sr ?_
 refine cj hh ?_
 intro b2 w2 hh
 refine ae (sr ?_)
 refine cj hh ?_
 intro b3 w3 hh
 refine ae (ah (sr (mL (a0 (mI (ae (ao ?_)))))))
 refine bs [5, 8, 9, 10, 11, 12, 13, 14, 15, 16] 8
  (fun j w' => ∃ (i : Nat) (u : Bool) (S : Int), i ≤ n ∧ j = .int .i64 i ∧ S = ((l.take i).map IR.v).sum ∧ iv u (iM S) = S ∧ bH S.natAbs ≤ 800000000 + i ∧ Hp w [.blk b3 216 [.string (iM S), .bool u] (0, 0), .blk b2 27 [.bool false, .string (ByteArray.mk #[])] (0, 0)] w')
  (fun j _ => n - (intOf j).toNat) ?_ ?_
 ·exact ⟨0, false, 0, Nat.zero_le _, rfl, rfl, by rw [iM]; exact congrArg _ (eC 0), by simp [jb], by rw [iM, Int.natAbs_zero, g7]; exact hh⟩
 ·clear hh
  rintro ρ' j w' ⟨i, u, S, hi, rfl, hS2, hu, hb, hh⟩
  by_cases hlt : i < n
  ·obtain ⟨x, hx⟩ := aE (l := l) (k := i) (by omega)
   obtain ⟨ad, rfl, hr⟩ := hS.at_ (by omega)
   have hxs := hs x (List.mem_of_getElem? hx)
   have hS3 : ((l.take (i + 1)).map IR.v).sum = S + x.v := by rw [aN hx, List.map_append, List.map_singleton, wv, hS2]
   have hms : (iM S).size ≤ 1000000000 := by rw [dM]; omega
   have hbx := hF x.neg x.bu
   have hba := jB S x.v
   have hpl := yV u x.neg (iM S) x.bu
   rw [hu] at hpl
   have hwc := fun w1 => sZ u x.neg (iM S) x.bu w1 hms (by omega)
   rw [hu] at hwc
   refine sr ?_
   refine aW (ae (ah (cT (ak (ai (ah (ao (sr ?_))))))))
   refine aQ (k := i) aF.out aA.size rfl rfl (by omega) (by omega) (by decide) ?_
   refine bR (vs := [_, _]) aA.out rfl (((hr.ext hh.below).recAt IR.len hx)) rfl (by decide) ?_
   refine cj hh ?_
   intro b5 w5 hh
   refine bD hh 0 [_,_] ?_
   intro ws hh
   replace hh : Hp _ (.blk _ _ [_, _] _ :: _) _ := hh
   refine ae ?_
   refine aU 3 [[(3, none)], [(5, none)], [(13, some 1)]] [(2, 14), (1, 13), (0, 12)] hh mixed (by kernel_rfl) ?_
   refine dZ 1 [_,_] ?_
   refine dZ 0 [_,_] ?_
   refine dC (fun _ hj => kz x.neg x.bu _) ?_
   refine a6 ?_
   intro f W hJ hV
   have hb_5 := hJ.bl
   obtain ⟨v14, v13, v12, _⟩ := hV
   replace hh := hJ.hp
   refine aK (a4 (aa v14 (aa v13 (aa v12 aM)))) ?_
   dsimp only [bX]
   clear hJ
   refine bA hh (hwc _) rfl ?_
   intro w15 hh
   refine bD hh 1 [_,_] ?_
   intro ws hh
   replace hh : Hp _ (_ :: .blk _ _ [_, _] _ :: _) _ := hh
   refine aC (aT (ai (aq ?_)))
   refine bL (mI (aC (ai ?_)))
   replace hh := hh.sub (List.sublist_cons_self _ _)
   refine ⟨⟨i + 1, _, _, by omega, rfl, hS3.symm, hpl, by unfold IR.v at hba ⊢; omega, hh⟩, by show n - (i + 1) < n - i; omega, ?_⟩
   (repeat (first | exact aw _ _ _ | refine ax rfl ?_ | refine au rfl ?_))
  ·refine sr ?_
   refine aW (ae (ah (cF ?_)))
   refine aO ?_
   refine ay (ay (a8 (ai (sr ?_))))
   refine cB hh 0 [_,_] ?_
   refine bA hh (dq u (iM S) _) rfl ?_
   intro w18 hh
   rw [hu]
   refine bD hh 1 [_,_] ?_
   intro ws hh
   replace hh : Hp _ (_ :: .blk _ _ [_, _] _ :: _) _ := hh
   refine ae (al ?_)
   refine gr (aH rfl (aG (vs := [_, _]) aA.out (hh.av (i := 1) (n := 2) rfl rfl) rfl) a9) ?_
   rw [List.take_of_length_le (by omega)] at hS2
   rw [hS2]
   exact ⟨rfl, hh.below⟩
theorem sD (s : Bool) (b : ByteArray) : (iM (-(iv s b))).size ≤ b.size := by
 have := hF s b
 rw [dM, Int.natAbs_neg]; omega
theorem u2 (s t : Bool) (a b : ByteArray) (w : World) (ha : a.size ≤ 100000000) (hb : b.size ≤ 100000000) :
  Calls Tryz.prog 255 #[.agg #[.bool s, .string a], .agg #[.bool t, .string b]] w fun e w' => e = .returned (.agg #[.bool (iN (iv s a - iv t b)), .string (iM (iv s a - iv t b))]) ∧ Below w.heap.size w w' := by
 have hh := Hp.start w
 have h1 := sD t b
 have e1 : ([IR.mk s a, iR (-(iv t b))].map IR.v).sum = iv s a - iv t b := by
  simp only [List.map_cons, List.map_nil, List.sum_cons, List.sum_nil, BQ]
  simp only [IR.v]; omega
 refine aj (N := 10) (l := [.agg #[.bool s, .string a], .agg #[.bool t, .string b]]) Tryz.func255 rfl rfl (by simp) ?_
 refine sr ?_
 refine cz hh [_,_] ?_
 intro b2 w2 hh
 refine cz hh [_,_] ?_
 intro b3 w3 hh
 refine cj hh ?_
 intro b4 w4 hh
 refine ae (ah ?_)
 refine aU 3 [[(2, none)], [(3, none)], [(6, some 1)]] [(2, 7), (1, 6), (0, 5)] hh mixed (by kernel_rfl) ?_
 refine dZ 2 [_,_] ?_
 refine dZ 1 [_,_] ?_
 refine dC (fun _ hj => uG t b _) ?_
 refine a6 ?_
 intro f W hJ hV
 have hb_1 := hJ.bl
 obtain ⟨v7, v6, v5, _⟩ := hV
 replace hh := hJ.hp
 refine aK (a4 (aa v7 (aa v6 (aa v5 aM)))) ?_
 dsimp only [bX]
 clear hJ
 refine bO hh (cs := [_, _, _, _]) aF.out aA.out (br (ez rfl) (br (ez rfl) ct)) rfl rfl (by decide) (by decide) (by decide) rfl (by decide) ?_
 intro b8 w8 hh
 refine bA hh (oG _ 2 _ [IR.mk s a, iR (-(iv t b))] _ (hh.aJ (i := 0) rfl) (by omega) (by simp [iR]; omega)) rfl ?_
 intro w9 hh
 rw [e1]
 refine bD hh 1 [_,_] ?_
 intro ws hh
 replace hh : Hp _ (_ :: .blk _ _ [_, _] _ :: _) _ := hh
 refine ae (al ?_)
 refine gr (aH rfl (aG (vs := [_, _]) aA.out (hh.av (i := 1) (n := 2) rfl rfl) rfl) a9) ?_
 exact ⟨rfl, hh.below⟩
theorem sJ (a b : Nat) : bH (a * b) ≤ bH a + bH b := by
 apply dn
 rw [Nat.pow_add]
 exact Nat.mul_lt_mul'' (cX a) (cX b)
theorem jz (a b : Int) : bH (a * b).natAbs ≤ bH a.natAbs + bH b.natAbs := by rw [Int.natAbs_mul]; exact sJ _ _
def j2 : List Int → Int
 | [] => 1
 | x :: l => x * j2 l
theorem ux (l : List Int) (x : Int) : j2 (l ++ [x]) = j2 l * x := by
 induction l with
 | nil => simp [j2]
 | cons y l ih => simp only [List.cons_append, j2, ih, Int.mul_assoc]
theorem sA (l : List Nat) (i : Nat) : (l.take i).sum ≤ l.sum := by
 rw [← List.sum_append_nat.symm.trans (congrArg List.sum (List.take_append_drop i l))]; omega
theorem rT : bH 1 = 1 := by decide +kernel
theorem uO (L : Option Addr) (n c : Nat) (l : List IR) (w : World) (hS : Sl w L n 2 (aP IR.cells l)) (hn : n ≤ 1000000) (hs : (l.map fun a => a.bu.size).sum ≤ 100000000) :
  Calls Tryz.prog 166 #[.slice L n c] w fun e w' => e = .returned (.agg #[.bool (iN (j2 (l.map IR.v))), .string (iM (j2 (l.map IR.v)))]) ∧ Below w.heap.size w w' := by
 have hl := hS.cx IR.len (by omega)
 have hh := Hp.start w
 have hsum := sA (l.map fun a => a.bu.size)
 refine aj (N := 21) (l := [.slice L n c]) Tryz.func166 rfl rfl (by simp) ?_
 refine sr ?_
 refine cj hh ?_
 intro b2 w2 hh
 refine ae (sr ?_)
 refine bA hh (ma 1 _ (by omega) (by omega)) rfl ?_
 intro w6 hh
 refine bA hh (kz _ _ _) rfl ?_
 intro w7 hh
 refine cj hh ?_
 intro b3 w3 hh
 refine bD hh 0 [_,_] ?_
 intro ws hh
 replace hh : Hp _ (.blk _ _ [_, _] _ :: _) _ := hh
 refine ae (ah (sr (mL (a0 (mI (ae (ao ?_)))))))
 refine bs [5, 10, 11, 12, 13, 14, 15, 16, 17, 18] 10
  (fun j w' => ∃ (i : Nat) (u : Bool) (S : Int), i ≤ n ∧ j = .int .i64 i ∧ S = j2 ((l.take i).map IR.v) ∧ iv u (iM S) = S ∧ bH S.natAbs ≤ 1 + 8 * ((l.map fun a => a.bu.size).take i).sum ∧ Hp w [.blk b3 216 [.string (iM S), .bool u] (0, 0), .blk b2 27 [.bool false, .string (ByteArray.mk #[])] (0, 0)] w')
  (fun j _ => n - (intOf j).toNat) ?_ ?_
 ·exact ⟨0, _, 1, Nat.zero_le _, rfl, rfl, fx 1, by rw [Int.natAbs_one, rT]; omega, hh⟩
 ·clear hh
  rintro ρ' j w' ⟨i, u, S, hi, rfl, hS2, hu, hb, hh⟩
  by_cases hlt : i < n
  ·obtain ⟨x, hx⟩ := aE (l := l) (k := i) (by omega)
   obtain ⟨ad, rfl, hr⟩ := hS.at_ (by omega)
   have hsi := hsum i
   have hsi2 := hsum (i + 1)
   have hsz : ((l.map fun a => a.bu.size).take (i + 1)).sum = ((l.map fun a => a.bu.size).take i).sum + x.bu.size := by
    rw [aN (x := x.bu.size) (by rw [List.getElem?_map, hx]; rfl), mA]
   have hS3 : j2 ((l.take (i + 1)).map IR.v) = S * x.v := by rw [aN hx, List.map_append, List.map_singleton, ux, hS2]
   have hms : (iM S).size ≤ 1000000000 := by rw [dM]; omega
   have hbx := hF x.neg x.bu
   have hba := jz S x.v
   have hpl := rO u x.neg (iM S) x.bu
   rw [hu] at hpl
   have hwc := fun w1 => qC u x.neg (iM S) x.bu w1 hms (by omega)
   rw [hu] at hwc
   refine sr ?_
   refine aW (ae (ah (cT (ak (ai (ah (ao (sr ?_))))))))
   refine aQ (k := i) aF.out aA.size rfl rfl (by omega) (by omega) (by decide) ?_
   refine bR (vs := [_, _]) aA.out rfl (((hr.ext hh.below).recAt IR.len hx)) rfl (by decide) ?_
   refine cj hh ?_
   intro b5 w5 hh
   refine bD hh 0 [_,_] ?_
   intro ws hh
   replace hh : Hp _ (.blk _ _ [_, _] _ :: _) _ := hh
   refine ae ?_
   refine aU 3 [[(3, none)], [(5, none)], [(15, some 1)]] [(2, 16), (1, 15), (0, 14)] hh mixed (by kernel_rfl) ?_
   refine dZ 1 [_,_] ?_
   refine dZ 0 [_,_] ?_
   refine dC (fun _ hj => kz x.neg x.bu _) ?_
   refine a6 ?_
   intro f W hJ hV
   have hb_5 := hJ.bl
   obtain ⟨v16, v15, v14, _⟩ := hV
   replace hh := hJ.hp
   refine aK (a4 (aa v16 (aa v15 (aa v14 aM)))) ?_
   dsimp only [bX]
   clear hJ
   refine bA hh (hwc _) rfl ?_
   intro w17 hh
   refine bD hh 1 [_,_] ?_
   intro ws hh
   replace hh : Hp _ (_ :: .blk _ _ [_, _] _ :: _) _ := hh
   refine aC (aT (ai (aq ?_)))
   refine bL (mI (aC (ai ?_)))
   replace hh := hh.sub (List.sublist_cons_self _ _)
   refine ⟨⟨i + 1, _, _, by omega, rfl, hS3.symm, hpl, by unfold IR.v at hba ⊢; omega, hh⟩, by show n - (i + 1) < n - i; omega, ?_⟩
   (repeat (first | exact aw _ _ _ | refine ax rfl ?_ | refine au rfl ?_))
  ·refine sr ?_
   refine aW (ae (ah (cF ?_)))
   refine aO ?_
   refine ay (ay (a8 (ai (sr ?_))))
   refine cB hh 0 [_,_] ?_
   refine bA hh (dq u (iM S) _) rfl ?_
   intro w20 hh
   rw [hu]
   refine bD hh 1 [_,_] ?_
   intro ws hh
   replace hh : Hp _ (_ :: .blk _ _ [_, _] _ :: _) _ := hh
   refine ae (al ?_)
   refine gr (aH rfl (aG (vs := [_, _]) aA.out (hh.av (i := 1) (n := 2) rfl rfl) rfl) a9) ?_
   rw [List.take_of_length_le (by omega)] at hS2
   rw [hS2]
   exact ⟨rfl, hh.below⟩
theorem sj (M k : Nat) (h : 2 ^ k ∣ M) : -((M / 2 ^ k : Nat) : Int) = -(M : Int) / 2 ^ k := by
 obtain ⟨q, rfl⟩ := h
 have hp : (0 : Int) < 2 ^ k := Int.pow_pos (by omega)
 rw [Nat.mul_div_cancel_left _ (Nat.pow_pos (by omega)), Int.natCast_mul, ← Int.mul_neg, Int.natCast_pow]
 exact (Int.mul_ediv_cancel_left _ (by exact Int.ne_of_gt hp)).symm
theorem qT (M k : Nat) (h : ¬ 2 ^ k ∣ M) : -((M / 2 ^ k : Nat) : Int) - 1 = -(M : Int) / 2 ^ k := by
 have hp : (0 : Int) < 2 ^ k := Int.pow_pos (by omega)
 have h1 := Nat.div_add_mod M (2 ^ k)
 have h2 := Nat.mod_lt M (Nat.pow_pos (n := k) (show 0 < 2 by omega))
 have h3 : M % 2 ^ k ≠ 0 := fun h0 => h (Nat.dvd_of_mod_eq_zero h0)
 have hc : ((2 ^ k : Nat) : Int) = 2 ^ k := by simp
 symm
 rw [Int.ediv_eq_iff_of_pos hp, ← hc]
 have h4 : (M : Int) = (2 ^ k : Nat) * (M / 2 ^ k : Nat) + (M % 2 ^ k : Nat) := by rw [← Int.natCast_mul, ← Int.natCast_add, h1]
 generalize hK : ((2 ^ k : Nat) : Int) = K at *
 generalize ((M / 2 ^ k : Nat) : Int) = q at *
 have e : (-q - 1) * K = -(K * q) - K := by rw [Int.sub_mul, Int.neg_mul, Int.mul_comm q]; omega
 have e2 : (-q - 1 + 1) * K = -(K * q) := by rw [Int.sub_add_cancel, Int.neg_mul, Int.mul_comm]
 omega
theorem x5 {M k : Nat} (h0 : M ≠ 0) : 2 ^ k ∣ M ↔ k ≤ tz M := by
 obtain ⟨m, hm⟩ := nx h0
 generalize tz M = t at *
 constructor
 ·intro h
  rcases Nat.lt_or_ge t k with hlt | hge
  ·exfalso
   obtain ⟨q, hq⟩ := h
   rw [hm, show k = t + (1 + (k - t - 1)) by omega, Nat.pow_add, Nat.pow_add, Nat.mul_assoc] at hq
   have := Nat.eq_of_mul_eq_mul_left (Nat.pow_pos (by omega)) hq
   rw [Nat.pow_one, Nat.mul_assoc] at this
   omega
  ·exact hge
 ·intro h
  rw [hm]
  exact Nat.dvd_trans (Nat.pow_dvd_pow 2 h) (Nat.dvd_mul_right _ _)
end Go.Proofs.YtaapkaefelhfcaaGreatDoor
namespace Go.Proofs.YtaapkaefelhfcaaGreatDoor
open Go.RowKit
theorem Be (s : Bool) (a : ByteArray) (m : Nat) : iv s (sN (bN a * 2 ^ m)) = iv s a * 2 ^ m := by
 unfold iv
 rw [eC]
 cases s <;> simp [Int.natCast_mul, Int.neg_mul]
theorem uf (s : Bool) (a : ByteArray) (m : Nat) (w : World) (ha : a.size ≤ 100000000) (hm : m ≤ 1000000000) :
  Calls Tryz.prog 224 #[.agg #[.bool s, .string a], .int .i64 (m : Int)] w fun e w' => e = .returned (.agg #[.bool (iN (iv s a * 2 ^ m)), .string (iM (iv s a * 2 ^ m))]) ∧ Below w.heap.size w w' := by
 have hh := Hp.start w
 refine aj (N := 47) (l := [.agg #[.bool s, .string a], .int .i64 (m : Int)]) Tryz.func224 rfl rfl (by simp) ?_
 refine sr ?_
 refine cz hh [_,_] ?_
 intro b2 w2 hh
 refine cj hh ?_
 intro b4 w4 hh
 refine ae (ah (sr (mI ?_)))
 refine dg (ae (cT (ah ?_)))
 refine aU 6 [[(2, none)], [(8, some 0)], [(1, none)], [(9, some 1), (10, some 2)], [(2, none)], [(12, some 4)]] [(5, 13), (4, 12), (3, 11), (2, 10), (1, 9), (0, 8)] hh mixed (by kernel_rfl) ?_
 refine cw ?_
 refine dI 1 ?_
 refine ej ?_
 refine dC (fun _ hj => qD a m _ (by omega) (by omega)) ?_
 refine cw ?_
 refine dI 1 ?_
 refine a6 ?_
 intro f W hJ hV
 have hb_2 := hJ.bl
 obtain ⟨v13, v12, v11, v10, v9, v8, _⟩ := hV
 replace hh := hJ.hp
 refine aK (a4 (aa v13 (aa v12 (aa v11 (aa v10 (aa v9 (aa v8 aM))))))) ?_
 dsimp only [bX]
 clear hJ
 refine eH [_,_] ?_
 refine bA hh (dq s (sN (bN a * 2 ^ m)) _) rfl ?_
 intro w15 hh
 rw [Be]
 refine bD hh 0 [_,_] ?_
 intro ws hh
 replace hh : Hp _ (.blk _ _ [_, _] _ :: _) _ := hh
 refine ae (al (aD ?_))
 refine gr (aH rfl (aG (vs := [_, _]) aA.out (hh.av (i := 0) (n := 2) rfl rfl) rfl) a9) ?_
 exact ⟨rfl, hh.below⟩
theorem tX (s : Bool) (a : ByteArray) (m : Nat) (w : World) (hT : gW w) (ha : a.size ≤ 100000000) (h0 : 0 < m) (hm : m ≤ 1000000000000) :
  Calls Tryz.prog 224 #[.agg #[.bool s, .string a], .int .i64 (-(m : Int))] w fun e w' => e = .returned (.agg #[.bool (iN (iv s a / 2 ^ m)), .string (iM (iv s a / 2 ^ m))]) ∧ Below w.heap.size w w' := by
 have hh := Hp.start w
 have e1 : (if (-1099511627776 : Int) > -(m : Int) then -1099511627776 else -(m : Int)) = -(m : Int) := if_neg (by omega)
 have e2 : -(-(m : Int)) = (m : Int) := by omega
 have hcs : ∀ w1, Calls Tryz.prog 253 #[.string a, .int .i64 (-(-(m : Int)))] w1 fun e w' => e = .returned (.string (sN (bN a / 2 ^ m))) ∧ Below w1.heap.size w1 w' := fun w1 => by
  rw [e2]; exact re a m w1 (by omega) (by omega)
 cases s with
 | false =>
  have e3 : iv false (sN (bN a / 2 ^ m)) = iv false a / 2 ^ m := by
   unfold iv
   rw [eC]
   simp
  refine aj (N := 47) (l := [.agg #[.bool false, .string a], .int .i64 (-(m : Int))]) Tryz.func224 rfl rfl (by simp) ?_
  refine sr ?_
  refine cz hh [_,_] ?_
  intro b2 w2 hh
  refine cj hh ?_
  intro b4 w4 hh
  refine ae (ah (sr (mI ?_)))
  refine dg (ae (cF (ak (ai (sr (mI ?_))))))
  refine jV rfl rfl (by decide) ?_
  refine aI (ae (ah ?_))
  rw [e1]
  refine aU 10 [[(2, none)], [(18, some 0)], [(1, none)], [(20, some 2)], [(19, some 1), (21, some 3)], [(2, none)], [(23, some 5)], [(22, some 4), (24, some 6)], [(25, some 7)], []] [(9, 5), (8, 26), (7, 25), (6, 24), (5, 23), (4, 22), (3, 21), (2, 20), (1, 19), (0, 18)] hh mixed (by kernel_rfl) ?_
  refine cw ?_
  refine dI 1 ?_
  refine ej ?_
  refine bm (i := 3) (fun ρ1 w1 hj hR => nJ (show ρ1 20 = Value.int _ _ from hR.1) (by omega) (by omega)) ?_
  refine dC (fun _ hj => hcs _) ?_
  refine cw ?_
  refine dI 1 ?_
  refine dB [_,_] ?_
  refine dC (fun _ hj => dq false (sN (bN a / 2 ^ m)) _) ?_
  refine bk (i := 9) (cH _ 27 _) cH.ext (fun ρ1 w1 hj hR => fq aA.out hj.bl (fun v w2 h hb => ⟨hb, h⟩)) ?_
  refine a6 ?_
  intro f W hJ hV
  have hb_4 := hJ.bl
  obtain ⟨v5, v26, v25, v24, v23, v22, v21, v20, v19, v18, _⟩ := hV
  obtain ⟨b5, e5, hl5, hc5⟩ : cH _ _ _ (f 9) W := v5
  replace hh := hJ.newVar hh hl5 hc5
  refine aK (a4 (aa e5 (aa v26 (aa v25 (aa v24 (aa v23 (aa v22 (aa v21 (aa v20 (aa v19 (aa v18 aM))))))))))) ?_
  dsimp only [bX]
  clear e5 hJ
  rw [e3]
  refine bD hh 0 [_,_] ?_
  intro ws hh
  replace hh : Hp _ (.blk _ _ [_, _] _ :: _) _ := hh
  refine ae (ah (sr (bB ?_)))
  refine bE hh 2 ?_
  refine mB ?_
  first | refine gS ?_ | (refine gT ?_; refine bB ?_) | refine gV ?_
  first | refine gS ?_ | (refine gT ?_; refine bE hh 2 ?_) | refine gV ?_
  refine cd (by decide) rfl rfl (by decide) ?_
  first | refine gS ?_ | (refine gT ?_; refine ck ?_) | refine gV ?_
  first | refine cS ?_ | refine cU ?_
  refine mB ?_
  first | refine gS ?_ | (refine gT ?_; refine bB ?_) | refine gV ?_
  first | refine gS ?_ | (refine gT ?_; refine bE hh 2 ?_) | refine gV ?_
  refine cd (by decide) rfl rfl (by decide) ?_
  first | refine gS ?_ | (refine gT ?_; refine mI ?_) | refine gV ?_
  first | refine gS ?_ | (refine gT ?_; refine mh rfl (by omega) (by omega) (by decide) ?_) | refine gV ?_
  first | refine gS ?_ | (refine gT ?_; refine aW ?_) | refine gV ?_
  first | refine cS ?_ | refine cU ?_
  refine ae (cF (ak (ai (sr ?_))))
  refine cB hh 0 [_,_] ?_
  refine bD hh 1 [_,_] ?_
  intro ws hh
  replace hh : Hp _ (_ :: .blk _ _ [_, _] _ :: _) _ := hh
  refine ae (al ?_)
  refine gr (aH rfl (aG (vs := [_, _]) aA.out (hh.av (i := 1) (n := 2) rfl rfl) rfl) a9) ?_
  exact ⟨rfl, hh.below⟩
 | true =>
  have hb := eI a
  have e4 : iv true (sN (bN a / 2 ^ m)) = -((bN a / 2 ^ m : Nat) : Int) := by
   unfold iv
   rw [eC, if_pos rfl]
  have e5 : iv true a = -(bN a : Int) := by unfold iv; rw [if_pos rfl]
  by_cases hz : bN a = 0
  ·have e3 : iv true (sN (bN a / 2 ^ m)) = iv true a / 2 ^ m := by
    rw [e4, e5, hz]; simp
   refine aj (N := 47) (l := [.agg #[.bool true, .string a], .int .i64 (-(m : Int))]) Tryz.func224 rfl rfl (by simp) ?_
   refine sr ?_
   refine cz hh [_,_] ?_
   intro b2 w2 hh
   refine cj hh ?_
   intro b4 w4 hh
   refine ae (ah (sr (mI ?_)))
   refine dg (ae (cF (ak (ai (sr (mI ?_))))))
   refine jV rfl rfl (by decide) ?_
   refine aI (ae (ah ?_))
   rw [e1]
   refine aU 10 [[(2, none)], [(18, some 0)], [(1, none)], [(20, some 2)], [(19, some 1), (21, some 3)], [(2, none)], [(23, some 5)], [(22, some 4), (24, some 6)], [(25, some 7)], []] [(9, 5), (8, 26), (7, 25), (6, 24), (5, 23), (4, 22), (3, 21), (2, 20), (1, 19), (0, 18)] hh mixed (by kernel_rfl) ?_
   refine cw ?_
   refine dI 1 ?_
   refine ej ?_
   refine bm (i := 3) (fun ρ1 w1 hj hR => nJ (show ρ1 20 = Value.int _ _ from hR.1) (by omega) (by omega)) ?_
   refine dC (fun _ hj => hcs _) ?_
   refine cw ?_
   refine dI 1 ?_
   refine dB [_,_] ?_
   refine dC (fun _ hj => dq true (sN (bN a / 2 ^ m)) _) ?_
   refine bk (i := 9) (cH _ 27 _) cH.ext (fun ρ1 w1 hj hR => fq aA.out hj.bl (fun v w2 h hb => ⟨hb, h⟩)) ?_
   refine a6 ?_
   intro f W hJ hV
   have hb_4 := hJ.bl
   obtain ⟨v5, v26, v25, v24, v23, v22, v21, v20, v19, v18, _⟩ := hV
   obtain ⟨b5, e5, hl5, hc5⟩ : cH _ _ _ (f 9) W := v5
   replace hh := hJ.newVar hh hl5 hc5
   refine aK (a4 (aa e5 (aa v26 (aa v25 (aa v24 (aa v23 (aa v22 (aa v21 (aa v20 (aa v19 (aa v18 aM))))))))))) ?_
   dsimp only [bX]
   clear e5 hJ
   rw [e3]
   refine bD hh 0 [_,_] ?_
   intro ws hh
   replace hh : Hp _ (.blk _ _ [_, _] _ :: _) _ := hh
   refine ae (ah (sr (bB ?_)))
   refine bE hh 2 ?_
   refine mB ?_
   first | refine gS ?_ | (refine gT ?_; refine bB ?_) | refine gV ?_
   first | refine gS ?_ | (refine gT ?_; refine bE hh 2 ?_) | refine gV ?_
   refine bq rfl rfl ?_
   refine bA hh (jt a _ (by omega)) rfl ?_
   intro w32 hh
   rw [hz, jb]
   first | refine gS ?_ | (refine gT ?_; refine ck ?_) | refine gV ?_
   first | refine cS ?_ | refine cU ?_
   refine mB ?_
   first | refine gS ?_ | (refine gT ?_; refine bB ?_) | refine gV ?_
   first | refine gS ?_ | (refine gT ?_; refine bE hh 2 ?_) | refine gV ?_
   refine cd (by decide) rfl rfl (by decide) ?_
   first | refine gS ?_ | (refine gT ?_; refine mI ?_) | refine gV ?_
   first | refine gS ?_ | (refine gT ?_; refine mh rfl (by omega) (by omega) (by decide) ?_) | refine gV ?_
   first | refine gS ?_ | (refine gT ?_; refine aW ?_) | refine gV ?_
   first | refine cS ?_ | refine cU ?_
   refine ae (cF (ak (ai (sr ?_))))
   refine cB hh 0 [_,_] ?_
   refine bD hh 1 [_,_] ?_
   intro ws hh
   replace hh : Hp _ (_ :: .blk _ _ [_, _] _ :: _) _ := hh
   refine ae (al ?_)
   refine gr (aH rfl (aG (vs := [_, _]) aA.out (hh.av (i := 1) (n := 2) rfl rfl) rfl) a9) ?_
   exact ⟨rfl, hh.below⟩
  ·have hbp := l7 hz
   by_cases hd : 2 ^ m ∣ bN a
   ·have e3 : iv true (sN (bN a / 2 ^ m)) = iv true a / 2 ^ m := by
     rw [e4, e5]; exact sj _ _ hd
    have htz := (x5 hz).1 hd
    refine aj (N := 47) (l := [.agg #[.bool true, .string a], .int .i64 (-(m : Int))]) Tryz.func224 rfl rfl (by simp) ?_
    refine sr ?_
    refine cz hh [_,_] ?_
    intro b2 w2 hh
    refine cj hh ?_
    intro b4 w4 hh
    refine ae (ah (sr (mI ?_)))
    refine dg (ae (cF (ak (ai (sr (mI ?_))))))
    refine jV rfl rfl (by decide) ?_
    refine aI (ae (ah ?_))
    rw [e1]
    refine aU 10 [[(2, none)], [(18, some 0)], [(1, none)], [(20, some 2)], [(19, some 1), (21, some 3)], [(2, none)], [(23, some 5)], [(22, some 4), (24, some 6)], [(25, some 7)], []] [(9, 5), (8, 26), (7, 25), (6, 24), (5, 23), (4, 22), (3, 21), (2, 20), (1, 19), (0, 18)] hh mixed (by kernel_rfl) ?_
    refine cw ?_
    refine dI 1 ?_
    refine ej ?_
    refine bm (i := 3) (fun ρ1 w1 hj hR => nJ (show ρ1 20 = Value.int _ _ from hR.1) (by omega) (by omega)) ?_
    refine dC (fun _ hj => hcs _) ?_
    refine cw ?_
    refine dI 1 ?_
    refine dB [_,_] ?_
    refine dC (fun _ hj => dq true (sN (bN a / 2 ^ m)) _) ?_
    refine bk (i := 9) (cH _ 27 _) cH.ext (fun ρ1 w1 hj hR => fq aA.out hj.bl (fun v w2 h hb => ⟨hb, h⟩)) ?_
    refine a6 ?_
    intro f W hJ hV
    have hb_4 := hJ.bl
    obtain ⟨v5, v26, v25, v24, v23, v22, v21, v20, v19, v18, _⟩ := hV
    obtain ⟨b5, e5, hl5, hc5⟩ : cH _ _ _ (f 9) W := v5
    replace hh := hJ.newVar hh hl5 hc5
    refine aK (a4 (aa e5 (aa v26 (aa v25 (aa v24 (aa v23 (aa v22 (aa v21 (aa v20 (aa v19 (aa v18 aM))))))))))) ?_
    dsimp only [bX]
    clear e5 hJ
    rw [e3]
    refine bD hh 0 [_,_] ?_
    intro ws hh
    replace hh : Hp _ (.blk _ _ [_, _] _ :: _) _ := hh
    refine ae (ah (sr (bB ?_)))
    refine bE hh 2 ?_
    refine mB ?_
    first | refine gS ?_ | (refine gT ?_; refine bB ?_) | refine gV ?_
    first | refine gS ?_ | (refine gT ?_; refine bE hh 2 ?_) | refine gV ?_
    refine bq rfl rfl ?_
    refine bA hh (jt a _ (by omega)) rfl ?_
    intro w32 hh
    first | refine gS ?_ | (refine gT ?_; refine ck ?_) | refine gV ?_
    first | refine cS ?_ | refine cU ?_
    refine mB ?_
    first | refine gS ?_ | (refine gT ?_; refine bB ?_) | refine gV ?_
    first | refine gS ?_ | (refine gT ?_; refine bE hh 2 ?_) | refine gV ?_
    refine bq rfl rfl ?_
    refine bA hh (iu a _ (by omega) (hT.hp hh)) rfl ?_
    intro w38 hh
    first | refine gS ?_ | (refine gT ?_; refine mI ?_) | refine gV ?_
    first | refine gS ?_ | (refine gT ?_; refine mh rfl (by omega) (by omega) (by decide) ?_) | refine gV ?_
    first | refine gS ?_ | (refine gT ?_; refine aW ?_) | refine gV ?_
    first | refine cS ?_ | refine cU ?_
    refine ae (cF (ak (ai (sr ?_))))
    refine cB hh 0 [_,_] ?_
    refine bD hh 1 [_,_] ?_
    intro ws hh
    replace hh : Hp _ (_ :: .blk _ _ [_, _] _ :: _) _ := hh
    refine ae (al ?_)
    refine gr (aH rfl (aG (vs := [_, _]) aA.out (hh.av (i := 1) (n := 2) rfl rfl) rfl) a9) ?_
    exact ⟨rfl, hh.below⟩
   ·have e3 : iv true (sN (bN a / 2 ^ m)) - 1 = iv true a / 2 ^ m := by
     rw [e4, e5]; exact qT _ _ hd
    have htz : tz (bN a) < m := Nat.lt_of_not_le fun h => hd ((x5 hz).2 h)
    have hsz : (iM (iv true (sN (bN a / 2 ^ m)))).size ≤ 100000000 := by
     have := lW (bN a) m
     rw [dM, gD, eC]; omega
    have hsub : ∀ w1, Calls Tryz.prog 255 #[.agg #[.bool (iN (iv true (sN (bN a / 2 ^ m)))), .string (iM (iv true (sN (bN a / 2 ^ m))))], .agg #[.bool (iN 1), .string (iM 1)]] w1 fun e w' => e = .returned (.agg #[.bool (iN (iv true a / 2 ^ m)), .string (iM (iv true a / 2 ^ m))]) ∧ Below w1.heap.size w1 w' := fun w1 => by
     have := u2 (iN (iv true (sN (bN a / 2 ^ m)))) (iN 1) (iM (iv true (sN (bN a / 2 ^ m)))) (iM 1) w1 hsz (by rw [dM, Int.natAbs_one, rT]; omega)
     rw [fx, fx, e3] at this
     exact this
    refine aj (N := 47) (l := [.agg #[.bool true, .string a], .int .i64 (-(m : Int))]) Tryz.func224 rfl rfl (by simp) ?_
    refine sr ?_
    refine cz hh [_,_] ?_
    intro b2 w2 hh
    refine cj hh ?_
    intro b4 w4 hh
    refine ae (ah (sr (mI ?_)))
    refine dg (ae (cF (ak (ai (sr (mI ?_))))))
    refine jV rfl rfl (by decide) ?_
    refine aI (ae (ah ?_))
    rw [e1]
    refine aU 10 [[(2, none)], [(18, some 0)], [(1, none)], [(20, some 2)], [(19, some 1), (21, some 3)], [(2, none)], [(23, some 5)], [(22, some 4), (24, some 6)], [(25, some 7)], []] [(9, 5), (8, 26), (7, 25), (6, 24), (5, 23), (4, 22), (3, 21), (2, 20), (1, 19), (0, 18)] hh mixed (by kernel_rfl) ?_
    refine cw ?_
    refine dI 1 ?_
    refine ej ?_
    refine bm (i := 3) (fun ρ1 w1 hj hR => nJ (show ρ1 20 = Value.int _ _ from hR.1) (by omega) (by omega)) ?_
    refine dC (fun _ hj => hcs _) ?_
    refine cw ?_
    refine dI 1 ?_
    refine dB [_,_] ?_
    refine dC (fun _ hj => dq true (sN (bN a / 2 ^ m)) _) ?_
    refine bk (i := 9) (cH _ 27 _) cH.ext (fun ρ1 w1 hj hR => fq aA.out hj.bl (fun v w2 h hb => ⟨hb, h⟩)) ?_
    refine a6 ?_
    intro f W hJ hV
    have hb_4 := hJ.bl
    obtain ⟨v5, v26, v25, v24, v23, v22, v21, v20, v19, v18, _⟩ := hV
    obtain ⟨b5, e5, hl5, hc5⟩ : cH _ _ _ (f 9) W := v5
    replace hh := hJ.newVar hh hl5 hc5
    refine aK (a4 (aa e5 (aa v26 (aa v25 (aa v24 (aa v23 (aa v22 (aa v21 (aa v20 (aa v19 (aa v18 aM))))))))))) ?_
    dsimp only [bX]
    clear e5 hJ
    refine bD hh 0 [_,_] ?_
    intro ws hh
    replace hh : Hp _ (.blk _ _ [_, _] _ :: _) _ := hh
    refine ae (ah (sr (bB ?_)))
    refine bE hh 2 ?_
    refine mB ?_
    first | refine gS ?_ | (refine gT ?_; refine bB ?_) | refine gV ?_
    first | refine gS ?_ | (refine gT ?_; refine bE hh 2 ?_) | refine gV ?_
    refine bq rfl rfl ?_
    refine bA hh (jt a _ (by omega)) rfl ?_
    intro w32 hh
    first | refine gS ?_ | (refine gT ?_; refine ck ?_) | refine gV ?_
    first | refine cS ?_ | refine cU ?_
    refine mB ?_
    first | refine gS ?_ | (refine gT ?_; refine bB ?_) | refine gV ?_
    first | refine gS ?_ | (refine gT ?_; refine bE hh 2 ?_) | refine gV ?_
    refine bq rfl rfl ?_
    refine bA hh (iu a _ (by omega) (hT.hp hh)) rfl ?_
    intro w38 hh
    first | refine gS ?_ | (refine gT ?_; refine mI ?_) | refine gV ?_
    first | refine gS ?_ | (refine gT ?_; refine mh rfl (by omega) (by omega) (by decide) ?_) | refine gV ?_
    first | refine gS ?_ | (refine gT ?_; refine aW ?_) | refine gV ?_
    first | refine cS ?_ | refine cU ?_
    refine ae (cT (ah ?_))
    refine aU 2 [[(5, none)], []] [(1, 44), (0, 43)] hh mixed (by kernel_rfl) ?_
    refine dZ 0 [_,_] ?_
    refine dC (fun _ hj => ma 1 _ (by omega) (by omega)) ?_
    refine a6 ?_
    intro f W hJ hV
    have hb_6 := hJ.bl
    obtain ⟨v44, v43, _⟩ := hV
    replace hh := hJ.hp
    refine aK (a4 (aa v44 (aa v43 aM))) ?_
    dsimp only [bX]
    clear hJ
    refine bA hh (hsub _) rfl ?_
    intro w45 hh
    refine bD hh 1 [_,_] ?_
    intro ws hh
    replace hh : Hp _ (_ :: .blk _ _ [_, _] _ :: _) _ := hh
    refine ae (al (aD ?_))
    refine gr (aH rfl (aG (vs := [_, _]) aA.out (hh.av (i := 1) (n := 2) rfl rfl) rfl) a9) ?_
    exact ⟨rfl, hh.below⟩
end Go.Proofs.YtaapkaefelhfcaaGreatDoor
namespace Go.Proofs.YtaapkaefelhfcaaGreatDoor
open Go.RowKit
theorem Ba : (2 : Rat) ≠ 0 := by decide
theorem two_pos (k : Int) : (0 : Rat) < 2 ^ k := Rat.zpow_pos (by decide)
theorem iE (i p : Int) : (Dyadic.ofIntWithPrec i p).toRat = i * 2 ^ (-p) := Dyadic.toRat_ofIntWithPrec_eq_mul_two_pow
theorem mE (i p : Int) (n : Nat) : Dyadic.ofIntWithPrec (i * 2 ^ n) (p + n) = Dyadic.ofIntWithPrec i p := by
 rw [← Int.shiftLeft_eq]; exact Dyadic.ofIntWithPrec_shiftLeft_add
theorem js (i : Int) {p q : Int} {n : Nat} (h : q = p + n) : Dyadic.ofIntWithPrec i p = Dyadic.ofIntWithPrec (i * 2 ^ n) q := by
 subst h; exact (mE i p n).symm
theorem q5 (i j p : Int) : Dyadic.ofIntWithPrec i p + Dyadic.ofIntWithPrec j p = Dyadic.ofIntWithPrec (i + j) p := by
 rw [← Dyadic.toRat_inj, Dyadic.toRat_add, iE, iE, iE, Rat.intCast_add, Rat.add_mul]
theorem ri (i j p q : Int) : Dyadic.ofIntWithPrec i p * Dyadic.ofIntWithPrec j q = Dyadic.ofIntWithPrec (i * j) (p + q) := by
 rw [← Dyadic.toRat_inj, Dyadic.toRat_mul, iE, iE, iE, Rat.intCast_mul, Int.neg_add, Rat.zpow_add Ba]
 grind
theorem qK (i j p : Int) : Dyadic.ofIntWithPrec i p < Dyadic.ofIntWithPrec j p ↔ i < j := by
 rw [← Dyadic.toRat_lt_toRat_iff, iE, iE]
 rw [← Rat.intCast_lt_intCast]
 constructor
 ·intro h
  exact Rat.lt_of_mul_lt_mul_right h (Rat.le_of_lt (two_pos _))
 ·intro h
  exact Rat.mul_lt_mul_of_pos_right h (two_pos _)
theorem j9 (p : Int) : Dyadic.ofIntWithPrec 0 p = 0 := rfl
theorem Aa {i j p : Int} (h : Dyadic.ofIntWithPrec i p = Dyadic.ofIntWithPrec j p) : i = j := by
 rcases Int.lt_trichotomy i j with h1 | h1 | h1
 ·rw [← qK i j p, h] at h1
  exact absurd h1 (by rw [qK]; omega)
 ·exact h1
 ·rw [← qK j i p, h] at h1
  exact absurd h1 (by rw [qK]; omega)
theorem gN {i p : Int} (h : Dyadic.ofIntWithPrec i p = 0) : i = 0 := Aa (p := p) (by rw [h]; rfl)
theorem vf (n k : Int) (h : n % 2 = 1) : Dyadic.ofOdd n k h = Dyadic.ofIntWithPrec n k := Dyadic.ofOdd_eq_ofIntWithPrec
theorem vw {i p : Int} (h : i ≠ 0) : Dyadic.ofIntWithPrec i p = .ofOdd (i >>> i.trailingZeros) (p - i.trailingZeros) (Int.shiftRight_trailingZeros_mod_two h) := by
 rw [Dyadic.ofIntWithPrec, dif_neg h]
structure NR where
 neg : Bool
 bu : ByteArray
 e : Int
def NR.cells (a : NR) : List Value := [.bool a.neg, .string a.bu, .int .i64 a.e]
theorem NR.len (a : NR) : a.cells.length = 3 := rfl
theorem NR.one (a : NR) : a.cells.all Value.oneCell' = true := rfl
def NR.i (a : NR) : Int := iv a.neg a.bu
def NR.d (a : NR) : Dyadic := Dyadic.ofIntWithPrec a.i (-a.e)
def nR : Dyadic → NR
 | .zero => ⟨false, ByteArray.mk #[], 0⟩
 | .ofOdd n k _ => ⟨iN n, iM n, -k⟩
theorem lU : nR 0 = ⟨false, ByteArray.mk #[], 0⟩ := rfl
theorem dy (x : Dyadic) : (nR x).d = x := by
 cases x with
 | zero => rfl
 | ofOdd n k h =>
  simp only [nR, NR.d, NR.i, fx, Int.neg_neg]
  exact (vf n k h).symm
theorem Bm {x y : Dyadic} : nR x = nR y ↔ x = y := ⟨fun h => by rw [← dy x, h, dy], fun h => by rw [h]⟩
theorem B0 (s : Bool) (a : ByteArray) : (iv s a).trailingZeros = tz (bN a) := by
 unfold iv
 split
 ·rw [Int.trailingZeros_neg]; rfl
 ·rfl
theorem vM (s : Bool) (a : ByteArray) : iv s a = 0 ↔ bN a = 0 := by
 have := gD s a
 omega
theorem mz {s : Bool} {a : ByteArray} {e : Int} (h : iv s a ≠ 0) : nR (Dyadic.ofIntWithPrec (iv s a) (-e)) = ⟨iN (iv s a / 2 ^ tz (bN a)), iM (iv s a / 2 ^ tz (bN a)), e + tz (bN a)⟩ := by
 rw [vw h, nR, Int.shiftRight_eq_div_pow, B0]
 have e1 : -(-e - (tz (bN a) : Int)) = e + tz (bN a) := by omega
 rw [e1, Int.natCast_pow]
 rfl
def Sz (k : Nat) (x : Dyadic) : Prop := ∃ i : Int, x = Dyadic.ofIntWithPrec i k ∧ i.natAbs < 2 ^ (2 * k)
theorem Sz.zero (k : Nat) : Sz k 0 := ⟨0, rfl, by simpa using Nat.pow_pos (by omega)⟩
theorem Sz.mono {k l : Nat} {x : Dyadic} (h : Sz k x) (hl : k ≤ l) : Sz l x := by
 obtain ⟨i, rfl, hi⟩ := h
 refine ⟨i * 2 ^ (l - k), js i (by omega), ?_⟩
 rw [Int.natAbs_mul, Int.natAbs_pow]
 have h1 : i.natAbs * 2 ^ (l - k) < 2 ^ (2 * k) * 2 ^ (l - k) := Nat.mul_lt_mul_of_pos_right hi (Nat.pow_pos (by omega))
 rw [← Nat.pow_add] at h1
 exact Nat.lt_of_lt_of_le h1 (Nat.pow_le_pow_right (by omega) (by omega))
theorem Sz.add {k : Nat} {x y : Dyadic} (hx : Sz k x) (hy : Sz k y) : Sz (k + 1) (x + y) := by
 obtain ⟨i, rfl, hi⟩ := hx
 obtain ⟨j, rfl, hj⟩ := hy
 rw [q5]
 refine ⟨(i + j) * 2 ^ 1, js _ (by omega), ?_⟩
 have h1 : 2 ^ (2 * (k + 1)) = 4 * 2 ^ (2 * k) := by rw [show 2 * (k + 1) = 2 * k + 2 by omega, Nat.pow_add]; omega
 rw [h1]
 omega
theorem Sz.mul {k l : Nat} {x y : Dyadic} (hx : Sz k x) (hy : Sz l y) : Sz (k + l) (x * y) := by
 obtain ⟨i, rfl, hi⟩ := hx
 obtain ⟨j, rfl, hj⟩ := hy
 rw [ri]
 refine ⟨i * j, by rw [Int.natCast_add], ?_⟩
 rw [Int.natAbs_mul, Nat.mul_add, Nat.pow_add]
 exact Nat.mul_lt_mul'' hi hj
theorem l9 {i : Int} (h : i ≠ 0) : 2 ^ i.trailingZeros ≤ i.natAbs := by
 have h1 := Int.two_pow_trailingZeros_dvd h
 have h2 := Int.natAbs_dvd_natAbs.2 h1
 rw [Int.natAbs_pow] at h2
 exact Nat.le_of_dvd (by omega) h2
theorem Sz.nr {k : Nat} {x : Dyadic} (h : Sz k x) : (nR x).bu.size ≤ (2 * k + 7) / 8 ∧ -(k : Int) ≤ (nR x).e ∧ (nR x).e ≤ k := by
 obtain ⟨i, rfl, hi⟩ := h
 by_cases h0 : i = 0
 ·subst h0
  rw [j9, lU]
  exact ⟨Nat.zero_le _, (by omega : -(k : Int) ≤ 0), (by omega : (0 : Int) ≤ k)⟩
 ·have h2 := l9 h0
  rw [vw h0, nR]
  simp only
  refine ⟨?_, by omega, ?_⟩
  ·rw [dM]
   have : bH (i >>> i.trailingZeros).natAbs ≤ 2 * k := by
    apply dn
    refine Nat.lt_of_le_of_lt ?_ hi
    rw [Int.shiftRight_eq_div_pow]
    exact Int.natAbs_ediv_le_natAbs _ _
   omega
  ·have h3 : 2 ^ i.trailingZeros < 2 ^ (2 * k) := Nat.lt_of_le_of_lt h2 hi
   have := (Nat.pow_lt_pow_iff_right (by omega)).1 h3
   omega
theorem Sz.raw {a : NR} {m E : Nat} (hm : 8 * a.bu.size ≤ m) (h1 : -(E : Int) ≤ a.e) (h2 : a.e ≤ E) : Sz (m + E) a.d := by
 refine ⟨a.i * 2 ^ (a.e + m + E).toNat, js _ (by omega), ?_⟩
 have h3 : a.i.natAbs < 2 ^ m := by
  rw [NR.i, gD]
  refine Nat.lt_of_lt_of_le (cX _) (Nat.pow_le_pow_right (by omega) ?_)
  have := eI a.bu
  omega
 rw [Int.natAbs_mul, Int.natAbs_pow]
 have h4 := Nat.mul_lt_mul_of_pos_right h3 (Nat.pow_pos (n := (a.e + m + E).toNat) (show 0 < 2 by omega))
 rw [← Nat.pow_add] at h4
 exact Nat.lt_of_lt_of_le h4 (Nat.pow_le_pow_right (by omega) (by omega))
def wa (i n : Int) : Int := if 0 ≤ n then i * 2 ^ n.toNat else i / 2 ^ (-n).toNat
theorem yL (n : Int) : wa 0 n = 0 := by unfold wa; split <;> simp
def cO : Dyadic → Int → Int
 | .zero, _ => 0
 | .ofOdd n k _, p => wa n (p - k)
def dk : Dyadic → Dyadic → Int
 | .zero, .zero => 0
 | .zero, .ofOdd _ k _ => k
 | .ofOdd _ k _, .zero => k
 | .ofOdd _ k _, .ofOdd _ l _ => max k l
theorem ko (n k p : Int) (h : n % 2 = 1) (hp : k ≤ p) : Dyadic.ofIntWithPrec (cO (.ofOdd n k h) p) p = .ofOdd n k h := by
 simp only [cO]
 rw [vf, wa, if_pos (by omega)]
 exact (js n (by omega)).symm
theorem BG (x y : Dyadic) : Dyadic.ofIntWithPrec (cO x (dk x y)) (dk x y) = x := by
 cases x with
 | zero => rfl
 | ofOdd n k h =>
  cases y with
  | zero => exact ko _ _ _ _ (Int.le_refl _)
  | ofOdd m l g => exact ko _ _ _ _ (Int.le_max_left _ _)
theorem BJ (x y : Dyadic) : Dyadic.ofIntWithPrec (cO y (dk x y)) (dk x y) = y := by
 cases y with
 | zero => rfl
 | ofOdd n k h =>
  cases x with
  | zero => exact ko _ _ _ _ (Int.le_refl _)
  | ofOdd m l g => exact ko _ _ _ _ (Int.le_max_right _ _)
theorem zV (x y : Dyadic) : Dyadic.ofIntWithPrec (cO x (dk x y) + cO y (dk x y)) (dk x y) = x + y := by
 rw [← q5, BG, BJ]
theorem xP (i n : Int) : bH (wa i n).natAbs ≤ bH i.natAbs + n.toNat := by
 unfold wa
 split
 ·rw [Int.natAbs_mul, Int.natAbs_pow]
  exact fW _ _
 ·have : bH (i / 2 ^ (-n).toNat).natAbs ≤ bH i.natAbs := dn (Nat.lt_of_le_of_lt (Int.natAbs_ediv_le_natAbs _ _) (cX _))
  omega
theorem vV (x y : Dyadic) (E : Int) (h1 : -E ≤ (nR x).e ∧ (nR x).e ≤ E) (h2 : -E ≤ (nR y).e ∧ (nR y).e ≤ E) : -E ≤ dk x y ∧ dk x y ≤ E := by
 cases x <;> cases y <;> simp only [nR, dk] at * <;> omega
theorem n5 (x : Dyadic) (p : Int) : bH (cO x p).natAbs ≤ 8 * (nR x).bu.size + (p + (nR x).e).toNat := by
 cases x with
 | zero => simp [cO, jb]
 | ofOdd n k h =>
  have h1 := xP n (p - k)
  have h2 := eI (iM n)
  rw [iM, eC] at h2
  simp only [cO, nR]
  rw [show p + -k = p - k by omega]
  rw [← iM] at h2
  omega
end Go.Proofs.YtaapkaefelhfcaaGreatDoor
/- Several texts in one: Dyad, DyadB, DyadC, CmpD. -/
namespace Go.Proofs.YtaapkaefelhfcaaGreatDoor
open Go.RowKit
variable {ro : Mode}
theorem vv {P : Program} {t : TypeId} {n by' : Nat} {zc : List Value} {cs : Array Value} {off : Nat} {v : Value} (ht : cR P t = some (n, false, by', zc)) (hv : cs[off]? = some v) (w : World) : (part t cs off).run P w = .ok v w := by
 simp [part, iz ht, hv]
theorem Al {P : Program} {t : TypeId} {n by' : Nat} {zc : List Value} {cs vs : Array Value} {off : Nat} (ht : cR P t = some (n, true, by', zc)) (hv : cs.extract off (off + n) = vs) (w : World) : (part t cs off).run P w = .ok (.agg vs) w := by
 simp [part, iz ht, dP ht, hv]
theorem Ci (n : Nat) (a b : Bool) (w : World) : (Op.equalIn (n + 1) 4 (.bool a) (.bool b)).run Tryz.prog w = .ok (a == b) w := by
 simp [Op.equalIn, run_underlying Tryz.underlying4]
theorem BR (n : Nat) (a b : ByteArray) (w : World) : (Op.equalIn (n + 1) 9 (.string a) (.string b)).run Tryz.prog w = .ok (a == b) w := by
 simp [Op.equalIn, run_underlying Tryz.underlying9]
theorem Cf (n : Nat) (a b : Int) (w : World) : (Op.equalIn (n + 1) 3 (.int .i64 a) (.int .i64 b)).run Tryz.prog w = .ok (a == b) w := by
 simp [Op.equalIn, run_underlying Tryz.underlying3]
theorem eq_int (n : Nat) (s s' : Bool) (a a' : ByteArray) (w : World) : (Op.equalIn (n + 2) 27 (.agg #[.bool s, .string a]) (.agg #[.bool s', .string a'])).run Tryz.prog w = .ok (s == s' && a == a') w := by
 have h1 := fun (x : Bool) (y : ByteArray) => vv (P := Tryz.prog) (cs := #[.bool x, .string y]) (off := 0) (aA.out (P := Tryz.prog) (t := 4)) rfl
 have h2 := fun (x : Bool) (y : ByteArray) => vv (P := Tryz.prog) (cs := #[.bool x, .string y]) (off := 1) (aA.out (P := Tryz.prog) (t := 9)) rfl
 rw [Op.equalIn]
 simp [run_underlying Tryz.underlying27, h1, h2, Ci, BR]
 cases h : s == s' <;> cases h' : a == a' <;> simp_all
theorem uK (n : Nat) (s s' : Bool) (a a' : ByteArray) (e e' : Int) (w : World) : (Op.equalIn (n + 3) 29 (.agg #[.bool s, .string a, .int .i64 e]) (.agg #[.bool s', .string a', .int .i64 e'])).run Tryz.prog w = .ok ((s == s' && a == a') && e == e') w := by
 have h1 := fun (x : Bool) (y : ByteArray) (z : Int) => Al (P := Tryz.prog) (cs := #[.bool x, .string y, .int .i64 z]) (vs := #[.bool x, .string y]) (off := 0) (aA.out (P := Tryz.prog) (t := 27)) rfl
 have h2 := fun (x : Bool) (y : ByteArray) (z : Int) => vv (P := Tryz.prog) (cs := #[.bool x, .string y, .int .i64 z]) (off := 2) (aA.out (P := Tryz.prog) (t := 3)) rfl
 rw [Op.equalIn]
 simp [run_underlying Tryz.underlying29, h1, h2, eq_int, Cf]
 cases h : s == s' <;> cases h' : a == a' <;> cases h2 : e == e' <;> simp_all
section
variable {ρ : Rf} {w : World} {d : Option Nat} {ty u : TypeId} {pos : String} {af : Array Edge} {g : Option (Nat × Bool)} {x y : Operand} {s s' : Bool} {a a' : ByteArray} {e e' : Int}
theorem xZ {a b : ByteArray} : (a == b) = true ↔ a = b := by
 have : (a == b) = (a.data == b.data) := rfl
 rw [this, beq_iff_eq]
 exact ⟨fun h => by cases a; cases b; simp_all, fun h => by rw [h]⟩
theorem lP : ((s == s' && a == a') && e == e') = true ↔ NR.mk s a e = NR.mk s' a' e' := by
 rw [Bool.and_eq_true, Bool.and_eq_true, beq_iff_eq, xZ, beq_iff_eq, NR.mk.injEq, and_assoc]
theorem Aw {r : Bool} (hx : ev ρ x = .agg #[.bool s, .string a, .int .i64 e]) (hy : ev ρ y = .agg #[.bool s', .string a', .int .i64 e']) (hr : ((s == s' && a == a') && e == e') = r) :
  (execOp (ev ρ) ⟨d, .binOp .eql 29 x y u, ty, pos, af, g⟩).run Tryz.prog w = .ok (.value (.bool r)) w := by
 have h1 : (Op.equal 29 (.agg #[.bool s, .string a, .int .i64 e]) (.agg #[.bool s', .string a', .int .i64 e'])).run Tryz.prog w = .ok r w := by rw [← hr]; exact uK 9997 s s' a a' e e' w
 simp only [execOp, hx, hy]
 simp [eqGuard, binOp, h1]
theorem Ao {r : Bool} (hx : ev ρ x = .agg #[.bool s, .string a, .int .i64 e]) (hy : ev ρ y = .agg #[.bool s', .string a', .int .i64 e']) (hr : ((s == s' && a == a') && e == e') = r) :
  (execOp (ev ρ) ⟨d, .binOp .neq 29 x y u, ty, pos, af, g⟩).run Tryz.prog w = .ok (.value (.bool !r)) w := by
 have h1 : (Op.equal 29 (.agg #[.bool s, .string a, .int .i64 e]) (.agg #[.bool s', .string a', .int .i64 e'])).run Tryz.prog w = .ok r w := by rw [← hr]; exact uK 9997 s s' a a' e e' w
 simp only [execOp, hx, hy]
 simp [eqGuard, binOp, h1]
theorem vx (hx : ev ρ x = .agg #[.bool s, .string a, .int .i64 e]) (hy : ev ρ y = .agg #[.bool s', .string a', .int .i64 e']) (h : NR.mk s a e = NR.mk s' a' e') :
  (execOp (ev ρ) ⟨d, .binOp .eql 29 x y u, ty, pos, af, g⟩).run Tryz.prog w = .ok (.value (.bool true)) w := Aw hx hy (lP.2 h)
theorem vX (hx : ev ρ x = .agg #[.bool s, .string a, .int .i64 e]) (hy : ev ρ y = .agg #[.bool s', .string a', .int .i64 e']) (h : ¬ NR.mk s a e = NR.mk s' a' e') :
  (execOp (ev ρ) ⟨d, .binOp .eql 29 x y u, ty, pos, af, g⟩).run Tryz.prog w = .ok (.value (.bool false)) w := Aw hx hy (by rw [Bool.eq_false_iff]; exact fun h1 => h (lP.1 h1))
theorem jD (hx : ev ρ x = .agg #[.bool s, .string a, .int .i64 e]) (hy : ev ρ y = .agg #[.bool s', .string a', .int .i64 e']) (h : NR.mk s a e = NR.mk s' a' e') :
  (execOp (ev ρ) ⟨d, .binOp .neq 29 x y u, ty, pos, af, g⟩).run Tryz.prog w = .ok (.value (.bool false)) w := Ao hx hy (lP.2 h)
theorem ju (hx : ev ρ x = .agg #[.bool s, .string a, .int .i64 e]) (hy : ev ρ y = .agg #[.bool s', .string a', .int .i64 e']) (h : ¬ NR.mk s a e = NR.mk s' a' e') :
  (execOp (ev ρ) ⟨d, .binOp .neq 29 x y u, ty, pos, af, g⟩).run Tryz.prog w = .ok (.value (.bool true)) w := Ao hx hy (r := false) (by rw [Bool.eq_false_iff]; exact fun h1 => h (lP.1 h1))
end
section
variable {N : Nat} {ops : Array Oper} {Q : Kq} {ρ : Rf} {w : World} {rest : List Oper} {d : Nat} {ty u : TypeId} {pos : String} {af : Array Edge} {x y : Operand} {s s' : Bool} {a a' : ByteArray} {e e' : Int}
theorem lz (hx : ev ρ x = .agg #[.bool s, .string a, .int .i64 e]) (hy : ev ρ y = .agg #[.bool s', .string a', .int .i64 e']) (h : NR.mk s a e = NR.mk s' a' e') (hN : d < N) (kk : WL ro Tryz.prog N ops Q rest (cG ρ d (.bool true)) w) :
  WL ro Tryz.prog N ops Q (⟨some d, .binOp .eql 29 x y u, ty, pos, af, none⟩ :: rest) ρ w := a5 rfl rfl hN (vx hx hy h) kk
theorem lH (hx : ev ρ x = .agg #[.bool s, .string a, .int .i64 e]) (hy : ev ρ y = .agg #[.bool s', .string a', .int .i64 e']) (h : ¬ NR.mk s a e = NR.mk s' a' e') (hN : d < N) (kk : WL ro Tryz.prog N ops Q rest (cG ρ d (.bool false)) w) :
  WL ro Tryz.prog N ops Q (⟨some d, .binOp .eql 29 x y u, ty, pos, af, none⟩ :: rest) ρ w := a5 rfl rfl hN (vX hx hy h) kk
theorem ki (hx : ev ρ x = .agg #[.bool s, .string a, .int .i64 e]) (hy : ev ρ y = .agg #[.bool s', .string a', .int .i64 e']) (h : ¬ NR.mk s a e = NR.mk s' a' e') (hN : d < N) (kk : WL ro Tryz.prog N ops Q rest (cG ρ d (.bool true)) w) :
  WL ro Tryz.prog N ops Q (⟨some d, .binOp .neq 29 x y u, ty, pos, af, none⟩ :: rest) ρ w := a5 rfl rfl hN (ju hx hy h) kk
theorem kq (hx : ev ρ x = .agg #[.bool s, .string a, .int .i64 e]) (hy : ev ρ y = .agg #[.bool s', .string a', .int .i64 e']) (h : NR.mk s a e = NR.mk s' a' e') (hN : d < N) (kk : WL ro Tryz.prog N ops Q rest (cG ρ d (.bool false)) w) :
  WL ro Tryz.prog N ops Q (⟨some d, .binOp .neq 29 x y u, ty, pos, af, none⟩ :: rest) ρ w := a5 rfl rfl hN (jD hx hy h) kk
end
theorem lJ (s : Bool) (a : ByteArray) (n : Int) (w : World) (hT : gW w) (ha : a.size ≤ 100000000) (h1 : -1000000000 ≤ n) (h2 : n ≤ 1000000000) :
  Calls Tryz.prog 224 #[.agg #[.bool s, .string a], .int .i64 n] w fun e w' => e = .returned (.agg #[.bool (iN (wa (iv s a) n)), .string (iM (wa (iv s a) n))]) ∧ Below w.heap.size w w' := by
 unfold wa
 by_cases h : 0 ≤ n
 ·rw [if_pos h]
  obtain ⟨m, rfl⟩ := Int.eq_ofNat_of_zero_le h
  rw [Int.toNat_natCast]
  exact uf s a m w ha (by omega)
 ·rw [if_neg h]
  obtain ⟨m, hm⟩ := Int.eq_ofNat_of_zero_le (show 0 ≤ -n by omega)
  rw [hm, Int.toNat_natCast, show n = -(m : Int) by omega]
  exact tX s a m w hT ha (by omega) (by omega)
theorem iK (s : Bool) (a : ByteArray) (e : Int) (w : World) (hT : gW w) (ha : a.size ≤ 100000000) (h1 : -1000000000000 ≤ e) (h2 : e ≤ 1000000000000) :
  Calls Tryz.prog 164 #[.agg #[.bool s, .string a], .int .i64 e] w fun r w' => r = .returned (.agg #[.bool (nR (Dyadic.ofIntWithPrec (iv s a) (-e))).neg, .string (nR (Dyadic.ofIntWithPrec (iv s a) (-e))).bu, .int .i64 (nR (Dyadic.ofIntWithPrec (iv s a) (-e))).e]) ∧ Below w.heap.size w w' := by
 have hh := Hp.start w
 by_cases h0 : iv s a = 0
 ·rw [h0, j9, lU]
  refine aj (N := 21) (l := [.agg #[.bool s, .string a], .int .i64 e]) Tryz.func164 rfl rfl (by simp) ?_
  refine sr ?_
  refine cz hh [_,_] ?_
  intro b2 w2 hh
  refine cj hh ?_
  intro b4 w4 hh
  refine ae (ah (sr ?_))
  refine cB hh 1 [_,_] ?_
  refine bA hh (jR s a _) rfl ?_
  intro w7 hh
  rw [h0]
  refine cu (ae (cT (sr ?_)))
  refine eH [_,_,_] ?_
  refine bD hh 0 [_,_,_] ?_
  intro ws hh
  replace hh : Hp _ (.blk _ _ [_, _, _] _ :: _) _ := hh
  refine ae (al (aD ?_))
  refine gr (aH rfl (aG (vs := [_, _, _]) aA.out (hh.av (i := 0) (n := 3) rfl rfl) rfl) a9) ?_
  exact ⟨rfl, hh.below⟩
 ·have hs : (iv s a).sign ≠ 0 := by rw [ne_eq, Int.sign_eq_zero_iff_zero]; exact h0
  rw [mz h0]
  have hz : bN a ≠ 0 := fun h => h0 ((vM s a).2 h)
  have htz : tz (bN a) < 8 * a.size + 1 := by
   have := qa a
   rw [show (256 : Nat) = 2 ^ 8 from rfl, ← Nat.pow_mul] at this
   have := qd hz this
   omega
  have hsh : wa (iv s a) (-(tz (bN a) : Int)) = iv s a / 2 ^ tz (bN a) := by
   unfold wa
   split
   ·have : tz (bN a) = 0 := by omega
    rw [this]; simp
   ·rw [Int.neg_neg, Int.toNat_natCast]
  refine aj (N := 21) (l := [.agg #[.bool s, .string a], .int .i64 e]) Tryz.func164 rfl rfl (by simp) ?_
  refine sr ?_
  refine cz hh [_,_] ?_
  intro b2 w2 hh
  refine cj hh ?_
  intro b4 w4 hh
  refine ae (ah (sr ?_))
  refine cB hh 1 [_,_] ?_
  refine bA hh (jR s a _) rfl ?_
  intro w7 hh
  refine cu (ae (cF (ak (ai (sr (bB ?_))))))
  refine bE hh 1 ?_
  refine bA hh (iu a _ (by omega) (hT.hp hh)) rfl ?_
  intro w12 hh
  refine aI (ae (sr ?_))
  refine cB hh 1 [_,_] (mI ?_)
  refine mh rfl (by omega) (by omega) (by decide) ?_
  refine bA hh (lJ s a (-(tz (bN a) : Int)) _ (hT.hp hh) ha (by omega) (by omega)) rfl ?_
  intro w16 hh
  rw [hsh]
  refine mI (mI ?_)
  refine bL ?_
  refine eH [_,_,_] ?_
  refine bD hh 0 [_,_,_] ?_
  intro ws hh
  replace hh : Hp _ (.blk _ _ [_, _, _] _ :: _) _ := hh
  refine ae (al ?_)
  refine gr (aH rfl (aG (vs := [_, _, _]) aA.out (hh.av (i := 0) (n := 3) rfl rfl) rfl) a9) ?_
  exact ⟨rfl, hh.below⟩
def NR.ok (a : NR) : Prop := a.bu.size ≤ 1000000 ∧ -10000000 ≤ a.e ∧ a.e ≤ 10000000
theorem Sz.ok {k : Nat} {x : Dyadic} (h : Sz k x) (hk : k ≤ 3999990) : (nR x).ok := by
 have := h.nr
 refine ⟨by omega, by omega, by omega⟩
theorem mH (n : Int) (w : World) (hT : gW w) (h1 : -9223372036854775808 ≤ n) (h2 : n ≤ 9223372036854775807) :
  Calls Tryz.prog 68 #[.int .i64 n] w fun r w' => r = .returned (.agg #[.bool (nR (n : Dyadic)).neg, .string (nR (n : Dyadic)).bu, .int .i64 (nR (n : Dyadic)).e]) ∧ Below w.heap.size w w' := by
 have hh := Hp.start w
 have hsz : (iM n).size ≤ 100000000 := by
  rw [dM]
  have : bH n.natAbs ≤ 64 := dn (by omega)
  omega
 have hc : ∀ w1, gW w1 → Calls Tryz.prog 164 #[.agg #[.bool (iN n), .string (iM n)], .int .i64 0] w1 fun r w' => r = .returned (.agg #[.bool (nR (n : Dyadic)).neg, .string (nR (n : Dyadic)).bu, .int .i64 (nR (n : Dyadic)).e]) ∧ Below w1.heap.size w1 w' := fun w1 hT1 => by
  have := iK (iN n) (iM n) 0 w1 hT1 hsz (by omega) (by omega)
  rw [fx] at this
  exact this
 refine aj (N := 6) (l := [.int .i64 n]) Tryz.func68 rfl rfl (by simp) ?_
 refine sr ?_
 refine cj hh ?_
 intro b2 w2 hh
 refine ae (sr (mI ?_))
 refine bA hh (ma n _ h1 h2) rfl ?_
 intro w4 hh
 refine bA hh (hc _ (hT.hp hh)) rfl ?_
 intro w5 hh
 refine bD hh 0 [_,_,_] ?_
 intro ws hh
 replace hh : Hp _ (.blk _ _ [_, _, _] _ :: _) _ := hh
 refine ae (al ?_)
 refine gr (aH rfl (aG (vs := [_, _, _]) aA.out (hh.av (i := 0) (n := 3) rfl rfl) rfl) a9) ?_
 exact ⟨rfl, hh.below⟩
theorem eD (a : NR) (w : World) (hT : gW w) (ha : a.bu.size ≤ 100000000) (h1 : -1000000000000 ≤ a.e) (h2 : a.e ≤ 1000000000000) :
  Calls Tryz.prog 159 #[.agg #[.bool a.neg, .string a.bu, .int .i64 a.e]] w fun r w' => r = .returned (.agg #[.bool (nR a.d).neg, .string (nR a.d).bu, .int .i64 (nR a.d).e]) ∧ Below w.heap.size w w' := by
 have hh := Hp.start w
 refine aj (N := 8) (l := [.agg #[.bool a.neg, .string a.bu, .int .i64 a.e]]) Tryz.func159 rfl rfl (by simp) ?_
 refine sr ?_
 refine cz hh [_,_,_] ?_
 intro b1 w1 hh
 refine cj hh ?_
 intro b2 w2 hh
 refine ae (sr (bB ?_))
 refine cB hh 1 [_,_] (bB ?_)
 refine bE hh 1 ?_
 refine bA hh (iK a.neg a.bu a.e _ (hT.hp hh) ha h1 h2) rfl ?_
 intro w7 hh
 refine bD hh 0 [_,_,_] ?_
 intro ws hh
 replace hh : Hp _ (.blk _ _ [_, _, _] _ :: _) _ := hh
 refine ae (al ?_)
 refine gr (aH rfl (aG (vs := [_, _, _]) aA.out (hh.av (i := 0) (n := 3) rfl rfl) rfl) a9) ?_
 exact ⟨rfl, hh.below⟩
theorem ng (a : NR) (w : World) :
  Calls Tryz.prog 180 #[.agg #[.bool a.neg, .string a.bu, .int .i64 a.e]] w fun r w' => r = .returned (.int .i64 a.i.sign) ∧ Below w.heap.size w w' := by
 have hh := Hp.start w
 refine aj (N := 6) (l := [.agg #[.bool a.neg, .string a.bu, .int .i64 a.e]]) Tryz.func180 rfl rfl (by simp) ?_
 refine sr ?_
 refine cz hh [_,_,_] ?_
 intro b1 w1 hh
 refine aI (ae (sr (bB ?_)))
 refine cB hh 0 [_,_] ?_
 refine bA hh (jR a.neg a.bu _) rfl ?_
 intro w5 hh
 refine aI (ae (al ?_))
 refine cn ?_
 exact ⟨rfl, hh.below⟩
theorem qx (s : Int) (a : NR) (w : World) (hT : gW w) (ha : a.bu.size ≤ 100000000) (h1 : -1000000000 ≤ a.e - s) (h2 : a.e - s ≤ 1000000000) :
  Calls Tryz.prog 221 #[.int .i64 s, .agg #[.bool a.neg, .string a.bu, .int .i64 a.e]] w fun r w' => r = .returned (.agg #[.bool (iN (wa a.i (a.e - s))), .string (iM (wa a.i (a.e - s)))]) ∧ Below w.heap.size w w' := by
 have hh := Hp.start w
 refine aj (N := 12) (l := [.int .i64 s, .agg #[.bool a.neg, .string a.bu, .int .i64 a.e]]) Tryz.func221 rfl rfl (by simp) ?_
 refine sr ?_
 refine cz hh [_,_,_] ?_
 intro b3 w3 hh
 refine cj hh ?_
 intro b4 w4 hh
 refine ae (sr (bB ?_))
 refine cB hh 1 [_,_] (bB ?_)
 refine bE hh 1 ?_
 refine mI ?_
 refine eA ?_
 refine bA hh (lJ a.neg a.bu (a.e - s) _ (hT.hp hh) ha h1 h2) rfl ?_
 intro w11 hh
 refine bD hh 0 [_,_] ?_
 intro ws hh
 replace hh : Hp _ (.blk _ _ [_, _] _ :: _) _ := hh
 refine ae (al ?_)
 refine gr (aH rfl (aG (vs := [_, _]) aA.out (hh.av (i := 0) (n := 2) rfl rfl) rfl) a9) ?_
 exact ⟨rfl, hh.below⟩
theorem uk (x : Dyadic) (p : Int) : wa (nR x).i ((nR x).e - -p) = cO x p := by
 cases x with
 | zero => exact yL _
 | ofOdd n k h =>
  simp only [nR, NR.i, fx, cO]
  congr 1
  omega
theorem iH (x : Dyadic) : nR x = ⟨false, ByteArray.mk #[], 0⟩ ↔ x = 0 := by rw [← lU, Bm]
theorem jo {a : NR} (h : a.ok) : Sz 18000000 a.d ∧ (nR a.d).bu.size ≤ 1000000 ∧ -18000000 ≤ (nR a.d).e ∧ (nR a.d).e ≤ 18000000 := by
 obtain ⟨h1, h2, h3⟩ := h
 refine ⟨Sz.raw (m := 8000000) (E := 10000000) (by omega) (by omega) (by omega), ?_⟩
 by_cases h0 : iv a.neg a.bu = 0
 ·rw [NR.d, NR.i, h0, j9, lU]
  exact ⟨Nat.zero_le _, by simp, by simp⟩
 ·rw [NR.d, NR.i, mz h0]
  have hz : bN a.bu ≠ 0 := fun h => h0 ((vM a.neg a.bu).2 h)
  have htz : tz (bN a.bu) < 8 * a.bu.size + 1 := by
   have := qa a.bu
   rw [show (256 : Nat) = 2 ^ 8 from rfl, ← Nat.pow_mul] at this
   have := qd hz this
   omega
  have hb : bH (iv a.neg a.bu / 2 ^ tz (bN a.bu)).natAbs ≤ 8 * a.bu.size := by
   apply dn
   refine Nat.lt_of_le_of_lt (Int.natAbs_ediv_le_natAbs _ _) ?_
   rw [gD]
   exact Nat.lt_of_lt_of_le (cX _) (Nat.pow_le_pow_right (by omega) (eI _))
  simp only
  rw [dM]
  refine ⟨by omega, by omega, by omega⟩
theorem rn (a b : NR) (w : World) (hT : gW w) (ha : a.ok) (hb : b.ok) :
  Calls Tryz.prog 163 #[.agg #[.bool a.neg, .string a.bu, .int .i64 a.e], .agg #[.bool b.neg, .string b.bu, .int .i64 b.e]] w fun r w' => r = .returned (.agg #[.int .i64 (-(dk a.d b.d)), .bool (iN (cO a.d (dk a.d b.d))), .string (iM (cO a.d (dk a.d b.d))), .bool (iN (cO b.d (dk a.d b.d))), .string (iM (cO b.d (dk a.d b.d)))]) ∧ Below w.heap.size w w' := by
 have hh := Hp.start w
 obtain ⟨ha1, ha2, ha3⟩ := ha
 obtain ⟨hb1, hb2, hb3⟩ := hb
 obtain ⟨_, fa1, fa2, fa3⟩ := jo (a := a) ⟨ha1, ha2, ha3⟩
 obtain ⟨_, fb1, fb2, fb3⟩ := jo (a := b) ⟨hb1, hb2, hb3⟩
 have hP := vV a.d b.d 18000000 (by omega) (by omega)
 have hcx := fun w1 hT1 => qx (-(dk a.d b.d)) (nR a.d) w1 hT1 (by omega) (by omega) (by omega)
 have hcy := fun w1 hT1 => qx (-(dk a.d b.d)) (nR b.d) w1 hT1 (by omega) (by omega) (by omega)
 rw [uk] at hcx hcy
 by_cases h0 : a.d = 0
 ·have h0' := (iH a.d).2 h0
  have hs : (nR b.d).e = -(dk a.d b.d) := by
   rw [h0]
   cases b.d with
   | zero => rfl
   | ofOdd n k h => rfl
  refine aj (N := 41) (l := [.agg #[.bool a.neg, .string a.bu, .int .i64 a.e], .agg #[.bool b.neg, .string b.bu, .int .i64 b.e]]) Tryz.func163 rfl rfl (by simp) ?_
  refine sr ?_
  refine cz hh [_,_,_] ?_
  intro b2 w2 hh
  refine cz hh [_,_,_] ?_
  intro b3 w3 hh
  refine cj hh ?_
  intro b4 w4 hh
  refine ae (ah ?_)
  refine aU 3 [[(2, none)], [(7, some 0)], [(3, none)]] [(2, 9), (1, 8), (0, 7)] hh mixed (by kernel_rfl) ?_
  refine dZ 2 [_,_,_] ?_
  refine dC (fun _ hj => eD a _ (hT.hp hj.hp) (by omega) (by omega) (by omega)) ?_
  refine dZ 1 [_,_,_] ?_
  refine a6 ?_
  intro f W hJ hV
  have hb_1 := hJ.bl
  obtain ⟨v9, v8, v7, _⟩ := hV
  replace hh := hJ.hp
  refine aK (a4 (aa v9 (aa v8 (aa v7 aM)))) ?_
  dsimp only [bX]
  clear hJ
  refine bA hh (eD b _ (hT.hp hh) (by omega) (by omega) (by omega)) rfl ?_
  intro w10 hh
  refine bD hh 2 [_,_,_] ?_
  intro ws hh
  replace hh : Hp _ (_ :: _ :: .blk _ _ [_, _, _] _ :: _) _ := hh
  refine bD hh 1 [_,_,_] ?_
  intro ws hh
  replace hh : Hp _ (_ :: .blk _ _ [_, _, _] _ :: _) _ := hh
  refine ae (sr (bB ?_))
  refine bE hh 2 ?_
  refine bB ?_
  refine bE hh 1 ?_
  refine xB rfl rfl (by decide) ?_
  refine aI (ae (ah (ao (sr ?_))))
  refine cB hh 2 [_,_,_] ?_
  refine eH [_,_,_] ?_
  first | refine lz rfl rfl (by first | assumption | rfl) (by decide) ?_ | refine lH rfl rfl (by assumption) (by decide) ?_
  refine aB (ae (cT (aq (bB ?_))))
  refine bE hh 1 ?_
  refine aI (aC (aT (ai (sr ?_))))
  rw [hs]
  refine mI ?_
  refine eH [_,_,_,_,_] ?_
  refine cj hh ?_
  intro b6 w6 hh
  refine bD hh 0 [_,_,_,_,_] ?_
  intro ws hh
  replace hh : Hp _ (.blk _ _ [_, _, _, _, _] _ :: _) _ := hh
  refine ae (ah ?_)
  refine aU 9 [[(6, none)], [(30, some 0)], [(2, none)], [(31, some 1), (32, some 2)], [(6, none)], [(34, some 4)], [(3, none)], [(35, some 5), (36, some 6)], [(6, none)]] [(8, 38), (7, 37), (6, 36), (5, 35), (4, 34), (3, 33), (2, 32), (1, 31), (0, 30)] hh mixed (by kernel_rfl) ?_
  refine cw ?_
  refine dI 0 ?_
  refine dZ 3 [_,_,_] ?_
  refine dC (fun _ hj => hcx _ (hT.hp hj.hp)) ?_
  refine cw ?_
  refine dI 0 ?_
  refine dZ 2 [_,_,_] ?_
  refine dC (fun _ hj => hcy _ (hT.hp hj.hp)) ?_
  refine cw ?_
  refine a6 ?_
  intro f W hJ hV
  have hb_8 := hJ.bl
  obtain ⟨v38, v37, v36, v35, v34, v33, v32, v31, v30, _⟩ := hV
  replace hh := hJ.hp
  refine aK (a4 (aa v38 (aa v37 (aa v36 (aa v35 (aa v34 (aa v33 (aa v32 (aa v31 (aa v30 aM)))))))))) ?_
  dsimp only [bX]
  clear hJ
  refine bD hh 0 [_,_] ?_
  intro ws hh
  replace hh : Hp _ (.blk _ _ [_, _, _, _, _] _ :: _) _ := hh
  refine bB ?_
  refine bD hh 0 [_,_] ?_
  intro ws hh
  replace hh : Hp _ (.blk _ _ [_, _, _, _, _] _ :: _) _ := hh
  refine ae (sr ?_)
  refine cB hh 0 [_,_,_,_,_] ?_
  refine bD hh 1 [_,_,_,_,_] ?_
  intro ws hh
  replace hh : Hp _ (_ :: .blk _ _ [_, _, _, _, _] _ :: _) _ := hh
  refine ae (al ?_)
  refine gr (aH rfl (aG (vs := [_, _, _, _, _]) aA.out (hh.av (i := 1) (n := 5) rfl rfl) rfl) a9) ?_
  exact ⟨rfl, hh.below⟩
 ·have h0' : ¬ nR a.d = ⟨false, ByteArray.mk #[], 0⟩ := fun h => h0 ((iH _).1 h)
  by_cases h1 : b.d = 0
  ·have h1' := (iH b.d).2 h1
   have hs : (nR a.d).e = -(dk a.d b.d) := by
    rw [h1]
    cases a.d with
    | zero => rfl
    | ofOdd n k h => rfl
   refine aj (N := 41) (l := [.agg #[.bool a.neg, .string a.bu, .int .i64 a.e], .agg #[.bool b.neg, .string b.bu, .int .i64 b.e]]) Tryz.func163 rfl rfl (by simp) ?_
   refine sr ?_
   refine cz hh [_,_,_] ?_
   intro b2 w2 hh
   refine cz hh [_,_,_] ?_
   intro b3 w3 hh
   refine cj hh ?_
   intro b4 w4 hh
   refine ae (ah ?_)
   refine aU 3 [[(2, none)], [(7, some 0)], [(3, none)]] [(2, 9), (1, 8), (0, 7)] hh mixed (by kernel_rfl) ?_
   refine dZ 2 [_,_,_] ?_
   refine dC (fun _ hj => eD a _ (hT.hp hj.hp) (by omega) (by omega) (by omega)) ?_
   refine dZ 1 [_,_,_] ?_
   refine a6 ?_
   intro f W hJ hV
   have hb_1 := hJ.bl
   obtain ⟨v9, v8, v7, _⟩ := hV
   replace hh := hJ.hp
   refine aK (a4 (aa v9 (aa v8 (aa v7 aM)))) ?_
   dsimp only [bX]
   clear hJ
   refine bA hh (eD b _ (hT.hp hh) (by omega) (by omega) (by omega)) rfl ?_
   intro w10 hh
   refine bD hh 2 [_,_,_] ?_
   intro ws hh
   replace hh : Hp _ (_ :: _ :: .blk _ _ [_, _, _] _ :: _) _ := hh
   refine bD hh 1 [_,_,_] ?_
   intro ws hh
   replace hh : Hp _ (_ :: .blk _ _ [_, _, _] _ :: _) _ := hh
   refine ae (sr (bB ?_))
   refine bE hh 2 ?_
   refine bB ?_
   refine bE hh 1 ?_
   refine xB rfl rfl (by decide) ?_
   refine aI (ae (ah (ao (sr ?_))))
   refine cB hh 2 [_,_,_] ?_
   refine eH [_,_,_] ?_
   first | refine lz rfl rfl (by first | assumption | rfl) (by decide) ?_ | refine lH rfl rfl (by assumption) (by decide) ?_
   refine aB (ae (cF (sr ?_)))
   refine cB hh 1 [_,_,_] ?_
   refine eH [_,_,_] ?_
   first | refine lz rfl rfl (by first | assumption | rfl) (by decide) ?_ | refine lH rfl rfl (by assumption) (by decide) ?_
   refine aB (ae (cT (aq (bB ?_))))
   refine bE hh 2 ?_
   refine aI (aC (aT (ai (sr ?_))))
   rw [hs]
   refine mI ?_
   refine eH [_,_,_,_,_] ?_
   refine cj hh ?_
   intro b6 w6 hh
   refine bD hh 0 [_,_,_,_,_] ?_
   intro ws hh
   replace hh : Hp _ (.blk _ _ [_, _, _, _, _] _ :: _) _ := hh
   refine ae (ah ?_)
   refine aU 9 [[(6, none)], [(30, some 0)], [(2, none)], [(31, some 1), (32, some 2)], [(6, none)], [(34, some 4)], [(3, none)], [(35, some 5), (36, some 6)], [(6, none)]] [(8, 38), (7, 37), (6, 36), (5, 35), (4, 34), (3, 33), (2, 32), (1, 31), (0, 30)] hh mixed (by kernel_rfl) ?_
   refine cw ?_
   refine dI 0 ?_
   refine dZ 3 [_,_,_] ?_
   refine dC (fun _ hj => hcx _ (hT.hp hj.hp)) ?_
   refine cw ?_
   refine dI 0 ?_
   refine dZ 2 [_,_,_] ?_
   refine dC (fun _ hj => hcy _ (hT.hp hj.hp)) ?_
   refine cw ?_
   refine a6 ?_
   intro f W hJ hV
   have hb_8 := hJ.bl
   obtain ⟨v38, v37, v36, v35, v34, v33, v32, v31, v30, _⟩ := hV
   replace hh := hJ.hp
   refine aK (a4 (aa v38 (aa v37 (aa v36 (aa v35 (aa v34 (aa v33 (aa v32 (aa v31 (aa v30 aM)))))))))) ?_
   dsimp only [bX]
   clear hJ
   refine bD hh 0 [_,_] ?_
   intro ws hh
   replace hh : Hp _ (.blk _ _ [_, _, _, _, _] _ :: _) _ := hh
   refine bB ?_
   refine bD hh 0 [_,_] ?_
   intro ws hh
   replace hh : Hp _ (.blk _ _ [_, _, _, _, _] _ :: _) _ := hh
   refine ae (sr ?_)
   refine cB hh 0 [_,_,_,_,_] ?_
   refine bD hh 1 [_,_,_,_,_] ?_
   intro ws hh
   replace hh : Hp _ (_ :: .blk _ _ [_, _, _, _, _] _ :: _) _ := hh
   refine ae (al ?_)
   refine gr (aH rfl (aG (vs := [_, _, _, _, _]) aA.out (hh.av (i := 1) (n := 5) rfl rfl) rfl) a9) ?_
   exact ⟨rfl, hh.below⟩
  ·have h1' : ¬ nR b.d = ⟨false, ByteArray.mk #[], 0⟩ := fun h => h1 ((iH _).1 h)
   have hs : (if (nR b.d).e < (nR a.d).e then (nR b.d).e else (nR a.d).e) = -(dk a.d b.d) := by
    revert h0 h1
    cases a.d with
    | zero => intro h; exact absurd rfl h
    | ofOdd n k h =>
     cases b.d with
     | zero => intro _ h; exact absurd rfl h
     | ofOdd m l g =>
      intro _ _
      simp only [nR, dk]
      omega
   refine aj (N := 41) (l := [.agg #[.bool a.neg, .string a.bu, .int .i64 a.e], .agg #[.bool b.neg, .string b.bu, .int .i64 b.e]]) Tryz.func163 rfl rfl (by simp) ?_
   refine sr ?_
   refine cz hh [_,_,_] ?_
   intro b2 w2 hh
   refine cz hh [_,_,_] ?_
   intro b3 w3 hh
   refine cj hh ?_
   intro b4 w4 hh
   refine ae (ah ?_)
   refine aU 3 [[(2, none)], [(7, some 0)], [(3, none)]] [(2, 9), (1, 8), (0, 7)] hh mixed (by kernel_rfl) ?_
   refine dZ 2 [_,_,_] ?_
   refine dC (fun _ hj => eD a _ (hT.hp hj.hp) (by omega) (by omega) (by omega)) ?_
   refine dZ 1 [_,_,_] ?_
   refine a6 ?_
   intro f W hJ hV
   have hb_1 := hJ.bl
   obtain ⟨v9, v8, v7, _⟩ := hV
   replace hh := hJ.hp
   refine aK (a4 (aa v9 (aa v8 (aa v7 aM)))) ?_
   dsimp only [bX]
   clear hJ
   refine bA hh (eD b _ (hT.hp hh) (by omega) (by omega) (by omega)) rfl ?_
   intro w10 hh
   refine bD hh 2 [_,_,_] ?_
   intro ws hh
   replace hh : Hp _ (_ :: _ :: .blk _ _ [_, _, _] _ :: _) _ := hh
   refine bD hh 1 [_,_,_] ?_
   intro ws hh
   replace hh : Hp _ (_ :: .blk _ _ [_, _, _] _ :: _) _ := hh
   refine ae (sr (bB ?_))
   refine bE hh 2 ?_
   refine bB ?_
   refine bE hh 1 ?_
   refine xB rfl rfl (by decide) ?_
   refine aI (ae (ah (ao (sr ?_))))
   refine cB hh 2 [_,_,_] ?_
   refine eH [_,_,_] ?_
   first | refine lz rfl rfl (by first | assumption | rfl) (by decide) ?_ | refine lH rfl rfl (by assumption) (by decide) ?_
   refine aB (ae (cF (sr ?_)))
   refine cB hh 1 [_,_,_] ?_
   refine eH [_,_,_] ?_
   first | refine lz rfl rfl (by first | assumption | rfl) (by decide) ?_ | refine lH rfl rfl (by assumption) (by decide) ?_
   refine aB (ae (cF (ak (aT (ai (sr ?_))))))
   rw [hs]
   refine mI ?_
   refine eH [_,_,_,_,_] ?_
   refine cj hh ?_
   intro b6 w6 hh
   refine bD hh 0 [_,_,_,_,_] ?_
   intro ws hh
   replace hh : Hp _ (.blk _ _ [_, _, _, _, _] _ :: _) _ := hh
   refine ae (ah ?_)
   refine aU 9 [[(6, none)], [(30, some 0)], [(2, none)], [(31, some 1), (32, some 2)], [(6, none)], [(34, some 4)], [(3, none)], [(35, some 5), (36, some 6)], [(6, none)]] [(8, 38), (7, 37), (6, 36), (5, 35), (4, 34), (3, 33), (2, 32), (1, 31), (0, 30)] hh mixed (by kernel_rfl) ?_
   refine cw ?_
   refine dI 0 ?_
   refine dZ 3 [_,_,_] ?_
   refine dC (fun _ hj => hcx _ (hT.hp hj.hp)) ?_
   refine cw ?_
   refine dI 0 ?_
   refine dZ 2 [_,_,_] ?_
   refine dC (fun _ hj => hcy _ (hT.hp hj.hp)) ?_
   refine cw ?_
   refine a6 ?_
   intro f W hJ hV
   have hb_8 := hJ.bl
   obtain ⟨v38, v37, v36, v35, v34, v33, v32, v31, v30, _⟩ := hV
   replace hh := hJ.hp
   refine aK (a4 (aa v38 (aa v37 (aa v36 (aa v35 (aa v34 (aa v33 (aa v32 (aa v31 (aa v30 aM)))))))))) ?_
   dsimp only [bX]
   clear hJ
   refine bD hh 0 [_,_] ?_
   intro ws hh
   replace hh : Hp _ (.blk _ _ [_, _, _, _, _] _ :: _) _ := hh
   refine bB ?_
   refine bD hh 0 [_,_] ?_
   intro ws hh
   replace hh : Hp _ (.blk _ _ [_, _, _, _, _] _ :: _) _ := hh
   refine ae (sr ?_)
   refine cB hh 0 [_,_,_,_,_] ?_
   refine bD hh 1 [_,_,_,_,_] ?_
   intro ws hh
   replace hh : Hp _ (_ :: .blk _ _ [_, _, _, _, _] _ :: _) _ := hh
   refine ae (al ?_)
   refine gr (aH rfl (aG (vs := [_, _, _, _, _]) aA.out (hh.av (i := 1) (n := 5) rfl rfl) rfl) a9) ?_
   exact ⟨rfl, hh.below⟩
end Go.Proofs.YtaapkaefelhfcaaGreatDoor
namespace Go.Proofs.YtaapkaefelhfcaaGreatDoor
open Go.RowKit
def CI (x y : Dyadic) : Int := if x < y then -1 else if y < x then 1 else 0
theorem pZ {a b : NR} (ha : a.ok) (hb : b.ok) : (iM (cO a.d (dk a.d b.d))).size ≤ 6000000 ∧ (iM (cO b.d (dk a.d b.d))).size ≤ 6000000 ∧ -18000000 ≤ dk a.d b.d ∧ dk a.d b.d ≤ 18000000 := by
 obtain ⟨_, fa1, fa2, fa3⟩ := jo ha
 obtain ⟨_, fb1, fb2, fb3⟩ := jo hb
 have hP := vV a.d b.d 18000000 (by omega) (by omega)
 have h1 := n5 a.d (dk a.d b.d)
 have h2 := n5 b.d (dk a.d b.d)
 rw [dM, dM]
 refine ⟨by omega, by omega, hP.1, hP.2⟩
def CP (n : Int) : Dyadic := Dyadic.ofIntWithPrec 1 (-n)
def mn : List Dyadic → Dyadic := fun l => l.foldl (· + ·) 0
theorem pM (l : List Dyadic) (x : Dyadic) : mn (l ++ [x]) = mn l + x := by simp [mn]
theorem Sz.sum {k : Nat} {l : List Dyadic} (h : ∀ x ∈ l, Sz k x) : Sz (k + l.length) (mn l) := by
 have : ∀ (n : Nat), n ≤ l.length → Sz (k + n) (mn (l.take n)) := by
  intro n
  induction n with
  | zero => intro _; exact Sz.zero _
  | succ n ih =>
   intro hn
   obtain ⟨x, hx⟩ := aE (l := l) (k := n) (by omega)
   rw [aN hx, pM]
   exact (ih (by omega)).add ((h x (List.mem_of_getElem? hx)).mono (by omega))
 have h2 := this l.length (Nat.le_refl _)
 rwa [List.take_length] at h2
theorem oR (a b : NR) (w : World) (hT : gW w) (ha : a.ok) (hb : b.ok) :
  Calls Tryz.prog 164 #[.agg #[.bool (iN (cO a.d (dk a.d b.d) + cO b.d (dk a.d b.d))), .string (iM (cO a.d (dk a.d b.d) + cO b.d (dk a.d b.d)))], .int .i64 (-(dk a.d b.d))] w fun r w' => r = .returned (.agg #[.bool (nR (a.d + b.d)).neg, .string (nR (a.d + b.d)).bu, .int .i64 (nR (a.d + b.d)).e]) ∧ Below w.heap.size w w' := by
 obtain ⟨hs1, hs2, hP1, hP2⟩ := pZ ha hb
 rw [dM] at hs1 hs2
 have h3 := jB (cO a.d (dk a.d b.d)) (cO b.d (dk a.d b.d))
 have := iK (iN (cO a.d (dk a.d b.d) + cO b.d (dk a.d b.d))) (iM (cO a.d (dk a.d b.d) + cO b.d (dk a.d b.d))) (-(dk a.d b.d)) w hT (by rw [dM]; omega) (by omega) (by omega)
 rw [fx, Int.neg_neg, zV] at this
 exact this
theorem oZ (L : Option Addr) (n c : Nat) (l : List NR) (w : World) (hT : gW w) (hS : Sl w L n 3 (aP NR.cells l)) (hl : ∀ a ∈ l, a.ok) (k : Nat) (hk : ∀ a ∈ l, Sz k a.d) (hkn : k + n ≤ 3999990) :
  Calls Tryz.prog 65 #[.slice L n c] w fun r w' => r = .returned (.agg #[.bool (nR (mn (l.map NR.d))).neg, .string (nR (mn (l.map NR.d))).bu, .int .i64 (nR (mn (l.map NR.d))).e]) ∧ Below w.heap.size w w' := by
 have hln := hS.cx NR.len (by omega)
 have hh := Hp.start w
 refine aj (N := 27) (l := [.slice L n c]) Tryz.func65 rfl rfl (by simp) ?_
 refine sr ?_
 refine cj hh ?_
 intro b2 w2 hh
 refine ae (sr ?_)
 refine cj hh ?_
 intro b3 w3 hh
 refine ae (ah (sr (mL (a0 (mI (ae (ao ?_)))))))
 refine bs [5, 6, 9, 10, 11, 12, 13, 14, 15, 16, 17, 18, 19, 20, 21, 22, 23, 24, 25] 9
  (fun j w' => ∃ (i : Nat) (S : Dyadic), i ≤ n ∧ j = .int .i64 i ∧ S = mn ((l.take i).map NR.d) ∧ Hp w [.blk b3 29 [.bool (nR S).neg, .string (nR S).bu, .int .i64 (nR S).e] (0, 0), .blk b2 29 [.bool false, .string (ByteArray.mk #[]), .int .i64 0] (0, 0)] w')
  (fun j _ => n - (intOf j).toNat) ?_ ?_
 ·exact ⟨0, 0, Nat.zero_le _, rfl, rfl, hh⟩
 ·clear hh
  rintro ρ' j w' ⟨i, S, hi, rfl, hS2, hh⟩
  by_cases hlt : i < n
  ·obtain ⟨x, hx⟩ := aE (l := l) (k := i) (by omega)
   obtain ⟨ad, rfl, hr⟩ := hS.at_ (by omega)
   have hxm := List.mem_of_getElem? hx
   have hS3 : mn ((l.take (i + 1)).map NR.d) = S + x.d := by rw [aN hx, List.map_append, List.map_singleton, pM, hS2]
   have hSz : Sz (k + i) S := by
    rw [hS2]
    have := Sz.sum (k := k) (l := (l.take i).map NR.d) (fun y hy => by
     obtain ⟨a, ha, rfl⟩ := List.mem_map.1 hy
     exact hk a (List.mem_of_mem_take ha))
    rw [List.length_map, List.length_take, Nat.min_eq_left (by omega)] at this
    exact this
   have hSo := hSz.ok (by omega)
   have hlc := fun w1 hT1 => rn (nR S) x w1 hT1 hSo (hl x hxm)
   have hmc := fun w1 hT1 => oR (nR S) x w1 hT1 hSo (hl x hxm)
   obtain ⟨hs1, hs2, _⟩ := pZ hSo (hl x hxm)
   rw [dy] at hlc hmc hs1 hs2
   have e1 : ([iR (cO S (dk S x.d)), iR (cO x.d (dk S x.d))].map IR.v).sum = cO S (dk S x.d) + cO x.d (dk S x.d) := by
    simp only [List.map_cons, List.map_nil, List.sum_cons, List.sum_nil, BQ]; omega
   have hac : ∀ (A : Option Addr) (cc : Nat) (w1 : World), Sl w1 A 2 2 (aP IR.cells [iR (cO S (dk S x.d)), iR (cO x.d (dk S x.d))]) → Calls Tryz.prog 165 #[.slice A 2 cc] w1 fun e w' => e = .returned (.agg #[.bool (iN (cO S (dk S x.d) + cO x.d (dk S x.d))), .string (iM (cO S (dk S x.d) + cO x.d (dk S x.d)))]) ∧ Below w1.heap.size w1 w' := fun A cc w1 hsl => by
    have := oG A 2 cc [iR (cO S (dk S x.d)), iR (cO x.d (dk S x.d))] w1 hsl (by omega) (by simp [iR]; omega)
    rw [e1] at this
    exact this
   refine sr ?_
   refine aW (ae (ah (cT (ak (ai (ah (ao (sr ?_))))))))
   refine aQ (k := i) aF.out aA.size rfl rfl (by omega) (by omega) (by decide) ?_
   refine bR (vs := [_, _, _]) aA.out rfl (((hr.ext hh.below).recAt NR.len hx)) rfl (by decide) ?_
   refine cj hh ?_
   intro b5 w5 hh
   refine bD hh 0 [_,_,_] ?_
   intro ws hh
   replace hh : Hp _ (.blk _ _ [_, _, _] _ :: _) _ := hh
   refine ae (sr ?_)
   refine cB hh 1 [_,_,_] ?_
   refine cB hh 0 [_,_,_] ?_
   refine bA hh (hlc _ (hT.hp hh)) rfl ?_
   intro w15 hh
   refine cj hh ?_
   intro b6 w6 hh
   refine bD hh 0 [_,_,_,_,_] ?_
   intro ws hh
   replace hh : Hp _ (.blk _ _ [_, _, _, _, _] _ :: _) _ := hh
   refine ae ?_
   refine aU 8 [[(6, none)], [(16, some 0)], [(6, none)], [(18, some 2)], [(17, some 1), (19, some 3)], [(20, some 4)], [(6, none)], [(22, some 6)]] [(7, 23), (6, 22), (5, 21), (4, 20), (3, 19), (2, 18), (1, 17), (0, 16)] hh mixed (by kernel_rfl) ?_
   refine cw ?_
   refine dZ 0 [_,_] ?_
   refine cw ?_
   refine dZ 0 [_,_] ?_
   refine px [_,_,_,_] ?_
   refine bk (i := 5) (Is (.agg #[.bool (iN (cO S (dk S x.d) + cO x.d (dk S x.d))), .string (iM (cO S (dk S x.d) + cO x.d (dk S x.d)))])) Is.ext ?_ ?_
   ·intro ρ1 w1 hj hR
    obtain ⟨A20, c20, h20, s20⟩ := hR.1
    exact bU rfl (a3 ar.out (az h20 a7)) (hac A20 c20 _ s20) (fun _ _ hq => ⟨_, hq.1, hq.2, rfl⟩)
   refine cw ?_
   refine dI 0 ?_
   refine a6 ?_
   intro f W hJ hV
   have hb_6 := hJ.bl
   obtain ⟨v23, v22, v21, v20, v19, v18, v17, v16, _⟩ := hV
   obtain ⟨A20, c20, e20, f20⟩ : Rows _ _ _ (f 4) W := v20
   replace hh := hJ.hp
   refine aK (a4 (aa v23 (aa v22 (aa v21 (aa e20 (aa v19 (aa v18 (aa v17 (aa v16 aM))))))))) ?_
   dsimp only [bX]
   clear e20 hJ
   refine bA hh (hmc _ (hT.hp hh)) rfl ?_
   intro w24 hh
   refine bD hh 2 [_,_,_] ?_
   intro ws hh
   replace hh : Hp _ (_ :: _ :: .blk _ _ [_, _, _] _ :: _) _ := hh
   refine aC (aT (ai (aq ?_)))
   refine bL (mI (aC (ai ?_)))
   replace hh := hh.sub ((List.sublist_cons_self _ _).trans (List.sublist_cons_self _ _))
   refine ⟨⟨i + 1, _, by omega, rfl, hS3.symm, hh⟩, by show n - (i + 1) < n - i; omega, ?_⟩
   (repeat (first | exact aw _ _ _ | refine ax rfl ?_ | refine au rfl ?_))
  ·refine sr ?_
   refine aW (ae (ah (cF ?_)))
   refine aO ?_
   refine ay (ay (a8 (ai (sr ?_))))
   refine cB hh 0 [_,_,_] ?_
   refine bD hh 1 [_,_,_] ?_
   intro ws hh
   replace hh : Hp _ (_ :: .blk _ _ [_, _, _] _ :: _) _ := hh
   refine ae (al ?_)
   refine gr (aH rfl (aG (vs := [_, _, _]) aA.out (hh.av (i := 1) (n := 3) rfl rfl) rfl) a9) ?_
   rw [List.take_of_length_le (by omega)] at hS2
   rw [hS2]
   exact ⟨rfl, hh.below⟩
theorem sg (x y : Dyadic) : mn [x, y] = x + y := by
 show (0 + x) + y = x + y
 rw [Dyadic.zero_add]
def gU : List Dyadic → Dyadic := fun l => l.foldl (· * ·) 1
theorem oV (l : List Dyadic) (x : Dyadic) : gU (l ++ [x]) = gU l * x := by simp [gU]
theorem Sz.one : Sz 1 1 := ⟨2, by decide +kernel, by decide⟩
theorem Sz.prod {k : Nat} {l : List Dyadic} (h : ∀ x ∈ l, Sz k x) : Sz (1 + k * l.length) (gU l) := by
 have : ∀ (n : Nat), n ≤ l.length → Sz (1 + k * n) (gU (l.take n)) := by
  intro n
  induction n with
  | zero => intro _; exact Sz.one
  | succ n ih =>
   intro hn
   obtain ⟨x, hx⟩ := aE (l := l) (k := n) (by omega)
   rw [aN hx, oV]
   exact ((ih (by omega)).mul (h x (List.mem_of_getElem? hx))).mono (by rw [Nat.mul_succ]; omega)
 have h2 := this l.length (Nat.le_refl _)
 rwa [List.take_length] at h2
theorem gC (L : Option Addr) (n c : Nat) (l : List NR) (w : World) (hT : gW w) (hS : Sl w L n 3 (aP NR.cells l)) (hl : ∀ a ∈ l, a.ok) (k : Nat) (hk : ∀ a ∈ l, Sz k a.d) (hkn : k * n ≤ 3999980) (hn : n ≤ 1000000) :
  Calls Tryz.prog 66 #[.slice L n c] w fun r w' => r = .returned (.agg #[.bool (nR (gU (l.map NR.d))).neg, .string (nR (gU (l.map NR.d))).bu, .int .i64 (nR (gU (l.map NR.d))).e]) ∧ Below w.heap.size w w' := by
 have hln := hS.cx NR.len (by omega)
 have hh := Hp.start w
 refine aj (N := 27) (l := [.slice L n c]) Tryz.func66 rfl rfl (by simp) ?_
 refine sr ?_
 refine cj hh ?_
 intro b2 w2 hh
 refine ae (sr ?_)
 refine bA hh (mH 1 _ (hT.hp hh) (by omega) (by omega)) rfl ?_
 intro w6 hh
 refine cj hh ?_
 intro b3 w3 hh
 refine bD hh 0 [_,_,_] ?_
 intro ws hh
 replace hh : Hp _ (.blk _ _ [_, _, _] _ :: _) _ := hh
 refine ae (ah (sr (mL (a0 (mI (ae (ao ?_)))))))
 refine bs [5, 9, 10, 11, 12, 13, 14, 15, 16, 17, 18, 19, 20, 21, 22, 23, 24, 25] 9
  (fun j w' => ∃ (i : Nat) (S : Dyadic), i ≤ n ∧ j = .int .i64 i ∧ S = gU ((l.take i).map NR.d) ∧ Hp w [.blk b3 29 [.bool (nR S).neg, .string (nR S).bu, .int .i64 (nR S).e] (0, 0), .blk b2 29 [.bool false, .string (ByteArray.mk #[]), .int .i64 0] (0, 0)] w')
  (fun j _ => n - (intOf j).toNat) ?_ ?_
 ·exact ⟨0, _, Nat.zero_le _, rfl, rfl, hh⟩
 ·clear hh
  rintro ρ' j w' ⟨i, S, hi, rfl, hS2, hh⟩
  by_cases hlt : i < n
  ·obtain ⟨x, hx⟩ := aE (l := l) (k := i) (by omega)
   obtain ⟨ad, rfl, hr⟩ := hS.at_ (by omega)
   have hxm := List.mem_of_getElem? hx
   have hS3 : gU ((l.take (i + 1)).map NR.d) = S * x.d := by rw [aN hx, List.map_append, List.map_singleton, oV, hS2]
   have hSz : Sz (1 + k * i) S := by
    rw [hS2]
    have := Sz.prod (k := k) (l := (l.take i).map NR.d) (fun y hy => by
     obtain ⟨a, ha, rfl⟩ := List.mem_map.1 hy
     exact hk a (List.mem_of_mem_take ha))
    rw [List.length_map, List.length_take, Nat.min_eq_left (by omega)] at this
    exact this
   have hki : k * i ≤ k * n := Nat.mul_le_mul_left _ hi
   obtain ⟨so1, so2, so3⟩ := hSz.ok (by omega)
   obtain ⟨xo1, xo2, xo3⟩ := hl x hxm
   have e1 : j2 ([IR.mk (nR S).neg (nR S).bu, IR.mk x.neg x.bu].map IR.v) = (nR S).i * x.i := by
    simp only [List.map_cons, List.map_nil, j2, Int.mul_one]; rfl
   have e2 : Dyadic.ofIntWithPrec ((nR S).i * x.i) (-((nR S).e + x.e)) = S * x.d := by
    have := ri (nR S).i x.i (-(nR S).e) (-x.e)
    rw [Int.neg_add, ← this]
    congr 1
    exact dy S
   have hac : ∀ (A : Option Addr) (cc : Nat) (w1 : World), Sl w1 A 2 2 (aP IR.cells [IR.mk (nR S).neg (nR S).bu, IR.mk x.neg x.bu]) → Calls Tryz.prog 166 #[.slice A 2 cc] w1 fun e w' => e = .returned (.agg #[.bool (iN ((nR S).i * x.i)), .string (iM ((nR S).i * x.i))]) ∧ Below w1.heap.size w1 w' := fun A cc w1 hsl => by
    have := uO A 2 cc [IR.mk (nR S).neg (nR S).bu, IR.mk x.neg x.bu] w1 hsl (by omega) (by simp; omega)
    rw [e1] at this
    exact this
   have hmc : ∀ w1, gW w1 → Calls Tryz.prog 164 #[.agg #[.bool (iN ((nR S).i * x.i)), .string (iM ((nR S).i * x.i))], .int .i64 ((nR S).e + x.e)] w1 fun r w' => r = .returned (.agg #[.bool (nR (S * x.d)).neg, .string (nR (S * x.d)).bu, .int .i64 (nR (S * x.d)).e]) ∧ Below w1.heap.size w1 w' := fun w1 hT1 => by
    have hb1 := hF (nR S).neg (nR S).bu
    have hb2 := hF x.neg x.bu
    have hb3 := jz (nR S).i x.i
    have := iK (iN ((nR S).i * x.i)) (iM ((nR S).i * x.i)) ((nR S).e + x.e) w1 hT1 (by rw [dM]; unfold NR.i at hb3 ⊢; omega) (by omega) (by omega)
    rw [fx, e2] at this
    exact this
   refine sr ?_
   refine aW (ae (ah (cT (ak (ai (ah (ao (sr ?_))))))))
   refine aQ (k := i) aF.out aA.size rfl rfl (by omega) (by omega) (by decide) ?_
   refine bR (vs := [_, _, _]) aA.out rfl (((hr.ext hh.below).recAt NR.len hx)) rfl (by decide) ?_
   refine cj hh ?_
   intro b5 w5 hh
   refine bD hh 0 [_,_,_] ?_
   intro ws hh
   replace hh : Hp _ (.blk _ _ [_, _, _] _ :: _) _ := hh
   refine ae ?_
   refine aU 11 [[(3, none)], [(13, some 0)], [(5, none)], [(15, some 2)], [(14, some 1), (16, some 3)], [(17, some 4)], [(3, none)], [(19, some 6)], [(5, none)], [(21, some 8)], [(20, some 7), (22, some 9)]] [(10, 23), (9, 22), (8, 21), (7, 20), (6, 19), (5, 18), (4, 17), (3, 16), (2, 15), (1, 14), (0, 13)] hh mixed (by kernel_rfl) ?_
   refine cw ?_
   refine dZ 1 [_,_] ?_
   refine cw ?_
   refine dZ 0 [_,_] ?_
   refine px [_,_,_,_] ?_
   refine bk (i := 5) (Is (.agg #[.bool (iN ((nR S).i * x.i)), .string (iM ((nR S).i * x.i))])) Is.ext ?_ ?_
   ·intro ρ1 w1 hj hR
    obtain ⟨A17, c17, h17, s17⟩ := hR.1
    exact bU rfl (a3 ar.out (az h17 a7)) (hac A17 c17 _ s17) (fun _ _ hq => ⟨_, hq.1, hq.2, rfl⟩)
   refine cw ?_
   refine dI 1 ?_
   refine cw ?_
   refine dI 0 ?_
   refine uX ?_
   refine a6 ?_
   intro f W hJ hV
   have hb_5 := hJ.bl
   obtain ⟨v23, v22, v21, v20, v19, v18, v17, v16, v15, v14, v13, _⟩ := hV
   obtain ⟨A17, c17, e17, f17⟩ : Rows _ _ _ (f 4) W := v17
   replace hh := hJ.hp
   refine aK (a4 (aa v23 (aa v22 (aa v21 (aa v20 (aa v19 (aa v18 (aa e17 (aa v16 (aa v15 (aa v14 (aa v13 aM)))))))))))) ?_
   dsimp only [bX]
   clear e17 hJ
   refine bA hh (hmc _ (hT.hp hh)) rfl ?_
   intro w24 hh
   refine bD hh 1 [_,_,_] ?_
   intro ws hh
   replace hh : Hp _ (_ :: .blk _ _ [_, _, _] _ :: _) _ := hh
   refine aC (aT (ai (aq ?_)))
   refine bL (mI (aC (ai ?_)))
   replace hh := hh.sub (List.sublist_cons_self _ _)
   refine ⟨⟨i + 1, _, by omega, rfl, hS3.symm, hh⟩, by show n - (i + 1) < n - i; omega, ?_⟩
   (repeat (first | exact aw _ _ _ | refine ax rfl ?_ | refine au rfl ?_))
  ·refine sr ?_
   refine aW (ae (ah (cF ?_)))
   refine aO ?_
   refine ay (ay (a8 (ai (sr ?_))))
   refine cB hh 0 [_,_,_] ?_
   refine bD hh 1 [_,_,_] ?_
   intro ws hh
   replace hh : Hp _ (_ :: .blk _ _ [_, _, _] _ :: _) _ := hh
   refine ae (al ?_)
   refine gr (aH rfl (aG (vs := [_, _, _]) aA.out (hh.av (i := 1) (n := 3) rfl rfl) rfl) a9) ?_
   rw [List.take_of_length_le (by omega)] at hS2
   rw [hS2]
   exact ⟨rfl, hh.below⟩
end Go.Proofs.YtaapkaefelhfcaaGreatDoor
namespace Go.Proofs.YtaapkaefelhfcaaGreatDoor
open Go.RowKit
def Cz (f : Dyadic → Dyadic → Bool) : List Dyadic → Dyadic
 | [] => 0
 | a :: r => r.foldl (fun out a => if f a out then a else out) a
end Go.Proofs.YtaapkaefelhfcaaGreatDoor
namespace Go.Proofs.YtaapkaefelhfcaaGreatDoor
end Go.Proofs.YtaapkaefelhfcaaGreatDoor
