/- Lemmas for liftValues, part 3. -/
import Derived.Test.YtioilmppidlbnaaGreatDoorZ2
/- Several texts in one: Nat, NatB, NatC, NatD, NatE, NatF. -/
namespace Go.Proofs.YtioilmppidlbnaaGreatDoor
open Go.RowKit
theorem fw (A : Option Addr) (n c : Nat) (xs : List Nat) (w : World) (hx : Sl w A n 1 (cz xs)) (hc : n ≤ c) (hn : n ≤ 1000000000000) :
  Calls Tryz.prog 194 #[.slice A n c] w fun e w' => e = .returned (.slice A (du xs).length c) ∧ Below w.heap.size w w' := by
 have hlen : xs.length = n := by have := hx.1; rw [aU] at this; omega
 have hh := Hp.start w
 refine al (N := 21) (l := [.slice A n c]) Tryz.func194 rfl rfl (by simp) ?_
 refine sr (aL (aa (ah (aj ?_))))
 refine bo [0, 3, 4, 5, 6, 7, 8, 9, 10, 11, 12, 13, 14, 15, 16, 17, 18, 19] 0
  (fun v w' => ∃ k : Nat, k ≤ n ∧ v = .slice A k c ∧ du (xs.take k) = du xs ∧ w' = w)
  (fun v _ => lenOf v) ?_ ?_
 ·exact ⟨n, Nat.le_refl _, rfl, by rw [List.take_of_length_le (by omega)], rfl⟩
 ·rintro ρ' v w' ⟨k, hk, rfl, hcut, rfl⟩
  by_cases h0 : k = 0
  ·subst h0
   refine ah (sr (mL (aV ?_)))
   refine bQ (mB ?_)
   first | refine gS ?_ | (refine gT ?_; refine mL ?_) | refine gV ?_
   first | refine gS ?_ | (refine gT ?_; refine mL ?_) | refine gV ?_
   first | refine gS ?_ | (refine gT ?_; refine aV ?_) | refine gV ?_
   first | refine gS ?_ | (refine gT ?_; refine et ?_) | refine gV ?_
   first | refine gS ?_ | (refine gT ?_; refine gu aH.out aD.size rfl rfl (by omega) (by omega) (by decide) ?_) | refine gV ?_
   first | (refine bZ (by decide) rfl rfl (by decide) ?_) | (refine wl_guard_skipV (by decide) rfl rfl ?_)
   first | refine gS ?_ | (refine gT ?_; refine dN ?_) | refine gV ?_
   first | refine dh ?_ | refine de ?_
   refine aa (cF ?_)
   refine aN ?_
   refine az (az (a7 (ai (sr (mL (aL (aa (aq ?_))))))))
   refine ck ?_
   rw [← hcut]
   exact ⟨rfl, hh.below⟩
  ·obtain ⟨j, rfl⟩ : ∃ j, k = j + 1 := ⟨k - 1, by omega⟩
   obtain ⟨d, hd⟩ := ay (l := xs) (k := j) (by omega)
   obtain ⟨ad, rfl, hr⟩ := hx.at_ (by omega)
   have hd2 := dK hd
   rw [aO hd] at hcut
   by_cases hz : d = 0
   ·subst hz
    rw [my] at hcut
    refine ah (sr (mL (aV ?_)))
    refine bQ (mB ?_)
    first | refine gS ?_ | (refine gT ?_; refine mL ?_) | refine gV ?_
    first | refine gS ?_ | (refine gT ?_; refine mL ?_) | refine gV ?_
    first | refine gS ?_ | (refine gT ?_; refine aV ?_) | refine gV ?_
    first | refine gS ?_ | (refine gT ?_; refine et ?_) | refine gV ?_
    first | refine gS ?_ | (refine gT ?_; refine aC (k := j) aH.out aD.size rfl rfl (by omega) (by omega) (by decide) ?_) | refine gV ?_
    first | refine gS ?_ | (refine gT ?_; refine aK aD.out rfl ((hr.ext hh.below).eC (by assumption)) (by decide) ?_) | refine gV ?_
    first | refine gS ?_ | (refine gT ?_; refine dN ?_) | refine gV ?_
    first | refine dh ?_ | refine de ?_
    refine aa (cT (ak (ai (aj (ao (mL (mL (aV ?_))))))))
    refine et ?_
    refine mQ (h := j) aH.out aD.size rfl rfl (by omega) (by omega) (by decide) ?_
    refine aL (aE (aW (ai ?_)))
    refine ⟨⟨j, by omega, rfl, hcut, rfl⟩, by show j < j + 1; omega, ?_⟩
    (repeat (first | exact aw _ _ _ | refine aA rfl ?_ | refine ar rfl ?_))
   ·rw [ow hz] at hcut
    refine ah (sr (mL (aV ?_)))
    refine bQ (mB ?_)
    first | refine gS ?_ | (refine gT ?_; refine mL ?_) | refine gV ?_
    first | refine gS ?_ | (refine gT ?_; refine mL ?_) | refine gV ?_
    first | refine gS ?_ | (refine gT ?_; refine aV ?_) | refine gV ?_
    first | refine gS ?_ | (refine gT ?_; refine et ?_) | refine gV ?_
    first | refine gS ?_ | (refine gT ?_; refine aC (k := j) aH.out aD.size rfl rfl (by omega) (by omega) (by decide) ?_) | refine gV ?_
    first | refine gS ?_ | (refine gT ?_; refine aK aD.out rfl ((hr.ext hh.below).eC (by assumption)) (by decide) ?_) | refine gV ?_
    first | refine gS ?_ | (refine gT ?_; refine dN ?_) | refine gV ?_
    first | refine dh ?_ | refine de ?_
    refine aa (cF ?_)
    refine aN ?_
    refine az (az (a7 (ai (sr (mL (aL (aa (aq ?_))))))))
    refine ck ?_
    rw [← hcut, List.length_append, List.length_take, Nat.min_eq_left (by omega)]
    exact ⟨rfl, hh.below⟩
theorem dT {B : Nat} {l : List Nat} {i c : Nat} (h : l[i]? = some c) : bB B (l.take (i + 1)) = bB B (l.take i) + B ^ i * c := by
 have hi := (List.getElem?_eq_some_iff.1 h).1
 rw [aO h, dW, List.length_take, Nat.min_eq_left (by omega)]
 simp [bB]
theorem Hp.uc {w0 w : World} {H : List HE} {A : Option Addr} {n c : Nat} {t : TypeId} {xs : List Nat} (h : Hp w0 (.row A n c t 1 (cz xs) :: H) w) (hl : xs.length = n) : Hp w0 (.row A (du xs).length c t 1 (cz (du xs)) :: H) w := by
 have h1 := ez xs
 have h2 := h.vA (k := (du xs).length) (by omega)
 rw [Nat.mul_one, ← oa, ← gI] at h2
 exact h2
theorem vh (a : ByteArray) (w : World) (ha : a.size ≤ 100000000000) :
  Calls Tryz.prog 159 #[.string a] w fun e w' => ∃ b c, e = .returned (.slice (some ⟨b, 0, none⟩) (aT 18446744073709551616 (bn a.data.toList)).length c) ∧ w'.ownsRow w.heap.size 169 1 (.slice (some ⟨b, 0, none⟩) (aT 18446744073709551616 (bn a.data.toList)).length c) (aT 18446744073709551616 (bn a.data.toList)).length (cz (aT 18446744073709551616 (bn a.data.toList))) ∧ Below w.heap.size w w' := by
 have hsz := jD a
 have hh := Hp.start w
 refine al (N := 39) (l := [.string a]) Tryz.func159 rfl rfl (by simp) ?_
 refine sr (aL (aa (sr (mS ?_))))
 refine cK aH.out rfl (by decide) ?_
 refine bx ?_
 refine gQ rfl rfl (by omega) (by omega) (by omega) (by decide) ?_
 refine fh (n := (a.size + 7) / 8) hh rfl rfl (by omega) (by omega) aH.out aD.out rfl (by omega) (by omega) (by decide) ?_
 intro b10 w10 hh
 refine aL (aa (ah (sr (mS ?_))))
 refine cK aH.out rfl (by decide) ?_
 refine mI (aa (aj ?_))
 rw [kH] at hh
 refine bo [4, 5, 13, 14, 15, 16, 17, 18, 19, 20, 21, 22, 23, 24, 25, 26, 27, 28, 29, 30, 31, 32, 33, 34, 35, 36] 13
  (fun v w' => ∃ i : Nat, i ≤ a.size ∧ v = .int .i64 i ∧ Hp w [.row (some ⟨b10, 0, none⟩) ((a.size + 7) / 8) ((a.size + 7) / 8) 169 1 (cz (bH 18446744073709551616 ((a.size + 7) / 8) (bB 256 ((qZ a.data.toList).take i))))] w')
  (fun v _ => a.size - (intOf v).toNat) ?_ ?_
 ·exact ⟨0, Nat.zero_le _, rfl, by rw [List.take_zero, bB, lp]; exact hh⟩
 ·clear hh
  rintro ρ' v w' ⟨i, hi, rfl, hh⟩
  by_cases hlt : i < a.size
  ·obtain ⟨c, hc⟩ := ay (l := a.data.toList) (k := ((a.size : Int) - 1 - i).toNat) (by omega)
   have hlo := vM (s := a.data.toList) (i := i) (c := c) (by omega) (by rw [← hc]; congr 1; omega)
   have hc8 := c.toNat_lt
   have hn := fO ((pQ a.data.toList).take i)
   rw [List.length_take, jY, Nat.min_eq_left (by omega)] at hn
   obtain ⟨s1, s2, s3⟩ := x8 (k := (a.size + 7) / 8) (bB 256 ((qZ a.data.toList).take i)) hn hc8 (by omega)
   have hg := dK (fK (B := 18446744073709551616) ((a.size + 7) / 8) (bB 256 ((qZ a.data.toList).take i)) (i / 8) (by omega))
   have e1 : ((i : Int) % 8 * 8).toNat = i % 8 * 8 := by omega
   refine sr ?_
   refine aJ (aa (ah (cT (ak (ai (ah (aj (sr (mI (aI (aa ?_)))))))))))
   refine sr (mS ?_)
   refine cK aH.out rfl (by decide) ?_
   refine et (mI ?_)
   refine et (aI (aa ?_))
   refine a6 13 [[(3, none)], [(4, none)], [(22, some 1)], [(21, some 0), (23, some 2)], [(24, some 3)], [(0, none)], [(5, none)], [(26, some 5), (27, some 6)], [(28, some 7)], [(4, none)], [(30, some 9)], [(31, some 10)], [(29, some 8), (32, some 11)]] [(12, 33), (11, 32), (10, 31), (9, 30), (8, 29), (7, 28), (6, 27), (5, 26), (4, 25), (3, 24), (2, 23), (1, 22), (0, 21)] hh mixed (by kernel_rfl) ?_
   refine iC ?_
   refine eM ?_
   refine bh (i := 2) (fun ρ1 w1 hj hR => pq (show ρ1 22 = Value.int _ _ from hR.1) rfl (by omega) (by omega) (by omega)) ?_
   refine vD (i / 8) ?_
   refine bh (i := 4) (fun ρ1 w1 hj hR => dZ aD.out (show ρ1 24 = Value.pointer _ from hR.1) (hj.hp.ct (i := 0) rfl (by first | assumption | (simp only [Nat.mul_one]; assumption)))) ?_
   refine Bs ?_
   refine eM ?_
   refine bh (i := 7) (fun ρ1 w1 hj hR => lU aH.out (show ρ1 26 = Value.string _ from hR.1) (show ρ1 27 = Value.int _ _ from hR.2.1) (by omega) (by assumption)) ?_
   first | refine bh (i := 8) (fun ρ1 w1 hj hR => nc aH.out aH.out (show ρ1 28 = Value.int _ _ from hR.1) (by first | assumption | omega)) ?_ | refine bh (i := 8) (fun ρ1 w1 hj hR => tw aH.out aH.out (show ρ1 28 = Value.int _ _ from hR.1)) ?_
   refine eM ?_
   refine bh (i := 10) (fun ρ1 w1 hj hR => jW (show ρ1 30 = Value.int _ _ from hR.1) rfl (by omega) (by omega)) ?_
   refine Aw ?_
   refine bh (i := 12) (fun ρ1 w1 hj hR => ni (show ρ1 29 = Value.int _ _ from hR.1) (show ρ1 32 = Value.int _ _ from hR.2.1) (by omega)) ?_
   refine bA ?_
   intro f W hJ hV
   have hb_6 := hJ.bl
   obtain ⟨v33, v32, v31, v30, v29, v28, v27, v26, v25, v24, v23, v22, v21, _⟩ := hV
   replace hh := hJ.hp
   refine bf (bz (ae v33 (ae v32 (ae v31 (ae v30 (ae v29 (ae v28 (ae v27 (ae v26 (ae v25 (ae v24 (ae v23 (ae v22 (ae v21 bg)))))))))))))) ?_
   dsimp only [cH]
   clear hJ
   refine tp rfl rfl (by first | assumption | omega) (by first | assumption | omega) (by decide) ?_
   refine bm (k := i / 8) aH.out aD.size rfl rfl (by omega) (by omega) (by decide) ?_
   refine bq hh (i := 0) (vs := [_]) rfl rfl (bJ rfl) rfl aD.out rfl (by rw [aU, aP]; omega) rfl ?_
   intro ws hh
   simp only [List.set_cons_zero] at hh
   rw [e1, Nat.mod_eq_of_lt s2, sU s1, cd (by rw [aU, aP]; omega), Nat.mul_one, eT, s3, ← dT hlo] at hh
   refine aE (aW (ai (ao ?_)))
   refine bx (mI (aE (ai ?_)))
   refine ⟨⟨i + 1, by omega, rfl, hh⟩, by show a.size - (i + 1) < a.size - i; omega, ?_⟩
   (repeat (first | exact aw _ _ _ | refine aA rfl ?_ | refine ar rfl ?_))
  ·refine sr ?_
   refine aJ (aa (ah (cF ?_)))
   refine aN ?_
   refine az (az (a7 (ai (sr (mL ?_)))))
   rw [List.take_of_length_le (by rw [jY]; omega)] at hh
   refine bF hh (fw _ _ _ (bH 18446744073709551616 ((a.size + 7) / 8) (bn a.data.toList)) _ (hh.aQ (i := 0) rfl) (Nat.le_refl _) (by omega)) rfl ?_
   intro w38 hh
   refine aL (aa (aq ?_))
   refine ck ?_
   have hbd : bn a.data.toList < 18446744073709551616 ^ ((a.size + 7) / 8) := by
    refine Nat.lt_of_lt_of_le (yz _) ?_
    rw [← hsz, show (256 : Nat) = 2 ^ 8 from rfl, show (18446744073709551616 : Nat) = 2 ^ 64 from rfl, ← Nat.pow_mul, ← Nat.pow_mul]
    exact Nat.pow_le_pow_right (by omega) (by omega)
   have hd : du (bH 18446744073709551616 ((a.size + 7) / 8) (bn a.data.toList)) = aT 18446744073709551616 (bn a.data.toList) := by
    rw [eE (by omega) (dQ (by omega) _ _), bV hbd]
   have h1 := (Hp.uc (xs := bH 18446744073709551616 ((a.size + 7) / 8) (bn a.data.toList)) hh (aP _ _)).at_ (i := 0) rfl
   rw [hd] at h1
   rw [hd]
   exact ⟨_, _, rfl, h1, hh.below⟩
theorem Sl.zt {w : World} {A : Option Addr} {n : Nat} {xs : List Nat} (h : Sl w A n 1 (cz xs)) {k : Nat} (hk : k ≤ n) : Sl w A k 1 (cz (xs.take k)) := by
 have hl := h.1
 rw [aU] at hl
 refine ⟨by rw [aU, List.length_take]; omega, fun h0 => ?_⟩
 obtain ⟨ad, he, hr⟩ := h.2 (by omega)
 exact ⟨ad, he, by rw [oa]; exact hr.take k⟩
theorem Sl.pt {w : World} {A : Option Addr} {n : Nat} {xs : List Nat} (h : Sl w A n 1 (cz xs)) : Sl w A (du xs).length 1 (cz (du xs)) := by
 have hl := h.1
 rw [aU] at hl
 have := ez xs
 have h2 := h.zt (k := (du xs).length) (by omega)
 rwa [← gI] at h2
theorem sB {xs : List Nat} (h : Dg 18446744073709551616 xs) : bD (bB 18446744073709551616 xs) ≤ 64 * xs.length := by
 apply cU
 rw [Nat.pow_mul]
 exact fO h
theorem nM (A : Option Addr) (n c : Nat) (xs : List Nat) (w : World) (hx : Sl w A n 1 (cz xs)) (hd : Dg 18446744073709551616 xs) (hc : n ≤ c) (hn : n ≤ 100000000000) :
  Calls Tryz.prog 197 #[.slice A n c] w fun e w' => e = .returned (.int .i64 (bD (bB 18446744073709551616 xs))) ∧ Below w.heap.size w w' := by
 have hl := hx.1
 rw [aU] at hl
 have hcl := ez xs
 have hcx := hx.pt
 have hcd := hd.cut
 have hlast := oL xs
 rw [← im]
 generalize hcs : du xs = cs at *
 have hh := Hp.start w
 refine al (N := 19) (l := [.slice A n c]) Tryz.func197 rfl rfl (by simp) ?_
 refine sr (aI (aa (sr (mL ?_))))
 refine bF hh (fw _ _ _ xs _ hx hc (by omega)) rfl ?_
 intro w4 hh
 rw [hcs]
 by_cases h0 : cs.length = 0
 ·refine aL (aa (ah (sr (mL (aV ?_)))))
  refine dN (aa (cT (sr (aI (aa (aq (aM ?_)))))))
  refine ck ?_
  have : cs = [] := List.eq_nil_of_length_eq_zero h0
  subst this
  exact ⟨by rw [bB, il]; rfl, hh.below⟩
 ·obtain ⟨ad, rfl, hr⟩ := hcx.at_ (by omega)
  obtain ⟨d, hd⟩ := ay (l := cs) (k := cs.length - 1) (by omega)
  have hd2 := dK hd
  have hd3 := hcd.at_ hd
  have e1 : cs.take (cs.length - 1) ++ [d] = cs := by rw [← aO hd, List.take_of_length_le (by omega)]
  have hnz : d ≠ 0 := by
   intro h
   subst h
   apply hlast
   rw [List.getLast?_eq_getElem?]
   exact hd
  have hb := vW (B := 18446744073709551616) (b := 64) (m := cs.length - 1) (by decide) (hcd.take (cs.length - 1)) (by rw [List.length_take]; omega) hnz
  rw [e1] at hb
  have hb2 : bD d ≤ 64 := cU (by simpa using hd3)
  refine aL (aa (ah (sr (mL (aV ?_)))))
  refine dN (aa (cF (ak (ai (sr (mL (aV ?_)))))))
  refine mulC (mL (mL (aV ?_)))
  refine et ?_
  refine aC (k := cs.length - 1) aH.out aD.size rfl rfl (by omega) (by omega) (by decide) ?_
  refine aK aD.out rfl ((hr.ext hh.below).eC (by assumption)) (by decide) ?_
  refine bF hh (sH _ _ hd3) rfl ?_
  intro w17 hh
  refine et (aI (aa (aq ?_)))
  refine ck ?_
  refine ⟨?_, hh.below⟩
  congr 2
  omega
theorem sZ (N : Nat) : (aT 256 N).length = (bD N + 7) / 8 := by
 have h256 : (256 : Nat) = 2 ^ 8 := rfl
 have h1 : (aT 256 N).length ≤ (bD N + 7) / 8 := by
  apply fC (by omega)
  refine Nat.lt_of_lt_of_le (cG N) ?_
  rw [h256, ← Nat.pow_mul]
  exact Nat.pow_le_pow_right (by omega) (by omega)
 have h2 := jH (B := 256) (by omega) N
 have h3 : bD N ≤ 8 * (aT 256 N).length := by
  apply cU
  rw [Nat.pow_mul]
  exact h2
 omega
theorem iw {B : Nat} (i N : Nat) : bH B (i + 1) N = bH B i N ++ [N / B ^ i % B] := by
 apply List.ext_getElem?
 intro j
 rcases Nat.lt_trichotomy j i with h | h | h
 ·rw [fK _ _ _ (by omega), List.getElem?_append_left (by rw [aP]; exact h), fK _ _ _ h]
 ·subst h
  rw [fK _ _ _ (by omega), List.getElem?_append_right (by rw [aP]; omega), aP]
  simp
 ·rw [List.getElem?_eq_none (by rw [aP]; omega), List.getElem?_eq_none (by rw [List.length_append, aP]; simp; omega)]
theorem tI {R : List Nat} {k x : Nat} : (List.replicate (k + 1) 0 ++ R).set k x = List.replicate k 0 ++ (x :: R) := by
 rw [List.replicate_succ', List.append_assoc, List.set_append_right _ _ (by simp)]
 simp
theorem fG (A : Option Addr) (n c : Nat) (xs : List Nat) (w : World) (hx : Sl w A n 1 (cz xs)) (hd : Dg 18446744073709551616 xs) (hc : n ≤ c) (hn : n ≤ 10000000000) :
  Calls Tryz.prog 185 #[.slice A n c] w fun e w' => e = .returned (.string (str (sb (bB 18446744073709551616 xs)))) ∧ Below w.heap.size w w' := by
 have hl := hx.1
 rw [aU] at hl
 have hcl := ez xs
 have hcx := hx.pt
 have hcd := hd.cut
 have hbl := sB hcd
 have hcan := eE (by omega) hd
 have hlen := sZ (bB 18446744073709551616 xs)
 rw [im] at hbl
 have hh := Hp.start w
 refine al (N := 37) (l := [.slice A n c]) Tryz.func185 rfl rfl (by simp) ?_
 refine sr (aS (aa (sr (mL ?_))))
 refine bF hh (fw _ _ _ xs _ hx hc (by omega)) rfl ?_
 intro w7 hh
 rw [hcan] at hcl hcx hcd hbl
 rw [hcan]
 refine aL (aa (sr (mL ?_)))
 refine bF hh (nM _ _ _ (aT 18446744073709551616 (bB 18446744073709551616 xs)) _ (hcx.ext hh.below) hcd (by omega) (by omega)) rfl ?_
 intro w9 hh
 rw [dx (by omega)]
 generalize bB 18446744073709551616 xs = M at *
 refine bx ?_
 refine gQ rfl rfl (by omega) (by omega) (by omega) (by decide) ?_
 refine aI (aa (sr (mI ?_)))
 refine fh (n := (bD M + 7) / 8) hh rfl rfl (by omega) (by omega) aH.out aD.out rfl (by omega) (by omega) (by decide) ?_
 intro b13 w13 hh
 refine aL (aa (ah (sr (mI (mI (aa (aj ?_)))))))
 rw [kV] at hh
 refine bo [5, 15, 16, 17, 18, 19, 20, 21, 22, 23, 24, 25, 26, 27, 28, 29, 30, 31, 32, 33, 34] 15
  (fun v w' => ∃ i : Nat, i ≤ (bD M + 7) / 8 ∧ v = .int .i64 i ∧ Hp w [.row (some ⟨b13, 0, none⟩) ((bD M + 7) / 8) ((bD M + 7) / 8) 5 1 (e7 (List.replicate ((bD M + 7) / 8 - i) 0 ++ (bH 256 i M).reverse))] w')
  (fun v _ => (bD M + 7) / 8 - (intOf v).toNat) ?_ ?_
 ·exact ⟨0, Nat.zero_le _, rfl, by simpa [bH] using hh⟩
 ·clear hh
  rintro ρ' v w' ⟨i, hi, rfl, hh⟩
  by_cases hlt : i < (bD M + 7) / 8
  ·obtain ⟨ad, rfl, hr⟩ := hcx.at_ (by omega)
   have hg := q9 (B := 18446744073709551616) (n := M) (i := i / 8) (by omega) (by omega)
   have hg2 := dK hg
   have e1 : ((i : Int) % 8 * 8).toNat = i % 8 * 8 := by omega
   refine sr ?_
   refine aJ (aa (ah (cT (ak (ai (ah (aj (sr (mI (aI (aa ?_)))))))))))
   refine ao (mL (mI ?_))
   refine et (mI ?_)
   refine et (mL (mI ?_))
   refine gQ rfl rfl (by omega) (by omega) (by omega) (by decide) ?_
   refine aC (k := i / 8) aH.out aD.size rfl rfl (by omega) (by omega) (by decide) ?_
   refine aK aD.out rfl ((hr.ext hh.below).eC (by assumption)) (by decide) ?_
   refine mI ?_
   refine iH rfl rfl (by omega) (by omega) (by decide) ?_
   refine mulC ?_
   refine ti rfl rfl (by omega) (by decide) ?_
   first | refine cY aH.out aH.out rfl (by first | assumption | omega) (by decide) ?_ | refine eZ aH.out aH.out rfl (by decide) ?_
   refine bm (k := (bD M + 7) / 8 - 1 - i) aH.out aD.size rfl rfl (by omega) (by omega) (by decide) ?_
   refine bq hh (i := 0) (vs := [_]) rfl rfl (bJ rfl) rfl aD.out rfl (by rw [cm, List.length_append, List.length_reverse, List.length_replicate, aP]; omega) rfl ?_
   intro ws hh
   simp only [List.set_cons_zero] at hh
   obtain ⟨k, hk⟩ : ∃ k, (bD M + 7) / 8 - i = k + 1 := ⟨(bD M + 7) / 8 - i - 1, by omega⟩
   rw [e1, uK, Nat.mul_one, cd (by rw [cm, List.length_append, List.length_reverse, List.length_replicate, aP]; omega), jw, hk, show (bD M + 7) / 8 - 1 - i = k by omega, tI, ← List.reverse_concat, ← iw] at hh
   refine aE (aW (ai (ao ?_)))
   refine bx (mI (aE (ai ?_)))
   refine ⟨⟨i + 1, by omega, rfl, by rw [show (bD M + 7) / 8 - (i + 1) = k by omega]; exact hh⟩, by show (bD M + 7) / 8 - (i + 1) < (bD M + 7) / 8 - i; omega, ?_⟩
   (repeat (first | exact aw _ _ _ | refine aA rfl ?_ | refine ar rfl ?_))
  ·obtain rfl : i = (bD M + 7) / 8 := by omega
   have hfin : e7 (List.replicate ((bD M + 7) / 8 - (bD M + 7) / 8) 0 ++ (bH 256 ((bD M + 7) / 8) M).reverse) = tC (sb M) := by
    rw [Nat.sub_self, List.replicate_zero, List.nil_append, ← hlen]
    have h1 : M < 256 ^ (aT 256 M).length := jH (by omega) M
    rw [rf (by omega) h1, Nat.sub_self, List.replicate_zero, List.append_nil, oR (fun d hd => (dm (B := 256) (by omega) M).1 d (List.mem_reverse.1 hd)), sb, List.map_reverse]
   rw [hfin] at hh
   refine sr ?_
   refine aJ (aa (ah (cF ?_)))
   refine aN ?_
   refine az (az (a7 (ai (sr (mL ?_)))))
   refine lQ aH.out aH.out aH.out rfl (hh.aQ (i := 0) rfl) (by decide) ?_
   refine aS (aa (aq ?_))
   refine ck ?_
   exact ⟨rfl, hh.below⟩
theorem jU (A : Option Addr) (n c m : Nat) (xs : List Nat) (w : World) (hx : Sl w A n 1 (cz xs)) (hn : n ≤ 10000000000) (hm : m ≤ 10000000000) :
  Calls Tryz.prog 198 #[.slice A n c, .int .i64 m] w fun e w' => ∃ b, e = .returned (.slice (some ⟨b, 0, none⟩) (max m n) (max m n)) ∧ w'.ownsRow w.heap.size 169 1 (.slice (some ⟨b, 0, none⟩) (max m n) (max m n)) (max m n) (cz (xs ++ List.replicate (max m n - n) 0)) ∧ Below w.heap.size w w' := by
 have hl := hx.1
 rw [aU] at hl
 have hh := Hp.start w
 refine al (N := 15) (l := [.slice A n c, .int .i64 m]) Tryz.func198 rfl rfl (by simp) ?_
 refine sr (aL (aa (sr (mI (mL (aV ?_))))))
 refine iV rfl rfl (by decide) ?_
 refine fh (n := max m n) hh rfl rfl (by omega) (by omega) aH.out aD.out rfl (by omega) (by omega) (by decide) ?_
 intro b10 w10 hh
 refine aL (aa (sr (mL (mL ?_))))
 rw [kH] at hh
 refine xB hh (i := 0) (o := 0) rfl rfl rfl (hx.ext hh.below) aH.out aD.out (by rw [aU, List.length_replicate]; omega) (cC _) (by decide) ?_
 intro w13 hh
 skip
 have e1 : cS (cz (List.replicate (max m n) 0)) 0 ((cz xs).take (min n (max m n) * 1)) = cz (xs ++ List.replicate (max m n - n) 0) := by
  rw [List.take_of_length_le (by rw [aU]; omega), cS, List.take_zero, List.nil_append, aU, ← od, ← qH, List.drop_replicate]
  congr 3
  omega
 simp only [List.set_cons_zero, e1] at hh
 refine aa (sr (mL (aL (aa (aq ?_)))))
 refine ck ?_
 exact ⟨_, rfl, hh.at_ (i := 0) rfl, hh.below⟩
theorem j6 (A B : Option Addr) (n c m c' : Nat) (xs ys : List Nat) (w : World) (hx : Sl w A n 1 (cz xs)) (hy : Sl w B m 1 (cz ys)) (hdx : Dg 18446744073709551616 xs) (hdy : Dg 18446744073709551616 ys) (hc : n ≤ c) (hc' : m ≤ c') (hn : n ≤ 100000000000) (hm : m ≤ 100000000000) :
  Calls Tryz.prog 201 #[.slice A n c, .slice B m c'] w fun e w' => e = .returned (.int .i64 (iy (bB 18446744073709551616 xs) (bB 18446744073709551616 ys))) ∧ Below w.heap.size w w' := by
 have hlx := hx.1
 have hly := hy.1
 rw [aU] at hlx hly
 have hcx := hx.pt
 have hcy := hy.pt
 have hxl := ez xs
 have hyl := ez ys
 have hx2 := Can.cut hdx
 have hy2 := Can.cut hdy
 have hh := Hp.start w
 rw [← im xs, ← im ys]
 refine al (N := 47) (l := [.slice A n c, .slice B m c']) Tryz.func201 rfl rfl (by simp) ?_
 refine sr (aI (aa (sr (mL ?_))))
 refine bF hh (fw _ _ _ xs _ hx hc (by omega)) rfl ?_
 intro w7 hh
 refine mL ?_
 refine bF hh (fw _ _ _ ys _ (hy.ext hh.below) hc' (by omega)) rfl ?_
 intro w9 hh
 generalize du xs = us at *
 generalize du ys = vs at *
 by_cases hlen : us.length = vs.length
 ·refine aL (aL (aa (ah (sr (mL (aV (mL (aV ?_))))))))
  refine dt (aa (cF (ak (ai (ah (sr (mL (aV ?_))))))))
  refine et (aI (aa (aj ?_)))
  refine bo [4, 5, 23, 24, 25, 26, 27, 28, 29, 30, 31, 32, 33, 34, 35, 36, 37, 38, 39, 40, 41, 42, 43, 44, 45, 46] 5
   (fun v w' => ∃ k : Nat, k ≤ us.length ∧ v = .int .i64 ((k : Int) - 1) ∧ us.drop k = vs.drop k ∧ Hp w [] w')
   (fun v _ => (intOf v + 1).toNat) ?_ ?_
  ·exact ⟨us.length, Nat.le_refl _, rfl, by rw [List.drop_length, List.drop_eq_nil_of_le (by omega)], hh⟩
  ·clear hh
   rintro ρ' v w' ⟨k, hk, rfl, hd, hh⟩
   by_cases h0 : k = 0
   ·subst h0
    refine ah (sr (mI ?_))
    refine dz (aa (cF ?_))
    refine aN ?_
    refine az (az (a7 (ai (sr (aI (aa (aq ?_)))))))
    refine ck ?_
    rw [List.drop_zero, List.drop_zero] at hd
    rw [hd]
    exact ⟨by rw [tE rfl], hh.below⟩
   ·obtain ⟨j, rfl⟩ : ∃ j, k = j + 1 := ⟨k - 1, by omega⟩
    obtain ⟨x, hxj⟩ := ay (l := us) (k := j) (by omega)
    obtain ⟨y, hyj⟩ := ay (l := vs) (k := j) (by omega)
    obtain ⟨ad, rfl, hr⟩ := hcx.at_ (by omega)
    obtain ⟨ad2, rfl, hs⟩ := hcy.at_ (by omega)
    have hx3 := dK hxj
    have hy3 := dK hyj
    by_cases hlt : x < y
    ·have hf := oB hx2.1 hxj hyj hd hlt
     refine ah (sr (mI ?_))
     refine dz (aa (cT (ak (ai (ah (aj (aj (ah ?_))))))))
     refine a6 8 [[(0, none)], [(5, none)], [(28, some 0), (29, some 1)], [(30, some 2)], [(1, none)], [(5, none)], [(32, some 4), (33, some 5)], [(34, some 6)]] [(7, 35), (6, 34), (5, 33), (4, 32), (3, 31), (2, 30), (1, 29), (0, 28)] hh mixed (by kernel_rfl) ?_
     refine iC ?_
     refine eM ?_
     refine nN (j) ?_
     refine lP (fun _ hj => (hr.ext hj.hp.below).eC hx3) ?_
     refine iC ?_
     refine eM ?_
     refine nN (j) ?_
     refine lP (fun _ hj => (hs.ext hj.hp.below).eC hy3) ?_
     refine bA ?_
     intro f W hJ hV
     have hb_9 := hJ.bl
     obtain ⟨v35, v34, v33, v32, v31, v30, v29, v28, _⟩ := hV
     replace hh := hJ.hp
     refine bf (bz (ae v35 (ae v34 (ae v33 (ae v32 (ae v31 (ae v30 (ae v29 (ae v28 bg))))))))) ?_
     dsimp only [cH]
     clear hJ
     refine aJ (aB (aa (cT (sr (aI (aa (aq (bO (bO (aM (aM ?_)))))))))))
     refine bO (aM ?_)
     refine ck ?_
     exact ⟨by rw [iD hf], hh.below⟩
    ·by_cases hgt : y < x
     ·have hf := oB hy2.1 hyj hxj hd.symm hgt
      refine ah (sr (mI ?_))
      refine dz (aa (cT (ak (ai (ah (aj (aj (ah ?_))))))))
      refine a6 8 [[(0, none)], [(5, none)], [(28, some 0), (29, some 1)], [(30, some 2)], [(1, none)], [(5, none)], [(32, some 4), (33, some 5)], [(34, some 6)]] [(7, 35), (6, 34), (5, 33), (4, 32), (3, 31), (2, 30), (1, 29), (0, 28)] hh mixed (by kernel_rfl) ?_
      refine iC ?_
      refine eM ?_
      refine nN (j) ?_
      refine lP (fun _ hj => (hr.ext hj.hp.below).eC hx3) ?_
      refine iC ?_
      refine eM ?_
      refine nN (j) ?_
      refine lP (fun _ hj => (hs.ext hj.hp.below).eC hy3) ?_
      refine bA ?_
      intro f W hJ hV
      have hb_9 := hJ.bl
      obtain ⟨v35, v34, v33, v32, v31, v30, v29, v28, _⟩ := hV
      replace hh := hJ.hp
      refine bf (bz (ae v35 (ae v34 (ae v33 (ae v32 (ae v31 (ae v30 (ae v29 (ae v28 bg))))))))) ?_
      dsimp only [cH]
      clear hJ
      refine aJ (aB (aa (cF (ah ?_))))
      refine a6 8 [[(0, none)], [(5, none)], [(38, some 0), (39, some 1)], [(40, some 2)], [(1, none)], [(5, none)], [(42, some 4), (43, some 5)], [(44, some 6)]] [(7, 45), (6, 44), (5, 43), (4, 42), (3, 41), (2, 40), (1, 39), (0, 38)] hh mixed (by kernel_rfl) ?_
      refine iC ?_
      refine eM ?_
      refine nN (j) ?_
      refine lP (fun _ hj => (hr.ext hj.hp.below).eC hx3) ?_
      refine iC ?_
      refine eM ?_
      refine nN (j) ?_
      refine lP (fun _ hj => (hs.ext hj.hp.below).eC hy3) ?_
      refine bA ?_
      intro f W hJ hV
      have hb_11 := hJ.bl
      obtain ⟨v45, v44, v43, v42, v41, v40, v39, v38, _⟩ := hV
      replace hh := hJ.hp
      refine bf (bz (ae v45 (ae v44 (ae v43 (ae v42 (ae v41 (ae v40 (ae v39 (ae v38 bg))))))))) ?_
      dsimp only [cH]
      clear hJ
      refine bQ (aB (aa (cT (sr (aI (aa (aq (bO (bO (aM (aM ?_)))))))))))
      refine bO (aM ?_)
      refine ck ?_
      exact ⟨by rw [pd hf], hh.below⟩
     ·refine ah (sr (mI ?_))
      refine dz (aa (cT (ak (ai (ah (aj (aj (ah ?_))))))))
      refine a6 8 [[(0, none)], [(5, none)], [(28, some 0), (29, some 1)], [(30, some 2)], [(1, none)], [(5, none)], [(32, some 4), (33, some 5)], [(34, some 6)]] [(7, 35), (6, 34), (5, 33), (4, 32), (3, 31), (2, 30), (1, 29), (0, 28)] hh mixed (by kernel_rfl) ?_
      refine iC ?_
      refine eM ?_
      refine nN (j) ?_
      refine lP (fun _ hj => (hr.ext hj.hp.below).eC hx3) ?_
      refine iC ?_
      refine eM ?_
      refine nN (j) ?_
      refine lP (fun _ hj => (hs.ext hj.hp.below).eC hy3) ?_
      refine bA ?_
      intro f W hJ hV
      have hb_9 := hJ.bl
      obtain ⟨v35, v34, v33, v32, v31, v30, v29, v28, _⟩ := hV
      replace hh := hJ.hp
      refine bf (bz (ae v35 (ae v34 (ae v33 (ae v32 (ae v31 (ae v30 (ae v29 (ae v28 bg))))))))) ?_
      dsimp only [cH]
      clear hJ
      refine aJ (aB (aa (cF (ah ?_))))
      refine a6 8 [[(0, none)], [(5, none)], [(38, some 0), (39, some 1)], [(40, some 2)], [(1, none)], [(5, none)], [(42, some 4), (43, some 5)], [(44, some 6)]] [(7, 45), (6, 44), (5, 43), (4, 42), (3, 41), (2, 40), (1, 39), (0, 38)] hh mixed (by kernel_rfl) ?_
      refine iC ?_
      refine eM ?_
      refine nN (j) ?_
      refine lP (fun _ hj => (hr.ext hj.hp.below).eC hx3) ?_
      refine iC ?_
      refine eM ?_
      refine nN (j) ?_
      refine lP (fun _ hj => (hs.ext hj.hp.below).eC hy3) ?_
      refine bA ?_
      intro f W hJ hV
      have hb_11 := hJ.bl
      obtain ⟨v45, v44, v43, v42, v41, v40, v39, v38, _⟩ := hV
      replace hh := hJ.hp
      refine bf (bz (ae v45 (ae v44 (ae v43 (ae v42 (ae v41 (ae v40 (ae v39 (ae v38 bg))))))))) ?_
      dsimp only [cH]
      clear hJ
      refine bQ (aB (aa (cF (ak (aW (aW (ai (ao (mI ?_)))))))))
      refine et (aI (aE (ai ?_)))
      refine ⟨⟨j, by omega, by show Value.int _ _ = Value.int _ _; congr 1; omega, o8 hxj hyj hd (by omega), hh⟩, by show ((((j + 1 : Nat) : Int) - 1 - 1) + 1).toNat < ((((j + 1 : Nat) : Int) - 1) + 1).toNat; omega, ?_⟩
      (repeat (first | exact aw _ _ _ | refine aA rfl ?_ | refine ar rfl ?_))
 ·by_cases hlt : us.length < vs.length
  ·have hf : bB 18446744073709551616 us < bB 18446744073709551616 vs := by
    refine Nat.lt_of_not_le fun h => ?_
    have := hy2.mF hx2 (by omega) h
    omega
   refine aL (aL (aa (ah (sr (mL (aV (mL (aV ?_))))))))
   refine dt (aa (cT (ah (sr (mL (aV (mL (aV ?_))))))))
   refine aJ (aa (cT (sr (aI (aa (aq (aM (aM ?_))))))))
   refine ck ?_
   exact ⟨by rw [iD hf], hh.below⟩
  ·have hf : bB 18446744073709551616 vs < bB 18446744073709551616 us := by
    refine Nat.lt_of_not_le fun h => ?_
    have := hx2.mF hy2 (by omega) h
    omega
   refine aL (aL (aa (ah (sr (mL (aV (mL (aV ?_))))))))
   refine dt (aa (cT (ah (sr (mL (aV (mL (aV ?_))))))))
   refine aJ (aa (cF (ak (ai (sr (aI (aa (aq (aM ?_)))))))))
   refine ck ?_
   exact ⟨by rw [pd hf], hh.below⟩
end Go.Proofs.YtioilmppidlbnaaGreatDoor
namespace Go.Proofs.YtioilmppidlbnaaGreatDoor
open Go.RowKit
theorem Aq {y m : Nat} (hy : y < 18446744073709551616) (hm : m < 18446744073709551616) : y * m ≤ 340282366920938463426481119284349108225 := Nat.mul_le_mul (by omega : y ≤ 18446744073709551615) (by omega : m ≤ 18446744073709551615)
theorem oE {x y m c P : Nat} (hx : x < 18446744073709551616) (hc : c < 18446744073709551616) (hP : P ≤ 340282366920938463426481119284349108225) (he : P = y * m) :
  (x + (P % 18446744073709551616 + c + 0) % 18446744073709551616 + 0) % 18446744073709551616 = (x + y * m + c) % 18446744073709551616 ∧ ((P / 18446744073709551616 + (P % 18446744073709551616 + c + 0) / 18446744073709551616) % 18446744073709551616 + (x + (P % 18446744073709551616 + c + 0) % 18446744073709551616 + 0) / 18446744073709551616) % 18446744073709551616 = (x + y * m + c) / 18446744073709551616 ∧ (x + y * m + c) / 18446744073709551616 < 18446744073709551616 := by
 rw [← he]
 omega
theorem qI {w0 : World} {H : List HE} {b M C c' ny cy m : Nat} {Y : Option Addr} (pre xs post ys : List Nat) (w : World) (hh : Hp w0 (.row (some ⟨b, 0, none⟩) M C 169 1 (cz (pre ++ xs ++ post)) :: H) w)
  (hy : ∀ w1 cs, Hp w0 (.row (some ⟨b, 0, none⟩) M C 169 1 cs :: H) w1 → Sl w1 Y ny 1 (cz ys)) (hxd : Dg 18446744073709551616 xs) (hyd : Dg 18446744073709551616 ys) (hm : m < 18446744073709551616) (hM : xs.length ≤ 100000000000) (hny : ny ≤ 100000000000) :
  Calls Tryz.prog 204 #[.slice (some ⟨b, pre.length, none⟩) xs.length c', .slice Y ny cy, .int .u64 (m : Int)] w fun e w' => e = .returned (.tuple #[]) ∧ Hp w0 (.row (some ⟨b, 0, none⟩) M C 169 1 (cz (pre ++ fc 18446744073709551616 xs ys m 0 ++ post)) :: H) w' := by
 have hly := (hy _ _ hh).1
 rw [aU] at hly
 refine al (N := 56) (l := [.slice (some ⟨b, pre.length, none⟩) xs.length c', .slice Y ny cy, .int .u64 (m : Int)]) Tryz.func204 rfl rfl (by simp) ?_
 refine sr (aI (aa (sr (mL (aV (mI (aa (aj ?_))))))))
 refine bW [6, 7, 8, 9, 10, 11, 14, 15, 16, 17, 18, 19, 20, 21, 22, 23, 24, 25, 26, 27, 28, 29, 30, 31, 32, 33, 34, 35, 36, 37, 38, 39, 40, 41, 42, 43, 44, 45, 46, 47, 48, 49, 50, 51, 52, 53, 54, 55] 6 14
  (fun c i w' => ∃ (done rest : List Nat) (cr : Nat), done.length + rest.length = xs.length ∧ i = .int .i64 done.length ∧ c = .int .u64 (cr : Int) ∧ cr < 18446744073709551616 ∧ Dg 18446744073709551616 rest ∧ done ++ fc 18446744073709551616 rest (ys.drop done.length) m cr = fc 18446744073709551616 xs ys m 0 ∧ Hp w0 (.row (some ⟨b, 0, none⟩) M C 169 1 (cz (pre ++ (done ++ rest) ++ post)) :: H) w')
  (fun _ i _ => xs.length - (intOf i).toNat) ?_ ?_
 ·exact ⟨[], xs, 0, by simp, rfl, rfl, by omega, hxd, rfl, hh⟩
 ·clear hh
  rintro ρ' c i w' ⟨done, rest, cr, hlen, rfl, rfl, hcr, hrd, heq, hh⟩
  by_cases hlt : done.length < xs.length
  ·obtain ⟨x, r, rfl⟩ : ∃ x r, rest = x :: r := by
    cases rest with
    | nil => simp at hlen; omega
    | cons x r => exact ⟨x, r, rfl⟩
   have hx := hrd.head
   have hg := dK (qj (pre := pre) (done := done) (r := r) (post := post) (x := x))
   have hlr : done.length + (r.length + 1) = xs.length := by simpa using hlen
   simp only [fc, tail_drop, m7] at heq
   by_cases hiy : done.length < ny
   ·obtain ⟨y, hyk⟩ := ay (l := ys) (k := done.length) (by omega)
    obtain ⟨ad, rfl, _⟩ := (hy _ _ hh).at_ (by omega)
    rw [hyk, Option.getD_some] at heq
    have hyw := hyd.at_ hyk
    refine sr ?_
    refine aJ (aa (ah (cT (ak (ai (ah (aj (sr (mI (aI (aa ?_)))))))))))
    refine sr (aI (aa (ah (sr (mI (mL (aV ?_)))))))
    refine aJ (aa (cT (ao (mL (mI ?_)))))
    refine aC (k := done.length) aH.out aD.size rfl rfl (by omega) (by omega) (by decide) ?_
    refine aK aD.out rfl ((hy _ _ hh).yW hyk) (by decide) ?_
    refine aI (aa (sr (mI (mI ?_))))
    obtain ⟨p1, p2, p3⟩ := oE (y := y) (m := m) hx hcr (Aq hyw hm) rfl
    refine bF hh (lL y m _ hyw hm) rfl ?_
    intro w28 hh
    refine mT ?_
    refine dE ?_
    refine dE ?_
    refine aI (aI (aa (sr (mI (mI ?_)))))
    refine ia (gF (y * m % 18446744073709551616) cr 0 (by omega) _) (bj (bJ rfl) (bj (bJ rfl) (bj rfl cj))) (by decide) ?_
    refine mT ?_
    refine dE ?_
    refine dE ?_
    refine aI (aI (aa (sr (mI (mI ?_)))))
    refine fL rfl rfl (by decide) ?_
    refine aI (aa (sr (mL (mI (mL (mI ?_))))))
    refine dv aH.out aD.size rfl rfl rfl (by omega) (by decide) ?_
    refine aK aD.out rfl (hh.ct (i := 0) rfl (by first | assumption | (simp only [Nat.mul_one]; assumption))) (by decide) ?_
    refine mI ?_
    refine ia (gF x ((y * m % 18446744073709551616 + cr + 0) % 18446744073709551616) 0 (by omega) _) (bj (bJ rfl) (bj (bJ rfl) (bj rfl cj))) (by decide) ?_
    refine mT ?_
    refine dE ?_
    refine dE ?_
    refine dv (k := done.length) aH.out aD.size rfl rfl (by omega) (by omega) (by decide) ?_
    refine bq hh (i := 0) (vs := [_]) rfl rfl (bJ rfl) rfl aD.out rfl (by rw [aU]; simp only [List.length_append, List.length_cons]; omega) rfl ?_
    intro ws hh
    simp only [List.set_cons_zero] at hh
    rw [p1, Nat.mul_one, cd (by rw [aU]; simp only [List.length_append, List.length_cons]; omega), eT, jI] at hh
    refine aI (aa (ao (mI (mI ?_))))
    refine fL rfl rfl (by decide) ?_
    refine aI (aE (aW (ai (ao ?_))))
    refine bx (mI (aE (ai ?_)))
    rw [p2]
    refine ⟨⟨done ++ [(x + y * m + cr) % 18446744073709551616], r, _, by simp; omega, by rw [List.length_append]; rfl, rfl, p3, hrd.tail, ?_, hh⟩, by show xs.length - (done.length + 1) < xs.length - done.length; omega, ?_⟩
    ·rw [← heq, List.append_assoc, List.length_append]; rfl
    (repeat (first | exact aw _ _ _ | refine aA rfl ?_ | refine ar rfl ?_))
   ·rw [List.getElem?_eq_none (by omega), Option.getD_none] at heq
    have h0w : (0 : Nat) < 18446744073709551616 := by omega
    refine sr ?_
    refine aJ (aa (ah (cT (ak (ai (ah (aj (sr (mI (aI (aa ?_)))))))))))
    refine sr (aI (aa (ah (sr (mI (mL (aV ?_)))))))
    refine aJ (aa (cF (ak (ai (sr (mI (mI ?_)))))))
    obtain ⟨p1, p2, p3⟩ := oE (y := 0) (m := m) hx hcr (Aq h0w hm) rfl
    refine bF hh (lL 0 m _ h0w hm) rfl ?_
    intro w28 hh
    refine mT ?_
    refine dE ?_
    refine dE ?_
    refine aI (aI (aa (sr (mI (mI ?_)))))
    refine ia (gF (0 * m % 18446744073709551616) cr 0 (by omega) _) (bj (bJ rfl) (bj (bJ rfl) (bj rfl cj))) (by decide) ?_
    refine mT ?_
    refine dE ?_
    refine dE ?_
    refine aI (aI (aa (sr (mI (mI ?_)))))
    refine fL rfl rfl (by decide) ?_
    refine aI (aa (sr (mL (mI (mL (mI ?_))))))
    refine dv aH.out aD.size rfl rfl rfl (by omega) (by decide) ?_
    refine aK aD.out rfl (hh.ct (i := 0) rfl (by first | assumption | (simp only [Nat.mul_one]; assumption))) (by decide) ?_
    refine mI ?_
    refine ia (gF x ((0 * m % 18446744073709551616 + cr + 0) % 18446744073709551616) 0 (by omega) _) (bj (bJ rfl) (bj (bJ rfl) (bj rfl cj))) (by decide) ?_
    refine mT ?_
    refine dE ?_
    refine dE ?_
    refine dv (k := done.length) aH.out aD.size rfl rfl (by omega) (by omega) (by decide) ?_
    refine bq hh (i := 0) (vs := [_]) rfl rfl (bJ rfl) rfl aD.out rfl (by rw [aU]; simp only [List.length_append, List.length_cons]; omega) rfl ?_
    intro ws hh
    simp only [List.set_cons_zero] at hh
    rw [p1, Nat.mul_one, cd (by rw [aU]; simp only [List.length_append, List.length_cons]; omega), eT, jI] at hh
    refine aI (aa (ao (mI (mI ?_))))
    refine fL rfl rfl (by decide) ?_
    refine aI (aE (aW (ai (ao ?_))))
    refine bx (mI (aE (ai ?_)))
    rw [p2]
    refine ⟨⟨done ++ [(x + 0 * m + cr) % 18446744073709551616], r, _, by simp; omega, by rw [List.length_append]; rfl, rfl, p3, hrd.tail, ?_, hh⟩, by show xs.length - (done.length + 1) < xs.length - done.length; omega, ?_⟩
    ·rw [← heq, List.append_assoc, List.length_append]; rfl
    (repeat (first | exact aw _ _ _ | refine aA rfl ?_ | refine ar rfl ?_))
  ·have hr0 : rest = [] := List.eq_nil_of_length_eq_zero (by omega)
   subst hr0
   refine sr ?_
   refine aJ (aa (ah (cF ?_)))
   refine aN ?_
   refine az (az (a7 ?_))
   refine yp (by first | exact .inr rfl | exact .inl rfl) rfl  ?_
   rw [List.append_nil, fc, List.append_nil] at *
   rw [← heq]
   exact ⟨rfl, hh⟩
theorem qO {w0 : World} {H : List HE} {b M C c' ny cy : Nat} {Y : Option Addr} (pre xs post ys : List Nat) (w : World) (hh : Hp w0 (.row (some ⟨b, 0, none⟩) M C 169 1 (cz (pre ++ xs ++ post)) :: H) w)
  (hy : ∀ w1 cs, Hp w0 (.row (some ⟨b, 0, none⟩) M C 169 1 cs :: H) w1 → Sl w1 Y ny 1 (cz ys)) (hxd : Dg 18446744073709551616 xs) (hyd : Dg 18446744073709551616 ys) (hM : xs.length ≤ 100000000000) (hny : ny ≤ 100000000000) (hsub : qM 18446744073709551616 xs ys 0 = 0) :
  Calls Tryz.prog 202 #[.slice (some ⟨b, pre.length, none⟩) xs.length c', .slice Y ny cy] w fun e w' => e = .returned (.bool true) ∧ Hp w0 (.row (some ⟨b, 0, none⟩) M C 169 1 (cz (pre ++ lY 18446744073709551616 xs ys 0 ++ post)) :: H) w' := by
 have hly := (hy _ _ hh).1
 rw [aU] at hly
 refine al (N := 37) (l := [.slice (some ⟨b, pre.length, none⟩) xs.length c', .slice Y ny cy]) Tryz.func202 rfl rfl (by simp) ?_
 refine sr (aB (aa (sr (aI (aa (ah (sr (mL (aV (mI (aa ?_)))))))))))
 refine aj ?_
 refine bW [5, 6, 7, 10, 11, 12, 13, 14, 15, 16, 17, 18, 19, 20, 21, 22, 23, 24, 25, 26, 27, 28, 29, 30, 31, 32, 33, 34] 5 10
  (fun c i w' => ∃ (done rest : List Nat) (cr : Nat), done.length + rest.length = xs.length ∧ i = .int .i64 done.length ∧ c = .int .u64 (cr : Int) ∧ cr ≤ 1 ∧ Dg 18446744073709551616 rest ∧ done ++ lY 18446744073709551616 rest (ys.drop done.length) cr = lY 18446744073709551616 xs ys 0 ∧ qM 18446744073709551616 rest (ys.drop done.length) cr = 0 ∧ Hp w0 (.row (some ⟨b, 0, none⟩) M C 169 1 (cz (pre ++ (done ++ rest) ++ post)) :: H) w')
  (fun _ i _ => xs.length - (intOf i).toNat) ?_ ?_
 ·exact ⟨[], xs, 0, by simp, rfl, rfl, by omega, hxd, rfl, hsub, hh⟩
 ·clear hh
  rintro ρ' c i w' ⟨done, rest, cr, hlen, rfl, rfl, hcr, hrd, heq, hsb, hh⟩
  by_cases hlt : done.length < xs.length
  ·obtain ⟨x, r, rfl⟩ : ∃ x r, rest = x :: r := by
    cases rest with
    | nil => simp at hlen; omega
    | cons x r => exact ⟨x, r, rfl⟩
   have hx := hrd.head
   have hg := dK (qj (pre := pre) (done := done) (r := r) (post := post) (x := x))
   have hlr : done.length + (r.length + 1) = xs.length := by simpa using hlen
   simp only [lY, qM, tail_drop, m7] at heq hsb
   by_cases hiy : done.length < ny
   ·obtain ⟨y, hyk⟩ := ay (l := ys) (k := done.length) (by omega)
    obtain ⟨ad, rfl, _⟩ := (hy _ _ hh).at_ (by omega)
    rw [hyk, Option.getD_some] at heq hsb
    have hyw := hyd.at_ hyk
    refine sr ?_
    refine aJ (aa (ah (cT (ak (ai (ah (aj (sr (mI (aI (aa ?_)))))))))))
    refine sr (aI (aa (ah (sr (mI (mL (aV ?_)))))))
    refine aJ (aa (cT (ao (mL (mI ?_)))))
    refine aC (k := done.length) aH.out aD.size rfl rfl (by omega) (by omega) (by decide) ?_
    refine aK aD.out rfl ((hy _ _ hh).yW hyk) (by decide) ?_
    refine aI (aa (ao (mL (mI (mL (mI ?_))))))
    refine dv (k := done.length) aH.out aD.size rfl rfl (by omega) (by omega) (by decide) ?_
    refine aK aD.out rfl (hh.ct (i := 0) rfl (by first | assumption | (simp only [Nat.mul_one]; assumption))) (by decide) ?_
    refine mI (mI ?_)
    refine ia (oN x y cr hcr _) (bj (bJ rfl) (bj (bJ rfl) (bj (bJ rfl) cj))) (by decide) ?_
    refine mT ?_
    refine dE ?_
    refine dE ?_
    refine dv (k := done.length) aH.out aD.size rfl rfl (by omega) (by omega) (by decide) ?_
    refine bq hh (i := 0) (vs := [_]) rfl rfl (bJ rfl) rfl aD.out rfl (by rw [aU]; simp only [List.length_append, List.length_cons]; omega) rfl ?_
    intro ws hh
    simp only [List.set_cons_zero] at hh
    rw [Nat.mul_one, cd (by rw [aU]; simp only [List.length_append, List.length_cons]; omega), eT, jI] at hh
    refine aI (aE (aW (ai (ao ?_))))
    refine bx (mI (aE (ai ?_)))
    refine ⟨⟨done ++ [(x + 18446744073709551616 - y - cr) % 18446744073709551616], r, _, by simp; omega, by rw [List.length_append]; rfl, rfl, by split <;> omega, hrd.tail, ?_, ?_, hh⟩, by show xs.length - (done.length + 1) < xs.length - done.length; omega, ?_⟩
    ·rw [← heq, List.append_assoc, List.length_append]; rfl
    ·rw [List.length_append]; exact hsb
    (repeat (first | exact aw _ _ _ | refine aA rfl ?_ | refine ar rfl ?_))
   ·rw [List.getElem?_eq_none (by omega), Option.getD_none] at heq hsb
    refine sr ?_
    refine aJ (aa (ah (cT (ak (ai (ah (aj (sr (mI (aI (aa ?_)))))))))))
    refine sr (aI (aa (ah (sr (mI (mL (aV ?_)))))))
    refine aJ (aa (cF (ak (ai (ao (mL (mI (mL (mI ?_)))))))))
    refine dv (k := done.length) aH.out aD.size rfl rfl (by omega) (by omega) (by decide) ?_
    refine aK aD.out rfl (hh.ct (i := 0) rfl (by first | assumption | (simp only [Nat.mul_one]; assumption))) (by decide) ?_
    refine mI (mI ?_)
    refine ia (oN x 0 cr hcr _) (bj (bJ rfl) (bj (bJ rfl) (bj (bJ rfl) cj))) (by decide) ?_
    refine mT ?_
    refine dE ?_
    refine dE ?_
    refine dv (k := done.length) aH.out aD.size rfl rfl (by omega) (by omega) (by decide) ?_
    refine bq hh (i := 0) (vs := [_]) rfl rfl (bJ rfl) rfl aD.out rfl (by rw [aU]; simp only [List.length_append, List.length_cons]; omega) rfl ?_
    intro ws hh
    simp only [List.set_cons_zero] at hh
    rw [Nat.mul_one, cd (by rw [aU]; simp only [List.length_append, List.length_cons]; omega), eT, jI] at hh
    refine aI (aE (aW (ai (ao ?_))))
    refine bx (mI (aE (ai ?_)))
    refine ⟨⟨done ++ [(x + 18446744073709551616 - 0 - cr) % 18446744073709551616], r, _, by simp; omega, by rw [List.length_append]; rfl, rfl, by split <;> omega, hrd.tail, ?_, ?_, hh⟩, by show xs.length - (done.length + 1) < xs.length - done.length; omega, ?_⟩
    ·rw [← heq, List.append_assoc, List.length_append]; rfl
    ·rw [List.length_append]; exact hsb
    (repeat (first | exact aw _ _ _ | refine aA rfl ?_ | refine ar rfl ?_))
  ·have hr0 : rest = [] := List.eq_nil_of_length_eq_zero (by omega)
   subst hr0
   obtain rfl : cr = 0 := hsb
   refine sr ?_
   refine aJ (aa (ah (cF ?_)))
   refine aN ?_
   refine az (az (a7 (ai (sr (mI ?_)))))
   refine dN (aB (aa (aq ?_)))
   refine ck ?_
   rw [List.append_nil, lY, List.append_nil] at *
   rw [← heq]
   exact ⟨rfl, hh⟩
theorem rX {w0 : World} {H : List HE} {b M C c' ny cy : Nat} {Y : Option Addr} (pre xs post ys : List Nat) (w : World) (hh : Hp w0 (.row (some ⟨b, 0, none⟩) M C 169 1 (cz (pre ++ xs ++ post)) :: H) w)
  (hy : ∀ w1 cs, Hp w0 (.row (some ⟨b, 0, none⟩) M C 169 1 cs :: H) w1 → Sl w1 Y ny 1 (cz ys)) (hxd : Dg 18446744073709551616 xs) (hyd : Dg 18446744073709551616 ys) (hM : xs.length ≤ 100000000000) (hny : ny ≤ 100000000000) :
  Calls Tryz.prog 199 #[.slice (some ⟨b, pre.length, none⟩) xs.length c', .slice Y ny cy] w fun e w' => e = .returned (.tuple #[]) ∧ Hp w0 (.row (some ⟨b, 0, none⟩) M C 169 1 (cz (pre ++ fc 18446744073709551616 xs ys 1 0 ++ post)) :: H) w' := by
 have hly := (hy _ _ hh).1
 rw [aU] at hly
 refine al (N := 34) (l := [.slice (some ⟨b, pre.length, none⟩) xs.length c', .slice Y ny cy]) Tryz.func199 rfl rfl (by simp) ?_
 refine sr (aI (aa (sr (mL (aV (mI (aa (aj ?_))))))))
 refine bW [4, 5, 6, 9, 10, 11, 12, 13, 14, 15, 16, 17, 18, 19, 20, 21, 22, 23, 24, 25, 26, 27, 28, 29, 30, 31, 32, 33] 4 9
  (fun c i w' => ∃ (done rest : List Nat) (cr : Nat), done.length + rest.length = xs.length ∧ i = .int .i64 done.length ∧ c = .int .u64 (cr : Int) ∧ cr ≤ 1 ∧ Dg 18446744073709551616 rest ∧ done ++ fc 18446744073709551616 rest (ys.drop done.length) 1 cr = fc 18446744073709551616 xs ys 1 0 ∧ Hp w0 (.row (some ⟨b, 0, none⟩) M C 169 1 (cz (pre ++ (done ++ rest) ++ post)) :: H) w')
  (fun _ i _ => xs.length - (intOf i).toNat) ?_ ?_
 ·exact ⟨[], xs, 0, by simp, rfl, rfl, by omega, hxd, rfl, hh⟩
 ·clear hh
  rintro ρ' c i w' ⟨done, rest, cr, hlen, rfl, rfl, hcr, hrd, heq, hh⟩
  by_cases hlt : done.length < xs.length
  ·obtain ⟨x, r, rfl⟩ : ∃ x r, rest = x :: r := by
    cases rest with
    | nil => simp at hlen; omega
    | cons x r => exact ⟨x, r, rfl⟩
   have hx := hrd.head
   have hg := dK (qj (pre := pre) (done := done) (r := r) (post := post) (x := x))
   have hlr : done.length + (r.length + 1) = xs.length := by simpa using hlen
   simp only [fc, tail_drop, m7, Nat.mul_one] at heq
   by_cases hiy : done.length < ny
   ·obtain ⟨y, hyk⟩ := ay (l := ys) (k := done.length) (by omega)
    obtain ⟨ad, rfl, _⟩ := (hy _ _ hh).at_ (by omega)
    rw [hyk, Option.getD_some] at heq
    have hyw := hyd.at_ hyk
    refine sr ?_
    refine aJ (aa (ah (cT (ak (ai (ah (aj (sr (mI (aI (aa ?_)))))))))))
    refine sr (aI (aa (ah (sr (mI (mL (aV ?_)))))))
    refine aJ (aa (cT (ao (mL (mI ?_)))))
    refine aC (k := done.length) aH.out aD.size rfl rfl (by omega) (by omega) (by decide) ?_
    refine aK aD.out rfl ((hy _ _ hh).yW hyk) (by decide) ?_
    refine aI (aa (ao (mL (mI (mL (mI ?_))))))
    refine dv (k := done.length) aH.out aD.size rfl rfl (by omega) (by omega) (by decide) ?_
    refine aK aD.out rfl (hh.ct (i := 0) rfl (by first | assumption | (simp only [Nat.mul_one]; assumption))) (by decide) ?_
    refine mI (mI ?_)
    refine ia (gF x y cr hcr _) (bj (bJ rfl) (bj (bJ rfl) (bj (bJ rfl) cj))) (by decide) ?_
    refine mT ?_
    refine dE ?_
    refine dE ?_
    refine dv (k := done.length) aH.out aD.size rfl rfl (by omega) (by omega) (by decide) ?_
    refine bq hh (i := 0) (vs := [_]) rfl rfl (bJ rfl) rfl aD.out rfl (by rw [aU]; simp only [List.length_append, List.length_cons]; omega) rfl ?_
    intro ws hh
    simp only [List.set_cons_zero] at hh
    rw [Nat.mul_one, cd (by rw [aU]; simp only [List.length_append, List.length_cons]; omega), eT, jI] at hh
    refine aI (aE (aW (ai (ao ?_))))
    refine bx (mI (aE (ai ?_)))
    refine ⟨⟨done ++ [(x + y + cr) % 18446744073709551616], r, _, by simp; omega, by rw [List.length_append]; rfl, rfl, by omega, hrd.tail, ?_, hh⟩, by show xs.length - (done.length + 1) < xs.length - done.length; omega, ?_⟩
    ·rw [← heq, List.append_assoc, List.length_append]; rfl
    (repeat (first | exact aw _ _ _ | refine aA rfl ?_ | refine ar rfl ?_))
   ·rw [List.getElem?_eq_none (by omega), Option.getD_none] at heq
    refine sr ?_
    refine aJ (aa (ah (cT (ak (ai (ah (aj (sr (mI (aI (aa ?_)))))))))))
    refine sr (aI (aa (ah (sr (mI (mL (aV ?_)))))))
    refine aJ (aa (cF (ak (ai (ao (mL (mI (mL (mI ?_)))))))))
    refine dv (k := done.length) aH.out aD.size rfl rfl (by omega) (by omega) (by decide) ?_
    refine aK aD.out rfl (hh.ct (i := 0) rfl (by first | assumption | (simp only [Nat.mul_one]; assumption))) (by decide) ?_
    refine mI (mI ?_)
    refine ia (gF x 0 cr hcr _) (bj (bJ rfl) (bj (bJ rfl) (bj (bJ rfl) cj))) (by decide) ?_
    refine mT ?_
    refine dE ?_
    refine dE ?_
    refine dv (k := done.length) aH.out aD.size rfl rfl (by omega) (by omega) (by decide) ?_
    refine bq hh (i := 0) (vs := [_]) rfl rfl (bJ rfl) rfl aD.out rfl (by rw [aU]; simp only [List.length_append, List.length_cons]; omega) rfl ?_
    intro ws hh
    simp only [List.set_cons_zero] at hh
    rw [Nat.mul_one, cd (by rw [aU]; simp only [List.length_append, List.length_cons]; omega), eT, jI] at hh
    refine aI (aE (aW (ai (ao ?_))))
    refine bx (mI (aE (ai ?_)))
    refine ⟨⟨done ++ [(x + 0 + cr) % 18446744073709551616], r, _, by simp; omega, by rw [List.length_append]; rfl, rfl, by omega, hrd.tail, ?_, hh⟩, by show xs.length - (done.length + 1) < xs.length - done.length; omega, ?_⟩
    ·rw [← heq, List.append_assoc, List.length_append]; rfl
    (repeat (first | exact aw _ _ _ | refine aA rfl ?_ | refine ar rfl ?_))
  ·have hr0 : rest = [] := List.eq_nil_of_length_eq_zero (by omega)
   subst hr0
   refine sr ?_
   refine aJ (aa (ah (cF ?_)))
   refine aN ?_
   refine az (az (a7 ?_))
   refine yp (by first | exact .inr rfl | exact .inl rfl) rfl  ?_
   rw [List.append_nil, fc, List.append_nil] at *
   rw [← heq]
   exact ⟨rfl, hh⟩
end Go.Proofs.YtioilmppidlbnaaGreatDoor
namespace Go.Proofs.YtioilmppidlbnaaGreatDoor
open Go.RowKit
theorem xr {k i n d : Nat} (D : Nat) (hD : D < 18446744073709551616 ^ i) (hd : d < 18446744073709551616) (hk : i + n / 64 + 1 < k) :
  (D * 2 ^ n) / 18446744073709551616 ^ (i + n / 64) % 18446744073709551616 < 2 ^ (n % 64) ∧ d * 2 ^ (n % 64) % 18446744073709551616 = (d % 2 ^ (64 - n % 64)) * 2 ^ (n % 64) ∧
  (bH 18446744073709551616 k (D * 2 ^ n)).set (i + n / 64) ((D * 2 ^ n) / 18446744073709551616 ^ (i + n / 64) % 18446744073709551616 + d * 2 ^ (n % 64) % 18446744073709551616) = bH 18446744073709551616 k (D * 2 ^ n + 18446744073709551616 ^ (i + n / 64) * (d * 2 ^ (n % 64) % 18446744073709551616)) ∧
  (D * 2 ^ n + 18446744073709551616 ^ (i + n / 64) * (d * 2 ^ (n % 64) % 18446744073709551616)) / 18446744073709551616 ^ (i + n / 64 + 1) % 18446744073709551616 = 0 ∧
  (bH 18446744073709551616 k (D * 2 ^ n + 18446744073709551616 ^ (i + n / 64) * (d * 2 ^ (n % 64) % 18446744073709551616))).set (i + n / 64 + 1) (d / 2 ^ (64 - n % 64)) = bH 18446744073709551616 k ((D + 18446744073709551616 ^ i * d) * 2 ^ n) ∧
  (n % 64 = 0 → D * 2 ^ n + 18446744073709551616 ^ (i + n / 64) * (d * 2 ^ (n % 64) % 18446744073709551616) = (D + 18446744073709551616 ^ i * d) * 2 ^ n) := by
 have hW : (18446744073709551616 : Nat) = 2 ^ 64 := by decide
 have hs : n % 64 < 64 := Nat.mod_lt _ (by omega)
 have hn : 2 ^ n = 18446744073709551616 ^ (n / 64) * 2 ^ (n % 64) := by
  rw [hW, ← Nat.pow_mul, ← Nat.pow_add]; congr 1; omega
 generalize hq : n / 64 = q at *
 generalize hse : n % 64 = s at *
 have e : (18446744073709551616 : Nat) = 2 ^ (64 - s) * 2 ^ s := by rw [← Nat.pow_add, hW]; congr 1; omega
 have hpos : 0 < 2 ^ s := Nat.pow_pos (by omega)
 have hwp : ∀ j : Nat, 0 < 18446744073709551616 ^ j := fun j => Nat.pow_pos (by decide)
 have hP : D * 2 ^ n < 18446744073709551616 ^ (i + q) * 2 ^ s := by
  rw [hn, ← Nat.mul_assoc, Nat.pow_add]
  exact Nat.mul_lt_mul_of_pos_right (Nat.mul_lt_mul_of_pos_right hD (hwp q)) hpos
 have h1 : (D * 2 ^ n) / 18446744073709551616 ^ (i + q) < 2 ^ s := by rw [Nat.div_lt_iff_lt_mul (hwp _), Nat.mul_comm (2 ^ s)]; exact hP
 have hsW : 2 ^ s ≤ 18446744073709551616 := by rw [hW]; exact Nat.pow_le_pow_right (by omega) (by omega)
 have h2 : d * 2 ^ s % 18446744073709551616 = (d % 2 ^ (64 - s)) * 2 ^ s := by rw [e, Nat.mul_mod_mul_right]
 have h3 : (d % 2 ^ (64 - s) + 1) * 2 ^ s ≤ 18446744073709551616 := by
  rw [e]
  exact Nat.mul_le_mul_right _ (Nat.mod_lt _ (Nat.pow_pos (by omega)))
 rw [Nat.succ_mul] at h3
 have h4 : (D * 2 ^ n) / 18446744073709551616 ^ (i + q) % 18446744073709551616 = (D * 2 ^ n) / 18446744073709551616 ^ (i + q) := Nat.mod_eq_of_lt (by omega)
 have hlt1 : D * 2 ^ n + 18446744073709551616 ^ (i + q) * (d * 2 ^ s % 18446744073709551616) < 18446744073709551616 ^ (i + q + 1) := by
  rw [h2, Nat.pow_succ]
  have : 18446744073709551616 ^ (i + q) * ((d % 2 ^ (64 - s)) * 2 ^ s + 2 ^ s) ≤ 18446744073709551616 ^ (i + q) * 18446744073709551616 := Nat.mul_le_mul_left _ h3
  rw [Nat.mul_add] at this
  omega
 have hup := zO (d := d) (s := s) hd (by omega)
 have hfin : D * 2 ^ n + 18446744073709551616 ^ (i + q) * (d * 2 ^ s % 18446744073709551616) + 18446744073709551616 ^ (i + q + 1) * (d / 2 ^ (64 - s)) = (D + 18446744073709551616 ^ i * d) * 2 ^ n := by
  have h5 : 18446744073709551616 ^ (i + q) * (d * 2 ^ s % 18446744073709551616) + 18446744073709551616 ^ (i + q + 1) * (d / 2 ^ (64 - s)) = 18446744073709551616 ^ (i + q) * (d * 2 ^ s) := by
   conv => rhs; rw [← hup.1, Nat.mul_add]
   rw [Nat.pow_succ, Nat.mul_assoc, Nat.mul_comm 18446744073709551616]
  rw [Nat.add_assoc, h5, Nat.add_mul, hn, Nat.pow_add]
  congr 1
  simp only [Nat.mul_assoc, Nat.mul_left_comm, Nat.mul_comm]
 have hbig : ∀ j, j < k → 18446744073709551616 ^ j * 18446744073709551616 ≤ 18446744073709551616 ^ k := fun j hj => by rw [← Nat.pow_succ]; exact Nat.pow_le_pow_right (by decide) hj
 have hb1 := hbig (i + q) (by omega)
 rw [← Nat.pow_succ] at hb1
 refine ⟨by rw [h4]; exact h1, h2, ?_, ?_, ?_, ?_⟩
 ·exact kP (by decide) (by omega) (by omega) (by rw [h4, h2]; omega)
 ·rw [Nat.div_eq_of_lt hlt1]
 ·have h6 : (D * 2 ^ n + 18446744073709551616 ^ (i + q) * (d * 2 ^ s % 18446744073709551616)) / 18446744073709551616 ^ (i + q + 1) % 18446744073709551616 = 0 := by rw [Nat.div_eq_of_lt hlt1]
  have h7 : d / 2 ^ (64 - s) < 18446744073709551616 := Nat.lt_of_le_of_lt (Nat.div_le_self _ _) hd
  have h8 := kP (B := 18446744073709551616) (k := k) (n := D * 2 ^ n + 18446744073709551616 ^ (i + q) * (d * 2 ^ s % 18446744073709551616)) (j := i + q + 1) (v := d / 2 ^ (64 - s)) (by decide) hk ?_ (by rw [h6]; omega)
  ·rw [h6, Nat.zero_add, hfin] at h8
   exact h8
  ·have h9 : 18446744073709551616 ^ (i + q + 1) * (d / 2 ^ (64 - s) + 1) ≤ 18446744073709551616 ^ (i + q + 1) * 18446744073709551616 := Nat.mul_le_mul_left _ h7
   have h10 := hbig (i + q + 1) hk
   rw [Nat.mul_succ] at h9
   omega
 ·intro h0
  subst h0
  rw [← hfin]
  have : d / 2 ^ (64 - 0) = 0 := Nat.div_eq_of_lt (by rw [← hW]; exact hd)
  rw [this]
  simp
theorem u6 (A : Option Addr) (n c m : Nat) (xs : List Nat) (w : World) (hx : Sl w A n 1 (cz xs)) (hd : Dg 18446744073709551616 xs) (hn : n ≤ 1000000000) (hm : m ≤ 10000000000) :
  Calls Tryz.prog 195 #[.slice A n c, .int .i64 (m : Int)] w fun e w' => ∃ A c, e = .returned (.slice A (aT 18446744073709551616 (bB 18446744073709551616 xs * 2 ^ m)).length c) ∧ w'.ownsRow w.heap.size 169 1 (.slice A (aT 18446744073709551616 (bB 18446744073709551616 xs * 2 ^ m)).length c) (aT 18446744073709551616 (bB 18446744073709551616 xs * 2 ^ m)).length (cz (aT 18446744073709551616 (bB 18446744073709551616 xs * 2 ^ m))) ∧ Below w.heap.size w w' := by
 have hl := hx.1
 rw [aU] at hl
 have hh := Hp.start w
 have hs1 : ((m : Int) % 64).toNat = m % 64 := by omega
 refine al (N := 55) (l := [.slice A n c, .int .i64 (m : Int)]) Tryz.func195 rfl rfl (by simp) ?_
 refine sr (aL (aa (sr (mL (aV (mI ?_))))))
 refine gQ rfl rfl (by omega) (by omega) (by omega) (by decide) ?_
 refine bx ?_
 refine bx ?_
 refine fh (n := n + m / 64 + 1) hh rfl rfl (by omega) (by omega) aH.out aD.out rfl (by omega) (by omega) (by decide) ?_
 intro b15 w15 hh
 refine aL (aa (ah (sr (mL (aV (mI (aa (aj ?_))))))))
 rw [kH] at hh
 refine bo [6, 7, 8, 18, 19, 20, 21, 22, 23, 24, 25, 26, 27, 28, 29, 30, 31, 32, 33, 34, 35, 36, 37, 38, 39, 40, 41, 42, 43, 44, 45, 46, 47, 48, 49, 50, 51, 52] 18
  (fun v w' => ∃ i : Nat, i ≤ n ∧ v = .int .i64 i ∧ Hp w [.row (some ⟨b15, 0, none⟩) (n + m / 64 + 1) (n + m / 64 + 1) 169 1 (cz (bH 18446744073709551616 (n + m / 64 + 1) (bB 18446744073709551616 (xs.take i) * 2 ^ m)))] w')
  (fun v _ => n - (intOf v).toNat) ?_ ?_
 ·exact ⟨0, Nat.zero_le _, rfl, by rw [List.take_zero, bB, Nat.zero_mul, lp]; exact hh⟩
 ·clear hh
  rintro ρ' v w' ⟨i, hi, rfl, hh⟩
  by_cases hlt : i < n
  ·obtain ⟨d, hdi⟩ := ay (l := xs) (k := i) (by omega)
   obtain ⟨ad, rfl, hr⟩ := hx.at_ (by omega)
   have hd2 := dK hdi
   have hdw := hd.at_ hdi
   have hD := fO (hd.take i)
   rw [List.length_take, Nat.min_eq_left (by omega)] at hD
   obtain ⟨s1, s2, s3, s4, s5, s6⟩ := xr (k := n + m / 64 + 1) (n := m) (bB 18446744073709551616 (xs.take i)) hD hdw (by omega)
   have hg := dK (fK (B := 18446744073709551616) (n + m / 64 + 1) (bB 18446744073709551616 (xs.take i) * 2 ^ m) (i + m / 64) (by omega))
   refine sr ?_
   refine aJ (aa (ah (cT (ak (ai (ah (aj (sr (mI ?_)))))))))
   refine aC aH.out aD.size rfl rfl rfl (by omega) (by decide) ?_
   refine aK aD.out rfl ((hr.ext hh.below).eC (by assumption)) (by decide) ?_
   refine aI (aI (aa (sr (mI (mI ?_)))))
   refine gQ rfl rfl (by omega) (by omega) (by omega) (by decide) ?_
   refine bx (aI (aa (ah ?_)))
   refine a6 8 [[(5, none)], [(8, none)], [(27, some 0), (28, some 1)], [(29, some 2)], [(7, none)], [(1, none)], [(32, some 5)], [(31, some 4), (33, some 6)]] [(7, 34), (6, 33), (5, 32), (4, 31), (3, 30), (2, 29), (1, 28), (0, 27)] hh mixed (by kernel_rfl) ?_
   refine iC ?_
   refine eM ?_
   refine vD (i + m / 64) ?_
   refine bh (i := 3) (fun ρ1 w1 hj hR => dZ aD.out (show ρ1 29 = Value.pointer _ from hR.1) (hj.hp.ct (i := 0) rfl (by rw [Nat.mul_one]; exact hg))) ?_
   refine eM ?_
   refine eM ?_
   refine bh (i := 6) (fun ρ1 w1 hj hR => jW (show ρ1 32 = Value.int _ _ from hR.1) rfl (by omega) (by omega)) ?_
   refine bh (i := 7) (fun ρ1 w1 hj hR => ni (show ρ1 31 = Value.int _ _ from hR.1) (show ρ1 33 = Value.int _ _ from hR.2.1) (by omega)) ?_
   refine bA ?_
   intro f W hJ hV
   have hb_6 := hJ.bl
   obtain ⟨v34, v33, v32, v31, v30, v29, v28, v27, _⟩ := hV
   replace hh := hJ.hp
   refine bf (bz (ae v34 (ae v33 (ae v32 (ae v31 (ae v30 (ae v29 (ae v28 (ae v27 bg))))))))) ?_
   dsimp only [cH]
   clear hJ
   refine tp rfl rfl (by first | assumption | omega) (by first | assumption | omega) (by decide) ?_
   refine bm (k := i + m / 64) aH.out aD.size rfl rfl (by omega) (by omega) (by decide) ?_
   refine bq hh (i := 0) (vs := [_]) rfl rfl (bJ rfl) rfl aD.out rfl (by rw [aU, aP]; omega) rfl ?_
   intro ws hh
   simp only [List.set_cons_zero] at hh
   rw [hs1, s2, sU s1, ← s2, Nat.mul_one, cd (by rw [aU, aP]; omega), eT, s3] at hh
   by_cases h0 : m % 64 = 0
   ·refine aa (sr (mI ?_))
    refine iH rfl rfl (by omega) (by omega) (by decide) ?_
    refine bQ (aa (cF (ak (aW (ai (ao ?_))))))
    refine bx (mI (aE (ai ?_)))
    rw [s6 h0, ← dT hdi] at hh
    refine ⟨⟨i + 1, by omega, rfl, hh⟩, by show n - (i + 1) < n - i; omega, ?_⟩
    (repeat (first | exact aw _ _ _ | refine aA rfl ?_ | refine ar rfl ?_))
   ·have hg2 := dK (fK (B := 18446744073709551616) (n + m / 64 + 1) (bB 18446744073709551616 (xs.take i) * 2 ^ m + 18446744073709551616 ^ (i + m / 64) * (d * 2 ^ (m % 64) % 18446744073709551616)) (i + m / 64 + 1) (by omega))
    rw [s4] at hg2
    have hs2 : (64 - (m : Int) % 64).toNat = 64 - m % 64 := by omega
    have hd64 : d / 2 ^ (64 - (m : Int) % 64).toNat < 18446744073709551616 := Nat.lt_of_le_of_lt (Nat.div_le_self _ _) hdw
    have h0w : (0 : Nat) < 18446744073709551616 := by omega
    refine aa (sr (mI ?_))
    refine iH rfl rfl (by omega) (by omega) (by decide) ?_
    refine bQ (aa (cT ?_))
    refine a6 10 [[(5, none)], [(8, none)], [(41, some 1)], [(40, some 0), (42, some 2)], [(43, some 3)], [(7, none)], [(1, none)], [(46, some 6)], [(47, some 7)], [(45, some 5), (48, some 8)]] [(9, 49), (8, 48), (7, 47), (6, 46), (5, 45), (4, 44), (3, 43), (2, 42), (1, 41), (0, 40)] hh mixed (by kernel_rfl) ?_
    refine iC ?_
    refine eM ?_
    refine uP ?_
    refine vD (i + m / 64 + 1) ?_
    refine bh (i := 4) (fun ρ1 w1 hj hR => dZ aD.out (show ρ1 43 = Value.pointer _ from hR.1) (hj.hp.ct (i := 0) rfl (by rw [Nat.mul_one]; exact hg2))) ?_
    refine eM ?_
    refine eM ?_
    refine bh (i := 7) (fun ρ1 w1 hj hR => jW (show ρ1 46 = Value.int _ _ from hR.1) rfl (by omega) (by omega)) ?_
    refine sy ?_
    refine bh (i := 9) (fun ρ1 w1 hj hR => sw (show ρ1 45 = Value.int _ _ from hR.1) (show ρ1 48 = Value.int _ _ from hR.2.1) (by omega)) ?_
    refine bA ?_
    intro f W hJ hV
    have hb_8 := hJ.bl
    obtain ⟨v49, v48, v47, v46, v45, v44, v43, v42, v41, v40, _⟩ := hV
    replace hh := hJ.hp
    refine bf (bz (ae v49 (ae v48 (ae v47 (ae v46 (ae v45 (ae v44 (ae v43 (ae v42 (ae v41 (ae v40 bg))))))))))) ?_
    dsimp only [cH]
    clear hJ
    refine tp rfl rfl (by first | assumption | omega) (by first | assumption | omega) (by decide) ?_
    refine bm (k := i + m / 64 + 1) aH.out aD.size rfl rfl (by omega) (by omega) (by decide) ?_
    refine bq hh (i := 0) (vs := [_]) rfl rfl (bJ rfl) rfl aD.out rfl (by rw [aU, aP]; omega) rfl ?_
    intro ws hh
    simp only [List.set_cons_zero] at hh
    rw [hs2, Nat.zero_or, Nat.mul_one, cd (by rw [aU, aP]; omega), eT, s5, ← dT hdi] at hh
    refine aE (aW (ai (ao ?_)))
    refine bx (mI (aE (ai ?_)))
    refine ⟨⟨i + 1, by omega, rfl, hh⟩, by show n - (i + 1) < n - i; omega, ?_⟩
    (repeat (first | exact aw _ _ _ | refine aA rfl ?_ | refine ar rfl ?_))
  ·refine sr ?_
   refine aJ (aa (ah (cF ?_)))
   refine aN ?_
   refine az (az (a7 (ai (sr (mL ?_)))))
   rw [List.take_of_length_le (by omega)] at hh
   refine bF hh (fw _ _ _ (bH 18446744073709551616 (n + m / 64 + 1) (bB 18446744073709551616 xs * 2 ^ m)) _ (hh.aQ (i := 0) rfl) (Nat.le_refl _) (by omega)) rfl ?_
   intro w54 hh
   refine aL (aa (aq ?_))
   refine ck ?_
   have hbd : bB 18446744073709551616 xs * 2 ^ m < 18446744073709551616 ^ (n + m / 64 + 1) := by
    have h1 := fO hd
    rw [show xs.length = n by omega] at h1
    have h2 : 2 ^ m ≤ 18446744073709551616 ^ (m / 64 + 1) := by
     rw [show (18446744073709551616 : Nat) = 2 ^ 64 from rfl, ← Nat.pow_mul]
     exact Nat.pow_le_pow_right (by omega) (by omega)
    rw [show n + m / 64 + 1 = n + (m / 64 + 1) by omega, Nat.pow_add]
    exact Nat.lt_of_lt_of_le (Nat.mul_lt_mul_of_pos_right h1 (Nat.pow_pos (by omega))) (Nat.mul_le_mul_left _ h2)
   have hd : du (bH 18446744073709551616 (n + m / 64 + 1) (bB 18446744073709551616 xs * 2 ^ m)) = aT 18446744073709551616 (bB 18446744073709551616 xs * 2 ^ m) := by
    rw [eE (by omega) (dQ (by omega) _ _), bV hbd]
   have h1 := (Hp.uc (xs := bH 18446744073709551616 (n + m / 64 + 1) (bB 18446744073709551616 xs * 2 ^ m)) hh (aP _ _)).at_ (i := 0) rfl
   rw [hd] at h1
   rw [hd]
   exact ⟨_, _, rfl, h1, hh.below⟩
end Go.Proofs.YtioilmppidlbnaaGreatDoor
namespace Go.Proofs.YtioilmppidlbnaaGreatDoor
open Go.RowKit
theorem Sl.zl {w : World} {ad : Addr} {n : Nat} {xs : List Nat} (h : Sl w (some ad) n 1 (cz xs)) {k : Nat} (hk : k < n) : Sl w (some (ad.add (k * 1))) (n - k) 1 (cz (xs.drop k)) := by
 have hl := h.1
 rw [aU] at hl
 refine ⟨by rw [aU, List.length_drop]; omega, fun h0 => ⟨_, rfl, ?_⟩⟩
 obtain ⟨ad', he, hr⟩ := h.2 (by omega)
 injection he with he
 subst he
 rw [Nat.mul_one, od]
 exact hr.drop k
theorem u4 {N j s : Nat} (hs : s < 64) (h0 : 0 < s) :
  (N / 18446744073709551616 ^ (j + 1) % 18446744073709551616) * 2 ^ (64 - s) % 18446744073709551616 = N / 18446744073709551616 ^ (j + 1) % 2 ^ s * 2 ^ (64 - s) ∧
  (N / 18446744073709551616 ^ j % 18446744073709551616 / 2 ^ s ||| (N / 18446744073709551616 ^ (j + 1) % 18446744073709551616) * 2 ^ (64 - s) % 18446744073709551616) = N / 2 ^ (64 * j + s) % 18446744073709551616 := by
 have hW : (18446744073709551616 : Nat) = 2 ^ 64 := by decide
 have e : (18446744073709551616 : Nat) = 2 ^ s * 2 ^ (64 - s) := by rw [← Nat.pow_add, hW]; congr 1; omega
 have h1 : (N / 18446744073709551616 ^ (j + 1) % 18446744073709551616) * 2 ^ (64 - s) % 18446744073709551616 = N / 18446744073709551616 ^ (j + 1) % 2 ^ s * 2 ^ (64 - s) := by
  generalize N / 18446744073709551616 ^ (j + 1) = m
  rw [e, Nat.mul_mod_mul_right, Nat.mod_mul_right_mod]
 obtain ⟨h2, h3⟩ := oM N j s hs h0
 exact ⟨h1, by rw [h1, sU h2, h3]⟩
theorem qt (A : Option Addr) (n c m : Nat) (xs : List Nat) (w : World) (hx : Sl w A n 1 (cz xs)) (hd : Dg 18446744073709551616 xs) (hc : n ≤ c) (hn : n ≤ 1000000000) (hm : m ≤ 1000000000000) :
  Calls Tryz.prog 196 #[.slice A n c, .int .i64 (m : Int)] w fun e w' => ∃ A c, e = .returned (.slice A (aT 18446744073709551616 (bB 18446744073709551616 xs / 2 ^ m)).length c) ∧ w'.ownsRow w.heap.size 169 1 (.slice A (aT 18446744073709551616 (bB 18446744073709551616 xs / 2 ^ m)).length c) (aT 18446744073709551616 (bB 18446744073709551616 xs / 2 ^ m)).length (cz (aT 18446744073709551616 (bB 18446744073709551616 xs / 2 ^ m))) ∧ Below w.heap.size w w' := by
 have hl := hx.1
 rw [aU] at hl
 have hh := Hp.start w
 have hs1 : ((m : Int) % 64).toNat = m % 64 := by omega
 have hW : (18446744073709551616 : Nat) = 2 ^ 64 := by decide
 have hmm : 2 ^ m = 18446744073709551616 ^ (m / 64) * 2 ^ (m % 64) := by
  rw [hW, ← Nat.pow_mul, ← Nat.pow_add]; congr 1; omega
 have hlt := fO hd
 rw [show xs.length = n by omega] at hlt
 by_cases hbig : n ≤ m / 64
 ·have h0 : bB 18446744073709551616 xs / 2 ^ m = 0 := by
   apply Nat.div_eq_of_lt
   refine Nat.lt_of_lt_of_le hlt (Nat.le_trans (Nat.pow_le_pow_right (by decide) hbig) ?_)
   rw [hmm]
   exact Nat.le_mul_of_pos_right _ (Nat.pow_pos (by omega))
  refine al (N := 61) (l := [.slice A n c, .int .i64 (m : Int)]) Tryz.func196 rfl rfl (by simp) ?_
  refine sr (aL (aa (ah (sr (mI ?_)))))
  refine gQ rfl rfl (by omega) (by omega) (by omega) (by decide) ?_
  refine mL (aV ?_)
  refine dz (aa (cT (sr (aL (aa (aq (aM ?_)))))))
  refine ck ?_
  rw [h0, eW (by omega)]
  exact ⟨none, 0, rfl, World.ownsRow_nil _ _ _ _, hh.below⟩
 ·obtain ⟨ad, rfl, hr⟩ := hx.at_ (by omega)
  have hsd := hx.zl (k := m / 64) (by omega)
  have hget : ∀ j, j < n → xs[j]? = some (bB 18446744073709551616 xs / 18446744073709551616 ^ j % 18446744073709551616) := fun j hj => by
   obtain ⟨d, hdj⟩ := ay (l := xs) (k := j) (by omega)
   rw [hdj, l7 hd hdj]
  refine al (N := 61) (l := [.slice (some ad) n c, .int .i64 (m : Int)]) Tryz.func196 rfl rfl (by simp) ?_
  refine sr (aL (aa (ah (sr (mI ?_)))))
  refine gQ rfl rfl (by omega) (by omega) (by omega) (by decide) ?_
  refine mL (aV ?_)
  refine dz (aa (cF (ak (ai (sr (mL (mI ?_)))))))
  refine gQ rfl rfl (by omega) (by omega) (by omega) (by decide) ?_
  first | refine mw (l := m / 64) aH.out aD.size rfl rfl (by omega) (by omega) (by omega) (by omega) (by decide) ?_ | refine lS (l := m / 64) aH.out aD.size rfl rfl (by omega) (by omega) (by omega) (by omega) (by decide) ?_
  refine aR (jU _ _ _ 0 _ _ hsd (by omega) (by omega)) av.out rfl (by decide) ?_
  rintro e_ w_ ⟨b16, rfl, hown_, hb_⟩
  refine ⟨_, rfl, ?_⟩
  replace hh := hh.bu (x := .row _ _ _ _ _ _) hb_ hown_
  rw [Nat.zero_max, Nat.sub_self, List.replicate_zero, List.append_nil] at hh
  rw [Nat.zero_max]
  refine aL (aa (ah (sr (mL (aV (mI (aa (aj ?_))))))))
  refine bo [6, 19, 20, 21, 22, 23, 24, 25, 26, 27, 28, 29, 30, 31, 32, 33, 34, 35, 36, 37, 38, 39, 40, 41, 42, 43, 44, 45, 46, 47, 48, 49, 50, 51, 52, 53, 54, 55, 56, 57, 58] 19
   (fun v w' => ∃ i : Nat, i ≤ n - m / 64 ∧ v = .int .i64 i ∧ Hp w [.row (some ⟨b16, 0, none⟩) (n - m / 64) (n - m / 64) 169 1 (cz (bH 18446744073709551616 i (bB 18446744073709551616 xs / 2 ^ m) ++ xs.drop (m / 64 + i)))] w')
   (fun v _ => (n - m / 64) - (intOf v).toNat) ?_ ?_
  ·exact ⟨0, Nat.zero_le _, rfl, hh⟩
  ·clear hh
   rintro ρ' v w' ⟨i, hi, rfl, hh⟩
   by_cases hlt2 : i < n - m / 64
   ·have hgi := hget (m / 64 + i) (by omega)
    have hdr : xs.drop (m / 64 + i) = (bB 18446744073709551616 xs / 18446744073709551616 ^ (m / 64 + i) % 18446744073709551616) :: xs.drop (m / 64 + i + 1) := by
     rw [List.drop_eq_getElem_cons (by omega)]
     congr 1
     have := List.getElem?_eq_some_iff.1 hgi
     exact this.2
    have hcell : (bH 18446744073709551616 i (bB 18446744073709551616 xs / 2 ^ m) ++ xs.drop (m / 64 + i))[i]? = some (bB 18446744073709551616 xs / 18446744073709551616 ^ (m / 64 + i) % 18446744073709551616) := by
     rw [List.getElem?_append_right (by rw [aP]; omega), aP, hdr]; simp
    have hg := dK hcell
    have hset : ∀ y, (bH 18446744073709551616 i (bB 18446744073709551616 xs / 2 ^ m) ++ xs.drop (m / 64 + i)).set i y = bH 18446744073709551616 i (bB 18446744073709551616 xs / 2 ^ m) ++ y :: xs.drop (m / 64 + i + 1) := fun y => by
     rw [hdr, List.set_append_right _ _ (by rw [aP]; omega), aP, Nat.sub_self, List.set_cons_zero]
    have hll : (bH 18446744073709551616 i (bB 18446744073709551616 xs / 2 ^ m) ++ xs.drop (m / 64 + i)).length = n - m / 64 := by rw [List.length_append, aP, List.length_drop]; omega
    have hac : ∀ y, bH 18446744073709551616 i (bB 18446744073709551616 xs / 2 ^ m) ++ y :: xs.drop (m / 64 + i + 1) = (bH 18446744073709551616 i (bB 18446744073709551616 xs / 2 ^ m) ++ [y]) ++ xs.drop (m / 64 + (i + 1)) := fun y => List.append_cons _ _ _
    have hnew : bH 18446744073709551616 (i + 1) (bB 18446744073709551616 xs / 2 ^ m) = bH 18446744073709551616 i (bB 18446744073709551616 xs / 2 ^ m) ++ [bB 18446744073709551616 xs / 2 ^ (64 * (m / 64 + i) + m % 64) % 18446744073709551616] := by
     rw [iw, Nat.div_div_eq_div_mul]
     congr 4
     rw [hW, ← Nat.pow_mul, ← Nat.pow_add]; congr 1; omega
    refine sr ?_
    refine aJ (aa (ah (cT (ak (ai (ah (aj (sr (mI (aI (aa ?_)))))))))))
    refine sr (mL (mI ?_))
    refine bm (k := i) aH.out aD.size rfl rfl (by omega) (by omega) (by decide) ?_
    refine aK aD.out rfl (hh.ct (i := 0) rfl (by first | assumption | (simp only [Nat.mul_one]; assumption))) (by decide) ?_
    refine mI ?_
    refine iH rfl rfl (by omega) (by omega) (by decide) ?_
    refine ti rfl rfl (by omega) (by decide) ?_
    refine bm (k := i) aH.out aD.size rfl rfl (by omega) (by omega) (by decide) ?_
    refine bq hh (i := 0) (vs := [_]) rfl rfl (bJ rfl) rfl aD.out rfl (by rw [aU, hll]; omega) rfl ?_
    intro ws hh
    simp only [List.set_cons_zero] at hh
    rw [hs1, Nat.mul_one, cd (by rw [aU, hll]; omega), eT, hset] at hh
    by_cases h0 : m % 64 = 0
    ·have e1 : bB 18446744073709551616 xs / 18446744073709551616 ^ (m / 64 + i) % 18446744073709551616 / 2 ^ (m % 64) = bB 18446744073709551616 xs / 2 ^ (64 * (m / 64 + i) + m % 64) % 18446744073709551616 := by
      rw [h0, Nat.pow_zero, Nat.div_one, Nat.add_zero, Nat.pow_mul, ← hW]
     by_cases hl : i + 1 < n - m / 64
     ·refine aa (sr (mI ?_))
      refine bx (mL (aV ?_))
      refine aJ (mB ?_)
      first | refine gS ?_ | (refine gT ?_; refine mI ?_) | refine gV ?_
      first | refine gS ?_ | (refine gT ?_; refine iH rfl rfl (by omega) (by omega) (by decide) ?_) | refine gV ?_
      first | refine gS ?_ | (refine gT ?_; refine bQ ?_) | refine gV ?_
      first | refine dh ?_ | refine de ?_
      refine aa (cF (ak (aW (ai (ao ?_)))))
      refine bx (mI (aE (ai ?_)))
      rw [e1, hac, ← hnew] at hh
      refine ⟨⟨i + 1, by omega, rfl, hh⟩, by show (n - m / 64) - (i + 1) < (n - m / 64) - i; omega, ?_⟩
      (repeat (first | exact aw _ _ _ | refine aA rfl ?_ | refine ar rfl ?_))
     ·refine aa (sr (mI ?_))
      refine bx (mL (aV ?_))
      refine aJ (mB ?_)
      first | refine gS ?_ | (refine gT ?_; refine mI ?_) | refine gV ?_
      first | refine gS ?_ | (refine gT ?_; refine iH rfl rfl (by omega) (by omega) (by decide) ?_) | refine gV ?_
      first | refine gS ?_ | (refine gT ?_; refine bQ ?_) | refine gV ?_
      first | refine dh ?_ | refine de ?_
      refine aa (cF (ak (aW (ai (ao ?_)))))
      refine bx (mI (aE (ai ?_)))
      rw [e1, hac, ← hnew] at hh
      refine ⟨⟨i + 1, by omega, rfl, hh⟩, by show (n - m / 64) - (i + 1) < (n - m / 64) - i; omega, ?_⟩
      (repeat (first | exact aw _ _ _ | refine aA rfl ?_ | refine ar rfl ?_))
    ·by_cases hl : i + 1 < n - m / 64
     ·have hgj := hget (m / 64 + i + 1) (by omega)
      have hgj2 := dK hgj
      obtain ⟨d1, d2⟩ := u4 (N := bB 18446744073709551616 xs) (j := m / 64 + i) (s := m % 64) (Nat.mod_lt _ (by omega)) (by omega)
      have hcell2 : (bH 18446744073709551616 i (bB 18446744073709551616 xs / 2 ^ m) ++ (bB 18446744073709551616 xs / 18446744073709551616 ^ (m / 64 + i) % 18446744073709551616 / 2 ^ (m % 64)) :: xs.drop (m / 64 + i + 1))[i]? = some (bB 18446744073709551616 xs / 18446744073709551616 ^ (m / 64 + i) % 18446744073709551616 / 2 ^ (m % 64)) := by
       rw [List.getElem?_append_right (by rw [aP]; omega), aP]; simp
      have hg2 := dK hcell2
      have hset2 : ∀ y z, (bH 18446744073709551616 i (bB 18446744073709551616 xs / 2 ^ m) ++ y :: xs.drop (m / 64 + i + 1)).set i z = bH 18446744073709551616 i (bB 18446744073709551616 xs / 2 ^ m) ++ z :: xs.drop (m / 64 + i + 1) := fun y z => by
       rw [List.set_append_right _ _ (by rw [aP]; omega), aP, Nat.sub_self, List.set_cons_zero]
      have hll2 : ∀ y, (bH 18446744073709551616 i (bB 18446744073709551616 xs / 2 ^ m) ++ y :: xs.drop (m / 64 + i + 1)).length = n - m / 64 := fun y => by rw [List.length_append, aP, List.length_cons, List.length_drop]; omega
      have hs2 : (64 - (m : Int) % 64).toNat = 64 - m % 64 := by omega
      have b1 : bB 18446744073709551616 xs / 18446744073709551616 ^ (m / 64 + i) % 18446744073709551616 / 2 ^ (m % 64) < 18446744073709551616 := Nat.lt_of_le_of_lt (Nat.div_le_self _ _) (Nat.mod_lt _ (by omega))
      have b2 : bB 18446744073709551616 xs / 18446744073709551616 ^ (m / 64 + i + 1) % 18446744073709551616 * 2 ^ (64 - (m : Int) % 64).toNat % 18446744073709551616 < 18446744073709551616 := Nat.mod_lt _ (by omega)
      refine aa (sr (mI ?_))
      refine bx (mL (aV ?_))
      refine aJ (mB ?_)
      first | refine gS ?_ | (refine gT ?_; refine mI ?_) | refine gV ?_
      first | refine gS ?_ | (refine gT ?_; refine iH rfl rfl (by omega) (by omega) (by decide) ?_) | refine gV ?_
      first | refine gS ?_ | (refine gT ?_; refine bQ ?_) | refine gV ?_
      first | refine dh ?_ | refine de ?_
      refine aa (cT ?_)
      refine a6 16 [[(5, none)], [(6, none)], [(40, some 0), (41, some 1)], [(42, some 2)], [(0, none)], [(1, none)], [(45, some 5)], [(6, none)], [(46, some 6), (47, some 7)], [(48, some 8)], [(44, some 4), (49, some 9)], [(50, some 10)], [(1, none)], [(52, some 12)], [(53, some 13)], [(51, some 11), (54, some 14)]] [(15, 55), (14, 54), (13, 53), (12, 52), (11, 51), (10, 50), (9, 49), (8, 48), (7, 47), (6, 46), (5, 45), (4, 44), (3, 43), (2, 42), (1, 41), (0, 40)] hh mixed (by kernel_rfl) ?_
      refine iC ?_
      refine eM ?_
      refine vD (i) ?_
      refine bh (i := 3) (fun ρ1 w1 hj hR => dZ aD.out (show ρ1 42 = Value.pointer _ from hR.1) (hj.hp.ct (i := 0) rfl (by rw [Nat.mul_one]; exact hg2))) ?_
      refine iC ?_
      refine eM ?_
      refine bh (i := 6) (fun ρ1 w1 hj hR => pq (show ρ1 45 = Value.int _ _ from hR.1) rfl (by omega) (by omega) (by omega)) ?_
      refine eM ?_
      refine uP ?_
      refine uP ?_
      refine nN (m / 64 + i + 1) ?_
      refine lP (fun _ hj => (hr.ext hj.hp.below).eC hgj2) ?_
      refine eM ?_
      refine bh (i := 13) (fun ρ1 w1 hj hR => jW (show ρ1 52 = Value.int _ _ from hR.1) rfl (by omega) (by omega)) ?_
      refine sy ?_
      refine bh (i := 15) (fun ρ1 w1 hj hR => ni (show ρ1 51 = Value.int _ _ from hR.1) (show ρ1 54 = Value.int _ _ from hR.2.1) (by omega)) ?_
      refine bA ?_
      intro f W hJ hV
      have hb_9 := hJ.bl
      obtain ⟨v55, v54, v53, v52, v51, v50, v49, v48, v47, v46, v45, v44, v43, v42, v41, v40, _⟩ := hV
      replace hh := hJ.hp
      refine bf (bz (ae v55 (ae v54 (ae v53 (ae v52 (ae v51 (ae v50 (ae v49 (ae v48 (ae v47 (ae v46 (ae v45 (ae v44 (ae v43 (ae v42 (ae v41 (ae v40 bg))))))))))))))))) ?_
      dsimp only [cH]
      clear hJ
      refine tp rfl rfl (by first | assumption | omega) (by first | assumption | omega) (by decide) ?_
      refine bm (k := i) aH.out aD.size rfl rfl (by omega) (by omega) (by decide) ?_
      refine bq hh (i := 0) (vs := [_]) rfl rfl (bJ rfl) rfl aD.out rfl (by rw [aU, hll2]; omega) rfl ?_
      intro ws hh
      simp only [List.set_cons_zero] at hh
      rw [hs2, d2, Nat.mul_one, cd (by rw [aU, hll2]; omega), eT, hset2, hac, ← hnew] at hh
      refine aE (aW (ai (ao ?_)))
      refine bx (mI (aE (ai ?_)))
      refine ⟨⟨i + 1, by omega, rfl, hh⟩, by show (n - m / 64) - (i + 1) < (n - m / 64) - i; omega, ?_⟩
      (repeat (first | exact aw _ _ _ | refine aA rfl ?_ | refine ar rfl ?_))
     ·have e1 : bB 18446744073709551616 xs / 18446744073709551616 ^ (m / 64 + i) % 18446744073709551616 / 2 ^ (m % 64) = bB 18446744073709551616 xs / 2 ^ (64 * (m / 64 + i) + m % 64) % 18446744073709551616 := by
       obtain ⟨h2, h3⟩ := oM (bB 18446744073709551616 xs) (m / 64 + i) (m % 64) (Nat.mod_lt _ (by omega)) (by omega)
       have h4 : bB 18446744073709551616 xs / 18446744073709551616 ^ (m / 64 + i + 1) = 0 := Nat.div_eq_of_lt (Nat.lt_of_lt_of_le hlt (Nat.pow_le_pow_right (by decide) (by omega)))
       rw [h4] at h3
       simpa using h3
      refine aa (sr (mI ?_))
      refine bx (mL (aV ?_))
      refine aJ (mB ?_)
      first | refine gS ?_ | (refine gT ?_; refine mI ?_) | refine gV ?_
      first | refine gS ?_ | (refine gT ?_; refine iH rfl rfl (by omega) (by omega) (by decide) ?_) | refine gV ?_
      first | refine gS ?_ | (refine gT ?_; refine bQ ?_) | refine gV ?_
      first | refine dh ?_ | refine de ?_
      refine aa (cF (ak (aW (ai (ao ?_)))))
      refine bx (mI (aE (ai ?_)))
      rw [e1, hac, ← hnew] at hh
      refine ⟨⟨i + 1, by omega, rfl, hh⟩, by show (n - m / 64) - (i + 1) < (n - m / 64) - i; omega, ?_⟩
      (repeat (first | exact aw _ _ _ | refine aA rfl ?_ | refine ar rfl ?_))
   ·obtain rfl : i = n - m / 64 := by omega
    rw [List.drop_eq_nil_of_le (by omega), List.append_nil] at hh
    refine sr ?_
    refine aJ (aa (ah (cF ?_)))
    refine aN ?_
    refine az (az (a7 (ai (sr (mL ?_)))))
    refine bF hh (fw _ _ _ (bH 18446744073709551616 (n - m / 64) (bB 18446744073709551616 xs / 2 ^ m)) _ (hh.aQ (i := 0) rfl) (Nat.le_refl _) (by omega)) rfl ?_
    intro w60 hh
    refine aL (aa (aq ?_))
    refine ck ?_
    have hbd : bB 18446744073709551616 xs / 2 ^ m < 18446744073709551616 ^ (n - m / 64) := by
     rw [Nat.div_lt_iff_lt_mul (Nat.pow_pos (by omega)), hmm, ← Nat.mul_assoc, ← Nat.pow_add, show n - m / 64 + m / 64 = n by omega]
     exact Nat.lt_of_lt_of_le hlt (Nat.le_mul_of_pos_right _ (Nat.pow_pos (by omega)))
    have hd : du (bH 18446744073709551616 (n - m / 64) (bB 18446744073709551616 xs / 2 ^ m)) = aT 18446744073709551616 (bB 18446744073709551616 xs / 2 ^ m) := by
     rw [eE (by omega) (dQ (by omega) _ _), bV hbd]
    have h1 := (Hp.uc (xs := bH 18446744073709551616 (n - m / 64) (bB 18446744073709551616 xs / 2 ^ m)) hh (aP _ _)).at_ (i := 0) rfl
    rw [hd] at h1
    rw [hd]
    exact ⟨_, _, rfl, h1, hh.below⟩
end Go.Proofs.YtioilmppidlbnaaGreatDoor
namespace Go.Proofs.YtioilmppidlbnaaGreatDoor
open Go.RowKit
def bN (a : ByteArray) : Nat := bn a.data.toList
def sN (n : Nat) : ByteArray := str (sb n)
theorem ek (n : Nat) : bN (sN n) = n := by rw [bN, sN, fU, At]
theorem hZ (n : Nat) : (sN n).size = (bD n + 7) / 8 := by rw [sN, mD, uU, sZ]
theorem rZ {a b : Nat} (h : sN a = sN b) : a = b := by rw [← ek a, h, ek]
theorem gD : sN 0 = ByteArray.mk #[] := by rw [sN, yq]; rfl
theorem oq (a : ByteArray) : bN a < 256 ^ a.size := by rw [jD]; exact yz _
theorem fi (a : ByteArray) : bD (bN a) ≤ 8 * a.size := by
 apply cU
 have := oq a
 rwa [show (256 : Nat) = 2 ^ 8 from rfl, ← Nat.pow_mul] at this
theorem uW {n k : Nat} (h : n < 256 ^ k) : (aT 18446744073709551616 n).length ≤ (k + 7) / 8 := by
 apply fC (by omega)
 refine Nat.lt_of_lt_of_le h ?_
 rw [show (256 : Nat) = 2 ^ 8 from rfl, show (18446744073709551616 : Nat) = 2 ^ 64 from rfl, ← Nat.pow_mul, ← Nat.pow_mul]
 exact Nat.pow_le_pow_right (by omega) (by omega)
theorem eP (a : ByteArray) : (aT 18446744073709551616 (bN a)).length ≤ (a.size + 7) / 8 := uW (oq a)
theorem ff (n : Nat) : Dg 18446744073709551616 (aT 18446744073709551616 n) := (dm (by omega) n).1
theorem e8 (n : Nat) : bB 18446744073709551616 (aT 18446744073709551616 n) = n := dx (by omega) n
theorem cX (a : ByteArray) (w : World) (ha : a.size ≤ 1000000000) :
  Calls Tryz.prog 159 #[.string a] w fun e w' => ∃ b c, e = .returned (.slice (some ⟨b, 0, none⟩) (aT 18446744073709551616 (bN a)).length c) ∧ w'.ownsRow w.heap.size 169 1 (.slice (some ⟨b, 0, none⟩) (aT 18446744073709551616 (bN a)).length c) (aT 18446744073709551616 (bN a)).length (cz (aT 18446744073709551616 (bN a))) ∧ Below w.heap.size w w' := vh a w (by omega)
theorem lF (n : Nat) (w : World) (hn : n < 18446744073709551616) :
  Calls Tryz.prog 143 #[.int .u64 (n : Int)] w fun e w' => e = .returned (.string (sN n)) ∧ Below w.heap.size w w' := by
 have hh := Hp.start w
 refine al (N := 6) (l := [.int .u64 (n : Int)]) Tryz.func143 rfl rfl (by simp) ?_
 refine sr (aS (aa (sr (mI ?_))))
 refine aG hh (cs := [_]) aH.out aD.out (aF (bJ rfl) bE) rfl rfl (by decide) (by decide) (by decide) rfl (by decide) ?_
 intro b4 w4 hh
 refine bF hh (fG _ _ _ [n] _ (hh.aQ (i := 0) rfl) (Dg.cons hn Dg.nil) (Nat.le_refl _) (by omega)) rfl ?_
 intro w5 hh
 refine aS (aa (aq ?_))
 refine ck ?_
 refine ⟨?_, hh.below⟩
 rw [sN]
 simp [bB]
theorem pf (a b : ByteArray) (w : World) (ha : a.size ≤ 1000000000) (hb : b.size ≤ 1000000000) :
  Calls Tryz.prog 200 #[.string a, .string b] w fun e w' => e = .returned (.int .i64 (iy (bN a) (bN b))) ∧ Below w.heap.size w w' := by
 have hh := Hp.start w
 have h1 := eP a
 have h2 := eP b
 refine al (N := 10) (l := [.string a, .string b]) Tryz.func200 rfl rfl (by simp) ?_
 refine sr (aI (aa (sr (mS ?_))))
 refine aR (cX a _ ha) av.out rfl (by decide) ?_
 rintro e_ w6 ⟨A6, c6, rfl, hown_, hb_⟩
 refine ⟨_, rfl, ?_⟩
 replace hh := hh.bu (x := .row _ _ _ _ _ _) hb_ hown_
 refine mS ?_
 refine aR (cX b _ hb) av.out rfl (by decide) ?_
 rintro e_ w8 ⟨A8, c8, rfl, hown_, hb_⟩
 refine ⟨_, rfl, ?_⟩
 replace hh := hh.bu (x := .row _ _ _ _ _ _) hb_ hown_
 refine bF hh (j6 _ _ _ _ _ _ (aT 18446744073709551616 (bN a)) (aT 18446744073709551616 (bN b)) _ (hh.aQ (i := 1) rfl) (hh.aQ (i := 0) rfl) (ff _) (ff _) (hh.da (i := 1) rfl) (hh.da (i := 0) rfl) (by omega) (by omega)) rfl ?_
 intro w9 hh
 rw [e8, e8]
 refine aI (aa (aq ?_))
 refine ck ?_
 exact ⟨rfl, hh.below⟩
theorem iO (a : ByteArray) (w : World) (ha : a.size ≤ 1000000000) :
  Calls Tryz.prog 163 #[.string a] w fun e w' => e = .returned (.int .i64 (bD (bN a))) ∧ Below w.heap.size w w' := by
 have hh := Hp.start w
 have h1 := eP a
 refine al (N := 6) (l := [.string a]) Tryz.func163 rfl rfl (by simp) ?_
 refine sr (aI (aa (sr (mS ?_))))
 refine aR (cX a _ ha) av.out rfl (by decide) ?_
 rintro e_ w4 ⟨A4, c4, rfl, hown_, hb_⟩
 refine ⟨_, rfl, ?_⟩
 replace hh := hh.bu (x := .row _ _ _ _ _ _) hb_ hown_
 refine bF hh (nM _ _ _ (aT 18446744073709551616 (bN a)) _ (hh.aQ (i := 0) rfl) (ff _) (hh.da (i := 0) rfl) (by omega)) rfl ?_
 intro w5 hh
 rw [e8]
 refine aI (aa (aq ?_))
 refine ck ?_
 exact ⟨rfl, hh.below⟩
theorem kO (n m : Nat) : bD (n * 2 ^ m) ≤ bD n + m := by
 apply cU
 rw [Nat.pow_add]
 exact Nat.mul_lt_mul_of_pos_right (cG n) (Nat.pow_pos (by omega))
theorem mG (n : Nat) : (aT 18446744073709551616 n).length ≤ (bD n + 63) / 64 := by
 apply fC (by omega)
 refine Nat.lt_of_lt_of_le (cG n) ?_
 rw [show (18446744073709551616 : Nat) = 2 ^ 64 from rfl, ← Nat.pow_mul]
 exact Nat.pow_le_pow_right (by omega) (by omega)
theorem pc (a : ByteArray) (m : Nat) (w : World) (ha : a.size ≤ 1000000000) (hm : m ≤ 10000000000) :
  Calls Tryz.prog 161 #[.string a, .int .i64 (m : Int)] w fun e w' => e = .returned (.string (sN (bN a * 2 ^ m))) ∧ Below w.heap.size w w' := by
 have hh := Hp.start w
 have h1 := eP a
 have h2 := mG (bN a * 2 ^ m)
 have h3 := kO (bN a) m
 have h4 := fi a
 have e1 : (if (0 : Int) > (m : Int) then 0 else (m : Int)) = m := if_neg (by omega)
 refine al (N := 11) (l := [.string a, .int .i64 (m : Int)]) Tryz.func161 rfl rfl (by simp) ?_
 refine sr (aS (aa (sr (mS ?_))))
 refine aR (cX a _ ha) av.out rfl (by decide) ?_
 rintro e_ w6 ⟨A6, c6, rfl, hown_, hb_⟩
 refine ⟨_, rfl, ?_⟩
 replace hh := hh.bu (x := .row _ _ _ _ _ _) hb_ hown_
 refine mI ?_
 refine iV rfl rfl (by decide) ?_
 rw [e1]
 refine aR (u6 _ _ _ m (aT 18446744073709551616 (bN a)) _ (hh.aQ (i := 0) rfl) (ff _) (by omega) hm) av.out rfl (by decide) ?_
 rintro e_ w9 ⟨A9, c9, rfl, hown_, hb_⟩
 refine ⟨_, rfl, ?_⟩
 replace hh := hh.bu (x := .row _ _ _ _ _ _) hb_ hown_
 rw [e8] at *
 refine bF hh (fG _ _ _ (aT 18446744073709551616 (bN a * 2 ^ m)) _ (hh.aQ (i := 0) rfl) (ff _) (hh.da (i := 0) rfl) (by omega)) rfl ?_
 intro w10 hh
 rw [e8]
 refine aS (aa (aq ?_))
 refine ck ?_
 exact ⟨rfl, hh.below⟩
theorem kq (n m : Nat) : bD (n / 2 ^ m) ≤ bD n := by
 apply cU
 exact Nat.lt_of_le_of_lt (Nat.div_le_self _ _) (cG n)
theorem pz (a : ByteArray) (m : Nat) (w : World) (ha : a.size ≤ 1000000000) (hm : m ≤ 1000000000000) :
  Calls Tryz.prog 162 #[.string a, .int .i64 (m : Int)] w fun e w' => e = .returned (.string (sN (bN a / 2 ^ m))) ∧ Below w.heap.size w w' := by
 have hh := Hp.start w
 have h1 := eP a
 have h2 := mG (bN a / 2 ^ m)
 have h3 := kq (bN a) m
 have h4 := fi a
 have e1 : (if (0 : Int) > (m : Int) then 0 else (m : Int)) = m := if_neg (by omega)
 refine al (N := 11) (l := [.string a, .int .i64 (m : Int)]) Tryz.func162 rfl rfl (by simp) ?_
 refine sr (aS (aa (sr (mS ?_))))
 refine aR (cX a _ ha) av.out rfl (by decide) ?_
 rintro e_ w6 ⟨A6, c6, rfl, hown_, hb_⟩
 refine ⟨_, rfl, ?_⟩
 replace hh := hh.bu (x := .row _ _ _ _ _ _) hb_ hown_
 refine mI ?_
 refine iV rfl rfl (by decide) ?_
 rw [e1]
 refine aR (qt _ _ _ m (aT 18446744073709551616 (bN a)) _ (hh.aQ (i := 0) rfl) (ff _) (hh.da (i := 0) rfl) (by omega) hm) av.out rfl (by decide) ?_
 rintro e_ w9 ⟨A9, c9, rfl, hown_, hb_⟩
 refine ⟨_, rfl, ?_⟩
 replace hh := hh.bu (x := .row _ _ _ _ _ _) hb_ hown_
 rw [e8] at *
 refine bF hh (fG _ _ _ (aT 18446744073709551616 (bN a / 2 ^ m)) _ (hh.aQ (i := 0) rfl) (ff _) (hh.da (i := 0) rfl) (by omega)) rfl ?_
 intro w10 hh
 rw [e8]
 refine aS (aa (aq ?_))
 refine ck ?_
 exact ⟨rfl, hh.below⟩
theorem xP {x y : Nat} (h : y ≤ x) : qM 18446744073709551616 (aT 18446744073709551616 x) (aT 18446744073709551616 y) 0 = 0 ∧ bB 18446744073709551616 (lY 18446744073709551616 (aT 18446744073709551616 x) (aT 18446744073709551616 y) 0) = x - y := by
 have := vU (B := 18446744073709551616) (by omega) (aT 18446744073709551616 x) (aT 18446744073709551616 y) 0 (ff _) (ff _) (by omega) (by rw [e8, e8]; omega)
 rw [e8, e8] at this
 exact ⟨this.2, by omega⟩
theorem kJ (a b : ByteArray) (w : World) (ha : a.size ≤ 1000000000) (hb : b.size ≤ 1000000000) :
  Calls Tryz.prog 167 #[.string a, .string b] w fun e w' => e = .returned (.tuple #[.string (sN (bN a - bN b)), .bool (decide (bN b ≤ bN a))]) ∧ Below w.heap.size w w' := by
 have hh := Hp.start w
 have h1 := eP a
 have h2 := eP b
 by_cases hlt : bN a < bN b
 ·refine al (N := 21) (l := [.string a, .string b]) Tryz.func167 rfl rfl (by simp) ?_
  refine sr (aS (aB (aa (sr (mS ?_)))))
  refine aR (cX a _ ha) av.out rfl (by decide) ?_
  rintro e_ w9 ⟨A9, c9, rfl, hown_, hb_⟩
  refine ⟨_, rfl, ?_⟩
  replace hh := hh.bu (x := .row _ _ _ _ _ _) hb_ hown_
  refine mS ?_
  refine aR (cX b _ hb) av.out rfl (by decide) ?_
  rintro e_ w11 ⟨A11, c11, rfl, hown_, hb_⟩
  refine ⟨_, rfl, ?_⟩
  replace hh := hh.bu (x := .row _ _ _ _ _ _) hb_ hown_
  refine aL (aL (aa (ah (sr (mL (mL ?_))))))
  refine bF hh (j6 _ _ _ _ _ _ (aT 18446744073709551616 (bN a)) (aT 18446744073709551616 (bN b)) _ (hh.aQ (i := 1) rfl) (hh.aQ (i := 0) rfl) (ff _) (ff _) (hh.da (i := 1) rfl) (hh.da (i := 0) rfl) (by omega) (by omega)) rfl ?_
  intro w14 hh
  rw [e8, e8, iD hlt]
  refine aJ (aa (cT (sr (aS (aB (aa (aq (aM ?_))))))))
  refine yL ?_
  rw [Nat.sub_eq_zero_of_le (by omega), decide_eq_false (by omega), gD]
  exact ⟨rfl, hh.below⟩
 ·obtain ⟨s1, s2⟩ := xP (Nat.le_of_not_lt hlt)
  have hc : ¬ iy (bN a) (bN b) < 0 := by unfold iy; split <;> (try split) <;> omega
  refine al (N := 21) (l := [.string a, .string b]) Tryz.func167 rfl rfl (by simp) ?_
  refine sr (aS (aB (aa (sr (mS ?_)))))
  refine aR (cX a _ ha) av.out rfl (by decide) ?_
  rintro e_ w9 ⟨A9, c9, rfl, hown_, hb_⟩
  refine ⟨_, rfl, ?_⟩
  replace hh := hh.bu (x := .row _ _ _ _ _ _) hb_ hown_
  refine mS ?_
  refine aR (cX b _ hb) av.out rfl (by decide) ?_
  rintro e_ w11 ⟨A11, c11, rfl, hown_, hb_⟩
  refine ⟨_, rfl, ?_⟩
  replace hh := hh.bu (x := .row _ _ _ _ _ _) hb_ hown_
  refine aL (aL (aa (ah (sr (mL (mL ?_))))))
  refine bF hh (j6 _ _ _ _ _ _ (aT 18446744073709551616 (bN a)) (aT 18446744073709551616 (bN b)) _ (hh.aQ (i := 1) rfl) (hh.aQ (i := 0) rfl) (ff _) (ff _) (hh.da (i := 1) rfl) (hh.da (i := 0) rfl) (by omega) (by omega)) rfl ?_
  intro w14 hh
  rw [e8, e8]
  refine aJ (aa (cF (ak (ai (sr (mL (mL ?_)))))))
  replace hh := hh.front 1 rfl
  rw [← List.append_nil (aT 18446744073709551616 (bN a)), ← List.nil_append (aT 18446744073709551616 (bN a))] at hh
  have hll := (hh.xm (i := 0) rfl)
  rw [List.nil_append, List.append_nil] at hll
  refine aR (qO [] (aT 18446744073709551616 (bN a)) [] (aT 18446744073709551616 (bN b)) _ hh (fun w1 cs h => h.aQ (i := 1) rfl) (ff _) (ff _) (by omega) (by omega) s1) av.out rfl (by decide) ?_
  rintro e_ w_ ⟨rfl, hh⟩
  refine ⟨_, rfl, ?_⟩
  simp only [List.nil_append, List.append_nil] at hh
  refine aa (sr (mL ?_))
  refine bF hh (fG _ _ _ (lY 18446744073709551616 (aT 18446744073709551616 (bN a)) (aT 18446744073709551616 (bN b)) 0) _ (hh.aQ (i := 0) rfl) (yr (by omega) _ _ _) (hh.da (i := 0) rfl) (by omega)) rfl ?_
  intro w20 hh
  rw [s2]
  refine aS (aB (aa (aq ?_)))
  refine yL ?_
  rw [decide_eq_true (by omega)]
  exact ⟨rfl, hh.below⟩
theorem qe (a b : ByteArray) (w : World) (ha : a.size ≤ 1000000000) (hb : b.size ≤ 1000000000) :
  Calls Tryz.prog 169 #[.string a, .string b] w fun e w' => e = .returned (.string (sN (bN a * bN b))) ∧ Below w.heap.size w w' := by
 have hh := Hp.start w
 have h1 := eP a
 have h2 := eP b
 refine al (N := 37) (l := [.string a, .string b]) Tryz.func169 rfl rfl (by simp) ?_
 refine sr (aS (aa (sr (mS ?_))))
 refine aR (cX a _ ha) av.out rfl (by decide) ?_
 rintro e_ w11 ⟨A11, c11, rfl, hown_, hb_⟩
 refine ⟨_, rfl, ?_⟩
 replace hh := hh.bu (x := .row _ _ _ _ _ _) hb_ hown_
 refine mS ?_
 refine aR (cX b _ hb) av.out rfl (by decide) ?_
 rintro e_ w13 ⟨A13, c13, rfl, hown_, hb_⟩
 refine ⟨_, rfl, ?_⟩
 replace hh := hh.bu (x := .row _ _ _ _ _ _) hb_ hown_
 have hxd := ff (bN a)
 have hyd := ff (bN b)
 have hX := e8 (bN a)
 have hY := e8 (bN b)
 generalize aT 18446744073709551616 (bN a) = xs at *
 generalize aT 18446744073709551616 (bN b) = ys at *
 refine aL (aL (aa (sr (mL (aV (mL (aV ?_)))))))
 refine bx ?_
 refine bx ?_
 refine fh (n := xs.length + ys.length + 1) hh rfl rfl (by omega) (by omega) aH.out aD.out rfl (by omega) (by omega) (by decide) ?_
 intro b20 w20 hh
 refine aL (aa (ah (sr (mL (aV (mI (aa (aj ?_))))))))
 rw [kH] at hh
 refine bo [8, 9, 23, 24, 25, 26, 27, 28, 29, 30, 31, 32, 33, 34] 23
  (fun v w' => ∃ (i : Nat) (L : List Nat), i ≤ xs.length ∧ v = .int .i64 i ∧ Dg 18446744073709551616 L ∧ L.length = xs.length + ys.length + 1 ∧ bB 18446744073709551616 L = bB 18446744073709551616 (xs.take i) * bB 18446744073709551616 ys ∧ Hp w [.row (some ⟨b20, 0, none⟩) (xs.length + ys.length + 1) (xs.length + ys.length + 1) 169 1 (cz L), .row (some ⟨A13, 0, none⟩) ys.length c13 169 1 (cz ys), .row (some ⟨A11, 0, none⟩) xs.length c11 169 1 (cz xs)] w')
  (fun v _ => xs.length - (intOf v).toNat) ?_ ?_
 ·exact ⟨0, _, Nat.zero_le _, rfl, Dg.dM (by omega) _, by simp, by simp [lC, bB], hh⟩
 ·clear hh
  rintro ρ' v w' ⟨i, L, hi, rfl, hLd, hLl, hLv, hh⟩
  by_cases hlt : i < xs.length
  ·obtain ⟨m, hm⟩ := ay (l := xs) (k := i) (by omega)
   have hm2 := dK hm
   have hmw := hxd.at_ hm
   have hpl : (L.take i).length = i := by rw [List.length_take]; omega
   have hsl : (L.drop i).length = xs.length + ys.length + 1 - i := by rw [List.length_drop]; omega
   refine sr ?_
   refine aJ (aa (ah (cT (ak (ai (ah (aj (sr (mI ?_)))))))))
   refine bm (k := i) aH.out aD.size rfl rfl (by omega) (by omega) (by decide) ?_
   refine aK aD.out rfl (hh.ct (i := 2) rfl (by first | assumption | (simp only [Nat.mul_one]; assumption))) (by decide) ?_
   refine aI (aI (aa (ao (mL (mI ?_)))))
   first | refine mw (l := i) aH.out aD.size rfl rfl (by omega) (by omega) (by omega) (by omega) (by decide) ?_ | refine lS (l := i) aH.out aD.size rfl rfl (by omega) (by omega) (by omega) (by omega) (by decide) ?_
   refine mL (mI ?_)
   have hc := qI (c' := xs.length + ys.length + 1 - i) (ny := ys.length) (cy := c13) (m := m) (Y := some ⟨A13, 0, none⟩) (L.take i) (L.drop i) [] ys _ (by rw [List.append_nil, List.take_append_drop]; exact hh) (fun w1 cs h => h.aQ (i := 1) rfl) (hLd.drop i) hyd hmw (by omega) (by omega)
   rw [hpl, hsl, List.append_nil] at hc
   rw [Nat.zero_add, Nat.mul_one]
   refine aR (hc) av.out rfl (by decide) ?_
   rintro e_ w_ ⟨rfl, hh⟩
   refine ⟨_, rfl, ?_⟩
   have hlt1 := fO (hxd.take (i + 1))
   have hlt2 := fO hyd
   rw [List.length_take, Nat.min_eq_left (by omega)] at hlt1
   have hsn := dT (B := 18446744073709551616) hm
   have hsplit := gg (B := 18446744073709551616) L i (by omega)
   have hnew : 18446744073709551616 ^ i * (bB 18446744073709551616 (L.drop i) + bB 18446744073709551616 ys * m + 0) + bB 18446744073709551616 (L.take i) = bB 18446744073709551616 (xs.take (i + 1)) * bB 18446744073709551616 ys := by
    rw [hsn, Nat.add_mul, ← hLv, hsplit, Nat.add_zero, Nat.mul_add, Nat.mul_assoc, Nat.mul_comm m]; omega
   have hbd : bB 18446744073709551616 (L.drop i) + bB 18446744073709551616 ys * m + 0 < 18446744073709551616 ^ (L.drop i).length := by
    refine Nat.lt_of_mul_lt_mul_left (a := 18446744073709551616 ^ i) ?_
    rw [← Nat.pow_add, hsl]
    refine Nat.lt_of_le_of_lt (Nat.le_add_right _ (bB 18446744073709551616 (L.take i))) ?_
    rw [hnew]
    refine Nat.lt_of_lt_of_le (Nat.mul_lt_mul'' hlt1 hlt2) ?_
    rw [← Nat.pow_add]
    exact Nat.pow_le_pow_right (by decide) (by omega)
   have hdp := ou (B := 18446744073709551616) (by omega) _ _ _ _ hbd
   refine aE (aW (ai (ao ?_)))
   refine bx (mI (aE (ai ?_)))
   refine ⟨⟨i + 1, L.take i ++ fc 18446744073709551616 (L.drop i) ys m 0, by omega, rfl, (hLd.take i).append (rA (by omega) _ _ _ _), by rw [List.length_append, kD, hpl, hsl]; omega, ?_, hh⟩, by show xs.length - (i + 1) < xs.length - i; omega, ?_⟩
   ·rw [dW, hdp, hpl, Nat.add_comm]; exact hnew
   (repeat (first | exact aw _ _ _ | refine aA rfl ?_ | refine ar rfl ?_))
  ·obtain rfl : i = xs.length := by omega
   rw [List.take_length, hX, hY] at hLv
   refine sr ?_
   refine aJ (aa (ah (cF ?_)))
   refine aN ?_
   refine az (az (a7 (ai (sr (mL ?_)))))
   refine bF hh (fG _ _ _ L _ (hh.aQ (i := 0) rfl) hLd (Nat.le_refl _) (by omega)) rfl ?_
   intro w36 hh
   rw [hLv]
   refine aS (aa (aq ?_))
   refine ck ?_
   exact ⟨rfl, hh.below⟩
theorem xu {n d r k : Nat} (hd : d ≠ 0) (hdw : d < 18446744073709551616) (hn : n = 18446744073709551616 ^ k * (d + 18446744073709551616 * r)) : tz n = 64 * k + tz d := by
 obtain ⟨m, hm⟩ := l6 hd
 have ht : tz d < 64 := oe hd (by simpa using hdw)
 have hW : (18446744073709551616 : Nat) = 2 ^ 64 := by decide
 generalize tz d = t at *
 have e : n = 2 ^ (64 * k + t) * (2 * (m + 2 ^ (63 - t) * r) + 1) := by
  rw [hn, Nat.pow_add, Nat.pow_mul, ← hW, Nat.mul_assoc]
  congr 1
  have h1 : 18446744073709551616 = 2 ^ t * (2 * 2 ^ (63 - t)) := by rw [hW, ← Nat.pow_succ', ← Nat.pow_add]; congr 1; omega
  have h2 : 18446744073709551616 * r = 2 ^ t * (2 * 2 ^ (63 - t) * r) := by rw [← Nat.mul_assoc, ← h1]
  rw [h2]
  conv => lhs; rw [hm]
  rw [← Nat.mul_add]
  congr 1
  rw [Nat.mul_add, Nat.mul_assoc]; omega
 rw [e, tV]
theorem gR (a : ByteArray) (w : World) (ha : a.size ≤ 1000000000) (hT : fQ w) :
  Calls Tryz.prog 125 #[.string a] w fun e w' => e = .returned (.int .i64 (tz (bN a))) ∧ Below w.heap.size w w' := by
 have hh := Hp.start w
 have h1 := eP a
 refine al (N := 21) (l := [.string a]) Tryz.func125 rfl rfl (by simp) ?_
 refine sr (aI (aa (ah (sr (mS ?_)))))
 refine aR (cX a _ ha) av.out rfl (by decide) ?_
 rintro e_ w6 ⟨A6, c6, rfl, hown_, hb_⟩
 refine ⟨_, rfl, ?_⟩
 replace hh := hh.bu (x := .row _ _ _ _ _ _) hb_ hown_
 have hxd := ff (bN a)
 have hX := e8 (bN a)
 generalize aT 18446744073709551616 (bN a) = xs at *
 refine aV (mI (aa (aj ?_)))
 refine bo [2, 3, 4, 8, 9, 10, 11, 12, 13, 14, 15, 16, 17, 18, 19, 20] 8
  (fun v w' => ∃ (i : Nat), i ≤ xs.length ∧ v = .int .i64 i ∧ bB 18446744073709551616 (xs.take i) = 0 ∧ Hp w [.row (some ⟨A6, 0, none⟩) xs.length c6 169 1 (cz xs)] w')
  (fun v _ => xs.length - (intOf v).toNat) ?_ ?_
 ·exact ⟨0, Nat.zero_le _, rfl, rfl, hh⟩
 ·clear hh
  rintro ρ' v w' ⟨i, hi, rfl, hz, hh⟩
  by_cases hlt : i < xs.length
  ·obtain ⟨d, hm⟩ := ay (l := xs) (k := i) (by omega)
   have hm2 := dK hm
   have hmw := hxd.at_ hm
   by_cases h0 : d = 0
   ·subst h0
    refine sr ?_
    refine aJ (aa (ah (cT (ak (ai (ah (aj (sr (mI ?_)))))))))
    refine bm (k := i) aH.out aD.size rfl rfl (by omega) (by omega) (by decide) ?_
    refine aK aD.out rfl (hh.ct (i := 0) rfl (by first | assumption | (simp only [Nat.mul_one]; assumption))) (by decide) ?_
    refine aI (aI (aa (sr (mI ?_))))
    refine dt (aa (cF (ak (aW (ai (ao ?_))))))
    refine bx (mI (aE (ai ?_)))
    refine ⟨⟨i + 1, by omega, rfl, by rw [dT hm, hz]; simp, hh⟩, by show xs.length - (i + 1) < xs.length - i; omega, ?_⟩
    (repeat (first | exact aw _ _ _ | refine aA rfl ?_ | refine ar rfl ?_))
   ·have htz : tz (bN a) = 64 * i + tz d := by
     have h3 := gg (B := 18446744073709551616) xs i (by omega)
     have h4 := (List.getElem?_eq_some_iff.1 hm)
     rw [hz, List.drop_eq_getElem_cons hlt, h4.2, bB, hX, Nat.zero_add] at h3
     exact xu h0 hmw h3
    have ht : tz d < 64 := oe h0 (by simpa using hmw)
    refine sr ?_
    refine aJ (aa (ah (cT (ak (ai (ah (aj (sr (mI ?_)))))))))
    refine bm (k := i) aH.out aD.size rfl rfl (by omega) (by omega) (by decide) ?_
    refine aK aD.out rfl (hh.ct (i := 0) rfl (by first | assumption | (simp only [Nat.mul_one]; assumption))) (by decide) ?_
    refine aI (aI (aa (sr (mI ?_))))
    refine dt (aa (cT (sr (mI ?_))))
    refine mulC (mI ?_)
    refine bF hh (sK _ _ hmw h0 (hT.hp hh)) rfl ?_
    intro w18 hh
    refine bx (aI (aa (aq (bO (aM (aM (bO (aM ?_))))))))
    refine ck ?_
    refine ⟨?_, hh.below⟩
    congr 2
    omega
  ·refine sr ?_
   refine aJ (aa (ah (cF ?_)))
   refine aN ?_
   refine az (az (a7 (ai (sr (aI (aa (aq ?_)))))))
   refine ck ?_
   rw [List.take_of_length_le (by omega), hX] at hz
   rw [hz]
   exact ⟨rfl, hh.below⟩
theorem yo {x y k : Nat} (hx : x < 18446744073709551616 ^ k) (hy : y < 18446744073709551616 ^ k) : bB 18446744073709551616 (fc 18446744073709551616 (aT 18446744073709551616 x ++ List.replicate (k + 1 - (aT 18446744073709551616 x).length) 0) (aT 18446744073709551616 y) 1 0) = x + y := by
 have hl := fC (B := 18446744073709551616) (by omega) hx
 have h1 : bB 18446744073709551616 (aT 18446744073709551616 x ++ List.replicate (k + 1 - (aT 18446744073709551616 x).length) 0) = x := by rw [dW, lC, e8]; simp
 have h2 : (aT 18446744073709551616 x ++ List.replicate (k + 1 - (aT 18446744073709551616 x).length) 0).length = k + 1 := by rw [List.length_append, List.length_replicate]; omega
 rw [ou (by omega), h1, e8]
 ·omega
 ·rw [h1, h2, e8, Nat.pow_succ]
  have : 0 < 18446744073709551616 ^ k := Nat.pow_pos (by decide)
  omega
theorem lA (l : List Nat) (x : Nat) : (l ++ [x]).sum = l.sum + x := by simp
theorem p6 (L : Option Addr) (n c : Nat) (ss : List ByteArray) (w : World) (hS : Sl w L n 1 (q8 ss)) (hn : n ≤ 1000000) (hs : ∀ s ∈ ss, s.size ≤ 1000000000) :
  Calls Tryz.prog 165 #[.slice L n c] w fun e w' => e = .returned (.string (sN (ss.map bN).sum)) ∧ Below w.heap.size w w' := by
 have hsl : ss.length = n := by have := hS.1; rw [lR] at this; omega
 have hh := Hp.start w
 refine al (N := 31) (l := [.slice L n c]) Tryz.func165 rfl rfl (by simp) ?_
 refine sr (aS (aa (sr (aL (aa (ah (sr (mL (aV (mI (aa ?_)))))))))))
 refine aj ?_
 replace hh := hh.eI 169 1
 refine bW [3, 5, 6, 9, 10, 11, 12, 13, 14, 15, 16, 17, 18, 19, 20, 21, 22, 23, 24, 25, 26, 27, 28] 3 9
  (fun v j w' => ∃ (i : Nat) (A : Option Addr) (c' T : Nat), i ≤ n ∧ j = .int .i64 i ∧ T = ((ss.take i).map bN).sum ∧ v = .slice A (aT 18446744073709551616 T).length c' ∧ (aT 18446744073709551616 T).length ≤ 125000001 + i ∧ Hp w [.row A (aT 18446744073709551616 T).length c' 169 1 (cz (aT 18446744073709551616 T))] w')
  (fun _ j _ => n - (intOf j).toNat) ?_ ?_
 ·exact ⟨0, none, 0, 0, Nat.zero_le _, rfl, rfl, by rw [eW (by omega)]; rfl, by rw [eW (by omega)]; simp, by rw [eW (by omega)]; exact hh⟩
 ·clear hh
  rintro ρ' v j w' ⟨i, A, c', T, hi, rfl, hT, rfl, hTl, hh⟩
  by_cases hlt : i < n
  ·obtain ⟨s, hsi⟩ := ay (l := ss) (k := i) (by omega)
   obtain ⟨ad, rfl, hr⟩ := hS.at_ (by omega)
   have hs2 := ui hsi
   have hsz := hs s (List.mem_of_getElem? hsi)
   have hlx := eP s
   have hT2 : ((ss.take (i + 1)).map bN).sum = T + bN s := by rw [aO hsi, List.map_append, List.map_singleton, lA, hT]
   have e1 : (if ((aT 18446744073709551616 (bN s)).length : Int) > ((aT 18446744073709551616 T).length : Int) then ((aT 18446744073709551616 (bN s)).length : Int) else ((aT 18446744073709551616 T).length : Int)) + 1 = ((max (aT 18446744073709551616 T).length (aT 18446744073709551616 (bN s)).length + 1 : Nat) : Int) := by split <;> omega
   have hb1 : T < 18446744073709551616 ^ max (aT 18446744073709551616 T).length (aT 18446744073709551616 (bN s)).length := Nat.lt_of_lt_of_le (jH (by omega) T) (Nat.pow_le_pow_right (by decide) (Nat.le_max_left _ _))
   have hb2 : bN s < 18446744073709551616 ^ max (aT 18446744073709551616 T).length (aT 18446744073709551616 (bN s)).length := Nat.lt_of_lt_of_le (jH (by omega) (bN s)) (Nat.pow_le_pow_right (by decide) (Nat.le_max_right _ _))
   have hadd := yo hb1 hb2
   refine sr ?_
   refine aJ (aa (ah (cT (ak (ai (ah (aj (sr ?_))))))))
   refine aC aH.out aD.size rfl rfl rfl (by omega) (by decide) ?_
   refine aK aD.out rfl ((hr.ext hh.below).eC (by assumption)) (by decide) ?_
   refine aS (aa (sr (mS ?_)))
   refine aR (cX s _ hsz) av.out rfl (by decide) ?_
   rintro e_ w14 ⟨A14, c14, rfl, hown_, hb_⟩
   refine ⟨_, rfl, ?_⟩
   replace hh := hh.bu (x := .row _ _ _ _ _ _) hb_ hown_
   refine aL (aa (sr (mL (mL (aV (mL (aV ?_)))))))
   refine iV rfl rfl (by decide) ?_
   refine bx ?_
   rw [e1]
   generalize hM : max (aT 18446744073709551616 T).length (aT 18446744073709551616 (bN s)).length = M at *
   refine aR (jU _ _ _ (M + 1) _ _ (hh.aQ (i := 1) rfl) (by omega) (by omega)) av.out rfl (by decide) ?_
   rintro e_ w_ ⟨b22, rfl, hown_, hb_⟩
   refine ⟨_, rfl, ?_⟩
   replace hh := hh.bu (x := .row _ _ _ _ _ _) hb_ hown_
   have e2 : max (M + 1) (aT 18446744073709551616 T).length = M + 1 := by omega
   rw [e2] at hh
   rw [e2]
   refine aL (aa (sr (mL (mL ?_))))
   have hc := rX (c' := M + 1) (ny := (aT 18446744073709551616 (bN s)).length) (cy := c14) (Y := some ⟨A14, 0, none⟩) [] (aT 18446744073709551616 T ++ List.replicate (M + 1 - (aT 18446744073709551616 T).length) 0) [] (aT 18446744073709551616 (bN s)) _ (by rw [List.append_nil, List.nil_append]; exact hh) (fun w1 cs h => h.aQ (i := 1) rfl) ((ff _).append (Dg.dM (by omega) _)) (ff _) (by rw [List.length_append, List.length_replicate]; omega) (by omega)
   have e3 : (aT 18446744073709551616 T ++ List.replicate (M + 1 - (aT 18446744073709551616 T).length) 0).length = M + 1 := by rw [List.length_append, List.length_replicate]; omega
   rw [e3, List.append_nil, List.nil_append] at hc
   refine aR (hc) av.out rfl (by decide) ?_
   rintro e_ w_ ⟨rfl, hh⟩
   refine ⟨_, rfl, ?_⟩
   have hpl : (fc 18446744073709551616 (aT 18446744073709551616 T ++ List.replicate (M + 1 - (aT 18446744073709551616 T).length) 0) (aT 18446744073709551616 (bN s)) 1 0).length = M + 1 := by rw [kD, e3]
   have hpd := rA (B := 18446744073709551616) (by omega) (aT 18446744073709551616 T ++ List.replicate (M + 1 - (aT 18446744073709551616 T).length) 0) (aT 18446744073709551616 (bN s)) 1 0
   generalize fc 18446744073709551616 (aT 18446744073709551616 T ++ List.replicate (M + 1 - (aT 18446744073709551616 T).length) 0) (aT 18446744073709551616 (bN s)) 1 0 = Z at *
   have hcz : du Z = aT 18446744073709551616 (T + bN s) := by rw [eE (by omega) hpd, hadd]
   have hcl := ez Z
   refine aa (ao (mL ?_))
   refine bF hh (fw _ _ _ Z _ (hh.aQ (i := 0) rfl) (Nat.le_refl _) (by omega)) rfl ?_
   intro w27 hh
   replace hh := (hh.uc hpl).sub (List.sublist_append_left [_] _)
   rw [hcz] at *
   refine aL (aE (aW (ai (ao ?_))))
   refine bx (mI (aE (ai ?_)))
   refine ⟨⟨i + 1, _, _, T + bN s, by omega, rfl, hT2.symm, rfl, by omega, hh⟩, by show n - (i + 1) < n - i; omega, ?_⟩
   (repeat (first | exact aw _ _ _ | refine aA rfl ?_ | refine ar rfl ?_))
  ·refine sr ?_
   refine aJ (aa (ah (cF ?_)))
   refine aN ?_
   refine az (az (a7 (ai (sr (mL ?_)))))
   refine bF hh (fG _ _ _ (aT 18446744073709551616 T) _ (hh.aQ (i := 0) rfl) (ff _) (hh.da (i := 0) rfl) (by omega)) rfl ?_
   intro w30 hh
   rw [e8]
   refine aS (aa (aq ?_))
   refine ck ?_
   rw [List.take_of_length_le (by omega)] at hT
   rw [hT]
   exact ⟨rfl, hh.below⟩
end Go.Proofs.YtioilmppidlbnaaGreatDoor
namespace Go.Proofs.YtioilmppidlbnaaGreatDoor
open Go.RowKit
theorem rO (s : ByteArray) (l h : Nat) : s.extract l h = str ((s.data.toList.take h).drop l) := by
 apply wm
 rw [fU]
 simp [ByteArray.extract, ByteArray.copySlice, List.drop_take]
def zi : Value → Nat
 | .string t => t.size
 | _ => 0
theorem mY (s : ByteArray) (w : World) :
  Calls Tryz.prog 221 #[.string s, .int .u8 ((0 : UInt8).toNat : Int)] w fun e w' => e = .returned (.string (sN (bN s))) ∧ Below w.heap.size w w' := by
 have hh := Hp.start w
 refine al (N := 17) (l := [.string s, .int .u8 ((0 : UInt8).toNat : Int)]) Tryz.func221 rfl rfl (by simp) ?_
 refine sr (aS (aa (ah (aj ?_))))
 refine bo [0, 5, 6, 7, 8, 9, 10, 11, 12, 13, 14, 15] 0
  (fun v w' => ∃ l : List UInt8, v = .string (str l) ∧ l.length ≤ s.size ∧ bn l = bN s ∧ w' = w)
  (fun v _ => zi v) ?_ ?_
 ·exact ⟨s.data.toList, by rw [zv]; rfl, by rw [jD]; exact Nat.le_refl _, rfl, rfl⟩
 ·rintro ρ' v w' ⟨l, rfl, hl, hb, rfl⟩
  have hsz := mD l
  cases l with
  | nil =>
   refine ah (sr (mS ?_))
   refine cK aH.out rfl (by decide) ?_
   refine bQ (mB ?_)
   first | refine gS ?_ | (refine gT ?_; refine mS ?_) | refine gV ?_
   first | refine gS ?_ | (refine gT ?_; refine bT aH.out rfl rfl (by omega) (by assumption) (by decide) ?_) | refine gV ?_
   first | refine gS ?_ | (refine gT ?_; refine mI ?_) | refine gV ?_
   first | refine gS ?_ | (refine gT ?_; refine dN ?_) | refine gV ?_
   first | refine dh ?_ | refine de ?_
   refine aa (cF ?_)
   refine aN ?_
   refine az (az (a7 (ai (sr (mS (aS (aa (aq ?_))))))))
   refine ck ?_
   rw [sN, ← hb]
   exact ⟨rfl, hh.below⟩
  | cons c l =>
   have hc0 : (str (c :: l)).data.toList[(0 : Int).toNat]? = some c := by rw [fU]; rfl
   have hc8 := c.toNat_lt
   have hlen : (str (c :: l)).size = l.length + 1 := by rw [hsz]; rfl
   have hz : (0 : UInt8).toNat = 0 := rfl
   by_cases h0 : c = 0
   ·subst h0
    refine ah (sr (mS ?_))
    refine cK aH.out rfl (by decide) ?_
    refine bQ (mB ?_)
    first | refine gS ?_ | (refine gT ?_; refine mS ?_) | refine gV ?_
    first | refine gS ?_ | (refine gT ?_; refine bT aH.out rfl rfl (by omega) (by assumption) (by decide) ?_) | refine gV ?_
    first | refine gS ?_ | (refine gT ?_; refine mI ?_) | refine gV ?_
    first | refine gS ?_ | (refine gT ?_; refine dN ?_) | refine gV ?_
    first | refine dh ?_ | refine de ?_
    refine aa (cT (ak (ai (aj (ao (mS ?_))))))
    refine lK (l := 1) (h := (str ((0 : UInt8) :: l)).size) aH.out rfl ⟨_, _, rfl, by omega⟩ rfl (by omega) (by omega) (by decide) ?_
    refine aS (aE (aW (ai ?_)))
    rw [rO, fU, List.take_of_length_le (by rw [hlen]; simp), List.drop_succ_cons, List.drop_zero]
    refine ⟨⟨l, rfl, by simp at hl; omega, by rw [← hb, vm], rfl⟩, ?_, ?_⟩
    ·show (str l).size < (str (0 :: l)).size
     rw [hlen, mD]; omega
    (repeat (first | exact aw _ _ _ | refine aA rfl ?_ | refine ar rfl ?_))
   ·have hcn : c.toNat ≠ 0 := fun h => h0 (UInt8.toNat_inj.1 h)
    refine ah (sr (mS ?_))
    refine cK aH.out rfl (by decide) ?_
    refine bQ (mB ?_)
    first | refine gS ?_ | (refine gT ?_; refine mS ?_) | refine gV ?_
    first | refine gS ?_ | (refine gT ?_; refine bT aH.out rfl rfl (by omega) (by assumption) (by decide) ?_) | refine gV ?_
    first | refine gS ?_ | (refine gT ?_; refine mI ?_) | refine gV ?_
    first | refine gS ?_ | (refine gT ?_; refine dN ?_) | refine gV ?_
    first | refine dh ?_ | refine de ?_
    refine aa (cF ?_)
    refine aN ?_
    refine az (az (a7 (ai (sr (mS (aS (aa (aq ?_))))))))
    refine ck ?_
    rw [sN, ← hb, z6 (by simpa using h0)]
    exact ⟨rfl, hh.below⟩
theorem nG (s : ByteArray) (w : World) :
  Calls Tryz.prog 203 #[.string s, .string (ByteArray.mk #[0])] w fun e w' => e = .returned (.string (sN (bN s))) ∧ Below w.heap.size w w' := by
 have hh := Hp.start w
 have hne : ¬ ByteArray.mk #[(0 : UInt8)] = ByteArray.mk #[] := by intro h; injection h with h; simp at h
 have hsz1 : (ByteArray.mk #[(0 : UInt8)]).size = 1 := rfl
 have hc0 : (ByteArray.mk #[(0 : UInt8)]).data.toList[(0 : Int).toNat]? = some 0 := rfl
 have hz : (0 : UInt8).toNat = 0 := rfl
 by_cases h0 : s = ByteArray.mk #[]
 ·subst h0
  refine al (N := 37) (l := [.string (ByteArray.mk #[]), .string (ByteArray.mk #[0])]) Tryz.func203 rfl rfl (by simp) ?_
  refine sr (aS (aa (ah (sr (mS ?_)))))
  first | refine eh rfl rfl (by first | rfl | assumption | decide) (by decide) ?_ | refine en rfl rfl (by first | assumption | decide) (by decide) ?_
  refine mB ?_
  first | refine gS ?_ | (refine gT ?_; refine mS ?_) | refine gV ?_
  first | refine gS ?_ | (refine gT ?_; (first | refine eh rfl rfl (by first | rfl | assumption | decide) (by decide) ?_ | refine en rfl rfl (by first | assumption | decide) (by decide) ?_)) | refine gV ?_
  first | refine dh ?_ | refine de ?_
  refine aa (cT (sr (mS (aS (aa (aq (aM ?_)))))))
  refine ck ?_
  rw [show bN (ByteArray.mk #[]) = 0 from rfl, gD]
  exact ⟨rfl, hh.below⟩
 ·refine al (N := 37) (l := [.string s, .string (ByteArray.mk #[0])]) Tryz.func203 rfl rfl (by simp) ?_
  refine sr (aS (aa (ah (sr (mS ?_)))))
  first | refine eh rfl rfl (by first | rfl | assumption | decide) (by decide) ?_ | refine en rfl rfl (by first | assumption | decide) (by decide) ?_
  refine mB ?_
  first | refine gS ?_ | (refine gT ?_; refine mS ?_) | refine gV ?_
  first | refine gS ?_ | (refine gT ?_; (first | refine eh rfl rfl (by first | rfl | assumption | decide) (by decide) ?_ | refine en rfl rfl (by first | assumption | decide) (by decide) ?_)) | refine gV ?_
  first | refine dh ?_ | refine de ?_
  refine aa (cF (ak (ai (ah (sr (mS ?_))))))
  refine cK aH.out rfl (by decide) ?_
  refine dN (mB ?_)
  first | refine gS ?_ | (refine gT ?_; refine mS ?_) | refine gV ?_
  first | refine gS ?_ | (refine gT ?_; refine bT aH.out rfl rfl (by omega) (by assumption) (by decide) ?_) | refine gV ?_
  first | refine gS ?_ | (refine gT ?_; refine aJ ?_) | refine gV ?_
  first | refine dh ?_ | refine de ?_
  refine aa (cT (sr (mS (mS ?_))))
  refine bT aH.out rfl rfl (by omega) (by assumption) (by decide) ?_
  refine bF hh (mY s _) rfl ?_
  intro w25 hh
  refine aS (aa (aq (aM ?_)))
  refine ck ?_
  exact ⟨rfl, hh.below⟩
theorem ic (s : ByteArray) (w : World) :
  Calls Tryz.prog 168 #[.string s] w fun e w' => e = .returned (.string (sN (bN s))) ∧ Below w.heap.size w w' := by
 have hh := Hp.start w
 refine al (N := 5) (l := [.string s]) Tryz.func168 rfl rfl (by simp) ?_
 refine sr (aS (aa (sr (mS ?_))))
 refine bF hh (nG s _) rfl ?_
 intro w4 hh
 refine aS (aa (aq ?_))
 refine ck ?_
 exact ⟨rfl, hh.below⟩
end Go.Proofs.YtioilmppidlbnaaGreatDoor
/- Several texts in one: Whole, WholeB, WholeC, Dy. -/
namespace Go.Proofs.YtioilmppidlbnaaGreatDoor
open Go.RowKit
def iv (s : Bool) (m : ByteArray) : Int := if s then -(bN m : Int) else bN m
def iN (z : Int) : Bool := decide (z < 0)
def iM (z : Int) : ByteArray := sN z.natAbs
theorem eU (z : Int) : iv (iN z) (iM z) = z := by
 unfold iv iN iM
 rw [ek]
 by_cases h : z < 0
 ·rw [decide_eq_true h, if_pos rfl]; omega
 ·rw [decide_eq_false h, if_neg (by simp)]; omega
theorem l8 {z : Int} : iM z = ByteArray.mk #[] ↔ z = 0 := by
 rw [iM, ← gD]
 constructor
 ·intro h; have := rZ h; omega
 ·intro h; rw [h]; rfl
theorem gL (s : Bool) (m : ByteArray) : (iv s m).natAbs = bN m := by
 unfold iv; split <;> omega
theorem tK (s : Bool) (m : ByteArray) : iM (iv s m) = sN (bN m) := by rw [iM, gL]
theorem yF (s : Bool) (m : ByteArray) : iN (iv s m) = (s && decide (bN m ≠ 0)) := by
 unfold iN iv
 rw [Bool.eq_iff_iff, Bool.and_eq_true, decide_eq_true_eq, decide_eq_true_eq]
 cases s
 ·simp only [Bool.false_eq_true, if_false, false_and, iff_false]; omega
 ·simp only [if_true, true_and]; omega
theorem gE (s : Bool) (m : ByteArray) (w : World) :
  Calls Tryz.prog 128 #[.agg #[.bool s, .string m]] w fun e w' => e = .returned (.agg #[.string m, .bool s]) ∧ Below w.heap.size w w' := by
 have hh := Hp.start w
 refine al (N := 8) (l := [.agg #[.bool s, .string m]]) Tryz.func128 rfl rfl (by simp) ?_
 refine sr ?_
 refine dw hh [_,_] ?_
 intro b1 w1 hh
 refine cu hh ?_
 intro b2 w2 hh
 refine aa (sr (bK ?_))
 refine bL hh 1 ?_
 refine bK ?_
 refine bL hh 1 ?_
 refine gb [_,_] ?_
 refine bM hh 0 [_,_] ?_
 intro ws hh
 replace hh : Hp _ (.blk _ _ [_, _] _ :: _) _ := hh
 refine aa (aq ?_)
 refine gG (aY rfl (aX (vs := [_, _]) aD.out (hh.ax (i := 0) (n := 2) rfl rfl) rfl) bC) ?_
 exact ⟨rfl, hh.below⟩
theorem cQ (s : Bool) (m : ByteArray) (w : World) :
  Calls Tryz.prog 129 #[.agg #[.string m, .bool s]] w fun e w' => e = .returned (.agg #[.bool (iN (iv s m)), .string (iM (iv s m))]) ∧ Below w.heap.size w w' := by
 have hh := Hp.start w
 rw [yF, tK]
 cases s with
 | false =>
  refine al (N := 15) (l := [.agg #[.string m, .bool false]]) Tryz.func129 rfl rfl (by simp) ?_
  refine sr ?_
  refine dw hh [_,_] ?_
  intro b1 w1 hh
  refine cu hh ?_
  intro b2 w2 hh
  refine aa (sr (bK ?_))
  refine bL hh 1 ?_
  refine bF hh (ic m _) rfl ?_
  intro w6 hh
  refine aS (aa (sr (bK ?_)))
  refine bL hh 1 ?_
  refine mB ?_
  first | refine gS ?_ | (refine gT ?_; refine mS ?_) | refine gV ?_
  first | refine gS ?_ | (refine gT ?_; (first | refine fA rfl rfl (by first | rfl | assumption | decide) (by decide) ?_ | refine fF rfl rfl (by first | assumption | decide) (by decide) ?_)) | refine gV ?_
  first | refine dh ?_ | refine de ?_
  refine mS ?_
  refine gb [_,_] ?_
  refine bM hh 0 [_,_] ?_
  intro ws hh
  replace hh : Hp _ (.blk _ _ [_, _] _ :: _) _ := hh
  refine aa (aq ?_)
  refine gG (aY rfl (aX (vs := [_, _]) aD.out (hh.ax (i := 0) (n := 2) rfl rfl) rfl) bC) ?_
  exact ⟨rfl, hh.below⟩
 | true =>
  by_cases h0 : sN (bN m) = ByteArray.mk #[]
  ·refine al (N := 15) (l := [.agg #[.string m, .bool true]]) Tryz.func129 rfl rfl (by simp) ?_
   refine sr ?_
   refine dw hh [_,_] ?_
   intro b1 w1 hh
   refine cu hh ?_
   intro b2 w2 hh
   refine aa (sr (bK ?_))
   refine bL hh 1 ?_
   refine bF hh (ic m _) rfl ?_
   intro w6 hh
   refine aS (aa (sr (bK ?_)))
   refine bL hh 1 ?_
   refine mB ?_
   first | refine gS ?_ | (refine gT ?_; refine mS ?_) | refine gV ?_
   first | refine gS ?_ | (refine gT ?_; (first | refine fA rfl rfl (by first | rfl | assumption | decide) (by decide) ?_ | refine fF rfl rfl (by first | assumption | decide) (by decide) ?_)) | refine gV ?_
   first | refine dh ?_ | refine de ?_
   refine mS ?_
   refine gb [_,_] ?_
   refine bM hh 0 [_,_] ?_
   intro ws hh
   replace hh : Hp _ (.blk _ _ [_, _] _ :: _) _ := hh
   refine aa (aq ?_)
   refine gG (aY rfl (aX (vs := [_, _]) aD.out (hh.ax (i := 0) (n := 2) rfl rfl) rfl) bC) ?_
   have h1 : bN m = 0 := by rw [← gD] at h0; exact rZ h0
   rw [decide_eq_false (by omega)]
   exact ⟨rfl, hh.below⟩
  ·refine al (N := 15) (l := [.agg #[.string m, .bool true]]) Tryz.func129 rfl rfl (by simp) ?_
   refine sr ?_
   refine dw hh [_,_] ?_
   intro b1 w1 hh
   refine cu hh ?_
   intro b2 w2 hh
   refine aa (sr (bK ?_))
   refine bL hh 1 ?_
   refine bF hh (ic m _) rfl ?_
   intro w6 hh
   refine aS (aa (sr (bK ?_)))
   refine bL hh 1 ?_
   refine mB ?_
   first | refine gS ?_ | (refine gT ?_; refine mS ?_) | refine gV ?_
   first | refine gS ?_ | (refine gT ?_; (first | refine fA rfl rfl (by first | rfl | assumption | decide) (by decide) ?_ | refine fF rfl rfl (by first | assumption | decide) (by decide) ?_)) | refine gV ?_
   first | refine dh ?_ | refine de ?_
   refine mS ?_
   refine gb [_,_] ?_
   refine bM hh 0 [_,_] ?_
   intro ws hh
   replace hh : Hp _ (.blk _ _ [_, _] _ :: _) _ := hh
   refine aa (aq ?_)
   refine gG (aY rfl (aX (vs := [_, _]) aD.out (hh.ax (i := 0) (n := 2) rfl rfl) rfl) bC) ?_
   have h1 : bN m ≠ 0 := fun h => h0 (by rw [h, gD])
   rw [decide_eq_true h1]
   exact ⟨rfl, hh.below⟩
def BO (s : Bool) (m : ByteArray) : Value := .agg #[.string m, .bool s]
theorem mr (a b : ByteArray) (w : World) (ha : a.size ≤ 1000000000) (hb : b.size ≤ 1000000000) :
  Calls Tryz.prog 166 #[.string a, .string b] w fun e w' => e = .returned (.int .i64 (iy (bN a) (bN b))) ∧ Below w.heap.size w w' := by
 have hh := Hp.start w
 refine al (N := 8) (l := [.string a, .string b]) Tryz.func166 rfl rfl (by simp) ?_
 refine sr (aI (aa (sr (mS (mS ?_)))))
 refine bF hh (pf a b _ ha hb) rfl ?_
 intro w7 hh
 refine aI (aa (aq ?_))
 refine ck ?_
 exact ⟨rfl, hh.below⟩
theorem jo (s : Bool) (m : ByteArray) (w : World) :
  Calls Tryz.prog 158 #[.agg #[.bool s, .string m]] w fun e w' => e = .returned (.agg #[.bool (iN (iv s m)), .string (iM (iv s m))]) ∧ Below w.heap.size w w' := by
 have hh := Hp.start w
 refine al (N := 6) (l := [.agg #[.bool s, .string m]]) Tryz.func158 rfl rfl (by simp) ?_
 refine sr ?_
 refine dw hh [_,_] ?_
 intro b1 w1 hh
 refine cu hh ?_
 intro b2 w2 hh
 refine aa (sr ?_)
 refine cP hh 1 [_,_] ?_
 refine bF hh (gE s m _) rfl ?_
 intro w4 hh
 refine bF hh (cQ s m _) rfl ?_
 intro w5 hh
 refine bM hh 0 [_,_] ?_
 intro ws hh
 replace hh : Hp _ (.blk _ _ [_, _] _ :: _) _ := hh
 refine aa (aq ?_)
 refine gG (aY rfl (aX (vs := [_, _]) aD.out (hh.ax (i := 0) (n := 2) rfl rfl) rfl) bC) ?_
 exact ⟨rfl, hh.below⟩
theorem m9 (s : Bool) (m : ByteArray) (w : World) :
  Calls Tryz.prog 144 #[.agg #[.bool s, .string m]] w fun e w' => e = .returned (.agg #[.bool (iN (-(iv s m))), .string (iM (-(iv s m)))]) ∧ Below w.heap.size w w' := by
 have hh := Hp.start w
 have e1 : iv (!s) m = -(iv s m) := by unfold iv; cases s <;> simp
 refine al (N := 10) (l := [.agg #[.bool s, .string m]]) Tryz.func144 rfl rfl (by simp) ?_
 refine sr ?_
 refine dw hh [_,_] ?_
 intro b1 w1 hh
 refine cu hh ?_
 intro b2 w2 hh
 refine aa (sr (bK ?_))
 refine bL hh 1 ?_
 refine bK ?_
 refine bL hh 1 ?_
 refine nW ?_
 refine gb [_,_] ?_
 refine bF hh (cQ (!s) m _) rfl ?_
 intro w9 hh
 rw [e1]
 refine bM hh 0 [_,_] ?_
 intro ws hh
 replace hh : Hp _ (.blk _ _ [_, _] _ :: _) _ := hh
 refine aa (aq ?_)
 refine gG (aY rfl (aX (vs := [_, _]) aD.out (hh.ax (i := 0) (n := 2) rfl rfl) rfl) bC) ?_
 exact ⟨rfl, hh.below⟩
theorem jl (s : Bool) (m : ByteArray) (w : World) :
  Calls Tryz.prog 124 #[.agg #[.bool s, .string m]] w fun e w' => e = .returned (.int .i64 (iv s m).sign) ∧ Below w.heap.size w w' := by
 have hh := Hp.start w
 by_cases h1 : iv s m < 0
 ·have hn : iN (iv s m) = true := decide_eq_true h1
  refine al (N := 13) (l := [.agg #[.bool s, .string m]]) Tryz.func124 rfl rfl (by simp) ?_
  refine sr ?_
  refine dw hh [_,_] ?_
  intro b1 w1 hh
  refine aI (aa (sr ?_))
  refine cP hh 0 [_,_] ?_
  refine bF hh (jo s m _) rfl ?_
  intro w5 hh
  rw [hn]
  refine cu hh ?_
  intro b3 w3 hh
  refine bM hh 0 [_,_] ?_
  intro ws hh
  replace hh : Hp _ (.blk _ _ [_, _] _ :: _) _ := hh
  refine aa (ah (aj (sr (bK ?_))))
  refine bL hh 0 ?_
  refine aB (aa (cT (sr (aI (aa (aq (bO (aM ?_))))))))
  refine ck ?_
  exact ⟨by rw [Int.sign_eq_neg_one_of_neg h1], hh.below⟩
 ·have hn : iN (iv s m) = false := decide_eq_false h1
  by_cases h0 : iM (iv s m) = ByteArray.mk #[]
  ·refine al (N := 13) (l := [.agg #[.bool s, .string m]]) Tryz.func124 rfl rfl (by simp) ?_
   refine sr ?_
   refine dw hh [_,_] ?_
   intro b1 w1 hh
   refine aI (aa (sr ?_))
   refine cP hh 0 [_,_] ?_
   refine bF hh (jo s m _) rfl ?_
   intro w5 hh
   rw [hn]
   refine cu hh ?_
   intro b3 w3 hh
   refine bM hh 0 [_,_] ?_
   intro ws hh
   replace hh : Hp _ (.blk _ _ [_, _] _ :: _) _ := hh
   refine aa (ah (aj (sr (bK ?_))))
   refine bL hh 0 ?_
   refine aB (aa (cF (sr (bK ?_))))
   refine bL hh 0 ?_
   first | refine eh rfl rfl (by first | rfl | assumption | decide) (by decide) ?_ | refine en rfl rfl (by first | assumption | decide) (by decide) ?_
   refine aB (aa (cT (sr (aI (aa (aq (bO (aM ?_))))))))
   refine ck ?_
   exact ⟨by rw [l8.1 h0]; rfl, hh.below⟩
  ·have h2 : 0 < iv s m := by
    have : iv s m ≠ 0 := fun h => h0 (l8.2 h)
    omega
   refine al (N := 13) (l := [.agg #[.bool s, .string m]]) Tryz.func124 rfl rfl (by simp) ?_
   refine sr ?_
   refine dw hh [_,_] ?_
   intro b1 w1 hh
   refine aI (aa (sr ?_))
   refine cP hh 0 [_,_] ?_
   refine bF hh (jo s m _) rfl ?_
   intro w5 hh
   rw [hn]
   refine cu hh ?_
   intro b3 w3 hh
   refine bM hh 0 [_,_] ?_
   intro ws hh
   replace hh : Hp _ (.blk _ _ [_, _] _ :: _) _ := hh
   refine aa (ah (aj (sr (bK ?_))))
   refine bL hh 0 ?_
   refine aB (aa (cF (sr (bK ?_))))
   refine bL hh 0 ?_
   first | refine eh rfl rfl (by first | rfl | assumption | decide) (by decide) ?_ | refine en rfl rfl (by first | assumption | decide) (by decide) ?_
   refine aB (aa (cF (ak (aW (ai (sr (aI (aa (aq ?_)))))))))
   refine ck ?_
   exact ⟨by rw [Int.sign_eq_one_of_pos h2], hh.below⟩
theorem dA (z : Int) : (iM z).size = (bD z.natAbs + 7) / 8 := hZ _
def oc (s t : Bool) (a b : ByteArray) : Bool := if s = t then s else if bN a < bN b then t else s
theorem ym (s t : Bool) (a b : ByteArray) : iv (oc s t a b) (iM (iv s a + iv t b)) = iv s a + iv t b := by
 unfold iM iv
 rw [ek]
 unfold oc
 cases s <;> cases t <;> simp <;> (try split) <;> (try simp) <;> omega
theorem rg (s t : Bool) (a b : ByteArray) : iv (s != t) (iM (iv s a * iv t b)) = iv s a * iv t b := by
 rw [iM, Int.natAbs_mul, gL, gL]
 unfold iv
 rw [ek]
 cases s <;> cases t <;> simp [Int.mul_neg, Int.neg_mul]
theorem qP (s t : Bool) (a b : ByteArray) (w : World) (ha : a.size ≤ 1000000000) (hb : b.size ≤ 1000000000) :
  Calls Tryz.prog 127 #[.agg #[.string a, .bool s], .agg #[.string b, .bool t]] w fun e w' => e = .returned (.agg #[.string (iM (iv s a + iv t b)), .bool (oc s t a b)]) ∧ Below w.heap.size w w' := by
 have hh := Hp.start w
 have hiv : ∀ (u : Bool) (n : Nat) (z : Int), (z = if u then -(n : Int) else n) → sN n = iM z := by
  intro u n z hz
  have h1 : z.natAbs = n := by rw [hz]; split <;> omega
  rw [iM, h1]
 by_cases hst : s = t
 ·subst hst
  have e1 := hiv s (bN a + bN b) (iv s a + iv s b) (by unfold iv; split <;> omega)
  refine al (N := 41) (l := [.agg #[.string a, .bool s], .agg #[.string b, .bool s]]) Tryz.func127 rfl rfl (by simp) ?_
  refine sr ?_
  refine dw hh [_,_] ?_
  intro b2 w2 hh
  refine dw hh [_,_] ?_
  intro b3 w3 hh
  refine cu hh ?_
  intro b4 w4 hh
  refine aa (ah (sr (bK ?_)))
  refine bL hh 2 ?_
  refine bK ?_
  refine bL hh 1 ?_
  first | refine jA aH.out rfl rfl (by first | rfl | assumption) (by decide) ?_ | refine ju aH.out rfl rfl (by first | rfl | assumption | decide) (by decide) ?_ | refine s_eql_bool aH.out rfl rfl (by decide) ?_
  refine aa (cT (ah ?_))
  refine a6 8 [[(2, none)], [(12, some 0)], [(3, none)], [(14, some 2)], [(13, some 1), (15, some 3)], [(16, some 4)], [(2, none)], [(18, some 6)]] [(7, 19), (6, 18), (5, 17), (4, 16), (3, 15), (2, 14), (1, 13), (0, 12)] hh mixed (by kernel_rfl) ?_
  refine fP ?_
  refine gB 2 ?_
  refine fP ?_
  refine gB 1 ?_
  refine vl [_,_] ?_
  refine dD (i := 5) (Is (.string (sN (bN a + bN b)))) Is.ext ?_ ?_
  ·intro ρ1 w1 hj hR
   obtain ⟨A16, c16, h16, s16⟩ := hR.1
   exact dP rfl (cW av.out (bj h16 cj)) (p6 A16 2 c16 [a, b] _ s16 (by omega) (by simp; omega)) (fun _ _ hq => ⟨_, hq.1, hq.2, rfl⟩)
  refine fP ?_
  refine gB 2 ?_
  refine bA ?_
  intro f W hJ hV
  have hb_2 := hJ.bl
  obtain ⟨v19, v18, v17, v16, v15, v14, v13, v12, _⟩ := hV
  obtain ⟨A16, c16, e16, f16⟩ : Rows _ _ _ (f 4) W := v16
  replace hh := hJ.hp
  refine bf (bz (ae v19 (ae v18 (ae v17 (ae e16 (ae v15 (ae v14 (ae v13 (ae v12 bg))))))))) ?_
  dsimp only [cH]
  clear e16 hJ
  refine gb [_,_] ?_
  refine bM hh 0 [_,_] ?_
  intro ws hh
  replace hh : Hp _ (.blk _ _ [_, _] _ :: _) _ := hh
  refine aa (aq (aM ?_))
  refine gG (aY rfl (aX (vs := [_, _]) aD.out (hh.ax (i := 0) (n := 2) rfl rfl) rfl) bC) ?_
  rw [e1, oc, if_pos rfl]
  exact ⟨rfl, hh.below⟩
 ·by_cases hlt : bN a < bN b
  ·have e1 := hiv t (bN b - bN a) (iv s a + iv t b) (by unfold iv; cases s <;> cases t <;> simp at hst ⊢ <;> omega)
   refine al (N := 41) (l := [.agg #[.string a, .bool s], .agg #[.string b, .bool t]]) Tryz.func127 rfl rfl (by simp) ?_
   refine sr ?_
   refine dw hh [_,_] ?_
   intro b2 w2 hh
   refine dw hh [_,_] ?_
   intro b3 w3 hh
   refine cu hh ?_
   intro b4 w4 hh
   refine aa (ah (sr (bK ?_)))
   refine bL hh 2 ?_
   refine bK ?_
   refine bL hh 1 ?_
   first | refine jA aH.out rfl rfl (by first | rfl | assumption) (by decide) ?_ | refine ju aH.out rfl rfl (by first | rfl | assumption | decide) (by decide) ?_ | refine s_eql_bool aH.out rfl rfl (by decide) ?_
   refine aa (cF (ak (ai (ah (sr (bK ?_))))))
   refine bL hh 2 ?_
   refine bK ?_
   refine bL hh 1 ?_
   refine bF hh (mr a b _ ha hb) rfl ?_
   intro w25 hh
   rw [iD hlt]
   refine aJ (aa (cT (ao ?_)))
   refine cP hh 1 [_,_] ?_
   refine cP hh 2 [_,_] ?_
   refine bM hh 2 [_,_] ?_
   intro ws hh
   replace hh : Hp _ (_ :: _ :: .blk _ _ [_, _] _ :: _) _ := hh
   refine bM hh 1 [_,_] ?_
   intro ws hh
   replace hh : Hp _ (_ :: .blk _ _ [_, _] _ :: _) _ := hh
   refine aa (sr (bK ?_))
   refine bL hh 2 ?_
   refine bK ?_
   refine bL hh 1 ?_
   refine bF hh (kJ b a _ hb ha) rfl ?_
   intro w34 hh
   refine mT ?_
   refine dE ?_
   refine dE ?_
   refine aS (aB (aa (sr (mS (bK ?_)))))
   refine bL hh 2 ?_
   refine gb [_,_] ?_
   refine bM hh 0 [_,_] ?_
   intro ws hh
   replace hh : Hp _ (.blk _ _ [_, _] _ :: _) _ := hh
   refine aa (aq ?_)
   refine gG (aY rfl (aX (vs := [_, _]) aD.out (hh.ax (i := 0) (n := 2) rfl rfl) rfl) bC) ?_
   rw [e1, oc, if_neg hst, if_pos hlt]
   exact ⟨rfl, hh.below⟩
  ·have e1 := hiv s (bN a - bN b) (iv s a + iv t b) (by unfold iv; cases s <;> cases t <;> simp at hst ⊢ <;> omega)
   have hc : ¬ iy (bN a) (bN b) < 0 := by unfold iy; split <;> (try split) <;> omega
   refine al (N := 41) (l := [.agg #[.string a, .bool s], .agg #[.string b, .bool t]]) Tryz.func127 rfl rfl (by simp) ?_
   refine sr ?_
   refine dw hh [_,_] ?_
   intro b2 w2 hh
   refine dw hh [_,_] ?_
   intro b3 w3 hh
   refine cu hh ?_
   intro b4 w4 hh
   refine aa (ah (sr (bK ?_)))
   refine bL hh 2 ?_
   refine bK ?_
   refine bL hh 1 ?_
   first | refine jA aH.out rfl rfl (by first | rfl | assumption) (by decide) ?_ | refine ju aH.out rfl rfl (by first | rfl | assumption | decide) (by decide) ?_ | refine s_eql_bool aH.out rfl rfl (by decide) ?_
   refine aa (cF (ak (ai (ah (sr (bK ?_))))))
   refine bL hh 2 ?_
   refine bK ?_
   refine bL hh 1 ?_
   refine bF hh (mr a b _ ha hb) rfl ?_
   intro w25 hh
   refine aJ (aa (cF (ak (ai (sr (bK ?_))))))
   refine bL hh 2 ?_
   refine bK ?_
   refine bL hh 1 ?_
   refine bF hh (kJ a b _ ha hb) rfl ?_
   intro w34 hh
   refine mT ?_
   refine dE ?_
   refine dE ?_
   refine aS (aB (aa (sr (mS (bK ?_)))))
   refine bL hh 2 ?_
   refine gb [_,_] ?_
   refine bM hh 0 [_,_] ?_
   intro ws hh
   replace hh : Hp _ (.blk _ _ [_, _] _ :: _) _ := hh
   refine aa (aq ?_)
   refine gG (aY rfl (aX (vs := [_, _]) aD.out (hh.ax (i := 0) (n := 2) rfl rfl) rfl) bC) ?_
   rw [e1, oc, if_neg hst, if_neg hlt]
   exact ⟨rfl, hh.below⟩
theorem kQ (s t : Bool) (a b : ByteArray) (w : World) (ha : a.size ≤ 1000000000) (hb : b.size ≤ 1000000000) :
  Calls Tryz.prog 130 #[.agg #[.string a, .bool s], .agg #[.string b, .bool t]] w fun e w' => e = .returned (.agg #[.string (iM (iv s a * iv t b)), .bool (s != t)]) ∧ Below w.heap.size w w' := by
 have hh := Hp.start w
 have e0 : (iv s a * iv t b).natAbs = bN a * bN b := by rw [Int.natAbs_mul, gL, gL]
 have e1 : iM (iv s a * iv t b) = sN (bN a * bN b) := by rw [iM, e0]
 refine al (N := 16) (l := [.agg #[.string a, .bool s], .agg #[.string b, .bool t]]) Tryz.func130 rfl rfl (by simp) ?_
 refine sr ?_
 refine dw hh [_,_] ?_
 intro b2 w2 hh
 refine dw hh [_,_] ?_
 intro b3 w3 hh
 refine cu hh ?_
 intro b4 w4 hh
 refine aa (ah ?_)
 refine a6 10 [[(2, none)], [(5, some 0)], [(3, none)], [(7, some 2)], [(6, some 1), (8, some 3)], [(2, none)], [(10, some 5)], [(3, none)], [(12, some 7)], [(11, some 6), (13, some 8)]] [(9, 14), (8, 13), (7, 12), (6, 11), (5, 10), (4, 9), (3, 8), (2, 7), (1, 6), (0, 5)] hh mixed (by kernel_rfl) ?_
 refine fP ?_
 refine gB 2 ?_
 refine fP ?_
 refine gB 1 ?_
 refine dC (fun _ hj => qe a b _ ha hb) ?_
 refine fP ?_
 refine gB 2 ?_
 refine fP ?_
 refine gB 1 ?_
 first | refine bh (i := 9) (fun ρ1 w1 hj hR => ug aH.out (show ρ1 11 = Value.bool _ from hR.1) (show ρ1 13 = Value.bool _ from hR.2.1) (by first | rfl | assumption)) ?_ | refine bh (i := 9) (fun ρ1 w1 hj hR => tJ aH.out (show ρ1 11 = Value.bool _ from hR.1) (show ρ1 13 = Value.bool _ from hR.2.1) (by first | assumption | decide)) ?_ | refine bh (i := 9) (fun ρ1 w1 hj hR => j4 aH.out (show ρ1 11 = Value.bool _ from hR.1) (show ρ1 13 = Value.bool _ from hR.2.1)) ?_
 refine bA ?_
 intro f W hJ hV
 have hb_1 := hJ.bl
 obtain ⟨v14, v13, v12, v11, v10, v9, v8, v7, v6, v5, _⟩ := hV
 replace hh := hJ.hp
 refine bf (bz (ae v14 (ae v13 (ae v12 (ae v11 (ae v10 (ae v9 (ae v8 (ae v7 (ae v6 (ae v5 bg))))))))))) ?_
 dsimp only [cH]
 clear hJ
 refine gb [_,_] ?_
 refine bM hh 0 [_,_] ?_
 intro ws hh
 replace hh : Hp _ (.blk _ _ [_, _] _ :: _) _ := hh
 refine aa (aq ?_)
 refine gG (aY rfl (aX (vs := [_, _]) aD.out (hh.ax (i := 0) (n := 2) rfl rfl) rfl) bC) ?_
 rw [e1]
 exact ⟨rfl, hh.below⟩
theorem jE (n : Int) (w : World) (h1 : -9223372036854775808 ≤ n) (h2 : n ≤ 9223372036854775807) :
  Calls Tryz.prog 95 #[.int .i64 n] w fun e w' => e = .returned (.agg #[.bool (iN n), .string (iM n)]) ∧ Below w.heap.size w w' := by
 have hh := Hp.start w
 by_cases h0 : n < 0
 ·have e1 : iv true (sN n.natAbs) = n := by unfold iv; rw [ek, if_pos rfl]; omega
  have hw : IntKind.u64.wrap n = ((18446744073709551616 - n.natAbs : Nat) : Int) := by
   rw [show n = ((18446744073709551616 - n.natAbs : Nat) : Int) + -((18446744073709551616 : Nat) : Int) by omega]
   have := UK.wrap_add (k := .u64) (((18446744073709551616 - n.natAbs : Nat) : Int) + -((18446744073709551616 : Nat) : Int))
   rw [← this, Int.neg_add_cancel_right, UK.kM (by omega)]
   omega
  have hn : (18446744073709551616 - (18446744073709551616 - n.natAbs)) % 18446744073709551616 = n.natAbs := by omega
  refine al (N := 16) (l := [.int .i64 n]) Tryz.func95 rfl rfl (by simp) ?_
  refine sr ?_
  refine cu hh ?_
  intro b2 w2 hh
  refine aa (ah (sr (mI ?_)))
  refine aJ (aa (cT (sr (mI ?_))))
  refine tm aH.out aH.out rfl (by decide) ?_
  rw [hw]
  refine vH rfl (by omega) (by decide) ?_
  rw [hn]
  skip
  refine bF hh (lF n.natAbs _ (by omega)) rfl ?_
  intro w8 hh
  refine gb [_,_] ?_
  refine bF hh (cQ true (sN n.natAbs) _) rfl ?_
  intro w10 hh
  rw [e1]
  refine bM hh 0 [_,_] ?_
  intro ws hh
  replace hh : Hp _ (.blk _ _ [_, _] _ :: _) _ := hh
  refine aa (aq (aM ?_))
  refine gG (aY rfl (aX (vs := [_, _]) aD.out (hh.ax (i := 0) (n := 2) rfl rfl) rfl) bC) ?_
  exact ⟨rfl, hh.below⟩
 ·obtain ⟨m, rfl⟩ := Int.eq_ofNat_of_zero_le (by omega : 0 ≤ n)
  have e1 : iv false (sN m) = m := by unfold iv; rw [ek]; simp
  have hm : m < 18446744073709551616 := by omega
  refine al (N := 16) (l := [.int .i64 (m : Int)]) Tryz.func95 rfl rfl (by simp) ?_
  refine sr ?_
  refine cu hh ?_
  intro b2 w2 hh
  refine aa (ah (sr (mI ?_)))
  refine aJ (aa (cF (ak (ai (sr (mI ?_))))))
  first | refine cY aH.out aH.out rfl (by first | assumption | omega) (by decide) ?_ | refine eZ aH.out aH.out rfl (by decide) ?_
  refine bF hh (lF m _ hm) rfl ?_
  intro w13 hh
  refine gb [_,_] ?_
  refine bF hh (cQ false (sN m) _) rfl ?_
  intro w15 hh
  rw [e1]
  refine bM hh 0 [_,_] ?_
  intro ws hh
  replace hh : Hp _ (.blk _ _ [_, _] _ :: _) _ := hh
  refine aa (aq ?_)
  refine gG (aY rfl (aX (vs := [_, _]) aD.out (hh.ax (i := 0) (n := 2) rfl rfl) rfl) bC) ?_
  exact ⟨rfl, hh.below⟩
end Go.Proofs.YtioilmppidlbnaaGreatDoor
namespace Go.Proofs.YtioilmppidlbnaaGreatDoor
open Go.RowKit
structure IR where
 neg : Bool
 bP : ByteArray
def IR.cells (a : IR) : List Value := [.bool a.neg, .string a.bP]
def IR.v (a : IR) : Int := iv a.neg a.bP
def iR (z : Int) : IR := ⟨iN z, iM z⟩
theorem Ao (z : Int) : (iR z).v = z := eU z
theorem IR.len (a : IR) : a.cells.length = 2 := rfl
theorem ky (x y : Int) : bD (x + y).natAbs ≤ max (bD x.natAbs) (bD y.natAbs) + 1 := by
 apply cU
 have h1 := cG x.natAbs
 have h2 := cG y.natAbs
 have h3 : 2 ^ bD x.natAbs ≤ 2 ^ max (bD x.natAbs) (bD y.natAbs) := Nat.pow_le_pow_right (by omega) (Nat.le_max_left _ _)
 have h4 : 2 ^ bD y.natAbs ≤ 2 ^ max (bD x.natAbs) (bD y.natAbs) := Nat.pow_le_pow_right (by omega) (Nat.le_max_right _ _)
 rw [Nat.pow_succ]
 omega
theorem ib (s : Bool) (m : ByteArray) : bD (iv s m).natAbs ≤ 8 * m.size := by rw [gL]; exact fi m
theorem uZ (l : List Int) (x : Int) : (l ++ [x]).sum = l.sum + x := by simp
theorem mz (L : Option Addr) (n c : Nat) (l : List IR) (w : World) (hS : Sl w L n 2 (bG IR.cells l)) (hn : n ≤ 1000000) (hs : ∀ s ∈ l, s.bP.size ≤ 100000000) :
  Calls Tryz.prog 73 #[.slice L n c] w fun e w' => e = .returned (.agg #[.bool (iN (l.map IR.v).sum), .string (iM (l.map IR.v).sum)]) ∧ Below w.heap.size w w' := by
 have hl := hS.cR IR.len (by omega)
 have hh := Hp.start w
 refine al (N := 19) (l := [.slice L n c]) Tryz.func73 rfl rfl (by simp) ?_
 refine sr ?_
 refine cu hh ?_
 intro b2 w2 hh
 refine aa (sr ?_)
 refine cu hh ?_
 intro b3 w3 hh
 refine aa (ah (sr (mL (aV (mI (aa (aj ?_)))))))
 refine bo [5, 8, 9, 10, 11, 12, 13, 14, 15, 16] 8
  (fun j w' => ∃ (i : Nat) (u : Bool) (S : Int), i ≤ n ∧ j = .int .i64 i ∧ S = ((l.take i).map IR.v).sum ∧ iv u (iM S) = S ∧ bD S.natAbs ≤ 800000000 + i ∧ Hp w [.blk b3 153 [.string (iM S), .bool u] (0, 0), .blk b2 37 [.bool false, .string (ByteArray.mk #[])] (0, 0)] w')
  (fun j _ => n - (intOf j).toNat) ?_ ?_
 ·exact ⟨0, false, 0, Nat.zero_le _, rfl, rfl, by rw [iM]; exact congrArg _ (ek 0), by simp [il], by rw [iM, Int.natAbs_zero, gD]; exact hh⟩
 ·clear hh
  rintro ρ' j w' ⟨i, u, S, hi, rfl, hS2, hu, hb, hh⟩
  by_cases hlt : i < n
  ·obtain ⟨x, hx⟩ := ay (l := l) (k := i) (by omega)
   obtain ⟨ad, rfl, hr⟩ := hS.at_ (by omega)
   have hxs := hs x (List.mem_of_getElem? hx)
   have hS3 : ((l.take (i + 1)).map IR.v).sum = S + x.v := by rw [aO hx, List.map_append, List.map_singleton, uZ, hS2]
   have hms : (iM S).size ≤ 1000000000 := by rw [dA]; omega
   have hbx := ib x.neg x.bP
   have hba := ky S x.v
   have hpl := ym u x.neg (iM S) x.bP
   rw [hu] at hpl
   have hwc := fun w1 => qP u x.neg (iM S) x.bP w1 hms (by omega)
   rw [hu] at hwc
   refine sr ?_
   refine aJ (aa (ah (cT (ak (ai (ah (aj (sr ?_))))))))
   refine aC (k := i) aH.out aD.size rfl rfl (by omega) (by omega) (by decide) ?_
   refine cI (vs := [_, _]) aD.out rfl (((hr.ext hh.below).recAt IR.len hx)) rfl (by decide) ?_
   refine cu hh ?_
   intro b5 w5 hh
   refine bM hh 0 [_,_] ?_
   intro ws hh
   replace hh : Hp _ (.blk _ _ [_, _] _ :: _) _ := hh
   refine aa ?_
   refine a6 3 [[(3, none)], [(5, none)], [(13, some 1)]] [(2, 14), (1, 13), (0, 12)] hh mixed (by kernel_rfl) ?_
   refine gh 1 [_,_] ?_
   refine gh 0 [_,_] ?_
   refine dC (fun _ hj => gE x.neg x.bP _) ?_
   refine bA ?_
   intro f W hJ hV
   have hb_5 := hJ.bl
   obtain ⟨v14, v13, v12, _⟩ := hV
   replace hh := hJ.hp
   refine bf (bz (ae v14 (ae v13 (ae v12 bg)))) ?_
   dsimp only [cH]
   clear hJ
   refine bF hh (hwc _) rfl ?_
   intro w15 hh
   refine bM hh 1 [_,_] ?_
   intro ws hh
   replace hh : Hp _ (_ :: .blk _ _ [_, _] _ :: _) _ := hh
   refine aE (aW (ai (ao ?_)))
   refine bx (mI (aE (ai ?_)))
   replace hh := hh.sub (List.sublist_cons_self _ _)
   refine ⟨⟨i + 1, _, _, by omega, rfl, hS3.symm, hpl, by unfold IR.v at hba ⊢; omega, hh⟩, by show n - (i + 1) < n - i; omega, ?_⟩
   (repeat (first | exact aw _ _ _ | refine aA rfl ?_ | refine ar rfl ?_))
  ·refine sr ?_
   refine aJ (aa (ah (cF ?_)))
   refine aN ?_
   refine az (az (a7 (ai (sr ?_))))
   refine cP hh 0 [_,_] ?_
   refine bF hh (cQ u (iM S) _) rfl ?_
   intro w18 hh
   rw [hu]
   refine bM hh 1 [_,_] ?_
   intro ws hh
   replace hh : Hp _ (_ :: .blk _ _ [_, _] _ :: _) _ := hh
   refine aa (aq ?_)
   refine gG (aY rfl (aX (vs := [_, _]) aD.out (hh.ax (i := 1) (n := 2) rfl rfl) rfl) bC) ?_
   rw [List.take_of_length_le (by omega)] at hS2
   rw [hS2]
   exact ⟨rfl, hh.below⟩
theorem lE (s : Bool) (b : ByteArray) : (iM (-(iv s b))).size ≤ b.size := by
 have := ib s b
 rw [dA, Int.natAbs_neg]; omega
theorem sO (s t : Bool) (a b : ByteArray) (w : World) (ha : a.size ≤ 100000000) (hb : b.size ≤ 100000000) :
  Calls Tryz.prog 164 #[.agg #[.bool s, .string a], .agg #[.bool t, .string b]] w fun e w' => e = .returned (.agg #[.bool (iN (iv s a - iv t b)), .string (iM (iv s a - iv t b))]) ∧ Below w.heap.size w w' := by
 have hh := Hp.start w
 have h1 := lE t b
 have e1 : ([IR.mk s a, iR (-(iv t b))].map IR.v).sum = iv s a - iv t b := by
  simp only [List.map_cons, List.map_nil, List.sum_cons, List.sum_nil, Ao]
  simp only [IR.v]; omega
 refine al (N := 10) (l := [.agg #[.bool s, .string a], .agg #[.bool t, .string b]]) Tryz.func164 rfl rfl (by simp) ?_
 refine sr ?_
 refine dw hh [_,_] ?_
 intro b2 w2 hh
 refine dw hh [_,_] ?_
 intro b3 w3 hh
 refine cu hh ?_
 intro b4 w4 hh
 refine aa (ah ?_)
 refine a6 3 [[(2, none)], [(3, none)], [(6, some 1)]] [(2, 7), (1, 6), (0, 5)] hh mixed (by kernel_rfl) ?_
 refine gh 2 [_,_] ?_
 refine gh 1 [_,_] ?_
 refine dC (fun _ hj => m9 t b _) ?_
 refine bA ?_
 intro f W hJ hV
 have hb_1 := hJ.bl
 obtain ⟨v7, v6, v5, _⟩ := hV
 replace hh := hJ.hp
 refine bf (bz (ae v7 (ae v6 (ae v5 bg)))) ?_
 dsimp only [cH]
 clear hJ
 refine aG hh (cs := [_, _, _, _]) aH.out aD.out (aF (cM rfl) (aF (cM rfl) bE)) rfl rfl (by decide) (by decide) (by decide) rfl (by decide) ?_
 intro b8 w8 hh
 refine bF hh (mz _ 2 _ [IR.mk s a, iR (-(iv t b))] _ (hh.aQ (i := 0) rfl) (by omega) (by simp [iR]; omega)) rfl ?_
 intro w9 hh
 rw [e1]
 refine bM hh 1 [_,_] ?_
 intro ws hh
 replace hh : Hp _ (_ :: .blk _ _ [_, _] _ :: _) _ := hh
 refine aa (aq ?_)
 refine gG (aY rfl (aX (vs := [_, _]) aD.out (hh.ax (i := 1) (n := 2) rfl rfl) rfl) bC) ?_
 exact ⟨rfl, hh.below⟩
theorem vY (a b : Nat) : bD (a * b) ≤ bD a + bD b := by
 apply cU
 rw [Nat.pow_add]
 exact Nat.mul_lt_mul'' (cG a) (cG b)
theorem iL (a b : Int) : bD (a * b).natAbs ≤ bD a.natAbs + bD b.natAbs := by rw [Int.natAbs_mul]; exact vY _ _
def jg : List Int → Int
 | [] => 1
 | x :: l => x * jg l
theorem sA (l : List Int) (x : Int) : jg (l ++ [x]) = jg l * x := by
 induction l with
 | nil => simp [jg]
 | cons y l ih => simp only [List.cons_append, jg, ih, Int.mul_assoc]
theorem qY (l : List Nat) (i : Nat) : (l.take i).sum ≤ l.sum := by
 rw [← List.sum_append_nat.symm.trans (congrArg List.sum (List.take_append_drop i l))]; omega
theorem nB : bD 1 = 1 := by decide +kernel
theorem se (L : Option Addr) (n c : Nat) (l : List IR) (w : World) (hS : Sl w L n 2 (bG IR.cells l)) (hn : n ≤ 1000000) (hs : (l.map fun a => a.bP.size).sum ≤ 100000000) :
  Calls Tryz.prog 74 #[.slice L n c] w fun e w' => e = .returned (.agg #[.bool (iN (jg (l.map IR.v))), .string (iM (jg (l.map IR.v)))]) ∧ Below w.heap.size w w' := by
 have hl := hS.cR IR.len (by omega)
 have hh := Hp.start w
 have hsum := qY (l.map fun a => a.bP.size)
 refine al (N := 21) (l := [.slice L n c]) Tryz.func74 rfl rfl (by simp) ?_
 refine sr ?_
 refine cu hh ?_
 intro b2 w2 hh
 refine aa (sr ?_)
 refine bF hh (jE 1 _ (by omega) (by omega)) rfl ?_
 intro w6 hh
 refine bF hh (gE _ _ _) rfl ?_
 intro w7 hh
 refine cu hh ?_
 intro b3 w3 hh
 refine bM hh 0 [_,_] ?_
 intro ws hh
 replace hh : Hp _ (.blk _ _ [_, _] _ :: _) _ := hh
 refine aa (ah (sr (mL (aV (mI (aa (aj ?_)))))))
 refine bo [5, 10, 11, 12, 13, 14, 15, 16, 17, 18] 10
  (fun j w' => ∃ (i : Nat) (u : Bool) (S : Int), i ≤ n ∧ j = .int .i64 i ∧ S = jg ((l.take i).map IR.v) ∧ iv u (iM S) = S ∧ bD S.natAbs ≤ 1 + 8 * ((l.map fun a => a.bP.size).take i).sum ∧ Hp w [.blk b3 153 [.string (iM S), .bool u] (0, 0), .blk b2 37 [.bool false, .string (ByteArray.mk #[])] (0, 0)] w')
  (fun j _ => n - (intOf j).toNat) ?_ ?_
 ·exact ⟨0, _, 1, Nat.zero_le _, rfl, rfl, eU 1, by rw [Int.natAbs_one, nB]; omega, hh⟩
 ·clear hh
  rintro ρ' j w' ⟨i, u, S, hi, rfl, hS2, hu, hb, hh⟩
  by_cases hlt : i < n
  ·obtain ⟨x, hx⟩ := ay (l := l) (k := i) (by omega)
   obtain ⟨ad, rfl, hr⟩ := hS.at_ (by omega)
   have hsi := hsum i
   have hsi2 := hsum (i + 1)
   have hsz : ((l.map fun a => a.bP.size).take (i + 1)).sum = ((l.map fun a => a.bP.size).take i).sum + x.bP.size := by
    rw [aO (x := x.bP.size) (by rw [List.getElem?_map, hx]; rfl), lA]
   have hS3 : jg ((l.take (i + 1)).map IR.v) = S * x.v := by rw [aO hx, List.map_append, List.map_singleton, sA, hS2]
   have hms : (iM S).size ≤ 1000000000 := by rw [dA]; omega
   have hbx := ib x.neg x.bP
   have hba := iL S x.v
   have hpl := rg u x.neg (iM S) x.bP
   rw [hu] at hpl
   have hwc := fun w1 => kQ u x.neg (iM S) x.bP w1 hms (by omega)
   rw [hu] at hwc
   refine sr ?_
   refine aJ (aa (ah (cT (ak (ai (ah (aj (sr ?_))))))))
   refine aC (k := i) aH.out aD.size rfl rfl (by omega) (by omega) (by decide) ?_
   refine cI (vs := [_, _]) aD.out rfl (((hr.ext hh.below).recAt IR.len hx)) rfl (by decide) ?_
   refine cu hh ?_
   intro b5 w5 hh
   refine bM hh 0 [_,_] ?_
   intro ws hh
   replace hh : Hp _ (.blk _ _ [_, _] _ :: _) _ := hh
   refine aa ?_
   refine a6 3 [[(3, none)], [(5, none)], [(15, some 1)]] [(2, 16), (1, 15), (0, 14)] hh mixed (by kernel_rfl) ?_
   refine gh 1 [_,_] ?_
   refine gh 0 [_,_] ?_
   refine dC (fun _ hj => gE x.neg x.bP _) ?_
   refine bA ?_
   intro f W hJ hV
   have hb_5 := hJ.bl
   obtain ⟨v16, v15, v14, _⟩ := hV
   replace hh := hJ.hp
   refine bf (bz (ae v16 (ae v15 (ae v14 bg)))) ?_
   dsimp only [cH]
   clear hJ
   refine bF hh (hwc _) rfl ?_
   intro w17 hh
   refine bM hh 1 [_,_] ?_
   intro ws hh
   replace hh : Hp _ (_ :: .blk _ _ [_, _] _ :: _) _ := hh
   refine aE (aW (ai (ao ?_)))
   refine bx (mI (aE (ai ?_)))
   replace hh := hh.sub (List.sublist_cons_self _ _)
   refine ⟨⟨i + 1, _, _, by omega, rfl, hS3.symm, hpl, by unfold IR.v at hba ⊢; omega, hh⟩, by show n - (i + 1) < n - i; omega, ?_⟩
   (repeat (first | exact aw _ _ _ | refine aA rfl ?_ | refine ar rfl ?_))
  ·refine sr ?_
   refine aJ (aa (ah (cF ?_)))
   refine aN ?_
   refine az (az (a7 (ai (sr ?_))))
   refine cP hh 0 [_,_] ?_
   refine bF hh (cQ u (iM S) _) rfl ?_
   intro w20 hh
   rw [hu]
   refine bM hh 1 [_,_] ?_
   intro ws hh
   replace hh : Hp _ (_ :: .blk _ _ [_, _] _ :: _) _ := hh
   refine aa (aq ?_)
   refine gG (aY rfl (aX (vs := [_, _]) aD.out (hh.ax (i := 1) (n := 2) rfl rfl) rfl) bC) ?_
   rw [List.take_of_length_le (by omega)] at hS2
   rw [hS2]
   exact ⟨rfl, hh.below⟩
theorem rb (M k : Nat) (h : 2 ^ k ∣ M) : -((M / 2 ^ k : Nat) : Int) = -(M : Int) / 2 ^ k := by
 obtain ⟨q, rfl⟩ := h
 have hp : (0 : Int) < 2 ^ k := Int.pow_pos (by omega)
 rw [Nat.mul_div_cancel_left _ (Nat.pow_pos (by omega)), Int.natCast_mul, ← Int.mul_neg, Int.natCast_pow]
 exact (Int.mul_ediv_cancel_left _ (by exact Int.ne_of_gt hp)).symm
theorem qf (M k : Nat) (h : ¬ 2 ^ k ∣ M) : -((M / 2 ^ k : Nat) : Int) - 1 = -(M : Int) / 2 ^ k := by
 have hp : (0 : Int) < 2 ^ k := Int.pow_pos (by omega)
 have h1 := Nat.div_add_mod M (2 ^ k)
 have h2 := Nat.mod_lt M (Nat.pow_pos (n := k) (show 0 < 2 by omega))
 have h3 : M % 2 ^ k ≠ 0 := fun h0 => h (Nat.dvd_of_mod_eq_zero h0)
 have hc : ((2 ^ k : Nat) : Int) = 2 ^ k := by simp
 symm
 rw [Int.ediv_eq_iff_of_pos hp, ← hc]
 have h4 : (M : Int) = (2 ^ k : Nat) * (M / 2 ^ k : Nat) + (M % 2 ^ k : Nat) := by rw [← Int.natCast_mul, ← Int.natCast_add, h1]
 generalize hK : ((2 ^ k : Nat) : Int) = K at *
 generalize ((M / 2 ^ k : Nat) : Int) = q at *
 have e : (-q - 1) * K = -(K * q) - K := by rw [Int.sub_mul, Int.neg_mul, Int.mul_comm q]; omega
 have e2 : (-q - 1 + 1) * K = -(K * q) := by rw [Int.sub_add_cancel, Int.neg_mul, Int.mul_comm]
 omega
theorem wk {M k : Nat} (h0 : M ≠ 0) : 2 ^ k ∣ M ↔ k ≤ tz M := by
 obtain ⟨m, hm⟩ := l6 h0
 generalize tz M = t at *
 constructor
 ·intro h
  rcases Nat.lt_or_ge t k with hlt | hge
  ·exfalso
   obtain ⟨q, hq⟩ := h
   rw [hm, show k = t + (1 + (k - t - 1)) by omega, Nat.pow_add, Nat.pow_add, Nat.mul_assoc] at hq
   have := Nat.eq_of_mul_eq_mul_left (Nat.pow_pos (by omega)) hq
   rw [Nat.pow_one, Nat.mul_assoc] at this
   omega
  ·exact hge
 ·intro h
  rw [hm]
  exact Nat.dvd_trans (Nat.pow_dvd_pow 2 h) (Nat.dvd_mul_right _ _)
end Go.Proofs.YtioilmppidlbnaaGreatDoor
namespace Go.Proofs.YtioilmppidlbnaaGreatDoor
open Go.RowKit
theorem ko (a : Int) (n : Nat) : bD (a ^ n).natAbs ≤ 1 + n * bD a.natAbs := by
 induction n with
 | zero => simp [nB]
 | succ n ih =>
  rw [Int.pow_succ]
  have := iL (a ^ n) a
  rw [Nat.succ_mul]; omega
theorem sP (s : Bool) (a : ByteArray) (n : Int) (w : World) (h0 : n.toNat * a.size ≤ 100000000) (hn : n ≤ 1000000000) (ha : a.size ≤ 100000000) :
  Calls Tryz.prog 157 #[.agg #[.bool s, .string a], .int .i64 n] w fun e w' => e = .returned (.agg #[.bool (iN (iv s a ^ n.toNat)), .string (iM (iv s a ^ n.toNat))]) ∧ Below w.heap.size w w' := by
 have hh := Hp.start w
 have e1 : (if (0 : Int) > n then 0 else n) = (n.toNat : Int) := by split <;> omega
 have hm : n.toNat ≤ 1000000000 := by omega
 generalize n.toNat = m at *
 refine al (N := 19) (l := [.agg #[.bool s, .string a], .int .i64 n]) Tryz.func157 rfl rfl (by simp) ?_
 refine sr ?_
 refine dw hh [_,_] ?_
 intro b2 w2 hh
 refine cu hh ?_
 intro b4 w4 hh
 refine aa (sr ?_)
 refine bF hh (jE 1 _ (by omega) (by omega)) rfl ?_
 intro w6 hh
 refine bF hh (gE _ _ _) rfl ?_
 intro w7 hh
 refine cu hh ?_
 intro b5 w5 hh
 refine bM hh 0 [_,_] ?_
 intro ws hh
 replace hh : Hp _ (.blk _ _ [_, _] _ :: _) _ := hh
 refine aa (ah (sr (mI ?_)))
 refine iV rfl rfl (by decide) ?_
 refine mI (aa (aj ?_))
 rw [e1]
 refine bo [10, 11, 12, 13, 14, 15, 16] 10
  (fun j w' => ∃ (i : Nat) (u : Bool) (S : Int), i ≤ m ∧ j = .int .i64 i ∧ S = iv s a ^ i ∧ iv u (iM S) = S ∧ Hp w [.blk b5 153 [.string (iM S), .bool u] (0, 0), .blk b4 37 [.bool false, .string (ByteArray.mk #[])] (0, 0), .blk b2 37 [.bool s, .string a] (0, 0)] w')
  (fun j _ => m - (intOf j).toNat) ?_ ?_
 ·exact ⟨0, _, 1, Nat.zero_le _, rfl, by rw [Int.pow_zero], eU 1, hh⟩
 ·clear hh
  rintro ρ' j w' ⟨i, u, S, hi, rfl, hS2, hu, hh⟩
  by_cases hlt : i < m
  ·have hb := ko (iv s a) i
   rw [← hS2] at hb
   have hbx := ib s a
   have hle : i * bD (iv s a).natAbs ≤ m * (8 * a.size) := Nat.mul_le_mul hi hbx
   rw [Nat.mul_left_comm] at hle
   have hms : (iM S).size ≤ 1000000000 := by rw [dA]; omega
   have hpl := rg u s (iM S) a
   rw [hu] at hpl
   have hwc := fun w1 => kQ u s (iM S) a w1 hms (by omega)
   rw [hu] at hwc
   refine sr ?_
   refine aJ (aa (ah (cT (ak (ai (ah (aj ?_)))))))
   refine a6 3 [[(5, none)], [(2, none)], [(13, some 1)]] [(2, 14), (1, 13), (0, 12)] hh mixed (by kernel_rfl) ?_
   refine gh 0 [_,_] ?_
   refine gh 2 [_,_] ?_
   refine dC (fun _ hj => gE s a _) ?_
   refine bA ?_
   intro f W hJ hV
   have hb_4 := hJ.bl
   obtain ⟨v14, v13, v12, _⟩ := hV
   replace hh := hJ.hp
   refine bf (bz (ae v14 (ae v13 (ae v12 bg)))) ?_
   dsimp only [cH]
   clear hJ
   refine bF hh (hwc _) rfl ?_
   intro w15 hh
   refine bM hh 0 [_,_] ?_
   intro ws hh
   replace hh : Hp _ (.blk _ _ [_, _] _ :: _) _ := hh
   refine aE (aW (ai (ao ?_)))
   refine bx (mI (aE (ai ?_)))
   refine ⟨⟨i + 1, _, _, by omega, rfl, by rw [Int.pow_succ, hS2], hpl, hh⟩, by show m - (i + 1) < m - i; omega, ?_⟩
   (repeat (first | exact aw _ _ _ | refine aA rfl ?_ | refine ar rfl ?_))
  ·obtain rfl : i = m := by omega
   refine sr ?_
   refine aJ (aa (ah (cF ?_)))
   refine aN ?_
   refine az (az (a7 (ai (sr ?_))))
   refine cP hh 0 [_,_] ?_
   refine bF hh (cQ u (iM S) _) rfl ?_
   intro w18 hh
   rw [hu, hS2]
   refine bM hh 1 [_,_] ?_
   intro ws hh
   replace hh : Hp _ (_ :: .blk _ _ [_, _] _ :: _) _ := hh
   refine aa (aq ?_)
   refine gG (aY rfl (aX (vs := [_, _]) aD.out (hh.ax (i := 1) (n := 2) rfl rfl) rfl) bC) ?_
   exact ⟨rfl, hh.below⟩
theorem zV (s : Bool) (a : ByteArray) (m : Nat) : iv s (sN (bN a * 2 ^ m)) = iv s a * 2 ^ m := by
 unfold iv
 rw [ek]
 cases s <;> simp [Int.natCast_mul, Int.neg_mul]
theorem sx (s : Bool) (a : ByteArray) (m : Nat) (w : World) (ha : a.size ≤ 100000000) (hm : m ≤ 1000000000) :
  Calls Tryz.prog 126 #[.agg #[.bool s, .string a], .int .i64 (m : Int)] w fun e w' => e = .returned (.agg #[.bool (iN (iv s a * 2 ^ m)), .string (iM (iv s a * 2 ^ m))]) ∧ Below w.heap.size w w' := by
 have hh := Hp.start w
 refine al (N := 47) (l := [.agg #[.bool s, .string a], .int .i64 (m : Int)]) Tryz.func126 rfl rfl (by simp) ?_
 refine sr ?_
 refine dw hh [_,_] ?_
 intro b2 w2 hh
 refine cu hh ?_
 intro b4 w4 hh
 refine aa (ah (sr (mI ?_)))
 refine dz (aa (cT (ah ?_)))
 refine a6 6 [[(2, none)], [(8, some 0)], [(1, none)], [(9, some 1), (10, some 2)], [(2, none)], [(12, some 4)]] [(5, 13), (4, 12), (3, 11), (2, 10), (1, 9), (0, 8)] hh mixed (by kernel_rfl) ?_
 refine fP ?_
 refine gB 1 ?_
 refine eM ?_
 refine dC (fun _ hj => pc a m _ (by omega) (by omega)) ?_
 refine fP ?_
 refine gB 1 ?_
 refine bA ?_
 intro f W hJ hV
 have hb_2 := hJ.bl
 obtain ⟨v13, v12, v11, v10, v9, v8, _⟩ := hV
 replace hh := hJ.hp
 refine bf (bz (ae v13 (ae v12 (ae v11 (ae v10 (ae v9 (ae v8 bg))))))) ?_
 dsimp only [cH]
 clear hJ
 refine gb [_,_] ?_
 refine bF hh (cQ s (sN (bN a * 2 ^ m)) _) rfl ?_
 intro w15 hh
 rw [zV]
 refine bM hh 0 [_,_] ?_
 intro ws hh
 replace hh : Hp _ (.blk _ _ [_, _] _ :: _) _ := hh
 refine aa (aq (aM ?_))
 refine gG (aY rfl (aX (vs := [_, _]) aD.out (hh.ax (i := 0) (n := 2) rfl rfl) rfl) bC) ?_
 exact ⟨rfl, hh.below⟩
theorem tg (s : Bool) (a : ByteArray) (m : Nat) (w : World) (hT : fQ w) (ha : a.size ≤ 100000000) (h0 : 0 < m) (hm : m ≤ 1000000000000) :
  Calls Tryz.prog 126 #[.agg #[.bool s, .string a], .int .i64 (-(m : Int))] w fun e w' => e = .returned (.agg #[.bool (iN (iv s a / 2 ^ m)), .string (iM (iv s a / 2 ^ m))]) ∧ Below w.heap.size w w' := by
 have hh := Hp.start w
 have e1 : (if (-1099511627776 : Int) > -(m : Int) then -1099511627776 else -(m : Int)) = -(m : Int) := if_neg (by omega)
 have e2 : -(-(m : Int)) = (m : Int) := by omega
 have hcs : ∀ w1, Calls Tryz.prog 162 #[.string a, .int .i64 (-(-(m : Int)))] w1 fun e w' => e = .returned (.string (sN (bN a / 2 ^ m))) ∧ Below w1.heap.size w1 w' := fun w1 => by
  rw [e2]; exact pz a m w1 (by omega) (by omega)
 cases s with
 | false =>
  have e3 : iv false (sN (bN a / 2 ^ m)) = iv false a / 2 ^ m := by
   unfold iv
   rw [ek]
   simp
  refine al (N := 47) (l := [.agg #[.bool false, .string a], .int .i64 (-(m : Int))]) Tryz.func126 rfl rfl (by simp) ?_
  refine sr ?_
  refine dw hh [_,_] ?_
  intro b2 w2 hh
  refine cu hh ?_
  intro b4 w4 hh
  refine aa (ah (sr (mI ?_)))
  refine dz (aa (cF (ak (ai (sr (mI ?_))))))
  refine iV rfl rfl (by decide) ?_
  refine aI (aa (ah ?_))
  rw [e1]
  refine a6 10 [[(2, none)], [(18, some 0)], [(1, none)], [(20, some 2)], [(19, some 1), (21, some 3)], [(2, none)], [(23, some 5)], [(22, some 4), (24, some 6)], [(25, some 7)], []] [(9, 5), (8, 26), (7, 25), (6, 24), (5, 23), (4, 22), (3, 21), (2, 20), (1, 19), (0, 18)] hh mixed (by kernel_rfl) ?_
  refine fP ?_
  refine gB 1 ?_
  refine eM ?_
  refine bh (i := 3) (fun ρ1 w1 hj hR => nw (show ρ1 20 = Value.int _ _ from hR.1) (by omega) (by omega)) ?_
  refine dC (fun _ hj => hcs _) ?_
  refine fP ?_
  refine gB 1 ?_
  refine dB [_,_] ?_
  refine dC (fun _ hj => cQ false (sN (bN a / 2 ^ m)) _) ?_
  refine dD (i := 9) (eu _ 37 _) eu.ext (fun ρ1 w1 hj hR => ja aD.out hj.bl (fun v w2 h hb => ⟨hb, h⟩)) ?_
  refine bA ?_
  intro f W hJ hV
  have hb_4 := hJ.bl
  obtain ⟨v5, v26, v25, v24, v23, v22, v21, v20, v19, v18, _⟩ := hV
  obtain ⟨b5, e5, hl5, hc5⟩ : eu _ _ _ (f 9) W := v5
  replace hh := hJ.newVar hh hl5 hc5
  refine bf (bz (ae e5 (ae v26 (ae v25 (ae v24 (ae v23 (ae v22 (ae v21 (ae v20 (ae v19 (ae v18 bg))))))))))) ?_
  dsimp only [cH]
  clear e5 hJ
  rw [e3]
  refine bM hh 0 [_,_] ?_
  intro ws hh
  replace hh : Hp _ (.blk _ _ [_, _] _ :: _) _ := hh
  refine aa (ah (sr (bK ?_)))
  refine bL hh 2 ?_
  refine mB ?_
  first | refine gS ?_ | (refine gT ?_; refine bK ?_) | refine gV ?_
  first | refine gS ?_ | (refine gT ?_; refine bL hh 2 ?_) | refine gV ?_
  refine bZ (by decide) rfl rfl (by decide) ?_
  first | refine gS ?_ | (refine gT ?_; refine bQ ?_) | refine gV ?_
  first | refine dh ?_ | refine de ?_
  refine mB ?_
  first | refine gS ?_ | (refine gT ?_; refine bK ?_) | refine gV ?_
  first | refine gS ?_ | (refine gT ?_; refine bL hh 2 ?_) | refine gV ?_
  refine bZ (by decide) rfl rfl (by decide) ?_
  first | refine gS ?_ | (refine gT ?_; refine mI ?_) | refine gV ?_
  first | refine gS ?_ | (refine gT ?_; refine k0 rfl (by omega) (by omega) (by decide) ?_) | refine gV ?_
  first | refine gS ?_ | (refine gT ?_; refine aJ ?_) | refine gV ?_
  first | refine dh ?_ | refine de ?_
  refine aa (cF (ak (ai (sr ?_))))
  refine cP hh 0 [_,_] ?_
  refine bM hh 1 [_,_] ?_
  intro ws hh
  replace hh : Hp _ (_ :: .blk _ _ [_, _] _ :: _) _ := hh
  refine aa (aq ?_)
  refine gG (aY rfl (aX (vs := [_, _]) aD.out (hh.ax (i := 1) (n := 2) rfl rfl) rfl) bC) ?_
  exact ⟨rfl, hh.below⟩
 | true =>
  have hb := fi a
  have e4 : iv true (sN (bN a / 2 ^ m)) = -((bN a / 2 ^ m : Nat) : Int) := by
   unfold iv
   rw [ek, if_pos rfl]
  have e5 : iv true a = -(bN a : Int) := by unfold iv; rw [if_pos rfl]
  by_cases hz : bN a = 0
  ·have e3 : iv true (sN (bN a / 2 ^ m)) = iv true a / 2 ^ m := by
    rw [e4, e5, hz]; simp
   refine al (N := 47) (l := [.agg #[.bool true, .string a], .int .i64 (-(m : Int))]) Tryz.func126 rfl rfl (by simp) ?_
   refine sr ?_
   refine dw hh [_,_] ?_
   intro b2 w2 hh
   refine cu hh ?_
   intro b4 w4 hh
   refine aa (ah (sr (mI ?_)))
   refine dz (aa (cF (ak (ai (sr (mI ?_))))))
   refine iV rfl rfl (by decide) ?_
   refine aI (aa (ah ?_))
   rw [e1]
   refine a6 10 [[(2, none)], [(18, some 0)], [(1, none)], [(20, some 2)], [(19, some 1), (21, some 3)], [(2, none)], [(23, some 5)], [(22, some 4), (24, some 6)], [(25, some 7)], []] [(9, 5), (8, 26), (7, 25), (6, 24), (5, 23), (4, 22), (3, 21), (2, 20), (1, 19), (0, 18)] hh mixed (by kernel_rfl) ?_
   refine fP ?_
   refine gB 1 ?_
   refine eM ?_
   refine bh (i := 3) (fun ρ1 w1 hj hR => nw (show ρ1 20 = Value.int _ _ from hR.1) (by omega) (by omega)) ?_
   refine dC (fun _ hj => hcs _) ?_
   refine fP ?_
   refine gB 1 ?_
   refine dB [_,_] ?_
   refine dC (fun _ hj => cQ true (sN (bN a / 2 ^ m)) _) ?_
   refine dD (i := 9) (eu _ 37 _) eu.ext (fun ρ1 w1 hj hR => ja aD.out hj.bl (fun v w2 h hb => ⟨hb, h⟩)) ?_
   refine bA ?_
   intro f W hJ hV
   have hb_4 := hJ.bl
   obtain ⟨v5, v26, v25, v24, v23, v22, v21, v20, v19, v18, _⟩ := hV
   obtain ⟨b5, e5, hl5, hc5⟩ : eu _ _ _ (f 9) W := v5
   replace hh := hJ.newVar hh hl5 hc5
   refine bf (bz (ae e5 (ae v26 (ae v25 (ae v24 (ae v23 (ae v22 (ae v21 (ae v20 (ae v19 (ae v18 bg))))))))))) ?_
   dsimp only [cH]
   clear e5 hJ
   rw [e3]
   refine bM hh 0 [_,_] ?_
   intro ws hh
   replace hh : Hp _ (.blk _ _ [_, _] _ :: _) _ := hh
   refine aa (ah (sr (bK ?_)))
   refine bL hh 2 ?_
   refine mB ?_
   first | refine gS ?_ | (refine gT ?_; refine bK ?_) | refine gV ?_
   first | refine gS ?_ | (refine gT ?_; refine bL hh 2 ?_) | refine gV ?_
   refine aZ rfl rfl ?_
   refine bF hh (iO a _ (by omega)) rfl ?_
   intro w32 hh
   rw [hz, il]
   first | refine gS ?_ | (refine gT ?_; refine bQ ?_) | refine gV ?_
   first | refine dh ?_ | refine de ?_
   refine mB ?_
   first | refine gS ?_ | (refine gT ?_; refine bK ?_) | refine gV ?_
   first | refine gS ?_ | (refine gT ?_; refine bL hh 2 ?_) | refine gV ?_
   refine bZ (by decide) rfl rfl (by decide) ?_
   first | refine gS ?_ | (refine gT ?_; refine mI ?_) | refine gV ?_
   first | refine gS ?_ | (refine gT ?_; refine k0 rfl (by omega) (by omega) (by decide) ?_) | refine gV ?_
   first | refine gS ?_ | (refine gT ?_; refine aJ ?_) | refine gV ?_
   first | refine dh ?_ | refine de ?_
   refine aa (cF (ak (ai (sr ?_))))
   refine cP hh 0 [_,_] ?_
   refine bM hh 1 [_,_] ?_
   intro ws hh
   replace hh : Hp _ (_ :: .blk _ _ [_, _] _ :: _) _ := hh
   refine aa (aq ?_)
   refine gG (aY rfl (aX (vs := [_, _]) aD.out (hh.ax (i := 1) (n := 2) rfl rfl) rfl) bC) ?_
   exact ⟨rfl, hh.below⟩
  ·have hbp := kj hz
   by_cases hd : 2 ^ m ∣ bN a
   ·have e3 : iv true (sN (bN a / 2 ^ m)) = iv true a / 2 ^ m := by
     rw [e4, e5]; exact rb _ _ hd
    have htz := (wk hz).1 hd
    refine al (N := 47) (l := [.agg #[.bool true, .string a], .int .i64 (-(m : Int))]) Tryz.func126 rfl rfl (by simp) ?_
    refine sr ?_
    refine dw hh [_,_] ?_
    intro b2 w2 hh
    refine cu hh ?_
    intro b4 w4 hh
    refine aa (ah (sr (mI ?_)))
    refine dz (aa (cF (ak (ai (sr (mI ?_))))))
    refine iV rfl rfl (by decide) ?_
    refine aI (aa (ah ?_))
    rw [e1]
    refine a6 10 [[(2, none)], [(18, some 0)], [(1, none)], [(20, some 2)], [(19, some 1), (21, some 3)], [(2, none)], [(23, some 5)], [(22, some 4), (24, some 6)], [(25, some 7)], []] [(9, 5), (8, 26), (7, 25), (6, 24), (5, 23), (4, 22), (3, 21), (2, 20), (1, 19), (0, 18)] hh mixed (by kernel_rfl) ?_
    refine fP ?_
    refine gB 1 ?_
    refine eM ?_
    refine bh (i := 3) (fun ρ1 w1 hj hR => nw (show ρ1 20 = Value.int _ _ from hR.1) (by omega) (by omega)) ?_
    refine dC (fun _ hj => hcs _) ?_
    refine fP ?_
    refine gB 1 ?_
    refine dB [_,_] ?_
    refine dC (fun _ hj => cQ true (sN (bN a / 2 ^ m)) _) ?_
    refine dD (i := 9) (eu _ 37 _) eu.ext (fun ρ1 w1 hj hR => ja aD.out hj.bl (fun v w2 h hb => ⟨hb, h⟩)) ?_
    refine bA ?_
    intro f W hJ hV
    have hb_4 := hJ.bl
    obtain ⟨v5, v26, v25, v24, v23, v22, v21, v20, v19, v18, _⟩ := hV
    obtain ⟨b5, e5, hl5, hc5⟩ : eu _ _ _ (f 9) W := v5
    replace hh := hJ.newVar hh hl5 hc5
    refine bf (bz (ae e5 (ae v26 (ae v25 (ae v24 (ae v23 (ae v22 (ae v21 (ae v20 (ae v19 (ae v18 bg))))))))))) ?_
    dsimp only [cH]
    clear e5 hJ
    rw [e3]
    refine bM hh 0 [_,_] ?_
    intro ws hh
    replace hh : Hp _ (.blk _ _ [_, _] _ :: _) _ := hh
    refine aa (ah (sr (bK ?_)))
    refine bL hh 2 ?_
    refine mB ?_
    first | refine gS ?_ | (refine gT ?_; refine bK ?_) | refine gV ?_
    first | refine gS ?_ | (refine gT ?_; refine bL hh 2 ?_) | refine gV ?_
    refine aZ rfl rfl ?_
    refine bF hh (iO a _ (by omega)) rfl ?_
    intro w32 hh
    first | refine gS ?_ | (refine gT ?_; refine bQ ?_) | refine gV ?_
    first | refine dh ?_ | refine de ?_
    refine mB ?_
    first | refine gS ?_ | (refine gT ?_; refine bK ?_) | refine gV ?_
    first | refine gS ?_ | (refine gT ?_; refine bL hh 2 ?_) | refine gV ?_
    refine aZ rfl rfl ?_
    refine bF hh (gR a _ (by omega) (hT.hp hh)) rfl ?_
    intro w38 hh
    first | refine gS ?_ | (refine gT ?_; refine mI ?_) | refine gV ?_
    first | refine gS ?_ | (refine gT ?_; refine k0 rfl (by omega) (by omega) (by decide) ?_) | refine gV ?_
    first | refine gS ?_ | (refine gT ?_; refine aJ ?_) | refine gV ?_
    first | refine dh ?_ | refine de ?_
    refine aa (cF (ak (ai (sr ?_))))
    refine cP hh 0 [_,_] ?_
    refine bM hh 1 [_,_] ?_
    intro ws hh
    replace hh : Hp _ (_ :: .blk _ _ [_, _] _ :: _) _ := hh
    refine aa (aq ?_)
    refine gG (aY rfl (aX (vs := [_, _]) aD.out (hh.ax (i := 1) (n := 2) rfl rfl) rfl) bC) ?_
    exact ⟨rfl, hh.below⟩
   ·have e3 : iv true (sN (bN a / 2 ^ m)) - 1 = iv true a / 2 ^ m := by
     rw [e4, e5]; exact qf _ _ hd
    have htz : tz (bN a) < m := Nat.lt_of_not_le fun h => hd ((wk hz).2 h)
    have hsz : (iM (iv true (sN (bN a / 2 ^ m)))).size ≤ 100000000 := by
     have := kq (bN a) m
     rw [dA, gL, ek]; omega
    have hsub : ∀ w1, Calls Tryz.prog 164 #[.agg #[.bool (iN (iv true (sN (bN a / 2 ^ m)))), .string (iM (iv true (sN (bN a / 2 ^ m))))], .agg #[.bool (iN 1), .string (iM 1)]] w1 fun e w' => e = .returned (.agg #[.bool (iN (iv true a / 2 ^ m)), .string (iM (iv true a / 2 ^ m))]) ∧ Below w1.heap.size w1 w' := fun w1 => by
     have := sO (iN (iv true (sN (bN a / 2 ^ m)))) (iN 1) (iM (iv true (sN (bN a / 2 ^ m)))) (iM 1) w1 hsz (by rw [dA, Int.natAbs_one, nB]; omega)
     rw [eU, eU, e3] at this
     exact this
    refine al (N := 47) (l := [.agg #[.bool true, .string a], .int .i64 (-(m : Int))]) Tryz.func126 rfl rfl (by simp) ?_
    refine sr ?_
    refine dw hh [_,_] ?_
    intro b2 w2 hh
    refine cu hh ?_
    intro b4 w4 hh
    refine aa (ah (sr (mI ?_)))
    refine dz (aa (cF (ak (ai (sr (mI ?_))))))
    refine iV rfl rfl (by decide) ?_
    refine aI (aa (ah ?_))
    rw [e1]
    refine a6 10 [[(2, none)], [(18, some 0)], [(1, none)], [(20, some 2)], [(19, some 1), (21, some 3)], [(2, none)], [(23, some 5)], [(22, some 4), (24, some 6)], [(25, some 7)], []] [(9, 5), (8, 26), (7, 25), (6, 24), (5, 23), (4, 22), (3, 21), (2, 20), (1, 19), (0, 18)] hh mixed (by kernel_rfl) ?_
    refine fP ?_
    refine gB 1 ?_
    refine eM ?_
    refine bh (i := 3) (fun ρ1 w1 hj hR => nw (show ρ1 20 = Value.int _ _ from hR.1) (by omega) (by omega)) ?_
    refine dC (fun _ hj => hcs _) ?_
    refine fP ?_
    refine gB 1 ?_
    refine dB [_,_] ?_
    refine dC (fun _ hj => cQ true (sN (bN a / 2 ^ m)) _) ?_
    refine dD (i := 9) (eu _ 37 _) eu.ext (fun ρ1 w1 hj hR => ja aD.out hj.bl (fun v w2 h hb => ⟨hb, h⟩)) ?_
    refine bA ?_
    intro f W hJ hV
    have hb_4 := hJ.bl
    obtain ⟨v5, v26, v25, v24, v23, v22, v21, v20, v19, v18, _⟩ := hV
    obtain ⟨b5, e5, hl5, hc5⟩ : eu _ _ _ (f 9) W := v5
    replace hh := hJ.newVar hh hl5 hc5
    refine bf (bz (ae e5 (ae v26 (ae v25 (ae v24 (ae v23 (ae v22 (ae v21 (ae v20 (ae v19 (ae v18 bg))))))))))) ?_
    dsimp only [cH]
    clear e5 hJ
    refine bM hh 0 [_,_] ?_
    intro ws hh
    replace hh : Hp _ (.blk _ _ [_, _] _ :: _) _ := hh
    refine aa (ah (sr (bK ?_)))
    refine bL hh 2 ?_
    refine mB ?_
    first | refine gS ?_ | (refine gT ?_; refine bK ?_) | refine gV ?_
    first | refine gS ?_ | (refine gT ?_; refine bL hh 2 ?_) | refine gV ?_
    refine aZ rfl rfl ?_
    refine bF hh (iO a _ (by omega)) rfl ?_
    intro w32 hh
    first | refine gS ?_ | (refine gT ?_; refine bQ ?_) | refine gV ?_
    first | refine dh ?_ | refine de ?_
    refine mB ?_
    first | refine gS ?_ | (refine gT ?_; refine bK ?_) | refine gV ?_
    first | refine gS ?_ | (refine gT ?_; refine bL hh 2 ?_) | refine gV ?_
    refine aZ rfl rfl ?_
    refine bF hh (gR a _ (by omega) (hT.hp hh)) rfl ?_
    intro w38 hh
    first | refine gS ?_ | (refine gT ?_; refine mI ?_) | refine gV ?_
    first | refine gS ?_ | (refine gT ?_; refine k0 rfl (by omega) (by omega) (by decide) ?_) | refine gV ?_
    first | refine gS ?_ | (refine gT ?_; refine aJ ?_) | refine gV ?_
    first | refine dh ?_ | refine de ?_
    refine aa (cT (ah ?_))
    refine a6 2 [[(5, none)], []] [(1, 44), (0, 43)] hh mixed (by kernel_rfl) ?_
    refine gh 0 [_,_] ?_
    refine dC (fun _ hj => jE 1 _ (by omega) (by omega)) ?_
    refine bA ?_
    intro f W hJ hV
    have hb_6 := hJ.bl
    obtain ⟨v44, v43, _⟩ := hV
    replace hh := hJ.hp
    refine bf (bz (ae v44 (ae v43 bg))) ?_
    dsimp only [cH]
    clear hJ
    refine bF hh (hsub _) rfl ?_
    intro w45 hh
    refine bM hh 1 [_,_] ?_
    intro ws hh
    replace hh : Hp _ (_ :: .blk _ _ [_, _] _ :: _) _ := hh
    refine aa (aq (aM ?_))
    refine gG (aY rfl (aX (vs := [_, _]) aD.out (hh.ax (i := 1) (n := 2) rfl rfl) rfl) bC) ?_
    exact ⟨rfl, hh.below⟩
end Go.Proofs.YtioilmppidlbnaaGreatDoor
namespace Go.Proofs.YtioilmppidlbnaaGreatDoor
open Go.RowKit
theorem y8 : (2 : Rat) ≠ 0 := by decide
theorem two_pos (k : Int) : (0 : Rat) < 2 ^ k := Rat.zpow_pos (by decide)
theorem g6 (i p : Int) : (Dyadic.ofIntWithPrec i p).toRat = i * 2 ^ (-p) := Dyadic.toRat_ofIntWithPrec_eq_mul_two_pow
theorem lz (i p : Int) (n : Nat) : Dyadic.ofIntWithPrec (i * 2 ^ n) (p + n) = Dyadic.ofIntWithPrec i p := by
 rw [← Int.shiftLeft_eq]; exact Dyadic.ofIntWithPrec_shiftLeft_add
theorem iJ (i : Int) {p q : Int} {n : Nat} (h : q = p + n) : Dyadic.ofIntWithPrec i p = Dyadic.ofIntWithPrec (i * 2 ^ n) q := by
 subst h; exact (lz i p n).symm
theorem pO (i j p : Int) : Dyadic.ofIntWithPrec i p + Dyadic.ofIntWithPrec j p = Dyadic.ofIntWithPrec (i + j) p := by
 rw [← Dyadic.toRat_inj, Dyadic.toRat_add, g6, g6, g6, Rat.intCast_add, Rat.add_mul]
theorem ub (i p : Int) : -Dyadic.ofIntWithPrec i p = Dyadic.ofIntWithPrec (-i) p := Dyadic.neg_ofIntWithPrec
theorem pb (i j p q : Int) : Dyadic.ofIntWithPrec i p * Dyadic.ofIntWithPrec j q = Dyadic.ofIntWithPrec (i * j) (p + q) := by
 rw [← Dyadic.toRat_inj, Dyadic.toRat_mul, g6, g6, g6, Rat.intCast_mul, Int.neg_add, Rat.zpow_add y8]
 grind
theorem zh (i j p : Int) : Dyadic.ofIntWithPrec i p < Dyadic.ofIntWithPrec j p ↔ i < j := by
 rw [← Dyadic.toRat_lt_toRat_iff, g6, g6]
 rw [← Rat.intCast_lt_intCast]
 constructor
 ·intro h
  exact Rat.lt_of_mul_lt_mul_right h (Rat.le_of_lt (two_pos _))
 ·intro h
  exact Rat.mul_lt_mul_of_pos_right h (two_pos _)
theorem ir (p : Int) : Dyadic.ofIntWithPrec 0 p = 0 := rfl
theorem tu (n k : Int) (h : n % 2 = 1) : Dyadic.ofOdd n k h = Dyadic.ofIntWithPrec n k := Dyadic.ofOdd_eq_ofIntWithPrec
theorem px {i p : Int} (h : i ≠ 0) : Dyadic.ofIntWithPrec i p = .ofOdd (i >>> i.trailingZeros) (p - i.trailingZeros) (Int.shiftRight_trailingZeros_mod_two h) := by
 rw [Dyadic.ofIntWithPrec, dif_neg h]
structure NR where
 neg : Bool
 bP : ByteArray
 e : Int
def NR.cells (a : NR) : List Value := [.bool a.neg, .string a.bP, .int .i64 a.e]
theorem NR.len (a : NR) : a.cells.length = 3 := rfl
theorem NR.one (a : NR) : a.cells.all Value.oneCell' = true := rfl
def NR.i (a : NR) : Int := iv a.neg a.bP
def NR.d (a : NR) : Dyadic := Dyadic.ofIntWithPrec a.i (-a.e)
def nR : Dyadic → NR
 | .zero => ⟨false, ByteArray.mk #[], 0⟩
 | .ofOdd n k _ => ⟨iN n, iM n, -k⟩
theorem jG : nR 0 = ⟨false, ByteArray.mk #[], 0⟩ := rfl
theorem eR (x : Dyadic) : (nR x).d = x := by
 cases x with
 | zero => rfl
 | ofOdd n k h =>
  simp only [nR, NR.d, NR.i, eU, Int.neg_neg]
  exact (tu n k h).symm
theorem zC {x y : Dyadic} : nR x = nR y ↔ x = y := ⟨fun h => by rw [← eR x, h, eR], fun h => by rw [h]⟩
theorem Aj (s : Bool) (a : ByteArray) : (iv s a).trailingZeros = tz (bN a) := by
 unfold iv
 split
 ·rw [Int.trailingZeros_neg]; rfl
 ·rfl
theorem uz (s : Bool) (a : ByteArray) : iv s a = 0 ↔ bN a = 0 := by
 have := gL s a
 omega
theorem lg {s : Bool} {a : ByteArray} {e : Int} (h : iv s a ≠ 0) : nR (Dyadic.ofIntWithPrec (iv s a) (-e)) = ⟨iN (iv s a / 2 ^ tz (bN a)), iM (iv s a / 2 ^ tz (bN a)), e + tz (bN a)⟩ := by
 rw [px h, nR, Int.shiftRight_eq_div_pow, Aj]
 have e1 : -(-e - (tz (bN a) : Int)) = e + tz (bN a) := by omega
 rw [e1, Int.natCast_pow]
 rfl
def Sz (k : Nat) (x : Dyadic) : Prop := ∃ i : Int, x = Dyadic.ofIntWithPrec i k ∧ i.natAbs < 2 ^ (2 * k)
theorem Sz.zero (k : Nat) : Sz k 0 := ⟨0, rfl, by simpa using Nat.pow_pos (by omega)⟩
theorem Sz.mono {k l : Nat} {x : Dyadic} (h : Sz k x) (hl : k ≤ l) : Sz l x := by
 obtain ⟨i, rfl, hi⟩ := h
 refine ⟨i * 2 ^ (l - k), iJ i (by omega), ?_⟩
 rw [Int.natAbs_mul, Int.natAbs_pow]
 have h1 : i.natAbs * 2 ^ (l - k) < 2 ^ (2 * k) * 2 ^ (l - k) := Nat.mul_lt_mul_of_pos_right hi (Nat.pow_pos (by omega))
 rw [← Nat.pow_add] at h1
 exact Nat.lt_of_lt_of_le h1 (Nat.pow_le_pow_right (by omega) (by omega))
theorem Sz.neg {k : Nat} {x : Dyadic} (h : Sz k x) : Sz k (-x) := by
 obtain ⟨i, rfl, hi⟩ := h
 exact ⟨-i, ub _ _, by rw [Int.natAbs_neg]; exact hi⟩
theorem Sz.add {k : Nat} {x y : Dyadic} (hx : Sz k x) (hy : Sz k y) : Sz (k + 1) (x + y) := by
 obtain ⟨i, rfl, hi⟩ := hx
 obtain ⟨j, rfl, hj⟩ := hy
 rw [pO]
 refine ⟨(i + j) * 2 ^ 1, iJ _ (by omega), ?_⟩
 have h1 : 2 ^ (2 * (k + 1)) = 4 * 2 ^ (2 * k) := by rw [show 2 * (k + 1) = 2 * k + 2 by omega, Nat.pow_add]; omega
 rw [h1]
 omega
theorem Sz.sub {k : Nat} {x y : Dyadic} (hx : Sz k x) (hy : Sz k y) : Sz (k + 1) (x - y) := hx.add hy.neg
theorem Sz.mul {k l : Nat} {x y : Dyadic} (hx : Sz k x) (hy : Sz l y) : Sz (k + l) (x * y) := by
 obtain ⟨i, rfl, hi⟩ := hx
 obtain ⟨j, rfl, hj⟩ := hy
 rw [pb]
 refine ⟨i * j, by rw [Int.natCast_add], ?_⟩
 rw [Int.natAbs_mul, Nat.mul_add, Nat.pow_add]
 exact Nat.mul_lt_mul'' hi hj
theorem iz {i : Int} (h : i ≠ 0) : 2 ^ i.trailingZeros ≤ i.natAbs := by
 have h1 := Int.two_pow_trailingZeros_dvd h
 have h2 := Int.natAbs_dvd_natAbs.2 h1
 rw [Int.natAbs_pow] at h2
 exact Nat.le_of_dvd (by omega) h2
theorem Sz.nr {k : Nat} {x : Dyadic} (h : Sz k x) : (nR x).bP.size ≤ (2 * k + 7) / 8 ∧ -(k : Int) ≤ (nR x).e ∧ (nR x).e ≤ k := by
 obtain ⟨i, rfl, hi⟩ := h
 by_cases h0 : i = 0
 ·subst h0
  rw [ir, jG]
  exact ⟨Nat.zero_le _, (by omega : -(k : Int) ≤ 0), (by omega : (0 : Int) ≤ k)⟩
 ·have h2 := iz h0
  rw [px h0, nR]
  simp only
  refine ⟨?_, by omega, ?_⟩
  ·rw [dA]
   have : bD (i >>> i.trailingZeros).natAbs ≤ 2 * k := by
    apply cU
    refine Nat.lt_of_le_of_lt ?_ hi
    rw [Int.shiftRight_eq_div_pow]
    exact Int.natAbs_ediv_le_natAbs _ _
   omega
  ·have h3 : 2 ^ i.trailingZeros < 2 ^ (2 * k) := Nat.lt_of_le_of_lt h2 hi
   have := (Nat.pow_lt_pow_iff_right (by omega)).1 h3
   omega
theorem Sz.raw {a : NR} {m E : Nat} (hm : 8 * a.bP.size ≤ m) (h1 : -(E : Int) ≤ a.e) (h2 : a.e ≤ E) : Sz (m + E) a.d := by
 refine ⟨a.i * 2 ^ (a.e + m + E).toNat, iJ _ (by omega), ?_⟩
 have h3 : a.i.natAbs < 2 ^ m := by
  rw [NR.i, gL]
  refine Nat.lt_of_lt_of_le (cG _) (Nat.pow_le_pow_right (by omega) ?_)
  have := fi a.bP
  omega
 rw [Int.natAbs_mul, Int.natAbs_pow]
 have h4 := Nat.mul_lt_mul_of_pos_right h3 (Nat.pow_pos (n := (a.e + m + E).toNat) (show 0 < 2 by omega))
 rw [← Nat.pow_add] at h4
 exact Nat.lt_of_lt_of_le h4 (Nat.pow_le_pow_right (by omega) (by omega))
def ud (i n : Int) : Int := if 0 ≤ n then i * 2 ^ n.toNat else i / 2 ^ (-n).toNat
theorem vr (n : Int) : ud 0 n = 0 := by unfold ud; split <;> simp
def cB : Dyadic → Int → Int
 | .zero, _ => 0
 | .ofOdd n k _, p => ud n (p - k)
def cV : Dyadic → Dyadic → Int
 | .zero, .zero => 0
 | .zero, .ofOdd _ k _ => k
 | .ofOdd _ k _, .zero => k
 | .ofOdd _ k _, .ofOdd _ l _ => max k l
theorem jy (n k p : Int) (h : n % 2 = 1) (hp : k ≤ p) : Dyadic.ofIntWithPrec (cB (.ofOdd n k h) p) p = .ofOdd n k h := by
 simp only [cB]
 rw [tu, ud, if_pos (by omega)]
 exact (iJ n (by omega)).symm
theorem AD (x y : Dyadic) : Dyadic.ofIntWithPrec (cB x (cV x y)) (cV x y) = x := by
 cases x with
 | zero => rfl
 | ofOdd n k h =>
  cases y with
  | zero => exact jy _ _ _ _ (Int.le_refl _)
  | ofOdd m l g => exact jy _ _ _ _ (Int.le_max_left _ _)
theorem z8 (x y : Dyadic) : Dyadic.ofIntWithPrec (cB y (cV x y)) (cV x y) = y := by
 cases y with
 | zero => rfl
 | ofOdd n k h =>
  cases x with
  | zero => exact jy _ _ _ _ (Int.le_refl _)
  | ofOdd m l g => exact jy _ _ _ _ (Int.le_max_right _ _)
theorem x3 (x y : Dyadic) : Dyadic.ofIntWithPrec (cB x (cV x y) + cB y (cV x y)) (cV x y) = x + y := by
 rw [← pO, AD, z8]
theorem vP (i n : Int) : bD (ud i n).natAbs ≤ bD i.natAbs + n.toNat := by
 unfold ud
 split
 ·rw [Int.natAbs_mul, Int.natAbs_pow]
  exact kO _ _
 ·have : bD (i / 2 ^ (-n).toNat).natAbs ≤ bD i.natAbs := cU (Nat.lt_of_le_of_lt (Int.natAbs_ediv_le_natAbs _ _) (cG _))
  omega
theorem uy (x y : Dyadic) (E : Int) (h1 : -E ≤ (nR x).e ∧ (nR x).e ≤ E) (h2 : -E ≤ (nR y).e ∧ (nR y).e ≤ E) : -E ≤ cV x y ∧ cV x y ≤ E := by
 cases x <;> cases y <;> simp only [nR, cV] at * <;> omega
theorem nI (x : Dyadic) (p : Int) : bD (cB x p).natAbs ≤ 8 * (nR x).bP.size + (p + (nR x).e).toNat := by
 cases x with
 | zero => simp [cB, il]
 | ofOdd n k h =>
  have h1 := vP n (p - k)
  have h2 := fi (iM n)
  rw [iM, ek] at h2
  simp only [cB, nR]
  rw [show p + -k = p - k by omega]
  rw [← iM] at h2
  omega
end Go.Proofs.YtioilmppidlbnaaGreatDoor
/- Several texts in one: Dyad, DyadB, DyadC, CmpD. -/
namespace Go.Proofs.YtioilmppidlbnaaGreatDoor
open Go.RowKit
variable {ro : Mode}
theorem vV {P : Program} {t : TypeId} {n by' : Nat} {zc : List Value} {cs : Array Value} {off : Nat} {v : Value} (ht : dH P t = some (n, false, by', zc)) (hv : cs[off]? = some v) (w : World) : (part t cs off).run P w = .ok v w := by
 simp [part, gK ht, hv]
theorem Af {P : Program} {t : TypeId} {n by' : Nat} {zc : List Value} {cs vs : Array Value} {off : Nat} (ht : dH P t = some (n, true, by', zc)) (hv : cs.extract off (off + n) = vs) (w : World) : (part t cs off).run P w = .ok (.agg vs) w := by
 simp [part, gK ht, ef ht, hv]
theorem AU (n : Nat) (a b : Bool) (w : World) : (Op.equalIn (n + 1) 4 (.bool a) (.bool b)).run Tryz.prog w = .ok (a == b) w := by
 simp [Op.equalIn, run_underlying Tryz.underlying4]
theorem AP (n : Nat) (a b : ByteArray) (w : World) : (Op.equalIn (n + 1) 9 (.string a) (.string b)).run Tryz.prog w = .ok (a == b) w := by
 simp [Op.equalIn, run_underlying Tryz.underlying9]
theorem AV (n : Nat) (a b : Int) (w : World) : (Op.equalIn (n + 1) 3 (.int .i64 a) (.int .i64 b)).run Tryz.prog w = .ok (a == b) w := by
 simp [Op.equalIn, run_underlying Tryz.underlying3]
theorem eq_int (n : Nat) (s s' : Bool) (a a' : ByteArray) (w : World) : (Op.equalIn (n + 2) 37 (.agg #[.bool s, .string a]) (.agg #[.bool s', .string a'])).run Tryz.prog w = .ok (s == s' && a == a') w := by
 have h1 := fun (x : Bool) (y : ByteArray) => vV (P := Tryz.prog) (cs := #[.bool x, .string y]) (off := 0) (aD.out (P := Tryz.prog) (t := 4)) rfl
 have h2 := fun (x : Bool) (y : ByteArray) => vV (P := Tryz.prog) (cs := #[.bool x, .string y]) (off := 1) (aD.out (P := Tryz.prog) (t := 9)) rfl
 rw [Op.equalIn]
 simp [run_underlying Tryz.underlying37, h1, h2, AU, AP]
 cases h : s == s' <;> cases h' : a == a' <;> simp_all
theorem vO (n : Nat) (s s' : Bool) (a a' : ByteArray) (e e' : Int) (w : World) : (Op.equalIn (n + 3) 39 (.agg #[.bool s, .string a, .int .i64 e]) (.agg #[.bool s', .string a', .int .i64 e'])).run Tryz.prog w = .ok ((s == s' && a == a') && e == e') w := by
 have h1 := fun (x : Bool) (y : ByteArray) (z : Int) => Af (P := Tryz.prog) (cs := #[.bool x, .string y, .int .i64 z]) (vs := #[.bool x, .string y]) (off := 0) (aD.out (P := Tryz.prog) (t := 37)) rfl
 have h2 := fun (x : Bool) (y : ByteArray) (z : Int) => vV (P := Tryz.prog) (cs := #[.bool x, .string y, .int .i64 z]) (off := 2) (aD.out (P := Tryz.prog) (t := 3)) rfl
 rw [Op.equalIn]
 simp [run_underlying Tryz.underlying39, h1, h2, eq_int, AV]
 cases h : s == s' <;> cases h' : a == a' <;> cases h2 : e == e' <;> simp_all
section
variable {ρ : Rf} {w : World} {d : Option Nat} {ty u : TypeId} {pos : String} {af : Array Edge} {g : Option (Nat × Bool)} {x y : Operand} {s s' : Bool} {a a' : ByteArray} {e e' : Int}
theorem zW {a b : ByteArray} : (a == b) = true ↔ a = b := by
 have : (a == b) = (a.data == b.data) := rfl
 rw [this, beq_iff_eq]
 exact ⟨fun h => by cases a; cases b; simp_all, fun h => by rw [h]⟩
theorem km : ((s == s' && a == a') && e == e') = true ↔ NR.mk s a e = NR.mk s' a' e' := by
 rw [Bool.and_eq_true, Bool.and_eq_true, beq_iff_eq, zW, beq_iff_eq, NR.mk.injEq, and_assoc]
theorem yQ {r : Bool} (hx : ev ρ x = .agg #[.bool s, .string a, .int .i64 e]) (hy : ev ρ y = .agg #[.bool s', .string a', .int .i64 e']) (hr : ((s == s' && a == a') && e == e') = r) :
  (execOp (ev ρ) ⟨d, .binOp .eql 39 x y u, ty, pos, af, g⟩).run Tryz.prog w = .ok (.value (.bool r)) w := by
 have h1 : (Op.equal 39 (.agg #[.bool s, .string a, .int .i64 e]) (.agg #[.bool s', .string a', .int .i64 e'])).run Tryz.prog w = .ok r w := by rw [← hr]; exact vO 9997 s s' a a' e e' w
 simp only [execOp, hx, hy]
 simp [eqGuard, binOp, h1]
theorem yP {r : Bool} (hx : ev ρ x = .agg #[.bool s, .string a, .int .i64 e]) (hy : ev ρ y = .agg #[.bool s', .string a', .int .i64 e']) (hr : ((s == s' && a == a') && e == e') = r) :
  (execOp (ev ρ) ⟨d, .binOp .neq 39 x y u, ty, pos, af, g⟩).run Tryz.prog w = .ok (.value (.bool !r)) w := by
 have h1 : (Op.equal 39 (.agg #[.bool s, .string a, .int .i64 e]) (.agg #[.bool s', .string a', .int .i64 e'])).run Tryz.prog w = .ok r w := by rw [← hr]; exact vO 9997 s s' a a' e e' w
 simp only [execOp, hx, hy]
 simp [eqGuard, binOp, h1]
theorem xV (hx : ev ρ x = .agg #[.bool s, .string a, .int .i64 e]) (hy : ev ρ y = .agg #[.bool s', .string a', .int .i64 e']) (h : NR.mk s a e = NR.mk s' a' e') :
  (execOp (ev ρ) ⟨d, .binOp .eql 39 x y u, ty, pos, af, g⟩).run Tryz.prog w = .ok (.value (.bool true)) w := yQ hx hy (km.2 h)
theorem yn (hx : ev ρ x = .agg #[.bool s, .string a, .int .i64 e]) (hy : ev ρ y = .agg #[.bool s', .string a', .int .i64 e']) (h : ¬ NR.mk s a e = NR.mk s' a' e') :
  (execOp (ev ρ) ⟨d, .binOp .eql 39 x y u, ty, pos, af, g⟩).run Tryz.prog w = .ok (.value (.bool false)) w := yQ hx hy (by rw [Bool.eq_false_iff]; exact fun h1 => h (km.1 h1))
theorem pE (hx : ev ρ x = .agg #[.bool s, .string a, .int .i64 e]) (hy : ev ρ y = .agg #[.bool s', .string a', .int .i64 e']) (h : NR.mk s a e = NR.mk s' a' e') :
  (execOp (ev ρ) ⟨d, .binOp .neq 39 x y u, ty, pos, af, g⟩).run Tryz.prog w = .ok (.value (.bool false)) w := yP hx hy (km.2 h)
theorem pB (hx : ev ρ x = .agg #[.bool s, .string a, .int .i64 e]) (hy : ev ρ y = .agg #[.bool s', .string a', .int .i64 e']) (h : ¬ NR.mk s a e = NR.mk s' a' e') :
  (execOp (ev ρ) ⟨d, .binOp .neq 39 x y u, ty, pos, af, g⟩).run Tryz.prog w = .ok (.value (.bool true)) w := yP hx hy (r := false) (by rw [Bool.eq_false_iff]; exact fun h1 => h (km.1 h1))
end
section
variable {N : Nat} {ops : Array Oper} {Q : Kq} {ρ : Rf} {w : World} {rest : List Oper} {d : Nat} {ty u : TypeId} {pos : String} {af : Array Edge} {x y : Operand} {s s' : Bool} {a a' : ByteArray} {e e' : Int}
theorem iT (hx : ev ρ x = .agg #[.bool s, .string a, .int .i64 e]) (hy : ev ρ y = .agg #[.bool s', .string a', .int .i64 e']) (h : NR.mk s a e = NR.mk s' a' e') (hN : d < N) (kk : WL ro Tryz.prog N ops Q rest (cq ρ d (.bool true)) w) :
  WL ro Tryz.prog N ops Q (⟨some d, .binOp .eql 39 x y u, ty, pos, af, none⟩ :: rest) ρ w := a8 rfl rfl hN (xV hx hy h) kk
theorem iS (hx : ev ρ x = .agg #[.bool s, .string a, .int .i64 e]) (hy : ev ρ y = .agg #[.bool s', .string a', .int .i64 e']) (h : ¬ NR.mk s a e = NR.mk s' a' e') (hN : d < N) (kk : WL ro Tryz.prog N ops Q rest (cq ρ d (.bool false)) w) :
  WL ro Tryz.prog N ops Q (⟨some d, .binOp .eql 39 x y u, ty, pos, af, none⟩ :: rest) ρ w := a8 rfl rfl hN (yn hx hy h) kk
theorem l5 (hx : ev ρ x = .agg #[.bool s, .string a, .int .i64 e]) (hy : ev ρ y = .agg #[.bool s', .string a', .int .i64 e']) (h : ¬ NR.mk s a e = NR.mk s' a' e') (hN : d < N) (kk : WL ro Tryz.prog N ops Q rest (cq ρ d (.bool true)) w) :
  WL ro Tryz.prog N ops Q (⟨some d, .binOp .neq 39 x y u, ty, pos, af, none⟩ :: rest) ρ w := a8 rfl rfl hN (pB hx hy h) kk
theorem mc (hx : ev ρ x = .agg #[.bool s, .string a, .int .i64 e]) (hy : ev ρ y = .agg #[.bool s', .string a', .int .i64 e']) (h : NR.mk s a e = NR.mk s' a' e') (hN : d < N) (kk : WL ro Tryz.prog N ops Q rest (cq ρ d (.bool false)) w) :
  WL ro Tryz.prog N ops Q (⟨some d, .binOp .neq 39 x y u, ty, pos, af, none⟩ :: rest) ρ w := a8 rfl rfl hN (pE hx hy h) kk
end
theorem kK (s : Bool) (a : ByteArray) (n : Int) (w : World) (hT : fQ w) (ha : a.size ≤ 100000000) (h1 : -1000000000 ≤ n) (h2 : n ≤ 1000000000) :
  Calls Tryz.prog 126 #[.agg #[.bool s, .string a], .int .i64 n] w fun e w' => e = .returned (.agg #[.bool (iN (ud (iv s a) n)), .string (iM (ud (iv s a) n))]) ∧ Below w.heap.size w w' := by
 unfold ud
 by_cases h : 0 ≤ n
 ·rw [if_pos h]
  obtain ⟨m, rfl⟩ := Int.eq_ofNat_of_zero_le h
  rw [Int.toNat_natCast]
  exact sx s a m w ha (by omega)
 ·rw [if_neg h]
  obtain ⟨m, hm⟩ := Int.eq_ofNat_of_zero_le (show 0 ≤ -n by omega)
  rw [hm, Int.toNat_natCast, show n = -(m : Int) by omega]
  exact tg s a m w hT ha (by omega) (by omega)
theorem fy (s : Bool) (a : ByteArray) (e : Int) (w : World) (hT : fQ w) (ha : a.size ≤ 100000000) (h1 : -1000000000000 ≤ e) (h2 : e ≤ 1000000000000) :
  Calls Tryz.prog 72 #[.agg #[.bool s, .string a], .int .i64 e] w fun r w' => r = .returned (.agg #[.bool (nR (Dyadic.ofIntWithPrec (iv s a) (-e))).neg, .string (nR (Dyadic.ofIntWithPrec (iv s a) (-e))).bP, .int .i64 (nR (Dyadic.ofIntWithPrec (iv s a) (-e))).e]) ∧ Below w.heap.size w w' := by
 have hh := Hp.start w
 by_cases h0 : iv s a = 0
 ·rw [h0, ir, jG]
  refine al (N := 21) (l := [.agg #[.bool s, .string a], .int .i64 e]) Tryz.func72 rfl rfl (by simp) ?_
  refine sr ?_
  refine dw hh [_,_] ?_
  intro b2 w2 hh
  refine cu hh ?_
  intro b4 w4 hh
  refine aa (ah (sr ?_))
  refine cP hh 1 [_,_] ?_
  refine bF hh (jl s a _) rfl ?_
  intro w7 hh
  rw [h0]
  refine dN (aa (cT (sr ?_)))
  refine gb [_,_,_] ?_
  refine bM hh 0 [_,_,_] ?_
  intro ws hh
  replace hh : Hp _ (.blk _ _ [_, _, _] _ :: _) _ := hh
  refine aa (aq (aM ?_))
  refine gG (aY rfl (aX (vs := [_, _, _]) aD.out (hh.ax (i := 0) (n := 3) rfl rfl) rfl) bC) ?_
  exact ⟨rfl, hh.below⟩
 ·have hs : (iv s a).sign ≠ 0 := by rw [ne_eq, Int.sign_eq_zero_iff_zero]; exact h0
  rw [lg h0]
  have hz : bN a ≠ 0 := fun h => h0 ((uz s a).2 h)
  have htz : tz (bN a) < 8 * a.size + 1 := by
   have := oq a
   rw [show (256 : Nat) = 2 ^ 8 from rfl, ← Nat.pow_mul] at this
   have := oe hz this
   omega
  have hsh : ud (iv s a) (-(tz (bN a) : Int)) = iv s a / 2 ^ tz (bN a) := by
   unfold ud
   split
   ·have : tz (bN a) = 0 := by omega
    rw [this]; simp
   ·rw [Int.neg_neg, Int.toNat_natCast]
  refine al (N := 21) (l := [.agg #[.bool s, .string a], .int .i64 e]) Tryz.func72 rfl rfl (by simp) ?_
  refine sr ?_
  refine dw hh [_,_] ?_
  intro b2 w2 hh
  refine cu hh ?_
  intro b4 w4 hh
  refine aa (ah (sr ?_))
  refine cP hh 1 [_,_] ?_
  refine bF hh (jl s a _) rfl ?_
  intro w7 hh
  refine dN (aa (cF (ak (ai (sr (bK ?_))))))
  refine bL hh 1 ?_
  refine bF hh (gR a _ (by omega) (hT.hp hh)) rfl ?_
  intro w12 hh
  refine aI (aa (sr ?_))
  refine cP hh 1 [_,_] (mI ?_)
  refine k0 rfl (by omega) (by omega) (by decide) ?_
  refine bF hh (kK s a (-(tz (bN a) : Int)) _ (hT.hp hh) ha (by omega) (by omega)) rfl ?_
  intro w16 hh
  rw [hsh]
  refine mI (mI ?_)
  refine bx ?_
  refine gb [_,_,_] ?_
  refine bM hh 0 [_,_,_] ?_
  intro ws hh
  replace hh : Hp _ (.blk _ _ [_, _, _] _ :: _) _ := hh
  refine aa (aq ?_)
  refine gG (aY rfl (aX (vs := [_, _, _]) aD.out (hh.ax (i := 0) (n := 3) rfl rfl) rfl) bC) ?_
  exact ⟨rfl, hh.below⟩
def NR.ok (a : NR) : Prop := a.bP.size ≤ 1000000 ∧ -10000000 ≤ a.e ∧ a.e ≤ 10000000
theorem Sz.ok {k : Nat} {x : Dyadic} (h : Sz k x) (hk : k ≤ 3999990) : (nR x).ok := by
 have := h.nr
 refine ⟨by omega, by omega, by omega⟩
theorem gH (n : Int) (w : World) (hT : fQ w) (h1 : -9223372036854775808 ≤ n) (h2 : n ≤ 9223372036854775807) :
  Calls Tryz.prog 47 #[.int .i64 n] w fun r w' => r = .returned (.agg #[.bool (nR (n : Dyadic)).neg, .string (nR (n : Dyadic)).bP, .int .i64 (nR (n : Dyadic)).e]) ∧ Below w.heap.size w w' := by
 have hh := Hp.start w
 have hsz : (iM n).size ≤ 100000000 := by
  rw [dA]
  have : bD n.natAbs ≤ 64 := cU (by omega)
  omega
 have hc : ∀ w1, fQ w1 → Calls Tryz.prog 72 #[.agg #[.bool (iN n), .string (iM n)], .int .i64 0] w1 fun r w' => r = .returned (.agg #[.bool (nR (n : Dyadic)).neg, .string (nR (n : Dyadic)).bP, .int .i64 (nR (n : Dyadic)).e]) ∧ Below w1.heap.size w1 w' := fun w1 hT1 => by
  have := fy (iN n) (iM n) 0 w1 hT1 hsz (by omega) (by omega)
  rw [eU] at this
  exact this
 refine al (N := 6) (l := [.int .i64 n]) Tryz.func47 rfl rfl (by simp) ?_
 refine sr ?_
 refine cu hh ?_
 intro b2 w2 hh
 refine aa (sr (mI ?_))
 refine bF hh (jE n _ h1 h2) rfl ?_
 intro w4 hh
 refine bF hh (hc _ (hT.hp hh)) rfl ?_
 intro w5 hh
 refine bM hh 0 [_,_,_] ?_
 intro ws hh
 replace hh : Hp _ (.blk _ _ [_, _, _] _ :: _) _ := hh
 refine aa (aq ?_)
 refine gG (aY rfl (aX (vs := [_, _, _]) aD.out (hh.ax (i := 0) (n := 3) rfl rfl) rfl) bC) ?_
 exact ⟨rfl, hh.below⟩
theorem eo (a : NR) (w : World) (hT : fQ w) (ha : a.bP.size ≤ 100000000) (h1 : -1000000000000 ≤ a.e) (h2 : a.e ≤ 1000000000000) :
  Calls Tryz.prog 117 #[.agg #[.bool a.neg, .string a.bP, .int .i64 a.e]] w fun r w' => r = .returned (.agg #[.bool (nR a.d).neg, .string (nR a.d).bP, .int .i64 (nR a.d).e]) ∧ Below w.heap.size w w' := by
 have hh := Hp.start w
 refine al (N := 8) (l := [.agg #[.bool a.neg, .string a.bP, .int .i64 a.e]]) Tryz.func117 rfl rfl (by simp) ?_
 refine sr ?_
 refine dw hh [_,_,_] ?_
 intro b1 w1 hh
 refine cu hh ?_
 intro b2 w2 hh
 refine aa (sr (bK ?_))
 refine cP hh 1 [_,_] (bK ?_)
 refine bL hh 1 ?_
 refine bF hh (fy a.neg a.bP a.e _ (hT.hp hh) ha h1 h2) rfl ?_
 intro w7 hh
 refine bM hh 0 [_,_,_] ?_
 intro ws hh
 replace hh : Hp _ (.blk _ _ [_, _, _] _ :: _) _ := hh
 refine aa (aq ?_)
 refine gG (aY rfl (aX (vs := [_, _, _]) aD.out (hh.ax (i := 0) (n := 3) rfl rfl) rfl) bC) ?_
 exact ⟨rfl, hh.below⟩
theorem rG (a : NR) (w : World) :
  Calls Tryz.prog 109 #[.agg #[.bool a.neg, .string a.bP, .int .i64 a.e]] w fun r w' => r = .returned (.int .i64 a.i.sign) ∧ Below w.heap.size w w' := by
 have hh := Hp.start w
 refine al (N := 6) (l := [.agg #[.bool a.neg, .string a.bP, .int .i64 a.e]]) Tryz.func109 rfl rfl (by simp) ?_
 refine sr ?_
 refine dw hh [_,_,_] ?_
 intro b1 w1 hh
 refine aI (aa (sr (bK ?_)))
 refine cP hh 0 [_,_] ?_
 refine bF hh (jl a.neg a.bP _) rfl ?_
 intro w5 hh
 refine aI (aa (aq ?_))
 refine ck ?_
 exact ⟨rfl, hh.below⟩
theorem td (a : NR) (w : World) (hT : fQ w) (ha : a.bP.size ≤ 100000000) (h1 : -1000000000000 ≤ a.e) (h2 : a.e ≤ 1000000000000) :
  Calls Tryz.prog 96 #[.agg #[.bool a.neg, .string a.bP, .int .i64 a.e]] w fun r w' => r = .returned (.agg #[.bool (nR (-a.d)).neg, .string (nR (-a.d)).bP, .int .i64 (nR (-a.d)).e]) ∧ Below w.heap.size w w' := by
 have hh := Hp.start w
 have hc : ∀ w1, fQ w1 → Calls Tryz.prog 72 #[.agg #[.bool (iN (-(iv a.neg a.bP))), .string (iM (-(iv a.neg a.bP)))], .int .i64 a.e] w1 fun r w' => r = .returned (.agg #[.bool (nR (-a.d)).neg, .string (nR (-a.d)).bP, .int .i64 (nR (-a.d)).e]) ∧ Below w1.heap.size w1 w' := fun w1 hT1 => by
  have hs := lE a.neg a.bP
  have := fy (iN (-(iv a.neg a.bP))) (iM (-(iv a.neg a.bP))) a.e w1 hT1 (by omega) h1 h2
  rw [eU, ← ub] at this
  exact this
 refine al (N := 9) (l := [.agg #[.bool a.neg, .string a.bP, .int .i64 a.e]]) Tryz.func96 rfl rfl (by simp) ?_
 refine sr ?_
 refine dw hh [_,_,_] ?_
 intro b1 w1 hh
 refine cu hh ?_
 intro b2 w2 hh
 refine aa (ah ?_)
 refine a6 5 [[(1, none)], [(3, some 0)], [(4, some 1)], [(1, none)], [(6, some 3)]] [(4, 7), (3, 6), (2, 5), (1, 4), (0, 3)] hh mixed (by kernel_rfl) ?_
 refine fP ?_
 refine gh 1 [_,_] ?_
 refine dC (fun _ hj => m9 a.neg a.bP _) ?_
 refine fP ?_
 refine gB 1 ?_
 refine bA ?_
 intro f W hJ hV
 have hb_1 := hJ.bl
 obtain ⟨v7, v6, v5, v4, v3, _⟩ := hV
 replace hh := hJ.hp
 refine bf (bz (ae v7 (ae v6 (ae v5 (ae v4 (ae v3 bg)))))) ?_
 dsimp only [cH]
 clear hJ
 refine bF hh (hc _ (hT.hp hh)) rfl ?_
 intro w8 hh
 refine bM hh 0 [_,_,_] ?_
 intro ws hh
 replace hh : Hp _ (.blk _ _ [_, _, _] _ :: _) _ := hh
 refine aa (aq ?_)
 refine gG (aY rfl (aX (vs := [_, _, _]) aD.out (hh.ax (i := 0) (n := 3) rfl rfl) rfl) bC) ?_
 exact ⟨rfl, hh.below⟩
theorem oV (s : Int) (a : NR) (w : World) (hT : fQ w) (ha : a.bP.size ≤ 100000000) (h1 : -1000000000 ≤ a.e - s) (h2 : a.e - s ≤ 1000000000) :
  Calls Tryz.prog 123 #[.int .i64 s, .agg #[.bool a.neg, .string a.bP, .int .i64 a.e]] w fun r w' => r = .returned (.agg #[.bool (iN (ud a.i (a.e - s))), .string (iM (ud a.i (a.e - s)))]) ∧ Below w.heap.size w w' := by
 have hh := Hp.start w
 refine al (N := 12) (l := [.int .i64 s, .agg #[.bool a.neg, .string a.bP, .int .i64 a.e]]) Tryz.func123 rfl rfl (by simp) ?_
 refine sr ?_
 refine dw hh [_,_,_] ?_
 intro b3 w3 hh
 refine cu hh ?_
 intro b4 w4 hh
 refine aa (sr (bK ?_))
 refine cP hh 1 [_,_] (bK ?_)
 refine bL hh 1 ?_
 refine mI ?_
 refine et ?_
 refine bF hh (kK a.neg a.bP (a.e - s) _ (hT.hp hh) ha h1 h2) rfl ?_
 intro w11 hh
 refine bM hh 0 [_,_] ?_
 intro ws hh
 replace hh : Hp _ (.blk _ _ [_, _] _ :: _) _ := hh
 refine aa (aq ?_)
 refine gG (aY rfl (aX (vs := [_, _]) aD.out (hh.ax (i := 0) (n := 2) rfl rfl) rfl) bC) ?_
 exact ⟨rfl, hh.below⟩
theorem tf (x : Dyadic) (p : Int) : ud (nR x).i ((nR x).e - -p) = cB x p := by
 cases x with
 | zero => exact vr _
 | ofOdd n k h =>
  simp only [nR, NR.i, eU, cB]
  congr 1
  omega
theorem hU (x : Dyadic) : nR x = ⟨false, ByteArray.mk #[], 0⟩ ↔ x = 0 := by rw [← jG, zC]
theorem jk {a : NR} (h : a.ok) : Sz 18000000 a.d ∧ (nR a.d).bP.size ≤ 1000000 ∧ -18000000 ≤ (nR a.d).e ∧ (nR a.d).e ≤ 18000000 := by
 obtain ⟨h1, h2, h3⟩ := h
 refine ⟨Sz.raw (m := 8000000) (E := 10000000) (by omega) (by omega) (by omega), ?_⟩
 by_cases h0 : iv a.neg a.bP = 0
 ·rw [NR.d, NR.i, h0, ir, jG]
  exact ⟨Nat.zero_le _, by simp, by simp⟩
 ·rw [NR.d, NR.i, lg h0]
  have hz : bN a.bP ≠ 0 := fun h => h0 ((uz a.neg a.bP).2 h)
  have htz : tz (bN a.bP) < 8 * a.bP.size + 1 := by
   have := oq a.bP
   rw [show (256 : Nat) = 2 ^ 8 from rfl, ← Nat.pow_mul] at this
   have := oe hz this
   omega
  have hb : bD (iv a.neg a.bP / 2 ^ tz (bN a.bP)).natAbs ≤ 8 * a.bP.size := by
   apply cU
   refine Nat.lt_of_le_of_lt (Int.natAbs_ediv_le_natAbs _ _) ?_
   rw [gL]
   exact Nat.lt_of_lt_of_le (cG _) (Nat.pow_le_pow_right (by omega) (fi _))
  simp only
  rw [dA]
  refine ⟨by omega, by omega, by omega⟩
theorem pR (a b : NR) (w : World) (hT : fQ w) (ha : a.ok) (hb : b.ok) :
  Calls Tryz.prog 71 #[.agg #[.bool a.neg, .string a.bP, .int .i64 a.e], .agg #[.bool b.neg, .string b.bP, .int .i64 b.e]] w fun r w' => r = .returned (.agg #[.int .i64 (-(cV a.d b.d)), .bool (iN (cB a.d (cV a.d b.d))), .string (iM (cB a.d (cV a.d b.d))), .bool (iN (cB b.d (cV a.d b.d))), .string (iM (cB b.d (cV a.d b.d)))]) ∧ Below w.heap.size w w' := by
 have hh := Hp.start w
 obtain ⟨ha1, ha2, ha3⟩ := ha
 obtain ⟨hb1, hb2, hb3⟩ := hb
 obtain ⟨_, fa1, fa2, fa3⟩ := jk (a := a) ⟨ha1, ha2, ha3⟩
 obtain ⟨_, fb1, fb2, fb3⟩ := jk (a := b) ⟨hb1, hb2, hb3⟩
 have hP := uy a.d b.d 18000000 (by omega) (by omega)
 have hcx := fun w1 hT1 => oV (-(cV a.d b.d)) (nR a.d) w1 hT1 (by omega) (by omega) (by omega)
 have hcy := fun w1 hT1 => oV (-(cV a.d b.d)) (nR b.d) w1 hT1 (by omega) (by omega) (by omega)
 rw [tf] at hcx hcy
 by_cases h0 : a.d = 0
 ·have h0' := (hU a.d).2 h0
  have hs : (nR b.d).e = -(cV a.d b.d) := by
   rw [h0]
   cases b.d with
   | zero => rfl
   | ofOdd n k h => rfl
  refine al (N := 41) (l := [.agg #[.bool a.neg, .string a.bP, .int .i64 a.e], .agg #[.bool b.neg, .string b.bP, .int .i64 b.e]]) Tryz.func71 rfl rfl (by simp) ?_
  refine sr ?_
  refine dw hh [_,_,_] ?_
  intro b2 w2 hh
  refine dw hh [_,_,_] ?_
  intro b3 w3 hh
  refine cu hh ?_
  intro b4 w4 hh
  refine aa (ah ?_)
  refine a6 3 [[(2, none)], [(7, some 0)], [(3, none)]] [(2, 9), (1, 8), (0, 7)] hh mixed (by kernel_rfl) ?_
  refine gh 2 [_,_,_] ?_
  refine dC (fun _ hj => eo a _ (hT.hp hj.hp) (by omega) (by omega) (by omega)) ?_
  refine gh 1 [_,_,_] ?_
  refine bA ?_
  intro f W hJ hV
  have hb_1 := hJ.bl
  obtain ⟨v9, v8, v7, _⟩ := hV
  replace hh := hJ.hp
  refine bf (bz (ae v9 (ae v8 (ae v7 bg)))) ?_
  dsimp only [cH]
  clear hJ
  refine bF hh (eo b _ (hT.hp hh) (by omega) (by omega) (by omega)) rfl ?_
  intro w10 hh
  refine bM hh 2 [_,_,_] ?_
  intro ws hh
  replace hh : Hp _ (_ :: _ :: .blk _ _ [_, _, _] _ :: _) _ := hh
  refine bM hh 1 [_,_,_] ?_
  intro ws hh
  replace hh : Hp _ (_ :: .blk _ _ [_, _, _] _ :: _) _ := hh
  refine aa (sr (bK ?_))
  refine bL hh 2 ?_
  refine bK ?_
  refine bL hh 1 ?_
  refine qx rfl rfl (by decide) ?_
  refine aI (aa (ah (aj (sr ?_))))
  refine cP hh 2 [_,_,_] ?_
  refine gb [_,_,_] ?_
  first | refine iT rfl rfl (by first | assumption | rfl) (by decide) ?_ | refine iS rfl rfl (by assumption) (by decide) ?_
  refine aB (aa (cT (ao (bK ?_))))
  refine bL hh 1 ?_
  refine aI (aE (aW (ai (sr ?_))))
  rw [hs]
  refine mI ?_
  refine gb [_,_,_,_,_] ?_
  refine cu hh ?_
  intro b6 w6 hh
  refine bM hh 0 [_,_,_,_,_] ?_
  intro ws hh
  replace hh : Hp _ (.blk _ _ [_, _, _, _, _] _ :: _) _ := hh
  refine aa (ah ?_)
  refine a6 9 [[(6, none)], [(30, some 0)], [(2, none)], [(31, some 1), (32, some 2)], [(6, none)], [(34, some 4)], [(3, none)], [(35, some 5), (36, some 6)], [(6, none)]] [(8, 38), (7, 37), (6, 36), (5, 35), (4, 34), (3, 33), (2, 32), (1, 31), (0, 30)] hh mixed (by kernel_rfl) ?_
  refine fP ?_
  refine gB 0 ?_
  refine gh 3 [_,_,_] ?_
  refine dC (fun _ hj => hcx _ (hT.hp hj.hp)) ?_
  refine fP ?_
  refine gB 0 ?_
  refine gh 2 [_,_,_] ?_
  refine dC (fun _ hj => hcy _ (hT.hp hj.hp)) ?_
  refine fP ?_
  refine bA ?_
  intro f W hJ hV
  have hb_8 := hJ.bl
  obtain ⟨v38, v37, v36, v35, v34, v33, v32, v31, v30, _⟩ := hV
  replace hh := hJ.hp
  refine bf (bz (ae v38 (ae v37 (ae v36 (ae v35 (ae v34 (ae v33 (ae v32 (ae v31 (ae v30 bg)))))))))) ?_
  dsimp only [cH]
  clear hJ
  refine bM hh 0 [_,_] ?_
  intro ws hh
  replace hh : Hp _ (.blk _ _ [_, _, _, _, _] _ :: _) _ := hh
  refine bK ?_
  refine bM hh 0 [_,_] ?_
  intro ws hh
  replace hh : Hp _ (.blk _ _ [_, _, _, _, _] _ :: _) _ := hh
  refine aa (sr ?_)
  refine cP hh 0 [_,_,_,_,_] ?_
  refine bM hh 1 [_,_,_,_,_] ?_
  intro ws hh
  replace hh : Hp _ (_ :: .blk _ _ [_, _, _, _, _] _ :: _) _ := hh
  refine aa (aq ?_)
  refine gG (aY rfl (aX (vs := [_, _, _, _, _]) aD.out (hh.ax (i := 1) (n := 5) rfl rfl) rfl) bC) ?_
  exact ⟨rfl, hh.below⟩
 ·have h0' : ¬ nR a.d = ⟨false, ByteArray.mk #[], 0⟩ := fun h => h0 ((hU _).1 h)
  by_cases h1 : b.d = 0
  ·have h1' := (hU b.d).2 h1
   have hs : (nR a.d).e = -(cV a.d b.d) := by
    rw [h1]
    cases a.d with
    | zero => rfl
    | ofOdd n k h => rfl
   refine al (N := 41) (l := [.agg #[.bool a.neg, .string a.bP, .int .i64 a.e], .agg #[.bool b.neg, .string b.bP, .int .i64 b.e]]) Tryz.func71 rfl rfl (by simp) ?_
   refine sr ?_
   refine dw hh [_,_,_] ?_
   intro b2 w2 hh
   refine dw hh [_,_,_] ?_
   intro b3 w3 hh
   refine cu hh ?_
   intro b4 w4 hh
   refine aa (ah ?_)
   refine a6 3 [[(2, none)], [(7, some 0)], [(3, none)]] [(2, 9), (1, 8), (0, 7)] hh mixed (by kernel_rfl) ?_
   refine gh 2 [_,_,_] ?_
   refine dC (fun _ hj => eo a _ (hT.hp hj.hp) (by omega) (by omega) (by omega)) ?_
   refine gh 1 [_,_,_] ?_
   refine bA ?_
   intro f W hJ hV
   have hb_1 := hJ.bl
   obtain ⟨v9, v8, v7, _⟩ := hV
   replace hh := hJ.hp
   refine bf (bz (ae v9 (ae v8 (ae v7 bg)))) ?_
   dsimp only [cH]
   clear hJ
   refine bF hh (eo b _ (hT.hp hh) (by omega) (by omega) (by omega)) rfl ?_
   intro w10 hh
   refine bM hh 2 [_,_,_] ?_
   intro ws hh
   replace hh : Hp _ (_ :: _ :: .blk _ _ [_, _, _] _ :: _) _ := hh
   refine bM hh 1 [_,_,_] ?_
   intro ws hh
   replace hh : Hp _ (_ :: .blk _ _ [_, _, _] _ :: _) _ := hh
   refine aa (sr (bK ?_))
   refine bL hh 2 ?_
   refine bK ?_
   refine bL hh 1 ?_
   refine qx rfl rfl (by decide) ?_
   refine aI (aa (ah (aj (sr ?_))))
   refine cP hh 2 [_,_,_] ?_
   refine gb [_,_,_] ?_
   first | refine iT rfl rfl (by first | assumption | rfl) (by decide) ?_ | refine iS rfl rfl (by assumption) (by decide) ?_
   refine aB (aa (cF (sr ?_)))
   refine cP hh 1 [_,_,_] ?_
   refine gb [_,_,_] ?_
   first | refine iT rfl rfl (by first | assumption | rfl) (by decide) ?_ | refine iS rfl rfl (by assumption) (by decide) ?_
   refine aB (aa (cT (ao (bK ?_))))
   refine bL hh 2 ?_
   refine aI (aE (aW (ai (sr ?_))))
   rw [hs]
   refine mI ?_
   refine gb [_,_,_,_,_] ?_
   refine cu hh ?_
   intro b6 w6 hh
   refine bM hh 0 [_,_,_,_,_] ?_
   intro ws hh
   replace hh : Hp _ (.blk _ _ [_, _, _, _, _] _ :: _) _ := hh
   refine aa (ah ?_)
   refine a6 9 [[(6, none)], [(30, some 0)], [(2, none)], [(31, some 1), (32, some 2)], [(6, none)], [(34, some 4)], [(3, none)], [(35, some 5), (36, some 6)], [(6, none)]] [(8, 38), (7, 37), (6, 36), (5, 35), (4, 34), (3, 33), (2, 32), (1, 31), (0, 30)] hh mixed (by kernel_rfl) ?_
   refine fP ?_
   refine gB 0 ?_
   refine gh 3 [_,_,_] ?_
   refine dC (fun _ hj => hcx _ (hT.hp hj.hp)) ?_
   refine fP ?_
   refine gB 0 ?_
   refine gh 2 [_,_,_] ?_
   refine dC (fun _ hj => hcy _ (hT.hp hj.hp)) ?_
   refine fP ?_
   refine bA ?_
   intro f W hJ hV
   have hb_8 := hJ.bl
   obtain ⟨v38, v37, v36, v35, v34, v33, v32, v31, v30, _⟩ := hV
   replace hh := hJ.hp
   refine bf (bz (ae v38 (ae v37 (ae v36 (ae v35 (ae v34 (ae v33 (ae v32 (ae v31 (ae v30 bg)))))))))) ?_
   dsimp only [cH]
   clear hJ
   refine bM hh 0 [_,_] ?_
   intro ws hh
   replace hh : Hp _ (.blk _ _ [_, _, _, _, _] _ :: _) _ := hh
   refine bK ?_
   refine bM hh 0 [_,_] ?_
   intro ws hh
   replace hh : Hp _ (.blk _ _ [_, _, _, _, _] _ :: _) _ := hh
   refine aa (sr ?_)
   refine cP hh 0 [_,_,_,_,_] ?_
   refine bM hh 1 [_,_,_,_,_] ?_
   intro ws hh
   replace hh : Hp _ (_ :: .blk _ _ [_, _, _, _, _] _ :: _) _ := hh
   refine aa (aq ?_)
   refine gG (aY rfl (aX (vs := [_, _, _, _, _]) aD.out (hh.ax (i := 1) (n := 5) rfl rfl) rfl) bC) ?_
   exact ⟨rfl, hh.below⟩
  ·have h1' : ¬ nR b.d = ⟨false, ByteArray.mk #[], 0⟩ := fun h => h1 ((hU _).1 h)
   have hs : (if (nR b.d).e < (nR a.d).e then (nR b.d).e else (nR a.d).e) = -(cV a.d b.d) := by
    revert h0 h1
    cases a.d with
    | zero => intro h; exact absurd rfl h
    | ofOdd n k h =>
     cases b.d with
     | zero => intro _ h; exact absurd rfl h
     | ofOdd m l g =>
      intro _ _
      simp only [nR, cV]
      omega
   refine al (N := 41) (l := [.agg #[.bool a.neg, .string a.bP, .int .i64 a.e], .agg #[.bool b.neg, .string b.bP, .int .i64 b.e]]) Tryz.func71 rfl rfl (by simp) ?_
   refine sr ?_
   refine dw hh [_,_,_] ?_
   intro b2 w2 hh
   refine dw hh [_,_,_] ?_
   intro b3 w3 hh
   refine cu hh ?_
   intro b4 w4 hh
   refine aa (ah ?_)
   refine a6 3 [[(2, none)], [(7, some 0)], [(3, none)]] [(2, 9), (1, 8), (0, 7)] hh mixed (by kernel_rfl) ?_
   refine gh 2 [_,_,_] ?_
   refine dC (fun _ hj => eo a _ (hT.hp hj.hp) (by omega) (by omega) (by omega)) ?_
   refine gh 1 [_,_,_] ?_
   refine bA ?_
   intro f W hJ hV
   have hb_1 := hJ.bl
   obtain ⟨v9, v8, v7, _⟩ := hV
   replace hh := hJ.hp
   refine bf (bz (ae v9 (ae v8 (ae v7 bg)))) ?_
   dsimp only [cH]
   clear hJ
   refine bF hh (eo b _ (hT.hp hh) (by omega) (by omega) (by omega)) rfl ?_
   intro w10 hh
   refine bM hh 2 [_,_,_] ?_
   intro ws hh
   replace hh : Hp _ (_ :: _ :: .blk _ _ [_, _, _] _ :: _) _ := hh
   refine bM hh 1 [_,_,_] ?_
   intro ws hh
   replace hh : Hp _ (_ :: .blk _ _ [_, _, _] _ :: _) _ := hh
   refine aa (sr (bK ?_))
   refine bL hh 2 ?_
   refine bK ?_
   refine bL hh 1 ?_
   refine qx rfl rfl (by decide) ?_
   refine aI (aa (ah (aj (sr ?_))))
   refine cP hh 2 [_,_,_] ?_
   refine gb [_,_,_] ?_
   first | refine iT rfl rfl (by first | assumption | rfl) (by decide) ?_ | refine iS rfl rfl (by assumption) (by decide) ?_
   refine aB (aa (cF (sr ?_)))
   refine cP hh 1 [_,_,_] ?_
   refine gb [_,_,_] ?_
   first | refine iT rfl rfl (by first | assumption | rfl) (by decide) ?_ | refine iS rfl rfl (by assumption) (by decide) ?_
   refine aB (aa (cF (ak (aW (ai (sr ?_))))))
   rw [hs]
   refine mI ?_
   refine gb [_,_,_,_,_] ?_
   refine cu hh ?_
   intro b6 w6 hh
   refine bM hh 0 [_,_,_,_,_] ?_
   intro ws hh
   replace hh : Hp _ (.blk _ _ [_, _, _, _, _] _ :: _) _ := hh
   refine aa (ah ?_)
   refine a6 9 [[(6, none)], [(30, some 0)], [(2, none)], [(31, some 1), (32, some 2)], [(6, none)], [(34, some 4)], [(3, none)], [(35, some 5), (36, some 6)], [(6, none)]] [(8, 38), (7, 37), (6, 36), (5, 35), (4, 34), (3, 33), (2, 32), (1, 31), (0, 30)] hh mixed (by kernel_rfl) ?_
   refine fP ?_
   refine gB 0 ?_
   refine gh 3 [_,_,_] ?_
   refine dC (fun _ hj => hcx _ (hT.hp hj.hp)) ?_
   refine fP ?_
   refine gB 0 ?_
   refine gh 2 [_,_,_] ?_
   refine dC (fun _ hj => hcy _ (hT.hp hj.hp)) ?_
   refine fP ?_
   refine bA ?_
   intro f W hJ hV
   have hb_8 := hJ.bl
   obtain ⟨v38, v37, v36, v35, v34, v33, v32, v31, v30, _⟩ := hV
   replace hh := hJ.hp
   refine bf (bz (ae v38 (ae v37 (ae v36 (ae v35 (ae v34 (ae v33 (ae v32 (ae v31 (ae v30 bg)))))))))) ?_
   dsimp only [cH]
   clear hJ
   refine bM hh 0 [_,_] ?_
   intro ws hh
   replace hh : Hp _ (.blk _ _ [_, _, _, _, _] _ :: _) _ := hh
   refine bK ?_
   refine bM hh 0 [_,_] ?_
   intro ws hh
   replace hh : Hp _ (.blk _ _ [_, _, _, _, _] _ :: _) _ := hh
   refine aa (sr ?_)
   refine cP hh 0 [_,_,_,_,_] ?_
   refine bM hh 1 [_,_,_,_,_] ?_
   intro ws hh
   replace hh : Hp _ (_ :: .blk _ _ [_, _, _, _, _] _ :: _) _ := hh
   refine aa (aq ?_)
   refine gG (aY rfl (aX (vs := [_, _, _, _, _]) aD.out (hh.ax (i := 1) (n := 5) rfl rfl) rfl) bC) ?_
   exact ⟨rfl, hh.below⟩
end Go.Proofs.YtioilmppidlbnaaGreatDoor
namespace Go.Proofs.YtioilmppidlbnaaGreatDoor
open Go.RowKit
def l0 (x y : Dyadic) : Int := if x < y then -1 else if y < x then 1 else 0
theorem wW (i j p : Int) : (i - j).sign = l0 (Dyadic.ofIntWithPrec i p) (Dyadic.ofIntWithPrec j p) := by
 unfold l0
 simp only [zh]
 rcases Int.lt_trichotomy i j with h | h | h
 ·rw [if_pos h, Int.sign_eq_neg_one_of_neg (by omega)]
 ·subst h; simp
 ·rw [if_neg (by omega), if_pos h, Int.sign_eq_one_of_pos (by omega)]
theorem zg (i p : Int) : i.sign = l0 (Dyadic.ofIntWithPrec i p) 0 := by
 have := wW i 0 p
 rwa [Int.sub_zero, ir] at this
theorem NR.sign (a : NR) : a.i.sign = l0 a.d 0 := zg _ _
theorem oz {a b : NR} (ha : a.ok) (hb : b.ok) : (iM (cB a.d (cV a.d b.d))).size ≤ 6000000 ∧ (iM (cB b.d (cV a.d b.d))).size ≤ 6000000 ∧ -18000000 ≤ cV a.d b.d ∧ cV a.d b.d ≤ 18000000 := by
 obtain ⟨_, fa1, fa2, fa3⟩ := jk ha
 obtain ⟨_, fb1, fb2, fb3⟩ := jk hb
 have hP := uy a.d b.d 18000000 (by omega) (by omega)
 have h1 := nI a.d (cV a.d b.d)
 have h2 := nI b.d (cV a.d b.d)
 rw [dA, dA]
 refine ⟨by omega, by omega, hP.1, hP.2⟩
def BJ (n : Int) : Dyadic := Dyadic.ofIntWithPrec 1 (-n)
def ji : List Dyadic → Dyadic := fun l => l.foldl (· + ·) 0
theorem ov (l : List Dyadic) (x : Dyadic) : ji (l ++ [x]) = ji l + x := by simp [ji]
theorem Sz.sum {k : Nat} {l : List Dyadic} (h : ∀ x ∈ l, Sz k x) : Sz (k + l.length) (ji l) := by
 have : ∀ (n : Nat), n ≤ l.length → Sz (k + n) (ji (l.take n)) := by
  intro n
  induction n with
  | zero => intro _; exact Sz.zero _
  | succ n ih =>
   intro hn
   obtain ⟨x, hx⟩ := ay (l := l) (k := n) (by omega)
   rw [aO hx, ov]
   exact (ih (by omega)).add ((h x (List.mem_of_getElem? hx)).mono (by omega))
 have h2 := this l.length (Nat.le_refl _)
 rwa [List.take_length] at h2
theorem nH (a b : NR) (w : World) (hT : fQ w) (ha : a.ok) (hb : b.ok) :
  Calls Tryz.prog 72 #[.agg #[.bool (iN (cB a.d (cV a.d b.d) + cB b.d (cV a.d b.d))), .string (iM (cB a.d (cV a.d b.d) + cB b.d (cV a.d b.d)))], .int .i64 (-(cV a.d b.d))] w fun r w' => r = .returned (.agg #[.bool (nR (a.d + b.d)).neg, .string (nR (a.d + b.d)).bP, .int .i64 (nR (a.d + b.d)).e]) ∧ Below w.heap.size w w' := by
 obtain ⟨hs1, hs2, hP1, hP2⟩ := oz ha hb
 rw [dA] at hs1 hs2
 have h3 := ky (cB a.d (cV a.d b.d)) (cB b.d (cV a.d b.d))
 have := fy (iN (cB a.d (cV a.d b.d) + cB b.d (cV a.d b.d))) (iM (cB a.d (cV a.d b.d) + cB b.d (cV a.d b.d))) (-(cV a.d b.d)) w hT (by rw [dA]; omega) (by omega) (by omega)
 rw [eU, Int.neg_neg, x3] at this
 exact this
theorem fT (L : Option Addr) (n c : Nat) (l : List NR) (w : World) (hT : fQ w) (hS : Sl w L n 3 (bG NR.cells l)) (hl : ∀ a ∈ l, a.ok) (k : Nat) (hk : ∀ a ∈ l, Sz k a.d) (hkn : k + n ≤ 3999990) :
  Calls Tryz.prog 30 #[.slice L n c] w fun r w' => r = .returned (.agg #[.bool (nR (ji (l.map NR.d))).neg, .string (nR (ji (l.map NR.d))).bP, .int .i64 (nR (ji (l.map NR.d))).e]) ∧ Below w.heap.size w w' := by
 have hln := hS.cR NR.len (by omega)
 have hh := Hp.start w
 refine al (N := 27) (l := [.slice L n c]) Tryz.func30 rfl rfl (by simp) ?_
 refine sr ?_
 refine cu hh ?_
 intro b2 w2 hh
 refine aa (sr ?_)
 refine cu hh ?_
 intro b3 w3 hh
 refine aa (ah (sr (mL (aV (mI (aa (aj ?_)))))))
 refine bo [5, 6, 9, 10, 11, 12, 13, 14, 15, 16, 17, 18, 19, 20, 21, 22, 23, 24, 25] 9
  (fun j w' => ∃ (i : Nat) (S : Dyadic), i ≤ n ∧ j = .int .i64 i ∧ S = ji ((l.take i).map NR.d) ∧ Hp w [.blk b3 39 [.bool (nR S).neg, .string (nR S).bP, .int .i64 (nR S).e] (0, 0), .blk b2 39 [.bool false, .string (ByteArray.mk #[]), .int .i64 0] (0, 0)] w')
  (fun j _ => n - (intOf j).toNat) ?_ ?_
 ·exact ⟨0, 0, Nat.zero_le _, rfl, rfl, hh⟩
 ·clear hh
  rintro ρ' j w' ⟨i, S, hi, rfl, hS2, hh⟩
  by_cases hlt : i < n
  ·obtain ⟨x, hx⟩ := ay (l := l) (k := i) (by omega)
   obtain ⟨ad, rfl, hr⟩ := hS.at_ (by omega)
   have hxm := List.mem_of_getElem? hx
   have hS3 : ji ((l.take (i + 1)).map NR.d) = S + x.d := by rw [aO hx, List.map_append, List.map_singleton, ov, hS2]
   have hSz : Sz (k + i) S := by
    rw [hS2]
    have := Sz.sum (k := k) (l := (l.take i).map NR.d) (fun y hy => by
     obtain ⟨a, ha, rfl⟩ := List.mem_map.1 hy
     exact hk a (List.mem_of_mem_take ha))
    rw [List.length_map, List.length_take, Nat.min_eq_left (by omega)] at this
    exact this
   have hSo := hSz.ok (by omega)
   have hlc := fun w1 hT1 => pR (nR S) x w1 hT1 hSo (hl x hxm)
   have hmc := fun w1 hT1 => nH (nR S) x w1 hT1 hSo (hl x hxm)
   obtain ⟨hs1, hs2, _⟩ := oz hSo (hl x hxm)
   rw [eR] at hlc hmc hs1 hs2
   have e1 : ([iR (cB S (cV S x.d)), iR (cB x.d (cV S x.d))].map IR.v).sum = cB S (cV S x.d) + cB x.d (cV S x.d) := by
    simp only [List.map_cons, List.map_nil, List.sum_cons, List.sum_nil, Ao]; omega
   have hac : ∀ (A : Option Addr) (cc : Nat) (w1 : World), Sl w1 A 2 2 (bG IR.cells [iR (cB S (cV S x.d)), iR (cB x.d (cV S x.d))]) → Calls Tryz.prog 73 #[.slice A 2 cc] w1 fun e w' => e = .returned (.agg #[.bool (iN (cB S (cV S x.d) + cB x.d (cV S x.d))), .string (iM (cB S (cV S x.d) + cB x.d (cV S x.d)))]) ∧ Below w1.heap.size w1 w' := fun A cc w1 hsl => by
    have := mz A 2 cc [iR (cB S (cV S x.d)), iR (cB x.d (cV S x.d))] w1 hsl (by omega) (by simp [iR]; omega)
    rw [e1] at this
    exact this
   refine sr ?_
   refine aJ (aa (ah (cT (ak (ai (ah (aj (sr ?_))))))))
   refine aC (k := i) aH.out aD.size rfl rfl (by omega) (by omega) (by decide) ?_
   refine cI (vs := [_, _, _]) aD.out rfl (((hr.ext hh.below).recAt NR.len hx)) rfl (by decide) ?_
   refine cu hh ?_
   intro b5 w5 hh
   refine bM hh 0 [_,_,_] ?_
   intro ws hh
   replace hh : Hp _ (.blk _ _ [_, _, _] _ :: _) _ := hh
   refine aa (sr ?_)
   refine cP hh 1 [_,_,_] ?_
   refine cP hh 0 [_,_,_] ?_
   refine bF hh (hlc _ (hT.hp hh)) rfl ?_
   intro w15 hh
   refine cu hh ?_
   intro b6 w6 hh
   refine bM hh 0 [_,_,_,_,_] ?_
   intro ws hh
   replace hh : Hp _ (.blk _ _ [_, _, _, _, _] _ :: _) _ := hh
   refine aa ?_
   refine a6 8 [[(6, none)], [(16, some 0)], [(6, none)], [(18, some 2)], [(17, some 1), (19, some 3)], [(20, some 4)], [(6, none)], [(22, some 6)]] [(7, 23), (6, 22), (5, 21), (4, 20), (3, 19), (2, 18), (1, 17), (0, 16)] hh mixed (by kernel_rfl) ?_
   refine fP ?_
   refine gh 0 [_,_] ?_
   refine fP ?_
   refine gh 0 [_,_] ?_
   refine vl [_,_,_,_] ?_
   refine dD (i := 5) (Is (.agg #[.bool (iN (cB S (cV S x.d) + cB x.d (cV S x.d))), .string (iM (cB S (cV S x.d) + cB x.d (cV S x.d)))])) Is.ext ?_ ?_
   ·intro ρ1 w1 hj hR
    obtain ⟨A20, c20, h20, s20⟩ := hR.1
    exact dP rfl (cW av.out (bj h20 cj)) (hac A20 c20 _ s20) (fun _ _ hq => ⟨_, hq.1, hq.2, rfl⟩)
   refine fP ?_
   refine gB 0 ?_
   refine bA ?_
   intro f W hJ hV
   have hb_6 := hJ.bl
   obtain ⟨v23, v22, v21, v20, v19, v18, v17, v16, _⟩ := hV
   obtain ⟨A20, c20, e20, f20⟩ : Rows _ _ _ (f 4) W := v20
   replace hh := hJ.hp
   refine bf (bz (ae v23 (ae v22 (ae v21 (ae e20 (ae v19 (ae v18 (ae v17 (ae v16 bg))))))))) ?_
   dsimp only [cH]
   clear e20 hJ
   refine bF hh (hmc _ (hT.hp hh)) rfl ?_
   intro w24 hh
   refine bM hh 2 [_,_,_] ?_
   intro ws hh
   replace hh : Hp _ (_ :: _ :: .blk _ _ [_, _, _] _ :: _) _ := hh
   refine aE (aW (ai (ao ?_)))
   refine bx (mI (aE (ai ?_)))
   replace hh := hh.sub ((List.sublist_cons_self _ _).trans (List.sublist_cons_self _ _))
   refine ⟨⟨i + 1, _, by omega, rfl, hS3.symm, hh⟩, by show n - (i + 1) < n - i; omega, ?_⟩
   (repeat (first | exact aw _ _ _ | refine aA rfl ?_ | refine ar rfl ?_))
  ·refine sr ?_
   refine aJ (aa (ah (cF ?_)))
   refine aN ?_
   refine az (az (a7 (ai (sr ?_))))
   refine cP hh 0 [_,_,_] ?_
   refine bM hh 1 [_,_,_] ?_
   intro ws hh
   replace hh : Hp _ (_ :: .blk _ _ [_, _, _] _ :: _) _ := hh
   refine aa (aq ?_)
   refine gG (aY rfl (aX (vs := [_, _, _]) aD.out (hh.ax (i := 1) (n := 3) rfl rfl) rfl) bC) ?_
   rw [List.take_of_length_le (by omega)] at hS2
   rw [hS2]
   exact ⟨rfl, hh.below⟩
theorem ig (x y : Dyadic) : ji [x, y] = x + y := by
 show (0 + x) + y = x + y
 rw [Dyadic.zero_add]
theorem si (a b : NR) (w : World) (hT : fQ w) (ha : a.ok) (hb : b.ok) (k : Nat) (hka : Sz k a.d) (hkb : Sz k b.d) (hk : k ≤ 3999980) :
  Calls Tryz.prog 48 #[.agg #[.bool a.neg, .string a.bP, .int .i64 a.e], .agg #[.bool b.neg, .string b.bP, .int .i64 b.e]] w fun r w' => r = .returned (.agg #[.bool (nR (a.d - b.d)).neg, .string (nR (a.d - b.d)).bP, .int .i64 (nR (a.d - b.d)).e]) ∧ Below w.heap.size w w' := by
 have hh := Hp.start w
 obtain ⟨hb1, hb2, hb3⟩ := hb
 have e1 : ji ([a, nR (-b.d)].map NR.d) = a.d - b.d := by
  simp only [List.map_cons, List.map_nil, eR, ig]; rfl
 have hac : ∀ (A : Option Addr) (cc : Nat) (w1 : World), fQ w1 → Sl w1 A 2 3 (bG NR.cells [a, nR (-b.d)]) → Calls Tryz.prog 30 #[.slice A 2 cc] w1 fun r w' => r = .returned (.agg #[.bool (nR (a.d - b.d)).neg, .string (nR (a.d - b.d)).bP, .int .i64 (nR (a.d - b.d)).e]) ∧ Below w1.heap.size w1 w' := fun A cc w1 hT1 hsl => by
  have := fT A 2 cc [a, nR (-b.d)] w1 hT1 hsl (by simpa using ⟨ha, hkb.neg.ok (by omega)⟩) k (by simpa [eR] using ⟨hka, hkb.neg⟩) (by omega)
  rw [e1] at this
  exact this
 refine al (N := 10) (l := [.agg #[.bool a.neg, .string a.bP, .int .i64 a.e], .agg #[.bool b.neg, .string b.bP, .int .i64 b.e]]) Tryz.func48 rfl rfl (by simp) ?_
 refine sr ?_
 refine dw hh [_,_,_] ?_
 intro b2 w2 hh
 refine dw hh [_,_,_] ?_
 intro b3 w3 hh
 refine cu hh ?_
 intro b4 w4 hh
 refine aa (ah ?_)
 refine a6 3 [[(2, none)], [(3, none)], [(6, some 1)]] [(2, 7), (1, 6), (0, 5)] hh mixed (by kernel_rfl) ?_
 refine gh 2 [_,_,_] ?_
 refine gh 1 [_,_,_] ?_
 refine dC (fun _ hj => td b _ (hT.hp hj.hp) (by omega) (by omega) (by omega)) ?_
 refine bA ?_
 intro f W hJ hV
 have hb_1 := hJ.bl
 obtain ⟨v7, v6, v5, _⟩ := hV
 replace hh := hJ.hp
 refine bf (bz (ae v7 (ae v6 (ae v5 bg)))) ?_
 dsimp only [cH]
 clear hJ
 refine aG hh (cs := [_, _, _, _, _, _]) aH.out aD.out (aF (cM rfl) (aF (cM rfl) bE)) rfl rfl (by decide) (by decide) (by decide) rfl (by decide) ?_
 intro b8 w8 hh
 refine bF hh (hac _ _ _ (hT.hp hh) (hh.aQ (i := 0) rfl)) rfl ?_
 intro w9 hh
 refine bM hh 1 [_,_,_] ?_
 intro ws hh
 replace hh : Hp _ (_ :: .blk _ _ [_, _, _] _ :: _) _ := hh
 refine aa (aq ?_)
 refine gG (aY rfl (aX (vs := [_, _, _]) aD.out (hh.ax (i := 1) (n := 3) rfl rfl) rfl) bC) ?_
 exact ⟨rfl, hh.below⟩
def g9 : List Dyadic → Dyadic := fun l => l.foldl (· * ·) 1
theorem mR (l : List Dyadic) (x : Dyadic) : g9 (l ++ [x]) = g9 l * x := by simp [g9]
theorem Sz.one : Sz 1 1 := ⟨2, by decide +kernel, by decide⟩
theorem Sz.prod {k : Nat} {l : List Dyadic} (h : ∀ x ∈ l, Sz k x) : Sz (1 + k * l.length) (g9 l) := by
 have : ∀ (n : Nat), n ≤ l.length → Sz (1 + k * n) (g9 (l.take n)) := by
  intro n
  induction n with
  | zero => intro _; exact Sz.one
  | succ n ih =>
   intro hn
   obtain ⟨x, hx⟩ := ay (l := l) (k := n) (by omega)
   rw [aO hx, mR]
   exact ((ih (by omega)).mul (h x (List.mem_of_getElem? hx))).mono (by rw [Nat.mul_succ]; omega)
 have h2 := this l.length (Nat.le_refl _)
 rwa [List.take_length] at h2
theorem iQ (L : Option Addr) (n c : Nat) (l : List NR) (w : World) (hT : fQ w) (hS : Sl w L n 3 (bG NR.cells l)) (hl : ∀ a ∈ l, a.ok) (k : Nat) (hk : ∀ a ∈ l, Sz k a.d) (hkn : k * n ≤ 3999980) (hn : n ≤ 1000000) :
  Calls Tryz.prog 31 #[.slice L n c] w fun r w' => r = .returned (.agg #[.bool (nR (g9 (l.map NR.d))).neg, .string (nR (g9 (l.map NR.d))).bP, .int .i64 (nR (g9 (l.map NR.d))).e]) ∧ Below w.heap.size w w' := by
 have hln := hS.cR NR.len (by omega)
 have hh := Hp.start w
 refine al (N := 27) (l := [.slice L n c]) Tryz.func31 rfl rfl (by simp) ?_
 refine sr ?_
 refine cu hh ?_
 intro b2 w2 hh
 refine aa (sr ?_)
 refine bF hh (gH 1 _ (hT.hp hh) (by omega) (by omega)) rfl ?_
 intro w6 hh
 refine cu hh ?_
 intro b3 w3 hh
 refine bM hh 0 [_,_,_] ?_
 intro ws hh
 replace hh : Hp _ (.blk _ _ [_, _, _] _ :: _) _ := hh
 refine aa (ah (sr (mL (aV (mI (aa (aj ?_)))))))
 refine bo [5, 9, 10, 11, 12, 13, 14, 15, 16, 17, 18, 19, 20, 21, 22, 23, 24, 25] 9
  (fun j w' => ∃ (i : Nat) (S : Dyadic), i ≤ n ∧ j = .int .i64 i ∧ S = g9 ((l.take i).map NR.d) ∧ Hp w [.blk b3 39 [.bool (nR S).neg, .string (nR S).bP, .int .i64 (nR S).e] (0, 0), .blk b2 39 [.bool false, .string (ByteArray.mk #[]), .int .i64 0] (0, 0)] w')
  (fun j _ => n - (intOf j).toNat) ?_ ?_
 ·exact ⟨0, _, Nat.zero_le _, rfl, rfl, hh⟩
 ·clear hh
  rintro ρ' j w' ⟨i, S, hi, rfl, hS2, hh⟩
  by_cases hlt : i < n
  ·obtain ⟨x, hx⟩ := ay (l := l) (k := i) (by omega)
   obtain ⟨ad, rfl, hr⟩ := hS.at_ (by omega)
   have hxm := List.mem_of_getElem? hx
   have hS3 : g9 ((l.take (i + 1)).map NR.d) = S * x.d := by rw [aO hx, List.map_append, List.map_singleton, mR, hS2]
   have hSz : Sz (1 + k * i) S := by
    rw [hS2]
    have := Sz.prod (k := k) (l := (l.take i).map NR.d) (fun y hy => by
     obtain ⟨a, ha, rfl⟩ := List.mem_map.1 hy
     exact hk a (List.mem_of_mem_take ha))
    rw [List.length_map, List.length_take, Nat.min_eq_left (by omega)] at this
    exact this
   have hki : k * i ≤ k * n := Nat.mul_le_mul_left _ hi
   obtain ⟨so1, so2, so3⟩ := hSz.ok (by omega)
   obtain ⟨xo1, xo2, xo3⟩ := hl x hxm
   have e1 : jg ([IR.mk (nR S).neg (nR S).bP, IR.mk x.neg x.bP].map IR.v) = (nR S).i * x.i := by
    simp only [List.map_cons, List.map_nil, jg, Int.mul_one]; rfl
   have e2 : Dyadic.ofIntWithPrec ((nR S).i * x.i) (-((nR S).e + x.e)) = S * x.d := by
    have := pb (nR S).i x.i (-(nR S).e) (-x.e)
    rw [Int.neg_add, ← this]
    congr 1
    exact eR S
   have hac : ∀ (A : Option Addr) (cc : Nat) (w1 : World), Sl w1 A 2 2 (bG IR.cells [IR.mk (nR S).neg (nR S).bP, IR.mk x.neg x.bP]) → Calls Tryz.prog 74 #[.slice A 2 cc] w1 fun e w' => e = .returned (.agg #[.bool (iN ((nR S).i * x.i)), .string (iM ((nR S).i * x.i))]) ∧ Below w1.heap.size w1 w' := fun A cc w1 hsl => by
    have := se A 2 cc [IR.mk (nR S).neg (nR S).bP, IR.mk x.neg x.bP] w1 hsl (by omega) (by simp; omega)
    rw [e1] at this
    exact this
   have hmc : ∀ w1, fQ w1 → Calls Tryz.prog 72 #[.agg #[.bool (iN ((nR S).i * x.i)), .string (iM ((nR S).i * x.i))], .int .i64 ((nR S).e + x.e)] w1 fun r w' => r = .returned (.agg #[.bool (nR (S * x.d)).neg, .string (nR (S * x.d)).bP, .int .i64 (nR (S * x.d)).e]) ∧ Below w1.heap.size w1 w' := fun w1 hT1 => by
    have hb1 := ib (nR S).neg (nR S).bP
    have hb2 := ib x.neg x.bP
    have hb3 := iL (nR S).i x.i
    have := fy (iN ((nR S).i * x.i)) (iM ((nR S).i * x.i)) ((nR S).e + x.e) w1 hT1 (by rw [dA]; unfold NR.i at hb3 ⊢; omega) (by omega) (by omega)
    rw [eU, e2] at this
    exact this
   refine sr ?_
   refine aJ (aa (ah (cT (ak (ai (ah (aj (sr ?_))))))))
   refine aC (k := i) aH.out aD.size rfl rfl (by omega) (by omega) (by decide) ?_
   refine cI (vs := [_, _, _]) aD.out rfl (((hr.ext hh.below).recAt NR.len hx)) rfl (by decide) ?_
   refine cu hh ?_
   intro b5 w5 hh
   refine bM hh 0 [_,_,_] ?_
   intro ws hh
   replace hh : Hp _ (.blk _ _ [_, _, _] _ :: _) _ := hh
   refine aa ?_
   refine a6 11 [[(3, none)], [(13, some 0)], [(5, none)], [(15, some 2)], [(14, some 1), (16, some 3)], [(17, some 4)], [(3, none)], [(19, some 6)], [(5, none)], [(21, some 8)], [(20, some 7), (22, some 9)]] [(10, 23), (9, 22), (8, 21), (7, 20), (6, 19), (5, 18), (4, 17), (3, 16), (2, 15), (1, 14), (0, 13)] hh mixed (by kernel_rfl) ?_
   refine fP ?_
   refine gh 1 [_,_] ?_
   refine fP ?_
   refine gh 0 [_,_] ?_
   refine vl [_,_,_,_] ?_
   refine dD (i := 5) (Is (.agg #[.bool (iN ((nR S).i * x.i)), .string (iM ((nR S).i * x.i))])) Is.ext ?_ ?_
   ·intro ρ1 w1 hj hR
    obtain ⟨A17, c17, h17, s17⟩ := hR.1
    exact dP rfl (cW av.out (bj h17 cj)) (hac A17 c17 _ s17) (fun _ _ hq => ⟨_, hq.1, hq.2, rfl⟩)
   refine fP ?_
   refine gB 1 ?_
   refine fP ?_
   refine gB 0 ?_
   refine uP ?_
   refine bA ?_
   intro f W hJ hV
   have hb_5 := hJ.bl
   obtain ⟨v23, v22, v21, v20, v19, v18, v17, v16, v15, v14, v13, _⟩ := hV
   obtain ⟨A17, c17, e17, f17⟩ : Rows _ _ _ (f 4) W := v17
   replace hh := hJ.hp
   refine bf (bz (ae v23 (ae v22 (ae v21 (ae v20 (ae v19 (ae v18 (ae e17 (ae v16 (ae v15 (ae v14 (ae v13 bg)))))))))))) ?_
   dsimp only [cH]
   clear e17 hJ
   refine bF hh (hmc _ (hT.hp hh)) rfl ?_
   intro w24 hh
   refine bM hh 1 [_,_,_] ?_
   intro ws hh
   replace hh : Hp _ (_ :: .blk _ _ [_, _, _] _ :: _) _ := hh
   refine aE (aW (ai (ao ?_)))
   refine bx (mI (aE (ai ?_)))
   replace hh := hh.sub (List.sublist_cons_self _ _)
   refine ⟨⟨i + 1, _, by omega, rfl, hS3.symm, hh⟩, by show n - (i + 1) < n - i; omega, ?_⟩
   (repeat (first | exact aw _ _ _ | refine aA rfl ?_ | refine ar rfl ?_))
  ·refine sr ?_
   refine aJ (aa (ah (cF ?_)))
   refine aN ?_
   refine az (az (a7 (ai (sr ?_))))
   refine cP hh 0 [_,_,_] ?_
   refine bM hh 1 [_,_,_] ?_
   intro ws hh
   replace hh : Hp _ (_ :: .blk _ _ [_, _, _] _ :: _) _ := hh
   refine aa (aq ?_)
   refine gG (aY rfl (aX (vs := [_, _, _]) aD.out (hh.ax (i := 1) (n := 3) rfl rfl) rfl) bC) ?_
   rw [List.take_of_length_le (by omega)] at hS2
   rw [hS2]
   exact ⟨rfl, hh.below⟩
end Go.Proofs.YtioilmppidlbnaaGreatDoor
namespace Go.Proofs.YtioilmppidlbnaaGreatDoor
open Go.RowKit
theorem yd (i p : Int) (n : Nat) : Dyadic.ofIntWithPrec i p ^ n = Dyadic.ofIntWithPrec (i ^ n) (p * n) := by
 induction n with
 | zero => rw [Dyadic.pow_zero]; simp; rfl
 | succ n ih => rw [Dyadic.pow_succ, ih, pb, Int.pow_succ, Int.natCast_add, Int.mul_add]; simp
theorem Az (i p : Int) : (nR (Dyadic.ofIntWithPrec i p)).bP.size ≤ (bD i.natAbs + 7) / 8 ∧ (i = 0 ∨ -p ≤ (nR (Dyadic.ofIntWithPrec i p)).e ∧ (nR (Dyadic.ofIntWithPrec i p)).e ≤ -p + bD i.natAbs) ∧ (i = 0 → (nR (Dyadic.ofIntWithPrec i p)).e = 0) := by
 by_cases h0 : i = 0
 ·subst h0
  rw [ir, jG]
  exact ⟨Nat.zero_le _, .inl rfl, fun _ => rfl⟩
 ·have h2 := iz h0
  rw [px h0, nR]
  simp only
  refine ⟨?_, .inr ⟨by omega, ?_⟩, fun h => absurd h h0⟩
  ·rw [dA]
   have : bD (i >>> i.trailingZeros).natAbs ≤ bD i.natAbs := by
    apply cU
    refine Nat.lt_of_le_of_lt ?_ (cG _)
    rw [Int.shiftRight_eq_div_pow]
    exact Int.natAbs_ediv_le_natAbs _ _
   omega
  ·have h3 : 2 ^ i.trailingZeros < 2 ^ bD i.natAbs := Nat.lt_of_le_of_lt h2 (cG _)
   have := (Nat.pow_lt_pow_iff_right (by omega)).1 h3
   omega
theorem th (a : NR) (n : Int) (w : World) (hT : fQ w) (ha : a.ok) (hs : n.toNat * a.bP.size ≤ 1000000) (hn : n ≤ 1000) :
  Calls Tryz.prog 121 #[.agg #[.bool a.neg, .string a.bP, .int .i64 a.e], .int .i64 n] w fun r w' => r = .returned (.agg #[.bool (nR (a.d ^ n.toNat)).neg, .string (nR (a.d ^ n.toNat)).bP, .int .i64 (nR (a.d ^ n.toNat)).e]) ∧ Below w.heap.size w w' := by
 have hh := Hp.start w
 obtain ⟨ha1, ha2, ha3⟩ := ha
 obtain ⟨_, fa1, fa2, fa3⟩ := jk (a := a) ⟨ha1, ha2, ha3⟩
 have hsz : (nR a.d).bP.size ≤ a.bP.size := by
  have := (Az a.i (-a.e)).1
  have h2 := ib a.neg a.bP
  unfold NR.d NR.i at *
  omega
 have hms : n.toNat * (nR a.d).bP.size ≤ n.toNat * a.bP.size := Nat.mul_le_mul_left _ hsz
 have e1 : (if (0 : Int) > n then 0 else n) = (n.toNat : Int) := by split <;> omega
 have hm : n.toNat ≤ 1000 := by omega
 have hlo : -18000000 * 1000 ≤ (nR a.d).e * (n.toNat : Int) := by
  have h1 : (-18000000 : Int) * n.toNat ≤ (nR a.d).e * n.toNat := Int.mul_le_mul_of_nonneg_right fa2 (by omega)
  omega
 have hhi : (nR a.d).e * (n.toNat : Int) ≤ 18000000 * 1000 := by
  have h1 : (nR a.d).e * n.toNat ≤ (18000000 : Int) * n.toNat := Int.mul_le_mul_of_nonneg_right fa3 (by omega)
  omega
 have hpc := fun w1 => sP (nR a.d).neg (nR a.d).bP n w1 (by omega) (by omega) (by omega)
 have hmc : ∀ w1, fQ w1 → Calls Tryz.prog 72 #[.agg #[.bool (iN (iv (nR a.d).neg (nR a.d).bP ^ n.toNat)), .string (iM (iv (nR a.d).neg (nR a.d).bP ^ n.toNat))], .int .i64 ((nR a.d).e * (n.toNat : Int))] w1 fun r w' => r = .returned (.agg #[.bool (nR (a.d ^ n.toNat)).neg, .string (nR (a.d ^ n.toNat)).bP, .int .i64 (nR (a.d ^ n.toNat)).e]) ∧ Below w1.heap.size w1 w' := fun w1 hT1 => by
  have hb := ko (iv (nR a.d).neg (nR a.d).bP) n.toNat
  have hb2 := ib (nR a.d).neg (nR a.d).bP
  have hb3 : n.toNat * bD (iv (nR a.d).neg (nR a.d).bP).natAbs ≤ n.toNat * (8 * (nR a.d).bP.size) := Nat.mul_le_mul_left _ hb2
  rw [Nat.mul_left_comm] at hb3
  have := fy (iN (iv (nR a.d).neg (nR a.d).bP ^ n.toNat)) (iM (iv (nR a.d).neg (nR a.d).bP ^ n.toNat)) ((nR a.d).e * (n.toNat : Int)) w1 hT1 (by rw [dA]; omega) (by omega) (by omega)
  have e2 : Dyadic.ofIntWithPrec (iv (nR a.d).neg (nR a.d).bP ^ n.toNat) (-((nR a.d).e * (n.toNat : Int))) = a.d ^ n.toNat := by
   have h3 := eR a.d
   conv => rhs; rw [← h3, NR.d, yd]
   rw [Int.neg_mul]; rfl
  rw [eU, e2] at this
  exact this
 refine al (N := 17) (l := [.agg #[.bool a.neg, .string a.bP, .int .i64 a.e], .int .i64 n]) Tryz.func121 rfl rfl (by simp) ?_
 refine sr ?_
 refine dw hh [_,_,_] ?_
 intro b2 w2 hh
 refine cu hh ?_
 intro b4 w4 hh
 refine aa (sr ?_)
 refine cP hh 1 [_,_,_] ?_
 refine bF hh (eo a _ (hT.hp hh) (by omega) (by omega) (by omega)) rfl ?_
 intro w6 hh
 refine bM hh 1 [_,_,_] ?_
 intro ws hh
 replace hh : Hp _ (_ :: .blk _ _ [_, _, _] _ :: _) _ := hh
 refine aa (ah ?_)
 refine a6 9 [[(2, none)], [(7, some 0)], [(1, none)], [(8, some 1), (9, some 2)], [(2, none)], [(11, some 4)], [(1, none)], [(13, some 6)], [(12, some 5), (14, some 7)]] [(8, 15), (7, 14), (6, 13), (5, 12), (4, 11), (3, 10), (2, 9), (1, 8), (0, 7)] hh mixed (by kernel_rfl) ?_
 refine fP ?_
 refine gh 1 [_,_] ?_
 refine eM ?_
 refine dC (fun _ hj => hpc _) ?_
 refine fP ?_
 refine gB 1 ?_
 refine eM ?_
 refine dD (i := 7) (Is (.int .i64 (n.toNat : Int))) (Is.ext) ?_ ?_
 ·intro ρ1 w1 hj hR
  exact mW rfl ((tW (ρ := ρ1) (x := .tmp 13) (show ρ1 13 = Value.int .i64 n from hR.1) rfl).trans (by rw [e1])) ⟨Below.refl _ _, rfl⟩
 refine Aw ?_
 refine bA ?_
 intro f W hJ hV
 have hb_2 := hJ.bl
 obtain ⟨v15, v14, v13, v12, v11, v10, v9, v8, v7, _⟩ := hV
 replace hh := hJ.hp
 refine bf (bz (ae v15 (ae v14 (ae v13 (ae v12 (ae v11 (ae v10 (ae v9 (ae v8 (ae v7 bg)))))))))) ?_
 dsimp only [cH]
 clear hJ
 refine bF hh (hmc _ (hT.hp hh)) rfl ?_
 intro w16 hh
 refine bM hh 0 [_,_,_] ?_
 intro ws hh
 replace hh : Hp _ (.blk _ _ [_, _, _] _ :: _) _ := hh
 refine aa (aq ?_)
 refine gG (aY rfl (aX (vs := [_, _, _]) aD.out (hh.ax (i := 0) (n := 3) rfl rfl) rfl) bC) ?_
 exact ⟨rfl, hh.below⟩
def Bj (f : Dyadic → Dyadic → Bool) : List Dyadic → Dyadic
 | [] => 0
 | a :: r => r.foldl (fun out a => if f a out then a else out) a
end Go.Proofs.YtioilmppidlbnaaGreatDoor
namespace Go.Proofs.YtioilmppidlbnaaGreatDoor
theorem sM {x y : Dyadic} (h : x < y) : l0 x y = -1 := by rw [l0, if_pos h]
theorem sW {x y : Dyadic} (h : y < x) : l0 x y = 1 := by
 have : ¬ x < y := by grind
 rw [l0, if_neg this, if_pos h]
theorem u0 (x : Dyadic) : l0 x x = 0 := by
 have : ¬ x < x := by grind
 rw [l0, if_neg this, if_neg this]
theorem Au (x y : Dyadic) : x < y ∨ x = y ∨ y < x := by
 rcases Classical.em (x < y) with h | h
 ·exact .inl h
 ·rcases Classical.em (y < x) with h2 | h2
  ·exact .inr (.inr h2)
  ·exact .inr (.inl (by grind))
end Go.Proofs.YtioilmppidlbnaaGreatDoor
