/- Lemmas for castMeets, part 3. -/
import Derived.Test.YtioilmppidlbnaaGreatDoorZ2
/- Several texts in one: Nat, NatB, NatC, NatD, NatE, NatF. -/
namespace Go.Proofs.YtioilmppidlbnaaGreatDoor
open Go.RowKit
theorem fu (A : Option Addr) (n c : Nat) (xs : List Nat) (w : World) (hx : Sl w A n 1 (cq xs)) (hc : n ≤ c) (hn : n ≤ 1000000000000) :
  Calls Tryz.prog 194 #[.slice A n c] w fun e w' => e = .returned (.slice A (df xs).length c) ∧ Below w.heap.size w w' := by
 have hlen : xs.length = n := by have := hx.1; rw [aM] at this; omega
 have hh := Hp.start w
 refine aj (N := 21) (l := [.slice A n c]) Tryz.func194 rfl rfl (by simp) ?_
 refine sr (aL (aa (ah (ao ?_))))
 refine bD [0, 3, 4, 5, 6, 7, 8, 9, 10, 11, 12, 13, 14, 15, 16, 17, 18, 19] 0
  (fun v w' => ∃ k : Nat, k ≤ n ∧ v = .slice A k c ∧ df (xs.take k) = df xs ∧ w' = w)
  (fun v _ => lenOf v) ?_ ?_
 ·exact ⟨n, Nat.le_refl _, rfl, by rw [List.take_of_length_le (by omega)], rfl⟩
 ·rintro ρ' v w' ⟨k, hk, rfl, hcut, rfl⟩
  by_cases h0 : k = 0
  ·subst h0
   refine ah (sr (mL (a6 ?_)))
   refine cE (mB ?_)
   first | refine gS ?_ | (refine gT ?_; refine mL ?_) | refine gV ?_
   first | refine gS ?_ | (refine gT ?_; refine mL ?_) | refine gV ?_
   first | refine gS ?_ | (refine gT ?_; refine a6 ?_) | refine gV ?_
   first | refine gS ?_ | (refine gT ?_; refine eu ?_) | refine gV ?_
   first | refine gS ?_ | (refine gT ?_; refine ie aG.out aC.size rfl rfl (by omega) (by omega) (by decide) ?_) | refine gV ?_
   first | (refine cf (by decide) rfl rfl (by decide) ?_) | (refine wl_guard_skipV (by decide) rfl rfl ?_)
   first | refine gS ?_ | (refine gT ?_; refine dL ?_) | refine gV ?_
   first | refine dq ?_ | refine dr ?_
   refine aa (cF ?_)
   refine a0 ?_
   refine aA (aA (bu (ai (sr (mL (aL (aa (aq ?_))))))))
   refine cC ?_
   rw [← hcut]
   exact ⟨rfl, hh.below⟩
  ·obtain ⟨j, rfl⟩ : ∃ j, k = j + 1 := ⟨k - 1, by omega⟩
   obtain ⟨d, hd⟩ := aU (l := xs) (k := j) (by omega)
   obtain ⟨ad, rfl, hr⟩ := hx.at_ (by omega)
   have hd2 := dJ hd
   rw [bo hd] at hcut
   by_cases hz : d = 0
   ·subst hz
    rw [nM] at hcut
    refine ah (sr (mL (a6 ?_)))
    refine cE (mB ?_)
    first | refine gS ?_ | (refine gT ?_; refine mL ?_) | refine gV ?_
    first | refine gS ?_ | (refine gT ?_; refine mL ?_) | refine gV ?_
    first | refine gS ?_ | (refine gT ?_; refine a6 ?_) | refine gV ?_
    first | refine gS ?_ | (refine gT ?_; refine eu ?_) | refine gV ?_
    first | refine gS ?_ | (refine gT ?_; refine aT (k := j) aG.out aC.size rfl rfl (by omega) (by omega) (by decide) ?_) | refine gV ?_
    first | refine gS ?_ | (refine gT ?_; refine bh aC.out rfl ((hr.ext hh.below).gU (by assumption)) (by decide) ?_) | refine gV ?_
    first | refine gS ?_ | (refine gT ?_; refine dL ?_) | refine gV ?_
    first | refine dq ?_ | refine dr ?_
    refine aa (cT (al (ai (ao (ak (mL (mL (a6 ?_))))))))
    refine eu ?_
    refine od (h := j) aG.out aC.size rfl rfl (by omega) (by omega) (by decide) ?_
    refine aL (aD (aV (ai ?_)))
    refine ⟨⟨j, by omega, rfl, hcut, rfl⟩, by show j < j + 1; omega, ?_⟩
    (repeat (first | exact ay _ _ _ | refine az rfl ?_ | refine av rfl ?_))
   ·rw [pj hz] at hcut
    refine ah (sr (mL (a6 ?_)))
    refine cE (mB ?_)
    first | refine gS ?_ | (refine gT ?_; refine mL ?_) | refine gV ?_
    first | refine gS ?_ | (refine gT ?_; refine mL ?_) | refine gV ?_
    first | refine gS ?_ | (refine gT ?_; refine a6 ?_) | refine gV ?_
    first | refine gS ?_ | (refine gT ?_; refine eu ?_) | refine gV ?_
    first | refine gS ?_ | (refine gT ?_; refine aT (k := j) aG.out aC.size rfl rfl (by omega) (by omega) (by decide) ?_) | refine gV ?_
    first | refine gS ?_ | (refine gT ?_; refine bh aC.out rfl ((hr.ext hh.below).gU (by assumption)) (by decide) ?_) | refine gV ?_
    first | refine gS ?_ | (refine gT ?_; refine dL ?_) | refine gV ?_
    first | refine dq ?_ | refine dr ?_
    refine aa (cF ?_)
    refine a0 ?_
    refine aA (aA (bu (ai (sr (mL (aL (aa (aq ?_))))))))
    refine cC ?_
    rw [← hcut, List.length_append, List.length_take, Nat.min_eq_left (by omega)]
    exact ⟨rfl, hh.below⟩
theorem dT {B : Nat} {l : List Nat} {i c : Nat} (h : l[i]? = some c) : bp B (l.take (i + 1)) = bp B (l.take i) + B ^ i * c := by
 have hi := (List.getElem?_eq_some_iff.1 h).1
 rw [bo h, dV, List.length_take, Nat.min_eq_left (by omega)]
 simp [bp]
theorem Hp.uv {w0 w : World} {H : List HE} {A : Option Addr} {n c : Nat} {t : TypeId} {xs : List Nat} (h : Hp w0 (.row A n c t 1 (cq xs) :: H) w) (hl : xs.length = n) : Hp w0 (.row A (df xs).length c t 1 (cq (df xs)) :: H) w := by
 have h1 := eA xs
 have h2 := h.wv (k := (df xs).length) (by omega)
 rw [Nat.mul_one, ← pk, ← gN] at h2
 exact h2
theorem u4 (a : ByteArray) (w : World) (ha : a.size ≤ 100000000000) :
  Calls Tryz.prog 159 #[.string a] w fun e w' => ∃ b c, e = .returned (.slice (some ⟨b, 0, none⟩) (aH 18446744073709551616 (bn a.data.toList)).length c) ∧ w'.ownsRow w.heap.size 169 1 (.slice (some ⟨b, 0, none⟩) (aH 18446744073709551616 (bn a.data.toList)).length c) (aH 18446744073709551616 (bn a.data.toList)).length (cq (aH 18446744073709551616 (bn a.data.toList))) ∧ Below w.heap.size w w' := by
 have hsz := jP a
 have hh := Hp.start w
 refine aj (N := 39) (l := [.string a]) Tryz.func159 rfl rfl (by simp) ?_
 refine sr (aL (aa (sr (mS ?_))))
 refine cB aG.out rfl (by decide) ?_
 refine bC ?_
 refine fU rfl rfl (by omega) (by omega) (by omega) (by decide) ?_
 refine fY (n := (a.size + 7) / 8) hh rfl rfl (by omega) (by omega) aG.out aC.out rfl (by omega) (by omega) (by decide) ?_
 intro b10 w10 hh
 refine aL (aa (ah (sr (mS ?_))))
 refine cB aG.out rfl (by decide) ?_
 refine mI (aa (ao ?_))
 rw [lH] at hh
 refine bD [4, 5, 13, 14, 15, 16, 17, 18, 19, 20, 21, 22, 23, 24, 25, 26, 27, 28, 29, 30, 31, 32, 33, 34, 35, 36] 13
  (fun v w' => ∃ i : Nat, i ≤ a.size ∧ v = .int .i64 i ∧ Hp w [.row (some ⟨b10, 0, none⟩) ((a.size + 7) / 8) ((a.size + 7) / 8) 169 1 (cq (bH 18446744073709551616 ((a.size + 7) / 8) (bp 256 ((rR a.data.toList).take i))))] w')
  (fun v _ => a.size - (intOf v).toNat) ?_ ?_
 ·exact ⟨0, Nat.zero_le _, rfl, by rw [List.take_zero, bp, lP]; exact hh⟩
 ·clear hh
  rintro ρ' v w' ⟨i, hi, rfl, hh⟩
  by_cases hlt : i < a.size
  ·obtain ⟨c, hc⟩ := aU (l := a.data.toList) (k := ((a.size : Int) - 1 - i).toNat) (by omega)
   have hlo := xg (s := a.data.toList) (i := i) (c := c) (by omega) (by rw [← hc]; congr 1; omega)
   have hc8 := c.toNat_lt
   have hn := fC ((p4 a.data.toList).take i)
   rw [List.length_take, ky, Nat.min_eq_left (by omega)] at hn
   obtain ⟨s1, s2, s3⟩ := yy (k := (a.size + 7) / 8) (bp 256 ((rR a.data.toList).take i)) hn hc8 (by omega)
   have hg := dJ (fK (B := 18446744073709551616) ((a.size + 7) / 8) (bp 256 ((rR a.data.toList).take i)) (i / 8) (by omega))
   have e1 : ((i : Int) % 8 * 8).toNat = i % 8 * 8 := by omega
   refine sr ?_
   refine aQ (aa (ah (cT (al (ai (ah (ao (sr (mI (aI (aa ?_)))))))))))
   refine sr (mS ?_)
   refine cB aG.out rfl (by decide) ?_
   refine eu (mI ?_)
   refine eu (aI (aa ?_))
   refine aN 13 [[(3, none)], [(4, none)], [(22, some 1)], [(21, some 0), (23, some 2)], [(24, some 3)], [(0, none)], [(5, none)], [(26, some 5), (27, some 6)], [(28, some 7)], [(4, none)], [(30, some 9)], [(31, some 10)], [(29, some 8), (32, some 11)]] [(12, 33), (11, 32), (10, 31), (9, 30), (8, 29), (7, 28), (6, 27), (5, 26), (4, 25), (3, 24), (2, 23), (1, 22), (0, 21)] hh mixed (by kernel_rfl) ?_
   refine iY ?_
   refine ee ?_
   refine bk (i := 2) (fun ρ1 w1 hj hR => jh (show ρ1 22 = Value.int _ _ from hR.1) rfl (by omega) (by omega) (by omega)) ?_
   refine xv (i / 8) ?_
   refine bk (i := 4) (fun ρ1 w1 hj hR => gH aC.out (show ρ1 24 = Value.pointer _ from hR.1) (hj.hp.cN (i := 0) rfl (by first | assumption | (simp only [Nat.mul_one]; assumption)))) ?_
   refine BJ ?_
   refine ee ?_
   refine bk (i := 7) (fun ρ1 w1 hj hR => mb aG.out (show ρ1 26 = Value.string _ from hR.1) (show ρ1 27 = Value.int _ _ from hR.2.1) (by omega) (by assumption)) ?_
   first | refine bk (i := 8) (fun ρ1 w1 hj hR => mR aG.out aG.out (show ρ1 28 = Value.int _ _ from hR.1) (by first | assumption | omega)) ?_ | refine bk (i := 8) (fun ρ1 w1 hj hR => tY aG.out aG.out (show ρ1 28 = Value.int _ _ from hR.1)) ?_
   refine ee ?_
   refine bk (i := 10) (fun ρ1 w1 hj hR => ik (show ρ1 30 = Value.int _ _ from hR.1) rfl (by omega) (by omega)) ?_
   refine uR ?_
   refine bk (i := 12) (fun ρ1 w1 hj hR => oa (show ρ1 29 = Value.int _ _ from hR.1) (show ρ1 32 = Value.int _ _ from hR.2.1) (by omega)) ?_
   refine bj ?_
   intro f W hJ hV
   have hb_6 := hJ.bl
   obtain ⟨v33, v32, v31, v30, v29, v28, v27, v26, v25, v24, v23, v22, v21, _⟩ := hV
   replace hh := hJ.hp
   refine aY (bm (ae v33 (ae v32 (ae v31 (ae v30 (ae v29 (ae v28 (ae v27 (ae v26 (ae v25 (ae v24 (ae v23 (ae v22 (ae v21 aX)))))))))))))) ?_
   dsimp only [ct]
   clear hJ
   refine tE rfl rfl (by first | assumption | omega) (by first | assumption | omega) (by decide) ?_
   refine bB (k := i / 8) aG.out aC.size rfl rfl (by omega) (by omega) (by decide) ?_
   refine bq hh (i := 0) (vs := [_]) rfl rfl (bO rfl) rfl aC.out rfl (by rw [aM, aF]; omega) rfl ?_
   intro ws hh
   simp only [List.set_cons_zero] at hh
   rw [e1, Nat.mod_eq_of_lt s2, si s1, bZ (by rw [aM, aF]; omega), Nat.mul_one, eG, s3, ← dT hlo] at hh
   refine aD (aV (ai (ak ?_)))
   refine bC (mI (aD (ai ?_)))
   refine ⟨⟨i + 1, by omega, rfl, hh⟩, by show a.size - (i + 1) < a.size - i; omega, ?_⟩
   (repeat (first | exact ay _ _ _ | refine az rfl ?_ | refine av rfl ?_))
  ·refine sr ?_
   refine aQ (aa (ah (cF ?_)))
   refine a0 ?_
   refine aA (aA (bu (ai (sr (mL ?_)))))
   rw [List.take_of_length_le (by rw [ky]; omega)] at hh
   refine bF hh (fu _ _ _ (bH 18446744073709551616 ((a.size + 7) / 8) (bn a.data.toList)) _ (hh.aR (i := 0) rfl) (Nat.le_refl _) (by omega)) rfl ?_
   intro w38 hh
   refine aL (aa (aq ?_))
   refine cC ?_
   have hbd : bn a.data.toList < 18446744073709551616 ^ ((a.size + 7) / 8) := by
    refine Nat.lt_of_lt_of_le (yY _) ?_
    rw [← hsz, show (256 : Nat) = 2 ^ 8 from rfl, show (18446744073709551616 : Nat) = 2 ^ 64 from rfl, ← Nat.pow_mul, ← Nat.pow_mul]
    exact Nat.pow_le_pow_right (by omega) (by omega)
   have hd : df (bH 18446744073709551616 ((a.size + 7) / 8) (bn a.data.toList)) = aH 18446744073709551616 (bn a.data.toList) := by
    rw [eC (by omega) (dN (by omega) _ _), bW hbd]
   have h1 := (Hp.uv (xs := bH 18446744073709551616 ((a.size + 7) / 8) (bn a.data.toList)) hh (aF _ _)).at_ (i := 0) rfl
   rw [hd] at h1
   rw [hd]
   exact ⟨_, _, rfl, h1, hh.below⟩
theorem Sl.zE {w : World} {A : Option Addr} {n : Nat} {xs : List Nat} (h : Sl w A n 1 (cq xs)) {k : Nat} (hk : k ≤ n) : Sl w A k 1 (cq (xs.take k)) := by
 have hl := h.1
 rw [aM] at hl
 refine ⟨by rw [aM, List.length_take]; omega, fun h0 => ?_⟩
 obtain ⟨ad, he, hr⟩ := h.2 (by omega)
 exact ⟨ad, he, by rw [pk]; exact hr.take k⟩
theorem Sl.qt {w : World} {A : Option Addr} {n : Nat} {xs : List Nat} (h : Sl w A n 1 (cq xs)) : Sl w A (df xs).length 1 (cq (df xs)) := by
 have hl := h.1
 rw [aM] at hl
 have := eA xs
 have h2 := h.zE (k := (df xs).length) (by omega)
 rwa [← gN] at h2
theorem sI {xs : List Nat} (h : Dg 18446744073709551616 xs) : bx (bp 18446744073709551616 xs) ≤ 64 * xs.length := by
 apply cL
 rw [Nat.pow_mul]
 exact fC h
theorem m0 (A : Option Addr) (n c : Nat) (xs : List Nat) (w : World) (hx : Sl w A n 1 (cq xs)) (hd : Dg 18446744073709551616 xs) (hc : n ≤ c) (hn : n ≤ 100000000000) :
  Calls Tryz.prog 197 #[.slice A n c] w fun e w' => e = .returned (.int .i64 (bx (bp 18446744073709551616 xs))) ∧ Below w.heap.size w w' := by
 have hl := hx.1
 rw [aM] at hl
 have hcl := eA xs
 have hcx := hx.qt
 have hcd := hd.cut
 have hlast := oG xs
 rw [← iG]
 generalize hcs : df xs = cs at *
 have hh := Hp.start w
 refine aj (N := 19) (l := [.slice A n c]) Tryz.func197 rfl rfl (by simp) ?_
 refine sr (aI (aa (sr (mL ?_))))
 refine bF hh (fu _ _ _ xs _ hx hc (by omega)) rfl ?_
 intro w4 hh
 rw [hcs]
 by_cases h0 : cs.length = 0
 ·refine aL (aa (ah (sr (mL (a6 ?_)))))
  refine dL (aa (cT (sr (aI (aa (aq (a8 ?_)))))))
  refine cC ?_
  have : cs = [] := List.eq_nil_of_length_eq_zero h0
  subst this
  exact ⟨by rw [bp, ix]; rfl, hh.below⟩
 ·obtain ⟨ad, rfl, hr⟩ := hcx.at_ (by omega)
  obtain ⟨d, hd⟩ := aU (l := cs) (k := cs.length - 1) (by omega)
  have hd2 := dJ hd
  have hd3 := hcd.at_ hd
  have e1 : cs.take (cs.length - 1) ++ [d] = cs := by rw [← bo hd, List.take_of_length_le (by omega)]
  have hnz : d ≠ 0 := by
   intro h
   subst h
   apply hlast
   rw [List.getLast?_eq_getElem?]
   exact hd
  have hb := xu (B := 18446744073709551616) (b := 64) (m := cs.length - 1) (by decide) (hcd.take (cs.length - 1)) (by rw [List.length_take]; omega) hnz
  rw [e1] at hb
  have hb2 : bx d ≤ 64 := cL (by simpa using hd3)
  refine aL (aa (ah (sr (mL (a6 ?_)))))
  refine dL (aa (cF (al (ai (sr (mL (a6 ?_)))))))
  refine mulC (mL (mL (a6 ?_)))
  refine eu ?_
  refine aT (k := cs.length - 1) aG.out aC.size rfl rfl (by omega) (by omega) (by decide) ?_
  refine bh aC.out rfl ((hr.ext hh.below).gU (by assumption)) (by decide) ?_
  refine bF hh (sX _ _ hd3) rfl ?_
  intro w17 hh
  refine eu (aI (aa (aq ?_)))
  refine cC ?_
  refine ⟨?_, hh.below⟩
  congr 2
  omega
theorem tx (N : Nat) : (aH 256 N).length = (bx N + 7) / 8 := by
 have h256 : (256 : Nat) = 2 ^ 8 := rfl
 have h1 : (aH 256 N).length ≤ (bx N + 7) / 8 := by
  apply fw (by omega)
  refine Nat.lt_of_lt_of_le (cx N) ?_
  rw [h256, ← Nat.pow_mul]
  exact Nat.pow_le_pow_right (by omega) (by omega)
 have h2 := jR (B := 256) (by omega) N
 have h3 : bx N ≤ 8 * (aH 256 N).length := by
  apply cL
  rw [Nat.pow_mul]
  exact h2
 omega
theorem iy {B : Nat} (i N : Nat) : bH B (i + 1) N = bH B i N ++ [N / B ^ i % B] := by
 apply List.ext_getElem?
 intro j
 rcases Nat.lt_trichotomy j i with h | h | h
 ·rw [fK _ _ _ (by omega), List.getElem?_append_left (by rw [aF]; exact h), fK _ _ _ h]
 ·subst h
  rw [fK _ _ _ (by omega), List.getElem?_append_right (by rw [aF]; omega), aF]
  simp
 ·rw [List.getElem?_eq_none (by rw [aF]; omega), List.getElem?_eq_none (by rw [List.length_append, aF]; simp; omega)]
theorem uf {R : List Nat} {k x : Nat} : (List.replicate (k + 1) 0 ++ R).set k x = List.replicate k 0 ++ (x :: R) := by
 rw [List.replicate_succ', List.append_assoc, List.set_append_right _ _ (by simp)]
 simp
theorem fq (A : Option Addr) (n c : Nat) (xs : List Nat) (w : World) (hx : Sl w A n 1 (cq xs)) (hd : Dg 18446744073709551616 xs) (hc : n ≤ c) (hn : n ≤ 10000000000) :
  Calls Tryz.prog 185 #[.slice A n c] w fun e w' => e = .returned (.string (str (sb (bp 18446744073709551616 xs)))) ∧ Below w.heap.size w w' := by
 have hl := hx.1
 rw [aM] at hl
 have hcl := eA xs
 have hcx := hx.qt
 have hcd := hd.cut
 have hbl := sI hcd
 have hcan := eC (by omega) hd
 have hlen := tx (bp 18446744073709551616 xs)
 rw [iG] at hbl
 have hh := Hp.start w
 refine aj (N := 37) (l := [.slice A n c]) Tryz.func185 rfl rfl (by simp) ?_
 refine sr (aS (aa (sr (mL ?_))))
 refine bF hh (fu _ _ _ xs _ hx hc (by omega)) rfl ?_
 intro w7 hh
 rw [hcan] at hcl hcx hcd hbl
 rw [hcan]
 refine aL (aa (sr (mL ?_)))
 refine bF hh (m0 _ _ _ (aH 18446744073709551616 (bp 18446744073709551616 xs)) _ (hcx.ext hh.below) hcd (by omega) (by omega)) rfl ?_
 intro w9 hh
 rw [dm (by omega)]
 generalize bp 18446744073709551616 xs = M at *
 refine bC ?_
 refine fU rfl rfl (by omega) (by omega) (by omega) (by decide) ?_
 refine aI (aa (sr (mI ?_)))
 refine fY (n := (bx M + 7) / 8) hh rfl rfl (by omega) (by omega) aG.out aC.out rfl (by omega) (by omega) (by decide) ?_
 intro b13 w13 hh
 refine aL (aa (ah (sr (mI (mI (aa (ao ?_)))))))
 rw [kF] at hh
 refine bD [5, 15, 16, 17, 18, 19, 20, 21, 22, 23, 24, 25, 26, 27, 28, 29, 30, 31, 32, 33, 34] 15
  (fun v w' => ∃ i : Nat, i ≤ (bx M + 7) / 8 ∧ v = .int .i64 i ∧ Hp w [.row (some ⟨b13, 0, none⟩) ((bx M + 7) / 8) ((bx M + 7) / 8) 5 1 (eS (List.replicate ((bx M + 7) / 8 - i) 0 ++ (bH 256 i M).reverse))] w')
  (fun v _ => (bx M + 7) / 8 - (intOf v).toNat) ?_ ?_
 ·exact ⟨0, Nat.zero_le _, rfl, by simpa [bH] using hh⟩
 ·clear hh
  rintro ρ' v w' ⟨i, hi, rfl, hh⟩
  by_cases hlt : i < (bx M + 7) / 8
  ·obtain ⟨ad, rfl, hr⟩ := hcx.at_ (by omega)
   have hg := qV (B := 18446744073709551616) (n := M) (i := i / 8) (by omega) (by omega)
   have hg2 := dJ hg
   have e1 : ((i : Int) % 8 * 8).toNat = i % 8 * 8 := by omega
   refine sr ?_
   refine aQ (aa (ah (cT (al (ai (ah (ao (sr (mI (aI (aa ?_)))))))))))
   refine ak (mL (mI ?_))
   refine eu (mI ?_)
   refine eu (mL (mI ?_))
   refine fU rfl rfl (by omega) (by omega) (by omega) (by decide) ?_
   refine aT (k := i / 8) aG.out aC.size rfl rfl (by omega) (by omega) (by decide) ?_
   refine bh aC.out rfl ((hr.ext hh.below).gU (by assumption)) (by decide) ?_
   refine mI ?_
   refine jz rfl rfl (by omega) (by omega) (by decide) ?_
   refine mulC ?_
   refine tr rfl rfl (by omega) (by decide) ?_
   first | refine cP aG.out aG.out rfl (by first | assumption | omega) (by decide) ?_ | refine eP aG.out aG.out rfl (by decide) ?_
   refine bB (k := (bx M + 7) / 8 - 1 - i) aG.out aC.size rfl rfl (by omega) (by omega) (by decide) ?_
   refine bq hh (i := 0) (vs := [_]) rfl rfl (bO rfl) rfl aC.out rfl (by rw [cd, List.length_append, List.length_reverse, List.length_replicate, aF]; omega) rfl ?_
   intro ws hh
   simp only [List.set_cons_zero] at hh
   obtain ⟨k, hk⟩ : ∃ k, (bx M + 7) / 8 - i = k + 1 := ⟨(bx M + 7) / 8 - i - 1, by omega⟩
   rw [e1, uK, Nat.mul_one, bZ (by rw [cd, List.length_append, List.length_reverse, List.length_replicate, aF]; omega), jM, hk, show (bx M + 7) / 8 - 1 - i = k by omega, uf, ← List.reverse_concat, ← iy] at hh
   refine aD (aV (ai (ak ?_)))
   refine bC (mI (aD (ai ?_)))
   refine ⟨⟨i + 1, by omega, rfl, by rw [show (bx M + 7) / 8 - (i + 1) = k by omega]; exact hh⟩, by show (bx M + 7) / 8 - (i + 1) < (bx M + 7) / 8 - i; omega, ?_⟩
   (repeat (first | exact ay _ _ _ | refine az rfl ?_ | refine av rfl ?_))
  ·obtain rfl : i = (bx M + 7) / 8 := by omega
   have hfin : eS (List.replicate ((bx M + 7) / 8 - (bx M + 7) / 8) 0 ++ (bH 256 ((bx M + 7) / 8) M).reverse) = uB (sb M) := by
    rw [Nat.sub_self, List.replicate_zero, List.nil_append, ← hlen]
    have h1 : M < 256 ^ (aH 256 M).length := jR (by omega) M
    rw [rk (by omega) h1, Nat.sub_self, List.replicate_zero, List.append_nil, pf (fun d hd => (cY (B := 256) (by omega) M).1 d (List.mem_reverse.1 hd)), sb, List.map_reverse]
   rw [hfin] at hh
   refine sr ?_
   refine aQ (aa (ah (cF ?_)))
   refine a0 ?_
   refine aA (aA (bu (ai (sr (mL ?_)))))
   refine mg aG.out aG.out aG.out rfl (hh.aR (i := 0) rfl) (by decide) ?_
   refine aS (aa (aq ?_))
   refine cC ?_
   exact ⟨rfl, hh.below⟩
theorem j9 (A : Option Addr) (n c m : Nat) (xs : List Nat) (w : World) (hx : Sl w A n 1 (cq xs)) (hn : n ≤ 10000000000) (hm : m ≤ 10000000000) :
  Calls Tryz.prog 198 #[.slice A n c, .int .i64 m] w fun e w' => ∃ b, e = .returned (.slice (some ⟨b, 0, none⟩) (max m n) (max m n)) ∧ w'.ownsRow w.heap.size 169 1 (.slice (some ⟨b, 0, none⟩) (max m n) (max m n)) (max m n) (cq (xs ++ List.replicate (max m n - n) 0)) ∧ Below w.heap.size w w' := by
 have hl := hx.1
 rw [aM] at hl
 have hh := Hp.start w
 refine aj (N := 15) (l := [.slice A n c, .int .i64 m]) Tryz.func198 rfl rfl (by simp) ?_
 refine sr (aL (aa (sr (mI (mL (a6 ?_))))))
 refine jm rfl rfl (by decide) ?_
 refine fY (n := max m n) hh rfl rfl (by omega) (by omega) aG.out aC.out rfl (by omega) (by omega) (by decide) ?_
 intro b10 w10 hh
 refine aL (aa (sr (mL (mL ?_))))
 rw [lH] at hh
 refine xK hh (i := 0) (o := 0) rfl rfl rfl (hx.ext hh.below) aG.out aC.out (by rw [aM, List.length_replicate]; omega) (bV _) (by decide) ?_
 intro w13 hh
 skip
 have e1 : cj (cq (List.replicate (max m n) 0)) 0 ((cq xs).take (min n (max m n) * 1)) = cq (xs ++ List.replicate (max m n - n) 0) := by
  rw [List.take_of_length_le (by rw [aM]; omega), cj, List.take_zero, List.nil_append, aM, ← po, ← rY, List.drop_replicate]
  congr 3
  omega
 simp only [List.set_cons_zero, e1] at hh
 refine aa (sr (mL (aL (aa (aq ?_)))))
 refine cC ?_
 exact ⟨_, rfl, hh.at_ (i := 0) rfl, hh.below⟩
theorem km (A B : Option Addr) (n c m c' : Nat) (xs ys : List Nat) (w : World) (hx : Sl w A n 1 (cq xs)) (hy : Sl w B m 1 (cq ys)) (hdx : Dg 18446744073709551616 xs) (hdy : Dg 18446744073709551616 ys) (hc : n ≤ c) (hc' : m ≤ c') (hn : n ≤ 100000000000) (hm : m ≤ 100000000000) :
  Calls Tryz.prog 201 #[.slice A n c, .slice B m c'] w fun e w' => e = .returned (.int .i64 (iE (bp 18446744073709551616 xs) (bp 18446744073709551616 ys))) ∧ Below w.heap.size w w' := by
 have hlx := hx.1
 have hly := hy.1
 rw [aM] at hlx hly
 have hcx := hx.qt
 have hcy := hy.qt
 have hxl := eA xs
 have hyl := eA ys
 have hx2 := Can.cut hdx
 have hy2 := Can.cut hdy
 have hh := Hp.start w
 rw [← iG xs, ← iG ys]
 refine aj (N := 47) (l := [.slice A n c, .slice B m c']) Tryz.func201 rfl rfl (by simp) ?_
 refine sr (aI (aa (sr (mL ?_))))
 refine bF hh (fu _ _ _ xs _ hx hc (by omega)) rfl ?_
 intro w7 hh
 refine mL ?_
 refine bF hh (fu _ _ _ ys _ (hy.ext hh.below) hc' (by omega)) rfl ?_
 intro w9 hh
 generalize df xs = us at *
 generalize df ys = vs at *
 by_cases hlen : us.length = vs.length
 ·refine aL (aL (aa (ah (sr (mL (a6 (mL (a6 ?_))))))))
  refine dR (aa (cF (al (ai (ah (sr (mL (a6 ?_))))))))
  refine eu (aI (aa (ao ?_)))
  refine bD [4, 5, 23, 24, 25, 26, 27, 28, 29, 30, 31, 32, 33, 34, 35, 36, 37, 38, 39, 40, 41, 42, 43, 44, 45, 46] 5
   (fun v w' => ∃ k : Nat, k ≤ us.length ∧ v = .int .i64 ((k : Int) - 1) ∧ us.drop k = vs.drop k ∧ Hp w [] w')
   (fun v _ => (intOf v + 1).toNat) ?_ ?_
  ·exact ⟨us.length, Nat.le_refl _, rfl, by rw [List.drop_length, List.drop_eq_nil_of_le (by omega)], hh⟩
  ·clear hh
   rintro ρ' v w' ⟨k, hk, rfl, hd, hh⟩
   by_cases h0 : k = 0
   ·subst h0
    refine ah (sr (mI ?_))
    refine de (aa (cF ?_))
    refine a0 ?_
    refine aA (aA (bu (ai (sr (aI (aa (aq ?_)))))))
    refine cC ?_
    rw [List.drop_zero, List.drop_zero] at hd
    rw [hd]
    exact ⟨by rw [ud rfl], hh.below⟩
   ·obtain ⟨j, rfl⟩ : ∃ j, k = j + 1 := ⟨k - 1, by omega⟩
    obtain ⟨x, hxj⟩ := aU (l := us) (k := j) (by omega)
    obtain ⟨y, hyj⟩ := aU (l := vs) (k := j) (by omega)
    obtain ⟨ad, rfl, hr⟩ := hcx.at_ (by omega)
    obtain ⟨ad2, rfl, hs⟩ := hcy.at_ (by omega)
    have hx3 := dJ hxj
    have hy3 := dJ hyj
    by_cases hlt : x < y
    ·have hf := pc hx2.1 hxj hyj hd hlt
     refine ah (sr (mI ?_))
     refine de (aa (cT (al (ai (ah (ao (ao (ah ?_))))))))
     refine aN 8 [[(0, none)], [(5, none)], [(28, some 0), (29, some 1)], [(30, some 2)], [(1, none)], [(5, none)], [(32, some 4), (33, some 5)], [(34, some 6)]] [(7, 35), (6, 34), (5, 33), (4, 32), (3, 31), (2, 30), (1, 29), (0, 28)] hh mixed (by kernel_rfl) ?_
     refine iY ?_
     refine ee ?_
     refine r8 (j) ?_
     refine mU (fun _ hj => (hr.ext hj.hp.below).gU hx3) ?_
     refine iY ?_
     refine ee ?_
     refine r8 (j) ?_
     refine mU (fun _ hj => (hs.ext hj.hp.below).gU hy3) ?_
     refine bj ?_
     intro f W hJ hV
     have hb_9 := hJ.bl
     obtain ⟨v35, v34, v33, v32, v31, v30, v29, v28, _⟩ := hV
     replace hh := hJ.hp
     refine aY (bm (ae v35 (ae v34 (ae v33 (ae v32 (ae v31 (ae v30 (ae v29 (ae v28 aX))))))))) ?_
     dsimp only [ct]
     clear hJ
     refine aQ (aB (aa (cT (sr (aI (aa (aq (cS (cS (a8 (a8 ?_)))))))))))
     refine cS (a8 ?_)
     refine cC ?_
     exact ⟨by rw [iL hf], hh.below⟩
    ·by_cases hgt : y < x
     ·have hf := pc hy2.1 hyj hxj hd.symm hgt
      refine ah (sr (mI ?_))
      refine de (aa (cT (al (ai (ah (ao (ao (ah ?_))))))))
      refine aN 8 [[(0, none)], [(5, none)], [(28, some 0), (29, some 1)], [(30, some 2)], [(1, none)], [(5, none)], [(32, some 4), (33, some 5)], [(34, some 6)]] [(7, 35), (6, 34), (5, 33), (4, 32), (3, 31), (2, 30), (1, 29), (0, 28)] hh mixed (by kernel_rfl) ?_
      refine iY ?_
      refine ee ?_
      refine r8 (j) ?_
      refine mU (fun _ hj => (hr.ext hj.hp.below).gU hx3) ?_
      refine iY ?_
      refine ee ?_
      refine r8 (j) ?_
      refine mU (fun _ hj => (hs.ext hj.hp.below).gU hy3) ?_
      refine bj ?_
      intro f W hJ hV
      have hb_9 := hJ.bl
      obtain ⟨v35, v34, v33, v32, v31, v30, v29, v28, _⟩ := hV
      replace hh := hJ.hp
      refine aY (bm (ae v35 (ae v34 (ae v33 (ae v32 (ae v31 (ae v30 (ae v29 (ae v28 aX))))))))) ?_
      dsimp only [ct]
      clear hJ
      refine aQ (aB (aa (cF (ah ?_))))
      refine aN 8 [[(0, none)], [(5, none)], [(38, some 0), (39, some 1)], [(40, some 2)], [(1, none)], [(5, none)], [(42, some 4), (43, some 5)], [(44, some 6)]] [(7, 45), (6, 44), (5, 43), (4, 42), (3, 41), (2, 40), (1, 39), (0, 38)] hh mixed (by kernel_rfl) ?_
      refine iY ?_
      refine ee ?_
      refine r8 (j) ?_
      refine mU (fun _ hj => (hr.ext hj.hp.below).gU hx3) ?_
      refine iY ?_
      refine ee ?_
      refine r8 (j) ?_
      refine mU (fun _ hj => (hs.ext hj.hp.below).gU hy3) ?_
      refine bj ?_
      intro f W hJ hV
      have hb_11 := hJ.bl
      obtain ⟨v45, v44, v43, v42, v41, v40, v39, v38, _⟩ := hV
      replace hh := hJ.hp
      refine aY (bm (ae v45 (ae v44 (ae v43 (ae v42 (ae v41 (ae v40 (ae v39 (ae v38 aX))))))))) ?_
      dsimp only [ct]
      clear hJ
      refine cE (aB (aa (cT (sr (aI (aa (aq (cS (cS (a8 (a8 ?_)))))))))))
      refine cS (a8 ?_)
      refine cC ?_
      exact ⟨by rw [qA hf], hh.below⟩
     ·refine ah (sr (mI ?_))
      refine de (aa (cT (al (ai (ah (ao (ao (ah ?_))))))))
      refine aN 8 [[(0, none)], [(5, none)], [(28, some 0), (29, some 1)], [(30, some 2)], [(1, none)], [(5, none)], [(32, some 4), (33, some 5)], [(34, some 6)]] [(7, 35), (6, 34), (5, 33), (4, 32), (3, 31), (2, 30), (1, 29), (0, 28)] hh mixed (by kernel_rfl) ?_
      refine iY ?_
      refine ee ?_
      refine r8 (j) ?_
      refine mU (fun _ hj => (hr.ext hj.hp.below).gU hx3) ?_
      refine iY ?_
      refine ee ?_
      refine r8 (j) ?_
      refine mU (fun _ hj => (hs.ext hj.hp.below).gU hy3) ?_
      refine bj ?_
      intro f W hJ hV
      have hb_9 := hJ.bl
      obtain ⟨v35, v34, v33, v32, v31, v30, v29, v28, _⟩ := hV
      replace hh := hJ.hp
      refine aY (bm (ae v35 (ae v34 (ae v33 (ae v32 (ae v31 (ae v30 (ae v29 (ae v28 aX))))))))) ?_
      dsimp only [ct]
      clear hJ
      refine aQ (aB (aa (cF (ah ?_))))
      refine aN 8 [[(0, none)], [(5, none)], [(38, some 0), (39, some 1)], [(40, some 2)], [(1, none)], [(5, none)], [(42, some 4), (43, some 5)], [(44, some 6)]] [(7, 45), (6, 44), (5, 43), (4, 42), (3, 41), (2, 40), (1, 39), (0, 38)] hh mixed (by kernel_rfl) ?_
      refine iY ?_
      refine ee ?_
      refine r8 (j) ?_
      refine mU (fun _ hj => (hr.ext hj.hp.below).gU hx3) ?_
      refine iY ?_
      refine ee ?_
      refine r8 (j) ?_
      refine mU (fun _ hj => (hs.ext hj.hp.below).gU hy3) ?_
      refine bj ?_
      intro f W hJ hV
      have hb_11 := hJ.bl
      obtain ⟨v45, v44, v43, v42, v41, v40, v39, v38, _⟩ := hV
      replace hh := hJ.hp
      refine aY (bm (ae v45 (ae v44 (ae v43 (ae v42 (ae v41 (ae v40 (ae v39 (ae v38 aX))))))))) ?_
      dsimp only [ct]
      clear hJ
      refine cE (aB (aa (cF (al (aV (aV (ai (ak (mI ?_)))))))))
      refine eu (aI (aD (ai ?_)))
      refine ⟨⟨j, by omega, by show Value.int _ _ = Value.int _ _; congr 1; omega, pV hxj hyj hd (by omega), hh⟩, by show ((((j + 1 : Nat) : Int) - 1 - 1) + 1).toNat < ((((j + 1 : Nat) : Int) - 1) + 1).toNat; omega, ?_⟩
      (repeat (first | exact ay _ _ _ | refine az rfl ?_ | refine av rfl ?_))
 ·by_cases hlt : us.length < vs.length
  ·have hf : bp 18446744073709551616 us < bp 18446744073709551616 vs := by
    refine Nat.lt_of_not_le fun h => ?_
    have := hy2.nC hx2 (by omega) h
    omega
   refine aL (aL (aa (ah (sr (mL (a6 (mL (a6 ?_))))))))
   refine dR (aa (cT (ah (sr (mL (a6 (mL (a6 ?_))))))))
   refine aQ (aa (cT (sr (aI (aa (aq (a8 (a8 ?_))))))))
   refine cC ?_
   exact ⟨by rw [iL hf], hh.below⟩
  ·have hf : bp 18446744073709551616 vs < bp 18446744073709551616 us := by
    refine Nat.lt_of_not_le fun h => ?_
    have := hx2.nC hy2 (by omega) h
    omega
   refine aL (aL (aa (ah (sr (mL (a6 (mL (a6 ?_))))))))
   refine dR (aa (cT (ah (sr (mL (a6 (mL (a6 ?_))))))))
   refine aQ (aa (cF (al (ai (sr (aI (aa (aq (a8 ?_)))))))))
   refine cC ?_
   exact ⟨by rw [qA hf], hh.below⟩
end Go.Proofs.YtioilmppidlbnaaGreatDoor
namespace Go.Proofs.YtioilmppidlbnaaGreatDoor
open Go.RowKit
theorem Aq {y m : Nat} (hy : y < 18446744073709551616) (hm : m < 18446744073709551616) : y * m ≤ 340282366920938463426481119284349108225 := Nat.mul_le_mul (by omega : y ≤ 18446744073709551615) (by omega : m ≤ 18446744073709551615)
theorem pE {x y m c P : Nat} (hx : x < 18446744073709551616) (hc : c < 18446744073709551616) (hP : P ≤ 340282366920938463426481119284349108225) (he : P = y * m) :
  (x + (P % 18446744073709551616 + c + 0) % 18446744073709551616 + 0) % 18446744073709551616 = (x + y * m + c) % 18446744073709551616 ∧ ((P / 18446744073709551616 + (P % 18446744073709551616 + c + 0) / 18446744073709551616) % 18446744073709551616 + (x + (P % 18446744073709551616 + c + 0) % 18446744073709551616 + 0) / 18446744073709551616) % 18446744073709551616 = (x + y * m + c) / 18446744073709551616 ∧ (x + y * m + c) / 18446744073709551616 < 18446744073709551616 := by
 rw [← he]
 omega
theorem rL {w0 : World} {H : List HE} {b M C c' ny cy m : Nat} {Y : Option Addr} (pre xs post ys : List Nat) (w : World) (hh : Hp w0 (.row (some ⟨b, 0, none⟩) M C 169 1 (cq (pre ++ xs ++ post)) :: H) w)
  (hy : ∀ w1 cs, Hp w0 (.row (some ⟨b, 0, none⟩) M C 169 1 cs :: H) w1 → Sl w1 Y ny 1 (cq ys)) (hxd : Dg 18446744073709551616 xs) (hyd : Dg 18446744073709551616 ys) (hm : m < 18446744073709551616) (hM : xs.length ≤ 100000000000) (hny : ny ≤ 100000000000) :
  Calls Tryz.prog 204 #[.slice (some ⟨b, pre.length, none⟩) xs.length c', .slice Y ny cy, .int .u64 (m : Int)] w fun e w' => e = .returned (.tuple #[]) ∧ Hp w0 (.row (some ⟨b, 0, none⟩) M C 169 1 (cq (pre ++ ff 18446744073709551616 xs ys m 0 ++ post)) :: H) w' := by
 have hly := (hy _ _ hh).1
 rw [aM] at hly
 refine aj (N := 56) (l := [.slice (some ⟨b, pre.length, none⟩) xs.length c', .slice Y ny cy, .int .u64 (m : Int)]) Tryz.func204 rfl rfl (by simp) ?_
 refine sr (aI (aa (sr (mL (a6 (mI (aa (ao ?_))))))))
 refine cw [6, 7, 8, 9, 10, 11, 14, 15, 16, 17, 18, 19, 20, 21, 22, 23, 24, 25, 26, 27, 28, 29, 30, 31, 32, 33, 34, 35, 36, 37, 38, 39, 40, 41, 42, 43, 44, 45, 46, 47, 48, 49, 50, 51, 52, 53, 54, 55] 6 14
  (fun c i w' => ∃ (done rest : List Nat) (cr : Nat), done.length + rest.length = xs.length ∧ i = .int .i64 done.length ∧ c = .int .u64 (cr : Int) ∧ cr < 18446744073709551616 ∧ Dg 18446744073709551616 rest ∧ done ++ ff 18446744073709551616 rest (ys.drop done.length) m cr = ff 18446744073709551616 xs ys m 0 ∧ Hp w0 (.row (some ⟨b, 0, none⟩) M C 169 1 (cq (pre ++ (done ++ rest) ++ post)) :: H) w')
  (fun _ i _ => xs.length - (intOf i).toNat) ?_ ?_
 ·exact ⟨[], xs, 0, by simp, rfl, rfl, by omega, hxd, rfl, hh⟩
 ·clear hh
  rintro ρ' c i w' ⟨done, rest, cr, hlen, rfl, rfl, hcr, hrd, heq, hh⟩
  by_cases hlt : done.length < xs.length
  ·obtain ⟨x, r, rfl⟩ : ∃ x r, rest = x :: r := by
    cases rest with
    | nil => simp at hlen; omega
    | cons x r => exact ⟨x, r, rfl⟩
   have hx := hrd.head
   have hg := dJ (pJ (pre := pre) (done := done) (r := r) (post := post) (x := x))
   have hlr : done.length + (r.length + 1) = xs.length := by simpa using hlen
   simp only [ff, tail_drop, nK] at heq
   by_cases hiy : done.length < ny
   ·obtain ⟨y, hyk⟩ := aU (l := ys) (k := done.length) (by omega)
    obtain ⟨ad, rfl, _⟩ := (hy _ _ hh).at_ (by omega)
    rw [hyk, Option.getD_some] at heq
    have hyw := hyd.at_ hyk
    refine sr ?_
    refine aQ (aa (ah (cT (al (ai (ah (ao (sr (mI (aI (aa ?_)))))))))))
    refine sr (aI (aa (ah (sr (mI (mL (a6 ?_)))))))
    refine aQ (aa (cT (ak (mL (mI ?_)))))
    refine aT (k := done.length) aG.out aC.size rfl rfl (by omega) (by omega) (by decide) ?_
    refine bh aC.out rfl ((hy _ _ hh).ze hyk) (by decide) ?_
    refine aI (aa (sr (mI (mI ?_))))
    obtain ⟨p1, p2, p3⟩ := pE (y := y) (m := m) hx hcr (Aq hyw hm) rfl
    refine bF hh (mi y m _ hyw hm) rfl ?_
    intro w28 hh
    refine mT ?_
    refine dY ?_
    refine dY ?_
    refine aI (aI (aa (sr (mI (mI ?_)))))
    refine hQ (gL (y * m % 18446744073709551616) cr 0 (by omega) _) (aE (bO rfl) (aE (bO rfl) (aE rfl bz))) (by decide) ?_
    refine mT ?_
    refine dY ?_
    refine dY ?_
    refine aI (aI (aa (sr (mI (mI ?_)))))
    refine fN rfl rfl (by decide) ?_
    refine aI (aa (sr (mL (mI (mL (mI ?_))))))
    refine di aG.out aC.size rfl rfl rfl (by omega) (by decide) ?_
    refine bh aC.out rfl (hh.cN (i := 0) rfl (by first | assumption | (simp only [Nat.mul_one]; assumption))) (by decide) ?_
    refine mI ?_
    refine hQ (gL x ((y * m % 18446744073709551616 + cr + 0) % 18446744073709551616) 0 (by omega) _) (aE (bO rfl) (aE (bO rfl) (aE rfl bz))) (by decide) ?_
    refine mT ?_
    refine dY ?_
    refine dY ?_
    refine di (k := done.length) aG.out aC.size rfl rfl (by omega) (by omega) (by decide) ?_
    refine bq hh (i := 0) (vs := [_]) rfl rfl (bO rfl) rfl aC.out rfl (by rw [aM]; simp only [List.length_append, List.length_cons]; omega) rfl ?_
    intro ws hh
    simp only [List.set_cons_zero] at hh
    rw [p1, Nat.mul_one, bZ (by rw [aM]; simp only [List.length_append, List.length_cons]; omega), eG, jY] at hh
    refine aI (aa (ak (mI (mI ?_))))
    refine fN rfl rfl (by decide) ?_
    refine aI (aD (aV (ai (ak ?_))))
    refine bC (mI (aD (ai ?_)))
    rw [p2]
    refine ⟨⟨done ++ [(x + y * m + cr) % 18446744073709551616], r, _, by simp; omega, by rw [List.length_append]; rfl, rfl, p3, hrd.tail, ?_, hh⟩, by show xs.length - (done.length + 1) < xs.length - done.length; omega, ?_⟩
    ·rw [← heq, List.append_assoc, List.length_append]; rfl
    (repeat (first | exact ay _ _ _ | refine az rfl ?_ | refine av rfl ?_))
   ·rw [List.getElem?_eq_none (by omega), Option.getD_none] at heq
    have h0w : (0 : Nat) < 18446744073709551616 := by omega
    refine sr ?_
    refine aQ (aa (ah (cT (al (ai (ah (ao (sr (mI (aI (aa ?_)))))))))))
    refine sr (aI (aa (ah (sr (mI (mL (a6 ?_)))))))
    refine aQ (aa (cF (al (ai (sr (mI (mI ?_)))))))
    obtain ⟨p1, p2, p3⟩ := pE (y := 0) (m := m) hx hcr (Aq h0w hm) rfl
    refine bF hh (mi 0 m _ h0w hm) rfl ?_
    intro w28 hh
    refine mT ?_
    refine dY ?_
    refine dY ?_
    refine aI (aI (aa (sr (mI (mI ?_)))))
    refine hQ (gL (0 * m % 18446744073709551616) cr 0 (by omega) _) (aE (bO rfl) (aE (bO rfl) (aE rfl bz))) (by decide) ?_
    refine mT ?_
    refine dY ?_
    refine dY ?_
    refine aI (aI (aa (sr (mI (mI ?_)))))
    refine fN rfl rfl (by decide) ?_
    refine aI (aa (sr (mL (mI (mL (mI ?_))))))
    refine di aG.out aC.size rfl rfl rfl (by omega) (by decide) ?_
    refine bh aC.out rfl (hh.cN (i := 0) rfl (by first | assumption | (simp only [Nat.mul_one]; assumption))) (by decide) ?_
    refine mI ?_
    refine hQ (gL x ((0 * m % 18446744073709551616 + cr + 0) % 18446744073709551616) 0 (by omega) _) (aE (bO rfl) (aE (bO rfl) (aE rfl bz))) (by decide) ?_
    refine mT ?_
    refine dY ?_
    refine dY ?_
    refine di (k := done.length) aG.out aC.size rfl rfl (by omega) (by omega) (by decide) ?_
    refine bq hh (i := 0) (vs := [_]) rfl rfl (bO rfl) rfl aC.out rfl (by rw [aM]; simp only [List.length_append, List.length_cons]; omega) rfl ?_
    intro ws hh
    simp only [List.set_cons_zero] at hh
    rw [p1, Nat.mul_one, bZ (by rw [aM]; simp only [List.length_append, List.length_cons]; omega), eG, jY] at hh
    refine aI (aa (ak (mI (mI ?_))))
    refine fN rfl rfl (by decide) ?_
    refine aI (aD (aV (ai (ak ?_))))
    refine bC (mI (aD (ai ?_)))
    rw [p2]
    refine ⟨⟨done ++ [(x + 0 * m + cr) % 18446744073709551616], r, _, by simp; omega, by rw [List.length_append]; rfl, rfl, p3, hrd.tail, ?_, hh⟩, by show xs.length - (done.length + 1) < xs.length - done.length; omega, ?_⟩
    ·rw [← heq, List.append_assoc, List.length_append]; rfl
    (repeat (first | exact ay _ _ _ | refine az rfl ?_ | refine av rfl ?_))
  ·have hr0 : rest = [] := List.eq_nil_of_length_eq_zero (by omega)
   subst hr0
   refine sr ?_
   refine aQ (aa (ah (cF ?_)))
   refine a0 ?_
   refine aA (aA (bu ?_))
   refine xj (by first | exact .inr rfl | exact .inl rfl) rfl  ?_
   rw [List.append_nil, ff, List.append_nil] at *
   rw [← heq]
   exact ⟨rfl, hh⟩
theorem qF {w0 : World} {H : List HE} {b M C c' ny cy : Nat} {Y : Option Addr} (pre xs post ys : List Nat) (w : World) (hh : Hp w0 (.row (some ⟨b, 0, none⟩) M C 169 1 (cq (pre ++ xs ++ post)) :: H) w)
  (hy : ∀ w1 cs, Hp w0 (.row (some ⟨b, 0, none⟩) M C 169 1 cs :: H) w1 → Sl w1 Y ny 1 (cq ys)) (hxd : Dg 18446744073709551616 xs) (hyd : Dg 18446744073709551616 ys) (hM : xs.length ≤ 100000000000) (hny : ny ≤ 100000000000) (hsub : rS 18446744073709551616 xs ys 0 = 0) :
  Calls Tryz.prog 202 #[.slice (some ⟨b, pre.length, none⟩) xs.length c', .slice Y ny cy] w fun e w' => e = .returned (.bool true) ∧ Hp w0 (.row (some ⟨b, 0, none⟩) M C 169 1 (cq (pre ++ mw 18446744073709551616 xs ys 0 ++ post)) :: H) w' := by
 have hly := (hy _ _ hh).1
 rw [aM] at hly
 refine aj (N := 37) (l := [.slice (some ⟨b, pre.length, none⟩) xs.length c', .slice Y ny cy]) Tryz.func202 rfl rfl (by simp) ?_
 refine sr (aB (aa (sr (aI (aa (ah (sr (mL (a6 (mI (aa ?_)))))))))))
 refine ao ?_
 refine cw [5, 6, 7, 10, 11, 12, 13, 14, 15, 16, 17, 18, 19, 20, 21, 22, 23, 24, 25, 26, 27, 28, 29, 30, 31, 32, 33, 34] 5 10
  (fun c i w' => ∃ (done rest : List Nat) (cr : Nat), done.length + rest.length = xs.length ∧ i = .int .i64 done.length ∧ c = .int .u64 (cr : Int) ∧ cr ≤ 1 ∧ Dg 18446744073709551616 rest ∧ done ++ mw 18446744073709551616 rest (ys.drop done.length) cr = mw 18446744073709551616 xs ys 0 ∧ rS 18446744073709551616 rest (ys.drop done.length) cr = 0 ∧ Hp w0 (.row (some ⟨b, 0, none⟩) M C 169 1 (cq (pre ++ (done ++ rest) ++ post)) :: H) w')
  (fun _ i _ => xs.length - (intOf i).toNat) ?_ ?_
 ·exact ⟨[], xs, 0, by simp, rfl, rfl, by omega, hxd, rfl, hsub, hh⟩
 ·clear hh
  rintro ρ' c i w' ⟨done, rest, cr, hlen, rfl, rfl, hcr, hrd, heq, hsb, hh⟩
  by_cases hlt : done.length < xs.length
  ·obtain ⟨x, r, rfl⟩ : ∃ x r, rest = x :: r := by
    cases rest with
    | nil => simp at hlen; omega
    | cons x r => exact ⟨x, r, rfl⟩
   have hx := hrd.head
   have hg := dJ (pJ (pre := pre) (done := done) (r := r) (post := post) (x := x))
   have hlr : done.length + (r.length + 1) = xs.length := by simpa using hlen
   simp only [mw, rS, tail_drop, nK] at heq hsb
   by_cases hiy : done.length < ny
   ·obtain ⟨y, hyk⟩ := aU (l := ys) (k := done.length) (by omega)
    obtain ⟨ad, rfl, _⟩ := (hy _ _ hh).at_ (by omega)
    rw [hyk, Option.getD_some] at heq hsb
    have hyw := hyd.at_ hyk
    refine sr ?_
    refine aQ (aa (ah (cT (al (ai (ah (ao (sr (mI (aI (aa ?_)))))))))))
    refine sr (aI (aa (ah (sr (mI (mL (a6 ?_)))))))
    refine aQ (aa (cT (ak (mL (mI ?_)))))
    refine aT (k := done.length) aG.out aC.size rfl rfl (by omega) (by omega) (by decide) ?_
    refine bh aC.out rfl ((hy _ _ hh).ze hyk) (by decide) ?_
    refine aI (aa (ak (mL (mI (mL (mI ?_))))))
    refine di (k := done.length) aG.out aC.size rfl rfl (by omega) (by omega) (by decide) ?_
    refine bh aC.out rfl (hh.cN (i := 0) rfl (by first | assumption | (simp only [Nat.mul_one]; assumption))) (by decide) ?_
    refine mI (mI ?_)
    refine hQ (oL x y cr hcr _) (aE (bO rfl) (aE (bO rfl) (aE (bO rfl) bz))) (by decide) ?_
    refine mT ?_
    refine dY ?_
    refine dY ?_
    refine di (k := done.length) aG.out aC.size rfl rfl (by omega) (by omega) (by decide) ?_
    refine bq hh (i := 0) (vs := [_]) rfl rfl (bO rfl) rfl aC.out rfl (by rw [aM]; simp only [List.length_append, List.length_cons]; omega) rfl ?_
    intro ws hh
    simp only [List.set_cons_zero] at hh
    rw [Nat.mul_one, bZ (by rw [aM]; simp only [List.length_append, List.length_cons]; omega), eG, jY] at hh
    refine aI (aD (aV (ai (ak ?_))))
    refine bC (mI (aD (ai ?_)))
    refine ⟨⟨done ++ [(x + 18446744073709551616 - y - cr) % 18446744073709551616], r, _, by simp; omega, by rw [List.length_append]; rfl, rfl, by split <;> omega, hrd.tail, ?_, ?_, hh⟩, by show xs.length - (done.length + 1) < xs.length - done.length; omega, ?_⟩
    ·rw [← heq, List.append_assoc, List.length_append]; rfl
    ·rw [List.length_append]; exact hsb
    (repeat (first | exact ay _ _ _ | refine az rfl ?_ | refine av rfl ?_))
   ·rw [List.getElem?_eq_none (by omega), Option.getD_none] at heq hsb
    refine sr ?_
    refine aQ (aa (ah (cT (al (ai (ah (ao (sr (mI (aI (aa ?_)))))))))))
    refine sr (aI (aa (ah (sr (mI (mL (a6 ?_)))))))
    refine aQ (aa (cF (al (ai (ak (mL (mI (mL (mI ?_)))))))))
    refine di (k := done.length) aG.out aC.size rfl rfl (by omega) (by omega) (by decide) ?_
    refine bh aC.out rfl (hh.cN (i := 0) rfl (by first | assumption | (simp only [Nat.mul_one]; assumption))) (by decide) ?_
    refine mI (mI ?_)
    refine hQ (oL x 0 cr hcr _) (aE (bO rfl) (aE (bO rfl) (aE (bO rfl) bz))) (by decide) ?_
    refine mT ?_
    refine dY ?_
    refine dY ?_
    refine di (k := done.length) aG.out aC.size rfl rfl (by omega) (by omega) (by decide) ?_
    refine bq hh (i := 0) (vs := [_]) rfl rfl (bO rfl) rfl aC.out rfl (by rw [aM]; simp only [List.length_append, List.length_cons]; omega) rfl ?_
    intro ws hh
    simp only [List.set_cons_zero] at hh
    rw [Nat.mul_one, bZ (by rw [aM]; simp only [List.length_append, List.length_cons]; omega), eG, jY] at hh
    refine aI (aD (aV (ai (ak ?_))))
    refine bC (mI (aD (ai ?_)))
    refine ⟨⟨done ++ [(x + 18446744073709551616 - 0 - cr) % 18446744073709551616], r, _, by simp; omega, by rw [List.length_append]; rfl, rfl, by split <;> omega, hrd.tail, ?_, ?_, hh⟩, by show xs.length - (done.length + 1) < xs.length - done.length; omega, ?_⟩
    ·rw [← heq, List.append_assoc, List.length_append]; rfl
    ·rw [List.length_append]; exact hsb
    (repeat (first | exact ay _ _ _ | refine az rfl ?_ | refine av rfl ?_))
  ·have hr0 : rest = [] := List.eq_nil_of_length_eq_zero (by omega)
   subst hr0
   obtain rfl : cr = 0 := hsb
   refine sr ?_
   refine aQ (aa (ah (cF ?_)))
   refine a0 ?_
   refine aA (aA (bu (ai (sr (mI ?_)))))
   refine dL (aB (aa (aq ?_)))
   refine cC ?_
   rw [List.append_nil, mw, List.append_nil] at *
   rw [← heq]
   exact ⟨rfl, hh⟩
theorem sJ {w0 : World} {H : List HE} {b M C c' ny cy : Nat} {Y : Option Addr} (pre xs post ys : List Nat) (w : World) (hh : Hp w0 (.row (some ⟨b, 0, none⟩) M C 169 1 (cq (pre ++ xs ++ post)) :: H) w)
  (hy : ∀ w1 cs, Hp w0 (.row (some ⟨b, 0, none⟩) M C 169 1 cs :: H) w1 → Sl w1 Y ny 1 (cq ys)) (hxd : Dg 18446744073709551616 xs) (hyd : Dg 18446744073709551616 ys) (hM : xs.length ≤ 100000000000) (hny : ny ≤ 100000000000) :
  Calls Tryz.prog 199 #[.slice (some ⟨b, pre.length, none⟩) xs.length c', .slice Y ny cy] w fun e w' => e = .returned (.tuple #[]) ∧ Hp w0 (.row (some ⟨b, 0, none⟩) M C 169 1 (cq (pre ++ ff 18446744073709551616 xs ys 1 0 ++ post)) :: H) w' := by
 have hly := (hy _ _ hh).1
 rw [aM] at hly
 refine aj (N := 34) (l := [.slice (some ⟨b, pre.length, none⟩) xs.length c', .slice Y ny cy]) Tryz.func199 rfl rfl (by simp) ?_
 refine sr (aI (aa (sr (mL (a6 (mI (aa (ao ?_))))))))
 refine cw [4, 5, 6, 9, 10, 11, 12, 13, 14, 15, 16, 17, 18, 19, 20, 21, 22, 23, 24, 25, 26, 27, 28, 29, 30, 31, 32, 33] 4 9
  (fun c i w' => ∃ (done rest : List Nat) (cr : Nat), done.length + rest.length = xs.length ∧ i = .int .i64 done.length ∧ c = .int .u64 (cr : Int) ∧ cr ≤ 1 ∧ Dg 18446744073709551616 rest ∧ done ++ ff 18446744073709551616 rest (ys.drop done.length) 1 cr = ff 18446744073709551616 xs ys 1 0 ∧ Hp w0 (.row (some ⟨b, 0, none⟩) M C 169 1 (cq (pre ++ (done ++ rest) ++ post)) :: H) w')
  (fun _ i _ => xs.length - (intOf i).toNat) ?_ ?_
 ·exact ⟨[], xs, 0, by simp, rfl, rfl, by omega, hxd, rfl, hh⟩
 ·clear hh
  rintro ρ' c i w' ⟨done, rest, cr, hlen, rfl, rfl, hcr, hrd, heq, hh⟩
  by_cases hlt : done.length < xs.length
  ·obtain ⟨x, r, rfl⟩ : ∃ x r, rest = x :: r := by
    cases rest with
    | nil => simp at hlen; omega
    | cons x r => exact ⟨x, r, rfl⟩
   have hx := hrd.head
   have hg := dJ (pJ (pre := pre) (done := done) (r := r) (post := post) (x := x))
   have hlr : done.length + (r.length + 1) = xs.length := by simpa using hlen
   simp only [ff, tail_drop, nK, Nat.mul_one] at heq
   by_cases hiy : done.length < ny
   ·obtain ⟨y, hyk⟩ := aU (l := ys) (k := done.length) (by omega)
    obtain ⟨ad, rfl, _⟩ := (hy _ _ hh).at_ (by omega)
    rw [hyk, Option.getD_some] at heq
    have hyw := hyd.at_ hyk
    refine sr ?_
    refine aQ (aa (ah (cT (al (ai (ah (ao (sr (mI (aI (aa ?_)))))))))))
    refine sr (aI (aa (ah (sr (mI (mL (a6 ?_)))))))
    refine aQ (aa (cT (ak (mL (mI ?_)))))
    refine aT (k := done.length) aG.out aC.size rfl rfl (by omega) (by omega) (by decide) ?_
    refine bh aC.out rfl ((hy _ _ hh).ze hyk) (by decide) ?_
    refine aI (aa (ak (mL (mI (mL (mI ?_))))))
    refine di (k := done.length) aG.out aC.size rfl rfl (by omega) (by omega) (by decide) ?_
    refine bh aC.out rfl (hh.cN (i := 0) rfl (by first | assumption | (simp only [Nat.mul_one]; assumption))) (by decide) ?_
    refine mI (mI ?_)
    refine hQ (gL x y cr hcr _) (aE (bO rfl) (aE (bO rfl) (aE (bO rfl) bz))) (by decide) ?_
    refine mT ?_
    refine dY ?_
    refine dY ?_
    refine di (k := done.length) aG.out aC.size rfl rfl (by omega) (by omega) (by decide) ?_
    refine bq hh (i := 0) (vs := [_]) rfl rfl (bO rfl) rfl aC.out rfl (by rw [aM]; simp only [List.length_append, List.length_cons]; omega) rfl ?_
    intro ws hh
    simp only [List.set_cons_zero] at hh
    rw [Nat.mul_one, bZ (by rw [aM]; simp only [List.length_append, List.length_cons]; omega), eG, jY] at hh
    refine aI (aD (aV (ai (ak ?_))))
    refine bC (mI (aD (ai ?_)))
    refine ⟨⟨done ++ [(x + y + cr) % 18446744073709551616], r, _, by simp; omega, by rw [List.length_append]; rfl, rfl, by omega, hrd.tail, ?_, hh⟩, by show xs.length - (done.length + 1) < xs.length - done.length; omega, ?_⟩
    ·rw [← heq, List.append_assoc, List.length_append]; rfl
    (repeat (first | exact ay _ _ _ | refine az rfl ?_ | refine av rfl ?_))
   ·rw [List.getElem?_eq_none (by omega), Option.getD_none] at heq
    refine sr ?_
    refine aQ (aa (ah (cT (al (ai (ah (ao (sr (mI (aI (aa ?_)))))))))))
    refine sr (aI (aa (ah (sr (mI (mL (a6 ?_)))))))
    refine aQ (aa (cF (al (ai (ak (mL (mI (mL (mI ?_)))))))))
    refine di (k := done.length) aG.out aC.size rfl rfl (by omega) (by omega) (by decide) ?_
    refine bh aC.out rfl (hh.cN (i := 0) rfl (by first | assumption | (simp only [Nat.mul_one]; assumption))) (by decide) ?_
    refine mI (mI ?_)
    refine hQ (gL x 0 cr hcr _) (aE (bO rfl) (aE (bO rfl) (aE (bO rfl) bz))) (by decide) ?_
    refine mT ?_
    refine dY ?_
    refine dY ?_
    refine di (k := done.length) aG.out aC.size rfl rfl (by omega) (by omega) (by decide) ?_
    refine bq hh (i := 0) (vs := [_]) rfl rfl (bO rfl) rfl aC.out rfl (by rw [aM]; simp only [List.length_append, List.length_cons]; omega) rfl ?_
    intro ws hh
    simp only [List.set_cons_zero] at hh
    rw [Nat.mul_one, bZ (by rw [aM]; simp only [List.length_append, List.length_cons]; omega), eG, jY] at hh
    refine aI (aD (aV (ai (ak ?_))))
    refine bC (mI (aD (ai ?_)))
    refine ⟨⟨done ++ [(x + 0 + cr) % 18446744073709551616], r, _, by simp; omega, by rw [List.length_append]; rfl, rfl, by omega, hrd.tail, ?_, hh⟩, by show xs.length - (done.length + 1) < xs.length - done.length; omega, ?_⟩
    ·rw [← heq, List.append_assoc, List.length_append]; rfl
    (repeat (first | exact ay _ _ _ | refine az rfl ?_ | refine av rfl ?_))
  ·have hr0 : rest = [] := List.eq_nil_of_length_eq_zero (by omega)
   subst hr0
   refine sr ?_
   refine aQ (aa (ah (cF ?_)))
   refine a0 ?_
   refine aA (aA (bu ?_))
   refine xj (by first | exact .inr rfl | exact .inl rfl) rfl  ?_
   rw [List.append_nil, ff, List.append_nil] at *
   rw [← heq]
   exact ⟨rfl, hh⟩
end Go.Proofs.YtioilmppidlbnaaGreatDoor
namespace Go.Proofs.YtioilmppidlbnaaGreatDoor
open Go.RowKit
theorem xW {k i n d : Nat} (D : Nat) (hD : D < 18446744073709551616 ^ i) (hd : d < 18446744073709551616) (hk : i + n / 64 + 1 < k) :
  (D * 2 ^ n) / 18446744073709551616 ^ (i + n / 64) % 18446744073709551616 < 2 ^ (n % 64) ∧ d * 2 ^ (n % 64) % 18446744073709551616 = (d % 2 ^ (64 - n % 64)) * 2 ^ (n % 64) ∧
  (bH 18446744073709551616 k (D * 2 ^ n)).set (i + n / 64) ((D * 2 ^ n) / 18446744073709551616 ^ (i + n / 64) % 18446744073709551616 + d * 2 ^ (n % 64) % 18446744073709551616) = bH 18446744073709551616 k (D * 2 ^ n + 18446744073709551616 ^ (i + n / 64) * (d * 2 ^ (n % 64) % 18446744073709551616)) ∧
  (D * 2 ^ n + 18446744073709551616 ^ (i + n / 64) * (d * 2 ^ (n % 64) % 18446744073709551616)) / 18446744073709551616 ^ (i + n / 64 + 1) % 18446744073709551616 = 0 ∧
  (bH 18446744073709551616 k (D * 2 ^ n + 18446744073709551616 ^ (i + n / 64) * (d * 2 ^ (n % 64) % 18446744073709551616))).set (i + n / 64 + 1) (d / 2 ^ (64 - n % 64)) = bH 18446744073709551616 k ((D + 18446744073709551616 ^ i * d) * 2 ^ n) ∧
  (n % 64 = 0 → D * 2 ^ n + 18446744073709551616 ^ (i + n / 64) * (d * 2 ^ (n % 64) % 18446744073709551616) = (D + 18446744073709551616 ^ i * d) * 2 ^ n) := by
 have hW : (18446744073709551616 : Nat) = 2 ^ 64 := by decide
 have hs : n % 64 < 64 := Nat.mod_lt _ (by omega)
 have hn : 2 ^ n = 18446744073709551616 ^ (n / 64) * 2 ^ (n % 64) := by
  rw [hW, ← Nat.pow_mul, ← Nat.pow_add]; congr 1; omega
 generalize hq : n / 64 = q at *
 generalize hse : n % 64 = s at *
 have e : (18446744073709551616 : Nat) = 2 ^ (64 - s) * 2 ^ s := by rw [← Nat.pow_add, hW]; congr 1; omega
 have hpos : 0 < 2 ^ s := Nat.pow_pos (by omega)
 have hwp : ∀ j : Nat, 0 < 18446744073709551616 ^ j := fun j => Nat.pow_pos (by decide)
 have hP : D * 2 ^ n < 18446744073709551616 ^ (i + q) * 2 ^ s := by
  rw [hn, ← Nat.mul_assoc, Nat.pow_add]
  exact Nat.mul_lt_mul_of_pos_right (Nat.mul_lt_mul_of_pos_right hD (hwp q)) hpos
 have h1 : (D * 2 ^ n) / 18446744073709551616 ^ (i + q) < 2 ^ s := by rw [Nat.div_lt_iff_lt_mul (hwp _), Nat.mul_comm (2 ^ s)]; exact hP
 have hsW : 2 ^ s ≤ 18446744073709551616 := by rw [hW]; exact Nat.pow_le_pow_right (by omega) (by omega)
 have h2 : d * 2 ^ s % 18446744073709551616 = (d % 2 ^ (64 - s)) * 2 ^ s := by rw [e, Nat.mul_mod_mul_right]
 have h3 : (d % 2 ^ (64 - s) + 1) * 2 ^ s ≤ 18446744073709551616 := by
  rw [e]
  exact Nat.mul_le_mul_right _ (Nat.mod_lt _ (Nat.pow_pos (by omega)))
 rw [Nat.succ_mul] at h3
 have h4 : (D * 2 ^ n) / 18446744073709551616 ^ (i + q) % 18446744073709551616 = (D * 2 ^ n) / 18446744073709551616 ^ (i + q) := Nat.mod_eq_of_lt (by omega)
 have hlt1 : D * 2 ^ n + 18446744073709551616 ^ (i + q) * (d * 2 ^ s % 18446744073709551616) < 18446744073709551616 ^ (i + q + 1) := by
  rw [h2, Nat.pow_succ]
  have : 18446744073709551616 ^ (i + q) * ((d % 2 ^ (64 - s)) * 2 ^ s + 2 ^ s) ≤ 18446744073709551616 ^ (i + q) * 18446744073709551616 := Nat.mul_le_mul_left _ h3
  rw [Nat.mul_add] at this
  omega
 have hup := zM (d := d) (s := s) hd (by omega)
 have hfin : D * 2 ^ n + 18446744073709551616 ^ (i + q) * (d * 2 ^ s % 18446744073709551616) + 18446744073709551616 ^ (i + q + 1) * (d / 2 ^ (64 - s)) = (D + 18446744073709551616 ^ i * d) * 2 ^ n := by
  have h5 : 18446744073709551616 ^ (i + q) * (d * 2 ^ s % 18446744073709551616) + 18446744073709551616 ^ (i + q + 1) * (d / 2 ^ (64 - s)) = 18446744073709551616 ^ (i + q) * (d * 2 ^ s) := by
   conv => rhs; rw [← hup.1, Nat.mul_add]
   rw [Nat.pow_succ, Nat.mul_assoc, Nat.mul_comm 18446744073709551616]
  rw [Nat.add_assoc, h5, Nat.add_mul, hn, Nat.pow_add]
  congr 1
  simp only [Nat.mul_assoc, Nat.mul_left_comm, Nat.mul_comm]
 have hbig : ∀ j, j < k → 18446744073709551616 ^ j * 18446744073709551616 ≤ 18446744073709551616 ^ k := fun j hj => by rw [← Nat.pow_succ]; exact Nat.pow_le_pow_right (by decide) hj
 have hb1 := hbig (i + q) (by omega)
 rw [← Nat.pow_succ] at hb1
 refine ⟨by rw [h4]; exact h1, h2, ?_, ?_, ?_, ?_⟩
 ·exact kU (by decide) (by omega) (by omega) (by rw [h4, h2]; omega)
 ·rw [Nat.div_eq_of_lt hlt1]
 ·have h6 : (D * 2 ^ n + 18446744073709551616 ^ (i + q) * (d * 2 ^ s % 18446744073709551616)) / 18446744073709551616 ^ (i + q + 1) % 18446744073709551616 = 0 := by rw [Nat.div_eq_of_lt hlt1]
  have h7 : d / 2 ^ (64 - s) < 18446744073709551616 := Nat.lt_of_le_of_lt (Nat.div_le_self _ _) hd
  have h8 := kU (B := 18446744073709551616) (k := k) (n := D * 2 ^ n + 18446744073709551616 ^ (i + q) * (d * 2 ^ s % 18446744073709551616)) (j := i + q + 1) (v := d / 2 ^ (64 - s)) (by decide) hk ?_ (by rw [h6]; omega)
  ·rw [h6, Nat.zero_add, hfin] at h8
   exact h8
  ·have h9 : 18446744073709551616 ^ (i + q + 1) * (d / 2 ^ (64 - s) + 1) ≤ 18446744073709551616 ^ (i + q + 1) * 18446744073709551616 := Nat.mul_le_mul_left _ h7
   have h10 := hbig (i + q + 1) hk
   rw [Nat.mul_succ] at h9
   omega
 ·intro h0
  subst h0
  rw [← hfin]
  have : d / 2 ^ (64 - 0) = 0 := Nat.div_eq_of_lt (by rw [← hW]; exact hd)
  rw [this]
  simp
theorem vf (A : Option Addr) (n c m : Nat) (xs : List Nat) (w : World) (hx : Sl w A n 1 (cq xs)) (hd : Dg 18446744073709551616 xs) (hn : n ≤ 1000000000) (hm : m ≤ 10000000000) :
  Calls Tryz.prog 195 #[.slice A n c, .int .i64 (m : Int)] w fun e w' => ∃ A c, e = .returned (.slice A (aH 18446744073709551616 (bp 18446744073709551616 xs * 2 ^ m)).length c) ∧ w'.ownsRow w.heap.size 169 1 (.slice A (aH 18446744073709551616 (bp 18446744073709551616 xs * 2 ^ m)).length c) (aH 18446744073709551616 (bp 18446744073709551616 xs * 2 ^ m)).length (cq (aH 18446744073709551616 (bp 18446744073709551616 xs * 2 ^ m))) ∧ Below w.heap.size w w' := by
 have hl := hx.1
 rw [aM] at hl
 have hh := Hp.start w
 have hs1 : ((m : Int) % 64).toNat = m % 64 := by omega
 refine aj (N := 55) (l := [.slice A n c, .int .i64 (m : Int)]) Tryz.func195 rfl rfl (by simp) ?_
 refine sr (aL (aa (sr (mL (a6 (mI ?_))))))
 refine fU rfl rfl (by omega) (by omega) (by omega) (by decide) ?_
 refine bC ?_
 refine bC ?_
 refine fY (n := n + m / 64 + 1) hh rfl rfl (by omega) (by omega) aG.out aC.out rfl (by omega) (by omega) (by decide) ?_
 intro b15 w15 hh
 refine aL (aa (ah (sr (mL (a6 (mI (aa (ao ?_))))))))
 rw [lH] at hh
 refine bD [6, 7, 8, 18, 19, 20, 21, 22, 23, 24, 25, 26, 27, 28, 29, 30, 31, 32, 33, 34, 35, 36, 37, 38, 39, 40, 41, 42, 43, 44, 45, 46, 47, 48, 49, 50, 51, 52] 18
  (fun v w' => ∃ i : Nat, i ≤ n ∧ v = .int .i64 i ∧ Hp w [.row (some ⟨b15, 0, none⟩) (n + m / 64 + 1) (n + m / 64 + 1) 169 1 (cq (bH 18446744073709551616 (n + m / 64 + 1) (bp 18446744073709551616 (xs.take i) * 2 ^ m)))] w')
  (fun v _ => n - (intOf v).toNat) ?_ ?_
 ·exact ⟨0, Nat.zero_le _, rfl, by rw [List.take_zero, bp, Nat.zero_mul, lP]; exact hh⟩
 ·clear hh
  rintro ρ' v w' ⟨i, hi, rfl, hh⟩
  by_cases hlt : i < n
  ·obtain ⟨d, hdi⟩ := aU (l := xs) (k := i) (by omega)
   obtain ⟨ad, rfl, hr⟩ := hx.at_ (by omega)
   have hd2 := dJ hdi
   have hdw := hd.at_ hdi
   have hD := fC (hd.take i)
   rw [List.length_take, Nat.min_eq_left (by omega)] at hD
   obtain ⟨s1, s2, s3, s4, s5, s6⟩ := xW (k := n + m / 64 + 1) (n := m) (bp 18446744073709551616 (xs.take i)) hD hdw (by omega)
   have hg := dJ (fK (B := 18446744073709551616) (n + m / 64 + 1) (bp 18446744073709551616 (xs.take i) * 2 ^ m) (i + m / 64) (by omega))
   refine sr ?_
   refine aQ (aa (ah (cT (al (ai (ah (ao (sr (mI ?_)))))))))
   refine aT aG.out aC.size rfl rfl rfl (by omega) (by decide) ?_
   refine bh aC.out rfl ((hr.ext hh.below).gU (by assumption)) (by decide) ?_
   refine aI (aI (aa (sr (mI (mI ?_)))))
   refine fU rfl rfl (by omega) (by omega) (by omega) (by decide) ?_
   refine bC (aI (aa (ah ?_)))
   refine aN 8 [[(5, none)], [(8, none)], [(27, some 0), (28, some 1)], [(29, some 2)], [(7, none)], [(1, none)], [(32, some 5)], [(31, some 4), (33, some 6)]] [(7, 34), (6, 33), (5, 32), (4, 31), (3, 30), (2, 29), (1, 28), (0, 27)] hh mixed (by kernel_rfl) ?_
   refine iY ?_
   refine ee ?_
   refine xv (i + m / 64) ?_
   refine bk (i := 3) (fun ρ1 w1 hj hR => gH aC.out (show ρ1 29 = Value.pointer _ from hR.1) (hj.hp.cN (i := 0) rfl (by rw [Nat.mul_one]; exact hg))) ?_
   refine ee ?_
   refine ee ?_
   refine bk (i := 6) (fun ρ1 w1 hj hR => ik (show ρ1 32 = Value.int _ _ from hR.1) rfl (by omega) (by omega)) ?_
   refine bk (i := 7) (fun ρ1 w1 hj hR => oa (show ρ1 31 = Value.int _ _ from hR.1) (show ρ1 33 = Value.int _ _ from hR.2.1) (by omega)) ?_
   refine bj ?_
   intro f W hJ hV
   have hb_6 := hJ.bl
   obtain ⟨v34, v33, v32, v31, v30, v29, v28, v27, _⟩ := hV
   replace hh := hJ.hp
   refine aY (bm (ae v34 (ae v33 (ae v32 (ae v31 (ae v30 (ae v29 (ae v28 (ae v27 aX))))))))) ?_
   dsimp only [ct]
   clear hJ
   refine tE rfl rfl (by first | assumption | omega) (by first | assumption | omega) (by decide) ?_
   refine bB (k := i + m / 64) aG.out aC.size rfl rfl (by omega) (by omega) (by decide) ?_
   refine bq hh (i := 0) (vs := [_]) rfl rfl (bO rfl) rfl aC.out rfl (by rw [aM, aF]; omega) rfl ?_
   intro ws hh
   simp only [List.set_cons_zero] at hh
   rw [hs1, s2, si s1, ← s2, Nat.mul_one, bZ (by rw [aM, aF]; omega), eG, s3] at hh
   by_cases h0 : m % 64 = 0
   ·refine aa (sr (mI ?_))
    refine jz rfl rfl (by omega) (by omega) (by decide) ?_
    refine cE (aa (cF (al (aV (ai (ak ?_))))))
    refine bC (mI (aD (ai ?_)))
    rw [s6 h0, ← dT hdi] at hh
    refine ⟨⟨i + 1, by omega, rfl, hh⟩, by show n - (i + 1) < n - i; omega, ?_⟩
    (repeat (first | exact ay _ _ _ | refine az rfl ?_ | refine av rfl ?_))
   ·have hg2 := dJ (fK (B := 18446744073709551616) (n + m / 64 + 1) (bp 18446744073709551616 (xs.take i) * 2 ^ m + 18446744073709551616 ^ (i + m / 64) * (d * 2 ^ (m % 64) % 18446744073709551616)) (i + m / 64 + 1) (by omega))
    rw [s4] at hg2
    have hs2 : (64 - (m : Int) % 64).toNat = 64 - m % 64 := by omega
    have hd64 : d / 2 ^ (64 - (m : Int) % 64).toNat < 18446744073709551616 := Nat.lt_of_le_of_lt (Nat.div_le_self _ _) hdw
    have h0w : (0 : Nat) < 18446744073709551616 := by omega
    refine aa (sr (mI ?_))
    refine jz rfl rfl (by omega) (by omega) (by decide) ?_
    refine cE (aa (cT ?_))
    refine aN 10 [[(5, none)], [(8, none)], [(41, some 1)], [(40, some 0), (42, some 2)], [(43, some 3)], [(7, none)], [(1, none)], [(46, some 6)], [(47, some 7)], [(45, some 5), (48, some 8)]] [(9, 49), (8, 48), (7, 47), (6, 46), (5, 45), (4, 44), (3, 43), (2, 42), (1, 41), (0, 40)] hh mixed (by kernel_rfl) ?_
    refine iY ?_
    refine ee ?_
    refine qJ ?_
    refine xv (i + m / 64 + 1) ?_
    refine bk (i := 4) (fun ρ1 w1 hj hR => gH aC.out (show ρ1 43 = Value.pointer _ from hR.1) (hj.hp.cN (i := 0) rfl (by rw [Nat.mul_one]; exact hg2))) ?_
    refine ee ?_
    refine ee ?_
    refine bk (i := 7) (fun ρ1 w1 hj hR => ik (show ρ1 46 = Value.int _ _ from hR.1) rfl (by omega) (by omega)) ?_
    refine uS ?_
    refine bk (i := 9) (fun ρ1 w1 hj hR => td (show ρ1 45 = Value.int _ _ from hR.1) (show ρ1 48 = Value.int _ _ from hR.2.1) (by omega)) ?_
    refine bj ?_
    intro f W hJ hV
    have hb_8 := hJ.bl
    obtain ⟨v49, v48, v47, v46, v45, v44, v43, v42, v41, v40, _⟩ := hV
    replace hh := hJ.hp
    refine aY (bm (ae v49 (ae v48 (ae v47 (ae v46 (ae v45 (ae v44 (ae v43 (ae v42 (ae v41 (ae v40 aX))))))))))) ?_
    dsimp only [ct]
    clear hJ
    refine tE rfl rfl (by first | assumption | omega) (by first | assumption | omega) (by decide) ?_
    refine bB (k := i + m / 64 + 1) aG.out aC.size rfl rfl (by omega) (by omega) (by decide) ?_
    refine bq hh (i := 0) (vs := [_]) rfl rfl (bO rfl) rfl aC.out rfl (by rw [aM, aF]; omega) rfl ?_
    intro ws hh
    simp only [List.set_cons_zero] at hh
    rw [hs2, Nat.zero_or, Nat.mul_one, bZ (by rw [aM, aF]; omega), eG, s5, ← dT hdi] at hh
    refine aD (aV (ai (ak ?_)))
    refine bC (mI (aD (ai ?_)))
    refine ⟨⟨i + 1, by omega, rfl, hh⟩, by show n - (i + 1) < n - i; omega, ?_⟩
    (repeat (first | exact ay _ _ _ | refine az rfl ?_ | refine av rfl ?_))
  ·refine sr ?_
   refine aQ (aa (ah (cF ?_)))
   refine a0 ?_
   refine aA (aA (bu (ai (sr (mL ?_)))))
   rw [List.take_of_length_le (by omega)] at hh
   refine bF hh (fu _ _ _ (bH 18446744073709551616 (n + m / 64 + 1) (bp 18446744073709551616 xs * 2 ^ m)) _ (hh.aR (i := 0) rfl) (Nat.le_refl _) (by omega)) rfl ?_
   intro w54 hh
   refine aL (aa (aq ?_))
   refine cC ?_
   have hbd : bp 18446744073709551616 xs * 2 ^ m < 18446744073709551616 ^ (n + m / 64 + 1) := by
    have h1 := fC hd
    rw [show xs.length = n by omega] at h1
    have h2 : 2 ^ m ≤ 18446744073709551616 ^ (m / 64 + 1) := by
     rw [show (18446744073709551616 : Nat) = 2 ^ 64 from rfl, ← Nat.pow_mul]
     exact Nat.pow_le_pow_right (by omega) (by omega)
    rw [show n + m / 64 + 1 = n + (m / 64 + 1) by omega, Nat.pow_add]
    exact Nat.lt_of_lt_of_le (Nat.mul_lt_mul_of_pos_right h1 (Nat.pow_pos (by omega))) (Nat.mul_le_mul_left _ h2)
   have hd : df (bH 18446744073709551616 (n + m / 64 + 1) (bp 18446744073709551616 xs * 2 ^ m)) = aH 18446744073709551616 (bp 18446744073709551616 xs * 2 ^ m) := by
    rw [eC (by omega) (dN (by omega) _ _), bW hbd]
   have h1 := (Hp.uv (xs := bH 18446744073709551616 (n + m / 64 + 1) (bp 18446744073709551616 xs * 2 ^ m)) hh (aF _ _)).at_ (i := 0) rfl
   rw [hd] at h1
   rw [hd]
   exact ⟨_, _, rfl, h1, hh.below⟩
end Go.Proofs.YtioilmppidlbnaaGreatDoor
namespace Go.Proofs.YtioilmppidlbnaaGreatDoor
open Go.RowKit
theorem Sl.zd {w : World} {ad : Addr} {n : Nat} {xs : List Nat} (h : Sl w (some ad) n 1 (cq xs)) {k : Nat} (hk : k < n) : Sl w (some (ad.add (k * 1))) (n - k) 1 (cq (xs.drop k)) := by
 have hl := h.1
 rw [aM] at hl
 refine ⟨by rw [aM, List.length_drop]; omega, fun h0 => ⟨_, rfl, ?_⟩⟩
 obtain ⟨ad', he, hr⟩ := h.2 (by omega)
 injection he with he
 subst he
 rw [Nat.mul_one, po]
 exact hr.drop k
theorem u0 {N j s : Nat} (hs : s < 64) (h0 : 0 < s) :
  (N / 18446744073709551616 ^ (j + 1) % 18446744073709551616) * 2 ^ (64 - s) % 18446744073709551616 = N / 18446744073709551616 ^ (j + 1) % 2 ^ s * 2 ^ (64 - s) ∧
  (N / 18446744073709551616 ^ j % 18446744073709551616 / 2 ^ s ||| (N / 18446744073709551616 ^ (j + 1) % 18446744073709551616) * 2 ^ (64 - s) % 18446744073709551616) = N / 2 ^ (64 * j + s) % 18446744073709551616 := by
 have hW : (18446744073709551616 : Nat) = 2 ^ 64 := by decide
 have e : (18446744073709551616 : Nat) = 2 ^ s * 2 ^ (64 - s) := by rw [← Nat.pow_add, hW]; congr 1; omega
 have h1 : (N / 18446744073709551616 ^ (j + 1) % 18446744073709551616) * 2 ^ (64 - s) % 18446744073709551616 = N / 18446744073709551616 ^ (j + 1) % 2 ^ s * 2 ^ (64 - s) := by
  generalize N / 18446744073709551616 ^ (j + 1) = m
  rw [e, Nat.mul_mod_mul_right, Nat.mod_mul_right_mod]
 obtain ⟨h2, h3⟩ := oS N j s hs h0
 exact ⟨h1, by rw [h1, si h2, h3]⟩
theorem qR (A : Option Addr) (n c m : Nat) (xs : List Nat) (w : World) (hx : Sl w A n 1 (cq xs)) (hd : Dg 18446744073709551616 xs) (hc : n ≤ c) (hn : n ≤ 1000000000) (hm : m ≤ 1000000000000) :
  Calls Tryz.prog 196 #[.slice A n c, .int .i64 (m : Int)] w fun e w' => ∃ A c, e = .returned (.slice A (aH 18446744073709551616 (bp 18446744073709551616 xs / 2 ^ m)).length c) ∧ w'.ownsRow w.heap.size 169 1 (.slice A (aH 18446744073709551616 (bp 18446744073709551616 xs / 2 ^ m)).length c) (aH 18446744073709551616 (bp 18446744073709551616 xs / 2 ^ m)).length (cq (aH 18446744073709551616 (bp 18446744073709551616 xs / 2 ^ m))) ∧ Below w.heap.size w w' := by
 have hl := hx.1
 rw [aM] at hl
 have hh := Hp.start w
 have hs1 : ((m : Int) % 64).toNat = m % 64 := by omega
 have hW : (18446744073709551616 : Nat) = 2 ^ 64 := by decide
 have hmm : 2 ^ m = 18446744073709551616 ^ (m / 64) * 2 ^ (m % 64) := by
  rw [hW, ← Nat.pow_mul, ← Nat.pow_add]; congr 1; omega
 have hlt := fC hd
 rw [show xs.length = n by omega] at hlt
 by_cases hbig : n ≤ m / 64
 ·have h0 : bp 18446744073709551616 xs / 2 ^ m = 0 := by
   apply Nat.div_eq_of_lt
   refine Nat.lt_of_lt_of_le hlt (Nat.le_trans (Nat.pow_le_pow_right (by decide) hbig) ?_)
   rw [hmm]
   exact Nat.le_mul_of_pos_right _ (Nat.pow_pos (by omega))
  refine aj (N := 61) (l := [.slice A n c, .int .i64 (m : Int)]) Tryz.func196 rfl rfl (by simp) ?_
  refine sr (aL (aa (ah (sr (mI ?_)))))
  refine fU rfl rfl (by omega) (by omega) (by omega) (by decide) ?_
  refine mL (a6 ?_)
  refine de (aa (cT (sr (aL (aa (aq (a8 ?_)))))))
  refine cC ?_
  rw [h0, eO (by omega)]
  exact ⟨none, 0, rfl, World.ownsRow_nil _ _ _ _, hh.below⟩
 ·obtain ⟨ad, rfl, hr⟩ := hx.at_ (by omega)
  have hsd := hx.zd (k := m / 64) (by omega)
  have hget : ∀ j, j < n → xs[j]? = some (bp 18446744073709551616 xs / 18446744073709551616 ^ j % 18446744073709551616) := fun j hj => by
   obtain ⟨d, hdj⟩ := aU (l := xs) (k := j) (by omega)
   rw [hdj, mN hd hdj]
  refine aj (N := 61) (l := [.slice (some ad) n c, .int .i64 (m : Int)]) Tryz.func196 rfl rfl (by simp) ?_
  refine sr (aL (aa (ah (sr (mI ?_)))))
  refine fU rfl rfl (by omega) (by omega) (by omega) (by decide) ?_
  refine mL (a6 ?_)
  refine de (aa (cF (al (ai (sr (mL (mI ?_)))))))
  refine fU rfl rfl (by omega) (by omega) (by omega) (by decide) ?_
  first | refine m7 (l := m / 64) aG.out aC.size rfl rfl (by omega) (by omega) (by omega) (by omega) (by decide) ?_ | refine mu (l := m / 64) aG.out aC.size rfl rfl (by omega) (by omega) (by omega) (by omega) (by decide) ?_
  refine aJ (j9 _ _ _ 0 _ _ hsd (by omega) (by omega)) ar.out rfl (by decide) ?_
  rintro e_ w_ ⟨b16, rfl, hown_, hb_⟩
  refine ⟨_, rfl, ?_⟩
  replace hh := hh.bg (x := .row _ _ _ _ _ _) hb_ hown_
  rw [Nat.zero_max, Nat.sub_self, List.replicate_zero, List.append_nil] at hh
  rw [Nat.zero_max]
  refine aL (aa (ah (sr (mL (a6 (mI (aa (ao ?_))))))))
  refine bD [6, 19, 20, 21, 22, 23, 24, 25, 26, 27, 28, 29, 30, 31, 32, 33, 34, 35, 36, 37, 38, 39, 40, 41, 42, 43, 44, 45, 46, 47, 48, 49, 50, 51, 52, 53, 54, 55, 56, 57, 58] 19
   (fun v w' => ∃ i : Nat, i ≤ n - m / 64 ∧ v = .int .i64 i ∧ Hp w [.row (some ⟨b16, 0, none⟩) (n - m / 64) (n - m / 64) 169 1 (cq (bH 18446744073709551616 i (bp 18446744073709551616 xs / 2 ^ m) ++ xs.drop (m / 64 + i)))] w')
   (fun v _ => (n - m / 64) - (intOf v).toNat) ?_ ?_
  ·exact ⟨0, Nat.zero_le _, rfl, hh⟩
  ·clear hh
   rintro ρ' v w' ⟨i, hi, rfl, hh⟩
   by_cases hlt2 : i < n - m / 64
   ·have hgi := hget (m / 64 + i) (by omega)
    have hdr : xs.drop (m / 64 + i) = (bp 18446744073709551616 xs / 18446744073709551616 ^ (m / 64 + i) % 18446744073709551616) :: xs.drop (m / 64 + i + 1) := by
     rw [List.drop_eq_getElem_cons (by omega)]
     congr 1
     have := List.getElem?_eq_some_iff.1 hgi
     exact this.2
    have hcell : (bH 18446744073709551616 i (bp 18446744073709551616 xs / 2 ^ m) ++ xs.drop (m / 64 + i))[i]? = some (bp 18446744073709551616 xs / 18446744073709551616 ^ (m / 64 + i) % 18446744073709551616) := by
     rw [List.getElem?_append_right (by rw [aF]; omega), aF, hdr]; simp
    have hg := dJ hcell
    have hset : ∀ y, (bH 18446744073709551616 i (bp 18446744073709551616 xs / 2 ^ m) ++ xs.drop (m / 64 + i)).set i y = bH 18446744073709551616 i (bp 18446744073709551616 xs / 2 ^ m) ++ y :: xs.drop (m / 64 + i + 1) := fun y => by
     rw [hdr, List.set_append_right _ _ (by rw [aF]; omega), aF, Nat.sub_self, List.set_cons_zero]
    have hll : (bH 18446744073709551616 i (bp 18446744073709551616 xs / 2 ^ m) ++ xs.drop (m / 64 + i)).length = n - m / 64 := by rw [List.length_append, aF, List.length_drop]; omega
    have hac : ∀ y, bH 18446744073709551616 i (bp 18446744073709551616 xs / 2 ^ m) ++ y :: xs.drop (m / 64 + i + 1) = (bH 18446744073709551616 i (bp 18446744073709551616 xs / 2 ^ m) ++ [y]) ++ xs.drop (m / 64 + (i + 1)) := fun y => List.append_cons _ _ _
    have hnew : bH 18446744073709551616 (i + 1) (bp 18446744073709551616 xs / 2 ^ m) = bH 18446744073709551616 i (bp 18446744073709551616 xs / 2 ^ m) ++ [bp 18446744073709551616 xs / 2 ^ (64 * (m / 64 + i) + m % 64) % 18446744073709551616] := by
     rw [iy, Nat.div_div_eq_div_mul]
     congr 4
     rw [hW, ← Nat.pow_mul, ← Nat.pow_add]; congr 1; omega
    refine sr ?_
    refine aQ (aa (ah (cT (al (ai (ah (ao (sr (mI (aI (aa ?_)))))))))))
    refine sr (mL (mI ?_))
    refine bB (k := i) aG.out aC.size rfl rfl (by omega) (by omega) (by decide) ?_
    refine bh aC.out rfl (hh.cN (i := 0) rfl (by first | assumption | (simp only [Nat.mul_one]; assumption))) (by decide) ?_
    refine mI ?_
    refine jz rfl rfl (by omega) (by omega) (by decide) ?_
    refine tr rfl rfl (by omega) (by decide) ?_
    refine bB (k := i) aG.out aC.size rfl rfl (by omega) (by omega) (by decide) ?_
    refine bq hh (i := 0) (vs := [_]) rfl rfl (bO rfl) rfl aC.out rfl (by rw [aM, hll]; omega) rfl ?_
    intro ws hh
    simp only [List.set_cons_zero] at hh
    rw [hs1, Nat.mul_one, bZ (by rw [aM, hll]; omega), eG, hset] at hh
    by_cases h0 : m % 64 = 0
    ·have e1 : bp 18446744073709551616 xs / 18446744073709551616 ^ (m / 64 + i) % 18446744073709551616 / 2 ^ (m % 64) = bp 18446744073709551616 xs / 2 ^ (64 * (m / 64 + i) + m % 64) % 18446744073709551616 := by
      rw [h0, Nat.pow_zero, Nat.div_one, Nat.add_zero, Nat.pow_mul, ← hW]
     by_cases hl : i + 1 < n - m / 64
     ·refine aa (sr (mI ?_))
      refine bC (mL (a6 ?_))
      refine aQ (mB ?_)
      first | refine gS ?_ | (refine gT ?_; refine mI ?_) | refine gV ?_
      first | refine gS ?_ | (refine gT ?_; refine jz rfl rfl (by omega) (by omega) (by decide) ?_) | refine gV ?_
      first | refine gS ?_ | (refine gT ?_; refine cE ?_) | refine gV ?_
      first | refine dq ?_ | refine dr ?_
      refine aa (cF (al (aV (ai (ak ?_)))))
      refine bC (mI (aD (ai ?_)))
      rw [e1, hac, ← hnew] at hh
      refine ⟨⟨i + 1, by omega, rfl, hh⟩, by show (n - m / 64) - (i + 1) < (n - m / 64) - i; omega, ?_⟩
      (repeat (first | exact ay _ _ _ | refine az rfl ?_ | refine av rfl ?_))
     ·refine aa (sr (mI ?_))
      refine bC (mL (a6 ?_))
      refine aQ (mB ?_)
      first | refine gS ?_ | (refine gT ?_; refine mI ?_) | refine gV ?_
      first | refine gS ?_ | (refine gT ?_; refine jz rfl rfl (by omega) (by omega) (by decide) ?_) | refine gV ?_
      first | refine gS ?_ | (refine gT ?_; refine cE ?_) | refine gV ?_
      first | refine dq ?_ | refine dr ?_
      refine aa (cF (al (aV (ai (ak ?_)))))
      refine bC (mI (aD (ai ?_)))
      rw [e1, hac, ← hnew] at hh
      refine ⟨⟨i + 1, by omega, rfl, hh⟩, by show (n - m / 64) - (i + 1) < (n - m / 64) - i; omega, ?_⟩
      (repeat (first | exact ay _ _ _ | refine az rfl ?_ | refine av rfl ?_))
    ·by_cases hl : i + 1 < n - m / 64
     ·have hgj := hget (m / 64 + i + 1) (by omega)
      have hgj2 := dJ hgj
      obtain ⟨d1, d2⟩ := u0 (N := bp 18446744073709551616 xs) (j := m / 64 + i) (s := m % 64) (Nat.mod_lt _ (by omega)) (by omega)
      have hcell2 : (bH 18446744073709551616 i (bp 18446744073709551616 xs / 2 ^ m) ++ (bp 18446744073709551616 xs / 18446744073709551616 ^ (m / 64 + i) % 18446744073709551616 / 2 ^ (m % 64)) :: xs.drop (m / 64 + i + 1))[i]? = some (bp 18446744073709551616 xs / 18446744073709551616 ^ (m / 64 + i) % 18446744073709551616 / 2 ^ (m % 64)) := by
       rw [List.getElem?_append_right (by rw [aF]; omega), aF]; simp
      have hg2 := dJ hcell2
      have hset2 : ∀ y z, (bH 18446744073709551616 i (bp 18446744073709551616 xs / 2 ^ m) ++ y :: xs.drop (m / 64 + i + 1)).set i z = bH 18446744073709551616 i (bp 18446744073709551616 xs / 2 ^ m) ++ z :: xs.drop (m / 64 + i + 1) := fun y z => by
       rw [List.set_append_right _ _ (by rw [aF]; omega), aF, Nat.sub_self, List.set_cons_zero]
      have hll2 : ∀ y, (bH 18446744073709551616 i (bp 18446744073709551616 xs / 2 ^ m) ++ y :: xs.drop (m / 64 + i + 1)).length = n - m / 64 := fun y => by rw [List.length_append, aF, List.length_cons, List.length_drop]; omega
      have hs2 : (64 - (m : Int) % 64).toNat = 64 - m % 64 := by omega
      have b1 : bp 18446744073709551616 xs / 18446744073709551616 ^ (m / 64 + i) % 18446744073709551616 / 2 ^ (m % 64) < 18446744073709551616 := Nat.lt_of_le_of_lt (Nat.div_le_self _ _) (Nat.mod_lt _ (by omega))
      have b2 : bp 18446744073709551616 xs / 18446744073709551616 ^ (m / 64 + i + 1) % 18446744073709551616 * 2 ^ (64 - (m : Int) % 64).toNat % 18446744073709551616 < 18446744073709551616 := Nat.mod_lt _ (by omega)
      refine aa (sr (mI ?_))
      refine bC (mL (a6 ?_))
      refine aQ (mB ?_)
      first | refine gS ?_ | (refine gT ?_; refine mI ?_) | refine gV ?_
      first | refine gS ?_ | (refine gT ?_; refine jz rfl rfl (by omega) (by omega) (by decide) ?_) | refine gV ?_
      first | refine gS ?_ | (refine gT ?_; refine cE ?_) | refine gV ?_
      first | refine dq ?_ | refine dr ?_
      refine aa (cT ?_)
      refine aN 16 [[(5, none)], [(6, none)], [(40, some 0), (41, some 1)], [(42, some 2)], [(0, none)], [(1, none)], [(45, some 5)], [(6, none)], [(46, some 6), (47, some 7)], [(48, some 8)], [(44, some 4), (49, some 9)], [(50, some 10)], [(1, none)], [(52, some 12)], [(53, some 13)], [(51, some 11), (54, some 14)]] [(15, 55), (14, 54), (13, 53), (12, 52), (11, 51), (10, 50), (9, 49), (8, 48), (7, 47), (6, 46), (5, 45), (4, 44), (3, 43), (2, 42), (1, 41), (0, 40)] hh mixed (by kernel_rfl) ?_
      refine iY ?_
      refine ee ?_
      refine xv (i) ?_
      refine bk (i := 3) (fun ρ1 w1 hj hR => gH aC.out (show ρ1 42 = Value.pointer _ from hR.1) (hj.hp.cN (i := 0) rfl (by rw [Nat.mul_one]; exact hg2))) ?_
      refine iY ?_
      refine ee ?_
      refine bk (i := 6) (fun ρ1 w1 hj hR => jh (show ρ1 45 = Value.int _ _ from hR.1) rfl (by omega) (by omega) (by omega)) ?_
      refine ee ?_
      refine qJ ?_
      refine qJ ?_
      refine r8 (m / 64 + i + 1) ?_
      refine mU (fun _ hj => (hr.ext hj.hp.below).gU hgj2) ?_
      refine ee ?_
      refine bk (i := 13) (fun ρ1 w1 hj hR => ik (show ρ1 52 = Value.int _ _ from hR.1) rfl (by omega) (by omega)) ?_
      refine uS ?_
      refine bk (i := 15) (fun ρ1 w1 hj hR => oa (show ρ1 51 = Value.int _ _ from hR.1) (show ρ1 54 = Value.int _ _ from hR.2.1) (by omega)) ?_
      refine bj ?_
      intro f W hJ hV
      have hb_9 := hJ.bl
      obtain ⟨v55, v54, v53, v52, v51, v50, v49, v48, v47, v46, v45, v44, v43, v42, v41, v40, _⟩ := hV
      replace hh := hJ.hp
      refine aY (bm (ae v55 (ae v54 (ae v53 (ae v52 (ae v51 (ae v50 (ae v49 (ae v48 (ae v47 (ae v46 (ae v45 (ae v44 (ae v43 (ae v42 (ae v41 (ae v40 aX))))))))))))))))) ?_
      dsimp only [ct]
      clear hJ
      refine tE rfl rfl (by first | assumption | omega) (by first | assumption | omega) (by decide) ?_
      refine bB (k := i) aG.out aC.size rfl rfl (by omega) (by omega) (by decide) ?_
      refine bq hh (i := 0) (vs := [_]) rfl rfl (bO rfl) rfl aC.out rfl (by rw [aM, hll2]; omega) rfl ?_
      intro ws hh
      simp only [List.set_cons_zero] at hh
      rw [hs2, d2, Nat.mul_one, bZ (by rw [aM, hll2]; omega), eG, hset2, hac, ← hnew] at hh
      refine aD (aV (ai (ak ?_)))
      refine bC (mI (aD (ai ?_)))
      refine ⟨⟨i + 1, by omega, rfl, hh⟩, by show (n - m / 64) - (i + 1) < (n - m / 64) - i; omega, ?_⟩
      (repeat (first | exact ay _ _ _ | refine az rfl ?_ | refine av rfl ?_))
     ·have e1 : bp 18446744073709551616 xs / 18446744073709551616 ^ (m / 64 + i) % 18446744073709551616 / 2 ^ (m % 64) = bp 18446744073709551616 xs / 2 ^ (64 * (m / 64 + i) + m % 64) % 18446744073709551616 := by
       obtain ⟨h2, h3⟩ := oS (bp 18446744073709551616 xs) (m / 64 + i) (m % 64) (Nat.mod_lt _ (by omega)) (by omega)
       have h4 : bp 18446744073709551616 xs / 18446744073709551616 ^ (m / 64 + i + 1) = 0 := Nat.div_eq_of_lt (Nat.lt_of_lt_of_le hlt (Nat.pow_le_pow_right (by decide) (by omega)))
       rw [h4] at h3
       simpa using h3
      refine aa (sr (mI ?_))
      refine bC (mL (a6 ?_))
      refine aQ (mB ?_)
      first | refine gS ?_ | (refine gT ?_; refine mI ?_) | refine gV ?_
      first | refine gS ?_ | (refine gT ?_; refine jz rfl rfl (by omega) (by omega) (by decide) ?_) | refine gV ?_
      first | refine gS ?_ | (refine gT ?_; refine cE ?_) | refine gV ?_
      first | refine dq ?_ | refine dr ?_
      refine aa (cF (al (aV (ai (ak ?_)))))
      refine bC (mI (aD (ai ?_)))
      rw [e1, hac, ← hnew] at hh
      refine ⟨⟨i + 1, by omega, rfl, hh⟩, by show (n - m / 64) - (i + 1) < (n - m / 64) - i; omega, ?_⟩
      (repeat (first | exact ay _ _ _ | refine az rfl ?_ | refine av rfl ?_))
   ·obtain rfl : i = n - m / 64 := by omega
    rw [List.drop_eq_nil_of_le (by omega), List.append_nil] at hh
    refine sr ?_
    refine aQ (aa (ah (cF ?_)))
    refine a0 ?_
    refine aA (aA (bu (ai (sr (mL ?_)))))
    refine bF hh (fu _ _ _ (bH 18446744073709551616 (n - m / 64) (bp 18446744073709551616 xs / 2 ^ m)) _ (hh.aR (i := 0) rfl) (Nat.le_refl _) (by omega)) rfl ?_
    intro w60 hh
    refine aL (aa (aq ?_))
    refine cC ?_
    have hbd : bp 18446744073709551616 xs / 2 ^ m < 18446744073709551616 ^ (n - m / 64) := by
     rw [Nat.div_lt_iff_lt_mul (Nat.pow_pos (by omega)), hmm, ← Nat.mul_assoc, ← Nat.pow_add, show n - m / 64 + m / 64 = n by omega]
     exact Nat.lt_of_lt_of_le hlt (Nat.le_mul_of_pos_right _ (Nat.pow_pos (by omega)))
    have hd : df (bH 18446744073709551616 (n - m / 64) (bp 18446744073709551616 xs / 2 ^ m)) = aH 18446744073709551616 (bp 18446744073709551616 xs / 2 ^ m) := by
     rw [eC (by omega) (dN (by omega) _ _), bW hbd]
    have h1 := (Hp.uv (xs := bH 18446744073709551616 (n - m / 64) (bp 18446744073709551616 xs / 2 ^ m)) hh (aF _ _)).at_ (i := 0) rfl
    rw [hd] at h1
    rw [hd]
    exact ⟨_, _, rfl, h1, hh.below⟩
end Go.Proofs.YtioilmppidlbnaaGreatDoor
namespace Go.Proofs.YtioilmppidlbnaaGreatDoor
open Go.RowKit
def bN (a : ByteArray) : Nat := bn a.data.toList
def sN (n : Nat) : ByteArray := str (sb n)
theorem ej (n : Nat) : bN (sN n) = n := by rw [bN, sN, fT, Av]
theorem ic (n : Nat) : (sN n).size = (bx n + 7) / 8 := by rw [sN, ng, u1, tx]
theorem ta {a b : Nat} (h : sN a = sN b) : a = b := by rw [← ej a, h, ej]
theorem gF : sN 0 = ByteArray.mk #[] := by rw [sN, yr]; rfl
theorem oQ (a : ByteArray) : bN a < 256 ^ a.size := by rw [jP]; exact yY _
theorem fg (a : ByteArray) : bx (bN a) ≤ 8 * a.size := by
 apply cL
 have := oQ a
 rwa [show (256 : Nat) = 2 ^ 8 from rfl, ← Nat.pow_mul] at this
theorem vi {n k : Nat} (h : n < 256 ^ k) : (aH 18446744073709551616 n).length ≤ (k + 7) / 8 := by
 apply fw (by omega)
 refine Nat.lt_of_lt_of_le h ?_
 rw [show (256 : Nat) = 2 ^ 8 from rfl, show (18446744073709551616 : Nat) = 2 ^ 64 from rfl, ← Nat.pow_mul, ← Nat.pow_mul]
 exact Nat.pow_le_pow_right (by omega) (by omega)
theorem eL (a : ByteArray) : (aH 18446744073709551616 (bN a)).length ≤ (a.size + 7) / 8 := vi (oQ a)
theorem eW (n : Nat) : Dg 18446744073709551616 (aH 18446744073709551616 n) := (cY (by omega) n).1
theorem eT (n : Nat) : bp 18446744073709551616 (aH 18446744073709551616 n) = n := dm (by omega) n
theorem cR (a : ByteArray) (w : World) (ha : a.size ≤ 1000000000) :
  Calls Tryz.prog 159 #[.string a] w fun e w' => ∃ b c, e = .returned (.slice (some ⟨b, 0, none⟩) (aH 18446744073709551616 (bN a)).length c) ∧ w'.ownsRow w.heap.size 169 1 (.slice (some ⟨b, 0, none⟩) (aH 18446744073709551616 (bN a)).length c) (aH 18446744073709551616 (bN a)).length (cq (aH 18446744073709551616 (bN a))) ∧ Below w.heap.size w w' := u4 a w (by omega)
theorem mo (n : Nat) (w : World) (hn : n < 18446744073709551616) :
  Calls Tryz.prog 143 #[.int .u64 (n : Int)] w fun e w' => e = .returned (.string (sN n)) ∧ Below w.heap.size w w' := by
 have hh := Hp.start w
 refine aj (N := 6) (l := [.int .u64 (n : Int)]) Tryz.func143 rfl rfl (by simp) ?_
 refine sr (aS (aa (sr (mI ?_))))
 refine aZ hh (cs := [_]) aG.out aC.out (aK (bO rfl) bL) rfl rfl (by decide) (by decide) (by decide) rfl (by decide) ?_
 intro b4 w4 hh
 refine bF hh (fq _ _ _ [n] _ (hh.aR (i := 0) rfl) (Dg.cons hn Dg.nil) (Nat.le_refl _) (by omega)) rfl ?_
 intro w5 hh
 refine aS (aa (aq ?_))
 refine cC ?_
 refine ⟨?_, hh.below⟩
 rw [sN]
 simp [bp]
theorem qs (a b : ByteArray) (w : World) (ha : a.size ≤ 1000000000) (hb : b.size ≤ 1000000000) :
  Calls Tryz.prog 200 #[.string a, .string b] w fun e w' => e = .returned (.int .i64 (iE (bN a) (bN b))) ∧ Below w.heap.size w w' := by
 have hh := Hp.start w
 have h1 := eL a
 have h2 := eL b
 refine aj (N := 10) (l := [.string a, .string b]) Tryz.func200 rfl rfl (by simp) ?_
 refine sr (aI (aa (sr (mS ?_))))
 refine aJ (cR a _ ha) ar.out rfl (by decide) ?_
 rintro e_ w6 ⟨A6, c6, rfl, hown_, hb_⟩
 refine ⟨_, rfl, ?_⟩
 replace hh := hh.bg (x := .row _ _ _ _ _ _) hb_ hown_
 refine mS ?_
 refine aJ (cR b _ hb) ar.out rfl (by decide) ?_
 rintro e_ w8 ⟨A8, c8, rfl, hown_, hb_⟩
 refine ⟨_, rfl, ?_⟩
 replace hh := hh.bg (x := .row _ _ _ _ _ _) hb_ hown_
 refine bF hh (km _ _ _ _ _ _ (aH 18446744073709551616 (bN a)) (aH 18446744073709551616 (bN b)) _ (hh.aR (i := 1) rfl) (hh.aR (i := 0) rfl) (eW _) (eW _) (hh.cV (i := 1) rfl) (hh.cV (i := 0) rfl) (by omega) (by omega)) rfl ?_
 intro w9 hh
 rw [eT, eT]
 refine aI (aa (aq ?_))
 refine cC ?_
 exact ⟨rfl, hh.below⟩
theorem jb (a : ByteArray) (w : World) (ha : a.size ≤ 1000000000) :
  Calls Tryz.prog 163 #[.string a] w fun e w' => e = .returned (.int .i64 (bx (bN a))) ∧ Below w.heap.size w w' := by
 have hh := Hp.start w
 have h1 := eL a
 refine aj (N := 6) (l := [.string a]) Tryz.func163 rfl rfl (by simp) ?_
 refine sr (aI (aa (sr (mS ?_))))
 refine aJ (cR a _ ha) ar.out rfl (by decide) ?_
 rintro e_ w4 ⟨A4, c4, rfl, hown_, hb_⟩
 refine ⟨_, rfl, ?_⟩
 replace hh := hh.bg (x := .row _ _ _ _ _ _) hb_ hown_
 refine bF hh (m0 _ _ _ (aH 18446744073709551616 (bN a)) _ (hh.aR (i := 0) rfl) (eW _) (hh.cV (i := 0) rfl) (by omega)) rfl ?_
 intro w5 hh
 rw [eT]
 refine aI (aa (aq ?_))
 refine cC ?_
 exact ⟨rfl, hh.below⟩
theorem lC (n m : Nat) : bx (n * 2 ^ m) ≤ bx n + m := by
 apply cL
 rw [Nat.pow_add]
 exact Nat.mul_lt_mul_of_pos_right (cx n) (Nat.pow_pos (by omega))
theorem nn (n : Nat) : (aH 18446744073709551616 n).length ≤ (bx n + 63) / 64 := by
 apply fw (by omega)
 refine Nat.lt_of_lt_of_le (cx n) ?_
 rw [show (18446744073709551616 : Nat) = 2 ^ 64 from rfl, ← Nat.pow_mul]
 exact Nat.pow_le_pow_right (by omega) (by omega)
theorem qa (a : ByteArray) (m : Nat) (w : World) (ha : a.size ≤ 1000000000) (hm : m ≤ 10000000000) :
  Calls Tryz.prog 161 #[.string a, .int .i64 (m : Int)] w fun e w' => e = .returned (.string (sN (bN a * 2 ^ m))) ∧ Below w.heap.size w w' := by
 have hh := Hp.start w
 have h1 := eL a
 have h2 := nn (bN a * 2 ^ m)
 have h3 := lC (bN a) m
 have h4 := fg a
 have e1 : (if (0 : Int) > (m : Int) then 0 else (m : Int)) = m := if_neg (by omega)
 refine aj (N := 11) (l := [.string a, .int .i64 (m : Int)]) Tryz.func161 rfl rfl (by simp) ?_
 refine sr (aS (aa (sr (mS ?_))))
 refine aJ (cR a _ ha) ar.out rfl (by decide) ?_
 rintro e_ w6 ⟨A6, c6, rfl, hown_, hb_⟩
 refine ⟨_, rfl, ?_⟩
 replace hh := hh.bg (x := .row _ _ _ _ _ _) hb_ hown_
 refine mI ?_
 refine jm rfl rfl (by decide) ?_
 rw [e1]
 refine aJ (vf _ _ _ m (aH 18446744073709551616 (bN a)) _ (hh.aR (i := 0) rfl) (eW _) (by omega) hm) ar.out rfl (by decide) ?_
 rintro e_ w9 ⟨A9, c9, rfl, hown_, hb_⟩
 refine ⟨_, rfl, ?_⟩
 replace hh := hh.bg (x := .row _ _ _ _ _ _) hb_ hown_
 rw [eT] at *
 refine bF hh (fq _ _ _ (aH 18446744073709551616 (bN a * 2 ^ m)) _ (hh.aR (i := 0) rfl) (eW _) (hh.cV (i := 0) rfl) (by omega)) rfl ?_
 intro w10 hh
 rw [eT]
 refine aS (aa (aq ?_))
 refine cC ?_
 exact ⟨rfl, hh.below⟩
theorem k8 (n m : Nat) : bx (n / 2 ^ m) ≤ bx n := by
 apply cL
 exact Nat.lt_of_le_of_lt (Nat.div_le_self _ _) (cx n)
theorem pS (a : ByteArray) (m : Nat) (w : World) (ha : a.size ≤ 1000000000) (hm : m ≤ 1000000000000) :
  Calls Tryz.prog 162 #[.string a, .int .i64 (m : Int)] w fun e w' => e = .returned (.string (sN (bN a / 2 ^ m))) ∧ Below w.heap.size w w' := by
 have hh := Hp.start w
 have h1 := eL a
 have h2 := nn (bN a / 2 ^ m)
 have h3 := k8 (bN a) m
 have h4 := fg a
 have e1 : (if (0 : Int) > (m : Int) then 0 else (m : Int)) = m := if_neg (by omega)
 refine aj (N := 11) (l := [.string a, .int .i64 (m : Int)]) Tryz.func162 rfl rfl (by simp) ?_
 refine sr (aS (aa (sr (mS ?_))))
 refine aJ (cR a _ ha) ar.out rfl (by decide) ?_
 rintro e_ w6 ⟨A6, c6, rfl, hown_, hb_⟩
 refine ⟨_, rfl, ?_⟩
 replace hh := hh.bg (x := .row _ _ _ _ _ _) hb_ hown_
 refine mI ?_
 refine jm rfl rfl (by decide) ?_
 rw [e1]
 refine aJ (qR _ _ _ m (aH 18446744073709551616 (bN a)) _ (hh.aR (i := 0) rfl) (eW _) (hh.cV (i := 0) rfl) (by omega) hm) ar.out rfl (by decide) ?_
 rintro e_ w9 ⟨A9, c9, rfl, hown_, hb_⟩
 refine ⟨_, rfl, ?_⟩
 replace hh := hh.bg (x := .row _ _ _ _ _ _) hb_ hown_
 rw [eT] at *
 refine bF hh (fq _ _ _ (aH 18446744073709551616 (bN a / 2 ^ m)) _ (hh.aR (i := 0) rfl) (eW _) (hh.cV (i := 0) rfl) (by omega)) rfl ?_
 intro w10 hh
 rw [eT]
 refine aS (aa (aq ?_))
 refine cC ?_
 exact ⟨rfl, hh.below⟩
theorem yh {x y : Nat} (h : y ≤ x) : rS 18446744073709551616 (aH 18446744073709551616 x) (aH 18446744073709551616 y) 0 = 0 ∧ bp 18446744073709551616 (mw 18446744073709551616 (aH 18446744073709551616 x) (aH 18446744073709551616 y) 0) = x - y := by
 have := wE (B := 18446744073709551616) (by omega) (aH 18446744073709551616 x) (aH 18446744073709551616 y) 0 (eW _) (eW _) (by omega) (by rw [eT, eT]; omega)
 rw [eT, eT] at this
 exact ⟨this.2, by omega⟩
theorem kM (a b : ByteArray) (w : World) (ha : a.size ≤ 1000000000) (hb : b.size ≤ 1000000000) :
  Calls Tryz.prog 167 #[.string a, .string b] w fun e w' => e = .returned (.tuple #[.string (sN (bN a - bN b)), .bool (decide (bN b ≤ bN a))]) ∧ Below w.heap.size w w' := by
 have hh := Hp.start w
 have h1 := eL a
 have h2 := eL b
 by_cases hlt : bN a < bN b
 ·refine aj (N := 21) (l := [.string a, .string b]) Tryz.func167 rfl rfl (by simp) ?_
  refine sr (aS (aB (aa (sr (mS ?_)))))
  refine aJ (cR a _ ha) ar.out rfl (by decide) ?_
  rintro e_ w9 ⟨A9, c9, rfl, hown_, hb_⟩
  refine ⟨_, rfl, ?_⟩
  replace hh := hh.bg (x := .row _ _ _ _ _ _) hb_ hown_
  refine mS ?_
  refine aJ (cR b _ hb) ar.out rfl (by decide) ?_
  rintro e_ w11 ⟨A11, c11, rfl, hown_, hb_⟩
  refine ⟨_, rfl, ?_⟩
  replace hh := hh.bg (x := .row _ _ _ _ _ _) hb_ hown_
  refine aL (aL (aa (ah (sr (mL (mL ?_))))))
  refine bF hh (km _ _ _ _ _ _ (aH 18446744073709551616 (bN a)) (aH 18446744073709551616 (bN b)) _ (hh.aR (i := 1) rfl) (hh.aR (i := 0) rfl) (eW _) (eW _) (hh.cV (i := 1) rfl) (hh.cV (i := 0) rfl) (by omega) (by omega)) rfl ?_
  intro w14 hh
  rw [eT, eT, iL hlt]
  refine aQ (aa (cT (sr (aS (aB (aa (aq (a8 ?_))))))))
  refine At ?_
  rw [Nat.sub_eq_zero_of_le (by omega), decide_eq_false (by omega), gF]
  exact ⟨rfl, hh.below⟩
 ·obtain ⟨s1, s2⟩ := yh (Nat.le_of_not_lt hlt)
  have hc : ¬ iE (bN a) (bN b) < 0 := by unfold iE; split <;> (try split) <;> omega
  refine aj (N := 21) (l := [.string a, .string b]) Tryz.func167 rfl rfl (by simp) ?_
  refine sr (aS (aB (aa (sr (mS ?_)))))
  refine aJ (cR a _ ha) ar.out rfl (by decide) ?_
  rintro e_ w9 ⟨A9, c9, rfl, hown_, hb_⟩
  refine ⟨_, rfl, ?_⟩
  replace hh := hh.bg (x := .row _ _ _ _ _ _) hb_ hown_
  refine mS ?_
  refine aJ (cR b _ hb) ar.out rfl (by decide) ?_
  rintro e_ w11 ⟨A11, c11, rfl, hown_, hb_⟩
  refine ⟨_, rfl, ?_⟩
  replace hh := hh.bg (x := .row _ _ _ _ _ _) hb_ hown_
  refine aL (aL (aa (ah (sr (mL (mL ?_))))))
  refine bF hh (km _ _ _ _ _ _ (aH 18446744073709551616 (bN a)) (aH 18446744073709551616 (bN b)) _ (hh.aR (i := 1) rfl) (hh.aR (i := 0) rfl) (eW _) (eW _) (hh.cV (i := 1) rfl) (hh.cV (i := 0) rfl) (by omega) (by omega)) rfl ?_
  intro w14 hh
  rw [eT, eT]
  refine aQ (aa (cF (al (ai (sr (mL (mL ?_)))))))
  replace hh := hh.front 1 rfl
  rw [← List.append_nil (aH 18446744073709551616 (bN a)), ← List.nil_append (aH 18446744073709551616 (bN a))] at hh
  have hll := (hh.xO (i := 0) rfl)
  rw [List.nil_append, List.append_nil] at hll
  refine aJ (qF [] (aH 18446744073709551616 (bN a)) [] (aH 18446744073709551616 (bN b)) _ hh (fun w1 cs h => h.aR (i := 1) rfl) (eW _) (eW _) (by omega) (by omega) s1) ar.out rfl (by decide) ?_
  rintro e_ w_ ⟨rfl, hh⟩
  refine ⟨_, rfl, ?_⟩
  simp only [List.nil_append, List.append_nil] at hh
  refine aa (sr (mL ?_))
  refine bF hh (fq _ _ _ (mw 18446744073709551616 (aH 18446744073709551616 (bN a)) (aH 18446744073709551616 (bN b)) 0) _ (hh.aR (i := 0) rfl) (yv (by omega) _ _ _) (hh.cV (i := 0) rfl) (by omega)) rfl ?_
  intro w20 hh
  rw [s2]
  refine aS (aB (aa (aq ?_)))
  refine At ?_
  rw [decide_eq_true (by omega)]
  exact ⟨rfl, hh.below⟩
theorem ql (a b : ByteArray) (w : World) (ha : a.size ≤ 1000000000) (hb : b.size ≤ 1000000000) :
  Calls Tryz.prog 169 #[.string a, .string b] w fun e w' => e = .returned (.string (sN (bN a * bN b))) ∧ Below w.heap.size w w' := by
 have hh := Hp.start w
 have h1 := eL a
 have h2 := eL b
 refine aj (N := 37) (l := [.string a, .string b]) Tryz.func169 rfl rfl (by simp) ?_
 refine sr (aS (aa (sr (mS ?_))))
 refine aJ (cR a _ ha) ar.out rfl (by decide) ?_
 rintro e_ w11 ⟨A11, c11, rfl, hown_, hb_⟩
 refine ⟨_, rfl, ?_⟩
 replace hh := hh.bg (x := .row _ _ _ _ _ _) hb_ hown_
 refine mS ?_
 refine aJ (cR b _ hb) ar.out rfl (by decide) ?_
 rintro e_ w13 ⟨A13, c13, rfl, hown_, hb_⟩
 refine ⟨_, rfl, ?_⟩
 replace hh := hh.bg (x := .row _ _ _ _ _ _) hb_ hown_
 have hxd := eW (bN a)
 have hyd := eW (bN b)
 have hX := eT (bN a)
 have hY := eT (bN b)
 generalize aH 18446744073709551616 (bN a) = xs at *
 generalize aH 18446744073709551616 (bN b) = ys at *
 refine aL (aL (aa (sr (mL (a6 (mL (a6 ?_)))))))
 refine bC ?_
 refine bC ?_
 refine fY (n := xs.length + ys.length + 1) hh rfl rfl (by omega) (by omega) aG.out aC.out rfl (by omega) (by omega) (by decide) ?_
 intro b20 w20 hh
 refine aL (aa (ah (sr (mL (a6 (mI (aa (ao ?_))))))))
 rw [lH] at hh
 refine bD [8, 9, 23, 24, 25, 26, 27, 28, 29, 30, 31, 32, 33, 34] 23
  (fun v w' => ∃ (i : Nat) (L : List Nat), i ≤ xs.length ∧ v = .int .i64 i ∧ Dg 18446744073709551616 L ∧ L.length = xs.length + ys.length + 1 ∧ bp 18446744073709551616 L = bp 18446744073709551616 (xs.take i) * bp 18446744073709551616 ys ∧ Hp w [.row (some ⟨b20, 0, none⟩) (xs.length + ys.length + 1) (xs.length + ys.length + 1) 169 1 (cq L), .row (some ⟨A13, 0, none⟩) ys.length c13 169 1 (cq ys), .row (some ⟨A11, 0, none⟩) xs.length c11 169 1 (cq xs)] w')
  (fun v _ => xs.length - (intOf v).toNat) ?_ ?_
 ·exact ⟨0, _, Nat.zero_le _, rfl, Dg.pC (by omega) _, by simp, by simp [lR, bp], hh⟩
 ·clear hh
  rintro ρ' v w' ⟨i, L, hi, rfl, hLd, hLl, hLv, hh⟩
  by_cases hlt : i < xs.length
  ·obtain ⟨m, hm⟩ := aU (l := xs) (k := i) (by omega)
   have hm2 := dJ hm
   have hmw := hxd.at_ hm
   have hpl : (L.take i).length = i := by rw [List.length_take]; omega
   have hsl : (L.drop i).length = xs.length + ys.length + 1 - i := by rw [List.length_drop]; omega
   refine sr ?_
   refine aQ (aa (ah (cT (al (ai (ah (ao (sr (mI ?_)))))))))
   refine bB (k := i) aG.out aC.size rfl rfl (by omega) (by omega) (by decide) ?_
   refine bh aC.out rfl (hh.cN (i := 2) rfl (by first | assumption | (simp only [Nat.mul_one]; assumption))) (by decide) ?_
   refine aI (aI (aa (ak (mL (mI ?_)))))
   first | refine m7 (l := i) aG.out aC.size rfl rfl (by omega) (by omega) (by omega) (by omega) (by decide) ?_ | refine mu (l := i) aG.out aC.size rfl rfl (by omega) (by omega) (by omega) (by omega) (by decide) ?_
   refine mL (mI ?_)
   have hc := rL (c' := xs.length + ys.length + 1 - i) (ny := ys.length) (cy := c13) (m := m) (Y := some ⟨A13, 0, none⟩) (L.take i) (L.drop i) [] ys _ (by rw [List.append_nil, List.take_append_drop]; exact hh) (fun w1 cs h => h.aR (i := 1) rfl) (hLd.drop i) hyd hmw (by omega) (by omega)
   rw [hpl, hsl, List.append_nil] at hc
   rw [Nat.zero_add, Nat.mul_one]
   refine aJ (hc) ar.out rfl (by decide) ?_
   rintro e_ w_ ⟨rfl, hh⟩
   refine ⟨_, rfl, ?_⟩
   have hlt1 := fC (hxd.take (i + 1))
   have hlt2 := fC hyd
   rw [List.length_take, Nat.min_eq_left (by omega)] at hlt1
   have hsn := dT (B := 18446744073709551616) hm
   have hsplit := gh (B := 18446744073709551616) L i (by omega)
   have hnew : 18446744073709551616 ^ i * (bp 18446744073709551616 (L.drop i) + bp 18446744073709551616 ys * m + 0) + bp 18446744073709551616 (L.take i) = bp 18446744073709551616 (xs.take (i + 1)) * bp 18446744073709551616 ys := by
    rw [hsn, Nat.add_mul, ← hLv, hsplit, Nat.add_zero, Nat.mul_add, Nat.mul_assoc, Nat.mul_comm m]; omega
   have hbd : bp 18446744073709551616 (L.drop i) + bp 18446744073709551616 ys * m + 0 < 18446744073709551616 ^ (L.drop i).length := by
    refine Nat.lt_of_mul_lt_mul_left (a := 18446744073709551616 ^ i) ?_
    rw [← Nat.pow_add, hsl]
    refine Nat.lt_of_le_of_lt (Nat.le_add_right _ (bp 18446744073709551616 (L.take i))) ?_
    rw [hnew]
    refine Nat.lt_of_lt_of_le (Nat.mul_lt_mul'' hlt1 hlt2) ?_
    rw [← Nat.pow_add]
    exact Nat.pow_le_pow_right (by decide) (by omega)
   have hdp := oZ (B := 18446744073709551616) (by omega) _ _ _ _ hbd
   refine aD (aV (ai (ak ?_)))
   refine bC (mI (aD (ai ?_)))
   refine ⟨⟨i + 1, L.take i ++ ff 18446744073709551616 (L.drop i) ys m 0, by omega, rfl, (hLd.take i).append (qH (by omega) _ _ _ _), by rw [List.length_append, kG, hpl, hsl]; omega, ?_, hh⟩, by show xs.length - (i + 1) < xs.length - i; omega, ?_⟩
   ·rw [dV, hdp, hpl, Nat.add_comm]; exact hnew
   (repeat (first | exact ay _ _ _ | refine az rfl ?_ | refine av rfl ?_))
  ·obtain rfl : i = xs.length := by omega
   rw [List.take_length, hX, hY] at hLv
   refine sr ?_
   refine aQ (aa (ah (cF ?_)))
   refine a0 ?_
   refine aA (aA (bu (ai (sr (mL ?_)))))
   refine bF hh (fq _ _ _ L _ (hh.aR (i := 0) rfl) hLd (Nat.le_refl _) (by omega)) rfl ?_
   intro w36 hh
   rw [hLv]
   refine aS (aa (aq ?_))
   refine cC ?_
   exact ⟨rfl, hh.below⟩
theorem xw {n d r k : Nat} (hd : d ≠ 0) (hdw : d < 18446744073709551616) (hn : n = 18446744073709551616 ^ k * (d + 18446744073709551616 * r)) : tz n = 64 * k + tz d := by
 obtain ⟨m, hm⟩ := mM hd
 have ht : tz d < 64 := oU hd (by simpa using hdw)
 have hW : (18446744073709551616 : Nat) = 2 ^ 64 := by decide
 generalize tz d = t at *
 have e : n = 2 ^ (64 * k + t) * (2 * (m + 2 ^ (63 - t) * r) + 1) := by
  rw [hn, Nat.pow_add, Nat.pow_mul, ← hW, Nat.mul_assoc]
  congr 1
  have h1 : 18446744073709551616 = 2 ^ t * (2 * 2 ^ (63 - t)) := by rw [hW, ← Nat.pow_succ', ← Nat.pow_add]; congr 1; omega
  have h2 : 18446744073709551616 * r = 2 ^ t * (2 * 2 ^ (63 - t) * r) := by rw [← Nat.mul_assoc, ← h1]
  rw [h2]
  conv => lhs; rw [hm]
  rw [← Nat.mul_add]
  congr 1
  rw [Nat.mul_add, Nat.mul_assoc]; omega
 rw [e, tP]
theorem gQ (a : ByteArray) (w : World) (ha : a.size ≤ 1000000000) (hT : eN w) :
  Calls Tryz.prog 125 #[.string a] w fun e w' => e = .returned (.int .i64 (tz (bN a))) ∧ Below w.heap.size w w' := by
 have hh := Hp.start w
 have h1 := eL a
 refine aj (N := 21) (l := [.string a]) Tryz.func125 rfl rfl (by simp) ?_
 refine sr (aI (aa (ah (sr (mS ?_)))))
 refine aJ (cR a _ ha) ar.out rfl (by decide) ?_
 rintro e_ w6 ⟨A6, c6, rfl, hown_, hb_⟩
 refine ⟨_, rfl, ?_⟩
 replace hh := hh.bg (x := .row _ _ _ _ _ _) hb_ hown_
 have hxd := eW (bN a)
 have hX := eT (bN a)
 generalize aH 18446744073709551616 (bN a) = xs at *
 refine a6 (mI (aa (ao ?_)))
 refine bD [2, 3, 4, 8, 9, 10, 11, 12, 13, 14, 15, 16, 17, 18, 19, 20] 8
  (fun v w' => ∃ (i : Nat), i ≤ xs.length ∧ v = .int .i64 i ∧ bp 18446744073709551616 (xs.take i) = 0 ∧ Hp w [.row (some ⟨A6, 0, none⟩) xs.length c6 169 1 (cq xs)] w')
  (fun v _ => xs.length - (intOf v).toNat) ?_ ?_
 ·exact ⟨0, Nat.zero_le _, rfl, rfl, hh⟩
 ·clear hh
  rintro ρ' v w' ⟨i, hi, rfl, hz, hh⟩
  by_cases hlt : i < xs.length
  ·obtain ⟨d, hm⟩ := aU (l := xs) (k := i) (by omega)
   have hm2 := dJ hm
   have hmw := hxd.at_ hm
   by_cases h0 : d = 0
   ·subst h0
    refine sr ?_
    refine aQ (aa (ah (cT (al (ai (ah (ao (sr (mI ?_)))))))))
    refine bB (k := i) aG.out aC.size rfl rfl (by omega) (by omega) (by decide) ?_
    refine bh aC.out rfl (hh.cN (i := 0) rfl (by first | assumption | (simp only [Nat.mul_one]; assumption))) (by decide) ?_
    refine aI (aI (aa (sr (mI ?_))))
    refine dR (aa (cF (al (aV (ai (ak ?_))))))
    refine bC (mI (aD (ai ?_)))
    refine ⟨⟨i + 1, by omega, rfl, by rw [dT hm, hz]; simp, hh⟩, by show xs.length - (i + 1) < xs.length - i; omega, ?_⟩
    (repeat (first | exact ay _ _ _ | refine az rfl ?_ | refine av rfl ?_))
   ·have htz : tz (bN a) = 64 * i + tz d := by
     have h3 := gh (B := 18446744073709551616) xs i (by omega)
     have h4 := (List.getElem?_eq_some_iff.1 hm)
     rw [hz, List.drop_eq_getElem_cons hlt, h4.2, bp, hX, Nat.zero_add] at h3
     exact xw h0 hmw h3
    have ht : tz d < 64 := oU h0 (by simpa using hmw)
    refine sr ?_
    refine aQ (aa (ah (cT (al (ai (ah (ao (sr (mI ?_)))))))))
    refine bB (k := i) aG.out aC.size rfl rfl (by omega) (by omega) (by decide) ?_
    refine bh aC.out rfl (hh.cN (i := 0) rfl (by first | assumption | (simp only [Nat.mul_one]; assumption))) (by decide) ?_
    refine aI (aI (aa (sr (mI ?_))))
    refine dR (aa (cT (sr (mI ?_))))
    refine mulC (mI ?_)
    refine bF hh (tt _ _ hmw h0 (hT.hp hh)) rfl ?_
    intro w18 hh
    refine bC (aI (aa (aq (cS (a8 (a8 (cS (a8 ?_))))))))
    refine cC ?_
    refine ⟨?_, hh.below⟩
    congr 2
    omega
  ·refine sr ?_
   refine aQ (aa (ah (cF ?_)))
   refine a0 ?_
   refine aA (aA (bu (ai (sr (aI (aa (aq ?_)))))))
   refine cC ?_
   rw [List.take_of_length_le (by omega), hX] at hz
   rw [hz]
   exact ⟨rfl, hh.below⟩
theorem ye {x y k : Nat} (hx : x < 18446744073709551616 ^ k) (hy : y < 18446744073709551616 ^ k) : bp 18446744073709551616 (ff 18446744073709551616 (aH 18446744073709551616 x ++ List.replicate (k + 1 - (aH 18446744073709551616 x).length) 0) (aH 18446744073709551616 y) 1 0) = x + y := by
 have hl := fw (B := 18446744073709551616) (by omega) hx
 have h1 : bp 18446744073709551616 (aH 18446744073709551616 x ++ List.replicate (k + 1 - (aH 18446744073709551616 x).length) 0) = x := by rw [dV, lR, eT]; simp
 have h2 : (aH 18446744073709551616 x ++ List.replicate (k + 1 - (aH 18446744073709551616 x).length) 0).length = k + 1 := by rw [List.length_append, List.length_replicate]; omega
 rw [oZ (by omega), h1, eT]
 ·omega
 ·rw [h1, h2, eT, Nat.pow_succ]
  have : 0 < 18446744073709551616 ^ k := Nat.pow_pos (by decide)
  omega
theorem lJ (l : List Nat) (x : Nat) : (l ++ [x]).sum = l.sum + x := by simp
theorem pK (L : Option Addr) (n c : Nat) (ss : List ByteArray) (w : World) (hS : Sl w L n 1 (ru ss)) (hn : n ≤ 1000000) (hs : ∀ s ∈ ss, s.size ≤ 1000000000) :
  Calls Tryz.prog 165 #[.slice L n c] w fun e w' => e = .returned (.string (sN (ss.map bN).sum)) ∧ Below w.heap.size w w' := by
 have hsl : ss.length = n := by have := hS.1; rw [mf] at this; omega
 have hh := Hp.start w
 refine aj (N := 31) (l := [.slice L n c]) Tryz.func165 rfl rfl (by simp) ?_
 refine sr (aS (aa (sr (aL (aa (ah (sr (mL (a6 (mI (aa ?_)))))))))))
 refine ao ?_
 replace hh := hh.ew 169 1
 refine cw [3, 5, 6, 9, 10, 11, 12, 13, 14, 15, 16, 17, 18, 19, 20, 21, 22, 23, 24, 25, 26, 27, 28] 3 9
  (fun v j w' => ∃ (i : Nat) (A : Option Addr) (c' T : Nat), i ≤ n ∧ j = .int .i64 i ∧ T = ((ss.take i).map bN).sum ∧ v = .slice A (aH 18446744073709551616 T).length c' ∧ (aH 18446744073709551616 T).length ≤ 125000001 + i ∧ Hp w [.row A (aH 18446744073709551616 T).length c' 169 1 (cq (aH 18446744073709551616 T))] w')
  (fun _ j _ => n - (intOf j).toNat) ?_ ?_
 ·exact ⟨0, none, 0, 0, Nat.zero_le _, rfl, rfl, by rw [eO (by omega)]; rfl, by rw [eO (by omega)]; simp, by rw [eO (by omega)]; exact hh⟩
 ·clear hh
  rintro ρ' v j w' ⟨i, A, c', T, hi, rfl, hT, rfl, hTl, hh⟩
  by_cases hlt : i < n
  ·obtain ⟨s, hsi⟩ := aU (l := ss) (k := i) (by omega)
   obtain ⟨ad, rfl, hr⟩ := hS.at_ (by omega)
   have hs2 := ue hsi
   have hsz := hs s (List.mem_of_getElem? hsi)
   have hlx := eL s
   have hT2 : ((ss.take (i + 1)).map bN).sum = T + bN s := by rw [bo hsi, List.map_append, List.map_singleton, lJ, hT]
   have e1 : (if ((aH 18446744073709551616 (bN s)).length : Int) > ((aH 18446744073709551616 T).length : Int) then ((aH 18446744073709551616 (bN s)).length : Int) else ((aH 18446744073709551616 T).length : Int)) + 1 = ((max (aH 18446744073709551616 T).length (aH 18446744073709551616 (bN s)).length + 1 : Nat) : Int) := by split <;> omega
   have hb1 : T < 18446744073709551616 ^ max (aH 18446744073709551616 T).length (aH 18446744073709551616 (bN s)).length := Nat.lt_of_lt_of_le (jR (by omega) T) (Nat.pow_le_pow_right (by decide) (Nat.le_max_left _ _))
   have hb2 : bN s < 18446744073709551616 ^ max (aH 18446744073709551616 T).length (aH 18446744073709551616 (bN s)).length := Nat.lt_of_lt_of_le (jR (by omega) (bN s)) (Nat.pow_le_pow_right (by decide) (Nat.le_max_right _ _))
   have hadd := ye hb1 hb2
   refine sr ?_
   refine aQ (aa (ah (cT (al (ai (ah (ao (sr ?_))))))))
   refine aT aG.out aC.size rfl rfl rfl (by omega) (by decide) ?_
   refine bh aC.out rfl ((hr.ext hh.below).gU (by assumption)) (by decide) ?_
   refine aS (aa (sr (mS ?_)))
   refine aJ (cR s _ hsz) ar.out rfl (by decide) ?_
   rintro e_ w14 ⟨A14, c14, rfl, hown_, hb_⟩
   refine ⟨_, rfl, ?_⟩
   replace hh := hh.bg (x := .row _ _ _ _ _ _) hb_ hown_
   refine aL (aa (sr (mL (mL (a6 (mL (a6 ?_)))))))
   refine jm rfl rfl (by decide) ?_
   refine bC ?_
   rw [e1]
   generalize hM : max (aH 18446744073709551616 T).length (aH 18446744073709551616 (bN s)).length = M at *
   refine aJ (j9 _ _ _ (M + 1) _ _ (hh.aR (i := 1) rfl) (by omega) (by omega)) ar.out rfl (by decide) ?_
   rintro e_ w_ ⟨b22, rfl, hown_, hb_⟩
   refine ⟨_, rfl, ?_⟩
   replace hh := hh.bg (x := .row _ _ _ _ _ _) hb_ hown_
   have e2 : max (M + 1) (aH 18446744073709551616 T).length = M + 1 := by omega
   rw [e2] at hh
   rw [e2]
   refine aL (aa (sr (mL (mL ?_))))
   have hc := sJ (c' := M + 1) (ny := (aH 18446744073709551616 (bN s)).length) (cy := c14) (Y := some ⟨A14, 0, none⟩) [] (aH 18446744073709551616 T ++ List.replicate (M + 1 - (aH 18446744073709551616 T).length) 0) [] (aH 18446744073709551616 (bN s)) _ (by rw [List.append_nil, List.nil_append]; exact hh) (fun w1 cs h => h.aR (i := 1) rfl) ((eW _).append (Dg.pC (by omega) _)) (eW _) (by rw [List.length_append, List.length_replicate]; omega) (by omega)
   have e3 : (aH 18446744073709551616 T ++ List.replicate (M + 1 - (aH 18446744073709551616 T).length) 0).length = M + 1 := by rw [List.length_append, List.length_replicate]; omega
   rw [e3, List.append_nil, List.nil_append] at hc
   refine aJ (hc) ar.out rfl (by decide) ?_
   rintro e_ w_ ⟨rfl, hh⟩
   refine ⟨_, rfl, ?_⟩
   have hpl : (ff 18446744073709551616 (aH 18446744073709551616 T ++ List.replicate (M + 1 - (aH 18446744073709551616 T).length) 0) (aH 18446744073709551616 (bN s)) 1 0).length = M + 1 := by rw [kG, e3]
   have hpd := qH (B := 18446744073709551616) (by omega) (aH 18446744073709551616 T ++ List.replicate (M + 1 - (aH 18446744073709551616 T).length) 0) (aH 18446744073709551616 (bN s)) 1 0
   generalize ff 18446744073709551616 (aH 18446744073709551616 T ++ List.replicate (M + 1 - (aH 18446744073709551616 T).length) 0) (aH 18446744073709551616 (bN s)) 1 0 = Z at *
   have hcz : df Z = aH 18446744073709551616 (T + bN s) := by rw [eC (by omega) hpd, hadd]
   have hcl := eA Z
   refine aa (ak (mL ?_))
   refine bF hh (fu _ _ _ Z _ (hh.aR (i := 0) rfl) (Nat.le_refl _) (by omega)) rfl ?_
   intro w27 hh
   replace hh := (hh.uv hpl).sub (List.sublist_append_left [_] _)
   rw [hcz] at *
   refine aL (aD (aV (ai (ak ?_))))
   refine bC (mI (aD (ai ?_)))
   refine ⟨⟨i + 1, _, _, T + bN s, by omega, rfl, hT2.symm, rfl, by omega, hh⟩, by show n - (i + 1) < n - i; omega, ?_⟩
   (repeat (first | exact ay _ _ _ | refine az rfl ?_ | refine av rfl ?_))
  ·refine sr ?_
   refine aQ (aa (ah (cF ?_)))
   refine a0 ?_
   refine aA (aA (bu (ai (sr (mL ?_)))))
   refine bF hh (fq _ _ _ (aH 18446744073709551616 T) _ (hh.aR (i := 0) rfl) (eW _) (hh.cV (i := 0) rfl) (by omega)) rfl ?_
   intro w30 hh
   rw [eT]
   refine aS (aa (aq ?_))
   refine cC ?_
   rw [List.take_of_length_le (by omega)] at hT
   rw [hT]
   exact ⟨rfl, hh.below⟩
end Go.Proofs.YtioilmppidlbnaaGreatDoor
namespace Go.Proofs.YtioilmppidlbnaaGreatDoor
open Go.RowKit
theorem sA (s : ByteArray) (l h : Nat) : s.extract l h = str ((s.data.toList.take h).drop l) := by
 apply wa
 rw [fT]
 simp [ByteArray.extract, ByteArray.copySlice, List.drop_take]
def zI : Value → Nat
 | .string t => t.size
 | _ => 0
theorem mX (s : ByteArray) (w : World) :
  Calls Tryz.prog 221 #[.string s, .int .u8 ((0 : UInt8).toNat : Int)] w fun e w' => e = .returned (.string (sN (bN s))) ∧ Below w.heap.size w w' := by
 have hh := Hp.start w
 refine aj (N := 17) (l := [.string s, .int .u8 ((0 : UInt8).toNat : Int)]) Tryz.func221 rfl rfl (by simp) ?_
 refine sr (aS (aa (ah (ao ?_))))
 refine bD [0, 5, 6, 7, 8, 9, 10, 11, 12, 13, 14, 15] 0
  (fun v w' => ∃ l : List UInt8, v = .string (str l) ∧ l.length ≤ s.size ∧ bn l = bN s ∧ w' = w)
  (fun v _ => zI v) ?_ ?_
 ·exact ⟨s.data.toList, by rw [zW]; rfl, by rw [jP]; exact Nat.le_refl _, rfl, rfl⟩
 ·rintro ρ' v w' ⟨l, rfl, hl, hb, rfl⟩
  have hsz := ng l
  cases l with
  | nil =>
   refine ah (sr (mS ?_))
   refine cB aG.out rfl (by decide) ?_
   refine cE (mB ?_)
   first | refine gS ?_ | (refine gT ?_; refine mS ?_) | refine gV ?_
   first | refine gS ?_ | (refine gT ?_; refine bU aG.out rfl rfl (by omega) (by assumption) (by decide) ?_) | refine gV ?_
   first | refine gS ?_ | (refine gT ?_; refine mI ?_) | refine gV ?_
   first | refine gS ?_ | (refine gT ?_; refine dL ?_) | refine gV ?_
   first | refine dq ?_ | refine dr ?_
   refine aa (cF ?_)
   refine a0 ?_
   refine aA (aA (bu (ai (sr (mS (aS (aa (aq ?_))))))))
   refine cC ?_
   rw [sN, ← hb]
   exact ⟨rfl, hh.below⟩
  | cons c l =>
   have hc0 : (str (c :: l)).data.toList[(0 : Int).toNat]? = some c := by rw [fT]; rfl
   have hc8 := c.toNat_lt
   have hlen : (str (c :: l)).size = l.length + 1 := by rw [hsz]; rfl
   have hz : (0 : UInt8).toNat = 0 := rfl
   by_cases h0 : c = 0
   ·subst h0
    refine ah (sr (mS ?_))
    refine cB aG.out rfl (by decide) ?_
    refine cE (mB ?_)
    first | refine gS ?_ | (refine gT ?_; refine mS ?_) | refine gV ?_
    first | refine gS ?_ | (refine gT ?_; refine bU aG.out rfl rfl (by omega) (by assumption) (by decide) ?_) | refine gV ?_
    first | refine gS ?_ | (refine gT ?_; refine mI ?_) | refine gV ?_
    first | refine gS ?_ | (refine gT ?_; refine dL ?_) | refine gV ?_
    first | refine dq ?_ | refine dr ?_
    refine aa (cT (al (ai (ao (ak (mS ?_))))))
    refine mr (l := 1) (h := (str ((0 : UInt8) :: l)).size) aG.out rfl ⟨_, _, rfl, by omega⟩ rfl (by omega) (by omega) (by decide) ?_
    refine aS (aD (aV (ai ?_)))
    rw [sA, fT, List.take_of_length_le (by rw [hlen]; simp), List.drop_succ_cons, List.drop_zero]
    refine ⟨⟨l, rfl, by simp at hl; omega, by rw [← hb, vW], rfl⟩, ?_, ?_⟩
    ·show (str l).size < (str (0 :: l)).size
     rw [hlen, ng]; omega
    (repeat (first | exact ay _ _ _ | refine az rfl ?_ | refine av rfl ?_))
   ·have hcn : c.toNat ≠ 0 := fun h => h0 (UInt8.toNat_inj.1 h)
    refine ah (sr (mS ?_))
    refine cB aG.out rfl (by decide) ?_
    refine cE (mB ?_)
    first | refine gS ?_ | (refine gT ?_; refine mS ?_) | refine gV ?_
    first | refine gS ?_ | (refine gT ?_; refine bU aG.out rfl rfl (by omega) (by assumption) (by decide) ?_) | refine gV ?_
    first | refine gS ?_ | (refine gT ?_; refine mI ?_) | refine gV ?_
    first | refine gS ?_ | (refine gT ?_; refine dL ?_) | refine gV ?_
    first | refine dq ?_ | refine dr ?_
    refine aa (cF ?_)
    refine a0 ?_
    refine aA (aA (bu (ai (sr (mS (aS (aa (aq ?_))))))))
    refine cC ?_
    rw [sN, ← hb, As (by simpa using h0)]
    exact ⟨rfl, hh.below⟩
theorem nF (s : ByteArray) (w : World) :
  Calls Tryz.prog 203 #[.string s, .string (ByteArray.mk #[0])] w fun e w' => e = .returned (.string (sN (bN s))) ∧ Below w.heap.size w w' := by
 have hh := Hp.start w
 have hne : ¬ ByteArray.mk #[(0 : UInt8)] = ByteArray.mk #[] := by intro h; injection h with h; simp at h
 have hsz1 : (ByteArray.mk #[(0 : UInt8)]).size = 1 := rfl
 have hc0 : (ByteArray.mk #[(0 : UInt8)]).data.toList[(0 : Int).toNat]? = some 0 := rfl
 have hz : (0 : UInt8).toNat = 0 := rfl
 by_cases h0 : s = ByteArray.mk #[]
 ·subst h0
  refine aj (N := 37) (l := [.string (ByteArray.mk #[]), .string (ByteArray.mk #[0])]) Tryz.func203 rfl rfl (by simp) ?_
  refine sr (aS (aa (ah (sr (mS ?_)))))
  first | refine ec rfl rfl (by first | rfl | assumption | decide) (by decide) ?_ | refine ek rfl rfl (by first | assumption | decide) (by decide) ?_
  refine mB ?_
  first | refine gS ?_ | (refine gT ?_; refine mS ?_) | refine gV ?_
  first | refine gS ?_ | (refine gT ?_; (first | refine ec rfl rfl (by first | rfl | assumption | decide) (by decide) ?_ | refine ek rfl rfl (by first | assumption | decide) (by decide) ?_)) | refine gV ?_
  first | refine dq ?_ | refine dr ?_
  refine aa (cT (sr (mS (aS (aa (aq (a8 ?_)))))))
  refine cC ?_
  rw [show bN (ByteArray.mk #[]) = 0 from rfl, gF]
  exact ⟨rfl, hh.below⟩
 ·refine aj (N := 37) (l := [.string s, .string (ByteArray.mk #[0])]) Tryz.func203 rfl rfl (by simp) ?_
  refine sr (aS (aa (ah (sr (mS ?_)))))
  first | refine ec rfl rfl (by first | rfl | assumption | decide) (by decide) ?_ | refine ek rfl rfl (by first | assumption | decide) (by decide) ?_
  refine mB ?_
  first | refine gS ?_ | (refine gT ?_; refine mS ?_) | refine gV ?_
  first | refine gS ?_ | (refine gT ?_; (first | refine ec rfl rfl (by first | rfl | assumption | decide) (by decide) ?_ | refine ek rfl rfl (by first | assumption | decide) (by decide) ?_)) | refine gV ?_
  first | refine dq ?_ | refine dr ?_
  refine aa (cF (al (ai (ah (sr (mS ?_))))))
  refine cB aG.out rfl (by decide) ?_
  refine dL (mB ?_)
  first | refine gS ?_ | (refine gT ?_; refine mS ?_) | refine gV ?_
  first | refine gS ?_ | (refine gT ?_; refine bU aG.out rfl rfl (by omega) (by assumption) (by decide) ?_) | refine gV ?_
  first | refine gS ?_ | (refine gT ?_; refine aQ ?_) | refine gV ?_
  first | refine dq ?_ | refine dr ?_
  refine aa (cT (sr (mS (mS ?_))))
  refine bU aG.out rfl rfl (by omega) (by assumption) (by decide) ?_
  refine bF hh (mX s _) rfl ?_
  intro w25 hh
  refine aS (aa (aq (a8 ?_)))
  refine cC ?_
  exact ⟨rfl, hh.below⟩
theorem il (s : ByteArray) (w : World) :
  Calls Tryz.prog 168 #[.string s] w fun e w' => e = .returned (.string (sN (bN s))) ∧ Below w.heap.size w w' := by
 have hh := Hp.start w
 refine aj (N := 5) (l := [.string s]) Tryz.func168 rfl rfl (by simp) ?_
 refine sr (aS (aa (sr (mS ?_))))
 refine bF hh (nF s _) rfl ?_
 intro w4 hh
 refine aS (aa (aq ?_))
 refine cC ?_
 exact ⟨rfl, hh.below⟩
end Go.Proofs.YtioilmppidlbnaaGreatDoor
/- Several texts in one: Whole, WholeB, WholeC, Dy. -/
namespace Go.Proofs.YtioilmppidlbnaaGreatDoor
open Go.RowKit
def iv (s : Bool) (m : ByteArray) : Int := if s then -(bN m : Int) else bN m
def iN (z : Int) : Bool := decide (z < 0)
def iM (z : Int) : ByteArray := sN z.natAbs
theorem eE (z : Int) : iv (iN z) (iM z) = z := by
 unfold iv iN iM
 rw [ej]
 by_cases h : z < 0
 ·rw [decide_eq_true h, if_pos rfl]; omega
 ·rw [decide_eq_false h, if_neg (by simp)]; omega
theorem mK {z : Int} : iM z = ByteArray.mk #[] ↔ z = 0 := by
 rw [iM, ← gF]
 constructor
 ·intro h; have := ta h; omega
 ·intro h; rw [h]; rfl
theorem gO (s : Bool) (m : ByteArray) : (iv s m).natAbs = bN m := by
 unfold iv; split <;> omega
theorem tW (s : Bool) (m : ByteArray) : iM (iv s m) = sN (bN m) := by rw [iM, gO]
theorem y5 (s : Bool) (m : ByteArray) : iN (iv s m) = (s && decide (bN m ≠ 0)) := by
 unfold iN iv
 rw [Bool.eq_iff_iff, Bool.and_eq_true, decide_eq_true_eq, decide_eq_true_eq]
 cases s
 ·simp only [Bool.false_eq_true, if_false, false_and, iff_false]; omega
 ·simp only [if_true, true_and]; omega
theorem gM (s : Bool) (m : ByteArray) (w : World) :
  Calls Tryz.prog 128 #[.agg #[.bool s, .string m]] w fun e w' => e = .returned (.agg #[.string m, .bool s]) ∧ Below w.heap.size w w' := by
 have hh := Hp.start w
 refine aj (N := 8) (l := [.agg #[.bool s, .string m]]) Tryz.func128 rfl rfl (by simp) ?_
 refine sr ?_
 refine cW hh [_,_] ?_
 intro b1 w1 hh
 refine bY hh ?_
 intro b2 w2 hh
 refine aa (sr (bG ?_))
 refine bI hh 1 ?_
 refine bG ?_
 refine bI hh 1 ?_
 refine fS [_,_] ?_
 refine bK hh 0 [_,_] ?_
 intro ws hh
 replace hh : Hp _ (.blk _ _ [_, _] _ :: _) _ := hh
 refine aa (aq ?_)
 refine gC (aO rfl (aP (vs := [_, _]) aC.out (hh.au (i := 0) (n := 2) rfl rfl) rfl) bA) ?_
 exact ⟨rfl, hh.below⟩
theorem cJ (s : Bool) (m : ByteArray) (w : World) :
  Calls Tryz.prog 129 #[.agg #[.string m, .bool s]] w fun e w' => e = .returned (.agg #[.bool (iN (iv s m)), .string (iM (iv s m))]) ∧ Below w.heap.size w w' := by
 have hh := Hp.start w
 rw [y5, tW]
 cases s with
 | false =>
  refine aj (N := 15) (l := [.agg #[.string m, .bool false]]) Tryz.func129 rfl rfl (by simp) ?_
  refine sr ?_
  refine cW hh [_,_] ?_
  intro b1 w1 hh
  refine bY hh ?_
  intro b2 w2 hh
  refine aa (sr (bG ?_))
  refine bI hh 1 ?_
  refine bF hh (il m _) rfl ?_
  intro w6 hh
  refine aS (aa (sr (bG ?_)))
  refine bI hh 1 ?_
  refine mB ?_
  first | refine gS ?_ | (refine gT ?_; refine mS ?_) | refine gV ?_
  first | refine gS ?_ | (refine gT ?_; (first | refine fo rfl rfl (by first | rfl | assumption | decide) (by decide) ?_ | refine fy rfl rfl (by first | assumption | decide) (by decide) ?_)) | refine gV ?_
  first | refine dq ?_ | refine dr ?_
  refine mS ?_
  refine fS [_,_] ?_
  refine bK hh 0 [_,_] ?_
  intro ws hh
  replace hh : Hp _ (.blk _ _ [_, _] _ :: _) _ := hh
  refine aa (aq ?_)
  refine gC (aO rfl (aP (vs := [_, _]) aC.out (hh.au (i := 0) (n := 2) rfl rfl) rfl) bA) ?_
  exact ⟨rfl, hh.below⟩
 | true =>
  by_cases h0 : sN (bN m) = ByteArray.mk #[]
  ·refine aj (N := 15) (l := [.agg #[.string m, .bool true]]) Tryz.func129 rfl rfl (by simp) ?_
   refine sr ?_
   refine cW hh [_,_] ?_
   intro b1 w1 hh
   refine bY hh ?_
   intro b2 w2 hh
   refine aa (sr (bG ?_))
   refine bI hh 1 ?_
   refine bF hh (il m _) rfl ?_
   intro w6 hh
   refine aS (aa (sr (bG ?_)))
   refine bI hh 1 ?_
   refine mB ?_
   first | refine gS ?_ | (refine gT ?_; refine mS ?_) | refine gV ?_
   first | refine gS ?_ | (refine gT ?_; (first | refine fo rfl rfl (by first | rfl | assumption | decide) (by decide) ?_ | refine fy rfl rfl (by first | assumption | decide) (by decide) ?_)) | refine gV ?_
   first | refine dq ?_ | refine dr ?_
   refine mS ?_
   refine fS [_,_] ?_
   refine bK hh 0 [_,_] ?_
   intro ws hh
   replace hh : Hp _ (.blk _ _ [_, _] _ :: _) _ := hh
   refine aa (aq ?_)
   refine gC (aO rfl (aP (vs := [_, _]) aC.out (hh.au (i := 0) (n := 2) rfl rfl) rfl) bA) ?_
   have h1 : bN m = 0 := by rw [← gF] at h0; exact ta h0
   rw [decide_eq_false (by omega)]
   exact ⟨rfl, hh.below⟩
  ·refine aj (N := 15) (l := [.agg #[.string m, .bool true]]) Tryz.func129 rfl rfl (by simp) ?_
   refine sr ?_
   refine cW hh [_,_] ?_
   intro b1 w1 hh
   refine bY hh ?_
   intro b2 w2 hh
   refine aa (sr (bG ?_))
   refine bI hh 1 ?_
   refine bF hh (il m _) rfl ?_
   intro w6 hh
   refine aS (aa (sr (bG ?_)))
   refine bI hh 1 ?_
   refine mB ?_
   first | refine gS ?_ | (refine gT ?_; refine mS ?_) | refine gV ?_
   first | refine gS ?_ | (refine gT ?_; (first | refine fo rfl rfl (by first | rfl | assumption | decide) (by decide) ?_ | refine fy rfl rfl (by first | assumption | decide) (by decide) ?_)) | refine gV ?_
   first | refine dq ?_ | refine dr ?_
   refine mS ?_
   refine fS [_,_] ?_
   refine bK hh 0 [_,_] ?_
   intro ws hh
   replace hh : Hp _ (.blk _ _ [_, _] _ :: _) _ := hh
   refine aa (aq ?_)
   refine gC (aO rfl (aP (vs := [_, _]) aC.out (hh.au (i := 0) (n := 2) rfl rfl) rfl) bA) ?_
   have h1 : bN m ≠ 0 := fun h => h0 (by rw [h, gF])
   rw [decide_eq_true h1]
   exact ⟨rfl, hh.below⟩
def BI (s : Bool) (m : ByteArray) : Value := .agg #[.string m, .bool s]
theorem na (a b : ByteArray) (w : World) (ha : a.size ≤ 1000000000) (hb : b.size ≤ 1000000000) :
  Calls Tryz.prog 166 #[.string a, .string b] w fun e w' => e = .returned (.int .i64 (iE (bN a) (bN b))) ∧ Below w.heap.size w w' := by
 have hh := Hp.start w
 refine aj (N := 8) (l := [.string a, .string b]) Tryz.func166 rfl rfl (by simp) ?_
 refine sr (aI (aa (sr (mS (mS ?_)))))
 refine bF hh (qs a b _ ha hb) rfl ?_
 intro w7 hh
 refine aI (aa (aq ?_))
 refine cC ?_
 exact ⟨rfl, hh.below⟩
theorem jg (s : Bool) (m : ByteArray) (w : World) :
  Calls Tryz.prog 158 #[.agg #[.bool s, .string m]] w fun e w' => e = .returned (.agg #[.bool (iN (iv s m)), .string (iM (iv s m))]) ∧ Below w.heap.size w w' := by
 have hh := Hp.start w
 refine aj (N := 6) (l := [.agg #[.bool s, .string m]]) Tryz.func158 rfl rfl (by simp) ?_
 refine sr ?_
 refine cW hh [_,_] ?_
 intro b1 w1 hh
 refine bY hh ?_
 intro b2 w2 hh
 refine aa (sr ?_)
 refine cD hh 1 [_,_] ?_
 refine bF hh (gM s m _) rfl ?_
 intro w4 hh
 refine bF hh (cJ s m _) rfl ?_
 intro w5 hh
 refine bK hh 0 [_,_] ?_
 intro ws hh
 replace hh : Hp _ (.blk _ _ [_, _] _ :: _) _ := hh
 refine aa (aq ?_)
 refine gC (aO rfl (aP (vs := [_, _]) aC.out (hh.au (i := 0) (n := 2) rfl rfl) rfl) bA) ?_
 exact ⟨rfl, hh.below⟩
theorem nB (s : Bool) (m : ByteArray) (w : World) :
  Calls Tryz.prog 144 #[.agg #[.bool s, .string m]] w fun e w' => e = .returned (.agg #[.bool (iN (-(iv s m))), .string (iM (-(iv s m)))]) ∧ Below w.heap.size w w' := by
 have hh := Hp.start w
 have e1 : iv (!s) m = -(iv s m) := by unfold iv; cases s <;> simp
 refine aj (N := 10) (l := [.agg #[.bool s, .string m]]) Tryz.func144 rfl rfl (by simp) ?_
 refine sr ?_
 refine cW hh [_,_] ?_
 intro b1 w1 hh
 refine bY hh ?_
 intro b2 w2 hh
 refine aa (sr (bG ?_))
 refine bI hh 1 ?_
 refine bG ?_
 refine bI hh 1 ?_
 refine pU ?_
 refine fS [_,_] ?_
 refine bF hh (cJ (!s) m _) rfl ?_
 intro w9 hh
 rw [e1]
 refine bK hh 0 [_,_] ?_
 intro ws hh
 replace hh : Hp _ (.blk _ _ [_, _] _ :: _) _ := hh
 refine aa (aq ?_)
 refine gC (aO rfl (aP (vs := [_, _]) aC.out (hh.au (i := 0) (n := 2) rfl rfl) rfl) bA) ?_
 exact ⟨rfl, hh.below⟩
theorem mh (s : Bool) (m : ByteArray) (w : World) :
  Calls Tryz.prog 124 #[.agg #[.bool s, .string m]] w fun e w' => e = .returned (.int .i64 (iv s m).sign) ∧ Below w.heap.size w w' := by
 have hh := Hp.start w
 by_cases h1 : iv s m < 0
 ·have hn : iN (iv s m) = true := decide_eq_true h1
  refine aj (N := 13) (l := [.agg #[.bool s, .string m]]) Tryz.func124 rfl rfl (by simp) ?_
  refine sr ?_
  refine cW hh [_,_] ?_
  intro b1 w1 hh
  refine aI (aa (sr ?_))
  refine cD hh 0 [_,_] ?_
  refine bF hh (jg s m _) rfl ?_
  intro w5 hh
  rw [hn]
  refine bY hh ?_
  intro b3 w3 hh
  refine bK hh 0 [_,_] ?_
  intro ws hh
  replace hh : Hp _ (.blk _ _ [_, _] _ :: _) _ := hh
  refine aa (ah (ao (sr (bG ?_))))
  refine bI hh 0 ?_
  refine aB (aa (cT (sr (aI (aa (aq (cS (a8 ?_))))))))
  refine cC ?_
  exact ⟨by rw [Int.sign_eq_neg_one_of_neg h1], hh.below⟩
 ·have hn : iN (iv s m) = false := decide_eq_false h1
  by_cases h0 : iM (iv s m) = ByteArray.mk #[]
  ·refine aj (N := 13) (l := [.agg #[.bool s, .string m]]) Tryz.func124 rfl rfl (by simp) ?_
   refine sr ?_
   refine cW hh [_,_] ?_
   intro b1 w1 hh
   refine aI (aa (sr ?_))
   refine cD hh 0 [_,_] ?_
   refine bF hh (jg s m _) rfl ?_
   intro w5 hh
   rw [hn]
   refine bY hh ?_
   intro b3 w3 hh
   refine bK hh 0 [_,_] ?_
   intro ws hh
   replace hh : Hp _ (.blk _ _ [_, _] _ :: _) _ := hh
   refine aa (ah (ao (sr (bG ?_))))
   refine bI hh 0 ?_
   refine aB (aa (cF (sr (bG ?_))))
   refine bI hh 0 ?_
   first | refine ec rfl rfl (by first | rfl | assumption | decide) (by decide) ?_ | refine ek rfl rfl (by first | assumption | decide) (by decide) ?_
   refine aB (aa (cT (sr (aI (aa (aq (cS (a8 ?_))))))))
   refine cC ?_
   exact ⟨by rw [mK.1 h0]; rfl, hh.below⟩
  ·have h2 : 0 < iv s m := by
    have : iv s m ≠ 0 := fun h => h0 (mK.2 h)
    omega
   refine aj (N := 13) (l := [.agg #[.bool s, .string m]]) Tryz.func124 rfl rfl (by simp) ?_
   refine sr ?_
   refine cW hh [_,_] ?_
   intro b1 w1 hh
   refine aI (aa (sr ?_))
   refine cD hh 0 [_,_] ?_
   refine bF hh (jg s m _) rfl ?_
   intro w5 hh
   rw [hn]
   refine bY hh ?_
   intro b3 w3 hh
   refine bK hh 0 [_,_] ?_
   intro ws hh
   replace hh : Hp _ (.blk _ _ [_, _] _ :: _) _ := hh
   refine aa (ah (ao (sr (bG ?_))))
   refine bI hh 0 ?_
   refine aB (aa (cF (sr (bG ?_))))
   refine bI hh 0 ?_
   first | refine ec rfl rfl (by first | rfl | assumption | decide) (by decide) ?_ | refine ek rfl rfl (by first | assumption | decide) (by decide) ?_
   refine aB (aa (cF (al (aV (ai (sr (aI (aa (aq ?_)))))))))
   refine cC ?_
   exact ⟨by rw [Int.sign_eq_one_of_pos h2], hh.below⟩
theorem dv (z : Int) : (iM z).size = (bx z.natAbs + 7) / 8 := ic _
def oE (s t : Bool) (a b : ByteArray) : Bool := if s = t then s else if bN a < bN b then t else s
theorem yn (s t : Bool) (a b : ByteArray) : iv (oE s t a b) (iM (iv s a + iv t b)) = iv s a + iv t b := by
 unfold iM iv
 rw [ej]
 unfold oE
 cases s <;> cases t <;> simp <;> (try split) <;> (try simp) <;> omega
theorem rO (s t : Bool) (a b : ByteArray) : iv (s != t) (iM (iv s a * iv t b)) = iv s a * iv t b := by
 rw [iM, Int.natAbs_mul, gO, gO]
 unfold iv
 rw [ej]
 cases s <;> cases t <;> simp [Int.mul_neg, Int.neg_mul]
theorem rK (s t : Bool) (a b : ByteArray) (w : World) (ha : a.size ≤ 1000000000) (hb : b.size ≤ 1000000000) :
  Calls Tryz.prog 127 #[.agg #[.string a, .bool s], .agg #[.string b, .bool t]] w fun e w' => e = .returned (.agg #[.string (iM (iv s a + iv t b)), .bool (oE s t a b)]) ∧ Below w.heap.size w w' := by
 have hh := Hp.start w
 have hiv : ∀ (u : Bool) (n : Nat) (z : Int), (z = if u then -(n : Int) else n) → sN n = iM z := by
  intro u n z hz
  have h1 : z.natAbs = n := by rw [hz]; split <;> omega
  rw [iM, h1]
 by_cases hst : s = t
 ·subst hst
  have e1 := hiv s (bN a + bN b) (iv s a + iv s b) (by unfold iv; split <;> omega)
  refine aj (N := 41) (l := [.agg #[.string a, .bool s], .agg #[.string b, .bool s]]) Tryz.func127 rfl rfl (by simp) ?_
  refine sr ?_
  refine cW hh [_,_] ?_
  intro b2 w2 hh
  refine cW hh [_,_] ?_
  intro b3 w3 hh
  refine bY hh ?_
  intro b4 w4 hh
  refine aa (ah (sr (bG ?_)))
  refine bI hh 2 ?_
  refine bG ?_
  refine bI hh 1 ?_
  first | refine jF aG.out rfl rfl (by first | rfl | assumption) (by decide) ?_ | refine jV aG.out rfl rfl (by first | rfl | assumption | decide) (by decide) ?_ | refine s_eql_bool aG.out rfl rfl (by decide) ?_
  refine aa (cT (ah ?_))
  refine aN 8 [[(2, none)], [(12, some 0)], [(3, none)], [(14, some 2)], [(13, some 1), (15, some 3)], [(16, some 4)], [(2, none)], [(18, some 6)]] [(7, 19), (6, 18), (5, 17), (4, 16), (3, 15), (2, 14), (1, 13), (0, 12)] hh mixed (by kernel_rfl) ?_
  refine eZ ?_
  refine fZ 2 ?_
  refine eZ ?_
  refine fZ 1 ?_
  refine uM [_,_] ?_
  refine bJ (i := 5) (Is (.string (sN (bN a + bN b)))) Is.ext ?_ ?_
  ·intro ρ1 w1 hj hR
   obtain ⟨A16, c16, h16, s16⟩ := hR.1
   exact bQ rfl (bE ar.out (aE h16 bz)) (pK A16 2 c16 [a, b] _ s16 (by omega) (by simp; omega)) (fun _ _ hq => ⟨_, hq.1, hq.2, rfl⟩)
  refine eZ ?_
  refine fZ 2 ?_
  refine bj ?_
  intro f W hJ hV
  have hb_2 := hJ.bl
  obtain ⟨v19, v18, v17, v16, v15, v14, v13, v12, _⟩ := hV
  obtain ⟨A16, c16, e16, f16⟩ : Rows _ _ _ (f 4) W := v16
  replace hh := hJ.hp
  refine aY (bm (ae v19 (ae v18 (ae v17 (ae e16 (ae v15 (ae v14 (ae v13 (ae v12 aX))))))))) ?_
  dsimp only [ct]
  clear e16 hJ
  refine fS [_,_] ?_
  refine bK hh 0 [_,_] ?_
  intro ws hh
  replace hh : Hp _ (.blk _ _ [_, _] _ :: _) _ := hh
  refine aa (aq (a8 ?_))
  refine gC (aO rfl (aP (vs := [_, _]) aC.out (hh.au (i := 0) (n := 2) rfl rfl) rfl) bA) ?_
  rw [e1, oE, if_pos rfl]
  exact ⟨rfl, hh.below⟩
 ·by_cases hlt : bN a < bN b
  ·have e1 := hiv t (bN b - bN a) (iv s a + iv t b) (by unfold iv; cases s <;> cases t <;> simp at hst ⊢ <;> omega)
   refine aj (N := 41) (l := [.agg #[.string a, .bool s], .agg #[.string b, .bool t]]) Tryz.func127 rfl rfl (by simp) ?_
   refine sr ?_
   refine cW hh [_,_] ?_
   intro b2 w2 hh
   refine cW hh [_,_] ?_
   intro b3 w3 hh
   refine bY hh ?_
   intro b4 w4 hh
   refine aa (ah (sr (bG ?_)))
   refine bI hh 2 ?_
   refine bG ?_
   refine bI hh 1 ?_
   first | refine jF aG.out rfl rfl (by first | rfl | assumption) (by decide) ?_ | refine jV aG.out rfl rfl (by first | rfl | assumption | decide) (by decide) ?_ | refine s_eql_bool aG.out rfl rfl (by decide) ?_
   refine aa (cF (al (ai (ah (sr (bG ?_))))))
   refine bI hh 2 ?_
   refine bG ?_
   refine bI hh 1 ?_
   refine bF hh (na a b _ ha hb) rfl ?_
   intro w25 hh
   rw [iL hlt]
   refine aQ (aa (cT (ak ?_)))
   refine cD hh 1 [_,_] ?_
   refine cD hh 2 [_,_] ?_
   refine bK hh 2 [_,_] ?_
   intro ws hh
   replace hh : Hp _ (_ :: _ :: .blk _ _ [_, _] _ :: _) _ := hh
   refine bK hh 1 [_,_] ?_
   intro ws hh
   replace hh : Hp _ (_ :: .blk _ _ [_, _] _ :: _) _ := hh
   refine aa (sr (bG ?_))
   refine bI hh 2 ?_
   refine bG ?_
   refine bI hh 1 ?_
   refine bF hh (kM b a _ hb ha) rfl ?_
   intro w34 hh
   refine mT ?_
   refine dY ?_
   refine dY ?_
   refine aS (aB (aa (sr (mS (bG ?_)))))
   refine bI hh 2 ?_
   refine fS [_,_] ?_
   refine bK hh 0 [_,_] ?_
   intro ws hh
   replace hh : Hp _ (.blk _ _ [_, _] _ :: _) _ := hh
   refine aa (aq ?_)
   refine gC (aO rfl (aP (vs := [_, _]) aC.out (hh.au (i := 0) (n := 2) rfl rfl) rfl) bA) ?_
   rw [e1, oE, if_neg hst, if_pos hlt]
   exact ⟨rfl, hh.below⟩
  ·have e1 := hiv s (bN a - bN b) (iv s a + iv t b) (by unfold iv; cases s <;> cases t <;> simp at hst ⊢ <;> omega)
   have hc : ¬ iE (bN a) (bN b) < 0 := by unfold iE; split <;> (try split) <;> omega
   refine aj (N := 41) (l := [.agg #[.string a, .bool s], .agg #[.string b, .bool t]]) Tryz.func127 rfl rfl (by simp) ?_
   refine sr ?_
   refine cW hh [_,_] ?_
   intro b2 w2 hh
   refine cW hh [_,_] ?_
   intro b3 w3 hh
   refine bY hh ?_
   intro b4 w4 hh
   refine aa (ah (sr (bG ?_)))
   refine bI hh 2 ?_
   refine bG ?_
   refine bI hh 1 ?_
   first | refine jF aG.out rfl rfl (by first | rfl | assumption) (by decide) ?_ | refine jV aG.out rfl rfl (by first | rfl | assumption | decide) (by decide) ?_ | refine s_eql_bool aG.out rfl rfl (by decide) ?_
   refine aa (cF (al (ai (ah (sr (bG ?_))))))
   refine bI hh 2 ?_
   refine bG ?_
   refine bI hh 1 ?_
   refine bF hh (na a b _ ha hb) rfl ?_
   intro w25 hh
   refine aQ (aa (cF (al (ai (sr (bG ?_))))))
   refine bI hh 2 ?_
   refine bG ?_
   refine bI hh 1 ?_
   refine bF hh (kM a b _ ha hb) rfl ?_
   intro w34 hh
   refine mT ?_
   refine dY ?_
   refine dY ?_
   refine aS (aB (aa (sr (mS (bG ?_)))))
   refine bI hh 2 ?_
   refine fS [_,_] ?_
   refine bK hh 0 [_,_] ?_
   intro ws hh
   replace hh : Hp _ (.blk _ _ [_, _] _ :: _) _ := hh
   refine aa (aq ?_)
   refine gC (aO rfl (aP (vs := [_, _]) aC.out (hh.au (i := 0) (n := 2) rfl rfl) rfl) bA) ?_
   rw [e1, oE, if_neg hst, if_neg hlt]
   exact ⟨rfl, hh.below⟩
theorem kX (s t : Bool) (a b : ByteArray) (w : World) (ha : a.size ≤ 1000000000) (hb : b.size ≤ 1000000000) :
  Calls Tryz.prog 130 #[.agg #[.string a, .bool s], .agg #[.string b, .bool t]] w fun e w' => e = .returned (.agg #[.string (iM (iv s a * iv t b)), .bool (s != t)]) ∧ Below w.heap.size w w' := by
 have hh := Hp.start w
 have e0 : (iv s a * iv t b).natAbs = bN a * bN b := by rw [Int.natAbs_mul, gO, gO]
 have e1 : iM (iv s a * iv t b) = sN (bN a * bN b) := by rw [iM, e0]
 refine aj (N := 16) (l := [.agg #[.string a, .bool s], .agg #[.string b, .bool t]]) Tryz.func130 rfl rfl (by simp) ?_
 refine sr ?_
 refine cW hh [_,_] ?_
 intro b2 w2 hh
 refine cW hh [_,_] ?_
 intro b3 w3 hh
 refine bY hh ?_
 intro b4 w4 hh
 refine aa (ah ?_)
 refine aN 10 [[(2, none)], [(5, some 0)], [(3, none)], [(7, some 2)], [(6, some 1), (8, some 3)], [(2, none)], [(10, some 5)], [(3, none)], [(12, some 7)], [(11, some 6), (13, some 8)]] [(9, 14), (8, 13), (7, 12), (6, 11), (5, 10), (4, 9), (3, 8), (2, 7), (1, 6), (0, 5)] hh mixed (by kernel_rfl) ?_
 refine eZ ?_
 refine fZ 2 ?_
 refine eZ ?_
 refine fZ 1 ?_
 refine dC (fun _ hj => ql a b _ ha hb) ?_
 refine eZ ?_
 refine fZ 2 ?_
 refine eZ ?_
 refine fZ 1 ?_
 first | refine bk (i := 9) (fun ρ1 w1 hj hR => tF aG.out (show ρ1 11 = Value.bool _ from hR.1) (show ρ1 13 = Value.bool _ from hR.2.1) (by first | rfl | assumption)) ?_ | refine bk (i := 9) (fun ρ1 w1 hj hR => tK aG.out (show ρ1 11 = Value.bool _ from hR.1) (show ρ1 13 = Value.bool _ from hR.2.1) (by first | assumption | decide)) ?_ | refine bk (i := 9) (fun ρ1 w1 hj hR => kq aG.out (show ρ1 11 = Value.bool _ from hR.1) (show ρ1 13 = Value.bool _ from hR.2.1)) ?_
 refine bj ?_
 intro f W hJ hV
 have hb_1 := hJ.bl
 obtain ⟨v14, v13, v12, v11, v10, v9, v8, v7, v6, v5, _⟩ := hV
 replace hh := hJ.hp
 refine aY (bm (ae v14 (ae v13 (ae v12 (ae v11 (ae v10 (ae v9 (ae v8 (ae v7 (ae v6 (ae v5 aX))))))))))) ?_
 dsimp only [ct]
 clear hJ
 refine fS [_,_] ?_
 refine bK hh 0 [_,_] ?_
 intro ws hh
 replace hh : Hp _ (.blk _ _ [_, _] _ :: _) _ := hh
 refine aa (aq ?_)
 refine gC (aO rfl (aP (vs := [_, _]) aC.out (hh.au (i := 0) (n := 2) rfl rfl) rfl) bA) ?_
 rw [e1]
 exact ⟨rfl, hh.below⟩
theorem jZ (n : Int) (w : World) (h1 : -9223372036854775808 ≤ n) (h2 : n ≤ 9223372036854775807) :
  Calls Tryz.prog 95 #[.int .i64 n] w fun e w' => e = .returned (.agg #[.bool (iN n), .string (iM n)]) ∧ Below w.heap.size w w' := by
 have hh := Hp.start w
 by_cases h0 : n < 0
 ·have e1 : iv true (sN n.natAbs) = n := by unfold iv; rw [ej, if_pos rfl]; omega
  have hw : IntKind.u64.wrap n = ((18446744073709551616 - n.natAbs : Nat) : Int) := by
   rw [show n = ((18446744073709551616 - n.natAbs : Nat) : Int) + -((18446744073709551616 : Nat) : Int) by omega]
   have := UK.wrap_add (k := .u64) (((18446744073709551616 - n.natAbs : Nat) : Int) + -((18446744073709551616 : Nat) : Int))
   rw [← this, Int.neg_add_cancel_right, UK.kS (by omega)]
   omega
  have hn : (18446744073709551616 - (18446744073709551616 - n.natAbs)) % 18446744073709551616 = n.natAbs := by omega
  refine aj (N := 16) (l := [.int .i64 n]) Tryz.func95 rfl rfl (by simp) ?_
  refine sr ?_
  refine bY hh ?_
  intro b2 w2 hh
  refine aa (ah (sr (mI ?_)))
  refine aQ (aa (cT (sr (mI ?_))))
  refine sT aG.out aG.out rfl (by decide) ?_
  rw [hw]
  refine wB rfl (by omega) (by decide) ?_
  rw [hn]
  skip
  refine bF hh (mo n.natAbs _ (by omega)) rfl ?_
  intro w8 hh
  refine fS [_,_] ?_
  refine bF hh (cJ true (sN n.natAbs) _) rfl ?_
  intro w10 hh
  rw [e1]
  refine bK hh 0 [_,_] ?_
  intro ws hh
  replace hh : Hp _ (.blk _ _ [_, _] _ :: _) _ := hh
  refine aa (aq (a8 ?_))
  refine gC (aO rfl (aP (vs := [_, _]) aC.out (hh.au (i := 0) (n := 2) rfl rfl) rfl) bA) ?_
  exact ⟨rfl, hh.below⟩
 ·obtain ⟨m, rfl⟩ := Int.eq_ofNat_of_zero_le (by omega : 0 ≤ n)
  have e1 : iv false (sN m) = m := by unfold iv; rw [ej]; simp
  have hm : m < 18446744073709551616 := by omega
  refine aj (N := 16) (l := [.int .i64 (m : Int)]) Tryz.func95 rfl rfl (by simp) ?_
  refine sr ?_
  refine bY hh ?_
  intro b2 w2 hh
  refine aa (ah (sr (mI ?_)))
  refine aQ (aa (cF (al (ai (sr (mI ?_))))))
  first | refine cP aG.out aG.out rfl (by first | assumption | omega) (by decide) ?_ | refine eP aG.out aG.out rfl (by decide) ?_
  refine bF hh (mo m _ hm) rfl ?_
  intro w13 hh
  refine fS [_,_] ?_
  refine bF hh (cJ false (sN m) _) rfl ?_
  intro w15 hh
  rw [e1]
  refine bK hh 0 [_,_] ?_
  intro ws hh
  replace hh : Hp _ (.blk _ _ [_, _] _ :: _) _ := hh
  refine aa (aq ?_)
  refine gC (aO rfl (aP (vs := [_, _]) aC.out (hh.au (i := 0) (n := 2) rfl rfl) rfl) bA) ?_
  exact ⟨rfl, hh.below⟩
end Go.Proofs.YtioilmppidlbnaaGreatDoor
namespace Go.Proofs.YtioilmppidlbnaaGreatDoor
open Go.RowKit
structure IR where
 neg : Bool
 br : ByteArray
def IR.cells (a : IR) : List Value := [.bool a.neg, .string a.br]
def IR.v (a : IR) : Int := iv a.neg a.br
def iR (z : Int) : IR := ⟨iN z, iM z⟩
theorem AF (z : Int) : (iR z).v = z := eE z
theorem IR.len (a : IR) : a.cells.length = 2 := rfl
theorem kP (x y : Int) : bx (x + y).natAbs ≤ max (bx x.natAbs) (bx y.natAbs) + 1 := by
 apply cL
 have h1 := cx x.natAbs
 have h2 := cx y.natAbs
 have h3 : 2 ^ bx x.natAbs ≤ 2 ^ max (bx x.natAbs) (bx y.natAbs) := Nat.pow_le_pow_right (by omega) (Nat.le_max_left _ _)
 have h4 : 2 ^ bx y.natAbs ≤ 2 ^ max (bx x.natAbs) (bx y.natAbs) := Nat.pow_le_pow_right (by omega) (Nat.le_max_right _ _)
 rw [Nat.pow_succ]
 omega
theorem hZ (s : Bool) (m : ByteArray) : bx (iv s m).natAbs ≤ 8 * m.size := by rw [gO]; exact fg m
theorem vh (l : List Int) (x : Int) : (l ++ [x]).sum = l.sum + x := by simp
theorem nA (L : Option Addr) (n c : Nat) (l : List IR) (w : World) (hS : Sl w L n 2 (a9 IR.cells l)) (hn : n ≤ 1000000) (hs : ∀ s ∈ l, s.br.size ≤ 100000000) :
  Calls Tryz.prog 73 #[.slice L n c] w fun e w' => e = .returned (.agg #[.bool (iN (l.map IR.v).sum), .string (iM (l.map IR.v).sum)]) ∧ Below w.heap.size w w' := by
 have hl := hS.eb IR.len (by omega)
 have hh := Hp.start w
 refine aj (N := 19) (l := [.slice L n c]) Tryz.func73 rfl rfl (by simp) ?_
 refine sr ?_
 refine bY hh ?_
 intro b2 w2 hh
 refine aa (sr ?_)
 refine bY hh ?_
 intro b3 w3 hh
 refine aa (ah (sr (mL (a6 (mI (aa (ao ?_)))))))
 refine bD [5, 8, 9, 10, 11, 12, 13, 14, 15, 16] 8
  (fun j w' => ∃ (i : Nat) (u : Bool) (S : Int), i ≤ n ∧ j = .int .i64 i ∧ S = ((l.take i).map IR.v).sum ∧ iv u (iM S) = S ∧ bx S.natAbs ≤ 800000000 + i ∧ Hp w [.blk b3 153 [.string (iM S), .bool u] (0, 0), .blk b2 37 [.bool false, .string (ByteArray.mk #[])] (0, 0)] w')
  (fun j _ => n - (intOf j).toNat) ?_ ?_
 ·exact ⟨0, false, 0, Nat.zero_le _, rfl, rfl, by rw [iM]; exact congrArg _ (ej 0), by simp [ix], by rw [iM, Int.natAbs_zero, gF]; exact hh⟩
 ·clear hh
  rintro ρ' j w' ⟨i, u, S, hi, rfl, hS2, hu, hb, hh⟩
  by_cases hlt : i < n
  ·obtain ⟨x, hx⟩ := aU (l := l) (k := i) (by omega)
   obtain ⟨ad, rfl, hr⟩ := hS.at_ (by omega)
   have hxs := hs x (List.mem_of_getElem? hx)
   have hS3 : ((l.take (i + 1)).map IR.v).sum = S + x.v := by rw [bo hx, List.map_append, List.map_singleton, vh, hS2]
   have hms : (iM S).size ≤ 1000000000 := by rw [dv]; omega
   have hbx := hZ x.neg x.br
   have hba := kP S x.v
   have hpl := yn u x.neg (iM S) x.br
   rw [hu] at hpl
   have hwc := fun w1 => rK u x.neg (iM S) x.br w1 hms (by omega)
   rw [hu] at hwc
   refine sr ?_
   refine aQ (aa (ah (cT (al (ai (ah (ao (sr ?_))))))))
   refine aT (k := i) aG.out aC.size rfl rfl (by omega) (by omega) (by decide) ?_
   refine dM (vs := [_, _]) aC.out rfl (((hr.ext hh.below).recAt IR.len hx)) rfl (by decide) ?_
   refine bY hh ?_
   intro b5 w5 hh
   refine bK hh 0 [_,_] ?_
   intro ws hh
   replace hh : Hp _ (.blk _ _ [_, _] _ :: _) _ := hh
   refine aa ?_
   refine aN 3 [[(3, none)], [(5, none)], [(13, some 1)]] [(2, 14), (1, 13), (0, 12)] hh mixed (by kernel_rfl) ?_
   refine fB 1 [_,_] ?_
   refine fB 0 [_,_] ?_
   refine dC (fun _ hj => gM x.neg x.br _) ?_
   refine bj ?_
   intro f W hJ hV
   have hb_5 := hJ.bl
   obtain ⟨v14, v13, v12, _⟩ := hV
   replace hh := hJ.hp
   refine aY (bm (ae v14 (ae v13 (ae v12 aX)))) ?_
   dsimp only [ct]
   clear hJ
   refine bF hh (hwc _) rfl ?_
   intro w15 hh
   refine bK hh 1 [_,_] ?_
   intro ws hh
   replace hh : Hp _ (_ :: .blk _ _ [_, _] _ :: _) _ := hh
   refine aD (aV (ai (ak ?_)))
   refine bC (mI (aD (ai ?_)))
   replace hh := hh.sub (List.sublist_cons_self _ _)
   refine ⟨⟨i + 1, _, _, by omega, rfl, hS3.symm, hpl, by unfold IR.v at hba ⊢; omega, hh⟩, by show n - (i + 1) < n - i; omega, ?_⟩
   (repeat (first | exact ay _ _ _ | refine az rfl ?_ | refine av rfl ?_))
  ·refine sr ?_
   refine aQ (aa (ah (cF ?_)))
   refine a0 ?_
   refine aA (aA (bu (ai (sr ?_))))
   refine cD hh 0 [_,_] ?_
   refine bF hh (cJ u (iM S) _) rfl ?_
   intro w18 hh
   rw [hu]
   refine bK hh 1 [_,_] ?_
   intro ws hh
   replace hh : Hp _ (_ :: .blk _ _ [_, _] _ :: _) _ := hh
   refine aa (aq ?_)
   refine gC (aO rfl (aP (vs := [_, _]) aC.out (hh.au (i := 1) (n := 2) rfl rfl) rfl) bA) ?_
   rw [List.take_of_length_le (by omega)] at hS2
   rw [hS2]
   exact ⟨rfl, hh.below⟩
theorem mj (s : Bool) (b : ByteArray) : (iM (-(iv s b))).size ≤ b.size := by
 have := hZ s b
 rw [dv, Int.natAbs_neg]; omega
theorem sU (s t : Bool) (a b : ByteArray) (w : World) (ha : a.size ≤ 100000000) (hb : b.size ≤ 100000000) :
  Calls Tryz.prog 164 #[.agg #[.bool s, .string a], .agg #[.bool t, .string b]] w fun e w' => e = .returned (.agg #[.bool (iN (iv s a - iv t b)), .string (iM (iv s a - iv t b))]) ∧ Below w.heap.size w w' := by
 have hh := Hp.start w
 have h1 := mj t b
 have e1 : ([IR.mk s a, iR (-(iv t b))].map IR.v).sum = iv s a - iv t b := by
  simp only [List.map_cons, List.map_nil, List.sum_cons, List.sum_nil, AF]
  simp only [IR.v]; omega
 refine aj (N := 10) (l := [.agg #[.bool s, .string a], .agg #[.bool t, .string b]]) Tryz.func164 rfl rfl (by simp) ?_
 refine sr ?_
 refine cW hh [_,_] ?_
 intro b2 w2 hh
 refine cW hh [_,_] ?_
 intro b3 w3 hh
 refine bY hh ?_
 intro b4 w4 hh
 refine aa (ah ?_)
 refine aN 3 [[(2, none)], [(3, none)], [(6, some 1)]] [(2, 7), (1, 6), (0, 5)] hh mixed (by kernel_rfl) ?_
 refine fB 2 [_,_] ?_
 refine fB 1 [_,_] ?_
 refine dC (fun _ hj => nB t b _) ?_
 refine bj ?_
 intro f W hJ hV
 have hb_1 := hJ.bl
 obtain ⟨v7, v6, v5, _⟩ := hV
 replace hh := hJ.hp
 refine aY (bm (ae v7 (ae v6 (ae v5 aX)))) ?_
 dsimp only [ct]
 clear hJ
 refine aZ hh (cs := [_, _, _, _]) aG.out aC.out (aK (cH rfl) (aK (cH rfl) bL)) rfl rfl (by decide) (by decide) (by decide) rfl (by decide) ?_
 intro b8 w8 hh
 refine bF hh (nA _ 2 _ [IR.mk s a, iR (-(iv t b))] _ (hh.aR (i := 0) rfl) (by omega) (by simp [iR]; omega)) rfl ?_
 intro w9 hh
 rw [e1]
 refine bK hh 1 [_,_] ?_
 intro ws hh
 replace hh : Hp _ (_ :: .blk _ _ [_, _] _ :: _) _ := hh
 refine aa (aq ?_)
 refine gC (aO rfl (aP (vs := [_, _]) aC.out (hh.au (i := 1) (n := 2) rfl rfl) rfl) bA) ?_
 exact ⟨rfl, hh.below⟩
theorem wN (a b : Nat) : bx (a * b) ≤ bx a + bx b := by
 apply cL
 rw [Nat.pow_add]
 exact Nat.mul_lt_mul'' (cx a) (cx b)
theorem iP (a b : Int) : bx (a * b).natAbs ≤ bx a.natAbs + bx b.natAbs := by rw [Int.natAbs_mul]; exact wN _ _
def ju : List Int → Int
 | [] => 1
 | x :: l => x * ju l
theorem sV (l : List Int) (x : Int) : ju (l ++ [x]) = ju l * x := by
 induction l with
 | nil => simp [ju]
 | cons y l ih => simp only [List.cons_append, ju, ih, Int.mul_assoc]
theorem rP (l : List Nat) (i : Nat) : (l.take i).sum ≤ l.sum := by
 rw [← List.sum_append_nat.symm.trans (congrArg List.sum (List.take_append_drop i l))]; omega
theorem n8 : bx 1 = 1 := by decide +kernel
theorem sg (L : Option Addr) (n c : Nat) (l : List IR) (w : World) (hS : Sl w L n 2 (a9 IR.cells l)) (hn : n ≤ 1000000) (hs : (l.map fun a => a.br.size).sum ≤ 100000000) :
  Calls Tryz.prog 74 #[.slice L n c] w fun e w' => e = .returned (.agg #[.bool (iN (ju (l.map IR.v))), .string (iM (ju (l.map IR.v)))]) ∧ Below w.heap.size w w' := by
 have hl := hS.eb IR.len (by omega)
 have hh := Hp.start w
 have hsum := rP (l.map fun a => a.br.size)
 refine aj (N := 21) (l := [.slice L n c]) Tryz.func74 rfl rfl (by simp) ?_
 refine sr ?_
 refine bY hh ?_
 intro b2 w2 hh
 refine aa (sr ?_)
 refine bF hh (jZ 1 _ (by omega) (by omega)) rfl ?_
 intro w6 hh
 refine bF hh (gM _ _ _) rfl ?_
 intro w7 hh
 refine bY hh ?_
 intro b3 w3 hh
 refine bK hh 0 [_,_] ?_
 intro ws hh
 replace hh : Hp _ (.blk _ _ [_, _] _ :: _) _ := hh
 refine aa (ah (sr (mL (a6 (mI (aa (ao ?_)))))))
 refine bD [5, 10, 11, 12, 13, 14, 15, 16, 17, 18] 10
  (fun j w' => ∃ (i : Nat) (u : Bool) (S : Int), i ≤ n ∧ j = .int .i64 i ∧ S = ju ((l.take i).map IR.v) ∧ iv u (iM S) = S ∧ bx S.natAbs ≤ 1 + 8 * ((l.map fun a => a.br.size).take i).sum ∧ Hp w [.blk b3 153 [.string (iM S), .bool u] (0, 0), .blk b2 37 [.bool false, .string (ByteArray.mk #[])] (0, 0)] w')
  (fun j _ => n - (intOf j).toNat) ?_ ?_
 ·exact ⟨0, _, 1, Nat.zero_le _, rfl, rfl, eE 1, by rw [Int.natAbs_one, n8]; omega, hh⟩
 ·clear hh
  rintro ρ' j w' ⟨i, u, S, hi, rfl, hS2, hu, hb, hh⟩
  by_cases hlt : i < n
  ·obtain ⟨x, hx⟩ := aU (l := l) (k := i) (by omega)
   obtain ⟨ad, rfl, hr⟩ := hS.at_ (by omega)
   have hsi := hsum i
   have hsi2 := hsum (i + 1)
   have hsz : ((l.map fun a => a.br.size).take (i + 1)).sum = ((l.map fun a => a.br.size).take i).sum + x.br.size := by
    rw [bo (x := x.br.size) (by rw [List.getElem?_map, hx]; rfl), lJ]
   have hS3 : ju ((l.take (i + 1)).map IR.v) = S * x.v := by rw [bo hx, List.map_append, List.map_singleton, sV, hS2]
   have hms : (iM S).size ≤ 1000000000 := by rw [dv]; omega
   have hbx := hZ x.neg x.br
   have hba := iP S x.v
   have hpl := rO u x.neg (iM S) x.br
   rw [hu] at hpl
   have hwc := fun w1 => kX u x.neg (iM S) x.br w1 hms (by omega)
   rw [hu] at hwc
   refine sr ?_
   refine aQ (aa (ah (cT (al (ai (ah (ao (sr ?_))))))))
   refine aT (k := i) aG.out aC.size rfl rfl (by omega) (by omega) (by decide) ?_
   refine dM (vs := [_, _]) aC.out rfl (((hr.ext hh.below).recAt IR.len hx)) rfl (by decide) ?_
   refine bY hh ?_
   intro b5 w5 hh
   refine bK hh 0 [_,_] ?_
   intro ws hh
   replace hh : Hp _ (.blk _ _ [_, _] _ :: _) _ := hh
   refine aa ?_
   refine aN 3 [[(3, none)], [(5, none)], [(15, some 1)]] [(2, 16), (1, 15), (0, 14)] hh mixed (by kernel_rfl) ?_
   refine fB 1 [_,_] ?_
   refine fB 0 [_,_] ?_
   refine dC (fun _ hj => gM x.neg x.br _) ?_
   refine bj ?_
   intro f W hJ hV
   have hb_5 := hJ.bl
   obtain ⟨v16, v15, v14, _⟩ := hV
   replace hh := hJ.hp
   refine aY (bm (ae v16 (ae v15 (ae v14 aX)))) ?_
   dsimp only [ct]
   clear hJ
   refine bF hh (hwc _) rfl ?_
   intro w17 hh
   refine bK hh 1 [_,_] ?_
   intro ws hh
   replace hh : Hp _ (_ :: .blk _ _ [_, _] _ :: _) _ := hh
   refine aD (aV (ai (ak ?_)))
   refine bC (mI (aD (ai ?_)))
   replace hh := hh.sub (List.sublist_cons_self _ _)
   refine ⟨⟨i + 1, _, _, by omega, rfl, hS3.symm, hpl, by unfold IR.v at hba ⊢; omega, hh⟩, by show n - (i + 1) < n - i; omega, ?_⟩
   (repeat (first | exact ay _ _ _ | refine az rfl ?_ | refine av rfl ?_))
  ·refine sr ?_
   refine aQ (aa (ah (cF ?_)))
   refine a0 ?_
   refine aA (aA (bu (ai (sr ?_))))
   refine cD hh 0 [_,_] ?_
   refine bF hh (cJ u (iM S) _) rfl ?_
   intro w20 hh
   rw [hu]
   refine bK hh 1 [_,_] ?_
   intro ws hh
   replace hh : Hp _ (_ :: .blk _ _ [_, _] _ :: _) _ := hh
   refine aa (aq ?_)
   refine gC (aO rfl (aP (vs := [_, _]) aC.out (hh.au (i := 1) (n := 2) rfl rfl) rfl) bA) ?_
   rw [List.take_of_length_le (by omega)] at hS2
   rw [hS2]
   exact ⟨rfl, hh.below⟩
theorem qW (M k : Nat) (h : 2 ^ k ∣ M) : -((M / 2 ^ k : Nat) : Int) = -(M : Int) / 2 ^ k := by
 obtain ⟨q, rfl⟩ := h
 have hp : (0 : Int) < 2 ^ k := Int.pow_pos (by omega)
 rw [Nat.mul_div_cancel_left _ (Nat.pow_pos (by omega)), Int.natCast_mul, ← Int.mul_neg, Int.natCast_pow]
 exact (Int.mul_ediv_cancel_left _ (by exact Int.ne_of_gt hp)).symm
theorem pM (M k : Nat) (h : ¬ 2 ^ k ∣ M) : -((M / 2 ^ k : Nat) : Int) - 1 = -(M : Int) / 2 ^ k := by
 have hp : (0 : Int) < 2 ^ k := Int.pow_pos (by omega)
 have h1 := Nat.div_add_mod M (2 ^ k)
 have h2 := Nat.mod_lt M (Nat.pow_pos (n := k) (show 0 < 2 by omega))
 have h3 : M % 2 ^ k ≠ 0 := fun h0 => h (Nat.dvd_of_mod_eq_zero h0)
 have hc : ((2 ^ k : Nat) : Int) = 2 ^ k := by simp
 symm
 rw [Int.ediv_eq_iff_of_pos hp, ← hc]
 have h4 : (M : Int) = (2 ^ k : Nat) * (M / 2 ^ k : Nat) + (M % 2 ^ k : Nat) := by rw [← Int.natCast_mul, ← Int.natCast_add, h1]
 generalize hK : ((2 ^ k : Nat) : Int) = K at *
 generalize ((M / 2 ^ k : Nat) : Int) = q at *
 have e : (-q - 1) * K = -(K * q) - K := by rw [Int.sub_mul, Int.neg_mul, Int.mul_comm q]; omega
 have e2 : (-q - 1 + 1) * K = -(K * q) := by rw [Int.sub_add_cancel, Int.neg_mul, Int.mul_comm]
 omega
theorem vV {M k : Nat} (h0 : M ≠ 0) : 2 ^ k ∣ M ↔ k ≤ tz M := by
 obtain ⟨m, hm⟩ := mM h0
 generalize tz M = t at *
 constructor
 ·intro h
  rcases Nat.lt_or_ge t k with hlt | hge
  ·exfalso
   obtain ⟨q, hq⟩ := h
   rw [hm, show k = t + (1 + (k - t - 1)) by omega, Nat.pow_add, Nat.pow_add, Nat.mul_assoc] at hq
   have := Nat.eq_of_mul_eq_mul_left (Nat.pow_pos (by omega)) hq
   rw [Nat.pow_one, Nat.mul_assoc] at this
   omega
  ·exact hge
 ·intro h
  rw [hm]
  exact Nat.dvd_trans (Nat.pow_dvd_pow 2 h) (Nat.dvd_mul_right _ _)
end Go.Proofs.YtioilmppidlbnaaGreatDoor
namespace Go.Proofs.YtioilmppidlbnaaGreatDoor
open Go.RowKit
theorem lE (a : Int) (n : Nat) : bx (a ^ n).natAbs ≤ 1 + n * bx a.natAbs := by
 induction n with
 | zero => simp [n8]
 | succ n ih =>
  rw [Int.pow_succ]
  have := iP (a ^ n) a
  rw [Nat.succ_mul]; omega
theorem te (s : Bool) (a : ByteArray) (n : Int) (w : World) (h0 : n.toNat * a.size ≤ 100000000) (hn : n ≤ 1000000000) (ha : a.size ≤ 100000000) :
  Calls Tryz.prog 157 #[.agg #[.bool s, .string a], .int .i64 n] w fun e w' => e = .returned (.agg #[.bool (iN (iv s a ^ n.toNat)), .string (iM (iv s a ^ n.toNat))]) ∧ Below w.heap.size w w' := by
 have hh := Hp.start w
 have e1 : (if (0 : Int) > n then 0 else n) = (n.toNat : Int) := by split <;> omega
 have hm : n.toNat ≤ 1000000000 := by omega
 generalize n.toNat = m at *
 refine aj (N := 19) (l := [.agg #[.bool s, .string a], .int .i64 n]) Tryz.func157 rfl rfl (by simp) ?_
 refine sr ?_
 refine cW hh [_,_] ?_
 intro b2 w2 hh
 refine bY hh ?_
 intro b4 w4 hh
 refine aa (sr ?_)
 refine bF hh (jZ 1 _ (by omega) (by omega)) rfl ?_
 intro w6 hh
 refine bF hh (gM _ _ _) rfl ?_
 intro w7 hh
 refine bY hh ?_
 intro b5 w5 hh
 refine bK hh 0 [_,_] ?_
 intro ws hh
 replace hh : Hp _ (.blk _ _ [_, _] _ :: _) _ := hh
 refine aa (ah (sr (mI ?_)))
 refine jm rfl rfl (by decide) ?_
 refine mI (aa (ao ?_))
 rw [e1]
 refine bD [10, 11, 12, 13, 14, 15, 16] 10
  (fun j w' => ∃ (i : Nat) (u : Bool) (S : Int), i ≤ m ∧ j = .int .i64 i ∧ S = iv s a ^ i ∧ iv u (iM S) = S ∧ Hp w [.blk b5 153 [.string (iM S), .bool u] (0, 0), .blk b4 37 [.bool false, .string (ByteArray.mk #[])] (0, 0), .blk b2 37 [.bool s, .string a] (0, 0)] w')
  (fun j _ => m - (intOf j).toNat) ?_ ?_
 ·exact ⟨0, _, 1, Nat.zero_le _, rfl, by rw [Int.pow_zero], eE 1, hh⟩
 ·clear hh
  rintro ρ' j w' ⟨i, u, S, hi, rfl, hS2, hu, hh⟩
  by_cases hlt : i < m
  ·have hb := lE (iv s a) i
   rw [← hS2] at hb
   have hbx := hZ s a
   have hle : i * bx (iv s a).natAbs ≤ m * (8 * a.size) := Nat.mul_le_mul hi hbx
   rw [Nat.mul_left_comm] at hle
   have hms : (iM S).size ≤ 1000000000 := by rw [dv]; omega
   have hpl := rO u s (iM S) a
   rw [hu] at hpl
   have hwc := fun w1 => kX u s (iM S) a w1 hms (by omega)
   rw [hu] at hwc
   refine sr ?_
   refine aQ (aa (ah (cT (al (ai (ah (ao ?_)))))))
   refine aN 3 [[(5, none)], [(2, none)], [(13, some 1)]] [(2, 14), (1, 13), (0, 12)] hh mixed (by kernel_rfl) ?_
   refine fB 0 [_,_] ?_
   refine fB 2 [_,_] ?_
   refine dC (fun _ hj => gM s a _) ?_
   refine bj ?_
   intro f W hJ hV
   have hb_4 := hJ.bl
   obtain ⟨v14, v13, v12, _⟩ := hV
   replace hh := hJ.hp
   refine aY (bm (ae v14 (ae v13 (ae v12 aX)))) ?_
   dsimp only [ct]
   clear hJ
   refine bF hh (hwc _) rfl ?_
   intro w15 hh
   refine bK hh 0 [_,_] ?_
   intro ws hh
   replace hh : Hp _ (.blk _ _ [_, _] _ :: _) _ := hh
   refine aD (aV (ai (ak ?_)))
   refine bC (mI (aD (ai ?_)))
   refine ⟨⟨i + 1, _, _, by omega, rfl, by rw [Int.pow_succ, hS2], hpl, hh⟩, by show m - (i + 1) < m - i; omega, ?_⟩
   (repeat (first | exact ay _ _ _ | refine az rfl ?_ | refine av rfl ?_))
  ·obtain rfl : i = m := by omega
   refine sr ?_
   refine aQ (aa (ah (cF ?_)))
   refine a0 ?_
   refine aA (aA (bu (ai (sr ?_))))
   refine cD hh 0 [_,_] ?_
   refine bF hh (cJ u (iM S) _) rfl ?_
   intro w18 hh
   rw [hu, hS2]
   refine bK hh 1 [_,_] ?_
   intro ws hh
   replace hh : Hp _ (_ :: .blk _ _ [_, _] _ :: _) _ := hh
   refine aa (aq ?_)
   refine gC (aO rfl (aP (vs := [_, _]) aC.out (hh.au (i := 1) (n := 2) rfl rfl) rfl) bA) ?_
   exact ⟨rfl, hh.below⟩
theorem zf (s : Bool) (a : ByteArray) (m : Nat) : iv s (sN (bN a * 2 ^ m)) = iv s a * 2 ^ m := by
 unfold iv
 rw [ej]
 cases s <;> simp [Int.natCast_mul, Int.neg_mul]
theorem sH (s : Bool) (a : ByteArray) (m : Nat) (w : World) (ha : a.size ≤ 100000000) (hm : m ≤ 1000000000) :
  Calls Tryz.prog 126 #[.agg #[.bool s, .string a], .int .i64 (m : Int)] w fun e w' => e = .returned (.agg #[.bool (iN (iv s a * 2 ^ m)), .string (iM (iv s a * 2 ^ m))]) ∧ Below w.heap.size w w' := by
 have hh := Hp.start w
 refine aj (N := 47) (l := [.agg #[.bool s, .string a], .int .i64 (m : Int)]) Tryz.func126 rfl rfl (by simp) ?_
 refine sr ?_
 refine cW hh [_,_] ?_
 intro b2 w2 hh
 refine bY hh ?_
 intro b4 w4 hh
 refine aa (ah (sr (mI ?_)))
 refine de (aa (cT (ah ?_)))
 refine aN 6 [[(2, none)], [(8, some 0)], [(1, none)], [(9, some 1), (10, some 2)], [(2, none)], [(12, some 4)]] [(5, 13), (4, 12), (3, 11), (2, 10), (1, 9), (0, 8)] hh mixed (by kernel_rfl) ?_
 refine eZ ?_
 refine fZ 1 ?_
 refine ee ?_
 refine dC (fun _ hj => qa a m _ (by omega) (by omega)) ?_
 refine eZ ?_
 refine fZ 1 ?_
 refine bj ?_
 intro f W hJ hV
 have hb_2 := hJ.bl
 obtain ⟨v13, v12, v11, v10, v9, v8, _⟩ := hV
 replace hh := hJ.hp
 refine aY (bm (ae v13 (ae v12 (ae v11 (ae v10 (ae v9 (ae v8 aX))))))) ?_
 dsimp only [ct]
 clear hJ
 refine fS [_,_] ?_
 refine bF hh (cJ s (sN (bN a * 2 ^ m)) _) rfl ?_
 intro w15 hh
 rw [zf]
 refine bK hh 0 [_,_] ?_
 intro ws hh
 replace hh : Hp _ (.blk _ _ [_, _] _ :: _) _ := hh
 refine aa (aq (a8 ?_))
 refine gC (aO rfl (aP (vs := [_, _]) aC.out (hh.au (i := 0) (n := 2) rfl rfl) rfl) bA) ?_
 exact ⟨rfl, hh.below⟩
theorem sq (s : Bool) (a : ByteArray) (m : Nat) (w : World) (hT : eN w) (ha : a.size ≤ 100000000) (h0 : 0 < m) (hm : m ≤ 1000000000000) :
  Calls Tryz.prog 126 #[.agg #[.bool s, .string a], .int .i64 (-(m : Int))] w fun e w' => e = .returned (.agg #[.bool (iN (iv s a / 2 ^ m)), .string (iM (iv s a / 2 ^ m))]) ∧ Below w.heap.size w w' := by
 have hh := Hp.start w
 have e1 : (if (-1099511627776 : Int) > -(m : Int) then -1099511627776 else -(m : Int)) = -(m : Int) := if_neg (by omega)
 have e2 : -(-(m : Int)) = (m : Int) := by omega
 have hcs : ∀ w1, Calls Tryz.prog 162 #[.string a, .int .i64 (-(-(m : Int)))] w1 fun e w' => e = .returned (.string (sN (bN a / 2 ^ m))) ∧ Below w1.heap.size w1 w' := fun w1 => by
  rw [e2]; exact pS a m w1 (by omega) (by omega)
 cases s with
 | false =>
  have e3 : iv false (sN (bN a / 2 ^ m)) = iv false a / 2 ^ m := by
   unfold iv
   rw [ej]
   simp
  refine aj (N := 47) (l := [.agg #[.bool false, .string a], .int .i64 (-(m : Int))]) Tryz.func126 rfl rfl (by simp) ?_
  refine sr ?_
  refine cW hh [_,_] ?_
  intro b2 w2 hh
  refine bY hh ?_
  intro b4 w4 hh
  refine aa (ah (sr (mI ?_)))
  refine de (aa (cF (al (ai (sr (mI ?_))))))
  refine jm rfl rfl (by decide) ?_
  refine aI (aa (ah ?_))
  rw [e1]
  refine aN 10 [[(2, none)], [(18, some 0)], [(1, none)], [(20, some 2)], [(19, some 1), (21, some 3)], [(2, none)], [(23, some 5)], [(22, some 4), (24, some 6)], [(25, some 7)], []] [(9, 5), (8, 26), (7, 25), (6, 24), (5, 23), (4, 22), (3, 21), (2, 20), (1, 19), (0, 18)] hh mixed (by kernel_rfl) ?_
  refine eZ ?_
  refine fZ 1 ?_
  refine ee ?_
  refine bk (i := 3) (fun ρ1 w1 hj hR => mZ (show ρ1 20 = Value.int _ _ from hR.1) (by omega) (by omega)) ?_
  refine dC (fun _ hj => hcs _) ?_
  refine eZ ?_
  refine fZ 1 ?_
  refine dB [_,_] ?_
  refine dC (fun _ hj => cJ false (sN (bN a / 2 ^ m)) _) ?_
  refine bJ (i := 9) (cK _ 37 _) cK.ext (fun ρ1 w1 hj hR => gu aC.out hj.bl (fun v w2 h hb => ⟨hb, h⟩)) ?_
  refine bj ?_
  intro f W hJ hV
  have hb_4 := hJ.bl
  obtain ⟨v5, v26, v25, v24, v23, v22, v21, v20, v19, v18, _⟩ := hV
  obtain ⟨b5, e5, hl5, hc5⟩ : cK _ _ _ (f 9) W := v5
  replace hh := hJ.newVar hh hl5 hc5
  refine aY (bm (ae e5 (ae v26 (ae v25 (ae v24 (ae v23 (ae v22 (ae v21 (ae v20 (ae v19 (ae v18 aX))))))))))) ?_
  dsimp only [ct]
  clear e5 hJ
  rw [e3]
  refine bK hh 0 [_,_] ?_
  intro ws hh
  replace hh : Hp _ (.blk _ _ [_, _] _ :: _) _ := hh
  refine aa (ah (sr (bG ?_)))
  refine bI hh 2 ?_
  refine mB ?_
  first | refine gS ?_ | (refine gT ?_; refine bG ?_) | refine gV ?_
  first | refine gS ?_ | (refine gT ?_; refine bI hh 2 ?_) | refine gV ?_
  refine cf (by decide) rfl rfl (by decide) ?_
  first | refine gS ?_ | (refine gT ?_; refine cE ?_) | refine gV ?_
  first | refine dq ?_ | refine dr ?_
  refine mB ?_
  first | refine gS ?_ | (refine gT ?_; refine bG ?_) | refine gV ?_
  first | refine gS ?_ | (refine gT ?_; refine bI hh 2 ?_) | refine gV ?_
  refine cf (by decide) rfl rfl (by decide) ?_
  first | refine gS ?_ | (refine gT ?_; refine mI ?_) | refine gV ?_
  first | refine gS ?_ | (refine gT ?_; refine lL rfl (by omega) (by omega) (by decide) ?_) | refine gV ?_
  first | refine gS ?_ | (refine gT ?_; refine aQ ?_) | refine gV ?_
  first | refine dq ?_ | refine dr ?_
  refine aa (cF (al (ai (sr ?_))))
  refine cD hh 0 [_,_] ?_
  refine bK hh 1 [_,_] ?_
  intro ws hh
  replace hh : Hp _ (_ :: .blk _ _ [_, _] _ :: _) _ := hh
  refine aa (aq ?_)
  refine gC (aO rfl (aP (vs := [_, _]) aC.out (hh.au (i := 1) (n := 2) rfl rfl) rfl) bA) ?_
  exact ⟨rfl, hh.below⟩
 | true =>
  have hb := fg a
  have e4 : iv true (sN (bN a / 2 ^ m)) = -((bN a / 2 ^ m : Nat) : Int) := by
   unfold iv
   rw [ej, if_pos rfl]
  have e5 : iv true a = -(bN a : Int) := by unfold iv; rw [if_pos rfl]
  by_cases hz : bN a = 0
  ·have e3 : iv true (sN (bN a / 2 ^ m)) = iv true a / 2 ^ m := by
    rw [e4, e5, hz]; simp
   refine aj (N := 47) (l := [.agg #[.bool true, .string a], .int .i64 (-(m : Int))]) Tryz.func126 rfl rfl (by simp) ?_
   refine sr ?_
   refine cW hh [_,_] ?_
   intro b2 w2 hh
   refine bY hh ?_
   intro b4 w4 hh
   refine aa (ah (sr (mI ?_)))
   refine de (aa (cF (al (ai (sr (mI ?_))))))
   refine jm rfl rfl (by decide) ?_
   refine aI (aa (ah ?_))
   rw [e1]
   refine aN 10 [[(2, none)], [(18, some 0)], [(1, none)], [(20, some 2)], [(19, some 1), (21, some 3)], [(2, none)], [(23, some 5)], [(22, some 4), (24, some 6)], [(25, some 7)], []] [(9, 5), (8, 26), (7, 25), (6, 24), (5, 23), (4, 22), (3, 21), (2, 20), (1, 19), (0, 18)] hh mixed (by kernel_rfl) ?_
   refine eZ ?_
   refine fZ 1 ?_
   refine ee ?_
   refine bk (i := 3) (fun ρ1 w1 hj hR => mZ (show ρ1 20 = Value.int _ _ from hR.1) (by omega) (by omega)) ?_
   refine dC (fun _ hj => hcs _) ?_
   refine eZ ?_
   refine fZ 1 ?_
   refine dB [_,_] ?_
   refine dC (fun _ hj => cJ true (sN (bN a / 2 ^ m)) _) ?_
   refine bJ (i := 9) (cK _ 37 _) cK.ext (fun ρ1 w1 hj hR => gu aC.out hj.bl (fun v w2 h hb => ⟨hb, h⟩)) ?_
   refine bj ?_
   intro f W hJ hV
   have hb_4 := hJ.bl
   obtain ⟨v5, v26, v25, v24, v23, v22, v21, v20, v19, v18, _⟩ := hV
   obtain ⟨b5, e5, hl5, hc5⟩ : cK _ _ _ (f 9) W := v5
   replace hh := hJ.newVar hh hl5 hc5
   refine aY (bm (ae e5 (ae v26 (ae v25 (ae v24 (ae v23 (ae v22 (ae v21 (ae v20 (ae v19 (ae v18 aX))))))))))) ?_
   dsimp only [ct]
   clear e5 hJ
   rw [e3]
   refine bK hh 0 [_,_] ?_
   intro ws hh
   replace hh : Hp _ (.blk _ _ [_, _] _ :: _) _ := hh
   refine aa (ah (sr (bG ?_)))
   refine bI hh 2 ?_
   refine mB ?_
   first | refine gS ?_ | (refine gT ?_; refine bG ?_) | refine gV ?_
   first | refine gS ?_ | (refine gT ?_; refine bI hh 2 ?_) | refine gV ?_
   refine a7 rfl rfl ?_
   refine bF hh (jb a _ (by omega)) rfl ?_
   intro w32 hh
   rw [hz, ix]
   first | refine gS ?_ | (refine gT ?_; refine cE ?_) | refine gV ?_
   first | refine dq ?_ | refine dr ?_
   refine mB ?_
   first | refine gS ?_ | (refine gT ?_; refine bG ?_) | refine gV ?_
   first | refine gS ?_ | (refine gT ?_; refine bI hh 2 ?_) | refine gV ?_
   refine cf (by decide) rfl rfl (by decide) ?_
   first | refine gS ?_ | (refine gT ?_; refine mI ?_) | refine gV ?_
   first | refine gS ?_ | (refine gT ?_; refine lL rfl (by omega) (by omega) (by decide) ?_) | refine gV ?_
   first | refine gS ?_ | (refine gT ?_; refine aQ ?_) | refine gV ?_
   first | refine dq ?_ | refine dr ?_
   refine aa (cF (al (ai (sr ?_))))
   refine cD hh 0 [_,_] ?_
   refine bK hh 1 [_,_] ?_
   intro ws hh
   replace hh : Hp _ (_ :: .blk _ _ [_, _] _ :: _) _ := hh
   refine aa (aq ?_)
   refine gC (aO rfl (aP (vs := [_, _]) aC.out (hh.au (i := 1) (n := 2) rfl rfl) rfl) bA) ?_
   exact ⟨rfl, hh.below⟩
  ·have hbp := lf hz
   by_cases hd : 2 ^ m ∣ bN a
   ·have e3 : iv true (sN (bN a / 2 ^ m)) = iv true a / 2 ^ m := by
     rw [e4, e5]; exact qW _ _ hd
    have htz := (vV hz).1 hd
    refine aj (N := 47) (l := [.agg #[.bool true, .string a], .int .i64 (-(m : Int))]) Tryz.func126 rfl rfl (by simp) ?_
    refine sr ?_
    refine cW hh [_,_] ?_
    intro b2 w2 hh
    refine bY hh ?_
    intro b4 w4 hh
    refine aa (ah (sr (mI ?_)))
    refine de (aa (cF (al (ai (sr (mI ?_))))))
    refine jm rfl rfl (by decide) ?_
    refine aI (aa (ah ?_))
    rw [e1]
    refine aN 10 [[(2, none)], [(18, some 0)], [(1, none)], [(20, some 2)], [(19, some 1), (21, some 3)], [(2, none)], [(23, some 5)], [(22, some 4), (24, some 6)], [(25, some 7)], []] [(9, 5), (8, 26), (7, 25), (6, 24), (5, 23), (4, 22), (3, 21), (2, 20), (1, 19), (0, 18)] hh mixed (by kernel_rfl) ?_
    refine eZ ?_
    refine fZ 1 ?_
    refine ee ?_
    refine bk (i := 3) (fun ρ1 w1 hj hR => mZ (show ρ1 20 = Value.int _ _ from hR.1) (by omega) (by omega)) ?_
    refine dC (fun _ hj => hcs _) ?_
    refine eZ ?_
    refine fZ 1 ?_
    refine dB [_,_] ?_
    refine dC (fun _ hj => cJ true (sN (bN a / 2 ^ m)) _) ?_
    refine bJ (i := 9) (cK _ 37 _) cK.ext (fun ρ1 w1 hj hR => gu aC.out hj.bl (fun v w2 h hb => ⟨hb, h⟩)) ?_
    refine bj ?_
    intro f W hJ hV
    have hb_4 := hJ.bl
    obtain ⟨v5, v26, v25, v24, v23, v22, v21, v20, v19, v18, _⟩ := hV
    obtain ⟨b5, e5, hl5, hc5⟩ : cK _ _ _ (f 9) W := v5
    replace hh := hJ.newVar hh hl5 hc5
    refine aY (bm (ae e5 (ae v26 (ae v25 (ae v24 (ae v23 (ae v22 (ae v21 (ae v20 (ae v19 (ae v18 aX))))))))))) ?_
    dsimp only [ct]
    clear e5 hJ
    rw [e3]
    refine bK hh 0 [_,_] ?_
    intro ws hh
    replace hh : Hp _ (.blk _ _ [_, _] _ :: _) _ := hh
    refine aa (ah (sr (bG ?_)))
    refine bI hh 2 ?_
    refine mB ?_
    first | refine gS ?_ | (refine gT ?_; refine bG ?_) | refine gV ?_
    first | refine gS ?_ | (refine gT ?_; refine bI hh 2 ?_) | refine gV ?_
    refine a7 rfl rfl ?_
    refine bF hh (jb a _ (by omega)) rfl ?_
    intro w32 hh
    first | refine gS ?_ | (refine gT ?_; refine cE ?_) | refine gV ?_
    first | refine dq ?_ | refine dr ?_
    refine mB ?_
    first | refine gS ?_ | (refine gT ?_; refine bG ?_) | refine gV ?_
    first | refine gS ?_ | (refine gT ?_; refine bI hh 2 ?_) | refine gV ?_
    refine a7 rfl rfl ?_
    refine bF hh (gQ a _ (by omega) (hT.hp hh)) rfl ?_
    intro w38 hh
    first | refine gS ?_ | (refine gT ?_; refine mI ?_) | refine gV ?_
    first | refine gS ?_ | (refine gT ?_; refine lL rfl (by omega) (by omega) (by decide) ?_) | refine gV ?_
    first | refine gS ?_ | (refine gT ?_; refine aQ ?_) | refine gV ?_
    first | refine dq ?_ | refine dr ?_
    refine aa (cF (al (ai (sr ?_))))
    refine cD hh 0 [_,_] ?_
    refine bK hh 1 [_,_] ?_
    intro ws hh
    replace hh : Hp _ (_ :: .blk _ _ [_, _] _ :: _) _ := hh
    refine aa (aq ?_)
    refine gC (aO rfl (aP (vs := [_, _]) aC.out (hh.au (i := 1) (n := 2) rfl rfl) rfl) bA) ?_
    exact ⟨rfl, hh.below⟩
   ·have e3 : iv true (sN (bN a / 2 ^ m)) - 1 = iv true a / 2 ^ m := by
     rw [e4, e5]; exact pM _ _ hd
    have htz : tz (bN a) < m := Nat.lt_of_not_le fun h => hd ((vV hz).2 h)
    have hsz : (iM (iv true (sN (bN a / 2 ^ m)))).size ≤ 100000000 := by
     have := k8 (bN a) m
     rw [dv, gO, ej]; omega
    have hsub : ∀ w1, Calls Tryz.prog 164 #[.agg #[.bool (iN (iv true (sN (bN a / 2 ^ m)))), .string (iM (iv true (sN (bN a / 2 ^ m))))], .agg #[.bool (iN 1), .string (iM 1)]] w1 fun e w' => e = .returned (.agg #[.bool (iN (iv true a / 2 ^ m)), .string (iM (iv true a / 2 ^ m))]) ∧ Below w1.heap.size w1 w' := fun w1 => by
     have := sU (iN (iv true (sN (bN a / 2 ^ m)))) (iN 1) (iM (iv true (sN (bN a / 2 ^ m)))) (iM 1) w1 hsz (by rw [dv, Int.natAbs_one, n8]; omega)
     rw [eE, eE, e3] at this
     exact this
    refine aj (N := 47) (l := [.agg #[.bool true, .string a], .int .i64 (-(m : Int))]) Tryz.func126 rfl rfl (by simp) ?_
    refine sr ?_
    refine cW hh [_,_] ?_
    intro b2 w2 hh
    refine bY hh ?_
    intro b4 w4 hh
    refine aa (ah (sr (mI ?_)))
    refine de (aa (cF (al (ai (sr (mI ?_))))))
    refine jm rfl rfl (by decide) ?_
    refine aI (aa (ah ?_))
    rw [e1]
    refine aN 10 [[(2, none)], [(18, some 0)], [(1, none)], [(20, some 2)], [(19, some 1), (21, some 3)], [(2, none)], [(23, some 5)], [(22, some 4), (24, some 6)], [(25, some 7)], []] [(9, 5), (8, 26), (7, 25), (6, 24), (5, 23), (4, 22), (3, 21), (2, 20), (1, 19), (0, 18)] hh mixed (by kernel_rfl) ?_
    refine eZ ?_
    refine fZ 1 ?_
    refine ee ?_
    refine bk (i := 3) (fun ρ1 w1 hj hR => mZ (show ρ1 20 = Value.int _ _ from hR.1) (by omega) (by omega)) ?_
    refine dC (fun _ hj => hcs _) ?_
    refine eZ ?_
    refine fZ 1 ?_
    refine dB [_,_] ?_
    refine dC (fun _ hj => cJ true (sN (bN a / 2 ^ m)) _) ?_
    refine bJ (i := 9) (cK _ 37 _) cK.ext (fun ρ1 w1 hj hR => gu aC.out hj.bl (fun v w2 h hb => ⟨hb, h⟩)) ?_
    refine bj ?_
    intro f W hJ hV
    have hb_4 := hJ.bl
    obtain ⟨v5, v26, v25, v24, v23, v22, v21, v20, v19, v18, _⟩ := hV
    obtain ⟨b5, e5, hl5, hc5⟩ : cK _ _ _ (f 9) W := v5
    replace hh := hJ.newVar hh hl5 hc5
    refine aY (bm (ae e5 (ae v26 (ae v25 (ae v24 (ae v23 (ae v22 (ae v21 (ae v20 (ae v19 (ae v18 aX))))))))))) ?_
    dsimp only [ct]
    clear e5 hJ
    refine bK hh 0 [_,_] ?_
    intro ws hh
    replace hh : Hp _ (.blk _ _ [_, _] _ :: _) _ := hh
    refine aa (ah (sr (bG ?_)))
    refine bI hh 2 ?_
    refine mB ?_
    first | refine gS ?_ | (refine gT ?_; refine bG ?_) | refine gV ?_
    first | refine gS ?_ | (refine gT ?_; refine bI hh 2 ?_) | refine gV ?_
    refine a7 rfl rfl ?_
    refine bF hh (jb a _ (by omega)) rfl ?_
    intro w32 hh
    first | refine gS ?_ | (refine gT ?_; refine cE ?_) | refine gV ?_
    first | refine dq ?_ | refine dr ?_
    refine mB ?_
    first | refine gS ?_ | (refine gT ?_; refine bG ?_) | refine gV ?_
    first | refine gS ?_ | (refine gT ?_; refine bI hh 2 ?_) | refine gV ?_
    refine a7 rfl rfl ?_
    refine bF hh (gQ a _ (by omega) (hT.hp hh)) rfl ?_
    intro w38 hh
    first | refine gS ?_ | (refine gT ?_; refine mI ?_) | refine gV ?_
    first | refine gS ?_ | (refine gT ?_; refine lL rfl (by omega) (by omega) (by decide) ?_) | refine gV ?_
    first | refine gS ?_ | (refine gT ?_; refine aQ ?_) | refine gV ?_
    first | refine dq ?_ | refine dr ?_
    refine aa (cT (ah ?_))
    refine aN 2 [[(5, none)], []] [(1, 44), (0, 43)] hh mixed (by kernel_rfl) ?_
    refine fB 0 [_,_] ?_
    refine dC (fun _ hj => jZ 1 _ (by omega) (by omega)) ?_
    refine bj ?_
    intro f W hJ hV
    have hb_6 := hJ.bl
    obtain ⟨v44, v43, _⟩ := hV
    replace hh := hJ.hp
    refine aY (bm (ae v44 (ae v43 aX))) ?_
    dsimp only [ct]
    clear hJ
    refine bF hh (hsub _) rfl ?_
    intro w45 hh
    refine bK hh 1 [_,_] ?_
    intro ws hh
    replace hh : Hp _ (_ :: .blk _ _ [_, _] _ :: _) _ := hh
    refine aa (aq (a8 ?_))
    refine gC (aO rfl (aP (vs := [_, _]) aC.out (hh.au (i := 1) (n := 2) rfl rfl) rfl) bA) ?_
    exact ⟨rfl, hh.below⟩
end Go.Proofs.YtioilmppidlbnaaGreatDoor
namespace Go.Proofs.YtioilmppidlbnaaGreatDoor
open Go.RowKit
theorem z3 : (2 : Rat) ≠ 0 := by decide
theorem jI (i p : Int) : (Dyadic.ofIntWithPrec i p).toRat = i * 2 ^ (-p) := Dyadic.toRat_ofIntWithPrec_eq_mul_two_pow
theorem lM (i p : Int) (n : Nat) : Dyadic.ofIntWithPrec (i * 2 ^ n) (p + n) = Dyadic.ofIntWithPrec i p := by
 rw [← Int.shiftLeft_eq]; exact Dyadic.ofIntWithPrec_shiftLeft_add
theorem iK (i : Int) {p q : Int} {n : Nat} (h : q = p + n) : Dyadic.ofIntWithPrec i p = Dyadic.ofIntWithPrec (i * 2 ^ n) q := by
 subst h; exact (lM i p n).symm
theorem pL (i j p : Int) : Dyadic.ofIntWithPrec i p + Dyadic.ofIntWithPrec j p = Dyadic.ofIntWithPrec (i + j) p := by
 rw [← Dyadic.toRat_inj, Dyadic.toRat_add, jI, jI, jI, Rat.intCast_add, Rat.add_mul]
theorem ub (i p : Int) : -Dyadic.ofIntWithPrec i p = Dyadic.ofIntWithPrec (-i) p := Dyadic.neg_ofIntWithPrec
theorem mE (i j p q : Int) : Dyadic.ofIntWithPrec i p * Dyadic.ofIntWithPrec j q = Dyadic.ofIntWithPrec (i * j) (p + q) := by
 rw [← Dyadic.toRat_inj, Dyadic.toRat_mul, jI, jI, jI, Rat.intCast_mul, Int.neg_add, Rat.zpow_add z3]
 grind
theorem jr (p : Int) : Dyadic.ofIntWithPrec 0 p = 0 := rfl
theorem uh (n k : Int) (h : n % 2 = 1) : Dyadic.ofOdd n k h = Dyadic.ofIntWithPrec n k := Dyadic.ofOdd_eq_ofIntWithPrec
theorem qw {i p : Int} (h : i ≠ 0) : Dyadic.ofIntWithPrec i p = .ofOdd (i >>> i.trailingZeros) (p - i.trailingZeros) (Int.shiftRight_trailingZeros_mod_two h) := by
 rw [Dyadic.ofIntWithPrec, dif_neg h]
structure NR where
 neg : Bool
 br : ByteArray
 e : Int
def NR.cells (a : NR) : List Value := [.bool a.neg, .string a.br, .int .i64 a.e]
theorem NR.len (a : NR) : a.cells.length = 3 := rfl
theorem NR.one (a : NR) : a.cells.all Value.oneCell' = true := rfl
def NR.i (a : NR) : Int := iv a.neg a.br
def NR.d (a : NR) : Dyadic := Dyadic.ofIntWithPrec a.i (-a.e)
def nR : Dyadic → NR
 | .zero => ⟨false, ByteArray.mk #[], 0⟩
 | .ofOdd n k _ => ⟨iN n, iM n, -k⟩
theorem jG : nR 0 = ⟨false, ByteArray.mk #[], 0⟩ := rfl
theorem dw (x : Dyadic) : (nR x).d = x := by
 cases x with
 | zero => rfl
 | ofOdd n k h =>
  simp only [nR, NR.d, NR.i, eE, Int.neg_neg]
  exact (uh n k h).symm
theorem zD {x y : Dyadic} : nR x = nR y ↔ x = y := ⟨fun h => by rw [← dw x, h, dw], fun h => by rw [h]⟩
theorem Az (s : Bool) (a : ByteArray) : (iv s a).trailingZeros = tz (bN a) := by
 unfold iv
 split
 ·rw [Int.trailingZeros_neg]; rfl
 ·rfl
theorem tT (s : Bool) (a : ByteArray) : iv s a = 0 ↔ bN a = 0 := by
 have := gO s a
 omega
theorem l3 {s : Bool} {a : ByteArray} {e : Int} (h : iv s a ≠ 0) : nR (Dyadic.ofIntWithPrec (iv s a) (-e)) = ⟨iN (iv s a / 2 ^ tz (bN a)), iM (iv s a / 2 ^ tz (bN a)), e + tz (bN a)⟩ := by
 rw [qw h, nR, Int.shiftRight_eq_div_pow, Az]
 have e1 : -(-e - (tz (bN a) : Int)) = e + tz (bN a) := by omega
 rw [e1, Int.natCast_pow]
 rfl
def Sz (k : Nat) (x : Dyadic) : Prop := ∃ i : Int, x = Dyadic.ofIntWithPrec i k ∧ i.natAbs < 2 ^ (2 * k)
theorem Sz.zero (k : Nat) : Sz k 0 := ⟨0, rfl, by simpa using Nat.pow_pos (by omega)⟩
theorem Sz.mono {k l : Nat} {x : Dyadic} (h : Sz k x) (hl : k ≤ l) : Sz l x := by
 obtain ⟨i, rfl, hi⟩ := h
 refine ⟨i * 2 ^ (l - k), iK i (by omega), ?_⟩
 rw [Int.natAbs_mul, Int.natAbs_pow]
 have h1 : i.natAbs * 2 ^ (l - k) < 2 ^ (2 * k) * 2 ^ (l - k) := Nat.mul_lt_mul_of_pos_right hi (Nat.pow_pos (by omega))
 rw [← Nat.pow_add] at h1
 exact Nat.lt_of_lt_of_le h1 (Nat.pow_le_pow_right (by omega) (by omega))
theorem Sz.neg {k : Nat} {x : Dyadic} (h : Sz k x) : Sz k (-x) := by
 obtain ⟨i, rfl, hi⟩ := h
 exact ⟨-i, ub _ _, by rw [Int.natAbs_neg]; exact hi⟩
theorem Sz.add {k : Nat} {x y : Dyadic} (hx : Sz k x) (hy : Sz k y) : Sz (k + 1) (x + y) := by
 obtain ⟨i, rfl, hi⟩ := hx
 obtain ⟨j, rfl, hj⟩ := hy
 rw [pL]
 refine ⟨(i + j) * 2 ^ 1, iK _ (by omega), ?_⟩
 have h1 : 2 ^ (2 * (k + 1)) = 4 * 2 ^ (2 * k) := by rw [show 2 * (k + 1) = 2 * k + 2 by omega, Nat.pow_add]; omega
 rw [h1]
 omega
theorem Sz.sub {k : Nat} {x y : Dyadic} (hx : Sz k x) (hy : Sz k y) : Sz (k + 1) (x - y) := hx.add hy.neg
theorem Sz.mul {k l : Nat} {x y : Dyadic} (hx : Sz k x) (hy : Sz l y) : Sz (k + l) (x * y) := by
 obtain ⟨i, rfl, hi⟩ := hx
 obtain ⟨j, rfl, hj⟩ := hy
 rw [mE]
 refine ⟨i * j, by rw [Int.natCast_add], ?_⟩
 rw [Int.natAbs_mul, Nat.mul_add, Nat.pow_add]
 exact Nat.mul_lt_mul'' hi hj
theorem iB {i : Int} (h : i ≠ 0) : 2 ^ i.trailingZeros ≤ i.natAbs := by
 have h1 := Int.two_pow_trailingZeros_dvd h
 have h2 := Int.natAbs_dvd_natAbs.2 h1
 rw [Int.natAbs_pow] at h2
 exact Nat.le_of_dvd (by omega) h2
theorem Sz.nr {k : Nat} {x : Dyadic} (h : Sz k x) : (nR x).br.size ≤ (2 * k + 7) / 8 ∧ -(k : Int) ≤ (nR x).e ∧ (nR x).e ≤ k := by
 obtain ⟨i, rfl, hi⟩ := h
 by_cases h0 : i = 0
 ·subst h0
  rw [jr, jG]
  exact ⟨Nat.zero_le _, (by omega : -(k : Int) ≤ 0), (by omega : (0 : Int) ≤ k)⟩
 ·have h2 := iB h0
  rw [qw h0, nR]
  simp only
  refine ⟨?_, by omega, ?_⟩
  ·rw [dv]
   have : bx (i >>> i.trailingZeros).natAbs ≤ 2 * k := by
    apply cL
    refine Nat.lt_of_le_of_lt ?_ hi
    rw [Int.shiftRight_eq_div_pow]
    exact Int.natAbs_ediv_le_natAbs _ _
   omega
  ·have h3 : 2 ^ i.trailingZeros < 2 ^ (2 * k) := Nat.lt_of_le_of_lt h2 hi
   have := (Nat.pow_lt_pow_iff_right (by omega)).1 h3
   omega
theorem Sz.raw {a : NR} {m E : Nat} (hm : 8 * a.br.size ≤ m) (h1 : -(E : Int) ≤ a.e) (h2 : a.e ≤ E) : Sz (m + E) a.d := by
 refine ⟨a.i * 2 ^ (a.e + m + E).toNat, iK _ (by omega), ?_⟩
 have h3 : a.i.natAbs < 2 ^ m := by
  rw [NR.i, gO]
  refine Nat.lt_of_lt_of_le (cx _) (Nat.pow_le_pow_right (by omega) ?_)
  have := fg a.br
  omega
 rw [Int.natAbs_mul, Int.natAbs_pow]
 have h4 := Nat.mul_lt_mul_of_pos_right h3 (Nat.pow_pos (n := (a.e + m + E).toNat) (show 0 < 2 by omega))
 rw [← Nat.pow_add] at h4
 exact Nat.lt_of_lt_of_le h4 (Nat.pow_le_pow_right (by omega) (by omega))
def ur (i n : Int) : Int := if 0 ≤ n then i * 2 ^ n.toNat else i / 2 ^ (-n).toNat
theorem xq (n : Int) : ur 0 n = 0 := by unfold ur; split <;> simp
def cv : Dyadic → Int → Int
 | .zero, _ => 0
 | .ofOdd n k _, p => ur n (p - k)
def cQ : Dyadic → Dyadic → Int
 | .zero, .zero => 0
 | .zero, .ofOdd _ k _ => k
 | .ofOdd _ k _, .zero => k
 | .ofOdd _ k _, .ofOdd _ l _ => max k l
theorem jS (n k p : Int) (h : n % 2 = 1) (hp : k ≤ p) : Dyadic.ofIntWithPrec (cv (.ofOdd n k h) p) p = .ofOdd n k h := by
 simp only [cv]
 rw [uh, ur, if_pos (by omega)]
 exact (iK n (by omega)).symm
theorem Am (x y : Dyadic) : Dyadic.ofIntWithPrec (cv x (cQ x y)) (cQ x y) = x := by
 cases x with
 | zero => rfl
 | ofOdd n k h =>
  cases y with
  | zero => exact jS _ _ _ _ (Int.le_refl _)
  | ofOdd m l g => exact jS _ _ _ _ (Int.le_max_left _ _)
theorem AG (x y : Dyadic) : Dyadic.ofIntWithPrec (cv y (cQ x y)) (cQ x y) = y := by
 cases y with
 | zero => rfl
 | ofOdd n k h =>
  cases x with
  | zero => exact jS _ _ _ _ (Int.le_refl _)
  | ofOdd m l g => exact jS _ _ _ _ (Int.le_max_right _ _)
theorem yH (x y : Dyadic) : Dyadic.ofIntWithPrec (cv x (cQ x y) + cv y (cQ x y)) (cQ x y) = x + y := by
 rw [← pL, Am, AG]
theorem wu (i n : Int) : bx (ur i n).natAbs ≤ bx i.natAbs + n.toNat := by
 unfold ur
 split
 ·rw [Int.natAbs_mul, Int.natAbs_pow]
  exact lC _ _
 ·have : bx (i / 2 ^ (-n).toNat).natAbs ≤ bx i.natAbs := cL (Nat.lt_of_le_of_lt (Int.natAbs_ediv_le_natAbs _ _) (cx _))
  omega
theorem uC (x y : Dyadic) (E : Int) (h1 : -E ≤ (nR x).e ∧ (nR x).e ≤ E) (h2 : -E ≤ (nR y).e ∧ (nR y).e ≤ E) : -E ≤ cQ x y ∧ cQ x y ≤ E := by
 cases x <;> cases y <;> simp only [nR, cQ] at * <;> omega
theorem nk (x : Dyadic) (p : Int) : bx (cv x p).natAbs ≤ 8 * (nR x).br.size + (p + (nR x).e).toNat := by
 cases x with
 | zero => simp [cv, ix]
 | ofOdd n k h =>
  have h1 := wu n (p - k)
  have h2 := fg (iM n)
  rw [iM, ej] at h2
  simp only [cv, nR]
  rw [show p + -k = p - k by omega]
  rw [← iM] at h2
  omega
end Go.Proofs.YtioilmppidlbnaaGreatDoor
/- Several texts in one: Dyad, DyadB, DyadC, CmpD. -/
namespace Go.Proofs.YtioilmppidlbnaaGreatDoor
open Go.RowKit
variable {ro : Mode}
theorem xl {P : Program} {t : TypeId} {n by' : Nat} {zc : List Value} {cs : Array Value} {off : Nat} {v : Value} (ht : dp P t = some (n, false, by', zc)) (hv : cs[off]? = some v) (w : World) : (part t cs off).run P w = .ok v w := by
 simp [part, gY ht, hv]
theorem Ab {P : Program} {t : TypeId} {n by' : Nat} {zc : List Value} {cs vs : Array Value} {off : Nat} (ht : dp P t = some (n, true, by', zc)) (hv : cs.extract off (off + n) = vs) (w : World) : (part t cs off).run P w = .ok (.agg vs) w := by
 simp [part, gY ht, eh ht, hv]
theorem A0 (n : Nat) (a b : Bool) (w : World) : (Op.equalIn (n + 1) 4 (.bool a) (.bool b)).run Tryz.prog w = .ok (a == b) w := by
 simp [Op.equalIn, run_underlying Tryz.underlying4]
theorem Ba (n : Nat) (a b : ByteArray) (w : World) : (Op.equalIn (n + 1) 9 (.string a) (.string b)).run Tryz.prog w = .ok (a == b) w := by
 simp [Op.equalIn, run_underlying Tryz.underlying9]
theorem Br (n : Nat) (a b : Int) (w : World) : (Op.equalIn (n + 1) 3 (.int .i64 a) (.int .i64 b)).run Tryz.prog w = .ok (a == b) w := by
 simp [Op.equalIn, run_underlying Tryz.underlying3]
theorem eq_int (n : Nat) (s s' : Bool) (a a' : ByteArray) (w : World) : (Op.equalIn (n + 2) 37 (.agg #[.bool s, .string a]) (.agg #[.bool s', .string a'])).run Tryz.prog w = .ok (s == s' && a == a') w := by
 have h1 := fun (x : Bool) (y : ByteArray) => xl (P := Tryz.prog) (cs := #[.bool x, .string y]) (off := 0) (aC.out (P := Tryz.prog) (t := 4)) rfl
 have h2 := fun (x : Bool) (y : ByteArray) => xl (P := Tryz.prog) (cs := #[.bool x, .string y]) (off := 1) (aC.out (P := Tryz.prog) (t := 9)) rfl
 rw [Op.equalIn]
 simp [run_underlying Tryz.underlying37, h1, h2, A0, Ba]
 cases h : s == s' <;> cases h' : a == a' <;> simp_all
theorem xh (n : Nat) (s s' : Bool) (a a' : ByteArray) (e e' : Int) (w : World) : (Op.equalIn (n + 3) 39 (.agg #[.bool s, .string a, .int .i64 e]) (.agg #[.bool s', .string a', .int .i64 e'])).run Tryz.prog w = .ok ((s == s' && a == a') && e == e') w := by
 have h1 := fun (x : Bool) (y : ByteArray) (z : Int) => Ab (P := Tryz.prog) (cs := #[.bool x, .string y, .int .i64 z]) (vs := #[.bool x, .string y]) (off := 0) (aC.out (P := Tryz.prog) (t := 37)) rfl
 have h2 := fun (x : Bool) (y : ByteArray) (z : Int) => xl (P := Tryz.prog) (cs := #[.bool x, .string y, .int .i64 z]) (off := 2) (aC.out (P := Tryz.prog) (t := 3)) rfl
 rw [Op.equalIn]
 simp [run_underlying Tryz.underlying39, h1, h2, eq_int, Br]
 cases h : s == s' <;> cases h' : a == a' <;> cases h2 : e == e' <;> simp_all
section
variable {ρ : Rf} {w : World} {d : Option Nat} {ty u : TypeId} {pos : String} {af : Array Edge} {g : Option (Nat × Bool)} {x y : Operand} {s s' : Bool} {a a' : ByteArray} {e e' : Int}
theorem z6 {a b : ByteArray} : (a == b) = true ↔ a = b := by
 have : (a == b) = (a.data == b.data) := rfl
 rw [this, beq_iff_eq]
 exact ⟨fun h => by cases a; cases b; simp_all, fun h => by rw [h]⟩
theorem k4 : ((s == s' && a == a') && e == e') = true ↔ NR.mk s a e = NR.mk s' a' e' := by
 rw [Bool.and_eq_true, Bool.and_eq_true, beq_iff_eq, z6, beq_iff_eq, NR.mk.injEq, and_assoc]
theorem y2 {r : Bool} (hx : ev ρ x = .agg #[.bool s, .string a, .int .i64 e]) (hy : ev ρ y = .agg #[.bool s', .string a', .int .i64 e']) (hr : ((s == s' && a == a') && e == e') = r) :
  (execOp (ev ρ) ⟨d, .binOp .eql 39 x y u, ty, pos, af, g⟩).run Tryz.prog w = .ok (.value (.bool r)) w := by
 have h1 : (Op.equal 39 (.agg #[.bool s, .string a, .int .i64 e]) (.agg #[.bool s', .string a', .int .i64 e'])).run Tryz.prog w = .ok r w := by rw [← hr]; exact xh 9997 s s' a a' e e' w
 simp only [execOp, hx, hy]
 simp [eqGuard, binOp, h1]
theorem yS {r : Bool} (hx : ev ρ x = .agg #[.bool s, .string a, .int .i64 e]) (hy : ev ρ y = .agg #[.bool s', .string a', .int .i64 e']) (hr : ((s == s' && a == a') && e == e') = r) :
  (execOp (ev ρ) ⟨d, .binOp .neq 39 x y u, ty, pos, af, g⟩).run Tryz.prog w = .ok (.value (.bool !r)) w := by
 have h1 : (Op.equal 39 (.agg #[.bool s, .string a, .int .i64 e]) (.agg #[.bool s', .string a', .int .i64 e'])).run Tryz.prog w = .ok r w := by rw [← hr]; exact xh 9997 s s' a a' e e' w
 simp only [execOp, hx, hy]
 simp [eqGuard, binOp, h1]
theorem yg (hx : ev ρ x = .agg #[.bool s, .string a, .int .i64 e]) (hy : ev ρ y = .agg #[.bool s', .string a', .int .i64 e']) (h : NR.mk s a e = NR.mk s' a' e') :
  (execOp (ev ρ) ⟨d, .binOp .eql 39 x y u, ty, pos, af, g⟩).run Tryz.prog w = .ok (.value (.bool true)) w := y2 hx hy (k4.2 h)
theorem xQ (hx : ev ρ x = .agg #[.bool s, .string a, .int .i64 e]) (hy : ev ρ y = .agg #[.bool s', .string a', .int .i64 e']) (h : ¬ NR.mk s a e = NR.mk s' a' e') :
  (execOp (ev ρ) ⟨d, .binOp .eql 39 x y u, ty, pos, af, g⟩).run Tryz.prog w = .ok (.value (.bool false)) w := y2 hx hy (by rw [Bool.eq_false_iff]; exact fun h1 => h (k4.1 h1))
theorem xx (hx : ev ρ x = .agg #[.bool s, .string a, .int .i64 e]) (hy : ev ρ y = .agg #[.bool s', .string a', .int .i64 e']) (h : NR.mk s a e = NR.mk s' a' e') :
  (execOp (ev ρ) ⟨d, .binOp .neq 39 x y u, ty, pos, af, g⟩).run Tryz.prog w = .ok (.value (.bool false)) w := yS hx hy (k4.2 h)
theorem xN (hx : ev ρ x = .agg #[.bool s, .string a, .int .i64 e]) (hy : ev ρ y = .agg #[.bool s', .string a', .int .i64 e']) (h : ¬ NR.mk s a e = NR.mk s' a' e') :
  (execOp (ev ρ) ⟨d, .binOp .neq 39 x y u, ty, pos, af, g⟩).run Tryz.prog w = .ok (.value (.bool true)) w := yS hx hy (r := false) (by rw [Bool.eq_false_iff]; exact fun h1 => h (k4.1 h1))
end
section
variable {N : Nat} {ops : Array Oper} {Q : Kq} {ρ : Rf} {w : World} {rest : List Oper} {d : Nat} {ty u : TypeId} {pos : String} {af : Array Edge} {x y : Operand} {s s' : Bool} {a a' : ByteArray} {e e' : Int}
theorem iJ (hx : ev ρ x = .agg #[.bool s, .string a, .int .i64 e]) (hy : ev ρ y = .agg #[.bool s', .string a', .int .i64 e']) (h : NR.mk s a e = NR.mk s' a' e') (hN : d < N) (kk : WL ro Tryz.prog N ops Q rest (cn ρ d (.bool true)) w) :
  WL ro Tryz.prog N ops Q (⟨some d, .binOp .eql 39 x y u, ty, pos, af, none⟩ :: rest) ρ w := aW rfl rfl hN (yg hx hy h) kk
theorem iQ (hx : ev ρ x = .agg #[.bool s, .string a, .int .i64 e]) (hy : ev ρ y = .agg #[.bool s', .string a', .int .i64 e']) (h : ¬ NR.mk s a e = NR.mk s' a' e') (hN : d < N) (kk : WL ro Tryz.prog N ops Q rest (cn ρ d (.bool false)) w) :
  WL ro Tryz.prog N ops Q (⟨some d, .binOp .eql 39 x y u, ty, pos, af, none⟩ :: rest) ρ w := aW rfl rfl hN (xQ hx hy h) kk
theorem qh (hx : ev ρ x = .agg #[.bool s, .string a, .int .i64 e]) (hy : ev ρ y = .agg #[.bool s', .string a', .int .i64 e']) (h : ¬ NR.mk s a e = NR.mk s' a' e') (hN : d < N) (kk : WL ro Tryz.prog N ops Q rest (cn ρ d (.bool true)) w) :
  WL ro Tryz.prog N ops Q (⟨some d, .binOp .neq 39 x y u, ty, pos, af, none⟩ :: rest) ρ w := aW rfl rfl hN (xN hx hy h) kk
theorem pP (hx : ev ρ x = .agg #[.bool s, .string a, .int .i64 e]) (hy : ev ρ y = .agg #[.bool s', .string a', .int .i64 e']) (h : NR.mk s a e = NR.mk s' a' e') (hN : d < N) (kk : WL ro Tryz.prog N ops Q rest (cn ρ d (.bool false)) w) :
  WL ro Tryz.prog N ops Q (⟨some d, .binOp .neq 39 x y u, ty, pos, af, none⟩ :: rest) ρ w := aW rfl rfl hN (xx hx hy h) kk
end
theorem k6 (s : Bool) (a : ByteArray) (n : Int) (w : World) (hT : eN w) (ha : a.size ≤ 100000000) (h1 : -1000000000 ≤ n) (h2 : n ≤ 1000000000) :
  Calls Tryz.prog 126 #[.agg #[.bool s, .string a], .int .i64 n] w fun e w' => e = .returned (.agg #[.bool (iN (ur (iv s a) n)), .string (iM (ur (iv s a) n))]) ∧ Below w.heap.size w w' := by
 unfold ur
 by_cases h : 0 ≤ n
 ·rw [if_pos h]
  obtain ⟨m, rfl⟩ := Int.eq_ofNat_of_zero_le h
  rw [Int.toNat_natCast]
  exact sH s a m w ha (by omega)
 ·rw [if_neg h]
  obtain ⟨m, hm⟩ := Int.eq_ofNat_of_zero_le (show 0 ≤ -n by omega)
  rw [hm, Int.toNat_natCast, show n = -(m : Int) by omega]
  exact sq s a m w hT ha (by omega) (by omega)
theorem eJ (s : Bool) (a : ByteArray) (e : Int) (w : World) (hT : eN w) (ha : a.size ≤ 100000000) (h1 : -1000000000000 ≤ e) (h2 : e ≤ 1000000000000) :
  Calls Tryz.prog 72 #[.agg #[.bool s, .string a], .int .i64 e] w fun r w' => r = .returned (.agg #[.bool (nR (Dyadic.ofIntWithPrec (iv s a) (-e))).neg, .string (nR (Dyadic.ofIntWithPrec (iv s a) (-e))).br, .int .i64 (nR (Dyadic.ofIntWithPrec (iv s a) (-e))).e]) ∧ Below w.heap.size w w' := by
 have hh := Hp.start w
 by_cases h0 : iv s a = 0
 ·rw [h0, jr, jG]
  refine aj (N := 21) (l := [.agg #[.bool s, .string a], .int .i64 e]) Tryz.func72 rfl rfl (by simp) ?_
  refine sr ?_
  refine cW hh [_,_] ?_
  intro b2 w2 hh
  refine bY hh ?_
  intro b4 w4 hh
  refine aa (ah (sr ?_))
  refine cD hh 1 [_,_] ?_
  refine bF hh (mh s a _) rfl ?_
  intro w7 hh
  rw [h0]
  refine dL (aa (cT (sr ?_)))
  refine fS [_,_,_] ?_
  refine bK hh 0 [_,_,_] ?_
  intro ws hh
  replace hh : Hp _ (.blk _ _ [_, _, _] _ :: _) _ := hh
  refine aa (aq (a8 ?_))
  refine gC (aO rfl (aP (vs := [_, _, _]) aC.out (hh.au (i := 0) (n := 3) rfl rfl) rfl) bA) ?_
  exact ⟨rfl, hh.below⟩
 ·have hs : (iv s a).sign ≠ 0 := by rw [ne_eq, Int.sign_eq_zero_iff_zero]; exact h0
  rw [l3 h0]
  have hz : bN a ≠ 0 := fun h => h0 ((tT s a).2 h)
  have htz : tz (bN a) < 8 * a.size + 1 := by
   have := oQ a
   rw [show (256 : Nat) = 2 ^ 8 from rfl, ← Nat.pow_mul] at this
   have := oU hz this
   omega
  have hsh : ur (iv s a) (-(tz (bN a) : Int)) = iv s a / 2 ^ tz (bN a) := by
   unfold ur
   split
   ·have : tz (bN a) = 0 := by omega
    rw [this]; simp
   ·rw [Int.neg_neg, Int.toNat_natCast]
  refine aj (N := 21) (l := [.agg #[.bool s, .string a], .int .i64 e]) Tryz.func72 rfl rfl (by simp) ?_
  refine sr ?_
  refine cW hh [_,_] ?_
  intro b2 w2 hh
  refine bY hh ?_
  intro b4 w4 hh
  refine aa (ah (sr ?_))
  refine cD hh 1 [_,_] ?_
  refine bF hh (mh s a _) rfl ?_
  intro w7 hh
  refine dL (aa (cF (al (ai (sr (bG ?_))))))
  refine bI hh 1 ?_
  refine bF hh (gQ a _ (by omega) (hT.hp hh)) rfl ?_
  intro w12 hh
  refine aI (aa (sr ?_))
  refine cD hh 1 [_,_] (mI ?_)
  refine lL rfl (by omega) (by omega) (by decide) ?_
  refine bF hh (k6 s a (-(tz (bN a) : Int)) _ (hT.hp hh) ha (by omega) (by omega)) rfl ?_
  intro w16 hh
  rw [hsh]
  refine mI (mI ?_)
  refine bC ?_
  refine fS [_,_,_] ?_
  refine bK hh 0 [_,_,_] ?_
  intro ws hh
  replace hh : Hp _ (.blk _ _ [_, _, _] _ :: _) _ := hh
  refine aa (aq ?_)
  refine gC (aO rfl (aP (vs := [_, _, _]) aC.out (hh.au (i := 0) (n := 3) rfl rfl) rfl) bA) ?_
  exact ⟨rfl, hh.below⟩
def NR.ok (a : NR) : Prop := a.br.size ≤ 1000000 ∧ -10000000 ≤ a.e ∧ a.e ≤ 10000000
theorem Sz.ok {k : Nat} {x : Dyadic} (h : Sz k x) (hk : k ≤ 3999990) : (nR x).ok := by
 have := h.nr
 refine ⟨by omega, by omega, by omega⟩
theorem ea (n : Int) (w : World) (hT : eN w) (h1 : -9223372036854775808 ≤ n) (h2 : n ≤ 9223372036854775807) :
  Calls Tryz.prog 47 #[.int .i64 n] w fun r w' => r = .returned (.agg #[.bool (nR (n : Dyadic)).neg, .string (nR (n : Dyadic)).br, .int .i64 (nR (n : Dyadic)).e]) ∧ Below w.heap.size w w' := by
 have hh := Hp.start w
 have hsz : (iM n).size ≤ 100000000 := by
  rw [dv]
  have : bx n.natAbs ≤ 64 := cL (by omega)
  omega
 have hc : ∀ w1, eN w1 → Calls Tryz.prog 72 #[.agg #[.bool (iN n), .string (iM n)], .int .i64 0] w1 fun r w' => r = .returned (.agg #[.bool (nR (n : Dyadic)).neg, .string (nR (n : Dyadic)).br, .int .i64 (nR (n : Dyadic)).e]) ∧ Below w1.heap.size w1 w' := fun w1 hT1 => by
  have := eJ (iN n) (iM n) 0 w1 hT1 hsz (by omega) (by omega)
  rw [eE] at this
  exact this
 refine aj (N := 6) (l := [.int .i64 n]) Tryz.func47 rfl rfl (by simp) ?_
 refine sr ?_
 refine bY hh ?_
 intro b2 w2 hh
 refine aa (sr (mI ?_))
 refine bF hh (jZ n _ h1 h2) rfl ?_
 intro w4 hh
 refine bF hh (hc _ (hT.hp hh)) rfl ?_
 intro w5 hh
 refine bK hh 0 [_,_,_] ?_
 intro ws hh
 replace hh : Hp _ (.blk _ _ [_, _, _] _ :: _) _ := hh
 refine aa (aq ?_)
 refine gC (aO rfl (aP (vs := [_, _, _]) aC.out (hh.au (i := 0) (n := 3) rfl rfl) rfl) bA) ?_
 exact ⟨rfl, hh.below⟩
theorem eo (a : NR) (w : World) (hT : eN w) (ha : a.br.size ≤ 100000000) (h1 : -1000000000000 ≤ a.e) (h2 : a.e ≤ 1000000000000) :
  Calls Tryz.prog 117 #[.agg #[.bool a.neg, .string a.br, .int .i64 a.e]] w fun r w' => r = .returned (.agg #[.bool (nR a.d).neg, .string (nR a.d).br, .int .i64 (nR a.d).e]) ∧ Below w.heap.size w w' := by
 have hh := Hp.start w
 refine aj (N := 8) (l := [.agg #[.bool a.neg, .string a.br, .int .i64 a.e]]) Tryz.func117 rfl rfl (by simp) ?_
 refine sr ?_
 refine cW hh [_,_,_] ?_
 intro b1 w1 hh
 refine bY hh ?_
 intro b2 w2 hh
 refine aa (sr (bG ?_))
 refine cD hh 1 [_,_] (bG ?_)
 refine bI hh 1 ?_
 refine bF hh (eJ a.neg a.br a.e _ (hT.hp hh) ha h1 h2) rfl ?_
 intro w7 hh
 refine bK hh 0 [_,_,_] ?_
 intro ws hh
 replace hh : Hp _ (.blk _ _ [_, _, _] _ :: _) _ := hh
 refine aa (aq ?_)
 refine gC (aO rfl (aP (vs := [_, _, _]) aC.out (hh.au (i := 0) (n := 3) rfl rfl) rfl) bA) ?_
 exact ⟨rfl, hh.below⟩
theorem sE (a : NR) (w : World) (hT : eN w) (ha : a.br.size ≤ 100000000) (h1 : -1000000000000 ≤ a.e) (h2 : a.e ≤ 1000000000000) :
  Calls Tryz.prog 96 #[.agg #[.bool a.neg, .string a.br, .int .i64 a.e]] w fun r w' => r = .returned (.agg #[.bool (nR (-a.d)).neg, .string (nR (-a.d)).br, .int .i64 (nR (-a.d)).e]) ∧ Below w.heap.size w w' := by
 have hh := Hp.start w
 have hc : ∀ w1, eN w1 → Calls Tryz.prog 72 #[.agg #[.bool (iN (-(iv a.neg a.br))), .string (iM (-(iv a.neg a.br)))], .int .i64 a.e] w1 fun r w' => r = .returned (.agg #[.bool (nR (-a.d)).neg, .string (nR (-a.d)).br, .int .i64 (nR (-a.d)).e]) ∧ Below w1.heap.size w1 w' := fun w1 hT1 => by
  have hs := mj a.neg a.br
  have := eJ (iN (-(iv a.neg a.br))) (iM (-(iv a.neg a.br))) a.e w1 hT1 (by omega) h1 h2
  rw [eE, ← ub] at this
  exact this
 refine aj (N := 9) (l := [.agg #[.bool a.neg, .string a.br, .int .i64 a.e]]) Tryz.func96 rfl rfl (by simp) ?_
 refine sr ?_
 refine cW hh [_,_,_] ?_
 intro b1 w1 hh
 refine bY hh ?_
 intro b2 w2 hh
 refine aa (ah ?_)
 refine aN 5 [[(1, none)], [(3, some 0)], [(4, some 1)], [(1, none)], [(6, some 3)]] [(4, 7), (3, 6), (2, 5), (1, 4), (0, 3)] hh mixed (by kernel_rfl) ?_
 refine eZ ?_
 refine fB 1 [_,_] ?_
 refine dC (fun _ hj => nB a.neg a.br _) ?_
 refine eZ ?_
 refine fZ 1 ?_
 refine bj ?_
 intro f W hJ hV
 have hb_1 := hJ.bl
 obtain ⟨v7, v6, v5, v4, v3, _⟩ := hV
 replace hh := hJ.hp
 refine aY (bm (ae v7 (ae v6 (ae v5 (ae v4 (ae v3 aX)))))) ?_
 dsimp only [ct]
 clear hJ
 refine bF hh (hc _ (hT.hp hh)) rfl ?_
 intro w8 hh
 refine bK hh 0 [_,_,_] ?_
 intro ws hh
 replace hh : Hp _ (.blk _ _ [_, _, _] _ :: _) _ := hh
 refine aa (aq ?_)
 refine gC (aO rfl (aP (vs := [_, _, _]) aC.out (hh.au (i := 0) (n := 3) rfl rfl) rfl) bA) ?_
 exact ⟨rfl, hh.below⟩
theorem o8 (s : Int) (a : NR) (w : World) (hT : eN w) (ha : a.br.size ≤ 100000000) (h1 : -1000000000 ≤ a.e - s) (h2 : a.e - s ≤ 1000000000) :
  Calls Tryz.prog 123 #[.int .i64 s, .agg #[.bool a.neg, .string a.br, .int .i64 a.e]] w fun r w' => r = .returned (.agg #[.bool (iN (ur a.i (a.e - s))), .string (iM (ur a.i (a.e - s)))]) ∧ Below w.heap.size w w' := by
 have hh := Hp.start w
 refine aj (N := 12) (l := [.int .i64 s, .agg #[.bool a.neg, .string a.br, .int .i64 a.e]]) Tryz.func123 rfl rfl (by simp) ?_
 refine sr ?_
 refine cW hh [_,_,_] ?_
 intro b3 w3 hh
 refine bY hh ?_
 intro b4 w4 hh
 refine aa (sr (bG ?_))
 refine cD hh 1 [_,_] (bG ?_)
 refine bI hh 1 ?_
 refine mI ?_
 refine eu ?_
 refine bF hh (k6 a.neg a.br (a.e - s) _ (hT.hp hh) ha h1 h2) rfl ?_
 intro w11 hh
 refine bK hh 0 [_,_] ?_
 intro ws hh
 replace hh : Hp _ (.blk _ _ [_, _] _ :: _) _ := hh
 refine aa (aq ?_)
 refine gC (aO rfl (aP (vs := [_, _]) aC.out (hh.au (i := 0) (n := 2) rfl rfl) rfl) bA) ?_
 exact ⟨rfl, hh.below⟩
theorem sO (x : Dyadic) (p : Int) : ur (nR x).i ((nR x).e - -p) = cv x p := by
 cases x with
 | zero => exact xq _
 | ofOdd n k h =>
  simp only [nR, NR.i, eE, cv]
  congr 1
  omega
theorem ig (x : Dyadic) : nR x = ⟨false, ByteArray.mk #[], 0⟩ ↔ x = 0 := by rw [← jG, zD]
theorem jq {a : NR} (h : a.ok) : Sz 18000000 a.d ∧ (nR a.d).br.size ≤ 1000000 ∧ -18000000 ≤ (nR a.d).e ∧ (nR a.d).e ≤ 18000000 := by
 obtain ⟨h1, h2, h3⟩ := h
 refine ⟨Sz.raw (m := 8000000) (E := 10000000) (by omega) (by omega) (by omega), ?_⟩
 by_cases h0 : iv a.neg a.br = 0
 ·rw [NR.d, NR.i, h0, jr, jG]
  exact ⟨Nat.zero_le _, by simp, by simp⟩
 ·rw [NR.d, NR.i, l3 h0]
  have hz : bN a.br ≠ 0 := fun h => h0 ((tT a.neg a.br).2 h)
  have htz : tz (bN a.br) < 8 * a.br.size + 1 := by
   have := oQ a.br
   rw [show (256 : Nat) = 2 ^ 8 from rfl, ← Nat.pow_mul] at this
   have := oU hz this
   omega
  have hb : bx (iv a.neg a.br / 2 ^ tz (bN a.br)).natAbs ≤ 8 * a.br.size := by
   apply cL
   refine Nat.lt_of_le_of_lt (Int.natAbs_ediv_le_natAbs _ _) ?_
   rw [gO]
   exact Nat.lt_of_lt_of_le (cx _) (Nat.pow_le_pow_right (by omega) (fg _))
  simp only
  rw [dv]
  refine ⟨by omega, by omega, by omega⟩
theorem qB (a b : NR) (w : World) (hT : eN w) (ha : a.ok) (hb : b.ok) :
  Calls Tryz.prog 71 #[.agg #[.bool a.neg, .string a.br, .int .i64 a.e], .agg #[.bool b.neg, .string b.br, .int .i64 b.e]] w fun r w' => r = .returned (.agg #[.int .i64 (-(cQ a.d b.d)), .bool (iN (cv a.d (cQ a.d b.d))), .string (iM (cv a.d (cQ a.d b.d))), .bool (iN (cv b.d (cQ a.d b.d))), .string (iM (cv b.d (cQ a.d b.d)))]) ∧ Below w.heap.size w w' := by
 have hh := Hp.start w
 obtain ⟨ha1, ha2, ha3⟩ := ha
 obtain ⟨hb1, hb2, hb3⟩ := hb
 obtain ⟨_, fa1, fa2, fa3⟩ := jq (a := a) ⟨ha1, ha2, ha3⟩
 obtain ⟨_, fb1, fb2, fb3⟩ := jq (a := b) ⟨hb1, hb2, hb3⟩
 have hP := uC a.d b.d 18000000 (by omega) (by omega)
 have hcx := fun w1 hT1 => o8 (-(cQ a.d b.d)) (nR a.d) w1 hT1 (by omega) (by omega) (by omega)
 have hcy := fun w1 hT1 => o8 (-(cQ a.d b.d)) (nR b.d) w1 hT1 (by omega) (by omega) (by omega)
 rw [sO] at hcx hcy
 by_cases h0 : a.d = 0
 ·have h0' := (ig a.d).2 h0
  have hs : (nR b.d).e = -(cQ a.d b.d) := by
   rw [h0]
   cases b.d with
   | zero => rfl
   | ofOdd n k h => rfl
  refine aj (N := 41) (l := [.agg #[.bool a.neg, .string a.br, .int .i64 a.e], .agg #[.bool b.neg, .string b.br, .int .i64 b.e]]) Tryz.func71 rfl rfl (by simp) ?_
  refine sr ?_
  refine cW hh [_,_,_] ?_
  intro b2 w2 hh
  refine cW hh [_,_,_] ?_
  intro b3 w3 hh
  refine bY hh ?_
  intro b4 w4 hh
  refine aa (ah ?_)
  refine aN 3 [[(2, none)], [(7, some 0)], [(3, none)]] [(2, 9), (1, 8), (0, 7)] hh mixed (by kernel_rfl) ?_
  refine fB 2 [_,_,_] ?_
  refine dC (fun _ hj => eo a _ (hT.hp hj.hp) (by omega) (by omega) (by omega)) ?_
  refine fB 1 [_,_,_] ?_
  refine bj ?_
  intro f W hJ hV
  have hb_1 := hJ.bl
  obtain ⟨v9, v8, v7, _⟩ := hV
  replace hh := hJ.hp
  refine aY (bm (ae v9 (ae v8 (ae v7 aX)))) ?_
  dsimp only [ct]
  clear hJ
  refine bF hh (eo b _ (hT.hp hh) (by omega) (by omega) (by omega)) rfl ?_
  intro w10 hh
  refine bK hh 2 [_,_,_] ?_
  intro ws hh
  replace hh : Hp _ (_ :: _ :: .blk _ _ [_, _, _] _ :: _) _ := hh
  refine bK hh 1 [_,_,_] ?_
  intro ws hh
  replace hh : Hp _ (_ :: .blk _ _ [_, _, _] _ :: _) _ := hh
  refine aa (sr (bG ?_))
  refine bI hh 2 ?_
  refine bG ?_
  refine bI hh 1 ?_
  refine tL rfl rfl (by decide) ?_
  refine aI (aa (ah (ao (sr ?_))))
  refine cD hh 2 [_,_,_] ?_
  refine fS [_,_,_] ?_
  first | refine iJ rfl rfl (by first | assumption | rfl) (by decide) ?_ | refine iQ rfl rfl (by assumption) (by decide) ?_
  refine aB (aa (cT (ak (bG ?_))))
  refine bI hh 1 ?_
  refine aI (aD (aV (ai (sr ?_))))
  rw [hs]
  refine mI ?_
  refine fS [_,_,_,_,_] ?_
  refine bY hh ?_
  intro b6 w6 hh
  refine bK hh 0 [_,_,_,_,_] ?_
  intro ws hh
  replace hh : Hp _ (.blk _ _ [_, _, _, _, _] _ :: _) _ := hh
  refine aa (ah ?_)
  refine aN 9 [[(6, none)], [(30, some 0)], [(2, none)], [(31, some 1), (32, some 2)], [(6, none)], [(34, some 4)], [(3, none)], [(35, some 5), (36, some 6)], [(6, none)]] [(8, 38), (7, 37), (6, 36), (5, 35), (4, 34), (3, 33), (2, 32), (1, 31), (0, 30)] hh mixed (by kernel_rfl) ?_
  refine eZ ?_
  refine fZ 0 ?_
  refine fB 3 [_,_,_] ?_
  refine dC (fun _ hj => hcx _ (hT.hp hj.hp)) ?_
  refine eZ ?_
  refine fZ 0 ?_
  refine fB 2 [_,_,_] ?_
  refine dC (fun _ hj => hcy _ (hT.hp hj.hp)) ?_
  refine eZ ?_
  refine bj ?_
  intro f W hJ hV
  have hb_8 := hJ.bl
  obtain ⟨v38, v37, v36, v35, v34, v33, v32, v31, v30, _⟩ := hV
  replace hh := hJ.hp
  refine aY (bm (ae v38 (ae v37 (ae v36 (ae v35 (ae v34 (ae v33 (ae v32 (ae v31 (ae v30 aX)))))))))) ?_
  dsimp only [ct]
  clear hJ
  refine bK hh 0 [_,_] ?_
  intro ws hh
  replace hh : Hp _ (.blk _ _ [_, _, _, _, _] _ :: _) _ := hh
  refine bG ?_
  refine bK hh 0 [_,_] ?_
  intro ws hh
  replace hh : Hp _ (.blk _ _ [_, _, _, _, _] _ :: _) _ := hh
  refine aa (sr ?_)
  refine cD hh 0 [_,_,_,_,_] ?_
  refine bK hh 1 [_,_,_,_,_] ?_
  intro ws hh
  replace hh : Hp _ (_ :: .blk _ _ [_, _, _, _, _] _ :: _) _ := hh
  refine aa (aq ?_)
  refine gC (aO rfl (aP (vs := [_, _, _, _, _]) aC.out (hh.au (i := 1) (n := 5) rfl rfl) rfl) bA) ?_
  exact ⟨rfl, hh.below⟩
 ·have h0' : ¬ nR a.d = ⟨false, ByteArray.mk #[], 0⟩ := fun h => h0 ((ig _).1 h)
  by_cases h1 : b.d = 0
  ·have h1' := (ig b.d).2 h1
   have hs : (nR a.d).e = -(cQ a.d b.d) := by
    rw [h1]
    cases a.d with
    | zero => rfl
    | ofOdd n k h => rfl
   refine aj (N := 41) (l := [.agg #[.bool a.neg, .string a.br, .int .i64 a.e], .agg #[.bool b.neg, .string b.br, .int .i64 b.e]]) Tryz.func71 rfl rfl (by simp) ?_
   refine sr ?_
   refine cW hh [_,_,_] ?_
   intro b2 w2 hh
   refine cW hh [_,_,_] ?_
   intro b3 w3 hh
   refine bY hh ?_
   intro b4 w4 hh
   refine aa (ah ?_)
   refine aN 3 [[(2, none)], [(7, some 0)], [(3, none)]] [(2, 9), (1, 8), (0, 7)] hh mixed (by kernel_rfl) ?_
   refine fB 2 [_,_,_] ?_
   refine dC (fun _ hj => eo a _ (hT.hp hj.hp) (by omega) (by omega) (by omega)) ?_
   refine fB 1 [_,_,_] ?_
   refine bj ?_
   intro f W hJ hV
   have hb_1 := hJ.bl
   obtain ⟨v9, v8, v7, _⟩ := hV
   replace hh := hJ.hp
   refine aY (bm (ae v9 (ae v8 (ae v7 aX)))) ?_
   dsimp only [ct]
   clear hJ
   refine bF hh (eo b _ (hT.hp hh) (by omega) (by omega) (by omega)) rfl ?_
   intro w10 hh
   refine bK hh 2 [_,_,_] ?_
   intro ws hh
   replace hh : Hp _ (_ :: _ :: .blk _ _ [_, _, _] _ :: _) _ := hh
   refine bK hh 1 [_,_,_] ?_
   intro ws hh
   replace hh : Hp _ (_ :: .blk _ _ [_, _, _] _ :: _) _ := hh
   refine aa (sr (bG ?_))
   refine bI hh 2 ?_
   refine bG ?_
   refine bI hh 1 ?_
   refine tL rfl rfl (by decide) ?_
   refine aI (aa (ah (ao (sr ?_))))
   refine cD hh 2 [_,_,_] ?_
   refine fS [_,_,_] ?_
   first | refine iJ rfl rfl (by first | assumption | rfl) (by decide) ?_ | refine iQ rfl rfl (by assumption) (by decide) ?_
   refine aB (aa (cF (sr ?_)))
   refine cD hh 1 [_,_,_] ?_
   refine fS [_,_,_] ?_
   first | refine iJ rfl rfl (by first | assumption | rfl) (by decide) ?_ | refine iQ rfl rfl (by assumption) (by decide) ?_
   refine aB (aa (cT (ak (bG ?_))))
   refine bI hh 2 ?_
   refine aI (aD (aV (ai (sr ?_))))
   rw [hs]
   refine mI ?_
   refine fS [_,_,_,_,_] ?_
   refine bY hh ?_
   intro b6 w6 hh
   refine bK hh 0 [_,_,_,_,_] ?_
   intro ws hh
   replace hh : Hp _ (.blk _ _ [_, _, _, _, _] _ :: _) _ := hh
   refine aa (ah ?_)
   refine aN 9 [[(6, none)], [(30, some 0)], [(2, none)], [(31, some 1), (32, some 2)], [(6, none)], [(34, some 4)], [(3, none)], [(35, some 5), (36, some 6)], [(6, none)]] [(8, 38), (7, 37), (6, 36), (5, 35), (4, 34), (3, 33), (2, 32), (1, 31), (0, 30)] hh mixed (by kernel_rfl) ?_
   refine eZ ?_
   refine fZ 0 ?_
   refine fB 3 [_,_,_] ?_
   refine dC (fun _ hj => hcx _ (hT.hp hj.hp)) ?_
   refine eZ ?_
   refine fZ 0 ?_
   refine fB 2 [_,_,_] ?_
   refine dC (fun _ hj => hcy _ (hT.hp hj.hp)) ?_
   refine eZ ?_
   refine bj ?_
   intro f W hJ hV
   have hb_8 := hJ.bl
   obtain ⟨v38, v37, v36, v35, v34, v33, v32, v31, v30, _⟩ := hV
   replace hh := hJ.hp
   refine aY (bm (ae v38 (ae v37 (ae v36 (ae v35 (ae v34 (ae v33 (ae v32 (ae v31 (ae v30 aX)))))))))) ?_
   dsimp only [ct]
   clear hJ
   refine bK hh 0 [_,_] ?_
   intro ws hh
   replace hh : Hp _ (.blk _ _ [_, _, _, _, _] _ :: _) _ := hh
   refine bG ?_
   refine bK hh 0 [_,_] ?_
   intro ws hh
   replace hh : Hp _ (.blk _ _ [_, _, _, _, _] _ :: _) _ := hh
   refine aa (sr ?_)
   refine cD hh 0 [_,_,_,_,_] ?_
   refine bK hh 1 [_,_,_,_,_] ?_
   intro ws hh
   replace hh : Hp _ (_ :: .blk _ _ [_, _, _, _, _] _ :: _) _ := hh
   refine aa (aq ?_)
   refine gC (aO rfl (aP (vs := [_, _, _, _, _]) aC.out (hh.au (i := 1) (n := 5) rfl rfl) rfl) bA) ?_
   exact ⟨rfl, hh.below⟩
  ·have h1' : ¬ nR b.d = ⟨false, ByteArray.mk #[], 0⟩ := fun h => h1 ((ig _).1 h)
   have hs : (if (nR b.d).e < (nR a.d).e then (nR b.d).e else (nR a.d).e) = -(cQ a.d b.d) := by
    revert h0 h1
    cases a.d with
    | zero => intro h; exact absurd rfl h
    | ofOdd n k h =>
     cases b.d with
     | zero => intro _ h; exact absurd rfl h
     | ofOdd m l g =>
      intro _ _
      simp only [nR, cQ]
      omega
   refine aj (N := 41) (l := [.agg #[.bool a.neg, .string a.br, .int .i64 a.e], .agg #[.bool b.neg, .string b.br, .int .i64 b.e]]) Tryz.func71 rfl rfl (by simp) ?_
   refine sr ?_
   refine cW hh [_,_,_] ?_
   intro b2 w2 hh
   refine cW hh [_,_,_] ?_
   intro b3 w3 hh
   refine bY hh ?_
   intro b4 w4 hh
   refine aa (ah ?_)
   refine aN 3 [[(2, none)], [(7, some 0)], [(3, none)]] [(2, 9), (1, 8), (0, 7)] hh mixed (by kernel_rfl) ?_
   refine fB 2 [_,_,_] ?_
   refine dC (fun _ hj => eo a _ (hT.hp hj.hp) (by omega) (by omega) (by omega)) ?_
   refine fB 1 [_,_,_] ?_
   refine bj ?_
   intro f W hJ hV
   have hb_1 := hJ.bl
   obtain ⟨v9, v8, v7, _⟩ := hV
   replace hh := hJ.hp
   refine aY (bm (ae v9 (ae v8 (ae v7 aX)))) ?_
   dsimp only [ct]
   clear hJ
   refine bF hh (eo b _ (hT.hp hh) (by omega) (by omega) (by omega)) rfl ?_
   intro w10 hh
   refine bK hh 2 [_,_,_] ?_
   intro ws hh
   replace hh : Hp _ (_ :: _ :: .blk _ _ [_, _, _] _ :: _) _ := hh
   refine bK hh 1 [_,_,_] ?_
   intro ws hh
   replace hh : Hp _ (_ :: .blk _ _ [_, _, _] _ :: _) _ := hh
   refine aa (sr (bG ?_))
   refine bI hh 2 ?_
   refine bG ?_
   refine bI hh 1 ?_
   refine tL rfl rfl (by decide) ?_
   refine aI (aa (ah (ao (sr ?_))))
   refine cD hh 2 [_,_,_] ?_
   refine fS [_,_,_] ?_
   first | refine iJ rfl rfl (by first | assumption | rfl) (by decide) ?_ | refine iQ rfl rfl (by assumption) (by decide) ?_
   refine aB (aa (cF (sr ?_)))
   refine cD hh 1 [_,_,_] ?_
   refine fS [_,_,_] ?_
   first | refine iJ rfl rfl (by first | assumption | rfl) (by decide) ?_ | refine iQ rfl rfl (by assumption) (by decide) ?_
   refine aB (aa (cF (al (aV (ai (sr ?_))))))
   rw [hs]
   refine mI ?_
   refine fS [_,_,_,_,_] ?_
   refine bY hh ?_
   intro b6 w6 hh
   refine bK hh 0 [_,_,_,_,_] ?_
   intro ws hh
   replace hh : Hp _ (.blk _ _ [_, _, _, _, _] _ :: _) _ := hh
   refine aa (ah ?_)
   refine aN 9 [[(6, none)], [(30, some 0)], [(2, none)], [(31, some 1), (32, some 2)], [(6, none)], [(34, some 4)], [(3, none)], [(35, some 5), (36, some 6)], [(6, none)]] [(8, 38), (7, 37), (6, 36), (5, 35), (4, 34), (3, 33), (2, 32), (1, 31), (0, 30)] hh mixed (by kernel_rfl) ?_
   refine eZ ?_
   refine fZ 0 ?_
   refine fB 3 [_,_,_] ?_
   refine dC (fun _ hj => hcx _ (hT.hp hj.hp)) ?_
   refine eZ ?_
   refine fZ 0 ?_
   refine fB 2 [_,_,_] ?_
   refine dC (fun _ hj => hcy _ (hT.hp hj.hp)) ?_
   refine eZ ?_
   refine bj ?_
   intro f W hJ hV
   have hb_8 := hJ.bl
   obtain ⟨v38, v37, v36, v35, v34, v33, v32, v31, v30, _⟩ := hV
   replace hh := hJ.hp
   refine aY (bm (ae v38 (ae v37 (ae v36 (ae v35 (ae v34 (ae v33 (ae v32 (ae v31 (ae v30 aX)))))))))) ?_
   dsimp only [ct]
   clear hJ
   refine bK hh 0 [_,_] ?_
   intro ws hh
   replace hh : Hp _ (.blk _ _ [_, _, _, _, _] _ :: _) _ := hh
   refine bG ?_
   refine bK hh 0 [_,_] ?_
   intro ws hh
   replace hh : Hp _ (.blk _ _ [_, _, _, _, _] _ :: _) _ := hh
   refine aa (sr ?_)
   refine cD hh 0 [_,_,_,_,_] ?_
   refine bK hh 1 [_,_,_,_,_] ?_
   intro ws hh
   replace hh : Hp _ (_ :: .blk _ _ [_, _, _, _, _] _ :: _) _ := hh
   refine aa (aq ?_)
   refine gC (aO rfl (aP (vs := [_, _, _, _, _]) aC.out (hh.au (i := 1) (n := 5) rfl rfl) rfl) bA) ?_
   exact ⟨rfl, hh.below⟩
end Go.Proofs.YtioilmppidlbnaaGreatDoor
namespace Go.Proofs.YtioilmppidlbnaaGreatDoor
open Go.RowKit
def BT (x y : Dyadic) : Int := if x < y then -1 else if y < x then 1 else 0
theorem pb {a b : NR} (ha : a.ok) (hb : b.ok) : (iM (cv a.d (cQ a.d b.d))).size ≤ 6000000 ∧ (iM (cv b.d (cQ a.d b.d))).size ≤ 6000000 ∧ -18000000 ≤ cQ a.d b.d ∧ cQ a.d b.d ≤ 18000000 := by
 obtain ⟨_, fa1, fa2, fa3⟩ := jq ha
 obtain ⟨_, fb1, fb2, fb3⟩ := jq hb
 have hP := uC a.d b.d 18000000 (by omega) (by omega)
 have h1 := nk a.d (cQ a.d b.d)
 have h2 := nk b.d (cQ a.d b.d)
 rw [dv, dv]
 refine ⟨by omega, by omega, hP.1, hP.2⟩
def cz (n : Int) : Dyadic := Dyadic.ofIntWithPrec 1 (-n)
theorem tX (i p n : Int) : Dyadic.ofIntWithPrec i (p - n) = Dyadic.ofIntWithPrec i p * cz n := by
 rw [cz, mE, Int.mul_one]; rfl
theorem iU (a : NR) (n : Int) (w : World) (hT : eN w) (ha : a.br.size ≤ 100000000) (h1 : -100000000000 ≤ a.e) (h2 : a.e ≤ 100000000000) (h3 : -100000000000 ≤ n) (h4 : n ≤ 100000000000) :
  Calls Tryz.prog 46 #[.agg #[.bool a.neg, .string a.br, .int .i64 a.e], .int .i64 n] w fun r w' => r = .returned (.agg #[.bool (nR (a.d * cz n)).neg, .string (nR (a.d * cz n)).br, .int .i64 (nR (a.d * cz n)).e]) ∧ Below w.heap.size w w' := by
 have hh := Hp.start w
 have e1 : Dyadic.ofIntWithPrec (iv a.neg a.br) (-(a.e + n)) = a.d * cz n := by
  rw [NR.d, NR.i, ← tX]; congr 1; omega
 have hc := fun w1 hT1 => eJ a.neg a.br (a.e + n) w1 hT1 ha (by omega) (by omega)
 rw [e1] at hc
 refine aj (N := 12) (l := [.agg #[.bool a.neg, .string a.br, .int .i64 a.e], .int .i64 n]) Tryz.func46 rfl rfl (by simp) ?_
 refine sr ?_
 refine cW hh [_,_,_] ?_
 intro b2 w2 hh
 refine bY hh ?_
 intro b4 w4 hh
 refine aa (sr (bG ?_))
 refine cD hh 1 [_,_] (bG ?_)
 refine bI hh 1 ?_
 refine mI ?_
 refine bC ?_
 refine bF hh (hc _ (hT.hp hh)) rfl ?_
 intro w11 hh
 refine bK hh 0 [_,_,_] ?_
 intro ws hh
 replace hh : Hp _ (.blk _ _ [_, _, _] _ :: _) _ := hh
 refine aa (aq ?_)
 refine gC (aO rfl (aP (vs := [_, _, _]) aC.out (hh.au (i := 0) (n := 3) rfl rfl) rfl) bA) ?_
 exact ⟨rfl, hh.below⟩
def j3 : List Dyadic → Dyadic := fun l => l.foldl (· + ·) 0
theorem pr (l : List Dyadic) (x : Dyadic) : j3 (l ++ [x]) = j3 l + x := by simp [j3]
theorem Sz.sum {k : Nat} {l : List Dyadic} (h : ∀ x ∈ l, Sz k x) : Sz (k + l.length) (j3 l) := by
 have : ∀ (n : Nat), n ≤ l.length → Sz (k + n) (j3 (l.take n)) := by
  intro n
  induction n with
  | zero => intro _; exact Sz.zero _
  | succ n ih =>
   intro hn
   obtain ⟨x, hx⟩ := aU (l := l) (k := n) (by omega)
   rw [bo hx, pr]
   exact (ih (by omega)).add ((h x (List.mem_of_getElem? hx)).mono (by omega))
 have h2 := this l.length (Nat.le_refl _)
 rwa [List.take_length] at h2
theorem nv (a b : NR) (w : World) (hT : eN w) (ha : a.ok) (hb : b.ok) :
  Calls Tryz.prog 72 #[.agg #[.bool (iN (cv a.d (cQ a.d b.d) + cv b.d (cQ a.d b.d))), .string (iM (cv a.d (cQ a.d b.d) + cv b.d (cQ a.d b.d)))], .int .i64 (-(cQ a.d b.d))] w fun r w' => r = .returned (.agg #[.bool (nR (a.d + b.d)).neg, .string (nR (a.d + b.d)).br, .int .i64 (nR (a.d + b.d)).e]) ∧ Below w.heap.size w w' := by
 obtain ⟨hs1, hs2, hP1, hP2⟩ := pb ha hb
 rw [dv] at hs1 hs2
 have h3 := kP (cv a.d (cQ a.d b.d)) (cv b.d (cQ a.d b.d))
 have := eJ (iN (cv a.d (cQ a.d b.d) + cv b.d (cQ a.d b.d))) (iM (cv a.d (cQ a.d b.d) + cv b.d (cQ a.d b.d))) (-(cQ a.d b.d)) w hT (by rw [dv]; omega) (by omega) (by omega)
 rw [eE, Int.neg_neg, yH] at this
 exact this
theorem gR (L : Option Addr) (n c : Nat) (l : List NR) (w : World) (hT : eN w) (hS : Sl w L n 3 (a9 NR.cells l)) (hl : ∀ a ∈ l, a.ok) (k : Nat) (hk : ∀ a ∈ l, Sz k a.d) (hkn : k + n ≤ 3999990) :
  Calls Tryz.prog 30 #[.slice L n c] w fun r w' => r = .returned (.agg #[.bool (nR (j3 (l.map NR.d))).neg, .string (nR (j3 (l.map NR.d))).br, .int .i64 (nR (j3 (l.map NR.d))).e]) ∧ Below w.heap.size w w' := by
 have hln := hS.eb NR.len (by omega)
 have hh := Hp.start w
 refine aj (N := 27) (l := [.slice L n c]) Tryz.func30 rfl rfl (by simp) ?_
 refine sr ?_
 refine bY hh ?_
 intro b2 w2 hh
 refine aa (sr ?_)
 refine bY hh ?_
 intro b3 w3 hh
 refine aa (ah (sr (mL (a6 (mI (aa (ao ?_)))))))
 refine bD [5, 6, 9, 10, 11, 12, 13, 14, 15, 16, 17, 18, 19, 20, 21, 22, 23, 24, 25] 9
  (fun j w' => ∃ (i : Nat) (S : Dyadic), i ≤ n ∧ j = .int .i64 i ∧ S = j3 ((l.take i).map NR.d) ∧ Hp w [.blk b3 39 [.bool (nR S).neg, .string (nR S).br, .int .i64 (nR S).e] (0, 0), .blk b2 39 [.bool false, .string (ByteArray.mk #[]), .int .i64 0] (0, 0)] w')
  (fun j _ => n - (intOf j).toNat) ?_ ?_
 ·exact ⟨0, 0, Nat.zero_le _, rfl, rfl, hh⟩
 ·clear hh
  rintro ρ' j w' ⟨i, S, hi, rfl, hS2, hh⟩
  by_cases hlt : i < n
  ·obtain ⟨x, hx⟩ := aU (l := l) (k := i) (by omega)
   obtain ⟨ad, rfl, hr⟩ := hS.at_ (by omega)
   have hxm := List.mem_of_getElem? hx
   have hS3 : j3 ((l.take (i + 1)).map NR.d) = S + x.d := by rw [bo hx, List.map_append, List.map_singleton, pr, hS2]
   have hSz : Sz (k + i) S := by
    rw [hS2]
    have := Sz.sum (k := k) (l := (l.take i).map NR.d) (fun y hy => by
     obtain ⟨a, ha, rfl⟩ := List.mem_map.1 hy
     exact hk a (List.mem_of_mem_take ha))
    rw [List.length_map, List.length_take, Nat.min_eq_left (by omega)] at this
    exact this
   have hSo := hSz.ok (by omega)
   have hlc := fun w1 hT1 => qB (nR S) x w1 hT1 hSo (hl x hxm)
   have hmc := fun w1 hT1 => nv (nR S) x w1 hT1 hSo (hl x hxm)
   obtain ⟨hs1, hs2, _⟩ := pb hSo (hl x hxm)
   rw [dw] at hlc hmc hs1 hs2
   have e1 : ([iR (cv S (cQ S x.d)), iR (cv x.d (cQ S x.d))].map IR.v).sum = cv S (cQ S x.d) + cv x.d (cQ S x.d) := by
    simp only [List.map_cons, List.map_nil, List.sum_cons, List.sum_nil, AF]; omega
   have hac : ∀ (A : Option Addr) (cc : Nat) (w1 : World), Sl w1 A 2 2 (a9 IR.cells [iR (cv S (cQ S x.d)), iR (cv x.d (cQ S x.d))]) → Calls Tryz.prog 73 #[.slice A 2 cc] w1 fun e w' => e = .returned (.agg #[.bool (iN (cv S (cQ S x.d) + cv x.d (cQ S x.d))), .string (iM (cv S (cQ S x.d) + cv x.d (cQ S x.d)))]) ∧ Below w1.heap.size w1 w' := fun A cc w1 hsl => by
    have := nA A 2 cc [iR (cv S (cQ S x.d)), iR (cv x.d (cQ S x.d))] w1 hsl (by omega) (by simp [iR]; omega)
    rw [e1] at this
    exact this
   refine sr ?_
   refine aQ (aa (ah (cT (al (ai (ah (ao (sr ?_))))))))
   refine aT (k := i) aG.out aC.size rfl rfl (by omega) (by omega) (by decide) ?_
   refine dM (vs := [_, _, _]) aC.out rfl (((hr.ext hh.below).recAt NR.len hx)) rfl (by decide) ?_
   refine bY hh ?_
   intro b5 w5 hh
   refine bK hh 0 [_,_,_] ?_
   intro ws hh
   replace hh : Hp _ (.blk _ _ [_, _, _] _ :: _) _ := hh
   refine aa (sr ?_)
   refine cD hh 1 [_,_,_] ?_
   refine cD hh 0 [_,_,_] ?_
   refine bF hh (hlc _ (hT.hp hh)) rfl ?_
   intro w15 hh
   refine bY hh ?_
   intro b6 w6 hh
   refine bK hh 0 [_,_,_,_,_] ?_
   intro ws hh
   replace hh : Hp _ (.blk _ _ [_, _, _, _, _] _ :: _) _ := hh
   refine aa ?_
   refine aN 8 [[(6, none)], [(16, some 0)], [(6, none)], [(18, some 2)], [(17, some 1), (19, some 3)], [(20, some 4)], [(6, none)], [(22, some 6)]] [(7, 23), (6, 22), (5, 21), (4, 20), (3, 19), (2, 18), (1, 17), (0, 16)] hh mixed (by kernel_rfl) ?_
   refine eZ ?_
   refine fB 0 [_,_] ?_
   refine eZ ?_
   refine fB 0 [_,_] ?_
   refine uM [_,_,_,_] ?_
   refine bJ (i := 5) (Is (.agg #[.bool (iN (cv S (cQ S x.d) + cv x.d (cQ S x.d))), .string (iM (cv S (cQ S x.d) + cv x.d (cQ S x.d)))])) Is.ext ?_ ?_
   ·intro ρ1 w1 hj hR
    obtain ⟨A20, c20, h20, s20⟩ := hR.1
    exact bQ rfl (bE ar.out (aE h20 bz)) (hac A20 c20 _ s20) (fun _ _ hq => ⟨_, hq.1, hq.2, rfl⟩)
   refine eZ ?_
   refine fZ 0 ?_
   refine bj ?_
   intro f W hJ hV
   have hb_6 := hJ.bl
   obtain ⟨v23, v22, v21, v20, v19, v18, v17, v16, _⟩ := hV
   obtain ⟨A20, c20, e20, f20⟩ : Rows _ _ _ (f 4) W := v20
   replace hh := hJ.hp
   refine aY (bm (ae v23 (ae v22 (ae v21 (ae e20 (ae v19 (ae v18 (ae v17 (ae v16 aX))))))))) ?_
   dsimp only [ct]
   clear e20 hJ
   refine bF hh (hmc _ (hT.hp hh)) rfl ?_
   intro w24 hh
   refine bK hh 2 [_,_,_] ?_
   intro ws hh
   replace hh : Hp _ (_ :: _ :: .blk _ _ [_, _, _] _ :: _) _ := hh
   refine aD (aV (ai (ak ?_)))
   refine bC (mI (aD (ai ?_)))
   replace hh := hh.sub ((List.sublist_cons_self _ _).trans (List.sublist_cons_self _ _))
   refine ⟨⟨i + 1, _, by omega, rfl, hS3.symm, hh⟩, by show n - (i + 1) < n - i; omega, ?_⟩
   (repeat (first | exact ay _ _ _ | refine az rfl ?_ | refine av rfl ?_))
  ·refine sr ?_
   refine aQ (aa (ah (cF ?_)))
   refine a0 ?_
   refine aA (aA (bu (ai (sr ?_))))
   refine cD hh 0 [_,_,_] ?_
   refine bK hh 1 [_,_,_] ?_
   intro ws hh
   replace hh : Hp _ (_ :: .blk _ _ [_, _, _] _ :: _) _ := hh
   refine aa (aq ?_)
   refine gC (aO rfl (aP (vs := [_, _, _]) aC.out (hh.au (i := 1) (n := 3) rfl rfl) rfl) bA) ?_
   rw [List.take_of_length_le (by omega)] at hS2
   rw [hS2]
   exact ⟨rfl, hh.below⟩
theorem jE (x y : Dyadic) : j3 [x, y] = x + y := by
 show (0 + x) + y = x + y
 rw [Dyadic.zero_add]
theorem kA (a b : NR) (w : World) (hT : eN w) (ha : a.ok) (hb : b.ok) (k : Nat) (hka : Sz k a.d) (hkb : Sz k b.d) (hk : k ≤ 3999980) :
  Calls Tryz.prog 48 #[.agg #[.bool a.neg, .string a.br, .int .i64 a.e], .agg #[.bool b.neg, .string b.br, .int .i64 b.e]] w fun r w' => r = .returned (.agg #[.bool (nR (a.d - b.d)).neg, .string (nR (a.d - b.d)).br, .int .i64 (nR (a.d - b.d)).e]) ∧ Below w.heap.size w w' := by
 have hh := Hp.start w
 obtain ⟨hb1, hb2, hb3⟩ := hb
 have e1 : j3 ([a, nR (-b.d)].map NR.d) = a.d - b.d := by
  simp only [List.map_cons, List.map_nil, dw, jE]; rfl
 have hac : ∀ (A : Option Addr) (cc : Nat) (w1 : World), eN w1 → Sl w1 A 2 3 (a9 NR.cells [a, nR (-b.d)]) → Calls Tryz.prog 30 #[.slice A 2 cc] w1 fun r w' => r = .returned (.agg #[.bool (nR (a.d - b.d)).neg, .string (nR (a.d - b.d)).br, .int .i64 (nR (a.d - b.d)).e]) ∧ Below w1.heap.size w1 w' := fun A cc w1 hT1 hsl => by
  have := gR A 2 cc [a, nR (-b.d)] w1 hT1 hsl (by simpa using ⟨ha, hkb.neg.ok (by omega)⟩) k (by simpa [dw] using ⟨hka, hkb.neg⟩) (by omega)
  rw [e1] at this
  exact this
 refine aj (N := 10) (l := [.agg #[.bool a.neg, .string a.br, .int .i64 a.e], .agg #[.bool b.neg, .string b.br, .int .i64 b.e]]) Tryz.func48 rfl rfl (by simp) ?_
 refine sr ?_
 refine cW hh [_,_,_] ?_
 intro b2 w2 hh
 refine cW hh [_,_,_] ?_
 intro b3 w3 hh
 refine bY hh ?_
 intro b4 w4 hh
 refine aa (ah ?_)
 refine aN 3 [[(2, none)], [(3, none)], [(6, some 1)]] [(2, 7), (1, 6), (0, 5)] hh mixed (by kernel_rfl) ?_
 refine fB 2 [_,_,_] ?_
 refine fB 1 [_,_,_] ?_
 refine dC (fun _ hj => sE b _ (hT.hp hj.hp) (by omega) (by omega) (by omega)) ?_
 refine bj ?_
 intro f W hJ hV
 have hb_1 := hJ.bl
 obtain ⟨v7, v6, v5, _⟩ := hV
 replace hh := hJ.hp
 refine aY (bm (ae v7 (ae v6 (ae v5 aX)))) ?_
 dsimp only [ct]
 clear hJ
 refine aZ hh (cs := [_, _, _, _, _, _]) aG.out aC.out (aK (cH rfl) (aK (cH rfl) bL)) rfl rfl (by decide) (by decide) (by decide) rfl (by decide) ?_
 intro b8 w8 hh
 refine bF hh (hac _ _ _ (hT.hp hh) (hh.aR (i := 0) rfl)) rfl ?_
 intro w9 hh
 refine bK hh 1 [_,_,_] ?_
 intro ws hh
 replace hh : Hp _ (_ :: .blk _ _ [_, _, _] _ :: _) _ := hh
 refine aa (aq ?_)
 refine gC (aO rfl (aP (vs := [_, _, _]) aC.out (hh.au (i := 1) (n := 3) rfl rfl) rfl) bA) ?_
 exact ⟨rfl, hh.below⟩
def gB : List Dyadic → Dyadic := fun l => l.foldl (· * ·) 1
theorem nZ (l : List Dyadic) (x : Dyadic) : gB (l ++ [x]) = gB l * x := by simp [gB]
theorem Sz.one : Sz 1 1 := ⟨2, by decide +kernel, by decide⟩
theorem Sz.prod {k : Nat} {l : List Dyadic} (h : ∀ x ∈ l, Sz k x) : Sz (1 + k * l.length) (gB l) := by
 have : ∀ (n : Nat), n ≤ l.length → Sz (1 + k * n) (gB (l.take n)) := by
  intro n
  induction n with
  | zero => intro _; exact Sz.one
  | succ n ih =>
   intro hn
   obtain ⟨x, hx⟩ := aU (l := l) (k := n) (by omega)
   rw [bo hx, nZ]
   exact ((ih (by omega)).mul (h x (List.mem_of_getElem? hx))).mono (by rw [Nat.mul_succ]; omega)
 have h2 := this l.length (Nat.le_refl _)
 rwa [List.take_length] at h2
theorem fR (L : Option Addr) (n c : Nat) (l : List NR) (w : World) (hT : eN w) (hS : Sl w L n 3 (a9 NR.cells l)) (hl : ∀ a ∈ l, a.ok) (k : Nat) (hk : ∀ a ∈ l, Sz k a.d) (hkn : k * n ≤ 3999980) (hn : n ≤ 1000000) :
  Calls Tryz.prog 31 #[.slice L n c] w fun r w' => r = .returned (.agg #[.bool (nR (gB (l.map NR.d))).neg, .string (nR (gB (l.map NR.d))).br, .int .i64 (nR (gB (l.map NR.d))).e]) ∧ Below w.heap.size w w' := by
 have hln := hS.eb NR.len (by omega)
 have hh := Hp.start w
 refine aj (N := 27) (l := [.slice L n c]) Tryz.func31 rfl rfl (by simp) ?_
 refine sr ?_
 refine bY hh ?_
 intro b2 w2 hh
 refine aa (sr ?_)
 refine bF hh (ea 1 _ (hT.hp hh) (by omega) (by omega)) rfl ?_
 intro w6 hh
 refine bY hh ?_
 intro b3 w3 hh
 refine bK hh 0 [_,_,_] ?_
 intro ws hh
 replace hh : Hp _ (.blk _ _ [_, _, _] _ :: _) _ := hh
 refine aa (ah (sr (mL (a6 (mI (aa (ao ?_)))))))
 refine bD [5, 9, 10, 11, 12, 13, 14, 15, 16, 17, 18, 19, 20, 21, 22, 23, 24, 25] 9
  (fun j w' => ∃ (i : Nat) (S : Dyadic), i ≤ n ∧ j = .int .i64 i ∧ S = gB ((l.take i).map NR.d) ∧ Hp w [.blk b3 39 [.bool (nR S).neg, .string (nR S).br, .int .i64 (nR S).e] (0, 0), .blk b2 39 [.bool false, .string (ByteArray.mk #[]), .int .i64 0] (0, 0)] w')
  (fun j _ => n - (intOf j).toNat) ?_ ?_
 ·exact ⟨0, _, Nat.zero_le _, rfl, rfl, hh⟩
 ·clear hh
  rintro ρ' j w' ⟨i, S, hi, rfl, hS2, hh⟩
  by_cases hlt : i < n
  ·obtain ⟨x, hx⟩ := aU (l := l) (k := i) (by omega)
   obtain ⟨ad, rfl, hr⟩ := hS.at_ (by omega)
   have hxm := List.mem_of_getElem? hx
   have hS3 : gB ((l.take (i + 1)).map NR.d) = S * x.d := by rw [bo hx, List.map_append, List.map_singleton, nZ, hS2]
   have hSz : Sz (1 + k * i) S := by
    rw [hS2]
    have := Sz.prod (k := k) (l := (l.take i).map NR.d) (fun y hy => by
     obtain ⟨a, ha, rfl⟩ := List.mem_map.1 hy
     exact hk a (List.mem_of_mem_take ha))
    rw [List.length_map, List.length_take, Nat.min_eq_left (by omega)] at this
    exact this
   have hki : k * i ≤ k * n := Nat.mul_le_mul_left _ hi
   obtain ⟨so1, so2, so3⟩ := hSz.ok (by omega)
   obtain ⟨xo1, xo2, xo3⟩ := hl x hxm
   have e1 : ju ([IR.mk (nR S).neg (nR S).br, IR.mk x.neg x.br].map IR.v) = (nR S).i * x.i := by
    simp only [List.map_cons, List.map_nil, ju, Int.mul_one]; rfl
   have e2 : Dyadic.ofIntWithPrec ((nR S).i * x.i) (-((nR S).e + x.e)) = S * x.d := by
    have := mE (nR S).i x.i (-(nR S).e) (-x.e)
    rw [Int.neg_add, ← this]
    congr 1
    exact dw S
   have hac : ∀ (A : Option Addr) (cc : Nat) (w1 : World), Sl w1 A 2 2 (a9 IR.cells [IR.mk (nR S).neg (nR S).br, IR.mk x.neg x.br]) → Calls Tryz.prog 74 #[.slice A 2 cc] w1 fun e w' => e = .returned (.agg #[.bool (iN ((nR S).i * x.i)), .string (iM ((nR S).i * x.i))]) ∧ Below w1.heap.size w1 w' := fun A cc w1 hsl => by
    have := sg A 2 cc [IR.mk (nR S).neg (nR S).br, IR.mk x.neg x.br] w1 hsl (by omega) (by simp; omega)
    rw [e1] at this
    exact this
   have hmc : ∀ w1, eN w1 → Calls Tryz.prog 72 #[.agg #[.bool (iN ((nR S).i * x.i)), .string (iM ((nR S).i * x.i))], .int .i64 ((nR S).e + x.e)] w1 fun r w' => r = .returned (.agg #[.bool (nR (S * x.d)).neg, .string (nR (S * x.d)).br, .int .i64 (nR (S * x.d)).e]) ∧ Below w1.heap.size w1 w' := fun w1 hT1 => by
    have hb1 := hZ (nR S).neg (nR S).br
    have hb2 := hZ x.neg x.br
    have hb3 := iP (nR S).i x.i
    have := eJ (iN ((nR S).i * x.i)) (iM ((nR S).i * x.i)) ((nR S).e + x.e) w1 hT1 (by rw [dv]; unfold NR.i at hb3 ⊢; omega) (by omega) (by omega)
    rw [eE, e2] at this
    exact this
   refine sr ?_
   refine aQ (aa (ah (cT (al (ai (ah (ao (sr ?_))))))))
   refine aT (k := i) aG.out aC.size rfl rfl (by omega) (by omega) (by decide) ?_
   refine dM (vs := [_, _, _]) aC.out rfl (((hr.ext hh.below).recAt NR.len hx)) rfl (by decide) ?_
   refine bY hh ?_
   intro b5 w5 hh
   refine bK hh 0 [_,_,_] ?_
   intro ws hh
   replace hh : Hp _ (.blk _ _ [_, _, _] _ :: _) _ := hh
   refine aa ?_
   refine aN 11 [[(3, none)], [(13, some 0)], [(5, none)], [(15, some 2)], [(14, some 1), (16, some 3)], [(17, some 4)], [(3, none)], [(19, some 6)], [(5, none)], [(21, some 8)], [(20, some 7), (22, some 9)]] [(10, 23), (9, 22), (8, 21), (7, 20), (6, 19), (5, 18), (4, 17), (3, 16), (2, 15), (1, 14), (0, 13)] hh mixed (by kernel_rfl) ?_
   refine eZ ?_
   refine fB 1 [_,_] ?_
   refine eZ ?_
   refine fB 0 [_,_] ?_
   refine uM [_,_,_,_] ?_
   refine bJ (i := 5) (Is (.agg #[.bool (iN ((nR S).i * x.i)), .string (iM ((nR S).i * x.i))])) Is.ext ?_ ?_
   ·intro ρ1 w1 hj hR
    obtain ⟨A17, c17, h17, s17⟩ := hR.1
    exact bQ rfl (bE ar.out (aE h17 bz)) (hac A17 c17 _ s17) (fun _ _ hq => ⟨_, hq.1, hq.2, rfl⟩)
   refine eZ ?_
   refine fZ 1 ?_
   refine eZ ?_
   refine fZ 0 ?_
   refine qJ ?_
   refine bj ?_
   intro f W hJ hV
   have hb_5 := hJ.bl
   obtain ⟨v23, v22, v21, v20, v19, v18, v17, v16, v15, v14, v13, _⟩ := hV
   obtain ⟨A17, c17, e17, f17⟩ : Rows _ _ _ (f 4) W := v17
   replace hh := hJ.hp
   refine aY (bm (ae v23 (ae v22 (ae v21 (ae v20 (ae v19 (ae v18 (ae e17 (ae v16 (ae v15 (ae v14 (ae v13 aX)))))))))))) ?_
   dsimp only [ct]
   clear e17 hJ
   refine bF hh (hmc _ (hT.hp hh)) rfl ?_
   intro w24 hh
   refine bK hh 1 [_,_,_] ?_
   intro ws hh
   replace hh : Hp _ (_ :: .blk _ _ [_, _, _] _ :: _) _ := hh
   refine aD (aV (ai (ak ?_)))
   refine bC (mI (aD (ai ?_)))
   replace hh := hh.sub (List.sublist_cons_self _ _)
   refine ⟨⟨i + 1, _, by omega, rfl, hS3.symm, hh⟩, by show n - (i + 1) < n - i; omega, ?_⟩
   (repeat (first | exact ay _ _ _ | refine az rfl ?_ | refine av rfl ?_))
  ·refine sr ?_
   refine aQ (aa (ah (cF ?_)))
   refine a0 ?_
   refine aA (aA (bu (ai (sr ?_))))
   refine cD hh 0 [_,_,_] ?_
   refine bK hh 1 [_,_,_] ?_
   intro ws hh
   replace hh : Hp _ (_ :: .blk _ _ [_, _, _] _ :: _) _ := hh
   refine aa (aq ?_)
   refine gC (aO rfl (aP (vs := [_, _, _]) aC.out (hh.au (i := 1) (n := 3) rfl rfl) rfl) bA) ?_
   rw [List.take_of_length_le (by omega)] at hS2
   rw [hS2]
   exact ⟨rfl, hh.below⟩
end Go.Proofs.YtioilmppidlbnaaGreatDoor
namespace Go.Proofs.YtioilmppidlbnaaGreatDoor
open Go.RowKit
theorem yw (i p : Int) (n : Nat) : Dyadic.ofIntWithPrec i p ^ n = Dyadic.ofIntWithPrec (i ^ n) (p * n) := by
 induction n with
 | zero => rw [Dyadic.pow_zero]; simp; rfl
 | succ n ih => rw [Dyadic.pow_succ, ih, mE, Int.pow_succ, Int.natCast_add, Int.mul_add]; simp
theorem AM (i p : Int) : (nR (Dyadic.ofIntWithPrec i p)).br.size ≤ (bx i.natAbs + 7) / 8 ∧ (i = 0 ∨ -p ≤ (nR (Dyadic.ofIntWithPrec i p)).e ∧ (nR (Dyadic.ofIntWithPrec i p)).e ≤ -p + bx i.natAbs) ∧ (i = 0 → (nR (Dyadic.ofIntWithPrec i p)).e = 0) := by
 by_cases h0 : i = 0
 ·subst h0
  rw [jr, jG]
  exact ⟨Nat.zero_le _, .inl rfl, fun _ => rfl⟩
 ·have h2 := iB h0
  rw [qw h0, nR]
  simp only
  refine ⟨?_, .inr ⟨by omega, ?_⟩, fun h => absurd h h0⟩
  ·rw [dv]
   have : bx (i >>> i.trailingZeros).natAbs ≤ bx i.natAbs := by
    apply cL
    refine Nat.lt_of_le_of_lt ?_ (cx _)
    rw [Int.shiftRight_eq_div_pow]
    exact Int.natAbs_ediv_le_natAbs _ _
   omega
  ·have h3 : 2 ^ i.trailingZeros < 2 ^ bx i.natAbs := Nat.lt_of_le_of_lt h2 (cx _)
   have := (Nat.pow_lt_pow_iff_right (by omega)).1 h3
   omega
theorem nz (a : NR) (n : Int) (w : World) (hT : eN w) (ha : a.ok) (hs : n.toNat * a.br.size ≤ 1000000) (hn : n ≤ 1000) :
  Calls Tryz.prog 121 #[.agg #[.bool a.neg, .string a.br, .int .i64 a.e], .int .i64 n] w fun r w' => r = .returned (.agg #[.bool (nR (a.d ^ n.toNat)).neg, .string (nR (a.d ^ n.toNat)).br, .int .i64 (nR (a.d ^ n.toNat)).e]) ∧ Below w.heap.size w w' := by
 have hh := Hp.start w
 obtain ⟨ha1, ha2, ha3⟩ := ha
 obtain ⟨_, fa1, fa2, fa3⟩ := jq (a := a) ⟨ha1, ha2, ha3⟩
 have hsz : (nR a.d).br.size ≤ a.br.size := by
  have := (AM a.i (-a.e)).1
  have h2 := hZ a.neg a.br
  unfold NR.d NR.i at *
  omega
 have hms : n.toNat * (nR a.d).br.size ≤ n.toNat * a.br.size := Nat.mul_le_mul_left _ hsz
 have e1 : (if (0 : Int) > n then 0 else n) = (n.toNat : Int) := by split <;> omega
 have hm : n.toNat ≤ 1000 := by omega
 have hlo : -18000000 * 1000 ≤ (nR a.d).e * (n.toNat : Int) := by
  have h1 : (-18000000 : Int) * n.toNat ≤ (nR a.d).e * n.toNat := Int.mul_le_mul_of_nonneg_right fa2 (by omega)
  omega
 have hhi : (nR a.d).e * (n.toNat : Int) ≤ 18000000 * 1000 := by
  have h1 : (nR a.d).e * n.toNat ≤ (18000000 : Int) * n.toNat := Int.mul_le_mul_of_nonneg_right fa3 (by omega)
  omega
 have hpc := fun w1 => te (nR a.d).neg (nR a.d).br n w1 (by omega) (by omega) (by omega)
 have hmc : ∀ w1, eN w1 → Calls Tryz.prog 72 #[.agg #[.bool (iN (iv (nR a.d).neg (nR a.d).br ^ n.toNat)), .string (iM (iv (nR a.d).neg (nR a.d).br ^ n.toNat))], .int .i64 ((nR a.d).e * (n.toNat : Int))] w1 fun r w' => r = .returned (.agg #[.bool (nR (a.d ^ n.toNat)).neg, .string (nR (a.d ^ n.toNat)).br, .int .i64 (nR (a.d ^ n.toNat)).e]) ∧ Below w1.heap.size w1 w' := fun w1 hT1 => by
  have hb := lE (iv (nR a.d).neg (nR a.d).br) n.toNat
  have hb2 := hZ (nR a.d).neg (nR a.d).br
  have hb3 : n.toNat * bx (iv (nR a.d).neg (nR a.d).br).natAbs ≤ n.toNat * (8 * (nR a.d).br.size) := Nat.mul_le_mul_left _ hb2
  rw [Nat.mul_left_comm] at hb3
  have := eJ (iN (iv (nR a.d).neg (nR a.d).br ^ n.toNat)) (iM (iv (nR a.d).neg (nR a.d).br ^ n.toNat)) ((nR a.d).e * (n.toNat : Int)) w1 hT1 (by rw [dv]; omega) (by omega) (by omega)
  have e2 : Dyadic.ofIntWithPrec (iv (nR a.d).neg (nR a.d).br ^ n.toNat) (-((nR a.d).e * (n.toNat : Int))) = a.d ^ n.toNat := by
   have h3 := dw a.d
   conv => rhs; rw [← h3, NR.d, yw]
   rw [Int.neg_mul]; rfl
  rw [eE, e2] at this
  exact this
 refine aj (N := 17) (l := [.agg #[.bool a.neg, .string a.br, .int .i64 a.e], .int .i64 n]) Tryz.func121 rfl rfl (by simp) ?_
 refine sr ?_
 refine cW hh [_,_,_] ?_
 intro b2 w2 hh
 refine bY hh ?_
 intro b4 w4 hh
 refine aa (sr ?_)
 refine cD hh 1 [_,_,_] ?_
 refine bF hh (eo a _ (hT.hp hh) (by omega) (by omega) (by omega)) rfl ?_
 intro w6 hh
 refine bK hh 1 [_,_,_] ?_
 intro ws hh
 replace hh : Hp _ (_ :: .blk _ _ [_, _, _] _ :: _) _ := hh
 refine aa (ah ?_)
 refine aN 9 [[(2, none)], [(7, some 0)], [(1, none)], [(8, some 1), (9, some 2)], [(2, none)], [(11, some 4)], [(1, none)], [(13, some 6)], [(12, some 5), (14, some 7)]] [(8, 15), (7, 14), (6, 13), (5, 12), (4, 11), (3, 10), (2, 9), (1, 8), (0, 7)] hh mixed (by kernel_rfl) ?_
 refine eZ ?_
 refine fB 1 [_,_] ?_
 refine ee ?_
 refine dC (fun _ hj => hpc _) ?_
 refine eZ ?_
 refine fZ 1 ?_
 refine ee ?_
 refine bJ (i := 7) (Is (.int .i64 (n.toNat : Int))) (Is.ext) ?_ ?_
 ·intro ρ1 w1 hj hR
  exact gy rfl ((yU (ρ := ρ1) (x := .tmp 13) (show ρ1 13 = Value.int .i64 n from hR.1) rfl).trans (by rw [e1])) ⟨Below.refl _ _, rfl⟩
 refine uR ?_
 refine bj ?_
 intro f W hJ hV
 have hb_2 := hJ.bl
 obtain ⟨v15, v14, v13, v12, v11, v10, v9, v8, v7, _⟩ := hV
 replace hh := hJ.hp
 refine aY (bm (ae v15 (ae v14 (ae v13 (ae v12 (ae v11 (ae v10 (ae v9 (ae v8 (ae v7 aX)))))))))) ?_
 dsimp only [ct]
 clear hJ
 refine bF hh (hmc _ (hT.hp hh)) rfl ?_
 intro w16 hh
 refine bK hh 0 [_,_,_] ?_
 intro ws hh
 replace hh : Hp _ (.blk _ _ [_, _, _] _ :: _) _ := hh
 refine aa (aq ?_)
 refine gC (aO rfl (aP (vs := [_, _, _]) aC.out (hh.au (i := 0) (n := 3) rfl rfl) rfl) bA) ?_
 exact ⟨rfl, hh.below⟩
def Bs (f : Dyadic → Dyadic → Bool) : List Dyadic → Dyadic
 | [] => 0
 | a :: r => r.foldl (fun out a => if f a out then a else out) a
end Go.Proofs.YtioilmppidlbnaaGreatDoor
namespace Go.Proofs.YtioilmppidlbnaaGreatDoor
end Go.Proofs.YtioilmppidlbnaaGreatDoor
