/- Lemmas for polyForm, part 3. -/
import Derived.Test.YtkgdagjklakajaaGreatDoorZ2
/- Several texts in one: Nat, NatB, NatC, NatD, NatE, NatF. -/
namespace Go.Proofs.YtkgdagjklakajaaGreatDoor
open Go.RowKit
theorem fe (A : Option Addr) (n c : Nat) (xs : List Nat) (w : World) (hx : Sl w A n 1 (cj xs)) (hc : n ≤ c) (hn : n ≤ 1000000000000) :
  Calls Tryz.prog 239 #[.slice A n c] w fun e w' => e = .returned (.slice A (cX xs).length c) ∧ Below w.heap.size w w' := by
 have hlen : xs.length = n := by have := hx.1; rw [aO] at this; omega
 have hh := Hp.start w
 refine al (N := 21) (l := [.slice A n c]) Tryz.func239 rfl rfl (by simp) ?_
 refine sr (aL (ah (aj (ar ?_))))
 refine bA [0, 3, 4, 5, 6, 7, 8, 9, 10, 11, 12, 13, 14, 15, 16, 17, 18, 19] 0
  (fun v w' => ∃ k : Nat, k ≤ n ∧ v = .slice A k c ∧ cX (xs.take k) = cX xs ∧ w' = w)
  (fun v _ => lenOf v) ?_ ?_
 ·exact ⟨n, Nat.le_refl _, rfl, by rw [List.take_of_length_le (by omega)], rfl⟩
 ·rintro ρ' v w' ⟨k, hk, rfl, hcut, rfl⟩
  by_cases h0 : k = 0
  ·subst h0
   refine aj (sr (mL (a0 ?_)))
   refine cb (mB ?_)
   first | refine gS ?_ | (refine gT ?_; refine mL ?_) | refine gV ?_
   first | refine gS ?_ | (refine gT ?_; refine mL ?_) | refine gV ?_
   first | refine gS ?_ | (refine gT ?_; refine a0 ?_) | refine gV ?_
   first | refine gS ?_ | (refine gT ?_; refine eK ?_) | refine gV ?_
   first | refine gS ?_ | (refine gT ?_; refine fI aG.out aD.size rfl rfl (by omega) (by omega) (by decide) ?_) | refine gV ?_
   first | (refine bH (by decide) rfl rfl (by decide) ?_) | (refine fm (by decide) rfl rfl ?_)
   first | refine gS ?_ | (refine gT ?_; refine ea ?_) | refine gV ?_
   first | refine cU ?_ | refine cV ?_
   refine ah (cF ?_)
   refine aX ?_
   refine aA (aA (bj (ak (sr (mL (aL (ah (aq ?_))))))))
   refine cf ?_
   rw [← hcut]
   exact ⟨rfl, hh.below⟩
  ·obtain ⟨j, rfl⟩ : ∃ j, k = j + 1 := ⟨k - 1, by omega⟩
   obtain ⟨d, hd⟩ := aH (l := xs) (k := j) (by omega)
   obtain ⟨ad, rfl, hr⟩ := hx.at_ (by omega)
   have hd2 := dq hd
   rw [aT hd] at hcut
   by_cases hz : d = 0
   ·subst hz
    rw [m6] at hcut
    refine aj (sr (mL (a0 ?_)))
    refine cb (mB ?_)
    first | refine gS ?_ | (refine gT ?_; refine mL ?_) | refine gV ?_
    first | refine gS ?_ | (refine gT ?_; refine mL ?_) | refine gV ?_
    first | refine gS ?_ | (refine gT ?_; refine a0 ?_) | refine gV ?_
    first | refine gS ?_ | (refine gT ?_; refine eK ?_) | refine gV ?_
    first | refine gS ?_ | (refine gT ?_; refine aY (k := j) aG.out aD.size rfl rfl (by omega) (by omega) (by decide) ?_) | refine gV ?_
    first | refine gS ?_ | (refine gT ?_; refine bE aD.out rfl ((hr.ext hh.below).lV (by assumption)) (by decide) ?_) | refine gV ?_
    first | refine gS ?_ | (refine gT ?_; refine ea ?_) | refine gV ?_
    first | refine cU ?_ | refine cV ?_
    refine ah (cT (ao (ak (ar (aw (mL (mL (a0 ?_))))))))
    refine eK ?_
    refine j4 (h := j) aG.out aD.size rfl rfl (by omega) (by omega) (by decide) ?_
    refine aL (aE (aW (ak ?_)))
    refine ⟨⟨j, by omega, rfl, hcut, rfl⟩, by show j < j + 1; omega, ?_⟩
    (repeat (first | exact az _ _ _ | refine aC rfl ?_ | refine ay rfl ?_))
   ·rw [nN hz] at hcut
    refine aj (sr (mL (a0 ?_)))
    refine cb (mB ?_)
    first | refine gS ?_ | (refine gT ?_; refine mL ?_) | refine gV ?_
    first | refine gS ?_ | (refine gT ?_; refine mL ?_) | refine gV ?_
    first | refine gS ?_ | (refine gT ?_; refine a0 ?_) | refine gV ?_
    first | refine gS ?_ | (refine gT ?_; refine eK ?_) | refine gV ?_
    first | refine gS ?_ | (refine gT ?_; refine aY (k := j) aG.out aD.size rfl rfl (by omega) (by omega) (by decide) ?_) | refine gV ?_
    first | refine gS ?_ | (refine gT ?_; refine bE aD.out rfl ((hr.ext hh.below).lV (by assumption)) (by decide) ?_) | refine gV ?_
    first | refine gS ?_ | (refine gT ?_; refine ea ?_) | refine gV ?_
    first | refine cU ?_ | refine cV ?_
    refine ah (cF ?_)
    refine aX ?_
    refine aA (aA (bj (ak (sr (mL (aL (ah (aq ?_))))))))
    refine cf ?_
    rw [← hcut, List.length_append, List.length_take, Nat.min_eq_left (by omega)]
    exact ⟨rfl, hh.below⟩
theorem en {B : Nat} {l : List Nat} {i c : Nat} (h : l[i]? = some c) : bk B (l.take (i + 1)) = bk B (l.take i) + B ^ i * c := by
 have hi := (List.getElem?_eq_some_iff.1 h).1
 rw [aT h, dy, List.length_take, Nat.min_eq_left (by omega)]
 simp [bk]
theorem Hp.tn {w0 w : World} {H : List HE} {A : Option Addr} {n c : Nat} {t : TypeId} {xs : List Nat} (h : Hp w0 (.row A n c t 1 (cj xs) :: H) w) (hl : xs.length = n) : Hp w0 (.row A (cX xs).length c t 1 (cj (cX xs)) :: H) w := by
 have h1 := dZ xs
 have h2 := h.r6 (k := (cX xs).length) (by omega)
 rw [Nat.mul_one, ← nL, ← fQ] at h2
 exact h2
theorem uj (a : ByteArray) (w : World) (ha : a.size ≤ 100000000000) :
  Calls Tryz.prog 220 #[.string a] w fun e w' => ∃ b c, e = .returned (.slice (some ⟨b, 0, none⟩) (aR 18446744073709551616 (bn a.data.toList)).length c) ∧ w'.ownsRow w.heap.size 195 1 (.slice (some ⟨b, 0, none⟩) (aR 18446744073709551616 (bn a.data.toList)).length c) (aR 18446744073709551616 (bn a.data.toList)).length (cj (aR 18446744073709551616 (bn a.data.toList))) ∧ Below w.heap.size w w' := by
 have hsz := dE a
 have hh := Hp.start w
 refine al (N := 39) (l := [.string a]) Tryz.func220 rfl rfl (by simp) ?_
 refine sr (aL (ah (sr (mS ?_))))
 refine bz aG.out rfl (by decide) ?_
 refine bJ ?_
 refine gR rfl rfl (by omega) (by omega) (by omega) (by decide) ?_
 refine fv (n := (a.size + 7) / 8) hh rfl rfl (by omega) (by omega) aG.out aD.out rfl (by omega) (by omega) (by decide) ?_
 intro b10 w10 hh
 refine aL (ah (aj (sr (mS ?_))))
 refine bz aG.out rfl (by decide) ?_
 refine mI (ah (ar ?_))
 rw [jW] at hh
 refine bA [4, 5, 13, 14, 15, 16, 17, 18, 19, 20, 21, 22, 23, 24, 25, 26, 27, 28, 29, 30, 31, 32, 33, 34, 35, 36] 13
  (fun v w' => ∃ i : Nat, i ≤ a.size ∧ v = .int .i64 i ∧ Hp w [.row (some ⟨b10, 0, none⟩) ((a.size + 7) / 8) ((a.size + 7) / 8) 195 1 (cj (bD 18446744073709551616 ((a.size + 7) / 8) (bk 256 ((p7 a.data.toList).take i))))] w')
  (fun v _ => a.size - (intOf v).toNat) ?_ ?_
 ·exact ⟨0, Nat.zero_le _, rfl, by rw [List.take_zero, bk, la]; exact hh⟩
 ·clear hh
  rintro ρ' v w' ⟨i, hi, rfl, hh⟩
  by_cases hlt : i < a.size
  ·obtain ⟨c, hc⟩ := aH (l := a.data.toList) (k := ((a.size : Int) - 1 - i).toNat) (by omega)
   have hlo := uY (s := a.data.toList) (i := i) (c := c) (by omega) (by rw [← hc]; congr 1; omega)
   have hc8 := c.toNat_lt
   have hn := fp ((oD a.data.toList).take i)
   rw [List.length_take, jS, Nat.min_eq_left (by omega)] at hn
   obtain ⟨s1, s2, s3⟩ := wD (k := (a.size + 7) / 8) (bk 256 ((p7 a.data.toList).take i)) hn hc8 (by omega)
   have hg := dq (fA (B := 18446744073709551616) ((a.size + 7) / 8) (bk 256 ((p7 a.data.toList).take i)) (i / 8) (by omega))
   have e1 : ((i : Int) % 8 * 8).toNat = i % 8 * 8 := by omega
   refine sr ?_
   refine aV (ah (aj (cT (ao (ak (aj (ar (sr (mI (aI (ah ?_)))))))))))
   refine sr (mS ?_)
   refine bz aG.out rfl (by decide) ?_
   refine eK (mI ?_)
   refine eK (aI (ah ?_))
   refine a4 13 [[(3, none)], [(4, none)], [(22, some 1)], [(21, some 0), (23, some 2)], [(24, some 3)], [(0, none)], [(5, none)], [(26, some 5), (27, some 6)], [(28, some 7)], [(4, none)], [(30, some 9)], [(31, some 10)], [(29, some 8), (32, some 11)]] [(12, 33), (11, 32), (10, 31), (9, 30), (8, 29), (7, 28), (6, 27), (5, 26), (4, 25), (3, 24), (2, 23), (1, 22), (0, 21)] hh mixed (by kernel_rfl) ?_
   refine gE ?_
   refine eG ?_
   refine bm (i := 2) (fun ρ1 w1 hj hR => o6 (show ρ1 22 = Value.int _ _ from hR.1) rfl (by omega) (by omega) (by omega)) ?_
   refine y2 (i / 8) ?_
   refine bm (i := 4) (fun ρ1 w1 hj hR => gI aD.out (show ρ1 24 = Value.pointer _ from hR.1) (hj.hp.cd (i := 0) rfl (by first | assumption | (simp only [Nat.mul_one]; assumption)))) ?_
   refine Ab ?_
   refine eG ?_
   refine bm (i := 7) (fun ρ1 w1 hj hR => lB aG.out (show ρ1 26 = Value.string _ from hR.1) (show ρ1 27 = Value.int _ _ from hR.2.1) (by omega) (by assumption)) ?_
   first | refine bm (i := 8) (fun ρ1 w1 hj hR => mu aG.out aG.out (show ρ1 28 = Value.int _ _ from hR.1) (by first | assumption | omega)) ?_ | refine bm (i := 8) (fun ρ1 w1 hj hR => sJ aG.out aG.out (show ρ1 28 = Value.int _ _ from hR.1)) ?_
   refine eG ?_
   refine bm (i := 10) (fun ρ1 w1 hj hR => kY (show ρ1 30 = Value.int _ _ from hR.1) rfl (by omega) (by omega)) ?_
   refine zJ ?_
   refine bm (i := 12) (fun ρ1 w1 hj hR => oT (show ρ1 29 = Value.int _ _ from hR.1) (show ρ1 32 = Value.int _ _ from hR.2.1) (by omega)) ?_
   refine bp ?_
   intro f W hJ hV
   have hb_6 := hJ.bl
   obtain ⟨v33, v32, v31, v30, v29, v28, v27, v26, v25, v24, v23, v22, v21, _⟩ := hV
   replace hh := hJ.hp
   refine a6 (bu (ai v33 (ai v32 (ai v31 (ai v30 (ai v29 (ai v28 (ai v27 (ai v26 (ai v25 (ai v24 (ai v23 (ai v22 (ai v21 a5)))))))))))))) ?_
   dsimp only [cC]
   clear hJ
   refine s8 rfl rfl (by first | assumption | omega) (by first | assumption | omega) (by decide) ?_
   refine bg (k := i / 8) aG.out aD.size rfl rfl (by omega) (by omega) (by decide) ?_
   refine bo hh (i := 0) (vs := [_]) rfl rfl (bB rfl) rfl aD.out rfl (by rw [aO, aK]; omega) rfl ?_
   intro ws hh
   simp only [List.set_cons_zero] at hh
   rw [e1, Nat.mod_eq_of_lt s2, rF s1, bR (by rw [aO, aK]; omega), Nat.mul_one, eA, s3, ← en hlo] at hh
   refine aE (aW (ak (aw ?_)))
   refine bJ (mI (aE (ak ?_)))
   refine ⟨⟨i + 1, by omega, rfl, hh⟩, by show a.size - (i + 1) < a.size - i; omega, ?_⟩
   (repeat (first | exact az _ _ _ | refine aC rfl ?_ | refine ay rfl ?_))
  ·refine sr ?_
   refine aV (ah (aj (cF ?_)))
   refine aX ?_
   refine aA (aA (bj (ak (sr (mL ?_)))))
   rw [List.take_of_length_le (by rw [jS]; omega)] at hh
   refine bC hh (fe _ _ _ (bD 18446744073709551616 ((a.size + 7) / 8) (bn a.data.toList)) _ (hh.aM (i := 0) rfl) (Nat.le_refl _) (by omega)) rfl ?_
   intro w38 hh
   refine aL (ah (aq ?_))
   refine cf ?_
   have hbd : bn a.data.toList < 18446744073709551616 ^ ((a.size + 7) / 8) := by
    refine Nat.lt_of_lt_of_le (x5 _) ?_
    rw [← hsz, show (256 : Nat) = 2 ^ 8 from rfl, show (18446744073709551616 : Nat) = 2 ^ 64 from rfl, ← Nat.pow_mul, ← Nat.pow_mul]
    exact Nat.pow_le_pow_right (by omega) (by omega)
   have hd : cX (bD 18446744073709551616 ((a.size + 7) / 8) (bn a.data.toList)) = aR 18446744073709551616 (bn a.data.toList) := by
    rw [ek (by omega) (dW (by omega) _ _), bU hbd]
   have h1 := (Hp.tn (xs := bD 18446744073709551616 ((a.size + 7) / 8) (bn a.data.toList)) hh (aK _ _)).at_ (i := 0) rfl
   rw [hd] at h1
   rw [hd]
   exact ⟨_, _, rfl, h1, hh.below⟩
theorem Sl.yT {w : World} {A : Option Addr} {n : Nat} {xs : List Nat} (h : Sl w A n 1 (cj xs)) {k : Nat} (hk : k ≤ n) : Sl w A k 1 (cj (xs.take k)) := by
 have hl := h.1
 rw [aO] at hl
 refine ⟨by rw [aO, List.length_take]; omega, fun h0 => ?_⟩
 obtain ⟨ad, he, hr⟩ := h.2 (by omega)
 exact ⟨ad, he, by rw [nL]; exact hr.take k⟩
theorem Sl.pz {w : World} {A : Option Addr} {n : Nat} {xs : List Nat} (h : Sl w A n 1 (cj xs)) : Sl w A (cX xs).length 1 (cj (cX xs)) := by
 have hl := h.1
 rw [aO] at hl
 have := dZ xs
 have h2 := h.yT (k := (cX xs).length) (by omega)
 rwa [← fQ] at h2
theorem rY {xs : List Nat} (h : Dg 18446744073709551616 xs) : br (bk 18446744073709551616 xs) ≤ 64 * xs.length := by
 apply cJ
 rw [Nat.pow_mul]
 exact fp h
theorem m9 (A : Option Addr) (n c : Nat) (xs : List Nat) (w : World) (hx : Sl w A n 1 (cj xs)) (hd : Dg 18446744073709551616 xs) (hc : n ≤ c) (hn : n ≤ 100000000000) :
  Calls Tryz.prog 242 #[.slice A n c] w fun e w' => e = .returned (.int .i64 (br (bk 18446744073709551616 xs))) ∧ Below w.heap.size w w' := by
 have hl := hx.1
 rw [aO] at hl
 have hcl := dZ xs
 have hcx := hx.pz
 have hcd := hd.cut
 have hlast := ot xs
 rw [← g3]
 generalize hcs : cX xs = cs at *
 have hh := Hp.start w
 refine al (N := 19) (l := [.slice A n c]) Tryz.func242 rfl rfl (by simp) ?_
 refine sr (aI (ah (sr (mL ?_))))
 refine bC hh (fe _ _ _ xs _ hx hc (by omega)) rfl ?_
 intro w4 hh
 rw [hcs]
 by_cases h0 : cs.length = 0
 ·refine aL (ah (aj (sr (mL (a0 ?_)))))
  refine ea (ah (cT (sr (aI (ah (aq (aJ ?_)))))))
  refine cf ?_
  have : cs = [] := List.eq_nil_of_length_eq_zero h0
  subst this
  exact ⟨by rw [bk, g2]; rfl, hh.below⟩
 ·obtain ⟨ad, rfl, hr⟩ := hcx.at_ (by omega)
  obtain ⟨d, hd⟩ := aH (l := cs) (k := cs.length - 1) (by omega)
  have hd2 := dq hd
  have hd3 := hcd.at_ hd
  have e1 : cs.take (cs.length - 1) ++ [d] = cs := by rw [← aT hd, List.take_of_length_le (by omega)]
  have hnz : d ≠ 0 := by
   intro h
   subst h
   apply hlast
   rw [List.getLast?_eq_getElem?]
   exact hd
  have hb := vF (B := 18446744073709551616) (b := 64) (m := cs.length - 1) (by decide) (hcd.take (cs.length - 1)) (by rw [List.length_take]; omega) hnz
  rw [e1] at hb
  have hb2 : br d ≤ 64 := cJ (by simpa using hd3)
  refine aL (ah (aj (sr (mL (a0 ?_)))))
  refine ea (ah (cF (ao (ak (sr (mL (a0 ?_)))))))
  refine mulC (mL (mL (a0 ?_)))
  refine eK ?_
  refine aY (k := cs.length - 1) aG.out aD.size rfl rfl (by omega) (by omega) (by decide) ?_
  refine bE aD.out rfl ((hr.ext hh.below).lV (by assumption)) (by decide) ?_
  refine bC hh (rn _ _ hd3) rfl ?_
  intro w17 hh
  refine eK (aI (ah (aq ?_)))
  refine cf ?_
  refine ⟨?_, hh.below⟩
  congr 2
  omega
theorem rC (N : Nat) : (aR 256 N).length = (br N + 7) / 8 := by
 have h256 : (256 : Nat) = 2 ^ 8 := rfl
 have h1 : (aR 256 N).length ≤ (br N + 7) / 8 := by
  apply fc (by omega)
  refine Nat.lt_of_lt_of_le (cD N) ?_
  rw [h256, ← Nat.pow_mul]
  exact Nat.pow_le_pow_right (by omega) (by omega)
 have h2 := jm (B := 256) (by omega) N
 have h3 : br N ≤ 8 * (aR 256 N).length := by
  apply cJ
  rw [Nat.pow_mul]
  exact h2
 omega
theorem gY {B : Nat} (i N : Nat) : bD B (i + 1) N = bD B i N ++ [N / B ^ i % B] := by
 apply List.ext_getElem?
 intro j
 rcases Nat.lt_trichotomy j i with h | h | h
 ·rw [fA _ _ _ (by omega), List.getElem?_append_left (by rw [aK]; exact h), fA _ _ _ h]
 ·subst h
  rw [fA _ _ _ (by omega), List.getElem?_append_right (by rw [aK]; omega), aK]
  simp
 ·rw [List.getElem?_eq_none (by rw [aK]; omega), List.getElem?_eq_none (by rw [List.length_append, aK]; simp; omega)]
theorem ti {R : List Nat} {k x : Nat} : (List.replicate (k + 1) 0 ++ R).set k x = List.replicate k 0 ++ (x :: R) := by
 rw [List.replicate_succ', List.append_assoc, List.set_append_right _ _ (by simp)]
 simp
theorem e8 (A : Option Addr) (n c : Nat) (xs : List Nat) (w : World) (hx : Sl w A n 1 (cj xs)) (hd : Dg 18446744073709551616 xs) (hc : n ≤ c) (hn : n ≤ 10000000000) :
  Calls Tryz.prog 231 #[.slice A n c] w fun e w' => e = .returned (.string (str (sb (bk 18446744073709551616 xs)))) ∧ Below w.heap.size w w' := by
 have hl := hx.1
 rw [aO] at hl
 have hcl := dZ xs
 have hcx := hx.pz
 have hcd := hd.cut
 have hbl := rY hcd
 have hcan := ek (by omega) hd
 have hlen := rC (bk 18446744073709551616 xs)
 rw [g3] at hbl
 have hh := Hp.start w
 refine al (N := 37) (l := [.slice A n c]) Tryz.func231 rfl rfl (by simp) ?_
 refine sr (aS (ah (sr (mL ?_))))
 refine bC hh (fe _ _ _ xs _ hx hc (by omega)) rfl ?_
 intro w7 hh
 rw [hcan] at hcl hcx hcd hbl
 rw [hcan]
 refine aL (ah (sr (mL ?_)))
 refine bC hh (m9 _ _ _ (aR 18446744073709551616 (bk 18446744073709551616 xs)) _ (hcx.ext hh.below) hcd (by omega) (by omega)) rfl ?_
 intro w9 hh
 rw [da (by omega)]
 generalize bk 18446744073709551616 xs = M at *
 refine bJ ?_
 refine gR rfl rfl (by omega) (by omega) (by omega) (by decide) ?_
 refine aI (ah (sr (mI ?_)))
 refine fv (n := (br M + 7) / 8) hh rfl rfl (by omega) (by omega) aG.out aD.out rfl (by omega) (by omega) (by decide) ?_
 intro b13 w13 hh
 refine aL (ah (aj (sr (mI (mI (ah (ar ?_)))))))
 rw [j1] at hh
 refine bA [5, 15, 16, 17, 18, 19, 20, 21, 22, 23, 24, 25, 26, 27, 28, 29, 30, 31, 32, 33, 34] 15
  (fun v w' => ∃ i : Nat, i ≤ (br M + 7) / 8 ∧ v = .int .i64 i ∧ Hp w [.row (some ⟨b13, 0, none⟩) ((br M + 7) / 8) ((br M + 7) / 8) 5 1 (eO (List.replicate ((br M + 7) / 8 - i) 0 ++ (bD 256 i M).reverse))] w')
  (fun v _ => (br M + 7) / 8 - (intOf v).toNat) ?_ ?_
 ·exact ⟨0, Nat.zero_le _, rfl, by simpa [bD] using hh⟩
 ·clear hh
  rintro ρ' v w' ⟨i, hi, rfl, hh⟩
  by_cases hlt : i < (br M + 7) / 8
  ·obtain ⟨ad, rfl, hr⟩ := hcx.at_ (by omega)
   have hg := qi (B := 18446744073709551616) (n := M) (i := i / 8) (by omega) (by omega)
   have hg2 := dq hg
   have e1 : ((i : Int) % 8 * 8).toNat = i % 8 * 8 := by omega
   refine sr ?_
   refine aV (ah (aj (cT (ao (ak (aj (ar (sr (mI (aI (ah ?_)))))))))))
   refine aw (mL (mI ?_))
   refine eK (mI ?_)
   refine eK (mL (mI ?_))
   refine gR rfl rfl (by omega) (by omega) (by omega) (by decide) ?_
   refine aY (k := i / 8) aG.out aD.size rfl rfl (by omega) (by omega) (by decide) ?_
   refine bE aD.out rfl ((hr.ext hh.below).lV (by assumption)) (by decide) ?_
   refine mI ?_
   refine iT rfl rfl (by omega) (by omega) (by decide) ?_
   refine mulC ?_
   refine sm rfl rfl (by omega) (by decide) ?_
   first | refine cH aG.out aG.out rfl (by first | assumption | omega) (by decide) ?_ | refine eI aG.out aG.out rfl (by decide) ?_
   refine bg (k := (br M + 7) / 8 - 1 - i) aG.out aD.size rfl rfl (by omega) (by omega) (by decide) ?_
   refine bo hh (i := 0) (vs := [_]) rfl rfl (bB rfl) rfl aD.out rfl (by rw [bT, List.length_append, List.length_reverse, List.length_replicate, aK]; omega) rfl ?_
   intro ws hh
   simp only [List.set_cons_zero] at hh
   obtain ⟨k, hk⟩ : ∃ k, (br M + 7) / 8 - i = k + 1 := ⟨(br M + 7) / 8 - i - 1, by omega⟩
   rw [e1, uA, Nat.mul_one, bR (by rw [bT, List.length_append, List.length_reverse, List.length_replicate, aK]; omega), jc, hk, show (br M + 7) / 8 - 1 - i = k by omega, ti, ← List.reverse_concat, ← gY] at hh
   refine aE (aW (ak (aw ?_)))
   refine bJ (mI (aE (ak ?_)))
   refine ⟨⟨i + 1, by omega, rfl, by rw [show (br M + 7) / 8 - (i + 1) = k by omega]; exact hh⟩, by show (br M + 7) / 8 - (i + 1) < (br M + 7) / 8 - i; omega, ?_⟩
   (repeat (first | exact az _ _ _ | refine aC rfl ?_ | refine ay rfl ?_))
  ·obtain rfl : i = (br M + 7) / 8 := by omega
   have hfin : eO (List.replicate ((br M + 7) / 8 - (br M + 7) / 8) 0 ++ (bD 256 ((br M + 7) / 8) M).reverse) = jM (sb M) := by
    rw [Nat.sub_self, List.replicate_zero, List.nil_append, ← hlen]
    have h1 : M < 256 ^ (aR 256 M).length := jm (by omega) M
    rw [qT (by omega) h1, Nat.sub_self, List.replicate_zero, List.append_nil, oq (fun d hd => (cP (B := 256) (by omega) M).1 d (List.mem_reverse.1 hd)), sb, List.map_reverse]
   rw [hfin] at hh
   refine sr ?_
   refine aV (ah (aj (cF ?_)))
   refine aX ?_
   refine aA (aA (bj (ak (sr (mL ?_)))))
   refine iO aG.out aG.out aG.out rfl (hh.aM (i := 0) rfl) (by decide) ?_
   refine aS (ah (aq ?_))
   refine cf ?_
   exact ⟨rfl, hh.below⟩
theorem jA (A : Option Addr) (n c m : Nat) (xs : List Nat) (w : World) (hx : Sl w A n 1 (cj xs)) (hn : n ≤ 10000000000) (hm : m ≤ 10000000000) :
  Calls Tryz.prog 243 #[.slice A n c, .int .i64 m] w fun e w' => ∃ b, e = .returned (.slice (some ⟨b, 0, none⟩) (max m n) (max m n)) ∧ w'.ownsRow w.heap.size 195 1 (.slice (some ⟨b, 0, none⟩) (max m n) (max m n)) (max m n) (cj (xs ++ List.replicate (max m n - n) 0)) ∧ Below w.heap.size w w' := by
 have hl := hx.1
 rw [aO] at hl
 have hh := Hp.start w
 refine al (N := 15) (l := [.slice A n c, .int .i64 m]) Tryz.func243 rfl rfl (by simp) ?_
 refine sr (aL (ah (sr (mI (mL (a0 ?_))))))
 refine iU rfl rfl (by decide) ?_
 refine fv (n := max m n) hh rfl rfl (by omega) (by omega) aG.out aD.out rfl (by omega) (by omega) (by decide) ?_
 intro b10 w10 hh
 refine aL (ah (sr (mL (mL ?_))))
 rw [jW] at hh
 refine xO hh (i := 0) (o := 0) rfl rfl rfl (hx.ext hh.below) aG.out aD.out (by rw [aO, List.length_replicate]; omega) (cz _) (by decide) ?_
 intro w13 hh
 skip
 have e1 : bP (cj (List.replicate (max m n) 0)) 0 ((cj xs).take (min n (max m n) * 1)) = cj (xs ++ List.replicate (max m n - n) 0) := by
  rw [List.take_of_length_le (by rw [aO]; omega), bP, List.take_zero, List.nil_append, aO, ← nH, ← qu, List.drop_replicate]
  congr 3
  omega
 simp only [List.set_cons_zero, e1] at hh
 refine ah (sr (mL (aL (ah (aq ?_)))))
 refine cf ?_
 exact ⟨_, rfl, hh.at_ (i := 0) rfl, hh.below⟩
theorem jR (A B : Option Addr) (n c m c' : Nat) (xs ys : List Nat) (w : World) (hx : Sl w A n 1 (cj xs)) (hy : Sl w B m 1 (cj ys)) (hdx : Dg 18446744073709551616 xs) (hdy : Dg 18446744073709551616 ys) (hc : n ≤ c) (hc' : m ≤ c') (hn : n ≤ 100000000000) (hm : m ≤ 100000000000) :
  Calls Tryz.prog 246 #[.slice A n c, .slice B m c'] w fun e w' => e = .returned (.int .i64 (gX (bk 18446744073709551616 xs) (bk 18446744073709551616 ys))) ∧ Below w.heap.size w w' := by
 have hlx := hx.1
 have hly := hy.1
 rw [aO] at hlx hly
 have hcx := hx.pz
 have hcy := hy.pz
 have hxl := dZ xs
 have hyl := dZ ys
 have hx2 := Can.cut hdx
 have hy2 := Can.cut hdy
 have hh := Hp.start w
 rw [← g3 xs, ← g3 ys]
 refine al (N := 47) (l := [.slice A n c, .slice B m c']) Tryz.func246 rfl rfl (by simp) ?_
 refine sr (aI (ah (sr (mL ?_))))
 refine bC hh (fe _ _ _ xs _ hx hc (by omega)) rfl ?_
 intro w7 hh
 refine mL ?_
 refine bC hh (fe _ _ _ ys _ (hy.ext hh.below) hc' (by omega)) rfl ?_
 intro w9 hh
 generalize cX xs = us at *
 generalize cX ys = vs at *
 by_cases hlen : us.length = vs.length
 ·refine aL (aL (ah (aj (sr (mL (a0 (mL (a0 ?_))))))))
  refine er (ah (cF (ao (ak (aj (sr (mL (a0 ?_))))))))
  refine eK (aI (ah (ar ?_)))
  refine bA [4, 5, 23, 24, 25, 26, 27, 28, 29, 30, 31, 32, 33, 34, 35, 36, 37, 38, 39, 40, 41, 42, 43, 44, 45, 46] 5
   (fun v w' => ∃ k : Nat, k ≤ us.length ∧ v = .int .i64 ((k : Int) - 1) ∧ us.drop k = vs.drop k ∧ Hp w [] w')
   (fun v _ => (intOf v + 1).toNat) ?_ ?_
  ·exact ⟨us.length, Nat.le_refl _, rfl, by rw [List.drop_length, List.drop_eq_nil_of_le (by omega)], hh⟩
  ·clear hh
   rintro ρ' v w' ⟨k, hk, rfl, hd, hh⟩
   by_cases h0 : k = 0
   ·subst h0
    refine aj (sr (mI ?_))
    refine dh (ah (cF ?_))
    refine aX ?_
    refine aA (aA (bj (ak (sr (aI (ah (aq ?_)))))))
    refine cf ?_
    rw [List.drop_zero, List.drop_zero] at hd
    rw [hd]
    exact ⟨by rw [sA rfl], hh.below⟩
   ·obtain ⟨j, rfl⟩ : ∃ j, k = j + 1 := ⟨k - 1, by omega⟩
    obtain ⟨x, hxj⟩ := aH (l := us) (k := j) (by omega)
    obtain ⟨y, hyj⟩ := aH (l := vs) (k := j) (by omega)
    obtain ⟨ad, rfl, hr⟩ := hcx.at_ (by omega)
    obtain ⟨ad2, rfl, hs⟩ := hcy.at_ (by omega)
    have hx3 := dq hxj
    have hy3 := dq hyj
    by_cases hlt : x < y
    ·have hf := ov hx2.1 hxj hyj hd hlt
     refine aj (sr (mI ?_))
     refine dh (ah (cT (ao (ak (aj (ar (ar (aj ?_))))))))
     refine a4 8 [[(0, none)], [(5, none)], [(28, some 0), (29, some 1)], [(30, some 2)], [(1, none)], [(5, none)], [(32, some 4), (33, some 5)], [(34, some 6)]] [(7, 35), (6, 34), (5, 33), (4, 32), (3, 31), (2, 30), (1, 29), (0, 28)] hh mixed (by kernel_rfl) ?_
     refine gE ?_
     refine eG ?_
     refine jV (j) ?_
     refine kJ (fun _ hj => (hr.ext hj.hp.below).lV hx3) ?_
     refine gE ?_
     refine eG ?_
     refine jV (j) ?_
     refine kJ (fun _ hj => (hs.ext hj.hp.below).lV hy3) ?_
     refine bp ?_
     intro f W hJ hV
     have hb_9 := hJ.bl
     obtain ⟨v35, v34, v33, v32, v31, v30, v29, v28, _⟩ := hV
     replace hh := hJ.hp
     refine a6 (bu (ai v35 (ai v34 (ai v33 (ai v32 (ai v31 (ai v30 (ai v29 (ai v28 a5))))))))) ?_
     dsimp only [cC]
     clear hJ
     refine aV (aB (ah (cT (sr (aI (ah (aq (bO (bO (aJ (aJ ?_)))))))))))
     refine bO (aJ ?_)
     refine cf ?_
     exact ⟨by rw [iu hf], hh.below⟩
    ·by_cases hgt : y < x
     ·have hf := ov hy2.1 hyj hxj hd.symm hgt
      refine aj (sr (mI ?_))
      refine dh (ah (cT (ao (ak (aj (ar (ar (aj ?_))))))))
      refine a4 8 [[(0, none)], [(5, none)], [(28, some 0), (29, some 1)], [(30, some 2)], [(1, none)], [(5, none)], [(32, some 4), (33, some 5)], [(34, some 6)]] [(7, 35), (6, 34), (5, 33), (4, 32), (3, 31), (2, 30), (1, 29), (0, 28)] hh mixed (by kernel_rfl) ?_
      refine gE ?_
      refine eG ?_
      refine jV (j) ?_
      refine kJ (fun _ hj => (hr.ext hj.hp.below).lV hx3) ?_
      refine gE ?_
      refine eG ?_
      refine jV (j) ?_
      refine kJ (fun _ hj => (hs.ext hj.hp.below).lV hy3) ?_
      refine bp ?_
      intro f W hJ hV
      have hb_9 := hJ.bl
      obtain ⟨v35, v34, v33, v32, v31, v30, v29, v28, _⟩ := hV
      replace hh := hJ.hp
      refine a6 (bu (ai v35 (ai v34 (ai v33 (ai v32 (ai v31 (ai v30 (ai v29 (ai v28 a5))))))))) ?_
      dsimp only [cC]
      clear hJ
      refine aV (aB (ah (cF (aj ?_))))
      refine a4 8 [[(0, none)], [(5, none)], [(38, some 0), (39, some 1)], [(40, some 2)], [(1, none)], [(5, none)], [(42, some 4), (43, some 5)], [(44, some 6)]] [(7, 45), (6, 44), (5, 43), (4, 42), (3, 41), (2, 40), (1, 39), (0, 38)] hh mixed (by kernel_rfl) ?_
      refine gE ?_
      refine eG ?_
      refine jV (j) ?_
      refine kJ (fun _ hj => (hr.ext hj.hp.below).lV hx3) ?_
      refine gE ?_
      refine eG ?_
      refine jV (j) ?_
      refine kJ (fun _ hj => (hs.ext hj.hp.below).lV hy3) ?_
      refine bp ?_
      intro f W hJ hV
      have hb_11 := hJ.bl
      obtain ⟨v45, v44, v43, v42, v41, v40, v39, v38, _⟩ := hV
      replace hh := hJ.hp
      refine a6 (bu (ai v45 (ai v44 (ai v43 (ai v42 (ai v41 (ai v40 (ai v39 (ai v38 a5))))))))) ?_
      dsimp only [cC]
      clear hJ
      refine cb (aB (ah (cT (sr (aI (ah (aq (bO (bO (aJ (aJ ?_)))))))))))
      refine bO (aJ ?_)
      refine cf ?_
      exact ⟨by rw [ph hf], hh.below⟩
     ·refine aj (sr (mI ?_))
      refine dh (ah (cT (ao (ak (aj (ar (ar (aj ?_))))))))
      refine a4 8 [[(0, none)], [(5, none)], [(28, some 0), (29, some 1)], [(30, some 2)], [(1, none)], [(5, none)], [(32, some 4), (33, some 5)], [(34, some 6)]] [(7, 35), (6, 34), (5, 33), (4, 32), (3, 31), (2, 30), (1, 29), (0, 28)] hh mixed (by kernel_rfl) ?_
      refine gE ?_
      refine eG ?_
      refine jV (j) ?_
      refine kJ (fun _ hj => (hr.ext hj.hp.below).lV hx3) ?_
      refine gE ?_
      refine eG ?_
      refine jV (j) ?_
      refine kJ (fun _ hj => (hs.ext hj.hp.below).lV hy3) ?_
      refine bp ?_
      intro f W hJ hV
      have hb_9 := hJ.bl
      obtain ⟨v35, v34, v33, v32, v31, v30, v29, v28, _⟩ := hV
      replace hh := hJ.hp
      refine a6 (bu (ai v35 (ai v34 (ai v33 (ai v32 (ai v31 (ai v30 (ai v29 (ai v28 a5))))))))) ?_
      dsimp only [cC]
      clear hJ
      refine aV (aB (ah (cF (aj ?_))))
      refine a4 8 [[(0, none)], [(5, none)], [(38, some 0), (39, some 1)], [(40, some 2)], [(1, none)], [(5, none)], [(42, some 4), (43, some 5)], [(44, some 6)]] [(7, 45), (6, 44), (5, 43), (4, 42), (3, 41), (2, 40), (1, 39), (0, 38)] hh mixed (by kernel_rfl) ?_
      refine gE ?_
      refine eG ?_
      refine jV (j) ?_
      refine kJ (fun _ hj => (hr.ext hj.hp.below).lV hx3) ?_
      refine gE ?_
      refine eG ?_
      refine jV (j) ?_
      refine kJ (fun _ hj => (hs.ext hj.hp.below).lV hy3) ?_
      refine bp ?_
      intro f W hJ hV
      have hb_11 := hJ.bl
      obtain ⟨v45, v44, v43, v42, v41, v40, v39, v38, _⟩ := hV
      replace hh := hJ.hp
      refine a6 (bu (ai v45 (ai v44 (ai v43 (ai v42 (ai v41 (ai v40 (ai v39 (ai v38 a5))))))))) ?_
      dsimp only [cC]
      clear hJ
      refine cb (aB (ah (cF (ao (aW (aW (ak (aw (mI ?_)))))))))
      refine eK (aI (aE (ak ?_)))
      refine ⟨⟨j, by omega, by show Value.int _ _ = Value.int _ _; congr 1; omega, pf hxj hyj hd (by omega), hh⟩, by show ((((j + 1 : Nat) : Int) - 1 - 1) + 1).toNat < ((((j + 1 : Nat) : Int) - 1) + 1).toNat; omega, ?_⟩
      (repeat (first | exact az _ _ _ | refine aC rfl ?_ | refine ay rfl ?_))
 ·by_cases hlt : us.length < vs.length
  ·have hf : bk 18446744073709551616 us < bk 18446744073709551616 vs := by
    refine Nat.lt_of_not_le fun h => ?_
    have := hy2.m0 hx2 (by omega) h
    omega
   refine aL (aL (ah (aj (sr (mL (a0 (mL (a0 ?_))))))))
   refine er (ah (cT (aj (sr (mL (a0 (mL (a0 ?_))))))))
   refine aV (ah (cT (sr (aI (ah (aq (aJ (aJ ?_))))))))
   refine cf ?_
   exact ⟨by rw [iu hf], hh.below⟩
  ·have hf : bk 18446744073709551616 vs < bk 18446744073709551616 us := by
    refine Nat.lt_of_not_le fun h => ?_
    have := hx2.m0 hy2 (by omega) h
    omega
   refine aL (aL (ah (aj (sr (mL (a0 (mL (a0 ?_))))))))
   refine er (ah (cT (aj (sr (mL (a0 (mL (a0 ?_))))))))
   refine aV (ah (cF (ao (ak (sr (aI (ah (aq (aJ ?_)))))))))
   refine cf ?_
   exact ⟨by rw [ph hf], hh.below⟩
end Go.Proofs.YtkgdagjklakajaaGreatDoor
namespace Go.Proofs.YtkgdagjklakajaaGreatDoor
open Go.RowKit
theorem zq {y m : Nat} (hy : y < 18446744073709551616) (hm : m < 18446744073709551616) : y * m ≤ 340282366920938463426481119284349108225 := Nat.mul_le_mul (by omega : y ≤ 18446744073709551615) (by omega : m ≤ 18446744073709551615)
theorem nJ {x y m c P : Nat} (hx : x < 18446744073709551616) (hc : c < 18446744073709551616) (hP : P ≤ 340282366920938463426481119284349108225) (he : P = y * m) :
  (x + (P % 18446744073709551616 + c + 0) % 18446744073709551616 + 0) % 18446744073709551616 = (x + y * m + c) % 18446744073709551616 ∧ ((P / 18446744073709551616 + (P % 18446744073709551616 + c + 0) / 18446744073709551616) % 18446744073709551616 + (x + (P % 18446744073709551616 + c + 0) % 18446744073709551616 + 0) / 18446744073709551616) % 18446744073709551616 = (x + y * m + c) / 18446744073709551616 ∧ (x + y * m + c) / 18446744073709551616 < 18446744073709551616 := by
 rw [← he]
 omega
theorem pQ {w0 : World} {H : List HE} {b M C c' ny cy m : Nat} {Y : Option Addr} (pre xs post ys : List Nat) (w : World) (hh : Hp w0 (.row (some ⟨b, 0, none⟩) M C 195 1 (cj (pre ++ xs ++ post)) :: H) w)
  (hy : ∀ w1 cs, Hp w0 (.row (some ⟨b, 0, none⟩) M C 195 1 cs :: H) w1 → Sl w1 Y ny 1 (cj ys)) (hxd : Dg 18446744073709551616 xs) (hyd : Dg 18446744073709551616 ys) (hm : m < 18446744073709551616) (hM : xs.length ≤ 100000000000) (hny : ny ≤ 100000000000) :
  Calls Tryz.prog 249 #[.slice (some ⟨b, pre.length, none⟩) xs.length c', .slice Y ny cy, .int .u64 (m : Int)] w fun e w' => e = .returned (.tuple #[]) ∧ Hp w0 (.row (some ⟨b, 0, none⟩) M C 195 1 (cj (pre ++ eQ 18446744073709551616 xs ys m 0 ++ post)) :: H) w' := by
 have hly := (hy _ _ hh).1
 rw [aO] at hly
 refine al (N := 56) (l := [.slice (some ⟨b, pre.length, none⟩) xs.length c', .slice Y ny cy, .int .u64 (m : Int)]) Tryz.func249 rfl rfl (by simp) ?_
 refine sr (aI (ah (sr (mL (a0 (mI (ah (ar ?_))))))))
 refine cE [6, 7, 8, 9, 10, 11, 14, 15, 16, 17, 18, 19, 20, 21, 22, 23, 24, 25, 26, 27, 28, 29, 30, 31, 32, 33, 34, 35, 36, 37, 38, 39, 40, 41, 42, 43, 44, 45, 46, 47, 48, 49, 50, 51, 52, 53, 54, 55] 6 14
  (fun c i w' => ∃ (done rest : List Nat) (cr : Nat), done.length + rest.length = xs.length ∧ i = .int .i64 done.length ∧ c = .int .u64 (cr : Int) ∧ cr < 18446744073709551616 ∧ Dg 18446744073709551616 rest ∧ done ++ eQ 18446744073709551616 rest (ys.drop done.length) m cr = eQ 18446744073709551616 xs ys m 0 ∧ Hp w0 (.row (some ⟨b, 0, none⟩) M C 195 1 (cj (pre ++ (done ++ rest) ++ post)) :: H) w')
  (fun _ i _ => xs.length - (intOf i).toNat) ?_ ?_
 ·exact ⟨[], xs, 0, by simp, rfl, rfl, by omega, hxd, rfl, hh⟩
 ·clear hh
  rintro ρ' c i w' ⟨done, rest, cr, hlen, rfl, rfl, hcr, hrd, heq, hh⟩
  by_cases hlt : done.length < xs.length
  ·obtain ⟨x, r, rfl⟩ : ∃ x r, rest = x :: r := by
    cases rest with
    | nil => simp at hlen; omega
    | cons x r => exact ⟨x, r, rfl⟩
   have hx := hrd.head
   have hg := dq (oL (pre := pre) (done := done) (r := r) (post := post) (x := x))
   have hlr : done.length + (r.length + 1) = xs.length := by simpa using hlen
   simp only [eQ, tail_drop, mN] at heq
   by_cases hiy : done.length < ny
   ·obtain ⟨y, hyk⟩ := aH (l := ys) (k := done.length) (by omega)
    obtain ⟨ad, rfl, _⟩ := (hy _ _ hh).at_ (by omega)
    rw [hyk, Option.getD_some] at heq
    have hyw := hyd.at_ hyk
    refine sr ?_
    refine aV (ah (aj (cT (ao (ak (aj (ar (sr (mI (aI (ah ?_)))))))))))
    refine sr (aI (ah (aj (sr (mI (mL (a0 ?_)))))))
    refine aV (ah (cT (aw (mL (mI ?_)))))
    refine aY (k := done.length) aG.out aD.size rfl rfl (by omega) (by omega) (by decide) ?_
    refine bE aD.out rfl ((hy _ _ hh).yK hyk) (by decide) ?_
    refine aI (ah (sr (mI (mI ?_))))
    obtain ⟨p1, p2, p3⟩ := nJ (y := y) (m := m) hx hcr (zq hyw hm) rfl
    refine bC hh (lz y m _ hyw hm) rfl ?_
    intro w28 hh
    refine mT ?_
    refine dw ?_
    refine dw ?_
    refine aI (aI (ah (sr (mI (mI ?_)))))
    refine gM (fR (y * m % 18446744073709551616) cr 0 (by omega) _) (aF (bB rfl) (aF (bB rfl) (aF rfl bq))) (by decide) ?_
    refine mT ?_
    refine dw ?_
    refine dw ?_
    refine aI (aI (ah (sr (mI (mI ?_)))))
    refine fy rfl rfl (by decide) ?_
    refine aI (ah (sr (mL (mI (mL (mI ?_))))))
    refine cY aG.out aD.size rfl rfl rfl (by omega) (by decide) ?_
    refine bE aD.out rfl (hh.cd (i := 0) rfl (by first | assumption | (simp only [Nat.mul_one]; assumption))) (by decide) ?_
    refine mI ?_
    refine gM (fR x ((y * m % 18446744073709551616 + cr + 0) % 18446744073709551616) 0 (by omega) _) (aF (bB rfl) (aF (bB rfl) (aF rfl bq))) (by decide) ?_
    refine mT ?_
    refine dw ?_
    refine dw ?_
    refine cY (k := done.length) aG.out aD.size rfl rfl (by omega) (by omega) (by decide) ?_
    refine bo hh (i := 0) (vs := [_]) rfl rfl (bB rfl) rfl aD.out rfl (by rw [aO]; simp only [List.length_append, List.length_cons]; omega) rfl ?_
    intro ws hh
    simp only [List.set_cons_zero] at hh
    rw [p1, Nat.mul_one, bR (by rw [aO]; simp only [List.length_append, List.length_cons]; omega), eA, jh] at hh
    refine aI (ah (aw (mI (mI ?_))))
    refine fy rfl rfl (by decide) ?_
    refine aI (aE (aW (ak (aw ?_))))
    refine bJ (mI (aE (ak ?_)))
    rw [p2]
    refine ⟨⟨done ++ [(x + y * m + cr) % 18446744073709551616], r, _, by simp; omega, by rw [List.length_append]; rfl, rfl, p3, hrd.tail, ?_, hh⟩, by show xs.length - (done.length + 1) < xs.length - done.length; omega, ?_⟩
    ·rw [← heq, List.append_assoc, List.length_append]; rfl
    (repeat (first | exact az _ _ _ | refine aC rfl ?_ | refine ay rfl ?_))
   ·rw [List.getElem?_eq_none (by omega), Option.getD_none] at heq
    have h0w : (0 : Nat) < 18446744073709551616 := by omega
    refine sr ?_
    refine aV (ah (aj (cT (ao (ak (aj (ar (sr (mI (aI (ah ?_)))))))))))
    refine sr (aI (ah (aj (sr (mI (mL (a0 ?_)))))))
    refine aV (ah (cF (ao (ak (sr (mI (mI ?_)))))))
    obtain ⟨p1, p2, p3⟩ := nJ (y := 0) (m := m) hx hcr (zq h0w hm) rfl
    refine bC hh (lz 0 m _ h0w hm) rfl ?_
    intro w28 hh
    refine mT ?_
    refine dw ?_
    refine dw ?_
    refine aI (aI (ah (sr (mI (mI ?_)))))
    refine gM (fR (0 * m % 18446744073709551616) cr 0 (by omega) _) (aF (bB rfl) (aF (bB rfl) (aF rfl bq))) (by decide) ?_
    refine mT ?_
    refine dw ?_
    refine dw ?_
    refine aI (aI (ah (sr (mI (mI ?_)))))
    refine fy rfl rfl (by decide) ?_
    refine aI (ah (sr (mL (mI (mL (mI ?_))))))
    refine cY aG.out aD.size rfl rfl rfl (by omega) (by decide) ?_
    refine bE aD.out rfl (hh.cd (i := 0) rfl (by first | assumption | (simp only [Nat.mul_one]; assumption))) (by decide) ?_
    refine mI ?_
    refine gM (fR x ((0 * m % 18446744073709551616 + cr + 0) % 18446744073709551616) 0 (by omega) _) (aF (bB rfl) (aF (bB rfl) (aF rfl bq))) (by decide) ?_
    refine mT ?_
    refine dw ?_
    refine dw ?_
    refine cY (k := done.length) aG.out aD.size rfl rfl (by omega) (by omega) (by decide) ?_
    refine bo hh (i := 0) (vs := [_]) rfl rfl (bB rfl) rfl aD.out rfl (by rw [aO]; simp only [List.length_append, List.length_cons]; omega) rfl ?_
    intro ws hh
    simp only [List.set_cons_zero] at hh
    rw [p1, Nat.mul_one, bR (by rw [aO]; simp only [List.length_append, List.length_cons]; omega), eA, jh] at hh
    refine aI (ah (aw (mI (mI ?_))))
    refine fy rfl rfl (by decide) ?_
    refine aI (aE (aW (ak (aw ?_))))
    refine bJ (mI (aE (ak ?_)))
    rw [p2]
    refine ⟨⟨done ++ [(x + 0 * m + cr) % 18446744073709551616], r, _, by simp; omega, by rw [List.length_append]; rfl, rfl, p3, hrd.tail, ?_, hh⟩, by show xs.length - (done.length + 1) < xs.length - done.length; omega, ?_⟩
    ·rw [← heq, List.append_assoc, List.length_append]; rfl
    (repeat (first | exact az _ _ _ | refine aC rfl ?_ | refine ay rfl ?_))
  ·have hr0 : rest = [] := List.eq_nil_of_length_eq_zero (by omega)
   subst hr0
   refine sr ?_
   refine aV (ah (aj (cF ?_)))
   refine aX ?_
   refine aA (aA (bj ?_))
   refine zw (by first | exact .inr rfl | exact .inl rfl) rfl  ?_
   rw [List.append_nil, eQ, List.append_nil] at *
   rw [← heq]
   exact ⟨rfl, hh⟩
theorem qj {w0 : World} {H : List HE} {b M C c' ny cy : Nat} {Y : Option Addr} (pre xs post ys : List Nat) (w : World) (hh : Hp w0 (.row (some ⟨b, 0, none⟩) M C 195 1 (cj (pre ++ xs ++ post)) :: H) w)
  (hy : ∀ w1 cs, Hp w0 (.row (some ⟨b, 0, none⟩) M C 195 1 cs :: H) w1 → Sl w1 Y ny 1 (cj ys)) (hxd : Dg 18446744073709551616 xs) (hyd : Dg 18446744073709551616 ys) (hM : xs.length ≤ 100000000000) (hny : ny ≤ 100000000000) (hsub : qN 18446744073709551616 xs ys 0 = 0) :
  Calls Tryz.prog 247 #[.slice (some ⟨b, pre.length, none⟩) xs.length c', .slice Y ny cy] w fun e w' => e = .returned (.bool true) ∧ Hp w0 (.row (some ⟨b, 0, none⟩) M C 195 1 (cj (pre ++ lI 18446744073709551616 xs ys 0 ++ post)) :: H) w' := by
 have hly := (hy _ _ hh).1
 rw [aO] at hly
 refine al (N := 37) (l := [.slice (some ⟨b, pre.length, none⟩) xs.length c', .slice Y ny cy]) Tryz.func247 rfl rfl (by simp) ?_
 refine sr (aB (ah (sr (aI (ah (aj (sr (mL (a0 (mI (ah ?_)))))))))))
 refine ar ?_
 refine cE [5, 6, 7, 10, 11, 12, 13, 14, 15, 16, 17, 18, 19, 20, 21, 22, 23, 24, 25, 26, 27, 28, 29, 30, 31, 32, 33, 34] 5 10
  (fun c i w' => ∃ (done rest : List Nat) (cr : Nat), done.length + rest.length = xs.length ∧ i = .int .i64 done.length ∧ c = .int .u64 (cr : Int) ∧ cr ≤ 1 ∧ Dg 18446744073709551616 rest ∧ done ++ lI 18446744073709551616 rest (ys.drop done.length) cr = lI 18446744073709551616 xs ys 0 ∧ qN 18446744073709551616 rest (ys.drop done.length) cr = 0 ∧ Hp w0 (.row (some ⟨b, 0, none⟩) M C 195 1 (cj (pre ++ (done ++ rest) ++ post)) :: H) w')
  (fun _ i _ => xs.length - (intOf i).toNat) ?_ ?_
 ·exact ⟨[], xs, 0, by simp, rfl, rfl, by omega, hxd, rfl, hsub, hh⟩
 ·clear hh
  rintro ρ' c i w' ⟨done, rest, cr, hlen, rfl, rfl, hcr, hrd, heq, hsb, hh⟩
  by_cases hlt : done.length < xs.length
  ·obtain ⟨x, r, rfl⟩ : ∃ x r, rest = x :: r := by
    cases rest with
    | nil => simp at hlen; omega
    | cons x r => exact ⟨x, r, rfl⟩
   have hx := hrd.head
   have hg := dq (oL (pre := pre) (done := done) (r := r) (post := post) (x := x))
   have hlr : done.length + (r.length + 1) = xs.length := by simpa using hlen
   simp only [lI, qN, tail_drop, mN] at heq hsb
   by_cases hiy : done.length < ny
   ·obtain ⟨y, hyk⟩ := aH (l := ys) (k := done.length) (by omega)
    obtain ⟨ad, rfl, _⟩ := (hy _ _ hh).at_ (by omega)
    rw [hyk, Option.getD_some] at heq hsb
    have hyw := hyd.at_ hyk
    refine sr ?_
    refine aV (ah (aj (cT (ao (ak (aj (ar (sr (mI (aI (ah ?_)))))))))))
    refine sr (aI (ah (aj (sr (mI (mL (a0 ?_)))))))
    refine aV (ah (cT (aw (mL (mI ?_)))))
    refine aY (k := done.length) aG.out aD.size rfl rfl (by omega) (by omega) (by decide) ?_
    refine bE aD.out rfl ((hy _ _ hh).yK hyk) (by decide) ?_
    refine aI (ah (aw (mL (mI (mL (mI ?_))))))
    refine cY (k := done.length) aG.out aD.size rfl rfl (by omega) (by omega) (by decide) ?_
    refine bE aD.out rfl (hh.cd (i := 0) rfl (by first | assumption | (simp only [Nat.mul_one]; assumption))) (by decide) ?_
    refine mI (mI ?_)
    refine gM (nC x y cr hcr _) (aF (bB rfl) (aF (bB rfl) (aF (bB rfl) bq))) (by decide) ?_
    refine mT ?_
    refine dw ?_
    refine dw ?_
    refine cY (k := done.length) aG.out aD.size rfl rfl (by omega) (by omega) (by decide) ?_
    refine bo hh (i := 0) (vs := [_]) rfl rfl (bB rfl) rfl aD.out rfl (by rw [aO]; simp only [List.length_append, List.length_cons]; omega) rfl ?_
    intro ws hh
    simp only [List.set_cons_zero] at hh
    rw [Nat.mul_one, bR (by rw [aO]; simp only [List.length_append, List.length_cons]; omega), eA, jh] at hh
    refine aI (aE (aW (ak (aw ?_))))
    refine bJ (mI (aE (ak ?_)))
    refine ⟨⟨done ++ [(x + 18446744073709551616 - y - cr) % 18446744073709551616], r, _, by simp; omega, by rw [List.length_append]; rfl, rfl, by split <;> omega, hrd.tail, ?_, ?_, hh⟩, by show xs.length - (done.length + 1) < xs.length - done.length; omega, ?_⟩
    ·rw [← heq, List.append_assoc, List.length_append]; rfl
    ·rw [List.length_append]; exact hsb
    (repeat (first | exact az _ _ _ | refine aC rfl ?_ | refine ay rfl ?_))
   ·rw [List.getElem?_eq_none (by omega), Option.getD_none] at heq hsb
    refine sr ?_
    refine aV (ah (aj (cT (ao (ak (aj (ar (sr (mI (aI (ah ?_)))))))))))
    refine sr (aI (ah (aj (sr (mI (mL (a0 ?_)))))))
    refine aV (ah (cF (ao (ak (aw (mL (mI (mL (mI ?_)))))))))
    refine cY (k := done.length) aG.out aD.size rfl rfl (by omega) (by omega) (by decide) ?_
    refine bE aD.out rfl (hh.cd (i := 0) rfl (by first | assumption | (simp only [Nat.mul_one]; assumption))) (by decide) ?_
    refine mI (mI ?_)
    refine gM (nC x 0 cr hcr _) (aF (bB rfl) (aF (bB rfl) (aF (bB rfl) bq))) (by decide) ?_
    refine mT ?_
    refine dw ?_
    refine dw ?_
    refine cY (k := done.length) aG.out aD.size rfl rfl (by omega) (by omega) (by decide) ?_
    refine bo hh (i := 0) (vs := [_]) rfl rfl (bB rfl) rfl aD.out rfl (by rw [aO]; simp only [List.length_append, List.length_cons]; omega) rfl ?_
    intro ws hh
    simp only [List.set_cons_zero] at hh
    rw [Nat.mul_one, bR (by rw [aO]; simp only [List.length_append, List.length_cons]; omega), eA, jh] at hh
    refine aI (aE (aW (ak (aw ?_))))
    refine bJ (mI (aE (ak ?_)))
    refine ⟨⟨done ++ [(x + 18446744073709551616 - 0 - cr) % 18446744073709551616], r, _, by simp; omega, by rw [List.length_append]; rfl, rfl, by split <;> omega, hrd.tail, ?_, ?_, hh⟩, by show xs.length - (done.length + 1) < xs.length - done.length; omega, ?_⟩
    ·rw [← heq, List.append_assoc, List.length_append]; rfl
    ·rw [List.length_append]; exact hsb
    (repeat (first | exact az _ _ _ | refine aC rfl ?_ | refine ay rfl ?_))
  ·have hr0 : rest = [] := List.eq_nil_of_length_eq_zero (by omega)
   subst hr0
   obtain rfl : cr = 0 := hsb
   refine sr ?_
   refine aV (ah (aj (cF ?_)))
   refine aX ?_
   refine aA (aA (bj (ak (sr (mI ?_)))))
   refine ea (aB (ah (aq ?_)))
   refine cf ?_
   rw [List.append_nil, lI, List.append_nil] at *
   rw [← heq]
   exact ⟨rfl, hh⟩
theorem rX {w0 : World} {H : List HE} {b M C c' ny cy : Nat} {Y : Option Addr} (pre xs post ys : List Nat) (w : World) (hh : Hp w0 (.row (some ⟨b, 0, none⟩) M C 195 1 (cj (pre ++ xs ++ post)) :: H) w)
  (hy : ∀ w1 cs, Hp w0 (.row (some ⟨b, 0, none⟩) M C 195 1 cs :: H) w1 → Sl w1 Y ny 1 (cj ys)) (hxd : Dg 18446744073709551616 xs) (hyd : Dg 18446744073709551616 ys) (hM : xs.length ≤ 100000000000) (hny : ny ≤ 100000000000) :
  Calls Tryz.prog 244 #[.slice (some ⟨b, pre.length, none⟩) xs.length c', .slice Y ny cy] w fun e w' => e = .returned (.tuple #[]) ∧ Hp w0 (.row (some ⟨b, 0, none⟩) M C 195 1 (cj (pre ++ eQ 18446744073709551616 xs ys 1 0 ++ post)) :: H) w' := by
 have hly := (hy _ _ hh).1
 rw [aO] at hly
 refine al (N := 34) (l := [.slice (some ⟨b, pre.length, none⟩) xs.length c', .slice Y ny cy]) Tryz.func244 rfl rfl (by simp) ?_
 refine sr (aI (ah (sr (mL (a0 (mI (ah (ar ?_))))))))
 refine cE [4, 5, 6, 9, 10, 11, 12, 13, 14, 15, 16, 17, 18, 19, 20, 21, 22, 23, 24, 25, 26, 27, 28, 29, 30, 31, 32, 33] 4 9
  (fun c i w' => ∃ (done rest : List Nat) (cr : Nat), done.length + rest.length = xs.length ∧ i = .int .i64 done.length ∧ c = .int .u64 (cr : Int) ∧ cr ≤ 1 ∧ Dg 18446744073709551616 rest ∧ done ++ eQ 18446744073709551616 rest (ys.drop done.length) 1 cr = eQ 18446744073709551616 xs ys 1 0 ∧ Hp w0 (.row (some ⟨b, 0, none⟩) M C 195 1 (cj (pre ++ (done ++ rest) ++ post)) :: H) w')
  (fun _ i _ => xs.length - (intOf i).toNat) ?_ ?_
 ·exact ⟨[], xs, 0, by simp, rfl, rfl, by omega, hxd, rfl, hh⟩
 ·clear hh
  rintro ρ' c i w' ⟨done, rest, cr, hlen, rfl, rfl, hcr, hrd, heq, hh⟩
  by_cases hlt : done.length < xs.length
  ·obtain ⟨x, r, rfl⟩ : ∃ x r, rest = x :: r := by
    cases rest with
    | nil => simp at hlen; omega
    | cons x r => exact ⟨x, r, rfl⟩
   have hx := hrd.head
   have hg := dq (oL (pre := pre) (done := done) (r := r) (post := post) (x := x))
   have hlr : done.length + (r.length + 1) = xs.length := by simpa using hlen
   simp only [eQ, tail_drop, mN, Nat.mul_one] at heq
   by_cases hiy : done.length < ny
   ·obtain ⟨y, hyk⟩ := aH (l := ys) (k := done.length) (by omega)
    obtain ⟨ad, rfl, _⟩ := (hy _ _ hh).at_ (by omega)
    rw [hyk, Option.getD_some] at heq
    have hyw := hyd.at_ hyk
    refine sr ?_
    refine aV (ah (aj (cT (ao (ak (aj (ar (sr (mI (aI (ah ?_)))))))))))
    refine sr (aI (ah (aj (sr (mI (mL (a0 ?_)))))))
    refine aV (ah (cT (aw (mL (mI ?_)))))
    refine aY (k := done.length) aG.out aD.size rfl rfl (by omega) (by omega) (by decide) ?_
    refine bE aD.out rfl ((hy _ _ hh).yK hyk) (by decide) ?_
    refine aI (ah (aw (mL (mI (mL (mI ?_))))))
    refine cY (k := done.length) aG.out aD.size rfl rfl (by omega) (by omega) (by decide) ?_
    refine bE aD.out rfl (hh.cd (i := 0) rfl (by first | assumption | (simp only [Nat.mul_one]; assumption))) (by decide) ?_
    refine mI (mI ?_)
    refine gM (fR x y cr hcr _) (aF (bB rfl) (aF (bB rfl) (aF (bB rfl) bq))) (by decide) ?_
    refine mT ?_
    refine dw ?_
    refine dw ?_
    refine cY (k := done.length) aG.out aD.size rfl rfl (by omega) (by omega) (by decide) ?_
    refine bo hh (i := 0) (vs := [_]) rfl rfl (bB rfl) rfl aD.out rfl (by rw [aO]; simp only [List.length_append, List.length_cons]; omega) rfl ?_
    intro ws hh
    simp only [List.set_cons_zero] at hh
    rw [Nat.mul_one, bR (by rw [aO]; simp only [List.length_append, List.length_cons]; omega), eA, jh] at hh
    refine aI (aE (aW (ak (aw ?_))))
    refine bJ (mI (aE (ak ?_)))
    refine ⟨⟨done ++ [(x + y + cr) % 18446744073709551616], r, _, by simp; omega, by rw [List.length_append]; rfl, rfl, by omega, hrd.tail, ?_, hh⟩, by show xs.length - (done.length + 1) < xs.length - done.length; omega, ?_⟩
    ·rw [← heq, List.append_assoc, List.length_append]; rfl
    (repeat (first | exact az _ _ _ | refine aC rfl ?_ | refine ay rfl ?_))
   ·rw [List.getElem?_eq_none (by omega), Option.getD_none] at heq
    refine sr ?_
    refine aV (ah (aj (cT (ao (ak (aj (ar (sr (mI (aI (ah ?_)))))))))))
    refine sr (aI (ah (aj (sr (mI (mL (a0 ?_)))))))
    refine aV (ah (cF (ao (ak (aw (mL (mI (mL (mI ?_)))))))))
    refine cY (k := done.length) aG.out aD.size rfl rfl (by omega) (by omega) (by decide) ?_
    refine bE aD.out rfl (hh.cd (i := 0) rfl (by first | assumption | (simp only [Nat.mul_one]; assumption))) (by decide) ?_
    refine mI (mI ?_)
    refine gM (fR x 0 cr hcr _) (aF (bB rfl) (aF (bB rfl) (aF (bB rfl) bq))) (by decide) ?_
    refine mT ?_
    refine dw ?_
    refine dw ?_
    refine cY (k := done.length) aG.out aD.size rfl rfl (by omega) (by omega) (by decide) ?_
    refine bo hh (i := 0) (vs := [_]) rfl rfl (bB rfl) rfl aD.out rfl (by rw [aO]; simp only [List.length_append, List.length_cons]; omega) rfl ?_
    intro ws hh
    simp only [List.set_cons_zero] at hh
    rw [Nat.mul_one, bR (by rw [aO]; simp only [List.length_append, List.length_cons]; omega), eA, jh] at hh
    refine aI (aE (aW (ak (aw ?_))))
    refine bJ (mI (aE (ak ?_)))
    refine ⟨⟨done ++ [(x + 0 + cr) % 18446744073709551616], r, _, by simp; omega, by rw [List.length_append]; rfl, rfl, by omega, hrd.tail, ?_, hh⟩, by show xs.length - (done.length + 1) < xs.length - done.length; omega, ?_⟩
    ·rw [← heq, List.append_assoc, List.length_append]; rfl
    (repeat (first | exact az _ _ _ | refine aC rfl ?_ | refine ay rfl ?_))
  ·have hr0 : rest = [] := List.eq_nil_of_length_eq_zero (by omega)
   subst hr0
   refine sr ?_
   refine aV (ah (aj (cF ?_)))
   refine aX ?_
   refine aA (aA (bj ?_))
   refine zw (by first | exact .inr rfl | exact .inl rfl) rfl  ?_
   rw [List.append_nil, eQ, List.append_nil] at *
   rw [← heq]
   exact ⟨rfl, hh⟩
end Go.Proofs.YtkgdagjklakajaaGreatDoor
namespace Go.Proofs.YtkgdagjklakajaaGreatDoor
open Go.RowKit
theorem wx {k i n d : Nat} (D : Nat) (hD : D < 18446744073709551616 ^ i) (hd : d < 18446744073709551616) (hk : i + n / 64 + 1 < k) :
  (D * 2 ^ n) / 18446744073709551616 ^ (i + n / 64) % 18446744073709551616 < 2 ^ (n % 64) ∧ d * 2 ^ (n % 64) % 18446744073709551616 = (d % 2 ^ (64 - n % 64)) * 2 ^ (n % 64) ∧
  (bD 18446744073709551616 k (D * 2 ^ n)).set (i + n / 64) ((D * 2 ^ n) / 18446744073709551616 ^ (i + n / 64) % 18446744073709551616 + d * 2 ^ (n % 64) % 18446744073709551616) = bD 18446744073709551616 k (D * 2 ^ n + 18446744073709551616 ^ (i + n / 64) * (d * 2 ^ (n % 64) % 18446744073709551616)) ∧
  (D * 2 ^ n + 18446744073709551616 ^ (i + n / 64) * (d * 2 ^ (n % 64) % 18446744073709551616)) / 18446744073709551616 ^ (i + n / 64 + 1) % 18446744073709551616 = 0 ∧
  (bD 18446744073709551616 k (D * 2 ^ n + 18446744073709551616 ^ (i + n / 64) * (d * 2 ^ (n % 64) % 18446744073709551616))).set (i + n / 64 + 1) (d / 2 ^ (64 - n % 64)) = bD 18446744073709551616 k ((D + 18446744073709551616 ^ i * d) * 2 ^ n) ∧
  (n % 64 = 0 → D * 2 ^ n + 18446744073709551616 ^ (i + n / 64) * (d * 2 ^ (n % 64) % 18446744073709551616) = (D + 18446744073709551616 ^ i * d) * 2 ^ n) := by
 have hW : (18446744073709551616 : Nat) = 2 ^ 64 := by decide
 have hs : n % 64 < 64 := Nat.mod_lt _ (by omega)
 have hn : 2 ^ n = 18446744073709551616 ^ (n / 64) * 2 ^ (n % 64) := by
  rw [hW, ← Nat.pow_mul, ← Nat.pow_add]; congr 1; omega
 generalize hq : n / 64 = q at *
 generalize hse : n % 64 = s at *
 have e : (18446744073709551616 : Nat) = 2 ^ (64 - s) * 2 ^ s := by rw [← Nat.pow_add, hW]; congr 1; omega
 have hpos : 0 < 2 ^ s := Nat.pow_pos (by omega)
 have hwp : ∀ j : Nat, 0 < 18446744073709551616 ^ j := fun j => Nat.pow_pos (by decide)
 have hP : D * 2 ^ n < 18446744073709551616 ^ (i + q) * 2 ^ s := by
  rw [hn, ← Nat.mul_assoc, Nat.pow_add]
  exact Nat.mul_lt_mul_of_pos_right (Nat.mul_lt_mul_of_pos_right hD (hwp q)) hpos
 have h1 : (D * 2 ^ n) / 18446744073709551616 ^ (i + q) < 2 ^ s := by rw [Nat.div_lt_iff_lt_mul (hwp _), Nat.mul_comm (2 ^ s)]; exact hP
 have hsW : 2 ^ s ≤ 18446744073709551616 := by rw [hW]; exact Nat.pow_le_pow_right (by omega) (by omega)
 have h2 : d * 2 ^ s % 18446744073709551616 = (d % 2 ^ (64 - s)) * 2 ^ s := by rw [e, Nat.mul_mod_mul_right]
 have h3 : (d % 2 ^ (64 - s) + 1) * 2 ^ s ≤ 18446744073709551616 := by
  rw [e]
  exact Nat.mul_le_mul_right _ (Nat.mod_lt _ (Nat.pow_pos (by omega)))
 rw [Nat.succ_mul] at h3
 have h4 : (D * 2 ^ n) / 18446744073709551616 ^ (i + q) % 18446744073709551616 = (D * 2 ^ n) / 18446744073709551616 ^ (i + q) := Nat.mod_eq_of_lt (by omega)
 have hlt1 : D * 2 ^ n + 18446744073709551616 ^ (i + q) * (d * 2 ^ s % 18446744073709551616) < 18446744073709551616 ^ (i + q + 1) := by
  rw [h2, Nat.pow_succ]
  have : 18446744073709551616 ^ (i + q) * ((d % 2 ^ (64 - s)) * 2 ^ s + 2 ^ s) ≤ 18446744073709551616 ^ (i + q) * 18446744073709551616 := Nat.mul_le_mul_left _ h3
  rw [Nat.mul_add] at this
  omega
 have hup := yw (d := d) (s := s) hd (by omega)
 have hfin : D * 2 ^ n + 18446744073709551616 ^ (i + q) * (d * 2 ^ s % 18446744073709551616) + 18446744073709551616 ^ (i + q + 1) * (d / 2 ^ (64 - s)) = (D + 18446744073709551616 ^ i * d) * 2 ^ n := by
  have h5 : 18446744073709551616 ^ (i + q) * (d * 2 ^ s % 18446744073709551616) + 18446744073709551616 ^ (i + q + 1) * (d / 2 ^ (64 - s)) = 18446744073709551616 ^ (i + q) * (d * 2 ^ s) := by
   conv => rhs; rw [← hup.1, Nat.mul_add]
   rw [Nat.pow_succ, Nat.mul_assoc, Nat.mul_comm 18446744073709551616]
  rw [Nat.add_assoc, h5, Nat.add_mul, hn, Nat.pow_add]
  congr 1
  simp only [Nat.mul_assoc, Nat.mul_left_comm, Nat.mul_comm]
 have hbig : ∀ j, j < k → 18446744073709551616 ^ j * 18446744073709551616 ≤ 18446744073709551616 ^ k := fun j hj => by rw [← Nat.pow_succ]; exact Nat.pow_le_pow_right (by decide) hj
 have hb1 := hbig (i + q) (by omega)
 rw [← Nat.pow_succ] at hb1
 refine ⟨by rw [h4]; exact h1, h2, ?_, ?_, ?_, ?_⟩
 ·exact ko (by decide) (by omega) (by omega) (by rw [h4, h2]; omega)
 ·rw [Nat.div_eq_of_lt hlt1]
 ·have h6 : (D * 2 ^ n + 18446744073709551616 ^ (i + q) * (d * 2 ^ s % 18446744073709551616)) / 18446744073709551616 ^ (i + q + 1) % 18446744073709551616 = 0 := by rw [Nat.div_eq_of_lt hlt1]
  have h7 : d / 2 ^ (64 - s) < 18446744073709551616 := Nat.lt_of_le_of_lt (Nat.div_le_self _ _) hd
  have h8 := ko (B := 18446744073709551616) (k := k) (n := D * 2 ^ n + 18446744073709551616 ^ (i + q) * (d * 2 ^ s % 18446744073709551616)) (j := i + q + 1) (v := d / 2 ^ (64 - s)) (by decide) hk ?_ (by rw [h6]; omega)
  ·rw [h6, Nat.zero_add, hfin] at h8
   exact h8
  ·have h9 : 18446744073709551616 ^ (i + q + 1) * (d / 2 ^ (64 - s) + 1) ≤ 18446744073709551616 ^ (i + q + 1) * 18446744073709551616 := Nat.mul_le_mul_left _ h7
   have h10 := hbig (i + q + 1) hk
   rw [Nat.mul_succ] at h9
   omega
 ·intro h0
  subst h0
  rw [← hfin]
  have : d / 2 ^ (64 - 0) = 0 := Nat.div_eq_of_lt (by rw [← hW]; exact hd)
  rw [this]
  simp
theorem uJ (A : Option Addr) (n c m : Nat) (xs : List Nat) (w : World) (hx : Sl w A n 1 (cj xs)) (hd : Dg 18446744073709551616 xs) (hn : n ≤ 1000000000) (hm : m ≤ 10000000000) :
  Calls Tryz.prog 240 #[.slice A n c, .int .i64 (m : Int)] w fun e w' => ∃ A c, e = .returned (.slice A (aR 18446744073709551616 (bk 18446744073709551616 xs * 2 ^ m)).length c) ∧ w'.ownsRow w.heap.size 195 1 (.slice A (aR 18446744073709551616 (bk 18446744073709551616 xs * 2 ^ m)).length c) (aR 18446744073709551616 (bk 18446744073709551616 xs * 2 ^ m)).length (cj (aR 18446744073709551616 (bk 18446744073709551616 xs * 2 ^ m))) ∧ Below w.heap.size w w' := by
 have hl := hx.1
 rw [aO] at hl
 have hh := Hp.start w
 have hs1 : ((m : Int) % 64).toNat = m % 64 := by omega
 refine al (N := 55) (l := [.slice A n c, .int .i64 (m : Int)]) Tryz.func240 rfl rfl (by simp) ?_
 refine sr (aL (ah (sr (mL (a0 (mI ?_))))))
 refine gR rfl rfl (by omega) (by omega) (by omega) (by decide) ?_
 refine bJ ?_
 refine bJ ?_
 refine fv (n := n + m / 64 + 1) hh rfl rfl (by omega) (by omega) aG.out aD.out rfl (by omega) (by omega) (by decide) ?_
 intro b15 w15 hh
 refine aL (ah (aj (sr (mL (a0 (mI (ah (ar ?_))))))))
 rw [jW] at hh
 refine bA [6, 7, 8, 18, 19, 20, 21, 22, 23, 24, 25, 26, 27, 28, 29, 30, 31, 32, 33, 34, 35, 36, 37, 38, 39, 40, 41, 42, 43, 44, 45, 46, 47, 48, 49, 50, 51, 52] 18
  (fun v w' => ∃ i : Nat, i ≤ n ∧ v = .int .i64 i ∧ Hp w [.row (some ⟨b15, 0, none⟩) (n + m / 64 + 1) (n + m / 64 + 1) 195 1 (cj (bD 18446744073709551616 (n + m / 64 + 1) (bk 18446744073709551616 (xs.take i) * 2 ^ m)))] w')
  (fun v _ => n - (intOf v).toNat) ?_ ?_
 ·exact ⟨0, Nat.zero_le _, rfl, by rw [List.take_zero, bk, Nat.zero_mul, la]; exact hh⟩
 ·clear hh
  rintro ρ' v w' ⟨i, hi, rfl, hh⟩
  by_cases hlt : i < n
  ·obtain ⟨d, hdi⟩ := aH (l := xs) (k := i) (by omega)
   obtain ⟨ad, rfl, hr⟩ := hx.at_ (by omega)
   have hd2 := dq hdi
   have hdw := hd.at_ hdi
   have hD := fp (hd.take i)
   rw [List.length_take, Nat.min_eq_left (by omega)] at hD
   obtain ⟨s1, s2, s3, s4, s5, s6⟩ := wx (k := n + m / 64 + 1) (n := m) (bk 18446744073709551616 (xs.take i)) hD hdw (by omega)
   have hg := dq (fA (B := 18446744073709551616) (n + m / 64 + 1) (bk 18446744073709551616 (xs.take i) * 2 ^ m) (i + m / 64) (by omega))
   refine sr ?_
   refine aV (ah (aj (cT (ao (ak (aj (ar (sr (mI ?_)))))))))
   refine aY aG.out aD.size rfl rfl rfl (by omega) (by decide) ?_
   refine bE aD.out rfl ((hr.ext hh.below).lV (by assumption)) (by decide) ?_
   refine aI (aI (ah (sr (mI (mI ?_)))))
   refine gR rfl rfl (by omega) (by omega) (by omega) (by decide) ?_
   refine bJ (aI (ah (aj ?_)))
   refine a4 8 [[(5, none)], [(8, none)], [(27, some 0), (28, some 1)], [(29, some 2)], [(7, none)], [(1, none)], [(32, some 5)], [(31, some 4), (33, some 6)]] [(7, 34), (6, 33), (5, 32), (4, 31), (3, 30), (2, 29), (1, 28), (0, 27)] hh mixed (by kernel_rfl) ?_
   refine gE ?_
   refine eG ?_
   refine y2 (i + m / 64) ?_
   refine bm (i := 3) (fun ρ1 w1 hj hR => gI aD.out (show ρ1 29 = Value.pointer _ from hR.1) (hj.hp.cd (i := 0) rfl (by rw [Nat.mul_one]; exact hg))) ?_
   refine eG ?_
   refine eG ?_
   refine bm (i := 6) (fun ρ1 w1 hj hR => kY (show ρ1 32 = Value.int _ _ from hR.1) rfl (by omega) (by omega)) ?_
   refine bm (i := 7) (fun ρ1 w1 hj hR => oT (show ρ1 31 = Value.int _ _ from hR.1) (show ρ1 33 = Value.int _ _ from hR.2.1) (by omega)) ?_
   refine bp ?_
   intro f W hJ hV
   have hb_6 := hJ.bl
   obtain ⟨v34, v33, v32, v31, v30, v29, v28, v27, _⟩ := hV
   replace hh := hJ.hp
   refine a6 (bu (ai v34 (ai v33 (ai v32 (ai v31 (ai v30 (ai v29 (ai v28 (ai v27 a5))))))))) ?_
   dsimp only [cC]
   clear hJ
   refine s8 rfl rfl (by first | assumption | omega) (by first | assumption | omega) (by decide) ?_
   refine bg (k := i + m / 64) aG.out aD.size rfl rfl (by omega) (by omega) (by decide) ?_
   refine bo hh (i := 0) (vs := [_]) rfl rfl (bB rfl) rfl aD.out rfl (by rw [aO, aK]; omega) rfl ?_
   intro ws hh
   simp only [List.set_cons_zero] at hh
   rw [hs1, s2, rF s1, ← s2, Nat.mul_one, bR (by rw [aO, aK]; omega), eA, s3] at hh
   by_cases h0 : m % 64 = 0
   ·refine ah (sr (mI ?_))
    refine iT rfl rfl (by omega) (by omega) (by decide) ?_
    refine cb (ah (cF (ao (aW (ak (aw ?_))))))
    refine bJ (mI (aE (ak ?_)))
    rw [s6 h0, ← en hdi] at hh
    refine ⟨⟨i + 1, by omega, rfl, hh⟩, by show n - (i + 1) < n - i; omega, ?_⟩
    (repeat (first | exact az _ _ _ | refine aC rfl ?_ | refine ay rfl ?_))
   ·have hg2 := dq (fA (B := 18446744073709551616) (n + m / 64 + 1) (bk 18446744073709551616 (xs.take i) * 2 ^ m + 18446744073709551616 ^ (i + m / 64) * (d * 2 ^ (m % 64) % 18446744073709551616)) (i + m / 64 + 1) (by omega))
    rw [s4] at hg2
    have hs2 : (64 - (m : Int) % 64).toNat = 64 - m % 64 := by omega
    have hd64 : d / 2 ^ (64 - (m : Int) % 64).toNat < 18446744073709551616 := Nat.lt_of_le_of_lt (Nat.div_le_self _ _) hdw
    have h0w : (0 : Nat) < 18446744073709551616 := by omega
    refine ah (sr (mI ?_))
    refine iT rfl rfl (by omega) (by omega) (by decide) ?_
    refine cb (ah (cT ?_))
    refine a4 10 [[(5, none)], [(8, none)], [(41, some 1)], [(40, some 0), (42, some 2)], [(43, some 3)], [(7, none)], [(1, none)], [(46, some 6)], [(47, some 7)], [(45, some 5), (48, some 8)]] [(9, 49), (8, 48), (7, 47), (6, 46), (5, 45), (4, 44), (3, 43), (2, 42), (1, 41), (0, 40)] hh mixed (by kernel_rfl) ?_
    refine gE ?_
    refine eG ?_
    refine xS ?_
    refine y2 (i + m / 64 + 1) ?_
    refine bm (i := 4) (fun ρ1 w1 hj hR => gI aD.out (show ρ1 43 = Value.pointer _ from hR.1) (hj.hp.cd (i := 0) rfl (by rw [Nat.mul_one]; exact hg2))) ?_
    refine eG ?_
    refine eG ?_
    refine bm (i := 7) (fun ρ1 w1 hj hR => kY (show ρ1 46 = Value.int _ _ from hR.1) rfl (by omega) (by omega)) ?_
    refine nv ?_
    refine bm (i := 9) (fun ρ1 w1 hj hR => rp (show ρ1 45 = Value.int _ _ from hR.1) (show ρ1 48 = Value.int _ _ from hR.2.1) (by omega)) ?_
    refine bp ?_
    intro f W hJ hV
    have hb_8 := hJ.bl
    obtain ⟨v49, v48, v47, v46, v45, v44, v43, v42, v41, v40, _⟩ := hV
    replace hh := hJ.hp
    refine a6 (bu (ai v49 (ai v48 (ai v47 (ai v46 (ai v45 (ai v44 (ai v43 (ai v42 (ai v41 (ai v40 a5))))))))))) ?_
    dsimp only [cC]
    clear hJ
    refine s8 rfl rfl (by first | assumption | omega) (by first | assumption | omega) (by decide) ?_
    refine bg (k := i + m / 64 + 1) aG.out aD.size rfl rfl (by omega) (by omega) (by decide) ?_
    refine bo hh (i := 0) (vs := [_]) rfl rfl (bB rfl) rfl aD.out rfl (by rw [aO, aK]; omega) rfl ?_
    intro ws hh
    simp only [List.set_cons_zero] at hh
    rw [hs2, Nat.zero_or, Nat.mul_one, bR (by rw [aO, aK]; omega), eA, s5, ← en hdi] at hh
    refine aE (aW (ak (aw ?_)))
    refine bJ (mI (aE (ak ?_)))
    refine ⟨⟨i + 1, by omega, rfl, hh⟩, by show n - (i + 1) < n - i; omega, ?_⟩
    (repeat (first | exact az _ _ _ | refine aC rfl ?_ | refine ay rfl ?_))
  ·refine sr ?_
   refine aV (ah (aj (cF ?_)))
   refine aX ?_
   refine aA (aA (bj (ak (sr (mL ?_)))))
   rw [List.take_of_length_le (by omega)] at hh
   refine bC hh (fe _ _ _ (bD 18446744073709551616 (n + m / 64 + 1) (bk 18446744073709551616 xs * 2 ^ m)) _ (hh.aM (i := 0) rfl) (Nat.le_refl _) (by omega)) rfl ?_
   intro w54 hh
   refine aL (ah (aq ?_))
   refine cf ?_
   have hbd : bk 18446744073709551616 xs * 2 ^ m < 18446744073709551616 ^ (n + m / 64 + 1) := by
    have h1 := fp hd
    rw [show xs.length = n by omega] at h1
    have h2 : 2 ^ m ≤ 18446744073709551616 ^ (m / 64 + 1) := by
     rw [show (18446744073709551616 : Nat) = 2 ^ 64 from rfl, ← Nat.pow_mul]
     exact Nat.pow_le_pow_right (by omega) (by omega)
    rw [show n + m / 64 + 1 = n + (m / 64 + 1) by omega, Nat.pow_add]
    exact Nat.lt_of_lt_of_le (Nat.mul_lt_mul_of_pos_right h1 (Nat.pow_pos (by omega))) (Nat.mul_le_mul_left _ h2)
   have hd : cX (bD 18446744073709551616 (n + m / 64 + 1) (bk 18446744073709551616 xs * 2 ^ m)) = aR 18446744073709551616 (bk 18446744073709551616 xs * 2 ^ m) := by
    rw [ek (by omega) (dW (by omega) _ _), bU hbd]
   have h1 := (Hp.tn (xs := bD 18446744073709551616 (n + m / 64 + 1) (bk 18446744073709551616 xs * 2 ^ m)) hh (aK _ _)).at_ (i := 0) rfl
   rw [hd] at h1
   rw [hd]
   exact ⟨_, _, rfl, h1, hh.below⟩
end Go.Proofs.YtkgdagjklakajaaGreatDoor
namespace Go.Proofs.YtkgdagjklakajaaGreatDoor
open Go.RowKit
theorem Sl.yA {w : World} {ad : Addr} {n : Nat} {xs : List Nat} (h : Sl w (some ad) n 1 (cj xs)) {k : Nat} (hk : k < n) : Sl w (some (ad.add (k * 1))) (n - k) 1 (cj (xs.drop k)) := by
 have hl := h.1
 rw [aO] at hl
 refine ⟨by rw [aO, List.length_drop]; omega, fun h0 => ⟨_, rfl, ?_⟩⟩
 obtain ⟨ad', he, hr⟩ := h.2 (by omega)
 injection he with he
 subst he
 rw [Nat.mul_one, nH]
 exact hr.drop k
theorem uH {N j s : Nat} (hs : s < 64) (h0 : 0 < s) :
  (N / 18446744073709551616 ^ (j + 1) % 18446744073709551616) * 2 ^ (64 - s) % 18446744073709551616 = N / 18446744073709551616 ^ (j + 1) % 2 ^ s * 2 ^ (64 - s) ∧
  (N / 18446744073709551616 ^ j % 18446744073709551616 / 2 ^ s ||| (N / 18446744073709551616 ^ (j + 1) % 18446744073709551616) * 2 ^ (64 - s) % 18446744073709551616) = N / 2 ^ (64 * j + s) % 18446744073709551616 := by
 have hW : (18446744073709551616 : Nat) = 2 ^ 64 := by decide
 have e : (18446744073709551616 : Nat) = 2 ^ s * 2 ^ (64 - s) := by rw [← Nat.pow_add, hW]; congr 1; omega
 have h1 : (N / 18446744073709551616 ^ (j + 1) % 18446744073709551616) * 2 ^ (64 - s) % 18446744073709551616 = N / 18446744073709551616 ^ (j + 1) % 2 ^ s * 2 ^ (64 - s) := by
  generalize N / 18446744073709551616 ^ (j + 1) = m
  rw [e, Nat.mul_mod_mul_right, Nat.mod_mul_right_mod]
 obtain ⟨h2, h3⟩ := nX N j s hs h0
 exact ⟨h1, by rw [h1, rF h2, h3]⟩
theorem pO (A : Option Addr) (n c m : Nat) (xs : List Nat) (w : World) (hx : Sl w A n 1 (cj xs)) (hd : Dg 18446744073709551616 xs) (hc : n ≤ c) (hn : n ≤ 1000000000) (hm : m ≤ 1000000000000) :
  Calls Tryz.prog 241 #[.slice A n c, .int .i64 (m : Int)] w fun e w' => ∃ A c, e = .returned (.slice A (aR 18446744073709551616 (bk 18446744073709551616 xs / 2 ^ m)).length c) ∧ w'.ownsRow w.heap.size 195 1 (.slice A (aR 18446744073709551616 (bk 18446744073709551616 xs / 2 ^ m)).length c) (aR 18446744073709551616 (bk 18446744073709551616 xs / 2 ^ m)).length (cj (aR 18446744073709551616 (bk 18446744073709551616 xs / 2 ^ m))) ∧ Below w.heap.size w w' := by
 have hl := hx.1
 rw [aO] at hl
 have hh := Hp.start w
 have hs1 : ((m : Int) % 64).toNat = m % 64 := by omega
 have hW : (18446744073709551616 : Nat) = 2 ^ 64 := by decide
 have hmm : 2 ^ m = 18446744073709551616 ^ (m / 64) * 2 ^ (m % 64) := by
  rw [hW, ← Nat.pow_mul, ← Nat.pow_add]; congr 1; omega
 have hlt := fp hd
 rw [show xs.length = n by omega] at hlt
 by_cases hbig : n ≤ m / 64
 ·have h0 : bk 18446744073709551616 xs / 2 ^ m = 0 := by
   apply Nat.div_eq_of_lt
   refine Nat.lt_of_lt_of_le hlt (Nat.le_trans (Nat.pow_le_pow_right (by decide) hbig) ?_)
   rw [hmm]
   exact Nat.le_mul_of_pos_right _ (Nat.pow_pos (by omega))
  refine al (N := 61) (l := [.slice A n c, .int .i64 (m : Int)]) Tryz.func241 rfl rfl (by simp) ?_
  refine sr (aL (ah (aj (sr (mI ?_)))))
  refine gR rfl rfl (by omega) (by omega) (by omega) (by decide) ?_
  refine mL (a0 ?_)
  refine dh (ah (cT (sr (aL (ah (aq (aJ ?_)))))))
  refine cf ?_
  rw [h0, eE (by omega)]
  exact ⟨none, 0, rfl, World.ownsRow_nil _ _ _ _, hh.below⟩
 ·obtain ⟨ad, rfl, hr⟩ := hx.at_ (by omega)
  have hsd := hx.yA (k := m / 64) (by omega)
  have hget : ∀ j, j < n → xs[j]? = some (bk 18446744073709551616 xs / 18446744073709551616 ^ j % 18446744073709551616) := fun j hj => by
   obtain ⟨d, hdj⟩ := aH (l := xs) (k := j) (by omega)
   rw [hdj, lO hd hdj]
  refine al (N := 61) (l := [.slice (some ad) n c, .int .i64 (m : Int)]) Tryz.func241 rfl rfl (by simp) ?_
  refine sr (aL (ah (aj (sr (mI ?_)))))
  refine gR rfl rfl (by omega) (by omega) (by omega) (by decide) ?_
  refine mL (a0 ?_)
  refine dh (ah (cF (ao (ak (sr (mL (mI ?_)))))))
  refine gR rfl rfl (by omega) (by omega) (by omega) (by decide) ?_
  first | refine mO (l := m / 64) aG.out aD.size rfl rfl (by omega) (by omega) (by omega) (by omega) (by decide) ?_ | refine lG (l := m / 64) aG.out aD.size rfl rfl (by omega) (by omega) (by omega) (by omega) (by decide) ?_
  refine aN (jA _ _ _ 0 _ _ hsd (by omega) (by omega)) au.out rfl (by decide) ?_
  rintro e_ w_ ⟨b16, rfl, hown_, hb_⟩
  refine ⟨_, rfl, ?_⟩
  replace hh := hh.a7 (x := .row _ _ _ _ _ _) hb_ hown_
  rw [Nat.zero_max, Nat.sub_self, List.replicate_zero, List.append_nil] at hh
  rw [Nat.zero_max]
  refine aL (ah (aj (sr (mL (a0 (mI (ah (ar ?_))))))))
  refine bA [6, 19, 20, 21, 22, 23, 24, 25, 26, 27, 28, 29, 30, 31, 32, 33, 34, 35, 36, 37, 38, 39, 40, 41, 42, 43, 44, 45, 46, 47, 48, 49, 50, 51, 52, 53, 54, 55, 56, 57, 58] 19
   (fun v w' => ∃ i : Nat, i ≤ n - m / 64 ∧ v = .int .i64 i ∧ Hp w [.row (some ⟨b16, 0, none⟩) (n - m / 64) (n - m / 64) 195 1 (cj (bD 18446744073709551616 i (bk 18446744073709551616 xs / 2 ^ m) ++ xs.drop (m / 64 + i)))] w')
   (fun v _ => (n - m / 64) - (intOf v).toNat) ?_ ?_
  ·exact ⟨0, Nat.zero_le _, rfl, hh⟩
  ·clear hh
   rintro ρ' v w' ⟨i, hi, rfl, hh⟩
   by_cases hlt2 : i < n - m / 64
   ·have hgi := hget (m / 64 + i) (by omega)
    have hdr : xs.drop (m / 64 + i) = (bk 18446744073709551616 xs / 18446744073709551616 ^ (m / 64 + i) % 18446744073709551616) :: xs.drop (m / 64 + i + 1) := by
     rw [List.drop_eq_getElem_cons (by omega)]
     congr 1
     have := List.getElem?_eq_some_iff.1 hgi
     exact this.2
    have hcell : (bD 18446744073709551616 i (bk 18446744073709551616 xs / 2 ^ m) ++ xs.drop (m / 64 + i))[i]? = some (bk 18446744073709551616 xs / 18446744073709551616 ^ (m / 64 + i) % 18446744073709551616) := by
     rw [List.getElem?_append_right (by rw [aK]; omega), aK, hdr]; simp
    have hg := dq hcell
    have hset : ∀ y, (bD 18446744073709551616 i (bk 18446744073709551616 xs / 2 ^ m) ++ xs.drop (m / 64 + i)).set i y = bD 18446744073709551616 i (bk 18446744073709551616 xs / 2 ^ m) ++ y :: xs.drop (m / 64 + i + 1) := fun y => by
     rw [hdr, List.set_append_right _ _ (by rw [aK]; omega), aK, Nat.sub_self, List.set_cons_zero]
    have hll : (bD 18446744073709551616 i (bk 18446744073709551616 xs / 2 ^ m) ++ xs.drop (m / 64 + i)).length = n - m / 64 := by rw [List.length_append, aK, List.length_drop]; omega
    have hac : ∀ y, bD 18446744073709551616 i (bk 18446744073709551616 xs / 2 ^ m) ++ y :: xs.drop (m / 64 + i + 1) = (bD 18446744073709551616 i (bk 18446744073709551616 xs / 2 ^ m) ++ [y]) ++ xs.drop (m / 64 + (i + 1)) := fun y => List.append_cons _ _ _
    have hnew : bD 18446744073709551616 (i + 1) (bk 18446744073709551616 xs / 2 ^ m) = bD 18446744073709551616 i (bk 18446744073709551616 xs / 2 ^ m) ++ [bk 18446744073709551616 xs / 2 ^ (64 * (m / 64 + i) + m % 64) % 18446744073709551616] := by
     rw [gY, Nat.div_div_eq_div_mul]
     congr 4
     rw [hW, ← Nat.pow_mul, ← Nat.pow_add]; congr 1; omega
    refine sr ?_
    refine aV (ah (aj (cT (ao (ak (aj (ar (sr (mI (aI (ah ?_)))))))))))
    refine sr (mL (mI ?_))
    refine bg (k := i) aG.out aD.size rfl rfl (by omega) (by omega) (by decide) ?_
    refine bE aD.out rfl (hh.cd (i := 0) rfl (by first | assumption | (simp only [Nat.mul_one]; assumption))) (by decide) ?_
    refine mI ?_
    refine iT rfl rfl (by omega) (by omega) (by decide) ?_
    refine sm rfl rfl (by omega) (by decide) ?_
    refine bg (k := i) aG.out aD.size rfl rfl (by omega) (by omega) (by decide) ?_
    refine bo hh (i := 0) (vs := [_]) rfl rfl (bB rfl) rfl aD.out rfl (by rw [aO, hll]; omega) rfl ?_
    intro ws hh
    simp only [List.set_cons_zero] at hh
    rw [hs1, Nat.mul_one, bR (by rw [aO, hll]; omega), eA, hset] at hh
    by_cases h0 : m % 64 = 0
    ·have e1 : bk 18446744073709551616 xs / 18446744073709551616 ^ (m / 64 + i) % 18446744073709551616 / 2 ^ (m % 64) = bk 18446744073709551616 xs / 2 ^ (64 * (m / 64 + i) + m % 64) % 18446744073709551616 := by
      rw [h0, Nat.pow_zero, Nat.div_one, Nat.add_zero, Nat.pow_mul, ← hW]
     by_cases hl : i + 1 < n - m / 64
     ·refine ah (sr (mI ?_))
      refine bJ (mL (a0 ?_))
      refine aV (mB ?_)
      first | refine gS ?_ | (refine gT ?_; refine mI ?_) | refine gV ?_
      first | refine gS ?_ | (refine gT ?_; refine iT rfl rfl (by omega) (by omega) (by decide) ?_) | refine gV ?_
      first | refine gS ?_ | (refine gT ?_; refine cb ?_) | refine gV ?_
      first | refine cU ?_ | refine cV ?_
      refine ah (cF (ao (aW (ak (aw ?_)))))
      refine bJ (mI (aE (ak ?_)))
      rw [e1, hac, ← hnew] at hh
      refine ⟨⟨i + 1, by omega, rfl, hh⟩, by show (n - m / 64) - (i + 1) < (n - m / 64) - i; omega, ?_⟩
      (repeat (first | exact az _ _ _ | refine aC rfl ?_ | refine ay rfl ?_))
     ·refine ah (sr (mI ?_))
      refine bJ (mL (a0 ?_))
      refine aV (mB ?_)
      first | refine gS ?_ | (refine gT ?_; refine mI ?_) | refine gV ?_
      first | refine gS ?_ | (refine gT ?_; refine iT rfl rfl (by omega) (by omega) (by decide) ?_) | refine gV ?_
      first | refine gS ?_ | (refine gT ?_; refine cb ?_) | refine gV ?_
      first | refine cU ?_ | refine cV ?_
      refine ah (cF (ao (aW (ak (aw ?_)))))
      refine bJ (mI (aE (ak ?_)))
      rw [e1, hac, ← hnew] at hh
      refine ⟨⟨i + 1, by omega, rfl, hh⟩, by show (n - m / 64) - (i + 1) < (n - m / 64) - i; omega, ?_⟩
      (repeat (first | exact az _ _ _ | refine aC rfl ?_ | refine ay rfl ?_))
    ·by_cases hl : i + 1 < n - m / 64
     ·have hgj := hget (m / 64 + i + 1) (by omega)
      have hgj2 := dq hgj
      obtain ⟨d1, d2⟩ := uH (N := bk 18446744073709551616 xs) (j := m / 64 + i) (s := m % 64) (Nat.mod_lt _ (by omega)) (by omega)
      have hcell2 : (bD 18446744073709551616 i (bk 18446744073709551616 xs / 2 ^ m) ++ (bk 18446744073709551616 xs / 18446744073709551616 ^ (m / 64 + i) % 18446744073709551616 / 2 ^ (m % 64)) :: xs.drop (m / 64 + i + 1))[i]? = some (bk 18446744073709551616 xs / 18446744073709551616 ^ (m / 64 + i) % 18446744073709551616 / 2 ^ (m % 64)) := by
       rw [List.getElem?_append_right (by rw [aK]; omega), aK]; simp
      have hg2 := dq hcell2
      have hset2 : ∀ y z, (bD 18446744073709551616 i (bk 18446744073709551616 xs / 2 ^ m) ++ y :: xs.drop (m / 64 + i + 1)).set i z = bD 18446744073709551616 i (bk 18446744073709551616 xs / 2 ^ m) ++ z :: xs.drop (m / 64 + i + 1) := fun y z => by
       rw [List.set_append_right _ _ (by rw [aK]; omega), aK, Nat.sub_self, List.set_cons_zero]
      have hll2 : ∀ y, (bD 18446744073709551616 i (bk 18446744073709551616 xs / 2 ^ m) ++ y :: xs.drop (m / 64 + i + 1)).length = n - m / 64 := fun y => by rw [List.length_append, aK, List.length_cons, List.length_drop]; omega
      have hs2 : (64 - (m : Int) % 64).toNat = 64 - m % 64 := by omega
      have b1 : bk 18446744073709551616 xs / 18446744073709551616 ^ (m / 64 + i) % 18446744073709551616 / 2 ^ (m % 64) < 18446744073709551616 := Nat.lt_of_le_of_lt (Nat.div_le_self _ _) (Nat.mod_lt _ (by omega))
      have b2 : bk 18446744073709551616 xs / 18446744073709551616 ^ (m / 64 + i + 1) % 18446744073709551616 * 2 ^ (64 - (m : Int) % 64).toNat % 18446744073709551616 < 18446744073709551616 := Nat.mod_lt _ (by omega)
      refine ah (sr (mI ?_))
      refine bJ (mL (a0 ?_))
      refine aV (mB ?_)
      first | refine gS ?_ | (refine gT ?_; refine mI ?_) | refine gV ?_
      first | refine gS ?_ | (refine gT ?_; refine iT rfl rfl (by omega) (by omega) (by decide) ?_) | refine gV ?_
      first | refine gS ?_ | (refine gT ?_; refine cb ?_) | refine gV ?_
      first | refine cU ?_ | refine cV ?_
      refine ah (cT ?_)
      refine a4 16 [[(5, none)], [(6, none)], [(40, some 0), (41, some 1)], [(42, some 2)], [(0, none)], [(1, none)], [(45, some 5)], [(6, none)], [(46, some 6), (47, some 7)], [(48, some 8)], [(44, some 4), (49, some 9)], [(50, some 10)], [(1, none)], [(52, some 12)], [(53, some 13)], [(51, some 11), (54, some 14)]] [(15, 55), (14, 54), (13, 53), (12, 52), (11, 51), (10, 50), (9, 49), (8, 48), (7, 47), (6, 46), (5, 45), (4, 44), (3, 43), (2, 42), (1, 41), (0, 40)] hh mixed (by kernel_rfl) ?_
      refine gE ?_
      refine eG ?_
      refine y2 (i) ?_
      refine bm (i := 3) (fun ρ1 w1 hj hR => gI aD.out (show ρ1 42 = Value.pointer _ from hR.1) (hj.hp.cd (i := 0) rfl (by rw [Nat.mul_one]; exact hg2))) ?_
      refine gE ?_
      refine eG ?_
      refine bm (i := 6) (fun ρ1 w1 hj hR => o6 (show ρ1 45 = Value.int _ _ from hR.1) rfl (by omega) (by omega) (by omega)) ?_
      refine eG ?_
      refine xS ?_
      refine xS ?_
      refine jV (m / 64 + i + 1) ?_
      refine kJ (fun _ hj => (hr.ext hj.hp.below).lV hgj2) ?_
      refine eG ?_
      refine bm (i := 13) (fun ρ1 w1 hj hR => kY (show ρ1 52 = Value.int _ _ from hR.1) rfl (by omega) (by omega)) ?_
      refine nv ?_
      refine bm (i := 15) (fun ρ1 w1 hj hR => oT (show ρ1 51 = Value.int _ _ from hR.1) (show ρ1 54 = Value.int _ _ from hR.2.1) (by omega)) ?_
      refine bp ?_
      intro f W hJ hV
      have hb_9 := hJ.bl
      obtain ⟨v55, v54, v53, v52, v51, v50, v49, v48, v47, v46, v45, v44, v43, v42, v41, v40, _⟩ := hV
      replace hh := hJ.hp
      refine a6 (bu (ai v55 (ai v54 (ai v53 (ai v52 (ai v51 (ai v50 (ai v49 (ai v48 (ai v47 (ai v46 (ai v45 (ai v44 (ai v43 (ai v42 (ai v41 (ai v40 a5))))))))))))))))) ?_
      dsimp only [cC]
      clear hJ
      refine s8 rfl rfl (by first | assumption | omega) (by first | assumption | omega) (by decide) ?_
      refine bg (k := i) aG.out aD.size rfl rfl (by omega) (by omega) (by decide) ?_
      refine bo hh (i := 0) (vs := [_]) rfl rfl (bB rfl) rfl aD.out rfl (by rw [aO, hll2]; omega) rfl ?_
      intro ws hh
      simp only [List.set_cons_zero] at hh
      rw [hs2, d2, Nat.mul_one, bR (by rw [aO, hll2]; omega), eA, hset2, hac, ← hnew] at hh
      refine aE (aW (ak (aw ?_)))
      refine bJ (mI (aE (ak ?_)))
      refine ⟨⟨i + 1, by omega, rfl, hh⟩, by show (n - m / 64) - (i + 1) < (n - m / 64) - i; omega, ?_⟩
      (repeat (first | exact az _ _ _ | refine aC rfl ?_ | refine ay rfl ?_))
     ·have e1 : bk 18446744073709551616 xs / 18446744073709551616 ^ (m / 64 + i) % 18446744073709551616 / 2 ^ (m % 64) = bk 18446744073709551616 xs / 2 ^ (64 * (m / 64 + i) + m % 64) % 18446744073709551616 := by
       obtain ⟨h2, h3⟩ := nX (bk 18446744073709551616 xs) (m / 64 + i) (m % 64) (Nat.mod_lt _ (by omega)) (by omega)
       have h4 : bk 18446744073709551616 xs / 18446744073709551616 ^ (m / 64 + i + 1) = 0 := Nat.div_eq_of_lt (Nat.lt_of_lt_of_le hlt (Nat.pow_le_pow_right (by decide) (by omega)))
       rw [h4] at h3
       simpa using h3
      refine ah (sr (mI ?_))
      refine bJ (mL (a0 ?_))
      refine aV (mB ?_)
      first | refine gS ?_ | (refine gT ?_; refine mI ?_) | refine gV ?_
      first | refine gS ?_ | (refine gT ?_; refine iT rfl rfl (by omega) (by omega) (by decide) ?_) | refine gV ?_
      first | refine gS ?_ | (refine gT ?_; refine cb ?_) | refine gV ?_
      first | refine cU ?_ | refine cV ?_
      refine ah (cF (ao (aW (ak (aw ?_)))))
      refine bJ (mI (aE (ak ?_)))
      rw [e1, hac, ← hnew] at hh
      refine ⟨⟨i + 1, by omega, rfl, hh⟩, by show (n - m / 64) - (i + 1) < (n - m / 64) - i; omega, ?_⟩
      (repeat (first | exact az _ _ _ | refine aC rfl ?_ | refine ay rfl ?_))
   ·obtain rfl : i = n - m / 64 := by omega
    rw [List.drop_eq_nil_of_le (by omega), List.append_nil] at hh
    refine sr ?_
    refine aV (ah (aj (cF ?_)))
    refine aX ?_
    refine aA (aA (bj (ak (sr (mL ?_)))))
    refine bC hh (fe _ _ _ (bD 18446744073709551616 (n - m / 64) (bk 18446744073709551616 xs / 2 ^ m)) _ (hh.aM (i := 0) rfl) (Nat.le_refl _) (by omega)) rfl ?_
    intro w60 hh
    refine aL (ah (aq ?_))
    refine cf ?_
    have hbd : bk 18446744073709551616 xs / 2 ^ m < 18446744073709551616 ^ (n - m / 64) := by
     rw [Nat.div_lt_iff_lt_mul (Nat.pow_pos (by omega)), hmm, ← Nat.mul_assoc, ← Nat.pow_add, show n - m / 64 + m / 64 = n by omega]
     exact Nat.lt_of_lt_of_le hlt (Nat.le_mul_of_pos_right _ (Nat.pow_pos (by omega)))
    have hd : cX (bD 18446744073709551616 (n - m / 64) (bk 18446744073709551616 xs / 2 ^ m)) = aR 18446744073709551616 (bk 18446744073709551616 xs / 2 ^ m) := by
     rw [ek (by omega) (dW (by omega) _ _), bU hbd]
    have h1 := (Hp.tn (xs := bD 18446744073709551616 (n - m / 64) (bk 18446744073709551616 xs / 2 ^ m)) hh (aK _ _)).at_ (i := 0) rfl
    rw [hd] at h1
    rw [hd]
    exact ⟨_, _, rfl, h1, hh.below⟩
end Go.Proofs.YtkgdagjklakajaaGreatDoor
namespace Go.Proofs.YtkgdagjklakajaaGreatDoor
open Go.RowKit
def bN (a : ByteArray) : Nat := bn a.data.toList
def sN (n : Nat) : ByteArray := str (sb n)
theorem dP (n : Nat) : bN (sN n) = n := by rw [bN, sN, cv, y8]
theorem gP (n : Nat) : (sN n).size = (br n + 7) / 8 := by rw [sN, gd, uu, rC]
theorem se {a b : Nat} (h : sN a = sN b) : a = b := by rw [← dP a, h, dP]
theorem fO : sN 0 = ByteArray.mk #[] := by rw [sN, wW]; rfl
theorem nZ (a : ByteArray) : bN a < 256 ^ a.size := by rw [dE]; exact x5 _
theorem eT (a : ByteArray) : br (bN a) ≤ 8 * a.size := by
 apply cJ
 have := nZ a
 rwa [show (256 : Nat) = 2 ^ 8 from rfl, ← Nat.pow_mul] at this
theorem uC {n k : Nat} (h : n < 256 ^ k) : (aR 18446744073709551616 n).length ≤ (k + 7) / 8 := by
 apply fc (by omega)
 refine Nat.lt_of_lt_of_le h ?_
 rw [show (256 : Nat) = 2 ^ 8 from rfl, show (18446744073709551616 : Nat) = 2 ^ 64 from rfl, ← Nat.pow_mul, ← Nat.pow_mul]
 exact Nat.pow_le_pow_right (by omega) (by omega)
theorem ew (a : ByteArray) : (aR 18446744073709551616 (bN a)).length ≤ (a.size + 7) / 8 := uC (nZ a)
theorem eP (n : Nat) : Dg 18446744073709551616 (aR 18446744073709551616 n) := (cP (by omega) n).1
theorem eJ (n : Nat) : bk 18446744073709551616 (aR 18446744073709551616 n) = n := da (by omega) n
theorem cG (a : ByteArray) (w : World) (ha : a.size ≤ 1000000000) :
  Calls Tryz.prog 220 #[.string a] w fun e w' => ∃ b c, e = .returned (.slice (some ⟨b, 0, none⟩) (aR 18446744073709551616 (bN a)).length c) ∧ w'.ownsRow w.heap.size 195 1 (.slice (some ⟨b, 0, none⟩) (aR 18446744073709551616 (bN a)).length c) (aR 18446744073709551616 (bN a)).length (cj (aR 18446744073709551616 (bN a))) ∧ Below w.heap.size w w' := uj a w (by omega)
theorem lH (n : Nat) (w : World) (hn : n < 18446744073709551616) :
  Calls Tryz.prog 203 #[.int .u64 (n : Int)] w fun e w' => e = .returned (.string (sN n)) ∧ Below w.heap.size w w' := by
 have hh := Hp.start w
 refine al (N := 6) (l := [.int .u64 (n : Int)]) Tryz.func203 rfl rfl (by simp) ?_
 refine sr (aS (ah (sr (mI ?_))))
 refine bf hh (cs := [_]) aG.out aD.out (aZ (bB rfl) bQ) rfl rfl (by decide) (by decide) (by decide) rfl (by decide) ?_
 intro b4 w4 hh
 refine bC hh (e8 _ _ _ [n] _ (hh.aM (i := 0) rfl) (Dg.cons hn Dg.nil) (Nat.le_refl _) (by omega)) rfl ?_
 intro w5 hh
 refine aS (ah (aq ?_))
 refine cf ?_
 refine ⟨?_, hh.below⟩
 rw [sN]
 simp [bk]
theorem o8 (a b : ByteArray) (w : World) (ha : a.size ≤ 1000000000) (hb : b.size ≤ 1000000000) :
  Calls Tryz.prog 245 #[.string a, .string b] w fun e w' => e = .returned (.int .i64 (gX (bN a) (bN b))) ∧ Below w.heap.size w w' := by
 have hh := Hp.start w
 have h1 := ew a
 have h2 := ew b
 refine al (N := 10) (l := [.string a, .string b]) Tryz.func245 rfl rfl (by simp) ?_
 refine sr (aI (ah (sr (mS ?_))))
 refine aN (cG a _ ha) au.out rfl (by decide) ?_
 rintro e_ w6 ⟨A6, c6, rfl, hown_, hb_⟩
 refine ⟨_, rfl, ?_⟩
 replace hh := hh.a7 (x := .row _ _ _ _ _ _) hb_ hown_
 refine mS ?_
 refine aN (cG b _ hb) au.out rfl (by decide) ?_
 rintro e_ w8 ⟨A8, c8, rfl, hown_, hb_⟩
 refine ⟨_, rfl, ?_⟩
 replace hh := hh.a7 (x := .row _ _ _ _ _ _) hb_ hown_
 refine bC hh (jR _ _ _ _ _ _ (aR 18446744073709551616 (bN a)) (aR 18446744073709551616 (bN b)) _ (hh.aM (i := 1) rfl) (hh.aM (i := 0) rfl) (eP _) (eP _) (hh.cW (i := 1) rfl) (hh.cW (i := 0) rfl) (by omega) (by omega)) rfl ?_
 intro w9 hh
 rw [eJ, eJ]
 refine aI (ah (aq ?_))
 refine cf ?_
 exact ⟨rfl, hh.below⟩
theorem ik (a : ByteArray) (w : World) (ha : a.size ≤ 1000000000) :
  Calls Tryz.prog 224 #[.string a] w fun e w' => e = .returned (.int .i64 (br (bN a))) ∧ Below w.heap.size w w' := by
 have hh := Hp.start w
 have h1 := ew a
 refine al (N := 6) (l := [.string a]) Tryz.func224 rfl rfl (by simp) ?_
 refine sr (aI (ah (sr (mS ?_))))
 refine aN (cG a _ ha) au.out rfl (by decide) ?_
 rintro e_ w4 ⟨A4, c4, rfl, hown_, hb_⟩
 refine ⟨_, rfl, ?_⟩
 replace hh := hh.a7 (x := .row _ _ _ _ _ _) hb_ hown_
 refine bC hh (m9 _ _ _ (aR 18446744073709551616 (bN a)) _ (hh.aM (i := 0) rfl) (eP _) (hh.cW (i := 0) rfl) (by omega)) rfl ?_
 intro w5 hh
 rw [eJ]
 refine aI (ah (aq ?_))
 refine cf ?_
 exact ⟨rfl, hh.below⟩
theorem kq (n m : Nat) : br (n * 2 ^ m) ≤ br n + m := by
 apply cJ
 rw [Nat.pow_add]
 exact Nat.mul_lt_mul_of_pos_right (cD n) (Nat.pow_pos (by omega))
theorem mV (n : Nat) : (aR 18446744073709551616 n).length ≤ (br n + 63) / 64 := by
 apply fc (by omega)
 refine Nat.lt_of_lt_of_le (cD n) ?_
 rw [show (18446744073709551616 : Nat) = 2 ^ 64 from rfl, ← Nat.pow_mul]
 exact Nat.pow_le_pow_right (by omega) (by omega)
theorem oS (a : ByteArray) (m : Nat) (w : World) (ha : a.size ≤ 1000000000) (hm : m ≤ 10000000000) :
  Calls Tryz.prog 222 #[.string a, .int .i64 (m : Int)] w fun e w' => e = .returned (.string (sN (bN a * 2 ^ m))) ∧ Below w.heap.size w w' := by
 have hh := Hp.start w
 have h1 := ew a
 have h2 := mV (bN a * 2 ^ m)
 have h3 := kq (bN a) m
 have h4 := eT a
 have e1 : (if (0 : Int) > (m : Int) then 0 else (m : Int)) = m := if_neg (by omega)
 refine al (N := 11) (l := [.string a, .int .i64 (m : Int)]) Tryz.func222 rfl rfl (by simp) ?_
 refine sr (aS (ah (sr (mS ?_))))
 refine aN (cG a _ ha) au.out rfl (by decide) ?_
 rintro e_ w6 ⟨A6, c6, rfl, hown_, hb_⟩
 refine ⟨_, rfl, ?_⟩
 replace hh := hh.a7 (x := .row _ _ _ _ _ _) hb_ hown_
 refine mI ?_
 refine iU rfl rfl (by decide) ?_
 rw [e1]
 refine aN (uJ _ _ _ m (aR 18446744073709551616 (bN a)) _ (hh.aM (i := 0) rfl) (eP _) (by omega) hm) au.out rfl (by decide) ?_
 rintro e_ w9 ⟨A9, c9, rfl, hown_, hb_⟩
 refine ⟨_, rfl, ?_⟩
 replace hh := hh.a7 (x := .row _ _ _ _ _ _) hb_ hown_
 rw [eJ] at *
 refine bC hh (e8 _ _ _ (aR 18446744073709551616 (bN a * 2 ^ m)) _ (hh.aM (i := 0) rfl) (eP _) (hh.cW (i := 0) rfl) (by omega)) rfl ?_
 intro w10 hh
 rw [eJ]
 refine aS (ah (aq ?_))
 refine cf ?_
 exact ⟨rfl, hh.below⟩
theorem kb (n m : Nat) : br (n / 2 ^ m) ≤ br n := by
 apply cJ
 exact Nat.lt_of_le_of_lt (Nat.div_le_self _ _) (cD n)
theorem o5 (a : ByteArray) (m : Nat) (w : World) (ha : a.size ≤ 1000000000) (hm : m ≤ 1000000000000) :
  Calls Tryz.prog 223 #[.string a, .int .i64 (m : Int)] w fun e w' => e = .returned (.string (sN (bN a / 2 ^ m))) ∧ Below w.heap.size w w' := by
 have hh := Hp.start w
 have h1 := ew a
 have h2 := mV (bN a / 2 ^ m)
 have h3 := kb (bN a) m
 have h4 := eT a
 have e1 : (if (0 : Int) > (m : Int) then 0 else (m : Int)) = m := if_neg (by omega)
 refine al (N := 11) (l := [.string a, .int .i64 (m : Int)]) Tryz.func223 rfl rfl (by simp) ?_
 refine sr (aS (ah (sr (mS ?_))))
 refine aN (cG a _ ha) au.out rfl (by decide) ?_
 rintro e_ w6 ⟨A6, c6, rfl, hown_, hb_⟩
 refine ⟨_, rfl, ?_⟩
 replace hh := hh.a7 (x := .row _ _ _ _ _ _) hb_ hown_
 refine mI ?_
 refine iU rfl rfl (by decide) ?_
 rw [e1]
 refine aN (pO _ _ _ m (aR 18446744073709551616 (bN a)) _ (hh.aM (i := 0) rfl) (eP _) (hh.cW (i := 0) rfl) (by omega) hm) au.out rfl (by decide) ?_
 rintro e_ w9 ⟨A9, c9, rfl, hown_, hb_⟩
 refine ⟨_, rfl, ?_⟩
 replace hh := hh.a7 (x := .row _ _ _ _ _ _) hb_ hown_
 rw [eJ] at *
 refine bC hh (e8 _ _ _ (aR 18446744073709551616 (bN a / 2 ^ m)) _ (hh.aM (i := 0) rfl) (eP _) (hh.cW (i := 0) rfl) (by omega)) rfl ?_
 intro w10 hh
 rw [eJ]
 refine aS (ah (aq ?_))
 refine cf ?_
 exact ⟨rfl, hh.below⟩
theorem xn {x y : Nat} (h : y ≤ x) : qN 18446744073709551616 (aR 18446744073709551616 x) (aR 18446744073709551616 y) 0 = 0 ∧ bk 18446744073709551616 (lI 18446744073709551616 (aR 18446744073709551616 x) (aR 18446744073709551616 y) 0) = x - y := by
 have := uS (B := 18446744073709551616) (by omega) (aR 18446744073709551616 x) (aR 18446744073709551616 y) 0 (eP _) (eP _) (by omega) (by rw [eJ, eJ]; omega)
 rw [eJ, eJ] at this
 exact ⟨this.2, by omega⟩
theorem j8 (a b : ByteArray) (w : World) (ha : a.size ≤ 1000000000) (hb : b.size ≤ 1000000000) :
  Calls Tryz.prog 228 #[.string a, .string b] w fun e w' => e = .returned (.tuple #[.string (sN (bN a - bN b)), .bool (decide (bN b ≤ bN a))]) ∧ Below w.heap.size w w' := by
 have hh := Hp.start w
 have h1 := ew a
 have h2 := ew b
 by_cases hlt : bN a < bN b
 ·refine al (N := 21) (l := [.string a, .string b]) Tryz.func228 rfl rfl (by simp) ?_
  refine sr (aS (aB (ah (sr (mS ?_)))))
  refine aN (cG a _ ha) au.out rfl (by decide) ?_
  rintro e_ w9 ⟨A9, c9, rfl, hown_, hb_⟩
  refine ⟨_, rfl, ?_⟩
  replace hh := hh.a7 (x := .row _ _ _ _ _ _) hb_ hown_
  refine mS ?_
  refine aN (cG b _ hb) au.out rfl (by decide) ?_
  rintro e_ w11 ⟨A11, c11, rfl, hown_, hb_⟩
  refine ⟨_, rfl, ?_⟩
  replace hh := hh.a7 (x := .row _ _ _ _ _ _) hb_ hown_
  refine aL (aL (ah (aj (sr (mL (mL ?_))))))
  refine bC hh (jR _ _ _ _ _ _ (aR 18446744073709551616 (bN a)) (aR 18446744073709551616 (bN b)) _ (hh.aM (i := 1) rfl) (hh.aM (i := 0) rfl) (eP _) (eP _) (hh.cW (i := 1) rfl) (hh.cW (i := 0) rfl) (by omega) (by omega)) rfl ?_
  intro w14 hh
  rw [eJ, eJ, iu hlt]
  refine aV (ah (cT (sr (aS (aB (ah (aq (aJ ?_))))))))
  refine tW ?_
  rw [Nat.sub_eq_zero_of_le (by omega), decide_eq_false (by omega), fO]
  exact ⟨rfl, hh.below⟩
 ·obtain ⟨s1, s2⟩ := xn (Nat.le_of_not_lt hlt)
  have hc : ¬ gX (bN a) (bN b) < 0 := by unfold gX; split <;> (try split) <;> omega
  refine al (N := 21) (l := [.string a, .string b]) Tryz.func228 rfl rfl (by simp) ?_
  refine sr (aS (aB (ah (sr (mS ?_)))))
  refine aN (cG a _ ha) au.out rfl (by decide) ?_
  rintro e_ w9 ⟨A9, c9, rfl, hown_, hb_⟩
  refine ⟨_, rfl, ?_⟩
  replace hh := hh.a7 (x := .row _ _ _ _ _ _) hb_ hown_
  refine mS ?_
  refine aN (cG b _ hb) au.out rfl (by decide) ?_
  rintro e_ w11 ⟨A11, c11, rfl, hown_, hb_⟩
  refine ⟨_, rfl, ?_⟩
  replace hh := hh.a7 (x := .row _ _ _ _ _ _) hb_ hown_
  refine aL (aL (ah (aj (sr (mL (mL ?_))))))
  refine bC hh (jR _ _ _ _ _ _ (aR 18446744073709551616 (bN a)) (aR 18446744073709551616 (bN b)) _ (hh.aM (i := 1) rfl) (hh.aM (i := 0) rfl) (eP _) (eP _) (hh.cW (i := 1) rfl) (hh.cW (i := 0) rfl) (by omega) (by omega)) rfl ?_
  intro w14 hh
  rw [eJ, eJ]
  refine aV (ah (cF (ao (ak (sr (mL (mL ?_)))))))
  replace hh := hh.front 1 rfl
  rw [← List.append_nil (aR 18446744073709551616 (bN a)), ← List.nil_append (aR 18446744073709551616 (bN a))] at hh
  have hll := (hh.wU (i := 0) rfl)
  rw [List.nil_append, List.append_nil] at hll
  refine aN (qj [] (aR 18446744073709551616 (bN a)) [] (aR 18446744073709551616 (bN b)) _ hh (fun w1 cs h => h.aM (i := 1) rfl) (eP _) (eP _) (by omega) (by omega) s1) au.out rfl (by decide) ?_
  rintro e_ w_ ⟨rfl, hh⟩
  refine ⟨_, rfl, ?_⟩
  simp only [List.nil_append, List.append_nil] at hh
  refine ah (sr (mL ?_))
  refine bC hh (e8 _ _ _ (lI 18446744073709551616 (aR 18446744073709551616 (bN a)) (aR 18446744073709551616 (bN b)) 0) _ (hh.aM (i := 0) rfl) (wT (by omega) _ _ _) (hh.cW (i := 0) rfl) (by omega)) rfl ?_
  intro w20 hh
  rw [s2]
  refine aS (aB (ah (aq ?_)))
  refine tW ?_
  rw [decide_eq_true (by omega)]
  exact ⟨rfl, hh.below⟩
theorem o4 (a b : ByteArray) (w : World) (ha : a.size ≤ 1000000000) (hb : b.size ≤ 1000000000) :
  Calls Tryz.prog 230 #[.string a, .string b] w fun e w' => e = .returned (.string (sN (bN a * bN b))) ∧ Below w.heap.size w w' := by
 have hh := Hp.start w
 have h1 := ew a
 have h2 := ew b
 refine al (N := 37) (l := [.string a, .string b]) Tryz.func230 rfl rfl (by simp) ?_
 refine sr (aS (ah (sr (mS ?_))))
 refine aN (cG a _ ha) au.out rfl (by decide) ?_
 rintro e_ w11 ⟨A11, c11, rfl, hown_, hb_⟩
 refine ⟨_, rfl, ?_⟩
 replace hh := hh.a7 (x := .row _ _ _ _ _ _) hb_ hown_
 refine mS ?_
 refine aN (cG b _ hb) au.out rfl (by decide) ?_
 rintro e_ w13 ⟨A13, c13, rfl, hown_, hb_⟩
 refine ⟨_, rfl, ?_⟩
 replace hh := hh.a7 (x := .row _ _ _ _ _ _) hb_ hown_
 have hxd := eP (bN a)
 have hyd := eP (bN b)
 have hX := eJ (bN a)
 have hY := eJ (bN b)
 generalize aR 18446744073709551616 (bN a) = xs at *
 generalize aR 18446744073709551616 (bN b) = ys at *
 refine aL (aL (ah (sr (mL (a0 (mL (a0 ?_)))))))
 refine bJ ?_
 refine bJ ?_
 refine fv (n := xs.length + ys.length + 1) hh rfl rfl (by omega) (by omega) aG.out aD.out rfl (by omega) (by omega) (by decide) ?_
 intro b20 w20 hh
 refine aL (ah (aj (sr (mL (a0 (mI (ah (ar ?_))))))))
 rw [jW] at hh
 refine bA [8, 9, 23, 24, 25, 26, 27, 28, 29, 30, 31, 32, 33, 34] 23
  (fun v w' => ∃ (i : Nat) (L : List Nat), i ≤ xs.length ∧ v = .int .i64 i ∧ Dg 18446744073709551616 L ∧ L.length = xs.length + ys.length + 1 ∧ bk 18446744073709551616 L = bk 18446744073709551616 (xs.take i) * bk 18446744073709551616 ys ∧ Hp w [.row (some ⟨b20, 0, none⟩) (xs.length + ys.length + 1) (xs.length + ys.length + 1) 195 1 (cj L), .row (some ⟨A13, 0, none⟩) ys.length c13 195 1 (cj ys), .row (some ⟨A11, 0, none⟩) xs.length c11 195 1 (cj xs)] w')
  (fun v _ => xs.length - (intOf v).toNat) ?_ ?_
 ·exact ⟨0, _, Nat.zero_le _, rfl, Dg.vU (by omega) _, by simp, by simp [kU, bk], hh⟩
 ·clear hh
  rintro ρ' v w' ⟨i, L, hi, rfl, hLd, hLl, hLv, hh⟩
  by_cases hlt : i < xs.length
  ·obtain ⟨m, hm⟩ := aH (l := xs) (k := i) (by omega)
   have hm2 := dq hm
   have hmw := hxd.at_ hm
   have hpl : (L.take i).length = i := by rw [List.length_take]; omega
   have hsl : (L.drop i).length = xs.length + ys.length + 1 - i := by rw [List.length_drop]; omega
   refine sr ?_
   refine aV (ah (aj (cT (ao (ak (aj (ar (sr (mI ?_)))))))))
   refine bg (k := i) aG.out aD.size rfl rfl (by omega) (by omega) (by decide) ?_
   refine bE aD.out rfl (hh.cd (i := 2) rfl (by first | assumption | (simp only [Nat.mul_one]; assumption))) (by decide) ?_
   refine aI (aI (ah (aw (mL (mI ?_)))))
   first | refine mO (l := i) aG.out aD.size rfl rfl (by omega) (by omega) (by omega) (by omega) (by decide) ?_ | refine lG (l := i) aG.out aD.size rfl rfl (by omega) (by omega) (by omega) (by omega) (by decide) ?_
   refine mL (mI ?_)
   have hc := pQ (c' := xs.length + ys.length + 1 - i) (ny := ys.length) (cy := c13) (m := m) (Y := some ⟨A13, 0, none⟩) (L.take i) (L.drop i) [] ys _ (by rw [List.append_nil, List.take_append_drop]; exact hh) (fun w1 cs h => h.aM (i := 1) rfl) (hLd.drop i) hyd hmw (by omega) (by omega)
   rw [hpl, hsl, List.append_nil] at hc
   rw [Nat.zero_add, Nat.mul_one]
   refine aN (hc) au.out rfl (by decide) ?_
   rintro e_ w_ ⟨rfl, hh⟩
   refine ⟨_, rfl, ?_⟩
   have hlt1 := fp (hxd.take (i + 1))
   have hlt2 := fp hyd
   rw [List.length_take, Nat.min_eq_left (by omega)] at hlt1
   have hsn := en (B := 18446744073709551616) hm
   have hsplit := fG (B := 18446744073709551616) L i (by omega)
   have hnew : 18446744073709551616 ^ i * (bk 18446744073709551616 (L.drop i) + bk 18446744073709551616 ys * m + 0) + bk 18446744073709551616 (L.take i) = bk 18446744073709551616 (xs.take (i + 1)) * bk 18446744073709551616 ys := by
    rw [hsn, Nat.add_mul, ← hLv, hsplit, Nat.add_zero, Nat.mul_add, Nat.mul_assoc, Nat.mul_comm m]; omega
   have hbd : bk 18446744073709551616 (L.drop i) + bk 18446744073709551616 ys * m + 0 < 18446744073709551616 ^ (L.drop i).length := by
    refine Nat.lt_of_mul_lt_mul_left (a := 18446744073709551616 ^ i) ?_
    rw [← Nat.pow_add, hsl]
    refine Nat.lt_of_le_of_lt (Nat.le_add_right _ (bk 18446744073709551616 (L.take i))) ?_
    rw [hnew]
    refine Nat.lt_of_lt_of_le (Nat.mul_lt_mul'' hlt1 hlt2) ?_
    rw [← Nat.pow_add]
    exact Nat.pow_le_pow_right (by decide) (by omega)
   have hdp := nB (B := 18446744073709551616) (by omega) _ _ _ _ hbd
   refine aE (aW (ak (aw ?_)))
   refine bJ (mI (aE (ak ?_)))
   refine ⟨⟨i + 1, L.take i ++ eQ 18446744073709551616 (L.drop i) ys m 0, by omega, rfl, (hLd.take i).append (qP (by omega) _ _ _ _), by rw [List.length_append, km, hpl, hsl]; omega, ?_, hh⟩, by show xs.length - (i + 1) < xs.length - i; omega, ?_⟩
   ·rw [dy, hdp, hpl, Nat.add_comm]; exact hnew
   (repeat (first | exact az _ _ _ | refine aC rfl ?_ | refine ay rfl ?_))
  ·obtain rfl : i = xs.length := by omega
   rw [List.take_length, hX, hY] at hLv
   refine sr ?_
   refine aV (ah (aj (cF ?_)))
   refine aX ?_
   refine aA (aA (bj (ak (sr (mL ?_)))))
   refine bC hh (e8 _ _ _ L _ (hh.aM (i := 0) rfl) hLd (Nat.le_refl _) (by omega)) rfl ?_
   intro w36 hh
   rw [hLv]
   refine aS (ah (aq ?_))
   refine cf ?_
   exact ⟨rfl, hh.below⟩
theorem xp {n d r k : Nat} (hd : d ≠ 0) (hdw : d < 18446744073709551616) (hn : n = 18446744073709551616 ^ k * (d + 18446744073709551616 * r)) : tz n = 64 * k + tz d := by
 obtain ⟨m, hm⟩ := lR hd
 have ht : tz d < 64 := nA hd (by simpa using hdw)
 have hW : (18446744073709551616 : Nat) = 2 ^ 64 := by decide
 generalize tz d = t at *
 have e : n = 2 ^ (64 * k + t) * (2 * (m + 2 ^ (63 - t) * r) + 1) := by
  rw [hn, Nat.pow_add, Nat.pow_mul, ← hW, Nat.mul_assoc]
  congr 1
  have h1 : 18446744073709551616 = 2 ^ t * (2 * 2 ^ (63 - t)) := by rw [hW, ← Nat.pow_succ', ← Nat.pow_add]; congr 1; omega
  have h2 : 18446744073709551616 * r = 2 ^ t * (2 * 2 ^ (63 - t) * r) := by rw [← Nat.mul_assoc, ← h1]
  rw [h2]
  conv => lhs; rw [hm]
  rw [← Nat.mul_add]
  congr 1
  rw [Nat.mul_add, Nat.mul_assoc]; omega
 rw [e, sB]
theorem fZ (a : ByteArray) (w : World) (ha : a.size ≤ 1000000000) (hT : fS w) :
  Calls Tryz.prog 197 #[.string a] w fun e w' => e = .returned (.int .i64 (tz (bN a))) ∧ Below w.heap.size w w' := by
 have hh := Hp.start w
 have h1 := ew a
 refine al (N := 21) (l := [.string a]) Tryz.func197 rfl rfl (by simp) ?_
 refine sr (aI (ah (aj (sr (mS ?_)))))
 refine aN (cG a _ ha) au.out rfl (by decide) ?_
 rintro e_ w6 ⟨A6, c6, rfl, hown_, hb_⟩
 refine ⟨_, rfl, ?_⟩
 replace hh := hh.a7 (x := .row _ _ _ _ _ _) hb_ hown_
 have hxd := eP (bN a)
 have hX := eJ (bN a)
 generalize aR 18446744073709551616 (bN a) = xs at *
 refine a0 (mI (ah (ar ?_)))
 refine bA [2, 3, 4, 8, 9, 10, 11, 12, 13, 14, 15, 16, 17, 18, 19, 20] 8
  (fun v w' => ∃ (i : Nat), i ≤ xs.length ∧ v = .int .i64 i ∧ bk 18446744073709551616 (xs.take i) = 0 ∧ Hp w [.row (some ⟨A6, 0, none⟩) xs.length c6 195 1 (cj xs)] w')
  (fun v _ => xs.length - (intOf v).toNat) ?_ ?_
 ·exact ⟨0, Nat.zero_le _, rfl, rfl, hh⟩
 ·clear hh
  rintro ρ' v w' ⟨i, hi, rfl, hz, hh⟩
  by_cases hlt : i < xs.length
  ·obtain ⟨d, hm⟩ := aH (l := xs) (k := i) (by omega)
   have hm2 := dq hm
   have hmw := hxd.at_ hm
   by_cases h0 : d = 0
   ·subst h0
    refine sr ?_
    refine aV (ah (aj (cT (ao (ak (aj (ar (sr (mI ?_)))))))))
    refine bg (k := i) aG.out aD.size rfl rfl (by omega) (by omega) (by decide) ?_
    refine bE aD.out rfl (hh.cd (i := 0) rfl (by first | assumption | (simp only [Nat.mul_one]; assumption))) (by decide) ?_
    refine aI (aI (ah (sr (mI ?_))))
    refine er (ah (cF (ao (aW (ak (aw ?_))))))
    refine bJ (mI (aE (ak ?_)))
    refine ⟨⟨i + 1, by omega, rfl, by rw [en hm, hz]; simp, hh⟩, by show xs.length - (i + 1) < xs.length - i; omega, ?_⟩
    (repeat (first | exact az _ _ _ | refine aC rfl ?_ | refine ay rfl ?_))
   ·have htz : tz (bN a) = 64 * i + tz d := by
     have h3 := fG (B := 18446744073709551616) xs i (by omega)
     have h4 := (List.getElem?_eq_some_iff.1 hm)
     rw [hz, List.drop_eq_getElem_cons hlt, h4.2, bk, hX, Nat.zero_add] at h3
     exact xp h0 hmw h3
    have ht : tz d < 64 := nA h0 (by simpa using hmw)
    refine sr ?_
    refine aV (ah (aj (cT (ao (ak (aj (ar (sr (mI ?_)))))))))
    refine bg (k := i) aG.out aD.size rfl rfl (by omega) (by omega) (by decide) ?_
    refine bE aD.out rfl (hh.cd (i := 0) rfl (by first | assumption | (simp only [Nat.mul_one]; assumption))) (by decide) ?_
    refine aI (aI (ah (sr (mI ?_))))
    refine er (ah (cT (sr (mI ?_))))
    refine mulC (mI ?_)
    refine bC hh (su _ _ hmw h0 (hT.hp hh)) rfl ?_
    intro w18 hh
    refine bJ (aI (ah (aq (bO (aJ (aJ (bO (aJ ?_))))))))
    refine cf ?_
    refine ⟨?_, hh.below⟩
    congr 2
    omega
  ·refine sr ?_
   refine aV (ah (aj (cF ?_)))
   refine aX ?_
   refine aA (aA (bj (ak (sr (aI (ah (aq ?_)))))))
   refine cf ?_
   rw [List.take_of_length_le (by omega), hX] at hz
   rw [hz]
   exact ⟨rfl, hh.below⟩
theorem wL {x y k : Nat} (hx : x < 18446744073709551616 ^ k) (hy : y < 18446744073709551616 ^ k) : bk 18446744073709551616 (eQ 18446744073709551616 (aR 18446744073709551616 x ++ List.replicate (k + 1 - (aR 18446744073709551616 x).length) 0) (aR 18446744073709551616 y) 1 0) = x + y := by
 have hl := fc (B := 18446744073709551616) (by omega) hx
 have h1 : bk 18446744073709551616 (aR 18446744073709551616 x ++ List.replicate (k + 1 - (aR 18446744073709551616 x).length) 0) = x := by rw [dy, kU, eJ]; simp
 have h2 : (aR 18446744073709551616 x ++ List.replicate (k + 1 - (aR 18446744073709551616 x).length) 0).length = k + 1 := by rw [List.length_append, List.length_replicate]; omega
 rw [nB (by omega), h1, eJ]
 ·omega
 ·rw [h1, h2, eJ, Nat.pow_succ]
  have : 0 < 18446744073709551616 ^ k := Nat.pow_pos (by decide)
  omega
theorem kM (l : List Nat) (x : Nat) : (l ++ [x]).sum = l.sum + x := by simp
theorem oB (L : Option Addr) (n c : Nat) (ss : List ByteArray) (w : World) (hS : Sl w L n 1 (qV ss)) (hn : n ≤ 1000000) (hs : ∀ s ∈ ss, s.size ≤ 1000000000) :
  Calls Tryz.prog 226 #[.slice L n c] w fun e w' => e = .returned (.string (sN (ss.map bN).sum)) ∧ Below w.heap.size w w' := by
 have hsl : ss.length = n := by have := hS.1; rw [ld] at this; omega
 have hh := Hp.start w
 refine al (N := 31) (l := [.slice L n c]) Tryz.func226 rfl rfl (by simp) ?_
 refine sr (aS (ah (sr (aL (ah (aj (sr (mL (a0 (mI (ah ?_)))))))))))
 refine ar ?_
 replace hh := hh.eU 195 1
 refine cE [3, 5, 6, 9, 10, 11, 12, 13, 14, 15, 16, 17, 18, 19, 20, 21, 22, 23, 24, 25, 26, 27, 28] 3 9
  (fun v j w' => ∃ (i : Nat) (A : Option Addr) (c' T : Nat), i ≤ n ∧ j = .int .i64 i ∧ T = ((ss.take i).map bN).sum ∧ v = .slice A (aR 18446744073709551616 T).length c' ∧ (aR 18446744073709551616 T).length ≤ 125000001 + i ∧ Hp w [.row A (aR 18446744073709551616 T).length c' 195 1 (cj (aR 18446744073709551616 T))] w')
  (fun _ j _ => n - (intOf j).toNat) ?_ ?_
 ·exact ⟨0, none, 0, 0, Nat.zero_le _, rfl, rfl, by rw [eE (by omega)]; rfl, by rw [eE (by omega)]; simp, by rw [eE (by omega)]; exact hh⟩
 ·clear hh
  rintro ρ' v j w' ⟨i, A, c', T, hi, rfl, hT, rfl, hTl, hh⟩
  by_cases hlt : i < n
  ·obtain ⟨s, hsi⟩ := aH (l := ss) (k := i) (by omega)
   obtain ⟨ad, rfl, hr⟩ := hS.at_ (by omega)
   have hs2 := te hsi
   have hsz := hs s (List.mem_of_getElem? hsi)
   have hlx := ew s
   have hT2 : ((ss.take (i + 1)).map bN).sum = T + bN s := by rw [aT hsi, List.map_append, List.map_singleton, kM, hT]
   have e1 : (if ((aR 18446744073709551616 (bN s)).length : Int) > ((aR 18446744073709551616 T).length : Int) then ((aR 18446744073709551616 (bN s)).length : Int) else ((aR 18446744073709551616 T).length : Int)) + 1 = ((max (aR 18446744073709551616 T).length (aR 18446744073709551616 (bN s)).length + 1 : Nat) : Int) := by split <;> omega
   have hb1 : T < 18446744073709551616 ^ max (aR 18446744073709551616 T).length (aR 18446744073709551616 (bN s)).length := Nat.lt_of_lt_of_le (jm (by omega) T) (Nat.pow_le_pow_right (by decide) (Nat.le_max_left _ _))
   have hb2 : bN s < 18446744073709551616 ^ max (aR 18446744073709551616 T).length (aR 18446744073709551616 (bN s)).length := Nat.lt_of_lt_of_le (jm (by omega) (bN s)) (Nat.pow_le_pow_right (by decide) (Nat.le_max_right _ _))
   have hadd := wL hb1 hb2
   refine sr ?_
   refine aV (ah (aj (cT (ao (ak (aj (ar (sr ?_))))))))
   refine aY aG.out aD.size rfl rfl rfl (by omega) (by decide) ?_
   refine bE aD.out rfl ((hr.ext hh.below).lV (by assumption)) (by decide) ?_
   refine aS (ah (sr (mS ?_)))
   refine aN (cG s _ hsz) au.out rfl (by decide) ?_
   rintro e_ w14 ⟨A14, c14, rfl, hown_, hb_⟩
   refine ⟨_, rfl, ?_⟩
   replace hh := hh.a7 (x := .row _ _ _ _ _ _) hb_ hown_
   refine aL (ah (sr (mL (mL (a0 (mL (a0 ?_)))))))
   refine iU rfl rfl (by decide) ?_
   refine bJ ?_
   rw [e1]
   generalize hM : max (aR 18446744073709551616 T).length (aR 18446744073709551616 (bN s)).length = M at *
   refine aN (jA _ _ _ (M + 1) _ _ (hh.aM (i := 1) rfl) (by omega) (by omega)) au.out rfl (by decide) ?_
   rintro e_ w_ ⟨b22, rfl, hown_, hb_⟩
   refine ⟨_, rfl, ?_⟩
   replace hh := hh.a7 (x := .row _ _ _ _ _ _) hb_ hown_
   have e2 : max (M + 1) (aR 18446744073709551616 T).length = M + 1 := by omega
   rw [e2] at hh
   rw [e2]
   refine aL (ah (sr (mL (mL ?_))))
   have hc := rX (c' := M + 1) (ny := (aR 18446744073709551616 (bN s)).length) (cy := c14) (Y := some ⟨A14, 0, none⟩) [] (aR 18446744073709551616 T ++ List.replicate (M + 1 - (aR 18446744073709551616 T).length) 0) [] (aR 18446744073709551616 (bN s)) _ (by rw [List.append_nil, List.nil_append]; exact hh) (fun w1 cs h => h.aM (i := 1) rfl) ((eP _).append (Dg.vU (by omega) _)) (eP _) (by rw [List.length_append, List.length_replicate]; omega) (by omega)
   have e3 : (aR 18446744073709551616 T ++ List.replicate (M + 1 - (aR 18446744073709551616 T).length) 0).length = M + 1 := by rw [List.length_append, List.length_replicate]; omega
   rw [e3, List.append_nil, List.nil_append] at hc
   refine aN (hc) au.out rfl (by decide) ?_
   rintro e_ w_ ⟨rfl, hh⟩
   refine ⟨_, rfl, ?_⟩
   have hpl : (eQ 18446744073709551616 (aR 18446744073709551616 T ++ List.replicate (M + 1 - (aR 18446744073709551616 T).length) 0) (aR 18446744073709551616 (bN s)) 1 0).length = M + 1 := by rw [km, e3]
   have hpd := qP (B := 18446744073709551616) (by omega) (aR 18446744073709551616 T ++ List.replicate (M + 1 - (aR 18446744073709551616 T).length) 0) (aR 18446744073709551616 (bN s)) 1 0
   generalize eQ 18446744073709551616 (aR 18446744073709551616 T ++ List.replicate (M + 1 - (aR 18446744073709551616 T).length) 0) (aR 18446744073709551616 (bN s)) 1 0 = Z at *
   have hcz : cX Z = aR 18446744073709551616 (T + bN s) := by rw [ek (by omega) hpd, hadd]
   have hcl := dZ Z
   refine ah (aw (mL ?_))
   refine bC hh (fe _ _ _ Z _ (hh.aM (i := 0) rfl) (Nat.le_refl _) (by omega)) rfl ?_
   intro w27 hh
   replace hh := (hh.tn hpl).sub (List.sublist_append_left [_] _)
   rw [hcz] at *
   refine aL (aE (aW (ak (aw ?_))))
   refine bJ (mI (aE (ak ?_)))
   refine ⟨⟨i + 1, _, _, T + bN s, by omega, rfl, hT2.symm, rfl, by omega, hh⟩, by show n - (i + 1) < n - i; omega, ?_⟩
   (repeat (first | exact az _ _ _ | refine aC rfl ?_ | refine ay rfl ?_))
  ·refine sr ?_
   refine aV (ah (aj (cF ?_)))
   refine aX ?_
   refine aA (aA (bj (ak (sr (mL ?_)))))
   refine bC hh (e8 _ _ _ (aR 18446744073709551616 T) _ (hh.aM (i := 0) rfl) (eP _) (hh.cW (i := 0) rfl) (by omega)) rfl ?_
   intro w30 hh
   rw [eJ]
   refine aS (ah (aq ?_))
   refine cf ?_
   rw [List.take_of_length_le (by omega)] at hT
   rw [hT]
   exact ⟨rfl, hh.below⟩
end Go.Proofs.YtkgdagjklakajaaGreatDoor
namespace Go.Proofs.YtkgdagjklakajaaGreatDoor
open Go.RowKit
theorem si (s : ByteArray) (l h : Nat) : s.extract l h = str ((s.data.toList.take h).drop l) := by
 apply rR
 rw [cv]
 simp [ByteArray.extract, ByteArray.copySlice, List.drop_take]
def yr : Value → Nat
 | .string t => t.size
 | _ => 0
theorem mm (s : ByteArray) (w : World) :
  Calls Tryz.prog 257 #[.string s, .int .u8 ((0 : UInt8).toNat : Int)] w fun e w' => e = .returned (.string (sN (bN s))) ∧ Below w.heap.size w w' := by
 have hh := Hp.start w
 refine al (N := 17) (l := [.string s, .int .u8 ((0 : UInt8).toNat : Int)]) Tryz.func257 rfl rfl (by simp) ?_
 refine sr (aS (ah (aj (ar ?_))))
 refine bA [0, 5, 6, 7, 8, 9, 10, 11, 12, 13, 14, 15] 0
  (fun v w' => ∃ l : List UInt8, v = .string (str l) ∧ l.length ≤ s.size ∧ bn l = bN s ∧ w' = w)
  (fun v _ => yr v) ?_ ?_
 ·exact ⟨s.data.toList, by rw [vJ]; rfl, by rw [dE]; exact Nat.le_refl _, rfl, rfl⟩
 ·rintro ρ' v w' ⟨l, rfl, hl, hb, rfl⟩
  have hsz := gd l
  cases l with
  | nil =>
   refine aj (sr (mS ?_))
   refine bz aG.out rfl (by decide) ?_
   refine cb (mB ?_)
   first | refine gS ?_ | (refine gT ?_; refine mS ?_) | refine gV ?_
   first | refine gS ?_ | (refine gT ?_; refine bF aG.out rfl rfl (by omega) (by assumption) (by decide) ?_) | refine gV ?_
   first | refine gS ?_ | (refine gT ?_; refine mI ?_) | refine gV ?_
   first | refine gS ?_ | (refine gT ?_; refine ea ?_) | refine gV ?_
   first | refine cU ?_ | refine cV ?_
   refine ah (cF ?_)
   refine aX ?_
   refine aA (aA (bj (ak (sr (mS (aS (ah (aq ?_))))))))
   refine cf ?_
   rw [sN, ← hb]
   exact ⟨rfl, hh.below⟩
  | cons c l =>
   have hc0 : (str (c :: l)).data.toList[(0 : Int).toNat]? = some c := by rw [cv]; rfl
   have hc8 := c.toNat_lt
   have hlen : (str (c :: l)).size = l.length + 1 := by rw [hsz]; rfl
   have hz : (0 : UInt8).toNat = 0 := rfl
   by_cases h0 : c = 0
   ·subst h0
    refine aj (sr (mS ?_))
    refine bz aG.out rfl (by decide) ?_
    refine cb (mB ?_)
    first | refine gS ?_ | (refine gT ?_; refine mS ?_) | refine gV ?_
    first | refine gS ?_ | (refine gT ?_; refine bF aG.out rfl rfl (by omega) (by assumption) (by decide) ?_) | refine gV ?_
    first | refine gS ?_ | (refine gT ?_; refine mI ?_) | refine gV ?_
    first | refine gS ?_ | (refine gT ?_; refine ea ?_) | refine gV ?_
    first | refine cU ?_ | refine cV ?_
    refine ah (cT (ao (ak (ar (aw (mS ?_))))))
    refine lf (l := 1) (h := (str ((0 : UInt8) :: l)).size) aG.out rfl ⟨_, _, rfl, by omega⟩ rfl (by omega) (by omega) (by decide) ?_
    refine aS (aE (aW (ak ?_)))
    rw [si, cv, List.take_of_length_le (by rw [hlen]; simp), List.drop_succ_cons, List.drop_zero]
    refine ⟨⟨l, rfl, by simp at hl; omega, by rw [← hb, wi], rfl⟩, ?_, ?_⟩
    ·show (str l).size < (str (0 :: l)).size
     rw [hlen, gd]; omega
    (repeat (first | exact az _ _ _ | refine aC rfl ?_ | refine ay rfl ?_))
   ·have hcn : c.toNat ≠ 0 := fun h => h0 (UInt8.toNat_inj.1 h)
    refine aj (sr (mS ?_))
    refine bz aG.out rfl (by decide) ?_
    refine cb (mB ?_)
    first | refine gS ?_ | (refine gT ?_; refine mS ?_) | refine gV ?_
    first | refine gS ?_ | (refine gT ?_; refine bF aG.out rfl rfl (by omega) (by assumption) (by decide) ?_) | refine gV ?_
    first | refine gS ?_ | (refine gT ?_; refine mI ?_) | refine gV ?_
    first | refine gS ?_ | (refine gT ?_; refine ea ?_) | refine gV ?_
    first | refine cU ?_ | refine cV ?_
    refine ah (cF ?_)
    refine aX ?_
    refine aA (aA (bj (ak (sr (mS (aS (ah (aq ?_))))))))
    refine cf ?_
    rw [sN, ← hb, za (by simpa using h0)]
    exact ⟨rfl, hh.below⟩
theorem lZ (s : ByteArray) (w : World) :
  Calls Tryz.prog 248 #[.string s, .string (ByteArray.mk #[0])] w fun e w' => e = .returned (.string (sN (bN s))) ∧ Below w.heap.size w w' := by
 have hh := Hp.start w
 have hne : ¬ ByteArray.mk #[(0 : UInt8)] = ByteArray.mk #[] := by intro h; injection h with h; simp at h
 have hsz1 : (ByteArray.mk #[(0 : UInt8)]).size = 1 := rfl
 have hc0 : (ByteArray.mk #[(0 : UInt8)]).data.toList[(0 : Int).toNat]? = some 0 := rfl
 have hz : (0 : UInt8).toNat = 0 := rfl
 by_cases h0 : s = ByteArray.mk #[]
 ·subst h0
  refine al (N := 37) (l := [.string (ByteArray.mk #[]), .string (ByteArray.mk #[0])]) Tryz.func248 rfl rfl (by simp) ?_
  refine sr (aS (ah (aj (sr (mS ?_)))))
  first | refine dO rfl rfl (by first | rfl | assumption | decide) (by decide) ?_ | refine dL rfl rfl (by first | assumption | decide) (by decide) ?_
  refine mB ?_
  first | refine gS ?_ | (refine gT ?_; refine mS ?_) | refine gV ?_
  first | refine gS ?_ | (refine gT ?_; (first | refine dO rfl rfl (by first | rfl | assumption | decide) (by decide) ?_ | refine dL rfl rfl (by first | assumption | decide) (by decide) ?_)) | refine gV ?_
  first | refine cU ?_ | refine cV ?_
  refine ah (cT (sr (mS (aS (ah (aq (aJ ?_)))))))
  refine cf ?_
  rw [show bN (ByteArray.mk #[]) = 0 from rfl, fO]
  exact ⟨rfl, hh.below⟩
 ·refine al (N := 37) (l := [.string s, .string (ByteArray.mk #[0])]) Tryz.func248 rfl rfl (by simp) ?_
  refine sr (aS (ah (aj (sr (mS ?_)))))
  first | refine dO rfl rfl (by first | rfl | assumption | decide) (by decide) ?_ | refine dL rfl rfl (by first | assumption | decide) (by decide) ?_
  refine mB ?_
  first | refine gS ?_ | (refine gT ?_; refine mS ?_) | refine gV ?_
  first | refine gS ?_ | (refine gT ?_; (first | refine dO rfl rfl (by first | rfl | assumption | decide) (by decide) ?_ | refine dL rfl rfl (by first | assumption | decide) (by decide) ?_)) | refine gV ?_
  first | refine cU ?_ | refine cV ?_
  refine ah (cF (ao (ak (aj (sr (mS ?_))))))
  refine bz aG.out rfl (by decide) ?_
  refine ea (mB ?_)
  first | refine gS ?_ | (refine gT ?_; refine mS ?_) | refine gV ?_
  first | refine gS ?_ | (refine gT ?_; refine bF aG.out rfl rfl (by omega) (by assumption) (by decide) ?_) | refine gV ?_
  first | refine gS ?_ | (refine gT ?_; refine aV ?_) | refine gV ?_
  first | refine cU ?_ | refine cV ?_
  refine ah (cT (sr (mS (mS ?_))))
  refine bF aG.out rfl rfl (by omega) (by assumption) (by decide) ?_
  refine bC hh (mm s _) rfl ?_
  intro w25 hh
  refine aS (ah (aq (aJ ?_)))
  refine cf ?_
  exact ⟨rfl, hh.below⟩
theorem gQ (s : ByteArray) (w : World) :
  Calls Tryz.prog 229 #[.string s] w fun e w' => e = .returned (.string (sN (bN s))) ∧ Below w.heap.size w w' := by
 have hh := Hp.start w
 refine al (N := 5) (l := [.string s]) Tryz.func229 rfl rfl (by simp) ?_
 refine sr (aS (ah (sr (mS ?_))))
 refine bC hh (lZ s _) rfl ?_
 intro w4 hh
 refine aS (ah (aq ?_))
 refine cf ?_
 exact ⟨rfl, hh.below⟩
end Go.Proofs.YtkgdagjklakajaaGreatDoor
/- Several texts in one: Whole, WholeB, WholeC, Dy. -/
namespace Go.Proofs.YtkgdagjklakajaaGreatDoor
open Go.RowKit
def iv (s : Bool) (m : ByteArray) : Int := if s then -(bN m : Int) else bN m
def iN (z : Int) : Bool := decide (z < 0)
def iM (z : Int) : ByteArray := sN z.natAbs
theorem ff (z : Int) : iv (iN z) (iM z) = z := by
 unfold iv iN iM
 rw [dP]
 by_cases h : z < 0
 ·rw [decide_eq_true h, if_pos rfl]; omega
 ·rw [decide_eq_false h, if_neg (by simp)]; omega
theorem lT {z : Int} : iM z = ByteArray.mk #[] ↔ z = 0 := by
 rw [iM, ← fO]
 constructor
 ·intro h; have := se h; omega
 ·intro h; rw [h]; rfl
theorem gq (s : Bool) (m : ByteArray) : (iv s m).natAbs = bN m := by
 unfold iv; split <;> omega
theorem sM (s : Bool) (m : ByteArray) : iM (iv s m) = sN (bN m) := by rw [iM, gq]
theorem yf (s : Bool) (m : ByteArray) : iN (iv s m) = (s && decide (bN m ≠ 0)) := by
 unfold iN iv
 rw [Bool.eq_iff_iff, Bool.and_eq_true, decide_eq_true_eq, decide_eq_true_eq]
 cases s
 ·simp only [Bool.false_eq_true, if_false, false_and, iff_false]; omega
 ·simp only [if_true, true_and]; omega
theorem jq (s : Bool) (m : ByteArray) (w : World) :
  Calls Tryz.prog 200 #[.agg #[.bool s, .string m]] w fun e w' => e = .returned (.agg #[.string m, .bool s]) ∧ Below w.heap.size w w' := by
 have hh := Hp.start w
 refine al (N := 8) (l := [.agg #[.bool s, .string m]]) Tryz.func200 rfl rfl (by simp) ?_
 refine sr ?_
 refine df hh [_,_] ?_
 intro b1 w1 hh
 refine cx hh ?_
 intro b2 w2 hh
 refine ah (sr (bG ?_))
 refine bI hh 1 ?_
 refine bG ?_
 refine bI hh 1 ?_
 refine eD [_,_] ?_
 refine bL hh 0 [_,_] ?_
 intro ws hh
 replace hh : Hp _ (.blk _ _ [_, _] _ :: _) _ := hh
 refine ah (aq ?_)
 refine gL (aQ rfl (aP (vs := [_, _]) aD.out (hh.ax (i := 0) (n := 2) rfl rfl) rfl) bh) ?_
 exact ⟨rfl, hh.below⟩
theorem cM (s : Bool) (m : ByteArray) (w : World) :
  Calls Tryz.prog 201 #[.agg #[.string m, .bool s]] w fun e w' => e = .returned (.agg #[.bool (iN (iv s m)), .string (iM (iv s m))]) ∧ Below w.heap.size w w' := by
 have hh := Hp.start w
 rw [yf, sM]
 cases s with
 | false =>
  refine al (N := 15) (l := [.agg #[.string m, .bool false]]) Tryz.func201 rfl rfl (by simp) ?_
  refine sr ?_
  refine df hh [_,_] ?_
  intro b1 w1 hh
  refine cx hh ?_
  intro b2 w2 hh
  refine ah (sr (bG ?_))
  refine bI hh 1 ?_
  refine bC hh (gQ m _) rfl ?_
  intro w6 hh
  refine aS (ah (sr (bG ?_)))
  refine bI hh 1 ?_
  refine mB ?_
  first | refine gS ?_ | (refine gT ?_; refine mS ?_) | refine gV ?_
  first | refine gS ?_ | (refine gT ?_; (first | refine e9 rfl rfl (by first | rfl | assumption | decide) (by decide) ?_ | refine fa rfl rfl (by first | assumption | decide) (by decide) ?_)) | refine gV ?_
  first | refine cU ?_ | refine cV ?_
  refine mS ?_
  refine eD [_,_] ?_
  refine bL hh 0 [_,_] ?_
  intro ws hh
  replace hh : Hp _ (.blk _ _ [_, _] _ :: _) _ := hh
  refine ah (aq ?_)
  refine gL (aQ rfl (aP (vs := [_, _]) aD.out (hh.ax (i := 0) (n := 2) rfl rfl) rfl) bh) ?_
  exact ⟨rfl, hh.below⟩
 | true =>
  by_cases h0 : sN (bN m) = ByteArray.mk #[]
  ·refine al (N := 15) (l := [.agg #[.string m, .bool true]]) Tryz.func201 rfl rfl (by simp) ?_
   refine sr ?_
   refine df hh [_,_] ?_
   intro b1 w1 hh
   refine cx hh ?_
   intro b2 w2 hh
   refine ah (sr (bG ?_))
   refine bI hh 1 ?_
   refine bC hh (gQ m _) rfl ?_
   intro w6 hh
   refine aS (ah (sr (bG ?_)))
   refine bI hh 1 ?_
   refine mB ?_
   first | refine gS ?_ | (refine gT ?_; refine mS ?_) | refine gV ?_
   first | refine gS ?_ | (refine gT ?_; (first | refine e9 rfl rfl (by first | rfl | assumption | decide) (by decide) ?_ | refine fa rfl rfl (by first | assumption | decide) (by decide) ?_)) | refine gV ?_
   first | refine cU ?_ | refine cV ?_
   refine mS ?_
   refine eD [_,_] ?_
   refine bL hh 0 [_,_] ?_
   intro ws hh
   replace hh : Hp _ (.blk _ _ [_, _] _ :: _) _ := hh
   refine ah (aq ?_)
   refine gL (aQ rfl (aP (vs := [_, _]) aD.out (hh.ax (i := 0) (n := 2) rfl rfl) rfl) bh) ?_
   have h1 : bN m = 0 := by rw [← fO] at h0; exact se h0
   rw [decide_eq_false (by omega)]
   exact ⟨rfl, hh.below⟩
  ·refine al (N := 15) (l := [.agg #[.string m, .bool true]]) Tryz.func201 rfl rfl (by simp) ?_
   refine sr ?_
   refine df hh [_,_] ?_
   intro b1 w1 hh
   refine cx hh ?_
   intro b2 w2 hh
   refine ah (sr (bG ?_))
   refine bI hh 1 ?_
   refine bC hh (gQ m _) rfl ?_
   intro w6 hh
   refine aS (ah (sr (bG ?_)))
   refine bI hh 1 ?_
   refine mB ?_
   first | refine gS ?_ | (refine gT ?_; refine mS ?_) | refine gV ?_
   first | refine gS ?_ | (refine gT ?_; (first | refine e9 rfl rfl (by first | rfl | assumption | decide) (by decide) ?_ | refine fa rfl rfl (by first | assumption | decide) (by decide) ?_)) | refine gV ?_
   first | refine cU ?_ | refine cV ?_
   refine mS ?_
   refine eD [_,_] ?_
   refine bL hh 0 [_,_] ?_
   intro ws hh
   replace hh : Hp _ (.blk _ _ [_, _] _ :: _) _ := hh
   refine ah (aq ?_)
   refine gL (aQ rfl (aP (vs := [_, _]) aD.out (hh.ax (i := 0) (n := 2) rfl rfl) rfl) bh) ?_
   have h1 : bN m ≠ 0 := fun h => h0 (by rw [h, fO])
   rw [decide_eq_true h1]
   exact ⟨rfl, hh.below⟩
def Af (s : Bool) (m : ByteArray) : Value := .agg #[.string m, .bool s]
theorem mR (a b : ByteArray) (w : World) (ha : a.size ≤ 1000000000) (hb : b.size ≤ 1000000000) :
  Calls Tryz.prog 227 #[.string a, .string b] w fun e w' => e = .returned (.int .i64 (gX (bN a) (bN b))) ∧ Below w.heap.size w w' := by
 have hh := Hp.start w
 refine al (N := 8) (l := [.string a, .string b]) Tryz.func227 rfl rfl (by simp) ?_
 refine sr (aI (ah (sr (mS (mS ?_)))))
 refine bC hh (o8 a b _ ha hb) rfl ?_
 intro w7 hh
 refine aI (ah (aq ?_))
 refine cf ?_
 exact ⟨rfl, hh.below⟩
theorem iJ (s : Bool) (m : ByteArray) (w : World) :
  Calls Tryz.prog 204 #[.agg #[.bool s, .string m]] w fun e w' => e = .returned (.agg #[.bool (iN (iv s m)), .string (iM (iv s m))]) ∧ Below w.heap.size w w' := by
 have hh := Hp.start w
 refine al (N := 6) (l := [.agg #[.bool s, .string m]]) Tryz.func204 rfl rfl (by simp) ?_
 refine sr ?_
 refine df hh [_,_] ?_
 intro b1 w1 hh
 refine cx hh ?_
 intro b2 w2 hh
 refine ah (sr ?_)
 refine dp hh 1 [_,_] ?_
 refine bC hh (jq s m _) rfl ?_
 intro w4 hh
 refine bC hh (cM s m _) rfl ?_
 intro w5 hh
 refine bL hh 0 [_,_] ?_
 intro ws hh
 replace hh : Hp _ (.blk _ _ [_, _] _ :: _) _ := hh
 refine ah (aq ?_)
 refine gL (aQ rfl (aP (vs := [_, _]) aD.out (hh.ax (i := 0) (n := 2) rfl rfl) rfl) bh) ?_
 exact ⟨rfl, hh.below⟩
theorem rD (s : Bool) (m : ByteArray) (w : World) :
  Calls Tryz.prog 188 #[.agg #[.bool s, .string m]] w fun e w' => e = .returned (.agg #[.bool (iN (-(iv s m))), .string (iM (-(iv s m)))]) ∧ Below w.heap.size w w' := by
 have hh := Hp.start w
 have e1 : iv (!s) m = -(iv s m) := by unfold iv; cases s <;> simp
 refine al (N := 10) (l := [.agg #[.bool s, .string m]]) Tryz.func188 rfl rfl (by simp) ?_
 refine sr ?_
 refine df hh [_,_] ?_
 intro b1 w1 hh
 refine cx hh ?_
 intro b2 w2 hh
 refine ah (sr (bG ?_))
 refine bI hh 1 ?_
 refine bG ?_
 refine bI hh 1 ?_
 refine eM ?_
 refine eD [_,_] ?_
 refine bC hh (cM (!s) m _) rfl ?_
 intro w9 hh
 rw [e1]
 refine bL hh 0 [_,_] ?_
 intro ws hh
 replace hh : Hp _ (.blk _ _ [_, _] _ :: _) _ := hh
 refine ah (aq ?_)
 refine gL (aQ rfl (aP (vs := [_, _]) aD.out (hh.ax (i := 0) (n := 2) rfl rfl) rfl) bh) ?_
 exact ⟨rfl, hh.below⟩
theorem iX (s : Bool) (m : ByteArray) (w : World) :
  Calls Tryz.prog 170 #[.agg #[.bool s, .string m]] w fun e w' => e = .returned (.int .i64 (iv s m).sign) ∧ Below w.heap.size w w' := by
 have hh := Hp.start w
 by_cases h1 : iv s m < 0
 ·have hn : iN (iv s m) = true := decide_eq_true h1
  refine al (N := 13) (l := [.agg #[.bool s, .string m]]) Tryz.func170 rfl rfl (by simp) ?_
  refine sr ?_
  refine df hh [_,_] ?_
  intro b1 w1 hh
  refine aI (ah (sr ?_))
  refine dp hh 0 [_,_] ?_
  refine bC hh (iJ s m _) rfl ?_
  intro w5 hh
  rw [hn]
  refine cx hh ?_
  intro b3 w3 hh
  refine bL hh 0 [_,_] ?_
  intro ws hh
  replace hh : Hp _ (.blk _ _ [_, _] _ :: _) _ := hh
  refine ah (aj (ar (sr (bG ?_))))
  refine bI hh 0 ?_
  refine aB (ah (cT (sr (aI (ah (aq (bO (aJ ?_))))))))
  refine cf ?_
  exact ⟨by rw [Int.sign_eq_neg_one_of_neg h1], hh.below⟩
 ·have hn : iN (iv s m) = false := decide_eq_false h1
  by_cases h0 : iM (iv s m) = ByteArray.mk #[]
  ·refine al (N := 13) (l := [.agg #[.bool s, .string m]]) Tryz.func170 rfl rfl (by simp) ?_
   refine sr ?_
   refine df hh [_,_] ?_
   intro b1 w1 hh
   refine aI (ah (sr ?_))
   refine dp hh 0 [_,_] ?_
   refine bC hh (iJ s m _) rfl ?_
   intro w5 hh
   rw [hn]
   refine cx hh ?_
   intro b3 w3 hh
   refine bL hh 0 [_,_] ?_
   intro ws hh
   replace hh : Hp _ (.blk _ _ [_, _] _ :: _) _ := hh
   refine ah (aj (ar (sr (bG ?_))))
   refine bI hh 0 ?_
   refine aB (ah (cF (sr (bG ?_))))
   refine bI hh 0 ?_
   first | refine dO rfl rfl (by first | rfl | assumption | decide) (by decide) ?_ | refine dL rfl rfl (by first | assumption | decide) (by decide) ?_
   refine aB (ah (cT (sr (aI (ah (aq (bO (aJ ?_))))))))
   refine cf ?_
   exact ⟨by rw [lT.1 h0]; rfl, hh.below⟩
  ·have h2 : 0 < iv s m := by
    have : iv s m ≠ 0 := fun h => h0 (lT.2 h)
    omega
   refine al (N := 13) (l := [.agg #[.bool s, .string m]]) Tryz.func170 rfl rfl (by simp) ?_
   refine sr ?_
   refine df hh [_,_] ?_
   intro b1 w1 hh
   refine aI (ah (sr ?_))
   refine dp hh 0 [_,_] ?_
   refine bC hh (iJ s m _) rfl ?_
   intro w5 hh
   rw [hn]
   refine cx hh ?_
   intro b3 w3 hh
   refine bL hh 0 [_,_] ?_
   intro ws hh
   replace hh : Hp _ (.blk _ _ [_, _] _ :: _) _ := hh
   refine ah (aj (ar (sr (bG ?_))))
   refine bI hh 0 ?_
   refine aB (ah (cF (sr (bG ?_))))
   refine bI hh 0 ?_
   first | refine dO rfl rfl (by first | rfl | assumption | decide) (by decide) ?_ | refine dL rfl rfl (by first | assumption | decide) (by decide) ?_
   refine aB (ah (cF (ao (aW (ak (sr (aI (ah (aq ?_)))))))))
   refine cf ?_
   exact ⟨by rw [Int.sign_eq_one_of_pos h2], hh.below⟩
theorem dF (z : Int) : (iM z).size = (br z.natAbs + 7) / 8 := gP _
def ou (s t : Bool) (a b : ByteArray) : Bool := if s = t then s else if bN a < bN b then t else s
theorem wQ (s t : Bool) (a b : ByteArray) : iv (ou s t a b) (iM (iv s a + iv t b)) = iv s a + iv t b := by
 unfold iM iv
 rw [dP]
 unfold ou
 cases s <;> cases t <;> simp <;> (try split) <;> (try simp) <;> omega
theorem vd (s t : Bool) (a b : ByteArray) : iv (s != t) (iM (iv s a * iv t b)) = iv s a * iv t b := by
 rw [iM, Int.natAbs_mul, gq, gq]
 unfold iv
 rw [dP]
 cases s <;> cases t <;> simp [Int.mul_neg, Int.neg_mul]
theorem p8 (s t : Bool) (a b : ByteArray) (w : World) (ha : a.size ≤ 1000000000) (hb : b.size ≤ 1000000000) :
  Calls Tryz.prog 199 #[.agg #[.string a, .bool s], .agg #[.string b, .bool t]] w fun e w' => e = .returned (.agg #[.string (iM (iv s a + iv t b)), .bool (ou s t a b)]) ∧ Below w.heap.size w w' := by
 have hh := Hp.start w
 have hiv : ∀ (u : Bool) (n : Nat) (z : Int), (z = if u then -(n : Int) else n) → sN n = iM z := by
  intro u n z hz
  have h1 : z.natAbs = n := by rw [hz]; split <;> omega
  rw [iM, h1]
 by_cases hst : s = t
 ·subst hst
  have e1 := hiv s (bN a + bN b) (iv s a + iv s b) (by unfold iv; split <;> omega)
  refine al (N := 41) (l := [.agg #[.string a, .bool s], .agg #[.string b, .bool s]]) Tryz.func199 rfl rfl (by simp) ?_
  refine sr ?_
  refine df hh [_,_] ?_
  intro b2 w2 hh
  refine df hh [_,_] ?_
  intro b3 w3 hh
  refine cx hh ?_
  intro b4 w4 hh
  refine ah (aj (sr (bG ?_)))
  refine bI hh 2 ?_
  refine bG ?_
  refine bI hh 1 ?_
  first | refine je aG.out rfl rfl (by first | rfl | assumption) (by decide) ?_ | refine js aG.out rfl rfl (by first | rfl | assumption | decide) (by decide) ?_ | refine s_eql_bool aG.out rfl rfl (by decide) ?_
  refine ah (cT (aj ?_))
  refine a4 8 [[(2, none)], [(12, some 0)], [(3, none)], [(14, some 2)], [(13, some 1), (15, some 3)], [(16, some 4)], [(2, none)], [(18, some 6)]] [(7, 19), (6, 18), (5, 17), (4, 16), (3, 15), (2, 14), (1, 13), (0, 12)] hh mixed (by kernel_rfl) ?_
  refine dx ?_
  refine fi 2 ?_
  refine dx ?_
  refine fi 1 ?_
  refine x9 [_,_] ?_
  refine bW (i := 5) (Is (.string (sN (bN a + bN b)))) Is.ext ?_ ?_
  ·intro ρ1 w1 hj hR
   obtain ⟨A16, c16, h16, s16⟩ := hR.1
   exact cZ rfl (bs au.out (aF h16 bq)) (oB A16 2 c16 [a, b] _ s16 (by omega) (by simp; omega)) (fun _ _ hq => ⟨_, hq.1, hq.2, rfl⟩)
  refine dx ?_
  refine fi 2 ?_
  refine bp ?_
  intro f W hJ hV
  have hb_2 := hJ.bl
  obtain ⟨v19, v18, v17, v16, v15, v14, v13, v12, _⟩ := hV
  obtain ⟨A16, c16, e16, f16⟩ : Rows _ _ _ (f 4) W := v16
  replace hh := hJ.hp
  refine a6 (bu (ai v19 (ai v18 (ai v17 (ai e16 (ai v15 (ai v14 (ai v13 (ai v12 a5))))))))) ?_
  dsimp only [cC]
  clear e16 hJ
  refine eD [_,_] ?_
  refine bL hh 0 [_,_] ?_
  intro ws hh
  replace hh : Hp _ (.blk _ _ [_, _] _ :: _) _ := hh
  refine ah (aq (aJ ?_))
  refine gL (aQ rfl (aP (vs := [_, _]) aD.out (hh.ax (i := 0) (n := 2) rfl rfl) rfl) bh) ?_
  rw [e1, ou, if_pos rfl]
  exact ⟨rfl, hh.below⟩
 ·by_cases hlt : bN a < bN b
  ·have e1 := hiv t (bN b - bN a) (iv s a + iv t b) (by unfold iv; cases s <;> cases t <;> simp at hst ⊢ <;> omega)
   refine al (N := 41) (l := [.agg #[.string a, .bool s], .agg #[.string b, .bool t]]) Tryz.func199 rfl rfl (by simp) ?_
   refine sr ?_
   refine df hh [_,_] ?_
   intro b2 w2 hh
   refine df hh [_,_] ?_
   intro b3 w3 hh
   refine cx hh ?_
   intro b4 w4 hh
   refine ah (aj (sr (bG ?_)))
   refine bI hh 2 ?_
   refine bG ?_
   refine bI hh 1 ?_
   first | refine je aG.out rfl rfl (by first | rfl | assumption) (by decide) ?_ | refine js aG.out rfl rfl (by first | rfl | assumption | decide) (by decide) ?_ | refine s_eql_bool aG.out rfl rfl (by decide) ?_
   refine ah (cF (ao (ak (aj (sr (bG ?_))))))
   refine bI hh 2 ?_
   refine bG ?_
   refine bI hh 1 ?_
   refine bC hh (mR a b _ ha hb) rfl ?_
   intro w25 hh
   rw [iu hlt]
   refine aV (ah (cT (aw ?_)))
   refine dp hh 1 [_,_] ?_
   refine dp hh 2 [_,_] ?_
   refine bL hh 2 [_,_] ?_
   intro ws hh
   replace hh : Hp _ (_ :: _ :: .blk _ _ [_, _] _ :: _) _ := hh
   refine bL hh 1 [_,_] ?_
   intro ws hh
   replace hh : Hp _ (_ :: .blk _ _ [_, _] _ :: _) _ := hh
   refine ah (sr (bG ?_))
   refine bI hh 2 ?_
   refine bG ?_
   refine bI hh 1 ?_
   refine bC hh (j8 b a _ hb ha) rfl ?_
   intro w34 hh
   refine mT ?_
   refine dw ?_
   refine dw ?_
   refine aS (aB (ah (sr (mS (bG ?_)))))
   refine bI hh 2 ?_
   refine eD [_,_] ?_
   refine bL hh 0 [_,_] ?_
   intro ws hh
   replace hh : Hp _ (.blk _ _ [_, _] _ :: _) _ := hh
   refine ah (aq ?_)
   refine gL (aQ rfl (aP (vs := [_, _]) aD.out (hh.ax (i := 0) (n := 2) rfl rfl) rfl) bh) ?_
   rw [e1, ou, if_neg hst, if_pos hlt]
   exact ⟨rfl, hh.below⟩
  ·have e1 := hiv s (bN a - bN b) (iv s a + iv t b) (by unfold iv; cases s <;> cases t <;> simp at hst ⊢ <;> omega)
   have hc : ¬ gX (bN a) (bN b) < 0 := by unfold gX; split <;> (try split) <;> omega
   refine al (N := 41) (l := [.agg #[.string a, .bool s], .agg #[.string b, .bool t]]) Tryz.func199 rfl rfl (by simp) ?_
   refine sr ?_
   refine df hh [_,_] ?_
   intro b2 w2 hh
   refine df hh [_,_] ?_
   intro b3 w3 hh
   refine cx hh ?_
   intro b4 w4 hh
   refine ah (aj (sr (bG ?_)))
   refine bI hh 2 ?_
   refine bG ?_
   refine bI hh 1 ?_
   first | refine je aG.out rfl rfl (by first | rfl | assumption) (by decide) ?_ | refine js aG.out rfl rfl (by first | rfl | assumption | decide) (by decide) ?_ | refine s_eql_bool aG.out rfl rfl (by decide) ?_
   refine ah (cF (ao (ak (aj (sr (bG ?_))))))
   refine bI hh 2 ?_
   refine bG ?_
   refine bI hh 1 ?_
   refine bC hh (mR a b _ ha hb) rfl ?_
   intro w25 hh
   refine aV (ah (cF (ao (ak (sr (bG ?_))))))
   refine bI hh 2 ?_
   refine bG ?_
   refine bI hh 1 ?_
   refine bC hh (j8 a b _ ha hb) rfl ?_
   intro w34 hh
   refine mT ?_
   refine dw ?_
   refine dw ?_
   refine aS (aB (ah (sr (mS (bG ?_)))))
   refine bI hh 2 ?_
   refine eD [_,_] ?_
   refine bL hh 0 [_,_] ?_
   intro ws hh
   replace hh : Hp _ (.blk _ _ [_, _] _ :: _) _ := hh
   refine ah (aq ?_)
   refine gL (aQ rfl (aP (vs := [_, _]) aD.out (hh.ax (i := 0) (n := 2) rfl rfl) rfl) bh) ?_
   rw [e1, ou, if_neg hst, if_neg hlt]
   exact ⟨rfl, hh.below⟩
theorem oW (s t : Bool) (a b : ByteArray) (w : World) (ha : a.size ≤ 1000000000) (hb : b.size ≤ 1000000000) :
  Calls Tryz.prog 202 #[.agg #[.string a, .bool s], .agg #[.string b, .bool t]] w fun e w' => e = .returned (.agg #[.string (iM (iv s a * iv t b)), .bool (s != t)]) ∧ Below w.heap.size w w' := by
 have hh := Hp.start w
 have e0 : (iv s a * iv t b).natAbs = bN a * bN b := by rw [Int.natAbs_mul, gq, gq]
 have e1 : iM (iv s a * iv t b) = sN (bN a * bN b) := by rw [iM, e0]
 refine al (N := 16) (l := [.agg #[.string a, .bool s], .agg #[.string b, .bool t]]) Tryz.func202 rfl rfl (by simp) ?_
 refine sr ?_
 refine df hh [_,_] ?_
 intro b2 w2 hh
 refine df hh [_,_] ?_
 intro b3 w3 hh
 refine cx hh ?_
 intro b4 w4 hh
 refine ah (aj ?_)
 refine a4 10 [[(2, none)], [(5, some 0)], [(3, none)], [(7, some 2)], [(6, some 1), (8, some 3)], [(2, none)], [(10, some 5)], [(3, none)], [(12, some 7)], [(11, some 6), (13, some 8)]] [(9, 14), (8, 13), (7, 12), (6, 11), (5, 10), (4, 9), (3, 8), (2, 7), (1, 6), (0, 5)] hh mixed (by kernel_rfl) ?_
 refine dx ?_
 refine fi 2 ?_
 refine dx ?_
 refine fi 1 ?_
 refine dC (fun _ hj => o4 a b _ ha hb) ?_
 refine dx ?_
 refine fi 2 ?_
 refine dx ?_
 refine fi 1 ?_
 first | refine bm (i := 9) (fun ρ1 w1 hj hR => sI aG.out (show ρ1 11 = Value.bool _ from hR.1) (show ρ1 13 = Value.bool _ from hR.2.1) (by first | rfl | assumption)) ?_ | refine bm (i := 9) (fun ρ1 w1 hj hR => tg aG.out (show ρ1 11 = Value.bool _ from hR.1) (show ρ1 13 = Value.bool _ from hR.2.1) (by first | assumption | decide)) ?_ | refine bm (i := 9) (fun ρ1 w1 hj hR => jU aG.out (show ρ1 11 = Value.bool _ from hR.1) (show ρ1 13 = Value.bool _ from hR.2.1)) ?_
 refine bp ?_
 intro f W hJ hV
 have hb_1 := hJ.bl
 obtain ⟨v14, v13, v12, v11, v10, v9, v8, v7, v6, v5, _⟩ := hV
 replace hh := hJ.hp
 refine a6 (bu (ai v14 (ai v13 (ai v12 (ai v11 (ai v10 (ai v9 (ai v8 (ai v7 (ai v6 (ai v5 a5))))))))))) ?_
 dsimp only [cC]
 clear hJ
 refine eD [_,_] ?_
 refine bL hh 0 [_,_] ?_
 intro ws hh
 replace hh : Hp _ (.blk _ _ [_, _] _ :: _) _ := hh
 refine ah (aq ?_)
 refine gL (aQ rfl (aP (vs := [_, _]) aD.out (hh.ax (i := 0) (n := 2) rfl rfl) rfl) bh) ?_
 rw [e1]
 exact ⟨rfl, hh.below⟩
theorem kX (n : Int) (w : World) (h1 : -9223372036854775808 ≤ n) (h2 : n ≤ 9223372036854775807) :
  Calls Tryz.prog 158 #[.int .i64 n] w fun e w' => e = .returned (.agg #[.bool (iN n), .string (iM n)]) ∧ Below w.heap.size w w' := by
 have hh := Hp.start w
 by_cases h0 : n < 0
 ·have e1 : iv true (sN n.natAbs) = n := by unfold iv; rw [dP, if_pos rfl]; omega
  have hw : IntKind.u64.wrap n = ((18446744073709551616 - n.natAbs : Nat) : Int) := by
   rw [show n = ((18446744073709551616 - n.natAbs : Nat) : Int) + -((18446744073709551616 : Nat) : Int) by omega]
   have := UK.wrap_add (k := .u64) (((18446744073709551616 - n.natAbs : Nat) : Int) + -((18446744073709551616 : Nat) : Int))
   rw [← this, Int.neg_add_cancel_right, UK.kB (by omega)]
   omega
  have hn : (18446744073709551616 - (18446744073709551616 - n.natAbs)) % 18446744073709551616 = n.natAbs := by omega
  refine al (N := 16) (l := [.int .i64 n]) Tryz.func158 rfl rfl (by simp) ?_
  refine sr ?_
  refine cx hh ?_
  intro b2 w2 hh
  refine ah (aj (sr (mI ?_)))
  refine aV (ah (cT (sr (mI ?_))))
  refine mq aG.out aG.out rfl (by decide) ?_
  rw [hw]
  refine wa rfl (by omega) (by decide) ?_
  rw [hn]
  skip
  refine bC hh (lH n.natAbs _ (by omega)) rfl ?_
  intro w8 hh
  refine eD [_,_] ?_
  refine bC hh (cM true (sN n.natAbs) _) rfl ?_
  intro w10 hh
  rw [e1]
  refine bL hh 0 [_,_] ?_
  intro ws hh
  replace hh : Hp _ (.blk _ _ [_, _] _ :: _) _ := hh
  refine ah (aq (aJ ?_))
  refine gL (aQ rfl (aP (vs := [_, _]) aD.out (hh.ax (i := 0) (n := 2) rfl rfl) rfl) bh) ?_
  exact ⟨rfl, hh.below⟩
 ·obtain ⟨m, rfl⟩ := Int.eq_ofNat_of_zero_le (by omega : 0 ≤ n)
  have e1 : iv false (sN m) = m := by unfold iv; rw [dP]; simp
  have hm : m < 18446744073709551616 := by omega
  refine al (N := 16) (l := [.int .i64 (m : Int)]) Tryz.func158 rfl rfl (by simp) ?_
  refine sr ?_
  refine cx hh ?_
  intro b2 w2 hh
  refine ah (aj (sr (mI ?_)))
  refine aV (ah (cF (ao (ak (sr (mI ?_))))))
  first | refine cH aG.out aG.out rfl (by first | assumption | omega) (by decide) ?_ | refine eI aG.out aG.out rfl (by decide) ?_
  refine bC hh (lH m _ hm) rfl ?_
  intro w13 hh
  refine eD [_,_] ?_
  refine bC hh (cM false (sN m) _) rfl ?_
  intro w15 hh
  rw [e1]
  refine bL hh 0 [_,_] ?_
  intro ws hh
  replace hh : Hp _ (.blk _ _ [_, _] _ :: _) _ := hh
  refine ah (aq ?_)
  refine gL (aQ rfl (aP (vs := [_, _]) aD.out (hh.ax (i := 0) (n := 2) rfl rfl) rfl) bh) ?_
  exact ⟨rfl, hh.below⟩
end Go.Proofs.YtkgdagjklakajaaGreatDoor
namespace Go.Proofs.YtkgdagjklakajaaGreatDoor
open Go.RowKit
structure IR where
 neg : Bool
 cq : ByteArray
def IR.cells (a : IR) : List Value := [.bool a.neg, .string a.cq]
def IR.v (a : IR) : Int := iv a.neg a.cq
def iR (z : Int) : IR := ⟨iN z, iM z⟩
theorem zu (z : Int) : (iR z).v = z := ff z
theorem IR.len (a : IR) : a.cells.length = 2 := rfl
theorem j3 (x y : Int) : br (x + y).natAbs ≤ max (br x.natAbs) (br y.natAbs) + 1 := by
 apply cJ
 have h1 := cD x.natAbs
 have h2 := cD y.natAbs
 have h3 : 2 ^ br x.natAbs ≤ 2 ^ max (br x.natAbs) (br y.natAbs) := Nat.pow_le_pow_right (by omega) (Nat.le_max_left _ _)
 have h4 : 2 ^ br y.natAbs ≤ 2 ^ max (br x.natAbs) (br y.natAbs) := Nat.pow_le_pow_right (by omega) (Nat.le_max_right _ _)
 rw [Nat.pow_succ]
 omega
theorem kp (s : Bool) (m : ByteArray) : br (iv s m).natAbs ≤ 8 * m.size := by rw [gq]; exact eT m
theorem ue (l : List Int) (x : Int) : (l ++ [x]).sum = l.sum + x := by simp
theorem mf (L : Option Addr) (n c : Nat) (l : List IR) (w : World) (hS : Sl w L n 2 (a8 IR.cells l)) (hn : n ≤ 1000000) (hs : ∀ s ∈ l, s.cq.size ≤ 100000000) :
  Calls Tryz.prog 156 #[.slice L n c] w fun e w' => e = .returned (.agg #[.bool (iN (l.map IR.v).sum), .string (iM (l.map IR.v).sum)]) ∧ Below w.heap.size w w' := by
 have hl := hS.bV IR.len (by omega)
 have hh := Hp.start w
 refine al (N := 19) (l := [.slice L n c]) Tryz.func156 rfl rfl (by simp) ?_
 refine sr ?_
 refine cx hh ?_
 intro b2 w2 hh
 refine ah (sr ?_)
 refine cx hh ?_
 intro b3 w3 hh
 refine ah (aj (sr (mL (a0 (mI (ah (ar ?_)))))))
 refine bA [5, 8, 9, 10, 11, 12, 13, 14, 15, 16] 8
  (fun j w' => ∃ (i : Nat) (u : Bool) (S : Int), i ≤ n ∧ j = .int .i64 i ∧ S = ((l.take i).map IR.v).sum ∧ iv u (iM S) = S ∧ br S.natAbs ≤ 800000000 + i ∧ Hp w [.blk b3 190 [.string (iM S), .bool u] (0, 0), .blk b2 24 [.bool false, .string (ByteArray.mk #[])] (0, 0)] w')
  (fun j _ => n - (intOf j).toNat) ?_ ?_
 ·exact ⟨0, false, 0, Nat.zero_le _, rfl, rfl, by rw [iM]; exact congrArg _ (dP 0), by simp [g2], by rw [iM, Int.natAbs_zero, fO]; exact hh⟩
 ·clear hh
  rintro ρ' j w' ⟨i, u, S, hi, rfl, hS2, hu, hb, hh⟩
  by_cases hlt : i < n
  ·obtain ⟨x, hx⟩ := aH (l := l) (k := i) (by omega)
   obtain ⟨ad, rfl, hr⟩ := hS.at_ (by omega)
   have hxs := hs x (List.mem_of_getElem? hx)
   have hS3 : ((l.take (i + 1)).map IR.v).sum = S + x.v := by rw [aT hx, List.map_append, List.map_singleton, ue, hS2]
   have hms : (iM S).size ≤ 1000000000 := by rw [dF]; omega
   have hbx := kp x.neg x.cq
   have hba := j3 S x.v
   have hpl := wQ u x.neg (iM S) x.cq
   rw [hu] at hpl
   have hwc := fun w1 => p8 u x.neg (iM S) x.cq w1 hms (by omega)
   rw [hu] at hwc
   refine sr ?_
   refine aV (ah (aj (cT (ao (ak (aj (ar (sr ?_))))))))
   refine aY (k := i) aG.out aD.size rfl rfl (by omega) (by omega) (by decide) ?_
   refine bS (vs := [_, _]) aD.out rfl (((hr.ext hh.below).recAt IR.len hx)) rfl (by decide) ?_
   refine cx hh ?_
   intro b5 w5 hh
   refine bL hh 0 [_,_] ?_
   intro ws hh
   replace hh : Hp _ (.blk _ _ [_, _] _ :: _) _ := hh
   refine ah ?_
   refine a4 3 [[(3, none)], [(5, none)], [(13, some 1)]] [(2, 14), (1, 13), (0, 12)] hh mixed (by kernel_rfl) ?_
   refine gy 1 [_,_] ?_
   refine gy 0 [_,_] ?_
   refine dC (fun _ hj => jq x.neg x.cq _) ?_
   refine bp ?_
   intro f W hJ hV
   have hb_5 := hJ.bl
   obtain ⟨v14, v13, v12, _⟩ := hV
   replace hh := hJ.hp
   refine a6 (bu (ai v14 (ai v13 (ai v12 a5)))) ?_
   dsimp only [cC]
   clear hJ
   refine bC hh (hwc _) rfl ?_
   intro w15 hh
   refine bL hh 1 [_,_] ?_
   intro ws hh
   replace hh : Hp _ (_ :: .blk _ _ [_, _] _ :: _) _ := hh
   refine aE (aW (ak (aw ?_)))
   refine bJ (mI (aE (ak ?_)))
   replace hh := hh.sub (List.sublist_cons_self _ _)
   refine ⟨⟨i + 1, _, _, by omega, rfl, hS3.symm, hpl, by unfold IR.v at hba ⊢; omega, hh⟩, by show n - (i + 1) < n - i; omega, ?_⟩
   (repeat (first | exact az _ _ _ | refine aC rfl ?_ | refine ay rfl ?_))
  ·refine sr ?_
   refine aV (ah (aj (cF ?_)))
   refine aX ?_
   refine aA (aA (bj (ak (sr ?_))))
   refine dp hh 0 [_,_] ?_
   refine bC hh (cM u (iM S) _) rfl ?_
   intro w18 hh
   rw [hu]
   refine bL hh 1 [_,_] ?_
   intro ws hh
   replace hh : Hp _ (_ :: .blk _ _ [_, _] _ :: _) _ := hh
   refine ah (aq ?_)
   refine gL (aQ rfl (aP (vs := [_, _]) aD.out (hh.ax (i := 1) (n := 2) rfl rfl) rfl) bh) ?_
   rw [List.take_of_length_le (by omega)] at hS2
   rw [hS2]
   exact ⟨rfl, hh.below⟩
theorem pL (s : Bool) (b : ByteArray) : (iM (-(iv s b))).size ≤ b.size := by
 have := kp s b
 rw [dF, Int.natAbs_neg]; omega
theorem rQ (s t : Bool) (a b : ByteArray) (w : World) (ha : a.size ≤ 100000000) (hb : b.size ≤ 100000000) :
  Calls Tryz.prog 225 #[.agg #[.bool s, .string a], .agg #[.bool t, .string b]] w fun e w' => e = .returned (.agg #[.bool (iN (iv s a - iv t b)), .string (iM (iv s a - iv t b))]) ∧ Below w.heap.size w w' := by
 have hh := Hp.start w
 have h1 := pL t b
 have e1 : ([IR.mk s a, iR (-(iv t b))].map IR.v).sum = iv s a - iv t b := by
  simp only [List.map_cons, List.map_nil, List.sum_cons, List.sum_nil, zu]
  simp only [IR.v]; omega
 refine al (N := 10) (l := [.agg #[.bool s, .string a], .agg #[.bool t, .string b]]) Tryz.func225 rfl rfl (by simp) ?_
 refine sr ?_
 refine df hh [_,_] ?_
 intro b2 w2 hh
 refine df hh [_,_] ?_
 intro b3 w3 hh
 refine cx hh ?_
 intro b4 w4 hh
 refine ah (aj ?_)
 refine a4 3 [[(2, none)], [(3, none)], [(6, some 1)]] [(2, 7), (1, 6), (0, 5)] hh mixed (by kernel_rfl) ?_
 refine gy 2 [_,_] ?_
 refine gy 1 [_,_] ?_
 refine dC (fun _ hj => rD t b _) ?_
 refine bp ?_
 intro f W hJ hV
 have hb_1 := hJ.bl
 obtain ⟨v7, v6, v5, _⟩ := hV
 replace hh := hJ.hp
 refine a6 (bu (ai v7 (ai v6 (ai v5 a5)))) ?_
 dsimp only [cC]
 clear hJ
 refine bf hh (cs := [_, _, _, _]) aG.out aD.out (aZ (cu rfl) (aZ (cu rfl) bQ)) rfl rfl (by decide) (by decide) (by decide) rfl (by decide) ?_
 intro b8 w8 hh
 refine bC hh (mf _ 2 _ [IR.mk s a, iR (-(iv t b))] _ (hh.aM (i := 0) rfl) (by omega) (by simp [iR]; omega)) rfl ?_
 intro w9 hh
 rw [e1]
 refine bL hh 1 [_,_] ?_
 intro ws hh
 replace hh : Hp _ (_ :: .blk _ _ [_, _] _ :: _) _ := hh
 refine ah (aq ?_)
 refine gL (aQ rfl (aP (vs := [_, _]) aD.out (hh.ax (i := 1) (n := 2) rfl rfl) rfl) bh) ?_
 exact ⟨rfl, hh.below⟩
theorem vk (a b : Nat) : br (a * b) ≤ br a + br b := by
 apply cJ
 rw [Nat.pow_add]
 exact Nat.mul_lt_mul'' (cD a) (cD b)
theorem j2 (a b : Int) : br (a * b).natAbs ≤ br a.natAbs + br b.natAbs := by rw [Int.natAbs_mul]; exact vk _ _
def iD : List Int → Int
 | [] => 1
 | x :: l => x * iD l
theorem sa (l : List Int) (x : Int) : iD (l ++ [x]) = iD l * x := by
 induction l with
 | nil => simp [iD]
 | cons y l ih => simp only [List.cons_append, iD, ih, Int.mul_assoc]
theorem pR (l : List Nat) (i : Nat) : (l.take i).sum ≤ l.sum := by
 rw [← List.sum_append_nat.symm.trans (congrArg List.sum (List.take_append_drop i l))]; omega
theorem qd : br 1 = 1 := by decide +kernel
theorem r8 (L : Option Addr) (n c : Nat) (l : List IR) (w : World) (hS : Sl w L n 2 (a8 IR.cells l)) (hn : n ≤ 1000000) (hs : (l.map fun a => a.cq.size).sum ≤ 100000000) :
  Calls Tryz.prog 157 #[.slice L n c] w fun e w' => e = .returned (.agg #[.bool (iN (iD (l.map IR.v))), .string (iM (iD (l.map IR.v)))]) ∧ Below w.heap.size w w' := by
 have hl := hS.bV IR.len (by omega)
 have hh := Hp.start w
 have hsum := pR (l.map fun a => a.cq.size)
 refine al (N := 21) (l := [.slice L n c]) Tryz.func157 rfl rfl (by simp) ?_
 refine sr ?_
 refine cx hh ?_
 intro b2 w2 hh
 refine ah (sr ?_)
 refine bC hh (kX 1 _ (by omega) (by omega)) rfl ?_
 intro w6 hh
 refine bC hh (jq _ _ _) rfl ?_
 intro w7 hh
 refine cx hh ?_
 intro b3 w3 hh
 refine bL hh 0 [_,_] ?_
 intro ws hh
 replace hh : Hp _ (.blk _ _ [_, _] _ :: _) _ := hh
 refine ah (aj (sr (mL (a0 (mI (ah (ar ?_)))))))
 refine bA [5, 10, 11, 12, 13, 14, 15, 16, 17, 18] 10
  (fun j w' => ∃ (i : Nat) (u : Bool) (S : Int), i ≤ n ∧ j = .int .i64 i ∧ S = iD ((l.take i).map IR.v) ∧ iv u (iM S) = S ∧ br S.natAbs ≤ 1 + 8 * ((l.map fun a => a.cq.size).take i).sum ∧ Hp w [.blk b3 190 [.string (iM S), .bool u] (0, 0), .blk b2 24 [.bool false, .string (ByteArray.mk #[])] (0, 0)] w')
  (fun j _ => n - (intOf j).toNat) ?_ ?_
 ·exact ⟨0, _, 1, Nat.zero_le _, rfl, rfl, ff 1, by rw [Int.natAbs_one, qd]; omega, hh⟩
 ·clear hh
  rintro ρ' j w' ⟨i, u, S, hi, rfl, hS2, hu, hb, hh⟩
  by_cases hlt : i < n
  ·obtain ⟨x, hx⟩ := aH (l := l) (k := i) (by omega)
   obtain ⟨ad, rfl, hr⟩ := hS.at_ (by omega)
   have hsi := hsum i
   have hsi2 := hsum (i + 1)
   have hsz : ((l.map fun a => a.cq.size).take (i + 1)).sum = ((l.map fun a => a.cq.size).take i).sum + x.cq.size := by
    rw [aT (x := x.cq.size) (by rw [List.getElem?_map, hx]; rfl), kM]
   have hS3 : iD ((l.take (i + 1)).map IR.v) = S * x.v := by rw [aT hx, List.map_append, List.map_singleton, sa, hS2]
   have hms : (iM S).size ≤ 1000000000 := by rw [dF]; omega
   have hbx := kp x.neg x.cq
   have hba := j2 S x.v
   have hpl := vd u x.neg (iM S) x.cq
   rw [hu] at hpl
   have hwc := fun w1 => oW u x.neg (iM S) x.cq w1 hms (by omega)
   rw [hu] at hwc
   refine sr ?_
   refine aV (ah (aj (cT (ao (ak (aj (ar (sr ?_))))))))
   refine aY (k := i) aG.out aD.size rfl rfl (by omega) (by omega) (by decide) ?_
   refine bS (vs := [_, _]) aD.out rfl (((hr.ext hh.below).recAt IR.len hx)) rfl (by decide) ?_
   refine cx hh ?_
   intro b5 w5 hh
   refine bL hh 0 [_,_] ?_
   intro ws hh
   replace hh : Hp _ (.blk _ _ [_, _] _ :: _) _ := hh
   refine ah ?_
   refine a4 3 [[(3, none)], [(5, none)], [(15, some 1)]] [(2, 16), (1, 15), (0, 14)] hh mixed (by kernel_rfl) ?_
   refine gy 1 [_,_] ?_
   refine gy 0 [_,_] ?_
   refine dC (fun _ hj => jq x.neg x.cq _) ?_
   refine bp ?_
   intro f W hJ hV
   have hb_5 := hJ.bl
   obtain ⟨v16, v15, v14, _⟩ := hV
   replace hh := hJ.hp
   refine a6 (bu (ai v16 (ai v15 (ai v14 a5)))) ?_
   dsimp only [cC]
   clear hJ
   refine bC hh (hwc _) rfl ?_
   intro w17 hh
   refine bL hh 1 [_,_] ?_
   intro ws hh
   replace hh : Hp _ (_ :: .blk _ _ [_, _] _ :: _) _ := hh
   refine aE (aW (ak (aw ?_)))
   refine bJ (mI (aE (ak ?_)))
   replace hh := hh.sub (List.sublist_cons_self _ _)
   refine ⟨⟨i + 1, _, _, by omega, rfl, hS3.symm, hpl, by unfold IR.v at hba ⊢; omega, hh⟩, by show n - (i + 1) < n - i; omega, ?_⟩
   (repeat (first | exact az _ _ _ | refine aC rfl ?_ | refine ay rfl ?_))
  ·refine sr ?_
   refine aV (ah (aj (cF ?_)))
   refine aX ?_
   refine aA (aA (bj (ak (sr ?_))))
   refine dp hh 0 [_,_] ?_
   refine bC hh (cM u (iM S) _) rfl ?_
   intro w20 hh
   rw [hu]
   refine bL hh 1 [_,_] ?_
   intro ws hh
   replace hh : Hp _ (_ :: .blk _ _ [_, _] _ :: _) _ := hh
   refine ah (aq ?_)
   refine gL (aQ rfl (aP (vs := [_, _]) aD.out (hh.ax (i := 1) (n := 2) rfl rfl) rfl) bh) ?_
   rw [List.take_of_length_le (by omega)] at hS2
   rw [hS2]
   exact ⟨rfl, hh.below⟩
theorem qk (M k : Nat) (h : 2 ^ k ∣ M) : -((M / 2 ^ k : Nat) : Int) = -(M : Int) / 2 ^ k := by
 obtain ⟨q, rfl⟩ := h
 have hp : (0 : Int) < 2 ^ k := Int.pow_pos (by omega)
 rw [Nat.mul_div_cancel_left _ (Nat.pow_pos (by omega)), Int.natCast_mul, ← Int.mul_neg, Int.natCast_pow]
 exact (Int.mul_ediv_cancel_left _ (by exact Int.ne_of_gt hp)).symm
theorem o9 (M k : Nat) (h : ¬ 2 ^ k ∣ M) : -((M / 2 ^ k : Nat) : Int) - 1 = -(M : Int) / 2 ^ k := by
 have hp : (0 : Int) < 2 ^ k := Int.pow_pos (by omega)
 have h1 := Nat.div_add_mod M (2 ^ k)
 have h2 := Nat.mod_lt M (Nat.pow_pos (n := k) (show 0 < 2 by omega))
 have h3 : M % 2 ^ k ≠ 0 := fun h0 => h (Nat.dvd_of_mod_eq_zero h0)
 have hc : ((2 ^ k : Nat) : Int) = 2 ^ k := by simp
 symm
 rw [Int.ediv_eq_iff_of_pos hp, ← hc]
 have h4 : (M : Int) = (2 ^ k : Nat) * (M / 2 ^ k : Nat) + (M % 2 ^ k : Nat) := by rw [← Int.natCast_mul, ← Int.natCast_add, h1]
 generalize hK : ((2 ^ k : Nat) : Int) = K at *
 generalize ((M / 2 ^ k : Nat) : Int) = q at *
 have e : (-q - 1) * K = -(K * q) - K := by rw [Int.sub_mul, Int.neg_mul, Int.mul_comm q]; omega
 have e2 : (-q - 1 + 1) * K = -(K * q) := by rw [Int.sub_add_cancel, Int.neg_mul, Int.mul_comm]
 omega
theorem uW {M k : Nat} (h0 : M ≠ 0) : 2 ^ k ∣ M ↔ k ≤ tz M := by
 obtain ⟨m, hm⟩ := lR h0
 generalize tz M = t at *
 constructor
 ·intro h
  rcases Nat.lt_or_ge t k with hlt | hge
  ·exfalso
   obtain ⟨q, hq⟩ := h
   rw [hm, show k = t + (1 + (k - t - 1)) by omega, Nat.pow_add, Nat.pow_add, Nat.mul_assoc] at hq
   have := Nat.eq_of_mul_eq_mul_left (Nat.pow_pos (by omega)) hq
   rw [Nat.pow_one, Nat.mul_assoc] at this
   omega
  ·exact hge
 ·intro h
  rw [hm]
  exact Nat.dvd_trans (Nat.pow_dvd_pow 2 h) (Nat.dvd_mul_right _ _)
end Go.Proofs.YtkgdagjklakajaaGreatDoor
namespace Go.Proofs.YtkgdagjklakajaaGreatDoor
open Go.RowKit
theorem yt (s : Bool) (a : ByteArray) (m : Nat) : iv s (sN (bN a * 2 ^ m)) = iv s a * 2 ^ m := by
 unfold iv
 rw [dP]
 cases s <;> simp [Int.natCast_mul, Int.neg_mul]
theorem rH (s : Bool) (a : ByteArray) (m : Nat) (w : World) (ha : a.size ≤ 100000000) (hm : m ≤ 1000000000) :
  Calls Tryz.prog 198 #[.agg #[.bool s, .string a], .int .i64 (m : Int)] w fun e w' => e = .returned (.agg #[.bool (iN (iv s a * 2 ^ m)), .string (iM (iv s a * 2 ^ m))]) ∧ Below w.heap.size w w' := by
 have hh := Hp.start w
 refine al (N := 47) (l := [.agg #[.bool s, .string a], .int .i64 (m : Int)]) Tryz.func198 rfl rfl (by simp) ?_
 refine sr ?_
 refine df hh [_,_] ?_
 intro b2 w2 hh
 refine cx hh ?_
 intro b4 w4 hh
 refine ah (aj (sr (mI ?_)))
 refine dh (ah (cT (aj ?_)))
 refine a4 6 [[(2, none)], [(8, some 0)], [(1, none)], [(9, some 1), (10, some 2)], [(2, none)], [(12, some 4)]] [(5, 13), (4, 12), (3, 11), (2, 10), (1, 9), (0, 8)] hh mixed (by kernel_rfl) ?_
 refine dx ?_
 refine fi 1 ?_
 refine eG ?_
 refine dC (fun _ hj => oS a m _ (by omega) (by omega)) ?_
 refine dx ?_
 refine fi 1 ?_
 refine bp ?_
 intro f W hJ hV
 have hb_2 := hJ.bl
 obtain ⟨v13, v12, v11, v10, v9, v8, _⟩ := hV
 replace hh := hJ.hp
 refine a6 (bu (ai v13 (ai v12 (ai v11 (ai v10 (ai v9 (ai v8 a5))))))) ?_
 dsimp only [cC]
 clear hJ
 refine eD [_,_] ?_
 refine bC hh (cM s (sN (bN a * 2 ^ m)) _) rfl ?_
 intro w15 hh
 rw [yt]
 refine bL hh 0 [_,_] ?_
 intro ws hh
 replace hh : Hp _ (.blk _ _ [_, _] _ :: _) _ := hh
 refine ah (aq (aJ ?_))
 refine gL (aQ rfl (aP (vs := [_, _]) aD.out (hh.ax (i := 0) (n := 2) rfl rfl) rfl) bh) ?_
 exact ⟨rfl, hh.below⟩
theorem ri (s : Bool) (a : ByteArray) (m : Nat) (w : World) (hT : fS w) (ha : a.size ≤ 100000000) (h0 : 0 < m) (hm : m ≤ 1000000000000) :
  Calls Tryz.prog 198 #[.agg #[.bool s, .string a], .int .i64 (-(m : Int))] w fun e w' => e = .returned (.agg #[.bool (iN (iv s a / 2 ^ m)), .string (iM (iv s a / 2 ^ m))]) ∧ Below w.heap.size w w' := by
 have hh := Hp.start w
 have e1 : (if (-1099511627776 : Int) > -(m : Int) then -1099511627776 else -(m : Int)) = -(m : Int) := if_neg (by omega)
 have e2 : -(-(m : Int)) = (m : Int) := by omega
 have hcs : ∀ w1, Calls Tryz.prog 223 #[.string a, .int .i64 (-(-(m : Int)))] w1 fun e w' => e = .returned (.string (sN (bN a / 2 ^ m))) ∧ Below w1.heap.size w1 w' := fun w1 => by
  rw [e2]; exact o5 a m w1 (by omega) (by omega)
 cases s with
 | false =>
  have e3 : iv false (sN (bN a / 2 ^ m)) = iv false a / 2 ^ m := by
   unfold iv
   rw [dP]
   simp
  refine al (N := 47) (l := [.agg #[.bool false, .string a], .int .i64 (-(m : Int))]) Tryz.func198 rfl rfl (by simp) ?_
  refine sr ?_
  refine df hh [_,_] ?_
  intro b2 w2 hh
  refine cx hh ?_
  intro b4 w4 hh
  refine ah (aj (sr (mI ?_)))
  refine dh (ah (cF (ao (ak (sr (mI ?_))))))
  refine iU rfl rfl (by decide) ?_
  refine aI (ah (aj ?_))
  rw [e1]
  refine a4 10 [[(2, none)], [(18, some 0)], [(1, none)], [(20, some 2)], [(19, some 1), (21, some 3)], [(2, none)], [(23, some 5)], [(22, some 4), (24, some 6)], [(25, some 7)], []] [(9, 5), (8, 26), (7, 25), (6, 24), (5, 23), (4, 22), (3, 21), (2, 20), (1, 19), (0, 18)] hh mixed (by kernel_rfl) ?_
  refine dx ?_
  refine fi 1 ?_
  refine eG ?_
  refine bm (i := 3) (fun ρ1 w1 hj hR => mb (show ρ1 20 = Value.int _ _ from hR.1) (by omega) (by omega)) ?_
  refine dC (fun _ hj => hcs _) ?_
  refine dx ?_
  refine fi 1 ?_
  refine dB [_,_] ?_
  refine dC (fun _ hj => cM false (sN (bN a / 2 ^ m)) _) ?_
  refine bW (i := 9) (dr _ 24 _) dr.ext (fun ρ1 w1 hj hR => hG aD.out hj.bl (fun v w2 h hb => ⟨hb, h⟩)) ?_
  refine bp ?_
  intro f W hJ hV
  have hb_4 := hJ.bl
  obtain ⟨v5, v26, v25, v24, v23, v22, v21, v20, v19, v18, _⟩ := hV
  obtain ⟨b5, e5, hl5, hc5⟩ : dr _ _ _ (f 9) W := v5
  replace hh := hJ.newVar hh hl5 hc5
  refine a6 (bu (ai e5 (ai v26 (ai v25 (ai v24 (ai v23 (ai v22 (ai v21 (ai v20 (ai v19 (ai v18 a5))))))))))) ?_
  dsimp only [cC]
  clear e5 hJ
  rw [e3]
  refine bL hh 0 [_,_] ?_
  intro ws hh
  replace hh : Hp _ (.blk _ _ [_, _] _ :: _) _ := hh
  refine ah (aj (sr (bG ?_)))
  refine bI hh 2 ?_
  refine mB ?_
  first | refine gS ?_ | (refine gT ?_; refine bG ?_) | refine gV ?_
  first | refine gS ?_ | (refine gT ?_; refine bI hh 2 ?_) | refine gV ?_
  refine bH (by decide) rfl rfl (by decide) ?_
  first | refine gS ?_ | (refine gT ?_; refine cb ?_) | refine gV ?_
  first | refine cU ?_ | refine cV ?_
  refine mB ?_
  first | refine gS ?_ | (refine gT ?_; refine bG ?_) | refine gV ?_
  first | refine gS ?_ | (refine gT ?_; refine bI hh 2 ?_) | refine gV ?_
  refine bH (by decide) rfl rfl (by decide) ?_
  first | refine gS ?_ | (refine gT ?_; refine mI ?_) | refine gV ?_
  first | refine gS ?_ | (refine gT ?_; refine kV rfl (by omega) (by omega) (by decide) ?_) | refine gV ?_
  first | refine gS ?_ | (refine gT ?_; refine aV ?_) | refine gV ?_
  first | refine cU ?_ | refine cV ?_
  refine ah (cF (ao (ak (sr ?_))))
  refine dp hh 0 [_,_] ?_
  refine bL hh 1 [_,_] ?_
  intro ws hh
  replace hh : Hp _ (_ :: .blk _ _ [_, _] _ :: _) _ := hh
  refine ah (aq ?_)
  refine gL (aQ rfl (aP (vs := [_, _]) aD.out (hh.ax (i := 1) (n := 2) rfl rfl) rfl) bh) ?_
  exact ⟨rfl, hh.below⟩
 | true =>
  have hb := eT a
  have e4 : iv true (sN (bN a / 2 ^ m)) = -((bN a / 2 ^ m : Nat) : Int) := by
   unfold iv
   rw [dP, if_pos rfl]
  have e5 : iv true a = -(bN a : Int) := by unfold iv; rw [if_pos rfl]
  by_cases hz : bN a = 0
  ·have e3 : iv true (sN (bN a / 2 ^ m)) = iv true a / 2 ^ m := by
    rw [e4, e5, hz]; simp
   refine al (N := 47) (l := [.agg #[.bool true, .string a], .int .i64 (-(m : Int))]) Tryz.func198 rfl rfl (by simp) ?_
   refine sr ?_
   refine df hh [_,_] ?_
   intro b2 w2 hh
   refine cx hh ?_
   intro b4 w4 hh
   refine ah (aj (sr (mI ?_)))
   refine dh (ah (cF (ao (ak (sr (mI ?_))))))
   refine iU rfl rfl (by decide) ?_
   refine aI (ah (aj ?_))
   rw [e1]
   refine a4 10 [[(2, none)], [(18, some 0)], [(1, none)], [(20, some 2)], [(19, some 1), (21, some 3)], [(2, none)], [(23, some 5)], [(22, some 4), (24, some 6)], [(25, some 7)], []] [(9, 5), (8, 26), (7, 25), (6, 24), (5, 23), (4, 22), (3, 21), (2, 20), (1, 19), (0, 18)] hh mixed (by kernel_rfl) ?_
   refine dx ?_
   refine fi 1 ?_
   refine eG ?_
   refine bm (i := 3) (fun ρ1 w1 hj hR => mb (show ρ1 20 = Value.int _ _ from hR.1) (by omega) (by omega)) ?_
   refine dC (fun _ hj => hcs _) ?_
   refine dx ?_
   refine fi 1 ?_
   refine dB [_,_] ?_
   refine dC (fun _ hj => cM true (sN (bN a / 2 ^ m)) _) ?_
   refine bW (i := 9) (dr _ 24 _) dr.ext (fun ρ1 w1 hj hR => hG aD.out hj.bl (fun v w2 h hb => ⟨hb, h⟩)) ?_
   refine bp ?_
   intro f W hJ hV
   have hb_4 := hJ.bl
   obtain ⟨v5, v26, v25, v24, v23, v22, v21, v20, v19, v18, _⟩ := hV
   obtain ⟨b5, e5, hl5, hc5⟩ : dr _ _ _ (f 9) W := v5
   replace hh := hJ.newVar hh hl5 hc5
   refine a6 (bu (ai e5 (ai v26 (ai v25 (ai v24 (ai v23 (ai v22 (ai v21 (ai v20 (ai v19 (ai v18 a5))))))))))) ?_
   dsimp only [cC]
   clear e5 hJ
   rw [e3]
   refine bL hh 0 [_,_] ?_
   intro ws hh
   replace hh : Hp _ (.blk _ _ [_, _] _ :: _) _ := hh
   refine ah (aj (sr (bG ?_)))
   refine bI hh 2 ?_
   refine mB ?_
   first | refine gS ?_ | (refine gT ?_; refine bG ?_) | refine gV ?_
   first | refine gS ?_ | (refine gT ?_; refine bI hh 2 ?_) | refine gV ?_
   refine a9 rfl rfl ?_
   refine bC hh (ik a _ (by omega)) rfl ?_
   intro w32 hh
   rw [hz, g2]
   first | refine gS ?_ | (refine gT ?_; refine cb ?_) | refine gV ?_
   first | refine cU ?_ | refine cV ?_
   refine mB ?_
   first | refine gS ?_ | (refine gT ?_; refine bG ?_) | refine gV ?_
   first | refine gS ?_ | (refine gT ?_; refine bI hh 2 ?_) | refine gV ?_
   refine bH (by decide) rfl rfl (by decide) ?_
   first | refine gS ?_ | (refine gT ?_; refine mI ?_) | refine gV ?_
   first | refine gS ?_ | (refine gT ?_; refine kV rfl (by omega) (by omega) (by decide) ?_) | refine gV ?_
   first | refine gS ?_ | (refine gT ?_; refine aV ?_) | refine gV ?_
   first | refine cU ?_ | refine cV ?_
   refine ah (cF (ao (ak (sr ?_))))
   refine dp hh 0 [_,_] ?_
   refine bL hh 1 [_,_] ?_
   intro ws hh
   replace hh : Hp _ (_ :: .blk _ _ [_, _] _ :: _) _ := hh
   refine ah (aq ?_)
   refine gL (aQ rfl (aP (vs := [_, _]) aD.out (hh.ax (i := 1) (n := 2) rfl rfl) rfl) bh) ?_
   exact ⟨rfl, hh.below⟩
  ·have hbp := ks hz
   by_cases hd : 2 ^ m ∣ bN a
   ·have e3 : iv true (sN (bN a / 2 ^ m)) = iv true a / 2 ^ m := by
     rw [e4, e5]; exact qk _ _ hd
    have htz := (uW hz).1 hd
    refine al (N := 47) (l := [.agg #[.bool true, .string a], .int .i64 (-(m : Int))]) Tryz.func198 rfl rfl (by simp) ?_
    refine sr ?_
    refine df hh [_,_] ?_
    intro b2 w2 hh
    refine cx hh ?_
    intro b4 w4 hh
    refine ah (aj (sr (mI ?_)))
    refine dh (ah (cF (ao (ak (sr (mI ?_))))))
    refine iU rfl rfl (by decide) ?_
    refine aI (ah (aj ?_))
    rw [e1]
    refine a4 10 [[(2, none)], [(18, some 0)], [(1, none)], [(20, some 2)], [(19, some 1), (21, some 3)], [(2, none)], [(23, some 5)], [(22, some 4), (24, some 6)], [(25, some 7)], []] [(9, 5), (8, 26), (7, 25), (6, 24), (5, 23), (4, 22), (3, 21), (2, 20), (1, 19), (0, 18)] hh mixed (by kernel_rfl) ?_
    refine dx ?_
    refine fi 1 ?_
    refine eG ?_
    refine bm (i := 3) (fun ρ1 w1 hj hR => mb (show ρ1 20 = Value.int _ _ from hR.1) (by omega) (by omega)) ?_
    refine dC (fun _ hj => hcs _) ?_
    refine dx ?_
    refine fi 1 ?_
    refine dB [_,_] ?_
    refine dC (fun _ hj => cM true (sN (bN a / 2 ^ m)) _) ?_
    refine bW (i := 9) (dr _ 24 _) dr.ext (fun ρ1 w1 hj hR => hG aD.out hj.bl (fun v w2 h hb => ⟨hb, h⟩)) ?_
    refine bp ?_
    intro f W hJ hV
    have hb_4 := hJ.bl
    obtain ⟨v5, v26, v25, v24, v23, v22, v21, v20, v19, v18, _⟩ := hV
    obtain ⟨b5, e5, hl5, hc5⟩ : dr _ _ _ (f 9) W := v5
    replace hh := hJ.newVar hh hl5 hc5
    refine a6 (bu (ai e5 (ai v26 (ai v25 (ai v24 (ai v23 (ai v22 (ai v21 (ai v20 (ai v19 (ai v18 a5))))))))))) ?_
    dsimp only [cC]
    clear e5 hJ
    rw [e3]
    refine bL hh 0 [_,_] ?_
    intro ws hh
    replace hh : Hp _ (.blk _ _ [_, _] _ :: _) _ := hh
    refine ah (aj (sr (bG ?_)))
    refine bI hh 2 ?_
    refine mB ?_
    first | refine gS ?_ | (refine gT ?_; refine bG ?_) | refine gV ?_
    first | refine gS ?_ | (refine gT ?_; refine bI hh 2 ?_) | refine gV ?_
    refine a9 rfl rfl ?_
    refine bC hh (ik a _ (by omega)) rfl ?_
    intro w32 hh
    first | refine gS ?_ | (refine gT ?_; refine cb ?_) | refine gV ?_
    first | refine cU ?_ | refine cV ?_
    refine mB ?_
    first | refine gS ?_ | (refine gT ?_; refine bG ?_) | refine gV ?_
    first | refine gS ?_ | (refine gT ?_; refine bI hh 2 ?_) | refine gV ?_
    refine a9 rfl rfl ?_
    refine bC hh (fZ a _ (by omega) (hT.hp hh)) rfl ?_
    intro w38 hh
    first | refine gS ?_ | (refine gT ?_; refine mI ?_) | refine gV ?_
    first | refine gS ?_ | (refine gT ?_; refine kV rfl (by omega) (by omega) (by decide) ?_) | refine gV ?_
    first | refine gS ?_ | (refine gT ?_; refine aV ?_) | refine gV ?_
    first | refine cU ?_ | refine cV ?_
    refine ah (cF (ao (ak (sr ?_))))
    refine dp hh 0 [_,_] ?_
    refine bL hh 1 [_,_] ?_
    intro ws hh
    replace hh : Hp _ (_ :: .blk _ _ [_, _] _ :: _) _ := hh
    refine ah (aq ?_)
    refine gL (aQ rfl (aP (vs := [_, _]) aD.out (hh.ax (i := 1) (n := 2) rfl rfl) rfl) bh) ?_
    exact ⟨rfl, hh.below⟩
   ·have e3 : iv true (sN (bN a / 2 ^ m)) - 1 = iv true a / 2 ^ m := by
     rw [e4, e5]; exact o9 _ _ hd
    have htz : tz (bN a) < m := Nat.lt_of_not_le fun h => hd ((uW hz).2 h)
    have hsz : (iM (iv true (sN (bN a / 2 ^ m)))).size ≤ 100000000 := by
     have := kb (bN a) m
     rw [dF, gq, dP]; omega
    have hsub : ∀ w1, Calls Tryz.prog 225 #[.agg #[.bool (iN (iv true (sN (bN a / 2 ^ m)))), .string (iM (iv true (sN (bN a / 2 ^ m))))], .agg #[.bool (iN 1), .string (iM 1)]] w1 fun e w' => e = .returned (.agg #[.bool (iN (iv true a / 2 ^ m)), .string (iM (iv true a / 2 ^ m))]) ∧ Below w1.heap.size w1 w' := fun w1 => by
     have := rQ (iN (iv true (sN (bN a / 2 ^ m)))) (iN 1) (iM (iv true (sN (bN a / 2 ^ m)))) (iM 1) w1 hsz (by rw [dF, Int.natAbs_one, qd]; omega)
     rw [ff, ff, e3] at this
     exact this
    refine al (N := 47) (l := [.agg #[.bool true, .string a], .int .i64 (-(m : Int))]) Tryz.func198 rfl rfl (by simp) ?_
    refine sr ?_
    refine df hh [_,_] ?_
    intro b2 w2 hh
    refine cx hh ?_
    intro b4 w4 hh
    refine ah (aj (sr (mI ?_)))
    refine dh (ah (cF (ao (ak (sr (mI ?_))))))
    refine iU rfl rfl (by decide) ?_
    refine aI (ah (aj ?_))
    rw [e1]
    refine a4 10 [[(2, none)], [(18, some 0)], [(1, none)], [(20, some 2)], [(19, some 1), (21, some 3)], [(2, none)], [(23, some 5)], [(22, some 4), (24, some 6)], [(25, some 7)], []] [(9, 5), (8, 26), (7, 25), (6, 24), (5, 23), (4, 22), (3, 21), (2, 20), (1, 19), (0, 18)] hh mixed (by kernel_rfl) ?_
    refine dx ?_
    refine fi 1 ?_
    refine eG ?_
    refine bm (i := 3) (fun ρ1 w1 hj hR => mb (show ρ1 20 = Value.int _ _ from hR.1) (by omega) (by omega)) ?_
    refine dC (fun _ hj => hcs _) ?_
    refine dx ?_
    refine fi 1 ?_
    refine dB [_,_] ?_
    refine dC (fun _ hj => cM true (sN (bN a / 2 ^ m)) _) ?_
    refine bW (i := 9) (dr _ 24 _) dr.ext (fun ρ1 w1 hj hR => hG aD.out hj.bl (fun v w2 h hb => ⟨hb, h⟩)) ?_
    refine bp ?_
    intro f W hJ hV
    have hb_4 := hJ.bl
    obtain ⟨v5, v26, v25, v24, v23, v22, v21, v20, v19, v18, _⟩ := hV
    obtain ⟨b5, e5, hl5, hc5⟩ : dr _ _ _ (f 9) W := v5
    replace hh := hJ.newVar hh hl5 hc5
    refine a6 (bu (ai e5 (ai v26 (ai v25 (ai v24 (ai v23 (ai v22 (ai v21 (ai v20 (ai v19 (ai v18 a5))))))))))) ?_
    dsimp only [cC]
    clear e5 hJ
    refine bL hh 0 [_,_] ?_
    intro ws hh
    replace hh : Hp _ (.blk _ _ [_, _] _ :: _) _ := hh
    refine ah (aj (sr (bG ?_)))
    refine bI hh 2 ?_
    refine mB ?_
    first | refine gS ?_ | (refine gT ?_; refine bG ?_) | refine gV ?_
    first | refine gS ?_ | (refine gT ?_; refine bI hh 2 ?_) | refine gV ?_
    refine a9 rfl rfl ?_
    refine bC hh (ik a _ (by omega)) rfl ?_
    intro w32 hh
    first | refine gS ?_ | (refine gT ?_; refine cb ?_) | refine gV ?_
    first | refine cU ?_ | refine cV ?_
    refine mB ?_
    first | refine gS ?_ | (refine gT ?_; refine bG ?_) | refine gV ?_
    first | refine gS ?_ | (refine gT ?_; refine bI hh 2 ?_) | refine gV ?_
    refine a9 rfl rfl ?_
    refine bC hh (fZ a _ (by omega) (hT.hp hh)) rfl ?_
    intro w38 hh
    first | refine gS ?_ | (refine gT ?_; refine mI ?_) | refine gV ?_
    first | refine gS ?_ | (refine gT ?_; refine kV rfl (by omega) (by omega) (by decide) ?_) | refine gV ?_
    first | refine gS ?_ | (refine gT ?_; refine aV ?_) | refine gV ?_
    first | refine cU ?_ | refine cV ?_
    refine ah (cT (aj ?_))
    refine a4 2 [[(5, none)], []] [(1, 44), (0, 43)] hh mixed (by kernel_rfl) ?_
    refine gy 0 [_,_] ?_
    refine dC (fun _ hj => kX 1 _ (by omega) (by omega)) ?_
    refine bp ?_
    intro f W hJ hV
    have hb_6 := hJ.bl
    obtain ⟨v44, v43, _⟩ := hV
    replace hh := hJ.hp
    refine a6 (bu (ai v44 (ai v43 a5))) ?_
    dsimp only [cC]
    clear hJ
    refine bC hh (hsub _) rfl ?_
    intro w45 hh
    refine bL hh 1 [_,_] ?_
    intro ws hh
    replace hh : Hp _ (_ :: .blk _ _ [_, _] _ :: _) _ := hh
    refine ah (aq (aJ ?_))
    refine gL (aQ rfl (aP (vs := [_, _]) aD.out (hh.ax (i := 1) (n := 2) rfl rfl) rfl) bh) ?_
    exact ⟨rfl, hh.below⟩
end Go.Proofs.YtkgdagjklakajaaGreatDoor
namespace Go.Proofs.YtkgdagjklakajaaGreatDoor
open Go.RowKit
theorem yG : (2 : Rat) ≠ 0 := by decide
theorem two_pos (k : Int) : (0 : Rat) < 2 ^ k := Rat.zpow_pos (by decide)
theorem gG (i p : Int) : (Dyadic.ofIntWithPrec i p).toRat = i * 2 ^ (-p) := Dyadic.toRat_ofIntWithPrec_eq_mul_two_pow
theorem nQ (i p : Int) (n : Nat) : Dyadic.ofIntWithPrec (i * 2 ^ n) (p + n) = Dyadic.ofIntWithPrec i p := by
 rw [← Int.shiftLeft_eq]; exact Dyadic.ofIntWithPrec_shiftLeft_add
theorem il (i : Int) {p q : Int} {n : Nat} (h : q = p + n) : Dyadic.ofIntWithPrec i p = Dyadic.ofIntWithPrec (i * 2 ^ n) q := by
 subst h; exact (nQ i p n).symm
theorem pB (i j p : Int) : Dyadic.ofIntWithPrec i p + Dyadic.ofIntWithPrec j p = Dyadic.ofIntWithPrec (i + j) p := by
 rw [← Dyadic.toRat_inj, Dyadic.toRat_add, gG, gG, gG, Rat.intCast_add, Rat.add_mul]
theorem pe (i j p q : Int) : Dyadic.ofIntWithPrec i p * Dyadic.ofIntWithPrec j q = Dyadic.ofIntWithPrec (i * j) (p + q) := by
 rw [← Dyadic.toRat_inj, Dyadic.toRat_mul, gG, gG, gG, Rat.intCast_mul, Int.neg_add, Rat.zpow_add yG]
 grind
theorem oO (i j p : Int) : Dyadic.ofIntWithPrec i p < Dyadic.ofIntWithPrec j p ↔ i < j := by
 rw [← Dyadic.toRat_lt_toRat_iff, gG, gG]
 rw [← Rat.intCast_lt_intCast]
 constructor
 ·intro h
  exact Rat.lt_of_mul_lt_mul_right h (Rat.le_of_lt (two_pos _))
 ·intro h
  exact Rat.mul_lt_mul_of_pos_right h (two_pos _)
theorem kH (p : Int) : Dyadic.ofIntWithPrec 0 p = 0 := rfl
theorem xi {i j p : Int} (h : Dyadic.ofIntWithPrec i p = Dyadic.ofIntWithPrec j p) : i = j := by
 rcases Int.lt_trichotomy i j with h1 | h1 | h1
 ·rw [← oO i j p, h] at h1
  exact absurd h1 (by rw [oO]; omega)
 ·exact h1
 ·rw [← oO j i p, h] at h1
  exact absurd h1 (by rw [oO]; omega)
theorem iZ {i p : Int} (h : Dyadic.ofIntWithPrec i p = 0) : i = 0 := xi (p := p) (by rw [h]; rfl)
theorem tw (n k : Int) (h : n % 2 = 1) : Dyadic.ofOdd n k h = Dyadic.ofIntWithPrec n k := Dyadic.ofOdd_eq_ofIntWithPrec
theorem sK {i p : Int} (h : i ≠ 0) : Dyadic.ofIntWithPrec i p = .ofOdd (i >>> i.trailingZeros) (p - i.trailingZeros) (Int.shiftRight_trailingZeros_mod_two h) := by
 rw [Dyadic.ofIntWithPrec, dif_neg h]
structure NR where
 neg : Bool
 cq : ByteArray
 e : Int
def NR.cells (a : NR) : List Value := [.bool a.neg, .string a.cq, .int .i64 a.e]
theorem NR.len (a : NR) : a.cells.length = 3 := rfl
def NR.i (a : NR) : Int := iv a.neg a.cq
def NR.d (a : NR) : Dyadic := Dyadic.ofIntWithPrec a.i (-a.e)
def nR : Dyadic → NR
 | .zero => ⟨false, ByteArray.mk #[], 0⟩
 | .ofOdd n k _ => ⟨iN n, iM n, -k⟩
theorem kj : nR 0 = ⟨false, ByteArray.mk #[], 0⟩ := rfl
theorem fh (x : Dyadic) : (nR x).d = x := by
 cases x with
 | zero => rfl
 | ofOdd n k h =>
  simp only [nR, NR.d, NR.i, ff, Int.neg_neg]
  exact (tw n k h).symm
theorem yp {x y : Dyadic} : nR x = nR y ↔ x = y := ⟨fun h => by rw [← fh x, h, fh], fun h => by rw [h]⟩
theorem zd (s : Bool) (a : ByteArray) : (iv s a).trailingZeros = tz (bN a) := by
 unfold iv
 split
 ·rw [Int.trailingZeros_neg]; rfl
 ·rfl
theorem s7 (s : Bool) (a : ByteArray) : iv s a = 0 ↔ bN a = 0 := by
 have := gq s a
 omega
theorem k8 {s : Bool} {a : ByteArray} {e : Int} (h : iv s a ≠ 0) : nR (Dyadic.ofIntWithPrec (iv s a) (-e)) = ⟨iN (iv s a / 2 ^ tz (bN a)), iM (iv s a / 2 ^ tz (bN a)), e + tz (bN a)⟩ := by
 rw [sK h, nR, Int.shiftRight_eq_div_pow, zd]
 have e1 : -(-e - (tz (bN a) : Int)) = e + tz (bN a) := by omega
 rw [e1, Int.natCast_pow]
 rfl
def Sz (k : Nat) (x : Dyadic) : Prop := ∃ i : Int, x = Dyadic.ofIntWithPrec i k ∧ i.natAbs < 2 ^ (2 * k)
theorem Sz.zero (k : Nat) : Sz k 0 := ⟨0, rfl, by simpa using Nat.pow_pos (by omega)⟩
theorem Sz.mono {k l : Nat} {x : Dyadic} (h : Sz k x) (hl : k ≤ l) : Sz l x := by
 obtain ⟨i, rfl, hi⟩ := h
 refine ⟨i * 2 ^ (l - k), il i (by omega), ?_⟩
 rw [Int.natAbs_mul, Int.natAbs_pow]
 have h1 : i.natAbs * 2 ^ (l - k) < 2 ^ (2 * k) * 2 ^ (l - k) := Nat.mul_lt_mul_of_pos_right hi (Nat.pow_pos (by omega))
 rw [← Nat.pow_add] at h1
 exact Nat.lt_of_lt_of_le h1 (Nat.pow_le_pow_right (by omega) (by omega))
theorem Sz.add {k : Nat} {x y : Dyadic} (hx : Sz k x) (hy : Sz k y) : Sz (k + 1) (x + y) := by
 obtain ⟨i, rfl, hi⟩ := hx
 obtain ⟨j, rfl, hj⟩ := hy
 rw [pB]
 refine ⟨(i + j) * 2 ^ 1, il _ (by omega), ?_⟩
 have h1 : 2 ^ (2 * (k + 1)) = 4 * 2 ^ (2 * k) := by rw [show 2 * (k + 1) = 2 * k + 2 by omega, Nat.pow_add]; omega
 rw [h1]
 omega
theorem Sz.mul {k l : Nat} {x y : Dyadic} (hx : Sz k x) (hy : Sz l y) : Sz (k + l) (x * y) := by
 obtain ⟨i, rfl, hi⟩ := hx
 obtain ⟨j, rfl, hj⟩ := hy
 rw [pe]
 refine ⟨i * j, by rw [Int.natCast_add], ?_⟩
 rw [Int.natAbs_mul, Nat.mul_add, Nat.pow_add]
 exact Nat.mul_lt_mul'' hi hj
theorem k0 {i : Int} (h : i ≠ 0) : 2 ^ i.trailingZeros ≤ i.natAbs := by
 have h1 := Int.two_pow_trailingZeros_dvd h
 have h2 := Int.natAbs_dvd_natAbs.2 h1
 rw [Int.natAbs_pow] at h2
 exact Nat.le_of_dvd (by omega) h2
theorem Sz.nr {k : Nat} {x : Dyadic} (h : Sz k x) : (nR x).cq.size ≤ (2 * k + 7) / 8 ∧ -(k : Int) ≤ (nR x).e ∧ (nR x).e ≤ k := by
 obtain ⟨i, rfl, hi⟩ := h
 by_cases h0 : i = 0
 ·subst h0
  rw [kH, kj]
  exact ⟨Nat.zero_le _, (by omega : -(k : Int) ≤ 0), (by omega : (0 : Int) ≤ k)⟩
 ·have h2 := k0 h0
  rw [sK h0, nR]
  simp only
  refine ⟨?_, by omega, ?_⟩
  ·rw [dF]
   have : br (i >>> i.trailingZeros).natAbs ≤ 2 * k := by
    apply cJ
    refine Nat.lt_of_le_of_lt ?_ hi
    rw [Int.shiftRight_eq_div_pow]
    exact Int.natAbs_ediv_le_natAbs _ _
   omega
  ·have h3 : 2 ^ i.trailingZeros < 2 ^ (2 * k) := Nat.lt_of_le_of_lt h2 hi
   have := (Nat.pow_lt_pow_iff_right (by omega)).1 h3
   omega
theorem Sz.raw {a : NR} {m E : Nat} (hm : 8 * a.cq.size ≤ m) (h1 : -(E : Int) ≤ a.e) (h2 : a.e ≤ E) : Sz (m + E) a.d := by
 refine ⟨a.i * 2 ^ (a.e + m + E).toNat, il _ (by omega), ?_⟩
 have h3 : a.i.natAbs < 2 ^ m := by
  rw [NR.i, gq]
  refine Nat.lt_of_lt_of_le (cD _) (Nat.pow_le_pow_right (by omega) ?_)
  have := eT a.cq
  omega
 rw [Int.natAbs_mul, Int.natAbs_pow]
 have h4 := Nat.mul_lt_mul_of_pos_right h3 (Nat.pow_pos (n := (a.e + m + E).toNat) (show 0 < 2 by omega))
 rw [← Nat.pow_add] at h4
 exact Nat.lt_of_lt_of_le h4 (Nat.pow_le_pow_right (by omega) (by omega))
def sC (i n : Int) : Int := if 0 ≤ n then i * 2 ^ n.toNat else i / 2 ^ (-n).toNat
theorem vE (n : Int) : sC 0 n = 0 := by unfold sC; split <;> simp
def cm : Dyadic → Int → Int
 | .zero, _ => 0
 | .ofOdd n k _, p => sC n (p - k)
def cI : Dyadic → Dyadic → Int
 | .zero, .zero => 0
 | .zero, .ofOdd _ k _ => k
 | .ofOdd _ k _, .zero => k
 | .ofOdd _ k _, .ofOdd _ l _ => max k l
theorem jr (n k p : Int) (h : n % 2 = 1) (hp : k ≤ p) : Dyadic.ofIntWithPrec (cm (.ofOdd n k h) p) p = .ofOdd n k h := by
 simp only [cm]
 rw [tw, sC, if_pos (by omega)]
 exact (il n (by omega)).symm
theorem zl (x y : Dyadic) : Dyadic.ofIntWithPrec (cm x (cI x y)) (cI x y) = x := by
 cases x with
 | zero => rfl
 | ofOdd n k h =>
  cases y with
  | zero => exact jr _ _ _ _ (Int.le_refl _)
  | ofOdd m l g => exact jr _ _ _ _ (Int.le_max_left _ _)
theorem zb (x y : Dyadic) : Dyadic.ofIntWithPrec (cm y (cI x y)) (cI x y) = y := by
 cases y with
 | zero => rfl
 | ofOdd n k h =>
  cases x with
  | zero => exact jr _ _ _ _ (Int.le_refl _)
  | ofOdd m l g => exact jr _ _ _ _ (Int.le_max_right _ _)
theorem xe (x y : Dyadic) : Dyadic.ofIntWithPrec (cm x (cI x y) + cm y (cI x y)) (cI x y) = x + y := by
 rw [← pB, zl, zb]
theorem u4 (i n : Int) : br (sC i n).natAbs ≤ br i.natAbs + n.toNat := by
 unfold sC
 split
 ·rw [Int.natAbs_mul, Int.natAbs_pow]
  exact kq _ _
 ·have : br (i / 2 ^ (-n).toNat).natAbs ≤ br i.natAbs := cJ (Nat.lt_of_le_of_lt (Int.natAbs_ediv_le_natAbs _ _) (cD _))
  omega
theorem sS (x y : Dyadic) (E : Int) (h1 : -E ≤ (nR x).e ∧ (nR x).e ≤ E) (h2 : -E ≤ (nR y).e ∧ (nR y).e ≤ E) : -E ≤ cI x y ∧ cI x y ≤ E := by
 cases x <;> cases y <;> simp only [nR, cI] at * <;> omega
theorem mc (x : Dyadic) (p : Int) : br (cm x p).natAbs ≤ 8 * (nR x).cq.size + (p + (nR x).e).toNat := by
 cases x with
 | zero => simp [cm, g2]
 | ofOdd n k h =>
  have h1 := u4 n (p - k)
  have h2 := eT (iM n)
  rw [iM, dP] at h2
  simp only [cm, nR]
  rw [show p + -k = p - k by omega]
  rw [← iM] at h2
  omega
end Go.Proofs.YtkgdagjklakajaaGreatDoor
/- Several texts in one: Dyad, DyadB, DyadC, CmpD. -/
namespace Go.Proofs.YtkgdagjklakajaaGreatDoor
open Go.RowKit
variable {ro : Mode}
theorem tB {P : Program} {t : TypeId} {n by' : Nat} {zc : List Value} {cs : Array Value} {off : Nat} {v : Value} (ht : cN P t = some (n, false, by', zc)) (hv : cs[off]? = some v) (w : World) : (part t cs off).run P w = .ok v w := by
 simp [part, fY ht, hv]
theorem x4 {P : Program} {t : TypeId} {n by' : Nat} {zc : List Value} {cs vs : Array Value} {off : Nat} (ht : cN P t = some (n, true, by', zc)) (hv : cs.extract off (off + n) = vs) (w : World) : (part t cs off).run P w = .ok (.agg vs) w := by
 simp [part, fY ht, dN ht, hv]
theorem zL (n : Nat) (a b : Bool) (w : World) : (Op.equalIn (n + 1) 4 (.bool a) (.bool b)).run Tryz.prog w = .ok (a == b) w := by
 simp [Op.equalIn, run_underlying Tryz.underlying4]
theorem y9 (n : Nat) (a b : ByteArray) (w : World) : (Op.equalIn (n + 1) 9 (.string a) (.string b)).run Tryz.prog w = .ok (a == b) w := by
 simp [Op.equalIn, run_underlying Tryz.underlying9]
theorem zU (n : Nat) (a b : Int) (w : World) : (Op.equalIn (n + 1) 3 (.int .i64 a) (.int .i64 b)).run Tryz.prog w = .ok (a == b) w := by
 simp [Op.equalIn, run_underlying Tryz.underlying3]
theorem eq_int (n : Nat) (s s' : Bool) (a a' : ByteArray) (w : World) : (Op.equalIn (n + 2) 24 (.agg #[.bool s, .string a]) (.agg #[.bool s', .string a'])).run Tryz.prog w = .ok (s == s' && a == a') w := by
 have h1 := fun (x : Bool) (y : ByteArray) => tB (P := Tryz.prog) (cs := #[.bool x, .string y]) (off := 0) (aD.out (P := Tryz.prog) (t := 4)) rfl
 have h2 := fun (x : Bool) (y : ByteArray) => tB (P := Tryz.prog) (cs := #[.bool x, .string y]) (off := 1) (aD.out (P := Tryz.prog) (t := 9)) rfl
 rw [Op.equalIn]
 simp [run_underlying Tryz.underlying24, h1, h2, zL, y9]
 cases h : s == s' <;> cases h' : a == a' <;> simp_all
theorem rK (n : Nat) (s s' : Bool) (a a' : ByteArray) (e e' : Int) (w : World) : (Op.equalIn (n + 3) 26 (.agg #[.bool s, .string a, .int .i64 e]) (.agg #[.bool s', .string a', .int .i64 e'])).run Tryz.prog w = .ok ((s == s' && a == a') && e == e') w := by
 have h1 := fun (x : Bool) (y : ByteArray) (z : Int) => x4 (P := Tryz.prog) (cs := #[.bool x, .string y, .int .i64 z]) (vs := #[.bool x, .string y]) (off := 0) (aD.out (P := Tryz.prog) (t := 24)) rfl
 have h2 := fun (x : Bool) (y : ByteArray) (z : Int) => tB (P := Tryz.prog) (cs := #[.bool x, .string y, .int .i64 z]) (off := 2) (aD.out (P := Tryz.prog) (t := 3)) rfl
 rw [Op.equalIn]
 simp [run_underlying Tryz.underlying26, h1, h2, eq_int, zU]
 cases h : s == s' <;> cases h' : a == a' <;> cases h2 : e == e' <;> simp_all
section
variable {ρ : Rf} {w : World} {d : Option Nat} {ty u : TypeId} {pos : String} {af : Array Edge} {g : Option (Nat × Bool)} {x y : Operand} {s s' : Bool} {a a' : ByteArray} {e e' : Int}
theorem u3 {a b : ByteArray} : (a == b) = true ↔ a = b := by
 have : (a == b) = (a.data == b.data) := rfl
 rw [this, beq_iff_eq]
 exact ⟨fun h => by cases a; cases b; simp_all, fun h => by rw [h]⟩
theorem kv : ((s == s' && a == a') && e == e') = true ↔ NR.mk s a e = NR.mk s' a' e' := by
 rw [Bool.and_eq_true, Bool.and_eq_true, beq_iff_eq, u3, beq_iff_eq, NR.mk.injEq, and_assoc]
theorem yh {r : Bool} (hx : ev ρ x = .agg #[.bool s, .string a, .int .i64 e]) (hy : ev ρ y = .agg #[.bool s', .string a', .int .i64 e']) (hr : ((s == s' && a == a') && e == e') = r) :
  (execOp (ev ρ) ⟨d, .binOp .eql 26 x y u, ty, pos, af, g⟩).run Tryz.prog w = .ok (.value (.bool r)) w := by
 have h1 : (Op.equal 26 (.agg #[.bool s, .string a, .int .i64 e]) (.agg #[.bool s', .string a', .int .i64 e'])).run Tryz.prog w = .ok r w := by rw [← hr]; exact rK 9997 s s' a a' e e' w
 simp only [execOp, hx, hy]
 simp [eqGuard, binOp, h1]
theorem x7 {r : Bool} (hx : ev ρ x = .agg #[.bool s, .string a, .int .i64 e]) (hy : ev ρ y = .agg #[.bool s', .string a', .int .i64 e']) (hr : ((s == s' && a == a') && e == e') = r) :
  (execOp (ev ρ) ⟨d, .binOp .neq 26 x y u, ty, pos, af, g⟩).run Tryz.prog w = .ok (.value (.bool !r)) w := by
 have h1 : (Op.equal 26 (.agg #[.bool s, .string a, .int .i64 e]) (.agg #[.bool s', .string a', .int .i64 e'])).run Tryz.prog w = .ok r w := by rw [← hr]; exact rK 9997 s s' a a' e e' w
 simp only [execOp, hx, hy]
 simp [eqGuard, binOp, h1]
theorem xP (hx : ev ρ x = .agg #[.bool s, .string a, .int .i64 e]) (hy : ev ρ y = .agg #[.bool s', .string a', .int .i64 e']) (h : NR.mk s a e = NR.mk s' a' e') :
  (execOp (ev ρ) ⟨d, .binOp .eql 26 x y u, ty, pos, af, g⟩).run Tryz.prog w = .ok (.value (.bool true)) w := yh hx hy (kv.2 h)
theorem xV (hx : ev ρ x = .agg #[.bool s, .string a, .int .i64 e]) (hy : ev ρ y = .agg #[.bool s', .string a', .int .i64 e']) (h : ¬ NR.mk s a e = NR.mk s' a' e') :
  (execOp (ev ρ) ⟨d, .binOp .eql 26 x y u, ty, pos, af, g⟩).run Tryz.prog w = .ok (.value (.bool false)) w := yh hx hy (by rw [Bool.eq_false_iff]; exact fun h1 => h (kv.1 h1))
theorem jf (hx : ev ρ x = .agg #[.bool s, .string a, .int .i64 e]) (hy : ev ρ y = .agg #[.bool s', .string a', .int .i64 e']) (h : NR.mk s a e = NR.mk s' a' e') :
  (execOp (ev ρ) ⟨d, .binOp .neq 26 x y u, ty, pos, af, g⟩).run Tryz.prog w = .ok (.value (.bool false)) w := x7 hx hy (kv.2 h)
theorem jk (hx : ev ρ x = .agg #[.bool s, .string a, .int .i64 e]) (hy : ev ρ y = .agg #[.bool s', .string a', .int .i64 e']) (h : ¬ NR.mk s a e = NR.mk s' a' e') :
  (execOp (ev ρ) ⟨d, .binOp .neq 26 x y u, ty, pos, af, g⟩).run Tryz.prog w = .ok (.value (.bool true)) w := x7 hx hy (r := false) (by rw [Bool.eq_false_iff]; exact fun h1 => h (kv.1 h1))
end
section
variable {N : Nat} {ops : Array Oper} {Q : Kq} {ρ : Rf} {w : World} {rest : List Oper} {d : Nat} {ty u : TypeId} {pos : String} {af : Array Edge} {x y : Operand} {s s' : Bool} {a a' : ByteArray} {e e' : Int}
theorem j7 (hx : ev ρ x = .agg #[.bool s, .string a, .int .i64 e]) (hy : ev ρ y = .agg #[.bool s', .string a', .int .i64 e']) (h : NR.mk s a e = NR.mk s' a' e') (hN : d < N) (kk : WL ro Tryz.prog N ops Q rest (ck ρ d (.bool true)) w) :
  WL ro Tryz.prog N ops Q (⟨some d, .binOp .eql 26 x y u, ty, pos, af, none⟩ :: rest) ρ w := aU rfl rfl hN (xP hx hy h) kk
theorem kh (hx : ev ρ x = .agg #[.bool s, .string a, .int .i64 e]) (hy : ev ρ y = .agg #[.bool s', .string a', .int .i64 e']) (h : ¬ NR.mk s a e = NR.mk s' a' e') (hN : d < N) (kk : WL ro Tryz.prog N ops Q rest (ck ρ d (.bool false)) w) :
  WL ro Tryz.prog N ops Q (⟨some d, .binOp .eql 26 x y u, ty, pos, af, none⟩ :: rest) ρ w := aU rfl rfl hN (xV hx hy h) kk
end
theorem kI (s : Bool) (a : ByteArray) (n : Int) (w : World) (hT : fS w) (ha : a.size ≤ 100000000) (h1 : -1000000000 ≤ n) (h2 : n ≤ 1000000000) :
  Calls Tryz.prog 198 #[.agg #[.bool s, .string a], .int .i64 n] w fun e w' => e = .returned (.agg #[.bool (iN (sC (iv s a) n)), .string (iM (sC (iv s a) n))]) ∧ Below w.heap.size w w' := by
 unfold sC
 by_cases h : 0 ≤ n
 ·rw [if_pos h]
  obtain ⟨m, rfl⟩ := Int.eq_ofNat_of_zero_le h
  rw [Int.toNat_natCast]
  exact rH s a m w ha (by omega)
 ·rw [if_neg h]
  obtain ⟨m, hm⟩ := Int.eq_ofNat_of_zero_le (show 0 ≤ -n by omega)
  rw [hm, Int.toNat_natCast, show n = -(m : Int) by omega]
  exact ri s a m w hT ha (by omega) (by omega)
theorem gO (s : Bool) (a : ByteArray) (e : Int) (w : World) (hT : fS w) (ha : a.size ≤ 100000000) (h1 : -1000000000000 ≤ e) (h2 : e ≤ 1000000000000) :
  Calls Tryz.prog 155 #[.agg #[.bool s, .string a], .int .i64 e] w fun r w' => r = .returned (.agg #[.bool (nR (Dyadic.ofIntWithPrec (iv s a) (-e))).neg, .string (nR (Dyadic.ofIntWithPrec (iv s a) (-e))).cq, .int .i64 (nR (Dyadic.ofIntWithPrec (iv s a) (-e))).e]) ∧ Below w.heap.size w w' := by
 have hh := Hp.start w
 by_cases h0 : iv s a = 0
 ·rw [h0, kH, kj]
  refine al (N := 21) (l := [.agg #[.bool s, .string a], .int .i64 e]) Tryz.func155 rfl rfl (by simp) ?_
  refine sr ?_
  refine df hh [_,_] ?_
  intro b2 w2 hh
  refine cx hh ?_
  intro b4 w4 hh
  refine ah (aj (sr ?_))
  refine dp hh 1 [_,_] ?_
  refine bC hh (iX s a _) rfl ?_
  intro w7 hh
  rw [h0]
  refine ea (ah (cT (sr ?_)))
  refine eD [_,_,_] ?_
  refine bL hh 0 [_,_,_] ?_
  intro ws hh
  replace hh : Hp _ (.blk _ _ [_, _, _] _ :: _) _ := hh
  refine ah (aq (aJ ?_))
  refine gL (aQ rfl (aP (vs := [_, _, _]) aD.out (hh.ax (i := 0) (n := 3) rfl rfl) rfl) bh) ?_
  exact ⟨rfl, hh.below⟩
 ·have hs : (iv s a).sign ≠ 0 := by rw [ne_eq, Int.sign_eq_zero_iff_zero]; exact h0
  rw [k8 h0]
  have hz : bN a ≠ 0 := fun h => h0 ((s7 s a).2 h)
  have htz : tz (bN a) < 8 * a.size + 1 := by
   have := nZ a
   rw [show (256 : Nat) = 2 ^ 8 from rfl, ← Nat.pow_mul] at this
   have := nA hz this
   omega
  have hsh : sC (iv s a) (-(tz (bN a) : Int)) = iv s a / 2 ^ tz (bN a) := by
   unfold sC
   split
   ·have : tz (bN a) = 0 := by omega
    rw [this]; simp
   ·rw [Int.neg_neg, Int.toNat_natCast]
  refine al (N := 21) (l := [.agg #[.bool s, .string a], .int .i64 e]) Tryz.func155 rfl rfl (by simp) ?_
  refine sr ?_
  refine df hh [_,_] ?_
  intro b2 w2 hh
  refine cx hh ?_
  intro b4 w4 hh
  refine ah (aj (sr ?_))
  refine dp hh 1 [_,_] ?_
  refine bC hh (iX s a _) rfl ?_
  intro w7 hh
  refine ea (ah (cF (ao (ak (sr (bG ?_))))))
  refine bI hh 1 ?_
  refine bC hh (fZ a _ (by omega) (hT.hp hh)) rfl ?_
  intro w12 hh
  refine aI (ah (sr ?_))
  refine dp hh 1 [_,_] (mI ?_)
  refine kV rfl (by omega) (by omega) (by decide) ?_
  refine bC hh (kI s a (-(tz (bN a) : Int)) _ (hT.hp hh) ha (by omega) (by omega)) rfl ?_
  intro w16 hh
  rw [hsh]
  refine mI (mI ?_)
  refine bJ ?_
  refine eD [_,_,_] ?_
  refine bL hh 0 [_,_,_] ?_
  intro ws hh
  replace hh : Hp _ (.blk _ _ [_, _, _] _ :: _) _ := hh
  refine ah (aq ?_)
  refine gL (aQ rfl (aP (vs := [_, _, _]) aD.out (hh.ax (i := 0) (n := 3) rfl rfl) rfl) bh) ?_
  exact ⟨rfl, hh.below⟩
def NR.ok (a : NR) : Prop := a.cq.size ≤ 1000000 ∧ -10000000 ≤ a.e ∧ a.e ≤ 10000000
theorem Sz.ok {k : Nat} {x : Dyadic} (h : Sz k x) (hk : k ≤ 3999990) : (nR x).ok := by
 have := h.nr
 refine ⟨by omega, by omega, by omega⟩
theorem kS (n : Int) (w : World) (hT : fS w) (h1 : -9223372036854775808 ≤ n) (h2 : n ≤ 9223372036854775807) :
  Calls Tryz.prog 77 #[.int .i64 n] w fun r w' => r = .returned (.agg #[.bool (nR (n : Dyadic)).neg, .string (nR (n : Dyadic)).cq, .int .i64 (nR (n : Dyadic)).e]) ∧ Below w.heap.size w w' := by
 have hh := Hp.start w
 have hsz : (iM n).size ≤ 100000000 := by
  rw [dF]
  have : br n.natAbs ≤ 64 := cJ (by omega)
  omega
 have hc : ∀ w1, fS w1 → Calls Tryz.prog 155 #[.agg #[.bool (iN n), .string (iM n)], .int .i64 0] w1 fun r w' => r = .returned (.agg #[.bool (nR (n : Dyadic)).neg, .string (nR (n : Dyadic)).cq, .int .i64 (nR (n : Dyadic)).e]) ∧ Below w1.heap.size w1 w' := fun w1 hT1 => by
  have := gO (iN n) (iM n) 0 w1 hT1 hsz (by omega) (by omega)
  rw [ff] at this
  exact this
 refine al (N := 6) (l := [.int .i64 n]) Tryz.func77 rfl rfl (by simp) ?_
 refine sr ?_
 refine cx hh ?_
 intro b2 w2 hh
 refine ah (sr (mI ?_))
 refine bC hh (kX n _ h1 h2) rfl ?_
 intro w4 hh
 refine bC hh (hc _ (hT.hp hh)) rfl ?_
 intro w5 hh
 refine bL hh 0 [_,_,_] ?_
 intro ws hh
 replace hh : Hp _ (.blk _ _ [_, _, _] _ :: _) _ := hh
 refine ah (aq ?_)
 refine gL (aQ rfl (aP (vs := [_, _, _]) aD.out (hh.ax (i := 0) (n := 3) rfl rfl) rfl) bh) ?_
 exact ⟨rfl, hh.below⟩
theorem dM (a : NR) (w : World) (hT : fS w) (ha : a.cq.size ≤ 100000000) (h1 : -1000000000000 ≤ a.e) (h2 : a.e ≤ 1000000000000) :
  Calls Tryz.prog 98 #[.agg #[.bool a.neg, .string a.cq, .int .i64 a.e]] w fun r w' => r = .returned (.agg #[.bool (nR a.d).neg, .string (nR a.d).cq, .int .i64 (nR a.d).e]) ∧ Below w.heap.size w w' := by
 have hh := Hp.start w
 refine al (N := 8) (l := [.agg #[.bool a.neg, .string a.cq, .int .i64 a.e]]) Tryz.func98 rfl rfl (by simp) ?_
 refine sr ?_
 refine df hh [_,_,_] ?_
 intro b1 w1 hh
 refine cx hh ?_
 intro b2 w2 hh
 refine ah (sr (bG ?_))
 refine dp hh 1 [_,_] (bG ?_)
 refine bI hh 1 ?_
 refine bC hh (gO a.neg a.cq a.e _ (hT.hp hh) ha h1 h2) rfl ?_
 intro w7 hh
 refine bL hh 0 [_,_,_] ?_
 intro ws hh
 replace hh : Hp _ (.blk _ _ [_, _, _] _ :: _) _ := hh
 refine ah (aq ?_)
 refine gL (aQ rfl (aP (vs := [_, _, _]) aD.out (hh.ax (i := 0) (n := 3) rfl rfl) rfl) bh) ?_
 exact ⟨rfl, hh.below⟩
theorem lA (a : NR) (w : World) :
  Calls Tryz.prog 97 #[.agg #[.bool a.neg, .string a.cq, .int .i64 a.e]] w fun r w' => r = .returned (.int .i64 a.i.sign) ∧ Below w.heap.size w w' := by
 have hh := Hp.start w
 refine al (N := 6) (l := [.agg #[.bool a.neg, .string a.cq, .int .i64 a.e]]) Tryz.func97 rfl rfl (by simp) ?_
 refine sr ?_
 refine df hh [_,_,_] ?_
 intro b1 w1 hh
 refine aI (ah (sr (bG ?_)))
 refine dp hh 0 [_,_] ?_
 refine bC hh (iX a.neg a.cq _) rfl ?_
 intro w5 hh
 refine aI (ah (aq ?_))
 refine cf ?_
 exact ⟨rfl, hh.below⟩
theorem n0 (s : Int) (a : NR) (w : World) (hT : fS w) (ha : a.cq.size ≤ 100000000) (h1 : -1000000000 ≤ a.e - s) (h2 : a.e - s ≤ 1000000000) :
  Calls Tryz.prog 196 #[.int .i64 s, .agg #[.bool a.neg, .string a.cq, .int .i64 a.e]] w fun r w' => r = .returned (.agg #[.bool (iN (sC a.i (a.e - s))), .string (iM (sC a.i (a.e - s)))]) ∧ Below w.heap.size w w' := by
 have hh := Hp.start w
 refine al (N := 12) (l := [.int .i64 s, .agg #[.bool a.neg, .string a.cq, .int .i64 a.e]]) Tryz.func196 rfl rfl (by simp) ?_
 refine sr ?_
 refine df hh [_,_,_] ?_
 intro b3 w3 hh
 refine cx hh ?_
 intro b4 w4 hh
 refine ah (sr (bG ?_))
 refine dp hh 1 [_,_] (bG ?_)
 refine bI hh 1 ?_
 refine mI ?_
 refine eK ?_
 refine bC hh (kI a.neg a.cq (a.e - s) _ (hT.hp hh) ha h1 h2) rfl ?_
 intro w11 hh
 refine bL hh 0 [_,_] ?_
 intro ws hh
 replace hh : Hp _ (.blk _ _ [_, _] _ :: _) _ := hh
 refine ah (aq ?_)
 refine gL (aQ rfl (aP (vs := [_, _]) aD.out (hh.ax (i := 0) (n := 2) rfl rfl) rfl) bh) ?_
 exact ⟨rfl, hh.below⟩
theorem rV (x : Dyadic) (p : Int) : sC (nR x).i ((nR x).e - -p) = cm x p := by
 cases x with
 | zero => exact vE _
 | ofOdd n k h =>
  simp only [nR, NR.i, ff, cm]
  congr 1
  omega
theorem gK (x : Dyadic) : nR x = ⟨false, ByteArray.mk #[], 0⟩ ↔ x = 0 := by rw [← kj, yp]
theorem kt {a : NR} (h : a.ok) : Sz 18000000 a.d ∧ (nR a.d).cq.size ≤ 1000000 ∧ -18000000 ≤ (nR a.d).e ∧ (nR a.d).e ≤ 18000000 := by
 obtain ⟨h1, h2, h3⟩ := h
 refine ⟨Sz.raw (m := 8000000) (E := 10000000) (by omega) (by omega) (by omega), ?_⟩
 by_cases h0 : iv a.neg a.cq = 0
 ·rw [NR.d, NR.i, h0, kH, kj]
  exact ⟨Nat.zero_le _, by simp, by simp⟩
 ·rw [NR.d, NR.i, k8 h0]
  have hz : bN a.cq ≠ 0 := fun h => h0 ((s7 a.neg a.cq).2 h)
  have htz : tz (bN a.cq) < 8 * a.cq.size + 1 := by
   have := nZ a.cq
   rw [show (256 : Nat) = 2 ^ 8 from rfl, ← Nat.pow_mul] at this
   have := nA hz this
   omega
  have hb : br (iv a.neg a.cq / 2 ^ tz (bN a.cq)).natAbs ≤ 8 * a.cq.size := by
   apply cJ
   refine Nat.lt_of_le_of_lt (Int.natAbs_ediv_le_natAbs _ _) ?_
   rw [gq]
   exact Nat.lt_of_lt_of_le (cD _) (Nat.pow_le_pow_right (by omega) (eT _))
  simp only
  rw [dF]
  refine ⟨by omega, by omega, by omega⟩
theorem pw (a b : NR) (w : World) (hT : fS w) (ha : a.ok) (hb : b.ok) :
  Calls Tryz.prog 154 #[.agg #[.bool a.neg, .string a.cq, .int .i64 a.e], .agg #[.bool b.neg, .string b.cq, .int .i64 b.e]] w fun r w' => r = .returned (.agg #[.int .i64 (-(cI a.d b.d)), .bool (iN (cm a.d (cI a.d b.d))), .string (iM (cm a.d (cI a.d b.d))), .bool (iN (cm b.d (cI a.d b.d))), .string (iM (cm b.d (cI a.d b.d)))]) ∧ Below w.heap.size w w' := by
 have hh := Hp.start w
 obtain ⟨ha1, ha2, ha3⟩ := ha
 obtain ⟨hb1, hb2, hb3⟩ := hb
 obtain ⟨_, fa1, fa2, fa3⟩ := kt (a := a) ⟨ha1, ha2, ha3⟩
 obtain ⟨_, fb1, fb2, fb3⟩ := kt (a := b) ⟨hb1, hb2, hb3⟩
 have hP := sS a.d b.d 18000000 (by omega) (by omega)
 have hcx := fun w1 hT1 => n0 (-(cI a.d b.d)) (nR a.d) w1 hT1 (by omega) (by omega) (by omega)
 have hcy := fun w1 hT1 => n0 (-(cI a.d b.d)) (nR b.d) w1 hT1 (by omega) (by omega) (by omega)
 rw [rV] at hcx hcy
 by_cases h0 : a.d = 0
 ·have h0' := (gK a.d).2 h0
  have hs : (nR b.d).e = -(cI a.d b.d) := by
   rw [h0]
   cases b.d with
   | zero => rfl
   | ofOdd n k h => rfl
  refine al (N := 41) (l := [.agg #[.bool a.neg, .string a.cq, .int .i64 a.e], .agg #[.bool b.neg, .string b.cq, .int .i64 b.e]]) Tryz.func154 rfl rfl (by simp) ?_
  refine sr ?_
  refine df hh [_,_,_] ?_
  intro b2 w2 hh
  refine df hh [_,_,_] ?_
  intro b3 w3 hh
  refine cx hh ?_
  intro b4 w4 hh
  refine ah (aj ?_)
  refine a4 3 [[(2, none)], [(7, some 0)], [(3, none)]] [(2, 9), (1, 8), (0, 7)] hh mixed (by kernel_rfl) ?_
  refine gy 2 [_,_,_] ?_
  refine dC (fun _ hj => dM a _ (hT.hp hj.hp) (by omega) (by omega) (by omega)) ?_
  refine gy 1 [_,_,_] ?_
  refine bp ?_
  intro f W hJ hV
  have hb_1 := hJ.bl
  obtain ⟨v9, v8, v7, _⟩ := hV
  replace hh := hJ.hp
  refine a6 (bu (ai v9 (ai v8 (ai v7 a5)))) ?_
  dsimp only [cC]
  clear hJ
  refine bC hh (dM b _ (hT.hp hh) (by omega) (by omega) (by omega)) rfl ?_
  intro w10 hh
  refine bL hh 2 [_,_,_] ?_
  intro ws hh
  replace hh : Hp _ (_ :: _ :: .blk _ _ [_, _, _] _ :: _) _ := hh
  refine bL hh 1 [_,_,_] ?_
  intro ws hh
  replace hh : Hp _ (_ :: .blk _ _ [_, _, _] _ :: _) _ := hh
  refine ah (sr (bG ?_))
  refine bI hh 2 ?_
  refine bG ?_
  refine bI hh 1 ?_
  refine vS rfl rfl (by decide) ?_
  refine aI (ah (aj (ar (sr ?_))))
  refine dp hh 2 [_,_,_] ?_
  refine eD [_,_,_] ?_
  first | refine j7 rfl rfl (by first | assumption | rfl) (by decide) ?_ | refine kh rfl rfl (by assumption) (by decide) ?_
  refine aB (ah (cT (aw (bG ?_))))
  refine bI hh 1 ?_
  refine aI (aE (aW (ak (sr ?_))))
  rw [hs]
  refine mI ?_
  refine eD [_,_,_,_,_] ?_
  refine cx hh ?_
  intro b6 w6 hh
  refine bL hh 0 [_,_,_,_,_] ?_
  intro ws hh
  replace hh : Hp _ (.blk _ _ [_, _, _, _, _] _ :: _) _ := hh
  refine ah (aj ?_)
  refine a4 9 [[(6, none)], [(30, some 0)], [(2, none)], [(31, some 1), (32, some 2)], [(6, none)], [(34, some 4)], [(3, none)], [(35, some 5), (36, some 6)], [(6, none)]] [(8, 38), (7, 37), (6, 36), (5, 35), (4, 34), (3, 33), (2, 32), (1, 31), (0, 30)] hh mixed (by kernel_rfl) ?_
  refine dx ?_
  refine fi 0 ?_
  refine gy 3 [_,_,_] ?_
  refine dC (fun _ hj => hcx _ (hT.hp hj.hp)) ?_
  refine dx ?_
  refine fi 0 ?_
  refine gy 2 [_,_,_] ?_
  refine dC (fun _ hj => hcy _ (hT.hp hj.hp)) ?_
  refine dx ?_
  refine bp ?_
  intro f W hJ hV
  have hb_8 := hJ.bl
  obtain ⟨v38, v37, v36, v35, v34, v33, v32, v31, v30, _⟩ := hV
  replace hh := hJ.hp
  refine a6 (bu (ai v38 (ai v37 (ai v36 (ai v35 (ai v34 (ai v33 (ai v32 (ai v31 (ai v30 a5)))))))))) ?_
  dsimp only [cC]
  clear hJ
  refine bL hh 0 [_,_] ?_
  intro ws hh
  replace hh : Hp _ (.blk _ _ [_, _, _, _, _] _ :: _) _ := hh
  refine bG ?_
  refine bL hh 0 [_,_] ?_
  intro ws hh
  replace hh : Hp _ (.blk _ _ [_, _, _, _, _] _ :: _) _ := hh
  refine ah (sr ?_)
  refine dp hh 0 [_,_,_,_,_] ?_
  refine bL hh 1 [_,_,_,_,_] ?_
  intro ws hh
  replace hh : Hp _ (_ :: .blk _ _ [_, _, _, _, _] _ :: _) _ := hh
  refine ah (aq ?_)
  refine gL (aQ rfl (aP (vs := [_, _, _, _, _]) aD.out (hh.ax (i := 1) (n := 5) rfl rfl) rfl) bh) ?_
  exact ⟨rfl, hh.below⟩
 ·have h0' : ¬ nR a.d = ⟨false, ByteArray.mk #[], 0⟩ := fun h => h0 ((gK _).1 h)
  by_cases h1 : b.d = 0
  ·have h1' := (gK b.d).2 h1
   have hs : (nR a.d).e = -(cI a.d b.d) := by
    rw [h1]
    cases a.d with
    | zero => rfl
    | ofOdd n k h => rfl
   refine al (N := 41) (l := [.agg #[.bool a.neg, .string a.cq, .int .i64 a.e], .agg #[.bool b.neg, .string b.cq, .int .i64 b.e]]) Tryz.func154 rfl rfl (by simp) ?_
   refine sr ?_
   refine df hh [_,_,_] ?_
   intro b2 w2 hh
   refine df hh [_,_,_] ?_
   intro b3 w3 hh
   refine cx hh ?_
   intro b4 w4 hh
   refine ah (aj ?_)
   refine a4 3 [[(2, none)], [(7, some 0)], [(3, none)]] [(2, 9), (1, 8), (0, 7)] hh mixed (by kernel_rfl) ?_
   refine gy 2 [_,_,_] ?_
   refine dC (fun _ hj => dM a _ (hT.hp hj.hp) (by omega) (by omega) (by omega)) ?_
   refine gy 1 [_,_,_] ?_
   refine bp ?_
   intro f W hJ hV
   have hb_1 := hJ.bl
   obtain ⟨v9, v8, v7, _⟩ := hV
   replace hh := hJ.hp
   refine a6 (bu (ai v9 (ai v8 (ai v7 a5)))) ?_
   dsimp only [cC]
   clear hJ
   refine bC hh (dM b _ (hT.hp hh) (by omega) (by omega) (by omega)) rfl ?_
   intro w10 hh
   refine bL hh 2 [_,_,_] ?_
   intro ws hh
   replace hh : Hp _ (_ :: _ :: .blk _ _ [_, _, _] _ :: _) _ := hh
   refine bL hh 1 [_,_,_] ?_
   intro ws hh
   replace hh : Hp _ (_ :: .blk _ _ [_, _, _] _ :: _) _ := hh
   refine ah (sr (bG ?_))
   refine bI hh 2 ?_
   refine bG ?_
   refine bI hh 1 ?_
   refine vS rfl rfl (by decide) ?_
   refine aI (ah (aj (ar (sr ?_))))
   refine dp hh 2 [_,_,_] ?_
   refine eD [_,_,_] ?_
   first | refine j7 rfl rfl (by first | assumption | rfl) (by decide) ?_ | refine kh rfl rfl (by assumption) (by decide) ?_
   refine aB (ah (cF (sr ?_)))
   refine dp hh 1 [_,_,_] ?_
   refine eD [_,_,_] ?_
   first | refine j7 rfl rfl (by first | assumption | rfl) (by decide) ?_ | refine kh rfl rfl (by assumption) (by decide) ?_
   refine aB (ah (cT (aw (bG ?_))))
   refine bI hh 2 ?_
   refine aI (aE (aW (ak (sr ?_))))
   rw [hs]
   refine mI ?_
   refine eD [_,_,_,_,_] ?_
   refine cx hh ?_
   intro b6 w6 hh
   refine bL hh 0 [_,_,_,_,_] ?_
   intro ws hh
   replace hh : Hp _ (.blk _ _ [_, _, _, _, _] _ :: _) _ := hh
   refine ah (aj ?_)
   refine a4 9 [[(6, none)], [(30, some 0)], [(2, none)], [(31, some 1), (32, some 2)], [(6, none)], [(34, some 4)], [(3, none)], [(35, some 5), (36, some 6)], [(6, none)]] [(8, 38), (7, 37), (6, 36), (5, 35), (4, 34), (3, 33), (2, 32), (1, 31), (0, 30)] hh mixed (by kernel_rfl) ?_
   refine dx ?_
   refine fi 0 ?_
   refine gy 3 [_,_,_] ?_
   refine dC (fun _ hj => hcx _ (hT.hp hj.hp)) ?_
   refine dx ?_
   refine fi 0 ?_
   refine gy 2 [_,_,_] ?_
   refine dC (fun _ hj => hcy _ (hT.hp hj.hp)) ?_
   refine dx ?_
   refine bp ?_
   intro f W hJ hV
   have hb_8 := hJ.bl
   obtain ⟨v38, v37, v36, v35, v34, v33, v32, v31, v30, _⟩ := hV
   replace hh := hJ.hp
   refine a6 (bu (ai v38 (ai v37 (ai v36 (ai v35 (ai v34 (ai v33 (ai v32 (ai v31 (ai v30 a5)))))))))) ?_
   dsimp only [cC]
   clear hJ
   refine bL hh 0 [_,_] ?_
   intro ws hh
   replace hh : Hp _ (.blk _ _ [_, _, _, _, _] _ :: _) _ := hh
   refine bG ?_
   refine bL hh 0 [_,_] ?_
   intro ws hh
   replace hh : Hp _ (.blk _ _ [_, _, _, _, _] _ :: _) _ := hh
   refine ah (sr ?_)
   refine dp hh 0 [_,_,_,_,_] ?_
   refine bL hh 1 [_,_,_,_,_] ?_
   intro ws hh
   replace hh : Hp _ (_ :: .blk _ _ [_, _, _, _, _] _ :: _) _ := hh
   refine ah (aq ?_)
   refine gL (aQ rfl (aP (vs := [_, _, _, _, _]) aD.out (hh.ax (i := 1) (n := 5) rfl rfl) rfl) bh) ?_
   exact ⟨rfl, hh.below⟩
  ·have h1' : ¬ nR b.d = ⟨false, ByteArray.mk #[], 0⟩ := fun h => h1 ((gK _).1 h)
   have hs : (if (nR b.d).e < (nR a.d).e then (nR b.d).e else (nR a.d).e) = -(cI a.d b.d) := by
    revert h0 h1
    cases a.d with
    | zero => intro h; exact absurd rfl h
    | ofOdd n k h =>
     cases b.d with
     | zero => intro _ h; exact absurd rfl h
     | ofOdd m l g =>
      intro _ _
      simp only [nR, cI]
      omega
   refine al (N := 41) (l := [.agg #[.bool a.neg, .string a.cq, .int .i64 a.e], .agg #[.bool b.neg, .string b.cq, .int .i64 b.e]]) Tryz.func154 rfl rfl (by simp) ?_
   refine sr ?_
   refine df hh [_,_,_] ?_
   intro b2 w2 hh
   refine df hh [_,_,_] ?_
   intro b3 w3 hh
   refine cx hh ?_
   intro b4 w4 hh
   refine ah (aj ?_)
   refine a4 3 [[(2, none)], [(7, some 0)], [(3, none)]] [(2, 9), (1, 8), (0, 7)] hh mixed (by kernel_rfl) ?_
   refine gy 2 [_,_,_] ?_
   refine dC (fun _ hj => dM a _ (hT.hp hj.hp) (by omega) (by omega) (by omega)) ?_
   refine gy 1 [_,_,_] ?_
   refine bp ?_
   intro f W hJ hV
   have hb_1 := hJ.bl
   obtain ⟨v9, v8, v7, _⟩ := hV
   replace hh := hJ.hp
   refine a6 (bu (ai v9 (ai v8 (ai v7 a5)))) ?_
   dsimp only [cC]
   clear hJ
   refine bC hh (dM b _ (hT.hp hh) (by omega) (by omega) (by omega)) rfl ?_
   intro w10 hh
   refine bL hh 2 [_,_,_] ?_
   intro ws hh
   replace hh : Hp _ (_ :: _ :: .blk _ _ [_, _, _] _ :: _) _ := hh
   refine bL hh 1 [_,_,_] ?_
   intro ws hh
   replace hh : Hp _ (_ :: .blk _ _ [_, _, _] _ :: _) _ := hh
   refine ah (sr (bG ?_))
   refine bI hh 2 ?_
   refine bG ?_
   refine bI hh 1 ?_
   refine vS rfl rfl (by decide) ?_
   refine aI (ah (aj (ar (sr ?_))))
   refine dp hh 2 [_,_,_] ?_
   refine eD [_,_,_] ?_
   first | refine j7 rfl rfl (by first | assumption | rfl) (by decide) ?_ | refine kh rfl rfl (by assumption) (by decide) ?_
   refine aB (ah (cF (sr ?_)))
   refine dp hh 1 [_,_,_] ?_
   refine eD [_,_,_] ?_
   first | refine j7 rfl rfl (by first | assumption | rfl) (by decide) ?_ | refine kh rfl rfl (by assumption) (by decide) ?_
   refine aB (ah (cF (ao (aW (ak (sr ?_))))))
   rw [hs]
   refine mI ?_
   refine eD [_,_,_,_,_] ?_
   refine cx hh ?_
   intro b6 w6 hh
   refine bL hh 0 [_,_,_,_,_] ?_
   intro ws hh
   replace hh : Hp _ (.blk _ _ [_, _, _, _, _] _ :: _) _ := hh
   refine ah (aj ?_)
   refine a4 9 [[(6, none)], [(30, some 0)], [(2, none)], [(31, some 1), (32, some 2)], [(6, none)], [(34, some 4)], [(3, none)], [(35, some 5), (36, some 6)], [(6, none)]] [(8, 38), (7, 37), (6, 36), (5, 35), (4, 34), (3, 33), (2, 32), (1, 31), (0, 30)] hh mixed (by kernel_rfl) ?_
   refine dx ?_
   refine fi 0 ?_
   refine gy 3 [_,_,_] ?_
   refine dC (fun _ hj => hcx _ (hT.hp hj.hp)) ?_
   refine dx ?_
   refine fi 0 ?_
   refine gy 2 [_,_,_] ?_
   refine dC (fun _ hj => hcy _ (hT.hp hj.hp)) ?_
   refine dx ?_
   refine bp ?_
   intro f W hJ hV
   have hb_8 := hJ.bl
   obtain ⟨v38, v37, v36, v35, v34, v33, v32, v31, v30, _⟩ := hV
   replace hh := hJ.hp
   refine a6 (bu (ai v38 (ai v37 (ai v36 (ai v35 (ai v34 (ai v33 (ai v32 (ai v31 (ai v30 a5)))))))))) ?_
   dsimp only [cC]
   clear hJ
   refine bL hh 0 [_,_] ?_
   intro ws hh
   replace hh : Hp _ (.blk _ _ [_, _, _, _, _] _ :: _) _ := hh
   refine bG ?_
   refine bL hh 0 [_,_] ?_
   intro ws hh
   replace hh : Hp _ (.blk _ _ [_, _, _, _, _] _ :: _) _ := hh
   refine ah (sr ?_)
   refine dp hh 0 [_,_,_,_,_] ?_
   refine bL hh 1 [_,_,_,_,_] ?_
   intro ws hh
   replace hh : Hp _ (_ :: .blk _ _ [_, _, _, _, _] _ :: _) _ := hh
   refine ah (aq ?_)
   refine gL (aQ rfl (aP (vs := [_, _, _, _, _]) aD.out (hh.ax (i := 1) (n := 5) rfl rfl) rfl) bh) ?_
   exact ⟨rfl, hh.below⟩
end Go.Proofs.YtkgdagjklakajaaGreatDoor
namespace Go.Proofs.YtkgdagjklakajaaGreatDoor
open Go.RowKit
def Ah (x y : Dyadic) : Int := if x < y then -1 else if y < x then 1 else 0
theorem nT {a b : NR} (ha : a.ok) (hb : b.ok) : (iM (cm a.d (cI a.d b.d))).size ≤ 6000000 ∧ (iM (cm b.d (cI a.d b.d))).size ≤ 6000000 ∧ -18000000 ≤ cI a.d b.d ∧ cI a.d b.d ≤ 18000000 := by
 obtain ⟨_, fa1, fa2, fa3⟩ := kt ha
 obtain ⟨_, fb1, fb2, fb3⟩ := kt hb
 have hP := sS a.d b.d 18000000 (by omega) (by omega)
 have h1 := mc a.d (cI a.d b.d)
 have h2 := mc b.d (cI a.d b.d)
 rw [dF, dF]
 refine ⟨by omega, by omega, hP.1, hP.2⟩
def Ac (n : Int) : Dyadic := Dyadic.ofIntWithPrec 1 (-n)
def lJ : List Dyadic → Dyadic := fun l => l.foldl (· + ·) 0
theorem n5 (l : List Dyadic) (x : Dyadic) : lJ (l ++ [x]) = lJ l + x := by simp [lJ]
theorem Sz.sum {k : Nat} {l : List Dyadic} (h : ∀ x ∈ l, Sz k x) : Sz (k + l.length) (lJ l) := by
 have : ∀ (n : Nat), n ≤ l.length → Sz (k + n) (lJ (l.take n)) := by
  intro n
  induction n with
  | zero => intro _; exact Sz.zero _
  | succ n ih =>
   intro hn
   obtain ⟨x, hx⟩ := aH (l := l) (k := n) (by omega)
   rw [aT hx, n5]
   exact (ih (by omega)).add ((h x (List.mem_of_getElem? hx)).mono (by omega))
 have h2 := this l.length (Nat.le_refl _)
 rwa [List.take_length] at h2
theorem l8 (a b : NR) (w : World) (hT : fS w) (ha : a.ok) (hb : b.ok) :
  Calls Tryz.prog 155 #[.agg #[.bool (iN (cm a.d (cI a.d b.d) + cm b.d (cI a.d b.d))), .string (iM (cm a.d (cI a.d b.d) + cm b.d (cI a.d b.d)))], .int .i64 (-(cI a.d b.d))] w fun r w' => r = .returned (.agg #[.bool (nR (a.d + b.d)).neg, .string (nR (a.d + b.d)).cq, .int .i64 (nR (a.d + b.d)).e]) ∧ Below w.heap.size w w' := by
 obtain ⟨hs1, hs2, hP1, hP2⟩ := nT ha hb
 rw [dF] at hs1 hs2
 have h3 := j3 (cm a.d (cI a.d b.d)) (cm b.d (cI a.d b.d))
 have := gO (iN (cm a.d (cI a.d b.d) + cm b.d (cI a.d b.d))) (iM (cm a.d (cI a.d b.d) + cm b.d (cI a.d b.d))) (-(cI a.d b.d)) w hT (by rw [dF]; omega) (by omega) (by omega)
 rw [ff, Int.neg_neg, xe] at this
 exact this
theorem sc (L : Option Addr) (n c : Nat) (l : List NR) (w : World) (hT : fS w) (hS : Sl w L n 3 (a8 NR.cells l)) (hl : ∀ a ∈ l, a.ok) (k : Nat) (hk : ∀ a ∈ l, Sz k a.d) (hkn : k + n ≤ 3999990) :
  Calls Tryz.prog 74 #[.slice L n c] w fun r w' => r = .returned (.agg #[.bool (nR (lJ (l.map NR.d))).neg, .string (nR (lJ (l.map NR.d))).cq, .int .i64 (nR (lJ (l.map NR.d))).e]) ∧ Below w.heap.size w w' := by
 have hln := hS.bV NR.len (by omega)
 have hh := Hp.start w
 refine al (N := 27) (l := [.slice L n c]) Tryz.func74 rfl rfl (by simp) ?_
 refine sr ?_
 refine cx hh ?_
 intro b2 w2 hh
 refine ah (sr ?_)
 refine cx hh ?_
 intro b3 w3 hh
 refine ah (aj (sr (mL (a0 (mI (ah (ar ?_)))))))
 refine bA [5, 6, 9, 10, 11, 12, 13, 14, 15, 16, 17, 18, 19, 20, 21, 22, 23, 24, 25] 9
  (fun j w' => ∃ (i : Nat) (S : Dyadic), i ≤ n ∧ j = .int .i64 i ∧ S = lJ ((l.take i).map NR.d) ∧ Hp w [.blk b3 26 [.bool (nR S).neg, .string (nR S).cq, .int .i64 (nR S).e] (0, 0), .blk b2 26 [.bool false, .string (ByteArray.mk #[]), .int .i64 0] (0, 0)] w')
  (fun j _ => n - (intOf j).toNat) ?_ ?_
 ·exact ⟨0, 0, Nat.zero_le _, rfl, rfl, hh⟩
 ·clear hh
  rintro ρ' j w' ⟨i, S, hi, rfl, hS2, hh⟩
  by_cases hlt : i < n
  ·obtain ⟨x, hx⟩ := aH (l := l) (k := i) (by omega)
   obtain ⟨ad, rfl, hr⟩ := hS.at_ (by omega)
   have hxm := List.mem_of_getElem? hx
   have hS3 : lJ ((l.take (i + 1)).map NR.d) = S + x.d := by rw [aT hx, List.map_append, List.map_singleton, n5, hS2]
   have hSz : Sz (k + i) S := by
    rw [hS2]
    have := Sz.sum (k := k) (l := (l.take i).map NR.d) (fun y hy => by
     obtain ⟨a, ha, rfl⟩ := List.mem_map.1 hy
     exact hk a (List.mem_of_mem_take ha))
    rw [List.length_map, List.length_take, Nat.min_eq_left (by omega)] at this
    exact this
   have hSo := hSz.ok (by omega)
   have hlc := fun w1 hT1 => pw (nR S) x w1 hT1 hSo (hl x hxm)
   have hmc := fun w1 hT1 => l8 (nR S) x w1 hT1 hSo (hl x hxm)
   obtain ⟨hs1, hs2, _⟩ := nT hSo (hl x hxm)
   rw [fh] at hlc hmc hs1 hs2
   have e1 : ([iR (cm S (cI S x.d)), iR (cm x.d (cI S x.d))].map IR.v).sum = cm S (cI S x.d) + cm x.d (cI S x.d) := by
    simp only [List.map_cons, List.map_nil, List.sum_cons, List.sum_nil, zu]; omega
   have hac : ∀ (A : Option Addr) (cc : Nat) (w1 : World), Sl w1 A 2 2 (a8 IR.cells [iR (cm S (cI S x.d)), iR (cm x.d (cI S x.d))]) → Calls Tryz.prog 156 #[.slice A 2 cc] w1 fun e w' => e = .returned (.agg #[.bool (iN (cm S (cI S x.d) + cm x.d (cI S x.d))), .string (iM (cm S (cI S x.d) + cm x.d (cI S x.d)))]) ∧ Below w1.heap.size w1 w' := fun A cc w1 hsl => by
    have := mf A 2 cc [iR (cm S (cI S x.d)), iR (cm x.d (cI S x.d))] w1 hsl (by omega) (by simp [iR]; omega)
    rw [e1] at this
    exact this
   refine sr ?_
   refine aV (ah (aj (cT (ao (ak (aj (ar (sr ?_))))))))
   refine aY (k := i) aG.out aD.size rfl rfl (by omega) (by omega) (by decide) ?_
   refine bS (vs := [_, _, _]) aD.out rfl (((hr.ext hh.below).recAt NR.len hx)) rfl (by decide) ?_
   refine cx hh ?_
   intro b5 w5 hh
   refine bL hh 0 [_,_,_] ?_
   intro ws hh
   replace hh : Hp _ (.blk _ _ [_, _, _] _ :: _) _ := hh
   refine ah (sr ?_)
   refine dp hh 1 [_,_,_] ?_
   refine dp hh 0 [_,_,_] ?_
   refine bC hh (hlc _ (hT.hp hh)) rfl ?_
   intro w15 hh
   refine cx hh ?_
   intro b6 w6 hh
   refine bL hh 0 [_,_,_,_,_] ?_
   intro ws hh
   replace hh : Hp _ (.blk _ _ [_, _, _, _, _] _ :: _) _ := hh
   refine ah ?_
   refine a4 8 [[(6, none)], [(16, some 0)], [(6, none)], [(18, some 2)], [(17, some 1), (19, some 3)], [(20, some 4)], [(6, none)], [(22, some 6)]] [(7, 23), (6, 22), (5, 21), (4, 20), (3, 19), (2, 18), (1, 17), (0, 16)] hh mixed (by kernel_rfl) ?_
   refine dx ?_
   refine gy 0 [_,_] ?_
   refine dx ?_
   refine gy 0 [_,_] ?_
   refine x9 [_,_,_,_] ?_
   refine bW (i := 5) (Is (.agg #[.bool (iN (cm S (cI S x.d) + cm x.d (cI S x.d))), .string (iM (cm S (cI S x.d) + cm x.d (cI S x.d)))])) Is.ext ?_ ?_
   ·intro ρ1 w1 hj hR
    obtain ⟨A20, c20, h20, s20⟩ := hR.1
    exact cZ rfl (bs au.out (aF h20 bq)) (hac A20 c20 _ s20) (fun _ _ hq => ⟨_, hq.1, hq.2, rfl⟩)
   refine dx ?_
   refine fi 0 ?_
   refine bp ?_
   intro f W hJ hV
   have hb_6 := hJ.bl
   obtain ⟨v23, v22, v21, v20, v19, v18, v17, v16, _⟩ := hV
   obtain ⟨A20, c20, e20, f20⟩ : Rows _ _ _ (f 4) W := v20
   replace hh := hJ.hp
   refine a6 (bu (ai v23 (ai v22 (ai v21 (ai e20 (ai v19 (ai v18 (ai v17 (ai v16 a5))))))))) ?_
   dsimp only [cC]
   clear e20 hJ
   refine bC hh (hmc _ (hT.hp hh)) rfl ?_
   intro w24 hh
   refine bL hh 2 [_,_,_] ?_
   intro ws hh
   replace hh : Hp _ (_ :: _ :: .blk _ _ [_, _, _] _ :: _) _ := hh
   refine aE (aW (ak (aw ?_)))
   refine bJ (mI (aE (ak ?_)))
   replace hh := hh.sub ((List.sublist_cons_self _ _).trans (List.sublist_cons_self _ _))
   refine ⟨⟨i + 1, _, by omega, rfl, hS3.symm, hh⟩, by show n - (i + 1) < n - i; omega, ?_⟩
   (repeat (first | exact az _ _ _ | refine aC rfl ?_ | refine ay rfl ?_))
  ·refine sr ?_
   refine aV (ah (aj (cF ?_)))
   refine aX ?_
   refine aA (aA (bj (ak (sr ?_))))
   refine dp hh 0 [_,_,_] ?_
   refine bL hh 1 [_,_,_] ?_
   intro ws hh
   replace hh : Hp _ (_ :: .blk _ _ [_, _, _] _ :: _) _ := hh
   refine ah (aq ?_)
   refine gL (aQ rfl (aP (vs := [_, _, _]) aD.out (hh.ax (i := 1) (n := 3) rfl rfl) rfl) bh) ?_
   rw [List.take_of_length_le (by omega)] at hS2
   rw [hS2]
   exact ⟨rfl, hh.below⟩
theorem uT (x y : Dyadic) : lJ [x, y] = x + y := by
 show (0 + x) + y = x + y
 rw [Dyadic.zero_add]
def iy : List Dyadic → Dyadic := fun l => l.foldl (· * ·) 1
theorem l0 (l : List Dyadic) (x : Dyadic) : iy (l ++ [x]) = iy l * x := by simp [iy]
theorem Sz.one : Sz 1 1 := ⟨2, by decide +kernel, by decide⟩
theorem Sz.prod {k : Nat} {l : List Dyadic} (h : ∀ x ∈ l, Sz k x) : Sz (1 + k * l.length) (iy l) := by
 have : ∀ (n : Nat), n ≤ l.length → Sz (1 + k * n) (iy (l.take n)) := by
  intro n
  induction n with
  | zero => intro _; exact Sz.one
  | succ n ih =>
   intro hn
   obtain ⟨x, hx⟩ := aH (l := l) (k := n) (by omega)
   rw [aT hx, l0]
   exact ((ih (by omega)).mul (h x (List.mem_of_getElem? hx))).mono (by rw [Nat.mul_succ]; omega)
 have h2 := this l.length (Nat.le_refl _)
 rwa [List.take_length] at h2
theorem ma (L : Option Addr) (n c : Nat) (l : List NR) (w : World) (hT : fS w) (hS : Sl w L n 3 (a8 NR.cells l)) (hl : ∀ a ∈ l, a.ok) (k : Nat) (hk : ∀ a ∈ l, Sz k a.d) (hkn : k * n ≤ 3999980) (hn : n ≤ 1000000) :
  Calls Tryz.prog 75 #[.slice L n c] w fun r w' => r = .returned (.agg #[.bool (nR (iy (l.map NR.d))).neg, .string (nR (iy (l.map NR.d))).cq, .int .i64 (nR (iy (l.map NR.d))).e]) ∧ Below w.heap.size w w' := by
 have hln := hS.bV NR.len (by omega)
 have hh := Hp.start w
 refine al (N := 27) (l := [.slice L n c]) Tryz.func75 rfl rfl (by simp) ?_
 refine sr ?_
 refine cx hh ?_
 intro b2 w2 hh
 refine ah (sr ?_)
 refine bC hh (kS 1 _ (hT.hp hh) (by omega) (by omega)) rfl ?_
 intro w6 hh
 refine cx hh ?_
 intro b3 w3 hh
 refine bL hh 0 [_,_,_] ?_
 intro ws hh
 replace hh : Hp _ (.blk _ _ [_, _, _] _ :: _) _ := hh
 refine ah (aj (sr (mL (a0 (mI (ah (ar ?_)))))))
 refine bA [5, 9, 10, 11, 12, 13, 14, 15, 16, 17, 18, 19, 20, 21, 22, 23, 24, 25] 9
  (fun j w' => ∃ (i : Nat) (S : Dyadic), i ≤ n ∧ j = .int .i64 i ∧ S = iy ((l.take i).map NR.d) ∧ Hp w [.blk b3 26 [.bool (nR S).neg, .string (nR S).cq, .int .i64 (nR S).e] (0, 0), .blk b2 26 [.bool false, .string (ByteArray.mk #[]), .int .i64 0] (0, 0)] w')
  (fun j _ => n - (intOf j).toNat) ?_ ?_
 ·exact ⟨0, _, Nat.zero_le _, rfl, rfl, hh⟩
 ·clear hh
  rintro ρ' j w' ⟨i, S, hi, rfl, hS2, hh⟩
  by_cases hlt : i < n
  ·obtain ⟨x, hx⟩ := aH (l := l) (k := i) (by omega)
   obtain ⟨ad, rfl, hr⟩ := hS.at_ (by omega)
   have hxm := List.mem_of_getElem? hx
   have hS3 : iy ((l.take (i + 1)).map NR.d) = S * x.d := by rw [aT hx, List.map_append, List.map_singleton, l0, hS2]
   have hSz : Sz (1 + k * i) S := by
    rw [hS2]
    have := Sz.prod (k := k) (l := (l.take i).map NR.d) (fun y hy => by
     obtain ⟨a, ha, rfl⟩ := List.mem_map.1 hy
     exact hk a (List.mem_of_mem_take ha))
    rw [List.length_map, List.length_take, Nat.min_eq_left (by omega)] at this
    exact this
   have hki : k * i ≤ k * n := Nat.mul_le_mul_left _ hi
   obtain ⟨so1, so2, so3⟩ := hSz.ok (by omega)
   obtain ⟨xo1, xo2, xo3⟩ := hl x hxm
   have e1 : iD ([IR.mk (nR S).neg (nR S).cq, IR.mk x.neg x.cq].map IR.v) = (nR S).i * x.i := by
    simp only [List.map_cons, List.map_nil, iD, Int.mul_one]; rfl
   have e2 : Dyadic.ofIntWithPrec ((nR S).i * x.i) (-((nR S).e + x.e)) = S * x.d := by
    have := pe (nR S).i x.i (-(nR S).e) (-x.e)
    rw [Int.neg_add, ← this]
    congr 1
    exact fh S
   have hac : ∀ (A : Option Addr) (cc : Nat) (w1 : World), Sl w1 A 2 2 (a8 IR.cells [IR.mk (nR S).neg (nR S).cq, IR.mk x.neg x.cq]) → Calls Tryz.prog 157 #[.slice A 2 cc] w1 fun e w' => e = .returned (.agg #[.bool (iN ((nR S).i * x.i)), .string (iM ((nR S).i * x.i))]) ∧ Below w1.heap.size w1 w' := fun A cc w1 hsl => by
    have := r8 A 2 cc [IR.mk (nR S).neg (nR S).cq, IR.mk x.neg x.cq] w1 hsl (by omega) (by simp; omega)
    rw [e1] at this
    exact this
   have hmc : ∀ w1, fS w1 → Calls Tryz.prog 155 #[.agg #[.bool (iN ((nR S).i * x.i)), .string (iM ((nR S).i * x.i))], .int .i64 ((nR S).e + x.e)] w1 fun r w' => r = .returned (.agg #[.bool (nR (S * x.d)).neg, .string (nR (S * x.d)).cq, .int .i64 (nR (S * x.d)).e]) ∧ Below w1.heap.size w1 w' := fun w1 hT1 => by
    have hb1 := kp (nR S).neg (nR S).cq
    have hb2 := kp x.neg x.cq
    have hb3 := j2 (nR S).i x.i
    have := gO (iN ((nR S).i * x.i)) (iM ((nR S).i * x.i)) ((nR S).e + x.e) w1 hT1 (by rw [dF]; unfold NR.i at hb3 ⊢; omega) (by omega) (by omega)
    rw [ff, e2] at this
    exact this
   refine sr ?_
   refine aV (ah (aj (cT (ao (ak (aj (ar (sr ?_))))))))
   refine aY (k := i) aG.out aD.size rfl rfl (by omega) (by omega) (by decide) ?_
   refine bS (vs := [_, _, _]) aD.out rfl (((hr.ext hh.below).recAt NR.len hx)) rfl (by decide) ?_
   refine cx hh ?_
   intro b5 w5 hh
   refine bL hh 0 [_,_,_] ?_
   intro ws hh
   replace hh : Hp _ (.blk _ _ [_, _, _] _ :: _) _ := hh
   refine ah ?_
   refine a4 11 [[(3, none)], [(13, some 0)], [(5, none)], [(15, some 2)], [(14, some 1), (16, some 3)], [(17, some 4)], [(3, none)], [(19, some 6)], [(5, none)], [(21, some 8)], [(20, some 7), (22, some 9)]] [(10, 23), (9, 22), (8, 21), (7, 20), (6, 19), (5, 18), (4, 17), (3, 16), (2, 15), (1, 14), (0, 13)] hh mixed (by kernel_rfl) ?_
   refine dx ?_
   refine gy 1 [_,_] ?_
   refine dx ?_
   refine gy 0 [_,_] ?_
   refine x9 [_,_,_,_] ?_
   refine bW (i := 5) (Is (.agg #[.bool (iN ((nR S).i * x.i)), .string (iM ((nR S).i * x.i))])) Is.ext ?_ ?_
   ·intro ρ1 w1 hj hR
    obtain ⟨A17, c17, h17, s17⟩ := hR.1
    exact cZ rfl (bs au.out (aF h17 bq)) (hac A17 c17 _ s17) (fun _ _ hq => ⟨_, hq.1, hq.2, rfl⟩)
   refine dx ?_
   refine fi 1 ?_
   refine dx ?_
   refine fi 0 ?_
   refine xS ?_
   refine bp ?_
   intro f W hJ hV
   have hb_5 := hJ.bl
   obtain ⟨v23, v22, v21, v20, v19, v18, v17, v16, v15, v14, v13, _⟩ := hV
   obtain ⟨A17, c17, e17, f17⟩ : Rows _ _ _ (f 4) W := v17
   replace hh := hJ.hp
   refine a6 (bu (ai v23 (ai v22 (ai v21 (ai v20 (ai v19 (ai v18 (ai e17 (ai v16 (ai v15 (ai v14 (ai v13 a5)))))))))))) ?_
   dsimp only [cC]
   clear e17 hJ
   refine bC hh (hmc _ (hT.hp hh)) rfl ?_
   intro w24 hh
   refine bL hh 1 [_,_,_] ?_
   intro ws hh
   replace hh : Hp _ (_ :: .blk _ _ [_, _, _] _ :: _) _ := hh
   refine aE (aW (ak (aw ?_)))
   refine bJ (mI (aE (ak ?_)))
   replace hh := hh.sub (List.sublist_cons_self _ _)
   refine ⟨⟨i + 1, _, by omega, rfl, hS3.symm, hh⟩, by show n - (i + 1) < n - i; omega, ?_⟩
   (repeat (first | exact az _ _ _ | refine aC rfl ?_ | refine ay rfl ?_))
  ·refine sr ?_
   refine aV (ah (aj (cF ?_)))
   refine aX ?_
   refine aA (aA (bj (ak (sr ?_))))
   refine dp hh 0 [_,_,_] ?_
   refine bL hh 1 [_,_,_] ?_
   intro ws hh
   replace hh : Hp _ (_ :: .blk _ _ [_, _, _] _ :: _) _ := hh
   refine ah (aq ?_)
   refine gL (aQ rfl (aP (vs := [_, _, _]) aD.out (hh.ax (i := 1) (n := 3) rfl rfl) rfl) bh) ?_
   rw [List.take_of_length_le (by omega)] at hS2
   rw [hS2]
   exact ⟨rfl, hh.below⟩
end Go.Proofs.YtkgdagjklakajaaGreatDoor
namespace Go.Proofs.YtkgdagjklakajaaGreatDoor
open Go.RowKit
def z6 (f : Dyadic → Dyadic → Bool) : List Dyadic → Dyadic
 | [] => 0
 | a :: r => r.foldl (fun out a => if f a out then a else out) a
end Go.Proofs.YtkgdagjklakajaaGreatDoor
namespace Go.Proofs.YtkgdagjklakajaaGreatDoor
end Go.Proofs.YtkgdagjklakajaaGreatDoor
