/- Lemmas for liftSame, part 3. -/
import Derived.Test.YtaapkaefelhfcaaGreatDoorZ2
/- Several texts in one: Nat, NatB, NatC, NatD, NatE, NatF. -/
namespace Go.Proofs.YtaapkaefelhfcaaGreatDoor
open Go.RowKit
theorem g6 (A : Option Addr) (n c : Nat) (xs : List Nat) (w : World) (hx : Sl w A n 1 (dp xs)) (hc : n ≤ c) (hn : n ≤ 1000000000000) :
  Calls Tryz.prog 272 #[.slice A n c] w fun e w' => e = .returned (.slice A (ej xs).length c) ∧ Below w.heap.size w w' := by
 have hlen : xs.length = n := by have := hx.1; rw [bk] at this; omega
 have hh := Hp.start w;refine al (N := 21) (l := [.slice A n c]) Tryz.func272 rfl rfl (by simp) ?_;refine sr (aL (aa (ah (aj ?_))));refine bm [0, 3, 4, 5, 6, 7, 8, 9, 10, 11, 12, 13, 14, 15, 16, 17, 18, 19] 0
  (fun v w' => ∃ k : Nat, k ≤ n ∧ v = .slice A k c ∧ ej (xs.take k) = ej xs ∧ w' = w)
  (fun v _ => lenOf v) ?_ ?_
 ·exact ⟨n, Nat.le_refl _, rfl, by rw [List.take_of_length_le Ky], rfl⟩
 ·rintro ρ' v w' ⟨k, hk, rfl, hcut, rfl⟩;by_cases h0 : k = 0
  ·subst h0;refine ah (sr (mL (aW ?_)));refine ct (mB ?_);refine gS (gS (gS (gS (gS ?_))));refine cn Kz rfl rfl Kz ?_;refine gS ?_;refine eX ?_;refine aa (cF (aJ (az (az (aX (ai (sr (mL (aL (aa (ao ?_)))))))))));refine cq ?_;rw [← hcut];exact ⟨rfl, hh.below⟩
  ·obtain ⟨j, rfl⟩ : ∃ j, k = j + 1 := ⟨k - 1, Ky⟩;obtain ⟨d, hd⟩ := ay (l := xs) (k := j) Ky;obtain ⟨ad, rfl, hr⟩ := hx.at_ Ky;have hd2 := eH hd;rw [aH hd] at hcut;by_cases hz : d = 0
   ·subst hz;rw [qC] at hcut;refine ah (sr (mL (aW ?_)));refine ct (mB (gT (mL (gT (mL (gT (aW (gT ?_))))))));refine eO (gT ?_);refine aD (k := j) aQ.out aF.size rfl rfl Ky Ky Kz ?_;refine gT ?_;refine aZ aF.out rfl ((hr.ext hh.below).fP (by assumption)) Kz ?_;refine gT ?_;refine dh ?_;refine e7 ?_;refine aa (cT (ak (ai (aj (aq (mL (mL (aW ?_))))))));refine eO ?_;refine nI (h := j) aQ.out aF.size rfl rfl Ky Ky Kz ?_;refine aL (aE (aP (ai ?_)));refine ⟨⟨j, Ky, rfl, hcut, rfl⟩, by show j < j + 1; omega, ?_⟩;exact KB
   ·rw [tF hz] at hcut;refine ah (sr (mL (aW ?_)));refine ct (mB (gT (mL (gT (mL (gT (aW (gT ?_))))))));refine eO (gT ?_);refine aD (k := j) aQ.out aF.size rfl rfl Ky Ky Kz ?_;refine gT ?_;refine aZ aF.out rfl ((hr.ext hh.below).fP (by assumption)) Kz ?_;refine gT ?_;refine dh ?_;refine e7 ?_;refine aa (cF (aJ (az (az (aX (ai (sr (mL (aL (aa (ao ?_)))))))))));refine cq ?_;rw [← hcut, List.length_append, List.length_take, Nat.min_eq_left Ky];exact ⟨rfl, hh.below⟩
theorem fF {B : Nat} {l : List Nat} {i c : Nat} (h : l[i]? = some c) : bL B (l.take (i + 1)) = bL B (l.take i) + B ^ i * c := by
 have hi := (List.getElem?_eq_some_iff.1 h).1;rw [aH h, eQ, List.length_take, Nat.min_eq_left Ky];simp [bL]
theorem Hp.Al {w0 w : World} {H : List HE} {A : Option Addr} {n c : Nat} {t : TypeId} {xs : List Nat} (h : Hp w0 (.row A n c t 1 (dp xs) :: H) w) (hl : xs.length = n) : Hp w0 (.row A (ej xs).length c t 1 (dp (ej xs)) :: H) w := by
 have h1 := fB xs;have h2 := h.zh (k := (ej xs).length) Ky;rw [Nat.mul_one, ← sK, ← jD] at h2;exact h2
theorem Bs (a : ByteArray) (w : World) (ha : a.size ≤ 100000000000) :
  Calls Tryz.prog 250 #[.string a] w fun e w' => ∃ b c, e = .returned (.slice (some ⟨b, 0, none⟩) (bo 18446744073709551616 (bn a.data.toList)).length c) ∧ w'.ownsRow w.heap.size 221 1 (.slice (some ⟨b, 0, none⟩) (bo 18446744073709551616 (bn a.data.toList)).length c) (bo 18446744073709551616 (bn a.data.toList)).length (dp (bo 18446744073709551616 (bn a.data.toList))) ∧ Below w.heap.size w w' := by
 have hsz := eF a;have hh := Hp.start w;refine al (N := 39) (l := [.string a]) Tryz.func250 rfl rfl (by simp) ?_;refine sr (aL (aa (sr (mS ?_))));refine bW aQ.out rfl Kz ?_;refine bB ?_;refine jr rfl rfl Ky Ky Ky Kz ?_;refine eT (n := (a.size + 7) / 8) hh rfl rfl Ky Ky aQ.out aF.out rfl Ky Ky Kz ?_;intro b10 w10 hh;refine aL (aa (ah (sr (mS ?_))));refine bW aQ.out rfl Kz ?_;refine mI (aa (aj ?_));rw [nq] at hh;refine bm [4, 5, 13, 14, 15, 16, 17, 18, 19, 20, 21, 22, 23, 24, 25, 26, 27, 28, 29, 30, 31, 32, 33, 34, 35, 36] 13
  (fun v w' => ∃ i : Nat, i ≤ a.size ∧ v = .int .i64 i ∧ Hp w [.row (some ⟨b10, 0, none⟩) ((a.size + 7) / 8) ((a.size + 7) / 8) 221 1 (dp (cu 18446744073709551616 ((a.size + 7) / 8) (bL 256 ((xv a.data.toList).take i))))] w')
  (fun v _ => a.size - (intOf v).toNat) ?_ ?_
 ·exact ⟨0, Nat.zero_le _, rfl, by rw [List.take_zero, bL, pg]; exact hh⟩
 ·clear hh;rintro ρ' v w' ⟨i, hi, rfl, hh⟩;by_cases hlt : i < a.size
  ·obtain ⟨c, hc⟩ := ay (l := a.data.toList) (k := ((a.size : Int) - 1 - i).toNat) Ky;have hlo := EH (s := a.data.toList) (i := i) (c := c) Ky (by rw [← hc]; congr 1; omega);have hc8 := c.toNat_lt;have hn := ir ((u6 a.data.toList).take i);rw [List.length_take, mW, Nat.min_eq_left Ky] at hn;obtain ⟨s1, s2, s3⟩ := E5 (k := (a.size + 7) / 8) (bL 256 ((xv a.data.toList).take i)) hn hc8 Ky;have hg := eH (hQ (B := 18446744073709551616) ((a.size + 7) / 8) (bL 256 ((xv a.data.toList).take i)) (i / 8) Ky);have e1 : ((i : Int) % 8 * 8).toNat = i % 8 * 8 := Ky;refine sr ?_;refine aK (aa (ah (cT (ak (ai (ah (aj (sr (mI (aI (aa (sr (mS ?_)))))))))))));refine bW aQ.out rfl Kz ?_;refine eO (mI ?_);refine eO (aI (aa ?_));refine a8 13 [[(3, none)], [(4, none)], [(22, some 1)], [(21, some 0), (23, some 2)], [(24, some 3)], [(0, none)], [(5, none)], [(26, some 5), (27, some 6)], [(28, some 7)], [(4, none)], [(30, some 9)], [(31, some 10)], [(29, some 8), (32, some 11)]] [(12, 33), (11, 32), (10, 31), (9, 30), (8, 29), (7, 28), (6, 27), (5, 26), (4, 25), (3, 24), (2, 23), (1, 22), (0, 21)] hh mixed KA ?_;refine jt ?_;refine fJ ?_
   refine bF (i := 2) (fun ρ1 w1 hj hR => o4 (show ρ1 22 = Value.int _ _ from hR.1) rfl Ky Ky Ky) ?_;refine DF (i / 8) ?_;refine bF (i := 4) (fun ρ1 w1 hj hR => fO aF.out (show ρ1 24 = Value.pointer _ from hR.1) (hj.hp.cN (i := 0) rfl (by first | assumption | (simp only [Nat.mul_one]; assumption)))) ?_;refine JP ?_;refine fJ ?_;refine bF (i := 7) (fun ρ1 w1 hj hR => pr aQ.out (show ρ1 26 = Value.string _ from hR.1) (show ρ1 27 = Value.int _ _ from hR.2.1) Ky (by assumption)) ?_;refine bF (i := 8) (fun ρ1 w1 hj hR => r6 aQ.out aQ.out (show ρ1 28 = Value.int _ _ from hR.1) (by first | assumption | omega)) ?_;refine fJ ?_;refine bF (i := 10) (fun ρ1 w1 hj hR => mX (show ρ1 30 = Value.int _ _ from hR.1) rfl Ky Ky) ?_;refine I0 ?_;refine bF (i := 12) (fun ρ1 w1 hj hR => vr (show ρ1 29 = Value.int _ _ from hR.1) (show ρ1 32 = Value.int _ _ from hR.2.1) Ky) ?_;refine bA ?_;intro f W hJ hV;have hb_6 := hJ.bl;obtain ⟨v33, v32, v31, v30, v29, v28, v27, v26, v25, v24, v23, v22, v21, _⟩ := hV;replace hh := hJ.hp;refine bj (bC (ae v33 (ae v32 (ae v31 (ae v30 (ae v29 (ae v28 (ae v27 (ae v26 (ae v25 (ae v24 (ae v23 (ae v22 (ae v21 bh)))))))))))))) ?_;dsimp only [cP];clear hJ
   refine z9 rfl rfl (by first | assumption | omega) (by first | assumption | omega) Kz ?_;refine bf (k := i / 8) aQ.out aF.size rfl rfl Ky Ky Kz ?_;refine bs hh (i := 0) (vs := [_]) rfl rfl (cd rfl) rfl aF.out rfl (by rw [bk, bg]; omega) rfl ?_;intro ws hh;simp only [List.set_cons_zero] at hh;rw [e1, Nat.mod_eq_of_lt s2, yz s1, cS (by rw [bk, bg]; omega), Nat.mul_one, gg, s3, ← fF hlo] at hh;refine aE (aP (ai (aq ?_)));refine bB (mI (aE (ai ?_)));refine ⟨⟨i + 1, Ky, rfl, hh⟩, by show a.size - (i + 1) < a.size - i; omega, ?_⟩;exact KB
  ·refine sr ?_;refine aK (aa (ah (cF (aJ (az (az (aX (ai (sr (mL ?_))))))))));rw [List.take_of_length_le (by rw [mW]; omega)] at hh;refine bE hh (g6 _ _ _ (cu 18446744073709551616 ((a.size + 7) / 8) (bn a.data.toList)) _ (hh.aM (i := 0) rfl) (Nat.le_refl _) Ky) rfl ?_;intro w38 hh;refine aL (aa (ao ?_));refine cq ?_;have hbd : bn a.data.toList < 18446744073709551616 ^ ((a.size + 7) / 8) := by
    refine Nat.lt_of_lt_of_le (Gz _) ?_;rw [← hsz, show (256 : Nat) = 2 ^ 8 from rfl, show (18446744073709551616 : Nat) = 2 ^ 64 from rfl, ← Nat.pow_mul, ← Nat.pow_mul];exact Nat.pow_le_pow_right Ky Ky
   have hd : ej (cu 18446744073709551616 ((a.size + 7) / 8) (bn a.data.toList)) = bo 18446744073709551616 (bn a.data.toList) := by
    rw [fH Ky (fk Ky _ _), cX hbd]
   have h1 := (Hp.Al (xs := cu 18446744073709551616 ((a.size + 7) / 8) (bn a.data.toList)) hh (bg _ _)).at_ (i := 0) rfl;rw [hd] at h1;rw [hd];exact ⟨_, _, rfl, h1, hh.below⟩
theorem Sl.HB {w : World} {A : Option Addr} {n : Nat} {xs : List Nat} (h : Sl w A n 1 (dp xs)) {k : Nat} (hk : k ≤ n) : Sl w A k 1 (dp (xs.take k)) := by
 have hl := h.1;rw [bk] at hl;refine ⟨by rw [bk, List.length_take]; omega, fun h0 => ?_⟩;obtain ⟨ad, he, hr⟩ := h.2 Ky;exact ⟨ad, he, by rw [sK]; exact hr.take k⟩
theorem Sl.ua {w : World} {A : Option Addr} {n : Nat} {xs : List Nat} (h : Sl w A n 1 (dp xs)) : Sl w A (ej xs).length 1 (dp (ej xs)) := by
 have hl := h.1;rw [bk] at hl;have := fB xs;have h2 := h.HB (k := (ej xs).length) Ky;rwa [← jD] at h2
theorem yC {xs : List Nat} (h : Dg 18446744073709551616 xs) : bU (bL 18446744073709551616 xs) ≤ 64 * xs.length := by
 apply dQ;rw [Nat.pow_mul];exact ir h
theorem rm (A : Option Addr) (n c : Nat) (xs : List Nat) (w : World) (hx : Sl w A n 1 (dp xs)) (hd : Dg 18446744073709551616 xs) (hc : n ≤ c) (hn : n ≤ 100000000000) :
  Calls Tryz.prog 275 #[.slice A n c] w fun e w' => e = .returned (.int .i64 (bU (bL 18446744073709551616 xs))) ∧ Below w.heap.size w w' := by
 have hl := hx.1;rw [bk] at hl;have hcl := fB xs;have hcx := hx.ua;have hcd := hd.cut;have hlast := tL xs;rw [← ki];generalize hcs : ej xs = cs at *;have hh := Hp.start w;refine al (N := 19) (l := [.slice A n c]) Tryz.func275 rfl rfl (by simp) ?_;refine sr (aI (aa (sr (mL ?_))));refine bE hh (g6 _ _ _ xs _ hx hc Ky) rfl ?_;intro w4 hh;rw [hcs];by_cases h0 : cs.length = 0
 ·refine aL (aa (ah (sr (mL (aW ?_)))));refine dh (aa (cT (sr (aI (aa (ao (aG ?_)))))));refine cq ?_;have : cs = [] := List.eq_nil_of_length_eq_zero h0;subst this;exact ⟨by rw [bL, ko]; rfl, hh.below⟩
 ·obtain ⟨ad, rfl, hr⟩ := hcx.at_ Ky;obtain ⟨d, hd⟩ := ay (l := cs) (k := cs.length - 1) Ky;have hd2 := eH hd;have hd3 := hcd.at_ hd;have e1 : cs.take (cs.length - 1) ++ [d] = cs := by rw [← aH hd, List.take_of_length_le Ky]
  have hnz : d ≠ 0 := by
   intro h;subst h;apply hlast;rw [List.getLast?_eq_getElem?];exact hd
  have hb := DH (B := 18446744073709551616) (b := 64) (m := cs.length - 1) Kz (hcd.take (cs.length - 1)) (by rw [List.length_take]; omega) hnz;rw [e1] at hb;have hb2 : bU d ≤ 64 := dQ (by simpa using hd3);refine aL (aa (ah (sr (mL (aW ?_)))));refine dh (aa (cF (ak (ai (sr (mL (aW ?_)))))));refine mulC (mL (mL (aW ?_)));refine eO ?_;refine aD (k := cs.length - 1) aQ.out aF.size rfl rfl Ky Ky Kz ?_;refine aZ aF.out rfl ((hr.ext hh.below).fP (by assumption)) Kz ?_;refine bE hh (xO _ _ hd3) rfl ?_;intro w17 hh;refine eO (aI (aa (ao ?_)));refine cq ?_;refine ⟨?_, hh.below⟩;congr 2;omega
theorem zf (N : Nat) : (bo 256 N).length = (bU N + 7) / 8 := by
 have h256 : (256 : Nat) = 2 ^ 8 := rfl;have h1 : (bo 256 N).length ≤ (bU N + 7) / 8 := by
  apply g8 Ky;refine Nat.lt_of_lt_of_le (dL N) ?_;rw [h256, ← Nat.pow_mul];exact Nat.pow_le_pow_right Ky Ky
 have h2 := lY (B := 256) Ky N;have h3 : bU N ≤ 8 * (bo 256 N).length := by
  apply dQ;rw [Nat.pow_mul];exact h2
 omega
theorem kx {B : Nat} (i N : Nat) : cu B (i + 1) N = cu B i N ++ [N / B ^ i % B] := by
 apply List.ext_getElem?;intro j
 rcases Nat.lt_trichotomy j i with h | h | h
 ·rw [hQ _ _ _ Ky, List.getElem?_append_left (by rw [bg]; exact h), hQ _ _ _ h]
 ·subst h;rw [hQ _ _ _ Ky, List.getElem?_append_right (by rw [bg]; omega), bg];simp
 ·rw [List.getElem?_eq_none (by rw [bg]; omega), List.getElem?_eq_none (by rw [List.length_append, bg]; simp; omega)]
theorem zG {R : List Nat} {k x : Nat} : (List.replicate (k + 1) 0 ++ R).set k x = List.replicate k 0 ++ (x :: R) := by
 rw [List.replicate_succ', List.append_assoc, List.set_append_right _ _ (by simp)];simp
theorem g7 (A : Option Addr) (n c : Nat) (xs : List Nat) (w : World) (hx : Sl w A n 1 (dp xs)) (hd : Dg 18446744073709551616 xs) (hc : n ≤ c) (hn : n ≤ 10000000000) :
  Calls Tryz.prog 261 #[.slice A n c] w fun e w' => e = .returned (.string (str (sb (bL 18446744073709551616 xs)))) ∧ Below w.heap.size w w' := by
 have hl := hx.1;rw [bk] at hl;have hcl := fB xs;have hcx := hx.ua;have hcd := hd.cut;have hbl := yC hcd;have hcan := fH Ky hd;have hlen := zf (bL 18446744073709551616 xs);rw [ki] at hbl;have hh := Hp.start w;refine al (N := 37) (l := [.slice A n c]) Tryz.func261 rfl rfl (by simp) ?_;refine sr (aS (aa (sr (mL ?_))));refine bE hh (g6 _ _ _ xs _ hx hc Ky) rfl ?_;intro w7 hh;rw [hcan] at hcl hcx hcd hbl;rw [hcan];refine aL (aa (sr (mL ?_)));refine bE hh (rm _ _ _ (bo 18446744073709551616 (bL 18446744073709551616 xs)) _ (hcx.ext hh.below) hcd Ky Ky) rfl ?_;intro w9 hh;rw [er Ky];generalize bL 18446744073709551616 xs = M at *;refine bB ?_;refine jr rfl rfl Ky Ky Ky Kz ?_;refine aI (aa (sr (mI ?_)));refine eT (n := (bU M + 7) / 8) hh rfl rfl Ky Ky aQ.out aF.out rfl Ky Ky Kz ?_;intro b13 w13 hh;refine aL (aa (ah (sr (mI (mI (aa (aj ?_)))))));rw [nM] at hh;refine bm [5, 15, 16, 17, 18, 19, 20, 21, 22, 23, 24, 25, 26, 27, 28, 29, 30, 31, 32, 33, 34] 15
  (fun v w' => ∃ i : Nat, i ≤ (bU M + 7) / 8 ∧ v = .int .i64 i ∧ Hp w [.row (some ⟨b13, 0, none⟩) ((bU M + 7) / 8) ((bU M + 7) / 8) 5 1 (gG (List.replicate ((bU M + 7) / 8 - i) 0 ++ (cu 256 i M).reverse))] w')
  (fun v _ => (bU M + 7) / 8 - (intOf v).toNat) ?_ ?_
 ·exact ⟨0, Nat.zero_le _, rfl, by simpa [cu] using hh⟩
 ·clear hh;rintro ρ' v w' ⟨i, hi, rfl, hh⟩;by_cases hlt : i < (bU M + 7) / 8
  ·obtain ⟨ad, rfl, hr⟩ := hcx.at_ Ky;have hg := vB (B := 18446744073709551616) (n := M) (i := i / 8) Ky Ky;have hg2 := eH hg;have e1 : ((i : Int) % 8 * 8).toNat = i % 8 * 8 := Ky;refine sr ?_;refine aK (aa (ah (cT (ak (ai (ah (aj (sr (mI (aI (aa (aq (mL (mI ?_))))))))))))));refine eO (mI ?_);refine eO (mL (mI ?_));refine jr rfl rfl Ky Ky Ky Kz ?_;refine aD (k := i / 8) aQ.out aF.size rfl rfl Ky Ky Kz ?_;refine aZ aF.out rfl ((hr.ext hh.below).fP (by assumption)) Kz ?_;refine mI ?_;refine kT rfl rfl Ky Ky Kz ?_;refine mulC ?_;refine zu rfl rfl Ky Kz ?_;refine FG aQ.out aQ.out rfl Kz ?_;refine bf (k := (bU M + 7) / 8 - 1 - i) aQ.out aF.size rfl rfl Ky Ky Kz ?_;refine bs hh (i := 0) (vs := [_]) rfl rfl (cd rfl) rfl aF.out rfl (by rw [cW, List.length_append, List.length_reverse, List.length_replicate, bg]; omega) rfl ?_;intro ws hh;simp only [List.set_cons_zero] at hh;obtain ⟨k, hk⟩ : ∃ k, (bU M + 7) / 8 - i = k + 1 := ⟨(bU M + 7) / 8 - i - 1, Ky⟩;rw [e1, BS, Nat.mul_one, cS (by rw [cW, List.length_append, List.length_reverse, List.length_replicate, bg]; omega), lZ, hk, show (bU M + 7) / 8 - 1 - i = k by omega, zG, ← List.reverse_concat, ← kx] at hh;refine aE (aP (ai (aq ?_)))
   refine bB (mI (aE (ai ?_)));refine ⟨⟨i + 1, Ky, rfl, by rw [show (bU M + 7) / 8 - (i + 1) = k by omega]; exact hh⟩, by show (bU M + 7) / 8 - (i + 1) < (bU M + 7) / 8 - i; omega, ?_⟩;exact KB
  ·obtain rfl : i = (bU M + 7) / 8 := Ky;have hfin : gG (List.replicate ((bU M + 7) / 8 - (bU M + 7) / 8) 0 ++ (cu 256 ((bU M + 7) / 8) M).reverse) = mR (sb M) := by
    rw [Nat.sub_self, List.replicate_zero, List.nil_append, ← hlen];have h1 : M < 256 ^ (bo 256 M).length := lY Ky M;rw [wQ Ky h1, Nat.sub_self, List.replicate_zero, List.append_nil, sQ (fun d hd => (dY (B := 256) Ky M).1 d (List.mem_reverse.1 hd)), sb, List.map_reverse]
   rw [hfin] at hh;refine sr ?_;refine aK (aa (ah (cF (aJ (az (az (aX (ai (sr (mL ?_))))))))));refine lR aQ.out aQ.out aQ.out rfl (hh.aM (i := 0) rfl) Kz ?_;refine aS (aa (ao ?_));refine cq ?_;exact ⟨rfl, hh.below⟩
theorem mD (A : Option Addr) (n c m : Nat) (xs : List Nat) (w : World) (hx : Sl w A n 1 (dp xs)) (hn : n ≤ 10000000000) (hm : m ≤ 10000000000) :
  Calls Tryz.prog 276 #[.slice A n c, .int .i64 m] w fun e w' => ∃ b, e = .returned (.slice (some ⟨b, 0, none⟩) (max m n) (max m n)) ∧ w'.ownsRow w.heap.size 221 1 (.slice (some ⟨b, 0, none⟩) (max m n) (max m n)) (max m n) (dp (xs ++ List.replicate (max m n - n) 0)) ∧ Below w.heap.size w w' := by
 have hl := hx.1;rw [bk] at hl;have hh := Hp.start w;refine al (N := 15) (l := [.slice A n c, .int .i64 m]) Tryz.func276 rfl rfl (by simp) ?_;refine sr (aL (aa (sr (mI (mL (aW ?_))))));refine kq rfl rfl Kz ?_;refine eT (n := max m n) hh rfl rfl Ky Ky aQ.out aF.out rfl Ky Ky Kz ?_;intro b10 w10 hh;refine aL (aa (sr (mL (mL ?_))));rw [nq] at hh;refine Fe hh (i := 0) (o := 0) rfl rfl rfl (hx.ext hh.below) aQ.out aF.out (by rw [bk, List.length_replicate]; omega) (cm _) Kz ?_;intro w13 hh;skip;have e1 : cI (dp (List.replicate (max m n) 0)) 0 ((dp xs).take (min n (max m n) * 1)) = dp (xs ++ List.replicate (max m n - n) 0) := by
  rw [List.take_of_length_le (by rw [bk]; omega), cI, List.take_zero, List.nil_append, bk, ← tq, ← xb, List.drop_replicate];congr 3;omega
 simp only [List.set_cons_zero, e1] at hh;refine aa (sr (mL (aL (aa (ao ?_)))));refine cq ?_;exact ⟨_, rfl, hh.at_ (i := 0) rfl, hh.below⟩
theorem m8 (A B : Option Addr) (n c m c' : Nat) (xs ys : List Nat) (w : World) (hx : Sl w A n 1 (dp xs)) (hy : Sl w B m 1 (dp ys)) (hdx : Dg 18446744073709551616 xs) (hdy : Dg 18446744073709551616 ys) (hc : n ≤ c) (hc' : m ≤ c') (hn : n ≤ 100000000000) (hm : m ≤ 100000000000) :
  Calls Tryz.prog 279 #[.slice A n c, .slice B m c'] w fun e w' => e = .returned (.int .i64 (kC (bL 18446744073709551616 xs) (bL 18446744073709551616 ys))) ∧ Below w.heap.size w w' := by
 have hlx := hx.1;have hly := hy.1;rw [bk] at hlx hly;have hcx := hx.ua;have hcy := hy.ua;have hxl := fB xs;have hyl := fB ys;have hx2 := Can.cut hdx;have hy2 := Can.cut hdy;have hh := Hp.start w;rw [← ki xs, ← ki ys];refine al (N := 47) (l := [.slice A n c, .slice B m c']) Tryz.func279 rfl rfl (by simp) ?_;refine sr (aI (aa (sr (mL ?_))));refine bE hh (g6 _ _ _ xs _ hx hc Ky) rfl ?_;intro w7 hh;refine mL ?_;refine bE hh (g6 _ _ _ ys _ (hy.ext hh.below) hc' Ky) rfl ?_;intro w9 hh;generalize ej xs = us at *;generalize ej ys = vs at *;by_cases hlen : us.length = vs.length
 ·refine aL (aL (aa (ah (sr (mL (aW (mL (aW ?_))))))));refine cL (aa (cF (ak (ai (ah (sr (mL (aW ?_))))))));refine eO (aI (aa (aj ?_)));refine bm [4, 5, 23, 24, 25, 26, 27, 28, 29, 30, 31, 32, 33, 34, 35, 36, 37, 38, 39, 40, 41, 42, 43, 44, 45, 46] 5
   (fun v w' => ∃ k : Nat, k ≤ us.length ∧ v = .int .i64 ((k : Int) - 1) ∧ us.drop k = vs.drop k ∧ Hp w [] w')
   (fun v _ => (intOf v + 1).toNat) ?_ ?_
  ·exact ⟨us.length, Nat.le_refl _, rfl, by rw [List.drop_length, List.drop_eq_nil_of_le Ky], hh⟩
  ·clear hh;rintro ρ' v w' ⟨k, hk, rfl, hd, hh⟩;by_cases h0 : k = 0
   ·subst h0;refine ah (sr (mI ?_));refine dv (aa (cF (aJ (az (az (aX (ai (sr (aI (aa (ao ?_)))))))))));refine cq ?_;rw [List.drop_zero, List.drop_zero] at hd;rw [hd];exact ⟨by rw [AH rfl], hh.below⟩
   ·obtain ⟨j, rfl⟩ : ∃ j, k = j + 1 := ⟨k - 1, Ky⟩;obtain ⟨x, hxj⟩ := ay (l := us) (k := j) Ky;obtain ⟨y, hyj⟩ := ay (l := vs) (k := j) Ky;obtain ⟨ad, rfl, hr⟩ := hcx.at_ Ky;obtain ⟨ad2, rfl, hs⟩ := hcy.at_ Ky;have hx3 := eH hxj;have hy3 := eH hyj;by_cases hlt : x < y
    ·have hf := sW hx2.1 hxj hyj hd hlt;refine ah (sr (mI ?_));refine dv (aa (cT (ak (ai (ah (aj (aj (ah ?_))))))));refine a8 8 [[(0, none)], [(5, none)], [(28, some 0), (29, some 1)], [(30, some 2)], [(1, none)], [(5, none)], [(32, some 4), (33, some 5)], [(34, some 6)]] [(7, 35), (6, 34), (5, 33), (4, 32), (3, 31), (2, 30), (1, 29), (0, 28)] hh mixed KA ?_;refine jt ?_;refine fJ ?_;refine mH (j) ?_;refine nV (fun _ hj => (hr.ext hj.hp.below).fP hx3) ?_;refine jt ?_;refine fJ ?_;refine mH (j) ?_;refine nV (fun _ hj => (hs.ext hj.hp.below).fP hy3) ?_;refine bA ?_;intro f W hJ hV;have hb_9 := hJ.bl;obtain ⟨v35, v34, v33, v32, v31, v30, v29, v28, _⟩ := hV;replace hh := hJ.hp;refine bj (bC (ae v35 (ae v34 (ae v33 (ae v32 (ae v31 (ae v30 (ae v29 (ae v28 bh))))))))) ?_;dsimp only [cP];clear hJ;refine aK (aB (aa (cT (sr (aI (aa (ao (bD (bD (aG (aG (bD (aG ?_)))))))))))));refine cq ?_;exact ⟨by rw [kY hf], hh.below⟩
    ·by_cases hgt : y < x
     ·have hf := sW hy2.1 hyj hxj hd.symm hgt;refine ah (sr (mI ?_));refine dv (aa (cT (ak (ai (ah (aj (aj (ah ?_))))))));refine a8 8 [[(0, none)], [(5, none)], [(28, some 0), (29, some 1)], [(30, some 2)], [(1, none)], [(5, none)], [(32, some 4), (33, some 5)], [(34, some 6)]] [(7, 35), (6, 34), (5, 33), (4, 32), (3, 31), (2, 30), (1, 29), (0, 28)] hh mixed KA ?_;refine jt ?_;refine fJ ?_;refine mH (j) ?_;refine nV (fun _ hj => (hr.ext hj.hp.below).fP hx3) ?_;refine jt ?_;refine fJ ?_;refine mH (j) ?_;refine nV (fun _ hj => (hs.ext hj.hp.below).fP hy3) ?_;refine bA ?_;intro f W hJ hV;have hb_9 := hJ.bl;obtain ⟨v35, v34, v33, v32, v31, v30, v29, v28, _⟩ := hV;replace hh := hJ.hp;refine bj (bC (ae v35 (ae v34 (ae v33 (ae v32 (ae v31 (ae v30 (ae v29 (ae v28 bh))))))))) ?_;dsimp only [cP];clear hJ;refine aK (aB (aa (cF (ah ?_))));refine a8 8 [[(0, none)], [(5, none)], [(38, some 0), (39, some 1)], [(40, some 2)], [(1, none)], [(5, none)], [(42, some 4), (43, some 5)], [(44, some 6)]] [(7, 45), (6, 44), (5, 43), (4, 42), (3, 41), (2, 40), (1, 39), (0, 38)] hh mixed KA ?_;refine jt ?_;refine fJ ?_;refine mH (j) ?_;refine nV (fun _ hj => (hr.ext hj.hp.below).fP hx3) ?_;refine jt ?_
      refine fJ ?_;refine mH (j) ?_;refine nV (fun _ hj => (hs.ext hj.hp.below).fP hy3) ?_;refine bA ?_;intro f W hJ hV;have hb_11 := hJ.bl;obtain ⟨v45, v44, v43, v42, v41, v40, v39, v38, _⟩ := hV;replace hh := hJ.hp;refine bj (bC (ae v45 (ae v44 (ae v43 (ae v42 (ae v41 (ae v40 (ae v39 (ae v38 bh))))))))) ?_;dsimp only [cP];clear hJ;refine ct (aB (aa (cT (sr (aI (aa (ao (bD (bD (aG (aG (bD (aG ?_)))))))))))));refine cq ?_;exact ⟨by rw [vj hf], hh.below⟩
     ·refine ah (sr (mI ?_));refine dv (aa (cT (ak (ai (ah (aj (aj (ah ?_))))))));refine a8 8 [[(0, none)], [(5, none)], [(28, some 0), (29, some 1)], [(30, some 2)], [(1, none)], [(5, none)], [(32, some 4), (33, some 5)], [(34, some 6)]] [(7, 35), (6, 34), (5, 33), (4, 32), (3, 31), (2, 30), (1, 29), (0, 28)] hh mixed KA ?_;refine jt ?_;refine fJ ?_;refine mH (j) ?_;refine nV (fun _ hj => (hr.ext hj.hp.below).fP hx3) ?_;refine jt ?_;refine fJ ?_;refine mH (j) ?_;refine nV (fun _ hj => (hs.ext hj.hp.below).fP hy3) ?_;refine bA ?_;intro f W hJ hV;have hb_9 := hJ.bl;obtain ⟨v35, v34, v33, v32, v31, v30, v29, v28, _⟩ := hV;replace hh := hJ.hp;refine bj (bC (ae v35 (ae v34 (ae v33 (ae v32 (ae v31 (ae v30 (ae v29 (ae v28 bh))))))))) ?_;dsimp only [cP];clear hJ;refine aK (aB (aa (cF (ah ?_))));refine a8 8 [[(0, none)], [(5, none)], [(38, some 0), (39, some 1)], [(40, some 2)], [(1, none)], [(5, none)], [(42, some 4), (43, some 5)], [(44, some 6)]] [(7, 45), (6, 44), (5, 43), (4, 42), (3, 41), (2, 40), (1, 39), (0, 38)] hh mixed KA ?_;refine jt ?_;refine fJ ?_;refine mH (j) ?_;refine nV (fun _ hj => (hr.ext hj.hp.below).fP hx3) ?_;refine jt ?_;refine fJ ?_;refine mH (j) ?_
      refine nV (fun _ hj => (hs.ext hj.hp.below).fP hy3) ?_;refine bA ?_;intro f W hJ hV;have hb_11 := hJ.bl;obtain ⟨v45, v44, v43, v42, v41, v40, v39, v38, _⟩ := hV;replace hh := hJ.hp;refine bj (bC (ae v45 (ae v44 (ae v43 (ae v42 (ae v41 (ae v40 (ae v39 (ae v38 bh))))))))) ?_;dsimp only [cP];clear hJ;refine ct (aB (aa (cF (ak (aP (aP (ai (aq (mI ?_)))))))));refine eO (aI (aE (ai ?_)));refine ⟨⟨j, Ky, by show Value.int _ _ = Value.int _ _; congr 1; omega, vp hxj hyj hd Ky, hh⟩, by show ((((j + 1 : Nat) : Int) - 1 - 1) + 1).toNat < ((((j + 1 : Nat) : Int) - 1) + 1).toNat; omega, ?_⟩;exact KB
 ·by_cases hlt : us.length < vs.length
  ·have hf : bL 18446744073709551616 us < bL 18446744073709551616 vs := by
    refine Nat.lt_of_not_le fun h => ?_;have := hy2.rK hx2 Ky h;omega
   refine aL (aL (aa (ah (sr (mL (aW (mL (aW ?_))))))));refine cL (aa (cT (ah (sr (mL (aW (mL (aW ?_))))))));refine aK (aa (cT (sr (aI (aa (ao (aG (aG ?_))))))));refine cq ?_;exact ⟨by rw [kY hf], hh.below⟩
  ·have hf : bL 18446744073709551616 vs < bL 18446744073709551616 us := by
    refine Nat.lt_of_not_le fun h => ?_;have := hx2.rK hy2 Ky h;omega
   refine aL (aL (aa (ah (sr (mL (aW (mL (aW ?_))))))));refine cL (aa (cT (ah (sr (mL (aW (mL (aW ?_))))))));refine aK (aa (cF (ak (ai (sr (aI (aa (ao (aG ?_)))))))));refine cq ?_;exact ⟨by rw [vj hf], hh.below⟩
end Go.Proofs.YtaapkaefelhfcaaGreatDoor
namespace Go.Proofs.YtaapkaefelhfcaaGreatDoor
open Go.RowKit
theorem Ij {y m : Nat} (hy : y < 18446744073709551616) (hm : m < 18446744073709551616) : y * m ≤ 340282366920938463426481119284349108225 := Nat.mul_le_mul (by omega : y ≤ 18446744073709551615) (by omega : m ≤ 18446744073709551615)
theorem tj {x y m c P : Nat} (hx : x < 18446744073709551616) (hc : c < 18446744073709551616) (hP : P ≤ 340282366920938463426481119284349108225) (he : P = y * m) :
  (x + (P % 18446744073709551616 + c + 0) % 18446744073709551616 + 0) % 18446744073709551616 = (x + y * m + c) % 18446744073709551616 ∧ ((P / 18446744073709551616 + (P % 18446744073709551616 + c + 0) / 18446744073709551616) % 18446744073709551616 + (x + (P % 18446744073709551616 + c + 0) % 18446744073709551616 + 0) / 18446744073709551616) % 18446744073709551616 = (x + y * m + c) / 18446744073709551616 ∧ (x + y * m + c) / 18446744073709551616 < 18446744073709551616 := by
 rw [← he];omega
theorem wE {w0 : World} {H : List HE} {b M C c' ny cy m : Nat} {Y : Option Addr} (pre xs post ys : List Nat) (w : World) (hh : Hp w0 (.row (some ⟨b, 0, none⟩) M C 221 1 (dp (pre ++ xs ++ post)) :: H) w)
  (hy : ∀ w1 cs, Hp w0 (.row (some ⟨b, 0, none⟩) M C 221 1 cs :: H) w1 → Sl w1 Y ny 1 (dp ys)) (hxd : Dg 18446744073709551616 xs) (hyd : Dg 18446744073709551616 ys) (hm : m < 18446744073709551616) (hM : xs.length ≤ 100000000000) (hny : ny ≤ 100000000000) :
  Calls Tryz.prog 282 #[.slice (some ⟨b, pre.length, none⟩) xs.length c', .slice Y ny cy, .int .u64 (m : Int)] w fun e w' => e = .returned (.tuple #[]) ∧ Hp w0 (.row (some ⟨b, 0, none⟩) M C 221 1 (dp (pre ++ gD 18446744073709551616 xs ys m 0 ++ post)) :: H) w' := by
 have hly := (hy _ _ hh).1;rw [bk] at hly;refine al (N := 56) (l := [.slice (some ⟨b, pre.length, none⟩) xs.length c', .slice Y ny cy, .int .u64 (m : Int)]) Tryz.func282 rfl rfl (by simp) ?_;refine sr (aI (aa (sr (mL (aW (mI (aa (aj ?_))))))));refine cv [6, 7, 8, 9, 10, 11, 14, 15, 16, 17, 18, 19, 20, 21, 22, 23, 24, 25, 26, 27, 28, 29, 30, 31, 32, 33, 34, 35, 36, 37, 38, 39, 40, 41, 42, 43, 44, 45, 46, 47, 48, 49, 50, 51, 52, 53, 54, 55] 6 14
  (fun c i w' => ∃ (done rest : List Nat) (cr : Nat), done.length + rest.length = xs.length ∧ i = .int .i64 done.length ∧ c = .int .u64 (cr : Int) ∧ cr < 18446744073709551616 ∧ Dg 18446744073709551616 rest ∧ done ++ gD 18446744073709551616 rest (ys.drop done.length) m cr = gD 18446744073709551616 xs ys m 0 ∧ Hp w0 (.row (some ⟨b, 0, none⟩) M C 221 1 (dp (pre ++ (done ++ rest) ++ post)) :: H) w')
  (fun _ i _ => xs.length - (intOf i).toNat) ?_ ?_
 ·exact ⟨[], xs, 0, by simp, rfl, rfl, Ky, hxd, rfl, hh⟩
 ·clear hh;rintro ρ' c i w' ⟨done, rest, cr, hlen, rfl, rfl, hcr, hrd, heq, hh⟩;by_cases hlt : done.length < xs.length
  ·obtain ⟨x, r, rfl⟩ : ∃ x r, rest = x :: r := by
    cases rest with
    | nil => simp at hlen; omega
    | cons x r => exact ⟨x, r, rfl⟩
   have hx := hrd.head;have hg := eH (ve (pre := pre) (done := done) (r := r) (post := post) (x := x));have hlr : done.length + (r.length + 1) = xs.length := by simpa using hlen
   simp only [gD, tail_drop, qE] at heq;by_cases hiy : done.length < ny
   ·obtain ⟨y, hyk⟩ := ay (l := ys) (k := done.length) Ky;obtain ⟨ad, rfl, _⟩ := (hy _ _ hh).at_ Ky;rw [hyk, Option.getD_some] at heq;have hyw := hyd.at_ hyk;refine sr ?_;refine aK (aa (ah (cT (ak (ai (ah (aj (sr (mI (aI (aa (sr (aI (aa (ah (sr (mI (mL (aW ?_)))))))))))))))))));refine aK (aa (cT (aq (mL (mI ?_)))));refine aD (k := done.length) aQ.out aF.size rfl rfl Ky Ky Kz ?_;refine aZ aF.out rfl ((hy _ _ hh).G0 hyk) Kz ?_;refine aI (aa (sr (mI (mI ?_))));obtain ⟨p1, p2, p3⟩ := tj (y := y) (m := m) hx hcr (Ij hyw hm) rfl;refine bE hh (ph y m _ hyw hm) rfl ?_;intro w28 hh;refine mT ?_;refine dI ?_;refine dI ?_;refine aI (aI (aa (sr (mI (mI ?_)))));refine jY (jF (y * m % 18446744073709551616) cr 0 Ky _) (a7 (cd rfl) (a7 (cd rfl) (a7 rfl bQ))) Kz ?_;refine mT ?_;refine dI ?_;refine dI ?_;refine aI (aI (aa (sr (mI (mI ?_)))));refine hH rfl rfl Kz ?_;refine aI (aa (sr (mL (mI (mL (mI ?_))))));refine ep aQ.out aF.size rfl rfl rfl Ky Kz ?_;refine aZ aF.out rfl (hh.cN (i := 0) rfl (by first | assumption | (simp only [Nat.mul_one]; assumption))) Kz ?_;refine mI ?_
    refine jY (jF x ((y * m % 18446744073709551616 + cr + 0) % 18446744073709551616) 0 Ky _) (a7 (cd rfl) (a7 (cd rfl) (a7 rfl bQ))) Kz ?_;refine mT ?_;refine dI ?_;refine dI ?_;refine ep (k := done.length) aQ.out aF.size rfl rfl Ky Ky Kz ?_;refine bs hh (i := 0) (vs := [_]) rfl rfl (cd rfl) rfl aF.out rfl (by rw [bk]; simp only [List.length_append, List.length_cons]; omega) rfl ?_;intro ws hh;simp only [List.set_cons_zero] at hh;rw [p1, Nat.mul_one, cS (by rw [bk]; simp only [List.length_append, List.length_cons]; omega), gg, l6] at hh;refine aI (aa (aq (mI (mI ?_))));refine hH rfl rfl Kz ?_;refine aI (aE (aP (ai (aq ?_))));refine bB (mI (aE (ai ?_)));rw [p2];refine ⟨⟨done ++ [(x + y * m + cr) % 18446744073709551616], r, _, by simp; omega, by rw [List.length_append]; rfl, rfl, p3, hrd.tail, ?_, hh⟩, by show xs.length - (done.length + 1) < xs.length - done.length; omega, ?_⟩
    ·rw [← heq, List.append_assoc, List.length_append]; rfl
    exact KB
   ·rw [List.getElem?_eq_none Ky, Option.getD_none] at heq;have h0w : (0 : Nat) < 18446744073709551616 := Ky;refine sr ?_;refine aK (aa (ah (cT (ak (ai (ah (aj (sr (mI (aI (aa (sr (aI (aa (ah (sr (mI (mL (aW ?_)))))))))))))))))));refine aK (aa (cF (ak (ai (sr (mI (mI ?_)))))));obtain ⟨p1, p2, p3⟩ := tj (y := 0) (m := m) hx hcr (Ij h0w hm) rfl;refine bE hh (ph 0 m _ h0w hm) rfl ?_;intro w28 hh;refine mT ?_;refine dI ?_;refine dI ?_;refine aI (aI (aa (sr (mI (mI ?_)))));refine jY (jF (0 * m % 18446744073709551616) cr 0 Ky _) (a7 (cd rfl) (a7 (cd rfl) (a7 rfl bQ))) Kz ?_;refine mT ?_;refine dI ?_;refine dI ?_;refine aI (aI (aa (sr (mI (mI ?_)))));refine hH rfl rfl Kz ?_;refine aI (aa (sr (mL (mI (mL (mI ?_))))));refine ep aQ.out aF.size rfl rfl rfl Ky Kz ?_;refine aZ aF.out rfl (hh.cN (i := 0) rfl (by first | assumption | (simp only [Nat.mul_one]; assumption))) Kz ?_;refine mI ?_;refine jY (jF x ((0 * m % 18446744073709551616 + cr + 0) % 18446744073709551616) 0 Ky _) (a7 (cd rfl) (a7 (cd rfl) (a7 rfl bQ))) Kz ?_;refine mT ?_;refine dI ?_;refine dI ?_;refine ep (k := done.length) aQ.out aF.size rfl rfl Ky Ky Kz ?_
    refine bs hh (i := 0) (vs := [_]) rfl rfl (cd rfl) rfl aF.out rfl (by rw [bk]; simp only [List.length_append, List.length_cons]; omega) rfl ?_;intro ws hh;simp only [List.set_cons_zero] at hh;rw [p1, Nat.mul_one, cS (by rw [bk]; simp only [List.length_append, List.length_cons]; omega), gg, l6] at hh;refine aI (aa (aq (mI (mI ?_))));refine hH rfl rfl Kz ?_;refine aI (aE (aP (ai (aq ?_))));refine bB (mI (aE (ai ?_)));rw [p2];refine ⟨⟨done ++ [(x + 0 * m + cr) % 18446744073709551616], r, _, by simp; omega, by rw [List.length_append]; rfl, rfl, p3, hrd.tail, ?_, hh⟩, by show xs.length - (done.length + 1) < xs.length - done.length; omega, ?_⟩
    ·rw [← heq, List.append_assoc, List.length_append]; rfl
    exact KB
  ·have hr0 : rest = [] := List.eq_nil_of_length_eq_zero Ky;subst hr0;refine sr ?_;refine aK (aa (ah (cF (aJ (az (az (aX ?_)))))));refine Ix (by first | exact .inr rfl | exact .inl rfl) rfl  ?_;rw [List.append_nil, gD, List.append_nil] at *;rw [← heq];exact ⟨rfl, hh⟩
theorem xo {w0 : World} {H : List HE} {b M C c' ny cy : Nat} {Y : Option Addr} (pre xs post ys : List Nat) (w : World) (hh : Hp w0 (.row (some ⟨b, 0, none⟩) M C 221 1 (dp (pre ++ xs ++ post)) :: H) w)
  (hy : ∀ w1 cs, Hp w0 (.row (some ⟨b, 0, none⟩) M C 221 1 cs :: H) w1 → Sl w1 Y ny 1 (dp ys)) (hxd : Dg 18446744073709551616 xs) (hyd : Dg 18446744073709551616 ys) (hM : xs.length ≤ 100000000000) (hny : ny ≤ 100000000000) (hsub : xu 18446744073709551616 xs ys 0 = 0) :
  Calls Tryz.prog 280 #[.slice (some ⟨b, pre.length, none⟩) xs.length c', .slice Y ny cy] w fun e w' => e = .returned (.bool true) ∧ Hp w0 (.row (some ⟨b, 0, none⟩) M C 221 1 (dp (pre ++ pR 18446744073709551616 xs ys 0 ++ post)) :: H) w' := by
 have hly := (hy _ _ hh).1;rw [bk] at hly;refine al (N := 37) (l := [.slice (some ⟨b, pre.length, none⟩) xs.length c', .slice Y ny cy]) Tryz.func280 rfl rfl (by simp) ?_;refine sr (aB (aa (sr (aI (aa (ah (sr (mL (aW (mI (aa (aj ?_))))))))))));refine cv [5, 6, 7, 10, 11, 12, 13, 14, 15, 16, 17, 18, 19, 20, 21, 22, 23, 24, 25, 26, 27, 28, 29, 30, 31, 32, 33, 34] 5 10
  (fun c i w' => ∃ (done rest : List Nat) (cr : Nat), done.length + rest.length = xs.length ∧ i = .int .i64 done.length ∧ c = .int .u64 (cr : Int) ∧ cr ≤ 1 ∧ Dg 18446744073709551616 rest ∧ done ++ pR 18446744073709551616 rest (ys.drop done.length) cr = pR 18446744073709551616 xs ys 0 ∧ xu 18446744073709551616 rest (ys.drop done.length) cr = 0 ∧ Hp w0 (.row (some ⟨b, 0, none⟩) M C 221 1 (dp (pre ++ (done ++ rest) ++ post)) :: H) w')
  (fun _ i _ => xs.length - (intOf i).toNat) ?_ ?_
 ·exact ⟨[], xs, 0, by simp, rfl, rfl, Ky, hxd, rfl, hsub, hh⟩
 ·clear hh;rintro ρ' c i w' ⟨done, rest, cr, hlen, rfl, rfl, hcr, hrd, heq, hsb, hh⟩;by_cases hlt : done.length < xs.length
  ·obtain ⟨x, r, rfl⟩ : ∃ x r, rest = x :: r := by
    cases rest with
    | nil => simp at hlen; omega
    | cons x r => exact ⟨x, r, rfl⟩
   have hx := hrd.head;have hg := eH (ve (pre := pre) (done := done) (r := r) (post := post) (x := x));have hlr : done.length + (r.length + 1) = xs.length := by simpa using hlen
   simp only [pR, xu, tail_drop, qE] at heq hsb;by_cases hiy : done.length < ny
   ·obtain ⟨y, hyk⟩ := ay (l := ys) (k := done.length) Ky;obtain ⟨ad, rfl, _⟩ := (hy _ _ hh).at_ Ky;rw [hyk, Option.getD_some] at heq hsb;have hyw := hyd.at_ hyk;refine sr ?_;refine aK (aa (ah (cT (ak (ai (ah (aj (sr (mI (aI (aa (sr (aI (aa (ah (sr (mI (mL (aW ?_)))))))))))))))))));refine aK (aa (cT (aq (mL (mI ?_)))));refine aD (k := done.length) aQ.out aF.size rfl rfl Ky Ky Kz ?_;refine aZ aF.out rfl ((hy _ _ hh).G0 hyk) Kz ?_;refine aI (aa (aq (mL (mI (mL (mI ?_))))));refine ep (k := done.length) aQ.out aF.size rfl rfl Ky Ky Kz ?_;refine aZ aF.out rfl (hh.cN (i := 0) rfl (by first | assumption | (simp only [Nat.mul_one]; assumption))) Kz ?_;refine mI (mI ?_);refine jY (sI x y cr hcr _) (a7 (cd rfl) (a7 (cd rfl) (a7 (cd rfl) bQ))) Kz ?_;refine mT ?_;refine dI ?_;refine dI ?_;refine ep (k := done.length) aQ.out aF.size rfl rfl Ky Ky Kz ?_;refine bs hh (i := 0) (vs := [_]) rfl rfl (cd rfl) rfl aF.out rfl (by rw [bk]; simp only [List.length_append, List.length_cons]; omega) rfl ?_;intro ws hh;simp only [List.set_cons_zero] at hh;rw [Nat.mul_one, cS (by rw [bk]; simp only [List.length_append, List.length_cons]; omega), gg, l6] at hh;refine aI (aE (aP (ai (aq ?_))))
    refine bB (mI (aE (ai ?_)));refine ⟨⟨done ++ [(x + 18446744073709551616 - y - cr) % 18446744073709551616], r, _, by simp; omega, by rw [List.length_append]; rfl, rfl, by split <;> omega, hrd.tail, ?_, ?_, hh⟩, by show xs.length - (done.length + 1) < xs.length - done.length; omega, ?_⟩
    ·rw [← heq, List.append_assoc, List.length_append]; rfl
    ·rw [List.length_append]; exact hsb
    exact KB
   ·rw [List.getElem?_eq_none Ky, Option.getD_none] at heq hsb;refine sr ?_;refine aK (aa (ah (cT (ak (ai (ah (aj (sr (mI (aI (aa (sr (aI (aa (ah (sr (mI (mL (aW ?_)))))))))))))))))));refine aK (aa (cF (ak (ai (aq (mL (mI (mL (mI ?_)))))))));refine ep (k := done.length) aQ.out aF.size rfl rfl Ky Ky Kz ?_;refine aZ aF.out rfl (hh.cN (i := 0) rfl (by first | assumption | (simp only [Nat.mul_one]; assumption))) Kz ?_;refine mI (mI ?_);refine jY (sI x 0 cr hcr _) (a7 (cd rfl) (a7 (cd rfl) (a7 (cd rfl) bQ))) Kz ?_;refine mT ?_;refine dI ?_;refine dI ?_;refine ep (k := done.length) aQ.out aF.size rfl rfl Ky Ky Kz ?_;refine bs hh (i := 0) (vs := [_]) rfl rfl (cd rfl) rfl aF.out rfl (by rw [bk]; simp only [List.length_append, List.length_cons]; omega) rfl ?_;intro ws hh;simp only [List.set_cons_zero] at hh;rw [Nat.mul_one, cS (by rw [bk]; simp only [List.length_append, List.length_cons]; omega), gg, l6] at hh;refine aI (aE (aP (ai (aq ?_))));refine bB (mI (aE (ai ?_)))
    refine ⟨⟨done ++ [(x + 18446744073709551616 - 0 - cr) % 18446744073709551616], r, _, by simp; omega, by rw [List.length_append]; rfl, rfl, by split <;> omega, hrd.tail, ?_, ?_, hh⟩, by show xs.length - (done.length + 1) < xs.length - done.length; omega, ?_⟩
    ·rw [← heq, List.append_assoc, List.length_append]; rfl
    ·rw [List.length_append]; exact hsb
    exact KB
  ·have hr0 : rest = [] := List.eq_nil_of_length_eq_zero Ky;subst hr0;obtain rfl : cr = 0 := hsb;refine sr ?_;refine aK (aa (ah (cF (aJ (az (az (aX (ai (sr (mI ?_))))))))));refine dh (aB (aa (ao ?_)));refine cq ?_;rw [List.append_nil, pR, List.append_nil] at *;rw [← heq];exact ⟨rfl, hh⟩
theorem zq {w0 : World} {H : List HE} {b M C c' ny cy : Nat} {Y : Option Addr} (pre xs post ys : List Nat) (w : World) (hh : Hp w0 (.row (some ⟨b, 0, none⟩) M C 221 1 (dp (pre ++ xs ++ post)) :: H) w)
  (hy : ∀ w1 cs, Hp w0 (.row (some ⟨b, 0, none⟩) M C 221 1 cs :: H) w1 → Sl w1 Y ny 1 (dp ys)) (hxd : Dg 18446744073709551616 xs) (hyd : Dg 18446744073709551616 ys) (hM : xs.length ≤ 100000000000) (hny : ny ≤ 100000000000) :
  Calls Tryz.prog 277 #[.slice (some ⟨b, pre.length, none⟩) xs.length c', .slice Y ny cy] w fun e w' => e = .returned (.tuple #[]) ∧ Hp w0 (.row (some ⟨b, 0, none⟩) M C 221 1 (dp (pre ++ gD 18446744073709551616 xs ys 1 0 ++ post)) :: H) w' := by
 have hly := (hy _ _ hh).1;rw [bk] at hly;refine al (N := 34) (l := [.slice (some ⟨b, pre.length, none⟩) xs.length c', .slice Y ny cy]) Tryz.func277 rfl rfl (by simp) ?_;refine sr (aI (aa (sr (mL (aW (mI (aa (aj ?_))))))));refine cv [4, 5, 6, 9, 10, 11, 12, 13, 14, 15, 16, 17, 18, 19, 20, 21, 22, 23, 24, 25, 26, 27, 28, 29, 30, 31, 32, 33] 4 9
  (fun c i w' => ∃ (done rest : List Nat) (cr : Nat), done.length + rest.length = xs.length ∧ i = .int .i64 done.length ∧ c = .int .u64 (cr : Int) ∧ cr ≤ 1 ∧ Dg 18446744073709551616 rest ∧ done ++ gD 18446744073709551616 rest (ys.drop done.length) 1 cr = gD 18446744073709551616 xs ys 1 0 ∧ Hp w0 (.row (some ⟨b, 0, none⟩) M C 221 1 (dp (pre ++ (done ++ rest) ++ post)) :: H) w')
  (fun _ i _ => xs.length - (intOf i).toNat) ?_ ?_
 ·exact ⟨[], xs, 0, by simp, rfl, rfl, Ky, hxd, rfl, hh⟩
 ·clear hh;rintro ρ' c i w' ⟨done, rest, cr, hlen, rfl, rfl, hcr, hrd, heq, hh⟩;by_cases hlt : done.length < xs.length
  ·obtain ⟨x, r, rfl⟩ : ∃ x r, rest = x :: r := by
    cases rest with
    | nil => simp at hlen; omega
    | cons x r => exact ⟨x, r, rfl⟩
   have hx := hrd.head;have hg := eH (ve (pre := pre) (done := done) (r := r) (post := post) (x := x));have hlr : done.length + (r.length + 1) = xs.length := by simpa using hlen
   simp only [gD, tail_drop, qE, Nat.mul_one] at heq;by_cases hiy : done.length < ny
   ·obtain ⟨y, hyk⟩ := ay (l := ys) (k := done.length) Ky;obtain ⟨ad, rfl, _⟩ := (hy _ _ hh).at_ Ky;rw [hyk, Option.getD_some] at heq;have hyw := hyd.at_ hyk;refine sr ?_;refine aK (aa (ah (cT (ak (ai (ah (aj (sr (mI (aI (aa (sr (aI (aa (ah (sr (mI (mL (aW ?_)))))))))))))))))));refine aK (aa (cT (aq (mL (mI ?_)))));refine aD (k := done.length) aQ.out aF.size rfl rfl Ky Ky Kz ?_;refine aZ aF.out rfl ((hy _ _ hh).G0 hyk) Kz ?_;refine aI (aa (aq (mL (mI (mL (mI ?_))))));refine ep (k := done.length) aQ.out aF.size rfl rfl Ky Ky Kz ?_;refine aZ aF.out rfl (hh.cN (i := 0) rfl (by first | assumption | (simp only [Nat.mul_one]; assumption))) Kz ?_;refine mI (mI ?_);refine jY (jF x y cr hcr _) (a7 (cd rfl) (a7 (cd rfl) (a7 (cd rfl) bQ))) Kz ?_;refine mT ?_;refine dI ?_;refine dI ?_;refine ep (k := done.length) aQ.out aF.size rfl rfl Ky Ky Kz ?_;refine bs hh (i := 0) (vs := [_]) rfl rfl (cd rfl) rfl aF.out rfl (by rw [bk]; simp only [List.length_append, List.length_cons]; omega) rfl ?_;intro ws hh;simp only [List.set_cons_zero] at hh;rw [Nat.mul_one, cS (by rw [bk]; simp only [List.length_append, List.length_cons]; omega), gg, l6] at hh;refine aI (aE (aP (ai (aq ?_))))
    refine bB (mI (aE (ai ?_)));refine ⟨⟨done ++ [(x + y + cr) % 18446744073709551616], r, _, by simp; omega, by rw [List.length_append]; rfl, rfl, Ky, hrd.tail, ?_, hh⟩, by show xs.length - (done.length + 1) < xs.length - done.length; omega, ?_⟩
    ·rw [← heq, List.append_assoc, List.length_append]; rfl
    exact KB
   ·rw [List.getElem?_eq_none Ky, Option.getD_none] at heq;refine sr ?_;refine aK (aa (ah (cT (ak (ai (ah (aj (sr (mI (aI (aa (sr (aI (aa (ah (sr (mI (mL (aW ?_)))))))))))))))))));refine aK (aa (cF (ak (ai (aq (mL (mI (mL (mI ?_)))))))));refine ep (k := done.length) aQ.out aF.size rfl rfl Ky Ky Kz ?_;refine aZ aF.out rfl (hh.cN (i := 0) rfl (by first | assumption | (simp only [Nat.mul_one]; assumption))) Kz ?_;refine mI (mI ?_);refine jY (jF x 0 cr hcr _) (a7 (cd rfl) (a7 (cd rfl) (a7 (cd rfl) bQ))) Kz ?_;refine mT ?_;refine dI ?_;refine dI ?_;refine ep (k := done.length) aQ.out aF.size rfl rfl Ky Ky Kz ?_;refine bs hh (i := 0) (vs := [_]) rfl rfl (cd rfl) rfl aF.out rfl (by rw [bk]; simp only [List.length_append, List.length_cons]; omega) rfl ?_;intro ws hh;simp only [List.set_cons_zero] at hh;rw [Nat.mul_one, cS (by rw [bk]; simp only [List.length_append, List.length_cons]; omega), gg, l6] at hh;refine aI (aE (aP (ai (aq ?_))));refine bB (mI (aE (ai ?_)));refine ⟨⟨done ++ [(x + 0 + cr) % 18446744073709551616], r, _, by simp; omega, by rw [List.length_append]; rfl, rfl, Ky, hrd.tail, ?_, hh⟩, by show xs.length - (done.length + 1) < xs.length - done.length; omega, ?_⟩
    ·rw [← heq, List.append_assoc, List.length_append]; rfl
    exact KB
  ·have hr0 : rest = [] := List.eq_nil_of_length_eq_zero Ky;subst hr0;refine sr ?_;refine aK (aa (ah (cF (aJ (az (az (aX ?_)))))));refine Ix (by first | exact .inr rfl | exact .inl rfl) rfl  ?_;rw [List.append_nil, gD, List.append_nil] at *;rw [← heq];exact ⟨rfl, hh⟩
end Go.Proofs.YtaapkaefelhfcaaGreatDoor
namespace Go.Proofs.YtaapkaefelhfcaaGreatDoor
open Go.RowKit
theorem EN {k i n d : Nat} (D : Nat) (hD : D < 18446744073709551616 ^ i) (hd : d < 18446744073709551616) (hk : i + n / 64 + 1 < k) :
  (D * 2 ^ n) / 18446744073709551616 ^ (i + n / 64) % 18446744073709551616 < 2 ^ (n % 64) ∧ d * 2 ^ (n % 64) % 18446744073709551616 = (d % 2 ^ (64 - n % 64)) * 2 ^ (n % 64) ∧
  (cu 18446744073709551616 k (D * 2 ^ n)).set (i + n / 64) ((D * 2 ^ n) / 18446744073709551616 ^ (i + n / 64) % 18446744073709551616 + d * 2 ^ (n % 64) % 18446744073709551616) = cu 18446744073709551616 k (D * 2 ^ n + 18446744073709551616 ^ (i + n / 64) * (d * 2 ^ (n % 64) % 18446744073709551616)) ∧
  (D * 2 ^ n + 18446744073709551616 ^ (i + n / 64) * (d * 2 ^ (n % 64) % 18446744073709551616)) / 18446744073709551616 ^ (i + n / 64 + 1) % 18446744073709551616 = 0 ∧
  (cu 18446744073709551616 k (D * 2 ^ n + 18446744073709551616 ^ (i + n / 64) * (d * 2 ^ (n % 64) % 18446744073709551616))).set (i + n / 64 + 1) (d / 2 ^ (64 - n % 64)) = cu 18446744073709551616 k ((D + 18446744073709551616 ^ i * d) * 2 ^ n) ∧
  (n % 64 = 0 → D * 2 ^ n + 18446744073709551616 ^ (i + n / 64) * (d * 2 ^ (n % 64) % 18446744073709551616) = (D + 18446744073709551616 ^ i * d) * 2 ^ n) := by
 have hW : (18446744073709551616 : Nat) = 2 ^ 64 := by decide
 have hs : n % 64 < 64 := Nat.mod_lt _ Ky;have hn : 2 ^ n = 18446744073709551616 ^ (n / 64) * 2 ^ (n % 64) := by
  rw [hW, ← Nat.pow_mul, ← Nat.pow_add]; congr 1; omega
 generalize hq : n / 64 = q at *;generalize hse : n % 64 = s at *;have e : (18446744073709551616 : Nat) = 2 ^ (64 - s) * 2 ^ s := by rw [← Nat.pow_add, hW]; congr 1; omega
 have hpos : 0 < 2 ^ s := Nat.pow_pos Ky;have hwp : ∀ j : Nat, 0 < 18446744073709551616 ^ j := fun j => Nat.pow_pos Kz;have hP : D * 2 ^ n < 18446744073709551616 ^ (i + q) * 2 ^ s := by
  rw [hn, ← Nat.mul_assoc, Nat.pow_add];exact Nat.mul_lt_mul_of_pos_right (Nat.mul_lt_mul_of_pos_right hD (hwp q)) hpos
 have h1 : (D * 2 ^ n) / 18446744073709551616 ^ (i + q) < 2 ^ s := by rw [Nat.div_lt_iff_lt_mul (hwp _), Nat.mul_comm (2 ^ s)]; exact hP
 have hsW : 2 ^ s ≤ 18446744073709551616 := by rw [hW]; exact Nat.pow_le_pow_right Ky Ky
 have h2 : d * 2 ^ s % 18446744073709551616 = (d % 2 ^ (64 - s)) * 2 ^ s := by rw [e, Nat.mul_mod_mul_right]
 have h3 : (d % 2 ^ (64 - s) + 1) * 2 ^ s ≤ 18446744073709551616 := by
  rw [e];exact Nat.mul_le_mul_right _ (Nat.mod_lt _ (Nat.pow_pos Ky))
 rw [Nat.succ_mul] at h3;have h4 : (D * 2 ^ n) / 18446744073709551616 ^ (i + q) % 18446744073709551616 = (D * 2 ^ n) / 18446744073709551616 ^ (i + q) := Nat.mod_eq_of_lt Ky;have hlt1 : D * 2 ^ n + 18446744073709551616 ^ (i + q) * (d * 2 ^ s % 18446744073709551616) < 18446744073709551616 ^ (i + q + 1) := by
  rw [h2, Nat.pow_succ];have : 18446744073709551616 ^ (i + q) * ((d % 2 ^ (64 - s)) * 2 ^ s + 2 ^ s) ≤ 18446744073709551616 ^ (i + q) * 18446744073709551616 := Nat.mul_le_mul_left _ h3;rw [Nat.mul_add] at this;omega
 have hup := HT (d := d) (s := s) hd Ky;have hfin : D * 2 ^ n + 18446744073709551616 ^ (i + q) * (d * 2 ^ s % 18446744073709551616) + 18446744073709551616 ^ (i + q + 1) * (d / 2 ^ (64 - s)) = (D + 18446744073709551616 ^ i * d) * 2 ^ n := by
  have h5 : 18446744073709551616 ^ (i + q) * (d * 2 ^ s % 18446744073709551616) + 18446744073709551616 ^ (i + q + 1) * (d / 2 ^ (64 - s)) = 18446744073709551616 ^ (i + q) * (d * 2 ^ s) := by
   conv => rhs; rw [← hup.1, Nat.mul_add]
   rw [Nat.pow_succ, Nat.mul_assoc, Nat.mul_comm 18446744073709551616]
  rw [Nat.add_assoc, h5, Nat.add_mul, hn, Nat.pow_add];congr 1;simp only [Nat.mul_assoc, Nat.mul_left_comm, Nat.mul_comm]
 have hbig : ∀ j, j < k → 18446744073709551616 ^ j * 18446744073709551616 ≤ 18446744073709551616 ^ k := fun j hj => by rw [← Nat.pow_succ]; exact Nat.pow_le_pow_right Kz hj
 have hb1 := hbig (i + q) Ky;rw [← Nat.pow_succ] at hb1;refine ⟨by rw [h4]; exact h1, h2, ?_, ?_, ?_, ?_⟩
 ·exact nY Kz Ky Ky (by rw [h4, h2]; omega)
 ·rw [Nat.div_eq_of_lt hlt1]
 ·have h6 : (D * 2 ^ n + 18446744073709551616 ^ (i + q) * (d * 2 ^ s % 18446744073709551616)) / 18446744073709551616 ^ (i + q + 1) % 18446744073709551616 = 0 := by rw [Nat.div_eq_of_lt hlt1]
  have h7 : d / 2 ^ (64 - s) < 18446744073709551616 := Nat.lt_of_le_of_lt (Nat.div_le_self _ _) hd;have h8 := nY (B := 18446744073709551616) (k := k) (n := D * 2 ^ n + 18446744073709551616 ^ (i + q) * (d * 2 ^ s % 18446744073709551616)) (j := i + q + 1) (v := d / 2 ^ (64 - s)) Kz hk ?_ (by rw [h6]; omega)
  ·rw [h6, Nat.zero_add, hfin] at h8;exact h8
  ·have h9 : 18446744073709551616 ^ (i + q + 1) * (d / 2 ^ (64 - s) + 1) ≤ 18446744073709551616 ^ (i + q + 1) * 18446744073709551616 := Nat.mul_le_mul_left _ h7;have h10 := hbig (i + q + 1) hk;rw [Nat.mul_succ] at h9;omega
 ·intro h0;subst h0;rw [← hfin];have : d / 2 ^ (64 - 0) = 0 := Nat.div_eq_of_lt (by rw [← hW]; exact hd);rw [this];simp
theorem Bi (A : Option Addr) (n c m : Nat) (xs : List Nat) (w : World) (hx : Sl w A n 1 (dp xs)) (hd : Dg 18446744073709551616 xs) (hn : n ≤ 1000000000) (hm : m ≤ 10000000000) :
  Calls Tryz.prog 273 #[.slice A n c, .int .i64 (m : Int)] w fun e w' => ∃ A c, e = .returned (.slice A (bo 18446744073709551616 (bL 18446744073709551616 xs * 2 ^ m)).length c) ∧ w'.ownsRow w.heap.size 221 1 (.slice A (bo 18446744073709551616 (bL 18446744073709551616 xs * 2 ^ m)).length c) (bo 18446744073709551616 (bL 18446744073709551616 xs * 2 ^ m)).length (dp (bo 18446744073709551616 (bL 18446744073709551616 xs * 2 ^ m))) ∧ Below w.heap.size w w' := by
 have hl := hx.1;rw [bk] at hl;have hh := Hp.start w;have hs1 : ((m : Int) % 64).toNat = m % 64 := Ky;refine al (N := 55) (l := [.slice A n c, .int .i64 (m : Int)]) Tryz.func273 rfl rfl (by simp) ?_;refine sr (aL (aa (sr (mL (aW (mI ?_))))));refine jr rfl rfl Ky Ky Ky Kz ?_;refine bB ?_;refine bB ?_;refine eT (n := n + m / 64 + 1) hh rfl rfl Ky Ky aQ.out aF.out rfl Ky Ky Kz ?_;intro b15 w15 hh;refine aL (aa (ah (sr (mL (aW (mI (aa (aj ?_))))))));rw [nq] at hh;refine bm [6, 7, 8, 18, 19, 20, 21, 22, 23, 24, 25, 26, 27, 28, 29, 30, 31, 32, 33, 34, 35, 36, 37, 38, 39, 40, 41, 42, 43, 44, 45, 46, 47, 48, 49, 50, 51, 52] 18
  (fun v w' => ∃ i : Nat, i ≤ n ∧ v = .int .i64 i ∧ Hp w [.row (some ⟨b15, 0, none⟩) (n + m / 64 + 1) (n + m / 64 + 1) 221 1 (dp (cu 18446744073709551616 (n + m / 64 + 1) (bL 18446744073709551616 (xs.take i) * 2 ^ m)))] w')
  (fun v _ => n - (intOf v).toNat) ?_ ?_
 ·exact ⟨0, Nat.zero_le _, rfl, by rw [List.take_zero, bL, Nat.zero_mul, pg]; exact hh⟩
 ·clear hh;rintro ρ' v w' ⟨i, hi, rfl, hh⟩;by_cases hlt : i < n
  ·obtain ⟨d, hdi⟩ := ay (l := xs) (k := i) Ky;obtain ⟨ad, rfl, hr⟩ := hx.at_ Ky;have hd2 := eH hdi;have hdw := hd.at_ hdi;have hD := ir (hd.take i);rw [List.length_take, Nat.min_eq_left Ky] at hD;obtain ⟨s1, s2, s3, s4, s5, s6⟩ := EN (k := n + m / 64 + 1) (n := m) (bL 18446744073709551616 (xs.take i)) hD hdw Ky;have hg := eH (hQ (B := 18446744073709551616) (n + m / 64 + 1) (bL 18446744073709551616 (xs.take i) * 2 ^ m) (i + m / 64) Ky);refine sr ?_;refine aK (aa (ah (cT (ak (ai (ah (aj (sr (mI ?_)))))))));refine aD aQ.out aF.size rfl rfl rfl Ky Kz ?_;refine aZ aF.out rfl ((hr.ext hh.below).fP (by assumption)) Kz ?_;refine aI (aI (aa (sr (mI (mI ?_)))));refine jr rfl rfl Ky Ky Ky Kz ?_;refine bB (aI (aa (ah ?_)));refine a8 8 [[(5, none)], [(8, none)], [(27, some 0), (28, some 1)], [(29, some 2)], [(7, none)], [(1, none)], [(32, some 5)], [(31, some 4), (33, some 6)]] [(7, 34), (6, 33), (5, 32), (4, 31), (3, 30), (2, 29), (1, 28), (0, 27)] hh mixed KA ?_;refine jt ?_;refine fJ ?_;refine DF (i + m / 64) ?_;refine bF (i := 3) (fun ρ1 w1 hj hR => fO aF.out (show ρ1 29 = Value.pointer _ from hR.1) (hj.hp.cN (i := 0) rfl (by rw [Nat.mul_one]; exact hg))) ?_;refine fJ ?_;refine fJ ?_
   refine bF (i := 6) (fun ρ1 w1 hj hR => mX (show ρ1 32 = Value.int _ _ from hR.1) rfl Ky Ky) ?_;refine bF (i := 7) (fun ρ1 w1 hj hR => vr (show ρ1 31 = Value.int _ _ from hR.1) (show ρ1 33 = Value.int _ _ from hR.2.1) Ky) ?_;refine bA ?_;intro f W hJ hV;have hb_6 := hJ.bl;obtain ⟨v34, v33, v32, v31, v30, v29, v28, v27, _⟩ := hV;replace hh := hJ.hp;refine bj (bC (ae v34 (ae v33 (ae v32 (ae v31 (ae v30 (ae v29 (ae v28 (ae v27 bh))))))))) ?_;dsimp only [cP];clear hJ;refine z9 rfl rfl (by first | assumption | omega) (by first | assumption | omega) Kz ?_;refine bf (k := i + m / 64) aQ.out aF.size rfl rfl Ky Ky Kz ?_;refine bs hh (i := 0) (vs := [_]) rfl rfl (cd rfl) rfl aF.out rfl (by rw [bk, bg]; omega) rfl ?_;intro ws hh;simp only [List.set_cons_zero] at hh;rw [hs1, s2, yz s1, ← s2, Nat.mul_one, cS (by rw [bk, bg]; omega), gg, s3] at hh;by_cases h0 : m % 64 = 0
   ·refine aa (sr (mI ?_));refine kT rfl rfl Ky Ky Kz ?_;refine ct (aa (cF (ak (aP (ai (aq ?_))))));refine bB (mI (aE (ai ?_)));rw [s6 h0, ← fF hdi] at hh;refine ⟨⟨i + 1, Ky, rfl, hh⟩, by show n - (i + 1) < n - i; omega, ?_⟩;exact KB
   ·have hg2 := eH (hQ (B := 18446744073709551616) (n + m / 64 + 1) (bL 18446744073709551616 (xs.take i) * 2 ^ m + 18446744073709551616 ^ (i + m / 64) * (d * 2 ^ (m % 64) % 18446744073709551616)) (i + m / 64 + 1) Ky);rw [s4] at hg2;have hs2 : (64 - (m : Int) % 64).toNat = 64 - m % 64 := Ky;have hd64 : d / 2 ^ (64 - (m : Int) % 64).toNat < 18446744073709551616 := Nat.lt_of_le_of_lt (Nat.div_le_self _ _) hdw;have h0w : (0 : Nat) < 18446744073709551616 := Ky;refine aa (sr (mI ?_));refine kT rfl rfl Ky Ky Kz ?_;refine ct (aa (cT ?_));refine a8 10 [[(5, none)], [(8, none)], [(41, some 1)], [(40, some 0), (42, some 2)], [(43, some 3)], [(7, none)], [(1, none)], [(46, some 6)], [(47, some 7)], [(45, some 5), (48, some 8)]] [(9, 49), (8, 48), (7, 47), (6, 46), (5, 45), (4, 44), (3, 43), (2, 42), (1, 41), (0, 40)] hh mixed KA ?_;refine jt ?_;refine fJ ?_;refine sG ?_;refine DF (i + m / 64 + 1) ?_;refine bF (i := 4) (fun ρ1 w1 hj hR => fO aF.out (show ρ1 43 = Value.pointer _ from hR.1) (hj.hp.cN (i := 0) rfl (by rw [Nat.mul_one]; exact hg2))) ?_;refine fJ ?_;refine fJ ?_;refine bF (i := 7) (fun ρ1 w1 hj hR => mX (show ρ1 46 = Value.int _ _ from hR.1) rfl Ky Ky) ?_;refine wB ?_
    refine bF (i := 9) (fun ρ1 w1 hj hR => yn (show ρ1 45 = Value.int _ _ from hR.1) (show ρ1 48 = Value.int _ _ from hR.2.1) Ky) ?_;refine bA ?_;intro f W hJ hV;have hb_8 := hJ.bl;obtain ⟨v49, v48, v47, v46, v45, v44, v43, v42, v41, v40, _⟩ := hV;replace hh := hJ.hp;refine bj (bC (ae v49 (ae v48 (ae v47 (ae v46 (ae v45 (ae v44 (ae v43 (ae v42 (ae v41 (ae v40 bh))))))))))) ?_;dsimp only [cP];clear hJ;refine z9 rfl rfl (by first | assumption | omega) (by first | assumption | omega) Kz ?_;refine bf (k := i + m / 64 + 1) aQ.out aF.size rfl rfl Ky Ky Kz ?_;refine bs hh (i := 0) (vs := [_]) rfl rfl (cd rfl) rfl aF.out rfl (by rw [bk, bg]; omega) rfl ?_;intro ws hh;simp only [List.set_cons_zero] at hh;rw [hs2, Nat.zero_or, Nat.mul_one, cS (by rw [bk, bg]; omega), gg, s5, ← fF hdi] at hh;refine aE (aP (ai (aq ?_)));refine bB (mI (aE (ai ?_)));refine ⟨⟨i + 1, Ky, rfl, hh⟩, by show n - (i + 1) < n - i; omega, ?_⟩;exact KB
  ·refine sr ?_;refine aK (aa (ah (cF (aJ (az (az (aX (ai (sr (mL ?_))))))))));rw [List.take_of_length_le Ky] at hh;refine bE hh (g6 _ _ _ (cu 18446744073709551616 (n + m / 64 + 1) (bL 18446744073709551616 xs * 2 ^ m)) _ (hh.aM (i := 0) rfl) (Nat.le_refl _) Ky) rfl ?_;intro w54 hh;refine aL (aa (ao ?_));refine cq ?_;have hbd : bL 18446744073709551616 xs * 2 ^ m < 18446744073709551616 ^ (n + m / 64 + 1) := by
    have h1 := ir hd;rw [show xs.length = n by omega] at h1;have h2 : 2 ^ m ≤ 18446744073709551616 ^ (m / 64 + 1) := by
     rw [show (18446744073709551616 : Nat) = 2 ^ 64 from rfl, ← Nat.pow_mul];exact Nat.pow_le_pow_right Ky Ky
    rw [show n + m / 64 + 1 = n + (m / 64 + 1) by omega, Nat.pow_add];exact Nat.lt_of_lt_of_le (Nat.mul_lt_mul_of_pos_right h1 (Nat.pow_pos Ky)) (Nat.mul_le_mul_left _ h2)
   have hd : ej (cu 18446744073709551616 (n + m / 64 + 1) (bL 18446744073709551616 xs * 2 ^ m)) = bo 18446744073709551616 (bL 18446744073709551616 xs * 2 ^ m) := by
    rw [fH Ky (fk Ky _ _), cX hbd]
   have h1 := (Hp.Al (xs := cu 18446744073709551616 (n + m / 64 + 1) (bL 18446744073709551616 xs * 2 ^ m)) hh (bg _ _)).at_ (i := 0) rfl;rw [hd] at h1;rw [hd];exact ⟨_, _, rfl, h1, hh.below⟩
end Go.Proofs.YtaapkaefelhfcaaGreatDoor
namespace Go.Proofs.YtaapkaefelhfcaaGreatDoor
open Go.RowKit
theorem Sl.HK {w : World} {ad : Addr} {n : Nat} {xs : List Nat} (h : Sl w (some ad) n 1 (dp xs)) {k : Nat} (hk : k < n) : Sl w (some (ad.add (k * 1))) (n - k) 1 (dp (xs.drop k)) := by
 have hl := h.1;rw [bk] at hl;refine ⟨by rw [bk, List.length_drop]; omega, fun h0 => ⟨_, rfl, ?_⟩⟩;obtain ⟨ad', he, hr⟩ := h.2 Ky;injection he with he
 subst he;rw [Nat.mul_one, tq];exact hr.drop k
theorem Cc {N j s : Nat} (hs : s < 64) (h0 : 0 < s) :
  (N / 18446744073709551616 ^ (j + 1) % 18446744073709551616) * 2 ^ (64 - s) % 18446744073709551616 = N / 18446744073709551616 ^ (j + 1) % 2 ^ s * 2 ^ (64 - s) ∧
  (N / 18446744073709551616 ^ j % 18446744073709551616 / 2 ^ s ||| (N / 18446744073709551616 ^ (j + 1) % 18446744073709551616) * 2 ^ (64 - s) % 18446744073709551616) = N / 2 ^ (64 * j + s) % 18446744073709551616 := by
 have hW : (18446744073709551616 : Nat) = 2 ^ 64 := by decide
 have e : (18446744073709551616 : Nat) = 2 ^ s * 2 ^ (64 - s) := by rw [← Nat.pow_add, hW]; congr 1; omega
 have h1 : (N / 18446744073709551616 ^ (j + 1) % 18446744073709551616) * 2 ^ (64 - s) % 18446744073709551616 = N / 18446744073709551616 ^ (j + 1) % 2 ^ s * 2 ^ (64 - s) := by
  generalize N / 18446744073709551616 ^ (j + 1) = m;rw [e, Nat.mul_mod_mul_right, Nat.mod_mul_right_mod]
 obtain ⟨h2, h3⟩ := tx N j s hs h0;exact ⟨h1, by rw [h1, yz h2, h3]⟩
theorem vX (A : Option Addr) (n c m : Nat) (xs : List Nat) (w : World) (hx : Sl w A n 1 (dp xs)) (hd : Dg 18446744073709551616 xs) (hc : n ≤ c) (hn : n ≤ 1000000000) (hm : m ≤ 1000000000000) :
  Calls Tryz.prog 274 #[.slice A n c, .int .i64 (m : Int)] w fun e w' => ∃ A c, e = .returned (.slice A (bo 18446744073709551616 (bL 18446744073709551616 xs / 2 ^ m)).length c) ∧ w'.ownsRow w.heap.size 221 1 (.slice A (bo 18446744073709551616 (bL 18446744073709551616 xs / 2 ^ m)).length c) (bo 18446744073709551616 (bL 18446744073709551616 xs / 2 ^ m)).length (dp (bo 18446744073709551616 (bL 18446744073709551616 xs / 2 ^ m))) ∧ Below w.heap.size w w' := by
 have hl := hx.1;rw [bk] at hl;have hh := Hp.start w;have hs1 : ((m : Int) % 64).toNat = m % 64 := Ky;have hW : (18446744073709551616 : Nat) = 2 ^ 64 := by decide
 have hmm : 2 ^ m = 18446744073709551616 ^ (m / 64) * 2 ^ (m % 64) := by
  rw [hW, ← Nat.pow_mul, ← Nat.pow_add]; congr 1; omega
 have hlt := ir hd;rw [show xs.length = n by omega] at hlt;by_cases hbig : n ≤ m / 64
 ·have h0 : bL 18446744073709551616 xs / 2 ^ m = 0 := by
   apply Nat.div_eq_of_lt;refine Nat.lt_of_lt_of_le hlt (Nat.le_trans (Nat.pow_le_pow_right Kz hbig) ?_);rw [hmm];exact Nat.le_mul_of_pos_right _ (Nat.pow_pos Ky)
  refine al (N := 61) (l := [.slice A n c, .int .i64 (m : Int)]) Tryz.func274 rfl rfl (by simp) ?_;refine sr (aL (aa (ah (sr (mI ?_)))));refine jr rfl rfl Ky Ky Ky Kz ?_;refine mL (aW ?_);refine dv (aa (cT (sr (aL (aa (ao (aG ?_)))))));refine cq ?_;rw [h0, gj Ky];exact ⟨none, 0, rfl, World.ownsRow_nil _ _ _ _, hh.below⟩
 ·obtain ⟨ad, rfl, hr⟩ := hx.at_ Ky;have hsd := hx.HK (k := m / 64) Ky;have hget : ∀ j, j < n → xs[j]? = some (bL 18446744073709551616 xs / 18446744073709551616 ^ j % 18446744073709551616) := fun j hj => by
   obtain ⟨d, hdj⟩ := ay (l := xs) (k := j) Ky;rw [hdj, pY hd hdj]
  refine al (N := 61) (l := [.slice (some ad) n c, .int .i64 (m : Int)]) Tryz.func274 rfl rfl (by simp) ?_;refine sr (aL (aa (ah (sr (mI ?_)))));refine jr rfl rfl Ky Ky Ky Kz ?_;refine mL (aW ?_);refine dv (aa (cF (ak (ai (sr (mL (mI ?_)))))));refine jr rfl rfl Ky Ky Ky Kz ?_;refine xq (l := m / 64) aQ.out aF.size rfl rfl Ky Ky Ky Ky Kz ?_;refine aN (mD _ _ _ 0 _ _ hsd Ky Ky) aw.out rfl Kz ?_;rintro e_ w_ ⟨b16, rfl, hown_, hb_⟩;refine ⟨_, rfl, ?_⟩;replace hh := hh.bz (x := .row _ _ _ _ _ _) hb_ hown_;rw [Nat.zero_max, Nat.sub_self, List.replicate_zero, List.append_nil] at hh;rw [Nat.zero_max];refine aL (aa (ah (sr (mL (aW (mI (aa (aj ?_))))))));refine bm [6, 19, 20, 21, 22, 23, 24, 25, 26, 27, 28, 29, 30, 31, 32, 33, 34, 35, 36, 37, 38, 39, 40, 41, 42, 43, 44, 45, 46, 47, 48, 49, 50, 51, 52, 53, 54, 55, 56, 57, 58] 19
   (fun v w' => ∃ i : Nat, i ≤ n - m / 64 ∧ v = .int .i64 i ∧ Hp w [.row (some ⟨b16, 0, none⟩) (n - m / 64) (n - m / 64) 221 1 (dp (cu 18446744073709551616 i (bL 18446744073709551616 xs / 2 ^ m) ++ xs.drop (m / 64 + i)))] w')
   (fun v _ => (n - m / 64) - (intOf v).toNat) ?_ ?_
  ·exact ⟨0, Nat.zero_le _, rfl, hh⟩
  ·clear hh;rintro ρ' v w' ⟨i, hi, rfl, hh⟩;by_cases hlt2 : i < n - m / 64
   ·have hgi := hget (m / 64 + i) Ky;have hdr : xs.drop (m / 64 + i) = (bL 18446744073709551616 xs / 18446744073709551616 ^ (m / 64 + i) % 18446744073709551616) :: xs.drop (m / 64 + i + 1) := by
     rw [List.drop_eq_getElem_cons Ky];congr 1;have := List.getElem?_eq_some_iff.1 hgi;exact this.2
    have hcell : (cu 18446744073709551616 i (bL 18446744073709551616 xs / 2 ^ m) ++ xs.drop (m / 64 + i))[i]? = some (bL 18446744073709551616 xs / 18446744073709551616 ^ (m / 64 + i) % 18446744073709551616) := by
     rw [List.getElem?_append_right (by rw [bg]; omega), bg, hdr]; simp
    have hg := eH hcell;have hset : ∀ y, (cu 18446744073709551616 i (bL 18446744073709551616 xs / 2 ^ m) ++ xs.drop (m / 64 + i)).set i y = cu 18446744073709551616 i (bL 18446744073709551616 xs / 2 ^ m) ++ y :: xs.drop (m / 64 + i + 1) := fun y => by
     rw [hdr, List.set_append_right _ _ (by rw [bg]; omega), bg, Nat.sub_self, List.set_cons_zero]
    have hll : (cu 18446744073709551616 i (bL 18446744073709551616 xs / 2 ^ m) ++ xs.drop (m / 64 + i)).length = n - m / 64 := by rw [List.length_append, bg, List.length_drop]; omega
    have hac : ∀ y, cu 18446744073709551616 i (bL 18446744073709551616 xs / 2 ^ m) ++ y :: xs.drop (m / 64 + i + 1) = (cu 18446744073709551616 i (bL 18446744073709551616 xs / 2 ^ m) ++ [y]) ++ xs.drop (m / 64 + (i + 1)) := fun y => List.append_cons _ _ _;have hnew : cu 18446744073709551616 (i + 1) (bL 18446744073709551616 xs / 2 ^ m) = cu 18446744073709551616 i (bL 18446744073709551616 xs / 2 ^ m) ++ [bL 18446744073709551616 xs / 2 ^ (64 * (m / 64 + i) + m % 64) % 18446744073709551616] := by
     rw [kx, Nat.div_div_eq_div_mul];congr 4;rw [hW, ← Nat.pow_mul, ← Nat.pow_add]; congr 1; omega
    refine sr ?_;refine aK (aa (ah (cT (ak (ai (ah (aj (sr (mI (aI (aa (sr (mL (mI ?_))))))))))))));refine bf (k := i) aQ.out aF.size rfl rfl Ky Ky Kz ?_;refine aZ aF.out rfl (hh.cN (i := 0) rfl (by first | assumption | (simp only [Nat.mul_one]; assumption))) Kz ?_;refine mI ?_;refine kT rfl rfl Ky Ky Kz ?_;refine zu rfl rfl Ky Kz ?_;refine bf (k := i) aQ.out aF.size rfl rfl Ky Ky Kz ?_;refine bs hh (i := 0) (vs := [_]) rfl rfl (cd rfl) rfl aF.out rfl (by rw [bk, hll]; omega) rfl ?_;intro ws hh;simp only [List.set_cons_zero] at hh;rw [hs1, Nat.mul_one, cS (by rw [bk, hll]; omega), gg, hset] at hh;by_cases h0 : m % 64 = 0
    ·have e1 : bL 18446744073709551616 xs / 18446744073709551616 ^ (m / 64 + i) % 18446744073709551616 / 2 ^ (m % 64) = bL 18446744073709551616 xs / 2 ^ (64 * (m / 64 + i) + m % 64) % 18446744073709551616 := by
      rw [h0, Nat.pow_zero, Nat.div_one, Nat.add_zero, Nat.pow_mul, ← hW]
     by_cases hl : i + 1 < n - m / 64
     ·refine aa (sr (mI ?_));refine bB (mL (aW ?_));refine aK (mB (gT (mI (gT ?_))));refine kT rfl rfl Ky Ky Kz ?_;refine gT ?_;refine ct ?_;refine e7 ?_;refine aa (cF (ak (aP (ai (aq ?_)))));refine bB (mI (aE (ai ?_)));rw [e1, hac, ← hnew] at hh;refine ⟨⟨i + 1, Ky, rfl, hh⟩, by show (n - m / 64) - (i + 1) < (n - m / 64) - i; omega, ?_⟩;exact KB
     ·refine aa (sr (mI ?_));refine bB (mL (aW ?_));refine aK (mB ?_);refine gS (gS (gS ?_));refine eX ?_;refine aa (cF (ak (aP (ai (aq ?_)))));refine bB (mI (aE (ai ?_)));rw [e1, hac, ← hnew] at hh;refine ⟨⟨i + 1, Ky, rfl, hh⟩, by show (n - m / 64) - (i + 1) < (n - m / 64) - i; omega, ?_⟩;exact KB
    ·by_cases hl : i + 1 < n - m / 64
     ·have hgj := hget (m / 64 + i + 1) Ky;have hgj2 := eH hgj;obtain ⟨d1, d2⟩ := Cc (N := bL 18446744073709551616 xs) (j := m / 64 + i) (s := m % 64) (Nat.mod_lt _ Ky) Ky;have hcell2 : (cu 18446744073709551616 i (bL 18446744073709551616 xs / 2 ^ m) ++ (bL 18446744073709551616 xs / 18446744073709551616 ^ (m / 64 + i) % 18446744073709551616 / 2 ^ (m % 64)) :: xs.drop (m / 64 + i + 1))[i]? = some (bL 18446744073709551616 xs / 18446744073709551616 ^ (m / 64 + i) % 18446744073709551616 / 2 ^ (m % 64)) := by
       rw [List.getElem?_append_right (by rw [bg]; omega), bg]; simp
      have hg2 := eH hcell2;have hset2 : ∀ y z, (cu 18446744073709551616 i (bL 18446744073709551616 xs / 2 ^ m) ++ y :: xs.drop (m / 64 + i + 1)).set i z = cu 18446744073709551616 i (bL 18446744073709551616 xs / 2 ^ m) ++ z :: xs.drop (m / 64 + i + 1) := fun y z => by
       rw [List.set_append_right _ _ (by rw [bg]; omega), bg, Nat.sub_self, List.set_cons_zero]
      have hll2 : ∀ y, (cu 18446744073709551616 i (bL 18446744073709551616 xs / 2 ^ m) ++ y :: xs.drop (m / 64 + i + 1)).length = n - m / 64 := fun y => by rw [List.length_append, bg, List.length_cons, List.length_drop]; omega
      have hs2 : (64 - (m : Int) % 64).toNat = 64 - m % 64 := Ky;have b1 : bL 18446744073709551616 xs / 18446744073709551616 ^ (m / 64 + i) % 18446744073709551616 / 2 ^ (m % 64) < 18446744073709551616 := Nat.lt_of_le_of_lt (Nat.div_le_self _ _) (Nat.mod_lt _ Ky);have b2 : bL 18446744073709551616 xs / 18446744073709551616 ^ (m / 64 + i + 1) % 18446744073709551616 * 2 ^ (64 - (m : Int) % 64).toNat % 18446744073709551616 < 18446744073709551616 := Nat.mod_lt _ Ky;refine aa (sr (mI ?_));refine bB (mL (aW ?_));refine aK (mB (gT (mI (gT ?_))));refine kT rfl rfl Ky Ky Kz ?_;refine gT ?_;refine ct ?_;refine e7 ?_;refine aa (cT ?_);refine a8 16 [[(5, none)], [(6, none)], [(40, some 0), (41, some 1)], [(42, some 2)], [(0, none)], [(1, none)], [(45, some 5)], [(6, none)], [(46, some 6), (47, some 7)], [(48, some 8)], [(44, some 4), (49, some 9)], [(50, some 10)], [(1, none)], [(52, some 12)], [(53, some 13)], [(51, some 11), (54, some 14)]] [(15, 55), (14, 54), (13, 53), (12, 52), (11, 51), (10, 50), (9, 49), (8, 48), (7, 47), (6, 46), (5, 45), (4, 44), (3, 43), (2, 42), (1, 41), (0, 40)] hh mixed KA ?_;refine jt ?_;refine fJ ?_;refine DF (i) ?_
      refine bF (i := 3) (fun ρ1 w1 hj hR => fO aF.out (show ρ1 42 = Value.pointer _ from hR.1) (hj.hp.cN (i := 0) rfl (by rw [Nat.mul_one]; exact hg2))) ?_;refine jt ?_;refine fJ ?_;refine bF (i := 6) (fun ρ1 w1 hj hR => o4 (show ρ1 45 = Value.int _ _ from hR.1) rfl Ky Ky Ky) ?_;refine fJ ?_;refine sG ?_;refine sG ?_;refine mH (m / 64 + i + 1) ?_;refine nV (fun _ hj => (hr.ext hj.hp.below).fP hgj2) ?_;refine fJ ?_;refine bF (i := 13) (fun ρ1 w1 hj hR => mX (show ρ1 52 = Value.int _ _ from hR.1) rfl Ky Ky) ?_;refine wB ?_;refine bF (i := 15) (fun ρ1 w1 hj hR => vr (show ρ1 51 = Value.int _ _ from hR.1) (show ρ1 54 = Value.int _ _ from hR.2.1) Ky) ?_;refine bA ?_;intro f W hJ hV;have hb_9 := hJ.bl;obtain ⟨v55, v54, v53, v52, v51, v50, v49, v48, v47, v46, v45, v44, v43, v42, v41, v40, _⟩ := hV;replace hh := hJ.hp;refine bj (bC (ae v55 (ae v54 (ae v53 (ae v52 (ae v51 (ae v50 (ae v49 (ae v48 (ae v47 (ae v46 (ae v45 (ae v44 (ae v43 (ae v42 (ae v41 (ae v40 bh))))))))))))))))) ?_;dsimp only [cP];clear hJ;refine z9 rfl rfl (by first | assumption | omega) (by first | assumption | omega) Kz ?_;refine bf (k := i) aQ.out aF.size rfl rfl Ky Ky Kz ?_
      refine bs hh (i := 0) (vs := [_]) rfl rfl (cd rfl) rfl aF.out rfl (by rw [bk, hll2]; omega) rfl ?_;intro ws hh;simp only [List.set_cons_zero] at hh;rw [hs2, d2, Nat.mul_one, cS (by rw [bk, hll2]; omega), gg, hset2, hac, ← hnew] at hh;refine aE (aP (ai (aq ?_)));refine bB (mI (aE (ai ?_)));refine ⟨⟨i + 1, Ky, rfl, hh⟩, by show (n - m / 64) - (i + 1) < (n - m / 64) - i; omega, ?_⟩;exact KB
     ·have e1 : bL 18446744073709551616 xs / 18446744073709551616 ^ (m / 64 + i) % 18446744073709551616 / 2 ^ (m % 64) = bL 18446744073709551616 xs / 2 ^ (64 * (m / 64 + i) + m % 64) % 18446744073709551616 := by
       obtain ⟨h2, h3⟩ := tx (bL 18446744073709551616 xs) (m / 64 + i) (m % 64) (Nat.mod_lt _ Ky) Ky;have h4 : bL 18446744073709551616 xs / 18446744073709551616 ^ (m / 64 + i + 1) = 0 := Nat.div_eq_of_lt (Nat.lt_of_lt_of_le hlt (Nat.pow_le_pow_right Kz Ky));rw [h4] at h3;simpa using h3
      refine aa (sr (mI ?_));refine bB (mL (aW ?_));refine aK (mB ?_);refine gS (gS (gS ?_));refine eX ?_;refine aa (cF (ak (aP (ai (aq ?_)))));refine bB (mI (aE (ai ?_)));rw [e1, hac, ← hnew] at hh;refine ⟨⟨i + 1, Ky, rfl, hh⟩, by show (n - m / 64) - (i + 1) < (n - m / 64) - i; omega, ?_⟩;exact KB
   ·obtain rfl : i = n - m / 64 := Ky;rw [List.drop_eq_nil_of_le Ky, List.append_nil] at hh;refine sr ?_;refine aK (aa (ah (cF (aJ (az (az (aX (ai (sr (mL ?_))))))))));refine bE hh (g6 _ _ _ (cu 18446744073709551616 (n - m / 64) (bL 18446744073709551616 xs / 2 ^ m)) _ (hh.aM (i := 0) rfl) (Nat.le_refl _) Ky) rfl ?_;intro w60 hh;refine aL (aa (ao ?_));refine cq ?_;have hbd : bL 18446744073709551616 xs / 2 ^ m < 18446744073709551616 ^ (n - m / 64) := by
     rw [Nat.div_lt_iff_lt_mul (Nat.pow_pos Ky), hmm, ← Nat.mul_assoc, ← Nat.pow_add, show n - m / 64 + m / 64 = n by omega];exact Nat.lt_of_lt_of_le hlt (Nat.le_mul_of_pos_right _ (Nat.pow_pos Ky))
    have hd : ej (cu 18446744073709551616 (n - m / 64) (bL 18446744073709551616 xs / 2 ^ m)) = bo 18446744073709551616 (bL 18446744073709551616 xs / 2 ^ m) := by
     rw [fH Ky (fk Ky _ _), cX hbd]
    have h1 := (Hp.Al (xs := cu 18446744073709551616 (n - m / 64) (bL 18446744073709551616 xs / 2 ^ m)) hh (bg _ _)).at_ (i := 0) rfl;rw [hd] at h1;rw [hd];exact ⟨_, _, rfl, h1, hh.below⟩
end Go.Proofs.YtaapkaefelhfcaaGreatDoor
namespace Go.Proofs.YtaapkaefelhfcaaGreatDoor
open Go.RowKit
def bN (a : ByteArray) : Nat := bn a.data.toList
def sN (n : Nat) : ByteArray := str (sb n)
theorem fg (n : Nat) : bN (sN n) = n := by rw [bN, sN, fj, H9]
theorem jU (n : Nat) : (sN n).size = (bU n + 7) / 8 := by rw [sN, lu, BG, zf]
theorem yP {a b : Nat} (h : sN a = sN b) : a = b := by rw [← fg a, h, fg]
theorem jw : sN 0 = ByteArray.mk #[] := by rw [sN, Fx]; rfl
theorem sY (a : ByteArray) : bN a < 256 ^ a.size := by rw [eF]; exact Gz _
theorem gM (a : ByteArray) : bU (bN a) ≤ 8 * a.size := by
 apply dQ;have := sY a;rwa [show (256 : Nat) = 2 ^ 8 from rfl, ← Nat.pow_mul] at this
theorem BH {n k : Nat} (h : n < 256 ^ k) : (bo 18446744073709551616 n).length ≤ (k + 7) / 8 := by
 apply g8 Ky;refine Nat.lt_of_lt_of_le h ?_;rw [show (256 : Nat) = 2 ^ 8 from rfl, show (18446744073709551616 : Nat) = 2 ^ 64 from rfl, ← Nat.pow_mul, ← Nat.pow_mul];exact Nat.pow_le_pow_right Ky Ky
theorem fV (a : ByteArray) : (bo 18446744073709551616 (bN a)).length ≤ (a.size + 7) / 8 := BH (sY a)
theorem gC (n : Nat) : Dg 18446744073709551616 (bo 18446744073709551616 n) := (dY Ky n).1
theorem gu (n : Nat) : bL 18446744073709551616 (bo 18446744073709551616 n) = n := er Ky n
theorem dN (a : ByteArray) (w : World) (ha : a.size ≤ 1000000000) :
  Calls Tryz.prog 250 #[.string a] w fun e w' => ∃ b c, e = .returned (.slice (some ⟨b, 0, none⟩) (bo 18446744073709551616 (bN a)).length c) ∧ w'.ownsRow w.heap.size 221 1 (.slice (some ⟨b, 0, none⟩) (bo 18446744073709551616 (bN a)).length c) (bo 18446744073709551616 (bN a)).length (dp (bo 18446744073709551616 (bN a))) ∧ Below w.heap.size w w' := Bs a w Ky
theorem pw (n : Nat) (w : World) (hn : n < 18446744073709551616) :
  Calls Tryz.prog 229 #[.int .u64 (n : Int)] w fun e w' => e = .returned (.string (sN n)) ∧ Below w.heap.size w w' := by
 have hh := Hp.start w;refine al (N := 6) (l := [.int .u64 (n : Int)]) Tryz.func229 rfl rfl (by simp) ?_;refine sr (aS (aa (sr (mI ?_))));refine aO hh (cs := [_]) aQ.out aF.out (aR (cd rfl) bI) rfl rfl Kz Kz Kz rfl Kz ?_;intro b4 w4 hh;refine bE hh (g7 _ _ _ [n] _ (hh.aM (i := 0) rfl) (Dg.cons hn Dg.nil) (Nat.le_refl _) Ky) rfl ?_;intro w5 hh;refine aS (aa (ao ?_));refine cq ?_;refine ⟨?_, hh.below⟩;rw [sN];simp [bL]
theorem vi (a b : ByteArray) (w : World) (ha : a.size ≤ 1000000000) (hb : b.size ≤ 1000000000) :
  Calls Tryz.prog 278 #[.string a, .string b] w fun e w' => e = .returned (.int .i64 (kC (bN a) (bN b))) ∧ Below w.heap.size w w' := by
 have hh := Hp.start w;have h1 := fV a;have h2 := fV b;refine al (N := 10) (l := [.string a, .string b]) Tryz.func278 rfl rfl (by simp) ?_;refine sr (aI (aa (sr (mS ?_))));refine aN (dN a _ ha) aw.out rfl Kz ?_;rintro e_ w6 ⟨A6, c6, rfl, hown_, hb_⟩;refine ⟨_, rfl, ?_⟩;replace hh := hh.bz (x := .row _ _ _ _ _ _) hb_ hown_;refine mS ?_;refine aN (dN b _ hb) aw.out rfl Kz ?_;rintro e_ w8 ⟨A8, c8, rfl, hown_, hb_⟩;refine ⟨_, rfl, ?_⟩;replace hh := hh.bz (x := .row _ _ _ _ _ _) hb_ hown_;refine bE hh (m8 _ _ _ _ _ _ (bo 18446744073709551616 (bN a)) (bo 18446744073709551616 (bN b)) _ (hh.aM (i := 1) rfl) (hh.aM (i := 0) rfl) (gC _) (gC _) (hh.ee (i := 1) rfl) (hh.ee (i := 0) rfl) Ky Ky) rfl ?_;intro w9 hh;rw [gu, gu];refine aI (aa (ao ?_));refine cq ?_;exact ⟨rfl, hh.below⟩
theorem kK (a : ByteArray) (w : World) (ha : a.size ≤ 1000000000) :
  Calls Tryz.prog 254 #[.string a] w fun e w' => e = .returned (.int .i64 (bU (bN a))) ∧ Below w.heap.size w w' := by
 have hh := Hp.start w;have h1 := fV a;refine al (N := 6) (l := [.string a]) Tryz.func254 rfl rfl (by simp) ?_;refine sr (aI (aa (sr (mS ?_))));refine aN (dN a _ ha) aw.out rfl Kz ?_;rintro e_ w4 ⟨A4, c4, rfl, hown_, hb_⟩;refine ⟨_, rfl, ?_⟩;replace hh := hh.bz (x := .row _ _ _ _ _ _) hb_ hown_;refine bE hh (rm _ _ _ (bo 18446744073709551616 (bN a)) _ (hh.aM (i := 0) rfl) (gC _) (hh.ee (i := 0) rfl) Ky) rfl ?_;intro w5 hh;rw [gu];refine aI (aa (ao ?_));refine cq ?_;exact ⟨rfl, hh.below⟩
theorem nS (n m : Nat) : bU (n * 2 ^ m) ≤ bU n + m := by
 apply dQ;rw [Nat.pow_add];exact Nat.mul_lt_mul_of_pos_right (dL n) (Nat.pow_pos Ky)
theorem r5 (n : Nat) : (bo 18446744073709551616 n).length ≤ (bU n + 63) / 64 := by
 apply g8 Ky;refine Nat.lt_of_lt_of_le (dL n) ?_;rw [show (18446744073709551616 : Nat) = 2 ^ 64 from rfl, ← Nat.pow_mul];exact Nat.pow_le_pow_right Ky Ky
theorem uN (a : ByteArray) (m : Nat) (w : World) (ha : a.size ≤ 1000000000) (hm : m ≤ 10000000000) :
  Calls Tryz.prog 252 #[.string a, .int .i64 (m : Int)] w fun e w' => e = .returned (.string (sN (bN a * 2 ^ m))) ∧ Below w.heap.size w w' := by
 have hh := Hp.start w;have h1 := fV a;have h2 := r5 (bN a * 2 ^ m);have h3 := nS (bN a) m;have h4 := gM a;have e1 : (if (0 : Int) > (m : Int) then 0 else (m : Int)) = m := if_neg Ky;refine al (N := 11) (l := [.string a, .int .i64 (m : Int)]) Tryz.func252 rfl rfl (by simp) ?_;refine sr (aS (aa (sr (mS ?_))));refine aN (dN a _ ha) aw.out rfl Kz ?_;rintro e_ w6 ⟨A6, c6, rfl, hown_, hb_⟩;refine ⟨_, rfl, ?_⟩;replace hh := hh.bz (x := .row _ _ _ _ _ _) hb_ hown_;refine mI ?_;refine kq rfl rfl Kz ?_;rw [e1];refine aN (Bi _ _ _ m (bo 18446744073709551616 (bN a)) _ (hh.aM (i := 0) rfl) (gC _) Ky hm) aw.out rfl Kz ?_;rintro e_ w9 ⟨A9, c9, rfl, hown_, hb_⟩;refine ⟨_, rfl, ?_⟩;replace hh := hh.bz (x := .row _ _ _ _ _ _) hb_ hown_;rw [gu] at *;refine bE hh (g7 _ _ _ (bo 18446744073709551616 (bN a * 2 ^ m)) _ (hh.aM (i := 0) rfl) (gC _) (hh.ee (i := 0) rfl) Ky) rfl ?_;intro w10 hh;rw [gu];refine aS (aa (ao ?_));refine cq ?_;exact ⟨rfl, hh.below⟩
theorem nJ (n m : Nat) : bU (n / 2 ^ m) ≤ bU n := by
 apply dQ;exact Nat.lt_of_le_of_lt (Nat.div_le_self _ _) (dL n)
theorem vg (a : ByteArray) (m : Nat) (w : World) (ha : a.size ≤ 1000000000) (hm : m ≤ 1000000000000) :
  Calls Tryz.prog 253 #[.string a, .int .i64 (m : Int)] w fun e w' => e = .returned (.string (sN (bN a / 2 ^ m))) ∧ Below w.heap.size w w' := by
 have hh := Hp.start w;have h1 := fV a;have h2 := r5 (bN a / 2 ^ m);have h3 := nJ (bN a) m;have h4 := gM a;have e1 : (if (0 : Int) > (m : Int) then 0 else (m : Int)) = m := if_neg Ky;refine al (N := 11) (l := [.string a, .int .i64 (m : Int)]) Tryz.func253 rfl rfl (by simp) ?_;refine sr (aS (aa (sr (mS ?_))));refine aN (dN a _ ha) aw.out rfl Kz ?_;rintro e_ w6 ⟨A6, c6, rfl, hown_, hb_⟩;refine ⟨_, rfl, ?_⟩;replace hh := hh.bz (x := .row _ _ _ _ _ _) hb_ hown_;refine mI ?_;refine kq rfl rfl Kz ?_;rw [e1];refine aN (vX _ _ _ m (bo 18446744073709551616 (bN a)) _ (hh.aM (i := 0) rfl) (gC _) (hh.ee (i := 0) rfl) Ky hm) aw.out rfl Kz ?_;rintro e_ w9 ⟨A9, c9, rfl, hown_, hb_⟩;refine ⟨_, rfl, ?_⟩;replace hh := hh.bz (x := .row _ _ _ _ _ _) hb_ hown_;rw [gu] at *;refine bE hh (g7 _ _ _ (bo 18446744073709551616 (bN a / 2 ^ m)) _ (hh.aM (i := 0) rfl) (gC _) (hh.ee (i := 0) rfl) Ky) rfl ?_;intro w10 hh;rw [gu];refine aS (aa (ao ?_));refine cq ?_;exact ⟨rfl, hh.below⟩
theorem Gq {x y : Nat} (h : y ≤ x) : xu 18446744073709551616 (bo 18446744073709551616 x) (bo 18446744073709551616 y) 0 = 0 ∧ bL 18446744073709551616 (pR 18446744073709551616 (bo 18446744073709551616 x) (bo 18446744073709551616 y) 0) = x - y := by
 have := D0 (B := 18446744073709551616) Ky (bo 18446744073709551616 x) (bo 18446744073709551616 y) 0 (gC _) (gC _) Ky (by rw [gu, gu]; omega);rw [gu, gu] at this;exact ⟨this.2, Ky⟩
theorem ni (a b : ByteArray) (w : World) (ha : a.size ≤ 1000000000) (hb : b.size ≤ 1000000000) :
  Calls Tryz.prog 258 #[.string a, .string b] w fun e w' => e = .returned (.tuple #[.string (sN (bN a - bN b)), .bool (decide (bN b ≤ bN a))]) ∧ Below w.heap.size w w' := by
 have hh := Hp.start w;have h1 := fV a;have h2 := fV b;by_cases hlt : bN a < bN b
 ·refine al (N := 21) (l := [.string a, .string b]) Tryz.func258 rfl rfl (by simp) ?_;refine sr (aS (aB (aa (sr (mS ?_)))));refine aN (dN a _ ha) aw.out rfl Kz ?_;rintro e_ w9 ⟨A9, c9, rfl, hown_, hb_⟩;refine ⟨_, rfl, ?_⟩;replace hh := hh.bz (x := .row _ _ _ _ _ _) hb_ hown_;refine mS ?_;refine aN (dN b _ hb) aw.out rfl Kz ?_;rintro e_ w11 ⟨A11, c11, rfl, hown_, hb_⟩;refine ⟨_, rfl, ?_⟩;replace hh := hh.bz (x := .row _ _ _ _ _ _) hb_ hown_;refine aL (aL (aa (ah (sr (mL (mL ?_))))));refine bE hh (m8 _ _ _ _ _ _ (bo 18446744073709551616 (bN a)) (bo 18446744073709551616 (bN b)) _ (hh.aM (i := 1) rfl) (hh.aM (i := 0) rfl) (gC _) (gC _) (hh.ee (i := 1) rfl) (hh.ee (i := 0) rfl) Ky Ky) rfl ?_;intro w14 hh;rw [gu, gu, kY hlt];refine aK (aa (cT (sr (aS (aB (aa (ao (aG ?_))))))));refine xK ?_;rw [Nat.sub_eq_zero_of_le Ky, decide_eq_false Ky, jw];exact ⟨rfl, hh.below⟩
 ·obtain ⟨s1, s2⟩ := Gq (Nat.le_of_not_lt hlt);have hc : ¬ kC (bN a) (bN b) < 0 := by unfold kC; split <;> (try split) <;> omega
  refine al (N := 21) (l := [.string a, .string b]) Tryz.func258 rfl rfl (by simp) ?_;refine sr (aS (aB (aa (sr (mS ?_)))));refine aN (dN a _ ha) aw.out rfl Kz ?_;rintro e_ w9 ⟨A9, c9, rfl, hown_, hb_⟩;refine ⟨_, rfl, ?_⟩;replace hh := hh.bz (x := .row _ _ _ _ _ _) hb_ hown_;refine mS ?_;refine aN (dN b _ hb) aw.out rfl Kz ?_;rintro e_ w11 ⟨A11, c11, rfl, hown_, hb_⟩;refine ⟨_, rfl, ?_⟩;replace hh := hh.bz (x := .row _ _ _ _ _ _) hb_ hown_;refine aL (aL (aa (ah (sr (mL (mL ?_))))));refine bE hh (m8 _ _ _ _ _ _ (bo 18446744073709551616 (bN a)) (bo 18446744073709551616 (bN b)) _ (hh.aM (i := 1) rfl) (hh.aM (i := 0) rfl) (gC _) (gC _) (hh.ee (i := 1) rfl) (hh.ee (i := 0) rfl) Ky Ky) rfl ?_;intro w14 hh;rw [gu, gu];refine aK (aa (cF (ak (ai (sr (mL (mL ?_)))))));replace hh := hh.front 1 rfl;rw [← List.append_nil (bo 18446744073709551616 (bN a)), ← List.nil_append (bo 18446744073709551616 (bN a))] at hh;have hll := (hh.Gs (i := 0) rfl);rw [List.nil_append, List.append_nil] at hll;refine aN (xo [] (bo 18446744073709551616 (bN a)) [] (bo 18446744073709551616 (bN b)) _ hh (fun w1 cs h => h.aM (i := 1) rfl) (gC _) (gC _) Ky Ky s1) aw.out rfl Kz ?_;rintro e_ w_ ⟨rfl, hh⟩;refine ⟨_, rfl, ?_⟩
  simp only [List.nil_append, List.append_nil] at hh;refine aa (sr (mL ?_));refine bE hh (g7 _ _ _ (pR 18446744073709551616 (bo 18446744073709551616 (bN a)) (bo 18446744073709551616 (bN b)) 0) _ (hh.aM (i := 0) rfl) (Gv Ky _ _ _) (hh.ee (i := 0) rfl) Ky) rfl ?_;intro w20 hh;rw [s2];refine aS (aB (aa (ao ?_)));refine xK ?_;rw [decide_eq_true Ky];exact ⟨rfl, hh.below⟩
theorem vq (a b : ByteArray) (w : World) (ha : a.size ≤ 1000000000) (hb : b.size ≤ 1000000000) :
  Calls Tryz.prog 260 #[.string a, .string b] w fun e w' => e = .returned (.string (sN (bN a * bN b))) ∧ Below w.heap.size w w' := by
 have hh := Hp.start w;have h1 := fV a;have h2 := fV b;refine al (N := 37) (l := [.string a, .string b]) Tryz.func260 rfl rfl (by simp) ?_;refine sr (aS (aa (sr (mS ?_))));refine aN (dN a _ ha) aw.out rfl Kz ?_;rintro e_ w11 ⟨A11, c11, rfl, hown_, hb_⟩;refine ⟨_, rfl, ?_⟩;replace hh := hh.bz (x := .row _ _ _ _ _ _) hb_ hown_;refine mS ?_;refine aN (dN b _ hb) aw.out rfl Kz ?_;rintro e_ w13 ⟨A13, c13, rfl, hown_, hb_⟩;refine ⟨_, rfl, ?_⟩;replace hh := hh.bz (x := .row _ _ _ _ _ _) hb_ hown_;have hxd := gC (bN a);have hyd := gC (bN b);have hX := gu (bN a);have hY := gu (bN b);generalize bo 18446744073709551616 (bN a) = xs at *;generalize bo 18446744073709551616 (bN b) = ys at *;refine aL (aL (aa (sr (mL (aW (mL (aW ?_)))))));refine bB ?_;refine bB ?_;refine eT (n := xs.length + ys.length + 1) hh rfl rfl Ky Ky aQ.out aF.out rfl Ky Ky Kz ?_;intro b20 w20 hh;refine aL (aa (ah (sr (mL (aW (mI (aa (aj ?_))))))));rw [nq] at hh;refine bm [8, 9, 23, 24, 25, 26, 27, 28, 29, 30, 31, 32, 33, 34] 23
  (fun v w' => ∃ (i : Nat) (L : List Nat), i ≤ xs.length ∧ v = .int .i64 i ∧ Dg 18446744073709551616 L ∧ L.length = xs.length + ys.length + 1 ∧ bL 18446744073709551616 L = bL 18446744073709551616 (xs.take i) * bL 18446744073709551616 ys ∧ Hp w [.row (some ⟨b20, 0, none⟩) (xs.length + ys.length + 1) (xs.length + ys.length + 1) 221 1 (dp L), .row (some ⟨A13, 0, none⟩) ys.length c13 221 1 (dp ys), .row (some ⟨A11, 0, none⟩) xs.length c11 221 1 (dp xs)] w')
  (fun v _ => xs.length - (intOf v).toNat) ?_ ?_
 ·exact ⟨0, _, Nat.zero_le _, rfl, Dg.eN Ky _, by simp, by simp [oG, bL], hh⟩
 ·clear hh;rintro ρ' v w' ⟨i, L, hi, rfl, hLd, hLl, hLv, hh⟩;by_cases hlt : i < xs.length
  ·obtain ⟨m, hm⟩ := ay (l := xs) (k := i) Ky;have hm2 := eH hm;have hmw := hxd.at_ hm;have hpl : (L.take i).length = i := by rw [List.length_take]; omega
   have hsl : (L.drop i).length = xs.length + ys.length + 1 - i := by rw [List.length_drop]; omega
   refine sr ?_;refine aK (aa (ah (cT (ak (ai (ah (aj (sr (mI ?_)))))))));refine bf (k := i) aQ.out aF.size rfl rfl Ky Ky Kz ?_;refine aZ aF.out rfl (hh.cN (i := 2) rfl (by first | assumption | (simp only [Nat.mul_one]; assumption))) Kz ?_;refine aI (aI (aa (aq (mL (mI ?_)))));refine y2 (l := i) aQ.out aF.size rfl rfl Ky Ky Ky Ky Kz ?_;refine mL (mI ?_);have hc := wE (c' := xs.length + ys.length + 1 - i) (ny := ys.length) (cy := c13) (m := m) (Y := some ⟨A13, 0, none⟩) (L.take i) (L.drop i) [] ys _ (by rw [List.append_nil, List.take_append_drop]; exact hh) (fun w1 cs h => h.aM (i := 1) rfl) (hLd.drop i) hyd hmw Ky Ky;rw [hpl, hsl, List.append_nil] at hc;rw [Nat.zero_add, Nat.mul_one];refine aN (hc) aw.out rfl Kz ?_;rintro e_ w_ ⟨rfl, hh⟩;refine ⟨_, rfl, ?_⟩;have hlt1 := ir (hxd.take (i + 1));have hlt2 := ir hyd;rw [List.length_take, Nat.min_eq_left Ky] at hlt1;have hsn := fF (B := 18446744073709551616) hm;have hsplit := iP (B := 18446744073709551616) L i Ky;have hnew : 18446744073709551616 ^ i * (bL 18446744073709551616 (L.drop i) + bL 18446744073709551616 ys * m + 0) + bL 18446744073709551616 (L.take i) = bL 18446744073709551616 (xs.take (i + 1)) * bL 18446744073709551616 ys := by
    rw [hsn, Nat.add_mul, ← hLv, hsplit, Nat.add_zero, Nat.mul_add, Nat.mul_assoc, Nat.mul_comm m]; omega
   have hbd : bL 18446744073709551616 (L.drop i) + bL 18446744073709551616 ys * m + 0 < 18446744073709551616 ^ (L.drop i).length := by
    refine Nat.lt_of_mul_lt_mul_left (a := 18446744073709551616 ^ i) ?_;rw [← Nat.pow_add, hsl];refine Nat.lt_of_le_of_lt (Nat.le_add_right _ (bL 18446744073709551616 (L.take i))) ?_;rw [hnew];refine Nat.lt_of_lt_of_le (Nat.mul_lt_mul'' hlt1 hlt2) ?_;rw [← Nat.pow_add];exact Nat.pow_le_pow_right Kz Ky
   have hdp := ti (B := 18446744073709551616) Ky _ _ _ _ hbd;refine aE (aP (ai (aq ?_)));refine bB (mI (aE (ai ?_)));refine ⟨⟨i + 1, L.take i ++ gD 18446744073709551616 (L.drop i) ys m 0, Ky, rfl, (hLd.take i).append (wx Ky _ _ _ _), by rw [List.length_append, nE, hpl, hsl]; omega, ?_, hh⟩, by show xs.length - (i + 1) < xs.length - i; omega, ?_⟩
   ·rw [eQ, hdp, hpl, Nat.add_comm]; exact hnew
   exact KB
  ·obtain rfl : i = xs.length := Ky;rw [List.take_length, hX, hY] at hLv;refine sr ?_;refine aK (aa (ah (cF (aJ (az (az (aX (ai (sr (mL ?_))))))))));refine bE hh (g7 _ _ _ L _ (hh.aM (i := 0) rfl) hLd (Nat.le_refl _) Ky) rfl ?_;intro w36 hh;rw [hLv];refine aS (aa (ao ?_));refine cq ?_;exact ⟨rfl, hh.below⟩
theorem E3 {n d r k : Nat} (hd : d ≠ 0) (hdw : d < 18446744073709551616) (hn : n = 18446744073709551616 ^ k * (d + 18446744073709551616 * r)) : tz n = 64 * k + tz d := by
 obtain ⟨m, hm⟩ := qj hd;have ht : tz d < 64 := ta hd (by simpa using hdw);have hW : (18446744073709551616 : Nat) = 2 ^ 64 := by decide
 generalize tz d = t at *;have e : n = 2 ^ (64 * k + t) * (2 * (m + 2 ^ (63 - t) * r) + 1) := by
  rw [hn, Nat.pow_add, Nat.pow_mul, ← hW, Nat.mul_assoc];congr 1;have h1 : 18446744073709551616 = 2 ^ t * (2 * 2 ^ (63 - t)) := by rw [hW, ← Nat.pow_succ', ← Nat.pow_add]; congr 1; omega
  have h2 : 18446744073709551616 * r = 2 ^ t * (2 * 2 ^ (63 - t) * r) := by rw [← Nat.mul_assoc, ← h1]
  rw [h2]
  conv => lhs; rw [hm]
  rw [← Nat.mul_add];congr 1;rw [Nat.mul_add, Nat.mul_assoc]; omega
 rw [e, AK]
theorem jH (a : ByteArray) (w : World) (ha : a.size ≤ 1000000000) (hT : eP w) :
  Calls Tryz.prog 223 #[.string a] w fun e w' => e = .returned (.int .i64 (tz (bN a))) ∧ Below w.heap.size w w' := by
 have hh := Hp.start w;have h1 := fV a;refine al (N := 21) (l := [.string a]) Tryz.func223 rfl rfl (by simp) ?_;refine sr (aI (aa (ah (sr (mS ?_)))));refine aN (dN a _ ha) aw.out rfl Kz ?_;rintro e_ w6 ⟨A6, c6, rfl, hown_, hb_⟩;refine ⟨_, rfl, ?_⟩;replace hh := hh.bz (x := .row _ _ _ _ _ _) hb_ hown_;have hxd := gC (bN a);have hX := gu (bN a);generalize bo 18446744073709551616 (bN a) = xs at *;refine aW (mI (aa (aj ?_)));refine bm [2, 3, 4, 8, 9, 10, 11, 12, 13, 14, 15, 16, 17, 18, 19, 20] 8
  (fun v w' => ∃ (i : Nat), i ≤ xs.length ∧ v = .int .i64 i ∧ bL 18446744073709551616 (xs.take i) = 0 ∧ Hp w [.row (some ⟨A6, 0, none⟩) xs.length c6 221 1 (dp xs)] w')
  (fun v _ => xs.length - (intOf v).toNat) ?_ ?_
 ·exact ⟨0, Nat.zero_le _, rfl, rfl, hh⟩
 ·clear hh;rintro ρ' v w' ⟨i, hi, rfl, hz, hh⟩;by_cases hlt : i < xs.length
  ·obtain ⟨d, hm⟩ := ay (l := xs) (k := i) Ky;have hm2 := eH hm;have hmw := hxd.at_ hm;by_cases h0 : d = 0
   ·subst h0;refine sr ?_;refine aK (aa (ah (cT (ak (ai (ah (aj (sr (mI ?_)))))))));refine bf (k := i) aQ.out aF.size rfl rfl Ky Ky Kz ?_;refine aZ aF.out rfl (hh.cN (i := 0) rfl (by first | assumption | (simp only [Nat.mul_one]; assumption))) Kz ?_;refine aI (aI (aa (sr (mI ?_))));refine cL (aa (cF (ak (aP (ai (aq ?_))))));refine bB (mI (aE (ai ?_)));refine ⟨⟨i + 1, Ky, rfl, by rw [fF hm, hz]; simp, hh⟩, by show xs.length - (i + 1) < xs.length - i; omega, ?_⟩;exact KB
   ·have htz : tz (bN a) = 64 * i + tz d := by
     have h3 := iP (B := 18446744073709551616) xs i Ky;have h4 := (List.getElem?_eq_some_iff.1 hm);rw [hz, List.drop_eq_getElem_cons hlt, h4.2, bL, hX, Nat.zero_add] at h3;exact E3 h0 hmw h3
    have ht : tz d < 64 := ta h0 (by simpa using hmw);refine sr ?_;refine aK (aa (ah (cT (ak (ai (ah (aj (sr (mI ?_)))))))));refine bf (k := i) aQ.out aF.size rfl rfl Ky Ky Kz ?_;refine aZ aF.out rfl (hh.cN (i := 0) rfl (by first | assumption | (simp only [Nat.mul_one]; assumption))) Kz ?_;refine aI (aI (aa (sr (mI ?_))));refine cL (aa (cT (sr (mI ?_))));refine mulC (mI ?_);refine bE hh (y5 _ _ hmw h0 (hT.hp hh)) rfl ?_;intro w18 hh;refine bB (aI (aa (ao (bD (aG (aG (bD (aG ?_))))))));refine cq ?_;refine ⟨?_, hh.below⟩;congr 2;omega
  ·refine sr ?_;refine aK (aa (ah (cF (aJ (az (az (aX (ai (sr (aI (aa (ao ?_))))))))))));refine cq ?_;rw [List.take_of_length_le Ky, hX] at hz;rw [hz];exact ⟨rfl, hh.below⟩
theorem EV {x y k : Nat} (hx : x < 18446744073709551616 ^ k) (hy : y < 18446744073709551616 ^ k) : bL 18446744073709551616 (gD 18446744073709551616 (bo 18446744073709551616 x ++ List.replicate (k + 1 - (bo 18446744073709551616 x).length) 0) (bo 18446744073709551616 y) 1 0) = x + y := by
 have hl := g8 (B := 18446744073709551616) Ky hx;have h1 : bL 18446744073709551616 (bo 18446744073709551616 x ++ List.replicate (k + 1 - (bo 18446744073709551616 x).length) 0) = x := by rw [eQ, oG, gu]; simp
 have h2 : (bo 18446744073709551616 x ++ List.replicate (k + 1 - (bo 18446744073709551616 x).length) 0).length = k + 1 := by rw [List.length_append, List.length_replicate]; omega
 rw [ti Ky, h1, gu]
 ·omega
 ·rw [h1, h2, gu, Nat.pow_succ];have : 0 < 18446744073709551616 ^ k := Nat.pow_pos Kz;omega
theorem oI (l : List Nat) (x : Nat) : (l ++ [x]).sum = l.sum + x := by simp
theorem uX (L : Option Addr) (n c : Nat) (ss : List ByteArray) (w : World) (hS : Sl w L n 1 (vO ss)) (hn : n ≤ 1000000) (hs : ∀ s ∈ ss, s.size ≤ 1000000000) :
  Calls Tryz.prog 256 #[.slice L n c] w fun e w' => e = .returned (.string (sN (ss.map bN).sum)) ∧ Below w.heap.size w w' := by
 have hsl : ss.length = n := by have := hS.1; rw [pK] at this; omega
 have hh := Hp.start w;refine al (N := 31) (l := [.slice L n c]) Tryz.func256 rfl rfl (by simp) ?_;refine sr (aS (aa (sr (aL (aa (ah (sr (mL (aW (mI (aa (aj ?_))))))))))));replace hh := hh.ef 221 1;refine cv [3, 5, 6, 9, 10, 11, 12, 13, 14, 15, 16, 17, 18, 19, 20, 21, 22, 23, 24, 25, 26, 27, 28] 3 9
  (fun v j w' => ∃ (i : Nat) (A : Option Addr) (c' T : Nat), i ≤ n ∧ j = .int .i64 i ∧ T = ((ss.take i).map bN).sum ∧ v = .slice A (bo 18446744073709551616 T).length c' ∧ (bo 18446744073709551616 T).length ≤ 125000001 + i ∧ Hp w [.row A (bo 18446744073709551616 T).length c' 221 1 (dp (bo 18446744073709551616 T))] w')
  (fun _ j _ => n - (intOf j).toNat) ?_ ?_
 ·exact ⟨0, none, 0, 0, Nat.zero_le _, rfl, rfl, by rw [gj Ky]; rfl, by rw [gj Ky]; simp, by rw [gj Ky]; exact hh⟩
 ·clear hh;rintro ρ' v j w' ⟨i, A, c', T, hi, rfl, hT, rfl, hTl, hh⟩;by_cases hlt : i < n
  ·obtain ⟨s, hsi⟩ := ay (l := ss) (k := i) Ky;obtain ⟨ad, rfl, hr⟩ := hS.at_ Ky;have hs2 := Ah hsi;have hsz := hs s (List.mem_of_getElem? hsi);have hlx := fV s;have hT2 : ((ss.take (i + 1)).map bN).sum = T + bN s := by rw [aH hsi, List.map_append, List.map_singleton, oI, hT]
   have e1 : (if ((bo 18446744073709551616 (bN s)).length : Int) > ((bo 18446744073709551616 T).length : Int) then ((bo 18446744073709551616 (bN s)).length : Int) else ((bo 18446744073709551616 T).length : Int)) + 1 = ((max (bo 18446744073709551616 T).length (bo 18446744073709551616 (bN s)).length + 1 : Nat) : Int) := by split <;> omega
   have hb1 : T < 18446744073709551616 ^ max (bo 18446744073709551616 T).length (bo 18446744073709551616 (bN s)).length := Nat.lt_of_lt_of_le (lY Ky T) (Nat.pow_le_pow_right Kz (Nat.le_max_left _ _));have hb2 : bN s < 18446744073709551616 ^ max (bo 18446744073709551616 T).length (bo 18446744073709551616 (bN s)).length := Nat.lt_of_lt_of_le (lY Ky (bN s)) (Nat.pow_le_pow_right Kz (Nat.le_max_right _ _));have hadd := EV hb1 hb2;refine sr ?_;refine aK (aa (ah (cT (ak (ai (ah (aj (sr ?_))))))));refine aD aQ.out aF.size rfl rfl rfl Ky Kz ?_;refine aZ aF.out rfl ((hr.ext hh.below).fP (by assumption)) Kz ?_;refine aS (aa (sr (mS ?_)));refine aN (dN s _ hsz) aw.out rfl Kz ?_;rintro e_ w14 ⟨A14, c14, rfl, hown_, hb_⟩;refine ⟨_, rfl, ?_⟩;replace hh := hh.bz (x := .row _ _ _ _ _ _) hb_ hown_;refine aL (aa (sr (mL (mL (aW (mL (aW ?_)))))));refine kq rfl rfl Kz ?_;refine bB ?_;rw [e1];generalize hM : max (bo 18446744073709551616 T).length (bo 18446744073709551616 (bN s)).length = M at *;refine aN (mD _ _ _ (M + 1) _ _ (hh.aM (i := 1) rfl) Ky Ky) aw.out rfl Kz ?_;rintro e_ w_ ⟨b22, rfl, hown_, hb_⟩;refine ⟨_, rfl, ?_⟩;replace hh := hh.bz (x := .row _ _ _ _ _ _) hb_ hown_
   have e2 : max (M + 1) (bo 18446744073709551616 T).length = M + 1 := Ky;rw [e2] at hh;rw [e2];refine aL (aa (sr (mL (mL ?_))));have hc := zq (c' := M + 1) (ny := (bo 18446744073709551616 (bN s)).length) (cy := c14) (Y := some ⟨A14, 0, none⟩) [] (bo 18446744073709551616 T ++ List.replicate (M + 1 - (bo 18446744073709551616 T).length) 0) [] (bo 18446744073709551616 (bN s)) _ (by rw [List.append_nil, List.nil_append]; exact hh) (fun w1 cs h => h.aM (i := 1) rfl) ((gC _).append (Dg.eN Ky _)) (gC _) (by rw [List.length_append, List.length_replicate]; omega) Ky;have e3 : (bo 18446744073709551616 T ++ List.replicate (M + 1 - (bo 18446744073709551616 T).length) 0).length = M + 1 := by rw [List.length_append, List.length_replicate]; omega
   rw [e3, List.append_nil, List.nil_append] at hc;refine aN (hc) aw.out rfl Kz ?_;rintro e_ w_ ⟨rfl, hh⟩;refine ⟨_, rfl, ?_⟩;have hpl : (gD 18446744073709551616 (bo 18446744073709551616 T ++ List.replicate (M + 1 - (bo 18446744073709551616 T).length) 0) (bo 18446744073709551616 (bN s)) 1 0).length = M + 1 := by rw [nE, e3]
   have hpd := wx (B := 18446744073709551616) Ky (bo 18446744073709551616 T ++ List.replicate (M + 1 - (bo 18446744073709551616 T).length) 0) (bo 18446744073709551616 (bN s)) 1 0;generalize gD 18446744073709551616 (bo 18446744073709551616 T ++ List.replicate (M + 1 - (bo 18446744073709551616 T).length) 0) (bo 18446744073709551616 (bN s)) 1 0 = Z at *;have hcz : ej Z = bo 18446744073709551616 (T + bN s) := by rw [fH Ky hpd, hadd]
   have hcl := fB Z;refine aa (aq (mL ?_));refine bE hh (g6 _ _ _ Z _ (hh.aM (i := 0) rfl) (Nat.le_refl _) Ky) rfl ?_;intro w27 hh;replace hh := (hh.Al hpl).sub (List.sublist_append_left [_] _);rw [hcz] at *;refine aL (aE (aP (ai (aq ?_))));refine bB (mI (aE (ai ?_)));refine ⟨⟨i + 1, _, _, T + bN s, Ky, rfl, hT2.symm, rfl, Ky, hh⟩, by show n - (i + 1) < n - i; omega, ?_⟩;exact KB
  ·refine sr ?_;refine aK (aa (ah (cF (aJ (az (az (aX (ai (sr (mL ?_))))))))));refine bE hh (g7 _ _ _ (bo 18446744073709551616 T) _ (hh.aM (i := 0) rfl) (gC _) (hh.ee (i := 0) rfl) Ky) rfl ?_;intro w30 hh;rw [gu];refine aS (aa (ao ?_));refine cq ?_;rw [List.take_of_length_le Ky] at hT;rw [hT];exact ⟨rfl, hh.below⟩
end Go.Proofs.YtaapkaefelhfcaaGreatDoor
namespace Go.Proofs.YtaapkaefelhfcaaGreatDoor
open Go.RowKit
theorem x9 (s : ByteArray) (l h : Nat) : s.extract l h = str ((s.data.toList.take h).drop l) := by
 apply uS;rw [fj];simp [ByteArray.extract, ByteArray.copySlice, List.drop_take]
def G3 : Value → Nat
 | .string t => t.size
 | _ => 0
theorem rW (s : ByteArray) (w : World) :
  Calls Tryz.prog 290 #[.string s, .int .u8 ((0 : UInt8).toNat : Int)] w fun e w' => e = .returned (.string (sN (bN s))) ∧ Below w.heap.size w w' := by
 have hh := Hp.start w;refine al (N := 17) (l := [.string s, .int .u8 ((0 : UInt8).toNat : Int)]) Tryz.func290 rfl rfl (by simp) ?_;refine sr (aS (aa (ah (aj ?_))));refine bm [0, 5, 6, 7, 8, 9, 10, 11, 12, 13, 14, 15] 0
  (fun v w' => ∃ l : List UInt8, v = .string (str l) ∧ l.length ≤ s.size ∧ bn l = bN s ∧ w' = w)
  (fun v _ => G3 v) ?_ ?_
 ·exact ⟨s.data.toList, by rw [Hu]; rfl, by rw [eF]; exact Nat.le_refl _, rfl, rfl⟩
 ·rintro ρ' v w' ⟨l, rfl, hl, hb, rfl⟩;have hsz := lu l
  cases l with
  | nil =>
   refine ah (sr (mS ?_));refine bW aQ.out rfl Kz ?_;refine ct (mB ?_);refine gS (gS (gS (gS ?_)));refine eX ?_;refine aa (cF (aJ (az (az (aX (ai (sr (mS (aS (aa (ao ?_)))))))))));refine cq ?_;rw [sN, ← hb];exact ⟨rfl, hh.below⟩
  | cons c l =>
   have hc0 : (str (c :: l)).data.toList[(0 : Int).toNat]? = some c := by rw [fj]; rfl
   have hc8 := c.toNat_lt;have hlen : (str (c :: l)).size = l.length + 1 := by rw [hsz]; rfl
   have hz : (0 : UInt8).toNat = 0 := rfl;by_cases h0 : c = 0
   ·subst h0;refine ah (sr (mS ?_));refine bW aQ.out rfl Kz ?_;refine ct (mB (gT (mS (gT ?_))));refine bY aQ.out rfl rfl Ky (by assumption) Kz ?_;refine gT (mI (gT ?_));refine dh ?_;refine e7 ?_;refine aa (cT (ak (ai (aj (aq (mS ?_))))));refine pM (l := 1) (h := (str ((0 : UInt8) :: l)).size) aQ.out rfl ⟨_, _, rfl, Ky⟩ rfl Ky Ky Kz ?_;refine aS (aE (aP (ai ?_)));rw [x9, fj, List.take_of_length_le (by rw [hlen]; simp), List.drop_succ_cons, List.drop_zero];refine ⟨⟨l, rfl, by simp at hl; omega, by rw [← hb, CE], rfl⟩, ?_, ?_⟩
    ·show (str l).size < (str (0 :: l)).size;rw [hlen, lu]; omega
    exact KB
   ·have hcn : c.toNat ≠ 0 := fun h => h0 (UInt8.toNat_inj.1 h);refine ah (sr (mS ?_));refine bW aQ.out rfl Kz ?_;refine ct (mB (gT (mS (gT ?_))));refine bY aQ.out rfl rfl Ky (by assumption) Kz ?_;refine gT (mI (gT ?_));refine dh ?_;refine e7 ?_;refine aa (cF (aJ (az (az (aX (ai (sr (mS (aS (aa (ao ?_)))))))))));refine cq ?_;rw [sN, ← hb, IB (by simpa using h0)];exact ⟨rfl, hh.below⟩
theorem sc (s : ByteArray) (w : World) :
  Calls Tryz.prog 281 #[.string s, .string (ByteArray.mk #[0])] w fun e w' => e = .returned (.string (sN (bN s))) ∧ Below w.heap.size w w' := by
 have hh := Hp.start w;have hne : ¬ ByteArray.mk #[(0 : UInt8)] = ByteArray.mk #[] := by intro h; injection h with h; simp at h
 have hsz1 : (ByteArray.mk #[(0 : UInt8)]).size = 1 := rfl;have hc0 : (ByteArray.mk #[(0 : UInt8)]).data.toList[(0 : Int).toNat]? = some 0 := rfl;have hz : (0 : UInt8).toNat = 0 := rfl;by_cases h0 : s = ByteArray.mk #[]
 ·subst h0;refine al (N := 37) (l := [.string (ByteArray.mk #[]), .string (ByteArray.mk #[0])]) Tryz.func281 rfl rfl (by simp) ?_;refine sr (aS (aa (ah (sr (mS ?_)))));refine j8 rfl rfl (by first | rfl | assumption | decide) Kz ?_;refine mB ?_;refine gS (gS ?_);refine e7 ?_;refine aa (cT (sr (mS (aS (aa (ao (aG ?_)))))));refine cq ?_;rw [show bN (ByteArray.mk #[]) = 0 from rfl, jw];exact ⟨rfl, hh.below⟩
 ·refine al (N := 37) (l := [.string s, .string (ByteArray.mk #[0])]) Tryz.func281 rfl rfl (by simp) ?_;refine sr (aS (aa (ah (sr (mS ?_)))));refine j3 rfl rfl (by first | assumption | decide) Kz ?_;refine mB (gT (mS (gT ?_)))
  (first | refine j8 rfl rfl (by first | rfl | assumption | decide) Kz ?_ | refine j3 rfl rfl (by first | assumption | decide) Kz ?_)
  refine eX ?_;refine aa (cF (ak (ai (ah (sr (mS ?_))))));refine bW aQ.out rfl Kz ?_;refine dh (mB (gT (mS (gT ?_))));refine bY aQ.out rfl rfl Ky (by assumption) Kz ?_;refine gT ?_;refine aK ?_;refine e7 ?_;refine aa (cT (sr (mS (mS ?_))));refine bY aQ.out rfl rfl Ky (by assumption) Kz ?_;refine bE hh (rW s _) rfl ?_;intro w25 hh;refine aS (aa (ao (aG ?_)));refine cq ?_;exact ⟨rfl, hh.below⟩
theorem ka (s : ByteArray) (w : World) :
  Calls Tryz.prog 259 #[.string s] w fun e w' => e = .returned (.string (sN (bN s))) ∧ Below w.heap.size w w' := by
 have hh := Hp.start w;refine al (N := 5) (l := [.string s]) Tryz.func259 rfl rfl (by simp) ?_;refine sr (aS (aa (sr (mS ?_))));refine bE hh (sc s _) rfl ?_;intro w4 hh;refine aS (aa (ao ?_));refine cq ?_;exact ⟨rfl, hh.below⟩
end Go.Proofs.YtaapkaefelhfcaaGreatDoor
/- Several texts in one: Whole, WholeB, WholeC, Dy. -/
namespace Go.Proofs.YtaapkaefelhfcaaGreatDoor
open Go.RowKit
def iv (s : Bool) (m : ByteArray) : Int := if s then -(bN m : Int) else bN m
def iN (z : Int) : Bool := decide (z < 0)
def iM (z : Int) : ByteArray := sN z.natAbs
theorem fL (z : Int) : iv (iN z) (iM z) = z := by
 unfold iv iN iM;rw [fg];by_cases h : z < 0
 ·rw [decide_eq_true h, if_pos rfl]; omega
 ·rw [decide_eq_false h, if_neg (by simp)]; omega
theorem qd {z : Int} : iM z = ByteArray.mk #[] ↔ z = 0 := by
 rw [iM, ← jw];constructor
 ·intro h; have := yP h; omega
 ·intro h; rw [h]; rfl
theorem jI (s : Bool) (m : ByteArray) : (iv s m).natAbs = bN m := by
 unfold iv; split <;> omega
theorem AU (s : Bool) (m : ByteArray) : iM (iv s m) = sN (bN m) := by rw [iM, jI]
theorem GH (s : Bool) (m : ByteArray) : iN (iv s m) = (s && decide (bN m ≠ 0)) := by
 unfold iN iv;rw [Bool.eq_iff_iff, Bool.and_eq_true, decide_eq_true_eq, decide_eq_true_eq]
 cases s
 ·simp only [Bool.false_eq_true, if_false, false_and, iff_false]; omega
 ·simp only [if_true, true_and]; omega
theorem l5 (s : Bool) (m : ByteArray) (w : World) :
  Calls Tryz.prog 226 #[.agg #[.bool s, .string m]] w fun e w' => e = .returned (.agg #[.string m, .bool s]) ∧ Below w.heap.size w w' := by
 have hh := Hp.start w;refine al (N := 8) (l := [.agg #[.bool s, .string m]]) Tryz.func226 rfl rfl (by simp) ?_;refine sr ?_;refine db hh [_,_] ?_;intro b1 w1 hh;refine cB hh ?_;intro b2 w2 hh;refine aa (sr (bP ?_));refine bR hh 1 ?_;refine bP ?_;refine bR hh 1 ?_;refine e9 [_,_] ?_;refine bK hh 0 [_,_] ?_;intro ws hh;replace hh : Hp _ (.blk _ _ [_, _] _ :: _) _ := hh;refine aa (ao ?_);refine iZ (aT rfl (aU (vs := [_, _]) aF.out (hh.aC (i := 0) (n := 2) rfl rfl) rfl) bq) ?_;exact ⟨rfl, hh.below⟩
theorem dV (s : Bool) (m : ByteArray) (w : World) :
  Calls Tryz.prog 227 #[.agg #[.string m, .bool s]] w fun e w' => e = .returned (.agg #[.bool (iN (iv s m)), .string (iM (iv s m))]) ∧ Below w.heap.size w w' := by
 have hh := Hp.start w;rw [GH, AU]
 cases s with
 | false =>
  refine al (N := 15) (l := [.agg #[.string m, .bool false]]) Tryz.func227 rfl rfl (by simp) ?_;refine sr ?_;refine db hh [_,_] ?_;intro b1 w1 hh;refine cB hh ?_;intro b2 w2 hh;refine aa (sr (bP ?_));refine bR hh 1 ?_;refine bE hh (ka m _) rfl ?_;intro w6 hh;refine aS (aa (sr (bP ?_)));refine bR hh 1 ?_;refine mB ?_;refine gS (gS ?_);refine eX ?_;refine mS ?_;refine e9 [_,_] ?_;refine bK hh 0 [_,_] ?_;intro ws hh;replace hh : Hp _ (.blk _ _ [_, _] _ :: _) _ := hh;refine aa (ao ?_);refine iZ (aT rfl (aU (vs := [_, _]) aF.out (hh.aC (i := 0) (n := 2) rfl rfl) rfl) bq) ?_;exact ⟨rfl, hh.below⟩
 | true =>
  by_cases h0 : sN (bN m) = ByteArray.mk #[]
  ·refine al (N := 15) (l := [.agg #[.string m, .bool true]]) Tryz.func227 rfl rfl (by simp) ?_;refine sr ?_;refine db hh [_,_] ?_;intro b1 w1 hh;refine cB hh ?_;intro b2 w2 hh;refine aa (sr (bP ?_));refine bR hh 1 ?_;refine bE hh (ka m _) rfl ?_;intro w6 hh;refine aS (aa (sr (bP ?_)));refine bR hh 1 ?_;refine mB (gT (mS (gT ?_)))
   (first | refine j6 rfl rfl (by first | rfl | assumption | decide) Kz ?_ | refine j4 rfl rfl (by first | assumption | decide) Kz ?_)
   refine e7 ?_;refine mS ?_;refine e9 [_,_] ?_;refine bK hh 0 [_,_] ?_;intro ws hh;replace hh : Hp _ (.blk _ _ [_, _] _ :: _) _ := hh;refine aa (ao ?_);refine iZ (aT rfl (aU (vs := [_, _]) aF.out (hh.aC (i := 0) (n := 2) rfl rfl) rfl) bq) ?_;have h1 : bN m = 0 := by rw [← jw] at h0; exact yP h0
   rw [decide_eq_false Ky];exact ⟨rfl, hh.below⟩
  ·refine al (N := 15) (l := [.agg #[.string m, .bool true]]) Tryz.func227 rfl rfl (by simp) ?_;refine sr ?_;refine db hh [_,_] ?_;intro b1 w1 hh;refine cB hh ?_;intro b2 w2 hh;refine aa (sr (bP ?_));refine bR hh 1 ?_;refine bE hh (ka m _) rfl ?_;intro w6 hh;refine aS (aa (sr (bP ?_)));refine bR hh 1 ?_;refine mB (gT (mS (gT ?_)))
   (first | refine j6 rfl rfl (by first | rfl | assumption | decide) Kz ?_ | refine j4 rfl rfl (by first | assumption | decide) Kz ?_)
   refine e7 ?_;refine mS ?_;refine e9 [_,_] ?_;refine bK hh 0 [_,_] ?_;intro ws hh;replace hh : Hp _ (.blk _ _ [_, _] _ :: _) _ := hh;refine aa (ao ?_);refine iZ (aT rfl (aU (vs := [_, _]) aF.out (hh.aC (i := 0) (n := 2) rfl rfl) rfl) bq) ?_;have h1 : bN m ≠ 0 := fun h => h0 (by rw [h, jw]);rw [decide_eq_true h1];exact ⟨rfl, hh.below⟩
def Kk (s : Bool) (m : ByteArray) : Value := .agg #[.string m, .bool s]
theorem rQ (a b : ByteArray) (w : World) (ha : a.size ≤ 1000000000) (hb : b.size ≤ 1000000000) :
  Calls Tryz.prog 257 #[.string a, .string b] w fun e w' => e = .returned (.int .i64 (kC (bN a) (bN b))) ∧ Below w.heap.size w w' := by
 have hh := Hp.start w;refine al (N := 8) (l := [.string a, .string b]) Tryz.func257 rfl rfl (by simp) ?_;refine sr (aI (aa (sr (mS (mS ?_)))));refine bE hh (vi a b _ ha hb) rfl ?_;intro w7 hh;refine aI (aa (ao ?_));refine cq ?_;exact ⟨rfl, hh.below⟩
theorem lk (s : Bool) (m : ByteArray) (w : World) :
  Calls Tryz.prog 249 #[.agg #[.bool s, .string m]] w fun e w' => e = .returned (.agg #[.bool (iN (iv s m)), .string (iM (iv s m))]) ∧ Below w.heap.size w w' := by
 have hh := Hp.start w;refine al (N := 6) (l := [.agg #[.bool s, .string m]]) Tryz.func249 rfl rfl (by simp) ?_;refine sr ?_;refine db hh [_,_] ?_;intro b1 w1 hh;refine cB hh ?_;intro b2 w2 hh;refine aa (sr ?_);refine cR hh 1 [_,_] ?_;refine bE hh (l5 s m _) rfl ?_;intro w4 hh;refine bE hh (dV s m _) rfl ?_;intro w5 hh;refine bK hh 0 [_,_] ?_;intro ws hh;replace hh : Hp _ (.blk _ _ [_, _] _ :: _) _ := hh;refine aa (ao ?_);refine iZ (aT rfl (aU (vs := [_, _]) aF.out (hh.aC (i := 0) (n := 2) rfl rfl) rfl) bq) ?_;exact ⟨rfl, hh.below⟩
theorem rT (s : Bool) (m : ByteArray) (w : World) :
  Calls Tryz.prog 214 #[.agg #[.bool s, .string m]] w fun e w' => e = .returned (.agg #[.bool (iN (-(iv s m))), .string (iM (-(iv s m)))]) ∧ Below w.heap.size w w' := by
 have hh := Hp.start w;have e1 : iv (!s) m = -(iv s m) := by unfold iv; cases s <;> simp
 refine al (N := 10) (l := [.agg #[.bool s, .string m]]) Tryz.func214 rfl rfl (by simp) ?_;refine sr ?_;refine db hh [_,_] ?_;intro b1 w1 hh;refine cB hh ?_;intro b2 w2 hh;refine aa (sr (bP ?_));refine bR hh 1 ?_;refine bP ?_;refine bR hh 1 ?_;refine g9 ?_;refine e9 [_,_] ?_;refine bE hh (dV (!s) m _) rfl ?_;intro w9 hh;rw [e1];refine bK hh 0 [_,_] ?_;intro ws hh;replace hh : Hp _ (.blk _ _ [_, _] _ :: _) _ := hh;refine aa (ao ?_);refine iZ (aT rfl (aU (vs := [_, _]) aF.out (hh.aC (i := 0) (n := 2) rfl rfl) rfl) bq) ?_;exact ⟨rfl, hh.below⟩
theorem j5 (s : Bool) (m : ByteArray) (w : World) :
  Calls Tryz.prog 222 #[.agg #[.bool s, .string m]] w fun e w' => e = .returned (.int .i64 (iv s m).sign) ∧ Below w.heap.size w w' := by
 have hh := Hp.start w;by_cases h1 : iv s m < 0
 ·have hn : iN (iv s m) = true := decide_eq_true h1;refine al (N := 13) (l := [.agg #[.bool s, .string m]]) Tryz.func222 rfl rfl (by simp) ?_;refine sr ?_;refine db hh [_,_] ?_;intro b1 w1 hh;refine aI (aa (sr ?_));refine cR hh 0 [_,_] ?_;refine bE hh (lk s m _) rfl ?_;intro w5 hh;rw [hn];refine cB hh ?_;intro b3 w3 hh;refine bK hh 0 [_,_] ?_;intro ws hh;replace hh : Hp _ (.blk _ _ [_, _] _ :: _) _ := hh;refine aa (ah (aj (sr (bP ?_))));refine bR hh 0 ?_;refine aB (aa (cT (sr (aI (aa (ao (bD (aG ?_))))))));refine cq ?_;exact ⟨by rw [Int.sign_eq_neg_one_of_neg h1], hh.below⟩
 ·have hn : iN (iv s m) = false := decide_eq_false h1;by_cases h0 : iM (iv s m) = ByteArray.mk #[]
  ·refine al (N := 13) (l := [.agg #[.bool s, .string m]]) Tryz.func222 rfl rfl (by simp) ?_;refine sr ?_;refine db hh [_,_] ?_;intro b1 w1 hh;refine aI (aa (sr ?_));refine cR hh 0 [_,_] ?_;refine bE hh (lk s m _) rfl ?_;intro w5 hh;rw [hn];refine cB hh ?_;intro b3 w3 hh;refine bK hh 0 [_,_] ?_;intro ws hh;replace hh : Hp _ (.blk _ _ [_, _] _ :: _) _ := hh;refine aa (ah (aj (sr (bP ?_))));refine bR hh 0 ?_;refine aB (aa (cF (sr (bP ?_))));refine bR hh 0 ?_;refine j8 rfl rfl (by first | rfl | assumption | decide) Kz ?_;refine aB (aa (cT (sr (aI (aa (ao (bD (aG ?_))))))));refine cq ?_;exact ⟨by rw [qd.1 h0]; rfl, hh.below⟩
  ·have h2 : 0 < iv s m := by
    have : iv s m ≠ 0 := fun h => h0 (qd.2 h);omega
   refine al (N := 13) (l := [.agg #[.bool s, .string m]]) Tryz.func222 rfl rfl (by simp) ?_;refine sr ?_;refine db hh [_,_] ?_;intro b1 w1 hh;refine aI (aa (sr ?_));refine cR hh 0 [_,_] ?_;refine bE hh (lk s m _) rfl ?_;intro w5 hh;rw [hn];refine cB hh ?_;intro b3 w3 hh;refine bK hh 0 [_,_] ?_;intro ws hh;replace hh : Hp _ (.blk _ _ [_, _] _ :: _) _ := hh;refine aa (ah (aj (sr (bP ?_))));refine bR hh 0 ?_;refine aB (aa (cF (sr (bP ?_))));refine bR hh 0 ?_;refine j3 rfl rfl (by first | assumption | decide) Kz ?_;refine aB (aa (cF (ak (aP (ai (sr (aI (aa (ao ?_)))))))));refine cq ?_;exact ⟨by rw [Int.sign_eq_one_of_pos h2], hh.below⟩
theorem eU (z : Int) : (iM z).size = (bU z.natAbs + 7) / 8 := jU _
def te (s t : Bool) (a b : ByteArray) : Bool := if s = t then s else if bN a < bN b then t else s
theorem Fa (s t : Bool) (a b : ByteArray) : iv (te s t a b) (iM (iv s a + iv t b)) = iv s a + iv t b := by
 unfold iM iv;rw [fg];unfold te
 cases s <;> cases t <;> simp <;> (try split) <;> (try simp) <;> omega
theorem En (s t : Bool) (a b : ByteArray) : iv (s != t) (iM (iv s a * iv t b)) = iv s a * iv t b := by
 rw [iM, Int.natAbs_mul, jI, jI];unfold iv;rw [fg]
 cases s <;> cases t <;> simp [Int.mul_neg, Int.neg_mul]
theorem wv (s t : Bool) (a b : ByteArray) (w : World) (ha : a.size ≤ 1000000000) (hb : b.size ≤ 1000000000) :
  Calls Tryz.prog 225 #[.agg #[.string a, .bool s], .agg #[.string b, .bool t]] w fun e w' => e = .returned (.agg #[.string (iM (iv s a + iv t b)), .bool (te s t a b)]) ∧ Below w.heap.size w w' := by
 have hh := Hp.start w;have hiv : ∀ (u : Bool) (n : Nat) (z : Int), (z = if u then -(n : Int) else n) → sN n = iM z := by
  intro u n z hz;have h1 : z.natAbs = n := by rw [hz]; split <;> omega
  rw [iM, h1]
 by_cases hst : s = t
 ·subst hst;have e1 := hiv s (bN a + bN b) (iv s a + iv s b) (by unfold iv; split <;> omega);refine al (N := 41) (l := [.agg #[.string a, .bool s], .agg #[.string b, .bool s]]) Tryz.func225 rfl rfl (by simp) ?_;refine sr ?_;refine db hh [_,_] ?_;intro b2 w2 hh;refine db hh [_,_] ?_;intro b3 w3 hh;refine cB hh ?_;intro b4 w4 hh;refine aa (ah (sr (bP ?_)));refine bR hh 2 ?_;refine bP ?_;refine bR hh 1 ?_;refine Aj aQ.out rfl rfl (by first | rfl | assumption) Kz ?_;refine aa (cT (ah ?_));refine a8 8 [[(2, none)], [(12, some 0)], [(3, none)], [(14, some 2)], [(13, some 1), (15, some 3)], [(16, some 4)], [(2, none)], [(18, some 6)]] [(7, 19), (6, 18), (5, 17), (4, 16), (3, 15), (2, 14), (1, 13), (0, 12)] hh mixed KA ?_;refine eA ?_;refine fQ 2 ?_;refine eA ?_;refine fQ 1 ?_;refine xw [_,_] ?_;refine cH (i := 5) (Is (.string (sN (bN a + bN b)))) Is.ext ?_ ?_
  ·intro ρ1 w1 hj hR;obtain ⟨A16, c16, h16, s16⟩ := hR.1;exact du rfl (bX aw.out (a7 h16 bQ)) (uX A16 2 c16 [a, b] _ s16 Ky (by simp; omega)) (fun _ _ hq => ⟨_, hq.1, hq.2, rfl⟩)
  refine eA ?_;refine fQ 2 ?_;refine bA ?_;intro f W hJ hV;have hb_2 := hJ.bl;obtain ⟨v19, v18, v17, v16, v15, v14, v13, v12, _⟩ := hV;obtain ⟨A16, c16, e16, f16⟩ : Rows _ _ _ (f 4) W := v16;replace hh := hJ.hp;refine bj (bC (ae v19 (ae v18 (ae v17 (ae e16 (ae v15 (ae v14 (ae v13 (ae v12 bh))))))))) ?_;dsimp only [cP];clear e16 hJ;refine e9 [_,_] ?_;refine bK hh 0 [_,_] ?_;intro ws hh;replace hh : Hp _ (.blk _ _ [_, _] _ :: _) _ := hh;refine aa (ao (aG ?_));refine iZ (aT rfl (aU (vs := [_, _]) aF.out (hh.aC (i := 0) (n := 2) rfl rfl) rfl) bq) ?_;rw [e1, te, if_pos rfl];exact ⟨rfl, hh.below⟩
 ·by_cases hlt : bN a < bN b
  ·have e1 := hiv t (bN b - bN a) (iv s a + iv t b) (by unfold iv; cases s <;> cases t <;> simp at hst ⊢ <;> omega);refine al (N := 41) (l := [.agg #[.string a, .bool s], .agg #[.string b, .bool t]]) Tryz.func225 rfl rfl (by simp) ?_;refine sr ?_;refine db hh [_,_] ?_;intro b2 w2 hh;refine db hh [_,_] ?_;intro b3 w3 hh;refine cB hh ?_;intro b4 w4 hh;refine aa (ah (sr (bP ?_)));refine bR hh 2 ?_;refine bP ?_;refine bR hh 1 ?_;refine qa aQ.out rfl rfl (by first | rfl | assumption | decide) Kz ?_;refine aa (cF (ak (ai (ah (sr (bP ?_))))));refine bR hh 2 ?_;refine bP ?_;refine bR hh 1 ?_;refine bE hh (rQ a b _ ha hb) rfl ?_;intro w25 hh;rw [kY hlt];refine aK (aa (cT (aq ?_)));refine cR hh 1 [_,_] ?_;refine cR hh 2 [_,_] ?_;refine bK hh 2 [_,_] ?_;intro ws hh;replace hh : Hp _ (_ :: _ :: .blk _ _ [_, _] _ :: _) _ := hh;refine bK hh 1 [_,_] ?_;intro ws hh;replace hh : Hp _ (_ :: .blk _ _ [_, _] _ :: _) _ := hh;refine aa (sr (bP ?_));refine bR hh 2 ?_;refine bP ?_;refine bR hh 1 ?_;refine bE hh (ni b a _ hb ha) rfl ?_;intro w34 hh;refine mT ?_;refine dI ?_;refine dI ?_;refine aS (aB (aa (sr (mS (bP ?_)))));refine bR hh 2 ?_;refine e9 [_,_] ?_;refine bK hh 0 [_,_] ?_;intro ws hh
   replace hh : Hp _ (.blk _ _ [_, _] _ :: _) _ := hh;refine aa (ao ?_);refine iZ (aT rfl (aU (vs := [_, _]) aF.out (hh.aC (i := 0) (n := 2) rfl rfl) rfl) bq) ?_;rw [e1, te, if_neg hst, if_pos hlt];exact ⟨rfl, hh.below⟩
  ·have e1 := hiv s (bN a - bN b) (iv s a + iv t b) (by unfold iv; cases s <;> cases t <;> simp at hst ⊢ <;> omega);have hc : ¬ kC (bN a) (bN b) < 0 := by unfold kC; split <;> (try split) <;> omega
   refine al (N := 41) (l := [.agg #[.string a, .bool s], .agg #[.string b, .bool t]]) Tryz.func225 rfl rfl (by simp) ?_;refine sr ?_;refine db hh [_,_] ?_;intro b2 w2 hh;refine db hh [_,_] ?_;intro b3 w3 hh;refine cB hh ?_;intro b4 w4 hh;refine aa (ah (sr (bP ?_)));refine bR hh 2 ?_;refine bP ?_;refine bR hh 1 ?_;refine qa aQ.out rfl rfl (by first | rfl | assumption | decide) Kz ?_;refine aa (cF (ak (ai (ah (sr (bP ?_))))));refine bR hh 2 ?_;refine bP ?_;refine bR hh 1 ?_;refine bE hh (rQ a b _ ha hb) rfl ?_;intro w25 hh;refine aK (aa (cF (ak (ai (sr (bP ?_))))));refine bR hh 2 ?_;refine bP ?_;refine bR hh 1 ?_;refine bE hh (ni a b _ ha hb) rfl ?_;intro w34 hh;refine mT ?_;refine dI ?_;refine dI ?_;refine aS (aB (aa (sr (mS (bP ?_)))));refine bR hh 2 ?_;refine e9 [_,_] ?_;refine bK hh 0 [_,_] ?_;intro ws hh;replace hh : Hp _ (.blk _ _ [_, _] _ :: _) _ := hh;refine aa (ao ?_);refine iZ (aT rfl (aU (vs := [_, _]) aF.out (hh.aC (i := 0) (n := 2) rfl rfl) rfl) bq) ?_;rw [e1, te, if_neg hst, if_neg hlt];exact ⟨rfl, hh.below⟩
theorem uI (s t : Bool) (a b : ByteArray) (w : World) (ha : a.size ≤ 1000000000) (hb : b.size ≤ 1000000000) :
  Calls Tryz.prog 228 #[.agg #[.string a, .bool s], .agg #[.string b, .bool t]] w fun e w' => e = .returned (.agg #[.string (iM (iv s a * iv t b)), .bool (s != t)]) ∧ Below w.heap.size w w' := by
 have hh := Hp.start w;have e0 : (iv s a * iv t b).natAbs = bN a * bN b := by rw [Int.natAbs_mul, jI, jI]
 have e1 : iM (iv s a * iv t b) = sN (bN a * bN b) := by rw [iM, e0]
 refine al (N := 16) (l := [.agg #[.string a, .bool s], .agg #[.string b, .bool t]]) Tryz.func228 rfl rfl (by simp) ?_;refine sr ?_;refine db hh [_,_] ?_;intro b2 w2 hh;refine db hh [_,_] ?_;intro b3 w3 hh;refine cB hh ?_;intro b4 w4 hh;refine aa (ah ?_);refine a8 10 [[(2, none)], [(5, some 0)], [(3, none)], [(7, some 2)], [(6, some 1), (8, some 3)], [(2, none)], [(10, some 5)], [(3, none)], [(12, some 7)], [(11, some 6), (13, some 8)]] [(9, 14), (8, 13), (7, 12), (6, 11), (5, 10), (4, 9), (3, 8), (2, 7), (1, 6), (0, 5)] hh mixed KA ?_;refine eA ?_;refine fQ 2 ?_;refine eA ?_;refine fQ 1 ?_;refine dC (fun _ hj => vq a b _ ha hb) ?_;refine eA ?_;refine fQ 2 ?_;refine eA ?_;refine fQ 1 ?_;refine bF (i := 9) (fun ρ1 w1 hj hR => mU aQ.out (show ρ1 11 = Value.bool _ from hR.1) (show ρ1 13 = Value.bool _ from hR.2.1)) ?_;refine bA ?_;intro f W hJ hV;have hb_1 := hJ.bl;obtain ⟨v14, v13, v12, v11, v10, v9, v8, v7, v6, v5, _⟩ := hV;replace hh := hJ.hp;refine bj (bC (ae v14 (ae v13 (ae v12 (ae v11 (ae v10 (ae v9 (ae v8 (ae v7 (ae v6 (ae v5 bh))))))))))) ?_;dsimp only [cP];clear hJ;refine e9 [_,_] ?_;refine bK hh 0 [_,_] ?_;intro ws hh;replace hh : Hp _ (.blk _ _ [_, _] _ :: _) _ := hh
 refine aa (ao ?_);refine iZ (aT rfl (aU (vs := [_, _]) aF.out (hh.aC (i := 0) (n := 2) rfl rfl) rfl) bq) ?_;rw [e1];exact ⟨rfl, hh.below⟩
theorem o9 (n : Int) (w : World) (h1 : -9223372036854775808 ≤ n) (h2 : n ≤ 9223372036854775807) :
  Calls Tryz.prog 167 #[.int .i64 n] w fun e w' => e = .returned (.agg #[.bool (iN n), .string (iM n)]) ∧ Below w.heap.size w w' := by
 have hh := Hp.start w;by_cases h0 : n < 0
 ·have e1 : iv true (sN n.natAbs) = n := by unfold iv; rw [fg, if_pos rfl]; omega
  have hw : IntKind.u64.wrap n = ((18446744073709551616 - n.natAbs : Nat) : Int) := by
   rw [show n = ((18446744073709551616 - n.natAbs : Nat) : Int) + -((18446744073709551616 : Nat) : Int) by omega];have := UK.wrap_add (k := .u64) (((18446744073709551616 - n.natAbs : Nat) : Int) + -((18446744073709551616 : Nat) : Int));rw [← this, Int.neg_add_cancel_right, UK.nU Ky];omega
  have hn : (18446744073709551616 - (18446744073709551616 - n.natAbs)) % 18446744073709551616 = n.natAbs := Ky;refine al (N := 16) (l := [.int .i64 n]) Tryz.func167 rfl rfl (by simp) ?_;refine sr ?_;refine cB hh ?_;intro b2 w2 hh;refine aa (ah (sr (mI ?_)));refine aK (aa (cT (sr (mI ?_))));refine rL aQ.out aQ.out rfl Kz ?_;rw [hw];refine Ev rfl Ky Kz ?_;rw [hn];skip;refine bE hh (pw n.natAbs _ Ky) rfl ?_;intro w8 hh;refine e9 [_,_] ?_;refine bE hh (dV true (sN n.natAbs) _) rfl ?_;intro w10 hh;rw [e1];refine bK hh 0 [_,_] ?_;intro ws hh;replace hh : Hp _ (.blk _ _ [_, _] _ :: _) _ := hh;refine aa (ao (aG ?_));refine iZ (aT rfl (aU (vs := [_, _]) aF.out (hh.aC (i := 0) (n := 2) rfl rfl) rfl) bq) ?_;exact ⟨rfl, hh.below⟩
 ·obtain ⟨m, rfl⟩ := Int.eq_ofNat_of_zero_le (by omega : 0 ≤ n);have e1 : iv false (sN m) = m := by unfold iv; rw [fg]; simp
  have hm : m < 18446744073709551616 := Ky;refine al (N := 16) (l := [.int .i64 (m : Int)]) Tryz.func167 rfl rfl (by simp) ?_;refine sr ?_;refine cB hh ?_;intro b2 w2 hh;refine aa (ah (sr (mI ?_)));refine aK (aa (cF (ak (ai (sr (mI ?_))))));refine eo aQ.out aQ.out rfl (by first | assumption | omega) Kz ?_;refine bE hh (pw m _ hm) rfl ?_;intro w13 hh;refine e9 [_,_] ?_;refine bE hh (dV false (sN m) _) rfl ?_;intro w15 hh;rw [e1];refine bK hh 0 [_,_] ?_;intro ws hh;replace hh : Hp _ (.blk _ _ [_, _] _ :: _) _ := hh;refine aa (ao ?_);refine iZ (aT rfl (aU (vs := [_, _]) aF.out (hh.aC (i := 0) (n := 2) rfl rfl) rfl) bq) ?_;exact ⟨rfl, hh.below⟩
end Go.Proofs.YtaapkaefelhfcaaGreatDoor
namespace Go.Proofs.YtaapkaefelhfcaaGreatDoor
open Go.RowKit
structure IR where
 neg : Bool
 cA : ByteArray
def IR.cells (a : IR) : List Value := [.bool a.neg, .string a.cA]
def IR.v (a : IR) : Int := iv a.neg a.cA
def iR (z : Int) : IR := ⟨iN z, iM z⟩
theorem IJ (z : Int) : (iR z).v = z := fL z
theorem IR.len (a : IR) : a.cells.length = 2 := rfl
theorem om (x y : Int) : bU (x + y).natAbs ≤ max (bU x.natAbs) (bU y.natAbs) + 1 := by
 apply dQ;have h1 := dL x.natAbs;have h2 := dL y.natAbs;have h3 : 2 ^ bU x.natAbs ≤ 2 ^ max (bU x.natAbs) (bU y.natAbs) := Nat.pow_le_pow_right Ky (Nat.le_max_left _ _);have h4 : 2 ^ bU y.natAbs ≤ 2 ^ max (bU x.natAbs) (bU y.natAbs) := Nat.pow_le_pow_right Ky (Nat.le_max_right _ _);rw [Nat.pow_succ];omega
theorem nG (s : Bool) (m : ByteArray) : bU (iv s m).natAbs ≤ 8 * m.size := by rw [jI]; exact gM m
theorem B6 (l : List Int) (x : Int) : (l ++ [x]).sum = l.sum + x := by simp
theorem rk (L : Option Addr) (n c : Nat) (l : List IR) (w : World) (hS : Sl w L n 2 (aY IR.cells l)) (hn : n ≤ 1000000) (hs : ∀ s ∈ l, s.cA.size ≤ 100000000) :
  Calls Tryz.prog 165 #[.slice L n c] w fun e w' => e = .returned (.agg #[.bool (iN (l.map IR.v).sum), .string (iM (l.map IR.v).sum)]) ∧ Below w.heap.size w w' := by
 have hl := hS.bM IR.len Ky;have hh := Hp.start w;refine al (N := 19) (l := [.slice L n c]) Tryz.func165 rfl rfl (by simp) ?_;refine sr ?_;refine cB hh ?_;intro b2 w2 hh;refine aa (sr ?_);refine cB hh ?_;intro b3 w3 hh;refine aa (ah (sr (mL (aW (mI (aa (aj ?_)))))));refine bm [5, 8, 9, 10, 11, 12, 13, 14, 15, 16] 8
  (fun j w' => ∃ (i : Nat) (u : Bool) (S : Int), i ≤ n ∧ j = .int .i64 i ∧ S = ((l.take i).map IR.v).sum ∧ iv u (iM S) = S ∧ bU S.natAbs ≤ 800000000 + i ∧ Hp w [.blk b3 216 [.string (iM S), .bool u] (0, 0), .blk b2 27 [.bool false, .string (ByteArray.mk #[])] (0, 0)] w')
  (fun j _ => n - (intOf j).toNat) ?_ ?_
 ·exact ⟨0, false, 0, Nat.zero_le _, rfl, rfl, by rw [iM]; exact congrArg _ (fg 0), by simp [ko], by rw [iM, Int.natAbs_zero, jw]; exact hh⟩
 ·clear hh;rintro ρ' j w' ⟨i, u, S, hi, rfl, hS2, hu, hb, hh⟩;by_cases hlt : i < n
  ·obtain ⟨x, hx⟩ := ay (l := l) (k := i) Ky;obtain ⟨ad, rfl, hr⟩ := hS.at_ Ky;have hxs := hs x (List.mem_of_getElem? hx);have hS3 : ((l.take (i + 1)).map IR.v).sum = S + x.v := by rw [aH hx, List.map_append, List.map_singleton, B6, hS2]
   have hms : (iM S).size ≤ 1000000000 := by rw [eU]; omega
   have hbx := nG x.neg x.cA;have hba := om S x.v;have hpl := Fa u x.neg (iM S) x.cA;rw [hu] at hpl;have hwc := fun w1 => wv u x.neg (iM S) x.cA w1 hms Ky;rw [hu] at hwc;refine sr ?_;refine aK (aa (ah (cT (ak (ai (ah (aj (sr ?_))))))));refine aD (k := i) aQ.out aF.size rfl rfl Ky Ky Kz ?_;refine bJ (vs := [_, _]) aF.out rfl (((hr.ext hh.below).recAt IR.len hx)) rfl Kz ?_;refine cB hh ?_;intro b5 w5 hh;refine bK hh 0 [_,_] ?_;intro ws hh;replace hh : Hp _ (.blk _ _ [_, _] _ :: _) _ := hh;refine aa ?_;refine a8 3 [[(3, none)], [(5, none)], [(13, some 1)]] [(2, 14), (1, 13), (0, 12)] hh mixed KA ?_;refine gY 1 [_,_] ?_;refine gY 0 [_,_] ?_;refine dC (fun _ hj => l5 x.neg x.cA _) ?_;refine bA ?_;intro f W hJ hV;have hb_5 := hJ.bl;obtain ⟨v14, v13, v12, _⟩ := hV;replace hh := hJ.hp;refine bj (bC (ae v14 (ae v13 (ae v12 bh)))) ?_;dsimp only [cP];clear hJ;refine bE hh (hwc _) rfl ?_;intro w15 hh;refine bK hh 1 [_,_] ?_;intro ws hh;replace hh : Hp _ (_ :: .blk _ _ [_, _] _ :: _) _ := hh;refine aE (aP (ai (aq ?_)));refine bB (mI (aE (ai ?_)));replace hh := hh.sub (List.sublist_cons_self _ _)
   refine ⟨⟨i + 1, _, _, Ky, rfl, hS3.symm, hpl, by unfold IR.v at hba ⊢; omega, hh⟩, by show n - (i + 1) < n - i; omega, ?_⟩;exact KB
  ·refine sr ?_;refine aK (aa (ah (cF (aJ (az (az (aX (ai (sr ?_)))))))));refine cR hh 0 [_,_] ?_;refine bE hh (dV u (iM S) _) rfl ?_;intro w18 hh;rw [hu];refine bK hh 1 [_,_] ?_;intro ws hh;replace hh : Hp _ (_ :: .blk _ _ [_, _] _ :: _) _ := hh;refine aa (ao ?_);refine iZ (aT rfl (aU (vs := [_, _]) aF.out (hh.aC (i := 1) (n := 2) rfl rfl) rfl) bq) ?_;rw [List.take_of_length_le Ky] at hS2;rw [hS2];exact ⟨rfl, hh.below⟩
theorem pH (s : Bool) (b : ByteArray) : (iM (-(iv s b))).size ≤ b.size := by
 have := nG s b;rw [eU, Int.natAbs_neg]; omega
theorem qZ (s t : Bool) (a b : ByteArray) (w : World) (ha : a.size ≤ 100000000) (hb : b.size ≤ 100000000) :
  Calls Tryz.prog 255 #[.agg #[.bool s, .string a], .agg #[.bool t, .string b]] w fun e w' => e = .returned (.agg #[.bool (iN (iv s a - iv t b)), .string (iM (iv s a - iv t b))]) ∧ Below w.heap.size w w' := by
 have hh := Hp.start w;have h1 := pH t b;have e1 : ([IR.mk s a, iR (-(iv t b))].map IR.v).sum = iv s a - iv t b := by
  simp only [List.map_cons, List.map_nil, List.sum_cons, List.sum_nil, IJ];simp only [IR.v]; omega
 refine al (N := 10) (l := [.agg #[.bool s, .string a], .agg #[.bool t, .string b]]) Tryz.func255 rfl rfl (by simp) ?_;refine sr ?_;refine db hh [_,_] ?_;intro b2 w2 hh;refine db hh [_,_] ?_;intro b3 w3 hh;refine cB hh ?_;intro b4 w4 hh;refine aa (ah ?_);refine a8 3 [[(2, none)], [(3, none)], [(6, some 1)]] [(2, 7), (1, 6), (0, 5)] hh mixed KA ?_;refine gY 2 [_,_] ?_;refine gY 1 [_,_] ?_;refine dC (fun _ hj => rT t b _) ?_;refine bA ?_;intro f W hJ hV;have hb_1 := hJ.bl;obtain ⟨v7, v6, v5, _⟩ := hV;replace hh := hJ.hp;refine bj (bC (ae v7 (ae v6 (ae v5 bh)))) ?_;dsimp only [cP];clear hJ;refine aO hh (cs := [_, _, _, _]) aQ.out aF.out (aR (cJ rfl) (aR (cJ rfl) bI)) rfl rfl Kz Kz Kz rfl Kz ?_;intro b8 w8 hh;refine bE hh (rk _ 2 _ [IR.mk s a, iR (-(iv t b))] _ (hh.aM (i := 0) rfl) Ky (by simp [iR]; omega)) rfl ?_;intro w9 hh;rw [e1];refine bK hh 1 [_,_] ?_;intro ws hh;replace hh : Hp _ (_ :: .blk _ _ [_, _] _ :: _) _ := hh;refine aa (ao ?_);refine iZ (aT rfl (aU (vs := [_, _]) aF.out (hh.aC (i := 1) (n := 2) rfl rfl) rfl) bq) ?_;exact ⟨rfl, hh.below⟩
theorem y4 (s t : Bool) (a b : ByteArray) (w : World) (ha : a.size ≤ 100000000) (hb : b.size ≤ 100000000) :
  Calls Tryz.prog 247 #[.agg #[.bool s, .string a], .agg #[.bool t, .string b]] w fun e w' => e = .returned (.int .i64 (iv s a - iv t b).sign) ∧ Below w.heap.size w w' := by
 have hh := Hp.start w;refine al (N := 9) (l := [.agg #[.bool s, .string a], .agg #[.bool t, .string b]]) Tryz.func247 rfl rfl (by simp) ?_;refine sr ?_;refine db hh [_,_] ?_;intro b2 w2 hh;refine db hh [_,_] ?_;intro b3 w3 hh;refine aI (aa (sr ?_));refine cR hh 1 [_,_] ?_;refine cR hh 0 [_,_] ?_;refine bE hh (qZ s t a b _ ha hb) rfl ?_;intro w7 hh;refine bE hh (j5 _ _ _) rfl ?_;intro w8 hh;rw [fL];refine aI (aa (ao ?_));refine cq ?_;exact ⟨rfl, hh.below⟩
theorem DW (a b : Nat) : bU (a * b) ≤ bU a + bU b := by
 apply dQ;rw [Nat.pow_add];exact Nat.mul_lt_mul'' (dL a) (dL b)
theorem ow (a b : Int) : bU (a * b).natAbs ≤ bU a.natAbs + bU b.natAbs := by rw [Int.natAbs_mul]; exact DW _ _
def lM : List Int → Int
 | [] => 1
 | x :: l => x * lM l
theorem yl (l : List Int) (x : Int) : lM (l ++ [x]) = lM l * x := by
 induction l with
 | nil => simp [lM]
 | cons y l ih => simp only [List.cons_append, lM, ih, Int.mul_assoc]
theorem xi (l : List Nat) (i : Nat) : (l.take i).sum ≤ l.sum := by
 rw [← List.sum_append_nat.symm.trans (congrArg List.sum (List.take_append_drop i l))]; omega
theorem xe : bU 1 = 1 := by decide +kernel
theorem zk (L : Option Addr) (n c : Nat) (l : List IR) (w : World) (hS : Sl w L n 2 (aY IR.cells l)) (hn : n ≤ 1000000) (hs : (l.map fun a => a.cA.size).sum ≤ 100000000) :
  Calls Tryz.prog 166 #[.slice L n c] w fun e w' => e = .returned (.agg #[.bool (iN (lM (l.map IR.v))), .string (iM (lM (l.map IR.v)))]) ∧ Below w.heap.size w w' := by
 have hl := hS.bM IR.len Ky;have hh := Hp.start w;have hsum := xi (l.map fun a => a.cA.size);refine al (N := 21) (l := [.slice L n c]) Tryz.func166 rfl rfl (by simp) ?_;refine sr ?_;refine cB hh ?_;intro b2 w2 hh;refine aa (sr ?_);refine bE hh (o9 1 _ Ky Ky) rfl ?_;intro w6 hh;refine bE hh (l5 _ _ _) rfl ?_;intro w7 hh;refine cB hh ?_;intro b3 w3 hh;refine bK hh 0 [_,_] ?_;intro ws hh;replace hh : Hp _ (.blk _ _ [_, _] _ :: _) _ := hh;refine aa (ah (sr (mL (aW (mI (aa (aj ?_)))))));refine bm [5, 10, 11, 12, 13, 14, 15, 16, 17, 18] 10
  (fun j w' => ∃ (i : Nat) (u : Bool) (S : Int), i ≤ n ∧ j = .int .i64 i ∧ S = lM ((l.take i).map IR.v) ∧ iv u (iM S) = S ∧ bU S.natAbs ≤ 1 + 8 * ((l.map fun a => a.cA.size).take i).sum ∧ Hp w [.blk b3 216 [.string (iM S), .bool u] (0, 0), .blk b2 27 [.bool false, .string (ByteArray.mk #[])] (0, 0)] w')
  (fun j _ => n - (intOf j).toNat) ?_ ?_
 ·exact ⟨0, _, 1, Nat.zero_le _, rfl, rfl, fL 1, by rw [Int.natAbs_one, xe]; omega, hh⟩
 ·clear hh;rintro ρ' j w' ⟨i, u, S, hi, rfl, hS2, hu, hb, hh⟩;by_cases hlt : i < n
  ·obtain ⟨x, hx⟩ := ay (l := l) (k := i) Ky;obtain ⟨ad, rfl, hr⟩ := hS.at_ Ky;have hsi := hsum i;have hsi2 := hsum (i + 1);have hsz : ((l.map fun a => a.cA.size).take (i + 1)).sum = ((l.map fun a => a.cA.size).take i).sum + x.cA.size := by
    rw [aH (x := x.cA.size) (by rw [List.getElem?_map, hx]; rfl), oI]
   have hS3 : lM ((l.take (i + 1)).map IR.v) = S * x.v := by rw [aH hx, List.map_append, List.map_singleton, yl, hS2]
   have hms : (iM S).size ≤ 1000000000 := by rw [eU]; omega
   have hbx := nG x.neg x.cA;have hba := ow S x.v;have hpl := En u x.neg (iM S) x.cA;rw [hu] at hpl;have hwc := fun w1 => uI u x.neg (iM S) x.cA w1 hms Ky;rw [hu] at hwc;refine sr ?_;refine aK (aa (ah (cT (ak (ai (ah (aj (sr ?_))))))));refine aD (k := i) aQ.out aF.size rfl rfl Ky Ky Kz ?_;refine bJ (vs := [_, _]) aF.out rfl (((hr.ext hh.below).recAt IR.len hx)) rfl Kz ?_;refine cB hh ?_;intro b5 w5 hh;refine bK hh 0 [_,_] ?_;intro ws hh;replace hh : Hp _ (.blk _ _ [_, _] _ :: _) _ := hh;refine aa ?_;refine a8 3 [[(3, none)], [(5, none)], [(15, some 1)]] [(2, 16), (1, 15), (0, 14)] hh mixed KA ?_;refine gY 1 [_,_] ?_;refine gY 0 [_,_] ?_;refine dC (fun _ hj => l5 x.neg x.cA _) ?_;refine bA ?_;intro f W hJ hV;have hb_5 := hJ.bl;obtain ⟨v16, v15, v14, _⟩ := hV;replace hh := hJ.hp;refine bj (bC (ae v16 (ae v15 (ae v14 bh)))) ?_;dsimp only [cP];clear hJ;refine bE hh (hwc _) rfl ?_;intro w17 hh;refine bK hh 1 [_,_] ?_;intro ws hh;replace hh : Hp _ (_ :: .blk _ _ [_, _] _ :: _) _ := hh;refine aE (aP (ai (aq ?_)));refine bB (mI (aE (ai ?_)));replace hh := hh.sub (List.sublist_cons_self _ _)
   refine ⟨⟨i + 1, _, _, Ky, rfl, hS3.symm, hpl, by unfold IR.v at hba ⊢; omega, hh⟩, by show n - (i + 1) < n - i; omega, ?_⟩;exact KB
  ·refine sr ?_;refine aK (aa (ah (cF (aJ (az (az (aX (ai (sr ?_)))))))));refine cR hh 0 [_,_] ?_;refine bE hh (dV u (iM S) _) rfl ?_;intro w20 hh;rw [hu];refine bK hh 1 [_,_] ?_;intro ws hh;replace hh : Hp _ (_ :: .blk _ _ [_, _] _ :: _) _ := hh;refine aa (ao ?_);refine iZ (aT rfl (aU (vs := [_, _]) aF.out (hh.aC (i := 1) (n := 2) rfl rfl) rfl) bq) ?_;rw [List.take_of_length_le Ky] at hS2;rw [hS2];exact ⟨rfl, hh.below⟩
theorem wL (M k : Nat) (h : 2 ^ k ∣ M) : -((M / 2 ^ k : Nat) : Int) = -(M : Int) / 2 ^ k := by
 obtain ⟨q, rfl⟩ := h;have hp : (0 : Int) < 2 ^ k := Int.pow_pos Ky;rw [Nat.mul_div_cancel_left _ (Nat.pow_pos Ky), Int.natCast_mul, ← Int.mul_neg, Int.natCast_pow];exact (Int.mul_ediv_cancel_left _ (by exact Int.ne_of_gt hp)).symm
theorem uC (M k : Nat) (h : ¬ 2 ^ k ∣ M) : -((M / 2 ^ k : Nat) : Int) - 1 = -(M : Int) / 2 ^ k := by
 have hp : (0 : Int) < 2 ^ k := Int.pow_pos Ky;have h1 := Nat.div_add_mod M (2 ^ k);have h2 := Nat.mod_lt M (Nat.pow_pos (n := k) (show 0 < 2 by omega));have h3 : M % 2 ^ k ≠ 0 := fun h0 => h (Nat.dvd_of_mod_eq_zero h0);have hc : ((2 ^ k : Nat) : Int) = 2 ^ k := by simp
 symm
 rw [Int.ediv_eq_iff_of_pos hp, ← hc];have h4 : (M : Int) = (2 ^ k : Nat) * (M / 2 ^ k : Nat) + (M % 2 ^ k : Nat) := by rw [← Int.natCast_mul, ← Int.natCast_add, h1]
 generalize hK : ((2 ^ k : Nat) : Int) = K at *;generalize ((M / 2 ^ k : Nat) : Int) = q at *;have e : (-q - 1) * K = -(K * q) - K := by rw [Int.sub_mul, Int.neg_mul, Int.mul_comm q]; omega
 have e2 : (-q - 1 + 1) * K = -(K * q) := by rw [Int.sub_add_cancel, Int.neg_mul, Int.mul_comm]
 omega
theorem EG {M k : Nat} (h0 : M ≠ 0) : 2 ^ k ∣ M ↔ k ≤ tz M := by
 obtain ⟨m, hm⟩ := qj h0;generalize tz M = t at *;constructor
 ·intro h
  rcases Nat.lt_or_ge t k with hlt | hge
  ·exfalso;obtain ⟨q, hq⟩ := h;rw [hm, show k = t + (1 + (k - t - 1)) by omega, Nat.pow_add, Nat.pow_add, Nat.mul_assoc] at hq;have := Nat.eq_of_mul_eq_mul_left (Nat.pow_pos Ky) hq;rw [Nat.pow_one, Nat.mul_assoc] at this;omega
  ·exact hge
 ·intro h;rw [hm];exact Nat.dvd_trans (Nat.pow_dvd_pow 2 h) (Nat.dvd_mul_right _ _)
end Go.Proofs.YtaapkaefelhfcaaGreatDoor
namespace Go.Proofs.YtaapkaefelhfcaaGreatDoor
open Go.RowKit
theorem Hi (s : Bool) (a : ByteArray) (m : Nat) : iv s (sN (bN a * 2 ^ m)) = iv s a * 2 ^ m := by
 unfold iv;rw [fg]
 cases s <;> simp [Int.natCast_mul, Int.neg_mul]
theorem zm (s : Bool) (a : ByteArray) (m : Nat) (w : World) (ha : a.size ≤ 100000000) (hm : m ≤ 1000000000) :
  Calls Tryz.prog 224 #[.agg #[.bool s, .string a], .int .i64 (m : Int)] w fun e w' => e = .returned (.agg #[.bool (iN (iv s a * 2 ^ m)), .string (iM (iv s a * 2 ^ m))]) ∧ Below w.heap.size w w' := by
 have hh := Hp.start w;refine al (N := 47) (l := [.agg #[.bool s, .string a], .int .i64 (m : Int)]) Tryz.func224 rfl rfl (by simp) ?_;refine sr ?_;refine db hh [_,_] ?_;intro b2 w2 hh;refine cB hh ?_;intro b4 w4 hh;refine aa (ah (sr (mI ?_)));refine dv (aa (cT (ah ?_)));refine a8 6 [[(2, none)], [(8, some 0)], [(1, none)], [(9, some 1), (10, some 2)], [(2, none)], [(12, some 4)]] [(5, 13), (4, 12), (3, 11), (2, 10), (1, 9), (0, 8)] hh mixed KA ?_;refine eA ?_;refine fQ 1 ?_;refine fJ ?_;refine dC (fun _ hj => uN a m _ Ky Ky) ?_;refine eA ?_;refine fQ 1 ?_;refine bA ?_;intro f W hJ hV;have hb_2 := hJ.bl;obtain ⟨v13, v12, v11, v10, v9, v8, _⟩ := hV;replace hh := hJ.hp;refine bj (bC (ae v13 (ae v12 (ae v11 (ae v10 (ae v9 (ae v8 bh))))))) ?_;dsimp only [cP];clear hJ;refine e9 [_,_] ?_;refine bE hh (dV s (sN (bN a * 2 ^ m)) _) rfl ?_;intro w15 hh;rw [Hi];refine bK hh 0 [_,_] ?_;intro ws hh;replace hh : Hp _ (.blk _ _ [_, _] _ :: _) _ := hh;refine aa (ao (aG ?_));refine iZ (aT rfl (aU (vs := [_, _]) aF.out (hh.aC (i := 0) (n := 2) rfl rfl) rfl) bq) ?_;exact ⟨rfl, hh.below⟩
theorem y9 (s : Bool) (a : ByteArray) (m : Nat) (w : World) (hT : eP w) (ha : a.size ≤ 100000000) (h0 : 0 < m) (hm : m ≤ 1000000000000) :
  Calls Tryz.prog 224 #[.agg #[.bool s, .string a], .int .i64 (-(m : Int))] w fun e w' => e = .returned (.agg #[.bool (iN (iv s a / 2 ^ m)), .string (iM (iv s a / 2 ^ m))]) ∧ Below w.heap.size w w' := by
 have hh := Hp.start w;have e1 : (if (-1099511627776 : Int) > -(m : Int) then -1099511627776 else -(m : Int)) = -(m : Int) := if_neg Ky;have e2 : -(-(m : Int)) = (m : Int) := Ky;have hcs : ∀ w1, Calls Tryz.prog 253 #[.string a, .int .i64 (-(-(m : Int)))] w1 fun e w' => e = .returned (.string (sN (bN a / 2 ^ m))) ∧ Below w1.heap.size w1 w' := fun w1 => by
  rw [e2]; exact vg a m w1 Ky Ky
 cases s with
 | false =>
  have e3 : iv false (sN (bN a / 2 ^ m)) = iv false a / 2 ^ m := by
   unfold iv;rw [fg];simp
  refine al (N := 47) (l := [.agg #[.bool false, .string a], .int .i64 (-(m : Int))]) Tryz.func224 rfl rfl (by simp) ?_;refine sr ?_;refine db hh [_,_] ?_;intro b2 w2 hh;refine cB hh ?_;intro b4 w4 hh;refine aa (ah (sr (mI ?_)));refine dv (aa (cF (ak (ai (sr (mI ?_))))));refine kq rfl rfl Kz ?_;refine aI (aa (ah ?_));rw [e1];refine a8 10 [[(2, none)], [(18, some 0)], [(1, none)], [(20, some 2)], [(19, some 1), (21, some 3)], [(2, none)], [(23, some 5)], [(22, some 4), (24, some 6)], [(25, some 7)], []] [(9, 5), (8, 26), (7, 25), (6, 24), (5, 23), (4, 22), (3, 21), (2, 20), (1, 19), (0, 18)] hh mixed KA ?_;refine eA ?_;refine fQ 1 ?_;refine fJ ?_;refine bF (i := 3) (fun ρ1 w1 hj hR => se (show ρ1 20 = Value.int _ _ from hR.1) Ky Ky) ?_;refine dC (fun _ hj => hcs _) ?_;refine eA ?_;refine fQ 1 ?_;refine dB [_,_] ?_;refine dC (fun _ hj => dV false (sN (bN a / 2 ^ m)) _) ?_;refine cH (i := 9) (eJ _ 27 _) eJ.ext (fun ρ1 w1 hj hR => kA aF.out hj.bl (fun v w2 h hb => ⟨hb, h⟩)) ?_;refine bA ?_;intro f W hJ hV;have hb_4 := hJ.bl;obtain ⟨v5, v26, v25, v24, v23, v22, v21, v20, v19, v18, _⟩ := hV;obtain ⟨b5, e5, hl5, hc5⟩ : eJ _ _ _ (f 9) W := v5;replace hh := hJ.newVar hh hl5 hc5
  refine bj (bC (ae e5 (ae v26 (ae v25 (ae v24 (ae v23 (ae v22 (ae v21 (ae v20 (ae v19 (ae v18 bh))))))))))) ?_;dsimp only [cP];clear e5 hJ;rw [e3];refine bK hh 0 [_,_] ?_;intro ws hh;replace hh : Hp _ (.blk _ _ [_, _] _ :: _) _ := hh;refine aa (ah (sr (bP ?_)));refine bR hh 2 ?_;refine mB ?_;refine gS (gS ?_);refine cn Kz rfl rfl Kz ?_;refine gS ?_;refine eX ?_;refine mB ?_;refine gS (gS ?_);refine cn Kz rfl rfl Kz ?_;refine gS (gS (gS ?_));refine eX ?_;refine aa (cF (ak (ai (sr ?_))));refine cR hh 0 [_,_] ?_;refine bK hh 1 [_,_] ?_;intro ws hh;replace hh : Hp _ (_ :: .blk _ _ [_, _] _ :: _) _ := hh;refine aa (ao ?_);refine iZ (aT rfl (aU (vs := [_, _]) aF.out (hh.aC (i := 1) (n := 2) rfl rfl) rfl) bq) ?_;exact ⟨rfl, hh.below⟩
 | true =>
  have hb := gM a;have e4 : iv true (sN (bN a / 2 ^ m)) = -((bN a / 2 ^ m : Nat) : Int) := by
   unfold iv;rw [fg, if_pos rfl]
  have e5 : iv true a = -(bN a : Int) := by unfold iv; rw [if_pos rfl]
  by_cases hz : bN a = 0
  ·have e3 : iv true (sN (bN a / 2 ^ m)) = iv true a / 2 ^ m := by
    rw [e4, e5, hz]; simp
   refine al (N := 47) (l := [.agg #[.bool true, .string a], .int .i64 (-(m : Int))]) Tryz.func224 rfl rfl (by simp) ?_;refine sr ?_;refine db hh [_,_] ?_;intro b2 w2 hh;refine cB hh ?_;intro b4 w4 hh;refine aa (ah (sr (mI ?_)));refine dv (aa (cF (ak (ai (sr (mI ?_))))));refine kq rfl rfl Kz ?_;refine aI (aa (ah ?_));rw [e1];refine a8 10 [[(2, none)], [(18, some 0)], [(1, none)], [(20, some 2)], [(19, some 1), (21, some 3)], [(2, none)], [(23, some 5)], [(22, some 4), (24, some 6)], [(25, some 7)], []] [(9, 5), (8, 26), (7, 25), (6, 24), (5, 23), (4, 22), (3, 21), (2, 20), (1, 19), (0, 18)] hh mixed KA ?_;refine eA ?_;refine fQ 1 ?_;refine fJ ?_;refine bF (i := 3) (fun ρ1 w1 hj hR => se (show ρ1 20 = Value.int _ _ from hR.1) Ky Ky) ?_;refine dC (fun _ hj => hcs _) ?_;refine eA ?_;refine fQ 1 ?_;refine dB [_,_] ?_;refine dC (fun _ hj => dV true (sN (bN a / 2 ^ m)) _) ?_;refine cH (i := 9) (eJ _ 27 _) eJ.ext (fun ρ1 w1 hj hR => kA aF.out hj.bl (fun v w2 h hb => ⟨hb, h⟩)) ?_;refine bA ?_;intro f W hJ hV;have hb_4 := hJ.bl;obtain ⟨v5, v26, v25, v24, v23, v22, v21, v20, v19, v18, _⟩ := hV;obtain ⟨b5, e5, hl5, hc5⟩ : eJ _ _ _ (f 9) W := v5;replace hh := hJ.newVar hh hl5 hc5
   refine bj (bC (ae e5 (ae v26 (ae v25 (ae v24 (ae v23 (ae v22 (ae v21 (ae v20 (ae v19 (ae v18 bh))))))))))) ?_;dsimp only [cP];clear e5 hJ;rw [e3];refine bK hh 0 [_,_] ?_;intro ws hh;replace hh : Hp _ (.blk _ _ [_, _] _ :: _) _ := hh;refine aa (ah (sr (bP ?_)));refine bR hh 2 ?_;refine mB (gT (bP (gT ?_)));refine bR hh 2 ?_;refine aV rfl rfl ?_;refine bE hh (kK a _ Ky) rfl ?_;intro w32 hh;rw [hz, ko];refine gT ?_;refine ct ?_;refine e7 ?_;refine mB ?_;refine gS (gS ?_);refine cn Kz rfl rfl Kz ?_;refine gS (gS (gS ?_));refine eX ?_;refine aa (cF (ak (ai (sr ?_))));refine cR hh 0 [_,_] ?_;refine bK hh 1 [_,_] ?_;intro ws hh;replace hh : Hp _ (_ :: .blk _ _ [_, _] _ :: _) _ := hh;refine aa (ao ?_);refine iZ (aT rfl (aU (vs := [_, _]) aF.out (hh.aC (i := 1) (n := 2) rfl rfl) rfl) bq) ?_;exact ⟨rfl, hh.below⟩
  ·have hbp := nQ hz;by_cases hd : 2 ^ m ∣ bN a
   ·have e3 : iv true (sN (bN a / 2 ^ m)) = iv true a / 2 ^ m := by
     rw [e4, e5]; exact wL _ _ hd
    have htz := (EG hz).1 hd;refine al (N := 47) (l := [.agg #[.bool true, .string a], .int .i64 (-(m : Int))]) Tryz.func224 rfl rfl (by simp) ?_;refine sr ?_;refine db hh [_,_] ?_;intro b2 w2 hh;refine cB hh ?_;intro b4 w4 hh;refine aa (ah (sr (mI ?_)));refine dv (aa (cF (ak (ai (sr (mI ?_))))));refine kq rfl rfl Kz ?_;refine aI (aa (ah ?_));rw [e1];refine a8 10 [[(2, none)], [(18, some 0)], [(1, none)], [(20, some 2)], [(19, some 1), (21, some 3)], [(2, none)], [(23, some 5)], [(22, some 4), (24, some 6)], [(25, some 7)], []] [(9, 5), (8, 26), (7, 25), (6, 24), (5, 23), (4, 22), (3, 21), (2, 20), (1, 19), (0, 18)] hh mixed KA ?_;refine eA ?_;refine fQ 1 ?_;refine fJ ?_;refine bF (i := 3) (fun ρ1 w1 hj hR => se (show ρ1 20 = Value.int _ _ from hR.1) Ky Ky) ?_;refine dC (fun _ hj => hcs _) ?_;refine eA ?_;refine fQ 1 ?_;refine dB [_,_] ?_;refine dC (fun _ hj => dV true (sN (bN a / 2 ^ m)) _) ?_;refine cH (i := 9) (eJ _ 27 _) eJ.ext (fun ρ1 w1 hj hR => kA aF.out hj.bl (fun v w2 h hb => ⟨hb, h⟩)) ?_;refine bA ?_;intro f W hJ hV;have hb_4 := hJ.bl;obtain ⟨v5, v26, v25, v24, v23, v22, v21, v20, v19, v18, _⟩ := hV;obtain ⟨b5, e5, hl5, hc5⟩ : eJ _ _ _ (f 9) W := v5
    replace hh := hJ.newVar hh hl5 hc5;refine bj (bC (ae e5 (ae v26 (ae v25 (ae v24 (ae v23 (ae v22 (ae v21 (ae v20 (ae v19 (ae v18 bh))))))))))) ?_;dsimp only [cP];clear e5 hJ;rw [e3];refine bK hh 0 [_,_] ?_;intro ws hh;replace hh : Hp _ (.blk _ _ [_, _] _ :: _) _ := hh;refine aa (ah (sr (bP ?_)));refine bR hh 2 ?_;refine mB (gT (bP (gT ?_)));refine bR hh 2 ?_;refine aV rfl rfl ?_;refine bE hh (kK a _ Ky) rfl ?_;intro w32 hh;refine gT ?_;refine ct ?_;refine e7 ?_;refine mB (gT (bP (gT ?_)));refine bR hh 2 ?_;refine aV rfl rfl ?_;refine bE hh (jH a _ Ky (hT.hp hh)) rfl ?_;intro w38 hh;refine gT (mI (gT ?_));refine uP rfl Ky Ky Kz ?_;refine gT ?_;refine aK ?_;refine e7 ?_;refine aa (cF (ak (ai (sr ?_))));refine cR hh 0 [_,_] ?_;refine bK hh 1 [_,_] ?_;intro ws hh;replace hh : Hp _ (_ :: .blk _ _ [_, _] _ :: _) _ := hh;refine aa (ao ?_);refine iZ (aT rfl (aU (vs := [_, _]) aF.out (hh.aC (i := 1) (n := 2) rfl rfl) rfl) bq) ?_;exact ⟨rfl, hh.below⟩
   ·have e3 : iv true (sN (bN a / 2 ^ m)) - 1 = iv true a / 2 ^ m := by
     rw [e4, e5]; exact uC _ _ hd
    have htz : tz (bN a) < m := Nat.lt_of_not_le fun h => hd ((EG hz).2 h);have hsz : (iM (iv true (sN (bN a / 2 ^ m)))).size ≤ 100000000 := by
     have := nJ (bN a) m;rw [eU, jI, fg]; omega
    have hsub : ∀ w1, Calls Tryz.prog 255 #[.agg #[.bool (iN (iv true (sN (bN a / 2 ^ m)))), .string (iM (iv true (sN (bN a / 2 ^ m))))], .agg #[.bool (iN 1), .string (iM 1)]] w1 fun e w' => e = .returned (.agg #[.bool (iN (iv true a / 2 ^ m)), .string (iM (iv true a / 2 ^ m))]) ∧ Below w1.heap.size w1 w' := fun w1 => by
     have := qZ (iN (iv true (sN (bN a / 2 ^ m)))) (iN 1) (iM (iv true (sN (bN a / 2 ^ m)))) (iM 1) w1 hsz (by rw [eU, Int.natAbs_one, xe]; omega);rw [fL, fL, e3] at this;exact this
    refine al (N := 47) (l := [.agg #[.bool true, .string a], .int .i64 (-(m : Int))]) Tryz.func224 rfl rfl (by simp) ?_;refine sr ?_;refine db hh [_,_] ?_;intro b2 w2 hh;refine cB hh ?_;intro b4 w4 hh;refine aa (ah (sr (mI ?_)));refine dv (aa (cF (ak (ai (sr (mI ?_))))));refine kq rfl rfl Kz ?_;refine aI (aa (ah ?_));rw [e1];refine a8 10 [[(2, none)], [(18, some 0)], [(1, none)], [(20, some 2)], [(19, some 1), (21, some 3)], [(2, none)], [(23, some 5)], [(22, some 4), (24, some 6)], [(25, some 7)], []] [(9, 5), (8, 26), (7, 25), (6, 24), (5, 23), (4, 22), (3, 21), (2, 20), (1, 19), (0, 18)] hh mixed KA ?_;refine eA ?_;refine fQ 1 ?_;refine fJ ?_;refine bF (i := 3) (fun ρ1 w1 hj hR => se (show ρ1 20 = Value.int _ _ from hR.1) Ky Ky) ?_;refine dC (fun _ hj => hcs _) ?_;refine eA ?_;refine fQ 1 ?_;refine dB [_,_] ?_;refine dC (fun _ hj => dV true (sN (bN a / 2 ^ m)) _) ?_;refine cH (i := 9) (eJ _ 27 _) eJ.ext (fun ρ1 w1 hj hR => kA aF.out hj.bl (fun v w2 h hb => ⟨hb, h⟩)) ?_;refine bA ?_;intro f W hJ hV;have hb_4 := hJ.bl;obtain ⟨v5, v26, v25, v24, v23, v22, v21, v20, v19, v18, _⟩ := hV;obtain ⟨b5, e5, hl5, hc5⟩ : eJ _ _ _ (f 9) W := v5;replace hh := hJ.newVar hh hl5 hc5
    refine bj (bC (ae e5 (ae v26 (ae v25 (ae v24 (ae v23 (ae v22 (ae v21 (ae v20 (ae v19 (ae v18 bh))))))))))) ?_;dsimp only [cP];clear e5 hJ;refine bK hh 0 [_,_] ?_;intro ws hh;replace hh : Hp _ (.blk _ _ [_, _] _ :: _) _ := hh;refine aa (ah (sr (bP ?_)));refine bR hh 2 ?_;refine mB (gT (bP (gT ?_)));refine bR hh 2 ?_;refine aV rfl rfl ?_;refine bE hh (kK a _ Ky) rfl ?_;intro w32 hh;refine gT ?_;refine ct ?_;refine e7 ?_;refine mB (gT (bP (gT ?_)));refine bR hh 2 ?_;refine aV rfl rfl ?_;refine bE hh (jH a _ Ky (hT.hp hh)) rfl ?_;intro w38 hh;refine gT (mI (gT ?_));refine uP rfl Ky Ky Kz ?_;refine gT ?_;refine aK ?_;refine e7 ?_;refine aa (cT (ah ?_));refine a8 2 [[(5, none)], []] [(1, 44), (0, 43)] hh mixed KA ?_;refine gY 0 [_,_] ?_;refine dC (fun _ hj => o9 1 _ Ky Ky) ?_;refine bA ?_;intro f W hJ hV;have hb_6 := hJ.bl;obtain ⟨v44, v43, _⟩ := hV;replace hh := hJ.hp;refine bj (bC (ae v44 (ae v43 bh))) ?_;dsimp only [cP];clear hJ;refine bE hh (hsub _) rfl ?_;intro w45 hh;refine bK hh 1 [_,_] ?_;intro ws hh;replace hh : Hp _ (_ :: .blk _ _ [_, _] _ :: _) _ := hh;refine aa (ao (aG ?_));refine iZ (aT rfl (aU (vs := [_, _]) aF.out (hh.aC (i := 1) (n := 2) rfl rfl) rfl) bq) ?_
    exact ⟨rfl, hh.below⟩
end Go.Proofs.YtaapkaefelhfcaaGreatDoor
namespace Go.Proofs.YtaapkaefelhfcaaGreatDoor
open Go.RowKit
theorem HR : (2 : Rat) ≠ 0 := by decide
theorem two_pos (k : Int) : (0 : Rat) < 2 ^ k := Rat.zpow_pos Kz
theorem jW (i p : Int) : (Dyadic.ofIntWithPrec i p).toRat = i * 2 ^ (-p) := Dyadic.toRat_ofIntWithPrec_eq_mul_two_pow
theorem oM (i p : Int) (n : Nat) : Dyadic.ofIntWithPrec (i * 2 ^ n) (p + n) = Dyadic.ofIntWithPrec i p := by
 rw [← Int.shiftLeft_eq]; exact Dyadic.ofIntWithPrec_shiftLeft_add
theorem k4 (i : Int) {p q : Int} {n : Nat} (h : q = p + n) : Dyadic.ofIntWithPrec i p = Dyadic.ofIntWithPrec (i * 2 ^ n) q := by
 subst h; exact (oM i p n).symm
theorem uz (i j p : Int) : Dyadic.ofIntWithPrec i p + Dyadic.ofIntWithPrec j p = Dyadic.ofIntWithPrec (i + j) p := by
 rw [← Dyadic.toRat_inj, Dyadic.toRat_add, jW, jW, jW, Rat.intCast_add, Rat.add_mul]
theorem zJ (i p : Int) : -Dyadic.ofIntWithPrec i p = Dyadic.ofIntWithPrec (-i) p := Dyadic.neg_ofIntWithPrec
theorem zv (i j p q : Int) : Dyadic.ofIntWithPrec i p * Dyadic.ofIntWithPrec j q = Dyadic.ofIntWithPrec (i * j) (p + q) := by
 rw [← Dyadic.toRat_inj, Dyadic.toRat_mul, jW, jW, jW, Rat.intCast_mul, Int.neg_add, Rat.zpow_add HR];grind
theorem sa (i j p : Int) : Dyadic.ofIntWithPrec i p < Dyadic.ofIntWithPrec j p ↔ i < j := by
 rw [← Dyadic.toRat_lt_toRat_iff, jW, jW];rw [← Rat.intCast_lt_intCast];constructor
 ·intro h;exact Rat.lt_of_mul_lt_mul_right h (Rat.le_of_lt (two_pos _))
 ·intro h;exact Rat.mul_lt_mul_of_pos_right h (two_pos _)
theorem lV (p : Int) : Dyadic.ofIntWithPrec 0 p = 0 := rfl
theorem ER {i j p : Int} (h : Dyadic.ofIntWithPrec i p = Dyadic.ofIntWithPrec j p) : i = j := by
 rcases Int.lt_trichotomy i j with h1 | h1 | h1
 ·rw [← sa i j p, h] at h1;exact absurd h1 (by rw [sa]; omega)
 ·exact h1
 ·rw [← sa j i p, h] at h1;exact absurd h1 (by rw [sa]; omega)
theorem pk {i p : Int} (h : Dyadic.ofIntWithPrec i p = 0) : i = 0 := ER (p := p) (by rw [h]; rfl)
theorem Aq (n k : Int) (h : n % 2 = 1) : Dyadic.ofOdd n k h = Dyadic.ofIntWithPrec n k := Dyadic.ofOdd_eq_ofIntWithPrec
theorem z7 {i p : Int} (h : i ≠ 0) : Dyadic.ofIntWithPrec i p = .ofOdd (i >>> i.trailingZeros) (p - i.trailingZeros) (Int.shiftRight_trailingZeros_mod_two h) := by
 rw [Dyadic.ofIntWithPrec, dif_neg h]
structure NR where
 neg : Bool
 cA : ByteArray
 e : Int
def NR.cells (a : NR) : List Value := [.bool a.neg, .string a.cA, .int .i64 a.e]
theorem NR.len (a : NR) : a.cells.length = 3 := rfl
theorem NR.one (a : NR) : a.cells.all Value.oneCell' = true := rfl
def NR.i (a : NR) : Int := iv a.neg a.cA
def NR.d (a : NR) : Dyadic := Dyadic.ofIntWithPrec a.i (-a.e)
def nR : Dyadic → NR
 | .zero => ⟨false, ByteArray.mk #[], 0⟩
 | .ofOdd n k _ => ⟨iN n, iM n, -k⟩
theorem oC : nR 0 = ⟨false, ByteArray.mk #[], 0⟩ := rfl
theorem dK (x : Dyadic) : (nR x).d = x := by
 cases x with
 | zero => rfl
 | ofOdd n k h =>
  simp only [nR, NR.d, NR.i, fL, Int.neg_neg];exact (Aq n k h).symm
theorem HV {x y : Dyadic} : nR x = nR y ↔ x = y := ⟨fun h => by rw [← dK x, h, dK], fun h => by rw [h]⟩
theorem Iv (s : Bool) (a : ByteArray) : (iv s a).trailingZeros = tz (bN a) := by
 unfold iv;split
 ·rw [Int.trailingZeros_neg]; rfl
 ·rfl
theorem AG (s : Bool) (a : ByteArray) : iv s a = 0 ↔ bN a = 0 := by
 have := jI s a;omega
theorem oN {s : Bool} {a : ByteArray} {e : Int} (h : iv s a ≠ 0) : nR (Dyadic.ofIntWithPrec (iv s a) (-e)) = ⟨iN (iv s a / 2 ^ tz (bN a)), iM (iv s a / 2 ^ tz (bN a)), e + tz (bN a)⟩ := by
 rw [z7 h, nR, Int.shiftRight_eq_div_pow, Iv];have e1 : -(-e - (tz (bN a) : Int)) = e + tz (bN a) := Ky;rw [e1, Int.natCast_pow]
 rfl
def Sz (k : Nat) (x : Dyadic) : Prop := ∃ i : Int, x = Dyadic.ofIntWithPrec i k ∧ i.natAbs < 2 ^ (2 * k)
theorem Sz.zero (k : Nat) : Sz k 0 := ⟨0, rfl, by simpa using Nat.pow_pos Ky⟩
theorem Sz.mono {k l : Nat} {x : Dyadic} (h : Sz k x) (hl : k ≤ l) : Sz l x := by
 obtain ⟨i, rfl, hi⟩ := h;refine ⟨i * 2 ^ (l - k), k4 i Ky, ?_⟩;rw [Int.natAbs_mul, Int.natAbs_pow];have h1 : i.natAbs * 2 ^ (l - k) < 2 ^ (2 * k) * 2 ^ (l - k) := Nat.mul_lt_mul_of_pos_right hi (Nat.pow_pos Ky);rw [← Nat.pow_add] at h1;exact Nat.lt_of_lt_of_le h1 (Nat.pow_le_pow_right Ky Ky)
theorem Sz.neg {k : Nat} {x : Dyadic} (h : Sz k x) : Sz k (-x) := by
 obtain ⟨i, rfl, hi⟩ := h;exact ⟨-i, zJ _ _, by rw [Int.natAbs_neg]; exact hi⟩
theorem Sz.add {k : Nat} {x y : Dyadic} (hx : Sz k x) (hy : Sz k y) : Sz (k + 1) (x + y) := by
 obtain ⟨i, rfl, hi⟩ := hx;obtain ⟨j, rfl, hj⟩ := hy;rw [uz];refine ⟨(i + j) * 2 ^ 1, k4 _ Ky, ?_⟩;have h1 : 2 ^ (2 * (k + 1)) = 4 * 2 ^ (2 * k) := by rw [show 2 * (k + 1) = 2 * k + 2 by omega, Nat.pow_add]; omega
 rw [h1];omega
theorem Sz.sub {k : Nat} {x y : Dyadic} (hx : Sz k x) (hy : Sz k y) : Sz (k + 1) (x - y) := hx.add hy.neg
theorem Sz.mul {k l : Nat} {x y : Dyadic} (hx : Sz k x) (hy : Sz l y) : Sz (k + l) (x * y) := by
 obtain ⟨i, rfl, hi⟩ := hx;obtain ⟨j, rfl, hj⟩ := hy;rw [zv];refine ⟨i * j, by rw [Int.natCast_add], ?_⟩;rw [Int.natAbs_mul, Nat.mul_add, Nat.pow_add];exact Nat.mul_lt_mul'' hi hj
theorem oZ {i : Int} (h : i ≠ 0) : 2 ^ i.trailingZeros ≤ i.natAbs := by
 have h1 := Int.two_pow_trailingZeros_dvd h;have h2 := Int.natAbs_dvd_natAbs.2 h1;rw [Int.natAbs_pow] at h2;exact Nat.le_of_dvd Ky h2
theorem Sz.nr {k : Nat} {x : Dyadic} (h : Sz k x) : (nR x).cA.size ≤ (2 * k + 7) / 8 ∧ -(k : Int) ≤ (nR x).e ∧ (nR x).e ≤ k := by
 obtain ⟨i, rfl, hi⟩ := h;by_cases h0 : i = 0
 ·subst h0;rw [lV, oC];exact ⟨Nat.zero_le _, (by omega : -(k : Int) ≤ 0), (by omega : (0 : Int) ≤ k)⟩
 ·have h2 := oZ h0;rw [z7 h0, nR];simp only;refine ⟨?_, Ky, ?_⟩
  ·rw [eU];have : bU (i >>> i.trailingZeros).natAbs ≤ 2 * k := by
    apply dQ;refine Nat.lt_of_le_of_lt ?_ hi;rw [Int.shiftRight_eq_div_pow];exact Int.natAbs_ediv_le_natAbs _ _
   omega
  ·have h3 : 2 ^ i.trailingZeros < 2 ^ (2 * k) := Nat.lt_of_le_of_lt h2 hi;have := (Nat.pow_lt_pow_iff_right Ky).1 h3;omega
theorem Sz.raw {a : NR} {m E : Nat} (hm : 8 * a.cA.size ≤ m) (h1 : -(E : Int) ≤ a.e) (h2 : a.e ≤ E) : Sz (m + E) a.d := by
 refine ⟨a.i * 2 ^ (a.e + m + E).toNat, k4 _ Ky, ?_⟩;have h3 : a.i.natAbs < 2 ^ m := by
  rw [NR.i, jI];refine Nat.lt_of_lt_of_le (dL _) (Nat.pow_le_pow_right Ky ?_);have := gM a.cA;omega
 rw [Int.natAbs_mul, Int.natAbs_pow];have h4 := Nat.mul_lt_mul_of_pos_right h3 (Nat.pow_pos (n := (a.e + m + E).toNat) (show 0 < 2 by omega));rw [← Nat.pow_add] at h4;exact Nat.lt_of_lt_of_le h4 (Nat.pow_le_pow_right Ky Ky)
def Am (i n : Int) : Int := if 0 ≤ n then i * 2 ^ n.toNat else i / 2 ^ (-n).toNat
theorem CI (n : Int) : Am 0 n = 0 := by unfold Am; split <;> simp
def cV : Dyadic → Int → Int
 | .zero, _ => 0
 | .ofOdd n k _, p => Am n (p - k)
def dx : Dyadic → Dyadic → Int
 | .zero, .zero => 0
 | .zero, .ofOdd _ k _ => k
 | .ofOdd _ k _, .zero => k
 | .ofOdd _ k _, .ofOdd _ l _ => max k l
theorem mi (n k p : Int) (h : n % 2 = 1) (hp : k ≤ p) : Dyadic.ofIntWithPrec (cV (.ofOdd n k h) p) p = .ofOdd n k h := by
 simp only [cV];rw [Aq, Am, if_pos Ky];exact (k4 n Ky).symm
theorem C9 (x y : Dyadic) : Dyadic.ofIntWithPrec (cV x (dx x y)) (dx x y) = x := by
 cases x with
 | zero => rfl
 | ofOdd n k h =>
  cases y with
  | zero => exact mi _ _ _ _ (Int.le_refl _)
  | ofOdd m l g => exact mi _ _ _ _ (Int.le_max_left _ _)
theorem Ei (x y : Dyadic) : Dyadic.ofIntWithPrec (cV y (dx x y)) (dx x y) = y := by
 cases y with
 | zero => rfl
 | ofOdd n k h =>
  cases x with
  | zero => exact mi _ _ _ _ (Int.le_refl _)
  | ofOdd m l g => exact mi _ _ _ _ (Int.le_max_right _ _)
theorem Gf (x y : Dyadic) : Dyadic.ofIntWithPrec (cV x (dx x y) + cV y (dx x y)) (dx x y) = x + y := by
 rw [← uz, C9, Ei]
theorem DZ (i n : Int) : bU (Am i n).natAbs ≤ bU i.natAbs + n.toNat := by
 unfold Am;split
 ·rw [Int.natAbs_mul, Int.natAbs_pow];exact nS _ _
 ·have : bU (i / 2 ^ (-n).toNat).natAbs ≤ bU i.natAbs := dQ (Nat.lt_of_le_of_lt (Int.natAbs_ediv_le_natAbs _ _) (dL _));omega
theorem AW (x y : Dyadic) (E : Int) (h1 : -E ≤ (nR x).e ∧ (nR x).e ≤ E) (h2 : -E ≤ (nR y).e ∧ (nR y).e ≤ E) : -E ≤ dx x y ∧ dx x y ≤ E := by
 cases x <;> cases y <;> simp only [nR, dx] at * <;> omega
theorem qO (x : Dyadic) (p : Int) : bU (cV x p).natAbs ≤ 8 * (nR x).cA.size + (p + (nR x).e).toNat := by
 cases x with
 | zero => simp [cV, ko]
 | ofOdd n k h =>
  have h1 := DZ n (p - k);have h2 := gM (iM n);rw [iM, fg] at h2;simp only [cV, nR];rw [show p + -k = p - k by omega];rw [← iM] at h2;omega
end Go.Proofs.YtaapkaefelhfcaaGreatDoor
/- Several texts in one: Dyad, DyadB, DyadC, CmpD. -/
namespace Go.Proofs.YtaapkaefelhfcaaGreatDoor
open Go.RowKit
variable {ro : Mode}
theorem CG {P : Program} {t : TypeId} {n by' : Nat} {zc : List Value} {cs : Array Value} {off : Nat} {v : Value} (ht : dP P t = some (n, false, by', zc)) (hv : cs[off]? = some v) (w : World) : (part t cs off).run P w = .ok v w := by
 simp [part, iJ ht, hv]
theorem Ir {P : Program} {t : TypeId} {n by' : Nat} {zc : List Value} {cs vs : Array Value} {off : Nat} (ht : dP P t = some (n, true, by', zc)) (hv : cs.extract off (off + n) = vs) (w : World) : (part t cs off).run P w = .ok (.agg vs) w := by
 simp [part, iJ ht, eM ht, hv]
theorem I6 (n : Nat) (a b : Bool) (w : World) : (Op.equalIn (n + 1) 4 (.bool a) (.bool b)).run Tryz.prog w = .ok (a == b) w := by
 simp [Op.equalIn, run_underlying Tryz.underlying4]
theorem I9 (n : Nat) (a b : ByteArray) (w : World) : (Op.equalIn (n + 1) 9 (.string a) (.string b)).run Tryz.prog w = .ok (a == b) w := by
 simp [Op.equalIn, run_underlying Tryz.underlying9]
theorem Ja (n : Nat) (a b : Int) (w : World) : (Op.equalIn (n + 1) 3 (.int .i64 a) (.int .i64 b)).run Tryz.prog w = .ok (a == b) w := by
 simp [Op.equalIn, run_underlying Tryz.underlying3]
theorem eq_int (n : Nat) (s s' : Bool) (a a' : ByteArray) (w : World) : (Op.equalIn (n + 2) 27 (.agg #[.bool s, .string a]) (.agg #[.bool s', .string a'])).run Tryz.prog w = .ok (s == s' && a == a') w := by
 have h1 := fun (x : Bool) (y : ByteArray) => CG (P := Tryz.prog) (cs := #[.bool x, .string y]) (off := 0) (aF.out (P := Tryz.prog) (t := 4)) rfl;have h2 := fun (x : Bool) (y : ByteArray) => CG (P := Tryz.prog) (cs := #[.bool x, .string y]) (off := 1) (aF.out (P := Tryz.prog) (t := 9)) rfl;rw [Op.equalIn];simp [run_underlying Tryz.underlying27, h1, h2, I6, I9]
 cases h : s == s' <;> cases h' : a == a' <;> simp_all
theorem Es (n : Nat) (s s' : Bool) (a a' : ByteArray) (e e' : Int) (w : World) : (Op.equalIn (n + 3) 29 (.agg #[.bool s, .string a, .int .i64 e]) (.agg #[.bool s', .string a', .int .i64 e'])).run Tryz.prog w = .ok ((s == s' && a == a') && e == e') w := by
 have h1 := fun (x : Bool) (y : ByteArray) (z : Int) => Ir (P := Tryz.prog) (cs := #[.bool x, .string y, .int .i64 z]) (vs := #[.bool x, .string y]) (off := 0) (aF.out (P := Tryz.prog) (t := 27)) rfl;have h2 := fun (x : Bool) (y : ByteArray) (z : Int) => CG (P := Tryz.prog) (cs := #[.bool x, .string y, .int .i64 z]) (off := 2) (aF.out (P := Tryz.prog) (t := 3)) rfl;rw [Op.equalIn];simp [run_underlying Tryz.underlying29, h1, h2, eq_int, Ja]
 cases h : s == s' <;> cases h' : a == a' <;> cases h2 : e == e' <;> simp_all
section
variable {ρ : Rf} {w : World} {d : Option Nat} {ty u : TypeId} {pos : String} {af : Array Edge} {g : Option (Nat × Bool)} {x y : Operand} {s s' : Bool} {a a' : ByteArray} {e e' : Int}
theorem Ha {a b : ByteArray} : (a == b) = true ↔ a = b := by
 have : (a == b) = (a.data == b.data) := rfl;rw [this, beq_iff_eq];exact ⟨fun h => by cases a; cases b; simp_all, fun h => by rw [h]⟩
theorem nT : ((s == s' && a == a') && e == e') = true ↔ NR.mk s a e = NR.mk s' a' e' := by
 rw [Bool.and_eq_true, Bool.and_eq_true, beq_iff_eq, Ha, beq_iff_eq, NR.mk.injEq, and_assoc]
theorem GK {r : Bool} (hx : ev ρ x = .agg #[.bool s, .string a, .int .i64 e]) (hy : ev ρ y = .agg #[.bool s', .string a', .int .i64 e']) (hr : ((s == s' && a == a') && e == e') = r) :
  (execOp (ev ρ) ⟨d, .binOp .eql 29 x y u, ty, pos, af, g⟩).run Tryz.prog w = .ok (.value (.bool r)) w := by
 have h1 : (Op.equal 29 (.agg #[.bool s, .string a, .int .i64 e]) (.agg #[.bool s', .string a', .int .i64 e'])).run Tryz.prog w = .ok r w := by rw [← hr]; exact Es 9997 s s' a a' e e' w
 simp only [execOp, hx, hy];simp [eqGuard, binOp, h1]
theorem GP {r : Bool} (hx : ev ρ x = .agg #[.bool s, .string a, .int .i64 e]) (hy : ev ρ y = .agg #[.bool s', .string a', .int .i64 e']) (hr : ((s == s' && a == a') && e == e') = r) :
  (execOp (ev ρ) ⟨d, .binOp .neq 29 x y u, ty, pos, af, g⟩).run Tryz.prog w = .ok (.value (.bool !r)) w := by
 have h1 : (Op.equal 29 (.agg #[.bool s, .string a, .int .i64 e]) (.agg #[.bool s', .string a', .int .i64 e'])).run Tryz.prog w = .ok r w := by rw [← hr]; exact Es 9997 s s' a a' e e' w
 simp only [execOp, hx, hy];simp [eqGuard, binOp, h1]
theorem Fo (hx : ev ρ x = .agg #[.bool s, .string a, .int .i64 e]) (hy : ev ρ y = .agg #[.bool s', .string a', .int .i64 e']) (h : NR.mk s a e = NR.mk s' a' e') :
  (execOp (ev ρ) ⟨d, .binOp .eql 29 x y u, ty, pos, af, g⟩).run Tryz.prog w = .ok (.value (.bool true)) w := GK hx hy (nT.2 h)
theorem Fw (hx : ev ρ x = .agg #[.bool s, .string a, .int .i64 e]) (hy : ev ρ y = .agg #[.bool s', .string a', .int .i64 e']) (h : ¬ NR.mk s a e = NR.mk s' a' e') :
  (execOp (ev ρ) ⟨d, .binOp .eql 29 x y u, ty, pos, af, g⟩).run Tryz.prog w = .ok (.value (.bool false)) w := GK hx hy (by rw [Bool.eq_false_iff]; exact fun h1 => h (nT.1 h1))
theorem qo (hx : ev ρ x = .agg #[.bool s, .string a, .int .i64 e]) (hy : ev ρ y = .agg #[.bool s', .string a', .int .i64 e']) (h : NR.mk s a e = NR.mk s' a' e') :
  (execOp (ev ρ) ⟨d, .binOp .neq 29 x y u, ty, pos, af, g⟩).run Tryz.prog w = .ok (.value (.bool false)) w := GP hx hy (nT.2 h)
theorem zX (hx : ev ρ x = .agg #[.bool s, .string a, .int .i64 e]) (hy : ev ρ y = .agg #[.bool s', .string a', .int .i64 e']) (h : ¬ NR.mk s a e = NR.mk s' a' e') :
  (execOp (ev ρ) ⟨d, .binOp .neq 29 x y u, ty, pos, af, g⟩).run Tryz.prog w = .ok (.value (.bool true)) w := GP hx hy (r := false) (by rw [Bool.eq_false_iff]; exact fun h1 => h (nT.1 h1))
end
section
variable {N : Nat} {ops : Array Oper} {Q : Kq} {ρ : Rf} {w : World} {rest : List Oper} {d : Nat} {ty u : TypeId} {pos : String} {af : Array Edge} {x y : Operand} {s s' : Bool} {a a' : ByteArray} {e e' : Int}
theorem Ba (hx : ev ρ x = .agg #[.bool s, .string a, .int .i64 e]) (hy : ev ρ y = .agg #[.bool s', .string a', .int .i64 e']) (h : NR.mk s a e = NR.mk s' a' e') (hN : d < N) (kk : WL ro Tryz.prog N ops Q rest (de ρ d (.bool true)) w) :
  WL ro Tryz.prog N ops Q (⟨some d, .binOp .eql 29 x y u, ty, pos, af, none⟩ :: rest) ρ w := bp rfl rfl hN (Fo hx hy h) kk
theorem uE (hx : ev ρ x = .agg #[.bool s, .string a, .int .i64 e]) (hy : ev ρ y = .agg #[.bool s', .string a', .int .i64 e']) (h : ¬ NR.mk s a e = NR.mk s' a' e') (hN : d < N) (kk : WL ro Tryz.prog N ops Q rest (de ρ d (.bool false)) w) :
  WL ro Tryz.prog N ops Q (⟨some d, .binOp .eql 29 x y u, ty, pos, af, none⟩ :: rest) ρ w := bp rfl rfl hN (Fw hx hy h) kk
theorem Ge (hx : ev ρ x = .agg #[.bool s, .string a, .int .i64 e]) (hy : ev ρ y = .agg #[.bool s', .string a', .int .i64 e']) (h : ¬ NR.mk s a e = NR.mk s' a' e') (hN : d < N) (kk : WL ro Tryz.prog N ops Q rest (de ρ d (.bool true)) w) :
  WL ro Tryz.prog N ops Q (⟨some d, .binOp .neq 29 x y u, ty, pos, af, none⟩ :: rest) ρ w := bp rfl rfl hN (zX hx hy h) kk
theorem zU (hx : ev ρ x = .agg #[.bool s, .string a, .int .i64 e]) (hy : ev ρ y = .agg #[.bool s', .string a', .int .i64 e']) (h : NR.mk s a e = NR.mk s' a' e') (hN : d < N) (kk : WL ro Tryz.prog N ops Q rest (de ρ d (.bool false)) w) :
  WL ro Tryz.prog N ops Q (⟨some d, .binOp .neq 29 x y u, ty, pos, af, none⟩ :: rest) ρ w := bp rfl rfl hN (qo hx hy h) kk
end
theorem nC (s : Bool) (a : ByteArray) (n : Int) (w : World) (hT : eP w) (ha : a.size ≤ 100000000) (h1 : -1000000000 ≤ n) (h2 : n ≤ 1000000000) :
  Calls Tryz.prog 224 #[.agg #[.bool s, .string a], .int .i64 n] w fun e w' => e = .returned (.agg #[.bool (iN (Am (iv s a) n)), .string (iM (Am (iv s a) n))]) ∧ Below w.heap.size w w' := by
 unfold Am;by_cases h : 0 ≤ n
 ·rw [if_pos h];obtain ⟨m, rfl⟩ := Int.eq_ofNat_of_zero_le h;rw [Int.toNat_natCast];exact zm s a m w ha Ky
 ·rw [if_neg h];obtain ⟨m, hm⟩ := Int.eq_ofNat_of_zero_le (show 0 ≤ -n by omega);rw [hm, Int.toNat_natCast, show n = -(m : Int) by omega];exact y9 s a m w hT ha Ky Ky
theorem jf (s : Bool) (a : ByteArray) (e : Int) (w : World) (hT : eP w) (ha : a.size ≤ 100000000) (h1 : -1000000000000 ≤ e) (h2 : e ≤ 1000000000000) :
  Calls Tryz.prog 164 #[.agg #[.bool s, .string a], .int .i64 e] w fun r w' => r = .returned (.agg #[.bool (nR (Dyadic.ofIntWithPrec (iv s a) (-e))).neg, .string (nR (Dyadic.ofIntWithPrec (iv s a) (-e))).cA, .int .i64 (nR (Dyadic.ofIntWithPrec (iv s a) (-e))).e]) ∧ Below w.heap.size w w' := by
 have hh := Hp.start w;by_cases h0 : iv s a = 0
 ·rw [h0, lV, oC];refine al (N := 21) (l := [.agg #[.bool s, .string a], .int .i64 e]) Tryz.func164 rfl rfl (by simp) ?_;refine sr ?_;refine db hh [_,_] ?_;intro b2 w2 hh;refine cB hh ?_;intro b4 w4 hh;refine aa (ah (sr ?_));refine cR hh 1 [_,_] ?_;refine bE hh (j5 s a _) rfl ?_;intro w7 hh;rw [h0];refine dh (aa (cT (sr ?_)));refine e9 [_,_,_] ?_;refine bK hh 0 [_,_,_] ?_;intro ws hh;replace hh : Hp _ (.blk _ _ [_, _, _] _ :: _) _ := hh;refine aa (ao (aG ?_));refine iZ (aT rfl (aU (vs := [_, _, _]) aF.out (hh.aC (i := 0) (n := 3) rfl rfl) rfl) bq) ?_;exact ⟨rfl, hh.below⟩
 ·have hs : (iv s a).sign ≠ 0 := by rw [ne_eq, Int.sign_eq_zero_iff_zero]; exact h0
  rw [oN h0];have hz : bN a ≠ 0 := fun h => h0 ((AG s a).2 h);have htz : tz (bN a) < 8 * a.size + 1 := by
   have := sY a;rw [show (256 : Nat) = 2 ^ 8 from rfl, ← Nat.pow_mul] at this;have := ta hz this;omega
  have hsh : Am (iv s a) (-(tz (bN a) : Int)) = iv s a / 2 ^ tz (bN a) := by
   unfold Am;split
   ·have : tz (bN a) = 0 := Ky;rw [this]; simp
   ·rw [Int.neg_neg, Int.toNat_natCast]
  refine al (N := 21) (l := [.agg #[.bool s, .string a], .int .i64 e]) Tryz.func164 rfl rfl (by simp) ?_;refine sr ?_;refine db hh [_,_] ?_;intro b2 w2 hh;refine cB hh ?_;intro b4 w4 hh;refine aa (ah (sr ?_));refine cR hh 1 [_,_] ?_;refine bE hh (j5 s a _) rfl ?_;intro w7 hh;refine dh (aa (cF (ak (ai (sr (bP ?_))))));refine bR hh 1 ?_;refine bE hh (jH a _ Ky (hT.hp hh)) rfl ?_;intro w12 hh;refine aI (aa (sr ?_));refine cR hh 1 [_,_] (mI ?_);refine uP rfl Ky Ky Kz ?_;refine bE hh (nC s a (-(tz (bN a) : Int)) _ (hT.hp hh) ha Ky Ky) rfl ?_;intro w16 hh;rw [hsh];refine mI (mI ?_);refine bB ?_;refine e9 [_,_,_] ?_;refine bK hh 0 [_,_,_] ?_;intro ws hh;replace hh : Hp _ (.blk _ _ [_, _, _] _ :: _) _ := hh;refine aa (ao ?_);refine iZ (aT rfl (aU (vs := [_, _, _]) aF.out (hh.aC (i := 0) (n := 3) rfl rfl) rfl) bq) ?_;exact ⟨rfl, hh.below⟩
def NR.ok (a : NR) : Prop := a.cA.size ≤ 1000000 ∧ -10000000 ≤ a.e ∧ a.e ≤ 10000000
theorem Sz.ok {k : Nat} {x : Dyadic} (h : Sz k x) (hk : k ≤ 3999990) : (nR x).ok := by
 have := h.nr;refine ⟨Ky, Ky, Ky⟩
theorem jy (n : Int) (w : World) (hT : eP w) (h1 : -9223372036854775808 ≤ n) (h2 : n ≤ 9223372036854775807) :
  Calls Tryz.prog 68 #[.int .i64 n] w fun r w' => r = .returned (.agg #[.bool (nR (n : Dyadic)).neg, .string (nR (n : Dyadic)).cA, .int .i64 (nR (n : Dyadic)).e]) ∧ Below w.heap.size w w' := by
 have hh := Hp.start w;have hsz : (iM n).size ≤ 100000000 := by
  rw [eU];have : bU n.natAbs ≤ 64 := dQ Ky;omega
 have hc : ∀ w1, eP w1 → Calls Tryz.prog 164 #[.agg #[.bool (iN n), .string (iM n)], .int .i64 0] w1 fun r w' => r = .returned (.agg #[.bool (nR (n : Dyadic)).neg, .string (nR (n : Dyadic)).cA, .int .i64 (nR (n : Dyadic)).e]) ∧ Below w1.heap.size w1 w' := fun w1 hT1 => by
  have := jf (iN n) (iM n) 0 w1 hT1 hsz Ky Ky;rw [fL] at this;exact this
 refine al (N := 6) (l := [.int .i64 n]) Tryz.func68 rfl rfl (by simp) ?_;refine sr ?_;refine cB hh ?_;intro b2 w2 hh;refine aa (sr (mI ?_));refine bE hh (o9 n _ h1 h2) rfl ?_;intro w4 hh;refine bE hh (hc _ (hT.hp hh)) rfl ?_;intro w5 hh;refine bK hh 0 [_,_,_] ?_;intro ws hh;replace hh : Hp _ (.blk _ _ [_, _, _] _ :: _) _ := hh;refine aa (ao ?_);refine iZ (aT rfl (aU (vs := [_, _, _]) aF.out (hh.aC (i := 0) (n := 3) rfl rfl) rfl) bq) ?_;exact ⟨rfl, hh.below⟩
theorem eB (a : NR) (w : World) (hT : eP w) (ha : a.cA.size ≤ 100000000) (h1 : -1000000000000 ≤ a.e) (h2 : a.e ≤ 1000000000000) :
  Calls Tryz.prog 159 #[.agg #[.bool a.neg, .string a.cA, .int .i64 a.e]] w fun r w' => r = .returned (.agg #[.bool (nR a.d).neg, .string (nR a.d).cA, .int .i64 (nR a.d).e]) ∧ Below w.heap.size w w' := by
 have hh := Hp.start w;refine al (N := 8) (l := [.agg #[.bool a.neg, .string a.cA, .int .i64 a.e]]) Tryz.func159 rfl rfl (by simp) ?_;refine sr ?_;refine db hh [_,_,_] ?_;intro b1 w1 hh;refine cB hh ?_;intro b2 w2 hh;refine aa (sr (bP ?_));refine cR hh 1 [_,_] (bP ?_);refine bR hh 1 ?_;refine bE hh (jf a.neg a.cA a.e _ (hT.hp hh) ha h1 h2) rfl ?_;intro w7 hh;refine bK hh 0 [_,_,_] ?_;intro ws hh;replace hh : Hp _ (.blk _ _ [_, _, _] _ :: _) _ := hh;refine aa (ao ?_);refine iZ (aT rfl (aU (vs := [_, _, _]) aF.out (hh.aC (i := 0) (n := 3) rfl rfl) rfl) bq) ?_;exact ⟨rfl, hh.below⟩
theorem fS (a : NR) (w : World) :
  Calls Tryz.prog 180 #[.agg #[.bool a.neg, .string a.cA, .int .i64 a.e]] w fun r w' => r = .returned (.int .i64 a.i.sign) ∧ Below w.heap.size w w' := by
 have hh := Hp.start w;refine al (N := 6) (l := [.agg #[.bool a.neg, .string a.cA, .int .i64 a.e]]) Tryz.func180 rfl rfl (by simp) ?_;refine sr ?_;refine db hh [_,_,_] ?_;intro b1 w1 hh;refine aI (aa (sr (bP ?_)));refine cR hh 0 [_,_] ?_;refine bE hh (j5 a.neg a.cA _) rfl ?_;intro w5 hh;refine aI (aa (ao ?_));refine cq ?_;exact ⟨rfl, hh.below⟩
theorem yN (a : NR) (w : World) (hT : eP w) (ha : a.cA.size ≤ 100000000) (h1 : -1000000000000 ≤ a.e) (h2 : a.e ≤ 1000000000000) :
  Calls Tryz.prog 146 #[.agg #[.bool a.neg, .string a.cA, .int .i64 a.e]] w fun r w' => r = .returned (.agg #[.bool (nR (-a.d)).neg, .string (nR (-a.d)).cA, .int .i64 (nR (-a.d)).e]) ∧ Below w.heap.size w w' := by
 have hh := Hp.start w;have hc : ∀ w1, eP w1 → Calls Tryz.prog 164 #[.agg #[.bool (iN (-(iv a.neg a.cA))), .string (iM (-(iv a.neg a.cA)))], .int .i64 a.e] w1 fun r w' => r = .returned (.agg #[.bool (nR (-a.d)).neg, .string (nR (-a.d)).cA, .int .i64 (nR (-a.d)).e]) ∧ Below w1.heap.size w1 w' := fun w1 hT1 => by
  have hs := pH a.neg a.cA;have := jf (iN (-(iv a.neg a.cA))) (iM (-(iv a.neg a.cA))) a.e w1 hT1 Ky h1 h2;rw [fL, ← zJ] at this;exact this
 refine al (N := 9) (l := [.agg #[.bool a.neg, .string a.cA, .int .i64 a.e]]) Tryz.func146 rfl rfl (by simp) ?_;refine sr ?_;refine db hh [_,_,_] ?_;intro b1 w1 hh;refine cB hh ?_;intro b2 w2 hh;refine aa (ah ?_);refine a8 5 [[(1, none)], [(3, some 0)], [(4, some 1)], [(1, none)], [(6, some 3)]] [(4, 7), (3, 6), (2, 5), (1, 4), (0, 3)] hh mixed KA ?_;refine eA ?_;refine gY 1 [_,_] ?_;refine dC (fun _ hj => rT a.neg a.cA _) ?_;refine eA ?_;refine fQ 1 ?_;refine bA ?_;intro f W hJ hV;have hb_1 := hJ.bl;obtain ⟨v7, v6, v5, v4, v3, _⟩ := hV;replace hh := hJ.hp;refine bj (bC (ae v7 (ae v6 (ae v5 (ae v4 (ae v3 bh)))))) ?_;dsimp only [cP];clear hJ;refine bE hh (hc _ (hT.hp hh)) rfl ?_;intro w8 hh;refine bK hh 0 [_,_,_] ?_;intro ws hh;replace hh : Hp _ (.blk _ _ [_, _, _] _ :: _) _ := hh;refine aa (ao ?_);refine iZ (aT rfl (aU (vs := [_, _, _]) aF.out (hh.aC (i := 0) (n := 3) rfl rfl) rfl) bq) ?_;exact ⟨rfl, hh.below⟩
theorem sT (s : Int) (a : NR) (w : World) (hT : eP w) (ha : a.cA.size ≤ 100000000) (h1 : -1000000000 ≤ a.e - s) (h2 : a.e - s ≤ 1000000000) :
  Calls Tryz.prog 221 #[.int .i64 s, .agg #[.bool a.neg, .string a.cA, .int .i64 a.e]] w fun r w' => r = .returned (.agg #[.bool (iN (Am a.i (a.e - s))), .string (iM (Am a.i (a.e - s)))]) ∧ Below w.heap.size w w' := by
 have hh := Hp.start w;refine al (N := 12) (l := [.int .i64 s, .agg #[.bool a.neg, .string a.cA, .int .i64 a.e]]) Tryz.func221 rfl rfl (by simp) ?_;refine sr ?_;refine db hh [_,_,_] ?_;intro b3 w3 hh;refine cB hh ?_;intro b4 w4 hh;refine aa (sr (bP ?_));refine cR hh 1 [_,_] (bP ?_);refine bR hh 1 ?_;refine mI ?_;refine eO ?_;refine bE hh (nC a.neg a.cA (a.e - s) _ (hT.hp hh) ha h1 h2) rfl ?_;intro w11 hh;refine bK hh 0 [_,_] ?_;intro ws hh;replace hh : Hp _ (.blk _ _ [_, _] _ :: _) _ := hh;refine aa (ao ?_);refine iZ (aT rfl (aU (vs := [_, _]) aF.out (hh.aC (i := 0) (n := 2) rfl rfl) rfl) bq) ?_;exact ⟨rfl, hh.below⟩
theorem y6 (x : Dyadic) (p : Int) : Am (nR x).i ((nR x).e - -p) = cV x p := by
 cases x with
 | zero => exact CI _
 | ofOdd n k h =>
  simp only [nR, NR.i, fL, cV];congr 1;omega
theorem j9 (x : Dyadic) : nR x = ⟨false, ByteArray.mk #[], 0⟩ ↔ x = 0 := by rw [← oC, HV]
theorem oD {a : NR} (h : a.ok) : Sz 18000000 a.d ∧ (nR a.d).cA.size ≤ 1000000 ∧ -18000000 ≤ (nR a.d).e ∧ (nR a.d).e ≤ 18000000 := by
 obtain ⟨h1, h2, h3⟩ := h;refine ⟨Sz.raw (m := 8000000) (E := 10000000) Ky Ky Ky, ?_⟩;by_cases h0 : iv a.neg a.cA = 0
 ·rw [NR.d, NR.i, h0, lV, oC];exact ⟨Nat.zero_le _, by simp, by simp⟩
 ·rw [NR.d, NR.i, oN h0];have hz : bN a.cA ≠ 0 := fun h => h0 ((AG a.neg a.cA).2 h);have htz : tz (bN a.cA) < 8 * a.cA.size + 1 := by
   have := sY a.cA;rw [show (256 : Nat) = 2 ^ 8 from rfl, ← Nat.pow_mul] at this;have := ta hz this;omega
  have hb : bU (iv a.neg a.cA / 2 ^ tz (bN a.cA)).natAbs ≤ 8 * a.cA.size := by
   apply dQ;refine Nat.lt_of_le_of_lt (Int.natAbs_ediv_le_natAbs _ _) ?_;rw [jI];exact Nat.lt_of_lt_of_le (dL _) (Nat.pow_le_pow_right Ky (gM _))
  simp only;rw [eU];refine ⟨Ky, Ky, Ky⟩
theorem n4 (a b : NR) (w : World) (hT : eP w) (ha : a.ok) (hb : b.ok) :
  Calls Tryz.prog 163 #[.agg #[.bool a.neg, .string a.cA, .int .i64 a.e], .agg #[.bool b.neg, .string b.cA, .int .i64 b.e]] w fun r w' => r = .returned (.agg #[.int .i64 (-(dx a.d b.d)), .bool (iN (cV a.d (dx a.d b.d))), .string (iM (cV a.d (dx a.d b.d))), .bool (iN (cV b.d (dx a.d b.d))), .string (iM (cV b.d (dx a.d b.d)))]) ∧ Below w.heap.size w w' := by
 have hh := Hp.start w;obtain ⟨ha1, ha2, ha3⟩ := ha;obtain ⟨hb1, hb2, hb3⟩ := hb;obtain ⟨_, fa1, fa2, fa3⟩ := oD (a := a) ⟨ha1, ha2, ha3⟩;obtain ⟨_, fb1, fb2, fb3⟩ := oD (a := b) ⟨hb1, hb2, hb3⟩;have hP := AW a.d b.d 18000000 Ky Ky;have hcx := fun w1 hT1 => sT (-(dx a.d b.d)) (nR a.d) w1 hT1 Ky Ky Ky;have hcy := fun w1 hT1 => sT (-(dx a.d b.d)) (nR b.d) w1 hT1 Ky Ky Ky;rw [y6] at hcx hcy;by_cases h0 : a.d = 0
 ·have h0' := (j9 a.d).2 h0;have hs : (nR b.d).e = -(dx a.d b.d) := by
   rw [h0]
   cases b.d with
   | zero => rfl
   | ofOdd n k h => rfl
  refine al (N := 41) (l := [.agg #[.bool a.neg, .string a.cA, .int .i64 a.e], .agg #[.bool b.neg, .string b.cA, .int .i64 b.e]]) Tryz.func163 rfl rfl (by simp) ?_;refine sr ?_;refine db hh [_,_,_] ?_;intro b2 w2 hh;refine db hh [_,_,_] ?_;intro b3 w3 hh;refine cB hh ?_;intro b4 w4 hh;refine aa (ah ?_);refine a8 3 [[(2, none)], [(7, some 0)], [(3, none)]] [(2, 9), (1, 8), (0, 7)] hh mixed KA ?_;refine gY 2 [_,_,_] ?_;refine dC (fun _ hj => eB a _ (hT.hp hj.hp) Ky Ky Ky) ?_;refine gY 1 [_,_,_] ?_;refine bA ?_;intro f W hJ hV;have hb_1 := hJ.bl;obtain ⟨v9, v8, v7, _⟩ := hV;replace hh := hJ.hp;refine bj (bC (ae v9 (ae v8 (ae v7 bh)))) ?_;dsimp only [cP];clear hJ;refine bE hh (eB b _ (hT.hp hh) Ky Ky Ky) rfl ?_;intro w10 hh;refine bK hh 2 [_,_,_] ?_;intro ws hh;replace hh : Hp _ (_ :: _ :: .blk _ _ [_, _, _] _ :: _) _ := hh;refine bK hh 1 [_,_,_] ?_;intro ws hh;replace hh : Hp _ (_ :: .blk _ _ [_, _, _] _ :: _) _ := hh;refine aa (sr (bP ?_));refine bR hh 2 ?_;refine bP ?_;refine bR hh 1 ?_;refine xD rfl rfl Kz ?_;refine aI (aa (ah (aj (sr ?_))));refine cR hh 2 [_,_,_] ?_;refine e9 [_,_,_] ?_;refine Ba rfl rfl (by first | assumption | rfl) Kz ?_;refine aB (aa (cT (aq (bP ?_))))
  refine bR hh 1 ?_;refine aI (aE (aP (ai (sr ?_))));rw [hs];refine mI ?_;refine e9 [_,_,_,_,_] ?_;refine cB hh ?_;intro b6 w6 hh;refine bK hh 0 [_,_,_,_,_] ?_;intro ws hh;replace hh : Hp _ (.blk _ _ [_, _, _, _, _] _ :: _) _ := hh;refine aa (ah ?_);refine a8 9 [[(6, none)], [(30, some 0)], [(2, none)], [(31, some 1), (32, some 2)], [(6, none)], [(34, some 4)], [(3, none)], [(35, some 5), (36, some 6)], [(6, none)]] [(8, 38), (7, 37), (6, 36), (5, 35), (4, 34), (3, 33), (2, 32), (1, 31), (0, 30)] hh mixed KA ?_;refine eA ?_;refine fQ 0 ?_;refine gY 3 [_,_,_] ?_;refine dC (fun _ hj => hcx _ (hT.hp hj.hp)) ?_;refine eA ?_;refine fQ 0 ?_;refine gY 2 [_,_,_] ?_;refine dC (fun _ hj => hcy _ (hT.hp hj.hp)) ?_;refine eA ?_;refine bA ?_;intro f W hJ hV;have hb_8 := hJ.bl;obtain ⟨v38, v37, v36, v35, v34, v33, v32, v31, v30, _⟩ := hV;replace hh := hJ.hp;refine bj (bC (ae v38 (ae v37 (ae v36 (ae v35 (ae v34 (ae v33 (ae v32 (ae v31 (ae v30 bh)))))))))) ?_;dsimp only [cP];clear hJ;refine bK hh 0 [_,_] ?_;intro ws hh;replace hh : Hp _ (.blk _ _ [_, _, _, _, _] _ :: _) _ := hh;refine bP ?_;refine bK hh 0 [_,_] ?_;intro ws hh;replace hh : Hp _ (.blk _ _ [_, _, _, _, _] _ :: _) _ := hh
  refine aa (sr ?_);refine cR hh 0 [_,_,_,_,_] ?_;refine bK hh 1 [_,_,_,_,_] ?_;intro ws hh;replace hh : Hp _ (_ :: .blk _ _ [_, _, _, _, _] _ :: _) _ := hh;refine aa (ao ?_);refine iZ (aT rfl (aU (vs := [_, _, _, _, _]) aF.out (hh.aC (i := 1) (n := 5) rfl rfl) rfl) bq) ?_;exact ⟨rfl, hh.below⟩
 ·have h0' : ¬ nR a.d = ⟨false, ByteArray.mk #[], 0⟩ := fun h => h0 ((j9 _).1 h);by_cases h1 : b.d = 0
  ·have h1' := (j9 b.d).2 h1;have hs : (nR a.d).e = -(dx a.d b.d) := by
    rw [h1]
    cases a.d with
    | zero => rfl
    | ofOdd n k h => rfl
   refine al (N := 41) (l := [.agg #[.bool a.neg, .string a.cA, .int .i64 a.e], .agg #[.bool b.neg, .string b.cA, .int .i64 b.e]]) Tryz.func163 rfl rfl (by simp) ?_;refine sr ?_;refine db hh [_,_,_] ?_;intro b2 w2 hh;refine db hh [_,_,_] ?_;intro b3 w3 hh;refine cB hh ?_;intro b4 w4 hh;refine aa (ah ?_);refine a8 3 [[(2, none)], [(7, some 0)], [(3, none)]] [(2, 9), (1, 8), (0, 7)] hh mixed KA ?_;refine gY 2 [_,_,_] ?_;refine dC (fun _ hj => eB a _ (hT.hp hj.hp) Ky Ky Ky) ?_;refine gY 1 [_,_,_] ?_;refine bA ?_;intro f W hJ hV;have hb_1 := hJ.bl;obtain ⟨v9, v8, v7, _⟩ := hV;replace hh := hJ.hp;refine bj (bC (ae v9 (ae v8 (ae v7 bh)))) ?_;dsimp only [cP];clear hJ;refine bE hh (eB b _ (hT.hp hh) Ky Ky Ky) rfl ?_;intro w10 hh;refine bK hh 2 [_,_,_] ?_;intro ws hh;replace hh : Hp _ (_ :: _ :: .blk _ _ [_, _, _] _ :: _) _ := hh;refine bK hh 1 [_,_,_] ?_;intro ws hh;replace hh : Hp _ (_ :: .blk _ _ [_, _, _] _ :: _) _ := hh;refine aa (sr (bP ?_));refine bR hh 2 ?_;refine bP ?_;refine bR hh 1 ?_;refine xD rfl rfl Kz ?_;refine aI (aa (ah (aj (sr ?_))));refine cR hh 2 [_,_,_] ?_;refine e9 [_,_,_] ?_;refine uE rfl rfl (by assumption) Kz ?_;refine aB (aa (cF (sr ?_)));refine cR hh 1 [_,_,_] ?_
   refine e9 [_,_,_] ?_;refine Ba rfl rfl (by first | assumption | rfl) Kz ?_;refine aB (aa (cT (aq (bP ?_))));refine bR hh 2 ?_;refine aI (aE (aP (ai (sr ?_))));rw [hs];refine mI ?_;refine e9 [_,_,_,_,_] ?_;refine cB hh ?_;intro b6 w6 hh;refine bK hh 0 [_,_,_,_,_] ?_;intro ws hh;replace hh : Hp _ (.blk _ _ [_, _, _, _, _] _ :: _) _ := hh;refine aa (ah ?_);refine a8 9 [[(6, none)], [(30, some 0)], [(2, none)], [(31, some 1), (32, some 2)], [(6, none)], [(34, some 4)], [(3, none)], [(35, some 5), (36, some 6)], [(6, none)]] [(8, 38), (7, 37), (6, 36), (5, 35), (4, 34), (3, 33), (2, 32), (1, 31), (0, 30)] hh mixed KA ?_;refine eA ?_;refine fQ 0 ?_;refine gY 3 [_,_,_] ?_;refine dC (fun _ hj => hcx _ (hT.hp hj.hp)) ?_;refine eA ?_;refine fQ 0 ?_;refine gY 2 [_,_,_] ?_;refine dC (fun _ hj => hcy _ (hT.hp hj.hp)) ?_;refine eA ?_;refine bA ?_;intro f W hJ hV;have hb_8 := hJ.bl;obtain ⟨v38, v37, v36, v35, v34, v33, v32, v31, v30, _⟩ := hV;replace hh := hJ.hp;refine bj (bC (ae v38 (ae v37 (ae v36 (ae v35 (ae v34 (ae v33 (ae v32 (ae v31 (ae v30 bh)))))))))) ?_;dsimp only [cP];clear hJ;refine bK hh 0 [_,_] ?_;intro ws hh;replace hh : Hp _ (.blk _ _ [_, _, _, _, _] _ :: _) _ := hh;refine bP ?_
   refine bK hh 0 [_,_] ?_;intro ws hh;replace hh : Hp _ (.blk _ _ [_, _, _, _, _] _ :: _) _ := hh;refine aa (sr ?_);refine cR hh 0 [_,_,_,_,_] ?_;refine bK hh 1 [_,_,_,_,_] ?_;intro ws hh;replace hh : Hp _ (_ :: .blk _ _ [_, _, _, _, _] _ :: _) _ := hh;refine aa (ao ?_);refine iZ (aT rfl (aU (vs := [_, _, _, _, _]) aF.out (hh.aC (i := 1) (n := 5) rfl rfl) rfl) bq) ?_;exact ⟨rfl, hh.below⟩
  ·have h1' : ¬ nR b.d = ⟨false, ByteArray.mk #[], 0⟩ := fun h => h1 ((j9 _).1 h);have hs : (if (nR b.d).e < (nR a.d).e then (nR b.d).e else (nR a.d).e) = -(dx a.d b.d) := by
    revert h0 h1
    cases a.d with
    | zero => intro h; exact absurd rfl h
    | ofOdd n k h =>
     cases b.d with
     | zero => intro _ h; exact absurd rfl h
     | ofOdd m l g =>
      intro _ _;simp only [nR, dx];omega
   refine al (N := 41) (l := [.agg #[.bool a.neg, .string a.cA, .int .i64 a.e], .agg #[.bool b.neg, .string b.cA, .int .i64 b.e]]) Tryz.func163 rfl rfl (by simp) ?_;refine sr ?_;refine db hh [_,_,_] ?_;intro b2 w2 hh;refine db hh [_,_,_] ?_;intro b3 w3 hh;refine cB hh ?_;intro b4 w4 hh;refine aa (ah ?_);refine a8 3 [[(2, none)], [(7, some 0)], [(3, none)]] [(2, 9), (1, 8), (0, 7)] hh mixed KA ?_;refine gY 2 [_,_,_] ?_;refine dC (fun _ hj => eB a _ (hT.hp hj.hp) Ky Ky Ky) ?_;refine gY 1 [_,_,_] ?_;refine bA ?_;intro f W hJ hV;have hb_1 := hJ.bl;obtain ⟨v9, v8, v7, _⟩ := hV;replace hh := hJ.hp;refine bj (bC (ae v9 (ae v8 (ae v7 bh)))) ?_;dsimp only [cP];clear hJ;refine bE hh (eB b _ (hT.hp hh) Ky Ky Ky) rfl ?_;intro w10 hh;refine bK hh 2 [_,_,_] ?_;intro ws hh;replace hh : Hp _ (_ :: _ :: .blk _ _ [_, _, _] _ :: _) _ := hh;refine bK hh 1 [_,_,_] ?_;intro ws hh;replace hh : Hp _ (_ :: .blk _ _ [_, _, _] _ :: _) _ := hh;refine aa (sr (bP ?_));refine bR hh 2 ?_;refine bP ?_;refine bR hh 1 ?_;refine xD rfl rfl Kz ?_;refine aI (aa (ah (aj (sr ?_))));refine cR hh 2 [_,_,_] ?_;refine e9 [_,_,_] ?_;refine uE rfl rfl (by assumption) Kz ?_;refine aB (aa (cF (sr ?_)));refine cR hh 1 [_,_,_] ?_
   refine e9 [_,_,_] ?_;refine uE rfl rfl (by assumption) Kz ?_;refine aB (aa (cF (ak (aP (ai (sr ?_))))));rw [hs];refine mI ?_;refine e9 [_,_,_,_,_] ?_;refine cB hh ?_;intro b6 w6 hh;refine bK hh 0 [_,_,_,_,_] ?_;intro ws hh;replace hh : Hp _ (.blk _ _ [_, _, _, _, _] _ :: _) _ := hh;refine aa (ah ?_);refine a8 9 [[(6, none)], [(30, some 0)], [(2, none)], [(31, some 1), (32, some 2)], [(6, none)], [(34, some 4)], [(3, none)], [(35, some 5), (36, some 6)], [(6, none)]] [(8, 38), (7, 37), (6, 36), (5, 35), (4, 34), (3, 33), (2, 32), (1, 31), (0, 30)] hh mixed KA ?_;refine eA ?_;refine fQ 0 ?_;refine gY 3 [_,_,_] ?_;refine dC (fun _ hj => hcx _ (hT.hp hj.hp)) ?_;refine eA ?_;refine fQ 0 ?_;refine gY 2 [_,_,_] ?_;refine dC (fun _ hj => hcy _ (hT.hp hj.hp)) ?_;refine eA ?_;refine bA ?_;intro f W hJ hV;have hb_8 := hJ.bl;obtain ⟨v38, v37, v36, v35, v34, v33, v32, v31, v30, _⟩ := hV;replace hh := hJ.hp;refine bj (bC (ae v38 (ae v37 (ae v36 (ae v35 (ae v34 (ae v33 (ae v32 (ae v31 (ae v30 bh)))))))))) ?_;dsimp only [cP];clear hJ;refine bK hh 0 [_,_] ?_;intro ws hh;replace hh : Hp _ (.blk _ _ [_, _, _, _, _] _ :: _) _ := hh;refine bP ?_;refine bK hh 0 [_,_] ?_;intro ws hh
   replace hh : Hp _ (.blk _ _ [_, _, _, _, _] _ :: _) _ := hh;refine aa (sr ?_);refine cR hh 0 [_,_,_,_,_] ?_;refine bK hh 1 [_,_,_,_,_] ?_;intro ws hh;replace hh : Hp _ (_ :: .blk _ _ [_, _, _, _, _] _ :: _) _ := hh;refine aa (ao ?_);refine iZ (aT rfl (aU (vs := [_, _, _, _, _]) aF.out (hh.aC (i := 1) (n := 5) rfl rfl) rfl) bq) ?_;exact ⟨rfl, hh.below⟩
end Go.Proofs.YtaapkaefelhfcaaGreatDoor
namespace Go.Proofs.YtaapkaefelhfcaaGreatDoor
open Go.RowKit
def jR (x y : Dyadic) : Int := if x < y then -1 else if y < x then 1 else 0
theorem xa (i j p : Int) : (i - j).sign = jR (Dyadic.ofIntWithPrec i p) (Dyadic.ofIntWithPrec j p) := by
 unfold jR;simp only [sa]
 rcases Int.lt_trichotomy i j with h | h | h
 ·rw [if_pos h, Int.sign_eq_neg_one_of_neg Ky]
 ·subst h; simp
 ·rw [if_neg Ky, if_pos h, Int.sign_eq_one_of_pos Ky]
theorem yU (i p : Int) : i.sign = jR (Dyadic.ofIntWithPrec i p) 0 := by
 have := xa i 0 p;rwa [Int.sub_zero, lV] at this
theorem NR.sign (a : NR) : a.i.sign = jR a.d 0 := yU _ _
theorem wh (x y : Dyadic) : (cV x (dx x y) - cV y (dx x y)).sign = jR x y := by
 rw [xa _ _ (dx x y), C9, Ei]
theorem BB (X Y : Int) (h : X.sign ≠ Y.sign) : (if (if X.sign - Y.sign < 1 then X.sign - Y.sign else 1) > -1 then (if X.sign - Y.sign < 1 then X.sign - Y.sign else 1) else -1) = (X - Y).sign := by
 rcases Int.lt_trichotomy X 0 with hx | hx | hx <;> rcases Int.lt_trichotomy Y 0 with hy | hy | hy
 ·rw [Int.sign_eq_neg_one_of_neg hx, Int.sign_eq_neg_one_of_neg hy] at h; omega
 ·rw [Int.sign_eq_neg_one_of_neg hx, hy, Int.sub_zero, Int.sign_eq_neg_one_of_neg hx]; simp
 ·rw [Int.sign_eq_neg_one_of_neg hx, Int.sign_eq_one_of_pos hy, Int.sign_eq_neg_one_of_neg Ky]; simp
 ·subst hx; rw [Int.sign_zero, Int.sign_eq_neg_one_of_neg hy, Int.sign_eq_one_of_pos (a := 0 - Y) Ky]; simp
 ·rw [hx, hy] at h; omega
 ·subst hx; rw [Int.sign_zero, Int.sign_eq_one_of_pos hy, Int.sign_eq_neg_one_of_neg (a := 0 - Y) Ky]; simp
 ·rw [Int.sign_eq_one_of_pos hx, Int.sign_eq_neg_one_of_neg hy, Int.sign_eq_one_of_pos Ky]; simp
 ·rw [Int.sign_eq_one_of_pos hx, hy, Int.sub_zero, Int.sign_eq_one_of_pos hx]; simp
 ·rw [Int.sign_eq_one_of_pos hx, Int.sign_eq_one_of_pos hy] at h; omega
theorem o7 {a b : NR} (ha : a.ok) (hb : b.ok) : (iM (cV a.d (dx a.d b.d))).size ≤ 6000000 ∧ (iM (cV b.d (dx a.d b.d))).size ≤ 6000000 ∧ -18000000 ≤ dx a.d b.d ∧ dx a.d b.d ≤ 18000000 := by
 obtain ⟨_, fa1, fa2, fa3⟩ := oD ha;obtain ⟨_, fb1, fb2, fb3⟩ := oD hb;have hP := AW a.d b.d 18000000 Ky Ky;have h1 := qO a.d (dx a.d b.d);have h2 := qO b.d (dx a.d b.d);rw [eU, eU];refine ⟨Ky, Ky, hP.1, hP.2⟩
theorem Af (i : Int) : -1 ≤ i.sign ∧ i.sign ≤ 1 := by
 rcases Int.lt_trichotomy i 0 with h | h | h
 ·rw [Int.sign_eq_neg_one_of_neg h]; omega
 ·rw [h]; simp
 ·rw [Int.sign_eq_one_of_pos h]; omega
theorem mQ (a b : NR) (w : World) (hT : eP w) (ha : a.ok) (hb : b.ok) :
  Calls Tryz.prog 213 #[.agg #[.bool a.neg, .string a.cA, .int .i64 a.e], .agg #[.bool b.neg, .string b.cA, .int .i64 b.e]] w fun r w' => r = .returned (.int .i64 (jR a.d b.d)) ∧ Below w.heap.size w w' := by
 have hh := Hp.start w;obtain ⟨hs1, hs2, _⟩ := o7 ha hb;have hsa : a.i.sign = (cV a.d (dx a.d b.d)).sign := by rw [NR.sign, yU _ (dx a.d b.d), C9]
 have hsb : b.i.sign = (cV b.d (dx a.d b.d)).sign := by rw [NR.sign, yU _ (dx a.d b.d), Ei]
 have hba := Af a.i;have hbb := Af b.i;by_cases hne : a.i.sign = b.i.sign
 ·refine al (N := 28) (l := [.agg #[.bool a.neg, .string a.cA, .int .i64 a.e], .agg #[.bool b.neg, .string b.cA, .int .i64 b.e]]) Tryz.func213 rfl rfl (by simp) ?_;refine sr ?_;refine db hh [_,_,_] ?_;intro b2 w2 hh;refine db hh [_,_,_] ?_;intro b3 w3 hh;refine aI (aa (ah (ah ?_)));refine a8 3 [[(2, none)], [(8, some 0)], [(3, none)]] [(2, 10), (1, 9), (0, 8)] hh mixed KA ?_;refine gY 1 [_,_,_] ?_;refine dC (fun _ hj => fS a _) ?_;refine gY 0 [_,_,_] ?_;refine bA ?_;intro f W hJ hV;have hb_1 := hJ.bl;obtain ⟨v10, v9, v8, _⟩ := hV;replace hh := hJ.hp;refine bj (bC (ae v10 (ae v9 (ae v8 bh)))) ?_;dsimp only [cP];clear hJ;refine bE hh (fS b _) rfl ?_;intro w11 hh;refine aI (aI (aa (sr (mI (mI ?_)))));refine cL (aa (cF (ak (ai (sr ?_)))));refine cR hh 1 [_,_,_] ?_;refine cR hh 0 [_,_,_] ?_;refine bE hh (n4 a b _ (hT.hp hh) ha hb) rfl ?_;intro w22 hh;refine cB hh ?_;intro b7 w7 hh;refine bK hh 0 [_,_,_,_,_] ?_;intro ws hh;replace hh : Hp _ (.blk _ _ [_, _, _, _, _] _ :: _) _ := hh;refine aa (sr (bP ?_));refine cR hh 0 [_,_] (bP ?_);refine cR hh 0 [_,_] ?_;refine bE hh (y4 _ _ _ _ _ Ky Ky) rfl ?_;intro w27 hh;rw [fL, fL, wh];refine aI (aa (ao ?_));refine cq ?_;exact ⟨rfl, hh.below⟩
 ·refine al (N := 28) (l := [.agg #[.bool a.neg, .string a.cA, .int .i64 a.e], .agg #[.bool b.neg, .string b.cA, .int .i64 b.e]]) Tryz.func213 rfl rfl (by simp) ?_;refine sr ?_;refine db hh [_,_,_] ?_;intro b2 w2 hh;refine db hh [_,_,_] ?_;intro b3 w3 hh;refine aI (aa (ah (ah ?_)));refine a8 3 [[(2, none)], [(8, some 0)], [(3, none)]] [(2, 10), (1, 9), (0, 8)] hh mixed KA ?_;refine gY 1 [_,_,_] ?_;refine dC (fun _ hj => fS a _) ?_;refine gY 0 [_,_,_] ?_;refine bA ?_;intro f W hJ hV;have hb_1 := hJ.bl;obtain ⟨v10, v9, v8, _⟩ := hV;replace hh := hJ.hp;refine bj (bC (ae v10 (ae v9 (ae v8 bh)))) ?_;dsimp only [cP];clear hJ;refine bE hh (fS b _) rfl ?_;intro w11 hh;refine aI (aI (aa (sr (mI (mI ?_)))));refine cL (aa (cT (sr (mI (mI ?_)))));refine eO ?_;refine xD rfl rfl Kz ?_;refine kq rfl rfl Kz ?_;refine aI (aa (ao (aG ?_)));refine cq ?_;refine ⟨?_, hh.below⟩;rw [hsa, hsb] at hne;rw [hsa, hsb, ← wh a.d b.d, ← BB _ _ hne]
def II (n : Int) : Dyadic := Dyadic.ofIntWithPrec 1 (-n)
def lv : List Dyadic → Dyadic := fun l => l.foldl (· + ·) 0
theorem tp (l : List Dyadic) (x : Dyadic) : lv (l ++ [x]) = lv l + x := by simp [lv]
theorem Sz.sum {k : Nat} {l : List Dyadic} (h : ∀ x ∈ l, Sz k x) : Sz (k + l.length) (lv l) := by
 have : ∀ (n : Nat), n ≤ l.length → Sz (k + n) (lv (l.take n)) := by
  intro n
  induction n with
  | zero => intro _; exact Sz.zero _
  | succ n ih =>
   intro hn;obtain ⟨x, hx⟩ := ay (l := l) (k := n) Ky;rw [aH hx, tp];exact (ih Ky).add ((h x (List.mem_of_getElem? hx)).mono Ky)
 have h2 := this l.length (Nat.le_refl _);rwa [List.take_length] at h2
theorem qy (a b : NR) (w : World) (hT : eP w) (ha : a.ok) (hb : b.ok) :
  Calls Tryz.prog 164 #[.agg #[.bool (iN (cV a.d (dx a.d b.d) + cV b.d (dx a.d b.d))), .string (iM (cV a.d (dx a.d b.d) + cV b.d (dx a.d b.d)))], .int .i64 (-(dx a.d b.d))] w fun r w' => r = .returned (.agg #[.bool (nR (a.d + b.d)).neg, .string (nR (a.d + b.d)).cA, .int .i64 (nR (a.d + b.d)).e]) ∧ Below w.heap.size w w' := by
 obtain ⟨hs1, hs2, hP1, hP2⟩ := o7 ha hb;rw [eU] at hs1 hs2;have h3 := om (cV a.d (dx a.d b.d)) (cV b.d (dx a.d b.d));have := jf (iN (cV a.d (dx a.d b.d) + cV b.d (dx a.d b.d))) (iM (cV a.d (dx a.d b.d) + cV b.d (dx a.d b.d))) (-(dx a.d b.d)) w hT (by rw [eU]; omega) Ky Ky;rw [fL, Int.neg_neg, Gf] at this;exact this
theorem iK (L : Option Addr) (n c : Nat) (l : List NR) (w : World) (hT : eP w) (hS : Sl w L n 3 (aY NR.cells l)) (hl : ∀ a ∈ l, a.ok) (k : Nat) (hk : ∀ a ∈ l, Sz k a.d) (hkn : k + n ≤ 3999990) :
  Calls Tryz.prog 65 #[.slice L n c] w fun r w' => r = .returned (.agg #[.bool (nR (lv (l.map NR.d))).neg, .string (nR (lv (l.map NR.d))).cA, .int .i64 (nR (lv (l.map NR.d))).e]) ∧ Below w.heap.size w w' := by
 have hln := hS.bM NR.len Ky;have hh := Hp.start w;refine al (N := 27) (l := [.slice L n c]) Tryz.func65 rfl rfl (by simp) ?_;refine sr ?_;refine cB hh ?_;intro b2 w2 hh;refine aa (sr ?_);refine cB hh ?_;intro b3 w3 hh;refine aa (ah (sr (mL (aW (mI (aa (aj ?_)))))));refine bm [5, 6, 9, 10, 11, 12, 13, 14, 15, 16, 17, 18, 19, 20, 21, 22, 23, 24, 25] 9
  (fun j w' => ∃ (i : Nat) (S : Dyadic), i ≤ n ∧ j = .int .i64 i ∧ S = lv ((l.take i).map NR.d) ∧ Hp w [.blk b3 29 [.bool (nR S).neg, .string (nR S).cA, .int .i64 (nR S).e] (0, 0), .blk b2 29 [.bool false, .string (ByteArray.mk #[]), .int .i64 0] (0, 0)] w')
  (fun j _ => n - (intOf j).toNat) ?_ ?_
 ·exact ⟨0, 0, Nat.zero_le _, rfl, rfl, hh⟩
 ·clear hh;rintro ρ' j w' ⟨i, S, hi, rfl, hS2, hh⟩;by_cases hlt : i < n
  ·obtain ⟨x, hx⟩ := ay (l := l) (k := i) Ky;obtain ⟨ad, rfl, hr⟩ := hS.at_ Ky;have hxm := List.mem_of_getElem? hx;have hS3 : lv ((l.take (i + 1)).map NR.d) = S + x.d := by rw [aH hx, List.map_append, List.map_singleton, tp, hS2]
   have hSz : Sz (k + i) S := by
    rw [hS2];have := Sz.sum (k := k) (l := (l.take i).map NR.d) (fun y hy => by
     obtain ⟨a, ha, rfl⟩ := List.mem_map.1 hy;exact hk a (List.mem_of_mem_take ha))
    rw [List.length_map, List.length_take, Nat.min_eq_left Ky] at this;exact this
   have hSo := hSz.ok Ky;have hlc := fun w1 hT1 => n4 (nR S) x w1 hT1 hSo (hl x hxm);have hmc := fun w1 hT1 => qy (nR S) x w1 hT1 hSo (hl x hxm);obtain ⟨hs1, hs2, _⟩ := o7 hSo (hl x hxm);rw [dK] at hlc hmc hs1 hs2;have e1 : ([iR (cV S (dx S x.d)), iR (cV x.d (dx S x.d))].map IR.v).sum = cV S (dx S x.d) + cV x.d (dx S x.d) := by
    simp only [List.map_cons, List.map_nil, List.sum_cons, List.sum_nil, IJ]; omega
   have hac : ∀ (A : Option Addr) (cc : Nat) (w1 : World), Sl w1 A 2 2 (aY IR.cells [iR (cV S (dx S x.d)), iR (cV x.d (dx S x.d))]) → Calls Tryz.prog 165 #[.slice A 2 cc] w1 fun e w' => e = .returned (.agg #[.bool (iN (cV S (dx S x.d) + cV x.d (dx S x.d))), .string (iM (cV S (dx S x.d) + cV x.d (dx S x.d)))]) ∧ Below w1.heap.size w1 w' := fun A cc w1 hsl => by
    have := rk A 2 cc [iR (cV S (dx S x.d)), iR (cV x.d (dx S x.d))] w1 hsl Ky (by simp [iR]; omega);rw [e1] at this;exact this
   refine sr ?_;refine aK (aa (ah (cT (ak (ai (ah (aj (sr ?_))))))));refine aD (k := i) aQ.out aF.size rfl rfl Ky Ky Kz ?_;refine bJ (vs := [_, _, _]) aF.out rfl (((hr.ext hh.below).recAt NR.len hx)) rfl Kz ?_;refine cB hh ?_;intro b5 w5 hh;refine bK hh 0 [_,_,_] ?_;intro ws hh;replace hh : Hp _ (.blk _ _ [_, _, _] _ :: _) _ := hh;refine aa (sr ?_);refine cR hh 1 [_,_,_] ?_;refine cR hh 0 [_,_,_] ?_;refine bE hh (hlc _ (hT.hp hh)) rfl ?_;intro w15 hh;refine cB hh ?_;intro b6 w6 hh;refine bK hh 0 [_,_,_,_,_] ?_;intro ws hh;replace hh : Hp _ (.blk _ _ [_, _, _, _, _] _ :: _) _ := hh;refine aa ?_;refine a8 8 [[(6, none)], [(16, some 0)], [(6, none)], [(18, some 2)], [(17, some 1), (19, some 3)], [(20, some 4)], [(6, none)], [(22, some 6)]] [(7, 23), (6, 22), (5, 21), (4, 20), (3, 19), (2, 18), (1, 17), (0, 16)] hh mixed KA ?_;refine eA ?_;refine gY 0 [_,_] ?_;refine eA ?_;refine gY 0 [_,_] ?_;refine xw [_,_,_,_] ?_;refine cH (i := 5) (Is (.agg #[.bool (iN (cV S (dx S x.d) + cV x.d (dx S x.d))), .string (iM (cV S (dx S x.d) + cV x.d (dx S x.d)))])) Is.ext ?_ ?_
   ·intro ρ1 w1 hj hR;obtain ⟨A20, c20, h20, s20⟩ := hR.1;exact du rfl (bX aw.out (a7 h20 bQ)) (hac A20 c20 _ s20) (fun _ _ hq => ⟨_, hq.1, hq.2, rfl⟩)
   refine eA ?_;refine fQ 0 ?_;refine bA ?_;intro f W hJ hV;have hb_6 := hJ.bl;obtain ⟨v23, v22, v21, v20, v19, v18, v17, v16, _⟩ := hV;obtain ⟨A20, c20, e20, f20⟩ : Rows _ _ _ (f 4) W := v20;replace hh := hJ.hp;refine bj (bC (ae v23 (ae v22 (ae v21 (ae e20 (ae v19 (ae v18 (ae v17 (ae v16 bh))))))))) ?_;dsimp only [cP];clear e20 hJ;refine bE hh (hmc _ (hT.hp hh)) rfl ?_;intro w24 hh;refine bK hh 2 [_,_,_] ?_;intro ws hh;replace hh : Hp _ (_ :: _ :: .blk _ _ [_, _, _] _ :: _) _ := hh;refine aE (aP (ai (aq ?_)));refine bB (mI (aE (ai ?_)));replace hh := hh.sub ((List.sublist_cons_self _ _).trans (List.sublist_cons_self _ _));refine ⟨⟨i + 1, _, Ky, rfl, hS3.symm, hh⟩, by show n - (i + 1) < n - i; omega, ?_⟩;exact KB
  ·refine sr ?_;refine aK (aa (ah (cF (aJ (az (az (aX (ai (sr ?_)))))))));refine cR hh 0 [_,_,_] ?_;refine bK hh 1 [_,_,_] ?_;intro ws hh;replace hh : Hp _ (_ :: .blk _ _ [_, _, _] _ :: _) _ := hh;refine aa (ao ?_);refine iZ (aT rfl (aU (vs := [_, _, _]) aF.out (hh.aC (i := 1) (n := 3) rfl rfl) rfl) bq) ?_;rw [List.take_of_length_le Ky] at hS2;rw [hS2];exact ⟨rfl, hh.below⟩
theorem kn (x y : Dyadic) : lv [x, y] = x + y := by
 show (0 + x) + y = x + y;rw [Dyadic.zero_add]
theorem ye (a b : NR) (w : World) (hT : eP w) (ha : a.ok) (hb : b.ok) (k : Nat) (hka : Sz k a.d) (hkb : Sz k b.d) (hk : k ≤ 3999980) :
  Calls Tryz.prog 70 #[.agg #[.bool a.neg, .string a.cA, .int .i64 a.e], .agg #[.bool b.neg, .string b.cA, .int .i64 b.e]] w fun r w' => r = .returned (.agg #[.bool (nR (a.d - b.d)).neg, .string (nR (a.d - b.d)).cA, .int .i64 (nR (a.d - b.d)).e]) ∧ Below w.heap.size w w' := by
 have hh := Hp.start w;obtain ⟨hb1, hb2, hb3⟩ := hb;have e1 : lv ([a, nR (-b.d)].map NR.d) = a.d - b.d := by
  simp only [List.map_cons, List.map_nil, dK, kn]; rfl
 have hac : ∀ (A : Option Addr) (cc : Nat) (w1 : World), eP w1 → Sl w1 A 2 3 (aY NR.cells [a, nR (-b.d)]) → Calls Tryz.prog 65 #[.slice A 2 cc] w1 fun r w' => r = .returned (.agg #[.bool (nR (a.d - b.d)).neg, .string (nR (a.d - b.d)).cA, .int .i64 (nR (a.d - b.d)).e]) ∧ Below w1.heap.size w1 w' := fun A cc w1 hT1 hsl => by
  have := iK A 2 cc [a, nR (-b.d)] w1 hT1 hsl (by simpa using ⟨ha, hkb.neg.ok Ky⟩) k (by simpa [dK] using ⟨hka, hkb.neg⟩) Ky;rw [e1] at this;exact this
 refine al (N := 10) (l := [.agg #[.bool a.neg, .string a.cA, .int .i64 a.e], .agg #[.bool b.neg, .string b.cA, .int .i64 b.e]]) Tryz.func70 rfl rfl (by simp) ?_;refine sr ?_;refine db hh [_,_,_] ?_;intro b2 w2 hh;refine db hh [_,_,_] ?_;intro b3 w3 hh;refine cB hh ?_;intro b4 w4 hh;refine aa (ah ?_);refine a8 3 [[(2, none)], [(3, none)], [(6, some 1)]] [(2, 7), (1, 6), (0, 5)] hh mixed KA ?_;refine gY 2 [_,_,_] ?_;refine gY 1 [_,_,_] ?_;refine dC (fun _ hj => yN b _ (hT.hp hj.hp) Ky Ky Ky) ?_;refine bA ?_;intro f W hJ hV;have hb_1 := hJ.bl;obtain ⟨v7, v6, v5, _⟩ := hV;replace hh := hJ.hp;refine bj (bC (ae v7 (ae v6 (ae v5 bh)))) ?_;dsimp only [cP];clear hJ;refine aO hh (cs := [_, _, _, _, _, _]) aQ.out aF.out (aR (cJ rfl) (aR (cJ rfl) bI)) rfl rfl Kz Kz Kz rfl Kz ?_;intro b8 w8 hh;refine bE hh (hac _ _ _ (hT.hp hh) (hh.aM (i := 0) rfl)) rfl ?_;intro w9 hh;refine bK hh 1 [_,_,_] ?_;intro ws hh;replace hh : Hp _ (_ :: .blk _ _ [_, _, _] _ :: _) _ := hh;refine aa (ao ?_);refine iZ (aT rfl (aU (vs := [_, _, _]) aF.out (hh.aC (i := 1) (n := 3) rfl rfl) rfl) bq) ?_;exact ⟨rfl, hh.below⟩
def jL : List Dyadic → Dyadic := fun l => l.foldl (· * ·) 1
theorem rB (l : List Dyadic) (x : Dyadic) : jL (l ++ [x]) = jL l * x := by simp [jL]
theorem Sz.one : Sz 1 1 := ⟨2, by decide +kernel, Kz⟩
theorem Sz.prod {k : Nat} {l : List Dyadic} (h : ∀ x ∈ l, Sz k x) : Sz (1 + k * l.length) (jL l) := by
 have : ∀ (n : Nat), n ≤ l.length → Sz (1 + k * n) (jL (l.take n)) := by
  intro n
  induction n with
  | zero => intro _; exact Sz.one
  | succ n ih =>
   intro hn;obtain ⟨x, hx⟩ := ay (l := l) (k := n) Ky;rw [aH hx, rB];exact ((ih Ky).mul (h x (List.mem_of_getElem? hx))).mono (by rw [Nat.mul_succ]; omega)
 have h2 := this l.length (Nat.le_refl _);rwa [List.take_length] at h2
theorem jM (L : Option Addr) (n c : Nat) (l : List NR) (w : World) (hT : eP w) (hS : Sl w L n 3 (aY NR.cells l)) (hl : ∀ a ∈ l, a.ok) (k : Nat) (hk : ∀ a ∈ l, Sz k a.d) (hkn : k * n ≤ 3999980) (hn : n ≤ 1000000) :
  Calls Tryz.prog 66 #[.slice L n c] w fun r w' => r = .returned (.agg #[.bool (nR (jL (l.map NR.d))).neg, .string (nR (jL (l.map NR.d))).cA, .int .i64 (nR (jL (l.map NR.d))).e]) ∧ Below w.heap.size w w' := by
 have hln := hS.bM NR.len Ky;have hh := Hp.start w;refine al (N := 27) (l := [.slice L n c]) Tryz.func66 rfl rfl (by simp) ?_;refine sr ?_;refine cB hh ?_;intro b2 w2 hh;refine aa (sr ?_);refine bE hh (jy 1 _ (hT.hp hh) Ky Ky) rfl ?_;intro w6 hh;refine cB hh ?_;intro b3 w3 hh;refine bK hh 0 [_,_,_] ?_;intro ws hh;replace hh : Hp _ (.blk _ _ [_, _, _] _ :: _) _ := hh;refine aa (ah (sr (mL (aW (mI (aa (aj ?_)))))));refine bm [5, 9, 10, 11, 12, 13, 14, 15, 16, 17, 18, 19, 20, 21, 22, 23, 24, 25] 9
  (fun j w' => ∃ (i : Nat) (S : Dyadic), i ≤ n ∧ j = .int .i64 i ∧ S = jL ((l.take i).map NR.d) ∧ Hp w [.blk b3 29 [.bool (nR S).neg, .string (nR S).cA, .int .i64 (nR S).e] (0, 0), .blk b2 29 [.bool false, .string (ByteArray.mk #[]), .int .i64 0] (0, 0)] w')
  (fun j _ => n - (intOf j).toNat) ?_ ?_
 ·exact ⟨0, _, Nat.zero_le _, rfl, rfl, hh⟩
 ·clear hh;rintro ρ' j w' ⟨i, S, hi, rfl, hS2, hh⟩;by_cases hlt : i < n
  ·obtain ⟨x, hx⟩ := ay (l := l) (k := i) Ky;obtain ⟨ad, rfl, hr⟩ := hS.at_ Ky;have hxm := List.mem_of_getElem? hx;have hS3 : jL ((l.take (i + 1)).map NR.d) = S * x.d := by rw [aH hx, List.map_append, List.map_singleton, rB, hS2]
   have hSz : Sz (1 + k * i) S := by
    rw [hS2];have := Sz.prod (k := k) (l := (l.take i).map NR.d) (fun y hy => by
     obtain ⟨a, ha, rfl⟩ := List.mem_map.1 hy;exact hk a (List.mem_of_mem_take ha))
    rw [List.length_map, List.length_take, Nat.min_eq_left Ky] at this;exact this
   have hki : k * i ≤ k * n := Nat.mul_le_mul_left _ hi;obtain ⟨so1, so2, so3⟩ := hSz.ok Ky;obtain ⟨xo1, xo2, xo3⟩ := hl x hxm;have e1 : lM ([IR.mk (nR S).neg (nR S).cA, IR.mk x.neg x.cA].map IR.v) = (nR S).i * x.i := by
    simp only [List.map_cons, List.map_nil, lM, Int.mul_one]; rfl
   have e2 : Dyadic.ofIntWithPrec ((nR S).i * x.i) (-((nR S).e + x.e)) = S * x.d := by
    have := zv (nR S).i x.i (-(nR S).e) (-x.e);rw [Int.neg_add, ← this];congr 1;exact dK S
   have hac : ∀ (A : Option Addr) (cc : Nat) (w1 : World), Sl w1 A 2 2 (aY IR.cells [IR.mk (nR S).neg (nR S).cA, IR.mk x.neg x.cA]) → Calls Tryz.prog 166 #[.slice A 2 cc] w1 fun e w' => e = .returned (.agg #[.bool (iN ((nR S).i * x.i)), .string (iM ((nR S).i * x.i))]) ∧ Below w1.heap.size w1 w' := fun A cc w1 hsl => by
    have := zk A 2 cc [IR.mk (nR S).neg (nR S).cA, IR.mk x.neg x.cA] w1 hsl Ky (by simp; omega);rw [e1] at this;exact this
   have hmc : ∀ w1, eP w1 → Calls Tryz.prog 164 #[.agg #[.bool (iN ((nR S).i * x.i)), .string (iM ((nR S).i * x.i))], .int .i64 ((nR S).e + x.e)] w1 fun r w' => r = .returned (.agg #[.bool (nR (S * x.d)).neg, .string (nR (S * x.d)).cA, .int .i64 (nR (S * x.d)).e]) ∧ Below w1.heap.size w1 w' := fun w1 hT1 => by
    have hb1 := nG (nR S).neg (nR S).cA;have hb2 := nG x.neg x.cA;have hb3 := ow (nR S).i x.i;have := jf (iN ((nR S).i * x.i)) (iM ((nR S).i * x.i)) ((nR S).e + x.e) w1 hT1 (by rw [eU]; unfold NR.i at hb3 ⊢; omega) Ky Ky;rw [fL, e2] at this;exact this
   refine sr ?_;refine aK (aa (ah (cT (ak (ai (ah (aj (sr ?_))))))));refine aD (k := i) aQ.out aF.size rfl rfl Ky Ky Kz ?_;refine bJ (vs := [_, _, _]) aF.out rfl (((hr.ext hh.below).recAt NR.len hx)) rfl Kz ?_;refine cB hh ?_;intro b5 w5 hh;refine bK hh 0 [_,_,_] ?_;intro ws hh;replace hh : Hp _ (.blk _ _ [_, _, _] _ :: _) _ := hh;refine aa ?_;refine a8 11 [[(3, none)], [(13, some 0)], [(5, none)], [(15, some 2)], [(14, some 1), (16, some 3)], [(17, some 4)], [(3, none)], [(19, some 6)], [(5, none)], [(21, some 8)], [(20, some 7), (22, some 9)]] [(10, 23), (9, 22), (8, 21), (7, 20), (6, 19), (5, 18), (4, 17), (3, 16), (2, 15), (1, 14), (0, 13)] hh mixed KA ?_;refine eA ?_;refine gY 1 [_,_] ?_;refine eA ?_;refine gY 0 [_,_] ?_;refine xw [_,_,_,_] ?_;refine cH (i := 5) (Is (.agg #[.bool (iN ((nR S).i * x.i)), .string (iM ((nR S).i * x.i))])) Is.ext ?_ ?_
   ·intro ρ1 w1 hj hR;obtain ⟨A17, c17, h17, s17⟩ := hR.1;exact du rfl (bX aw.out (a7 h17 bQ)) (hac A17 c17 _ s17) (fun _ _ hq => ⟨_, hq.1, hq.2, rfl⟩)
   refine eA ?_;refine fQ 1 ?_;refine eA ?_;refine fQ 0 ?_;refine sG ?_;refine bA ?_;intro f W hJ hV;have hb_5 := hJ.bl;obtain ⟨v23, v22, v21, v20, v19, v18, v17, v16, v15, v14, v13, _⟩ := hV;obtain ⟨A17, c17, e17, f17⟩ : Rows _ _ _ (f 4) W := v17;replace hh := hJ.hp;refine bj (bC (ae v23 (ae v22 (ae v21 (ae v20 (ae v19 (ae v18 (ae e17 (ae v16 (ae v15 (ae v14 (ae v13 bh)))))))))))) ?_;dsimp only [cP];clear e17 hJ;refine bE hh (hmc _ (hT.hp hh)) rfl ?_;intro w24 hh;refine bK hh 1 [_,_,_] ?_;intro ws hh;replace hh : Hp _ (_ :: .blk _ _ [_, _, _] _ :: _) _ := hh;refine aE (aP (ai (aq ?_)));refine bB (mI (aE (ai ?_)));replace hh := hh.sub (List.sublist_cons_self _ _);refine ⟨⟨i + 1, _, Ky, rfl, hS3.symm, hh⟩, by show n - (i + 1) < n - i; omega, ?_⟩;exact KB
  ·refine sr ?_;refine aK (aa (ah (cF (aJ (az (az (aX (ai (sr ?_)))))))));refine cR hh 0 [_,_,_] ?_;refine bK hh 1 [_,_,_] ?_;intro ws hh;replace hh : Hp _ (_ :: .blk _ _ [_, _, _] _ :: _) _ := hh;refine aa (ao ?_);refine iZ (aT rfl (aU (vs := [_, _, _]) aF.out (hh.aC (i := 1) (n := 3) rfl rfl) rfl) bq) ?_;rw [List.take_of_length_le Ky] at hS2;rw [hS2];exact ⟨rfl, hh.below⟩
end Go.Proofs.YtaapkaefelhfcaaGreatDoor
namespace Go.Proofs.YtaapkaefelhfcaaGreatDoor
open Go.RowKit
def ic (f : Dyadic → Dyadic → Bool) : List Dyadic → Dyadic
 | [] => 0
 | a :: r => r.foldl (fun out a => if f a out then a else out) a
theorem yA (f : Dyadic → Dyadic → Bool) {l : List Dyadic} (h : l ≠ []) (x : Dyadic) : ic f (l ++ [x]) = if f x (ic f l) then x else ic f l := by
 cases l with
 | nil => exact absurd rfl h
 | cons a r =>
  show (r ++ [x]).foldl _ a = _;rw [List.foldl_append]
  rfl
theorem nk (L : Option Addr) (n c : Nat) (l : List NR) (g : FuncId) (f : Dyadic → Dyadic → Bool) (w : World) (hT : eP w) (hS : Sl w L n 3 (aY NR.cells l)) (hl : ∀ a ∈ l, a.ok) (hn : n ≤ 1000000) [aw Tryz.prog g]
  (hg : ∀ (a b : NR) (w : World), eP w → a.ok → b.ok → Calls Tryz.prog g #[.agg #[.bool a.neg, .string a.cA, .int .i64 a.e], .agg #[.bool b.neg, .string b.cA, .int .i64 b.e]] w fun r w' => r = .returned (.bool (f a.d b.d)) ∧ Below w.heap.size w w') :
  Calls Tryz.prog 295 #[.slice L n c, .func (.func g) #[] #[]] w fun r w' => r = .returned (.agg #[.bool (nR (ic f (l.map NR.d))).neg, .string (nR (ic f (l.map NR.d))).cA, .int .i64 (nR (ic f (l.map NR.d))).e]) ∧ Below w.heap.size w w' := by
 have hln := hS.bM NR.len Ky;have hh := Hp.start w;refine al (N := 27) (l := [.slice L n c, .func (.func g) #[] #[]]) Tryz.func295 rfl rfl (by simp) ?_;refine sr ?_;refine cB hh ?_;intro b4 w4 hh;refine aa (sr ?_);refine cB hh ?_;intro b5 w5 hh;refine aa (ah (sr (mL (aW (mI (aa (aj ?_)))))));refine bm [6, 7, 10, 11, 12, 13, 14, 15, 16, 17, 18, 19, 20, 21, 22, 23, 24] 10
  (fun j w' => ∃ (i : Nat) (o : NR), i ≤ n ∧ j = .int .i64 i ∧ o.ok ∧ o.d = ic f ((l.take i).map NR.d) ∧ Hp w [.blk b5 29 [.bool o.neg, .string o.cA, .int .i64 o.e] (0, 0), .blk b4 29 [.bool false, .string (ByteArray.mk #[]), .int .i64 0] (0, 0)] w')
  (fun j _ => n - (intOf j).toNat) ?_ ?_
 ·exact ⟨0, nR 0, Nat.zero_le _, rfl, (Sz.zero 0).ok Ky, rfl, hh⟩
 ·clear hh;rintro ρ' j w' ⟨i, o, hi, rfl, hok, hod, hh⟩;by_cases hlt : i < n
  ·obtain ⟨x, hx⟩ := ay (l := l) (k := i) Ky;obtain ⟨ad, rfl, hr⟩ := hS.at_ Ky;have hxo := hl x (List.mem_of_getElem? hx);have htk : (l.take (i + 1)).map NR.d = (l.take i).map NR.d ++ [x.d] := by rw [aH hx, List.map_append, List.map_singleton]
   by_cases h0 : i = 0
   ·subst h0;refine sr ?_;refine aK (aa (ah (cT (ak (ai (ah (aj (sr (mI ?_)))))))));refine aD (k := 0) aQ.out aF.size rfl rfl Ky Ky Kz ?_;refine bJ (vs := [_, _, _]) aF.out rfl (((hr.ext hh.below).recAt NR.len hx)) rfl Kz ?_;refine cB hh ?_;intro b7 w7 hh;refine aI ?_;refine bK hh 0 [_,_,_] ?_;intro ws hh;replace hh : Hp _ (.blk _ _ [_, _, _] _ :: _) _ := hh;refine aa (sr (mI ?_));refine dh (mB ?_);refine gS (gS (gS ?_));refine cn Kz rfl rfl Kz ?_;refine e7 ?_;refine aa (cT (aq ?_));refine cR hh 0 [_,_,_] ?_;refine bK hh 1 [_,_,_] ?_;intro ws hh;replace hh : Hp _ (_ :: .blk _ _ [_, _, _] _ :: _) _ := hh;refine aE (aP (ai (aq ?_)));refine bB (mI (aE (ai ?_)));replace hh := hh.sub (List.sublist_cons_self _ _);refine ⟨⟨1, x, Ky, rfl, hxo, by rw [htk]; rfl, hh⟩, by show n - (0 + 1) < n - 0; omega, ?_⟩;exact KB
   ·have hne : (l.take i).map NR.d ≠ [] := by
     intro h;have := congrArg List.length h;rw [List.length_map, List.length_take, List.length_nil] at this;omega
    have hb := yA f hne x.d;rw [← htk, ← hod] at hb;refine sr ?_;refine aK (aa (ah (cT (ak (ai (ah (aj (sr (mI ?_)))))))));refine aD (k := i) aQ.out aF.size rfl rfl Ky Ky Kz ?_;refine bJ (vs := [_, _, _]) aF.out rfl (((hr.ext hh.below).recAt NR.len hx)) rfl Kz ?_;refine cB hh ?_;intro b7 w7 hh;refine aI ?_;refine bK hh 0 [_,_,_] ?_;intro ws hh;replace hh : Hp _ (.blk _ _ [_, _, _] _ :: _) _ := hh;refine aa (sr (mI ?_));refine dh (mB (gT ?_));refine eh (by first | exact eg rfl | exact ev_nilf rfl) Kz ?_;refine gT ?_;refine cR hh 0 [_,_,_] (gT ?_);refine cR hh 1 [_,_,_] ?_;refine aV rfl rfl ?_;refine eb (hg x o _ (hT.hp hh) hxo hok) aw.out rfl rfl Kz ?_;rintro e_ w21 ⟨rfl, hb_⟩;refine ⟨_, rfl, ?_⟩;replace hh := hh.ext hb_
    cases hf : f x.d o.d with
    | true =>
     rw [hf, if_pos rfl] at hb;refine eX ?_;refine aa (cT (aq ?_));refine cR hh 0 [_,_,_] ?_;refine bK hh 1 [_,_,_] ?_;intro ws hh;replace hh : Hp _ (_ :: .blk _ _ [_, _, _] _ :: _) _ := hh;refine aE (aP (ai (aq ?_)));refine bB (mI (aE (ai ?_)));replace hh := hh.sub (List.sublist_cons_self _ _);refine ⟨⟨i + 1, x, Ky, rfl, hxo, hb.symm, hh⟩, by show n - (i + 1) < n - i; omega, ?_⟩;exact KB
    | false =>
     rw [hf] at hb;refine eX ?_;refine aa (cF (ak (aP (ai (aq ?_)))));refine bB (mI (aE (ai ?_)));replace hh := hh.sub (List.sublist_cons_self _ _);refine ⟨⟨i + 1, o, Ky, rfl, hok, hb.symm, hh⟩, by show n - (i + 1) < n - i; omega, ?_⟩;exact KB
  ·rw [List.take_of_length_le Ky] at hod;obtain ⟨o1, o2, o3⟩ := hok;refine sr ?_;refine aK (aa (ah (cF (aJ (az (az (aX (ai (sr ?_)))))))));refine cR hh 0 [_,_,_] ?_;refine bE hh (eB o _ (hT.hp hh) Ky Ky Ky) rfl ?_;intro w26 hh;rw [hod];refine bK hh 1 [_,_,_] ?_;intro ws hh;replace hh : Hp _ (_ :: .blk _ _ [_, _, _] _ :: _) _ := hh;refine aa (ao ?_);refine iZ (aT rfl (aU (vs := [_, _, _]) aF.out (hh.aC (i := 1) (n := 3) rfl rfl) rfl) bq) ?_;exact ⟨rfl, hh.below⟩
theorem Fu (x y : Dyadic) : jR x y < 0 ↔ x < y := by
 unfold jR;split
 ·rename_i h; simp [h]
 ·rename_i h; split <;> simp [h]
theorem Gj (x y : Dyadic) : 0 < jR x y ↔ y < x := by
 unfold jR;split
 ·rename_i h;have : ¬ y < x := by grind
  simp [this]
 ·split <;> rename_i h <;> simp [h]
theorem wk (a b : NR) (w : World) (hT : eP w) (ha : a.ok) (hb : b.ok) :
  Calls Tryz.prog 296 #[.agg #[.bool a.neg, .string a.cA, .int .i64 a.e], .agg #[.bool b.neg, .string b.cA, .int .i64 b.e]] w fun r w' => r = .returned (.bool (decide (a.d < b.d))) ∧ Below w.heap.size w w' := by
 have hh := Hp.start w;have e1 : decide (jR a.d b.d < 0) = decide (a.d < b.d) := decide_eq_decide.2 (Fu _ _);refine al (N := 9) (l := [.agg #[.bool a.neg, .string a.cA, .int .i64 a.e], .agg #[.bool b.neg, .string b.cA, .int .i64 b.e]]) Tryz.func296 rfl rfl (by simp) ?_;refine sr ?_;refine db hh [_,_,_] ?_;intro b2 w2 hh;refine db hh [_,_,_] ?_;intro b3 w3 hh;refine aB (aa (sr ?_));refine cR hh 1 [_,_,_] ?_;refine cR hh 0 [_,_,_] ?_;refine bE hh (mQ a b _ (hT.hp hh) ha hb) rfl ?_;intro w7 hh;refine aK (aB (aa (ao ?_)));refine cq ?_;rw [e1];exact ⟨rfl, hh.below⟩
theorem vz (a b : NR) (w : World) (hT : eP w) (ha : a.ok) (hb : b.ok) :
  Calls Tryz.prog 297 #[.agg #[.bool a.neg, .string a.cA, .int .i64 a.e], .agg #[.bool b.neg, .string b.cA, .int .i64 b.e]] w fun r w' => r = .returned (.bool (decide (b.d < a.d))) ∧ Below w.heap.size w w' := by
 have hh := Hp.start w;have e1 : decide (0 < jR a.d b.d) = decide (b.d < a.d) := decide_eq_decide.2 (Gj _ _);refine al (N := 9) (l := [.agg #[.bool a.neg, .string a.cA, .int .i64 a.e], .agg #[.bool b.neg, .string b.cA, .int .i64 b.e]]) Tryz.func297 rfl rfl (by simp) ?_;refine sr ?_;refine db hh [_,_,_] ?_;intro b2 w2 hh;refine db hh [_,_,_] ?_;intro b3 w3 hh;refine aB (aa (sr ?_));refine cR hh 1 [_,_,_] ?_;refine cR hh 0 [_,_,_] ?_;refine bE hh (mQ a b _ (hT.hp hh) ha hb) rfl ?_;intro w7 hh;refine ct (aB (aa (ao ?_)));refine cq ?_;rw [e1];exact ⟨rfl, hh.below⟩
theorem yZ (L : Option Addr) (n c : Nat) (l : List NR) (w : World) (hT : eP w) (hS : Sl w L n 3 (aY NR.cells l)) (hl : ∀ a ∈ l, a.ok) (hn : n ≤ 1000000) :
  Calls Tryz.prog 283 #[.slice L n c] w fun r w' => r = .returned (.agg #[.bool (nR (ic (fun x y => decide (x < y)) (l.map NR.d))).neg, .string (nR (ic (fun x y => decide (x < y)) (l.map NR.d))).cA, .int .i64 (nR (ic (fun x y => decide (x < y)) (l.map NR.d))).e]) ∧ Below w.heap.size w w' := by
 have hh := Hp.start w;refine al (N := 5) (l := [.slice L n c]) Tryz.func283 rfl rfl (by simp) ?_;refine sr ?_;refine cB hh ?_;intro b2 w2 hh;refine aa (sr (mL ?_));refine bE hh (nk L n c l 296 (fun x y => decide (x < y)) _ (hT.hp hh) (hS.ext hh.below) hl hn wk) rfl ?_;intro w4 hh;refine bK hh 0 [_,_,_] ?_;intro ws hh;replace hh : Hp _ (.blk _ _ [_, _, _] _ :: _) _ := hh;refine aa (ao ?_);refine iZ (aT rfl (aU (vs := [_, _, _]) aF.out (hh.aC (i := 0) (n := 3) rfl rfl) rfl) bq) ?_;exact ⟨rfl, hh.below⟩
theorem yM (L : Option Addr) (n c : Nat) (l : List NR) (w : World) (hT : eP w) (hS : Sl w L n 3 (aY NR.cells l)) (hl : ∀ a ∈ l, a.ok) (hn : n ≤ 1000000) :
  Calls Tryz.prog 284 #[.slice L n c] w fun r w' => r = .returned (.agg #[.bool (nR (ic (fun x y => decide (y < x)) (l.map NR.d))).neg, .string (nR (ic (fun x y => decide (y < x)) (l.map NR.d))).cA, .int .i64 (nR (ic (fun x y => decide (y < x)) (l.map NR.d))).e]) ∧ Below w.heap.size w w' := by
 have hh := Hp.start w;refine al (N := 5) (l := [.slice L n c]) Tryz.func284 rfl rfl (by simp) ?_;refine sr ?_;refine cB hh ?_;intro b2 w2 hh;refine aa (sr (mL ?_));refine bE hh (nk L n c l 297 (fun x y => decide (y < x)) _ (hT.hp hh) (hS.ext hh.below) hl hn vz) rfl ?_;intro w4 hh;refine bK hh 0 [_,_,_] ?_;intro ws hh;replace hh : Hp _ (.blk _ _ [_, _, _] _ :: _) _ := hh;refine aa (ao ?_);refine iZ (aT rfl (aU (vs := [_, _, _]) aF.out (hh.aC (i := 0) (n := 3) rfl rfl) rfl) bq) ?_;exact ⟨rfl, hh.below⟩
end Go.Proofs.YtaapkaefelhfcaaGreatDoor
namespace Go.Proofs.YtaapkaefelhfcaaGreatDoor
theorem rG {x y : Dyadic} (h : x < y) : jR x y = -1 := by rw [jR, if_pos h]
theorem qw {x y : Dyadic} (h : y < x) : jR x y = 1 := by
 have : ¬ x < y := by grind
 rw [jR, if_neg this, if_pos h]
theorem sM (x : Dyadic) : jR x x = 0 := by
 have : ¬ x < x := by grind
 rw [jR, if_neg this, if_neg this]
theorem Gx (x y : Dyadic) : x < y ∨ x = y ∨ y < x := by
 rcases Classical.em (x < y) with h | h
 ·exact .inl h
 ·rcases Classical.em (y < x) with h2 | h2
  ·exact .inr (.inr h2)
  ·exact .inr (.inl (by grind))
end Go.Proofs.YtaapkaefelhfcaaGreatDoor
