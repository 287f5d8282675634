/- Lemmas for calcSlopes, part 3. -/
import Derived.Test.YteeckcbbnegmcaaGreatDoorZ2
/- Several texts in one: Nat, NatB, NatC, NatD, NatE, NatF. -/
namespace Go.Proofs.YteeckcbbnegmcaaGreatDoor
open Go.RowKit
theorem fI (A : Option Addr) (n c : Nat) (xs : List Nat) (w : World) (hx : Sl w A n 1 (cB xs)) (hc : n ≤ c) (hn : n ≤ 1000000000000) :
  Calls Tryz.prog 245 #[.slice A n c] w fun e w' => e = .returned (.slice A (dz xs).length c) ∧ Below w.heap.size w w' := by
 have hlen : xs.length = n := by have := hx.1; rw [aP] at this; omega
 have hh := Hp.start w;refine aj (N := 21) (l := [.slice A n c]) Tryz.func245 rfl rfl (by simp) ?_;refine sr (aL (aa (ah (ao ?_))));refine bF [0, 3, 4, 5, 6, 7, 8, 9, 10, 11, 12, 13, 14, 15, 16, 17, 18, 19] 0
  (fun v w' => ∃ k : Nat, k ≤ n ∧ v = .slice A k c ∧ dz (xs.take k) = dz xs ∧ w' = w)
  (fun v _ => lenOf v) ?_ ?_
 ·exact ⟨n, Nat.le_refl _, rfl, by rw [List.take_of_length_le Dq], rfl⟩
 ·rintro ρ' v w' ⟨k, hk, rfl, hcut, rfl⟩;by_cases h0 : k = 0
  ·subst h0;refine ah (sr (mL (a4 ?_)));refine ct (mB ?_);first | refine gS ?_ | (refine gT ?_; refine mL ?_) | refine gV ?_
   first | refine gS ?_ | (refine gT ?_; refine mL ?_) | refine gV ?_
   first | refine gS ?_ | (refine gT ?_; refine a4 ?_) | refine gV ?_
   first | refine gS ?_ | (refine gT ?_; refine ek ?_) | refine gV ?_
   first | refine gS ?_ | (refine gT ?_; refine fC aF.out aC.size rfl rfl Dq Dq Dr ?_) | refine gV ?_
   first | (refine cb Dr rfl rfl Dr ?_) | (refine fR Dr rfl rfl ?_)
   first | refine gS ?_ | (refine gT ?_; refine cu ?_) | refine gV ?_
   first | refine cW ?_ | refine cX ?_
   refine aa (cF (aV (aA (aA (a8 (ai (sr (mL (aL (aa (al ?_)))))))))));refine cA ?_;rw [← hcut];exact ⟨rfl, hh.below⟩
  ·obtain ⟨j, rfl⟩ : ∃ j, k = j + 1 := ⟨k - 1, Dq⟩;obtain ⟨d, hd⟩ := aG (l := xs) (k := j) Dq;obtain ⟨ad, rfl, hr⟩ := hx.at_ Dq;have hd2 := dN hd;rw [aT hd] at hcut;by_cases hz : d = 0
   ·subst hz;rw [oE] at hcut;refine ah (sr (mL (a4 ?_)));refine ct (mB ?_);first | refine gS ?_ | (refine gT ?_; refine mL ?_) | refine gV ?_
    first | refine gS ?_ | (refine gT ?_; refine mL ?_) | refine gV ?_
    first | refine gS ?_ | (refine gT ?_; refine a4 ?_) | refine gV ?_
    first | refine gS ?_ | (refine gT ?_; refine ek ?_) | refine gV ?_
    first | refine gS ?_ | (refine gT ?_; refine aZ (k := j) aF.out aC.size rfl rfl Dq Dq Dr ?_) | refine gV ?_
    first | refine gS ?_ | (refine gT ?_; refine bp aC.out rfl ((hr.ext hh.below).nT (by assumption)) Dr ?_) | refine gV ?_
    first | refine gS ?_ | (refine gT ?_; refine cu ?_) | refine gV ?_
    first | refine cW ?_ | refine cX ?_
    refine aa (cT (ak (ai (ao (ar (mL (mL (a4 ?_))))))));refine ek ?_;refine lE (h := j) aF.out aC.size rfl rfl Dq Dq Dr ?_;refine aL (aE (aX (ai ?_)));refine ⟨⟨j, Dq, rfl, hcut, rfl⟩, by show j < j + 1; omega, ?_⟩;exact Du
   ·rw [qi hz] at hcut;refine ah (sr (mL (a4 ?_)));refine ct (mB ?_);first | refine gS ?_ | (refine gT ?_; refine mL ?_) | refine gV ?_
    first | refine gS ?_ | (refine gT ?_; refine mL ?_) | refine gV ?_
    first | refine gS ?_ | (refine gT ?_; refine a4 ?_) | refine gV ?_
    first | refine gS ?_ | (refine gT ?_; refine ek ?_) | refine gV ?_
    first | refine gS ?_ | (refine gT ?_; refine aZ (k := j) aF.out aC.size rfl rfl Dq Dq Dr ?_) | refine gV ?_
    first | refine gS ?_ | (refine gT ?_; refine bp aC.out rfl ((hr.ext hh.below).nT (by assumption)) Dr ?_) | refine gV ?_
    first | refine gS ?_ | (refine gT ?_; refine cu ?_) | refine gV ?_
    first | refine cW ?_ | refine cX ?_
    refine aa (cF (aV (aA (aA (a8 (ai (sr (mL (aL (aa (al ?_)))))))))));refine cA ?_;rw [← hcut, List.length_append, List.length_take, Nat.min_eq_left Dq];exact ⟨rfl, hh.below⟩
theorem eM {B : Nat} {l : List Nat} {i c : Nat} (h : l[i]? = some c) : bh B (l.take (i + 1)) = bh B (l.take i) + B ^ i * c := by
 have hi := (List.getElem?_eq_some_iff.1 h).1;rw [aT h, dW, List.length_take, Nat.min_eq_left Dq];simp [bh]
theorem Hp.vw {w0 w : World} {H : List HE} {A : Option Addr} {n c : Nat} {t : TypeId} {xs : List Nat} (h : Hp w0 (.row A n c t 1 (cB xs) :: H) w) (hl : xs.length = n) : Hp w0 (.row A (dz xs).length c t 1 (cB (dz xs)) :: H) w := by
 have h1 := eI xs;have h2 := h.um (k := (dz xs).length) Dq;rw [Nat.mul_one, ← p9, ← gX] at h2;exact h2
theorem xe (a : ByteArray) (w : World) (ha : a.size ≤ 100000000000) :
  Calls Tryz.prog 224 #[.string a] w fun e w' => ∃ b c, e = .returned (.slice (some ⟨b, 0, none⟩) (aR 18446744073709551616 (bn a.data.toList)).length c) ∧ w'.ownsRow w.heap.size 204 1 (.slice (some ⟨b, 0, none⟩) (aR 18446744073709551616 (bn a.data.toList)).length c) (aR 18446744073709551616 (bn a.data.toList)).length (cB (aR 18446744073709551616 (bn a.data.toList))) ∧ Below w.heap.size w w' := by
 have hsz := ca a;have hh := Hp.start w;refine aj (N := 39) (l := [.string a]) Tryz.func224 rfl rfl (by simp) ?_;refine sr (aL (aa (sr (mS ?_))));refine bs aF.out rfl Dr ?_;refine bO ?_;refine iF rfl rfl Dq Dq Dq Dr ?_;refine gw (n := (a.size + 7) / 8) hh rfl rfl Dq Dq aF.out aC.out rfl Dq Dq Dr ?_;intro b10 w10 hh;refine aL (aa (ah (sr (mS ?_))));refine bs aF.out rfl Dr ?_;refine mI (aa (ao ?_));rw [lG] at hh;refine bF [4, 5, 13, 14, 15, 16, 17, 18, 19, 20, 21, 22, 23, 24, 25, 26, 27, 28, 29, 30, 31, 32, 33, 34, 35, 36] 13
  (fun v w' => ∃ i : Nat, i ≤ a.size ∧ v = .int .i64 i ∧ Hp w [.row (some ⟨b10, 0, none⟩) ((a.size + 7) / 8) ((a.size + 7) / 8) 204 1 (cB (bH 18446744073709551616 ((a.size + 7) / 8) (bh 256 ((sl a.data.toList).take i))))] w')
  (fun v _ => a.size - (intOf v).toNat) ?_ ?_
 ·exact ⟨0, Nat.zero_le _, rfl, by rw [List.take_zero, bh, mH]; exact hh⟩
 ·clear hh;rintro ρ' v w' ⟨i, hi, rfl, hh⟩;by_cases hlt : i < a.size
  ·obtain ⟨c, hc⟩ := aG (l := a.data.toList) (k := ((a.size : Int) - 1 - i).toNat) Dq;have hlo := xB (s := a.data.toList) (i := i) (c := c) Dq (by rw [← hc]; congr 1; omega);have hc8 := c.toNat_lt;have hn := fY ((rf a.data.toList).take i);rw [List.length_take, kH, Nat.min_eq_left Dq] at hn;obtain ⟨s1, s2, s3⟩ := Aj (k := (a.size + 7) / 8) (bh 256 ((sl a.data.toList).take i)) hn hc8 Dq;have hg := dN (fP (B := 18446744073709551616) ((a.size + 7) / 8) (bh 256 ((sl a.data.toList).take i)) (i / 8) Dq);have e1 : ((i : Int) % 8 * 8).toNat = i % 8 * 8 := Dq;refine sr ?_;refine a3 (aa (ah (cT (ak (ai (ah (ao (sr (mI (aI (aa (sr (mS ?_)))))))))))));refine bs aF.out rfl Dr ?_;refine ek (mI ?_);refine ek (aI (aa ?_));refine bg 13 [[(3, none)], [(4, none)], [(22, some 1)], [(21, some 0), (23, some 2)], [(24, some 3)], [(0, none)], [(5, none)], [(26, some 5), (27, some 6)], [(28, some 7)], [(4, none)], [(30, some 9)], [(31, some 10)], [(29, some 8), (32, some 11)]] [(12, 33), (11, 32), (10, 31), (9, 30), (8, 29), (7, 28), (6, 27), (5, 26), (4, 25), (3, 24), (2, 23), (1, 22), (0, 21)] hh mixed Dt ?_;refine jv ?_;refine fW ?_
   refine bo (i := 2) (fun ρ1 w1 hj hR => rR (show ρ1 22 = Value.int _ _ from hR.1) rfl Dq Dq Dq) ?_;refine BQ (i / 8) ?_;refine bo (i := 4) (fun ρ1 w1 hj hR => gP aC.out (show ρ1 24 = Value.pointer _ from hR.1) (hj.hp.cE (i := 0) rfl (by first | assumption | (simp only [Nat.mul_one]; assumption)))) ?_;refine Dd ?_;refine fW ?_;refine bo (i := 7) (fun ρ1 w1 hj hR => jM aF.out (show ρ1 26 = Value.string _ from hR.1) (show ρ1 27 = Value.int _ _ from hR.2.1) Dq (by assumption)) ?_;first | refine bo (i := 8) (fun ρ1 w1 hj hR => n8 aF.out aF.out (show ρ1 28 = Value.int _ _ from hR.1) (by first | assumption | omega)) ?_ | refine bo (i := 8) (fun ρ1 w1 hj hR => vp aF.out aF.out (show ρ1 28 = Value.int _ _ from hR.1)) ?_
   refine fW ?_;refine bo (i := 10) (fun ρ1 w1 hj hR => mv (show ρ1 30 = Value.int _ _ from hR.1) rfl Dq Dq) ?_;refine CT ?_;refine bo (i := 12) (fun ρ1 w1 hj hR => qX (show ρ1 29 = Value.int _ _ from hR.1) (show ρ1 32 = Value.int _ _ from hR.2.1) Dq) ?_;refine bq ?_;intro f W hJ hV;have hb_6 := hJ.bl;obtain ⟨v33, v32, v31, v30, v29, v28, v27, v26, v25, v24, v23, v22, v21, _⟩ := hV;replace hh := hJ.hp;refine a6 (bk (ae v33 (ae v32 (ae v31 (ae v30 (ae v29 (ae v28 (ae v27 (ae v26 (ae v25 (ae v24 (ae v23 (ae v22 (ae v21 a5)))))))))))))) ?_;dsimp only [cJ];clear hJ;refine ve rfl rfl (by first | assumption | omega) (by first | assumption | omega) Dr ?_;refine bm (k := i / 8) aF.out aC.size rfl rfl Dq Dq Dr ?_;refine bA hh (i := 0) (vs := [_]) rfl rfl (bK rfl) rfl aC.out rfl (by rw [aP, aM]; omega) rfl ?_;intro ws hh;simp only [List.set_cons_zero] at hh;rw [e1, Nat.mod_eq_of_lt s2, tX s1, bY (by rw [aP, aM]; omega), Nat.mul_one, eS, s3, ← eM hlo] at hh;refine aE (aX (ai (ar ?_)));refine bO (mI (aE (ai ?_)));refine ⟨⟨i + 1, Dq, rfl, hh⟩, by show a.size - (i + 1) < a.size - i; omega, ?_⟩;exact Du
  ·refine sr ?_;refine a3 (aa (ah (cF (aV (aA (aA (a8 (ai (sr (mL ?_))))))))));rw [List.take_of_length_le (by rw [kH]; omega)] at hh;refine bB hh (fI _ _ _ (bH 18446744073709551616 ((a.size + 7) / 8) (bn a.data.toList)) _ (hh.aD (i := 0) rfl) (Nat.le_refl _) Dq) rfl ?_;intro w38 hh;refine aL (aa (al ?_));refine cA ?_;have hbd : bn a.data.toList < 18446744073709551616 ^ ((a.size + 7) / 8) := by
    refine Nat.lt_of_lt_of_le (AK _) ?_;rw [← hsz, show (256 : Nat) = 2 ^ 8 from rfl, show (18446744073709551616 : Nat) = 2 ^ 64 from rfl, ← Nat.pow_mul, ← Nat.pow_mul];exact Nat.pow_le_pow_right Dq Dq
   have hd : dz (bH 18446744073709551616 ((a.size + 7) / 8) (bn a.data.toList)) = aR 18446744073709551616 (bn a.data.toList) := by
    rw [eL Dq (eB Dq _ _), cq hbd]
   have h1 := (Hp.vw (xs := bH 18446744073709551616 ((a.size + 7) / 8) (bn a.data.toList)) hh (aM _ _)).at_ (i := 0) rfl;rw [hd] at h1;rw [hd];exact ⟨_, _, rfl, h1, hh.below⟩
theorem Sl.Bg {w : World} {A : Option Addr} {n : Nat} {xs : List Nat} (h : Sl w A n 1 (cB xs)) {k : Nat} (hk : k ≤ n) : Sl w A k 1 (cB (xs.take k)) := by
 have hl := h.1;rw [aP] at hl;refine ⟨by rw [aP, List.length_take]; omega, fun h0 => ?_⟩;obtain ⟨ad, he, hr⟩ := h.2 Dq;exact ⟨ad, he, by rw [p9]; exact hr.take k⟩
theorem Sl.rT {w : World} {A : Option Addr} {n : Nat} {xs : List Nat} (h : Sl w A n 1 (cB xs)) : Sl w A (dz xs).length 1 (cB (dz xs)) := by
 have hl := h.1;rw [aP] at hl;have := eI xs;have h2 := h.Bg (k := (dz xs).length) Dq;rwa [← gX] at h2
theorem tT {xs : List Nat} (h : Dg 18446744073709551616 xs) : bz (bh 18446744073709551616 xs) ≤ 64 * xs.length := by
 apply dm;rw [Nat.pow_mul];exact fY h
theorem oR (A : Option Addr) (n c : Nat) (xs : List Nat) (w : World) (hx : Sl w A n 1 (cB xs)) (hd : Dg 18446744073709551616 xs) (hc : n ≤ c) (hn : n ≤ 100000000000) :
  Calls Tryz.prog 248 #[.slice A n c] w fun e w' => e = .returned (.int .i64 (bz (bh 18446744073709551616 xs))) ∧ Below w.heap.size w w' := by
 have hl := hx.1;rw [aP] at hl;have hcl := eI xs;have hcx := hx.rT;have hcd := hd.cut;have hlast := qB xs;rw [← iQ];generalize hcs : dz xs = cs at *;have hh := Hp.start w;refine aj (N := 19) (l := [.slice A n c]) Tryz.func248 rfl rfl (by simp) ?_;refine sr (aI (aa (sr (mL ?_))));refine bB hh (fI _ _ _ xs _ hx hc Dq) rfl ?_;intro w4 hh;rw [hcs];by_cases h0 : cs.length = 0
 ·refine aL (aa (ah (sr (mL (a4 ?_)))));refine cu (aa (cT (sr (aI (aa (al (aH ?_)))))));refine cA ?_;have : cs = [] := List.eq_nil_of_length_eq_zero h0;subst this;exact ⟨by rw [bh, iO]; rfl, hh.below⟩
 ·obtain ⟨ad, rfl, hr⟩ := hcx.at_ Dq;obtain ⟨d, hd⟩ := aG (l := cs) (k := cs.length - 1) Dq;have hd2 := dN hd;have hd3 := hcd.at_ hd;have e1 : cs.take (cs.length - 1) ++ [d] = cs := by rw [← aT hd, List.take_of_length_le Dq]
  have hnz : d ≠ 0 := by
   intro h;subst h;apply hlast;rw [List.getLast?_eq_getElem?];exact hd
  have hb := y5 (B := 18446744073709551616) (b := 64) (m := cs.length - 1) Dr (hcd.take (cs.length - 1)) (by rw [List.length_take]; omega) hnz;rw [e1] at hb;have hb2 : bz d ≤ 64 := dm (by simpa using hd3);refine aL (aa (ah (sr (mL (a4 ?_)))));refine cu (aa (cF (ak (ai (sr (mL (a4 ?_)))))));refine mulC (mL (mL (a4 ?_)));refine ek ?_;refine aZ (k := cs.length - 1) aF.out aC.size rfl rfl Dq Dq Dr ?_;refine bp aC.out rfl ((hr.ext hh.below).nT (by assumption)) Dr ?_;refine bB hh (ux _ _ hd3) rfl ?_;intro w17 hh;refine ek (aI (aa (al ?_)));refine cA ?_;refine ⟨?_, hh.below⟩;congr 2;omega
theorem tR (N : Nat) : (aR 256 N).length = (bz N + 7) / 8 := by
 have h256 : (256 : Nat) = 2 ^ 8 := rfl;have h1 : (aR 256 N).length ≤ (bz N + 7) / 8 := by
  apply fB Dq;refine Nat.lt_of_lt_of_le (db N) ?_;rw [h256, ← Nat.pow_mul];exact Nat.pow_le_pow_right Dq Dq
 have h2 := j9 (B := 256) Dq N;have h3 : bz N ≤ 8 * (aR 256 N).length := by
  apply dm;rw [Nat.pow_mul];exact h2
 omega
theorem iT {B : Nat} (i N : Nat) : bH B (i + 1) N = bH B i N ++ [N / B ^ i % B] := by
 apply List.ext_getElem?;intro j
 rcases Nat.lt_trichotomy j i with h | h | h
 ·rw [fP _ _ _ Dq, List.getElem?_append_left (by rw [aM]; exact h), fP _ _ _ h]
 ·subst h;rw [fP _ _ _ Dq, List.getElem?_append_right (by rw [aM]; omega), aM];simp
 ·rw [List.getElem?_eq_none (by rw [aM]; omega), List.getElem?_eq_none (by rw [List.length_append, aM]; simp; omega)]
theorem vR {R : List Nat} {k x : Nat} : (List.replicate (k + 1) 0 ++ R).set k x = List.replicate k 0 ++ (x :: R) := by
 rw [List.replicate_succ', List.append_assoc, List.set_append_right _ _ (by simp)];simp
theorem fH (A : Option Addr) (n c : Nat) (xs : List Nat) (w : World) (hx : Sl w A n 1 (cB xs)) (hd : Dg 18446744073709551616 xs) (hc : n ≤ c) (hn : n ≤ 10000000000) :
  Calls Tryz.prog 235 #[.slice A n c] w fun e w' => e = .returned (.string (str (sb (bh 18446744073709551616 xs)))) ∧ Below w.heap.size w w' := by
 have hl := hx.1;rw [aP] at hl;have hcl := eI xs;have hcx := hx.rT;have hcd := hd.cut;have hbl := tT hcd;have hcan := eL Dq hd;have hlen := tR (bh 18446744073709551616 xs);rw [iQ] at hbl;have hh := Hp.start w;refine aj (N := 37) (l := [.slice A n c]) Tryz.func235 rfl rfl (by simp) ?_;refine sr (aS (aa (sr (mL ?_))));refine bB hh (fI _ _ _ xs _ hx hc Dq) rfl ?_;intro w7 hh;rw [hcan] at hcl hcx hcd hbl;rw [hcan];refine aL (aa (sr (mL ?_)));refine bB hh (oR _ _ _ (aR 18446744073709551616 (bh 18446744073709551616 xs)) _ (hcx.ext hh.below) hcd Dq Dq) rfl ?_;intro w9 hh;rw [dF Dq];generalize bh 18446744073709551616 xs = M at *;refine bO ?_;refine iF rfl rfl Dq Dq Dq Dr ?_;refine aI (aa (sr (mI ?_)));refine gw (n := (bz M + 7) / 8) hh rfl rfl Dq Dq aF.out aC.out rfl Dq Dq Dr ?_;intro b13 w13 hh;refine aL (aa (ah (sr (mI (mI (aa (ao ?_)))))));rw [lQ] at hh;refine bF [5, 15, 16, 17, 18, 19, 20, 21, 22, 23, 24, 25, 26, 27, 28, 29, 30, 31, 32, 33, 34] 15
  (fun v w' => ∃ i : Nat, i ≤ (bz M + 7) / 8 ∧ v = .int .i64 i ∧ Hp w [.row (some ⟨b13, 0, none⟩) ((bz M + 7) / 8) ((bz M + 7) / 8) 5 1 (fo (List.replicate ((bz M + 7) / 8 - i) 0 ++ (bH 256 i M).reverse))] w')
  (fun v _ => (bz M + 7) / 8 - (intOf v).toNat) ?_ ?_
 ·exact ⟨0, Nat.zero_le _, rfl, by simpa [bH] using hh⟩
 ·clear hh;rintro ρ' v w' ⟨i, hi, rfl, hh⟩;by_cases hlt : i < (bz M + 7) / 8
  ·obtain ⟨ad, rfl, hr⟩ := hcx.at_ Dq;have hg := sQ (B := 18446744073709551616) (n := M) (i := i / 8) Dq Dq;have hg2 := dN hg;have e1 : ((i : Int) % 8 * 8).toNat = i % 8 * 8 := Dq;refine sr ?_;refine a3 (aa (ah (cT (ak (ai (ah (ao (sr (mI (aI (aa (ar (mL (mI ?_))))))))))))));refine ek (mI ?_);refine ek (mL (mI ?_));refine iF rfl rfl Dq Dq Dq Dr ?_;refine aZ (k := i / 8) aF.out aC.size rfl rfl Dq Dq Dr ?_;refine bp aC.out rfl ((hr.ext hh.below).nT (by assumption)) Dr ?_;refine mI ?_;refine jI rfl rfl Dq Dq Dr ?_;refine mulC ?_;refine uD rfl rfl Dq Dr ?_;first | refine di aF.out aF.out rfl (by first | assumption | omega) Dr ?_ | refine eY aF.out aF.out rfl Dr ?_
   refine bm (k := (bz M + 7) / 8 - 1 - i) aF.out aC.size rfl rfl Dq Dq Dr ?_;refine bA hh (i := 0) (vs := [_]) rfl rfl (bK rfl) rfl aC.out rfl (by rw [cm, List.length_append, List.length_reverse, List.length_replicate, aM]; omega) rfl ?_;intro ws hh;simp only [List.set_cons_zero] at hh;obtain ⟨k, hk⟩ : ∃ k, (bz M + 7) / 8 - i = k + 1 := ⟨(bz M + 7) / 8 - i - 1, Dq⟩;rw [e1, wj, Nat.mul_one, bY (by rw [cm, List.length_append, List.length_reverse, List.length_replicate, aM]; omega), j6, hk, show (bz M + 7) / 8 - 1 - i = k by omega, vR, ← List.reverse_concat, ← iT] at hh;refine aE (aX (ai (ar ?_)));refine bO (mI (aE (ai ?_)));refine ⟨⟨i + 1, Dq, rfl, by rw [show (bz M + 7) / 8 - (i + 1) = k by omega]; exact hh⟩, by show (bz M + 7) / 8 - (i + 1) < (bz M + 7) / 8 - i; omega, ?_⟩;exact Du
  ·obtain rfl : i = (bz M + 7) / 8 := Dq;have hfin : fo (List.replicate ((bz M + 7) / 8 - (bz M + 7) / 8) 0 ++ (bH 256 ((bz M + 7) / 8) M).reverse) = jj (sb M) := by
    rw [Nat.sub_self, List.replicate_zero, List.nil_append, ← hlen];have h1 : M < 256 ^ (aR 256 M).length := j9 Dq M;rw [rX Dq h1, Nat.sub_self, List.replicate_zero, List.append_nil, qk (fun d hd => (dw (B := 256) Dq M).1 d (List.mem_reverse.1 hd)), sb, List.map_reverse]
   rw [hfin] at hh;refine sr ?_;refine a3 (aa (ah (cF (aV (aA (aA (a8 (ai (sr (mL ?_))))))))));refine jL aF.out aF.out aF.out rfl (hh.aD (i := 0) rfl) Dr ?_;refine aS (aa (al ?_));refine cA ?_;exact ⟨rfl, hh.below⟩
theorem kx (A : Option Addr) (n c m : Nat) (xs : List Nat) (w : World) (hx : Sl w A n 1 (cB xs)) (hn : n ≤ 10000000000) (hm : m ≤ 10000000000) :
  Calls Tryz.prog 249 #[.slice A n c, .int .i64 m] w fun e w' => ∃ b, e = .returned (.slice (some ⟨b, 0, none⟩) (max m n) (max m n)) ∧ w'.ownsRow w.heap.size 204 1 (.slice (some ⟨b, 0, none⟩) (max m n) (max m n)) (max m n) (cB (xs ++ List.replicate (max m n - n) 0)) ∧ Below w.heap.size w w' := by
 have hl := hx.1;rw [aP] at hl;have hh := Hp.start w;refine aj (N := 15) (l := [.slice A n c, .int .i64 m]) Tryz.func249 rfl rfl (by simp) ?_;refine sr (aL (aa (sr (mI (mL (a4 ?_))))));refine ku rfl rfl Dr ?_;refine gw (n := max m n) hh rfl rfl Dq Dq aF.out aC.out rfl Dq Dq Dr ?_;intro b10 w10 hh;refine aL (aa (sr (mL (mL ?_))));rw [lG] at hh;refine zi hh (i := 0) (o := 0) rfl rfl rfl (hx.ext hh.below) aF.out aC.out (by rw [aP, List.length_replicate]; omega) (bU _) Dr ?_;intro w13 hh;skip;have e1 : cg (cB (List.replicate (max m n) 0)) 0 ((cB xs).take (min n (max m n) * 1)) = cB (xs ++ List.replicate (max m n - n) 0) := by
  rw [List.take_of_length_le (by rw [aP]; omega), cg, List.take_zero, List.nil_append, aP, ← qK, ← sY, List.drop_replicate];congr 3;omega
 simp only [List.set_cons_zero, e1] at hh;refine aa (sr (mL (aL (aa (al ?_)))));refine cA ?_;exact ⟨_, rfl, hh.at_ (i := 0) rfl, hh.below⟩
theorem kJ (A B : Option Addr) (n c m c' : Nat) (xs ys : List Nat) (w : World) (hx : Sl w A n 1 (cB xs)) (hy : Sl w B m 1 (cB ys)) (hdx : Dg 18446744073709551616 xs) (hdy : Dg 18446744073709551616 ys) (hc : n ≤ c) (hc' : m ≤ c') (hn : n ≤ 100000000000) (hm : m ≤ 100000000000) :
  Calls Tryz.prog 252 #[.slice A n c, .slice B m c'] w fun e w' => e = .returned (.int .i64 (iK (bh 18446744073709551616 xs) (bh 18446744073709551616 ys))) ∧ Below w.heap.size w w' := by
 have hlx := hx.1;have hly := hy.1;rw [aP] at hlx hly;have hcx := hx.rT;have hcy := hy.rT;have hxl := eI xs;have hyl := eI ys;have hx2 := Can.cut hdx;have hy2 := Can.cut hdy;have hh := Hp.start w;rw [← iQ xs, ← iQ ys];refine aj (N := 47) (l := [.slice A n c, .slice B m c']) Tryz.func252 rfl rfl (by simp) ?_;refine sr (aI (aa (sr (mL ?_))));refine bB hh (fI _ _ _ xs _ hx hc Dq) rfl ?_;intro w7 hh;refine mL ?_;refine bB hh (fI _ _ _ ys _ (hy.ext hh.below) hc' Dq) rfl ?_;intro w9 hh;generalize dz xs = us at *;generalize dz ys = vs at *;by_cases hlen : us.length = vs.length
 ·refine aL (aL (aa (ah (sr (mL (a4 (mL (a4 ?_))))))));refine cz (aa (cF (ak (ai (ah (sr (mL (a4 ?_))))))));refine ek (aI (aa (ao ?_)));refine bF [4, 5, 23, 24, 25, 26, 27, 28, 29, 30, 31, 32, 33, 34, 35, 36, 37, 38, 39, 40, 41, 42, 43, 44, 45, 46] 5
   (fun v w' => ∃ k : Nat, k ≤ us.length ∧ v = .int .i64 ((k : Int) - 1) ∧ us.drop k = vs.drop k ∧ Hp w [] w')
   (fun v _ => (intOf v + 1).toNat) ?_ ?_
  ·exact ⟨us.length, Nat.le_refl _, rfl, by rw [List.drop_length, List.drop_eq_nil_of_le Dq], hh⟩
  ·clear hh;rintro ρ' v w' ⟨k, hk, rfl, hd, hh⟩;by_cases h0 : k = 0
   ·subst h0;refine ah (sr (mI ?_));refine dE (aa (cF (aV (aA (aA (a8 (ai (sr (aI (aa (al ?_)))))))))));refine cA ?_;rw [List.drop_zero, List.drop_zero] at hd;rw [hd];exact ⟨by rw [vi rfl], hh.below⟩
   ·obtain ⟨j, rfl⟩ : ∃ j, k = j + 1 := ⟨k - 1, Dq⟩;obtain ⟨x, hxj⟩ := aG (l := us) (k := j) Dq;obtain ⟨y, hyj⟩ := aG (l := vs) (k := j) Dq;obtain ⟨ad, rfl, hr⟩ := hcx.at_ Dq;obtain ⟨ad2, rfl, hs⟩ := hcy.at_ Dq;have hx3 := dN hxj;have hy3 := dN hyj;by_cases hlt : x < y
    ·have hf := qt hx2.1 hxj hyj hd hlt;refine ah (sr (mI ?_));refine dE (aa (cT (ak (ai (ah (ao (ao (ah ?_))))))));refine bg 8 [[(0, none)], [(5, none)], [(28, some 0), (29, some 1)], [(30, some 2)], [(1, none)], [(5, none)], [(32, some 4), (33, some 5)], [(34, some 6)]] [(7, 35), (6, 34), (5, 33), (4, 32), (3, 31), (2, 30), (1, 29), (0, 28)] hh mixed Dt ?_;refine jv ?_;refine fW ?_;refine mf (j) ?_;refine kP (fun _ hj => (hr.ext hj.hp.below).nT hx3) ?_;refine jv ?_;refine fW ?_;refine mf (j) ?_;refine kP (fun _ hj => (hs.ext hj.hp.below).nT hy3) ?_;refine bq ?_;intro f W hJ hV;have hb_9 := hJ.bl;obtain ⟨v35, v34, v33, v32, v31, v30, v29, v28, _⟩ := hV;replace hh := hJ.hp;refine a6 (bk (ae v35 (ae v34 (ae v33 (ae v32 (ae v31 (ae v30 (ae v29 (ae v28 a5))))))))) ?_;dsimp only [cJ];clear hJ;refine a3 (aB (aa (cT (sr (aI (aa (al (bT (bT (aH (aH (bT (aH ?_)))))))))))));refine cA ?_;exact ⟨by rw [jk hf], hh.below⟩
    ·by_cases hgt : y < x
     ·have hf := qt hy2.1 hyj hxj hd.symm hgt;refine ah (sr (mI ?_));refine dE (aa (cT (ak (ai (ah (ao (ao (ah ?_))))))));refine bg 8 [[(0, none)], [(5, none)], [(28, some 0), (29, some 1)], [(30, some 2)], [(1, none)], [(5, none)], [(32, some 4), (33, some 5)], [(34, some 6)]] [(7, 35), (6, 34), (5, 33), (4, 32), (3, 31), (2, 30), (1, 29), (0, 28)] hh mixed Dt ?_;refine jv ?_;refine fW ?_;refine mf (j) ?_;refine kP (fun _ hj => (hr.ext hj.hp.below).nT hx3) ?_;refine jv ?_;refine fW ?_;refine mf (j) ?_;refine kP (fun _ hj => (hs.ext hj.hp.below).nT hy3) ?_;refine bq ?_;intro f W hJ hV;have hb_9 := hJ.bl;obtain ⟨v35, v34, v33, v32, v31, v30, v29, v28, _⟩ := hV;replace hh := hJ.hp;refine a6 (bk (ae v35 (ae v34 (ae v33 (ae v32 (ae v31 (ae v30 (ae v29 (ae v28 a5))))))))) ?_;dsimp only [cJ];clear hJ;refine a3 (aB (aa (cF (ah ?_))));refine bg 8 [[(0, none)], [(5, none)], [(38, some 0), (39, some 1)], [(40, some 2)], [(1, none)], [(5, none)], [(42, some 4), (43, some 5)], [(44, some 6)]] [(7, 45), (6, 44), (5, 43), (4, 42), (3, 41), (2, 40), (1, 39), (0, 38)] hh mixed Dt ?_;refine jv ?_;refine fW ?_;refine mf (j) ?_;refine kP (fun _ hj => (hr.ext hj.hp.below).nT hx3) ?_;refine jv ?_
      refine fW ?_;refine mf (j) ?_;refine kP (fun _ hj => (hs.ext hj.hp.below).nT hy3) ?_;refine bq ?_;intro f W hJ hV;have hb_11 := hJ.bl;obtain ⟨v45, v44, v43, v42, v41, v40, v39, v38, _⟩ := hV;replace hh := hJ.hp;refine a6 (bk (ae v45 (ae v44 (ae v43 (ae v42 (ae v41 (ae v40 (ae v39 (ae v38 a5))))))))) ?_;dsimp only [cJ];clear hJ;refine ct (aB (aa (cT (sr (aI (aa (al (bT (bT (aH (aH (bT (aH ?_)))))))))))));refine cA ?_;exact ⟨by rw [rI hf], hh.below⟩
     ·refine ah (sr (mI ?_));refine dE (aa (cT (ak (ai (ah (ao (ao (ah ?_))))))));refine bg 8 [[(0, none)], [(5, none)], [(28, some 0), (29, some 1)], [(30, some 2)], [(1, none)], [(5, none)], [(32, some 4), (33, some 5)], [(34, some 6)]] [(7, 35), (6, 34), (5, 33), (4, 32), (3, 31), (2, 30), (1, 29), (0, 28)] hh mixed Dt ?_;refine jv ?_;refine fW ?_;refine mf (j) ?_;refine kP (fun _ hj => (hr.ext hj.hp.below).nT hx3) ?_;refine jv ?_;refine fW ?_;refine mf (j) ?_;refine kP (fun _ hj => (hs.ext hj.hp.below).nT hy3) ?_;refine bq ?_;intro f W hJ hV;have hb_9 := hJ.bl;obtain ⟨v35, v34, v33, v32, v31, v30, v29, v28, _⟩ := hV;replace hh := hJ.hp;refine a6 (bk (ae v35 (ae v34 (ae v33 (ae v32 (ae v31 (ae v30 (ae v29 (ae v28 a5))))))))) ?_;dsimp only [cJ];clear hJ;refine a3 (aB (aa (cF (ah ?_))));refine bg 8 [[(0, none)], [(5, none)], [(38, some 0), (39, some 1)], [(40, some 2)], [(1, none)], [(5, none)], [(42, some 4), (43, some 5)], [(44, some 6)]] [(7, 45), (6, 44), (5, 43), (4, 42), (3, 41), (2, 40), (1, 39), (0, 38)] hh mixed Dt ?_;refine jv ?_;refine fW ?_;refine mf (j) ?_;refine kP (fun _ hj => (hr.ext hj.hp.below).nT hx3) ?_;refine jv ?_;refine fW ?_;refine mf (j) ?_
      refine kP (fun _ hj => (hs.ext hj.hp.below).nT hy3) ?_;refine bq ?_;intro f W hJ hV;have hb_11 := hJ.bl;obtain ⟨v45, v44, v43, v42, v41, v40, v39, v38, _⟩ := hV;replace hh := hJ.hp;refine a6 (bk (ae v45 (ae v44 (ae v43 (ae v42 (ae v41 (ae v40 (ae v39 (ae v38 a5))))))))) ?_;dsimp only [cJ];clear hJ;refine ct (aB (aa (cF (ak (aX (aX (ai (ar (mI ?_)))))))));refine ek (aI (aE (ai ?_)));refine ⟨⟨j, Dq, by show Value.int _ _ = Value.int _ _; congr 1; omega, rK hxj hyj hd Dq, hh⟩, by show ((((j + 1 : Nat) : Int) - 1 - 1) + 1).toNat < ((((j + 1 : Nat) : Int) - 1) + 1).toNat; omega, ?_⟩;exact Du
 ·by_cases hlt : us.length < vs.length
  ·have hf : bh 18446744073709551616 us < bh 18446744073709551616 vs := by
    refine Nat.lt_of_not_le fun h => ?_;have := hy2.pz hx2 Dq h;omega
   refine aL (aL (aa (ah (sr (mL (a4 (mL (a4 ?_))))))));refine cz (aa (cT (ah (sr (mL (a4 (mL (a4 ?_))))))));refine a3 (aa (cT (sr (aI (aa (al (aH (aH ?_))))))));refine cA ?_;exact ⟨by rw [jk hf], hh.below⟩
  ·have hf : bh 18446744073709551616 vs < bh 18446744073709551616 us := by
    refine Nat.lt_of_not_le fun h => ?_;have := hx2.pz hy2 Dq h;omega
   refine aL (aL (aa (ah (sr (mL (a4 (mL (a4 ?_))))))));refine cz (aa (cT (ah (sr (mL (a4 (mL (a4 ?_))))))));refine a3 (aa (cF (ak (ai (sr (aI (aa (al (aH ?_)))))))));refine cA ?_;exact ⟨by rw [rI hf], hh.below⟩
end Go.Proofs.YteeckcbbnegmcaaGreatDoor
namespace Go.Proofs.YteeckcbbnegmcaaGreatDoor
open Go.RowKit
theorem B8 {y m : Nat} (hy : y < 18446744073709551616) (hm : m < 18446744073709551616) : y * m ≤ 340282366920938463426481119284349108225 := Nat.mul_le_mul (by omega : y ≤ 18446744073709551615) (by omega : m ≤ 18446744073709551615)
theorem qh {x y m c P : Nat} (hx : x < 18446744073709551616) (hc : c < 18446744073709551616) (hP : P ≤ 340282366920938463426481119284349108225) (he : P = y * m) :
  (x + (P % 18446744073709551616 + c + 0) % 18446744073709551616 + 0) % 18446744073709551616 = (x + y * m + c) % 18446744073709551616 ∧ ((P / 18446744073709551616 + (P % 18446744073709551616 + c + 0) / 18446744073709551616) % 18446744073709551616 + (x + (P % 18446744073709551616 + c + 0) % 18446744073709551616 + 0) / 18446744073709551616) % 18446744073709551616 = (x + y * m + c) / 18446744073709551616 ∧ (x + y * m + c) / 18446744073709551616 < 18446744073709551616 := by
 rw [← he];omega
theorem sM {w0 : World} {H : List HE} {b M C c' ny cy m : Nat} {Y : Option Addr} (pre xs post ys : List Nat) (w : World) (hh : Hp w0 (.row (some ⟨b, 0, none⟩) M C 204 1 (cB (pre ++ xs ++ post)) :: H) w)
  (hy : ∀ w1 cs, Hp w0 (.row (some ⟨b, 0, none⟩) M C 204 1 cs :: H) w1 → Sl w1 Y ny 1 (cB ys)) (hxd : Dg 18446744073709551616 xs) (hyd : Dg 18446744073709551616 ys) (hm : m < 18446744073709551616) (hM : xs.length ≤ 100000000000) (hny : ny ≤ 100000000000) :
  Calls Tryz.prog 255 #[.slice (some ⟨b, pre.length, none⟩) xs.length c', .slice Y ny cy, .int .u64 (m : Int)] w fun e w' => e = .returned (.tuple #[]) ∧ Hp w0 (.row (some ⟨b, 0, none⟩) M C 204 1 (cB (pre ++ fg 18446744073709551616 xs ys m 0 ++ post)) :: H) w' := by
 have hly := (hy _ _ hh).1;rw [aP] at hly;refine aj (N := 56) (l := [.slice (some ⟨b, pre.length, none⟩) xs.length c', .slice Y ny cy, .int .u64 (m : Int)]) Tryz.func255 rfl rfl (by simp) ?_;refine sr (aI (aa (sr (mL (a4 (mI (aa (ao ?_))))))));refine de [6, 7, 8, 9, 10, 11, 14, 15, 16, 17, 18, 19, 20, 21, 22, 23, 24, 25, 26, 27, 28, 29, 30, 31, 32, 33, 34, 35, 36, 37, 38, 39, 40, 41, 42, 43, 44, 45, 46, 47, 48, 49, 50, 51, 52, 53, 54, 55] 6 14
  (fun c i w' => ∃ (done rest : List Nat) (cr : Nat), done.length + rest.length = xs.length ∧ i = .int .i64 done.length ∧ c = .int .u64 (cr : Int) ∧ cr < 18446744073709551616 ∧ Dg 18446744073709551616 rest ∧ done ++ fg 18446744073709551616 rest (ys.drop done.length) m cr = fg 18446744073709551616 xs ys m 0 ∧ Hp w0 (.row (some ⟨b, 0, none⟩) M C 204 1 (cB (pre ++ (done ++ rest) ++ post)) :: H) w')
  (fun _ i _ => xs.length - (intOf i).toNat) ?_ ?_
 ·exact ⟨[], xs, 0, by simp, rfl, rfl, Dq, hxd, rfl, hh⟩
 ·clear hh;rintro ρ' c i w' ⟨done, rest, cr, hlen, rfl, rfl, hcr, hrd, heq, hh⟩;by_cases hlt : done.length < xs.length
  ·obtain ⟨x, r, rfl⟩ : ∃ x r, rest = x :: r := by
    cases rest with
    | nil => simp at hlen; omega
    | cons x r => exact ⟨x, r, rfl⟩
   have hx := hrd.head;have hg := dN (rH (pre := pre) (done := done) (r := r) (post := post) (x := x));have hlr : done.length + (r.length + 1) = xs.length := by simpa using hlen
   simp only [fg, tail_drop, pq] at heq;by_cases hiy : done.length < ny
   ·obtain ⟨y, hyk⟩ := aG (l := ys) (k := done.length) Dq;obtain ⟨ad, rfl, _⟩ := (hy _ _ hh).at_ Dq;rw [hyk, Option.getD_some] at heq;have hyw := hyd.at_ hyk;refine sr ?_;refine a3 (aa (ah (cT (ak (ai (ah (ao (sr (mI (aI (aa (sr (aI (aa (ah (sr (mI (mL (a4 ?_)))))))))))))))))));refine a3 (aa (cT (ar (mL (mI ?_)))));refine aZ (k := done.length) aF.out aC.size rfl rfl Dq Dq Dr ?_;refine bp aC.out rfl ((hy _ _ hh).Bw hyk) Dr ?_;refine aI (aa (sr (mI (mI ?_))));obtain ⟨p1, p2, p3⟩ := qh (y := y) (m := m) hx hcr (B8 hyw hm) rfl;refine bB hh (nC y m _ hyw hm) rfl ?_;intro w28 hh;refine mT ?_;refine da ?_;refine da ?_;refine aI (aI (aa (sr (mI (mI ?_)))));refine iz (gW (y * m % 18446744073709551616) cr 0 Dq _) (ay (bK rfl) (ay (bK rfl) (ay rfl a0))) Dr ?_;refine mT ?_;refine da ?_;refine da ?_;refine aI (aI (aa (sr (mI (mI ?_)))));refine fM rfl rfl Dr ?_;refine aI (aa (sr (mL (mI (mL (mI ?_))))));refine dA aF.out aC.size rfl rfl rfl Dq Dr ?_;refine bp aC.out rfl (hh.cE (i := 0) rfl (by first | assumption | (simp only [Nat.mul_one]; assumption))) Dr ?_;refine mI ?_
    refine iz (gW x ((y * m % 18446744073709551616 + cr + 0) % 18446744073709551616) 0 Dq _) (ay (bK rfl) (ay (bK rfl) (ay rfl a0))) Dr ?_;refine mT ?_;refine da ?_;refine da ?_;refine dA (k := done.length) aF.out aC.size rfl rfl Dq Dq Dr ?_;refine bA hh (i := 0) (vs := [_]) rfl rfl (bK rfl) rfl aC.out rfl (by rw [aP]; simp only [List.length_append, List.length_cons]; omega) rfl ?_;intro ws hh;simp only [List.set_cons_zero] at hh;rw [p1, Nat.mul_one, bY (by rw [aP]; simp only [List.length_append, List.length_cons]; omega), eS, j4] at hh;refine aI (aa (ar (mI (mI ?_))));refine fM rfl rfl Dr ?_;refine aI (aE (aX (ai (ar ?_))));refine bO (mI (aE (ai ?_)));rw [p2];refine ⟨⟨done ++ [(x + y * m + cr) % 18446744073709551616], r, _, by simp; omega, by rw [List.length_append]; rfl, rfl, p3, hrd.tail, ?_, hh⟩, by show xs.length - (done.length + 1) < xs.length - done.length; omega, ?_⟩
    ·rw [← heq, List.append_assoc, List.length_append]; rfl
    exact Du
   ·rw [List.getElem?_eq_none Dq, Option.getD_none] at heq;have h0w : (0 : Nat) < 18446744073709551616 := Dq;refine sr ?_;refine a3 (aa (ah (cT (ak (ai (ah (ao (sr (mI (aI (aa (sr (aI (aa (ah (sr (mI (mL (a4 ?_)))))))))))))))))));refine a3 (aa (cF (ak (ai (sr (mI (mI ?_)))))));obtain ⟨p1, p2, p3⟩ := qh (y := 0) (m := m) hx hcr (B8 h0w hm) rfl;refine bB hh (nC 0 m _ h0w hm) rfl ?_;intro w28 hh;refine mT ?_;refine da ?_;refine da ?_;refine aI (aI (aa (sr (mI (mI ?_)))));refine iz (gW (0 * m % 18446744073709551616) cr 0 Dq _) (ay (bK rfl) (ay (bK rfl) (ay rfl a0))) Dr ?_;refine mT ?_;refine da ?_;refine da ?_;refine aI (aI (aa (sr (mI (mI ?_)))));refine fM rfl rfl Dr ?_;refine aI (aa (sr (mL (mI (mL (mI ?_))))));refine dA aF.out aC.size rfl rfl rfl Dq Dr ?_;refine bp aC.out rfl (hh.cE (i := 0) rfl (by first | assumption | (simp only [Nat.mul_one]; assumption))) Dr ?_;refine mI ?_;refine iz (gW x ((0 * m % 18446744073709551616 + cr + 0) % 18446744073709551616) 0 Dq _) (ay (bK rfl) (ay (bK rfl) (ay rfl a0))) Dr ?_;refine mT ?_;refine da ?_;refine da ?_;refine dA (k := done.length) aF.out aC.size rfl rfl Dq Dq Dr ?_
    refine bA hh (i := 0) (vs := [_]) rfl rfl (bK rfl) rfl aC.out rfl (by rw [aP]; simp only [List.length_append, List.length_cons]; omega) rfl ?_;intro ws hh;simp only [List.set_cons_zero] at hh;rw [p1, Nat.mul_one, bY (by rw [aP]; simp only [List.length_append, List.length_cons]; omega), eS, j4] at hh;refine aI (aa (ar (mI (mI ?_))));refine fM rfl rfl Dr ?_;refine aI (aE (aX (ai (ar ?_))));refine bO (mI (aE (ai ?_)));rw [p2];refine ⟨⟨done ++ [(x + 0 * m + cr) % 18446744073709551616], r, _, by simp; omega, by rw [List.length_append]; rfl, rfl, p3, hrd.tail, ?_, hh⟩, by show xs.length - (done.length + 1) < xs.length - done.length; omega, ?_⟩
    ·rw [← heq, List.append_assoc, List.length_append]; rfl
    exact Du
  ·have hr0 : rest = [] := List.eq_nil_of_length_eq_zero Dq;subst hr0;refine sr ?_;refine a3 (aa (ah (cF (aV (aA (aA (a8 ?_)))))));refine Co (by first | exact .inr rfl | exact .inl rfl) rfl  ?_;rw [List.append_nil, fg, List.append_nil] at *;rw [← heq];exact ⟨rfl, hh⟩
theorem sg {w0 : World} {H : List HE} {b M C c' ny cy : Nat} {Y : Option Addr} (pre xs post ys : List Nat) (w : World) (hh : Hp w0 (.row (some ⟨b, 0, none⟩) M C 204 1 (cB (pre ++ xs ++ post)) :: H) w)
  (hy : ∀ w1 cs, Hp w0 (.row (some ⟨b, 0, none⟩) M C 204 1 cs :: H) w1 → Sl w1 Y ny 1 (cB ys)) (hxd : Dg 18446744073709551616 xs) (hyd : Dg 18446744073709551616 ys) (hM : xs.length ≤ 100000000000) (hny : ny ≤ 100000000000) (hsub : rW 18446744073709551616 xs ys 0 = 0) :
  Calls Tryz.prog 253 #[.slice (some ⟨b, pre.length, none⟩) xs.length c', .slice Y ny cy] w fun e w' => e = .returned (.bool true) ∧ Hp w0 (.row (some ⟨b, 0, none⟩) M C 204 1 (cB (pre ++ nF 18446744073709551616 xs ys 0 ++ post)) :: H) w' := by
 have hly := (hy _ _ hh).1;rw [aP] at hly;refine aj (N := 37) (l := [.slice (some ⟨b, pre.length, none⟩) xs.length c', .slice Y ny cy]) Tryz.func253 rfl rfl (by simp) ?_;refine sr (aB (aa (sr (aI (aa (ah (sr (mL (a4 (mI (aa (ao ?_))))))))))));refine de [5, 6, 7, 10, 11, 12, 13, 14, 15, 16, 17, 18, 19, 20, 21, 22, 23, 24, 25, 26, 27, 28, 29, 30, 31, 32, 33, 34] 5 10
  (fun c i w' => ∃ (done rest : List Nat) (cr : Nat), done.length + rest.length = xs.length ∧ i = .int .i64 done.length ∧ c = .int .u64 (cr : Int) ∧ cr ≤ 1 ∧ Dg 18446744073709551616 rest ∧ done ++ nF 18446744073709551616 rest (ys.drop done.length) cr = nF 18446744073709551616 xs ys 0 ∧ rW 18446744073709551616 rest (ys.drop done.length) cr = 0 ∧ Hp w0 (.row (some ⟨b, 0, none⟩) M C 204 1 (cB (pre ++ (done ++ rest) ++ post)) :: H) w')
  (fun _ i _ => xs.length - (intOf i).toNat) ?_ ?_
 ·exact ⟨[], xs, 0, by simp, rfl, rfl, Dq, hxd, rfl, hsub, hh⟩
 ·clear hh;rintro ρ' c i w' ⟨done, rest, cr, hlen, rfl, rfl, hcr, hrd, heq, hsb, hh⟩;by_cases hlt : done.length < xs.length
  ·obtain ⟨x, r, rfl⟩ : ∃ x r, rest = x :: r := by
    cases rest with
    | nil => simp at hlen; omega
    | cons x r => exact ⟨x, r, rfl⟩
   have hx := hrd.head;have hg := dN (rH (pre := pre) (done := done) (r := r) (post := post) (x := x));have hlr : done.length + (r.length + 1) = xs.length := by simpa using hlen
   simp only [nF, rW, tail_drop, pq] at heq hsb;by_cases hiy : done.length < ny
   ·obtain ⟨y, hyk⟩ := aG (l := ys) (k := done.length) Dq;obtain ⟨ad, rfl, _⟩ := (hy _ _ hh).at_ Dq;rw [hyk, Option.getD_some] at heq hsb;have hyw := hyd.at_ hyk;refine sr ?_;refine a3 (aa (ah (cT (ak (ai (ah (ao (sr (mI (aI (aa (sr (aI (aa (ah (sr (mI (mL (a4 ?_)))))))))))))))))));refine a3 (aa (cT (ar (mL (mI ?_)))));refine aZ (k := done.length) aF.out aC.size rfl rfl Dq Dq Dr ?_;refine bp aC.out rfl ((hy _ _ hh).Bw hyk) Dr ?_;refine aI (aa (ar (mL (mI (mL (mI ?_))))));refine dA (k := done.length) aF.out aC.size rfl rfl Dq Dq Dr ?_;refine bp aC.out rfl (hh.cE (i := 0) rfl (by first | assumption | (simp only [Nat.mul_one]; assumption))) Dr ?_;refine mI (mI ?_);refine iz (qE x y cr hcr _) (ay (bK rfl) (ay (bK rfl) (ay (bK rfl) a0))) Dr ?_;refine mT ?_;refine da ?_;refine da ?_;refine dA (k := done.length) aF.out aC.size rfl rfl Dq Dq Dr ?_;refine bA hh (i := 0) (vs := [_]) rfl rfl (bK rfl) rfl aC.out rfl (by rw [aP]; simp only [List.length_append, List.length_cons]; omega) rfl ?_;intro ws hh;simp only [List.set_cons_zero] at hh;rw [Nat.mul_one, bY (by rw [aP]; simp only [List.length_append, List.length_cons]; omega), eS, j4] at hh;refine aI (aE (aX (ai (ar ?_))))
    refine bO (mI (aE (ai ?_)));refine ⟨⟨done ++ [(x + 18446744073709551616 - y - cr) % 18446744073709551616], r, _, by simp; omega, by rw [List.length_append]; rfl, rfl, by split <;> omega, hrd.tail, ?_, ?_, hh⟩, by show xs.length - (done.length + 1) < xs.length - done.length; omega, ?_⟩
    ·rw [← heq, List.append_assoc, List.length_append]; rfl
    ·rw [List.length_append]; exact hsb
    exact Du
   ·rw [List.getElem?_eq_none Dq, Option.getD_none] at heq hsb;refine sr ?_;refine a3 (aa (ah (cT (ak (ai (ah (ao (sr (mI (aI (aa (sr (aI (aa (ah (sr (mI (mL (a4 ?_)))))))))))))))))));refine a3 (aa (cF (ak (ai (ar (mL (mI (mL (mI ?_)))))))));refine dA (k := done.length) aF.out aC.size rfl rfl Dq Dq Dr ?_;refine bp aC.out rfl (hh.cE (i := 0) rfl (by first | assumption | (simp only [Nat.mul_one]; assumption))) Dr ?_;refine mI (mI ?_);refine iz (qE x 0 cr hcr _) (ay (bK rfl) (ay (bK rfl) (ay (bK rfl) a0))) Dr ?_;refine mT ?_;refine da ?_;refine da ?_;refine dA (k := done.length) aF.out aC.size rfl rfl Dq Dq Dr ?_;refine bA hh (i := 0) (vs := [_]) rfl rfl (bK rfl) rfl aC.out rfl (by rw [aP]; simp only [List.length_append, List.length_cons]; omega) rfl ?_;intro ws hh;simp only [List.set_cons_zero] at hh;rw [Nat.mul_one, bY (by rw [aP]; simp only [List.length_append, List.length_cons]; omega), eS, j4] at hh;refine aI (aE (aX (ai (ar ?_))));refine bO (mI (aE (ai ?_)))
    refine ⟨⟨done ++ [(x + 18446744073709551616 - 0 - cr) % 18446744073709551616], r, _, by simp; omega, by rw [List.length_append]; rfl, rfl, by split <;> omega, hrd.tail, ?_, ?_, hh⟩, by show xs.length - (done.length + 1) < xs.length - done.length; omega, ?_⟩
    ·rw [← heq, List.append_assoc, List.length_append]; rfl
    ·rw [List.length_append]; exact hsb
    exact Du
  ·have hr0 : rest = [] := List.eq_nil_of_length_eq_zero Dq;subst hr0;obtain rfl : cr = 0 := hsb;refine sr ?_;refine a3 (aa (ah (cF (aV (aA (aA (a8 (ai (sr (mI ?_))))))))));refine cu (aB (aa (al ?_)));refine cA ?_;rw [List.append_nil, nF, List.append_nil] at *;rw [← heq];exact ⟨rfl, hh⟩
theorem tJ {w0 : World} {H : List HE} {b M C c' ny cy : Nat} {Y : Option Addr} (pre xs post ys : List Nat) (w : World) (hh : Hp w0 (.row (some ⟨b, 0, none⟩) M C 204 1 (cB (pre ++ xs ++ post)) :: H) w)
  (hy : ∀ w1 cs, Hp w0 (.row (some ⟨b, 0, none⟩) M C 204 1 cs :: H) w1 → Sl w1 Y ny 1 (cB ys)) (hxd : Dg 18446744073709551616 xs) (hyd : Dg 18446744073709551616 ys) (hM : xs.length ≤ 100000000000) (hny : ny ≤ 100000000000) :
  Calls Tryz.prog 250 #[.slice (some ⟨b, pre.length, none⟩) xs.length c', .slice Y ny cy] w fun e w' => e = .returned (.tuple #[]) ∧ Hp w0 (.row (some ⟨b, 0, none⟩) M C 204 1 (cB (pre ++ fg 18446744073709551616 xs ys 1 0 ++ post)) :: H) w' := by
 have hly := (hy _ _ hh).1;rw [aP] at hly;refine aj (N := 34) (l := [.slice (some ⟨b, pre.length, none⟩) xs.length c', .slice Y ny cy]) Tryz.func250 rfl rfl (by simp) ?_;refine sr (aI (aa (sr (mL (a4 (mI (aa (ao ?_))))))));refine de [4, 5, 6, 9, 10, 11, 12, 13, 14, 15, 16, 17, 18, 19, 20, 21, 22, 23, 24, 25, 26, 27, 28, 29, 30, 31, 32, 33] 4 9
  (fun c i w' => ∃ (done rest : List Nat) (cr : Nat), done.length + rest.length = xs.length ∧ i = .int .i64 done.length ∧ c = .int .u64 (cr : Int) ∧ cr ≤ 1 ∧ Dg 18446744073709551616 rest ∧ done ++ fg 18446744073709551616 rest (ys.drop done.length) 1 cr = fg 18446744073709551616 xs ys 1 0 ∧ Hp w0 (.row (some ⟨b, 0, none⟩) M C 204 1 (cB (pre ++ (done ++ rest) ++ post)) :: H) w')
  (fun _ i _ => xs.length - (intOf i).toNat) ?_ ?_
 ·exact ⟨[], xs, 0, by simp, rfl, rfl, Dq, hxd, rfl, hh⟩
 ·clear hh;rintro ρ' c i w' ⟨done, rest, cr, hlen, rfl, rfl, hcr, hrd, heq, hh⟩;by_cases hlt : done.length < xs.length
  ·obtain ⟨x, r, rfl⟩ : ∃ x r, rest = x :: r := by
    cases rest with
    | nil => simp at hlen; omega
    | cons x r => exact ⟨x, r, rfl⟩
   have hx := hrd.head;have hg := dN (rH (pre := pre) (done := done) (r := r) (post := post) (x := x));have hlr : done.length + (r.length + 1) = xs.length := by simpa using hlen
   simp only [fg, tail_drop, pq, Nat.mul_one] at heq;by_cases hiy : done.length < ny
   ·obtain ⟨y, hyk⟩ := aG (l := ys) (k := done.length) Dq;obtain ⟨ad, rfl, _⟩ := (hy _ _ hh).at_ Dq;rw [hyk, Option.getD_some] at heq;have hyw := hyd.at_ hyk;refine sr ?_;refine a3 (aa (ah (cT (ak (ai (ah (ao (sr (mI (aI (aa (sr (aI (aa (ah (sr (mI (mL (a4 ?_)))))))))))))))))));refine a3 (aa (cT (ar (mL (mI ?_)))));refine aZ (k := done.length) aF.out aC.size rfl rfl Dq Dq Dr ?_;refine bp aC.out rfl ((hy _ _ hh).Bw hyk) Dr ?_;refine aI (aa (ar (mL (mI (mL (mI ?_))))));refine dA (k := done.length) aF.out aC.size rfl rfl Dq Dq Dr ?_;refine bp aC.out rfl (hh.cE (i := 0) rfl (by first | assumption | (simp only [Nat.mul_one]; assumption))) Dr ?_;refine mI (mI ?_);refine iz (gW x y cr hcr _) (ay (bK rfl) (ay (bK rfl) (ay (bK rfl) a0))) Dr ?_;refine mT ?_;refine da ?_;refine da ?_;refine dA (k := done.length) aF.out aC.size rfl rfl Dq Dq Dr ?_;refine bA hh (i := 0) (vs := [_]) rfl rfl (bK rfl) rfl aC.out rfl (by rw [aP]; simp only [List.length_append, List.length_cons]; omega) rfl ?_;intro ws hh;simp only [List.set_cons_zero] at hh;rw [Nat.mul_one, bY (by rw [aP]; simp only [List.length_append, List.length_cons]; omega), eS, j4] at hh;refine aI (aE (aX (ai (ar ?_))))
    refine bO (mI (aE (ai ?_)));refine ⟨⟨done ++ [(x + y + cr) % 18446744073709551616], r, _, by simp; omega, by rw [List.length_append]; rfl, rfl, Dq, hrd.tail, ?_, hh⟩, by show xs.length - (done.length + 1) < xs.length - done.length; omega, ?_⟩
    ·rw [← heq, List.append_assoc, List.length_append]; rfl
    exact Du
   ·rw [List.getElem?_eq_none Dq, Option.getD_none] at heq;refine sr ?_;refine a3 (aa (ah (cT (ak (ai (ah (ao (sr (mI (aI (aa (sr (aI (aa (ah (sr (mI (mL (a4 ?_)))))))))))))))))));refine a3 (aa (cF (ak (ai (ar (mL (mI (mL (mI ?_)))))))));refine dA (k := done.length) aF.out aC.size rfl rfl Dq Dq Dr ?_;refine bp aC.out rfl (hh.cE (i := 0) rfl (by first | assumption | (simp only [Nat.mul_one]; assumption))) Dr ?_;refine mI (mI ?_);refine iz (gW x 0 cr hcr _) (ay (bK rfl) (ay (bK rfl) (ay (bK rfl) a0))) Dr ?_;refine mT ?_;refine da ?_;refine da ?_;refine dA (k := done.length) aF.out aC.size rfl rfl Dq Dq Dr ?_;refine bA hh (i := 0) (vs := [_]) rfl rfl (bK rfl) rfl aC.out rfl (by rw [aP]; simp only [List.length_append, List.length_cons]; omega) rfl ?_;intro ws hh;simp only [List.set_cons_zero] at hh;rw [Nat.mul_one, bY (by rw [aP]; simp only [List.length_append, List.length_cons]; omega), eS, j4] at hh;refine aI (aE (aX (ai (ar ?_))));refine bO (mI (aE (ai ?_)));refine ⟨⟨done ++ [(x + 0 + cr) % 18446744073709551616], r, _, by simp; omega, by rw [List.length_append]; rfl, rfl, Dq, hrd.tail, ?_, hh⟩, by show xs.length - (done.length + 1) < xs.length - done.length; omega, ?_⟩
    ·rw [← heq, List.append_assoc, List.length_append]; rfl
    exact Du
  ·have hr0 : rest = [] := List.eq_nil_of_length_eq_zero Dq;subst hr0;refine sr ?_;refine a3 (aa (ah (cF (aV (aA (aA (a8 ?_)))))));refine Co (by first | exact .inr rfl | exact .inl rfl) rfl  ?_;rw [List.append_nil, fg, List.append_nil] at *;rw [← heq];exact ⟨rfl, hh⟩
end Go.Proofs.YteeckcbbnegmcaaGreatDoor
namespace Go.Proofs.YteeckcbbnegmcaaGreatDoor
open Go.RowKit
theorem Ad {k i n d : Nat} (D : Nat) (hD : D < 18446744073709551616 ^ i) (hd : d < 18446744073709551616) (hk : i + n / 64 + 1 < k) :
  (D * 2 ^ n) / 18446744073709551616 ^ (i + n / 64) % 18446744073709551616 < 2 ^ (n % 64) ∧ d * 2 ^ (n % 64) % 18446744073709551616 = (d % 2 ^ (64 - n % 64)) * 2 ^ (n % 64) ∧
  (bH 18446744073709551616 k (D * 2 ^ n)).set (i + n / 64) ((D * 2 ^ n) / 18446744073709551616 ^ (i + n / 64) % 18446744073709551616 + d * 2 ^ (n % 64) % 18446744073709551616) = bH 18446744073709551616 k (D * 2 ^ n + 18446744073709551616 ^ (i + n / 64) * (d * 2 ^ (n % 64) % 18446744073709551616)) ∧
  (D * 2 ^ n + 18446744073709551616 ^ (i + n / 64) * (d * 2 ^ (n % 64) % 18446744073709551616)) / 18446744073709551616 ^ (i + n / 64 + 1) % 18446744073709551616 = 0 ∧
  (bH 18446744073709551616 k (D * 2 ^ n + 18446744073709551616 ^ (i + n / 64) * (d * 2 ^ (n % 64) % 18446744073709551616))).set (i + n / 64 + 1) (d / 2 ^ (64 - n % 64)) = bH 18446744073709551616 k ((D + 18446744073709551616 ^ i * d) * 2 ^ n) ∧
  (n % 64 = 0 → D * 2 ^ n + 18446744073709551616 ^ (i + n / 64) * (d * 2 ^ (n % 64) % 18446744073709551616) = (D + 18446744073709551616 ^ i * d) * 2 ^ n) := by
 have hW : (18446744073709551616 : Nat) = 2 ^ 64 := by decide
 have hs : n % 64 < 64 := Nat.mod_lt _ Dq;have hn : 2 ^ n = 18446744073709551616 ^ (n / 64) * 2 ^ (n % 64) := by
  rw [hW, ← Nat.pow_mul, ← Nat.pow_add]; congr 1; omega
 generalize hq : n / 64 = q at *;generalize hse : n % 64 = s at *;have e : (18446744073709551616 : Nat) = 2 ^ (64 - s) * 2 ^ s := by rw [← Nat.pow_add, hW]; congr 1; omega
 have hpos : 0 < 2 ^ s := Nat.pow_pos Dq;have hwp : ∀ j : Nat, 0 < 18446744073709551616 ^ j := fun j => Nat.pow_pos Dr;have hP : D * 2 ^ n < 18446744073709551616 ^ (i + q) * 2 ^ s := by
  rw [hn, ← Nat.mul_assoc, Nat.pow_add];exact Nat.mul_lt_mul_of_pos_right (Nat.mul_lt_mul_of_pos_right hD (hwp q)) hpos
 have h1 : (D * 2 ^ n) / 18446744073709551616 ^ (i + q) < 2 ^ s := by rw [Nat.div_lt_iff_lt_mul (hwp _), Nat.mul_comm (2 ^ s)]; exact hP
 have hsW : 2 ^ s ≤ 18446744073709551616 := by rw [hW]; exact Nat.pow_le_pow_right Dq Dq
 have h2 : d * 2 ^ s % 18446744073709551616 = (d % 2 ^ (64 - s)) * 2 ^ s := by rw [e, Nat.mul_mod_mul_right]
 have h3 : (d % 2 ^ (64 - s) + 1) * 2 ^ s ≤ 18446744073709551616 := by
  rw [e];exact Nat.mul_le_mul_right _ (Nat.mod_lt _ (Nat.pow_pos Dq))
 rw [Nat.succ_mul] at h3;have h4 : (D * 2 ^ n) / 18446744073709551616 ^ (i + q) % 18446744073709551616 = (D * 2 ^ n) / 18446744073709551616 ^ (i + q) := Nat.mod_eq_of_lt Dq;have hlt1 : D * 2 ^ n + 18446744073709551616 ^ (i + q) * (d * 2 ^ s % 18446744073709551616) < 18446744073709551616 ^ (i + q + 1) := by
  rw [h2, Nat.pow_succ];have : 18446744073709551616 ^ (i + q) * ((d % 2 ^ (64 - s)) * 2 ^ s + 2 ^ s) ≤ 18446744073709551616 ^ (i + q) * 18446744073709551616 := Nat.mul_le_mul_left _ h3;rw [Nat.mul_add] at this;omega
 have hup := Bu (d := d) (s := s) hd Dq;have hfin : D * 2 ^ n + 18446744073709551616 ^ (i + q) * (d * 2 ^ s % 18446744073709551616) + 18446744073709551616 ^ (i + q + 1) * (d / 2 ^ (64 - s)) = (D + 18446744073709551616 ^ i * d) * 2 ^ n := by
  have h5 : 18446744073709551616 ^ (i + q) * (d * 2 ^ s % 18446744073709551616) + 18446744073709551616 ^ (i + q + 1) * (d / 2 ^ (64 - s)) = 18446744073709551616 ^ (i + q) * (d * 2 ^ s) := by
   conv => rhs; rw [← hup.1, Nat.mul_add]
   rw [Nat.pow_succ, Nat.mul_assoc, Nat.mul_comm 18446744073709551616]
  rw [Nat.add_assoc, h5, Nat.add_mul, hn, Nat.pow_add];congr 1;simp only [Nat.mul_assoc, Nat.mul_left_comm, Nat.mul_comm]
 have hbig : ∀ j, j < k → 18446744073709551616 ^ j * 18446744073709551616 ≤ 18446744073709551616 ^ k := fun j hj => by rw [← Nat.pow_succ]; exact Nat.pow_le_pow_right Dr hj
 have hb1 := hbig (i + q) Dq;rw [← Nat.pow_succ] at hb1;refine ⟨by rw [h4]; exact h1, h2, ?_, ?_, ?_, ?_⟩
 ·exact k7 Dr Dq Dq (by rw [h4, h2]; omega)
 ·rw [Nat.div_eq_of_lt hlt1]
 ·have h6 : (D * 2 ^ n + 18446744073709551616 ^ (i + q) * (d * 2 ^ s % 18446744073709551616)) / 18446744073709551616 ^ (i + q + 1) % 18446744073709551616 = 0 := by rw [Nat.div_eq_of_lt hlt1]
  have h7 : d / 2 ^ (64 - s) < 18446744073709551616 := Nat.lt_of_le_of_lt (Nat.div_le_self _ _) hd;have h8 := k7 (B := 18446744073709551616) (k := k) (n := D * 2 ^ n + 18446744073709551616 ^ (i + q) * (d * 2 ^ s % 18446744073709551616)) (j := i + q + 1) (v := d / 2 ^ (64 - s)) Dr hk ?_ (by rw [h6]; omega)
  ·rw [h6, Nat.zero_add, hfin] at h8;exact h8
  ·have h9 : 18446744073709551616 ^ (i + q + 1) * (d / 2 ^ (64 - s) + 1) ≤ 18446744073709551616 ^ (i + q + 1) * 18446744073709551616 := Nat.mul_le_mul_left _ h7;have h10 := hbig (i + q + 1) hk;rw [Nat.mul_succ] at h9;omega
 ·intro h0;subst h0;rw [← hfin];have : d / 2 ^ (64 - 0) = 0 := Nat.div_eq_of_lt (by rw [← hW]; exact hd);rw [this];simp
theorem xo (A : Option Addr) (n c m : Nat) (xs : List Nat) (w : World) (hx : Sl w A n 1 (cB xs)) (hd : Dg 18446744073709551616 xs) (hn : n ≤ 1000000000) (hm : m ≤ 10000000000) :
  Calls Tryz.prog 246 #[.slice A n c, .int .i64 (m : Int)] w fun e w' => ∃ A c, e = .returned (.slice A (aR 18446744073709551616 (bh 18446744073709551616 xs * 2 ^ m)).length c) ∧ w'.ownsRow w.heap.size 204 1 (.slice A (aR 18446744073709551616 (bh 18446744073709551616 xs * 2 ^ m)).length c) (aR 18446744073709551616 (bh 18446744073709551616 xs * 2 ^ m)).length (cB (aR 18446744073709551616 (bh 18446744073709551616 xs * 2 ^ m))) ∧ Below w.heap.size w w' := by
 have hl := hx.1;rw [aP] at hl;have hh := Hp.start w;have hs1 : ((m : Int) % 64).toNat = m % 64 := Dq;refine aj (N := 55) (l := [.slice A n c, .int .i64 (m : Int)]) Tryz.func246 rfl rfl (by simp) ?_;refine sr (aL (aa (sr (mL (a4 (mI ?_))))));refine iF rfl rfl Dq Dq Dq Dr ?_;refine bO ?_;refine bO ?_;refine gw (n := n + m / 64 + 1) hh rfl rfl Dq Dq aF.out aC.out rfl Dq Dq Dr ?_;intro b15 w15 hh;refine aL (aa (ah (sr (mL (a4 (mI (aa (ao ?_))))))));rw [lG] at hh;refine bF [6, 7, 8, 18, 19, 20, 21, 22, 23, 24, 25, 26, 27, 28, 29, 30, 31, 32, 33, 34, 35, 36, 37, 38, 39, 40, 41, 42, 43, 44, 45, 46, 47, 48, 49, 50, 51, 52] 18
  (fun v w' => ∃ i : Nat, i ≤ n ∧ v = .int .i64 i ∧ Hp w [.row (some ⟨b15, 0, none⟩) (n + m / 64 + 1) (n + m / 64 + 1) 204 1 (cB (bH 18446744073709551616 (n + m / 64 + 1) (bh 18446744073709551616 (xs.take i) * 2 ^ m)))] w')
  (fun v _ => n - (intOf v).toNat) ?_ ?_
 ·exact ⟨0, Nat.zero_le _, rfl, by rw [List.take_zero, bh, Nat.zero_mul, mH]; exact hh⟩
 ·clear hh;rintro ρ' v w' ⟨i, hi, rfl, hh⟩;by_cases hlt : i < n
  ·obtain ⟨d, hdi⟩ := aG (l := xs) (k := i) Dq;obtain ⟨ad, rfl, hr⟩ := hx.at_ Dq;have hd2 := dN hdi;have hdw := hd.at_ hdi;have hD := fY (hd.take i);rw [List.length_take, Nat.min_eq_left Dq] at hD;obtain ⟨s1, s2, s3, s4, s5, s6⟩ := Ad (k := n + m / 64 + 1) (n := m) (bh 18446744073709551616 (xs.take i)) hD hdw Dq;have hg := dN (fP (B := 18446744073709551616) (n + m / 64 + 1) (bh 18446744073709551616 (xs.take i) * 2 ^ m) (i + m / 64) Dq);refine sr ?_;refine a3 (aa (ah (cT (ak (ai (ah (ao (sr (mI ?_)))))))));refine aZ aF.out aC.size rfl rfl rfl Dq Dr ?_;refine bp aC.out rfl ((hr.ext hh.below).nT (by assumption)) Dr ?_;refine aI (aI (aa (sr (mI (mI ?_)))));refine iF rfl rfl Dq Dq Dq Dr ?_;refine bO (aI (aa (ah ?_)));refine bg 8 [[(5, none)], [(8, none)], [(27, some 0), (28, some 1)], [(29, some 2)], [(7, none)], [(1, none)], [(32, some 5)], [(31, some 4), (33, some 6)]] [(7, 34), (6, 33), (5, 32), (4, 31), (3, 30), (2, 29), (1, 28), (0, 27)] hh mixed Dt ?_;refine jv ?_;refine fW ?_;refine BQ (i + m / 64) ?_;refine bo (i := 3) (fun ρ1 w1 hj hR => gP aC.out (show ρ1 29 = Value.pointer _ from hR.1) (hj.hp.cE (i := 0) rfl (by rw [Nat.mul_one]; exact hg))) ?_;refine fW ?_;refine fW ?_
   refine bo (i := 6) (fun ρ1 w1 hj hR => mv (show ρ1 32 = Value.int _ _ from hR.1) rfl Dq Dq) ?_;refine bo (i := 7) (fun ρ1 w1 hj hR => qX (show ρ1 31 = Value.int _ _ from hR.1) (show ρ1 33 = Value.int _ _ from hR.2.1) Dq) ?_;refine bq ?_;intro f W hJ hV;have hb_6 := hJ.bl;obtain ⟨v34, v33, v32, v31, v30, v29, v28, v27, _⟩ := hV;replace hh := hJ.hp;refine a6 (bk (ae v34 (ae v33 (ae v32 (ae v31 (ae v30 (ae v29 (ae v28 (ae v27 a5))))))))) ?_;dsimp only [cJ];clear hJ;refine ve rfl rfl (by first | assumption | omega) (by first | assumption | omega) Dr ?_;refine bm (k := i + m / 64) aF.out aC.size rfl rfl Dq Dq Dr ?_;refine bA hh (i := 0) (vs := [_]) rfl rfl (bK rfl) rfl aC.out rfl (by rw [aP, aM]; omega) rfl ?_;intro ws hh;simp only [List.set_cons_zero] at hh;rw [hs1, s2, tX s1, ← s2, Nat.mul_one, bY (by rw [aP, aM]; omega), eS, s3] at hh;by_cases h0 : m % 64 = 0
   ·refine aa (sr (mI ?_));refine jI rfl rfl Dq Dq Dr ?_;refine ct (aa (cF (ak (aX (ai (ar ?_))))));refine bO (mI (aE (ai ?_)));rw [s6 h0, ← eM hdi] at hh;refine ⟨⟨i + 1, Dq, rfl, hh⟩, by show n - (i + 1) < n - i; omega, ?_⟩;exact Du
   ·have hg2 := dN (fP (B := 18446744073709551616) (n + m / 64 + 1) (bh 18446744073709551616 (xs.take i) * 2 ^ m + 18446744073709551616 ^ (i + m / 64) * (d * 2 ^ (m % 64) % 18446744073709551616)) (i + m / 64 + 1) Dq);rw [s4] at hg2;have hs2 : (64 - (m : Int) % 64).toNat = 64 - m % 64 := Dq;have hd64 : d / 2 ^ (64 - (m : Int) % 64).toNat < 18446744073709551616 := Nat.lt_of_le_of_lt (Nat.div_le_self _ _) hdw;have h0w : (0 : Nat) < 18446744073709551616 := Dq;refine aa (sr (mI ?_));refine jI rfl rfl Dq Dq Dr ?_;refine ct (aa (cT ?_));refine bg 10 [[(5, none)], [(8, none)], [(41, some 1)], [(40, some 0), (42, some 2)], [(43, some 3)], [(7, none)], [(1, none)], [(46, some 6)], [(47, some 7)], [(45, some 5), (48, some 8)]] [(9, 49), (8, 48), (7, 47), (6, 46), (5, 45), (4, 44), (3, 43), (2, 42), (1, 41), (0, 40)] hh mixed Dt ?_;refine jv ?_;refine fW ?_;refine yB ?_;refine BQ (i + m / 64 + 1) ?_;refine bo (i := 4) (fun ρ1 w1 hj hR => gP aC.out (show ρ1 43 = Value.pointer _ from hR.1) (hj.hp.cE (i := 0) rfl (by rw [Nat.mul_one]; exact hg2))) ?_;refine fW ?_;refine fW ?_;refine bo (i := 7) (fun ρ1 w1 hj hR => mv (show ρ1 46 = Value.int _ _ from hR.1) rfl Dq Dq) ?_;refine nD ?_
    refine bo (i := 9) (fun ρ1 w1 hj hR => uB (show ρ1 45 = Value.int _ _ from hR.1) (show ρ1 48 = Value.int _ _ from hR.2.1) Dq) ?_;refine bq ?_;intro f W hJ hV;have hb_8 := hJ.bl;obtain ⟨v49, v48, v47, v46, v45, v44, v43, v42, v41, v40, _⟩ := hV;replace hh := hJ.hp;refine a6 (bk (ae v49 (ae v48 (ae v47 (ae v46 (ae v45 (ae v44 (ae v43 (ae v42 (ae v41 (ae v40 a5))))))))))) ?_;dsimp only [cJ];clear hJ;refine ve rfl rfl (by first | assumption | omega) (by first | assumption | omega) Dr ?_;refine bm (k := i + m / 64 + 1) aF.out aC.size rfl rfl Dq Dq Dr ?_;refine bA hh (i := 0) (vs := [_]) rfl rfl (bK rfl) rfl aC.out rfl (by rw [aP, aM]; omega) rfl ?_;intro ws hh;simp only [List.set_cons_zero] at hh;rw [hs2, Nat.zero_or, Nat.mul_one, bY (by rw [aP, aM]; omega), eS, s5, ← eM hdi] at hh;refine aE (aX (ai (ar ?_)));refine bO (mI (aE (ai ?_)));refine ⟨⟨i + 1, Dq, rfl, hh⟩, by show n - (i + 1) < n - i; omega, ?_⟩;exact Du
  ·refine sr ?_;refine a3 (aa (ah (cF (aV (aA (aA (a8 (ai (sr (mL ?_))))))))));rw [List.take_of_length_le Dq] at hh;refine bB hh (fI _ _ _ (bH 18446744073709551616 (n + m / 64 + 1) (bh 18446744073709551616 xs * 2 ^ m)) _ (hh.aD (i := 0) rfl) (Nat.le_refl _) Dq) rfl ?_;intro w54 hh;refine aL (aa (al ?_));refine cA ?_;have hbd : bh 18446744073709551616 xs * 2 ^ m < 18446744073709551616 ^ (n + m / 64 + 1) := by
    have h1 := fY hd;rw [show xs.length = n by omega] at h1;have h2 : 2 ^ m ≤ 18446744073709551616 ^ (m / 64 + 1) := by
     rw [show (18446744073709551616 : Nat) = 2 ^ 64 from rfl, ← Nat.pow_mul];exact Nat.pow_le_pow_right Dq Dq
    rw [show n + m / 64 + 1 = n + (m / 64 + 1) by omega, Nat.pow_add];exact Nat.lt_of_lt_of_le (Nat.mul_lt_mul_of_pos_right h1 (Nat.pow_pos Dq)) (Nat.mul_le_mul_left _ h2)
   have hd : dz (bH 18446744073709551616 (n + m / 64 + 1) (bh 18446744073709551616 xs * 2 ^ m)) = aR 18446744073709551616 (bh 18446744073709551616 xs * 2 ^ m) := by
    rw [eL Dq (eB Dq _ _), cq hbd]
   have h1 := (Hp.vw (xs := bH 18446744073709551616 (n + m / 64 + 1) (bh 18446744073709551616 xs * 2 ^ m)) hh (aM _ _)).at_ (i := 0) rfl;rw [hd] at h1;rw [hd];exact ⟨_, _, rfl, h1, hh.below⟩
end Go.Proofs.YteeckcbbnegmcaaGreatDoor
namespace Go.Proofs.YteeckcbbnegmcaaGreatDoor
open Go.RowKit
theorem Sl.BD {w : World} {ad : Addr} {n : Nat} {xs : List Nat} (h : Sl w (some ad) n 1 (cB xs)) {k : Nat} (hk : k < n) : Sl w (some (ad.add (k * 1))) (n - k) 1 (cB (xs.drop k)) := by
 have hl := h.1;rw [aP] at hl;refine ⟨by rw [aP, List.length_drop]; omega, fun h0 => ⟨_, rfl, ?_⟩⟩;obtain ⟨ad', he, hr⟩ := h.2 Dq;injection he with he
 subst he;rw [Nat.mul_one, qK];exact hr.drop k
theorem wa {N j s : Nat} (hs : s < 64) (h0 : 0 < s) :
  (N / 18446744073709551616 ^ (j + 1) % 18446744073709551616) * 2 ^ (64 - s) % 18446744073709551616 = N / 18446744073709551616 ^ (j + 1) % 2 ^ s * 2 ^ (64 - s) ∧
  (N / 18446744073709551616 ^ j % 18446744073709551616 / 2 ^ s ||| (N / 18446744073709551616 ^ (j + 1) % 18446744073709551616) * 2 ^ (64 - s) % 18446744073709551616) = N / 2 ^ (64 * j + s) % 18446744073709551616 := by
 have hW : (18446744073709551616 : Nat) = 2 ^ 64 := by decide
 have e : (18446744073709551616 : Nat) = 2 ^ s * 2 ^ (64 - s) := by rw [← Nat.pow_add, hW]; congr 1; omega
 have h1 : (N / 18446744073709551616 ^ (j + 1) % 18446744073709551616) * 2 ^ (64 - s) % 18446744073709551616 = N / 18446744073709551616 ^ (j + 1) % 2 ^ s * 2 ^ (64 - s) := by
  generalize N / 18446744073709551616 ^ (j + 1) = m;rw [e, Nat.mul_mod_mul_right, Nat.mod_mul_right_mod]
 obtain ⟨h2, h3⟩ := qP N j s hs h0;exact ⟨h1, by rw [h1, tX h2, h3]⟩
theorem sE (A : Option Addr) (n c m : Nat) (xs : List Nat) (w : World) (hx : Sl w A n 1 (cB xs)) (hd : Dg 18446744073709551616 xs) (hc : n ≤ c) (hn : n ≤ 1000000000) (hm : m ≤ 1000000000000) :
  Calls Tryz.prog 247 #[.slice A n c, .int .i64 (m : Int)] w fun e w' => ∃ A c, e = .returned (.slice A (aR 18446744073709551616 (bh 18446744073709551616 xs / 2 ^ m)).length c) ∧ w'.ownsRow w.heap.size 204 1 (.slice A (aR 18446744073709551616 (bh 18446744073709551616 xs / 2 ^ m)).length c) (aR 18446744073709551616 (bh 18446744073709551616 xs / 2 ^ m)).length (cB (aR 18446744073709551616 (bh 18446744073709551616 xs / 2 ^ m))) ∧ Below w.heap.size w w' := by
 have hl := hx.1;rw [aP] at hl;have hh := Hp.start w;have hs1 : ((m : Int) % 64).toNat = m % 64 := Dq;have hW : (18446744073709551616 : Nat) = 2 ^ 64 := by decide
 have hmm : 2 ^ m = 18446744073709551616 ^ (m / 64) * 2 ^ (m % 64) := by
  rw [hW, ← Nat.pow_mul, ← Nat.pow_add]; congr 1; omega
 have hlt := fY hd;rw [show xs.length = n by omega] at hlt;by_cases hbig : n ≤ m / 64
 ·have h0 : bh 18446744073709551616 xs / 2 ^ m = 0 := by
   apply Nat.div_eq_of_lt;refine Nat.lt_of_lt_of_le hlt (Nat.le_trans (Nat.pow_le_pow_right Dr hbig) ?_);rw [hmm];exact Nat.le_mul_of_pos_right _ (Nat.pow_pos Dq)
  refine aj (N := 61) (l := [.slice A n c, .int .i64 (m : Int)]) Tryz.func247 rfl rfl (by simp) ?_;refine sr (aL (aa (ah (sr (mI ?_)))));refine iF rfl rfl Dq Dq Dq Dr ?_;refine mL (a4 ?_);refine dE (aa (cT (sr (aL (aa (al (aH ?_)))))));refine cA ?_;rw [h0, eZ Dq];exact ⟨none, 0, rfl, World.ownsRow_nil _ _ _ _, hh.below⟩
 ·obtain ⟨ad, rfl, hr⟩ := hx.at_ Dq;have hsd := hx.BD (k := m / 64) Dq;have hget : ∀ j, j < n → xs[j]? = some (bh 18446744073709551616 xs / 18446744073709551616 ^ j % 18446744073709551616) := fun j hj => by
   obtain ⟨d, hdj⟩ := aG (l := xs) (k := j) Dq;rw [hdj, nK hd hdj]
  refine aj (N := 61) (l := [.slice (some ad) n c, .int .i64 (m : Int)]) Tryz.func247 rfl rfl (by simp) ?_;refine sr (aL (aa (ah (sr (mI ?_)))));refine iF rfl rfl Dq Dq Dq Dr ?_;refine mL (a4 ?_);refine dE (aa (cF (ak (ai (sr (mL (mI ?_)))))));refine iF rfl rfl Dq Dq Dq Dr ?_;first | refine oG (l := m / 64) aF.out aC.size rfl rfl Dq Dq Dq Dq Dr ?_ | refine nA (l := m / 64) aF.out aC.size rfl rfl Dq Dq Dq Dq Dr ?_
  refine aK (kx _ _ _ 0 _ _ hsd Dq Dq) aq.out rfl Dr ?_;rintro e_ w_ ⟨b16, rfl, hown_, hb_⟩;refine ⟨_, rfl, ?_⟩;replace hh := hh.a9 (x := .row _ _ _ _ _ _) hb_ hown_;rw [Nat.zero_max, Nat.sub_self, List.replicate_zero, List.append_nil] at hh;rw [Nat.zero_max];refine aL (aa (ah (sr (mL (a4 (mI (aa (ao ?_))))))));refine bF [6, 19, 20, 21, 22, 23, 24, 25, 26, 27, 28, 29, 30, 31, 32, 33, 34, 35, 36, 37, 38, 39, 40, 41, 42, 43, 44, 45, 46, 47, 48, 49, 50, 51, 52, 53, 54, 55, 56, 57, 58] 19
   (fun v w' => ∃ i : Nat, i ≤ n - m / 64 ∧ v = .int .i64 i ∧ Hp w [.row (some ⟨b16, 0, none⟩) (n - m / 64) (n - m / 64) 204 1 (cB (bH 18446744073709551616 i (bh 18446744073709551616 xs / 2 ^ m) ++ xs.drop (m / 64 + i)))] w')
   (fun v _ => (n - m / 64) - (intOf v).toNat) ?_ ?_
  ·exact ⟨0, Nat.zero_le _, rfl, hh⟩
  ·clear hh;rintro ρ' v w' ⟨i, hi, rfl, hh⟩;by_cases hlt2 : i < n - m / 64
   ·have hgi := hget (m / 64 + i) Dq;have hdr : xs.drop (m / 64 + i) = (bh 18446744073709551616 xs / 18446744073709551616 ^ (m / 64 + i) % 18446744073709551616) :: xs.drop (m / 64 + i + 1) := by
     rw [List.drop_eq_getElem_cons Dq];congr 1;have := List.getElem?_eq_some_iff.1 hgi;exact this.2
    have hcell : (bH 18446744073709551616 i (bh 18446744073709551616 xs / 2 ^ m) ++ xs.drop (m / 64 + i))[i]? = some (bh 18446744073709551616 xs / 18446744073709551616 ^ (m / 64 + i) % 18446744073709551616) := by
     rw [List.getElem?_append_right (by rw [aM]; omega), aM, hdr]; simp
    have hg := dN hcell;have hset : ∀ y, (bH 18446744073709551616 i (bh 18446744073709551616 xs / 2 ^ m) ++ xs.drop (m / 64 + i)).set i y = bH 18446744073709551616 i (bh 18446744073709551616 xs / 2 ^ m) ++ y :: xs.drop (m / 64 + i + 1) := fun y => by
     rw [hdr, List.set_append_right _ _ (by rw [aM]; omega), aM, Nat.sub_self, List.set_cons_zero]
    have hll : (bH 18446744073709551616 i (bh 18446744073709551616 xs / 2 ^ m) ++ xs.drop (m / 64 + i)).length = n - m / 64 := by rw [List.length_append, aM, List.length_drop]; omega
    have hac : ∀ y, bH 18446744073709551616 i (bh 18446744073709551616 xs / 2 ^ m) ++ y :: xs.drop (m / 64 + i + 1) = (bH 18446744073709551616 i (bh 18446744073709551616 xs / 2 ^ m) ++ [y]) ++ xs.drop (m / 64 + (i + 1)) := fun y => List.append_cons _ _ _;have hnew : bH 18446744073709551616 (i + 1) (bh 18446744073709551616 xs / 2 ^ m) = bH 18446744073709551616 i (bh 18446744073709551616 xs / 2 ^ m) ++ [bh 18446744073709551616 xs / 2 ^ (64 * (m / 64 + i) + m % 64) % 18446744073709551616] := by
     rw [iT, Nat.div_div_eq_div_mul];congr 4;rw [hW, ← Nat.pow_mul, ← Nat.pow_add]; congr 1; omega
    refine sr ?_;refine a3 (aa (ah (cT (ak (ai (ah (ao (sr (mI (aI (aa (sr (mL (mI ?_))))))))))))));refine bm (k := i) aF.out aC.size rfl rfl Dq Dq Dr ?_;refine bp aC.out rfl (hh.cE (i := 0) rfl (by first | assumption | (simp only [Nat.mul_one]; assumption))) Dr ?_;refine mI ?_;refine jI rfl rfl Dq Dq Dr ?_;refine uD rfl rfl Dq Dr ?_;refine bm (k := i) aF.out aC.size rfl rfl Dq Dq Dr ?_;refine bA hh (i := 0) (vs := [_]) rfl rfl (bK rfl) rfl aC.out rfl (by rw [aP, hll]; omega) rfl ?_;intro ws hh;simp only [List.set_cons_zero] at hh;rw [hs1, Nat.mul_one, bY (by rw [aP, hll]; omega), eS, hset] at hh;by_cases h0 : m % 64 = 0
    ·have e1 : bh 18446744073709551616 xs / 18446744073709551616 ^ (m / 64 + i) % 18446744073709551616 / 2 ^ (m % 64) = bh 18446744073709551616 xs / 2 ^ (64 * (m / 64 + i) + m % 64) % 18446744073709551616 := by
      rw [h0, Nat.pow_zero, Nat.div_one, Nat.add_zero, Nat.pow_mul, ← hW]
     by_cases hl : i + 1 < n - m / 64
     ·refine aa (sr (mI ?_));refine bO (mL (a4 ?_));refine a3 (mB ?_);first | refine gS ?_ | (refine gT ?_; refine mI ?_) | refine gV ?_
      first | refine gS ?_ | (refine gT ?_; refine jI rfl rfl Dq Dq Dr ?_) | refine gV ?_
      first | refine gS ?_ | (refine gT ?_; refine ct ?_) | refine gV ?_
      first | refine cW ?_ | refine cX ?_
      refine aa (cF (ak (aX (ai (ar ?_)))));refine bO (mI (aE (ai ?_)));rw [e1, hac, ← hnew] at hh;refine ⟨⟨i + 1, Dq, rfl, hh⟩, by show (n - m / 64) - (i + 1) < (n - m / 64) - i; omega, ?_⟩;exact Du
     ·refine aa (sr (mI ?_));refine bO (mL (a4 ?_));refine a3 (mB ?_);first | refine gS ?_ | (refine gT ?_; refine mI ?_) | refine gV ?_
      first | refine gS ?_ | (refine gT ?_; refine jI rfl rfl Dq Dq Dr ?_) | refine gV ?_
      first | refine gS ?_ | (refine gT ?_; refine ct ?_) | refine gV ?_
      first | refine cW ?_ | refine cX ?_
      refine aa (cF (ak (aX (ai (ar ?_)))));refine bO (mI (aE (ai ?_)));rw [e1, hac, ← hnew] at hh;refine ⟨⟨i + 1, Dq, rfl, hh⟩, by show (n - m / 64) - (i + 1) < (n - m / 64) - i; omega, ?_⟩;exact Du
    ·by_cases hl : i + 1 < n - m / 64
     ·have hgj := hget (m / 64 + i + 1) Dq;have hgj2 := dN hgj;obtain ⟨d1, d2⟩ := wa (N := bh 18446744073709551616 xs) (j := m / 64 + i) (s := m % 64) (Nat.mod_lt _ Dq) Dq;have hcell2 : (bH 18446744073709551616 i (bh 18446744073709551616 xs / 2 ^ m) ++ (bh 18446744073709551616 xs / 18446744073709551616 ^ (m / 64 + i) % 18446744073709551616 / 2 ^ (m % 64)) :: xs.drop (m / 64 + i + 1))[i]? = some (bh 18446744073709551616 xs / 18446744073709551616 ^ (m / 64 + i) % 18446744073709551616 / 2 ^ (m % 64)) := by
       rw [List.getElem?_append_right (by rw [aM]; omega), aM]; simp
      have hg2 := dN hcell2;have hset2 : ∀ y z, (bH 18446744073709551616 i (bh 18446744073709551616 xs / 2 ^ m) ++ y :: xs.drop (m / 64 + i + 1)).set i z = bH 18446744073709551616 i (bh 18446744073709551616 xs / 2 ^ m) ++ z :: xs.drop (m / 64 + i + 1) := fun y z => by
       rw [List.set_append_right _ _ (by rw [aM]; omega), aM, Nat.sub_self, List.set_cons_zero]
      have hll2 : ∀ y, (bH 18446744073709551616 i (bh 18446744073709551616 xs / 2 ^ m) ++ y :: xs.drop (m / 64 + i + 1)).length = n - m / 64 := fun y => by rw [List.length_append, aM, List.length_cons, List.length_drop]; omega
      have hs2 : (64 - (m : Int) % 64).toNat = 64 - m % 64 := Dq;have b1 : bh 18446744073709551616 xs / 18446744073709551616 ^ (m / 64 + i) % 18446744073709551616 / 2 ^ (m % 64) < 18446744073709551616 := Nat.lt_of_le_of_lt (Nat.div_le_self _ _) (Nat.mod_lt _ Dq);have b2 : bh 18446744073709551616 xs / 18446744073709551616 ^ (m / 64 + i + 1) % 18446744073709551616 * 2 ^ (64 - (m : Int) % 64).toNat % 18446744073709551616 < 18446744073709551616 := Nat.mod_lt _ Dq;refine aa (sr (mI ?_));refine bO (mL (a4 ?_));refine a3 (mB ?_);first | refine gS ?_ | (refine gT ?_; refine mI ?_) | refine gV ?_
      first | refine gS ?_ | (refine gT ?_; refine jI rfl rfl Dq Dq Dr ?_) | refine gV ?_
      first | refine gS ?_ | (refine gT ?_; refine ct ?_) | refine gV ?_
      first | refine cW ?_ | refine cX ?_
      refine aa (cT ?_);refine bg 16 [[(5, none)], [(6, none)], [(40, some 0), (41, some 1)], [(42, some 2)], [(0, none)], [(1, none)], [(45, some 5)], [(6, none)], [(46, some 6), (47, some 7)], [(48, some 8)], [(44, some 4), (49, some 9)], [(50, some 10)], [(1, none)], [(52, some 12)], [(53, some 13)], [(51, some 11), (54, some 14)]] [(15, 55), (14, 54), (13, 53), (12, 52), (11, 51), (10, 50), (9, 49), (8, 48), (7, 47), (6, 46), (5, 45), (4, 44), (3, 43), (2, 42), (1, 41), (0, 40)] hh mixed Dt ?_;refine jv ?_;refine fW ?_;refine BQ (i) ?_;refine bo (i := 3) (fun ρ1 w1 hj hR => gP aC.out (show ρ1 42 = Value.pointer _ from hR.1) (hj.hp.cE (i := 0) rfl (by rw [Nat.mul_one]; exact hg2))) ?_;refine jv ?_;refine fW ?_;refine bo (i := 6) (fun ρ1 w1 hj hR => rR (show ρ1 45 = Value.int _ _ from hR.1) rfl Dq Dq Dq) ?_;refine fW ?_;refine yB ?_;refine yB ?_;refine mf (m / 64 + i + 1) ?_;refine kP (fun _ hj => (hr.ext hj.hp.below).nT hgj2) ?_;refine fW ?_;refine bo (i := 13) (fun ρ1 w1 hj hR => mv (show ρ1 52 = Value.int _ _ from hR.1) rfl Dq Dq) ?_;refine nD ?_;refine bo (i := 15) (fun ρ1 w1 hj hR => qX (show ρ1 51 = Value.int _ _ from hR.1) (show ρ1 54 = Value.int _ _ from hR.2.1) Dq) ?_
      refine bq ?_;intro f W hJ hV;have hb_9 := hJ.bl;obtain ⟨v55, v54, v53, v52, v51, v50, v49, v48, v47, v46, v45, v44, v43, v42, v41, v40, _⟩ := hV;replace hh := hJ.hp;refine a6 (bk (ae v55 (ae v54 (ae v53 (ae v52 (ae v51 (ae v50 (ae v49 (ae v48 (ae v47 (ae v46 (ae v45 (ae v44 (ae v43 (ae v42 (ae v41 (ae v40 a5))))))))))))))))) ?_;dsimp only [cJ];clear hJ;refine ve rfl rfl (by first | assumption | omega) (by first | assumption | omega) Dr ?_;refine bm (k := i) aF.out aC.size rfl rfl Dq Dq Dr ?_;refine bA hh (i := 0) (vs := [_]) rfl rfl (bK rfl) rfl aC.out rfl (by rw [aP, hll2]; omega) rfl ?_;intro ws hh;simp only [List.set_cons_zero] at hh;rw [hs2, d2, Nat.mul_one, bY (by rw [aP, hll2]; omega), eS, hset2, hac, ← hnew] at hh;refine aE (aX (ai (ar ?_)));refine bO (mI (aE (ai ?_)));refine ⟨⟨i + 1, Dq, rfl, hh⟩, by show (n - m / 64) - (i + 1) < (n - m / 64) - i; omega, ?_⟩;exact Du
     ·have e1 : bh 18446744073709551616 xs / 18446744073709551616 ^ (m / 64 + i) % 18446744073709551616 / 2 ^ (m % 64) = bh 18446744073709551616 xs / 2 ^ (64 * (m / 64 + i) + m % 64) % 18446744073709551616 := by
       obtain ⟨h2, h3⟩ := qP (bh 18446744073709551616 xs) (m / 64 + i) (m % 64) (Nat.mod_lt _ Dq) Dq;have h4 : bh 18446744073709551616 xs / 18446744073709551616 ^ (m / 64 + i + 1) = 0 := Nat.div_eq_of_lt (Nat.lt_of_lt_of_le hlt (Nat.pow_le_pow_right Dr Dq));rw [h4] at h3;simpa using h3
      refine aa (sr (mI ?_));refine bO (mL (a4 ?_));refine a3 (mB ?_);first | refine gS ?_ | (refine gT ?_; refine mI ?_) | refine gV ?_
      first | refine gS ?_ | (refine gT ?_; refine jI rfl rfl Dq Dq Dr ?_) | refine gV ?_
      first | refine gS ?_ | (refine gT ?_; refine ct ?_) | refine gV ?_
      first | refine cW ?_ | refine cX ?_
      refine aa (cF (ak (aX (ai (ar ?_)))));refine bO (mI (aE (ai ?_)));rw [e1, hac, ← hnew] at hh;refine ⟨⟨i + 1, Dq, rfl, hh⟩, by show (n - m / 64) - (i + 1) < (n - m / 64) - i; omega, ?_⟩;exact Du
   ·obtain rfl : i = n - m / 64 := Dq;rw [List.drop_eq_nil_of_le Dq, List.append_nil] at hh;refine sr ?_;refine a3 (aa (ah (cF (aV (aA (aA (a8 (ai (sr (mL ?_))))))))));refine bB hh (fI _ _ _ (bH 18446744073709551616 (n - m / 64) (bh 18446744073709551616 xs / 2 ^ m)) _ (hh.aD (i := 0) rfl) (Nat.le_refl _) Dq) rfl ?_;intro w60 hh;refine aL (aa (al ?_));refine cA ?_;have hbd : bh 18446744073709551616 xs / 2 ^ m < 18446744073709551616 ^ (n - m / 64) := by
     rw [Nat.div_lt_iff_lt_mul (Nat.pow_pos Dq), hmm, ← Nat.mul_assoc, ← Nat.pow_add, show n - m / 64 + m / 64 = n by omega];exact Nat.lt_of_lt_of_le hlt (Nat.le_mul_of_pos_right _ (Nat.pow_pos Dq))
    have hd : dz (bH 18446744073709551616 (n - m / 64) (bh 18446744073709551616 xs / 2 ^ m)) = aR 18446744073709551616 (bh 18446744073709551616 xs / 2 ^ m) := by
     rw [eL Dq (eB Dq _ _), cq hbd]
    have h1 := (Hp.vw (xs := bH 18446744073709551616 (n - m / 64) (bh 18446744073709551616 xs / 2 ^ m)) hh (aM _ _)).at_ (i := 0) rfl;rw [hd] at h1;rw [hd];exact ⟨_, _, rfl, h1, hh.below⟩
end Go.Proofs.YteeckcbbnegmcaaGreatDoor
namespace Go.Proofs.YteeckcbbnegmcaaGreatDoor
open Go.RowKit
def bN (a : ByteArray) : Nat := bn a.data.toList
def sN (n : Nat) : ByteArray := str (sb n)
theorem ew (n : Nat) : bN (sN n) = n := by rw [bN, sN, bC, Ce]
theorem ix (n : Nat) : (sN n).size = (bz n + 7) / 8 := by rw [sN, eh, wv, tR]
theorem ub {a b : Nat} (h : sN a = sN b) : a = b := by rw [← ew a, h, ew]
theorem gN : sN 0 = ByteArray.mk #[] := by rw [sN, Az]; rfl
theorem ql (a : ByteArray) : bN a < 256 ^ a.size := by rw [ca]; exact AK _
theorem fq (a : ByteArray) : bz (bN a) ≤ 8 * a.size := by
 apply dm;have := ql a;rwa [show (256 : Nat) = 2 ^ 8 from rfl, ← Nat.pow_mul] at this
theorem xm {n k : Nat} (h : n < 256 ^ k) : (aR 18446744073709551616 n).length ≤ (k + 7) / 8 := by
 apply fB Dq;refine Nat.lt_of_lt_of_le h ?_;rw [show (256 : Nat) = 2 ^ 8 from rfl, show (18446744073709551616 : Nat) = 2 ^ 64 from rfl, ← Nat.pow_mul, ← Nat.pow_mul];exact Nat.pow_le_pow_right Dq Dq
theorem eW (a : ByteArray) : (aR 18446744073709551616 (bN a)).length ≤ (a.size + 7) / 8 := xm (ql a)
theorem fk (n : Nat) : Dg 18446744073709551616 (aR 18446744073709551616 n) := (dw Dq n).1
theorem fa (n : Nat) : bh 18446744073709551616 (aR 18446744073709551616 n) = n := dF Dq n
theorem df (a : ByteArray) (w : World) (ha : a.size ≤ 1000000000) :
  Calls Tryz.prog 224 #[.string a] w fun e w' => ∃ b c, e = .returned (.slice (some ⟨b, 0, none⟩) (aR 18446744073709551616 (bN a)).length c) ∧ w'.ownsRow w.heap.size 204 1 (.slice (some ⟨b, 0, none⟩) (aR 18446744073709551616 (bN a)).length c) (aR 18446744073709551616 (bN a)).length (cB (aR 18446744073709551616 (bN a))) ∧ Below w.heap.size w w' := xe a w Dq
theorem nk (n : Nat) (w : World) (hn : n < 18446744073709551616) :
  Calls Tryz.prog 202 #[.int .u64 (n : Int)] w fun e w' => e = .returned (.string (sN n)) ∧ Below w.heap.size w w' := by
 have hh := Hp.start w;refine aj (N := 6) (l := [.int .u64 (n : Int)]) Tryz.func202 rfl rfl (by simp) ?_;refine sr (aS (aa (sr (mI ?_))));refine bf hh (cs := [_]) aF.out aC.out (aY (bK rfl) bQ) rfl rfl Dr Dr Dr rfl Dr ?_;intro b4 w4 hh;refine bB hh (fH _ _ _ [n] _ (hh.aD (i := 0) rfl) (Dg.cons hn Dg.nil) (Nat.le_refl _) Dq) rfl ?_;intro w5 hh;refine aS (aa (al ?_));refine cA ?_;refine ⟨?_, hh.below⟩;rw [sN];simp [bh]
theorem rF (a b : ByteArray) (w : World) (ha : a.size ≤ 1000000000) (hb : b.size ≤ 1000000000) :
  Calls Tryz.prog 251 #[.string a, .string b] w fun e w' => e = .returned (.int .i64 (iK (bN a) (bN b))) ∧ Below w.heap.size w w' := by
 have hh := Hp.start w;have h1 := eW a;have h2 := eW b;refine aj (N := 10) (l := [.string a, .string b]) Tryz.func251 rfl rfl (by simp) ?_;refine sr (aI (aa (sr (mS ?_))));refine aK (df a _ ha) aq.out rfl Dr ?_;rintro e_ w6 ⟨A6, c6, rfl, hown_, hb_⟩;refine ⟨_, rfl, ?_⟩;replace hh := hh.a9 (x := .row _ _ _ _ _ _) hb_ hown_;refine mS ?_;refine aK (df b _ hb) aq.out rfl Dr ?_;rintro e_ w8 ⟨A8, c8, rfl, hown_, hb_⟩;refine ⟨_, rfl, ?_⟩;replace hh := hh.a9 (x := .row _ _ _ _ _ _) hb_ hown_;refine bB hh (kJ _ _ _ _ _ _ (aR 18446744073709551616 (bN a)) (aR 18446744073709551616 (bN b)) _ (hh.aD (i := 1) rfl) (hh.aD (i := 0) rfl) (fk _) (fk _) (hh.dy (i := 1) rfl) (hh.dy (i := 0) rfl) Dq Dq) rfl ?_;intro w9 hh;rw [fa, fa];refine aI (aa (al ?_));refine cA ?_;exact ⟨rfl, hh.below⟩
theorem jd (a : ByteArray) (w : World) (ha : a.size ≤ 1000000000) :
  Calls Tryz.prog 228 #[.string a] w fun e w' => e = .returned (.int .i64 (bz (bN a))) ∧ Below w.heap.size w w' := by
 have hh := Hp.start w;have h1 := eW a;refine aj (N := 6) (l := [.string a]) Tryz.func228 rfl rfl (by simp) ?_;refine sr (aI (aa (sr (mS ?_))));refine aK (df a _ ha) aq.out rfl Dr ?_;rintro e_ w4 ⟨A4, c4, rfl, hown_, hb_⟩;refine ⟨_, rfl, ?_⟩;replace hh := hh.a9 (x := .row _ _ _ _ _ _) hb_ hown_;refine bB hh (oR _ _ _ (aR 18446744073709551616 (bN a)) _ (hh.aD (i := 0) rfl) (fk _) (hh.dy (i := 0) rfl) Dq) rfl ?_;intro w5 hh;rw [fa];refine aI (aa (al ?_));refine cA ?_;exact ⟨rfl, hh.below⟩
theorem lP (n m : Nat) : bz (n * 2 ^ m) ≤ bz n + m := by
 apply dm;rw [Nat.pow_add];exact Nat.mul_lt_mul_of_pos_right (db n) (Nat.pow_pos Dq)
theorem px (n : Nat) : (aR 18446744073709551616 n).length ≤ (bz n + 63) / 64 := by
 apply fB Dq;refine Nat.lt_of_lt_of_le (db n) ?_;rw [show (18446744073709551616 : Nat) = 2 ^ 64 from rfl, ← Nat.pow_mul];exact Nat.pow_le_pow_right Dq Dq
theorem qU (a : ByteArray) (m : Nat) (w : World) (ha : a.size ≤ 1000000000) (hm : m ≤ 10000000000) :
  Calls Tryz.prog 226 #[.string a, .int .i64 (m : Int)] w fun e w' => e = .returned (.string (sN (bN a * 2 ^ m))) ∧ Below w.heap.size w w' := by
 have hh := Hp.start w;have h1 := eW a;have h2 := px (bN a * 2 ^ m);have h3 := lP (bN a) m;have h4 := fq a;have e1 : (if (0 : Int) > (m : Int) then 0 else (m : Int)) = m := if_neg Dq;refine aj (N := 11) (l := [.string a, .int .i64 (m : Int)]) Tryz.func226 rfl rfl (by simp) ?_;refine sr (aS (aa (sr (mS ?_))));refine aK (df a _ ha) aq.out rfl Dr ?_;rintro e_ w6 ⟨A6, c6, rfl, hown_, hb_⟩;refine ⟨_, rfl, ?_⟩;replace hh := hh.a9 (x := .row _ _ _ _ _ _) hb_ hown_;refine mI ?_;refine ku rfl rfl Dr ?_;rw [e1];refine aK (xo _ _ _ m (aR 18446744073709551616 (bN a)) _ (hh.aD (i := 0) rfl) (fk _) Dq hm) aq.out rfl Dr ?_;rintro e_ w9 ⟨A9, c9, rfl, hown_, hb_⟩;refine ⟨_, rfl, ?_⟩;replace hh := hh.a9 (x := .row _ _ _ _ _ _) hb_ hown_;rw [fa] at *;refine bB hh (fH _ _ _ (aR 18446744073709551616 (bN a * 2 ^ m)) _ (hh.aD (i := 0) rfl) (fk _) (hh.dy (i := 0) rfl) Dq) rfl ?_;intro w10 hh;rw [fa];refine aS (aa (al ?_));refine cA ?_;exact ⟨rfl, hh.below⟩
theorem lg (n m : Nat) : bz (n / 2 ^ m) ≤ bz n := by
 apply dm;exact Nat.lt_of_le_of_lt (Nat.div_le_self _ _) (db n)
theorem ri (a : ByteArray) (m : Nat) (w : World) (ha : a.size ≤ 1000000000) (hm : m ≤ 1000000000000) :
  Calls Tryz.prog 227 #[.string a, .int .i64 (m : Int)] w fun e w' => e = .returned (.string (sN (bN a / 2 ^ m))) ∧ Below w.heap.size w w' := by
 have hh := Hp.start w;have h1 := eW a;have h2 := px (bN a / 2 ^ m);have h3 := lg (bN a) m;have h4 := fq a;have e1 : (if (0 : Int) > (m : Int) then 0 else (m : Int)) = m := if_neg Dq;refine aj (N := 11) (l := [.string a, .int .i64 (m : Int)]) Tryz.func227 rfl rfl (by simp) ?_;refine sr (aS (aa (sr (mS ?_))));refine aK (df a _ ha) aq.out rfl Dr ?_;rintro e_ w6 ⟨A6, c6, rfl, hown_, hb_⟩;refine ⟨_, rfl, ?_⟩;replace hh := hh.a9 (x := .row _ _ _ _ _ _) hb_ hown_;refine mI ?_;refine ku rfl rfl Dr ?_;rw [e1];refine aK (sE _ _ _ m (aR 18446744073709551616 (bN a)) _ (hh.aD (i := 0) rfl) (fk _) (hh.dy (i := 0) rfl) Dq hm) aq.out rfl Dr ?_;rintro e_ w9 ⟨A9, c9, rfl, hown_, hb_⟩;refine ⟨_, rfl, ?_⟩;replace hh := hh.a9 (x := .row _ _ _ _ _ _) hb_ hown_;rw [fa] at *;refine bB hh (fH _ _ _ (aR 18446744073709551616 (bN a / 2 ^ m)) _ (hh.aD (i := 0) rfl) (fk _) (hh.dy (i := 0) rfl) Dq) rfl ?_;intro w10 hh;rw [fa];refine aS (aa (al ?_));refine cA ?_;exact ⟨rfl, hh.below⟩
theorem Al {x y : Nat} (h : y ≤ x) : rW 18446744073709551616 (aR 18446744073709551616 x) (aR 18446744073709551616 y) 0 = 0 ∧ bh 18446744073709551616 (nF 18446744073709551616 (aR 18446744073709551616 x) (aR 18446744073709551616 y) 0) = x - y := by
 have := xQ (B := 18446744073709551616) Dq (aR 18446744073709551616 x) (aR 18446744073709551616 y) 0 (fk _) (fk _) Dq (by rw [fa, fa]; omega);rw [fa, fa] at this;exact ⟨this.2, Dq⟩
theorem lM (a b : ByteArray) (w : World) (ha : a.size ≤ 1000000000) (hb : b.size ≤ 1000000000) :
  Calls Tryz.prog 232 #[.string a, .string b] w fun e w' => e = .returned (.tuple #[.string (sN (bN a - bN b)), .bool (decide (bN b ≤ bN a))]) ∧ Below w.heap.size w w' := by
 have hh := Hp.start w;have h1 := eW a;have h2 := eW b;by_cases hlt : bN a < bN b
 ·refine aj (N := 21) (l := [.string a, .string b]) Tryz.func232 rfl rfl (by simp) ?_;refine sr (aS (aB (aa (sr (mS ?_)))));refine aK (df a _ ha) aq.out rfl Dr ?_;rintro e_ w9 ⟨A9, c9, rfl, hown_, hb_⟩;refine ⟨_, rfl, ?_⟩;replace hh := hh.a9 (x := .row _ _ _ _ _ _) hb_ hown_;refine mS ?_;refine aK (df b _ hb) aq.out rfl Dr ?_;rintro e_ w11 ⟨A11, c11, rfl, hown_, hb_⟩;refine ⟨_, rfl, ?_⟩;replace hh := hh.a9 (x := .row _ _ _ _ _ _) hb_ hown_;refine aL (aL (aa (ah (sr (mL (mL ?_))))));refine bB hh (kJ _ _ _ _ _ _ (aR 18446744073709551616 (bN a)) (aR 18446744073709551616 (bN b)) _ (hh.aD (i := 1) rfl) (hh.aD (i := 0) rfl) (fk _) (fk _) (hh.dy (i := 1) rfl) (hh.dy (i := 0) rfl) Dq Dq) rfl ?_;intro w14 hh;rw [fa, fa, jk hlt];refine a3 (aa (cT (sr (aS (aB (aa (al (aH ?_))))))));refine vW ?_;rw [Nat.sub_eq_zero_of_le Dq, decide_eq_false Dq, gN];exact ⟨rfl, hh.below⟩
 ·obtain ⟨s1, s2⟩ := Al (Nat.le_of_not_lt hlt);have hc : ¬ iK (bN a) (bN b) < 0 := by unfold iK; split <;> (try split) <;> omega
  refine aj (N := 21) (l := [.string a, .string b]) Tryz.func232 rfl rfl (by simp) ?_;refine sr (aS (aB (aa (sr (mS ?_)))));refine aK (df a _ ha) aq.out rfl Dr ?_;rintro e_ w9 ⟨A9, c9, rfl, hown_, hb_⟩;refine ⟨_, rfl, ?_⟩;replace hh := hh.a9 (x := .row _ _ _ _ _ _) hb_ hown_;refine mS ?_;refine aK (df b _ hb) aq.out rfl Dr ?_;rintro e_ w11 ⟨A11, c11, rfl, hown_, hb_⟩;refine ⟨_, rfl, ?_⟩;replace hh := hh.a9 (x := .row _ _ _ _ _ _) hb_ hown_;refine aL (aL (aa (ah (sr (mL (mL ?_))))));refine bB hh (kJ _ _ _ _ _ _ (aR 18446744073709551616 (bN a)) (aR 18446744073709551616 (bN b)) _ (hh.aD (i := 1) rfl) (hh.aD (i := 0) rfl) (fk _) (fk _) (hh.dy (i := 1) rfl) (hh.dy (i := 0) rfl) Dq Dq) rfl ?_;intro w14 hh;rw [fa, fa];refine a3 (aa (cF (ak (ai (sr (mL (mL ?_)))))));replace hh := hh.front 1 rfl;rw [← List.append_nil (aR 18446744073709551616 (bN a)), ← List.nil_append (aR 18446744073709551616 (bN a))] at hh;have hll := (hh.Am (i := 0) rfl);rw [List.nil_append, List.append_nil] at hll;refine aK (sg [] (aR 18446744073709551616 (bN a)) [] (aR 18446744073709551616 (bN b)) _ hh (fun w1 cs h => h.aD (i := 1) rfl) (fk _) (fk _) Dq Dq s1) aq.out rfl Dr ?_;rintro e_ w_ ⟨rfl, hh⟩;refine ⟨_, rfl, ?_⟩
  simp only [List.nil_append, List.append_nil] at hh;refine aa (sr (mL ?_));refine bB hh (fH _ _ _ (nF 18446744073709551616 (aR 18446744073709551616 (bN a)) (aR 18446744073709551616 (bN b)) 0) _ (hh.aD (i := 0) rfl) (zV Dq _ _ _) (hh.dy (i := 0) rfl) Dq) rfl ?_;intro w20 hh;rw [s2];refine aS (aB (aa (al ?_)));refine vW ?_;rw [decide_eq_true Dq];exact ⟨rfl, hh.below⟩
theorem rn (a b : ByteArray) (w : World) (ha : a.size ≤ 1000000000) (hb : b.size ≤ 1000000000) :
  Calls Tryz.prog 234 #[.string a, .string b] w fun e w' => e = .returned (.string (sN (bN a * bN b))) ∧ Below w.heap.size w w' := by
 have hh := Hp.start w;have h1 := eW a;have h2 := eW b;refine aj (N := 37) (l := [.string a, .string b]) Tryz.func234 rfl rfl (by simp) ?_;refine sr (aS (aa (sr (mS ?_))));refine aK (df a _ ha) aq.out rfl Dr ?_;rintro e_ w11 ⟨A11, c11, rfl, hown_, hb_⟩;refine ⟨_, rfl, ?_⟩;replace hh := hh.a9 (x := .row _ _ _ _ _ _) hb_ hown_;refine mS ?_;refine aK (df b _ hb) aq.out rfl Dr ?_;rintro e_ w13 ⟨A13, c13, rfl, hown_, hb_⟩;refine ⟨_, rfl, ?_⟩;replace hh := hh.a9 (x := .row _ _ _ _ _ _) hb_ hown_;have hxd := fk (bN a);have hyd := fk (bN b);have hX := fa (bN a);have hY := fa (bN b);generalize aR 18446744073709551616 (bN a) = xs at *;generalize aR 18446744073709551616 (bN b) = ys at *;refine aL (aL (aa (sr (mL (a4 (mL (a4 ?_)))))));refine bO ?_;refine bO ?_;refine gw (n := xs.length + ys.length + 1) hh rfl rfl Dq Dq aF.out aC.out rfl Dq Dq Dr ?_;intro b20 w20 hh;refine aL (aa (ah (sr (mL (a4 (mI (aa (ao ?_))))))));rw [lG] at hh;refine bF [8, 9, 23, 24, 25, 26, 27, 28, 29, 30, 31, 32, 33, 34] 23
  (fun v w' => ∃ (i : Nat) (L : List Nat), i ≤ xs.length ∧ v = .int .i64 i ∧ Dg 18446744073709551616 L ∧ L.length = xs.length + ys.length + 1 ∧ bh 18446744073709551616 L = bh 18446744073709551616 (xs.take i) * bh 18446744073709551616 ys ∧ Hp w [.row (some ⟨b20, 0, none⟩) (xs.length + ys.length + 1) (xs.length + ys.length + 1) 204 1 (cB L), .row (some ⟨A13, 0, none⟩) ys.length c13 204 1 (cB ys), .row (some ⟨A11, 0, none⟩) xs.length c11 204 1 (cB xs)] w')
  (fun v _ => xs.length - (intOf v).toNat) ?_ ?_
 ·exact ⟨0, _, Nat.zero_le _, rfl, Dg.yP Dq _, by simp, by simp [mV, bh], hh⟩
 ·clear hh;rintro ρ' v w' ⟨i, L, hi, rfl, hLd, hLl, hLv, hh⟩;by_cases hlt : i < xs.length
  ·obtain ⟨m, hm⟩ := aG (l := xs) (k := i) Dq;have hm2 := dN hm;have hmw := hxd.at_ hm;have hpl : (L.take i).length = i := by rw [List.length_take]; omega
   have hsl : (L.drop i).length = xs.length + ys.length + 1 - i := by rw [List.length_drop]; omega
   refine sr ?_;refine a3 (aa (ah (cT (ak (ai (ah (ao (sr (mI ?_)))))))));refine bm (k := i) aF.out aC.size rfl rfl Dq Dq Dr ?_;refine bp aC.out rfl (hh.cE (i := 2) rfl (by first | assumption | (simp only [Nat.mul_one]; assumption))) Dr ?_;refine aI (aI (aa (ar (mL (mI ?_)))));first | refine oG (l := i) aF.out aC.size rfl rfl Dq Dq Dq Dq Dr ?_ | refine nA (l := i) aF.out aC.size rfl rfl Dq Dq Dq Dq Dr ?_
   refine mL (mI ?_);have hc := sM (c' := xs.length + ys.length + 1 - i) (ny := ys.length) (cy := c13) (m := m) (Y := some ⟨A13, 0, none⟩) (L.take i) (L.drop i) [] ys _ (by rw [List.append_nil, List.take_append_drop]; exact hh) (fun w1 cs h => h.aD (i := 1) rfl) (hLd.drop i) hyd hmw Dq Dq;rw [hpl, hsl, List.append_nil] at hc;rw [Nat.zero_add, Nat.mul_one];refine aK (hc) aq.out rfl Dr ?_;rintro e_ w_ ⟨rfl, hh⟩;refine ⟨_, rfl, ?_⟩;have hlt1 := fY (hxd.take (i + 1));have hlt2 := fY hyd;rw [List.length_take, Nat.min_eq_left Dq] at hlt1;have hsn := eM (B := 18446744073709551616) hm;have hsplit := gy (B := 18446744073709551616) L i Dq;have hnew : 18446744073709551616 ^ i * (bh 18446744073709551616 (L.drop i) + bh 18446744073709551616 ys * m + 0) + bh 18446744073709551616 (L.take i) = bh 18446744073709551616 (xs.take (i + 1)) * bh 18446744073709551616 ys := by
    rw [hsn, Nat.add_mul, ← hLv, hsplit, Nat.add_zero, Nat.mul_add, Nat.mul_assoc, Nat.mul_comm m]; omega
   have hbd : bh 18446744073709551616 (L.drop i) + bh 18446744073709551616 ys * m + 0 < 18446744073709551616 ^ (L.drop i).length := by
    refine Nat.lt_of_mul_lt_mul_left (a := 18446744073709551616 ^ i) ?_;rw [← Nat.pow_add, hsl];refine Nat.lt_of_le_of_lt (Nat.le_add_right _ (bh 18446744073709551616 (L.take i))) ?_;rw [hnew];refine Nat.lt_of_lt_of_le (Nat.mul_lt_mul'' hlt1 hlt2) ?_;rw [← Nat.pow_add];exact Nat.pow_le_pow_right Dr Dq
   have hdp := pU (B := 18446744073709551616) Dq _ _ _ _ hbd;refine aE (aX (ai (ar ?_)));refine bO (mI (aE (ai ?_)));refine ⟨⟨i + 1, L.take i ++ fg 18446744073709551616 (L.drop i) ys m 0, Dq, rfl, (hLd.take i).append (sP Dq _ _ _ _), by rw [List.length_append, l5, hpl, hsl]; omega, ?_, hh⟩, by show xs.length - (i + 1) < xs.length - i; omega, ?_⟩
   ·rw [dW, hdp, hpl, Nat.add_comm]; exact hnew
   exact Du
  ·obtain rfl : i = xs.length := Dq;rw [List.take_length, hX, hY] at hLv;refine sr ?_;refine a3 (aa (ah (cF (aV (aA (aA (a8 (ai (sr (mL ?_))))))))));refine bB hh (fH _ _ _ L _ (hh.aD (i := 0) rfl) hLd (Nat.le_refl _) Dq) rfl ?_;intro w36 hh;rw [hLv];refine aS (aa (al ?_));refine cA ?_;exact ⟨rfl, hh.below⟩
theorem z7 {n d r k : Nat} (hd : d ≠ 0) (hdw : d < 18446744073709551616) (hn : n = 18446744073709551616 ^ k * (d + 18446744073709551616 * r)) : tz n = 64 * k + tz d := by
 obtain ⟨m, hm⟩ := nM hd;have ht : tz d < 64 := qf hd (by simpa using hdw);have hW : (18446744073709551616 : Nat) = 2 ^ 64 := by decide
 generalize tz d = t at *;have e : n = 2 ^ (64 * k + t) * (2 * (m + 2 ^ (63 - t) * r) + 1) := by
  rw [hn, Nat.pow_add, Nat.pow_mul, ← hW, Nat.mul_assoc];congr 1;have h1 : 18446744073709551616 = 2 ^ t * (2 * 2 ^ (63 - t)) := by rw [hW, ← Nat.pow_succ', ← Nat.pow_add]; congr 1; omega
  have h2 : 18446744073709551616 * r = 2 ^ t * (2 * 2 ^ (63 - t) * r) := by rw [← Nat.mul_assoc, ← h1]
  rw [h2]
  conv => lhs; rw [hm]
  rw [← Nat.mul_add];congr 1;rw [Nat.mul_add, Nat.mul_assoc]; omega
 rw [e, vG]
theorem hU (a : ByteArray) (w : World) (ha : a.size ≤ 1000000000) (hT : gK w) :
  Calls Tryz.prog 196 #[.string a] w fun e w' => e = .returned (.int .i64 (tz (bN a))) ∧ Below w.heap.size w w' := by
 have hh := Hp.start w;have h1 := eW a;refine aj (N := 21) (l := [.string a]) Tryz.func196 rfl rfl (by simp) ?_;refine sr (aI (aa (ah (sr (mS ?_)))));refine aK (df a _ ha) aq.out rfl Dr ?_;rintro e_ w6 ⟨A6, c6, rfl, hown_, hb_⟩;refine ⟨_, rfl, ?_⟩;replace hh := hh.a9 (x := .row _ _ _ _ _ _) hb_ hown_;have hxd := fk (bN a);have hX := fa (bN a);generalize aR 18446744073709551616 (bN a) = xs at *;refine a4 (mI (aa (ao ?_)));refine bF [2, 3, 4, 8, 9, 10, 11, 12, 13, 14, 15, 16, 17, 18, 19, 20] 8
  (fun v w' => ∃ (i : Nat), i ≤ xs.length ∧ v = .int .i64 i ∧ bh 18446744073709551616 (xs.take i) = 0 ∧ Hp w [.row (some ⟨A6, 0, none⟩) xs.length c6 204 1 (cB xs)] w')
  (fun v _ => xs.length - (intOf v).toNat) ?_ ?_
 ·exact ⟨0, Nat.zero_le _, rfl, rfl, hh⟩
 ·clear hh;rintro ρ' v w' ⟨i, hi, rfl, hz, hh⟩;by_cases hlt : i < xs.length
  ·obtain ⟨d, hm⟩ := aG (l := xs) (k := i) Dq;have hm2 := dN hm;have hmw := hxd.at_ hm;by_cases h0 : d = 0
   ·subst h0;refine sr ?_;refine a3 (aa (ah (cT (ak (ai (ah (ao (sr (mI ?_)))))))));refine bm (k := i) aF.out aC.size rfl rfl Dq Dq Dr ?_;refine bp aC.out rfl (hh.cE (i := 0) rfl (by first | assumption | (simp only [Nat.mul_one]; assumption))) Dr ?_;refine aI (aI (aa (sr (mI ?_))));refine cz (aa (cF (ak (aX (ai (ar ?_))))));refine bO (mI (aE (ai ?_)));refine ⟨⟨i + 1, Dq, rfl, by rw [eM hm, hz]; simp, hh⟩, by show xs.length - (i + 1) < xs.length - i; omega, ?_⟩;exact Du
   ·have htz : tz (bN a) = 64 * i + tz d := by
     have h3 := gy (B := 18446744073709551616) xs i Dq;have h4 := (List.getElem?_eq_some_iff.1 hm);rw [hz, List.drop_eq_getElem_cons hlt, h4.2, bh, hX, Nat.zero_add] at h3;exact z7 h0 hmw h3
    have ht : tz d < 64 := qf h0 (by simpa using hmw);refine sr ?_;refine a3 (aa (ah (cT (ak (ai (ah (ao (sr (mI ?_)))))))));refine bm (k := i) aF.out aC.size rfl rfl Dq Dq Dr ?_;refine bp aC.out rfl (hh.cE (i := 0) rfl (by first | assumption | (simp only [Nat.mul_one]; assumption))) Dr ?_;refine aI (aI (aa (sr (mI ?_))));refine cz (aa (cT (sr (mI ?_))));refine mulC (mI ?_);refine bB hh (tQ _ _ hmw h0 (hT.hp hh)) rfl ?_;intro w18 hh;refine bO (aI (aa (al (bT (aH (aH (bT (aH ?_))))))));refine cA ?_;refine ⟨?_, hh.below⟩;congr 2;omega
  ·refine sr ?_;refine a3 (aa (ah (cF (aV (aA (aA (a8 (ai (sr (aI (aa (al ?_))))))))))));refine cA ?_;rw [List.take_of_length_le Dq, hX] at hz;rw [hz];exact ⟨rfl, hh.below⟩
theorem zm {x y k : Nat} (hx : x < 18446744073709551616 ^ k) (hy : y < 18446744073709551616 ^ k) : bh 18446744073709551616 (fg 18446744073709551616 (aR 18446744073709551616 x ++ List.replicate (k + 1 - (aR 18446744073709551616 x).length) 0) (aR 18446744073709551616 y) 1 0) = x + y := by
 have hl := fB (B := 18446744073709551616) Dq hx;have h1 : bh 18446744073709551616 (aR 18446744073709551616 x ++ List.replicate (k + 1 - (aR 18446744073709551616 x).length) 0) = x := by rw [dW, mV, fa]; simp
 have h2 : (aR 18446744073709551616 x ++ List.replicate (k + 1 - (aR 18446744073709551616 x).length) 0).length = k + 1 := by rw [List.length_append, List.length_replicate]; omega
 rw [pU Dq, h1, fa]
 ·omega
 ·rw [h1, h2, fa, Nat.pow_succ];have : 0 < 18446744073709551616 ^ k := Nat.pow_pos Dr;omega
theorem mU (l : List Nat) (x : Nat) : (l ++ [x]).sum = l.sum + x := by simp
theorem rL (L : Option Addr) (n c : Nat) (ss : List ByteArray) (w : World) (hS : Sl w L n 1 (tt ss)) (hn : n ≤ 1000000) (hs : ∀ s ∈ ss, s.size ≤ 1000000000) :
  Calls Tryz.prog 230 #[.slice L n c] w fun e w' => e = .returned (.string (sN (ss.map bN).sum)) ∧ Below w.heap.size w w' := by
 have hsl : ss.length = n := by have := hS.1; rw [na] at this; omega
 have hh := Hp.start w;refine aj (N := 31) (l := [.slice L n c]) Tryz.func230 rfl rfl (by simp) ?_;refine sr (aS (aa (sr (aL (aa (ah (sr (mL (a4 (mI (aa (ao ?_))))))))))));replace hh := hh.eN 204 1;refine de [3, 5, 6, 9, 10, 11, 12, 13, 14, 15, 16, 17, 18, 19, 20, 21, 22, 23, 24, 25, 26, 27, 28] 3 9
  (fun v j w' => ∃ (i : Nat) (A : Option Addr) (c' T : Nat), i ≤ n ∧ j = .int .i64 i ∧ T = ((ss.take i).map bN).sum ∧ v = .slice A (aR 18446744073709551616 T).length c' ∧ (aR 18446744073709551616 T).length ≤ 125000001 + i ∧ Hp w [.row A (aR 18446744073709551616 T).length c' 204 1 (cB (aR 18446744073709551616 T))] w')
  (fun _ j _ => n - (intOf j).toNat) ?_ ?_
 ·exact ⟨0, none, 0, 0, Nat.zero_le _, rfl, rfl, by rw [eZ Dq]; rfl, by rw [eZ Dq]; simp, by rw [eZ Dq]; exact hh⟩
 ·clear hh;rintro ρ' v j w' ⟨i, A, c', T, hi, rfl, hT, rfl, hTl, hh⟩;by_cases hlt : i < n
  ·obtain ⟨s, hsi⟩ := aG (l := ss) (k := i) Dq;obtain ⟨ad, rfl, hr⟩ := hS.at_ Dq;have hs2 := u5 hsi;have hsz := hs s (List.mem_of_getElem? hsi);have hlx := eW s;have hT2 : ((ss.take (i + 1)).map bN).sum = T + bN s := by rw [aT hsi, List.map_append, List.map_singleton, mU, hT]
   have e1 : (if ((aR 18446744073709551616 (bN s)).length : Int) > ((aR 18446744073709551616 T).length : Int) then ((aR 18446744073709551616 (bN s)).length : Int) else ((aR 18446744073709551616 T).length : Int)) + 1 = ((max (aR 18446744073709551616 T).length (aR 18446744073709551616 (bN s)).length + 1 : Nat) : Int) := by split <;> omega
   have hb1 : T < 18446744073709551616 ^ max (aR 18446744073709551616 T).length (aR 18446744073709551616 (bN s)).length := Nat.lt_of_lt_of_le (j9 Dq T) (Nat.pow_le_pow_right Dr (Nat.le_max_left _ _));have hb2 : bN s < 18446744073709551616 ^ max (aR 18446744073709551616 T).length (aR 18446744073709551616 (bN s)).length := Nat.lt_of_lt_of_le (j9 Dq (bN s)) (Nat.pow_le_pow_right Dr (Nat.le_max_right _ _));have hadd := zm hb1 hb2;refine sr ?_;refine a3 (aa (ah (cT (ak (ai (ah (ao (sr ?_))))))));refine aZ aF.out aC.size rfl rfl rfl Dq Dr ?_;refine bp aC.out rfl ((hr.ext hh.below).nT (by assumption)) Dr ?_;refine aS (aa (sr (mS ?_)));refine aK (df s _ hsz) aq.out rfl Dr ?_;rintro e_ w14 ⟨A14, c14, rfl, hown_, hb_⟩;refine ⟨_, rfl, ?_⟩;replace hh := hh.a9 (x := .row _ _ _ _ _ _) hb_ hown_;refine aL (aa (sr (mL (mL (a4 (mL (a4 ?_)))))));refine ku rfl rfl Dr ?_;refine bO ?_;rw [e1];generalize hM : max (aR 18446744073709551616 T).length (aR 18446744073709551616 (bN s)).length = M at *;refine aK (kx _ _ _ (M + 1) _ _ (hh.aD (i := 1) rfl) Dq Dq) aq.out rfl Dr ?_;rintro e_ w_ ⟨b22, rfl, hown_, hb_⟩;refine ⟨_, rfl, ?_⟩;replace hh := hh.a9 (x := .row _ _ _ _ _ _) hb_ hown_
   have e2 : max (M + 1) (aR 18446744073709551616 T).length = M + 1 := Dq;rw [e2] at hh;rw [e2];refine aL (aa (sr (mL (mL ?_))));have hc := tJ (c' := M + 1) (ny := (aR 18446744073709551616 (bN s)).length) (cy := c14) (Y := some ⟨A14, 0, none⟩) [] (aR 18446744073709551616 T ++ List.replicate (M + 1 - (aR 18446744073709551616 T).length) 0) [] (aR 18446744073709551616 (bN s)) _ (by rw [List.append_nil, List.nil_append]; exact hh) (fun w1 cs h => h.aD (i := 1) rfl) ((fk _).append (Dg.yP Dq _)) (fk _) (by rw [List.length_append, List.length_replicate]; omega) Dq;have e3 : (aR 18446744073709551616 T ++ List.replicate (M + 1 - (aR 18446744073709551616 T).length) 0).length = M + 1 := by rw [List.length_append, List.length_replicate]; omega
   rw [e3, List.append_nil, List.nil_append] at hc;refine aK (hc) aq.out rfl Dr ?_;rintro e_ w_ ⟨rfl, hh⟩;refine ⟨_, rfl, ?_⟩;have hpl : (fg 18446744073709551616 (aR 18446744073709551616 T ++ List.replicate (M + 1 - (aR 18446744073709551616 T).length) 0) (aR 18446744073709551616 (bN s)) 1 0).length = M + 1 := by rw [l5, e3]
   have hpd := sP (B := 18446744073709551616) Dq (aR 18446744073709551616 T ++ List.replicate (M + 1 - (aR 18446744073709551616 T).length) 0) (aR 18446744073709551616 (bN s)) 1 0;generalize fg 18446744073709551616 (aR 18446744073709551616 T ++ List.replicate (M + 1 - (aR 18446744073709551616 T).length) 0) (aR 18446744073709551616 (bN s)) 1 0 = Z at *;have hcz : dz Z = aR 18446744073709551616 (T + bN s) := by rw [eL Dq hpd, hadd]
   have hcl := eI Z;refine aa (ar (mL ?_));refine bB hh (fI _ _ _ Z _ (hh.aD (i := 0) rfl) (Nat.le_refl _) Dq) rfl ?_;intro w27 hh;replace hh := (hh.vw hpl).sub (List.sublist_append_left [_] _);rw [hcz] at *;refine aL (aE (aX (ai (ar ?_))));refine bO (mI (aE (ai ?_)));refine ⟨⟨i + 1, _, _, T + bN s, Dq, rfl, hT2.symm, rfl, Dq, hh⟩, by show n - (i + 1) < n - i; omega, ?_⟩;exact Du
  ·refine sr ?_;refine a3 (aa (ah (cF (aV (aA (aA (a8 (ai (sr (mL ?_))))))))));refine bB hh (fH _ _ _ (aR 18446744073709551616 T) _ (hh.aD (i := 0) rfl) (fk _) (hh.dy (i := 0) rfl) Dq) rfl ?_;intro w30 hh;rw [fa];refine aS (aa (al ?_));refine cA ?_;rw [List.take_of_length_le Dq] at hT;rw [hT];exact ⟨rfl, hh.below⟩
end Go.Proofs.YteeckcbbnegmcaaGreatDoor
namespace Go.Proofs.YteeckcbbnegmcaaGreatDoor
open Go.RowKit
theorem tM (s : ByteArray) (l h : Nat) : s.extract l h = str ((s.data.toList.take h).drop l) := by
 apply mn;rw [bC];simp [ByteArray.extract, ByteArray.copySlice, List.drop_take]
def Bx : Value → Nat
 | .string t => t.size
 | _ => 0
theorem pG (s : ByteArray) (w : World) :
  Calls Tryz.prog 263 #[.string s, .int .u8 ((0 : UInt8).toNat : Int)] w fun e w' => e = .returned (.string (sN (bN s))) ∧ Below w.heap.size w w' := by
 have hh := Hp.start w;refine aj (N := 17) (l := [.string s, .int .u8 ((0 : UInt8).toNat : Int)]) Tryz.func263 rfl rfl (by simp) ?_;refine sr (aS (aa (ah (ao ?_))));refine bF [0, 5, 6, 7, 8, 9, 10, 11, 12, 13, 14, 15] 0
  (fun v w' => ∃ l : List UInt8, v = .string (str l) ∧ l.length ≤ s.size ∧ bn l = bN s ∧ w' = w)
  (fun v _ => Bx v) ?_ ?_
 ·exact ⟨s.data.toList, by rw [BH]; rfl, by rw [ca]; exact Nat.le_refl _, rfl, rfl⟩
 ·rintro ρ' v w' ⟨l, rfl, hl, hb, rfl⟩;have hsz := eh l
  cases l with
  | nil =>
   refine ah (sr (mS ?_));refine bs aF.out rfl Dr ?_;refine ct (mB ?_);first | refine gS ?_ | (refine gT ?_; refine mS ?_) | refine gV ?_
   first | refine gS ?_ | (refine gT ?_; refine bu aF.out rfl rfl Dq (by assumption) Dr ?_) | refine gV ?_
   first | refine gS ?_ | (refine gT ?_; refine mI ?_) | refine gV ?_
   first | refine gS ?_ | (refine gT ?_; refine cu ?_) | refine gV ?_
   first | refine cW ?_ | refine cX ?_
   refine aa (cF (aV (aA (aA (a8 (ai (sr (mS (aS (aa (al ?_)))))))))));refine cA ?_;rw [sN, ← hb];exact ⟨rfl, hh.below⟩
  | cons c l =>
   have hc0 : (str (c :: l)).data.toList[(0 : Int).toNat]? = some c := by rw [bC]; rfl
   have hc8 := c.toNat_lt;have hlen : (str (c :: l)).size = l.length + 1 := by rw [hsz]; rfl
   have hz : (0 : UInt8).toNat = 0 := rfl;by_cases h0 : c = 0
   ·subst h0;refine ah (sr (mS ?_));refine bs aF.out rfl Dr ?_;refine ct (mB ?_);first | refine gS ?_ | (refine gT ?_; refine mS ?_) | refine gV ?_
    first | refine gS ?_ | (refine gT ?_; refine bu aF.out rfl rfl Dq (by assumption) Dr ?_) | refine gV ?_
    first | refine gS ?_ | (refine gT ?_; refine mI ?_) | refine gV ?_
    first | refine gS ?_ | (refine gT ?_; refine cu ?_) | refine gV ?_
    first | refine cW ?_ | refine cX ?_
    refine aa (cT (ak (ai (ao (ar (mS ?_))))));refine nj (l := 1) (h := (str ((0 : UInt8) :: l)).size) aF.out rfl ⟨_, _, rfl, Dq⟩ rfl Dq Dq Dr ?_;refine aS (aE (aX (ai ?_)));rw [tM, bC, List.take_of_length_le (by rw [hlen]; simp), List.drop_succ_cons, List.drop_zero];refine ⟨⟨l, rfl, by simp at hl; omega, by rw [← hb, yy], rfl⟩, ?_, ?_⟩
    ·show (str l).size < (str (0 :: l)).size;rw [hlen, eh]; omega
    exact Du
   ·have hcn : c.toNat ≠ 0 := fun h => h0 (UInt8.toNat_inj.1 h);refine ah (sr (mS ?_));refine bs aF.out rfl Dr ?_;refine ct (mB ?_);first | refine gS ?_ | (refine gT ?_; refine mS ?_) | refine gV ?_
    first | refine gS ?_ | (refine gT ?_; refine bu aF.out rfl rfl Dq (by assumption) Dr ?_) | refine gV ?_
    first | refine gS ?_ | (refine gT ?_; refine mI ?_) | refine gV ?_
    first | refine gS ?_ | (refine gT ?_; refine cu ?_) | refine gV ?_
    first | refine cW ?_ | refine cX ?_
    refine aa (cF (aV (aA (aA (a8 (ai (sr (mS (aS (aa (al ?_)))))))))));refine cA ?_;rw [sN, ← hb, B3 (by simpa using h0)];exact ⟨rfl, hh.below⟩
theorem pf (s : ByteArray) (w : World) :
  Calls Tryz.prog 254 #[.string s, .string (ByteArray.mk #[0])] w fun e w' => e = .returned (.string (sN (bN s))) ∧ Below w.heap.size w w' := by
 have hh := Hp.start w;have hne : ¬ ByteArray.mk #[(0 : UInt8)] = ByteArray.mk #[] := by intro h; injection h with h; simp at h
 have hsz1 : (ByteArray.mk #[(0 : UInt8)]).size = 1 := rfl;have hc0 : (ByteArray.mk #[(0 : UInt8)]).data.toList[(0 : Int).toNat]? = some 0 := rfl;have hz : (0 : UInt8).toNat = 0 := rfl;by_cases h0 : s = ByteArray.mk #[]
 ·subst h0;refine aj (N := 37) (l := [.string (ByteArray.mk #[]), .string (ByteArray.mk #[0])]) Tryz.func254 rfl rfl (by simp) ?_;refine sr (aS (aa (ah (sr (mS ?_)))));first | refine eo rfl rfl (by first | rfl | assumption | decide) Dr ?_ | refine ez rfl rfl (by first | assumption | decide) Dr ?_
  refine mB ?_;first | refine gS ?_ | (refine gT ?_; refine mS ?_) | refine gV ?_
  first | refine gS ?_ | (refine gT ?_; (first | refine eo rfl rfl (by first | rfl | assumption | decide) Dr ?_ | refine ez rfl rfl (by first | assumption | decide) Dr ?_)) | refine gV ?_
  first | refine cW ?_ | refine cX ?_
  refine aa (cT (sr (mS (aS (aa (al (aH ?_)))))));refine cA ?_;rw [show bN (ByteArray.mk #[]) = 0 from rfl, gN];exact ⟨rfl, hh.below⟩
 ·refine aj (N := 37) (l := [.string s, .string (ByteArray.mk #[0])]) Tryz.func254 rfl rfl (by simp) ?_;refine sr (aS (aa (ah (sr (mS ?_)))));first | refine eo rfl rfl (by first | rfl | assumption | decide) Dr ?_ | refine ez rfl rfl (by first | assumption | decide) Dr ?_
  refine mB ?_;first | refine gS ?_ | (refine gT ?_; refine mS ?_) | refine gV ?_
  first | refine gS ?_ | (refine gT ?_; (first | refine eo rfl rfl (by first | rfl | assumption | decide) Dr ?_ | refine ez rfl rfl (by first | assumption | decide) Dr ?_)) | refine gV ?_
  first | refine cW ?_ | refine cX ?_
  refine aa (cF (ak (ai (ah (sr (mS ?_))))));refine bs aF.out rfl Dr ?_;refine cu (mB ?_);first | refine gS ?_ | (refine gT ?_; refine mS ?_) | refine gV ?_
  first | refine gS ?_ | (refine gT ?_; refine bu aF.out rfl rfl Dq (by assumption) Dr ?_) | refine gV ?_
  first | refine gS ?_ | (refine gT ?_; refine a3 ?_) | refine gV ?_
  first | refine cW ?_ | refine cX ?_
  refine aa (cT (sr (mS (mS ?_))));refine bu aF.out rfl rfl Dq (by assumption) Dr ?_;refine bB hh (pG s _) rfl ?_;intro w25 hh;refine aS (aa (al (aH ?_)));refine cA ?_;exact ⟨rfl, hh.below⟩
theorem iE (s : ByteArray) (w : World) :
  Calls Tryz.prog 233 #[.string s] w fun e w' => e = .returned (.string (sN (bN s))) ∧ Below w.heap.size w w' := by
 have hh := Hp.start w;refine aj (N := 5) (l := [.string s]) Tryz.func233 rfl rfl (by simp) ?_;refine sr (aS (aa (sr (mS ?_))));refine bB hh (pf s _) rfl ?_;intro w4 hh;refine aS (aa (al ?_));refine cA ?_;exact ⟨rfl, hh.below⟩
end Go.Proofs.YteeckcbbnegmcaaGreatDoor
/- Several texts in one: Whole, WholeB, WholeC, Dy. -/
namespace Go.Proofs.YteeckcbbnegmcaaGreatDoor
open Go.RowKit
def iv (s : Bool) (m : ByteArray) : Int := if s then -(bN m : Int) else bN m
def iN (z : Int) : Bool := decide (z < 0)
def iM (z : Int) : ByteArray := sN z.natAbs
theorem fE (z : Int) : iv (iN z) (iM z) = z := by
 unfold iv iN iM;rw [ew];by_cases h : z < 0
 ·rw [decide_eq_true h, if_pos rfl]; omega
 ·rw [decide_eq_false h, if_neg (by simp)]; omega
theorem nS {z : Int} : iM z = ByteArray.mk #[] ↔ z = 0 := by
 rw [iM, ← gN];constructor
 ·intro h; have := ub h; omega
 ·intro h; rw [h]; rfl
theorem ig (s : Bool) (m : ByteArray) : (iv s m).natAbs = bN m := by
 unfold iv; split <;> omega
theorem vv (s : Bool) (m : ByteArray) : iM (iv s m) = sN (bN m) := by rw [iM, ig]
theorem AP (s : Bool) (m : ByteArray) : iN (iv s m) = (s && decide (bN m ≠ 0)) := by
 unfold iN iv;rw [Bool.eq_iff_iff, Bool.and_eq_true, decide_eq_true_eq, decide_eq_true_eq]
 cases s
 ·simp only [Bool.false_eq_true, if_false, false_and, iff_false]; omega
 ·simp only [if_true, true_and]; omega
theorem j1 (s : Bool) (m : ByteArray) (w : World) :
  Calls Tryz.prog 199 #[.agg #[.bool s, .string m]] w fun e w' => e = .returned (.agg #[.string m, .bool s]) ∧ Below w.heap.size w w' := by
 have hh := Hp.start w;refine aj (N := 8) (l := [.agg #[.bool s, .string m]]) Tryz.func199 rfl rfl (by simp) ?_;refine sr ?_;refine dp hh [_,_] ?_;intro b1 w1 hh;refine cj hh ?_;intro b2 w2 hh;refine aa (sr (bG ?_));refine bI hh 1 ?_;refine bG ?_;refine bI hh 1 ?_;refine eX [_,_] ?_;refine bD hh 0 [_,_] ?_;intro ws hh;replace hh : Hp _ (.blk _ _ [_, _] _ :: _) _ := hh;refine aa (al ?_);refine ik (aN rfl (aO (vs := [_, _]) aC.out (hh.aw (i := 0) (n := 2) rfl rfl) rfl) a7) ?_;exact ⟨rfl, hh.below⟩
theorem dr (s : Bool) (m : ByteArray) (w : World) :
  Calls Tryz.prog 200 #[.agg #[.string m, .bool s]] w fun e w' => e = .returned (.agg #[.bool (iN (iv s m)), .string (iM (iv s m))]) ∧ Below w.heap.size w w' := by
 have hh := Hp.start w;rw [AP, vv]
 cases s with
 | false =>
  refine aj (N := 15) (l := [.agg #[.string m, .bool false]]) Tryz.func200 rfl rfl (by simp) ?_;refine sr ?_;refine dp hh [_,_] ?_;intro b1 w1 hh;refine cj hh ?_;intro b2 w2 hh;refine aa (sr (bG ?_));refine bI hh 1 ?_;refine bB hh (iE m _) rfl ?_;intro w6 hh;refine aS (aa (sr (bG ?_)));refine bI hh 1 ?_;refine mB ?_;first | refine gS ?_ | (refine gT ?_; refine mS ?_) | refine gV ?_
  first | refine gS ?_ | (refine gT ?_; (first | refine fG rfl rfl (by first | rfl | assumption | decide) Dr ?_ | refine fF rfl rfl (by first | assumption | decide) Dr ?_)) | refine gV ?_
  first | refine cW ?_ | refine cX ?_
  refine mS ?_;refine eX [_,_] ?_;refine bD hh 0 [_,_] ?_;intro ws hh;replace hh : Hp _ (.blk _ _ [_, _] _ :: _) _ := hh;refine aa (al ?_);refine ik (aN rfl (aO (vs := [_, _]) aC.out (hh.aw (i := 0) (n := 2) rfl rfl) rfl) a7) ?_;exact ⟨rfl, hh.below⟩
 | true =>
  by_cases h0 : sN (bN m) = ByteArray.mk #[]
  ·refine aj (N := 15) (l := [.agg #[.string m, .bool true]]) Tryz.func200 rfl rfl (by simp) ?_;refine sr ?_;refine dp hh [_,_] ?_;intro b1 w1 hh;refine cj hh ?_;intro b2 w2 hh;refine aa (sr (bG ?_));refine bI hh 1 ?_;refine bB hh (iE m _) rfl ?_;intro w6 hh;refine aS (aa (sr (bG ?_)));refine bI hh 1 ?_;refine mB ?_;first | refine gS ?_ | (refine gT ?_; refine mS ?_) | refine gV ?_
   first | refine gS ?_ | (refine gT ?_; (first | refine fG rfl rfl (by first | rfl | assumption | decide) Dr ?_ | refine fF rfl rfl (by first | assumption | decide) Dr ?_)) | refine gV ?_
   first | refine cW ?_ | refine cX ?_
   refine mS ?_;refine eX [_,_] ?_;refine bD hh 0 [_,_] ?_;intro ws hh;replace hh : Hp _ (.blk _ _ [_, _] _ :: _) _ := hh;refine aa (al ?_);refine ik (aN rfl (aO (vs := [_, _]) aC.out (hh.aw (i := 0) (n := 2) rfl rfl) rfl) a7) ?_;have h1 : bN m = 0 := by rw [← gN] at h0; exact ub h0
   rw [decide_eq_false Dq];exact ⟨rfl, hh.below⟩
  ·refine aj (N := 15) (l := [.agg #[.string m, .bool true]]) Tryz.func200 rfl rfl (by simp) ?_;refine sr ?_;refine dp hh [_,_] ?_;intro b1 w1 hh;refine cj hh ?_;intro b2 w2 hh;refine aa (sr (bG ?_));refine bI hh 1 ?_;refine bB hh (iE m _) rfl ?_;intro w6 hh;refine aS (aa (sr (bG ?_)));refine bI hh 1 ?_;refine mB ?_;first | refine gS ?_ | (refine gT ?_; refine mS ?_) | refine gV ?_
   first | refine gS ?_ | (refine gT ?_; (first | refine fG rfl rfl (by first | rfl | assumption | decide) Dr ?_ | refine fF rfl rfl (by first | assumption | decide) Dr ?_)) | refine gV ?_
   first | refine cW ?_ | refine cX ?_
   refine mS ?_;refine eX [_,_] ?_;refine bD hh 0 [_,_] ?_;intro ws hh;replace hh : Hp _ (.blk _ _ [_, _] _ :: _) _ := hh;refine aa (al ?_);refine ik (aN rfl (aO (vs := [_, _]) aC.out (hh.aw (i := 0) (n := 2) rfl rfl) rfl) a7) ?_;have h1 : bN m ≠ 0 := fun h => h0 (by rw [h, gN]);rw [decide_eq_true h1];exact ⟨rfl, hh.below⟩
def Dj (s : Bool) (m : ByteArray) : Value := .agg #[.string m, .bool s]
theorem oZ (a b : ByteArray) (w : World) (ha : a.size ≤ 1000000000) (hb : b.size ≤ 1000000000) :
  Calls Tryz.prog 231 #[.string a, .string b] w fun e w' => e = .returned (.int .i64 (iK (bN a) (bN b))) ∧ Below w.heap.size w w' := by
 have hh := Hp.start w;refine aj (N := 8) (l := [.string a, .string b]) Tryz.func231 rfl rfl (by simp) ?_;refine sr (aI (aa (sr (mS (mS ?_)))));refine bB hh (rF a b _ ha hb) rfl ?_;intro w7 hh;refine aI (aa (al ?_));refine cA ?_;exact ⟨rfl, hh.below⟩
theorem jS (s : Bool) (m : ByteArray) (w : World) :
  Calls Tryz.prog 223 #[.agg #[.bool s, .string m]] w fun e w' => e = .returned (.agg #[.bool (iN (iv s m)), .string (iM (iv s m))]) ∧ Below w.heap.size w w' := by
 have hh := Hp.start w;refine aj (N := 6) (l := [.agg #[.bool s, .string m]]) Tryz.func223 rfl rfl (by simp) ?_;refine sr ?_;refine dp hh [_,_] ?_;intro b1 w1 hh;refine cj hh ?_;intro b2 w2 hh;refine aa (sr ?_);refine cU hh 1 [_,_] ?_;refine bB hh (j1 s m _) rfl ?_;intro w4 hh;refine bB hh (dr s m _) rfl ?_;intro w5 hh;refine bD hh 0 [_,_] ?_;intro ws hh;replace hh : Hp _ (.blk _ _ [_, _] _ :: _) _ := hh;refine aa (al ?_);refine ik (aN rfl (aO (vs := [_, _]) aC.out (hh.aw (i := 0) (n := 2) rfl rfl) rfl) a7) ?_;exact ⟨rfl, hh.below⟩
theorem uj (s : Bool) (m : ByteArray) (w : World) :
  Calls Tryz.prog 185 #[.agg #[.bool s, .string m]] w fun e w' => e = .returned (.agg #[.bool (iN (-(iv s m))), .string (iM (-(iv s m)))]) ∧ Below w.heap.size w w' := by
 have hh := Hp.start w;have e1 : iv (!s) m = -(iv s m) := by unfold iv; cases s <;> simp
 refine aj (N := 10) (l := [.agg #[.bool s, .string m]]) Tryz.func185 rfl rfl (by simp) ?_;refine sr ?_;refine dp hh [_,_] ?_;intro b1 w1 hh;refine cj hh ?_;intro b2 w2 hh;refine aa (sr (bG ?_));refine bI hh 1 ?_;refine bG ?_;refine bI hh 1 ?_;refine gd ?_;refine eX [_,_] ?_;refine bB hh (dr (!s) m _) rfl ?_;intro w9 hh;rw [e1];refine bD hh 0 [_,_] ?_;intro ws hh;replace hh : Hp _ (.blk _ _ [_, _] _ :: _) _ := hh;refine aa (al ?_);refine ik (aN rfl (aO (vs := [_, _]) aC.out (hh.aw (i := 0) (n := 2) rfl rfl) rfl) a7) ?_;exact ⟨rfl, hh.below⟩
theorem jR (s : Bool) (m : ByteArray) (w : World) :
  Calls Tryz.prog 195 #[.agg #[.bool s, .string m]] w fun e w' => e = .returned (.int .i64 (iv s m).sign) ∧ Below w.heap.size w w' := by
 have hh := Hp.start w;by_cases h1 : iv s m < 0
 ·have hn : iN (iv s m) = true := decide_eq_true h1;refine aj (N := 13) (l := [.agg #[.bool s, .string m]]) Tryz.func195 rfl rfl (by simp) ?_;refine sr ?_;refine dp hh [_,_] ?_;intro b1 w1 hh;refine aI (aa (sr ?_));refine cU hh 0 [_,_] ?_;refine bB hh (jS s m _) rfl ?_;intro w5 hh;rw [hn];refine cj hh ?_;intro b3 w3 hh;refine bD hh 0 [_,_] ?_;intro ws hh;replace hh : Hp _ (.blk _ _ [_, _] _ :: _) _ := hh;refine aa (ah (ao (sr (bG ?_))));refine bI hh 0 ?_;refine aB (aa (cT (sr (aI (aa (al (bT (aH ?_))))))));refine cA ?_;exact ⟨by rw [Int.sign_eq_neg_one_of_neg h1], hh.below⟩
 ·have hn : iN (iv s m) = false := decide_eq_false h1;by_cases h0 : iM (iv s m) = ByteArray.mk #[]
  ·refine aj (N := 13) (l := [.agg #[.bool s, .string m]]) Tryz.func195 rfl rfl (by simp) ?_;refine sr ?_;refine dp hh [_,_] ?_;intro b1 w1 hh;refine aI (aa (sr ?_));refine cU hh 0 [_,_] ?_;refine bB hh (jS s m _) rfl ?_;intro w5 hh;rw [hn];refine cj hh ?_;intro b3 w3 hh;refine bD hh 0 [_,_] ?_;intro ws hh;replace hh : Hp _ (.blk _ _ [_, _] _ :: _) _ := hh;refine aa (ah (ao (sr (bG ?_))));refine bI hh 0 ?_;refine aB (aa (cF (sr (bG ?_))));refine bI hh 0 ?_;first | refine eo rfl rfl (by first | rfl | assumption | decide) Dr ?_ | refine ez rfl rfl (by first | assumption | decide) Dr ?_
   refine aB (aa (cT (sr (aI (aa (al (bT (aH ?_))))))));refine cA ?_;exact ⟨by rw [nS.1 h0]; rfl, hh.below⟩
  ·have h2 : 0 < iv s m := by
    have : iv s m ≠ 0 := fun h => h0 (nS.2 h);omega
   refine aj (N := 13) (l := [.agg #[.bool s, .string m]]) Tryz.func195 rfl rfl (by simp) ?_;refine sr ?_;refine dp hh [_,_] ?_;intro b1 w1 hh;refine aI (aa (sr ?_));refine cU hh 0 [_,_] ?_;refine bB hh (jS s m _) rfl ?_;intro w5 hh;rw [hn];refine cj hh ?_;intro b3 w3 hh;refine bD hh 0 [_,_] ?_;intro ws hh;replace hh : Hp _ (.blk _ _ [_, _] _ :: _) _ := hh;refine aa (ah (ao (sr (bG ?_))));refine bI hh 0 ?_;refine aB (aa (cF (sr (bG ?_))));refine bI hh 0 ?_;first | refine eo rfl rfl (by first | rfl | assumption | decide) Dr ?_ | refine ez rfl rfl (by first | assumption | decide) Dr ?_
   refine aB (aa (cF (ak (aX (ai (sr (aI (aa (al ?_)))))))));refine cA ?_;exact ⟨by rw [Int.sign_eq_one_of_pos h2], hh.below⟩
theorem ec (z : Int) : (iM z).size = (bz z.natAbs + 7) / 8 := ix _
def qz (s t : Bool) (a b : ByteArray) : Bool := if s = t then s else if bN a < bN b then t else s
theorem zA (s t : Bool) (a b : ByteArray) : iv (qz s t a b) (iM (iv s a + iv t b)) = iv s a + iv t b := by
 unfold iM iv;rw [ew];unfold qz
 cases s <;> cases t <;> simp <;> (try split) <;> (try simp) <;> omega
theorem xN (s t : Bool) (a b : ByteArray) : iv (s != t) (iM (iv s a * iv t b)) = iv s a * iv t b := by
 rw [iM, Int.natAbs_mul, ig, ig];unfold iv;rw [ew]
 cases s <;> cases t <;> simp [Int.mul_neg, Int.neg_mul]
theorem su (s t : Bool) (a b : ByteArray) (w : World) (ha : a.size ≤ 1000000000) (hb : b.size ≤ 1000000000) :
  Calls Tryz.prog 198 #[.agg #[.string a, .bool s], .agg #[.string b, .bool t]] w fun e w' => e = .returned (.agg #[.string (iM (iv s a + iv t b)), .bool (qz s t a b)]) ∧ Below w.heap.size w w' := by
 have hh := Hp.start w;have hiv : ∀ (u : Bool) (n : Nat) (z : Int), (z = if u then -(n : Int) else n) → sN n = iM z := by
  intro u n z hz;have h1 : z.natAbs = n := by rw [hz]; split <;> omega
  rw [iM, h1]
 by_cases hst : s = t
 ·subst hst;have e1 := hiv s (bN a + bN b) (iv s a + iv s b) (by unfold iv; split <;> omega);refine aj (N := 41) (l := [.agg #[.string a, .bool s], .agg #[.string b, .bool s]]) Tryz.func198 rfl rfl (by simp) ?_;refine sr ?_;refine dp hh [_,_] ?_;intro b2 w2 hh;refine dp hh [_,_] ?_;intro b3 w3 hh;refine cj hh ?_;intro b4 w4 hh;refine aa (ah (sr (bG ?_)));refine bI hh 2 ?_;refine bG ?_;refine bI hh 1 ?_;first | refine jY aF.out rfl rfl (by first | rfl | assumption) Dr ?_ | refine jX aF.out rfl rfl (by first | rfl | assumption | decide) Dr ?_ | refine s_eql_bool aF.out rfl rfl Dr ?_
  refine aa (cT (ah ?_));refine bg 8 [[(2, none)], [(12, some 0)], [(3, none)], [(14, some 2)], [(13, some 1), (15, some 3)], [(16, some 4)], [(2, none)], [(18, some 6)]] [(7, 19), (6, 18), (5, 17), (4, 16), (3, 15), (2, 14), (1, 13), (0, 12)] hh mixed Dt ?_;refine dX ?_;refine fT 2 ?_;refine dX ?_;refine fT 1 ?_;refine tF [_,_] ?_;refine bj (i := 5) (Is (.string (sN (bN a + bN b)))) Is.ext ?_ ?_
  ·intro ρ1 w1 hj hR;obtain ⟨A16, c16, h16, s16⟩ := hR.1;exact bJ rfl (aW aq.out (ay h16 a0)) (rL A16 2 c16 [a, b] _ s16 Dq (by simp; omega)) (fun _ _ hq => ⟨_, hq.1, hq.2, rfl⟩)
  refine dX ?_;refine fT 2 ?_;refine bq ?_;intro f W hJ hV;have hb_2 := hJ.bl;obtain ⟨v19, v18, v17, v16, v15, v14, v13, v12, _⟩ := hV;obtain ⟨A16, c16, e16, f16⟩ : Rows _ _ _ (f 4) W := v16;replace hh := hJ.hp;refine a6 (bk (ae v19 (ae v18 (ae v17 (ae e16 (ae v15 (ae v14 (ae v13 (ae v12 a5))))))))) ?_;dsimp only [cJ];clear e16 hJ;refine eX [_,_] ?_;refine bD hh 0 [_,_] ?_;intro ws hh;replace hh : Hp _ (.blk _ _ [_, _] _ :: _) _ := hh;refine aa (al (aH ?_));refine ik (aN rfl (aO (vs := [_, _]) aC.out (hh.aw (i := 0) (n := 2) rfl rfl) rfl) a7) ?_;rw [e1, qz, if_pos rfl];exact ⟨rfl, hh.below⟩
 ·by_cases hlt : bN a < bN b
  ·have e1 := hiv t (bN b - bN a) (iv s a + iv t b) (by unfold iv; cases s <;> cases t <;> simp at hst ⊢ <;> omega);refine aj (N := 41) (l := [.agg #[.string a, .bool s], .agg #[.string b, .bool t]]) Tryz.func198 rfl rfl (by simp) ?_;refine sr ?_;refine dp hh [_,_] ?_;intro b2 w2 hh;refine dp hh [_,_] ?_;intro b3 w3 hh;refine cj hh ?_;intro b4 w4 hh;refine aa (ah (sr (bG ?_)));refine bI hh 2 ?_;refine bG ?_;refine bI hh 1 ?_;first | refine jY aF.out rfl rfl (by first | rfl | assumption) Dr ?_ | refine jX aF.out rfl rfl (by first | rfl | assumption | decide) Dr ?_ | refine s_eql_bool aF.out rfl rfl Dr ?_
   refine aa (cF (ak (ai (ah (sr (bG ?_))))));refine bI hh 2 ?_;refine bG ?_;refine bI hh 1 ?_;refine bB hh (oZ a b _ ha hb) rfl ?_;intro w25 hh;rw [jk hlt];refine a3 (aa (cT (ar ?_)));refine cU hh 1 [_,_] ?_;refine cU hh 2 [_,_] ?_;refine bD hh 2 [_,_] ?_;intro ws hh;replace hh : Hp _ (_ :: _ :: .blk _ _ [_, _] _ :: _) _ := hh;refine bD hh 1 [_,_] ?_;intro ws hh;replace hh : Hp _ (_ :: .blk _ _ [_, _] _ :: _) _ := hh;refine aa (sr (bG ?_));refine bI hh 2 ?_;refine bG ?_;refine bI hh 1 ?_;refine bB hh (lM b a _ hb ha) rfl ?_;intro w34 hh;refine mT ?_;refine da ?_;refine da ?_;refine aS (aB (aa (sr (mS (bG ?_)))));refine bI hh 2 ?_;refine eX [_,_] ?_;refine bD hh 0 [_,_] ?_;intro ws hh;replace hh : Hp _ (.blk _ _ [_, _] _ :: _) _ := hh;refine aa (al ?_);refine ik (aN rfl (aO (vs := [_, _]) aC.out (hh.aw (i := 0) (n := 2) rfl rfl) rfl) a7) ?_;rw [e1, qz, if_neg hst, if_pos hlt];exact ⟨rfl, hh.below⟩
  ·have e1 := hiv s (bN a - bN b) (iv s a + iv t b) (by unfold iv; cases s <;> cases t <;> simp at hst ⊢ <;> omega);have hc : ¬ iK (bN a) (bN b) < 0 := by unfold iK; split <;> (try split) <;> omega
   refine aj (N := 41) (l := [.agg #[.string a, .bool s], .agg #[.string b, .bool t]]) Tryz.func198 rfl rfl (by simp) ?_;refine sr ?_;refine dp hh [_,_] ?_;intro b2 w2 hh;refine dp hh [_,_] ?_;intro b3 w3 hh;refine cj hh ?_;intro b4 w4 hh;refine aa (ah (sr (bG ?_)));refine bI hh 2 ?_;refine bG ?_;refine bI hh 1 ?_;first | refine jY aF.out rfl rfl (by first | rfl | assumption) Dr ?_ | refine jX aF.out rfl rfl (by first | rfl | assumption | decide) Dr ?_ | refine s_eql_bool aF.out rfl rfl Dr ?_
   refine aa (cF (ak (ai (ah (sr (bG ?_))))));refine bI hh 2 ?_;refine bG ?_;refine bI hh 1 ?_;refine bB hh (oZ a b _ ha hb) rfl ?_;intro w25 hh;refine a3 (aa (cF (ak (ai (sr (bG ?_))))));refine bI hh 2 ?_;refine bG ?_;refine bI hh 1 ?_;refine bB hh (lM a b _ ha hb) rfl ?_;intro w34 hh;refine mT ?_;refine da ?_;refine da ?_;refine aS (aB (aa (sr (mS (bG ?_)))));refine bI hh 2 ?_;refine eX [_,_] ?_;refine bD hh 0 [_,_] ?_;intro ws hh;replace hh : Hp _ (.blk _ _ [_, _] _ :: _) _ := hh;refine aa (al ?_);refine ik (aN rfl (aO (vs := [_, _]) aC.out (hh.aw (i := 0) (n := 2) rfl rfl) rfl) a7) ?_;rw [e1, qz, if_neg hst, if_neg hlt];exact ⟨rfl, hh.below⟩
theorem qV (s t : Bool) (a b : ByteArray) (w : World) (ha : a.size ≤ 1000000000) (hb : b.size ≤ 1000000000) :
  Calls Tryz.prog 201 #[.agg #[.string a, .bool s], .agg #[.string b, .bool t]] w fun e w' => e = .returned (.agg #[.string (iM (iv s a * iv t b)), .bool (s != t)]) ∧ Below w.heap.size w w' := by
 have hh := Hp.start w;have e0 : (iv s a * iv t b).natAbs = bN a * bN b := by rw [Int.natAbs_mul, ig, ig]
 have e1 : iM (iv s a * iv t b) = sN (bN a * bN b) := by rw [iM, e0]
 refine aj (N := 16) (l := [.agg #[.string a, .bool s], .agg #[.string b, .bool t]]) Tryz.func201 rfl rfl (by simp) ?_;refine sr ?_;refine dp hh [_,_] ?_;intro b2 w2 hh;refine dp hh [_,_] ?_;intro b3 w3 hh;refine cj hh ?_;intro b4 w4 hh;refine aa (ah ?_);refine bg 10 [[(2, none)], [(5, some 0)], [(3, none)], [(7, some 2)], [(6, some 1), (8, some 3)], [(2, none)], [(10, some 5)], [(3, none)], [(12, some 7)], [(11, some 6), (13, some 8)]] [(9, 14), (8, 13), (7, 12), (6, 11), (5, 10), (4, 9), (3, 8), (2, 7), (1, 6), (0, 5)] hh mixed Dt ?_;refine dX ?_;refine fT 2 ?_;refine dX ?_;refine fT 1 ?_;refine dC (fun _ hj => rn a b _ ha hb) ?_;refine dX ?_;refine fT 2 ?_;refine dX ?_;refine fT 1 ?_;first | refine bo (i := 9) (fun ρ1 w1 hj hR => vU aF.out (show ρ1 11 = Value.bool _ from hR.1) (show ρ1 13 = Value.bool _ from hR.2.1) (by first | rfl | assumption)) ?_ | refine bo (i := 9) (fun ρ1 w1 hj hR => vg aF.out (show ρ1 11 = Value.bool _ from hR.1) (show ρ1 13 = Value.bool _ from hR.2.1) (by first | assumption | decide)) ?_ | refine bo (i := 9) (fun ρ1 w1 hj hR => kK aF.out (show ρ1 11 = Value.bool _ from hR.1) (show ρ1 13 = Value.bool _ from hR.2.1)) ?_
 refine bq ?_;intro f W hJ hV;have hb_1 := hJ.bl;obtain ⟨v14, v13, v12, v11, v10, v9, v8, v7, v6, v5, _⟩ := hV;replace hh := hJ.hp;refine a6 (bk (ae v14 (ae v13 (ae v12 (ae v11 (ae v10 (ae v9 (ae v8 (ae v7 (ae v6 (ae v5 a5))))))))))) ?_;dsimp only [cJ];clear hJ;refine eX [_,_] ?_;refine bD hh 0 [_,_] ?_;intro ws hh;replace hh : Hp _ (.blk _ _ [_, _] _ :: _) _ := hh;refine aa (al ?_);refine ik (aN rfl (aO (vs := [_, _]) aC.out (hh.aw (i := 0) (n := 2) rfl rfl) rfl) a7) ?_;rw [e1];exact ⟨rfl, hh.below⟩
theorem mi (n : Int) (w : World) (h1 : -9223372036854775808 ≤ n) (h2 : n ≤ 9223372036854775807) :
  Calls Tryz.prog 140 #[.int .i64 n] w fun e w' => e = .returned (.agg #[.bool (iN n), .string (iM n)]) ∧ Below w.heap.size w w' := by
 have hh := Hp.start w;by_cases h0 : n < 0
 ·have e1 : iv true (sN n.natAbs) = n := by unfold iv; rw [ew, if_pos rfl]; omega
  have hw : IntKind.u64.wrap n = ((18446744073709551616 - n.natAbs : Nat) : Int) := by
   rw [show n = ((18446744073709551616 - n.natAbs : Nat) : Int) + -((18446744073709551616 : Nat) : Int) by omega];have := UK.wrap_add (k := .u64) (((18446744073709551616 - n.natAbs : Nat) : Int) + -((18446744073709551616 : Nat) : Int));rw [← this, Int.neg_add_cancel_right, UK.l4 Dq];omega
  have hn : (18446744073709551616 - (18446744073709551616 - n.natAbs)) % 18446744073709551616 = n.natAbs := Dq;refine aj (N := 16) (l := [.int .i64 n]) Tryz.func140 rfl rfl (by simp) ?_;refine sr ?_;refine cj hh ?_;intro b2 w2 hh;refine aa (ah (sr (mI ?_)));refine a3 (aa (cT (sr (mI ?_))));refine pF aF.out aF.out rfl Dr ?_;rw [hw];refine xu rfl Dq Dr ?_;rw [hn];skip;refine bB hh (nk n.natAbs _ Dq) rfl ?_;intro w8 hh;refine eX [_,_] ?_;refine bB hh (dr true (sN n.natAbs) _) rfl ?_;intro w10 hh;rw [e1];refine bD hh 0 [_,_] ?_;intro ws hh;replace hh : Hp _ (.blk _ _ [_, _] _ :: _) _ := hh;refine aa (al (aH ?_));refine ik (aN rfl (aO (vs := [_, _]) aC.out (hh.aw (i := 0) (n := 2) rfl rfl) rfl) a7) ?_;exact ⟨rfl, hh.below⟩
 ·obtain ⟨m, rfl⟩ := Int.eq_ofNat_of_zero_le (by omega : 0 ≤ n);have e1 : iv false (sN m) = m := by unfold iv; rw [ew]; simp
  have hm : m < 18446744073709551616 := Dq;refine aj (N := 16) (l := [.int .i64 (m : Int)]) Tryz.func140 rfl rfl (by simp) ?_;refine sr ?_;refine cj hh ?_;intro b2 w2 hh;refine aa (ah (sr (mI ?_)));refine a3 (aa (cF (ak (ai (sr (mI ?_))))));first | refine di aF.out aF.out rfl (by first | assumption | omega) Dr ?_ | refine eY aF.out aF.out rfl Dr ?_
  refine bB hh (nk m _ hm) rfl ?_;intro w13 hh;refine eX [_,_] ?_;refine bB hh (dr false (sN m) _) rfl ?_;intro w15 hh;rw [e1];refine bD hh 0 [_,_] ?_;intro ws hh;replace hh : Hp _ (.blk _ _ [_, _] _ :: _) _ := hh;refine aa (al ?_);refine ik (aN rfl (aO (vs := [_, _]) aC.out (hh.aw (i := 0) (n := 2) rfl rfl) rfl) a7) ?_;exact ⟨rfl, hh.below⟩
end Go.Proofs.YteeckcbbnegmcaaGreatDoor
namespace Go.Proofs.YteeckcbbnegmcaaGreatDoor
open Go.RowKit
structure IR where
 neg : Bool
 bM : ByteArray
def IR.cells (a : IR) : List Value := [.bool a.neg, .string a.bM]
def IR.v (a : IR) : Int := iv a.neg a.bM
def iR (z : Int) : IR := ⟨iN z, iM z⟩
theorem Ch (z : Int) : (iR z).v = z := fE z
theorem IR.len (a : IR) : a.cells.length = 2 := rfl
theorem l6 (x y : Int) : bz (x + y).natAbs ≤ max (bz x.natAbs) (bz y.natAbs) + 1 := by
 apply dm;have h1 := db x.natAbs;have h2 := db y.natAbs;have h3 : 2 ^ bz x.natAbs ≤ 2 ^ max (bz x.natAbs) (bz y.natAbs) := Nat.pow_le_pow_right Dq (Nat.le_max_left _ _);have h4 : 2 ^ bz y.natAbs ≤ 2 ^ max (bz x.natAbs) (bz y.natAbs) := Nat.pow_le_pow_right Dq (Nat.le_max_right _ _);rw [Nat.pow_succ];omega
theorem l3 (s : Bool) (m : ByteArray) : bz (iv s m).natAbs ≤ 8 * m.size := by rw [ig]; exact fq m
theorem wo (l : List Int) (x : Int) : (l ++ [x]).sum = l.sum + x := by simp
theorem ow (L : Option Addr) (n c : Nat) (l : List IR) (w : World) (hS : Sl w L n 2 (aQ IR.cells l)) (hn : n ≤ 1000000) (hs : ∀ s ∈ l, s.bM.size ≤ 100000000) :
  Calls Tryz.prog 138 #[.slice L n c] w fun e w' => e = .returned (.agg #[.bool (iN (l.map IR.v).sum), .string (iM (l.map IR.v).sum)]) ∧ Below w.heap.size w w' := by
 have hl := hS.cI IR.len Dq;have hh := Hp.start w;refine aj (N := 19) (l := [.slice L n c]) Tryz.func138 rfl rfl (by simp) ?_;refine sr ?_;refine cj hh ?_;intro b2 w2 hh;refine aa (sr ?_);refine cj hh ?_;intro b3 w3 hh;refine aa (ah (sr (mL (a4 (mI (aa (ao ?_)))))));refine bF [5, 8, 9, 10, 11, 12, 13, 14, 15, 16] 8
  (fun j w' => ∃ (i : Nat) (u : Bool) (S : Int), i ≤ n ∧ j = .int .i64 i ∧ S = ((l.take i).map IR.v).sum ∧ iv u (iM S) = S ∧ bz S.natAbs ≤ 800000000 + i ∧ Hp w [.blk b3 199 [.string (iM S), .bool u] (0, 0), .blk b2 63 [.bool false, .string (ByteArray.mk #[])] (0, 0)] w')
  (fun j _ => n - (intOf j).toNat) ?_ ?_
 ·exact ⟨0, false, 0, Nat.zero_le _, rfl, rfl, by rw [iM]; exact congrArg _ (ew 0), by simp [iO], by rw [iM, Int.natAbs_zero, gN]; exact hh⟩
 ·clear hh;rintro ρ' j w' ⟨i, u, S, hi, rfl, hS2, hu, hb, hh⟩;by_cases hlt : i < n
  ·obtain ⟨x, hx⟩ := aG (l := l) (k := i) Dq;obtain ⟨ad, rfl, hr⟩ := hS.at_ Dq;have hxs := hs x (List.mem_of_getElem? hx);have hS3 : ((l.take (i + 1)).map IR.v).sum = S + x.v := by rw [aT hx, List.map_append, List.map_singleton, wo, hS2]
   have hms : (iM S).size ≤ 1000000000 := by rw [ec]; omega
   have hbx := l3 x.neg x.bM;have hba := l6 S x.v;have hpl := zA u x.neg (iM S) x.bM;rw [hu] at hpl;have hwc := fun w1 => su u x.neg (iM S) x.bM w1 hms Dq;rw [hu] at hwc;refine sr ?_;refine a3 (aa (ah (cT (ak (ai (ah (ao (sr ?_))))))));refine aZ (k := i) aF.out aC.size rfl rfl Dq Dq Dr ?_;refine bZ (vs := [_, _]) aC.out rfl (((hr.ext hh.below).recAt IR.len hx)) rfl Dr ?_;refine cj hh ?_;intro b5 w5 hh;refine bD hh 0 [_,_] ?_;intro ws hh;replace hh : Hp _ (.blk _ _ [_, _] _ :: _) _ := hh;refine aa ?_;refine bg 3 [[(3, none)], [(5, none)], [(13, some 1)]] [(2, 14), (1, 13), (0, 12)] hh mixed Dt ?_;refine fX 1 [_,_] ?_;refine fX 0 [_,_] ?_;refine dC (fun _ hj => j1 x.neg x.bM _) ?_;refine bq ?_;intro f W hJ hV;have hb_5 := hJ.bl;obtain ⟨v14, v13, v12, _⟩ := hV;replace hh := hJ.hp;refine a6 (bk (ae v14 (ae v13 (ae v12 a5)))) ?_;dsimp only [cJ];clear hJ;refine bB hh (hwc _) rfl ?_;intro w15 hh;refine bD hh 1 [_,_] ?_;intro ws hh;replace hh : Hp _ (_ :: .blk _ _ [_, _] _ :: _) _ := hh;refine aE (aX (ai (ar ?_)));refine bO (mI (aE (ai ?_)));replace hh := hh.sub (List.sublist_cons_self _ _)
   refine ⟨⟨i + 1, _, _, Dq, rfl, hS3.symm, hpl, by unfold IR.v at hba ⊢; omega, hh⟩, by show n - (i + 1) < n - i; omega, ?_⟩;exact Du
  ·refine sr ?_;refine a3 (aa (ah (cF (aV (aA (aA (a8 (ai (sr ?_)))))))));refine cU hh 0 [_,_] ?_;refine bB hh (dr u (iM S) _) rfl ?_;intro w18 hh;rw [hu];refine bD hh 1 [_,_] ?_;intro ws hh;replace hh : Hp _ (_ :: .blk _ _ [_, _] _ :: _) _ := hh;refine aa (al ?_);refine ik (aN rfl (aO (vs := [_, _]) aC.out (hh.aw (i := 1) (n := 2) rfl rfl) rfl) a7) ?_;rw [List.take_of_length_le Dq] at hS2;rw [hS2];exact ⟨rfl, hh.below⟩
theorem sw (s : Bool) (b : ByteArray) : (iM (-(iv s b))).size ≤ b.size := by
 have := l3 s b;rw [ec, Int.natAbs_neg]; omega
theorem ua (s t : Bool) (a b : ByteArray) (w : World) (ha : a.size ≤ 100000000) (hb : b.size ≤ 100000000) :
  Calls Tryz.prog 229 #[.agg #[.bool s, .string a], .agg #[.bool t, .string b]] w fun e w' => e = .returned (.agg #[.bool (iN (iv s a - iv t b)), .string (iM (iv s a - iv t b))]) ∧ Below w.heap.size w w' := by
 have hh := Hp.start w;have h1 := sw t b;have e1 : ([IR.mk s a, iR (-(iv t b))].map IR.v).sum = iv s a - iv t b := by
  simp only [List.map_cons, List.map_nil, List.sum_cons, List.sum_nil, Ch];simp only [IR.v]; omega
 refine aj (N := 10) (l := [.agg #[.bool s, .string a], .agg #[.bool t, .string b]]) Tryz.func229 rfl rfl (by simp) ?_;refine sr ?_;refine dp hh [_,_] ?_;intro b2 w2 hh;refine dp hh [_,_] ?_;intro b3 w3 hh;refine cj hh ?_;intro b4 w4 hh;refine aa (ah ?_);refine bg 3 [[(2, none)], [(3, none)], [(6, some 1)]] [(2, 7), (1, 6), (0, 5)] hh mixed Dt ?_;refine fX 2 [_,_] ?_;refine fX 1 [_,_] ?_;refine dC (fun _ hj => uj t b _) ?_;refine bq ?_;intro f W hJ hV;have hb_1 := hJ.bl;obtain ⟨v7, v6, v5, _⟩ := hV;replace hh := hJ.hp;refine a6 (bk (ae v7 (ae v6 (ae v5 a5)))) ?_;dsimp only [cJ];clear hJ;refine bf hh (cs := [_, _, _, _]) aF.out aC.out (aY (cK rfl) (aY (cK rfl) bQ)) rfl rfl Dr Dr Dr rfl Dr ?_;intro b8 w8 hh;refine bB hh (ow _ 2 _ [IR.mk s a, iR (-(iv t b))] _ (hh.aD (i := 0) rfl) Dq (by simp [iR]; omega)) rfl ?_;intro w9 hh;rw [e1];refine bD hh 1 [_,_] ?_;intro ws hh;replace hh : Hp _ (_ :: .blk _ _ [_, _] _ :: _) _ := hh;refine aa (al ?_);refine ik (aN rfl (aO (vs := [_, _]) aC.out (hh.aw (i := 1) (n := 2) rfl rfl) rfl) a7) ?_;exact ⟨rfl, hh.below⟩
theorem xX (a b : Nat) : bz (a * b) ≤ bz a + bz b := by
 apply dm;rw [Nat.pow_add];exact Nat.mul_lt_mul'' (db a) (db b)
theorem ll (a b : Int) : bz (a * b).natAbs ≤ bz a.natAbs + bz b.natAbs := by rw [Int.natAbs_mul]; exact xX _ _
def jO : List Int → Int
 | [] => 1
 | x :: l => x * jO l
theorem uC (l : List Int) (x : Int) : jO (l ++ [x]) = jO l * x := by
 induction l with
 | nil => simp [jO]
 | cons y l ih => simp only [List.cons_append, jO, ih, Int.mul_assoc]
theorem sa (l : List Nat) (i : Nat) : (l.take i).sum ≤ l.sum := by
 rw [← List.sum_append_nat.symm.trans (congrArg List.sum (List.take_append_drop i l))]; omega
theorem sS : bz 1 = 1 := by decide +kernel
theorem uP (L : Option Addr) (n c : Nat) (l : List IR) (w : World) (hS : Sl w L n 2 (aQ IR.cells l)) (hn : n ≤ 1000000) (hs : (l.map fun a => a.bM.size).sum ≤ 100000000) :
  Calls Tryz.prog 139 #[.slice L n c] w fun e w' => e = .returned (.agg #[.bool (iN (jO (l.map IR.v))), .string (iM (jO (l.map IR.v)))]) ∧ Below w.heap.size w w' := by
 have hl := hS.cI IR.len Dq;have hh := Hp.start w;have hsum := sa (l.map fun a => a.bM.size);refine aj (N := 21) (l := [.slice L n c]) Tryz.func139 rfl rfl (by simp) ?_;refine sr ?_;refine cj hh ?_;intro b2 w2 hh;refine aa (sr ?_);refine bB hh (mi 1 _ Dq Dq) rfl ?_;intro w6 hh;refine bB hh (j1 _ _ _) rfl ?_;intro w7 hh;refine cj hh ?_;intro b3 w3 hh;refine bD hh 0 [_,_] ?_;intro ws hh;replace hh : Hp _ (.blk _ _ [_, _] _ :: _) _ := hh;refine aa (ah (sr (mL (a4 (mI (aa (ao ?_)))))));refine bF [5, 10, 11, 12, 13, 14, 15, 16, 17, 18] 10
  (fun j w' => ∃ (i : Nat) (u : Bool) (S : Int), i ≤ n ∧ j = .int .i64 i ∧ S = jO ((l.take i).map IR.v) ∧ iv u (iM S) = S ∧ bz S.natAbs ≤ 1 + 8 * ((l.map fun a => a.bM.size).take i).sum ∧ Hp w [.blk b3 199 [.string (iM S), .bool u] (0, 0), .blk b2 63 [.bool false, .string (ByteArray.mk #[])] (0, 0)] w')
  (fun j _ => n - (intOf j).toNat) ?_ ?_
 ·exact ⟨0, _, 1, Nat.zero_le _, rfl, rfl, fE 1, by rw [Int.natAbs_one, sS]; omega, hh⟩
 ·clear hh;rintro ρ' j w' ⟨i, u, S, hi, rfl, hS2, hu, hb, hh⟩;by_cases hlt : i < n
  ·obtain ⟨x, hx⟩ := aG (l := l) (k := i) Dq;obtain ⟨ad, rfl, hr⟩ := hS.at_ Dq;have hsi := hsum i;have hsi2 := hsum (i + 1);have hsz : ((l.map fun a => a.bM.size).take (i + 1)).sum = ((l.map fun a => a.bM.size).take i).sum + x.bM.size := by
    rw [aT (x := x.bM.size) (by rw [List.getElem?_map, hx]; rfl), mU]
   have hS3 : jO ((l.take (i + 1)).map IR.v) = S * x.v := by rw [aT hx, List.map_append, List.map_singleton, uC, hS2]
   have hms : (iM S).size ≤ 1000000000 := by rw [ec]; omega
   have hbx := l3 x.neg x.bM;have hba := ll S x.v;have hpl := xN u x.neg (iM S) x.bM;rw [hu] at hpl;have hwc := fun w1 => qV u x.neg (iM S) x.bM w1 hms Dq;rw [hu] at hwc;refine sr ?_;refine a3 (aa (ah (cT (ak (ai (ah (ao (sr ?_))))))));refine aZ (k := i) aF.out aC.size rfl rfl Dq Dq Dr ?_;refine bZ (vs := [_, _]) aC.out rfl (((hr.ext hh.below).recAt IR.len hx)) rfl Dr ?_;refine cj hh ?_;intro b5 w5 hh;refine bD hh 0 [_,_] ?_;intro ws hh;replace hh : Hp _ (.blk _ _ [_, _] _ :: _) _ := hh;refine aa ?_;refine bg 3 [[(3, none)], [(5, none)], [(15, some 1)]] [(2, 16), (1, 15), (0, 14)] hh mixed Dt ?_;refine fX 1 [_,_] ?_;refine fX 0 [_,_] ?_;refine dC (fun _ hj => j1 x.neg x.bM _) ?_;refine bq ?_;intro f W hJ hV;have hb_5 := hJ.bl;obtain ⟨v16, v15, v14, _⟩ := hV;replace hh := hJ.hp;refine a6 (bk (ae v16 (ae v15 (ae v14 a5)))) ?_;dsimp only [cJ];clear hJ;refine bB hh (hwc _) rfl ?_;intro w17 hh;refine bD hh 1 [_,_] ?_;intro ws hh;replace hh : Hp _ (_ :: .blk _ _ [_, _] _ :: _) _ := hh;refine aE (aX (ai (ar ?_)));refine bO (mI (aE (ai ?_)));replace hh := hh.sub (List.sublist_cons_self _ _)
   refine ⟨⟨i + 1, _, _, Dq, rfl, hS3.symm, hpl, by unfold IR.v at hba ⊢; omega, hh⟩, by show n - (i + 1) < n - i; omega, ?_⟩;exact Du
  ·refine sr ?_;refine a3 (aa (ah (cF (aV (aA (aA (a8 (ai (sr ?_)))))))));refine cU hh 0 [_,_] ?_;refine bB hh (dr u (iM S) _) rfl ?_;intro w20 hh;rw [hu];refine bD hh 1 [_,_] ?_;intro ws hh;replace hh : Hp _ (_ :: .blk _ _ [_, _] _ :: _) _ := hh;refine aa (al ?_);refine ik (aN rfl (aO (vs := [_, _]) aC.out (hh.aw (i := 1) (n := 2) rfl rfl) rfl) a7) ?_;rw [List.take_of_length_le Dq] at hS2;rw [hS2];exact ⟨rfl, hh.below⟩
theorem sF (M k : Nat) (h : 2 ^ k ∣ M) : -((M / 2 ^ k : Nat) : Int) = -(M : Int) / 2 ^ k := by
 obtain ⟨q, rfl⟩ := h;have hp : (0 : Int) < 2 ^ k := Int.pow_pos Dq;rw [Nat.mul_div_cancel_left _ (Nat.pow_pos Dq), Int.natCast_mul, ← Int.mul_neg, Int.natCast_pow];exact (Int.mul_ediv_cancel_left _ (by exact Int.ne_of_gt hp)).symm
theorem rk (M k : Nat) (h : ¬ 2 ^ k ∣ M) : -((M / 2 ^ k : Nat) : Int) - 1 = -(M : Int) / 2 ^ k := by
 have hp : (0 : Int) < 2 ^ k := Int.pow_pos Dq;have h1 := Nat.div_add_mod M (2 ^ k);have h2 := Nat.mod_lt M (Nat.pow_pos (n := k) (show 0 < 2 by omega));have h3 : M % 2 ^ k ≠ 0 := fun h0 => h (Nat.dvd_of_mod_eq_zero h0);have hc : ((2 ^ k : Nat) : Int) = 2 ^ k := by simp
 symm
 rw [Int.ediv_eq_iff_of_pos hp, ← hc];have h4 : (M : Int) = (2 ^ k : Nat) * (M / 2 ^ k : Nat) + (M % 2 ^ k : Nat) := by rw [← Int.natCast_mul, ← Int.natCast_add, h1]
 generalize hK : ((2 ^ k : Nat) : Int) = K at *;generalize ((M / 2 ^ k : Nat) : Int) = q at *;have e : (-q - 1) * K = -(K * q) - K := by rw [Int.sub_mul, Int.neg_mul, Int.mul_comm q]; omega
 have e2 : (-q - 1 + 1) * K = -(K * q) := by rw [Int.sub_add_cancel, Int.neg_mul, Int.mul_comm]
 omega
theorem xI {M k : Nat} (h0 : M ≠ 0) : 2 ^ k ∣ M ↔ k ≤ tz M := by
 obtain ⟨m, hm⟩ := nM h0;generalize tz M = t at *;constructor
 ·intro h
  rcases Nat.lt_or_ge t k with hlt | hge
  ·exfalso;obtain ⟨q, hq⟩ := h;rw [hm, show k = t + (1 + (k - t - 1)) by omega, Nat.pow_add, Nat.pow_add, Nat.mul_assoc] at hq;have := Nat.eq_of_mul_eq_mul_left (Nat.pow_pos Dq) hq;rw [Nat.pow_one, Nat.mul_assoc] at this;omega
  ·exact hge
 ·intro h;rw [hm];exact Nat.dvd_trans (Nat.pow_dvd_pow 2 h) (Nat.dvd_mul_right _ _)
end Go.Proofs.YteeckcbbnegmcaaGreatDoor
namespace Go.Proofs.YteeckcbbnegmcaaGreatDoor
open Go.RowKit
theorem Bo (s : Bool) (a : ByteArray) (m : Nat) : iv s (sN (bN a * 2 ^ m)) = iv s a * 2 ^ m := by
 unfold iv;rw [ew]
 cases s <;> simp [Int.natCast_mul, Int.neg_mul]
theorem tW (s : Bool) (a : ByteArray) (m : Nat) (w : World) (ha : a.size ≤ 100000000) (hm : m ≤ 1000000000) :
  Calls Tryz.prog 197 #[.agg #[.bool s, .string a], .int .i64 (m : Int)] w fun e w' => e = .returned (.agg #[.bool (iN (iv s a * 2 ^ m)), .string (iM (iv s a * 2 ^ m))]) ∧ Below w.heap.size w w' := by
 have hh := Hp.start w;refine aj (N := 47) (l := [.agg #[.bool s, .string a], .int .i64 (m : Int)]) Tryz.func197 rfl rfl (by simp) ?_;refine sr ?_;refine dp hh [_,_] ?_;intro b2 w2 hh;refine cj hh ?_;intro b4 w4 hh;refine aa (ah (sr (mI ?_)));refine dE (aa (cT (ah ?_)));refine bg 6 [[(2, none)], [(8, some 0)], [(1, none)], [(9, some 1), (10, some 2)], [(2, none)], [(12, some 4)]] [(5, 13), (4, 12), (3, 11), (2, 10), (1, 9), (0, 8)] hh mixed Dt ?_;refine dX ?_;refine fT 1 ?_;refine fW ?_;refine dC (fun _ hj => qU a m _ Dq Dq) ?_;refine dX ?_;refine fT 1 ?_;refine bq ?_;intro f W hJ hV;have hb_2 := hJ.bl;obtain ⟨v13, v12, v11, v10, v9, v8, _⟩ := hV;replace hh := hJ.hp;refine a6 (bk (ae v13 (ae v12 (ae v11 (ae v10 (ae v9 (ae v8 a5))))))) ?_;dsimp only [cJ];clear hJ;refine eX [_,_] ?_;refine bB hh (dr s (sN (bN a * 2 ^ m)) _) rfl ?_;intro w15 hh;rw [Bo];refine bD hh 0 [_,_] ?_;intro ws hh;replace hh : Hp _ (.blk _ _ [_, _] _ :: _) _ := hh;refine aa (al (aH ?_));refine ik (aN rfl (aO (vs := [_, _]) aC.out (hh.aw (i := 0) (n := 2) rfl rfl) rfl) a7) ?_;exact ⟨rfl, hh.below⟩
theorem uM (s : Bool) (a : ByteArray) (m : Nat) (w : World) (hT : gK w) (ha : a.size ≤ 100000000) (h0 : 0 < m) (hm : m ≤ 1000000000000) :
  Calls Tryz.prog 197 #[.agg #[.bool s, .string a], .int .i64 (-(m : Int))] w fun e w' => e = .returned (.agg #[.bool (iN (iv s a / 2 ^ m)), .string (iM (iv s a / 2 ^ m))]) ∧ Below w.heap.size w w' := by
 have hh := Hp.start w;have e1 : (if (-1099511627776 : Int) > -(m : Int) then -1099511627776 else -(m : Int)) = -(m : Int) := if_neg Dq;have e2 : -(-(m : Int)) = (m : Int) := Dq;have hcs : ∀ w1, Calls Tryz.prog 227 #[.string a, .int .i64 (-(-(m : Int)))] w1 fun e w' => e = .returned (.string (sN (bN a / 2 ^ m))) ∧ Below w1.heap.size w1 w' := fun w1 => by
  rw [e2]; exact ri a m w1 Dq Dq
 cases s with
 | false =>
  have e3 : iv false (sN (bN a / 2 ^ m)) = iv false a / 2 ^ m := by
   unfold iv;rw [ew];simp
  refine aj (N := 47) (l := [.agg #[.bool false, .string a], .int .i64 (-(m : Int))]) Tryz.func197 rfl rfl (by simp) ?_;refine sr ?_;refine dp hh [_,_] ?_;intro b2 w2 hh;refine cj hh ?_;intro b4 w4 hh;refine aa (ah (sr (mI ?_)));refine dE (aa (cF (ak (ai (sr (mI ?_))))));refine ku rfl rfl Dr ?_;refine aI (aa (ah ?_));rw [e1];refine bg 10 [[(2, none)], [(18, some 0)], [(1, none)], [(20, some 2)], [(19, some 1), (21, some 3)], [(2, none)], [(23, some 5)], [(22, some 4), (24, some 6)], [(25, some 7)], []] [(9, 5), (8, 26), (7, 25), (6, 24), (5, 23), (4, 22), (3, 21), (2, 20), (1, 19), (0, 18)] hh mixed Dt ?_;refine dX ?_;refine fT 1 ?_;refine fW ?_;refine bo (i := 3) (fun ρ1 w1 hj hR => oC (show ρ1 20 = Value.int _ _ from hR.1) Dq Dq) ?_;refine dC (fun _ hj => hcs _) ?_;refine dX ?_;refine fT 1 ?_;refine dB [_,_] ?_;refine dC (fun _ hj => dr false (sN (bN a / 2 ^ m)) _) ?_;refine bj (i := 9) (cL _ 63 _) cL.ext (fun ρ1 w1 hj hR => fV aC.out hj.bl (fun v w2 h hb => ⟨hb, h⟩)) ?_;refine bq ?_;intro f W hJ hV;have hb_4 := hJ.bl;obtain ⟨v5, v26, v25, v24, v23, v22, v21, v20, v19, v18, _⟩ := hV;obtain ⟨b5, e5, hl5, hc5⟩ : cL _ _ _ (f 9) W := v5;replace hh := hJ.newVar hh hl5 hc5
  refine a6 (bk (ae e5 (ae v26 (ae v25 (ae v24 (ae v23 (ae v22 (ae v21 (ae v20 (ae v19 (ae v18 a5))))))))))) ?_;dsimp only [cJ];clear e5 hJ;rw [e3];refine bD hh 0 [_,_] ?_;intro ws hh;replace hh : Hp _ (.blk _ _ [_, _] _ :: _) _ := hh;refine aa (ah (sr (bG ?_)));refine bI hh 2 ?_;refine mB ?_;first | refine gS ?_ | (refine gT ?_; refine bG ?_) | refine gV ?_
  first | refine gS ?_ | (refine gT ?_; refine bI hh 2 ?_) | refine gV ?_
  refine cb Dr rfl rfl Dr ?_;first | refine gS ?_ | (refine gT ?_; refine ct ?_) | refine gV ?_
  first | refine cW ?_ | refine cX ?_
  refine mB ?_;first | refine gS ?_ | (refine gT ?_; refine bG ?_) | refine gV ?_
  first | refine gS ?_ | (refine gT ?_; refine bI hh 2 ?_) | refine gV ?_
  refine cb Dr rfl rfl Dr ?_;first | refine gS ?_ | (refine gT ?_; refine mI ?_) | refine gV ?_
  first | refine gS ?_ | (refine gT ?_; refine mD rfl Dq Dq Dr ?_) | refine gV ?_
  first | refine gS ?_ | (refine gT ?_; refine a3 ?_) | refine gV ?_
  first | refine cW ?_ | refine cX ?_
  refine aa (cF (ak (ai (sr ?_))));refine cU hh 0 [_,_] ?_;refine bD hh 1 [_,_] ?_;intro ws hh;replace hh : Hp _ (_ :: .blk _ _ [_, _] _ :: _) _ := hh;refine aa (al ?_);refine ik (aN rfl (aO (vs := [_, _]) aC.out (hh.aw (i := 1) (n := 2) rfl rfl) rfl) a7) ?_;exact ⟨rfl, hh.below⟩
 | true =>
  have hb := fq a;have e4 : iv true (sN (bN a / 2 ^ m)) = -((bN a / 2 ^ m : Nat) : Int) := by
   unfold iv;rw [ew, if_pos rfl]
  have e5 : iv true a = -(bN a : Int) := by unfold iv; rw [if_pos rfl]
  by_cases hz : bN a = 0
  ·have e3 : iv true (sN (bN a / 2 ^ m)) = iv true a / 2 ^ m := by
    rw [e4, e5, hz]; simp
   refine aj (N := 47) (l := [.agg #[.bool true, .string a], .int .i64 (-(m : Int))]) Tryz.func197 rfl rfl (by simp) ?_;refine sr ?_;refine dp hh [_,_] ?_;intro b2 w2 hh;refine cj hh ?_;intro b4 w4 hh;refine aa (ah (sr (mI ?_)));refine dE (aa (cF (ak (ai (sr (mI ?_))))));refine ku rfl rfl Dr ?_;refine aI (aa (ah ?_));rw [e1];refine bg 10 [[(2, none)], [(18, some 0)], [(1, none)], [(20, some 2)], [(19, some 1), (21, some 3)], [(2, none)], [(23, some 5)], [(22, some 4), (24, some 6)], [(25, some 7)], []] [(9, 5), (8, 26), (7, 25), (6, 24), (5, 23), (4, 22), (3, 21), (2, 20), (1, 19), (0, 18)] hh mixed Dt ?_;refine dX ?_;refine fT 1 ?_;refine fW ?_;refine bo (i := 3) (fun ρ1 w1 hj hR => oC (show ρ1 20 = Value.int _ _ from hR.1) Dq Dq) ?_;refine dC (fun _ hj => hcs _) ?_;refine dX ?_;refine fT 1 ?_;refine dB [_,_] ?_;refine dC (fun _ hj => dr true (sN (bN a / 2 ^ m)) _) ?_;refine bj (i := 9) (cL _ 63 _) cL.ext (fun ρ1 w1 hj hR => fV aC.out hj.bl (fun v w2 h hb => ⟨hb, h⟩)) ?_;refine bq ?_;intro f W hJ hV;have hb_4 := hJ.bl;obtain ⟨v5, v26, v25, v24, v23, v22, v21, v20, v19, v18, _⟩ := hV;obtain ⟨b5, e5, hl5, hc5⟩ : cL _ _ _ (f 9) W := v5;replace hh := hJ.newVar hh hl5 hc5
   refine a6 (bk (ae e5 (ae v26 (ae v25 (ae v24 (ae v23 (ae v22 (ae v21 (ae v20 (ae v19 (ae v18 a5))))))))))) ?_;dsimp only [cJ];clear e5 hJ;rw [e3];refine bD hh 0 [_,_] ?_;intro ws hh;replace hh : Hp _ (.blk _ _ [_, _] _ :: _) _ := hh;refine aa (ah (sr (bG ?_)));refine bI hh 2 ?_;refine mB ?_;first | refine gS ?_ | (refine gT ?_; refine bG ?_) | refine gV ?_
   first | refine gS ?_ | (refine gT ?_; refine bI hh 2 ?_) | refine gV ?_
   refine br rfl rfl ?_;refine bB hh (jd a _ Dq) rfl ?_;intro w32 hh;rw [hz, iO];first | refine gS ?_ | (refine gT ?_; refine ct ?_) | refine gV ?_
   first | refine cW ?_ | refine cX ?_
   refine mB ?_;first | refine gS ?_ | (refine gT ?_; refine bG ?_) | refine gV ?_
   first | refine gS ?_ | (refine gT ?_; refine bI hh 2 ?_) | refine gV ?_
   refine cb Dr rfl rfl Dr ?_;first | refine gS ?_ | (refine gT ?_; refine mI ?_) | refine gV ?_
   first | refine gS ?_ | (refine gT ?_; refine mD rfl Dq Dq Dr ?_) | refine gV ?_
   first | refine gS ?_ | (refine gT ?_; refine a3 ?_) | refine gV ?_
   first | refine cW ?_ | refine cX ?_
   refine aa (cF (ak (ai (sr ?_))));refine cU hh 0 [_,_] ?_;refine bD hh 1 [_,_] ?_;intro ws hh;replace hh : Hp _ (_ :: .blk _ _ [_, _] _ :: _) _ := hh;refine aa (al ?_);refine ik (aN rfl (aO (vs := [_, _]) aC.out (hh.aw (i := 1) (n := 2) rfl rfl) rfl) a7) ?_;exact ⟨rfl, hh.below⟩
  ·have hbp := lF hz;by_cases hd : 2 ^ m ∣ bN a
   ·have e3 : iv true (sN (bN a / 2 ^ m)) = iv true a / 2 ^ m := by
     rw [e4, e5]; exact sF _ _ hd
    have htz := (xI hz).1 hd;refine aj (N := 47) (l := [.agg #[.bool true, .string a], .int .i64 (-(m : Int))]) Tryz.func197 rfl rfl (by simp) ?_;refine sr ?_;refine dp hh [_,_] ?_;intro b2 w2 hh;refine cj hh ?_;intro b4 w4 hh;refine aa (ah (sr (mI ?_)));refine dE (aa (cF (ak (ai (sr (mI ?_))))));refine ku rfl rfl Dr ?_;refine aI (aa (ah ?_));rw [e1];refine bg 10 [[(2, none)], [(18, some 0)], [(1, none)], [(20, some 2)], [(19, some 1), (21, some 3)], [(2, none)], [(23, some 5)], [(22, some 4), (24, some 6)], [(25, some 7)], []] [(9, 5), (8, 26), (7, 25), (6, 24), (5, 23), (4, 22), (3, 21), (2, 20), (1, 19), (0, 18)] hh mixed Dt ?_;refine dX ?_;refine fT 1 ?_;refine fW ?_;refine bo (i := 3) (fun ρ1 w1 hj hR => oC (show ρ1 20 = Value.int _ _ from hR.1) Dq Dq) ?_;refine dC (fun _ hj => hcs _) ?_;refine dX ?_;refine fT 1 ?_;refine dB [_,_] ?_;refine dC (fun _ hj => dr true (sN (bN a / 2 ^ m)) _) ?_;refine bj (i := 9) (cL _ 63 _) cL.ext (fun ρ1 w1 hj hR => fV aC.out hj.bl (fun v w2 h hb => ⟨hb, h⟩)) ?_;refine bq ?_;intro f W hJ hV;have hb_4 := hJ.bl;obtain ⟨v5, v26, v25, v24, v23, v22, v21, v20, v19, v18, _⟩ := hV;obtain ⟨b5, e5, hl5, hc5⟩ : cL _ _ _ (f 9) W := v5
    replace hh := hJ.newVar hh hl5 hc5;refine a6 (bk (ae e5 (ae v26 (ae v25 (ae v24 (ae v23 (ae v22 (ae v21 (ae v20 (ae v19 (ae v18 a5))))))))))) ?_;dsimp only [cJ];clear e5 hJ;rw [e3];refine bD hh 0 [_,_] ?_;intro ws hh;replace hh : Hp _ (.blk _ _ [_, _] _ :: _) _ := hh;refine aa (ah (sr (bG ?_)));refine bI hh 2 ?_;refine mB ?_;first | refine gS ?_ | (refine gT ?_; refine bG ?_) | refine gV ?_
    first | refine gS ?_ | (refine gT ?_; refine bI hh 2 ?_) | refine gV ?_
    refine br rfl rfl ?_;refine bB hh (jd a _ Dq) rfl ?_;intro w32 hh;first | refine gS ?_ | (refine gT ?_; refine ct ?_) | refine gV ?_
    first | refine cW ?_ | refine cX ?_
    refine mB ?_;first | refine gS ?_ | (refine gT ?_; refine bG ?_) | refine gV ?_
    first | refine gS ?_ | (refine gT ?_; refine bI hh 2 ?_) | refine gV ?_
    refine br rfl rfl ?_;refine bB hh (hU a _ Dq (hT.hp hh)) rfl ?_;intro w38 hh;first | refine gS ?_ | (refine gT ?_; refine mI ?_) | refine gV ?_
    first | refine gS ?_ | (refine gT ?_; refine mD rfl Dq Dq Dr ?_) | refine gV ?_
    first | refine gS ?_ | (refine gT ?_; refine a3 ?_) | refine gV ?_
    first | refine cW ?_ | refine cX ?_
    refine aa (cF (ak (ai (sr ?_))));refine cU hh 0 [_,_] ?_;refine bD hh 1 [_,_] ?_;intro ws hh;replace hh : Hp _ (_ :: .blk _ _ [_, _] _ :: _) _ := hh;refine aa (al ?_);refine ik (aN rfl (aO (vs := [_, _]) aC.out (hh.aw (i := 1) (n := 2) rfl rfl) rfl) a7) ?_;exact ⟨rfl, hh.below⟩
   ·have e3 : iv true (sN (bN a / 2 ^ m)) - 1 = iv true a / 2 ^ m := by
     rw [e4, e5]; exact rk _ _ hd
    have htz : tz (bN a) < m := Nat.lt_of_not_le fun h => hd ((xI hz).2 h);have hsz : (iM (iv true (sN (bN a / 2 ^ m)))).size ≤ 100000000 := by
     have := lg (bN a) m;rw [ec, ig, ew]; omega
    have hsub : ∀ w1, Calls Tryz.prog 229 #[.agg #[.bool (iN (iv true (sN (bN a / 2 ^ m)))), .string (iM (iv true (sN (bN a / 2 ^ m))))], .agg #[.bool (iN 1), .string (iM 1)]] w1 fun e w' => e = .returned (.agg #[.bool (iN (iv true a / 2 ^ m)), .string (iM (iv true a / 2 ^ m))]) ∧ Below w1.heap.size w1 w' := fun w1 => by
     have := ua (iN (iv true (sN (bN a / 2 ^ m)))) (iN 1) (iM (iv true (sN (bN a / 2 ^ m)))) (iM 1) w1 hsz (by rw [ec, Int.natAbs_one, sS]; omega);rw [fE, fE, e3] at this;exact this
    refine aj (N := 47) (l := [.agg #[.bool true, .string a], .int .i64 (-(m : Int))]) Tryz.func197 rfl rfl (by simp) ?_;refine sr ?_;refine dp hh [_,_] ?_;intro b2 w2 hh;refine cj hh ?_;intro b4 w4 hh;refine aa (ah (sr (mI ?_)));refine dE (aa (cF (ak (ai (sr (mI ?_))))));refine ku rfl rfl Dr ?_;refine aI (aa (ah ?_));rw [e1];refine bg 10 [[(2, none)], [(18, some 0)], [(1, none)], [(20, some 2)], [(19, some 1), (21, some 3)], [(2, none)], [(23, some 5)], [(22, some 4), (24, some 6)], [(25, some 7)], []] [(9, 5), (8, 26), (7, 25), (6, 24), (5, 23), (4, 22), (3, 21), (2, 20), (1, 19), (0, 18)] hh mixed Dt ?_;refine dX ?_;refine fT 1 ?_;refine fW ?_;refine bo (i := 3) (fun ρ1 w1 hj hR => oC (show ρ1 20 = Value.int _ _ from hR.1) Dq Dq) ?_;refine dC (fun _ hj => hcs _) ?_;refine dX ?_;refine fT 1 ?_;refine dB [_,_] ?_;refine dC (fun _ hj => dr true (sN (bN a / 2 ^ m)) _) ?_;refine bj (i := 9) (cL _ 63 _) cL.ext (fun ρ1 w1 hj hR => fV aC.out hj.bl (fun v w2 h hb => ⟨hb, h⟩)) ?_;refine bq ?_;intro f W hJ hV;have hb_4 := hJ.bl;obtain ⟨v5, v26, v25, v24, v23, v22, v21, v20, v19, v18, _⟩ := hV;obtain ⟨b5, e5, hl5, hc5⟩ : cL _ _ _ (f 9) W := v5;replace hh := hJ.newVar hh hl5 hc5
    refine a6 (bk (ae e5 (ae v26 (ae v25 (ae v24 (ae v23 (ae v22 (ae v21 (ae v20 (ae v19 (ae v18 a5))))))))))) ?_;dsimp only [cJ];clear e5 hJ;refine bD hh 0 [_,_] ?_;intro ws hh;replace hh : Hp _ (.blk _ _ [_, _] _ :: _) _ := hh;refine aa (ah (sr (bG ?_)));refine bI hh 2 ?_;refine mB ?_;first | refine gS ?_ | (refine gT ?_; refine bG ?_) | refine gV ?_
    first | refine gS ?_ | (refine gT ?_; refine bI hh 2 ?_) | refine gV ?_
    refine br rfl rfl ?_;refine bB hh (jd a _ Dq) rfl ?_;intro w32 hh;first | refine gS ?_ | (refine gT ?_; refine ct ?_) | refine gV ?_
    first | refine cW ?_ | refine cX ?_
    refine mB ?_;first | refine gS ?_ | (refine gT ?_; refine bG ?_) | refine gV ?_
    first | refine gS ?_ | (refine gT ?_; refine bI hh 2 ?_) | refine gV ?_
    refine br rfl rfl ?_;refine bB hh (hU a _ Dq (hT.hp hh)) rfl ?_;intro w38 hh;first | refine gS ?_ | (refine gT ?_; refine mI ?_) | refine gV ?_
    first | refine gS ?_ | (refine gT ?_; refine mD rfl Dq Dq Dr ?_) | refine gV ?_
    first | refine gS ?_ | (refine gT ?_; refine a3 ?_) | refine gV ?_
    first | refine cW ?_ | refine cX ?_
    refine aa (cT (ah ?_));refine bg 2 [[(5, none)], []] [(1, 44), (0, 43)] hh mixed Dt ?_;refine fX 0 [_,_] ?_;refine dC (fun _ hj => mi 1 _ Dq Dq) ?_;refine bq ?_;intro f W hJ hV;have hb_6 := hJ.bl;obtain ⟨v44, v43, _⟩ := hV;replace hh := hJ.hp;refine a6 (bk (ae v44 (ae v43 a5))) ?_;dsimp only [cJ];clear hJ;refine bB hh (hsub _) rfl ?_;intro w45 hh;refine bD hh 1 [_,_] ?_;intro ws hh;replace hh : Hp _ (_ :: .blk _ _ [_, _] _ :: _) _ := hh;refine aa (al (aH ?_));refine ik (aN rfl (aO (vs := [_, _]) aC.out (hh.aw (i := 1) (n := 2) rfl rfl) rfl) a7) ?_;exact ⟨rfl, hh.below⟩
end Go.Proofs.YteeckcbbnegmcaaGreatDoor
namespace Go.Proofs.YteeckcbbnegmcaaGreatDoor
open Go.RowKit
theorem BG : (2 : Rat) ≠ 0 := by decide
theorem two_pos (k : Int) : (0 : Rat) < 2 ^ k := Rat.zpow_pos Dr
theorem iy (i p : Int) : (Dyadic.ofIntWithPrec i p).toRat = i * 2 ^ (-p) := Dyadic.toRat_ofIntWithPrec_eq_mul_two_pow
theorem qL (i p : Int) (n : Nat) : Dyadic.ofIntWithPrec (i * 2 ^ n) (p + n) = Dyadic.ofIntWithPrec i p := by
 rw [← Int.shiftLeft_eq]; exact Dyadic.ofIntWithPrec_shiftLeft_add
theorem jl (i : Int) {p q : Int} {n : Nat} (h : q = p + n) : Dyadic.ofIntWithPrec i p = Dyadic.ofIntWithPrec (i * 2 ^ n) q := by
 subst h; exact (qL i p n).symm
theorem rm (i j p : Int) : Dyadic.ofIntWithPrec i p + Dyadic.ofIntWithPrec j p = Dyadic.ofIntWithPrec (i + j) p := by
 rw [← Dyadic.toRat_inj, Dyadic.toRat_add, iy, iy, iy, Rat.intCast_add, Rat.add_mul]
theorem vO (i j p q : Int) : Dyadic.ofIntWithPrec i p * Dyadic.ofIntWithPrec j q = Dyadic.ofIntWithPrec (i * j) (p + q) := by
 rw [← Dyadic.toRat_inj, Dyadic.toRat_mul, iy, iy, iy, Rat.intCast_mul, Int.neg_add, Rat.zpow_add BG];grind
theorem rz (i j p : Int) : Dyadic.ofIntWithPrec i p < Dyadic.ofIntWithPrec j p ↔ i < j := by
 rw [← Dyadic.toRat_lt_toRat_iff, iy, iy];rw [← Rat.intCast_lt_intCast];constructor
 ·intro h;exact Rat.lt_of_mul_lt_mul_right h (Rat.le_of_lt (two_pos _))
 ·intro h;exact Rat.mul_lt_mul_of_pos_right h (two_pos _)
theorem lk (p : Int) : Dyadic.ofIntWithPrec 0 p = 0 := rfl
theorem AG {i j p : Int} (h : Dyadic.ofIntWithPrec i p = Dyadic.ofIntWithPrec j p) : i = j := by
 rcases Int.lt_trichotomy i j with h1 | h1 | h1
 ·rw [← rz i j p, h] at h1;exact absurd h1 (by rw [rz]; omega)
 ·exact h1
 ·rw [← rz j i p, h] at h1;exact absurd h1 (by rw [rz]; omega)
theorem jx {i p : Int} (h : Dyadic.ofIntWithPrec i p = 0) : i = 0 := AG (p := p) (by rw [h]; rfl)
theorem vj (n k : Int) (h : n % 2 = 1) : Dyadic.ofOdd n k h = Dyadic.ofIntWithPrec n k := Dyadic.ofOdd_eq_ofIntWithPrec
theorem u7 {i p : Int} (h : i ≠ 0) : Dyadic.ofIntWithPrec i p = .ofOdd (i >>> i.trailingZeros) (p - i.trailingZeros) (Int.shiftRight_trailingZeros_mod_two h) := by
 rw [Dyadic.ofIntWithPrec, dif_neg h]
structure NR where
 neg : Bool
 bM : ByteArray
 e : Int
def NR.cells (a : NR) : List Value := [.bool a.neg, .string a.bM, .int .i64 a.e]
theorem NR.len (a : NR) : a.cells.length = 3 := rfl
def NR.i (a : NR) : Int := iv a.neg a.bM
def NR.d (a : NR) : Dyadic := Dyadic.ofIntWithPrec a.i (-a.e)
def nR : Dyadic → NR
 | .zero => ⟨false, ByteArray.mk #[], 0⟩
 | .ofOdd n k _ => ⟨iN n, iM n, -k⟩
theorem kX : nR 0 = ⟨false, ByteArray.mk #[], 0⟩ := rfl
theorem dR (x : Dyadic) : (nR x).d = x := by
 cases x with
 | zero => rfl
 | ofOdd n k h =>
  simp only [nR, NR.d, NR.i, fE, Int.neg_neg];exact (vj n k h).symm
theorem BV {x y : Dyadic} : nR x = nR y ↔ x = y := ⟨fun h => by rw [← dR x, h, dR], fun h => by rw [h]⟩
theorem Ct (s : Bool) (a : ByteArray) : (iv s a).trailingZeros = tz (bN a) := by
 unfold iv;split
 ·rw [Int.trailingZeros_neg]; rfl
 ·rfl
theorem vN (s : Bool) (a : ByteArray) : iv s a = 0 ↔ bN a = 0 := by
 have := ig s a;omega
theorem mO {s : Bool} {a : ByteArray} {e : Int} (h : iv s a ≠ 0) : nR (Dyadic.ofIntWithPrec (iv s a) (-e)) = ⟨iN (iv s a / 2 ^ tz (bN a)), iM (iv s a / 2 ^ tz (bN a)), e + tz (bN a)⟩ := by
 rw [u7 h, nR, Int.shiftRight_eq_div_pow, Ct];have e1 : -(-e - (tz (bN a) : Int)) = e + tz (bN a) := Dq;rw [e1, Int.natCast_pow]
 rfl
def Sz (k : Nat) (x : Dyadic) : Prop := ∃ i : Int, x = Dyadic.ofIntWithPrec i k ∧ i.natAbs < 2 ^ (2 * k)
theorem Sz.zero (k : Nat) : Sz k 0 := ⟨0, rfl, by simpa using Nat.pow_pos Dq⟩
theorem Sz.mono {k l : Nat} {x : Dyadic} (h : Sz k x) (hl : k ≤ l) : Sz l x := by
 obtain ⟨i, rfl, hi⟩ := h;refine ⟨i * 2 ^ (l - k), jl i Dq, ?_⟩;rw [Int.natAbs_mul, Int.natAbs_pow];have h1 : i.natAbs * 2 ^ (l - k) < 2 ^ (2 * k) * 2 ^ (l - k) := Nat.mul_lt_mul_of_pos_right hi (Nat.pow_pos Dq);rw [← Nat.pow_add] at h1;exact Nat.lt_of_lt_of_le h1 (Nat.pow_le_pow_right Dq Dq)
theorem Sz.add {k : Nat} {x y : Dyadic} (hx : Sz k x) (hy : Sz k y) : Sz (k + 1) (x + y) := by
 obtain ⟨i, rfl, hi⟩ := hx;obtain ⟨j, rfl, hj⟩ := hy;rw [rm];refine ⟨(i + j) * 2 ^ 1, jl _ Dq, ?_⟩;have h1 : 2 ^ (2 * (k + 1)) = 4 * 2 ^ (2 * k) := by rw [show 2 * (k + 1) = 2 * k + 2 by omega, Nat.pow_add]; omega
 rw [h1];omega
theorem Sz.mul {k l : Nat} {x y : Dyadic} (hx : Sz k x) (hy : Sz l y) : Sz (k + l) (x * y) := by
 obtain ⟨i, rfl, hi⟩ := hx;obtain ⟨j, rfl, hj⟩ := hy;rw [vO];refine ⟨i * j, by rw [Int.natCast_add], ?_⟩;rw [Int.natAbs_mul, Nat.mul_add, Nat.pow_add];exact Nat.mul_lt_mul'' hi hj
theorem mu {i : Int} (h : i ≠ 0) : 2 ^ i.trailingZeros ≤ i.natAbs := by
 have h1 := Int.two_pow_trailingZeros_dvd h;have h2 := Int.natAbs_dvd_natAbs.2 h1;rw [Int.natAbs_pow] at h2;exact Nat.le_of_dvd Dq h2
theorem Sz.nr {k : Nat} {x : Dyadic} (h : Sz k x) : (nR x).bM.size ≤ (2 * k + 7) / 8 ∧ -(k : Int) ≤ (nR x).e ∧ (nR x).e ≤ k := by
 obtain ⟨i, rfl, hi⟩ := h;by_cases h0 : i = 0
 ·subst h0;rw [lk, kX];exact ⟨Nat.zero_le _, (by omega : -(k : Int) ≤ 0), (by omega : (0 : Int) ≤ k)⟩
 ·have h2 := mu h0;rw [u7 h0, nR];simp only;refine ⟨?_, Dq, ?_⟩
  ·rw [ec];have : bz (i >>> i.trailingZeros).natAbs ≤ 2 * k := by
    apply dm;refine Nat.lt_of_le_of_lt ?_ hi;rw [Int.shiftRight_eq_div_pow];exact Int.natAbs_ediv_le_natAbs _ _
   omega
  ·have h3 : 2 ^ i.trailingZeros < 2 ^ (2 * k) := Nat.lt_of_le_of_lt h2 hi;have := (Nat.pow_lt_pow_iff_right Dq).1 h3;omega
theorem Sz.raw {a : NR} {m E : Nat} (hm : 8 * a.bM.size ≤ m) (h1 : -(E : Int) ≤ a.e) (h2 : a.e ≤ E) : Sz (m + E) a.d := by
 refine ⟨a.i * 2 ^ (a.e + m + E).toNat, jl _ Dq, ?_⟩;have h3 : a.i.natAbs < 2 ^ m := by
  rw [NR.i, ig];refine Nat.lt_of_lt_of_le (db _) (Nat.pow_le_pow_right Dq ?_);have := fq a.bM;omega
 rw [Int.natAbs_mul, Int.natAbs_pow];have h4 := Nat.mul_lt_mul_of_pos_right h3 (Nat.pow_pos (n := (a.e + m + E).toNat) (show 0 < 2 by omega));rw [← Nat.pow_add] at h4;exact Nat.lt_of_lt_of_le h4 (Nat.pow_le_pow_right Dq Dq)
def vn (i n : Int) : Int := if 0 ≤ n then i * 2 ^ n.toNat else i / 2 ^ (-n).toNat
theorem yw (n : Int) : vn 0 n = 0 := by unfold vn; split <;> simp
def cC : Dyadic → Int → Int
 | .zero, _ => 0
 | .ofOdd n k _, p => vn n (p - k)
def dh : Dyadic → Dyadic → Int
 | .zero, .zero => 0
 | .zero, .ofOdd _ k _ => k
 | .ofOdd _ k _, .zero => k
 | .ofOdd _ k _, .ofOdd _ l _ => max k l
theorem kg (n k p : Int) (h : n % 2 = 1) (hp : k ≤ p) : Dyadic.ofIntWithPrec (cC (.ofOdd n k h) p) p = .ofOdd n k h := by
 simp only [cC];rw [vj, vn, if_pos Dq];exact (jl n Dq).symm
theorem B0 (x y : Dyadic) : Dyadic.ofIntWithPrec (cC x (dh x y)) (dh x y) = x := by
 cases x with
 | zero => rfl
 | ofOdd n k h =>
  cases y with
  | zero => exact kg _ _ _ _ (Int.le_refl _)
  | ofOdd m l g => exact kg _ _ _ _ (Int.le_max_left _ _)
theorem B9 (x y : Dyadic) : Dyadic.ofIntWithPrec (cC y (dh x y)) (dh x y) = y := by
 cases y with
 | zero => rfl
 | ofOdd n k h =>
  cases x with
  | zero => exact kg _ _ _ _ (Int.le_refl _)
  | ofOdd m l g => exact kg _ _ _ _ (Int.le_max_right _ _)
theorem Ah (x y : Dyadic) : Dyadic.ofIntWithPrec (cC x (dh x y) + cC y (dh x y)) (dh x y) = x + y := by
 rw [← rm, B0, B9]
theorem yi (i n : Int) : bz (vn i n).natAbs ≤ bz i.natAbs + n.toNat := by
 unfold vn;split
 ·rw [Int.natAbs_mul, Int.natAbs_pow];exact lP _ _
 ·have : bz (i / 2 ^ (-n).toNat).natAbs ≤ bz i.natAbs := dm (Nat.lt_of_le_of_lt (Int.natAbs_ediv_le_natAbs _ _) (db _));omega
theorem uY (x y : Dyadic) (E : Int) (h1 : -E ≤ (nR x).e ∧ (nR x).e ≤ E) (h2 : -E ≤ (nR y).e ∧ (nR y).e ≤ E) : -E ≤ dh x y ∧ dh x y ≤ E := by
 cases x <;> cases y <;> simp only [nR, dh] at * <;> omega
theorem oW (x : Dyadic) (p : Int) : bz (cC x p).natAbs ≤ 8 * (nR x).bM.size + (p + (nR x).e).toNat := by
 cases x with
 | zero => simp [cC, iO]
 | ofOdd n k h =>
  have h1 := yi n (p - k);have h2 := fq (iM n);rw [iM, ew] at h2;simp only [cC, nR];rw [show p + -k = p - k by omega];rw [← iM] at h2;omega
end Go.Proofs.YteeckcbbnegmcaaGreatDoor
/- Several texts in one: Dyad, DyadB, DyadC, CmpD. -/
namespace Go.Proofs.YteeckcbbnegmcaaGreatDoor
open Go.RowKit
variable {ro : Mode}
theorem vy {P : Program} {t : TypeId} {n by' : Nat} {zc : List Value} {cs : Array Value} {off : Nat} {v : Value} (ht : cZ P t = some (n, false, by', zc)) (hv : cs[off]? = some v) (w : World) : (part t cs off).run P w = .ok v w := by
 simp [part, ic ht, hv]
theorem AU {P : Program} {t : TypeId} {n by' : Nat} {zc : List Value} {cs vs : Array Value} {off : Nat} (ht : cZ P t = some (n, true, by', zc)) (hv : cs.extract off (off + n) = vs) (w : World) : (part t cs off).run P w = .ok (.agg vs) w := by
 simp [part, ic ht, dV ht, hv]
theorem CS (n : Nat) (a b : Bool) (w : World) : (Op.equalIn (n + 1) 4 (.bool a) (.bool b)).run Tryz.prog w = .ok (a == b) w := by
 simp [Op.equalIn, run_underlying Tryz.underlying4]
theorem Cu (n : Nat) (a b : ByteArray) (w : World) : (Op.equalIn (n + 1) 9 (.string a) (.string b)).run Tryz.prog w = .ok (a == b) w := by
 simp [Op.equalIn, run_underlying Tryz.underlying9]
theorem CN (n : Nat) (a b : Int) (w : World) : (Op.equalIn (n + 1) 3 (.int .i64 a) (.int .i64 b)).run Tryz.prog w = .ok (a == b) w := by
 simp [Op.equalIn, run_underlying Tryz.underlying3]
theorem eq_int (n : Nat) (s s' : Bool) (a a' : ByteArray) (w : World) : (Op.equalIn (n + 2) 63 (.agg #[.bool s, .string a]) (.agg #[.bool s', .string a'])).run Tryz.prog w = .ok (s == s' && a == a') w := by
 have h1 := fun (x : Bool) (y : ByteArray) => vy (P := Tryz.prog) (cs := #[.bool x, .string y]) (off := 0) (aC.out (P := Tryz.prog) (t := 4)) rfl;have h2 := fun (x : Bool) (y : ByteArray) => vy (P := Tryz.prog) (cs := #[.bool x, .string y]) (off := 1) (aC.out (P := Tryz.prog) (t := 9)) rfl;rw [Op.equalIn];simp [run_underlying Tryz.underlying63, h1, h2, CS, Cu]
 cases h : s == s' <;> cases h' : a == a' <;> simp_all
theorem ui (n : Nat) (s s' : Bool) (a a' : ByteArray) (e e' : Int) (w : World) : (Op.equalIn (n + 3) 65 (.agg #[.bool s, .string a, .int .i64 e]) (.agg #[.bool s', .string a', .int .i64 e'])).run Tryz.prog w = .ok ((s == s' && a == a') && e == e') w := by
 have h1 := fun (x : Bool) (y : ByteArray) (z : Int) => AU (P := Tryz.prog) (cs := #[.bool x, .string y, .int .i64 z]) (vs := #[.bool x, .string y]) (off := 0) (aC.out (P := Tryz.prog) (t := 63)) rfl;have h2 := fun (x : Bool) (y : ByteArray) (z : Int) => vy (P := Tryz.prog) (cs := #[.bool x, .string y, .int .i64 z]) (off := 2) (aC.out (P := Tryz.prog) (t := 3)) rfl;rw [Op.equalIn];simp [run_underlying Tryz.underlying65, h1, h2, eq_int, CN]
 cases h : s == s' <;> cases h' : a == a' <;> cases h2 : e == e' <;> simp_all
section
variable {ρ : Rf} {w : World} {d : Option Nat} {ty u : TypeId} {pos : String} {af : Array Edge} {g : Option (Nat × Bool)} {x y : Operand} {s s' : Bool} {a a' : ByteArray} {e e' : Int}
theorem xH {a b : ByteArray} : (a == b) = true ↔ a = b := by
 have : (a == b) = (a.data == b.data) := rfl;rw [this, beq_iff_eq];exact ⟨fun h => by cases a; cases b; simp_all, fun h => by rw [h]⟩
theorem lz : ((s == s' && a == a') && e == e') = true ↔ NR.mk s a e = NR.mk s' a' e' := by
 rw [Bool.and_eq_true, Bool.and_eq_true, beq_iff_eq, xH, beq_iff_eq, NR.mk.injEq, and_assoc]
theorem AM {r : Bool} (hx : ev ρ x = .agg #[.bool s, .string a, .int .i64 e]) (hy : ev ρ y = .agg #[.bool s', .string a', .int .i64 e']) (hr : ((s == s' && a == a') && e == e') = r) :
  (execOp (ev ρ) ⟨d, .binOp .eql 65 x y u, ty, pos, af, g⟩).run Tryz.prog w = .ok (.value (.bool r)) w := by
 have h1 : (Op.equal 65 (.agg #[.bool s, .string a, .int .i64 e]) (.agg #[.bool s', .string a', .int .i64 e'])).run Tryz.prog w = .ok r w := by rw [← hr]; exact ui 9997 s s' a a' e e' w
 simp only [execOp, hx, hy];simp [eqGuard, binOp, h1]
theorem AZ {r : Bool} (hx : ev ρ x = .agg #[.bool s, .string a, .int .i64 e]) (hy : ev ρ y = .agg #[.bool s', .string a', .int .i64 e']) (hr : ((s == s' && a == a') && e == e') = r) :
  (execOp (ev ρ) ⟨d, .binOp .neq 65 x y u, ty, pos, af, g⟩).run Tryz.prog w = .ok (.value (.bool !r)) w := by
 have h1 : (Op.equal 65 (.agg #[.bool s, .string a, .int .i64 e]) (.agg #[.bool s', .string a', .int .i64 e'])).run Tryz.prog w = .ok r w := by rw [← hr]; exact ui 9997 s s' a a' e e' w
 simp only [execOp, hx, hy];simp [eqGuard, binOp, h1]
theorem vu (hx : ev ρ x = .agg #[.bool s, .string a, .int .i64 e]) (hy : ev ρ y = .agg #[.bool s', .string a', .int .i64 e']) (h : NR.mk s a e = NR.mk s' a' e') :
  (execOp (ev ρ) ⟨d, .binOp .eql 65 x y u, ty, pos, af, g⟩).run Tryz.prog w = .ok (.value (.bool true)) w := AM hx hy (lz.2 h)
theorem vd (hx : ev ρ x = .agg #[.bool s, .string a, .int .i64 e]) (hy : ev ρ y = .agg #[.bool s', .string a', .int .i64 e']) (h : ¬ NR.mk s a e = NR.mk s' a' e') :
  (execOp (ev ρ) ⟨d, .binOp .eql 65 x y u, ty, pos, af, g⟩).run Tryz.prog w = .ok (.value (.bool false)) w := AM hx hy (by rw [Bool.eq_false_iff]; exact fun h1 => h (lz.1 h1))
theorem j7 (hx : ev ρ x = .agg #[.bool s, .string a, .int .i64 e]) (hy : ev ρ y = .agg #[.bool s', .string a', .int .i64 e']) (h : NR.mk s a e = NR.mk s' a' e') :
  (execOp (ev ρ) ⟨d, .binOp .neq 65 x y u, ty, pos, af, g⟩).run Tryz.prog w = .ok (.value (.bool false)) w := AZ hx hy (lz.2 h)
theorem j8 (hx : ev ρ x = .agg #[.bool s, .string a, .int .i64 e]) (hy : ev ρ y = .agg #[.bool s', .string a', .int .i64 e']) (h : ¬ NR.mk s a e = NR.mk s' a' e') :
  (execOp (ev ρ) ⟨d, .binOp .neq 65 x y u, ty, pos, af, g⟩).run Tryz.prog w = .ok (.value (.bool true)) w := AZ hx hy (r := false) (by rw [Bool.eq_false_iff]; exact fun h1 => h (lz.1 h1))
end
section
variable {N : Nat} {ops : Array Oper} {Q : Kq} {ρ : Rf} {w : World} {rest : List Oper} {d : Nat} {ty u : TypeId} {pos : String} {af : Array Edge} {x y : Operand} {s s' : Bool} {a a' : ByteArray} {e e' : Int}
theorem lL (hx : ev ρ x = .agg #[.bool s, .string a, .int .i64 e]) (hy : ev ρ y = .agg #[.bool s', .string a', .int .i64 e']) (h : NR.mk s a e = NR.mk s' a' e') (hN : d < N) (kk : WL ro Tryz.prog N ops Q rest (cx ρ d (.bool true)) w) :
  WL ro Tryz.prog N ops Q (⟨some d, .binOp .eql 65 x y u, ty, pos, af, none⟩ :: rest) ρ w := aU rfl rfl hN (vu hx hy h) kk
theorem mb (hx : ev ρ x = .agg #[.bool s, .string a, .int .i64 e]) (hy : ev ρ y = .agg #[.bool s', .string a', .int .i64 e']) (h : ¬ NR.mk s a e = NR.mk s' a' e') (hN : d < N) (kk : WL ro Tryz.prog N ops Q rest (cx ρ d (.bool false)) w) :
  WL ro Tryz.prog N ops Q (⟨some d, .binOp .eql 65 x y u, ty, pos, af, none⟩ :: rest) ρ w := aU rfl rfl hN (vd hx hy h) kk
end
theorem k6 (s : Bool) (a : ByteArray) (n : Int) (w : World) (hT : gK w) (ha : a.size ≤ 100000000) (h1 : -1000000000 ≤ n) (h2 : n ≤ 1000000000) :
  Calls Tryz.prog 197 #[.agg #[.bool s, .string a], .int .i64 n] w fun e w' => e = .returned (.agg #[.bool (iN (vn (iv s a) n)), .string (iM (vn (iv s a) n))]) ∧ Below w.heap.size w w' := by
 unfold vn;by_cases h : 0 ≤ n
 ·rw [if_pos h];obtain ⟨m, rfl⟩ := Int.eq_ofNat_of_zero_le h;rw [Int.toNat_natCast];exact tW s a m w ha Dq
 ·rw [if_neg h];obtain ⟨m, hm⟩ := Int.eq_ofNat_of_zero_le (show 0 ≤ -n by omega);rw [hm, Int.toNat_natCast, show n = -(m : Int) by omega];exact uM s a m w hT ha Dq Dq
theorem im (s : Bool) (a : ByteArray) (e : Int) (w : World) (hT : gK w) (ha : a.size ≤ 100000000) (h1 : -1000000000000 ≤ e) (h2 : e ≤ 1000000000000) :
  Calls Tryz.prog 137 #[.agg #[.bool s, .string a], .int .i64 e] w fun r w' => r = .returned (.agg #[.bool (nR (Dyadic.ofIntWithPrec (iv s a) (-e))).neg, .string (nR (Dyadic.ofIntWithPrec (iv s a) (-e))).bM, .int .i64 (nR (Dyadic.ofIntWithPrec (iv s a) (-e))).e]) ∧ Below w.heap.size w w' := by
 have hh := Hp.start w;by_cases h0 : iv s a = 0
 ·rw [h0, lk, kX];refine aj (N := 21) (l := [.agg #[.bool s, .string a], .int .i64 e]) Tryz.func137 rfl rfl (by simp) ?_;refine sr ?_;refine dp hh [_,_] ?_;intro b2 w2 hh;refine cj hh ?_;intro b4 w4 hh;refine aa (ah (sr ?_));refine cU hh 1 [_,_] ?_;refine bB hh (jR s a _) rfl ?_;intro w7 hh;rw [h0];refine cu (aa (cT (sr ?_)));refine eX [_,_,_] ?_;refine bD hh 0 [_,_,_] ?_;intro ws hh;replace hh : Hp _ (.blk _ _ [_, _, _] _ :: _) _ := hh;refine aa (al (aH ?_));refine ik (aN rfl (aO (vs := [_, _, _]) aC.out (hh.aw (i := 0) (n := 3) rfl rfl) rfl) a7) ?_;exact ⟨rfl, hh.below⟩
 ·have hs : (iv s a).sign ≠ 0 := by rw [ne_eq, Int.sign_eq_zero_iff_zero]; exact h0
  rw [mO h0];have hz : bN a ≠ 0 := fun h => h0 ((vN s a).2 h);have htz : tz (bN a) < 8 * a.size + 1 := by
   have := ql a;rw [show (256 : Nat) = 2 ^ 8 from rfl, ← Nat.pow_mul] at this;have := qf hz this;omega
  have hsh : vn (iv s a) (-(tz (bN a) : Int)) = iv s a / 2 ^ tz (bN a) := by
   unfold vn;split
   ·have : tz (bN a) = 0 := Dq;rw [this]; simp
   ·rw [Int.neg_neg, Int.toNat_natCast]
  refine aj (N := 21) (l := [.agg #[.bool s, .string a], .int .i64 e]) Tryz.func137 rfl rfl (by simp) ?_;refine sr ?_;refine dp hh [_,_] ?_;intro b2 w2 hh;refine cj hh ?_;intro b4 w4 hh;refine aa (ah (sr ?_));refine cU hh 1 [_,_] ?_;refine bB hh (jR s a _) rfl ?_;intro w7 hh;refine cu (aa (cF (ak (ai (sr (bG ?_))))));refine bI hh 1 ?_;refine bB hh (hU a _ Dq (hT.hp hh)) rfl ?_;intro w12 hh;refine aI (aa (sr ?_));refine cU hh 1 [_,_] (mI ?_);refine mD rfl Dq Dq Dr ?_;refine bB hh (k6 s a (-(tz (bN a) : Int)) _ (hT.hp hh) ha Dq Dq) rfl ?_;intro w16 hh;rw [hsh];refine mI (mI ?_);refine bO ?_;refine eX [_,_,_] ?_;refine bD hh 0 [_,_,_] ?_;intro ws hh;replace hh : Hp _ (.blk _ _ [_, _, _] _ :: _) _ := hh;refine aa (al ?_);refine ik (aN rfl (aO (vs := [_, _, _]) aC.out (hh.aw (i := 0) (n := 3) rfl rfl) rfl) a7) ?_;exact ⟨rfl, hh.below⟩
def NR.ok (a : NR) : Prop := a.bM.size ≤ 1000000 ∧ -10000000 ≤ a.e ∧ a.e ≤ 10000000
theorem Sz.ok {k : Nat} {x : Dyadic} (h : Sz k x) (hk : k ≤ 3999990) : (nR x).ok := by
 have := h.nr;refine ⟨Dq, Dq, Dq⟩
theorem me (n : Int) (w : World) (hT : gK w) (h1 : -9223372036854775808 ≤ n) (h2 : n ≤ 9223372036854775807) :
  Calls Tryz.prog 50 #[.int .i64 n] w fun r w' => r = .returned (.agg #[.bool (nR (n : Dyadic)).neg, .string (nR (n : Dyadic)).bM, .int .i64 (nR (n : Dyadic)).e]) ∧ Below w.heap.size w w' := by
 have hh := Hp.start w;have hsz : (iM n).size ≤ 100000000 := by
  rw [ec];have : bz n.natAbs ≤ 64 := dm Dq;omega
 have hc : ∀ w1, gK w1 → Calls Tryz.prog 137 #[.agg #[.bool (iN n), .string (iM n)], .int .i64 0] w1 fun r w' => r = .returned (.agg #[.bool (nR (n : Dyadic)).neg, .string (nR (n : Dyadic)).bM, .int .i64 (nR (n : Dyadic)).e]) ∧ Below w1.heap.size w1 w' := fun w1 hT1 => by
  have := im (iN n) (iM n) 0 w1 hT1 hsz Dq Dq;rw [fE] at this;exact this
 refine aj (N := 6) (l := [.int .i64 n]) Tryz.func50 rfl rfl (by simp) ?_;refine sr ?_;refine cj hh ?_;intro b2 w2 hh;refine aa (sr (mI ?_));refine bB hh (mi n _ h1 h2) rfl ?_;intro w4 hh;refine bB hh (hc _ (hT.hp hh)) rfl ?_;intro w5 hh;refine bD hh 0 [_,_,_] ?_;intro ws hh;replace hh : Hp _ (.blk _ _ [_, _, _] _ :: _) _ := hh;refine aa (al ?_);refine ik (aN rfl (aO (vs := [_, _, _]) aC.out (hh.aw (i := 0) (n := 3) rfl rfl) rfl) a7) ?_;exact ⟨rfl, hh.below⟩
theorem ep (a : NR) (w : World) (hT : gK w) (ha : a.bM.size ≤ 100000000) (h1 : -1000000000000 ≤ a.e) (h2 : a.e ≤ 1000000000000) :
  Calls Tryz.prog 132 #[.agg #[.bool a.neg, .string a.bM, .int .i64 a.e]] w fun r w' => r = .returned (.agg #[.bool (nR a.d).neg, .string (nR a.d).bM, .int .i64 (nR a.d).e]) ∧ Below w.heap.size w w' := by
 have hh := Hp.start w;refine aj (N := 8) (l := [.agg #[.bool a.neg, .string a.bM, .int .i64 a.e]]) Tryz.func132 rfl rfl (by simp) ?_;refine sr ?_;refine dp hh [_,_,_] ?_;intro b1 w1 hh;refine cj hh ?_;intro b2 w2 hh;refine aa (sr (bG ?_));refine cU hh 1 [_,_] (bG ?_);refine bI hh 1 ?_;refine bB hh (im a.neg a.bM a.e _ (hT.hp hh) ha h1 h2) rfl ?_;intro w7 hh;refine bD hh 0 [_,_,_] ?_;intro ws hh;replace hh : Hp _ (.blk _ _ [_, _, _] _ :: _) _ := hh;refine aa (al ?_);refine ik (aN rfl (aO (vs := [_, _, _]) aC.out (hh.aw (i := 0) (n := 3) rfl rfl) rfl) a7) ?_;exact ⟨rfl, hh.below⟩
theorem nl (a : NR) (w : World) :
  Calls Tryz.prog 164 #[.agg #[.bool a.neg, .string a.bM, .int .i64 a.e]] w fun r w' => r = .returned (.int .i64 a.i.sign) ∧ Below w.heap.size w w' := by
 have hh := Hp.start w;refine aj (N := 6) (l := [.agg #[.bool a.neg, .string a.bM, .int .i64 a.e]]) Tryz.func164 rfl rfl (by simp) ?_;refine sr ?_;refine dp hh [_,_,_] ?_;intro b1 w1 hh;refine aI (aa (sr (bG ?_)));refine cU hh 0 [_,_] ?_;refine bB hh (jR a.neg a.bM _) rfl ?_;intro w5 hh;refine aI (aa (al ?_));refine cA ?_;exact ⟨rfl, hh.below⟩
theorem pW (s : Int) (a : NR) (w : World) (hT : gK w) (ha : a.bM.size ≤ 100000000) (h1 : -1000000000 ≤ a.e - s) (h2 : a.e - s ≤ 1000000000) :
  Calls Tryz.prog 194 #[.int .i64 s, .agg #[.bool a.neg, .string a.bM, .int .i64 a.e]] w fun r w' => r = .returned (.agg #[.bool (iN (vn a.i (a.e - s))), .string (iM (vn a.i (a.e - s)))]) ∧ Below w.heap.size w w' := by
 have hh := Hp.start w;refine aj (N := 12) (l := [.int .i64 s, .agg #[.bool a.neg, .string a.bM, .int .i64 a.e]]) Tryz.func194 rfl rfl (by simp) ?_;refine sr ?_;refine dp hh [_,_,_] ?_;intro b3 w3 hh;refine cj hh ?_;intro b4 w4 hh;refine aa (sr (bG ?_));refine cU hh 1 [_,_] (bG ?_);refine bI hh 1 ?_;refine mI ?_;refine ek ?_;refine bB hh (k6 a.neg a.bM (a.e - s) _ (hT.hp hh) ha h1 h2) rfl ?_;intro w11 hh;refine bD hh 0 [_,_] ?_;intro ws hh;replace hh : Hp _ (.blk _ _ [_, _] _ :: _) _ := hh;refine aa (al ?_);refine ik (aN rfl (aO (vs := [_, _]) aC.out (hh.aw (i := 0) (n := 2) rfl rfl) rfl) a7) ?_;exact ⟨rfl, hh.below⟩
theorem uG (x : Dyadic) (p : Int) : vn (nR x).i ((nR x).e - -p) = cC x p := by
 cases x with
 | zero => exact yw _
 | ofOdd n k h =>
  simp only [nR, NR.i, fE, cC];congr 1;omega
theorem iu (x : Dyadic) : nR x = ⟨false, ByteArray.mk #[], 0⟩ ↔ x = 0 := by rw [← kX, BV]
theorem lY {a : NR} (h : a.ok) : Sz 18000000 a.d ∧ (nR a.d).bM.size ≤ 1000000 ∧ -18000000 ≤ (nR a.d).e ∧ (nR a.d).e ≤ 18000000 := by
 obtain ⟨h1, h2, h3⟩ := h;refine ⟨Sz.raw (m := 8000000) (E := 10000000) Dq Dq Dq, ?_⟩;by_cases h0 : iv a.neg a.bM = 0
 ·rw [NR.d, NR.i, h0, lk, kX];exact ⟨Nat.zero_le _, by simp, by simp⟩
 ·rw [NR.d, NR.i, mO h0];have hz : bN a.bM ≠ 0 := fun h => h0 ((vN a.neg a.bM).2 h);have htz : tz (bN a.bM) < 8 * a.bM.size + 1 := by
   have := ql a.bM;rw [show (256 : Nat) = 2 ^ 8 from rfl, ← Nat.pow_mul] at this;have := qf hz this;omega
  have hb : bz (iv a.neg a.bM / 2 ^ tz (bN a.bM)).natAbs ≤ 8 * a.bM.size := by
   apply dm;refine Nat.lt_of_le_of_lt (Int.natAbs_ediv_le_natAbs _ _) ?_;rw [ig];exact Nat.lt_of_lt_of_le (db _) (Nat.pow_le_pow_right Dq (fq _))
  simp only;rw [ec];refine ⟨Dq, Dq, Dq⟩
theorem rA (a b : NR) (w : World) (hT : gK w) (ha : a.ok) (hb : b.ok) :
  Calls Tryz.prog 136 #[.agg #[.bool a.neg, .string a.bM, .int .i64 a.e], .agg #[.bool b.neg, .string b.bM, .int .i64 b.e]] w fun r w' => r = .returned (.agg #[.int .i64 (-(dh a.d b.d)), .bool (iN (cC a.d (dh a.d b.d))), .string (iM (cC a.d (dh a.d b.d))), .bool (iN (cC b.d (dh a.d b.d))), .string (iM (cC b.d (dh a.d b.d)))]) ∧ Below w.heap.size w w' := by
 have hh := Hp.start w;obtain ⟨ha1, ha2, ha3⟩ := ha;obtain ⟨hb1, hb2, hb3⟩ := hb;obtain ⟨_, fa1, fa2, fa3⟩ := lY (a := a) ⟨ha1, ha2, ha3⟩;obtain ⟨_, fb1, fb2, fb3⟩ := lY (a := b) ⟨hb1, hb2, hb3⟩;have hP := uY a.d b.d 18000000 Dq Dq;have hcx := fun w1 hT1 => pW (-(dh a.d b.d)) (nR a.d) w1 hT1 Dq Dq Dq;have hcy := fun w1 hT1 => pW (-(dh a.d b.d)) (nR b.d) w1 hT1 Dq Dq Dq;rw [uG] at hcx hcy;by_cases h0 : a.d = 0
 ·have h0' := (iu a.d).2 h0;have hs : (nR b.d).e = -(dh a.d b.d) := by
   rw [h0]
   cases b.d with
   | zero => rfl
   | ofOdd n k h => rfl
  refine aj (N := 41) (l := [.agg #[.bool a.neg, .string a.bM, .int .i64 a.e], .agg #[.bool b.neg, .string b.bM, .int .i64 b.e]]) Tryz.func136 rfl rfl (by simp) ?_;refine sr ?_;refine dp hh [_,_,_] ?_;intro b2 w2 hh;refine dp hh [_,_,_] ?_;intro b3 w3 hh;refine cj hh ?_;intro b4 w4 hh;refine aa (ah ?_);refine bg 3 [[(2, none)], [(7, some 0)], [(3, none)]] [(2, 9), (1, 8), (0, 7)] hh mixed Dt ?_;refine fX 2 [_,_,_] ?_;refine dC (fun _ hj => ep a _ (hT.hp hj.hp) Dq Dq Dq) ?_;refine fX 1 [_,_,_] ?_;refine bq ?_;intro f W hJ hV;have hb_1 := hJ.bl;obtain ⟨v9, v8, v7, _⟩ := hV;replace hh := hJ.hp;refine a6 (bk (ae v9 (ae v8 (ae v7 a5)))) ?_;dsimp only [cJ];clear hJ;refine bB hh (ep b _ (hT.hp hh) Dq Dq Dq) rfl ?_;intro w10 hh;refine bD hh 2 [_,_,_] ?_;intro ws hh;replace hh : Hp _ (_ :: _ :: .blk _ _ [_, _, _] _ :: _) _ := hh;refine bD hh 1 [_,_,_] ?_;intro ws hh;replace hh : Hp _ (_ :: .blk _ _ [_, _, _] _ :: _) _ := hh;refine aa (sr (bG ?_));refine bI hh 2 ?_;refine bG ?_;refine bI hh 1 ?_;refine yH rfl rfl Dr ?_;refine aI (aa (ah (ao (sr ?_))));refine cU hh 2 [_,_,_] ?_;refine eX [_,_,_] ?_
  first | refine lL rfl rfl (by first | assumption | rfl) Dr ?_ | refine mb rfl rfl (by assumption) Dr ?_
  refine aB (aa (cT (ar (bG ?_))));refine bI hh 1 ?_;refine aI (aE (aX (ai (sr ?_))));rw [hs];refine mI ?_;refine eX [_,_,_,_,_] ?_;refine cj hh ?_;intro b6 w6 hh;refine bD hh 0 [_,_,_,_,_] ?_;intro ws hh;replace hh : Hp _ (.blk _ _ [_, _, _, _, _] _ :: _) _ := hh;refine aa (ah ?_);refine bg 9 [[(6, none)], [(30, some 0)], [(2, none)], [(31, some 1), (32, some 2)], [(6, none)], [(34, some 4)], [(3, none)], [(35, some 5), (36, some 6)], [(6, none)]] [(8, 38), (7, 37), (6, 36), (5, 35), (4, 34), (3, 33), (2, 32), (1, 31), (0, 30)] hh mixed Dt ?_;refine dX ?_;refine fT 0 ?_;refine fX 3 [_,_,_] ?_;refine dC (fun _ hj => hcx _ (hT.hp hj.hp)) ?_;refine dX ?_;refine fT 0 ?_;refine fX 2 [_,_,_] ?_;refine dC (fun _ hj => hcy _ (hT.hp hj.hp)) ?_;refine dX ?_;refine bq ?_;intro f W hJ hV;have hb_8 := hJ.bl;obtain ⟨v38, v37, v36, v35, v34, v33, v32, v31, v30, _⟩ := hV;replace hh := hJ.hp;refine a6 (bk (ae v38 (ae v37 (ae v36 (ae v35 (ae v34 (ae v33 (ae v32 (ae v31 (ae v30 a5)))))))))) ?_;dsimp only [cJ];clear hJ;refine bD hh 0 [_,_] ?_;intro ws hh;replace hh : Hp _ (.blk _ _ [_, _, _, _, _] _ :: _) _ := hh;refine bG ?_;refine bD hh 0 [_,_] ?_;intro ws hh
  replace hh : Hp _ (.blk _ _ [_, _, _, _, _] _ :: _) _ := hh;refine aa (sr ?_);refine cU hh 0 [_,_,_,_,_] ?_;refine bD hh 1 [_,_,_,_,_] ?_;intro ws hh;replace hh : Hp _ (_ :: .blk _ _ [_, _, _, _, _] _ :: _) _ := hh;refine aa (al ?_);refine ik (aN rfl (aO (vs := [_, _, _, _, _]) aC.out (hh.aw (i := 1) (n := 5) rfl rfl) rfl) a7) ?_;exact ⟨rfl, hh.below⟩
 ·have h0' : ¬ nR a.d = ⟨false, ByteArray.mk #[], 0⟩ := fun h => h0 ((iu _).1 h);by_cases h1 : b.d = 0
  ·have h1' := (iu b.d).2 h1;have hs : (nR a.d).e = -(dh a.d b.d) := by
    rw [h1]
    cases a.d with
    | zero => rfl
    | ofOdd n k h => rfl
   refine aj (N := 41) (l := [.agg #[.bool a.neg, .string a.bM, .int .i64 a.e], .agg #[.bool b.neg, .string b.bM, .int .i64 b.e]]) Tryz.func136 rfl rfl (by simp) ?_;refine sr ?_;refine dp hh [_,_,_] ?_;intro b2 w2 hh;refine dp hh [_,_,_] ?_;intro b3 w3 hh;refine cj hh ?_;intro b4 w4 hh;refine aa (ah ?_);refine bg 3 [[(2, none)], [(7, some 0)], [(3, none)]] [(2, 9), (1, 8), (0, 7)] hh mixed Dt ?_;refine fX 2 [_,_,_] ?_;refine dC (fun _ hj => ep a _ (hT.hp hj.hp) Dq Dq Dq) ?_;refine fX 1 [_,_,_] ?_;refine bq ?_;intro f W hJ hV;have hb_1 := hJ.bl;obtain ⟨v9, v8, v7, _⟩ := hV;replace hh := hJ.hp;refine a6 (bk (ae v9 (ae v8 (ae v7 a5)))) ?_;dsimp only [cJ];clear hJ;refine bB hh (ep b _ (hT.hp hh) Dq Dq Dq) rfl ?_;intro w10 hh;refine bD hh 2 [_,_,_] ?_;intro ws hh;replace hh : Hp _ (_ :: _ :: .blk _ _ [_, _, _] _ :: _) _ := hh;refine bD hh 1 [_,_,_] ?_;intro ws hh;replace hh : Hp _ (_ :: .blk _ _ [_, _, _] _ :: _) _ := hh;refine aa (sr (bG ?_));refine bI hh 2 ?_;refine bG ?_;refine bI hh 1 ?_;refine yH rfl rfl Dr ?_;refine aI (aa (ah (ao (sr ?_))));refine cU hh 2 [_,_,_] ?_;refine eX [_,_,_] ?_
   first | refine lL rfl rfl (by first | assumption | rfl) Dr ?_ | refine mb rfl rfl (by assumption) Dr ?_
   refine aB (aa (cF (sr ?_)));refine cU hh 1 [_,_,_] ?_;refine eX [_,_,_] ?_;first | refine lL rfl rfl (by first | assumption | rfl) Dr ?_ | refine mb rfl rfl (by assumption) Dr ?_
   refine aB (aa (cT (ar (bG ?_))));refine bI hh 2 ?_;refine aI (aE (aX (ai (sr ?_))));rw [hs];refine mI ?_;refine eX [_,_,_,_,_] ?_;refine cj hh ?_;intro b6 w6 hh;refine bD hh 0 [_,_,_,_,_] ?_;intro ws hh;replace hh : Hp _ (.blk _ _ [_, _, _, _, _] _ :: _) _ := hh;refine aa (ah ?_);refine bg 9 [[(6, none)], [(30, some 0)], [(2, none)], [(31, some 1), (32, some 2)], [(6, none)], [(34, some 4)], [(3, none)], [(35, some 5), (36, some 6)], [(6, none)]] [(8, 38), (7, 37), (6, 36), (5, 35), (4, 34), (3, 33), (2, 32), (1, 31), (0, 30)] hh mixed Dt ?_;refine dX ?_;refine fT 0 ?_;refine fX 3 [_,_,_] ?_;refine dC (fun _ hj => hcx _ (hT.hp hj.hp)) ?_;refine dX ?_;refine fT 0 ?_;refine fX 2 [_,_,_] ?_;refine dC (fun _ hj => hcy _ (hT.hp hj.hp)) ?_;refine dX ?_;refine bq ?_;intro f W hJ hV;have hb_8 := hJ.bl;obtain ⟨v38, v37, v36, v35, v34, v33, v32, v31, v30, _⟩ := hV;replace hh := hJ.hp;refine a6 (bk (ae v38 (ae v37 (ae v36 (ae v35 (ae v34 (ae v33 (ae v32 (ae v31 (ae v30 a5)))))))))) ?_;dsimp only [cJ];clear hJ;refine bD hh 0 [_,_] ?_;intro ws hh;replace hh : Hp _ (.blk _ _ [_, _, _, _, _] _ :: _) _ := hh;refine bG ?_;refine bD hh 0 [_,_] ?_;intro ws hh
   replace hh : Hp _ (.blk _ _ [_, _, _, _, _] _ :: _) _ := hh;refine aa (sr ?_);refine cU hh 0 [_,_,_,_,_] ?_;refine bD hh 1 [_,_,_,_,_] ?_;intro ws hh;replace hh : Hp _ (_ :: .blk _ _ [_, _, _, _, _] _ :: _) _ := hh;refine aa (al ?_);refine ik (aN rfl (aO (vs := [_, _, _, _, _]) aC.out (hh.aw (i := 1) (n := 5) rfl rfl) rfl) a7) ?_;exact ⟨rfl, hh.below⟩
  ·have h1' : ¬ nR b.d = ⟨false, ByteArray.mk #[], 0⟩ := fun h => h1 ((iu _).1 h);have hs : (if (nR b.d).e < (nR a.d).e then (nR b.d).e else (nR a.d).e) = -(dh a.d b.d) := by
    revert h0 h1
    cases a.d with
    | zero => intro h; exact absurd rfl h
    | ofOdd n k h =>
     cases b.d with
     | zero => intro _ h; exact absurd rfl h
     | ofOdd m l g =>
      intro _ _;simp only [nR, dh];omega
   refine aj (N := 41) (l := [.agg #[.bool a.neg, .string a.bM, .int .i64 a.e], .agg #[.bool b.neg, .string b.bM, .int .i64 b.e]]) Tryz.func136 rfl rfl (by simp) ?_;refine sr ?_;refine dp hh [_,_,_] ?_;intro b2 w2 hh;refine dp hh [_,_,_] ?_;intro b3 w3 hh;refine cj hh ?_;intro b4 w4 hh;refine aa (ah ?_);refine bg 3 [[(2, none)], [(7, some 0)], [(3, none)]] [(2, 9), (1, 8), (0, 7)] hh mixed Dt ?_;refine fX 2 [_,_,_] ?_;refine dC (fun _ hj => ep a _ (hT.hp hj.hp) Dq Dq Dq) ?_;refine fX 1 [_,_,_] ?_;refine bq ?_;intro f W hJ hV;have hb_1 := hJ.bl;obtain ⟨v9, v8, v7, _⟩ := hV;replace hh := hJ.hp;refine a6 (bk (ae v9 (ae v8 (ae v7 a5)))) ?_;dsimp only [cJ];clear hJ;refine bB hh (ep b _ (hT.hp hh) Dq Dq Dq) rfl ?_;intro w10 hh;refine bD hh 2 [_,_,_] ?_;intro ws hh;replace hh : Hp _ (_ :: _ :: .blk _ _ [_, _, _] _ :: _) _ := hh;refine bD hh 1 [_,_,_] ?_;intro ws hh;replace hh : Hp _ (_ :: .blk _ _ [_, _, _] _ :: _) _ := hh;refine aa (sr (bG ?_));refine bI hh 2 ?_;refine bG ?_;refine bI hh 1 ?_;refine yH rfl rfl Dr ?_;refine aI (aa (ah (ao (sr ?_))));refine cU hh 2 [_,_,_] ?_;refine eX [_,_,_] ?_
   first | refine lL rfl rfl (by first | assumption | rfl) Dr ?_ | refine mb rfl rfl (by assumption) Dr ?_
   refine aB (aa (cF (sr ?_)));refine cU hh 1 [_,_,_] ?_;refine eX [_,_,_] ?_;first | refine lL rfl rfl (by first | assumption | rfl) Dr ?_ | refine mb rfl rfl (by assumption) Dr ?_
   refine aB (aa (cF (ak (aX (ai (sr ?_))))));rw [hs];refine mI ?_;refine eX [_,_,_,_,_] ?_;refine cj hh ?_;intro b6 w6 hh;refine bD hh 0 [_,_,_,_,_] ?_;intro ws hh;replace hh : Hp _ (.blk _ _ [_, _, _, _, _] _ :: _) _ := hh;refine aa (ah ?_);refine bg 9 [[(6, none)], [(30, some 0)], [(2, none)], [(31, some 1), (32, some 2)], [(6, none)], [(34, some 4)], [(3, none)], [(35, some 5), (36, some 6)], [(6, none)]] [(8, 38), (7, 37), (6, 36), (5, 35), (4, 34), (3, 33), (2, 32), (1, 31), (0, 30)] hh mixed Dt ?_;refine dX ?_;refine fT 0 ?_;refine fX 3 [_,_,_] ?_;refine dC (fun _ hj => hcx _ (hT.hp hj.hp)) ?_;refine dX ?_;refine fT 0 ?_;refine fX 2 [_,_,_] ?_;refine dC (fun _ hj => hcy _ (hT.hp hj.hp)) ?_;refine dX ?_;refine bq ?_;intro f W hJ hV;have hb_8 := hJ.bl;obtain ⟨v38, v37, v36, v35, v34, v33, v32, v31, v30, _⟩ := hV;replace hh := hJ.hp;refine a6 (bk (ae v38 (ae v37 (ae v36 (ae v35 (ae v34 (ae v33 (ae v32 (ae v31 (ae v30 a5)))))))))) ?_;dsimp only [cJ];clear hJ;refine bD hh 0 [_,_] ?_;intro ws hh;replace hh : Hp _ (.blk _ _ [_, _, _, _, _] _ :: _) _ := hh;refine bG ?_;refine bD hh 0 [_,_] ?_;intro ws hh;replace hh : Hp _ (.blk _ _ [_, _, _, _, _] _ :: _) _ := hh;refine aa (sr ?_)
   refine cU hh 0 [_,_,_,_,_] ?_;refine bD hh 1 [_,_,_,_,_] ?_;intro ws hh;replace hh : Hp _ (_ :: .blk _ _ [_, _, _, _, _] _ :: _) _ := hh;refine aa (al ?_);refine ik (aN rfl (aO (vs := [_, _, _, _, _]) aC.out (hh.aw (i := 1) (n := 5) rfl rfl) rfl) a7) ?_;exact ⟨rfl, hh.below⟩
end Go.Proofs.YteeckcbbnegmcaaGreatDoor
namespace Go.Proofs.YteeckcbbnegmcaaGreatDoor
open Go.RowKit
def Da (x y : Dyadic) : Int := if x < y then -1 else if y < x then 1 else 0
theorem qR {a b : NR} (ha : a.ok) (hb : b.ok) : (iM (cC a.d (dh a.d b.d))).size ≤ 6000000 ∧ (iM (cC b.d (dh a.d b.d))).size ≤ 6000000 ∧ -18000000 ≤ dh a.d b.d ∧ dh a.d b.d ≤ 18000000 := by
 obtain ⟨_, fa1, fa2, fa3⟩ := lY ha;obtain ⟨_, fb1, fb2, fb3⟩ := lY hb;have hP := uY a.d b.d 18000000 Dq Dq;have h1 := oW a.d (dh a.d b.d);have h2 := oW b.d (dh a.d b.d);rw [ec, ec];refine ⟨Dq, Dq, hP.1, hP.2⟩
def Dh (n : Int) : Dyadic := Dyadic.ofIntWithPrec 1 (-n)
def mQ : List Dyadic → Dyadic := fun l => l.foldl (· + ·) 0
theorem p6 (l : List Dyadic) (x : Dyadic) : mQ (l ++ [x]) = mQ l + x := by simp [mQ]
theorem Sz.sum {k : Nat} {l : List Dyadic} (h : ∀ x ∈ l, Sz k x) : Sz (k + l.length) (mQ l) := by
 have : ∀ (n : Nat), n ≤ l.length → Sz (k + n) (mQ (l.take n)) := by
  intro n
  induction n with
  | zero => intro _; exact Sz.zero _
  | succ n ih =>
   intro hn;obtain ⟨x, hx⟩ := aG (l := l) (k := n) Dq;rw [aT hx, p6];exact (ih Dq).add ((h x (List.mem_of_getElem? hx)).mono Dq)
 have h2 := this l.length (Nat.le_refl _);rwa [List.take_length] at h2
theorem oL (a b : NR) (w : World) (hT : gK w) (ha : a.ok) (hb : b.ok) :
  Calls Tryz.prog 137 #[.agg #[.bool (iN (cC a.d (dh a.d b.d) + cC b.d (dh a.d b.d))), .string (iM (cC a.d (dh a.d b.d) + cC b.d (dh a.d b.d)))], .int .i64 (-(dh a.d b.d))] w fun r w' => r = .returned (.agg #[.bool (nR (a.d + b.d)).neg, .string (nR (a.d + b.d)).bM, .int .i64 (nR (a.d + b.d)).e]) ∧ Below w.heap.size w w' := by
 obtain ⟨hs1, hs2, hP1, hP2⟩ := qR ha hb;rw [ec] at hs1 hs2;have h3 := l6 (cC a.d (dh a.d b.d)) (cC b.d (dh a.d b.d));have := im (iN (cC a.d (dh a.d b.d) + cC b.d (dh a.d b.d))) (iM (cC a.d (dh a.d b.d) + cC b.d (dh a.d b.d))) (-(dh a.d b.d)) w hT (by rw [ec]; omega) Dq Dq;rw [fE, Int.neg_neg, Ah] at this;exact this
theorem oF (L : Option Addr) (n c : Nat) (l : List NR) (w : World) (hT : gK w) (hS : Sl w L n 3 (aQ NR.cells l)) (hl : ∀ a ∈ l, a.ok) (k : Nat) (hk : ∀ a ∈ l, Sz k a.d) (hkn : k + n ≤ 3999990) :
  Calls Tryz.prog 47 #[.slice L n c] w fun r w' => r = .returned (.agg #[.bool (nR (mQ (l.map NR.d))).neg, .string (nR (mQ (l.map NR.d))).bM, .int .i64 (nR (mQ (l.map NR.d))).e]) ∧ Below w.heap.size w w' := by
 have hln := hS.cI NR.len Dq;have hh := Hp.start w;refine aj (N := 27) (l := [.slice L n c]) Tryz.func47 rfl rfl (by simp) ?_;refine sr ?_;refine cj hh ?_;intro b2 w2 hh;refine aa (sr ?_);refine cj hh ?_;intro b3 w3 hh;refine aa (ah (sr (mL (a4 (mI (aa (ao ?_)))))));refine bF [5, 6, 9, 10, 11, 12, 13, 14, 15, 16, 17, 18, 19, 20, 21, 22, 23, 24, 25] 9
  (fun j w' => ∃ (i : Nat) (S : Dyadic), i ≤ n ∧ j = .int .i64 i ∧ S = mQ ((l.take i).map NR.d) ∧ Hp w [.blk b3 65 [.bool (nR S).neg, .string (nR S).bM, .int .i64 (nR S).e] (0, 0), .blk b2 65 [.bool false, .string (ByteArray.mk #[]), .int .i64 0] (0, 0)] w')
  (fun j _ => n - (intOf j).toNat) ?_ ?_
 ·exact ⟨0, 0, Nat.zero_le _, rfl, rfl, hh⟩
 ·clear hh;rintro ρ' j w' ⟨i, S, hi, rfl, hS2, hh⟩;by_cases hlt : i < n
  ·obtain ⟨x, hx⟩ := aG (l := l) (k := i) Dq;obtain ⟨ad, rfl, hr⟩ := hS.at_ Dq;have hxm := List.mem_of_getElem? hx;have hS3 : mQ ((l.take (i + 1)).map NR.d) = S + x.d := by rw [aT hx, List.map_append, List.map_singleton, p6, hS2]
   have hSz : Sz (k + i) S := by
    rw [hS2];have := Sz.sum (k := k) (l := (l.take i).map NR.d) (fun y hy => by
     obtain ⟨a, ha, rfl⟩ := List.mem_map.1 hy;exact hk a (List.mem_of_mem_take ha))
    rw [List.length_map, List.length_take, Nat.min_eq_left Dq] at this;exact this
   have hSo := hSz.ok Dq;have hlc := fun w1 hT1 => rA (nR S) x w1 hT1 hSo (hl x hxm);have hmc := fun w1 hT1 => oL (nR S) x w1 hT1 hSo (hl x hxm);obtain ⟨hs1, hs2, _⟩ := qR hSo (hl x hxm);rw [dR] at hlc hmc hs1 hs2;have e1 : ([iR (cC S (dh S x.d)), iR (cC x.d (dh S x.d))].map IR.v).sum = cC S (dh S x.d) + cC x.d (dh S x.d) := by
    simp only [List.map_cons, List.map_nil, List.sum_cons, List.sum_nil, Ch]; omega
   have hac : ∀ (A : Option Addr) (cc : Nat) (w1 : World), Sl w1 A 2 2 (aQ IR.cells [iR (cC S (dh S x.d)), iR (cC x.d (dh S x.d))]) → Calls Tryz.prog 138 #[.slice A 2 cc] w1 fun e w' => e = .returned (.agg #[.bool (iN (cC S (dh S x.d) + cC x.d (dh S x.d))), .string (iM (cC S (dh S x.d) + cC x.d (dh S x.d)))]) ∧ Below w1.heap.size w1 w' := fun A cc w1 hsl => by
    have := ow A 2 cc [iR (cC S (dh S x.d)), iR (cC x.d (dh S x.d))] w1 hsl Dq (by simp [iR]; omega);rw [e1] at this;exact this
   refine sr ?_;refine a3 (aa (ah (cT (ak (ai (ah (ao (sr ?_))))))));refine aZ (k := i) aF.out aC.size rfl rfl Dq Dq Dr ?_;refine bZ (vs := [_, _, _]) aC.out rfl (((hr.ext hh.below).recAt NR.len hx)) rfl Dr ?_;refine cj hh ?_;intro b5 w5 hh;refine bD hh 0 [_,_,_] ?_;intro ws hh;replace hh : Hp _ (.blk _ _ [_, _, _] _ :: _) _ := hh;refine aa (sr ?_);refine cU hh 1 [_,_,_] ?_;refine cU hh 0 [_,_,_] ?_;refine bB hh (hlc _ (hT.hp hh)) rfl ?_;intro w15 hh;refine cj hh ?_;intro b6 w6 hh;refine bD hh 0 [_,_,_,_,_] ?_;intro ws hh;replace hh : Hp _ (.blk _ _ [_, _, _, _, _] _ :: _) _ := hh;refine aa ?_;refine bg 8 [[(6, none)], [(16, some 0)], [(6, none)], [(18, some 2)], [(17, some 1), (19, some 3)], [(20, some 4)], [(6, none)], [(22, some 6)]] [(7, 23), (6, 22), (5, 21), (4, 20), (3, 19), (2, 18), (1, 17), (0, 16)] hh mixed Dt ?_;refine dX ?_;refine fX 0 [_,_] ?_;refine dX ?_;refine fX 0 [_,_] ?_;refine tF [_,_,_,_] ?_;refine bj (i := 5) (Is (.agg #[.bool (iN (cC S (dh S x.d) + cC x.d (dh S x.d))), .string (iM (cC S (dh S x.d) + cC x.d (dh S x.d)))])) Is.ext ?_ ?_
   ·intro ρ1 w1 hj hR;obtain ⟨A20, c20, h20, s20⟩ := hR.1;exact bJ rfl (aW aq.out (ay h20 a0)) (hac A20 c20 _ s20) (fun _ _ hq => ⟨_, hq.1, hq.2, rfl⟩)
   refine dX ?_;refine fT 0 ?_;refine bq ?_;intro f W hJ hV;have hb_6 := hJ.bl;obtain ⟨v23, v22, v21, v20, v19, v18, v17, v16, _⟩ := hV;obtain ⟨A20, c20, e20, f20⟩ : Rows _ _ _ (f 4) W := v20;replace hh := hJ.hp;refine a6 (bk (ae v23 (ae v22 (ae v21 (ae e20 (ae v19 (ae v18 (ae v17 (ae v16 a5))))))))) ?_;dsimp only [cJ];clear e20 hJ;refine bB hh (hmc _ (hT.hp hh)) rfl ?_;intro w24 hh;refine bD hh 2 [_,_,_] ?_;intro ws hh;replace hh : Hp _ (_ :: _ :: .blk _ _ [_, _, _] _ :: _) _ := hh;refine aE (aX (ai (ar ?_)));refine bO (mI (aE (ai ?_)));replace hh := hh.sub ((List.sublist_cons_self _ _).trans (List.sublist_cons_self _ _));refine ⟨⟨i + 1, _, Dq, rfl, hS3.symm, hh⟩, by show n - (i + 1) < n - i; omega, ?_⟩;exact Du
  ·refine sr ?_;refine a3 (aa (ah (cF (aV (aA (aA (a8 (ai (sr ?_)))))))));refine cU hh 0 [_,_,_] ?_;refine bD hh 1 [_,_,_] ?_;intro ws hh;replace hh : Hp _ (_ :: .blk _ _ [_, _, _] _ :: _) _ := hh;refine aa (al ?_);refine ik (aN rfl (aO (vs := [_, _, _]) aC.out (hh.aw (i := 1) (n := 3) rfl rfl) rfl) a7) ?_;rw [List.take_of_length_le Dq] at hS2;rw [hS2];exact ⟨rfl, hh.below⟩
theorem rZ (x y : Dyadic) : mQ [x, y] = x + y := by
 show (0 + x) + y = x + y;rw [Dyadic.zero_add]
def gM : List Dyadic → Dyadic := fun l => l.foldl (· * ·) 1
theorem ph (l : List Dyadic) (x : Dyadic) : gM (l ++ [x]) = gM l * x := by simp [gM]
theorem Sz.one : Sz 1 1 := ⟨2, by decide +kernel, Dr⟩
theorem Sz.prod {k : Nat} {l : List Dyadic} (h : ∀ x ∈ l, Sz k x) : Sz (1 + k * l.length) (gM l) := by
 have : ∀ (n : Nat), n ≤ l.length → Sz (1 + k * n) (gM (l.take n)) := by
  intro n
  induction n with
  | zero => intro _; exact Sz.one
  | succ n ih =>
   intro hn;obtain ⟨x, hx⟩ := aG (l := l) (k := n) Dq;rw [aT hx, ph];exact ((ih Dq).mul (h x (List.mem_of_getElem? hx))).mono (by rw [Nat.mul_succ]; omega)
 have h2 := this l.length (Nat.le_refl _);rwa [List.take_length] at h2
theorem gh (L : Option Addr) (n c : Nat) (l : List NR) (w : World) (hT : gK w) (hS : Sl w L n 3 (aQ NR.cells l)) (hl : ∀ a ∈ l, a.ok) (k : Nat) (hk : ∀ a ∈ l, Sz k a.d) (hkn : k * n ≤ 3999980) (hn : n ≤ 1000000) :
  Calls Tryz.prog 48 #[.slice L n c] w fun r w' => r = .returned (.agg #[.bool (nR (gM (l.map NR.d))).neg, .string (nR (gM (l.map NR.d))).bM, .int .i64 (nR (gM (l.map NR.d))).e]) ∧ Below w.heap.size w w' := by
 have hln := hS.cI NR.len Dq;have hh := Hp.start w;refine aj (N := 27) (l := [.slice L n c]) Tryz.func48 rfl rfl (by simp) ?_;refine sr ?_;refine cj hh ?_;intro b2 w2 hh;refine aa (sr ?_);refine bB hh (me 1 _ (hT.hp hh) Dq Dq) rfl ?_;intro w6 hh;refine cj hh ?_;intro b3 w3 hh;refine bD hh 0 [_,_,_] ?_;intro ws hh;replace hh : Hp _ (.blk _ _ [_, _, _] _ :: _) _ := hh;refine aa (ah (sr (mL (a4 (mI (aa (ao ?_)))))));refine bF [5, 9, 10, 11, 12, 13, 14, 15, 16, 17, 18, 19, 20, 21, 22, 23, 24, 25] 9
  (fun j w' => ∃ (i : Nat) (S : Dyadic), i ≤ n ∧ j = .int .i64 i ∧ S = gM ((l.take i).map NR.d) ∧ Hp w [.blk b3 65 [.bool (nR S).neg, .string (nR S).bM, .int .i64 (nR S).e] (0, 0), .blk b2 65 [.bool false, .string (ByteArray.mk #[]), .int .i64 0] (0, 0)] w')
  (fun j _ => n - (intOf j).toNat) ?_ ?_
 ·exact ⟨0, _, Nat.zero_le _, rfl, rfl, hh⟩
 ·clear hh;rintro ρ' j w' ⟨i, S, hi, rfl, hS2, hh⟩;by_cases hlt : i < n
  ·obtain ⟨x, hx⟩ := aG (l := l) (k := i) Dq;obtain ⟨ad, rfl, hr⟩ := hS.at_ Dq;have hxm := List.mem_of_getElem? hx;have hS3 : gM ((l.take (i + 1)).map NR.d) = S * x.d := by rw [aT hx, List.map_append, List.map_singleton, ph, hS2]
   have hSz : Sz (1 + k * i) S := by
    rw [hS2];have := Sz.prod (k := k) (l := (l.take i).map NR.d) (fun y hy => by
     obtain ⟨a, ha, rfl⟩ := List.mem_map.1 hy;exact hk a (List.mem_of_mem_take ha))
    rw [List.length_map, List.length_take, Nat.min_eq_left Dq] at this;exact this
   have hki : k * i ≤ k * n := Nat.mul_le_mul_left _ hi;obtain ⟨so1, so2, so3⟩ := hSz.ok Dq;obtain ⟨xo1, xo2, xo3⟩ := hl x hxm;have e1 : jO ([IR.mk (nR S).neg (nR S).bM, IR.mk x.neg x.bM].map IR.v) = (nR S).i * x.i := by
    simp only [List.map_cons, List.map_nil, jO, Int.mul_one]; rfl
   have e2 : Dyadic.ofIntWithPrec ((nR S).i * x.i) (-((nR S).e + x.e)) = S * x.d := by
    have := vO (nR S).i x.i (-(nR S).e) (-x.e);rw [Int.neg_add, ← this];congr 1;exact dR S
   have hac : ∀ (A : Option Addr) (cc : Nat) (w1 : World), Sl w1 A 2 2 (aQ IR.cells [IR.mk (nR S).neg (nR S).bM, IR.mk x.neg x.bM]) → Calls Tryz.prog 139 #[.slice A 2 cc] w1 fun e w' => e = .returned (.agg #[.bool (iN ((nR S).i * x.i)), .string (iM ((nR S).i * x.i))]) ∧ Below w1.heap.size w1 w' := fun A cc w1 hsl => by
    have := uP A 2 cc [IR.mk (nR S).neg (nR S).bM, IR.mk x.neg x.bM] w1 hsl Dq (by simp; omega);rw [e1] at this;exact this
   have hmc : ∀ w1, gK w1 → Calls Tryz.prog 137 #[.agg #[.bool (iN ((nR S).i * x.i)), .string (iM ((nR S).i * x.i))], .int .i64 ((nR S).e + x.e)] w1 fun r w' => r = .returned (.agg #[.bool (nR (S * x.d)).neg, .string (nR (S * x.d)).bM, .int .i64 (nR (S * x.d)).e]) ∧ Below w1.heap.size w1 w' := fun w1 hT1 => by
    have hb1 := l3 (nR S).neg (nR S).bM;have hb2 := l3 x.neg x.bM;have hb3 := ll (nR S).i x.i;have := im (iN ((nR S).i * x.i)) (iM ((nR S).i * x.i)) ((nR S).e + x.e) w1 hT1 (by rw [ec]; unfold NR.i at hb3 ⊢; omega) Dq Dq;rw [fE, e2] at this;exact this
   refine sr ?_;refine a3 (aa (ah (cT (ak (ai (ah (ao (sr ?_))))))));refine aZ (k := i) aF.out aC.size rfl rfl Dq Dq Dr ?_;refine bZ (vs := [_, _, _]) aC.out rfl (((hr.ext hh.below).recAt NR.len hx)) rfl Dr ?_;refine cj hh ?_;intro b5 w5 hh;refine bD hh 0 [_,_,_] ?_;intro ws hh;replace hh : Hp _ (.blk _ _ [_, _, _] _ :: _) _ := hh;refine aa ?_;refine bg 11 [[(3, none)], [(13, some 0)], [(5, none)], [(15, some 2)], [(14, some 1), (16, some 3)], [(17, some 4)], [(3, none)], [(19, some 6)], [(5, none)], [(21, some 8)], [(20, some 7), (22, some 9)]] [(10, 23), (9, 22), (8, 21), (7, 20), (6, 19), (5, 18), (4, 17), (3, 16), (2, 15), (1, 14), (0, 13)] hh mixed Dt ?_;refine dX ?_;refine fX 1 [_,_] ?_;refine dX ?_;refine fX 0 [_,_] ?_;refine tF [_,_,_,_] ?_;refine bj (i := 5) (Is (.agg #[.bool (iN ((nR S).i * x.i)), .string (iM ((nR S).i * x.i))])) Is.ext ?_ ?_
   ·intro ρ1 w1 hj hR;obtain ⟨A17, c17, h17, s17⟩ := hR.1;exact bJ rfl (aW aq.out (ay h17 a0)) (hac A17 c17 _ s17) (fun _ _ hq => ⟨_, hq.1, hq.2, rfl⟩)
   refine dX ?_;refine fT 1 ?_;refine dX ?_;refine fT 0 ?_;refine yB ?_;refine bq ?_;intro f W hJ hV;have hb_5 := hJ.bl;obtain ⟨v23, v22, v21, v20, v19, v18, v17, v16, v15, v14, v13, _⟩ := hV;obtain ⟨A17, c17, e17, f17⟩ : Rows _ _ _ (f 4) W := v17;replace hh := hJ.hp;refine a6 (bk (ae v23 (ae v22 (ae v21 (ae v20 (ae v19 (ae v18 (ae e17 (ae v16 (ae v15 (ae v14 (ae v13 a5)))))))))))) ?_;dsimp only [cJ];clear e17 hJ;refine bB hh (hmc _ (hT.hp hh)) rfl ?_;intro w24 hh;refine bD hh 1 [_,_,_] ?_;intro ws hh;replace hh : Hp _ (_ :: .blk _ _ [_, _, _] _ :: _) _ := hh;refine aE (aX (ai (ar ?_)));refine bO (mI (aE (ai ?_)));replace hh := hh.sub (List.sublist_cons_self _ _);refine ⟨⟨i + 1, _, Dq, rfl, hS3.symm, hh⟩, by show n - (i + 1) < n - i; omega, ?_⟩;exact Du
  ·refine sr ?_;refine a3 (aa (ah (cF (aV (aA (aA (a8 (ai (sr ?_)))))))));refine cU hh 0 [_,_,_] ?_;refine bD hh 1 [_,_,_] ?_;intro ws hh;replace hh : Hp _ (_ :: .blk _ _ [_, _, _] _ :: _) _ := hh;refine aa (al ?_);refine ik (aN rfl (aO (vs := [_, _, _]) aC.out (hh.aw (i := 1) (n := 3) rfl rfl) rfl) a7) ?_;rw [List.take_of_length_le Dq] at hS2;rw [hS2];exact ⟨rfl, hh.below⟩
end Go.Proofs.YteeckcbbnegmcaaGreatDoor
namespace Go.Proofs.YteeckcbbnegmcaaGreatDoor
open Go.RowKit
def CY (f : Dyadic → Dyadic → Bool) : List Dyadic → Dyadic
 | [] => 0
 | a :: r => r.foldl (fun out a => if f a out then a else out) a
end Go.Proofs.YteeckcbbnegmcaaGreatDoor
namespace Go.Proofs.YteeckcbbnegmcaaGreatDoor
end Go.Proofs.YteeckcbbnegmcaaGreatDoor
