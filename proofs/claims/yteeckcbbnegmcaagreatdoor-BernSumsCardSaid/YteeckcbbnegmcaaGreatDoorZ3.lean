/- Lemmas for bernSums, part 3. -/
import Derived.Test.YteeckcbbnegmcaaGreatDoorZ2
namespace Go.Proofs.YteeckcbbnegmcaaGreatDoor
open Go.RowKit
theorem hH (A : Option Addr) (n c : Nat) (xs : List Nat) (w : World) (hx : Sl w A n 1 (cY xs)) (hc : n ≤ c) (hn : n ≤ 1000000000000) :
  Calls Tryz.prog 245 #[.slice A n c] w fun e w' => e = .returned (.slice A (dD xs).length c) ∧ Below w.heap.size w w' := by
 have hlen : xs.length = n := by have := hx.1; rw [a9] at this; omega
 have hh := Hp.start w;refine aj (N := 21) (l := [.slice A n c]) Tryz.func245 rfl rfl (by simp) ?_;refine sr (aL (aa (ah (aq ?_))));refine aP [0, 3, 4, 5, 6, 7, 8, 9, 10, 11, 12, 13, 14, 15, 16, 17, 18, 19] 0
  (fun v w' => ∃ k : Nat, k ≤ n ∧ v = .slice A k c ∧ dD (xs.take k) = dD xs ∧ w' = w)
  (fun v _ => lenOf v) ?_ ?_
 ·exact ⟨n, Nat.le_refl _, rfl, by rw [List.take_of_length_le Tx], rfl⟩
 ·rintro ρ' v w' ⟨k, hk, rfl, hcut, rfl⟩;by_cases h0 : k = 0
  ·subst h0;refine ah (sr (mL (aJ ?_)));refine bM (mB ?_);refine gS (gS (gS (gS (gS ?_))));refine iJ ?_;refine gS ?_;refine dK ?_;refine aa (cF (aZ (aD (aD (bq (ai (sr (mL (aL (aa (av ?_)))))))))));refine cX ?_;rw [← hcut];exact ⟨rfl, hh.below⟩
  ·obtain ⟨j, rfl⟩ : ∃ j, k = j + 1 := ⟨k - 1, Tx⟩;obtain ⟨d, hd⟩ := ao (l := xs) (k := j) Tx;obtain ⟨ad, rfl, hr⟩ := hx.at_ Tx;have hd2 := dY hd;rw [ay hd] at hcut;by_cases hz : d = 0
   ·subst hz;rw [te] at hcut;refine ah (sr (mL (aJ ?_)));refine bM (mB (gT (mL (gT (mL (gT (aJ (gT ?_))))))));refine dT (gT ?_);refine kg ?_;refine gT ?_;refine gu ?_;refine gT ?_;refine cW ?_;refine fu ?_;refine aa (cT (ar (ai (aq (al (mL (mL (aJ ?_))))))));refine dT ?_;refine pO (h := j) bg.out aN.size rfl rfl Tx Tx Ty ?_;refine aL (aA (bA (ai ?_)));refine ⟨⟨j, Tx, rfl, hcut, rfl⟩, by show j < j + 1; omega, ?_⟩;exact dL
   ·rw [wB hz] at hcut;refine ah (sr (mL (aJ ?_)));refine bM (mB (gT (mL (gT (mL (gT (aJ (gT ?_))))))));refine dT (gT ?_);refine kg ?_;refine gT ?_;refine gu ?_;refine gT ?_;refine cW ?_;refine fu ?_;refine aa (cF (aZ (aD (aD (bq (ai (sr (mL (aL (aa (av ?_)))))))))));exact Q3
theorem fh {B : Nat} {l : List Nat} {i c : Nat} (h : l[i]? = some c) : bu B (l.take (i + 1)) = bu B (l.take i) + B ^ i * c := by
 have hi := (List.getElem?_eq_some_iff.1 h).1;rw [ay h, eA, List.length_take, Nat.min_eq_left Tx];simp [bu]
theorem Hp.Ec {w0 w : World} {H : List HE} {A : Option Addr} {n c : Nat} {t : TypeId} {xs : List Nat} (h : Hp w0 (.row A n c t 1 (cY xs) :: H) w) (hl : xs.length = n) : Hp w0 (.row A (dD xs).length c t 1 (cY (dD xs)) :: H) w := by
 have h1 := e7 xs;have h2 := h.CS (k := (dD xs).length) Tx;rw [Nat.mul_one, ← wZ, ← jz] at h2;exact h2
theorem GC (a : ByteArray) (w : World) (ha : a.size ≤ 100000000000) :
  Calls Tryz.prog 224 #[.string a] w fun e w' => ∃ b c, e = .returned (.slice (some ⟨b, 0, none⟩) (aU 18446744073709551616 (bn a.data.toList)).length c) ∧ w'.ownsRow w.heap.size 204 1 (.slice (some ⟨b, 0, none⟩) (aU 18446744073709551616 (bn a.data.toList)).length c) (aU 18446744073709551616 (bn a.data.toList)).length (cY (aU 18446744073709551616 (bn a.data.toList))) ∧ Below w.heap.size w w' := by
 have hsz := dA a;have hh := Hp.start w;refine aj (N := 39) (l := [.string a]) Tryz.func224 rfl rfl (by simp) ?_;refine sr (aL (aa (sr (mS ?_))));refine bG bg.out rfl Ty ?_;refine bh ?_;refine nP ?_;refine fU (n := (a.size + 7) / 8) hh rfl rfl Tx Tx bg.out aN.out rfl Tx Tx Ty ?_;intro b10 w10 hh;refine aL (aa (ah (sr (mS ?_))));refine bG bg.out rfl Ty ?_;refine mI (aa (aq ?_));rw [pB] at hh;refine aP [4, 5, 13, 14, 15, 16, 17, 18, 19, 20, 21, 22, 23, 24, 25, 26, 27, 28, 29, 30, 31, 32, 33, 34, 35, 36] 13
  (fun v w' => ∃ i : Nat, i ≤ a.size ∧ v = .int .i64 i ∧ Hp w [.row (some ⟨b10, 0, none⟩) ((a.size + 7) / 8) ((a.size + 7) / 8) 204 1 (cY (bK 18446744073709551616 ((a.size + 7) / 8) (bu 256 ((Bj a.data.toList).take i))))] w')
  (fun v _ => a.size - (intOf v).toNat) ?_ ?_
 ·exact ⟨0, Nat.zero_le _, rfl, by rw [List.take_zero, bu, qu]; exact hh⟩
 ·clear hh;rintro ρ' v w' ⟨i, hi, rfl, hh⟩;by_cases hlt : i < a.size
  ·obtain ⟨c, hc⟩ := ao (l := a.data.toList) (k := ((a.size : Int) - 1 - i).toNat) Tx;have hlo := Hv (s := a.data.toList) (i := i) (c := c) Tx (by rw [← hc]; congr 1; omega);have hc8 := c.toNat_lt;have hn := iB ((xg a.data.toList).take i);rw [List.length_take, oH, Nat.min_eq_left Tx] at hn;obtain ⟨s1, s2, s3⟩ := LQ (k := (a.size + 7) / 8) (bu 256 ((Bj a.data.toList).take i)) hn hc8 Tx;have hg := dY (iz (B := 18446744073709551616) ((a.size + 7) / 8) (bu 256 ((Bj a.data.toList).take i)) (i / 8) Tx);have e1 : ((i : Int) % 8 * 8).toNat = i % 8 * 8 := Tx;refine sr ?_;refine bf (aa (ah (cT (ar (ai (ah (aq (sr (mI (aI (aa (sr (mS ?_)))))))))))));refine bG bg.out rfl Ty ?_;refine dT (mI ?_);refine dT (aI (aa ?_));refine aY 13 [[(3, none)], [(4, none)], [(22, some 1)], [(21, some 0), (23, some 2)], [(24, some 3)], [(0, none)], [(5, none)], [(26, some 5), (27, some 6)], [(28, some 7)], [(4, none)], [(30, some 9)], [(31, some 10)], [(29, some 8), (32, some 11)]] [(12, 33), (11, 32), (10, 31), (9, 30), (8, 29), (7, 28), (6, 27), (5, 26), (4, 25), (3, 24), (2, 23), (1, 22), (0, 21)] hh mixed Tz ?_;refine gk ?_;refine dE ?_
   refine bp (i := 2) (fun ρ1 w1 hj hR => qE (show ρ1 22 = Value.int _ _ from hR.1) rfl Tx Tx Tx) ?_;refine BQ (i / 8) ?_;refine bp (i := 4) (fun ρ1 w1 hj hR => jv aN.out (show ρ1 24 = Value.pointer _ from hR.1) (hj.hp.fR (i := 0) rfl (by first | assumption | (simp only [Nat.mul_one]; assumption)))) ?_;refine SW ?_;refine dE ?_;refine bp (i := 7) (fun ρ1 w1 hj hR => rE bg.out (show ρ1 26 = Value.string _ from hR.1) (show ρ1 27 = Value.int _ _ from hR.2.1) Tx (by assumption)) ?_;refine bp (i := 8) (fun ρ1 w1 hj hR => tV bg.out bg.out (show ρ1 28 = Value.int _ _ from hR.1) (by first | assumption | omega)) ?_;refine dE ?_;refine bp (i := 10) (fun ρ1 w1 hj hR => nW (show ρ1 30 = Value.int _ _ from hR.1) rfl Tx Tx) ?_;refine Qi ?_;refine bp (i := 12) (fun ρ1 w1 hj hR => xZ (show ρ1 29 = Value.int _ _ from hR.1) (show ρ1 32 = Value.int _ _ from hR.2.1) Tx) ?_;refine aT ?_;intro f W hJ hV;have hb_6 := hJ.bl;obtain ⟨v33, v32, v31, v30, v29, v28, v27, v26, v25, v24, v23, v22, v21, _⟩ := hV;replace hh := hJ.hp;refine a6 (bm (ae v33 (ae v32 (ae v31 (ae v30 (ae v29 (ae v28 (ae v27 (ae v26 (ae v25 (ae v24 (ae v23 (ae v22 (ae v21 a0)))))))))))))) ?_;dsimp only [cg];clear hJ;refine DF ?_
   refine cS (k := i / 8) bg.out aN.size rfl rfl Tx Tx Ty ?_;refine HF ?_;intro ws hh;simp only [List.set_cons_zero] at hh;rw [e1, Nat.mod_eq_of_lt s2, Cj s1, cM (by rw [a9, aO]; omega), Nat.mul_one, fN, s3, ← fh hlo] at hh;refine fL ?_;refine bh (mI (aA (ai ?_)));refine ⟨⟨i + 1, Tx, rfl, hh⟩, by show a.size - (i + 1) < a.size - i; omega, ?_⟩;exact dL
  ·refine sr ?_;refine nH ?_;rw [List.take_of_length_le (by rw [oH]; omega)] at hh;refine bz hh (hH _ _ _ (bK 18446744073709551616 ((a.size + 7) / 8) (bn a.data.toList)) _ (hh.aC (i := 0) rfl) (Nat.le_refl _) Tx) rfl ?_;intro w38 hh;refine aL (aa (av ?_));refine cX ?_;have hbd : bn a.data.toList < 18446744073709551616 ^ ((a.size + 7) / 8) := by
    refine Nat.lt_of_lt_of_le (NN _) ?_;rw [← hsz, show (256 : Nat) = 2 ^ 8 from rfl, show (18446744073709551616 : Nat) = 2 ^ 64 from rfl, ← Nat.pow_mul, ← Nat.pow_mul];exact Nat.pow_le_pow_right Tx Tx
   have hd : dD (bK 18446744073709551616 ((a.size + 7) / 8) (bn a.data.toList)) = aU 18446744073709551616 (bn a.data.toList) := by
    exact PY
   have h1 := (Hp.Ec (xs := bK 18446744073709551616 ((a.size + 7) / 8) (bn a.data.toList)) hh (aO _ _)).at_ (i := 0) rfl;exact LD
theorem Sl.PM {w : World} {A : Option Addr} {n : Nat} {xs : List Nat} (h : Sl w A n 1 (cY xs)) {k : Nat} (hk : k ≤ n) : Sl w A k 1 (cY (xs.take k)) := by
 have hl := h.1;rw [a9] at hl;refine ⟨by rw [a9, List.length_take]; omega, fun h0 => ?_⟩;obtain ⟨ad, he, hr⟩ := h.2 Tx;exact ⟨ad, he, by rw [wZ]; exact hr.take k⟩
theorem Sl.xQ {w : World} {A : Option Addr} {n : Nat} {xs : List Nat} (h : Sl w A n 1 (cY xs)) : Sl w A (dD xs).length 1 (cY (dD xs)) := by
 have hl := h.1;rw [a9] at hl;have := e7 xs;have h2 := h.PM (k := (dD xs).length) Tx;rwa [← jz] at h2
theorem C4 {xs : List Nat} (h : Dg 18446744073709551616 xs) : bC (bu 18446744073709551616 xs) ≤ 64 * xs.length := by
 apply dv;rw [Nat.pow_mul];exact iB h
theorem tU (A : Option Addr) (n c : Nat) (xs : List Nat) (w : World) (hx : Sl w A n 1 (cY xs)) (hd : Dg 18446744073709551616 xs) (hc : n ≤ c) (hn : n ≤ 100000000000) :
  Calls Tryz.prog 248 #[.slice A n c] w fun e w' => e = .returned (.int .i64 (bC (bu 18446744073709551616 xs))) ∧ Below w.heap.size w w' := by
 have hl := hx.1;rw [a9] at hl;have hcl := e7 xs;have hcx := hx.xQ;have hcd := hd.cut;have hlast := vr xs;rw [← kV];generalize hcs : dD xs = cs at *;have hh := Hp.start w;refine aj (N := 19) (l := [.slice A n c]) Tryz.func248 rfl rfl (by simp) ?_;refine sr (aI (aa (sr (mL ?_))));refine bz hh (hH _ _ _ xs _ hx hc Tx) rfl ?_;intro w4 hh;rw [hcs];by_cases h0 : cs.length = 0
 ·refine aL (aa (ah (sr (mL (aJ ?_)))));refine Dt ?_;refine cX ?_;have : cs = [] := List.eq_nil_of_length_eq_zero h0;subst this;exact ⟨by rw [bu, kZ]; rfl, hh.below⟩
 ·obtain ⟨ad, rfl, hr⟩ := hcx.at_ Tx;obtain ⟨d, hd⟩ := ao (l := cs) (k := cs.length - 1) Tx;have hd2 := dY hd;have hd3 := hcd.at_ hd;have e1 : cs.take (cs.length - 1) ++ [d] = cs := by rw [← ay hd, List.take_of_length_le Tx]
  have hnz : d ≠ 0 := by
   intro h;subst h;apply hlast;rw [List.getLast?_eq_getElem?];exact hd
  have hb := Iy (B := 18446744073709551616) (b := 64) (m := cs.length - 1) Ty (hcd.take (cs.length - 1)) (by rw [List.length_take]; omega) hnz;rw [e1] at hb;have hb2 : bC d ≤ 64 := dv (by simpa using hd3);refine aL (aa (ah (sr (mL (aJ ?_)))));refine cW (aa (cF (ar (ai (sr (mL (aJ ?_)))))));refine mulC (mL (mL (aJ ?_)));refine dT ?_;refine cZ (k := cs.length - 1) bg.out aN.size rfl rfl Tx Tx Ty ?_;refine gu ?_;refine bz hh (B1 _ _ hd3) rfl ?_;intro w17 hh;refine dT (aI (aa (av ?_)));refine cX ?_;refine ⟨?_, hh.below⟩;congr 2;omega
theorem Cx (N : Nat) : (aU 256 N).length = (bC N + 7) / 8 := by
 have h256 : (256 : Nat) = 2 ^ 8 := rfl;have h1 : (aU 256 N).length ≤ (bC N + 7) / 8 := by
  apply g9 Tx;refine Nat.lt_of_lt_of_le (dk N) ?_;rw [h256, ← Nat.pow_mul];exact Nat.pow_le_pow_right Tx Tx
 have h2 := o8 (B := 256) Tx N;have h3 : bC N ≤ 8 * (aU 256 N).length := by
  apply dv;rw [Nat.pow_mul];exact h2
 omega
theorem kL {B : Nat} (i N : Nat) : bK B (i + 1) N = bK B i N ++ [N / B ^ i % B] := by
 apply List.ext_getElem?;intro j
 rcases Nat.lt_trichotomy j i with h | h | h
 ·rw [iz _ _ _ Tx, List.getElem?_append_left (by rw [aO]; exact h), iz _ _ _ h]
 ·subst h;rw [iz _ _ _ Tx, List.getElem?_append_right (by rw [aO]; omega), aO];simp
 ·rw [List.getElem?_eq_none (by rw [aO]; omega), List.getElem?_eq_none (by rw [List.length_append, aO]; simp; omega)]
theorem E0 {R : List Nat} {k x : Nat} : (List.replicate (k + 1) 0 ++ R).set k x = List.replicate k 0 ++ (x :: R) := by
 rw [List.replicate_succ', List.append_assoc, List.set_append_right _ _ (by simp)];simp
theorem hU (A : Option Addr) (n c : Nat) (xs : List Nat) (w : World) (hx : Sl w A n 1 (cY xs)) (hd : Dg 18446744073709551616 xs) (hc : n ≤ c) (hn : n ≤ 10000000000) :
  Calls Tryz.prog 235 #[.slice A n c] w fun e w' => e = .returned (.string (str (sb (bu 18446744073709551616 xs)))) ∧ Below w.heap.size w w' := by
 have hl := hx.1;rw [a9] at hl;have hcl := e7 xs;have hcx := hx.xQ;have hcd := hd.cut;have hbl := C4 hcd;have hcan := ie Tx hd;have hlen := Cx (bu 18446744073709551616 xs);rw [kV] at hbl;have hh := Hp.start w;refine aj (N := 37) (l := [.slice A n c]) Tryz.func235 rfl rfl (by simp) ?_;refine sr (aS (aa (sr (mL ?_))));refine bz hh (hH _ _ _ xs _ hx hc Tx) rfl ?_;intro w7 hh;rw [hcan] at hcl hcx hcd hbl;rw [hcan];refine aL (aa (sr (mL ?_)));refine bz hh (tU _ _ _ (aU 18446744073709551616 (bu 18446744073709551616 xs)) _ (hcx.ext hh.below) hcd Tx Tx) rfl ?_;intro w9 hh;rw [dF Tx];generalize bu 18446744073709551616 xs = M at *;refine bh ?_;refine nP ?_;refine aI (aa (sr (mI ?_)));refine fU (n := (bC M + 7) / 8) hh rfl rfl Tx Tx bg.out aN.out rfl Tx Tx Ty ?_;intro b13 w13 hh;refine aL (aa (ah (sr (mI (mI (aa (aq ?_)))))));rw [pg] at hh;refine aP [5, 15, 16, 17, 18, 19, 20, 21, 22, 23, 24, 25, 26, 27, 28, 29, 30, 31, 32, 33, 34] 15
  (fun v w' => ∃ i : Nat, i ≤ (bC M + 7) / 8 ∧ v = .int .i64 i ∧ Hp w [.row (some ⟨b13, 0, none⟩) ((bC M + 7) / 8) ((bC M + 7) / 8) 5 1 (gl (List.replicate ((bC M + 7) / 8 - i) 0 ++ (bK 256 i M).reverse))] w')
  (fun v _ => (bC M + 7) / 8 - (intOf v).toNat) ?_ ?_
 ·exact ⟨0, Nat.zero_le _, rfl, by simpa [bK] using hh⟩
 ·clear hh;rintro ρ' v w' ⟨i, hi, rfl, hh⟩;by_cases hlt : i < (bC M + 7) / 8
  ·obtain ⟨ad, rfl, hr⟩ := hcx.at_ Tx;have hg := AR (B := 18446744073709551616) (n := M) (i := i / 8) Tx Tx;have hg2 := dY hg;have e1 : ((i : Int) % 8 * 8).toNat = i % 8 * 8 := Tx;refine sr ?_;refine bf (aa (ah (cT (ar (ai (ah (aq (sr (mI (aI (aa (al (mL (mI ?_))))))))))))));refine dT (mI ?_);refine dT (mL (mI ?_));refine nP ?_;refine cZ (k := i / 8) bg.out aN.size rfl rfl Tx Tx Ty ?_;refine gu ?_;refine mI ?_;refine rv ?_;refine mulC ?_;refine CM rfl rfl Tx Ty ?_;refine Lc bg.out bg.out rfl Ty ?_;refine cS (k := (bC M + 7) / 8 - 1 - i) bg.out aN.size rfl rfl Tx Tx Ty ?_;refine bL hh (i := 0) (vs := [_]) rfl rfl (cH rfl) rfl aN.out rfl (by rw [cN, List.length_append, List.length_reverse, List.length_replicate, aO]; omega) rfl ?_;intro ws hh;simp only [List.set_cons_zero] at hh;obtain ⟨k, hk⟩ : ∃ k, (bC M + 7) / 8 - i = k + 1 := ⟨(bC M + 7) / 8 - i - 1, Tx⟩;rw [e1, GM, Nat.mul_one, cM (by rw [cN, List.length_append, List.length_reverse, List.length_replicate, aO]; omega), pj, hk, show (bC M + 7) / 8 - 1 - i = k by omega, E0, ← List.reverse_concat, ← kL] at hh;refine fL ?_;refine bh (mI (aA (ai ?_)))
   refine ⟨⟨i + 1, Tx, rfl, by rw [show (bC M + 7) / 8 - (i + 1) = k by omega]; exact hh⟩, by show (bC M + 7) / 8 - (i + 1) < (bC M + 7) / 8 - i; omega, ?_⟩;exact dL
  ·obtain rfl : i = (bC M + 7) / 8 := Tx;have hfin : gl (List.replicate ((bC M + 7) / 8 - (bC M + 7) / 8) 0 ++ (bK 256 ((bC M + 7) / 8) M).reverse) = nC (sb M) := by
    rw [Nat.sub_self, List.replicate_zero, List.nil_append, ← hlen];exact Q7
   rw [hfin] at hh;refine sr ?_;refine nH ?_;exact NQ
theorem nG (A : Option Addr) (n c m : Nat) (xs : List Nat) (w : World) (hx : Sl w A n 1 (cY xs)) (hn : n ≤ 10000000000) (hm : m ≤ 10000000000) :
  Calls Tryz.prog 249 #[.slice A n c, .int .i64 m] w fun e w' => ∃ b, e = .returned (.slice (some ⟨b, 0, none⟩) (max m n) (max m n)) ∧ w'.ownsRow w.heap.size 204 1 (.slice (some ⟨b, 0, none⟩) (max m n) (max m n)) (max m n) (cY (xs ++ List.replicate (max m n - n) 0)) ∧ Below w.heap.size w w' := by
 have hl := hx.1;rw [a9] at hl;have hh := Hp.start w;refine aj (N := 15) (l := [.slice A n c, .int .i64 m]) Tryz.func249 rfl rfl (by simp) ?_;refine sr (aL (aa (sr (mI (mL (aJ ?_))))));refine kK rfl rfl Ty ?_;refine fU (n := max m n) hh rfl rfl Tx Tx bg.out aN.out rfl Tx Tx Ty ?_;intro b10 w10 hh;refine aL (aa (sr (mL (mL ?_))));rw [pB] at hh;refine Lp hh (i := 0) (o := 0) rfl rfl rfl (hx.ext hh.below) bg.out aN.out (by rw [a9, List.length_replicate]; omega) (dm _) Ty ?_;intro w13 hh;skip;have e1 : cm (cY (List.replicate (max m n) 0)) 0 ((cY xs).take (min n (max m n) * 1)) = cY (xs ++ List.replicate (max m n - n) 0) := by
  rw [List.take_of_length_le (by rw [a9]; omega), cm, List.take_zero, List.nil_append, a9, ← vH, ← Bz, List.drop_replicate];congr 3;omega
 simp only [List.set_cons_zero, e1] at hh;refine aa (sr (mL (aL (aa (av ?_)))));refine cX ?_;exact ⟨_, rfl, hh.at_ (i := 0) rfl, hh.below⟩
theorem C6 (A B : Option Addr) (n c m c' : Nat) (xs ys : List Nat) (w : World) (hx : Sl w A n 1 (cY xs)) (hy : Sl w B m 1 (cY ys)) (hdx : Dg 18446744073709551616 xs) (hdy : Dg 18446744073709551616 ys) (hc : n ≤ c) (hc' : m ≤ c') (hn : n ≤ 100000000000) (hm : m ≤ 100000000000) :
  Calls Tryz.prog 252 #[.slice A n c, .slice B m c'] w fun e w' => e = .returned (.int .i64 (kH (bu 18446744073709551616 xs) (bu 18446744073709551616 ys))) ∧ Below w.heap.size w w' := by
 have hlx := hx.1;have hly := hy.1;rw [a9] at hlx hly;have hcx := hx.xQ;have hcy := hy.xQ;have hxl := e7 xs;have hyl := e7 ys;have hx2 := Can.cut hdx;have hy2 := Can.cut hdy;have hh := Hp.start w;rw [← kV xs, ← kV ys];refine aj (N := 47) (l := [.slice A n c, .slice B m c']) Tryz.func252 rfl rfl (by simp) ?_;refine sr (aI (aa (sr (mL ?_))));refine bz hh (hH _ _ _ xs _ hx hc Tx) rfl ?_;intro w7 hh;refine mL ?_;refine bz hh (hH _ _ _ ys _ (hy.ext hh.below) hc' Tx) rfl ?_;intro w9 hh;generalize dD xs = us at *;generalize dD ys = vs at *;by_cases hlen : us.length = vs.length
 ·refine aL (aL (aa (ah (sr (mL (aJ (mL (aJ ?_))))))));refine cK (aa (cF (ar (ai (ah (sr (mL (aJ ?_))))))));refine dT (aI (aa (aq ?_)));refine aP [4, 5, 23, 24, 25, 26, 27, 28, 29, 30, 31, 32, 33, 34, 35, 36, 37, 38, 39, 40, 41, 42, 43, 44, 45, 46] 5
   (fun v w' => ∃ k : Nat, k ≤ us.length ∧ v = .int .i64 ((k : Int) - 1) ∧ us.drop k = vs.drop k ∧ Hp w [] w')
   (fun v _ => (intOf v + 1).toNat) ?_ ?_
  ·exact ⟨us.length, Nat.le_refl _, rfl, by rw [List.drop_length, List.drop_eq_nil_of_le Tx], hh⟩
  ·clear hh;rintro ρ' v w' ⟨k, hk, rfl, hd, hh⟩;by_cases h0 : k = 0
   ·subst h0;refine ah (sr (mI ?_));refine dR (aa (cF (aZ (aD (aD (bq (ai (sr (aI (aa (av ?_)))))))))));refine cX ?_;rw [List.drop_zero, List.drop_zero] at hd;rw [hd];exact ⟨by rw [E5 rfl], hh.below⟩
   ·obtain ⟨j, rfl⟩ : ∃ j, k = j + 1 := ⟨k - 1, Tx⟩;obtain ⟨x, hxj⟩ := ao (l := us) (k := j) Tx;obtain ⟨y, hyj⟩ := ao (l := vs) (k := j) Tx;obtain ⟨ad, rfl, hr⟩ := hcx.at_ Tx;obtain ⟨ad2, rfl, hs⟩ := hcy.at_ Tx;have hx3 := dY hxj;have hy3 := dY hyj;by_cases hlt : x < y
    ·have hf := vA hx2.1 hxj hyj hd hlt;refine ah (sr (mI ?_));refine Hz ?_;refine HX ?_;refine gk ?_;refine dE ?_;refine nT (j) ?_;refine zj ?_;refine gk ?_;refine dE ?_;refine nT (j) ?_;refine AW ?_;refine aT ?_;intro f W hJ hV;have hb_9 := hJ.bl;obtain ⟨v35, v34, v33, v32, v31, v30, v29, v28, _⟩ := hV;replace hh := hJ.hp;refine Jz ?_;dsimp only [cg];clear hJ;refine bf (aB (aa (cT (sr (aI (aa (av (bY (bY (aG (aG (bY (aG ?_)))))))))))));refine cX ?_;exact ⟨by rw [lN hf], hh.below⟩
    ·by_cases hgt : y < x
     ·have hf := vA hy2.1 hyj hxj hd.symm hgt;refine ah (sr (mI ?_));refine Hz ?_;refine HX ?_;refine gk ?_;refine dE ?_;refine nT (j) ?_;refine zj ?_;refine gk ?_;refine dE ?_;refine nT (j) ?_;refine AW ?_;refine aT ?_;intro f W hJ hV;have hb_9 := hJ.bl;obtain ⟨v35, v34, v33, v32, v31, v30, v29, v28, _⟩ := hV;replace hh := hJ.hp;refine Jz ?_;dsimp only [cg];clear hJ;refine bf (aB (aa (cF (ah ?_))));refine MV ?_;refine gk ?_;refine dE ?_;refine nT (j) ?_;refine zj ?_;refine gk ?_;refine dE ?_;refine nT (j) ?_;refine AW ?_;refine aT ?_;intro f W hJ hV;have hb_11 := hJ.bl;obtain ⟨v45, v44, v43, v42, v41, v40, v39, v38, _⟩ := hV;replace hh := hJ.hp;refine Oe ?_;dsimp only [cg];clear hJ;refine bM (aB (aa (cT (sr (aI (aa (av (bY (bY (aG (aG (bY (aG ?_)))))))))))));refine cX ?_;exact ⟨by rw [xU hf], hh.below⟩
     ·refine ah (sr (mI ?_));refine Hz ?_;refine HX ?_;refine gk ?_;refine dE ?_;refine nT (j) ?_;refine zj ?_;refine gk ?_;refine dE ?_;refine nT (j) ?_;refine AW ?_;refine aT ?_;intro f W hJ hV;have hb_9 := hJ.bl;obtain ⟨v35, v34, v33, v32, v31, v30, v29, v28, _⟩ := hV;replace hh := hJ.hp;refine Jz ?_;dsimp only [cg];clear hJ;refine bf (aB (aa (cF (ah ?_))));refine MV ?_;refine gk ?_;refine dE ?_;refine nT (j) ?_;refine zj ?_;refine gk ?_;refine dE ?_;refine nT (j) ?_;refine AW ?_;refine aT ?_;intro f W hJ hV;have hb_11 := hJ.bl;obtain ⟨v45, v44, v43, v42, v41, v40, v39, v38, _⟩ := hV;replace hh := hJ.hp;refine Oe ?_;dsimp only [cg];clear hJ;refine bM (aB (aa (cF (ar (bA (bA (ai (al (mI ?_)))))))));refine dT (aI (aA (ai ?_)));refine ⟨⟨j, Tx, by show Value.int _ _ = Value.int _ _; congr 1; omega, xE hxj hyj hd Tx, hh⟩, by show ((((j + 1 : Nat) : Int) - 1 - 1) + 1).toNat < ((((j + 1 : Nat) : Int) - 1) + 1).toNat; omega, ?_⟩;exact dL
 ·by_cases hlt : us.length < vs.length
  ·have hf : bu 18446744073709551616 us < bu 18446744073709551616 vs := by
    refine Nat.lt_of_not_le fun h => ?_;have := hy2.uH hx2 Tx h;omega
   refine aL (aL (aa (ah (sr (mL (aJ (mL (aJ ?_))))))));refine cK (aa (cT (ah (sr (mL (aJ (mL (aJ ?_))))))));refine bf (aa (cT (sr (aI (aa (av (aG (aG ?_))))))));refine cX ?_;exact ⟨by rw [lN hf], hh.below⟩
  ·have hf : bu 18446744073709551616 vs < bu 18446744073709551616 us := by
    refine Nat.lt_of_not_le fun h => ?_;have := hx2.uH hy2 Tx h;omega
   refine aL (aL (aa (ah (sr (mL (aJ (mL (aJ ?_))))))));refine cK (aa (cT (ah (sr (mL (aJ (mL (aJ ?_))))))));refine bf (aa (cF (ar (ai (sr (aI (aa (av (aG ?_)))))))));refine cX ?_;exact ⟨by rw [xU hf], hh.below⟩
theorem Ql {y m : Nat} (hy : y < 18446744073709551616) (hm : m < 18446744073709551616) : y * m ≤ 340282366920938463426481119284349108225 := Nat.mul_le_mul (by omega : y ≤ 18446744073709551615) (by omega : m ≤ 18446744073709551615)
theorem wx {x y m c P : Nat} (hx : x < 18446744073709551616) (hc : c < 18446744073709551616) (hP : P ≤ 340282366920938463426481119284349108225) (he : P = y * m) :
  (x + (P % 18446744073709551616 + c + 0) % 18446744073709551616 + 0) % 18446744073709551616 = (x + y * m + c) % 18446744073709551616 ∧ ((P / 18446744073709551616 + (P % 18446744073709551616 + c + 0) / 18446744073709551616) % 18446744073709551616 + (x + (P % 18446744073709551616 + c + 0) % 18446744073709551616 + 0) / 18446744073709551616) % 18446744073709551616 = (x + y * m + c) / 18446744073709551616 ∧ (x + y * m + c) / 18446744073709551616 < 18446744073709551616 := by
 rw [← he];omega
theorem yO {w0 : World} {H : List HE} {b M C c' ny cy m : Nat} {Y : Option Addr} (pre xs post ys : List Nat) (w : World) (hh : Hp w0 (.row (some ⟨b, 0, none⟩) M C 204 1 (cY (pre ++ xs ++ post)) :: H) w)
  (hy : ∀ w1 cs, Hp w0 (.row (some ⟨b, 0, none⟩) M C 204 1 cs :: H) w1 → Sl w1 Y ny 1 (cY ys)) (hxd : Dg 18446744073709551616 xs) (hyd : Dg 18446744073709551616 ys) (hm : m < 18446744073709551616) (hM : xs.length ≤ 100000000000) (hny : ny ≤ 100000000000) :
  Calls Tryz.prog 255 #[.slice (some ⟨b, pre.length, none⟩) xs.length c', .slice Y ny cy, .int .u64 (m : Int)] w fun e w' => e = .returned (.tuple #[]) ∧ Hp w0 (.row (some ⟨b, 0, none⟩) M C 204 1 (cY (pre ++ g7 18446744073709551616 xs ys m 0 ++ post)) :: H) w' := by
 have hly := (hy _ _ hh).1;rw [a9] at hly;refine aj (N := 56) (l := [.slice (some ⟨b, pre.length, none⟩) xs.length c', .slice Y ny cy, .int .u64 (m : Int)]) Tryz.func255 rfl rfl (by simp) ?_;refine sr (aI (aa (sr (mL (aJ (mI (aa (aq ?_))))))));refine bJ [6, 7, 8, 9, 10, 11, 14, 15, 16, 17, 18, 19, 20, 21, 22, 23, 24, 25, 26, 27, 28, 29, 30, 31, 32, 33, 34, 35, 36, 37, 38, 39, 40, 41, 42, 43, 44, 45, 46, 47, 48, 49, 50, 51, 52, 53, 54, 55] 6 14
  (fun c i w' => ∃ (done rest : List Nat) (cr : Nat), done.length + rest.length = xs.length ∧ i = .int .i64 done.length ∧ c = .int .u64 (cr : Int) ∧ cr < 18446744073709551616 ∧ Dg 18446744073709551616 rest ∧ done ++ g7 18446744073709551616 rest (ys.drop done.length) m cr = g7 18446744073709551616 xs ys m 0 ∧ Hp w0 (.row (some ⟨b, 0, none⟩) M C 204 1 (cY (pre ++ (done ++ rest) ++ post)) :: H) w')
  (fun _ i _ => xs.length - (intOf i).toNat) ?_ ?_
 ·exact ⟨[], xs, 0, by simp, rfl, rfl, Tx, hxd, rfl, hh⟩
 ·clear hh;rintro ρ' c i w' ⟨done, rest, cr, hlen, rfl, rfl, hcr, hrd, heq, hh⟩;by_cases hlt : done.length < xs.length
  ·obtain ⟨x, r, rfl⟩ : ∃ x r, rest = x :: r := by
    exact PQ
   have hx := hrd.head;have hg := dY (xW (pre := pre) (done := done) (r := r) (post := post) (x := x));have hlr : done.length + (r.length + 1) = xs.length := by simpa using hlen
   simp only [g7, tail_drop, s9] at heq;by_cases hiy : done.length < ny
   ·obtain ⟨y, hyk⟩ := ao (l := ys) (k := done.length) Tx;obtain ⟨ad, rfl, _⟩ := (hy _ _ hh).at_ Tx;rw [hyk, Option.getD_some] at heq;have hyw := hyd.at_ hyk;refine sr ?_;refine wa ?_;refine bf (aa (cT (al (mL (mI ?_)))));refine Ih ?_;refine bT aN.out rfl ((hy _ _ hh).OS hyk) Ty ?_;refine aI (aa (sr (mI (mI ?_))));obtain ⟨p1, p2, p3⟩ := wx (y := y) (m := m) hx hcr (Ql hyw hm) rfl;refine bz hh (rA y m _ hyw hm) rfl ?_;intro w28 hh;refine mT ?_;refine dq ?_;refine dq ?_;refine aI (aI (aa (sr (mI (mI ?_)))));refine kr (jD (y * m % 18446744073709551616) cr 0 Tx _) (aw (cH rfl) (aw (cH rfl) (aw rfl aX))) Ty ?_;refine mT ?_;refine dq ?_;refine dq ?_;refine aI (aI (aa (sr (mI (mI ?_)))));refine ix rfl rfl Ty ?_;refine aI (aa (sr (mL (mI (mL (mI ?_))))));refine om bg.out aN.size rfl rfl rfl Tx Ty ?_;refine jm ?_;refine mI ?_;refine kr (jD x ((y * m % 18446744073709551616 + cr + 0) % 18446744073709551616) 0 Tx _) (aw (cH rfl) (aw (cH rfl) (aw rfl aX))) Ty ?_;refine mT ?_;refine dq ?_;refine dq ?_;refine nI ?_;refine xd ?_;intro ws hh;simp only [List.set_cons_zero] at hh;rw [p1, Nat.mul_one, cM (by rw [a9]; simp only [List.length_append, List.length_cons]; omega), fN, mY] at hh
    refine aI (aa (al (mI (mI ?_))));refine ix rfl rfl Ty ?_;refine vB ?_;refine bh (mI (aA (ai ?_)));rw [p2];refine ⟨⟨done ++ [(x + y * m + cr) % 18446744073709551616], r, _, by simp; omega, by rw [List.length_append]; rfl, rfl, p3, hrd.tail, ?_, hh⟩, by show xs.length - (done.length + 1) < xs.length - done.length; omega, ?_⟩
    ·rw [← heq, List.append_assoc, List.length_append]; rfl
    exact TA
   ·rw [List.getElem?_eq_none Tx, Option.getD_none] at heq;have h0w : (0 : Nat) < 18446744073709551616 := Tx;refine sr ?_;refine wa ?_;refine bf (aa (cF (ar (ai (sr (mI (mI ?_)))))));obtain ⟨p1, p2, p3⟩ := wx (y := 0) (m := m) hx hcr (Ql h0w hm) rfl;refine bz hh (rA 0 m _ h0w hm) rfl ?_;intro w28 hh;refine mT ?_;refine dq ?_;refine dq ?_;refine aI (aI (aa (sr (mI (mI ?_)))));refine kr (jD (0 * m % 18446744073709551616) cr 0 Tx _) (aw (cH rfl) (aw (cH rfl) (aw rfl aX))) Ty ?_;refine mT ?_;refine dq ?_;refine dq ?_;refine aI (aI (aa (sr (mI (mI ?_)))));refine ix rfl rfl Ty ?_;refine aI (aa (sr (mL (mI (mL (mI ?_))))));refine om bg.out aN.size rfl rfl rfl Tx Ty ?_;refine jm ?_;refine mI ?_;refine kr (jD x ((0 * m % 18446744073709551616 + cr + 0) % 18446744073709551616) 0 Tx _) (aw (cH rfl) (aw (cH rfl) (aw rfl aX))) Ty ?_;refine mT ?_;refine dq ?_;refine dq ?_;refine nI ?_;refine xd ?_;intro ws hh;simp only [List.set_cons_zero] at hh;rw [p1, Nat.mul_one, cM (by rw [a9]; simp only [List.length_append, List.length_cons]; omega), fN, mY] at hh;refine aI (aa (al (mI (mI ?_))));refine ix rfl rfl Ty ?_;refine vB ?_;refine bh (mI (aA (ai ?_)));rw [p2]
    refine ⟨⟨done ++ [(x + 0 * m + cr) % 18446744073709551616], r, _, by simp; omega, by rw [List.length_append]; rfl, rfl, p3, hrd.tail, ?_, hh⟩, by show xs.length - (done.length + 1) < xs.length - done.length; omega, ?_⟩
    ·rw [← heq, List.append_assoc, List.length_append]; rfl
    exact TA
  ·exact Rg
theorem za {w0 : World} {H : List HE} {b M C c' ny cy : Nat} {Y : Option Addr} (pre xs post ys : List Nat) (w : World) (hh : Hp w0 (.row (some ⟨b, 0, none⟩) M C 204 1 (cY (pre ++ xs ++ post)) :: H) w)
  (hy : ∀ w1 cs, Hp w0 (.row (some ⟨b, 0, none⟩) M C 204 1 cs :: H) w1 → Sl w1 Y ny 1 (cY ys)) (hxd : Dg 18446744073709551616 xs) (hyd : Dg 18446744073709551616 ys) (hM : xs.length ≤ 100000000000) (hny : ny ≤ 100000000000) (hsub : zG 18446744073709551616 xs ys 0 = 0) :
  Calls Tryz.prog 253 #[.slice (some ⟨b, pre.length, none⟩) xs.length c', .slice Y ny cy] w fun e w' => e = .returned (.bool true) ∧ Hp w0 (.row (some ⟨b, 0, none⟩) M C 204 1 (cY (pre ++ rT 18446744073709551616 xs ys 0 ++ post)) :: H) w' := by
 have hly := (hy _ _ hh).1;rw [a9] at hly;refine aj (N := 37) (l := [.slice (some ⟨b, pre.length, none⟩) xs.length c', .slice Y ny cy]) Tryz.func253 rfl rfl (by simp) ?_;refine sr (aB (aa (sr (aI (aa (ah (sr (mL (aJ (mI (aa (aq ?_))))))))))));refine bJ [5, 6, 7, 10, 11, 12, 13, 14, 15, 16, 17, 18, 19, 20, 21, 22, 23, 24, 25, 26, 27, 28, 29, 30, 31, 32, 33, 34] 5 10
  (fun c i w' => ∃ (done rest : List Nat) (cr : Nat), done.length + rest.length = xs.length ∧ i = .int .i64 done.length ∧ c = .int .u64 (cr : Int) ∧ cr ≤ 1 ∧ Dg 18446744073709551616 rest ∧ done ++ rT 18446744073709551616 rest (ys.drop done.length) cr = rT 18446744073709551616 xs ys 0 ∧ zG 18446744073709551616 rest (ys.drop done.length) cr = 0 ∧ Hp w0 (.row (some ⟨b, 0, none⟩) M C 204 1 (cY (pre ++ (done ++ rest) ++ post)) :: H) w')
  (fun _ i _ => xs.length - (intOf i).toNat) ?_ ?_
 ·exact ⟨[], xs, 0, by simp, rfl, rfl, Tx, hxd, rfl, hsub, hh⟩
 ·clear hh;rintro ρ' c i w' ⟨done, rest, cr, hlen, rfl, rfl, hcr, hrd, heq, hsb, hh⟩;by_cases hlt : done.length < xs.length
  ·obtain ⟨x, r, rfl⟩ : ∃ x r, rest = x :: r := by
    exact PQ
   have hx := hrd.head;have hg := dY (xW (pre := pre) (done := done) (r := r) (post := post) (x := x));have hlr : done.length + (r.length + 1) = xs.length := by simpa using hlen
   simp only [rT, zG, tail_drop, s9] at heq hsb;by_cases hiy : done.length < ny
   ·obtain ⟨y, hyk⟩ := ao (l := ys) (k := done.length) Tx;obtain ⟨ad, rfl, _⟩ := (hy _ _ hh).at_ Tx;rw [hyk, Option.getD_some] at heq hsb;have hyw := hyd.at_ hyk;refine sr ?_;refine wa ?_;refine bf (aa (cT (al (mL (mI ?_)))));refine Ih ?_;refine bT aN.out rfl ((hy _ _ hh).OS hyk) Ty ?_;refine aI (aa (al (mL (mI (mL (mI ?_))))));refine nI ?_;refine jm ?_;refine mI (mI ?_);refine kr (wO x y cr hcr _) (aw (cH rfl) (aw (cH rfl) (aw (cH rfl) aX))) Ty ?_;refine mT ?_;refine dq ?_;refine dq ?_;refine nI ?_;refine xd ?_;intro ws hh;simp only [List.set_cons_zero] at hh;rw [Nat.mul_one, cM (by rw [a9]; simp only [List.length_append, List.length_cons]; omega), fN, mY] at hh;refine vB ?_;refine bh (mI (aA (ai ?_)));refine ⟨⟨done ++ [(x + 18446744073709551616 - y - cr) % 18446744073709551616], r, _, by simp; omega, by rw [List.length_append]; rfl, rfl, by split <;> omega, hrd.tail, ?_, ?_, hh⟩, by show xs.length - (done.length + 1) < xs.length - done.length; omega, ?_⟩
    ·rw [← heq, List.append_assoc, List.length_append]; rfl
    ·rw [List.length_append]; exact hsb
    exact TA
   ·rw [List.getElem?_eq_none Tx, Option.getD_none] at heq hsb;refine sr ?_;refine wa ?_;refine bf (aa (cF (ar (ai (al (mL (mI (mL (mI ?_)))))))));refine nI ?_;refine jm ?_;refine mI (mI ?_);refine kr (wO x 0 cr hcr _) (aw (cH rfl) (aw (cH rfl) (aw (cH rfl) aX))) Ty ?_;refine mT ?_;refine dq ?_;refine dq ?_;refine nI ?_;refine xd ?_;intro ws hh;simp only [List.set_cons_zero] at hh;rw [Nat.mul_one, cM (by rw [a9]; simp only [List.length_append, List.length_cons]; omega), fN, mY] at hh;refine vB ?_;refine bh (mI (aA (ai ?_)));refine ⟨⟨done ++ [(x + 18446744073709551616 - 0 - cr) % 18446744073709551616], r, _, by simp; omega, by rw [List.length_append]; rfl, rfl, by split <;> omega, hrd.tail, ?_, ?_, hh⟩, by show xs.length - (done.length + 1) < xs.length - done.length; omega, ?_⟩
    ·rw [← heq, List.append_assoc, List.length_append]; rfl
    ·rw [List.length_append]; exact hsb
    exact TA
  ·have hr0 : rest = [] := List.eq_nil_of_length_eq_zero Tx;subst hr0;obtain rfl : cr = 0 := hsb;refine sr ?_;refine bf (aa (ah (cF (aZ (aD (aD (bq (ai (sr (mI ?_))))))))));refine cW (aB (aa (av ?_)));refine cX ?_;rw [List.append_nil, rT, List.append_nil] at *;rw [← heq];exact ⟨rfl, hh⟩
theorem CU {w0 : World} {H : List HE} {b M C c' ny cy : Nat} {Y : Option Addr} (pre xs post ys : List Nat) (w : World) (hh : Hp w0 (.row (some ⟨b, 0, none⟩) M C 204 1 (cY (pre ++ xs ++ post)) :: H) w)
  (hy : ∀ w1 cs, Hp w0 (.row (some ⟨b, 0, none⟩) M C 204 1 cs :: H) w1 → Sl w1 Y ny 1 (cY ys)) (hxd : Dg 18446744073709551616 xs) (hyd : Dg 18446744073709551616 ys) (hM : xs.length ≤ 100000000000) (hny : ny ≤ 100000000000) :
  Calls Tryz.prog 250 #[.slice (some ⟨b, pre.length, none⟩) xs.length c', .slice Y ny cy] w fun e w' => e = .returned (.tuple #[]) ∧ Hp w0 (.row (some ⟨b, 0, none⟩) M C 204 1 (cY (pre ++ g7 18446744073709551616 xs ys 1 0 ++ post)) :: H) w' := by
 have hly := (hy _ _ hh).1;rw [a9] at hly;refine aj (N := 34) (l := [.slice (some ⟨b, pre.length, none⟩) xs.length c', .slice Y ny cy]) Tryz.func250 rfl rfl (by simp) ?_;refine sr (aI (aa (sr (mL (aJ (mI (aa (aq ?_))))))));refine bJ [4, 5, 6, 9, 10, 11, 12, 13, 14, 15, 16, 17, 18, 19, 20, 21, 22, 23, 24, 25, 26, 27, 28, 29, 30, 31, 32, 33] 4 9
  (fun c i w' => ∃ (done rest : List Nat) (cr : Nat), done.length + rest.length = xs.length ∧ i = .int .i64 done.length ∧ c = .int .u64 (cr : Int) ∧ cr ≤ 1 ∧ Dg 18446744073709551616 rest ∧ done ++ g7 18446744073709551616 rest (ys.drop done.length) 1 cr = g7 18446744073709551616 xs ys 1 0 ∧ Hp w0 (.row (some ⟨b, 0, none⟩) M C 204 1 (cY (pre ++ (done ++ rest) ++ post)) :: H) w')
  (fun _ i _ => xs.length - (intOf i).toNat) ?_ ?_
 ·exact ⟨[], xs, 0, by simp, rfl, rfl, Tx, hxd, rfl, hh⟩
 ·clear hh;rintro ρ' c i w' ⟨done, rest, cr, hlen, rfl, rfl, hcr, hrd, heq, hh⟩;by_cases hlt : done.length < xs.length
  ·obtain ⟨x, r, rfl⟩ : ∃ x r, rest = x :: r := by
    exact PQ
   have hx := hrd.head;have hg := dY (xW (pre := pre) (done := done) (r := r) (post := post) (x := x));have hlr : done.length + (r.length + 1) = xs.length := by simpa using hlen
   simp only [g7, tail_drop, s9, Nat.mul_one] at heq;by_cases hiy : done.length < ny
   ·obtain ⟨y, hyk⟩ := ao (l := ys) (k := done.length) Tx;obtain ⟨ad, rfl, _⟩ := (hy _ _ hh).at_ Tx;rw [hyk, Option.getD_some] at heq;have hyw := hyd.at_ hyk;refine sr ?_;refine wa ?_;refine bf (aa (cT (al (mL (mI ?_)))));refine Ih ?_;refine bT aN.out rfl ((hy _ _ hh).OS hyk) Ty ?_;refine aI (aa (al (mL (mI (mL (mI ?_))))));refine nI ?_;refine jm ?_;refine mI (mI ?_);refine kr (jD x y cr hcr _) (aw (cH rfl) (aw (cH rfl) (aw (cH rfl) aX))) Ty ?_;refine mT ?_;refine dq ?_;refine dq ?_;refine nI ?_;refine xd ?_;intro ws hh;simp only [List.set_cons_zero] at hh;rw [Nat.mul_one, cM (by rw [a9]; simp only [List.length_append, List.length_cons]; omega), fN, mY] at hh;refine vB ?_;refine bh (mI (aA (ai ?_)));refine ⟨⟨done ++ [(x + y + cr) % 18446744073709551616], r, _, by simp; omega, by rw [List.length_append]; rfl, rfl, Tx, hrd.tail, ?_, hh⟩, by show xs.length - (done.length + 1) < xs.length - done.length; omega, ?_⟩
    ·rw [← heq, List.append_assoc, List.length_append]; rfl
    exact TA
   ·rw [List.getElem?_eq_none Tx, Option.getD_none] at heq;refine sr ?_;refine wa ?_;refine bf (aa (cF (ar (ai (al (mL (mI (mL (mI ?_)))))))));refine nI ?_;refine jm ?_;refine mI (mI ?_);refine kr (jD x 0 cr hcr _) (aw (cH rfl) (aw (cH rfl) (aw (cH rfl) aX))) Ty ?_;refine mT ?_;refine dq ?_;refine dq ?_;refine nI ?_;refine xd ?_;intro ws hh;simp only [List.set_cons_zero] at hh;rw [Nat.mul_one, cM (by rw [a9]; simp only [List.length_append, List.length_cons]; omega), fN, mY] at hh;refine vB ?_;refine bh (mI (aA (ai ?_)));refine ⟨⟨done ++ [(x + 0 + cr) % 18446744073709551616], r, _, by simp; omega, by rw [List.length_append]; rfl, rfl, Tx, hrd.tail, ?_, hh⟩, by show xs.length - (done.length + 1) < xs.length - done.length; omega, ?_⟩
    ·rw [← heq, List.append_assoc, List.length_append]; rfl
    exact TA
  ·exact Rg
theorem LH {k i n d : Nat} (D : Nat) (hD : D < 18446744073709551616 ^ i) (hd : d < 18446744073709551616) (hk : i + n / 64 + 1 < k) :
  (D * 2 ^ n) / 18446744073709551616 ^ (i + n / 64) % 18446744073709551616 < 2 ^ (n % 64) ∧ d * 2 ^ (n % 64) % 18446744073709551616 = (d % 2 ^ (64 - n % 64)) * 2 ^ (n % 64) ∧
  (bK 18446744073709551616 k (D * 2 ^ n)).set (i + n / 64) ((D * 2 ^ n) / 18446744073709551616 ^ (i + n / 64) % 18446744073709551616 + d * 2 ^ (n % 64) % 18446744073709551616) = bK 18446744073709551616 k (D * 2 ^ n + 18446744073709551616 ^ (i + n / 64) * (d * 2 ^ (n % 64) % 18446744073709551616)) ∧
  (D * 2 ^ n + 18446744073709551616 ^ (i + n / 64) * (d * 2 ^ (n % 64) % 18446744073709551616)) / 18446744073709551616 ^ (i + n / 64 + 1) % 18446744073709551616 = 0 ∧
  (bK 18446744073709551616 k (D * 2 ^ n + 18446744073709551616 ^ (i + n / 64) * (d * 2 ^ (n % 64) % 18446744073709551616))).set (i + n / 64 + 1) (d / 2 ^ (64 - n % 64)) = bK 18446744073709551616 k ((D + 18446744073709551616 ^ i * d) * 2 ^ n) ∧
  (n % 64 = 0 → D * 2 ^ n + 18446744073709551616 ^ (i + n / 64) * (d * 2 ^ (n % 64) % 18446744073709551616) = (D + 18446744073709551616 ^ i * d) * 2 ^ n) := by
 have hW : (18446744073709551616 : Nat) = 2 ^ 64 := by decide
 have hs : n % 64 < 64 := Nat.mod_lt _ Tx;have hn : 2 ^ n = 18446744073709551616 ^ (n / 64) * 2 ^ (n % 64) := by
  rw [hW, ← Nat.pow_mul, ← Nat.pow_add]; congr 1; omega
 generalize hq : n / 64 = q at *;generalize hse : n % 64 = s at *;have e : (18446744073709551616 : Nat) = 2 ^ (64 - s) * 2 ^ s := by rw [← Nat.pow_add, hW]; congr 1; omega
 have hpos : 0 < 2 ^ s := Nat.pow_pos Tx;have hwp : ∀ j : Nat, 0 < 18446744073709551616 ^ j := fun j => Nat.pow_pos Ty;have hP : D * 2 ^ n < 18446744073709551616 ^ (i + q) * 2 ^ s := by
  rw [hn, ← Nat.mul_assoc, Nat.pow_add];exact Nat.mul_lt_mul_of_pos_right (Nat.mul_lt_mul_of_pos_right hD (hwp q)) hpos
 have h1 : (D * 2 ^ n) / 18446744073709551616 ^ (i + q) < 2 ^ s := by rw [Nat.div_lt_iff_lt_mul (hwp _), Nat.mul_comm (2 ^ s)]; exact hP
 have hsW : 2 ^ s ≤ 18446744073709551616 := by rw [hW]; exact Nat.pow_le_pow_right Tx Tx
 have h2 : d * 2 ^ s % 18446744073709551616 = (d % 2 ^ (64 - s)) * 2 ^ s := by rw [e, Nat.mul_mod_mul_right]
 have h3 : (d % 2 ^ (64 - s) + 1) * 2 ^ s ≤ 18446744073709551616 := by
  rw [e];exact Nat.mul_le_mul_right _ (Nat.mod_lt _ (Nat.pow_pos Tx))
 rw [Nat.succ_mul] at h3;have h4 : (D * 2 ^ n) / 18446744073709551616 ^ (i + q) % 18446744073709551616 = (D * 2 ^ n) / 18446744073709551616 ^ (i + q) := Nat.mod_eq_of_lt Tx;have hlt1 : D * 2 ^ n + 18446744073709551616 ^ (i + q) * (d * 2 ^ s % 18446744073709551616) < 18446744073709551616 ^ (i + q + 1) := by
  rw [h2, Nat.pow_succ];have : 18446744073709551616 ^ (i + q) * ((d % 2 ^ (64 - s)) * 2 ^ s + 2 ^ s) ≤ 18446744073709551616 ^ (i + q) * 18446744073709551616 := Nat.mul_le_mul_left _ h3;rw [Nat.mul_add] at this;omega
 have hup := On (d := d) (s := s) hd Tx;have hfin : D * 2 ^ n + 18446744073709551616 ^ (i + q) * (d * 2 ^ s % 18446744073709551616) + 18446744073709551616 ^ (i + q + 1) * (d / 2 ^ (64 - s)) = (D + 18446744073709551616 ^ i * d) * 2 ^ n := by
  have h5 : 18446744073709551616 ^ (i + q) * (d * 2 ^ s % 18446744073709551616) + 18446744073709551616 ^ (i + q + 1) * (d / 2 ^ (64 - s)) = 18446744073709551616 ^ (i + q) * (d * 2 ^ s) := by
   conv => rhs; rw [← hup.1, Nat.mul_add]
   rw [Nat.pow_succ, Nat.mul_assoc, Nat.mul_comm 18446744073709551616]
  rw [Nat.add_assoc, h5, Nat.add_mul, hn, Nat.pow_add];congr 1;simp only [Nat.mul_assoc, Nat.mul_left_comm, Nat.mul_comm]
 have hbig : ∀ j, j < k → 18446744073709551616 ^ j * 18446744073709551616 ≤ 18446744073709551616 ^ k := fun j hj => by rw [← Nat.pow_succ]; exact Nat.pow_le_pow_right Ty hj
 have hb1 := hbig (i + q) Tx;rw [← Nat.pow_succ] at hb1;refine ⟨by rw [h4]; exact h1, h2, ?_, ?_, ?_, ?_⟩
 ·exact oP Ty Tx Tx (by rw [h4, h2]; omega)
 ·rw [Nat.div_eq_of_lt hlt1]
 ·have h6 : (D * 2 ^ n + 18446744073709551616 ^ (i + q) * (d * 2 ^ s % 18446744073709551616)) / 18446744073709551616 ^ (i + q + 1) % 18446744073709551616 = 0 := by rw [Nat.div_eq_of_lt hlt1]
  have h7 : d / 2 ^ (64 - s) < 18446744073709551616 := Nat.lt_of_le_of_lt (Nat.div_le_self _ _) hd;have h8 := oP (B := 18446744073709551616) (k := k) (n := D * 2 ^ n + 18446744073709551616 ^ (i + q) * (d * 2 ^ s % 18446744073709551616)) (j := i + q + 1) (v := d / 2 ^ (64 - s)) Ty hk ?_ (by rw [h6]; omega)
  ·rw [h6, Nat.zero_add, hfin] at h8;exact h8
  ·have h9 : 18446744073709551616 ^ (i + q + 1) * (d / 2 ^ (64 - s) + 1) ≤ 18446744073709551616 ^ (i + q + 1) * 18446744073709551616 := Nat.mul_le_mul_left _ h7;have h10 := hbig (i + q + 1) hk;rw [Nat.mul_succ] at h9;omega
 ·intro h0;subst h0;rw [← hfin];have : d / 2 ^ (64 - 0) = 0 := Nat.div_eq_of_lt (by rw [← hW]; exact hd);rw [this];simp
theorem GY (A : Option Addr) (n c m : Nat) (xs : List Nat) (w : World) (hx : Sl w A n 1 (cY xs)) (hd : Dg 18446744073709551616 xs) (hn : n ≤ 1000000000) (hm : m ≤ 10000000000) :
  Calls Tryz.prog 246 #[.slice A n c, .int .i64 (m : Int)] w fun e w' => ∃ A c, e = .returned (.slice A (aU 18446744073709551616 (bu 18446744073709551616 xs * 2 ^ m)).length c) ∧ w'.ownsRow w.heap.size 204 1 (.slice A (aU 18446744073709551616 (bu 18446744073709551616 xs * 2 ^ m)).length c) (aU 18446744073709551616 (bu 18446744073709551616 xs * 2 ^ m)).length (cY (aU 18446744073709551616 (bu 18446744073709551616 xs * 2 ^ m))) ∧ Below w.heap.size w w' := by
 have hl := hx.1;rw [a9] at hl;have hh := Hp.start w;have hs1 : ((m : Int) % 64).toNat = m % 64 := Tx;refine aj (N := 55) (l := [.slice A n c, .int .i64 (m : Int)]) Tryz.func246 rfl rfl (by simp) ?_;refine sr (aL (aa (sr (mL (aJ (mI ?_))))));refine nP ?_;refine bh ?_;refine bh ?_;refine fU (n := n + m / 64 + 1) hh rfl rfl Tx Tx bg.out aN.out rfl Tx Tx Ty ?_;intro b15 w15 hh;refine rz ?_;rw [pB] at hh;refine aP [6, 7, 8, 18, 19, 20, 21, 22, 23, 24, 25, 26, 27, 28, 29, 30, 31, 32, 33, 34, 35, 36, 37, 38, 39, 40, 41, 42, 43, 44, 45, 46, 47, 48, 49, 50, 51, 52] 18
  (fun v w' => ∃ i : Nat, i ≤ n ∧ v = .int .i64 i ∧ Hp w [.row (some ⟨b15, 0, none⟩) (n + m / 64 + 1) (n + m / 64 + 1) 204 1 (cY (bK 18446744073709551616 (n + m / 64 + 1) (bu 18446744073709551616 (xs.take i) * 2 ^ m)))] w')
  (fun v _ => n - (intOf v).toNat) ?_ ?_
 ·exact ⟨0, Nat.zero_le _, rfl, by rw [List.take_zero, bu, Nat.zero_mul, qu]; exact hh⟩
 ·clear hh;rintro ρ' v w' ⟨i, hi, rfl, hh⟩;by_cases hlt : i < n
  ·obtain ⟨d, hdi⟩ := ao (l := xs) (k := i) Tx;obtain ⟨ad, rfl, hr⟩ := hx.at_ Tx;have hd2 := dY hdi;have hdw := hd.at_ hdi;have hD := iB (hd.take i);rw [List.length_take, Nat.min_eq_left Tx] at hD;obtain ⟨s1, s2, s3, s4, s5, s6⟩ := LH (k := n + m / 64 + 1) (n := m) (bu 18446744073709551616 (xs.take i)) hD hdw Tx;have hg := dY (iz (B := 18446744073709551616) (n + m / 64 + 1) (bu 18446744073709551616 (xs.take i) * 2 ^ m) (i + m / 64) Tx);refine sr ?_;refine dZ ?_;refine cZ bg.out aN.size rfl rfl rfl Tx Ty ?_;refine gu ?_;refine aI (aI (aa (sr (mI (mI ?_)))));refine nP ?_;refine bh (aI (aa (ah ?_)));refine aY 8 [[(5, none)], [(8, none)], [(27, some 0), (28, some 1)], [(29, some 2)], [(7, none)], [(1, none)], [(32, some 5)], [(31, some 4), (33, some 6)]] [(7, 34), (6, 33), (5, 32), (4, 31), (3, 30), (2, 29), (1, 28), (0, 27)] hh mixed Tz ?_;refine gk ?_;refine dE ?_;refine BQ (i + m / 64) ?_;refine bp (i := 3) (fun ρ1 w1 hj hR => jv aN.out (show ρ1 29 = Value.pointer _ from hR.1) (hj.hp.fR (i := 0) rfl (by rw [Nat.mul_one]; exact hg))) ?_;refine dE ?_;refine dE ?_;refine bp (i := 6) (fun ρ1 w1 hj hR => nW (show ρ1 32 = Value.int _ _ from hR.1) rfl Tx Tx) ?_
   refine bp (i := 7) (fun ρ1 w1 hj hR => xZ (show ρ1 31 = Value.int _ _ from hR.1) (show ρ1 33 = Value.int _ _ from hR.2.1) Tx) ?_;refine aT ?_;intro f W hJ hV;have hb_6 := hJ.bl;obtain ⟨v34, v33, v32, v31, v30, v29, v28, v27, _⟩ := hV;replace hh := hJ.hp;refine a6 (bm (ae v34 (ae v33 (ae v32 (ae v31 (ae v30 (ae v29 (ae v28 (ae v27 a0))))))))) ?_;dsimp only [cg];clear hJ;refine DF ?_;refine cS (k := i + m / 64) bg.out aN.size rfl rfl Tx Tx Ty ?_;refine HF ?_;intro ws hh;simp only [List.set_cons_zero] at hh;rw [hs1, s2, Cj s1, ← s2, Nat.mul_one, cM (by rw [a9, aO]; omega), fN, s3] at hh;by_cases h0 : m % 64 = 0
   ·refine aa (sr (mI ?_));refine rv ?_;refine bM (aa (cF (ar (bA (ai (al ?_))))));refine bh (mI (aA (ai ?_)));rw [s6 h0, ← fh hdi] at hh;exact HK
   ·have hg2 := dY (iz (B := 18446744073709551616) (n + m / 64 + 1) (bu 18446744073709551616 (xs.take i) * 2 ^ m + 18446744073709551616 ^ (i + m / 64) * (d * 2 ^ (m % 64) % 18446744073709551616)) (i + m / 64 + 1) Tx);rw [s4] at hg2;have hs2 : (64 - (m : Int) % 64).toNat = 64 - m % 64 := Tx;have hd64 : d / 2 ^ (64 - (m : Int) % 64).toNat < 18446744073709551616 := Nat.lt_of_le_of_lt (Nat.div_le_self _ _) hdw;have h0w : (0 : Nat) < 18446744073709551616 := Tx;refine aa (sr (mI ?_));refine rv ?_;refine bM (aa (cT ?_));refine aY 10 [[(5, none)], [(8, none)], [(41, some 1)], [(40, some 0), (42, some 2)], [(43, some 3)], [(7, none)], [(1, none)], [(46, some 6)], [(47, some 7)], [(45, some 5), (48, some 8)]] [(9, 49), (8, 48), (7, 47), (6, 46), (5, 45), (4, 44), (3, 43), (2, 42), (1, 41), (0, 40)] hh mixed Tz ?_;refine gk ?_;refine dE ?_;refine rP ?_;refine BQ (i + m / 64 + 1) ?_;refine bp (i := 4) (fun ρ1 w1 hj hR => jv aN.out (show ρ1 43 = Value.pointer _ from hR.1) (hj.hp.fR (i := 0) rfl (by rw [Nat.mul_one]; exact hg2))) ?_;refine dE ?_;refine dE ?_;refine bp (i := 7) (fun ρ1 w1 hj hR => nW (show ρ1 46 = Value.int _ _ from hR.1) rfl Tx Tx) ?_;refine uX ?_
    refine bp (i := 9) (fun ρ1 w1 hj hR => BX (show ρ1 45 = Value.int _ _ from hR.1) (show ρ1 48 = Value.int _ _ from hR.2.1) Tx) ?_;refine aT ?_;intro f W hJ hV;have hb_8 := hJ.bl;obtain ⟨v49, v48, v47, v46, v45, v44, v43, v42, v41, v40, _⟩ := hV;replace hh := hJ.hp;refine a6 (bm (ae v49 (ae v48 (ae v47 (ae v46 (ae v45 (ae v44 (ae v43 (ae v42 (ae v41 (ae v40 a0))))))))))) ?_;dsimp only [cg];clear hJ;refine DF ?_;refine cS (k := i + m / 64 + 1) bg.out aN.size rfl rfl Tx Tx Ty ?_;refine HF ?_;intro ws hh;simp only [List.set_cons_zero] at hh;rw [hs2, Nat.zero_or, Nat.mul_one, cM (by rw [a9, aO]; omega), fN, s5, ← fh hdi] at hh;refine fL ?_;refine bh (mI (aA (ai ?_)));exact HK
  ·refine sr ?_;refine nH ?_;rw [List.take_of_length_le Tx] at hh;refine bz hh (hH _ _ _ (bK 18446744073709551616 (n + m / 64 + 1) (bu 18446744073709551616 xs * 2 ^ m)) _ (hh.aC (i := 0) rfl) (Nat.le_refl _) Tx) rfl ?_;intro w54 hh;refine aL (aa (av ?_));refine cX ?_;have hbd : bu 18446744073709551616 xs * 2 ^ m < 18446744073709551616 ^ (n + m / 64 + 1) := by
    have h1 := iB hd;rw [show xs.length = n by omega] at h1;have h2 : 2 ^ m ≤ 18446744073709551616 ^ (m / 64 + 1) := by
     exact P9
    rw [show n + m / 64 + 1 = n + (m / 64 + 1) by omega, Nat.pow_add];exact Nat.lt_of_lt_of_le (Nat.mul_lt_mul_of_pos_right h1 (Nat.pow_pos Tx)) (Nat.mul_le_mul_left _ h2)
   have hd : dD (bK 18446744073709551616 (n + m / 64 + 1) (bu 18446744073709551616 xs * 2 ^ m)) = aU 18446744073709551616 (bu 18446744073709551616 xs * 2 ^ m) := by
    exact PY
   have h1 := (Hp.Ec (xs := bK 18446744073709551616 (n + m / 64 + 1) (bu 18446744073709551616 xs * 2 ^ m)) hh (aO _ _)).at_ (i := 0) rfl;exact LD
theorem Sl.OA {w : World} {ad : Addr} {n : Nat} {xs : List Nat} (h : Sl w (some ad) n 1 (cY xs)) {k : Nat} (hk : k < n) : Sl w (some (ad.add (k * 1))) (n - k) 1 (cY (xs.drop k)) := by
 have hl := h.1;rw [a9] at hl;refine ⟨by rw [a9, List.length_drop]; omega, fun h0 => ⟨_, rfl, ?_⟩⟩;obtain ⟨ad', he, hr⟩ := h.2 Tx;injection he with he
 subst he;rw [Nat.mul_one, vH];exact hr.drop k
theorem F4 {N j s : Nat} (hs : s < 64) (h0 : 0 < s) :
  (N / 18446744073709551616 ^ (j + 1) % 18446744073709551616) * 2 ^ (64 - s) % 18446744073709551616 = N / 18446744073709551616 ^ (j + 1) % 2 ^ s * 2 ^ (64 - s) ∧
  (N / 18446744073709551616 ^ j % 18446744073709551616 / 2 ^ s ||| (N / 18446744073709551616 ^ (j + 1) % 18446744073709551616) * 2 ^ (64 - s) % 18446744073709551616) = N / 2 ^ (64 * j + s) % 18446744073709551616 := by
 have hW : (18446744073709551616 : Nat) = 2 ^ 64 := by decide
 have e : (18446744073709551616 : Nat) = 2 ^ s * 2 ^ (64 - s) := by rw [← Nat.pow_add, hW]; congr 1; omega
 have h1 : (N / 18446744073709551616 ^ (j + 1) % 18446744073709551616) * 2 ^ (64 - s) % 18446744073709551616 = N / 18446744073709551616 ^ (j + 1) % 2 ^ s * 2 ^ (64 - s) := by
  generalize N / 18446744073709551616 ^ (j + 1) = m;rw [e, Nat.mul_mod_mul_right, Nat.mod_mul_right_mod]
 obtain ⟨h2, h3⟩ := wA N j s hs h0;exact ⟨h1, by rw [h1, Cj h2, h3]⟩
theorem zF (A : Option Addr) (n c m : Nat) (xs : List Nat) (w : World) (hx : Sl w A n 1 (cY xs)) (hd : Dg 18446744073709551616 xs) (hc : n ≤ c) (hn : n ≤ 1000000000) (hm : m ≤ 1000000000000) :
  Calls Tryz.prog 247 #[.slice A n c, .int .i64 (m : Int)] w fun e w' => ∃ A c, e = .returned (.slice A (aU 18446744073709551616 (bu 18446744073709551616 xs / 2 ^ m)).length c) ∧ w'.ownsRow w.heap.size 204 1 (.slice A (aU 18446744073709551616 (bu 18446744073709551616 xs / 2 ^ m)).length c) (aU 18446744073709551616 (bu 18446744073709551616 xs / 2 ^ m)).length (cY (aU 18446744073709551616 (bu 18446744073709551616 xs / 2 ^ m))) ∧ Below w.heap.size w w' := by
 have hl := hx.1;rw [a9] at hl;have hh := Hp.start w;have hs1 : ((m : Int) % 64).toNat = m % 64 := Tx;have hW : (18446744073709551616 : Nat) = 2 ^ 64 := by decide
 have hmm : 2 ^ m = 18446744073709551616 ^ (m / 64) * 2 ^ (m % 64) := by
  rw [hW, ← Nat.pow_mul, ← Nat.pow_add]; congr 1; omega
 have hlt := iB hd;rw [show xs.length = n by omega] at hlt;by_cases hbig : n ≤ m / 64
 ·have h0 : bu 18446744073709551616 xs / 2 ^ m = 0 := by
   apply Nat.div_eq_of_lt;refine Nat.lt_of_lt_of_le hlt (Nat.le_trans (Nat.pow_le_pow_right Ty hbig) ?_);rw [hmm];exact Nat.le_mul_of_pos_right _ (Nat.pow_pos Tx)
  refine aj (N := 61) (l := [.slice A n c, .int .i64 (m : Int)]) Tryz.func247 rfl rfl (by simp) ?_;refine sr (aL (aa (ah (sr (mI ?_)))));refine nP ?_;refine mL (aJ ?_);refine dR (aa (cT (sr (aL (aa (av (aG ?_)))))));refine cX ?_;rw [h0, fW Tx];exact Jt
 ·obtain ⟨ad, rfl, hr⟩ := hx.at_ Tx;have hsd := hx.OA (k := m / 64) Tx;have hget : ∀ j, j < n → xs[j]? = some (bu 18446744073709551616 xs / 18446744073709551616 ^ j % 18446744073709551616) := fun j hj => by
   obtain ⟨d, hdj⟩ := ao (l := xs) (k := j) Tx;rw [hdj, sE hd hdj]
  refine aj (N := 61) (l := [.slice (some ad) n c, .int .i64 (m : Int)]) Tryz.func247 rfl rfl (by simp) ?_;refine sr (aL (aa (ah (sr (mI ?_)))));refine nP ?_;refine mL (aJ ?_);refine dR (aa (cF (ar (ai (sr (mL (mI ?_)))))));refine nP ?_;refine A0 (l := m / 64) bg.out aN.size rfl rfl Tx Tx Tx Tx Ty ?_;refine aE (nG _ _ _ 0 _ _ hsd Tx Tx) ak.out rfl Ty ?_;rintro e_ w_ ⟨b16, rfl, hown_, hb_⟩;refine ⟨_, rfl, ?_⟩;replace hh := hh.aV (x := .row _ _ _ _ _ _) hb_ hown_;rw [Nat.zero_max, Nat.sub_self, List.replicate_zero, List.append_nil] at hh;rw [Nat.zero_max];refine rz ?_;refine aP [6, 19, 20, 21, 22, 23, 24, 25, 26, 27, 28, 29, 30, 31, 32, 33, 34, 35, 36, 37, 38, 39, 40, 41, 42, 43, 44, 45, 46, 47, 48, 49, 50, 51, 52, 53, 54, 55, 56, 57, 58] 19
   (fun v w' => ∃ i : Nat, i ≤ n - m / 64 ∧ v = .int .i64 i ∧ Hp w [.row (some ⟨b16, 0, none⟩) (n - m / 64) (n - m / 64) 204 1 (cY (bK 18446744073709551616 i (bu 18446744073709551616 xs / 2 ^ m) ++ xs.drop (m / 64 + i)))] w')
   (fun v _ => (n - m / 64) - (intOf v).toNat) ?_ ?_
  ·exact ⟨0, Nat.zero_le _, rfl, hh⟩
  ·clear hh;rintro ρ' v w' ⟨i, hi, rfl, hh⟩;by_cases hlt2 : i < n - m / 64
   ·have hgi := hget (m / 64 + i) Tx;have hdr : xs.drop (m / 64 + i) = (bu 18446744073709551616 xs / 18446744073709551616 ^ (m / 64 + i) % 18446744073709551616) :: xs.drop (m / 64 + i + 1) := by
     rw [List.drop_eq_getElem_cons Tx];congr 1;have := List.getElem?_eq_some_iff.1 hgi;exact this.2
    have hcell : (bK 18446744073709551616 i (bu 18446744073709551616 xs / 2 ^ m) ++ xs.drop (m / 64 + i))[i]? = some (bu 18446744073709551616 xs / 18446744073709551616 ^ (m / 64 + i) % 18446744073709551616) := by
     rw [List.getElem?_append_right (by rw [aO]; omega), aO, hdr]; simp
    have hg := dY hcell;have hset : ∀ y, (bK 18446744073709551616 i (bu 18446744073709551616 xs / 2 ^ m) ++ xs.drop (m / 64 + i)).set i y = bK 18446744073709551616 i (bu 18446744073709551616 xs / 2 ^ m) ++ y :: xs.drop (m / 64 + i + 1) := fun y => by
     rw [hdr, List.set_append_right _ _ (by rw [aO]; omega), aO, Nat.sub_self, List.set_cons_zero]
    have hll : (bK 18446744073709551616 i (bu 18446744073709551616 xs / 2 ^ m) ++ xs.drop (m / 64 + i)).length = n - m / 64 := by rw [List.length_append, aO, List.length_drop]; omega
    have hac : ∀ y, bK 18446744073709551616 i (bu 18446744073709551616 xs / 2 ^ m) ++ y :: xs.drop (m / 64 + i + 1) = (bK 18446744073709551616 i (bu 18446744073709551616 xs / 2 ^ m) ++ [y]) ++ xs.drop (m / 64 + (i + 1)) := fun y => List.append_cons _ _ _;have hnew : bK 18446744073709551616 (i + 1) (bu 18446744073709551616 xs / 2 ^ m) = bK 18446744073709551616 i (bu 18446744073709551616 xs / 2 ^ m) ++ [bu 18446744073709551616 xs / 2 ^ (64 * (m / 64 + i) + m % 64) % 18446744073709551616] := by
     rw [kL, Nat.div_div_eq_div_mul];congr 4;rw [hW, ← Nat.pow_mul, ← Nat.pow_add]; congr 1; omega
    refine sr ?_;refine bf (aa (ah (cT (ar (ai (ah (aq (sr (mI (aI (aa (sr (mL (mI ?_))))))))))))));refine gh ?_;refine jm ?_;refine mI ?_;refine rv ?_;refine CM rfl rfl Tx Ty ?_;refine gh ?_;refine bL hh (i := 0) (vs := [_]) rfl rfl (cH rfl) rfl aN.out rfl (by rw [a9, hll]; omega) rfl ?_;intro ws hh;simp only [List.set_cons_zero] at hh;rw [hs1, Nat.mul_one, cM (by rw [a9, hll]; omega), fN, hset] at hh;by_cases h0 : m % 64 = 0
    ·have e1 : bu 18446744073709551616 xs / 18446744073709551616 ^ (m / 64 + i) % 18446744073709551616 / 2 ^ (m % 64) = bu 18446744073709551616 xs / 2 ^ (64 * (m / 64 + i) + m % 64) % 18446744073709551616 := by
      rw [h0, Nat.pow_zero, Nat.div_one, Nat.add_zero, Nat.pow_mul, ← hW]
     by_cases hl : i + 1 < n - m / 64
     ·refine aa (sr (mI ?_));refine bh (mL (aJ ?_));refine bf (mB (gT (mI (gT ?_))));refine rv ?_;refine gT ?_;refine bM ?_;refine fu ?_;exact MU
     ·exact MC
    ·by_cases hl : i + 1 < n - m / 64
     ·have hgj := hget (m / 64 + i + 1) Tx;have hgj2 := dY hgj;obtain ⟨d1, d2⟩ := F4 (N := bu 18446744073709551616 xs) (j := m / 64 + i) (s := m % 64) (Nat.mod_lt _ Tx) Tx;have hcell2 : (bK 18446744073709551616 i (bu 18446744073709551616 xs / 2 ^ m) ++ (bu 18446744073709551616 xs / 18446744073709551616 ^ (m / 64 + i) % 18446744073709551616 / 2 ^ (m % 64)) :: xs.drop (m / 64 + i + 1))[i]? = some (bu 18446744073709551616 xs / 18446744073709551616 ^ (m / 64 + i) % 18446744073709551616 / 2 ^ (m % 64)) := by
       rw [List.getElem?_append_right (by rw [aO]; omega), aO]; simp
      have hg2 := dY hcell2;have hset2 : ∀ y z, (bK 18446744073709551616 i (bu 18446744073709551616 xs / 2 ^ m) ++ y :: xs.drop (m / 64 + i + 1)).set i z = bK 18446744073709551616 i (bu 18446744073709551616 xs / 2 ^ m) ++ z :: xs.drop (m / 64 + i + 1) := fun y z => by
       rw [List.set_append_right _ _ (by rw [aO]; omega), aO, Nat.sub_self, List.set_cons_zero]
      have hll2 : ∀ y, (bK 18446744073709551616 i (bu 18446744073709551616 xs / 2 ^ m) ++ y :: xs.drop (m / 64 + i + 1)).length = n - m / 64 := fun y => by rw [List.length_append, aO, List.length_cons, List.length_drop]; omega
      have hs2 : (64 - (m : Int) % 64).toNat = 64 - m % 64 := Tx;have b1 : bu 18446744073709551616 xs / 18446744073709551616 ^ (m / 64 + i) % 18446744073709551616 / 2 ^ (m % 64) < 18446744073709551616 := Nat.lt_of_le_of_lt (Nat.div_le_self _ _) (Nat.mod_lt _ Tx);have b2 : bu 18446744073709551616 xs / 18446744073709551616 ^ (m / 64 + i + 1) % 18446744073709551616 * 2 ^ (64 - (m : Int) % 64).toNat % 18446744073709551616 < 18446744073709551616 := Nat.mod_lt _ Tx;refine aa (sr (mI ?_));refine bh (mL (aJ ?_));refine bf (mB (gT (mI (gT ?_))));refine rv ?_;refine gT ?_;refine bM ?_;refine fu ?_;refine aa (cT ?_);refine aY 16 [[(5, none)], [(6, none)], [(40, some 0), (41, some 1)], [(42, some 2)], [(0, none)], [(1, none)], [(45, some 5)], [(6, none)], [(46, some 6), (47, some 7)], [(48, some 8)], [(44, some 4), (49, some 9)], [(50, some 10)], [(1, none)], [(52, some 12)], [(53, some 13)], [(51, some 11), (54, some 14)]] [(15, 55), (14, 54), (13, 53), (12, 52), (11, 51), (10, 50), (9, 49), (8, 48), (7, 47), (6, 46), (5, 45), (4, 44), (3, 43), (2, 42), (1, 41), (0, 40)] hh mixed Tz ?_;refine gk ?_;refine dE ?_;refine BQ (i) ?_
      refine bp (i := 3) (fun ρ1 w1 hj hR => jv aN.out (show ρ1 42 = Value.pointer _ from hR.1) (hj.hp.fR (i := 0) rfl (by rw [Nat.mul_one]; exact hg2))) ?_;refine gk ?_;refine dE ?_;refine bp (i := 6) (fun ρ1 w1 hj hR => qE (show ρ1 45 = Value.int _ _ from hR.1) rfl Tx Tx Tx) ?_;refine dE ?_;refine rP ?_;refine rP ?_;refine nT (m / 64 + i + 1) ?_;refine rX (fun _ hj => (hr.ext hj.hp.below).xo hgj2) ?_;refine dE ?_;refine bp (i := 13) (fun ρ1 w1 hj hR => nW (show ρ1 52 = Value.int _ _ from hR.1) rfl Tx Tx) ?_;refine uX ?_;refine bp (i := 15) (fun ρ1 w1 hj hR => xZ (show ρ1 51 = Value.int _ _ from hR.1) (show ρ1 54 = Value.int _ _ from hR.2.1) Tx) ?_;refine aT ?_;intro f W hJ hV;have hb_9 := hJ.bl;obtain ⟨v55, v54, v53, v52, v51, v50, v49, v48, v47, v46, v45, v44, v43, v42, v41, v40, _⟩ := hV;replace hh := hJ.hp;refine a6 (bm (ae v55 (ae v54 (ae v53 (ae v52 (ae v51 (ae v50 (ae v49 (ae v48 (ae v47 (ae v46 (ae v45 (ae v44 (ae v43 (ae v42 (ae v41 (ae v40 a0))))))))))))))))) ?_;dsimp only [cg];clear hJ;refine DF ?_;refine gh ?_;refine bL hh (i := 0) (vs := [_]) rfl rfl (cH rfl) rfl aN.out rfl (by rw [a9, hll2]; omega) rfl ?_;intro ws hh;simp only [List.set_cons_zero] at hh
      rw [hs2, d2, Nat.mul_one, cM (by rw [a9, hll2]; omega), fN, hset2, hac, ← hnew] at hh;refine fL ?_;refine bh (mI (aA (ai ?_)));exact N6
     ·have e1 : bu 18446744073709551616 xs / 18446744073709551616 ^ (m / 64 + i) % 18446744073709551616 / 2 ^ (m % 64) = bu 18446744073709551616 xs / 2 ^ (64 * (m / 64 + i) + m % 64) % 18446744073709551616 := by
       obtain ⟨h2, h3⟩ := wA (bu 18446744073709551616 xs) (m / 64 + i) (m % 64) (Nat.mod_lt _ Tx) Tx;have h4 : bu 18446744073709551616 xs / 18446744073709551616 ^ (m / 64 + i + 1) = 0 := Nat.div_eq_of_lt (Nat.lt_of_lt_of_le hlt (Nat.pow_le_pow_right Ty Tx));rw [h4] at h3;simpa using h3
      exact MC
   ·obtain rfl : i = n - m / 64 := Tx;rw [List.drop_eq_nil_of_le Tx, List.append_nil] at hh;refine sr ?_;refine nH ?_;refine bz hh (hH _ _ _ (bK 18446744073709551616 (n - m / 64) (bu 18446744073709551616 xs / 2 ^ m)) _ (hh.aC (i := 0) rfl) (Nat.le_refl _) Tx) rfl ?_;intro w60 hh;refine aL (aa (av ?_));refine cX ?_;have hbd : bu 18446744073709551616 xs / 2 ^ m < 18446744073709551616 ^ (n - m / 64) := by
     rw [Nat.div_lt_iff_lt_mul (Nat.pow_pos Tx), hmm, ← Nat.mul_assoc, ← Nat.pow_add, show n - m / 64 + m / 64 = n by omega];exact Nat.lt_of_lt_of_le hlt (Nat.le_mul_of_pos_right _ (Nat.pow_pos Tx))
    have hd : dD (bK 18446744073709551616 (n - m / 64) (bu 18446744073709551616 xs / 2 ^ m)) = aU 18446744073709551616 (bu 18446744073709551616 xs / 2 ^ m) := by
     exact PY
    have h1 := (Hp.Ec (xs := bK 18446744073709551616 (n - m / 64) (bu 18446744073709551616 xs / 2 ^ m)) hh (aO _ _)).at_ (i := 0) rfl;exact LD
def bN (a : ByteArray) : Nat := bn a.data.toList
def sN (n : Nat) : ByteArray := str (sb n)
theorem eR (n : Nat) : bN (sN n) = n := by rw [bN, sN, dt, QT]
theorem lr (n : Nat) : (sN n).size = (bC n + 7) / 8 := by rw [sN, kM, GA, Cx]
theorem H4 {a b : Nat} (h : sN a = sN b) : a = b := by rw [← eR a, h, eR]
theorem nn : sN 0 = ByteArray.mk #[] := by rw [sN, Mm]; rfl
theorem vG (a : ByteArray) : bN a < 256 ^ a.size := by rw [dA]; exact NN _
theorem gI (a : ByteArray) : bC (bN a) ≤ 8 * a.size := by
 apply dv;have := vG a;rwa [show (256 : Nat) = 2 ^ 8 from rfl, ← Nat.pow_mul] at this
theorem Gj {n k : Nat} (h : n < 256 ^ k) : (aU 18446744073709551616 n).length ≤ (k + 7) / 8 := by
 apply g9 Tx;refine Nat.lt_of_lt_of_le h ?_;rw [show (256 : Nat) = 2 ^ 8 from rfl, show (18446744073709551616 : Nat) = 2 ^ 64 from rfl, ← Nat.pow_mul, ← Nat.pow_mul];exact Nat.pow_le_pow_right Tx Tx
theorem fS (a : ByteArray) : (aU 18446744073709551616 (bN a)).length ≤ (a.size + 7) / 8 := Gj (vG a)
theorem je (n : Nat) : Dg 18446744073709551616 (aU 18446744073709551616 n) := (dI Tx n).1
theorem gi (n : Nat) : bu 18446744073709551616 (aU 18446744073709551616 n) = n := dF Tx n
theorem n9 (a : ByteArray) (w : World) (ha : a.size ≤ 1000000000) :
  Calls Tryz.prog 224 #[.string a] w fun e w' => ∃ b c, e = .returned (.slice (some ⟨b, 0, none⟩) (aU 18446744073709551616 (bN a)).length c) ∧ w'.ownsRow w.heap.size 204 1 (.slice (some ⟨b, 0, none⟩) (aU 18446744073709551616 (bN a)).length c) (aU 18446744073709551616 (bN a)).length (cY (aU 18446744073709551616 (bN a))) ∧ Below w.heap.size w w' := GC a w Tx
theorem rL (n : Nat) (w : World) (hn : n < 18446744073709551616) :
  Calls Tryz.prog 202 #[.int .u64 (n : Int)] w fun e w' => e = .returned (.string (sN n)) ∧ Below w.heap.size w w' := by
 have hh := Hp.start w;refine aj (N := 6) (l := [.int .u64 (n : Int)]) Tryz.func202 rfl rfl (by simp) ?_;refine sr (aS (aa (sr (mI ?_))));refine vP ?_;intro b4 w4 hh;refine bz hh (hU _ _ _ [n] _ (hh.aC (i := 0) rfl) (Dg.cons hn Dg.nil) (Nat.le_refl _) Tx) rfl ?_;intro w5 hh;refine aS (aa (av ?_));refine cX ?_;refine ⟨?_, hh.below⟩;rw [sN];simp [bu]
theorem xP (a b : ByteArray) (w : World) (ha : a.size ≤ 1000000000) (hb : b.size ≤ 1000000000) :
  Calls Tryz.prog 251 #[.string a, .string b] w fun e w' => e = .returned (.int .i64 (kH (bN a) (bN b))) ∧ Below w.heap.size w w' := by
 have hh := Hp.start w;have h1 := fS a;have h2 := fS b;refine aj (N := 10) (l := [.string a, .string b]) Tryz.func251 rfl rfl (by simp) ?_;refine sr (aI (aa (sr (mS ?_))));refine re ?_;rintro e_ w6 ⟨A6, c6, rfl, hown_, hb_⟩;refine ⟨_, rfl, ?_⟩;replace hh := hh.aV (x := .row _ _ _ _ _ _) hb_ hown_;refine mS ?_;refine Ei ?_;rintro e_ w8 ⟨A8, c8, rfl, hown_, hb_⟩;refine ⟨_, rfl, ?_⟩;replace hh := hh.aV (x := .row _ _ _ _ _ _) hb_ hown_;refine G8 ?_;intro w9 hh;rw [gi, gi];exact zr
theorem lP (a : ByteArray) (w : World) (ha : a.size ≤ 1000000000) :
  Calls Tryz.prog 228 #[.string a] w fun e w' => e = .returned (.int .i64 (bC (bN a))) ∧ Below w.heap.size w w' := by
 have hh := Hp.start w;have h1 := fS a;refine aj (N := 6) (l := [.string a]) Tryz.func228 rfl rfl (by simp) ?_;refine sr (aI (aa (sr (mS ?_))));refine re ?_;rintro e_ w4 ⟨A4, c4, rfl, hown_, hb_⟩;refine ⟨_, rfl, ?_⟩;replace hh := hh.aV (x := .row _ _ _ _ _ _) hb_ hown_;refine bz hh (tU _ _ _ (aU 18446744073709551616 (bN a)) _ (hh.aC (i := 0) rfl) (je _) (hh.fF (i := 0) rfl) Tx) rfl ?_;intro w5 hh;rw [gi];exact zr
theorem pM (n m : Nat) : bC (n * 2 ^ m) ≤ bC n + m := by
 apply dv;rw [Nat.pow_add];exact Nat.mul_lt_mul_of_pos_right (dk n) (Nat.pow_pos Tx)
theorem tx (n : Nat) : (aU 18446744073709551616 n).length ≤ (bC n + 63) / 64 := by
 apply g9 Tx;refine Nat.lt_of_lt_of_le (dk n) ?_;exact P9
theorem yc (a : ByteArray) (m : Nat) (w : World) (ha : a.size ≤ 1000000000) (hm : m ≤ 10000000000) :
  Calls Tryz.prog 226 #[.string a, .int .i64 (m : Int)] w fun e w' => e = .returned (.string (sN (bN a * 2 ^ m))) ∧ Below w.heap.size w w' := by
 have hh := Hp.start w;have h1 := fS a;have h2 := tx (bN a * 2 ^ m);have h3 := pM (bN a) m;have h4 := gI a;have e1 : (if (0 : Int) > (m : Int) then 0 else (m : Int)) = m := if_neg Tx;refine aj (N := 11) (l := [.string a, .int .i64 (m : Int)]) Tryz.func226 rfl rfl (by simp) ?_;refine sr (aS (aa (sr (mS ?_))));refine re ?_;rintro e_ w6 ⟨A6, c6, rfl, hown_, hb_⟩;refine ⟨_, rfl, ?_⟩;replace hh := hh.aV (x := .row _ _ _ _ _ _) hb_ hown_;refine mI ?_;refine kK rfl rfl Ty ?_;rw [e1];refine aE (GY _ _ _ m (aU 18446744073709551616 (bN a)) _ (hh.aC (i := 0) rfl) (je _) Tx hm) ak.out rfl Ty ?_;rintro e_ w9 ⟨A9, c9, rfl, hown_, hb_⟩;refine ⟨_, rfl, ?_⟩;replace hh := hh.aV (x := .row _ _ _ _ _ _) hb_ hown_;rw [gi] at *;refine bz hh (hU _ _ _ (aU 18446744073709551616 (bN a * 2 ^ m)) _ (hh.aC (i := 0) rfl) (je _) (hh.fF (i := 0) rfl) Tx) rfl ?_;intro w10 hh;rw [gi];exact F1
theorem oW (n m : Nat) : bC (n / 2 ^ m) ≤ bC n := by
 apply dv;exact Nat.lt_of_le_of_lt (Nat.div_le_self _ _) (dk n)
theorem xJ (a : ByteArray) (m : Nat) (w : World) (ha : a.size ≤ 1000000000) (hm : m ≤ 1000000000000) :
  Calls Tryz.prog 227 #[.string a, .int .i64 (m : Int)] w fun e w' => e = .returned (.string (sN (bN a / 2 ^ m))) ∧ Below w.heap.size w w' := by
 have hh := Hp.start w;have h1 := fS a;have h2 := tx (bN a / 2 ^ m);have h3 := oW (bN a) m;have h4 := gI a;have e1 : (if (0 : Int) > (m : Int) then 0 else (m : Int)) = m := if_neg Tx;refine aj (N := 11) (l := [.string a, .int .i64 (m : Int)]) Tryz.func227 rfl rfl (by simp) ?_;refine sr (aS (aa (sr (mS ?_))));refine re ?_;rintro e_ w6 ⟨A6, c6, rfl, hown_, hb_⟩;refine ⟨_, rfl, ?_⟩;replace hh := hh.aV (x := .row _ _ _ _ _ _) hb_ hown_;refine mI ?_;refine kK rfl rfl Ty ?_;rw [e1];refine aE (zF _ _ _ m (aU 18446744073709551616 (bN a)) _ (hh.aC (i := 0) rfl) (je _) (hh.fF (i := 0) rfl) Tx hm) ak.out rfl Ty ?_;rintro e_ w9 ⟨A9, c9, rfl, hown_, hb_⟩;refine ⟨_, rfl, ?_⟩;replace hh := hh.aV (x := .row _ _ _ _ _ _) hb_ hown_;rw [gi] at *;refine bz hh (hU _ _ _ (aU 18446744073709551616 (bN a / 2 ^ m)) _ (hh.aC (i := 0) rfl) (je _) (hh.fF (i := 0) rfl) Tx) rfl ?_;intro w10 hh;rw [gi];exact F1
theorem Kt {x y : Nat} (h : y ≤ x) : zG 18446744073709551616 (aU 18446744073709551616 x) (aU 18446744073709551616 y) 0 = 0 ∧ bu 18446744073709551616 (rT 18446744073709551616 (aU 18446744073709551616 x) (aU 18446744073709551616 y) 0) = x - y := by
 have := IL (B := 18446744073709551616) Tx (aU 18446744073709551616 x) (aU 18446744073709551616 y) 0 (je _) (je _) Tx (by rw [gi, gi]; omega);rw [gi, gi] at this;exact ⟨this.2, Tx⟩
theorem pY (a b : ByteArray) (w : World) (ha : a.size ≤ 1000000000) (hb : b.size ≤ 1000000000) :
  Calls Tryz.prog 232 #[.string a, .string b] w fun e w' => e = .returned (.tuple #[.string (sN (bN a - bN b)), .bool (decide (bN b ≤ bN a))]) ∧ Below w.heap.size w w' := by
 have hh := Hp.start w;have h1 := fS a;have h2 := fS b;by_cases hlt : bN a < bN b
 ·refine aj (N := 21) (l := [.string a, .string b]) Tryz.func232 rfl rfl (by simp) ?_;refine sr (aS (aB (aa (sr (mS ?_)))));refine re ?_;rintro e_ w9 ⟨A9, c9, rfl, hown_, hb_⟩;refine ⟨_, rfl, ?_⟩;replace hh := hh.aV (x := .row _ _ _ _ _ _) hb_ hown_;refine mS ?_;refine Ei ?_;rintro e_ w11 ⟨A11, c11, rfl, hown_, hb_⟩;refine ⟨_, rfl, ?_⟩;replace hh := hh.aV (x := .row _ _ _ _ _ _) hb_ hown_;refine aL (aL (aa (ah (sr (mL (mL ?_))))));refine G8 ?_;intro w14 hh;rw [gi, gi, lN hlt];exact Qd
 ·obtain ⟨s1, s2⟩ := Kt (Nat.le_of_not_lt hlt);have hc : ¬ kH (bN a) (bN b) < 0 := by unfold kH; split <;> (try split) <;> omega
  refine aj (N := 21) (l := [.string a, .string b]) Tryz.func232 rfl rfl (by simp) ?_;refine sr (aS (aB (aa (sr (mS ?_)))));refine re ?_;rintro e_ w9 ⟨A9, c9, rfl, hown_, hb_⟩;refine ⟨_, rfl, ?_⟩;replace hh := hh.aV (x := .row _ _ _ _ _ _) hb_ hown_;refine mS ?_;refine Ei ?_;rintro e_ w11 ⟨A11, c11, rfl, hown_, hb_⟩;refine ⟨_, rfl, ?_⟩;replace hh := hh.aV (x := .row _ _ _ _ _ _) hb_ hown_;refine aL (aL (aa (ah (sr (mL (mL ?_))))));refine G8 ?_;intro w14 hh;rw [gi, gi];refine bf (aa (cF (ar (ai (sr (mL (mL ?_)))))));replace hh := hh.front 1 rfl;rw [← List.append_nil (aU 18446744073709551616 (bN a)), ← List.nil_append (aU 18446744073709551616 (bN a))] at hh;have hll := (hh.L3 (i := 0) rfl);rw [List.nil_append, List.append_nil] at hll;refine aE (za [] (aU 18446744073709551616 (bN a)) [] (aU 18446744073709551616 (bN b)) _ hh (fun w1 cs h => h.aC (i := 1) rfl) (je _) (je _) Tx Tx s1) ak.out rfl Ty ?_;rintro e_ w_ ⟨rfl, hh⟩;refine ⟨_, rfl, ?_⟩;simp only [List.nil_append, List.append_nil] at hh;refine aa (sr (mL ?_))
  refine bz hh (hU _ _ _ (rT 18446744073709551616 (aU 18446744073709551616 (bN a)) (aU 18446744073709551616 (bN b)) 0) _ (hh.aC (i := 0) rfl) (La Tx _ _ _) (hh.fF (i := 0) rfl) Tx) rfl ?_;intro w20 hh;rw [s2];exact Np
theorem xS (a b : ByteArray) (w : World) (ha : a.size ≤ 1000000000) (hb : b.size ≤ 1000000000) :
  Calls Tryz.prog 234 #[.string a, .string b] w fun e w' => e = .returned (.string (sN (bN a * bN b))) ∧ Below w.heap.size w w' := by
 have hh := Hp.start w;have h1 := fS a;have h2 := fS b;refine aj (N := 37) (l := [.string a, .string b]) Tryz.func234 rfl rfl (by simp) ?_;refine sr (aS (aa (sr (mS ?_))));refine re ?_;rintro e_ w11 ⟨A11, c11, rfl, hown_, hb_⟩;refine ⟨_, rfl, ?_⟩;replace hh := hh.aV (x := .row _ _ _ _ _ _) hb_ hown_;refine mS ?_;refine Ei ?_;rintro e_ w13 ⟨A13, c13, rfl, hown_, hb_⟩;refine ⟨_, rfl, ?_⟩;replace hh := hh.aV (x := .row _ _ _ _ _ _) hb_ hown_;have hxd := je (bN a);have hyd := je (bN b);have hX := gi (bN a);have hY := gi (bN b);generalize aU 18446744073709551616 (bN a) = xs at *;generalize aU 18446744073709551616 (bN b) = ys at *;refine aL (aL (aa (sr (mL (aJ (mL (aJ ?_)))))));refine bh ?_;refine bh ?_;refine fU (n := xs.length + ys.length + 1) hh rfl rfl Tx Tx bg.out aN.out rfl Tx Tx Ty ?_;intro b20 w20 hh;refine rz ?_;rw [pB] at hh;refine aP [8, 9, 23, 24, 25, 26, 27, 28, 29, 30, 31, 32, 33, 34] 23
  (fun v w' => ∃ (i : Nat) (L : List Nat), i ≤ xs.length ∧ v = .int .i64 i ∧ Dg 18446744073709551616 L ∧ L.length = xs.length + ys.length + 1 ∧ bu 18446744073709551616 L = bu 18446744073709551616 (xs.take i) * bu 18446744073709551616 ys ∧ Hp w [.row (some ⟨b20, 0, none⟩) (xs.length + ys.length + 1) (xs.length + ys.length + 1) 204 1 (cY L), .row (some ⟨A13, 0, none⟩) ys.length c13 204 1 (cY ys), .row (some ⟨A11, 0, none⟩) xs.length c11 204 1 (cY xs)] w')
  (fun v _ => xs.length - (intOf v).toNat) ?_ ?_
 ·exact ⟨0, _, Nat.zero_le _, rfl, Dg.fO Tx _, by simp, by simp [qy, bu], hh⟩
 ·clear hh;rintro ρ' v w' ⟨i, L, hi, rfl, hLd, hLl, hLv, hh⟩;by_cases hlt : i < xs.length
  ·obtain ⟨m, hm⟩ := ao (l := xs) (k := i) Tx;have hm2 := dY hm;have hmw := hxd.at_ hm;have hpl : (L.take i).length = i := by rw [List.length_take]; omega
   have hsl : (L.drop i).length = xs.length + ys.length + 1 - i := by rw [List.length_drop]; omega
   refine sr ?_;refine dZ ?_;refine gh ?_;refine bT aN.out rfl (hh.fR (i := 2) rfl (by first | assumption | (simp only [Nat.mul_one]; assumption))) Ty ?_;refine aI (aI (aa (al (mL (mI ?_)))));refine CB (l := i) bg.out aN.size rfl rfl Tx Tx Tx Tx Ty ?_;refine mL (mI ?_);have hc := yO (c' := xs.length + ys.length + 1 - i) (ny := ys.length) (cy := c13) (m := m) (Y := some ⟨A13, 0, none⟩) (L.take i) (L.drop i) [] ys _ (by rw [List.append_nil, List.take_append_drop]; exact hh) (fun w1 cs h => h.aC (i := 1) rfl) (hLd.drop i) hyd hmw Tx Tx;rw [hpl, hsl, List.append_nil] at hc;rw [Nat.zero_add, Nat.mul_one];refine aE (hc) ak.out rfl Ty ?_;rintro e_ w_ ⟨rfl, hh⟩;refine ⟨_, rfl, ?_⟩;have hlt1 := iB (hxd.take (i + 1));have hlt2 := iB hyd;rw [List.length_take, Nat.min_eq_left Tx] at hlt1;have hsn := fh (B := 18446744073709551616) hm;have hsplit := iY (B := 18446744073709551616) L i Tx;have hnew : 18446744073709551616 ^ i * (bu 18446744073709551616 (L.drop i) + bu 18446744073709551616 ys * m + 0) + bu 18446744073709551616 (L.take i) = bu 18446744073709551616 (xs.take (i + 1)) * bu 18446744073709551616 ys := by
    rw [hsn, Nat.add_mul, ← hLv, hsplit, Nat.add_zero, Nat.mul_add, Nat.mul_assoc, Nat.mul_comm m]; omega
   have hbd : bu 18446744073709551616 (L.drop i) + bu 18446744073709551616 ys * m + 0 < 18446744073709551616 ^ (L.drop i).length := by
    refine Nat.lt_of_mul_lt_mul_left (a := 18446744073709551616 ^ i) ?_;rw [← Nat.pow_add, hsl];refine Nat.lt_of_le_of_lt (Nat.le_add_right _ (bu 18446744073709551616 (L.take i))) ?_;rw [hnew];refine Nat.lt_of_lt_of_le (Nat.mul_lt_mul'' hlt1 hlt2) ?_;rw [← Nat.pow_add];exact Nat.pow_le_pow_right Ty Tx
   have hdp := wX (B := 18446744073709551616) Tx _ _ _ _ hbd;refine fL ?_;refine bh (mI (aA (ai ?_)));refine ⟨⟨i + 1, L.take i ++ g7 18446744073709551616 (L.drop i) ys m 0, Tx, rfl, (hLd.take i).append (zX Tx _ _ _ _), by rw [List.length_append, o9, hpl, hsl]; omega, ?_, hh⟩, by show xs.length - (i + 1) < xs.length - i; omega, ?_⟩
   ·rw [eA, hdp, hpl, Nat.add_comm]; exact hnew
   exact TA
  ·obtain rfl : i = xs.length := Tx;rw [List.take_length, hX, hY] at hLv;refine sr ?_;refine nH ?_;refine bz hh (hU _ _ _ L _ (hh.aC (i := 0) rfl) hLd (Nat.le_refl _) Tx) rfl ?_;intro w36 hh;rw [hLv];exact F1
theorem Ly {n d r k : Nat} (hd : d ≠ 0) (hdw : d < 18446744073709551616) (hn : n = 18446744073709551616 ^ k * (d + 18446744073709551616 * r)) : tz n = 64 * k + tz d := by
 obtain ⟨m, hm⟩ := sI hd;have ht : tz d < 64 := xe hd (by simpa using hdw);have hW : (18446744073709551616 : Nat) = 2 ^ 64 := by decide
 generalize tz d = t at *;have e : n = 2 ^ (64 * k + t) * (2 * (m + 2 ^ (63 - t) * r) + 1) := by
  rw [hn, Nat.pow_add, Nat.pow_mul, ← hW, Nat.mul_assoc];congr 1;have h1 : 18446744073709551616 = 2 ^ t * (2 * 2 ^ (63 - t)) := by rw [hW, ← Nat.pow_succ', ← Nat.pow_add]; congr 1; omega
  have h2 : 18446744073709551616 * r = 2 ^ t * (2 * 2 ^ (63 - t) * r) := by rw [← Nat.mul_assoc, ← h1]
  rw [h2]
  conv => lhs; rw [hm]
  rw [← Nat.mul_add];congr 1;rw [Nat.mul_add, Nat.mul_assoc]; omega
 rw [e, DP]
theorem jS (a : ByteArray) (w : World) (ha : a.size ≤ 1000000000) (hT : ee w) :
  Calls Tryz.prog 196 #[.string a] w fun e w' => e = .returned (.int .i64 (tz (bN a))) ∧ Below w.heap.size w w' := by
 have hh := Hp.start w;have h1 := fS a;refine aj (N := 21) (l := [.string a]) Tryz.func196 rfl rfl (by simp) ?_;refine sr (aI (aa (ah (sr (mS ?_)))));refine re ?_;rintro e_ w6 ⟨A6, c6, rfl, hown_, hb_⟩;refine ⟨_, rfl, ?_⟩;replace hh := hh.aV (x := .row _ _ _ _ _ _) hb_ hown_;have hxd := je (bN a);have hX := gi (bN a);generalize aU 18446744073709551616 (bN a) = xs at *;refine aJ (mI (aa (aq ?_)));refine aP [2, 3, 4, 8, 9, 10, 11, 12, 13, 14, 15, 16, 17, 18, 19, 20] 8
  (fun v w' => ∃ (i : Nat), i ≤ xs.length ∧ v = .int .i64 i ∧ bu 18446744073709551616 (xs.take i) = 0 ∧ Hp w [.row (some ⟨A6, 0, none⟩) xs.length c6 204 1 (cY xs)] w')
  (fun v _ => xs.length - (intOf v).toNat) ?_ ?_
 ·exact ⟨0, Nat.zero_le _, rfl, rfl, hh⟩
 ·clear hh;rintro ρ' v w' ⟨i, hi, rfl, hz, hh⟩;by_cases hlt : i < xs.length
  ·obtain ⟨d, hm⟩ := ao (l := xs) (k := i) Tx;have hm2 := dY hm;have hmw := hxd.at_ hm;by_cases h0 : d = 0
   ·subst h0;refine sr ?_;refine dZ ?_;refine gh ?_;refine jm ?_;refine aI (aI (aa (sr (mI ?_))));refine cK (aa (cF (ar (bA (ai (al ?_))))));refine bh (mI (aA (ai ?_)));refine ⟨⟨i + 1, Tx, rfl, by rw [fh hm, hz]; simp, hh⟩, by show xs.length - (i + 1) < xs.length - i; omega, ?_⟩;exact dL
   ·have htz : tz (bN a) = 64 * i + tz d := by
     have h3 := iY (B := 18446744073709551616) xs i Tx;have h4 := (List.getElem?_eq_some_iff.1 hm);rw [hz, List.drop_eq_getElem_cons hlt, h4.2, bu, hX, Nat.zero_add] at h3;exact Ly h0 hmw h3
    have ht : tz d < 64 := xe h0 (by simpa using hmw);refine sr ?_;refine dZ ?_;refine gh ?_;refine jm ?_;refine aI (aI (aa (sr (mI ?_))));refine cK (aa (cT (sr (mI ?_))));refine mulC (mI ?_);refine bz hh (BP _ _ hmw h0 (hT.hp hh)) rfl ?_;intro w18 hh;refine bh (aI (aa (av (bY (aG (aG (bY (aG ?_))))))));refine cX ?_;refine ⟨?_, hh.below⟩;congr 2;omega
  ·refine sr ?_;refine Ea ?_;refine cX ?_;rw [List.take_of_length_le Tx, hX] at hz;rw [hz];exact ⟨rfl, hh.below⟩
theorem Kz {x y k : Nat} (hx : x < 18446744073709551616 ^ k) (hy : y < 18446744073709551616 ^ k) : bu 18446744073709551616 (g7 18446744073709551616 (aU 18446744073709551616 x ++ List.replicate (k + 1 - (aU 18446744073709551616 x).length) 0) (aU 18446744073709551616 y) 1 0) = x + y := by
 have hl := g9 (B := 18446744073709551616) Tx hx;have h1 : bu 18446744073709551616 (aU 18446744073709551616 x ++ List.replicate (k + 1 - (aU 18446744073709551616 x).length) 0) = x := by rw [eA, qy, gi]; simp
 have h2 : (aU 18446744073709551616 x ++ List.replicate (k + 1 - (aU 18446744073709551616 x).length) 0).length = k + 1 := by rw [List.length_append, List.length_replicate]; omega
 rw [wX Tx, h1, gi]
 ·omega
 ·rw [h1, h2, gi, Nat.pow_succ];have : 0 < 18446744073709551616 ^ k := Nat.pow_pos Ty;omega
theorem qR (l : List Nat) (x : Nat) : (l ++ [x]).sum = l.sum + x := by simp
theorem xi (L : Option Addr) (n c : Nat) (ss : List ByteArray) (w : World) (hS : Sl w L n 1 (lj ss)) (hn : n ≤ 1000000) (hs : ∀ s ∈ ss, s.size ≤ 1000000000) :
  Calls Tryz.prog 230 #[.slice L n c] w fun e w' => e = .returned (.string (sN (ss.map bN).sum)) ∧ Below w.heap.size w w' := by
 have hsl : ss.length = n := by have := hS.1; rw [rr] at this; omega
 have hh := Hp.start w;refine aj (N := 31) (l := [.slice L n c]) Tryz.func230 rfl rfl (by simp) ?_;refine sr (aS (aa (sr (aL (aa (ah (sr (mL (aJ (mI (aa (aq ?_))))))))))));replace hh := hh.db 204 1;refine bJ [3, 5, 6, 9, 10, 11, 12, 13, 14, 15, 16, 17, 18, 19, 20, 21, 22, 23, 24, 25, 26, 27, 28] 3 9
  (fun v j w' => ∃ (i : Nat) (A : Option Addr) (c' T : Nat), i ≤ n ∧ j = .int .i64 i ∧ T = ((ss.take i).map bN).sum ∧ v = .slice A (aU 18446744073709551616 T).length c' ∧ (aU 18446744073709551616 T).length ≤ 125000001 + i ∧ Hp w [.row A (aU 18446744073709551616 T).length c' 204 1 (cY (aU 18446744073709551616 T))] w')
  (fun _ j _ => n - (intOf j).toNat) ?_ ?_
 ·exact ⟨0, none, 0, 0, Nat.zero_le _, rfl, rfl, by rw [fW Tx]; rfl, by rw [fW Tx]; simp, by rw [fW Tx]; exact hh⟩
 ·clear hh;rintro ρ' v j w' ⟨i, A, c', T, hi, rfl, hT, rfl, hTl, hh⟩;by_cases hlt : i < n
  ·obtain ⟨s, hsi⟩ := ao (l := ss) (k := i) Tx;obtain ⟨ad, rfl, hr⟩ := hS.at_ Tx;have hs2 := E2 hsi;have hsz := hs s (List.mem_of_getElem? hsi);have hlx := fS s;have hT2 : ((ss.take (i + 1)).map bN).sum = T + bN s := by rw [ay hsi, List.map_append, List.map_singleton, qR, hT]
   have e1 : (if ((aU 18446744073709551616 (bN s)).length : Int) > ((aU 18446744073709551616 T).length : Int) then ((aU 18446744073709551616 (bN s)).length : Int) else ((aU 18446744073709551616 T).length : Int)) + 1 = ((max (aU 18446744073709551616 T).length (aU 18446744073709551616 (bN s)).length + 1 : Nat) : Int) := by split <;> omega
   have hb1 : T < 18446744073709551616 ^ max (aU 18446744073709551616 T).length (aU 18446744073709551616 (bN s)).length := Nat.lt_of_lt_of_le (o8 Tx T) (Nat.pow_le_pow_right Ty (Nat.le_max_left _ _));have hb2 : bN s < 18446744073709551616 ^ max (aU 18446744073709551616 T).length (aU 18446744073709551616 (bN s)).length := Nat.lt_of_lt_of_le (o8 Tx (bN s)) (Nat.pow_le_pow_right Ty (Nat.le_max_right _ _));have hadd := Kz hb1 hb2;refine sr ?_;refine dH ?_;refine cZ bg.out aN.size rfl rfl rfl Tx Ty ?_;refine gu ?_;refine aS (aa (sr (mS ?_)));refine aE (n9 s _ hsz) ak.out rfl Ty ?_;rintro e_ w14 ⟨A14, c14, rfl, hown_, hb_⟩;refine ⟨_, rfl, ?_⟩;replace hh := hh.aV (x := .row _ _ _ _ _ _) hb_ hown_;refine aL (aa (sr (mL (mL (aJ (mL (aJ ?_)))))));refine kK rfl rfl Ty ?_;refine bh ?_;rw [e1];generalize hM : max (aU 18446744073709551616 T).length (aU 18446744073709551616 (bN s)).length = M at *;refine aE (nG _ _ _ (M + 1) _ _ (hh.aC (i := 1) rfl) Tx Tx) ak.out rfl Ty ?_;rintro e_ w_ ⟨b22, rfl, hown_, hb_⟩;refine ⟨_, rfl, ?_⟩;replace hh := hh.aV (x := .row _ _ _ _ _ _) hb_ hown_;have e2 : max (M + 1) (aU 18446744073709551616 T).length = M + 1 := Tx;rw [e2] at hh;rw [e2]
   refine aL (aa (sr (mL (mL ?_))));have hc := CU (c' := M + 1) (ny := (aU 18446744073709551616 (bN s)).length) (cy := c14) (Y := some ⟨A14, 0, none⟩) [] (aU 18446744073709551616 T ++ List.replicate (M + 1 - (aU 18446744073709551616 T).length) 0) [] (aU 18446744073709551616 (bN s)) _ (by rw [List.append_nil, List.nil_append]; exact hh) (fun w1 cs h => h.aC (i := 1) rfl) ((je _).append (Dg.fO Tx _)) (je _) (by rw [List.length_append, List.length_replicate]; omega) Tx;have e3 : (aU 18446744073709551616 T ++ List.replicate (M + 1 - (aU 18446744073709551616 T).length) 0).length = M + 1 := by rw [List.length_append, List.length_replicate]; omega
   rw [e3, List.append_nil, List.nil_append] at hc;refine aE (hc) ak.out rfl Ty ?_;rintro e_ w_ ⟨rfl, hh⟩;refine ⟨_, rfl, ?_⟩;have hpl : (g7 18446744073709551616 (aU 18446744073709551616 T ++ List.replicate (M + 1 - (aU 18446744073709551616 T).length) 0) (aU 18446744073709551616 (bN s)) 1 0).length = M + 1 := by rw [o9, e3]
   have hpd := zX (B := 18446744073709551616) Tx (aU 18446744073709551616 T ++ List.replicate (M + 1 - (aU 18446744073709551616 T).length) 0) (aU 18446744073709551616 (bN s)) 1 0;generalize g7 18446744073709551616 (aU 18446744073709551616 T ++ List.replicate (M + 1 - (aU 18446744073709551616 T).length) 0) (aU 18446744073709551616 (bN s)) 1 0 = Z at *;have hcz : dD Z = aU 18446744073709551616 (T + bN s) := by rw [ie Tx hpd, hadd]
   have hcl := e7 Z;refine aa (al (mL ?_));refine bz hh (hH _ _ _ Z _ (hh.aC (i := 0) rfl) (Nat.le_refl _) Tx) rfl ?_;intro w27 hh;replace hh := (hh.Ec hpl).sub (List.sublist_append_left [_] _);rw [hcz] at *;refine k8 ?_;refine bh (mI (aA (ai ?_)));refine ⟨⟨i + 1, _, _, T + bN s, Tx, rfl, hT2.symm, rfl, Tx, hh⟩, by show n - (i + 1) < n - i; omega, ?_⟩;exact dL
  ·refine sr ?_;refine nH ?_;refine bz hh (hU _ _ _ (aU 18446744073709551616 T) _ (hh.aC (i := 0) rfl) (je _) (hh.fF (i := 0) rfl) Tx) rfl ?_;intro w30 hh;rw [gi];exact Qx
theorem BO (s : ByteArray) (l h : Nat) : s.extract l h = str ((s.data.toList.take h).drop l) := by
 apply tX;rw [dt];simp [ByteArray.extract, ByteArray.copySlice, List.drop_take]
def Ou : Value → Nat
 | .string t => t.size
 | _ => 0
theorem tG (s : ByteArray) (w : World) :
  Calls Tryz.prog 263 #[.string s, .int .u8 ((0 : UInt8).toNat : Int)] w fun e w' => e = .returned (.string (sN (bN s))) ∧ Below w.heap.size w w' := by
 have hh := Hp.start w;refine aj (N := 17) (l := [.string s, .int .u8 ((0 : UInt8).toNat : Int)]) Tryz.func263 rfl rfl (by simp) ?_;refine sr (aS (aa (ah (aq ?_))));refine aP [0, 5, 6, 7, 8, 9, 10, 11, 12, 13, 14, 15] 0
  (fun v w' => ∃ l : List UInt8, v = .string (str l) ∧ l.length ≤ s.size ∧ bn l = bN s ∧ w' = w)
  (fun v _ => Ou v) ?_ ?_
 ·exact ⟨s.data.toList, by rw [Pf]; rfl, by rw [dA]; exact Nat.le_refl _, rfl, rfl⟩
 ·rintro ρ' v w' ⟨l, rfl, hl, hb, rfl⟩;have hsz := kM l
  cases l with
  | nil =>
   refine ah (sr (mS ?_));refine bG bg.out rfl Ty ?_;refine bM (mB ?_);refine gS (gS (gS (gS ?_)));refine dK ?_;refine aa (cF (aZ (aD (aD (bq (ai (sr (mS (aS (aa (av ?_)))))))))));refine cX ?_;rw [sN, ← hb];exact ⟨rfl, hh.below⟩
  | cons c l =>
   have hc0 : (str (c :: l)).data.toList[(0 : Int).toNat]? = some c := by rw [dt]; rfl
   have hc8 := c.toNat_lt;have hlen : (str (c :: l)).size = l.length + 1 := by rw [hsz]; rfl
   have hz : (0 : UInt8).toNat = 0 := rfl;by_cases h0 : c = 0
   ·subst h0;refine ah (sr (mS ?_));refine bG bg.out rfl Ty ?_;refine bM (mB (gT (mS (gT ?_))));refine jG ?_;refine gT (mI (gT ?_));refine cW ?_;refine fu ?_;refine aa (cT (ar (ai (aq (al (mS ?_))))));refine rK (l := 1) (h := (str ((0 : UInt8) :: l)).size) bg.out rfl ⟨_, _, rfl, Tx⟩ rfl Tx Tx Ty ?_;refine aS (aA (bA (ai ?_)));rw [BO, dt, List.take_of_length_le (by rw [hlen]; simp), List.drop_succ_cons, List.drop_zero];refine ⟨⟨l, rfl, by simp at hl; omega, by rw [← hb, Jg], rfl⟩, ?_, ?_⟩
    ·show (str l).size < (str (0 :: l)).size;rw [hlen, kM]; omega
    exact TA
   ·have hcn : c.toNat ≠ 0 := fun h => h0 (UInt8.toNat_inj.1 h);refine ah (sr (mS ?_));refine bG bg.out rfl Ty ?_;refine bM (mB (gT (mS (gT ?_))));refine jG ?_;refine gT (mI (gT ?_));refine cW ?_;refine fu ?_;refine aa (cF (aZ (aD (aD (bq (ai (sr (mS (aS (aa (av ?_)))))))))));refine cX ?_;rw [sN, ← hb, Rl (by simpa using h0)];exact ⟨rfl, hh.below⟩
theorem tD (s : ByteArray) (w : World) :
  Calls Tryz.prog 254 #[.string s, .string (ByteArray.mk #[0])] w fun e w' => e = .returned (.string (sN (bN s))) ∧ Below w.heap.size w w' := by
 have hh := Hp.start w;have hne : ¬ ByteArray.mk #[(0 : UInt8)] = ByteArray.mk #[] := by intro h; injection h with h; simp at h
 have hsz1 : (ByteArray.mk #[(0 : UInt8)]).size = 1 := rfl;have hc0 : (ByteArray.mk #[(0 : UInt8)]).data.toList[(0 : Int).toNat]? = some 0 := rfl;have hz : (0 : UInt8).toNat = 0 := rfl;by_cases h0 : s = ByteArray.mk #[]
 ·subst h0;refine aj (N := 37) (l := [.string (ByteArray.mk #[]), .string (ByteArray.mk #[0])]) Tryz.func254 rfl rfl (by simp) ?_;refine sr (aS (aa (ah (sr (mS ?_)))));refine j5 rfl rfl (by first | rfl | assumption | decide) Ty ?_;refine mB ?_;refine gS (gS ?_);refine fu ?_;refine aa (cT (sr (mS (aS (aa (av (aG ?_)))))));refine cX ?_;rw [show bN (ByteArray.mk #[]) = 0 from rfl, nn];exact ⟨rfl, hh.below⟩
 ·refine aj (N := 37) (l := [.string s, .string (ByteArray.mk #[0])]) Tryz.func254 rfl rfl (by simp) ?_;refine sr (aS (aa (ah (sr (mS ?_)))));refine kj rfl rfl (by first | assumption | decide) Ty ?_;refine mB (gT (mS (gT ?_)))
  (first | refine j5 rfl rfl (by first | rfl | assumption | decide) Ty ?_ | refine kj rfl rfl (by first | assumption | decide) Ty ?_)
  refine dK ?_;refine aa (cF (ar (ai (ah (sr (mS ?_))))));refine bG bg.out rfl Ty ?_;refine cW (mB (gT (mS (gT ?_))));refine jG ?_;refine gT ?_;refine bf ?_;refine fu ?_;refine aa (cT (sr (mS (mS ?_))));refine jG ?_;refine bz hh (tG s _) rfl ?_;intro w25 hh;refine aS (aa (av (aG ?_)));refine cX ?_;exact ⟨rfl, hh.below⟩
theorem kC (s : ByteArray) (w : World) :
  Calls Tryz.prog 233 #[.string s] w fun e w' => e = .returned (.string (sN (bN s))) ∧ Below w.heap.size w w' := by
 have hh := Hp.start w;refine aj (N := 5) (l := [.string s]) Tryz.func233 rfl rfl (by simp) ?_;refine sr (aS (aa (sr (mS ?_))));refine bz hh (tD s _) rfl ?_;intro w4 hh;exact F1
def iv (s : Bool) (m : ByteArray) : Int := if s then -(bN m : Int) else bN m
def iN (z : Int) : Bool := decide (z < 0)
def iM (z : Int) : ByteArray := sN z.natAbs
theorem e9 (z : Int) : iv (iN z) (iM z) = z := by
 unfold iv iN iM;rw [eR];by_cases h : z < 0
 ·rw [decide_eq_true h, if_pos rfl]; omega
 ·rw [decide_eq_false h, if_neg (by simp)]; omega
theorem r7 {z : Int} : iM z = ByteArray.mk #[] ↔ z = 0 := by
 rw [iM, ← nn];constructor
 ·intro h; have := H4 h; omega
 ·intro h; rw [h]; rfl
theorem jT (s : Bool) (m : ByteArray) : (iv s m).natAbs = bN m := by
 unfold iv; split <;> omega
theorem E4 (s : Bool) (m : ByteArray) : iM (iv s m) = sN (bN m) := by rw [iM, jT]
theorem Nm (s : Bool) (m : ByteArray) : iN (iv s m) = (s && decide (bN m ≠ 0)) := by
 unfold iN iv;rw [Bool.eq_iff_iff, Bool.and_eq_true, decide_eq_true_eq, decide_eq_true_eq]
 cases s
 ·simp only [Bool.false_eq_true, if_false, false_and, iff_false]; omega
 ·simp only [if_true, true_and]; omega
theorem jA (s : Bool) (m : ByteArray) (w : World) :
  Calls Tryz.prog 199 #[.agg #[.bool s, .string m]] w fun e w' => e = .returned (.agg #[.string m, .bool s]) ∧ Below w.heap.size w w' := by
 have hh := Hp.start w;refine aj (N := 8) (l := [.agg #[.bool s, .string m]]) Tryz.func199 rfl rfl (by simp) ?_;refine sr ?_;refine cx hh [_,_] ?_;intro b1 w1 hh;refine bR hh ?_;intro b2 w2 hh;refine aa (sr (bD ?_));refine bB hh 1 ?_;refine bD ?_;refine bB hh 1 ?_;refine gj [_,_] ?_;exact Ob
theorem dp (s : Bool) (m : ByteArray) (w : World) :
  Calls Tryz.prog 200 #[.agg #[.string m, .bool s]] w fun e w' => e = .returned (.agg #[.bool (iN (iv s m)), .string (iM (iv s m))]) ∧ Below w.heap.size w w' := by
 have hh := Hp.start w;rw [Nm, E4]
 cases s with
 | false =>
  refine aj (N := 15) (l := [.agg #[.string m, .bool false]]) Tryz.func200 rfl rfl (by simp) ?_;refine sr ?_;refine cx hh [_,_] ?_;intro b1 w1 hh;refine bR hh ?_;intro b2 w2 hh;refine aa (sr (bD ?_));refine bB hh 1 ?_;refine bz hh (kC m _) rfl ?_;intro w6 hh;refine aS (aa (sr (bD ?_)));refine bB hh 1 ?_;refine mB ?_;refine gS (gS ?_);refine dK ?_;refine mS ?_;refine gj [_,_] ?_;exact Ob
 | true =>
  by_cases h0 : sN (bN m) = ByteArray.mk #[]
  ·refine aj (N := 15) (l := [.agg #[.string m, .bool true]]) Tryz.func200 rfl rfl (by simp) ?_;refine sr ?_;refine cx hh [_,_] ?_;intro b1 w1 hh;refine bR hh ?_;intro b2 w2 hh;refine aa (sr (bD ?_));refine bB hh 1 ?_;refine bz hh (kC m _) rfl ?_;intro w6 hh;refine aS (aa (sr (bD ?_)));refine bB hh 1 ?_;refine mB (gT (mS (gT ?_)))
   (first | refine j7 rfl rfl (by first | rfl | assumption | decide) Ty ?_ | refine kn rfl rfl (by first | assumption | decide) Ty ?_)
   refine fu ?_;refine mS ?_;refine gj [_,_] ?_;refine bW hh 0 [_,_] ?_;intro ws hh;replace hh : Hp _ (.blk _ _ [_, _] _ :: _) _ := hh;refine aa (av ?_);refine pD ?_;exact QC
  ·refine aj (N := 15) (l := [.agg #[.string m, .bool true]]) Tryz.func200 rfl rfl (by simp) ?_;refine sr ?_;refine cx hh [_,_] ?_;intro b1 w1 hh;refine bR hh ?_;intro b2 w2 hh;refine aa (sr (bD ?_));refine bB hh 1 ?_;refine bz hh (kC m _) rfl ?_;intro w6 hh;refine aS (aa (sr (bD ?_)));refine bB hh 1 ?_;refine mB (gT (mS (gT ?_)))
   (first | refine j7 rfl rfl (by first | rfl | assumption | decide) Ty ?_ | refine kn rfl rfl (by first | assumption | decide) Ty ?_)
   refine fu ?_;refine mS ?_;refine gj [_,_] ?_;refine bW hh 0 [_,_] ?_;intro ws hh;replace hh : Hp _ (.blk _ _ [_, _] _ :: _) _ := hh;refine aa (av ?_);refine pD ?_;exact Nu
def S8 (s : Bool) (m : ByteArray) : Value := .agg #[.string m, .bool s]
theorem tQ (a b : ByteArray) (w : World) (ha : a.size ≤ 1000000000) (hb : b.size ≤ 1000000000) :
  Calls Tryz.prog 231 #[.string a, .string b] w fun e w' => e = .returned (.int .i64 (kH (bN a) (bN b))) ∧ Below w.heap.size w w' := by
 have hh := Hp.start w;refine aj (N := 8) (l := [.string a, .string b]) Tryz.func231 rfl rfl (by simp) ?_;refine sr (aI (aa (sr (mS (mS ?_)))));refine bz hh (xP a b _ ha hb) rfl ?_;intro w7 hh;exact zr
theorem ml (s : Bool) (m : ByteArray) (w : World) :
  Calls Tryz.prog 223 #[.agg #[.bool s, .string m]] w fun e w' => e = .returned (.agg #[.bool (iN (iv s m)), .string (iM (iv s m))]) ∧ Below w.heap.size w w' := by
 have hh := Hp.start w;refine aj (N := 6) (l := [.agg #[.bool s, .string m]]) Tryz.func223 rfl rfl (by simp) ?_;refine sr ?_;refine cx hh [_,_] ?_;intro b1 w1 hh;refine bR hh ?_;intro b2 w2 hh;refine aa (sr ?_);refine cD hh 1 [_,_] ?_;refine bz hh (jA s m _) rfl ?_;intro w4 hh;refine bz hh (dp s m _) rfl ?_;intro w5 hh;exact Ob
theorem sO (s : Bool) (m : ByteArray) (w : World) :
  Calls Tryz.prog 185 #[.agg #[.bool s, .string m]] w fun e w' => e = .returned (.agg #[.bool (iN (-(iv s m))), .string (iM (-(iv s m)))]) ∧ Below w.heap.size w w' := by
 have hh := Hp.start w;have e1 : iv (!s) m = -(iv s m) := by unfold iv; cases s <;> simp
 refine aj (N := 10) (l := [.agg #[.bool s, .string m]]) Tryz.func185 rfl rfl (by simp) ?_;refine sr ?_;refine cx hh [_,_] ?_;intro b1 w1 hh;refine bR hh ?_;intro b2 w2 hh;refine aa (sr (bD ?_));refine bB hh 1 ?_;refine bD ?_;refine bB hh 1 ?_;refine gC ?_;refine gj [_,_] ?_;refine bz hh (dp (!s) m _) rfl ?_;intro w9 hh;rw [e1];exact Ob
theorem j9 (s : Bool) (m : ByteArray) (w : World) :
  Calls Tryz.prog 195 #[.agg #[.bool s, .string m]] w fun e w' => e = .returned (.int .i64 (iv s m).sign) ∧ Below w.heap.size w w' := by
 have hh := Hp.start w;by_cases h1 : iv s m < 0
 ·have hn : iN (iv s m) = true := decide_eq_true h1;refine J8 ?_;refine sr ?_;refine cx hh [_,_] ?_;intro b1 w1 hh;refine aI (aa (sr ?_));refine cD hh 0 [_,_] ?_;refine bz hh (ml s m _) rfl ?_;intro w5 hh;rw [hn];refine bR hh ?_;intro b3 w3 hh;refine bW hh 0 [_,_] ?_;intro ws hh;replace hh : Hp _ (.blk _ _ [_, _] _ :: _) _ := hh;refine aa (ah (aq (sr (bD ?_))));refine bB hh 0 ?_;refine EA ?_;refine cX ?_;exact ⟨by rw [Int.sign_eq_neg_one_of_neg h1], hh.below⟩
 ·have hn : iN (iv s m) = false := decide_eq_false h1;by_cases h0 : iM (iv s m) = ByteArray.mk #[]
  ·refine J8 ?_;refine sr ?_;refine cx hh [_,_] ?_;intro b1 w1 hh;refine aI (aa (sr ?_));refine cD hh 0 [_,_] ?_;refine bz hh (ml s m _) rfl ?_;intro w5 hh;rw [hn];refine bR hh ?_;intro b3 w3 hh;refine bW hh 0 [_,_] ?_;intro ws hh;replace hh : Hp _ (.blk _ _ [_, _] _ :: _) _ := hh;refine aa (ah (aq (sr (bD ?_))));refine bB hh 0 ?_;refine aB (aa (cF (sr (bD ?_))));refine bB hh 0 ?_;refine j5 rfl rfl (by first | rfl | assumption | decide) Ty ?_;refine EA ?_;refine cX ?_;exact ⟨by rw [r7.1 h0]; rfl, hh.below⟩
  ·have h2 : 0 < iv s m := by
    have : iv s m ≠ 0 := fun h => h0 (r7.2 h);omega
   refine J8 ?_;refine sr ?_;refine cx hh [_,_] ?_;intro b1 w1 hh;refine aI (aa (sr ?_));refine cD hh 0 [_,_] ?_;refine bz hh (ml s m _) rfl ?_;intro w5 hh;rw [hn];refine bR hh ?_;intro b3 w3 hh;refine bW hh 0 [_,_] ?_;intro ws hh;replace hh : Hp _ (.blk _ _ [_, _] _ :: _) _ := hh;refine aa (ah (aq (sr (bD ?_))));refine bB hh 0 ?_;refine aB (aa (cF (sr (bD ?_))));refine bB hh 0 ?_;refine kj rfl rfl (by first | assumption | decide) Ty ?_;refine aB (aa (cF (ar (bA (ai (sr (aI (aa (av ?_)))))))));refine cX ?_;exact ⟨by rw [Int.sign_eq_one_of_pos h2], hh.below⟩
theorem dO (z : Int) : (iM z).size = (bC z.natAbs + 7) / 8 := lr _
def vU (s t : Bool) (a b : ByteArray) : Bool := if s = t then s else if bN a < bN b then t else s
theorem Ks (s t : Bool) (a b : ByteArray) : iv (vU s t a b) (iM (iv s a + iv t b)) = iv s a + iv t b := by
 unfold iM iv;rw [eR];unfold vU
 cases s <;> cases t <;> simp <;> (try split) <;> (try simp) <;> omega
theorem Bq (s t : Bool) (a b : ByteArray) : iv (s != t) (iM (iv s a * iv t b)) = iv s a * iv t b := by
 rw [iM, Int.natAbs_mul, jT, jT];unfold iv;rw [eR]
 cases s <;> cases t <;> simp [Int.mul_neg, Int.neg_mul]
theorem Aj (s t : Bool) (a b : ByteArray) (w : World) (ha : a.size ≤ 1000000000) (hb : b.size ≤ 1000000000) :
  Calls Tryz.prog 198 #[.agg #[.string a, .bool s], .agg #[.string b, .bool t]] w fun e w' => e = .returned (.agg #[.string (iM (iv s a + iv t b)), .bool (vU s t a b)]) ∧ Below w.heap.size w w' := by
 have hh := Hp.start w;have hiv : ∀ (u : Bool) (n : Nat) (z : Int), (z = if u then -(n : Int) else n) → sN n = iM z := by
  intro u n z hz;have h1 : z.natAbs = n := by rw [hz]; split <;> omega
  rw [iM, h1]
 by_cases hst : s = t
 ·subst hst;have e1 := hiv s (bN a + bN b) (iv s a + iv s b) (by unfold iv; split <;> omega);refine aj (N := 41) (l := [.agg #[.string a, .bool s], .agg #[.string b, .bool s]]) Tryz.func198 rfl rfl (by simp) ?_;refine sr ?_;refine cx hh [_,_] ?_;intro b2 w2 hh;refine cx hh [_,_] ?_;intro b3 w3 hh;refine bR hh ?_;intro b4 w4 hh;refine aa (ah (sr (bD ?_)));refine bB hh 2 ?_;refine bD ?_;refine bB hh 1 ?_;refine EK bg.out rfl rfl (by first | rfl | assumption) Ty ?_;refine aa (cT (ah ?_));refine aY 8 [[(2, none)], [(12, some 0)], [(3, none)], [(14, some 2)], [(13, some 1), (15, some 3)], [(16, some 4)], [(2, none)], [(18, some 6)]] [(7, 19), (6, 18), (5, 17), (4, 16), (3, 15), (2, 14), (1, 13), (0, 12)] hh mixed Tz ?_;refine dV ?_;refine fJ 2 ?_;refine dV ?_;refine fJ 1 ?_;refine sC [_,_] ?_;refine aR (i := 5) (Is (.string (sN (bN a + bN b)))) Is.ext ?_ ?_
  ·intro ρ1 w1 hj hR;obtain ⟨A16, c16, h16, s16⟩ := hR.1;exact a8 rfl (aM ak.out (aw h16 aX)) (xi A16 2 c16 [a, b] _ s16 Tx (by simp; omega)) (fun _ _ hq => ⟨_, hq.1, hq.2, rfl⟩)
  refine dV ?_;refine fJ 2 ?_;refine aT ?_;intro f W hJ hV;have hb_2 := hJ.bl;obtain ⟨v19, v18, v17, v16, v15, v14, v13, v12, _⟩ := hV;obtain ⟨A16, c16, e16, f16⟩ : Rows _ _ _ (f 4) W := v16;replace hh := hJ.hp;refine a6 (bm (ae v19 (ae v18 (ae v17 (ae e16 (ae v15 (ae v14 (ae v13 (ae v12 a0))))))))) ?_;dsimp only [cg];clear e16 hJ;refine gj [_,_] ?_;refine bW hh 0 [_,_] ?_;intro ws hh;replace hh : Hp _ (.blk _ _ [_, _] _ :: _) _ := hh;refine aa (av (aG ?_));refine pD ?_;rw [e1, vU, if_pos rfl];exact ⟨rfl, hh.below⟩
 ·by_cases hlt : bN a < bN b
  ·have e1 := hiv t (bN b - bN a) (iv s a + iv t b) (by unfold iv; cases s <;> cases t <;> simp at hst ⊢ <;> omega);refine aj (N := 41) (l := [.agg #[.string a, .bool s], .agg #[.string b, .bool t]]) Tryz.func198 rfl rfl (by simp) ?_;refine sr ?_;refine cx hh [_,_] ?_;intro b2 w2 hh;refine cx hh [_,_] ?_;intro b3 w3 hh;refine bR hh ?_;intro b4 w4 hh;refine aa (ah (sr (bD ?_)));refine bB hh 2 ?_;refine bD ?_;refine bB hh 1 ?_;refine Fj ?_;refine DQ ?_;refine bB hh 2 ?_;refine bD ?_;refine bB hh 1 ?_;refine bz hh (tQ a b _ ha hb) rfl ?_;intro w25 hh;rw [lN hlt];refine bf (aa (cT (al ?_)));refine cD hh 1 [_,_] ?_;refine cD hh 2 [_,_] ?_;refine bW hh 2 [_,_] ?_;intro ws hh;replace hh : Hp _ (_ :: _ :: .blk _ _ [_, _] _ :: _) _ := hh;refine bW hh 1 [_,_] ?_;intro ws hh;replace hh : Hp _ (_ :: .blk _ _ [_, _] _ :: _) _ := hh;refine aa (sr (bD ?_));refine bB hh 2 ?_;refine bD ?_;refine bB hh 1 ?_;refine bz hh (pY b a _ hb ha) rfl ?_;intro w34 hh;refine mT ?_;refine dq ?_;refine dq ?_;refine aS (aB (aa (sr (mS (bD ?_)))));refine bB hh 2 ?_;refine gj [_,_] ?_;refine bW hh 0 [_,_] ?_;intro ws hh;replace hh : Hp _ (.blk _ _ [_, _] _ :: _) _ := hh;refine aa (av ?_);refine pD ?_
   rw [e1, vU, if_neg hst, if_pos hlt];exact ⟨rfl, hh.below⟩
  ·have e1 := hiv s (bN a - bN b) (iv s a + iv t b) (by unfold iv; cases s <;> cases t <;> simp at hst ⊢ <;> omega);have hc : ¬ kH (bN a) (bN b) < 0 := by unfold kH; split <;> (try split) <;> omega
   refine aj (N := 41) (l := [.agg #[.string a, .bool s], .agg #[.string b, .bool t]]) Tryz.func198 rfl rfl (by simp) ?_;refine sr ?_;refine cx hh [_,_] ?_;intro b2 w2 hh;refine cx hh [_,_] ?_;intro b3 w3 hh;refine bR hh ?_;intro b4 w4 hh;refine aa (ah (sr (bD ?_)));refine bB hh 2 ?_;refine bD ?_;refine bB hh 1 ?_;refine Fj ?_;refine DQ ?_;refine bB hh 2 ?_;refine bD ?_;refine bB hh 1 ?_;refine bz hh (tQ a b _ ha hb) rfl ?_;intro w25 hh;refine bf (aa (cF (ar (ai (sr (bD ?_))))));refine bB hh 2 ?_;refine bD ?_;refine bB hh 1 ?_;refine bz hh (pY a b _ ha hb) rfl ?_;intro w34 hh;refine mT ?_;refine dq ?_;refine dq ?_;refine aS (aB (aa (sr (mS (bD ?_)))));refine bB hh 2 ?_;refine gj [_,_] ?_;refine bW hh 0 [_,_] ?_;intro ws hh;replace hh : Hp _ (.blk _ _ [_, _] _ :: _) _ := hh;refine aa (av ?_);refine pD ?_;rw [e1, vU, if_neg hst, if_neg hlt];exact ⟨rfl, hh.below⟩
theorem pr (s t : Bool) (a b : ByteArray) (w : World) (ha : a.size ≤ 1000000000) (hb : b.size ≤ 1000000000) :
  Calls Tryz.prog 201 #[.agg #[.string a, .bool s], .agg #[.string b, .bool t]] w fun e w' => e = .returned (.agg #[.string (iM (iv s a * iv t b)), .bool (s != t)]) ∧ Below w.heap.size w w' := by
 have hh := Hp.start w;have e0 : (iv s a * iv t b).natAbs = bN a * bN b := by rw [Int.natAbs_mul, jT, jT]
 have e1 : iM (iv s a * iv t b) = sN (bN a * bN b) := by rw [iM, e0]
 refine aj (N := 16) (l := [.agg #[.string a, .bool s], .agg #[.string b, .bool t]]) Tryz.func201 rfl rfl (by simp) ?_;refine sr ?_;refine cx hh [_,_] ?_;intro b2 w2 hh;refine cx hh [_,_] ?_;intro b3 w3 hh;refine bR hh ?_;intro b4 w4 hh;refine aa (ah ?_);refine aY 10 [[(2, none)], [(5, some 0)], [(3, none)], [(7, some 2)], [(6, some 1), (8, some 3)], [(2, none)], [(10, some 5)], [(3, none)], [(12, some 7)], [(11, some 6), (13, some 8)]] [(9, 14), (8, 13), (7, 12), (6, 11), (5, 10), (4, 9), (3, 8), (2, 7), (1, 6), (0, 5)] hh mixed Tz ?_;refine dV ?_;refine fJ 2 ?_;refine dV ?_;refine fJ 1 ?_;refine dC (fun _ hj => xS a b _ ha hb) ?_;refine dV ?_;refine fJ 2 ?_;refine dV ?_;refine fJ 1 ?_;refine bp (i := 9) (fun ρ1 w1 hj hR => oD bg.out (show ρ1 11 = Value.bool _ from hR.1) (show ρ1 13 = Value.bool _ from hR.2.1)) ?_;refine aT ?_;intro f W hJ hV;have hb_1 := hJ.bl;obtain ⟨v14, v13, v12, v11, v10, v9, v8, v7, v6, v5, _⟩ := hV;replace hh := hJ.hp;refine Nl ?_;dsimp only [cg];clear hJ;refine gj [_,_] ?_;refine bW hh 0 [_,_] ?_;intro ws hh;replace hh : Hp _ (.blk _ _ [_, _] _ :: _) _ := hh;refine aa (av ?_);refine pD ?_;rw [e1];exact ⟨rfl, hh.below⟩
theorem np (n : Int) (w : World) (h1 : -9223372036854775808 ≤ n) (h2 : n ≤ 9223372036854775807) :
  Calls Tryz.prog 140 #[.int .i64 n] w fun e w' => e = .returned (.agg #[.bool (iN n), .string (iM n)]) ∧ Below w.heap.size w w' := by
 have hh := Hp.start w;by_cases h0 : n < 0
 ·have e1 : iv true (sN n.natAbs) = n := by unfold iv; rw [eR, if_pos rfl]; omega
  have hw : IntKind.u64.wrap n = ((18446744073709551616 - n.natAbs : Nat) : Int) := by
   rw [show n = ((18446744073709551616 - n.natAbs : Nat) : Int) + -((18446744073709551616 : Nat) : Int) by omega];have := UK.wrap_add (k := .u64) (((18446744073709551616 - n.natAbs : Nat) : Int) + -((18446744073709551616 : Nat) : Int));rw [← this, Int.neg_add_cancel_right, UK.oO Tx];omega
  have hn : (18446744073709551616 - (18446744073709551616 - n.natAbs)) % 18446744073709551616 = n.natAbs := Tx;refine aj (N := 16) (l := [.int .i64 n]) Tryz.func140 rfl rfl (by simp) ?_;refine sr ?_;refine bR hh ?_;intro b2 w2 hh;refine aa (ah (sr (mI ?_)));refine bf (aa (cT (sr (mI ?_))));refine sV bg.out bg.out rfl Ty ?_;rw [hw];refine I9 rfl Tx Ty ?_;rw [hn];skip;refine bz hh (rL n.natAbs _ Tx) rfl ?_;intro w8 hh;refine gj [_,_] ?_;refine bz hh (dp true (sN n.natAbs) _) rfl ?_;intro w10 hh;rw [e1];exact DL
 ·obtain ⟨m, rfl⟩ := Int.eq_ofNat_of_zero_le (by omega : 0 ≤ n);have e1 : iv false (sN m) = m := by unfold iv; rw [eR]; simp
  have hm : m < 18446744073709551616 := Tx;refine aj (N := 16) (l := [.int .i64 (m : Int)]) Tryz.func140 rfl rfl (by simp) ?_;refine sr ?_;refine bR hh ?_;intro b2 w2 hh;refine aa (ah (sr (mI ?_)));refine bf (aa (cF (ar (ai (sr (mI ?_))))));refine l8 ?_;refine bz hh (rL m _ hm) rfl ?_;intro w13 hh;refine gj [_,_] ?_;refine bz hh (dp false (sN m) _) rfl ?_;intro w15 hh;rw [e1];exact Ob
structure IR where
 neg : Bool
 bo : ByteArray
def IR.cells (a : IR) : List Value := [.bool a.neg, .string a.bo]
def IR.v (a : IR) : Int := iv a.neg a.bo
def iR (z : Int) : IR := ⟨iN z, iM z⟩
theorem Re (z : Int) : (iR z).v = z := e9 z
theorem IR.len (a : IR) : a.cells.length = 2 := rfl
theorem pH (x y : Int) : bC (x + y).natAbs ≤ max (bC x.natAbs) (bC y.natAbs) + 1 := by
 apply dv;have h1 := dk x.natAbs;have h2 := dk y.natAbs;have h3 : 2 ^ bC x.natAbs ≤ 2 ^ max (bC x.natAbs) (bC y.natAbs) := Nat.pow_le_pow_right Tx (Nat.le_max_left _ _);have h4 : 2 ^ bC y.natAbs ≤ 2 ^ max (bC x.natAbs) (bC y.natAbs) := Nat.pow_le_pow_right Tx (Nat.le_max_right _ _);rw [Nat.pow_succ];omega
theorem ka (s : Bool) (m : ByteArray) : bC (iv s m).natAbs ≤ 8 * m.size := by rw [jT]; exact gI m
theorem Gc (l : List Int) (x : Int) : (l ++ [x]).sum = l.sum + x := by simp
theorem ux (L : Option Addr) (n c : Nat) (l : List IR) (w : World) (hS : Sl w L n 2 (az IR.cells l)) (hn : n ≤ 1000000) (hs : ∀ s ∈ l, s.bo.size ≤ 100000000) :
  Calls Tryz.prog 138 #[.slice L n c] w fun e w' => e = .returned (.agg #[.bool (iN (l.map IR.v).sum), .string (iM (l.map IR.v).sum)]) ∧ Below w.heap.size w w' := by
 have hl := hS.bk IR.len Tx;have hh := Hp.start w;refine aj (N := 19) (l := [.slice L n c]) Tryz.func138 rfl rfl (by simp) ?_;refine sr ?_;refine bR hh ?_;intro b2 w2 hh;refine aa (sr ?_);refine bR hh ?_;intro b3 w3 hh;refine wh ?_;refine aP [5, 8, 9, 10, 11, 12, 13, 14, 15, 16] 8
  (fun j w' => ∃ (i : Nat) (u : Bool) (S : Int), i ≤ n ∧ j = .int .i64 i ∧ S = ((l.take i).map IR.v).sum ∧ iv u (iM S) = S ∧ bC S.natAbs ≤ 800000000 + i ∧ Hp w [.blk b3 199 [.string (iM S), .bool u] (0, 0), .blk b2 63 [.bool false, .string (ByteArray.mk #[])] (0, 0)] w')
  (fun j _ => n - (intOf j).toNat) ?_ ?_
 ·exact ⟨0, false, 0, Nat.zero_le _, rfl, rfl, by rw [iM]; exact congrArg _ (eR 0), by simp [kZ], by rw [iM, Int.natAbs_zero, nn]; exact hh⟩
 ·clear hh;rintro ρ' j w' ⟨i, u, S, hi, rfl, hS2, hu, hb, hh⟩;by_cases hlt : i < n
  ·obtain ⟨x, hx⟩ := ao (l := l) (k := i) Tx;obtain ⟨ad, rfl, hr⟩ := hS.at_ Tx;have hxs := hs x (List.mem_of_getElem? hx);have hS3 : ((l.take (i + 1)).map IR.v).sum = S + x.v := by rw [ay hx, List.map_append, List.map_singleton, Gc, hS2]
   have hms : (iM S).size ≤ 1000000000 := by rw [dO]; omega
   have hbx := ka x.neg x.bo;have hba := pH S x.v;have hpl := Ks u x.neg (iM S) x.bo;rw [hu] at hpl;have hwc := fun w1 => Aj u x.neg (iM S) x.bo w1 hms Tx;rw [hu] at hwc;refine sr ?_;refine dH ?_;refine cn ?_;refine ct (vs := [_, _]) aN.out rfl (((hr.ext hh.below).recAt IR.len hx)) rfl Ty ?_;refine bR hh ?_;intro b5 w5 hh;refine bW hh 0 [_,_] ?_;intro ws hh;replace hh : Hp _ (.blk _ _ [_, _] _ :: _) _ := hh;refine aa ?_;refine aY 3 [[(3, none)], [(5, none)], [(13, some 1)]] [(2, 14), (1, 13), (0, 12)] hh mixed Tz ?_;refine fT 1 [_,_] ?_;refine fT 0 [_,_] ?_;refine dC (fun _ hj => jA x.neg x.bo _) ?_;refine aT ?_;intro f W hJ hV;have hb_5 := hJ.bl;obtain ⟨v14, v13, v12, _⟩ := hV;replace hh := hJ.hp;refine a6 (bm (ae v14 (ae v13 (ae v12 a0)))) ?_;dsimp only [cg];clear hJ;refine bz hh (hwc _) rfl ?_;intro w15 hh;exact NB
  ·refine sr ?_;refine mu ?_;refine cD hh 0 [_,_] ?_;refine bz hh (dp u (iM S) _) rfl ?_;intro w18 hh;exact Rx
theorem rM (s : Bool) (b : ByteArray) : (iM (-(iv s b))).size ≤ b.size := by
 have := ka s b;rw [dO, Int.natAbs_neg]; omega
theorem uy (s t : Bool) (a b : ByteArray) (w : World) (ha : a.size ≤ 100000000) (hb : b.size ≤ 100000000) :
  Calls Tryz.prog 229 #[.agg #[.bool s, .string a], .agg #[.bool t, .string b]] w fun e w' => e = .returned (.agg #[.bool (iN (iv s a - iv t b)), .string (iM (iv s a - iv t b))]) ∧ Below w.heap.size w w' := by
 have hh := Hp.start w;have h1 := rM t b;have e1 : ([IR.mk s a, iR (-(iv t b))].map IR.v).sum = iv s a - iv t b := by
  simp only [List.map_cons, List.map_nil, List.sum_cons, List.sum_nil, Re];simp only [IR.v]; omega
 refine aj (N := 10) (l := [.agg #[.bool s, .string a], .agg #[.bool t, .string b]]) Tryz.func229 rfl rfl (by simp) ?_;refine sr ?_;refine cx hh [_,_] ?_;intro b2 w2 hh;refine cx hh [_,_] ?_;intro b3 w3 hh;refine bR hh ?_;intro b4 w4 hh;refine aa (ah ?_);refine aY 3 [[(2, none)], [(3, none)], [(6, some 1)]] [(2, 7), (1, 6), (0, 5)] hh mixed Tz ?_;refine fT 2 [_,_] ?_;refine fT 1 [_,_] ?_;refine dC (fun _ hj => sO t b _) ?_;refine aT ?_;intro f W hJ hV;have hb_1 := hJ.bl;obtain ⟨v7, v6, v5, _⟩ := hV;replace hh := hJ.hp;refine a6 (bm (ae v7 (ae v6 (ae v5 a0)))) ?_;dsimp only [cg];clear hJ;refine AV ?_;intro b8 w8 hh;refine bz hh (ux _ 2 _ [IR.mk s a, iR (-(iv t b))] _ (hh.aC (i := 0) rfl) Tx (by simp [iR]; omega)) rfl ?_;intro w9 hh;rw [e1];exact Ia
theorem Dd (s t : Bool) (a b : ByteArray) (w : World) (ha : a.size ≤ 100000000) (hb : b.size ≤ 100000000) :
  Calls Tryz.prog 219 #[.agg #[.bool s, .string a], .agg #[.bool t, .string b]] w fun e w' => e = .returned (.int .i64 (iv s a - iv t b).sign) ∧ Below w.heap.size w w' := by
 have hh := Hp.start w;refine aj (N := 9) (l := [.agg #[.bool s, .string a], .agg #[.bool t, .string b]]) Tryz.func219 rfl rfl (by simp) ?_;refine sr ?_;refine cx hh [_,_] ?_;intro b2 w2 hh;refine cx hh [_,_] ?_;intro b3 w3 hh;refine aI (aa (sr ?_));refine cD hh 1 [_,_] ?_;refine cD hh 0 [_,_] ?_;refine bz hh (uy s t a b _ ha hb) rfl ?_;intro w7 hh;refine bz hh (j9 _ _ _) rfl ?_;intro w8 hh;rw [e9];exact zr
theorem Je (a b : Nat) : bC (a * b) ≤ bC a + bC b := by
 apply dv;rw [Nat.pow_add];exact Nat.mul_lt_mul'' (dk a) (dk b)
theorem lQ (a b : Int) : bC (a * b).natAbs ≤ bC a.natAbs + bC b.natAbs := by rw [Int.natAbs_mul]; exact Je _ _
def mn : List Int → Int
 | [] => 1
 | x :: l => x * mn l
theorem B6 (l : List Int) (x : Int) : mn (l ++ [x]) = mn l * x := by
 induction l with
 | nil => simp [mn]
 | cons y l ih => simp only [List.cons_append, mn, ih, Int.mul_assoc]
theorem BC (l : List Nat) (i : Nat) : (l.take i).sum ≤ l.sum := by
 rw [← List.sum_append_nat.symm.trans (congrArg List.sum (List.take_append_drop i l))]; omega
theorem tL : bC 1 = 1 := by decide +kernel
theorem Cb (L : Option Addr) (n c : Nat) (l : List IR) (w : World) (hS : Sl w L n 2 (az IR.cells l)) (hn : n ≤ 1000000) (hs : (l.map fun a => a.bo.size).sum ≤ 100000000) :
  Calls Tryz.prog 139 #[.slice L n c] w fun e w' => e = .returned (.agg #[.bool (iN (mn (l.map IR.v))), .string (iM (mn (l.map IR.v)))]) ∧ Below w.heap.size w w' := by
 have hl := hS.bk IR.len Tx;have hh := Hp.start w;have hsum := BC (l.map fun a => a.bo.size);refine aj (N := 21) (l := [.slice L n c]) Tryz.func139 rfl rfl (by simp) ?_;refine sr ?_;refine bR hh ?_;intro b2 w2 hh;refine aa (sr ?_);refine bz hh (np 1 _ Tx Tx) rfl ?_;intro w6 hh;refine bz hh (jA _ _ _) rfl ?_;intro w7 hh;refine bR hh ?_;intro b3 w3 hh;refine bW hh 0 [_,_] ?_;intro ws hh;replace hh : Hp _ (.blk _ _ [_, _] _ :: _) _ := hh;refine wh ?_;refine aP [5, 10, 11, 12, 13, 14, 15, 16, 17, 18] 10
  (fun j w' => ∃ (i : Nat) (u : Bool) (S : Int), i ≤ n ∧ j = .int .i64 i ∧ S = mn ((l.take i).map IR.v) ∧ iv u (iM S) = S ∧ bC S.natAbs ≤ 1 + 8 * ((l.map fun a => a.bo.size).take i).sum ∧ Hp w [.blk b3 199 [.string (iM S), .bool u] (0, 0), .blk b2 63 [.bool false, .string (ByteArray.mk #[])] (0, 0)] w')
  (fun j _ => n - (intOf j).toNat) ?_ ?_
 ·exact ⟨0, _, 1, Nat.zero_le _, rfl, rfl, e9 1, by rw [Int.natAbs_one, tL]; omega, hh⟩
 ·clear hh;rintro ρ' j w' ⟨i, u, S, hi, rfl, hS2, hu, hb, hh⟩;by_cases hlt : i < n
  ·obtain ⟨x, hx⟩ := ao (l := l) (k := i) Tx;obtain ⟨ad, rfl, hr⟩ := hS.at_ Tx;have hsi := hsum i;have hsi2 := hsum (i + 1);have hsz : ((l.map fun a => a.bo.size).take (i + 1)).sum = ((l.map fun a => a.bo.size).take i).sum + x.bo.size := by
    rw [ay (x := x.bo.size) (by rw [List.getElem?_map, hx]; rfl), qR]
   have hS3 : mn ((l.take (i + 1)).map IR.v) = S * x.v := by rw [ay hx, List.map_append, List.map_singleton, B6, hS2]
   have hms : (iM S).size ≤ 1000000000 := by rw [dO]; omega
   have hbx := ka x.neg x.bo;have hba := lQ S x.v;have hpl := Bq u x.neg (iM S) x.bo;rw [hu] at hpl;have hwc := fun w1 => pr u x.neg (iM S) x.bo w1 hms Tx;rw [hu] at hwc;refine sr ?_;refine dH ?_;refine cn ?_;refine ct (vs := [_, _]) aN.out rfl (((hr.ext hh.below).recAt IR.len hx)) rfl Ty ?_;refine bR hh ?_;intro b5 w5 hh;refine bW hh 0 [_,_] ?_;intro ws hh;replace hh : Hp _ (.blk _ _ [_, _] _ :: _) _ := hh;refine aa ?_;refine aY 3 [[(3, none)], [(5, none)], [(15, some 1)]] [(2, 16), (1, 15), (0, 14)] hh mixed Tz ?_;refine fT 1 [_,_] ?_;refine fT 0 [_,_] ?_;refine dC (fun _ hj => jA x.neg x.bo _) ?_;refine aT ?_;intro f W hJ hV;have hb_5 := hJ.bl;obtain ⟨v16, v15, v14, _⟩ := hV;replace hh := hJ.hp;refine a6 (bm (ae v16 (ae v15 (ae v14 a0)))) ?_;dsimp only [cg];clear hJ;refine bz hh (hwc _) rfl ?_;intro w17 hh;exact NB
  ·refine sr ?_;refine mu ?_;refine cD hh 0 [_,_] ?_;refine bz hh (dp u (iM S) _) rfl ?_;intro w20 hh;exact Rx
theorem Bl (M k : Nat) (h : 2 ^ k ∣ M) : -((M / 2 ^ k : Nat) : Int) = -(M : Int) / 2 ^ k := by
 obtain ⟨q, rfl⟩ := h;have hp : (0 : Int) < 2 ^ k := Int.pow_pos Tx;rw [Nat.mul_div_cancel_left _ (Nat.pow_pos Tx), Int.natCast_mul, ← Int.mul_neg, Int.natCast_pow];exact (Int.mul_ediv_cancel_left _ (by exact Int.ne_of_gt hp)).symm
theorem xY (M k : Nat) (h : ¬ 2 ^ k ∣ M) : -((M / 2 ^ k : Nat) : Int) - 1 = -(M : Int) / 2 ^ k := by
 have hp : (0 : Int) < 2 ^ k := Int.pow_pos Tx;have h1 := Nat.div_add_mod M (2 ^ k);have h2 := Nat.mod_lt M (Nat.pow_pos (n := k) (show 0 < 2 by omega));have h3 : M % 2 ^ k ≠ 0 := fun h0 => h (Nat.dvd_of_mod_eq_zero h0);have hc : ((2 ^ k : Nat) : Int) = 2 ^ k := by simp
 symm
 rw [Int.ediv_eq_iff_of_pos hp, ← hc];have h4 : (M : Int) = (2 ^ k : Nat) * (M / 2 ^ k : Nat) + (M % 2 ^ k : Nat) := by rw [← Int.natCast_mul, ← Int.natCast_add, h1]
 generalize hK : ((2 ^ k : Nat) : Int) = K at *;generalize ((M / 2 ^ k : Nat) : Int) = q at *;have e : (-q - 1) * K = -(K * q) - K := by rw [Int.sub_mul, Int.neg_mul, Int.mul_comm q]; omega
 have e2 : (-q - 1 + 1) * K = -(K * q) := by rw [Int.sub_add_cancel, Int.neg_mul, Int.mul_comm]
 omega
theorem Hm {M k : Nat} (h0 : M ≠ 0) : 2 ^ k ∣ M ↔ k ≤ tz M := by
 obtain ⟨m, hm⟩ := sI h0;generalize tz M = t at *;constructor
 ·intro h
  rcases Nat.lt_or_ge t k with hlt | hge
  ·exfalso;obtain ⟨q, hq⟩ := h;rw [hm, show k = t + (1 + (k - t - 1)) by omega, Nat.pow_add, Nat.pow_add, Nat.mul_assoc] at hq;have := Nat.eq_of_mul_eq_mul_left (Nat.pow_pos Tx) hq;rw [Nat.pow_one, Nat.mul_assoc] at this;omega
  ·exact hge
 ·intro h;rw [hm];exact Nat.dvd_trans (Nat.pow_dvd_pow 2 h) (Nat.dvd_mul_right _ _)
theorem oV (a : Int) (n : Nat) : bC (a ^ n).natAbs ≤ 1 + n * bC a.natAbs := by
 induction n with
 | zero => simp [tL]
 | succ n ih =>
  rw [Int.pow_succ];have := lQ (a ^ n) a;rw [Nat.succ_mul]; omega
theorem B9 (s : Bool) (a : ByteArray) (n : Int) (w : World) (h0 : n.toNat * a.size ≤ 100000000) (hn : n ≤ 1000000000) (ha : a.size ≤ 100000000) :
  Calls Tryz.prog 141 #[.agg #[.bool s, .string a], .int .i64 n] w fun e w' => e = .returned (.agg #[.bool (iN (iv s a ^ n.toNat)), .string (iM (iv s a ^ n.toNat))]) ∧ Below w.heap.size w w' := by
 have hh := Hp.start w;have e1 : (if (0 : Int) > n then 0 else n) = (n.toNat : Int) := by split <;> omega
 have hm : n.toNat ≤ 1000000000 := Tx;generalize n.toNat = m at *;refine aj (N := 19) (l := [.agg #[.bool s, .string a], .int .i64 n]) Tryz.func141 rfl rfl (by simp) ?_;refine sr ?_;refine cx hh [_,_] ?_;intro b2 w2 hh;refine bR hh ?_;intro b4 w4 hh;refine aa (sr ?_);refine bz hh (np 1 _ Tx Tx) rfl ?_;intro w6 hh;refine bz hh (jA _ _ _) rfl ?_;intro w7 hh;refine bR hh ?_;intro b5 w5 hh;refine bW hh 0 [_,_] ?_;intro ws hh;replace hh : Hp _ (.blk _ _ [_, _] _ :: _) _ := hh;refine aa (ah (sr (mI ?_)));refine kK rfl rfl Ty ?_;refine mI (aa (aq ?_));rw [e1];refine aP [10, 11, 12, 13, 14, 15, 16] 10
  (fun j w' => ∃ (i : Nat) (u : Bool) (S : Int), i ≤ m ∧ j = .int .i64 i ∧ S = iv s a ^ i ∧ iv u (iM S) = S ∧ Hp w [.blk b5 199 [.string (iM S), .bool u] (0, 0), .blk b4 63 [.bool false, .string (ByteArray.mk #[])] (0, 0), .blk b2 63 [.bool s, .string a] (0, 0)] w')
  (fun j _ => m - (intOf j).toNat) ?_ ?_
 ·exact ⟨0, _, 1, Nat.zero_le _, rfl, by rw [Int.pow_zero], e9 1, hh⟩
 ·clear hh;rintro ρ' j w' ⟨i, u, S, hi, rfl, hS2, hu, hh⟩;by_cases hlt : i < m
  ·have hb := oV (iv s a) i;rw [← hS2] at hb;have hbx := ka s a;have hle : i * bC (iv s a).natAbs ≤ m * (8 * a.size) := Nat.mul_le_mul hi hbx;rw [Nat.mul_left_comm] at hle;have hms : (iM S).size ≤ 1000000000 := by rw [dO]; omega
   have hpl := Bq u s (iM S) a;rw [hu] at hpl;have hwc := fun w1 => pr u s (iM S) a w1 hms Tx;rw [hu] at hwc;refine sr ?_;refine bf (aa (ah (cT (ar (ai (ah (aq ?_)))))));refine aY 3 [[(5, none)], [(2, none)], [(13, some 1)]] [(2, 14), (1, 13), (0, 12)] hh mixed Tz ?_;refine fT 0 [_,_] ?_;refine fT 2 [_,_] ?_;refine dC (fun _ hj => jA s a _) ?_;refine aT ?_;intro f W hJ hV;have hb_4 := hJ.bl;obtain ⟨v14, v13, v12, _⟩ := hV;replace hh := hJ.hp;refine a6 (bm (ae v14 (ae v13 (ae v12 a0)))) ?_;dsimp only [cg];clear hJ;refine bz hh (hwc _) rfl ?_;intro w15 hh;refine bW hh 0 [_,_] ?_;intro ws hh;replace hh : Hp _ (.blk _ _ [_, _] _ :: _) _ := hh;refine fL ?_;refine bh (mI (aA (ai ?_)));refine ⟨⟨i + 1, _, _, Tx, rfl, by rw [Int.pow_succ, hS2], hpl, hh⟩, by show m - (i + 1) < m - i; omega, ?_⟩;exact dL
  ·obtain rfl : i = m := Tx;refine sr ?_;refine mu ?_;refine cD hh 0 [_,_] ?_;refine bz hh (dp u (iM S) _) rfl ?_;intro w18 hh;rw [hu, hS2];exact Ia
theorem OI (s : Bool) (a : ByteArray) (m : Nat) : iv s (sN (bN a * 2 ^ m)) = iv s a * 2 ^ m := by
 unfold iv;rw [eR]
 cases s <;> simp [Int.natCast_mul, Int.neg_mul]
theorem B3 (s : Bool) (a : ByteArray) (m : Nat) (w : World) (ha : a.size ≤ 100000000) (hm : m ≤ 1000000000) :
  Calls Tryz.prog 197 #[.agg #[.bool s, .string a], .int .i64 (m : Int)] w fun e w' => e = .returned (.agg #[.bool (iN (iv s a * 2 ^ m)), .string (iM (iv s a * 2 ^ m))]) ∧ Below w.heap.size w w' := by
 have hh := Hp.start w;refine aj (N := 47) (l := [.agg #[.bool s, .string a], .int .i64 (m : Int)]) Tryz.func197 rfl rfl (by simp) ?_;refine sr ?_;refine cx hh [_,_] ?_;intro b2 w2 hh;refine bR hh ?_;intro b4 w4 hh;refine aa (ah (sr (mI ?_)));refine dR (aa (cT (ah ?_)));refine aY 6 [[(2, none)], [(8, some 0)], [(1, none)], [(9, some 1), (10, some 2)], [(2, none)], [(12, some 4)]] [(5, 13), (4, 12), (3, 11), (2, 10), (1, 9), (0, 8)] hh mixed Tz ?_;refine dV ?_;refine fJ 1 ?_;refine dE ?_;refine dC (fun _ hj => yc a m _ Tx Tx) ?_;refine dV ?_;refine fJ 1 ?_;refine aT ?_;intro f W hJ hV;have hb_2 := hJ.bl;obtain ⟨v13, v12, v11, v10, v9, v8, _⟩ := hV;replace hh := hJ.hp;refine a6 (bm (ae v13 (ae v12 (ae v11 (ae v10 (ae v9 (ae v8 a0))))))) ?_;dsimp only [cg];clear hJ;refine gj [_,_] ?_;refine bz hh (dp s (sN (bN a * 2 ^ m)) _) rfl ?_;intro w15 hh;rw [OI];exact DL
theorem Di (s : Bool) (a : ByteArray) (m : Nat) (w : World) (hT : ee w) (ha : a.size ≤ 100000000) (h0 : 0 < m) (hm : m ≤ 1000000000000) :
  Calls Tryz.prog 197 #[.agg #[.bool s, .string a], .int .i64 (-(m : Int))] w fun e w' => e = .returned (.agg #[.bool (iN (iv s a / 2 ^ m)), .string (iM (iv s a / 2 ^ m))]) ∧ Below w.heap.size w w' := by
 have hh := Hp.start w;have e1 : (if (-1099511627776 : Int) > -(m : Int) then -1099511627776 else -(m : Int)) = -(m : Int) := if_neg Tx;have e2 : -(-(m : Int)) = (m : Int) := Tx;have hcs : ∀ w1, Calls Tryz.prog 227 #[.string a, .int .i64 (-(-(m : Int)))] w1 fun e w' => e = .returned (.string (sN (bN a / 2 ^ m))) ∧ Below w1.heap.size w1 w' := fun w1 => by
  rw [e2]; exact xJ a m w1 Tx Tx
 cases s with
 | false =>
  have e3 : iv false (sN (bN a / 2 ^ m)) = iv false a / 2 ^ m := by
   unfold iv;rw [eR];simp
  refine aj (N := 47) (l := [.agg #[.bool false, .string a], .int .i64 (-(m : Int))]) Tryz.func197 rfl rfl (by simp) ?_;refine sr ?_;refine cx hh [_,_] ?_;intro b2 w2 hh;refine bR hh ?_;intro b4 w4 hh;refine aa (ah (sr (mI ?_)));refine dR (aa (cF (ar (ai (sr (mI ?_))))));refine kK rfl rfl Ty ?_;refine aI (aa (ah ?_));rw [e1];refine EE ?_;refine dV ?_;refine fJ 1 ?_;refine dE ?_;refine Eo ?_;refine dC (fun _ hj => hcs _) ?_;refine dV ?_;refine fJ 1 ?_;refine dB [_,_] ?_;refine dC (fun _ hj => dp false (sN (bN a / 2 ^ m)) _) ?_;refine Fg ?_;refine aT ?_;intro f W hJ hV;have hb_4 := hJ.bl;obtain ⟨v5, v26, v25, v24, v23, v22, v21, v20, v19, v18, _⟩ := hV;obtain ⟨b5, e5, hl5, hc5⟩ : dr _ _ _ (f 9) W := v5;replace hh := hJ.newVar hh hl5 hc5;refine EW ?_;dsimp only [cg];clear e5 hJ;rw [e3];refine bW hh 0 [_,_] ?_;intro ws hh;replace hh : Hp _ (.blk _ _ [_, _] _ :: _) _ := hh;refine aa (ah (sr (bD ?_)));refine bB hh 2 ?_;refine mB ?_;refine gS (gS ?_);refine iJ ?_;refine gS ?_;refine dK ?_;exact NI
 | true =>
  have hb := gI a;have e4 : iv true (sN (bN a / 2 ^ m)) = -((bN a / 2 ^ m : Nat) : Int) := by
   unfold iv;rw [eR, if_pos rfl]
  have e5 : iv true a = -(bN a : Int) := by unfold iv; rw [if_pos rfl]
  by_cases hz : bN a = 0
  ·have e3 : iv true (sN (bN a / 2 ^ m)) = iv true a / 2 ^ m := by
    rw [e4, e5, hz]; simp
   refine Jc ?_;refine sr ?_;refine cx hh [_,_] ?_;intro b2 w2 hh;refine bR hh ?_;intro b4 w4 hh;refine aa (ah (sr (mI ?_)));refine dR (aa (cF (ar (ai (sr (mI ?_))))));refine kK rfl rfl Ty ?_;refine aI (aa (ah ?_));rw [e1];refine EE ?_;refine dV ?_;refine fJ 1 ?_;refine dE ?_;refine Eo ?_;refine dC (fun _ hj => hcs _) ?_;refine dV ?_;refine fJ 1 ?_;refine dB [_,_] ?_;refine dC (fun _ hj => dp true (sN (bN a / 2 ^ m)) _) ?_;refine Fg ?_;refine aT ?_;intro f W hJ hV;have hb_4 := hJ.bl;obtain ⟨v5, v26, v25, v24, v23, v22, v21, v20, v19, v18, _⟩ := hV;obtain ⟨b5, e5, hl5, hc5⟩ : dr _ _ _ (f 9) W := v5;replace hh := hJ.newVar hh hl5 hc5;refine EW ?_;dsimp only [cg];clear e5 hJ;rw [e3];refine bW hh 0 [_,_] ?_;intro ws hh;replace hh : Hp _ (.blk _ _ [_, _] _ :: _) _ := hh;refine aa (ah (sr (bD ?_)));refine bB hh 2 ?_;refine mB (gT (bD (gT ?_)));refine bB hh 2 ?_;refine aH rfl rfl ?_;refine bz hh (lP a _ Tx) rfl ?_;intro w32 hh;rw [hz, kZ];refine gT ?_;refine bM ?_;refine fu ?_;exact NI
  ·have hbp := pN hz;by_cases hd : 2 ^ m ∣ bN a
   ·have e3 : iv true (sN (bN a / 2 ^ m)) = iv true a / 2 ^ m := by
     rw [e4, e5]; exact Bl _ _ hd
    have htz := (Hm hz).1 hd;refine Jc ?_;refine sr ?_;refine cx hh [_,_] ?_;intro b2 w2 hh;refine bR hh ?_;intro b4 w4 hh;refine aa (ah (sr (mI ?_)));refine dR (aa (cF (ar (ai (sr (mI ?_))))));refine kK rfl rfl Ty ?_;refine aI (aa (ah ?_));rw [e1];refine EE ?_;refine dV ?_;refine fJ 1 ?_;refine dE ?_;refine Eo ?_;refine dC (fun _ hj => hcs _) ?_;refine dV ?_;refine fJ 1 ?_;refine dB [_,_] ?_;refine dC (fun _ hj => dp true (sN (bN a / 2 ^ m)) _) ?_;refine Fg ?_;refine aT ?_;intro f W hJ hV;have hb_4 := hJ.bl;obtain ⟨v5, v26, v25, v24, v23, v22, v21, v20, v19, v18, _⟩ := hV;obtain ⟨b5, e5, hl5, hc5⟩ : dr _ _ _ (f 9) W := v5;replace hh := hJ.newVar hh hl5 hc5;refine EW ?_;dsimp only [cg];clear e5 hJ;rw [e3];refine bW hh 0 [_,_] ?_;intro ws hh;replace hh : Hp _ (.blk _ _ [_, _] _ :: _) _ := hh;refine aa (ah (sr (bD ?_)));refine bB hh 2 ?_;refine mB (gT (bD (gT ?_)));refine bB hh 2 ?_;refine aH rfl rfl ?_;refine bz hh (lP a _ Tx) rfl ?_;intro w32 hh;refine gT ?_;refine bM ?_;refine fu ?_;refine mB (gT (bD (gT ?_)));refine bB hh 2 ?_;refine aH rfl rfl ?_;refine bz hh (jS a _ Tx (hT.hp hh)) rfl ?_;intro w38 hh;refine gT (mI (gT ?_));refine yD rfl Tx Tx Ty ?_;refine gT ?_;refine bf ?_
    refine fu ?_;refine qZ ?_;refine cD hh 0 [_,_] ?_;exact Ia
   ·have e3 : iv true (sN (bN a / 2 ^ m)) - 1 = iv true a / 2 ^ m := by
     rw [e4, e5]; exact xY _ _ hd
    have htz : tz (bN a) < m := Nat.lt_of_not_le fun h => hd ((Hm hz).2 h);have hsz : (iM (iv true (sN (bN a / 2 ^ m)))).size ≤ 100000000 := by
     have := oW (bN a) m;rw [dO, jT, eR]; omega
    have hsub : ∀ w1, Calls Tryz.prog 229 #[.agg #[.bool (iN (iv true (sN (bN a / 2 ^ m)))), .string (iM (iv true (sN (bN a / 2 ^ m))))], .agg #[.bool (iN 1), .string (iM 1)]] w1 fun e w' => e = .returned (.agg #[.bool (iN (iv true a / 2 ^ m)), .string (iM (iv true a / 2 ^ m))]) ∧ Below w1.heap.size w1 w' := fun w1 => by
     have := uy (iN (iv true (sN (bN a / 2 ^ m)))) (iN 1) (iM (iv true (sN (bN a / 2 ^ m)))) (iM 1) w1 hsz (by rw [dO, Int.natAbs_one, tL]; omega);rw [e9, e9, e3] at this;exact this
    refine Jc ?_;refine sr ?_;refine cx hh [_,_] ?_;intro b2 w2 hh;refine bR hh ?_;intro b4 w4 hh;refine aa (ah (sr (mI ?_)));refine dR (aa (cF (ar (ai (sr (mI ?_))))));refine kK rfl rfl Ty ?_;refine aI (aa (ah ?_));rw [e1];refine EE ?_;refine dV ?_;refine fJ 1 ?_;refine dE ?_;refine Eo ?_;refine dC (fun _ hj => hcs _) ?_;refine dV ?_;refine fJ 1 ?_;refine dB [_,_] ?_;refine dC (fun _ hj => dp true (sN (bN a / 2 ^ m)) _) ?_;refine Fg ?_;refine aT ?_;intro f W hJ hV;have hb_4 := hJ.bl;obtain ⟨v5, v26, v25, v24, v23, v22, v21, v20, v19, v18, _⟩ := hV;obtain ⟨b5, e5, hl5, hc5⟩ : dr _ _ _ (f 9) W := v5;replace hh := hJ.newVar hh hl5 hc5;refine EW ?_;dsimp only [cg];clear e5 hJ;refine bW hh 0 [_,_] ?_;intro ws hh;replace hh : Hp _ (.blk _ _ [_, _] _ :: _) _ := hh;refine aa (ah (sr (bD ?_)));refine bB hh 2 ?_;refine mB (gT (bD (gT ?_)));refine bB hh 2 ?_;refine aH rfl rfl ?_;refine bz hh (lP a _ Tx) rfl ?_;intro w32 hh;refine gT ?_;refine bM ?_;refine fu ?_;refine mB (gT (bD (gT ?_)));refine bB hh 2 ?_;refine aH rfl rfl ?_;refine bz hh (jS a _ Tx (hT.hp hh)) rfl ?_;intro w38 hh;refine gT (mI (gT ?_));refine yD rfl Tx Tx Ty ?_;refine gT ?_;refine bf ?_;refine fu ?_;refine aa (cT (ah ?_))
    refine aY 2 [[(5, none)], []] [(1, 44), (0, 43)] hh mixed Tz ?_;refine fT 0 [_,_] ?_;refine dC (fun _ hj => np 1 _ Tx Tx) ?_;refine aT ?_;intro f W hJ hV;have hb_6 := hJ.bl;obtain ⟨v44, v43, _⟩ := hV;replace hh := hJ.hp;refine a6 (bm (ae v44 (ae v43 a0))) ?_;dsimp only [cg];clear hJ;refine bz hh (hsub _) rfl ?_;intro w45 hh;refine bW hh 1 [_,_] ?_;intro ws hh;replace hh : Hp _ (_ :: .blk _ _ [_, _] _ :: _) _ := hh;refine aa (av (aG ?_));exact Ns
theorem Pz : (2 : Rat) ≠ 0 := by decide
theorem two_pos (k : Int) : (0 : Rat) < 2 ^ k := Rat.zpow_pos Ty
theorem ki (i p : Int) : (Dyadic.ofIntWithPrec i p).toRat = i * 2 ^ (-p) := Dyadic.toRat_ofIntWithPrec_eq_mul_two_pow
theorem qH (i p : Int) (n : Nat) : Dyadic.ofIntWithPrec (i * 2 ^ n) (p + n) = Dyadic.ofIntWithPrec i p := by
 rw [← Int.shiftLeft_eq]; exact Dyadic.ofIntWithPrec_shiftLeft_add
theorem lC (i : Int) {p q : Int} {n : Nat} (h : q = p + n) : Dyadic.ofIntWithPrec i p = Dyadic.ofIntWithPrec (i * 2 ^ n) q := by
 subst h; exact (qH i p n).symm
theorem ym (i j p : Int) : Dyadic.ofIntWithPrec i p + Dyadic.ofIntWithPrec j p = Dyadic.ofIntWithPrec (i + j) p := by
 rw [← Dyadic.toRat_inj, Dyadic.toRat_add, ki, ki, ki, Rat.intCast_add, Rat.add_mul]
theorem D1 (i p : Int) : -Dyadic.ofIntWithPrec i p = Dyadic.ofIntWithPrec (-i) p := Dyadic.neg_ofIntWithPrec
theorem so (i j p q : Int) : Dyadic.ofIntWithPrec i p * Dyadic.ofIntWithPrec j q = Dyadic.ofIntWithPrec (i * j) (p + q) := by
 rw [← Dyadic.toRat_inj, Dyadic.toRat_mul, ki, ki, ki, Rat.intCast_mul, Int.neg_add, Rat.zpow_add Pz];grind
theorem tO (i j p : Int) : Dyadic.ofIntWithPrec i p < Dyadic.ofIntWithPrec j p ↔ i < j := by
 rw [← Dyadic.toRat_lt_toRat_iff, ki, ki];rw [← Rat.intCast_lt_intCast];constructor
 ·intro h;exact Rat.lt_of_mul_lt_mul_right h (Rat.le_of_lt (two_pos _))
 ·intro h;exact Rat.mul_lt_mul_of_pos_right h (two_pos _)
theorem kG (p : Int) : Dyadic.ofIntWithPrec 0 p = 0 := rfl
theorem KU {i j p : Int} (h : Dyadic.ofIntWithPrec i p = Dyadic.ofIntWithPrec j p) : i = j := by
 rcases Int.lt_trichotomy i j with h1 | h1 | h1
 ·rw [← tO i j p, h] at h1;exact absurd h1 (by rw [tO]; omega)
 ·exact h1
 ·rw [← tO j i p, h] at h1;exact absurd h1 (by rw [tO]; omega)
theorem qS {i p : Int} (h : Dyadic.ofIntWithPrec i p = 0) : i = 0 := KU (p := p) (by rw [h]; rfl)
theorem Fb (n k : Int) (h : n % 2 = 1) : Dyadic.ofOdd n k h = Dyadic.ofIntWithPrec n k := Dyadic.ofOdd_eq_ofIntWithPrec
theorem xB {i p : Int} (h : i ≠ 0) : Dyadic.ofIntWithPrec i p = .ofOdd (i >>> i.trailingZeros) (p - i.trailingZeros) (Int.shiftRight_trailingZeros_mod_two h) := by
 rw [Dyadic.ofIntWithPrec, dif_neg h]
structure NR where
 neg : Bool
 bo : ByteArray
 e : Int
def NR.cells (a : NR) : List Value := [.bool a.neg, .string a.bo, .int .i64 a.e]
theorem NR.len (a : NR) : a.cells.length = 3 := rfl
theorem NR.one (a : NR) : a.cells.all Value.oneCell' = true := rfl
def NR.i (a : NR) : Int := iv a.neg a.bo
def NR.d (a : NR) : Dyadic := Dyadic.ofIntWithPrec a.i (-a.e)
def nR : Dyadic → NR
 | .zero => ⟨false, ByteArray.mk #[], 0⟩
 | .ofOdd n k _ => ⟨iN n, iM n, -k⟩
theorem lF : nR 0 = ⟨false, ByteArray.mk #[], 0⟩ := rfl
theorem cf (x : Dyadic) : (nR x).d = x := by
 cases x with
 | zero => rfl
 | ofOdd n k h =>
  simp only [nR, NR.d, NR.i, e9, Int.neg_neg];exact (Fb n k h).symm
theorem Ps {x y : Dyadic} : nR x = nR y ↔ x = y := ⟨fun h => by rw [← cf x, h, cf], fun h => by rw [h]⟩
theorem Ri (s : Bool) (a : ByteArray) : (iv s a).trailingZeros = tz (bN a) := by
 unfold iv;split
 ·rw [Int.trailingZeros_neg]; rfl
 ·rfl
theorem Ez (s : Bool) (a : ByteArray) : iv s a = 0 ↔ bN a = 0 := by
 have := jT s a;omega
theorem qF {s : Bool} {a : ByteArray} {e : Int} (h : iv s a ≠ 0) : nR (Dyadic.ofIntWithPrec (iv s a) (-e)) = ⟨iN (iv s a / 2 ^ tz (bN a)), iM (iv s a / 2 ^ tz (bN a)), e + tz (bN a)⟩ := by
 rw [xB h, nR, Int.shiftRight_eq_div_pow, Ri];have e1 : -(-e - (tz (bN a) : Int)) = e + tz (bN a) := Tx;rw [e1, Int.natCast_pow]
 rfl
def Sz (k : Nat) (x : Dyadic) : Prop := ∃ i : Int, x = Dyadic.ofIntWithPrec i k ∧ i.natAbs < 2 ^ (2 * k)
theorem Sz.zero (k : Nat) : Sz k 0 := ⟨0, rfl, by simpa using Nat.pow_pos Tx⟩
theorem Sz.mono {k l : Nat} {x : Dyadic} (h : Sz k x) (hl : k ≤ l) : Sz l x := by
 obtain ⟨i, rfl, hi⟩ := h;refine ⟨i * 2 ^ (l - k), lC i Tx, ?_⟩;rw [Int.natAbs_mul, Int.natAbs_pow];have h1 : i.natAbs * 2 ^ (l - k) < 2 ^ (2 * k) * 2 ^ (l - k) := Nat.mul_lt_mul_of_pos_right hi (Nat.pow_pos Tx);rw [← Nat.pow_add] at h1;exact Nat.lt_of_lt_of_le h1 (Nat.pow_le_pow_right Tx Tx)
theorem Sz.neg {k : Nat} {x : Dyadic} (h : Sz k x) : Sz k (-x) := by
 obtain ⟨i, rfl, hi⟩ := h;exact ⟨-i, D1 _ _, by rw [Int.natAbs_neg]; exact hi⟩
theorem Sz.add {k : Nat} {x y : Dyadic} (hx : Sz k x) (hy : Sz k y) : Sz (k + 1) (x + y) := by
 obtain ⟨i, rfl, hi⟩ := hx;obtain ⟨j, rfl, hj⟩ := hy;rw [ym];refine ⟨(i + j) * 2 ^ 1, lC _ Tx, ?_⟩;have h1 : 2 ^ (2 * (k + 1)) = 4 * 2 ^ (2 * k) := by rw [show 2 * (k + 1) = 2 * k + 2 by omega, Nat.pow_add]; omega
 rw [h1];omega
theorem Sz.sub {k : Nat} {x y : Dyadic} (hx : Sz k x) (hy : Sz k y) : Sz (k + 1) (x - y) := hx.add hy.neg
theorem Sz.mul {k l : Nat} {x y : Dyadic} (hx : Sz k x) (hy : Sz l y) : Sz (k + l) (x * y) := by
 obtain ⟨i, rfl, hi⟩ := hx;obtain ⟨j, rfl, hj⟩ := hy;rw [so];refine ⟨i * j, by rw [Int.natCast_add], ?_⟩;rw [Int.natAbs_mul, Nat.mul_add, Nat.pow_add];exact Nat.mul_lt_mul'' hi hj
theorem kU {i : Int} (h : i ≠ 0) : 2 ^ i.trailingZeros ≤ i.natAbs := by
 have h1 := Int.two_pow_trailingZeros_dvd h;have h2 := Int.natAbs_dvd_natAbs.2 h1;rw [Int.natAbs_pow] at h2;exact Nat.le_of_dvd Tx h2
theorem Sz.nr {k : Nat} {x : Dyadic} (h : Sz k x) : (nR x).bo.size ≤ (2 * k + 7) / 8 ∧ -(k : Int) ≤ (nR x).e ∧ (nR x).e ≤ k := by
 obtain ⟨i, rfl, hi⟩ := h;by_cases h0 : i = 0
 ·subst h0;rw [kG, lF];exact ⟨Nat.zero_le _, (by omega : -(k : Int) ≤ 0), (by omega : (0 : Int) ≤ k)⟩
 ·have h2 := kU h0;rw [xB h0, nR];simp only;refine ⟨?_, Tx, ?_⟩
  ·rw [dO];have : bC (i >>> i.trailingZeros).natAbs ≤ 2 * k := by
    apply dv;refine Nat.lt_of_le_of_lt ?_ hi;rw [Int.shiftRight_eq_div_pow];exact Int.natAbs_ediv_le_natAbs _ _
   omega
  ·have h3 : 2 ^ i.trailingZeros < 2 ^ (2 * k) := Nat.lt_of_le_of_lt h2 hi;have := (Nat.pow_lt_pow_iff_right Tx).1 h3;omega
theorem Sz.raw {a : NR} {m E : Nat} (hm : 8 * a.bo.size ≤ m) (h1 : -(E : Int) ≤ a.e) (h2 : a.e ≤ E) : Sz (m + E) a.d := by
 refine ⟨a.i * 2 ^ (a.e + m + E).toNat, lC _ Tx, ?_⟩;have h3 : a.i.natAbs < 2 ^ m := by
  rw [NR.i, jT];refine Nat.lt_of_lt_of_le (dk _) (Nat.pow_le_pow_right Tx ?_);have := gI a.bo;omega
 rw [Int.natAbs_mul, Int.natAbs_pow];have h4 := Nat.mul_lt_mul_of_pos_right h3 (Nat.pow_pos (n := (a.e + m + E).toNat) (show 0 < 2 by omega));rw [← Nat.pow_add] at h4;exact Nat.lt_of_lt_of_le h4 (Nat.pow_le_pow_right Tx Tx)
def En (i n : Int) : Int := if 0 ≤ n then i * 2 ^ n.toNat else i / 2 ^ (-n).toNat
theorem I5 (n : Int) : En 0 n = 0 := by unfold En; split <;> simp
def cO : Dyadic → Int → Int
 | .zero, _ => 0
 | .ofOdd n k _, p => En n (p - k)
def di : Dyadic → Dyadic → Int
 | .zero, .zero => 0
 | .zero, .ofOdd _ k _ => k
 | .ofOdd _ k _, .zero => k
 | .ofOdd _ k _, .ofOdd _ l _ => max k l
theorem nx (n k p : Int) (h : n % 2 = 1) (hp : k ≤ p) : Dyadic.ofIntWithPrec (cO (.ofOdd n k h) p) p = .ofOdd n k h := by
 simp only [cO];rw [Fb, En, if_pos Tx];exact (lC n Tx).symm
theorem IX (x y : Dyadic) : Dyadic.ofIntWithPrec (cO x (di x y)) (di x y) = x := by
 cases x with
 | zero => rfl
 | ofOdd n k h =>
  cases y with
  | zero => exact nx _ _ _ _ (Int.le_refl _)
  | ofOdd m l g => exact nx _ _ _ _ (Int.le_max_left _ _)
theorem Ki (x y : Dyadic) : Dyadic.ofIntWithPrec (cO y (di x y)) (di x y) = y := by
 cases y with
 | zero => rfl
 | ofOdd n k h =>
  cases x with
  | zero => exact nx _ _ _ _ (Int.le_refl _)
  | ofOdd m l g => exact nx _ _ _ _ (Int.le_max_right _ _)
theorem LA (x y : Dyadic) : Dyadic.ofIntWithPrec (cO x (di x y) + cO y (di x y)) (di x y) = x + y := by
 rw [← ym, IX, Ki]
theorem JM (i n : Int) : bC (En i n).natAbs ≤ bC i.natAbs + n.toNat := by
 unfold En;split
 ·rw [Int.natAbs_mul, Int.natAbs_pow];exact pM _ _
 ·have : bC (i / 2 ^ (-n).toNat).natAbs ≤ bC i.natAbs := dv (Nat.lt_of_le_of_lt (Int.natAbs_ediv_le_natAbs _ _) (dk _));omega
theorem ES (x y : Dyadic) (E : Int) (h1 : -E ≤ (nR x).e ∧ (nR x).e ≤ E) (h2 : -E ≤ (nR y).e ∧ (nR y).e ≤ E) : -E ≤ di x y ∧ di x y ≤ E := by
 cases x <;> cases y <;> simp only [nR, di] at * <;> omega
theorem uI (x : Dyadic) (p : Int) : bC (cO x p).natAbs ≤ 8 * (nR x).bo.size + (p + (nR x).e).toNat := by
 cases x with
 | zero => simp [cO, kZ]
 | ofOdd n k h =>
  have h1 := JM n (p - k);have h2 := gI (iM n);rw [iM, eR] at h2;simp only [cO, nR];rw [show p + -k = p - k by omega];rw [← iM] at h2;omega
section
variable {ro : Mode}
theorem Dr {P : Program} {t : TypeId} {n by' : Nat} {zc : List Value} {cs : Array Value} {off : Nat} {v : Value} (ht : dn P t = some (n, false, by', zc)) (hv : cs[off]? = some v) (w : World) : (part t cs off).run P w = .ok v w := by
 simp [part, iL ht, hv]
theorem Ng {P : Program} {t : TypeId} {n by' : Nat} {zc : List Value} {cs vs : Array Value} {off : Nat} (ht : dn P t = some (n, true, by', zc)) (hv : cs.extract off (off + n) = vs) (w : World) : (part t cs off).run P w = .ok (.agg vs) w := by
 simp [part, iL ht, eN ht, hv]
theorem RZ (n : Nat) (a b : Bool) (w : World) : (Op.equalIn (n + 1) 4 (.bool a) (.bool b)).run Tryz.prog w = .ok (a == b) w := by
 simp [Op.equalIn, run_underlying Tryz.underlying4]
theorem Rt (n : Nat) (a b : ByteArray) (w : World) : (Op.equalIn (n + 1) 9 (.string a) (.string b)).run Tryz.prog w = .ok (a == b) w := by
 simp [Op.equalIn, run_underlying Tryz.underlying9]
theorem R8 (n : Nat) (a b : Int) (w : World) : (Op.equalIn (n + 1) 3 (.int .i64 a) (.int .i64 b)).run Tryz.prog w = .ok (a == b) w := by
 simp [Op.equalIn, run_underlying Tryz.underlying3]
theorem eq_int (n : Nat) (s s' : Bool) (a a' : ByteArray) (w : World) : (Op.equalIn (n + 2) 63 (.agg #[.bool s, .string a]) (.agg #[.bool s', .string a'])).run Tryz.prog w = .ok (s == s' && a == a') w := by
 have h1 := fun (x : Bool) (y : ByteArray) => Dr (P := Tryz.prog) (cs := #[.bool x, .string y]) (off := 0) (aN.out (P := Tryz.prog) (t := 4)) rfl;have h2 := fun (x : Bool) (y : ByteArray) => Dr (P := Tryz.prog) (cs := #[.bool x, .string y]) (off := 1) (aN.out (P := Tryz.prog) (t := 9)) rfl;rw [Op.equalIn];simp [run_underlying Tryz.underlying63, h1, h2, RZ, Rt]
 cases h : s == s' <;> cases h' : a == a' <;> simp_all
theorem Kg (n : Nat) (s s' : Bool) (a a' : ByteArray) (e e' : Int) (w : World) : (Op.equalIn (n + 3) 65 (.agg #[.bool s, .string a, .int .i64 e]) (.agg #[.bool s', .string a', .int .i64 e'])).run Tryz.prog w = .ok ((s == s' && a == a') && e == e') w := by
 have h1 := fun (x : Bool) (y : ByteArray) (z : Int) => Ng (P := Tryz.prog) (cs := #[.bool x, .string y, .int .i64 z]) (vs := #[.bool x, .string y]) (off := 0) (aN.out (P := Tryz.prog) (t := 63)) rfl;have h2 := fun (x : Bool) (y : ByteArray) (z : Int) => Dr (P := Tryz.prog) (cs := #[.bool x, .string y, .int .i64 z]) (off := 2) (aN.out (P := Tryz.prog) (t := 3)) rfl;rw [Op.equalIn];simp [run_underlying Tryz.underlying65, h1, h2, eq_int, R8]
 cases h : s == s' <;> cases h' : a == a' <;> cases h2 : e == e' <;> simp_all
section
variable {ρ : Rf} {w : World} {d : Option Nat} {ty u : TypeId} {pos : String} {af : Array Edge} {g : Option (Nat × Bool)} {x y : Operand} {s s' : Bool} {a a' : ByteArray} {e e' : Int}
theorem Ip {a b : ByteArray} : (a == b) = true ↔ a = b := by
 have : (a == b) = (a.data == b.data) := rfl;rw [this, beq_iff_eq];exact ⟨fun h => by cases a; cases b; simp_all, fun h => by rw [h]⟩
theorem nc : ((s == s' && a == a') && e == e') = true ↔ NR.mk s a e = NR.mk s' a' e' := by
 rw [Bool.and_eq_true, Bool.and_eq_true, beq_iff_eq, Ip, beq_iff_eq, NR.mk.injEq, and_assoc]
theorem M5 {r : Bool} (hx : ev ρ x = .agg #[.bool s, .string a, .int .i64 e]) (hy : ev ρ y = .agg #[.bool s', .string a', .int .i64 e']) (hr : ((s == s' && a == a') && e == e') = r) :
  (execOp (ev ρ) ⟨d, .binOp .eql 65 x y u, ty, pos, af, g⟩).run Tryz.prog w = .ok (.value (.bool r)) w := by
 exact Qq
theorem N8 {r : Bool} (hx : ev ρ x = .agg #[.bool s, .string a, .int .i64 e]) (hy : ev ρ y = .agg #[.bool s', .string a', .int .i64 e']) (hr : ((s == s' && a == a') && e == e') = r) :
  (execOp (ev ρ) ⟨d, .binOp .neq 65 x y u, ty, pos, af, g⟩).run Tryz.prog w = .ok (.value (.bool !r)) w := by
 exact Qq
theorem Em (hx : ev ρ x = .agg #[.bool s, .string a, .int .i64 e]) (hy : ev ρ y = .agg #[.bool s', .string a', .int .i64 e']) (h : NR.mk s a e = NR.mk s' a' e') :
  (execOp (ev ρ) ⟨d, .binOp .eql 65 x y u, ty, pos, af, g⟩).run Tryz.prog w = .ok (.value (.bool true)) w := M5 hx hy (nc.2 h)
theorem Ll (hx : ev ρ x = .agg #[.bool s, .string a, .int .i64 e]) (hy : ev ρ y = .agg #[.bool s', .string a', .int .i64 e']) (h : ¬ NR.mk s a e = NR.mk s' a' e') :
  (execOp (ev ρ) ⟨d, .binOp .eql 65 x y u, ty, pos, af, g⟩).run Tryz.prog w = .ok (.value (.bool false)) w := M5 hx hy (by rw [Bool.eq_false_iff]; exact fun h1 => h (nc.1 h1))
theorem xq (hx : ev ρ x = .agg #[.bool s, .string a, .int .i64 e]) (hy : ev ρ y = .agg #[.bool s', .string a', .int .i64 e']) (h : NR.mk s a e = NR.mk s' a' e') :
  (execOp (ev ρ) ⟨d, .binOp .neq 65 x y u, ty, pos, af, g⟩).run Tryz.prog w = .ok (.value (.bool false)) w := N8 hx hy (nc.2 h)
theorem Fc (hx : ev ρ x = .agg #[.bool s, .string a, .int .i64 e]) (hy : ev ρ y = .agg #[.bool s', .string a', .int .i64 e']) (h : ¬ NR.mk s a e = NR.mk s' a' e') :
  (execOp (ev ρ) ⟨d, .binOp .neq 65 x y u, ty, pos, af, g⟩).run Tryz.prog w = .ok (.value (.bool true)) w := N8 hx hy (r := false) (by rw [Bool.eq_false_iff]; exact fun h1 => h (nc.1 h1))
end
section
variable {N : Nat} {ops : Array Oper} {Q : Kq} {ρ : Rf} {w : World} {rest : List Oper} {d : Nat} {ty u : TypeId} {pos : String} {af : Array Edge} {x y : Operand} {s s' : Bool} {a a' : ByteArray} {e e' : Int}
theorem Fk (hx : ev ρ x = .agg #[.bool s, .string a, .int .i64 e]) (hy : ev ρ y = .agg #[.bool s', .string a', .int .i64 e']) (h : NR.mk s a e = NR.mk s' a' e') (hN : d < N) (kk : WL ro Tryz.prog N ops Q rest (cG ρ d (.bool true)) w) :
  WL ro Tryz.prog N ops Q (⟨some d, .binOp .eql 65 x y u, ty, pos, af, none⟩ :: rest) ρ w := aQ rfl rfl hN (Em hx hy h) kk
theorem yG (hx : ev ρ x = .agg #[.bool s, .string a, .int .i64 e]) (hy : ev ρ y = .agg #[.bool s', .string a', .int .i64 e']) (h : ¬ NR.mk s a e = NR.mk s' a' e') (hN : d < N) (kk : WL ro Tryz.prog N ops Q rest (cG ρ d (.bool false)) w) :
  WL ro Tryz.prog N ops Q (⟨some d, .binOp .eql 65 x y u, ty, pos, af, none⟩ :: rest) ρ w := aQ rfl rfl hN (Ll hx hy h) kk
theorem EH (hx : ev ρ x = .agg #[.bool s, .string a, .int .i64 e]) (hy : ev ρ y = .agg #[.bool s', .string a', .int .i64 e']) (h : ¬ NR.mk s a e = NR.mk s' a' e') (hN : d < N) (kk : WL ro Tryz.prog N ops Q rest (cG ρ d (.bool true)) w) :
  WL ro Tryz.prog N ops Q (⟨some d, .binOp .neq 65 x y u, ty, pos, af, none⟩ :: rest) ρ w := aQ rfl rfl hN (Fc hx hy h) kk
theorem xL (hx : ev ρ x = .agg #[.bool s, .string a, .int .i64 e]) (hy : ev ρ y = .agg #[.bool s', .string a', .int .i64 e']) (h : NR.mk s a e = NR.mk s' a' e') (hN : d < N) (kk : WL ro Tryz.prog N ops Q rest (cG ρ d (.bool false)) w) :
  WL ro Tryz.prog N ops Q (⟨some d, .binOp .neq 65 x y u, ty, pos, af, none⟩ :: rest) ρ w := aQ rfl rfl hN (xq hx hy h) kk
end
theorem pe (s : Bool) (a : ByteArray) (n : Int) (w : World) (hT : ee w) (ha : a.size ≤ 100000000) (h1 : -1000000000 ≤ n) (h2 : n ≤ 1000000000) :
  Calls Tryz.prog 197 #[.agg #[.bool s, .string a], .int .i64 n] w fun e w' => e = .returned (.agg #[.bool (iN (En (iv s a) n)), .string (iM (En (iv s a) n))]) ∧ Below w.heap.size w w' := by
 unfold En;by_cases h : 0 ≤ n
 ·rw [if_pos h];obtain ⟨m, rfl⟩ := Int.eq_ofNat_of_zero_le h;rw [Int.toNat_natCast];exact B3 s a m w ha Tx
 ·rw [if_neg h];obtain ⟨m, hm⟩ := Int.eq_ofNat_of_zero_le (show 0 ≤ -n by omega);rw [hm, Int.toNat_natCast, show n = -(m : Int) by omega];exact Di s a m w hT ha Tx Tx
theorem gZ (s : Bool) (a : ByteArray) (e : Int) (w : World) (hT : ee w) (ha : a.size ≤ 100000000) (h1 : -1000000000000 ≤ e) (h2 : e ≤ 1000000000000) :
  Calls Tryz.prog 137 #[.agg #[.bool s, .string a], .int .i64 e] w fun r w' => r = .returned (.agg #[.bool (nR (Dyadic.ofIntWithPrec (iv s a) (-e))).neg, .string (nR (Dyadic.ofIntWithPrec (iv s a) (-e))).bo, .int .i64 (nR (Dyadic.ofIntWithPrec (iv s a) (-e))).e]) ∧ Below w.heap.size w w' := by
 have hh := Hp.start w;by_cases h0 : iv s a = 0
 ·rw [h0, kG, lF];refine aj (N := 21) (l := [.agg #[.bool s, .string a], .int .i64 e]) Tryz.func137 rfl rfl (by simp) ?_;refine sr ?_;refine cx hh [_,_] ?_;intro b2 w2 hh;refine bR hh ?_;intro b4 w4 hh;refine aa (ah (sr ?_));refine cD hh 1 [_,_] ?_;refine bz hh (j9 s a _) rfl ?_;intro w7 hh;rw [h0];refine cW (aa (cT (sr ?_)));refine gj [_,_,_] ?_;refine bW hh 0 [_,_,_] ?_;intro ws hh;replace hh : Hp _ (.blk _ _ [_, _, _] _ :: _) _ := hh;refine aa (av (aG ?_));exact Nz
 ·have hs : (iv s a).sign ≠ 0 := by rw [ne_eq, Int.sign_eq_zero_iff_zero]; exact h0
  rw [qF h0];have hz : bN a ≠ 0 := fun h => h0 ((Ez s a).2 h);have htz : tz (bN a) < 8 * a.size + 1 := by
   have := vG a;rw [show (256 : Nat) = 2 ^ 8 from rfl, ← Nat.pow_mul] at this;have := xe hz this;omega
  have hsh : En (iv s a) (-(tz (bN a) : Int)) = iv s a / 2 ^ tz (bN a) := by
   unfold En;split
   ·have : tz (bN a) = 0 := Tx;rw [this]; simp
   ·rw [Int.neg_neg, Int.toNat_natCast]
  refine aj (N := 21) (l := [.agg #[.bool s, .string a], .int .i64 e]) Tryz.func137 rfl rfl (by simp) ?_;refine sr ?_;refine cx hh [_,_] ?_;intro b2 w2 hh;refine bR hh ?_;intro b4 w4 hh;refine aa (ah (sr ?_));refine cD hh 1 [_,_] ?_;refine bz hh (j9 s a _) rfl ?_;intro w7 hh;refine cW (aa (cF (ar (ai (sr (bD ?_))))));refine bB hh 1 ?_;refine bz hh (jS a _ Tx (hT.hp hh)) rfl ?_;intro w12 hh;refine aI (aa (sr ?_));refine cD hh 1 [_,_] (mI ?_);refine yD rfl Tx Tx Ty ?_;refine bz hh (pe s a (-(tz (bN a) : Int)) _ (hT.hp hh) ha Tx Tx) rfl ?_;intro w16 hh;rw [hsh];refine mI (mI ?_);refine bh ?_;refine gj [_,_,_] ?_;exact Lr
def NR.ok (a : NR) : Prop := a.bo.size ≤ 1000000 ∧ -10000000 ≤ a.e ∧ a.e ≤ 10000000
theorem Sz.ok {k : Nat} {x : Dyadic} (h : Sz k x) (hk : k ≤ 3999990) : (nR x).ok := by
 have := h.nr;refine ⟨Tx, Tx, Tx⟩
theorem kS (n : Int) (w : World) (hT : ee w) (h1 : -9223372036854775808 ≤ n) (h2 : n ≤ 9223372036854775807) :
  Calls Tryz.prog 50 #[.int .i64 n] w fun r w' => r = .returned (.agg #[.bool (nR (n : Dyadic)).neg, .string (nR (n : Dyadic)).bo, .int .i64 (nR (n : Dyadic)).e]) ∧ Below w.heap.size w w' := by
 have hh := Hp.start w;have hsz : (iM n).size ≤ 100000000 := by
  rw [dO];have : bC n.natAbs ≤ 64 := dv Tx;omega
 have hc : ∀ w1, ee w1 → Calls Tryz.prog 137 #[.agg #[.bool (iN n), .string (iM n)], .int .i64 0] w1 fun r w' => r = .returned (.agg #[.bool (nR (n : Dyadic)).neg, .string (nR (n : Dyadic)).bo, .int .i64 (nR (n : Dyadic)).e]) ∧ Below w1.heap.size w1 w' := fun w1 hT1 => by
  have := gZ (iN n) (iM n) 0 w1 hT1 hsz Tx Tx;rw [e9] at this;exact this
 refine aj (N := 6) (l := [.int .i64 n]) Tryz.func50 rfl rfl (by simp) ?_;refine sr ?_;refine bR hh ?_;intro b2 w2 hh;refine aa (sr (mI ?_));refine bz hh (np n _ h1 h2) rfl ?_;intro w4 hh;refine bz hh (hc _ (hT.hp hh)) rfl ?_;intro w5 hh;exact Lr
theorem ep (a : NR) (w : World) (hT : ee w) (ha : a.bo.size ≤ 100000000) (h1 : -1000000000000 ≤ a.e) (h2 : a.e ≤ 1000000000000) :
  Calls Tryz.prog 132 #[.agg #[.bool a.neg, .string a.bo, .int .i64 a.e]] w fun r w' => r = .returned (.agg #[.bool (nR a.d).neg, .string (nR a.d).bo, .int .i64 (nR a.d).e]) ∧ Below w.heap.size w w' := by
 have hh := Hp.start w;refine aj (N := 8) (l := [.agg #[.bool a.neg, .string a.bo, .int .i64 a.e]]) Tryz.func132 rfl rfl (by simp) ?_;refine sr ?_;refine cx hh [_,_,_] ?_;intro b1 w1 hh;refine bR hh ?_;intro b2 w2 hh;refine aa (sr (bD ?_));refine cD hh 1 [_,_] (bD ?_);refine bB hh 1 ?_;refine bz hh (gZ a.neg a.bo a.e _ (hT.hp hh) ha h1 h2) rfl ?_;intro w7 hh;exact Lr
theorem g8 (a : NR) (w : World) :
  Calls Tryz.prog 164 #[.agg #[.bool a.neg, .string a.bo, .int .i64 a.e]] w fun r w' => r = .returned (.int .i64 a.i.sign) ∧ Below w.heap.size w w' := by
 have hh := Hp.start w;refine aj (N := 6) (l := [.agg #[.bool a.neg, .string a.bo, .int .i64 a.e]]) Tryz.func164 rfl rfl (by simp) ?_;refine sr ?_;refine cx hh [_,_,_] ?_;intro b1 w1 hh;refine aI (aa (sr (bD ?_)));refine cD hh 0 [_,_] ?_;refine bz hh (j9 a.neg a.bo _) rfl ?_;intro w5 hh;exact zr
theorem nY (a : NR) (w : World) (hT : ee w) (ha : a.bo.size ≤ 100000000) (h1 : -1000000000000 ≤ a.e) (h2 : a.e ≤ 1000000000000) :
  Calls Tryz.prog 118 #[.agg #[.bool a.neg, .string a.bo, .int .i64 a.e]] w fun r w' => r = .returned (.agg #[.bool (nR (-a.d)).neg, .string (nR (-a.d)).bo, .int .i64 (nR (-a.d)).e]) ∧ Below w.heap.size w w' := by
 have hh := Hp.start w;have hc : ∀ w1, ee w1 → Calls Tryz.prog 137 #[.agg #[.bool (iN (-(iv a.neg a.bo))), .string (iM (-(iv a.neg a.bo)))], .int .i64 a.e] w1 fun r w' => r = .returned (.agg #[.bool (nR (-a.d)).neg, .string (nR (-a.d)).bo, .int .i64 (nR (-a.d)).e]) ∧ Below w1.heap.size w1 w' := fun w1 hT1 => by
  have hs := rM a.neg a.bo;have := gZ (iN (-(iv a.neg a.bo))) (iM (-(iv a.neg a.bo))) a.e w1 hT1 Tx h1 h2;rw [e9, ← D1] at this;exact this
 refine aj (N := 9) (l := [.agg #[.bool a.neg, .string a.bo, .int .i64 a.e]]) Tryz.func118 rfl rfl (by simp) ?_;refine sr ?_;refine cx hh [_,_,_] ?_;intro b1 w1 hh;refine bR hh ?_;intro b2 w2 hh;refine aa (ah ?_);refine aY 5 [[(1, none)], [(3, some 0)], [(4, some 1)], [(1, none)], [(6, some 3)]] [(4, 7), (3, 6), (2, 5), (1, 4), (0, 3)] hh mixed Tz ?_;refine dV ?_;refine fT 1 [_,_] ?_;refine dC (fun _ hj => sO a.neg a.bo _) ?_;refine dV ?_;refine fJ 1 ?_;refine aT ?_;intro f W hJ hV;have hb_1 := hJ.bl;obtain ⟨v7, v6, v5, v4, v3, _⟩ := hV;replace hh := hJ.hp;refine a6 (bm (ae v7 (ae v6 (ae v5 (ae v4 (ae v3 a0)))))) ?_;dsimp only [cg];clear hJ;refine bz hh (hc _ (hT.hp hh)) rfl ?_;intro w8 hh;exact Lr
theorem wi (s : Int) (a : NR) (w : World) (hT : ee w) (ha : a.bo.size ≤ 100000000) (h1 : -1000000000 ≤ a.e - s) (h2 : a.e - s ≤ 1000000000) :
  Calls Tryz.prog 194 #[.int .i64 s, .agg #[.bool a.neg, .string a.bo, .int .i64 a.e]] w fun r w' => r = .returned (.agg #[.bool (iN (En a.i (a.e - s))), .string (iM (En a.i (a.e - s)))]) ∧ Below w.heap.size w w' := by
 have hh := Hp.start w;refine aj (N := 12) (l := [.int .i64 s, .agg #[.bool a.neg, .string a.bo, .int .i64 a.e]]) Tryz.func194 rfl rfl (by simp) ?_;refine sr ?_;refine cx hh [_,_,_] ?_;intro b3 w3 hh;refine bR hh ?_;intro b4 w4 hh;refine aa (sr (bD ?_));refine cD hh 1 [_,_] (bD ?_);refine bB hh 1 ?_;refine mI ?_;refine dT ?_;refine bz hh (pe a.neg a.bo (a.e - s) _ (hT.hp hh) ha h1 h2) rfl ?_;intro w11 hh;exact Ob
theorem C5 (x : Dyadic) (p : Int) : En (nR x).i ((nR x).e - -p) = cO x p := by
 cases x with
 | zero => exact I5 _
 | ofOdd n k h =>
  simp only [nR, NR.i, e9, cO];congr 1;omega
theorem j8 (x : Dyadic) : nR x = ⟨false, ByteArray.mk #[], 0⟩ ↔ x = 0 := by rw [← lF, Ps]
theorem mO {a : NR} (h : a.ok) : Sz 18000000 a.d ∧ (nR a.d).bo.size ≤ 1000000 ∧ -18000000 ≤ (nR a.d).e ∧ (nR a.d).e ≤ 18000000 := by
 obtain ⟨h1, h2, h3⟩ := h;refine ⟨Sz.raw (m := 8000000) (E := 10000000) Tx Tx Tx, ?_⟩;by_cases h0 : iv a.neg a.bo = 0
 ·rw [NR.d, NR.i, h0, kG, lF];exact ⟨Nat.zero_le _, by simp, by simp⟩
 ·rw [NR.d, NR.i, qF h0];have hz : bN a.bo ≠ 0 := fun h => h0 ((Ez a.neg a.bo).2 h);have htz : tz (bN a.bo) < 8 * a.bo.size + 1 := by
   have := vG a.bo;rw [show (256 : Nat) = 2 ^ 8 from rfl, ← Nat.pow_mul] at this;have := xe hz this;omega
  have hb : bC (iv a.neg a.bo / 2 ^ tz (bN a.bo)).natAbs ≤ 8 * a.bo.size := by
   apply dv;refine Nat.lt_of_le_of_lt (Int.natAbs_ediv_le_natAbs _ _) ?_;rw [jT];exact Nat.lt_of_lt_of_le (dk _) (Nat.pow_le_pow_right Tx (gI _))
  simp only;rw [dO];refine ⟨Tx, Tx, Tx⟩
theorem pd (a b : NR) (w : World) (hT : ee w) (ha : a.ok) (hb : b.ok) :
  Calls Tryz.prog 136 #[.agg #[.bool a.neg, .string a.bo, .int .i64 a.e], .agg #[.bool b.neg, .string b.bo, .int .i64 b.e]] w fun r w' => r = .returned (.agg #[.int .i64 (-(di a.d b.d)), .bool (iN (cO a.d (di a.d b.d))), .string (iM (cO a.d (di a.d b.d))), .bool (iN (cO b.d (di a.d b.d))), .string (iM (cO b.d (di a.d b.d)))]) ∧ Below w.heap.size w w' := by
 have hh := Hp.start w;obtain ⟨ha1, ha2, ha3⟩ := ha;obtain ⟨hb1, hb2, hb3⟩ := hb;obtain ⟨_, fa1, fa2, fa3⟩ := mO (a := a) ⟨ha1, ha2, ha3⟩;obtain ⟨_, fb1, fb2, fb3⟩ := mO (a := b) ⟨hb1, hb2, hb3⟩;have hP := ES a.d b.d 18000000 Tx Tx;have hcx := fun w1 hT1 => wi (-(di a.d b.d)) (nR a.d) w1 hT1 Tx Tx Tx;have hcy := fun w1 hT1 => wi (-(di a.d b.d)) (nR b.d) w1 hT1 Tx Tx Tx;rw [C5] at hcx hcy;by_cases h0 : a.d = 0
 ·have h0' := (j8 a.d).2 h0;have hs : (nR b.d).e = -(di a.d b.d) := by
   rw [h0]
   cases b.d with
   | zero => rfl
   | ofOdd n k h => rfl
  refine HB ?_;refine sr ?_;refine cx hh [_,_,_] ?_;intro b2 w2 hh;refine cx hh [_,_,_] ?_;intro b3 w3 hh;refine bR hh ?_;intro b4 w4 hh;refine aa (ah ?_);refine JI ?_;refine fT 2 [_,_,_] ?_;refine Hw ?_;refine fT 1 [_,_,_] ?_;refine aT ?_;intro f W hJ hV;have hb_1 := hJ.bl;obtain ⟨v9, v8, v7, _⟩ := hV;replace hh := hJ.hp;refine a6 (bm (ae v9 (ae v8 (ae v7 a0)))) ?_;dsimp only [cg];clear hJ;refine bz hh (ep b _ (hT.hp hh) Tx Tx Tx) rfl ?_;intro w10 hh;refine bW hh 2 [_,_,_] ?_;intro ws hh;replace hh : Hp _ (_ :: _ :: .blk _ _ [_, _, _] _ :: _) _ := hh;refine bW hh 1 [_,_,_] ?_;intro ws hh;replace hh : Hp _ (_ :: .blk _ _ [_, _, _] _ :: _) _ := hh;refine aa (sr (bD ?_));refine bB hh 2 ?_;refine bD ?_;refine bB hh 1 ?_;refine xc rfl rfl Ty ?_;refine aI (aa (ah (aq (sr ?_))));refine cD hh 2 [_,_,_] ?_;refine gj [_,_,_] ?_;refine Fk rfl rfl (by first | assumption | rfl) Ty ?_;refine aB (aa (cT (al (bD ?_))));refine bB hh 1 ?_;refine aI (aA (bA (ai (sr ?_))));exact RO
 ·have h0' : ¬ nR a.d = ⟨false, ByteArray.mk #[], 0⟩ := fun h => h0 ((j8 _).1 h);by_cases h1 : b.d = 0
  ·have h1' := (j8 b.d).2 h1;have hs : (nR a.d).e = -(di a.d b.d) := by
    rw [h1]
    cases a.d with
    | zero => rfl
    | ofOdd n k h => rfl
   refine HB ?_;refine sr ?_;refine cx hh [_,_,_] ?_;intro b2 w2 hh;refine cx hh [_,_,_] ?_;intro b3 w3 hh;refine bR hh ?_;intro b4 w4 hh;refine aa (ah ?_);refine JI ?_;refine fT 2 [_,_,_] ?_;refine Hw ?_;refine fT 1 [_,_,_] ?_;refine aT ?_;intro f W hJ hV;have hb_1 := hJ.bl;obtain ⟨v9, v8, v7, _⟩ := hV;replace hh := hJ.hp;refine a6 (bm (ae v9 (ae v8 (ae v7 a0)))) ?_;dsimp only [cg];clear hJ;refine bz hh (ep b _ (hT.hp hh) Tx Tx Tx) rfl ?_;intro w10 hh;refine bW hh 2 [_,_,_] ?_;intro ws hh;replace hh : Hp _ (_ :: _ :: .blk _ _ [_, _, _] _ :: _) _ := hh;refine bW hh 1 [_,_,_] ?_;intro ws hh;replace hh : Hp _ (_ :: .blk _ _ [_, _, _] _ :: _) _ := hh;refine aa (sr (bD ?_));refine bB hh 2 ?_;refine bD ?_;refine bB hh 1 ?_;refine xc rfl rfl Ty ?_;refine aI (aa (ah (aq (sr ?_))));refine cD hh 2 [_,_,_] ?_;refine gj [_,_,_] ?_;refine yG rfl rfl (by assumption) Ty ?_;refine aB (aa (cF (sr ?_)));refine cD hh 1 [_,_,_] ?_;refine gj [_,_,_] ?_;refine Fk rfl rfl (by first | assumption | rfl) Ty ?_;refine aB (aa (cT (al (bD ?_))));refine bB hh 2 ?_;refine aI (aA (bA (ai (sr ?_))));exact RO
  ·have h1' : ¬ nR b.d = ⟨false, ByteArray.mk #[], 0⟩ := fun h => h1 ((j8 _).1 h);have hs : (if (nR b.d).e < (nR a.d).e then (nR b.d).e else (nR a.d).e) = -(di a.d b.d) := by
    revert h0 h1
    cases a.d with
    | zero => intro h; exact absurd rfl h
    | ofOdd n k h =>
     cases b.d with
     | zero => intro _ h; exact absurd rfl h
     | ofOdd m l g =>
      intro _ _;simp only [nR, di];omega
   refine HB ?_;refine sr ?_;refine cx hh [_,_,_] ?_;intro b2 w2 hh;refine cx hh [_,_,_] ?_;intro b3 w3 hh;refine bR hh ?_;intro b4 w4 hh;refine aa (ah ?_);refine JI ?_;refine fT 2 [_,_,_] ?_;refine Hw ?_;refine fT 1 [_,_,_] ?_;refine aT ?_;intro f W hJ hV;have hb_1 := hJ.bl;obtain ⟨v9, v8, v7, _⟩ := hV;replace hh := hJ.hp;refine a6 (bm (ae v9 (ae v8 (ae v7 a0)))) ?_;dsimp only [cg];clear hJ;refine bz hh (ep b _ (hT.hp hh) Tx Tx Tx) rfl ?_;intro w10 hh;refine bW hh 2 [_,_,_] ?_;intro ws hh;replace hh : Hp _ (_ :: _ :: .blk _ _ [_, _, _] _ :: _) _ := hh;refine bW hh 1 [_,_,_] ?_;intro ws hh;replace hh : Hp _ (_ :: .blk _ _ [_, _, _] _ :: _) _ := hh;refine aa (sr (bD ?_));refine bB hh 2 ?_;refine bD ?_;refine bB hh 1 ?_;refine xc rfl rfl Ty ?_;refine aI (aa (ah (aq (sr ?_))));refine cD hh 2 [_,_,_] ?_;refine gj [_,_,_] ?_;refine yG rfl rfl (by assumption) Ty ?_;refine aB (aa (cF (sr ?_)));refine cD hh 1 [_,_,_] ?_;refine gj [_,_,_] ?_;refine yG rfl rfl (by assumption) Ty ?_;refine aB (aa (cF (ar (bA (ai (sr ?_))))));exact RO
end
def k4 (x y : Dyadic) : Int := if x < y then -1 else if y < x then 1 else 0
theorem Bn (i j p : Int) : (i - j).sign = k4 (Dyadic.ofIntWithPrec i p) (Dyadic.ofIntWithPrec j p) := by
 unfold k4;simp only [tO]
 rcases Int.lt_trichotomy i j with h | h | h
 ·rw [if_pos h, Int.sign_eq_neg_one_of_neg Tx]
 ·subst h; simp
 ·rw [if_neg Tx, if_pos h, Int.sign_eq_one_of_pos Tx]
theorem Db (i p : Int) : i.sign = k4 (Dyadic.ofIntWithPrec i p) 0 := by
 have := Bn i 0 p;rwa [Int.sub_zero, kG] at this
theorem NR.sign (a : NR) : a.i.sign = k4 a.d 0 := Db _ _
theorem zn (x y : Dyadic) : (cO x (di x y) - cO y (di x y)).sign = k4 x y := by
 rw [Bn _ _ (di x y), IX, Ki]
theorem GK (X Y : Int) (h : X.sign ≠ Y.sign) : (if (if X.sign - Y.sign < 1 then X.sign - Y.sign else 1) > -1 then (if X.sign - Y.sign < 1 then X.sign - Y.sign else 1) else -1) = (X - Y).sign := by
 rcases Int.lt_trichotomy X 0 with hx | hx | hx <;> rcases Int.lt_trichotomy Y 0 with hy | hy | hy
 ·rw [Int.sign_eq_neg_one_of_neg hx, Int.sign_eq_neg_one_of_neg hy] at h; omega
 ·rw [Int.sign_eq_neg_one_of_neg hx, hy, Int.sub_zero, Int.sign_eq_neg_one_of_neg hx]; simp
 ·rw [Int.sign_eq_neg_one_of_neg hx, Int.sign_eq_one_of_pos hy, Int.sign_eq_neg_one_of_neg Tx]; simp
 ·subst hx; rw [Int.sign_zero, Int.sign_eq_neg_one_of_neg hy, Int.sign_eq_one_of_pos (a := 0 - Y) Tx]; simp
 ·rw [hx, hy] at h; omega
 ·subst hx; rw [Int.sign_zero, Int.sign_eq_one_of_pos hy, Int.sign_eq_neg_one_of_neg (a := 0 - Y) Tx]; simp
 ·rw [Int.sign_eq_one_of_pos hx, Int.sign_eq_neg_one_of_neg hy, Int.sign_eq_one_of_pos Tx]; simp
 ·rw [Int.sign_eq_one_of_pos hx, hy, Int.sub_zero, Int.sign_eq_one_of_pos hx]; simp
 ·rw [Int.sign_eq_one_of_pos hx, Int.sign_eq_one_of_pos hy] at h; omega
theorem qJ {a b : NR} (ha : a.ok) (hb : b.ok) : (iM (cO a.d (di a.d b.d))).size ≤ 6000000 ∧ (iM (cO b.d (di a.d b.d))).size ≤ 6000000 ∧ -18000000 ≤ di a.d b.d ∧ di a.d b.d ≤ 18000000 := by
 obtain ⟨_, fa1, fa2, fa3⟩ := mO ha;obtain ⟨_, fb1, fb2, fb3⟩ := mO hb;have hP := ES a.d b.d 18000000 Tx Tx;have h1 := uI a.d (di a.d b.d);have h2 := uI b.d (di a.d b.d);rw [dO, dO];refine ⟨Tx, Tx, hP.1, hP.2⟩
theorem Es (i : Int) : -1 ≤ i.sign ∧ i.sign ≤ 1 := by
 rcases Int.lt_trichotomy i 0 with h | h | h
 ·rw [Int.sign_eq_neg_one_of_neg h]; omega
 ·rw [h]; simp
 ·rw [Int.sign_eq_one_of_pos h]; omega
theorem nU (a b : NR) (w : World) (hT : ee w) (ha : a.ok) (hb : b.ok) :
  Calls Tryz.prog 184 #[.agg #[.bool a.neg, .string a.bo, .int .i64 a.e], .agg #[.bool b.neg, .string b.bo, .int .i64 b.e]] w fun r w' => r = .returned (.int .i64 (k4 a.d b.d)) ∧ Below w.heap.size w w' := by
 have hh := Hp.start w;obtain ⟨hs1, hs2, _⟩ := qJ ha hb;have hsa : a.i.sign = (cO a.d (di a.d b.d)).sign := by rw [NR.sign, Db _ (di a.d b.d), IX]
 have hsb : b.i.sign = (cO b.d (di a.d b.d)).sign := by rw [NR.sign, Db _ (di a.d b.d), Ki]
 have hba := Es a.i;have hbb := Es b.i;by_cases hne : a.i.sign = b.i.sign
 ·refine NU ?_;refine sr ?_;refine cx hh [_,_,_] ?_;intro b2 w2 hh;refine cx hh [_,_,_] ?_;intro b3 w3 hh;refine aI (aa (ah (ah ?_)));refine aY 3 [[(2, none)], [(8, some 0)], [(3, none)]] [(2, 10), (1, 9), (0, 8)] hh mixed Tz ?_;refine fT 1 [_,_,_] ?_;refine dC (fun _ hj => g8 a _) ?_;refine fT 0 [_,_,_] ?_;refine aT ?_;intro f W hJ hV;have hb_1 := hJ.bl;obtain ⟨v10, v9, v8, _⟩ := hV;replace hh := hJ.hp;refine a6 (bm (ae v10 (ae v9 (ae v8 a0)))) ?_;dsimp only [cg];clear hJ;refine bz hh (g8 b _) rfl ?_;intro w11 hh;refine aI (aI (aa (sr (mI (mI ?_)))));refine wY ?_;refine cD hh 1 [_,_,_] ?_;refine cD hh 0 [_,_,_] ?_;refine bz hh (pd a b _ (hT.hp hh) ha hb) rfl ?_;intro w22 hh;refine bR hh ?_;intro b7 w7 hh;refine bW hh 0 [_,_,_,_,_] ?_;intro ws hh;replace hh : Hp _ (.blk _ _ [_, _, _, _, _] _ :: _) _ := hh;refine aa (sr (bD ?_));refine cD hh 0 [_,_] (bD ?_);refine cD hh 0 [_,_] ?_;refine bz hh (Dd _ _ _ _ _ Tx Tx) rfl ?_;intro w27 hh;rw [e9, e9, zn];exact zr
 ·refine NU ?_;refine sr ?_;refine cx hh [_,_,_] ?_;intro b2 w2 hh;refine cx hh [_,_,_] ?_;intro b3 w3 hh;refine aI (aa (ah (ah ?_)));refine aY 3 [[(2, none)], [(8, some 0)], [(3, none)]] [(2, 10), (1, 9), (0, 8)] hh mixed Tz ?_;refine fT 1 [_,_,_] ?_;refine dC (fun _ hj => g8 a _) ?_;refine fT 0 [_,_,_] ?_;refine aT ?_;intro f W hJ hV;have hb_1 := hJ.bl;obtain ⟨v10, v9, v8, _⟩ := hV;replace hh := hJ.hp;refine a6 (bm (ae v10 (ae v9 (ae v8 a0)))) ?_;dsimp only [cg];clear hJ;refine bz hh (g8 b _) rfl ?_;intro w11 hh;refine aI (aI (aa (sr (mI (mI ?_)))));refine cK (aa (cT (sr (mI (mI ?_)))));refine dT ?_;refine xc rfl rfl Ty ?_;refine kK rfl rfl Ty ?_;refine aI (aa (av (aG ?_)));refine cX ?_;refine ⟨?_, hh.below⟩;rw [hsa, hsb] at hne;rw [hsa, hsb, ← zn a.d b.d, ← GK _ _ hne]
def pU (n : Int) : Dyadic := Dyadic.ofIntWithPrec 1 (-n)
theorem Mo (i p n : Int) : Dyadic.ofIntWithPrec i (p - n) = Dyadic.ofIntWithPrec i p * pU n := by
 rw [pU, so, Int.mul_one]; rfl
def md : List Dyadic → Dyadic := fun l => l.foldl (· + ·) 0
theorem vw (l : List Dyadic) (x : Dyadic) : md (l ++ [x]) = md l + x := by simp [md]
theorem Sz.sum {k : Nat} {l : List Dyadic} (h : ∀ x ∈ l, Sz k x) : Sz (k + l.length) (md l) := by
 have : ∀ (n : Nat), n ≤ l.length → Sz (k + n) (md (l.take n)) := by
  intro n
  induction n with
  | zero => intro _; exact Sz.zero _
  | succ n ih =>
   intro hn;obtain ⟨x, hx⟩ := ao (l := l) (k := n) Tx;rw [ay hx, vw];exact (ih Tx).add ((h x (List.mem_of_getElem? hx)).mono Tx)
 have h2 := this l.length (Nat.le_refl _);rwa [List.take_length] at h2
theorem tH (a b : NR) (w : World) (hT : ee w) (ha : a.ok) (hb : b.ok) :
  Calls Tryz.prog 137 #[.agg #[.bool (iN (cO a.d (di a.d b.d) + cO b.d (di a.d b.d))), .string (iM (cO a.d (di a.d b.d) + cO b.d (di a.d b.d)))], .int .i64 (-(di a.d b.d))] w fun r w' => r = .returned (.agg #[.bool (nR (a.d + b.d)).neg, .string (nR (a.d + b.d)).bo, .int .i64 (nR (a.d + b.d)).e]) ∧ Below w.heap.size w w' := by
 obtain ⟨hs1, hs2, hP1, hP2⟩ := qJ ha hb;rw [dO] at hs1 hs2;have h3 := pH (cO a.d (di a.d b.d)) (cO b.d (di a.d b.d));have := gZ (iN (cO a.d (di a.d b.d) + cO b.d (di a.d b.d))) (iM (cO a.d (di a.d b.d) + cO b.d (di a.d b.d))) (-(di a.d b.d)) w hT (by rw [dO]; omega) Tx Tx;rw [e9, Int.neg_neg, LA] at this;exact this
theorem gL (L : Option Addr) (n c : Nat) (l : List NR) (w : World) (hT : ee w) (hS : Sl w L n 3 (az NR.cells l)) (hl : ∀ a ∈ l, a.ok) (k : Nat) (hk : ∀ a ∈ l, Sz k a.d) (hkn : k + n ≤ 3999990) :
  Calls Tryz.prog 47 #[.slice L n c] w fun r w' => r = .returned (.agg #[.bool (nR (md (l.map NR.d))).neg, .string (nR (md (l.map NR.d))).bo, .int .i64 (nR (md (l.map NR.d))).e]) ∧ Below w.heap.size w w' := by
 have hln := hS.bk NR.len Tx;have hh := Hp.start w;refine aj (N := 27) (l := [.slice L n c]) Tryz.func47 rfl rfl (by simp) ?_;refine sr ?_;refine bR hh ?_;intro b2 w2 hh;refine aa (sr ?_);refine bR hh ?_;intro b3 w3 hh;refine wh ?_;refine aP [5, 6, 9, 10, 11, 12, 13, 14, 15, 16, 17, 18, 19, 20, 21, 22, 23, 24, 25] 9
  (fun j w' => ∃ (i : Nat) (S : Dyadic), i ≤ n ∧ j = .int .i64 i ∧ S = md ((l.take i).map NR.d) ∧ Hp w [.blk b3 65 [.bool (nR S).neg, .string (nR S).bo, .int .i64 (nR S).e] (0, 0), .blk b2 65 [.bool false, .string (ByteArray.mk #[]), .int .i64 0] (0, 0)] w')
  (fun j _ => n - (intOf j).toNat) ?_ ?_
 ·exact ⟨0, 0, Nat.zero_le _, rfl, rfl, hh⟩
 ·clear hh;rintro ρ' j w' ⟨i, S, hi, rfl, hS2, hh⟩;by_cases hlt : i < n
  ·obtain ⟨x, hx⟩ := ao (l := l) (k := i) Tx;obtain ⟨ad, rfl, hr⟩ := hS.at_ Tx;have hxm := List.mem_of_getElem? hx;have hS3 : md ((l.take (i + 1)).map NR.d) = S + x.d := by rw [ay hx, List.map_append, List.map_singleton, vw, hS2]
   have hSz : Sz (k + i) S := by
    rw [hS2];have := Sz.sum (k := k) (l := (l.take i).map NR.d) (fun y hy => by
     obtain ⟨a, ha, rfl⟩ := List.mem_map.1 hy;exact hk a (List.mem_of_mem_take ha))
    rw [List.length_map, List.length_take, Nat.min_eq_left Tx] at this;exact this
   have hSo := hSz.ok Tx;have hlc := fun w1 hT1 => pd (nR S) x w1 hT1 hSo (hl x hxm);have hmc := fun w1 hT1 => tH (nR S) x w1 hT1 hSo (hl x hxm);obtain ⟨hs1, hs2, _⟩ := qJ hSo (hl x hxm);rw [cf] at hlc hmc hs1 hs2;have e1 : ([iR (cO S (di S x.d)), iR (cO x.d (di S x.d))].map IR.v).sum = cO S (di S x.d) + cO x.d (di S x.d) := by
    simp only [List.map_cons, List.map_nil, List.sum_cons, List.sum_nil, Re]; omega
   have hac : ∀ (A : Option Addr) (cc : Nat) (w1 : World), Sl w1 A 2 2 (az IR.cells [iR (cO S (di S x.d)), iR (cO x.d (di S x.d))]) → Calls Tryz.prog 138 #[.slice A 2 cc] w1 fun e w' => e = .returned (.agg #[.bool (iN (cO S (di S x.d) + cO x.d (di S x.d))), .string (iM (cO S (di S x.d) + cO x.d (di S x.d)))]) ∧ Below w1.heap.size w1 w' := fun A cc w1 hsl => by
    have := ux A 2 cc [iR (cO S (di S x.d)), iR (cO x.d (di S x.d))] w1 hsl Tx (by simp [iR]; omega);rw [e1] at this;exact this
   refine sr ?_;refine dH ?_;refine cn ?_;refine Eb ?_;refine bR hh ?_;intro b5 w5 hh;refine bW hh 0 [_,_,_] ?_;intro ws hh;replace hh : Hp _ (.blk _ _ [_, _, _] _ :: _) _ := hh;refine aa (sr ?_);refine cD hh 1 [_,_,_] ?_;refine cD hh 0 [_,_,_] ?_;refine bz hh (hlc _ (hT.hp hh)) rfl ?_;intro w15 hh;refine bR hh ?_;intro b6 w6 hh;refine bW hh 0 [_,_,_,_,_] ?_;intro ws hh;replace hh : Hp _ (.blk _ _ [_, _, _, _, _] _ :: _) _ := hh;refine aa ?_;refine aY 8 [[(6, none)], [(16, some 0)], [(6, none)], [(18, some 2)], [(17, some 1), (19, some 3)], [(20, some 4)], [(6, none)], [(22, some 6)]] [(7, 23), (6, 22), (5, 21), (4, 20), (3, 19), (2, 18), (1, 17), (0, 16)] hh mixed Tz ?_;refine dV ?_;refine fT 0 [_,_] ?_;refine dV ?_;refine fT 0 [_,_] ?_;refine sC [_,_,_,_] ?_;refine aR (i := 5) (Is (.agg #[.bool (iN (cO S (di S x.d) + cO x.d (di S x.d))), .string (iM (cO S (di S x.d) + cO x.d (di S x.d)))])) Is.ext ?_ ?_
   ·intro ρ1 w1 hj hR;obtain ⟨A20, c20, h20, s20⟩ := hR.1;exact a8 rfl (aM ak.out (aw h20 aX)) (hac A20 c20 _ s20) (fun _ _ hq => ⟨_, hq.1, hq.2, rfl⟩)
   refine dV ?_;refine fJ 0 ?_;refine aT ?_;intro f W hJ hV;have hb_6 := hJ.bl;obtain ⟨v23, v22, v21, v20, v19, v18, v17, v16, _⟩ := hV;obtain ⟨A20, c20, e20, f20⟩ : Rows _ _ _ (f 4) W := v20;replace hh := hJ.hp;refine a6 (bm (ae v23 (ae v22 (ae v21 (ae e20 (ae v19 (ae v18 (ae v17 (ae v16 a0))))))))) ?_;dsimp only [cg];clear e20 hJ;refine bz hh (hmc _ (hT.hp hh)) rfl ?_;intro w24 hh;refine bW hh 2 [_,_,_] ?_;intro ws hh;replace hh : Hp _ (_ :: _ :: .blk _ _ [_, _, _] _ :: _) _ := hh;refine fL ?_;refine bh (mI (aA (ai ?_)));replace hh := hh.sub ((List.sublist_cons_self _ _).trans (List.sublist_cons_self _ _));exact Ny
  ·exact Ru
theorem jU (x y : Dyadic) : md [x, y] = x + y := by
 show (0 + x) + y = x + y;rw [Dyadic.zero_add]
theorem lG (a b : NR) (w : World) (hT : ee w) (ha : a.ok) (hb : b.ok) (k : Nat) (hka : Sz k a.d) (hkb : Sz k b.d) (hk : k ≤ 3999980) :
  Calls Tryz.prog 52 #[.agg #[.bool a.neg, .string a.bo, .int .i64 a.e], .agg #[.bool b.neg, .string b.bo, .int .i64 b.e]] w fun r w' => r = .returned (.agg #[.bool (nR (a.d - b.d)).neg, .string (nR (a.d - b.d)).bo, .int .i64 (nR (a.d - b.d)).e]) ∧ Below w.heap.size w w' := by
 have hh := Hp.start w;obtain ⟨hb1, hb2, hb3⟩ := hb;have e1 : md ([a, nR (-b.d)].map NR.d) = a.d - b.d := by
  simp only [List.map_cons, List.map_nil, cf, jU]; rfl
 have hac : ∀ (A : Option Addr) (cc : Nat) (w1 : World), ee w1 → Sl w1 A 2 3 (az NR.cells [a, nR (-b.d)]) → Calls Tryz.prog 47 #[.slice A 2 cc] w1 fun r w' => r = .returned (.agg #[.bool (nR (a.d - b.d)).neg, .string (nR (a.d - b.d)).bo, .int .i64 (nR (a.d - b.d)).e]) ∧ Below w1.heap.size w1 w' := fun A cc w1 hT1 hsl => by
  have := gL A 2 cc [a, nR (-b.d)] w1 hT1 hsl (by simpa using ⟨ha, hkb.neg.ok Tx⟩) k (by simpa [cf] using ⟨hka, hkb.neg⟩) Tx;rw [e1] at this;exact this
 refine aj (N := 10) (l := [.agg #[.bool a.neg, .string a.bo, .int .i64 a.e], .agg #[.bool b.neg, .string b.bo, .int .i64 b.e]]) Tryz.func52 rfl rfl (by simp) ?_;refine sr ?_;refine cx hh [_,_,_] ?_;intro b2 w2 hh;refine cx hh [_,_,_] ?_;intro b3 w3 hh;refine bR hh ?_;intro b4 w4 hh;refine aa (ah ?_);refine aY 3 [[(2, none)], [(3, none)], [(6, some 1)]] [(2, 7), (1, 6), (0, 5)] hh mixed Tz ?_;refine fT 2 [_,_,_] ?_;refine fT 1 [_,_,_] ?_;refine dC (fun _ hj => nY b _ (hT.hp hj.hp) Tx Tx Tx) ?_;refine aT ?_;intro f W hJ hV;have hb_1 := hJ.bl;obtain ⟨v7, v6, v5, _⟩ := hV;replace hh := hJ.hp;refine a6 (bm (ae v7 (ae v6 (ae v5 a0)))) ?_;dsimp only [cg];clear hJ;refine wg ?_;intro b8 w8 hh;refine bz hh (hac _ _ _ (hT.hp hh) (hh.aC (i := 0) rfl)) rfl ?_;intro w9 hh;exact Og
def ic : List Dyadic → Dyadic := fun l => l.foldl (· * ·) 1
theorem tY (l : List Dyadic) (x : Dyadic) : ic (l ++ [x]) = ic l * x := by simp [ic]
theorem Sz.one : Sz 1 1 := ⟨2, by decide +kernel, Ty⟩
theorem Sz.prod {k : Nat} {l : List Dyadic} (h : ∀ x ∈ l, Sz k x) : Sz (1 + k * l.length) (ic l) := by
 have : ∀ (n : Nat), n ≤ l.length → Sz (1 + k * n) (ic (l.take n)) := by
  intro n
  induction n with
  | zero => intro _; exact Sz.one
  | succ n ih =>
   intro hn;obtain ⟨x, hx⟩ := ao (l := l) (k := n) Tx;rw [ay hx, tY];exact ((ih Tx).mul (h x (List.mem_of_getElem? hx))).mono (by rw [Nat.mul_succ]; omega)
 have h2 := this l.length (Nat.le_refl _);rwa [List.take_length] at h2
theorem ew (L : Option Addr) (n c : Nat) (l : List NR) (w : World) (hT : ee w) (hS : Sl w L n 3 (az NR.cells l)) (hl : ∀ a ∈ l, a.ok) (k : Nat) (hk : ∀ a ∈ l, Sz k a.d) (hkn : k * n ≤ 3999980) (hn : n ≤ 1000000) :
  Calls Tryz.prog 48 #[.slice L n c] w fun r w' => r = .returned (.agg #[.bool (nR (ic (l.map NR.d))).neg, .string (nR (ic (l.map NR.d))).bo, .int .i64 (nR (ic (l.map NR.d))).e]) ∧ Below w.heap.size w w' := by
 have hln := hS.bk NR.len Tx;have hh := Hp.start w;refine aj (N := 27) (l := [.slice L n c]) Tryz.func48 rfl rfl (by simp) ?_;refine sr ?_;refine bR hh ?_;intro b2 w2 hh;refine aa (sr ?_);refine Bc ?_;intro w6 hh;refine bR hh ?_;intro b3 w3 hh;refine bW hh 0 [_,_,_] ?_;intro ws hh;replace hh : Hp _ (.blk _ _ [_, _, _] _ :: _) _ := hh;refine wh ?_;refine aP [5, 9, 10, 11, 12, 13, 14, 15, 16, 17, 18, 19, 20, 21, 22, 23, 24, 25] 9
  (fun j w' => ∃ (i : Nat) (S : Dyadic), i ≤ n ∧ j = .int .i64 i ∧ S = ic ((l.take i).map NR.d) ∧ Hp w [.blk b3 65 [.bool (nR S).neg, .string (nR S).bo, .int .i64 (nR S).e] (0, 0), .blk b2 65 [.bool false, .string (ByteArray.mk #[]), .int .i64 0] (0, 0)] w')
  (fun j _ => n - (intOf j).toNat) ?_ ?_
 ·exact ⟨0, _, Nat.zero_le _, rfl, rfl, hh⟩
 ·clear hh;rintro ρ' j w' ⟨i, S, hi, rfl, hS2, hh⟩;by_cases hlt : i < n
  ·obtain ⟨x, hx⟩ := ao (l := l) (k := i) Tx;obtain ⟨ad, rfl, hr⟩ := hS.at_ Tx;have hxm := List.mem_of_getElem? hx;have hS3 : ic ((l.take (i + 1)).map NR.d) = S * x.d := by rw [ay hx, List.map_append, List.map_singleton, tY, hS2]
   have hSz : Sz (1 + k * i) S := by
    rw [hS2];have := Sz.prod (k := k) (l := (l.take i).map NR.d) (fun y hy => by
     obtain ⟨a, ha, rfl⟩ := List.mem_map.1 hy;exact hk a (List.mem_of_mem_take ha))
    rw [List.length_map, List.length_take, Nat.min_eq_left Tx] at this;exact this
   have hki : k * i ≤ k * n := Nat.mul_le_mul_left _ hi;obtain ⟨so1, so2, so3⟩ := hSz.ok Tx;obtain ⟨xo1, xo2, xo3⟩ := hl x hxm;have e1 : mn ([IR.mk (nR S).neg (nR S).bo, IR.mk x.neg x.bo].map IR.v) = (nR S).i * x.i := by
    simp only [List.map_cons, List.map_nil, mn, Int.mul_one]; rfl
   have e2 : Dyadic.ofIntWithPrec ((nR S).i * x.i) (-((nR S).e + x.e)) = S * x.d := by
    have := so (nR S).i x.i (-(nR S).e) (-x.e);rw [Int.neg_add, ← this];congr 1;exact cf S
   have hac : ∀ (A : Option Addr) (cc : Nat) (w1 : World), Sl w1 A 2 2 (az IR.cells [IR.mk (nR S).neg (nR S).bo, IR.mk x.neg x.bo]) → Calls Tryz.prog 139 #[.slice A 2 cc] w1 fun e w' => e = .returned (.agg #[.bool (iN ((nR S).i * x.i)), .string (iM ((nR S).i * x.i))]) ∧ Below w1.heap.size w1 w' := fun A cc w1 hsl => by
    have := Cb A 2 cc [IR.mk (nR S).neg (nR S).bo, IR.mk x.neg x.bo] w1 hsl Tx (by simp; omega);rw [e1] at this;exact this
   have hmc : ∀ w1, ee w1 → Calls Tryz.prog 137 #[.agg #[.bool (iN ((nR S).i * x.i)), .string (iM ((nR S).i * x.i))], .int .i64 ((nR S).e + x.e)] w1 fun r w' => r = .returned (.agg #[.bool (nR (S * x.d)).neg, .string (nR (S * x.d)).bo, .int .i64 (nR (S * x.d)).e]) ∧ Below w1.heap.size w1 w' := fun w1 hT1 => by
    have hb1 := ka (nR S).neg (nR S).bo;have hb2 := ka x.neg x.bo;have hb3 := lQ (nR S).i x.i;have := gZ (iN ((nR S).i * x.i)) (iM ((nR S).i * x.i)) ((nR S).e + x.e) w1 hT1 (by rw [dO]; unfold NR.i at hb3 ⊢; omega) Tx Tx;rw [e9, e2] at this;exact this
   refine sr ?_;refine dH ?_;refine cn ?_;refine Eb ?_;refine bR hh ?_;intro b5 w5 hh;refine bW hh 0 [_,_,_] ?_;intro ws hh;replace hh : Hp _ (.blk _ _ [_, _, _] _ :: _) _ := hh;refine aa ?_;refine aY 11 [[(3, none)], [(13, some 0)], [(5, none)], [(15, some 2)], [(14, some 1), (16, some 3)], [(17, some 4)], [(3, none)], [(19, some 6)], [(5, none)], [(21, some 8)], [(20, some 7), (22, some 9)]] [(10, 23), (9, 22), (8, 21), (7, 20), (6, 19), (5, 18), (4, 17), (3, 16), (2, 15), (1, 14), (0, 13)] hh mixed Tz ?_;refine dV ?_;refine fT 1 [_,_] ?_;refine dV ?_;refine fT 0 [_,_] ?_;refine sC [_,_,_,_] ?_;refine aR (i := 5) (Is (.agg #[.bool (iN ((nR S).i * x.i)), .string (iM ((nR S).i * x.i))])) Is.ext ?_ ?_
   ·intro ρ1 w1 hj hR;obtain ⟨A17, c17, h17, s17⟩ := hR.1;exact a8 rfl (aM ak.out (aw h17 aX)) (hac A17 c17 _ s17) (fun _ _ hq => ⟨_, hq.1, hq.2, rfl⟩)
   refine dV ?_;refine fJ 1 ?_;refine dV ?_;refine fJ 0 ?_;refine rP ?_;refine aT ?_;intro f W hJ hV;have hb_5 := hJ.bl;obtain ⟨v23, v22, v21, v20, v19, v18, v17, v16, v15, v14, v13, _⟩ := hV;obtain ⟨A17, c17, e17, f17⟩ : Rows _ _ _ (f 4) W := v17;replace hh := hJ.hp;refine a6 (bm (ae v23 (ae v22 (ae v21 (ae v20 (ae v19 (ae v18 (ae e17 (ae v16 (ae v15 (ae v14 (ae v13 a0)))))))))))) ?_;dsimp only [cg];clear e17 hJ;refine bz hh (hmc _ (hT.hp hh)) rfl ?_;intro w24 hh;refine bW hh 1 [_,_,_] ?_;intro ws hh;replace hh : Hp _ (_ :: .blk _ _ [_, _, _] _ :: _) _ := hh;refine fL ?_;refine bh (mI (aA (ai ?_)));replace hh := hh.sub (List.sublist_cons_self _ _);exact Ny
  ·exact Ru
theorem KS (i p : Int) (n : Nat) : Dyadic.ofIntWithPrec i p ^ n = Dyadic.ofIntWithPrec (i ^ n) (p * n) := by
 induction n with
 | zero => rw [Dyadic.pow_zero]; simp; rfl
 | succ n ih => rw [Dyadic.pow_succ, ih, so, Int.pow_succ, Int.natCast_add, Int.mul_add]; simp
theorem Rz (i p : Int) : (nR (Dyadic.ofIntWithPrec i p)).bo.size ≤ (bC i.natAbs + 7) / 8 ∧ (i = 0 ∨ -p ≤ (nR (Dyadic.ofIntWithPrec i p)).e ∧ (nR (Dyadic.ofIntWithPrec i p)).e ≤ -p + bC i.natAbs) ∧ (i = 0 → (nR (Dyadic.ofIntWithPrec i p)).e = 0) := by
 by_cases h0 : i = 0
 ·subst h0;rw [kG, lF];exact ⟨Nat.zero_le _, .inl rfl, fun _ => rfl⟩
 ·have h2 := kU h0;rw [xB h0, nR];simp only;refine ⟨?_, .inr ⟨Tx, ?_⟩, fun h => absurd h h0⟩
  ·rw [dO];have : bC (i >>> i.trailingZeros).natAbs ≤ bC i.natAbs := by
    apply dv;refine Nat.lt_of_le_of_lt ?_ (dk _);rw [Int.shiftRight_eq_div_pow];exact Int.natAbs_ediv_le_natAbs _ _
   omega
  ·have h3 : 2 ^ i.trailingZeros < 2 ^ bC i.natAbs := Nat.lt_of_le_of_lt h2 (dk _);have := (Nat.pow_lt_pow_iff_right Tx).1 h3;omega
theorem tJ (a : NR) (n : Int) (w : World) (hT : ee w) (ha : a.ok) (hs : n.toNat * a.bo.size ≤ 1000000) (hn : n ≤ 1000) :
  Calls Tryz.prog 51 #[.agg #[.bool a.neg, .string a.bo, .int .i64 a.e], .int .i64 n] w fun r w' => r = .returned (.agg #[.bool (nR (a.d ^ n.toNat)).neg, .string (nR (a.d ^ n.toNat)).bo, .int .i64 (nR (a.d ^ n.toNat)).e]) ∧ Below w.heap.size w w' := by
 have hh := Hp.start w;obtain ⟨ha1, ha2, ha3⟩ := ha;obtain ⟨_, fa1, fa2, fa3⟩ := mO (a := a) ⟨ha1, ha2, ha3⟩;have hsz : (nR a.d).bo.size ≤ a.bo.size := by
  have := (Rz a.i (-a.e)).1;have h2 := ka a.neg a.bo;unfold NR.d NR.i at *;omega
 have hms : n.toNat * (nR a.d).bo.size ≤ n.toNat * a.bo.size := Nat.mul_le_mul_left _ hsz;have e1 : (if (0 : Int) > n then 0 else n) = (n.toNat : Int) := by split <;> omega
 have hm : n.toNat ≤ 1000 := Tx;have hlo : -18000000 * 1000 ≤ (nR a.d).e * (n.toNat : Int) := by
  have h1 : (-18000000 : Int) * n.toNat ≤ (nR a.d).e * n.toNat := Int.mul_le_mul_of_nonneg_right fa2 Tx;omega
 have hhi : (nR a.d).e * (n.toNat : Int) ≤ 18000000 * 1000 := by
  have h1 : (nR a.d).e * n.toNat ≤ (18000000 : Int) * n.toNat := Int.mul_le_mul_of_nonneg_right fa3 Tx;omega
 have hpc := fun w1 => B9 (nR a.d).neg (nR a.d).bo n w1 Tx Tx Tx;have hmc : ∀ w1, ee w1 → Calls Tryz.prog 137 #[.agg #[.bool (iN (iv (nR a.d).neg (nR a.d).bo ^ n.toNat)), .string (iM (iv (nR a.d).neg (nR a.d).bo ^ n.toNat))], .int .i64 ((nR a.d).e * (n.toNat : Int))] w1 fun r w' => r = .returned (.agg #[.bool (nR (a.d ^ n.toNat)).neg, .string (nR (a.d ^ n.toNat)).bo, .int .i64 (nR (a.d ^ n.toNat)).e]) ∧ Below w1.heap.size w1 w' := fun w1 hT1 => by
  have hb := oV (iv (nR a.d).neg (nR a.d).bo) n.toNat;have hb2 := ka (nR a.d).neg (nR a.d).bo;have hb3 : n.toNat * bC (iv (nR a.d).neg (nR a.d).bo).natAbs ≤ n.toNat * (8 * (nR a.d).bo.size) := Nat.mul_le_mul_left _ hb2;rw [Nat.mul_left_comm] at hb3;have := gZ (iN (iv (nR a.d).neg (nR a.d).bo ^ n.toNat)) (iM (iv (nR a.d).neg (nR a.d).bo ^ n.toNat)) ((nR a.d).e * (n.toNat : Int)) w1 hT1 (by rw [dO]; omega) Tx Tx;have e2 : Dyadic.ofIntWithPrec (iv (nR a.d).neg (nR a.d).bo ^ n.toNat) (-((nR a.d).e * (n.toNat : Int))) = a.d ^ n.toNat := by
   have h3 := cf a.d
   conv => rhs; rw [← h3, NR.d, KS]
   rw [Int.neg_mul]; rfl
  rw [e9, e2] at this;exact this
 refine aj (N := 17) (l := [.agg #[.bool a.neg, .string a.bo, .int .i64 a.e], .int .i64 n]) Tryz.func51 rfl rfl (by simp) ?_;refine sr ?_;refine cx hh [_,_,_] ?_;intro b2 w2 hh;refine bR hh ?_;intro b4 w4 hh;refine aa (sr ?_);refine cD hh 1 [_,_,_] ?_;refine bz hh (ep a _ (hT.hp hh) Tx Tx Tx) rfl ?_;intro w6 hh;refine bW hh 1 [_,_,_] ?_;intro ws hh;replace hh : Hp _ (_ :: .blk _ _ [_, _, _] _ :: _) _ := hh;refine aa (ah ?_);refine aY 9 [[(2, none)], [(7, some 0)], [(1, none)], [(8, some 1), (9, some 2)], [(2, none)], [(11, some 4)], [(1, none)], [(13, some 6)], [(12, some 5), (14, some 7)]] [(8, 15), (7, 14), (6, 13), (5, 12), (4, 11), (3, 10), (2, 9), (1, 8), (0, 7)] hh mixed Tz ?_;refine dV ?_;refine fT 1 [_,_] ?_;refine dE ?_;refine dC (fun _ hj => hpc _) ?_;refine dV ?_;refine fJ 1 ?_;refine dE ?_;refine aR (i := 7) (Is (.int .i64 (n.toNat : Int))) (Is.ext) ?_ ?_
 ·intro ρ1 w1 hj hR;exact fC rfl ((MJ (ρ := ρ1) (x := .tmp 13) (show ρ1 13 = Value.int .i64 n from hR.1) rfl).trans (by rw [e1])) ⟨Below.refl _ _, rfl⟩
 refine Qi ?_;refine aT ?_;intro f W hJ hV;have hb_2 := hJ.bl;obtain ⟨v15, v14, v13, v12, v11, v10, v9, v8, v7, _⟩ := hV;replace hh := hJ.hp;refine a6 (bm (ae v15 (ae v14 (ae v13 (ae v12 (ae v11 (ae v10 (ae v9 (ae v8 (ae v7 a0)))))))))) ?_;dsimp only [cg];clear hJ;refine bz hh (hmc _ (hT.hp hh)) rfl ?_;intro w16 hh;exact Lr
def iy (f : Dyadic → Dyadic → Bool) : List Dyadic → Dyadic
 | [] => 0
 | a :: r => r.foldl (fun out a => if f a out then a else out) a
theorem CC (f : Dyadic → Dyadic → Bool) {l : List Dyadic} (h : l ≠ []) (x : Dyadic) : iy f (l ++ [x]) = if f x (iy f l) then x else iy f l := by
 cases l with
 | nil => exact absurd rfl h
 | cons a r =>
  show (r ++ [x]).foldl _ a = _;rw [List.foldl_append]
  rfl
theorem pF (L : Option Addr) (n c : Nat) (l : List NR) (g : FuncId) (f : Dyadic → Dyadic → Bool) (w : World) (hT : ee w) (hS : Sl w L n 3 (az NR.cells l)) (hl : ∀ a ∈ l, a.ok) (hn : n ≤ 1000000) [ak Tryz.prog g]
  (hg : ∀ (a b : NR) (w : World), ee w → a.ok → b.ok → Calls Tryz.prog g #[.agg #[.bool a.neg, .string a.bo, .int .i64 a.e], .agg #[.bool b.neg, .string b.bo, .int .i64 b.e]] w fun r w' => r = .returned (.bool (f a.d b.d)) ∧ Below w.heap.size w w') :
  Calls Tryz.prog 268 #[.slice L n c, .func (.func g) #[] #[]] w fun r w' => r = .returned (.agg #[.bool (nR (iy f (l.map NR.d))).neg, .string (nR (iy f (l.map NR.d))).bo, .int .i64 (nR (iy f (l.map NR.d))).e]) ∧ Below w.heap.size w w' := by
 have hln := hS.bk NR.len Tx;have hh := Hp.start w;refine aj (N := 27) (l := [.slice L n c, .func (.func g) #[] #[]]) Tryz.func268 rfl rfl (by simp) ?_;refine sr ?_;refine bR hh ?_;intro b4 w4 hh;refine aa (sr ?_);refine bR hh ?_;intro b5 w5 hh;refine wh ?_;refine aP [6, 7, 10, 11, 12, 13, 14, 15, 16, 17, 18, 19, 20, 21, 22, 23, 24] 10
  (fun j w' => ∃ (i : Nat) (o : NR), i ≤ n ∧ j = .int .i64 i ∧ o.ok ∧ o.d = iy f ((l.take i).map NR.d) ∧ Hp w [.blk b5 65 [.bool o.neg, .string o.bo, .int .i64 o.e] (0, 0), .blk b4 65 [.bool false, .string (ByteArray.mk #[]), .int .i64 0] (0, 0)] w')
  (fun j _ => n - (intOf j).toNat) ?_ ?_
 ·exact ⟨0, nR 0, Nat.zero_le _, rfl, (Sz.zero 0).ok Tx, rfl, hh⟩
 ·clear hh;rintro ρ' j w' ⟨i, o, hi, rfl, hok, hod, hh⟩;by_cases hlt : i < n
  ·obtain ⟨x, hx⟩ := ao (l := l) (k := i) Tx;obtain ⟨ad, rfl, hr⟩ := hS.at_ Tx;have hxo := hl x (List.mem_of_getElem? hx);have htk : (l.take (i + 1)).map NR.d = (l.take i).map NR.d ++ [x.d] := by rw [ay hx, List.map_append, List.map_singleton]
   by_cases h0 : i = 0
   ·subst h0;refine sr ?_;refine dZ ?_;refine Fl ?_;refine Eb ?_;refine bR hh ?_;intro b7 w7 hh;refine aI ?_;refine bW hh 0 [_,_,_] ?_;intro ws hh;replace hh : Hp _ (.blk _ _ [_, _, _] _ :: _) _ := hh;refine aa (sr (mI ?_));refine cW (mB ?_);refine gS (gS (gS ?_));refine iJ ?_;refine fu ?_;refine aa (cT (al ?_));refine cD hh 0 [_,_,_] ?_;refine bW hh 1 [_,_,_] ?_;intro ws hh;replace hh : Hp _ (_ :: .blk _ _ [_, _, _] _ :: _) _ := hh;refine fL ?_;refine bh (mI (aA (ai ?_)));replace hh := hh.sub (List.sublist_cons_self _ _);refine ⟨⟨1, x, Tx, rfl, hxo, by rw [htk]; rfl, hh⟩, by show n - (0 + 1) < n - 0; omega, ?_⟩;exact dL
   ·have hne : (l.take i).map NR.d ≠ [] := by
     intro h;have := congrArg List.length h;rw [List.length_map, List.length_take, List.length_nil] at this;omega
    have hb := CC f hne x.d;rw [← htk, ← hod] at hb;refine sr ?_;refine dZ ?_;refine cn ?_;refine Eb ?_;refine bR hh ?_;intro b7 w7 hh;refine aI ?_;refine bW hh 0 [_,_,_] ?_;intro ws hh;replace hh : Hp _ (.blk _ _ [_, _, _] _ :: _) _ := hh;refine aa (sr (mI ?_));refine cW (mB (gT ?_));refine iI ?_;refine gT ?_;refine cD hh 0 [_,_,_] (gT ?_);refine cD hh 1 [_,_,_] ?_;refine aH rfl rfl ?_;refine fY (hg x o _ (hT.hp hh) hxo hok) ak.out rfl rfl Ty ?_;rintro e_ w21 ⟨rfl, hb_⟩;refine ⟨_, rfl, ?_⟩;replace hh := hh.ext hb_
    cases hf : f x.d o.d with
    | true =>
     rw [hf, if_pos rfl] at hb;refine dK ?_;refine aa (cT (al ?_));refine cD hh 0 [_,_,_] ?_;refine bW hh 1 [_,_,_] ?_;intro ws hh;replace hh : Hp _ (_ :: .blk _ _ [_, _, _] _ :: _) _ := hh;refine fL ?_;refine bh (mI (aA (ai ?_)));replace hh := hh.sub (List.sublist_cons_self _ _);refine ⟨⟨i + 1, x, Tx, rfl, hxo, hb.symm, hh⟩, by show n - (i + 1) < n - i; omega, ?_⟩;exact dL
    | false =>
     rw [hf] at hb;refine dK ?_;refine Be ?_;refine bh (mI (aA (ai ?_)));replace hh := hh.sub (List.sublist_cons_self _ _);refine ⟨⟨i + 1, o, Tx, rfl, hok, hb.symm, hh⟩, by show n - (i + 1) < n - i; omega, ?_⟩;exact dL
  ·rw [List.take_of_length_le Tx] at hod;obtain ⟨o1, o2, o3⟩ := hok;refine sr ?_;refine mu ?_;refine cD hh 0 [_,_,_] ?_;refine bz hh (ep o _ (hT.hp hh) Tx Tx Tx) rfl ?_;intro w26 hh;rw [hod];exact Og
theorem Lo (x y : Dyadic) : k4 x y < 0 ↔ x < y := by
 unfold k4;split
 ·rename_i h; simp [h]
 ·rename_i h; split <;> simp [h]
theorem Mr (x y : Dyadic) : 0 < k4 x y ↔ y < x := by
 unfold k4;split
 ·rename_i h;have : ¬ y < x := by grind
  simp [this]
 ·split <;> rename_i h <;> simp [h]
theorem zJ (a b : NR) (w : World) (hT : ee w) (ha : a.ok) (hb : b.ok) :
  Calls Tryz.prog 269 #[.agg #[.bool a.neg, .string a.bo, .int .i64 a.e], .agg #[.bool b.neg, .string b.bo, .int .i64 b.e]] w fun r w' => r = .returned (.bool (decide (a.d < b.d))) ∧ Below w.heap.size w w' := by
 have hh := Hp.start w;have e1 : decide (k4 a.d b.d < 0) = decide (a.d < b.d) := decide_eq_decide.2 (Lo _ _);refine aj (N := 9) (l := [.agg #[.bool a.neg, .string a.bo, .int .i64 a.e], .agg #[.bool b.neg, .string b.bo, .int .i64 b.e]]) Tryz.func269 rfl rfl (by simp) ?_;refine sr ?_;refine cx hh [_,_,_] ?_;intro b2 w2 hh;refine cx hh [_,_,_] ?_;intro b3 w3 hh;refine aB (aa (sr ?_));refine cD hh 1 [_,_,_] ?_;refine cD hh 0 [_,_,_] ?_;refine bz hh (nU a b _ (hT.hp hh) ha hb) rfl ?_;intro w7 hh;refine bf (aB (aa (av ?_)));refine cX ?_;rw [e1];exact ⟨rfl, hh.below⟩
theorem zg (a b : NR) (w : World) (hT : ee w) (ha : a.ok) (hb : b.ok) :
  Calls Tryz.prog 270 #[.agg #[.bool a.neg, .string a.bo, .int .i64 a.e], .agg #[.bool b.neg, .string b.bo, .int .i64 b.e]] w fun r w' => r = .returned (.bool (decide (b.d < a.d))) ∧ Below w.heap.size w w' := by
 have hh := Hp.start w;have e1 : decide (0 < k4 a.d b.d) = decide (b.d < a.d) := decide_eq_decide.2 (Mr _ _);refine aj (N := 9) (l := [.agg #[.bool a.neg, .string a.bo, .int .i64 a.e], .agg #[.bool b.neg, .string b.bo, .int .i64 b.e]]) Tryz.func270 rfl rfl (by simp) ?_;refine sr ?_;refine cx hh [_,_,_] ?_;intro b2 w2 hh;refine cx hh [_,_,_] ?_;intro b3 w3 hh;refine aB (aa (sr ?_));refine cD hh 1 [_,_,_] ?_;refine cD hh 0 [_,_,_] ?_;refine bz hh (nU a b _ (hT.hp hh) ha hb) rfl ?_;intro w7 hh;refine bM (aB (aa (av ?_)));refine cX ?_;rw [e1];exact ⟨rfl, hh.below⟩
theorem Cm (L : Option Addr) (n c : Nat) (l : List NR) (w : World) (hT : ee w) (hS : Sl w L n 3 (az NR.cells l)) (hl : ∀ a ∈ l, a.ok) (hn : n ≤ 1000000) :
  Calls Tryz.prog 256 #[.slice L n c] w fun r w' => r = .returned (.agg #[.bool (nR (iy (fun x y => decide (x < y)) (l.map NR.d))).neg, .string (nR (iy (fun x y => decide (x < y)) (l.map NR.d))).bo, .int .i64 (nR (iy (fun x y => decide (x < y)) (l.map NR.d))).e]) ∧ Below w.heap.size w w' := by
 have hh := Hp.start w;refine aj (N := 5) (l := [.slice L n c]) Tryz.func256 rfl rfl (by simp) ?_;refine sr ?_;refine bR hh ?_;intro b2 w2 hh;refine aa (sr (mL ?_));refine bz hh (pF L n c l 269 (fun x y => decide (x < y)) _ (hT.hp hh) (hS.ext hh.below) hl hn zJ) rfl ?_;intro w4 hh;exact Lr
theorem Dl (L : Option Addr) (n c : Nat) (l : List NR) (w : World) (hT : ee w) (hS : Sl w L n 3 (az NR.cells l)) (hl : ∀ a ∈ l, a.ok) (hn : n ≤ 1000000) :
  Calls Tryz.prog 257 #[.slice L n c] w fun r w' => r = .returned (.agg #[.bool (nR (iy (fun x y => decide (y < x)) (l.map NR.d))).neg, .string (nR (iy (fun x y => decide (y < x)) (l.map NR.d))).bo, .int .i64 (nR (iy (fun x y => decide (y < x)) (l.map NR.d))).e]) ∧ Below w.heap.size w w' := by
 have hh := Hp.start w;refine aj (N := 5) (l := [.slice L n c]) Tryz.func257 rfl rfl (by simp) ?_;refine sr ?_;refine bR hh ?_;intro b2 w2 hh;refine aa (sr (mL ?_));refine bz hh (pF L n c l 270 (fun x y => decide (y < x)) _ (hT.hp hh) (hS.ext hh.below) hl hn zg) rfl ?_;intro w4 hh;exact Lr
theorem BR {x y : Dyadic} (h : x < y) : k4 x y = -1 := by rw [k4, if_pos h]
theorem CI {x y : Dyadic} (h : y < x) : k4 x y = 1 := by
 have : ¬ x < y := by grind
 rw [k4, if_neg this, if_pos h]
theorem Gg (x : Dyadic) : k4 x x = 0 := by
 have : ¬ x < x := by grind
 rw [k4, if_neg this, if_neg this]
theorem QY (x y : Dyadic) : x < y ∨ x = y ∨ y < x := by
 rcases Classical.em (x < y) with h | h
 ·exact .inl h
 ·rcases Classical.em (y < x) with h2 | h2
  ·exact .inr (.inr h2)
  ·exact .inr (.inl (by grind))
end Go.Proofs.YteeckcbbnegmcaaGreatDoor
