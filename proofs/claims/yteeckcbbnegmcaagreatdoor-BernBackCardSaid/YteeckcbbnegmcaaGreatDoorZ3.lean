/- Lemmas for bernBack, part 3. -/
import Derived.Test.YteeckcbbnegmcaaGreatDoorZ2
namespace Go.Proofs.YteeckcbbnegmcaaGreatDoor
variable {C N c c' cy j k m n ny : Nat} {ad : Addr} {w w0 : World}
open Go.RowKit
theorem ic (A : Option Addr) (n c : Nat) (xs : List Nat) (w : World) (hx : Sl w A n 1 (cY xs)) (hc : n ≤ c) (hn : n ≤ 1000000000000) :
  Calls Tryz.prog 245 #[.slice A n c] w fun e w' => e = .returned (.slice A (dH xs).length c) ∧ Below w.heap.size w w' := by
 have hlen : xs.length = n := by have := hx.1; rw [a8] at this; omega
 have hh := Hp.start w;refine aj (N := 21) (l := [.slice A n c]) Tryz.func245 rfl rfl (by simp) ?_;refine sr (aL (aa (ah (aq ?_))));refine aP [0, 3, 4, 5, 6, 7, 8, 9, 10, 11, 12, 13, 14, 15, 16, 17, 18, 19] 0
  (fun v w' => ∃ k : Nat, k ≤ n ∧ v = .slice A k c ∧ dH (xs.take k) = dH xs ∧ w' = w)
  (fun v _ => lenOf v) ?_ ?_
 ·exact ⟨n, T5 _, rfl, by rw [T9 TX], rfl⟩
 ·rintro ρ' v w' ⟨k, hk, rfl, hcut, rfl⟩;by_cases h0 : k = 0
  ·subst h0;refine ah (sr (mL (aJ ?_)));refine cm (mB ?_);refine gS (gS (gS (gS (gS ?_))));refine ju ?_;refine gS ?_;refine e7 ?_;refine aa (cF (a6 (aD (aD (bB (ai (sr (mL (aL (aa (au ?_)))))))))));refine cZ ?_;rw [← hcut];exact ⟨rfl, hh.below⟩
  ·obtain ⟨j, rfl⟩ : ∃ j, k = j + 1 := ⟨k - 1, TX⟩;obtain ⟨d, hd⟩ := ak (l := xs) (k := j) TX;obtain ⟨ad, rfl, hr⟩ := hx.at_ TX;have hd2 := ef hd;rw [ay hd] at hcut;by_cases hz : d = 0
   ·subst hz;rw [uX] at hcut;refine ah (sr (mL (aJ ?_)));refine cm (mB (gT (mL (gT (mL (gT (aJ (gT ?_))))))));refine dY (gT ?_);refine oQ ?_;refine gT ?_;refine jw ?_;refine gT ?_;refine db ?_;refine fL ?_;refine aa (cT (ar (ai (aq (ao (mL (mL (aJ ?_))))))));refine dY ?_;refine pO (h := j) bk.out aK.size rfl rfl TX TX TY ?_;refine aL (aA (bE (ai ?_)));refine ⟨⟨j, TX, rfl, hcut, rfl⟩, by show j < j + 1; omega, ?_⟩;exact dQ
   ·rw [vM hz] at hcut;refine ah (sr (mL (aJ ?_)));refine cm (mB (gT (mL (gT (mL (gT (aJ (gT ?_))))))));refine dY (gT ?_);refine oQ ?_;refine gT ?_;refine jw ?_;refine gT ?_;refine db ?_;refine fL ?_;refine aa (cF (a6 (aD (aD (bB (ai (sr (mL (aL (aa (au ?_)))))))))));exact Q7
theorem fC {B : Nat} {l : List Nat} {i : Nat} (h : l[i]? = some c) : bC B (l.take (i + 1)) = bC B (l.take i) + B ^ i * c := by
 have hi := (Uk.1 h).1;rw [ay h, eJ, Us, U0 TX];simp [bC]
theorem Hp.E0 {H : List HE} {A : Option Addr} {t : TypeId} {xs : List Nat} (h : Hp w0 (.row A n c t 1 (cY xs) :: H) w) (hl : xs.length = n) : Hp w0 (.row A (dH xs).length c t 1 (cY (dH xs)) :: H) w := by
 have h1 := ff xs;have h2 := h.BD (k := (dH xs).length) TX;rw [Uo, ← wb, ← jJ] at h2;exact h2
theorem FZ (a : ByteArray) (w : World) (ha : a.size ≤ 100000000000) :
  Calls Tryz.prog 224 #[.string a] w fun e w' => ∃ b c, e = .returned (.slice (some ⟨b, 0, none⟩) (aU 18446744073709551616 (bn a.data.toList)).length c) ∧ w'.ownsRow w.heap.size 204 1 (.slice (some ⟨b, 0, none⟩) (aU 18446744073709551616 (bn a.data.toList)).length c) (aU 18446744073709551616 (bn a.data.toList)).length (cY (aU 18446744073709551616 (bn a.data.toList))) ∧ Below w.heap.size w w' := by
 have hsz := dE a;have hh := Hp.start w;refine aj (N := 39) (l := [.string a]) Tryz.func224 rfl rfl (by simp) ?_;refine sr (aL (aa (sr (mS ?_))));refine bI bk.out rfl TY ?_;refine bj ?_;refine nE ?_;refine gi (n := (a.size + 7) / 8) hh rfl rfl TX TX bk.out aK.out rfl TX TX TY ?_;intro b10 w10 hh;refine aL (aa (ah (sr (mS ?_))));refine bI bk.out rfl TY ?_;refine mI (aa (aq ?_));rw [pk] at hh;refine aP [4, 5, 13, 14, 15, 16, 17, 18, 19, 20, 21, 22, 23, 24, 25, 26, 27, 28, 29, 30, 31, 32, 33, 34, 35, 36] 13
  (fun v w' => ∃ i : Nat, i ≤ a.size ∧ v = .int .i64 i ∧ Hp w [.row (some ⟨b10, 0, none⟩) ((a.size + 7) / 8) ((a.size + 7) / 8) 204 1 (cY (bM 18446744073709551616 ((a.size + 7) / 8) (bC 256 ((AQ a.data.toList).take i))))] w')
  (fun v _ => a.size - (intOf v).toNat) ?_ ?_
 ·exact ⟨0, T6 _, rfl, by rw [Wb, bC, ql]; exact hh⟩
 ·clear hh;rintro ρ' v w' ⟨i, hi, rfl, hh⟩;by_cases hlt : i < a.size
  ·obtain ⟨c, hc⟩ := ak (l := a.data.toList) (k := ((a.size : Int) - 1 - i).toNat) TX;have hlo := Hg (s := a.data.toList) (i := i) (c := c) TX (by rw [← hc]; congr 1; omega);have hc8 := c.toNat_lt;have hn := iw ((xQ a.data.toList).take i);rw [Us, nT, U0 TX] at hn;obtain ⟨s1, s2, s3⟩ := LU (k := (a.size + 7) / 8) (bC 256 ((AQ a.data.toList).take i)) hn hc8 TX;have hg := ef (iq (B := 18446744073709551616) ((a.size + 7) / 8) (bC 256 ((AQ a.data.toList).take i)) (i / 8) TX);have e1 : ((i : Int) % 8 * 8).toNat = i % 8 * 8 := TX;refine sr ?_;refine bg (aa (ah (cT (ar (ai (ah (aq (sr (mI (aI (aa (sr (mS ?_)))))))))))));refine bI bk.out rfl TY ?_;refine dY (mI ?_);refine dY (aI (aa ?_));refine aV 13 [[(3, none)], [(4, none)], [(22, some 1)], [(21, some 0), (23, some 2)], [(24, some 3)], [(0, none)], [(5, none)], [(26, some 5), (27, some 6)], [(28, some 7)], [(4, none)], [(30, some 9)], [(31, some 10)], [(29, some 8), (32, some 11)]] [(12, 33), (11, 32), (10, 31), (9, 30), (8, 29), (7, 28), (6, 27), (5, 26), (4, 25), (3, 24), (2, 23), (1, 22), (0, 21)] hh mixed TZ ?_;refine fT ?_;refine dF ?_
   refine bu (i := 2) (fun ρ1 w1 hj hR => qo (show ρ1 22 = Value.int _ _ from hR.1) rfl TX TX TX) ?_;refine Ke (i / 8) ?_;refine bu (i := 4) (fun ρ1 w1 hj hR => jb aK.out (show ρ1 24 = Value.pointer _ from hR.1) (hj.hp.fh (i := 0) rfl (by first | assumption | (simp only [Uo]; assumption)))) ?_;refine Tw ?_;refine dF ?_;refine bu (i := 7) (fun ρ1 w1 hj hR => rH bk.out (show ρ1 26 = Value.string _ from hR.1) (show ρ1 27 = Value.int _ _ from hR.2.1) TX (by assumption)) ?_;refine bu (i := 8) (fun ρ1 w1 hj hR => tF bk.out bk.out (show ρ1 28 = Value.int _ _ from hR.1) (by first | assumption | omega)) ?_;refine dF ?_;refine bu (i := 10) (fun ρ1 w1 hj hR => n9 (show ρ1 30 = Value.int _ _ from hR.1) rfl TX TX) ?_;refine QO ?_;refine bu (i := 12) (fun ρ1 w1 hj hR => xH (show ρ1 29 = Value.int _ _ from hR.1) (show ρ1 32 = Value.int _ _ from hR.2.1) TX) ?_;refine aR ?_;intro f W hJ hV;have hb_6 := hJ.bl;obtain ⟨v33, v32, v31, v30, v29, v28, v27, v26, v25, v24, v23, v22, v21, _⟩ := hV;replace hh := hJ.hp;refine aY (br (ae v33 (ae v32 (ae v31 (ae v30 (ae v29 (ae v28 (ae v27 (ae v26 (ae v25 (ae v24 (ae v23 (ae v22 (ae v21 aX)))))))))))))) ?_;dsimp only [cf];clear hJ;refine DP ?_
   refine cV (k := i / 8) bk.out aK.size rfl rfl TX TX TY ?_;refine Ih ?_;intro ws hh;simp only [Uh] at hh;rw [e1, UG s2, CW s1, cM (by rw [a8, aN]; omega), Uo, fN, s3, ← fC hlo] at hh;refine fM ?_;refine bj (mI (aA (ai ?_)));refine ⟨⟨i + 1, TX, rfl, hh⟩, by show a.size - (i + 1) < a.size - i; omega, ?_⟩;exact dQ
  ·refine sr ?_;refine nF ?_;rw [T9 (by rw [nT]; omega)] at hh;refine bD hh (ic _ _ _ (bM 18446744073709551616 ((a.size + 7) / 8) (bn a.data.toList)) _ (hh.aC (i := 0) rfl) (T5 _) TX) rfl ?_;intro w38 hh;refine aL (aa (au ?_));refine cZ ?_;have hbd : bn a.data.toList < 18446744073709551616 ^ ((a.size + 7) / 8) := by
    refine U6 (Oa _) ?_;rw [← hsz, show (256 : Nat) = 2 ^ 8 from rfl, show (18446744073709551616 : Nat) = 2 ^ 64 from rfl, ← UO, ← UO];exact UL TX TX
   have hd : dH (bM 18446744073709551616 ((a.size + 7) / 8) (bn a.data.toList)) = aU 18446744073709551616 (bn a.data.toList) := by
    exact PS
   have h1 := (Hp.E0 (xs := bM 18446744073709551616 ((a.size + 7) / 8) (bn a.data.toList)) hh (aN _ _)).at_ (i := 0) rfl;exact LB
theorem Sl.O2 {A : Option Addr} {xs : List Nat} (h : Sl w A n 1 (cY xs)) (hk : k ≤ n) : Sl w A k 1 (cY (xs.take k)) := by
 have hl := h.1;rw [a8] at hl;refine ⟨by rw [a8, Us]; omega, fun h0 => ?_⟩;obtain ⟨ad, he, hr⟩ := h.2 TX;exact ⟨ad, he, by rw [wb]; exact hr.take k⟩
theorem Sl.xA {A : Option Addr} {xs : List Nat} (h : Sl w A n 1 (cY xs)) : Sl w A (dH xs).length 1 (cY (dH xs)) := by
 have hl := h.1;rw [a8] at hl;have := ff xs;have h2 := h.O2 (k := (dH xs).length) TX;rwa [← jJ] at h2
theorem Ch {xs : List Nat} (h : Dg 18446744073709551616 xs) : bF (bC 18446744073709551616 xs) ≤ 64 * xs.length := by
 apply dx;rw [UO];exact iw h
theorem tV (A : Option Addr) (n c : Nat) (xs : List Nat) (w : World) (hx : Sl w A n 1 (cY xs)) (hd : Dg 18446744073709551616 xs) (hc : n ≤ c) (hn : n ≤ 100000000000) :
  Calls Tryz.prog 248 #[.slice A n c] w fun e w' => e = .returned (.int .i64 (bF (bC 18446744073709551616 xs))) ∧ Below w.heap.size w w' := by
 have hl := hx.1;rw [a8] at hl;have hcl := ff xs;have hcx := hx.xA;have hcd := hd.cut;have hlast := vx xs;rw [← lg];generalize hcs : dH xs = cs at *;have hh := Hp.start w;refine aj (N := 19) (l := [.slice A n c]) Tryz.func248 rfl rfl (by simp) ?_;refine sr (aI (aa (sr (mL ?_))));refine bD hh (ic _ _ _ xs _ hx hc TX) rfl ?_;intro w4 hh;rw [hcs];by_cases h0 : cs.length = 0
 ·refine aL (aa (ah (sr (mL (aJ ?_)))));refine E6 ?_;refine cZ ?_;have : cs = [] := VC h0;subst this;exact ⟨by rw [bC, k0]; rfl, hh.below⟩
 ·obtain ⟨ad, rfl, hr⟩ := hcx.at_ TX;obtain ⟨d, hd⟩ := ak (l := cs) (k := cs.length - 1) TX;have hd2 := ef hd;have hd3 := hcd.at_ hd;have e1 : cs.take (cs.length - 1) ++ [d] = cs := by rw [← ay hd, T9 TX]
  have hnz : d ≠ 0 := by
   intro h;subst h;apply hlast;rw [List.getLast?_eq_getElem?];exact hd
  have hb := IG (B := 18446744073709551616) (b := 64) (m := cs.length - 1) TY (hcd.take (cs.length - 1)) (by rw [Us]; omega) hnz;rw [e1] at hb;have hb2 : bF d ≤ 64 := dx (by simpa using hd3);refine aL (aa (ah (sr (mL (aJ ?_)))));refine db (aa (cF (ar (ai (sr (mL (aJ ?_)))))));refine mulC (mL (mL (aJ ?_)));refine dY ?_;refine da (k := cs.length - 1) bk.out aK.size rfl rfl TX TX TY ?_;refine jw ?_;refine bD hh (BS _ _ hd3) rfl ?_;intro w17 hh;refine dY (aI (aa (au ?_)));refine cZ ?_;refine ⟨?_, hh.below⟩;congr 2;omega
theorem Da (N : Nat) : (aU 256 N).length = (bF N + 7) / 8 := by
 have h256 : (256 : Nat) = 2 ^ 8 := rfl;have h1 : (aU 256 N).length ≤ (bF N + 7) / 8 := by
  apply g9 TX;refine U6 (dm N) ?_;rw [h256, ← UO];exact UL TX TX
 have h2 := oR (B := 256) TX N;have h3 : bF N ≤ 8 * (aU 256 N).length := by
  apply dx;rw [UO];exact h2
 omega
theorem k8 {B : Nat} (i N : Nat) : bM B (i + 1) N = bM B i N ++ [N / B ^ i % B] := by
 apply Ve;intro j
 rcases Nat.lt_trichotomy j i with h | h | h
 ·rw [iq _ _ _ TX, Wi (by rw [aN]; exact h), iq _ _ _ h]
 ·subst h;rw [iq _ _ _ TX, Vg (by rw [aN]; omega), aN];simp
 ·rw [Uy (by rw [aN]; omega), Uy (by rw [Ua, aN]; simp; omega)]
theorem ES {R : List Nat} {x : Nat} : (List.replicate (k + 1) 0 ++ R).set k x = List.replicate k 0 ++ (x :: R) := by
 rw [List.replicate_succ', UI, V3 _ _ (by simp)];simp
theorem hU (A : Option Addr) (n c : Nat) (xs : List Nat) (w : World) (hx : Sl w A n 1 (cY xs)) (hd : Dg 18446744073709551616 xs) (hc : n ≤ c) (hn : n ≤ 10000000000) :
  Calls Tryz.prog 235 #[.slice A n c] w fun e w' => e = .returned (.string (str (sb (bC 18446744073709551616 xs)))) ∧ Below w.heap.size w w' := by
 have hl := hx.1;rw [a8] at hl;have hcl := ff xs;have hcx := hx.xA;have hcd := hd.cut;have hbl := Ch hcd;have hcan := ig TX hd;have hlen := Da (bC 18446744073709551616 xs);rw [lg] at hbl;have hh := Hp.start w;refine aj (N := 37) (l := [.slice A n c]) Tryz.func235 rfl rfl (by simp) ?_;refine sr (aS (aa (sr (mL ?_))));refine bD hh (ic _ _ _ xs _ hx hc TX) rfl ?_;intro w7 hh;rw [hcan] at hcl hcx hcd hbl;rw [hcan];refine aL (aa (sr (mL ?_)));refine bD hh (tV _ _ _ (aU 18446744073709551616 (bC 18446744073709551616 xs)) _ (hcx.ext hh.below) hcd TX TX) rfl ?_;intro w9 hh;rw [dI TX];generalize bC 18446744073709551616 xs = M at *;refine bj ?_;refine nE ?_;refine aI (aa (sr (mI ?_)));refine gi (n := (bF M + 7) / 8) hh rfl rfl TX TX bk.out aK.out rfl TX TX TY ?_;intro b13 w13 hh;refine aL (aa (ah (sr (mI (mI (aa (aq ?_)))))));rw [pQ] at hh;refine aP [5, 15, 16, 17, 18, 19, 20, 21, 22, 23, 24, 25, 26, 27, 28, 29, 30, 31, 32, 33, 34] 15
  (fun v w' => ∃ i : Nat, i ≤ (bF M + 7) / 8 ∧ v = .int .i64 i ∧ Hp w [.row (some ⟨b13, 0, none⟩) ((bF M + 7) / 8) ((bF M + 7) / 8) 5 1 (gC (List.replicate ((bF M + 7) / 8 - i) 0 ++ (bM 256 i M).reverse))] w')
  (fun v _ => (bF M + 7) / 8 - (intOf v).toNat) ?_ ?_
 ·exact ⟨0, T6 _, rfl, by simpa [bM] using hh⟩
 ·clear hh;rintro ρ' v w' ⟨i, hi, rfl, hh⟩;by_cases hlt : i < (bF M + 7) / 8
  ·obtain ⟨ad, rfl, hr⟩ := hcx.at_ TX;have hg := yY (B := 18446744073709551616) (n := M) (i := i / 8) TX TX;have hg2 := ef hg;have e1 : ((i : Int) % 8 * 8).toNat = i % 8 * 8 := TX;refine sr ?_;refine bg (aa (ah (cT (ar (ai (ah (aq (sr (mI (aI (aa (ao (mL (mI ?_))))))))))))));refine dY (mI ?_);refine dY (mL (mI ?_));refine nE ?_;refine da (k := i / 8) bk.out aK.size rfl rfl TX TX TY ?_;refine jw ?_;refine mI ?_;refine rN ?_;refine mulC ?_;refine CE rfl rfl TX TY ?_;refine K0 bk.out bk.out rfl TY ?_;refine cV (k := (bF M + 7) / 8 - 1 - i) bk.out aK.size rfl rfl TX TX TY ?_;refine bO hh (i := 0) (vs := [_]) rfl rfl (cJ rfl) rfl aK.out rfl (by rw [cN, Ua, UJ, Vt, aN]; omega) rfl ?_;intro ws hh;simp only [Uh] at hh;obtain ⟨k, hk⟩ : ∃ k, (bF M + 7) / 8 - i = k + 1 := ⟨(bF M + 7) / 8 - i - 1, TX⟩;rw [e1, FY, Uo, cM (by rw [cN, Ua, UJ, Vt, aN]; omega), oN, hk, show (bF M + 7) / 8 - 1 - i = k by omega, ES, ← List.reverse_concat, ← k8] at hh;refine fM ?_;refine bj (mI (aA (ai ?_)))
   refine ⟨⟨i + 1, TX, rfl, by rw [show (bF M + 7) / 8 - (i + 1) = k by omega]; exact hh⟩, by show (bF M + 7) / 8 - (i + 1) < (bF M + 7) / 8 - i; omega, ?_⟩;exact dQ
  ·obtain rfl : i = (bF M + 7) / 8 := TX;have hfin : gC (List.replicate ((bF M + 7) / 8 - (bF M + 7) / 8) 0 ++ (bM 256 ((bF M + 7) / 8) M).reverse) = nq (sb M) := by
    rw [UW, W8, Ub, ← hlen];exact QB
   rw [hfin] at hh;refine sr ?_;refine nF ?_;exact ML
theorem nB (A : Option Addr) (n c m : Nat) (xs : List Nat) (w : World) (hx : Sl w A n 1 (cY xs)) (hn : n ≤ 10000000000) (hm : m ≤ 10000000000) :
  Calls Tryz.prog 249 #[.slice A n c, .int .i64 m] w fun e w' => ∃ b, e = .returned (.slice (some ⟨b, 0, none⟩) (max m n) (max m n)) ∧ w'.ownsRow w.heap.size 204 1 (.slice (some ⟨b, 0, none⟩) (max m n) (max m n)) (max m n) (cY (xs ++ List.replicate (max m n - n) 0)) ∧ Below w.heap.size w w' := by
 have hl := hx.1;rw [a8] at hl;have hh := Hp.start w;refine aj (N := 15) (l := [.slice A n c, .int .i64 m]) Tryz.func249 rfl rfl (by simp) ?_;refine sr (aL (aa (sr (mI (mL (aJ ?_))))));refine kQ rfl rfl TY ?_;refine gi (n := max m n) hh rfl rfl TX TX bk.out aK.out rfl TX TX TY ?_;intro b10 w10 hh;refine aL (aa (sr (mL (mL ?_))));rw [pk] at hh;refine KP hh (i := 0) (o := 0) rfl rfl rfl (hx.ext hh.below) bk.out aK.out (by rw [a8, Vt]; omega) (dp _) TY ?_;intro w13 hh;skip;have e1 : cq (cY (List.replicate (max m n) 0)) 0 ((cY xs).take (min n (max m n) * 1)) = cY (xs ++ List.replicate (max m n - n) 0) := by
  rw [T9 (by rw [a8]; omega), cq, Wb, Ub, a8, ← vD, ← Ao, List.drop_replicate];congr 3;omega
 simp only [Uh, e1] at hh;refine aa (sr (mL (aL (aa (au ?_)))));refine cZ ?_;exact ⟨_, rfl, hh.at_ (i := 0) rfl, hh.below⟩
theorem C4 (A B : Option Addr) (n c m c' : Nat) (xs ys : List Nat) (w : World) (hx : Sl w A n 1 (cY xs)) (hy : Sl w B m 1 (cY ys)) (hdx : Dg 18446744073709551616 xs) (hdy : Dg 18446744073709551616 ys) (hc : n ≤ c) (hc' : m ≤ c') (hn : n ≤ 100000000000) (hm : m ≤ 100000000000) :
  Calls Tryz.prog 252 #[.slice A n c, .slice B m c'] w fun e w' => e = .returned (.int .i64 (lj (bC 18446744073709551616 xs) (bC 18446744073709551616 ys))) ∧ Below w.heap.size w w' := by
 have hlx := hx.1;have hly := hy.1;rw [a8] at hlx hly;have hcx := hx.xA;have hcy := hy.xA;have hxl := ff xs;have hyl := ff ys;have hx2 := Can.cut hdx;have hy2 := Can.cut hdy;have hh := Hp.start w;rw [← lg xs, ← lg ys];refine aj (N := 47) (l := [.slice A n c, .slice B m c']) Tryz.func252 rfl rfl (by simp) ?_;refine sr (aI (aa (sr (mL ?_))));refine bD hh (ic _ _ _ xs _ hx hc TX) rfl ?_;intro w7 hh;refine mL ?_;refine bD hh (ic _ _ _ ys _ (hy.ext hh.below) hc' TX) rfl ?_;intro w9 hh;generalize dH xs = us at *;generalize dH ys = vs at *;by_cases hlen : us.length = vs.length
 ·refine aL (aL (aa (ah (sr (mL (aJ (mL (aJ ?_))))))));refine dn (aa (cF (ar (ai (ah (sr (mL (aJ ?_))))))));refine dY (aI (aa (aq ?_)));refine aP [4, 5, 23, 24, 25, 26, 27, 28, 29, 30, 31, 32, 33, 34, 35, 36, 37, 38, 39, 40, 41, 42, 43, 44, 45, 46] 5
   (fun v w' => ∃ k : Nat, k ≤ us.length ∧ v = .int .i64 ((k : Int) - 1) ∧ us.drop k = vs.drop k ∧ Hp w [] w')
   (fun v _ => (intOf v + 1).toNat) ?_ ?_
  ·exact ⟨us.length, T5 _, rfl, by rw [List.drop_length, List.drop_eq_nil_of_le TX], hh⟩
  ·clear hh;rintro ρ' v w' ⟨k, hk, rfl, hd, hh⟩;by_cases h0 : k = 0
   ·subst h0;refine ah (sr (mI ?_));refine dW (aa (cF (a6 (aD (aD (bB (ai (sr (aI (aa (au ?_)))))))))));refine cZ ?_;rw [W0, W0] at hd;rw [hd];exact ⟨by rw [EJ rfl], hh.below⟩
   ·obtain ⟨j, rfl⟩ : ∃ j, k = j + 1 := ⟨k - 1, TX⟩;obtain ⟨x, hxj⟩ := ak (l := us) (k := j) TX;obtain ⟨y, hyj⟩ := ak (l := vs) (k := j) TX;obtain ⟨ad, rfl, hr⟩ := hcx.at_ TX;obtain ⟨ad2, rfl, hs⟩ := hcy.at_ TX;have hx3 := ef hxj;have hy3 := ef hyj;by_cases hlt : x < y
    ·have hf := wR hx2.1 hxj hyj hd hlt;refine ah (sr (mI ?_));refine IW ?_;refine JR ?_;refine fT ?_;refine dF ?_;refine l3 (j) ?_;refine AU ?_;refine fT ?_;refine dF ?_;refine l3 (j) ?_;refine Bm ?_;refine aR ?_;intro f W hJ hV;have hb_9 := hJ.bl;obtain ⟨v35, v34, v33, v32, v31, v30, v29, v28, _⟩ := hV;replace hh := hJ.hp;refine IZ ?_;dsimp only [cf];clear hJ;refine bg (aB (aa (cT (sr (aI (aa (au (cd (cd (aG (aG (cd (aG ?_)))))))))))));refine cZ ?_;exact ⟨by rw [lK hf], hh.below⟩
    ·by_cases hgt : y < x
     ·have hf := wR hy2.1 hyj hxj hd.symm hgt;refine ah (sr (mI ?_));refine IW ?_;refine JR ?_;refine fT ?_;refine dF ?_;refine l3 (j) ?_;refine AU ?_;refine fT ?_;refine dF ?_;refine l3 (j) ?_;refine Bm ?_;refine aR ?_;intro f W hJ hV;have hb_9 := hJ.bl;obtain ⟨v35, v34, v33, v32, v31, v30, v29, v28, _⟩ := hV;replace hh := hJ.hp;refine IZ ?_;dsimp only [cf];clear hJ;refine bg (aB (aa (cF (ah ?_))));refine Nm ?_;refine fT ?_;refine dF ?_;refine l3 (j) ?_;refine AU ?_;refine fT ?_;refine dF ?_;refine l3 (j) ?_;refine Bm ?_;refine aR ?_;intro f W hJ hV;have hb_11 := hJ.bl;obtain ⟨v45, v44, v43, v42, v41, v40, v39, v38, _⟩ := hV;replace hh := hJ.hp;refine MI ?_;dsimp only [cf];clear hJ;refine cm (aB (aa (cT (sr (aI (aa (au (cd (cd (aG (aG (cd (aG ?_)))))))))))));refine cZ ?_;exact ⟨by rw [xC hf], hh.below⟩
     ·refine ah (sr (mI ?_));refine IW ?_;refine JR ?_;refine fT ?_;refine dF ?_;refine l3 (j) ?_;refine AU ?_;refine fT ?_;refine dF ?_;refine l3 (j) ?_;refine Bm ?_;refine aR ?_;intro f W hJ hV;have hb_9 := hJ.bl;obtain ⟨v35, v34, v33, v32, v31, v30, v29, v28, _⟩ := hV;replace hh := hJ.hp;refine IZ ?_;dsimp only [cf];clear hJ;refine bg (aB (aa (cF (ah ?_))));refine Nm ?_;refine fT ?_;refine dF ?_;refine l3 (j) ?_;refine AU ?_;refine fT ?_;refine dF ?_;refine l3 (j) ?_;refine Bm ?_;refine aR ?_;intro f W hJ hV;have hb_11 := hJ.bl;obtain ⟨v45, v44, v43, v42, v41, v40, v39, v38, _⟩ := hV;replace hh := hJ.hp;refine MI ?_;dsimp only [cf];clear hJ;refine cm (aB (aa (cF (ar (bE (bE (ai (ao (mI ?_)))))))));refine dY (aI (aA (ai ?_)));refine ⟨⟨j, TX, by show Value.int _ _ = Value.int _ _; congr 1; omega, xu hxj hyj hd TX, hh⟩, by show ((((j + 1 : Nat) : Int) - 1 - 1) + 1).toNat < ((((j + 1 : Nat) : Int) - 1) + 1).toNat; omega, ?_⟩;exact dQ
 ·by_cases hlt : us.length < vs.length
  ·have hf : bC 18446744073709551616 us < bC 18446744073709551616 vs := by
    refine WZ fun h => ?_;have := hy2.s7 hx2 TX h;omega
   refine aL (aL (aa (ah (sr (mL (aJ (mL (aJ ?_))))))));refine dn (aa (cT (ah (sr (mL (aJ (mL (aJ ?_))))))));refine bg (aa (cT (sr (aI (aa (au (aG (aG ?_))))))));refine cZ ?_;exact ⟨by rw [lK hf], hh.below⟩
  ·have hf : bC 18446744073709551616 vs < bC 18446744073709551616 us := by
    refine WZ fun h => ?_;have := hx2.s7 hy2 TX h;omega
   refine aL (aL (aa (ah (sr (mL (aJ (mL (aJ ?_))))))));refine dn (aa (cT (ah (sr (mL (aJ (mL (aJ ?_))))))));refine bg (aa (cF (ar (ai (sr (aI (aa (au (aG ?_)))))))));refine cZ ?_;exact ⟨by rw [xC hf], hh.below⟩
theorem QN {y : Nat} (hy : y < 18446744073709551616) (hm : m < 18446744073709551616) : y * m ≤ 340282366920938463426481119284349108225 := Vs (by omega : y ≤ 18446744073709551615) (by omega : m ≤ 18446744073709551615)
theorem wm {x y P : Nat} (hx : x < 18446744073709551616) (hc : c < 18446744073709551616) (hP : P ≤ 340282366920938463426481119284349108225) (he : P = y * m) :
  (x + (P % 18446744073709551616 + c + 0) % 18446744073709551616 + 0) % 18446744073709551616 = (x + y * m + c) % 18446744073709551616 ∧ ((P / 18446744073709551616 + (P % 18446744073709551616 + c + 0) / 18446744073709551616) % 18446744073709551616 + (x + (P % 18446744073709551616 + c + 0) % 18446744073709551616 + 0) / 18446744073709551616) % 18446744073709551616 = (x + y * m + c) / 18446744073709551616 ∧ (x + y * m + c) / 18446744073709551616 < 18446744073709551616 := by
 rw [← he];omega
theorem y6 {H : List HE} {b M : Nat} {Y : Option Addr} (pre xs post ys : List Nat) (w : World) (hh : Hp w0 (.row (some ⟨b, 0, none⟩) M C 204 1 (cY (pre ++ xs ++ post)) :: H) w)
  (hy : ∀ w1 cs, Hp w0 (.row (some ⟨b, 0, none⟩) M C 204 1 cs :: H) w1 → Sl w1 Y ny 1 (cY ys)) (hxd : Dg 18446744073709551616 xs) (hyd : Dg 18446744073709551616 ys) (hm : m < 18446744073709551616) (hM : xs.length ≤ 100000000000) (hny : ny ≤ 100000000000) :
  Calls Tryz.prog 255 #[.slice (some ⟨b, pre.length, none⟩) xs.length c', .slice Y ny cy, .int .u64 (m : Int)] w fun e w' => e = .returned (.tuple #[]) ∧ Hp w0 (.row (some ⟨b, 0, none⟩) M C 204 1 (cY (pre ++ ie 18446744073709551616 xs ys m 0 ++ post)) :: H) w' := by
 have hly := (hy _ _ hh).1;rw [a8] at hly;refine aj (N := 56) (l := [.slice (some ⟨b, pre.length, none⟩) xs.length c', .slice Y ny cy, .int .u64 (m : Int)]) Tryz.func255 rfl rfl (by simp) ?_;refine sr (aI (aa (sr (mL (aJ (mI (aa (aq ?_))))))));refine bK [6, 7, 8, 9, 10, 11, 14, 15, 16, 17, 18, 19, 20, 21, 22, 23, 24, 25, 26, 27, 28, 29, 30, 31, 32, 33, 34, 35, 36, 37, 38, 39, 40, 41, 42, 43, 44, 45, 46, 47, 48, 49, 50, 51, 52, 53, 54, 55] 6 14
  (fun c i w' => ∃ (done rest : List Nat) (cr : Nat), done.length + rest.length = xs.length ∧ i = .int .i64 done.length ∧ c = .int .u64 (cr : Int) ∧ cr < 18446744073709551616 ∧ Dg 18446744073709551616 rest ∧ done ++ ie 18446744073709551616 rest (ys.drop done.length) m cr = ie 18446744073709551616 xs ys m 0 ∧ Hp w0 (.row (some ⟨b, 0, none⟩) M C 204 1 (cY (pre ++ (done ++ rest) ++ post)) :: H) w')
  (fun _ i _ => xs.length - (intOf i).toNat) ?_ ?_
 ·exact ⟨[], xs, 0, by simp, rfl, rfl, TX, hxd, rfl, hh⟩
 ·clear hh;rintro ρ' c i w' ⟨done, rest, cr, hlen, rfl, rfl, hcr, hrd, heq, hh⟩;by_cases hlt : done.length < xs.length
  ·obtain ⟨x, r, rfl⟩ : ∃ x r, rest = x :: r := by
    exact P1
   have hx := hrd.head;have hg := ef (yE (pre := pre) (done := done) (r := r) (post := post) (x := x));have hlr : done.length + (r.length + 1) = xs.length := by simpa using hlen
   simp only [ie, tail_drop, ui] at heq;by_cases hiy : done.length < ny
   ·obtain ⟨y, hyk⟩ := ak (l := ys) (k := done.length) TX;obtain ⟨ad, rfl, _⟩ := (hy _ _ hh).at_ TX;rw [hyk, Vo] at heq;have hyw := hyd.at_ hyk;refine sr ?_;refine wL ?_;refine bg (aa (cT (ao (mL (mI ?_)))));refine Kr ?_;refine bT aK.out rfl ((hy _ _ hh).P8 hyk) TY ?_;refine aI (aa (sr (mI (mI ?_))));obtain ⟨p1, p2, p3⟩ := wm (y := y) (m := m) hx hcr (QN hyw hm) rfl;refine bD hh (rh y m _ hyw hm) rfl ?_;intro w28 hh;refine mT ?_;refine du ?_;refine du ?_;refine aI (aI (aa (sr (mI (mI ?_)))));refine kf (jM (y * m % 18446744073709551616) cr 0 TX _) (aw (cJ rfl) (aw (cJ rfl) (aw rfl aZ))) TY ?_;refine mT ?_;refine du ?_;refine du ?_;refine aI (aI (aa (sr (mI (mI ?_)))));refine iB rfl rfl TY ?_;refine aI (aa (sr (mL (mI (mL (mI ?_))))));refine om bk.out aK.size rfl rfl rfl TX TY ?_;refine jn ?_;refine mI ?_;refine kf (jM x ((y * m % 18446744073709551616 + cr + 0) % 18446744073709551616) 0 TX _) (aw (cJ rfl) (aw (cJ rfl) (aw rfl aZ))) TY ?_;refine mT ?_;refine du ?_;refine du ?_;refine nC ?_;refine xa ?_;intro ws hh;simp only [Uh] at hh;rw [p1, Uo, cM (by rw [a8]; simp only [Ua, Uq]; omega), fN, m9] at hh
    refine aI (aa (ao (mI (mI ?_))));refine iB rfl rfl TY ?_;refine wI ?_;refine bj (mI (aA (ai ?_)));rw [p2];refine ⟨⟨done ++ [(x + y * m + cr) % 18446744073709551616], r, _, by simp; omega, by rw [Ua]; rfl, rfl, p3, hrd.tail, ?_, hh⟩, by show xs.length - (done.length + 1) < xs.length - done.length; omega, ?_⟩
    ·rw [← heq, UI, Ua]; rfl
    exact T0
   ·rw [Uy TX, Option.getD_none] at heq;have h0w : (0 : Nat) < 18446744073709551616 := TX;refine sr ?_;refine wL ?_;refine bg (aa (cF (ar (ai (sr (mI (mI ?_)))))));obtain ⟨p1, p2, p3⟩ := wm (y := 0) (m := m) hx hcr (QN h0w hm) rfl;refine bD hh (rh 0 m _ h0w hm) rfl ?_;intro w28 hh;refine mT ?_;refine du ?_;refine du ?_;refine aI (aI (aa (sr (mI (mI ?_)))));refine kf (jM (0 * m % 18446744073709551616) cr 0 TX _) (aw (cJ rfl) (aw (cJ rfl) (aw rfl aZ))) TY ?_;refine mT ?_;refine du ?_;refine du ?_;refine aI (aI (aa (sr (mI (mI ?_)))));refine iB rfl rfl TY ?_;refine aI (aa (sr (mL (mI (mL (mI ?_))))));refine om bk.out aK.size rfl rfl rfl TX TY ?_;refine jn ?_;refine mI ?_;refine kf (jM x ((0 * m % 18446744073709551616 + cr + 0) % 18446744073709551616) 0 TX _) (aw (cJ rfl) (aw (cJ rfl) (aw rfl aZ))) TY ?_;refine mT ?_;refine du ?_;refine du ?_;refine nC ?_;refine xa ?_;intro ws hh;simp only [Uh] at hh;rw [p1, Uo, cM (by rw [a8]; simp only [Ua, Uq]; omega), fN, m9] at hh;refine aI (aa (ao (mI (mI ?_))));refine iB rfl rfl TY ?_;refine wI ?_;refine bj (mI (aA (ai ?_)));rw [p2]
    refine ⟨⟨done ++ [(x + 0 * m + cr) % 18446744073709551616], r, _, by simp; omega, by rw [Ua]; rfl, rfl, p3, hrd.tail, ?_, hh⟩, by show xs.length - (done.length + 1) < xs.length - done.length; omega, ?_⟩
    ·rw [← heq, UI, Ua]; rfl
    exact T0
  ·exact Ru
theorem At {H : List HE} {b M : Nat} {Y : Option Addr} (pre xs post ys : List Nat) (w : World) (hh : Hp w0 (.row (some ⟨b, 0, none⟩) M C 204 1 (cY (pre ++ xs ++ post)) :: H) w)
  (hy : ∀ w1 cs, Hp w0 (.row (some ⟨b, 0, none⟩) M C 204 1 cs :: H) w1 → Sl w1 Y ny 1 (cY ys)) (hxd : Dg 18446744073709551616 xs) (hyd : Dg 18446744073709551616 ys) (hM : xs.length ≤ 100000000000) (hny : ny ≤ 100000000000) (hsub : AO 18446744073709551616 xs ys 0 = 0) :
  Calls Tryz.prog 253 #[.slice (some ⟨b, pre.length, none⟩) xs.length c', .slice Y ny cy] w fun e w' => e = .returned (.bool true) ∧ Hp w0 (.row (some ⟨b, 0, none⟩) M C 204 1 (cY (pre ++ rR 18446744073709551616 xs ys 0 ++ post)) :: H) w' := by
 have hly := (hy _ _ hh).1;rw [a8] at hly;refine aj (N := 37) (l := [.slice (some ⟨b, pre.length, none⟩) xs.length c', .slice Y ny cy]) Tryz.func253 rfl rfl (by simp) ?_;refine sr (aB (aa (sr (aI (aa (ah (sr (mL (aJ (mI (aa (aq ?_))))))))))));refine bK [5, 6, 7, 10, 11, 12, 13, 14, 15, 16, 17, 18, 19, 20, 21, 22, 23, 24, 25, 26, 27, 28, 29, 30, 31, 32, 33, 34] 5 10
  (fun c i w' => ∃ (done rest : List Nat) (cr : Nat), done.length + rest.length = xs.length ∧ i = .int .i64 done.length ∧ c = .int .u64 (cr : Int) ∧ cr ≤ 1 ∧ Dg 18446744073709551616 rest ∧ done ++ rR 18446744073709551616 rest (ys.drop done.length) cr = rR 18446744073709551616 xs ys 0 ∧ AO 18446744073709551616 rest (ys.drop done.length) cr = 0 ∧ Hp w0 (.row (some ⟨b, 0, none⟩) M C 204 1 (cY (pre ++ (done ++ rest) ++ post)) :: H) w')
  (fun _ i _ => xs.length - (intOf i).toNat) ?_ ?_
 ·exact ⟨[], xs, 0, by simp, rfl, rfl, TX, hxd, rfl, hsub, hh⟩
 ·clear hh;rintro ρ' c i w' ⟨done, rest, cr, hlen, rfl, rfl, hcr, hrd, heq, hsb, hh⟩;by_cases hlt : done.length < xs.length
  ·obtain ⟨x, r, rfl⟩ : ∃ x r, rest = x :: r := by
    exact P1
   have hx := hrd.head;have hg := ef (yE (pre := pre) (done := done) (r := r) (post := post) (x := x));have hlr : done.length + (r.length + 1) = xs.length := by simpa using hlen
   simp only [rR, AO, tail_drop, ui] at heq hsb;by_cases hiy : done.length < ny
   ·obtain ⟨y, hyk⟩ := ak (l := ys) (k := done.length) TX;obtain ⟨ad, rfl, _⟩ := (hy _ _ hh).at_ TX;rw [hyk, Vo] at heq hsb;have hyw := hyd.at_ hyk;refine sr ?_;refine wL ?_;refine bg (aa (cT (ao (mL (mI ?_)))));refine Kr ?_;refine bT aK.out rfl ((hy _ _ hh).P8 hyk) TY ?_;refine aI (aa (ao (mL (mI (mL (mI ?_))))));refine nC ?_;refine jn ?_;refine mI (mI ?_);refine kf (wV x y cr hcr _) (aw (cJ rfl) (aw (cJ rfl) (aw (cJ rfl) aZ))) TY ?_;refine mT ?_;refine du ?_;refine du ?_;refine nC ?_;refine xa ?_;intro ws hh;simp only [Uh] at hh;rw [Uo, cM (by rw [a8]; simp only [Ua, Uq]; omega), fN, m9] at hh;refine wI ?_;refine bj (mI (aA (ai ?_)));refine ⟨⟨done ++ [(x + 18446744073709551616 - y - cr) % 18446744073709551616], r, _, by simp; omega, by rw [Ua]; rfl, rfl, by split <;> omega, hrd.tail, ?_, ?_, hh⟩, by show xs.length - (done.length + 1) < xs.length - done.length; omega, ?_⟩
    ·rw [← heq, UI, Ua]; rfl
    ·rw [Ua]; exact hsb
    exact T0
   ·rw [Uy TX, Option.getD_none] at heq hsb;refine sr ?_;refine wL ?_;refine bg (aa (cF (ar (ai (ao (mL (mI (mL (mI ?_)))))))));refine nC ?_;refine jn ?_;refine mI (mI ?_);refine kf (wV x 0 cr hcr _) (aw (cJ rfl) (aw (cJ rfl) (aw (cJ rfl) aZ))) TY ?_;refine mT ?_;refine du ?_;refine du ?_;refine nC ?_;refine xa ?_;intro ws hh;simp only [Uh] at hh;rw [Uo, cM (by rw [a8]; simp only [Ua, Uq]; omega), fN, m9] at hh;refine wI ?_;refine bj (mI (aA (ai ?_)));refine ⟨⟨done ++ [(x + 18446744073709551616 - 0 - cr) % 18446744073709551616], r, _, by simp; omega, by rw [Ua]; rfl, rfl, by split <;> omega, hrd.tail, ?_, ?_, hh⟩, by show xs.length - (done.length + 1) < xs.length - done.length; omega, ?_⟩
    ·rw [← heq, UI, Ua]; rfl
    ·rw [Ua]; exact hsb
    exact T0
  ·have hr0 : rest = [] := VC TX;subst hr0;obtain rfl : cr = 0 := hsb;refine sr ?_;refine bg (aa (ah (cF (a6 (aD (aD (bB (ai (sr (mI ?_))))))))));refine db (aB (aa (au ?_)));refine cZ ?_;rw [UF, rR, UF] at *;rw [← heq];exact ⟨rfl, hh⟩
theorem BP {H : List HE} {b M : Nat} {Y : Option Addr} (pre xs post ys : List Nat) (w : World) (hh : Hp w0 (.row (some ⟨b, 0, none⟩) M C 204 1 (cY (pre ++ xs ++ post)) :: H) w)
  (hy : ∀ w1 cs, Hp w0 (.row (some ⟨b, 0, none⟩) M C 204 1 cs :: H) w1 → Sl w1 Y ny 1 (cY ys)) (hxd : Dg 18446744073709551616 xs) (hyd : Dg 18446744073709551616 ys) (hM : xs.length ≤ 100000000000) (hny : ny ≤ 100000000000) :
  Calls Tryz.prog 250 #[.slice (some ⟨b, pre.length, none⟩) xs.length c', .slice Y ny cy] w fun e w' => e = .returned (.tuple #[]) ∧ Hp w0 (.row (some ⟨b, 0, none⟩) M C 204 1 (cY (pre ++ ie 18446744073709551616 xs ys 1 0 ++ post)) :: H) w' := by
 have hly := (hy _ _ hh).1;rw [a8] at hly;refine aj (N := 34) (l := [.slice (some ⟨b, pre.length, none⟩) xs.length c', .slice Y ny cy]) Tryz.func250 rfl rfl (by simp) ?_;refine sr (aI (aa (sr (mL (aJ (mI (aa (aq ?_))))))));refine bK [4, 5, 6, 9, 10, 11, 12, 13, 14, 15, 16, 17, 18, 19, 20, 21, 22, 23, 24, 25, 26, 27, 28, 29, 30, 31, 32, 33] 4 9
  (fun c i w' => ∃ (done rest : List Nat) (cr : Nat), done.length + rest.length = xs.length ∧ i = .int .i64 done.length ∧ c = .int .u64 (cr : Int) ∧ cr ≤ 1 ∧ Dg 18446744073709551616 rest ∧ done ++ ie 18446744073709551616 rest (ys.drop done.length) 1 cr = ie 18446744073709551616 xs ys 1 0 ∧ Hp w0 (.row (some ⟨b, 0, none⟩) M C 204 1 (cY (pre ++ (done ++ rest) ++ post)) :: H) w')
  (fun _ i _ => xs.length - (intOf i).toNat) ?_ ?_
 ·exact ⟨[], xs, 0, by simp, rfl, rfl, TX, hxd, rfl, hh⟩
 ·clear hh;rintro ρ' c i w' ⟨done, rest, cr, hlen, rfl, rfl, hcr, hrd, heq, hh⟩;by_cases hlt : done.length < xs.length
  ·obtain ⟨x, r, rfl⟩ : ∃ x r, rest = x :: r := by
    exact P1
   have hx := hrd.head;have hg := ef (yE (pre := pre) (done := done) (r := r) (post := post) (x := x));have hlr : done.length + (r.length + 1) = xs.length := by simpa using hlen
   simp only [ie, tail_drop, ui, Uo] at heq;by_cases hiy : done.length < ny
   ·obtain ⟨y, hyk⟩ := ak (l := ys) (k := done.length) TX;obtain ⟨ad, rfl, _⟩ := (hy _ _ hh).at_ TX;rw [hyk, Vo] at heq;have hyw := hyd.at_ hyk;refine sr ?_;refine wL ?_;refine bg (aa (cT (ao (mL (mI ?_)))));refine Kr ?_;refine bT aK.out rfl ((hy _ _ hh).P8 hyk) TY ?_;refine aI (aa (ao (mL (mI (mL (mI ?_))))));refine nC ?_;refine jn ?_;refine mI (mI ?_);refine kf (jM x y cr hcr _) (aw (cJ rfl) (aw (cJ rfl) (aw (cJ rfl) aZ))) TY ?_;refine mT ?_;refine du ?_;refine du ?_;refine nC ?_;refine xa ?_;intro ws hh;simp only [Uh] at hh;rw [Uo, cM (by rw [a8]; simp only [Ua, Uq]; omega), fN, m9] at hh;refine wI ?_;refine bj (mI (aA (ai ?_)));refine ⟨⟨done ++ [(x + y + cr) % 18446744073709551616], r, _, by simp; omega, by rw [Ua]; rfl, rfl, TX, hrd.tail, ?_, hh⟩, by show xs.length - (done.length + 1) < xs.length - done.length; omega, ?_⟩
    ·rw [← heq, UI, Ua]; rfl
    exact T0
   ·rw [Uy TX, Option.getD_none] at heq;refine sr ?_;refine wL ?_;refine bg (aa (cF (ar (ai (ao (mL (mI (mL (mI ?_)))))))));refine nC ?_;refine jn ?_;refine mI (mI ?_);refine kf (jM x 0 cr hcr _) (aw (cJ rfl) (aw (cJ rfl) (aw (cJ rfl) aZ))) TY ?_;refine mT ?_;refine du ?_;refine du ?_;refine nC ?_;refine xa ?_;intro ws hh;simp only [Uh] at hh;rw [Uo, cM (by rw [a8]; simp only [Ua, Uq]; omega), fN, m9] at hh;refine wI ?_;refine bj (mI (aA (ai ?_)));refine ⟨⟨done ++ [(x + 0 + cr) % 18446744073709551616], r, _, by simp; omega, by rw [Ua]; rfl, rfl, TX, hrd.tail, ?_, hh⟩, by show xs.length - (done.length + 1) < xs.length - done.length; omega, ?_⟩
    ·rw [← heq, UI, Ua]; rfl
    exact T0
  ·exact Ru
theorem MF {i d : Nat} (D : Nat) (hD : D < 18446744073709551616 ^ i) (hd : d < 18446744073709551616) (hk : i + n / 64 + 1 < k) :
  (D * 2 ^ n) / 18446744073709551616 ^ (i + n / 64) % 18446744073709551616 < 2 ^ (n % 64) ∧ d * 2 ^ (n % 64) % 18446744073709551616 = (d % 2 ^ (64 - n % 64)) * 2 ^ (n % 64) ∧
  (bM 18446744073709551616 k (D * 2 ^ n)).set (i + n / 64) ((D * 2 ^ n) / 18446744073709551616 ^ (i + n / 64) % 18446744073709551616 + d * 2 ^ (n % 64) % 18446744073709551616) = bM 18446744073709551616 k (D * 2 ^ n + 18446744073709551616 ^ (i + n / 64) * (d * 2 ^ (n % 64) % 18446744073709551616)) ∧
  (D * 2 ^ n + 18446744073709551616 ^ (i + n / 64) * (d * 2 ^ (n % 64) % 18446744073709551616)) / 18446744073709551616 ^ (i + n / 64 + 1) % 18446744073709551616 = 0 ∧
  (bM 18446744073709551616 k (D * 2 ^ n + 18446744073709551616 ^ (i + n / 64) * (d * 2 ^ (n % 64) % 18446744073709551616))).set (i + n / 64 + 1) (d / 2 ^ (64 - n % 64)) = bM 18446744073709551616 k ((D + 18446744073709551616 ^ i * d) * 2 ^ n) ∧
  (n % 64 = 0 → D * 2 ^ n + 18446744073709551616 ^ (i + n / 64) * (d * 2 ^ (n % 64) % 18446744073709551616) = (D + 18446744073709551616 ^ i * d) * 2 ^ n) := by
 have hW : (18446744073709551616 : Nat) = 2 ^ 64 := by decide
 have hs : n % 64 < 64 := Uw _ TX;have hn : 2 ^ n = 18446744073709551616 ^ (n / 64) * 2 ^ (n % 64) := by
  rw [hW, ← UO, ← Uu]; congr 1; omega
 generalize hq : n / 64 = q at *;generalize hse : n % 64 = s at *;have e : (18446744073709551616 : Nat) = 2 ^ (64 - s) * 2 ^ s := by rw [← Uu, hW]; congr 1; omega
 have hpos : 0 < 2 ^ s := UE TX;have hwp : ∀ j : Nat, 0 < 18446744073709551616 ^ j := fun j => UE TY;have hP : D * 2 ^ n < 18446744073709551616 ^ (i + q) * 2 ^ s := by
  rw [hn, ← UX, Uu];exact Wy (Wy hD (hwp q)) hpos
 have h1 : (D * 2 ^ n) / 18446744073709551616 ^ (i + q) < 2 ^ s := by rw [Vr (hwp _), UC (2 ^ s)]; exact hP
 have hsW : 2 ^ s ≤ 18446744073709551616 := by rw [hW]; exact UL TX TX
 have h2 : d * 2 ^ s % 18446744073709551616 = (d % 2 ^ (64 - s)) * 2 ^ s := by rw [e, Nat.mul_mod_mul_right]
 have h3 : (d % 2 ^ (64 - s) + 1) * 2 ^ s ≤ 18446744073709551616 := by
  rw [e];exact U2 _ (Uw _ (UE TX))
 rw [Va] at h3;have h4 : (D * 2 ^ n) / 18446744073709551616 ^ (i + q) % 18446744073709551616 = (D * 2 ^ n) / 18446744073709551616 ^ (i + q) := UG TX;have hlt1 : D * 2 ^ n + 18446744073709551616 ^ (i + q) * (d * 2 ^ s % 18446744073709551616) < 18446744073709551616 ^ (i + q + 1) := by
  rw [h2, UQ];have : 18446744073709551616 ^ (i + q) * ((d % 2 ^ (64 - s)) * 2 ^ s + 2 ^ s) ≤ 18446744073709551616 ^ (i + q) * 18446744073709551616 := Uz _ h3;rw [US] at this;omega
 have hup := Pg (d := d) (s := s) hd TX;have hfin : D * 2 ^ n + 18446744073709551616 ^ (i + q) * (d * 2 ^ s % 18446744073709551616) + 18446744073709551616 ^ (i + q + 1) * (d / 2 ^ (64 - s)) = (D + 18446744073709551616 ^ i * d) * 2 ^ n := by
  have h5 : 18446744073709551616 ^ (i + q) * (d * 2 ^ s % 18446744073709551616) + 18446744073709551616 ^ (i + q + 1) * (d / 2 ^ (64 - s)) = 18446744073709551616 ^ (i + q) * (d * 2 ^ s) := by
   conv => rhs; rw [← hup.1, US]
   rw [UQ, UX, UC 18446744073709551616]
  rw [WU, h5, VV, hn, Uu];congr 1;simp only [UX, Xn, UC]
 have hbig : ∀ j, j < k → 18446744073709551616 ^ j * 18446744073709551616 ≤ 18446744073709551616 ^ k := fun j hj => by rw [← UQ]; exact UL TY hj
 have hb1 := hbig (i + q) TX;rw [← UQ] at hb1;refine ⟨by rw [h4]; exact h1, h2, ?_, ?_, ?_, ?_⟩
 ·exact oW TY TX TX (by rw [h4, h2]; omega)
 ·rw [U1 hlt1]
 ·have h6 : (D * 2 ^ n + 18446744073709551616 ^ (i + q) * (d * 2 ^ s % 18446744073709551616)) / 18446744073709551616 ^ (i + q + 1) % 18446744073709551616 = 0 := by rw [U1 hlt1]
  have h7 : d / 2 ^ (64 - s) < 18446744073709551616 := U8 (Wq _ _) hd;have h8 := oW (B := 18446744073709551616) (k := k) (n := D * 2 ^ n + 18446744073709551616 ^ (i + q) * (d * 2 ^ s % 18446744073709551616)) (j := i + q + 1) (v := d / 2 ^ (64 - s)) TY hk ?_ (by rw [h6]; omega)
  ·rw [h6, Uv, hfin] at h8;exact h8
  ·have h9 : 18446744073709551616 ^ (i + q + 1) * (d / 2 ^ (64 - s) + 1) ≤ 18446744073709551616 ^ (i + q + 1) * 18446744073709551616 := Uz _ h7;have h10 := hbig (i + q + 1) hk;rw [VM] at h9;omega
 ·intro h0;subst h0;rw [← hfin];have : d / 2 ^ (64 - 0) = 0 := U1 (by rw [← hW]; exact hd);rw [this];simp
theorem FP (A : Option Addr) (n c m : Nat) (xs : List Nat) (w : World) (hx : Sl w A n 1 (cY xs)) (hd : Dg 18446744073709551616 xs) (hn : n ≤ 1000000000) (hm : m ≤ 10000000000) :
  Calls Tryz.prog 246 #[.slice A n c, .int .i64 (m : Int)] w fun e w' => ∃ A c, e = .returned (.slice A (aU 18446744073709551616 (bC 18446744073709551616 xs * 2 ^ m)).length c) ∧ w'.ownsRow w.heap.size 204 1 (.slice A (aU 18446744073709551616 (bC 18446744073709551616 xs * 2 ^ m)).length c) (aU 18446744073709551616 (bC 18446744073709551616 xs * 2 ^ m)).length (cY (aU 18446744073709551616 (bC 18446744073709551616 xs * 2 ^ m))) ∧ Below w.heap.size w w' := by
 have hl := hx.1;rw [a8] at hl;have hh := Hp.start w;have hs1 : ((m : Int) % 64).toNat = m % 64 := TX;refine aj (N := 55) (l := [.slice A n c, .int .i64 (m : Int)]) Tryz.func246 rfl rfl (by simp) ?_;refine sr (aL (aa (sr (mL (aJ (mI ?_))))));refine nE ?_;refine bj ?_;refine bj ?_;refine gi (n := n + m / 64 + 1) hh rfl rfl TX TX bk.out aK.out rfl TX TX TY ?_;intro b15 w15 hh;refine rb ?_;rw [pk] at hh;refine aP [6, 7, 8, 18, 19, 20, 21, 22, 23, 24, 25, 26, 27, 28, 29, 30, 31, 32, 33, 34, 35, 36, 37, 38, 39, 40, 41, 42, 43, 44, 45, 46, 47, 48, 49, 50, 51, 52] 18
  (fun v w' => ∃ i : Nat, i ≤ n ∧ v = .int .i64 i ∧ Hp w [.row (some ⟨b15, 0, none⟩) (n + m / 64 + 1) (n + m / 64 + 1) 204 1 (cY (bM 18446744073709551616 (n + m / 64 + 1) (bC 18446744073709551616 (xs.take i) * 2 ^ m)))] w')
  (fun v _ => n - (intOf v).toNat) ?_ ?_
 ·exact ⟨0, T6 _, rfl, by rw [Wb, bC, Wx, ql]; exact hh⟩
 ·clear hh;rintro ρ' v w' ⟨i, hi, rfl, hh⟩;by_cases hlt : i < n
  ·obtain ⟨d, hdi⟩ := ak (l := xs) (k := i) TX;obtain ⟨ad, rfl, hr⟩ := hx.at_ TX;have hd2 := ef hdi;have hdw := hd.at_ hdi;have hD := iw (hd.take i);rw [Us, U0 TX] at hD;obtain ⟨s1, s2, s3, s4, s5, s6⟩ := MF (k := n + m / 64 + 1) (n := m) (bC 18446744073709551616 (xs.take i)) hD hdw TX;have hg := ef (iq (B := 18446744073709551616) (n + m / 64 + 1) (bC 18446744073709551616 (xs.take i) * 2 ^ m) (i + m / 64) TX);refine sr ?_;refine ek ?_;refine da bk.out aK.size rfl rfl rfl TX TY ?_;refine jw ?_;refine aI (aI (aa (sr (mI (mI ?_)))));refine nE ?_;refine bj (aI (aa (ah ?_)));refine aV 8 [[(5, none)], [(8, none)], [(27, some 0), (28, some 1)], [(29, some 2)], [(7, none)], [(1, none)], [(32, some 5)], [(31, some 4), (33, some 6)]] [(7, 34), (6, 33), (5, 32), (4, 31), (3, 30), (2, 29), (1, 28), (0, 27)] hh mixed TZ ?_;refine fT ?_;refine dF ?_;refine Ke (i + m / 64) ?_;refine bu (i := 3) (fun ρ1 w1 hj hR => jb aK.out (show ρ1 29 = Value.pointer _ from hR.1) (hj.hp.fh (i := 0) rfl (by rw [Uo]; exact hg))) ?_;refine dF ?_;refine dF ?_;refine bu (i := 6) (fun ρ1 w1 hj hR => n9 (show ρ1 32 = Value.int _ _ from hR.1) rfl TX TX) ?_
   refine bu (i := 7) (fun ρ1 w1 hj hR => xH (show ρ1 31 = Value.int _ _ from hR.1) (show ρ1 33 = Value.int _ _ from hR.2.1) TX) ?_;refine aR ?_;intro f W hJ hV;have hb_6 := hJ.bl;obtain ⟨v34, v33, v32, v31, v30, v29, v28, v27, _⟩ := hV;replace hh := hJ.hp;refine aY (br (ae v34 (ae v33 (ae v32 (ae v31 (ae v30 (ae v29 (ae v28 (ae v27 aX))))))))) ?_;dsimp only [cf];clear hJ;refine DP ?_;refine cV (k := i + m / 64) bk.out aK.size rfl rfl TX TX TY ?_;refine Ih ?_;intro ws hh;simp only [Uh] at hh;rw [hs1, s2, CW s1, ← s2, Uo, cM (by rw [a8, aN]; omega), fN, s3] at hh;by_cases h0 : m % 64 = 0
   ·refine aa (sr (mI ?_));refine rN ?_;refine cm (aa (cF (ar (bE (ai (ao ?_))))));refine bj (mI (aA (ai ?_)));rw [s6 h0, ← fC hdi] at hh;exact J4
   ·have hg2 := ef (iq (B := 18446744073709551616) (n + m / 64 + 1) (bC 18446744073709551616 (xs.take i) * 2 ^ m + 18446744073709551616 ^ (i + m / 64) * (d * 2 ^ (m % 64) % 18446744073709551616)) (i + m / 64 + 1) TX);rw [s4] at hg2;have hs2 : (64 - (m : Int) % 64).toNat = 64 - m % 64 := TX;have hd64 : d / 2 ^ (64 - (m : Int) % 64).toNat < 18446744073709551616 := U8 (Wq _ _) hdw;have h0w : (0 : Nat) < 18446744073709551616 := TX;refine aa (sr (mI ?_));refine rN ?_;refine cm (aa (cT ?_));refine aV 10 [[(5, none)], [(8, none)], [(41, some 1)], [(40, some 0), (42, some 2)], [(43, some 3)], [(7, none)], [(1, none)], [(46, some 6)], [(47, some 7)], [(45, some 5), (48, some 8)]] [(9, 49), (8, 48), (7, 47), (6, 46), (5, 45), (4, 44), (3, 43), (2, 42), (1, 41), (0, 40)] hh mixed TZ ?_;refine fT ?_;refine dF ?_;refine rS ?_;refine Ke (i + m / 64 + 1) ?_;refine bu (i := 4) (fun ρ1 w1 hj hR => jb aK.out (show ρ1 43 = Value.pointer _ from hR.1) (hj.hp.fh (i := 0) rfl (by rw [Uo]; exact hg2))) ?_;refine dF ?_;refine dF ?_;refine bu (i := 7) (fun ρ1 w1 hj hR => n9 (show ρ1 46 = Value.int _ _ from hR.1) rfl TX TX) ?_;refine vg ?_
    refine bu (i := 9) (fun ρ1 w1 hj hR => CV (show ρ1 45 = Value.int _ _ from hR.1) (show ρ1 48 = Value.int _ _ from hR.2.1) TX) ?_;refine aR ?_;intro f W hJ hV;have hb_8 := hJ.bl;obtain ⟨v49, v48, v47, v46, v45, v44, v43, v42, v41, v40, _⟩ := hV;replace hh := hJ.hp;refine aY (br (ae v49 (ae v48 (ae v47 (ae v46 (ae v45 (ae v44 (ae v43 (ae v42 (ae v41 (ae v40 aX))))))))))) ?_;dsimp only [cf];clear hJ;refine DP ?_;refine cV (k := i + m / 64 + 1) bk.out aK.size rfl rfl TX TX TY ?_;refine Ih ?_;intro ws hh;simp only [Uh] at hh;rw [hs2, Nat.zero_or, Uo, cM (by rw [a8, aN]; omega), fN, s5, ← fC hdi] at hh;refine fM ?_;refine bj (mI (aA (ai ?_)));exact J4
  ·refine sr ?_;refine nF ?_;rw [T9 TX] at hh;refine bD hh (ic _ _ _ (bM 18446744073709551616 (n + m / 64 + 1) (bC 18446744073709551616 xs * 2 ^ m)) _ (hh.aC (i := 0) rfl) (T5 _) TX) rfl ?_;intro w54 hh;refine aL (aa (au ?_));refine cZ ?_;have hbd : bC 18446744073709551616 xs * 2 ^ m < 18446744073709551616 ^ (n + m / 64 + 1) := by
    have h1 := iw hd;rw [show xs.length = n by omega] at h1;have h2 : 2 ^ m ≤ 18446744073709551616 ^ (m / 64 + 1) := by
     exact QZ
    rw [show n + m / 64 + 1 = n + (m / 64 + 1) by omega, Uu];exact U6 (Wy h1 (UE TX)) (Uz _ h2)
   have hd : dH (bM 18446744073709551616 (n + m / 64 + 1) (bC 18446744073709551616 xs * 2 ^ m)) = aU 18446744073709551616 (bC 18446744073709551616 xs * 2 ^ m) := by
    exact PS
   have h1 := (Hp.E0 (xs := bM 18446744073709551616 (n + m / 64 + 1) (bC 18446744073709551616 xs * 2 ^ m)) hh (aN _ _)).at_ (i := 0) rfl;exact LB
theorem Sl.Qf {xs : List Nat} (h : Sl w (some ad) n 1 (cY xs)) (hk : k < n) : Sl w (some (ad.add (k * 1))) (n - k) 1 (cY (xs.drop k)) := by
 have hl := h.1;rw [a8] at hl;refine ⟨by rw [a8, Vn]; omega, fun h0 => ⟨_, rfl, ?_⟩⟩;obtain ⟨ad', he, hr⟩ := h.2 TX;injection he with he
 subst he;rw [Uo, vD];exact hr.drop k
theorem FI {s : Nat} (hs : s < 64) (h0 : 0 < s) :
  (N / 18446744073709551616 ^ (j + 1) % 18446744073709551616) * 2 ^ (64 - s) % 18446744073709551616 = N / 18446744073709551616 ^ (j + 1) % 2 ^ s * 2 ^ (64 - s) ∧
  (N / 18446744073709551616 ^ j % 18446744073709551616 / 2 ^ s ||| (N / 18446744073709551616 ^ (j + 1) % 18446744073709551616) * 2 ^ (64 - s) % 18446744073709551616) = N / 2 ^ (64 * j + s) % 18446744073709551616 := by
 have hW : (18446744073709551616 : Nat) = 2 ^ 64 := by decide
 have e : (18446744073709551616 : Nat) = 2 ^ s * 2 ^ (64 - s) := by rw [← Uu, hW]; congr 1; omega
 have h1 : (N / 18446744073709551616 ^ (j + 1) % 18446744073709551616) * 2 ^ (64 - s) % 18446744073709551616 = N / 18446744073709551616 ^ (j + 1) % 2 ^ s * 2 ^ (64 - s) := by
  generalize N / 18446744073709551616 ^ (j + 1) = m;rw [e, Nat.mul_mod_mul_right, Nat.mod_mul_right_mod]
 obtain ⟨h2, h3⟩ := xb N j s hs h0;exact ⟨h1, by rw [h1, CW h2, h3]⟩
theorem Bu (A : Option Addr) (n c m : Nat) (xs : List Nat) (w : World) (hx : Sl w A n 1 (cY xs)) (hd : Dg 18446744073709551616 xs) (hc : n ≤ c) (hn : n ≤ 1000000000) (hm : m ≤ 1000000000000) :
  Calls Tryz.prog 247 #[.slice A n c, .int .i64 (m : Int)] w fun e w' => ∃ A c, e = .returned (.slice A (aU 18446744073709551616 (bC 18446744073709551616 xs / 2 ^ m)).length c) ∧ w'.ownsRow w.heap.size 204 1 (.slice A (aU 18446744073709551616 (bC 18446744073709551616 xs / 2 ^ m)).length c) (aU 18446744073709551616 (bC 18446744073709551616 xs / 2 ^ m)).length (cY (aU 18446744073709551616 (bC 18446744073709551616 xs / 2 ^ m))) ∧ Below w.heap.size w w' := by
 have hl := hx.1;rw [a8] at hl;have hh := Hp.start w;have hs1 : ((m : Int) % 64).toNat = m % 64 := TX;have hW : (18446744073709551616 : Nat) = 2 ^ 64 := by decide
 have hmm : 2 ^ m = 18446744073709551616 ^ (m / 64) * 2 ^ (m % 64) := by
  rw [hW, ← UO, ← Uu]; congr 1; omega
 have hlt := iw hd;rw [show xs.length = n by omega] at hlt;by_cases hbig : n ≤ m / 64
 ·have h0 : bC 18446744073709551616 xs / 2 ^ m = 0 := by
   apply U1;refine U6 hlt (Ur (UL TY hbig) ?_);rw [hmm];exact Xx _ (UE TX)
  refine aj (N := 61) (l := [.slice A n c, .int .i64 (m : Int)]) Tryz.func247 rfl rfl (by simp) ?_;refine sr (aL (aa (ah (sr (mI ?_)))));refine nE ?_;refine mL (aJ ?_);refine dW (aa (cT (sr (aL (aa (au (aG ?_)))))));refine cZ ?_;rw [h0, fV TX];exact I3
 ·obtain ⟨ad, rfl, hr⟩ := hx.at_ TX;have hsd := hx.Qf (k := m / 64) TX;have hget : ∀ j, j < n → xs[j]? = some (bC 18446744073709551616 xs / 18446744073709551616 ^ j % 18446744073709551616) := fun j hj => by
   obtain ⟨d, hdj⟩ := ak (l := xs) (k := j) TX;rw [hdj, sj hd hdj]
  refine aj (N := 61) (l := [.slice (some ad) n c, .int .i64 (m : Int)]) Tryz.func247 rfl rfl (by simp) ?_;refine sr (aL (aa (ah (sr (mI ?_)))));refine nE ?_;refine mL (aJ ?_);refine dW (aa (cF (ar (ai (sr (mL (mI ?_)))))));refine nE ?_;refine Bj (l := m / 64) bk.out aK.size rfl rfl TX TX TX TX TY ?_;refine aF (nB _ _ _ 0 _ _ hsd TX TX) al.out rfl TY ?_;rintro e_ w_ ⟨b16, rfl, hown_, hb_⟩;refine ⟨_, rfl, ?_⟩;replace hh := hh.aW (x := .row _ _ _ _ _ _) hb_ hown_;rw [Nat.zero_max, UW, W8, UF] at hh;rw [Nat.zero_max];refine rb ?_;refine aP [6, 19, 20, 21, 22, 23, 24, 25, 26, 27, 28, 29, 30, 31, 32, 33, 34, 35, 36, 37, 38, 39, 40, 41, 42, 43, 44, 45, 46, 47, 48, 49, 50, 51, 52, 53, 54, 55, 56, 57, 58] 19
   (fun v w' => ∃ i : Nat, i ≤ n - m / 64 ∧ v = .int .i64 i ∧ Hp w [.row (some ⟨b16, 0, none⟩) (n - m / 64) (n - m / 64) 204 1 (cY (bM 18446744073709551616 i (bC 18446744073709551616 xs / 2 ^ m) ++ xs.drop (m / 64 + i)))] w')
   (fun v _ => (n - m / 64) - (intOf v).toNat) ?_ ?_
  ·exact ⟨0, T6 _, rfl, hh⟩
  ·clear hh;rintro ρ' v w' ⟨i, hi, rfl, hh⟩;by_cases hlt2 : i < n - m / 64
   ·have hgi := hget (m / 64 + i) TX;have hdr : xs.drop (m / 64 + i) = (bC 18446744073709551616 xs / 18446744073709551616 ^ (m / 64 + i) % 18446744073709551616) :: xs.drop (m / 64 + i + 1) := by
     rw [Vj TX];congr 1;have := Uk.1 hgi;exact this.2
    have hcell : (bM 18446744073709551616 i (bC 18446744073709551616 xs / 2 ^ m) ++ xs.drop (m / 64 + i))[i]? = some (bC 18446744073709551616 xs / 18446744073709551616 ^ (m / 64 + i) % 18446744073709551616) := by
     rw [Vg (by rw [aN]; omega), aN, hdr]; simp
    have hg := ef hcell;have hset : ∀ y, (bM 18446744073709551616 i (bC 18446744073709551616 xs / 2 ^ m) ++ xs.drop (m / 64 + i)).set i y = bM 18446744073709551616 i (bC 18446744073709551616 xs / 2 ^ m) ++ y :: xs.drop (m / 64 + i + 1) := fun y => by
     rw [hdr, V3 _ _ (by rw [aN]; omega), aN, UW, Uh]
    have hll : (bM 18446744073709551616 i (bC 18446744073709551616 xs / 2 ^ m) ++ xs.drop (m / 64 + i)).length = n - m / 64 := by rw [Ua, aN, Vn]; omega
    have hac : ∀ y, bM 18446744073709551616 i (bC 18446744073709551616 xs / 2 ^ m) ++ y :: xs.drop (m / 64 + i + 1) = (bM 18446744073709551616 i (bC 18446744073709551616 xs / 2 ^ m) ++ [y]) ++ xs.drop (m / 64 + (i + 1)) := fun y => List.append_cons _ _ _;have hnew : bM 18446744073709551616 (i + 1) (bC 18446744073709551616 xs / 2 ^ m) = bM 18446744073709551616 i (bC 18446744073709551616 xs / 2 ^ m) ++ [bC 18446744073709551616 xs / 2 ^ (64 * (m / 64 + i) + m % 64) % 18446744073709551616] := by
     rw [k8, VE];congr 4;rw [hW, ← UO, ← Uu]; congr 1; omega
    refine sr ?_;refine bg (aa (ah (cT (ar (ai (ah (aq (sr (mI (aI (aa (sr (mL (mI ?_))))))))))))));refine gk ?_;refine jn ?_;refine mI ?_;refine rN ?_;refine CE rfl rfl TX TY ?_;refine gk ?_;refine bO hh (i := 0) (vs := [_]) rfl rfl (cJ rfl) rfl aK.out rfl (by rw [a8, hll]; omega) rfl ?_;intro ws hh;simp only [Uh] at hh;rw [hs1, Uo, cM (by rw [a8, hll]; omega), fN, hset] at hh;by_cases h0 : m % 64 = 0
    ·have e1 : bC 18446744073709551616 xs / 18446744073709551616 ^ (m / 64 + i) % 18446744073709551616 / 2 ^ (m % 64) = bC 18446744073709551616 xs / 2 ^ (64 * (m / 64 + i) + m % 64) % 18446744073709551616 := by
      rw [h0, WG, Nat.div_one, Vu, UO, ← hW]
     by_cases hl : i + 1 < n - m / 64
     ·refine aa (sr (mI ?_));refine bj (mL (aJ ?_));refine bg (mB (gT (mI (gT ?_))));refine rN ?_;refine gT ?_;refine cm ?_;refine fL ?_;exact NQ
     ·exact MP
    ·by_cases hl : i + 1 < n - m / 64
     ·have hgj := hget (m / 64 + i + 1) TX;have hgj2 := ef hgj;obtain ⟨d1, d2⟩ := FI (N := bC 18446744073709551616 xs) (j := m / 64 + i) (s := m % 64) (Uw _ TX) TX;have hcell2 : (bM 18446744073709551616 i (bC 18446744073709551616 xs / 2 ^ m) ++ (bC 18446744073709551616 xs / 18446744073709551616 ^ (m / 64 + i) % 18446744073709551616 / 2 ^ (m % 64)) :: xs.drop (m / 64 + i + 1))[i]? = some (bC 18446744073709551616 xs / 18446744073709551616 ^ (m / 64 + i) % 18446744073709551616 / 2 ^ (m % 64)) := by
       rw [Vg (by rw [aN]; omega), aN]; simp
      have hg2 := ef hcell2;have hset2 : ∀ y z, (bM 18446744073709551616 i (bC 18446744073709551616 xs / 2 ^ m) ++ y :: xs.drop (m / 64 + i + 1)).set i z = bM 18446744073709551616 i (bC 18446744073709551616 xs / 2 ^ m) ++ z :: xs.drop (m / 64 + i + 1) := fun y z => by
       rw [V3 _ _ (by rw [aN]; omega), aN, UW, Uh]
      have hll2 : ∀ y, (bM 18446744073709551616 i (bC 18446744073709551616 xs / 2 ^ m) ++ y :: xs.drop (m / 64 + i + 1)).length = n - m / 64 := fun y => by rw [Ua, aN, Uq, Vn]; omega
      have hs2 : (64 - (m : Int) % 64).toNat = 64 - m % 64 := TX;have b1 : bC 18446744073709551616 xs / 18446744073709551616 ^ (m / 64 + i) % 18446744073709551616 / 2 ^ (m % 64) < 18446744073709551616 := U8 (Wq _ _) (Uw _ TX);have b2 : bC 18446744073709551616 xs / 18446744073709551616 ^ (m / 64 + i + 1) % 18446744073709551616 * 2 ^ (64 - (m : Int) % 64).toNat % 18446744073709551616 < 18446744073709551616 := Uw _ TX;refine aa (sr (mI ?_));refine bj (mL (aJ ?_));refine bg (mB (gT (mI (gT ?_))));refine rN ?_;refine gT ?_;refine cm ?_;refine fL ?_;refine aa (cT ?_);refine aV 16 [[(5, none)], [(6, none)], [(40, some 0), (41, some 1)], [(42, some 2)], [(0, none)], [(1, none)], [(45, some 5)], [(6, none)], [(46, some 6), (47, some 7)], [(48, some 8)], [(44, some 4), (49, some 9)], [(50, some 10)], [(1, none)], [(52, some 12)], [(53, some 13)], [(51, some 11), (54, some 14)]] [(15, 55), (14, 54), (13, 53), (12, 52), (11, 51), (10, 50), (9, 49), (8, 48), (7, 47), (6, 46), (5, 45), (4, 44), (3, 43), (2, 42), (1, 41), (0, 40)] hh mixed TZ ?_;refine fT ?_;refine dF ?_;refine Ke (i) ?_
      refine bu (i := 3) (fun ρ1 w1 hj hR => jb aK.out (show ρ1 42 = Value.pointer _ from hR.1) (hj.hp.fh (i := 0) rfl (by rw [Uo]; exact hg2))) ?_;refine fT ?_;refine dF ?_;refine bu (i := 6) (fun ρ1 w1 hj hR => qo (show ρ1 45 = Value.int _ _ from hR.1) rfl TX TX TX) ?_;refine dF ?_;refine rS ?_;refine rS ?_;refine l3 (m / 64 + i + 1) ?_;refine rW (fun _ hj => (hr.ext hj.hp.below).xT hgj2) ?_;refine dF ?_;refine bu (i := 13) (fun ρ1 w1 hj hR => n9 (show ρ1 52 = Value.int _ _ from hR.1) rfl TX TX) ?_;refine vg ?_;refine bu (i := 15) (fun ρ1 w1 hj hR => xH (show ρ1 51 = Value.int _ _ from hR.1) (show ρ1 54 = Value.int _ _ from hR.2.1) TX) ?_;refine aR ?_;intro f W hJ hV;have hb_9 := hJ.bl;obtain ⟨v55, v54, v53, v52, v51, v50, v49, v48, v47, v46, v45, v44, v43, v42, v41, v40, _⟩ := hV;replace hh := hJ.hp;refine aY (br (ae v55 (ae v54 (ae v53 (ae v52 (ae v51 (ae v50 (ae v49 (ae v48 (ae v47 (ae v46 (ae v45 (ae v44 (ae v43 (ae v42 (ae v41 (ae v40 aX))))))))))))))))) ?_;dsimp only [cf];clear hJ;refine DP ?_;refine gk ?_;refine bO hh (i := 0) (vs := [_]) rfl rfl (cJ rfl) rfl aK.out rfl (by rw [a8, hll2]; omega) rfl ?_;intro ws hh;simp only [Uh] at hh
      rw [hs2, d2, Uo, cM (by rw [a8, hll2]; omega), fN, hset2, hac, ← hnew] at hh;refine fM ?_;refine bj (mI (aA (ai ?_)));exact Oi
     ·have e1 : bC 18446744073709551616 xs / 18446744073709551616 ^ (m / 64 + i) % 18446744073709551616 / 2 ^ (m % 64) = bC 18446744073709551616 xs / 2 ^ (64 * (m / 64 + i) + m % 64) % 18446744073709551616 := by
       obtain ⟨h2, h3⟩ := xb (bC 18446744073709551616 xs) (m / 64 + i) (m % 64) (Uw _ TX) TX;have h4 : bC 18446744073709551616 xs / 18446744073709551616 ^ (m / 64 + i + 1) = 0 := U1 (U6 hlt (UL TY TX));rw [h4] at h3;simpa using h3
      exact MP
   ·obtain rfl : i = n - m / 64 := TX;rw [List.drop_eq_nil_of_le TX, UF] at hh;refine sr ?_;refine nF ?_;refine bD hh (ic _ _ _ (bM 18446744073709551616 (n - m / 64) (bC 18446744073709551616 xs / 2 ^ m)) _ (hh.aC (i := 0) rfl) (T5 _) TX) rfl ?_;intro w60 hh;refine aL (aa (au ?_));refine cZ ?_;have hbd : bC 18446744073709551616 xs / 2 ^ m < 18446744073709551616 ^ (n - m / 64) := by
     rw [Vr (UE TX), hmm, ← UX, ← Uu, show n - m / 64 + m / 64 = n by omega];exact U6 hlt (Xx _ (UE TX))
    have hd : dH (bM 18446744073709551616 (n - m / 64) (bC 18446744073709551616 xs / 2 ^ m)) = aU 18446744073709551616 (bC 18446744073709551616 xs / 2 ^ m) := by
     exact PS
    have h1 := (Hp.E0 (xs := bM 18446744073709551616 (n - m / 64) (bC 18446744073709551616 xs / 2 ^ m)) hh (aN _ _)).at_ (i := 0) rfl;exact LB
def bN (a : ByteArray) : Nat := bn a.data.toList
def sN (n : Nat) : ByteArray := str (sb n)
theorem eU (n : Nat) : bN (sN n) = n := by rw [bN, sN, dv, R4]
theorem lW (n : Nat) : (sN n).size = (bF n + 7) / 8 := by rw [sN, lk, GO, Da]
theorem JD {a b : Nat} (h : sN a = sN b) : a = b := by rw [← eU a, h, eU]
theorem mX : sN 0 = ByteArray.mk #[] := by rw [sN, KL]; rfl
theorem wY (a : ByteArray) : bN a < 256 ^ a.size := by rw [dE]; exact Oa _
theorem gI (a : ByteArray) : bF (bN a) ≤ 8 * a.size := by
 apply dx;have := wY a;rwa [show (256 : Nat) = 2 ^ 8 from rfl, ← UO] at this
theorem FF (h : n < 256 ^ k) : (aU 18446744073709551616 n).length ≤ (k + 7) / 8 := by
 apply g9 TX;refine U6 h ?_;rw [show (256 : Nat) = 2 ^ 8 from rfl, show (18446744073709551616 : Nat) = 2 ^ 64 from rfl, ← UO, ← UO];exact UL TX TX
theorem fP (a : ByteArray) : (aU 18446744073709551616 (bN a)).length ≤ (a.size + 7) / 8 := FF (wY a)
theorem jr (n : Nat) : Dg 18446744073709551616 (aU 18446744073709551616 n) := (dN TX n).1
theorem gl (n : Nat) : bC 18446744073709551616 (aU 18446744073709551616 n) = n := dI TX n
theorem oB (a : ByteArray) (w : World) (ha : a.size ≤ 1000000000) :
  Calls Tryz.prog 224 #[.string a] w fun e w' => ∃ b c, e = .returned (.slice (some ⟨b, 0, none⟩) (aU 18446744073709551616 (bN a)).length c) ∧ w'.ownsRow w.heap.size 204 1 (.slice (some ⟨b, 0, none⟩) (aU 18446744073709551616 (bN a)).length c) (aU 18446744073709551616 (bN a)).length (cY (aU 18446744073709551616 (bN a))) ∧ Below w.heap.size w w' := FZ a w TX
theorem rF (n : Nat) (w : World) (hn : n < 18446744073709551616) :
  Calls Tryz.prog 202 #[.int .u64 (n : Int)] w fun e w' => e = .returned (.string (sN n)) ∧ Below w.heap.size w w' := by
 have hh := Hp.start w;refine aj (N := 6) (l := [.int .u64 (n : Int)]) Tryz.func202 rfl rfl (by simp) ?_;refine sr (aS (aa (sr (mI ?_))));refine wz ?_;intro b4 w4 hh;refine bD hh (hU _ _ _ [n] _ (hh.aC (i := 0) rfl) (Dg.cons hn Dg.nil) (T5 _) TX) rfl ?_;intro w5 hh;refine aS (aa (au ?_));refine cZ ?_;refine ⟨?_, hh.below⟩;rw [sN];simp [bC]
theorem xZ (a b : ByteArray) (w : World) (ha : a.size ≤ 1000000000) (hb : b.size ≤ 1000000000) :
  Calls Tryz.prog 251 #[.string a, .string b] w fun e w' => e = .returned (.int .i64 (lj (bN a) (bN b))) ∧ Below w.heap.size w w' := by
 have hh := Hp.start w;have h1 := fP a;have h2 := fP b;refine aj (N := 10) (l := [.string a, .string b]) Tryz.func251 rfl rfl (by simp) ?_;refine sr (aI (aa (sr (mS ?_))));refine rK ?_;rintro e_ w6 ⟨A6, c6, rfl, hown_, hb_⟩;refine ⟨_, rfl, ?_⟩;replace hh := hh.aW (x := .row _ _ _ _ _ _) hb_ hown_;refine mS ?_;refine Ei ?_;rintro e_ w8 ⟨A8, c8, rfl, hown_, hb_⟩;refine ⟨_, rfl, ?_⟩;replace hh := hh.aW (x := .row _ _ _ _ _ _) hb_ hown_;refine Ko ?_;intro w9 hh;rw [gl, gl];exact Aj
theorem lS (a : ByteArray) (w : World) (ha : a.size ≤ 1000000000) :
  Calls Tryz.prog 228 #[.string a] w fun e w' => e = .returned (.int .i64 (bF (bN a))) ∧ Below w.heap.size w w' := by
 have hh := Hp.start w;have h1 := fP a;refine aj (N := 6) (l := [.string a]) Tryz.func228 rfl rfl (by simp) ?_;refine sr (aI (aa (sr (mS ?_))));refine rK ?_;rintro e_ w4 ⟨A4, c4, rfl, hown_, hb_⟩;refine ⟨_, rfl, ?_⟩;replace hh := hh.aW (x := .row _ _ _ _ _ _) hb_ hown_;refine bD hh (tV _ _ _ (aU 18446744073709551616 (bN a)) _ (hh.aC (i := 0) rfl) (jr _) (hh.fI (i := 0) rfl) TX) rfl ?_;intro w5 hh;rw [gl];exact Aj
theorem oO (n m : Nat) : bF (n * 2 ^ m) ≤ bF n + m := by
 apply dx;rw [Uu];exact Wy (dm n) (UE TX)
theorem uR (n : Nat) : (aU 18446744073709551616 n).length ≤ (bF n + 63) / 64 := by
 apply g9 TX;refine U6 (dm n) ?_;exact QZ
theorem x8 (a : ByteArray) (m : Nat) (w : World) (ha : a.size ≤ 1000000000) (hm : m ≤ 10000000000) :
  Calls Tryz.prog 226 #[.string a, .int .i64 (m : Int)] w fun e w' => e = .returned (.string (sN (bN a * 2 ^ m))) ∧ Below w.heap.size w w' := by
 have hh := Hp.start w;have h1 := fP a;have h2 := uR (bN a * 2 ^ m);have h3 := oO (bN a) m;have h4 := gI a;have e1 : (if (0 : Int) > (m : Int) then 0 else (m : Int)) = m := T3 TX;refine aj (N := 11) (l := [.string a, .int .i64 (m : Int)]) Tryz.func226 rfl rfl (by simp) ?_;refine sr (aS (aa (sr (mS ?_))));refine rK ?_;rintro e_ w6 ⟨A6, c6, rfl, hown_, hb_⟩;refine ⟨_, rfl, ?_⟩;replace hh := hh.aW (x := .row _ _ _ _ _ _) hb_ hown_;refine mI ?_;refine kQ rfl rfl TY ?_;rw [e1];refine aF (FP _ _ _ m (aU 18446744073709551616 (bN a)) _ (hh.aC (i := 0) rfl) (jr _) TX hm) al.out rfl TY ?_;rintro e_ w9 ⟨A9, c9, rfl, hown_, hb_⟩;refine ⟨_, rfl, ?_⟩;replace hh := hh.aW (x := .row _ _ _ _ _ _) hb_ hown_;rw [gl] at *;refine bD hh (hU _ _ _ (aU 18446744073709551616 (bN a * 2 ^ m)) _ (hh.aC (i := 0) rfl) (jr _) (hh.fI (i := 0) rfl) TX) rfl ?_;intro w10 hh;rw [gl];exact GL
theorem pT (n m : Nat) : bF (n / 2 ^ m) ≤ bF n := by
 apply dx;exact U8 (Wq _ _) (dm n)
theorem yp (a : ByteArray) (m : Nat) (w : World) (ha : a.size ≤ 1000000000) (hm : m ≤ 1000000000000) :
  Calls Tryz.prog 227 #[.string a, .int .i64 (m : Int)] w fun e w' => e = .returned (.string (sN (bN a / 2 ^ m))) ∧ Below w.heap.size w w' := by
 have hh := Hp.start w;have h1 := fP a;have h2 := uR (bN a / 2 ^ m);have h3 := pT (bN a) m;have h4 := gI a;have e1 : (if (0 : Int) > (m : Int) then 0 else (m : Int)) = m := T3 TX;refine aj (N := 11) (l := [.string a, .int .i64 (m : Int)]) Tryz.func227 rfl rfl (by simp) ?_;refine sr (aS (aa (sr (mS ?_))));refine rK ?_;rintro e_ w6 ⟨A6, c6, rfl, hown_, hb_⟩;refine ⟨_, rfl, ?_⟩;replace hh := hh.aW (x := .row _ _ _ _ _ _) hb_ hown_;refine mI ?_;refine kQ rfl rfl TY ?_;rw [e1];refine aF (Bu _ _ _ m (aU 18446744073709551616 (bN a)) _ (hh.aC (i := 0) rfl) (jr _) (hh.fI (i := 0) rfl) TX hm) al.out rfl TY ?_;rintro e_ w9 ⟨A9, c9, rfl, hown_, hb_⟩;refine ⟨_, rfl, ?_⟩;replace hh := hh.aW (x := .row _ _ _ _ _ _) hb_ hown_;rw [gl] at *;refine bD hh (hU _ _ _ (aU 18446744073709551616 (bN a / 2 ^ m)) _ (hh.aC (i := 0) rfl) (jr _) (hh.fI (i := 0) rfl) TX) rfl ?_;intro w10 hh;rw [gl];exact GL
theorem Mm {x y : Nat} (h : y ≤ x) : AO 18446744073709551616 (aU 18446744073709551616 x) (aU 18446744073709551616 y) 0 = 0 ∧ bC 18446744073709551616 (rR 18446744073709551616 (aU 18446744073709551616 x) (aU 18446744073709551616 y) 0) = x - y := by
 have := Ic (B := 18446744073709551616) TX (aU 18446744073709551616 x) (aU 18446744073709551616 y) 0 (jr _) (jr _) TX (by rw [gl, gl]; omega);rw [gl, gl] at this;exact ⟨this.2, TX⟩
theorem oF (a b : ByteArray) (w : World) (ha : a.size ≤ 1000000000) (hb : b.size ≤ 1000000000) :
  Calls Tryz.prog 232 #[.string a, .string b] w fun e w' => e = .returned (.tuple #[.string (sN (bN a - bN b)), .bool (decide (bN b ≤ bN a))]) ∧ Below w.heap.size w w' := by
 have hh := Hp.start w;have h1 := fP a;have h2 := fP b;by_cases hlt : bN a < bN b
 ·refine aj (N := 21) (l := [.string a, .string b]) Tryz.func232 rfl rfl (by simp) ?_;refine sr (aS (aB (aa (sr (mS ?_)))));refine rK ?_;rintro e_ w9 ⟨A9, c9, rfl, hown_, hb_⟩;refine ⟨_, rfl, ?_⟩;replace hh := hh.aW (x := .row _ _ _ _ _ _) hb_ hown_;refine mS ?_;refine Ei ?_;rintro e_ w11 ⟨A11, c11, rfl, hown_, hb_⟩;refine ⟨_, rfl, ?_⟩;replace hh := hh.aW (x := .row _ _ _ _ _ _) hb_ hown_;refine aL (aL (aa (ah (sr (mL (mL ?_))))));refine Ko ?_;intro w14 hh;rw [gl, gl, lK hlt];exact Re
 ·obtain ⟨s1, s2⟩ := Mm (Nat.le_of_not_lt hlt);have hc : ¬ lj (bN a) (bN b) < 0 := by unfold lj; split <;> (try split) <;> omega
  refine aj (N := 21) (l := [.string a, .string b]) Tryz.func232 rfl rfl (by simp) ?_;refine sr (aS (aB (aa (sr (mS ?_)))));refine rK ?_;rintro e_ w9 ⟨A9, c9, rfl, hown_, hb_⟩;refine ⟨_, rfl, ?_⟩;replace hh := hh.aW (x := .row _ _ _ _ _ _) hb_ hown_;refine mS ?_;refine Ei ?_;rintro e_ w11 ⟨A11, c11, rfl, hown_, hb_⟩;refine ⟨_, rfl, ?_⟩;replace hh := hh.aW (x := .row _ _ _ _ _ _) hb_ hown_;refine aL (aL (aa (ah (sr (mL (mL ?_))))));refine Ko ?_;intro w14 hh;rw [gl, gl];refine bg (aa (cF (ar (ai (sr (mL (mL ?_)))))));replace hh := hh.front 1 rfl;rw [← UF (aU 18446744073709551616 (bN a)), ← Ub (aU 18446744073709551616 (bN a))] at hh;have hll := (hh.Mr (i := 0) rfl);rw [Ub, UF] at hll;refine aF (At [] (aU 18446744073709551616 (bN a)) [] (aU 18446744073709551616 (bN b)) _ hh (fun w1 cs h => h.aC (i := 1) rfl) (jr _) (jr _) TX TX s1) al.out rfl TY ?_;rintro e_ w_ ⟨rfl, hh⟩;refine ⟨_, rfl, ?_⟩;simp only [Ub, UF] at hh;refine aa (sr (mL ?_))
  refine bD hh (hU _ _ _ (rR 18446744073709551616 (aU 18446744073709551616 (bN a)) (aU 18446744073709551616 (bN b)) 0) _ (hh.aC (i := 0) rfl) (LG TX _ _ _) (hh.fI (i := 0) rfl) TX) rfl ?_;intro w20 hh;rw [s2];exact M8
theorem xq (a b : ByteArray) (w : World) (ha : a.size ≤ 1000000000) (hb : b.size ≤ 1000000000) :
  Calls Tryz.prog 234 #[.string a, .string b] w fun e w' => e = .returned (.string (sN (bN a * bN b))) ∧ Below w.heap.size w w' := by
 have hh := Hp.start w;have h1 := fP a;have h2 := fP b;refine aj (N := 37) (l := [.string a, .string b]) Tryz.func234 rfl rfl (by simp) ?_;refine sr (aS (aa (sr (mS ?_))));refine rK ?_;rintro e_ w11 ⟨A11, c11, rfl, hown_, hb_⟩;refine ⟨_, rfl, ?_⟩;replace hh := hh.aW (x := .row _ _ _ _ _ _) hb_ hown_;refine mS ?_;refine Ei ?_;rintro e_ w13 ⟨A13, c13, rfl, hown_, hb_⟩;refine ⟨_, rfl, ?_⟩;replace hh := hh.aW (x := .row _ _ _ _ _ _) hb_ hown_;have hxd := jr (bN a);have hyd := jr (bN b);have hX := gl (bN a);have hY := gl (bN b);generalize aU 18446744073709551616 (bN a) = xs at *;generalize aU 18446744073709551616 (bN b) = ys at *;refine aL (aL (aa (sr (mL (aJ (mL (aJ ?_)))))));refine bj ?_;refine bj ?_;refine gi (n := xs.length + ys.length + 1) hh rfl rfl TX TX bk.out aK.out rfl TX TX TY ?_;intro b20 w20 hh;refine rb ?_;rw [pk] at hh;refine aP [8, 9, 23, 24, 25, 26, 27, 28, 29, 30, 31, 32, 33, 34] 23
  (fun v w' => ∃ (i : Nat) (L : List Nat), i ≤ xs.length ∧ v = .int .i64 i ∧ Dg 18446744073709551616 L ∧ L.length = xs.length + ys.length + 1 ∧ bC 18446744073709551616 L = bC 18446744073709551616 (xs.take i) * bC 18446744073709551616 ys ∧ Hp w [.row (some ⟨b20, 0, none⟩) (xs.length + ys.length + 1) (xs.length + ys.length + 1) 204 1 (cY L), .row (some ⟨A13, 0, none⟩) ys.length c13 204 1 (cY ys), .row (some ⟨A11, 0, none⟩) xs.length c11 204 1 (cY xs)] w')
  (fun v _ => xs.length - (intOf v).toNat) ?_ ?_
 ·exact ⟨0, _, T6 _, rfl, Dg.fO TX _, by simp, by simp [qm, bC], hh⟩
 ·clear hh;rintro ρ' v w' ⟨i, L, hi, rfl, hLd, hLl, hLv, hh⟩;by_cases hlt : i < xs.length
  ·obtain ⟨m, hm⟩ := ak (l := xs) (k := i) TX;have hm2 := ef hm;have hmw := hxd.at_ hm;have hpl : (L.take i).length = i := by rw [Us]; omega
   have hsl : (L.drop i).length = xs.length + ys.length + 1 - i := by rw [Vn]; omega
   refine sr ?_;refine ek ?_;refine gk ?_;refine bT aK.out rfl (hh.fh (i := 2) rfl (by first | assumption | (simp only [Uo]; assumption))) TY ?_;refine aI (aI (aa (ao (mL (mI ?_)))));refine Dd (l := i) bk.out aK.size rfl rfl TX TX TX TX TY ?_;refine mL (mI ?_);have hc := y6 (c' := xs.length + ys.length + 1 - i) (ny := ys.length) (cy := c13) (m := m) (Y := some ⟨A13, 0, none⟩) (L.take i) (L.drop i) [] ys _ (by rw [UF, UZ]; exact hh) (fun w1 cs h => h.aC (i := 1) rfl) (hLd.drop i) hyd hmw TX TX;rw [hpl, hsl, UF] at hc;rw [Uv, Uo];refine aF (hc) al.out rfl TY ?_;rintro e_ w_ ⟨rfl, hh⟩;refine ⟨_, rfl, ?_⟩;have hlt1 := iw (hxd.take (i + 1));have hlt2 := iw hyd;rw [Us, U0 TX] at hlt1;have hsn := fC (B := 18446744073709551616) hm;have hsplit := jc (B := 18446744073709551616) L i TX;have hnew : 18446744073709551616 ^ i * (bC 18446744073709551616 (L.drop i) + bC 18446744073709551616 ys * m + 0) + bC 18446744073709551616 (L.take i) = bC 18446744073709551616 (xs.take (i + 1)) * bC 18446744073709551616 ys := by
    rw [hsn, VV, ← hLv, hsplit, Vu, US, UX, UC m]; omega
   have hbd : bC 18446744073709551616 (L.drop i) + bC 18446744073709551616 ys * m + 0 < 18446744073709551616 ^ (L.drop i).length := by
    refine Nat.lt_of_mul_lt_mul_left (a := 18446744073709551616 ^ i) ?_;rw [← Uu, hsl];refine U8 (Nat.le_add_right _ (bC 18446744073709551616 (L.take i))) ?_;rw [hnew];refine U6 (Nat.mul_lt_mul'' hlt1 hlt2) ?_;rw [← Uu];exact UL TY TX
   have hdp := vX (B := 18446744073709551616) TX _ _ _ _ hbd;refine fM ?_;refine bj (mI (aA (ai ?_)));refine ⟨⟨i + 1, L.take i ++ ie 18446744073709551616 (L.drop i) ys m 0, TX, rfl, (hLd.take i).append (Bv TX _ _ _ _), by rw [Ua, pw, hpl, hsl]; omega, ?_, hh⟩, by show xs.length - (i + 1) < xs.length - i; omega, ?_⟩
   ·rw [eJ, hdp, hpl, VU]; exact hnew
   exact T0
  ·obtain rfl : i = xs.length := TX;rw [WN, hX, hY] at hLv;refine sr ?_;refine nF ?_;refine bD hh (hU _ _ _ L _ (hh.aC (i := 0) rfl) hLd (T5 _) TX) rfl ?_;intro w36 hh;rw [hLv];exact GL
theorem Lz {d r : Nat} (hd : d ≠ 0) (hdw : d < 18446744073709551616) (hn : n = 18446744073709551616 ^ k * (d + 18446744073709551616 * r)) : tz n = 64 * k + tz d := by
 obtain ⟨m, hm⟩ := se hd;have ht : tz d < 64 := wX hd (by simpa using hdw);have hW : (18446744073709551616 : Nat) = 2 ^ 64 := by decide
 generalize tz d = t at *;have e : n = 2 ^ (64 * k + t) * (2 * (m + 2 ^ (63 - t) * r) + 1) := by
  rw [hn, Uu, UO, ← hW, UX];congr 1;have h1 : 18446744073709551616 = 2 ^ t * (2 * 2 ^ (63 - t)) := by rw [hW, ← Nat.pow_succ', ← Uu]; congr 1; omega
  have h2 : 18446744073709551616 * r = 2 ^ t * (2 * 2 ^ (63 - t) * r) := by rw [← UX, ← h1]
  rw [h2]
  conv => lhs; rw [hm]
  rw [← US];congr 1;rw [US, UX]; omega
 rw [e, EH]
theorem jU (a : ByteArray) (w : World) (ha : a.size ≤ 1000000000) (hT : eh w) :
  Calls Tryz.prog 196 #[.string a] w fun e w' => e = .returned (.int .i64 (tz (bN a))) ∧ Below w.heap.size w w' := by
 have hh := Hp.start w;have h1 := fP a;refine aj (N := 21) (l := [.string a]) Tryz.func196 rfl rfl (by simp) ?_;refine sr (aI (aa (ah (sr (mS ?_)))));refine rK ?_;rintro e_ w6 ⟨A6, c6, rfl, hown_, hb_⟩;refine ⟨_, rfl, ?_⟩;replace hh := hh.aW (x := .row _ _ _ _ _ _) hb_ hown_;have hxd := jr (bN a);have hX := gl (bN a);generalize aU 18446744073709551616 (bN a) = xs at *;refine aJ (mI (aa (aq ?_)));refine aP [2, 3, 4, 8, 9, 10, 11, 12, 13, 14, 15, 16, 17, 18, 19, 20] 8
  (fun v w' => ∃ (i : Nat), i ≤ xs.length ∧ v = .int .i64 i ∧ bC 18446744073709551616 (xs.take i) = 0 ∧ Hp w [.row (some ⟨A6, 0, none⟩) xs.length c6 204 1 (cY xs)] w')
  (fun v _ => xs.length - (intOf v).toNat) ?_ ?_
 ·exact ⟨0, T6 _, rfl, rfl, hh⟩
 ·clear hh;rintro ρ' v w' ⟨i, hi, rfl, hz, hh⟩;by_cases hlt : i < xs.length
  ·obtain ⟨d, hm⟩ := ak (l := xs) (k := i) TX;have hm2 := ef hm;have hmw := hxd.at_ hm;by_cases h0 : d = 0
   ·subst h0;refine sr ?_;refine ek ?_;refine gk ?_;refine jn ?_;refine aI (aI (aa (sr (mI ?_))));refine dn (aa (cF (ar (bE (ai (ao ?_))))));refine bj (mI (aA (ai ?_)));refine ⟨⟨i + 1, TX, rfl, by rw [fC hm, hz]; simp, hh⟩, by show xs.length - (i + 1) < xs.length - i; omega, ?_⟩;exact dQ
   ·have htz : tz (bN a) = 64 * i + tz d := by
     have h3 := jc (B := 18446744073709551616) xs i TX;have h4 := (Uk.1 hm);rw [hz, Vj hlt, h4.2, bC, hX, Uv] at h3;exact Lz h0 hmw h3
    have ht : tz d < 64 := wX h0 (by simpa using hmw);refine sr ?_;refine ek ?_;refine gk ?_;refine jn ?_;refine aI (aI (aa (sr (mI ?_))));refine dn (aa (cT (sr (mI ?_))));refine mulC (mI ?_);refine bD hh (CM _ _ hmw h0 (hT.hp hh)) rfl ?_;intro w18 hh;refine bj (aI (aa (au (cd (aG (aG (cd (aG ?_))))))));refine cZ ?_;refine ⟨?_, hh.below⟩;congr 2;omega
  ·refine sr ?_;refine Eo ?_;refine cZ ?_;rw [T9 TX, hX] at hz;rw [hz];exact ⟨rfl, hh.below⟩
theorem KH {x y : Nat} (hx : x < 18446744073709551616 ^ k) (hy : y < 18446744073709551616 ^ k) : bC 18446744073709551616 (ie 18446744073709551616 (aU 18446744073709551616 x ++ List.replicate (k + 1 - (aU 18446744073709551616 x).length) 0) (aU 18446744073709551616 y) 1 0) = x + y := by
 have hl := g9 (B := 18446744073709551616) TX hx;have h1 : bC 18446744073709551616 (aU 18446744073709551616 x ++ List.replicate (k + 1 - (aU 18446744073709551616 x).length) 0) = x := by rw [eJ, qm, gl]; simp
 have h2 : (aU 18446744073709551616 x ++ List.replicate (k + 1 - (aU 18446744073709551616 x).length) 0).length = k + 1 := by rw [Ua, Vt]; omega
 rw [vX TX, h1, gl]
 ·omega
 ·rw [h1, h2, gl, UQ];have : 0 < 18446744073709551616 ^ k := UE TY;omega
theorem qU (l : List Nat) (x : Nat) : (l ++ [x]).sum = l.sum + x := by simp
theorem xo (L : Option Addr) (n c : Nat) (ss : List ByteArray) (w : World) (hS : Sl w L n 1 (lP ss)) (hn : n ≤ 1000000) (hs : ∀ s ∈ ss, s.size ≤ 1000000000) :
  Calls Tryz.prog 230 #[.slice L n c] w fun e w' => e = .returned (.string (sN (ss.map bN).sum)) ∧ Below w.heap.size w w' := by
 have hsl : ss.length = n := by have := hS.1; rw [rA] at this; omega
 have hh := Hp.start w;refine aj (N := 31) (l := [.slice L n c]) Tryz.func230 rfl rfl (by simp) ?_;refine sr (aS (aa (sr (aL (aa (ah (sr (mL (aJ (mI (aa (aq ?_))))))))))));replace hh := hh.de 204 1;refine bK [3, 5, 6, 9, 10, 11, 12, 13, 14, 15, 16, 17, 18, 19, 20, 21, 22, 23, 24, 25, 26, 27, 28] 3 9
  (fun v j w' => ∃ (i : Nat) (A : Option Addr) (c' T : Nat), i ≤ n ∧ j = .int .i64 i ∧ T = ((ss.take i).map bN).sum ∧ v = .slice A (aU 18446744073709551616 T).length c' ∧ (aU 18446744073709551616 T).length ≤ 125000001 + i ∧ Hp w [.row A (aU 18446744073709551616 T).length c' 204 1 (cY (aU 18446744073709551616 T))] w')
  (fun _ j _ => n - (intOf j).toNat) ?_ ?_
 ·exact ⟨0, none, 0, 0, T6 _, rfl, rfl, by rw [fV TX]; rfl, by rw [fV TX]; simp, by rw [fV TX]; exact hh⟩
 ·clear hh;rintro ρ' v j w' ⟨i, A, c', T, hi, rfl, hT, rfl, hTl, hh⟩;by_cases hlt : i < n
  ·obtain ⟨s, hsi⟩ := ak (l := ss) (k := i) TX;obtain ⟨ad, rfl, hr⟩ := hS.at_ TX;have hs2 := Ev hsi;have hsz := hs s (T7 hsi);have hlx := fP s;have hT2 : ((ss.take (i + 1)).map bN).sum = T + bN s := by rw [ay hsi, UU, Wu, qU, hT]
   have e1 : (if ((aU 18446744073709551616 (bN s)).length : Int) > ((aU 18446744073709551616 T).length : Int) then ((aU 18446744073709551616 (bN s)).length : Int) else ((aU 18446744073709551616 T).length : Int)) + 1 = ((max (aU 18446744073709551616 T).length (aU 18446744073709551616 (bN s)).length + 1 : Nat) : Int) := by split <;> omega
   have hb1 : T < 18446744073709551616 ^ max (aU 18446744073709551616 T).length (aU 18446744073709551616 (bN s)).length := U6 (oR TX T) (UL TY (Nat.le_max_left _ _));have hb2 : bN s < 18446744073709551616 ^ max (aU 18446744073709551616 T).length (aU 18446744073709551616 (bN s)).length := U6 (oR TX (bN s)) (UL TY (Nat.le_max_right _ _));have hadd := KH hb1 hb2;refine sr ?_;refine dO ?_;refine da bk.out aK.size rfl rfl rfl TX TY ?_;refine jw ?_;refine aS (aa (sr (mS ?_)));refine aF (oB s _ hsz) al.out rfl TY ?_;rintro e_ w14 ⟨A14, c14, rfl, hown_, hb_⟩;refine ⟨_, rfl, ?_⟩;replace hh := hh.aW (x := .row _ _ _ _ _ _) hb_ hown_;refine aL (aa (sr (mL (mL (aJ (mL (aJ ?_)))))));refine kQ rfl rfl TY ?_;refine bj ?_;rw [e1];generalize hM : max (aU 18446744073709551616 T).length (aU 18446744073709551616 (bN s)).length = M at *;refine aF (nB _ _ _ (M + 1) _ _ (hh.aC (i := 1) rfl) TX TX) al.out rfl TY ?_;rintro e_ w_ ⟨b22, rfl, hown_, hb_⟩;refine ⟨_, rfl, ?_⟩;replace hh := hh.aW (x := .row _ _ _ _ _ _) hb_ hown_;have e2 : max (M + 1) (aU 18446744073709551616 T).length = M + 1 := TX;rw [e2] at hh;rw [e2]
   refine aL (aa (sr (mL (mL ?_))));have hc := BP (c' := M + 1) (ny := (aU 18446744073709551616 (bN s)).length) (cy := c14) (Y := some ⟨A14, 0, none⟩) [] (aU 18446744073709551616 T ++ List.replicate (M + 1 - (aU 18446744073709551616 T).length) 0) [] (aU 18446744073709551616 (bN s)) _ (by rw [UF, Ub]; exact hh) (fun w1 cs h => h.aC (i := 1) rfl) ((jr _).append (Dg.fO TX _)) (jr _) (by rw [Ua, Vt]; omega) TX;have e3 : (aU 18446744073709551616 T ++ List.replicate (M + 1 - (aU 18446744073709551616 T).length) 0).length = M + 1 := by rw [Ua, Vt]; omega
   rw [e3, UF, Ub] at hc;refine aF (hc) al.out rfl TY ?_;rintro e_ w_ ⟨rfl, hh⟩;refine ⟨_, rfl, ?_⟩;have hpl : (ie 18446744073709551616 (aU 18446744073709551616 T ++ List.replicate (M + 1 - (aU 18446744073709551616 T).length) 0) (aU 18446744073709551616 (bN s)) 1 0).length = M + 1 := by rw [pw, e3]
   have hpd := Bv (B := 18446744073709551616) TX (aU 18446744073709551616 T ++ List.replicate (M + 1 - (aU 18446744073709551616 T).length) 0) (aU 18446744073709551616 (bN s)) 1 0;generalize ie 18446744073709551616 (aU 18446744073709551616 T ++ List.replicate (M + 1 - (aU 18446744073709551616 T).length) 0) (aU 18446744073709551616 (bN s)) 1 0 = Z at *;have hcz : dH Z = aU 18446744073709551616 (T + bN s) := by rw [ig TX hpd, hadd]
   have hcl := ff Z;refine aa (ao (mL ?_));refine bD hh (ic _ _ _ Z _ (hh.aC (i := 0) rfl) (T5 _) TX) rfl ?_;intro w27 hh;replace hh := (hh.E0 hpl).sub (Wl [_] _);rw [hcz] at *;refine kN ?_;refine bj (mI (aA (ai ?_)));refine ⟨⟨i + 1, _, _, T + bN s, TX, rfl, hT2.symm, rfl, TX, hh⟩, by show n - (i + 1) < n - i; omega, ?_⟩;exact dQ
  ·refine sr ?_;refine nF ?_;refine bD hh (hU _ _ _ (aU 18446744073709551616 T) _ (hh.aC (i := 0) rfl) (jr _) (hh.fI (i := 0) rfl) TX) rfl ?_;intro w30 hh;rw [gl];exact R1
theorem Cn (s : ByteArray) (l h : Nat) : s.extract l h = str ((s.data.toList.take h).drop l) := by
 apply tT;rw [dv];simp [ByteArray.extract, ByteArray.copySlice, List.drop_take]
def P6 : Value → Nat
 | .string t => t.size
 | _ => 0
theorem td (s : ByteArray) (w : World) :
  Calls Tryz.prog 263 #[.string s, .int .u8 ((0 : UInt8).toNat : Int)] w fun e w' => e = .returned (.string (sN (bN s))) ∧ Below w.heap.size w w' := by
 have hh := Hp.start w;refine aj (N := 17) (l := [.string s, .int .u8 ((0 : UInt8).toNat : Int)]) Tryz.func263 rfl rfl (by simp) ?_;refine sr (aS (aa (ah (aq ?_))));refine aP [0, 5, 6, 7, 8, 9, 10, 11, 12, 13, 14, 15] 0
  (fun v w' => ∃ l : List UInt8, v = .string (str l) ∧ l.length ≤ s.size ∧ bn l = bN s ∧ w' = w)
  (fun v _ => P6 v) ?_ ?_
 ·exact ⟨s.data.toList, by rw [Ph]; rfl, by rw [dE]; exact T5 _, rfl, rfl⟩
 ·rintro ρ' v w' ⟨l, rfl, hl, hb, rfl⟩;have hsz := lk l
  cases l with
  | nil =>
   refine ah (sr (mS ?_));refine bI bk.out rfl TY ?_;refine cm (mB ?_);refine gS (gS (gS (gS ?_)));refine e7 ?_;refine aa (cF (a6 (aD (aD (bB (ai (sr (mS (aS (aa (au ?_)))))))))));refine cZ ?_;rw [sN, ← hb];exact ⟨rfl, hh.below⟩
  | cons c l =>
   have hc0 : (str (c :: l)).data.toList[(0 : Int).toNat]? = some c := by rw [dv]; rfl
   have hc8 := c.toNat_lt;have hlen : (str (c :: l)).size = l.length + 1 := by rw [hsz]; rfl
   have hz : (0 : UInt8).toNat = 0 := rfl;by_cases h0 : c = 0
   ·subst h0;refine ah (sr (mS ?_));refine bI bk.out rfl TY ?_;refine cm (mB (gT (mS (gT ?_))));refine j0 ?_;refine gT (mI (gT ?_));refine db ?_;refine fL ?_;refine aa (cT (ar (ai (aq (ao (mS ?_))))));refine rg (l := 1) (h := (str ((0 : UInt8) :: l)).size) bk.out rfl ⟨_, _, rfl, TX⟩ rfl TX TX TY ?_;refine aS (aA (bE (ai ?_)));rw [Cn, dv, T9 (by rw [hlen]; simp), List.drop_succ_cons, W0];refine ⟨⟨l, rfl, by simp at hl; omega, by rw [← hb, IE], rfl⟩, ?_, ?_⟩
    ·show (str l).size < (str (0 :: l)).size;rw [hlen, lk]; omega
    exact T0
   ·have hcn : c.toNat ≠ 0 := fun h => h0 (WV.1 h);refine ah (sr (mS ?_));refine bI bk.out rfl TY ?_;refine cm (mB (gT (mS (gT ?_))));refine j0 ?_;refine gT (mI (gT ?_));refine db ?_;refine fL ?_;refine aa (cF (a6 (aD (aD (bB (ai (sr (mS (aS (aa (au ?_)))))))))));refine cZ ?_;rw [sN, ← hb, QH (by simpa using h0)];exact ⟨rfl, hh.below⟩
theorem uM (s : ByteArray) (w : World) :
  Calls Tryz.prog 254 #[.string s, .string (ByteArray.mk #[0])] w fun e w' => e = .returned (.string (sN (bN s))) ∧ Below w.heap.size w w' := by
 have hh := Hp.start w;have hne : ¬ ByteArray.mk #[(0 : UInt8)] = ByteArray.mk #[] := by intro h; injection h with h; simp at h
 have hsz1 : (ByteArray.mk #[(0 : UInt8)]).size = 1 := rfl;have hc0 : (ByteArray.mk #[(0 : UInt8)]).data.toList[(0 : Int).toNat]? = some 0 := rfl;have hz : (0 : UInt8).toNat = 0 := rfl;by_cases h0 : s = ByteArray.mk #[]
 ·subst h0;refine aj (N := 37) (l := [.string (ByteArray.mk #[]), .string (ByteArray.mk #[0])]) Tryz.func254 rfl rfl (by simp) ?_;refine sr (aS (aa (ah (sr (mS ?_)))));refine kx rfl rfl (by first | rfl | assumption | decide) TY ?_;refine mB ?_;refine gS (gS ?_);refine fL ?_;refine aa (cT (sr (mS (aS (aa (au (aG ?_)))))));refine cZ ?_;rw [show bN (ByteArray.mk #[]) = 0 from rfl, mX];exact ⟨rfl, hh.below⟩
 ·refine aj (N := 37) (l := [.string s, .string (ByteArray.mk #[0])]) Tryz.func254 rfl rfl (by simp) ?_;refine sr (aS (aa (ah (sr (mS ?_)))));refine j9 rfl rfl (by first | assumption | decide) TY ?_;refine mB (gT (mS (gT ?_)))
  (first | refine kx rfl rfl (by first | rfl | assumption | decide) TY ?_ | refine j9 rfl rfl (by first | assumption | decide) TY ?_)
  refine e7 ?_;refine aa (cF (ar (ai (ah (sr (mS ?_))))));refine bI bk.out rfl TY ?_;refine db (mB (gT (mS (gT ?_))));refine j0 ?_;refine gT ?_;refine bg ?_;refine fL ?_;refine aa (cT (sr (mS (mS ?_))));refine j0 ?_;refine bD hh (td s _) rfl ?_;intro w25 hh;refine aS (aa (au (aG ?_)));refine cZ ?_;exact ⟨rfl, hh.below⟩
theorem kC (s : ByteArray) (w : World) :
  Calls Tryz.prog 233 #[.string s] w fun e w' => e = .returned (.string (sN (bN s))) ∧ Below w.heap.size w w' := by
 have hh := Hp.start w;refine aj (N := 5) (l := [.string s]) Tryz.func233 rfl rfl (by simp) ?_;refine sr (aS (aa (sr (mS ?_))));refine bD hh (uM s _) rfl ?_;intro w4 hh;exact GL
variable {z : Int}
def iv (s : Bool) (m : ByteArray) : Int := if s then -(bN m : Int) else bN m
def iN (z : Int) : Bool := decide (z < 0)
def iM (z : Int) : ByteArray := sN z.natAbs
theorem e9 (z : Int) : iv (iN z) (iM z) = z := by
 unfold iv iN iM;rw [eU];by_cases h : z < 0
 ·rw [Um h, T2 rfl]; omega
 ·rw [UB h, T3 (by simp)]; omega
theorem r8 : iM z = ByteArray.mk #[] ↔ z = 0 := by
 rw [iM, ← mX];constructor
 ·intro h; have := JD h; omega
 ·intro h; rw [h]; rfl
theorem j2 (s : Bool) (m : ByteArray) : (iv s m).natAbs = bN m := by
 unfold iv; split <;> omega
theorem DB (s : Bool) (m : ByteArray) : iM (iv s m) = sN (bN m) := by rw [iM, j2]
theorem NZ (s : Bool) (m : ByteArray) : iN (iv s m) = (s && decide (bN m ≠ 0)) := by
 unfold iN iv;rw [Bool.eq_iff_iff, Uj, Up, Up]
 cases s
 ·simp only [Xc, if_false, false_and, iff_false]; omega
 ·simp only [if_true, true_and]; omega
theorem jC (s : Bool) (m : ByteArray) (w : World) :
  Calls Tryz.prog 199 #[.agg #[.bool s, .string m]] w fun e w' => e = .returned (.agg #[.string m, .bool s]) ∧ Below w.heap.size w w' := by
 have hh := Hp.start w;refine aj (N := 8) (l := [.agg #[.bool s, .string m]]) Tryz.func199 rfl rfl (by simp) ?_;refine sr ?_;refine cD hh [_,_] ?_;intro b1 w1 hh;refine bV hh ?_;intro b2 w2 hh;refine aa (sr (bH ?_));refine bG hh 1 ?_;refine bH ?_;refine bG hh 1 ?_;refine gB [_,_] ?_;exact MG
theorem dr (s : Bool) (m : ByteArray) (w : World) :
  Calls Tryz.prog 200 #[.agg #[.string m, .bool s]] w fun e w' => e = .returned (.agg #[.bool (iN (iv s m)), .string (iM (iv s m))]) ∧ Below w.heap.size w w' := by
 have hh := Hp.start w;rw [NZ, DB]
 cases s with
 | false =>
  refine aj (N := 15) (l := [.agg #[.string m, .bool false]]) Tryz.func200 rfl rfl (by simp) ?_;refine sr ?_;refine cD hh [_,_] ?_;intro b1 w1 hh;refine bV hh ?_;intro b2 w2 hh;refine aa (sr (bH ?_));refine bG hh 1 ?_;refine bD hh (kC m _) rfl ?_;intro w6 hh;refine aS (aa (sr (bH ?_)));refine bG hh 1 ?_;refine mB ?_;refine gS (gS ?_);refine e7 ?_;refine mS ?_;refine gB [_,_] ?_;exact MG
 | true =>
  by_cases h0 : sN (bN m) = ByteArray.mk #[]
  ·refine aj (N := 15) (l := [.agg #[.string m, .bool true]]) Tryz.func200 rfl rfl (by simp) ?_;refine sr ?_;refine cD hh [_,_] ?_;intro b1 w1 hh;refine bV hh ?_;intro b2 w2 hh;refine aa (sr (bH ?_));refine bG hh 1 ?_;refine bD hh (kC m _) rfl ?_;intro w6 hh;refine aS (aa (sr (bH ?_)));refine bG hh 1 ?_;refine mB (gT (mS (gT ?_)))
   (first | refine kv rfl rfl (by first | rfl | assumption | decide) TY ?_ | refine km rfl rfl (by first | assumption | decide) TY ?_)
   refine fL ?_;refine mS ?_;refine gB [_,_] ?_;refine bW hh 0 [_,_] ?_;intro ws hh;replace hh : Hp _ (.blk _ _ [_, _] _ :: _) _ := hh;refine aa (au ?_);refine oZ ?_;exact QJ
  ·refine aj (N := 15) (l := [.agg #[.string m, .bool true]]) Tryz.func200 rfl rfl (by simp) ?_;refine sr ?_;refine cD hh [_,_] ?_;intro b1 w1 hh;refine bV hh ?_;intro b2 w2 hh;refine aa (sr (bH ?_));refine bG hh 1 ?_;refine bD hh (kC m _) rfl ?_;intro w6 hh;refine aS (aa (sr (bH ?_)));refine bG hh 1 ?_;refine mB (gT (mS (gT ?_)))
   (first | refine kv rfl rfl (by first | rfl | assumption | decide) TY ?_ | refine km rfl rfl (by first | assumption | decide) TY ?_)
   refine fL ?_;refine mS ?_;refine gB [_,_] ?_;refine bW hh 0 [_,_] ?_;intro ws hh;replace hh : Hp _ (.blk _ _ [_, _] _ :: _) _ := hh;refine aa (au ?_);refine oZ ?_;exact M5
def Tv (s : Bool) (m : ByteArray) : Value := .agg #[.string m, .bool s]
theorem sW (a b : ByteArray) (w : World) (ha : a.size ≤ 1000000000) (hb : b.size ≤ 1000000000) :
  Calls Tryz.prog 231 #[.string a, .string b] w fun e w' => e = .returned (.int .i64 (lj (bN a) (bN b))) ∧ Below w.heap.size w w' := by
 have hh := Hp.start w;refine aj (N := 8) (l := [.string a, .string b]) Tryz.func231 rfl rfl (by simp) ?_;refine sr (aI (aa (sr (mS (mS ?_)))));refine bD hh (xZ a b _ ha hb) rfl ?_;intro w7 hh;exact Aj
theorem mF (s : Bool) (m : ByteArray) (w : World) :
  Calls Tryz.prog 223 #[.agg #[.bool s, .string m]] w fun e w' => e = .returned (.agg #[.bool (iN (iv s m)), .string (iM (iv s m))]) ∧ Below w.heap.size w w' := by
 have hh := Hp.start w;refine aj (N := 6) (l := [.agg #[.bool s, .string m]]) Tryz.func223 rfl rfl (by simp) ?_;refine sr ?_;refine cD hh [_,_] ?_;intro b1 w1 hh;refine bV hh ?_;intro b2 w2 hh;refine aa (sr ?_);refine cG hh 1 [_,_] ?_;refine bD hh (jC s m _) rfl ?_;intro w4 hh;refine bD hh (dr s m _) rfl ?_;intro w5 hh;exact MG
theorem tN (s : Bool) (m : ByteArray) (w : World) :
  Calls Tryz.prog 185 #[.agg #[.bool s, .string m]] w fun e w' => e = .returned (.agg #[.bool (iN (-(iv s m))), .string (iM (-(iv s m)))]) ∧ Below w.heap.size w w' := by
 have hh := Hp.start w;have e1 : iv (!s) m = -(iv s m) := by unfold iv; cases s <;> simp
 refine aj (N := 10) (l := [.agg #[.bool s, .string m]]) Tryz.func185 rfl rfl (by simp) ?_;refine sr ?_;refine cD hh [_,_] ?_;intro b1 w1 hh;refine bV hh ?_;intro b2 w2 hh;refine aa (sr (bH ?_));refine bG hh 1 ?_;refine bH ?_;refine bG hh 1 ?_;refine fm ?_;refine gB [_,_] ?_;refine bD hh (dr (!s) m _) rfl ?_;intro w9 hh;rw [e1];exact MG
theorem kn (s : Bool) (m : ByteArray) (w : World) :
  Calls Tryz.prog 195 #[.agg #[.bool s, .string m]] w fun e w' => e = .returned (.int .i64 (iv s m).sign) ∧ Below w.heap.size w w' := by
 have hh := Hp.start w;by_cases h1 : iv s m < 0
 ·have hn : iN (iv s m) = true := Um h1;refine GX ?_;refine sr ?_;refine cD hh [_,_] ?_;intro b1 w1 hh;refine aI (aa (sr ?_));refine cG hh 0 [_,_] ?_;refine bD hh (mF s m _) rfl ?_;intro w5 hh;rw [hn];refine bV hh ?_;intro b3 w3 hh;refine bW hh 0 [_,_] ?_;intro ws hh;replace hh : Hp _ (.blk _ _ [_, _] _ :: _) _ := hh;refine aa (ah (aq (sr (bH ?_))));refine bG hh 0 ?_;refine EG ?_;refine cZ ?_;exact ⟨by rw [VB h1], hh.below⟩
 ·have hn : iN (iv s m) = false := UB h1;by_cases h0 : iM (iv s m) = ByteArray.mk #[]
  ·refine GX ?_;refine sr ?_;refine cD hh [_,_] ?_;intro b1 w1 hh;refine aI (aa (sr ?_));refine cG hh 0 [_,_] ?_;refine bD hh (mF s m _) rfl ?_;intro w5 hh;rw [hn];refine bV hh ?_;intro b3 w3 hh;refine bW hh 0 [_,_] ?_;intro ws hh;replace hh : Hp _ (.blk _ _ [_, _] _ :: _) _ := hh;refine aa (ah (aq (sr (bH ?_))));refine bG hh 0 ?_;refine aB (aa (cF (sr (bH ?_))));refine bG hh 0 ?_;refine kx rfl rfl (by first | rfl | assumption | decide) TY ?_;refine EG ?_;refine cZ ?_;exact ⟨by rw [r8.1 h0]; rfl, hh.below⟩
  ·have h2 : 0 < iv s m := by
    have : iv s m ≠ 0 := fun h => h0 (r8.2 h);omega
   refine GX ?_;refine sr ?_;refine cD hh [_,_] ?_;intro b1 w1 hh;refine aI (aa (sr ?_));refine cG hh 0 [_,_] ?_;refine bD hh (mF s m _) rfl ?_;intro w5 hh;rw [hn];refine bV hh ?_;intro b3 w3 hh;refine bW hh 0 [_,_] ?_;intro ws hh;replace hh : Hp _ (.blk _ _ [_, _] _ :: _) _ := hh;refine aa (ah (aq (sr (bH ?_))));refine bG hh 0 ?_;refine aB (aa (cF (sr (bH ?_))));refine bG hh 0 ?_;refine j9 rfl rfl (by first | assumption | decide) TY ?_;refine aB (aa (cF (ar (bE (ai (sr (aI (aa (au ?_)))))))));refine cZ ?_;exact ⟨by rw [VA h2], hh.below⟩
theorem dP (z : Int) : (iM z).size = (bF z.natAbs + 7) / 8 := lW _
def wM (s t : Bool) (a b : ByteArray) : Bool := if s = t then s else if bN a < bN b then t else s
theorem Lt (s t : Bool) (a b : ByteArray) : iv (wM s t a b) (iM (iv s a + iv t b)) = iv s a + iv t b := by
 unfold iM iv;rw [eU];unfold wM
 cases s <;> cases t <;> simp <;> (try split) <;> (try simp) <;> omega
theorem zh (s t : Bool) (a b : ByteArray) : iv (s != t) (iM (iv s a * iv t b)) = iv s a * iv t b := by
 rw [iM, V5, j2, j2];unfold iv;rw [eU]
 cases s <;> cases t <;> simp [Int.mul_neg, Int.neg_mul]
theorem As (s t : Bool) (a b : ByteArray) (w : World) (ha : a.size ≤ 1000000000) (hb : b.size ≤ 1000000000) :
  Calls Tryz.prog 198 #[.agg #[.string a, .bool s], .agg #[.string b, .bool t]] w fun e w' => e = .returned (.agg #[.string (iM (iv s a + iv t b)), .bool (wM s t a b)]) ∧ Below w.heap.size w w' := by
 have hh := Hp.start w;have hiv : ∀ (u : Bool) (n : Nat) (z : Int), (z = if u then -(n : Int) else n) → sN n = iM z := by
  intro u n z hz;have h1 : z.natAbs = n := by rw [hz]; split <;> omega
  rw [iM, h1]
 by_cases hst : s = t
 ·subst hst;have e1 := hiv s (bN a + bN b) (iv s a + iv s b) (by unfold iv; split <;> omega);refine aj (N := 41) (l := [.agg #[.string a, .bool s], .agg #[.string b, .bool s]]) Tryz.func198 rfl rfl (by simp) ?_;refine sr ?_;refine cD hh [_,_] ?_;intro b2 w2 hh;refine cD hh [_,_] ?_;intro b3 w3 hh;refine bV hh ?_;intro b4 w4 hh;refine aa (ah (sr (bH ?_)));refine bG hh 2 ?_;refine bH ?_;refine bG hh 1 ?_;refine Fg bk.out rfl rfl (by first | rfl | assumption) TY ?_;refine aa (cT (ah ?_));refine aV 8 [[(2, none)], [(12, some 0)], [(3, none)], [(14, some 2)], [(13, some 1), (15, some 3)], [(16, some 4)], [(2, none)], [(18, some 6)]] [(7, 19), (6, 18), (5, 17), (4, 16), (3, 15), (2, 14), (1, 13), (0, 12)] hh mixed TZ ?_;refine ej ?_;refine fY 2 ?_;refine ej ?_;refine fY 1 ?_;refine tQ [_,_] ?_;refine aT (i := 5) (Is (.string (sN (bN a + bN b)))) Is.ext ?_ ?_
  ·intro ρ1 w1 hj hR;obtain ⟨A16, c16, h16, s16⟩ := hR.1;exact bf rfl (aO al.out (aw h16 aZ)) (xo A16 2 c16 [a, b] _ s16 TX (by simp; omega)) (fun _ _ hq => ⟨_, hq.1, hq.2, rfl⟩)
  refine ej ?_;refine fY 2 ?_;refine aR ?_;intro f W hJ hV;have hb_2 := hJ.bl;obtain ⟨v19, v18, v17, v16, v15, v14, v13, v12, _⟩ := hV;obtain ⟨A16, c16, e16, f16⟩ : Rows _ _ _ (f 4) W := v16;replace hh := hJ.hp;refine aY (br (ae v19 (ae v18 (ae v17 (ae e16 (ae v15 (ae v14 (ae v13 (ae v12 aX))))))))) ?_;dsimp only [cf];clear e16 hJ;refine gB [_,_] ?_;refine bW hh 0 [_,_] ?_;intro ws hh;replace hh : Hp _ (.blk _ _ [_, _] _ :: _) _ := hh;refine aa (au (aG ?_));refine oZ ?_;rw [e1, wM, T2 rfl];exact ⟨rfl, hh.below⟩
 ·by_cases hlt : bN a < bN b
  ·have e1 := hiv t (bN b - bN a) (iv s a + iv t b) (by unfold iv; cases s <;> cases t <;> simp at hst ⊢ <;> omega);refine aj (N := 41) (l := [.agg #[.string a, .bool s], .agg #[.string b, .bool t]]) Tryz.func198 rfl rfl (by simp) ?_;refine sr ?_;refine cD hh [_,_] ?_;intro b2 w2 hh;refine cD hh [_,_] ?_;intro b3 w3 hh;refine bV hh ?_;intro b4 w4 hh;refine aa (ah (sr (bH ?_)));refine bG hh 2 ?_;refine bH ?_;refine bG hh 1 ?_;refine Dw ?_;refine Dt ?_;refine bG hh 2 ?_;refine bH ?_;refine bG hh 1 ?_;refine bD hh (sW a b _ ha hb) rfl ?_;intro w25 hh;rw [lK hlt];refine bg (aa (cT (ao ?_)));refine cG hh 1 [_,_] ?_;refine cG hh 2 [_,_] ?_;refine bW hh 2 [_,_] ?_;intro ws hh;replace hh : Hp _ (_ :: _ :: .blk _ _ [_, _] _ :: _) _ := hh;refine bW hh 1 [_,_] ?_;intro ws hh;replace hh : Hp _ (_ :: .blk _ _ [_, _] _ :: _) _ := hh;refine aa (sr (bH ?_));refine bG hh 2 ?_;refine bH ?_;refine bG hh 1 ?_;refine bD hh (oF b a _ hb ha) rfl ?_;intro w34 hh;refine mT ?_;refine du ?_;refine du ?_;refine aS (aB (aa (sr (mS (bH ?_)))));refine bG hh 2 ?_;refine gB [_,_] ?_;refine bW hh 0 [_,_] ?_;intro ws hh;replace hh : Hp _ (.blk _ _ [_, _] _ :: _) _ := hh;refine aa (au ?_);refine oZ ?_
   rw [e1, wM, T3 hst, T2 hlt];exact ⟨rfl, hh.below⟩
  ·have e1 := hiv s (bN a - bN b) (iv s a + iv t b) (by unfold iv; cases s <;> cases t <;> simp at hst ⊢ <;> omega);have hc : ¬ lj (bN a) (bN b) < 0 := by unfold lj; split <;> (try split) <;> omega
   refine aj (N := 41) (l := [.agg #[.string a, .bool s], .agg #[.string b, .bool t]]) Tryz.func198 rfl rfl (by simp) ?_;refine sr ?_;refine cD hh [_,_] ?_;intro b2 w2 hh;refine cD hh [_,_] ?_;intro b3 w3 hh;refine bV hh ?_;intro b4 w4 hh;refine aa (ah (sr (bH ?_)));refine bG hh 2 ?_;refine bH ?_;refine bG hh 1 ?_;refine Dw ?_;refine Dt ?_;refine bG hh 2 ?_;refine bH ?_;refine bG hh 1 ?_;refine bD hh (sW a b _ ha hb) rfl ?_;intro w25 hh;refine bg (aa (cF (ar (ai (sr (bH ?_))))));refine bG hh 2 ?_;refine bH ?_;refine bG hh 1 ?_;refine bD hh (oF a b _ ha hb) rfl ?_;intro w34 hh;refine mT ?_;refine du ?_;refine du ?_;refine aS (aB (aa (sr (mS (bH ?_)))));refine bG hh 2 ?_;refine gB [_,_] ?_;refine bW hh 0 [_,_] ?_;intro ws hh;replace hh : Hp _ (.blk _ _ [_, _] _ :: _) _ := hh;refine aa (au ?_);refine oZ ?_;rw [e1, wM, T3 hst, T3 hlt];exact ⟨rfl, hh.below⟩
theorem pe (s t : Bool) (a b : ByteArray) (w : World) (ha : a.size ≤ 1000000000) (hb : b.size ≤ 1000000000) :
  Calls Tryz.prog 201 #[.agg #[.string a, .bool s], .agg #[.string b, .bool t]] w fun e w' => e = .returned (.agg #[.string (iM (iv s a * iv t b)), .bool (s != t)]) ∧ Below w.heap.size w w' := by
 have hh := Hp.start w;have e0 : (iv s a * iv t b).natAbs = bN a * bN b := by rw [V5, j2, j2]
 have e1 : iM (iv s a * iv t b) = sN (bN a * bN b) := by rw [iM, e0]
 refine aj (N := 16) (l := [.agg #[.string a, .bool s], .agg #[.string b, .bool t]]) Tryz.func201 rfl rfl (by simp) ?_;refine sr ?_;refine cD hh [_,_] ?_;intro b2 w2 hh;refine cD hh [_,_] ?_;intro b3 w3 hh;refine bV hh ?_;intro b4 w4 hh;refine aa (ah ?_);refine aV 10 [[(2, none)], [(5, some 0)], [(3, none)], [(7, some 2)], [(6, some 1), (8, some 3)], [(2, none)], [(10, some 5)], [(3, none)], [(12, some 7)], [(11, some 6), (13, some 8)]] [(9, 14), (8, 13), (7, 12), (6, 11), (5, 10), (4, 9), (3, 8), (2, 7), (1, 6), (0, 5)] hh mixed TZ ?_;refine ej ?_;refine fY 2 ?_;refine ej ?_;refine fY 1 ?_;refine dC (fun _ hj => xq a b _ ha hb) ?_;refine ej ?_;refine fY 2 ?_;refine ej ?_;refine fY 1 ?_;refine bu (i := 9) (fun ρ1 w1 hj hR => nM bk.out (show ρ1 11 = Value.bool _ from hR.1) (show ρ1 13 = Value.bool _ from hR.2.1)) ?_;refine aR ?_;intro f W hJ hV;have hb_1 := hJ.bl;obtain ⟨v14, v13, v12, v11, v10, v9, v8, v7, v6, v5, _⟩ := hV;replace hh := hJ.hp;refine Ng ?_;dsimp only [cf];clear hJ;refine gB [_,_] ?_;refine bW hh 0 [_,_] ?_;intro ws hh;replace hh : Hp _ (.blk _ _ [_, _] _ :: _) _ := hh;refine aa (au ?_);refine oZ ?_;rw [e1];exact ⟨rfl, hh.below⟩
theorem m0 (n : Int) (w : World) (h1 : -9223372036854775808 ≤ n) (h2 : n ≤ 9223372036854775807) :
  Calls Tryz.prog 140 #[.int .i64 n] w fun e w' => e = .returned (.agg #[.bool (iN n), .string (iM n)]) ∧ Below w.heap.size w w' := by
 have hh := Hp.start w;by_cases h0 : n < 0
 ·have e1 : iv true (sN n.natAbs) = n := by unfold iv; rw [eU, T2 rfl]; omega
  have hw : IntKind.u64.wrap n = ((18446744073709551616 - n.natAbs : Nat) : Int) := by
   rw [show n = ((18446744073709551616 - n.natAbs : Nat) : Int) + -((18446744073709551616 : Nat) : Int) by omega];have := UK.wrap_add (k := .u64) (((18446744073709551616 - n.natAbs : Nat) : Int) + -((18446744073709551616 : Nat) : Int));rw [← this, Int.neg_add_cancel_right, UK.pj TX];omega
  have hn : (18446744073709551616 - (18446744073709551616 - n.natAbs)) % 18446744073709551616 = n.natAbs := TX;refine aj (N := 16) (l := [.int .i64 n]) Tryz.func140 rfl rfl (by simp) ?_;refine sr ?_;refine bV hh ?_;intro b2 w2 hh;refine aa (ah (sr (mI ?_)));refine bg (aa (cT (sr (mI ?_))));refine uI bk.out bk.out rfl TY ?_;rw [hw];refine Jv rfl TX TY ?_;rw [hn];skip;refine bD hh (rF n.natAbs _ TX) rfl ?_;intro w8 hh;refine gB [_,_] ?_;refine bD hh (dr true (sN n.natAbs) _) rfl ?_;intro w10 hh;rw [e1];exact DK
 ·obtain ⟨m, rfl⟩ := W9 (by omega : 0 ≤ n);have e1 : iv false (sN m) = m := by unfold iv; rw [eU]; simp
  have hm : m < 18446744073709551616 := TX;refine aj (N := 16) (l := [.int .i64 (m : Int)]) Tryz.func140 rfl rfl (by simp) ?_;refine sr ?_;refine bV hh ?_;intro b2 w2 hh;refine aa (ah (sr (mI ?_)));refine bg (aa (cF (ar (ai (sr (mI ?_))))));refine l4 ?_;refine bD hh (rF m _ hm) rfl ?_;intro w13 hh;refine gB [_,_] ?_;refine bD hh (dr false (sN m) _) rfl ?_;intro w15 hh;rw [e1];exact MG
structure IR where
 neg : Bool
 bz : ByteArray
def IR.cells (a : IR) : List Value := [.bool a.neg, .string a.bz]
def IR.v (a : IR) : Int := iv a.neg a.bz
def iR (z : Int) : IR := ⟨iN z, iM z⟩
theorem RI (z : Int) : (iR z).v = z := e9 z
theorem IR.len (a : IR) : a.cells.length = 2 := rfl
theorem oK (x y : Int) : bF (x + y).natAbs ≤ max (bF x.natAbs) (bF y.natAbs) + 1 := by
 apply dx;have h1 := dm x.natAbs;have h2 := dm y.natAbs;have h3 : 2 ^ bF x.natAbs ≤ 2 ^ max (bF x.natAbs) (bF y.natAbs) := UL TX (Nat.le_max_left _ _);have h4 : 2 ^ bF y.natAbs ≤ 2 ^ max (bF x.natAbs) (bF y.natAbs) := UL TX (Nat.le_max_right _ _);rw [UQ];omega
theorem kq (s : Bool) (m : ByteArray) : bF (iv s m).natAbs ≤ 8 * m.size := by rw [j2]; exact gI m
theorem GJ (l : List Int) (x : Int) : (l ++ [x]).sum = l.sum + x := by simp
theorem sG (L : Option Addr) (n c : Nat) (l : List IR) (w : World) (hS : Sl w L n 2 (az IR.cells l)) (hn : n ≤ 1000000) (hs : ∀ s ∈ l, s.bz.size ≤ 100000000) :
  Calls Tryz.prog 138 #[.slice L n c] w fun e w' => e = .returned (.agg #[.bool (iN (l.map IR.v).sum), .string (iM (l.map IR.v).sum)]) ∧ Below w.heap.size w w' := by
 have hl := hS.bq IR.len TX;have hh := Hp.start w;refine aj (N := 19) (l := [.slice L n c]) Tryz.func138 rfl rfl (by simp) ?_;refine sr ?_;refine bV hh ?_;intro b2 w2 hh;refine aa (sr ?_);refine bV hh ?_;intro b3 w3 hh;refine vS ?_;refine aP [5, 8, 9, 10, 11, 12, 13, 14, 15, 16] 8
  (fun j w' => ∃ (i : Nat) (u : Bool) (S : Int), i ≤ n ∧ j = .int .i64 i ∧ S = ((l.take i).map IR.v).sum ∧ iv u (iM S) = S ∧ bF S.natAbs ≤ 800000000 + i ∧ Hp w [.blk b3 199 [.string (iM S), .bool u] (0, 0), .blk b2 63 [.bool false, .string (ByteArray.mk #[])] (0, 0)] w')
  (fun j _ => n - (intOf j).toNat) ?_ ?_
 ·exact ⟨0, false, 0, T6 _, rfl, rfl, by rw [iM]; exact U9 _ (eU 0), by simp [k0], by rw [iM, Int.natAbs_zero, mX]; exact hh⟩
 ·clear hh;rintro ρ' j w' ⟨i, u, S, hi, rfl, hS2, hu, hb, hh⟩;by_cases hlt : i < n
  ·obtain ⟨x, hx⟩ := ak (l := l) (k := i) TX;obtain ⟨ad, rfl, hr⟩ := hS.at_ TX;have hxs := hs x (T7 hx);have hS3 : ((l.take (i + 1)).map IR.v).sum = S + x.v := by rw [ay hx, UU, Wu, GJ, hS2]
   have hms : (iM S).size ≤ 1000000000 := by rw [dP]; omega
   have hbx := kq x.neg x.bz;have hba := oK S x.v;have hpl := Lt u x.neg (iM S) x.bz;rw [hu] at hpl;have hwc := fun w1 => As u x.neg (iM S) x.bz w1 hms TX;rw [hu] at hwc;refine sr ?_;refine dO ?_;refine cu ?_;refine cw (vs := [_, _]) aK.out rfl (((hr.ext hh.below).recAt IR.len hx)) rfl TY ?_;refine bV hh ?_;intro b5 w5 hh;refine bW hh 0 [_,_] ?_;intro ws hh;replace hh : Hp _ (.blk _ _ [_, _] _ :: _) _ := hh;refine aa ?_;refine aV 3 [[(3, none)], [(5, none)], [(13, some 1)]] [(2, 14), (1, 13), (0, 12)] hh mixed TZ ?_;refine fU 1 [_,_] ?_;refine fU 0 [_,_] ?_;refine dC (fun _ hj => jC x.neg x.bz _) ?_;refine aR ?_;intro f W hJ hV;have hb_5 := hJ.bl;obtain ⟨v14, v13, v12, _⟩ := hV;replace hh := hJ.hp;refine aY (br (ae v14 (ae v13 (ae v12 aX)))) ?_;dsimp only [cf];clear hJ;refine bD hh (hwc _) rfl ?_;intro w15 hh;exact N9
  ·refine sr ?_;refine mM ?_;refine cG hh 0 [_,_] ?_;refine bD hh (dr u (iM S) _) rfl ?_;intro w18 hh;exact Qq
theorem q8 (s : Bool) (b : ByteArray) : (iM (-(iv s b))).size ≤ b.size := by
 have := kq s b;rw [dP, Int.natAbs_neg]; omega
theorem ue (s t : Bool) (a b : ByteArray) (w : World) (ha : a.size ≤ 100000000) (hb : b.size ≤ 100000000) :
  Calls Tryz.prog 229 #[.agg #[.bool s, .string a], .agg #[.bool t, .string b]] w fun e w' => e = .returned (.agg #[.bool (iN (iv s a - iv t b)), .string (iM (iv s a - iv t b))]) ∧ Below w.heap.size w w' := by
 have hh := Hp.start w;have h1 := q8 t b;have e1 : ([IR.mk s a, iR (-(iv t b))].map IR.v).sum = iv s a - iv t b := by
  simp only [Ut, UR, List.sum_cons, List.sum_nil, RI];simp only [IR.v]; omega
 refine aj (N := 10) (l := [.agg #[.bool s, .string a], .agg #[.bool t, .string b]]) Tryz.func229 rfl rfl (by simp) ?_;refine sr ?_;refine cD hh [_,_] ?_;intro b2 w2 hh;refine cD hh [_,_] ?_;intro b3 w3 hh;refine bV hh ?_;intro b4 w4 hh;refine aa (ah ?_);refine aV 3 [[(2, none)], [(3, none)], [(6, some 1)]] [(2, 7), (1, 6), (0, 5)] hh mixed TZ ?_;refine fU 2 [_,_] ?_;refine fU 1 [_,_] ?_;refine dC (fun _ hj => tN t b _) ?_;refine aR ?_;intro f W hJ hV;have hb_1 := hJ.bl;obtain ⟨v7, v6, v5, _⟩ := hV;replace hh := hJ.hp;refine aY (br (ae v7 (ae v6 (ae v5 aX)))) ?_;dsimp only [cf];clear hJ;refine DN ?_;intro b8 w8 hh;refine bD hh (sG _ 2 _ [IR.mk s a, iR (-(iv t b))] _ (hh.aC (i := 0) rfl) TX (by simp [iR]; omega)) rfl ?_;intro w9 hh;rw [e1];exact Kf
theorem Ca (s t : Bool) (a b : ByteArray) (w : World) (ha : a.size ≤ 100000000) (hb : b.size ≤ 100000000) :
  Calls Tryz.prog 219 #[.agg #[.bool s, .string a], .agg #[.bool t, .string b]] w fun e w' => e = .returned (.int .i64 (iv s a - iv t b).sign) ∧ Below w.heap.size w w' := by
 have hh := Hp.start w;refine aj (N := 9) (l := [.agg #[.bool s, .string a], .agg #[.bool t, .string b]]) Tryz.func219 rfl rfl (by simp) ?_;refine sr ?_;refine cD hh [_,_] ?_;intro b2 w2 hh;refine cD hh [_,_] ?_;intro b3 w3 hh;refine aI (aa (sr ?_));refine cG hh 1 [_,_] ?_;refine cG hh 0 [_,_] ?_;refine bD hh (ue s t a b _ ha hb) rfl ?_;intro w7 hh;refine bD hh (kn _ _ _) rfl ?_;intro w8 hh;rw [e9];exact Aj
theorem G5 (a b : Nat) : bF (a * b) ≤ bF a + bF b := by
 apply dx;rw [Uu];exact Nat.mul_lt_mul'' (dm a) (dm b)
theorem lR (a b : Int) : bF (a * b).natAbs ≤ bF a.natAbs + bF b.natAbs := by rw [V5]; exact G5 _ _
def md : List Int → Int
 | [] => 1
 | x :: l => x * md l
theorem BF (l : List Int) (x : Int) : md (l ++ [x]) = md l * x := by
 induction l with
 | nil => simp [md]
 | cons y l ih => simp only [Ud, md, ih, Int.mul_assoc]
theorem AM (l : List Nat) (i : Nat) : (l.take i).sum ≤ l.sum := by
 rw [← List.sum_append_nat.symm.trans (U9 List.sum (UZ i l))]; omega
theorem uj : bF 1 = 1 := by decide +kernel
theorem BT (L : Option Addr) (n c : Nat) (l : List IR) (w : World) (hS : Sl w L n 2 (az IR.cells l)) (hn : n ≤ 1000000) (hs : (l.map fun a => a.bz.size).sum ≤ 100000000) :
  Calls Tryz.prog 139 #[.slice L n c] w fun e w' => e = .returned (.agg #[.bool (iN (md (l.map IR.v))), .string (iM (md (l.map IR.v)))]) ∧ Below w.heap.size w w' := by
 have hl := hS.bq IR.len TX;have hh := Hp.start w;have hsum := AM (l.map fun a => a.bz.size);refine aj (N := 21) (l := [.slice L n c]) Tryz.func139 rfl rfl (by simp) ?_;refine sr ?_;refine bV hh ?_;intro b2 w2 hh;refine aa (sr ?_);refine bD hh (m0 1 _ TX TX) rfl ?_;intro w6 hh;refine bD hh (jC _ _ _) rfl ?_;intro w7 hh;refine bV hh ?_;intro b3 w3 hh;refine bW hh 0 [_,_] ?_;intro ws hh;replace hh : Hp _ (.blk _ _ [_, _] _ :: _) _ := hh;refine vS ?_;refine aP [5, 10, 11, 12, 13, 14, 15, 16, 17, 18] 10
  (fun j w' => ∃ (i : Nat) (u : Bool) (S : Int), i ≤ n ∧ j = .int .i64 i ∧ S = md ((l.take i).map IR.v) ∧ iv u (iM S) = S ∧ bF S.natAbs ≤ 1 + 8 * ((l.map fun a => a.bz.size).take i).sum ∧ Hp w [.blk b3 199 [.string (iM S), .bool u] (0, 0), .blk b2 63 [.bool false, .string (ByteArray.mk #[])] (0, 0)] w')
  (fun j _ => n - (intOf j).toNat) ?_ ?_
 ·exact ⟨0, _, 1, T6 _, rfl, rfl, e9 1, by rw [Int.natAbs_one, uj]; omega, hh⟩
 ·clear hh;rintro ρ' j w' ⟨i, u, S, hi, rfl, hS2, hu, hb, hh⟩;by_cases hlt : i < n
  ·obtain ⟨x, hx⟩ := ak (l := l) (k := i) TX;obtain ⟨ad, rfl, hr⟩ := hS.at_ TX;have hsi := hsum i;have hsi2 := hsum (i + 1);have hsz : ((l.map fun a => a.bz.size).take (i + 1)).sum = ((l.map fun a => a.bz.size).take i).sum + x.bz.size := by
    rw [ay (x := x.bz.size) (by rw [Ue, hx]; rfl), qU]
   have hS3 : md ((l.take (i + 1)).map IR.v) = S * x.v := by rw [ay hx, UU, Wu, BF, hS2]
   have hms : (iM S).size ≤ 1000000000 := by rw [dP]; omega
   have hbx := kq x.neg x.bz;have hba := lR S x.v;have hpl := zh u x.neg (iM S) x.bz;rw [hu] at hpl;have hwc := fun w1 => pe u x.neg (iM S) x.bz w1 hms TX;rw [hu] at hwc;refine sr ?_;refine dO ?_;refine cu ?_;refine cw (vs := [_, _]) aK.out rfl (((hr.ext hh.below).recAt IR.len hx)) rfl TY ?_;refine bV hh ?_;intro b5 w5 hh;refine bW hh 0 [_,_] ?_;intro ws hh;replace hh : Hp _ (.blk _ _ [_, _] _ :: _) _ := hh;refine aa ?_;refine aV 3 [[(3, none)], [(5, none)], [(15, some 1)]] [(2, 16), (1, 15), (0, 14)] hh mixed TZ ?_;refine fU 1 [_,_] ?_;refine fU 0 [_,_] ?_;refine dC (fun _ hj => jC x.neg x.bz _) ?_;refine aR ?_;intro f W hJ hV;have hb_5 := hJ.bl;obtain ⟨v16, v15, v14, _⟩ := hV;replace hh := hJ.hp;refine aY (br (ae v16 (ae v15 (ae v14 aX)))) ?_;dsimp only [cf];clear hJ;refine bD hh (hwc _) rfl ?_;intro w17 hh;exact N9
  ·refine sr ?_;refine mM ?_;refine cG hh 0 [_,_] ?_;refine bD hh (dr u (iM S) _) rfl ?_;intro w20 hh;exact Qq
theorem Bh (M k : Nat) (h : 2 ^ k ∣ M) : -((M / 2 ^ k : Nat) : Int) = -(M : Int) / 2 ^ k := by
 obtain ⟨q, rfl⟩ := h;have hp : (0 : Int) < 2 ^ k := Int.pow_pos TX;rw [Nat.mul_div_cancel_left _ (UE TX), Vm, ← Int.mul_neg, Int.natCast_pow];exact (Int.mul_ediv_cancel_left _ (by exact Int.ne_of_gt hp)).symm
theorem yv (M k : Nat) (h : ¬ 2 ^ k ∣ M) : -((M / 2 ^ k : Nat) : Int) - 1 = -(M : Int) / 2 ^ k := by
 have hp : (0 : Int) < 2 ^ k := Int.pow_pos TX;have h1 := VF M (2 ^ k);have h2 := Uw M (UE (n := k) (show 0 < 2 by omega));have h3 : M % 2 ^ k ≠ 0 := fun h0 => h (Nat.dvd_of_mod_eq_zero h0);have hc : ((2 ^ k : Nat) : Int) = 2 ^ k := by simp
 symm
 rw [Int.ediv_eq_iff_of_pos hp, ← hc];have h4 : (M : Int) = (2 ^ k : Nat) * (M / 2 ^ k : Nat) + (M % 2 ^ k : Nat) := by rw [← Vm, ← V0, h1]
 generalize hK : ((2 ^ k : Nat) : Int) = K at *;generalize ((M / 2 ^ k : Nat) : Int) = q at *;have e : (-q - 1) * K = -(K * q) - K := by rw [Int.sub_mul, Int.neg_mul, Int.mul_comm q]; omega
 have e2 : (-q - 1 + 1) * K = -(K * q) := by rw [Int.sub_add_cancel, Int.neg_mul, Int.mul_comm]
 omega
theorem JY {M : Nat} (h0 : M ≠ 0) : 2 ^ k ∣ M ↔ k ≤ tz M := by
 obtain ⟨m, hm⟩ := se h0;generalize tz M = t at *;constructor
 ·intro h
  rcases UP t k with hlt | hge
  ·exfalso;obtain ⟨q, hq⟩ := h;rw [hm, show k = t + (1 + (k - t - 1)) by omega, Uu, Uu, UX] at hq;have := Nat.eq_of_mul_eq_mul_left (UE TX) hq;rw [Nat.pow_one, UX] at this;omega
  ·exact hge
 ·intro h;rw [hm];exact Nat.dvd_trans (Nat.pow_dvd_pow 2 h) (Nat.dvd_mul_right _ _)
theorem pB (a : Int) (n : Nat) : bF (a ^ n).natAbs ≤ 1 + n * bF a.natAbs := by
 induction n with
 | zero => simp [uj]
 | succ n ih =>
  rw [Int.pow_succ];have := lR (a ^ n) a;rw [Va]; omega
theorem Cj (s : Bool) (a : ByteArray) (n : Int) (w : World) (h0 : n.toNat * a.size ≤ 100000000) (hn : n ≤ 1000000000) (ha : a.size ≤ 100000000) :
  Calls Tryz.prog 141 #[.agg #[.bool s, .string a], .int .i64 n] w fun e w' => e = .returned (.agg #[.bool (iN (iv s a ^ n.toNat)), .string (iM (iv s a ^ n.toNat))]) ∧ Below w.heap.size w w' := by
 have hh := Hp.start w;have e1 : (if (0 : Int) > n then 0 else n) = (n.toNat : Int) := by split <;> omega
 have hm : n.toNat ≤ 1000000000 := TX;generalize n.toNat = m at *;refine aj (N := 19) (l := [.agg #[.bool s, .string a], .int .i64 n]) Tryz.func141 rfl rfl (by simp) ?_;refine sr ?_;refine cD hh [_,_] ?_;intro b2 w2 hh;refine bV hh ?_;intro b4 w4 hh;refine aa (sr ?_);refine bD hh (m0 1 _ TX TX) rfl ?_;intro w6 hh;refine bD hh (jC _ _ _) rfl ?_;intro w7 hh;refine bV hh ?_;intro b5 w5 hh;refine bW hh 0 [_,_] ?_;intro ws hh;replace hh : Hp _ (.blk _ _ [_, _] _ :: _) _ := hh;refine aa (ah (sr (mI ?_)));refine kQ rfl rfl TY ?_;refine mI (aa (aq ?_));rw [e1];refine aP [10, 11, 12, 13, 14, 15, 16] 10
  (fun j w' => ∃ (i : Nat) (u : Bool) (S : Int), i ≤ m ∧ j = .int .i64 i ∧ S = iv s a ^ i ∧ iv u (iM S) = S ∧ Hp w [.blk b5 199 [.string (iM S), .bool u] (0, 0), .blk b4 63 [.bool false, .string (ByteArray.mk #[])] (0, 0), .blk b2 63 [.bool s, .string a] (0, 0)] w')
  (fun j _ => m - (intOf j).toNat) ?_ ?_
 ·exact ⟨0, _, 1, T6 _, rfl, by rw [Int.pow_zero], e9 1, hh⟩
 ·clear hh;rintro ρ' j w' ⟨i, u, S, hi, rfl, hS2, hu, hh⟩;by_cases hlt : i < m
  ·have hb := pB (iv s a) i;rw [← hS2] at hb;have hbx := kq s a;have hle : i * bF (iv s a).natAbs ≤ m * (8 * a.size) := Vs hi hbx;rw [Xn] at hle;have hms : (iM S).size ≤ 1000000000 := by rw [dP]; omega
   have hpl := zh u s (iM S) a;rw [hu] at hpl;have hwc := fun w1 => pe u s (iM S) a w1 hms TX;rw [hu] at hwc;refine sr ?_;refine bg (aa (ah (cT (ar (ai (ah (aq ?_)))))));refine aV 3 [[(5, none)], [(2, none)], [(13, some 1)]] [(2, 14), (1, 13), (0, 12)] hh mixed TZ ?_;refine fU 0 [_,_] ?_;refine fU 2 [_,_] ?_;refine dC (fun _ hj => jC s a _) ?_;refine aR ?_;intro f W hJ hV;have hb_4 := hJ.bl;obtain ⟨v14, v13, v12, _⟩ := hV;replace hh := hJ.hp;refine aY (br (ae v14 (ae v13 (ae v12 aX)))) ?_;dsimp only [cf];clear hJ;refine bD hh (hwc _) rfl ?_;intro w15 hh;refine bW hh 0 [_,_] ?_;intro ws hh;replace hh : Hp _ (.blk _ _ [_, _] _ :: _) _ := hh;refine fM ?_;refine bj (mI (aA (ai ?_)));refine ⟨⟨i + 1, _, _, TX, rfl, by rw [Int.pow_succ, hS2], hpl, hh⟩, by show m - (i + 1) < m - i; omega, ?_⟩;exact dQ
  ·obtain rfl : i = m := TX;refine sr ?_;refine mM ?_;refine cG hh 0 [_,_] ?_;refine bD hh (dr u (iM S) _) rfl ?_;intro w18 hh;rw [hu, hS2];exact Kf
theorem Px (s : Bool) (a : ByteArray) (m : Nat) : iv s (sN (bN a * 2 ^ m)) = iv s a * 2 ^ m := by
 unfold iv;rw [eU]
 cases s <;> simp [Vm, Int.neg_mul]
theorem De (s : Bool) (a : ByteArray) (m : Nat) (w : World) (ha : a.size ≤ 100000000) (hm : m ≤ 1000000000) :
  Calls Tryz.prog 197 #[.agg #[.bool s, .string a], .int .i64 (m : Int)] w fun e w' => e = .returned (.agg #[.bool (iN (iv s a * 2 ^ m)), .string (iM (iv s a * 2 ^ m))]) ∧ Below w.heap.size w w' := by
 have hh := Hp.start w;refine aj (N := 47) (l := [.agg #[.bool s, .string a], .int .i64 (m : Int)]) Tryz.func197 rfl rfl (by simp) ?_;refine sr ?_;refine cD hh [_,_] ?_;intro b2 w2 hh;refine bV hh ?_;intro b4 w4 hh;refine aa (ah (sr (mI ?_)));refine dW (aa (cT (ah ?_)));refine aV 6 [[(2, none)], [(8, some 0)], [(1, none)], [(9, some 1), (10, some 2)], [(2, none)], [(12, some 4)]] [(5, 13), (4, 12), (3, 11), (2, 10), (1, 9), (0, 8)] hh mixed TZ ?_;refine ej ?_;refine fY 1 ?_;refine dF ?_;refine dC (fun _ hj => x8 a m _ TX TX) ?_;refine ej ?_;refine fY 1 ?_;refine aR ?_;intro f W hJ hV;have hb_2 := hJ.bl;obtain ⟨v13, v12, v11, v10, v9, v8, _⟩ := hV;replace hh := hJ.hp;refine aY (br (ae v13 (ae v12 (ae v11 (ae v10 (ae v9 (ae v8 aX))))))) ?_;dsimp only [cf];clear hJ;refine gB [_,_] ?_;refine bD hh (dr s (sN (bN a * 2 ^ m)) _) rfl ?_;intro w15 hh;rw [Px];exact DK
theorem BV (s : Bool) (a : ByteArray) (m : Nat) (w : World) (hT : eh w) (ha : a.size ≤ 100000000) (h0 : 0 < m) (hm : m ≤ 1000000000000) :
  Calls Tryz.prog 197 #[.agg #[.bool s, .string a], .int .i64 (-(m : Int))] w fun e w' => e = .returned (.agg #[.bool (iN (iv s a / 2 ^ m)), .string (iM (iv s a / 2 ^ m))]) ∧ Below w.heap.size w w' := by
 have hh := Hp.start w;have e1 : (if (-1099511627776 : Int) > -(m : Int) then -1099511627776 else -(m : Int)) = -(m : Int) := T3 TX;have e2 : -(-(m : Int)) = (m : Int) := TX;have hcs : ∀ w1, Calls Tryz.prog 227 #[.string a, .int .i64 (-(-(m : Int)))] w1 fun e w' => e = .returned (.string (sN (bN a / 2 ^ m))) ∧ Below w1.heap.size w1 w' := fun w1 => by
  rw [e2]; exact yp a m w1 TX TX
 cases s with
 | false =>
  have e3 : iv false (sN (bN a / 2 ^ m)) = iv false a / 2 ^ m := by
   unfold iv;rw [eU];simp
  refine aj (N := 47) (l := [.agg #[.bool false, .string a], .int .i64 (-(m : Int))]) Tryz.func197 rfl rfl (by simp) ?_;refine sr ?_;refine cD hh [_,_] ?_;intro b2 w2 hh;refine bV hh ?_;intro b4 w4 hh;refine aa (ah (sr (mI ?_)));refine dW (aa (cF (ar (ai (sr (mI ?_))))));refine kQ rfl rfl TY ?_;refine aI (aa (ah ?_));rw [e1];refine E9 ?_;refine ej ?_;refine fY 1 ?_;refine dF ?_;refine Ew ?_;refine dC (fun _ hj => hcs _) ?_;refine ej ?_;refine fY 1 ?_;refine dB [_,_] ?_;refine dC (fun _ hj => dr false (sN (bN a / 2 ^ m)) _) ?_;refine Dl ?_;refine aR ?_;intro f W hJ hV;have hb_4 := hJ.bl;obtain ⟨v5, v26, v25, v24, v23, v22, v21, v20, v19, v18, _⟩ := hV;obtain ⟨b5, e5, hl5, hc5⟩ : dt _ _ _ (f 9) W := v5;replace hh := hJ.newVar hh hl5 hc5;refine Es ?_;dsimp only [cf];clear e5 hJ;rw [e3];refine bW hh 0 [_,_] ?_;intro ws hh;replace hh : Hp _ (.blk _ _ [_, _] _ :: _) _ := hh;refine aa (ah (sr (bH ?_)));refine bG hh 2 ?_;refine mB ?_;refine gS (gS ?_);refine ju ?_;refine gS ?_;refine e7 ?_;exact Nt
 | true =>
  have hb := gI a;have e4 : iv true (sN (bN a / 2 ^ m)) = -((bN a / 2 ^ m : Nat) : Int) := by
   unfold iv;rw [eU, T2 rfl]
  have e5 : iv true a = -(bN a : Int) := by unfold iv; rw [T2 rfl]
  by_cases hz : bN a = 0
  ·have e3 : iv true (sN (bN a / 2 ^ m)) = iv true a / 2 ^ m := by
    rw [e4, e5, hz]; simp
   refine HQ ?_;refine sr ?_;refine cD hh [_,_] ?_;intro b2 w2 hh;refine bV hh ?_;intro b4 w4 hh;refine aa (ah (sr (mI ?_)));refine dW (aa (cF (ar (ai (sr (mI ?_))))));refine kQ rfl rfl TY ?_;refine aI (aa (ah ?_));rw [e1];refine E9 ?_;refine ej ?_;refine fY 1 ?_;refine dF ?_;refine Ew ?_;refine dC (fun _ hj => hcs _) ?_;refine ej ?_;refine fY 1 ?_;refine dB [_,_] ?_;refine dC (fun _ hj => dr true (sN (bN a / 2 ^ m)) _) ?_;refine Dl ?_;refine aR ?_;intro f W hJ hV;have hb_4 := hJ.bl;obtain ⟨v5, v26, v25, v24, v23, v22, v21, v20, v19, v18, _⟩ := hV;obtain ⟨b5, e5, hl5, hc5⟩ : dt _ _ _ (f 9) W := v5;replace hh := hJ.newVar hh hl5 hc5;refine Es ?_;dsimp only [cf];clear e5 hJ;rw [e3];refine bW hh 0 [_,_] ?_;intro ws hh;replace hh : Hp _ (.blk _ _ [_, _] _ :: _) _ := hh;refine aa (ah (sr (bH ?_)));refine bG hh 2 ?_;refine mB (gT (bH (gT ?_)));refine bG hh 2 ?_;refine aH rfl rfl ?_;refine bD hh (lS a _ TX) rfl ?_;intro w32 hh;rw [hz, k0];refine gT ?_;refine cm ?_;refine fL ?_;exact Nt
  ·have hbp := pY hz;by_cases hd : 2 ^ m ∣ bN a
   ·have e3 : iv true (sN (bN a / 2 ^ m)) = iv true a / 2 ^ m := by
     rw [e4, e5]; exact Bh _ _ hd
    have htz := (JY hz).1 hd;refine HQ ?_;refine sr ?_;refine cD hh [_,_] ?_;intro b2 w2 hh;refine bV hh ?_;intro b4 w4 hh;refine aa (ah (sr (mI ?_)));refine dW (aa (cF (ar (ai (sr (mI ?_))))));refine kQ rfl rfl TY ?_;refine aI (aa (ah ?_));rw [e1];refine E9 ?_;refine ej ?_;refine fY 1 ?_;refine dF ?_;refine Ew ?_;refine dC (fun _ hj => hcs _) ?_;refine ej ?_;refine fY 1 ?_;refine dB [_,_] ?_;refine dC (fun _ hj => dr true (sN (bN a / 2 ^ m)) _) ?_;refine Dl ?_;refine aR ?_;intro f W hJ hV;have hb_4 := hJ.bl;obtain ⟨v5, v26, v25, v24, v23, v22, v21, v20, v19, v18, _⟩ := hV;obtain ⟨b5, e5, hl5, hc5⟩ : dt _ _ _ (f 9) W := v5;replace hh := hJ.newVar hh hl5 hc5;refine Es ?_;dsimp only [cf];clear e5 hJ;rw [e3];refine bW hh 0 [_,_] ?_;intro ws hh;replace hh : Hp _ (.blk _ _ [_, _] _ :: _) _ := hh;refine aa (ah (sr (bH ?_)));refine bG hh 2 ?_;refine mB (gT (bH (gT ?_)));refine bG hh 2 ?_;refine aH rfl rfl ?_;refine bD hh (lS a _ TX) rfl ?_;intro w32 hh;refine gT ?_;refine cm ?_;refine fL ?_;refine mB (gT (bH (gT ?_)));refine bG hh 2 ?_;refine aH rfl rfl ?_;refine bD hh (jU a _ TX (hT.hp hh)) rfl ?_;intro w38 hh;refine gT (mI (gT ?_));refine ym rfl TX TX TY ?_;refine gT ?_;refine bg ?_
    refine fL ?_;refine uJ ?_;refine cG hh 0 [_,_] ?_;exact Kf
   ·have e3 : iv true (sN (bN a / 2 ^ m)) - 1 = iv true a / 2 ^ m := by
     rw [e4, e5]; exact yv _ _ hd
    have htz : tz (bN a) < m := WZ fun h => hd ((JY hz).2 h);have hsz : (iM (iv true (sN (bN a / 2 ^ m)))).size ≤ 100000000 := by
     have := pT (bN a) m;rw [dP, j2, eU]; omega
    have hsub : ∀ w1, Calls Tryz.prog 229 #[.agg #[.bool (iN (iv true (sN (bN a / 2 ^ m)))), .string (iM (iv true (sN (bN a / 2 ^ m))))], .agg #[.bool (iN 1), .string (iM 1)]] w1 fun e w' => e = .returned (.agg #[.bool (iN (iv true a / 2 ^ m)), .string (iM (iv true a / 2 ^ m))]) ∧ Below w1.heap.size w1 w' := fun w1 => by
     have := ue (iN (iv true (sN (bN a / 2 ^ m)))) (iN 1) (iM (iv true (sN (bN a / 2 ^ m)))) (iM 1) w1 hsz (by rw [dP, Int.natAbs_one, uj]; omega);rw [e9, e9, e3] at this;exact this
    refine HQ ?_;refine sr ?_;refine cD hh [_,_] ?_;intro b2 w2 hh;refine bV hh ?_;intro b4 w4 hh;refine aa (ah (sr (mI ?_)));refine dW (aa (cF (ar (ai (sr (mI ?_))))));refine kQ rfl rfl TY ?_;refine aI (aa (ah ?_));rw [e1];refine E9 ?_;refine ej ?_;refine fY 1 ?_;refine dF ?_;refine Ew ?_;refine dC (fun _ hj => hcs _) ?_;refine ej ?_;refine fY 1 ?_;refine dB [_,_] ?_;refine dC (fun _ hj => dr true (sN (bN a / 2 ^ m)) _) ?_;refine Dl ?_;refine aR ?_;intro f W hJ hV;have hb_4 := hJ.bl;obtain ⟨v5, v26, v25, v24, v23, v22, v21, v20, v19, v18, _⟩ := hV;obtain ⟨b5, e5, hl5, hc5⟩ : dt _ _ _ (f 9) W := v5;replace hh := hJ.newVar hh hl5 hc5;refine Es ?_;dsimp only [cf];clear e5 hJ;refine bW hh 0 [_,_] ?_;intro ws hh;replace hh : Hp _ (.blk _ _ [_, _] _ :: _) _ := hh;refine aa (ah (sr (bH ?_)));refine bG hh 2 ?_;refine mB (gT (bH (gT ?_)));refine bG hh 2 ?_;refine aH rfl rfl ?_;refine bD hh (lS a _ TX) rfl ?_;intro w32 hh;refine gT ?_;refine cm ?_;refine fL ?_;refine mB (gT (bH (gT ?_)));refine bG hh 2 ?_;refine aH rfl rfl ?_;refine bD hh (jU a _ TX (hT.hp hh)) rfl ?_;intro w38 hh;refine gT (mI (gT ?_));refine ym rfl TX TX TY ?_;refine gT ?_;refine bg ?_;refine fL ?_;refine aa (cT (ah ?_))
    refine aV 2 [[(5, none)], []] [(1, 44), (0, 43)] hh mixed TZ ?_;refine fU 0 [_,_] ?_;refine dC (fun _ hj => m0 1 _ TX TX) ?_;refine aR ?_;intro f W hJ hV;have hb_6 := hJ.bl;obtain ⟨v44, v43, _⟩ := hV;replace hh := hJ.hp;refine aY (br (ae v44 (ae v43 aX))) ?_;dsimp only [cf];clear hJ;refine bD hh (hsub _) rfl ?_;intro w45 hh;refine bW hh 1 [_,_] ?_;intro ws hh;replace hh : Hp _ (_ :: .blk _ _ [_, _] _ :: _) _ := hh;refine aa (au (aG ?_));exact Oe
theorem OD : (2 : Rat) ≠ 0 := by decide
theorem two_pos (k : Int) : (0 : Rat) < 2 ^ k := Rat.zpow_pos TY
theorem kg (i p : Int) : (Dyadic.ofIntWithPrec i p).toRat = i * 2 ^ (-p) := Dyadic.toRat_ofIntWithPrec_eq_mul_two_pow
theorem qQ (i p : Int) (n : Nat) : Dyadic.ofIntWithPrec (i * 2 ^ n) (p + n) = Dyadic.ofIntWithPrec i p := by
 rw [← Int.shiftLeft_eq]; exact Dyadic.ofIntWithPrec_shiftLeft_add
theorem lH (i : Int) {p q : Int} (h : q = p + n) : Dyadic.ofIntWithPrec i p = Dyadic.ofIntWithPrec (i * 2 ^ n) q := by
 subst h; exact (qQ i p n).symm
theorem yj (i j p : Int) : Dyadic.ofIntWithPrec i p + Dyadic.ofIntWithPrec j p = Dyadic.ofIntWithPrec (i + j) p := by
 rw [← Dyadic.toRat_inj, Dyadic.toRat_add, kg, kg, kg, Rat.intCast_add, Rat.add_mul]
theorem EM (i p : Int) : -Dyadic.ofIntWithPrec i p = Dyadic.ofIntWithPrec (-i) p := Dyadic.neg_ofIntWithPrec
theorem sy (i j p q : Int) : Dyadic.ofIntWithPrec i p * Dyadic.ofIntWithPrec j q = Dyadic.ofIntWithPrec (i * j) (p + q) := by
 rw [← Dyadic.toRat_inj, Dyadic.toRat_mul, kg, kg, kg, Rat.intCast_mul, Int.neg_add, Rat.zpow_add OD];grind
theorem sX (i j p : Int) : Dyadic.ofIntWithPrec i p < Dyadic.ofIntWithPrec j p ↔ i < j := by
 rw [← Dyadic.toRat_lt_toRat_iff, kg, kg];rw [← Rat.intCast_lt_intCast];constructor
 ·intro h;exact Rat.lt_of_mul_lt_mul_right h (Rat.le_of_lt (two_pos _))
 ·intro h;exact Rat.mul_lt_mul_of_pos_right h (two_pos _)
theorem kR (p : Int) : Dyadic.ofIntWithPrec 0 p = 0 := rfl
theorem Lo {i j p : Int} (h : Dyadic.ofIntWithPrec i p = Dyadic.ofIntWithPrec j p) : i = j := by
 rcases WW i j with h1 | h1 | h1
 ·rw [← sX i j p, h] at h1;exact absurd h1 (by rw [sX]; omega)
 ·exact h1
 ·rw [← sX j i p, h] at h1;exact absurd h1 (by rw [sX]; omega)
theorem rk {i p : Int} (h : Dyadic.ofIntWithPrec i p = 0) : i = 0 := Lo (p := p) (by rw [h]; rfl)
theorem D6 (n k : Int) (h : n % 2 = 1) : Dyadic.ofOdd n k h = Dyadic.ofIntWithPrec n k := Dyadic.ofOdd_eq_ofIntWithPrec
theorem yx {i p : Int} (h : i ≠ 0) : Dyadic.ofIntWithPrec i p = .ofOdd (i >>> i.trailingZeros) (p - i.trailingZeros) (Int.shiftRight_trailingZeros_mod_two h) := by
 rw [Dyadic.ofIntWithPrec, dif_neg h]
structure NR where
 neg : Bool
 bz : ByteArray
 e : Int
def NR.cells (a : NR) : List Value := [.bool a.neg, .string a.bz, .int .i64 a.e]
theorem NR.len (a : NR) : a.cells.length = 3 := rfl
theorem NR.one (a : NR) : a.cells.all Value.oneCell' = true := rfl
def NR.i (a : NR) : Int := iv a.neg a.bz
def NR.d (a : NR) : Dyadic := Dyadic.ofIntWithPrec a.i (-a.e)
def nR : Dyadic → NR
 | .zero => ⟨false, ByteArray.mk #[], 0⟩
 | .ofOdd n k _ => ⟨iN n, iM n, -k⟩
theorem lB : nR 0 = ⟨false, ByteArray.mk #[], 0⟩ := rfl
theorem bR (x : Dyadic) : (nR x).d = x := by
 cases x with
 | zero => rfl
 | ofOdd n k h =>
  simp only [nR, NR.d, NR.i, e9, Int.neg_neg];exact (D6 n k h).symm
theorem Py {x y : Dyadic} : nR x = nR y ↔ x = y := ⟨fun h => by rw [← bR x, h, bR], fun h => by rw [h]⟩
theorem QC (s : Bool) (a : ByteArray) : (iv s a).trailingZeros = tz (bN a) := by
 unfold iv;split
 ·rw [Int.trailingZeros_neg]; rfl
 ·rfl
theorem DZ (s : Bool) (a : ByteArray) : iv s a = 0 ↔ bN a = 0 := by
 have := j2 s a;omega
theorem qO {s : Bool} {a : ByteArray} {e : Int} (h : iv s a ≠ 0) : nR (Dyadic.ofIntWithPrec (iv s a) (-e)) = ⟨iN (iv s a / 2 ^ tz (bN a)), iM (iv s a / 2 ^ tz (bN a)), e + tz (bN a)⟩ := by
 rw [yx h, nR, Int.shiftRight_eq_div_pow, QC];have e1 : -(-e - (tz (bN a) : Int)) = e + tz (bN a) := TX;rw [e1, Int.natCast_pow]
 rfl
def Sz (k : Nat) (x : Dyadic) : Prop := ∃ i : Int, x = Dyadic.ofIntWithPrec i k ∧ i.natAbs < 2 ^ (2 * k)
theorem Sz.zero (k : Nat) : Sz k 0 := ⟨0, rfl, by simpa using UE TX⟩
theorem Sz.mono {l : Nat} {x : Dyadic} (h : Sz k x) (hl : k ≤ l) : Sz l x := by
 obtain ⟨i, rfl, hi⟩ := h;refine ⟨i * 2 ^ (l - k), lH i TX, ?_⟩;rw [V5, Wt];have h1 : i.natAbs * 2 ^ (l - k) < 2 ^ (2 * k) * 2 ^ (l - k) := Wy hi (UE TX);rw [← Uu] at h1;exact U6 h1 (UL TX TX)
theorem Sz.neg {x : Dyadic} (h : Sz k x) : Sz k (-x) := by
 obtain ⟨i, rfl, hi⟩ := h;exact ⟨-i, EM _ _, by rw [Int.natAbs_neg]; exact hi⟩
theorem Sz.add {x y : Dyadic} (hx : Sz k x) (hy : Sz k y) : Sz (k + 1) (x + y) := by
 obtain ⟨i, rfl, hi⟩ := hx;obtain ⟨j, rfl, hj⟩ := hy;rw [yj];refine ⟨(i + j) * 2 ^ 1, lH _ TX, ?_⟩;have h1 : 2 ^ (2 * (k + 1)) = 4 * 2 ^ (2 * k) := by rw [show 2 * (k + 1) = 2 * k + 2 by omega, Uu]; omega
 rw [h1];omega
theorem Sz.sub {x y : Dyadic} (hx : Sz k x) (hy : Sz k y) : Sz (k + 1) (x - y) := hx.add hy.neg
theorem Sz.mul {l : Nat} {x y : Dyadic} (hx : Sz k x) (hy : Sz l y) : Sz (k + l) (x * y) := by
 obtain ⟨i, rfl, hi⟩ := hx;obtain ⟨j, rfl, hj⟩ := hy;rw [sy];refine ⟨i * j, by rw [V0], ?_⟩;rw [V5, US, Uu];exact Nat.mul_lt_mul'' hi hj
theorem kW {i : Int} (h : i ≠ 0) : 2 ^ i.trailingZeros ≤ i.natAbs := by
 have h1 := Int.two_pow_trailingZeros_dvd h;have h2 := Int.natAbs_dvd_natAbs.2 h1;rw [Wt] at h2;exact Nat.le_of_dvd TX h2
theorem Sz.nr {x : Dyadic} (h : Sz k x) : (nR x).bz.size ≤ (2 * k + 7) / 8 ∧ -(k : Int) ≤ (nR x).e ∧ (nR x).e ≤ k := by
 obtain ⟨i, rfl, hi⟩ := h;by_cases h0 : i = 0
 ·subst h0;rw [kR, lB];exact ⟨T6 _, (by omega : -(k : Int) ≤ 0), (by omega : (0 : Int) ≤ k)⟩
 ·have h2 := kW h0;rw [yx h0, nR];simp only;refine ⟨?_, TX, ?_⟩
  ·rw [dP];have : bF (i >>> i.trailingZeros).natAbs ≤ 2 * k := by
    apply dx;refine U8 ?_ hi;rw [Int.shiftRight_eq_div_pow];exact Xt _ _
   omega
  ·have h3 : 2 ^ i.trailingZeros < 2 ^ (2 * k) := U8 h2 hi;have := (Xr TX).1 h3;omega
theorem Sz.raw {a : NR} {E : Nat} (hm : 8 * a.bz.size ≤ m) (h1 : -(E : Int) ≤ a.e) (h2 : a.e ≤ E) : Sz (m + E) a.d := by
 refine ⟨a.i * 2 ^ (a.e + m + E).toNat, lH _ TX, ?_⟩;have h3 : a.i.natAbs < 2 ^ m := by
  rw [NR.i, j2];refine U6 (dm _) (UL TX ?_);have := gI a.bz;omega
 rw [V5, Wt];have h4 := Wy h3 (UE (n := (a.e + m + E).toNat) (show 0 < 2 by omega));rw [← Uu] at h4;exact U6 h4 (UL TX TX)
def Dp (i n : Int) : Int := if 0 ≤ n then i * 2 ^ n.toNat else i / 2 ^ (-n).toNat
theorem HV (n : Int) : Dp 0 n = 0 := by unfold Dp; split <;> simp
def cO : Dyadic → Int → Int
 | .zero, _ => 0
 | .ofOdd n k _, p => Dp n (p - k)
def dh : Dyadic → Dyadic → Int
 | .zero, .zero => 0
 | .zero, .ofOdd _ k _ => k
 | .ofOdd _ k _, .zero => k
 | .ofOdd _ k _, .ofOdd _ l _ => max k l
theorem m6 (n k p : Int) (h : n % 2 = 1) (hp : k ≤ p) : Dyadic.ofIntWithPrec (cO (.ofOdd n k h) p) p = .ofOdd n k h := by
 simp only [cO];rw [D6, Dp, T2 TX];exact (lH n TX).symm
theorem G0 (x y : Dyadic) : Dyadic.ofIntWithPrec (cO x (dh x y)) (dh x y) = x := by
 cases x with
 | zero => rfl
 | ofOdd n k h =>
  cases y with
  | zero => exact m6 _ _ _ _ (Int.le_refl _)
  | ofOdd m l g => exact m6 _ _ _ _ (Int.le_max_left _ _)
theorem Kt (x y : Dyadic) : Dyadic.ofIntWithPrec (cO y (dh x y)) (dh x y) = y := by
 cases y with
 | zero => rfl
 | ofOdd n k h =>
  cases x with
  | zero => exact m6 _ _ _ _ (Int.le_refl _)
  | ofOdd m l g => exact m6 _ _ _ _ (Int.le_max_right _ _)
theorem K3 (x y : Dyadic) : Dyadic.ofIntWithPrec (cO x (dh x y) + cO y (dh x y)) (dh x y) = x + y := by
 rw [← yj, G0, Kt]
theorem JE (i n : Int) : bF (Dp i n).natAbs ≤ bF i.natAbs + n.toNat := by
 unfold Dp;split
 ·rw [V5, Wt];exact oO _ _
 ·have : bF (i / 2 ^ (-n).toNat).natAbs ≤ bF i.natAbs := dx (U8 (Xt _ _) (dm _));omega
theorem DT (x y : Dyadic) (E : Int) (h1 : -E ≤ (nR x).e ∧ (nR x).e ≤ E) (h2 : -E ≤ (nR y).e ∧ (nR y).e ≤ E) : -E ≤ dh x y ∧ dh x y ≤ E := by
 cases x <;> cases y <;> simp only [nR, dh] at * <;> omega
theorem ux (x : Dyadic) (p : Int) : bF (cO x p).natAbs ≤ 8 * (nR x).bz.size + (p + (nR x).e).toNat := by
 cases x with
 | zero => simp [cO, k0]
 | ofOdd n k h =>
  have h1 := JE n (p - k);have h2 := gI (iM n);rw [iM, eU] at h2;simp only [cO, nR];rw [show p + -k = p - k by omega];rw [← iM] at h2;omega
variable {P : Program} {by' off : Nat} {r : Bool} {zc : List Value}
section
variable {ro : Mode}
theorem Fb {t : TypeId} {cs : Array Value} {v : Value} (ht : dq P t = some (n, false, by', zc)) (hv : cs[off]? = some v) (w : World) : (part t cs off).run P w = .ok v w := by
 simp [part, iX ht, hv]
theorem N7 {t : TypeId} {cs vs : Array Value} (ht : dq P t = some (n, true, by', zc)) (hv : cs.extract off (off + n) = vs) (w : World) : (part t cs off).run P w = .ok (.agg vs) w := by
 simp [part, iX ht, eS ht, hv]
theorem SI (n : Nat) (a b : Bool) (w : World) : (Op.equalIn (n + 1) 4 (.bool a) (.bool b)).run Tryz.prog w = .ok (a == b) w := by
 simp [Op.equalIn, run_underlying Tryz.underlying4]
theorem RQ (n : Nat) (a b : ByteArray) (w : World) : (Op.equalIn (n + 1) 9 (.string a) (.string b)).run Tryz.prog w = .ok (a == b) w := by
 simp [Op.equalIn, run_underlying Tryz.underlying9]
theorem Sh (n : Nat) (a b : Int) (w : World) : (Op.equalIn (n + 1) 3 (.int .i64 a) (.int .i64 b)).run Tryz.prog w = .ok (a == b) w := by
 simp [Op.equalIn, run_underlying Tryz.underlying3]
theorem eq_int (n : Nat) (s s' : Bool) (a a' : ByteArray) (w : World) : (Op.equalIn (n + 2) 63 (.agg #[.bool s, .string a]) (.agg #[.bool s', .string a'])).run Tryz.prog w = .ok (s == s' && a == a') w := by
 have h1 := fun (x : Bool) (y : ByteArray) => Fb (P := Tryz.prog) (cs := #[.bool x, .string y]) (off := 0) (aK.out (P := Tryz.prog) (t := 4)) rfl;have h2 := fun (x : Bool) (y : ByteArray) => Fb (P := Tryz.prog) (cs := #[.bool x, .string y]) (off := 1) (aK.out (P := Tryz.prog) (t := 9)) rfl;rw [Op.equalIn];simp [run_underlying Tryz.underlying63, h1, h2, SI, RQ]
 cases h : s == s' <;> cases h' : a == a' <;> simp_all
theorem J6 (n : Nat) (s s' : Bool) (a a' : ByteArray) (e e' : Int) (w : World) : (Op.equalIn (n + 3) 65 (.agg #[.bool s, .string a, .int .i64 e]) (.agg #[.bool s', .string a', .int .i64 e'])).run Tryz.prog w = .ok ((s == s' && a == a') && e == e') w := by
 have h1 := fun (x : Bool) (y : ByteArray) (z : Int) => N7 (P := Tryz.prog) (cs := #[.bool x, .string y, .int .i64 z]) (vs := #[.bool x, .string y]) (off := 0) (aK.out (P := Tryz.prog) (t := 63)) rfl;have h2 := fun (x : Bool) (y : ByteArray) (z : Int) => Fb (P := Tryz.prog) (cs := #[.bool x, .string y, .int .i64 z]) (off := 2) (aK.out (P := Tryz.prog) (t := 3)) rfl;rw [Op.equalIn];simp [run_underlying Tryz.underlying65, h1, h2, eq_int, Sh]
 cases h : s == s' <;> cases h' : a == a' <;> cases h2 : e == e' <;> simp_all
section
variable {ρ : Rf} {w : World} {d : Option Nat} {ty u : TypeId} {pos : String} {af : Array Edge} {g : Option (Nat × Bool)} {x y : Operand} {s s' : Bool} {a a' : ByteArray} {e e' : Int}
theorem HC {a b : ByteArray} : (a == b) = true ↔ a = b := by
 have : (a == b) = (a.data == b.data) := rfl;rw [this, VI];exact ⟨fun h => by cases a; cases b; simp_all, fun h => by rw [h]⟩
theorem nc : ((s == s' && a == a') && e == e') = true ↔ NR.mk s a e = NR.mk s' a' e' := by
 rw [Uj, Uj, VI, HC, VI, NR.mk.injEq, and_assoc]
theorem Nz (hx : ev ρ x = .agg #[.bool s, .string a, .int .i64 e]) (hy : ev ρ y = .agg #[.bool s', .string a', .int .i64 e']) (hr : ((s == s' && a == a') && e == e') = r) :
  (execOp (ev ρ) ⟨d, .binOp .eql 65 x y u, ty, pos, af, g⟩).run Tryz.prog w = .ok (.value (.bool r)) w := by
 exact RV
theorem MO (hx : ev ρ x = .agg #[.bool s, .string a, .int .i64 e]) (hy : ev ρ y = .agg #[.bool s', .string a', .int .i64 e']) (hr : ((s == s' && a == a') && e == e') = r) :
  (execOp (ev ρ) ⟨d, .binOp .neq 65 x y u, ty, pos, af, g⟩).run Tryz.prog w = .ok (.value (.bool !r)) w := by
 exact RV
theorem Fm (hx : ev ρ x = .agg #[.bool s, .string a, .int .i64 e]) (hy : ev ρ y = .agg #[.bool s', .string a', .int .i64 e']) (h : NR.mk s a e = NR.mk s' a' e') :
  (execOp (ev ρ) ⟨d, .binOp .eql 65 x y u, ty, pos, af, g⟩).run Tryz.prog w = .ok (.value (.bool true)) w := Nz hx hy (nc.2 h)
theorem KC (hx : ev ρ x = .agg #[.bool s, .string a, .int .i64 e]) (hy : ev ρ y = .agg #[.bool s', .string a', .int .i64 e']) (h : ¬ NR.mk s a e = NR.mk s' a' e') :
  (execOp (ev ρ) ⟨d, .binOp .eql 65 x y u, ty, pos, af, g⟩).run Tryz.prog w = .ok (.value (.bool false)) w := Nz hx hy (by rw [Wz]; exact fun h1 => h (nc.1 h1))
theorem EC (hx : ev ρ x = .agg #[.bool s, .string a, .int .i64 e]) (hy : ev ρ y = .agg #[.bool s', .string a', .int .i64 e']) (h : NR.mk s a e = NR.mk s' a' e') :
  (execOp (ev ρ) ⟨d, .binOp .neq 65 x y u, ty, pos, af, g⟩).run Tryz.prog w = .ok (.value (.bool false)) w := MO hx hy (nc.2 h)
theorem Dv (hx : ev ρ x = .agg #[.bool s, .string a, .int .i64 e]) (hy : ev ρ y = .agg #[.bool s', .string a', .int .i64 e']) (h : ¬ NR.mk s a e = NR.mk s' a' e') :
  (execOp (ev ρ) ⟨d, .binOp .neq 65 x y u, ty, pos, af, g⟩).run Tryz.prog w = .ok (.value (.bool true)) w := MO hx hy (r := false) (by rw [Wz]; exact fun h1 => h (nc.1 h1))
end
section
variable {N : Nat} {ops : Array Oper} {Q : Kq} {ρ : Rf} {w : World} {rest : List Oper} {d : Nat} {ty u : TypeId} {pos : String} {af : Array Edge} {x y : Operand} {s s' : Bool} {a a' : ByteArray} {e e' : Int}
theorem ET (hx : ev ρ x = .agg #[.bool s, .string a, .int .i64 e]) (hy : ev ρ y = .agg #[.bool s', .string a', .int .i64 e']) (h : NR.mk s a e = NR.mk s' a' e') (hN : d < N) (kk : WL ro Tryz.prog N ops Q rest (cI ρ d (.bool true)) w) :
  WL ro Tryz.prog N ops Q (⟨some d, .binOp .eql 65 x y u, ty, pos, af, none⟩ :: rest) ρ w := aQ rfl rfl hN (Fm hx hy h) kk
theorem xh (hx : ev ρ x = .agg #[.bool s, .string a, .int .i64 e]) (hy : ev ρ y = .agg #[.bool s', .string a', .int .i64 e']) (h : ¬ NR.mk s a e = NR.mk s' a' e') (hN : d < N) (kk : WL ro Tryz.prog N ops Q rest (cI ρ d (.bool false)) w) :
  WL ro Tryz.prog N ops Q (⟨some d, .binOp .eql 65 x y u, ty, pos, af, none⟩ :: rest) ρ w := aQ rfl rfl hN (KC hx hy h) kk
theorem LM (hx : ev ρ x = .agg #[.bool s, .string a, .int .i64 e]) (hy : ev ρ y = .agg #[.bool s', .string a', .int .i64 e']) (h : ¬ NR.mk s a e = NR.mk s' a' e') (hN : d < N) (kk : WL ro Tryz.prog N ops Q rest (cI ρ d (.bool true)) w) :
  WL ro Tryz.prog N ops Q (⟨some d, .binOp .neq 65 x y u, ty, pos, af, none⟩ :: rest) ρ w := aQ rfl rfl hN (Dv hx hy h) kk
theorem EY (hx : ev ρ x = .agg #[.bool s, .string a, .int .i64 e]) (hy : ev ρ y = .agg #[.bool s', .string a', .int .i64 e']) (h : NR.mk s a e = NR.mk s' a' e') (hN : d < N) (kk : WL ro Tryz.prog N ops Q rest (cI ρ d (.bool false)) w) :
  WL ro Tryz.prog N ops Q (⟨some d, .binOp .neq 65 x y u, ty, pos, af, none⟩ :: rest) ρ w := aQ rfl rfl hN (EC hx hy h) kk
end
theorem pr (s : Bool) (a : ByteArray) (n : Int) (w : World) (hT : eh w) (ha : a.size ≤ 100000000) (h1 : -1000000000 ≤ n) (h2 : n ≤ 1000000000) :
  Calls Tryz.prog 197 #[.agg #[.bool s, .string a], .int .i64 n] w fun e w' => e = .returned (.agg #[.bool (iN (Dp (iv s a) n)), .string (iM (Dp (iv s a) n))]) ∧ Below w.heap.size w w' := by
 unfold Dp;by_cases h : 0 ≤ n
 ·rw [T2 h];obtain ⟨m, rfl⟩ := W9 h;rw [Vp];exact De s a m w ha TX
 ·rw [T3 h];obtain ⟨m, hm⟩ := W9 (show 0 ≤ -n by omega);rw [hm, Vp, show n = -(m : Int) by omega];exact BV s a m w hT ha TX TX
theorem gZ (s : Bool) (a : ByteArray) (e : Int) (w : World) (hT : eh w) (ha : a.size ≤ 100000000) (h1 : -1000000000000 ≤ e) (h2 : e ≤ 1000000000000) :
  Calls Tryz.prog 137 #[.agg #[.bool s, .string a], .int .i64 e] w fun r w' => r = .returned (.agg #[.bool (nR (Dyadic.ofIntWithPrec (iv s a) (-e))).neg, .string (nR (Dyadic.ofIntWithPrec (iv s a) (-e))).bz, .int .i64 (nR (Dyadic.ofIntWithPrec (iv s a) (-e))).e]) ∧ Below w.heap.size w w' := by
 have hh := Hp.start w;by_cases h0 : iv s a = 0
 ·rw [h0, kR, lB];refine aj (N := 21) (l := [.agg #[.bool s, .string a], .int .i64 e]) Tryz.func137 rfl rfl (by simp) ?_;refine sr ?_;refine cD hh [_,_] ?_;intro b2 w2 hh;refine bV hh ?_;intro b4 w4 hh;refine aa (ah (sr ?_));refine cG hh 1 [_,_] ?_;refine bD hh (kn s a _) rfl ?_;intro w7 hh;rw [h0];refine db (aa (cT (sr ?_)));refine gB [_,_,_] ?_;refine bW hh 0 [_,_,_] ?_;intro ws hh;replace hh : Hp _ (.blk _ _ [_, _, _] _ :: _) _ := hh;refine aa (au (aG ?_));exact MN
 ·have hs : (iv s a).sign ≠ 0 := by rw [ne_eq, Int.sign_eq_zero_iff_zero]; exact h0
  rw [qO h0];have hz : bN a ≠ 0 := fun h => h0 ((DZ s a).2 h);have htz : tz (bN a) < 8 * a.size + 1 := by
   have := wY a;rw [show (256 : Nat) = 2 ^ 8 from rfl, ← UO] at this;have := wX hz this;omega
  have hsh : Dp (iv s a) (-(tz (bN a) : Int)) = iv s a / 2 ^ tz (bN a) := by
   unfold Dp;split
   ·have : tz (bN a) = 0 := TX;rw [this]; simp
   ·rw [Int.neg_neg, Vp]
  refine aj (N := 21) (l := [.agg #[.bool s, .string a], .int .i64 e]) Tryz.func137 rfl rfl (by simp) ?_;refine sr ?_;refine cD hh [_,_] ?_;intro b2 w2 hh;refine bV hh ?_;intro b4 w4 hh;refine aa (ah (sr ?_));refine cG hh 1 [_,_] ?_;refine bD hh (kn s a _) rfl ?_;intro w7 hh;refine db (aa (cF (ar (ai (sr (bH ?_))))));refine bG hh 1 ?_;refine bD hh (jU a _ TX (hT.hp hh)) rfl ?_;intro w12 hh;refine aI (aa (sr ?_));refine cG hh 1 [_,_] (mI ?_);refine ym rfl TX TX TY ?_;refine bD hh (pr s a (-(tz (bN a) : Int)) _ (hT.hp hh) ha TX TX) rfl ?_;intro w16 hh;rw [hsh];refine mI (mI ?_);refine bj ?_;refine gB [_,_,_] ?_;exact Lq
def NR.ok (a : NR) : Prop := a.bz.size ≤ 1000000 ∧ -10000000 ≤ a.e ∧ a.e ≤ 10000000
theorem Sz.ok {x : Dyadic} (h : Sz k x) (hk : k ≤ 3999990) : (nR x).ok := by
 have := h.nr;refine ⟨TX, TX, TX⟩
theorem jI (n : Int) (w : World) (hT : eh w) (h1 : -9223372036854775808 ≤ n) (h2 : n ≤ 9223372036854775807) :
  Calls Tryz.prog 50 #[.int .i64 n] w fun r w' => r = .returned (.agg #[.bool (nR (n : Dyadic)).neg, .string (nR (n : Dyadic)).bz, .int .i64 (nR (n : Dyadic)).e]) ∧ Below w.heap.size w w' := by
 have hh := Hp.start w;have hsz : (iM n).size ≤ 100000000 := by
  rw [dP];have : bF n.natAbs ≤ 64 := dx TX;omega
 have hc : ∀ w1, eh w1 → Calls Tryz.prog 137 #[.agg #[.bool (iN n), .string (iM n)], .int .i64 0] w1 fun r w' => r = .returned (.agg #[.bool (nR (n : Dyadic)).neg, .string (nR (n : Dyadic)).bz, .int .i64 (nR (n : Dyadic)).e]) ∧ Below w1.heap.size w1 w' := fun w1 hT1 => by
  have := gZ (iN n) (iM n) 0 w1 hT1 hsz TX TX;rw [e9] at this;exact this
 refine aj (N := 6) (l := [.int .i64 n]) Tryz.func50 rfl rfl (by simp) ?_;refine sr ?_;refine bV hh ?_;intro b2 w2 hh;refine aa (sr (mI ?_));refine bD hh (m0 n _ h1 h2) rfl ?_;intro w4 hh;refine bD hh (hc _ (hT.hp hh)) rfl ?_;intro w5 hh;exact Lq
theorem eB (a : NR) (w : World) (hT : eh w) (ha : a.bz.size ≤ 100000000) (h1 : -1000000000000 ≤ a.e) (h2 : a.e ≤ 1000000000000) :
  Calls Tryz.prog 132 #[.agg #[.bool a.neg, .string a.bz, .int .i64 a.e]] w fun r w' => r = .returned (.agg #[.bool (nR a.d).neg, .string (nR a.d).bz, .int .i64 (nR a.d).e]) ∧ Below w.heap.size w w' := by
 have hh := Hp.start w;refine aj (N := 8) (l := [.agg #[.bool a.neg, .string a.bz, .int .i64 a.e]]) Tryz.func132 rfl rfl (by simp) ?_;refine sr ?_;refine cD hh [_,_,_] ?_;intro b1 w1 hh;refine bV hh ?_;intro b2 w2 hh;refine aa (sr (bH ?_));refine cG hh 1 [_,_] (bH ?_);refine bG hh 1 ?_;refine bD hh (gZ a.neg a.bz a.e _ (hT.hp hh) ha h1 h2) rfl ?_;intro w7 hh;exact Lq
theorem gY (a : NR) (w : World) :
  Calls Tryz.prog 164 #[.agg #[.bool a.neg, .string a.bz, .int .i64 a.e]] w fun r w' => r = .returned (.int .i64 a.i.sign) ∧ Below w.heap.size w w' := by
 have hh := Hp.start w;refine aj (N := 6) (l := [.agg #[.bool a.neg, .string a.bz, .int .i64 a.e]]) Tryz.func164 rfl rfl (by simp) ?_;refine sr ?_;refine cD hh [_,_,_] ?_;intro b1 w1 hh;refine aI (aa (sr (bH ?_)));refine cG hh 0 [_,_] ?_;refine bD hh (kn a.neg a.bz _) rfl ?_;intro w5 hh;exact Aj
theorem nN (a : NR) (w : World) (hT : eh w) (ha : a.bz.size ≤ 100000000) (h1 : -1000000000000 ≤ a.e) (h2 : a.e ≤ 1000000000000) :
  Calls Tryz.prog 118 #[.agg #[.bool a.neg, .string a.bz, .int .i64 a.e]] w fun r w' => r = .returned (.agg #[.bool (nR (-a.d)).neg, .string (nR (-a.d)).bz, .int .i64 (nR (-a.d)).e]) ∧ Below w.heap.size w w' := by
 have hh := Hp.start w;have hc : ∀ w1, eh w1 → Calls Tryz.prog 137 #[.agg #[.bool (iN (-(iv a.neg a.bz))), .string (iM (-(iv a.neg a.bz)))], .int .i64 a.e] w1 fun r w' => r = .returned (.agg #[.bool (nR (-a.d)).neg, .string (nR (-a.d)).bz, .int .i64 (nR (-a.d)).e]) ∧ Below w1.heap.size w1 w' := fun w1 hT1 => by
  have hs := q8 a.neg a.bz;have := gZ (iN (-(iv a.neg a.bz))) (iM (-(iv a.neg a.bz))) a.e w1 hT1 TX h1 h2;rw [e9, ← EM] at this;exact this
 refine aj (N := 9) (l := [.agg #[.bool a.neg, .string a.bz, .int .i64 a.e]]) Tryz.func118 rfl rfl (by simp) ?_;refine sr ?_;refine cD hh [_,_,_] ?_;intro b1 w1 hh;refine bV hh ?_;intro b2 w2 hh;refine aa (ah ?_);refine aV 5 [[(1, none)], [(3, some 0)], [(4, some 1)], [(1, none)], [(6, some 3)]] [(4, 7), (3, 6), (2, 5), (1, 4), (0, 3)] hh mixed TZ ?_;refine ej ?_;refine fU 1 [_,_] ?_;refine dC (fun _ hj => tN a.neg a.bz _) ?_;refine ej ?_;refine fY 1 ?_;refine aR ?_;intro f W hJ hV;have hb_1 := hJ.bl;obtain ⟨v7, v6, v5, v4, v3, _⟩ := hV;replace hh := hJ.hp;refine aY (br (ae v7 (ae v6 (ae v5 (ae v4 (ae v3 aX)))))) ?_;dsimp only [cf];clear hJ;refine bD hh (hc _ (hT.hp hh)) rfl ?_;intro w8 hh;exact Lq
theorem wg (s : Int) (a : NR) (w : World) (hT : eh w) (ha : a.bz.size ≤ 100000000) (h1 : -1000000000 ≤ a.e - s) (h2 : a.e - s ≤ 1000000000) :
  Calls Tryz.prog 194 #[.int .i64 s, .agg #[.bool a.neg, .string a.bz, .int .i64 a.e]] w fun r w' => r = .returned (.agg #[.bool (iN (Dp a.i (a.e - s))), .string (iM (Dp a.i (a.e - s)))]) ∧ Below w.heap.size w w' := by
 have hh := Hp.start w;refine aj (N := 12) (l := [.int .i64 s, .agg #[.bool a.neg, .string a.bz, .int .i64 a.e]]) Tryz.func194 rfl rfl (by simp) ?_;refine sr ?_;refine cD hh [_,_,_] ?_;intro b3 w3 hh;refine bV hh ?_;intro b4 w4 hh;refine aa (sr (bH ?_));refine cG hh 1 [_,_] (bH ?_);refine bG hh 1 ?_;refine mI ?_;refine dY ?_;refine bD hh (pr a.neg a.bz (a.e - s) _ (hT.hp hh) ha h1 h2) rfl ?_;intro w11 hh;exact MG
theorem BN (x : Dyadic) (p : Int) : Dp (nR x).i ((nR x).e - -p) = cO x p := by
 cases x with
 | zero => exact HV _
 | ofOdd n k h =>
  simp only [nR, NR.i, e9, cO];congr 1;omega
theorem ke (x : Dyadic) : nR x = ⟨false, ByteArray.mk #[], 0⟩ ↔ x = 0 := by rw [← lB, Py]
theorem ma {a : NR} (h : a.ok) : Sz 18000000 a.d ∧ (nR a.d).bz.size ≤ 1000000 ∧ -18000000 ≤ (nR a.d).e ∧ (nR a.d).e ≤ 18000000 := by
 obtain ⟨h1, h2, h3⟩ := h;refine ⟨Sz.raw (m := 8000000) (E := 10000000) TX TX TX, ?_⟩;by_cases h0 : iv a.neg a.bz = 0
 ·rw [NR.d, NR.i, h0, kR, lB];exact ⟨T6 _, by simp, by simp⟩
 ·rw [NR.d, NR.i, qO h0];have hz : bN a.bz ≠ 0 := fun h => h0 ((DZ a.neg a.bz).2 h);have htz : tz (bN a.bz) < 8 * a.bz.size + 1 := by
   have := wY a.bz;rw [show (256 : Nat) = 2 ^ 8 from rfl, ← UO] at this;have := wX hz this;omega
  have hb : bF (iv a.neg a.bz / 2 ^ tz (bN a.bz)).natAbs ≤ 8 * a.bz.size := by
   apply dx;refine U8 (Xt _ _) ?_;rw [j2];exact U6 (dm _) (UL TX (gI _))
  simp only;rw [dP];refine ⟨TX, TX, TX⟩
theorem pU (a b : NR) (w : World) (hT : eh w) (ha : a.ok) (hb : b.ok) :
  Calls Tryz.prog 136 #[.agg #[.bool a.neg, .string a.bz, .int .i64 a.e], .agg #[.bool b.neg, .string b.bz, .int .i64 b.e]] w fun r w' => r = .returned (.agg #[.int .i64 (-(dh a.d b.d)), .bool (iN (cO a.d (dh a.d b.d))), .string (iM (cO a.d (dh a.d b.d))), .bool (iN (cO b.d (dh a.d b.d))), .string (iM (cO b.d (dh a.d b.d)))]) ∧ Below w.heap.size w w' := by
 have hh := Hp.start w;obtain ⟨ha1, ha2, ha3⟩ := ha;obtain ⟨hb1, hb2, hb3⟩ := hb;obtain ⟨_, fa1, fa2, fa3⟩ := ma (a := a) ⟨ha1, ha2, ha3⟩;obtain ⟨_, fb1, fb2, fb3⟩ := ma (a := b) ⟨hb1, hb2, hb3⟩;have hP := DT a.d b.d 18000000 TX TX;have hcx := fun w1 hT1 => wg (-(dh a.d b.d)) (nR a.d) w1 hT1 TX TX TX;have hcy := fun w1 hT1 => wg (-(dh a.d b.d)) (nR b.d) w1 hT1 TX TX TX;rw [BN] at hcx hcy;by_cases h0 : a.d = 0
 ·have h0' := (ke a.d).2 h0;have hs : (nR b.d).e = -(dh a.d b.d) := by
   rw [h0]
   cases b.d with
   | zero => rfl
   | ofOdd n k h => rfl
  refine IQ ?_;refine sr ?_;refine cD hh [_,_,_] ?_;intro b2 w2 hh;refine cD hh [_,_,_] ?_;intro b3 w3 hh;refine bV hh ?_;intro b4 w4 hh;refine aa (ah ?_);refine Jo ?_;refine fU 2 [_,_,_] ?_;refine HU ?_;refine fU 1 [_,_,_] ?_;refine aR ?_;intro f W hJ hV;have hb_1 := hJ.bl;obtain ⟨v9, v8, v7, _⟩ := hV;replace hh := hJ.hp;refine aY (br (ae v9 (ae v8 (ae v7 aX)))) ?_;dsimp only [cf];clear hJ;refine bD hh (eB b _ (hT.hp hh) TX TX TX) rfl ?_;intro w10 hh;refine bW hh 2 [_,_,_] ?_;intro ws hh;replace hh : Hp _ (_ :: _ :: .blk _ _ [_, _, _] _ :: _) _ := hh;refine bW hh 1 [_,_,_] ?_;intro ws hh;replace hh : Hp _ (_ :: .blk _ _ [_, _, _] _ :: _) _ := hh;refine aa (sr (bH ?_));refine bG hh 2 ?_;refine bH ?_;refine bG hh 1 ?_;refine wO rfl rfl TY ?_;refine aI (aa (ah (aq (sr ?_))));refine cG hh 2 [_,_,_] ?_;refine gB [_,_,_] ?_;refine ET rfl rfl (by first | assumption | rfl) TY ?_;refine aB (aa (cT (ao (bH ?_))));refine bG hh 1 ?_;refine aI (aA (bE (ai (sr ?_))));exact Sn
 ·have h0' : ¬ nR a.d = ⟨false, ByteArray.mk #[], 0⟩ := fun h => h0 ((ke _).1 h);by_cases h1 : b.d = 0
  ·have h1' := (ke b.d).2 h1;have hs : (nR a.d).e = -(dh a.d b.d) := by
    rw [h1]
    cases a.d with
    | zero => rfl
    | ofOdd n k h => rfl
   refine IQ ?_;refine sr ?_;refine cD hh [_,_,_] ?_;intro b2 w2 hh;refine cD hh [_,_,_] ?_;intro b3 w3 hh;refine bV hh ?_;intro b4 w4 hh;refine aa (ah ?_);refine Jo ?_;refine fU 2 [_,_,_] ?_;refine HU ?_;refine fU 1 [_,_,_] ?_;refine aR ?_;intro f W hJ hV;have hb_1 := hJ.bl;obtain ⟨v9, v8, v7, _⟩ := hV;replace hh := hJ.hp;refine aY (br (ae v9 (ae v8 (ae v7 aX)))) ?_;dsimp only [cf];clear hJ;refine bD hh (eB b _ (hT.hp hh) TX TX TX) rfl ?_;intro w10 hh;refine bW hh 2 [_,_,_] ?_;intro ws hh;replace hh : Hp _ (_ :: _ :: .blk _ _ [_, _, _] _ :: _) _ := hh;refine bW hh 1 [_,_,_] ?_;intro ws hh;replace hh : Hp _ (_ :: .blk _ _ [_, _, _] _ :: _) _ := hh;refine aa (sr (bH ?_));refine bG hh 2 ?_;refine bH ?_;refine bG hh 1 ?_;refine wO rfl rfl TY ?_;refine aI (aa (ah (aq (sr ?_))));refine cG hh 2 [_,_,_] ?_;refine gB [_,_,_] ?_;refine xh rfl rfl (by assumption) TY ?_;refine aB (aa (cF (sr ?_)));refine cG hh 1 [_,_,_] ?_;refine gB [_,_,_] ?_;refine ET rfl rfl (by first | assumption | rfl) TY ?_;refine aB (aa (cT (ao (bH ?_))));refine bG hh 2 ?_;refine aI (aA (bE (ai (sr ?_))));exact Sn
  ·have h1' : ¬ nR b.d = ⟨false, ByteArray.mk #[], 0⟩ := fun h => h1 ((ke _).1 h);have hs : (if (nR b.d).e < (nR a.d).e then (nR b.d).e else (nR a.d).e) = -(dh a.d b.d) := by
    revert h0 h1
    cases a.d with
    | zero => intro h; exact absurd rfl h
    | ofOdd n k h =>
     cases b.d with
     | zero => intro _ h; exact absurd rfl h
     | ofOdd m l g =>
      intro _ _;simp only [nR, dh];omega
   refine IQ ?_;refine sr ?_;refine cD hh [_,_,_] ?_;intro b2 w2 hh;refine cD hh [_,_,_] ?_;intro b3 w3 hh;refine bV hh ?_;intro b4 w4 hh;refine aa (ah ?_);refine Jo ?_;refine fU 2 [_,_,_] ?_;refine HU ?_;refine fU 1 [_,_,_] ?_;refine aR ?_;intro f W hJ hV;have hb_1 := hJ.bl;obtain ⟨v9, v8, v7, _⟩ := hV;replace hh := hJ.hp;refine aY (br (ae v9 (ae v8 (ae v7 aX)))) ?_;dsimp only [cf];clear hJ;refine bD hh (eB b _ (hT.hp hh) TX TX TX) rfl ?_;intro w10 hh;refine bW hh 2 [_,_,_] ?_;intro ws hh;replace hh : Hp _ (_ :: _ :: .blk _ _ [_, _, _] _ :: _) _ := hh;refine bW hh 1 [_,_,_] ?_;intro ws hh;replace hh : Hp _ (_ :: .blk _ _ [_, _, _] _ :: _) _ := hh;refine aa (sr (bH ?_));refine bG hh 2 ?_;refine bH ?_;refine bG hh 1 ?_;refine wO rfl rfl TY ?_;refine aI (aa (ah (aq (sr ?_))));refine cG hh 2 [_,_,_] ?_;refine gB [_,_,_] ?_;refine xh rfl rfl (by assumption) TY ?_;refine aB (aa (cF (sr ?_)));refine cG hh 1 [_,_,_] ?_;refine gB [_,_,_] ?_;refine xh rfl rfl (by assumption) TY ?_;refine aB (aa (cF (ar (bE (ai (sr ?_))))));exact Sn
end
def kZ (x y : Dyadic) : Int := if x < y then -1 else if y < x then 1 else 0
theorem zV (i j p : Int) : (i - j).sign = kZ (Dyadic.ofIntWithPrec i p) (Dyadic.ofIntWithPrec j p) := by
 unfold kZ;simp only [sX]
 rcases WW i j with h | h | h
 ·rw [T2 h, VB TX]
 ·subst h; simp
 ·rw [T3 TX, T2 h, VA TX]
theorem B2 (i p : Int) : i.sign = kZ (Dyadic.ofIntWithPrec i p) 0 := by
 have := zV i 0 p;rwa [Int.sub_zero, kR] at this
theorem NR.sign (a : NR) : a.i.sign = kZ a.d 0 := B2 _ _
theorem yL (x y : Dyadic) : (cO x (dh x y) - cO y (dh x y)).sign = kZ x y := by
 rw [zV _ _ (dh x y), G0, Kt]
theorem Fw (X Y : Int) (h : X.sign ≠ Y.sign) : (if (if X.sign - Y.sign < 1 then X.sign - Y.sign else 1) > -1 then (if X.sign - Y.sign < 1 then X.sign - Y.sign else 1) else -1) = (X - Y).sign := by
 rcases WW X 0 with hx | hx | hx <;> rcases WW Y 0 with hy | hy | hy
 ·rw [VB hx, VB hy] at h; omega
 ·rw [VB hx, hy, Int.sub_zero, VB hx]; simp
 ·rw [VB hx, VA hy, VB TX]; simp
 ·subst hx; rw [Int.sign_zero, VB hy, VA (a := 0 - Y) TX]; simp
 ·rw [hx, hy] at h; omega
 ·subst hx; rw [Int.sign_zero, VA hy, VB (a := 0 - Y) TX]; simp
 ·rw [VA hx, VB hy, VA TX]; simp
 ·rw [VA hx, hy, Int.sub_zero, VA hx]; simp
 ·rw [VA hx, VA hy] at h; omega
theorem qL {a b : NR} (ha : a.ok) (hb : b.ok) : (iM (cO a.d (dh a.d b.d))).size ≤ 6000000 ∧ (iM (cO b.d (dh a.d b.d))).size ≤ 6000000 ∧ -18000000 ≤ dh a.d b.d ∧ dh a.d b.d ≤ 18000000 := by
 obtain ⟨_, fa1, fa2, fa3⟩ := ma ha;obtain ⟨_, fb1, fb2, fb3⟩ := ma hb;have hP := DT a.d b.d 18000000 TX TX;have h1 := ux a.d (dh a.d b.d);have h2 := ux b.d (dh a.d b.d);rw [dP, dP];refine ⟨TX, TX, hP.1, hP.2⟩
theorem Ed (i : Int) : -1 ≤ i.sign ∧ i.sign ≤ 1 := by
 rcases WW i 0 with h | h | h
 ·rw [VB h]; omega
 ·rw [h]; simp
 ·rw [VA h]; omega
theorem nY (a b : NR) (w : World) (hT : eh w) (ha : a.ok) (hb : b.ok) :
  Calls Tryz.prog 184 #[.agg #[.bool a.neg, .string a.bz, .int .i64 a.e], .agg #[.bool b.neg, .string b.bz, .int .i64 b.e]] w fun r w' => r = .returned (.int .i64 (kZ a.d b.d)) ∧ Below w.heap.size w w' := by
 have hh := Hp.start w;obtain ⟨hs1, hs2, _⟩ := qL ha hb;have hsa : a.i.sign = (cO a.d (dh a.d b.d)).sign := by rw [NR.sign, B2 _ (dh a.d b.d), G0]
 have hsb : b.i.sign = (cO b.d (dh a.d b.d)).sign := by rw [NR.sign, B2 _ (dh a.d b.d), Kt]
 have hba := Ed a.i;have hbb := Ed b.i;by_cases hne : a.i.sign = b.i.sign
 ·refine NJ ?_;refine sr ?_;refine cD hh [_,_,_] ?_;intro b2 w2 hh;refine cD hh [_,_,_] ?_;intro b3 w3 hh;refine aI (aa (ah (ah ?_)));refine aV 3 [[(2, none)], [(8, some 0)], [(3, none)]] [(2, 10), (1, 9), (0, 8)] hh mixed TZ ?_;refine fU 1 [_,_,_] ?_;refine dC (fun _ hj => gY a _) ?_;refine fU 0 [_,_,_] ?_;refine aR ?_;intro f W hJ hV;have hb_1 := hJ.bl;obtain ⟨v10, v9, v8, _⟩ := hV;replace hh := hJ.hp;refine aY (br (ae v10 (ae v9 (ae v8 aX)))) ?_;dsimp only [cf];clear hJ;refine bD hh (gY b _) rfl ?_;intro w11 hh;refine aI (aI (aa (sr (mI (mI ?_)))));refine tW ?_;refine cG hh 1 [_,_,_] ?_;refine cG hh 0 [_,_,_] ?_;refine bD hh (pU a b _ (hT.hp hh) ha hb) rfl ?_;intro w22 hh;refine bV hh ?_;intro b7 w7 hh;refine bW hh 0 [_,_,_,_,_] ?_;intro ws hh;replace hh : Hp _ (.blk _ _ [_, _, _, _, _] _ :: _) _ := hh;refine aa (sr (bH ?_));refine cG hh 0 [_,_] (bH ?_);refine cG hh 0 [_,_] ?_;refine bD hh (Ca _ _ _ _ _ TX TX) rfl ?_;intro w27 hh;rw [e9, e9, yL];exact Aj
 ·refine NJ ?_;refine sr ?_;refine cD hh [_,_,_] ?_;intro b2 w2 hh;refine cD hh [_,_,_] ?_;intro b3 w3 hh;refine aI (aa (ah (ah ?_)));refine aV 3 [[(2, none)], [(8, some 0)], [(3, none)]] [(2, 10), (1, 9), (0, 8)] hh mixed TZ ?_;refine fU 1 [_,_,_] ?_;refine dC (fun _ hj => gY a _) ?_;refine fU 0 [_,_,_] ?_;refine aR ?_;intro f W hJ hV;have hb_1 := hJ.bl;obtain ⟨v10, v9, v8, _⟩ := hV;replace hh := hJ.hp;refine aY (br (ae v10 (ae v9 (ae v8 aX)))) ?_;dsimp only [cf];clear hJ;refine bD hh (gY b _) rfl ?_;intro w11 hh;refine aI (aI (aa (sr (mI (mI ?_)))));refine dn (aa (cT (sr (mI (mI ?_)))));refine dY ?_;refine wO rfl rfl TY ?_;refine kQ rfl rfl TY ?_;refine aI (aa (au (aG ?_)));refine cZ ?_;refine ⟨?_, hh.below⟩;rw [hsa, hsb] at hne;rw [hsa, hsb, ← yL a.d b.d, ← Fw _ _ hne]
def pd (n : Int) : Dyadic := Dyadic.ofIntWithPrec 1 (-n)
theorem KB (i p n : Int) : Dyadic.ofIntWithPrec i (p - n) = Dyadic.ofIntWithPrec i p * pd n := by
 rw [pd, sy, Int.mul_one]; rfl
def mg : List Dyadic → Dyadic := fun l => l.foldl (· + ·) 0
theorem wC (l : List Dyadic) (x : Dyadic) : mg (l ++ [x]) = mg l + x := by simp [mg]
theorem Sz.sum {l : List Dyadic} (h : ∀ x ∈ l, Sz k x) : Sz (k + l.length) (mg l) := by
 have : ∀ (n : Nat), n ≤ l.length → Sz (k + n) (mg (l.take n)) := by
  intro n
  induction n with
  | zero => intro _; exact Sz.zero _
  | succ n ih =>
   intro hn;obtain ⟨x, hx⟩ := ak (l := l) (k := n) TX;rw [ay hx, wC];exact (ih TX).add ((h x (T7 hx)).mono TX)
 have h2 := this l.length (T5 _);rwa [WN] at h2
theorem sP (a b : NR) (w : World) (hT : eh w) (ha : a.ok) (hb : b.ok) :
  Calls Tryz.prog 137 #[.agg #[.bool (iN (cO a.d (dh a.d b.d) + cO b.d (dh a.d b.d))), .string (iM (cO a.d (dh a.d b.d) + cO b.d (dh a.d b.d)))], .int .i64 (-(dh a.d b.d))] w fun r w' => r = .returned (.agg #[.bool (nR (a.d + b.d)).neg, .string (nR (a.d + b.d)).bz, .int .i64 (nR (a.d + b.d)).e]) ∧ Below w.heap.size w w' := by
 obtain ⟨hs1, hs2, hP1, hP2⟩ := qL ha hb;rw [dP] at hs1 hs2;have h3 := oK (cO a.d (dh a.d b.d)) (cO b.d (dh a.d b.d));have := gZ (iN (cO a.d (dh a.d b.d) + cO b.d (dh a.d b.d))) (iM (cO a.d (dh a.d b.d) + cO b.d (dh a.d b.d))) (-(dh a.d b.d)) w hT (by rw [dP]; omega) TX TX;rw [e9, Int.neg_neg, K3] at this;exact this
theorem iY (L : Option Addr) (n c : Nat) (l : List NR) (w : World) (hT : eh w) (hS : Sl w L n 3 (az NR.cells l)) (hl : ∀ a ∈ l, a.ok) (k : Nat) (hk : ∀ a ∈ l, Sz k a.d) (hkn : k + n ≤ 3999990) :
  Calls Tryz.prog 47 #[.slice L n c] w fun r w' => r = .returned (.agg #[.bool (nR (mg (l.map NR.d))).neg, .string (nR (mg (l.map NR.d))).bz, .int .i64 (nR (mg (l.map NR.d))).e]) ∧ Below w.heap.size w w' := by
 have hln := hS.bq NR.len TX;have hh := Hp.start w;refine aj (N := 27) (l := [.slice L n c]) Tryz.func47 rfl rfl (by simp) ?_;refine sr ?_;refine bV hh ?_;intro b2 w2 hh;refine aa (sr ?_);refine bV hh ?_;intro b3 w3 hh;refine vS ?_;refine aP [5, 6, 9, 10, 11, 12, 13, 14, 15, 16, 17, 18, 19, 20, 21, 22, 23, 24, 25] 9
  (fun j w' => ∃ (i : Nat) (S : Dyadic), i ≤ n ∧ j = .int .i64 i ∧ S = mg ((l.take i).map NR.d) ∧ Hp w [.blk b3 65 [.bool (nR S).neg, .string (nR S).bz, .int .i64 (nR S).e] (0, 0), .blk b2 65 [.bool false, .string (ByteArray.mk #[]), .int .i64 0] (0, 0)] w')
  (fun j _ => n - (intOf j).toNat) ?_ ?_
 ·exact ⟨0, 0, T6 _, rfl, rfl, hh⟩
 ·clear hh;rintro ρ' j w' ⟨i, S, hi, rfl, hS2, hh⟩;by_cases hlt : i < n
  ·obtain ⟨x, hx⟩ := ak (l := l) (k := i) TX;obtain ⟨ad, rfl, hr⟩ := hS.at_ TX;have hxm := T7 hx;have hS3 : mg ((l.take (i + 1)).map NR.d) = S + x.d := by rw [ay hx, UU, Wu, wC, hS2]
   have hSz : Sz (k + i) S := by
    rw [hS2];have := Sz.sum (k := k) (l := (l.take i).map NR.d) (fun y hy => by
     obtain ⟨a, ha, rfl⟩ := Ui.1 hy;exact hk a (Wa ha))
    rw [Ug, Us, U0 TX] at this;exact this
   have hSo := hSz.ok TX;have hlc := fun w1 hT1 => pU (nR S) x w1 hT1 hSo (hl x hxm);have hmc := fun w1 hT1 => sP (nR S) x w1 hT1 hSo (hl x hxm);obtain ⟨hs1, hs2, _⟩ := qL hSo (hl x hxm);rw [bR] at hlc hmc hs1 hs2;have e1 : ([iR (cO S (dh S x.d)), iR (cO x.d (dh S x.d))].map IR.v).sum = cO S (dh S x.d) + cO x.d (dh S x.d) := by
    simp only [Ut, UR, List.sum_cons, List.sum_nil, RI]; omega
   have hac : ∀ (A : Option Addr) (cc : Nat) (w1 : World), Sl w1 A 2 2 (az IR.cells [iR (cO S (dh S x.d)), iR (cO x.d (dh S x.d))]) → Calls Tryz.prog 138 #[.slice A 2 cc] w1 fun e w' => e = .returned (.agg #[.bool (iN (cO S (dh S x.d) + cO x.d (dh S x.d))), .string (iM (cO S (dh S x.d) + cO x.d (dh S x.d)))]) ∧ Below w1.heap.size w1 w' := fun A cc w1 hsl => by
    have := sG A 2 cc [iR (cO S (dh S x.d)), iR (cO x.d (dh S x.d))] w1 hsl TX (by simp [iR]; omega);rw [e1] at this;exact this
   refine sr ?_;refine dO ?_;refine cu ?_;refine EL ?_;refine bV hh ?_;intro b5 w5 hh;refine bW hh 0 [_,_,_] ?_;intro ws hh;replace hh : Hp _ (.blk _ _ [_, _, _] _ :: _) _ := hh;refine aa (sr ?_);refine cG hh 1 [_,_,_] ?_;refine cG hh 0 [_,_,_] ?_;refine bD hh (hlc _ (hT.hp hh)) rfl ?_;intro w15 hh;refine bV hh ?_;intro b6 w6 hh;refine bW hh 0 [_,_,_,_,_] ?_;intro ws hh;replace hh : Hp _ (.blk _ _ [_, _, _, _, _] _ :: _) _ := hh;refine aa ?_;refine aV 8 [[(6, none)], [(16, some 0)], [(6, none)], [(18, some 2)], [(17, some 1), (19, some 3)], [(20, some 4)], [(6, none)], [(22, some 6)]] [(7, 23), (6, 22), (5, 21), (4, 20), (3, 19), (2, 18), (1, 17), (0, 16)] hh mixed TZ ?_;refine ej ?_;refine fU 0 [_,_] ?_;refine ej ?_;refine fU 0 [_,_] ?_;refine tQ [_,_,_,_] ?_;refine aT (i := 5) (Is (.agg #[.bool (iN (cO S (dh S x.d) + cO x.d (dh S x.d))), .string (iM (cO S (dh S x.d) + cO x.d (dh S x.d)))])) Is.ext ?_ ?_
   ·intro ρ1 w1 hj hR;obtain ⟨A20, c20, h20, s20⟩ := hR.1;exact bf rfl (aO al.out (aw h20 aZ)) (hac A20 c20 _ s20) (fun _ _ hq => ⟨_, hq.1, hq.2, rfl⟩)
   refine ej ?_;refine fY 0 ?_;refine aR ?_;intro f W hJ hV;have hb_6 := hJ.bl;obtain ⟨v23, v22, v21, v20, v19, v18, v17, v16, _⟩ := hV;obtain ⟨A20, c20, e20, f20⟩ : Rows _ _ _ (f 4) W := v20;replace hh := hJ.hp;refine aY (br (ae v23 (ae v22 (ae v21 (ae e20 (ae v19 (ae v18 (ae v17 (ae v16 aX))))))))) ?_;dsimp only [cf];clear e20 hJ;refine bD hh (hmc _ (hT.hp hh)) rfl ?_;intro w24 hh;refine bW hh 2 [_,_,_] ?_;intro ws hh;replace hh : Hp _ (_ :: _ :: .blk _ _ [_, _, _] _ :: _) _ := hh;refine fM ?_;refine bj (mI (aA (ai ?_)));replace hh := hh.sub ((UM _ _).trans (UM _ _));exact Oj
  ·exact Qo
theorem kS (x y : Dyadic) : mg [x, y] = x + y := by
 show (0 + x) + y = x + y;rw [Wk]
theorem j6 (a b : NR) (w : World) (hT : eh w) (ha : a.ok) (hb : b.ok) (k : Nat) (hka : Sz k a.d) (hkb : Sz k b.d) (hk : k ≤ 3999980) :
  Calls Tryz.prog 52 #[.agg #[.bool a.neg, .string a.bz, .int .i64 a.e], .agg #[.bool b.neg, .string b.bz, .int .i64 b.e]] w fun r w' => r = .returned (.agg #[.bool (nR (a.d - b.d)).neg, .string (nR (a.d - b.d)).bz, .int .i64 (nR (a.d - b.d)).e]) ∧ Below w.heap.size w w' := by
 have hh := Hp.start w;obtain ⟨hb1, hb2, hb3⟩ := hb;have e1 : mg ([a, nR (-b.d)].map NR.d) = a.d - b.d := by
  simp only [Ut, UR, bR, kS]; rfl
 have hac : ∀ (A : Option Addr) (cc : Nat) (w1 : World), eh w1 → Sl w1 A 2 3 (az NR.cells [a, nR (-b.d)]) → Calls Tryz.prog 47 #[.slice A 2 cc] w1 fun r w' => r = .returned (.agg #[.bool (nR (a.d - b.d)).neg, .string (nR (a.d - b.d)).bz, .int .i64 (nR (a.d - b.d)).e]) ∧ Below w1.heap.size w1 w' := fun A cc w1 hT1 hsl => by
  have := iY A 2 cc [a, nR (-b.d)] w1 hT1 hsl (by simpa using ⟨ha, hkb.neg.ok TX⟩) k (by simpa [bR] using ⟨hka, hkb.neg⟩) TX;rw [e1] at this;exact this
 refine aj (N := 10) (l := [.agg #[.bool a.neg, .string a.bz, .int .i64 a.e], .agg #[.bool b.neg, .string b.bz, .int .i64 b.e]]) Tryz.func52 rfl rfl (by simp) ?_;refine sr ?_;refine cD hh [_,_,_] ?_;intro b2 w2 hh;refine cD hh [_,_,_] ?_;intro b3 w3 hh;refine bV hh ?_;intro b4 w4 hh;refine aa (ah ?_);refine aV 3 [[(2, none)], [(3, none)], [(6, some 1)]] [(2, 7), (1, 6), (0, 5)] hh mixed TZ ?_;refine fU 2 [_,_,_] ?_;refine fU 1 [_,_,_] ?_;refine dC (fun _ hj => nN b _ (hT.hp hj.hp) TX TX TX) ?_;refine aR ?_;intro f W hJ hV;have hb_1 := hJ.bl;obtain ⟨v7, v6, v5, _⟩ := hV;replace hh := hJ.hp;refine aY (br (ae v7 (ae v6 (ae v5 aX)))) ?_;dsimp only [cf];clear hJ;refine s9 ?_;intro b8 w8 hh;refine bD hh (hac _ _ _ (hT.hp hh) (hh.aC (i := 0) rfl)) rfl ?_;intro w9 hh;exact PJ
def g8 : List Dyadic → Dyadic := fun l => l.foldl (· * ·) 1
theorem ug (l : List Dyadic) (x : Dyadic) : g8 (l ++ [x]) = g8 l * x := by simp [g8]
theorem Sz.one : Sz 1 1 := ⟨2, by decide +kernel, TY⟩
theorem Sz.prod {l : List Dyadic} (h : ∀ x ∈ l, Sz k x) : Sz (1 + k * l.length) (g8 l) := by
 have : ∀ (n : Nat), n ≤ l.length → Sz (1 + k * n) (g8 (l.take n)) := by
  intro n
  induction n with
  | zero => intro _; exact Sz.one
  | succ n ih =>
   intro hn;obtain ⟨x, hx⟩ := ak (l := l) (k := n) TX;rw [ay hx, ug];exact ((ih TX).mul (h x (T7 hx))).mono (by rw [VM]; omega)
 have h2 := this l.length (T5 _);rwa [WN] at h2
theorem eI (L : Option Addr) (n c : Nat) (l : List NR) (w : World) (hT : eh w) (hS : Sl w L n 3 (az NR.cells l)) (hl : ∀ a ∈ l, a.ok) (k : Nat) (hk : ∀ a ∈ l, Sz k a.d) (hkn : k * n ≤ 3999980) (hn : n ≤ 1000000) :
  Calls Tryz.prog 48 #[.slice L n c] w fun r w' => r = .returned (.agg #[.bool (nR (g8 (l.map NR.d))).neg, .string (nR (g8 (l.map NR.d))).bz, .int .i64 (nR (g8 (l.map NR.d))).e]) ∧ Below w.heap.size w w' := by
 have hln := hS.bq NR.len TX;have hh := Hp.start w;refine aj (N := 27) (l := [.slice L n c]) Tryz.func48 rfl rfl (by simp) ?_;refine sr ?_;refine bV hh ?_;intro b2 w2 hh;refine aa (sr ?_);refine Ai ?_;intro w6 hh;refine bV hh ?_;intro b3 w3 hh;refine bW hh 0 [_,_,_] ?_;intro ws hh;replace hh : Hp _ (.blk _ _ [_, _, _] _ :: _) _ := hh;refine vS ?_;refine aP [5, 9, 10, 11, 12, 13, 14, 15, 16, 17, 18, 19, 20, 21, 22, 23, 24, 25] 9
  (fun j w' => ∃ (i : Nat) (S : Dyadic), i ≤ n ∧ j = .int .i64 i ∧ S = g8 ((l.take i).map NR.d) ∧ Hp w [.blk b3 65 [.bool (nR S).neg, .string (nR S).bz, .int .i64 (nR S).e] (0, 0), .blk b2 65 [.bool false, .string (ByteArray.mk #[]), .int .i64 0] (0, 0)] w')
  (fun j _ => n - (intOf j).toNat) ?_ ?_
 ·exact ⟨0, _, T6 _, rfl, rfl, hh⟩
 ·clear hh;rintro ρ' j w' ⟨i, S, hi, rfl, hS2, hh⟩;by_cases hlt : i < n
  ·obtain ⟨x, hx⟩ := ak (l := l) (k := i) TX;obtain ⟨ad, rfl, hr⟩ := hS.at_ TX;have hxm := T7 hx;have hS3 : g8 ((l.take (i + 1)).map NR.d) = S * x.d := by rw [ay hx, UU, Wu, ug, hS2]
   have hSz : Sz (1 + k * i) S := by
    rw [hS2];have := Sz.prod (k := k) (l := (l.take i).map NR.d) (fun y hy => by
     obtain ⟨a, ha, rfl⟩ := Ui.1 hy;exact hk a (Wa ha))
    rw [Ug, Us, U0 TX] at this;exact this
   have hki : k * i ≤ k * n := Uz _ hi;obtain ⟨so1, so2, so3⟩ := hSz.ok TX;obtain ⟨xo1, xo2, xo3⟩ := hl x hxm;have e1 : md ([IR.mk (nR S).neg (nR S).bz, IR.mk x.neg x.bz].map IR.v) = (nR S).i * x.i := by
    simp only [Ut, UR, md, Int.mul_one]; rfl
   have e2 : Dyadic.ofIntWithPrec ((nR S).i * x.i) (-((nR S).e + x.e)) = S * x.d := by
    have := sy (nR S).i x.i (-(nR S).e) (-x.e);rw [Int.neg_add, ← this];congr 1;exact bR S
   have hac : ∀ (A : Option Addr) (cc : Nat) (w1 : World), Sl w1 A 2 2 (az IR.cells [IR.mk (nR S).neg (nR S).bz, IR.mk x.neg x.bz]) → Calls Tryz.prog 139 #[.slice A 2 cc] w1 fun e w' => e = .returned (.agg #[.bool (iN ((nR S).i * x.i)), .string (iM ((nR S).i * x.i))]) ∧ Below w1.heap.size w1 w' := fun A cc w1 hsl => by
    have := BT A 2 cc [IR.mk (nR S).neg (nR S).bz, IR.mk x.neg x.bz] w1 hsl TX (by simp; omega);rw [e1] at this;exact this
   have hmc : ∀ w1, eh w1 → Calls Tryz.prog 137 #[.agg #[.bool (iN ((nR S).i * x.i)), .string (iM ((nR S).i * x.i))], .int .i64 ((nR S).e + x.e)] w1 fun r w' => r = .returned (.agg #[.bool (nR (S * x.d)).neg, .string (nR (S * x.d)).bz, .int .i64 (nR (S * x.d)).e]) ∧ Below w1.heap.size w1 w' := fun w1 hT1 => by
    have hb1 := kq (nR S).neg (nR S).bz;have hb2 := kq x.neg x.bz;have hb3 := lR (nR S).i x.i;have := gZ (iN ((nR S).i * x.i)) (iM ((nR S).i * x.i)) ((nR S).e + x.e) w1 hT1 (by rw [dP]; unfold NR.i at hb3 ⊢; omega) TX TX;rw [e9, e2] at this;exact this
   refine sr ?_;refine dO ?_;refine cu ?_;refine EL ?_;refine bV hh ?_;intro b5 w5 hh;refine bW hh 0 [_,_,_] ?_;intro ws hh;replace hh : Hp _ (.blk _ _ [_, _, _] _ :: _) _ := hh;refine aa ?_;refine aV 11 [[(3, none)], [(13, some 0)], [(5, none)], [(15, some 2)], [(14, some 1), (16, some 3)], [(17, some 4)], [(3, none)], [(19, some 6)], [(5, none)], [(21, some 8)], [(20, some 7), (22, some 9)]] [(10, 23), (9, 22), (8, 21), (7, 20), (6, 19), (5, 18), (4, 17), (3, 16), (2, 15), (1, 14), (0, 13)] hh mixed TZ ?_;refine ej ?_;refine fU 1 [_,_] ?_;refine ej ?_;refine fU 0 [_,_] ?_;refine tQ [_,_,_,_] ?_;refine aT (i := 5) (Is (.agg #[.bool (iN ((nR S).i * x.i)), .string (iM ((nR S).i * x.i))])) Is.ext ?_ ?_
   ·intro ρ1 w1 hj hR;obtain ⟨A17, c17, h17, s17⟩ := hR.1;exact bf rfl (aO al.out (aw h17 aZ)) (hac A17 c17 _ s17) (fun _ _ hq => ⟨_, hq.1, hq.2, rfl⟩)
   refine ej ?_;refine fY 1 ?_;refine ej ?_;refine fY 0 ?_;refine rS ?_;refine aR ?_;intro f W hJ hV;have hb_5 := hJ.bl;obtain ⟨v23, v22, v21, v20, v19, v18, v17, v16, v15, v14, v13, _⟩ := hV;obtain ⟨A17, c17, e17, f17⟩ : Rows _ _ _ (f 4) W := v17;replace hh := hJ.hp;refine aY (br (ae v23 (ae v22 (ae v21 (ae v20 (ae v19 (ae v18 (ae e17 (ae v16 (ae v15 (ae v14 (ae v13 aX)))))))))))) ?_;dsimp only [cf];clear e17 hJ;refine bD hh (hmc _ (hT.hp hh)) rfl ?_;intro w24 hh;refine bW hh 1 [_,_,_] ?_;intro ws hh;replace hh : Hp _ (_ :: .blk _ _ [_, _, _] _ :: _) _ := hh;refine fM ?_;refine bj (mI (aA (ai ?_)));replace hh := hh.sub (UM _ _);exact Oj
  ·exact Qo
theorem L4 (i p : Int) (n : Nat) : Dyadic.ofIntWithPrec i p ^ n = Dyadic.ofIntWithPrec (i ^ n) (p * n) := by
 induction n with
 | zero => rw [WB]; simp; rfl
 | succ n ih => rw [Xf, ih, sy, Int.pow_succ, V0, Int.mul_add]; simp
theorem Rn (i p : Int) : (nR (Dyadic.ofIntWithPrec i p)).bz.size ≤ (bF i.natAbs + 7) / 8 ∧ (i = 0 ∨ -p ≤ (nR (Dyadic.ofIntWithPrec i p)).e ∧ (nR (Dyadic.ofIntWithPrec i p)).e ≤ -p + bF i.natAbs) ∧ (i = 0 → (nR (Dyadic.ofIntWithPrec i p)).e = 0) := by
 by_cases h0 : i = 0
 ·subst h0;rw [kR, lB];exact ⟨T6 _, .inl rfl, fun _ => rfl⟩
 ·have h2 := kW h0;rw [yx h0, nR];simp only;refine ⟨?_, .inr ⟨TX, ?_⟩, fun h => absurd h h0⟩
  ·rw [dP];have : bF (i >>> i.trailingZeros).natAbs ≤ bF i.natAbs := by
    apply dx;refine U8 ?_ (dm _);rw [Int.shiftRight_eq_div_pow];exact Xt _ _
   omega
  ·have h3 : 2 ^ i.trailingZeros < 2 ^ bF i.natAbs := U8 h2 (dm _);have := (Xr TX).1 h3;omega
theorem oE (a : NR) (n : Int) (w : World) (hT : eh w) (ha : a.ok) (hs : n.toNat * a.bz.size ≤ 1000000) (hn : n ≤ 1000) :
  Calls Tryz.prog 51 #[.agg #[.bool a.neg, .string a.bz, .int .i64 a.e], .int .i64 n] w fun r w' => r = .returned (.agg #[.bool (nR (a.d ^ n.toNat)).neg, .string (nR (a.d ^ n.toNat)).bz, .int .i64 (nR (a.d ^ n.toNat)).e]) ∧ Below w.heap.size w w' := by
 have hh := Hp.start w;obtain ⟨ha1, ha2, ha3⟩ := ha;obtain ⟨_, fa1, fa2, fa3⟩ := ma (a := a) ⟨ha1, ha2, ha3⟩;have hsz : (nR a.d).bz.size ≤ a.bz.size := by
  have := (Rn a.i (-a.e)).1;have h2 := kq a.neg a.bz;unfold NR.d NR.i at *;omega
 have hms : n.toNat * (nR a.d).bz.size ≤ n.toNat * a.bz.size := Uz _ hsz;have e1 : (if (0 : Int) > n then 0 else n) = (n.toNat : Int) := by split <;> omega
 have hm : n.toNat ≤ 1000 := TX;have hlo : -18000000 * 1000 ≤ (nR a.d).e * (n.toNat : Int) := by
  have h1 : (-18000000 : Int) * n.toNat ≤ (nR a.d).e * n.toNat := Int.mul_le_mul_of_nonneg_right fa2 TX;omega
 have hhi : (nR a.d).e * (n.toNat : Int) ≤ 18000000 * 1000 := by
  have h1 : (nR a.d).e * n.toNat ≤ (18000000 : Int) * n.toNat := Int.mul_le_mul_of_nonneg_right fa3 TX;omega
 have hpc := fun w1 => Cj (nR a.d).neg (nR a.d).bz n w1 TX TX TX;have hmc : ∀ w1, eh w1 → Calls Tryz.prog 137 #[.agg #[.bool (iN (iv (nR a.d).neg (nR a.d).bz ^ n.toNat)), .string (iM (iv (nR a.d).neg (nR a.d).bz ^ n.toNat))], .int .i64 ((nR a.d).e * (n.toNat : Int))] w1 fun r w' => r = .returned (.agg #[.bool (nR (a.d ^ n.toNat)).neg, .string (nR (a.d ^ n.toNat)).bz, .int .i64 (nR (a.d ^ n.toNat)).e]) ∧ Below w1.heap.size w1 w' := fun w1 hT1 => by
  have hb := pB (iv (nR a.d).neg (nR a.d).bz) n.toNat;have hb2 := kq (nR a.d).neg (nR a.d).bz;have hb3 : n.toNat * bF (iv (nR a.d).neg (nR a.d).bz).natAbs ≤ n.toNat * (8 * (nR a.d).bz.size) := Uz _ hb2;rw [Xn] at hb3;have := gZ (iN (iv (nR a.d).neg (nR a.d).bz ^ n.toNat)) (iM (iv (nR a.d).neg (nR a.d).bz ^ n.toNat)) ((nR a.d).e * (n.toNat : Int)) w1 hT1 (by rw [dP]; omega) TX TX;have e2 : Dyadic.ofIntWithPrec (iv (nR a.d).neg (nR a.d).bz ^ n.toNat) (-((nR a.d).e * (n.toNat : Int))) = a.d ^ n.toNat := by
   have h3 := bR a.d
   conv => rhs; rw [← h3, NR.d, L4]
   rw [Int.neg_mul]; rfl
  rw [e9, e2] at this;exact this
 refine aj (N := 17) (l := [.agg #[.bool a.neg, .string a.bz, .int .i64 a.e], .int .i64 n]) Tryz.func51 rfl rfl (by simp) ?_;refine sr ?_;refine cD hh [_,_,_] ?_;intro b2 w2 hh;refine bV hh ?_;intro b4 w4 hh;refine aa (sr ?_);refine cG hh 1 [_,_,_] ?_;refine bD hh (eB a _ (hT.hp hh) TX TX TX) rfl ?_;intro w6 hh;refine bW hh 1 [_,_,_] ?_;intro ws hh;replace hh : Hp _ (_ :: .blk _ _ [_, _, _] _ :: _) _ := hh;refine aa (ah ?_);refine aV 9 [[(2, none)], [(7, some 0)], [(1, none)], [(8, some 1), (9, some 2)], [(2, none)], [(11, some 4)], [(1, none)], [(13, some 6)], [(12, some 5), (14, some 7)]] [(8, 15), (7, 14), (6, 13), (5, 12), (4, 11), (3, 10), (2, 9), (1, 8), (0, 7)] hh mixed TZ ?_;refine ej ?_;refine fU 1 [_,_] ?_;refine dF ?_;refine dC (fun _ hj => hpc _) ?_;refine ej ?_;refine fY 1 ?_;refine dF ?_;refine aT (i := 7) (Is (.int .i64 (n.toNat : Int))) (Is.ext) ?_ ?_
 ·intro ρ1 w1 hj hR;exact fG rfl ((NF (ρ := ρ1) (x := .tmp 13) (show ρ1 13 = Value.int .i64 n from hR.1) rfl).trans (by rw [e1])) ⟨Below.refl _ _, rfl⟩
 refine QO ?_;refine aR ?_;intro f W hJ hV;have hb_2 := hJ.bl;obtain ⟨v15, v14, v13, v12, v11, v10, v9, v8, v7, _⟩ := hV;replace hh := hJ.hp;refine aY (br (ae v15 (ae v14 (ae v13 (ae v12 (ae v11 (ae v10 (ae v9 (ae v8 (ae v7 aX)))))))))) ?_;dsimp only [cf];clear hJ;refine bD hh (hmc _ (hT.hp hh)) rfl ?_;intro w16 hh;exact Lq
def iD (f : Dyadic → Dyadic → Bool) : List Dyadic → Dyadic
 | [] => 0
 | a :: r => r.foldl (fun out a => if f a out then a else out) a
theorem Ce (f : Dyadic → Dyadic → Bool) {l : List Dyadic} (h : l ≠ []) (x : Dyadic) : iD f (l ++ [x]) = if f x (iD f l) then x else iD f l := by
 cases l with
 | nil => exact absurd rfl h
 | cons a r =>
  show (r ++ [x]).foldl _ a = _;rw [Xi]
  rfl
theorem oH (L : Option Addr) (n c : Nat) (l : List NR) (g : FuncId) (f : Dyadic → Dyadic → Bool) (w : World) (hT : eh w) (hS : Sl w L n 3 (az NR.cells l)) (hl : ∀ a ∈ l, a.ok) (hn : n ≤ 1000000) [al Tryz.prog g]
  (hg : ∀ (a b : NR) (w : World), eh w → a.ok → b.ok → Calls Tryz.prog g #[.agg #[.bool a.neg, .string a.bz, .int .i64 a.e], .agg #[.bool b.neg, .string b.bz, .int .i64 b.e]] w fun r w' => r = .returned (.bool (f a.d b.d)) ∧ Below w.heap.size w w') :
  Calls Tryz.prog 268 #[.slice L n c, .func (.func g) #[] #[]] w fun r w' => r = .returned (.agg #[.bool (nR (iD f (l.map NR.d))).neg, .string (nR (iD f (l.map NR.d))).bz, .int .i64 (nR (iD f (l.map NR.d))).e]) ∧ Below w.heap.size w w' := by
 have hln := hS.bq NR.len TX;have hh := Hp.start w;refine aj (N := 27) (l := [.slice L n c, .func (.func g) #[] #[]]) Tryz.func268 rfl rfl (by simp) ?_;refine sr ?_;refine bV hh ?_;intro b4 w4 hh;refine aa (sr ?_);refine bV hh ?_;intro b5 w5 hh;refine vS ?_;refine aP [6, 7, 10, 11, 12, 13, 14, 15, 16, 17, 18, 19, 20, 21, 22, 23, 24] 10
  (fun j w' => ∃ (i : Nat) (o : NR), i ≤ n ∧ j = .int .i64 i ∧ o.ok ∧ o.d = iD f ((l.take i).map NR.d) ∧ Hp w [.blk b5 65 [.bool o.neg, .string o.bz, .int .i64 o.e] (0, 0), .blk b4 65 [.bool false, .string (ByteArray.mk #[]), .int .i64 0] (0, 0)] w')
  (fun j _ => n - (intOf j).toNat) ?_ ?_
 ·exact ⟨0, nR 0, T6 _, rfl, (Sz.zero 0).ok TX, rfl, hh⟩
 ·clear hh;rintro ρ' j w' ⟨i, o, hi, rfl, hok, hod, hh⟩;by_cases hlt : i < n
  ·obtain ⟨x, hx⟩ := ak (l := l) (k := i) TX;obtain ⟨ad, rfl, hr⟩ := hS.at_ TX;have hxo := hl x (T7 hx);have htk : (l.take (i + 1)).map NR.d = (l.take i).map NR.d ++ [x.d] := by rw [ay hx, UU, Wu]
   by_cases h0 : i = 0
   ·subst h0;refine sr ?_;refine ek ?_;refine Di ?_;refine EL ?_;refine bV hh ?_;intro b7 w7 hh;refine aI ?_;refine bW hh 0 [_,_,_] ?_;intro ws hh;replace hh : Hp _ (.blk _ _ [_, _, _] _ :: _) _ := hh;refine aa (sr (mI ?_));refine db (mB ?_);refine gS (gS (gS ?_));refine ju ?_;refine fL ?_;refine aa (cT (ao ?_));refine cG hh 0 [_,_,_] ?_;refine bW hh 1 [_,_,_] ?_;intro ws hh;replace hh : Hp _ (_ :: .blk _ _ [_, _, _] _ :: _) _ := hh;refine fM ?_;refine bj (mI (aA (ai ?_)));replace hh := hh.sub (UM _ _);refine ⟨⟨1, x, TX, rfl, hxo, by rw [htk]; rfl, hh⟩, by show n - (0 + 1) < n - 0; omega, ?_⟩;exact dQ
   ·have hne : (l.take i).map NR.d ≠ [] := by
     intro h;have := U9 List.length h;rw [Ug, Us, W4] at this;omega
    have hb := Ce f hne x.d;rw [← htk, ← hod] at hb;refine sr ?_;refine ek ?_;refine cu ?_;refine EL ?_;refine bV hh ?_;intro b7 w7 hh;refine aI ?_;refine bW hh 0 [_,_,_] ?_;intro ws hh;replace hh : Hp _ (.blk _ _ [_, _, _] _ :: _) _ := hh;refine aa (sr (mI ?_));refine db (mB (gT ?_));refine iH ?_;refine gT ?_;refine cG hh 0 [_,_,_] (gT ?_);refine cG hh 1 [_,_,_] ?_;refine aH rfl rfl ?_;refine gg (hg x o _ (hT.hp hh) hxo hok) al.out rfl rfl TY ?_;rintro e_ w21 ⟨rfl, hb_⟩;refine ⟨_, rfl, ?_⟩;replace hh := hh.ext hb_
    cases hf : f x.d o.d with
    | true =>
     rw [hf, T2 rfl] at hb;refine e7 ?_;refine aa (cT (ao ?_));refine cG hh 0 [_,_,_] ?_;refine bW hh 1 [_,_,_] ?_;intro ws hh;replace hh : Hp _ (_ :: .blk _ _ [_, _, _] _ :: _) _ := hh;refine fM ?_;refine bj (mI (aA (ai ?_)));replace hh := hh.sub (UM _ _);refine ⟨⟨i + 1, x, TX, rfl, hxo, hb.symm, hh⟩, by show n - (i + 1) < n - i; omega, ?_⟩;exact dQ
    | false =>
     rw [hf] at hb;refine e7 ?_;refine wv ?_;refine bj (mI (aA (ai ?_)));replace hh := hh.sub (UM _ _);refine ⟨⟨i + 1, o, TX, rfl, hok, hb.symm, hh⟩, by show n - (i + 1) < n - i; omega, ?_⟩;exact dQ
  ·rw [T9 TX] at hod;obtain ⟨o1, o2, o3⟩ := hok;refine sr ?_;refine mM ?_;refine cG hh 0 [_,_,_] ?_;refine bD hh (eB o _ (hT.hp hh) TX TX TX) rfl ?_;intro w26 hh;rw [hod];exact PJ
theorem K2 (x y : Dyadic) : kZ x y < 0 ↔ x < y := by
 unfold kZ;split
 ·rename_i h; simp [h]
 ·rename_i h; split <;> simp [h]
theorem Lu (x y : Dyadic) : 0 < kZ x y ↔ y < x := by
 unfold kZ;split
 ·rename_i h;have : ¬ y < x := by grind
  simp [this]
 ·split <;> rename_i h <;> simp [h]
theorem y5 (a b : NR) (w : World) (hT : eh w) (ha : a.ok) (hb : b.ok) :
  Calls Tryz.prog 269 #[.agg #[.bool a.neg, .string a.bz, .int .i64 a.e], .agg #[.bool b.neg, .string b.bz, .int .i64 b.e]] w fun r w' => r = .returned (.bool (decide (a.d < b.d))) ∧ Below w.heap.size w w' := by
 have hh := Hp.start w;have e1 : decide (kZ a.d b.d < 0) = decide (a.d < b.d) := decide_eq_decide.2 (K2 _ _);refine aj (N := 9) (l := [.agg #[.bool a.neg, .string a.bz, .int .i64 a.e], .agg #[.bool b.neg, .string b.bz, .int .i64 b.e]]) Tryz.func269 rfl rfl (by simp) ?_;refine sr ?_;refine cD hh [_,_,_] ?_;intro b2 w2 hh;refine cD hh [_,_,_] ?_;intro b3 w3 hh;refine aB (aa (sr ?_));refine cG hh 1 [_,_,_] ?_;refine cG hh 0 [_,_,_] ?_;refine bD hh (nY a b _ (hT.hp hh) ha hb) rfl ?_;intro w7 hh;refine bg (aB (aa (au ?_)));refine cZ ?_;rw [e1];exact ⟨rfl, hh.below⟩
theorem Al (a b : NR) (w : World) (hT : eh w) (ha : a.ok) (hb : b.ok) :
  Calls Tryz.prog 270 #[.agg #[.bool a.neg, .string a.bz, .int .i64 a.e], .agg #[.bool b.neg, .string b.bz, .int .i64 b.e]] w fun r w' => r = .returned (.bool (decide (b.d < a.d))) ∧ Below w.heap.size w w' := by
 have hh := Hp.start w;have e1 : decide (0 < kZ a.d b.d) = decide (b.d < a.d) := decide_eq_decide.2 (Lu _ _);refine aj (N := 9) (l := [.agg #[.bool a.neg, .string a.bz, .int .i64 a.e], .agg #[.bool b.neg, .string b.bz, .int .i64 b.e]]) Tryz.func270 rfl rfl (by simp) ?_;refine sr ?_;refine cD hh [_,_,_] ?_;intro b2 w2 hh;refine cD hh [_,_,_] ?_;intro b3 w3 hh;refine aB (aa (sr ?_));refine cG hh 1 [_,_,_] ?_;refine cG hh 0 [_,_,_] ?_;refine bD hh (nY a b _ (hT.hp hh) ha hb) rfl ?_;intro w7 hh;refine cm (aB (aa (au ?_)));refine cZ ?_;rw [e1];exact ⟨rfl, hh.below⟩
theorem BQ (L : Option Addr) (n c : Nat) (l : List NR) (w : World) (hT : eh w) (hS : Sl w L n 3 (az NR.cells l)) (hl : ∀ a ∈ l, a.ok) (hn : n ≤ 1000000) :
  Calls Tryz.prog 256 #[.slice L n c] w fun r w' => r = .returned (.agg #[.bool (nR (iD (fun x y => decide (x < y)) (l.map NR.d))).neg, .string (nR (iD (fun x y => decide (x < y)) (l.map NR.d))).bz, .int .i64 (nR (iD (fun x y => decide (x < y)) (l.map NR.d))).e]) ∧ Below w.heap.size w w' := by
 have hh := Hp.start w;refine aj (N := 5) (l := [.slice L n c]) Tryz.func256 rfl rfl (by simp) ?_;refine sr ?_;refine bV hh ?_;intro b2 w2 hh;refine aa (sr (mL ?_));refine bD hh (oH L n c l 269 (fun x y => decide (x < y)) _ (hT.hp hh) (hS.ext hh.below) hl hn y5) rfl ?_;intro w4 hh;exact Lq
theorem BZ (L : Option Addr) (n c : Nat) (l : List NR) (w : World) (hT : eh w) (hS : Sl w L n 3 (az NR.cells l)) (hl : ∀ a ∈ l, a.ok) (hn : n ≤ 1000000) :
  Calls Tryz.prog 257 #[.slice L n c] w fun r w' => r = .returned (.agg #[.bool (nR (iD (fun x y => decide (y < x)) (l.map NR.d))).neg, .string (nR (iD (fun x y => decide (y < x)) (l.map NR.d))).bz, .int .i64 (nR (iD (fun x y => decide (y < x)) (l.map NR.d))).e]) ∧ Below w.heap.size w w' := by
 have hh := Hp.start w;refine aj (N := 5) (l := [.slice L n c]) Tryz.func257 rfl rfl (by simp) ?_;refine sr ?_;refine bV hh ?_;intro b2 w2 hh;refine aa (sr (mL ?_));refine bD hh (oH L n c l 270 (fun x y => decide (y < x)) _ (hT.hp hh) (hS.ext hh.below) hl hn Al) rfl ?_;intro w4 hh;exact Lq
theorem CP {x y : Dyadic} (h : x < y) : kZ x y = -1 := by rw [kZ, T2 h]
theorem B5 {x y : Dyadic} (h : y < x) : kZ x y = 1 := by
 have : ¬ x < y := by grind
 rw [kZ, T3 this, T2 h]
theorem Gn (x : Dyadic) : kZ x x = 0 := by
 have : ¬ x < x := by grind
 rw [kZ, T3 this, T3 this]
theorem QY (x y : Dyadic) : x < y ∨ x = y ∨ y < x := by
 rcases Classical.em (x < y) with h | h
 ·exact .inl h
 ·rcases Classical.em (y < x) with h2 | h2
  ·exact .inr (.inr h2)
  ·exact .inr (.inl (by grind))
theorem Sl.Rk {A : Option Addr} {xs : List Nat} (h : Sl w A n 1 (gC xs)) (hk : k ≤ n) : Sl w A k 1 (gC (xs.take k)) := by
 have hl := h.1;rw [cN] at hl;refine ⟨by rw [cN, Us]; omega, fun h0 => ?_⟩;obtain ⟨ad, he, hr⟩ := h.2 TX;exact ⟨ad, he, by rw [zn]; exact hr.take k⟩
theorem Sl.Qx {A : Option Addr} {xs : List Nat} (h : Sl w A n 1 (gC xs)) : Sl w A (dH xs).length 1 (gC (dH xs)) := by
 have hl := h.1;rw [cN] at hl;have := ff xs;have h2 := h.Rk (k := (dH xs).length) TX;rwa [← jJ] at h2
theorem Hp.O0 {H : List HE} {A : Option Addr} {t : TypeId} {xs : List Nat} (h : Hp w0 (.row A n c t 1 (gC xs) :: H) w) (hl : xs.length = n) : Hp w0 (.row A (dH xs).length c t 1 (gC (dH xs)) :: H) w := by
 have h1 := ff xs;have h2 := h.BD (k := (dH xs).length) TX;rw [Uo, ← zn, ← jJ] at h2;exact h2
theorem lu (A : Option Addr) (n c : Nat) (xs : List Nat) (w : World) (hx : Sl w A n 1 (gC xs)) (hc : n ≤ c) (hn : n ≤ 1000000000000) :
  Calls Tryz.prog 243 #[.slice A n c] w fun e w' => e = .returned (.slice A (dH xs).length c) ∧ Below w.heap.size w w' := by
 have hlen : xs.length = n := by have := hx.1; rw [cN] at this; omega
 have hh := Hp.start w;refine aj (N := 21) (l := [.slice A n c]) Tryz.func243 rfl rfl (by simp) ?_;refine sr (aL (aa (sr (mL (aJ (aI (aa (ah (aq ?_)))))))));refine aP [3, 6, 7, 8, 9, 10, 11, 12, 13, 14, 15, 16, 17] 3
  (fun v w' => ∃ k : Nat, k ≤ n ∧ v = .int .i64 k ∧ dH (xs.take k) = dH xs ∧ w' = w)
  (fun v _ => (intOf v).toNat) ?_ ?_
 ·exact ⟨n, T5 _, rfl, by rw [T9 TX], rfl⟩
 ·rintro ρ' v w' ⟨k, hk, rfl, hcut, rfl⟩;by_cases h0 : k = 0
  ·subst h0;refine ah (sr (mI ?_));refine cm (mB ?_);refine gS (gS (gS (gS ?_)));refine ju ?_;refine gS ?_;refine e7 ?_;refine aa (cF (a6 (aD (aD (bB (ai (sr (mL (mI ?_)))))))));refine pO (h := 0) bk.out aK.size rfl rfl TX TX TY ?_;refine aL (aa (au ?_));refine cZ ?_;rw [← hcut];exact ⟨rfl, hh.below⟩
  ·obtain ⟨j, rfl⟩ : ∃ j, k = j + 1 := ⟨k - 1, TX⟩;obtain ⟨d, hd⟩ := ak (l := xs) (k := j) TX;obtain ⟨ad, rfl, hr⟩ := hx.at_ TX;have hd2 := qe hd;rw [ay hd] at hcut;by_cases hz : d = 0
   ·subst hz;rw [uX] at hcut;refine ah (sr (mI ?_));refine cm (mB (gT (mL (gT (mI (gT ?_))))));refine dY (gT ?_);refine oQ ?_;refine gT ?_;refine jw ?_;refine gT ?_;refine db ?_;refine fL ?_;refine aa (cT (ar (ai (aq (ao (mI ?_))))));refine dY (aI (aA (bE (ai ?_))));refine ⟨⟨j, TX, by show Value.int _ _ = Value.int _ _; congr 1; omega, hcut, rfl⟩, by show (((j + 1 : Nat) : Int) - 1).toNat < (((j + 1 : Nat) : Int)).toNat; omega, ?_⟩;exact dQ
   ·rw [vM hz] at hcut;refine ah (sr (mI ?_));refine cm (mB (gT (mL (gT (mI (gT ?_))))));refine dY (gT ?_);refine oQ ?_;refine gT ?_;refine jw ?_;refine gT ?_;refine db ?_;refine fL ?_;refine aa (cF (a6 (aD (aD (bB (ai (sr (mL (mI ?_)))))))));refine pO (h := j + 1) bk.out aK.size rfl rfl TX TX TY ?_;refine aL (aa (au ?_));exact Q7
theorem Gf {s : List UInt8} {c : UInt8} (hc : (AQ s)[j]? = some c.toNat) (hk : k < 8) : c.toNat / 2 ^ k % 2 = bn s / 2 ^ (8 * j + k) % 2 := by
 have h1 := sj (xQ s) hc;rw [← h1, ← bn, Uu, UO, show (2 ^ 8 : Nat) = 256 from rfl, ← VE];generalize bn s / 256 ^ j = m;have e : (256 : Nat) = 2 ^ k * 2 ^ (8 - k) := by rw [← Uu, show k + (8 - k) = 8 by omega]
 have e2 : 2 ^ (8 - k) = 2 * 2 ^ (7 - k) := by rw [← Nat.pow_succ']; congr 1; omega
 rw [e, Nat.mod_mul_right_div_self, e2, Nat.mod_mul_right_mod]
theorem eT (a : ByteArray) (w : World) (ha : a.size ≤ 1000000000) :
  Calls Tryz.prog 218 #[.string a] w fun e w' => ∃ A c, e = .returned (.slice A (aU 2 (bN a)).length c) ∧ w'.ownsRow w.heap.size 5 1 (.slice A (aU 2 (bN a)).length c) (aU 2 (bN a)).length (gC (aU 2 (bN a))) ∧ Below w.heap.size w w' := by
 have hsz := dE a;have hh := Hp.start w;refine aj (N := 28) (l := [.string a]) Tryz.func218 rfl rfl (by simp) ?_;refine sr (aL (aa (sr (aL (aa (ah (sr (mS ?_))))))));refine bI bk.out rfl TY ?_;refine dY (aI (aa (aq ?_)));replace hh := hh.de 5 1;refine bK [3, 4, 5, 9, 10, 11, 12, 13, 14, 15, 16, 17, 18, 19, 20, 21, 22, 23, 24, 25] 3 4
  (fun o v w' => ∃ (j : Nat) (A : Option Addr) (c : Nat), j ≤ a.size ∧ v = .int .i64 ((a.size : Int) - 1 - j) ∧ o = .slice A (8 * j) c ∧ Hp w [.row A (8 * j) c 5 1 (gC (bM 2 (8 * j) (bN a)))] w')
  (fun _ v _ => (intOf v + 1).toNat) ?_ ?_
 ·exact ⟨0, none, 0, T6 _, by show Value.int _ _ = Value.int _ _; congr 1; omega, rfl, hh⟩
 ·clear hh;rintro ρ' o v w' ⟨j, A, c, hj, rfl, rfl, hh⟩;by_cases hlt : j < a.size
  ·obtain ⟨ch, hc⟩ := ak (l := a.data.toList) (k := ((a.size : Int) - 1 - j).toNat) TX;have hlo := Hg (s := a.data.toList) (i := j) (c := ch) TX (by rw [← hc]; congr 1; omega);have hc8 := ch.toNat_lt;refine ah (sr (mI ?_));refine dW (aa (cT (ar (ai (ah (aq (sr (aI (aa (aq ?_))))))))));refine bK [3, 5, 13, 14, 15, 16, 17, 18, 19, 20, 21, 22, 23, 24, 25] 3 5
    (fun o v w' => ∃ (k : Nat) (A : Option Addr) (c : Nat), k ≤ 8 ∧ v = .int .i64 (k : Int) ∧ o = .slice A (8 * j + k) c ∧ Hp w [.row A (8 * j + k) c 5 1 (gC (bM 2 (8 * j + k) (bN a)))] w')
    (fun _ v _ => 8 - (intOf v).toNat) ?_ ?_
   ·exact ⟨0, A, c, T6 _, rfl, rfl, hh⟩
   ·clear hh;rintro ρ2 o v w2 ⟨k, A2, c2, hk, rfl, rfl, hh⟩;by_cases hk8 : k < 8
    ·have hst := Gf hlo hk8;have hand : ∀ z : Nat, z &&& 1 = z % 2 := fun z => Nat.and_one_is_mod z;have hcl : ch.toNat / 2 ^ (k : Int).toNat < 256 := U8 (Wq _ _) hc8;refine ah (sr (mI ?_));refine bg (aa (cT (ar (ai (ah (aq (ao (mL (mS (mI ?_))))))))));refine j0 ?_;refine mI ?_;refine CE rfl rfl TX TY ?_;refine I5 ?_;refine wz ?_;intro b24 w24 hh;refine pK ?_;intro A25 c25 w25 hh;simp only [Uh, UH] at hh;replace hh := hh.sub (UM _ _);refine vP ?_;refine bj (aI (aA (ai ?_)));have e1 : gC (bM 2 (8 * j + k) (bN a)) ++ [Value.int .u8 ((ch.toNat / 2 ^ (k : Int).toNat &&& 1 : Nat) : Int)] = gC (bM 2 (8 * j + (k + 1)) (bN a)) := by
      rw [hand, Vp, hst, ← WU, k8, tI]; rfl
     rw [e1] at hh;refine ⟨⟨k + 1, A25, c25, TX, rfl, rfl, hh⟩, by show 8 - (k + 1) < 8 - k; omega, ?_⟩;exact dQ
    ·obtain rfl : k = 8 := TX;refine ah (sr (mI ?_));refine bg (aa (cF (a6 (aD (aD (bB (bE (ai (ao (mI ?_))))))))));refine dY (aI (aA (ai ?_)));refine ⟨⟨j + 1, A2, c2, TX, by show Value.int _ _ = Value.int _ _; congr 1; omega, rfl, hh⟩, by show ((a.size : Int) - 1 - j - 1 + 1).toNat < ((a.size : Int) - 1 - j + 1).toNat; omega, ?_⟩;exact dQ
  ·obtain rfl : j = a.size := TX;refine ah (sr (mI ?_));refine dW (aa (cF (a6 (aD (aD (bB (ai (sr (mL ?_)))))))));refine bD hh (lu _ _ _ (bM 2 (8 * a.size) (bN a)) _ (hh.aC (i := 0) rfl) (hh.fI (i := 0) rfl) TX) rfl ?_;intro w27 hh;refine aL (aa (au ?_));refine cZ ?_;have hb := wY a;rw [show (256 : Nat) = 2 ^ 8 from rfl, ← UO] at hb;have hd : dH (bM 2 (8 * a.size) (bN a)) = aU 2 (bN a) := by
    rw [ig TX (gh TX _ _), di hb]
   have h1 := (Hp.O0 (xs := bM 2 (8 * a.size) (bN a)) hh (aN _ _)).at_ (i := 0) rfl;exact LB
theorem Lv {l : List Nat} {v : Nat} (h : j < l.length) : l.reverse.set (l.length - 1 - j) v = (l.set j v).reverse := by
 apply Ve;intro i
 rcases UP i l.length with hi | hi
 ·rw [VN (by rw [Wp]; exact hi), Wp, VH, VH, VN hi, UJ];by_cases he : l.length - 1 - j = i
  ·rw [T2 he, T2 TX, T2 TX, T2 h]
  ·rw [T3 he, T3 TX]
 ·rw [Uy (by simp; omega), Uy (by simp; omega)]
theorem Ct {i b : Nat} (P : Nat) (hP : P < 2 ^ i) (hb : b < 2) (hk : i / 8 < k) : P / 256 ^ (i / 8) % 256 + b * 2 ^ (i % 8) < 256 ∧ (bM 256 k P).set (i / 8) (P / 256 ^ (i / 8) % 256 + b * 2 ^ (i % 8)) = bM 256 k (P + 2 ^ i * b) := by
 have hp : 2 ^ i = 256 ^ (i / 8) * 2 ^ (i % 8) := by
  rw [show (256 : Nat) = 2 ^ 8 from rfl, ← UO, ← Uu]; congr 1; omega
 have h1 : P / 256 ^ (i / 8) < 2 ^ (i % 8) := by
  rw [Vr (UE TX), UC, ← hp]; exact hP
 have h2 : 2 ^ (i % 8) ≤ 128 := by
  have := UL (show 0 < 2 by omega) (show i % 8 ≤ 7 by omega);omega
 have h3 : P / 256 ^ (i / 8) % 256 < 2 ^ (i % 8) := U8 (Nat.mod_le _ _) h1;have h4 : b * 2 ^ (i % 8) ≤ 1 * 2 ^ (i % 8) := U2 _ TX;have h5 : 2 ^ i * b = 256 ^ (i / 8) * (b * 2 ^ (i % 8)) := by rw [hp, UX, UC b]
 refine ⟨TX, ?_⟩;rw [h5];refine oW TX hk ?_ TX;rw [← h5];have h6 : 2 ^ i * b ≤ 2 ^ i * 1 := Uz _ TX;have h7 : 2 ^ (i + 1) ≤ 256 ^ k := by
  rw [show (256 : Nat) = 2 ^ 8 from rfl, ← UO];exact UL TX TX
 rw [UQ] at h7;omega
theorem g6 (A : Option Addr) (n c : Nat) (xs : List Nat) (w : World) (hx : Sl w A n 1 (gC xs)) (hd : Dg 2 xs) (hc : n ≤ c) (hn : n ≤ 100000000000) :
  Calls Tryz.prog 237 #[.slice A n c] w fun e w' => e = .returned (.string (sN (bC 2 xs))) ∧ Below w.heap.size w w' := by
 have hl := hx.1;rw [cN] at hl;have hcl := ff xs;have hcx := hx.Qx;have hcan := ig TX hd;have hlen := Da (bC 2 xs);rw [hcan] at hcl hcx;have hcd := (dN (B := 2) TX (bC 2 xs)).1;have hcv := dI (B := 2) TX (bC 2 xs);have hbl : (aU 2 (bC 2 xs)).length = bF (bC 2 xs) := rfl;have hh := Hp.start w;refine aj (N := 38) (l := [.slice A n c]) Tryz.func237 rfl rfl (by simp) ?_;refine sr (aS (aa (sr (mL ?_))));refine bD hh (lu _ _ _ xs _ hx hc TX) rfl ?_;intro w6 hh;rw [hcan];generalize bC 2 xs = M at *;generalize aU 2 M = xs' at *;refine aL (aa (sr (mL (aJ ?_))));refine bj ?_;refine nE ?_;refine gi (n := (xs'.length + 7) / 8) hh rfl rfl TX TX bk.out aK.out rfl TX TX TY ?_;intro b11 w11 hh;refine aL (aa (ah (sr (aI (aa (aq ?_))))));rw [pQ] at hh;refine aP [4, 12, 13, 14, 15, 16, 17, 18, 19, 20, 21, 22, 23, 24, 25, 26, 27, 28, 29, 30, 31, 32, 33, 34, 35] 4
  (fun v w' => ∃ i : Nat, i ≤ xs'.length ∧ v = .int .i64 i ∧ Hp w [.row (some ⟨b11, 0, none⟩) ((xs'.length + 7) / 8) ((xs'.length + 7) / 8) 5 1 (gC (bM 256 ((xs'.length + 7) / 8) (bC 2 (xs'.take i))).reverse)] w')
  (fun v _ => xs'.length - (intOf v).toNat) ?_ ?_
 ·exact ⟨0, T6 _, rfl, by rw [Wb, bC, ql, List.reverse_replicate]; exact hh⟩
 ·clear hh;rintro ρ' v w' ⟨i, hi, rfl, hh⟩;by_cases hlt : i < xs'.length
  ·obtain ⟨d, hdi⟩ := ak (l := xs') (k := i) TX;obtain ⟨ad, rfl, hr⟩ := hcx.at_ TX;have hd2 := qe hdi;have hdw := hcd.at_ hdi;have hP := iw (hcd.take i);rw [Us, U0 TX] at hP;obtain ⟨s1, s2⟩ := Ct (k := (xs'.length + 7) / 8) (bC 2 (xs'.take i)) hP hdw TX;have hg : (bM 256 ((xs'.length + 7) / 8) (bC 2 (xs'.take i))).reverse[(xs'.length + 7) / 8 - 1 - i / 8]? = some (bC 2 (xs'.take i) / 256 ^ (i / 8) % 256) := by
    rw [VN (by rw [aN]; omega), aN, show (xs'.length + 7) / 8 - 1 - ((xs'.length + 7) / 8 - 1 - i / 8) = i / 8 by omega];exact iq _ _ _ TX
   have hg2 := qe hg;have e1 : ((i : Int) % 8).toNat = i % 8 := TX;have hset := Lv (l := bM 256 ((xs'.length + 7) / 8) (bC 2 (xs'.take i))) (j := i / 8) (v := bC 2 (xs'.take i) / 256 ^ (i / 8) % 256 + d * 2 ^ (i % 8)) (by rw [aN]; omega);rw [aN, s2] at hset;refine ah (sr (mI (mL (aJ ?_))));refine bg (aa (cT (ar (ai (ah (aq ?_))))));refine aV 16 [[(3, none)], [(3, none)], [(19, some 1)], [(20, some 2)], [(4, none)], [(22, some 4)], [(21, some 3), (23, some 5)], [(18, some 0), (24, some 6)], [(25, some 7)], [(0, none)], [(4, none)], [(27, some 9), (28, some 10)], [(29, some 11)], [(4, none)], [(31, some 13)], [(30, some 12), (32, some 14)]] [(15, 33), (14, 32), (13, 31), (12, 30), (11, 29), (10, 28), (9, 27), (8, 26), (7, 25), (6, 24), (5, 23), (4, 22), (3, 21), (2, 20), (1, 19), (0, 18)] hh mixed TZ ?_;refine fT ?_;refine fT ?_;refine CS ?_;refine vg ?_;refine dF ?_;refine bu (i := 5) (fun ρ1 w1 hj hR => qo (show ρ1 22 = Value.int _ _ from hR.1) rfl TX TX TX) ?_;refine vg ?_;refine Ke ((xs'.length + 7) / 8 - 1 - i / 8) ?_;refine bu (i := 8) (fun ρ1 w1 hj hR => jb aK.out (show ρ1 25 = Value.pointer _ from hR.1) (hj.hp.fh (i := 0) rfl (by rw [Uo]; exact hg2))) ?_;refine fT ?_
   refine dF ?_;refine l3 (i) ?_;refine rW (fun _ hj => (hr.ext hj.hp.below).xT hd2) ?_;refine dF ?_;refine bu (i := 14) (fun ρ1 w1 hj hR => n9 (show ρ1 31 = Value.int _ _ from hR.1) rfl TX TX) ?_;refine bu (i := 15) (fun ρ1 w1 hj hR => xH (show ρ1 30 = Value.int _ _ from hR.1) (show ρ1 32 = Value.int _ _ from hR.2.1) TX) ?_;refine aR ?_;intro f W hJ hV;have hb_6 := hJ.bl;obtain ⟨v33, v32, v31, v30, v29, v28, v27, v26, v25, v24, v23, v22, v21, v20, v19, v18, _⟩ := hV;replace hh := hJ.hp;refine aY (br (ae v33 (ae v32 (ae v31 (ae v30 (ae v29 (ae v28 (ae v27 (ae v26 (ae v25 (ae v24 (ae v23 (ae v22 (ae v21 (ae v20 (ae v19 (ae v18 aX))))))))))))))))) ?_;dsimp only [cf];clear hJ;refine iB rfl rfl TY ?_;refine cV (k := (xs'.length + 7) / 8 - 1 - i / 8) bk.out aK.size rfl rfl TX TX TY ?_;refine bO hh (i := 0) (vs := [_]) rfl rfl (cJ rfl) rfl aK.out rfl (by rw [cN, UJ, aN]; omega) rfl ?_;intro ws hh;simp only [Uh] at hh;rw [e1, UG (show d * 2 ^ (i % 8) < 256 by omega), UG s1, Uo, cM (by rw [cN, UJ, aN]; omega), oN, hset, ← fC hdi] at hh;refine aA (bE (ai (ao (mI ?_))));refine bj (aI (aA (ai ?_)))
   refine ⟨⟨i + 1, TX, rfl, hh⟩, by show xs'.length - (i + 1) < xs'.length - i; omega, ?_⟩;exact dQ
  ·obtain rfl : i = xs'.length := TX;rw [WN, hcv, hbl] at hh;have hfin : gC (bM 256 ((bF M + 7) / 8) M).reverse = nq (sb M) := by
    rw [← hlen];exact QB
   rw [hfin, ← hbl] at hh;refine ah (sr (mI (mL (aJ ?_))));refine bg (aa (cF (a6 (aD (aD (bB (ai (sr (mL ?_)))))))));exact ML
theorem KK {xs : List Nat} (h : Dg 2 xs) (i : Nat) : bC 2 xs / 2 ^ i % 2 = (xs[i]?).getD 0 := by
 cases hi : xs[i]? with
 | some d => exact sj h hi
 | none =>
  rw [sK h (Xq.1 hi) TX]; rfl
theorem iK (A : Option Addr) (n c i : Nat) (xs : List Nat) (w : World) (hx : Sl w A n 1 (gC xs)) (hd : Dg 2 xs) (hn : n ≤ 1000000000000) (hi : i ≤ 1000000000000) :
  Calls Tryz.prog 259 #[.slice A n c, .int .i64 (i : Int)] w fun e w' => e = .returned (.int .u8 ((bC 2 xs / 2 ^ i % 2 : Nat) : Int)) ∧ Below w.heap.size w w' := by
 have hl := hx.1;rw [cN] at hl;have hh := Hp.start w;rw [KK hd];by_cases hlt : i < n
 ·obtain ⟨d, hdi⟩ := ak (l := xs) (k := i) TX;obtain ⟨ad, rfl, hr⟩ := hx.at_ TX;have hd2 := qe hdi;rw [hdi];refine aj (N := 13) (l := [.slice (some ad) n c, .int .i64 (i : Int)]) Tryz.func259 rfl rfl (by simp) ?_;refine sr (aI (aa (ah (sr (mI (mL (aJ ?_)))))));refine bg (aa (cT (sr (mL (mI ?_)))));refine cu ?_;refine jw ?_;refine aI (aa (au (aG ?_)));refine cZ ?_;exact ⟨rfl, hh.below⟩
 ·rw [Uy TX];refine aj (N := 13) (l := [.slice A n c, .int .i64 (i : Int)]) Tryz.func259 rfl rfl (by simp) ?_;refine sr (aI (aa (ah (sr (mI (mL (aJ ?_)))))));refine bg (aa (cF (ar (ai (sr (aI (aa (au ?_))))))));refine cZ ?_;exact ⟨rfl, hh.below⟩
theorem lJ (X i : Nat) : X / 2 ^ i = 2 * (X / 2 ^ (i + 1)) + X / 2 ^ i % 2 := by
 rw [UQ, ← VE]; omega
theorem vu {X Y : Nat} (h : X / 2 ^ k < Y / 2 ^ k) : X < Y := by
 refine WZ fun h2 => ?_;have := Nat.div_le_div_right (c := 2 ^ k) h2;omega
theorem mn (A B : Option Addr) (n c m c' : Nat) (xs ys : List Nat) (w : World) (hx : Sl w A n 1 (gC xs)) (hy : Sl w B m 1 (gC ys)) (hdx : Dg 2 xs) (hdy : Dg 2 ys) (hn : n ≤ 100000000000) (hm : m ≤ 100000000000) :
  Calls Tryz.prog 258 #[.slice A n c, .slice B m c'] w fun e w' => e = .returned (.int .i64 (lj (bC 2 xs) (bC 2 ys))) ∧ Below w.heap.size w w' := by
 have hlx := hx.1;have hly := hy.1;rw [cN] at hlx hly;have hh := Hp.start w;have e1 : (if (m : Int) > (n : Int) then (m : Int) else (n : Int)) - 1 = ((max n m : Nat) : Int) - 1 := by split <;> omega
 refine aj (N := 30) (l := [.slice A n c, .slice B m c']) Tryz.func258 rfl rfl (by simp) ?_;refine sr (aI (aa (ah (sr (mL (aJ (mL (aJ ?_))))))));refine kQ rfl rfl TY ?_;refine dY (aI (aa (aq ?_)));rw [e1];refine aP [4, 5, 12, 13, 14, 15, 16, 17, 18, 19, 20, 21, 22, 23, 24, 25, 26, 27, 28, 29] 5
  (fun v w' => ∃ k : Nat, k ≤ max n m ∧ v = .int .i64 ((k : Int) - 1) ∧ bC 2 xs / 2 ^ k = bC 2 ys / 2 ^ k ∧ Hp w [] w')
  (fun v _ => (intOf v + 1).toNat) ?_ ?_
 ·exact ⟨max n m, T5 _, rfl, by rw [sK hdx TX TX, sK hdy TX TX], hh⟩
 ·clear hh;rintro ρ' v w' ⟨k, hk, rfl, heq, hh⟩;by_cases h0 : k = 0
  ·subst h0;refine ah (sr (mI ?_));refine dW (aa (cF (a6 (aD (aD (bB (ai (sr (aI (aa (au ?_)))))))))));refine cZ ?_;rw [WG, Nat.div_one, Nat.div_one] at heq;exact ⟨by rw [EJ heq], hh.below⟩
  ·obtain ⟨j, rfl⟩ : ∃ j, k = j + 1 := ⟨k - 1, TX⟩;have hj : ((j + 1 : Nat) : Int) - 1 = (j : Int) := TX;have hXb := lJ (bC 2 xs) j;have hYb := lJ (bC 2 ys) j;by_cases hlt : bC 2 xs / 2 ^ j % 2 < bC 2 ys / 2 ^ j % 2
   ·have hf : bC 2 xs < bC 2 ys := vu (k := j) TX;rw [hj];refine ah (sr (mI ?_));refine Hx ?_;refine Bt ?_;intro w18 hh;refine mL (mI ?_);refine Bi ?_;intro w21 hh;refine bg (aa (cT (sr (aI (aa (au (aG (cd (aG (aG (cd (aG ?_))))))))))));refine cZ ?_;exact ⟨by rw [lK hf], hh.below⟩
   ·by_cases hgt : bC 2 ys / 2 ^ j % 2 < bC 2 xs / 2 ^ j % 2
    ·have hf : bC 2 ys < bC 2 xs := vu (k := j) TX;rw [hj];refine ah (sr (mI ?_));refine Hx ?_;refine Bt ?_;intro w18 hh;refine mL (mI ?_);refine Bi ?_;intro w21 hh;refine bg (aa (cF (ar (ai (sr (mL (mI ?_)))))));refine Bt ?_;intro w25 hh;refine mL (mI ?_);refine Bi ?_;intro w28 hh;refine cm (aa (cT (sr (aI (aa (au (cd (aG (aG (cd (aG ?_)))))))))));refine cZ ?_;exact ⟨by rw [xC hf], hh.below⟩
    ·rw [hj];refine ah (sr (mI ?_));refine Hx ?_;refine Bt ?_;intro w18 hh;refine mL (mI ?_);refine Bi ?_;intro w21 hh;refine bg (aa (cF (ar (ai (sr (mL (mI ?_)))))));refine Bt ?_;intro w25 hh;refine mL (mI ?_);refine Bi ?_;intro w28 hh;refine cm (aa (cF (ar (bE (ai (ao (mI ?_)))))));refine dY (aI (aA (ai ?_)));refine ⟨⟨j, TX, rfl, TX, hh⟩, by show ((j : Int) - 1 + 1).toNat < ((j : Int) + 1).toNat; omega, ?_⟩;exact dQ
theorem LY (S T i : Nat) : (S + T) / 2 ^ i % 2 = (S / 2 ^ i % 2 + (S % 2 ^ i + T % 2 ^ i) / 2 ^ i + T / 2 ^ i % 2) % 2 ∧ (S % 2 ^ (i + 1) + T % 2 ^ (i + 1)) / 2 ^ (i + 1) = (S / 2 ^ i % 2 + (S % 2 ^ i + T % 2 ^ i) / 2 ^ i + T / 2 ^ i % 2) / 2 ∧ (S % 2 ^ i + T % 2 ^ i) / 2 ^ i ≤ 1 := by
 have hS := VF S (2 ^ i);have hT := VF T (2 ^ i);have hp : 0 < 2 ^ i := UE TX;have hS2 : S % 2 ^ (i + 1) = S % 2 ^ i + 2 ^ i * (S / 2 ^ i % 2) := by rw [UQ, Nat.mod_mul]
 have hT2 : T % 2 ^ (i + 1) = T % 2 ^ i + 2 ^ i * (T / 2 ^ i % 2) := by rw [UQ, Nat.mod_mul]
 have hSl := Uw S hp;have hTl := Uw T hp;have hc := VF (S % 2 ^ i + T % 2 ^ i) (2 ^ i);have hcl := Uw (S % 2 ^ i + T % 2 ^ i) hp;have hc1 : (S % 2 ^ i + T % 2 ^ i) / 2 ^ i ≤ 1 := by
  have : (S % 2 ^ i + T % 2 ^ i) / 2 ^ i < 2 := by rw [Vr hp]; omega
  omega
 have e1 : (S + T) / 2 ^ i = S / 2 ^ i + T / 2 ^ i + (S % 2 ^ i + T % 2 ^ i) / 2 ^ i := by
  have : S + T = (S % 2 ^ i + T % 2 ^ i) % 2 ^ i + 2 ^ i * (S / 2 ^ i + T / 2 ^ i + (S % 2 ^ i + T % 2 ^ i) / 2 ^ i) := by
   rw [US, US]; omega
  conv => lhs; rw [this]
  rw [Vk _ _ hp, U1 hcl, Uv]
 refine ⟨by rw [e1]; omega, ?_, hc1⟩;rw [hS2, hT2];have e2 : S % 2 ^ i + 2 ^ i * (S / 2 ^ i % 2) + (T % 2 ^ i + 2 ^ i * (T / 2 ^ i % 2)) = (S % 2 ^ i + T % 2 ^ i) % 2 ^ i + 2 ^ i * (S / 2 ^ i % 2 + (S % 2 ^ i + T % 2 ^ i) / 2 ^ i + T / 2 ^ i % 2) := by
  rw [US, US]; omega
 rw [e2, UQ, ← VE, Vk _ _ hp, U1 hcl, Uv]
theorem PO (Y up i : Nat) : Y * 2 ^ up / 2 ^ i % 2 = if up ≤ i then Y / 2 ^ (i - up) % 2 else 0 := by
 split
 ·rename_i h;have e : 2 ^ i = 2 ^ up * 2 ^ (i - up) := by rw [← Uu]; congr 1; omega
  rw [e, ← VE, Nat.mul_div_cancel _ (UE TX)]
 ·rename_i h;have e : 2 ^ up = 2 ^ i * 2 * 2 ^ (up - i - 1) := by rw [← UQ, ← Uu]; congr 1; omega
  have e2 : Y * 2 ^ up = 2 ^ i * (2 * (Y * 2 ^ (up - i - 1))) := by rw [e]; simp only [UX, Xn]
  rw [e2, Nat.mul_div_cancel_left _ (UE TX)];omega
theorem Ok {K i : Nat} (h : i < K) : (bM 2 i N ++ List.replicate (K - i) 0).set i (N / 2 ^ i % 2) = bM 2 (i + 1) N ++ List.replicate (K - (i + 1)) 0 := by
 rw [show K - i = (K - (i + 1)) + 1 by omega, V9, V3 _ _ (by rw [aN]; omega), aN, UW, Uh, k8];simp
theorem yX (A B : Option Addr) (n c m c' up : Nat) (xs ys : List Nat) (w : World) (hx : Sl w A n 1 (gC xs)) (hy : Sl w B m 1 (gC ys)) (hdx : Dg 2 xs) (hdy : Dg 2 ys) (hn : n ≤ 100000000000) (hm : m ≤ 100000000000) (hup : up ≤ 100000000000) :
  Calls Tryz.prog 240 #[.slice A n c, .slice B m c', .int .i64 (up : Int)] w fun e w' => ∃ b, e = .returned (.slice (some ⟨b, 0, none⟩) (max n (m + up) + 1) (max n (m + up) + 1)) ∧ w'.ownsRow w.heap.size 5 1 (.slice (some ⟨b, 0, none⟩) (max n (m + up) + 1) (max n (m + up) + 1)) (max n (m + up) + 1) (gC (bM 2 (max n (m + up) + 1) (bC 2 xs + bC 2 ys * 2 ^ up))) ∧ Below w.heap.size w w' := by
 have hlx := hx.1;have hly := hy.1;rw [cN] at hlx hly;have hh := Hp.start w;have e1 : (if ((m : Int) + (up : Int)) > (n : Int) then ((m : Int) + (up : Int)) else (n : Int)) + 1 = ((max n (m + up) + 1 : Nat) : Int) := by split <;> omega
 have hand : ∀ z : Nat, z &&& 1 = z % 2 := fun z => Nat.and_one_is_mod z;refine aj (N := 49) (l := [.slice A n c, .slice B m c', .int .i64 (up : Int)]) Tryz.func240 rfl rfl (by simp) ?_;refine sr (aL (aa (sr (mL (aJ (mL (aJ (mI ?_))))))));refine bj ?_;refine kQ rfl rfl TY ?_;refine bj ?_;rw [e1];generalize hK : max n (m + up) + 1 = K at *;refine gi (n := K) hh rfl rfl TX TX bk.out aK.out rfl TX TX TY ?_;intro b19 w19 hh;refine aL (aa (sr (aI (aa (ah (sr (aI (aa (aq ?_)))))))));rw [pQ] at hh;refine bK [8, 9, 10, 20, 21, 22, 23, 24, 25, 26, 27, 28, 29, 30, 31, 32, 33, 34, 35, 36, 37, 38, 39, 40, 41, 42, 43, 44, 45, 46, 47] 8 9
  (fun cr v w' => ∃ i : Nat, i ≤ K ∧ v = .int .i64 (i : Int) ∧ cr = .int .u8 (((bC 2 xs % 2 ^ i + bC 2 ys * 2 ^ up % 2 ^ i) / 2 ^ i : Nat) : Int) ∧ Hp w [.row (some ⟨b19, 0, none⟩) K K 5 1 (gC (bM 2 i (bC 2 xs + bC 2 ys * 2 ^ up) ++ List.replicate (K - i) 0))] w')
  (fun _ v _ => K - (intOf v).toNat) ?_ ?_
 ·exact ⟨0, T6 _, rfl, by simp [Nat.mod_one]; rfl, hh⟩
 ·clear hh;rintro ρ' cr v w' ⟨i, hi, rfl, rfl, hh⟩;by_cases hlt : i < K
  ·obtain ⟨b1, b2, b3⟩ := LY (bC 2 xs) (bC 2 ys * 2 ^ up) i;have hbu := PO (bC 2 ys) up i;have hxb : bC 2 xs / 2 ^ i % 2 < 2 := Uw _ TX;have hyb : bC 2 ys / 2 ^ (i - up) % 2 < 2 := Uw _ TX;have hll : (gC (bM 2 i (bC 2 xs + bC 2 ys * 2 ^ up) ++ List.replicate (K - i) 0)).length = K := by rw [cN, Ua, aN, Vt]; omega
   have hfk := Ok (N := bC 2 xs + bC 2 ys * 2 ^ up) hlt;generalize hC : (bC 2 xs % 2 ^ i + bC 2 ys * 2 ^ up % 2 ^ i) / 2 ^ i = C at *;generalize hX : bC 2 xs / 2 ^ i % 2 = X at *;refine ah (sr (mI (mL (aJ ?_))));refine ri ?_;refine bD hh (iK A n c i xs _ (hx.ext hh.below) hdx TX TX) rfl ?_;intro w28 hh;rw [hX];by_cases hiu : up ≤ i
   ·rw [T2 hiu] at hbu;rw [hbu] at b1 b2;generalize hY : bC 2 ys / 2 ^ (i - up) % 2 = Y at *;have es : ((X + C) % 256 + Y) % 256 = X + C + Y := TX;have ei : (i : Int) - (up : Int) = ((i - up : Nat) : Int) := TX;refine mI ?_;refine iB rfl rfl TY ?_;refine aI (aa (ah (sr (mI (mI ?_)))));refine dW (aa (cT (ao (mI (mL (mI (mI ?_)))))));refine dY ?_;rw [ei];refine bD hh (iK B m c' (i - up) ys _ (hy.ext hh.below) hdy TX TX) rfl ?_;intro w39 hh;rw [hY];refine iB rfl rfl TY ?_;refine aI (aa (sr (mL (mI (mI ?_)))));exact NN
   ·rw [T3 hiu] at hbu;rw [hbu] at b1 b2;have es : (X + C) % 256 = X + C + 0 := TX;refine mI ?_;refine iB rfl rfl TY ?_;refine aI (aa (ah (sr (mI (mI ?_)))));refine dW (aa (cF (ar (ai (sr (mL (mI (mI ?_))))))));exact NN
  ·obtain rfl : i = K := TX;exact Qp
theorem Lg {X Y : Nat} (h : Y ≤ X) (i : Nat) : ((2 + X / 2 ^ i % 2 + 256 - Y / 2 ^ i % 2) % 256 + 256 - (if X % 2 ^ i < Y % 2 ^ i then 1 else 0)) % 256 % 2 = (X - Y) / 2 ^ i % 2 ∧
  (1 + 256 - ((2 + X / 2 ^ i % 2 + 256 - Y / 2 ^ i % 2) % 256 + 256 - (if X % 2 ^ i < Y % 2 ^ i then 1 else 0)) % 256 / 2) % 256 = (if X % 2 ^ (i + 1) < Y % 2 ^ (i + 1) then 1 else 0) := by
 have hX := VF X (2 ^ i);have hY := VF Y (2 ^ i);have hp : 0 < 2 ^ i := UE TX;have hX2 : X % 2 ^ (i + 1) = X % 2 ^ i + 2 ^ i * (X / 2 ^ i % 2) := by rw [UQ, Nat.mod_mul]
 have hY2 : Y % 2 ^ (i + 1) = Y % 2 ^ i + 2 ^ i * (Y / 2 ^ i % 2) := by rw [UQ, Nat.mod_mul]
 have hXl := Uw X hp;have hYl := Uw Y hp;rw [hX2, hY2];generalize hx1 : X / 2 ^ i = x1 at *;generalize hy1 : Y / 2 ^ i = y1 at *;generalize hx0 : X % 2 ^ i = x0 at *;generalize hy0 : Y % 2 ^ i = y0 at *;have key : ∀ b : Nat, b = (if x0 < y0 then 1 else 0) → (X - Y) / 2 ^ i = x1 - y1 - b ∧ y1 + b ≤ x1 := by
  intro b hb;have hle : y1 + b ≤ x1 := by
   refine Nat.le_of_not_lt fun hlt => ?_;have h1 : 2 ^ i * (x1 + 1) ≤ 2 ^ i * (y1 + b) := Uz _ hlt;rw [US, US] at h1;split at hb
   ·subst hb; omega
   ·subst hb; omega
  refine ⟨?_, hle⟩;have e : X - Y = (x0 + 2 ^ i * b - y0) + 2 ^ i * (x1 - y1 - b) := by
   have h2 : 2 ^ i * (x1 - y1 - b) = 2 ^ i * x1 - 2 ^ i * y1 - 2 ^ i * b := by rw [Nat.mul_sub, Nat.mul_sub]
   have h3 : 2 ^ i * (y1 + b) ≤ 2 ^ i * x1 := Uz _ hle;rw [US] at h3;split at hb
   ·subst hb; omega
   ·subst hb; omega
  rw [e, Vk _ _ hp, U1, Uv];split at hb
  ·subst hb; omega
  ·subst hb; omega
 obtain ⟨k1, k2⟩ := key _ rfl;rw [k1];have hlt : (x0 + 2 ^ i * (x1 % 2) < y0 + 2 ^ i * (y1 % 2)) ↔ (x1 % 2 < y1 % 2 ∨ x1 % 2 = y1 % 2 ∧ x0 < y0) := by
  rcases Nat.mod_two_eq_zero_or_one x1 with h1 | h1 <;> rcases Nat.mod_two_eq_zero_or_one y1 with h2 | h2 <;> rw [h1, h2] <;> omega
 by_cases hb : x0 < y0
 ·rw [T2 hb] at k2 ⊢;exact Rv
 ·rw [T3 hb] at k2 ⊢;exact Rv
theorem pX (A B : Option Addr) (n c m c' : Nat) (xs ys : List Nat) (w : World) (hx : Sl w A n 1 (gC xs)) (hy : Sl w B m 1 (gC ys)) (hdx : Dg 2 xs) (hdy : Dg 2 ys) (hn : n ≤ 100000000000) (hm : m ≤ 100000000000) (hle : bC 2 ys ≤ bC 2 xs) :
  Calls Tryz.prog 242 #[.slice A n c, .slice B m c'] w fun e w' => ∃ b, e = .returned (.slice (some ⟨b, 0, none⟩) n n) ∧ w'.ownsRow w.heap.size 5 1 (.slice (some ⟨b, 0, none⟩) n n) n (gC (bM 2 n (bC 2 xs - bC 2 ys))) ∧ Below w.heap.size w w' := by
 have hlx := hx.1;have hly := hy.1;rw [cN] at hlx hly;have hh := Hp.start w;have hand : ∀ z : Nat, z &&& 1 = z % 2 := fun z => Nat.and_one_is_mod z;refine aj (N := 37) (l := [.slice A n c, .slice B m c']) Tryz.func242 rfl rfl (by simp) ?_;refine sr (aL (aa (sr (mL (aJ ?_)))));refine Il ?_;intro b11 w11 hh;refine aL (aa (sr (aI (aa (ah (sr (aI (aa (aq ?_)))))))));rw [pQ] at hh;refine bK [6, 7, 8, 12, 13, 14, 15, 16, 17, 18, 19, 20, 21, 22, 23, 24, 25, 26, 27, 28, 29, 30, 31, 32, 33, 34, 35] 6 7
  (fun cr v w' => ∃ i : Nat, i ≤ n ∧ v = .int .i64 (i : Int) ∧ cr = .int .u8 ((if bC 2 xs % 2 ^ i < bC 2 ys % 2 ^ i then 1 else 0 : Nat) : Int) ∧ Hp w [.row (some ⟨b11, 0, none⟩) n n 5 1 (gC (bM 2 i (bC 2 xs - bC 2 ys) ++ List.replicate (n - i) 0))] w')
  (fun _ v _ => n - (intOf v).toNat) ?_ ?_
 ·exact ⟨0, T6 _, rfl, by simp [Nat.mod_one]; rfl, hh⟩
 ·clear hh;rintro ρ' cr v w' ⟨i, hi, rfl, rfl, hh⟩;by_cases hlt : i < n
  ·obtain ⟨b1, b2⟩ := Lg hle i;have hxb : bC 2 xs / 2 ^ i % 2 < 2 := Uw _ TX;have hyb : bC 2 ys / 2 ^ i % 2 < 2 := Uw _ TX;have hcb : (if bC 2 xs % 2 ^ i < bC 2 ys % 2 ^ i then 1 else 0 : Nat) ≤ 1 := by split <;> omega
   have hll : (gC (bM 2 i (bC 2 xs - bC 2 ys) ++ List.replicate (n - i) 0)).length = n := by rw [cN, Ua, aN, Vt]; omega
   have hfk := Ok (N := bC 2 xs - bC 2 ys) hlt;refine ah (sr (mI (mL (aJ ?_))));refine ri ?_;refine bD hh (iK A n c i xs _ (hx.ext hh.below) hdx TX TX) rfl ?_;intro w20 hh;refine iB (a := 2) rfl rfl TY ?_;refine mL (mI ?_);refine bD hh (iK B m c' i ys _ (hy.ext hh.below) hdy TX TX) rfl ?_;intro w24 hh;generalize hC : (if bC 2 xs % 2 ^ i < bC 2 ys % 2 ^ i then 1 else 0 : Nat) = C at *;generalize hX : bC 2 xs / 2 ^ i % 2 = X at *;generalize hY : bC 2 ys / 2 ^ i % 2 = Y at *;have es : ((2 + X) % 256 + 256 - Y) % 256 = (2 + X + 256 - Y) % 256 := TX;have hS : ((2 + X + 256 - Y) % 256 + 256 - C) % 256 < 256 := Uw _ TX;refine C5 rfl rfl TX TY ?_;refine mI ?_;rw [es];refine C5 rfl rfl TX TY ?_;refine aI (aa (sr (mL (mI (mI ?_)))));refine I5 ?_;refine gk ?_;refine Ig ?_;intro ws hh;simp only [Uh] at hh;rw [hand, b1, Uo, cM (by rw [hll]; omega), oN, hfk] at hh;refine aa (ao (mI ?_));refine lY (s := 1) (m := 2) rfl rfl TY TY TY ?_;refine C5 (a := 1) rfl rfl TX TY ?_;refine aI (aA (bE (ai (ao (mI ?_)))));refine bj (aI (aA (ai ?_)));refine ⟨⟨i + 1, TX, rfl, by rw [← b2]; rfl, hh⟩, by show n - (i + 1) < n - i; omega, ?_⟩;exact dQ
  ·obtain rfl : i = n := TX;exact Qp
theorem xe (n : Nat) (w : World) (hn : n < 18446744073709551616) :
  Calls Tryz.prog 211 #[.int .u64 (n : Int)] w fun e w' => e = .returned (.string (sN n)) ∧ Below w.heap.size w w' := by
 have hh := Hp.start w;refine aj (N := 16) (l := [.int .u64 (n : Int)]) Tryz.func211 rfl rfl (by simp) ?_;refine sr (aS (aa (sr (aL (aa (ah (aq ?_)))))));replace hh := hh.de 5 1;refine bK [0, 3, 4, 5, 6, 7, 8, 9, 10, 11, 12, 13] 0 3
  (fun v o w' => ∃ (k m : Nat) (A : Option Addr) (c : Nat), v = .int .u64 (m : Int) ∧ m < 18446744073709551616 ∧ k ≤ 64 ∧ m < 2 ^ (64 - k) ∧ o = .slice A k c ∧ m = n / 2 ^ k ∧ Hp w [.row A k c 5 1 (gC (bM 2 k n))] w')
  (fun v _ _ => (intOf v).toNat) ?_ ?_
 ·exact ⟨0, n, none, 0, rfl, hn, TX, by simpa using hn, rfl, by simp, hh⟩
 ·clear hh;rintro ρ' v o w' ⟨k, m, A, c, rfl, hm, hk, hmk, rfl, hmn, hh⟩;by_cases h0 : m = 0
  ·subst h0;refine ah (sr (mI ?_));refine cm (aa (cF (a6 (aD (aD (bB (ai (sr (mL ?_)))))))));refine bD hh (g6 _ _ _ (bM 2 k n) _ (hh.aC (i := 0) rfl) (gh TX _ _) (hh.fI (i := 0) rfl) TX) rfl ?_;intro w15 hh;have hlt : n < 2 ^ k := by
    have := VF n (2 ^ k);have h2 := Uw n (UE (n := k) (show 0 < 2 by omega));rw [← hmn] at this;omega
   rw [di hlt];exact GL
  ·have hk64 : k < 64 := by
    refine WZ fun h => ?_;rw [show 64 - k = 0 by omega] at hmk;omega
   have hm2 : m % 2 < 256 := TX;refine ah (sr (mI ?_));refine cm (aa (cT (ar (ai (ah (aq (ao (mL (mI ?_)))))))));refine CK (b := 2) rfl rfl TX TY ?_;refine l4 ?_;refine wz ?_;intro b12 w12 hh;refine pK ?_;intro A13 c13 w13 hh;simp only [Uh, UH] at hh;replace hh := hh.sub (UM _ _);refine vP ?_;refine Pq (b := 2) rfl rfl TX (by first | assumption | omega) TY ?_;refine aI (aA (ai ?_));have e1 : gC (bM 2 k n) ++ [Value.int .u8 ((m % 2 : Nat) : Int)] = gC (bM 2 (k + 1) n) := by
    rw [hmn, k8, tI]; rfl
   rw [e1] at hh;refine ⟨⟨k + 1, m / 2, A13, c13, rfl, TX, TX, ?_, rfl, ?_, hh⟩, by show (((m / 2 : Nat) : Int)).toNat < ((m : Int)).toNat; omega, ?_⟩
   ·rw [show 64 - k = (64 - (k + 1)) + 1 by omega, UQ] at hmk;omega
   ·rw [hmn, VE, UQ]
   ·exact dQ
theorem jf (a : ByteArray) : (aU 2 (bN a)).length ≤ 8 * a.size := gI a
theorem k4 (n : Nat) : Dg 2 (aU 2 n) := (dN TX n).1
theorem ir (n : Nat) : bC 2 (aU 2 n) = n := dI TX n
theorem tr (a b : ByteArray) (w : World) (ha : a.size ≤ 1000000000) (hb : b.size ≤ 1000000000) :
  Calls Tryz.prog 241 #[.string a, .string b] w fun e w' => e = .returned (.int .i64 (lj (bN a) (bN b))) ∧ Below w.heap.size w w' := by
 have hh := Hp.start w;have h1 := jf a;have h2 := jf b;refine aj (N := 10) (l := [.string a, .string b]) Tryz.func241 rfl rfl (by simp) ?_;refine sr (aI (aa (sr (mS ?_))));refine E5 ?_;rintro e_ w6 ⟨A6, c6, rfl, hown_, hb_⟩;refine ⟨_, rfl, ?_⟩;replace hh := hh.aW (x := .row _ _ _ _ _ _) hb_ hown_;refine mS ?_;refine aF (eT b _ hb) al.out rfl TY ?_;rintro e_ w8 ⟨A8, c8, rfl, hown_, hb_⟩;refine ⟨_, rfl, ?_⟩;replace hh := hh.aW (x := .row _ _ _ _ _ _) hb_ hown_;refine bD hh (mn _ _ _ _ _ _ (aU 2 (bN a)) (aU 2 (bN b)) _ (hh.aC (i := 1) rfl) (hh.aC (i := 0) rfl) (k4 _) (k4 _) TX TX) rfl ?_;intro w9 hh;rw [ir, ir];exact Aj
theorem nQ (a : ByteArray) (w : World) (ha : a.size ≤ 1000000000) :
  Calls Tryz.prog 239 #[.string a] w fun e w' => e = .returned (.int .i64 (bF (bN a))) ∧ Below w.heap.size w w' := by
 have hh := Hp.start w;refine aj (N := 6) (l := [.string a]) Tryz.func239 rfl rfl (by simp) ?_;refine sr (aI (aa (sr (mS ?_))));refine E5 ?_;rintro e_ w4 ⟨A4, c4, rfl, hown_, hb_⟩;refine ⟨_, rfl, ?_⟩;replace hh := hh.aW (x := .row _ _ _ _ _ _) hb_ hown_;refine aJ (aI (aa (au ?_)));refine cZ ?_;exact ⟨rfl, hh.below⟩
theorem nL (a b : ByteArray) (w : World) (ha : a.size ≤ 1000000000) (hb : b.size ≤ 1000000000) :
  Calls Tryz.prog 216 #[.string a, .string b] w fun e w' => e = .returned (.tuple #[.string (sN (bN a - bN b)), .bool (decide (bN b ≤ bN a))]) ∧ Below w.heap.size w w' := by
 have hh := Hp.start w;have h1 := jf a;have h2 := jf b;by_cases hlt : bN a < bN b
 ·refine aj (N := 16) (l := [.string a, .string b]) Tryz.func216 rfl rfl (by simp) ?_;refine sr (aS (aB (aa (ah (sr (mS (mS ?_)))))));refine bD hh (tr a b _ ha hb) rfl ?_;intro w8 hh;rw [lK hlt];exact Re
 ·have hc : ¬ lj (bN a) (bN b) < 0 := by unfold lj; split <;> (try split) <;> omega
  have hbl : bN a - bN b < 2 ^ (aU 2 (bN a)).length := U8 (Nat.sub_le _ _) (dm (bN a));refine aj (N := 16) (l := [.string a, .string b]) Tryz.func216 rfl rfl (by simp) ?_;refine sr (aS (aB (aa (ah (sr (mS (mS ?_)))))));refine bD hh (tr a b _ ha hb) rfl ?_;intro w8 hh;refine bg (aa (cF (ar (ai (sr (mS ?_))))));refine E5 ?_;rintro e_ w11 ⟨A11, c11, rfl, hown_, hb_⟩;refine ⟨_, rfl, ?_⟩;replace hh := hh.aW (x := .row _ _ _ _ _ _) hb_ hown_;refine mS ?_;refine aF (eT b _ hb) al.out rfl TY ?_;rintro e_ w13 ⟨A13, c13, rfl, hown_, hb_⟩;refine ⟨_, rfl, ?_⟩;replace hh := hh.aW (x := .row _ _ _ _ _ _) hb_ hown_;refine aF (pX _ _ _ _ _ _ (aU 2 (bN a)) (aU 2 (bN b)) _ (hh.aC (i := 1) rfl) (hh.aC (i := 0) rfl) (k4 _) (k4 _) TX TX (by rw [ir, ir]; omega)) al.out rfl TY ?_;rintro e_ w_ ⟨b14, rfl, hown_, hb_⟩;refine ⟨_, rfl, ?_⟩;replace hh := hh.aW (x := .row _ _ _ _ _ _) hb_ hown_;rw [ir, ir] at hh;refine bD hh (g6 _ _ _ (bM 2 (aU 2 (bN a)).length (bN a - bN b)) _ (hh.aC (i := 0) rfl) (gh TX _ _) (T5 _) TX) rfl ?_;intro w15 hh;rw [di hbl];exact M8
theorem C6 (L : Option Addr) (n c : Nat) (ss : List ByteArray) (w : World) (hS : Sl w L n 1 (lP ss)) (hn : n ≤ 1000000) (hs : ∀ s ∈ ss, s.size ≤ 1000000000) :
  Calls Tryz.prog 215 #[.slice L n c] w fun e w' => e = .returned (.string (sN (ss.map bN).sum)) ∧ Below w.heap.size w w' := by
 have hsl : ss.length = n := by have := hS.1; rw [rA] at this; omega
 have hh := Hp.start w;refine aj (N := 20) (l := [.slice L n c]) Tryz.func215 rfl rfl (by simp) ?_;refine sr (aS (aa (sr (aL (aa (ah (sr (aI (aa (aq ?_))))))))));replace hh := hh.de 5 1;refine bK [3, 4, 5, 6, 7, 8, 9, 10, 11, 12, 13, 14, 15, 16, 17] 3 4
  (fun v j w' => ∃ (i : Nat) (A : Option Addr) (c' T K : Nat), i ≤ n ∧ j = .int .i64 i ∧ T = ((ss.take i).map bN).sum ∧ v = .slice A K c' ∧ K ≤ 8000000000 + i ∧ T < 2 ^ K ∧ Hp w [.row A K c' 5 1 (gC (bM 2 K T))] w')
  (fun _ j _ => n - (intOf j).toNat) ?_ ?_
 ·exact ⟨0, none, 0, 0, 0, T6 _, rfl, rfl, rfl, TX, by simp, hh⟩
 ·clear hh;rintro ρ' v j w' ⟨i, A, c', T, K, hi, rfl, hT, rfl, hTl, hTb, hh⟩;by_cases hlt : i < n
  ·obtain ⟨s, hsi⟩ := ak (l := ss) (k := i) TX;obtain ⟨ad, rfl, hr⟩ := hS.at_ TX;have hs2 := Ev hsi;have hsz := hs s (T7 hsi);have hlx := jf s;have hT2 : ((ss.take (i + 1)).map bN).sum = T + bN s := by rw [ay hsi, UU, Wu, qU, hT]
   have hbs : bN s < 2 ^ (aU 2 (bN s)).length := dm _;have hb2 : T + bN s < 2 ^ (max K ((aU 2 (bN s)).length + 0) + 1) := by
    have h1 : 2 ^ K ≤ 2 ^ max K ((aU 2 (bN s)).length + 0) := UL TX TX;have h2 : 2 ^ (aU 2 (bN s)).length ≤ 2 ^ max K ((aU 2 (bN s)).length + 0) := UL TX TX;rw [UQ]; omega
   refine ah (sr (mI (mL (aJ ?_))));refine Ka ?_;refine cu ?_;refine jw ?_;refine aF (eT s _ hsz) al.out rfl TY ?_;rintro e_ w16 ⟨A16, c16, rfl, hown_, hb_⟩;refine ⟨_, rfl, ?_⟩;replace hh := hh.aW (x := .row _ _ _ _ _ _) hb_ hown_;refine aF (yX _ _ _ _ _ _ 0 (bM 2 K T) (aU 2 (bN s)) _ (hh.aC (i := 1) rfl) (hh.aC (i := 0) rfl) (gh TX _ _) (k4 _) TX TX TX) al.out rfl TY ?_;rintro e_ w_ ⟨b17, rfl, hown_, hb_⟩;refine ⟨_, rfl, ?_⟩;rw [ir, di hTb, WG, Uo] at hown_;replace hh := (hh.aW (x := .row _ _ _ _ _ _) hb_ hown_).sub (Wl [_] _);refine vP ?_;refine bj (aI (aA (ai ?_)));refine ⟨⟨i + 1, _, _, T + bN s, _, TX, rfl, hT2.symm, rfl, TX, hb2, hh⟩, by show n - (i + 1) < n - i; omega, ?_⟩;exact dQ
  ·refine ah (sr (mI (mL (aJ ?_))));refine bg (aa (cF (a6 (aD (aD (bB (ai (sr (mL ?_)))))))));refine bD hh (g6 _ _ _ (bM 2 K T) _ (hh.aC (i := 0) rfl) (gh TX _ _) (hh.fI (i := 0) rfl) TX) rfl ?_;intro w19 hh;rw [di hTb];exact R1
theorem HT (X Y k : Nat) (hY : 0 < Y) : X / 2 ^ k % Y = (if Y ≤ X / 2 ^ k % 2 + 2 * (X / 2 ^ (k + 1) % Y) then X / 2 ^ k % 2 + 2 * (X / 2 ^ (k + 1) % Y) - Y else X / 2 ^ k % 2 + 2 * (X / 2 ^ (k + 1) % Y)) ∧
  X / 2 ^ k / Y % 2 = (if Y ≤ X / 2 ^ k % 2 + 2 * (X / 2 ^ (k + 1) % Y) then 1 else 0) ∧ X / 2 ^ k / Y / 2 = X / 2 ^ (k + 1) / Y := by
 have h1 := lJ X k;have hb : X / 2 ^ k % 2 < 2 := Uw _ TX;generalize X / 2 ^ k % 2 = b at *;generalize X / 2 ^ k = Z at *;generalize X / 2 ^ (k + 1) = V at *;have h2 := VF V Y;have h3 := Uw V hY;generalize V / Y = q at *;generalize V % Y = r at *;have e : Z = (b + 2 * r) + Y * (2 * q) := by rw [h1, ← h2, US, Xn]; omega
 rw [e, VW, Vk _ _ hY];by_cases hc : Y ≤ b + 2 * r
 ·rw [T2 hc, T2 hc];have e2 : b + 2 * r = (b + 2 * r - Y) + Y * 1 := TX;have h4 : b + 2 * r - Y < Y := TX;have h5 : (b + 2 * r) / Y = 1 := by rw [e2, Vk _ _ hY, U1 h4]
  have h6 : (b + 2 * r) % Y = b + 2 * r - Y := by conv => lhs; rw [e2, VW, UG h4]
  rw [h5, h6];omega
 ·rw [T3 hc, T3 hc, UG TX, U1 TX];omega
theorem nS (a b : ByteArray) (w : World) (ha : a.size ≤ 1000000000) (hb : b.size ≤ 1000000000) (hb0 : bN b ≠ 0) :
  Calls Tryz.prog 238 #[.string a, .string b] w fun e w' => e = .returned (.tuple #[.string (sN (bN a / bN b)), .string (sN (bN a % bN b)), .bool true]) ∧ Below w.heap.size w w' := by
 have hh := Hp.start w;have h1 := jf a;have h2 := jf b;have hX := ir (bN a);have hXd := k4 (bN a);have hXl : bN a < 2 ^ (aU 2 (bN a)).length := dm _;have hYp : 0 < (aU 2 (bN b)).length := pY hb0;have hget : ∀ k, k < (aU 2 (bN a)).length → (aU 2 (bN a))[k]? = some (bN a / 2 ^ k % 2) := fun k hk => yY TX hk;refine aj (N := 52) (l := [.string a, .string b]) Tryz.func238 rfl rfl (by simp) ?_;refine sr (aS (aS (aB (aa (sr (mS ?_))))));refine E5 ?_;rintro e_ w13 ⟨A13, c13, rfl, hown_, hb_⟩;refine ⟨_, rfl, ?_⟩;replace hh := hh.aW (x := .row _ _ _ _ _ _) hb_ hown_;refine mS ?_;refine aF (eT b _ hb) al.out rfl TY ?_;rintro e_ w15 ⟨A15, c15, rfl, hown_, hb_⟩;refine ⟨_, rfl, ?_⟩;replace hh := hh.aW (x := .row _ _ _ _ _ _) hb_ hown_;refine aL (aL (aa (ah (sr (mL (aJ ?_))))));refine db (aa (cF (ar (ai (sr (mL (aJ ?_)))))));refine gi hh rfl rfl rfl rfl bk.out aK.out rfl TX TX TY ?_;intro b21 w21 hh;refine aL (aa (sr (aL (aa (ah (sr (mL (aJ ?_))))))));refine dY (aI (aa (aq ?_)));rw [pQ] at hh;generalize hxs : aU 2 (bN a) = xs at *;replace hh := hh.de 5 1;refine bK [10, 11, 25, 26, 27, 28, 29, 30, 31, 32, 33, 34, 35, 36, 37, 38, 39, 40, 41, 42, 43, 44, 45, 46, 47] 10 11
  (fun v j w' => ∃ (k : Nat) (A : Option Addr) (c' : Nat), k ≤ xs.length ∧ j = .int .i64 ((k : Int) - 1) ∧ v = .slice A (aU 2 (bN a / 2 ^ k % bN b)).length c' ∧ Hp w [.row A (aU 2 (bN a / 2 ^ k % bN b)).length c' 5 1 (gC (aU 2 (bN a / 2 ^ k % bN b))), .row (some ⟨b21, 0, none⟩) xs.length xs.length 5 1 (gC (List.replicate k 0 ++ bM 2 (xs.length - k) (bN a / 2 ^ k / bN b))), .row A15 (aU 2 (bN b)).length c15 5 1 (gC (aU 2 (bN b))), .row A13 xs.length c13 5 1 (gC xs)] w')
  (fun _ j _ => (intOf j + 1).toNat) ?_ ?_
 ·refine ⟨xs.length, none, 0, T5 _, rfl, ?_, ?_⟩
  ·rw [U1 hXl, Nat.zero_mod, fV TX]; rfl
  ·rw [U1 hXl, Nat.zero_mod, fV TX, UW]; simp only [bM, UF]; exact hh
 ·clear hh;rintro ρ' v j w' ⟨k, A, c', hk, rfl, rfl, hh⟩;by_cases h0 : k = 0
  ·subst h0;rw [WG, Nat.div_one, Nat.sub_zero, W8, Ub] at hh;rw [WG, Nat.div_one];have hq : bN a / bN b < 2 ^ xs.length := U8 (Wq _ _) hXl;have hrl : (aU 2 (bN a % bN b)).length ≤ (aU 2 (bN b)).length := nx TX (Nat.le_of_lt (Uw _ TX));refine ah (sr (mI ?_));refine dW (aa (cF (a6 (aD (aD (bB (ai (sr (mL ?_)))))))));refine bD hh (g6 _ _ _ (bM 2 xs.length (bN a / bN b)) _ (hh.aC (i := 1) rfl) (gh TX _ _) (T5 _) TX) rfl ?_;intro w49 hh;rw [di hq];refine mL ?_;refine bD hh (g6 _ _ _ (aU 2 (bN a % bN b)) _ (hh.aC (i := 0) rfl) (k4 _) (hh.fI (i := 0) rfl) TX) rfl ?_;intro w51 hh;rw [ir];refine aS (aS (aB (aa (au ?_))));refine TA ?_;exact ⟨rfl, hh.below⟩
  ·obtain ⟨i, rfl⟩ : ∃ i, k = i + 1 := ⟨k - 1, TX⟩;have hji : ((i + 1 : Nat) : Int) - 1 = (i : Int) := TX;obtain ⟨d1, d2, d3⟩ := HT (bN a) (bN b) i TX;have hgi := qe (hget i TX);have hdw : bN a / 2 ^ i % 2 < 2 := Uw _ TX;have hrl : (aU 2 (bN a / 2 ^ (i + 1) % bN b)).length ≤ (aU 2 (bN b)).length := nx TX (Nat.le_of_lt (Uw _ TX));have hqk : bM 2 (xs.length - i) (bN a / 2 ^ i / bN b) = (bN a / 2 ^ i / bN b % 2) :: bM 2 (xs.length - (i + 1)) (bN a / 2 ^ (i + 1) / bN b) := by
    rw [show xs.length - i = (xs.length - (i + 1)) + 1 by omega, bM, d3]
   rw [hji];obtain ⟨g, rfl⟩ := hh.cB (i := 3) rfl TX;refine ah (sr (mI ?_));refine dW (aa (cT (ar (ai (ah (aq (sr (mL (mI ?_)))))))));refine gk ?_;refine bT aK.out rfl (hh.fh (i := 3) rfl (by first | assumption | (simp only [Uo]; assumption))) TY ?_;refine wz ?_;intro b33 w33 hh;refine mL ?_;refine cK hh (i := 0) rfl rfl rfl (hh.aC (i := 1) rfl) bk.out aK.out rfl TY (by first | rfl | exact dR _ | exact dp _ | exact bZ _ | exact cv NR.one _) TX TX TY ?_;intro A35 c35 w35 hh;simp only [Uh] at hh;have e35 : [Value.int .u8 ((bN a / 2 ^ i % 2 : Nat) : Int)] ++ gC (aU 2 (bN a / 2 ^ (i + 1) % bN b)) = gC ((bN a / 2 ^ i % 2) :: aU 2 (bN a / 2 ^ (i + 1) % bN b)) := rfl;rw [e35] at hh;generalize hR : bN a / 2 ^ (i + 1) % bN b = R at *;generalize hbt : bN a / 2 ^ i % 2 = bt at *;have hdg : Dg 2 (bt :: aU 2 R) := Dg.cons hdw (k4 _);have hcv : dH (bt :: aU 2 R) = aU 2 (bt + 2 * R) := by rw [ig TX hdg, bC, ir]
   have hll : (bt :: aU 2 R).length = 1 + (aU 2 R).length := by rw [Uq]; omega
   have hcl := ff (bt :: aU 2 R);refine bD hh (lu _ _ _ (bt :: aU 2 R) _ (hh.aC (i := 0) rfl) (hh.fI (i := 0) rfl) TX) rfl ?_;intro w36 hh;replace hh := hh.O0 hll;rw [hcv] at hh hcl;rw [hcv];refine aL (aa (sr (mL (mL ?_))));refine bD hh (mn _ _ _ _ _ _ (aU 2 (bt + 2 * R)) (aU 2 (bN b)) _ (hh.aC (i := 0) rfl) (hh.aC (i := 3) rfl) (k4 _) (k4 _) TX TX) rfl ?_;intro w39 hh;rw [ir, ir];by_cases hge : bN b ≤ bt + 2 * R
   ·have hc : 0 ≤ lj (bt + 2 * R) (bN b) := by unfold lj; rw [T3 TX]; split <;> omega
    rw [T2 hge] at d1 d2;have hml : bt + 2 * R - bN b < 2 ^ (aU 2 (bt + 2 * R)).length := U8 (Nat.sub_le _ _) (dm _);have hcm : dH (bM 2 (aU 2 (bt + 2 * R)).length (bt + 2 * R - bN b)) = aU 2 (bt + 2 * R - bN b) := by rw [ig TX (gh TX _ _), di hml]
    refine dW (aa (cT (sr (mL (mL ?_)))));refine aF (pX _ _ _ _ _ _ (aU 2 (bt + 2 * R)) (aU 2 (bN b)) _ (hh.aC (i := 0) rfl) (hh.aC (i := 3) rfl) (k4 _) (k4 _) TX TX (by rw [ir, ir]; exact hge)) al.out rfl TY ?_;rintro e_ w_ ⟨b43, rfl, hown_, hb_⟩;refine ⟨_, rfl, ?_⟩;replace hh := hh.aW (x := .row _ _ _ _ _ _) hb_ hown_;rw [ir, ir] at hh;refine bD hh (lu _ _ _ (bM 2 (aU 2 (bt + 2 * R)).length (bt + 2 * R - bN b)) _ (hh.aC (i := 0) rfl) (T5 _) TX) rfl ?_;intro w44 hh;replace hh := hh.O0 (aN _ _);rw [hcm] at hh;rw [hcm];have hql : (gC (List.replicate (i + 1) 0 ++ bM 2 (xs.length - (i + 1)) (bN a / 2 ^ (i + 1) / bN b))).length = xs.length := by rw [cN, Ua, Vt, aN]; omega
    refine aL (aa (ao (mL (mI ?_))));refine gk ?_;refine bO hh (i := 3) (vs := [_]) rfl rfl (cJ rfl) rfl aK.out rfl (by rw [hql]; omega) rfl ?_;intro ws hh;simp only [Uh, UH] at hh;rw [Uo, cM (by rw [hql]; omega)] at hh;have hset : (gC (List.replicate (i + 1) 0 ++ bM 2 (xs.length - (i + 1)) (bN a / 2 ^ (i + 1) / bN b))).set i (.int .u8 1) = gC (List.replicate i 0 ++ bM 2 (xs.length - i) (bN a / 2 ^ i / bN b)) := by
     have := oN (List.replicate (i + 1) 0 ++ bM 2 (xs.length - (i + 1)) (bN a / 2 ^ (i + 1) / bN b)) i 1;rw [hqk, d2, ← ES];exact this
    rw [hset] at hh;replace hh := hh.sub (.cons_cons _ (.cons _ (.cons _ (Vi _))));refine aA (bE (ai (ao (mI ?_))));refine dY (aI (aA (ai ?_)));exact Oo
   ·have hc : ¬ 0 ≤ lj (bt + 2 * R) (bN b) := by rw [lK TX]; omega
    rw [T3 hge] at d1 d2;refine dW (aa (cF (ar (bE (ai (ao (mI ?_)))))));refine dY (aI (aA (ai ?_)));have hrep : List.replicate (i + 1) 0 ++ bM 2 (xs.length - (i + 1)) (bN a / 2 ^ (i + 1) / bN b) = List.replicate i 0 ++ bM 2 (xs.length - i) (bN a / 2 ^ i / bN b) := by
     rw [hqk, d2, List.replicate_succ', UI]; rfl
    rw [hrep] at hh;replace hh := hh.sub (.cons_cons _ (.cons _ (Vi _)));exact Oo
end Go.Proofs.YteeckcbbnegmcaaGreatDoor
