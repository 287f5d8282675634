/- Lemmas for bernSlopes, part 3. -/
import Derived.Test.YteeckcbbnegmcaaGreatDoorZ2
namespace Go.Proofs.YteeckcbbnegmcaaGreatDoor
variable {C N b c c' cy j k m n ny : Nat} {ad : Addr} {w w0 : World}
open Go.RowKit
theorem ir (A : Option Addr) (n c : Nat) (xs : List Nat) (w : World) (hx : Sl w A n 1 (db xs)) (hc : n ≤ c) (hn : n ≤ 1000000000000) :
  Calls Tryz.prog 245 #[.slice A n c] w fun e w' => e = .returned (.slice A (dI xs).length c) ∧ Below w.heap.size w w' := by
 have hlen : xs.length = n := by have := hx.1; rw [a8] at this; omega
 have hh := Hp.start w;refine aj (N := 21) (l := [.slice A n c]) Tryz.func245 rfl rfl (by simp) ?_;refine sr (aL (aa (ah (aq ?_))));refine aR [0, 3, 4, 5, 6, 7, 8, 9, 10, 11, 12, 13, 14, 15, 16, 17, 18, 19] 0
  (fun v w' => ∃ k : Nat, k ≤ n ∧ v = .slice A k c ∧ dI (xs.take k) = dI xs ∧ w' = w)
  (fun v _ => lenOf v) ?_ ?_
 ·exact ⟨n, UH _, rfl, by rw [UQ Uz], rfl⟩
 ·rintro ρ' v w' ⟨k, hk, rfl, hcut, rfl⟩;by_cases h0 : k = 0
  ·subst h0;refine ah (sr (mL (aJ ?_)));refine cq (mB ?_);refine gS (gS (gS (gS (gS ?_))));refine jK ?_;refine gS ?_;refine eV ?_;refine aa (cF (a9 (aE (aE (bC (ai (sr (mL (aL (aa (av ?_)))))))))));refine de ?_;rw [← hcut];exact ⟨rfl, hh.below⟩
  ·obtain ⟨j, rfl⟩ : ∃ j, k = j + 1 := ⟨k - 1, Uz⟩;obtain ⟨d, hd⟩ := ak (l := xs) (k := j) Uz;obtain ⟨ad, rfl, hr⟩ := hx.at_ Uz;have hd2 := ee hd;rw [ay hd] at hcut;by_cases hz : d = 0
   ·subst hz;rw [vg] at hcut;refine ah (sr (mL (aJ ?_)));refine cq (mB (gT (mL (gT (mL (gT (aJ (gT ?_))))))));refine dW (gT ?_);refine qw ?_;refine gT ?_;refine jL ?_;refine gT ?_;refine cW ?_;refine fO ?_;refine aa (cT (ar (ai (aq (ao (mL (mL (aJ ?_))))))));refine dW ?_;refine pK (h := j) bk.out aM.size rfl rfl Uz Uz UA ?_;refine aL (aC (bE (ai ?_)));refine ⟨⟨j, Uz, rfl, hcut, rfl⟩, by show j < j + 1; omega, ?_⟩;exact dQ
   ·rw [wA hz] at hcut;refine ah (sr (mL (aJ ?_)));refine cq (mB (gT (mL (gT (mL (gT (aJ (gT ?_))))))));refine dW (gT ?_);refine qw ?_;refine gT ?_;refine jL ?_;refine gT ?_;refine cW ?_;refine fO ?_;refine aa (cF (a9 (aE (aE (bC (ai (sr (mL (aL (aa (av ?_)))))))))));exact St
theorem fG {B : Nat} {l : List Nat} {i : Nat} (h : l[i]? = some c) : bB B (l.take (i + 1)) = bB B (l.take i) + B ^ i * c := by
 have hi := (UW.1 h).1;rw [ay h, eH, U6, VM Uz];simp [bB]
theorem Hp.Fc {H : List HE} {A : Option Addr} {t : TypeId} {xs : List Nat} (h : Hp w0 (.row A n c t 1 (db xs) :: H) w) (hl : xs.length = n) : Hp w0 (.row A (dI xs).length c t 1 (db (dI xs)) :: H) w := by
 have h1 := fu xs;have h2 := h.CO (k := (dI xs).length) Uz;rw [U3, ← wU, ← jY] at h2;exact h2
theorem GU (a : ByteArray) (w : World) (ha : a.size ≤ 100000000000) :
  Calls Tryz.prog 224 #[.string a] w fun e w' => ∃ b c, e = .returned (.slice (some ⟨b, 0, none⟩) (aU 18446744073709551616 (bn a.data.toList)).length c) ∧ w'.ownsRow w.heap.size 204 1 (.slice (some ⟨b, 0, none⟩) (aU 18446744073709551616 (bn a.data.toList)).length c) (aU 18446744073709551616 (bn a.data.toList)).length (db (aU 18446744073709551616 (bn a.data.toList))) ∧ Below w.heap.size w w' := by
 have hsz := di a;have hh := Hp.start w;refine aj (N := 39) (l := [.string a]) Tryz.func224 rfl rfl (by simp) ?_;refine sr (aL (aa (sr (mS ?_))));refine bJ bk.out rfl UA ?_;refine bo ?_;refine n9 ?_;refine gu (n := (a.size + 7) / 8) hh rfl rfl Uz Uz bk.out aM.out rfl Uz Uz UA ?_;intro b10 w10 hh;refine aL (aa (ah (sr (mS ?_))));refine bJ bk.out rfl UA ?_;refine mI (aa (aq ?_));rw [pB] at hh;refine aR [4, 5, 13, 14, 15, 16, 17, 18, 19, 20, 21, 22, 23, 24, 25, 26, 27, 28, 29, 30, 31, 32, 33, 34, 35, 36] 13
  (fun v w' => ∃ i : Nat, i ≤ a.size ∧ v = .int .i64 i ∧ Hp w [.row (some ⟨b10, 0, none⟩) ((a.size + 7) / 8) ((a.size + 7) / 8) 204 1 (db (bP 18446744073709551616 ((a.size + 7) / 8) (bB 256 ((AL a.data.toList).take i))))] w')
  (fun v _ => a.size - (intOf v).toNat) ?_ ?_
 ·exact ⟨0, UI _, rfl, by rw [WY, bB, rB]; exact hh⟩
 ·clear hh;rintro ρ' v w' ⟨i, hi, rfl, hh⟩;by_cases hlt : i < a.size
  ·obtain ⟨c, hc⟩ := ak (l := a.data.toList) (k := ((a.size : Int) - 1 - i).toNat) Uz;have hlo := IL (s := a.data.toList) (i := i) (c := c) Uz (by rw [← hc]; congr 1; omega);have hc8 := c.toNat_lt;have hn := iy ((xH a.data.toList).take i);rw [U6, oL, VM Uz] at hn;obtain ⟨s1, s2, s3⟩ := Nr (k := (a.size + 7) / 8) (bB 256 ((AL a.data.toList).take i)) hn hc8 Uz;have hg := ee (iH (B := 18446744073709551616) ((a.size + 7) / 8) (bB 256 ((AL a.data.toList).take i)) (i / 8) Uz);have e1 : ((i : Int) % 8 * 8).toNat = i % 8 * 8 := Uz;refine sr ?_;refine bh (aa (ah (cT (ar (ai (ah (aq (sr (mI (aI (aa (sr (mS ?_)))))))))))));refine bJ bk.out rfl UA ?_;refine dW (mI ?_);refine dW (aI (aa ?_));refine aZ 13 [[(3, none)], [(4, none)], [(22, some 1)], [(21, some 0), (23, some 2)], [(24, some 3)], [(0, none)], [(5, none)], [(26, some 5), (27, some 6)], [(28, some 7)], [(4, none)], [(30, some 9)], [(31, some 10)], [(29, some 8), (32, some 11)]] [(12, 33), (11, 32), (10, 31), (9, 30), (8, 29), (7, 28), (6, 27), (5, 26), (4, 25), (3, 24), (2, 23), (1, 22), (0, 21)] hh mixed UB ?_;refine gC ?_;refine dP ?_
   refine bz (i := 2) (fun ρ1 w1 hj hR => qE (show ρ1 22 = Value.int _ _ from hR.1) rfl Uz Uz Uz) ?_;refine KZ (i / 8) ?_;refine bz (i := 4) (fun ρ1 w1 hj hR => jN aM.out (show ρ1 24 = Value.pointer _ from hR.1) (hj.hp.gg (i := 0) rfl (by first | assumption | (simp only [U3]; assumption)))) ?_;refine T2 ?_;refine dP ?_;refine bz (i := 7) (fun ρ1 w1 hj hR => rH bk.out (show ρ1 26 = Value.string _ from hR.1) (show ρ1 27 = Value.int _ _ from hR.2.1) Uz (by assumption)) ?_;refine bz (i := 8) (fun ρ1 w1 hj hR => u4 bk.out bk.out (show ρ1 28 = Value.int _ _ from hR.1) (by first | assumption | omega)) ?_;refine dP ?_;refine bz (i := 10) (fun ρ1 w1 hj hR => oM (show ρ1 30 = Value.int _ _ from hR.1) rfl Uz Uz) ?_;refine RQ ?_;refine bz (i := 12) (fun ρ1 w1 hj hR => yx (show ρ1 29 = Value.int _ _ from hR.1) (show ρ1 32 = Value.int _ _ from hR.2.1) Uz) ?_;refine aT ?_;intro f W hJ hV;have hb_6 := hJ.bl;obtain ⟨v33, v32, v31, v30, v29, v28, v27, v26, v25, v24, v23, v22, v21, _⟩ := hV;replace hh := hJ.hp;refine aY (br (ae v33 (ae v32 (ae v31 (ae v30 (ae v29 (ae v28 (ae v27 (ae v26 (ae v25 (ae v24 (ae v23 (ae v22 (ae v21 aX)))))))))))))) ?_;dsimp only [cg];clear hJ;refine Eh ?_
   refine cX (k := i / 8) bk.out aM.size rfl rfl Uz Uz UA ?_;refine Kx ?_;intro ws hh;simp only [UU] at hh;rw [e1, Vh s2, Cx s1, cJ (by rw [a8, aO]; omega), U3, fT, s3, ← fG hlo] at hh;refine fV ?_;refine bo (mI (aC (ai ?_)));refine ⟨⟨i + 1, Uz, rfl, hh⟩, by show a.size - (i + 1) < a.size - i; omega, ?_⟩;exact dQ
  ·refine sr ?_;refine oe ?_;rw [UQ (by rw [oL]; omega)] at hh;refine bD hh (ir _ _ _ (bP 18446744073709551616 ((a.size + 7) / 8) (bn a.data.toList)) _ (hh.aA (i := 0) rfl) (UH _) Uz) rfl ?_;intro w38 hh;refine aL (aa (av ?_));refine de ?_;have hbd : bn a.data.toList < 18446744073709551616 ^ ((a.size + 7) / 8) := by
    refine VN (Nt _) ?_;rw [← hsz, show (256 : Nat) = 2 ^ 8 from rfl, show (18446744073709551616 : Nat) = 2 ^ 64 from rfl, ← Vu, ← Vu];exact Vr Uz Uz
   have hd : dI (bP 18446744073709551616 ((a.size + 7) / 8) (bn a.data.toList)) = aU 18446744073709551616 (bn a.data.toList) := by
    exact PT
   have h1 := (Hp.Fc (xs := bP 18446744073709551616 ((a.size + 7) / 8) (bn a.data.toList)) hh (aO _ _)).at_ (i := 0) rfl;exact M8
theorem Sl.Qi {A : Option Addr} {xs : List Nat} (h : Sl w A n 1 (db xs)) (hk : k ≤ n) : Sl w A k 1 (db (xs.take k)) := by
 have hl := h.1;rw [a8] at hl;refine ⟨by rw [a8, U6]; omega, fun h0 => ?_⟩;obtain ⟨ad, he, hr⟩ := h.2 Uz;exact ⟨ad, he, by rw [wU]; exact hr.take k⟩
theorem Sl.yk {A : Option Addr} {xs : List Nat} (h : Sl w A n 1 (db xs)) : Sl w A (dI xs).length 1 (db (dI xs)) := by
 have hl := h.1;rw [a8] at hl;have := fu xs;have h2 := h.Qi (k := (dI xs).length) Uz;rwa [← jY] at h2
theorem Dm {xs : List Nat} (h : Dg 18446744073709551616 xs) : bF (bB 18446744073709551616 xs) ≤ 64 * xs.length := by
 apply dy;rw [Vu];exact iy h
theorem vk (A : Option Addr) (n c : Nat) (xs : List Nat) (w : World) (hx : Sl w A n 1 (db xs)) (hd : Dg 18446744073709551616 xs) (hc : n ≤ c) (hn : n ≤ 100000000000) :
  Calls Tryz.prog 248 #[.slice A n c] w fun e w' => e = .returned (.int .i64 (bF (bB 18446744073709551616 xs))) ∧ Below w.heap.size w w' := by
 have hl := hx.1;rw [a8] at hl;have hcl := fu xs;have hcx := hx.yk;have hcd := hd.cut;have hlast := wq xs;rw [← k4];generalize hcs : dI xs = cs at *;have hh := Hp.start w;refine aj (N := 19) (l := [.slice A n c]) Tryz.func248 rfl rfl (by simp) ?_;refine sr (aI (aa (sr (mL ?_))));refine bD hh (ir _ _ _ xs _ hx hc Uz) rfl ?_;intro w4 hh;rw [hcs];by_cases h0 : cs.length = 0
 ·refine aL (aa (ah (sr (mL (aJ ?_)))));refine Eg ?_;refine de ?_;have : cs = [] := Wk h0;subst this;exact ⟨by rw [bB, lk]; rfl, hh.below⟩
 ·obtain ⟨ad, rfl, hr⟩ := hcx.at_ Uz;obtain ⟨d, hd⟩ := ak (l := cs) (k := cs.length - 1) Uz;have hd2 := ee hd;have hd3 := hcd.at_ hd;have e1 : cs.take (cs.length - 1) ++ [d] = cs := by rw [← ay hd, UQ Uz]
  have hnz : d ≠ 0 := by
   intro h;subst h;apply hlast;rw [List.getLast?_eq_getElem?];exact hd
  have hb := JF (B := 18446744073709551616) (b := 64) (m := cs.length - 1) UA (hcd.take (cs.length - 1)) (by rw [U6]; omega) hnz;rw [e1] at hb;have hb2 : bF d ≤ 64 := dy (by simpa using hd3);refine aL (aa (ah (sr (mL (aJ ?_)))));refine cW (aa (cF (ar (ai (sr (mL (aJ ?_)))))));refine mulC (mL (mL (aJ ?_)));refine dW ?_;refine df (k := cs.length - 1) bk.out aM.size rfl rfl Uz Uz UA ?_;refine jL ?_;refine bD hh (CM _ _ hd3) rfl ?_;intro w17 hh;refine dW (aI (aa (av ?_)));refine de ?_;refine ⟨?_, hh.below⟩;congr 2;omega
theorem CZ (N : Nat) : (aU 256 N).length = (bF N + 7) / 8 := by
 have h256 : (256 : Nat) = 2 ^ 8 := rfl;have h1 : (aU 256 N).length ≤ (bF N + 7) / 8 := by
  apply ij Uz;refine VN (dq N) ?_;rw [h256, ← Vu];exact Vr Uz Uz
 have h2 := qg (B := 256) Uz N;have h3 : bF N ≤ 8 * (aU 256 N).length := by
  apply dy;rw [Vu];exact h2
 omega
theorem lG {B : Nat} (i N : Nat) : bP B (i + 1) N = bP B i N ++ [N / B ^ i % B] := by
 apply VU;intro j
 rcases Nat.lt_trichotomy j i with h | h | h
 ·rw [iH _ _ _ Uz, WV (by rw [aO]; exact h), iH _ _ _ h]
 ·subst h;rw [iH _ _ _ Uz, VW (by rw [aO]; omega), aO];simp
 ·rw [Vd (by rw [aO]; omega), Vd (by rw [UM, aO]; simp; omega)]
theorem FD {R : List Nat} {x : Nat} : (List.replicate (k + 1) 0 ++ R).set k x = List.replicate k 0 ++ (x :: R) := by
 rw [List.replicate_succ', Vt, WW _ _ (by simp)];simp
theorem ig (A : Option Addr) (n c : Nat) (xs : List Nat) (w : World) (hx : Sl w A n 1 (db xs)) (hd : Dg 18446744073709551616 xs) (hc : n ≤ c) (hn : n ≤ 10000000000) :
  Calls Tryz.prog 235 #[.slice A n c] w fun e w' => e = .returned (.string (str (sb (bB 18446744073709551616 xs)))) ∧ Below w.heap.size w w' := by
 have hl := hx.1;rw [a8] at hl;have hcl := fu xs;have hcx := hx.yk;have hcd := hd.cut;have hbl := Dm hcd;have hcan := g9 Uz hd;have hlen := CZ (bB 18446744073709551616 xs);rw [k4] at hbl;have hh := Hp.start w;refine aj (N := 37) (l := [.slice A n c]) Tryz.func235 rfl rfl (by simp) ?_;refine sr (aS (aa (sr (mL ?_))));refine bD hh (ir _ _ _ xs _ hx hc Uz) rfl ?_;intro w7 hh;rw [hcan] at hcl hcx hcd hbl;rw [hcan];refine aL (aa (sr (mL ?_)));refine bD hh (vk _ _ _ (aU 18446744073709551616 (bB 18446744073709551616 xs)) _ (hcx.ext hh.below) hcd Uz Uz) rfl ?_;intro w9 hh;rw [dJ Uz];generalize bB 18446744073709551616 xs = M at *;refine bo ?_;refine n9 ?_;refine aI (aa (sr (mI ?_)));refine gu (n := (bF M + 7) / 8) hh rfl rfl Uz Uz bk.out aM.out rfl Uz Uz UA ?_;intro b13 w13 hh;refine aL (aa (ah (sr (mI (mI (aa (aq ?_)))))));rw [qj] at hh;refine aR [5, 15, 16, 17, 18, 19, 20, 21, 22, 23, 24, 25, 26, 27, 28, 29, 30, 31, 32, 33, 34] 15
  (fun v w' => ∃ i : Nat, i ≤ (bF M + 7) / 8 ∧ v = .int .i64 i ∧ Hp w [.row (some ⟨b13, 0, none⟩) ((bF M + 7) / 8) ((bF M + 7) / 8) 5 1 (gJ (List.replicate ((bF M + 7) / 8 - i) 0 ++ (bP 256 i M).reverse))] w')
  (fun v _ => (bF M + 7) / 8 - (intOf v).toNat) ?_ ?_
 ·exact ⟨0, UI _, rfl, by simpa [bP] using hh⟩
 ·clear hh;rintro ρ' v w' ⟨i, hi, rfl, hh⟩;by_cases hlt : i < (bF M + 7) / 8
  ·obtain ⟨ad, rfl, hr⟩ := hcx.at_ Uz;have hg := AG (B := 18446744073709551616) (n := M) (i := i / 8) Uz Uz;have hg2 := ee hg;have e1 : ((i : Int) % 8 * 8).toNat = i % 8 * 8 := Uz;refine sr ?_;refine bh (aa (ah (cT (ar (ai (ah (aq (sr (mI (aI (aa (ao (mL (mI ?_))))))))))))));refine dW (mI ?_);refine dW (mL (mI ?_));refine n9 ?_;refine df (k := i / 8) bk.out aM.size rfl rfl Uz Uz UA ?_;refine jL ?_;refine mI ?_;refine so ?_;refine mulC ?_;refine DB rfl rfl Uz UA ?_;refine Ma bk.out bk.out rfl UA ?_;refine cX (k := (bF M + 7) / 8 - 1 - i) bk.out aM.size rfl rfl Uz Uz UA ?_;refine bQ hh (i := 0) (vs := [_]) rfl rfl (cK rfl) rfl aM.out rfl (by rw [cO, UM, Vn, V1, aO]; omega) rfl ?_;intro ws hh;simp only [UU] at hh;obtain ⟨k, hk⟩ : ∃ k, (bF M + 7) / 8 - i = k + 1 := ⟨(bF M + 7) / 8 - i - 1, Uz⟩;rw [e1, GK, U3, cJ (by rw [cO, UM, Vn, V1, aO]; omega), pT, hk, show (bF M + 7) / 8 - 1 - i = k by omega, FD, ← List.reverse_concat, ← lG] at hh;refine fV ?_;refine bo (mI (aC (ai ?_)))
   refine ⟨⟨i + 1, Uz, rfl, by rw [show (bF M + 7) / 8 - (i + 1) = k by omega]; exact hh⟩, by show (bF M + 7) / 8 - (i + 1) < (bF M + 7) / 8 - i; omega, ?_⟩;exact dQ
  ·obtain rfl : i = (bF M + 7) / 8 := Uz;have hfin : gJ (List.replicate ((bF M + 7) / 8 - (bF M + 7) / 8) 0 ++ (bP 256 ((bF M + 7) / 8) M).reverse) = jQ (sb M) := by
    rw [Vw, XY, UN, ← hlen];exact Ri
   rw [hfin] at hh;refine sr ?_;refine oe ?_;exact Oc
theorem n8 (A : Option Addr) (n c m : Nat) (xs : List Nat) (w : World) (hx : Sl w A n 1 (db xs)) (hn : n ≤ 10000000000) (hm : m ≤ 10000000000) :
  Calls Tryz.prog 249 #[.slice A n c, .int .i64 m] w fun e w' => ∃ b, e = .returned (.slice (some ⟨b, 0, none⟩) (max m n) (max m n)) ∧ w'.ownsRow w.heap.size 204 1 (.slice (some ⟨b, 0, none⟩) (max m n) (max m n)) (max m n) (db (xs ++ List.replicate (max m n - n) 0)) ∧ Below w.heap.size w w' := by
 have hl := hx.1;rw [a8] at hl;have hh := Hp.start w;refine aj (N := 15) (l := [.slice A n c, .int .i64 m]) Tryz.func249 rfl rfl (by simp) ?_;refine sr (aL (aa (sr (mI (mL (aJ ?_))))));refine lv rfl rfl UA ?_;refine gu (n := max m n) hh rfl rfl Uz Uz bk.out aM.out rfl Uz Uz UA ?_;intro b10 w10 hh;refine aL (aa (sr (mL (mL ?_))));rw [pB] at hh;refine Mk hh (i := 0) (o := 0) rfl rfl rfl (hx.ext hh.below) bk.out aM.out (by rw [a8, V1]; omega) (dh _) UA ?_;intro w13 hh;skip;have e1 : cm (db (List.replicate (max m n) 0)) 0 ((db xs).take (min n (max m n) * 1)) = db (xs ++ List.replicate (max m n - n) 0) := by
  rw [UQ (by rw [a8]; omega), cm, WY, UN, a8, ← wZ, ← Bf, List.drop_replicate];congr 3;omega
 simp only [UU, e1] at hh;refine aa (sr (mL (aL (aa (av ?_)))));refine de ?_;exact ⟨_, rfl, hh.at_ (i := 0) rfl, hh.below⟩
theorem Cm (A B : Option Addr) (n c m c' : Nat) (xs ys : List Nat) (w : World) (hx : Sl w A n 1 (db xs)) (hy : Sl w B m 1 (db ys)) (hdx : Dg 18446744073709551616 xs) (hdy : Dg 18446744073709551616 ys) (hc : n ≤ c) (hc' : m ≤ c') (hn : n ≤ 100000000000) (hm : m ≤ 100000000000) :
  Calls Tryz.prog 252 #[.slice A n c, .slice B m c'] w fun e w' => e = .returned (.int .i64 (k6 (bB 18446744073709551616 xs) (bB 18446744073709551616 ys))) ∧ Below w.heap.size w w' := by
 have hlx := hx.1;have hly := hy.1;rw [a8] at hlx hly;have hcx := hx.yk;have hcy := hy.yk;have hxl := fu xs;have hyl := fu ys;have hx2 := Can.cut hdx;have hy2 := Can.cut hdy;have hh := Hp.start w;rw [← k4 xs, ← k4 ys];refine aj (N := 47) (l := [.slice A n c, .slice B m c']) Tryz.func252 rfl rfl (by simp) ?_;refine sr (aI (aa (sr (mL ?_))));refine bD hh (ir _ _ _ xs _ hx hc Uz) rfl ?_;intro w7 hh;refine mL ?_;refine bD hh (ir _ _ _ ys _ (hy.ext hh.below) hc' Uz) rfl ?_;intro w9 hh;generalize dI xs = us at *;generalize dI ys = vs at *;by_cases hlen : us.length = vs.length
 ·refine aL (aL (aa (ah (sr (mL (aJ (mL (aJ ?_))))))));refine dk (aa (cF (ar (ai (ah (sr (mL (aJ ?_))))))));refine dW (aI (aa (aq ?_)));refine aR [4, 5, 23, 24, 25, 26, 27, 28, 29, 30, 31, 32, 33, 34, 35, 36, 37, 38, 39, 40, 41, 42, 43, 44, 45, 46] 5
   (fun v w' => ∃ k : Nat, k ≤ us.length ∧ v = .int .i64 ((k : Int) - 1) ∧ us.drop k = vs.drop k ∧ Hp w [] w')
   (fun v _ => (intOf v + 1).toNat) ?_ ?_
  ·exact ⟨us.length, UH _, rfl, by rw [List.drop_length, List.drop_eq_nil_of_le Uz], hh⟩
  ·clear hh;rintro ρ' v w' ⟨k, hk, rfl, hd, hh⟩;by_cases h0 : k = 0
   ·subst h0;refine ah (sr (mI ?_));refine dL (aa (cF (a9 (aE (aE (bC (ai (sr (aI (aa (av ?_)))))))))));refine de ?_;rw [List.drop_zero, List.drop_zero] at hd;rw [hd];exact ⟨by rw [EK rfl], hh.below⟩
   ·obtain ⟨j, rfl⟩ : ∃ j, k = j + 1 := ⟨k - 1, Uz⟩;obtain ⟨x, hxj⟩ := ak (l := us) (k := j) Uz;obtain ⟨y, hyj⟩ := ak (l := vs) (k := j) Uz;obtain ⟨ad, rfl, hr⟩ := hcx.at_ Uz;obtain ⟨ad2, rfl, hs⟩ := hcy.at_ Uz;have hx3 := ee hxj;have hy3 := ee hyj;by_cases hlt : x < y
    ·have hf := xo hx2.1 hxj hyj hd hlt;refine ah (sr (mI ?_));refine H9 ?_;refine JZ ?_;refine gC ?_;refine dP ?_;refine nM (j) ?_;refine A5 ?_;refine gC ?_;refine dP ?_;refine nM (j) ?_;refine BW ?_;refine aT ?_;intro f W hJ hV;have hb_9 := hJ.bl;obtain ⟨v35, v34, v33, v32, v31, v30, v29, v28, _⟩ := hV;replace hh := hJ.hp;refine JY ?_;dsimp only [cg];clear hJ;refine bh (aB (aa (cT (sr (aI (aa (av (cf (cf (aH (aH (cf (aH ?_)))))))))))));refine de ?_;exact ⟨by rw [mh hf], hh.below⟩
    ·by_cases hgt : y < x
     ·have hf := xo hy2.1 hyj hxj hd.symm hgt;refine ah (sr (mI ?_));refine H9 ?_;refine JZ ?_;refine gC ?_;refine dP ?_;refine nM (j) ?_;refine A5 ?_;refine gC ?_;refine dP ?_;refine nM (j) ?_;refine BW ?_;refine aT ?_;intro f W hJ hV;have hb_9 := hJ.bl;obtain ⟨v35, v34, v33, v32, v31, v30, v29, v28, _⟩ := hV;replace hh := hJ.hp;refine JY ?_;dsimp only [cg];clear hJ;refine bh (aB (aa (cF (ah ?_))));refine Nz ?_;refine gC ?_;refine dP ?_;refine nM (j) ?_;refine A5 ?_;refine gC ?_;refine dP ?_;refine nM (j) ?_;refine BW ?_;refine aT ?_;intro f W hJ hV;have hb_11 := hJ.bl;obtain ⟨v45, v44, v43, v42, v41, v40, v39, v38, _⟩ := hV;replace hh := hJ.hp;refine NM ?_;dsimp only [cg];clear hJ;refine cq (aB (aa (cT (sr (aI (aa (av (cf (cf (aH (aH (cf (aH ?_)))))))))))));refine de ?_;exact ⟨by rw [yL hf], hh.below⟩
     ·refine ah (sr (mI ?_));refine H9 ?_;refine JZ ?_;refine gC ?_;refine dP ?_;refine nM (j) ?_;refine A5 ?_;refine gC ?_;refine dP ?_;refine nM (j) ?_;refine BW ?_;refine aT ?_;intro f W hJ hV;have hb_9 := hJ.bl;obtain ⟨v35, v34, v33, v32, v31, v30, v29, v28, _⟩ := hV;replace hh := hJ.hp;refine JY ?_;dsimp only [cg];clear hJ;refine bh (aB (aa (cF (ah ?_))));refine Nz ?_;refine gC ?_;refine dP ?_;refine nM (j) ?_;refine A5 ?_;refine gC ?_;refine dP ?_;refine nM (j) ?_;refine BW ?_;refine aT ?_;intro f W hJ hV;have hb_11 := hJ.bl;obtain ⟨v45, v44, v43, v42, v41, v40, v39, v38, _⟩ := hV;replace hh := hJ.hp;refine NM ?_;dsimp only [cg];clear hJ;refine cq (aB (aa (cF (ar (bE (bE (ai (ao (mI ?_)))))))));refine dW (aI (aC (ai ?_)));refine ⟨⟨j, Uz, by show Value.int _ _ = Value.int _ _; congr 1; omega, xE hxj hyj hd Uz, hh⟩, by show ((((j + 1 : Nat) : Int) - 1 - 1) + 1).toNat < ((((j + 1 : Nat) : Int) - 1) + 1).toNat; omega, ?_⟩;exact dQ
 ·by_cases hlt : us.length < vs.length
  ·have hf : bB 18446744073709551616 us < bB 18446744073709551616 vs := by
    refine XC fun h => ?_;have := hy2.tM hx2 Uz h;omega
   refine aL (aL (aa (ah (sr (mL (aJ (mL (aJ ?_))))))));refine dk (aa (cT (ah (sr (mL (aJ (mL (aJ ?_))))))));refine bh (aa (cT (sr (aI (aa (av (aH (aH ?_))))))));refine de ?_;exact ⟨by rw [mh hf], hh.below⟩
  ·have hf : bB 18446744073709551616 vs < bB 18446744073709551616 us := by
    refine XC fun h => ?_;have := hx2.tM hy2 Uz h;omega
   refine aL (aL (aa (ah (sr (mL (aJ (mL (aJ ?_))))))));refine dk (aa (cT (ah (sr (mL (aJ (mL (aJ ?_))))))));refine bh (aa (cF (ar (ai (sr (aI (aa (av (aH ?_)))))))));refine de ?_;exact ⟨by rw [yL hf], hh.below⟩
theorem Sj {y : Nat} (hy : y < 18446744073709551616) (hm : m < 18446744073709551616) : y * m ≤ 340282366920938463426481119284349108225 := V3 (by omega : y ≤ 18446744073709551615) (by omega : m ≤ 18446744073709551615)
theorem wc {x y P : Nat} (hx : x < 18446744073709551616) (hc : c < 18446744073709551616) (hP : P ≤ 340282366920938463426481119284349108225) (he : P = y * m) :
  (x + (P % 18446744073709551616 + c + 0) % 18446744073709551616 + 0) % 18446744073709551616 = (x + y * m + c) % 18446744073709551616 ∧ ((P / 18446744073709551616 + (P % 18446744073709551616 + c + 0) / 18446744073709551616) % 18446744073709551616 + (x + (P % 18446744073709551616 + c + 0) % 18446744073709551616 + 0) / 18446744073709551616) % 18446744073709551616 = (x + y * m + c) / 18446744073709551616 ∧ (x + y * m + c) / 18446744073709551616 < 18446744073709551616 := by
 rw [← he];omega
theorem BI {H : List HE} {M : Nat} {Y : Option Addr} (pre xs post ys : List Nat) (w : World) (hh : Hp w0 (.row (some ⟨b, 0, none⟩) M C 204 1 (db (pre ++ xs ++ post)) :: H) w)
  (hy : ∀ w1 cs, Hp w0 (.row (some ⟨b, 0, none⟩) M C 204 1 cs :: H) w1 → Sl w1 Y ny 1 (db ys)) (hxd : Dg 18446744073709551616 xs) (hyd : Dg 18446744073709551616 ys) (hm : m < 18446744073709551616) (hM : xs.length ≤ 100000000000) (hny : ny ≤ 100000000000) :
  Calls Tryz.prog 255 #[.slice (some ⟨b, pre.length, none⟩) xs.length c', .slice Y ny cy, .int .u64 (m : Int)] w fun e w' => e = .returned (.tuple #[]) ∧ Hp w0 (.row (some ⟨b, 0, none⟩) M C 204 1 (db (pre ++ im 18446744073709551616 xs ys m 0 ++ post)) :: H) w' := by
 have hly := (hy _ _ hh).1;rw [a8] at hly;refine aj (N := 56) (l := [.slice (some ⟨b, pre.length, none⟩) xs.length c', .slice Y ny cy, .int .u64 (m : Int)]) Tryz.func255 rfl rfl (by simp) ?_;refine sr (aI (aa (sr (mL (aJ (mI (aa (aq ?_))))))));refine bK [6, 7, 8, 9, 10, 11, 14, 15, 16, 17, 18, 19, 20, 21, 22, 23, 24, 25, 26, 27, 28, 29, 30, 31, 32, 33, 34, 35, 36, 37, 38, 39, 40, 41, 42, 43, 44, 45, 46, 47, 48, 49, 50, 51, 52, 53, 54, 55] 6 14
  (fun c i w' => ∃ (done rest : List Nat) (cr : Nat), done.length + rest.length = xs.length ∧ i = .int .i64 done.length ∧ c = .int .u64 (cr : Int) ∧ cr < 18446744073709551616 ∧ Dg 18446744073709551616 rest ∧ done ++ im 18446744073709551616 rest (ys.drop done.length) m cr = im 18446744073709551616 xs ys m 0 ∧ Hp w0 (.row (some ⟨b, 0, none⟩) M C 204 1 (db (pre ++ (done ++ rest) ++ post)) :: H) w')
  (fun _ i _ => xs.length - (intOf i).toNat) ?_ ?_
 ·exact ⟨[], xs, 0, by simp, rfl, rfl, Uz, hxd, rfl, hh⟩
 ·clear hh;rintro ρ' c i w' ⟨done, rest, cr, hlen, rfl, rfl, hcr, hrd, heq, hh⟩;by_cases hlt : done.length < xs.length
  ·obtain ⟨x, r, rfl⟩ : ∃ x r, rest = x :: r := by
    exact Qg
   have hx := hrd.head;have hg := ee (ye (pre := pre) (done := done) (r := r) (post := post) (x := x));have hlr : done.length + (r.length + 1) = xs.length := by simpa using hlen
   simp only [im, tail_drop, uZ] at heq;by_cases hiy : done.length < ny
   ·obtain ⟨y, hyk⟩ := ak (l := ys) (k := done.length) Uz;obtain ⟨ad, rfl, _⟩ := (hy _ _ hh).at_ Uz;rw [hyk, VV] at heq;have hyw := hyd.at_ hyk;refine sr ?_;refine wu ?_;refine bh (aa (cT (ao (mL (mI ?_)))));refine IB ?_;refine bV aM.out rfl ((hy _ _ hh).QD hyk) UA ?_;refine aI (aa (sr (mI (mI ?_))));obtain ⟨p1, p2, p3⟩ := wc (y := y) (m := m) hx hcr (Sj hyw hm) rfl;refine bD hh (rM y m _ hyw hm) rfl ?_;intro w28 hh;refine mT ?_;refine dt ?_;refine dt ?_;refine aI (aI (aa (sr (mI (mI ?_)))));refine kJ (jX (y * m % 18446744073709551616) cr 0 Uz _) (aw (cK rfl) (aw (cK rfl) (aw rfl aW))) UA ?_;refine mT ?_;refine dt ?_;refine dt ?_;refine aI (aI (aa (sr (mI (mI ?_)))));refine iD rfl rfl UA ?_;refine aI (aa (sr (mL (mI (mL (mI ?_))))));refine o7 bk.out aM.size rfl rfl rfl Uz UA ?_;refine jA ?_;refine mI ?_;refine kJ (jX x ((y * m % 18446744073709551616 + cr + 0) % 18446744073709551616) 0 Uz _) (aw (cK rfl) (aw (cK rfl) (aw rfl aW))) UA ?_;refine mT ?_;refine dt ?_;refine dt ?_;refine nX ?_;refine vV ?_;intro ws hh;simp only [UU] at hh;rw [p1, U3, cJ (by rw [a8]; simp only [UM, U7]; omega), fT, nj] at hh
    refine aI (aa (ao (mI (mI ?_))));refine iD rfl rfl UA ?_;refine wR ?_;refine bo (mI (aC (ai ?_)));rw [p2];refine ⟨⟨done ++ [(x + y * m + cr) % 18446744073709551616], r, _, by simp; omega, by rw [UM]; rfl, rfl, p3, hrd.tail, ?_, hh⟩, by show xs.length - (done.length + 1) < xs.length - done.length; omega, ?_⟩
    ·rw [← heq, Vt, UM]; rfl
    exact UC
   ·rw [Vd Uz, Option.getD_none] at heq;have h0w : (0 : Nat) < 18446744073709551616 := Uz;refine sr ?_;refine wu ?_;refine bh (aa (cF (ar (ai (sr (mI (mI ?_)))))));obtain ⟨p1, p2, p3⟩ := wc (y := 0) (m := m) hx hcr (Sj h0w hm) rfl;refine bD hh (rM 0 m _ h0w hm) rfl ?_;intro w28 hh;refine mT ?_;refine dt ?_;refine dt ?_;refine aI (aI (aa (sr (mI (mI ?_)))));refine kJ (jX (0 * m % 18446744073709551616) cr 0 Uz _) (aw (cK rfl) (aw (cK rfl) (aw rfl aW))) UA ?_;refine mT ?_;refine dt ?_;refine dt ?_;refine aI (aI (aa (sr (mI (mI ?_)))));refine iD rfl rfl UA ?_;refine aI (aa (sr (mL (mI (mL (mI ?_))))));refine o7 bk.out aM.size rfl rfl rfl Uz UA ?_;refine jA ?_;refine mI ?_;refine kJ (jX x ((0 * m % 18446744073709551616 + cr + 0) % 18446744073709551616) 0 Uz _) (aw (cK rfl) (aw (cK rfl) (aw rfl aW))) UA ?_;refine mT ?_;refine dt ?_;refine dt ?_;refine nX ?_;refine vV ?_;intro ws hh;simp only [UU] at hh;rw [p1, U3, cJ (by rw [a8]; simp only [UM, U7]; omega), fT, nj] at hh;refine aI (aa (ao (mI (mI ?_))));refine iD rfl rfl UA ?_;refine wR ?_;refine bo (mI (aC (ai ?_)));rw [p2]
    refine ⟨⟨done ++ [(x + 0 * m + cr) % 18446744073709551616], r, _, by simp; omega, by rw [UM]; rfl, rfl, p3, hrd.tail, ?_, hh⟩, by show xs.length - (done.length + 1) < xs.length - done.length; omega, ?_⟩
    ·rw [← heq, Vt, UM]; rfl
    exact UC
  ·exact Rp
theorem z8 {H : List HE} {M : Nat} {Y : Option Addr} (pre xs post ys : List Nat) (w : World) (hh : Hp w0 (.row (some ⟨b, 0, none⟩) M C 204 1 (db (pre ++ xs ++ post)) :: H) w)
  (hy : ∀ w1 cs, Hp w0 (.row (some ⟨b, 0, none⟩) M C 204 1 cs :: H) w1 → Sl w1 Y ny 1 (db ys)) (hxd : Dg 18446744073709551616 xs) (hyd : Dg 18446744073709551616 ys) (hM : xs.length ≤ 100000000000) (hny : ny ≤ 100000000000) (hsub : BC 18446744073709551616 xs ys 0 = 0) :
  Calls Tryz.prog 253 #[.slice (some ⟨b, pre.length, none⟩) xs.length c', .slice Y ny cy] w fun e w' => e = .returned (.bool true) ∧ Hp w0 (.row (some ⟨b, 0, none⟩) M C 204 1 (db (pre ++ sB 18446744073709551616 xs ys 0 ++ post)) :: H) w' := by
 have hly := (hy _ _ hh).1;rw [a8] at hly;refine aj (N := 37) (l := [.slice (some ⟨b, pre.length, none⟩) xs.length c', .slice Y ny cy]) Tryz.func253 rfl rfl (by simp) ?_;refine sr (aB (aa (sr (aI (aa (ah (sr (mL (aJ (mI (aa (aq ?_))))))))))));refine bK [5, 6, 7, 10, 11, 12, 13, 14, 15, 16, 17, 18, 19, 20, 21, 22, 23, 24, 25, 26, 27, 28, 29, 30, 31, 32, 33, 34] 5 10
  (fun c i w' => ∃ (done rest : List Nat) (cr : Nat), done.length + rest.length = xs.length ∧ i = .int .i64 done.length ∧ c = .int .u64 (cr : Int) ∧ cr ≤ 1 ∧ Dg 18446744073709551616 rest ∧ done ++ sB 18446744073709551616 rest (ys.drop done.length) cr = sB 18446744073709551616 xs ys 0 ∧ BC 18446744073709551616 rest (ys.drop done.length) cr = 0 ∧ Hp w0 (.row (some ⟨b, 0, none⟩) M C 204 1 (db (pre ++ (done ++ rest) ++ post)) :: H) w')
  (fun _ i _ => xs.length - (intOf i).toNat) ?_ ?_
 ·exact ⟨[], xs, 0, by simp, rfl, rfl, Uz, hxd, rfl, hsub, hh⟩
 ·clear hh;rintro ρ' c i w' ⟨done, rest, cr, hlen, rfl, rfl, hcr, hrd, heq, hsb, hh⟩;by_cases hlt : done.length < xs.length
  ·obtain ⟨x, r, rfl⟩ : ∃ x r, rest = x :: r := by
    exact Qg
   have hx := hrd.head;have hg := ee (ye (pre := pre) (done := done) (r := r) (post := post) (x := x));have hlr : done.length + (r.length + 1) = xs.length := by simpa using hlen
   simp only [sB, BC, tail_drop, uZ] at heq hsb;by_cases hiy : done.length < ny
   ·obtain ⟨y, hyk⟩ := ak (l := ys) (k := done.length) Uz;obtain ⟨ad, rfl, _⟩ := (hy _ _ hh).at_ Uz;rw [hyk, VV] at heq hsb;have hyw := hyd.at_ hyk;refine sr ?_;refine wu ?_;refine bh (aa (cT (ao (mL (mI ?_)))));refine IB ?_;refine bV aM.out rfl ((hy _ _ hh).QD hyk) UA ?_;refine aI (aa (ao (mL (mI (mL (mI ?_))))));refine nX ?_;refine jA ?_;refine mI (mI ?_);refine kJ (wm x y cr hcr _) (aw (cK rfl) (aw (cK rfl) (aw (cK rfl) aW))) UA ?_;refine mT ?_;refine dt ?_;refine dt ?_;refine nX ?_;refine vV ?_;intro ws hh;simp only [UU] at hh;rw [U3, cJ (by rw [a8]; simp only [UM, U7]; omega), fT, nj] at hh;refine wR ?_;refine bo (mI (aC (ai ?_)));refine ⟨⟨done ++ [(x + 18446744073709551616 - y - cr) % 18446744073709551616], r, _, by simp; omega, by rw [UM]; rfl, rfl, by split <;> omega, hrd.tail, ?_, ?_, hh⟩, by show xs.length - (done.length + 1) < xs.length - done.length; omega, ?_⟩
    ·rw [← heq, Vt, UM]; rfl
    ·rw [UM]; exact hsb
    exact UC
   ·rw [Vd Uz, Option.getD_none] at heq hsb;refine sr ?_;refine wu ?_;refine bh (aa (cF (ar (ai (ao (mL (mI (mL (mI ?_)))))))));refine nX ?_;refine jA ?_;refine mI (mI ?_);refine kJ (wm x 0 cr hcr _) (aw (cK rfl) (aw (cK rfl) (aw (cK rfl) aW))) UA ?_;refine mT ?_;refine dt ?_;refine dt ?_;refine nX ?_;refine vV ?_;intro ws hh;simp only [UU] at hh;rw [U3, cJ (by rw [a8]; simp only [UM, U7]; omega), fT, nj] at hh;refine wR ?_;refine bo (mI (aC (ai ?_)));refine ⟨⟨done ++ [(x + 18446744073709551616 - 0 - cr) % 18446744073709551616], r, _, by simp; omega, by rw [UM]; rfl, rfl, by split <;> omega, hrd.tail, ?_, ?_, hh⟩, by show xs.length - (done.length + 1) < xs.length - done.length; omega, ?_⟩
    ·rw [← heq, Vt, UM]; rfl
    ·rw [UM]; exact hsb
    exact UC
  ·have hr0 : rest = [] := Wk Uz;subst hr0;obtain rfl : cr = 0 := hsb;refine sr ?_;refine bh (aa (ah (cF (a9 (aE (aE (bC (ai (sr (mI ?_))))))))));refine cW (aB (aa (av ?_)));refine de ?_;rw [Vo, sB, Vo] at *;rw [← heq];exact ⟨rfl, hh⟩
theorem C0 {H : List HE} {M : Nat} {Y : Option Addr} (pre xs post ys : List Nat) (w : World) (hh : Hp w0 (.row (some ⟨b, 0, none⟩) M C 204 1 (db (pre ++ xs ++ post)) :: H) w)
  (hy : ∀ w1 cs, Hp w0 (.row (some ⟨b, 0, none⟩) M C 204 1 cs :: H) w1 → Sl w1 Y ny 1 (db ys)) (hxd : Dg 18446744073709551616 xs) (hyd : Dg 18446744073709551616 ys) (hM : xs.length ≤ 100000000000) (hny : ny ≤ 100000000000) :
  Calls Tryz.prog 250 #[.slice (some ⟨b, pre.length, none⟩) xs.length c', .slice Y ny cy] w fun e w' => e = .returned (.tuple #[]) ∧ Hp w0 (.row (some ⟨b, 0, none⟩) M C 204 1 (db (pre ++ im 18446744073709551616 xs ys 1 0 ++ post)) :: H) w' := by
 have hly := (hy _ _ hh).1;rw [a8] at hly;refine aj (N := 34) (l := [.slice (some ⟨b, pre.length, none⟩) xs.length c', .slice Y ny cy]) Tryz.func250 rfl rfl (by simp) ?_;refine sr (aI (aa (sr (mL (aJ (mI (aa (aq ?_))))))));refine bK [4, 5, 6, 9, 10, 11, 12, 13, 14, 15, 16, 17, 18, 19, 20, 21, 22, 23, 24, 25, 26, 27, 28, 29, 30, 31, 32, 33] 4 9
  (fun c i w' => ∃ (done rest : List Nat) (cr : Nat), done.length + rest.length = xs.length ∧ i = .int .i64 done.length ∧ c = .int .u64 (cr : Int) ∧ cr ≤ 1 ∧ Dg 18446744073709551616 rest ∧ done ++ im 18446744073709551616 rest (ys.drop done.length) 1 cr = im 18446744073709551616 xs ys 1 0 ∧ Hp w0 (.row (some ⟨b, 0, none⟩) M C 204 1 (db (pre ++ (done ++ rest) ++ post)) :: H) w')
  (fun _ i _ => xs.length - (intOf i).toNat) ?_ ?_
 ·exact ⟨[], xs, 0, by simp, rfl, rfl, Uz, hxd, rfl, hh⟩
 ·clear hh;rintro ρ' c i w' ⟨done, rest, cr, hlen, rfl, rfl, hcr, hrd, heq, hh⟩;by_cases hlt : done.length < xs.length
  ·obtain ⟨x, r, rfl⟩ : ∃ x r, rest = x :: r := by
    exact Qg
   have hx := hrd.head;have hg := ee (ye (pre := pre) (done := done) (r := r) (post := post) (x := x));have hlr : done.length + (r.length + 1) = xs.length := by simpa using hlen
   simp only [im, tail_drop, uZ, U3] at heq;by_cases hiy : done.length < ny
   ·obtain ⟨y, hyk⟩ := ak (l := ys) (k := done.length) Uz;obtain ⟨ad, rfl, _⟩ := (hy _ _ hh).at_ Uz;rw [hyk, VV] at heq;have hyw := hyd.at_ hyk;refine sr ?_;refine wu ?_;refine bh (aa (cT (ao (mL (mI ?_)))));refine IB ?_;refine bV aM.out rfl ((hy _ _ hh).QD hyk) UA ?_;refine aI (aa (ao (mL (mI (mL (mI ?_))))));refine nX ?_;refine jA ?_;refine mI (mI ?_);refine kJ (jX x y cr hcr _) (aw (cK rfl) (aw (cK rfl) (aw (cK rfl) aW))) UA ?_;refine mT ?_;refine dt ?_;refine dt ?_;refine nX ?_;refine vV ?_;intro ws hh;simp only [UU] at hh;rw [U3, cJ (by rw [a8]; simp only [UM, U7]; omega), fT, nj] at hh;refine wR ?_;refine bo (mI (aC (ai ?_)));refine ⟨⟨done ++ [(x + y + cr) % 18446744073709551616], r, _, by simp; omega, by rw [UM]; rfl, rfl, Uz, hrd.tail, ?_, hh⟩, by show xs.length - (done.length + 1) < xs.length - done.length; omega, ?_⟩
    ·rw [← heq, Vt, UM]; rfl
    exact UC
   ·rw [Vd Uz, Option.getD_none] at heq;refine sr ?_;refine wu ?_;refine bh (aa (cF (ar (ai (ao (mL (mI (mL (mI ?_)))))))));refine nX ?_;refine jA ?_;refine mI (mI ?_);refine kJ (jX x 0 cr hcr _) (aw (cK rfl) (aw (cK rfl) (aw (cK rfl) aW))) UA ?_;refine mT ?_;refine dt ?_;refine dt ?_;refine nX ?_;refine vV ?_;intro ws hh;simp only [UU] at hh;rw [U3, cJ (by rw [a8]; simp only [UM, U7]; omega), fT, nj] at hh;refine wR ?_;refine bo (mI (aC (ai ?_)));refine ⟨⟨done ++ [(x + 0 + cr) % 18446744073709551616], r, _, by simp; omega, by rw [UM]; rfl, rfl, Uz, hrd.tail, ?_, hh⟩, by show xs.length - (done.length + 1) < xs.length - done.length; omega, ?_⟩
    ·rw [← heq, Vt, UM]; rfl
    exact UC
  ·exact Rp
theorem M5 {i d : Nat} (D : Nat) (hD : D < 18446744073709551616 ^ i) (hd : d < 18446744073709551616) (hk : i + n / 64 + 1 < k) :
  (D * 2 ^ n) / 18446744073709551616 ^ (i + n / 64) % 18446744073709551616 < 2 ^ (n % 64) ∧ d * 2 ^ (n % 64) % 18446744073709551616 = (d % 2 ^ (64 - n % 64)) * 2 ^ (n % 64) ∧
  (bP 18446744073709551616 k (D * 2 ^ n)).set (i + n / 64) ((D * 2 ^ n) / 18446744073709551616 ^ (i + n / 64) % 18446744073709551616 + d * 2 ^ (n % 64) % 18446744073709551616) = bP 18446744073709551616 k (D * 2 ^ n + 18446744073709551616 ^ (i + n / 64) * (d * 2 ^ (n % 64) % 18446744073709551616)) ∧
  (D * 2 ^ n + 18446744073709551616 ^ (i + n / 64) * (d * 2 ^ (n % 64) % 18446744073709551616)) / 18446744073709551616 ^ (i + n / 64 + 1) % 18446744073709551616 = 0 ∧
  (bP 18446744073709551616 k (D * 2 ^ n + 18446744073709551616 ^ (i + n / 64) * (d * 2 ^ (n % 64) % 18446744073709551616))).set (i + n / 64 + 1) (d / 2 ^ (64 - n % 64)) = bP 18446744073709551616 k ((D + 18446744073709551616 ^ i * d) * 2 ^ n) ∧
  (n % 64 = 0 → D * 2 ^ n + 18446744073709551616 ^ (i + n / 64) * (d * 2 ^ (n % 64) % 18446744073709551616) = (D + 18446744073709551616 ^ i * d) * 2 ^ n) := by
 have hW : (18446744073709551616 : Nat) = 2 ^ 64 := by decide
 have hs : n % 64 < 64 := Va _ Uz;have hn : 2 ^ n = 18446744073709551616 ^ (n / 64) * 2 ^ (n % 64) := by
  rw [hW, ← Vu, ← U8]; congr 1; omega
 generalize hq : n / 64 = q at *;generalize hse : n % 64 = s at *;have e : (18446744073709551616 : Nat) = 2 ^ (64 - s) * 2 ^ s := by rw [← U8, hW]; congr 1; omega
 have hpos : 0 < 2 ^ s := Vj Uz;have hwp : ∀ j : Nat, 0 < 18446744073709551616 ^ j := fun j => Vj UA;have hP : D * 2 ^ n < 18446744073709551616 ^ (i + q) * 2 ^ s := by
  rw [hn, ← VB, U8];exact Xo (Xo hD (hwp q)) hpos
 have h1 : (D * 2 ^ n) / 18446744073709551616 ^ (i + q) < 2 ^ s := by rw [V5 (hwp _), Vg (2 ^ s)]; exact hP
 have hsW : 2 ^ s ≤ 18446744073709551616 := by rw [hW]; exact Vr Uz Uz
 have h2 : d * 2 ^ s % 18446744073709551616 = (d % 2 ^ (64 - s)) * 2 ^ s := by rw [e, Nat.mul_mod_mul_right]
 have h3 : (d % 2 ^ (64 - s) + 1) * 2 ^ s ≤ 18446744073709551616 := by
  rw [e];exact VG _ (Va _ (Vj Uz))
 rw [VO] at h3;have h4 : (D * 2 ^ n) / 18446744073709551616 ^ (i + q) % 18446744073709551616 = (D * 2 ^ n) / 18446744073709551616 ^ (i + q) := Vh Uz;have hlt1 : D * 2 ^ n + 18446744073709551616 ^ (i + q) * (d * 2 ^ s % 18446744073709551616) < 18446744073709551616 ^ (i + q + 1) := by
  rw [h2, Vy];have : 18446744073709551616 ^ (i + q) * ((d % 2 ^ (64 - s)) * 2 ^ s + 2 ^ s) ≤ 18446744073709551616 ^ (i + q) * 18446744073709551616 := Vm _ h3;rw [Vz] at this;omega
 have hup := Pv (d := d) (s := s) hd Uz;have hfin : D * 2 ^ n + 18446744073709551616 ^ (i + q) * (d * 2 ^ s % 18446744073709551616) + 18446744073709551616 ^ (i + q + 1) * (d / 2 ^ (64 - s)) = (D + 18446744073709551616 ^ i * d) * 2 ^ n := by
  have h5 : 18446744073709551616 ^ (i + q) * (d * 2 ^ s % 18446744073709551616) + 18446744073709551616 ^ (i + q + 1) * (d / 2 ^ (64 - s)) = 18446744073709551616 ^ (i + q) * (d * 2 ^ s) := by
   conv => rhs; rw [← hup.1, Vz]
   rw [Vy, VB, Vg 18446744073709551616]
  rw [Xi, h5, WJ, hn, U8];congr 1;simp only [VB, X1, Vg]
 have hbig : ∀ j, j < k → 18446744073709551616 ^ j * 18446744073709551616 ≤ 18446744073709551616 ^ k := fun j hj => by rw [← Vy]; exact Vr UA hj
 have hb1 := hbig (i + q) Uz;rw [← Vy] at hb1;refine ⟨by rw [h4]; exact h1, h2, ?_, ?_, ?_, ?_⟩
 ·exact qd UA Uz Uz (by rw [h4, h2]; omega)
 ·rw [Vx hlt1]
 ·have h6 : (D * 2 ^ n + 18446744073709551616 ^ (i + q) * (d * 2 ^ s % 18446744073709551616)) / 18446744073709551616 ^ (i + q + 1) % 18446744073709551616 = 0 := by rw [Vx hlt1]
  have h7 : d / 2 ^ (64 - s) < 18446744073709551616 := VK (Xe _ _) hd;have h8 := qd (B := 18446744073709551616) (k := k) (n := D * 2 ^ n + 18446744073709551616 ^ (i + q) * (d * 2 ^ s % 18446744073709551616)) (j := i + q + 1) (v := d / 2 ^ (64 - s)) UA hk ?_ (by rw [h6]; omega)
  ·rw [h6, U5, hfin] at h8;exact h8
  ·have h9 : 18446744073709551616 ^ (i + q + 1) * (d / 2 ^ (64 - s) + 1) ≤ 18446744073709551616 ^ (i + q + 1) * 18446744073709551616 := Vm _ h7;have h10 := hbig (i + q + 1) hk;rw [Wf] at h9;omega
 ·intro h0;subst h0;rw [← hfin];have : d / 2 ^ (64 - 0) = 0 := Vx (by rw [← hW]; exact hd);rw [this];simp
theorem Hm (A : Option Addr) (n c m : Nat) (xs : List Nat) (w : World) (hx : Sl w A n 1 (db xs)) (hd : Dg 18446744073709551616 xs) (hn : n ≤ 1000000000) (hm : m ≤ 10000000000) :
  Calls Tryz.prog 246 #[.slice A n c, .int .i64 (m : Int)] w fun e w' => ∃ A c, e = .returned (.slice A (aU 18446744073709551616 (bB 18446744073709551616 xs * 2 ^ m)).length c) ∧ w'.ownsRow w.heap.size 204 1 (.slice A (aU 18446744073709551616 (bB 18446744073709551616 xs * 2 ^ m)).length c) (aU 18446744073709551616 (bB 18446744073709551616 xs * 2 ^ m)).length (db (aU 18446744073709551616 (bB 18446744073709551616 xs * 2 ^ m))) ∧ Below w.heap.size w w' := by
 have hl := hx.1;rw [a8] at hl;have hh := Hp.start w;have hs1 : ((m : Int) % 64).toNat = m % 64 := Uz;refine aj (N := 55) (l := [.slice A n c, .int .i64 (m : Int)]) Tryz.func246 rfl rfl (by simp) ?_;refine sr (aL (aa (sr (mL (aJ (mI ?_))))));refine n9 ?_;refine bo ?_;refine bo ?_;refine gu (n := n + m / 64 + 1) hh rfl rfl Uz Uz bk.out aM.out rfl Uz Uz UA ?_;intro b15 w15 hh;refine rT ?_;rw [pB] at hh;refine aR [6, 7, 8, 18, 19, 20, 21, 22, 23, 24, 25, 26, 27, 28, 29, 30, 31, 32, 33, 34, 35, 36, 37, 38, 39, 40, 41, 42, 43, 44, 45, 46, 47, 48, 49, 50, 51, 52] 18
  (fun v w' => ∃ i : Nat, i ≤ n ∧ v = .int .i64 i ∧ Hp w [.row (some ⟨b15, 0, none⟩) (n + m / 64 + 1) (n + m / 64 + 1) 204 1 (db (bP 18446744073709551616 (n + m / 64 + 1) (bB 18446744073709551616 (xs.take i) * 2 ^ m)))] w')
  (fun v _ => n - (intOf v).toNat) ?_ ?_
 ·exact ⟨0, UI _, rfl, by rw [WY, bB, Xl, rB]; exact hh⟩
 ·clear hh;rintro ρ' v w' ⟨i, hi, rfl, hh⟩;by_cases hlt : i < n
  ·obtain ⟨d, hdi⟩ := ak (l := xs) (k := i) Uz;obtain ⟨ad, rfl, hr⟩ := hx.at_ Uz;have hd2 := ee hdi;have hdw := hd.at_ hdi;have hD := iy (hd.take i);rw [U6, VM Uz] at hD;obtain ⟨s1, s2, s3, s4, s5, s6⟩ := M5 (k := n + m / 64 + 1) (n := m) (bB 18446744073709551616 (xs.take i)) hD hdw Uz;have hg := ee (iH (B := 18446744073709551616) (n + m / 64 + 1) (bB 18446744073709551616 (xs.take i) * 2 ^ m) (i + m / 64) Uz);refine sr ?_;refine eh ?_;refine df bk.out aM.size rfl rfl rfl Uz UA ?_;refine jL ?_;refine aI (aI (aa (sr (mI (mI ?_)))));refine n9 ?_;refine bo (aI (aa (ah ?_)));refine aZ 8 [[(5, none)], [(8, none)], [(27, some 0), (28, some 1)], [(29, some 2)], [(7, none)], [(1, none)], [(32, some 5)], [(31, some 4), (33, some 6)]] [(7, 34), (6, 33), (5, 32), (4, 31), (3, 30), (2, 29), (1, 28), (0, 27)] hh mixed UB ?_;refine gC ?_;refine dP ?_;refine KZ (i + m / 64) ?_;refine bz (i := 3) (fun ρ1 w1 hj hR => jN aM.out (show ρ1 29 = Value.pointer _ from hR.1) (hj.hp.gg (i := 0) rfl (by rw [U3]; exact hg))) ?_;refine dP ?_;refine dP ?_;refine bz (i := 6) (fun ρ1 w1 hj hR => oM (show ρ1 32 = Value.int _ _ from hR.1) rfl Uz Uz) ?_
   refine bz (i := 7) (fun ρ1 w1 hj hR => yx (show ρ1 31 = Value.int _ _ from hR.1) (show ρ1 33 = Value.int _ _ from hR.2.1) Uz) ?_;refine aT ?_;intro f W hJ hV;have hb_6 := hJ.bl;obtain ⟨v34, v33, v32, v31, v30, v29, v28, v27, _⟩ := hV;replace hh := hJ.hp;refine aY (br (ae v34 (ae v33 (ae v32 (ae v31 (ae v30 (ae v29 (ae v28 (ae v27 aX))))))))) ?_;dsimp only [cg];clear hJ;refine Eh ?_;refine cX (k := i + m / 64) bk.out aM.size rfl rfl Uz Uz UA ?_;refine Kx ?_;intro ws hh;simp only [UU] at hh;rw [hs1, s2, Cx s1, ← s2, U3, cJ (by rw [a8, aO]; omega), fT, s3] at hh;by_cases h0 : m % 64 = 0
   ·refine aa (sr (mI ?_));refine so ?_;refine cq (aa (cF (ar (bE (ai (ao ?_))))));refine bo (mI (aC (ai ?_)));rw [s6 h0, ← fG hdi] at hh;exact IK
   ·have hg2 := ee (iH (B := 18446744073709551616) (n + m / 64 + 1) (bB 18446744073709551616 (xs.take i) * 2 ^ m + 18446744073709551616 ^ (i + m / 64) * (d * 2 ^ (m % 64) % 18446744073709551616)) (i + m / 64 + 1) Uz);rw [s4] at hg2;have hs2 : (64 - (m : Int) % 64).toNat = 64 - m % 64 := Uz;have hd64 : d / 2 ^ (64 - (m : Int) % 64).toNat < 18446744073709551616 := VK (Xe _ _) hdw;have h0w : (0 : Nat) < 18446744073709551616 := Uz;refine aa (sr (mI ?_));refine so ?_;refine cq (aa (cT ?_));refine aZ 10 [[(5, none)], [(8, none)], [(41, some 1)], [(40, some 0), (42, some 2)], [(43, some 3)], [(7, none)], [(1, none)], [(46, some 6)], [(47, some 7)], [(45, some 5), (48, some 8)]] [(9, 49), (8, 48), (7, 47), (6, 46), (5, 45), (4, 44), (3, 43), (2, 42), (1, 41), (0, 40)] hh mixed UB ?_;refine gC ?_;refine dP ?_;refine sG ?_;refine KZ (i + m / 64 + 1) ?_;refine bz (i := 4) (fun ρ1 w1 hj hR => jN aM.out (show ρ1 43 = Value.pointer _ from hR.1) (hj.hp.gg (i := 0) rfl (by rw [U3]; exact hg2))) ?_;refine dP ?_;refine dP ?_;refine bz (i := 7) (fun ρ1 w1 hj hR => oM (show ρ1 46 = Value.int _ _ from hR.1) rfl Uz Uz) ?_;refine vN ?_
    refine bz (i := 9) (fun ρ1 w1 hj hR => Dr (show ρ1 45 = Value.int _ _ from hR.1) (show ρ1 48 = Value.int _ _ from hR.2.1) Uz) ?_;refine aT ?_;intro f W hJ hV;have hb_8 := hJ.bl;obtain ⟨v49, v48, v47, v46, v45, v44, v43, v42, v41, v40, _⟩ := hV;replace hh := hJ.hp;refine aY (br (ae v49 (ae v48 (ae v47 (ae v46 (ae v45 (ae v44 (ae v43 (ae v42 (ae v41 (ae v40 aX))))))))))) ?_;dsimp only [cg];clear hJ;refine Eh ?_;refine cX (k := i + m / 64 + 1) bk.out aM.size rfl rfl Uz Uz UA ?_;refine Kx ?_;intro ws hh;simp only [UU] at hh;rw [hs2, Nat.zero_or, U3, cJ (by rw [a8, aO]; omega), fT, s5, ← fG hdi] at hh;refine fV ?_;refine bo (mI (aC (ai ?_)));exact IK
  ·refine sr ?_;refine oe ?_;rw [UQ Uz] at hh;refine bD hh (ir _ _ _ (bP 18446744073709551616 (n + m / 64 + 1) (bB 18446744073709551616 xs * 2 ^ m)) _ (hh.aA (i := 0) rfl) (UH _) Uz) rfl ?_;intro w54 hh;refine aL (aa (av ?_));refine de ?_;have hbd : bB 18446744073709551616 xs * 2 ^ m < 18446744073709551616 ^ (n + m / 64 + 1) := by
    have h1 := iy hd;rw [show xs.length = n by omega] at h1;have h2 : 2 ^ m ≤ 18446744073709551616 ^ (m / 64 + 1) := by
     exact R3
    rw [show n + m / 64 + 1 = n + (m / 64 + 1) by omega, U8];exact VN (Xo h1 (Vj Uz)) (Vm _ h2)
   have hd : dI (bP 18446744073709551616 (n + m / 64 + 1) (bB 18446744073709551616 xs * 2 ^ m)) = aU 18446744073709551616 (bB 18446744073709551616 xs * 2 ^ m) := by
    exact PT
   have h1 := (Hp.Fc (xs := bP 18446744073709551616 (n + m / 64 + 1) (bB 18446744073709551616 xs * 2 ^ m)) hh (aO _ _)).at_ (i := 0) rfl;exact M8
theorem Sl.Qf {xs : List Nat} (h : Sl w (some ad) n 1 (db xs)) (hk : k < n) : Sl w (some (ad.add (k * 1))) (n - k) 1 (db (xs.drop k)) := by
 have hl := h.1;rw [a8] at hl;refine ⟨by rw [a8, VY]; omega, fun h0 => ⟨_, rfl, ?_⟩⟩;obtain ⟨ad', he, hr⟩ := h.2 Uz;injection he with he
 subst he;rw [U3, wZ];exact hr.drop k
theorem G3 {s : Nat} (hs : s < 64) (h0 : 0 < s) :
  (N / 18446744073709551616 ^ (j + 1) % 18446744073709551616) * 2 ^ (64 - s) % 18446744073709551616 = N / 18446744073709551616 ^ (j + 1) % 2 ^ s * 2 ^ (64 - s) ∧
  (N / 18446744073709551616 ^ j % 18446744073709551616 / 2 ^ s ||| (N / 18446744073709551616 ^ (j + 1) % 18446744073709551616) * 2 ^ (64 - s) % 18446744073709551616) = N / 2 ^ (64 * j + s) % 18446744073709551616 := by
 have hW : (18446744073709551616 : Nat) = 2 ^ 64 := by decide
 have e : (18446744073709551616 : Nat) = 2 ^ s * 2 ^ (64 - s) := by rw [← U8, hW]; congr 1; omega
 have h1 : (N / 18446744073709551616 ^ (j + 1) % 18446744073709551616) * 2 ^ (64 - s) % 18446744073709551616 = N / 18446744073709551616 ^ (j + 1) % 2 ^ s * 2 ^ (64 - s) := by
  generalize N / 18446744073709551616 ^ (j + 1) = m;rw [e, Nat.mul_mod_mul_right, Nat.mod_mul_right_mod]
 obtain ⟨h2, h3⟩ := vS N j s hs h0;exact ⟨h1, by rw [h1, Cx h2, h3]⟩
theorem BL (A : Option Addr) (n c m : Nat) (xs : List Nat) (w : World) (hx : Sl w A n 1 (db xs)) (hd : Dg 18446744073709551616 xs) (hc : n ≤ c) (hn : n ≤ 1000000000) (hm : m ≤ 1000000000000) :
  Calls Tryz.prog 247 #[.slice A n c, .int .i64 (m : Int)] w fun e w' => ∃ A c, e = .returned (.slice A (aU 18446744073709551616 (bB 18446744073709551616 xs / 2 ^ m)).length c) ∧ w'.ownsRow w.heap.size 204 1 (.slice A (aU 18446744073709551616 (bB 18446744073709551616 xs / 2 ^ m)).length c) (aU 18446744073709551616 (bB 18446744073709551616 xs / 2 ^ m)).length (db (aU 18446744073709551616 (bB 18446744073709551616 xs / 2 ^ m))) ∧ Below w.heap.size w w' := by
 have hl := hx.1;rw [a8] at hl;have hh := Hp.start w;have hs1 : ((m : Int) % 64).toNat = m % 64 := Uz;have hW : (18446744073709551616 : Nat) = 2 ^ 64 := by decide
 have hmm : 2 ^ m = 18446744073709551616 ^ (m / 64) * 2 ^ (m % 64) := by
  rw [hW, ← Vu, ← U8]; congr 1; omega
 have hlt := iy hd;rw [show xs.length = n by omega] at hlt;by_cases hbig : n ≤ m / 64
 ·have h0 : bB 18446744073709551616 xs / 2 ^ m = 0 := by
   apply Vx;refine VN hlt (U1 (Vr UA hbig) ?_);rw [hmm];exact X8 _ (Vj Uz)
  refine aj (N := 61) (l := [.slice A n c, .int .i64 (m : Int)]) Tryz.func247 rfl rfl (by simp) ?_;refine sr (aL (aa (ah (sr (mI ?_)))));refine n9 ?_;refine mL (aJ ?_);refine dL (aa (cT (sr (aL (aa (av (aH ?_)))))));refine de ?_;rw [h0, gk Uz];exact KE
 ·obtain ⟨ad, rfl, hr⟩ := hx.at_ Uz;have hsd := hx.Qf (k := m / 64) Uz;have hget : ∀ j, j < n → xs[j]? = some (bB 18446744073709551616 xs / 18446744073709551616 ^ j % 18446744073709551616) := fun j hj => by
   obtain ⟨d, hdj⟩ := ak (l := xs) (k := j) Uz;rw [hdj, s8 hd hdj]
  refine aj (N := 61) (l := [.slice (some ad) n c, .int .i64 (m : Int)]) Tryz.func247 rfl rfl (by simp) ?_;refine sr (aL (aa (ah (sr (mI ?_)))));refine n9 ?_;refine mL (aJ ?_);refine dL (aa (cF (ar (ai (sr (mL (mI ?_)))))));refine n9 ?_;refine z5 (l := m / 64) bk.out aM.size rfl rfl Uz Uz Uz Uz UA ?_;refine aF (n8 _ _ _ 0 _ _ hsd Uz Uz) al.out rfl UA ?_;rintro e_ w_ ⟨b16, rfl, hown_, hb_⟩;refine ⟨_, rfl, ?_⟩;replace hh := hh.aV (x := .row _ _ _ _ _ _) hb_ hown_;rw [Nat.zero_max, Vw, XY, Vo] at hh;rw [Nat.zero_max];refine rT ?_;refine aR [6, 19, 20, 21, 22, 23, 24, 25, 26, 27, 28, 29, 30, 31, 32, 33, 34, 35, 36, 37, 38, 39, 40, 41, 42, 43, 44, 45, 46, 47, 48, 49, 50, 51, 52, 53, 54, 55, 56, 57, 58] 19
   (fun v w' => ∃ i : Nat, i ≤ n - m / 64 ∧ v = .int .i64 i ∧ Hp w [.row (some ⟨b16, 0, none⟩) (n - m / 64) (n - m / 64) 204 1 (db (bP 18446744073709551616 i (bB 18446744073709551616 xs / 2 ^ m) ++ xs.drop (m / 64 + i)))] w')
   (fun v _ => (n - m / 64) - (intOf v).toNat) ?_ ?_
  ·exact ⟨0, UI _, rfl, hh⟩
  ·clear hh;rintro ρ' v w' ⟨i, hi, rfl, hh⟩;by_cases hlt2 : i < n - m / 64
   ·have hgi := hget (m / 64 + i) Uz;have hdr : xs.drop (m / 64 + i) = (bB 18446744073709551616 xs / 18446744073709551616 ^ (m / 64 + i) % 18446744073709551616) :: xs.drop (m / 64 + i + 1) := by
     rw [V0 Uz];congr 1;have := UW.1 hgi;exact this.2
    have hcell : (bP 18446744073709551616 i (bB 18446744073709551616 xs / 2 ^ m) ++ xs.drop (m / 64 + i))[i]? = some (bB 18446744073709551616 xs / 18446744073709551616 ^ (m / 64 + i) % 18446744073709551616) := by
     rw [VW (by rw [aO]; omega), aO, hdr]; simp
    have hg := ee hcell;have hset : ∀ y, (bP 18446744073709551616 i (bB 18446744073709551616 xs / 2 ^ m) ++ xs.drop (m / 64 + i)).set i y = bP 18446744073709551616 i (bB 18446744073709551616 xs / 2 ^ m) ++ y :: xs.drop (m / 64 + i + 1) := fun y => by
     rw [hdr, WW _ _ (by rw [aO]; omega), aO, Vw, UU]
    have hll : (bP 18446744073709551616 i (bB 18446744073709551616 xs / 2 ^ m) ++ xs.drop (m / 64 + i)).length = n - m / 64 := by rw [UM, aO, VY]; omega
    have hac : ∀ y, bP 18446744073709551616 i (bB 18446744073709551616 xs / 2 ^ m) ++ y :: xs.drop (m / 64 + i + 1) = (bP 18446744073709551616 i (bB 18446744073709551616 xs / 2 ^ m) ++ [y]) ++ xs.drop (m / 64 + (i + 1)) := fun y => List.append_cons _ _ _;have hnew : bP 18446744073709551616 (i + 1) (bB 18446744073709551616 xs / 2 ^ m) = bP 18446744073709551616 i (bB 18446744073709551616 xs / 2 ^ m) ++ [bB 18446744073709551616 xs / 2 ^ (64 * (m / 64 + i) + m % 64) % 18446744073709551616] := by
     rw [lG, Wo];congr 4;rw [hW, ← Vu, ← U8]; congr 1; omega
    refine sr ?_;refine bh (aa (ah (cT (ar (ai (ah (aq (sr (mI (aI (aa (sr (mL (mI ?_))))))))))))));refine gD ?_;refine jA ?_;refine mI ?_;refine so ?_;refine DB rfl rfl Uz UA ?_;refine gD ?_;refine bQ hh (i := 0) (vs := [_]) rfl rfl (cK rfl) rfl aM.out rfl (by rw [a8, hll]; omega) rfl ?_;intro ws hh;simp only [UU] at hh;rw [hs1, U3, cJ (by rw [a8, hll]; omega), fT, hset] at hh;by_cases h0 : m % 64 = 0
    ·have e1 : bB 18446744073709551616 xs / 18446744073709551616 ^ (m / 64 + i) % 18446744073709551616 / 2 ^ (m % 64) = bB 18446744073709551616 xs / 2 ^ (64 * (m / 64 + i) + m % 64) % 18446744073709551616 := by
      rw [h0, Xs, Nat.div_one, We, Vu, ← hW]
     by_cases hl : i + 1 < n - m / 64
     ·refine aa (sr (mI ?_));refine bo (mL (aJ ?_));refine bh (mB (gT (mI (gT ?_))));refine so ?_;refine gT ?_;refine cq ?_;refine fO ?_;exact N6
     ·exact NY
    ·by_cases hl : i + 1 < n - m / 64
     ·have hgj := hget (m / 64 + i + 1) Uz;have hgj2 := ee hgj;obtain ⟨d1, d2⟩ := G3 (N := bB 18446744073709551616 xs) (j := m / 64 + i) (s := m % 64) (Va _ Uz) Uz;have hcell2 : (bP 18446744073709551616 i (bB 18446744073709551616 xs / 2 ^ m) ++ (bB 18446744073709551616 xs / 18446744073709551616 ^ (m / 64 + i) % 18446744073709551616 / 2 ^ (m % 64)) :: xs.drop (m / 64 + i + 1))[i]? = some (bB 18446744073709551616 xs / 18446744073709551616 ^ (m / 64 + i) % 18446744073709551616 / 2 ^ (m % 64)) := by
       rw [VW (by rw [aO]; omega), aO]; simp
      have hg2 := ee hcell2;have hset2 : ∀ y z, (bP 18446744073709551616 i (bB 18446744073709551616 xs / 2 ^ m) ++ y :: xs.drop (m / 64 + i + 1)).set i z = bP 18446744073709551616 i (bB 18446744073709551616 xs / 2 ^ m) ++ z :: xs.drop (m / 64 + i + 1) := fun y z => by
       rw [WW _ _ (by rw [aO]; omega), aO, Vw, UU]
      have hll2 : ∀ y, (bP 18446744073709551616 i (bB 18446744073709551616 xs / 2 ^ m) ++ y :: xs.drop (m / 64 + i + 1)).length = n - m / 64 := fun y => by rw [UM, aO, U7, VY]; omega
      have hs2 : (64 - (m : Int) % 64).toNat = 64 - m % 64 := Uz;have b1 : bB 18446744073709551616 xs / 18446744073709551616 ^ (m / 64 + i) % 18446744073709551616 / 2 ^ (m % 64) < 18446744073709551616 := VK (Xe _ _) (Va _ Uz);have b2 : bB 18446744073709551616 xs / 18446744073709551616 ^ (m / 64 + i + 1) % 18446744073709551616 * 2 ^ (64 - (m : Int) % 64).toNat % 18446744073709551616 < 18446744073709551616 := Va _ Uz;refine aa (sr (mI ?_));refine bo (mL (aJ ?_));refine bh (mB (gT (mI (gT ?_))));refine so ?_;refine gT ?_;refine cq ?_;refine fO ?_;refine aa (cT ?_);refine aZ 16 [[(5, none)], [(6, none)], [(40, some 0), (41, some 1)], [(42, some 2)], [(0, none)], [(1, none)], [(45, some 5)], [(6, none)], [(46, some 6), (47, some 7)], [(48, some 8)], [(44, some 4), (49, some 9)], [(50, some 10)], [(1, none)], [(52, some 12)], [(53, some 13)], [(51, some 11), (54, some 14)]] [(15, 55), (14, 54), (13, 53), (12, 52), (11, 51), (10, 50), (9, 49), (8, 48), (7, 47), (6, 46), (5, 45), (4, 44), (3, 43), (2, 42), (1, 41), (0, 40)] hh mixed UB ?_;refine gC ?_;refine dP ?_;refine KZ (i) ?_
      refine bz (i := 3) (fun ρ1 w1 hj hR => jN aM.out (show ρ1 42 = Value.pointer _ from hR.1) (hj.hp.gg (i := 0) rfl (by rw [U3]; exact hg2))) ?_;refine gC ?_;refine dP ?_;refine bz (i := 6) (fun ρ1 w1 hj hR => qE (show ρ1 45 = Value.int _ _ from hR.1) rfl Uz Uz Uz) ?_;refine dP ?_;refine sG ?_;refine sG ?_;refine nM (m / 64 + i + 1) ?_;refine sM (fun _ hj => (hr.ext hj.hp.below).ya hgj2) ?_;refine dP ?_;refine bz (i := 13) (fun ρ1 w1 hj hR => oM (show ρ1 52 = Value.int _ _ from hR.1) rfl Uz Uz) ?_;refine vN ?_;refine bz (i := 15) (fun ρ1 w1 hj hR => yx (show ρ1 51 = Value.int _ _ from hR.1) (show ρ1 54 = Value.int _ _ from hR.2.1) Uz) ?_;refine aT ?_;intro f W hJ hV;have hb_9 := hJ.bl;obtain ⟨v55, v54, v53, v52, v51, v50, v49, v48, v47, v46, v45, v44, v43, v42, v41, v40, _⟩ := hV;replace hh := hJ.hp;refine aY (br (ae v55 (ae v54 (ae v53 (ae v52 (ae v51 (ae v50 (ae v49 (ae v48 (ae v47 (ae v46 (ae v45 (ae v44 (ae v43 (ae v42 (ae v41 (ae v40 aX))))))))))))))))) ?_;dsimp only [cg];clear hJ;refine Eh ?_;refine gD ?_;refine bQ hh (i := 0) (vs := [_]) rfl rfl (cK rfl) rfl aM.out rfl (by rw [a8, hll2]; omega) rfl ?_;intro ws hh;simp only [UU] at hh
      rw [hs2, d2, U3, cJ (by rw [a8, hll2]; omega), fT, hset2, hac, ← hnew] at hh;refine fV ?_;refine bo (mI (aC (ai ?_)));exact OH
     ·have e1 : bB 18446744073709551616 xs / 18446744073709551616 ^ (m / 64 + i) % 18446744073709551616 / 2 ^ (m % 64) = bB 18446744073709551616 xs / 2 ^ (64 * (m / 64 + i) + m % 64) % 18446744073709551616 := by
       obtain ⟨h2, h3⟩ := vS (bB 18446744073709551616 xs) (m / 64 + i) (m % 64) (Va _ Uz) Uz;have h4 : bB 18446744073709551616 xs / 18446744073709551616 ^ (m / 64 + i + 1) = 0 := Vx (VN hlt (Vr UA Uz));rw [h4] at h3;simpa using h3
      exact NY
   ·obtain rfl : i = n - m / 64 := Uz;rw [List.drop_eq_nil_of_le Uz, Vo] at hh;refine sr ?_;refine oe ?_;refine bD hh (ir _ _ _ (bP 18446744073709551616 (n - m / 64) (bB 18446744073709551616 xs / 2 ^ m)) _ (hh.aA (i := 0) rfl) (UH _) Uz) rfl ?_;intro w60 hh;refine aL (aa (av ?_));refine de ?_;have hbd : bB 18446744073709551616 xs / 2 ^ m < 18446744073709551616 ^ (n - m / 64) := by
     rw [V5 (Vj Uz), hmm, ← VB, ← U8, show n - m / 64 + m / 64 = n by omega];exact VN hlt (X8 _ (Vj Uz))
    have hd : dI (bP 18446744073709551616 (n - m / 64) (bB 18446744073709551616 xs / 2 ^ m)) = aU 18446744073709551616 (bB 18446744073709551616 xs / 2 ^ m) := by
     exact PT
    have h1 := (Hp.Fc (xs := bP 18446744073709551616 (n - m / 64) (bB 18446744073709551616 xs / 2 ^ m)) hh (aO _ _)).at_ (i := 0) rfl;exact M8
def bN (a : ByteArray) : Nat := bn a.data.toList
def sN (n : Nat) : ByteArray := str (sb n)
theorem e8 (n : Nat) : bN (sN n) = n := by rw [bN, sN, cP, Sf]
theorem lY (n : Nat) : (sN n).size = (bF n + 7) / 8 := by rw [sN, jC, F6, CZ]
theorem HG {a : Nat} (h : sN a = sN b) : a = b := by rw [← e8 a, h, e8]
theorem np : sN 0 = ByteArray.mk #[] := by rw [sN, Lr]; rfl
theorem wL (a : ByteArray) : bN a < 256 ^ a.size := by rw [di]; exact Nt _
theorem gP (a : ByteArray) : bF (bN a) ≤ 8 * a.size := by
 apply dy;have := wL a;rwa [show (256 : Nat) = 2 ^ 8 from rfl, ← Vu] at this
theorem FO (h : n < 256 ^ k) : (aU 18446744073709551616 n).length ≤ (k + 7) / 8 := by
 apply ij Uz;refine VN h ?_;rw [show (256 : Nat) = 2 ^ 8 from rfl, show (18446744073709551616 : Nat) = 2 ^ 64 from rfl, ← Vu, ← Vu];exact Vr Uz Uz
theorem gi (a : ByteArray) : (aU 18446744073709551616 (bN a)).length ≤ (a.size + 7) / 8 := FO (wL a)
theorem jr (n : Nat) : Dg 18446744073709551616 (aU 18446744073709551616 n) := (dK Uz n).1
theorem gG (n : Nat) : bB 18446744073709551616 (aU 18446744073709551616 n) = n := dJ Uz n
theorem oF (a : ByteArray) (w : World) (ha : a.size ≤ 1000000000) :
  Calls Tryz.prog 224 #[.string a] w fun e w' => ∃ b c, e = .returned (.slice (some ⟨b, 0, none⟩) (aU 18446744073709551616 (bN a)).length c) ∧ w'.ownsRow w.heap.size 204 1 (.slice (some ⟨b, 0, none⟩) (aU 18446744073709551616 (bN a)).length c) (aU 18446744073709551616 (bN a)).length (db (aU 18446744073709551616 (bN a))) ∧ Below w.heap.size w w' := GU a w Uz
theorem rX (n : Nat) (w : World) (hn : n < 18446744073709551616) :
  Calls Tryz.prog 202 #[.int .u64 (n : Int)] w fun e w' => e = .returned (.string (sN n)) ∧ Below w.heap.size w w' := by
 have hh := Hp.start w;refine aj (N := 6) (l := [.int .u64 (n : Int)]) Tryz.func202 rfl rfl (by simp) ?_;refine sr (aS (aa (sr (mI ?_))));refine xx ?_;intro b4 w4 hh;refine bD hh (ig _ _ _ [n] _ (hh.aA (i := 0) rfl) (Dg.cons hn Dg.nil) (UH _) Uz) rfl ?_;intro w5 hh;refine aS (aa (av ?_));refine de ?_;refine ⟨?_, hh.below⟩;rw [sN];simp [bB]
theorem xG (a b : ByteArray) (w : World) (ha : a.size ≤ 1000000000) (hb : b.size ≤ 1000000000) :
  Calls Tryz.prog 251 #[.string a, .string b] w fun e w' => e = .returned (.int .i64 (k6 (bN a) (bN b))) ∧ Below w.heap.size w w' := by
 have hh := Hp.start w;have h1 := gi a;have h2 := gi b;refine aj (N := 10) (l := [.string a, .string b]) Tryz.func251 rfl rfl (by simp) ?_;refine sr (aI (aa (sr (mS ?_))));refine sg ?_;rintro e_ w6 ⟨A6, c6, rfl, hown_, hb_⟩;refine ⟨_, rfl, ?_⟩;replace hh := hh.aV (x := .row _ _ _ _ _ _) hb_ hown_;refine mS ?_;refine EB ?_;rintro e_ w8 ⟨A8, c8, rfl, hown_, hb_⟩;refine ⟨_, rfl, ?_⟩;replace hh := hh.aV (x := .row _ _ _ _ _ _) hb_ hown_;refine KD ?_;intro w9 hh;rw [gG, gG];exact Bw
theorem l6 (a : ByteArray) (w : World) (ha : a.size ≤ 1000000000) :
  Calls Tryz.prog 228 #[.string a] w fun e w' => e = .returned (.int .i64 (bF (bN a))) ∧ Below w.heap.size w w' := by
 have hh := Hp.start w;have h1 := gi a;refine aj (N := 6) (l := [.string a]) Tryz.func228 rfl rfl (by simp) ?_;refine sr (aI (aa (sr (mS ?_))));refine sg ?_;rintro e_ w4 ⟨A4, c4, rfl, hown_, hb_⟩;refine ⟨_, rfl, ?_⟩;replace hh := hh.aV (x := .row _ _ _ _ _ _) hb_ hown_;refine bD hh (vk _ _ _ (aU 18446744073709551616 (bN a)) _ (hh.aA (i := 0) rfl) (jr _) (hh.fN (i := 0) rfl) Uz) rfl ?_;intro w5 hh;rw [gG];exact Bw
theorem pr (n m : Nat) : bF (n * 2 ^ m) ≤ bF n + m := by
 apply dy;rw [U8];exact Xo (dq n) (Vj Uz)
theorem uH (n : Nat) : (aU 18446744073709551616 n).length ≤ (bF n + 63) / 64 := by
 apply ij Uz;refine VN (dq n) ?_;exact R3
theorem yu (a : ByteArray) (m : Nat) (w : World) (ha : a.size ≤ 1000000000) (hm : m ≤ 10000000000) :
  Calls Tryz.prog 226 #[.string a, .int .i64 (m : Int)] w fun e w' => e = .returned (.string (sN (bN a * 2 ^ m))) ∧ Below w.heap.size w w' := by
 have hh := Hp.start w;have h1 := gi a;have h2 := uH (bN a * 2 ^ m);have h3 := pr (bN a) m;have h4 := gP a;have e1 : (if (0 : Int) > (m : Int) then 0 else (m : Int)) = m := UE Uz;refine aj (N := 11) (l := [.string a, .int .i64 (m : Int)]) Tryz.func226 rfl rfl (by simp) ?_;refine sr (aS (aa (sr (mS ?_))));refine sg ?_;rintro e_ w6 ⟨A6, c6, rfl, hown_, hb_⟩;refine ⟨_, rfl, ?_⟩;replace hh := hh.aV (x := .row _ _ _ _ _ _) hb_ hown_;refine mI ?_;refine lv rfl rfl UA ?_;rw [e1];refine aF (Hm _ _ _ m (aU 18446744073709551616 (bN a)) _ (hh.aA (i := 0) rfl) (jr _) Uz hm) al.out rfl UA ?_;rintro e_ w9 ⟨A9, c9, rfl, hown_, hb_⟩;refine ⟨_, rfl, ?_⟩;replace hh := hh.aV (x := .row _ _ _ _ _ _) hb_ hown_;rw [gG] at *;refine bD hh (ig _ _ _ (aU 18446744073709551616 (bN a * 2 ^ m)) _ (hh.aA (i := 0) rfl) (jr _) (hh.fN (i := 0) rfl) Uz) rfl ?_;intro w10 hh;rw [gG];exact FZ
theorem pR (n m : Nat) : bF (n / 2 ^ m) ≤ bF n := by
 apply dy;exact VK (Xe _ _) (dq n)
theorem xA (a : ByteArray) (m : Nat) (w : World) (ha : a.size ≤ 1000000000) (hm : m ≤ 1000000000000) :
  Calls Tryz.prog 227 #[.string a, .int .i64 (m : Int)] w fun e w' => e = .returned (.string (sN (bN a / 2 ^ m))) ∧ Below w.heap.size w w' := by
 have hh := Hp.start w;have h1 := gi a;have h2 := uH (bN a / 2 ^ m);have h3 := pR (bN a) m;have h4 := gP a;have e1 : (if (0 : Int) > (m : Int) then 0 else (m : Int)) = m := UE Uz;refine aj (N := 11) (l := [.string a, .int .i64 (m : Int)]) Tryz.func227 rfl rfl (by simp) ?_;refine sr (aS (aa (sr (mS ?_))));refine sg ?_;rintro e_ w6 ⟨A6, c6, rfl, hown_, hb_⟩;refine ⟨_, rfl, ?_⟩;replace hh := hh.aV (x := .row _ _ _ _ _ _) hb_ hown_;refine mI ?_;refine lv rfl rfl UA ?_;rw [e1];refine aF (BL _ _ _ m (aU 18446744073709551616 (bN a)) _ (hh.aA (i := 0) rfl) (jr _) (hh.fN (i := 0) rfl) Uz hm) al.out rfl UA ?_;rintro e_ w9 ⟨A9, c9, rfl, hown_, hb_⟩;refine ⟨_, rfl, ?_⟩;replace hh := hh.aV (x := .row _ _ _ _ _ _) hb_ hown_;rw [gG] at *;refine bD hh (ig _ _ _ (aU 18446744073709551616 (bN a / 2 ^ m)) _ (hh.aA (i := 0) rfl) (jr _) (hh.fN (i := 0) rfl) Uz) rfl ?_;intro w10 hh;rw [gG];exact FZ
theorem LP {x y : Nat} (h : y ≤ x) : BC 18446744073709551616 (aU 18446744073709551616 x) (aU 18446744073709551616 y) 0 = 0 ∧ bB 18446744073709551616 (sB 18446744073709551616 (aU 18446744073709551616 x) (aU 18446744073709551616 y) 0) = x - y := by
 have := HI (B := 18446744073709551616) Uz (aU 18446744073709551616 x) (aU 18446744073709551616 y) 0 (jr _) (jr _) Uz (by rw [gG, gG]; omega);rw [gG, gG] at this;exact ⟨this.2, Uz⟩
theorem pb (a b : ByteArray) (w : World) (ha : a.size ≤ 1000000000) (hb : b.size ≤ 1000000000) :
  Calls Tryz.prog 232 #[.string a, .string b] w fun e w' => e = .returned (.tuple #[.string (sN (bN a - bN b)), .bool (decide (bN b ≤ bN a))]) ∧ Below w.heap.size w w' := by
 have hh := Hp.start w;have h1 := gi a;have h2 := gi b;by_cases hlt : bN a < bN b
 ·refine aj (N := 21) (l := [.string a, .string b]) Tryz.func232 rfl rfl (by simp) ?_;refine sr (aS (aB (aa (sr (mS ?_)))));refine sg ?_;rintro e_ w9 ⟨A9, c9, rfl, hown_, hb_⟩;refine ⟨_, rfl, ?_⟩;replace hh := hh.aV (x := .row _ _ _ _ _ _) hb_ hown_;refine mS ?_;refine EB ?_;rintro e_ w11 ⟨A11, c11, rfl, hown_, hb_⟩;refine ⟨_, rfl, ?_⟩;replace hh := hh.aV (x := .row _ _ _ _ _ _) hb_ hown_;refine aL (aL (aa (ah (sr (mL (mL ?_))))));refine KD ?_;intro w14 hh;rw [gG, gG, mh hlt];exact Rs
 ·obtain ⟨s1, s2⟩ := LP (Nat.le_of_not_lt hlt);have hc : ¬ k6 (bN a) (bN b) < 0 := by unfold k6; split <;> (try split) <;> omega
  refine aj (N := 21) (l := [.string a, .string b]) Tryz.func232 rfl rfl (by simp) ?_;refine sr (aS (aB (aa (sr (mS ?_)))));refine sg ?_;rintro e_ w9 ⟨A9, c9, rfl, hown_, hb_⟩;refine ⟨_, rfl, ?_⟩;replace hh := hh.aV (x := .row _ _ _ _ _ _) hb_ hown_;refine mS ?_;refine EB ?_;rintro e_ w11 ⟨A11, c11, rfl, hown_, hb_⟩;refine ⟨_, rfl, ?_⟩;replace hh := hh.aV (x := .row _ _ _ _ _ _) hb_ hown_;refine aL (aL (aa (ah (sr (mL (mL ?_))))));refine KD ?_;intro w14 hh;rw [gG, gG];refine bh (aa (cF (ar (ai (sr (mL (mL ?_)))))));replace hh := hh.front 1 rfl;rw [← Vo (aU 18446744073709551616 (bN a)), ← UN (aU 18446744073709551616 (bN a))] at hh;have hll := (hh.K3 (i := 0) rfl);rw [UN, Vo] at hll;refine aF (z8 [] (aU 18446744073709551616 (bN a)) [] (aU 18446744073709551616 (bN b)) _ hh (fun w1 cs h => h.aA (i := 1) rfl) (jr _) (jr _) Uz Uz s1) al.out rfl UA ?_;rintro e_ w_ ⟨rfl, hh⟩;refine ⟨_, rfl, ?_⟩;simp only [UN, Vo] at hh;refine aa (sr (mL ?_))
  refine bD hh (ig _ _ _ (sB 18446744073709551616 (aU 18446744073709551616 (bN a)) (aU 18446744073709551616 (bN b)) 0) _ (hh.aA (i := 0) rfl) (M9 Uz _ _ _) (hh.fN (i := 0) rfl) Uz) rfl ?_;intro w20 hh;rw [s2];exact Nu
theorem yG (a b : ByteArray) (w : World) (ha : a.size ≤ 1000000000) (hb : b.size ≤ 1000000000) :
  Calls Tryz.prog 234 #[.string a, .string b] w fun e w' => e = .returned (.string (sN (bN a * bN b))) ∧ Below w.heap.size w w' := by
 have hh := Hp.start w;have h1 := gi a;have h2 := gi b;refine aj (N := 37) (l := [.string a, .string b]) Tryz.func234 rfl rfl (by simp) ?_;refine sr (aS (aa (sr (mS ?_))));refine sg ?_;rintro e_ w11 ⟨A11, c11, rfl, hown_, hb_⟩;refine ⟨_, rfl, ?_⟩;replace hh := hh.aV (x := .row _ _ _ _ _ _) hb_ hown_;refine mS ?_;refine EB ?_;rintro e_ w13 ⟨A13, c13, rfl, hown_, hb_⟩;refine ⟨_, rfl, ?_⟩;replace hh := hh.aV (x := .row _ _ _ _ _ _) hb_ hown_;have hxd := jr (bN a);have hyd := jr (bN b);have hX := gG (bN a);have hY := gG (bN b);generalize aU 18446744073709551616 (bN a) = xs at *;generalize aU 18446744073709551616 (bN b) = ys at *;refine aL (aL (aa (sr (mL (aJ (mL (aJ ?_)))))));refine bo ?_;refine bo ?_;refine gu (n := xs.length + ys.length + 1) hh rfl rfl Uz Uz bk.out aM.out rfl Uz Uz UA ?_;intro b20 w20 hh;refine rT ?_;rw [pB] at hh;refine aR [8, 9, 23, 24, 25, 26, 27, 28, 29, 30, 31, 32, 33, 34] 23
  (fun v w' => ∃ (i : Nat) (L : List Nat), i ≤ xs.length ∧ v = .int .i64 i ∧ Dg 18446744073709551616 L ∧ L.length = xs.length + ys.length + 1 ∧ bB 18446744073709551616 L = bB 18446744073709551616 (xs.take i) * bB 18446744073709551616 ys ∧ Hp w [.row (some ⟨b20, 0, none⟩) (xs.length + ys.length + 1) (xs.length + ys.length + 1) 204 1 (db L), .row (some ⟨A13, 0, none⟩) ys.length c13 204 1 (db ys), .row (some ⟨A11, 0, none⟩) xs.length c11 204 1 (db xs)] w')
  (fun v _ => xs.length - (intOf v).toNat) ?_ ?_
 ·exact ⟨0, _, UI _, rfl, Dg.fU Uz _, by simp, by simp [qS, bB], hh⟩
 ·clear hh;rintro ρ' v w' ⟨i, L, hi, rfl, hLd, hLl, hLv, hh⟩;by_cases hlt : i < xs.length
  ·obtain ⟨m, hm⟩ := ak (l := xs) (k := i) Uz;have hm2 := ee hm;have hmw := hxd.at_ hm;have hpl : (L.take i).length = i := by rw [U6]; omega
   have hsl : (L.drop i).length = xs.length + ys.length + 1 - i := by rw [VY]; omega
   refine sr ?_;refine eh ?_;refine gD ?_;refine bV aM.out rfl (hh.gg (i := 2) rfl (by first | assumption | (simp only [U3]; assumption))) UA ?_;refine aI (aI (aa (ao (mL (mI ?_)))));refine Dt (l := i) bk.out aM.size rfl rfl Uz Uz Uz Uz UA ?_;refine mL (mI ?_);have hc := BI (c' := xs.length + ys.length + 1 - i) (ny := ys.length) (cy := c13) (m := m) (Y := some ⟨A13, 0, none⟩) (L.take i) (L.drop i) [] ys _ (by rw [Vo, VA]; exact hh) (fun w1 cs h => h.aA (i := 1) rfl) (hLd.drop i) hyd hmw Uz Uz;rw [hpl, hsl, Vo] at hc;rw [U5, U3];refine aF (hc) al.out rfl UA ?_;rintro e_ w_ ⟨rfl, hh⟩;refine ⟨_, rfl, ?_⟩;have hlt1 := iy (hxd.take (i + 1));have hlt2 := iy hyd;rw [U6, VM Uz] at hlt1;have hsn := fG (B := 18446744073709551616) hm;have hsplit := jl (B := 18446744073709551616) L i Uz;have hnew : 18446744073709551616 ^ i * (bB 18446744073709551616 (L.drop i) + bB 18446744073709551616 ys * m + 0) + bB 18446744073709551616 (L.take i) = bB 18446744073709551616 (xs.take (i + 1)) * bB 18446744073709551616 ys := by
    rw [hsn, WJ, ← hLv, hsplit, We, Vz, VB, Vg m]; omega
   have hbd : bB 18446744073709551616 (L.drop i) + bB 18446744073709551616 ys * m + 0 < 18446744073709551616 ^ (L.drop i).length := by
    refine Nat.lt_of_mul_lt_mul_left (a := 18446744073709551616 ^ i) ?_;rw [← U8, hsl];refine VK (Nat.le_add_right _ (bB 18446744073709551616 (L.take i))) ?_;rw [hnew];refine VN (Nat.mul_lt_mul'' hlt1 hlt2) ?_;rw [← U8];exact Vr UA Uz
   have hdp := wF (B := 18446744073709551616) Uz _ _ _ _ hbd;refine fV ?_;refine bo (mI (aC (ai ?_)));refine ⟨⟨i + 1, L.take i ++ im 18446744073709551616 (L.drop i) ys m 0, Uz, rfl, (hLd.take i).append (y6 Uz _ _ _ _), by rw [UM, qk, hpl, hsl]; omega, ?_, hh⟩, by show xs.length - (i + 1) < xs.length - i; omega, ?_⟩
   ·rw [eH, hdp, hpl, Wx]; exact hnew
   exact UC
  ·obtain rfl : i = xs.length := Uz;rw [Xy, hX, hY] at hLv;refine sr ?_;refine oe ?_;refine bD hh (ig _ _ _ L _ (hh.aA (i := 0) rfl) hLd (UH _) Uz) rfl ?_;intro w36 hh;rw [hLv];exact FZ
theorem LQ {d r : Nat} (hd : d ≠ 0) (hdw : d < 18446744073709551616) (hn : n = 18446744073709551616 ^ k * (d + 18446744073709551616 * r)) : tz n = 64 * k + tz d := by
 obtain ⟨m, hm⟩ := sQ hd;have ht : tz d < 64 := wi hd (by simpa using hdw);have hW : (18446744073709551616 : Nat) = 2 ^ 64 := by decide
 generalize tz d = t at *;have e : n = 2 ^ (64 * k + t) * (2 * (m + 2 ^ (63 - t) * r) + 1) := by
  rw [hn, U8, Vu, ← hW, VB];congr 1;have h1 : 18446744073709551616 = 2 ^ t * (2 * 2 ^ (63 - t)) := by rw [hW, ← Nat.pow_succ', ← U8]; congr 1; omega
  have h2 : 18446744073709551616 * r = 2 ^ t * (2 * 2 ^ (63 - t) * r) := by rw [← VB, ← h1]
  rw [h2]
  conv => lhs; rw [hm]
  rw [← Vz];congr 1;rw [Vz, VB]; omega
 rw [e, Fm]
theorem j9 (a : ByteArray) (w : World) (ha : a.size ≤ 1000000000) (hT : eb w) :
  Calls Tryz.prog 196 #[.string a] w fun e w' => e = .returned (.int .i64 (tz (bN a))) ∧ Below w.heap.size w w' := by
 have hh := Hp.start w;have h1 := gi a;refine aj (N := 21) (l := [.string a]) Tryz.func196 rfl rfl (by simp) ?_;refine sr (aI (aa (ah (sr (mS ?_)))));refine sg ?_;rintro e_ w6 ⟨A6, c6, rfl, hown_, hb_⟩;refine ⟨_, rfl, ?_⟩;replace hh := hh.aV (x := .row _ _ _ _ _ _) hb_ hown_;have hxd := jr (bN a);have hX := gG (bN a);generalize aU 18446744073709551616 (bN a) = xs at *;refine aJ (mI (aa (aq ?_)));refine aR [2, 3, 4, 8, 9, 10, 11, 12, 13, 14, 15, 16, 17, 18, 19, 20] 8
  (fun v w' => ∃ (i : Nat), i ≤ xs.length ∧ v = .int .i64 i ∧ bB 18446744073709551616 (xs.take i) = 0 ∧ Hp w [.row (some ⟨A6, 0, none⟩) xs.length c6 204 1 (db xs)] w')
  (fun v _ => xs.length - (intOf v).toNat) ?_ ?_
 ·exact ⟨0, UI _, rfl, rfl, hh⟩
 ·clear hh;rintro ρ' v w' ⟨i, hi, rfl, hz, hh⟩;by_cases hlt : i < xs.length
  ·obtain ⟨d, hm⟩ := ak (l := xs) (k := i) Uz;have hm2 := ee hm;have hmw := hxd.at_ hm;by_cases h0 : d = 0
   ·subst h0;refine sr ?_;refine eh ?_;refine gD ?_;refine jA ?_;refine aI (aI (aa (sr (mI ?_))));refine dk (aa (cF (ar (bE (ai (ao ?_))))));refine bo (mI (aC (ai ?_)));refine ⟨⟨i + 1, Uz, rfl, by rw [fG hm, hz]; simp, hh⟩, by show xs.length - (i + 1) < xs.length - i; omega, ?_⟩;exact dQ
   ·have htz : tz (bN a) = 64 * i + tz d := by
     have h3 := jl (B := 18446744073709551616) xs i Uz;have h4 := (UW.1 hm);rw [hz, V0 hlt, h4.2, bB, hX, U5] at h3;exact LQ h0 hmw h3
    have ht : tz d < 64 := wi h0 (by simpa using hmw);refine sr ?_;refine eh ?_;refine gD ?_;refine jA ?_;refine aI (aI (aa (sr (mI ?_))));refine dk (aa (cT (sr (mI ?_))));refine mulC (mI ?_);refine bD hh (Dn _ _ hmw h0 (hT.hp hh)) rfl ?_;intro w18 hh;refine bo (aI (aa (av (cf (aH (aH (cf (aH ?_))))))));refine de ?_;refine ⟨?_, hh.below⟩;congr 2;omega
  ·refine sr ?_;refine E7 ?_;refine de ?_;rw [UQ Uz, hX] at hz;rw [hz];exact ⟨rfl, hh.below⟩
theorem MG {x y : Nat} (hx : x < 18446744073709551616 ^ k) (hy : y < 18446744073709551616 ^ k) : bB 18446744073709551616 (im 18446744073709551616 (aU 18446744073709551616 x ++ List.replicate (k + 1 - (aU 18446744073709551616 x).length) 0) (aU 18446744073709551616 y) 1 0) = x + y := by
 have hl := ij (B := 18446744073709551616) Uz hx;have h1 : bB 18446744073709551616 (aU 18446744073709551616 x ++ List.replicate (k + 1 - (aU 18446744073709551616 x).length) 0) = x := by rw [eH, qS, gG]; simp
 have h2 : (aU 18446744073709551616 x ++ List.replicate (k + 1 - (aU 18446744073709551616 x).length) 0).length = k + 1 := by rw [UM, V1]; omega
 rw [wF Uz, h1, gG]
 ·omega
 ·rw [h1, h2, gG, Vy];have : 0 < 18446744073709551616 ^ k := Vj UA;omega
theorem qQ (l : List Nat) (x : Nat) : (l ++ [x]).sum = l.sum + x := by simp
theorem xC (L : Option Addr) (n c : Nat) (ss : List ByteArray) (w : World) (hS : Sl w L n 1 (lS ss)) (hn : n ≤ 1000000) (hs : ∀ s ∈ ss, s.size ≤ 1000000000) :
  Calls Tryz.prog 230 #[.slice L n c] w fun e w' => e = .returned (.string (sN (ss.map bN).sum)) ∧ Below w.heap.size w w' := by
 have hsl : ss.length = n := by have := hS.1; rw [rL] at this; omega
 have hh := Hp.start w;refine aj (N := 31) (l := [.slice L n c]) Tryz.func230 rfl rfl (by simp) ?_;refine sr (aS (aa (sr (aL (aa (ah (sr (mL (aJ (mI (aa (aq ?_))))))))))));replace hh := hh.cY 204 1;refine bK [3, 5, 6, 9, 10, 11, 12, 13, 14, 15, 16, 17, 18, 19, 20, 21, 22, 23, 24, 25, 26, 27, 28] 3 9
  (fun v j w' => ∃ (i : Nat) (A : Option Addr) (c' T : Nat), i ≤ n ∧ j = .int .i64 i ∧ T = ((ss.take i).map bN).sum ∧ v = .slice A (aU 18446744073709551616 T).length c' ∧ (aU 18446744073709551616 T).length ≤ 125000001 + i ∧ Hp w [.row A (aU 18446744073709551616 T).length c' 204 1 (db (aU 18446744073709551616 T))] w')
  (fun _ j _ => n - (intOf j).toNat) ?_ ?_
 ·exact ⟨0, none, 0, 0, UI _, rfl, rfl, by rw [gk Uz]; rfl, by rw [gk Uz]; simp, by rw [gk Uz]; exact hh⟩
 ·clear hh;rintro ρ' v j w' ⟨i, A, c', T, hi, rfl, hT, rfl, hTl, hh⟩;by_cases hlt : i < n
  ·obtain ⟨s, hsi⟩ := ak (l := ss) (k := i) Uz;obtain ⟨ad, rfl, hr⟩ := hS.at_ Uz;have hs2 := Fa hsi;have hsz := hs s (UJ hsi);have hlx := gi s;have hT2 : ((ss.take (i + 1)).map bN).sum = T + bN s := by rw [ay hsi, VC, Xk, qQ, hT]
   have e1 : (if ((aU 18446744073709551616 (bN s)).length : Int) > ((aU 18446744073709551616 T).length : Int) then ((aU 18446744073709551616 (bN s)).length : Int) else ((aU 18446744073709551616 T).length : Int)) + 1 = ((max (aU 18446744073709551616 T).length (aU 18446744073709551616 (bN s)).length + 1 : Nat) : Int) := by split <;> omega
   have hb1 : T < 18446744073709551616 ^ max (aU 18446744073709551616 T).length (aU 18446744073709551616 (bN s)).length := VN (qg Uz T) (Vr UA (Nat.le_max_left _ _));have hb2 : bN s < 18446744073709551616 ^ max (aU 18446744073709551616 T).length (aU 18446744073709551616 (bN s)).length := VN (qg Uz (bN s)) (Vr UA (Nat.le_max_right _ _));have hadd := MG hb1 hb2;refine sr ?_;refine dH ?_;refine df bk.out aM.size rfl rfl rfl Uz UA ?_;refine jL ?_;refine aS (aa (sr (mS ?_)));refine aF (oF s _ hsz) al.out rfl UA ?_;rintro e_ w14 ⟨A14, c14, rfl, hown_, hb_⟩;refine ⟨_, rfl, ?_⟩;replace hh := hh.aV (x := .row _ _ _ _ _ _) hb_ hown_;refine aL (aa (sr (mL (mL (aJ (mL (aJ ?_)))))));refine lv rfl rfl UA ?_;refine bo ?_;rw [e1];generalize hM : max (aU 18446744073709551616 T).length (aU 18446744073709551616 (bN s)).length = M at *;refine aF (n8 _ _ _ (M + 1) _ _ (hh.aA (i := 1) rfl) Uz Uz) al.out rfl UA ?_;rintro e_ w_ ⟨b22, rfl, hown_, hb_⟩;refine ⟨_, rfl, ?_⟩;replace hh := hh.aV (x := .row _ _ _ _ _ _) hb_ hown_;have e2 : max (M + 1) (aU 18446744073709551616 T).length = M + 1 := Uz;rw [e2] at hh;rw [e2]
   refine aL (aa (sr (mL (mL ?_))));have hc := C0 (c' := M + 1) (ny := (aU 18446744073709551616 (bN s)).length) (cy := c14) (Y := some ⟨A14, 0, none⟩) [] (aU 18446744073709551616 T ++ List.replicate (M + 1 - (aU 18446744073709551616 T).length) 0) [] (aU 18446744073709551616 (bN s)) _ (by rw [Vo, UN]; exact hh) (fun w1 cs h => h.aA (i := 1) rfl) ((jr _).append (Dg.fU Uz _)) (jr _) (by rw [UM, V1]; omega) Uz;have e3 : (aU 18446744073709551616 T ++ List.replicate (M + 1 - (aU 18446744073709551616 T).length) 0).length = M + 1 := by rw [UM, V1]; omega
   rw [e3, Vo, UN] at hc;refine aF (hc) al.out rfl UA ?_;rintro e_ w_ ⟨rfl, hh⟩;refine ⟨_, rfl, ?_⟩;have hpl : (im 18446744073709551616 (aU 18446744073709551616 T ++ List.replicate (M + 1 - (aU 18446744073709551616 T).length) 0) (aU 18446744073709551616 (bN s)) 1 0).length = M + 1 := by rw [qk, e3]
   have hpd := y6 (B := 18446744073709551616) Uz (aU 18446744073709551616 T ++ List.replicate (M + 1 - (aU 18446744073709551616 T).length) 0) (aU 18446744073709551616 (bN s)) 1 0;generalize im 18446744073709551616 (aU 18446744073709551616 T ++ List.replicate (M + 1 - (aU 18446744073709551616 T).length) 0) (aU 18446744073709551616 (bN s)) 1 0 = Z at *;have hcz : dI Z = aU 18446744073709551616 (T + bN s) := by rw [g9 Uz hpd, hadd]
   have hcl := fu Z;refine aa (ao (mL ?_));refine bD hh (ir _ _ _ Z _ (hh.aA (i := 0) rfl) (UH _) Uz) rfl ?_;intro w27 hh;replace hh := (hh.Fc hpl).sub (Xa [_] _);rw [hcz] at *;refine kK ?_;refine bo (mI (aC (ai ?_)));refine ⟨⟨i + 1, _, _, T + bN s, Uz, rfl, hT2.symm, rfl, Uz, hh⟩, by show n - (i + 1) < n - i; omega, ?_⟩;exact dQ
  ·refine sr ?_;refine oe ?_;refine bD hh (ig _ _ _ (aU 18446744073709551616 T) _ (hh.aA (i := 0) rfl) (jr _) (hh.fN (i := 0) rfl) Uz) rfl ?_;intro w30 hh;rw [gG];exact Rl
theorem Du (s : ByteArray) (l h : Nat) : s.extract l h = str ((s.data.toList.take h).drop l) := by
 apply uq;rw [cP];simp [ByteArray.extract, ByteArray.copySlice, List.drop_take]
def Qj : Value → Nat
 | .string t => t.size
 | _ => 0
theorem uf (s : ByteArray) (w : World) :
  Calls Tryz.prog 263 #[.string s, .int .u8 ((0 : UInt8).toNat : Int)] w fun e w' => e = .returned (.string (sN (bN s))) ∧ Below w.heap.size w w' := by
 have hh := Hp.start w;refine aj (N := 17) (l := [.string s, .int .u8 ((0 : UInt8).toNat : Int)]) Tryz.func263 rfl rfl (by simp) ?_;refine sr (aS (aa (ah (aq ?_))));refine aR [0, 5, 6, 7, 8, 9, 10, 11, 12, 13, 14, 15] 0
  (fun v w' => ∃ l : List UInt8, v = .string (str l) ∧ l.length ≤ s.size ∧ bn l = bN s ∧ w' = w)
  (fun v _ => Qj v) ?_ ?_
 ·exact ⟨s.data.toList, by rw [P6]; rfl, by rw [di]; exact UH _, rfl, rfl⟩
 ·rintro ρ' v w' ⟨l, rfl, hl, hb, rfl⟩;have hsz := jC l
  cases l with
  | nil =>
   refine ah (sr (mS ?_));refine bJ bk.out rfl UA ?_;refine cq (mB ?_);refine gS (gS (gS (gS ?_)));refine eV ?_;refine aa (cF (a9 (aE (aE (bC (ai (sr (mS (aS (aa (av ?_)))))))))));refine de ?_;rw [sN, ← hb];exact ⟨rfl, hh.below⟩
  | cons c l =>
   have hc0 : (str (c :: l)).data.toList[(0 : Int).toNat]? = some c := by rw [cP]; rfl
   have hc8 := c.toNat_lt;have hlen : (str (c :: l)).size = l.length + 1 := by rw [hsz]; rfl
   have hz : (0 : UInt8).toNat = 0 := rfl;by_cases h0 : c = 0
   ·subst h0;refine ah (sr (mS ?_));refine bJ bk.out rfl UA ?_;refine cq (mB (gT (mS (gT ?_))));refine ke ?_;refine gT (mI (gT ?_));refine cW ?_;refine fO ?_;refine aa (cT (ar (ai (aq (ao (mS ?_))))));refine sf (l := 1) (h := (str ((0 : UInt8) :: l)).size) bk.out rfl ⟨_, _, rfl, Uz⟩ rfl Uz Uz UA ?_;refine aS (aC (bE (ai ?_)));rw [Du, cP, UQ (by rw [hlen]; simp), List.drop_succ_cons, List.drop_zero];refine ⟨⟨l, rfl, by simp at hl; omega, by rw [← hb, J1], rfl⟩, ?_, ?_⟩
    ·show (str l).size < (str (0 :: l)).size;rw [hlen, jC]; omega
    exact UC
   ·have hcn : c.toNat ≠ 0 := fun h => h0 (XA.1 h);refine ah (sr (mS ?_));refine bJ bk.out rfl UA ?_;refine cq (mB (gT (mS (gT ?_))));refine ke ?_;refine gT (mI (gT ?_));refine cW ?_;refine fO ?_;refine aa (cF (a9 (aE (aE (bC (ai (sr (mS (aS (aa (av ?_)))))))))));refine de ?_;rw [sN, ← hb, Ss (by simpa using h0)];exact ⟨rfl, hh.below⟩
theorem vf (s : ByteArray) (w : World) :
  Calls Tryz.prog 254 #[.string s, .string (ByteArray.mk #[0])] w fun e w' => e = .returned (.string (sN (bN s))) ∧ Below w.heap.size w w' := by
 have hh := Hp.start w;have hne : ¬ ByteArray.mk #[(0 : UInt8)] = ByteArray.mk #[] := by intro h; injection h with h; simp at h
 have hsz1 : (ByteArray.mk #[(0 : UInt8)]).size = 1 := rfl;have hc0 : (ByteArray.mk #[(0 : UInt8)]).data.toList[(0 : Int).toNat]? = some 0 := rfl;have hz : (0 : UInt8).toNat = 0 := rfl;by_cases h0 : s = ByteArray.mk #[]
 ·subst h0;refine aj (N := 37) (l := [.string (ByteArray.mk #[]), .string (ByteArray.mk #[0])]) Tryz.func254 rfl rfl (by simp) ?_;refine sr (aS (aa (ah (sr (mS ?_)))));refine kp rfl rfl (by first | rfl | assumption | decide) UA ?_;refine mB ?_;refine gS (gS ?_);refine fO ?_;refine aa (cT (sr (mS (aS (aa (av (aH ?_)))))));refine de ?_;rw [show bN (ByteArray.mk #[]) = 0 from rfl, np];exact ⟨rfl, hh.below⟩
 ·refine aj (N := 37) (l := [.string s, .string (ByteArray.mk #[0])]) Tryz.func254 rfl rfl (by simp) ?_;refine sr (aS (aa (ah (sr (mS ?_)))));refine kB rfl rfl (by first | assumption | decide) UA ?_;refine mB (gT (mS (gT ?_)))
  (first | refine kp rfl rfl (by first | rfl | assumption | decide) UA ?_ | refine kB rfl rfl (by first | assumption | decide) UA ?_)
  refine eV ?_;refine aa (cF (ar (ai (ah (sr (mS ?_))))));refine bJ bk.out rfl UA ?_;refine cW (mB (gT (mS (gT ?_))));refine ke ?_;refine gT ?_;refine bh ?_;refine fO ?_;refine aa (cT (sr (mS (mS ?_))));refine ke ?_;refine bD hh (uf s _) rfl ?_;intro w25 hh;refine aS (aa (av (aH ?_)));refine de ?_;exact ⟨rfl, hh.below⟩
theorem kP (s : ByteArray) (w : World) :
  Calls Tryz.prog 233 #[.string s] w fun e w' => e = .returned (.string (sN (bN s))) ∧ Below w.heap.size w w' := by
 have hh := Hp.start w;refine aj (N := 5) (l := [.string s]) Tryz.func233 rfl rfl (by simp) ?_;refine sr (aS (aa (sr (mS ?_))));refine bD hh (vf s _) rfl ?_;intro w4 hh;exact FZ
variable {z : Int}
def iv (s : Bool) (m : ByteArray) : Int := if s then -(bN m : Int) else bN m
def iN (z : Int) : Bool := decide (z < 0)
def iM (z : Int) : ByteArray := sN z.natAbs
theorem fB (z : Int) : iv (iN z) (iM z) = z := by
 unfold iv iN iM;rw [e8];by_cases h : z < 0
 ·rw [U0 h, UF rfl]; omega
 ·rw [Vf h, UE (by simp)]; omega
theorem sW : iM z = ByteArray.mk #[] ↔ z = 0 := by
 rw [iM, ← np];constructor
 ·intro h; have := HG h; omega
 ·intro h; rw [h]; rfl
theorem j6 (s : Bool) (m : ByteArray) : (iv s m).natAbs = bN m := by
 unfold iv; split <;> omega
theorem Ey (s : Bool) (m : ByteArray) : iM (iv s m) = sN (bN m) := by rw [iM, j6]
theorem Oe (s : Bool) (m : ByteArray) : iN (iv s m) = (s && decide (bN m ≠ 0)) := by
 unfold iN iv;rw [Bool.eq_iff_iff, UX, U2, U2]
 cases s
 ·simp only [XP, if_false, false_and, iff_false]; omega
 ·simp only [if_true, true_and]; omega
theorem jS (s : Bool) (m : ByteArray) (w : World) :
  Calls Tryz.prog 199 #[.agg #[.bool s, .string m]] w fun e w' => e = .returned (.agg #[.string m, .bool s]) ∧ Below w.heap.size w w' := by
 have hh := Hp.start w;refine aj (N := 8) (l := [.agg #[.bool s, .string m]]) Tryz.func199 rfl rfl (by simp) ?_;refine sr ?_;refine cz hh [_,_] ?_;intro b1 w1 hh;refine bW hh ?_;intro b2 w2 hh;refine aa (sr (bH ?_));refine bG hh 1 ?_;refine bH ?_;refine bG hh 1 ?_;refine gH [_,_] ?_;exact Oi
theorem dv (s : Bool) (m : ByteArray) (w : World) :
  Calls Tryz.prog 200 #[.agg #[.string m, .bool s]] w fun e w' => e = .returned (.agg #[.bool (iN (iv s m)), .string (iM (iv s m))]) ∧ Below w.heap.size w w' := by
 have hh := Hp.start w;rw [Oe, Ey]
 cases s with
 | false =>
  refine aj (N := 15) (l := [.agg #[.string m, .bool false]]) Tryz.func200 rfl rfl (by simp) ?_;refine sr ?_;refine cz hh [_,_] ?_;intro b1 w1 hh;refine bW hh ?_;intro b2 w2 hh;refine aa (sr (bH ?_));refine bG hh 1 ?_;refine bD hh (kP m _) rfl ?_;intro w6 hh;refine aS (aa (sr (bH ?_)));refine bG hh 1 ?_;refine mB ?_;refine gS (gS ?_);refine eV ?_;refine mS ?_;refine gH [_,_] ?_;exact Oi
 | true =>
  by_cases h0 : sN (bN m) = ByteArray.mk #[]
  ·refine aj (N := 15) (l := [.agg #[.string m, .bool true]]) Tryz.func200 rfl rfl (by simp) ?_;refine sr ?_;refine cz hh [_,_] ?_;intro b1 w1 hh;refine bW hh ?_;intro b2 w2 hh;refine aa (sr (bH ?_));refine bG hh 1 ?_;refine bD hh (kP m _) rfl ?_;intro w6 hh;refine aS (aa (sr (bH ?_)));refine bG hh 1 ?_;refine mB (gT (mS (gT ?_)))
   (first | refine kA rfl rfl (by first | rfl | assumption | decide) UA ?_ | refine kt rfl rfl (by first | assumption | decide) UA ?_)
   refine fO ?_;refine mS ?_;refine gH [_,_] ?_;refine bX hh 0 [_,_] ?_;intro ws hh;replace hh : Hp _ (.blk _ _ [_, _] _ :: _) _ := hh;refine aa (av ?_);refine pq ?_;exact R5
  ·refine aj (N := 15) (l := [.agg #[.string m, .bool true]]) Tryz.func200 rfl rfl (by simp) ?_;refine sr ?_;refine cz hh [_,_] ?_;intro b1 w1 hh;refine bW hh ?_;intro b2 w2 hh;refine aa (sr (bH ?_));refine bG hh 1 ?_;refine bD hh (kP m _) rfl ?_;intro w6 hh;refine aS (aa (sr (bH ?_)));refine bG hh 1 ?_;refine mB (gT (mS (gT ?_)))
   (first | refine kA rfl rfl (by first | rfl | assumption | decide) UA ?_ | refine kt rfl rfl (by first | assumption | decide) UA ?_)
   refine fO ?_;refine mS ?_;refine gH [_,_] ?_;refine bX hh 0 [_,_] ?_;intro ws hh;replace hh : Hp _ (.blk _ _ [_, _] _ :: _) _ := hh;refine aa (av ?_);refine pq ?_;exact O5
def T4 (s : Bool) (m : ByteArray) : Value := .agg #[.string m, .bool s]
theorem uy (a b : ByteArray) (w : World) (ha : a.size ≤ 1000000000) (hb : b.size ≤ 1000000000) :
  Calls Tryz.prog 231 #[.string a, .string b] w fun e w' => e = .returned (.int .i64 (k6 (bN a) (bN b))) ∧ Below w.heap.size w w' := by
 have hh := Hp.start w;refine aj (N := 8) (l := [.string a, .string b]) Tryz.func231 rfl rfl (by simp) ?_;refine sr (aI (aa (sr (mS (mS ?_)))));refine bD hh (xG a b _ ha hb) rfl ?_;intro w7 hh;exact Bw
theorem mF (s : Bool) (m : ByteArray) (w : World) :
  Calls Tryz.prog 223 #[.agg #[.bool s, .string m]] w fun e w' => e = .returned (.agg #[.bool (iN (iv s m)), .string (iM (iv s m))]) ∧ Below w.heap.size w w' := by
 have hh := Hp.start w;refine aj (N := 6) (l := [.agg #[.bool s, .string m]]) Tryz.func223 rfl rfl (by simp) ?_;refine sr ?_;refine cz hh [_,_] ?_;intro b1 w1 hh;refine bW hh ?_;intro b2 w2 hh;refine aa (sr ?_);refine cE hh 1 [_,_] ?_;refine bD hh (jS s m _) rfl ?_;intro w4 hh;refine bD hh (dv s m _) rfl ?_;intro w5 hh;exact Oi
theorem uw (s : Bool) (m : ByteArray) (w : World) :
  Calls Tryz.prog 185 #[.agg #[.bool s, .string m]] w fun e w' => e = .returned (.agg #[.bool (iN (-(iv s m))), .string (iM (-(iv s m)))]) ∧ Below w.heap.size w w' := by
 have hh := Hp.start w;have e1 : iv (!s) m = -(iv s m) := by unfold iv; cases s <;> simp
 refine aj (N := 10) (l := [.agg #[.bool s, .string m]]) Tryz.func185 rfl rfl (by simp) ?_;refine sr ?_;refine cz hh [_,_] ?_;intro b1 w1 hh;refine bW hh ?_;intro b2 w2 hh;refine aa (sr (bH ?_));refine bG hh 1 ?_;refine bH ?_;refine bG hh 1 ?_;refine fy ?_;refine gH [_,_] ?_;refine bD hh (dv (!s) m _) rfl ?_;intro w9 hh;rw [e1];exact Oi
theorem kx (s : Bool) (m : ByteArray) (w : World) :
  Calls Tryz.prog 195 #[.agg #[.bool s, .string m]] w fun e w' => e = .returned (.int .i64 (iv s m).sign) ∧ Below w.heap.size w w' := by
 have hh := Hp.start w;by_cases h1 : iv s m < 0
 ·have hn : iN (iv s m) = true := U0 h1;refine Jc ?_;refine sr ?_;refine cz hh [_,_] ?_;intro b1 w1 hh;refine aI (aa (sr ?_));refine cE hh 0 [_,_] ?_;refine bD hh (mF s m _) rfl ?_;intro w5 hh;rw [hn];refine bW hh ?_;intro b3 w3 hh;refine bX hh 0 [_,_] ?_;intro ws hh;replace hh : Hp _ (.blk _ _ [_, _] _ :: _) _ := hh;refine aa (ah (aq (sr (bH ?_))));refine bG hh 0 ?_;refine Fy ?_;refine de ?_;exact ⟨by rw [Wh h1], hh.below⟩
 ·have hn : iN (iv s m) = false := Vf h1;by_cases h0 : iM (iv s m) = ByteArray.mk #[]
  ·refine Jc ?_;refine sr ?_;refine cz hh [_,_] ?_;intro b1 w1 hh;refine aI (aa (sr ?_));refine cE hh 0 [_,_] ?_;refine bD hh (mF s m _) rfl ?_;intro w5 hh;rw [hn];refine bW hh ?_;intro b3 w3 hh;refine bX hh 0 [_,_] ?_;intro ws hh;replace hh : Hp _ (.blk _ _ [_, _] _ :: _) _ := hh;refine aa (ah (aq (sr (bH ?_))));refine bG hh 0 ?_;refine aB (aa (cF (sr (bH ?_))));refine bG hh 0 ?_;refine kp rfl rfl (by first | rfl | assumption | decide) UA ?_;refine Fy ?_;refine de ?_;exact ⟨by rw [sW.1 h0]; rfl, hh.below⟩
  ·have h2 : 0 < iv s m := by
    have : iv s m ≠ 0 := fun h => h0 (sW.2 h);omega
   refine Jc ?_;refine sr ?_;refine cz hh [_,_] ?_;intro b1 w1 hh;refine aI (aa (sr ?_));refine cE hh 0 [_,_] ?_;refine bD hh (mF s m _) rfl ?_;intro w5 hh;rw [hn];refine bW hh ?_;intro b3 w3 hh;refine bX hh 0 [_,_] ?_;intro ws hh;replace hh : Hp _ (.blk _ _ [_, _] _ :: _) _ := hh;refine aa (ah (aq (sr (bH ?_))));refine bG hh 0 ?_;refine aB (aa (cF (sr (bH ?_))));refine bG hh 0 ?_;refine kB rfl rfl (by first | assumption | decide) UA ?_;refine aB (aa (cF (ar (bE (ai (sr (aI (aa (av ?_)))))))));refine de ?_;exact ⟨by rw [Wg h2], hh.below⟩
theorem dR (z : Int) : (iM z).size = (bF z.natAbs + 7) / 8 := lY _
def xp (s t : Bool) (a b : ByteArray) : Bool := if s = t then s else if bN a < bN b then t else s
theorem Nj (s t : Bool) (a b : ByteArray) : iv (xp s t a b) (iM (iv s a + iv t b)) = iv s a + iv t b := by
 unfold iM iv;rw [e8];unfold xp
 cases s <;> cases t <;> simp <;> (try split) <;> (try simp) <;> omega
theorem Ai (s t : Bool) (a b : ByteArray) : iv (s != t) (iM (iv s a * iv t b)) = iv s a * iv t b := by
 rw [iM, WQ, j6, j6];unfold iv;rw [e8]
 cases s <;> cases t <;> simp [Int.mul_neg, Int.neg_mul]
theorem AM (s t : Bool) (a b : ByteArray) (w : World) (ha : a.size ≤ 1000000000) (hb : b.size ≤ 1000000000) :
  Calls Tryz.prog 198 #[.agg #[.string a, .bool s], .agg #[.string b, .bool t]] w fun e w' => e = .returned (.agg #[.string (iM (iv s a + iv t b)), .bool (xp s t a b)]) ∧ Below w.heap.size w w' := by
 have hh := Hp.start w;have hiv : ∀ (u : Bool) (n : Nat) (z : Int), (z = if u then -(n : Int) else n) → sN n = iM z := by
  intro u n z hz;have h1 : z.natAbs = n := by rw [hz]; split <;> omega
  rw [iM, h1]
 by_cases hst : s = t
 ·subst hst;have e1 := hiv s (bN a + bN b) (iv s a + iv s b) (by unfold iv; split <;> omega);refine aj (N := 41) (l := [.agg #[.string a, .bool s], .agg #[.string b, .bool s]]) Tryz.func198 rfl rfl (by simp) ?_;refine sr ?_;refine cz hh [_,_] ?_;intro b2 w2 hh;refine cz hh [_,_] ?_;intro b3 w3 hh;refine bW hh ?_;intro b4 w4 hh;refine aa (ah (sr (bH ?_)));refine bG hh 2 ?_;refine bH ?_;refine bG hh 1 ?_;refine DK bk.out rfl rfl (by first | rfl | assumption) UA ?_;refine aa (cT (ah ?_));refine aZ 8 [[(2, none)], [(12, some 0)], [(3, none)], [(14, some 2)], [(13, some 1), (15, some 3)], [(16, some 4)], [(2, none)], [(18, some 6)]] [(7, 19), (6, 18), (5, 17), (4, 16), (3, 15), (2, 14), (1, 13), (0, 12)] hh mixed UB ?_;refine ef ?_;refine gE 2 ?_;refine ef ?_;refine gE 1 ?_;refine sA [_,_] ?_;refine aP (i := 5) (Is (.string (sN (bN a + bN b)))) Is.ext ?_ ?_
  ·intro ρ1 w1 hj hR;obtain ⟨A16, c16, h16, s16⟩ := hR.1;exact a7 rfl (aK al.out (aw h16 aW)) (xC A16 2 c16 [a, b] _ s16 Uz (by simp; omega)) (fun _ _ hq => ⟨_, hq.1, hq.2, rfl⟩)
  refine ef ?_;refine gE 2 ?_;refine aT ?_;intro f W hJ hV;have hb_2 := hJ.bl;obtain ⟨v19, v18, v17, v16, v15, v14, v13, v12, _⟩ := hV;obtain ⟨A16, c16, e16, f16⟩ : Rows _ _ _ (f 4) W := v16;replace hh := hJ.hp;refine aY (br (ae v19 (ae v18 (ae v17 (ae e16 (ae v15 (ae v14 (ae v13 (ae v12 aX))))))))) ?_;dsimp only [cg];clear e16 hJ;refine gH [_,_] ?_;refine bX hh 0 [_,_] ?_;intro ws hh;replace hh : Hp _ (.blk _ _ [_, _] _ :: _) _ := hh;refine aa (av (aH ?_));refine pq ?_;rw [e1, xp, UF rfl];exact ⟨rfl, hh.below⟩
 ·by_cases hlt : bN a < bN b
  ·have e1 := hiv t (bN b - bN a) (iv s a + iv t b) (by unfold iv; cases s <;> cases t <;> simp at hst ⊢ <;> omega);refine aj (N := 41) (l := [.agg #[.string a, .bool s], .agg #[.string b, .bool t]]) Tryz.func198 rfl rfl (by simp) ?_;refine sr ?_;refine cz hh [_,_] ?_;intro b2 w2 hh;refine cz hh [_,_] ?_;intro b3 w3 hh;refine bW hh ?_;intro b4 w4 hh;refine aa (ah (sr (bH ?_)));refine bG hh 2 ?_;refine bH ?_;refine bG hh 1 ?_;refine DF ?_;refine E4 ?_;refine bG hh 2 ?_;refine bH ?_;refine bG hh 1 ?_;refine bD hh (uy a b _ ha hb) rfl ?_;intro w25 hh;rw [mh hlt];refine bh (aa (cT (ao ?_)));refine cE hh 1 [_,_] ?_;refine cE hh 2 [_,_] ?_;refine bX hh 2 [_,_] ?_;intro ws hh;replace hh : Hp _ (_ :: _ :: .blk _ _ [_, _] _ :: _) _ := hh;refine bX hh 1 [_,_] ?_;intro ws hh;replace hh : Hp _ (_ :: .blk _ _ [_, _] _ :: _) _ := hh;refine aa (sr (bH ?_));refine bG hh 2 ?_;refine bH ?_;refine bG hh 1 ?_;refine bD hh (pb b a _ hb ha) rfl ?_;intro w34 hh;refine mT ?_;refine dt ?_;refine dt ?_;refine aS (aB (aa (sr (mS (bH ?_)))));refine bG hh 2 ?_;refine gH [_,_] ?_;refine bX hh 0 [_,_] ?_;intro ws hh;replace hh : Hp _ (.blk _ _ [_, _] _ :: _) _ := hh;refine aa (av ?_);refine pq ?_
   rw [e1, xp, UE hst, UF hlt];exact ⟨rfl, hh.below⟩
  ·have e1 := hiv s (bN a - bN b) (iv s a + iv t b) (by unfold iv; cases s <;> cases t <;> simp at hst ⊢ <;> omega);have hc : ¬ k6 (bN a) (bN b) < 0 := by unfold k6; split <;> (try split) <;> omega
   refine aj (N := 41) (l := [.agg #[.string a, .bool s], .agg #[.string b, .bool t]]) Tryz.func198 rfl rfl (by simp) ?_;refine sr ?_;refine cz hh [_,_] ?_;intro b2 w2 hh;refine cz hh [_,_] ?_;intro b3 w3 hh;refine bW hh ?_;intro b4 w4 hh;refine aa (ah (sr (bH ?_)));refine bG hh 2 ?_;refine bH ?_;refine bG hh 1 ?_;refine DF ?_;refine E4 ?_;refine bG hh 2 ?_;refine bH ?_;refine bG hh 1 ?_;refine bD hh (uy a b _ ha hb) rfl ?_;intro w25 hh;refine bh (aa (cF (ar (ai (sr (bH ?_))))));refine bG hh 2 ?_;refine bH ?_;refine bG hh 1 ?_;refine bD hh (pb a b _ ha hb) rfl ?_;intro w34 hh;refine mT ?_;refine dt ?_;refine dt ?_;refine aS (aB (aa (sr (mS (bH ?_)))));refine bG hh 2 ?_;refine gH [_,_] ?_;refine bX hh 0 [_,_] ?_;intro ws hh;replace hh : Hp _ (.blk _ _ [_, _] _ :: _) _ := hh;refine aa (av ?_);refine pq ?_;rw [e1, xp, UE hst, UE hlt];exact ⟨rfl, hh.below⟩
theorem pP (s t : Bool) (a b : ByteArray) (w : World) (ha : a.size ≤ 1000000000) (hb : b.size ≤ 1000000000) :
  Calls Tryz.prog 201 #[.agg #[.string a, .bool s], .agg #[.string b, .bool t]] w fun e w' => e = .returned (.agg #[.string (iM (iv s a * iv t b)), .bool (s != t)]) ∧ Below w.heap.size w w' := by
 have hh := Hp.start w;have e0 : (iv s a * iv t b).natAbs = bN a * bN b := by rw [WQ, j6, j6]
 have e1 : iM (iv s a * iv t b) = sN (bN a * bN b) := by rw [iM, e0]
 refine aj (N := 16) (l := [.agg #[.string a, .bool s], .agg #[.string b, .bool t]]) Tryz.func201 rfl rfl (by simp) ?_;refine sr ?_;refine cz hh [_,_] ?_;intro b2 w2 hh;refine cz hh [_,_] ?_;intro b3 w3 hh;refine bW hh ?_;intro b4 w4 hh;refine aa (ah ?_);refine aZ 10 [[(2, none)], [(5, some 0)], [(3, none)], [(7, some 2)], [(6, some 1), (8, some 3)], [(2, none)], [(10, some 5)], [(3, none)], [(12, some 7)], [(11, some 6), (13, some 8)]] [(9, 14), (8, 13), (7, 12), (6, 11), (5, 10), (4, 9), (3, 8), (2, 7), (1, 6), (0, 5)] hh mixed UB ?_;refine ef ?_;refine gE 2 ?_;refine ef ?_;refine gE 1 ?_;refine dC (fun _ hj => yG a b _ ha hb) ?_;refine ef ?_;refine gE 2 ?_;refine ef ?_;refine gE 1 ?_;refine bz (i := 9) (fun ρ1 w1 hj hR => oB bk.out (show ρ1 11 = Value.bool _ from hR.1) (show ρ1 13 = Value.bool _ from hR.2.1)) ?_;refine aT ?_;intro f W hJ hV;have hb_1 := hJ.bl;obtain ⟨v14, v13, v12, v11, v10, v9, v8, v7, v6, v5, _⟩ := hV;replace hh := hJ.hp;refine N3 ?_;dsimp only [cg];clear hJ;refine gH [_,_] ?_;refine bX hh 0 [_,_] ?_;intro ws hh;replace hh : Hp _ (.blk _ _ [_, _] _ :: _) _ := hh;refine aa (av ?_);refine pq ?_;rw [e1];exact ⟨rfl, hh.below⟩
theorem nP (n : Int) (w : World) (h1 : -9223372036854775808 ≤ n) (h2 : n ≤ 9223372036854775807) :
  Calls Tryz.prog 140 #[.int .i64 n] w fun e w' => e = .returned (.agg #[.bool (iN n), .string (iM n)]) ∧ Below w.heap.size w w' := by
 have hh := Hp.start w;by_cases h0 : n < 0
 ·have e1 : iv true (sN n.natAbs) = n := by unfold iv; rw [e8, UF rfl]; omega
  have hw : IntKind.u64.wrap n = ((18446744073709551616 - n.natAbs : Nat) : Int) := by
   rw [show n = ((18446744073709551616 - n.natAbs : Nat) : Int) + -((18446744073709551616 : Nat) : Int) by omega];have := UK.wrap_add (k := .u64) (((18446744073709551616 - n.natAbs : Nat) : Int) + -((18446744073709551616 : Nat) : Int));rw [← this, Int.neg_add_cancel_right, UK.pM Uz];omega
  have hn : (18446744073709551616 - (18446744073709551616 - n.natAbs)) % 18446744073709551616 = n.natAbs := Uz;refine aj (N := 16) (l := [.int .i64 n]) Tryz.func140 rfl rfl (by simp) ?_;refine sr ?_;refine bW hh ?_;intro b2 w2 hh;refine aa (ah (sr (mI ?_)));refine bh (aa (cT (sr (mI ?_))));refine ug bk.out bk.out rfl UA ?_;rw [hw];refine Ix rfl Uz UA ?_;rw [hn];skip;refine bD hh (rX n.natAbs _ Uz) rfl ?_;intro w8 hh;refine gH [_,_] ?_;refine bD hh (dv true (sN n.natAbs) _) rfl ?_;intro w10 hh;rw [e1];exact EH
 ·obtain ⟨m, rfl⟩ := XO (by omega : 0 ≤ n);have e1 : iv false (sN m) = m := by unfold iv; rw [e8]; simp
  have hm : m < 18446744073709551616 := Uz;refine aj (N := 16) (l := [.int .i64 (m : Int)]) Tryz.func140 rfl rfl (by simp) ?_;refine sr ?_;refine bW hh ?_;intro b2 w2 hh;refine aa (ah (sr (mI ?_)));refine bh (aa (cF (ar (ai (sr (mI ?_))))));refine mq ?_;refine bD hh (rX m _ hm) rfl ?_;intro w13 hh;refine gH [_,_] ?_;refine bD hh (dv false (sN m) _) rfl ?_;intro w15 hh;rw [e1];exact Oi
structure IR where
 neg : Bool
 bA : ByteArray
def IR.cells (a : IR) : List Value := [.bool a.neg, .string a.bA]
def IR.v (a : IR) : Int := iv a.neg a.bA
def iR (z : Int) : IR := ⟨iN z, iM z⟩
theorem RM (z : Int) : (iR z).v = z := fB z
theorem IR.len (a : IR) : a.cells.length = 2 := rfl
theorem pW (x y : Int) : bF (x + y).natAbs ≤ max (bF x.natAbs) (bF y.natAbs) + 1 := by
 apply dy;have h1 := dq x.natAbs;have h2 := dq y.natAbs;have h3 : 2 ^ bF x.natAbs ≤ 2 ^ max (bF x.natAbs) (bF y.natAbs) := Vr Uz (Nat.le_max_left _ _);have h4 : 2 ^ bF y.natAbs ≤ 2 ^ max (bF x.natAbs) (bF y.natAbs) := Vr Uz (Nat.le_max_right _ _);rw [Vy];omega
theorem kC (s : Bool) (m : ByteArray) : bF (iv s m).natAbs ≤ 8 * m.size := by rw [j6]; exact gP m
theorem GC (l : List Int) (x : Int) : (l ++ [x]).sum = l.sum + x := by simp
theorem vn (L : Option Addr) (n c : Nat) (l : List IR) (w : World) (hS : Sl w L n 2 (az IR.cells l)) (hn : n ≤ 1000000) (hs : ∀ s ∈ l, s.bA.size ≤ 100000000) :
  Calls Tryz.prog 138 #[.slice L n c] w fun e w' => e = .returned (.agg #[.bool (iN (l.map IR.v).sum), .string (iM (l.map IR.v).sum)]) ∧ Below w.heap.size w w' := by
 have hl := hS.bq IR.len Uz;have hh := Hp.start w;refine aj (N := 19) (l := [.slice L n c]) Tryz.func138 rfl rfl (by simp) ?_;refine sr ?_;refine bW hh ?_;intro b2 w2 hh;refine aa (sr ?_);refine bW hh ?_;intro b3 w3 hh;refine vX ?_;refine aR [5, 8, 9, 10, 11, 12, 13, 14, 15, 16] 8
  (fun j w' => ∃ (i : Nat) (u : Bool) (S : Int), i ≤ n ∧ j = .int .i64 i ∧ S = ((l.take i).map IR.v).sum ∧ iv u (iM S) = S ∧ bF S.natAbs ≤ 800000000 + i ∧ Hp w [.blk b3 199 [.string (iM S), .bool u] (0, 0), .blk b2 63 [.bool false, .string (ByteArray.mk #[])] (0, 0)] w')
  (fun j _ => n - (intOf j).toNat) ?_ ?_
 ·exact ⟨0, false, 0, UI _, rfl, rfl, by rw [iM]; exact VJ _ (e8 0), by simp [lk], by rw [iM, Int.natAbs_zero, np]; exact hh⟩
 ·clear hh;rintro ρ' j w' ⟨i, u, S, hi, rfl, hS2, hu, hb, hh⟩;by_cases hlt : i < n
  ·obtain ⟨x, hx⟩ := ak (l := l) (k := i) Uz;obtain ⟨ad, rfl, hr⟩ := hS.at_ Uz;have hxs := hs x (UJ hx);have hS3 : ((l.take (i + 1)).map IR.v).sum = S + x.v := by rw [ay hx, VC, Xk, GC, hS2]
   have hms : (iM S).size ≤ 1000000000 := by rw [dR]; omega
   have hbx := kC x.neg x.bA;have hba := pW S x.v;have hpl := Nj u x.neg (iM S) x.bA;rw [hu] at hpl;have hwc := fun w1 => AM u x.neg (iM S) x.bA w1 hms Uz;rw [hu] at hwc;refine sr ?_;refine dH ?_;refine ct ?_;refine cw (vs := [_, _]) aM.out rfl (((hr.ext hh.below).recAt IR.len hx)) rfl UA ?_;refine bW hh ?_;intro b5 w5 hh;refine bX hh 0 [_,_] ?_;intro ws hh;replace hh : Hp _ (.blk _ _ [_, _] _ :: _) _ := hh;refine aa ?_;refine aZ 3 [[(3, none)], [(5, none)], [(13, some 1)]] [(2, 14), (1, 13), (0, 12)] hh mixed UB ?_;refine fS 1 [_,_] ?_;refine fS 0 [_,_] ?_;refine dC (fun _ hj => jS x.neg x.bA _) ?_;refine aT ?_;intro f W hJ hV;have hb_5 := hJ.bl;obtain ⟨v14, v13, v12, _⟩ := hV;replace hh := hJ.hp;refine aY (br (ae v14 (ae v13 (ae v12 aX)))) ?_;dsimp only [cg];clear hJ;refine bD hh (hwc _) rfl ?_;intro w15 hh;exact OA
  ·refine sr ?_;refine mM ?_;refine cE hh 0 [_,_] ?_;refine bD hh (dv u (iM S) _) rfl ?_;intro w18 hh;exact RL
theorem sx (s : Bool) (b : ByteArray) : (iM (-(iv s b))).size ≤ b.size := by
 have := kC s b;rw [dR, Int.natAbs_neg]; omega
theorem tH (s t : Bool) (a b : ByteArray) (w : World) (ha : a.size ≤ 100000000) (hb : b.size ≤ 100000000) :
  Calls Tryz.prog 229 #[.agg #[.bool s, .string a], .agg #[.bool t, .string b]] w fun e w' => e = .returned (.agg #[.bool (iN (iv s a - iv t b)), .string (iM (iv s a - iv t b))]) ∧ Below w.heap.size w w' := by
 have hh := Hp.start w;have h1 := sx t b;have e1 : ([IR.mk s a, iR (-(iv t b))].map IR.v).sum = iv s a - iv t b := by
  simp only [U9, VD, List.sum_cons, List.sum_nil, RM];simp only [IR.v]; omega
 refine aj (N := 10) (l := [.agg #[.bool s, .string a], .agg #[.bool t, .string b]]) Tryz.func229 rfl rfl (by simp) ?_;refine sr ?_;refine cz hh [_,_] ?_;intro b2 w2 hh;refine cz hh [_,_] ?_;intro b3 w3 hh;refine bW hh ?_;intro b4 w4 hh;refine aa (ah ?_);refine aZ 3 [[(2, none)], [(3, none)], [(6, some 1)]] [(2, 7), (1, 6), (0, 5)] hh mixed UB ?_;refine fS 2 [_,_] ?_;refine fS 1 [_,_] ?_;refine dC (fun _ hj => uw t b _) ?_;refine aT ?_;intro f W hJ hV;have hb_1 := hJ.bl;obtain ⟨v7, v6, v5, _⟩ := hV;replace hh := hJ.hp;refine aY (br (ae v7 (ae v6 (ae v5 aX)))) ?_;dsimp only [cg];clear hJ;refine DU ?_;intro b8 w8 hh;refine bD hh (vn _ 2 _ [IR.mk s a, iR (-(iv t b))] _ (hh.aA (i := 0) rfl) Uz (by simp [iR]; omega)) rfl ?_;intro w9 hh;rw [e1];exact J8
theorem Dz (s t : Bool) (a b : ByteArray) (w : World) (ha : a.size ≤ 100000000) (hb : b.size ≤ 100000000) :
  Calls Tryz.prog 219 #[.agg #[.bool s, .string a], .agg #[.bool t, .string b]] w fun e w' => e = .returned (.int .i64 (iv s a - iv t b).sign) ∧ Below w.heap.size w w' := by
 have hh := Hp.start w;refine aj (N := 9) (l := [.agg #[.bool s, .string a], .agg #[.bool t, .string b]]) Tryz.func219 rfl rfl (by simp) ?_;refine sr ?_;refine cz hh [_,_] ?_;intro b2 w2 hh;refine cz hh [_,_] ?_;intro b3 w3 hh;refine aI (aa (sr ?_));refine cE hh 1 [_,_] ?_;refine cE hh 0 [_,_] ?_;refine bD hh (tH s t a b _ ha hb) rfl ?_;intro w7 hh;refine bD hh (kx _ _ _) rfl ?_;intro w8 hh;rw [fB];exact Bw
theorem HX (a b : Nat) : bF (a * b) ≤ bF a + bF b := by
 apply dy;rw [U8];exact Nat.mul_lt_mul'' (dq a) (dq b)
theorem lW (a b : Int) : bF (a * b).natAbs ≤ bF a.natAbs + bF b.natAbs := by rw [WQ]; exact HX _ _
def mY : List Int → Int
 | [] => 1
 | x :: l => x * mY l
theorem De (l : List Int) (x : Int) : mY (l ++ [x]) = mY l * x := by
 induction l with
 | nil => simp [mY]
 | cons y l ih => simp only [UP, mY, ih, Int.mul_assoc]
theorem Br (l : List Nat) (i : Nat) : (l.take i).sum ≤ l.sum := by
 rw [← List.sum_append_nat.symm.trans (VJ List.sum (VA i l))]; omega
theorem tg : bF 1 = 1 := by decide +kernel
theorem C6 (L : Option Addr) (n c : Nat) (l : List IR) (w : World) (hS : Sl w L n 2 (az IR.cells l)) (hn : n ≤ 1000000) (hs : (l.map fun a => a.bA.size).sum ≤ 100000000) :
  Calls Tryz.prog 139 #[.slice L n c] w fun e w' => e = .returned (.agg #[.bool (iN (mY (l.map IR.v))), .string (iM (mY (l.map IR.v)))]) ∧ Below w.heap.size w w' := by
 have hl := hS.bq IR.len Uz;have hh := Hp.start w;have hsum := Br (l.map fun a => a.bA.size);refine aj (N := 21) (l := [.slice L n c]) Tryz.func139 rfl rfl (by simp) ?_;refine sr ?_;refine bW hh ?_;intro b2 w2 hh;refine aa (sr ?_);refine bD hh (nP 1 _ Uz Uz) rfl ?_;intro w6 hh;refine bD hh (jS _ _ _) rfl ?_;intro w7 hh;refine bW hh ?_;intro b3 w3 hh;refine bX hh 0 [_,_] ?_;intro ws hh;replace hh : Hp _ (.blk _ _ [_, _] _ :: _) _ := hh;refine vX ?_;refine aR [5, 10, 11, 12, 13, 14, 15, 16, 17, 18] 10
  (fun j w' => ∃ (i : Nat) (u : Bool) (S : Int), i ≤ n ∧ j = .int .i64 i ∧ S = mY ((l.take i).map IR.v) ∧ iv u (iM S) = S ∧ bF S.natAbs ≤ 1 + 8 * ((l.map fun a => a.bA.size).take i).sum ∧ Hp w [.blk b3 199 [.string (iM S), .bool u] (0, 0), .blk b2 63 [.bool false, .string (ByteArray.mk #[])] (0, 0)] w')
  (fun j _ => n - (intOf j).toNat) ?_ ?_
 ·exact ⟨0, _, 1, UI _, rfl, rfl, fB 1, by rw [Int.natAbs_one, tg]; omega, hh⟩
 ·clear hh;rintro ρ' j w' ⟨i, u, S, hi, rfl, hS2, hu, hb, hh⟩;by_cases hlt : i < n
  ·obtain ⟨x, hx⟩ := ak (l := l) (k := i) Uz;obtain ⟨ad, rfl, hr⟩ := hS.at_ Uz;have hsi := hsum i;have hsi2 := hsum (i + 1);have hsz : ((l.map fun a => a.bA.size).take (i + 1)).sum = ((l.map fun a => a.bA.size).take i).sum + x.bA.size := by
    rw [ay (x := x.bA.size) (by rw [UO, hx]; rfl), qQ]
   have hS3 : mY ((l.take (i + 1)).map IR.v) = S * x.v := by rw [ay hx, VC, Xk, De, hS2]
   have hms : (iM S).size ≤ 1000000000 := by rw [dR]; omega
   have hbx := kC x.neg x.bA;have hba := lW S x.v;have hpl := Ai u x.neg (iM S) x.bA;rw [hu] at hpl;have hwc := fun w1 => pP u x.neg (iM S) x.bA w1 hms Uz;rw [hu] at hwc;refine sr ?_;refine dH ?_;refine ct ?_;refine cw (vs := [_, _]) aM.out rfl (((hr.ext hh.below).recAt IR.len hx)) rfl UA ?_;refine bW hh ?_;intro b5 w5 hh;refine bX hh 0 [_,_] ?_;intro ws hh;replace hh : Hp _ (.blk _ _ [_, _] _ :: _) _ := hh;refine aa ?_;refine aZ 3 [[(3, none)], [(5, none)], [(15, some 1)]] [(2, 16), (1, 15), (0, 14)] hh mixed UB ?_;refine fS 1 [_,_] ?_;refine fS 0 [_,_] ?_;refine dC (fun _ hj => jS x.neg x.bA _) ?_;refine aT ?_;intro f W hJ hV;have hb_5 := hJ.bl;obtain ⟨v16, v15, v14, _⟩ := hV;replace hh := hJ.hp;refine aY (br (ae v16 (ae v15 (ae v14 aX)))) ?_;dsimp only [cg];clear hJ;refine bD hh (hwc _) rfl ?_;intro w17 hh;exact OA
  ·refine sr ?_;refine mM ?_;refine cE hh 0 [_,_] ?_;refine bD hh (dv u (iM S) _) rfl ?_;intro w20 hh;exact RL
theorem BG (M k : Nat) (h : 2 ^ k ∣ M) : -((M / 2 ^ k : Nat) : Int) = -(M : Int) / 2 ^ k := by
 obtain ⟨q, rfl⟩ := h;have hp : (0 : Int) < 2 ^ k := Int.pow_pos Uz;rw [Nat.mul_div_cancel_left _ (Vj Uz), V2, ← Int.mul_neg, Int.natCast_pow];exact (Int.mul_ediv_cancel_left _ (by exact Int.ne_of_gt hp)).symm
theorem yi (M k : Nat) (h : ¬ 2 ^ k ∣ M) : -((M / 2 ^ k : Nat) : Int) - 1 = -(M : Int) / 2 ^ k := by
 have hp : (0 : Int) < 2 ^ k := Int.pow_pos Uz;have h1 := Wn M (2 ^ k);have h2 := Va M (Vj (n := k) (show 0 < 2 by omega));have h3 : M % 2 ^ k ≠ 0 := fun h0 => h (Nat.dvd_of_mod_eq_zero h0);have hc : ((2 ^ k : Nat) : Int) = 2 ^ k := by simp
 symm
 rw [Int.ediv_eq_iff_of_pos hp, ← hc];have h4 : (M : Int) = (2 ^ k : Nat) * (M / 2 ^ k : Nat) + (M % 2 ^ k : Nat) := by rw [← V2, ← WE, h1]
 generalize hK : ((2 ^ k : Nat) : Int) = K at *;generalize ((M / 2 ^ k : Nat) : Int) = q at *;have e : (-q - 1) * K = -(K * q) - K := by rw [Int.sub_mul, Int.neg_mul, Int.mul_comm q]; omega
 have e2 : (-q - 1 + 1) * K = -(K * q) := by rw [Int.sub_add_cancel, Int.neg_mul, Int.mul_comm]
 omega
theorem JE {M : Nat} (h0 : M ≠ 0) : 2 ^ k ∣ M ↔ k ≤ tz M := by
 obtain ⟨m, hm⟩ := sQ h0;generalize tz M = t at *;constructor
 ·intro h
  rcases Vv t k with hlt | hge
  ·exfalso;obtain ⟨q, hq⟩ := h;rw [hm, show k = t + (1 + (k - t - 1)) by omega, U8, U8, VB] at hq;have := Nat.eq_of_mul_eq_mul_left (Vj Uz) hq;rw [Nat.pow_one, VB] at this;omega
  ·exact hge
 ·intro h;rw [hm];exact Nat.dvd_trans (Nat.pow_dvd_pow 2 h) (Nat.dvd_mul_right _ _)
theorem pd (a : Int) (n : Nat) : bF (a ^ n).natAbs ≤ 1 + n * bF a.natAbs := by
 induction n with
 | zero => simp [tg]
 | succ n ih =>
  rw [Int.pow_succ];have := lW (a ^ n) a;rw [VO]; omega
theorem Co (s : Bool) (a : ByteArray) (n : Int) (w : World) (h0 : n.toNat * a.size ≤ 100000000) (hn : n ≤ 1000000000) (ha : a.size ≤ 100000000) :
  Calls Tryz.prog 141 #[.agg #[.bool s, .string a], .int .i64 n] w fun e w' => e = .returned (.agg #[.bool (iN (iv s a ^ n.toNat)), .string (iM (iv s a ^ n.toNat))]) ∧ Below w.heap.size w w' := by
 have hh := Hp.start w;have e1 : (if (0 : Int) > n then 0 else n) = (n.toNat : Int) := by split <;> omega
 have hm : n.toNat ≤ 1000000000 := Uz;generalize n.toNat = m at *;refine aj (N := 19) (l := [.agg #[.bool s, .string a], .int .i64 n]) Tryz.func141 rfl rfl (by simp) ?_;refine sr ?_;refine cz hh [_,_] ?_;intro b2 w2 hh;refine bW hh ?_;intro b4 w4 hh;refine aa (sr ?_);refine bD hh (nP 1 _ Uz Uz) rfl ?_;intro w6 hh;refine bD hh (jS _ _ _) rfl ?_;intro w7 hh;refine bW hh ?_;intro b5 w5 hh;refine bX hh 0 [_,_] ?_;intro ws hh;replace hh : Hp _ (.blk _ _ [_, _] _ :: _) _ := hh;refine aa (ah (sr (mI ?_)));refine lv rfl rfl UA ?_;refine mI (aa (aq ?_));rw [e1];refine aR [10, 11, 12, 13, 14, 15, 16] 10
  (fun j w' => ∃ (i : Nat) (u : Bool) (S : Int), i ≤ m ∧ j = .int .i64 i ∧ S = iv s a ^ i ∧ iv u (iM S) = S ∧ Hp w [.blk b5 199 [.string (iM S), .bool u] (0, 0), .blk b4 63 [.bool false, .string (ByteArray.mk #[])] (0, 0), .blk b2 63 [.bool s, .string a] (0, 0)] w')
  (fun j _ => m - (intOf j).toNat) ?_ ?_
 ·exact ⟨0, _, 1, UI _, rfl, by rw [Int.pow_zero], fB 1, hh⟩
 ·clear hh;rintro ρ' j w' ⟨i, u, S, hi, rfl, hS2, hu, hh⟩;by_cases hlt : i < m
  ·have hb := pd (iv s a) i;rw [← hS2] at hb;have hbx := kC s a;have hle : i * bF (iv s a).natAbs ≤ m * (8 * a.size) := V3 hi hbx;rw [X1] at hle;have hms : (iM S).size ≤ 1000000000 := by rw [dR]; omega
   have hpl := Ai u s (iM S) a;rw [hu] at hpl;have hwc := fun w1 => pP u s (iM S) a w1 hms Uz;rw [hu] at hwc;refine sr ?_;refine bh (aa (ah (cT (ar (ai (ah (aq ?_)))))));refine aZ 3 [[(5, none)], [(2, none)], [(13, some 1)]] [(2, 14), (1, 13), (0, 12)] hh mixed UB ?_;refine fS 0 [_,_] ?_;refine fS 2 [_,_] ?_;refine dC (fun _ hj => jS s a _) ?_;refine aT ?_;intro f W hJ hV;have hb_4 := hJ.bl;obtain ⟨v14, v13, v12, _⟩ := hV;replace hh := hJ.hp;refine aY (br (ae v14 (ae v13 (ae v12 aX)))) ?_;dsimp only [cg];clear hJ;refine bD hh (hwc _) rfl ?_;intro w15 hh;refine bX hh 0 [_,_] ?_;intro ws hh;replace hh : Hp _ (.blk _ _ [_, _] _ :: _) _ := hh;refine fV ?_;refine bo (mI (aC (ai ?_)));refine ⟨⟨i + 1, _, _, Uz, rfl, by rw [Int.pow_succ, hS2], hpl, hh⟩, by show m - (i + 1) < m - i; omega, ?_⟩;exact dQ
  ·obtain rfl : i = m := Uz;refine sr ?_;refine mM ?_;refine cE hh 0 [_,_] ?_;refine bD hh (dv u (iM S) _) rfl ?_;intro w18 hh;rw [hu, hS2];exact J8
theorem Qh (s : Bool) (a : ByteArray) (m : Nat) : iv s (sN (bN a * 2 ^ m)) = iv s a * 2 ^ m := by
 unfold iv;rw [e8]
 cases s <;> simp [V2, Int.neg_mul]
theorem B7 (s : Bool) (a : ByteArray) (m : Nat) (w : World) (ha : a.size ≤ 100000000) (hm : m ≤ 1000000000) :
  Calls Tryz.prog 197 #[.agg #[.bool s, .string a], .int .i64 (m : Int)] w fun e w' => e = .returned (.agg #[.bool (iN (iv s a * 2 ^ m)), .string (iM (iv s a * 2 ^ m))]) ∧ Below w.heap.size w w' := by
 have hh := Hp.start w;refine aj (N := 47) (l := [.agg #[.bool s, .string a], .int .i64 (m : Int)]) Tryz.func197 rfl rfl (by simp) ?_;refine sr ?_;refine cz hh [_,_] ?_;intro b2 w2 hh;refine bW hh ?_;intro b4 w4 hh;refine aa (ah (sr (mI ?_)));refine dL (aa (cT (ah ?_)));refine aZ 6 [[(2, none)], [(8, some 0)], [(1, none)], [(9, some 1), (10, some 2)], [(2, none)], [(12, some 4)]] [(5, 13), (4, 12), (3, 11), (2, 10), (1, 9), (0, 8)] hh mixed UB ?_;refine ef ?_;refine gE 1 ?_;refine dP ?_;refine dC (fun _ hj => yu a m _ Uz Uz) ?_;refine ef ?_;refine gE 1 ?_;refine aT ?_;intro f W hJ hV;have hb_2 := hJ.bl;obtain ⟨v13, v12, v11, v10, v9, v8, _⟩ := hV;replace hh := hJ.hp;refine aY (br (ae v13 (ae v12 (ae v11 (ae v10 (ae v9 (ae v8 aX))))))) ?_;dsimp only [cg];clear hJ;refine gH [_,_] ?_;refine bD hh (dv s (sN (bN a * 2 ^ m)) _) rfl ?_;intro w15 hh;rw [Qh];exact EH
theorem CY (s : Bool) (a : ByteArray) (m : Nat) (w : World) (hT : eb w) (ha : a.size ≤ 100000000) (h0 : 0 < m) (hm : m ≤ 1000000000000) :
  Calls Tryz.prog 197 #[.agg #[.bool s, .string a], .int .i64 (-(m : Int))] w fun e w' => e = .returned (.agg #[.bool (iN (iv s a / 2 ^ m)), .string (iM (iv s a / 2 ^ m))]) ∧ Below w.heap.size w w' := by
 have hh := Hp.start w;have e1 : (if (-1099511627776 : Int) > -(m : Int) then -1099511627776 else -(m : Int)) = -(m : Int) := UE Uz;have e2 : -(-(m : Int)) = (m : Int) := Uz;have hcs : ∀ w1, Calls Tryz.prog 227 #[.string a, .int .i64 (-(-(m : Int)))] w1 fun e w' => e = .returned (.string (sN (bN a / 2 ^ m))) ∧ Below w1.heap.size w1 w' := fun w1 => by
  rw [e2]; exact xA a m w1 Uz Uz
 cases s with
 | false =>
  have e3 : iv false (sN (bN a / 2 ^ m)) = iv false a / 2 ^ m := by
   unfold iv;rw [e8];simp
  refine aj (N := 47) (l := [.agg #[.bool false, .string a], .int .i64 (-(m : Int))]) Tryz.func197 rfl rfl (by simp) ?_;refine sr ?_;refine cz hh [_,_] ?_;intro b2 w2 hh;refine bW hh ?_;intro b4 w4 hh;refine aa (ah (sr (mI ?_)));refine dL (aa (cF (ar (ai (sr (mI ?_))))));refine lv rfl rfl UA ?_;refine aI (aa (ah ?_));rw [e1];refine Fv ?_;refine ef ?_;refine gE 1 ?_;refine dP ?_;refine Fe ?_;refine dC (fun _ hj => hcs _) ?_;refine ef ?_;refine gE 1 ?_;refine dB [_,_] ?_;refine dC (fun _ hj => dv false (sN (bN a / 2 ^ m)) _) ?_;refine EU ?_;refine aT ?_;intro f W hJ hV;have hb_4 := hJ.bl;obtain ⟨v5, v26, v25, v24, v23, v22, v21, v20, v19, v18, _⟩ := hV;obtain ⟨b5, e5, hl5, hc5⟩ : dw _ _ _ (f 9) W := v5;replace hh := hJ.newVar hh hl5 hc5;refine D2 ?_;dsimp only [cg];clear e5 hJ;rw [e3];refine bX hh 0 [_,_] ?_;intro ws hh;replace hh : Hp _ (.blk _ _ [_, _] _ :: _) _ := hh;refine aa (ah (sr (bH ?_)));refine bG hh 2 ?_;refine mB ?_;refine gS (gS ?_);refine jK ?_;refine gS ?_;refine eV ?_;exact NA
 | true =>
  have hb := gP a;have e4 : iv true (sN (bN a / 2 ^ m)) = -((bN a / 2 ^ m : Nat) : Int) := by
   unfold iv;rw [e8, UF rfl]
  have e5 : iv true a = -(bN a : Int) := by unfold iv; rw [UF rfl]
  by_cases hz : bN a = 0
  ·have e3 : iv true (sN (bN a / 2 ^ m)) = iv true a / 2 ^ m := by
    rw [e4, e5, hz]; simp
   refine Ip ?_;refine sr ?_;refine cz hh [_,_] ?_;intro b2 w2 hh;refine bW hh ?_;intro b4 w4 hh;refine aa (ah (sr (mI ?_)));refine dL (aa (cF (ar (ai (sr (mI ?_))))));refine lv rfl rfl UA ?_;refine aI (aa (ah ?_));rw [e1];refine Fv ?_;refine ef ?_;refine gE 1 ?_;refine dP ?_;refine Fe ?_;refine dC (fun _ hj => hcs _) ?_;refine ef ?_;refine gE 1 ?_;refine dB [_,_] ?_;refine dC (fun _ hj => dv true (sN (bN a / 2 ^ m)) _) ?_;refine EU ?_;refine aT ?_;intro f W hJ hV;have hb_4 := hJ.bl;obtain ⟨v5, v26, v25, v24, v23, v22, v21, v20, v19, v18, _⟩ := hV;obtain ⟨b5, e5, hl5, hc5⟩ : dw _ _ _ (f 9) W := v5;replace hh := hJ.newVar hh hl5 hc5;refine D2 ?_;dsimp only [cg];clear e5 hJ;rw [e3];refine bX hh 0 [_,_] ?_;intro ws hh;replace hh : Hp _ (.blk _ _ [_, _] _ :: _) _ := hh;refine aa (ah (sr (bH ?_)));refine bG hh 2 ?_;refine mB (gT (bH (gT ?_)));refine bG hh 2 ?_;refine aG rfl rfl ?_;refine bD hh (l6 a _ Uz) rfl ?_;intro w32 hh;rw [hz, lk];refine gT ?_;refine cq ?_;refine fO ?_;exact NA
  ·have hbp := pH hz;by_cases hd : 2 ^ m ∣ bN a
   ·have e3 : iv true (sN (bN a / 2 ^ m)) = iv true a / 2 ^ m := by
     rw [e4, e5]; exact BG _ _ hd
    have htz := (JE hz).1 hd;refine Ip ?_;refine sr ?_;refine cz hh [_,_] ?_;intro b2 w2 hh;refine bW hh ?_;intro b4 w4 hh;refine aa (ah (sr (mI ?_)));refine dL (aa (cF (ar (ai (sr (mI ?_))))));refine lv rfl rfl UA ?_;refine aI (aa (ah ?_));rw [e1];refine Fv ?_;refine ef ?_;refine gE 1 ?_;refine dP ?_;refine Fe ?_;refine dC (fun _ hj => hcs _) ?_;refine ef ?_;refine gE 1 ?_;refine dB [_,_] ?_;refine dC (fun _ hj => dv true (sN (bN a / 2 ^ m)) _) ?_;refine EU ?_;refine aT ?_;intro f W hJ hV;have hb_4 := hJ.bl;obtain ⟨v5, v26, v25, v24, v23, v22, v21, v20, v19, v18, _⟩ := hV;obtain ⟨b5, e5, hl5, hc5⟩ : dw _ _ _ (f 9) W := v5;replace hh := hJ.newVar hh hl5 hc5;refine D2 ?_;dsimp only [cg];clear e5 hJ;rw [e3];refine bX hh 0 [_,_] ?_;intro ws hh;replace hh : Hp _ (.blk _ _ [_, _] _ :: _) _ := hh;refine aa (ah (sr (bH ?_)));refine bG hh 2 ?_;refine mB (gT (bH (gT ?_)));refine bG hh 2 ?_;refine aG rfl rfl ?_;refine bD hh (l6 a _ Uz) rfl ?_;intro w32 hh;refine gT ?_;refine cq ?_;refine fO ?_;refine mB (gT (bH (gT ?_)));refine bG hh 2 ?_;refine aG rfl rfl ?_;refine bD hh (j9 a _ Uz (hT.hp hh)) rfl ?_;intro w38 hh;refine gT (mI (gT ?_));refine yM rfl Uz Uz UA ?_;refine gT ?_;refine bh ?_
    refine fO ?_;refine vh ?_;refine cE hh 0 [_,_] ?_;exact J8
   ·have e3 : iv true (sN (bN a / 2 ^ m)) - 1 = iv true a / 2 ^ m := by
     rw [e4, e5]; exact yi _ _ hd
    have htz : tz (bN a) < m := XC fun h => hd ((JE hz).2 h);have hsz : (iM (iv true (sN (bN a / 2 ^ m)))).size ≤ 100000000 := by
     have := pR (bN a) m;rw [dR, j6, e8]; omega
    have hsub : ∀ w1, Calls Tryz.prog 229 #[.agg #[.bool (iN (iv true (sN (bN a / 2 ^ m)))), .string (iM (iv true (sN (bN a / 2 ^ m))))], .agg #[.bool (iN 1), .string (iM 1)]] w1 fun e w' => e = .returned (.agg #[.bool (iN (iv true a / 2 ^ m)), .string (iM (iv true a / 2 ^ m))]) ∧ Below w1.heap.size w1 w' := fun w1 => by
     have := tH (iN (iv true (sN (bN a / 2 ^ m)))) (iN 1) (iM (iv true (sN (bN a / 2 ^ m)))) (iM 1) w1 hsz (by rw [dR, Int.natAbs_one, tg]; omega);rw [fB, fB, e3] at this;exact this
    refine Ip ?_;refine sr ?_;refine cz hh [_,_] ?_;intro b2 w2 hh;refine bW hh ?_;intro b4 w4 hh;refine aa (ah (sr (mI ?_)));refine dL (aa (cF (ar (ai (sr (mI ?_))))));refine lv rfl rfl UA ?_;refine aI (aa (ah ?_));rw [e1];refine Fv ?_;refine ef ?_;refine gE 1 ?_;refine dP ?_;refine Fe ?_;refine dC (fun _ hj => hcs _) ?_;refine ef ?_;refine gE 1 ?_;refine dB [_,_] ?_;refine dC (fun _ hj => dv true (sN (bN a / 2 ^ m)) _) ?_;refine EU ?_;refine aT ?_;intro f W hJ hV;have hb_4 := hJ.bl;obtain ⟨v5, v26, v25, v24, v23, v22, v21, v20, v19, v18, _⟩ := hV;obtain ⟨b5, e5, hl5, hc5⟩ : dw _ _ _ (f 9) W := v5;replace hh := hJ.newVar hh hl5 hc5;refine D2 ?_;dsimp only [cg];clear e5 hJ;refine bX hh 0 [_,_] ?_;intro ws hh;replace hh : Hp _ (.blk _ _ [_, _] _ :: _) _ := hh;refine aa (ah (sr (bH ?_)));refine bG hh 2 ?_;refine mB (gT (bH (gT ?_)));refine bG hh 2 ?_;refine aG rfl rfl ?_;refine bD hh (l6 a _ Uz) rfl ?_;intro w32 hh;refine gT ?_;refine cq ?_;refine fO ?_;refine mB (gT (bH (gT ?_)));refine bG hh 2 ?_;refine aG rfl rfl ?_;refine bD hh (j9 a _ Uz (hT.hp hh)) rfl ?_;intro w38 hh;refine gT (mI (gT ?_));refine yM rfl Uz Uz UA ?_;refine gT ?_;refine bh ?_;refine fO ?_;refine aa (cT (ah ?_))
    refine aZ 2 [[(5, none)], []] [(1, 44), (0, 43)] hh mixed UB ?_;refine fS 0 [_,_] ?_;refine dC (fun _ hj => nP 1 _ Uz Uz) ?_;refine aT ?_;intro f W hJ hV;have hb_6 := hJ.bl;obtain ⟨v44, v43, _⟩ := hV;replace hh := hJ.hp;refine aY (br (ae v44 (ae v43 aX))) ?_;dsimp only [cg];clear hJ;refine bD hh (hsub _) rfl ?_;intro w45 hh;refine bX hh 1 [_,_] ?_;intro ws hh;replace hh : Hp _ (_ :: .blk _ _ [_, _] _ :: _) _ := hh;refine aa (av (aH ?_));exact O0
theorem Pe : (2 : Rat) ≠ 0 := by decide
theorem two_pos (k : Int) : (0 : Rat) < 2 ^ k := Rat.zpow_pos UA
theorem ku (i p : Int) : (Dyadic.ofIntWithPrec i p).toRat = i * 2 ^ (-p) := Dyadic.toRat_ofIntWithPrec_eq_mul_two_pow
theorem qz (i p : Int) (n : Nat) : Dyadic.ofIntWithPrec (i * 2 ^ n) (p + n) = Dyadic.ofIntWithPrec i p := by
 rw [← Int.shiftLeft_eq]; exact Dyadic.ofIntWithPrec_shiftLeft_add
theorem lN (i : Int) {p q : Int} (h : q = p + n) : Dyadic.ofIntWithPrec i p = Dyadic.ofIntWithPrec (i * 2 ^ n) q := by
 subst h; exact (qz i p n).symm
theorem yT (i j p : Int) : Dyadic.ofIntWithPrec i p + Dyadic.ofIntWithPrec j p = Dyadic.ofIntWithPrec (i + j) p := by
 rw [← Dyadic.toRat_inj, Dyadic.toRat_add, ku, ku, ku, Rat.intCast_add, Rat.add_mul]
theorem D3 (i p : Int) : -Dyadic.ofIntWithPrec i p = Dyadic.ofIntWithPrec (-i) p := Dyadic.neg_ofIntWithPrec
theorem te (i j p q : Int) : Dyadic.ofIntWithPrec i p * Dyadic.ofIntWithPrec j q = Dyadic.ofIntWithPrec (i * j) (p + q) := by
 rw [← Dyadic.toRat_inj, Dyadic.toRat_mul, ku, ku, ku, Rat.intCast_mul, Int.neg_add, Rat.zpow_add Pe];grind
theorem tT (i j p : Int) : Dyadic.ofIntWithPrec i p < Dyadic.ofIntWithPrec j p ↔ i < j := by
 rw [← Dyadic.toRat_lt_toRat_iff, ku, ku];rw [← Rat.intCast_lt_intCast];constructor
 ·intro h;exact Rat.lt_of_mul_lt_mul_right h (Rat.le_of_lt (two_pos _))
 ·intro h;exact Rat.mul_lt_mul_of_pos_right h (two_pos _)
theorem ll (p : Int) : Dyadic.ofIntWithPrec 0 p = 0 := rfl
theorem M1 {i j p : Int} (h : Dyadic.ofIntWithPrec i p = Dyadic.ofIntWithPrec j p) : i = j := by
 rcases XD i j with h1 | h1 | h1
 ·rw [← tT i j p, h] at h1;exact absurd h1 (by rw [tT]; omega)
 ·exact h1
 ·rw [← tT j i p, h] at h1;exact absurd h1 (by rw [tT]; omega)
theorem rK {i p : Int} (h : Dyadic.ofIntWithPrec i p = 0) : i = 0 := M1 (p := p) (by rw [h]; rfl)
theorem Fx (n k : Int) (h : n % 2 = 1) : Dyadic.ofOdd n k h = Dyadic.ofIntWithPrec n k := Dyadic.ofOdd_eq_ofIntWithPrec
theorem xR {i p : Int} (h : i ≠ 0) : Dyadic.ofIntWithPrec i p = .ofOdd (i >>> i.trailingZeros) (p - i.trailingZeros) (Int.shiftRight_trailingZeros_mod_two h) := by
 rw [Dyadic.ofIntWithPrec, dif_neg h]
structure NR where
 neg : Bool
 bA : ByteArray
 e : Int
def NR.cells (a : NR) : List Value := [.bool a.neg, .string a.bA, .int .i64 a.e]
theorem NR.len (a : NR) : a.cells.length = 3 := rfl
theorem NR.one (a : NR) : a.cells.all Value.oneCell' = true := rfl
def NR.i (a : NR) : Int := iv a.neg a.bA
def NR.d (a : NR) : Dyadic := Dyadic.ofIntWithPrec a.i (-a.e)
def nR : Dyadic → NR
 | .zero => ⟨false, ByteArray.mk #[], 0⟩
 | .ofOdd n k _ => ⟨iN n, iM n, -k⟩
theorem lU : nR 0 = ⟨false, ByteArray.mk #[], 0⟩ := rfl
theorem bY (x : Dyadic) : (nR x).d = x := by
 cases x with
 | zero => rfl
 | ofOdd n k h =>
  simp only [nR, NR.d, NR.i, fB, Int.neg_neg];exact (Fx n k h).symm
theorem Qz {x y : Dyadic} : nR x = nR y ↔ x = y := ⟨fun h => by rw [← bY x, h, bY], fun h => by rw [h]⟩
theorem Sx (s : Bool) (a : ByteArray) : (iv s a).trailingZeros = tz (bN a) := by
 unfold iv;split
 ·rw [Int.trailingZeros_neg]; rfl
 ·rfl
theorem E3 (s : Bool) (a : ByteArray) : iv s a = 0 ↔ bN a = 0 := by
 have := j6 s a;omega
theorem rD {s : Bool} {a : ByteArray} {e : Int} (h : iv s a ≠ 0) : nR (Dyadic.ofIntWithPrec (iv s a) (-e)) = ⟨iN (iv s a / 2 ^ tz (bN a)), iM (iv s a / 2 ^ tz (bN a)), e + tz (bN a)⟩ := by
 rw [xR h, nR, Int.shiftRight_eq_div_pow, Sx];have e1 : -(-e - (tz (bN a) : Int)) = e + tz (bN a) := Uz;rw [e1, Int.natCast_pow]
 rfl
def Sz (k : Nat) (x : Dyadic) : Prop := ∃ i : Int, x = Dyadic.ofIntWithPrec i k ∧ i.natAbs < 2 ^ (2 * k)
theorem Sz.zero (k : Nat) : Sz k 0 := ⟨0, rfl, by simpa using Vj Uz⟩
theorem Sz.mono {l : Nat} {x : Dyadic} (h : Sz k x) (hl : k ≤ l) : Sz l x := by
 obtain ⟨i, rfl, hi⟩ := h;refine ⟨i * 2 ^ (l - k), lN i Uz, ?_⟩;rw [WQ, Xt];have h1 : i.natAbs * 2 ^ (l - k) < 2 ^ (2 * k) * 2 ^ (l - k) := Xo hi (Vj Uz);rw [← U8] at h1;exact VN h1 (Vr Uz Uz)
theorem Sz.neg {x : Dyadic} (h : Sz k x) : Sz k (-x) := by
 obtain ⟨i, rfl, hi⟩ := h;exact ⟨-i, D3 _ _, by rw [Int.natAbs_neg]; exact hi⟩
theorem Sz.add {x y : Dyadic} (hx : Sz k x) (hy : Sz k y) : Sz (k + 1) (x + y) := by
 obtain ⟨i, rfl, hi⟩ := hx;obtain ⟨j, rfl, hj⟩ := hy;rw [yT];refine ⟨(i + j) * 2 ^ 1, lN _ Uz, ?_⟩;have h1 : 2 ^ (2 * (k + 1)) = 4 * 2 ^ (2 * k) := by rw [show 2 * (k + 1) = 2 * k + 2 by omega, U8]; omega
 rw [h1];omega
theorem Sz.sub {x y : Dyadic} (hx : Sz k x) (hy : Sz k y) : Sz (k + 1) (x - y) := hx.add hy.neg
theorem Sz.mul {l : Nat} {x y : Dyadic} (hx : Sz k x) (hy : Sz l y) : Sz (k + l) (x * y) := by
 obtain ⟨i, rfl, hi⟩ := hx;obtain ⟨j, rfl, hj⟩ := hy;rw [te];refine ⟨i * j, by rw [WE], ?_⟩;rw [WQ, Vz, U8];exact Nat.mul_lt_mul'' hi hj
theorem lg {i : Int} (h : i ≠ 0) : 2 ^ i.trailingZeros ≤ i.natAbs := by
 have h1 := Int.two_pow_trailingZeros_dvd h;have h2 := Int.natAbs_dvd_natAbs.2 h1;rw [Xt] at h2;exact Nat.le_of_dvd Uz h2
theorem Sz.nr {x : Dyadic} (h : Sz k x) : (nR x).bA.size ≤ (2 * k + 7) / 8 ∧ -(k : Int) ≤ (nR x).e ∧ (nR x).e ≤ k := by
 obtain ⟨i, rfl, hi⟩ := h;by_cases h0 : i = 0
 ·subst h0;rw [ll, lU];exact ⟨UI _, (by omega : -(k : Int) ≤ 0), (by omega : (0 : Int) ≤ k)⟩
 ·have h2 := lg h0;rw [xR h0, nR];simp only;refine ⟨?_, Uz, ?_⟩
  ·rw [dR];have : bF (i >>> i.trailingZeros).natAbs ≤ 2 * k := by
    apply dy;refine VK ?_ hi;rw [Int.shiftRight_eq_div_pow];exact Ye _ _
   omega
  ·have h3 : 2 ^ i.trailingZeros < 2 ^ (2 * k) := VK h2 hi;have := (X9 Uz).1 h3;omega
theorem Sz.raw {a : NR} {E : Nat} (hm : 8 * a.bA.size ≤ m) (h1 : -(E : Int) ≤ a.e) (h2 : a.e ≤ E) : Sz (m + E) a.d := by
 refine ⟨a.i * 2 ^ (a.e + m + E).toNat, lN _ Uz, ?_⟩;have h3 : a.i.natAbs < 2 ^ m := by
  rw [NR.i, j6];refine VN (dq _) (Vr Uz ?_);have := gP a.bA;omega
 rw [WQ, Xt];have h4 := Xo h3 (Vj (n := (a.e + m + E).toNat) (show 0 < 2 by omega));rw [← U8] at h4;exact VN h4 (Vr Uz Uz)
def EN (i n : Int) : Int := if 0 ≤ n then i * 2 ^ n.toNat else i / 2 ^ (-n).toNat
theorem H0 (n : Int) : EN 0 n = 0 := by unfold EN; split <;> simp
def cQ : Dyadic → Int → Int
 | .zero, _ => 0
 | .ofOdd n k _, p => EN n (p - k)
def dm : Dyadic → Dyadic → Int
 | .zero, .zero => 0
 | .zero, .ofOdd _ k _ => k
 | .ofOdd _ k _, .zero => k
 | .ofOdd _ k _, .ofOdd _ l _ => max k l
theorem nu (n k p : Int) (h : n % 2 = 1) (hp : k ≤ p) : Dyadic.ofIntWithPrec (cQ (.ofOdd n k h) p) p = .ofOdd n k h := by
 simp only [cQ];rw [Fx, EN, UF Uz];exact (lN n Uz).symm
theorem KO (x y : Dyadic) : Dyadic.ofIntWithPrec (cQ x (dm x y)) (dm x y) = x := by
 cases x with
 | zero => rfl
 | ofOdd n k h =>
  cases y with
  | zero => exact nu _ _ _ _ (Int.le_refl _)
  | ofOdd m l g => exact nu _ _ _ _ (Int.le_max_left _ _)
theorem Jz (x y : Dyadic) : Dyadic.ofIntWithPrec (cQ y (dm x y)) (dm x y) = y := by
 cases y with
 | zero => rfl
 | ofOdd n k h =>
  cases x with
  | zero => exact nu _ _ _ _ (Int.le_refl _)
  | ofOdd m l g => exact nu _ _ _ _ (Int.le_max_right _ _)
theorem Lo (x y : Dyadic) : Dyadic.ofIntWithPrec (cQ x (dm x y) + cQ y (dm x y)) (dm x y) = x + y := by
 rw [← yT, KO, Jz]
theorem HY (i n : Int) : bF (EN i n).natAbs ≤ bF i.natAbs + n.toNat := by
 unfold EN;split
 ·rw [WQ, Xt];exact pr _ _
 ·have : bF (i / 2 ^ (-n).toNat).natAbs ≤ bF i.natAbs := dy (VK (Ye _ _) (dq _));omega
theorem DY (x y : Dyadic) (E : Int) (h1 : -E ≤ (nR x).e ∧ (nR x).e ≤ E) (h2 : -E ≤ (nR y).e ∧ (nR y).e ≤ E) : -E ≤ dm x y ∧ dm x y ≤ E := by
 cases x <;> cases y <;> simp only [nR, dm] at * <;> omega
theorem vj (x : Dyadic) (p : Int) : bF (cQ x p).natAbs ≤ 8 * (nR x).bA.size + (p + (nR x).e).toNat := by
 cases x with
 | zero => simp [cQ, lk]
 | ofOdd n k h =>
  have h1 := HY n (p - k);have h2 := gP (iM n);rw [iM, e8] at h2;simp only [cQ, nR];rw [show p + -k = p - k by omega];rw [← iM] at h2;omega
variable {P : Program} {by' off : Nat} {r : Bool} {zc : List Value}
section
variable {ro : Mode}
theorem El {t : TypeId} {cs : Array Value} {v : Value} (ht : dr P t = some (n, false, by', zc)) (hv : cs[off]? = some v) (w : World) : (part t cs off).run P w = .ok v w := by
 simp [part, iS ht, hv]
theorem O6 {t : TypeId} {cs vs : Array Value} (ht : dr P t = some (n, true, by', zc)) (hv : cs.extract off (off + n) = vs) (w : World) : (part t cs off).run P w = .ok (.agg vs) w := by
 simp [part, iS ht, e9 ht, hv]
theorem Tq (n : Nat) (a b : Bool) (w : World) : (Op.equalIn (n + 1) 4 (.bool a) (.bool b)).run Tryz.prog w = .ok (a == b) w := by
 simp [Op.equalIn, run_underlying Tryz.underlying4]
theorem Q8 (n : Nat) (a b : ByteArray) (w : World) : (Op.equalIn (n + 1) 9 (.string a) (.string b)).run Tryz.prog w = .ok (a == b) w := by
 simp [Op.equalIn, run_underlying Tryz.underlying9]
theorem S3 (n : Nat) (a b : Int) (w : World) : (Op.equalIn (n + 1) 3 (.int .i64 a) (.int .i64 b)).run Tryz.prog w = .ok (a == b) w := by
 simp [Op.equalIn, run_underlying Tryz.underlying3]
theorem eq_int (n : Nat) (s s' : Bool) (a a' : ByteArray) (w : World) : (Op.equalIn (n + 2) 63 (.agg #[.bool s, .string a]) (.agg #[.bool s', .string a'])).run Tryz.prog w = .ok (s == s' && a == a') w := by
 have h1 := fun (x : Bool) (y : ByteArray) => El (P := Tryz.prog) (cs := #[.bool x, .string y]) (off := 0) (aM.out (P := Tryz.prog) (t := 4)) rfl;have h2 := fun (x : Bool) (y : ByteArray) => El (P := Tryz.prog) (cs := #[.bool x, .string y]) (off := 1) (aM.out (P := Tryz.prog) (t := 9)) rfl;rw [Op.equalIn];simp [run_underlying Tryz.underlying63, h1, h2, Tq, Q8]
 cases h : s == s' <;> cases h' : a == a' <;> simp_all
theorem HK (n : Nat) (s s' : Bool) (a a' : ByteArray) (e e' : Int) (w : World) : (Op.equalIn (n + 3) 65 (.agg #[.bool s, .string a, .int .i64 e]) (.agg #[.bool s', .string a', .int .i64 e'])).run Tryz.prog w = .ok ((s == s' && a == a') && e == e') w := by
 have h1 := fun (x : Bool) (y : ByteArray) (z : Int) => O6 (P := Tryz.prog) (cs := #[.bool x, .string y, .int .i64 z]) (vs := #[.bool x, .string y]) (off := 0) (aM.out (P := Tryz.prog) (t := 63)) rfl;have h2 := fun (x : Bool) (y : ByteArray) (z : Int) => El (P := Tryz.prog) (cs := #[.bool x, .string y, .int .i64 z]) (off := 2) (aM.out (P := Tryz.prog) (t := 3)) rfl;rw [Op.equalIn];simp [run_underlying Tryz.underlying65, h1, h2, eq_int, S3]
 cases h : s == s' <;> cases h' : a == a' <;> cases h2 : e == e' <;> simp_all
section
variable {ρ : Rf} {w : World} {d : Option Nat} {ty u : TypeId} {pos : String} {af : Array Edge} {g : Option (Nat × Bool)} {x y : Operand} {s s' : Bool} {a a' : ByteArray} {e e' : Int}
theorem JS {a b : ByteArray} : (a == b) = true ↔ a = b := by
 have : (a == b) = (a.data == b.data) := rfl;rw [this, Wl];exact ⟨fun h => by cases a; cases b; simp_all, fun h => by rw [h]⟩
theorem nC : ((s == s' && a == a') && e == e') = true ↔ NR.mk s a e = NR.mk s' a' e' := by
 rw [UX, UX, Wl, JS, Wl, NR.mk.injEq, and_assoc]
theorem OQ (hx : ev ρ x = .agg #[.bool s, .string a, .int .i64 e]) (hy : ev ρ y = .agg #[.bool s', .string a', .int .i64 e']) (hr : ((s == s' && a == a') && e == e') = r) :
  (execOp (ev ρ) ⟨d, .binOp .eql 65 x y u, ty, pos, af, g⟩).run Tryz.prog w = .ok (.value (.bool r)) w := by
 exact R1
theorem OP (hx : ev ρ x = .agg #[.bool s, .string a, .int .i64 e]) (hy : ev ρ y = .agg #[.bool s', .string a', .int .i64 e']) (hr : ((s == s' && a == a') && e == e') = r) :
  (execOp (ev ρ) ⟨d, .binOp .neq 65 x y u, ty, pos, af, g⟩).run Tryz.prog w = .ok (.value (.bool !r)) w := by
 exact R1
theorem E5 (hx : ev ρ x = .agg #[.bool s, .string a, .int .i64 e]) (hy : ev ρ y = .agg #[.bool s', .string a', .int .i64 e']) (h : NR.mk s a e = NR.mk s' a' e') :
  (execOp (ev ρ) ⟨d, .binOp .eql 65 x y u, ty, pos, af, g⟩).run Tryz.prog w = .ok (.value (.bool true)) w := OQ hx hy (nC.2 h)
theorem MV (hx : ev ρ x = .agg #[.bool s, .string a, .int .i64 e]) (hy : ev ρ y = .agg #[.bool s', .string a', .int .i64 e']) (h : ¬ NR.mk s a e = NR.mk s' a' e') :
  (execOp (ev ρ) ⟨d, .binOp .eql 65 x y u, ty, pos, af, g⟩).run Tryz.prog w = .ok (.value (.bool false)) w := OQ hx hy (by rw [Xh]; exact fun h1 => h (nC.1 h1))
theorem Fw (hx : ev ρ x = .agg #[.bool s, .string a, .int .i64 e]) (hy : ev ρ y = .agg #[.bool s', .string a', .int .i64 e']) (h : NR.mk s a e = NR.mk s' a' e') :
  (execOp (ev ρ) ⟨d, .binOp .neq 65 x y u, ty, pos, af, g⟩).run Tryz.prog w = .ok (.value (.bool false)) w := OP hx hy (nC.2 h)
theorem Ek (hx : ev ρ x = .agg #[.bool s, .string a, .int .i64 e]) (hy : ev ρ y = .agg #[.bool s', .string a', .int .i64 e']) (h : ¬ NR.mk s a e = NR.mk s' a' e') :
  (execOp (ev ρ) ⟨d, .binOp .neq 65 x y u, ty, pos, af, g⟩).run Tryz.prog w = .ok (.value (.bool true)) w := OP hx hy (r := false) (by rw [Xh]; exact fun h1 => h (nC.1 h1))
end
section
variable {N : Nat} {ops : Array Oper} {Q : Kq} {ρ : Rf} {w : World} {rest : List Oper} {d : Nat} {ty u : TypeId} {pos : String} {af : Array Edge} {x y : Operand} {s s' : Bool} {a a' : ByteArray} {e e' : Int}
theorem EA (hx : ev ρ x = .agg #[.bool s, .string a, .int .i64 e]) (hy : ev ρ y = .agg #[.bool s', .string a', .int .i64 e']) (h : NR.mk s a e = NR.mk s' a' e') (hN : d < N) (kk : WL ro Tryz.prog N ops Q rest (cI ρ d (.bool true)) w) :
  WL ro Tryz.prog N ops Q (⟨some d, .binOp .eql 65 x y u, ty, pos, af, none⟩ :: rest) ρ w := aQ rfl rfl hN (E5 hx hy h) kk
theorem xY (hx : ev ρ x = .agg #[.bool s, .string a, .int .i64 e]) (hy : ev ρ y = .agg #[.bool s', .string a', .int .i64 e']) (h : ¬ NR.mk s a e = NR.mk s' a' e') (hN : d < N) (kk : WL ro Tryz.prog N ops Q rest (cI ρ d (.bool false)) w) :
  WL ro Tryz.prog N ops Q (⟨some d, .binOp .eql 65 x y u, ty, pos, af, none⟩ :: rest) ρ w := aQ rfl rfl hN (MV hx hy h) kk
theorem Lw (hx : ev ρ x = .agg #[.bool s, .string a, .int .i64 e]) (hy : ev ρ y = .agg #[.bool s', .string a', .int .i64 e']) (h : ¬ NR.mk s a e = NR.mk s' a' e') (hN : d < N) (kk : WL ro Tryz.prog N ops Q rest (cI ρ d (.bool true)) w) :
  WL ro Tryz.prog N ops Q (⟨some d, .binOp .neq 65 x y u, ty, pos, af, none⟩ :: rest) ρ w := aQ rfl rfl hN (Ek hx hy h) kk
theorem Fs (hx : ev ρ x = .agg #[.bool s, .string a, .int .i64 e]) (hy : ev ρ y = .agg #[.bool s', .string a', .int .i64 e']) (h : NR.mk s a e = NR.mk s' a' e') (hN : d < N) (kk : WL ro Tryz.prog N ops Q rest (cI ρ d (.bool false)) w) :
  WL ro Tryz.prog N ops Q (⟨some d, .binOp .neq 65 x y u, ty, pos, af, none⟩ :: rest) ρ w := aQ rfl rfl hN (Fw hx hy h) kk
end
theorem pZ (s : Bool) (a : ByteArray) (n : Int) (w : World) (hT : eb w) (ha : a.size ≤ 100000000) (h1 : -1000000000 ≤ n) (h2 : n ≤ 1000000000) :
  Calls Tryz.prog 197 #[.agg #[.bool s, .string a], .int .i64 n] w fun e w' => e = .returned (.agg #[.bool (iN (EN (iv s a) n)), .string (iM (EN (iv s a) n))]) ∧ Below w.heap.size w w' := by
 unfold EN;by_cases h : 0 ≤ n
 ·rw [UF h];obtain ⟨m, rfl⟩ := XO h;rw [V8];exact B7 s a m w ha Uz
 ·rw [UE h];obtain ⟨m, hm⟩ := XO (show 0 ≤ -n by omega);rw [hm, V8, show n = -(m : Int) by omega];exact CY s a m w hT ha Uz Uz
theorem iq (s : Bool) (a : ByteArray) (e : Int) (w : World) (hT : eb w) (ha : a.size ≤ 100000000) (h1 : -1000000000000 ≤ e) (h2 : e ≤ 1000000000000) :
  Calls Tryz.prog 137 #[.agg #[.bool s, .string a], .int .i64 e] w fun r w' => r = .returned (.agg #[.bool (nR (Dyadic.ofIntWithPrec (iv s a) (-e))).neg, .string (nR (Dyadic.ofIntWithPrec (iv s a) (-e))).bA, .int .i64 (nR (Dyadic.ofIntWithPrec (iv s a) (-e))).e]) ∧ Below w.heap.size w w' := by
 have hh := Hp.start w;by_cases h0 : iv s a = 0
 ·rw [h0, ll, lU];refine aj (N := 21) (l := [.agg #[.bool s, .string a], .int .i64 e]) Tryz.func137 rfl rfl (by simp) ?_;refine sr ?_;refine cz hh [_,_] ?_;intro b2 w2 hh;refine bW hh ?_;intro b4 w4 hh;refine aa (ah (sr ?_));refine cE hh 1 [_,_] ?_;refine bD hh (kx s a _) rfl ?_;intro w7 hh;rw [h0];refine cW (aa (cT (sr ?_)));refine gH [_,_,_] ?_;refine bX hh 0 [_,_,_] ?_;intro ws hh;replace hh : Hp _ (.blk _ _ [_, _, _] _ :: _) _ := hh;refine aa (av (aH ?_));exact Oq
 ·have hs : (iv s a).sign ≠ 0 := by rw [ne_eq, Int.sign_eq_zero_iff_zero]; exact h0
  rw [rD h0];have hz : bN a ≠ 0 := fun h => h0 ((E3 s a).2 h);have htz : tz (bN a) < 8 * a.size + 1 := by
   have := wL a;rw [show (256 : Nat) = 2 ^ 8 from rfl, ← Vu] at this;have := wi hz this;omega
  have hsh : EN (iv s a) (-(tz (bN a) : Int)) = iv s a / 2 ^ tz (bN a) := by
   unfold EN;split
   ·have : tz (bN a) = 0 := Uz;rw [this]; simp
   ·rw [Int.neg_neg, V8]
  refine aj (N := 21) (l := [.agg #[.bool s, .string a], .int .i64 e]) Tryz.func137 rfl rfl (by simp) ?_;refine sr ?_;refine cz hh [_,_] ?_;intro b2 w2 hh;refine bW hh ?_;intro b4 w4 hh;refine aa (ah (sr ?_));refine cE hh 1 [_,_] ?_;refine bD hh (kx s a _) rfl ?_;intro w7 hh;refine cW (aa (cF (ar (ai (sr (bH ?_))))));refine bG hh 1 ?_;refine bD hh (j9 a _ Uz (hT.hp hh)) rfl ?_;intro w12 hh;refine aI (aa (sr ?_));refine cE hh 1 [_,_] (mI ?_);refine yM rfl Uz Uz UA ?_;refine bD hh (pZ s a (-(tz (bN a) : Int)) _ (hT.hp hh) ha Uz Uz) rfl ?_;intro w16 hh;rw [hsh];refine mI (mI ?_);refine bo ?_;refine gH [_,_,_] ?_;exact Lj
def NR.ok (a : NR) : Prop := a.bA.size ≤ 1000000 ∧ -10000000 ≤ a.e ∧ a.e ≤ 10000000
theorem Sz.ok {x : Dyadic} (h : Sz k x) (hk : k ≤ 3999990) : (nR x).ok := by
 have := h.nr;refine ⟨Uz, Uz, Uz⟩
theorem jW (n : Int) (w : World) (hT : eb w) (h1 : -9223372036854775808 ≤ n) (h2 : n ≤ 9223372036854775807) :
  Calls Tryz.prog 50 #[.int .i64 n] w fun r w' => r = .returned (.agg #[.bool (nR (n : Dyadic)).neg, .string (nR (n : Dyadic)).bA, .int .i64 (nR (n : Dyadic)).e]) ∧ Below w.heap.size w w' := by
 have hh := Hp.start w;have hsz : (iM n).size ≤ 100000000 := by
  rw [dR];have : bF n.natAbs ≤ 64 := dy Uz;omega
 have hc : ∀ w1, eb w1 → Calls Tryz.prog 137 #[.agg #[.bool (iN n), .string (iM n)], .int .i64 0] w1 fun r w' => r = .returned (.agg #[.bool (nR (n : Dyadic)).neg, .string (nR (n : Dyadic)).bA, .int .i64 (nR (n : Dyadic)).e]) ∧ Below w1.heap.size w1 w' := fun w1 hT1 => by
  have := iq (iN n) (iM n) 0 w1 hT1 hsz Uz Uz;rw [fB] at this;exact this
 refine aj (N := 6) (l := [.int .i64 n]) Tryz.func50 rfl rfl (by simp) ?_;refine sr ?_;refine bW hh ?_;intro b2 w2 hh;refine aa (sr (mI ?_));refine bD hh (nP n _ h1 h2) rfl ?_;intro w4 hh;refine bD hh (hc _ (hT.hp hh)) rfl ?_;intro w5 hh;exact Lj
theorem eC (a : NR) (w : World) (hT : eb w) (ha : a.bA.size ≤ 100000000) (h1 : -1000000000000 ≤ a.e) (h2 : a.e ≤ 1000000000000) :
  Calls Tryz.prog 132 #[.agg #[.bool a.neg, .string a.bA, .int .i64 a.e]] w fun r w' => r = .returned (.agg #[.bool (nR a.d).neg, .string (nR a.d).bA, .int .i64 (nR a.d).e]) ∧ Below w.heap.size w w' := by
 have hh := Hp.start w;refine aj (N := 8) (l := [.agg #[.bool a.neg, .string a.bA, .int .i64 a.e]]) Tryz.func132 rfl rfl (by simp) ?_;refine sr ?_;refine cz hh [_,_,_] ?_;intro b1 w1 hh;refine bW hh ?_;intro b2 w2 hh;refine aa (sr (bH ?_));refine cE hh 1 [_,_] (bH ?_);refine bG hh 1 ?_;refine bD hh (iq a.neg a.bA a.e _ (hT.hp hh) ha h1 h2) rfl ?_;intro w7 hh;exact Lj
theorem hU (a : NR) (w : World) :
  Calls Tryz.prog 164 #[.agg #[.bool a.neg, .string a.bA, .int .i64 a.e]] w fun r w' => r = .returned (.int .i64 a.i.sign) ∧ Below w.heap.size w w' := by
 have hh := Hp.start w;refine aj (N := 6) (l := [.agg #[.bool a.neg, .string a.bA, .int .i64 a.e]]) Tryz.func164 rfl rfl (by simp) ?_;refine sr ?_;refine cz hh [_,_,_] ?_;intro b1 w1 hh;refine aI (aa (sr (bH ?_)));refine cE hh 0 [_,_] ?_;refine bD hh (kx a.neg a.bA _) rfl ?_;intro w5 hh;exact Bw
theorem oZ (a : NR) (w : World) (hT : eb w) (ha : a.bA.size ≤ 100000000) (h1 : -1000000000000 ≤ a.e) (h2 : a.e ≤ 1000000000000) :
  Calls Tryz.prog 118 #[.agg #[.bool a.neg, .string a.bA, .int .i64 a.e]] w fun r w' => r = .returned (.agg #[.bool (nR (-a.d)).neg, .string (nR (-a.d)).bA, .int .i64 (nR (-a.d)).e]) ∧ Below w.heap.size w w' := by
 have hh := Hp.start w;have hc : ∀ w1, eb w1 → Calls Tryz.prog 137 #[.agg #[.bool (iN (-(iv a.neg a.bA))), .string (iM (-(iv a.neg a.bA)))], .int .i64 a.e] w1 fun r w' => r = .returned (.agg #[.bool (nR (-a.d)).neg, .string (nR (-a.d)).bA, .int .i64 (nR (-a.d)).e]) ∧ Below w1.heap.size w1 w' := fun w1 hT1 => by
  have hs := sx a.neg a.bA;have := iq (iN (-(iv a.neg a.bA))) (iM (-(iv a.neg a.bA))) a.e w1 hT1 Uz h1 h2;rw [fB, ← D3] at this;exact this
 refine aj (N := 9) (l := [.agg #[.bool a.neg, .string a.bA, .int .i64 a.e]]) Tryz.func118 rfl rfl (by simp) ?_;refine sr ?_;refine cz hh [_,_,_] ?_;intro b1 w1 hh;refine bW hh ?_;intro b2 w2 hh;refine aa (ah ?_);refine aZ 5 [[(1, none)], [(3, some 0)], [(4, some 1)], [(1, none)], [(6, some 3)]] [(4, 7), (3, 6), (2, 5), (1, 4), (0, 3)] hh mixed UB ?_;refine ef ?_;refine fS 1 [_,_] ?_;refine dC (fun _ hj => uw a.neg a.bA _) ?_;refine ef ?_;refine gE 1 ?_;refine aT ?_;intro f W hJ hV;have hb_1 := hJ.bl;obtain ⟨v7, v6, v5, v4, v3, _⟩ := hV;replace hh := hJ.hp;refine aY (br (ae v7 (ae v6 (ae v5 (ae v4 (ae v3 aX)))))) ?_;dsimp only [cg];clear hJ;refine bD hh (hc _ (hT.hp hh)) rfl ?_;intro w8 hh;exact Lj
theorem wg (s : Int) (a : NR) (w : World) (hT : eb w) (ha : a.bA.size ≤ 100000000) (h1 : -1000000000 ≤ a.e - s) (h2 : a.e - s ≤ 1000000000) :
  Calls Tryz.prog 194 #[.int .i64 s, .agg #[.bool a.neg, .string a.bA, .int .i64 a.e]] w fun r w' => r = .returned (.agg #[.bool (iN (EN a.i (a.e - s))), .string (iM (EN a.i (a.e - s)))]) ∧ Below w.heap.size w w' := by
 have hh := Hp.start w;refine aj (N := 12) (l := [.int .i64 s, .agg #[.bool a.neg, .string a.bA, .int .i64 a.e]]) Tryz.func194 rfl rfl (by simp) ?_;refine sr ?_;refine cz hh [_,_,_] ?_;intro b3 w3 hh;refine bW hh ?_;intro b4 w4 hh;refine aa (sr (bH ?_));refine cE hh 1 [_,_] (bH ?_);refine bG hh 1 ?_;refine mI ?_;refine dW ?_;refine bD hh (pZ a.neg a.bA (a.e - s) _ (hT.hp hh) ha h1 h2) rfl ?_;intro w11 hh;exact Oi
theorem Ck (x : Dyadic) (p : Int) : EN (nR x).i ((nR x).e - -p) = cQ x p := by
 cases x with
 | zero => exact H0 _
 | ofOdd n k h =>
  simp only [nR, NR.i, fB, cQ];congr 1;omega
theorem kz (x : Dyadic) : nR x = ⟨false, ByteArray.mk #[], 0⟩ ↔ x = 0 := by rw [← lU, Qz]
theorem mN {a : NR} (h : a.ok) : Sz 18000000 a.d ∧ (nR a.d).bA.size ≤ 1000000 ∧ -18000000 ≤ (nR a.d).e ∧ (nR a.d).e ≤ 18000000 := by
 obtain ⟨h1, h2, h3⟩ := h;refine ⟨Sz.raw (m := 8000000) (E := 10000000) Uz Uz Uz, ?_⟩;by_cases h0 : iv a.neg a.bA = 0
 ·rw [NR.d, NR.i, h0, ll, lU];exact ⟨UI _, by simp, by simp⟩
 ·rw [NR.d, NR.i, rD h0];have hz : bN a.bA ≠ 0 := fun h => h0 ((E3 a.neg a.bA).2 h);have htz : tz (bN a.bA) < 8 * a.bA.size + 1 := by
   have := wL a.bA;rw [show (256 : Nat) = 2 ^ 8 from rfl, ← Vu] at this;have := wi hz this;omega
  have hb : bF (iv a.neg a.bA / 2 ^ tz (bN a.bA)).natAbs ≤ 8 * a.bA.size := by
   apply dy;refine VK (Ye _ _) ?_;rw [j6];exact VN (dq _) (Vr Uz (gP _))
  simp only;rw [dR];refine ⟨Uz, Uz, Uz⟩
theorem pC (a b : NR) (w : World) (hT : eb w) (ha : a.ok) (hb : b.ok) :
  Calls Tryz.prog 136 #[.agg #[.bool a.neg, .string a.bA, .int .i64 a.e], .agg #[.bool b.neg, .string b.bA, .int .i64 b.e]] w fun r w' => r = .returned (.agg #[.int .i64 (-(dm a.d b.d)), .bool (iN (cQ a.d (dm a.d b.d))), .string (iM (cQ a.d (dm a.d b.d))), .bool (iN (cQ b.d (dm a.d b.d))), .string (iM (cQ b.d (dm a.d b.d)))]) ∧ Below w.heap.size w w' := by
 have hh := Hp.start w;obtain ⟨ha1, ha2, ha3⟩ := ha;obtain ⟨hb1, hb2, hb3⟩ := hb;obtain ⟨_, fa1, fa2, fa3⟩ := mN (a := a) ⟨ha1, ha2, ha3⟩;obtain ⟨_, fb1, fb2, fb3⟩ := mN (a := b) ⟨hb1, hb2, hb3⟩;have hP := DY a.d b.d 18000000 Uz Uz;have hcx := fun w1 hT1 => wg (-(dm a.d b.d)) (nR a.d) w1 hT1 Uz Uz Uz;have hcy := fun w1 hT1 => wg (-(dm a.d b.d)) (nR b.d) w1 hT1 Uz Uz Uz;rw [Ck] at hcx hcy;by_cases h0 : a.d = 0
 ·have h0' := (kz a.d).2 h0;have hs : (nR b.d).e = -(dm a.d b.d) := by
   rw [h0]
   cases b.d with
   | zero => rfl
   | ofOdd n k h => rfl
  refine II ?_;refine sr ?_;refine cz hh [_,_,_] ?_;intro b2 w2 hh;refine cz hh [_,_,_] ?_;intro b3 w3 hh;refine bW hh ?_;intro b4 w4 hh;refine aa (ah ?_);refine IP ?_;refine fS 2 [_,_,_] ?_;refine I3 ?_;refine fS 1 [_,_,_] ?_;refine aT ?_;intro f W hJ hV;have hb_1 := hJ.bl;obtain ⟨v9, v8, v7, _⟩ := hV;replace hh := hJ.hp;refine aY (br (ae v9 (ae v8 (ae v7 aX)))) ?_;dsimp only [cg];clear hJ;refine bD hh (eC b _ (hT.hp hh) Uz Uz Uz) rfl ?_;intro w10 hh;refine bX hh 2 [_,_,_] ?_;intro ws hh;replace hh : Hp _ (_ :: _ :: .blk _ _ [_, _, _] _ :: _) _ := hh;refine bX hh 1 [_,_,_] ?_;intro ws hh;replace hh : Hp _ (_ :: .blk _ _ [_, _, _] _ :: _) _ := hh;refine aa (sr (bH ?_));refine bG hh 2 ?_;refine bH ?_;refine bG hh 1 ?_;refine wN rfl rfl UA ?_;refine aI (aa (ah (aq (sr ?_))));refine cE hh 2 [_,_,_] ?_;refine gH [_,_,_] ?_;refine EA rfl rfl (by first | assumption | rfl) UA ?_;refine aB (aa (cT (ao (bH ?_))));refine bG hh 1 ?_;refine aI (aC (bE (ai (sr ?_))));exact Tm
 ·have h0' : ¬ nR a.d = ⟨false, ByteArray.mk #[], 0⟩ := fun h => h0 ((kz _).1 h);by_cases h1 : b.d = 0
  ·have h1' := (kz b.d).2 h1;have hs : (nR a.d).e = -(dm a.d b.d) := by
    rw [h1]
    cases a.d with
    | zero => rfl
    | ofOdd n k h => rfl
   refine II ?_;refine sr ?_;refine cz hh [_,_,_] ?_;intro b2 w2 hh;refine cz hh [_,_,_] ?_;intro b3 w3 hh;refine bW hh ?_;intro b4 w4 hh;refine aa (ah ?_);refine IP ?_;refine fS 2 [_,_,_] ?_;refine I3 ?_;refine fS 1 [_,_,_] ?_;refine aT ?_;intro f W hJ hV;have hb_1 := hJ.bl;obtain ⟨v9, v8, v7, _⟩ := hV;replace hh := hJ.hp;refine aY (br (ae v9 (ae v8 (ae v7 aX)))) ?_;dsimp only [cg];clear hJ;refine bD hh (eC b _ (hT.hp hh) Uz Uz Uz) rfl ?_;intro w10 hh;refine bX hh 2 [_,_,_] ?_;intro ws hh;replace hh : Hp _ (_ :: _ :: .blk _ _ [_, _, _] _ :: _) _ := hh;refine bX hh 1 [_,_,_] ?_;intro ws hh;replace hh : Hp _ (_ :: .blk _ _ [_, _, _] _ :: _) _ := hh;refine aa (sr (bH ?_));refine bG hh 2 ?_;refine bH ?_;refine bG hh 1 ?_;refine wN rfl rfl UA ?_;refine aI (aa (ah (aq (sr ?_))));refine cE hh 2 [_,_,_] ?_;refine gH [_,_,_] ?_;refine xY rfl rfl (by assumption) UA ?_;refine aB (aa (cF (sr ?_)));refine cE hh 1 [_,_,_] ?_;refine gH [_,_,_] ?_;refine EA rfl rfl (by first | assumption | rfl) UA ?_;refine aB (aa (cT (ao (bH ?_))));refine bG hh 2 ?_;refine aI (aC (bE (ai (sr ?_))));exact Tm
  ·have h1' : ¬ nR b.d = ⟨false, ByteArray.mk #[], 0⟩ := fun h => h1 ((kz _).1 h);have hs : (if (nR b.d).e < (nR a.d).e then (nR b.d).e else (nR a.d).e) = -(dm a.d b.d) := by
    revert h0 h1
    cases a.d with
    | zero => intro h; exact absurd rfl h
    | ofOdd n k h =>
     cases b.d with
     | zero => intro _ h; exact absurd rfl h
     | ofOdd m l g =>
      intro _ _;simp only [nR, dm];omega
   refine II ?_;refine sr ?_;refine cz hh [_,_,_] ?_;intro b2 w2 hh;refine cz hh [_,_,_] ?_;intro b3 w3 hh;refine bW hh ?_;intro b4 w4 hh;refine aa (ah ?_);refine IP ?_;refine fS 2 [_,_,_] ?_;refine I3 ?_;refine fS 1 [_,_,_] ?_;refine aT ?_;intro f W hJ hV;have hb_1 := hJ.bl;obtain ⟨v9, v8, v7, _⟩ := hV;replace hh := hJ.hp;refine aY (br (ae v9 (ae v8 (ae v7 aX)))) ?_;dsimp only [cg];clear hJ;refine bD hh (eC b _ (hT.hp hh) Uz Uz Uz) rfl ?_;intro w10 hh;refine bX hh 2 [_,_,_] ?_;intro ws hh;replace hh : Hp _ (_ :: _ :: .blk _ _ [_, _, _] _ :: _) _ := hh;refine bX hh 1 [_,_,_] ?_;intro ws hh;replace hh : Hp _ (_ :: .blk _ _ [_, _, _] _ :: _) _ := hh;refine aa (sr (bH ?_));refine bG hh 2 ?_;refine bH ?_;refine bG hh 1 ?_;refine wN rfl rfl UA ?_;refine aI (aa (ah (aq (sr ?_))));refine cE hh 2 [_,_,_] ?_;refine gH [_,_,_] ?_;refine xY rfl rfl (by assumption) UA ?_;refine aB (aa (cF (sr ?_)));refine cE hh 1 [_,_,_] ?_;refine gH [_,_,_] ?_;refine xY rfl rfl (by assumption) UA ?_;refine aB (aa (cF (ar (bE (ai (sr ?_))))));exact Tm
end
def lH (x y : Dyadic) : Int := if x < y then -1 else if y < x then 1 else 0
theorem zh (i j p : Int) : (i - j).sign = lH (Dyadic.ofIntWithPrec i p) (Dyadic.ofIntWithPrec j p) := by
 unfold lH;simp only [tT]
 rcases XD i j with h | h | h
 ·rw [UF h, Wh Uz]
 ·subst h; simp
 ·rw [UE Uz, UF h, Wg Uz]
theorem Ci (i p : Int) : i.sign = lH (Dyadic.ofIntWithPrec i p) 0 := by
 have := zh i 0 p;rwa [Int.sub_zero, ll] at this
theorem NR.sign (a : NR) : a.i.sign = lH a.d 0 := Ci _ _
theorem Bg (x y : Dyadic) : (cQ x (dm x y) - cQ y (dm x y)).sign = lH x y := by
 rw [zh _ _ (dm x y), KO, Jz]
theorem Ga (X Y : Int) (h : X.sign ≠ Y.sign) : (if (if X.sign - Y.sign < 1 then X.sign - Y.sign else 1) > -1 then (if X.sign - Y.sign < 1 then X.sign - Y.sign else 1) else -1) = (X - Y).sign := by
 rcases XD X 0 with hx | hx | hx <;> rcases XD Y 0 with hy | hy | hy
 ·rw [Wh hx, Wh hy] at h; omega
 ·rw [Wh hx, hy, Int.sub_zero, Wh hx]; simp
 ·rw [Wh hx, Wg hy, Wh Uz]; simp
 ·subst hx; rw [Int.sign_zero, Wh hy, Wg (a := 0 - Y) Uz]; simp
 ·rw [hx, hy] at h; omega
 ·subst hx; rw [Int.sign_zero, Wg hy, Wh (a := 0 - Y) Uz]; simp
 ·rw [Wg hx, Wh hy, Wg Uz]; simp
 ·rw [Wg hx, hy, Int.sub_zero, Wg hx]; simp
 ·rw [Wg hx, Wg hy] at h; omega
theorem qX {a b : NR} (ha : a.ok) (hb : b.ok) : (iM (cQ a.d (dm a.d b.d))).size ≤ 6000000 ∧ (iM (cQ b.d (dm a.d b.d))).size ≤ 6000000 ∧ -18000000 ≤ dm a.d b.d ∧ dm a.d b.d ≤ 18000000 := by
 obtain ⟨_, fa1, fa2, fa3⟩ := mN ha;obtain ⟨_, fb1, fb2, fb3⟩ := mN hb;have hP := DY a.d b.d 18000000 Uz Uz;have h1 := vj a.d (dm a.d b.d);have h2 := vj b.d (dm a.d b.d);rw [dR, dR];refine ⟨Uz, Uz, hP.1, hP.2⟩
theorem D0 (i : Int) : -1 ≤ i.sign ∧ i.sign ≤ 1 := by
 rcases XD i 0 with h | h | h
 ·rw [Wh h]; omega
 ·rw [h]; simp
 ·rw [Wg h]; omega
theorem oQ (a b : NR) (w : World) (hT : eb w) (ha : a.ok) (hb : b.ok) :
  Calls Tryz.prog 184 #[.agg #[.bool a.neg, .string a.bA, .int .i64 a.e], .agg #[.bool b.neg, .string b.bA, .int .i64 b.e]] w fun r w' => r = .returned (.int .i64 (lH a.d b.d)) ∧ Below w.heap.size w w' := by
 have hh := Hp.start w;obtain ⟨hs1, hs2, _⟩ := qX ha hb;have hsa : a.i.sign = (cQ a.d (dm a.d b.d)).sign := by rw [NR.sign, Ci _ (dm a.d b.d), KO]
 have hsb : b.i.sign = (cQ b.d (dm a.d b.d)).sign := by rw [NR.sign, Ci _ (dm a.d b.d), Jz]
 have hba := D0 a.i;have hbb := D0 b.i;by_cases hne : a.i.sign = b.i.sign
 ·refine OR ?_;refine sr ?_;refine cz hh [_,_,_] ?_;intro b2 w2 hh;refine cz hh [_,_,_] ?_;intro b3 w3 hh;refine aI (aa (ah (ah ?_)));refine aZ 3 [[(2, none)], [(8, some 0)], [(3, none)]] [(2, 10), (1, 9), (0, 8)] hh mixed UB ?_;refine fS 1 [_,_,_] ?_;refine dC (fun _ hj => hU a _) ?_;refine fS 0 [_,_,_] ?_;refine aT ?_;intro f W hJ hV;have hb_1 := hJ.bl;obtain ⟨v10, v9, v8, _⟩ := hV;replace hh := hJ.hp;refine aY (br (ae v10 (ae v9 (ae v8 aX)))) ?_;dsimp only [cg];clear hJ;refine bD hh (hU b _) rfl ?_;intro w11 hh;refine aI (aI (aa (sr (mI (mI ?_)))));refine wV ?_;refine cE hh 1 [_,_,_] ?_;refine cE hh 0 [_,_,_] ?_;refine bD hh (pC a b _ (hT.hp hh) ha hb) rfl ?_;intro w22 hh;refine bW hh ?_;intro b7 w7 hh;refine bX hh 0 [_,_,_,_,_] ?_;intro ws hh;replace hh : Hp _ (.blk _ _ [_, _, _, _, _] _ :: _) _ := hh;refine aa (sr (bH ?_));refine cE hh 0 [_,_] (bH ?_);refine cE hh 0 [_,_] ?_;refine bD hh (Dz _ _ _ _ _ Uz Uz) rfl ?_;intro w27 hh;rw [fB, fB, Bg];exact Bw
 ·refine OR ?_;refine sr ?_;refine cz hh [_,_,_] ?_;intro b2 w2 hh;refine cz hh [_,_,_] ?_;intro b3 w3 hh;refine aI (aa (ah (ah ?_)));refine aZ 3 [[(2, none)], [(8, some 0)], [(3, none)]] [(2, 10), (1, 9), (0, 8)] hh mixed UB ?_;refine fS 1 [_,_,_] ?_;refine dC (fun _ hj => hU a _) ?_;refine fS 0 [_,_,_] ?_;refine aT ?_;intro f W hJ hV;have hb_1 := hJ.bl;obtain ⟨v10, v9, v8, _⟩ := hV;replace hh := hJ.hp;refine aY (br (ae v10 (ae v9 (ae v8 aX)))) ?_;dsimp only [cg];clear hJ;refine bD hh (hU b _) rfl ?_;intro w11 hh;refine aI (aI (aa (sr (mI (mI ?_)))));refine dk (aa (cT (sr (mI (mI ?_)))));refine dW ?_;refine wN rfl rfl UA ?_;refine lv rfl rfl UA ?_;refine aI (aa (av (aH ?_)));refine de ?_;refine ⟨?_, hh.below⟩;rw [hsa, hsb] at hne;rw [hsa, hsb, ← Bg a.d b.d, ← Ga _ _ hne]
def pf (n : Int) : Dyadic := Dyadic.ofIntWithPrec 1 (-n)
theorem Ls (i p n : Int) : Dyadic.ofIntWithPrec i (p - n) = Dyadic.ofIntWithPrec i p * pf n := by
 rw [pf, te, Int.mul_one]; rfl
def mA : List Dyadic → Dyadic := fun l => l.foldl (· + ·) 0
theorem wM (l : List Dyadic) (x : Dyadic) : mA (l ++ [x]) = mA l + x := by simp [mA]
theorem Sz.sum {l : List Dyadic} (h : ∀ x ∈ l, Sz k x) : Sz (k + l.length) (mA l) := by
 have : ∀ (n : Nat), n ≤ l.length → Sz (k + n) (mA (l.take n)) := by
  intro n
  induction n with
  | zero => intro _; exact Sz.zero _
  | succ n ih =>
   intro hn;obtain ⟨x, hx⟩ := ak (l := l) (k := n) Uz;rw [ay hx, wM];exact (ih Uz).add ((h x (UJ hx)).mono Uz)
 have h2 := this l.length (UH _);rwa [Xy] at h2
theorem tL (a b : NR) (w : World) (hT : eb w) (ha : a.ok) (hb : b.ok) :
  Calls Tryz.prog 137 #[.agg #[.bool (iN (cQ a.d (dm a.d b.d) + cQ b.d (dm a.d b.d))), .string (iM (cQ a.d (dm a.d b.d) + cQ b.d (dm a.d b.d)))], .int .i64 (-(dm a.d b.d))] w fun r w' => r = .returned (.agg #[.bool (nR (a.d + b.d)).neg, .string (nR (a.d + b.d)).bA, .int .i64 (nR (a.d + b.d)).e]) ∧ Below w.heap.size w w' := by
 obtain ⟨hs1, hs2, hP1, hP2⟩ := qX ha hb;rw [dR] at hs1 hs2;have h3 := pW (cQ a.d (dm a.d b.d)) (cQ b.d (dm a.d b.d));have := iq (iN (cQ a.d (dm a.d b.d) + cQ b.d (dm a.d b.d))) (iM (cQ a.d (dm a.d b.d) + cQ b.d (dm a.d b.d))) (-(dm a.d b.d)) w hT (by rw [dR]; omega) Uz Uz;rw [fB, Int.neg_neg, Lo] at this;exact this
theorem jd (L : Option Addr) (n c : Nat) (l : List NR) (w : World) (hT : eb w) (hS : Sl w L n 3 (az NR.cells l)) (hl : ∀ a ∈ l, a.ok) (k : Nat) (hk : ∀ a ∈ l, Sz k a.d) (hkn : k + n ≤ 3999990) :
  Calls Tryz.prog 47 #[.slice L n c] w fun r w' => r = .returned (.agg #[.bool (nR (mA (l.map NR.d))).neg, .string (nR (mA (l.map NR.d))).bA, .int .i64 (nR (mA (l.map NR.d))).e]) ∧ Below w.heap.size w w' := by
 have hln := hS.bq NR.len Uz;have hh := Hp.start w;refine aj (N := 27) (l := [.slice L n c]) Tryz.func47 rfl rfl (by simp) ?_;refine sr ?_;refine bW hh ?_;intro b2 w2 hh;refine aa (sr ?_);refine bW hh ?_;intro b3 w3 hh;refine vX ?_;refine aR [5, 6, 9, 10, 11, 12, 13, 14, 15, 16, 17, 18, 19, 20, 21, 22, 23, 24, 25] 9
  (fun j w' => ∃ (i : Nat) (S : Dyadic), i ≤ n ∧ j = .int .i64 i ∧ S = mA ((l.take i).map NR.d) ∧ Hp w [.blk b3 65 [.bool (nR S).neg, .string (nR S).bA, .int .i64 (nR S).e] (0, 0), .blk b2 65 [.bool false, .string (ByteArray.mk #[]), .int .i64 0] (0, 0)] w')
  (fun j _ => n - (intOf j).toNat) ?_ ?_
 ·exact ⟨0, 0, UI _, rfl, rfl, hh⟩
 ·clear hh;rintro ρ' j w' ⟨i, S, hi, rfl, hS2, hh⟩;by_cases hlt : i < n
  ·obtain ⟨x, hx⟩ := ak (l := l) (k := i) Uz;obtain ⟨ad, rfl, hr⟩ := hS.at_ Uz;have hxm := UJ hx;have hS3 : mA ((l.take (i + 1)).map NR.d) = S + x.d := by rw [ay hx, VC, Xk, wM, hS2]
   have hSz : Sz (k + i) S := by
    rw [hS2];have := Sz.sum (k := k) (l := (l.take i).map NR.d) (fun y hy => by
     obtain ⟨a, ha, rfl⟩ := UY.1 hy;exact hk a (WX ha))
    rw [US, U6, VM Uz] at this;exact this
   have hSo := hSz.ok Uz;have hlc := fun w1 hT1 => pC (nR S) x w1 hT1 hSo (hl x hxm);have hmc := fun w1 hT1 => tL (nR S) x w1 hT1 hSo (hl x hxm);obtain ⟨hs1, hs2, _⟩ := qX hSo (hl x hxm);rw [bY] at hlc hmc hs1 hs2;have e1 : ([iR (cQ S (dm S x.d)), iR (cQ x.d (dm S x.d))].map IR.v).sum = cQ S (dm S x.d) + cQ x.d (dm S x.d) := by
    simp only [U9, VD, List.sum_cons, List.sum_nil, RM]; omega
   have hac : ∀ (A : Option Addr) (cc : Nat) (w1 : World), Sl w1 A 2 2 (az IR.cells [iR (cQ S (dm S x.d)), iR (cQ x.d (dm S x.d))]) → Calls Tryz.prog 138 #[.slice A 2 cc] w1 fun e w' => e = .returned (.agg #[.bool (iN (cQ S (dm S x.d) + cQ x.d (dm S x.d))), .string (iM (cQ S (dm S x.d) + cQ x.d (dm S x.d)))]) ∧ Below w1.heap.size w1 w' := fun A cc w1 hsl => by
    have := vn A 2 cc [iR (cQ S (dm S x.d)), iR (cQ x.d (dm S x.d))] w1 hsl Uz (by simp [iR]; omega);rw [e1] at this;exact this
   refine sr ?_;refine dH ?_;refine ct ?_;refine D4 ?_;refine bW hh ?_;intro b5 w5 hh;refine bX hh 0 [_,_,_] ?_;intro ws hh;replace hh : Hp _ (.blk _ _ [_, _, _] _ :: _) _ := hh;refine aa (sr ?_);refine cE hh 1 [_,_,_] ?_;refine cE hh 0 [_,_,_] ?_;refine bD hh (hlc _ (hT.hp hh)) rfl ?_;intro w15 hh;refine bW hh ?_;intro b6 w6 hh;refine bX hh 0 [_,_,_,_,_] ?_;intro ws hh;replace hh : Hp _ (.blk _ _ [_, _, _, _, _] _ :: _) _ := hh;refine aa ?_;refine aZ 8 [[(6, none)], [(16, some 0)], [(6, none)], [(18, some 2)], [(17, some 1), (19, some 3)], [(20, some 4)], [(6, none)], [(22, some 6)]] [(7, 23), (6, 22), (5, 21), (4, 20), (3, 19), (2, 18), (1, 17), (0, 16)] hh mixed UB ?_;refine ef ?_;refine fS 0 [_,_] ?_;refine ef ?_;refine fS 0 [_,_] ?_;refine sA [_,_,_,_] ?_;refine aP (i := 5) (Is (.agg #[.bool (iN (cQ S (dm S x.d) + cQ x.d (dm S x.d))), .string (iM (cQ S (dm S x.d) + cQ x.d (dm S x.d)))])) Is.ext ?_ ?_
   ·intro ρ1 w1 hj hR;obtain ⟨A20, c20, h20, s20⟩ := hR.1;exact a7 rfl (aK al.out (aw h20 aW)) (hac A20 c20 _ s20) (fun _ _ hq => ⟨_, hq.1, hq.2, rfl⟩)
   refine ef ?_;refine gE 0 ?_;refine aT ?_;intro f W hJ hV;have hb_6 := hJ.bl;obtain ⟨v23, v22, v21, v20, v19, v18, v17, v16, _⟩ := hV;obtain ⟨A20, c20, e20, f20⟩ : Rows _ _ _ (f 4) W := v20;replace hh := hJ.hp;refine aY (br (ae v23 (ae v22 (ae v21 (ae e20 (ae v19 (ae v18 (ae v17 (ae v16 aX))))))))) ?_;dsimp only [cg];clear e20 hJ;refine bD hh (hmc _ (hT.hp hh)) rfl ?_;intro w24 hh;refine bX hh 2 [_,_,_] ?_;intro ws hh;replace hh : Hp _ (_ :: _ :: .blk _ _ [_, _, _] _ :: _) _ := hh;refine fV ?_;refine bo (mI (aC (ai ?_)));replace hh := hh.sub ((Vs _ _).trans (Vs _ _));exact NC
  ·exact Rg
theorem k0 (x y : Dyadic) : mA [x, y] = x + y := by
 show (0 + x) + y = x + y;rw [WH]
theorem j5 (a b : NR) (w : World) (hT : eb w) (ha : a.ok) (hb : b.ok) (k : Nat) (hka : Sz k a.d) (hkb : Sz k b.d) (hk : k ≤ 3999980) :
  Calls Tryz.prog 52 #[.agg #[.bool a.neg, .string a.bA, .int .i64 a.e], .agg #[.bool b.neg, .string b.bA, .int .i64 b.e]] w fun r w' => r = .returned (.agg #[.bool (nR (a.d - b.d)).neg, .string (nR (a.d - b.d)).bA, .int .i64 (nR (a.d - b.d)).e]) ∧ Below w.heap.size w w' := by
 have hh := Hp.start w;obtain ⟨hb1, hb2, hb3⟩ := hb;have e1 : mA ([a, nR (-b.d)].map NR.d) = a.d - b.d := by
  simp only [U9, VD, bY, k0]; rfl
 have hac : ∀ (A : Option Addr) (cc : Nat) (w1 : World), eb w1 → Sl w1 A 2 3 (az NR.cells [a, nR (-b.d)]) → Calls Tryz.prog 47 #[.slice A 2 cc] w1 fun r w' => r = .returned (.agg #[.bool (nR (a.d - b.d)).neg, .string (nR (a.d - b.d)).bA, .int .i64 (nR (a.d - b.d)).e]) ∧ Below w1.heap.size w1 w' := fun A cc w1 hT1 hsl => by
  have := jd A 2 cc [a, nR (-b.d)] w1 hT1 hsl (by simpa using ⟨ha, hkb.neg.ok Uz⟩) k (by simpa [bY] using ⟨hka, hkb.neg⟩) Uz;rw [e1] at this;exact this
 refine aj (N := 10) (l := [.agg #[.bool a.neg, .string a.bA, .int .i64 a.e], .agg #[.bool b.neg, .string b.bA, .int .i64 b.e]]) Tryz.func52 rfl rfl (by simp) ?_;refine sr ?_;refine cz hh [_,_,_] ?_;intro b2 w2 hh;refine cz hh [_,_,_] ?_;intro b3 w3 hh;refine bW hh ?_;intro b4 w4 hh;refine aa (ah ?_);refine aZ 3 [[(2, none)], [(3, none)], [(6, some 1)]] [(2, 7), (1, 6), (0, 5)] hh mixed UB ?_;refine fS 2 [_,_,_] ?_;refine fS 1 [_,_,_] ?_;refine dC (fun _ hj => oZ b _ (hT.hp hj.hp) Uz Uz Uz) ?_;refine aT ?_;intro f W hJ hV;have hb_1 := hJ.bl;obtain ⟨v7, v6, v5, _⟩ := hV;replace hh := hJ.hp;refine aY (br (ae v7 (ae v6 (ae v5 aX)))) ?_;dsimp only [cg];clear hJ;refine xr ?_;intro b8 w8 hh;refine bD hh (hac _ _ _ (hT.hp hh) (hh.aA (i := 0) rfl)) rfl ?_;intro w9 hh;exact P2
def ik : List Dyadic → Dyadic := fun l => l.foldl (· * ·) 1
theorem tJ (l : List Dyadic) (x : Dyadic) : ik (l ++ [x]) = ik l * x := by simp [ik]
theorem Sz.one : Sz 1 1 := ⟨2, by decide +kernel, UA⟩
theorem Sz.prod {l : List Dyadic} (h : ∀ x ∈ l, Sz k x) : Sz (1 + k * l.length) (ik l) := by
 have : ∀ (n : Nat), n ≤ l.length → Sz (1 + k * n) (ik (l.take n)) := by
  intro n
  induction n with
  | zero => intro _; exact Sz.one
  | succ n ih =>
   intro hn;obtain ⟨x, hx⟩ := ak (l := l) (k := n) Uz;rw [ay hx, tJ];exact ((ih Uz).mul (h x (UJ hx))).mono (by rw [Wf]; omega)
 have h2 := this l.length (UH _);rwa [Xy] at h2
theorem eK (L : Option Addr) (n c : Nat) (l : List NR) (w : World) (hT : eb w) (hS : Sl w L n 3 (az NR.cells l)) (hl : ∀ a ∈ l, a.ok) (k : Nat) (hk : ∀ a ∈ l, Sz k a.d) (hkn : k * n ≤ 3999980) (hn : n ≤ 1000000) :
  Calls Tryz.prog 48 #[.slice L n c] w fun r w' => r = .returned (.agg #[.bool (nR (ik (l.map NR.d))).neg, .string (nR (ik (l.map NR.d))).bA, .int .i64 (nR (ik (l.map NR.d))).e]) ∧ Below w.heap.size w w' := by
 have hln := hS.bq NR.len Uz;have hh := Hp.start w;refine aj (N := 27) (l := [.slice L n c]) Tryz.func48 rfl rfl (by simp) ?_;refine sr ?_;refine bW hh ?_;intro b2 w2 hh;refine aa (sr ?_);refine AA ?_;intro w6 hh;refine bW hh ?_;intro b3 w3 hh;refine bX hh 0 [_,_,_] ?_;intro ws hh;replace hh : Hp _ (.blk _ _ [_, _, _] _ :: _) _ := hh;refine vX ?_;refine aR [5, 9, 10, 11, 12, 13, 14, 15, 16, 17, 18, 19, 20, 21, 22, 23, 24, 25] 9
  (fun j w' => ∃ (i : Nat) (S : Dyadic), i ≤ n ∧ j = .int .i64 i ∧ S = ik ((l.take i).map NR.d) ∧ Hp w [.blk b3 65 [.bool (nR S).neg, .string (nR S).bA, .int .i64 (nR S).e] (0, 0), .blk b2 65 [.bool false, .string (ByteArray.mk #[]), .int .i64 0] (0, 0)] w')
  (fun j _ => n - (intOf j).toNat) ?_ ?_
 ·exact ⟨0, _, UI _, rfl, rfl, hh⟩
 ·clear hh;rintro ρ' j w' ⟨i, S, hi, rfl, hS2, hh⟩;by_cases hlt : i < n
  ·obtain ⟨x, hx⟩ := ak (l := l) (k := i) Uz;obtain ⟨ad, rfl, hr⟩ := hS.at_ Uz;have hxm := UJ hx;have hS3 : ik ((l.take (i + 1)).map NR.d) = S * x.d := by rw [ay hx, VC, Xk, tJ, hS2]
   have hSz : Sz (1 + k * i) S := by
    rw [hS2];have := Sz.prod (k := k) (l := (l.take i).map NR.d) (fun y hy => by
     obtain ⟨a, ha, rfl⟩ := UY.1 hy;exact hk a (WX ha))
    rw [US, U6, VM Uz] at this;exact this
   have hki : k * i ≤ k * n := Vm _ hi;obtain ⟨so1, so2, so3⟩ := hSz.ok Uz;obtain ⟨xo1, xo2, xo3⟩ := hl x hxm;have e1 : mY ([IR.mk (nR S).neg (nR S).bA, IR.mk x.neg x.bA].map IR.v) = (nR S).i * x.i := by
    simp only [U9, VD, mY, Int.mul_one]; rfl
   have e2 : Dyadic.ofIntWithPrec ((nR S).i * x.i) (-((nR S).e + x.e)) = S * x.d := by
    have := te (nR S).i x.i (-(nR S).e) (-x.e);rw [Int.neg_add, ← this];congr 1;exact bY S
   have hac : ∀ (A : Option Addr) (cc : Nat) (w1 : World), Sl w1 A 2 2 (az IR.cells [IR.mk (nR S).neg (nR S).bA, IR.mk x.neg x.bA]) → Calls Tryz.prog 139 #[.slice A 2 cc] w1 fun e w' => e = .returned (.agg #[.bool (iN ((nR S).i * x.i)), .string (iM ((nR S).i * x.i))]) ∧ Below w1.heap.size w1 w' := fun A cc w1 hsl => by
    have := C6 A 2 cc [IR.mk (nR S).neg (nR S).bA, IR.mk x.neg x.bA] w1 hsl Uz (by simp; omega);rw [e1] at this;exact this
   have hmc : ∀ w1, eb w1 → Calls Tryz.prog 137 #[.agg #[.bool (iN ((nR S).i * x.i)), .string (iM ((nR S).i * x.i))], .int .i64 ((nR S).e + x.e)] w1 fun r w' => r = .returned (.agg #[.bool (nR (S * x.d)).neg, .string (nR (S * x.d)).bA, .int .i64 (nR (S * x.d)).e]) ∧ Below w1.heap.size w1 w' := fun w1 hT1 => by
    have hb1 := kC (nR S).neg (nR S).bA;have hb2 := kC x.neg x.bA;have hb3 := lW (nR S).i x.i;have := iq (iN ((nR S).i * x.i)) (iM ((nR S).i * x.i)) ((nR S).e + x.e) w1 hT1 (by rw [dR]; unfold NR.i at hb3 ⊢; omega) Uz Uz;rw [fB, e2] at this;exact this
   refine sr ?_;refine dH ?_;refine ct ?_;refine D4 ?_;refine bW hh ?_;intro b5 w5 hh;refine bX hh 0 [_,_,_] ?_;intro ws hh;replace hh : Hp _ (.blk _ _ [_, _, _] _ :: _) _ := hh;refine aa ?_;refine aZ 11 [[(3, none)], [(13, some 0)], [(5, none)], [(15, some 2)], [(14, some 1), (16, some 3)], [(17, some 4)], [(3, none)], [(19, some 6)], [(5, none)], [(21, some 8)], [(20, some 7), (22, some 9)]] [(10, 23), (9, 22), (8, 21), (7, 20), (6, 19), (5, 18), (4, 17), (3, 16), (2, 15), (1, 14), (0, 13)] hh mixed UB ?_;refine ef ?_;refine fS 1 [_,_] ?_;refine ef ?_;refine fS 0 [_,_] ?_;refine sA [_,_,_,_] ?_;refine aP (i := 5) (Is (.agg #[.bool (iN ((nR S).i * x.i)), .string (iM ((nR S).i * x.i))])) Is.ext ?_ ?_
   ·intro ρ1 w1 hj hR;obtain ⟨A17, c17, h17, s17⟩ := hR.1;exact a7 rfl (aK al.out (aw h17 aW)) (hac A17 c17 _ s17) (fun _ _ hq => ⟨_, hq.1, hq.2, rfl⟩)
   refine ef ?_;refine gE 1 ?_;refine ef ?_;refine gE 0 ?_;refine sG ?_;refine aT ?_;intro f W hJ hV;have hb_5 := hJ.bl;obtain ⟨v23, v22, v21, v20, v19, v18, v17, v16, v15, v14, v13, _⟩ := hV;obtain ⟨A17, c17, e17, f17⟩ : Rows _ _ _ (f 4) W := v17;replace hh := hJ.hp;refine aY (br (ae v23 (ae v22 (ae v21 (ae v20 (ae v19 (ae v18 (ae e17 (ae v16 (ae v15 (ae v14 (ae v13 aX)))))))))))) ?_;dsimp only [cg];clear e17 hJ;refine bD hh (hmc _ (hT.hp hh)) rfl ?_;intro w24 hh;refine bX hh 1 [_,_,_] ?_;intro ws hh;replace hh : Hp _ (_ :: .blk _ _ [_, _, _] _ :: _) _ := hh;refine fV ?_;refine bo (mI (aC (ai ?_)));replace hh := hh.sub (Vs _ _);exact NC
  ·exact Rg
theorem K4 (i p : Int) (n : Nat) : Dyadic.ofIntWithPrec i p ^ n = Dyadic.ofIntWithPrec (i ^ n) (p * n) := by
 induction n with
 | zero => rw [W4]; simp; rfl
 | succ n ih => rw [Xp, ih, te, Int.pow_succ, WE, Int.mul_add]; simp
theorem Sq (i p : Int) : (nR (Dyadic.ofIntWithPrec i p)).bA.size ≤ (bF i.natAbs + 7) / 8 ∧ (i = 0 ∨ -p ≤ (nR (Dyadic.ofIntWithPrec i p)).e ∧ (nR (Dyadic.ofIntWithPrec i p)).e ≤ -p + bF i.natAbs) ∧ (i = 0 → (nR (Dyadic.ofIntWithPrec i p)).e = 0) := by
 by_cases h0 : i = 0
 ·subst h0;rw [ll, lU];exact ⟨UI _, .inl rfl, fun _ => rfl⟩
 ·have h2 := lg h0;rw [xR h0, nR];simp only;refine ⟨?_, .inr ⟨Uz, ?_⟩, fun h => absurd h h0⟩
  ·rw [dR];have : bF (i >>> i.trailingZeros).natAbs ≤ bF i.natAbs := by
    apply dy;refine VK ?_ (dq _);rw [Int.shiftRight_eq_div_pow];exact Ye _ _
   omega
  ·have h3 : 2 ^ i.trailingZeros < 2 ^ bF i.natAbs := VK h2 (dq _);have := (X9 Uz).1 h3;omega
theorem uJ (a : NR) (n : Int) (w : World) (hT : eb w) (ha : a.ok) (hs : n.toNat * a.bA.size ≤ 1000000) (hn : n ≤ 1000) :
  Calls Tryz.prog 51 #[.agg #[.bool a.neg, .string a.bA, .int .i64 a.e], .int .i64 n] w fun r w' => r = .returned (.agg #[.bool (nR (a.d ^ n.toNat)).neg, .string (nR (a.d ^ n.toNat)).bA, .int .i64 (nR (a.d ^ n.toNat)).e]) ∧ Below w.heap.size w w' := by
 have hh := Hp.start w;obtain ⟨ha1, ha2, ha3⟩ := ha;obtain ⟨_, fa1, fa2, fa3⟩ := mN (a := a) ⟨ha1, ha2, ha3⟩;have hsz : (nR a.d).bA.size ≤ a.bA.size := by
  have := (Sq a.i (-a.e)).1;have h2 := kC a.neg a.bA;unfold NR.d NR.i at *;omega
 have hms : n.toNat * (nR a.d).bA.size ≤ n.toNat * a.bA.size := Vm _ hsz;have e1 : (if (0 : Int) > n then 0 else n) = (n.toNat : Int) := by split <;> omega
 have hm : n.toNat ≤ 1000 := Uz;have hlo : -18000000 * 1000 ≤ (nR a.d).e * (n.toNat : Int) := by
  have h1 : (-18000000 : Int) * n.toNat ≤ (nR a.d).e * n.toNat := Int.mul_le_mul_of_nonneg_right fa2 Uz;omega
 have hhi : (nR a.d).e * (n.toNat : Int) ≤ 18000000 * 1000 := by
  have h1 : (nR a.d).e * n.toNat ≤ (18000000 : Int) * n.toNat := Int.mul_le_mul_of_nonneg_right fa3 Uz;omega
 have hpc := fun w1 => Co (nR a.d).neg (nR a.d).bA n w1 Uz Uz Uz;have hmc : ∀ w1, eb w1 → Calls Tryz.prog 137 #[.agg #[.bool (iN (iv (nR a.d).neg (nR a.d).bA ^ n.toNat)), .string (iM (iv (nR a.d).neg (nR a.d).bA ^ n.toNat))], .int .i64 ((nR a.d).e * (n.toNat : Int))] w1 fun r w' => r = .returned (.agg #[.bool (nR (a.d ^ n.toNat)).neg, .string (nR (a.d ^ n.toNat)).bA, .int .i64 (nR (a.d ^ n.toNat)).e]) ∧ Below w1.heap.size w1 w' := fun w1 hT1 => by
  have hb := pd (iv (nR a.d).neg (nR a.d).bA) n.toNat;have hb2 := kC (nR a.d).neg (nR a.d).bA;have hb3 : n.toNat * bF (iv (nR a.d).neg (nR a.d).bA).natAbs ≤ n.toNat * (8 * (nR a.d).bA.size) := Vm _ hb2;rw [X1] at hb3;have := iq (iN (iv (nR a.d).neg (nR a.d).bA ^ n.toNat)) (iM (iv (nR a.d).neg (nR a.d).bA ^ n.toNat)) ((nR a.d).e * (n.toNat : Int)) w1 hT1 (by rw [dR]; omega) Uz Uz;have e2 : Dyadic.ofIntWithPrec (iv (nR a.d).neg (nR a.d).bA ^ n.toNat) (-((nR a.d).e * (n.toNat : Int))) = a.d ^ n.toNat := by
   have h3 := bY a.d
   conv => rhs; rw [← h3, NR.d, K4]
   rw [Int.neg_mul]; rfl
  rw [fB, e2] at this;exact this
 refine aj (N := 17) (l := [.agg #[.bool a.neg, .string a.bA, .int .i64 a.e], .int .i64 n]) Tryz.func51 rfl rfl (by simp) ?_;refine sr ?_;refine cz hh [_,_,_] ?_;intro b2 w2 hh;refine bW hh ?_;intro b4 w4 hh;refine aa (sr ?_);refine cE hh 1 [_,_,_] ?_;refine bD hh (eC a _ (hT.hp hh) Uz Uz Uz) rfl ?_;intro w6 hh;refine bX hh 1 [_,_,_] ?_;intro ws hh;replace hh : Hp _ (_ :: .blk _ _ [_, _, _] _ :: _) _ := hh;refine aa (ah ?_);refine aZ 9 [[(2, none)], [(7, some 0)], [(1, none)], [(8, some 1), (9, some 2)], [(2, none)], [(11, some 4)], [(1, none)], [(13, some 6)], [(12, some 5), (14, some 7)]] [(8, 15), (7, 14), (6, 13), (5, 12), (4, 11), (3, 10), (2, 9), (1, 8), (0, 7)] hh mixed UB ?_;refine ef ?_;refine fS 1 [_,_] ?_;refine dP ?_;refine dC (fun _ hj => hpc _) ?_;refine ef ?_;refine gE 1 ?_;refine dP ?_;refine aP (i := 7) (Is (.int .i64 (n.toNat : Int))) (Is.ext) ?_ ?_
 ·intro ρ1 w1 hj hR;exact fi rfl ((Ow (ρ := ρ1) (x := .tmp 13) (show ρ1 13 = Value.int .i64 n from hR.1) rfl).trans (by rw [e1])) ⟨Below.refl _ _, rfl⟩
 refine RQ ?_;refine aT ?_;intro f W hJ hV;have hb_2 := hJ.bl;obtain ⟨v15, v14, v13, v12, v11, v10, v9, v8, v7, _⟩ := hV;replace hh := hJ.hp;refine aY (br (ae v15 (ae v14 (ae v13 (ae v12 (ae v11 (ae v10 (ae v9 (ae v8 (ae v7 aX)))))))))) ?_;dsimp only [cg];clear hJ;refine bD hh (hmc _ (hT.hp hh)) rfl ?_;intro w16 hh;exact Lj
def iA (f : Dyadic → Dyadic → Bool) : List Dyadic → Dyadic
 | [] => 0
 | a :: r => r.foldl (fun out a => if f a out then a else out) a
theorem CN (f : Dyadic → Dyadic → Bool) {l : List Dyadic} (h : l ≠ []) (x : Dyadic) : iA f (l ++ [x]) = if f x (iA f l) then x else iA f l := by
 cases l with
 | nil => exact absurd rfl h
 | cons a r =>
  show (r ++ [x]).foldl _ a = _;rw [XV]
  rfl
theorem pz (L : Option Addr) (n c : Nat) (l : List NR) (g : FuncId) (f : Dyadic → Dyadic → Bool) (w : World) (hT : eb w) (hS : Sl w L n 3 (az NR.cells l)) (hl : ∀ a ∈ l, a.ok) (hn : n ≤ 1000000) [al Tryz.prog g]
  (hg : ∀ (a b : NR) (w : World), eb w → a.ok → b.ok → Calls Tryz.prog g #[.agg #[.bool a.neg, .string a.bA, .int .i64 a.e], .agg #[.bool b.neg, .string b.bA, .int .i64 b.e]] w fun r w' => r = .returned (.bool (f a.d b.d)) ∧ Below w.heap.size w w') :
  Calls Tryz.prog 268 #[.slice L n c, .func (.func g) #[] #[]] w fun r w' => r = .returned (.agg #[.bool (nR (iA f (l.map NR.d))).neg, .string (nR (iA f (l.map NR.d))).bA, .int .i64 (nR (iA f (l.map NR.d))).e]) ∧ Below w.heap.size w w' := by
 have hln := hS.bq NR.len Uz;have hh := Hp.start w;refine aj (N := 27) (l := [.slice L n c, .func (.func g) #[] #[]]) Tryz.func268 rfl rfl (by simp) ?_;refine sr ?_;refine bW hh ?_;intro b4 w4 hh;refine aa (sr ?_);refine bW hh ?_;intro b5 w5 hh;refine vX ?_;refine aR [6, 7, 10, 11, 12, 13, 14, 15, 16, 17, 18, 19, 20, 21, 22, 23, 24] 10
  (fun j w' => ∃ (i : Nat) (o : NR), i ≤ n ∧ j = .int .i64 i ∧ o.ok ∧ o.d = iA f ((l.take i).map NR.d) ∧ Hp w [.blk b5 65 [.bool o.neg, .string o.bA, .int .i64 o.e] (0, 0), .blk b4 65 [.bool false, .string (ByteArray.mk #[]), .int .i64 0] (0, 0)] w')
  (fun j _ => n - (intOf j).toNat) ?_ ?_
 ·exact ⟨0, nR 0, UI _, rfl, (Sz.zero 0).ok Uz, rfl, hh⟩
 ·clear hh;rintro ρ' j w' ⟨i, o, hi, rfl, hok, hod, hh⟩;by_cases hlt : i < n
  ·obtain ⟨x, hx⟩ := ak (l := l) (k := i) Uz;obtain ⟨ad, rfl, hr⟩ := hS.at_ Uz;have hxo := hl x (UJ hx);have htk : (l.take (i + 1)).map NR.d = (l.take i).map NR.d ++ [x.d] := by rw [ay hx, VC, Xk]
   by_cases h0 : i = 0
   ·subst h0;refine sr ?_;refine eh ?_;refine DE ?_;refine D4 ?_;refine bW hh ?_;intro b7 w7 hh;refine aI ?_;refine bX hh 0 [_,_,_] ?_;intro ws hh;replace hh : Hp _ (.blk _ _ [_, _, _] _ :: _) _ := hh;refine aa (sr (mI ?_));refine cW (mB ?_);refine gS (gS (gS ?_));refine jK ?_;refine fO ?_;refine aa (cT (ao ?_));refine cE hh 0 [_,_,_] ?_;refine bX hh 1 [_,_,_] ?_;intro ws hh;replace hh : Hp _ (_ :: .blk _ _ [_, _, _] _ :: _) _ := hh;refine fV ?_;refine bo (mI (aC (ai ?_)));replace hh := hh.sub (Vs _ _);refine ⟨⟨1, x, Uz, rfl, hxo, by rw [htk]; rfl, hh⟩, by show n - (0 + 1) < n - 0; omega, ?_⟩;exact dQ
   ·have hne : (l.take i).map NR.d ≠ [] := by
     intro h;have := VJ List.length h;rw [US, U6, Xz] at this;omega
    have hb := CN f hne x.d;rw [← htk, ← hod] at hb;refine sr ?_;refine eh ?_;refine ct ?_;refine D4 ?_;refine bW hh ?_;intro b7 w7 hh;refine aI ?_;refine bX hh 0 [_,_,_] ?_;intro ws hh;replace hh : Hp _ (.blk _ _ [_, _, _] _ :: _) _ := hh;refine aa (sr (mI ?_));refine cW (mB (gT ?_));refine iL ?_;refine gT ?_;refine cE hh 0 [_,_,_] (gT ?_);refine cE hh 1 [_,_,_] ?_;refine aG rfl rfl ?_;refine gy (hg x o _ (hT.hp hh) hxo hok) al.out rfl rfl UA ?_;rintro e_ w21 ⟨rfl, hb_⟩;refine ⟨_, rfl, ?_⟩;replace hh := hh.ext hb_
    cases hf : f x.d o.d with
    | true =>
     rw [hf, UF rfl] at hb;refine eV ?_;refine aa (cT (ao ?_));refine cE hh 0 [_,_,_] ?_;refine bX hh 1 [_,_,_] ?_;intro ws hh;replace hh : Hp _ (_ :: .blk _ _ [_, _, _] _ :: _) _ := hh;refine fV ?_;refine bo (mI (aC (ai ?_)));replace hh := hh.sub (Vs _ _);refine ⟨⟨i + 1, x, Uz, rfl, hxo, hb.symm, hh⟩, by show n - (i + 1) < n - i; omega, ?_⟩;exact dQ
    | false =>
     rw [hf] at hb;refine eV ?_;refine zi ?_;refine bo (mI (aC (ai ?_)));replace hh := hh.sub (Vs _ _);refine ⟨⟨i + 1, o, Uz, rfl, hok, hb.symm, hh⟩, by show n - (i + 1) < n - i; omega, ?_⟩;exact dQ
  ·rw [UQ Uz] at hod;obtain ⟨o1, o2, o3⟩ := hok;refine sr ?_;refine mM ?_;refine cE hh 0 [_,_,_] ?_;refine bD hh (eC o _ (hT.hp hh) Uz Uz Uz) rfl ?_;intro w26 hh;rw [hod];exact P2
theorem LB (x y : Dyadic) : lH x y < 0 ↔ x < y := by
 unfold lH;split
 ·rename_i h; simp [h]
 ·rename_i h; split <;> simp [h]
theorem Lu (x y : Dyadic) : 0 < lH x y ↔ y < x := by
 unfold lH;split
 ·rename_i h;have : ¬ y < x := by grind
  simp [this]
 ·split <;> rename_i h <;> simp [h]
theorem Bu (a b : NR) (w : World) (hT : eb w) (ha : a.ok) (hb : b.ok) :
  Calls Tryz.prog 269 #[.agg #[.bool a.neg, .string a.bA, .int .i64 a.e], .agg #[.bool b.neg, .string b.bA, .int .i64 b.e]] w fun r w' => r = .returned (.bool (decide (a.d < b.d))) ∧ Below w.heap.size w w' := by
 have hh := Hp.start w;have e1 : decide (lH a.d b.d < 0) = decide (a.d < b.d) := decide_eq_decide.2 (LB _ _);refine aj (N := 9) (l := [.agg #[.bool a.neg, .string a.bA, .int .i64 a.e], .agg #[.bool b.neg, .string b.bA, .int .i64 b.e]]) Tryz.func269 rfl rfl (by simp) ?_;refine sr ?_;refine cz hh [_,_,_] ?_;intro b2 w2 hh;refine cz hh [_,_,_] ?_;intro b3 w3 hh;refine aB (aa (sr ?_));refine cE hh 1 [_,_,_] ?_;refine cE hh 0 [_,_,_] ?_;refine bD hh (oQ a b _ (hT.hp hh) ha hb) rfl ?_;intro w7 hh;refine bh (aB (aa (av ?_)));refine de ?_;rw [e1];exact ⟨rfl, hh.below⟩
theorem Aj (a b : NR) (w : World) (hT : eb w) (ha : a.ok) (hb : b.ok) :
  Calls Tryz.prog 270 #[.agg #[.bool a.neg, .string a.bA, .int .i64 a.e], .agg #[.bool b.neg, .string b.bA, .int .i64 b.e]] w fun r w' => r = .returned (.bool (decide (b.d < a.d))) ∧ Below w.heap.size w w' := by
 have hh := Hp.start w;have e1 : decide (0 < lH a.d b.d) = decide (b.d < a.d) := decide_eq_decide.2 (Lu _ _);refine aj (N := 9) (l := [.agg #[.bool a.neg, .string a.bA, .int .i64 a.e], .agg #[.bool b.neg, .string b.bA, .int .i64 b.e]]) Tryz.func270 rfl rfl (by simp) ?_;refine sr ?_;refine cz hh [_,_,_] ?_;intro b2 w2 hh;refine cz hh [_,_,_] ?_;intro b3 w3 hh;refine aB (aa (sr ?_));refine cE hh 1 [_,_,_] ?_;refine cE hh 0 [_,_,_] ?_;refine bD hh (oQ a b _ (hT.hp hh) ha hb) rfl ?_;intro w7 hh;refine cq (aB (aa (av ?_)));refine de ?_;rw [e1];exact ⟨rfl, hh.below⟩
theorem Cn (L : Option Addr) (n c : Nat) (l : List NR) (w : World) (hT : eb w) (hS : Sl w L n 3 (az NR.cells l)) (hl : ∀ a ∈ l, a.ok) (hn : n ≤ 1000000) :
  Calls Tryz.prog 256 #[.slice L n c] w fun r w' => r = .returned (.agg #[.bool (nR (iA (fun x y => decide (x < y)) (l.map NR.d))).neg, .string (nR (iA (fun x y => decide (x < y)) (l.map NR.d))).bA, .int .i64 (nR (iA (fun x y => decide (x < y)) (l.map NR.d))).e]) ∧ Below w.heap.size w w' := by
 have hh := Hp.start w;refine aj (N := 5) (l := [.slice L n c]) Tryz.func256 rfl rfl (by simp) ?_;refine sr ?_;refine bW hh ?_;intro b2 w2 hh;refine aa (sr (mL ?_));refine bD hh (pz L n c l 269 (fun x y => decide (x < y)) _ (hT.hp hh) (hS.ext hh.below) hl hn Bu) rfl ?_;intro w4 hh;exact Lj
theorem Cr (L : Option Addr) (n c : Nat) (l : List NR) (w : World) (hT : eb w) (hS : Sl w L n 3 (az NR.cells l)) (hl : ∀ a ∈ l, a.ok) (hn : n ≤ 1000000) :
  Calls Tryz.prog 257 #[.slice L n c] w fun r w' => r = .returned (.agg #[.bool (nR (iA (fun x y => decide (y < x)) (l.map NR.d))).neg, .string (nR (iA (fun x y => decide (y < x)) (l.map NR.d))).bA, .int .i64 (nR (iA (fun x y => decide (y < x)) (l.map NR.d))).e]) ∧ Below w.heap.size w w' := by
 have hh := Hp.start w;refine aj (N := 5) (l := [.slice L n c]) Tryz.func257 rfl rfl (by simp) ?_;refine sr ?_;refine bW hh ?_;intro b2 w2 hh;refine aa (sr (mL ?_));refine bD hh (pz L n c l 270 (fun x y => decide (y < x)) _ (hT.hp hh) (hS.ext hh.below) hl hn Aj) rfl ?_;intro w4 hh;exact Lj
theorem CP {x y : Dyadic} (h : x < y) : lH x y = -1 := by rw [lH, UF h]
theorem Dx {x y : Dyadic} (h : y < x) : lH x y = 1 := by
 have : ¬ x < y := by grind
 rw [lH, UE this, UF h]
theorem Gi (x : Dyadic) : lH x x = 0 := by
 have : ¬ x < x := by grind
 rw [lH, UE this, UE this]
theorem SL (x y : Dyadic) : x < y ∨ x = y ∨ y < x := by
 rcases Classical.em (x < y) with h | h
 ·exact .inl h
 ·rcases Classical.em (y < x) with h2 | h2
  ·exact .inr (.inr h2)
  ·exact .inr (.inl (by grind))
theorem Sl.Se {A : Option Addr} {xs : List Nat} (h : Sl w A n 1 (gJ xs)) (hk : k ≤ n) : Sl w A k 1 (gJ (xs.take k)) := by
 have hl := h.1;rw [cO] at hl;refine ⟨by rw [cO, U6]; omega, fun h0 => ?_⟩;obtain ⟨ad, he, hr⟩ := h.2 Uz;exact ⟨ad, he, by rw [z3]; exact hr.take k⟩
theorem Sl.R8 {A : Option Addr} {xs : List Nat} (h : Sl w A n 1 (gJ xs)) : Sl w A (dI xs).length 1 (gJ (dI xs)) := by
 have hl := h.1;rw [cO] at hl;have := fu xs;have h2 := h.Se (k := (dI xs).length) Uz;rwa [← jY] at h2
theorem Hp.PD {H : List HE} {A : Option Addr} {t : TypeId} {xs : List Nat} (h : Hp w0 (.row A n c t 1 (gJ xs) :: H) w) (hl : xs.length = n) : Hp w0 (.row A (dI xs).length c t 1 (gJ (dI xs)) :: H) w := by
 have h1 := fu xs;have h2 := h.CO (k := (dI xs).length) Uz;rw [U3, ← z3, ← jY] at h2;exact h2
theorem lL (A : Option Addr) (n c : Nat) (xs : List Nat) (w : World) (hx : Sl w A n 1 (gJ xs)) (hc : n ≤ c) (hn : n ≤ 1000000000000) :
  Calls Tryz.prog 243 #[.slice A n c] w fun e w' => e = .returned (.slice A (dI xs).length c) ∧ Below w.heap.size w w' := by
 have hlen : xs.length = n := by have := hx.1; rw [cO] at this; omega
 have hh := Hp.start w;refine aj (N := 21) (l := [.slice A n c]) Tryz.func243 rfl rfl (by simp) ?_;refine sr (aL (aa (sr (mL (aJ (aI (aa (ah (aq ?_)))))))));refine aR [3, 6, 7, 8, 9, 10, 11, 12, 13, 14, 15, 16, 17] 3
  (fun v w' => ∃ k : Nat, k ≤ n ∧ v = .int .i64 k ∧ dI (xs.take k) = dI xs ∧ w' = w)
  (fun v _ => (intOf v).toNat) ?_ ?_
 ·exact ⟨n, UH _, rfl, by rw [UQ Uz], rfl⟩
 ·rintro ρ' v w' ⟨k, hk, rfl, hcut, rfl⟩;by_cases h0 : k = 0
  ·subst h0;refine ah (sr (mI ?_));refine cq (mB ?_);refine gS (gS (gS (gS ?_)));refine jK ?_;refine gS ?_;refine eV ?_;refine aa (cF (a9 (aE (aE (bC (ai (sr (mL (mI ?_)))))))));refine pK (h := 0) bk.out aM.size rfl rfl Uz Uz UA ?_;refine aL (aa (av ?_));refine de ?_;rw [← hcut];exact ⟨rfl, hh.below⟩
  ·obtain ⟨j, rfl⟩ : ∃ j, k = j + 1 := ⟨k - 1, Uz⟩;obtain ⟨d, hd⟩ := ak (l := xs) (k := j) Uz;obtain ⟨ad, rfl, hr⟩ := hx.at_ Uz;have hd2 := rh hd;rw [ay hd] at hcut;by_cases hz : d = 0
   ·subst hz;rw [vg] at hcut;refine ah (sr (mI ?_));refine cq (mB (gT (mL (gT (mI (gT ?_))))));refine dW (gT ?_);refine qw ?_;refine gT ?_;refine jL ?_;refine gT ?_;refine cW ?_;refine fO ?_;refine aa (cT (ar (ai (aq (ao (mI ?_))))));refine dW (aI (aC (bE (ai ?_))));refine ⟨⟨j, Uz, by show Value.int _ _ = Value.int _ _; congr 1; omega, hcut, rfl⟩, by show (((j + 1 : Nat) : Int) - 1).toNat < (((j + 1 : Nat) : Int)).toNat; omega, ?_⟩;exact dQ
   ·rw [wA hz] at hcut;refine ah (sr (mI ?_));refine cq (mB (gT (mL (gT (mI (gT ?_))))));refine dW (gT ?_);refine qw ?_;refine gT ?_;refine jL ?_;refine gT ?_;refine cW ?_;refine fO ?_;refine aa (cF (a9 (aE (aE (bC (ai (sr (mL (mI ?_)))))))));refine pK (h := j + 1) bk.out aM.size rfl rfl Uz Uz UA ?_;refine aL (aa (av ?_));exact St
theorem GD {s : List UInt8} {c : UInt8} (hc : (AL s)[j]? = some c.toNat) (hk : k < 8) : c.toNat / 2 ^ k % 2 = bn s / 2 ^ (8 * j + k) % 2 := by
 have h1 := s8 (xH s) hc;rw [← h1, ← bn, U8, Vu, show (2 ^ 8 : Nat) = 256 from rfl, ← Wo];generalize bn s / 256 ^ j = m;have e : (256 : Nat) = 2 ^ k * 2 ^ (8 - k) := by rw [← U8, show k + (8 - k) = 8 by omega]
 have e2 : 2 ^ (8 - k) = 2 * 2 ^ (7 - k) := by rw [← Nat.pow_succ']; congr 1; omega
 rw [e, Nat.mod_mul_right_div_self, e2, Nat.mod_mul_right_mod]
theorem fa (a : ByteArray) (w : World) (ha : a.size ≤ 1000000000) :
  Calls Tryz.prog 218 #[.string a] w fun e w' => ∃ A c, e = .returned (.slice A (aU 2 (bN a)).length c) ∧ w'.ownsRow w.heap.size 5 1 (.slice A (aU 2 (bN a)).length c) (aU 2 (bN a)).length (gJ (aU 2 (bN a))) ∧ Below w.heap.size w w' := by
 have hsz := di a;have hh := Hp.start w;refine aj (N := 28) (l := [.string a]) Tryz.func218 rfl rfl (by simp) ?_;refine sr (aL (aa (sr (aL (aa (ah (sr (mS ?_))))))));refine bJ bk.out rfl UA ?_;refine dW (aI (aa (aq ?_)));replace hh := hh.cY 5 1;refine bK [3, 4, 5, 9, 10, 11, 12, 13, 14, 15, 16, 17, 18, 19, 20, 21, 22, 23, 24, 25] 3 4
  (fun o v w' => ∃ (j : Nat) (A : Option Addr) (c : Nat), j ≤ a.size ∧ v = .int .i64 ((a.size : Int) - 1 - j) ∧ o = .slice A (8 * j) c ∧ Hp w [.row A (8 * j) c 5 1 (gJ (bP 2 (8 * j) (bN a)))] w')
  (fun _ v _ => (intOf v + 1).toNat) ?_ ?_
 ·exact ⟨0, none, 0, UI _, by show Value.int _ _ = Value.int _ _; congr 1; omega, rfl, hh⟩
 ·clear hh;rintro ρ' o v w' ⟨j, A, c, hj, rfl, rfl, hh⟩;by_cases hlt : j < a.size
  ·obtain ⟨ch, hc⟩ := ak (l := a.data.toList) (k := ((a.size : Int) - 1 - j).toNat) Uz;have hlo := IL (s := a.data.toList) (i := j) (c := ch) Uz (by rw [← hc]; congr 1; omega);have hc8 := ch.toNat_lt;refine ah (sr (mI ?_));refine dL (aa (cT (ar (ai (ah (aq (sr (aI (aa (aq ?_))))))))));refine bK [3, 5, 13, 14, 15, 16, 17, 18, 19, 20, 21, 22, 23, 24, 25] 3 5
    (fun o v w' => ∃ (k : Nat) (A : Option Addr) (c : Nat), k ≤ 8 ∧ v = .int .i64 (k : Int) ∧ o = .slice A (8 * j + k) c ∧ Hp w [.row A (8 * j + k) c 5 1 (gJ (bP 2 (8 * j + k) (bN a)))] w')
    (fun _ v _ => 8 - (intOf v).toNat) ?_ ?_
   ·exact ⟨0, A, c, UI _, rfl, rfl, hh⟩
   ·clear hh;rintro ρ2 o v w2 ⟨k, A2, c2, hk, rfl, rfl, hh⟩;by_cases hk8 : k < 8
    ·have hst := GD hlo hk8;have hand : ∀ z : Nat, z &&& 1 = z % 2 := fun z => Nat.and_one_is_mod z;have hcl : ch.toNat / 2 ^ (k : Int).toNat < 256 := VK (Xe _ _) hc8;refine ah (sr (mI ?_));refine bh (aa (cT (ar (ai (ah (aq (ao (mL (mS (mI ?_))))))))));refine ke ?_;refine mI ?_;refine DB rfl rfl Uz UA ?_;refine IV ?_;refine xx ?_;intro b24 w24 hh;refine qi ?_;intro A25 c25 w25 hh;simp only [UU, Vp] at hh;replace hh := hh.sub (Vs _ _);refine vR ?_;refine bo (aI (aC (ai ?_)));have e1 : gJ (bP 2 (8 * j + k) (bN a)) ++ [Value.int .u8 ((ch.toNat / 2 ^ (k : Int).toNat &&& 1 : Nat) : Int)] = gJ (bP 2 (8 * j + (k + 1)) (bN a)) := by
      rw [hand, V8, hst, ← Xi, lG, tX]; rfl
     rw [e1] at hh;refine ⟨⟨k + 1, A25, c25, Uz, rfl, rfl, hh⟩, by show 8 - (k + 1) < 8 - k; omega, ?_⟩;exact dQ
    ·obtain rfl : k = 8 := Uz;refine ah (sr (mI ?_));refine bh (aa (cF (a9 (aE (aE (bC (bE (ai (ao (mI ?_))))))))));refine dW (aI (aC (ai ?_)));refine ⟨⟨j + 1, A2, c2, Uz, by show Value.int _ _ = Value.int _ _; congr 1; omega, rfl, hh⟩, by show ((a.size : Int) - 1 - j - 1 + 1).toNat < ((a.size : Int) - 1 - j + 1).toNat; omega, ?_⟩;exact dQ
  ·obtain rfl : j = a.size := Uz;refine ah (sr (mI ?_));refine dL (aa (cF (a9 (aE (aE (bC (ai (sr (mL ?_)))))))));refine bD hh (lL _ _ _ (bP 2 (8 * a.size) (bN a)) _ (hh.aA (i := 0) rfl) (hh.fN (i := 0) rfl) Uz) rfl ?_;intro w27 hh;refine aL (aa (av ?_));refine de ?_;have hb := wL a;rw [show (256 : Nat) = 2 ^ 8 from rfl, ← Vu] at hb;have hd : dI (bP 2 (8 * a.size) (bN a)) = aU 2 (bN a) := by
    rw [g9 Uz (gj Uz _ _), dn hb]
   have h1 := (Hp.PD (xs := bP 2 (8 * a.size) (bN a)) hh (aO _ _)).at_ (i := 0) rfl;exact M8
theorem LV {l : List Nat} {v : Nat} (h : j < l.length) : l.reverse.set (l.length - 1 - j) v = (l.set j v).reverse := by
 apply VU;intro i
 rcases Vv i l.length with hi | hi
 ·rw [Ww (by rw [WU]; exact hi), WU, Wd, Wd, Ww hi, Vn];by_cases he : l.length - 1 - j = i
  ·rw [UF he, UF Uz, UF Uz, UF h]
  ·rw [UE he, UE Uz]
 ·rw [Vd (by simp; omega), Vd (by simp; omega)]
theorem Dj {i : Nat} (P : Nat) (hP : P < 2 ^ i) (hb : b < 2) (hk : i / 8 < k) : P / 256 ^ (i / 8) % 256 + b * 2 ^ (i % 8) < 256 ∧ (bP 256 k P).set (i / 8) (P / 256 ^ (i / 8) % 256 + b * 2 ^ (i % 8)) = bP 256 k (P + 2 ^ i * b) := by
 have hp : 2 ^ i = 256 ^ (i / 8) * 2 ^ (i % 8) := by
  rw [show (256 : Nat) = 2 ^ 8 from rfl, ← Vu, ← U8]; congr 1; omega
 have h1 : P / 256 ^ (i / 8) < 2 ^ (i % 8) := by
  rw [V5 (Vj Uz), Vg, ← hp]; exact hP
 have h2 : 2 ^ (i % 8) ≤ 128 := by
  have := Vr (show 0 < 2 by omega) (show i % 8 ≤ 7 by omega);omega
 have h3 : P / 256 ^ (i / 8) % 256 < 2 ^ (i % 8) := VK (Nat.mod_le _ _) h1;have h4 : b * 2 ^ (i % 8) ≤ 1 * 2 ^ (i % 8) := VG _ Uz;have h5 : 2 ^ i * b = 256 ^ (i / 8) * (b * 2 ^ (i % 8)) := by rw [hp, VB, Vg b]
 refine ⟨Uz, ?_⟩;rw [h5];refine qd Uz hk ?_ Uz;rw [← h5];have h6 : 2 ^ i * b ≤ 2 ^ i * 1 := Vm _ Uz;have h7 : 2 ^ (i + 1) ≤ 256 ^ k := by
  rw [show (256 : Nat) = 2 ^ 8 from rfl, ← Vu];exact Vr Uz Uz
 rw [Vy] at h7;omega
theorem il (A : Option Addr) (n c : Nat) (xs : List Nat) (w : World) (hx : Sl w A n 1 (gJ xs)) (hd : Dg 2 xs) (hc : n ≤ c) (hn : n ≤ 100000000000) :
  Calls Tryz.prog 237 #[.slice A n c] w fun e w' => e = .returned (.string (sN (bB 2 xs))) ∧ Below w.heap.size w w' := by
 have hl := hx.1;rw [cO] at hl;have hcl := fu xs;have hcx := hx.R8;have hcan := g9 Uz hd;have hlen := CZ (bB 2 xs);rw [hcan] at hcl hcx;have hcd := (dK (B := 2) Uz (bB 2 xs)).1;have hcv := dJ (B := 2) Uz (bB 2 xs);have hbl : (aU 2 (bB 2 xs)).length = bF (bB 2 xs) := rfl;have hh := Hp.start w;refine aj (N := 38) (l := [.slice A n c]) Tryz.func237 rfl rfl (by simp) ?_;refine sr (aS (aa (sr (mL ?_))));refine bD hh (lL _ _ _ xs _ hx hc Uz) rfl ?_;intro w6 hh;rw [hcan];generalize bB 2 xs = M at *;generalize aU 2 M = xs' at *;refine aL (aa (sr (mL (aJ ?_))));refine bo ?_;refine n9 ?_;refine gu (n := (xs'.length + 7) / 8) hh rfl rfl Uz Uz bk.out aM.out rfl Uz Uz UA ?_;intro b11 w11 hh;refine aL (aa (ah (sr (aI (aa (aq ?_))))));rw [qj] at hh;refine aR [4, 12, 13, 14, 15, 16, 17, 18, 19, 20, 21, 22, 23, 24, 25, 26, 27, 28, 29, 30, 31, 32, 33, 34, 35] 4
  (fun v w' => ∃ i : Nat, i ≤ xs'.length ∧ v = .int .i64 i ∧ Hp w [.row (some ⟨b11, 0, none⟩) ((xs'.length + 7) / 8) ((xs'.length + 7) / 8) 5 1 (gJ (bP 256 ((xs'.length + 7) / 8) (bB 2 (xs'.take i))).reverse)] w')
  (fun v _ => xs'.length - (intOf v).toNat) ?_ ?_
 ·exact ⟨0, UI _, rfl, by rw [WY, bB, rB, List.reverse_replicate]; exact hh⟩
 ·clear hh;rintro ρ' v w' ⟨i, hi, rfl, hh⟩;by_cases hlt : i < xs'.length
  ·obtain ⟨d, hdi⟩ := ak (l := xs') (k := i) Uz;obtain ⟨ad, rfl, hr⟩ := hcx.at_ Uz;have hd2 := rh hdi;have hdw := hcd.at_ hdi;have hP := iy (hcd.take i);rw [U6, VM Uz] at hP;obtain ⟨s1, s2⟩ := Dj (k := (xs'.length + 7) / 8) (bB 2 (xs'.take i)) hP hdw Uz;have hg : (bP 256 ((xs'.length + 7) / 8) (bB 2 (xs'.take i))).reverse[(xs'.length + 7) / 8 - 1 - i / 8]? = some (bB 2 (xs'.take i) / 256 ^ (i / 8) % 256) := by
    rw [Ww (by rw [aO]; omega), aO, show (xs'.length + 7) / 8 - 1 - ((xs'.length + 7) / 8 - 1 - i / 8) = i / 8 by omega];exact iH _ _ _ Uz
   have hg2 := rh hg;have e1 : ((i : Int) % 8).toNat = i % 8 := Uz;have hset := LV (l := bP 256 ((xs'.length + 7) / 8) (bB 2 (xs'.take i))) (j := i / 8) (v := bB 2 (xs'.take i) / 256 ^ (i / 8) % 256 + d * 2 ^ (i % 8)) (by rw [aO]; omega);rw [aO, s2] at hset;refine ah (sr (mI (mL (aJ ?_))));refine bh (aa (cT (ar (ai (ah (aq ?_))))));refine aZ 16 [[(3, none)], [(3, none)], [(19, some 1)], [(20, some 2)], [(4, none)], [(22, some 4)], [(21, some 3), (23, some 5)], [(18, some 0), (24, some 6)], [(25, some 7)], [(0, none)], [(4, none)], [(27, some 9), (28, some 10)], [(29, some 11)], [(4, none)], [(31, some 13)], [(30, some 12), (32, some 14)]] [(15, 33), (14, 32), (13, 31), (12, 30), (11, 29), (10, 28), (9, 27), (8, 26), (7, 25), (6, 24), (5, 23), (4, 22), (3, 21), (2, 20), (1, 19), (0, 18)] hh mixed UB ?_;refine gC ?_;refine gC ?_;refine CE ?_;refine vN ?_;refine dP ?_;refine bz (i := 5) (fun ρ1 w1 hj hR => qE (show ρ1 22 = Value.int _ _ from hR.1) rfl Uz Uz Uz) ?_;refine vN ?_;refine KZ ((xs'.length + 7) / 8 - 1 - i / 8) ?_;refine bz (i := 8) (fun ρ1 w1 hj hR => jN aM.out (show ρ1 25 = Value.pointer _ from hR.1) (hj.hp.gg (i := 0) rfl (by rw [U3]; exact hg2))) ?_;refine gC ?_
   refine dP ?_;refine nM (i) ?_;refine sM (fun _ hj => (hr.ext hj.hp.below).ya hd2) ?_;refine dP ?_;refine bz (i := 14) (fun ρ1 w1 hj hR => oM (show ρ1 31 = Value.int _ _ from hR.1) rfl Uz Uz) ?_;refine bz (i := 15) (fun ρ1 w1 hj hR => yx (show ρ1 30 = Value.int _ _ from hR.1) (show ρ1 32 = Value.int _ _ from hR.2.1) Uz) ?_;refine aT ?_;intro f W hJ hV;have hb_6 := hJ.bl;obtain ⟨v33, v32, v31, v30, v29, v28, v27, v26, v25, v24, v23, v22, v21, v20, v19, v18, _⟩ := hV;replace hh := hJ.hp;refine aY (br (ae v33 (ae v32 (ae v31 (ae v30 (ae v29 (ae v28 (ae v27 (ae v26 (ae v25 (ae v24 (ae v23 (ae v22 (ae v21 (ae v20 (ae v19 (ae v18 aX))))))))))))))))) ?_;dsimp only [cg];clear hJ;refine iD rfl rfl UA ?_;refine cX (k := (xs'.length + 7) / 8 - 1 - i / 8) bk.out aM.size rfl rfl Uz Uz UA ?_;refine bQ hh (i := 0) (vs := [_]) rfl rfl (cK rfl) rfl aM.out rfl (by rw [cO, Vn, aO]; omega) rfl ?_;intro ws hh;simp only [UU] at hh;rw [e1, Vh (show d * 2 ^ (i % 8) < 256 by omega), Vh s1, U3, cJ (by rw [cO, Vn, aO]; omega), pT, hset, ← fG hdi] at hh;refine aC (bE (ai (ao (mI ?_))));refine bo (aI (aC (ai ?_)))
   refine ⟨⟨i + 1, Uz, rfl, hh⟩, by show xs'.length - (i + 1) < xs'.length - i; omega, ?_⟩;exact dQ
  ·obtain rfl : i = xs'.length := Uz;rw [Xy, hcv, hbl] at hh;have hfin : gJ (bP 256 ((bF M + 7) / 8) M).reverse = jQ (sb M) := by
    rw [← hlen];exact Ri
   rw [hfin, ← hbl] at hh;refine ah (sr (mI (mL (aJ ?_))));refine bh (aa (cF (a9 (aE (aE (bC (ai (sr (mL ?_)))))))));exact Oc
theorem MU {xs : List Nat} (h : Dg 2 xs) (i : Nat) : bB 2 xs / 2 ^ i % 2 = (xs[i]?).getD 0 := by
 cases hi : xs[i]? with
 | some d => exact s8 h hi
 | none =>
  rw [tD h (List.getElem?_eq_none_iff.1 hi) Uz]; rfl
theorem ja (A : Option Addr) (n c i : Nat) (xs : List Nat) (w : World) (hx : Sl w A n 1 (gJ xs)) (hd : Dg 2 xs) (hn : n ≤ 1000000000000) (hi : i ≤ 1000000000000) :
  Calls Tryz.prog 259 #[.slice A n c, .int .i64 (i : Int)] w fun e w' => e = .returned (.int .u8 ((bB 2 xs / 2 ^ i % 2 : Nat) : Int)) ∧ Below w.heap.size w w' := by
 have hl := hx.1;rw [cO] at hl;have hh := Hp.start w;rw [MU hd];by_cases hlt : i < n
 ·obtain ⟨d, hdi⟩ := ak (l := xs) (k := i) Uz;obtain ⟨ad, rfl, hr⟩ := hx.at_ Uz;have hd2 := rh hdi;rw [hdi];refine aj (N := 13) (l := [.slice (some ad) n c, .int .i64 (i : Int)]) Tryz.func259 rfl rfl (by simp) ?_;refine sr (aI (aa (ah (sr (mI (mL (aJ ?_)))))));refine bh (aa (cT (sr (mL (mI ?_)))));refine ct ?_;refine jL ?_;refine aI (aa (av (aH ?_)));refine de ?_;exact ⟨rfl, hh.below⟩
 ·rw [Vd Uz];refine aj (N := 13) (l := [.slice A n c, .int .i64 (i : Int)]) Tryz.func259 rfl rfl (by simp) ?_;refine sr (aI (aa (ah (sr (mI (mL (aJ ?_)))))));refine bh (aa (cF (ar (ai (sr (aI (aa (av ?_))))))));refine de ?_;exact ⟨rfl, hh.below⟩
theorem md (X i : Nat) : X / 2 ^ i = 2 * (X / 2 ^ (i + 1)) + X / 2 ^ i % 2 := by
 rw [Vy, ← Wo]; omega
theorem vW {X Y : Nat} (h : X / 2 ^ k < Y / 2 ^ k) : X < Y := by
 refine XC fun h2 => ?_;have := Nat.div_le_div_right (c := 2 ^ k) h2;omega
theorem ng (A B : Option Addr) (n c m c' : Nat) (xs ys : List Nat) (w : World) (hx : Sl w A n 1 (gJ xs)) (hy : Sl w B m 1 (gJ ys)) (hdx : Dg 2 xs) (hdy : Dg 2 ys) (hn : n ≤ 100000000000) (hm : m ≤ 100000000000) :
  Calls Tryz.prog 258 #[.slice A n c, .slice B m c'] w fun e w' => e = .returned (.int .i64 (k6 (bB 2 xs) (bB 2 ys))) ∧ Below w.heap.size w w' := by
 have hlx := hx.1;have hly := hy.1;rw [cO] at hlx hly;have hh := Hp.start w;have e1 : (if (m : Int) > (n : Int) then (m : Int) else (n : Int)) - 1 = ((max n m : Nat) : Int) - 1 := by split <;> omega
 refine aj (N := 30) (l := [.slice A n c, .slice B m c']) Tryz.func258 rfl rfl (by simp) ?_;refine sr (aI (aa (ah (sr (mL (aJ (mL (aJ ?_))))))));refine lv rfl rfl UA ?_;refine dW (aI (aa (aq ?_)));rw [e1];refine aR [4, 5, 12, 13, 14, 15, 16, 17, 18, 19, 20, 21, 22, 23, 24, 25, 26, 27, 28, 29] 5
  (fun v w' => ∃ k : Nat, k ≤ max n m ∧ v = .int .i64 ((k : Int) - 1) ∧ bB 2 xs / 2 ^ k = bB 2 ys / 2 ^ k ∧ Hp w [] w')
  (fun v _ => (intOf v + 1).toNat) ?_ ?_
 ·exact ⟨max n m, UH _, rfl, by rw [tD hdx Uz Uz, tD hdy Uz Uz], hh⟩
 ·clear hh;rintro ρ' v w' ⟨k, hk, rfl, heq, hh⟩;by_cases h0 : k = 0
  ·subst h0;refine ah (sr (mI ?_));refine dL (aa (cF (a9 (aE (aE (bC (ai (sr (aI (aa (av ?_)))))))))));refine de ?_;rw [Xs, Nat.div_one, Nat.div_one] at heq;exact ⟨by rw [EK heq], hh.below⟩
  ·obtain ⟨j, rfl⟩ : ∃ j, k = j + 1 := ⟨k - 1, Uz⟩;have hj : ((j + 1 : Nat) : Int) - 1 = (j : Int) := Uz;have hXb := md (bB 2 xs) j;have hYb := md (bB 2 ys) j;by_cases hlt : bB 2 xs / 2 ^ j % 2 < bB 2 ys / 2 ^ j % 2
   ·have hf : bB 2 xs < bB 2 ys := vW (k := j) Uz;rw [hj];refine ah (sr (mI ?_));refine HS ?_;refine y8 ?_;intro w18 hh;refine mL (mI ?_);refine BA ?_;intro w21 hh;refine bh (aa (cT (sr (aI (aa (av (aH (cf (aH (aH (cf (aH ?_))))))))))));refine de ?_;exact ⟨by rw [mh hf], hh.below⟩
   ·by_cases hgt : bB 2 ys / 2 ^ j % 2 < bB 2 xs / 2 ^ j % 2
    ·have hf : bB 2 ys < bB 2 xs := vW (k := j) Uz;rw [hj];refine ah (sr (mI ?_));refine HS ?_;refine y8 ?_;intro w18 hh;refine mL (mI ?_);refine BA ?_;intro w21 hh;refine bh (aa (cF (ar (ai (sr (mL (mI ?_)))))));refine y8 ?_;intro w25 hh;refine mL (mI ?_);refine BA ?_;intro w28 hh;refine cq (aa (cT (sr (aI (aa (av (cf (aH (aH (cf (aH ?_)))))))))));refine de ?_;exact ⟨by rw [yL hf], hh.below⟩
    ·rw [hj];refine ah (sr (mI ?_));refine HS ?_;refine y8 ?_;intro w18 hh;refine mL (mI ?_);refine BA ?_;intro w21 hh;refine bh (aa (cF (ar (ai (sr (mL (mI ?_)))))));refine y8 ?_;intro w25 hh;refine mL (mI ?_);refine BA ?_;intro w28 hh;refine cq (aa (cF (ar (bE (ai (ao (mI ?_)))))));refine dW (aI (aC (ai ?_)));refine ⟨⟨j, Uz, rfl, Uz, hh⟩, by show ((j : Int) - 1 + 1).toNat < ((j : Int) + 1).toNat; omega, ?_⟩;exact dQ
theorem L6 (S T i : Nat) : (S + T) / 2 ^ i % 2 = (S / 2 ^ i % 2 + (S % 2 ^ i + T % 2 ^ i) / 2 ^ i + T / 2 ^ i % 2) % 2 ∧ (S % 2 ^ (i + 1) + T % 2 ^ (i + 1)) / 2 ^ (i + 1) = (S / 2 ^ i % 2 + (S % 2 ^ i + T % 2 ^ i) / 2 ^ i + T / 2 ^ i % 2) / 2 ∧ (S % 2 ^ i + T % 2 ^ i) / 2 ^ i ≤ 1 := by
 have hS := Wn S (2 ^ i);have hT := Wn T (2 ^ i);have hp : 0 < 2 ^ i := Vj Uz;have hS2 : S % 2 ^ (i + 1) = S % 2 ^ i + 2 ^ i * (S / 2 ^ i % 2) := by rw [Vy, Nat.mod_mul]
 have hT2 : T % 2 ^ (i + 1) = T % 2 ^ i + 2 ^ i * (T / 2 ^ i % 2) := by rw [Vy, Nat.mod_mul]
 have hSl := Va S hp;have hTl := Va T hp;have hc := Wn (S % 2 ^ i + T % 2 ^ i) (2 ^ i);have hcl := Va (S % 2 ^ i + T % 2 ^ i) hp;have hc1 : (S % 2 ^ i + T % 2 ^ i) / 2 ^ i ≤ 1 := by
  have : (S % 2 ^ i + T % 2 ^ i) / 2 ^ i < 2 := by rw [V5 hp]; omega
  omega
 have e1 : (S + T) / 2 ^ i = S / 2 ^ i + T / 2 ^ i + (S % 2 ^ i + T % 2 ^ i) / 2 ^ i := by
  have : S + T = (S % 2 ^ i + T % 2 ^ i) % 2 ^ i + 2 ^ i * (S / 2 ^ i + T / 2 ^ i + (S % 2 ^ i + T % 2 ^ i) / 2 ^ i) := by
   rw [Vz, Vz]; omega
  conv => lhs; rw [this]
  rw [VS _ _ hp, Vx hcl, U5]
 refine ⟨by rw [e1]; omega, ?_, hc1⟩;rw [hS2, hT2];have e2 : S % 2 ^ i + 2 ^ i * (S / 2 ^ i % 2) + (T % 2 ^ i + 2 ^ i * (T / 2 ^ i % 2)) = (S % 2 ^ i + T % 2 ^ i) % 2 ^ i + 2 ^ i * (S / 2 ^ i % 2 + (S % 2 ^ i + T % 2 ^ i) / 2 ^ i + T / 2 ^ i % 2) := by
  rw [Vz, Vz]; omega
 rw [e2, Vy, ← Wo, VS _ _ hp, Vx hcl, U5]
theorem PG (Y up i : Nat) : Y * 2 ^ up / 2 ^ i % 2 = if up ≤ i then Y / 2 ^ (i - up) % 2 else 0 := by
 split
 ·rename_i h;have e : 2 ^ i = 2 ^ up * 2 ^ (i - up) := by rw [← U8]; congr 1; omega
  rw [e, ← Wo, Nat.mul_div_cancel _ (Vj Uz)]
 ·rename_i h;have e : 2 ^ up = 2 ^ i * 2 * 2 ^ (up - i - 1) := by rw [← Vy, ← U8]; congr 1; omega
  have e2 : Y * 2 ^ up = 2 ^ i * (2 * (Y * 2 ^ (up - i - 1))) := by rw [e]; simp only [VB, X1]
  rw [e2, Nat.mul_div_cancel_left _ (Vj Uz)];omega
theorem Oo {K i : Nat} (h : i < K) : (bP 2 i N ++ List.replicate (K - i) 0).set i (N / 2 ^ i % 2) = bP 2 (i + 1) N ++ List.replicate (K - (i + 1)) 0 := by
 rw [show K - i = (K - (i + 1)) + 1 by omega, WS, WW _ _ (by rw [aO]; omega), aO, Vw, UU, lG];simp
theorem Bm (A B : Option Addr) (n c m c' up : Nat) (xs ys : List Nat) (w : World) (hx : Sl w A n 1 (gJ xs)) (hy : Sl w B m 1 (gJ ys)) (hdx : Dg 2 xs) (hdy : Dg 2 ys) (hn : n ≤ 100000000000) (hm : m ≤ 100000000000) (hup : up ≤ 100000000000) :
  Calls Tryz.prog 240 #[.slice A n c, .slice B m c', .int .i64 (up : Int)] w fun e w' => ∃ b, e = .returned (.slice (some ⟨b, 0, none⟩) (max n (m + up) + 1) (max n (m + up) + 1)) ∧ w'.ownsRow w.heap.size 5 1 (.slice (some ⟨b, 0, none⟩) (max n (m + up) + 1) (max n (m + up) + 1)) (max n (m + up) + 1) (gJ (bP 2 (max n (m + up) + 1) (bB 2 xs + bB 2 ys * 2 ^ up))) ∧ Below w.heap.size w w' := by
 have hlx := hx.1;have hly := hy.1;rw [cO] at hlx hly;have hh := Hp.start w;have e1 : (if ((m : Int) + (up : Int)) > (n : Int) then ((m : Int) + (up : Int)) else (n : Int)) + 1 = ((max n (m + up) + 1 : Nat) : Int) := by split <;> omega
 have hand : ∀ z : Nat, z &&& 1 = z % 2 := fun z => Nat.and_one_is_mod z;refine aj (N := 49) (l := [.slice A n c, .slice B m c', .int .i64 (up : Int)]) Tryz.func240 rfl rfl (by simp) ?_;refine sr (aL (aa (sr (mL (aJ (mL (aJ (mI ?_))))))));refine bo ?_;refine lv rfl rfl UA ?_;refine bo ?_;rw [e1];generalize hK : max n (m + up) + 1 = K at *;refine gu (n := K) hh rfl rfl Uz Uz bk.out aM.out rfl Uz Uz UA ?_;intro b19 w19 hh;refine aL (aa (sr (aI (aa (ah (sr (aI (aa (aq ?_)))))))));rw [qj] at hh;refine bK [8, 9, 10, 20, 21, 22, 23, 24, 25, 26, 27, 28, 29, 30, 31, 32, 33, 34, 35, 36, 37, 38, 39, 40, 41, 42, 43, 44, 45, 46, 47] 8 9
  (fun cr v w' => ∃ i : Nat, i ≤ K ∧ v = .int .i64 (i : Int) ∧ cr = .int .u8 (((bB 2 xs % 2 ^ i + bB 2 ys * 2 ^ up % 2 ^ i) / 2 ^ i : Nat) : Int) ∧ Hp w [.row (some ⟨b19, 0, none⟩) K K 5 1 (gJ (bP 2 i (bB 2 xs + bB 2 ys * 2 ^ up) ++ List.replicate (K - i) 0))] w')
  (fun _ v _ => K - (intOf v).toNat) ?_ ?_
 ·exact ⟨0, UI _, rfl, by simp [Nat.mod_one]; rfl, hh⟩
 ·clear hh;rintro ρ' cr v w' ⟨i, hi, rfl, rfl, hh⟩;by_cases hlt : i < K
  ·obtain ⟨b1, b2, b3⟩ := L6 (bB 2 xs) (bB 2 ys * 2 ^ up) i;have hbu := PG (bB 2 ys) up i;have hxb : bB 2 xs / 2 ^ i % 2 < 2 := Va _ Uz;have hyb : bB 2 ys / 2 ^ (i - up) % 2 < 2 := Va _ Uz;have hll : (gJ (bP 2 i (bB 2 xs + bB 2 ys * 2 ^ up) ++ List.replicate (K - i) 0)).length = K := by rw [cO, UM, aO, V1]; omega
   have hfk := Oo (N := bB 2 xs + bB 2 ys * 2 ^ up) hlt;generalize hC : (bB 2 xs % 2 ^ i + bB 2 ys * 2 ^ up % 2 ^ i) / 2 ^ i = C at *;generalize hX : bB 2 xs / 2 ^ i % 2 = X at *;refine ah (sr (mI (mL (aJ ?_))));refine rR ?_;refine bD hh (ja A n c i xs _ (hx.ext hh.below) hdx Uz Uz) rfl ?_;intro w28 hh;rw [hX];by_cases hiu : up ≤ i
   ·rw [UF hiu] at hbu;rw [hbu] at b1 b2;generalize hY : bB 2 ys / 2 ^ (i - up) % 2 = Y at *;have es : ((X + C) % 256 + Y) % 256 = X + C + Y := Uz;have ei : (i : Int) - (up : Int) = ((i - up : Nat) : Int) := Uz;refine mI ?_;refine iD rfl rfl UA ?_;refine aI (aa (ah (sr (mI (mI ?_)))));refine dL (aa (cT (ao (mI (mL (mI (mI ?_)))))));refine dW ?_;rw [ei];refine bD hh (ja B m c' (i - up) ys _ (hy.ext hh.below) hdy Uz Uz) rfl ?_;intro w39 hh;rw [hY];refine iD rfl rfl UA ?_;refine aI (aa (sr (mL (mI (mI ?_)))));exact O8
   ·rw [UE hiu] at hbu;rw [hbu] at b1 b2;have es : (X + C) % 256 = X + C + 0 := Uz;refine mI ?_;refine iD rfl rfl UA ?_;refine aI (aa (ah (sr (mI (mI ?_)))));refine dL (aa (cF (ar (ai (sr (mL (mI (mI ?_))))))));exact O8
  ·obtain rfl : i = K := Uz;exact RD
theorem MK {X Y : Nat} (h : Y ≤ X) (i : Nat) : ((2 + X / 2 ^ i % 2 + 256 - Y / 2 ^ i % 2) % 256 + 256 - (if X % 2 ^ i < Y % 2 ^ i then 1 else 0)) % 256 % 2 = (X - Y) / 2 ^ i % 2 ∧
  (1 + 256 - ((2 + X / 2 ^ i % 2 + 256 - Y / 2 ^ i % 2) % 256 + 256 - (if X % 2 ^ i < Y % 2 ^ i then 1 else 0)) % 256 / 2) % 256 = (if X % 2 ^ (i + 1) < Y % 2 ^ (i + 1) then 1 else 0) := by
 have hX := Wn X (2 ^ i);have hY := Wn Y (2 ^ i);have hp : 0 < 2 ^ i := Vj Uz;have hX2 : X % 2 ^ (i + 1) = X % 2 ^ i + 2 ^ i * (X / 2 ^ i % 2) := by rw [Vy, Nat.mod_mul]
 have hY2 : Y % 2 ^ (i + 1) = Y % 2 ^ i + 2 ^ i * (Y / 2 ^ i % 2) := by rw [Vy, Nat.mod_mul]
 have hXl := Va X hp;have hYl := Va Y hp;rw [hX2, hY2];generalize hx1 : X / 2 ^ i = x1 at *;generalize hy1 : Y / 2 ^ i = y1 at *;generalize hx0 : X % 2 ^ i = x0 at *;generalize hy0 : Y % 2 ^ i = y0 at *;have key : ∀ b : Nat, b = (if x0 < y0 then 1 else 0) → (X - Y) / 2 ^ i = x1 - y1 - b ∧ y1 + b ≤ x1 := by
  intro b hb;have hle : y1 + b ≤ x1 := by
   refine Nat.le_of_not_lt fun hlt => ?_;have h1 : 2 ^ i * (x1 + 1) ≤ 2 ^ i * (y1 + b) := Vm _ hlt;rw [Vz, Vz] at h1;split at hb
   ·subst hb; omega
   ·subst hb; omega
  refine ⟨?_, hle⟩;have e : X - Y = (x0 + 2 ^ i * b - y0) + 2 ^ i * (x1 - y1 - b) := by
   have h2 : 2 ^ i * (x1 - y1 - b) = 2 ^ i * x1 - 2 ^ i * y1 - 2 ^ i * b := by rw [Nat.mul_sub, Nat.mul_sub]
   have h3 : 2 ^ i * (y1 + b) ≤ 2 ^ i * x1 := Vm _ hle;rw [Vz] at h3;split at hb
   ·subst hb; omega
   ·subst hb; omega
  rw [e, VS _ _ hp, Vx, U5];split at hb
  ·subst hb; omega
  ·subst hb; omega
 obtain ⟨k1, k2⟩ := key _ rfl;rw [k1];have hlt : (x0 + 2 ^ i * (x1 % 2) < y0 + 2 ^ i * (y1 % 2)) ↔ (x1 % 2 < y1 % 2 ∨ x1 % 2 = y1 % 2 ∧ x0 < y0) := by
  rcases Nat.mod_two_eq_zero_or_one x1 with h1 | h1 <;> rcases Nat.mod_two_eq_zero_or_one y1 with h2 | h2 <;> rw [h1, h2] <;> omega
 by_cases hb : x0 < y0
 ·rw [UF hb] at k2 ⊢;exact Rt
 ·rw [UE hb] at k2 ⊢;exact Rt
theorem qa (A B : Option Addr) (n c m c' : Nat) (xs ys : List Nat) (w : World) (hx : Sl w A n 1 (gJ xs)) (hy : Sl w B m 1 (gJ ys)) (hdx : Dg 2 xs) (hdy : Dg 2 ys) (hn : n ≤ 100000000000) (hm : m ≤ 100000000000) (hle : bB 2 ys ≤ bB 2 xs) :
  Calls Tryz.prog 242 #[.slice A n c, .slice B m c'] w fun e w' => ∃ b, e = .returned (.slice (some ⟨b, 0, none⟩) n n) ∧ w'.ownsRow w.heap.size 5 1 (.slice (some ⟨b, 0, none⟩) n n) n (gJ (bP 2 n (bB 2 xs - bB 2 ys))) ∧ Below w.heap.size w w' := by
 have hlx := hx.1;have hly := hy.1;rw [cO] at hlx hly;have hh := Hp.start w;have hand : ∀ z : Nat, z &&& 1 = z % 2 := fun z => Nat.and_one_is_mod z;refine aj (N := 37) (l := [.slice A n c, .slice B m c']) Tryz.func242 rfl rfl (by simp) ?_;refine sr (aL (aa (sr (mL (aJ ?_)))));refine Ir ?_;intro b11 w11 hh;refine aL (aa (sr (aI (aa (ah (sr (aI (aa (aq ?_)))))))));rw [qj] at hh;refine bK [6, 7, 8, 12, 13, 14, 15, 16, 17, 18, 19, 20, 21, 22, 23, 24, 25, 26, 27, 28, 29, 30, 31, 32, 33, 34, 35] 6 7
  (fun cr v w' => ∃ i : Nat, i ≤ n ∧ v = .int .i64 (i : Int) ∧ cr = .int .u8 ((if bB 2 xs % 2 ^ i < bB 2 ys % 2 ^ i then 1 else 0 : Nat) : Int) ∧ Hp w [.row (some ⟨b11, 0, none⟩) n n 5 1 (gJ (bP 2 i (bB 2 xs - bB 2 ys) ++ List.replicate (n - i) 0))] w')
  (fun _ v _ => n - (intOf v).toNat) ?_ ?_
 ·exact ⟨0, UI _, rfl, by simp [Nat.mod_one]; rfl, hh⟩
 ·clear hh;rintro ρ' cr v w' ⟨i, hi, rfl, rfl, hh⟩;by_cases hlt : i < n
  ·obtain ⟨b1, b2⟩ := MK hle i;have hxb : bB 2 xs / 2 ^ i % 2 < 2 := Va _ Uz;have hyb : bB 2 ys / 2 ^ i % 2 < 2 := Va _ Uz;have hcb : (if bB 2 xs % 2 ^ i < bB 2 ys % 2 ^ i then 1 else 0 : Nat) ≤ 1 := by split <;> omega
   have hll : (gJ (bP 2 i (bB 2 xs - bB 2 ys) ++ List.replicate (n - i) 0)).length = n := by rw [cO, UM, aO, V1]; omega
   have hfk := Oo (N := bB 2 xs - bB 2 ys) hlt;refine ah (sr (mI (mL (aJ ?_))));refine rR ?_;refine bD hh (ja A n c i xs _ (hx.ext hh.below) hdx Uz Uz) rfl ?_;intro w20 hh;refine iD (a := 2) rfl rfl UA ?_;refine mL (mI ?_);refine bD hh (ja B m c' i ys _ (hy.ext hh.below) hdy Uz Uz) rfl ?_;intro w24 hh;generalize hC : (if bB 2 xs % 2 ^ i < bB 2 ys % 2 ^ i then 1 else 0 : Nat) = C at *;generalize hX : bB 2 xs / 2 ^ i % 2 = X at *;generalize hY : bB 2 ys / 2 ^ i % 2 = Y at *;have es : ((2 + X) % 256 + 256 - Y) % 256 = (2 + X + 256 - Y) % 256 := Uz;have hS : ((2 + X + 256 - Y) % 256 + 256 - C) % 256 < 256 := Va _ Uz;refine yU rfl rfl Uz UA ?_;refine mI ?_;rw [es];refine yU rfl rfl Uz UA ?_;refine aI (aa (sr (mL (mI (mI ?_)))));refine IV ?_;refine gD ?_;refine HQ ?_;intro ws hh;simp only [UU] at hh;rw [hand, b1, U3, cJ (by rw [hll]; omega), pT, hfk] at hh;refine aa (ao (mI ?_));refine mg (s := 1) (m := 2) rfl rfl UA UA UA ?_;refine yU (a := 1) rfl rfl Uz UA ?_;refine aI (aC (bE (ai (ao (mI ?_)))));refine bo (aI (aC (ai ?_)));refine ⟨⟨i + 1, Uz, rfl, by rw [← b2]; rfl, hh⟩, by show n - (i + 1) < n - i; omega, ?_⟩;exact dQ
  ·obtain rfl : i = n := Uz;exact RD
theorem xq (n : Nat) (w : World) (hn : n < 18446744073709551616) :
  Calls Tryz.prog 211 #[.int .u64 (n : Int)] w fun e w' => e = .returned (.string (sN n)) ∧ Below w.heap.size w w' := by
 have hh := Hp.start w;refine aj (N := 16) (l := [.int .u64 (n : Int)]) Tryz.func211 rfl rfl (by simp) ?_;refine sr (aS (aa (sr (aL (aa (ah (aq ?_)))))));replace hh := hh.cY 5 1;refine bK [0, 3, 4, 5, 6, 7, 8, 9, 10, 11, 12, 13] 0 3
  (fun v o w' => ∃ (k m : Nat) (A : Option Addr) (c : Nat), v = .int .u64 (m : Int) ∧ m < 18446744073709551616 ∧ k ≤ 64 ∧ m < 2 ^ (64 - k) ∧ o = .slice A k c ∧ m = n / 2 ^ k ∧ Hp w [.row A k c 5 1 (gJ (bP 2 k n))] w')
  (fun v _ _ => (intOf v).toNat) ?_ ?_
 ·exact ⟨0, n, none, 0, rfl, hn, Uz, by simpa using hn, rfl, by simp, hh⟩
 ·clear hh;rintro ρ' v o w' ⟨k, m, A, c, rfl, hm, hk, hmk, rfl, hmn, hh⟩;by_cases h0 : m = 0
  ·subst h0;refine ah (sr (mI ?_));refine cq (aa (cF (a9 (aE (aE (bC (ai (sr (mL ?_)))))))));refine bD hh (il _ _ _ (bP 2 k n) _ (hh.aA (i := 0) rfl) (gj Uz _ _) (hh.fN (i := 0) rfl) Uz) rfl ?_;intro w15 hh;have hlt : n < 2 ^ k := by
    have := Wn n (2 ^ k);have h2 := Va n (Vj (n := k) (show 0 < 2 by omega));rw [← hmn] at this;omega
   rw [dn hlt];exact FZ
  ·have hk64 : k < 64 := by
    refine XC fun h => ?_;rw [show 64 - k = 0 by omega] at hmk;omega
   have hm2 : m % 2 < 256 := Uz;refine ah (sr (mI ?_));refine cq (aa (cT (ar (ai (ah (aq (ao (mL (mI ?_)))))))));refine Cf (b := 2) rfl rfl Uz UA ?_;refine mq ?_;refine xx ?_;intro b12 w12 hh;refine qi ?_;intro A13 c13 w13 hh;simp only [UU, Vp] at hh;replace hh := hh.sub (Vs _ _);refine vR ?_;refine PZ (b := 2) rfl rfl Uz (by first | assumption | omega) UA ?_;refine aI (aC (ai ?_));have e1 : gJ (bP 2 k n) ++ [Value.int .u8 ((m % 2 : Nat) : Int)] = gJ (bP 2 (k + 1) n) := by
    rw [hmn, lG, tX]; rfl
   rw [e1] at hh;refine ⟨⟨k + 1, m / 2, A13, c13, rfl, Uz, Uz, ?_, rfl, ?_, hh⟩, by show (((m / 2 : Nat) : Int)).toNat < ((m : Int)).toNat; omega, ?_⟩
   ·rw [show 64 - k = (64 - (k + 1)) + 1 by omega, Vy] at hmk;omega
   ·rw [hmn, Wo, Vy]
   ·exact dQ
theorem jH (a : ByteArray) : (aU 2 (bN a)).length ≤ 8 * a.size := gP a
theorem k8 (n : Nat) : Dg 2 (aU 2 n) := (dK Uz n).1
theorem iK (n : Nat) : bB 2 (aU 2 n) = n := dJ Uz n
theorem uh (a b : ByteArray) (w : World) (ha : a.size ≤ 1000000000) (hb : b.size ≤ 1000000000) :
  Calls Tryz.prog 241 #[.string a, .string b] w fun e w' => e = .returned (.int .i64 (k6 (bN a) (bN b))) ∧ Below w.heap.size w w' := by
 have hh := Hp.start w;have h1 := jH a;have h2 := jH b;refine aj (N := 10) (l := [.string a, .string b]) Tryz.func241 rfl rfl (by simp) ?_;refine sr (aI (aa (sr (mS ?_))));refine Ei ?_;rintro e_ w6 ⟨A6, c6, rfl, hown_, hb_⟩;refine ⟨_, rfl, ?_⟩;replace hh := hh.aV (x := .row _ _ _ _ _ _) hb_ hown_;refine mS ?_;refine aF (fa b _ hb) al.out rfl UA ?_;rintro e_ w8 ⟨A8, c8, rfl, hown_, hb_⟩;refine ⟨_, rfl, ?_⟩;replace hh := hh.aV (x := .row _ _ _ _ _ _) hb_ hown_;refine bD hh (ng _ _ _ _ _ _ (aU 2 (bN a)) (aU 2 (bN b)) _ (hh.aA (i := 1) rfl) (hh.aA (i := 0) rfl) (k8 _) (k8 _) Uz Uz) rfl ?_;intro w9 hh;rw [iK, iK];exact Bw
theorem o8 (a : ByteArray) (w : World) (ha : a.size ≤ 1000000000) :
  Calls Tryz.prog 239 #[.string a] w fun e w' => e = .returned (.int .i64 (bF (bN a))) ∧ Below w.heap.size w w' := by
 have hh := Hp.start w;refine aj (N := 6) (l := [.string a]) Tryz.func239 rfl rfl (by simp) ?_;refine sr (aI (aa (sr (mS ?_))));refine Ei ?_;rintro e_ w4 ⟨A4, c4, rfl, hown_, hb_⟩;refine ⟨_, rfl, ?_⟩;replace hh := hh.aV (x := .row _ _ _ _ _ _) hb_ hown_;refine aJ (aI (aa (av ?_)));refine de ?_;exact ⟨rfl, hh.below⟩
theorem oD (a b : ByteArray) (w : World) (ha : a.size ≤ 1000000000) (hb : b.size ≤ 1000000000) :
  Calls Tryz.prog 216 #[.string a, .string b] w fun e w' => e = .returned (.tuple #[.string (sN (bN a - bN b)), .bool (decide (bN b ≤ bN a))]) ∧ Below w.heap.size w w' := by
 have hh := Hp.start w;have h1 := jH a;have h2 := jH b;by_cases hlt : bN a < bN b
 ·refine aj (N := 16) (l := [.string a, .string b]) Tryz.func216 rfl rfl (by simp) ?_;refine sr (aS (aB (aa (ah (sr (mS (mS ?_)))))));refine bD hh (uh a b _ ha hb) rfl ?_;intro w8 hh;rw [mh hlt];exact Rs
 ·have hc : ¬ k6 (bN a) (bN b) < 0 := by unfold k6; split <;> (try split) <;> omega
  have hbl : bN a - bN b < 2 ^ (aU 2 (bN a)).length := VK (Nat.sub_le _ _) (dq (bN a));refine aj (N := 16) (l := [.string a, .string b]) Tryz.func216 rfl rfl (by simp) ?_;refine sr (aS (aB (aa (ah (sr (mS (mS ?_)))))));refine bD hh (uh a b _ ha hb) rfl ?_;intro w8 hh;refine bh (aa (cF (ar (ai (sr (mS ?_))))));refine Ei ?_;rintro e_ w11 ⟨A11, c11, rfl, hown_, hb_⟩;refine ⟨_, rfl, ?_⟩;replace hh := hh.aV (x := .row _ _ _ _ _ _) hb_ hown_;refine mS ?_;refine aF (fa b _ hb) al.out rfl UA ?_;rintro e_ w13 ⟨A13, c13, rfl, hown_, hb_⟩;refine ⟨_, rfl, ?_⟩;replace hh := hh.aV (x := .row _ _ _ _ _ _) hb_ hown_;refine aF (qa _ _ _ _ _ _ (aU 2 (bN a)) (aU 2 (bN b)) _ (hh.aA (i := 1) rfl) (hh.aA (i := 0) rfl) (k8 _) (k8 _) Uz Uz (by rw [iK, iK]; omega)) al.out rfl UA ?_;rintro e_ w_ ⟨b14, rfl, hown_, hb_⟩;refine ⟨_, rfl, ?_⟩;replace hh := hh.aV (x := .row _ _ _ _ _ _) hb_ hown_;rw [iK, iK] at hh;refine bD hh (il _ _ _ (bP 2 (aU 2 (bN a)).length (bN a - bN b)) _ (hh.aA (i := 0) rfl) (gj Uz _ _) (UH _) Uz) rfl ?_;intro w15 hh;rw [dn hbl];exact Nu
theorem Cg (L : Option Addr) (n c : Nat) (ss : List ByteArray) (w : World) (hS : Sl w L n 1 (lS ss)) (hn : n ≤ 1000000) (hs : ∀ s ∈ ss, s.size ≤ 1000000000) :
  Calls Tryz.prog 215 #[.slice L n c] w fun e w' => e = .returned (.string (sN (ss.map bN).sum)) ∧ Below w.heap.size w w' := by
 have hsl : ss.length = n := by have := hS.1; rw [rL] at this; omega
 have hh := Hp.start w;refine aj (N := 20) (l := [.slice L n c]) Tryz.func215 rfl rfl (by simp) ?_;refine sr (aS (aa (sr (aL (aa (ah (sr (aI (aa (aq ?_))))))))));replace hh := hh.cY 5 1;refine bK [3, 4, 5, 6, 7, 8, 9, 10, 11, 12, 13, 14, 15, 16, 17] 3 4
  (fun v j w' => ∃ (i : Nat) (A : Option Addr) (c' T K : Nat), i ≤ n ∧ j = .int .i64 i ∧ T = ((ss.take i).map bN).sum ∧ v = .slice A K c' ∧ K ≤ 8000000000 + i ∧ T < 2 ^ K ∧ Hp w [.row A K c' 5 1 (gJ (bP 2 K T))] w')
  (fun _ j _ => n - (intOf j).toNat) ?_ ?_
 ·exact ⟨0, none, 0, 0, 0, UI _, rfl, rfl, rfl, Uz, by simp, hh⟩
 ·clear hh;rintro ρ' v j w' ⟨i, A, c', T, K, hi, rfl, hT, rfl, hTl, hTb, hh⟩;by_cases hlt : i < n
  ·obtain ⟨s, hsi⟩ := ak (l := ss) (k := i) Uz;obtain ⟨ad, rfl, hr⟩ := hS.at_ Uz;have hs2 := Fa hsi;have hsz := hs s (UJ hsi);have hlx := jH s;have hT2 : ((ss.take (i + 1)).map bN).sum = T + bN s := by rw [ay hsi, VC, Xk, qQ, hT]
   have hbs : bN s < 2 ^ (aU 2 (bN s)).length := dq _;have hb2 : T + bN s < 2 ^ (max K ((aU 2 (bN s)).length + 0) + 1) := by
    have h1 : 2 ^ K ≤ 2 ^ max K ((aU 2 (bN s)).length + 0) := Vr Uz Uz;have h2 : 2 ^ (aU 2 (bN s)).length ≤ 2 ^ max K ((aU 2 (bN s)).length + 0) := Vr Uz Uz;rw [Vy]; omega
   refine ah (sr (mI (mL (aJ ?_))));refine Kr ?_;refine ct ?_;refine jL ?_;refine aF (fa s _ hsz) al.out rfl UA ?_;rintro e_ w16 ⟨A16, c16, rfl, hown_, hb_⟩;refine ⟨_, rfl, ?_⟩;replace hh := hh.aV (x := .row _ _ _ _ _ _) hb_ hown_;refine aF (Bm _ _ _ _ _ _ 0 (bP 2 K T) (aU 2 (bN s)) _ (hh.aA (i := 1) rfl) (hh.aA (i := 0) rfl) (gj Uz _ _) (k8 _) Uz Uz Uz) al.out rfl UA ?_;rintro e_ w_ ⟨b17, rfl, hown_, hb_⟩;refine ⟨_, rfl, ?_⟩;rw [iK, dn hTb, Xs, U3] at hown_;replace hh := (hh.aV (x := .row _ _ _ _ _ _) hb_ hown_).sub (Xa [_] _);refine vR ?_;refine bo (aI (aC (ai ?_)));refine ⟨⟨i + 1, _, _, T + bN s, _, Uz, rfl, hT2.symm, rfl, Uz, hb2, hh⟩, by show n - (i + 1) < n - i; omega, ?_⟩;exact dQ
  ·refine ah (sr (mI (mL (aJ ?_))));refine bh (aa (cF (a9 (aE (aE (bC (ai (sr (mL ?_)))))))));refine bD hh (il _ _ _ (bP 2 K T) _ (hh.aA (i := 0) rfl) (gj Uz _ _) (hh.fN (i := 0) rfl) Uz) rfl ?_;intro w19 hh;rw [dn hTb];exact Rl
theorem Ji (X Y k : Nat) (hY : 0 < Y) : X / 2 ^ k % Y = (if Y ≤ X / 2 ^ k % 2 + 2 * (X / 2 ^ (k + 1) % Y) then X / 2 ^ k % 2 + 2 * (X / 2 ^ (k + 1) % Y) - Y else X / 2 ^ k % 2 + 2 * (X / 2 ^ (k + 1) % Y)) ∧
  X / 2 ^ k / Y % 2 = (if Y ≤ X / 2 ^ k % 2 + 2 * (X / 2 ^ (k + 1) % Y) then 1 else 0) ∧ X / 2 ^ k / Y / 2 = X / 2 ^ (k + 1) / Y := by
 have h1 := md X k;have hb : X / 2 ^ k % 2 < 2 := Va _ Uz;generalize X / 2 ^ k % 2 = b at *;generalize X / 2 ^ k = Z at *;generalize X / 2 ^ (k + 1) = V at *;have h2 := Wn V Y;have h3 := Va V hY;generalize V / Y = q at *;generalize V % Y = r at *;have e : Z = (b + 2 * r) + Y * (2 * q) := by rw [h1, ← h2, Vz, X1]; omega
 rw [e, Wa, VS _ _ hY];by_cases hc : Y ≤ b + 2 * r
 ·rw [UF hc, UF hc];have e2 : b + 2 * r = (b + 2 * r - Y) + Y * 1 := Uz;have h4 : b + 2 * r - Y < Y := Uz;have h5 : (b + 2 * r) / Y = 1 := by rw [e2, VS _ _ hY, Vx h4]
  have h6 : (b + 2 * r) % Y = b + 2 * r - Y := by conv => lhs; rw [e2, Wa, Vh h4]
  rw [h5, h6];omega
 ·rw [UE hc, UE hc, Vh Uz, Vx Uz];omega
theorem oV (a b : ByteArray) (w : World) (ha : a.size ≤ 1000000000) (hb : b.size ≤ 1000000000) (hb0 : bN b ≠ 0) :
  Calls Tryz.prog 238 #[.string a, .string b] w fun e w' => e = .returned (.tuple #[.string (sN (bN a / bN b)), .string (sN (bN a % bN b)), .bool true]) ∧ Below w.heap.size w w' := by
 have hh := Hp.start w;have h1 := jH a;have h2 := jH b;have hX := iK (bN a);have hXd := k8 (bN a);have hXl : bN a < 2 ^ (aU 2 (bN a)).length := dq _;have hYp : 0 < (aU 2 (bN b)).length := pH hb0;have hget : ∀ k, k < (aU 2 (bN a)).length → (aU 2 (bN a))[k]? = some (bN a / 2 ^ k % 2) := fun k hk => AG Uz hk;refine aj (N := 52) (l := [.string a, .string b]) Tryz.func238 rfl rfl (by simp) ?_;refine sr (aS (aS (aB (aa (sr (mS ?_))))));refine Ei ?_;rintro e_ w13 ⟨A13, c13, rfl, hown_, hb_⟩;refine ⟨_, rfl, ?_⟩;replace hh := hh.aV (x := .row _ _ _ _ _ _) hb_ hown_;refine mS ?_;refine aF (fa b _ hb) al.out rfl UA ?_;rintro e_ w15 ⟨A15, c15, rfl, hown_, hb_⟩;refine ⟨_, rfl, ?_⟩;replace hh := hh.aV (x := .row _ _ _ _ _ _) hb_ hown_;refine aL (aL (aa (ah (sr (mL (aJ ?_))))));refine cW (aa (cF (ar (ai (sr (mL (aJ ?_)))))));refine gu hh rfl rfl rfl rfl bk.out aM.out rfl Uz Uz UA ?_;intro b21 w21 hh;refine aL (aa (sr (aL (aa (ah (sr (mL (aJ ?_))))))));refine dW (aI (aa (aq ?_)));rw [qj] at hh;generalize hxs : aU 2 (bN a) = xs at *;replace hh := hh.cY 5 1;refine bK [10, 11, 25, 26, 27, 28, 29, 30, 31, 32, 33, 34, 35, 36, 37, 38, 39, 40, 41, 42, 43, 44, 45, 46, 47] 10 11
  (fun v j w' => ∃ (k : Nat) (A : Option Addr) (c' : Nat), k ≤ xs.length ∧ j = .int .i64 ((k : Int) - 1) ∧ v = .slice A (aU 2 (bN a / 2 ^ k % bN b)).length c' ∧ Hp w [.row A (aU 2 (bN a / 2 ^ k % bN b)).length c' 5 1 (gJ (aU 2 (bN a / 2 ^ k % bN b))), .row (some ⟨b21, 0, none⟩) xs.length xs.length 5 1 (gJ (List.replicate k 0 ++ bP 2 (xs.length - k) (bN a / 2 ^ k / bN b))), .row A15 (aU 2 (bN b)).length c15 5 1 (gJ (aU 2 (bN b))), .row A13 xs.length c13 5 1 (gJ xs)] w')
  (fun _ j _ => (intOf j + 1).toNat) ?_ ?_
 ·refine ⟨xs.length, none, 0, UH _, rfl, ?_, ?_⟩
  ·rw [Vx hXl, Nat.zero_mod, gk Uz]; rfl
  ·rw [Vx hXl, Nat.zero_mod, gk Uz, Vw]; simp only [bP, Vo]; exact hh
 ·clear hh;rintro ρ' v j w' ⟨k, A, c', hk, rfl, rfl, hh⟩;by_cases h0 : k = 0
  ·subst h0;rw [Xs, Nat.div_one, Nat.sub_zero, XY, UN] at hh;rw [Xs, Nat.div_one];have hq : bN a / bN b < 2 ^ xs.length := VK (Xe _ _) hXl;have hrl : (aU 2 (bN a % bN b)).length ≤ (aU 2 (bN b)).length := oa Uz (Nat.le_of_lt (Va _ Uz));refine ah (sr (mI ?_));refine dL (aa (cF (a9 (aE (aE (bC (ai (sr (mL ?_)))))))));refine bD hh (il _ _ _ (bP 2 xs.length (bN a / bN b)) _ (hh.aA (i := 1) rfl) (gj Uz _ _) (UH _) Uz) rfl ?_;intro w49 hh;rw [dn hq];refine mL ?_;refine bD hh (il _ _ _ (aU 2 (bN a % bN b)) _ (hh.aA (i := 0) rfl) (k8 _) (hh.fN (i := 0) rfl) Uz) rfl ?_;intro w51 hh;rw [iK];refine aS (aS (aB (aa (av ?_))));refine Uf ?_;exact ⟨rfl, hh.below⟩
  ·obtain ⟨i, rfl⟩ : ∃ i, k = i + 1 := ⟨k - 1, Uz⟩;have hji : ((i + 1 : Nat) : Int) - 1 = (i : Int) := Uz;obtain ⟨d1, d2, d3⟩ := Ji (bN a) (bN b) i Uz;have hgi := rh (hget i Uz);have hdw : bN a / 2 ^ i % 2 < 2 := Va _ Uz;have hrl : (aU 2 (bN a / 2 ^ (i + 1) % bN b)).length ≤ (aU 2 (bN b)).length := oa Uz (Nat.le_of_lt (Va _ Uz));have hqk : bP 2 (xs.length - i) (bN a / 2 ^ i / bN b) = (bN a / 2 ^ i / bN b % 2) :: bP 2 (xs.length - (i + 1)) (bN a / 2 ^ (i + 1) / bN b) := by
    rw [show xs.length - i = (xs.length - (i + 1)) + 1 by omega, bP, d3]
   rw [hji];obtain ⟨g, rfl⟩ := hh.cN (i := 3) rfl Uz;refine ah (sr (mI ?_));refine dL (aa (cT (ar (ai (ah (aq (sr (mL (mI ?_)))))))));refine gD ?_;refine bV aM.out rfl (hh.gg (i := 3) rfl (by first | assumption | (simp only [U3]; assumption))) UA ?_;refine xx ?_;intro b33 w33 hh;refine mL ?_;refine cH hh (i := 0) rfl rfl rfl (hh.aA (i := 1) rfl) bk.out aM.out rfl UA (by first | rfl | exact dz _ | exact dh _ | exact bT _ | exact ck NR.one _) Uz Uz UA ?_;intro A35 c35 w35 hh;simp only [UU] at hh;have e35 : [Value.int .u8 ((bN a / 2 ^ i % 2 : Nat) : Int)] ++ gJ (aU 2 (bN a / 2 ^ (i + 1) % bN b)) = gJ ((bN a / 2 ^ i % 2) :: aU 2 (bN a / 2 ^ (i + 1) % bN b)) := rfl;rw [e35] at hh;generalize hR : bN a / 2 ^ (i + 1) % bN b = R at *;generalize hbt : bN a / 2 ^ i % 2 = bt at *;have hdg : Dg 2 (bt :: aU 2 R) := Dg.cons hdw (k8 _);have hcv : dI (bt :: aU 2 R) = aU 2 (bt + 2 * R) := by rw [g9 Uz hdg, bB, iK]
   have hll : (bt :: aU 2 R).length = 1 + (aU 2 R).length := by rw [U7]; omega
   have hcl := fu (bt :: aU 2 R);refine bD hh (lL _ _ _ (bt :: aU 2 R) _ (hh.aA (i := 0) rfl) (hh.fN (i := 0) rfl) Uz) rfl ?_;intro w36 hh;replace hh := hh.PD hll;rw [hcv] at hh hcl;rw [hcv];refine aL (aa (sr (mL (mL ?_))));refine bD hh (ng _ _ _ _ _ _ (aU 2 (bt + 2 * R)) (aU 2 (bN b)) _ (hh.aA (i := 0) rfl) (hh.aA (i := 3) rfl) (k8 _) (k8 _) Uz Uz) rfl ?_;intro w39 hh;rw [iK, iK];by_cases hge : bN b ≤ bt + 2 * R
   ·have hc : 0 ≤ k6 (bt + 2 * R) (bN b) := by unfold k6; rw [UE Uz]; split <;> omega
    rw [UF hge] at d1 d2;have hml : bt + 2 * R - bN b < 2 ^ (aU 2 (bt + 2 * R)).length := VK (Nat.sub_le _ _) (dq _);have hcm : dI (bP 2 (aU 2 (bt + 2 * R)).length (bt + 2 * R - bN b)) = aU 2 (bt + 2 * R - bN b) := by rw [g9 Uz (gj Uz _ _), dn hml]
    refine dL (aa (cT (sr (mL (mL ?_)))));refine aF (qa _ _ _ _ _ _ (aU 2 (bt + 2 * R)) (aU 2 (bN b)) _ (hh.aA (i := 0) rfl) (hh.aA (i := 3) rfl) (k8 _) (k8 _) Uz Uz (by rw [iK, iK]; exact hge)) al.out rfl UA ?_;rintro e_ w_ ⟨b43, rfl, hown_, hb_⟩;refine ⟨_, rfl, ?_⟩;replace hh := hh.aV (x := .row _ _ _ _ _ _) hb_ hown_;rw [iK, iK] at hh;refine bD hh (lL _ _ _ (bP 2 (aU 2 (bt + 2 * R)).length (bt + 2 * R - bN b)) _ (hh.aA (i := 0) rfl) (UH _) Uz) rfl ?_;intro w44 hh;replace hh := hh.PD (aO _ _);rw [hcm] at hh;rw [hcm];have hql : (gJ (List.replicate (i + 1) 0 ++ bP 2 (xs.length - (i + 1)) (bN a / 2 ^ (i + 1) / bN b))).length = xs.length := by rw [cO, UM, V1, aO]; omega
    refine aL (aa (ao (mL (mI ?_))));refine gD ?_;refine bQ hh (i := 3) (vs := [_]) rfl rfl (cK rfl) rfl aM.out rfl (by rw [hql]; omega) rfl ?_;intro ws hh;simp only [UU, Vp] at hh;rw [U3, cJ (by rw [hql]; omega)] at hh;have hset : (gJ (List.replicate (i + 1) 0 ++ bP 2 (xs.length - (i + 1)) (bN a / 2 ^ (i + 1) / bN b))).set i (.int .u8 1) = gJ (List.replicate i 0 ++ bP 2 (xs.length - i) (bN a / 2 ^ i / bN b)) := by
     have := pT (List.replicate (i + 1) 0 ++ bP 2 (xs.length - (i + 1)) (bN a / 2 ^ (i + 1) / bN b)) i 1;rw [hqk, d2, ← FD];exact this
    rw [hset] at hh;replace hh := hh.sub (.cons_cons _ (.cons _ (.cons _ (VX _))));refine aC (bE (ai (ao (mI ?_))));refine dW (aI (aC (ai ?_)));exact NF
   ·have hc : ¬ 0 ≤ k6 (bt + 2 * R) (bN b) := by rw [mh Uz]; omega
    rw [UE hge] at d1 d2;refine dL (aa (cF (ar (bE (ai (ao (mI ?_)))))));refine dW (aI (aC (ai ?_)));have hrep : List.replicate (i + 1) 0 ++ bP 2 (xs.length - (i + 1)) (bN a / 2 ^ (i + 1) / bN b) = List.replicate i 0 ++ bP 2 (xs.length - i) (bN a / 2 ^ i / bN b) := by
     rw [hqk, d2, List.replicate_succ', Vt]; rfl
    rw [hrep] at hh;replace hh := hh.sub (.cons_cons _ (.cons _ (VX _)));exact NF
end Go.Proofs.YteeckcbbnegmcaaGreatDoor
