/- Lemmas for castSame, part 3. -/
import Derived.Test.YteeckcbbnegmcaaGreatDoorZ2
namespace Go.Proofs.YteeckcbbnegmcaaGreatDoor
variable {C N c c' cy j k m n ny : Nat} {ad : Addr} {w w0 : World}
open Go.RowKit
theorem gQ (A : Option Addr) (n c : Nat) (xs : List Nat) (w : World) (hx : Sl w A n 1 (cN xs)) (hc : n ≤ c) (hn : n ≤ 1000000000000) :
  Calls Tryz.prog 245 #[.slice A n c] w fun e w' => e = .returned (.slice A (dH xs).length c) ∧ Below w.heap.size w w' := by
 have hlen : xs.length = n := by have := hx.1; rw [aT] at this; omega
 have hh := Hp.start w;refine aj (N := 21) (l := [.slice A n c]) Tryz.func245 rfl rfl (by simp) ?_;refine sr (aL (aa (ah (ao ?_))));refine aN [0, 3, 4, 5, 6, 7, 8, 9, 10, 11, 12, 13, 14, 15, 16, 17, 18, 19] 0
  (fun v w' => ∃ k : Nat, k ≤ n ∧ v = .slice A k c ∧ dH (xs.take k) = dH xs ∧ w' = w)
  (fun v _ => lenOf v) ?_ ?_
 ·exact ⟨n, So _, rfl, by rw [Su Sd], rfl⟩
 ·rintro ρ' v w' ⟨k, hk, rfl, hcut, rfl⟩;by_cases h0 : k = 0
  ·subst h0;refine ah (sr (mL (aK ?_)));refine cg (mB ?_);refine gS (gS (gS (gS (gS ?_))));refine kP ?_;refine gS ?_;refine fa ?_;refine aa (cF (aV (aE (aE (bo (ai (sr (mL (aL (aa (au ?_)))))))))));refine da ?_;rw [← hcut];exact ⟨rfl, hh.below⟩
  ·obtain ⟨j, rfl⟩ : ∃ j, k = j + 1 := ⟨k - 1, Sd⟩;obtain ⟨d, hd⟩ := av (l := xs) (k := j) Sd;obtain ⟨ad, rfl, hr⟩ := hx.at_ Sd;have hd2 := eb hd;rw [ay hd] at hcut;by_cases hz : d = 0
   ·subst hz;rw [tS] at hcut;refine ah (sr (mL (aK ?_)));refine cg (mB (gT (mL (gT (mL (gT (aK (gT ?_))))))));refine eu (gT ?_);refine oL ?_;refine gT ?_;refine iy ?_;refine gT ?_;refine cH ?_;refine fV ?_;refine aa (cT (aq (ai (ao (al (mL (mL (aK ?_))))))));refine eu ?_;refine o6 (h := j) bq.out aP.size rfl rfl Sd Sd Se ?_;refine aL (az (bg (ai ?_)));refine ⟨⟨j, Sd, rfl, hcut, rfl⟩, by show j < j + 1; omega, ?_⟩;exact eB
   ·rw [vz hz] at hcut;refine ah (sr (mL (aK ?_)));refine cg (mB (gT (mL (gT (mL (gT (aK (gT ?_))))))));refine eu (gT ?_);refine oL ?_;refine gT ?_;refine iy ?_;refine gT ?_;refine cH ?_;refine fV ?_;refine aa (cF (aV (aE (aE (bo (ai (sr (mL (aL (aa (au ?_)))))))))));exact PK
theorem fC {B : Nat} {l : List Nat} {i : Nat} (h : l[i]? = some c) : bk B (l.take (i + 1)) = bk B (l.take i) + B ^ i * c := by
 have hi := (SC.1 h).1;rw [ay h, eF, SP, Tp Sd];simp [bk]
theorem Hp.CN {H : List HE} {A : Option Addr} {t : TypeId} {xs : List Nat} (h : Hp w0 (.row A n c t 1 (cN xs) :: H) w) (hl : xs.length = n) : Hp w0 (.row A (dH xs).length c t 1 (cN (dH xs)) :: H) w := by
 have h1 := fk xs;have h2 := h.AY (k := (dH xs).length) Sd;rw [SI, ← vh, ← jA] at h2;exact h2
theorem EK (a : ByteArray) (w : World) (ha : a.size ≤ 100000000000) :
  Calls Tryz.prog 224 #[.string a] w fun e w' => ∃ b c, e = .returned (.slice (some ⟨b, 0, none⟩) (aQ 18446744073709551616 (bn a.data.toList)).length c) ∧ w'.ownsRow w.heap.size 204 1 (.slice (some ⟨b, 0, none⟩) (aQ 18446744073709551616 (bn a.data.toList)).length c) (aQ 18446744073709551616 (bn a.data.toList)).length (cN (aQ 18446744073709551616 (bn a.data.toList))) ∧ Below w.heap.size w w' := by
 have hsz := dE a;have hh := Hp.start w;refine aj (N := 39) (l := [.string a]) Tryz.func224 rfl rfl (by simp) ?_;refine sr (aL (aa (sr (mS ?_))));refine bD bq.out rfl Se ?_;refine a9 ?_;refine kT ?_;refine gD (n := (a.size + 7) / 8) hh rfl rfl Sd Sd bq.out aP.out rfl Sd Sd Se ?_;intro b10 w10 hh;refine aL (aa (ah (sr (mS ?_))));refine bD bq.out rfl Se ?_;refine mI (aa (ao ?_));rw [oK] at hh;refine aN [4, 5, 13, 14, 15, 16, 17, 18, 19, 20, 21, 22, 23, 24, 25, 26, 27, 28, 29, 30, 31, 32, 33, 34, 35, 36] 13
  (fun v w' => ∃ i : Nat, i ≤ a.size ∧ v = .int .i64 i ∧ Hp w [.row (some ⟨b10, 0, none⟩) ((a.size + 7) / 8) ((a.size + 7) / 8) 204 1 (cN (bI 18446744073709551616 ((a.size + 7) / 8) (bk 256 ((yp a.data.toList).take i))))] w')
  (fun v _ => a.size - (intOf v).toNat) ?_ ?_
 ·exact ⟨0, Sn _, rfl, by rw [UF, bk, qk]; exact hh⟩
 ·clear hh;rintro ρ' v w' ⟨i, hi, rfl, hh⟩;by_cases hlt : i < a.size
  ·obtain ⟨c, hc⟩ := av (l := a.data.toList) (k := ((a.size : Int) - 1 - i).toNat) Sd;have hlo := HS (s := a.data.toList) (i := i) (c := c) Sd (by rw [← hc]; congr 1; omega);have hc8 := c.toNat_lt;have hn := ij ((wj a.data.toList).take i);rw [SP, nH, Tp Sd] at hn;obtain ⟨s1, s2, s3⟩ := KG (k := (a.size + 7) / 8) (bk 256 ((yp a.data.toList).take i)) hn hc8 Sd;have hg := eb (ic (B := 18446744073709551616) ((a.size + 7) / 8) (bk 256 ((yp a.data.toList).take i)) (i / 8) Sd);have e1 : ((i : Int) % 8 * 8).toNat = i % 8 * 8 := Sd;refine sr ?_;refine a6 (aa (ah (cT (aq (ai (ah (ao (sr (mI (aI (aa (sr (mS ?_)))))))))))));refine bD bq.out rfl Se ?_;refine eu (mI ?_);refine eu (aI (aa ?_));refine aU 13 [[(3, none)], [(4, none)], [(22, some 1)], [(21, some 0), (23, some 2)], [(24, some 3)], [(0, none)], [(5, none)], [(26, some 5), (27, some 6)], [(28, some 7)], [(4, none)], [(30, some 9)], [(31, some 10)], [(29, some 8), (32, some 11)]] [(12, 33), (11, 32), (10, 31), (9, 30), (8, 29), (7, 28), (6, 27), (5, 26), (4, 25), (3, 24), (2, 23), (1, 22), (0, 21)] hh mixed Sf ?_;refine iw ?_;refine eH ?_
   refine bB (i := 2) (fun ρ1 w1 hj hR => sI (show ρ1 22 = Value.int _ _ from hR.1) rfl Sd Sd Sd) ?_;refine Df (i / 8) ?_;refine bB (i := 4) (fun ρ1 w1 hj hR => ju aP.out (show ρ1 24 = Value.pointer _ from hR.1) (hj.hp.gk (i := 0) rfl (by first | assumption | (simp only [SI]; assumption)))) ?_;refine Rh ?_;refine eH ?_;refine bB (i := 7) (fun ρ1 w1 hj hR => qP bq.out (show ρ1 26 = Value.string _ from hR.1) (show ρ1 27 = Value.int _ _ from hR.2.1) Sd (by assumption)) ?_;refine bB (i := 8) (fun ρ1 w1 hj hR => rH bq.out bq.out (show ρ1 28 = Value.int _ _ from hR.1) (by first | assumption | omega)) ?_;refine eH ?_;refine bB (i := 10) (fun ρ1 w1 hj hR => pF (show ρ1 30 = Value.int _ _ from hR.1) rfl Sd Sd) ?_;refine OC ?_;refine bB (i := 12) (fun ρ1 w1 hj hR => wR (show ρ1 29 = Value.int _ _ from hR.1) (show ρ1 32 = Value.int _ _ from hR.2.1) Sd) ?_;refine aR ?_;intro f W hJ hV;have hb_6 := hJ.bl;obtain ⟨v33, v32, v31, v30, v29, v28, v27, v26, v25, v24, v23, v22, v21, _⟩ := hV;replace hh := hJ.hp;refine aX (bp (ae v33 (ae v32 (ae v31 (ae v30 (ae v29 (ae v28 (ae v27 (ae v26 (ae v25 (ae v24 (ae v23 (ae v22 (ae v21 aW)))))))))))))) ?_;dsimp only [ck];clear hJ;refine BL ?_
   refine cG (k := i / 8) bq.out aP.size rfl rfl Sd Sd Se ?_;refine Gu ?_;intro ws hh;simp only [Sy] at hh;rw [e1, SY s2, Bn s1, cB (by rw [aT, aJ]; omega), SI, fP, s3, ← fC hlo] at hh;refine fG ?_;refine a9 (mI (az (ai ?_)));refine ⟨⟨i + 1, Sd, rfl, hh⟩, by show a.size - (i + 1) < a.size - i; omega, ?_⟩;exact eB
  ·refine sr ?_;refine oV ?_;rw [Su (by rw [nH]; omega)] at hh;refine br hh (gQ _ _ _ (bI 18446744073709551616 ((a.size + 7) / 8) (bn a.data.toList)) _ (hh.aD (i := 0) rfl) (So _) Sd) rfl ?_;intro w38 hh;refine aL (aa (au ?_));refine da ?_;have hbd : bn a.data.toList < 18446744073709551616 ^ ((a.size + 7) / 8) := by
    refine Tg (La _) ?_;rw [← hsz, show (256 : Nat) = 2 ^ 8 from rfl, show (18446744073709551616 : Nat) = 2 ^ 64 from rfl, ← S7, ← S7];exact S4 Sd Sd
   have hd : dH (bI 18446744073709551616 ((a.size + 7) / 8) (bn a.data.toList)) = aQ 18446744073709551616 (bn a.data.toList) := by
    exact NH
   have h1 := (Hp.CN (xs := bI 18446744073709551616 ((a.size + 7) / 8) (bn a.data.toList)) hh (aJ _ _)).at_ (i := 0) rfl;exact Ke
theorem Sl.Nt {A : Option Addr} {xs : List Nat} (h : Sl w A n 1 (cN xs)) (hk : k ≤ n) : Sl w A k 1 (cN (xs.take k)) := by
 have hl := h.1;rw [aT] at hl;refine ⟨by rw [aT, SP]; omega, fun h0 => ?_⟩;obtain ⟨ad, he, hr⟩ := h.2 Sd;exact ⟨ad, he, by rw [vh]; exact hr.take k⟩
theorem Sl.xl {A : Option Addr} {xs : List Nat} (h : Sl w A n 1 (cN xs)) : Sl w A (dH xs).length 1 (cN (dH xs)) := by
 have hl := h.1;rw [aT] at hl;have := fk xs;have h2 := h.Nt (k := (dH xs).length) Sd;rwa [← jA] at h2
theorem Ac {xs : List Nat} (h : Dg 18446744073709551616 xs) : bu (bk 18446744073709551616 xs) ≤ 64 * xs.length := by
 apply dt;rw [S7];exact ij h
theorem sJ (A : Option Addr) (n c : Nat) (xs : List Nat) (w : World) (hx : Sl w A n 1 (cN xs)) (hd : Dg 18446744073709551616 xs) (hc : n ≤ c) (hn : n ≤ 100000000000) :
  Calls Tryz.prog 248 #[.slice A n c] w fun e w' => e = .returned (.int .i64 (bu (bk 18446744073709551616 xs))) ∧ Below w.heap.size w w' := by
 have hl := hx.1;rw [aT] at hl;have hcl := fk xs;have hcx := hx.xl;have hcd := hd.cut;have hlast := ux xs;rw [← kN];generalize hcs : dH xs = cs at *;have hh := Hp.start w;refine aj (N := 19) (l := [.slice A n c]) Tryz.func248 rfl rfl (by simp) ?_;refine sr (aI (aa (sr (mL ?_))));refine br hh (gQ _ _ _ xs _ hx hc Sd) rfl ?_;intro w4 hh;rw [hcs];by_cases h0 : cs.length = 0
 ·refine aL (aa (ah (sr (mL (aK ?_)))));refine Cl ?_;refine da ?_;have : cs = [] := TW h0;subst this;exact ⟨by rw [bk, ku]; rfl, hh.below⟩
 ·obtain ⟨ad, rfl, hr⟩ := hcx.at_ Sd;obtain ⟨d, hd⟩ := av (l := cs) (k := cs.length - 1) Sd;have hd2 := eb hd;have hd3 := hcd.at_ hd;have e1 : cs.take (cs.length - 1) ++ [d] = cs := by rw [← ay hd, Su Sd]
  have hnz : d ≠ 0 := by
   intro h;subst h;apply hlast;rw [List.getLast?_eq_getElem?];exact hd
  have hb := G2 (B := 18446744073709551616) (b := 64) (m := cs.length - 1) Se (hcd.take (cs.length - 1)) (by rw [SP]; omega) hnz;rw [e1] at hb;have hb2 : bu d ≤ 64 := dt (by simpa using hd3);refine aL (aa (ah (sr (mL (aK ?_)))));refine cH (aa (cF (aq (ai (sr (mL (aK ?_)))))));refine mulC (mL (mL (aK ?_)));refine eu ?_;refine db (k := cs.length - 1) bq.out aP.size rfl rfl Sd Sd Se ?_;refine iy ?_;refine br hh (Am _ _ hd3) rfl ?_;intro w17 hh;refine eu (aI (aa (au ?_)));refine da ?_;refine ⟨?_, hh.below⟩;congr 2;omega
theorem Ak (N : Nat) : (aQ 256 N).length = (bu N + 7) / 8 := by
 have h256 : (256 : Nat) = 2 ^ 8 := rfl;have h1 : (aQ 256 N).length ≤ (bu N + 7) / 8 := by
  apply gO Sd;refine Tg (cW N) ?_;rw [h256, ← S7];exact S4 Sd Sd
 have h2 := pz (B := 256) Sd N;have h3 : bu N ≤ 8 * (aQ 256 N).length := by
  apply dt;rw [S7];exact h2
 omega
theorem kO {B : Nat} (i N : Nat) : bI B (i + 1) N = bI B i N ++ [N / B ^ i % B] := by
 apply S0;intro j
 rcases Nat.lt_trichotomy j i with h | h | h
 ·rw [ic _ _ _ Sd, UM (by rw [aJ]; exact h), ic _ _ _ h]
 ·subst h;rw [ic _ _ _ Sd, Tu (by rw [aJ]; omega), aJ];simp
 ·rw [Sw (by rw [aJ]; omega), Sw (by rw [Sr, aJ]; simp; omega)]
theorem DE {R : List Nat} {x : Nat} : (List.replicate (k + 1) 0 ++ R).set k x = List.replicate k 0 ++ (x :: R) := by
 rw [List.replicate_succ', S5, Un _ _ (by simp)];simp
theorem gR (A : Option Addr) (n c : Nat) (xs : List Nat) (w : World) (hx : Sl w A n 1 (cN xs)) (hd : Dg 18446744073709551616 xs) (hc : n ≤ c) (hn : n ≤ 10000000000) :
  Calls Tryz.prog 235 #[.slice A n c] w fun e w' => e = .returned (.string (str (sb (bk 18446744073709551616 xs)))) ∧ Below w.heap.size w w' := by
 have hl := hx.1;rw [aT] at hl;have hcl := fk xs;have hcx := hx.xl;have hcd := hd.cut;have hbl := Ac hcd;have hcan := gZ Sd hd;have hlen := Ak (bk 18446744073709551616 xs);rw [kN] at hbl;have hh := Hp.start w;refine aj (N := 37) (l := [.slice A n c]) Tryz.func235 rfl rfl (by simp) ?_;refine sr (aS (aa (sr (mL ?_))));refine br hh (gQ _ _ _ xs _ hx hc Sd) rfl ?_;intro w7 hh;rw [hcan] at hcl hcx hcd hbl;rw [hcan];refine aL (aa (sr (mL ?_)));refine br hh (sJ _ _ _ (aQ 18446744073709551616 (bk 18446744073709551616 xs)) _ (hcx.ext hh.below) hcd Sd Sd) rfl ?_;intro w9 hh;rw [dJ Sd];generalize bk 18446744073709551616 xs = M at *;refine a9 ?_;refine kT ?_;refine aI (aa (sr (mI ?_)));refine gD (n := (bu M + 7) / 8) hh rfl rfl Sd Sd bq.out aP.out rfl Sd Sd Se ?_;intro b13 w13 hh;refine aL (aa (ah (sr (mI (mI (aa (ao ?_)))))));rw [o4] at hh;refine aN [5, 15, 16, 17, 18, 19, 20, 21, 22, 23, 24, 25, 26, 27, 28, 29, 30, 31, 32, 33, 34] 15
  (fun v w' => ∃ i : Nat, i ≤ (bu M + 7) / 8 ∧ v = .int .i64 i ∧ Hp w [.row (some ⟨b13, 0, none⟩) ((bu M + 7) / 8) ((bu M + 7) / 8) 5 1 (gl (List.replicate ((bu M + 7) / 8 - i) 0 ++ (bI 256 i M).reverse))] w')
  (fun v _ => (bu M + 7) / 8 - (intOf v).toNat) ?_ ?_
 ·exact ⟨0, Sn _, rfl, by simpa [bI] using hh⟩
 ·clear hh;rintro ρ' v w' ⟨i, hi, rfl, hh⟩;by_cases hlt : i < (bu M + 7) / 8
  ·obtain ⟨ad, rfl, hr⟩ := hcx.at_ Sd;have hg := yc (B := 18446744073709551616) (n := M) (i := i / 8) Sd Sd;have hg2 := eb hg;have e1 : ((i : Int) % 8 * 8).toNat = i % 8 * 8 := Sd;refine sr ?_;refine a6 (aa (ah (cT (aq (ai (ah (ao (sr (mI (aI (aa (al (mL (mI ?_))))))))))))));refine eu (mI ?_);refine eu (mL (mI ?_));refine kT ?_;refine db (k := i / 8) bq.out aP.size rfl rfl Sd Sd Se ?_;refine iy ?_;refine mI ?_;refine qY ?_;refine mulC ?_;refine Bw rfl rfl Sd Se ?_;refine Js bq.out bq.out rfl Se ?_;refine cG (k := (bu M + 7) / 8 - 1 - i) bq.out aP.size rfl rfl Sd Sd Se ?_;refine bY hh (i := 0) (vs := [_]) rfl rfl (cJ rfl) rfl aP.out rfl (by rw [cz, Sr, SZ, TP, aJ]; omega) rfl ?_;intro ws hh;simp only [Sy] at hh;obtain ⟨k, hk⟩ : ∃ k, (bu M + 7) / 8 - i = k + 1 := ⟨(bu M + 7) / 8 - i - 1, Sd⟩;rw [e1, D3, SI, cB (by rw [cz, Sr, SZ, TP, aJ]; omega), oM, hk, show (bu M + 7) / 8 - 1 - i = k by omega, DE, ← List.reverse_concat, ← kO] at hh;refine fG ?_;refine a9 (mI (az (ai ?_)))
   refine ⟨⟨i + 1, Sd, rfl, by rw [show (bu M + 7) / 8 - (i + 1) = k by omega]; exact hh⟩, by show (bu M + 7) / 8 - (i + 1) < (bu M + 7) / 8 - i; omega, ?_⟩;exact eB
  ·obtain rfl : i = (bu M + 7) / 8 := Sd;have hfin : gl (List.replicate ((bu M + 7) / 8 - (bu M + 7) / 8) 0 ++ (bI 256 ((bu M + 7) / 8) M).reverse) = nQ (sb M) := by
    rw [Td, Vg, Ss, ← hlen];exact Px
   rw [hfin] at hh;refine sr ?_;refine oV ?_;exact LF
theorem nn (A : Option Addr) (n c m : Nat) (xs : List Nat) (w : World) (hx : Sl w A n 1 (cN xs)) (hn : n ≤ 10000000000) (hm : m ≤ 10000000000) :
  Calls Tryz.prog 249 #[.slice A n c, .int .i64 m] w fun e w' => ∃ b, e = .returned (.slice (some ⟨b, 0, none⟩) (max m n) (max m n)) ∧ w'.ownsRow w.heap.size 204 1 (.slice (some ⟨b, 0, none⟩) (max m n) (max m n)) (max m n) (cN (xs ++ List.replicate (max m n - n) 0)) ∧ Below w.heap.size w w' := by
 have hl := hx.1;rw [aT] at hl;have hh := Hp.start w;refine aj (N := 15) (l := [.slice A n c, .int .i64 m]) Tryz.func249 rfl rfl (by simp) ?_;refine sr (aL (aa (sr (mI (mL (aK ?_))))));refine kI rfl rfl Se ?_;refine gD (n := max m n) hh rfl rfl Sd Sd bq.out aP.out rfl Sd Sd Se ?_;intro b10 w10 hh;refine aL (aa (sr (mL (mL ?_))));rw [oK] at hh;refine C7 hh (i := 0) (o := 0) rfl rfl rfl (hx.ext hh.below) bq.out aP.out (by rw [aT, TP]; omega) (du _) Se ?_;intro w13 hh;skip;have e1 : bM (cN (List.replicate (max m n) 0)) 0 ((cN xs).take (min n (max m n) * 1)) = cN (xs ++ List.replicate (max m n - n) 0) := by
  rw [Su (by rw [aT]; omega), bM, UF, Ss, aT, ← uU, ← yX, List.drop_replicate];congr 3;omega
 simp only [Sy, e1] at hh;refine aa (sr (mL (aL (aa (au ?_)))));refine da ?_;exact ⟨_, rfl, hh.at_ (i := 0) rfl, hh.below⟩
theorem Az (A B : Option Addr) (n c m c' : Nat) (xs ys : List Nat) (w : World) (hx : Sl w A n 1 (cN xs)) (hy : Sl w B m 1 (cN ys)) (hdx : Dg 18446744073709551616 xs) (hdy : Dg 18446744073709551616 ys) (hc : n ≤ c) (hc' : m ≤ c') (hn : n ≤ 100000000000) (hm : m ≤ 100000000000) :
  Calls Tryz.prog 252 #[.slice A n c, .slice B m c'] w fun e w' => e = .returned (.int .i64 (kF (bk 18446744073709551616 xs) (bk 18446744073709551616 ys))) ∧ Below w.heap.size w w' := by
 have hlx := hx.1;have hly := hy.1;rw [aT] at hlx hly;have hcx := hx.xl;have hcy := hy.xl;have hxl := fk xs;have hyl := fk ys;have hx2 := Can.cut hdx;have hy2 := Can.cut hdy;have hh := Hp.start w;rw [← kN xs, ← kN ys];refine aj (N := 47) (l := [.slice A n c, .slice B m c']) Tryz.func252 rfl rfl (by simp) ?_;refine sr (aI (aa (sr (mL ?_))));refine br hh (gQ _ _ _ xs _ hx hc Sd) rfl ?_;intro w7 hh;refine mL ?_;refine br hh (gQ _ _ _ ys _ (hy.ext hh.below) hc' Sd) rfl ?_;intro w9 hh;generalize dH xs = us at *;generalize dH ys = vs at *;by_cases hlen : us.length = vs.length
 ·refine aL (aL (aa (ah (sr (mL (aK (mL (aK ?_))))))));refine cX (aa (cF (aq (ai (ah (sr (mL (aK ?_))))))));refine eu (aI (aa (ao ?_)));refine aN [4, 5, 23, 24, 25, 26, 27, 28, 29, 30, 31, 32, 33, 34, 35, 36, 37, 38, 39, 40, 41, 42, 43, 44, 45, 46] 5
   (fun v w' => ∃ k : Nat, k ≤ us.length ∧ v = .int .i64 ((k : Int) - 1) ∧ us.drop k = vs.drop k ∧ Hp w [] w')
   (fun v _ => (intOf v + 1).toNat) ?_ ?_
  ·exact ⟨us.length, So _, rfl, by rw [List.drop_length, List.drop_eq_nil_of_le Sd], hh⟩
  ·clear hh;rintro ρ' v w' ⟨k, hk, rfl, hd, hh⟩;by_cases h0 : k = 0
   ·subst h0;refine ah (sr (mI ?_));refine ee (aa (cF (aV (aE (aE (bo (ai (sr (aI (aa (au ?_)))))))))));refine da ?_;rw [List.drop_zero, List.drop_zero] at hd;rw [hd];exact ⟨by rw [CO rfl], hh.below⟩
   ·obtain ⟨j, rfl⟩ : ∃ j, k = j + 1 := ⟨k - 1, Sd⟩;obtain ⟨x, hxj⟩ := av (l := us) (k := j) Sd;obtain ⟨y, hyj⟩ := av (l := vs) (k := j) Sd;obtain ⟨ad, rfl, hr⟩ := hcx.at_ Sd;obtain ⟨ad2, rfl, hs⟩ := hcy.at_ Sd;have hx3 := eb hxj;have hy3 := eb hyj;by_cases hlt : x < y
    ·have hf := vu hx2.1 hxj hyj hd hlt;refine ah (sr (mI ?_));refine FM ?_;refine HY ?_;refine iw ?_;refine eH ?_;refine qe (j) ?_;refine xz ?_;refine iw ?_;refine eH ?_;refine qe (j) ?_;refine yg ?_;refine aR ?_;intro f W hJ hV;have hb_9 := hJ.bl;obtain ⟨v35, v34, v33, v32, v31, v30, v29, v28, _⟩ := hV;replace hh := hJ.hp;refine Ge ?_;dsimp only [ck];clear hJ;refine a6 (aB (aa (cT (sr (aI (aa (au (bQ (bQ (aG (aG (bQ (aG ?_)))))))))))));refine da ?_;exact ⟨by rw [k8 hf], hh.below⟩
    ·by_cases hgt : y < x
     ·have hf := vu hy2.1 hyj hxj hd.symm hgt;refine ah (sr (mI ?_));refine FM ?_;refine HY ?_;refine iw ?_;refine eH ?_;refine qe (j) ?_;refine xz ?_;refine iw ?_;refine eH ?_;refine qe (j) ?_;refine yg ?_;refine aR ?_;intro f W hJ hV;have hb_9 := hJ.bl;obtain ⟨v35, v34, v33, v32, v31, v30, v29, v28, _⟩ := hV;replace hh := hJ.hp;refine Ge ?_;dsimp only [ck];clear hJ;refine a6 (aB (aa (cF (ah ?_))));refine LU ?_;refine iw ?_;refine eH ?_;refine qe (j) ?_;refine xz ?_;refine iw ?_;refine eH ?_;refine qe (j) ?_;refine yg ?_;refine aR ?_;intro f W hJ hV;have hb_11 := hJ.bl;obtain ⟨v45, v44, v43, v42, v41, v40, v39, v38, _⟩ := hV;replace hh := hJ.hp;refine Lv ?_;dsimp only [ck];clear hJ;refine cg (aB (aa (cT (sr (aI (aa (au (bQ (bQ (aG (aG (bQ (aG ?_)))))))))))));refine da ?_;exact ⟨by rw [wM hf], hh.below⟩
     ·refine ah (sr (mI ?_));refine FM ?_;refine HY ?_;refine iw ?_;refine eH ?_;refine qe (j) ?_;refine xz ?_;refine iw ?_;refine eH ?_;refine qe (j) ?_;refine yg ?_;refine aR ?_;intro f W hJ hV;have hb_9 := hJ.bl;obtain ⟨v35, v34, v33, v32, v31, v30, v29, v28, _⟩ := hV;replace hh := hJ.hp;refine Ge ?_;dsimp only [ck];clear hJ;refine a6 (aB (aa (cF (ah ?_))));refine LU ?_;refine iw ?_;refine eH ?_;refine qe (j) ?_;refine xz ?_;refine iw ?_;refine eH ?_;refine qe (j) ?_;refine yg ?_;refine aR ?_;intro f W hJ hV;have hb_11 := hJ.bl;obtain ⟨v45, v44, v43, v42, v41, v40, v39, v38, _⟩ := hV;replace hh := hJ.hp;refine Lv ?_;dsimp only [ck];clear hJ;refine cg (aB (aa (cF (aq (bg (bg (ai (al (mI ?_)))))))));refine eu (aI (az (ai ?_)));refine ⟨⟨j, Sd, by show Value.int _ _ = Value.int _ _; congr 1; omega, xn hxj hyj hd Sd, hh⟩, by show ((((j + 1 : Nat) : Int) - 1 - 1) + 1).toNat < ((((j + 1 : Nat) : Int) - 1) + 1).toNat; omega, ?_⟩;exact eB
 ·by_cases hlt : us.length < vs.length
  ·have hf : bk 18446744073709551616 us < bk 18446744073709551616 vs := by
    refine U6 fun h => ?_;have := hy2.tT hx2 Sd h;omega
   refine aL (aL (aa (ah (sr (mL (aK (mL (aK ?_))))))));refine cX (aa (cT (ah (sr (mL (aK (mL (aK ?_))))))));refine a6 (aa (cT (sr (aI (aa (au (aG (aG ?_))))))));refine da ?_;exact ⟨by rw [k8 hf], hh.below⟩
  ·have hf : bk 18446744073709551616 vs < bk 18446744073709551616 us := by
    refine U6 fun h => ?_;have := hx2.tT hy2 Sd h;omega
   refine aL (aL (aa (ah (sr (mL (aK (mL (aK ?_))))))));refine cX (aa (cT (ah (sr (mL (aK (mL (aK ?_))))))));refine a6 (aa (cF (aq (ai (sr (aI (aa (au (aG ?_)))))))));refine da ?_;exact ⟨by rw [wM hf], hh.below⟩
theorem O0 {y : Nat} (hy : y < 18446744073709551616) (hm : m < 18446744073709551616) : y * m ≤ 340282366920938463426481119284349108225 := Tw (by omega : y ≤ 18446744073709551615) (by omega : m ≤ 18446744073709551615)
theorem uV {x y P : Nat} (hx : x < 18446744073709551616) (hc : c < 18446744073709551616) (hP : P ≤ 340282366920938463426481119284349108225) (he : P = y * m) :
  (x + (P % 18446744073709551616 + c + 0) % 18446744073709551616 + 0) % 18446744073709551616 = (x + y * m + c) % 18446744073709551616 ∧ ((P / 18446744073709551616 + (P % 18446744073709551616 + c + 0) / 18446744073709551616) % 18446744073709551616 + (x + (P % 18446744073709551616 + c + 0) % 18446744073709551616 + 0) / 18446744073709551616) % 18446744073709551616 = (x + y * m + c) / 18446744073709551616 ∧ (x + y * m + c) / 18446744073709551616 < 18446744073709551616 := by
 rw [← he];omega
theorem xY {H : List HE} {b M : Nat} {Y : Option Addr} (pre xs post ys : List Nat) (w : World) (hh : Hp w0 (.row (some ⟨b, 0, none⟩) M C 204 1 (cN (pre ++ xs ++ post)) :: H) w)
  (hy : ∀ w1 cs, Hp w0 (.row (some ⟨b, 0, none⟩) M C 204 1 cs :: H) w1 → Sl w1 Y ny 1 (cN ys)) (hxd : Dg 18446744073709551616 xs) (hyd : Dg 18446744073709551616 ys) (hm : m < 18446744073709551616) (hM : xs.length ≤ 100000000000) (hny : ny ≤ 100000000000) :
  Calls Tryz.prog 255 #[.slice (some ⟨b, pre.length, none⟩) xs.length c', .slice Y ny cy, .int .u64 (m : Int)] w fun e w' => e = .returned (.tuple #[]) ∧ Hp w0 (.row (some ⟨b, 0, none⟩) M C 204 1 (cN (pre ++ gU 18446744073709551616 xs ys m 0 ++ post)) :: H) w' := by
 have hly := (hy _ _ hh).1;rw [aT] at hly;refine aj (N := 56) (l := [.slice (some ⟨b, pre.length, none⟩) xs.length c', .slice Y ny cy, .int .u64 (m : Int)]) Tryz.func255 rfl rfl (by simp) ?_;refine sr (aI (aa (sr (mL (aK (mI (aa (ao ?_))))))));refine bP [6, 7, 8, 9, 10, 11, 14, 15, 16, 17, 18, 19, 20, 21, 22, 23, 24, 25, 26, 27, 28, 29, 30, 31, 32, 33, 34, 35, 36, 37, 38, 39, 40, 41, 42, 43, 44, 45, 46, 47, 48, 49, 50, 51, 52, 53, 54, 55] 6 14
  (fun c i w' => ∃ (done rest : List Nat) (cr : Nat), done.length + rest.length = xs.length ∧ i = .int .i64 done.length ∧ c = .int .u64 (cr : Int) ∧ cr < 18446744073709551616 ∧ Dg 18446744073709551616 rest ∧ done ++ gU 18446744073709551616 rest (ys.drop done.length) m cr = gU 18446744073709551616 xs ys m 0 ∧ Hp w0 (.row (some ⟨b, 0, none⟩) M C 204 1 (cN (pre ++ (done ++ rest) ++ post)) :: H) w')
  (fun _ i _ => xs.length - (intOf i).toNat) ?_ ?_
 ·exact ⟨[], xs, 0, by simp, rfl, rfl, Sd, hxd, rfl, hh⟩
 ·clear hh;rintro ρ' c i w' ⟨done, rest, cr, hlen, rfl, rfl, hcr, hrd, heq, hh⟩;by_cases hlt : done.length < xs.length
  ·obtain ⟨x, r, rfl⟩ : ∃ x r, rest = x :: r := by
    exact Ns
   have hx := hrd.head;have hg := eb (wv (pre := pre) (done := done) (r := r) (post := post) (x := x));have hlr : done.length + (r.length + 1) = xs.length := by simpa using hlen
   simp only [gU, tail_drop, sL] at heq;by_cases hiy : done.length < ny
   ·obtain ⟨y, hyk⟩ := av (l := ys) (k := done.length) Sd;obtain ⟨ad, rfl, _⟩ := (hy _ _ hh).at_ Sd;rw [hyk, TM] at heq;have hyw := hyd.at_ hyk;refine sr ?_;refine vn ?_;refine a6 (aa (cT (al (mL (mI ?_)))));refine F3 ?_;refine cv aP.out rfl ((hy _ _ hh).Mm hyk) Se ?_;refine aI (aa (sr (mI (mI ?_))));obtain ⟨p1, p2, p3⟩ := uV (y := y) (m := m) hx hcr (O0 hyw hm) rfl;refine br hh (qQ y m _ hyw hm) rfl ?_;intro w28 hh;refine mT ?_;refine cE ?_;refine cE ?_;refine aI (aI (aa (sr (mI (mI ?_)))));refine j3 (jB (y * m % 18446744073709551616) cr 0 Sd _) (aA (cJ rfl) (aA (cJ rfl) (aA rfl a7))) Se ?_;refine mT ?_;refine cE ?_;refine cE ?_;refine aI (aI (aa (sr (mI (mI ?_)))));refine il rfl rfl Se ?_;refine aI (aa (sr (mL (mI (mL (mI ?_))))));refine nK bq.out aP.size rfl rfl rfl Sd Se ?_;refine jR ?_;refine mI ?_;refine j3 (jB x ((y * m % 18446744073709551616 + cr + 0) % 18446744073709551616) 0 Sd _) (aA (cJ rfl) (aA (cJ rfl) (aA rfl a7))) Se ?_;refine mT ?_;refine cE ?_;refine cE ?_;refine np ?_;refine uI ?_;intro ws hh;simp only [Sy] at hh;rw [p1, SI, cB (by rw [aT]; simp only [Sr, SG]; omega), fP, mX] at hh
    refine aI (aa (al (mI (mI ?_))));refine il rfl rfl Se ?_;refine uK ?_;refine a9 (mI (az (ai ?_)));rw [p2];refine ⟨⟨done ++ [(x + y * m + cr) % 18446744073709551616], r, _, by simp; omega, by rw [Sr]; rfl, rfl, p3, hrd.tail, ?_, hh⟩, by show xs.length - (done.length + 1) < xs.length - done.length; omega, ?_⟩
    ·rw [← heq, S5, Sr]; rfl
    exact Sg
   ·rw [Sw Sd, Option.getD_none] at heq;have h0w : (0 : Nat) < 18446744073709551616 := Sd;refine sr ?_;refine vn ?_;refine a6 (aa (cF (aq (ai (sr (mI (mI ?_)))))));obtain ⟨p1, p2, p3⟩ := uV (y := 0) (m := m) hx hcr (O0 h0w hm) rfl;refine br hh (qQ 0 m _ h0w hm) rfl ?_;intro w28 hh;refine mT ?_;refine cE ?_;refine cE ?_;refine aI (aI (aa (sr (mI (mI ?_)))));refine j3 (jB (0 * m % 18446744073709551616) cr 0 Sd _) (aA (cJ rfl) (aA (cJ rfl) (aA rfl a7))) Se ?_;refine mT ?_;refine cE ?_;refine cE ?_;refine aI (aI (aa (sr (mI (mI ?_)))));refine il rfl rfl Se ?_;refine aI (aa (sr (mL (mI (mL (mI ?_))))));refine nK bq.out aP.size rfl rfl rfl Sd Se ?_;refine jR ?_;refine mI ?_;refine j3 (jB x ((0 * m % 18446744073709551616 + cr + 0) % 18446744073709551616) 0 Sd _) (aA (cJ rfl) (aA (cJ rfl) (aA rfl a7))) Se ?_;refine mT ?_;refine cE ?_;refine cE ?_;refine np ?_;refine uI ?_;intro ws hh;simp only [Sy] at hh;rw [p1, SI, cB (by rw [aT]; simp only [Sr, SG]; omega), fP, mX] at hh;refine aI (aa (al (mI (mI ?_))));refine il rfl rfl Se ?_;refine uK ?_;refine a9 (mI (az (ai ?_)));rw [p2]
    refine ⟨⟨done ++ [(x + 0 * m + cr) % 18446744073709551616], r, _, by simp; omega, by rw [Sr]; rfl, rfl, p3, hrd.tail, ?_, hh⟩, by show xs.length - (done.length + 1) < xs.length - done.length; omega, ?_⟩
    ·rw [← heq, S5, Sr]; rfl
    exact Sg
  ·exact NV
theorem y7 {H : List HE} {b M : Nat} {Y : Option Addr} (pre xs post ys : List Nat) (w : World) (hh : Hp w0 (.row (some ⟨b, 0, none⟩) M C 204 1 (cN (pre ++ xs ++ post)) :: H) w)
  (hy : ∀ w1 cs, Hp w0 (.row (some ⟨b, 0, none⟩) M C 204 1 cs :: H) w1 → Sl w1 Y ny 1 (cN ys)) (hxd : Dg 18446744073709551616 xs) (hyd : Dg 18446744073709551616 ys) (hM : xs.length ≤ 100000000000) (hny : ny ≤ 100000000000) (hsub : yw 18446744073709551616 xs ys 0 = 0) :
  Calls Tryz.prog 253 #[.slice (some ⟨b, pre.length, none⟩) xs.length c', .slice Y ny cy] w fun e w' => e = .returned (.bool true) ∧ Hp w0 (.row (some ⟨b, 0, none⟩) M C 204 1 (cN (pre ++ q5 18446744073709551616 xs ys 0 ++ post)) :: H) w' := by
 have hly := (hy _ _ hh).1;rw [aT] at hly;refine aj (N := 37) (l := [.slice (some ⟨b, pre.length, none⟩) xs.length c', .slice Y ny cy]) Tryz.func253 rfl rfl (by simp) ?_;refine sr (aB (aa (sr (aI (aa (ah (sr (mL (aK (mI (aa (ao ?_))))))))))));refine bP [5, 6, 7, 10, 11, 12, 13, 14, 15, 16, 17, 18, 19, 20, 21, 22, 23, 24, 25, 26, 27, 28, 29, 30, 31, 32, 33, 34] 5 10
  (fun c i w' => ∃ (done rest : List Nat) (cr : Nat), done.length + rest.length = xs.length ∧ i = .int .i64 done.length ∧ c = .int .u64 (cr : Int) ∧ cr ≤ 1 ∧ Dg 18446744073709551616 rest ∧ done ++ q5 18446744073709551616 rest (ys.drop done.length) cr = q5 18446744073709551616 xs ys 0 ∧ yw 18446744073709551616 rest (ys.drop done.length) cr = 0 ∧ Hp w0 (.row (some ⟨b, 0, none⟩) M C 204 1 (cN (pre ++ (done ++ rest) ++ post)) :: H) w')
  (fun _ i _ => xs.length - (intOf i).toNat) ?_ ?_
 ·exact ⟨[], xs, 0, by simp, rfl, rfl, Sd, hxd, rfl, hsub, hh⟩
 ·clear hh;rintro ρ' c i w' ⟨done, rest, cr, hlen, rfl, rfl, hcr, hrd, heq, hsb, hh⟩;by_cases hlt : done.length < xs.length
  ·obtain ⟨x, r, rfl⟩ : ∃ x r, rest = x :: r := by
    exact Ns
   have hx := hrd.head;have hg := eb (wv (pre := pre) (done := done) (r := r) (post := post) (x := x));have hlr : done.length + (r.length + 1) = xs.length := by simpa using hlen
   simp only [q5, yw, tail_drop, sL] at heq hsb;by_cases hiy : done.length < ny
   ·obtain ⟨y, hyk⟩ := av (l := ys) (k := done.length) Sd;obtain ⟨ad, rfl, _⟩ := (hy _ _ hh).at_ Sd;rw [hyk, TM] at heq hsb;have hyw := hyd.at_ hyk;refine sr ?_;refine vn ?_;refine a6 (aa (cT (al (mL (mI ?_)))));refine F3 ?_;refine cv aP.out rfl ((hy _ _ hh).Mm hyk) Se ?_;refine aI (aa (al (mL (mI (mL (mI ?_))))));refine np ?_;refine jR ?_;refine mI (mI ?_);refine j3 (uz x y cr hcr _) (aA (cJ rfl) (aA (cJ rfl) (aA (cJ rfl) a7))) Se ?_;refine mT ?_;refine cE ?_;refine cE ?_;refine np ?_;refine uI ?_;intro ws hh;simp only [Sy] at hh;rw [SI, cB (by rw [aT]; simp only [Sr, SG]; omega), fP, mX] at hh;refine uK ?_;refine a9 (mI (az (ai ?_)));refine ⟨⟨done ++ [(x + 18446744073709551616 - y - cr) % 18446744073709551616], r, _, by simp; omega, by rw [Sr]; rfl, rfl, by split <;> omega, hrd.tail, ?_, ?_, hh⟩, by show xs.length - (done.length + 1) < xs.length - done.length; omega, ?_⟩
    ·rw [← heq, S5, Sr]; rfl
    ·rw [Sr]; exact hsb
    exact Sg
   ·rw [Sw Sd, Option.getD_none] at heq hsb;refine sr ?_;refine vn ?_;refine a6 (aa (cF (aq (ai (al (mL (mI (mL (mI ?_)))))))));refine np ?_;refine jR ?_;refine mI (mI ?_);refine j3 (uz x 0 cr hcr _) (aA (cJ rfl) (aA (cJ rfl) (aA (cJ rfl) a7))) Se ?_;refine mT ?_;refine cE ?_;refine cE ?_;refine np ?_;refine uI ?_;intro ws hh;simp only [Sy] at hh;rw [SI, cB (by rw [aT]; simp only [Sr, SG]; omega), fP, mX] at hh;refine uK ?_;refine a9 (mI (az (ai ?_)));refine ⟨⟨done ++ [(x + 18446744073709551616 - 0 - cr) % 18446744073709551616], r, _, by simp; omega, by rw [Sr]; rfl, rfl, by split <;> omega, hrd.tail, ?_, ?_, hh⟩, by show xs.length - (done.length + 1) < xs.length - done.length; omega, ?_⟩
    ·rw [← heq, S5, Sr]; rfl
    ·rw [Sr]; exact hsb
    exact Sg
  ·have hr0 : rest = [] := TW Sd;subst hr0;obtain rfl : cr = 0 := hsb;refine sr ?_;refine a6 (aa (ah (cF (aV (aE (aE (bo (ai (sr (mI ?_))))))))));refine cH (aB (aa (au ?_)));refine da ?_;rw [S3, q5, S3] at *;rw [← heq];exact ⟨rfl, hh⟩
theorem Bs {H : List HE} {b M : Nat} {Y : Option Addr} (pre xs post ys : List Nat) (w : World) (hh : Hp w0 (.row (some ⟨b, 0, none⟩) M C 204 1 (cN (pre ++ xs ++ post)) :: H) w)
  (hy : ∀ w1 cs, Hp w0 (.row (some ⟨b, 0, none⟩) M C 204 1 cs :: H) w1 → Sl w1 Y ny 1 (cN ys)) (hxd : Dg 18446744073709551616 xs) (hyd : Dg 18446744073709551616 ys) (hM : xs.length ≤ 100000000000) (hny : ny ≤ 100000000000) :
  Calls Tryz.prog 250 #[.slice (some ⟨b, pre.length, none⟩) xs.length c', .slice Y ny cy] w fun e w' => e = .returned (.tuple #[]) ∧ Hp w0 (.row (some ⟨b, 0, none⟩) M C 204 1 (cN (pre ++ gU 18446744073709551616 xs ys 1 0 ++ post)) :: H) w' := by
 have hly := (hy _ _ hh).1;rw [aT] at hly;refine aj (N := 34) (l := [.slice (some ⟨b, pre.length, none⟩) xs.length c', .slice Y ny cy]) Tryz.func250 rfl rfl (by simp) ?_;refine sr (aI (aa (sr (mL (aK (mI (aa (ao ?_))))))));refine bP [4, 5, 6, 9, 10, 11, 12, 13, 14, 15, 16, 17, 18, 19, 20, 21, 22, 23, 24, 25, 26, 27, 28, 29, 30, 31, 32, 33] 4 9
  (fun c i w' => ∃ (done rest : List Nat) (cr : Nat), done.length + rest.length = xs.length ∧ i = .int .i64 done.length ∧ c = .int .u64 (cr : Int) ∧ cr ≤ 1 ∧ Dg 18446744073709551616 rest ∧ done ++ gU 18446744073709551616 rest (ys.drop done.length) 1 cr = gU 18446744073709551616 xs ys 1 0 ∧ Hp w0 (.row (some ⟨b, 0, none⟩) M C 204 1 (cN (pre ++ (done ++ rest) ++ post)) :: H) w')
  (fun _ i _ => xs.length - (intOf i).toNat) ?_ ?_
 ·exact ⟨[], xs, 0, by simp, rfl, rfl, Sd, hxd, rfl, hh⟩
 ·clear hh;rintro ρ' c i w' ⟨done, rest, cr, hlen, rfl, rfl, hcr, hrd, heq, hh⟩;by_cases hlt : done.length < xs.length
  ·obtain ⟨x, r, rfl⟩ : ∃ x r, rest = x :: r := by
    exact Ns
   have hx := hrd.head;have hg := eb (wv (pre := pre) (done := done) (r := r) (post := post) (x := x));have hlr : done.length + (r.length + 1) = xs.length := by simpa using hlen
   simp only [gU, tail_drop, sL, SI] at heq;by_cases hiy : done.length < ny
   ·obtain ⟨y, hyk⟩ := av (l := ys) (k := done.length) Sd;obtain ⟨ad, rfl, _⟩ := (hy _ _ hh).at_ Sd;rw [hyk, TM] at heq;have hyw := hyd.at_ hyk;refine sr ?_;refine vn ?_;refine a6 (aa (cT (al (mL (mI ?_)))));refine F3 ?_;refine cv aP.out rfl ((hy _ _ hh).Mm hyk) Se ?_;refine aI (aa (al (mL (mI (mL (mI ?_))))));refine np ?_;refine jR ?_;refine mI (mI ?_);refine j3 (jB x y cr hcr _) (aA (cJ rfl) (aA (cJ rfl) (aA (cJ rfl) a7))) Se ?_;refine mT ?_;refine cE ?_;refine cE ?_;refine np ?_;refine uI ?_;intro ws hh;simp only [Sy] at hh;rw [SI, cB (by rw [aT]; simp only [Sr, SG]; omega), fP, mX] at hh;refine uK ?_;refine a9 (mI (az (ai ?_)));refine ⟨⟨done ++ [(x + y + cr) % 18446744073709551616], r, _, by simp; omega, by rw [Sr]; rfl, rfl, Sd, hrd.tail, ?_, hh⟩, by show xs.length - (done.length + 1) < xs.length - done.length; omega, ?_⟩
    ·rw [← heq, S5, Sr]; rfl
    exact Sg
   ·rw [Sw Sd, Option.getD_none] at heq;refine sr ?_;refine vn ?_;refine a6 (aa (cF (aq (ai (al (mL (mI (mL (mI ?_)))))))));refine np ?_;refine jR ?_;refine mI (mI ?_);refine j3 (jB x 0 cr hcr _) (aA (cJ rfl) (aA (cJ rfl) (aA (cJ rfl) a7))) Se ?_;refine mT ?_;refine cE ?_;refine cE ?_;refine np ?_;refine uI ?_;intro ws hh;simp only [Sy] at hh;rw [SI, cB (by rw [aT]; simp only [Sr, SG]; omega), fP, mX] at hh;refine uK ?_;refine a9 (mI (az (ai ?_)));refine ⟨⟨done ++ [(x + 0 + cr) % 18446744073709551616], r, _, by simp; omega, by rw [Sr]; rfl, rfl, Sd, hrd.tail, ?_, hh⟩, by show xs.length - (done.length + 1) < xs.length - done.length; omega, ?_⟩
    ·rw [← heq, S5, Sr]; rfl
    exact Sg
  ·exact NV
theorem Jl {i d : Nat} (D : Nat) (hD : D < 18446744073709551616 ^ i) (hd : d < 18446744073709551616) (hk : i + n / 64 + 1 < k) :
  (D * 2 ^ n) / 18446744073709551616 ^ (i + n / 64) % 18446744073709551616 < 2 ^ (n % 64) ∧ d * 2 ^ (n % 64) % 18446744073709551616 = (d % 2 ^ (64 - n % 64)) * 2 ^ (n % 64) ∧
  (bI 18446744073709551616 k (D * 2 ^ n)).set (i + n / 64) ((D * 2 ^ n) / 18446744073709551616 ^ (i + n / 64) % 18446744073709551616 + d * 2 ^ (n % 64) % 18446744073709551616) = bI 18446744073709551616 k (D * 2 ^ n + 18446744073709551616 ^ (i + n / 64) * (d * 2 ^ (n % 64) % 18446744073709551616)) ∧
  (D * 2 ^ n + 18446744073709551616 ^ (i + n / 64) * (d * 2 ^ (n % 64) % 18446744073709551616)) / 18446744073709551616 ^ (i + n / 64 + 1) % 18446744073709551616 = 0 ∧
  (bI 18446744073709551616 k (D * 2 ^ n + 18446744073709551616 ^ (i + n / 64) * (d * 2 ^ (n % 64) % 18446744073709551616))).set (i + n / 64 + 1) (d / 2 ^ (64 - n % 64)) = bI 18446744073709551616 k ((D + 18446744073709551616 ^ i * d) * 2 ^ n) ∧
  (n % 64 = 0 → D * 2 ^ n + 18446744073709551616 ^ (i + n / 64) * (d * 2 ^ (n % 64) % 18446744073709551616) = (D + 18446744073709551616 ^ i * d) * 2 ^ n) := by
 have hW : (18446744073709551616 : Nat) = 2 ^ 64 := by decide
 have hs : n % 64 < 64 := SO _ Sd;have hn : 2 ^ n = 18446744073709551616 ^ (n / 64) * 2 ^ (n % 64) := by
  rw [hW, ← S7, ← SL]; congr 1; omega
 generalize hq : n / 64 = q at *;generalize hse : n % 64 = s at *;have e : (18446744073709551616 : Nat) = 2 ^ (64 - s) * 2 ^ s := by rw [← SL, hW]; congr 1; omega
 have hpos : 0 < 2 ^ s := SV Sd;have hwp : ∀ j : Nat, 0 < 18446744073709551616 ^ j := fun j => SV Se;have hP : D * 2 ^ n < 18446744073709551616 ^ (i + q) * 2 ^ s := by
  rw [hn, ← Ti, SL];exact UT (UT hD (hwp q)) hpos
 have h1 : (D * 2 ^ n) / 18446744073709551616 ^ (i + q) < 2 ^ s := by rw [TO (hwp _), SS (2 ^ s)]; exact hP
 have hsW : 2 ^ s ≤ 18446744073709551616 := by rw [hW]; exact S4 Sd Sd
 have h2 : d * 2 ^ s % 18446744073709551616 = (d % 2 ^ (64 - s)) * 2 ^ s := by rw [e, Nat.mul_mod_mul_right]
 have h3 : (d % 2 ^ (64 - s) + 1) * 2 ^ s ≤ 18446744073709551616 := by
  rw [e];exact S9 _ (SO _ (SV Sd))
 rw [Tl] at h3;have h4 : (D * 2 ^ n) / 18446744073709551616 ^ (i + q) % 18446744073709551616 = (D * 2 ^ n) / 18446744073709551616 ^ (i + q) := SY Sd;have hlt1 : D * 2 ^ n + 18446744073709551616 ^ (i + q) * (d * 2 ^ s % 18446744073709551616) < 18446744073709551616 ^ (i + q + 1) := by
  rw [h2, Ta];have : 18446744073709551616 ^ (i + q) * ((d % 2 ^ (64 - s)) * 2 ^ s + 2 ^ s) ≤ 18446744073709551616 ^ (i + q) * 18446744073709551616 := SX _ h3;rw [Te] at this;omega
 have hup := MX (d := d) (s := s) hd Sd;have hfin : D * 2 ^ n + 18446744073709551616 ^ (i + q) * (d * 2 ^ s % 18446744073709551616) + 18446744073709551616 ^ (i + q + 1) * (d / 2 ^ (64 - s)) = (D + 18446744073709551616 ^ i * d) * 2 ^ n := by
  have h5 : 18446744073709551616 ^ (i + q) * (d * 2 ^ s % 18446744073709551616) + 18446744073709551616 ^ (i + q + 1) * (d / 2 ^ (64 - s)) = 18446744073709551616 ^ (i + q) * (d * 2 ^ s) := by
   conv => rhs; rw [← hup.1, Te]
   rw [Ta, Ti, SS 18446744073709551616]
  rw [U7, h5, Up, hn, SL];congr 1;simp only [Ti, Vn, SS]
 have hbig : ∀ j, j < k → 18446744073709551616 ^ j * 18446744073709551616 ≤ 18446744073709551616 ^ k := fun j hj => by rw [← Ta]; exact S4 Se hj
 have hb1 := hbig (i + q) Sd;rw [← Ta] at hb1;refine ⟨by rw [h4]; exact h1, h2, ?_, ?_, ?_, ?_⟩
 ·exact om Se Sd Sd (by rw [h4, h2]; omega)
 ·rw [Tj hlt1]
 ·have h6 : (D * 2 ^ n + 18446744073709551616 ^ (i + q) * (d * 2 ^ s % 18446744073709551616)) / 18446744073709551616 ^ (i + q + 1) % 18446744073709551616 = 0 := by rw [Tj hlt1]
  have h7 : d / 2 ^ (64 - s) < 18446744073709551616 := Tk (UB _ _) hd;have h8 := om (B := 18446744073709551616) (k := k) (n := D * 2 ^ n + 18446744073709551616 ^ (i + q) * (d * 2 ^ s % 18446744073709551616)) (j := i + q + 1) (v := d / 2 ^ (64 - s)) Se hk ?_ (by rw [h6]; omega)
  ·rw [h6, SM, hfin] at h8;exact h8
  ·have h9 : 18446744073709551616 ^ (i + q + 1) * (d / 2 ^ (64 - s) + 1) ≤ 18446744073709551616 ^ (i + q + 1) * 18446744073709551616 := SX _ h7;have h10 := hbig (i + q + 1) hk;rw [TZ] at h9;omega
 ·intro h0;subst h0;rw [← hfin];have : d / 2 ^ (64 - 0) = 0 := Tj (by rw [← hW]; exact hd);rw [this];simp
theorem EN (A : Option Addr) (n c m : Nat) (xs : List Nat) (w : World) (hx : Sl w A n 1 (cN xs)) (hd : Dg 18446744073709551616 xs) (hn : n ≤ 1000000000) (hm : m ≤ 10000000000) :
  Calls Tryz.prog 246 #[.slice A n c, .int .i64 (m : Int)] w fun e w' => ∃ A c, e = .returned (.slice A (aQ 18446744073709551616 (bk 18446744073709551616 xs * 2 ^ m)).length c) ∧ w'.ownsRow w.heap.size 204 1 (.slice A (aQ 18446744073709551616 (bk 18446744073709551616 xs * 2 ^ m)).length c) (aQ 18446744073709551616 (bk 18446744073709551616 xs * 2 ^ m)).length (cN (aQ 18446744073709551616 (bk 18446744073709551616 xs * 2 ^ m))) ∧ Below w.heap.size w w' := by
 have hl := hx.1;rw [aT] at hl;have hh := Hp.start w;have hs1 : ((m : Int) % 64).toNat = m % 64 := Sd;refine aj (N := 55) (l := [.slice A n c, .int .i64 (m : Int)]) Tryz.func246 rfl rfl (by simp) ?_;refine sr (aL (aa (sr (mL (aK (mI ?_))))));refine kT ?_;refine a9 ?_;refine a9 ?_;refine gD (n := n + m / 64 + 1) hh rfl rfl Sd Sd bq.out aP.out rfl Sd Sd Se ?_;intro b15 w15 hh;refine pj ?_;rw [oK] at hh;refine aN [6, 7, 8, 18, 19, 20, 21, 22, 23, 24, 25, 26, 27, 28, 29, 30, 31, 32, 33, 34, 35, 36, 37, 38, 39, 40, 41, 42, 43, 44, 45, 46, 47, 48, 49, 50, 51, 52] 18
  (fun v w' => ∃ i : Nat, i ≤ n ∧ v = .int .i64 i ∧ Hp w [.row (some ⟨b15, 0, none⟩) (n + m / 64 + 1) (n + m / 64 + 1) 204 1 (cN (bI 18446744073709551616 (n + m / 64 + 1) (bk 18446744073709551616 (xs.take i) * 2 ^ m)))] w')
  (fun v _ => n - (intOf v).toNat) ?_ ?_
 ·exact ⟨0, Sn _, rfl, by rw [UF, bk, UE, qk]; exact hh⟩
 ·clear hh;rintro ρ' v w' ⟨i, hi, rfl, hh⟩;by_cases hlt : i < n
  ·obtain ⟨d, hdi⟩ := av (l := xs) (k := i) Sd;obtain ⟨ad, rfl, hr⟩ := hx.at_ Sd;have hd2 := eb hdi;have hdw := hd.at_ hdi;have hD := ij (hd.take i);rw [SP, Tp Sd] at hD;obtain ⟨s1, s2, s3, s4, s5, s6⟩ := Jl (k := n + m / 64 + 1) (n := m) (bk 18446744073709551616 (xs.take i)) hD hdw Sd;have hg := eb (ic (B := 18446744073709551616) (n + m / 64 + 1) (bk 18446744073709551616 (xs.take i) * 2 ^ m) (i + m / 64) Sd);refine sr ?_;refine fj ?_;refine db bq.out aP.size rfl rfl rfl Sd Se ?_;refine iy ?_;refine aI (aI (aa (sr (mI (mI ?_)))));refine kT ?_;refine a9 (aI (aa (ah ?_)));refine aU 8 [[(5, none)], [(8, none)], [(27, some 0), (28, some 1)], [(29, some 2)], [(7, none)], [(1, none)], [(32, some 5)], [(31, some 4), (33, some 6)]] [(7, 34), (6, 33), (5, 32), (4, 31), (3, 30), (2, 29), (1, 28), (0, 27)] hh mixed Sf ?_;refine iw ?_;refine eH ?_;refine Df (i + m / 64) ?_;refine bB (i := 3) (fun ρ1 w1 hj hR => ju aP.out (show ρ1 29 = Value.pointer _ from hR.1) (hj.hp.gk (i := 0) rfl (by rw [SI]; exact hg))) ?_;refine eH ?_;refine eH ?_;refine bB (i := 6) (fun ρ1 w1 hj hR => pF (show ρ1 32 = Value.int _ _ from hR.1) rfl Sd Sd) ?_
   refine bB (i := 7) (fun ρ1 w1 hj hR => wR (show ρ1 31 = Value.int _ _ from hR.1) (show ρ1 33 = Value.int _ _ from hR.2.1) Sd) ?_;refine aR ?_;intro f W hJ hV;have hb_6 := hJ.bl;obtain ⟨v34, v33, v32, v31, v30, v29, v28, v27, _⟩ := hV;replace hh := hJ.hp;refine aX (bp (ae v34 (ae v33 (ae v32 (ae v31 (ae v30 (ae v29 (ae v28 (ae v27 aW))))))))) ?_;dsimp only [ck];clear hJ;refine BL ?_;refine cG (k := i + m / 64) bq.out aP.size rfl rfl Sd Sd Se ?_;refine Gu ?_;intro ws hh;simp only [Sy] at hh;rw [hs1, s2, Bn s1, ← s2, SI, cB (by rw [aT, aJ]; omega), fP, s3] at hh;by_cases h0 : m % 64 = 0
   ·refine aa (sr (mI ?_));refine qY ?_;refine cg (aa (cF (aq (bg (ai (al ?_))))));refine a9 (mI (az (ai ?_)));rw [s6 h0, ← fC hdi] at hh;exact xD
   ·have hg2 := eb (ic (B := 18446744073709551616) (n + m / 64 + 1) (bk 18446744073709551616 (xs.take i) * 2 ^ m + 18446744073709551616 ^ (i + m / 64) * (d * 2 ^ (m % 64) % 18446744073709551616)) (i + m / 64 + 1) Sd);rw [s4] at hg2;have hs2 : (64 - (m : Int) % 64).toNat = 64 - m % 64 := Sd;have hd64 : d / 2 ^ (64 - (m : Int) % 64).toNat < 18446744073709551616 := Tk (UB _ _) hdw;have h0w : (0 : Nat) < 18446744073709551616 := Sd;refine aa (sr (mI ?_));refine qY ?_;refine cg (aa (cT ?_));refine aU 10 [[(5, none)], [(8, none)], [(41, some 1)], [(40, some 0), (42, some 2)], [(43, some 3)], [(7, none)], [(1, none)], [(46, some 6)], [(47, some 7)], [(45, some 5), (48, some 8)]] [(9, 49), (8, 48), (7, 47), (6, 46), (5, 45), (4, 44), (3, 43), (2, 42), (1, 41), (0, 40)] hh mixed Sf ?_;refine iw ?_;refine eH ?_;refine uh ?_;refine Df (i + m / 64 + 1) ?_;refine bB (i := 4) (fun ρ1 w1 hj hR => ju aP.out (show ρ1 43 = Value.pointer _ from hR.1) (hj.hp.gk (i := 0) rfl (by rw [SI]; exact hg2))) ?_;refine eH ?_;refine eH ?_;refine bB (i := 7) (fun ρ1 w1 hj hR => pF (show ρ1 46 = Value.int _ _ from hR.1) rfl Sd Sd) ?_;refine Be ?_
    refine bB (i := 9) (fun ρ1 w1 hj hR => Av (show ρ1 45 = Value.int _ _ from hR.1) (show ρ1 48 = Value.int _ _ from hR.2.1) Sd) ?_;refine aR ?_;intro f W hJ hV;have hb_8 := hJ.bl;obtain ⟨v49, v48, v47, v46, v45, v44, v43, v42, v41, v40, _⟩ := hV;replace hh := hJ.hp;refine aX (bp (ae v49 (ae v48 (ae v47 (ae v46 (ae v45 (ae v44 (ae v43 (ae v42 (ae v41 (ae v40 aW))))))))))) ?_;dsimp only [ck];clear hJ;refine BL ?_;refine cG (k := i + m / 64 + 1) bq.out aP.size rfl rfl Sd Sd Se ?_;refine Gu ?_;intro ws hh;simp only [Sy] at hh;rw [hs2, Nat.zero_or, SI, cB (by rw [aT, aJ]; omega), fP, s5, ← fC hdi] at hh;refine fG ?_;refine a9 (mI (az (ai ?_)));exact xD
  ·refine sr ?_;refine oV ?_;rw [Su Sd] at hh;refine br hh (gQ _ _ _ (bI 18446744073709551616 (n + m / 64 + 1) (bk 18446744073709551616 xs * 2 ^ m)) _ (hh.aD (i := 0) rfl) (So _) Sd) rfl ?_;intro w54 hh;refine aL (aa (au ?_));refine da ?_;have hbd : bk 18446744073709551616 xs * 2 ^ m < 18446744073709551616 ^ (n + m / 64 + 1) := by
    have h1 := ij hd;rw [show xs.length = n by omega] at h1;have h2 : 2 ^ m ≤ 18446744073709551616 ^ (m / 64 + 1) := by
     exact Pp
    rw [show n + m / 64 + 1 = n + (m / 64 + 1) by omega, SL];exact Tg (UT h1 (SV Sd)) (SX _ h2)
   have hd : dH (bI 18446744073709551616 (n + m / 64 + 1) (bk 18446744073709551616 xs * 2 ^ m)) = aQ 18446744073709551616 (bk 18446744073709551616 xs * 2 ^ m) := by
    exact NH
   have h1 := (Hp.CN (xs := bI 18446744073709551616 (n + m / 64 + 1) (bk 18446744073709551616 xs * 2 ^ m)) hh (aJ _ _)).at_ (i := 0) rfl;exact Ke
theorem Sl.Mu {xs : List Nat} (h : Sl w (some ad) n 1 (cN xs)) (hk : k < n) : Sl w (some (ad.add (k * 1))) (n - k) 1 (cN (xs.drop k)) := by
 have hl := h.1;rw [aT] at hl;refine ⟨by rw [aT, TT]; omega, fun h0 => ⟨_, rfl, ?_⟩⟩;obtain ⟨ad', he, hr⟩ := h.2 Sd;injection he with he
 subst he;rw [SI, uU];exact hr.drop k
theorem E1 {s : Nat} (hs : s < 64) (h0 : 0 < s) :
  (N / 18446744073709551616 ^ (j + 1) % 18446744073709551616) * 2 ^ (64 - s) % 18446744073709551616 = N / 18446744073709551616 ^ (j + 1) % 2 ^ s * 2 ^ (64 - s) ∧
  (N / 18446744073709551616 ^ j % 18446744073709551616 / 2 ^ s ||| (N / 18446744073709551616 ^ (j + 1) % 18446744073709551616) * 2 ^ (64 - s) % 18446744073709551616) = N / 2 ^ (64 * j + s) % 18446744073709551616 := by
 have hW : (18446744073709551616 : Nat) = 2 ^ 64 := by decide
 have e : (18446744073709551616 : Nat) = 2 ^ s * 2 ^ (64 - s) := by rw [← SL, hW]; congr 1; omega
 have h1 : (N / 18446744073709551616 ^ (j + 1) % 18446744073709551616) * 2 ^ (64 - s) % 18446744073709551616 = N / 18446744073709551616 ^ (j + 1) % 2 ^ s * 2 ^ (64 - s) := by
  generalize N / 18446744073709551616 ^ (j + 1) = m;rw [e, Nat.mul_mod_mul_right, Nat.mod_mul_right_mod]
 obtain ⟨h2, h3⟩ := vi N j s hs h0;exact ⟨h1, by rw [h1, Bn h2, h3]⟩
theorem xA (A : Option Addr) (n c m : Nat) (xs : List Nat) (w : World) (hx : Sl w A n 1 (cN xs)) (hd : Dg 18446744073709551616 xs) (hc : n ≤ c) (hn : n ≤ 1000000000) (hm : m ≤ 1000000000000) :
  Calls Tryz.prog 247 #[.slice A n c, .int .i64 (m : Int)] w fun e w' => ∃ A c, e = .returned (.slice A (aQ 18446744073709551616 (bk 18446744073709551616 xs / 2 ^ m)).length c) ∧ w'.ownsRow w.heap.size 204 1 (.slice A (aQ 18446744073709551616 (bk 18446744073709551616 xs / 2 ^ m)).length c) (aQ 18446744073709551616 (bk 18446744073709551616 xs / 2 ^ m)).length (cN (aQ 18446744073709551616 (bk 18446744073709551616 xs / 2 ^ m))) ∧ Below w.heap.size w w' := by
 have hl := hx.1;rw [aT] at hl;have hh := Hp.start w;have hs1 : ((m : Int) % 64).toNat = m % 64 := Sd;have hW : (18446744073709551616 : Nat) = 2 ^ 64 := by decide
 have hmm : 2 ^ m = 18446744073709551616 ^ (m / 64) * 2 ^ (m % 64) := by
  rw [hW, ← S7, ← SL]; congr 1; omega
 have hlt := ij hd;rw [show xs.length = n by omega] at hlt;by_cases hbig : n ≤ m / 64
 ·have h0 : bk 18446744073709551616 xs / 2 ^ m = 0 := by
   apply Tj;refine Tg hlt (SK (S4 Se hbig) ?_);rw [hmm];exact Vx _ (SV Sd)
  refine aj (N := 61) (l := [.slice A n c, .int .i64 (m : Int)]) Tryz.func247 rfl rfl (by simp) ?_;refine sr (aL (aa (ah (sr (mI ?_)))));refine kT ?_;refine mL (aK ?_);refine ee (aa (cT (sr (aL (aa (au (aG ?_)))))));refine da ?_;rw [h0, fQ Sd];exact ⟨none, 0, rfl, World.ownsRow_nil _ _ _ _, hh.below⟩
 ·obtain ⟨ad, rfl, hr⟩ := hx.at_ Sd;have hsd := hx.Mu (k := m / 64) Sd;have hget : ∀ j, j < n → xs[j]? = some (bk 18446744073709551616 xs / 18446744073709551616 ^ j % 18446744073709551616) := fun j hj => by
   obtain ⟨d, hdj⟩ := av (l := xs) (k := j) Sd;rw [hdj, rF hd hdj]
  refine aj (N := 61) (l := [.slice (some ad) n c, .int .i64 (m : Int)]) Tryz.func247 rfl rfl (by simp) ?_;refine sr (aL (aa (ah (sr (mI ?_)))));refine kT ?_;refine mL (aK ?_);refine ee (aa (cF (aq (ai (sr (mL (mI ?_)))))));refine kT ?_;refine zX (l := m / 64) bq.out aP.size rfl rfl Sd Sd Sd Sd Se ?_;refine aC (nn _ _ _ 0 _ _ hsd Sd Sd) ak.out rfl Se ?_;rintro e_ w_ ⟨b16, rfl, hown_, hb_⟩;refine ⟨_, rfl, ?_⟩;replace hh := hh.aO (x := .row _ _ _ _ _ _) hb_ hown_;rw [Nat.zero_max, Td, Vg, S3] at hh;rw [Nat.zero_max];refine pj ?_;refine aN [6, 19, 20, 21, 22, 23, 24, 25, 26, 27, 28, 29, 30, 31, 32, 33, 34, 35, 36, 37, 38, 39, 40, 41, 42, 43, 44, 45, 46, 47, 48, 49, 50, 51, 52, 53, 54, 55, 56, 57, 58] 19
   (fun v w' => ∃ i : Nat, i ≤ n - m / 64 ∧ v = .int .i64 i ∧ Hp w [.row (some ⟨b16, 0, none⟩) (n - m / 64) (n - m / 64) 204 1 (cN (bI 18446744073709551616 i (bk 18446744073709551616 xs / 2 ^ m) ++ xs.drop (m / 64 + i)))] w')
   (fun v _ => (n - m / 64) - (intOf v).toNat) ?_ ?_
  ·exact ⟨0, Sn _, rfl, hh⟩
  ·clear hh;rintro ρ' v w' ⟨i, hi, rfl, hh⟩;by_cases hlt2 : i < n - m / 64
   ·have hgi := hget (m / 64 + i) Sd;have hdr : xs.drop (m / 64 + i) = (bk 18446744073709551616 xs / 18446744073709551616 ^ (m / 64 + i) % 18446744073709551616) :: xs.drop (m / 64 + i + 1) := by
     rw [T4 Sd];congr 1;have := SC.1 hgi;exact this.2
    have hcell : (bI 18446744073709551616 i (bk 18446744073709551616 xs / 2 ^ m) ++ xs.drop (m / 64 + i))[i]? = some (bk 18446744073709551616 xs / 18446744073709551616 ^ (m / 64 + i) % 18446744073709551616) := by
     rw [Tu (by rw [aJ]; omega), aJ, hdr]; simp
    have hg := eb hcell;have hset : ∀ y, (bI 18446744073709551616 i (bk 18446744073709551616 xs / 2 ^ m) ++ xs.drop (m / 64 + i)).set i y = bI 18446744073709551616 i (bk 18446744073709551616 xs / 2 ^ m) ++ y :: xs.drop (m / 64 + i + 1) := fun y => by
     rw [hdr, Un _ _ (by rw [aJ]; omega), aJ, Td, Sy]
    have hll : (bI 18446744073709551616 i (bk 18446744073709551616 xs / 2 ^ m) ++ xs.drop (m / 64 + i)).length = n - m / 64 := by rw [Sr, aJ, TT]; omega
    have hac : ∀ y, bI 18446744073709551616 i (bk 18446744073709551616 xs / 2 ^ m) ++ y :: xs.drop (m / 64 + i + 1) = (bI 18446744073709551616 i (bk 18446744073709551616 xs / 2 ^ m) ++ [y]) ++ xs.drop (m / 64 + (i + 1)) := fun y => List.append_cons _ _ _;have hnew : bI 18446744073709551616 (i + 1) (bk 18446744073709551616 xs / 2 ^ m) = bI 18446744073709551616 i (bk 18446744073709551616 xs / 2 ^ m) ++ [bk 18446744073709551616 xs / 2 ^ (64 * (m / 64 + i) + m % 64) % 18446744073709551616] := by
     rw [kO, T2];congr 4;rw [hW, ← S7, ← SL]; congr 1; omega
    refine sr ?_;refine a6 (aa (ah (cT (aq (ai (ah (ao (sr (mI (aI (aa (sr (mL (mI ?_))))))))))))));refine gj ?_;refine jR ?_;refine mI ?_;refine qY ?_;refine Bw rfl rfl Sd Se ?_;refine gj ?_;refine bY hh (i := 0) (vs := [_]) rfl rfl (cJ rfl) rfl aP.out rfl (by rw [aT, hll]; omega) rfl ?_;intro ws hh;simp only [Sy] at hh;rw [hs1, SI, cB (by rw [aT, hll]; omega), fP, hset] at hh;by_cases h0 : m % 64 = 0
    ·have e1 : bk 18446744073709551616 xs / 18446744073709551616 ^ (m / 64 + i) % 18446744073709551616 / 2 ^ (m % 64) = bk 18446744073709551616 xs / 2 ^ (64 * (m / 64 + i) + m % 64) % 18446744073709551616 := by
      rw [h0, UP, Nat.div_one, TB, S7, ← hW]
     by_cases hl : i + 1 < n - m / 64
     ·refine aa (sr (mI ?_));refine a9 (mL (aK ?_));refine a6 (mB (gT (mI (gT ?_))));refine qY ?_;refine gT ?_;refine cg ?_;refine fV ?_;exact LB
     ·exact Lw
    ·by_cases hl : i + 1 < n - m / 64
     ·have hgj := hget (m / 64 + i + 1) Sd;have hgj2 := eb hgj;obtain ⟨d1, d2⟩ := E1 (N := bk 18446744073709551616 xs) (j := m / 64 + i) (s := m % 64) (SO _ Sd) Sd;have hcell2 : (bI 18446744073709551616 i (bk 18446744073709551616 xs / 2 ^ m) ++ (bk 18446744073709551616 xs / 18446744073709551616 ^ (m / 64 + i) % 18446744073709551616 / 2 ^ (m % 64)) :: xs.drop (m / 64 + i + 1))[i]? = some (bk 18446744073709551616 xs / 18446744073709551616 ^ (m / 64 + i) % 18446744073709551616 / 2 ^ (m % 64)) := by
       rw [Tu (by rw [aJ]; omega), aJ]; simp
      have hg2 := eb hcell2;have hset2 : ∀ y z, (bI 18446744073709551616 i (bk 18446744073709551616 xs / 2 ^ m) ++ y :: xs.drop (m / 64 + i + 1)).set i z = bI 18446744073709551616 i (bk 18446744073709551616 xs / 2 ^ m) ++ z :: xs.drop (m / 64 + i + 1) := fun y z => by
       rw [Un _ _ (by rw [aJ]; omega), aJ, Td, Sy]
      have hll2 : ∀ y, (bI 18446744073709551616 i (bk 18446744073709551616 xs / 2 ^ m) ++ y :: xs.drop (m / 64 + i + 1)).length = n - m / 64 := fun y => by rw [Sr, aJ, SG, TT]; omega
      have hs2 : (64 - (m : Int) % 64).toNat = 64 - m % 64 := Sd;have b1 : bk 18446744073709551616 xs / 18446744073709551616 ^ (m / 64 + i) % 18446744073709551616 / 2 ^ (m % 64) < 18446744073709551616 := Tk (UB _ _) (SO _ Sd);have b2 : bk 18446744073709551616 xs / 18446744073709551616 ^ (m / 64 + i + 1) % 18446744073709551616 * 2 ^ (64 - (m : Int) % 64).toNat % 18446744073709551616 < 18446744073709551616 := SO _ Sd;refine aa (sr (mI ?_));refine a9 (mL (aK ?_));refine a6 (mB (gT (mI (gT ?_))));refine qY ?_;refine gT ?_;refine cg ?_;refine fV ?_;refine aa (cT ?_);refine aU 16 [[(5, none)], [(6, none)], [(40, some 0), (41, some 1)], [(42, some 2)], [(0, none)], [(1, none)], [(45, some 5)], [(6, none)], [(46, some 6), (47, some 7)], [(48, some 8)], [(44, some 4), (49, some 9)], [(50, some 10)], [(1, none)], [(52, some 12)], [(53, some 13)], [(51, some 11), (54, some 14)]] [(15, 55), (14, 54), (13, 53), (12, 52), (11, 51), (10, 50), (9, 49), (8, 48), (7, 47), (6, 46), (5, 45), (4, 44), (3, 43), (2, 42), (1, 41), (0, 40)] hh mixed Sf ?_;refine iw ?_;refine eH ?_;refine Df (i) ?_
      refine bB (i := 3) (fun ρ1 w1 hj hR => ju aP.out (show ρ1 42 = Value.pointer _ from hR.1) (hj.hp.gk (i := 0) rfl (by rw [SI]; exact hg2))) ?_;refine iw ?_;refine eH ?_;refine bB (i := 6) (fun ρ1 w1 hj hR => sI (show ρ1 45 = Value.int _ _ from hR.1) rfl Sd Sd Sd) ?_;refine eH ?_;refine uh ?_;refine uh ?_;refine qe (m / 64 + i + 1) ?_;refine wJ (fun _ hj => (hr.ext hj.hp.below).DB hgj2) ?_;refine eH ?_;refine bB (i := 13) (fun ρ1 w1 hj hR => pF (show ρ1 52 = Value.int _ _ from hR.1) rfl Sd Sd) ?_;refine Be ?_;refine bB (i := 15) (fun ρ1 w1 hj hR => wR (show ρ1 51 = Value.int _ _ from hR.1) (show ρ1 54 = Value.int _ _ from hR.2.1) Sd) ?_;refine aR ?_;intro f W hJ hV;have hb_9 := hJ.bl;obtain ⟨v55, v54, v53, v52, v51, v50, v49, v48, v47, v46, v45, v44, v43, v42, v41, v40, _⟩ := hV;replace hh := hJ.hp;refine aX (bp (ae v55 (ae v54 (ae v53 (ae v52 (ae v51 (ae v50 (ae v49 (ae v48 (ae v47 (ae v46 (ae v45 (ae v44 (ae v43 (ae v42 (ae v41 (ae v40 aW))))))))))))))))) ?_;dsimp only [ck];clear hJ;refine BL ?_;refine gj ?_;refine bY hh (i := 0) (vs := [_]) rfl rfl (cJ rfl) rfl aP.out rfl (by rw [aT, hll2]; omega) rfl ?_;intro ws hh;simp only [Sy] at hh
      rw [hs2, d2, SI, cB (by rw [aT, hll2]; omega), fP, hset2, hac, ← hnew] at hh;refine fG ?_;refine a9 (mI (az (ai ?_)));exact Lt
     ·have e1 : bk 18446744073709551616 xs / 18446744073709551616 ^ (m / 64 + i) % 18446744073709551616 / 2 ^ (m % 64) = bk 18446744073709551616 xs / 2 ^ (64 * (m / 64 + i) + m % 64) % 18446744073709551616 := by
       obtain ⟨h2, h3⟩ := vi (bk 18446744073709551616 xs) (m / 64 + i) (m % 64) (SO _ Sd) Sd;have h4 : bk 18446744073709551616 xs / 18446744073709551616 ^ (m / 64 + i + 1) = 0 := Tj (Tg hlt (S4 Se Sd));rw [h4] at h3;simpa using h3
      exact Lw
   ·obtain rfl : i = n - m / 64 := Sd;rw [List.drop_eq_nil_of_le Sd, S3] at hh;refine sr ?_;refine oV ?_;refine br hh (gQ _ _ _ (bI 18446744073709551616 (n - m / 64) (bk 18446744073709551616 xs / 2 ^ m)) _ (hh.aD (i := 0) rfl) (So _) Sd) rfl ?_;intro w60 hh;refine aL (aa (au ?_));refine da ?_;have hbd : bk 18446744073709551616 xs / 2 ^ m < 18446744073709551616 ^ (n - m / 64) := by
     rw [TO (SV Sd), hmm, ← Ti, ← SL, show n - m / 64 + m / 64 = n by omega];exact Tg hlt (Vx _ (SV Sd))
    have hd : dH (bI 18446744073709551616 (n - m / 64) (bk 18446744073709551616 xs / 2 ^ m)) = aQ 18446744073709551616 (bk 18446744073709551616 xs / 2 ^ m) := by
     exact NH
    have h1 := (Hp.CN (xs := bI 18446744073709551616 (n - m / 64) (bk 18446744073709551616 xs / 2 ^ m)) hh (aJ _ _)).at_ (i := 0) rfl;exact Ke
def bN (a : ByteArray) : Nat := bn a.data.toList
def sN (n : Nat) : ByteArray := str (sb n)
theorem eS (n : Nat) : bN (sN n) = n := by rw [bN, sN, eE, PC]
theorem lj (n : Nat) : (sN n).size = (bu n + 7) / 8 := by rw [sN, l7, Em, Ak]
theorem Ia {a b : Nat} (h : sN a = sN b) : a = b := by rw [← eS a, h, eS]
theorem mN : sN 0 = ByteArray.mk #[] := by rw [sN, J0]; rfl
theorem vc (a : ByteArray) : bN a < 256 ^ a.size := by rw [dE]; exact La _
theorem gC (a : ByteArray) : bu (bN a) ≤ 8 * a.size := by
 apply dt;have := vc a;rwa [show (256 : Nat) = 2 ^ 8 from rfl, ← S7] at this
theorem E9 (h : n < 256 ^ k) : (aQ 18446744073709551616 n).length ≤ (k + 7) / 8 := by
 apply gO Sd;refine Tg h ?_;rw [show (256 : Nat) = 2 ^ 8 from rfl, show (18446744073709551616 : Nat) = 2 ^ 64 from rfl, ← S7, ← S7];exact S4 Sd Sd
theorem fM (a : ByteArray) : (aQ 18446744073709551616 (bN a)).length ≤ (a.size + 7) / 8 := E9 (vc a)
theorem jj (n : Nat) : Dg 18446744073709551616 (aQ 18446744073709551616 n) := (dI Sd n).1
theorem fW (n : Nat) : bk 18446744073709551616 (aQ 18446744073709551616 n) = n := dJ Sd n
theorem nL (a : ByteArray) (w : World) (ha : a.size ≤ 1000000000) :
  Calls Tryz.prog 224 #[.string a] w fun e w' => ∃ b c, e = .returned (.slice (some ⟨b, 0, none⟩) (aQ 18446744073709551616 (bN a)).length c) ∧ w'.ownsRow w.heap.size 204 1 (.slice (some ⟨b, 0, none⟩) (aQ 18446744073709551616 (bN a)).length c) (aQ 18446744073709551616 (bN a)).length (cN (aQ 18446744073709551616 (bN a))) ∧ Below w.heap.size w w' := EK a w Sd
theorem qK (n : Nat) (w : World) (hn : n < 18446744073709551616) :
  Calls Tryz.prog 202 #[.int .u64 (n : Int)] w fun e w' => e = .returned (.string (sN n)) ∧ Below w.heap.size w w' := by
 have hh := Hp.start w;refine aj (N := 6) (l := [.int .u64 (n : Int)]) Tryz.func202 rfl rfl (by simp) ?_;refine sr (aS (aa (sr (mI ?_))));refine qI ?_;intro b4 w4 hh;refine br hh (gR _ _ _ [n] _ (hh.aD (i := 0) rfl) (Dg.cons hn Dg.nil) (So _) Sd) rfl ?_;intro w5 hh;refine aS (aa (au ?_));refine da ?_;refine ⟨?_, hh.below⟩;rw [sN];simp [bk]
theorem vP (a b : ByteArray) (w : World) (ha : a.size ≤ 1000000000) (hb : b.size ≤ 1000000000) :
  Calls Tryz.prog 251 #[.string a, .string b] w fun e w' => e = .returned (.int .i64 (kF (bN a) (bN b))) ∧ Below w.heap.size w w' := by
 have hh := Hp.start w;have h1 := fM a;have h2 := fM b;refine aj (N := 10) (l := [.string a, .string b]) Tryz.func251 rfl rfl (by simp) ?_;refine sr (aI (aa (sr (mS ?_))));refine qH ?_;rintro e_ w6 ⟨A6, c6, rfl, hown_, hb_⟩;refine ⟨_, rfl, ?_⟩;replace hh := hh.aO (x := .row _ _ _ _ _ _) hb_ hown_;refine mS ?_;refine Dp ?_;rintro e_ w8 ⟨A8, c8, rfl, hown_, hb_⟩;refine ⟨_, rfl, ?_⟩;replace hh := hh.aO (x := .row _ _ _ _ _ _) hb_ hown_;refine Ga ?_;intro w9 hh;rw [fW, fW];exact zh
theorem k9 (a : ByteArray) (w : World) (ha : a.size ≤ 1000000000) :
  Calls Tryz.prog 228 #[.string a] w fun e w' => e = .returned (.int .i64 (bu (bN a))) ∧ Below w.heap.size w w' := by
 have hh := Hp.start w;have h1 := fM a;refine aj (N := 6) (l := [.string a]) Tryz.func228 rfl rfl (by simp) ?_;refine sr (aI (aa (sr (mS ?_))));refine qH ?_;rintro e_ w4 ⟨A4, c4, rfl, hown_, hb_⟩;refine ⟨_, rfl, ?_⟩;replace hh := hh.aO (x := .row _ _ _ _ _ _) hb_ hown_;refine br hh (sJ _ _ _ (aQ 18446744073709551616 (bN a)) _ (hh.aD (i := 0) rfl) (jj _) (hh.fI (i := 0) rfl) Sd) rfl ?_;intro w5 hh;rw [fW];exact zh
theorem oQ (n m : Nat) : bu (n * 2 ^ m) ≤ bu n + m := by
 apply dt;rw [SL];exact UT (cW n) (SV Sd)
theorem r5 (n : Nat) : (aQ 18446744073709551616 n).length ≤ (bu n + 63) / 64 := by
 apply gO Sd;refine Tg (cW n) ?_;exact Pp
theorem vO (a : ByteArray) (m : Nat) (w : World) (ha : a.size ≤ 1000000000) (hm : m ≤ 10000000000) :
  Calls Tryz.prog 226 #[.string a, .int .i64 (m : Int)] w fun e w' => e = .returned (.string (sN (bN a * 2 ^ m))) ∧ Below w.heap.size w w' := by
 have hh := Hp.start w;have h1 := fM a;have h2 := r5 (bN a * 2 ^ m);have h3 := oQ (bN a) m;have h4 := gC a;have e1 : (if (0 : Int) > (m : Int) then 0 else (m : Int)) = m := Si Sd;refine aj (N := 11) (l := [.string a, .int .i64 (m : Int)]) Tryz.func226 rfl rfl (by simp) ?_;refine sr (aS (aa (sr (mS ?_))));refine qH ?_;rintro e_ w6 ⟨A6, c6, rfl, hown_, hb_⟩;refine ⟨_, rfl, ?_⟩;replace hh := hh.aO (x := .row _ _ _ _ _ _) hb_ hown_;refine mI ?_;refine kI rfl rfl Se ?_;rw [e1];refine aC (EN _ _ _ m (aQ 18446744073709551616 (bN a)) _ (hh.aD (i := 0) rfl) (jj _) Sd hm) ak.out rfl Se ?_;rintro e_ w9 ⟨A9, c9, rfl, hown_, hb_⟩;refine ⟨_, rfl, ?_⟩;replace hh := hh.aO (x := .row _ _ _ _ _ _) hb_ hown_;rw [fW] at *;refine br hh (gR _ _ _ (aQ 18446744073709551616 (bN a * 2 ^ m)) _ (hh.aD (i := 0) rfl) (jj _) (hh.fI (i := 0) rfl) Sd) rfl ?_;intro w10 hh;rw [fW];exact EF
theorem oT (n m : Nat) : bu (n / 2 ^ m) ≤ bu n := by
 apply dt;exact Tk (UB _ _) (cW n)
theorem wC (a : ByteArray) (m : Nat) (w : World) (ha : a.size ≤ 1000000000) (hm : m ≤ 1000000000000) :
  Calls Tryz.prog 227 #[.string a, .int .i64 (m : Int)] w fun e w' => e = .returned (.string (sN (bN a / 2 ^ m))) ∧ Below w.heap.size w w' := by
 have hh := Hp.start w;have h1 := fM a;have h2 := r5 (bN a / 2 ^ m);have h3 := oT (bN a) m;have h4 := gC a;have e1 : (if (0 : Int) > (m : Int) then 0 else (m : Int)) = m := Si Sd;refine aj (N := 11) (l := [.string a, .int .i64 (m : Int)]) Tryz.func227 rfl rfl (by simp) ?_;refine sr (aS (aa (sr (mS ?_))));refine qH ?_;rintro e_ w6 ⟨A6, c6, rfl, hown_, hb_⟩;refine ⟨_, rfl, ?_⟩;replace hh := hh.aO (x := .row _ _ _ _ _ _) hb_ hown_;refine mI ?_;refine kI rfl rfl Se ?_;rw [e1];refine aC (xA _ _ _ m (aQ 18446744073709551616 (bN a)) _ (hh.aD (i := 0) rfl) (jj _) (hh.fI (i := 0) rfl) Sd hm) ak.out rfl Se ?_;rintro e_ w9 ⟨A9, c9, rfl, hown_, hb_⟩;refine ⟨_, rfl, ?_⟩;replace hh := hh.aO (x := .row _ _ _ _ _ _) hb_ hown_;rw [fW] at *;refine br hh (gR _ _ _ (aQ 18446744073709551616 (bN a / 2 ^ m)) _ (hh.aD (i := 0) rfl) (jj _) (hh.fI (i := 0) rfl) Sd) rfl ?_;intro w10 hh;rw [fW];exact EF
theorem Jy {x y : Nat} (h : y ≤ x) : yw 18446744073709551616 (aQ 18446744073709551616 x) (aQ 18446744073709551616 y) 0 = 0 ∧ bk 18446744073709551616 (q5 18446744073709551616 (aQ 18446744073709551616 x) (aQ 18446744073709551616 y) 0) = x - y := by
 have := F1 (B := 18446744073709551616) Sd (aQ 18446744073709551616 x) (aQ 18446744073709551616 y) 0 (jj _) (jj _) Sd (by rw [fW, fW]; omega);rw [fW, fW] at this;exact ⟨this.2, Sd⟩
theorem pB (a b : ByteArray) (w : World) (ha : a.size ≤ 1000000000) (hb : b.size ≤ 1000000000) :
  Calls Tryz.prog 232 #[.string a, .string b] w fun e w' => e = .returned (.tuple #[.string (sN (bN a - bN b)), .bool (decide (bN b ≤ bN a))]) ∧ Below w.heap.size w w' := by
 have hh := Hp.start w;have h1 := fM a;have h2 := fM b;by_cases hlt : bN a < bN b
 ·refine aj (N := 21) (l := [.string a, .string b]) Tryz.func232 rfl rfl (by simp) ?_;refine sr (aS (aB (aa (sr (mS ?_)))));refine qH ?_;rintro e_ w9 ⟨A9, c9, rfl, hown_, hb_⟩;refine ⟨_, rfl, ?_⟩;replace hh := hh.aO (x := .row _ _ _ _ _ _) hb_ hown_;refine mS ?_;refine Dp ?_;rintro e_ w11 ⟨A11, c11, rfl, hown_, hb_⟩;refine ⟨_, rfl, ?_⟩;replace hh := hh.aO (x := .row _ _ _ _ _ _) hb_ hown_;refine aL (aL (aa (ah (sr (mL (mL ?_))))));refine Ga ?_;intro w14 hh;rw [fW, fW, k8 hlt];exact ON
 ·obtain ⟨s1, s2⟩ := Jy (Nat.le_of_not_lt hlt);have hc : ¬ kF (bN a) (bN b) < 0 := by unfold kF; split <;> (try split) <;> omega
  refine aj (N := 21) (l := [.string a, .string b]) Tryz.func232 rfl rfl (by simp) ?_;refine sr (aS (aB (aa (sr (mS ?_)))));refine qH ?_;rintro e_ w9 ⟨A9, c9, rfl, hown_, hb_⟩;refine ⟨_, rfl, ?_⟩;replace hh := hh.aO (x := .row _ _ _ _ _ _) hb_ hown_;refine mS ?_;refine Dp ?_;rintro e_ w11 ⟨A11, c11, rfl, hown_, hb_⟩;refine ⟨_, rfl, ?_⟩;replace hh := hh.aO (x := .row _ _ _ _ _ _) hb_ hown_;refine aL (aL (aa (ah (sr (mL (mL ?_))))));refine Ga ?_;intro w14 hh;rw [fW, fW];refine a6 (aa (cF (aq (ai (sr (mL (mL ?_)))))));replace hh := hh.front 1 rfl;rw [← S3 (aQ 18446744073709551616 (bN a)), ← Ss (aQ 18446744073709551616 (bN a))] at hh;have hll := (hh.KH (i := 0) rfl);rw [Ss, S3] at hll;refine aC (y7 [] (aQ 18446744073709551616 (bN a)) [] (aQ 18446744073709551616 (bN b)) _ hh (fun w1 cs h => h.aD (i := 1) rfl) (jj _) (jj _) Sd Sd s1) ak.out rfl Se ?_;rintro e_ w_ ⟨rfl, hh⟩;refine ⟨_, rfl, ?_⟩;simp only [Ss, S3] at hh;refine aa (sr (mL ?_))
  refine br hh (gR _ _ _ (q5 18446744073709551616 (aQ 18446744073709551616 (bN a)) (aQ 18446744073709551616 (bN b)) 0) _ (hh.aD (i := 0) rfl) (Jn Sd _ _ _) (hh.fI (i := 0) rfl) Sd) rfl ?_;intro w20 hh;rw [s2];exact OR
theorem wG (a b : ByteArray) (w : World) (ha : a.size ≤ 1000000000) (hb : b.size ≤ 1000000000) :
  Calls Tryz.prog 234 #[.string a, .string b] w fun e w' => e = .returned (.string (sN (bN a * bN b))) ∧ Below w.heap.size w w' := by
 have hh := Hp.start w;have h1 := fM a;have h2 := fM b;refine aj (N := 37) (l := [.string a, .string b]) Tryz.func234 rfl rfl (by simp) ?_;refine sr (aS (aa (sr (mS ?_))));refine qH ?_;rintro e_ w11 ⟨A11, c11, rfl, hown_, hb_⟩;refine ⟨_, rfl, ?_⟩;replace hh := hh.aO (x := .row _ _ _ _ _ _) hb_ hown_;refine mS ?_;refine Dp ?_;rintro e_ w13 ⟨A13, c13, rfl, hown_, hb_⟩;refine ⟨_, rfl, ?_⟩;replace hh := hh.aO (x := .row _ _ _ _ _ _) hb_ hown_;have hxd := jj (bN a);have hyd := jj (bN b);have hX := fW (bN a);have hY := fW (bN b);generalize aQ 18446744073709551616 (bN a) = xs at *;generalize aQ 18446744073709551616 (bN b) = ys at *;refine aL (aL (aa (sr (mL (aK (mL (aK ?_)))))));refine a9 ?_;refine a9 ?_;refine gD (n := xs.length + ys.length + 1) hh rfl rfl Sd Sd bq.out aP.out rfl Sd Sd Se ?_;intro b20 w20 hh;refine pj ?_;rw [oK] at hh;refine aN [8, 9, 23, 24, 25, 26, 27, 28, 29, 30, 31, 32, 33, 34] 23
  (fun v w' => ∃ (i : Nat) (L : List Nat), i ≤ xs.length ∧ v = .int .i64 i ∧ Dg 18446744073709551616 L ∧ L.length = xs.length + ys.length + 1 ∧ bk 18446744073709551616 L = bk 18446744073709551616 (xs.take i) * bk 18446744073709551616 ys ∧ Hp w [.row (some ⟨b20, 0, none⟩) (xs.length + ys.length + 1) (xs.length + ys.length + 1) 204 1 (cN L), .row (some ⟨A13, 0, none⟩) ys.length c13 204 1 (cN ys), .row (some ⟨A11, 0, none⟩) xs.length c11 204 1 (cN xs)] w')
  (fun v _ => xs.length - (intOf v).toNat) ?_ ?_
 ·exact ⟨0, _, Sn _, rfl, Dg.uC Sd _, by simp, by simp [qb, bk], hh⟩
 ·clear hh;rintro ρ' v w' ⟨i, L, hi, rfl, hLd, hLl, hLv, hh⟩;by_cases hlt : i < xs.length
  ·obtain ⟨m, hm⟩ := av (l := xs) (k := i) Sd;have hm2 := eb hm;have hmw := hxd.at_ hm;have hpl : (L.take i).length = i := by rw [SP]; omega
   have hsl : (L.drop i).length = xs.length + ys.length + 1 - i := by rw [TT]; omega
   refine sr ?_;refine fj ?_;refine gj ?_;refine cv aP.out rfl (hh.gk (i := 2) rfl (by first | assumption | (simp only [SI]; assumption))) Se ?_;refine aI (aI (aa (al (mL (mI ?_)))));refine AG (l := i) bq.out aP.size rfl rfl Sd Sd Sd Sd Se ?_;refine mL (mI ?_);have hc := xY (c' := xs.length + ys.length + 1 - i) (ny := ys.length) (cy := c13) (m := m) (Y := some ⟨A13, 0, none⟩) (L.take i) (L.drop i) [] ys _ (by rw [S3, To]; exact hh) (fun w1 cs h => h.aD (i := 1) rfl) (hLd.drop i) hyd hmw Sd Sd;rw [hpl, hsl, S3] at hc;rw [SM, SI];refine aC (hc) ak.out rfl Se ?_;rintro e_ w_ ⟨rfl, hh⟩;refine ⟨_, rfl, ?_⟩;have hlt1 := ij (hxd.take (i + 1));have hlt2 := ij hyd;rw [SP, Tp Sd] at hlt1;have hsn := fC (B := 18446744073709551616) hm;have hsplit := iU (B := 18446744073709551616) L i Sd;have hnew : 18446744073709551616 ^ i * (bk 18446744073709551616 (L.drop i) + bk 18446744073709551616 ys * m + 0) + bk 18446744073709551616 (L.take i) = bk 18446744073709551616 (xs.take (i + 1)) * bk 18446744073709551616 ys := by
    rw [hsn, Up, ← hLv, hsplit, TB, Te, Ti, SS m]; omega
   have hbd : bk 18446744073709551616 (L.drop i) + bk 18446744073709551616 ys * m + 0 < 18446744073709551616 ^ (L.drop i).length := by
    refine Nat.lt_of_mul_lt_mul_left (a := 18446744073709551616 ^ i) ?_;rw [← SL, hsl];refine Tk (Nat.le_add_right _ (bk 18446744073709551616 (L.take i))) ?_;rw [hnew];refine Tg (Nat.mul_lt_mul'' hlt1 hlt2) ?_;rw [← SL];exact S4 Se Sd
   have hdp := vr (B := 18446744073709551616) Sd _ _ _ _ hbd;refine fG ?_;refine a9 (mI (az (ai ?_)));refine ⟨⟨i + 1, L.take i ++ gU 18446744073709551616 (L.drop i) ys m 0, Sd, rfl, (hLd.take i).append (yu Sd _ _ _ _), by rw [Sr, oE, hpl, hsl]; omega, ?_, hh⟩, by show xs.length - (i + 1) < xs.length - i; omega, ?_⟩
   ·rw [eF, hdp, hpl, Uj]; exact hnew
   exact Sg
  ·obtain rfl : i = xs.length := Sd;rw [Vl, hX, hY] at hLv;refine sr ?_;refine oV ?_;refine br hh (gR _ _ _ L _ (hh.aD (i := 0) rfl) hLd (So _) Sd) rfl ?_;intro w36 hh;rw [hLv];exact EF
theorem Kg {d r : Nat} (hd : d ≠ 0) (hdw : d < 18446744073709551616) (hn : n = 18446744073709551616 ^ k * (d + 18446744073709551616 * r)) : tz n = 64 * k + tz d := by
 obtain ⟨m, hm⟩ := rD hd;have ht : tz d < 64 := vE hd (by simpa using hdw);have hW : (18446744073709551616 : Nat) = 2 ^ 64 := by decide
 generalize tz d = t at *;have e : n = 2 ^ (64 * k + t) * (2 * (m + 2 ^ (63 - t) * r) + 1) := by
  rw [hn, SL, S7, ← hW, Ti];congr 1;have h1 : 18446744073709551616 = 2 ^ t * (2 * 2 ^ (63 - t)) := by rw [hW, ← Nat.pow_succ', ← SL]; congr 1; omega
  have h2 : 18446744073709551616 * r = 2 ^ t * (2 * 2 ^ (63 - t) * r) := by rw [← Ti, ← h1]
  rw [h2]
  conv => lhs; rw [hm]
  rw [← Te];congr 1;rw [Te, Ti]; omega
 rw [e, Dx]
theorem jM (a : ByteArray) (w : World) (ha : a.size ≤ 1000000000) (hT : dD w) :
  Calls Tryz.prog 196 #[.string a] w fun e w' => e = .returned (.int .i64 (tz (bN a))) ∧ Below w.heap.size w w' := by
 have hh := Hp.start w;have h1 := fM a;refine aj (N := 21) (l := [.string a]) Tryz.func196 rfl rfl (by simp) ?_;refine sr (aI (aa (ah (sr (mS ?_)))));refine qH ?_;rintro e_ w6 ⟨A6, c6, rfl, hown_, hb_⟩;refine ⟨_, rfl, ?_⟩;replace hh := hh.aO (x := .row _ _ _ _ _ _) hb_ hown_;have hxd := jj (bN a);have hX := fW (bN a);generalize aQ 18446744073709551616 (bN a) = xs at *;refine aK (mI (aa (ao ?_)));refine aN [2, 3, 4, 8, 9, 10, 11, 12, 13, 14, 15, 16, 17, 18, 19, 20] 8
  (fun v w' => ∃ (i : Nat), i ≤ xs.length ∧ v = .int .i64 i ∧ bk 18446744073709551616 (xs.take i) = 0 ∧ Hp w [.row (some ⟨A6, 0, none⟩) xs.length c6 204 1 (cN xs)] w')
  (fun v _ => xs.length - (intOf v).toNat) ?_ ?_
 ·exact ⟨0, Sn _, rfl, rfl, hh⟩
 ·clear hh;rintro ρ' v w' ⟨i, hi, rfl, hz, hh⟩;by_cases hlt : i < xs.length
  ·obtain ⟨d, hm⟩ := av (l := xs) (k := i) Sd;have hm2 := eb hm;have hmw := hxd.at_ hm;by_cases h0 : d = 0
   ·subst h0;refine sr ?_;refine fj ?_;refine gj ?_;refine jR ?_;refine aI (aI (aa (sr (mI ?_))));refine cX (aa (cF (aq (bg (ai (al ?_))))));refine a9 (mI (az (ai ?_)));refine ⟨⟨i + 1, Sd, rfl, by rw [fC hm, hz]; simp, hh⟩, by show xs.length - (i + 1) < xs.length - i; omega, ?_⟩;exact eB
   ·have htz : tz (bN a) = 64 * i + tz d := by
     have h3 := iU (B := 18446744073709551616) xs i Sd;have h4 := (SC.1 hm);rw [hz, T4 hlt, h4.2, bk, hX, SM] at h3;exact Kg h0 hmw h3
    have ht : tz d < 64 := vE h0 (by simpa using hmw);refine sr ?_;refine fj ?_;refine gj ?_;refine jR ?_;refine aI (aI (aa (sr (mI ?_))));refine cX (aa (cT (sr (mI ?_))));refine mulC (mI ?_);refine br hh (BH _ _ hmw h0 (hT.hp hh)) rfl ?_;intro w18 hh;refine a9 (aI (aa (au (bQ (aG (aG (bQ (aG ?_))))))));refine da ?_;refine ⟨?_, hh.below⟩;congr 2;omega
  ·refine sr ?_;refine Cx ?_;refine da ?_;rw [Su Sd, hX] at hz;rw [hz];exact ⟨rfl, hh.below⟩
theorem Ko {x y : Nat} (hx : x < 18446744073709551616 ^ k) (hy : y < 18446744073709551616 ^ k) : bk 18446744073709551616 (gU 18446744073709551616 (aQ 18446744073709551616 x ++ List.replicate (k + 1 - (aQ 18446744073709551616 x).length) 0) (aQ 18446744073709551616 y) 1 0) = x + y := by
 have hl := gO (B := 18446744073709551616) Sd hx;have h1 : bk 18446744073709551616 (aQ 18446744073709551616 x ++ List.replicate (k + 1 - (aQ 18446744073709551616 x).length) 0) = x := by rw [eF, qb, fW]; simp
 have h2 : (aQ 18446744073709551616 x ++ List.replicate (k + 1 - (aQ 18446744073709551616 x).length) 0).length = k + 1 := by rw [Sr, TP]; omega
 rw [vr Sd, h1, fW]
 ·omega
 ·rw [h1, h2, fW, Ta];have : 0 < 18446744073709551616 ^ k := SV Se;omega
theorem pS (l : List Nat) (x : Nat) : (l ++ [x]).sum = l.sum + x := by simp
theorem wy (L : Option Addr) (n c : Nat) (ss : List ByteArray) (w : World) (hS : Sl w L n 1 (yn ss)) (hn : n ≤ 1000000) (hs : ∀ s ∈ ss, s.size ≤ 1000000000) :
  Calls Tryz.prog 230 #[.slice L n c] w fun e w' => e = .returned (.string (sN (ss.map bN).sum)) ∧ Below w.heap.size w w' := by
 have hsl : ss.length = n := by have := hS.1; rw [qB] at this; omega
 have hh := Hp.start w;refine aj (N := 31) (l := [.slice L n c]) Tryz.func230 rfl rfl (by simp) ?_;refine sr (aS (aa (sr (aL (aa (ah (sr (mL (aK (mI (aa (ao ?_))))))))))));replace hh := hh.dL 204 1;refine bP [3, 5, 6, 9, 10, 11, 12, 13, 14, 15, 16, 17, 18, 19, 20, 21, 22, 23, 24, 25, 26, 27, 28] 3 9
  (fun v j w' => ∃ (i : Nat) (A : Option Addr) (c' T : Nat), i ≤ n ∧ j = .int .i64 i ∧ T = ((ss.take i).map bN).sum ∧ v = .slice A (aQ 18446744073709551616 T).length c' ∧ (aQ 18446744073709551616 T).length ≤ 125000001 + i ∧ Hp w [.row A (aQ 18446744073709551616 T).length c' 204 1 (cN (aQ 18446744073709551616 T))] w')
  (fun _ j _ => n - (intOf j).toNat) ?_ ?_
 ·exact ⟨0, none, 0, 0, Sn _, rfl, rfl, by rw [fQ Sd]; rfl, by rw [fQ Sd]; simp, by rw [fQ Sd]; exact hh⟩
 ·clear hh;rintro ρ' v j w' ⟨i, A, c', T, hi, rfl, hT, rfl, hTl, hh⟩;by_cases hlt : i < n
  ·obtain ⟨s, hsi⟩ := av (l := ss) (k := i) Sd;obtain ⟨ad, rfl, hr⟩ := hS.at_ Sd;have hs2 := CY hsi;have hsz := hs s (Sp hsi);have hlx := fM s;have hT2 : ((ss.take (i + 1)).map bN).sum = T + bN s := by rw [ay hsi, Tt, UO, pS, hT]
   have e1 : (if ((aQ 18446744073709551616 (bN s)).length : Int) > ((aQ 18446744073709551616 T).length : Int) then ((aQ 18446744073709551616 (bN s)).length : Int) else ((aQ 18446744073709551616 T).length : Int)) + 1 = ((max (aQ 18446744073709551616 T).length (aQ 18446744073709551616 (bN s)).length + 1 : Nat) : Int) := by split <;> omega
   have hb1 : T < 18446744073709551616 ^ max (aQ 18446744073709551616 T).length (aQ 18446744073709551616 (bN s)).length := Tg (pz Sd T) (S4 Se (Nat.le_max_left _ _));have hb2 : bN s < 18446744073709551616 ^ max (aQ 18446744073709551616 T).length (aQ 18446744073709551616 (bN s)).length := Tg (pz Sd (bN s)) (S4 Se (Nat.le_max_right _ _));have hadd := Ko hb1 hb2;refine sr ?_;refine dq ?_;refine db bq.out aP.size rfl rfl rfl Sd Se ?_;refine iy ?_;refine aS (aa (sr (mS ?_)));refine aC (nL s _ hsz) ak.out rfl Se ?_;rintro e_ w14 ⟨A14, c14, rfl, hown_, hb_⟩;refine ⟨_, rfl, ?_⟩;replace hh := hh.aO (x := .row _ _ _ _ _ _) hb_ hown_;refine aL (aa (sr (mL (mL (aK (mL (aK ?_)))))));refine kI rfl rfl Se ?_;refine a9 ?_;rw [e1];generalize hM : max (aQ 18446744073709551616 T).length (aQ 18446744073709551616 (bN s)).length = M at *;refine aC (nn _ _ _ (M + 1) _ _ (hh.aD (i := 1) rfl) Sd Sd) ak.out rfl Se ?_;rintro e_ w_ ⟨b22, rfl, hown_, hb_⟩;refine ⟨_, rfl, ?_⟩;replace hh := hh.aO (x := .row _ _ _ _ _ _) hb_ hown_;have e2 : max (M + 1) (aQ 18446744073709551616 T).length = M + 1 := Sd;rw [e2] at hh;rw [e2]
   refine aL (aa (sr (mL (mL ?_))));have hc := Bs (c' := M + 1) (ny := (aQ 18446744073709551616 (bN s)).length) (cy := c14) (Y := some ⟨A14, 0, none⟩) [] (aQ 18446744073709551616 T ++ List.replicate (M + 1 - (aQ 18446744073709551616 T).length) 0) [] (aQ 18446744073709551616 (bN s)) _ (by rw [S3, Ss]; exact hh) (fun w1 cs h => h.aD (i := 1) rfl) ((jj _).append (Dg.uC Sd _)) (jj _) (by rw [Sr, TP]; omega) Sd;have e3 : (aQ 18446744073709551616 T ++ List.replicate (M + 1 - (aQ 18446744073709551616 T).length) 0).length = M + 1 := by rw [Sr, TP]; omega
   rw [e3, S3, Ss] at hc;refine aC (hc) ak.out rfl Se ?_;rintro e_ w_ ⟨rfl, hh⟩;refine ⟨_, rfl, ?_⟩;have hpl : (gU 18446744073709551616 (aQ 18446744073709551616 T ++ List.replicate (M + 1 - (aQ 18446744073709551616 T).length) 0) (aQ 18446744073709551616 (bN s)) 1 0).length = M + 1 := by rw [oE, e3]
   have hpd := yu (B := 18446744073709551616) Sd (aQ 18446744073709551616 T ++ List.replicate (M + 1 - (aQ 18446744073709551616 T).length) 0) (aQ 18446744073709551616 (bN s)) 1 0;generalize gU 18446744073709551616 (aQ 18446744073709551616 T ++ List.replicate (M + 1 - (aQ 18446744073709551616 T).length) 0) (aQ 18446744073709551616 (bN s)) 1 0 = Z at *;have hcz : dH Z = aQ 18446744073709551616 (T + bN s) := by rw [gZ Sd hpd, hadd]
   have hcl := fk Z;refine aa (al (mL ?_));refine br hh (gQ _ _ _ Z _ (hh.aD (i := 0) rfl) (So _) Sd) rfl ?_;intro w27 hh;replace hh := (hh.CN hpl).sub (Vu [_] _);rw [hcz] at *;refine na ?_;refine a9 (mI (az (ai ?_)));refine ⟨⟨i + 1, _, _, T + bN s, Sd, rfl, hT2.symm, rfl, Sd, hh⟩, by show n - (i + 1) < n - i; omega, ?_⟩;exact eB
  ·refine sr ?_;refine oV ?_;refine br hh (gR _ _ _ (aQ 18446744073709551616 T) _ (hh.aD (i := 0) rfl) (jj _) (hh.fI (i := 0) rfl) Sd) rfl ?_;intro w30 hh;rw [fW];exact PF
theorem Aq (s : ByteArray) (l h : Nat) : s.extract l h = str ((s.data.toList.take h).drop l) := by
 apply ti;rw [eE];simp [ByteArray.extract, ByteArray.copySlice, List.drop_take]
def Mj : Value → Nat
 | .string t => t.size
 | _ => 0
theorem rY (s : ByteArray) (w : World) :
  Calls Tryz.prog 263 #[.string s, .int .u8 ((0 : UInt8).toNat : Int)] w fun e w' => e = .returned (.string (sN (bN s))) ∧ Below w.heap.size w w' := by
 have hh := Hp.start w;refine aj (N := 17) (l := [.string s, .int .u8 ((0 : UInt8).toNat : Int)]) Tryz.func263 rfl rfl (by simp) ?_;refine sr (aS (aa (ah (ao ?_))));refine aN [0, 5, 6, 7, 8, 9, 10, 11, 12, 13, 14, 15] 0
  (fun v w' => ∃ l : List UInt8, v = .string (str l) ∧ l.length ≤ s.size ∧ bn l = bN s ∧ w' = w)
  (fun v _ => Mj v) ?_ ?_
 ·exact ⟨s.data.toList, by rw [ME]; rfl, by rw [dE]; exact So _, rfl, rfl⟩
 ·rintro ρ' v w' ⟨l, rfl, hl, hb, rfl⟩;have hsz := l7 l
  cases l with
  | nil =>
   refine ah (sr (mS ?_));refine bD bq.out rfl Se ?_;refine cg (mB ?_);refine gS (gS (gS (gS ?_)));refine fa ?_;refine aa (cF (aV (aE (aE (bo (ai (sr (mS (aS (aa (au ?_)))))))))));refine da ?_;rw [sN, ← hb];exact ⟨rfl, hh.below⟩
  | cons c l =>
   have hc0 : (str (c :: l)).data.toList[(0 : Int).toNat]? = some c := by rw [eE]; rfl
   have hc8 := c.toNat_lt;have hlen : (str (c :: l)).size = l.length + 1 := by rw [hsz]; rfl
   have hz : (0 : UInt8).toNat = 0 := rfl;by_cases h0 : c = 0
   ·subst h0;refine ah (sr (mS ?_));refine bD bq.out rfl Se ?_;refine cg (mB (gT (mS (gT ?_))));refine jN ?_;refine gT (mI (gT ?_));refine cH ?_;refine fV ?_;refine aa (cT (aq (ai (ao (al (mS ?_))))));refine qL (l := 1) (h := (str ((0 : UInt8) :: l)).size) bq.out rfl ⟨_, _, rfl, Sd⟩ rfl Sd Sd Se ?_;refine aS (az (bg (ai ?_)));rw [Aq, eE, Su (by rw [hlen]; simp), List.drop_succ_cons, List.drop_zero];refine ⟨⟨l, rfl, by simp at hl; omega, by rw [← hb, HX], rfl⟩, ?_, ?_⟩
    ·show (str l).size < (str (0 :: l)).size;rw [hlen, l7]; omega
    exact Sg
   ·have hcn : c.toNat ≠ 0 := fun h => h0 (U2.1 h);refine ah (sr (mS ?_));refine bD bq.out rfl Se ?_;refine cg (mB (gT (mS (gT ?_))));refine jN ?_;refine gT (mI (gT ?_));refine cH ?_;refine fV ?_;refine aa (cF (aV (aE (aE (bo (ai (sr (mS (aS (aa (au ?_)))))))))));refine da ?_;rw [sN, ← hb, O5 (by simpa using h0)];exact ⟨rfl, hh.below⟩
theorem sK (s : ByteArray) (w : World) :
  Calls Tryz.prog 254 #[.string s, .string (ByteArray.mk #[0])] w fun e w' => e = .returned (.string (sN (bN s))) ∧ Below w.heap.size w w' := by
 have hh := Hp.start w;have hne : ¬ ByteArray.mk #[(0 : UInt8)] = ByteArray.mk #[] := by intro h; injection h with h; simp at h
 have hsz1 : (ByteArray.mk #[(0 : UInt8)]).size = 1 := rfl;have hc0 : (ByteArray.mk #[(0 : UInt8)]).data.toList[(0 : Int).toNat]? = some 0 := rfl;have hz : (0 : UInt8).toNat = 0 := rfl;by_cases h0 : s = ByteArray.mk #[]
 ·subst h0;refine aj (N := 37) (l := [.string (ByteArray.mk #[]), .string (ByteArray.mk #[0])]) Tryz.func254 rfl rfl (by simp) ?_;refine sr (aS (aa (ah (sr (mS ?_)))));refine j1 rfl rfl (by first | rfl | assumption | decide) Se ?_;refine mB ?_;refine gS (gS ?_);refine fV ?_;refine aa (cT (sr (mS (aS (aa (au (aG ?_)))))));refine da ?_;rw [show bN (ByteArray.mk #[]) = 0 from rfl, mN];exact ⟨rfl, hh.below⟩
 ·refine aj (N := 37) (l := [.string s, .string (ByteArray.mk #[0])]) Tryz.func254 rfl rfl (by simp) ?_;refine sr (aS (aa (ah (sr (mS ?_)))));refine j5 rfl rfl (by first | assumption | decide) Se ?_;refine mB (gT (mS (gT ?_)))
  (first | refine j1 rfl rfl (by first | rfl | assumption | decide) Se ?_ | refine j5 rfl rfl (by first | assumption | decide) Se ?_)
  refine fa ?_;refine aa (cF (aq (ai (ah (sr (mS ?_))))));refine bD bq.out rfl Se ?_;refine cH (mB (gT (mS (gT ?_))));refine jN ?_;refine gT ?_;refine a6 ?_;refine fV ?_;refine aa (cT (sr (mS (mS ?_))));refine jN ?_;refine br hh (rY s _) rfl ?_;intro w25 hh;refine aS (aa (au (aG ?_)));refine da ?_;exact ⟨rfl, hh.below⟩
theorem kj (s : ByteArray) (w : World) :
  Calls Tryz.prog 233 #[.string s] w fun e w' => e = .returned (.string (sN (bN s))) ∧ Below w.heap.size w w' := by
 have hh := Hp.start w;refine aj (N := 5) (l := [.string s]) Tryz.func233 rfl rfl (by simp) ?_;refine sr (aS (aa (sr (mS ?_))));refine br hh (sK s _) rfl ?_;intro w4 hh;exact EF
variable {z : Int}
def iv (s : Bool) (m : ByteArray) : Int := if s then -(bN m : Int) else bN m
def iN (z : Int) : Bool := decide (z < 0)
def iM (z : Int) : ByteArray := sN z.natAbs
theorem eR (z : Int) : iv (iN z) (iM z) = z := by
 unfold iv iN iM;rw [eS];by_cases h : z < 0
 ·rw [SF h, Sj rfl]; omega
 ·rw [SQ h, Si (by simp)]; omega
theorem rf : iM z = ByteArray.mk #[] ↔ z = 0 := by
 rw [iM, ← mN];constructor
 ·intro h; have := Ia h; omega
 ·intro h; rw [h]; rfl
theorem jL (s : Bool) (m : ByteArray) : (iv s m).natAbs = bN m := by
 unfold iv; split <;> omega
theorem Cn (s : Bool) (m : ByteArray) : iM (iv s m) = sN (bN m) := by rw [iM, jL]
theorem LC (s : Bool) (m : ByteArray) : iN (iv s m) = (s && decide (bN m ≠ 0)) := by
 unfold iN iv;rw [Bool.eq_iff_iff, SE, SJ, SJ]
 cases s
 ·simp only [Vd, if_false, false_and, iff_false]; omega
 ·simp only [if_true, true_and]; omega
theorem jI (s : Bool) (m : ByteArray) (w : World) :
  Calls Tryz.prog 199 #[.agg #[.bool s, .string m]] w fun e w' => e = .returned (.agg #[.string m, .bool s]) ∧ Below w.heap.size w w' := by
 have hh := Hp.start w;refine aj (N := 8) (l := [.agg #[.bool s, .string m]]) Tryz.func199 rfl rfl (by simp) ?_;refine sr ?_;refine cq hh [_,_] ?_;intro b1 w1 hh;refine bJ hh ?_;intro b2 w2 hh;refine aa (sr (bF ?_));refine bE hh 1 ?_;refine bF ?_;refine bE hh 1 ?_;refine gg [_,_] ?_;exact K7
theorem dh (s : Bool) (m : ByteArray) (w : World) :
  Calls Tryz.prog 200 #[.agg #[.string m, .bool s]] w fun e w' => e = .returned (.agg #[.bool (iN (iv s m)), .string (iM (iv s m))]) ∧ Below w.heap.size w w' := by
 have hh := Hp.start w;rw [LC, Cn]
 cases s with
 | false =>
  refine aj (N := 15) (l := [.agg #[.string m, .bool false]]) Tryz.func200 rfl rfl (by simp) ?_;refine sr ?_;refine cq hh [_,_] ?_;intro b1 w1 hh;refine bJ hh ?_;intro b2 w2 hh;refine aa (sr (bF ?_));refine bE hh 1 ?_;refine br hh (kj m _) rfl ?_;intro w6 hh;refine aS (aa (sr (bF ?_)));refine bE hh 1 ?_;refine mB ?_;refine gS (gS ?_);refine fa ?_;refine mS ?_;refine gg [_,_] ?_;exact K7
 | true =>
  by_cases h0 : sN (bN m) = ByteArray.mk #[]
  ·refine aj (N := 15) (l := [.agg #[.string m, .bool true]]) Tryz.func200 rfl rfl (by simp) ?_;refine sr ?_;refine cq hh [_,_] ?_;intro b1 w1 hh;refine bJ hh ?_;intro b2 w2 hh;refine aa (sr (bF ?_));refine bE hh 1 ?_;refine br hh (kj m _) rfl ?_;intro w6 hh;refine aS (aa (sr (bF ?_)));refine bE hh 1 ?_;refine mB (gT (mS (gT ?_)))
   (first | refine j9 rfl rfl (by first | rfl | assumption | decide) Se ?_ | refine j8 rfl rfl (by first | assumption | decide) Se ?_)
   refine fV ?_;refine mS ?_;refine gg [_,_] ?_;refine bK hh 0 [_,_] ?_;intro ws hh;replace hh : Hp _ (.blk _ _ [_, _] _ :: _) _ := hh;refine aa (au ?_);refine o7 ?_;exact Og
  ·refine aj (N := 15) (l := [.agg #[.string m, .bool true]]) Tryz.func200 rfl rfl (by simp) ?_;refine sr ?_;refine cq hh [_,_] ?_;intro b1 w1 hh;refine bJ hh ?_;intro b2 w2 hh;refine aa (sr (bF ?_));refine bE hh 1 ?_;refine br hh (kj m _) rfl ?_;intro w6 hh;refine aS (aa (sr (bF ?_)));refine bE hh 1 ?_;refine mB (gT (mS (gT ?_)))
   (first | refine j9 rfl rfl (by first | rfl | assumption | decide) Se ?_ | refine j8 rfl rfl (by first | assumption | decide) Se ?_)
   refine fV ?_;refine mS ?_;refine gg [_,_] ?_;refine bK hh 0 [_,_] ?_;intro ws hh;replace hh : Hp _ (.blk _ _ [_, _] _ :: _) _ := hh;refine aa (au ?_);refine o7 ?_;exact N4
def Rn (s : Bool) (m : ByteArray) : Value := .agg #[.string m, .bool s]
theorem sk (a b : ByteArray) (w : World) (ha : a.size ≤ 1000000000) (hb : b.size ≤ 1000000000) :
  Calls Tryz.prog 231 #[.string a, .string b] w fun e w' => e = .returned (.int .i64 (kF (bN a) (bN b))) ∧ Below w.heap.size w w' := by
 have hh := Hp.start w;refine aj (N := 8) (l := [.string a, .string b]) Tryz.func231 rfl rfl (by simp) ?_;refine sr (aI (aa (sr (mS (mS ?_)))));refine br hh (vP a b _ ha hb) rfl ?_;intro w7 hh;exact zh
theorem mf (s : Bool) (m : ByteArray) (w : World) :
  Calls Tryz.prog 223 #[.agg #[.bool s, .string m]] w fun e w' => e = .returned (.agg #[.bool (iN (iv s m)), .string (iM (iv s m))]) ∧ Below w.heap.size w w' := by
 have hh := Hp.start w;refine aj (N := 6) (l := [.agg #[.bool s, .string m]]) Tryz.func223 rfl rfl (by simp) ?_;refine sr ?_;refine cq hh [_,_] ?_;intro b1 w1 hh;refine bJ hh ?_;intro b2 w2 hh;refine aa (sr ?_);refine cu hh 1 [_,_] ?_;refine br hh (jI s m _) rfl ?_;intro w4 hh;refine br hh (dh s m _) rfl ?_;intro w5 hh;exact K7
theorem sA (s : Bool) (m : ByteArray) (w : World) :
  Calls Tryz.prog 185 #[.agg #[.bool s, .string m]] w fun e w' => e = .returned (.agg #[.bool (iN (-(iv s m))), .string (iM (-(iv s m)))]) ∧ Below w.heap.size w w' := by
 have hh := Hp.start w;have e1 : iv (!s) m = -(iv s m) := by unfold iv; cases s <;> simp
 refine aj (N := 10) (l := [.agg #[.bool s, .string m]]) Tryz.func185 rfl rfl (by simp) ?_;refine sr ?_;refine cq hh [_,_] ?_;intro b1 w1 hh;refine bJ hh ?_;intro b2 w2 hh;refine aa (sr (bF ?_));refine bE hh 1 ?_;refine bF ?_;refine bE hh 1 ?_;refine fF ?_;refine gg [_,_] ?_;refine br hh (dh (!s) m _) rfl ?_;intro w9 hh;rw [e1];exact K7
theorem kd (s : Bool) (m : ByteArray) (w : World) :
  Calls Tryz.prog 195 #[.agg #[.bool s, .string m]] w fun e w' => e = .returned (.int .i64 (iv s m).sign) ∧ Below w.heap.size w w' := by
 have hh := Hp.start w;by_cases h1 : iv s m < 0
 ·have hn : iN (iv s m) = true := SF h1;refine Gh ?_;refine sr ?_;refine cq hh [_,_] ?_;intro b1 w1 hh;refine aI (aa (sr ?_));refine cu hh 0 [_,_] ?_;refine br hh (mf s m _) rfl ?_;intro w5 hh;rw [hn];refine bJ hh ?_;intro b3 w3 hh;refine bK hh 0 [_,_] ?_;intro ws hh;replace hh : Hp _ (.blk _ _ [_, _] _ :: _) _ := hh;refine aa (ah (ao (sr (bF ?_))));refine bE hh 0 ?_;refine Cr ?_;refine da ?_;exact ⟨by rw [TQ h1], hh.below⟩
 ·have hn : iN (iv s m) = false := SQ h1;by_cases h0 : iM (iv s m) = ByteArray.mk #[]
  ·refine Gh ?_;refine sr ?_;refine cq hh [_,_] ?_;intro b1 w1 hh;refine aI (aa (sr ?_));refine cu hh 0 [_,_] ?_;refine br hh (mf s m _) rfl ?_;intro w5 hh;rw [hn];refine bJ hh ?_;intro b3 w3 hh;refine bK hh 0 [_,_] ?_;intro ws hh;replace hh : Hp _ (.blk _ _ [_, _] _ :: _) _ := hh;refine aa (ah (ao (sr (bF ?_))));refine bE hh 0 ?_;refine aB (aa (cF (sr (bF ?_))));refine bE hh 0 ?_;refine j1 rfl rfl (by first | rfl | assumption | decide) Se ?_;refine Cr ?_;refine da ?_;exact ⟨by rw [rf.1 h0]; rfl, hh.below⟩
  ·have h2 : 0 < iv s m := by
    have : iv s m ≠ 0 := fun h => h0 (rf.2 h);omega
   refine Gh ?_;refine sr ?_;refine cq hh [_,_] ?_;intro b1 w1 hh;refine aI (aa (sr ?_));refine cu hh 0 [_,_] ?_;refine br hh (mf s m _) rfl ?_;intro w5 hh;rw [hn];refine bJ hh ?_;intro b3 w3 hh;refine bK hh 0 [_,_] ?_;intro ws hh;replace hh : Hp _ (.blk _ _ [_, _] _ :: _) _ := hh;refine aa (ah (ao (sr (bF ?_))));refine bE hh 0 ?_;refine aB (aa (cF (sr (bF ?_))));refine bE hh 0 ?_;refine j5 rfl rfl (by first | assumption | decide) Se ?_;refine aB (aa (cF (aq (bg (ai (sr (aI (aa (au ?_)))))))));refine da ?_;exact ⟨by rw [TU h2], hh.below⟩
theorem dN (z : Int) : (iM z).size = (bu z.natAbs + 7) / 8 := lj _
def vA (s t : Bool) (a b : ByteArray) : Bool := if s = t then s else if bN a < bN b then t else s
theorem Jr (s t : Bool) (a b : ByteArray) : iv (vA s t a b) (iM (iv s a + iv t b)) = iv s a + iv t b := by
 unfold iM iv;rw [eS];unfold vA
 cases s <;> cases t <;> simp <;> (try split) <;> (try simp) <;> omega
theorem y3 (s t : Bool) (a b : ByteArray) : iv (s != t) (iM (iv s a * iv t b)) = iv s a * iv t b := by
 rw [iM, Ud, jL, jL];unfold iv;rw [eS]
 cases s <;> cases t <;> simp [Int.mul_neg, Int.neg_mul]
theorem z3 (s t : Bool) (a b : ByteArray) (w : World) (ha : a.size ≤ 1000000000) (hb : b.size ≤ 1000000000) :
  Calls Tryz.prog 198 #[.agg #[.string a, .bool s], .agg #[.string b, .bool t]] w fun e w' => e = .returned (.agg #[.string (iM (iv s a + iv t b)), .bool (vA s t a b)]) ∧ Below w.heap.size w w' := by
 have hh := Hp.start w;have hiv : ∀ (u : Bool) (n : Nat) (z : Int), (z = if u then -(n : Int) else n) → sN n = iM z := by
  intro u n z hz;have h1 : z.natAbs = n := by rw [hz]; split <;> omega
  rw [iM, h1]
 by_cases hst : s = t
 ·subst hst;have e1 := hiv s (bN a + bN b) (iv s a + iv s b) (by unfold iv; split <;> omega);refine aj (N := 41) (l := [.agg #[.string a, .bool s], .agg #[.string b, .bool s]]) Tryz.func198 rfl rfl (by simp) ?_;refine sr ?_;refine cq hh [_,_] ?_;intro b2 w2 hh;refine cq hh [_,_] ?_;intro b3 w3 hh;refine bJ hh ?_;intro b4 w4 hh;refine aa (ah (sr (bF ?_)));refine bE hh 2 ?_;refine bF ?_;refine bE hh 1 ?_;refine Dl bq.out rfl rfl (by first | rfl | assumption) Se ?_;refine aa (cT (ah ?_));refine aU 8 [[(2, none)], [(12, some 0)], [(3, none)], [(14, some 2)], [(13, some 1), (15, some 3)], [(16, some 4)], [(2, none)], [(18, some 6)]] [(7, 19), (6, 18), (5, 17), (4, 16), (3, 15), (2, 14), (1, 13), (0, 12)] hh mixed Sf ?_;refine ek ?_;refine gH 2 ?_;refine ek ?_;refine gH 1 ?_;refine z7 [_,_] ?_;refine a8 (i := 5) (Is (.string (sN (bN a + bN b)))) Is.ext ?_ ?_
  ·intro ρ1 w1 hj hR;obtain ⟨A16, c16, h16, s16⟩ := hR.1;exact bA rfl (aZ ak.out (aA h16 a7)) (wy A16 2 c16 [a, b] _ s16 Sd (by simp; omega)) (fun _ _ hq => ⟨_, hq.1, hq.2, rfl⟩)
  refine ek ?_;refine gH 2 ?_;refine aR ?_;intro f W hJ hV;have hb_2 := hJ.bl;obtain ⟨v19, v18, v17, v16, v15, v14, v13, v12, _⟩ := hV;obtain ⟨A16, c16, e16, f16⟩ : Rows _ _ _ (f 4) W := v16;replace hh := hJ.hp;refine aX (bp (ae v19 (ae v18 (ae v17 (ae e16 (ae v15 (ae v14 (ae v13 (ae v12 aW))))))))) ?_;dsimp only [ck];clear e16 hJ;refine gg [_,_] ?_;refine bK hh 0 [_,_] ?_;intro ws hh;replace hh : Hp _ (.blk _ _ [_, _] _ :: _) _ := hh;refine aa (au (aG ?_));refine o7 ?_;rw [e1, vA, Sj rfl];exact ⟨rfl, hh.below⟩
 ·by_cases hlt : bN a < bN b
  ·have e1 := hiv t (bN b - bN a) (iv s a + iv t b) (by unfold iv; cases s <;> cases t <;> simp at hst ⊢ <;> omega);refine aj (N := 41) (l := [.agg #[.string a, .bool s], .agg #[.string b, .bool t]]) Tryz.func198 rfl rfl (by simp) ?_;refine sr ?_;refine cq hh [_,_] ?_;intro b2 w2 hh;refine cq hh [_,_] ?_;intro b3 w3 hh;refine bJ hh ?_;intro b4 w4 hh;refine aa (ah (sr (bF ?_)));refine bE hh 2 ?_;refine bF ?_;refine bE hh 1 ?_;refine BQ ?_;refine C1 ?_;refine bE hh 2 ?_;refine bF ?_;refine bE hh 1 ?_;refine br hh (sk a b _ ha hb) rfl ?_;intro w25 hh;rw [k8 hlt];refine a6 (aa (cT (al ?_)));refine cu hh 1 [_,_] ?_;refine cu hh 2 [_,_] ?_;refine bK hh 2 [_,_] ?_;intro ws hh;replace hh : Hp _ (_ :: _ :: .blk _ _ [_, _] _ :: _) _ := hh;refine bK hh 1 [_,_] ?_;intro ws hh;replace hh : Hp _ (_ :: .blk _ _ [_, _] _ :: _) _ := hh;refine aa (sr (bF ?_));refine bE hh 2 ?_;refine bF ?_;refine bE hh 1 ?_;refine br hh (pB b a _ hb ha) rfl ?_;intro w34 hh;refine mT ?_;refine cE ?_;refine cE ?_;refine aS (aB (aa (sr (mS (bF ?_)))));refine bE hh 2 ?_;refine gg [_,_] ?_;refine bK hh 0 [_,_] ?_;intro ws hh;replace hh : Hp _ (.blk _ _ [_, _] _ :: _) _ := hh;refine aa (au ?_);refine o7 ?_
   rw [e1, vA, Si hst, Sj hlt];exact ⟨rfl, hh.below⟩
  ·have e1 := hiv s (bN a - bN b) (iv s a + iv t b) (by unfold iv; cases s <;> cases t <;> simp at hst ⊢ <;> omega);have hc : ¬ kF (bN a) (bN b) < 0 := by unfold kF; split <;> (try split) <;> omega
   refine aj (N := 41) (l := [.agg #[.string a, .bool s], .agg #[.string b, .bool t]]) Tryz.func198 rfl rfl (by simp) ?_;refine sr ?_;refine cq hh [_,_] ?_;intro b2 w2 hh;refine cq hh [_,_] ?_;intro b3 w3 hh;refine bJ hh ?_;intro b4 w4 hh;refine aa (ah (sr (bF ?_)));refine bE hh 2 ?_;refine bF ?_;refine bE hh 1 ?_;refine BQ ?_;refine C1 ?_;refine bE hh 2 ?_;refine bF ?_;refine bE hh 1 ?_;refine br hh (sk a b _ ha hb) rfl ?_;intro w25 hh;refine a6 (aa (cF (aq (ai (sr (bF ?_))))));refine bE hh 2 ?_;refine bF ?_;refine bE hh 1 ?_;refine br hh (pB a b _ ha hb) rfl ?_;intro w34 hh;refine mT ?_;refine cE ?_;refine cE ?_;refine aS (aB (aa (sr (mS (bF ?_)))));refine bE hh 2 ?_;refine gg [_,_] ?_;refine bK hh 0 [_,_] ?_;intro ws hh;replace hh : Hp _ (.blk _ _ [_, _] _ :: _) _ := hh;refine aa (au ?_);refine o7 ?_;rw [e1, vA, Si hst, Si hlt];exact ⟨rfl, hh.below⟩
theorem n8 (s t : Bool) (a b : ByteArray) (w : World) (ha : a.size ≤ 1000000000) (hb : b.size ≤ 1000000000) :
  Calls Tryz.prog 201 #[.agg #[.string a, .bool s], .agg #[.string b, .bool t]] w fun e w' => e = .returned (.agg #[.string (iM (iv s a * iv t b)), .bool (s != t)]) ∧ Below w.heap.size w w' := by
 have hh := Hp.start w;have e0 : (iv s a * iv t b).natAbs = bN a * bN b := by rw [Ud, jL, jL]
 have e1 : iM (iv s a * iv t b) = sN (bN a * bN b) := by rw [iM, e0]
 refine aj (N := 16) (l := [.agg #[.string a, .bool s], .agg #[.string b, .bool t]]) Tryz.func201 rfl rfl (by simp) ?_;refine sr ?_;refine cq hh [_,_] ?_;intro b2 w2 hh;refine cq hh [_,_] ?_;intro b3 w3 hh;refine bJ hh ?_;intro b4 w4 hh;refine aa (ah ?_);refine aU 10 [[(2, none)], [(5, some 0)], [(3, none)], [(7, some 2)], [(6, some 1), (8, some 3)], [(2, none)], [(10, some 5)], [(3, none)], [(12, some 7)], [(11, some 6), (13, some 8)]] [(9, 14), (8, 13), (7, 12), (6, 11), (5, 10), (4, 9), (3, 8), (2, 7), (1, 6), (0, 5)] hh mixed Sf ?_;refine ek ?_;refine gH 2 ?_;refine ek ?_;refine gH 1 ?_;refine dC (fun _ hj => wG a b _ ha hb) ?_;refine ek ?_;refine gH 2 ?_;refine ek ?_;refine gH 1 ?_;refine bB (i := 9) (fun ρ1 w1 hj hR => nE bq.out (show ρ1 11 = Value.bool _ from hR.1) (show ρ1 13 = Value.bool _ from hR.2.1)) ?_;refine aR ?_;intro f W hJ hV;have hb_1 := hJ.bl;obtain ⟨v14, v13, v12, v11, v10, v9, v8, v7, v6, v5, _⟩ := hV;replace hh := hJ.hp;refine LV ?_;dsimp only [ck];clear hJ;refine gg [_,_] ?_;refine bK hh 0 [_,_] ?_;intro ws hh;replace hh : Hp _ (.blk _ _ [_, _] _ :: _) _ := hh;refine aa (au ?_);refine o7 ?_;rw [e1];exact ⟨rfl, hh.below⟩
theorem m0 (n : Int) (w : World) (h1 : -9223372036854775808 ≤ n) (h2 : n ≤ 9223372036854775807) :
  Calls Tryz.prog 140 #[.int .i64 n] w fun e w' => e = .returned (.agg #[.bool (iN n), .string (iM n)]) ∧ Below w.heap.size w w' := by
 have hh := Hp.start w;by_cases h0 : n < 0
 ·have e1 : iv true (sN n.natAbs) = n := by unfold iv; rw [eS, Sj rfl]; omega
  have hw : IntKind.u64.wrap n = ((18446744073709551616 - n.natAbs : Nat) : Int) := by
   rw [show n = ((18446744073709551616 - n.natAbs : Nat) : Int) + -((18446744073709551616 : Nat) : Int) by omega];have := UK.wrap_add (k := .u64) (((18446744073709551616 - n.natAbs : Nat) : Int) + -((18446744073709551616 : Nat) : Int));rw [← this, Int.neg_add_cancel_right, UK.oe Sd];omega
  have hn : (18446744073709551616 - (18446744073709551616 - n.natAbs)) % 18446744073709551616 = n.natAbs := Sd;refine aj (N := 16) (l := [.int .i64 n]) Tryz.func140 rfl rfl (by simp) ?_;refine sr ?_;refine bJ hh ?_;intro b2 w2 hh;refine aa (ah (sr (mI ?_)));refine a6 (aa (cT (sr (mI ?_))));refine sf bq.out bq.out rfl Se ?_;rw [hw];refine Hy rfl Sd Se ?_;rw [hn];skip;refine br hh (qK n.natAbs _ Sd) rfl ?_;intro w8 hh;refine gg [_,_] ?_;refine br hh (dh true (sN n.natAbs) _) rfl ?_;intro w10 hh;rw [e1];exact BS
 ·obtain ⟨m, rfl⟩ := Vi (by omega : 0 ≤ n);have e1 : iv false (sN m) = m := by unfold iv; rw [eS]; simp
  have hm : m < 18446744073709551616 := Sd;refine aj (N := 16) (l := [.int .i64 (m : Int)]) Tryz.func140 rfl rfl (by simp) ?_;refine sr ?_;refine bJ hh ?_;intro b2 w2 hh;refine aa (ah (sr (mI ?_)));refine a6 (aa (cF (aq (ai (sr (mI ?_))))));refine lR ?_;refine br hh (qK m _ hm) rfl ?_;intro w13 hh;refine gg [_,_] ?_;refine br hh (dh false (sN m) _) rfl ?_;intro w15 hh;rw [e1];exact K7
structure IR where
 neg : Bool
 bf : ByteArray
def IR.cells (a : IR) : List Value := [.bool a.neg, .string a.bf]
def IR.v (a : IR) : Int := iv a.neg a.bf
def iR (z : Int) : IR := ⟨iN z, iM z⟩
theorem Om (z : Int) : (iR z).v = z := eR z
theorem IR.len (a : IR) : a.cells.length = 2 := rfl
theorem oN (x y : Int) : bu (x + y).natAbs ≤ max (bu x.natAbs) (bu y.natAbs) + 1 := by
 apply dt;have h1 := cW x.natAbs;have h2 := cW y.natAbs;have h3 : 2 ^ bu x.natAbs ≤ 2 ^ max (bu x.natAbs) (bu y.natAbs) := S4 Sd (Nat.le_max_left _ _);have h4 : 2 ^ bu y.natAbs ≤ 2 ^ max (bu x.natAbs) (bu y.natAbs) := S4 Sd (Nat.le_max_right _ _);rw [Ta];omega
theorem j0 (s : Bool) (m : ByteArray) : bu (iv s m).natAbs ≤ 8 * m.size := by rw [jL]; exact gC m
theorem Ew (l : List Int) (x : Int) : (l ++ [x]).sum = l.sum + x := by simp
theorem rI (L : Option Addr) (n c : Nat) (l : List IR) (w : World) (hS : Sl w L n 2 (aw IR.cells l)) (hn : n ≤ 1000000) (hs : ∀ s ∈ l, s.bf.size ≤ 100000000) :
  Calls Tryz.prog 138 #[.slice L n c] w fun e w' => e = .returned (.agg #[.bool (iN (l.map IR.v).sum), .string (iM (l.map IR.v).sum)]) ∧ Below w.heap.size w w' := by
 have hl := hS.bz IR.len Sd;have hh := Hp.start w;refine aj (N := 19) (l := [.slice L n c]) Tryz.func138 rfl rfl (by simp) ?_;refine sr ?_;refine bJ hh ?_;intro b2 w2 hh;refine aa (sr ?_);refine bJ hh ?_;intro b3 w3 hh;refine u6 ?_;refine aN [5, 8, 9, 10, 11, 12, 13, 14, 15, 16] 8
  (fun j w' => ∃ (i : Nat) (u : Bool) (S : Int), i ≤ n ∧ j = .int .i64 i ∧ S = ((l.take i).map IR.v).sum ∧ iv u (iM S) = S ∧ bu S.natAbs ≤ 800000000 + i ∧ Hp w [.blk b3 199 [.string (iM S), .bool u] (0, 0), .blk b2 63 [.bool false, .string (ByteArray.mk #[])] (0, 0)] w')
  (fun j _ => n - (intOf j).toNat) ?_ ?_
 ·exact ⟨0, false, 0, Sn _, rfl, rfl, by rw [iM]; exact Tm _ (eS 0), by simp [ku], by rw [iM, Int.natAbs_zero, mN]; exact hh⟩
 ·clear hh;rintro ρ' j w' ⟨i, u, S, hi, rfl, hS2, hu, hb, hh⟩;by_cases hlt : i < n
  ·obtain ⟨x, hx⟩ := av (l := l) (k := i) Sd;obtain ⟨ad, rfl, hr⟩ := hS.at_ Sd;have hxs := hs x (Sp hx);have hS3 : ((l.take (i + 1)).map IR.v).sum = S + x.v := by rw [ay hx, Tt, UO, Ew, hS2]
   have hms : (iM S).size ≤ 1000000000 := by rw [dN]; omega
   have hbx := j0 x.neg x.bf;have hba := oN S x.v;have hpl := Jr u x.neg (iM S) x.bf;rw [hu] at hpl;have hwc := fun w1 => z3 u x.neg (iM S) x.bf w1 hms Sd;rw [hu] at hwc;refine sr ?_;refine dq ?_;refine bX ?_;refine ct (vs := [_, _]) aP.out rfl (((hr.ext hh.below).recAt IR.len hx)) rfl Se ?_;refine bJ hh ?_;intro b5 w5 hh;refine bK hh 0 [_,_] ?_;intro ws hh;replace hh : Hp _ (.blk _ _ [_, _] _ :: _) _ := hh;refine aa ?_;refine aU 3 [[(3, none)], [(5, none)], [(13, some 1)]] [(2, 14), (1, 13), (0, 12)] hh mixed Sf ?_;refine eX 1 [_,_] ?_;refine eX 0 [_,_] ?_;refine dC (fun _ hj => jI x.neg x.bf _) ?_;refine aR ?_;intro f W hJ hV;have hb_5 := hJ.bl;obtain ⟨v14, v13, v12, _⟩ := hV;replace hh := hJ.hp;refine aX (bp (ae v14 (ae v13 (ae v12 aW)))) ?_;dsimp only [ck];clear hJ;refine br hh (hwc _) rfl ?_;intro w15 hh;exact L4
  ·refine sr ?_;refine mq ?_;refine cu hh 0 [_,_] ?_;refine br hh (dh u (iM S) _) rfl ?_;intro w18 hh;exact N5
theorem qW (s : Bool) (b : ByteArray) : (iM (-(iv s b))).size ≤ b.size := by
 have := j0 s b;rw [dN, Int.natAbs_neg]; omega
theorem sS (s t : Bool) (a b : ByteArray) (w : World) (ha : a.size ≤ 100000000) (hb : b.size ≤ 100000000) :
  Calls Tryz.prog 229 #[.agg #[.bool s, .string a], .agg #[.bool t, .string b]] w fun e w' => e = .returned (.agg #[.bool (iN (iv s a - iv t b)), .string (iM (iv s a - iv t b))]) ∧ Below w.heap.size w w' := by
 have hh := Hp.start w;have h1 := qW t b;have e1 : ([IR.mk s a, iR (-(iv t b))].map IR.v).sum = iv s a - iv t b := by
  simp only [SW, Tx, List.sum_cons, List.sum_nil, Om];simp only [IR.v]; omega
 refine aj (N := 10) (l := [.agg #[.bool s, .string a], .agg #[.bool t, .string b]]) Tryz.func229 rfl rfl (by simp) ?_;refine sr ?_;refine cq hh [_,_] ?_;intro b2 w2 hh;refine cq hh [_,_] ?_;intro b3 w3 hh;refine bJ hh ?_;intro b4 w4 hh;refine aa (ah ?_);refine aU 3 [[(2, none)], [(3, none)], [(6, some 1)]] [(2, 7), (1, 6), (0, 5)] hh mixed Sf ?_;refine eX 2 [_,_] ?_;refine eX 1 [_,_] ?_;refine dC (fun _ hj => sA t b _) ?_;refine aR ?_;intro f W hJ hV;have hb_1 := hJ.bl;obtain ⟨v7, v6, v5, _⟩ := hV;replace hh := hJ.hp;refine aX (bp (ae v7 (ae v6 (ae v5 aW)))) ?_;dsimp only [ck];clear hJ;refine Ix ?_;intro b8 w8 hh;refine br hh (rI _ 2 _ [IR.mk s a, iR (-(iv t b))] _ (hh.aD (i := 0) rfl) Sd (by simp [iR]; omega)) rfl ?_;intro w9 hh;rw [e1];exact H4
theorem AW (s t : Bool) (a b : ByteArray) (w : World) (ha : a.size ≤ 100000000) (hb : b.size ≤ 100000000) :
  Calls Tryz.prog 219 #[.agg #[.bool s, .string a], .agg #[.bool t, .string b]] w fun e w' => e = .returned (.int .i64 (iv s a - iv t b).sign) ∧ Below w.heap.size w w' := by
 have hh := Hp.start w;refine aj (N := 9) (l := [.agg #[.bool s, .string a], .agg #[.bool t, .string b]]) Tryz.func219 rfl rfl (by simp) ?_;refine sr ?_;refine cq hh [_,_] ?_;intro b2 w2 hh;refine cq hh [_,_] ?_;intro b3 w3 hh;refine aI (aa (sr ?_));refine cu hh 1 [_,_] ?_;refine cu hh 0 [_,_] ?_;refine br hh (sS s t a b _ ha hb) rfl ?_;intro w7 hh;refine br hh (kd _ _ _) rfl ?_;intro w8 hh;rw [eR];exact zh
theorem GF (a b : Nat) : bu (a * b) ≤ bu a + bu b := by
 apply dt;rw [SL];exact Nat.mul_lt_mul'' (cW a) (cW b)
theorem k6 (a b : Int) : bu (a * b).natAbs ≤ bu a.natAbs + bu b.natAbs := by rw [Ud]; exact GF _ _
def l6 : List Int → Int
 | [] => 1
 | x :: l => x * l6 l
theorem AX (l : List Int) (x : Int) : l6 (l ++ [x]) = l6 l * x := by
 induction l with
 | nil => simp [l6]
 | cons y l ih => simp only [Sv, l6, ih, Int.mul_assoc]
theorem xF (l : List Nat) (i : Nat) : (l.take i).sum ≤ l.sum := by
 rw [← List.sum_append_nat.symm.trans (Tm List.sum (To i l))]; omega
theorem tN : bu 1 = 1 := by decide +kernel
theorem AA (L : Option Addr) (n c : Nat) (l : List IR) (w : World) (hS : Sl w L n 2 (aw IR.cells l)) (hn : n ≤ 1000000) (hs : (l.map fun a => a.bf.size).sum ≤ 100000000) :
  Calls Tryz.prog 139 #[.slice L n c] w fun e w' => e = .returned (.agg #[.bool (iN (l6 (l.map IR.v))), .string (iM (l6 (l.map IR.v)))]) ∧ Below w.heap.size w w' := by
 have hl := hS.bz IR.len Sd;have hh := Hp.start w;have hsum := xF (l.map fun a => a.bf.size);refine aj (N := 21) (l := [.slice L n c]) Tryz.func139 rfl rfl (by simp) ?_;refine sr ?_;refine bJ hh ?_;intro b2 w2 hh;refine aa (sr ?_);refine br hh (m0 1 _ Sd Sd) rfl ?_;intro w6 hh;refine br hh (jI _ _ _) rfl ?_;intro w7 hh;refine bJ hh ?_;intro b3 w3 hh;refine bK hh 0 [_,_] ?_;intro ws hh;replace hh : Hp _ (.blk _ _ [_, _] _ :: _) _ := hh;refine u6 ?_;refine aN [5, 10, 11, 12, 13, 14, 15, 16, 17, 18] 10
  (fun j w' => ∃ (i : Nat) (u : Bool) (S : Int), i ≤ n ∧ j = .int .i64 i ∧ S = l6 ((l.take i).map IR.v) ∧ iv u (iM S) = S ∧ bu S.natAbs ≤ 1 + 8 * ((l.map fun a => a.bf.size).take i).sum ∧ Hp w [.blk b3 199 [.string (iM S), .bool u] (0, 0), .blk b2 63 [.bool false, .string (ByteArray.mk #[])] (0, 0)] w')
  (fun j _ => n - (intOf j).toNat) ?_ ?_
 ·exact ⟨0, _, 1, Sn _, rfl, rfl, eR 1, by rw [Int.natAbs_one, tN]; omega, hh⟩
 ·clear hh;rintro ρ' j w' ⟨i, u, S, hi, rfl, hS2, hu, hb, hh⟩;by_cases hlt : i < n
  ·obtain ⟨x, hx⟩ := av (l := l) (k := i) Sd;obtain ⟨ad, rfl, hr⟩ := hS.at_ Sd;have hsi := hsum i;have hsi2 := hsum (i + 1);have hsz : ((l.map fun a => a.bf.size).take (i + 1)).sum = ((l.map fun a => a.bf.size).take i).sum + x.bf.size := by
    rw [ay (x := x.bf.size) (by rw [St, hx]; rfl), pS]
   have hS3 : l6 ((l.take (i + 1)).map IR.v) = S * x.v := by rw [ay hx, Tt, UO, AX, hS2]
   have hms : (iM S).size ≤ 1000000000 := by rw [dN]; omega
   have hbx := j0 x.neg x.bf;have hba := k6 S x.v;have hpl := y3 u x.neg (iM S) x.bf;rw [hu] at hpl;have hwc := fun w1 => n8 u x.neg (iM S) x.bf w1 hms Sd;rw [hu] at hwc;refine sr ?_;refine dq ?_;refine bX ?_;refine ct (vs := [_, _]) aP.out rfl (((hr.ext hh.below).recAt IR.len hx)) rfl Se ?_;refine bJ hh ?_;intro b5 w5 hh;refine bK hh 0 [_,_] ?_;intro ws hh;replace hh : Hp _ (.blk _ _ [_, _] _ :: _) _ := hh;refine aa ?_;refine aU 3 [[(3, none)], [(5, none)], [(15, some 1)]] [(2, 16), (1, 15), (0, 14)] hh mixed Sf ?_;refine eX 1 [_,_] ?_;refine eX 0 [_,_] ?_;refine dC (fun _ hj => jI x.neg x.bf _) ?_;refine aR ?_;intro f W hJ hV;have hb_5 := hJ.bl;obtain ⟨v16, v15, v14, _⟩ := hV;replace hh := hJ.hp;refine aX (bp (ae v16 (ae v15 (ae v14 aW)))) ?_;dsimp only [ck];clear hJ;refine br hh (hwc _) rfl ?_;intro w17 hh;exact L4
  ·refine sr ?_;refine mq ?_;refine cu hh 0 [_,_] ?_;refine br hh (dh u (iM S) _) rfl ?_;intro w20 hh;exact N5
theorem xC (M k : Nat) (h : 2 ^ k ∣ M) : -((M / 2 ^ k : Nat) : Int) = -(M : Int) / 2 ^ k := by
 obtain ⟨q, rfl⟩ := h;have hp : (0 : Int) < 2 ^ k := Int.pow_pos Sd;rw [Nat.mul_div_cancel_left _ (SV Sd), Tv, ← Int.mul_neg, Int.natCast_pow];exact (Int.mul_ediv_cancel_left _ (by exact Int.ne_of_gt hp)).symm
theorem wu (M k : Nat) (h : ¬ 2 ^ k ∣ M) : -((M / 2 ^ k : Nat) : Int) - 1 = -(M : Int) / 2 ^ k := by
 have hp : (0 : Int) < 2 ^ k := Int.pow_pos Sd;have h1 := TY M (2 ^ k);have h2 := SO M (SV (n := k) (show 0 < 2 by omega));have h3 : M % 2 ^ k ≠ 0 := fun h0 => h (Nat.dvd_of_mod_eq_zero h0);have hc : ((2 ^ k : Nat) : Int) = 2 ^ k := by simp
 symm
 rw [Int.ediv_eq_iff_of_pos hp, ← hc];have h4 : (M : Int) = (2 ^ k : Nat) * (M / 2 ^ k : Nat) + (M % 2 ^ k : Nat) := by rw [← Tv, ← TX, h1]
 generalize hK : ((2 ^ k : Nat) : Int) = K at *;generalize ((M / 2 ^ k : Nat) : Int) = q at *;have e : (-q - 1) * K = -(K * q) - K := by rw [Int.sub_mul, Int.neg_mul, Int.mul_comm q]; omega
 have e2 : (-q - 1 + 1) * K = -(K * q) := by rw [Int.sub_add_cancel, Int.neg_mul, Int.mul_comm]
 omega
theorem GD {M : Nat} (h0 : M ≠ 0) : 2 ^ k ∣ M ↔ k ≤ tz M := by
 obtain ⟨m, hm⟩ := rD h0;generalize tz M = t at *;constructor
 ·intro h
  rcases S6 t k with hlt | hge
  ·exfalso;obtain ⟨q, hq⟩ := h;rw [hm, show k = t + (1 + (k - t - 1)) by omega, SL, SL, Ti] at hq;have := Nat.eq_of_mul_eq_mul_left (SV Sd) hq;rw [Nat.pow_one, Ti] at this;omega
  ·exact hge
 ·intro h;rw [hm];exact Nat.dvd_trans (Nat.pow_dvd_pow 2 h) (Nat.dvd_mul_right _ _)
theorem pf (a : Int) (n : Nat) : bu (a ^ n).natAbs ≤ 1 + n * bu a.natAbs := by
 induction n with
 | zero => simp [tN]
 | succ n ih =>
  rw [Int.pow_succ];have := k6 (a ^ n) a;rw [Tl]; omega
theorem Bx (s : Bool) (a : ByteArray) (n : Int) (w : World) (h0 : n.toNat * a.size ≤ 100000000) (hn : n ≤ 1000000000) (ha : a.size ≤ 100000000) :
  Calls Tryz.prog 141 #[.agg #[.bool s, .string a], .int .i64 n] w fun e w' => e = .returned (.agg #[.bool (iN (iv s a ^ n.toNat)), .string (iM (iv s a ^ n.toNat))]) ∧ Below w.heap.size w w' := by
 have hh := Hp.start w;have e1 : (if (0 : Int) > n then 0 else n) = (n.toNat : Int) := by split <;> omega
 have hm : n.toNat ≤ 1000000000 := Sd;generalize n.toNat = m at *;refine aj (N := 19) (l := [.agg #[.bool s, .string a], .int .i64 n]) Tryz.func141 rfl rfl (by simp) ?_;refine sr ?_;refine cq hh [_,_] ?_;intro b2 w2 hh;refine bJ hh ?_;intro b4 w4 hh;refine aa (sr ?_);refine br hh (m0 1 _ Sd Sd) rfl ?_;intro w6 hh;refine br hh (jI _ _ _) rfl ?_;intro w7 hh;refine bJ hh ?_;intro b5 w5 hh;refine bK hh 0 [_,_] ?_;intro ws hh;replace hh : Hp _ (.blk _ _ [_, _] _ :: _) _ := hh;refine aa (ah (sr (mI ?_)));refine kI rfl rfl Se ?_;refine mI (aa (ao ?_));rw [e1];refine aN [10, 11, 12, 13, 14, 15, 16] 10
  (fun j w' => ∃ (i : Nat) (u : Bool) (S : Int), i ≤ m ∧ j = .int .i64 i ∧ S = iv s a ^ i ∧ iv u (iM S) = S ∧ Hp w [.blk b5 199 [.string (iM S), .bool u] (0, 0), .blk b4 63 [.bool false, .string (ByteArray.mk #[])] (0, 0), .blk b2 63 [.bool s, .string a] (0, 0)] w')
  (fun j _ => m - (intOf j).toNat) ?_ ?_
 ·exact ⟨0, _, 1, Sn _, rfl, by rw [Int.pow_zero], eR 1, hh⟩
 ·clear hh;rintro ρ' j w' ⟨i, u, S, hi, rfl, hS2, hu, hh⟩;by_cases hlt : i < m
  ·have hb := pf (iv s a) i;rw [← hS2] at hb;have hbx := j0 s a;have hle : i * bu (iv s a).natAbs ≤ m * (8 * a.size) := Tw hi hbx;rw [Vn] at hle;have hms : (iM S).size ≤ 1000000000 := by rw [dN]; omega
   have hpl := y3 u s (iM S) a;rw [hu] at hpl;have hwc := fun w1 => n8 u s (iM S) a w1 hms Sd;rw [hu] at hwc;refine sr ?_;refine a6 (aa (ah (cT (aq (ai (ah (ao ?_)))))));refine aU 3 [[(5, none)], [(2, none)], [(13, some 1)]] [(2, 14), (1, 13), (0, 12)] hh mixed Sf ?_;refine eX 0 [_,_] ?_;refine eX 2 [_,_] ?_;refine dC (fun _ hj => jI s a _) ?_;refine aR ?_;intro f W hJ hV;have hb_4 := hJ.bl;obtain ⟨v14, v13, v12, _⟩ := hV;replace hh := hJ.hp;refine aX (bp (ae v14 (ae v13 (ae v12 aW)))) ?_;dsimp only [ck];clear hJ;refine br hh (hwc _) rfl ?_;intro w15 hh;refine bK hh 0 [_,_] ?_;intro ws hh;replace hh : Hp _ (.blk _ _ [_, _] _ :: _) _ := hh;refine fG ?_;refine a9 (mI (az (ai ?_)));refine ⟨⟨i + 1, _, _, Sd, rfl, by rw [Int.pow_succ, hS2], hpl, hh⟩, by show m - (i + 1) < m - i; omega, ?_⟩;exact eB
  ·obtain rfl : i = m := Sd;refine sr ?_;refine mq ?_;refine cu hh 0 [_,_] ?_;refine br hh (dh u (iM S) _) rfl ?_;intro w18 hh;rw [hu, hS2];exact H4
theorem MA (s : Bool) (a : ByteArray) (m : Nat) : iv s (sN (bN a * 2 ^ m)) = iv s a * 2 ^ m := by
 unfold iv;rw [eS]
 cases s <;> simp [Tv, Int.neg_mul]
theorem Al (s : Bool) (a : ByteArray) (m : Nat) (w : World) (ha : a.size ≤ 100000000) (hm : m ≤ 1000000000) :
  Calls Tryz.prog 197 #[.agg #[.bool s, .string a], .int .i64 (m : Int)] w fun e w' => e = .returned (.agg #[.bool (iN (iv s a * 2 ^ m)), .string (iM (iv s a * 2 ^ m))]) ∧ Below w.heap.size w w' := by
 have hh := Hp.start w;refine aj (N := 47) (l := [.agg #[.bool s, .string a], .int .i64 (m : Int)]) Tryz.func197 rfl rfl (by simp) ?_;refine sr ?_;refine cq hh [_,_] ?_;intro b2 w2 hh;refine bJ hh ?_;intro b4 w4 hh;refine aa (ah (sr (mI ?_)));refine ee (aa (cT (ah ?_)));refine aU 6 [[(2, none)], [(8, some 0)], [(1, none)], [(9, some 1), (10, some 2)], [(2, none)], [(12, some 4)]] [(5, 13), (4, 12), (3, 11), (2, 10), (1, 9), (0, 8)] hh mixed Sf ?_;refine ek ?_;refine gH 1 ?_;refine eH ?_;refine dC (fun _ hj => vO a m _ Sd Sd) ?_;refine ek ?_;refine gH 1 ?_;refine aR ?_;intro f W hJ hV;have hb_2 := hJ.bl;obtain ⟨v13, v12, v11, v10, v9, v8, _⟩ := hV;replace hh := hJ.hp;refine aX (bp (ae v13 (ae v12 (ae v11 (ae v10 (ae v9 (ae v8 aW))))))) ?_;dsimp only [ck];clear hJ;refine gg [_,_] ?_;refine br hh (dh s (sN (bN a * 2 ^ m)) _) rfl ?_;intro w15 hh;rw [MA];exact BS
theorem At (s : Bool) (a : ByteArray) (m : Nat) (w : World) (hT : dD w) (ha : a.size ≤ 100000000) (h0 : 0 < m) (hm : m ≤ 1000000000000) :
  Calls Tryz.prog 197 #[.agg #[.bool s, .string a], .int .i64 (-(m : Int))] w fun e w' => e = .returned (.agg #[.bool (iN (iv s a / 2 ^ m)), .string (iM (iv s a / 2 ^ m))]) ∧ Below w.heap.size w w' := by
 have hh := Hp.start w;have e1 : (if (-1099511627776 : Int) > -(m : Int) then -1099511627776 else -(m : Int)) = -(m : Int) := Si Sd;have e2 : -(-(m : Int)) = (m : Int) := Sd;have hcs : ∀ w1, Calls Tryz.prog 227 #[.string a, .int .i64 (-(-(m : Int)))] w1 fun e w' => e = .returned (.string (sN (bN a / 2 ^ m))) ∧ Below w1.heap.size w1 w' := fun w1 => by
  rw [e2]; exact wC a m w1 Sd Sd
 cases s with
 | false =>
  have e3 : iv false (sN (bN a / 2 ^ m)) = iv false a / 2 ^ m := by
   unfold iv;rw [eS];simp
  refine aj (N := 47) (l := [.agg #[.bool false, .string a], .int .i64 (-(m : Int))]) Tryz.func197 rfl rfl (by simp) ?_;refine sr ?_;refine cq hh [_,_] ?_;intro b2 w2 hh;refine bJ hh ?_;intro b4 w4 hh;refine aa (ah (sr (mI ?_)));refine ee (aa (cF (aq (ai (sr (mI ?_))))));refine kI rfl rfl Se ?_;refine aI (aa (ah ?_));rw [e1];refine B5 ?_;refine ek ?_;refine gH 1 ?_;refine eH ?_;refine Cp ?_;refine dC (fun _ hj => hcs _) ?_;refine ek ?_;refine gH 1 ?_;refine dB [_,_] ?_;refine dC (fun _ hj => dh false (sN (bN a / 2 ^ m)) _) ?_;refine Dc ?_;refine aR ?_;intro f W hJ hV;have hb_4 := hJ.bl;obtain ⟨v5, v26, v25, v24, v23, v22, v21, v20, v19, v18, _⟩ := hV;obtain ⟨b5, e5, hl5, hc5⟩ : di _ _ _ (f 9) W := v5;replace hh := hJ.newVar hh hl5 hc5;refine CC ?_;dsimp only [ck];clear e5 hJ;rw [e3];refine bK hh 0 [_,_] ?_;intro ws hh;replace hh : Hp _ (.blk _ _ [_, _] _ :: _) _ := hh;refine aa (ah (sr (bF ?_)));refine bE hh 2 ?_;refine mB ?_;refine gS (gS ?_);refine kP ?_;refine gS ?_;refine fa ?_;exact LZ
 | true =>
  have hb := gC a;have e4 : iv true (sN (bN a / 2 ^ m)) = -((bN a / 2 ^ m : Nat) : Int) := by
   unfold iv;rw [eS, Sj rfl]
  have e5 : iv true a = -(bN a : Int) := by unfold iv; rw [Sj rfl]
  by_cases hz : bN a = 0
  ·have e3 : iv true (sN (bN a / 2 ^ m)) = iv true a / 2 ^ m := by
    rw [e4, e5, hz]; simp
   refine Hx ?_;refine sr ?_;refine cq hh [_,_] ?_;intro b2 w2 hh;refine bJ hh ?_;intro b4 w4 hh;refine aa (ah (sr (mI ?_)));refine ee (aa (cF (aq (ai (sr (mI ?_))))));refine kI rfl rfl Se ?_;refine aI (aa (ah ?_));rw [e1];refine B5 ?_;refine ek ?_;refine gH 1 ?_;refine eH ?_;refine Cp ?_;refine dC (fun _ hj => hcs _) ?_;refine ek ?_;refine gH 1 ?_;refine dB [_,_] ?_;refine dC (fun _ hj => dh true (sN (bN a / 2 ^ m)) _) ?_;refine Dc ?_;refine aR ?_;intro f W hJ hV;have hb_4 := hJ.bl;obtain ⟨v5, v26, v25, v24, v23, v22, v21, v20, v19, v18, _⟩ := hV;obtain ⟨b5, e5, hl5, hc5⟩ : di _ _ _ (f 9) W := v5;replace hh := hJ.newVar hh hl5 hc5;refine CC ?_;dsimp only [ck];clear e5 hJ;rw [e3];refine bK hh 0 [_,_] ?_;intro ws hh;replace hh : Hp _ (.blk _ _ [_, _] _ :: _) _ := hh;refine aa (ah (sr (bF ?_)));refine bE hh 2 ?_;refine mB (gT (bF (gT ?_)));refine bE hh 2 ?_;refine aH rfl rfl ?_;refine br hh (k9 a _ Sd) rfl ?_;intro w32 hh;rw [hz, ku];refine gT ?_;refine cg ?_;refine fV ?_;exact LZ
  ·have hbp := od hz;by_cases hd : 2 ^ m ∣ bN a
   ·have e3 : iv true (sN (bN a / 2 ^ m)) = iv true a / 2 ^ m := by
     rw [e4, e5]; exact xC _ _ hd
    have htz := (GD hz).1 hd;refine Hx ?_;refine sr ?_;refine cq hh [_,_] ?_;intro b2 w2 hh;refine bJ hh ?_;intro b4 w4 hh;refine aa (ah (sr (mI ?_)));refine ee (aa (cF (aq (ai (sr (mI ?_))))));refine kI rfl rfl Se ?_;refine aI (aa (ah ?_));rw [e1];refine B5 ?_;refine ek ?_;refine gH 1 ?_;refine eH ?_;refine Cp ?_;refine dC (fun _ hj => hcs _) ?_;refine ek ?_;refine gH 1 ?_;refine dB [_,_] ?_;refine dC (fun _ hj => dh true (sN (bN a / 2 ^ m)) _) ?_;refine Dc ?_;refine aR ?_;intro f W hJ hV;have hb_4 := hJ.bl;obtain ⟨v5, v26, v25, v24, v23, v22, v21, v20, v19, v18, _⟩ := hV;obtain ⟨b5, e5, hl5, hc5⟩ : di _ _ _ (f 9) W := v5;replace hh := hJ.newVar hh hl5 hc5;refine CC ?_;dsimp only [ck];clear e5 hJ;rw [e3];refine bK hh 0 [_,_] ?_;intro ws hh;replace hh : Hp _ (.blk _ _ [_, _] _ :: _) _ := hh;refine aa (ah (sr (bF ?_)));refine bE hh 2 ?_;refine mB (gT (bF (gT ?_)));refine bE hh 2 ?_;refine aH rfl rfl ?_;refine br hh (k9 a _ Sd) rfl ?_;intro w32 hh;refine gT ?_;refine cg ?_;refine fV ?_;refine mB (gT (bF (gT ?_)));refine bE hh 2 ?_;refine aH rfl rfl ?_;refine br hh (jM a _ Sd (hT.hp hh)) rfl ?_;intro w38 hh;refine gT (mI (gT ?_));refine vW rfl Sd Sd Se ?_;refine gT ?_;refine a6 ?_
    refine fV ?_;refine qX ?_;refine cu hh 0 [_,_] ?_;exact H4
   ·have e3 : iv true (sN (bN a / 2 ^ m)) - 1 = iv true a / 2 ^ m := by
     rw [e4, e5]; exact wu _ _ hd
    have htz : tz (bN a) < m := U6 fun h => hd ((GD hz).2 h);have hsz : (iM (iv true (sN (bN a / 2 ^ m)))).size ≤ 100000000 := by
     have := oT (bN a) m;rw [dN, jL, eS]; omega
    have hsub : ∀ w1, Calls Tryz.prog 229 #[.agg #[.bool (iN (iv true (sN (bN a / 2 ^ m)))), .string (iM (iv true (sN (bN a / 2 ^ m))))], .agg #[.bool (iN 1), .string (iM 1)]] w1 fun e w' => e = .returned (.agg #[.bool (iN (iv true a / 2 ^ m)), .string (iM (iv true a / 2 ^ m))]) ∧ Below w1.heap.size w1 w' := fun w1 => by
     have := sS (iN (iv true (sN (bN a / 2 ^ m)))) (iN 1) (iM (iv true (sN (bN a / 2 ^ m)))) (iM 1) w1 hsz (by rw [dN, Int.natAbs_one, tN]; omega);rw [eR, eR, e3] at this;exact this
    refine Hx ?_;refine sr ?_;refine cq hh [_,_] ?_;intro b2 w2 hh;refine bJ hh ?_;intro b4 w4 hh;refine aa (ah (sr (mI ?_)));refine ee (aa (cF (aq (ai (sr (mI ?_))))));refine kI rfl rfl Se ?_;refine aI (aa (ah ?_));rw [e1];refine B5 ?_;refine ek ?_;refine gH 1 ?_;refine eH ?_;refine Cp ?_;refine dC (fun _ hj => hcs _) ?_;refine ek ?_;refine gH 1 ?_;refine dB [_,_] ?_;refine dC (fun _ hj => dh true (sN (bN a / 2 ^ m)) _) ?_;refine Dc ?_;refine aR ?_;intro f W hJ hV;have hb_4 := hJ.bl;obtain ⟨v5, v26, v25, v24, v23, v22, v21, v20, v19, v18, _⟩ := hV;obtain ⟨b5, e5, hl5, hc5⟩ : di _ _ _ (f 9) W := v5;replace hh := hJ.newVar hh hl5 hc5;refine CC ?_;dsimp only [ck];clear e5 hJ;refine bK hh 0 [_,_] ?_;intro ws hh;replace hh : Hp _ (.blk _ _ [_, _] _ :: _) _ := hh;refine aa (ah (sr (bF ?_)));refine bE hh 2 ?_;refine mB (gT (bF (gT ?_)));refine bE hh 2 ?_;refine aH rfl rfl ?_;refine br hh (k9 a _ Sd) rfl ?_;intro w32 hh;refine gT ?_;refine cg ?_;refine fV ?_;refine mB (gT (bF (gT ?_)));refine bE hh 2 ?_;refine aH rfl rfl ?_;refine br hh (jM a _ Sd (hT.hp hh)) rfl ?_;intro w38 hh;refine gT (mI (gT ?_));refine vW rfl Sd Sd Se ?_;refine gT ?_;refine a6 ?_;refine fV ?_;refine aa (cT (ah ?_))
    refine aU 2 [[(5, none)], []] [(1, 44), (0, 43)] hh mixed Sf ?_;refine eX 0 [_,_] ?_;refine dC (fun _ hj => m0 1 _ Sd Sd) ?_;refine aR ?_;intro f W hJ hV;have hb_6 := hJ.bl;obtain ⟨v44, v43, _⟩ := hV;replace hh := hJ.hp;refine aX (bp (ae v44 (ae v43 aW))) ?_;dsimp only [ck];clear hJ;refine br hh (hsub _) rfl ?_;intro w45 hh;refine bK hh 1 [_,_] ?_;intro ws hh;replace hh : Hp _ (_ :: .blk _ _ [_, _] _ :: _) _ := hh;refine aa (au (aG ?_));exact K8
theorem M1 : (2 : Rat) ≠ 0 := by decide
theorem two_pos (k : Int) : (0 : Rat) < 2 ^ k := Rat.zpow_pos Se
theorem jY (i p : Int) : (Dyadic.ofIntWithPrec i p).toRat = i * 2 ^ (-p) := Dyadic.toRat_ofIntWithPrec_eq_mul_two_pow
theorem pG (i p : Int) (n : Nat) : Dyadic.ofIntWithPrec (i * 2 ^ n) (p + n) = Dyadic.ofIntWithPrec i p := by
 rw [← Int.shiftLeft_eq]; exact Dyadic.ofIntWithPrec_shiftLeft_add
theorem lK (i : Int) {p q : Int} (h : q = p + n) : Dyadic.ofIntWithPrec i p = Dyadic.ofIntWithPrec (i * 2 ^ n) q := by
 subst h; exact (pG i p n).symm
theorem wz (i j p : Int) : Dyadic.ofIntWithPrec i p + Dyadic.ofIntWithPrec j p = Dyadic.ofIntWithPrec (i + j) p := by
 rw [← Dyadic.toRat_inj, Dyadic.toRat_add, jY, jY, jY, Rat.intCast_add, Rat.add_mul]
theorem BN (i p : Int) : -Dyadic.ofIntWithPrec i p = Dyadic.ofIntWithPrec (-i) p := Dyadic.neg_ofIntWithPrec
theorem rp (i j p q : Int) : Dyadic.ofIntWithPrec i p * Dyadic.ofIntWithPrec j q = Dyadic.ofIntWithPrec (i * j) (p + q) := by
 rw [← Dyadic.toRat_inj, Dyadic.toRat_mul, jY, jY, jY, Rat.intCast_mul, Int.neg_add, Rat.zpow_add M1];grind
theorem tM (i j p : Int) : Dyadic.ofIntWithPrec i p < Dyadic.ofIntWithPrec j p ↔ i < j := by
 rw [← Dyadic.toRat_lt_toRat_iff, jY, jY];rw [← Rat.intCast_lt_intCast];constructor
 ·intro h;exact Rat.lt_of_mul_lt_mul_right h (Rat.le_of_lt (two_pos _))
 ·intro h;exact Rat.mul_lt_mul_of_pos_right h (two_pos _)
theorem kC (p : Int) : Dyadic.ofIntWithPrec 0 p = 0 := rfl
theorem Jg {i j p : Int} (h : Dyadic.ofIntWithPrec i p = Dyadic.ofIntWithPrec j p) : i = j := by
 rcases U1 i j with h1 | h1 | h1
 ·rw [← tM i j p, h] at h1;exact absurd h1 (by rw [tM]; omega)
 ·exact h1
 ·rw [← tM j i p, h] at h1;exact absurd h1 (by rw [tM]; omega)
theorem qD {i p : Int} (h : Dyadic.ofIntWithPrec i p = 0) : i = 0 := Jg (p := p) (by rw [h]; rfl)
theorem CB (n k : Int) (h : n % 2 = 1) : Dyadic.ofOdd n k h = Dyadic.ofIntWithPrec n k := Dyadic.ofOdd_eq_ofIntWithPrec
theorem wk {i p : Int} (h : i ≠ 0) : Dyadic.ofIntWithPrec i p = .ofOdd (i >>> i.trailingZeros) (p - i.trailingZeros) (Int.shiftRight_trailingZeros_mod_two h) := by
 rw [Dyadic.ofIntWithPrec, dif_neg h]
structure NR where
 neg : Bool
 bf : ByteArray
 e : Int
def NR.cells (a : NR) : List Value := [.bool a.neg, .string a.bf, .int .i64 a.e]
theorem NR.len (a : NR) : a.cells.length = 3 := rfl
theorem NR.one (a : NR) : a.cells.all Value.oneCell' = true := rfl
def NR.i (a : NR) : Int := iv a.neg a.bf
def NR.d (a : NR) : Dyadic := Dyadic.ofIntWithPrec a.i (-a.e)
def nR : Dyadic → NR
 | .zero => ⟨false, ByteArray.mk #[], 0⟩
 | .ofOdd n k _ => ⟨iN n, iM n, -k⟩
theorem mK : nR 0 = ⟨false, ByteArray.mk #[], 0⟩ := rfl
theorem cn (x : Dyadic) : (nR x).d = x := by
 cases x with
 | zero => rfl
 | ofOdd n k h =>
  simp only [nR, NR.d, NR.i, eR, Int.neg_neg];exact (CB n k h).symm
theorem M7 {x y : Dyadic} : nR x = nR y ↔ x = y := ⟨fun h => by rw [← cn x, h, cn], fun h => by rw [h]⟩
theorem NN (s : Bool) (a : ByteArray) : (iv s a).trailingZeros = tz (bN a) := by
 unfold iv;split
 ·rw [Int.trailingZeros_neg]; rfl
 ·rfl
theorem BZ (s : Bool) (a : ByteArray) : iv s a = 0 ↔ bN a = 0 := by
 have := jL s a;omega
theorem pR {s : Bool} {a : ByteArray} {e : Int} (h : iv s a ≠ 0) : nR (Dyadic.ofIntWithPrec (iv s a) (-e)) = ⟨iN (iv s a / 2 ^ tz (bN a)), iM (iv s a / 2 ^ tz (bN a)), e + tz (bN a)⟩ := by
 rw [wk h, nR, Int.shiftRight_eq_div_pow, NN];have e1 : -(-e - (tz (bN a) : Int)) = e + tz (bN a) := Sd;rw [e1, Int.natCast_pow]
 rfl
def Sz (k : Nat) (x : Dyadic) : Prop := ∃ i : Int, x = Dyadic.ofIntWithPrec i k ∧ i.natAbs < 2 ^ (2 * k)
theorem Sz.zero (k : Nat) : Sz k 0 := ⟨0, rfl, by simpa using SV Sd⟩
theorem Sz.mono {l : Nat} {x : Dyadic} (h : Sz k x) (hl : k ≤ l) : Sz l x := by
 obtain ⟨i, rfl, hi⟩ := h;refine ⟨i * 2 ^ (l - k), lK i Sd, ?_⟩;rw [Ud, UJ];have h1 : i.natAbs * 2 ^ (l - k) < 2 ^ (2 * k) * 2 ^ (l - k) := UT hi (SV Sd);rw [← SL] at h1;exact Tg h1 (S4 Sd Sd)
theorem Sz.neg {x : Dyadic} (h : Sz k x) : Sz k (-x) := by
 obtain ⟨i, rfl, hi⟩ := h;exact ⟨-i, BN _ _, by rw [Int.natAbs_neg]; exact hi⟩
theorem Sz.add {x y : Dyadic} (hx : Sz k x) (hy : Sz k y) : Sz (k + 1) (x + y) := by
 obtain ⟨i, rfl, hi⟩ := hx;obtain ⟨j, rfl, hj⟩ := hy;rw [wz];refine ⟨(i + j) * 2 ^ 1, lK _ Sd, ?_⟩;have h1 : 2 ^ (2 * (k + 1)) = 4 * 2 ^ (2 * k) := by rw [show 2 * (k + 1) = 2 * k + 2 by omega, SL]; omega
 rw [h1];omega
theorem Sz.sub {x y : Dyadic} (hx : Sz k x) (hy : Sz k y) : Sz (k + 1) (x - y) := hx.add hy.neg
theorem Sz.mul {l : Nat} {x y : Dyadic} (hx : Sz k x) (hy : Sz l y) : Sz (k + l) (x * y) := by
 obtain ⟨i, rfl, hi⟩ := hx;obtain ⟨j, rfl, hj⟩ := hy;rw [rp];refine ⟨i * j, by rw [TX], ?_⟩;rw [Ud, Te, SL];exact Nat.mul_lt_mul'' hi hj
theorem kQ {i : Int} (h : i ≠ 0) : 2 ^ i.trailingZeros ≤ i.natAbs := by
 have h1 := Int.two_pow_trailingZeros_dvd h;have h2 := Int.natAbs_dvd_natAbs.2 h1;rw [UJ] at h2;exact Nat.le_of_dvd Sd h2
theorem Sz.nr {x : Dyadic} (h : Sz k x) : (nR x).bf.size ≤ (2 * k + 7) / 8 ∧ -(k : Int) ≤ (nR x).e ∧ (nR x).e ≤ k := by
 obtain ⟨i, rfl, hi⟩ := h;by_cases h0 : i = 0
 ·subst h0;rw [kC, mK];exact ⟨Sn _, (by omega : -(k : Int) ≤ 0), (by omega : (0 : Int) ≤ k)⟩
 ·have h2 := kQ h0;rw [wk h0, nR];simp only;refine ⟨?_, Sd, ?_⟩
  ·rw [dN];have : bu (i >>> i.trailingZeros).natAbs ≤ 2 * k := by
    apply dt;refine Tk ?_ hi;rw [Int.shiftRight_eq_div_pow];exact VD _ _
   omega
  ·have h3 : 2 ^ i.trailingZeros < 2 ^ (2 * k) := Tk h2 hi;have := (Vw Sd).1 h3;omega
theorem Sz.raw {a : NR} {E : Nat} (hm : 8 * a.bf.size ≤ m) (h1 : -(E : Int) ≤ a.e) (h2 : a.e ≤ E) : Sz (m + E) a.d := by
 refine ⟨a.i * 2 ^ (a.e + m + E).toNat, lK _ Sd, ?_⟩;have h3 : a.i.natAbs < 2 ^ m := by
  rw [NR.i, jL];refine Tg (cW _) (S4 Sd ?_);have := gC a.bf;omega
 rw [Ud, UJ];have h4 := UT h3 (SV (n := (a.e + m + E).toNat) (show 0 < 2 by omega));rw [← SL] at h4;exact Tg h4 (S4 Sd Sd)
def DF (i n : Int) : Int := if 0 ≤ n then i * 2 ^ n.toNat else i / 2 ^ (-n).toNat
theorem FE (n : Int) : DF 0 n = 0 := by unfold DF; split <;> simp
def cC : Dyadic → Int → Int
 | .zero, _ => 0
 | .ofOdd n k _, p => DF n (p - k)
def cQ : Dyadic → Dyadic → Int
 | .zero, .zero => 0
 | .zero, .ofOdd _ k _ => k
 | .ofOdd _ k _, .zero => k
 | .ofOdd _ k _, .ofOdd _ l _ => max k l
theorem mO (n k p : Int) (h : n % 2 = 1) (hp : k ≤ p) : Dyadic.ofIntWithPrec (cC (.ofOdd n k h) p) p = .ofOdd n k h := by
 simp only [cC];rw [CB, DF, Sj Sd];exact (lK n Sd).symm
theorem FU (x y : Dyadic) : Dyadic.ofIntWithPrec (cC x (cQ x y)) (cQ x y) = x := by
 cases x with
 | zero => rfl
 | ofOdd n k h =>
  cases y with
  | zero => exact mO _ _ _ _ (Int.le_refl _)
  | ofOdd m l g => exact mO _ _ _ _ (Int.le_max_left _ _)
theorem Gv (x y : Dyadic) : Dyadic.ofIntWithPrec (cC y (cQ x y)) (cQ x y) = y := by
 cases y with
 | zero => rfl
 | ofOdd n k h =>
  cases x with
  | zero => exact mO _ _ _ _ (Int.le_refl _)
  | ofOdd m l g => exact mO _ _ _ _ (Int.le_max_right _ _)
theorem J1 (x y : Dyadic) : Dyadic.ofIntWithPrec (cC x (cQ x y) + cC y (cQ x y)) (cQ x y) = x + y := by
 rw [← wz, FU, Gv]
theorem Gc (i n : Int) : bu (DF i n).natAbs ≤ bu i.natAbs + n.toNat := by
 unfold DF;split
 ·rw [Ud, UJ];exact oQ _ _
 ·have : bu (i / 2 ^ (-n).toNat).natAbs ≤ bu i.natAbs := dt (Tk (VD _ _) (cW _));omega
theorem Cm (x y : Dyadic) (E : Int) (h1 : -E ≤ (nR x).e ∧ (nR x).e ≤ E) (h2 : -E ≤ (nR y).e ∧ (nR y).e ≤ E) : -E ≤ cQ x y ∧ cQ x y ≤ E := by
 cases x <;> cases y <;> simp only [nR, cQ] at * <;> omega
theorem rJ (x : Dyadic) (p : Int) : bu (cC x p).natAbs ≤ 8 * (nR x).bf.size + (p + (nR x).e).toNat := by
 cases x with
 | zero => simp [cC, ku]
 | ofOdd n k h =>
  have h1 := Gc n (p - k);have h2 := gC (iM n);rw [iM, eS] at h2;simp only [cC, nR];rw [show p + -k = p - k by omega];rw [← iM] at h2;omega
variable {P : Program} {by' off : Nat} {r : Bool} {zc : List Value}
section
variable {ro : Mode}
theorem IG {t : TypeId} {cs : Array Value} {v : Value} (ht : dk P t = some (n, false, by', zc)) (hv : cs[off]? = some v) (w : World) : (part t cs off).run P w = .ok v w := by
 simp [part, iI ht, hv]
theorem Pu {t : TypeId} {cs vs : Array Value} (ht : dk P t = some (n, true, by', zc)) (hv : cs.extract off (off + n) = vs) (w : World) : (part t cs off).run P w = .ok (.agg vs) w := by
 simp [part, iI ht, eP ht, hv]
theorem Qz (n : Nat) (a b : Bool) (w : World) : (Op.equalIn (n + 1) 4 (.bool a) (.bool b)).run Tryz.prog w = .ok (a == b) w := by
 simp [Op.equalIn, run_underlying Tryz.underlying4]
theorem Qi (n : Nat) (a b : ByteArray) (w : World) : (Op.equalIn (n + 1) 9 (.string a) (.string b)).run Tryz.prog w = .ok (a == b) w := by
 simp [Op.equalIn, run_underlying Tryz.underlying9]
theorem Qa (n : Nat) (a b : Int) (w : World) : (Op.equalIn (n + 1) 3 (.int .i64 a) (.int .i64 b)).run Tryz.prog w = .ok (a == b) w := by
 simp [Op.equalIn, run_underlying Tryz.underlying3]
theorem eq_int (n : Nat) (s s' : Bool) (a a' : ByteArray) (w : World) : (Op.equalIn (n + 2) 63 (.agg #[.bool s, .string a]) (.agg #[.bool s', .string a'])).run Tryz.prog w = .ok (s == s' && a == a') w := by
 have h1 := fun (x : Bool) (y : ByteArray) => IG (P := Tryz.prog) (cs := #[.bool x, .string y]) (off := 0) (aP.out (P := Tryz.prog) (t := 4)) rfl;have h2 := fun (x : Bool) (y : ByteArray) => IG (P := Tryz.prog) (cs := #[.bool x, .string y]) (off := 1) (aP.out (P := Tryz.prog) (t := 9)) rfl;rw [Op.equalIn];simp [run_underlying Tryz.underlying63, h1, h2, Qz, Qi]
 cases h : s == s' <;> cases h' : a == a' <;> simp_all
theorem M9 (n : Nat) (s s' : Bool) (a a' : ByteArray) (e e' : Int) (w : World) : (Op.equalIn (n + 3) 65 (.agg #[.bool s, .string a, .int .i64 e]) (.agg #[.bool s', .string a', .int .i64 e'])).run Tryz.prog w = .ok ((s == s' && a == a') && e == e') w := by
 have h1 := fun (x : Bool) (y : ByteArray) (z : Int) => Pu (P := Tryz.prog) (cs := #[.bool x, .string y, .int .i64 z]) (vs := #[.bool x, .string y]) (off := 0) (aP.out (P := Tryz.prog) (t := 63)) rfl;have h2 := fun (x : Bool) (y : ByteArray) (z : Int) => IG (P := Tryz.prog) (cs := #[.bool x, .string y, .int .i64 z]) (off := 2) (aP.out (P := Tryz.prog) (t := 3)) rfl;rw [Op.equalIn];simp [run_underlying Tryz.underlying65, h1, h2, eq_int, Qa]
 cases h : s == s' <;> cases h' : a == a' <;> cases h2 : e == e' <;> simp_all
section
variable {ρ : Rf} {w : World} {d : Option Nat} {ty u : TypeId} {pos : String} {af : Array Edge} {g : Option (Nat × Bool)} {x y : Operand} {s s' : Bool} {a a' : ByteArray} {e e' : Int}
theorem ND {a b : ByteArray} : (a == b) = true ↔ a = b := by
 have : (a == b) = (a.data == b.data) := rfl;rw [this, T0];exact ⟨fun h => by cases a; cases b; simp_all, fun h => by rw [h]⟩
theorem oW : ((s == s' && a == a') && e == e') = true ↔ NR.mk s a e = NR.mk s' a' e' := by
 rw [SE, SE, T0, ND, T0, NR.mk.injEq, and_assoc]
theorem KU (hx : ev ρ x = .agg #[.bool s, .string a, .int .i64 e]) (hy : ev ρ y = .agg #[.bool s', .string a', .int .i64 e']) (hr : ((s == s' && a == a') && e == e') = r) :
  (execOp (ev ρ) ⟨d, .binOp .eql 65 x y u, ty, pos, af, g⟩).run Tryz.prog w = .ok (.value (.bool r)) w := by
 exact Ok
theorem Li (hx : ev ρ x = .agg #[.bool s, .string a, .int .i64 e]) (hy : ev ρ y = .agg #[.bool s', .string a', .int .i64 e']) (hr : ((s == s' && a == a') && e == e') = r) :
  (execOp (ev ρ) ⟨d, .binOp .neq 65 x y u, ty, pos, af, g⟩).run Tryz.prog w = .ok (.value (.bool !r)) w := by
 exact Ok
theorem Kw (hx : ev ρ x = .agg #[.bool s, .string a, .int .i64 e]) (hy : ev ρ y = .agg #[.bool s', .string a', .int .i64 e']) (h : NR.mk s a e = NR.mk s' a' e') :
  (execOp (ev ρ) ⟨d, .binOp .eql 65 x y u, ty, pos, af, g⟩).run Tryz.prog w = .ok (.value (.bool true)) w := KU hx hy (oW.2 h)
theorem Ki (hx : ev ρ x = .agg #[.bool s, .string a, .int .i64 e]) (hy : ev ρ y = .agg #[.bool s', .string a', .int .i64 e']) (h : ¬ NR.mk s a e = NR.mk s' a' e') :
  (execOp (ev ρ) ⟨d, .binOp .eql 65 x y u, ty, pos, af, g⟩).run Tryz.prog w = .ok (.value (.bool false)) w := KU hx hy (by rw [U8]; exact fun h1 => h (oW.1 h1))
theorem CG (hx : ev ρ x = .agg #[.bool s, .string a, .int .i64 e]) (hy : ev ρ y = .agg #[.bool s', .string a', .int .i64 e']) (h : NR.mk s a e = NR.mk s' a' e') :
  (execOp (ev ρ) ⟨d, .binOp .neq 65 x y u, ty, pos, af, g⟩).run Tryz.prog w = .ok (.value (.bool false)) w := Li hx hy (oW.2 h)
theorem Ca (hx : ev ρ x = .agg #[.bool s, .string a, .int .i64 e]) (hy : ev ρ y = .agg #[.bool s', .string a', .int .i64 e']) (h : ¬ NR.mk s a e = NR.mk s' a' e') :
  (execOp (ev ρ) ⟨d, .binOp .neq 65 x y u, ty, pos, af, g⟩).run Tryz.prog w = .ok (.value (.bool true)) w := Li hx hy (r := false) (by rw [U8]; exact fun h1 => h (oW.1 h1))
end
section
variable {N : Nat} {ops : Array Oper} {Q : Kq} {ρ : Rf} {w : World} {rest : List Oper} {d : Nat} {ty u : TypeId} {pos : String} {af : Array Edge} {x y : Operand} {s s' : Bool} {a a' : ByteArray} {e e' : Int}
theorem CJ (hx : ev ρ x = .agg #[.bool s, .string a, .int .i64 e]) (hy : ev ρ y = .agg #[.bool s', .string a', .int .i64 e']) (h : NR.mk s a e = NR.mk s' a' e') (hN : d < N) (kk : WL ro Tryz.prog N ops Q rest (cx ρ d (.bool true)) w) :
  WL ro Tryz.prog N ops Q (⟨some d, .binOp .eql 65 x y u, ty, pos, af, none⟩ :: rest) ρ w := aM rfl rfl hN (Kw hx hy h) kk
theorem xp (hx : ev ρ x = .agg #[.bool s, .string a, .int .i64 e]) (hy : ev ρ y = .agg #[.bool s', .string a', .int .i64 e']) (h : ¬ NR.mk s a e = NR.mk s' a' e') (hN : d < N) (kk : WL ro Tryz.prog N ops Q rest (cx ρ d (.bool false)) w) :
  WL ro Tryz.prog N ops Q (⟨some d, .binOp .eql 65 x y u, ty, pos, af, none⟩ :: rest) ρ w := aM rfl rfl hN (Ki hx hy h) kk
theorem I5 (hx : ev ρ x = .agg #[.bool s, .string a, .int .i64 e]) (hy : ev ρ y = .agg #[.bool s', .string a', .int .i64 e']) (h : ¬ NR.mk s a e = NR.mk s' a' e') (hN : d < N) (kk : WL ro Tryz.prog N ops Q rest (cx ρ d (.bool true)) w) :
  WL ro Tryz.prog N ops Q (⟨some d, .binOp .neq 65 x y u, ty, pos, af, none⟩ :: rest) ρ w := aM rfl rfl hN (Ca hx hy h) kk
theorem CM (hx : ev ρ x = .agg #[.bool s, .string a, .int .i64 e]) (hy : ev ρ y = .agg #[.bool s', .string a', .int .i64 e']) (h : NR.mk s a e = NR.mk s' a' e') (hN : d < N) (kk : WL ro Tryz.prog N ops Q rest (cx ρ d (.bool false)) w) :
  WL ro Tryz.prog N ops Q (⟨some d, .binOp .neq 65 x y u, ty, pos, af, none⟩ :: rest) ρ w := aM rfl rfl hN (CG hx hy h) kk
end
theorem oJ (s : Bool) (a : ByteArray) (n : Int) (w : World) (hT : dD w) (ha : a.size ≤ 100000000) (h1 : -1000000000 ≤ n) (h2 : n ≤ 1000000000) :
  Calls Tryz.prog 197 #[.agg #[.bool s, .string a], .int .i64 n] w fun e w' => e = .returned (.agg #[.bool (iN (DF (iv s a) n)), .string (iM (DF (iv s a) n))]) ∧ Below w.heap.size w w' := by
 unfold DF;by_cases h : 0 ≤ n
 ·rw [Sj h];obtain ⟨m, rfl⟩ := Vi h;rw [T7];exact Al s a m w ha Sd
 ·rw [Si h];obtain ⟨m, hm⟩ := Vi (show 0 ≤ -n by omega);rw [hm, T7, show n = -(m : Int) by omega];exact At s a m w hT ha Sd Sd
theorem fO (s : Bool) (a : ByteArray) (e : Int) (w : World) (hT : dD w) (ha : a.size ≤ 100000000) (h1 : -1000000000000 ≤ e) (h2 : e ≤ 1000000000000) :
  Calls Tryz.prog 137 #[.agg #[.bool s, .string a], .int .i64 e] w fun r w' => r = .returned (.agg #[.bool (nR (Dyadic.ofIntWithPrec (iv s a) (-e))).neg, .string (nR (Dyadic.ofIntWithPrec (iv s a) (-e))).bf, .int .i64 (nR (Dyadic.ofIntWithPrec (iv s a) (-e))).e]) ∧ Below w.heap.size w w' := by
 have hh := Hp.start w;by_cases h0 : iv s a = 0
 ·rw [h0, kC, mK];refine aj (N := 21) (l := [.agg #[.bool s, .string a], .int .i64 e]) Tryz.func137 rfl rfl (by simp) ?_;refine sr ?_;refine cq hh [_,_] ?_;intro b2 w2 hh;refine bJ hh ?_;intro b4 w4 hh;refine aa (ah (sr ?_));refine cu hh 1 [_,_] ?_;refine br hh (kd s a _) rfl ?_;intro w7 hh;rw [h0];refine cH (aa (cT (sr ?_)));refine gg [_,_,_] ?_;refine bK hh 0 [_,_,_] ?_;intro ws hh;replace hh : Hp _ (.blk _ _ [_, _, _] _ :: _) _ := hh;refine aa (au (aG ?_));exact K4
 ·have hs : (iv s a).sign ≠ 0 := by rw [ne_eq, Int.sign_eq_zero_iff_zero]; exact h0
  rw [pR h0];have hz : bN a ≠ 0 := fun h => h0 ((BZ s a).2 h);have htz : tz (bN a) < 8 * a.size + 1 := by
   have := vc a;rw [show (256 : Nat) = 2 ^ 8 from rfl, ← S7] at this;have := vE hz this;omega
  have hsh : DF (iv s a) (-(tz (bN a) : Int)) = iv s a / 2 ^ tz (bN a) := by
   unfold DF;split
   ·have : tz (bN a) = 0 := Sd;rw [this]; simp
   ·rw [Int.neg_neg, T7]
  refine aj (N := 21) (l := [.agg #[.bool s, .string a], .int .i64 e]) Tryz.func137 rfl rfl (by simp) ?_;refine sr ?_;refine cq hh [_,_] ?_;intro b2 w2 hh;refine bJ hh ?_;intro b4 w4 hh;refine aa (ah (sr ?_));refine cu hh 1 [_,_] ?_;refine br hh (kd s a _) rfl ?_;intro w7 hh;refine cH (aa (cF (aq (ai (sr (bF ?_))))));refine bE hh 1 ?_;refine br hh (jM a _ Sd (hT.hp hh)) rfl ?_;intro w12 hh;refine aI (aa (sr ?_));refine cu hh 1 [_,_] (mI ?_);refine vW rfl Sd Sd Se ?_;refine br hh (oJ s a (-(tz (bN a) : Int)) _ (hT.hp hh) ha Sd Sd) rfl ?_;intro w16 hh;rw [hsh];refine mI (mI ?_);refine a9 ?_;refine gg [_,_,_] ?_;exact IP
def NR.ok (a : NR) : Prop := a.bf.size ≤ 1000000 ∧ -10000000 ≤ a.e ∧ a.e ≤ 10000000
theorem Sz.ok {x : Dyadic} (h : Sz k x) (hk : k ≤ 3999990) : (nR x).ok := by
 have := h.nr;refine ⟨Sd, Sd, Sd⟩
theorem kJ (n : Int) (w : World) (hT : dD w) (h1 : -9223372036854775808 ≤ n) (h2 : n ≤ 9223372036854775807) :
  Calls Tryz.prog 50 #[.int .i64 n] w fun r w' => r = .returned (.agg #[.bool (nR (n : Dyadic)).neg, .string (nR (n : Dyadic)).bf, .int .i64 (nR (n : Dyadic)).e]) ∧ Below w.heap.size w w' := by
 have hh := Hp.start w;have hsz : (iM n).size ≤ 100000000 := by
  rw [dN];have : bu n.natAbs ≤ 64 := dt Sd;omega
 have hc : ∀ w1, dD w1 → Calls Tryz.prog 137 #[.agg #[.bool (iN n), .string (iM n)], .int .i64 0] w1 fun r w' => r = .returned (.agg #[.bool (nR (n : Dyadic)).neg, .string (nR (n : Dyadic)).bf, .int .i64 (nR (n : Dyadic)).e]) ∧ Below w1.heap.size w1 w' := fun w1 hT1 => by
  have := fO (iN n) (iM n) 0 w1 hT1 hsz Sd Sd;rw [eR] at this;exact this
 refine aj (N := 6) (l := [.int .i64 n]) Tryz.func50 rfl rfl (by simp) ?_;refine sr ?_;refine bJ hh ?_;intro b2 w2 hh;refine aa (sr (mI ?_));refine br hh (m0 n _ h1 h2) rfl ?_;intro w4 hh;refine br hh (hc _ (hT.hp hh)) rfl ?_;intro w5 hh;exact IP
theorem ew (a : NR) (w : World) (hT : dD w) (ha : a.bf.size ≤ 100000000) (h1 : -1000000000000 ≤ a.e) (h2 : a.e ≤ 1000000000000) :
  Calls Tryz.prog 132 #[.agg #[.bool a.neg, .string a.bf, .int .i64 a.e]] w fun r w' => r = .returned (.agg #[.bool (nR a.d).neg, .string (nR a.d).bf, .int .i64 (nR a.d).e]) ∧ Below w.heap.size w w' := by
 have hh := Hp.start w;refine aj (N := 8) (l := [.agg #[.bool a.neg, .string a.bf, .int .i64 a.e]]) Tryz.func132 rfl rfl (by simp) ?_;refine sr ?_;refine cq hh [_,_,_] ?_;intro b1 w1 hh;refine bJ hh ?_;intro b2 w2 hh;refine aa (sr (bF ?_));refine cu hh 1 [_,_] (bF ?_);refine bE hh 1 ?_;refine br hh (fO a.neg a.bf a.e _ (hT.hp hh) ha h1 h2) rfl ?_;intro w7 hh;exact IP
theorem gP (a : NR) (w : World) :
  Calls Tryz.prog 164 #[.agg #[.bool a.neg, .string a.bf, .int .i64 a.e]] w fun r w' => r = .returned (.int .i64 a.i.sign) ∧ Below w.heap.size w w' := by
 have hh := Hp.start w;refine aj (N := 6) (l := [.agg #[.bool a.neg, .string a.bf, .int .i64 a.e]]) Tryz.func164 rfl rfl (by simp) ?_;refine sr ?_;refine cq hh [_,_,_] ?_;intro b1 w1 hh;refine aI (aa (sr (bF ?_)));refine cu hh 0 [_,_] ?_;refine br hh (kd a.neg a.bf _) rfl ?_;intro w5 hh;exact zh
theorem AP (a : NR) (w : World) (hT : dD w) (ha : a.bf.size ≤ 100000000) (h1 : -1000000000000 ≤ a.e) (h2 : a.e ≤ 1000000000000) :
  Calls Tryz.prog 118 #[.agg #[.bool a.neg, .string a.bf, .int .i64 a.e]] w fun r w' => r = .returned (.agg #[.bool (nR (-a.d)).neg, .string (nR (-a.d)).bf, .int .i64 (nR (-a.d)).e]) ∧ Below w.heap.size w w' := by
 have hh := Hp.start w;have hc : ∀ w1, dD w1 → Calls Tryz.prog 137 #[.agg #[.bool (iN (-(iv a.neg a.bf))), .string (iM (-(iv a.neg a.bf)))], .int .i64 a.e] w1 fun r w' => r = .returned (.agg #[.bool (nR (-a.d)).neg, .string (nR (-a.d)).bf, .int .i64 (nR (-a.d)).e]) ∧ Below w1.heap.size w1 w' := fun w1 hT1 => by
  have hs := qW a.neg a.bf;have := fO (iN (-(iv a.neg a.bf))) (iM (-(iv a.neg a.bf))) a.e w1 hT1 Sd h1 h2;rw [eR, ← BN] at this;exact this
 refine aj (N := 9) (l := [.agg #[.bool a.neg, .string a.bf, .int .i64 a.e]]) Tryz.func118 rfl rfl (by simp) ?_;refine sr ?_;refine cq hh [_,_,_] ?_;intro b1 w1 hh;refine bJ hh ?_;intro b2 w2 hh;refine aa (ah ?_);refine aU 5 [[(1, none)], [(3, some 0)], [(4, some 1)], [(1, none)], [(6, some 3)]] [(4, 7), (3, 6), (2, 5), (1, 4), (0, 3)] hh mixed Sf ?_;refine ek ?_;refine eX 1 [_,_] ?_;refine dC (fun _ hj => sA a.neg a.bf _) ?_;refine ek ?_;refine gH 1 ?_;refine aR ?_;intro f W hJ hV;have hb_1 := hJ.bl;obtain ⟨v7, v6, v5, v4, v3, _⟩ := hV;replace hh := hJ.hp;refine aX (bp (ae v7 (ae v6 (ae v5 (ae v4 (ae v3 aW)))))) ?_;dsimp only [ck];clear hJ;refine br hh (hc _ (hT.hp hh)) rfl ?_;intro w8 hh;exact IP
theorem vw (s : Int) (a : NR) (w : World) (hT : dD w) (ha : a.bf.size ≤ 100000000) (h1 : -1000000000 ≤ a.e - s) (h2 : a.e - s ≤ 1000000000) :
  Calls Tryz.prog 194 #[.int .i64 s, .agg #[.bool a.neg, .string a.bf, .int .i64 a.e]] w fun r w' => r = .returned (.agg #[.bool (iN (DF a.i (a.e - s))), .string (iM (DF a.i (a.e - s)))]) ∧ Below w.heap.size w w' := by
 have hh := Hp.start w;refine aj (N := 12) (l := [.int .i64 s, .agg #[.bool a.neg, .string a.bf, .int .i64 a.e]]) Tryz.func194 rfl rfl (by simp) ?_;refine sr ?_;refine cq hh [_,_,_] ?_;intro b3 w3 hh;refine bJ hh ?_;intro b4 w4 hh;refine aa (sr (bF ?_));refine cu hh 1 [_,_] (bF ?_);refine bE hh 1 ?_;refine mI ?_;refine eu ?_;refine br hh (oJ a.neg a.bf (a.e - s) _ (hT.hp hh) ha h1 h2) rfl ?_;intro w11 hh;exact K7
theorem AN (x : Dyadic) (p : Int) : DF (nR x).i ((nR x).e - -p) = cC x p := by
 cases x with
 | zero => exact FE _
 | ofOdd n k h =>
  simp only [nR, NR.i, eR, cC];congr 1;omega
theorem j7 (x : Dyadic) : nR x = ⟨false, ByteArray.mk #[], 0⟩ ↔ x = 0 := by rw [← mK, M7]
theorem mg {a : NR} (h : a.ok) : Sz 18000000 a.d ∧ (nR a.d).bf.size ≤ 1000000 ∧ -18000000 ≤ (nR a.d).e ∧ (nR a.d).e ≤ 18000000 := by
 obtain ⟨h1, h2, h3⟩ := h;refine ⟨Sz.raw (m := 8000000) (E := 10000000) Sd Sd Sd, ?_⟩;by_cases h0 : iv a.neg a.bf = 0
 ·rw [NR.d, NR.i, h0, kC, mK];exact ⟨Sn _, by simp, by simp⟩
 ·rw [NR.d, NR.i, pR h0];have hz : bN a.bf ≠ 0 := fun h => h0 ((BZ a.neg a.bf).2 h);have htz : tz (bN a.bf) < 8 * a.bf.size + 1 := by
   have := vc a.bf;rw [show (256 : Nat) = 2 ^ 8 from rfl, ← S7] at this;have := vE hz this;omega
  have hb : bu (iv a.neg a.bf / 2 ^ tz (bN a.bf)).natAbs ≤ 8 * a.bf.size := by
   apply dt;refine Tk (VD _ _) ?_;rw [jL];exact Tg (cW _) (S4 Sd (gC _))
  simp only;rw [dN];refine ⟨Sd, Sd, Sd⟩
theorem n0 (a b : NR) (w : World) (hT : dD w) (ha : a.ok) (hb : b.ok) :
  Calls Tryz.prog 136 #[.agg #[.bool a.neg, .string a.bf, .int .i64 a.e], .agg #[.bool b.neg, .string b.bf, .int .i64 b.e]] w fun r w' => r = .returned (.agg #[.int .i64 (-(cQ a.d b.d)), .bool (iN (cC a.d (cQ a.d b.d))), .string (iM (cC a.d (cQ a.d b.d))), .bool (iN (cC b.d (cQ a.d b.d))), .string (iM (cC b.d (cQ a.d b.d)))]) ∧ Below w.heap.size w w' := by
 have hh := Hp.start w;obtain ⟨ha1, ha2, ha3⟩ := ha;obtain ⟨hb1, hb2, hb3⟩ := hb;obtain ⟨_, fa1, fa2, fa3⟩ := mg (a := a) ⟨ha1, ha2, ha3⟩;obtain ⟨_, fb1, fb2, fb3⟩ := mg (a := b) ⟨hb1, hb2, hb3⟩;have hP := Cm a.d b.d 18000000 Sd Sd;have hcx := fun w1 hT1 => vw (-(cQ a.d b.d)) (nR a.d) w1 hT1 Sd Sd Sd;have hcy := fun w1 hT1 => vw (-(cQ a.d b.d)) (nR b.d) w1 hT1 Sd Sd Sd;rw [AN] at hcx hcy;by_cases h0 : a.d = 0
 ·have h0' := (j7 a.d).2 h0;have hs : (nR b.d).e = -(cQ a.d b.d) := by
   rw [h0]
   cases b.d with
   | zero => rfl
   | ofOdd n k h => rfl
  refine FP ?_;refine sr ?_;refine cq hh [_,_,_] ?_;intro b2 w2 hh;refine cq hh [_,_,_] ?_;intro b3 w3 hh;refine bJ hh ?_;intro b4 w4 hh;refine aa (ah ?_);refine IE ?_;refine eX 2 [_,_,_] ?_;refine Iw ?_;refine eX 1 [_,_,_] ?_;refine aR ?_;intro f W hJ hV;have hb_1 := hJ.bl;obtain ⟨v9, v8, v7, _⟩ := hV;replace hh := hJ.hp;refine aX (bp (ae v9 (ae v8 (ae v7 aW)))) ?_;dsimp only [ck];clear hJ;refine br hh (ew b _ (hT.hp hh) Sd Sd Sd) rfl ?_;intro w10 hh;refine bK hh 2 [_,_,_] ?_;intro ws hh;replace hh : Hp _ (_ :: _ :: .blk _ _ [_, _, _] _ :: _) _ := hh;refine bK hh 1 [_,_,_] ?_;intro ws hh;replace hh : Hp _ (_ :: .blk _ _ [_, _, _] _ :: _) _ := hh;refine aa (sr (bF ?_));refine bE hh 2 ?_;refine bF ?_;refine bE hh 1 ?_;refine vB rfl rfl Se ?_;refine aI (aa (ah (ao (sr ?_))));refine cu hh 2 [_,_,_] ?_;refine gg [_,_,_] ?_;refine CJ rfl rfl (by first | assumption | rfl) Se ?_;refine aB (aa (cT (al (bF ?_))));refine bE hh 1 ?_;refine aI (az (bg (ai (sr ?_))));exact Qt
 ·have h0' : ¬ nR a.d = ⟨false, ByteArray.mk #[], 0⟩ := fun h => h0 ((j7 _).1 h);by_cases h1 : b.d = 0
  ·have h1' := (j7 b.d).2 h1;have hs : (nR a.d).e = -(cQ a.d b.d) := by
    rw [h1]
    cases a.d with
    | zero => rfl
    | ofOdd n k h => rfl
   refine FP ?_;refine sr ?_;refine cq hh [_,_,_] ?_;intro b2 w2 hh;refine cq hh [_,_,_] ?_;intro b3 w3 hh;refine bJ hh ?_;intro b4 w4 hh;refine aa (ah ?_);refine IE ?_;refine eX 2 [_,_,_] ?_;refine Iw ?_;refine eX 1 [_,_,_] ?_;refine aR ?_;intro f W hJ hV;have hb_1 := hJ.bl;obtain ⟨v9, v8, v7, _⟩ := hV;replace hh := hJ.hp;refine aX (bp (ae v9 (ae v8 (ae v7 aW)))) ?_;dsimp only [ck];clear hJ;refine br hh (ew b _ (hT.hp hh) Sd Sd Sd) rfl ?_;intro w10 hh;refine bK hh 2 [_,_,_] ?_;intro ws hh;replace hh : Hp _ (_ :: _ :: .blk _ _ [_, _, _] _ :: _) _ := hh;refine bK hh 1 [_,_,_] ?_;intro ws hh;replace hh : Hp _ (_ :: .blk _ _ [_, _, _] _ :: _) _ := hh;refine aa (sr (bF ?_));refine bE hh 2 ?_;refine bF ?_;refine bE hh 1 ?_;refine vB rfl rfl Se ?_;refine aI (aa (ah (ao (sr ?_))));refine cu hh 2 [_,_,_] ?_;refine gg [_,_,_] ?_;refine xp rfl rfl (by assumption) Se ?_;refine aB (aa (cF (sr ?_)));refine cu hh 1 [_,_,_] ?_;refine gg [_,_,_] ?_;refine CJ rfl rfl (by first | assumption | rfl) Se ?_;refine aB (aa (cT (al (bF ?_))));refine bE hh 2 ?_;refine aI (az (bg (ai (sr ?_))));exact Qt
  ·have h1' : ¬ nR b.d = ⟨false, ByteArray.mk #[], 0⟩ := fun h => h1 ((j7 _).1 h);have hs : (if (nR b.d).e < (nR a.d).e then (nR b.d).e else (nR a.d).e) = -(cQ a.d b.d) := by
    revert h0 h1
    cases a.d with
    | zero => intro h; exact absurd rfl h
    | ofOdd n k h =>
     cases b.d with
     | zero => intro _ h; exact absurd rfl h
     | ofOdd m l g =>
      intro _ _;simp only [nR, cQ];omega
   refine FP ?_;refine sr ?_;refine cq hh [_,_,_] ?_;intro b2 w2 hh;refine cq hh [_,_,_] ?_;intro b3 w3 hh;refine bJ hh ?_;intro b4 w4 hh;refine aa (ah ?_);refine IE ?_;refine eX 2 [_,_,_] ?_;refine Iw ?_;refine eX 1 [_,_,_] ?_;refine aR ?_;intro f W hJ hV;have hb_1 := hJ.bl;obtain ⟨v9, v8, v7, _⟩ := hV;replace hh := hJ.hp;refine aX (bp (ae v9 (ae v8 (ae v7 aW)))) ?_;dsimp only [ck];clear hJ;refine br hh (ew b _ (hT.hp hh) Sd Sd Sd) rfl ?_;intro w10 hh;refine bK hh 2 [_,_,_] ?_;intro ws hh;replace hh : Hp _ (_ :: _ :: .blk _ _ [_, _, _] _ :: _) _ := hh;refine bK hh 1 [_,_,_] ?_;intro ws hh;replace hh : Hp _ (_ :: .blk _ _ [_, _, _] _ :: _) _ := hh;refine aa (sr (bF ?_));refine bE hh 2 ?_;refine bF ?_;refine bE hh 1 ?_;refine vB rfl rfl Se ?_;refine aI (aa (ah (ao (sr ?_))));refine cu hh 2 [_,_,_] ?_;refine gg [_,_,_] ?_;refine xp rfl rfl (by assumption) Se ?_;refine aB (aa (cF (sr ?_)));refine cu hh 1 [_,_,_] ?_;refine gg [_,_,_] ?_;refine xp rfl rfl (by assumption) Se ?_;refine aB (aa (cF (aq (bg (ai (sr ?_))))));exact Qt
end
def kS (x y : Dyadic) : Int := if x < y then -1 else if y < x then 1 else 0
theorem yB (i j p : Int) : (i - j).sign = kS (Dyadic.ofIntWithPrec i p) (Dyadic.ofIntWithPrec j p) := by
 unfold kS;simp only [tM]
 rcases U1 i j with h | h | h
 ·rw [Sj h, TQ Sd]
 ·subst h; simp
 ·rw [Si Sd, Sj h, TU Sd]
theorem AH (i p : Int) : i.sign = kS (Dyadic.ofIntWithPrec i p) 0 := by
 have := yB i 0 p;rwa [Int.sub_zero, kC] at this
theorem NR.sign (a : NR) : a.i.sign = kS a.d 0 := AH _ _
theorem y4 (x y : Dyadic) : (cC x (cQ x y) - cC y (cQ x y)).sign = kS x y := by
 rw [yB _ _ (cQ x y), FU, Gv]
theorem D4 (X Y : Int) (h : X.sign ≠ Y.sign) : (if (if X.sign - Y.sign < 1 then X.sign - Y.sign else 1) > -1 then (if X.sign - Y.sign < 1 then X.sign - Y.sign else 1) else -1) = (X - Y).sign := by
 rcases U1 X 0 with hx | hx | hx <;> rcases U1 Y 0 with hy | hy | hy
 ·rw [TQ hx, TQ hy] at h; omega
 ·rw [TQ hx, hy, Int.sub_zero, TQ hx]; simp
 ·rw [TQ hx, TU hy, TQ Sd]; simp
 ·subst hx; rw [Int.sign_zero, TQ hy, TU (a := 0 - Y) Sd]; simp
 ·rw [hx, hy] at h; omega
 ·subst hx; rw [Int.sign_zero, TU hy, TQ (a := 0 - Y) Sd]; simp
 ·rw [TU hx, TQ hy, TU Sd]; simp
 ·rw [TU hx, hy, Int.sub_zero, TU hx]; simp
 ·rw [TU hx, TU hy] at h; omega
theorem pI {a b : NR} (ha : a.ok) (hb : b.ok) : (iM (cC a.d (cQ a.d b.d))).size ≤ 6000000 ∧ (iM (cC b.d (cQ a.d b.d))).size ≤ 6000000 ∧ -18000000 ≤ cQ a.d b.d ∧ cQ a.d b.d ≤ 18000000 := by
 obtain ⟨_, fa1, fa2, fa3⟩ := mg ha;obtain ⟨_, fb1, fb2, fb3⟩ := mg hb;have hP := Cm a.d b.d 18000000 Sd Sd;have h1 := rJ a.d (cQ a.d b.d);have h2 := rJ b.d (cQ a.d b.d);rw [dN, dN];refine ⟨Sd, Sd, hP.1, hP.2⟩
theorem Dd (i : Int) : -1 ≤ i.sign ∧ i.sign ≤ 1 := by
 rcases U1 i 0 with h | h | h
 ·rw [TQ h]; omega
 ·rw [h]; simp
 ·rw [TU h]; omega
theorem nJ (a b : NR) (w : World) (hT : dD w) (ha : a.ok) (hb : b.ok) :
  Calls Tryz.prog 184 #[.agg #[.bool a.neg, .string a.bf, .int .i64 a.e], .agg #[.bool b.neg, .string b.bf, .int .i64 b.e]] w fun r w' => r = .returned (.int .i64 (kS a.d b.d)) ∧ Below w.heap.size w w' := by
 have hh := Hp.start w;obtain ⟨hs1, hs2, _⟩ := pI ha hb;have hsa : a.i.sign = (cC a.d (cQ a.d b.d)).sign := by rw [NR.sign, AH _ (cQ a.d b.d), FU]
 have hsb : b.i.sign = (cC b.d (cQ a.d b.d)).sign := by rw [NR.sign, AH _ (cQ a.d b.d), Gv]
 have hba := Dd a.i;have hbb := Dd b.i;by_cases hne : a.i.sign = b.i.sign
 ·refine Lb ?_;refine sr ?_;refine cq hh [_,_,_] ?_;intro b2 w2 hh;refine cq hh [_,_,_] ?_;intro b3 w3 hh;refine aI (aa (ah (ah ?_)));refine aU 3 [[(2, none)], [(8, some 0)], [(3, none)]] [(2, 10), (1, 9), (0, 8)] hh mixed Sf ?_;refine eX 1 [_,_,_] ?_;refine dC (fun _ hj => gP a _) ?_;refine eX 0 [_,_,_] ?_;refine aR ?_;intro f W hJ hV;have hb_1 := hJ.bl;obtain ⟨v10, v9, v8, _⟩ := hV;replace hh := hJ.hp;refine aX (bp (ae v10 (ae v9 (ae v8 aW)))) ?_;dsimp only [ck];clear hJ;refine br hh (gP b _) rfl ?_;intro w11 hh;refine aI (aI (aa (sr (mI (mI ?_)))));refine vq ?_;refine cu hh 1 [_,_,_] ?_;refine cu hh 0 [_,_,_] ?_;refine br hh (n0 a b _ (hT.hp hh) ha hb) rfl ?_;intro w22 hh;refine bJ hh ?_;intro b7 w7 hh;refine bK hh 0 [_,_,_,_,_] ?_;intro ws hh;replace hh : Hp _ (.blk _ _ [_, _, _, _, _] _ :: _) _ := hh;refine aa (sr (bF ?_));refine cu hh 0 [_,_] (bF ?_);refine cu hh 0 [_,_] ?_;refine br hh (AW _ _ _ _ _ Sd Sd) rfl ?_;intro w27 hh;rw [eR, eR, y4];exact zh
 ·refine Lb ?_;refine sr ?_;refine cq hh [_,_,_] ?_;intro b2 w2 hh;refine cq hh [_,_,_] ?_;intro b3 w3 hh;refine aI (aa (ah (ah ?_)));refine aU 3 [[(2, none)], [(8, some 0)], [(3, none)]] [(2, 10), (1, 9), (0, 8)] hh mixed Sf ?_;refine eX 1 [_,_,_] ?_;refine dC (fun _ hj => gP a _) ?_;refine eX 0 [_,_,_] ?_;refine aR ?_;intro f W hJ hV;have hb_1 := hJ.bl;obtain ⟨v10, v9, v8, _⟩ := hV;replace hh := hJ.hp;refine aX (bp (ae v10 (ae v9 (ae v8 aW)))) ?_;dsimp only [ck];clear hJ;refine br hh (gP b _) rfl ?_;intro w11 hh;refine aI (aI (aa (sr (mI (mI ?_)))));refine cX (aa (cT (sr (mI (mI ?_)))));refine eu ?_;refine vB rfl rfl Se ?_;refine kI rfl rfl Se ?_;refine aI (aa (au (aG ?_)));refine da ?_;refine ⟨?_, hh.below⟩;rw [hsa, hsb] at hne;rw [hsa, hsb, ← y4 a.d b.d, ← D4 _ _ hne]
def cf (n : Int) : Dyadic := Dyadic.ofIntWithPrec 1 (-n)
theorem Dm (i p n : Int) : Dyadic.ofIntWithPrec i (p - n) = Dyadic.ofIntWithPrec i p * cf n := by
 rw [cf, rp, Int.mul_one]; rfl
theorem lz (a : NR) (n : Int) (w : World) (hT : dD w) (ha : a.bf.size ≤ 100000000) (h1 : -100000000000 ≤ a.e) (h2 : a.e ≤ 100000000000) (h3 : -100000000000 ≤ n) (h4 : n ≤ 100000000000) :
  Calls Tryz.prog 95 #[.agg #[.bool a.neg, .string a.bf, .int .i64 a.e], .int .i64 n] w fun r w' => r = .returned (.agg #[.bool (nR (a.d * cf n)).neg, .string (nR (a.d * cf n)).bf, .int .i64 (nR (a.d * cf n)).e]) ∧ Below w.heap.size w w' := by
 have hh := Hp.start w;have e1 : Dyadic.ofIntWithPrec (iv a.neg a.bf) (-(a.e + n)) = a.d * cf n := by
  rw [NR.d, NR.i, ← Dm]; congr 1; omega
 have hc := fun w1 hT1 => fO a.neg a.bf (a.e + n) w1 hT1 ha Sd Sd;rw [e1] at hc;refine aj (N := 12) (l := [.agg #[.bool a.neg, .string a.bf, .int .i64 a.e], .int .i64 n]) Tryz.func95 rfl rfl (by simp) ?_;refine sr ?_;refine cq hh [_,_,_] ?_;intro b2 w2 hh;refine bJ hh ?_;intro b4 w4 hh;refine aa (sr (bF ?_));refine cu hh 1 [_,_] (bF ?_);refine bE hh 1 ?_;refine mI ?_;refine a9 ?_;refine br hh (hc _ (hT.hp hh)) rfl ?_;intro w11 hh;exact IP
def m9 : List Dyadic → Dyadic := fun l => l.foldl (· + ·) 0
theorem uN (l : List Dyadic) (x : Dyadic) : m9 (l ++ [x]) = m9 l + x := by simp [m9]
theorem Sz.sum {l : List Dyadic} (h : ∀ x ∈ l, Sz k x) : Sz (k + l.length) (m9 l) := by
 have : ∀ (n : Nat), n ≤ l.length → Sz (k + n) (m9 (l.take n)) := by
  intro n
  induction n with
  | zero => intro _; exact Sz.zero _
  | succ n ih =>
   intro hn;obtain ⟨x, hx⟩ := av (l := l) (k := n) Sd;rw [ay hx, uN];exact (ih Sd).add ((h x (Sp hx)).mono Sd)
 have h2 := this l.length (So _);rwa [Vl] at h2
theorem sQ (a b : NR) (w : World) (hT : dD w) (ha : a.ok) (hb : b.ok) :
  Calls Tryz.prog 137 #[.agg #[.bool (iN (cC a.d (cQ a.d b.d) + cC b.d (cQ a.d b.d))), .string (iM (cC a.d (cQ a.d b.d) + cC b.d (cQ a.d b.d)))], .int .i64 (-(cQ a.d b.d))] w fun r w' => r = .returned (.agg #[.bool (nR (a.d + b.d)).neg, .string (nR (a.d + b.d)).bf, .int .i64 (nR (a.d + b.d)).e]) ∧ Below w.heap.size w w' := by
 obtain ⟨hs1, hs2, hP1, hP2⟩ := pI ha hb;rw [dN] at hs1 hs2;have h3 := oN (cC a.d (cQ a.d b.d)) (cC b.d (cQ a.d b.d));have := fO (iN (cC a.d (cQ a.d b.d) + cC b.d (cQ a.d b.d))) (iM (cC a.d (cQ a.d b.d) + cC b.d (cQ a.d b.d))) (-(cQ a.d b.d)) w hT (by rw [dN]; omega) Sd Sd;rw [eR, Int.neg_neg, J1] at this;exact this
theorem iG (L : Option Addr) (n c : Nat) (l : List NR) (w : World) (hT : dD w) (hS : Sl w L n 3 (aw NR.cells l)) (hl : ∀ a ∈ l, a.ok) (k : Nat) (hk : ∀ a ∈ l, Sz k a.d) (hkn : k + n ≤ 3999990) :
  Calls Tryz.prog 47 #[.slice L n c] w fun r w' => r = .returned (.agg #[.bool (nR (m9 (l.map NR.d))).neg, .string (nR (m9 (l.map NR.d))).bf, .int .i64 (nR (m9 (l.map NR.d))).e]) ∧ Below w.heap.size w w' := by
 have hln := hS.bz NR.len Sd;have hh := Hp.start w;refine aj (N := 27) (l := [.slice L n c]) Tryz.func47 rfl rfl (by simp) ?_;refine sr ?_;refine bJ hh ?_;intro b2 w2 hh;refine aa (sr ?_);refine bJ hh ?_;intro b3 w3 hh;refine u6 ?_;refine aN [5, 6, 9, 10, 11, 12, 13, 14, 15, 16, 17, 18, 19, 20, 21, 22, 23, 24, 25] 9
  (fun j w' => ∃ (i : Nat) (S : Dyadic), i ≤ n ∧ j = .int .i64 i ∧ S = m9 ((l.take i).map NR.d) ∧ Hp w [.blk b3 65 [.bool (nR S).neg, .string (nR S).bf, .int .i64 (nR S).e] (0, 0), .blk b2 65 [.bool false, .string (ByteArray.mk #[]), .int .i64 0] (0, 0)] w')
  (fun j _ => n - (intOf j).toNat) ?_ ?_
 ·exact ⟨0, 0, Sn _, rfl, rfl, hh⟩
 ·clear hh;rintro ρ' j w' ⟨i, S, hi, rfl, hS2, hh⟩;by_cases hlt : i < n
  ·obtain ⟨x, hx⟩ := av (l := l) (k := i) Sd;obtain ⟨ad, rfl, hr⟩ := hS.at_ Sd;have hxm := Sp hx;have hS3 : m9 ((l.take (i + 1)).map NR.d) = S + x.d := by rw [ay hx, Tt, UO, uN, hS2]
   have hSz : Sz (k + i) S := by
    rw [hS2];have := Sz.sum (k := k) (l := (l.take i).map NR.d) (fun y hy => by
     obtain ⟨a, ha, rfl⟩ := SB.1 hy;exact hk a (Uc ha))
    rw [Sx, SP, Tp Sd] at this;exact this
   have hSo := hSz.ok Sd;have hlc := fun w1 hT1 => n0 (nR S) x w1 hT1 hSo (hl x hxm);have hmc := fun w1 hT1 => sQ (nR S) x w1 hT1 hSo (hl x hxm);obtain ⟨hs1, hs2, _⟩ := pI hSo (hl x hxm);rw [cn] at hlc hmc hs1 hs2;have e1 : ([iR (cC S (cQ S x.d)), iR (cC x.d (cQ S x.d))].map IR.v).sum = cC S (cQ S x.d) + cC x.d (cQ S x.d) := by
    simp only [SW, Tx, List.sum_cons, List.sum_nil, Om]; omega
   have hac : ∀ (A : Option Addr) (cc : Nat) (w1 : World), Sl w1 A 2 2 (aw IR.cells [iR (cC S (cQ S x.d)), iR (cC x.d (cQ S x.d))]) → Calls Tryz.prog 138 #[.slice A 2 cc] w1 fun e w' => e = .returned (.agg #[.bool (iN (cC S (cQ S x.d) + cC x.d (cQ S x.d))), .string (iM (cC S (cQ S x.d) + cC x.d (cQ S x.d)))]) ∧ Below w1.heap.size w1 w' := fun A cc w1 hsl => by
    have := rI A 2 cc [iR (cC S (cQ S x.d)), iR (cC x.d (cQ S x.d))] w1 hsl Sd (by simp [iR]; omega);rw [e1] at this;exact this
   refine sr ?_;refine dq ?_;refine bX ?_;refine Cg ?_;refine bJ hh ?_;intro b5 w5 hh;refine bK hh 0 [_,_,_] ?_;intro ws hh;replace hh : Hp _ (.blk _ _ [_, _, _] _ :: _) _ := hh;refine aa (sr ?_);refine cu hh 1 [_,_,_] ?_;refine cu hh 0 [_,_,_] ?_;refine br hh (hlc _ (hT.hp hh)) rfl ?_;intro w15 hh;refine bJ hh ?_;intro b6 w6 hh;refine bK hh 0 [_,_,_,_,_] ?_;intro ws hh;replace hh : Hp _ (.blk _ _ [_, _, _, _, _] _ :: _) _ := hh;refine aa ?_;refine aU 8 [[(6, none)], [(16, some 0)], [(6, none)], [(18, some 2)], [(17, some 1), (19, some 3)], [(20, some 4)], [(6, none)], [(22, some 6)]] [(7, 23), (6, 22), (5, 21), (4, 20), (3, 19), (2, 18), (1, 17), (0, 16)] hh mixed Sf ?_;refine ek ?_;refine eX 0 [_,_] ?_;refine ek ?_;refine eX 0 [_,_] ?_;refine z7 [_,_,_,_] ?_;refine a8 (i := 5) (Is (.agg #[.bool (iN (cC S (cQ S x.d) + cC x.d (cQ S x.d))), .string (iM (cC S (cQ S x.d) + cC x.d (cQ S x.d)))])) Is.ext ?_ ?_
   ·intro ρ1 w1 hj hR;obtain ⟨A20, c20, h20, s20⟩ := hR.1;exact bA rfl (aZ ak.out (aA h20 a7)) (hac A20 c20 _ s20) (fun _ _ hq => ⟨_, hq.1, hq.2, rfl⟩)
   refine ek ?_;refine gH 0 ?_;refine aR ?_;intro f W hJ hV;have hb_6 := hJ.bl;obtain ⟨v23, v22, v21, v20, v19, v18, v17, v16, _⟩ := hV;obtain ⟨A20, c20, e20, f20⟩ : Rows _ _ _ (f 4) W := v20;replace hh := hJ.hp;refine aX (bp (ae v23 (ae v22 (ae v21 (ae e20 (ae v19 (ae v18 (ae v17 (ae v16 aW))))))))) ?_;dsimp only [ck];clear e20 hJ;refine br hh (hmc _ (hT.hp hh)) rfl ?_;intro w24 hh;refine bK hh 2 [_,_,_] ?_;intro ws hh;replace hh : Hp _ (_ :: _ :: .blk _ _ [_, _, _] _ :: _) _ := hh;refine fG ?_;refine a9 (mI (az (ai ?_)));replace hh := hh.sub ((Th _ _).trans (Th _ _));exact Lm
  ·exact OK
theorem kx (x y : Dyadic) : m9 [x, y] = x + y := by
 show (0 + x) + y = x + y;rw [Ur]
theorem rK (a b : NR) (w : World) (hT : dD w) (ha : a.ok) (hb : b.ok) (k : Nat) (hka : Sz k a.d) (hkb : Sz k b.d) (hk : k ≤ 3999980) :
  Calls Tryz.prog 52 #[.agg #[.bool a.neg, .string a.bf, .int .i64 a.e], .agg #[.bool b.neg, .string b.bf, .int .i64 b.e]] w fun r w' => r = .returned (.agg #[.bool (nR (a.d - b.d)).neg, .string (nR (a.d - b.d)).bf, .int .i64 (nR (a.d - b.d)).e]) ∧ Below w.heap.size w w' := by
 have hh := Hp.start w;obtain ⟨hb1, hb2, hb3⟩ := hb;have e1 : m9 ([a, nR (-b.d)].map NR.d) = a.d - b.d := by
  simp only [SW, Tx, cn, kx]; rfl
 have hac : ∀ (A : Option Addr) (cc : Nat) (w1 : World), dD w1 → Sl w1 A 2 3 (aw NR.cells [a, nR (-b.d)]) → Calls Tryz.prog 47 #[.slice A 2 cc] w1 fun r w' => r = .returned (.agg #[.bool (nR (a.d - b.d)).neg, .string (nR (a.d - b.d)).bf, .int .i64 (nR (a.d - b.d)).e]) ∧ Below w1.heap.size w1 w' := fun A cc w1 hT1 hsl => by
  have := iG A 2 cc [a, nR (-b.d)] w1 hT1 hsl (by simpa using ⟨ha, hkb.neg.ok Sd⟩) k (by simpa [cn] using ⟨hka, hkb.neg⟩) Sd;rw [e1] at this;exact this
 refine aj (N := 10) (l := [.agg #[.bool a.neg, .string a.bf, .int .i64 a.e], .agg #[.bool b.neg, .string b.bf, .int .i64 b.e]]) Tryz.func52 rfl rfl (by simp) ?_;refine sr ?_;refine cq hh [_,_,_] ?_;intro b2 w2 hh;refine cq hh [_,_,_] ?_;intro b3 w3 hh;refine bJ hh ?_;intro b4 w4 hh;refine aa (ah ?_);refine aU 3 [[(2, none)], [(3, none)], [(6, some 1)]] [(2, 7), (1, 6), (0, 5)] hh mixed Sf ?_;refine eX 2 [_,_,_] ?_;refine eX 1 [_,_,_] ?_;refine dC (fun _ hj => AP b _ (hT.hp hj.hp) Sd Sd Sd) ?_;refine aR ?_;intro f W hJ hV;have hb_1 := hJ.bl;obtain ⟨v7, v6, v5, _⟩ := hV;replace hh := hJ.hp;refine aX (bp (ae v7 (ae v6 (ae v5 aW)))) ?_;dsimp only [ck];clear hJ;refine u2 ?_;intro b8 w8 hh;refine br hh (hac _ _ _ (hT.hp hh) (hh.aD (i := 0) rfl)) rfl ?_;intro w9 hh;exact Nf
def iX : List Dyadic → Dyadic := fun l => l.foldl (· * ·) 1
theorem s7 (l : List Dyadic) (x : Dyadic) : iX (l ++ [x]) = iX l * x := by simp [iX]
theorem Sz.one : Sz 1 1 := ⟨2, by decide +kernel, Se⟩
theorem Sz.prod {l : List Dyadic} (h : ∀ x ∈ l, Sz k x) : Sz (1 + k * l.length) (iX l) := by
 have : ∀ (n : Nat), n ≤ l.length → Sz (1 + k * n) (iX (l.take n)) := by
  intro n
  induction n with
  | zero => intro _; exact Sz.one
  | succ n ih =>
   intro hn;obtain ⟨x, hx⟩ := av (l := l) (k := n) Sd;rw [ay hx, s7];exact ((ih Sd).mul (h x (Sp hx))).mono (by rw [TZ]; omega)
 have h2 := this l.length (So _);rwa [Vl] at h2
theorem iD (L : Option Addr) (n c : Nat) (l : List NR) (w : World) (hT : dD w) (hS : Sl w L n 3 (aw NR.cells l)) (hl : ∀ a ∈ l, a.ok) (k : Nat) (hk : ∀ a ∈ l, Sz k a.d) (hkn : k * n ≤ 3999980) (hn : n ≤ 1000000) :
  Calls Tryz.prog 48 #[.slice L n c] w fun r w' => r = .returned (.agg #[.bool (nR (iX (l.map NR.d))).neg, .string (nR (iX (l.map NR.d))).bf, .int .i64 (nR (iX (l.map NR.d))).e]) ∧ Below w.heap.size w w' := by
 have hln := hS.bz NR.len Sd;have hh := Hp.start w;refine aj (N := 27) (l := [.slice L n c]) Tryz.func48 rfl rfl (by simp) ?_;refine sr ?_;refine bJ hh ?_;intro b2 w2 hh;refine aa (sr ?_);refine zz ?_;intro w6 hh;refine bJ hh ?_;intro b3 w3 hh;refine bK hh 0 [_,_,_] ?_;intro ws hh;replace hh : Hp _ (.blk _ _ [_, _, _] _ :: _) _ := hh;refine u6 ?_;refine aN [5, 9, 10, 11, 12, 13, 14, 15, 16, 17, 18, 19, 20, 21, 22, 23, 24, 25] 9
  (fun j w' => ∃ (i : Nat) (S : Dyadic), i ≤ n ∧ j = .int .i64 i ∧ S = iX ((l.take i).map NR.d) ∧ Hp w [.blk b3 65 [.bool (nR S).neg, .string (nR S).bf, .int .i64 (nR S).e] (0, 0), .blk b2 65 [.bool false, .string (ByteArray.mk #[]), .int .i64 0] (0, 0)] w')
  (fun j _ => n - (intOf j).toNat) ?_ ?_
 ·exact ⟨0, _, Sn _, rfl, rfl, hh⟩
 ·clear hh;rintro ρ' j w' ⟨i, S, hi, rfl, hS2, hh⟩;by_cases hlt : i < n
  ·obtain ⟨x, hx⟩ := av (l := l) (k := i) Sd;obtain ⟨ad, rfl, hr⟩ := hS.at_ Sd;have hxm := Sp hx;have hS3 : iX ((l.take (i + 1)).map NR.d) = S * x.d := by rw [ay hx, Tt, UO, s7, hS2]
   have hSz : Sz (1 + k * i) S := by
    rw [hS2];have := Sz.prod (k := k) (l := (l.take i).map NR.d) (fun y hy => by
     obtain ⟨a, ha, rfl⟩ := SB.1 hy;exact hk a (Uc ha))
    rw [Sx, SP, Tp Sd] at this;exact this
   have hki : k * i ≤ k * n := SX _ hi;obtain ⟨so1, so2, so3⟩ := hSz.ok Sd;obtain ⟨xo1, xo2, xo3⟩ := hl x hxm;have e1 : l6 ([IR.mk (nR S).neg (nR S).bf, IR.mk x.neg x.bf].map IR.v) = (nR S).i * x.i := by
    simp only [SW, Tx, l6, Int.mul_one]; rfl
   have e2 : Dyadic.ofIntWithPrec ((nR S).i * x.i) (-((nR S).e + x.e)) = S * x.d := by
    have := rp (nR S).i x.i (-(nR S).e) (-x.e);rw [Int.neg_add, ← this];congr 1;exact cn S
   have hac : ∀ (A : Option Addr) (cc : Nat) (w1 : World), Sl w1 A 2 2 (aw IR.cells [IR.mk (nR S).neg (nR S).bf, IR.mk x.neg x.bf]) → Calls Tryz.prog 139 #[.slice A 2 cc] w1 fun e w' => e = .returned (.agg #[.bool (iN ((nR S).i * x.i)), .string (iM ((nR S).i * x.i))]) ∧ Below w1.heap.size w1 w' := fun A cc w1 hsl => by
    have := AA A 2 cc [IR.mk (nR S).neg (nR S).bf, IR.mk x.neg x.bf] w1 hsl Sd (by simp; omega);rw [e1] at this;exact this
   have hmc : ∀ w1, dD w1 → Calls Tryz.prog 137 #[.agg #[.bool (iN ((nR S).i * x.i)), .string (iM ((nR S).i * x.i))], .int .i64 ((nR S).e + x.e)] w1 fun r w' => r = .returned (.agg #[.bool (nR (S * x.d)).neg, .string (nR (S * x.d)).bf, .int .i64 (nR (S * x.d)).e]) ∧ Below w1.heap.size w1 w' := fun w1 hT1 => by
    have hb1 := j0 (nR S).neg (nR S).bf;have hb2 := j0 x.neg x.bf;have hb3 := k6 (nR S).i x.i;have := fO (iN ((nR S).i * x.i)) (iM ((nR S).i * x.i)) ((nR S).e + x.e) w1 hT1 (by rw [dN]; unfold NR.i at hb3 ⊢; omega) Sd Sd;rw [eR, e2] at this;exact this
   refine sr ?_;refine dq ?_;refine bX ?_;refine Cg ?_;refine bJ hh ?_;intro b5 w5 hh;refine bK hh 0 [_,_,_] ?_;intro ws hh;replace hh : Hp _ (.blk _ _ [_, _, _] _ :: _) _ := hh;refine aa ?_;refine aU 11 [[(3, none)], [(13, some 0)], [(5, none)], [(15, some 2)], [(14, some 1), (16, some 3)], [(17, some 4)], [(3, none)], [(19, some 6)], [(5, none)], [(21, some 8)], [(20, some 7), (22, some 9)]] [(10, 23), (9, 22), (8, 21), (7, 20), (6, 19), (5, 18), (4, 17), (3, 16), (2, 15), (1, 14), (0, 13)] hh mixed Sf ?_;refine ek ?_;refine eX 1 [_,_] ?_;refine ek ?_;refine eX 0 [_,_] ?_;refine z7 [_,_,_,_] ?_;refine a8 (i := 5) (Is (.agg #[.bool (iN ((nR S).i * x.i)), .string (iM ((nR S).i * x.i))])) Is.ext ?_ ?_
   ·intro ρ1 w1 hj hR;obtain ⟨A17, c17, h17, s17⟩ := hR.1;exact bA rfl (aZ ak.out (aA h17 a7)) (hac A17 c17 _ s17) (fun _ _ hq => ⟨_, hq.1, hq.2, rfl⟩)
   refine ek ?_;refine gH 1 ?_;refine ek ?_;refine gH 0 ?_;refine uh ?_;refine aR ?_;intro f W hJ hV;have hb_5 := hJ.bl;obtain ⟨v23, v22, v21, v20, v19, v18, v17, v16, v15, v14, v13, _⟩ := hV;obtain ⟨A17, c17, e17, f17⟩ : Rows _ _ _ (f 4) W := v17;replace hh := hJ.hp;refine aX (bp (ae v23 (ae v22 (ae v21 (ae v20 (ae v19 (ae v18 (ae e17 (ae v16 (ae v15 (ae v14 (ae v13 aW)))))))))))) ?_;dsimp only [ck];clear e17 hJ;refine br hh (hmc _ (hT.hp hh)) rfl ?_;intro w24 hh;refine bK hh 1 [_,_,_] ?_;intro ws hh;replace hh : Hp _ (_ :: .blk _ _ [_, _, _] _ :: _) _ := hh;refine fG ?_;refine a9 (mI (az (ai ?_)));replace hh := hh.sub (Th _ _);exact Lm
  ·exact OK
theorem Kz (i p : Int) (n : Nat) : Dyadic.ofIntWithPrec i p ^ n = Dyadic.ofIntWithPrec (i ^ n) (p * n) := by
 induction n with
 | zero => rw [UL]; simp; rfl
 | succ n ih => rw [Dyadic.pow_succ, ih, rp, Int.pow_succ, TX, Int.mul_add]; simp
theorem Pj (i p : Int) : (nR (Dyadic.ofIntWithPrec i p)).bf.size ≤ (bu i.natAbs + 7) / 8 ∧ (i = 0 ∨ -p ≤ (nR (Dyadic.ofIntWithPrec i p)).e ∧ (nR (Dyadic.ofIntWithPrec i p)).e ≤ -p + bu i.natAbs) ∧ (i = 0 → (nR (Dyadic.ofIntWithPrec i p)).e = 0) := by
 by_cases h0 : i = 0
 ·subst h0;rw [kC, mK];exact ⟨Sn _, .inl rfl, fun _ => rfl⟩
 ·have h2 := kQ h0;rw [wk h0, nR];simp only;refine ⟨?_, .inr ⟨Sd, ?_⟩, fun h => absurd h h0⟩
  ·rw [dN];have : bu (i >>> i.trailingZeros).natAbs ≤ bu i.natAbs := by
    apply dt;refine Tk ?_ (cW _);rw [Int.shiftRight_eq_div_pow];exact VD _ _
   omega
  ·have h3 : 2 ^ i.trailingZeros < 2 ^ bu i.natAbs := Tk h2 (cW _);have := (Vw Sd).1 h3;omega
theorem BF (a : NR) (n : Int) (w : World) (hT : dD w) (ha : a.ok) (hs : n.toNat * a.bf.size ≤ 1000000) (hn : n ≤ 1000) :
  Calls Tryz.prog 51 #[.agg #[.bool a.neg, .string a.bf, .int .i64 a.e], .int .i64 n] w fun r w' => r = .returned (.agg #[.bool (nR (a.d ^ n.toNat)).neg, .string (nR (a.d ^ n.toNat)).bf, .int .i64 (nR (a.d ^ n.toNat)).e]) ∧ Below w.heap.size w w' := by
 have hh := Hp.start w;obtain ⟨ha1, ha2, ha3⟩ := ha;obtain ⟨_, fa1, fa2, fa3⟩ := mg (a := a) ⟨ha1, ha2, ha3⟩;have hsz : (nR a.d).bf.size ≤ a.bf.size := by
  have := (Pj a.i (-a.e)).1;have h2 := j0 a.neg a.bf;unfold NR.d NR.i at *;omega
 have hms : n.toNat * (nR a.d).bf.size ≤ n.toNat * a.bf.size := SX _ hsz;have e1 : (if (0 : Int) > n then 0 else n) = (n.toNat : Int) := by split <;> omega
 have hm : n.toNat ≤ 1000 := Sd;have hlo : -18000000 * 1000 ≤ (nR a.d).e * (n.toNat : Int) := by
  have h1 : (-18000000 : Int) * n.toNat ≤ (nR a.d).e * n.toNat := Int.mul_le_mul_of_nonneg_right fa2 Sd;omega
 have hhi : (nR a.d).e * (n.toNat : Int) ≤ 18000000 * 1000 := by
  have h1 : (nR a.d).e * n.toNat ≤ (18000000 : Int) * n.toNat := Int.mul_le_mul_of_nonneg_right fa3 Sd;omega
 have hpc := fun w1 => Bx (nR a.d).neg (nR a.d).bf n w1 Sd Sd Sd;have hmc : ∀ w1, dD w1 → Calls Tryz.prog 137 #[.agg #[.bool (iN (iv (nR a.d).neg (nR a.d).bf ^ n.toNat)), .string (iM (iv (nR a.d).neg (nR a.d).bf ^ n.toNat))], .int .i64 ((nR a.d).e * (n.toNat : Int))] w1 fun r w' => r = .returned (.agg #[.bool (nR (a.d ^ n.toNat)).neg, .string (nR (a.d ^ n.toNat)).bf, .int .i64 (nR (a.d ^ n.toNat)).e]) ∧ Below w1.heap.size w1 w' := fun w1 hT1 => by
  have hb := pf (iv (nR a.d).neg (nR a.d).bf) n.toNat;have hb2 := j0 (nR a.d).neg (nR a.d).bf;have hb3 : n.toNat * bu (iv (nR a.d).neg (nR a.d).bf).natAbs ≤ n.toNat * (8 * (nR a.d).bf.size) := SX _ hb2;rw [Vn] at hb3;have := fO (iN (iv (nR a.d).neg (nR a.d).bf ^ n.toNat)) (iM (iv (nR a.d).neg (nR a.d).bf ^ n.toNat)) ((nR a.d).e * (n.toNat : Int)) w1 hT1 (by rw [dN]; omega) Sd Sd;have e2 : Dyadic.ofIntWithPrec (iv (nR a.d).neg (nR a.d).bf ^ n.toNat) (-((nR a.d).e * (n.toNat : Int))) = a.d ^ n.toNat := by
   have h3 := cn a.d
   conv => rhs; rw [← h3, NR.d, Kz]
   rw [Int.neg_mul]; rfl
  rw [eR, e2] at this;exact this
 refine aj (N := 17) (l := [.agg #[.bool a.neg, .string a.bf, .int .i64 a.e], .int .i64 n]) Tryz.func51 rfl rfl (by simp) ?_;refine sr ?_;refine cq hh [_,_,_] ?_;intro b2 w2 hh;refine bJ hh ?_;intro b4 w4 hh;refine aa (sr ?_);refine cu hh 1 [_,_,_] ?_;refine br hh (ew a _ (hT.hp hh) Sd Sd Sd) rfl ?_;intro w6 hh;refine bK hh 1 [_,_,_] ?_;intro ws hh;replace hh : Hp _ (_ :: .blk _ _ [_, _, _] _ :: _) _ := hh;refine aa (ah ?_);refine aU 9 [[(2, none)], [(7, some 0)], [(1, none)], [(8, some 1), (9, some 2)], [(2, none)], [(11, some 4)], [(1, none)], [(13, some 6)], [(12, some 5), (14, some 7)]] [(8, 15), (7, 14), (6, 13), (5, 12), (4, 11), (3, 10), (2, 9), (1, 8), (0, 7)] hh mixed Sf ?_;refine ek ?_;refine eX 1 [_,_] ?_;refine eH ?_;refine dC (fun _ hj => hpc _) ?_;refine ek ?_;refine gH 1 ?_;refine eH ?_;refine a8 (i := 7) (Is (.int .i64 (n.toNat : Int))) (Is.ext) ?_ ?_
 ·intro ρ1 w1 hj hR;exact gK rfl ((K3 (ρ := ρ1) (x := .tmp 13) (show ρ1 13 = Value.int .i64 n from hR.1) rfl).trans (by rw [e1])) ⟨Below.refl _ _, rfl⟩
 refine OC ?_;refine aR ?_;intro f W hJ hV;have hb_2 := hJ.bl;obtain ⟨v15, v14, v13, v12, v11, v10, v9, v8, v7, _⟩ := hV;replace hh := hJ.hp;refine aX (bp (ae v15 (ae v14 (ae v13 (ae v12 (ae v11 (ae v10 (ae v9 (ae v8 (ae v7 aW)))))))))) ?_;dsimp only [ck];clear hJ;refine br hh (hmc _ (hT.hp hh)) rfl ?_;intro w16 hh;exact IP
def iu (f : Dyadic → Dyadic → Bool) : List Dyadic → Dyadic
 | [] => 0
 | a :: r => r.foldl (fun out a => if f a out then a else out) a
theorem AR (f : Dyadic → Dyadic → Bool) {l : List Dyadic} (h : l ≠ []) (x : Dyadic) : iu f (l ++ [x]) = if f x (iu f l) then x else iu f l := by
 cases l with
 | nil => exact absurd rfl h
 | cons a r =>
  show (r ++ [x]).foldl _ a = _;rw [UI]
  rfl
theorem o0 (L : Option Addr) (n c : Nat) (l : List NR) (g : FuncId) (f : Dyadic → Dyadic → Bool) (w : World) (hT : dD w) (hS : Sl w L n 3 (aw NR.cells l)) (hl : ∀ a ∈ l, a.ok) (hn : n ≤ 1000000) [ak Tryz.prog g]
  (hg : ∀ (a b : NR) (w : World), dD w → a.ok → b.ok → Calls Tryz.prog g #[.agg #[.bool a.neg, .string a.bf, .int .i64 a.e], .agg #[.bool b.neg, .string b.bf, .int .i64 b.e]] w fun r w' => r = .returned (.bool (f a.d b.d)) ∧ Below w.heap.size w w') :
  Calls Tryz.prog 268 #[.slice L n c, .func (.func g) #[] #[]] w fun r w' => r = .returned (.agg #[.bool (nR (iu f (l.map NR.d))).neg, .string (nR (iu f (l.map NR.d))).bf, .int .i64 (nR (iu f (l.map NR.d))).e]) ∧ Below w.heap.size w w' := by
 have hln := hS.bz NR.len Sd;have hh := Hp.start w;refine aj (N := 27) (l := [.slice L n c, .func (.func g) #[] #[]]) Tryz.func268 rfl rfl (by simp) ?_;refine sr ?_;refine bJ hh ?_;intro b4 w4 hh;refine aa (sr ?_);refine bJ hh ?_;intro b5 w5 hh;refine u6 ?_;refine aN [6, 7, 10, 11, 12, 13, 14, 15, 16, 17, 18, 19, 20, 21, 22, 23, 24] 10
  (fun j w' => ∃ (i : Nat) (o : NR), i ≤ n ∧ j = .int .i64 i ∧ o.ok ∧ o.d = iu f ((l.take i).map NR.d) ∧ Hp w [.blk b5 65 [.bool o.neg, .string o.bf, .int .i64 o.e] (0, 0), .blk b4 65 [.bool false, .string (ByteArray.mk #[]), .int .i64 0] (0, 0)] w')
  (fun j _ => n - (intOf j).toNat) ?_ ?_
 ·exact ⟨0, nR 0, Sn _, rfl, (Sz.zero 0).ok Sd, rfl, hh⟩
 ·clear hh;rintro ρ' j w' ⟨i, o, hi, rfl, hok, hod, hh⟩;by_cases hlt : i < n
  ·obtain ⟨x, hx⟩ := av (l := l) (k := i) Sd;obtain ⟨ad, rfl, hr⟩ := hS.at_ Sd;have hxo := hl x (Sp hx);have htk : (l.take (i + 1)).map NR.d = (l.take i).map NR.d ++ [x.d] := by rw [ay hx, Tt, UO]
   by_cases h0 : i = 0
   ·subst h0;refine sr ?_;refine fj ?_;refine Dn ?_;refine Cg ?_;refine bJ hh ?_;intro b7 w7 hh;refine aI ?_;refine bK hh 0 [_,_,_] ?_;intro ws hh;replace hh : Hp _ (.blk _ _ [_, _, _] _ :: _) _ := hh;refine aa (sr (mI ?_));refine cH (mB ?_);refine gS (gS (gS ?_));refine kP ?_;refine fV ?_;refine aa (cT (al ?_));refine cu hh 0 [_,_,_] ?_;refine bK hh 1 [_,_,_] ?_;intro ws hh;replace hh : Hp _ (_ :: .blk _ _ [_, _, _] _ :: _) _ := hh;refine fG ?_;refine a9 (mI (az (ai ?_)));replace hh := hh.sub (Th _ _);refine ⟨⟨1, x, Sd, rfl, hxo, by rw [htk]; rfl, hh⟩, by show n - (0 + 1) < n - 0; omega, ?_⟩;exact eB
   ·have hne : (l.take i).map NR.d ≠ [] := by
     intro h;have := Tm List.length h;rw [Sx, SP, U3] at this;omega
    have hb := AR f hne x.d;rw [← htk, ← hod] at hb;refine sr ?_;refine fj ?_;refine bX ?_;refine Cg ?_;refine bJ hh ?_;intro b7 w7 hh;refine aI ?_;refine bK hh 0 [_,_,_] ?_;intro ws hh;replace hh : Hp _ (.blk _ _ [_, _, _] _ :: _) _ := hh;refine aa (sr (mI ?_));refine cH (mB (gT ?_));refine ix ?_;refine gT ?_;refine cu hh 0 [_,_,_] (gT ?_);refine cu hh 1 [_,_,_] ?_;refine aH rfl rfl ?_;refine fR (hg x o _ (hT.hp hh) hxo hok) ak.out rfl rfl Se ?_;rintro e_ w21 ⟨rfl, hb_⟩;refine ⟨_, rfl, ?_⟩;replace hh := hh.ext hb_
    cases hf : f x.d o.d with
    | true =>
     rw [hf, Sj rfl] at hb;refine fa ?_;refine aa (cT (al ?_));refine cu hh 0 [_,_,_] ?_;refine bK hh 1 [_,_,_] ?_;intro ws hh;replace hh : Hp _ (_ :: .blk _ _ [_, _, _] _ :: _) _ := hh;refine fG ?_;refine a9 (mI (az (ai ?_)));replace hh := hh.sub (Th _ _);refine ⟨⟨i + 1, x, Sd, rfl, hxo, hb.symm, hh⟩, by show n - (i + 1) < n - i; omega, ?_⟩;exact eB
    | false =>
     rw [hf] at hb;refine fa ?_;refine yP ?_;refine a9 (mI (az (ai ?_)));replace hh := hh.sub (Th _ _);refine ⟨⟨i + 1, o, Sd, rfl, hok, hb.symm, hh⟩, by show n - (i + 1) < n - i; omega, ?_⟩;exact eB
  ·rw [Su Sd] at hod;obtain ⟨o1, o2, o3⟩ := hok;refine sr ?_;refine mq ?_;refine cu hh 0 [_,_,_] ?_;refine br hh (ew o _ (hT.hp hh) Sd Sd Sd) rfl ?_;intro w26 hh;rw [hod];exact Nf
theorem JW (x y : Dyadic) : kS x y < 0 ↔ x < y := by
 unfold kS;split
 ·rename_i h; simp [h]
 ·rename_i h; split <;> simp [h]
theorem Jz (x y : Dyadic) : 0 < kS x y ↔ y < x := by
 unfold kS;split
 ·rename_i h;have : ¬ y < x := by grind
  simp [this]
 ·split <;> rename_i h <;> simp [h]
theorem ye (a b : NR) (w : World) (hT : dD w) (ha : a.ok) (hb : b.ok) :
  Calls Tryz.prog 269 #[.agg #[.bool a.neg, .string a.bf, .int .i64 a.e], .agg #[.bool b.neg, .string b.bf, .int .i64 b.e]] w fun r w' => r = .returned (.bool (decide (a.d < b.d))) ∧ Below w.heap.size w w' := by
 have hh := Hp.start w;have e1 : decide (kS a.d b.d < 0) = decide (a.d < b.d) := decide_eq_decide.2 (JW _ _);refine aj (N := 9) (l := [.agg #[.bool a.neg, .string a.bf, .int .i64 a.e], .agg #[.bool b.neg, .string b.bf, .int .i64 b.e]]) Tryz.func269 rfl rfl (by simp) ?_;refine sr ?_;refine cq hh [_,_,_] ?_;intro b2 w2 hh;refine cq hh [_,_,_] ?_;intro b3 w3 hh;refine aB (aa (sr ?_));refine cu hh 1 [_,_,_] ?_;refine cu hh 0 [_,_,_] ?_;refine br hh (nJ a b _ (hT.hp hh) ha hb) rfl ?_;intro w7 hh;refine a6 (aB (aa (au ?_)));refine da ?_;rw [e1];exact ⟨rfl, hh.below⟩
theorem yf (a b : NR) (w : World) (hT : dD w) (ha : a.ok) (hb : b.ok) :
  Calls Tryz.prog 270 #[.agg #[.bool a.neg, .string a.bf, .int .i64 a.e], .agg #[.bool b.neg, .string b.bf, .int .i64 b.e]] w fun r w' => r = .returned (.bool (decide (b.d < a.d))) ∧ Below w.heap.size w w' := by
 have hh := Hp.start w;have e1 : decide (0 < kS a.d b.d) = decide (b.d < a.d) := decide_eq_decide.2 (Jz _ _);refine aj (N := 9) (l := [.agg #[.bool a.neg, .string a.bf, .int .i64 a.e], .agg #[.bool b.neg, .string b.bf, .int .i64 b.e]]) Tryz.func270 rfl rfl (by simp) ?_;refine sr ?_;refine cq hh [_,_,_] ?_;intro b2 w2 hh;refine cq hh [_,_,_] ?_;intro b3 w3 hh;refine aB (aa (sr ?_));refine cu hh 1 [_,_,_] ?_;refine cu hh 0 [_,_,_] ?_;refine br hh (nJ a b _ (hT.hp hh) ha hb) rfl ?_;intro w7 hh;refine cg (aB (aa (au ?_)));refine da ?_;rw [e1];exact ⟨rfl, hh.below⟩
theorem AJ (L : Option Addr) (n c : Nat) (l : List NR) (w : World) (hT : dD w) (hS : Sl w L n 3 (aw NR.cells l)) (hl : ∀ a ∈ l, a.ok) (hn : n ≤ 1000000) :
  Calls Tryz.prog 256 #[.slice L n c] w fun r w' => r = .returned (.agg #[.bool (nR (iu (fun x y => decide (x < y)) (l.map NR.d))).neg, .string (nR (iu (fun x y => decide (x < y)) (l.map NR.d))).bf, .int .i64 (nR (iu (fun x y => decide (x < y)) (l.map NR.d))).e]) ∧ Below w.heap.size w w' := by
 have hh := Hp.start w;refine aj (N := 5) (l := [.slice L n c]) Tryz.func256 rfl rfl (by simp) ?_;refine sr ?_;refine bJ hh ?_;intro b2 w2 hh;refine aa (sr (mL ?_));refine br hh (o0 L n c l 269 (fun x y => decide (x < y)) _ (hT.hp hh) (hS.ext hh.below) hl hn ye) rfl ?_;intro w4 hh;exact IP
theorem Ad (L : Option Addr) (n c : Nat) (l : List NR) (w : World) (hT : dD w) (hS : Sl w L n 3 (aw NR.cells l)) (hl : ∀ a ∈ l, a.ok) (hn : n ≤ 1000000) :
  Calls Tryz.prog 257 #[.slice L n c] w fun r w' => r = .returned (.agg #[.bool (nR (iu (fun x y => decide (y < x)) (l.map NR.d))).neg, .string (nR (iu (fun x y => decide (y < x)) (l.map NR.d))).bf, .int .i64 (nR (iu (fun x y => decide (y < x)) (l.map NR.d))).e]) ∧ Below w.heap.size w w' := by
 have hh := Hp.start w;refine aj (N := 5) (l := [.slice L n c]) Tryz.func257 rfl rfl (by simp) ?_;refine sr ?_;refine bJ hh ?_;intro b2 w2 hh;refine aa (sr (mL ?_));refine br hh (o0 L n c l 270 (fun x y => decide (y < x)) _ (hT.hp hh) (hS.ext hh.below) hl hn yf) rfl ?_;intro w4 hh;exact IP
theorem AD {x y : Dyadic} (h : x < y) : kS x y = -1 := by rw [kS, Sj h]
theorem Ah {x y : Dyadic} (h : y < x) : kS x y = 1 := by
 have : ¬ x < y := by grind
 rw [kS, Si this, Sj h]
theorem Fh (x : Dyadic) : kS x x = 0 := by
 have : ¬ x < x := by grind
 rw [kS, Si this, Si this]
theorem OY (x y : Dyadic) : x < y ∨ x = y ∨ y < x := by
 rcases Classical.em (x < y) with h | h
 ·exact .inl h
 ·rcases Classical.em (y < x) with h2 | h2
  ·exact .inr (.inr h2)
  ·exact .inr (.inl (by grind))
theorem Sl.Pc {A : Option Addr} {xs : List Nat} (h : Sl w A n 1 (gl xs)) (hk : k ≤ n) : Sl w A k 1 (gl (xs.take k)) := by
 have hl := h.1;rw [cz] at hl;refine ⟨by rw [cz, SP]; omega, fun h0 => ?_⟩;obtain ⟨ad, he, hr⟩ := h.2 Sd;exact ⟨ad, he, by rw [yM]; exact hr.take k⟩
theorem Sl.NS {A : Option Addr} {xs : List Nat} (h : Sl w A n 1 (gl xs)) : Sl w A (dH xs).length 1 (gl (dH xs)) := by
 have hl := h.1;rw [cz] at hl;have := fk xs;have h2 := h.Pc (k := (dH xs).length) Sd;rwa [← jA] at h2
theorem Hp.MY {H : List HE} {A : Option Addr} {t : TypeId} {xs : List Nat} (h : Hp w0 (.row A n c t 1 (gl xs) :: H) w) (hl : xs.length = n) : Hp w0 (.row A (dH xs).length c t 1 (gl (dH xs)) :: H) w := by
 have h1 := fk xs;have h2 := h.AY (k := (dH xs).length) Sd;rw [SI, ← yM, ← jA] at h2;exact h2
theorem k0 (A : Option Addr) (n c : Nat) (xs : List Nat) (w : World) (hx : Sl w A n 1 (gl xs)) (hc : n ≤ c) (hn : n ≤ 1000000000000) :
  Calls Tryz.prog 243 #[.slice A n c] w fun e w' => e = .returned (.slice A (dH xs).length c) ∧ Below w.heap.size w w' := by
 have hlen : xs.length = n := by have := hx.1; rw [cz] at this; omega
 have hh := Hp.start w;refine aj (N := 21) (l := [.slice A n c]) Tryz.func243 rfl rfl (by simp) ?_;refine sr (aL (aa (sr (mL (aK (aI (aa (ah (ao ?_)))))))));refine aN [3, 6, 7, 8, 9, 10, 11, 12, 13, 14, 15, 16, 17] 3
  (fun v w' => ∃ k : Nat, k ≤ n ∧ v = .int .i64 k ∧ dH (xs.take k) = dH xs ∧ w' = w)
  (fun v _ => (intOf v).toNat) ?_ ?_
 ·exact ⟨n, So _, rfl, by rw [Su Sd], rfl⟩
 ·rintro ρ' v w' ⟨k, hk, rfl, hcut, rfl⟩;by_cases h0 : k = 0
  ·subst h0;refine ah (sr (mI ?_));refine cg (mB ?_);refine gS (gS (gS (gS ?_)));refine kP ?_;refine gS ?_;refine fa ?_;refine aa (cF (aV (aE (aE (bo (ai (sr (mL (mI ?_)))))))));refine o6 (h := 0) bq.out aP.size rfl rfl Sd Sd Se ?_;refine aL (aa (au ?_));refine da ?_;rw [← hcut];exact ⟨rfl, hh.below⟩
  ·obtain ⟨j, rfl⟩ : ∃ j, k = j + 1 := ⟨k - 1, Sd⟩;obtain ⟨d, hd⟩ := av (l := xs) (k := j) Sd;obtain ⟨ad, rfl, hr⟩ := hx.at_ Sd;have hd2 := qd hd;rw [ay hd] at hcut;by_cases hz : d = 0
   ·subst hz;rw [tS] at hcut;refine ah (sr (mI ?_));refine cg (mB (gT (mL (gT (mI (gT ?_))))));refine eu (gT ?_);refine oL ?_;refine gT ?_;refine iy ?_;refine gT ?_;refine cH ?_;refine fV ?_;refine aa (cT (aq (ai (ao (al (mI ?_))))));refine eu (aI (az (bg (ai ?_))));refine ⟨⟨j, Sd, by show Value.int _ _ = Value.int _ _; congr 1; omega, hcut, rfl⟩, by show (((j + 1 : Nat) : Int) - 1).toNat < (((j + 1 : Nat) : Int)).toNat; omega, ?_⟩;exact eB
   ·rw [vz hz] at hcut;refine ah (sr (mI ?_));refine cg (mB (gT (mL (gT (mI (gT ?_))))));refine eu (gT ?_);refine oL ?_;refine gT ?_;refine iy ?_;refine gT ?_;refine cH ?_;refine fV ?_;refine aa (cF (aV (aE (aE (bo (ai (sr (mL (mI ?_)))))))));refine o6 (h := j + 1) bq.out aP.size rfl rfl Sd Sd Se ?_;refine aL (aa (au ?_));exact PK
theorem Et {s : List UInt8} {c : UInt8} (hc : (yp s)[j]? = some c.toNat) (hk : k < 8) : c.toNat / 2 ^ k % 2 = bn s / 2 ^ (8 * j + k) % 2 := by
 have h1 := rF (wj s) hc;rw [← h1, ← bn, SL, S7, show (2 ^ 8 : Nat) = 256 from rfl, ← T2];generalize bn s / 256 ^ j = m;have e : (256 : Nat) = 2 ^ k * 2 ^ (8 - k) := by rw [← SL, show k + (8 - k) = 8 by omega]
 have e2 : 2 ^ (8 - k) = 2 * 2 ^ (7 - k) := by rw [← Nat.pow_succ']; congr 1; omega
 rw [e, Nat.mod_mul_right_div_self, e2, Nat.mod_mul_right_mod]
theorem eQ (a : ByteArray) (w : World) (ha : a.size ≤ 1000000000) :
  Calls Tryz.prog 218 #[.string a] w fun e w' => ∃ A c, e = .returned (.slice A (aQ 2 (bN a)).length c) ∧ w'.ownsRow w.heap.size 5 1 (.slice A (aQ 2 (bN a)).length c) (aQ 2 (bN a)).length (gl (aQ 2 (bN a))) ∧ Below w.heap.size w w' := by
 have hsz := dE a;have hh := Hp.start w;refine aj (N := 28) (l := [.string a]) Tryz.func218 rfl rfl (by simp) ?_;refine sr (aL (aa (sr (aL (aa (ah (sr (mS ?_))))))));refine bD bq.out rfl Se ?_;refine eu (aI (aa (ao ?_)));replace hh := hh.dL 5 1;refine bP [3, 4, 5, 9, 10, 11, 12, 13, 14, 15, 16, 17, 18, 19, 20, 21, 22, 23, 24, 25] 3 4
  (fun o v w' => ∃ (j : Nat) (A : Option Addr) (c : Nat), j ≤ a.size ∧ v = .int .i64 ((a.size : Int) - 1 - j) ∧ o = .slice A (8 * j) c ∧ Hp w [.row A (8 * j) c 5 1 (gl (bI 2 (8 * j) (bN a)))] w')
  (fun _ v _ => (intOf v + 1).toNat) ?_ ?_
 ·exact ⟨0, none, 0, Sn _, by show Value.int _ _ = Value.int _ _; congr 1; omega, rfl, hh⟩
 ·clear hh;rintro ρ' o v w' ⟨j, A, c, hj, rfl, rfl, hh⟩;by_cases hlt : j < a.size
  ·obtain ⟨ch, hc⟩ := av (l := a.data.toList) (k := ((a.size : Int) - 1 - j).toNat) Sd;have hlo := HS (s := a.data.toList) (i := j) (c := ch) Sd (by rw [← hc]; congr 1; omega);have hc8 := ch.toNat_lt;refine ah (sr (mI ?_));refine ee (aa (cT (aq (ai (ah (ao (sr (aI (aa (ao ?_))))))))));refine bP [3, 5, 13, 14, 15, 16, 17, 18, 19, 20, 21, 22, 23, 24, 25] 3 5
    (fun o v w' => ∃ (k : Nat) (A : Option Addr) (c : Nat), k ≤ 8 ∧ v = .int .i64 (k : Int) ∧ o = .slice A (8 * j + k) c ∧ Hp w [.row A (8 * j + k) c 5 1 (gl (bI 2 (8 * j + k) (bN a)))] w')
    (fun _ v _ => 8 - (intOf v).toNat) ?_ ?_
   ·exact ⟨0, A, c, Sn _, rfl, rfl, hh⟩
   ·clear hh;rintro ρ2 o v w2 ⟨k, A2, c2, hk, rfl, rfl, hh⟩;by_cases hk8 : k < 8
    ·have hst := Et hlo hk8;have hand : ∀ z : Nat, z &&& 1 = z % 2 := fun z => Nat.and_one_is_mod z;have hcl : ch.toNat / 2 ^ (k : Int).toNat < 256 := Tk (UB _ _) hc8;refine ah (sr (mI ?_));refine a6 (aa (cT (aq (ai (ah (ao (al (mL (mS (mI ?_))))))))));refine jN ?_;refine mI ?_;refine Bw rfl rfl Sd Se ?_;refine Ip ?_;refine qI ?_;intro b24 w24 hh;refine qp ?_;intro A25 c25 w25 hh;simp only [Sy, Tb] at hh;replace hh := hh.sub (Th _ _);refine aL (az (bg (ai (al (mI ?_)))));refine a9 (aI (az (ai ?_)));have e1 : gl (bI 2 (8 * j + k) (bN a)) ++ [Value.int .u8 ((ch.toNat / 2 ^ (k : Int).toNat &&& 1 : Nat) : Int)] = gl (bI 2 (8 * j + (k + 1)) (bN a)) := by
      rw [hand, T7, hst, ← U7, kO, tE]; rfl
     rw [e1] at hh;refine ⟨⟨k + 1, A25, c25, Sd, rfl, rfl, hh⟩, by show 8 - (k + 1) < 8 - k; omega, ?_⟩;exact eB
    ·obtain rfl : k = 8 := Sd;refine ah (sr (mI ?_));refine a6 (aa (cF (aV (aE (aE (bo (bg (ai (al (mI ?_))))))))));refine eu (aI (az (ai ?_)));refine ⟨⟨j + 1, A2, c2, Sd, by show Value.int _ _ = Value.int _ _; congr 1; omega, rfl, hh⟩, by show ((a.size : Int) - 1 - j - 1 + 1).toNat < ((a.size : Int) - 1 - j + 1).toNat; omega, ?_⟩;exact eB
  ·obtain rfl : j = a.size := Sd;refine ah (sr (mI ?_));refine ee (aa (cF (aV (aE (aE (bo (ai (sr (mL ?_)))))))));refine br hh (k0 _ _ _ (bI 2 (8 * a.size) (bN a)) _ (hh.aD (i := 0) rfl) (hh.fI (i := 0) rfl) Sd) rfl ?_;intro w27 hh;refine aL (aa (au ?_));refine da ?_;have hb := vc a;rw [show (256 : Nat) = 2 ^ 8 from rfl, ← S7] at hb;have hd : dH (bI 2 (8 * a.size) (bN a)) = aQ 2 (bN a) := by
    rw [gZ Sd (fT Sd _ _), cU hb]
   have h1 := (Hp.MY (xs := bI 2 (8 * a.size) (bN a)) hh (aJ _ _)).at_ (i := 0) rfl;exact Ke
theorem J7 {l : List Nat} {v : Nat} (h : j < l.length) : l.reverse.set (l.length - 1 - j) v = (l.set j v).reverse := by
 apply S0;intro i
 rcases S6 i l.length with hi | hi
 ·rw [TI (by rw [TL]; exact hi), TL, Tz, Tz, TI hi, SZ];by_cases he : l.length - 1 - j = i
  ·rw [Sj he, Sj Sd, Sj Sd, Sj h]
  ·rw [Si he, Si Sd]
 ·rw [Sw (by simp; omega), Sw (by simp; omega)]
theorem BG {i b : Nat} (P : Nat) (hP : P < 2 ^ i) (hb : b < 2) (hk : i / 8 < k) : P / 256 ^ (i / 8) % 256 + b * 2 ^ (i % 8) < 256 ∧ (bI 256 k P).set (i / 8) (P / 256 ^ (i / 8) % 256 + b * 2 ^ (i % 8)) = bI 256 k (P + 2 ^ i * b) := by
 have hp : 2 ^ i = 256 ^ (i / 8) * 2 ^ (i % 8) := by
  rw [show (256 : Nat) = 2 ^ 8 from rfl, ← S7, ← SL]; congr 1; omega
 have h1 : P / 256 ^ (i / 8) < 2 ^ (i % 8) := by
  rw [TO (SV Sd), SS, ← hp]; exact hP
 have h2 : 2 ^ (i % 8) ≤ 128 := by
  have := S4 (show 0 < 2 by omega) (show i % 8 ≤ 7 by omega);omega
 have h3 : P / 256 ^ (i / 8) % 256 < 2 ^ (i % 8) := Tk (Nat.mod_le _ _) h1;have h4 : b * 2 ^ (i % 8) ≤ 1 * 2 ^ (i % 8) := S9 _ Sd;have h5 : 2 ^ i * b = 256 ^ (i / 8) * (b * 2 ^ (i % 8)) := by rw [hp, Ti, SS b]
 refine ⟨Sd, ?_⟩;rw [h5];refine om Sd hk ?_ Sd;rw [← h5];have h6 : 2 ^ i * b ≤ 2 ^ i * 1 := SX _ Sd;have h7 : 2 ^ (i + 1) ≤ 256 ^ k := by
  rw [show (256 : Nat) = 2 ^ 8 from rfl, ← S7];exact S4 Sd Sd
 rw [Ta] at h7;omega
theorem gY (A : Option Addr) (n c : Nat) (xs : List Nat) (w : World) (hx : Sl w A n 1 (gl xs)) (hd : Dg 2 xs) (hc : n ≤ c) (hn : n ≤ 100000000000) :
  Calls Tryz.prog 237 #[.slice A n c] w fun e w' => e = .returned (.string (sN (bk 2 xs))) ∧ Below w.heap.size w w' := by
 have hl := hx.1;rw [cz] at hl;have hcl := fk xs;have hcx := hx.NS;have hcan := gZ Sd hd;have hlen := Ak (bk 2 xs);rw [hcan] at hcl hcx;have hcd := (dI (B := 2) Sd (bk 2 xs)).1;have hcv := dJ (B := 2) Sd (bk 2 xs);have hbl : (aQ 2 (bk 2 xs)).length = bu (bk 2 xs) := rfl;have hh := Hp.start w;refine aj (N := 38) (l := [.slice A n c]) Tryz.func237 rfl rfl (by simp) ?_;refine sr (aS (aa (sr (mL ?_))));refine br hh (k0 _ _ _ xs _ hx hc Sd) rfl ?_;intro w6 hh;rw [hcan];generalize bk 2 xs = M at *;generalize aQ 2 M = xs' at *;refine aL (aa (sr (mL (aK ?_))));refine a9 ?_;refine kT ?_;refine gD (n := (xs'.length + 7) / 8) hh rfl rfl Sd Sd bq.out aP.out rfl Sd Sd Se ?_;intro b11 w11 hh;refine aL (aa (ah (sr (aI (aa (ao ?_))))));rw [o4] at hh;refine aN [4, 12, 13, 14, 15, 16, 17, 18, 19, 20, 21, 22, 23, 24, 25, 26, 27, 28, 29, 30, 31, 32, 33, 34, 35] 4
  (fun v w' => ∃ i : Nat, i ≤ xs'.length ∧ v = .int .i64 i ∧ Hp w [.row (some ⟨b11, 0, none⟩) ((xs'.length + 7) / 8) ((xs'.length + 7) / 8) 5 1 (gl (bI 256 ((xs'.length + 7) / 8) (bk 2 (xs'.take i))).reverse)] w')
  (fun v _ => xs'.length - (intOf v).toNat) ?_ ?_
 ·exact ⟨0, Sn _, rfl, by rw [UF, bk, qk, List.reverse_replicate]; exact hh⟩
 ·clear hh;rintro ρ' v w' ⟨i, hi, rfl, hh⟩;by_cases hlt : i < xs'.length
  ·obtain ⟨d, hdi⟩ := av (l := xs') (k := i) Sd;obtain ⟨ad, rfl, hr⟩ := hcx.at_ Sd;have hd2 := qd hdi;have hdw := hcd.at_ hdi;have hP := ij (hcd.take i);rw [SP, Tp Sd] at hP;obtain ⟨s1, s2⟩ := BG (k := (xs'.length + 7) / 8) (bk 2 (xs'.take i)) hP hdw Sd;have hg : (bI 256 ((xs'.length + 7) / 8) (bk 2 (xs'.take i))).reverse[(xs'.length + 7) / 8 - 1 - i / 8]? = some (bk 2 (xs'.take i) / 256 ^ (i / 8) % 256) := by
    rw [TI (by rw [aJ]; omega), aJ, show (xs'.length + 7) / 8 - 1 - ((xs'.length + 7) / 8 - 1 - i / 8) = i / 8 by omega];exact ic _ _ _ Sd
   have hg2 := qd hg;have e1 : ((i : Int) % 8).toNat = i % 8 := Sd;have hset := J7 (l := bI 256 ((xs'.length + 7) / 8) (bk 2 (xs'.take i))) (j := i / 8) (v := bk 2 (xs'.take i) / 256 ^ (i / 8) % 256 + d * 2 ^ (i % 8)) (by rw [aJ]; omega);rw [aJ, s2] at hset;refine ah (sr (mI (mL (aK ?_))));refine B7 ?_;refine aU 16 [[(3, none)], [(3, none)], [(19, some 1)], [(20, some 2)], [(4, none)], [(22, some 4)], [(21, some 3), (23, some 5)], [(18, some 0), (24, some 6)], [(25, some 7)], [(0, none)], [(4, none)], [(27, some 9), (28, some 10)], [(29, some 11)], [(4, none)], [(31, some 13)], [(30, some 12), (32, some 14)]] [(15, 33), (14, 32), (13, 31), (12, 30), (11, 29), (10, 28), (9, 27), (8, 26), (7, 25), (6, 24), (5, 23), (4, 22), (3, 21), (2, 20), (1, 19), (0, 18)] hh mixed Sf ?_;refine iw ?_;refine iw ?_;refine GN ?_;refine Be ?_;refine eH ?_;refine bB (i := 5) (fun ρ1 w1 hj hR => sI (show ρ1 22 = Value.int _ _ from hR.1) rfl Sd Sd Sd) ?_;refine Be ?_;refine Df ((xs'.length + 7) / 8 - 1 - i / 8) ?_;refine bB (i := 8) (fun ρ1 w1 hj hR => ju aP.out (show ρ1 25 = Value.pointer _ from hR.1) (hj.hp.gk (i := 0) rfl (by rw [SI]; exact hg2))) ?_;refine iw ?_;refine eH ?_;refine qe (i) ?_
   refine wJ (fun _ hj => (hr.ext hj.hp.below).DB hd2) ?_;refine eH ?_;refine bB (i := 14) (fun ρ1 w1 hj hR => pF (show ρ1 31 = Value.int _ _ from hR.1) rfl Sd Sd) ?_;refine bB (i := 15) (fun ρ1 w1 hj hR => wR (show ρ1 30 = Value.int _ _ from hR.1) (show ρ1 32 = Value.int _ _ from hR.2.1) Sd) ?_;refine aR ?_;intro f W hJ hV;have hb_6 := hJ.bl;obtain ⟨v33, v32, v31, v30, v29, v28, v27, v26, v25, v24, v23, v22, v21, v20, v19, v18, _⟩ := hV;replace hh := hJ.hp;refine aX (bp (ae v33 (ae v32 (ae v31 (ae v30 (ae v29 (ae v28 (ae v27 (ae v26 (ae v25 (ae v24 (ae v23 (ae v22 (ae v21 (ae v20 (ae v19 (ae v18 aW))))))))))))))))) ?_;dsimp only [ck];clear hJ;refine il rfl rfl Se ?_;refine cG (k := (xs'.length + 7) / 8 - 1 - i / 8) bq.out aP.size rfl rfl Sd Sd Se ?_;refine bY hh (i := 0) (vs := [_]) rfl rfl (cJ rfl) rfl aP.out rfl (by rw [cz, SZ, aJ]; omega) rfl ?_;intro ws hh;simp only [Sy] at hh;rw [e1, SY (show d * 2 ^ (i % 8) < 256 by omega), SY s1, SI, cB (by rw [cz, SZ, aJ]; omega), oM, hset, ← fC hdi] at hh;refine az (bg (ai (al (mI ?_))));refine a9 (aI (az (ai ?_)))
   refine ⟨⟨i + 1, Sd, rfl, hh⟩, by show xs'.length - (i + 1) < xs'.length - i; omega, ?_⟩;exact eB
  ·obtain rfl : i = xs'.length := Sd;rw [Vl, hcv, hbl] at hh;have hfin : gl (bI 256 ((bu M + 7) / 8) M).reverse = nQ (sb M) := by
    rw [← hlen];exact Px
   rw [hfin, ← hbl] at hh;refine ah (sr (mI (mL (aK ?_))));refine a6 (aa (cF (aV (aE (aE (bo (ai (sr (mL ?_)))))))));exact LF
theorem Kk {xs : List Nat} (h : Dg 2 xs) (i : Nat) : bk 2 xs / 2 ^ i % 2 = (xs[i]?).getD 0 := by
 cases hi : xs[i]? with
 | some d => exact rF h hi
 | none =>
  rw [tI h (Vz.1 hi) Sd]; rfl
theorem iP (A : Option Addr) (n c i : Nat) (xs : List Nat) (w : World) (hx : Sl w A n 1 (gl xs)) (hd : Dg 2 xs) (hn : n ≤ 1000000000000) (hi : i ≤ 1000000000000) :
  Calls Tryz.prog 259 #[.slice A n c, .int .i64 (i : Int)] w fun e w' => e = .returned (.int .u8 ((bk 2 xs / 2 ^ i % 2 : Nat) : Int)) ∧ Below w.heap.size w w' := by
 have hl := hx.1;rw [cz] at hl;have hh := Hp.start w;rw [Kk hd];by_cases hlt : i < n
 ·obtain ⟨d, hdi⟩ := av (l := xs) (k := i) Sd;obtain ⟨ad, rfl, hr⟩ := hx.at_ Sd;have hd2 := qd hdi;rw [hdi];refine aj (N := 13) (l := [.slice (some ad) n c, .int .i64 (i : Int)]) Tryz.func259 rfl rfl (by simp) ?_;refine sr (aI (aa (ah (sr (mI (mL (aK ?_)))))));refine a6 (aa (cT (sr (mL (mI ?_)))));refine bX ?_;refine iy ?_;refine aI (aa (au (aG ?_)));refine da ?_;exact ⟨rfl, hh.below⟩
 ·rw [Sw Sd];refine aj (N := 13) (l := [.slice A n c, .int .i64 (i : Int)]) Tryz.func259 rfl rfl (by simp) ?_;refine sr (aI (aa (ah (sr (mI (mL (aK ?_)))))));refine a6 (aa (cF (aq (ai (sr (aI (aa (au ?_))))))));refine da ?_;exact ⟨rfl, hh.below⟩
theorem lG (X i : Nat) : X / 2 ^ i = 2 * (X / 2 ^ (i + 1)) + X / 2 ^ i % 2 := by
 rw [Ta, ← T2]; omega
theorem uq {X Y : Nat} (h : X / 2 ^ k < Y / 2 ^ k) : X < Y := by
 refine U6 fun h2 => ?_;have := Nat.div_le_div_right (c := 2 ^ k) h2;omega
theorem ml (A B : Option Addr) (n c m c' : Nat) (xs ys : List Nat) (w : World) (hx : Sl w A n 1 (gl xs)) (hy : Sl w B m 1 (gl ys)) (hdx : Dg 2 xs) (hdy : Dg 2 ys) (hn : n ≤ 100000000000) (hm : m ≤ 100000000000) :
  Calls Tryz.prog 258 #[.slice A n c, .slice B m c'] w fun e w' => e = .returned (.int .i64 (kF (bk 2 xs) (bk 2 ys))) ∧ Below w.heap.size w w' := by
 have hlx := hx.1;have hly := hy.1;rw [cz] at hlx hly;have hh := Hp.start w;have e1 : (if (m : Int) > (n : Int) then (m : Int) else (n : Int)) - 1 = ((max n m : Nat) : Int) - 1 := by split <;> omega
 refine aj (N := 30) (l := [.slice A n c, .slice B m c']) Tryz.func258 rfl rfl (by simp) ?_;refine sr (aI (aa (ah (sr (mL (aK (mL (aK ?_))))))));refine kI rfl rfl Se ?_;refine eu (aI (aa (ao ?_)));rw [e1];refine aN [4, 5, 12, 13, 14, 15, 16, 17, 18, 19, 20, 21, 22, 23, 24, 25, 26, 27, 28, 29] 5
  (fun v w' => ∃ k : Nat, k ≤ max n m ∧ v = .int .i64 ((k : Int) - 1) ∧ bk 2 xs / 2 ^ k = bk 2 ys / 2 ^ k ∧ Hp w [] w')
  (fun v _ => (intOf v + 1).toNat) ?_ ?_
 ·exact ⟨max n m, So _, rfl, by rw [tI hdx Sd Sd, tI hdy Sd Sd], hh⟩
 ·clear hh;rintro ρ' v w' ⟨k, hk, rfl, heq, hh⟩;by_cases h0 : k = 0
  ·subst h0;refine ah (sr (mI ?_));refine ee (aa (cF (aV (aE (aE (bo (ai (sr (aI (aa (au ?_)))))))))));refine da ?_;rw [UP, Nat.div_one, Nat.div_one] at heq;exact ⟨by rw [CO heq], hh.below⟩
  ·obtain ⟨j, rfl⟩ : ∃ j, k = j + 1 := ⟨k - 1, Sd⟩;have hj : ((j + 1 : Nat) : Int) - 1 = (j : Int) := Sd;have hXb := lG (bk 2 xs) j;have hYb := lG (bk 2 ys) j;by_cases hlt : bk 2 xs / 2 ^ j % 2 < bk 2 ys / 2 ^ j % 2
   ·have hf : bk 2 xs < bk 2 ys := uq (k := j) Sd;rw [hj];refine ah (sr (mI ?_));refine GK ?_;refine yC ?_;intro w18 hh;refine mL (mI ?_);refine yD ?_;intro w21 hh;refine a6 (aa (cT (sr (aI (aa (au (aG (bQ (aG (aG (bQ (aG ?_))))))))))));refine da ?_;exact ⟨by rw [k8 hf], hh.below⟩
   ·by_cases hgt : bk 2 ys / 2 ^ j % 2 < bk 2 xs / 2 ^ j % 2
    ·have hf : bk 2 ys < bk 2 xs := uq (k := j) Sd;rw [hj];refine ah (sr (mI ?_));refine GK ?_;refine yC ?_;intro w18 hh;refine mL (mI ?_);refine yD ?_;intro w21 hh;refine a6 (aa (cF (aq (ai (sr (mL (mI ?_)))))));refine yC ?_;intro w25 hh;refine mL (mI ?_);refine yD ?_;intro w28 hh;refine cg (aa (cT (sr (aI (aa (au (bQ (aG (aG (bQ (aG ?_)))))))))));refine da ?_;exact ⟨by rw [wM hf], hh.below⟩
    ·rw [hj];refine ah (sr (mI ?_));refine GK ?_;refine yC ?_;intro w18 hh;refine mL (mI ?_);refine yD ?_;intro w21 hh;refine a6 (aa (cF (aq (ai (sr (mL (mI ?_)))))));refine yC ?_;intro w25 hh;refine mL (mI ?_);refine yD ?_;intro w28 hh;refine cg (aa (cF (aq (bg (ai (al (mI ?_)))))));refine eu (aI (az (ai ?_)));refine ⟨⟨j, Sd, rfl, Sd, hh⟩, by show ((j : Int) - 1 + 1).toNat < ((j : Int) + 1).toNat; omega, ?_⟩;exact eB
theorem KP (S T i : Nat) : (S + T) / 2 ^ i % 2 = (S / 2 ^ i % 2 + (S % 2 ^ i + T % 2 ^ i) / 2 ^ i + T / 2 ^ i % 2) % 2 ∧ (S % 2 ^ (i + 1) + T % 2 ^ (i + 1)) / 2 ^ (i + 1) = (S / 2 ^ i % 2 + (S % 2 ^ i + T % 2 ^ i) / 2 ^ i + T / 2 ^ i % 2) / 2 ∧ (S % 2 ^ i + T % 2 ^ i) / 2 ^ i ≤ 1 := by
 have hS := TY S (2 ^ i);have hT := TY T (2 ^ i);have hp : 0 < 2 ^ i := SV Sd;have hS2 : S % 2 ^ (i + 1) = S % 2 ^ i + 2 ^ i * (S / 2 ^ i % 2) := by rw [Ta, Nat.mod_mul]
 have hT2 : T % 2 ^ (i + 1) = T % 2 ^ i + 2 ^ i * (T / 2 ^ i % 2) := by rw [Ta, Nat.mod_mul]
 have hSl := SO S hp;have hTl := SO T hp;have hc := TY (S % 2 ^ i + T % 2 ^ i) (2 ^ i);have hcl := SO (S % 2 ^ i + T % 2 ^ i) hp;have hc1 : (S % 2 ^ i + T % 2 ^ i) / 2 ^ i ≤ 1 := by
  have : (S % 2 ^ i + T % 2 ^ i) / 2 ^ i < 2 := by rw [TO hp]; omega
  omega
 have e1 : (S + T) / 2 ^ i = S / 2 ^ i + T / 2 ^ i + (S % 2 ^ i + T % 2 ^ i) / 2 ^ i := by
  have : S + T = (S % 2 ^ i + T % 2 ^ i) % 2 ^ i + 2 ^ i * (S / 2 ^ i + T / 2 ^ i + (S % 2 ^ i + T % 2 ^ i) / 2 ^ i) := by
   rw [Te, Te]; omega
  conv => lhs; rw [this]
  rw [TE _ _ hp, Tj hcl, SM]
 refine ⟨by rw [e1]; omega, ?_, hc1⟩;rw [hS2, hT2];have e2 : S % 2 ^ i + 2 ^ i * (S / 2 ^ i % 2) + (T % 2 ^ i + 2 ^ i * (T / 2 ^ i % 2)) = (S % 2 ^ i + T % 2 ^ i) % 2 ^ i + 2 ^ i * (S / 2 ^ i % 2 + (S % 2 ^ i + T % 2 ^ i) / 2 ^ i + T / 2 ^ i % 2) := by
  rw [Te, Te]; omega
 rw [e2, Ta, ← T2, TE _ _ hp, Tj hcl, SM]
theorem M5 (Y up i : Nat) : Y * 2 ^ up / 2 ^ i % 2 = if up ≤ i then Y / 2 ^ (i - up) % 2 else 0 := by
 split
 ·rename_i h;have e : 2 ^ i = 2 ^ up * 2 ^ (i - up) := by rw [← SL]; congr 1; omega
  rw [e, ← T2, Nat.mul_div_cancel _ (SV Sd)]
 ·rename_i h;have e : 2 ^ up = 2 ^ i * 2 * 2 ^ (up - i - 1) := by rw [← Ta, ← SL]; congr 1; omega
  have e2 : Y * 2 ^ up = 2 ^ i * (2 * (Y * 2 ^ (up - i - 1))) := by rw [e]; simp only [Ti, Vn]
  rw [e2, Nat.mul_div_cancel_left _ (SV Sd)];omega
theorem Lh {K i : Nat} (h : i < K) : (bI 2 i N ++ List.replicate (K - i) 0).set i (N / 2 ^ i % 2) = bI 2 (i + 1) N ++ List.replicate (K - (i + 1)) 0 := by
 rw [show K - i = (K - (i + 1)) + 1 by omega, UC, Un _ _ (by rw [aJ]; omega), aJ, Td, Sy, kO];simp
theorem yt (A B : Option Addr) (n c m c' up : Nat) (xs ys : List Nat) (w : World) (hx : Sl w A n 1 (gl xs)) (hy : Sl w B m 1 (gl ys)) (hdx : Dg 2 xs) (hdy : Dg 2 ys) (hn : n ≤ 100000000000) (hm : m ≤ 100000000000) (hup : up ≤ 100000000000) :
  Calls Tryz.prog 240 #[.slice A n c, .slice B m c', .int .i64 (up : Int)] w fun e w' => ∃ b, e = .returned (.slice (some ⟨b, 0, none⟩) (max n (m + up) + 1) (max n (m + up) + 1)) ∧ w'.ownsRow w.heap.size 5 1 (.slice (some ⟨b, 0, none⟩) (max n (m + up) + 1) (max n (m + up) + 1)) (max n (m + up) + 1) (gl (bI 2 (max n (m + up) + 1) (bk 2 xs + bk 2 ys * 2 ^ up))) ∧ Below w.heap.size w w' := by
 have hlx := hx.1;have hly := hy.1;rw [cz] at hlx hly;have hh := Hp.start w;have e1 : (if ((m : Int) + (up : Int)) > (n : Int) then ((m : Int) + (up : Int)) else (n : Int)) + 1 = ((max n (m + up) + 1 : Nat) : Int) := by split <;> omega
 have hand : ∀ z : Nat, z &&& 1 = z % 2 := fun z => Nat.and_one_is_mod z;refine aj (N := 49) (l := [.slice A n c, .slice B m c', .int .i64 (up : Int)]) Tryz.func240 rfl rfl (by simp) ?_;refine sr (aL (aa (sr (mL (aK (mL (aK (mI ?_))))))));refine a9 ?_;refine kI rfl rfl Se ?_;refine a9 ?_;rw [e1];generalize hK : max n (m + up) + 1 = K at *;refine gD (n := K) hh rfl rfl Sd Sd bq.out aP.out rfl Sd Sd Se ?_;intro b19 w19 hh;refine aL (aa (sr (aI (aa (ah (sr (aI (aa (ao ?_)))))))));rw [o4] at hh;refine bP [8, 9, 10, 20, 21, 22, 23, 24, 25, 26, 27, 28, 29, 30, 31, 32, 33, 34, 35, 36, 37, 38, 39, 40, 41, 42, 43, 44, 45, 46, 47] 8 9
  (fun cr v w' => ∃ i : Nat, i ≤ K ∧ v = .int .i64 (i : Int) ∧ cr = .int .u8 (((bk 2 xs % 2 ^ i + bk 2 ys * 2 ^ up % 2 ^ i) / 2 ^ i : Nat) : Int) ∧ Hp w [.row (some ⟨b19, 0, none⟩) K K 5 1 (gl (bI 2 i (bk 2 xs + bk 2 ys * 2 ^ up) ++ List.replicate (K - i) 0))] w')
  (fun _ v _ => K - (intOf v).toNat) ?_ ?_
 ·exact ⟨0, Sn _, rfl, by simp [Nat.mod_one]; rfl, hh⟩
 ·clear hh;rintro ρ' cr v w' ⟨i, hi, rfl, rfl, hh⟩;by_cases hlt : i < K
  ·obtain ⟨b1, b2, b3⟩ := KP (bk 2 xs) (bk 2 ys * 2 ^ up) i;have hbu := M5 (bk 2 ys) up i;have hxb : bk 2 xs / 2 ^ i % 2 < 2 := SO _ Sd;have hyb : bk 2 ys / 2 ^ (i - up) % 2 < 2 := SO _ Sd;have hll : (gl (bI 2 i (bk 2 xs + bk 2 ys * 2 ^ up) ++ List.replicate (K - i) 0)).length = K := by rw [cz, Sr, aJ, TP]; omega
   have hfk := Lh (N := bk 2 xs + bk 2 ys * 2 ^ up) hlt;generalize hC : (bk 2 xs % 2 ^ i + bk 2 ys * 2 ^ up % 2 ^ i) / 2 ^ i = C at *;generalize hX : bk 2 xs / 2 ^ i % 2 = X at *;refine ah (sr (mI (mL (aK ?_))));refine tH ?_;refine br hh (iP A n c i xs _ (hx.ext hh.below) hdx Sd Sd) rfl ?_;intro w28 hh;rw [hX];by_cases hiu : up ≤ i
   ·rw [Sj hiu] at hbu;rw [hbu] at b1 b2;generalize hY : bk 2 ys / 2 ^ (i - up) % 2 = Y at *;have es : ((X + C) % 256 + Y) % 256 = X + C + Y := Sd;have ei : (i : Int) - (up : Int) = ((i - up : Nat) : Int) := Sd;refine mI ?_;refine il rfl rfl Se ?_;refine aI (aa (ah (sr (mI (mI ?_)))));refine ee (aa (cT (al (mI (mL (mI (mI ?_)))))));refine eu ?_;rw [ei];refine br hh (iP B m c' (i - up) ys _ (hy.ext hh.below) hdy Sd Sd) rfl ?_;intro w39 hh;rw [hY];refine il rfl rfl Se ?_;refine aI (aa (sr (mL (mI (mI ?_)))));exact KZ
   ·rw [Si hiu] at hbu;rw [hbu] at b1 b2;have es : (X + C) % 256 = X + C + 0 := Sd;refine mI ?_;refine il rfl rfl Se ?_;refine aI (aa (ah (sr (mI (mI ?_)))));refine ee (aa (cF (aq (ai (sr (mL (mI (mI ?_))))))));exact KZ
  ·obtain rfl : i = K := Sd;exact PE
theorem Jk {X Y : Nat} (h : Y ≤ X) (i : Nat) : ((2 + X / 2 ^ i % 2 + 256 - Y / 2 ^ i % 2) % 256 + 256 - (if X % 2 ^ i < Y % 2 ^ i then 1 else 0)) % 256 % 2 = (X - Y) / 2 ^ i % 2 ∧
  (1 + 256 - ((2 + X / 2 ^ i % 2 + 256 - Y / 2 ^ i % 2) % 256 + 256 - (if X % 2 ^ i < Y % 2 ^ i then 1 else 0)) % 256 / 2) % 256 = (if X % 2 ^ (i + 1) < Y % 2 ^ (i + 1) then 1 else 0) := by
 have hX := TY X (2 ^ i);have hY := TY Y (2 ^ i);have hp : 0 < 2 ^ i := SV Sd;have hX2 : X % 2 ^ (i + 1) = X % 2 ^ i + 2 ^ i * (X / 2 ^ i % 2) := by rw [Ta, Nat.mod_mul]
 have hY2 : Y % 2 ^ (i + 1) = Y % 2 ^ i + 2 ^ i * (Y / 2 ^ i % 2) := by rw [Ta, Nat.mod_mul]
 have hXl := SO X hp;have hYl := SO Y hp;rw [hX2, hY2];generalize hx1 : X / 2 ^ i = x1 at *;generalize hy1 : Y / 2 ^ i = y1 at *;generalize hx0 : X % 2 ^ i = x0 at *;generalize hy0 : Y % 2 ^ i = y0 at *;have key : ∀ b : Nat, b = (if x0 < y0 then 1 else 0) → (X - Y) / 2 ^ i = x1 - y1 - b ∧ y1 + b ≤ x1 := by
  intro b hb;have hle : y1 + b ≤ x1 := by
   refine Nat.le_of_not_lt fun hlt => ?_;have h1 : 2 ^ i * (x1 + 1) ≤ 2 ^ i * (y1 + b) := SX _ hlt;rw [Te, Te] at h1;split at hb
   ·subst hb; omega
   ·subst hb; omega
  refine ⟨?_, hle⟩;have e : X - Y = (x0 + 2 ^ i * b - y0) + 2 ^ i * (x1 - y1 - b) := by
   have h2 : 2 ^ i * (x1 - y1 - b) = 2 ^ i * x1 - 2 ^ i * y1 - 2 ^ i * b := by rw [Nat.mul_sub, Nat.mul_sub]
   have h3 : 2 ^ i * (y1 + b) ≤ 2 ^ i * x1 := SX _ hle;rw [Te] at h3;split at hb
   ·subst hb; omega
   ·subst hb; omega
  rw [e, TE _ _ hp, Tj, SM];split at hb
  ·subst hb; omega
  ·subst hb; omega
 obtain ⟨k1, k2⟩ := key _ rfl;rw [k1];have hlt : (x0 + 2 ^ i * (x1 % 2) < y0 + 2 ^ i * (y1 % 2)) ↔ (x1 % 2 < y1 % 2 ∨ x1 % 2 = y1 % 2 ∧ x0 < y0) := by
  rcases Nat.mod_two_eq_zero_or_one x1 with h1 | h1 <;> rcases Nat.mod_two_eq_zero_or_one y1 with h2 | h2 <;> rw [h1, h2] <;> omega
 by_cases hb : x0 < y0
 ·rw [Sj hb] at k2 ⊢;exact N2
 ·rw [Si hb] at k2 ⊢;exact N2
theorem pr (A B : Option Addr) (n c m c' : Nat) (xs ys : List Nat) (w : World) (hx : Sl w A n 1 (gl xs)) (hy : Sl w B m 1 (gl ys)) (hdx : Dg 2 xs) (hdy : Dg 2 ys) (hn : n ≤ 100000000000) (hm : m ≤ 100000000000) (hle : bk 2 ys ≤ bk 2 xs) :
  Calls Tryz.prog 242 #[.slice A n c, .slice B m c'] w fun e w' => ∃ b, e = .returned (.slice (some ⟨b, 0, none⟩) n n) ∧ w'.ownsRow w.heap.size 5 1 (.slice (some ⟨b, 0, none⟩) n n) n (gl (bI 2 n (bk 2 xs - bk 2 ys))) ∧ Below w.heap.size w w' := by
 have hlx := hx.1;have hly := hy.1;rw [cz] at hlx hly;have hh := Hp.start w;have hand : ∀ z : Nat, z &&& 1 = z % 2 := fun z => Nat.and_one_is_mod z;refine aj (N := 37) (l := [.slice A n c, .slice B m c']) Tryz.func242 rfl rfl (by simp) ?_;refine sr (aL (aa (sr (mL (aK ?_)))));refine Dz ?_;intro b11 w11 hh;refine aL (aa (sr (aI (aa (ah (sr (aI (aa (ao ?_)))))))));rw [o4] at hh;refine bP [6, 7, 8, 12, 13, 14, 15, 16, 17, 18, 19, 20, 21, 22, 23, 24, 25, 26, 27, 28, 29, 30, 31, 32, 33, 34, 35] 6 7
  (fun cr v w' => ∃ i : Nat, i ≤ n ∧ v = .int .i64 (i : Int) ∧ cr = .int .u8 ((if bk 2 xs % 2 ^ i < bk 2 ys % 2 ^ i then 1 else 0 : Nat) : Int) ∧ Hp w [.row (some ⟨b11, 0, none⟩) n n 5 1 (gl (bI 2 i (bk 2 xs - bk 2 ys) ++ List.replicate (n - i) 0))] w')
  (fun _ v _ => n - (intOf v).toNat) ?_ ?_
 ·exact ⟨0, Sn _, rfl, by simp [Nat.mod_one]; rfl, hh⟩
 ·clear hh;rintro ρ' cr v w' ⟨i, hi, rfl, rfl, hh⟩;by_cases hlt : i < n
  ·obtain ⟨b1, b2⟩ := Jk hle i;have hxb : bk 2 xs / 2 ^ i % 2 < 2 := SO _ Sd;have hyb : bk 2 ys / 2 ^ i % 2 < 2 := SO _ Sd;have hcb : (if bk 2 xs % 2 ^ i < bk 2 ys % 2 ^ i then 1 else 0 : Nat) ≤ 1 := by split <;> omega
   have hll : (gl (bI 2 i (bk 2 xs - bk 2 ys) ++ List.replicate (n - i) 0)).length = n := by rw [cz, Sr, aJ, TP]; omega
   have hfk := Lh (N := bk 2 xs - bk 2 ys) hlt;refine ah (sr (mI (mL (aK ?_))));refine tH ?_;refine br hh (iP A n c i xs _ (hx.ext hh.below) hdx Sd Sd) rfl ?_;intro w20 hh;refine il (a := 2) rfl rfl Se ?_;refine mL (mI ?_);refine br hh (iP B m c' i ys _ (hy.ext hh.below) hdy Sd Sd) rfl ?_;intro w24 hh;generalize hC : (if bk 2 xs % 2 ^ i < bk 2 ys % 2 ^ i then 1 else 0 : Nat) = C at *;generalize hX : bk 2 xs / 2 ^ i % 2 = X at *;generalize hY : bk 2 ys / 2 ^ i % 2 = Y at *;have es : ((2 + X) % 256 + 256 - Y) % 256 = (2 + X + 256 - Y) % 256 := Sd;have hS : ((2 + X + 256 - Y) % 256 + 256 - C) % 256 < 256 := SO _ Sd;refine As rfl rfl Sd Se ?_;refine mI ?_;rw [es];refine As rfl rfl Sd Se ?_;refine aI (aa (sr (mL (mI (mI ?_)))));refine Ip ?_;refine gj ?_;refine He ?_;intro ws hh;simp only [Sy] at hh;rw [hand, b1, SI, cB (by rw [hll]; omega), oM, hfk] at hh;refine aa (al (mI ?_));refine lg (s := 1) (m := 2) rfl rfl Se Se Se ?_;refine As (a := 1) rfl rfl Sd Se ?_;refine aI (az (bg (ai (al (mI ?_)))));refine a9 (aI (az (ai ?_)));refine ⟨⟨i + 1, Sd, rfl, by rw [← b2]; rfl, hh⟩, by show n - (i + 1) < n - i; omega, ?_⟩;exact eB
  ·obtain rfl : i = n := Sd;exact PE
theorem vF (n : Nat) (w : World) (hn : n < 18446744073709551616) :
  Calls Tryz.prog 211 #[.int .u64 (n : Int)] w fun e w' => e = .returned (.string (sN n)) ∧ Below w.heap.size w w' := by
 have hh := Hp.start w;refine aj (N := 16) (l := [.int .u64 (n : Int)]) Tryz.func211 rfl rfl (by simp) ?_;refine sr (aS (aa (sr (aL (aa (ah (ao ?_)))))));replace hh := hh.dL 5 1;refine bP [0, 3, 4, 5, 6, 7, 8, 9, 10, 11, 12, 13] 0 3
  (fun v o w' => ∃ (k m : Nat) (A : Option Addr) (c : Nat), v = .int .u64 (m : Int) ∧ m < 18446744073709551616 ∧ k ≤ 64 ∧ m < 2 ^ (64 - k) ∧ o = .slice A k c ∧ m = n / 2 ^ k ∧ Hp w [.row A k c 5 1 (gl (bI 2 k n))] w')
  (fun v _ _ => (intOf v).toNat) ?_ ?_
 ·exact ⟨0, n, none, 0, rfl, hn, Sd, by simpa using hn, rfl, by simp, hh⟩
 ·clear hh;rintro ρ' v o w' ⟨k, m, A, c, rfl, hm, hk, hmk, rfl, hmn, hh⟩;by_cases h0 : m = 0
  ·subst h0;refine ah (sr (mI ?_));refine cg (aa (cF (aV (aE (aE (bo (ai (sr (mL ?_)))))))));refine br hh (gY _ _ _ (bI 2 k n) _ (hh.aD (i := 0) rfl) (fT Sd _ _) (hh.fI (i := 0) rfl) Sd) rfl ?_;intro w15 hh;have hlt : n < 2 ^ k := by
    have := TY n (2 ^ k);have h2 := SO n (SV (n := k) (show 0 < 2 by omega));rw [← hmn] at this;omega
   rw [cU hlt];exact EF
  ·have hk64 : k < 64 := by
    refine U6 fun h => ?_;rw [show 64 - k = 0 by omega] at hmk;omega
   have hm2 : m % 2 < 256 := Sd;refine ah (sr (mI ?_));refine cg (aa (cT (aq (ai (ah (ao (al (mL (mI ?_)))))))));refine Bi (b := 2) rfl rfl Sd Se ?_;refine lR ?_;refine qI ?_;intro b12 w12 hh;refine qp ?_;intro A13 c13 w13 hh;simp only [Sy, Tb] at hh;replace hh := hh.sub (Th _ _);refine aL (az (bg (ai (al (mI ?_)))));refine L9 (b := 2) rfl rfl Sd (by first | assumption | omega) Se ?_;refine aI (az (ai ?_));have e1 : gl (bI 2 k n) ++ [Value.int .u8 ((m % 2 : Nat) : Int)] = gl (bI 2 (k + 1) n) := by
    rw [hmn, kO, tE]; rfl
   rw [e1] at hh;refine ⟨⟨k + 1, m / 2, A13, c13, rfl, Sd, Sd, ?_, rfl, ?_, hh⟩, by show (((m / 2 : Nat) : Int)).toNat < ((m : Int)).toNat; omega, ?_⟩
   ·rw [show 64 - k = (64 - (k + 1)) + 1 by omega, Ta] at hmk;omega
   ·rw [hmn, T2, Ta]
   ·exact eB
theorem jg (a : ByteArray) : (aQ 2 (bN a)).length ≤ 8 * a.size := gC a
theorem kR (n : Nat) : Dg 2 (aQ 2 n) := (dI Sd n).1
theorem hQ (n : Nat) : bk 2 (aQ 2 n) = n := dJ Sd n
theorem sl (a b : ByteArray) (w : World) (ha : a.size ≤ 1000000000) (hb : b.size ≤ 1000000000) :
  Calls Tryz.prog 241 #[.string a, .string b] w fun e w' => e = .returned (.int .i64 (kF (bN a) (bN b))) ∧ Below w.heap.size w w' := by
 have hh := Hp.start w;have h1 := jg a;have h2 := jg b;refine aj (N := 10) (l := [.string a, .string b]) Tryz.func241 rfl rfl (by simp) ?_;refine sr (aI (aa (sr (mS ?_))));refine BP ?_;rintro e_ w6 ⟨A6, c6, rfl, hown_, hb_⟩;refine ⟨_, rfl, ?_⟩;replace hh := hh.aO (x := .row _ _ _ _ _ _) hb_ hown_;refine mS ?_;refine aC (eQ b _ hb) ak.out rfl Se ?_;rintro e_ w8 ⟨A8, c8, rfl, hown_, hb_⟩;refine ⟨_, rfl, ?_⟩;replace hh := hh.aO (x := .row _ _ _ _ _ _) hb_ hown_;refine br hh (ml _ _ _ _ _ _ (aQ 2 (bN a)) (aQ 2 (bN b)) _ (hh.aD (i := 1) rfl) (hh.aD (i := 0) rfl) (kR _) (kR _) Sd Sd) rfl ?_;intro w9 hh;rw [hQ, hQ];exact zh
theorem nF (a : ByteArray) (w : World) (ha : a.size ≤ 1000000000) :
  Calls Tryz.prog 239 #[.string a] w fun e w' => e = .returned (.int .i64 (bu (bN a))) ∧ Below w.heap.size w w' := by
 have hh := Hp.start w;refine aj (N := 6) (l := [.string a]) Tryz.func239 rfl rfl (by simp) ?_;refine sr (aI (aa (sr (mS ?_))));refine BP ?_;rintro e_ w4 ⟨A4, c4, rfl, hown_, hb_⟩;refine ⟨_, rfl, ?_⟩;replace hh := hh.aO (x := .row _ _ _ _ _ _) hb_ hown_;refine aK (aI (aa (au ?_)));refine da ?_;exact ⟨rfl, hh.below⟩
theorem nT (a b : ByteArray) (w : World) (ha : a.size ≤ 1000000000) (hb : b.size ≤ 1000000000) :
  Calls Tryz.prog 216 #[.string a, .string b] w fun e w' => e = .returned (.tuple #[.string (sN (bN a - bN b)), .bool (decide (bN b ≤ bN a))]) ∧ Below w.heap.size w w' := by
 have hh := Hp.start w;have h1 := jg a;have h2 := jg b;by_cases hlt : bN a < bN b
 ·refine aj (N := 16) (l := [.string a, .string b]) Tryz.func216 rfl rfl (by simp) ?_;refine sr (aS (aB (aa (ah (sr (mS (mS ?_)))))));refine br hh (sl a b _ ha hb) rfl ?_;intro w8 hh;rw [k8 hlt];exact ON
 ·have hc : ¬ kF (bN a) (bN b) < 0 := by unfold kF; split <;> (try split) <;> omega
  have hbl : bN a - bN b < 2 ^ (aQ 2 (bN a)).length := Tk (Nat.sub_le _ _) (cW (bN a));refine aj (N := 16) (l := [.string a, .string b]) Tryz.func216 rfl rfl (by simp) ?_;refine sr (aS (aB (aa (ah (sr (mS (mS ?_)))))));refine br hh (sl a b _ ha hb) rfl ?_;intro w8 hh;refine a6 (aa (cF (aq (ai (sr (mS ?_))))));refine BP ?_;rintro e_ w11 ⟨A11, c11, rfl, hown_, hb_⟩;refine ⟨_, rfl, ?_⟩;replace hh := hh.aO (x := .row _ _ _ _ _ _) hb_ hown_;refine mS ?_;refine aC (eQ b _ hb) ak.out rfl Se ?_;rintro e_ w13 ⟨A13, c13, rfl, hown_, hb_⟩;refine ⟨_, rfl, ?_⟩;replace hh := hh.aO (x := .row _ _ _ _ _ _) hb_ hown_;refine aC (pr _ _ _ _ _ _ (aQ 2 (bN a)) (aQ 2 (bN b)) _ (hh.aD (i := 1) rfl) (hh.aD (i := 0) rfl) (kR _) (kR _) Sd Sd (by rw [hQ, hQ]; omega)) ak.out rfl Se ?_;rintro e_ w_ ⟨b14, rfl, hown_, hb_⟩;refine ⟨_, rfl, ?_⟩;replace hh := hh.aO (x := .row _ _ _ _ _ _) hb_ hown_;rw [hQ, hQ] at hh;refine br hh (gY _ _ _ (bI 2 (aQ 2 (bN a)).length (bN a - bN b)) _ (hh.aD (i := 0) rfl) (fT Sd _ _) (So _) Sd) rfl ?_;intro w15 hh;rw [cU hbl];exact OR
theorem AZ (L : Option Addr) (n c : Nat) (ss : List ByteArray) (w : World) (hS : Sl w L n 1 (yn ss)) (hn : n ≤ 1000000) (hs : ∀ s ∈ ss, s.size ≤ 1000000000) :
  Calls Tryz.prog 215 #[.slice L n c] w fun e w' => e = .returned (.string (sN (ss.map bN).sum)) ∧ Below w.heap.size w w' := by
 have hsl : ss.length = n := by have := hS.1; rw [qB] at this; omega
 have hh := Hp.start w;refine aj (N := 20) (l := [.slice L n c]) Tryz.func215 rfl rfl (by simp) ?_;refine sr (aS (aa (sr (aL (aa (ah (sr (aI (aa (ao ?_))))))))));replace hh := hh.dL 5 1;refine bP [3, 4, 5, 6, 7, 8, 9, 10, 11, 12, 13, 14, 15, 16, 17] 3 4
  (fun v j w' => ∃ (i : Nat) (A : Option Addr) (c' T K : Nat), i ≤ n ∧ j = .int .i64 i ∧ T = ((ss.take i).map bN).sum ∧ v = .slice A K c' ∧ K ≤ 8000000000 + i ∧ T < 2 ^ K ∧ Hp w [.row A K c' 5 1 (gl (bI 2 K T))] w')
  (fun _ j _ => n - (intOf j).toNat) ?_ ?_
 ·exact ⟨0, none, 0, 0, 0, Sn _, rfl, rfl, rfl, Sd, by simp, hh⟩
 ·clear hh;rintro ρ' v j w' ⟨i, A, c', T, K, hi, rfl, hT, rfl, hTl, hTb, hh⟩;by_cases hlt : i < n
  ·obtain ⟨s, hsi⟩ := av (l := ss) (k := i) Sd;obtain ⟨ad, rfl, hr⟩ := hS.at_ Sd;have hs2 := CY hsi;have hsz := hs s (Sp hsi);have hlx := jg s;have hT2 : ((ss.take (i + 1)).map bN).sum = T + bN s := by rw [ay hsi, Tt, UO, pS, hT]
   have hbs : bN s < 2 ^ (aQ 2 (bN s)).length := cW _;have hb2 : T + bN s < 2 ^ (max K ((aQ 2 (bN s)).length + 0) + 1) := by
    have h1 : 2 ^ K ≤ 2 ^ max K ((aQ 2 (bN s)).length + 0) := S4 Sd Sd;have h2 : 2 ^ (aQ 2 (bN s)).length ≤ 2 ^ max K ((aQ 2 (bN s)).length + 0) := S4 Sd Sd;rw [Ta]; omega
   refine ah (sr (mI (mL (aK ?_))));refine a6 (aa (cT (aq (ai (ah (ao (al (mL (mL (mI ?_))))))))));refine bX ?_;refine iy ?_;refine aC (eQ s _ hsz) ak.out rfl Se ?_;rintro e_ w16 ⟨A16, c16, rfl, hown_, hb_⟩;refine ⟨_, rfl, ?_⟩;replace hh := hh.aO (x := .row _ _ _ _ _ _) hb_ hown_;refine aC (yt _ _ _ _ _ _ 0 (bI 2 K T) (aQ 2 (bN s)) _ (hh.aD (i := 1) rfl) (hh.aD (i := 0) rfl) (fT Sd _ _) (kR _) Sd Sd Sd) ak.out rfl Se ?_;rintro e_ w_ ⟨b17, rfl, hown_, hb_⟩;refine ⟨_, rfl, ?_⟩;rw [hQ, cU hTb, UP, SI] at hown_;replace hh := (hh.aO (x := .row _ _ _ _ _ _) hb_ hown_).sub (Vu [_] _);refine aL (az (bg (ai (al (mI ?_)))));refine a9 (aI (az (ai ?_)));refine ⟨⟨i + 1, _, _, T + bN s, _, Sd, rfl, hT2.symm, rfl, Sd, hb2, hh⟩, by show n - (i + 1) < n - i; omega, ?_⟩;exact eB
  ·refine ah (sr (mI (mL (aK ?_))));refine a6 (aa (cF (aV (aE (aE (bo (ai (sr (mL ?_)))))))));refine br hh (gY _ _ _ (bI 2 K T) _ (hh.aD (i := 0) rfl) (fT Sd _ _) (hh.fI (i := 0) rfl) Sd) rfl ?_;intro w19 hh;rw [cU hTb];exact PF
theorem Hi (X Y k : Nat) (hY : 0 < Y) : X / 2 ^ k % Y = (if Y ≤ X / 2 ^ k % 2 + 2 * (X / 2 ^ (k + 1) % Y) then X / 2 ^ k % 2 + 2 * (X / 2 ^ (k + 1) % Y) - Y else X / 2 ^ k % 2 + 2 * (X / 2 ^ (k + 1) % Y)) ∧
  X / 2 ^ k / Y % 2 = (if Y ≤ X / 2 ^ k % 2 + 2 * (X / 2 ^ (k + 1) % Y) then 1 else 0) ∧ X / 2 ^ k / Y / 2 = X / 2 ^ (k + 1) / Y := by
 have h1 := lG X k;have hb : X / 2 ^ k % 2 < 2 := SO _ Sd;generalize X / 2 ^ k % 2 = b at *;generalize X / 2 ^ k = Z at *;generalize X / 2 ^ (k + 1) = V at *;have h2 := TY V Y;have h3 := SO V hY;generalize V / Y = q at *;generalize V % Y = r at *;have e : Z = (b + 2 * r) + Y * (2 * q) := by rw [h1, ← h2, Te, Vn]; omega
 rw [e, T9, TE _ _ hY];by_cases hc : Y ≤ b + 2 * r
 ·rw [Sj hc, Sj hc];have e2 : b + 2 * r = (b + 2 * r - Y) + Y * 1 := Sd;have h4 : b + 2 * r - Y < Y := Sd;have h5 : (b + 2 * r) / Y = 1 := by rw [e2, TE _ _ hY, Tj h4]
  have h6 : (b + 2 * r) % Y = b + 2 * r - Y := by conv => lhs; rw [e2, T9, SY h4]
  rw [h5, h6];omega
 ·rw [Si hc, Si hc, SY Sd, Tj Sd];omega
theorem nS (a b : ByteArray) (w : World) (ha : a.size ≤ 1000000000) (hb : b.size ≤ 1000000000) (hb0 : bN b ≠ 0) :
  Calls Tryz.prog 238 #[.string a, .string b] w fun e w' => e = .returned (.tuple #[.string (sN (bN a / bN b)), .string (sN (bN a % bN b)), .bool true]) ∧ Below w.heap.size w w' := by
 have hh := Hp.start w;have h1 := jg a;have h2 := jg b;have hX := hQ (bN a);have hXd := kR (bN a);have hXl : bN a < 2 ^ (aQ 2 (bN a)).length := cW _;have hYp : 0 < (aQ 2 (bN b)).length := od hb0;have hget : ∀ k, k < (aQ 2 (bN a)).length → (aQ 2 (bN a))[k]? = some (bN a / 2 ^ k % 2) := fun k hk => yc Sd hk;refine aj (N := 52) (l := [.string a, .string b]) Tryz.func238 rfl rfl (by simp) ?_;refine sr (aS (aS (aB (aa (sr (mS ?_))))));refine BP ?_;rintro e_ w13 ⟨A13, c13, rfl, hown_, hb_⟩;refine ⟨_, rfl, ?_⟩;replace hh := hh.aO (x := .row _ _ _ _ _ _) hb_ hown_;refine mS ?_;refine aC (eQ b _ hb) ak.out rfl Se ?_;rintro e_ w15 ⟨A15, c15, rfl, hown_, hb_⟩;refine ⟨_, rfl, ?_⟩;replace hh := hh.aO (x := .row _ _ _ _ _ _) hb_ hown_;refine aL (aL (aa (ah (sr (mL (aK ?_))))));refine cH (aa (cF (aq (ai (sr (mL (aK ?_)))))));refine gD hh rfl rfl rfl rfl bq.out aP.out rfl Sd Sd Se ?_;intro b21 w21 hh;refine aL (aa (sr (aL (aa (ah (sr (mL (aK ?_))))))));refine eu (aI (aa (ao ?_)));rw [o4] at hh;generalize hxs : aQ 2 (bN a) = xs at *;replace hh := hh.dL 5 1;refine bP [10, 11, 25, 26, 27, 28, 29, 30, 31, 32, 33, 34, 35, 36, 37, 38, 39, 40, 41, 42, 43, 44, 45, 46, 47] 10 11
  (fun v j w' => ∃ (k : Nat) (A : Option Addr) (c' : Nat), k ≤ xs.length ∧ j = .int .i64 ((k : Int) - 1) ∧ v = .slice A (aQ 2 (bN a / 2 ^ k % bN b)).length c' ∧ Hp w [.row A (aQ 2 (bN a / 2 ^ k % bN b)).length c' 5 1 (gl (aQ 2 (bN a / 2 ^ k % bN b))), .row (some ⟨b21, 0, none⟩) xs.length xs.length 5 1 (gl (List.replicate k 0 ++ bI 2 (xs.length - k) (bN a / 2 ^ k / bN b))), .row A15 (aQ 2 (bN b)).length c15 5 1 (gl (aQ 2 (bN b))), .row A13 xs.length c13 5 1 (gl xs)] w')
  (fun _ j _ => (intOf j + 1).toNat) ?_ ?_
 ·refine ⟨xs.length, none, 0, So _, rfl, ?_, ?_⟩
  ·rw [Tj hXl, Nat.zero_mod, fQ Sd]; rfl
  ·rw [Tj hXl, Nat.zero_mod, fQ Sd, Td]; simp only [bI, S3]; exact hh
 ·clear hh;rintro ρ' v j w' ⟨k, A, c', hk, rfl, rfl, hh⟩;by_cases h0 : k = 0
  ·subst h0;rw [UP, Nat.div_one, Nat.sub_zero, Vg, Ss] at hh;rw [UP, Nat.div_one];have hq : bN a / bN b < 2 ^ xs.length := Tk (UB _ _) hXl;have hrl : (aQ 2 (bN a % bN b)).length ≤ (aQ 2 (bN b)).length := nu Sd (Nat.le_of_lt (SO _ Sd));refine ah (sr (mI ?_));refine ee (aa (cF (aV (aE (aE (bo (ai (sr (mL ?_)))))))));refine br hh (gY _ _ _ (bI 2 xs.length (bN a / bN b)) _ (hh.aD (i := 1) rfl) (fT Sd _ _) (So _) Sd) rfl ?_;intro w49 hh;rw [cU hq];refine mL ?_;refine br hh (gY _ _ _ (aQ 2 (bN a % bN b)) _ (hh.aD (i := 0) rfl) (kR _) (hh.fI (i := 0) rfl) Sd) rfl ?_;intro w51 hh;rw [hQ];refine aS (aS (aB (aa (au ?_))));refine Qu ?_;exact ⟨rfl, hh.below⟩
  ·obtain ⟨i, rfl⟩ : ∃ i, k = i + 1 := ⟨k - 1, Sd⟩;have hji : ((i + 1 : Nat) : Int) - 1 = (i : Int) := Sd;obtain ⟨d1, d2, d3⟩ := Hi (bN a) (bN b) i Sd;have hgi := qd (hget i Sd);have hdw : bN a / 2 ^ i % 2 < 2 := SO _ Sd;have hrl : (aQ 2 (bN a / 2 ^ (i + 1) % bN b)).length ≤ (aQ 2 (bN b)).length := nu Sd (Nat.le_of_lt (SO _ Sd));have hqk : bI 2 (xs.length - i) (bN a / 2 ^ i / bN b) = (bN a / 2 ^ i / bN b % 2) :: bI 2 (xs.length - (i + 1)) (bN a / 2 ^ (i + 1) / bN b) := by
    rw [show xs.length - i = (xs.length - (i + 1)) + 1 by omega, bI, d3]
   rw [hji];obtain ⟨g, rfl⟩ := hh.cD (i := 3) rfl Sd;refine ah (sr (mI ?_));refine ee (aa (cT (aq (ai (ah (ao (sr (mL (mI ?_)))))))));refine gj ?_;refine cv aP.out rfl (hh.gk (i := 3) rfl (by first | assumption | (simp only [SI]; assumption))) Se ?_;refine qI ?_;intro b33 w33 hh;refine mL ?_;refine cR hh (i := 0) rfl rfl rfl (hh.aD (i := 1) rfl) bq.out aP.out rfl Se (by first | rfl | exact ez _ | exact du _ | exact bU _ | exact cw NR.one _) Sd Sd Se ?_;intro A35 c35 w35 hh;simp only [Sy] at hh;have e35 : [Value.int .u8 ((bN a / 2 ^ i % 2 : Nat) : Int)] ++ gl (aQ 2 (bN a / 2 ^ (i + 1) % bN b)) = gl ((bN a / 2 ^ i % 2) :: aQ 2 (bN a / 2 ^ (i + 1) % bN b)) := rfl;rw [e35] at hh;generalize hR : bN a / 2 ^ (i + 1) % bN b = R at *;generalize hbt : bN a / 2 ^ i % 2 = bt at *;have hdg : Dg 2 (bt :: aQ 2 R) := Dg.cons hdw (kR _);have hcv : dH (bt :: aQ 2 R) = aQ 2 (bt + 2 * R) := by rw [gZ Sd hdg, bk, hQ]
   have hll : (bt :: aQ 2 R).length = 1 + (aQ 2 R).length := by rw [SG]; omega
   have hcl := fk (bt :: aQ 2 R);refine br hh (k0 _ _ _ (bt :: aQ 2 R) _ (hh.aD (i := 0) rfl) (hh.fI (i := 0) rfl) Sd) rfl ?_;intro w36 hh;replace hh := hh.MY hll;rw [hcv] at hh hcl;rw [hcv];refine aL (aa (sr (mL (mL ?_))));refine br hh (ml _ _ _ _ _ _ (aQ 2 (bt + 2 * R)) (aQ 2 (bN b)) _ (hh.aD (i := 0) rfl) (hh.aD (i := 3) rfl) (kR _) (kR _) Sd Sd) rfl ?_;intro w39 hh;rw [hQ, hQ];by_cases hge : bN b ≤ bt + 2 * R
   ·have hc : 0 ≤ kF (bt + 2 * R) (bN b) := by unfold kF; rw [Si Sd]; split <;> omega
    rw [Sj hge] at d1 d2;have hml : bt + 2 * R - bN b < 2 ^ (aQ 2 (bt + 2 * R)).length := Tk (Nat.sub_le _ _) (cW _);have hcm : dH (bI 2 (aQ 2 (bt + 2 * R)).length (bt + 2 * R - bN b)) = aQ 2 (bt + 2 * R - bN b) := by rw [gZ Sd (fT Sd _ _), cU hml]
    refine ee (aa (cT (sr (mL (mL ?_)))));refine aC (pr _ _ _ _ _ _ (aQ 2 (bt + 2 * R)) (aQ 2 (bN b)) _ (hh.aD (i := 0) rfl) (hh.aD (i := 3) rfl) (kR _) (kR _) Sd Sd (by rw [hQ, hQ]; exact hge)) ak.out rfl Se ?_;rintro e_ w_ ⟨b43, rfl, hown_, hb_⟩;refine ⟨_, rfl, ?_⟩;replace hh := hh.aO (x := .row _ _ _ _ _ _) hb_ hown_;rw [hQ, hQ] at hh;refine br hh (k0 _ _ _ (bI 2 (aQ 2 (bt + 2 * R)).length (bt + 2 * R - bN b)) _ (hh.aD (i := 0) rfl) (So _) Sd) rfl ?_;intro w44 hh;replace hh := hh.MY (aJ _ _);rw [hcm] at hh;rw [hcm];have hql : (gl (List.replicate (i + 1) 0 ++ bI 2 (xs.length - (i + 1)) (bN a / 2 ^ (i + 1) / bN b))).length = xs.length := by rw [cz, Sr, TP, aJ]; omega
    refine aL (aa (al (mL (mI ?_))));refine gj ?_;refine bY hh (i := 3) (vs := [_]) rfl rfl (cJ rfl) rfl aP.out rfl (by rw [hql]; omega) rfl ?_;intro ws hh;simp only [Sy, Tb] at hh;rw [SI, cB (by rw [hql]; omega)] at hh;have hset : (gl (List.replicate (i + 1) 0 ++ bI 2 (xs.length - (i + 1)) (bN a / 2 ^ (i + 1) / bN b))).set i (.int .u8 1) = gl (List.replicate i 0 ++ bI 2 (xs.length - i) (bN a / 2 ^ i / bN b)) := by
     have := oM (List.replicate (i + 1) 0 ++ bI 2 (xs.length - (i + 1)) (bN a / 2 ^ (i + 1) / bN b)) i 1;rw [hqk, d2, ← DE];exact this
    rw [hset] at hh;replace hh := hh.sub (.cons_cons _ (.cons _ (.cons _ (TJ _))));refine az (bg (ai (al (mI ?_))));refine eu (aI (az (ai ?_)));exact KY
   ·have hc : ¬ 0 ≤ kF (bt + 2 * R) (bN b) := by rw [k8 Sd]; omega
    rw [Si hge] at d1 d2;refine ee (aa (cF (aq (bg (ai (al (mI ?_)))))));refine eu (aI (az (ai ?_)));have hrep : List.replicate (i + 1) 0 ++ bI 2 (xs.length - (i + 1)) (bN a / 2 ^ (i + 1) / bN b) = List.replicate i 0 ++ bI 2 (xs.length - i) (bN a / 2 ^ i / bN b) := by
     rw [hqk, d2, List.replicate_succ', S5]; rfl
    rw [hrep] at hh;replace hh := hh.sub (.cons_cons _ (.cons _ (TJ _)));exact KY
end Go.Proofs.YteeckcbbnegmcaaGreatDoor
